/- A part of the proof. -/
import Derived.Test.YtmgaeedkcecckaaGreatDoorRH
import Derived.Test.YtmgaeedkcecckaaGreatDoorRows
import Derived.Test.YtmgaeedkcecckaaGreatDoorChecked
import Derived.WalkKit
import Derived.ProofKit
import Derived.ChangeOld
import Derived.LaidMore
import Derived.Lay
import Derived.SevenTiedAt
import Derived.Stop.Joined
import Derived.Test.YtmgaeedkcecckaaGreatDoorCards
import Derived.Test.YtmgaeedkcecckaaGreatDoorTie
set_option linter.unusedSimpArgs false
set_option linter.unusedVariables false
set_option linter.unusedSectionVars false
set_option maxRecDepth 100000
set_option maxHeartbeats 4000000
open List (length_map length_singleton getElem_mem replicate range length_append nil_append length_take mem_cons cons_append map_append mem_cons_self mem_cons_of_mem length_nil length_drop map_map take_length append_assoc length_cons filter_append not_mem_nil)
namespace Go.Proofs.Q
open Go.Proofs.Tryz
open Go.Eng Go.RowKit
section
open Go.Lin Go.Wd Go.Sm Go.Ch
def ceR(h:Hp)(r:Value)(c:Cl):Prop:=∃v,r=.agg (cC ⟨c,v⟩).toArray/\RdL cD 2 h [] v c.sd
theorem LC(i a b:Int)(h:Hp):FnT Tryz.prog 77 #[.int .i64 i,.int .i64 a,.int .i64 b] h [] (λr h' ms'=>h.le h'/\ms'=[]/\ceR h' r ⟨i,1,[(a,-1),(b,1)]⟩):=by refine Ap func77 ntmps77 Y Y<|λw0 hw0=>?_;simp only[AR];refine Ar<|BS [.int .i64 0,.int .i64 0,.slice none 0 0] Y A3 Y Y<|λg6=>Bp<|Qm Y<|Qm Y<|Qx (AN Wr [.int .i64 0,.int .i64 0] [(0,_),(1,_)] [_,_] Y BX Y Y Qt Y) Y<|Qm Y<|Qx (AN Wr [.int .i64 0,.int .i64 0] [(0,_),(1,_)] [_,_] Y BX Y Y Qt Y) Y<|AO [(0,_),(2,_)] [.int .i64 0,.int .i64 0,.int .i64 0,.int .i64 0] [_,_,_,_] Y Da BX Y ω κ Qt Y Y Y Y<|λg12=>Bg λh2 l2 hS=>?_;have hR:RdL cD 2 h2 [] (.slice (some ⟨g12,0,none⟩) 2 2) [(a,-1),(b,1)]:=RdL.built hS Y Y F6 δ;have o:=hR.rd.one;refine Qx (AN Ox [.int .i64 0,.int .i64 0,.slice none 0 0] [(0,_),(1,_),(2,_)] [_,_,_] Y A3 Y Y Qt Y) Y ?_;refine Sa 0 [_,_,_] A3 Y (by simp[Value.oneCell']) ?_;refine Am<|Aj ?_;exact Bx (vs:=[_,_,_]) 0 Y Y Jz Y A3 Y Y (⟨l2,Y,_,Y,hR⟩)
def HN(f:Bool):List Cl:=[⟨1,0,[]⟩,⟨2,0,[]⟩,⟨3,0,[]⟩,⟨4,1,[(1,-1),(2,1)]⟩,⟨5,1,[(1,-1),(3,1)]⟩,⟨6,1,[(2,-1),(3,1)]⟩]++if f then [⟨7,2,[(4,1),(5,-1),(6,1)]⟩] else []
theorem Lh(h:Hp):RdL cD 2 h [] (.slice none 0 0) []:=⟨Rd.nil _ _ _,F6⟩
theorem Oa(f:Bool)(h:Hp):FnT Tryz.prog 39 #[.bool f] h [] (λr h' ms'=>h.le h'/\ms'=[]/\∃v A,r=.agg #[v]/\RdC h' v A/\A.map Ce.c=HN f):=by
 refine Ap func39 ntmps39 Y Y<|λw0 hw0=>?_;simp only[AR];refine Ar<|BS [.nl] Y Bd Y Y<|λg2=>Bp<|Qm Y<|Bp<|Qx (AN Ox [.w 0,.w 0,.nl] [(0,_)] [_,_,_] Y A3 Y Y Qt Y) Y<|Qx (AN Ox [.w 0,.w 0,.nl] [(0,_)] [_,_,_] Y A3 Y Y Qt Y) Y<|Qx (AN Ox [.w 0,.w 0,.nl] [(0,_)] [_,_,_] Y A3 Y Y Qt Y) Y<|Qm Y<|E5 (pre:=[]) Y Y call77 Y (LC 4 1 2 h) Y Y Y Y<|λc1 h1 ms1 l1 hF=>?_;obtain⟨l1',rfl,v1,rfl,R1⟩:=hF;refine Qm Y<|E5 (pre:=[]) Y Y call77 Y (LC 5 1 3 h1) Y Y Y Y<|λc2 h2 ms2 l2 hF=>?_;obtain⟨l2',rfl,v2,rfl,R2⟩:=hF;refine Qm Y<|E5 (pre:=[]) Y Y call77 Y (LC 6 2 3 h2) Y Y Y Y<|λc3 h3 ms3 l3 hF=>?_;obtain⟨l3',rfl,v3,rfl,R3⟩:=hF;have o1:=R1.rd.one;have o2:=R2.rd.one;have o3:=R3.rd.one;refine AO [(0,_),(3,_),(6,_),(9,_),(12,_),(15,_)] [.w 0,.w 0,.nl,.w 0,.w 0,.nl,.w 0,.w 0,.nl,.w 0,.w 0,.nl,.w 0,.w 0,.nl,.w 0,.w 0,.nl] [_,_,_,_,_,_,_,_,_,_,_,_,_,_,_,_,_,_] Y B0 A3 Y ω κ Qt Y Y Y Y<|λg14=>Qx (AN AbV [.nl] [(0,_)] [_] Y Bd Y Y Qt Y) Y<|BS [.nl] Y Bd Y Y<|λg4=>?_;refine Sa 0 [_] Bd Y (by simp[Value.oneCell']) ?_;refine Am<|Ac<|Ar<|Qm Y<|Am ?_;obtain⟨A6,hA6⟩:∃A6:List Ce,A6=[⟨⟨1,0,[]⟩,.nl⟩,⟨⟨2,0,[]⟩,.nl⟩,⟨⟨3,0,[]⟩,.nl⟩,⟨⟨4,1,[(1,-1),(2,1)]⟩,v1⟩,⟨⟨5,1,[(1,-1),(3,1)]⟩,v2⟩,⟨⟨6,1,[(2,-1),(3,1)]⟩,v3⟩]:=⟨_,Y⟩
 have hO:OwnL cC 3 50 (BI g14 50 (A6.flatMap cC)) (.slice (some ⟨g14,0,none⟩) 6 6) A6:=OwnL.blk (g:=g14) (el:=50) (F:=cC) (l:=A6) 6 DP (by rw[hA6];rfl) δ
 have hAs:∀h',h3.le h'->∀a∈A6,RdL cD 2 h' [] a.v a.c.sd:=λh' q a ha=>by
  rw[hA6]at ha;simp only[bg,gz,gv]at ha;rcases ha with rfl|rfl|rfl|rfl|rfl|rfl
  ·exact Lh _
  ·exact Lh _
  ·exact Lh _
  ·exact R1.up<|AD l2'<|AD l3' q
  ·exact R2.up<|AD l3' q
  ·exact R3.up q
 have l03:=AD l1' (AD l2' l3');have hfl:A6.flatMap cC=[.w 1,.w 0,.nl,.w 2,.w 0,.nl,.w 3,.w 0,.nl,.w 4,.w 1,v1,.w 5,.w 1,v2,.w 6,.w 1,v3]:=by rw[hA6];rfl
 rw[hfl]at hO;cases f
 ·refine AL Y<|Ah<|Ab<|Ar<|Qx (oG Y C9 Bd<|Seg.blk 0 Y) Y ?_;refine Sa 2 [_] Bd Y (by simp[Value.oneCell']) ?_;refine Am<|Aj<|Ra 1 Y λh4 l4 hS14=>?_;have hR:RdL cC 3 h4 [] (.slice (some ⟨g14,0,none⟩) 6 6) A6:=RdL.built hS14 (by rw[hfl]) (by rw[hA6];rfl) DP δ;refine AQ ?_;exact Bx (vs:=[_]) 0 Y Y C9 Y Bd Y Y (⟨AD l03 l4,Y,_,A6,Y,⟨hR,hAs h4 l4⟩,by rw[hA6];rfl⟩)
 ·refine AX Y<|Ad<|Qf Ct Y<|Ql Y B0 (Cell.blk 0 Y Y)<|Qx (AN Wr [.w 0,.w 0] [(0,_),(1,_)] [_,_] Y BX Y Y Qt Y) Y<|Qx (AN Wr [.w 0,.w 0] [(0,_),(1,_)] [_,_] Y BX Y Y Qt Y) Y<|Qx (AN Wr [.w 0,.w 0] [(0,_),(1,_)] [_,_] Y BX Y Y Qt Y) Y<|AO [(0,_),(2,_),(4,_)] [.w 0,.w 0,.w 0,.w 0,.w 0,.w 0] [_,_,_,_,_,_] Y Da BX Y ω κ Qt Y Y Y Y<|λg22=>Bg λh4 l4 hS22=>?_;have hR22:RdL cD 2 h4 [] (.slice (some ⟨g22,0,none⟩) 3 3) [(4,1),(5,-1),(6,1)]:=RdL.built hS22 Y Y F6 δ;refine Qx (AN Ox [.w 0,.w 0,.nl] [(0,_),(1,_),(2,_)] [_,_,_] Y A3 Y Y Qt Y) Y<|Ay [_,_,_] Y B0 A3 Y (by rfl) Y Y ω Y Y Y<|λg24=>?_;have h6:A6.length=6:=by rw[hA6];rfl
  refine Cs 2 hO (RdL.one DP (x:=(⟨⟨7,2,[(4,1),(5,-1),(6,1)]⟩,.slice (some ⟨g22,0,none⟩) 3 3⟩:Ce)) Mh Y) Y B0 A3 Y ω Y Y Y (GS (l:=[⟨⟨7,2,[(4,1),(5,-1),(6,1)]⟩,.slice (some ⟨g22,0,none⟩) 3 3⟩]) (h:=h4) λy hy=>by rw[bm.1 hy];exact hR22) (by(try simp only[ab]);omega) (by(try simp only[ab]);omega) rfl rfl rfl<|λv9 m9 hO9=>?_;have o9:=hO9.o1;refine Qf Ct Y ?_;refine Bh 1 _ Y AcH Y Y (by assumption) Y Y (by(simp;done)) rfl rfl ?_;refine Bp<|Qx (oG Y C9 Bd<|Seg.blk 1 Y) Y ?_;refine Sa 3 [_] Bd Y (by simp[o1,o2,o3,o9]) ?_;refine Am<|Aj<|Es 2 Y<|Dg hO9 λh5 l5 hR=>AQ<|AQ ?_;exact Bx (vs:=[_]) 0 Y Y C9 Y Bd Y Y (⟨AD l03 (AD l4 l5),Y,_,_,Y,⟨hR,λa ha=>(bj.1 ha).elim (λq=>hAs _ (AD l4 l5) a q) (λq=>by rw[bm.1 q];exact hR22.up l5)⟩,by rw[hA6];rfl⟩)
end
section
open Go.Lin Go.Wd Go.Sm Go.Ch
variable {l:List Ce} {o:List Cl} {v:Value} {h:Hp}
theorem Q8(ll:List (List Int)):(DI ll).Pairwise λa b=>a.id<=b.id:=by
 unfold DI;cases Di [] ll with
 | none=>exact .nil
 | some all=>exact dz.2 (List.pairwise_lt_range.imp λ{a b} h=>by show(a:Int)+1<=b+1;omega)
theorem Vw(ll:List (List Int)):∀x∈DI ll,x.sd.Pairwise λa b=>a.1<=b.1:=by
 unfold DI;cases Di [] ll with
 | none=>nofun
 | some all=>
  intro x hx;obtain⟨i,_,rfl⟩:=ag.1 hx;show(if _ then [] else Dm _).Pairwise _;split
  ·exact .nil
  ·exact Jo _
theorem W5{ll:List (List Int)}(e:l.map Ce.c=DI ll):OrdC l:=by
 have hm:∀a∈l,a.c∈DI ll:=λa ha=>e ▸ ag.2 ⟨a,ha,Y⟩;have hn:=(Mu ll).1;rw[<-e,be]at hn;refine⟨ω,λa ha=>?_,?_,λa ha=>Vw ll _ (hm a ha)⟩
 ·have:=((Mu ll).2 _ (hm a ha)).2;omega
 ·have:=Q8 ll;rw[<-e]at this;exact(dz (f:=Ce.c)).1 this
theorem QsOk.of{ll:List (List Int)}(hR:RdC h v l)(e:l.map Ce.c=DI ll)(hn:l.length<=200)(hm:∀n:Int,(A9 (cn l) n).length<=100):QsOk v h l:=by
 have R:Rgt (l.map Ce.c):=e ▸ MG _
 have hid:∀x∈l,x.c.id<=1000000:=λx hx=>by have h2:=Acu ll x.c (e ▸ ag.2 ⟨x,hx,Y⟩);have h3:=aw List.length e;rw[be]at h3;omega
 have hsd:∀x∈l,x.c.sd.length<=64:=λx hx=>by have h1:=R.num _ (ag.2 ⟨x,hx,Y⟩);have h2:=R.dim _ (ag.2 ⟨x,hx,Y⟩);unfold Cb at h1;omega
 have hpos:∀x∈l,1<=x.c.id:=λx hx=>R.pos _ (ag.2 ⟨x,hx,Y⟩);refine⟨⟨R,hid,W5 e⟩,⟨hR,ω,λx hx=>by have:=hsd x hx;omega,?_,λx hx=>?_,λx hx s hs=>?_⟩,hm,λc hc=>?_⟩
 ·have key:∀l:List Ce,(∀x∈l,x.c.sd.length<=64)->(AY (l.map Ce.c)).length<=64*l.length:=by
   intro l
   induction l with
   | nil=>intro _;exact Nat.zero_le _
   | cons x l ih=>
    intro h;have h1:=h x mem_cons_self;have h2:=ih fun y hy=>h y (mem_cons_of_mem _ hy);have e:AY ((x::l).map Ce.c)=(x.c.sd.map fun s=>(x.c.id,s))++AY (l.map Ce.c):=rfl;rw[e,length_append,length_map,length_cons];omega
  have:=key l hsd;omega
 ·have h1:=hid x hx;have h2:=hpos x hx;unfold Cd;omega
 ·obtain⟨y,hy,e1,e2⟩:=R.sid _ (ag.2 ⟨x,hx,Y⟩) s hs;obtain⟨z,hz,rfl⟩:=ag.1 hy;have h1:=hid z hz;have h2:=hpos z hz;have h3:=R.sgn _ (ag.2 ⟨x,hx,Y⟩) s hs;unfold Cd;omega
 ·obtain⟨y,hy,e⟩:=mem_ord.1 hc;have h1:=R.dim y hy;rw[e];show y.dim<=1000;omega
theorem TF(Q:QsOk v h l)(hn:l.length<=200):(AY (l.map Ce.c)).length<100000:=by
 have hsd:∀x∈l,x.c.sd.length<=64:=λx hx=>by have h1:=Q.K.r.num _ (ag.2 ⟨x,hx,Y⟩);have h2:=Q.K.r.dim _ (ag.2 ⟨x,hx,Y⟩);unfold Cb at h1;omega
 have key:∀l:List Ce,(∀x∈l,x.c.sd.length<=64)->(AY (l.map Ce.c)).length<=64*l.length:=by
  intro l
  induction l with
  | nil=>intro _;exact Nat.zero_le _
  | cons x l ih=>
   intro h;have h1:=h x mem_cons_self;have h2:=ih fun y hy=>h y (mem_cons_of_mem _ hy);have e:AY ((x::l).map Ce.c)=(x.c.sd.map fun s=>(x.c.id,s))++AY (l.map Ce.c):=rfl;rw[e,length_append,length_map,length_cons];omega
 have:=key l hsd;omega
def Zf:List Cl:=[⟨1,0,[]⟩,⟨2,0,[]⟩]
theorem ZZ:HN false=DI [[0,1],[0,2],[1,2]]:=by kernel_rfl
theorem AaK:HN true=DI [[0,1,2]]:=by kernel_rfl
theorem Zq:Zf=DI [[0],[1]]:=by kernel_rfl
def Smp(o:List Cl):Prop:=∃ll,o=DI ll
theorem Smp.ord(S:Smp o):ordF o=o:=by obtain⟨ll,rfl⟩:=S;exact(CanO.ord ⟨fo _,Q8 ll,_,fo _,Y,λi h h'=>⟨Y,Y,fo _,Vw ll _ (ao h)⟩⟩ (MG ll)).symm
theorem Ik:∀f,Smp (HN f)
 | false=>⟨_,ZZ⟩
 | true=>⟨_,AaK⟩
theorem AaL:Smp Zf:=⟨_,Zq⟩
theorem Zk(n:Int):(A9 (cn l) n).length<=l.length:=by have:=Gr (cn l) n;rwa [Jg]at this
theorem VQ(hR:RdC h v l)(e:l.map Ce.c=o)(S:Smp o)(hn:o.length<=100):QsOk v h l:=by subst e;rw[be]at hn;obtain⟨ll,e⟩:=S;exact QsOk.of hR e ω λn=>bl (Zk n) hn
theorem Ac9{x L:List Tm}(e:DB (AY o) x=L)(h:∀c,cf L c=0):bz o x=true:=(Hr _ _).2 (e ▸ h)
theorem L3{d:Int}{x:List Tm}(h:∀p∈x,HS o d p.1=true):Eb o d x=true:=(CQ _ _ _).2 λc hc=>aq λq=>hc (Ei λp hp e=>q (e ▸ h p hp))
def XN:List Tm:=[(4,1),(5,-1),(6,1)]
theorem Aef:ML (HN false) [(1,1)] [(3,1)] [(5,-1)]=true:=by
 rw[EE];intro c;have e:DB (AY (HN false)) [(5,-1)]=[(1,1),(3,-1)]:=by decide
 rw[e];show(if(1:Int)=c then(1:Int) else 0)+((if(3:Int)=c then(-1:Int) else 0)+0)=((if(1:Int)=c then(1:Int) else 0)+0)-((if(3:Int)=c then(1:Int) else 0)+0);split<;>split<;>omega
theorem Ad0:¬∃ch,ML (HN false) XN [] ch=true:=by
 rintro⟨ch,h⟩;have:=(EE _ _ _ _).1 h 4
 rw[UO,Hb λx hx=>by
  have h0:sgn x.sd 4=0:=by revert x;decide
  rw[h0,gu]]at this
 revert this;decide
theorem Aev:ML (HN true) XN [] [(7,1)]=true:=by
 rw[EE];intro c;have e:DB (AY (HN true)) [(7,1)]=XN:=by decide
 rw[e,FB];omega
theorem Afd:¬∃ch,ML Zf [(1,1)] [(2,1)] ch=true:=by rintro⟨ch,h⟩;have:=(EE _ _ _ _).1 h 1;have e:DB (AY Zf) ch=[]:=rfl;rw[e]at this;revert this;decide
theorem Tk(f:Bool):bz (HN f) XN=true:=by
 have e:DB (AY (HN f)) XN=[(1,-1),(2,1),(1,1),(3,-1),(2,-1),(3,1)]:=by cases f<;>decide
 refine Ac9 e λc=>?_;show(if(1:Int)=c then(-1:Int) else 0)+((if(2:Int)=c then(1:Int) else 0)+((if(1:Int)=c then(1:Int) else 0)+((if(3:Int)=c then(-1:Int) else 0)+((if(2:Int)=c then(-1:Int) else 0)+((if(3:Int)=c then(1:Int) else 0)+0)))))=0;by_cases h1:(1:Int)=c<;>by_cases h2:(2:Int)=c<;>by_cases h3:(3:Int)=c<;>simp[h1,h2,h3]<;>omega
theorem AbN:bz (HN false) [(4,1),(6,1)]=false:=by rw[Bool.eq_false_iff];intro h;have:=(Hr _ _).1 h 1;revert this;decide
end
section
open Go.Lin Go.Wd Go.Sm Go.Ch
variable {l:List Ce} {v vx vy:Value} {h:Hp}
theorem P8{o:List Cl}{d:Int}(e:l.map Ce.c=o)(S:Smp o)(h:(Fg (A9 o d).length (A9 o (d+1)).length (min (A9 o d).length (A9 o (d+1)).length) 0 (Uc (A9 o d).length (A9 o (d+1)).length (I7 o (d+1)))).isSome=true):∃s',Fq l d s':=by
 obtain⟨s',hs⟩:=Option.isSome_iff_exists.1 h;have hc:cn l=o:=by unfold cn;rw[e,S.ord]
 refine⟨s',⟨?_⟩⟩;rw[hc];exact hs
set_option exponentiation.threshold 4000000 in
theorem PN{l:List Tm}(R:RdL DQ 3 h [] v l)(h1:l.length<=1000)(h2:∀p∈l,Cd p.1)(h3:Bf l<2^90):ChR v h l:=⟨R,ω,h2,b6 h3 (Nat.pow_le_pow_right δ δ)⟩
theorem Aa7{n:Nat}(h:n<100000):n<2^90:=b6 h δ
theorem Ae6{a b:Nat}(h1:a<100000)(h2:b<100000):a+b<2^99:=b6 (show a+b<200000 by omega) δ
theorem S7{o:List Cl}{d:Int}{x y:List Tm}(hR:RdC h v l)(e:l.map Ce.c=o)(R:Smp o)(hn:o.length<=100)(hd:0<=d/\d<=900)(X:RdL DQ 3 h [] vx x)(Y:RdL DQ 3 h [] vy y)(h1:x.length<=1000)(h2:∀p∈x,Cd p.1)(h3:Bf x<100000)(h4:y.length<=1000)(h5:∀p∈y,Cd p.1)(h6:Bf y<100000)(hx:∀p∈x,HS o d p.1=true)(hy:∀p∈y,HS o d p.1=true)(zx:bz o x=true)(zy:bz o y=true):Tq v vx vy h d l x y:=by
 have Q:=VQ hR e R hn;have hl:l.length<=100:=by rw[<-be (f:=Ce.c),e];exact hn
 exact⟨Q,PN X h1 h2 (Aa7 h3),PN Y h4 h5 (Aa7 h6),hd,ω,e ▸ L3 hx,e ▸ L3 hy,e ▸ zx,e ▸ zy,ω,Ae6 h3 h6,TF Q ω⟩
theorem Si(o:List Cl)(x:List Tm)(h:DB (AY o) x=[]):bz o x=true:=Ac9 h λc=>rfl
theorem Afa(hR:RdC h v l)(e:l.map Ce.c=HN false)(X:RdL DQ 3 h [] vx [(1,1)])(Y:RdL DQ 3 h [] vy [(3,1)])(ms:List Hp):FnV Tryz.prog 36 #[.agg #[v],.int .i64 0,vx,vy,.bool true] h ms (.bool true):=by obtain⟨s',F⟩:=P8 (d:=0) e (Ik false) κ;exact PA (S7 hR e (Ik false) δ δ X Y δ δ δ δ δ δ δ δ (Si _ _ δ)<|Si _ _ δ) F true true ⟨fun _=>⟨_,e ▸ Aef⟩,fun _=>rfl⟩ ms
theorem AeF(hR:RdC h v l)(e:l.map Ce.c=HN false)(X:RdL DQ 3 h [] vx XN)(ms:List Hp):FnV Tryz.prog 36 #[.agg #[v],.int .i64 1,vx,.slice none 0 0,.bool false] h ms (.bool true):=by obtain⟨s',F⟩:=P8 (d:=1) e (Ik false) κ;exact PA (S7 hR e (Ik false) δ δ X (DD h).rd δ δ δ δ δ δ δ δ (Tk _)<|Si _ _ δ) F false false ⟨nofun,λq=>ie (e ▸ q) Ad0⟩ ms
theorem Aex(hR:RdC h v l)(e:l.map Ce.c=HN true)(X:RdL DQ 3 h [] vx XN)(ms:List Hp):FnV Tryz.prog 36 #[.agg #[v],.int .i64 1,vx,.slice none 0 0,.bool true] h ms (.bool true):=by obtain⟨s',F⟩:=P8 (d:=1) e (Ik true) κ;exact PA (S7 hR e (Ik true) δ δ X (DD h).rd δ δ δ δ δ δ δ δ (Tk _)<|Si _ _ δ) F true true ⟨λ_=>⟨_,e ▸ Aev⟩,λ_=>rfl⟩ ms
theorem Aew(hR:RdC h v l)(e:l.map Ce.c=Zf)(X:RdL DQ 3 h [] vx [(1,1)])(Y:RdL DQ 3 h [] vy [(2,1)])(ms:List Hp):FnV Tryz.prog 36 #[.agg #[v],.int .i64 0,vx,vy,.bool false] h ms (.bool true):=by obtain⟨s',F⟩:=P8 (d:=0) e AaL κ;exact PA (S7 hR e AaL δ δ X Y δ δ δ δ δ δ δ δ (Si _ _ δ)<|Si _ _ δ) F false false ⟨nofun,fun q=>ie (e ▸ q) Afd⟩ ms
set_option exponentiation.threshold 4000000 in
theorem Uv(hR:RdC h v l)(e:l.map Ce.c=HN false)(X:RdL DQ 3 h [] vx [(4,1),(6,1)]):FnT Tryz.prog 16 #[.agg #[v],.int .i64 1,vx,.slice none 0 0] h [] (λw h' ms'=>h.le h'/\ms'=[]/\w=.tuple #[anZ,.int .i64 40]):=by have Q:=VQ hR e (Ik false) δ;have h0:=TF Q (show l.length<=200 by rw[<-be (f:=Ce.c),e];decide);have hb:∀L:List Tm,Bf L<2^17->Bf (DB (AY (l.map Ce.c)) L)<2^2000000:=λL hL=>Nat.lt_of_le_of_lt (Tw (OY Q.K.r)) (Gi (A:=17) (B:=17) (b6 h0 δ) hL δ);exact Nf v _ _ 1 δ [(4,1),(6,1)] [] l h Q (PN X δ δ<|Aa7 δ) (DD h) (e ▸ L3 δ) (e ▸ L3 δ) (hb _ δ) (hb _ δ) (by rw[e,AbN];rfl)
set_option exponentiation.threshold 4000000 in
theorem Afx{vc:Value}(hR:RdC h v l)(e:l.map Ce.c=HN false)(X:RdL DQ 3 h [] vx XN)(C:RdL DQ 3 h [] vc [(4,1)])(ms:List Hp):FnV Tryz.prog 19 #[.agg #[v],.int .i64 1,vx,.slice none 0 0,S8 false (.slice none 0 0) vc 0] h ms (.bool true):=by
 have T:=S7 (y:=[]) hR e (Ik false) δ (show(0:Int)<=1/\(1:Int)<=900 by decide) X (DD h).rd δ δ δ δ δ δ δ δ (Tk _) (Si _ _ δ);have b0:=T.bch (ch:=[(4,1)]) (B:=17) δ δ;have hpp:Bf [((4,1):Tm)]*(Bf XN+Bf ([]:List Tm))<2^2000000:=Gi (A:=17) (B:=17) δ δ δ;have hck:=N2 v vx (.nl) (.nl) vc 1 0 XN [] [] [(4,1)] l h T.Q T.X T.Y (DD _) (PN C δ δ (Aa7 δ)) T.hx T.hy T.bx T.by_ T.zx T.zy T.hn T.ha2 b0.2 hpp δ ms;have h1:Eb (l.map Ce.c) 1 [(4,1)]=true:=e ▸ L3 δ
 have h2:Pg (l.map Ce.c) 0 [(4,1)]=true:=by
  rw[Lj,e];intro c;have e2:Gl (AY (HN false)) [(4,1)]=[]:=by decide
  rw[e2];exact Int.dvd_refl _
 rw[h1,h2,cg (show ¬(0:Int)∣lin (cf [((4,1):Tm)]) XN-lin (cf [((4,1):Tm)]) [] by decide)]at hck;exact hck
end
section
open Go.Lin Go.Wd Go.Sm Go.Ch
theorem Zp{l:List Int}(h:∀x∈l,-1000<=x/\x<=1000):∀x∈l,Cd x:=λx hx=>by have:=h x hx;unfold Cd;omega
theorem Dc{g n:Nat}{l:List Int}{cs:List Value}{h:Hp}(hS:Seg h [] (⟨g,0,none⟩:Addr) cs)(hc:cs=l.flatMap cI)(hl:l.length=2*n)(hn:n<=1000)(hI:∀x∈l,-1000<=x/\x<=1000):FnT Tryz.prog 37 #[.slice (some ⟨g,0,none⟩) (2*n) (2*n)] h [] (λr h' ms'=>h.le h'/\ms'=[]/\RdL DQ 3 h' [] r (M8 l n)):=
 Ua _ l n hl hn (Zp hI) h (RdL.built hS hc hl A8 ω)
theorem Zd(h:Hp)(ms:List Hp):FnV Tryz.prog 12 #[] h ms (.bool true):=by
 refine DY ?_ ms;refine Ap func12 ntmps12 Y Y<|λw0 hw0=>?_;simp only[AR];refine Ar<|Qm Y<|Bp<|Qc call39 Y (Oa false h)<|λr1 h1 ms1 l1 hF=>?_;obtain⟨l1',rfl,v1,A1,rfl,R1,E1⟩:=hF;refine Qc call39 Y (Oa true h1)<|λr2 h2 ms2 l2 hF=>?_;obtain⟨l2',rfl,v2,A2,rfl,R2,E2⟩:=hF;have o1:=R1.q.rd.one;have o2:=R2.q.rd.one;refine BS [.nl] Y Bd Y Y<|λg1=>BS [.nl] Y Bd Y Y<|λg2=>?_;refine Sa 1 [_] Bd Y (by simp[o1,o2]) ?_;refine Sa 0 [_] Bd Y (by simp[o1,o2]) ?_;refine Am<|Av 0 Y λh3 l3 hS2=>Av 0 Y λh4 l4 hS1=>Ar<|AO [(0,_),(1,_),(2,_),(3,_),(4,_),(5,_)] [.w 0,.w 0,.w 0,.w 0,.w 0,.w 0] [_,_,_,_,_,_] Y AZ Bk Y ω κ Qt Y Y Y Y<|λg9=>Bg λh5 l5 hS9=>Qc call37 Y (Dc (n:=3) (l:=[4,1,5,-1,6,1]) hS9 Y Y δ δ)<|λr3 h6 ms6 l6 hF=>?_;obtain⟨l6',rfl,R3⟩:=hF;have R3:RdL DQ 3 h6 [] r3 XN:=R3;have o3:=R3.rd.one;refine Qm Y<|Bp<|Qx (AN Ox [.w 0,.w 0,.nl] [(0,_)] [_,_,_] Y A3 Y Y Qt Y) Y<|Qx (AN Ox [.w 0,.w 0,.nl] [(0,_)] [_,_,_] Y A3 Y Y Qt Y) Y<|AO [(0,_),(3,_)] [.w 0,.w 0,.nl,.w 0,.w 0,.nl] [_,_,_,_,_,_] Y B0 A3 Y ω κ Qt Y Y Y Y<|λg13=>Qx (AN AbV [.nl] [(0,_)] [_] Y Bd Y Y Qt Y) Y<|BS [.nl] Y Bd Y Y<|λg4=>?_;refine Sa 0 [_] Bd Y (by simp[Value.oneCell']) ?_;refine Am<|Av 0 Y λh7 l7 hS4=>Av 0 Y λh8 l8 hS13=>?_;have l68:=AD l7 l8;have l58:=AD l6' l68;have l48:=AD l5 l58;have l38:=AD l4 l48;have l28:=AD l3 l38;have l18:=AD l2' l28;have l08:=AD l1' l18;have R1:=R1.up l18;have R2:=R2.up l28;have R3:=R3.up l68
 have R4:RdC h8 (.slice (some ⟨g13,0,none⟩) 2 2) [⟨⟨1,0,[]⟩,.nl⟩,⟨⟨2,0,[]⟩,.nl⟩]:=⟨RdL.built hS13 Y Y DP δ,λa ha=>by
  simp only[bg,gz,gv]at ha
  rcases ha with rfl|rfl<;>exact Lh _⟩
 have G1:∀h',h8.le h'->∀ms,Seg h' ms (⟨g1,0,none⟩:Addr) [v1]:=λh' q ms=>(((hS1.le l48).le q)).any;have G2:∀h',h8.le h'->∀ms,Seg h' ms (⟨g2,0,none⟩:Addr) [v2]:=λh' q ms=>(((hS2.le l38).le q)).any;have G4:∀h',h8.le h'->∀ms,Seg h' ms (⟨g4,0,none⟩:Addr) [.slice (some ⟨g13,0,none⟩) 2 2]:=λh' q ms=>(((hS4.le l8).le q)).any;refine Bv (λsl h' ms'=>sl=[(1,.pt g1),(2,.pt g2),(3,r3),(4,.pt g4),(6,.w 40)]/\h8.le h'/\ms'=[]) ?_<|λs h ms hI=>?_
 ·refine AS (n:=10) (bs:=[ig,ii,ii,ii,ii,ii,ii,ii,ii,ii]) [true] CC κ κ Y Y<|Qp Y (oG Y C9 Bd<|G1 _ (BE) _) ?_;unfold Dd;simp only[bh,ap];refine A4 [1,7] κ Y ?_;refine AA Y ?_ ?_;refine AO [(0,_),(1,_),(2,_),(3,_)] [.w 0,.w 0,.w 0,.w 0] [_,_,_,_] Y AZ Bk Y ω κ Qt Y Y Y Y<|λg17=>Bg λh9 l9 hS17=>Qa<|A4 [2,7] κ Y ?_;refine AA Y ?_ ?_;refine AC (pre:=[]) Y call37 Y (Dc (n:=2) (l:=[4,1,6,1]) hS17 Y Y δ δ) Y Y Y Y<|λr5 hA msA lA hF=>?_;obtain⟨lA',rfl,R5⟩:=hF;have l8A:=AD l9 lA';refine Qa<|A4 [3,7] κ Y ?_;refine AA Y ?_ ?_;refine AC (pre:=[]) Y call16 Y (Uv (R1.up l8A) E1 R5) Y Y Y Y<|λw0 hB msB lB hF=>?_;obtain⟨lB',rfl,rfl⟩:=hF;have l8B:=AD l8A lB';unfold anZ;refine Qa<|Bb 4 15 κ Y (by assumption) Y (Au Y Y)<|Bb 5 20 κ Y (by assumption) Y (BM Y Y Y)<|Bb 6 21 κ Y (by assumption) Y (BM Y Y Y)<|Qo 7 Y<|BS [.bool false,.nl,.nl,.bool false,.es] Y E6 Y Y<|λg5=>Qa ?_
  rotate_left
  refine AA Y ?_ ?_;refine BS [.bool false,.nl,.nl,.bool false,.es] Y E6 Y Y<|λg5=>Qa<|Qo 3 Y<|AC (pre:=[]) Y call16 Y (Uv (R1.up l8A) E1 R5) Y Y Y Y<|λw0 hB msB lB hF=>?_;obtain⟨lB',rfl,rfl⟩:=hF;have l8B:=AD l8A lB';unfold anZ;refine Qa<|Bb 4 15 κ Y (by assumption) Y (Au Y Y)<|Bb 5 20 κ Y (by assumption) Y (BM Y Y Y)<|Bb 6 21 κ Y (by assumption) Y (BM Y Y Y) ?_
  rotate_left
  exact A5;refine AA Y ?_ ?_;refine BS [.bool false,.nl,.nl,.bool false,.es] Y E6 Y Y<|λg5=>Qa<|Qo 2 Y<|AC (pre:=[]) Y call37 Y (Dc (n:=2) (l:=[4,1,6,1]) hS17 Y Y δ δ) Y Y Y Y<|λr5 hA msA lA hF=>?_;obtain⟨lA',rfl,R5⟩:=hF;have l8A:=AD l9 lA';refine Qa<|Qo 3 Y<|AC (pre:=[]) Y call16 Y (Uv (R1.up l8A) E1 R5) Y Y Y Y<|λw0 hB msB lB hF=>?_;obtain⟨lB',rfl,rfl⟩:=hF;have l8B:=AD l8A lB';unfold anZ;refine Qa<|Bb 4 15 κ Y (by assumption) Y (Au Y Y)<|Bb 5 20 κ Y (by assumption) Y (BM Y Y Y)<|Bb 6 21 κ Y (by assumption) Y (BM Y Y Y) ?_
  rotate_left
  exact A5;refine AA Y ?_ ?_;refine BS [.bool false,.nl,.nl,.bool false,.es] Y E6 Y Y<|λg5=>Qw<|Qo 1 Y<|AO [(0,_),(1,_),(2,_),(3,_)] [.w 0,.w 0,.w 0,.w 0] [_,_,_,_] Y AZ Bk Y ω κ Qt Y Y Y Y<|λg17=>Bg λh9 l9 hS17=>Qa<|Qo 2 Y<|AC (pre:=[]) Y call37 Y (Dc (n:=2) (l:=[4,1,6,1]) hS17 Y Y δ δ) Y Y Y Y<|λr5 hA msA lA hF=>?_;obtain⟨lA',rfl,R5⟩:=hF;have l8A:=AD l9 lA';refine Qa<|Qo 3 Y<|AC (pre:=[]) Y call16 Y (Uv (R1.up l8A) E1 R5) Y Y Y Y<|λw0 hB msB lB hF=>?_;obtain⟨lB',rfl,rfl⟩:=hF;have l8B:=AD l8A lB';unfold anZ;refine Qa<|Bb 4 15 κ Y (by assumption) Y (Au Y Y)<|Bb 5 20 κ Y (by assumption) Y (BM Y Y Y)<|Bb 6 21 κ Y (by assumption) Y (BM Y Y Y) ?_
  rotate_left
  exact A5
  all_goals
   refine Qo 8 Y ?_;refine Sa 0 [_,_,_,_,_] E6 Y (by simp[o1,o2,o3,B8]) ?_;refine Qa<|Qo 9 Y<|Qm Y<|Qa<|Qe<|AQ ?_;exact AI _ ⟨Y,l8B,Y⟩ Qs
 ·obtain⟨rfl,lc,rfl⟩:=hI;have lh:=Hp.le_refl h;have l8h:=lc;refine Ac<|AS (n:=37) (bs:=[ig,ii,ii,ii,ii,ii,ii,ii,ii,ii,ii,ii,ii,ii,ii,ii,ii,ii,ii,ii,ii,ii,ii,ii,ii,ii,ii,ii,ii,ii,ii,ii,ii,ii,ii,ii,ii]) [true] CC κ κ Y Y<|Qp Y (oG Y C9 Bd<|G1 _ l8h _) ?_;unfold Dd;simp only[bh,ap];refine A4 [1,3] κ Y ?_;refine AA Y ?_ ?_;refine AO [(0,_),(1,_)] [.w 0,.w 0] [_,_] Y AZ Bk Y ω κ Qt Y Y Y Y<|λg23=>Bg λhA lA S1=>?_;have lc:=AD lc lA;have lh:=AD lh lA;refine Qa<|A4 [2,3] κ Y ?_;refine AA Y ?_ ?_;refine AC (pre:=[]) Y call37 Y (Dc (n:=1) (l:=[1,1]) S1 Y Y δ δ) Y Y Y Y<|λp1 hB msB lB hF=>?_;obtain⟨lB',rfl,P1⟩:=hF;have lc:=AD lc lB';have lh:=AD lh lB';refine Qa<|Qo 3 Y<|AO [(0,_),(1,_)] [.w 0,.w 0] [_,_] Y AZ Bk Y ω κ Qt Y Y Y Y<|λg25=>Bg λhC lC S3=>?_;have lc:=AD lc lC;have lh:=AD lh lC;have P1:=P1.up lC;refine Qa ?_
  rotate_left
  refine AA Y ?_ ?_;refine AO [(0,_),(1,_)] [.w 0,.w 0] [_,_] Y AZ Bk Y ω κ Qt Y Y Y Y<|λg25=>Bg λhC lC S3=>?_;have lc:=AD lc lC;have lh:=AD lh lC;have S1:=S1.le lC;refine Qa<|Qo 2 Y<|AC (pre:=[]) Y call37 Y (Dc (n:=1) (l:=[1,1]) S1 Y Y δ δ) Y Y Y Y<|λp1 hB msB lB hF=>?_;obtain⟨lB',rfl,P1⟩:=hF;have lc:=AD lc lB';have lh:=AD lh lB';have S3:=S3.le lB';refine Qa ?_
  rotate_left
  exact A5;refine AA Y ?_ ?_;refine AO [(0,_),(1,_)] [.w 0,.w 0] [_,_] Y AZ Bk Y ω κ Qt Y Y Y Y<|λg25=>Bg λhC lC S3=>?_;have lc:=AD lc lC;have lh:=AD lh lC;refine Qa<|Qo 1 Y<|AO [(0,_),(1,_)] [.w 0,.w 0] [_,_] Y AZ Bk Y ω κ Qt Y Y Y Y<|λg23=>Bg λhA lA S1=>?_;have lc:=AD lc lA;have lh:=AD lh lA;have S3:=S3.le lA;refine Qa<|Qo 2 Y<|AC (pre:=[]) Y call37 Y (Dc (n:=1) (l:=[1,1]) S1 Y Y δ δ) Y Y Y Y<|λp1 hB msB lB hF=>?_;obtain⟨lB',rfl,P1⟩:=hF;have lc:=AD lc lB';have lh:=AD lh lB';have S3:=S3.le lB';refine Qa ?_
  rotate_left
  exact A5
  all_goals
   refine Qo 4 Y<|AC (pre:=[]) Y call37 Y (Dc (n:=1) (l:=[3,1]) S3 Y Y δ δ) Y Y Y Y<|λp2 hD msD lD hF=>?_;obtain⟨lD',rfl,P2⟩:=hF;have lc:=AD lc lD';have lh:=AD lh lD';have P1:=P1.up lD';refine Qa<|Qo 5 Y<|Qx (As Y call36 Y<|Afa (R1.up lc) E1 P1 P2 _) Y<|Qa<|Bb 6 28 κ Y (by assumption) Y (Au Y Y)<|B6 7 29 κ Y Y Y Y Y (by assumption) Y (oG Y C9 Bd<|G1 _ l8h _)<|B6 8 30 κ Y Y Y Y Y (by assumption) Y (Au Y Y)<|Qo 9 Y<|Qg (As Y call36 Y<|AeF (R1.up lc) E1 (R3.up lc) _) Y<|Qa<|Qo 10 Y<|Qm Y<|Qa<|Bb 11 33 κ Y (by assumption) Y (Au Y Y)<|B6 12 34 κ Y Y Y Y Y (by assumption) Y (oG Y C9 Bd<|G2 _ l8h _)<|B6 13 35 κ Y Y Y Y Y (by assumption) Y (Au Y Y)<|Qo 14 Y<|Qg (As Y call36 Y<|Aex (R2.up lc) E2 (R3.up lc) _) Y<|Qa<|Qo 15 Y<|Qm Y<|Qa<|Bb 16 38 κ Y (by assumption) Y (Au Y Y)<|B6 17 39 κ Y Y Y Y Y (by assumption) Y (Au Y Y)<|B6 18 40 κ Y Y Y Y Y (by assumption) Y (Cw (Cq Y Y Y)<|aw Value.bool<|bq Y)<|Qo 19 Y<|Qm Y<|Qa<|Bb 20 42 κ Y (by assumption) Y (Au Y Y)<|B6 21 43 κ Y Y Y Y Y (by assumption) Y (oG Y C9 Bd<|G4 _ l8h _)<|A4 [22,24] κ Y ?_;refine AA Y ?_ ?_;refine DS Y Y Y Y<|AO [(0,_),(1,_)] [.w 0,.w 0] [_,_] Y AZ Bk Y ω κ Qt Y Y Y Y<|λg44=>Bg λhA lA S22=>?_;have lc:=AD lc lA;have lh:=AD lh lA;refine Qa<|A4 [23,24] κ Y ?_;refine AA Y ?_ ?_;refine DS Y Y Y Y<|AC (pre:=[]) Y call37 Y (Dc (n:=1) (l:=[1,1]) S22 Y Y δ δ) Y Y Y Y<|λp1 hB msB lB hF=>?_;obtain⟨lB',rfl,P3⟩:=hF;have lc:=AD lc lB';have lh:=AD lh lB';refine Qa<|Qo 24 Y<|DS Y Y Y Y<|AO [(0,_),(1,_)] [.w 0,.w 0] [_,_] Y AZ Bk Y ω κ Qt Y Y Y Y<|λg46=>Bg λhC lC S24=>?_;have lc:=AD lc lC;have lh:=AD lh lC;have P3:=P3.up lC;refine Qa ?_
   rotate_left
   refine AA Y ?_ ?_;refine DS Y Y Y Y<|AO [(0,_),(1,_)] [.w 0,.w 0] [_,_] Y AZ Bk Y ω κ Qt Y Y Y Y<|λg46=>Bg λhC lC S24=>?_;have lc:=AD lc lC;have lh:=AD lh lC;have S22:=S22.le lC;refine Qa<|Qo 23 Y<|DS Y Y Y Y<|AC (pre:=[]) Y call37 Y (Dc (n:=1) (l:=[1,1]) S22 Y Y δ δ) Y Y Y Y<|λp1 hB msB lB hF=>?_;obtain⟨lB',rfl,P3⟩:=hF;have lc:=AD lc lB';have lh:=AD lh lB';have S24:=S24.le lB';refine Qa ?_
   rotate_left
   exact A5;refine AA Y ?_ ?_;refine DS Y Y Y Y<|AO [(0,_),(1,_)] [.w 0,.w 0] [_,_] Y AZ Bk Y ω κ Qt Y Y Y Y<|λg46=>Bg λhC lC S24=>?_;have lc:=AD lc lC;have lh:=AD lh lC;refine Qa<|Qo 22 Y<|DS Y Y Y Y<|AO [(0,_),(1,_)] [.w 0,.w 0] [_,_] Y AZ Bk Y ω κ Qt Y Y Y Y<|λg44=>Bg λhA lA S22=>?_;have lc:=AD lc lA;have lh:=AD lh lA;have S24:=S24.le lA;refine Qa<|Qo 23 Y<|DS Y Y Y Y<|AC (pre:=[]) Y call37 Y (Dc (n:=1) (l:=[1,1]) S22 Y Y δ δ) Y Y Y Y<|λp1 hB msB lB hF=>?_;obtain⟨lB',rfl,P3⟩:=hF;have lc:=AD lc lB';have lh:=AD lh lB';have S24:=S24.le lB';refine Qa ?_
   rotate_left
   exact A5
   all_goals
    refine Qo 25 Y<|DS Y Y Y Y<|AC (pre:=[]) Y call37 Y (Dc (n:=1) (l:=[2,1]) S24 Y Y δ δ) Y Y Y Y<|λp2 hD msD lD hF=>?_;obtain⟨lD',rfl,P4⟩:=hF;have lc:=AD lc lD';have lh:=AD lh lD';have P3:=P3.up lD';refine Qa<|Qo 26 Y<|Qg (As Y call36 Y<|Aew (R4.up lc) Y P3 P4 _) Y<|Qa<|Qo 27 Y<|Qm Y<|Qa<|Bb 28 50 κ Y (by assumption) Y (Au Y Y)<|B6 29 51 κ Y Y Y Y Y (by assumption) Y (oG Y C9 Bd<|G1 _ l8h _)<|B6 30 52 κ Y Y Y Y Y (by assumption) Y (Au Y Y)<|Qo 31 Y<|DS Y Y Y Y<|AO [(0,_),(1,_)] [.w 0,.w 0] [_,_] Y AZ Bk Y ω κ Qt Y Y Y Y<|λg53=>Bg λhA lA S31=>?_;have lc:=AD lc lA;have lh:=AD lh lA;refine Qa<|Qo 32 Y<|DS Y Y Y Y<|AC (pre:=[]) Y call37 Y (Dc (n:=1) (l:=[4,1]) S31 Y Y δ δ) Y Y Y Y<|λp5 hB msB lB hF=>?_;obtain⟨lB',rfl,P5⟩:=hF;obtain⟨pa,pc,rfl,_⟩:=P5.rd.ex;have lc:=AD lc lB';have lh:=AD lh lB';refine Qa<|B6 33 55 κ Y Y Y Y Y (by assumption) Y (AN AbM [.bool false,.nl,.nl,.bool false,.es] [(2,_)] [_,_,_,_,_] Y E6 Y Y Qt Y)<|Qo 34 Y<|Qg (As Y call19 Y<|Afx (R1.up lc) E1 (R3.up lc) P5 _) Y<|Qa<|Qo 35 Y<|Qm Y<|Qa<|Qo 36 Y<|Qm Y<|Qa<|Qe<|Ab<|Aj ?_;exact Al Y Y Y
end
section
open Go.Eng Go.ChangeShapes Go.WideShapes Go.ChangeAt Go.RowKit Go.Deep
theorem own:ownKnob Tryz.prog.godebug=none:=by kernel_rfl
theorem AdZ{w w':World}(E:Ext w w'):Below w.heap.size w w':=⟨E.os,E.tape.tape,E.output,E.size,E.block⟩
theorem UX:laidOutB Tryz.prog=true:=by kernel_rfl
section
variable {H:Type} {enc:TypeId×Value->H} {w:World} {base:Nat} {spare:Nat->Bool} {held:Bool}
theorem Xr(n:Nat)(cs:List Value)(y:DataW H×List MemPlace)(h:DataW.trod enc Tryz.prog w base spare held n 3 cs=some y):∃a,cs=cI a/\Cd a:=by obtain⟨b,h1,_,h2⟩:=DataW.trod_int U3 h;exact⟨b,h1,bounds_i64 h2⟩
theorem VT{v:Value}{fuel:Nat}{x:DataW H×List MemPlace}(h:DataW.trod enc Tryz.prog w base spare held fuel 22 [v]=some x):∃l,RdL cI 1 (whole w) [] v l/\∀a∈l,Cd a:=
 Z1 AZ κ A8 δ Xr h
end
end
end Go.Proofs.Q
namespace Go.Proofs.YtmgaeedkcecckaaGreatDoor
open Go Go.ChangeShapes Go.WideShapes Go.ChangeAt Go.RowKit Go.Proofs.Q

theorem Aap:(Rows.answerTorusRow.inPlace==Tryz.prog.inPlace 9)=true:=by kernel_rfl
theorem ZO:(Rows.answerTorusRow.unfollowed==Tryz.prog.unfollowed 9)=true:=by kernel_rfl
theorem Y0:(Rows.answerTorusRow.recurses==Tryz.prog.recurses 9)=true:=by kernel_rfl
theorem Zj:(Rows.answerTorusRow.named==Tryz.prog.varsNamed 9)=true:=by kernel_rfl

theorem ZI:false=Tryz.prog.looks []:=by kernel_rfl
theorem torus_g2:Tryz.prog.funcNamed "cocycle/cocyclelaw10.AnswerTorus" = some 9:=by kernel_rfl
theorem XY:false=Rows.answerTorusRow.goesBy Tryz.prog:=by kernel_rfl
end Go.Proofs.YtmgaeedkcecckaaGreatDoor
namespace Go.Proofs.Q
open Go.Proofs.Tryz
open Go.Eng Go.RowKit
section
variable {M:List Bool} {o:List Cl} {c0 x:Int} {Q:List Int} {k:Nat}
def XO(o:List Cl)(c:Int):List Int:=(GF o c).sd.map Prod.fst
theorem Abq(g n:Nat)(hn:n<=9223372036854775807):OwnL cB 1 4 (BI g 4 (replicate n (Value.bool false))) (.slice (some ⟨g,0,none⟩) n n) (replicate n false):=
 ⟨⟨by rw[<-Uj];simp,.inr ⟨g,n,[],by simp,by rw[<-Uj];simp,by rw[<-Uj];simp,by simp,hn⟩⟩,AdD⟩
def MkC(o:List Cl)(M:List Bool)(x:Int):Prop:=∃k,k<o.length/\(o.getD k default).id=x/\M.getD k false=true
structure ReI(o:List Cl)(c0:Int)(M:List Bool)(Q:List Int):Prop where
 len:M.length=o.length
 rM:∀x,MkC o M x->Rch (XO o) c0 x
 rQ:∀x∈Q,Rch (XO o) c0 x
 st:c0∈Q\/MkC o M c0
 cl:∀x,MkC o M x->∀s∈XO o x,s∈Q\/MkC o M s
theorem ReI.start(o:List Cl)(c0:Int):ReI o c0 (replicate o.length false) [c0]:=by
 have hn:∀x,¬MkC o (replicate o.length false) x:=λx ⟨k,hk,_,h⟩=>by simp[List.getD,hk]at h
 exact⟨by simp,λx h=>ie h (hn x),λx h=>by rw[bm.1 h];exact .refl _,.inl (bm.2 Y),λx h=>ie h (hn x)⟩
theorem ReI.mem(R:Rgt o)(hc:c0∈o.map Cl.id)(I:ReI o c0 M Q)(h:Rch (XO o) c0 x):∃y∈o,y.id=x:=by
 have:x∈o.map Cl.id:=by
  induction h with
  | refl=>exact hc
  | step h hk ih=>
   obtain⟨z,hz,rfl⟩:=ag.1 ih;unfold XO at hk;rw[DT R.nd hz]at hk;obtain⟨s,hs,rfl⟩:=ag.1 hk;obtain⟨w,hw,e,_⟩:=R.sid z hz s hs;exact ag.2 ⟨w,hw,e⟩
 obtain⟨y,hy,e⟩:=ag.1 this;exact⟨y,hy,e⟩
theorem ReI.skip(I:ReI o c0 M (x::Q))(hx:MkC o M x):ReI o c0 M Q:=by
 refine⟨I.len,I.rM,λy hy=>I.rQ y (bi _ hy),?_,λy hy s hs=>?_⟩
 ·rcases I.st with h|h
  ·rcases bg.1 h with rfl|h
   ·exact .inr hx
   ·exact .inl h
  ·exact .inr h
 ·rcases I.cl y hy s hs with h|h
  ·rcases bg.1 h with rfl|h
   ·exact .inr hx
   ·exact .inl h
  ·exact .inr h
theorem MkC.set(hk:k<M.length):MkC o (M.set k true) x<->MkC o M x\/(k<o.length/\(o.getD k default).id=x):=by
 constructor
 ·rintro⟨q,h1,h2,h3⟩;by_cases e:k=q
  ·subst e;exact .inr ⟨h1,h2⟩
  ·refine .inl ⟨q,h1,h2,?_⟩
   rwa [show(M.set k true).getD q false=M.getD q false by simp[List.getD,List.getElem?_set_ne e]]at h3
 ·rintro(⟨q,h1,h2,h3⟩|⟨h1,h2⟩)
  ·refine⟨q,h1,h2,?_⟩;by_cases e:k=q
   ·subst e;simp[List.getD,hk]
   ·rw[show(M.set k true).getD q false=M.getD q false by simp[List.getD,List.getElem?_set_ne e]];exact h3
  ·exact⟨k,h1,h2,by simp[List.getD,hk]⟩
theorem ReI.mark(R:Rgt o)(I:ReI o c0 M (x::Q))(hk:k<o.length)(e:(o.getD k default).id=x):ReI o c0 (M.set k true) (Q++(o.getD k default).sd.map Prod.fst):=by
 have hkM:k<M.length:=by rw[I.len];exact hk
 have hs:XO o x=(o.getD k default).sd.map Prod.fst:=by unfold XO;rw[<-e,DT R.nd (Wb hk)]
 have hrx:=I.rQ x Mh;refine⟨by rw[List.length_set];exact I.len,λy hy=>?_,λy hy=>?_,?_,λy hy s hs'=>?_⟩
 ·rcases (MkC.set hkM).1 hy with h|⟨_,h⟩
  ·exact I.rM y h
  ·rw[<-h,e];exact hrx
 ·rcases bj.1 hy with h|h
  ·exact I.rQ y<|bi _ h
  ·exact .step hrx (by rw[hs];exact h)
 ·rcases I.st with h|h
  ·rcases bg.1 h with rfl|h
   ·exact .inr ((MkC.set hkM).2<|.inr ⟨hk,e⟩)
   ·exact .inl<|bj.2<|.inl h
  ·exact .inr ((MkC.set hkM).2<|.inl h)
 ·rcases (MkC.set hkM).1 hy with h|⟨_,h⟩
  ·rcases I.cl y h s hs' with h2|h2
   ·rcases bg.1 h2 with rfl|h2
    ·exact .inr ((MkC.set hkM).2<|.inr ⟨hk,e⟩)
    ·exact .inl<|bj.2<|.inl h2
   ·exact .inr ((MkC.set hkM).2<|.inl h2)
  ·rw[<-h,e,hs]at hs';exact .inl<|bj.2<|.inr hs'
theorem ReI.all(R:Rgt o)(I:ReI o c0 M [])(hk:k<o.length):M.getD k false=true<->Rch (XO o) c0 (o.getD k default).id:=by
 have hcl:∀x,Rch (XO o) c0 x->MkC o M x:=λx h=>by
  induction h with
  | refl=>exact I.st.resolve_left nofun
  | step h hk' ih=>exact(I.cl _ ih _ hk').resolve_left nofun
 constructor
 ·intro h;exact I.rM _ ⟨k,hk,Y,h⟩
 ·intro h;obtain⟨q,h1,h2,h3⟩:=hcl _ h;have:=Adt R.nd h1 hk h2;subst this;exact h3
def Xb(M:List Bool)(Q:List Int):Nat:=M.count false*70+Q.length
theorem YM(hk:k<M.length)(h:M.getD k false=false){S:List Int}(hS:S.length<=64):Xb (M.set k true) (Q++S)<Xb M (x::Q):=by
 have hc:(M.set k true).count false+1=M.count false:=by
  have hg:M[k]=false:=by simpa[List.getD,hk] using h
  have h1:=List.count_set (a:=true) (b:=false) (l:=M) (i:=k) hk;rw[hg]at h1;have h2:0<M.count false:=List.count_pos_iff.2 (by rw[<-hg];exact ao hk);simp at h1;omega
 unfold Xb;rw[length_append,length_cons];omega
theorem AaD(M:List Bool)(x:Int)(Q:List Int):Xb M Q<Xb M (x::Q):=by unfold Xb;rw[length_cons];omega
def JH(o:List Cl)(M:List Bool)(n:Nat):List Int:=((range n).filter λk=>M.getD k false).map λk=>(o.getD k default).id
theorem YP(R:Rgt o)(hc:c0∈o.map Cl.id)(I:ReI o c0 M [])(x:Int):x∈JH o M o.length<->Rch (XO o) c0 x:=by
 unfold JH;rw[ag];constructor
 ·rintro⟨k,hk,rfl⟩;obtain⟨h1,h2⟩:=dh.1 hk;exact(I.all R (cm.1 h1)).1 h2
 ·intro h;obtain⟨y,hy,rfl⟩:=I.mem R hc h;obtain⟨k,hk,rfl⟩:=List.getElem_of_mem hy;have e:(o.getD k default).id=o[k].id:=by simp[List.getD,hk]
  refine⟨k,dh.2 ⟨cm.2 hk,?_⟩,e⟩;exact(I.all R hk).2 (by rw[e];exact h)
theorem Xp(o:List Cl)(M:List Bool)(n:Nat):JH o M (n+1)=JH o M n++if M.getD n false then [(o.getD n default).id] else []:=by
 unfold JH;rw[List.range_succ,filter_append,dd];congr 1;cases h:M.getD n false
 ·rw[List.filter_cons,h];simp
 ·rw[List.filter_cons,h];simp
end
theorem _root_.Go.Eng.OwnQ.o1{α:Type}{F:α->List Value}{sz:Nat}{el:TypeId}{m:Hp}{v:Value}{l:List α}(O:OwnQ F sz el m v l):v.oneCell'=true:=(O.rd (h:=Hp.emp) (ms:=[m]) (List.Mem.head _)).rd.one
section
theorem Tu(A:List Ce)(v vq:Value)(c0:Int)(hp:Hp)(F:RgtF (A.map Ce.c))(hc:c0∈(A.map Ce.c).map Cl.id)(hR:RdL cC 3 hp [] v A)(hAs:∀a∈A,RdL cD 2 hp [] a.v a.c.sd)(hq:RdL cI 1 hp [] vq [c0]):FnT Tryz.prog 167 #[v,vq] hp [] (fun r h' ms'=>hp.le h'/\∃m M,ms'=[m]/\OwnL cB 1 4 m r M/\ReI (A.map Ce.c) c0 M []):=by
 have o1:=hR.rd.one;have o2:=hq.rd.one;have G:=F.rgt;obtain⟨o,ho⟩:∃o,A.map Ce.c=o:=⟨_,Y⟩
 rw[ho]at F G hc;rw[ho];have hAl:A.length=o.length:=by rw[<-ho,be]
 have hol:o.length<=4000:=G.n;have hge:∀i (hi:i<A.length),o[i]'ω=A[i].c:=λi hi=>by subst ho;simp
 refine Ap func167 ntmps167 rfl rfl<|λw0 hw0=>?_;simp only[AR];refine Ar<|Qm rfl<|Bp<|Qm rfl<|Qx (Aq hR.rd.any rfl B0 rfl) rfl<|Fb (n:=_) rfl AaZ el4 rfl rfl rfl (by rfl) (by rfl) ω ω rfl rfl rfl<|λg11=>Qm rfl<|Am ?_;have hM0:=Abq g11 A.length ω;refine Ar ?_;refine AO [] [] [] rfl AZ Bk rfl ω κ (by repeat (first|exact ej|refine⟨⟨by first|rfl|exact(hR.rd.any).cells|exact Rd.cells ‹_›|exact(RdL.rd ‹_›).cells,rfl,rfl⟩,?_⟩)) rfl rfl rfl rfl<|λg12=>?_;refine Qm rfl ?_;refine L4 0 (FZ g12 A8).q hq.any rfl AZ Bk rfl ω rfl rfl rfl (λa _=>BT a) (by(simp;done)) (by(simp;done)) rfl rfl rfl<|λv6 m6 hO6=>?_;have hI0:=ReI.start o c0;have hr0:Xb (replicate o.length false) [c0]<=300000:=by unfold Xb;rw[List.count_replicate_self];simp;omega
 refine Qm Y<|Am<|Ac<|Ag ?_
 refine AB (λq sl h' ms'=>∃(M:List Bool) (Q:List Int) (m5 m6:Hp) (v6:Value),q=Xb M Q/\sl=[(0,v),(4,.nl),(5,.slice (some ⟨g11,0,none⟩) A.length A.length),(6,v6)]/\hp=h'/\ms'=[m6,m5]/\Xb M Q<=300000/\ReI o c0 M Q/\OwnL cB 1 4 m5 (.slice (some ⟨g11,0,none⟩) A.length A.length) M/\OwnQ cI 1 3 m6 v6 Q)
  _ _ ⟨replicate o.length false,[c0],_,_,_,rfl,rfl,rfl,rfl,hr0,hI0,by rw[<-hAl];exact hM0,hO6⟩ Qs ?_
 rintro q sl h' ms' ⟨M,Q,m5,m6,v6,rfl,rfl,rfl,rfl,hr,hI,hO5,hO6⟩;have ov6:=hO6.o1;refine Ac (Ar (Qm rfl (Qx (Aq (hO6.rd (h:=hp) (ms:=[m6,m5]) Mh).rd rfl AZ rfl) rfl (Qm rfl (Am ?_)))));refine Aw rfl (fun hql=>?_) (fun hql=>?_)
 ·obtain⟨x,Q,rfl⟩:∃x Q',Q=x::Q':=by
   cases Q with
   | nil=>simp at hql
   | cons x Q'=>exact⟨x,Q',Y⟩
  have cq:Cell hp [m6,m5] ((AH v6).add (0*1)) (.w x):=(hO6.rd (h:=hp) (ms:=[m6,m5]) Mh).cell0 (j:=0) σ rfl;obtain⟨y,hy,ey⟩:=hI.mem G hc (hI.rQ x Mh);obtain⟨hat,hgk⟩:=ON F.inc hy;rw[ey]at hat hgk;obtain⟨k,hk⟩:∃k:Nat,K2 o x=k:=⟨_,(Int.toNat_of_nonneg hat).symm⟩
  rw[hk,Int.toNat_natCast]at hgk;have hko:k<o.length:=by have:=OQ o x;omega
  have hkA:k<A.length:=ω
  have hkM:k<M.length:=by rw[hI.len];exact hko
  have hkid:(o.getD k default).id=x:=by rw[hgk,ey]
  refine Ah<|Ab<|Ag<|Ar<|Qm Y<|Qm Y<|Qx (AM 0 (hO6.rd (h:=hp) (ms:=[m6,m5]) Mh).rd Y AZ Bk Y Y Y ω) Y<|Ql Y U3 (cq) ?_;refine Qx (As Y call109 Y ((by have:=Adz A v x hp ω (by rw[ho];exact F.inc.imp λh=>Int.le_of_lt h) hR [m6,m5];rwa [ho,hk]at this))) rfl ?_;refine Qm Y<|Bp<|Qm Y<|Qx (C8 1 (hO6.rd (h:=hp) (ms:=[m6,m5]) Mh).rd Y AZ Bk Y Y Y σ) rfl<|Qm rfl<|Am ?_;have hO6:=hO6.tail;obtain⟨w6,hw6⟩:∃w,CP 1 v6 1 (Q.length+1)=w:=⟨_,Y⟩
  simp only[length_cons,hw6]at hO6 ⊢;have ov6:=hO6.o1;have cb:∀ms,m5∈ms->Cell hp ms ((AH (.slice (some ⟨g11,0,none⟩) A.length A.length)).add (k*1)) (.bool M[k]):=fun ms hm=>(hO5.rd hm).cell0 hkM rfl;refine Ac (Ar (Qm rfl (Qm rfl (Qm rfl ?_))));refine AU (t:=27) rfl (fun hs=>?_) (fun hs=>?_)
  ·omega
  ·refine Qg (Au Y Y) Y<|Qg (Au Y Y) Y<|Qg (Cf (k) Y AaZ el4 Y Y ω ω) Y<|Qg (oL Y U4<|cb _<|.tail _<|.head _) Y<|Qm Y<|Am ?_;refine BW Y (λhb=>?_)<|λhb=>?_
   ·have hmk:MkC o M x:=⟨k,hko,hkid,by rw[show M.getD k false=M[k] by simp[List.getD,hkM]];exact hb⟩
    have hlt:=AaD M x Q;refine Ax (Aa (Af ?_));exact Ao (Xb M Q) _ hlt ⟨M,Q,m5,m6,w6,rfl,rfl,rfl,rfl,by omega,hI.skip hmk,hO5,hO6⟩ Qs
   ·have hmf:M.getD k false=false:=by rw[show M.getD k false=M[k] by simp[List.getD,hkM]];exact hb
    obtain⟨z,hz⟩:∃z,A[k]=z:=⟨_,Y⟩
    have hzo:o.getD k default=z.c:=by rw[show o.getD k default=o[k] by simp[List.getD,hko],hge k hkA,hz]
    have hI':=hI.mark G hko hkid;rw[hzo]at hI';have hX:=hAs z (by rw[<-hz];exact ao hkA);have hzl:z.c.sd.length<=64:=by have:=(F.bds (ao hko)).2.1;rwa [hge k hkA,hz]at this
    have hlt:=YM (x:=x) (Q:=Q) (S:=z.c.sd.map Prod.fst) hkM hmf (by rw[length_map];omega);have hQl:Q.length<=300000:=by unfold Xb at hr;rw[length_cons]at hr;omega
    have cx:∀ms,Cell hp ms (((AH v).add (k*3)).add 2) z.v:=λms=>by rw[<-hz];exact(hR.any (ms:=ms)).cell (j:=k) hkA (f:=2) Y
    refine Ah<|Ab<|Ar<|Qm Y<|Qm Y<|Qx (Cf (k) Y AaZ el4 Y Y ω ω) Y<|CV (F:=cB) (f:=λx=>.bool x) (a:=true) 1 k (λ_=>rfl) hO5 Y el4 Y Y Y Y hkM Y Y<|λm7 hO7=>Bp<|Qm Y<|Am<|Ag ?_
    refine AB (λq sl h' ms'=>∃(j:Nat) (m6:Hp) (v6:Value),q=z.c.sd.length-j/\sl=[(0,v),(4,.nl),(5,.slice (some ⟨g11,0,none⟩) A.length A.length),(6,v6),(7,.w k),(8,.w j)]/\hp=h'/\ms'=[m6,m7]/\j<=z.c.sd.length/\OwnQ cI 1 3 m6 v6 (Q++(z.c.sd.take j).map Prod.fst))
     (z.c.sd.length-0) _ ⟨0,m6,w6,rfl,rfl,rfl,rfl,by omega,by simpa using hO6⟩ Qs ?_
    rintro q sl h' ms' ⟨j,m6,v6,rfl,rfl,rfl,rfl,hj,hO6⟩;have ov6:=hO6.o1;have hql:(Q++(z.c.sd.take j).map Prod.fst).length<=400000:=by rw[af,be,ay];omega
    refine Ac<|Ar<|Qm Y<|Qm Y<|Qm Y<|Qx (AM _ hR.rd.any Y B0 A3 Y Y Y ω) Y<|Qf BU Y<|Ql Y Da (cx _)<|Qx (Aq hX.rd.any Y Da Y) Y<|Qm Y<|Am ?_;refine Aw Y (λhjl=>?_)<|λhjl=>?_
    ·have hjn:j<z.c.sd.length:=ω
     obtain⟨s,hs⟩:∃s,z.c.sd[j]=s:=⟨_,Y⟩
     have cs:∀ms,Cell hp ms (((AH z.v).add (j*2)).add 0) (.w s.1):=λms=>by
      have:Seg hp ms ((AH z.v).add (j*2)) (cD s):=by rw[<-hs];exact(hX.any (ms:=ms)).seg hjn
      exact this 0 _ Y
     refine Ah<|Ab<|Ac<|Ag<|Ad<|Qm Y<|Qm Y<|Qm Y<|Qx (BC (k) hR.rd.any Y B0 A3 Y Y) Y<|Qf BU Y<|Ql Y Da (cx _)<|Qm Y<|Qx (BC (j) hX.rd.any Y Da BX Y Y) Y<|Qf Dl Y<|Ql Y U3 (cs _)<|Ay [_] Y AZ Bk Y (by rfl) Y Y ω Y Y Y<|λg56=>L4 1 hO6 (RdL.one A8 (x:=s.1) Mh Y) Y AZ Bk Y ω Y Y Y (λa _=>BT a) (by(try simp only[ab]);omega) (by(try simp only[ab]);omega) rfl rfl rfl<|λv9 m9 hO9=>?_;have ov9:=hO9.o1;refine Qm Y<|An<|Ai<|Ab<|Ad<|Qm Y<|Qx (oA Y) Y<|Qm Y<|An<|AQ ?_;exact Ao (z.c.sd.length-(j+1)) _ ω ⟨j+1,m9,v9,Y,Y,Y,Y,ω,by rw[ak hjn,dd,<-cz,hs];exact hO9⟩ Qs
    ·obtain rfl:j=z.c.sd.length:=ω
     rw[fe]at hO6;refine Ax<|Aa<|Aa<|Af<|Ai ?_;exact Ao (Xb (M.set k true)<|Q++z.c.sd.map Prod.fst) _ hlt ⟨M.set k true,Q++z.c.sd.map Prod.fst,m7,m6,v6,Y,Y,Y,Y,ω,hI',hO7,hO6⟩ Qs
 ·obtain rfl:Q=[]:=by
   cases Q with
   | nil=>rfl
   | cons x Q'=>simp at hql
  refine Ax<|Aa<|Aa<|Af<|Ab<|Ar<|Qm Y<|Qm Y<|Am<|Aj<|AQ ?_;exact Al Y Y (⟨BE,m5,M,Y,hO5,hI⟩)
theorem QZ(l:List Ce)(v vq:Value)(c0:Int)(hp:Hp)(hK:RgC l)(hR:RdC hp v l)(hq:RdL cI 1 hp [] vq [c0])(hc:c0∈(cn l).map Cl.id):FnT Tryz.prog 132 #[.agg #[v],vq] hp [] (λr h' ms'=>hp.le h'/\∃m M,ms'=[m]/\OwnL cI 1 3 m r (JH (cn l) M (cn l).length)/\ReI (cn l) c0 M []):=by
 have o1:=hR.q.rd.one;have o2:=hq.rd.one;have hln:=hK.r.n;rw[be]at hln;refine Ap func132 ntmps132 Y Y<|λw0 hw0=>?_;simp only[AR];refine Ar<|AK [_] Y Y (by rfl) Y Y Y<|λg2=>Qm Y<|Am<|Av 0 Y λh1 l1 hS=>?_;have hR:=hR.up l1;have hq:=hq.up l1;refine Ar<|Qx (oG Y C9 Bd<|Seg.any hS) Y<|Qc call74 Y (LP l v h1 hK.r.cs hR)<|λrC h2 ms2 l2 hF=>?_;obtain⟨l2',mC,A,rfl,hOC,hA,hAs⟩:=hF;rw[Ko hK.r]at hA;obtain⟨o,ho⟩:∃o,cn l=o:=⟨_,Y⟩
 have hA:A.map Ce.c=o:=by rw[hA,<-ho];rfl
 have F:RgtF o:=by rw[<-ho];exact hK.F
 have G:=F.rgt;rw[ho]at hc;rw[ho];have hAl:A.length=o.length:=by rw[<-hA,be]
 have hol:o.length<=4000:=G.n;have oC:=hOC.o1;refine Qm Y<|Am<|Cx hOC λh3 l3 hQ=>?_;have hAs:∀a∈A,RdL cD 2 h3 [] a.v a.c.sd:=λa ha=>(hAs a ha).up l3;have l13:=AD l2' l3;have hge:∀i (hi:i<A.length),o[i]'ω=A[i].c:=λi hi=>by subst hA;simp
 refine Ar<|Qm Y<|Qm Y ?_;refine Qc call167 Y (Tu A rC vq c0 h3 (by rw[hA];exact F) (by rw[hA];exact hc) hQ hAs<|hq.up l13)<|λrM h4 ms4 l4 hF=>?_;obtain⟨l4',mM,M,rfl,hOM,hI⟩:=hF;rw[hA]at hI;have oM_:=hOM.o1;have hQ:=hQ.up l4';refine Qm Y<|Am<|Cx hOM λh5 l5 hB=>?_;have hQ:=hQ.up l5;refine Ar<|Qm Y<|Am<|Ac<|Ar<|Qm Y<|Am<|Ag<|BV ?_
 refine AB (λq sl h' ms'=>∃(i:Nat) (v7:Value) (m:Hp),q=A.length-i/\sl=[(4,.nl),(5,rC),(6,rM),(7,v7),(8,.w i)]/\h5=h'/\ms'=[m]/\i<=A.length/\OwnL cI 1 3 m v7 (JH o M i))
  (A.length-0) _ ⟨0,_,Hp.emp,rfl,rfl,rfl,rfl,ω,OwnL.nil A8⟩ Qs ?_
 rintro q sl h' ms' ⟨i,v7,m7,rfl,rfl,rfl,rfl,hi,hO7⟩;have ov7:=hO7.o1;refine Ac<|Ar<|Qm Y<|Qm Y<|Qx (Aq hQ.rd.any Y B0 Y) Y<|Qm Y<|Am ?_;refine Aw Y (λhlt=>?_)<|λhlt=>?_
 ·have hil:i<A.length:=ω
  have hio:i<o.length:=ω
  have hiM:i<M.length:=by rw[hI.len];exact hio
  obtain⟨x,hx⟩:∃x,A[i]=x:=⟨_,Y⟩
  have hxo:o.getD i default=x.c:=by rw[show o.getD i default=o[i] by simp[List.getD,hio],hge i hil,hx]
  have cb:∀ms,Cell h5 ms ((AH rM).add (i*1)) (.bool M[i]):=λms=>(hB.any (ms:=ms)).cell0 hiM Y;have cx:∀ms,Cell h5 ms (((AH rC).add (i*3)).add 0) (.w x.c.id):=λms=>by rw[<-hx];exact(hQ.any (ms:=ms)).cell (j:=i) hil (f:=0) Y
  have hk:=Xp o M i;rw[hxo,show M.getD i false=M[i] by simp[List.getD,hiM]]at hk
  have hfl:(JH o M i).length<=4000:=by unfold JH;rw[be];exact bl (fd _ _) (by rw[List.length_range];omega)
  refine Ah<|Ab<|Ac<|Ag<|Ar<|Qm Y<|Qm Y<|Qx (BC (i) hB.rd.any Y AaZ el4 Y Y) Y<|Ql Y U4 (cb _)<|Am ?_;refine BW Y (λhb=>?_)<|λhb=>?_
  ·rw[hb,ah rfl]at hk;refine Ad<|Qm Y<|Qm Y<|Qm Y<|Qx (BC (i) hQ.rd.any Y B0 A3 Y Y) Y<|Qf BZ Y<|Ql Y U3 (cx _)<|Ay [_] Y AZ Bk Y (by rfl) Y Y ω Y Y Y<|λg30=>AJ 1 hO7 (RdL.one A8 (x:=x.c.id) Mh Y) Y AZ Bk Y ω Y Y Y BT (by(try simp only[ab]);omega) (by(try simp only[ab]);omega) rfl rfl rfl<|λv9 m9 hO9=>?_;rw[<-hk]at hO9;have ov9:=hO9.o1;refine Qm Y<|An<|Ai<|Ab<|Ad<|Qm Y<|Qx (oA Y) Y<|Qm Y<|An<|AQ ?_;exact Ao (A.length-(i+1)) _ ω ⟨i+1,v9,m9,Y,Y,Y,Y,ω,hO9⟩ Qs
  ·rw[hb,ae δ,List.append_nil]at hk;refine Ah<|Ai<|Ab<|Ad<|Qm Y<|Qx (oA Y) Y<|Qm Y<|An ?_;exact Ao (A.length-(i+1)) _ ω ⟨i+1,v7,m7,Y,Y,Y,Y,ω,by rw[hk];exact hO7⟩ Qs
 ·obtain rfl:i=A.length:=ω
  refine Ax<|Aa<|Aa<|Af<|Ab<|Ar<|Qm Y<|Qm Y<|Am<|Aj ?_;exact Al Y Y (⟨AD l1 (AD l13 (AD l4' l5)),m7,M,Y,by rw[hAl]at hO7;exact hO7,hI⟩)
def XP(C ids:List Int):List Int:=ids.flatMap λd=>C.filter λc=>decide (c=d)
theorem Yx(C:List Int):∀ids:List Int,(XP C ids).length<=ids.length*C.length
 | []=>Nat.zero_le _
 | d::ids=>by have ih:=Yx C ids;have h1:(C.filter fun c=>decide (c=d)).length<=C.length:=List.length_filter_le _ _;show(C.filter _++XP C ids).length<=_;rw[length_append,length_cons,Nat.succ_mul];omega
theorem Aar(C ids:List Int){i:Nat}(hi:i<ids.length):XP C (ids.take (i+1))=XP C (ids.take i)++C.filter λc=>decide (c=ids[i]):=by unfold XP;rw[ak hi,dx];simp
theorem ZQ(a b:List Int)(va vb:Value)(h:Hp)(hA:RdL cI 1 h [] va a)(hB:RdL cI 1 h [] vb b)(ms:List Hp):FnV Tryz.prog 81 #[va,vb] h ms (.bool (decide (a=b))):=by
 refine DY ?_ ms;have la:=hA.len_le;have lb:=hB.len_le;have oa:=hA.rd.one;have ob:=hB.rd.one;refine Ap func81 ntmps81 Y Y<|λw0 hw0=>?_;simp only[AR];refine Ar<|Qm Y<|Am<|Ac<|Ar<|Qm Y<|Qx (Aq hA.rd.any Y AZ Y) Y<|Qm Y<|Qx (Aq hB.rd.any Y AZ Y) Y<|Qm Y<|Am ?_;refine Aw Y (λhne=>?_)<|λhne=>?_
 ·refine Ac<|Ad<|Qm Y<|Am<|Aj<|Ae ?_;exact Al Y Y (by rw[cg];intro e;rw[e]at hne;exact hne Y)
 ·have hl:a.length=b.length:=ω
  refine Ah<|Ab<|Ac<|Ar<|Qm Y<|Am<|Ag ?_
  refine AB (λq s h' ms'=>∃(k:Nat),q=a.length-k/\s=[(0,va),(1,vb),(5,.w k)]/\h=h'/\ms'=[]/\k<=a.length/\a.take k=b.take k)
   (a.length-0) _ ⟨0,rfl,rfl,rfl,rfl,ω,rfl⟩ Qs ?_
  rintro q s h' ms' ⟨k,rfl,rfl,rfl,rfl,hk,he⟩;refine Ac<|Ar<|Qm Y<|Qm Y<|Qx (Aq hA.rd.any Y AZ Y) Y<|Qm Y<|Am ?_;refine Aw Y (λhlt=>?_)<|λhlt=>?_
  ·have hka:k<a.length:=ω
   have hkb:k<b.length:=ω
   have ca:∀ms,Cell h ms ((AH va).add (k*1)) (.w a[k]):=λms=>(hA.any (ms:=ms)).cell0 hka Y;have cb:∀ms,Cell h ms ((AH vb).add (k*1)) (.w b[k]):=λms=>(hB.any (ms:=ms)).cell0 hkb Y;refine Ah<|Ab<|Ac<|Ag<|Ac<|BB 8 CC κ Y<|Wm Y<|Wm Y<|BD (BC (k) hA.rd.any Y AZ Bk Y Y) Y Y<|Wl Y U3 (ca _)<|Wm Y<|Wm Y<|BD (BC (k) hB.rd.any Y AZ Bk Y Y) Y Y<|Wl Y U3 (cb _)<|Bu<|Qm Y<|Am ?_;refine Aw Y (λhne=>?_)<|λhne=>?_
   ·refine Ac<|Ad<|Qm Y<|Am<|Aj<|Ak<|Ae<|Ae<|Ak<|Ae ?_;exact Al Y Y (by rw[cg];rintro rfl;exact hne Y)
   ·refine Ah<|Ai<|Ab<|Ad<|Qm Y<|Qx (oA Y) Y<|Qm Y<|An ?_;refine Ao (a.length-(k+1)) _ ω ⟨k+1,Y,Y,Y,Y,ω,?_⟩ Qs;rw[gw,gw,he,aj hka,aj hkb,Decidable.not_not.1 hne]
  ·obtain rfl:k=a.length:=ω
   refine Ax<|Aa<|Aa<|Af<|Ab<|Ar<|Qm Y<|Am<|Aj ?_;exact Al Y Y (by rw[fe,hl,fe]at he;rw[bq he])
theorem RX(l:List Ce)(v:Value)(x:Int)(hp:Hp)(hK:RgC l)(hR:RdC hp v l)(hc:x∈(cn l).map Cl.id):FnT Tryz.prog 82 #[.agg #[v],.int .i64 x] hp [] (λr h' ms'=>hp.le h'/\∃m M,ms'=[m]/\OwnL cI 1 3 m r (XP (JH (cn l) M (cn l).length) (A9 (cn l) 0))/\ReI (cn l) x M []):=by
 have o1:=hR.q.rd.one;refine Ap func82 ntmps82 Y Y<|λw0 hw0=>?_;simp only[AR];refine Ar<|AK [_] Y Y (by rfl) Y Y Y<|λg2=>Qm Y<|Am<|Av 0 Y λh1 l1 hS=>?_;have hR:=hR.up l1;refine Ar<|Qx (oG Y C9 Bd<|Seg.any hS) Y<|Qm Y<|Ay [_] Y AZ Bk Y (by rfl) Y Y ω Y Y Y<|λg12=>Bg λh2 l2 hS2=>?_;have hq:RdL cI 1 h2 [] (.slice (some ⟨g12,0,none⟩) 1 1) [x]:=RdL.built hS2 Y Y A8 δ;refine Qc call132 Y (QZ l v _ x h2 hK (hR.up l2) hq hc)<|λrC h3 ms3 l3 hF=>?_;obtain⟨l3',mC,M,rfl,hO,hI⟩:=hF;have oC:=hO.o1;refine Qm Y<|Am<|Cx hO λh4 l4 hC=>?_;have l14:=AD l2 (AD l3' l4);have hol:(cn l).length<=4000:=hK.F.rgt.n
 have hCn:(JH (cn l) M (cn l).length).length<=4000:=by unfold JH;rw[be];exact bl (fd _ _) (by rw[List.length_range];exact hol)
 have hDn:(A9 (cn l) 0).length<=4000:=bl (Gr _ _) hol;obtain⟨C,hCe⟩:∃C,JH (cn l) M (cn l).length=C:=⟨_,Y⟩
 rw[hCe]at hC hCn;refine Ar<|Qx (oG Y C9 Bd<|Seg.any<|hS.le l14) Y<|Qc call35 Y (Ph l v 0 h4 hK<|hR.up l14)<|λrI h5 ms5 l5 hF=>?_;obtain⟨l5',rfl,hD⟩:=hF;have hC:=hC.up l5';have oD:=hD.rd.one;obtain⟨D,hDe⟩:∃D,A9 (cn l) 0=D:=⟨_,Y⟩
 rw[hDe]at hD hDn;have lC:=hC.len_le;have lD:=hD.len_le;refine Qm Y<|Bp<|Qm Y<|Am<|Ac<|Ar<|Qm Y<|Am<|Ag<|BV ?_
 refine AB (λq s h' ms'=>∃(i:Nat) (w:Value) (m:Hp),q=D.length-i/\s=[(5,rC),(6,rI),(7,w),(8,.w i)]/\h5=h'/\ms'=[m]/\i<=D.length/\OwnL cI 1 3 m w (XP C (D.take i)))
  (D.length-0) _ ⟨0,_,Hp.emp,rfl,rfl,rfl,rfl,ω,OwnL.nil A8⟩ Qs ?_
 rintro q s h' ms' ⟨i,w,m,rfl,rfl,rfl,rfl,hi,hW⟩;refine Ac<|Ar<|Qm Y<|Qm Y<|Qx (Aq hD.rd.any Y AZ Y) Y<|Qm Y<|Am ?_;refine Aw Y (λhlt=>?_)<|λhlt=>?_
 ·have hil:i<D.length:=ω
  have cd:∀ms,Cell h5 ms ((AH rI).add (i*1)) (.w D[i]):=λms=>(hD.any (ms:=ms)).cell0 hil Y;refine Ah<|Ab<|Ac<|Ag<|Ar<|Qm Y<|Am<|Ag ?_
  refine AB (λq s h' ms'=>∃(j:Nat) (w:Value) (m:Hp),q=C.length-j/\s=[(5,rC),(6,rI),(7,w),(8,.w i),(9,.w j)]/\h5=h'/\ms'=[m]/\j<=C.length/\OwnL cI 1 3 m w (XP C (D.take i)++(C.take j).filter λc=>decide (c=D[i])))
   (C.length-0) _ ⟨0,w,m,rfl,rfl,rfl,rfl,ω,by simpa using hW⟩ Qs ?_
  rintro q s h' ms' ⟨j,w,m,rfl,rfl,rfl,rfl,hj,hW⟩;have ow:=hW.o1;refine Ac<|Ar<|Qm Y<|Qm Y<|Qx (Aq hC.rd.any Y AZ Y) Y<|Qm Y<|Am ?_;refine Aw Y (λhlj=>?_)<|λhlj=>?_
  ·have hjl:j<C.length:=ω
   have hb1:(XP C (D.take i)++(C.take j).filter λc=>decide (c=D[i])).length<=16004000:=by have e1:=Yx C (D.take i);have e2:(D.take i).length*C.length<=4000*4000:=ep (by rw[ay];omega) hCn;have e3:((C.take j).filter λc=>decide (c=D[i])).length<=4000:=bl (fd _ _) (by rw[ay];omega);rw[af];omega
   have cc:∀ms,Cell h5 ms ((AH rC).add (j*1)) (.w C[j]):=λms=>(hC.any (ms:=ms)).cell0 hjl Y;refine Ah<|Ab<|Ac<|Ag<|Ac<|BB 8 CC κ Y<|Wm Y<|Wm Y<|BD (BC (j) hC.rd.any Y AZ Bk Y Y) Y Y<|Wl Y U3 (cc _)<|Wm Y<|Wm Y<|BD (BC (i) hD.rd.any Y AZ Bk Y Y) Y Y<|Wl Y U3 (cd _)<|Bu<|Qm Y<|Am ?_;refine Aw Y (λheq=>?_)<|λheq=>?_
   ·refine Ad<|Qm Y<|Qm Y<|Qm Y<|Qx (BC (i) hD.rd.any Y AZ Bk Y Y) Y<|Ql Y U3 (cd _)<|Ay [_] Y AZ Bk Y (by rfl) Y Y ω Y Y Y<|λg42=>AJ 1 hW (RdL.one A8 (x:=D[i]) Mh Y) Y AZ Bk Y ω Y Y Y BT (by(try simp only[ab]);omega) (by(try simp only[ab]);omega) rfl rfl rfl<|λw2 m2 hW2=>Qm rfl<|An<|Ai<|Ab<|Ad<|Qm rfl<|Qx (oA rfl) rfl<|Qm rfl<|An<|AQ ?_;exact Ao (C.length-(j+1)) _ ω ⟨j+1,w2,m2,Y,Y,Y,Y,ω,by rw[ak hjl,filter_append,List.filter_cons_of_pos (by rw[heq];exact bq Y),heq,<-cz];exact hW2⟩ Qs
   ·refine Ah<|Ai<|Ab<|Ad<|Qm Y<|Qx (oA Y) Y<|Qm Y<|An ?_;exact Ao (C.length-(j+1)) _ ω ⟨j+1,w,m,Y,Y,Y,Y,ω,by rw[ak hjl,filter_append,List.filter_cons_of_neg (by rw[decide_eq_true_eq];exact heq)];simpa using hW⟩ Qs
  ·obtain rfl:j=C.length:=ω
   rw[fe,<-Aar C D hil]at hW;refine Ax<|Aa<|Aa<|Af<|Ai<|Ab<|Ad<|Qm Y<|Qx (oA Y) Y<|Qm Y<|An ?_;exact Ao (D.length-(i+1)) _ ω ⟨i+1,w,m,Y,Y,Y,Y,ω,hW⟩ Qs
 ·obtain rfl:i=D.length:=ω
  rw[fe]at hW;refine Ax<|Aa<|Aa<|Af<|Ab<|Ar<|Qm Y<|Qm Y<|Am<|Aj ?_;exact Al Y Y (⟨AD l1 (AD l14 l5'),m,M,Y,by rw[hCe,hDe];exact hW,hI⟩)
open Go.Lin Go.Wd Go.Sm Go.Ch
theorem YH(x:Int):Cd (IntKind.i64.wrap x):=by simp only[IntKind.wrap,IntKind.bits,IntKind.signed,Cd];simp;omega
def mdV(L:List Int)(k:Nat):Int:=(IntKind.i64.wrap (L.getD (k%L.length) 0+((k/L.length:Nat):Int)))%7-3
theorem ZT(L:List Int)(k:Nat):-3<=mdV L k/\mdV L k<=3:=by unfold mdV;omega
def Tb(L ids:List Int)(n:Nat):List Tm:=(range n).map λk=>(ids.getD k 0,mdV L k)
theorem P9(L ids:List Int)(n:Nat):Tb L ids (n+1)=Tb L ids n++[(ids.getD n 0,mdV L n)]:=by unfold Tb;rw[List.range_succ,dd];rfl
theorem O4(L ids:List Int):∀n,Bf (Tb L ids n)<=3*n
 | 0=>am _
 | n+1=>by have ih:=O4 L ids n;have h:=ZT L n;rw[P9,Bn];show _+((mdV L n).natAbs+0)<=_;omega
theorem U7(a b:Int)(ha:Cd a)(hb:1<=b/\b<=1000000)(h:Hp)(ms:List Hp):FnV Tryz.prog 14 #[.int .i64 a,.int .i64 b] h ms (.int .i64 (a%b)):=by
 refine DY ?_ ms;have ha1:=ha.1;have ha2:=ha.2;have h1:a.tmod b<b:=by have:=Int.tmod_lt_of_pos a (show 0<b by omega);omega
 have h2:-b<a.tmod b:=by have:=Int.lt_tmod_of_pos a (show 0<b by omega);omega
 have h3:(a.tmod b+b)%b=a%b:=by rw[Int.add_emod_right,Int.tmod_def,Int.sub_mul_emod_self_left]
 refine Ap func14 ntmps14 Y Y<|λw0 hw0=>?_;simp only[AR];refine Ar<|Qm Y<|Bp<|Qm Y<|Qm Y<|Qx (X3 Y Y Y ω) Y<|Qm Y<|Qx (oA Y) Y<|Qm Y<|Qx (C6 Y Y Y ω ω) Y<|Qm Y<|Am<|Aj ?_;exact Al Y Y (by rw[h3])
set_option exponentiation.threshold 4000000 in
theorem Ad5(l:List Ce)(v vL:Value)(d:Int)(L:List Int)(h:Hp)(Q:QsOk v h l)(hL:RdL cI 1 h [] vL L):FnT Tryz.prog 27 #[.agg #[v],.int .i64 d,vL] h [] (λr h' ms'=>h.le h'/\ms'=[]/\CanV (cf (Tb L (A9 (cn l) d) (if L.length=0 then 0 else(A9 (cn l) d).length))) (3*(A9 (cn l) d).length) (A9 (cn l) d).length r h'):=by
 have ov:=Q.X.rd.q.rd.one;have oL_:=hL.rd.one;refine Ap func27 ntmps27 Y Y<|λw0 hw0=>?_;simp only[AR];refine Ar<|AK [_] Y Y (by rfl) Y Y Y<|λg3=>Qm Y<|Am<|Av 0 Y λh1 l1 hS=>Ar<|Qx (oG Y C9 Bd<|Seg.any hS) Y<|Qm Y<|Qc call35 Y (Ph l v d h1 Q.K<|Q.X.rd.up l1)<|λw h2 ms2 l2 hF=>?_;obtain⟨l2',rfl,hI⟩:=hF;have l02:=AD l1 l2';obtain⟨ids,hids⟩:∃ids,A9 (cn l) d=ids:=⟨_,Y⟩
 have hm:(A9 (cn l) d).length<=100:=Q.many d
 have hiI:∀x∈ids,Cd x:=λx hx=>by rw[<-hids]at hx;obtain⟨y,hy,e,_⟩:=mem_ids.1 hx;obtain⟨z,hz,rfl⟩:=ag.1 hy;exact e ▸ Q.X.ids z hz
 rw[hids]at hI hm ⊢;obtain⟨n,hn⟩:∃n,ids.length=n:=⟨_,Y⟩
 rw[hn]at hm ⊢;have ow:=hI.rd.one;obtain⟨M,hM⟩:∃M,L.length=M:=⟨_,Y⟩
 have hMl:=hL.len_le;rw[hM]at hMl ⊢;have rI:∀h',h2.le h'->∀ms,Rd h' ms w 1 n (ids.flatMap cI):=λh' q ms=>by have:=((hI.up q).rd).any (ms:=ms);rwa [hn]at this
 have rL:∀h',h2.le h'->∀ms,Rd h' ms vL 1 M (L.flatMap cI):=λh' q ms=>by have:=((hL.up (AD l02 q)).rd).any (ms:=ms);rwa [hM]at this
 refine Qm Y<|Bp<|Qm Y<|Am<|Ac<|Ar<|Qm Y<|Am<|Ag ?_;refine AB (λq sl h' ms'=>∃(k:Nat) (w8:Value),n-k=q/\sl=[(2,vL),(7,w),(8,w8),(9,.w (k:Int))]/\h2.le h'/\ms'=[]/\k<=n/\(k=0\/0<M)/\CanV (cf (Tb L ids k)) (Bf (Tb L ids k)) k w8 h') (n-0) _ ⟨0,_,Y,Y,BE,Y,ω,.inl Y,[],H7,DD _,Nat.zero_le _,Nat.zero_le _⟩ Qs ?_;rintro q sl h' ms' ⟨k,w8,rfl,rfl,lh,rfl,hk,hkM,hC⟩;have o8:w8.oneCell'=true:=by obtain⟨_,_,q,_⟩:=hC;exact q.rd.rd.one
 have fin:(k=n\/M=0)->CanV (cf (Tb L ids (if M=0 then 0 else n))) (3*n) n w8 h':=λq=>by
  have hk2:k=if M=0 then 0 else n:=by split<;>omega
  obtain⟨x,C,R,a,b⟩:=hC;have:=O4 L ids k;exact⟨x,hk2 ▸ C,R,ω,ω⟩
 refine Ac<|Ar<|Qm Y<|Qm Y<|Qx (Aq (rI _ lh _) Y AZ Y) Y<|Qm Y<|Qm Y ?_;refine AU (t:=18) Y (λhs=>?_)<|λhs=>?_
 ·refine Qg (Au Y Y) Y<|Qg (Aq (rL _ lh _) Y AZ Y) Y<|Qg (Ci Y Y Y) Y<|Qm Y<|Am ?_;refine Aw Y (λhMp=>?_)<|λhMp=>?_
  ·have hkn:k<n:=ω
   have hM0:0<M:=ω
   have hkm:k%M<M:=Nat.mod_lt _ hM0;obtain⟨a,ha⟩:∃a,L[k%M]'ω=a:=⟨_,Y⟩
   obtain⟨c,hc⟩:∃c,ids[k]'ω=c:=⟨_,Y⟩
   have hcI:Cd c:=hiI c (hc ▸ ao _);have ca:∀ms,Cell h' ms ((AH vL).add (k%M*1)) (.w a):=λms=>((hL.up (AD l02 lh)).any (ms:=ms)).cell0 (j:=k%M) ω (by rw[ha];rfl);have cc:∀ms,Cell h' ms ((AH w).add (k*1)) (.w c):=λms=>((hI.up lh).any (ms:=ms)).cell0 (j:=k) ω (by rw[hc];rfl);have e1:((k:Int)%(M:Int))=((k%M:Nat):Int):=ω
   have e2:((k:Int)/(M:Int))=((k/M:Nat):Int):=ω
   obtain⟨x,hx⟩:∃x,mdV L k=x:=⟨_,Y⟩
   have hxb:=ZT L k;rw[hx]at hxb
   have hxe:IntKind.i64.wrap (a+((k/M:Nat):Int))%7-3=x:=by rw[<-hx];unfold mdV;rw[hM,show L.getD (k%M) 0=a by simp[List.getD,hM,hkm,ha]]
   have etk:Tb L ids (k+1)=Tb L ids k++[(c,x)]:=by rw[P9,hx,show ids.getD k 0=c by simp[List.getD,hn,hkn,hc]]
   have osx:(sv (A7 x.natAbs)).oneCell'=true:=rfl;refine Ah<|Ab<|Ac<|Ag<|Ac<|AS (n:=15) (bs:=[ig,ig,ig,ig,ig,ig,ig,ig,ig,ig,ig,ig,ig,ig,ii]) [ig,ig,ig,ig,ig,ig,ig,ig,ig,ig,ig,ig,ig,ig] CC κ κ Y Y<|Qq Y<|Qq Y<|Qq Y<|Qp Y (Aq (rL _ lh _) Y AZ Y)<|Qp Y (Dk (C6 Y Y Y ω ω)<|aw (Value.int .i64) e1)<|Qp Y (AM (k%M) (rL _ lh _) Y AZ Bk Y Y ω ω)<|QL Y U3 (ca _)<|Qq Y<|Qq Y<|Qp Y (Aq (rL _ lh _) Y AZ Y)<|Qp Y (Dk (DC Y Y Y ω ω)<|aw (Value.int .i64) e2)<|Qp Y (VI Y Y Y)<|Qp Y (As Y call14 Y<|U7 _ 7 (YH _) δ _ _)<|Qp Y (Dk (oS Y)<|aw (Value.int .i64) hxe) ?_;unfold Dd;simp only[bh,ap];refine Qo 14 Y<|Qm Y<|Qw<|Qe ?_;obtain⟨l',CL,CR,ha',hb'⟩:=hC;have hal:=O4 L ids k;have hbt:Bf (Tb L ids (k+1))=Bf (Tb L ids k)+x.natAbs:=by rw[etk,Bn];rfl
   have hab2:Bf l'+x.natAbs<2^2000000:=b6 (show Bf l'+x.natAbs<2^10 by omega) (Nat.pow_le_pow_right δ δ);refine Ab<|AS (n:=9) (bs:=[ig,ig,ig,ig,ig,ig,ig,ii,ii]) [ig,ig,ig,ig,ig,ig,ig] CC κ κ Y Y<|Qq Y<|Qq Y<|Qq Y<|Qp Y (AM (k) (rI _ lh _) Y AZ Bk Y Y ω ω)<|QL Y U3 (cc _)<|Qq Y ?_;refine Qp Y (As Y call25 Y<|Hq x (by unfold Cd;omega) _ _) ?_;unfold Dd;simp only[bh,ap];refine Qo 7 Y<|AC (pre:=[]) Y call62 Y (Qj w8 l' _ c x h' CR CL hcI ω hab2) Y Y Y Y<|λw9 h4 ms4 l4 hF=>?_;obtain⟨l4',rfl,hC2⟩:=hF;have o9:w9.oneCell'=true:=by obtain⟨_,_,q,_⟩:=hC2;exact q.rd.rd.one
   refine Qa<|Qo 8 Y<|Qm Y<|Qa<|Qe ?_;have eup:upd (cf (Tb L ids k)) c x=cf (Tb L ids (k+1)):=by rw[etk];exact LA _ (c,x)
   rw[eup]at hC2;obtain⟨l5,CL5,CR5,ha5,hb5⟩:=hC2;refine Ai<|Ab<|Ad<|Qm Y<|Qx (oA Y) Y<|Qm Y<|An ?_;exact Ao (n-(k+1)) _ ω ⟨k+1,w9,Y,Y,AD lh l4',Y,ω,.inr hM0,l5,CL5,CR5,ω,ω⟩ Qs
  ·have hf:=fin (.inr ω);refine Ax<|Aa<|Aa<|Af<|Ab<|Ar<|Qm Y<|Qm Y<|Am<|Aj ?_;exact Al Y Y (⟨AD l02 lh,Y,hf⟩)
 ·have hf:=fin (.inl ω);refine Qk Y<|Qk Y<|Qk Y<|Qm Y<|Am<|AL Y<|Ax<|Aa<|Aa<|Af<|Ab<|Ar<|Qm Y<|Qm Y<|Am<|Aj ?_;exact Al Y Y (⟨AD l02 lh,Y,hf⟩)
def VtR(o:List Cl)(x:Int)(r:List Int):Prop:=∃M,ReI o x M []/\r=XP (JH o M o.length) (A9 o 0)
theorem TY(l:List Ce)(v:Value)(x:Int)(hp:Hp)(hK:RgC l)(hR:RdC hp v l)(hc:x∈(cn l).map Cl.id):FnT Tryz.prog 82 #[.agg #[v],.int .i64 x] hp [] (λr h' ms'=>hp.le h'/\ms'=[]/\∃L,RdL cI 1 h' [] r L/\VtR (cn l) x L):=
 FnT.frz (RX l v x hp hK hR hc) λr h' ms' ⟨q,m,M,e,O,I⟩=>⟨m,[],e,λh2 l2 lm=>⟨AD q l2,rfl,_,O.rdh lm,M,I,rfl⟩⟩
def AdA(o:List Cl)(vs:List Int)(k:Nat)(e:Int):Prop:=∃c∈o,c.id=e/\c.dim=(vs.length:Int)-2/\VtR o e (vs.eraseIdx k)
def OutOk(o:List Cl)(vs:List Int)(k:Nat)(out:List Tm):Prop:=out.length=k/\∀j (h:j<out.length),(out[j]:Tm).2=1-2*((j:Int)%2)/\AdA o vs j (out[j]:Tm).1
theorem OutOk.snoc{o:List Cl}{vs:List Int}{k:Nat}{out:List Tm}(O:OutOk o vs k out){e:Int}(h:AdA o vs k e):OutOk o vs (k+1) (out++[(e,1-2*((k:Int)%2))]):=by
 refine⟨by rw[af,O.1];rfl,λj hj=>?_⟩;rw[af,ab]at hj;rcases f6 j out.length with h1|h1
 ·rw[List.getElem_append_left h1];exact O.2 j h1
 ·obtain rfl:j=out.length:=ω
  rw[List.getElem_concat_length rfl,O.1];exact⟨Y,h⟩
set_option exponentiation.threshold 4000000 in
theorem W3(l:List Ce)(v vv:Value)(vs:List Int)(hp:Hp)(hK:RgC l)(hcn:cn l=l.map Ce.c)(hR:RdC hp v l)(hV:RdL cI 1 hp [] vv vs)(hvl:vs.length<=8):FnT Tryz.prog 41 #[.agg #[v],vv] hp [] (λr h' ms'=>hp.le h'/\ms'=[]/\(r=.slice none 0 0\/∃out,OutOk (cn l) vs vs.length out/\CanR out r h')):=by
 have o1:=hR.q.rd.one;have o2:=hV.rd.one;have hln:l.length<=4000:=by have:=hK.r.n;rwa [be]at this
 refine Ap func41 ntmps41 Y Y<|λw0 hw0=>?_;simp only[AR];refine Ar<|AK [_] Y Y (by rfl) Y Y Y<|λg2=>Qm Y<|Am<|Av 0 Y λh1 l1 hS=>?_;have hR:=hR.up l1;have hV:=hV.up l1;have hA:=Seg.all hS;refine Ar<|Qm Y<|Am<|Ac<|Ar<|Qm Y<|Am<|Ag<|BV ?_
 refine AB (λq s h' ms'=>∃(k:Nat) (w:Value) (m:Hp) (out:List Tm),q=vs.length-k/\s=[(1,vv),(2,.pt g2),(4,.nl),(5,w),(6,.w k)]/\h1.le h'/\ms'=[m]/\k<=vs.length/\OwnL DQ 3 79 m w out/\OutOk (cn l) vs k out)
  (vs.length-0) _ ⟨0,_,Hp.emp,[],rfl,rfl,BE,rfl,ω,OwnL.nil EC,rfl,λj h=>ie h (Nat.not_lt_zero _)⟩ Qs ?_
 rintro q s h2 ms' ⟨k,w,m,out,rfl,rfl,l2,rfl,hk,hW,hO⟩;have hR:=hR.up l2;have hV:=hV.up l2;have hA:=Seg.all (hS.le l2);have ow:=hW.o1;refine Ac<|Ar<|Qm Y<|Qm Y<|Qx (Aq hV.rd.any Y AZ Y) Y<|Qm Y<|Am ?_;refine Aw Y (λhlt=>?_)<|λhlt=>?_
 ·have hkS:k<vs.length:=ω
  refine Ah<|Ab<|Ac<|Ag<|Ac<|AS (n:=11) (bs:=[ii,ig,ig,ig,ii,ig,ig,ig,ig,ii,ii]) [ii,ig,ig,ig,ii,ig,ig,ig,ig] CC κ κ rfl rfl<|Qq rfl<|Qq rfl<|Qp rfl (DL (k) hV.rd.any rfl AZ Bk rfl rfl ω ω)<|Qq rfl<|Qq rfl<|Qp rfl (oA rfl)<|Qp rfl (C8 (k+1) hV.rd.any rfl AZ Bk rfl rfl ω ω) ?_;unfold Dd;simp only[bh,ap];refine Qo 0 rfl ?_;refine AO [] [] [] rfl AZ Bk rfl ω κ (by repeat (first|exact ej|refine⟨⟨by first|rfl|exact(hR.q.rd.any).cells|exact(hV.rd.any).cells|exact Rd.cells ‹_›|exact(RdL.rd ‹_›).cells,rfl,rfl⟩,?_⟩)) rfl rfl rfl rfl<|λg16=>?_;refine Qw<|Qo 4 rfl<|AJ 0 (FZ g16 A8) (hV.any.sub_ (Nat.zero_le _) hk) rfl AZ Bk rfl ω rfl rfl rfl BT (by(try simp only[ab,ee,af,ay,bw,ap]);omega) (by(try simp only[ab,ee,af,ay,bw,ap]);omega) rfl rfl rfl<|λv6 m6 hO6=>Qw<|Qo 9 rfl<|AJ 0 hO6 (hV.any.sub_ hkS<|am _) rfl AZ Bk rfl ω rfl rfl rfl BT (by(try simp only[ab,ee,af,ay,bw,ap]);omega) (by(try simp only[ab,ee,af,ay,bw,ap]);omega) rfl rfl rfl<|λv7 m7 hO7=>Qw<|Qo 10 rfl<|Qm rfl<|Qw<|Qe ?_
  have heq:[]++(vs.drop 0).take (k-0)++(vs.drop (k+1)).take (vs.length-(k+1))=vs.eraseIdx k:=by rw[List.drop_zero,Nat.sub_zero,fy (l:=vs.drop (k+1)) (by rw[bw];exact am _),List.eraseIdx_eq_take_drop_succ];rfl
  rw[heq]at hO7;refine Ab<|Cx hO7 λh3 l3 hF=>?_;have l23:=AD l2 l3;have hR:=hR.up l3;have hV:=hV.up l3;have oF_:=hF.rd.one;refine Ar<|Qm Y<|Am<|Ac<|Ar<|Qm Y<|Am<|Ag ?_
  refine AB (λq s h' ms'=>∃(i:Nat) (b:Bool) (w:Value) (m:Hp) (out':List Tm),q=l.length-i/\s=[(1,vv),(2,.pt g2),(4,.nl),(5,w),(6,.w k),(7,v7),(8,.bool b),(9,.w i)]/\h3.le h'/\ms'=[m]/\i<=l.length/\OwnL DQ 3 79 m w out'/\((b=false/\out'=out)\/(b=true/\OutOk (cn l) vs (k+1) out')))
   (l.length-0) _ ⟨0,false,w,m,out,rfl,rfl,BE,rfl,ω,hW,.inl ⟨rfl,rfl⟩⟩ Qs ?_
  rintro q s h4 ms' ⟨i,b,w,m,out',rfl,rfl,l4,rfl,hi,hW,hB⟩;have hR:=hR.up l4;have hV:=hV.up l4;have hF:=hF.up l4;have l24:=AD l23 l4;have hA:=Seg.all (hS.le l24);have ow:=hW.o1;have hFl:(vs.eraseIdx k).length=vs.length-1:=List.length_eraseIdx_of_lt hkS;refine Ac<|Ar<|Qm Y<|Qf Ct Y<|Ql Y B0 (hA _ _ Y _)<|Qx (Aq hR.q.rd.any Y B0 Y) Y<|Qm Y<|Qm Y ?_;refine AU (t:=31) Y (λq1=>?_)<|λq1=>?_
  ·refine Qg (Au Y Y) Y<|Qg (Dn Y Y) Y<|Qm Y<|Am ?_;refine BW Y (λq2=>?_)<|λq2=>?_
   ·have hb:b=false:=by simpa using q2
    subst hb;have hB:out'=out:=by rcases hB with ⟨_,e⟩|⟨e,_⟩;exact e;cases e
    rw[hB]at hW;have hil:i<l.length:=ω
    obtain⟨x,hx⟩:∃x,l[i]=x:=⟨_,Y⟩
    have hxm:x∈l:=by rw[<-hx];exact ao hil
    have hxo:x.c∈cn l:=by rw[hcn];exact ag.2 ⟨x,hxm,Y⟩
    have cdim:∀ms,Cell h4 ms (((AH v).add (i*3)).add 1) (.w x.c.dim):=λms=>by rw[<-hx];exact(hR.q.any (ms:=ms)).cell (j:=i) hil (f:=1) Y
    have cid:∀ms,Cell h4 ms (((AH v).add (i*3)).add 0) (.w x.c.id):=λms=>by rw[<-hx];exact(hR.q.any (ms:=ms)).cell (j:=i) hil (f:=0) Y
    refine Ah<|Ab<|Ac<|Ag<|Ac<|Ar<|Qf Ct Y<|Ql Y B0 (hA _ _ Y _)<|Qm Y<|Qx (BC (i) hR.q.rd.any Y B0 A3 Y Y) Y<|Qf Cj Y<|Ql Y U3 (cdim _)<|Qm Y<|Qx (Aq hF.rd.any Y AZ Y) Y<|Qx (oS Y) Y<|Qm Y<|Am ?_;refine Aw Y (λhd=>?_)<|λhd=>?_
    ·refine Ax<|Aa<|Af<|Ab<|Ad<|Qm Y<|Qx (oA Y) Y<|Qm Y<|An ?_;exact Ao (l.length-(i+1)) _ ω ⟨i+1,false,w,m,out,Y,Y,l4,Y,ω,hW,.inl ⟨Y,Y⟩⟩ Qs
    ·have hd:x.c.dim=(vs.length:Int)-2:=ω
     refine Ah<|Ab<|Ac<|AS (n:=11) (bs:=[ig,ig,ig,ig,ig,ig,ig,ii,ig,ii,ii]) [ig,ig,ig,ig,ig,ig,ig,ii,ig] CC κ κ Y Y<|Qp Y (oG Y C9 Bd<|Seg.any<|hS.le l24)<|QF Ct Y<|QL Y B0 (hA _ _ Y _)<|Qq Y<|Qp Y (BC (i) hR.q.rd.any Y B0 A3 Y Y)<|QF BZ Y<|QL Y U3 (cid _)<|Qq Y ?_;unfold Dd;simp only[bh,ap];refine Qo 7 Y<|AC (pre:=[]) Y call82 Y (TY l v x.c.id h4 hK hR<|ag.2 ⟨_,hxo,Y⟩) Y Y Y Y<|λrv h5 ms5 l5 hF5=>?_;obtain⟨l5',rfl,L,hL,hVt⟩:=hF5;have oL_:=hL.rd.one;refine Qa<|Qo 9 Y<|Qx (As Y call81 Y<|ZQ L _ rv v7 h5 hL (hF.up l5') _) Y<|Qa<|Qo 10 Y<|Qm Y<|Qa<|Qe<|Ab<|Ar<|Qm Y<|Am ?_;refine Aw Y (λhs=>?_)<|λhs=>?_
     ·have hV2:VtR (cn l) x.c.id (vs.eraseIdx k):=by rw[<-hs];exact hVt
      have hFc:AdA (cn l) vs k x.c.id:=⟨x.c,hxo,Y,hd,hV2⟩
      have hR:=hR.up l5';have hV:=hV.up l5';have hF:=hF.up l5';have l25:=AD l24 l5';have hA:=Seg.all (hS.le l25);have cid:∀ms,Cell h5 ms (((AH v).add (i*3)).add 0) (.w x.c.id):=λms=>(cid ms).le l5';have osb:(sv (A7 ((1:Int)-2*((k:Int)%2)).natAbs)).oneCell'=true:=rfl;have hOl:=hO.1;refine AS (n:=16) (bs:=[ig,ig,ig,ig,ig,ig,ig,ig,ig,ig,ig,ig,ig,ii,ii,ii]) [ig,ig,ig,ig,ig,ig,ig,ig,ig,ig,ig,ig,ig] CC κ κ Y Y<|Qq Y<|QF Ct Y<|QL Y B0 (hA _ _ Y _)<|Qq Y<|Qp Y (BC (i) hR.q.rd.any Y B0 A3 Y Y)<|QF BZ Y<|QL Y U3 (cid _)<|Qq Y<|Qp Y (C6 Y Y Y ω ω)<|Qp Y (oM Y)<|Qp Y (oS Y) ?_;refine Qp Y (As Y call25 Y<|Hq (1-2*((k:Int)%2)) (by unfold Cd;omega) _ _) ?_;refine Qp Y (AN WX [.w 0,.bool false,.es] [(0,_),(1,_)] [_,_,_] Y Co Y Y Qt Y) ?_;unfold Dd;simp only[bh,ap];refine Qo 13 Y<|Ay [_,_,_] Y CN Co Y (by rfl) Y Y ω Y Y Y<|λg71=>Qw<|Qo 14 Y<|AJ 1 hW (RdL.one EC (x:=((x.c.id,1-2*((k:Int)%2)):Tm)) Mh Y) Y CN Co Y ω Y Y Y DO (by(try simp only[ab]);omega) (by(try simp only[ab]);omega) rfl rfl rfl<|λv9 m9 hO9=>?_;have o9:=hO9.o1;refine Qw<|Qo 15 Y<|Qm Y<|Qw<|Qe<|Ai<|Ab<|Ad<|Qm Y<|Qx (oA Y) Y<|Qm Y<|An ?_;rw[bq hs];refine AQ ?_;exact Ao (l.length-(i+1)) _ ω ⟨i+1,true,v9,m9,_,Y,Y,AD l4 l5',Y,ω,hO9,.inr ⟨Y,hO.snoc hFc⟩⟩ Qs
     ·refine Ah<|Ai<|Ab<|Ad<|Qm Y<|Qx (oA Y) Y<|Qm Y<|An ?_;rw[cg hs];exact Ao (l.length-(i+1)) _ ω ⟨i+1,false,w,m,out,Y,Y,AD l4 l5',Y,ω,hW,.inl ⟨Y,Y⟩⟩ Qs
   ·have hb:b=true:=by simpa using q2
    subst hb;have hB:OutOk (cn l) vs (k+1) out':=by rcases hB with ⟨e,_⟩|⟨_,e⟩;cases e;exact e
    refine Ax<|Aa<|Aa<|Af<|Ab<|Ar<|Qm Y<|Qm Y<|Am ?_;refine BW Y (λq3=>?_)<|λq3=>?_
    ·exact ie q3 δ
    ·refine Ah<|Ai<|Ab<|Ad<|Qm Y<|Qx (oA Y) Y<|Qm Y<|An ?_;exact Ao (vs.length-(k+1)) _ ω ⟨k+1,w,m,out',Y,Y,l24,Y,ω,hW,hB⟩ Qs
  ·refine Qk Y<|Qk Y<|Qm Y<|Am<|AL Y<|Ax<|Aa<|Aa<|Af<|Ab<|Ar<|Qm Y<|Qm Y<|Am ?_;refine BW Y (λq3=>?_)<|λq3=>?_
   ·refine DA λh6 l6 k6=>Ar<|Qm Y<|Am<|Aj<|Ak<|Ae<|Ae<|Ak<|Ae ?_
    exact Al Y Y (⟨AD l1<|AD l24 l6,Y,.inl Y⟩)
   ·have hb:b=true:=by simpa using q3
    have hB:OutOk (cn l) vs (k+1) out':=by rcases hB with ⟨e,_⟩|⟨_,e⟩;rw[e]at hb;cases hb;exact e
    refine Ah<|Ai<|Ab<|Ad<|Qm Y<|Qx (oA Y) Y<|Qm Y<|An ?_;exact Ao (vs.length-(k+1)) _ ω ⟨k+1,w,m,out',Y,Y,l24,Y,ω,hW,hB⟩ Qs
 ·obtain rfl:k=vs.length:=ω
  refine Cx hW λh3 l3 hQ=>?_
  have hab:∀l:List Tm,(∀p∈l,p.2.natAbs<=1)->Bf l<=l.length:=by
   intro l
   induction l with
   | nil=>intro _;exact Nat.zero_le _
   | cons p l ih=>
    intro h;have h1:=h p ax;have h2:=ih λq hq=>h q (bi _ hq);show p.2.natAbs+Bf l<=l.length+1;omega
  have hcf:∀p∈out,p.2.natAbs<=1/\Cd p.1:=λp hp=>by obtain⟨j,hj,rfl⟩:=List.getElem_of_mem hp;obtain⟨e1,c,hc,e2,_⟩:=hO.2 j hj;refine⟨by rw[e1];omega,by rw[<-e2];exact hK.cI hc⟩
  have hol:out.length=vs.length:=hO.1;have hCh:ChR w h3 out:=⟨hQ,ω,λp hp=>(hcf p hp).2,Nat.lt_of_le_of_lt (hab out λp hp=>(hcf p hp).1) (b6 (show out.length<2^4 by omega) (Nat.pow_le_pow_right δ δ))⟩
  refine Ax<|Aa<|Aa<|Af<|Ab<|Ar<|Qm Y<|Qc call21 Y (Im w out h3 hCh)<|λr h4 ms4 l4 hF=>?_;obtain⟨l4',rfl,hC⟩:=hF;refine Qm Y<|Am<|Aj ?_;exact Al Y Y (⟨AD l1<|AD l2<|AD l3 l4',Y,.inr ⟨out,hO,hC⟩⟩)
end
section
open Go.Lin Go.Wd Go.Sm Go.Ch
variable {o:List Cl}
theorem Afo(R:Rgt o){x:Cl}(hx:x∈o)(c:Int):(x.sd.map λs=>s.2*sgn (GF o s.1).sd c).sum=0:=by
 rw[<-MY (λc=>(GF o c).sd)];show EW (KR o x) c=0;have hd:=R.dim x hx;rcases (ω:2<=x.dim\/x.dim=1\/x.dim=0) with h|h|h
 ·by_cases he:∃e∈KR o x,e.2.1=c
  ·obtain⟨e,he,rfl⟩:=he;exact(R.tab x hx h).sum e he
  ·exact(N4 λe he' q=>he ⟨e,he',q⟩).1
 ·unfold KR;rw[MY]
  have:∀s∈x.sd,s.2*sgn (GF o s.1).sd c=0:=λs hs'=>by obtain⟨y,hy,e,hyd⟩:=R.sid x hx s hs';rw[<-e,DT R.nd hy];have hnum:=R.num y hy;unfold Cb at hnum;have:y.sd=[]:=fm.1 ω;rw[this,Lg,gu]
  exact Sf this
 ·have hnum:=R.num x hx;unfold Cb at hnum;have:x.sd=[]:=fm.1 ω;unfold KR;rw[this];rfl
def bG(o:List Cl)(c e:Int):Int:=if e∈o.map Cl.id then sgn (GF o e).sd c else 0
theorem XU(R:Rgt o){y:Cl}(hy:y∈o)(c:Int):bG o c y.id=sgn y.sd c:=by unfold bG;rw[ah (ag.2 ⟨y,hy,rfl⟩),DT R.nd hy]
theorem GN(R:Rgt o)(z:List Tm)(c:Int):cf (DB (AY o) z) c=lin (bG o c) z:=by rw[UO,JZ R.nd fun p _ h=>Classical.byContradiction fun q=>h (if_neg q),<-L7 (fun e=>bG o c e*cf z e),map_map];congr 1;refine List.map_congr_left fun y hy=>?_;show cf z y.id*sgn y.sd c=bG o c y.id*cf z y.id;rw[XU R hy,Int.mul_comm]
theorem Ad7(R:Rgt o)(a:List Tm)(c:Int):cf (DB (AY o) (DB (AY o) a)) c=0:=by
 rw[GN R,O3];refine Hb λx hx=>?_
 have h:lin (bG o c) x.sd=0:=by rw[<-Afo R hx c];unfold lin;congr 1;refine List.map_congr_left fun s hs=>?_;obtain⟨y,hy,e,_⟩:=R.sid x hx s hs;rw[<-e,XU R hy,DT R.nd hy,Int.mul_comm]
 rw[h,gu]
theorem Ae7(R:Rgt o){x a:List Tm}(h:∀c,cf x c=cf (DB (AY o) a) c):bz o x=true:=by rw[Hr];intro c;rw[GN R,<-Ad7 R a c,GN R (DB (AY o) a)];rw[JZ R.nd λp _ h=>aq λq=>h (ae q),JZ R.nd λp _ h=>aq λq=>h (ae q)];exact Bl λi _=>by rw[h]
end
section
open Go.Lin Go.Wd Go.Sm Go.Ch
variable {o:List Cl}
theorem vtF_mem{C ids:List Int}{x:Int}:x∈XP C ids<->x∈C/\x∈ids:=by
 unfold XP;rw[List.mem_flatMap];constructor
 ·rintro⟨d,hd,h⟩;obtain⟨h1,h2⟩:=dh.1 h;have h2:=dq h2;subst h2;exact⟨h1,hd⟩
 ·rintro⟨h1,h2⟩;exact⟨x,h2,dh.2 ⟨h1,bq Y⟩⟩
theorem VtR.mem(R:Rgt o){e:Int}(he:e∈o.map Cl.id){L:List Int}(V:VtR o e L){x:Int}(h1:Rch (XO o) e x)(h2:x∈A9 o 0):x∈L:=by obtain⟨M,I,rfl⟩:=V;exact vtF_mem.2 ⟨(YP R he I x).2 h1,h2⟩
def Edg(o:List Cl):Prop:=∀y∈o,y.dim=1->∃a b,y.sd=[(a,-1),(b,1)]/\a<b
theorem PU(R:Rgt o)(E:Edg o)(h0:∀y∈o,y.dim=0->y.id∈A9 o 0){e p q:Int}{y:Cl}(hy:y∈o)(ye:y.id=e)(yd:y.dim=1)(V:VtR o e [p,q])(hpq:p<q)(c:Int):bG o c e=(if q=c then 1 else 0)-(if p=c then 1 else 0):=by
 obtain⟨a,b,hs,hab⟩:=E y hy yd;subst ye;have hid:y.id∈o.map Cl.id:=ag.2 ⟨y,hy,Y⟩
 have key:∀s∈y.sd,s.1∈([p,q]:List Int):=λs hs'=>by obtain⟨z,hz,e1,e2⟩:=R.sid y hy s hs';refine V.mem R hid (.step (.refl _) ?_)<|e1 ▸ h0 z hz ω;unfold XO;rw[DT R.nd hy];exact ag.2 ⟨s,hs',Y⟩
 have ha:=key (a,-1) (by rw[hs];exact ax);have hb:=key (b,1) (by rw[hs];exact bi _ ax);simp only[bg,gz,gv]at ha hb;have ea:a=p:=ω
 have eb:b=q:=ω
 rw[XU R hy,hs,ea,eb];show(if p=c then(-1:Int) else 0)+((if q=c then(1:Int) else 0)+0)=_;split<;>split<;>omega
theorem TE(R:Rgt o)(E:Edg o)(h0:∀y∈o,y.dim=0->y.id∈A9 o 0){p q r:Int}(hpq:p<q)(hqr:q<r){out:List Tm}(O:OutOk o [p,q,r] 3 out)(c:Int):lin (bG o c) out=0:=by
 obtain⟨hl,H⟩:=O
 match out,hl,H with
 | [x,y,z],_,H=>
  obtain⟨e0,c0,hc0,i0,d0,V0⟩:=H 0 σ;obtain⟨e1,c1,hc1,i1,d1,V1⟩:=H 1 σ;obtain⟨e2,c2,hc2,i2,d2,V2⟩:=H 2 σ;have g0:=PU R E h0 hc0 i0 d0 V0 hqr c;have g1:=PU R E h0 hc1 i1 d1 V1 ω c;have g2:=PU R E h0 hc2 i2 d2 V2 hpq c;show bG o c x.1*x.2+(bG o c y.1*y.2+(bG o c z.1*z.2+0))=0;have f0:x.2=1:=e0;have f1:y.2=-1:=e1;have f2:z.2=1:=e2;have g0:bG o c x.1=_:=g0;have g1:bG o c y.1=_:=g1;have g2:bG o c z.1=_:=g2;rw[f0,f1,f2,g0,g1,g2];split<;>split<;>split<;>omega
theorem Tl{vs:List Int}(hv:vs.length=3){out:List Tm}(O:OutOk o vs 3 out):Eb o 1 out=true:=by refine(CQ _ _ _).2 λc hc=>aq λq=>hc (Ei λp hp e=>q ?_);obtain⟨j,hj,rfl⟩:=List.getElem_of_mem hp;obtain⟨_,y,hy,e2,e3,_⟩:=O.2 j hj;exact has_iff.2 ⟨y,hy,by rw[e2,e],by rw[e3,hv];rfl⟩
end
section
open Go.Lin Go.Wd Go.Sm Go.Ch
variable {o:List Cl} {r:Value} {h:Hp}
def CycX(o:List Cl)(A N:Nat)(r:Value)(h:Hp):Prop:=∃x,CanL x (cf x)/\ChR r h x/\Bf x<=A/\x.length<=N/\Eb o 1 x=true/\bz o x=true
theorem CycX.up{A N:Nat}{h':Hp}(C:CycX o A N r h)(q:h.le h'):CycX o A N r h':=by obtain⟨x,a,b,c⟩:=C;exact⟨x,a,b.up q,c⟩
theorem CycX.le{A N A' N':Nat}(C:CycX o A N r h)(h1:A<=A')(h2:N<=N'):CycX o A' N' r h:=by obtain⟨x,a,b,c,d,e⟩:=C;exact⟨x,a,b,ω,ω,e⟩
theorem AdL{d:Int}{a b:List Tm}(h:∀c,cf a c=cf b c)(hb:Eb o d b=true):Eb o d a=true:=(CQ _ _ _).2 λc hc=>(CQ _ _ _).1 hb c (by rw[<-h];exact hc)
theorem Wz(R:Rgt o){a x m:List Tm}(ha:∀c,cf a c=cf m c)(hm:∀p∈m,HS o 2 p.1=true)(hx:∀c,cf x c=cf (DB (AY o) a) c):Eb o 1 x=true/\bz o x=true:=by
 refine⟨AdL hx ((CQ _ _ _).2 λc hc=>?_),Ae7 R hx⟩;rw[UO]at hc;refine aq λq=>hc<|Hb λy hy=>?_;by_cases h1:cf a y.id=0
 ·rw[h1,gj]
 ·by_cases h2:sgn y.sd c=0
  ·rw[h2,gu]
  ·exfalso;have h3:HS o 2 y.id=true:=aq λq'=>h1 (by rw[ha];exact Ei λp hp e=>q'<|e ▸ hm p hp);obtain⟨z,hz,e1,e2⟩:=has_iff.1 h3;obtain rfl:=SQ R hz hy e1;obtain⟨s,hs,rfl⟩:=Zb h2;obtain⟨w,hw,e3,e4⟩:=R.sid z hz s hs;exact q<|has_iff.2 ⟨w,hw,e3,ω⟩
theorem AaR(R:Rgt o){x k z out:List Tm}(hx:Eb o 1 x=true/\bz o x=true)(hk:∀c,cf k c=cf out c)(ho:Eb o 1 out=true)(hc:∀c,lin (bG o c) out=0)(hz:∀c,cf z c=cf (x++k) c):Eb o 1 z=true/\bz o z=true:=by
 constructor
 ·refine(CQ _ _ _).2 λc h=>?_;rw[hz,Ej]at h;by_cases h1:cf x c=0
  ·exact(CQ _ _ _).1 ho c (by rw[<-hk];omega)
  ·exact(CQ _ _ _).1 hx.1 c h1
 ·rw[Hr];intro c;rw[GN R,FY _ hz,Ed,FY _ hk,hc,<-GN R,(Hr _ _).1 hx.2 c];rfl
theorem WY{D s:List Int}(hD:D.Pairwise (· < ·))(hs:s.Sublist D)(hl:s.length=3):∃p q r,s=[p,q,r]/\p<q/\q<r:=by
 have P:=hD.sublist hs
 match s,hl,P with
 | [p,q,r],_,P=>
  rw[b7,b7]at P;exact⟨p,q,r,Y,P.1 q σ,P.2.1 r σ⟩
theorem Abo{l:List Ce}(h:∀x∈l,x.c.sd.length<=20):(AY (l.map Ce.c)).length<=20*l.length:=by
 induction l with
 | nil=>exact Nat.zero_le _
 | cons x l ih=>
  have h1:=h x mem_cons_self;have h2:=ih fun y hy=>h y (mem_cons_of_mem _ hy);have e:AY ((x::l).map Ce.c)=(x.c.sd.map fun s=>(x.c.id,s))++AY (l.map Ce.c):=rfl;rw[e,length_append,length_map,length_cons];omega
theorem Aa2(R:Rgt o){oc:List Cl}(hoc:oc=o)(E:Edg oc){D t:List Int}(hD:A9 oc 0=D)(h0:∀y∈o,y.dim=0->y.id∈D)(hDi:D.Pairwise (· < ·))(hs:t.Sublist D)(h3:t.length=3)(H:r=.slice none 0 0\/∃out,OutOk oc t t.length out/\CanR out r h):∃k out,ChR r h k/\k.length<=3/\Bf k<=3/\(∀c,cf k c=cf out c)/\Eb o 1 out=true/\∀c,lin (bG o c) out=0:=by
 subst hoc hD;rcases H with rfl|⟨out,O,k,C,X,ha,hn⟩
 ·exact⟨[],[],DD h,by decide,by decide,λ_=>rfl,(CQ _ _ _).2 λc hc=>ie Y hc,λ_=>rfl⟩
 ·obtain⟨p,q,r',rfl,h1,h2⟩:=WY hDi hs h3;have hl:out.length=3:=O.1
  have hb:Bf out<=3:=by
   match out,hl,O.2 with
   | [x,y,z],_,H2=>
    have e0:x.2=1:=(H2 0 σ).1;have e1:y.2=-1:=(H2 1 σ).1;have e2:z.2=1:=(H2 2 σ).1;show x.2.natAbs+(y.2.natAbs+(z.2.natAbs+0))<=3;rw[e0,e1,e2];decide
  exact⟨k,out,X,ω,ω,λc=>C.cf_eq c,Tl Y O,TE R E h0 h1 h2 O⟩
theorem Afv{a b c d:Nat}(h:a<=c)(h':b<=d):a*b<=c*d:=ep h h'
set_option exponentiation.threshold 4000000 in
theorem Aav(l:List Ce)(v vx vr:Value)(xs rs:List Int)(hp:Hp)(Q:QsOk v hp l)(hcn:cn l=l.map Ce.c)(E:Edg (cn l))(hl:l.length<=60)(hX:RdL cI 1 hp [] vx xs)(hY:RdL cI 1 hp [] vr rs):FnT Tryz.prog 15 #[.agg #[v],.int .i64 1,vx,vr] hp [] (λr h' ms'=>hp.le h'/\ms'=[]/\CycX (l.map Ce.c) 300000 2000 r h'):=by
 have o1:=Q.X.rd.q.rd.one;have o2:=hX.rd.one;have o3:=hY.rd.one;have R:Rgt (l.map Ce.c):=Q.K.r;have hsl:=Abo Q.K.o.s;refine Ap func15 ntmps15 Y Y<|λw0 hw0=>?_;simp only[AR];refine Ar<|AK [_] Y Y (by rfl) Y Y Y<|λg4=>Qm Y<|Am<|Av 0 Y λh1 l1 hS=>Ac<|AS (n:=8) (bs:=[ig,ig,ig,ig,ig,ii,ii,ii]) [ig,ig,ig,ig,ig] CC κ κ Y Y<|Qp Y (oG Y C9 Bd<|Seg.any hS)<|Qp Y (oG Y C9 Bd<|Seg.any hS)<|Qq Y<|Qp Y (oA Y)<|Qq Y ?_;unfold Dd;simp only[bh,ap];refine Qo 5 Y<|AC (pre:=[]) Y call27 Y (Ad5 l v vx 2 xs h1 (Q.up l1)<|hX.up l1) Y Y Y Y<|λrM h2 ms2 l2 hF2=>?_;obtain⟨l2',rfl,a,hCa,hRa,haa,hna⟩:=hF2;have hid2:(A9 (cn l) 2).length<=60:=bl (Gr _ _) (by rw[Jg];exact hl);have hab:Bf (DB (AY (l.map Ce.c)) a)<=216000:=bl (Tw (OY R)) (bl (Afv (c:=1200) (d:=180) ω ω) δ);refine Qa<|Qo 6 Y ?_;refine AC (pre:=[]) Y call29 Y (L8 v rM l a h2 (Q.X.up<|AD l1 l2') hRa (Nat.lt_of_le_of_lt hab<|b6 (show 216000<2^20 by decide)<|Nat.pow_le_pow_right δ δ) ω) Y Y Y Y<|λrB h3 ms3 l3 hF3=>?_;obtain⟨l3',rfl,x0,hCx,hRx,hax,hnx⟩:=hF3;have o4:=hRx.rd.rd.one;have l13:=AD l2' l3';refine Qa<|Qo 7 Y<|Qm Y<|Qa<|Qe ?_
 have hcy0:CycX (l.map Ce.c) 216000 1200 rB h3:=by
  have hm:∀p∈Tb xs (A9 (cn l) 2) (if xs.length=0 then 0 else(A9 (cn l) 2).length),HS (l.map Ce.c) 2 p.1=true:=λp hp=>by
   unfold Tb at hp;obtain⟨k,hk,rfl⟩:=ag.1 hp;have hk:=cm.1 hk;have hk2:k<(A9 (cn l) 2).length:=by split at hk<;>omega
   have:(A9 (cn l) 2).getD k 0∈A9 (cn l) 2:=by rw[show(A9 (cn l) 2).getD k 0=(A9 (cn l) 2)[k] by simp[List.getD,hk2]];exact ao hk2
   exact has_iff.2<|mem_ids.1 this
  have hc0:=Wz R (a:=a) (x:=x0) (λc=>hCa.cf_eq c) hm λc=>hCx.cf_eq c;exact⟨x0,hCx.congr λc=>(hCx.cf_eq c).symm,hRx,ω,ω,hc0⟩
 refine Ab<|Ar<|Qx (oG Y C9 Bd<|Seg.any<|hS.le l13) Y<|Qc call35 Y (Ph l v 0 h3 Q.K ((Q.up l1).up l13).X.rd)<|λrD h4 ms4 l4 hF=>?_;obtain⟨l4',rfl,hD⟩:=hF;have l14:=AD l13 l4';have oD:=hD.rd.one;obtain⟨D,hDe⟩:∃D,A9 (cn l) 0=D:=⟨_,Y⟩
 have hDi:D.Pairwise (· < ·):=by rw[<-hDe];exact dz.2 ((Q.K.F.inc).filter _)
 have hDn:D.length<=60:=by rw[<-hDe];exact bl (Gr _ _) (by rw[Jg];exact hl)
 rw[hDe]at hD;have hY:=hY.up (AD l1 l14);have h0:∀y∈l.map Ce.c,y.dim=0->y.id∈D:=λy hy hy0=>by rw[<-hDe];exact mem_ids.2 ⟨y,hy,Y,hy0⟩
 refine Qm Y<|Am<|Ac<|Ar<|Qm Y<|Am<|Ag ?_
 refine AB (λq s h' ms'=>∃(i:Nat) (w:Value),q=3-i/\s=[(1,.w 1),(3,vr),(4,.pt g4),(8,.nl),(9,w),(10,rD),(11,.w i)]/\h4.le h'/\ms'=[]/\i<=3/\CycX (l.map Ce.c) (216000+3*i) (1200+3*i) w h')
  (3-0) _ ⟨0,rB,rfl,rfl,BE,rfl,ω,hcy0.up l4'⟩ Qs ?_
 rintro q s h5 ms' ⟨i,w,rfl,rfl,l5,rfl,hi,hC⟩;have l15:=AD l14 l5;have hD:=hD.up l5;have hY:=hY.up l5;have ow:w.oneCell'=true:=by obtain⟨x,_,h,_⟩:=hC;exact h.rd.rd.one
 refine Ac<|Ar<|Qm Y<|Qm Y<|Qx (Aq hY.rd.any Y AZ Y) Y<|Qm Y<|Qm Y ?_;refine AU (t:=27) Y (λq1=>?_)<|λq1=>?_
 ·refine Qg (Au Y Y) Y<|Qg (Dy Y Y Y) Y<|Qm Y<|Am ?_;refine Aw Y (λq2=>?_)<|λq2=>?_
  ·have hir:i<rs.length:=ω
   obtain⟨b,hb⟩:∃b,rs[i]=b:=⟨_,Y⟩
   have cb:∀ms,Cell h5 ms ((AH vr).add (i*1)) (.w b):=λms=>by rw[<-hb];exact(hY.any (ms:=ms)).cell0 hir Y
   refine Ah<|Ab<|Ac<|Ag<|Ar<|Qm Y<|Am<|BV ?_;refine Bv (λs h' ms'=>∃(u:Value) (m:Hp) (t:List Int),s=[(1,.w 1),(3,vr),(4,.pt g4),(8,.nl),(9,w),(10,rD),(11,.w i),(12,u)]/\h5=h'/\ms'=[m]/\OwnL cI 1 3 m u t/\t.Sublist D/\t.length<=3) ?_<|λs h ms hI=>?_
   ·refine Ac<|Ad<|Qm Y<|Am<|Ag ?_
    refine AB (λq s h' ms'=>∃(j:Nat) (u:Value) (m:Hp) (t:List Int),q=D.length-j/\s=[(1,.w 1),(3,vr),(4,.pt g4),(8,.nl),(9,w),(10,rD),(11,.w i),(12,u),(13,.w j)]/\h5=h'/\ms'=[m]/\j<=D.length/\OwnL cI 1 3 m u t/\t.Sublist (D.take j)/\t.length<=3)
     (D.length-0) _ ⟨0,_,Hp.emp,[],rfl,rfl,rfl,rfl,ω,OwnL.nil A8,List.nil_sublist _,by decide⟩ Qs ?_
    rintro q s h' ms' ⟨j,u,m,t,rfl,rfl,rfl,rfl,hj,hT,hsub,ht3⟩;have ou:=hT.o1;refine Ac<|Ar<|Qm Y<|Qm Y<|Qx (Aq hD.rd.any Y AZ Y) Y<|Qm Y<|Qm Y ?_;refine AU (t:=37) Y (λp1=>?_)<|λp1=>?_
    ·refine Qg (Au Y Y) Y<|Qg (Lk (hT.rd (h:=h5) (ms:=[m]) Mh).rd Y AZ Y) Y<|Qg (Au Y Y) Y<|Qg (oA Y) Y<|Qg (Dy Y Y Y) Y<|Qm Y<|Am ?_;refine Aw Y (λp2=>?_)<|λp2=>?_
     ·have hjl:j<D.length:=ω
      have cd:∀ms,Cell h5 ms ((AH rD).add (j*1)) (.w D[j]):=λms=>(hD.any (ms:=ms)).cell0 hjl Y;have htk:D.take (j+1)=D.take j++[D[j]]:=ak hjl;refine Ah<|Ab<|Ac<|Ag<|Ar<|Qm Y<|Qm Y<|Qx (BC (i) hY.rd.any Y AZ Bk Y Y) Y<|Ql Y U3 (cb _)<|Qm Y<|Qx (Ack (n:=j) Y Y Y ω) Y<|Qx (Abw Y Y Y) Y<|Qm Y<|Am ?_;refine Aw Y (λhbit=>?_)<|λhbit=>?_
      ·refine Ad<|Qm Y<|Qm Y<|Qm Y<|Qx (BC (j) hD.rd.any Y AZ Bk Y Y) Y<|Ql Y U3 (cd _)<|Ay [_] Y AZ Bk Y (by rfl) Y Y ω Y Y Y<|λg59=>AJ 1 hT (RdL.one A8 (x:=D[j]) Mh Y) Y AZ Bk Y ω Y Y Y BT (by(try simp only[ab]);omega) (by(try simp only[ab]);omega) rfl rfl rfl<|λu2 m2 hT2=>Qm rfl<|An<|Ai<|Ab<|Ad<|Qm rfl<|Qx (oA rfl) rfl<|Qm rfl<|An<|AQ ?_;exact Ao (D.length-(j+1)) _ ω ⟨j+1,u2,m2,_,Y,Y,Y,Y,ω,hT2,by rw[htk];exact hsub.append (List.Sublist.refl _),by rw[af,ab];omega⟩ Qs
      ·refine Ah<|Ai<|Ab<|Ad<|Qm Y<|Qx (oA Y) Y<|Qm Y<|An ?_;exact Ao (D.length-(j+1)) _ ω ⟨j+1,u,m,t,Y,Y,Y,Y,ω,hT,by rw[htk];exact hsub.trans (List.sublist_append_left _ _),ht3⟩ Qs
     ·refine Ax<|Aa<|Aa<|Af ?_;exact AI _ ⟨u,m,t,Y,Y,Y,hT,hsub.trans<|List.take_sublist _ _,ht3⟩ Qs
    ·refine Qk Y<|Qk Y<|Qk Y<|Qk Y<|Qk Y<|Qm Y<|Am<|AL Y<|Ax<|Aa<|Aa<|Af ?_;exact AI _ ⟨u,m,t,Y,Y,Y,hT,hsub.trans<|List.take_sublist _ _,ht3⟩ Qs
   ·obtain⟨u,m,t,rfl,rfl,rfl,hT,hsub,ht3⟩:=hI;refine Cx hT λh6 l6 hTr=>?_;have ou:=hTr.rd.one;have l16:=AD l15 l6;refine Ar<|Qm Y<|Qx (Aq hTr.rd.any Y AZ Y) Y<|Qm Y<|Qx (oA Y) Y<|Qm Y<|Am ?_;refine Aw Y (λhl3=>?_)<|λhl3=>?_
    ·have ht:t.length=3:=ω
     obtain⟨x,hCx,hRx,hax,hnx,hix,hbx⟩:=hC;refine Ad<|Qm Y<|Qx (oG Y C9 Bd<|Seg.any<|hS.le l16) Y<|Qm Y<|AC (pre:=[]) Y call41 Y (W3 l v u t h6 Q.K hcn ((Q.up l1).up l16).X.rd hTr ω) Y Y Y Y<|λrS h7 ms7 l7 hF7=>?_;obtain⟨l7',rfl,hr⟩:=hF7;obtain⟨k,out,hK1,hK2,hK3,hK4,hK5,hK6⟩:=Aa2 R hcn E hDe h0 hDi hsub ht hr;have oS_:=hK1.rd.rd.one;refine AC (pre:=[]) Y call28 Y (US w rS x k h7 (hRx.up<|AD l6 l7') hK1 ω (by rw[Bn];exact b6 (show Bf x+Bf k<2^20 by omega) (Nat.pow_le_pow_right δ δ))) Y Y Y Y<|λrA h8 ms8 l8 hF8=>?_;obtain⟨l8',rfl,z,hz1,hz2,hz3,hz4⟩:=hF8;have oA_:=hz2.rd.rd.one;have hcz:=AaR R (z:=z) ⟨hix,hbx⟩ hK4 hK5 hK6 λc=>hz1.cf_eq c;rw[Bn]at hz3;rw[af]at hz4;refine Qm Y<|An<|Ai<|Ab<|Ad<|Qm Y<|Qx (oA Y) Y<|Qm Y<|An ?_;exact Ao (3-(i+1)) _ ω ⟨i+1,rA,Y,Y,AD l5<|AD l6<|AD l7' l8',Y,ω,z,hz1.congr λc=>(hz1.cf_eq c).symm,hz2,ω,ω,hcz⟩ Qs
    ·refine Ah<|Ai<|Ab<|Ad<|Qm Y<|Qx (oA Y) Y<|Qm Y<|An ?_;exact Ao (3-(i+1)) _ ω ⟨i+1,w,Y,Y,AD l5 l6,Y,ω,(hC.up l6).le ω ω⟩ Qs
  ·refine Ax<|Aa<|Aa<|Af<|Ab<|Ac<|Ar<|Qm Y<|Qm Y<|Am ?_;refine Aw Y (λhz=>?_)<|λhz=>?_
   ·exfalso;omega
   ·refine Ah<|Ab<|Ar<|Qm Y<|Qm Y<|Am<|Aj ?_;exact Al Y Y (⟨AD l1 l15,Y,hC.le ω ω⟩)
 ·refine Qk Y<|Qk Y<|Qm Y<|Am<|AL Y<|Ax<|Aa<|Aa<|Af<|Ab<|Ac<|Ar<|Qm Y<|Qm Y<|Am ?_;refine Aw Y (λhz=>?_)<|λhz=>?_
  ·exfalso;omega
  ·refine Ah<|Ab<|Ar<|Qm Y<|Qm Y<|Am<|Aj ?_;exact Al Y Y (⟨AD l1 l15,Y,hC.le ω ω⟩)
end
section
open Go.Lin Go.Wd Go.Sm Go.Ch
theorem TD(h:Hp):FnT Tryz.prog 34 #[] h [] (λr h' ms'=>h.le h'/\Aft h' r ms' (λo=>o=DI (JR 7))):=by
 refine Ap func34 ntmps34 Y Y<|λw0 hw0=>?_;simp only[AR];refine Ar<|BS [.nl] Y Bd Y Y<|λg0=>Bp<|Qm Y<|Am<|Ac<|Ar<|Qm Y<|Am<|Ag<|BV ?_
 refine AB (λq s hh ms'=>∃(i:Nat) (v3:Value) (m3:Hp) (es:List Value),q=7-i/\s=[(0,.pt g0),(1,v3),(2,.w i)]/\h.le hh/\ms'=[m3,BI g0 27 [.nl]]/\i<=7/\OwnL cW 1 22 m3 v3 es/\RdEs hh es (JR i))
  (7-0) _ ⟨0,_,Hp.emp,[],rfl,rfl,BE,rfl,ω,OwnL.nil LQ,RdEs.nil _⟩ Qs ?_
 rintro q s hh ms' ⟨i,v3,m3,es,rfl,rfl,lh,rfl,hi7,hO,hEs⟩;have hes:=hEs.1;rw[XL]at hes;have ov3:=hO.o1;refine Ac<|Ar<|Qm Y<|Qm Y<|Am ?_;refine Aw Y (λh7=>?_)<|λh7=>?_
 ·refine Ah (Ab (Ac (Ag (Ad (Qm rfl (Qm rfl (Qm rfl (Qx (oA rfl) rfl (Qx (C6 rfl rfl rfl (by omega) (by omega)) rfl (Qm rfl (Qx (oA rfl) rfl (Qx (C6 rfl rfl rfl (by omega) (by omega)) rfl (AO [(0,_),(1,_),(2,_)] [.int .i64 0,.int .i64 0,.int .i64 0] [_,_,_] rfl AZ Bk rfl (by omega) (by kernel_rfl) Qt rfl rfl rfl rfl (fun g15=>Cr fun h1 l1 k1=>?_))))))))))))));have hE1:=(hEs.up l1).snoc ((OwnL.blk (g:=g15) (el:=3) (F:=cI) (l:=[(i:Int),((i:Int)+1)%7,((i:Int)+3)%7]) 3 A8 rfl (by decide)).rdh (h:=h1) (ms:=[]) k1);refine Qm rfl (Qm rfl (Qx (oA rfl) rfl (Qx (C6 rfl rfl rfl (by omega) (by omega)) rfl (Qm rfl (Qx (oA rfl) rfl (Qx (C6 rfl rfl rfl (by omega) (by omega)) rfl (AO [(0,_),(1,_),(2,_)] [.int .i64 0,.int .i64 0,.int .i64 0] [_,_,_] rfl AZ Bk rfl (by omega) (by kernel_rfl) Qt rfl rfl rfl rfl (fun g23=>Cr fun h2 l2 k2=>?_))))))));have hE2:=(hE1.up l2).snoc ((OwnL.blk (g:=g23) (el:=3) (F:=cI) (l:=[(i:Int),((i:Int)+2)%7,((i:Int)+3)%7]) 3 A8 rfl (by decide)).rdh (h:=h2) (ms:=[]) k2);rw[<-MA,append_assoc]at hE2;refine AO [(0,_),(1,_)] [.slice none 0 0,.slice none 0 0] [_,_] rfl Jx FA rfl (by omega) (by kernel_rfl) Qt rfl rfl rfl rfl (fun g24=>?_);refine Cs 1 hO (OwnL.blk (g:=g24) (F:=cW) (l:=[.slice (some ⟨g15,0,none⟩) 3 3,.slice (some ⟨g23,0,none⟩) 3 3]) 2 LQ rfl (by decide) |>.rd Mh) rfl Jx FA rfl (by omega) rfl rfl rfl (O8 fun u hu=>by simp only[mem_cons,not_mem_nil,or_false]at hu;rcases hu with rfl|rfl<;>rfl) (by(try simp only[length_singleton,length_cons,length_nil]);omega) (by(try simp only[length_singleton,length_cons,length_nil]);omega) rfl rfl rfl (fun v6 m6 hO6=>?_);have ov6:=hO6.o1;refine Qm rfl (An (Ai (Ab (Ad (Qm rfl (Qx (oA rfl) rfl (Qm rfl (An (D4 0 rfl ?_)))))))));exact Ao (7-(i+1)) _ (by omega) ⟨i+1,v6,m6,_,rfl,rfl,AD lh (AD l1 l2),rfl,by omega,hO6,hE2⟩ Qs
 ·obtain rfl:i=7:=ω
  refine Cx hO λh3 l3 hV=>?_;have hE:=hEs.up l3;refine Ax<|Aa<|Aa<|Af<|Ab<|Ar<|Qm Y ?_;refine Qc call40 Y (Nl (JR 7) es v3 h3 δ (λs hs=>by revert s;decide) hV hE)<|λrC h12 ms12 l12 hF=>?_;obtain⟨l12',m,A,vA,rfl,rfl,hOA,hA,hs⟩:=hF;have ovA:=hOA.o1;refine Sa 1 [_] Bd Y (by simp[ovA]) ?_;refine Am<|Aj ?_;exact Bx (vs:=[_]) 1 Y Y C9 Y Bd Y Y (⟨AD lh<|AD l3 l12',m,A,_,Y,Y,hOA,hA,hs⟩)
end
section
open Go.Lin Go.Wd Go.Sm Go.Ch
def torC:List Cl:=[⟨1,0,[]⟩,⟨2,0,[]⟩,⟨3,0,[]⟩,⟨4,0,[]⟩,⟨5,0,[]⟩,⟨6,0,[]⟩,⟨7,0,[]⟩,⟨8,1,[(1,-1),(2,1)]⟩,⟨9,1,[(1,-1),(3,1)]⟩,⟨10,1,[(1,-1),(4,1)]⟩,⟨11,1,[(1,-1),(5,1)]⟩,⟨12,1,[(1,-1),(6,1)]⟩,⟨13,1,[(1,-1),(7,1)]⟩,⟨14,1,[(2,-1),(3,1)]⟩,⟨15,1,[(2,-1),(4,1)]⟩,⟨16,1,[(2,-1),(5,1)]⟩,⟨17,1,[(2,-1),(6,1)]⟩,⟨18,1,[(2,-1),(7,1)]⟩,⟨19,1,[(3,-1),(4,1)]⟩,⟨20,1,[(3,-1),(5,1)]⟩,⟨21,1,[(3,-1),(6,1)]⟩,⟨22,1,[(3,-1),(7,1)]⟩,⟨23,1,[(4,-1),(5,1)]⟩,⟨24,1,[(4,-1),(6,1)]⟩,⟨25,1,[(4,-1),(7,1)]⟩,⟨26,1,[(5,-1),(6,1)]⟩,⟨27,1,[(5,-1),(7,1)]⟩,⟨28,1,[(6,-1),(7,1)]⟩,⟨29,2,[(8,1),(10,-1),(15,1)]⟩,⟨30,2,[(8,1),(12,-1),(17,1)]⟩,⟨31,2,[(9,1),(10,-1),(19,1)]⟩,⟨32,2,[(9,1),(13,-1),(22,1)]⟩,⟨33,2,[(11,1),(12,-1),(26,1)]⟩,⟨34,2,[(11,1),(13,-1),(27,1)]⟩,⟨35,2,[(14,1),(16,-1),(20,1)]⟩,⟨36,2,[(14,1),(18,-1),(22,1)]⟩,⟨37,2,[(15,1),(16,-1),(23,1)]⟩,⟨38,2,[(17,1),(18,-1),(28,1)]⟩,⟨39,2,[(19,1),(21,-1),(24,1)]⟩,⟨40,2,[(20,1),(21,-1),(26,1)]⟩,⟨41,2,[(23,1),(25,-1),(27,1)]⟩,⟨42,2,[(24,1),(25,-1),(28,1)]⟩]
theorem tor_simp:torC=DI (JR 7):=by kernel_rfl
def Afk(o:List Cl):Bool:=o.all λy=>decide (y.dim≠1)||match y.sd with
 | [(a,s),(b,t)]=>decide (s=-1)&&decide (t=1)&&decide (a<b)
 | _=>false
theorem Adl{o:List Cl}(h:Afk o=true):Edg o:=λy hy hd=>by
 have:=d7.1 h y hy;rw[Bool.or_eq_true,decide_eq_true_eq]at this;have h2:=this.resolve_left (λq=>q hd);split at h2
 ·rename_i a s b t e;simp only[dt,decide_eq_true_eq]at h2;obtain⟨⟨rfl,rfl⟩,h3⟩:=h2;exact⟨a,b,e,h3⟩
 ·cases h2
theorem Abe:Edg torC:=Adl κ
theorem Vo{g:Int->Int}:∀{l:List Tm},(∀p∈l,g p.1=0)->lin g l=0
 | [],_=>rfl
 | p::l,h=>by show g p.1*p.2+lin g l=0;rw[h p ax,Vo λq hq=>h q (bi _ hq)];simp
theorem UL{o:List Cl}(R:Rgt o)(g:Int->Int)(z:List Tm):lin g (DB (AY o) z)=lin (fun e=>if e∈o.map Cl.id then lin g (GF o e).sd else 0) z:=by rw[O3,JZ R.nd fun p _ h=>Classical.byContradiction fun q=>h (if_neg q),<-L7 (fun e=>(if e∈o.map Cl.id then lin g (GF o e).sd else 0)*cf z e),map_map];congr 1;refine List.map_congr_left fun y hy=>?_;show cf z y.id*lin g y.sd=(if y.id∈o.map Cl.id then lin g (GF o y.id).sd else 0)*cf z y.id;rw[if_pos (List.mem_map.2 ⟨y,hy,rfl⟩),DT R.nd hy,Int.mul_comm]
def lcT(A:Int->List Tm)(x:List Tm):List Tm:=x.flatMap λp=>(A p.1).map λt=>(t.1,t.2*p.2)
theorem FU(g:Int->Int)(n:Int):∀l:List Tm,lin g (l.map λt=>((t.1,t.2*n):Tm))=lin g l*n
 | []=>by simp[lin]
 | t::l=>by have ih:=FU g n l;show g t.1*(t.2*n)+lin g (l.map λt=>((t.1,t.2*n):Tm))=(g t.1*t.2+lin g l)*n;rw[ih,Int.add_mul,Int.mul_assoc]
theorem AaI(g:Int->Int)(A:Int->List Tm):∀x:List Tm,lin g (lcT A x)=lin (λe=>lin g (A e)) x
 | []=>rfl
 | p::x=>by show lin g ((A p.1).map (λt=>((t.1,t.2*p.2):Tm))++lcT A x)=lin g (A p.1)*p.2+lin (λe=>lin g (A e)) x;rw[Ed,FU,AaI g A x]
variable {x:List Tm}
def torA:List (Int×List (Int×Int)):=[(15,[(29,1)]),(17,[(30,1)]),(18,[(32,1),(36,-1)]),(19,[(31,1)]),(20,[(35,1)]),(21,[(33,1),(35,1),(40,-1)]),(22,[(32,1)]),(23,[(29,-1),(37,1)]),(24,[(31,-1),(33,1),(35,1),(39,1),(40,-1)]),(25,[(29,-1),(34,1),(37,1),(41,-1)]),(26,[(33,1)]),(27,[(34,1)]),(28,[(30,-1),(32,1),(36,-1),(38,1)])]
def NA:List Tm:=[(14,1),(18,1),(20,-1),(21,-1),(24,-1),(28,1)]
def Ns:List Tm:=[(16,1),(20,1),(21,1),(23,1),(24,1),(25,1)]
def QP:List Tm:=[(8,1),(9,-1),(14,1)]
def SF:List Tm:=[(8,1),(11,-1),(16,1)]
def tAt(e:Int):List Tm:=((torA.find? λp=>decide (p.1=e)).map Prod.snd).getD []
def tS(c v:Int):Int:=if 2<=v/\v<=7/\c=6+v then 1 else 0
theorem AbC:(torC.all λy=>decide (y.dim≠1)||(range 43).all λc=>decide (lin (bG torC c) (tAt y.id)+lin (tS c) y.sd+cf NA y.id*cf QP c+cf Ns y.id*cf SF c=if y.id=(c:Int) then 1 else 0))=true:=by kernel_rfl
theorem Aem:(torC.all λy=>decide (y.dim≠2)||decide (lin (cf NA) y.sd=0)&&decide (lin (cf Ns) y.sd=0))=true:=by kernel_rfl
theorem AbI:(torC.all λy=>decide (1<=y.id/\y.id<=42))=true:=by kernel_rfl
theorem tor_rgt:Rgt torC:=by rw[tor_simp];exact MG _
theorem Zg{l:List Tm}{c:Int}(h:(l.all λp=>decide (1<=p.1/\p.1<=42))=true)(hc:¬(1<=c/\c<=42)):cf l c=0:=
 Ei λp hp e=>hc (e ▸ dq (d7.1 h p hp))
theorem Aa3{y:Cl}(hy:y∈torC)(hd:y.dim=1)(c:Int):lin (bG torC c) (tAt y.id)+lin (tS c) y.sd+cf NA y.id*cf QP c+cf Ns y.id*cf SF c=if y.id=c then 1 else 0:=by
 have hid:∀z∈torC,1<=z.id/\z.id<=42:=λz hz=>dq (d7.1 AbI z hz);by_cases hc:1<=c/\c<=42
 ·have:=d7.1 AbC y hy;rw[Bool.or_eq_true,decide_eq_true_eq]at this;have h2:=d7.1 (this.resolve_left (λq=>q hd)) c.toNat (cm.2 ω);have h3:=dq h2
  rwa [show((c.toNat:Nat):Int)=c by omega]at h3
 ·have e1:lin (bG torC c) (tAt y.id)=0:=Vo λp _=>by
   unfold bG;split
   ·rename_i h;obtain⟨z,hz,e⟩:=ag.1 h;rw[<-e,DT tor_rgt.nd hz];refine aq λq=>?_;obtain⟨s,hs,rfl⟩:=Zb q;obtain⟨w,hw,e3,_⟩:=tor_rgt.sid z hz s hs;exact hc<|e3 ▸ hid w hw
   ·rfl
  have e2:lin (tS c) y.sd=0:=Vo λp _=>by unfold tS;rw[ae ω]
  rw[e1,e2,Zg (l:=QP) δ hc,Zg (l:=SF) δ hc,ae (λq:y.id=c=>hc (by rw[<-q];exact hid y hy)),gu,gu];rfl
theorem Q5{f g a b:Int->Int}{c u w:Int}:∀{x:List Tm},(∀p∈x,f p.1=(if p.1=c then 1 else 0)-g p.1-a p.1*u-b p.1*w)->lin f x=cf x c-lin g x-lin a x*u-lin b x*w
 | [],_=>by simp[lin,cf]
 | p::x,h=>by have ih:=Q5 (x:=x) λq hq=>h q (bi _ hq);show f p.1*p.2+lin f x=((if p.1=c then p.2 else 0)+cf x c)-(g p.1*p.2+lin g x)-(a p.1*p.2+lin a x)*u-(b p.1*p.2+lin b x)*w;have e1:a p.1*u*p.2=a p.1*p.2*u:=Int.mul_right_comm ..;have e2:b p.1*w*p.2=b p.1*p.2*w:=Int.mul_right_comm ..;rw[ih,h p ax,Int.sub_mul,Int.sub_mul,Int.sub_mul,e1,e2,Int.add_mul,Int.add_mul];split<;>omega
theorem Abt(C:CanL x (cf x))(hx:Eb torC 1 x=true)(hz:bz torC x=true)(c:Int):cf (DB (AY torC) (lcT tAt x)) c=cf x c-lin (cf NA) x*cf QP c-lin (cf Ns) x*cf SF c:=by
 have hs:lin (tS c) (DB (AY torC) x)=0:=by rw[FY (B:=[]) _ λa=>(Hr _ _).1 hz a];rfl
 rw[UL tor_rgt]at hs;rw[GN tor_rgt,AaI,Q5 (c:=c) (g:=λe=>if e∈torC.map Cl.id then lin (tS c) (GF torC e).sd else 0) (a:=cf NA) (b:=cf Ns) (u:=cf QP c) (w:=cf SF c) λp hp=>?_,hs]
 ·omega
 ·have h1:=(C.mem p).1 hp;obtain⟨y,hy,e1,e2⟩:=has_iff.1 ((CQ _ _ _).1 hx p.1 (by rw[<-h1.1];exact h1.2));have:=Aa3 hy e2 c;rw[<-e1,ah (ag.2 ⟨y,hy,rfl⟩),DT tor_rgt.nd hy];omega
def nT(n:Int)(x:List Tm):List Tm:=x.map λt=>(t.1,t.2*n)
theorem Ac1(n:Int)(x:List Tm)(c:Int):cf (nT n x) c=n*cf x c:=by rw[Lq,Lq x];unfold nT;rw[FU,Int.mul_comm]
theorem VX{φ:Int->Int}(hφ:∀y∈torC,y.dim=2->lin φ y.sd=0){z ch:List Tm}{n:Int}(Cc:CanL ch (cf ch))(hc:Eb torC 2 ch=true)(hz:∀c,cf z c=n*cf x c)(hb:ML torC z [] ch=true):lin φ x*n=0:=by
 have h1:lin φ (DB (AY torC) ch)=lin φ (nT n x):=FY _ λc=>by rw[(EE _ _ _ _).1 hb c,Ac1,hz,FB];omega
 unfold nT at h1;rw[FU,UL tor_rgt]at h1;rw[<-h1];refine Vo λp hp=>?_;have h2:=(Cc.mem p).1 hp;obtain⟨y,hy,e1,e2⟩:=has_iff.1 ((CQ _ _ _).1 hc p.1 (by rw[<-h2.1];exact h2.2));rw[<-e1,ah (ag.2 ⟨y,hy,rfl⟩),DT tor_rgt.nd hy];exact hφ y hy e2
theorem Aa0{z:List Tm}{n:Int}{sa sb:Bool}(C:CanL x (cf x))(hx:Eb torC 1 x=true)(hzx:bz torC x=true)(hz:∀c,cf z c=n*cf x c)
  (ha:(∃ch,ML torC x [] ch=true)->sa=true) (ha':sa=true->∃ch,ML torC x [] ch=true) (hb:(∃ch,ML torC z [] ch=true)->sb=true) (hb':sb=true->∃ch,CanL ch (cf ch)/\Eb torC 2 ch=true/\ML torC z [] ch=true):sb=(sa||decide (n=0)):=by
 have key:sb=true<->(sa||decide (n=0))=true:=by
  rw[Bool.or_eq_true,decide_eq_true_eq];constructor
  ·intro h;obtain⟨ch,Cc,hc,hbn⟩:=hb' h;by_cases hn:n=0
   ·exact .inr hn
   ·refine .inl<|ha ⟨lcT tAt x,(EE _ _ _ _).2 λc=>?_⟩
    have hcl:∀y∈torC,y.dim=2->lin (cf NA) y.sd=0/\lin (cf Ns) y.sd=0:=λy hy hd=>by have:=d7.1 Aem y hy;rw[Bool.or_eq_true,decide_eq_true_eq]at this;have h2:=this.resolve_left λq=>q hd;rw[dt,decide_eq_true_eq,decide_eq_true_eq]at h2;exact h2
    have z1:=(Int.mul_eq_zero.1 (VX (λy hy hd=>(hcl y hy hd).1) Cc hc hz hbn)).resolve_right hn;have z2:=(Int.mul_eq_zero.1 (VX (λy hy hd=>(hcl y hy hd).2) Cc hc hz hbn)).resolve_right hn;rw[Abt C hx hzx,z1,z2,FB];omega
  ·rintro(h|h)
   ·obtain⟨ch,hc⟩:=ha' h;refine hb ⟨nT n ch,(EE _ _ _ _).2 fun c=>?_⟩;have h1:=(EE _ _ _ _).1 hc c;rw[FB]at h1;rw[GN tor_rgt];unfold nT;rw[FU,<-GN tor_rgt,h1,hz,FB,Int.sub_zero,Int.sub_zero,Int.mul_comm]
   ·refine hb ⟨[],(EE _ _ _ _).2 λc=>?_⟩;rw[hz,h,FB,gj];rfl
 cases sb<;>cases h:(sa||decide (n=0))<;>simp_all
end
section
open Go.Lin Go.Wd Go.Sm Go.Ch
theorem Abr(h:Hp):FnT Tryz.prog 34 #[] h [] (λr h' ms'=>h.le h'/\ms'=[]/\∃v l,r=.agg #[v]/\RdC h' v l/\l.map Ce.c=DI (JR 7)):=
 FnT.frz (TD h) λr h' ms' ⟨q,m,A,v',e,er,O,hA,hs⟩=>⟨m,[],e,λh2 l2 lm=>⟨AD q l2,rfl,v',A,er,⟨O.rdh lm,λa ha=>(hs a ha).up l2⟩,hA⟩⟩
theorem Aeg{n:Int}{v vx vz:Value}{h:Hp}{l:List Ce}{x z:List Tm}(T:Tq v vx (.slice none 0 0) h 1 l x [])(Z:ChR vz h z)(hz:∀c,cf z c=n*cf x c)(ha:Bf z<2^99)(hn:z.length<=2000):Tq v vz (.slice none 0 0) h 1 l z []:=by have R:=T.Q.K.r;refine⟨T.Q,Z,T.Y,T.hd,T.hl,(CQ _ _ _).2 λc hc=>(CQ _ _ _).1 T.hx c λq=>hc (by rw[hz,q,gu]),T.hy,?_,T.zy,by show z.length+0<=_;omega,by show Bf z+0<_;rw[Nat.add_zero];exact ha,T.hT⟩;rw[Hr];intro c;rw[GN R,FY (B:=nT n x) _ λa=>(hz a).trans (Ac1 n x a).symm];unfold nT;rw[FU,<-GN R,(Hr _ _).1 T.zx c];simp
set_option exponentiation.threshold 4000000 in
theorem Xg(xs rs:List Int)(n0:Int)(hn0:Cd n0)(vx vr:Value)(h:Hp)(hX:RdL cI 1 h [] vx xs)(hY:RdL cI 1 h [] vr rs):FnT Tryz.prog 9 #[vx,vr,.int .i64 n0] h [] (λr _ _=>r=.bool true):=by
 have o1:=hX.rd.one;have o2:=hY.rd.one;refine Ap func9 ntmps9 Y Y<|λw0 hw0=>?_;simp only[AR];refine Ar<|Qm Y<|Bp<|Qx (As Y call12 Y<|Zd _ _) Y<|Qm Y<|Bp<|Qc call34 Y (Abr h)<|λr1 h1 ms1 l1 hF=>?_;obtain⟨l1',rfl,v,l,rfl,hR,hl⟩:=hF;have ov:=hR.q.rd.one;refine BS [.nl] Y Bd Y Y<|λg8=>?_;refine Sa 0 [_] Bd Y (by simp[o1,o2,ov,B8]) ?_;refine Am<|Av 0 Y λh2 l2 hS8=>?_;have l02:=AD l1' l2;have hR:=hR.up l2;have hl2:l.map Ce.c=torC:=hl.trans tor_simp.symm;have hln:l.length=42:=by rw[<-be (f:=Ce.c),hl2];rfl
 have Q:QsOk v h2 l:=QsOk.of hR hl ω λn=>bl (Zk n) ω;have hcn:cn l=l.map Ce.c:=Smp.ord ⟨_,hl⟩;have E:Edg (cn l):=by rw[hcn,hl2];exact Abe
 have s8:∀h',h2.le h'->∀ms,Seg h' ms (⟨g8,0,none⟩:Addr) [v]:=λh' q ms=>(hS8.le q).any;obtain⟨n,hn⟩:∃n,n0%7=n:=⟨_,Y⟩
 have hnb:0<=n/\n<7:=ω
 have hmod:∀h ms,FnV Tryz.prog 14 #[.w n0,.w 7] h ms (.w n):=λh ms=>hn ▸ U7 n0 7 hn0 δ h ms;refine Ar<|Qm Y<|Qx (As Y call14 Y<|hmod _ _) Y<|Qm Y<|Bp<|Qx (oG Y C9 Bd<|s8 _ (BE) _) Y<|Qm Y<|Qm Y<|Qc call15 Y (Aav l v vx vr xs rs h2 Q hcn E ω (hX.up l02)<|hY.up l02)<|λw7 h3 ms3 l3 hF=>?_;obtain⟨l3',rfl,x,hCx,hRx,hax,hnx,hix,hbx⟩:=hF;have ow:=hRx.rd.rd.one;have hT0:=TF Q (show l.length<=200 by omega);have T:Tq v w7 (.nl) h3 1 l x []:=⟨Q.up l3',hRx,DD _,by decide,ω,hix,(CQ _ _ _).2 λc hc=>ie Y hc,hbx,Si _ _ (by rw[hl2];decide),by show x.length+0<=_;omega,Nat.lt_of_le_of_lt (show Bf x+0<=300000 by omega) δ,hT0⟩
 obtain⟨s',F⟩:=P8 (d:=1) hl2 ⟨_,tor_simp⟩ κ;have oS2:(sv (A7 (n:Int).natAbs)).oneCell'=true:=rfl;have hna:n.natAbs<=6:=ω
 have hnS:Sz n:=Sz.of (B:=3) (show n.natAbs<2^3 by omega) δ;refine Qm Y<|Bp<|Qm Y ?_;refine Qx (As Y call25 Y<|Hq n (by unfold Cd;omega) _ _) Y ?_;refine Qm Y ?_;refine Qc call31 Y (QH n w7 x h3 T.X hnS<|Nat.lt_of_le_of_lt (ep hna hax)<|b6 (show 6*300000<2^21 by decide)<|Nat.pow_le_pow_right δ δ)<|λrS h6 ms6 l6 hF6=>?_;obtain⟨l6',rfl,z,hz1,hz2,hz3,hz4⟩:=hF6;have hzc:∀c,cf z c=n*cf x c:=λc=>(hz1.cf_eq c).trans (MD n x c);have hza:Bf z<=1800000:=by rw[JC]at hz3;exact bl hz3<|ep hna hax
 have TZ:Tq v rS (.nl) h6 1 l z []:=Aeg (T.up l6') hz2 hzc (Nat.lt_of_le_of_lt hza δ) (by have:(Kg n x).length=x.length:=be ..;omega);have oz:=hz2.rd.rd.one;refine Qm Y<|Bp<|Qx (oG Y C9 Bd<|s8 _ (AD l3' l6') _) Y<|Qm Y<|Qc call16 Y (TR (T.up l6') F)<|λw9 h7 ms7 l7 hF7=>?_;obtain⟨l7',rfl,sa,a1,n1,c1,a2,n2,c2,ma,rfl,A⟩:=hF7;refine Qm Y<|Qm Y<|Qm Y<|BS [.bool false,.nl,.nl,.bool false,.es] Y E6 Y Y<|λg11=>?_;refine Sa 0 [_,_,_,_,_] E6 Y (by simp[o1,o2,ov,ow,B8,oS2,oz]) ?_;refine Qm Y<|Am<|Av 0 Y λh8 l8 hS11=>?_;have l28:=AD (AD l3' l6') (AD l7' l8);have s11:∀h',h8.le h'->∀ms,Seg h' ms (⟨g11,0,none⟩:Addr) [.bool sa,.slice a1 n1 c1,.slice a2 n2 c2,.bool (decide (ma<0)),sv (A7 ma.natAbs)]:=λh' q ms=>(hS11.le q).any;refine Ar<|Qx (oG Y C9 Bd<|s8 _ l28 _) Y<|Qm Y<|Qc call16 Y (TR (TZ.up<|AD l7' l8) F)<|λw10 h9 ms9 l9 hF9=>?_;obtain⟨l9',rfl,sb,b1,m1,d1,b2,m2,d2,mb,rfl,B⟩:=hF9;refine Qm Y<|Qm Y<|Qm Y<|BS [.bool false,.nl,.nl,.bool false,.es] Y E6 Y Y<|λg13=>?_;refine Sa 0 [_,_,_,_,_] E6 Y (by simp[o1,o2,ov,ow,B8,oS2,oz]) ?_;refine Qm Y<|Am<|Av 0 Y λh10 l10 hS13=>?_;have l910:=AD l9' l10;have s13:∀ms,Seg h10 ms (⟨g13,0,none⟩:Addr) [.bool sb,.slice b1 m1 d1,.slice b2 m2 d2,.bool (decide (mb<0)),sv (A7 mb.natAbs)]:=λms=>hS13.any;have d11:∀ms,Cell h10 ms ((⟨g11,0,none⟩:Addr).add 0) (.bool sa):=λms=>(s11 _ l910 ms) 0 _ Y;have d13:∀ms,Cell h10 ms ((⟨g13,0,none⟩:Addr).add 0) (.bool sb):=λms=>(s13 ms) 0 _ Y;have ck1:=A.rk h10 (AD l8 l910);have ck2:=B.rk h10 l10;unfold S8 at ck1 ck2;have osa:(sv (A7 ma.natAbs)).oneCell'=true:=rfl;have osb:(sv (A7 mb.natAbs)).oneCell'=true:=rfl;have hAi:=A.iff Q.K.r;have hBi:=B.iff Q.K.r;have hBy:=B.yes;rw[hl2]at hix hbx hAi hBi hBy;have hlaw:=Aa0 hCx hix hbx hzc hAi.2 hAi.1 hBi.2 hBy;refine Ac<|Ar<|Qm Y<|Qx (Cw (EO Y Y Y)<|aw Value.bool<|cg δ) Y<|Qm Y<|Qg (Au Y Y) Y<|Qg (Cw (EO Y Y Y)<|aw Value.bool<|cg δ) Y<|Qm Y<|Qm Y<|Qg (oG Y C9 Bd<|s8 _ (AD l28 l910) _) Y<|Qg (Au Y Y) Y<|Qg (oG Y U35 E6<|s11 _ l910 _) Y<|Qg (As Y call18 Y<|ck1 _) Y<|Qg (Dn Y Y) Y<|Qm Y<|Qm Y<|Qg (oG Y C9 Bd<|s8 _ (AD l28 l910) _) Y<|Qg (Au Y Y) Y<|Qg (oG Y U35 E6<|s13 _) Y<|Qg (As Y call18 Y<|ck2 _) Y<|Qg (Dn Y Y) Y<|Qm Y<|Am<|AL Y<|Ah<|Ab ?_;cases sa
 ·rw[Bool.false_or]at hlaw;refine Ar<|Qm Y<|Qm Y<|Qg (oF G0 Y) Y<|Qg (oL Y U4<|d13 _) Y<|Qg (oF G0 Y) Y<|Qg (oL Y U4<|d11 _) Y<|Qg (Au Y Y) Y<|Qg (Au Y Y) Y<|Qg (Cw (Cq Y Y Y) Y) Y<|Qg (CA Y Y Y) Y<|Qg (Cw (Kj Y U4 Y Y)<|aw Value.bool<|bq hlaw) Y<|Qm Y<|Qm Y<|Am<|Aj ?_;exact Al Y Y<|Y
 ·rw[Bool.true_or]at hlaw;refine Ar<|Qm Y<|Qm Y<|Qg (oF G0 Y) Y<|Qg (oL Y U4<|d13 _) Y<|Qg (oF G0 Y) Y<|Qg (oL Y U4<|d11 _) Y<|Qg (Au Y Y) Y<|Qk Y<|Qk Y<|Qg (CS Y Y Y) Y<|Qg (Cw (Kj Y U4 Y Y)<|aw Value.bool<|bq hlaw) Y<|Qm Y<|Qm Y<|Am<|Aj ?_;exact Al Y Y<|Y
end
end Go.Proofs.Q