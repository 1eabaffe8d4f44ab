/- A part of the proof. -/
import Derived.Test.YtmgaeedkcecckaaGreatDoorPH
import Derived.Test.YtmgaeedkcecckaaGreatDoorRows
import Derived.Test.YtmgaeedkcecckaaGreatDoorChecked
import Derived.WalkKit
import Derived.ProofKit
import Derived.ChangeOld
import Derived.LaidMore
import Derived.Lay
import Derived.SevenTiedAt
import Derived.Stop.Joined
import Derived.Test.YtmgaeedkcecckaaGreatDoorCards
import Derived.Test.YtmgaeedkcecckaaGreatDoorTie
set_option linter.unusedSimpArgs false
set_option linter.unusedVariables false
set_option linter.unusedSectionVars false
set_option maxRecDepth 100000
set_option maxHeartbeats 4000000
open List (length_map length_singleton getElem_mem range length_append nil_append mem_cons cons_append map_append mem_cons_self mem_cons_of_mem map_map length_cons take_of_length_le not_mem_nil)
namespace Go.Proofs.Q
open Go.Proofs.Tryz
open Go.Eng Go.RowKit
section
open Go.Lin Go.Wd Go.Sm Go.Ch
variable {v vx vy:Value} {h:Hp} {l:List Ce} {d:Int} {x y:List Tm}
structure Tq(v vx vy:Value)(h:Hp)(d:Int)(l:List Ce)(x y:List Tm):Prop where
 Q:QsOk v h l
 X:ChR vx h x
 Y:ChR vy h y
 hd:0<=d/\d<=900
 hl:l.length<=200
 hx:E0 (l.map Ce.c) d x=true
 hy:E0 (l.map Ce.c) d y=true
 zx:bz (l.map Ce.c) x=true
 zy:bz (l.map Ce.c) y=true
 hn:x.length+y.length<=100000
 ha:Bk x+Bk y<2^99
 hT:(A4 (l.map Ce.c)).length<100000
theorem Tq.up{h':Hp}(T:Tq v vx vy h d l x y)(q:h.le h'):Tq v vx vy h' d l x y:=⟨T.Q.up q,T.X.up q,T.Y.up q,T.hd,T.hl,T.hx,T.hy,T.zx,T.zy,T.hn,T.ha,T.hT⟩
set_option exponentiation.threshold 4000000 in
theorem Tq.bch(T:Tq v vx vy h d l x y){ch:List Tm}{B:Nat}(hb:Bk ch<2^B)(hB:17+B<=2000000):Bk (DI (A4 (l.map Ce.c)) ch)<2^2000000/\Bk (Gj (A4 (l.map Ce.c)) ch)<2^2000000:=by have h1:(A4 (l.map Ce.c)).length<2^17:=cj T.hT δ;have h2:=Vs T.Q.K.r;exact⟨Nat.lt_of_le_of_lt (Zm h2) (Gb h1 hb hB),Nat.lt_of_le_of_lt (AdO h2) (Gb h1 hb hB)⟩
theorem Tq.bx(T:Tq v vx vy h d l x y):Bk (DI (A4 (l.map Ce.c)) x)<2^2000000:=(T.bch (B:=99) (Nat.lt_of_le_of_lt (Nat.le_add_right _ _) T.ha) δ).1
theorem Tq.by_(T:Tq v vx vy h d l x y):Bk (DI (A4 (l.map Ce.c)) y)<2^2000000:=(T.bch (B:=99) (Nat.lt_of_le_of_lt (Nat.le_add_left _ _) T.ha) δ).1
set_option exponentiation.threshold 4000000 in
theorem Tq.ha2(T:Tq v vx vy h d l x y):Bk x+Bk y<2^2000000:=cj T.ha (Nat.pow_le_pow_right δ δ)
structure Fq(l:List Ce)(d:Int)(s':St):Prop where
 hfp:EO (Ba (cn l) d).length (Ba (cn l) (d+1)).length (min (Ba (cn l) d).length (Ba (cn l) (d+1)).length) 0 (S6 (Ba (cn l) d).length (Ba (cn l) (d+1)).length (HR (cn l) (d+1)))=some s'
theorem AeU(Q:QsOk v h l)(d:Int):∀i j,j<(Ba (cn l) d).length->Bq 33 (HR (cn l) d i j):=λi j hj=>by obtain⟨x,hx,e1,e2,e3⟩:=OZ Q.K.r (d:=d) (j:=j) hj;unfold HR;rw[show Io (cn l) ((Ba (cn l) d).getD j 0)=x.can from e2,Kl];obtain⟨z,hz,rfl⟩:=aj.1 hx;have h1:=P6 z.c.sd ((Ba (cn l) (d-1)).getD i 0) λs hs=>Q.K.r.sgn _ hx s hs;have h2:=Q.X.sdn z hz;show Int.natAbs _<2^33;omega
set_option exponentiation.threshold 4000000 in
theorem AbU{s':St}(T:Tq v vx vy h d l x y)(F:Fq l d s'):FnT Tryz.prog 16 #[.agg #[v],.int .i64 d,vx,vy] h [] (λw h' ms'=>h.le h'/\ms'=[] ∧
  ((∃ch vc,w=.tuple #[TH true vc (.nl) 0,.w 0]/\CanL ch (cf ch)/\ChR vc h' ch/\Bk ch<2^1320700/\E0 (l.map Ce.c) (d+1) ch=true/\Ri (l.map Ce.c) x y ch=true) ∨
  (∃co vc m,w=.tuple #[TH false (.nl) vc m,.w 0]/\CanL co (cf co)/\ChR vc h' co/\Bk co<2^660100/\0<=m/\m<2147483648/\E0 (l.map Ce.c) d co=true/\PB (l.map Ce.c) m co=true/\¬m∣lin (cf co) x-lin (cf co) y))):=by
 have hm0:(Ba (cn l) d).length<=100:=T.Q.many d;have hm1:(Ba (cn l) (d+1)).length<=100:=T.Q.many (d+1);have G:=Abu F.hfp;have R:=T.Q.K.r
 have hD:∀k,k<(Ba (cn l) d).length->(We (Ba (cn l) (d+1)).length s'.S.d.flatten k).natAbs<4294967296:=λk hk=>by
  rw[ON G.shp.sd hk];split
  ·rename_i h2;have:=(G.p k hk h2).2;omega
  ·decide
 have hbq:∀i,i<(Ba (cn l) d).length->Bq 100 (cf x ((Ba (cn l) d).getD i 0)-cf y ((Ba (cn l) d).getD i 0)):=λi _=>by have h1:=C4 x ((Ba (cn l) d).getD i 0);have h2:=C4 y ((Ba (cn l) d).getD i 0);have h3:=T.ha;show(cf x _-cf y _).natAbs<2^100;have:(2:Nat)^99<=2^100:=Nat.pow_le_pow_right δ δ;omega
 refine(Uf v vx vy d T.hd x y l h T.Q T.hl T.X T.Y T.hx T.hy T.bx T.by_ T.zx T.zy T.hn T.ha _ _ _ _ Y Y Y Y _ Y (λi j _ hj=>AeU T.Q (d+1) i j hj) s' F.hfp _ _ Y Y hD).mono λw h' ms' ⟨q,e,O,A⟩=>⟨q,e,?_⟩
 rcases A with ⟨hall,vc,rfl,ch,C,CR,ha_,hn_⟩|⟨k,hk,hnd,_,vc,rfl,co,C,CR,ha_,hn_⟩
 ·left
  obtain⟨h1,h2⟩:=ZE R Y Y Y Y Y G T.hx T.hy Y Y hall C;refine⟨ch,vc,Y,C.congr λc=>(C.cf_eq c).symm,CR,Nat.lt_of_le_of_lt ha_ (cj (QZ (λi _=>Adz O Y hbq ω ω i) ω) (Nat.pow_le_pow_right δ δ)),h1,h2⟩
 ·right
  obtain⟨h1,h2,h3,h4,h5⟩:=AbT R Y Y Y Y Y G T.hx T.hy Y Y hk hnd C;refine⟨co,vc,_,Y,C.congr λc=>(C.cf_eq c).symm,CR,Nat.lt_of_le_of_lt ha_ (cj (QZ (λi _=>O.bu k i) ω) (Nat.pow_le_pow_right δ δ)),h1,(by have h6:=Int.ofNat_lt.2 h2;rw[Int.natAbs_of_nonneg h1]at h6;exact h6),h3,h4,h5⟩
end
section
open Go.Lin Go.Wd Go.Sm Go.Ch
set_option exponentiation.threshold 4000000 in
theorem Nr{v vx vy:Value}{h:Hp}{d:Int}{l:List Ce}{x y:List Tm}{s':St}(T:Tq v vx vy h d l x y)(F:Fq l d s')(same sm:Bool)(hsm:sm=true<->∃ch,Ri (l.map Ce.c) x y ch=true)(ms:List Hp) :
  FnV Tryz.prog 36 #[.agg #[v],.w d,vx,vy,.bool same] h ms (.bool (decide (sm=same))):=by
 refine Ea ?_ ms;have ov:=T.Q.X.rd.q.rd.one;have R:=T.Q.K.r;obtain⟨xa,xc,rfl,_⟩:=T.X.rd.rd.ex;obtain⟨ya,yc,rfl,_⟩:=T.Y.rd.rd.ex;refine Ao func36 ntmps36 Y Y (λw0 hw0=>?_);simp only[AS];refine As (AK [_] Y Y (by rfl) Y Y Y (λg5=>Qm Y (An (Aw 0 Y λh1 l1 hS5=>?_))));have s5:∀h',h1.le h'->∀ms,Seg h' ms (⟨g5,0,none⟩:Addr) [v]:=λh' q ms=>(hS5.le q).any;refine As (Qx (oG Y Dz Bj (s5 _ (BD) _)) Y (Qm Y (Qm Y (Qm Y (Qc call16 Y (AbU (T.up l1) F) (λw h2 ms2 l2 hF=>?_))))));obtain⟨l2',rfl,hA⟩:=hF;have l02:=AD l1 l2';rcases hA with ⟨ch,vc,rfl,hcc,CR,hab,hin,hbn⟩|⟨co,vc,m,rfl,hcc,CR,hab,hm0,hm1,hin,hcl,hnd⟩
 ·have hs1:sm=true:=hsm.2 ⟨ch,hbn⟩;subst hs1;obtain⟨ca,cc,rfl,_⟩:=CR.rd.rd.ex;unfold TH;refine Qm Y (Qm Y (Qm Y (BY [.bool false,.nl,.nl,.bool false,.es] Y FE Y Y (λg11=>?_))));refine Sa 0 [_,_,_,_,_] FE Y (by simp[ov,Cn]) ?_;refine Qm Y (An (Aw 0 Y λh3 l3 hS11=>?_));have l13:=AD l2' l3;have l03:=AD l1 l13;have T3:=T.up l03;have b0:=T3.bch hab δ;have hck:=TR v _ _ (.slice ca ch.length cc) (.nl) d 0 T.hd x y ch [] l h3 T3.Q T3.X T3.Y (CR.up l3) (El _) T.hx T.hy T.bx T.by_ T.zx T.zy T.hn T.ha2 b0.1 (by unfold Sz;decide);have hrk:=RN v _ _ (.slice ca ch.length cc) (.nl) d 0 T.hd x y ch [] l h3 T3.Q T3.X T3.Y (CR.up l3) (El _) T.hx T.hy T.bx T.by_ T.zx T.zy T.hn T.ha2 b0.1 T.hT (by unfold Sz;decide);rw[hin,hbn]at hck hrk;unfold TH at hck hrk;have s11:∀ms,Seg h3 ms (⟨g11,0,none⟩:Addr) [.bool true,.slice ca ch.length cc,.nl,.bool (decide ((0:Int)<0)),sv (A8 (0:Int).natAbs)]:=λms=>hS11.any;have d0:∀ms,Cell h3 ms ((⟨g11,0,none⟩:Addr).add 0) (.bool true):=λms=>(hS11 0 _ Y).any;cases same
  ·refine Ac (Ad (Qm Y (Qx (BE (Ca Y Y Y) (ao Value.bool (bm Y))) Y (Qm Y (Qg (oF Ig Y) Y (Qg (oL Y U4 (d0 _)) Y (Qg (Ar Y Y) Y (Qg (BE (KC Y U4 Y Y) (ao Value.bool (b7 δ))) Y (Qm Y (Qm Y (Qk Y (Qk Y (Qk Y (Qk Y (Qk Y (Qk Y (Qm Y (Qm Y (Qk Y (Qk Y (Qk Y (Qk Y (Qk Y (Qk Y (Qm Y (Qm Y (An (Aj ?_))))))))))))))))))))))))))));exact Al Y Y (Y)
  ·refine Ac (Ad (Qm Y (Qx (BE (Ca Y Y Y) (ao Value.bool (bm Y))) Y (Qm Y (Qg (oF Ig Y) Y (Qg (oL Y U4 (d0 _)) Y (Qg (Ar Y Y) Y (Qg (BE (KC Y U4 Y Y) (ao Value.bool (bm Y))) Y (Qm Y (Qm Y (Qg (oG Y Dz Bj (s5 _ l13 _)) Y (Qg (Ar Y Y) Y (Qg (Ar Y Y) Y (Qg (Ar Y Y) Y (Qg (oG Y U35 FE (s11 _)) Y (Qg (Au Y call18 Y (hrk _)) Y (Qm Y (Qm Y (Qg (oG Y Dz Bj (s5 _ l13 _)) Y (Qg (Ar Y Y) Y (Qg (Ar Y Y) Y (Qg (Ar Y Y) Y (Qg (oG Y U35 FE (s11 _)) Y (Qg (Au Y call19 Y (hck _)) Y (Qm Y (Qm Y (An (Aj ?_))))))))))))))))))))))))))));exact Al Y Y (Y)
 ·have hs1:sm=false:=by
   cases sm with
   | false=>rfl
   | true=>
    obtain⟨ch,hb⟩:=hsm.1 Y;exact ib (UT R hb hcl) hnd
  subst hs1;obtain⟨ca,cc,rfl,_⟩:=CR.rd.rd.ex;unfold TH;have osm:(sv (A8 m.natAbs)).oneCell'=true:=rfl;refine Qm Y (Qm Y (Qm Y (BY [.bool false,.nl,.nl,.bool false,.es] Y FE Y Y (λg11=>?_))));refine Sa 0 [_,_,_,_,_] FE Y (by simp[ov,Cn,osm]) ?_;refine Qm Y (An (Aw 0 Y λh3 l3 hS11=>?_));have l13:=AD l2' l3;have l03:=AD l1 l13;have T3:=T.up l03;have b0:=T3.bch hab δ;have hmS:Sz m:=Sz.of (B:=32) (show m.natAbs<2^32 by omega) δ;have hpp:Bk co*(Bk x+Bk y)<2^2000000:=Gb hab T.ha δ;have hck:=NO v _ _ (.nl) (.slice ca co.length cc) d m x y [] co l h3 T3.Q T3.X T3.Y (El _) (CR.up l3) T.hx T.hy T.bx T.by_ T.zx T.zy T.hn T.ha2 b0.2 hpp (show m.natAbs<4294967296 by omega);have hrk:=TP v _ _ (.nl) (.slice ca co.length cc) d m T.hd x y [] co l h3 T3.Q T3.X T3.Y (El _) (CR.up l3) T.hx T.hy T.bx T.by_ T.zx T.zy T.hn T.ha2 b0.2 hpp T.hT hmS;rw[hin,hcl,bm hm0,b7 hnd]at hck hrk;unfold TH at hck hrk;have s11:∀ms,Seg h3 ms (⟨g11,0,none⟩:Addr) [.bool false,.nl,.slice ca co.length cc,.bool (decide (m<0)),sv (A8 m.natAbs)]:=λms=>hS11.any;have d0:∀ms,Cell h3 ms ((⟨g11,0,none⟩:Addr).add 0) (.bool false):=λms=>(hS11 0 _ Y).any;cases same
  ·refine Ac (Ad (Qm Y (Qx (BE (Ca Y Y Y) (ao Value.bool (bm Y))) Y (Qm Y (Qg (oF Ig Y) Y (Qg (oL Y U4 (d0 _)) Y (Qg (Ar Y Y) Y (Qg (BE (KC Y U4 Y Y) (ao Value.bool (bm Y))) Y (Qm Y (Qm Y (Qg (oG Y Dz Bj (s5 _ l13 _)) Y (Qg (Ar Y Y) Y (Qg (Ar Y Y) Y (Qg (Ar Y Y) Y (Qg (oG Y U35 FE (s11 _)) Y (Qg (Au Y call18 Y (hrk _)) Y (Qm Y (Qm Y (Qg (oG Y Dz Bj (s5 _ l13 _)) Y (Qg (Ar Y Y) Y (Qg (Ar Y Y) Y (Qg (Ar Y Y) Y (Qg (oG Y U35 FE (s11 _)) Y (Qg (Au Y call19 Y (hck _)) Y (Qm Y (Qm Y (An (Aj ?_))))))))))))))))))))))))))));exact Al Y Y (Y)
  ·refine Ac (Ad (Qm Y (Qx (BE (Ca Y Y Y) (ao Value.bool (bm Y))) Y (Qm Y (Qg (oF Ig Y) Y (Qg (oL Y U4 (d0 _)) Y (Qg (Ar Y Y) Y (Qg (BE (KC Y U4 Y Y) (ao Value.bool (b7 δ))) Y (Qm Y (Qm Y (Qk Y (Qk Y (Qk Y (Qk Y (Qk Y (Qk Y (Qm Y (Qm Y (Qk Y (Qk Y (Qk Y (Qk Y (Qk Y (Qk Y (Qm Y (Qm Y (An (Aj ?_))))))))))))))))))))))))))));exact Al Y Y (Y)
def LV(l:List Int)(n:Nat):List Tm:=(range n).map λj=>(l.getD (2*j) 0,l.getD (2*j+1) 0)
theorem Xb(l:List Int)(n:Nat):LV l (n+1)=LV l n++[(l.getD (2*n) 0,l.getD (2*n+1) 0)]:=by unfold LV;rw[List.range_succ,cq];rfl
theorem Aaw(l:List Int)(n:Nat):(LV l n).length=n:=by simp[LV]
theorem Nl(v:Value)(l:List Int)(n:Nat)(hl:l.length=2*n)(hn:n<=1000)(hI:∀x∈l,Cc x)(h:Hp)(R:RdL cI 1 h [] v l):FnT Tryz.prog 37 #[v] h [] (λr h' ms'=>h.le h'/\ms'=[]/\RdL DK 3 h' [] r (LV l n)):=by
 have ov:=R.rd.one;have rL:Rd h [] v 1 (2*n) (l.flatMap cI):=by have:=R.rd;rwa [hl]at this
 refine Ao func37 ntmps37 Y Y (λw0 hw0=>?_);simp only[AS];refine As (Qm Y (Bw (Qm Y (An (Ac (As (Qm Y (An (Af (B8 ?_))))))))));refine AC (λq sl h' ms'=>∃(j:Nat) (w:Value) (m:Hp),n-j=q/\sl=[(0,v),(3,w),(4,.w ((2*j+1:Nat):Int))]/\h=h'/\ms'=[m]/\j<=n/\OwnL DK 3 79 m w (LV l j)) (n-0) _ ⟨0,_,Hp.emp,Y,Y,Y,Y,ω,OwnL.nil Fj⟩ Qs ?_;rintro q sl h' ms' ⟨j,w,m,rfl,rfl,rfl,rfl,hj,hO⟩;have ow:=hO.o1;refine Ac (As (Qm Y (Qm Y (Qx (Aq rL.any Y A9 Y) Y (Qm Y (An ?_))))));refine Ax Y (λhlt=>?_) (λhlt=>?_)
 ·have hjn:j<n:=ω
  have h0:2*j<l.length:=ω
  have h1:2*j+1<l.length:=ω
  obtain⟨a,ha⟩:∃a,l[2*j]=a:=⟨_,Y⟩
  obtain⟨b,hb⟩:∃b,l[2*j+1]=b:=⟨_,Y⟩
  have hbI:Cc b:=hI b (hb ▸ ap h1);have ca:∀ms,Cell h ms ((AI v).add (2*j*1)) (.w a):=λms=>(R.any (ms:=ms)).cell0 h0 (by rw[ha];rfl);have cb:∀ms,Cell h ms ((AI v).add ((2*j+1)*1)) (.w b):=λms=>(R.any (ms:=ms)).cell0 h1 (by rw[hb];rfl);have etk:LV l (j+1)=LV l j++[(a,b)]:=by rw[Xb,show l.getD (2*j) 0=a by simp[List.getD,h0,ha],show l.getD (2*j+1) 0=b by simp[List.getD,h1,hb]]
  have htl:=Aaw l j;have osb:(sv (A8 b.natAbs)).oneCell'=true:=rfl;refine Ah (Ab (Ac (Af (AU (n:=15) (bs:=[ic,ic,ic,ic,ic,ic,ic,ic,ic,ic,ic,ic,ie,ie,ie]) [ic,ic,ic,ic,ic,ic,ic,ic,ic,ic,ic,ic] CK κ κ Y Y (Qq Y (Qq Y (Qq Y (Qp Y (oS Y) (Qp Y (BR (2*j) rL.any Y A9 Bp Y Y) (QL Y U3 (ca _) (Qq Y (Qq Y (Qp Y (BR (2*j+1) rL.any Y A9 Bp Y Y) (QL Y U3 (cb _) (Qp Y (Au Y call25 Y (Lx b hbI _ _)) (Qp Y (AP AaW [.w 0,.bool false,.es] [(0,_),(1,_)] [_,_,_] Y Cx Y Y Qt Y) ?_))))))))))))))));unfold Do;simp only[bj,aw];refine Qo 12 Y (AB [_,_,_] Y CV Cx Y (by rfl) Y Y ω Y Y Y (λg23=>Qw (Qo 13 Y (AL 1 hO (RdL.one Fj (x:=((a,b):Tm)) Mh Y) Y CV Cx Y ω Y Y Y D8 (by(try simp only[ae]);omega) (by(try simp only[ae]);omega) rfl rfl rfl (λv9 m9 hO9=>?_)))));have o9:=hO9.o1;refine Qw (Qo 14 Y (Qm Y (Qw (Qe ?_))));rw[<-etk]at hO9;refine Ai (Ab (Ad (Qm Y (Qx (oA Y) Y (Qm Y (Am (AR ?_)))))));exact Ap (n-(j+1)) _ ω ⟨j+1,v9,m9,Y,Y,Y,Y,ω,hO9⟩ Qs
 ·obtain rfl:j=n:=ω
  refine EK hO λh2 l2 hR=>(AA (Aa (Aa (Ag (Ab (As (Qm Y (Qm Y (An (Aj ?_))))))))))
  exact Al Y Y (⟨l2,Y,hR⟩)
def ceR(h:Hp)(r:Value)(c:Cl):Prop:=∃v,r=.agg (cC ⟨c,v⟩).toArray/\RdL cD 2 h [] v c.sd
theorem Mc(i a b:Int)(h:Hp):FnT Tryz.prog 77 #[.int .i64 i,.int .i64 a,.int .i64 b] h [] (λr h' ms'=>h.le h'/\ms'=[]/\ceR h' r ⟨i,1,[(a,-1),(b,1)]⟩):=by refine Ao func77 ntmps77 Y Y (λw0 hw0=>?_);simp only[AS];refine As (BY [.int .i64 0,.int .i64 0,.slice none 0 0] Y A5 Y Y (λg6=>Bw (Qm Y (Qm Y (Qx (AP XC [.int .i64 0,.int .i64 0] [(0,_),(1,_)] [_,_] Y BX Y Y Qt Y) Y (Qm Y (Qx (AP XC [.int .i64 0,.int .i64 0] [(0,_),(1,_)] [_,_] Y BX Y Y Qt Y) Y (AJ [(0,_),(2,_)] [.int .i64 0,.int .i64 0,.int .i64 0,.int .i64 0] [_,_,_,_] Y C0 BX Y ω κ Qt Y Y Y Y (λg12=>AZ λh2 l2 hS=>?_)))))))));have hR:RdL cD 2 h2 [] (.slice (some ⟨g12,0,none⟩) 2 2) [(a,-1),(b,1)]:=RdL.built hS Y Y Gm δ;have o:=hR.rd.one;refine Qx (AP PD [.int .i64 0,.int .i64 0,.slice none 0 0] [(0,_),(1,_),(2,_)] [_,_,_] Y A5 Y Y Qt Y) Y ?_;refine Sa 0 [_,_,_] A5 Y (by simp[Value.oneCell']) ?_;refine An (Aj ?_);exact Bx (vs:=[_,_,_]) 0 Y Y Jq Y A5 Y Y (⟨l2,Y,_,Y,hR⟩)
def GU(f:Bool):List Cl:=[⟨1,0,[]⟩,⟨2,0,[]⟩,⟨3,0,[]⟩,⟨4,1,[(1,-1),(2,1)]⟩,⟨5,1,[(1,-1),(3,1)]⟩,⟨6,1,[(2,-1),(3,1)]⟩]++if f then [⟨7,2,[(4,1),(5,-1),(6,1)]⟩] else []
theorem LH(h:Hp):RdL cD 2 h [] (.slice none 0 0) []:=⟨Rd.nil _ _ _,Gm⟩
theorem NT(f:Bool)(h:Hp):FnT Tryz.prog 39 #[.bool f] h [] (λr h' ms'=>h.le h'/\ms'=[]/\∃v A,r=.agg #[v]/\RdC h' v A/\A.map Ce.c=GU f):=by
 refine Ao func39 ntmps39 Y Y (λw0 hw0=>?_);simp only[AS];refine As (BY [.nl] Y Bj Y Y (λg2=>Bw (Qm Y (Bw (Qx (AP PD [.w 0,.w 0,.nl] [(0,_)] [_,_,_] Y A5 Y Y Qt Y) Y (Qx (AP PD [.w 0,.w 0,.nl] [(0,_)] [_,_,_] Y A5 Y Y Qt Y) Y (Qx (AP PD [.w 0,.w 0,.nl] [(0,_)] [_,_,_] Y A5 Y Y Qt Y) Y (Qm Y (E6 (pre:=[]) Y Y call77 Y (Mc 4 1 2 h) Y Y Y Y (λc1 h1 ms1 l1 hF=>?_))))))))));obtain⟨l1',rfl,v1,rfl,R1⟩:=hF;refine Qm Y (E6 (pre:=[]) Y Y call77 Y (Mc 5 1 3 h1) Y Y Y Y (λc2 h2 ms2 l2 hF=>?_));obtain⟨l2',rfl,v2,rfl,R2⟩:=hF;refine Qm Y (E6 (pre:=[]) Y Y call77 Y (Mc 6 2 3 h2) Y Y Y Y (λc3 h3 ms3 l3 hF=>?_));obtain⟨l3',rfl,v3,rfl,R3⟩:=hF;have o1:=R1.rd.one;have o2:=R2.rd.one;have o3:=R3.rd.one;refine AJ [(0,_),(3,_),(6,_),(9,_),(12,_),(15,_)] [.w 0,.w 0,.nl,.w 0,.w 0,.nl,.w 0,.w 0,.nl,.w 0,.w 0,.nl,.w 0,.w 0,.nl,.w 0,.w 0,.nl] [_,_,_,_,_,_,_,_,_,_,_,_,_,_,_,_,_,_] Y Cb A5 Y ω κ Qt Y Y Y Y (λg14=>Qx (AP AbK [.nl] [(0,_)] [_] Y Bj Y Y Qt Y) Y (BY [.nl] Y Bj Y Y (λg4=>?_)));refine Sa 0 [_] Bj Y (by simp[Value.oneCell']) ?_;refine An (Ac (As (Qm Y (An ?_))));obtain⟨A6,hA6⟩:∃A6:List Ce,A6=[⟨⟨1,0,[]⟩,.nl⟩,⟨⟨2,0,[]⟩,.nl⟩,⟨⟨3,0,[]⟩,.nl⟩,⟨⟨4,1,[(1,-1),(2,1)]⟩,v1⟩,⟨⟨5,1,[(1,-1),(3,1)]⟩,v2⟩,⟨⟨6,1,[(2,-1),(3,1)]⟩,v3⟩]:=⟨_,Y⟩
 have hO:OwnL cC 3 50 (BL g14 50 (A6.flatMap cC)) (.slice (some ⟨g14,0,none⟩) 6 6) A6:=OwnL.blk (g:=g14) (el:=50) (F:=cC) (l:=A6) 6 DN (by rw[hA6];rfl) δ
 have hAs:∀h',h3.le h'->∀a∈A6,RdL cD 2 h' [] a.v a.c.sd:=λh' q a ha=>by
  rw[hA6]at ha;simp only[bi,gx,gu]at ha;rcases ha with rfl|rfl|rfl|rfl|rfl|rfl
  ·exact LH _
  ·exact LH _
  ·exact LH _
  ·exact R1.up (AD l2' (AD l3' q))
  ·exact R2.up (AD l3' q)
  ·exact R3.up q
 have l03:=AD l1' (AD l2' l3');have hfl:A6.flatMap cC=[.w 1,.w 0,.nl,.w 2,.w 0,.nl,.w 3,.w 0,.nl,.w 4,.w 1,v1,.w 5,.w 1,v2,.w 6,.w 1,v3]:=by rw[hA6];rfl
 rw[hfl]at hO;cases f
 ·refine AN Y (Ah (Ab (As (Qx (oG Y Dz Bj (Seg.blk 0 Y)) Y ?_))));refine Sa 2 [_] Bj Y (by simp[Value.oneCell']) ?_;refine An (Aj (Sh 1 Y λh4 l4 hS14=>?_));have hR:RdL cC 3 h4 [] (.slice (some ⟨g14,0,none⟩) 6 6) A6:=RdL.built hS14 (by rw[hfl]) (by rw[hA6];rfl) DN δ;refine AR ?_;exact Bx (vs:=[_]) 0 Y Y Dz Y Bj Y Y (⟨AD l03 l4,Y,_,A6,Y,⟨hR,hAs h4 l4⟩,by rw[hA6];rfl⟩)
 ·refine AX Y (Ad (Qf Cz Y (Ql Y Cb (Cell.blk 0 Y Y) (Qx (AP XC [.w 0,.w 0] [(0,_),(1,_)] [_,_] Y BX Y Y Qt Y) Y (Qx (AP XC [.w 0,.w 0] [(0,_),(1,_)] [_,_] Y BX Y Y Qt Y) Y (Qx (AP XC [.w 0,.w 0] [(0,_),(1,_)] [_,_] Y BX Y Y Qt Y) Y (AJ [(0,_),(2,_),(4,_)] [.w 0,.w 0,.w 0,.w 0,.w 0,.w 0] [_,_,_,_,_,_] Y C0 BX Y ω κ Qt Y Y Y Y (λg22=>AZ λh4 l4 hS22=>?_))))))));have hR22:RdL cD 2 h4 [] (.slice (some ⟨g22,0,none⟩) 3 3) [(4,1),(5,-1),(6,1)]:=RdL.built hS22 Y Y Gm δ;refine Qx (AP PD [.w 0,.w 0,.nl] [(0,_),(1,_),(2,_)] [_,_,_] Y A5 Y Y Qt Y) Y (AB [_,_,_] Y Cb A5 Y (by rfl) Y Y ω Y Y Y (λg24=>?_));have h6:A6.length=6:=by rw[hA6];rfl
  refine Cv 2 hO (RdL.one DN (x:=(⟨⟨7,2,[(4,1),(5,-1),(6,1)]⟩,.slice (some ⟨g22,0,none⟩) 3 3⟩:Ce)) Mh Y) Y Cb A5 Y ω Y Y Y (GN (l:=[⟨⟨7,2,[(4,1),(5,-1),(6,1)]⟩,.slice (some ⟨g22,0,none⟩) 3 3⟩]) (h:=h4) λy hy=>by rw[bg.1 hy];exact hR22) (by(try simp only[ae]);omega) (by(try simp only[ae]);omega) rfl rfl rfl (λv9 m9 hO9=>?_);have o9:=hO9.o1;refine Qf Cz Y ?_;refine Bi 1 _ Y Abx Y Y (by assumption) Y Y (by(simp;done)) rfl rfl ?_;refine Bw (Qx (oG Y Dz Bj (Seg.blk 1 Y)) Y ?_);refine Sa 3 [_] Bj Y (by simp[o1,o2,o3,o9]) ?_;refine An (Aj (Ev 2 Y (Dk hO9 λh5 l5 hR=>(AR (AR ?_)))));exact Bx (vs:=[_]) 0 Y Y Dz Y Bj Y Y (⟨AD l03 (AD l4 l5),Y,_,_,Y,⟨hR,λa ha=>(bl.1 ha).elim (λq=>hAs _ (AD l4 l5) a q) (λq=>by rw[bg.1 q];exact hR22.up l5)⟩,by rw[hA6];rfl⟩)
end
section
open Go.Lin Go.Wd Go.Sm Go.Ch
variable {l:List Ce} {o:List Cl} {v:Value} {h:Hp}
theorem S8(ll:List (List Int)):(CP ll).Pairwise λa b=>a.id<=b.id:=by
 unfold CP;cases CJ [] ll with
 | none=>exact .nil
 | some all=>exact d6.2 (List.pairwise_lt_range.imp λ{a b} h=>by show(a:Int)+1<=b+1;omega)
theorem Vf(ll:List (List Int)):∀x∈CP ll,x.sd.Pairwise λa b=>a.1<=b.1:=by
 unfold CP;cases CJ [] ll with
 | none=>nofun
 | some all=>
  intro x hx;obtain⟨i,_,rfl⟩:=aj.1 hx;show(if _ then [] else Dp _).Pairwise _;split
  ·exact .nil
  ·exact Jw _
theorem WK{ll:List (List Int)}(e:l.map Ce.c=CP ll):OrdC l:=by
 have hm:∀a∈l,a.c∈CP ll:=λa ha=>e ▸ aj.2 ⟨a,ha,Y⟩;have hn:=(Me ll).1;rw[<-e,bf]at hn;refine⟨ω,λa ha=>?_,?_,λa ha=>Vf ll _ (hm a ha)⟩
 ·have:=((Me ll).2 _ (hm a ha)).2;omega
 ·have:=S8 ll;rw[<-e]at this;exact(d6 (f:=Ce.c)).1 this
theorem QsOk.of{ll:List (List Int)}(hR:RdC h v l)(e:l.map Ce.c=CP ll)(hn:l.length<=200)(hm:∀n:Int,(Ba (cn l) n).length<=100):QsOk v h l:=by
 have R:Rgt (l.map Ce.c):=e ▸ Mx _
 have hid:∀x∈l,x.c.id<=1000000:=λx hx=>by have h2:=Aa9 ll x.c (e ▸ aj.2 ⟨x,hx,Y⟩);have h3:=ao List.length e;rw[bf]at h3;omega
 have hsd:∀x∈l,x.c.sd.length<=64:=λx hx=>by have h1:=R.num _ (aj.2 ⟨x,hx,Y⟩);have h2:=R.dim _ (aj.2 ⟨x,hx,Y⟩);unfold Ck at h1;omega
 have hpos:∀x∈l,1<=x.c.id:=λx hx=>R.pos _ (aj.2 ⟨x,hx,Y⟩);refine⟨⟨R,hid,WK e⟩,⟨hR,ω,λx hx=>by have:=hsd x hx;omega,?_,λx hx=>?_,λx hx s hs=>?_⟩,hm,λc hc=>?_⟩
 ·have key:∀l:List Ce,(∀x∈l,x.c.sd.length<=64)->(A4 (l.map Ce.c)).length<=64*l.length:=by
   intro l
   induction l with
   | nil=>intro _;exact Nat.zero_le _
   | cons x l ih=>
    intro h;have h1:=h x mem_cons_self;have h2:=ih fun y hy=>h y (mem_cons_of_mem _ hy);have e:A4 ((x::l).map Ce.c)=(x.c.sd.map fun s=>(x.c.id,s))++A4 (l.map Ce.c):=rfl;rw[e,length_append,length_map,length_cons];omega
  have:=key l hsd;omega
 ·have h1:=hid x hx;have h2:=hpos x hx;unfold Cc;omega
 ·obtain⟨y,hy,e1,e2⟩:=R.sid _ (aj.2 ⟨x,hx,Y⟩) s hs;obtain⟨z,hz,rfl⟩:=aj.1 hy;have h1:=hid z hz;have h2:=hpos z hz;have h3:=R.sgn _ (aj.2 ⟨x,hx,Y⟩) s hs;unfold Cc;omega
 ·obtain⟨y,hy,e⟩:=mem_ord.1 hc;have h1:=R.dim y hy;rw[e];show y.dim<=1000;omega
theorem TM(Q:QsOk v h l)(hn:l.length<=200):(A4 (l.map Ce.c)).length<100000:=by
 have hsd:∀x∈l,x.c.sd.length<=64:=λx hx=>by have h1:=Q.K.r.num _ (aj.2 ⟨x,hx,Y⟩);have h2:=Q.K.r.dim _ (aj.2 ⟨x,hx,Y⟩);unfold Ck at h1;omega
 have key:∀l:List Ce,(∀x∈l,x.c.sd.length<=64)->(A4 (l.map Ce.c)).length<=64*l.length:=by
  intro l
  induction l with
  | nil=>intro _;exact Nat.zero_le _
  | cons x l ih=>
   intro h;have h1:=h x mem_cons_self;have h2:=ih fun y hy=>h y (mem_cons_of_mem _ hy);have e:A4 ((x::l).map Ce.c)=(x.c.sd.map fun s=>(x.c.id,s))++A4 (l.map Ce.c):=rfl;rw[e,length_append,length_map,length_cons];omega
 have:=key l hsd;omega
def Aah:List Cl:=[⟨1,0,[]⟩,⟨2,0,[]⟩]
theorem YN:GU false=CP [[0,1],[0,2],[1,2]]:=by kernel_rfl
theorem ZN:GU true=CP [[0,1,2]]:=by kernel_rfl
theorem Y0:Aah=CP [[0],[1]]:=by kernel_rfl
def Smp(o:List Cl):Prop:=∃ll,o=CP ll
theorem Smp.rgt(S:Smp o):Rgt o:=by obtain⟨ll,rfl⟩:=S;exact Mx _
theorem Smp.ord(S:Smp o):ordF o=o:=by obtain⟨ll,rfl⟩:=S;exact(CanO.ord ⟨fm _,S8 ll,_,fm _,Y,λi h h'=>⟨Y,Y,fm _,Vf ll _ (ap h)⟩⟩ (Mx ll)).symm
theorem Il:∀f,Smp (GU f)
 | false=>⟨_,YN⟩
 | true=>⟨_,ZN⟩
theorem two_sm:Smp Aah:=⟨_,Y0⟩
theorem Adk(n:Int):(Ba (cn l) n).length<=l.length:=by have:=Ia (cn l) n;rwa [KB]at this
theorem Wj(hR:RdC h v l)(e:l.map Ce.c=o)(S:Smp o)(hn:o.length<=100):QsOk v h l:=by subst e;rw[bf]at hn;obtain⟨ll,e⟩:=S;exact QsOk.of hR e ω λn=>bp (Adk n) hn
theorem Adf{x L:List Tm}(e:DI (A4 o) x=L)(h:∀c,cf L c=0):bz o x=true:=(QI _ _).2 (e ▸ h)
theorem Jz{d:Int}{x:List Tm}(h:∀p∈x,IY o d p.1=true):E0 o d x=true:=(Hz _ _ _).2 λc hc=>ay λq=>hc (FU λp hp e=>q (e ▸ h p hp))
def Yd:List Tm:=[(4,1),(5,-1),(6,1)]
theorem Ad7:Ri (GU false) [(1,1)] [(3,1)] [(5,-1)]=true:=by
 rw[GD];intro c;have e:DI (A4 (GU false)) [(5,-1)]=[(1,1),(3,-1)]:=by decide
 rw[e];show(if(1:Int)=c then(1:Int) else 0)+((if(3:Int)=c then(-1:Int) else 0)+0)=((if(1:Int)=c then(1:Int) else 0)+0)-((if(3:Int)=c then(1:Int) else 0)+0);split<;>split<;>omega
theorem Adx:¬∃ch,Ri (GU false) Yd [] ch=true:=by
 rintro⟨ch,h⟩;have:=(GD _ _ _ _).1 h 4
 rw[L2,G3 λx hx=>by
  have h0:sgn x.sd 4=0:=by revert x;decide
  rw[h0,Int.mul_zero]]at this
 revert this;decide
theorem AeK:Ri (GU true) Yd [] [(7,1)]=true:=by
 rw[GD];intro c;have e:DI (A4 (GU true)) [(7,1)]=Yd:=by decide
 rw[e,FW];omega
theorem AeM:¬∃ch,Ri Aah [(1,1)] [(2,1)] ch=true:=by rintro⟨ch,h⟩;have:=(GD _ _ _ _).1 h 1;have e:DI (A4 Aah) ch=[]:=rfl;rw[e]at this;revert this;decide
theorem TE(f:Bool):bz (GU f) Yd=true:=by
 have e:DI (A4 (GU f)) Yd=[(1,-1),(2,1),(1,1),(3,-1),(2,-1),(3,1)]:=by cases f<;>decide
 refine Adf e λc=>?_;show(if(1:Int)=c then(-1:Int) else 0)+((if(2:Int)=c then(1:Int) else 0)+((if(1:Int)=c then(1:Int) else 0)+((if(3:Int)=c then(-1:Int) else 0)+((if(2:Int)=c then(-1:Int) else 0)+((if(3:Int)=c then(1:Int) else 0)+0)))))=0;by_cases h1:(1:Int)=c<;>by_cases h2:(2:Int)=c<;>by_cases h3:(3:Int)=c<;>simp[h1,h2,h3]<;>omega
theorem Ab7:bz (GU false) [(4,1),(6,1)]=false:=by rw[Bool.eq_false_iff];intro h;have:=(QI _ _).1 h 1;revert this;decide
end
section
open Go.Lin Go.Wd Go.Sm Go.Ch
variable {l:List Ce} {v vx vy:Value} {h:Hp}
theorem Np(R:Rgt (l.map Ce.c))(hn:l.length<=180):∃s',Fq l 0 s':=by
 have key:∀o:List Cl,(Ba o 0).length+(Ba o 1).length<=o.length:=by
  intro o
  induction o with
  | nil=>exact ak _
  | cons x o ih=>
   have h1:∀d:Int,(Ba (x::o) d).length=(if x.dim=d then 1 else 0)+(Ba o d).length:=λd=>by
    unfold Ba;rw[bf,bf];by_cases h:x.dim=d
    ·rw[List.filter_cons_of_pos (by simpa using h),if_pos h,length_cons];omega
    ·rw[List.filter_cons_of_neg (by simpa using h),ab h];omega
   rw[h1,h1,length_cons];split<;>split<;>omega
 have h2:=key (cn l);rw[KB]at h2;obtain⟨s',hs⟩:=Uq R Y Y Y Y Y (show(Ba (cn l) 0).length+(Ba (cn l) 1).length<=180 by omega);exact⟨s',⟨hs⟩⟩
theorem AbR{d:Int}(h:Ba (cn l) (d+1)=[]):∃s',Fq l d s':=by
 refine⟨S6 (Ba (cn l) d).length (Ba (cn l) (d+1)).length (HR (cn l) (d+1)),⟨?_⟩⟩;have e:min (Ba (cn l) d).length (Ba (cn l) (d+1)).length=0:=by rw[h];exact Nat.min_zero _
 rw[e];rfl
theorem AdQ(e:l.map Ce.c=GU true):∃s',Fq l 1 s':=by
 have hc:cn l=GU true:=by unfold cn;rw[e,(Il _).ord]
 have h:(EO 3 1 (min 3 1) 0 (S6 3 1 (HR (GU true) 2))).isSome=true:=by kernel_rfl
 obtain⟨s',hs⟩:=Option.isSome_iff_exists.1 h;refine⟨s',⟨?_⟩⟩;rw[hc];exact hs
set_option exponentiation.threshold 4000000 in
theorem KD{l:List Tm}(R:RdL DK 3 h [] v l)(h1:l.length<=1000)(h2:∀p∈l,Cc p.1)(h3:Bk l<2^90):ChR v h l:=⟨R,ω,h2,cj h3 (Nat.pow_le_pow_right δ δ)⟩
theorem XY{n:Nat}(h:n<100000):n<2^90:=cj h δ
theorem Ada{a b:Nat}(h1:a<100000)(h2:b<100000):a+b<2^99:=cj (show a+b<200000 by omega) δ
theorem Tb{o:List Cl}{d:Int}{x y:List Tm}(hR:RdC h v l)(e:l.map Ce.c=o)(R:Smp o)(hn:o.length<=100)(hd:0<=d/\d<=900)(X:RdL DK 3 h [] vx x)(Y:RdL DK 3 h [] vy y)(h1:x.length<=1000)(h2:∀p∈x,Cc p.1)(h3:Bk x<100000)(h4:y.length<=1000)(h5:∀p∈y,Cc p.1)(h6:Bk y<100000)(hx:∀p∈x,IY o d p.1=true)(hy:∀p∈y,IY o d p.1=true)(zx:bz o x=true)(zy:bz o y=true):Tq v vx vy h d l x y:=by
 have Q:=Wj hR e R hn;have hl:l.length<=100:=by rw[<-bf (f:=Ce.c),e];exact hn
 exact⟨Q,KD X h1 h2 (XY h3),KD Y h4 h5 (XY h6),hd,ω,e ▸ Jz hx,e ▸ Jz hy,e ▸ zx,e ▸ zy,ω,Ada h3 h6,TM Q ω⟩
theorem UA(o:List Cl)(x:List Tm)(h:DI (A4 o) x=[]):bz o x=true:=Adf h λc=>rfl
theorem AeD(hR:RdC h v l)(e:l.map Ce.c=GU false)(X:RdL DK 3 h [] vx [(1,1)])(Y:RdL DK 3 h [] vy [(3,1)])(ms:List Hp):FnV Tryz.prog 36 #[.agg #[v],.int .i64 0,vx,vy,.bool true] h ms (.bool true):=by obtain⟨s',F⟩:=Np (e ▸ (Il false).rgt) (show l.length<=180 by rw[<-bf (f:=Ce.c),e];decide);exact Nr (Tb hR e (Il false) δ δ X Y δ δ δ δ δ δ δ δ (UA _ _ δ) (UA _ _ δ)) F true true ⟨fun _=>⟨_,e ▸ Ad7⟩,fun _=>rfl⟩ ms
theorem Afb(hR:RdC h v l)(e:l.map Ce.c=GU false)(X:RdL DK 3 h [] vx Yd)(ms:List Hp):FnV Tryz.prog 36 #[.agg #[v],.int .i64 1,vx,.slice none 0 0,.bool false] h ms (.bool true):=by obtain⟨s',F⟩:=AbR (l:=l) (d:=1) (by unfold cn;rw[e,(Il _).ord];decide);exact Nr (Tb hR e (Il false) δ δ X (El h).rd δ δ δ δ δ δ δ δ (TE _) (UA _ _ δ)) F false false ⟨nofun,λq=>ib (e ▸ q) Adx⟩ ms
theorem Ae7(hR:RdC h v l)(e:l.map Ce.c=GU true)(X:RdL DK 3 h [] vx Yd)(ms:List Hp):FnV Tryz.prog 36 #[.agg #[v],.int .i64 1,vx,.slice none 0 0,.bool true] h ms (.bool true):=by obtain⟨s',F⟩:=AdQ e;exact Nr (Tb hR e (Il true) δ δ X (El h).rd δ δ δ δ δ δ δ δ (TE _) (UA _ _ δ)) F true true ⟨λ_=>⟨_,e ▸ AeK⟩,λ_=>rfl⟩ ms
theorem Ae9(hR:RdC h v l)(e:l.map Ce.c=Aah)(X:RdL DK 3 h [] vx [(1,1)])(Y:RdL DK 3 h [] vy [(2,1)])(ms:List Hp):FnV Tryz.prog 36 #[.agg #[v],.int .i64 0,vx,vy,.bool false] h ms (.bool true):=by obtain⟨s',F⟩:=Np (e ▸ two_sm.rgt) (show l.length<=180 by rw[<-bf (f:=Ce.c),e];decide);exact Nr (Tb hR e two_sm δ δ X Y δ δ δ δ δ δ δ δ (UA _ _ δ) (UA _ _ δ)) F false false ⟨nofun,fun q=>ib (e ▸ q) AeM⟩ ms
set_option exponentiation.threshold 4000000 in
theorem Vq(hR:RdC h v l)(e:l.map Ce.c=GU false)(X:RdL DK 3 h [] vx [(4,1),(6,1)]):FnT Tryz.prog 16 #[.agg #[v],.int .i64 1,vx,.slice none 0 0] h [] (λw h' ms'=>h.le h'/\ms'=[]/\w=.tuple #[anZ,.int .i64 40]):=by have Q:=Wj hR e (Il false) δ;have h0:=TM Q (show l.length<=200 by rw[<-bf (f:=Ce.c),e];decide);have hb:∀L:List Tm,Bk L<2^17->Bk (DI (A4 (l.map Ce.c)) L)<2^2000000:=λL hL=>Nat.lt_of_le_of_lt (Zm (Vs Q.K.r)) (Gb (A:=17) (B:=17) (cj h0 δ) hL δ);exact NC v _ _ 1 δ [(4,1),(6,1)] [] l h Q (KD X δ δ (XY δ)) (El h) (e ▸ Jz δ) (e ▸ Jz δ) (hb _ δ) (hb _ δ) (by rw[e,Ab7];rfl)
set_option exponentiation.threshold 4000000 in
theorem Afp{vc:Value}(hR:RdC h v l)(e:l.map Ce.c=GU false)(X:RdL DK 3 h [] vx Yd)(C:RdL DK 3 h [] vc [(4,1)])(ms:List Hp):FnV Tryz.prog 19 #[.agg #[v],.int .i64 1,vx,.slice none 0 0,TH false (.slice none 0 0) vc 0] h ms (.bool true):=by
 have T:=Tb (y:=[]) hR e (Il false) δ (show(0:Int)<=1/\(1:Int)<=900 by decide) X (El h).rd δ δ δ δ δ δ δ δ (TE _) (UA _ _ δ);have b0:=T.bch (ch:=[(4,1)]) (B:=17) δ δ;have hpp:Bk [((4,1):Tm)]*(Bk Yd+Bk ([]:List Tm))<2^2000000:=Gb (A:=17) (B:=17) δ δ δ;have hck:=NO v vx (.nl) (.nl) vc 1 0 Yd [] [] [(4,1)] l h T.Q T.X T.Y (El _) (KD C δ δ (XY δ)) T.hx T.hy T.bx T.by_ T.zx T.zy T.hn T.ha2 b0.2 hpp δ ms;have h1:E0 (l.map Ce.c) 1 [(4,1)]=true:=e ▸ Jz δ
 have h2:PB (l.map Ce.c) 0 [(4,1)]=true:=by
  rw[Kq,e];intro c;have e2:Gj (A4 (GU false)) [(4,1)]=[]:=by decide
  rw[e2];exact Int.dvd_refl _
 rw[h1,h2,b7 (show ¬(0:Int)∣lin (cf [((4,1):Tm)]) Yd-lin (cf [((4,1):Tm)]) [] by decide)]at hck;exact hck
end
section
open Go.Lin Go.Wd Go.Sm Go.Ch
theorem AaX{l:List Int}(h:∀x∈l,-1000<=x/\x<=1000):∀x∈l,Cc x:=λx hx=>by have:=h x hx;unfold Cc;omega
theorem Df{g n:Nat}{l:List Int}{cs:List Value}{h:Hp}(hS:Seg h [] (⟨g,0,none⟩:Addr) cs)(hc:cs=l.flatMap cI)(hl:l.length=2*n)(hn:n<=1000)(hI:∀x∈l,-1000<=x/\x<=1000):FnT Tryz.prog 37 #[.slice (some ⟨g,0,none⟩) (2*n) (2*n)] h [] (λr h' ms'=>h.le h'/\ms'=[]/\RdL DK 3 h' [] r (LV l n)):=
 Nl _ l n hl hn (AaX hI) h (RdL.built hS hc hl Bf ω)
theorem YH(h:Hp)(ms:List Hp):FnV Tryz.prog 12 #[] h ms (.bool true):=by
 refine Ea ?_ ms;refine Ao func12 ntmps12 Y Y (λw0 hw0=>?_);simp only[AS];refine As (Qm Y (Bw (Qc call39 Y (NT false h) (λr1 h1 ms1 l1 hF=>?_))));obtain⟨l1',rfl,v1,A1,rfl,R1,E1⟩:=hF;refine Qc call39 Y (NT true h1) (λr2 h2 ms2 l2 hF=>?_);obtain⟨l2',rfl,v2,A2,rfl,R2,E2⟩:=hF;have o1:=R1.q.rd.one;have o2:=R2.q.rd.one;refine BY [.nl] Y Bj Y Y (λg1=>BY [.nl] Y Bj Y Y (λg2=>?_));refine Sa 1 [_] Bj Y (by simp[o1,o2]) ?_;refine Sa 0 [_] Bj Y (by simp[o1,o2]) ?_;refine An (Aw 0 Y λh3 l3 hS2=>(Aw 0 Y λh4 l4 hS1=>(As (AJ [(0,_),(1,_),(2,_),(3,_),(4,_),(5,_)] [.w 0,.w 0,.w 0,.w 0,.w 0,.w 0] [_,_,_,_,_,_] Y A9 Bp Y ω κ Qt Y Y Y Y (λg9=>AZ λh5 l5 hS9=>(Qc call37 Y (Df (n:=3) (l:=[4,1,5,-1,6,1]) hS9 Y Y δ δ) (λr3 h6 ms6 l6 hF=>?_)))))));obtain⟨l6',rfl,R3⟩:=hF;have R3:RdL DK 3 h6 [] r3 Yd:=R3;have o3:=R3.rd.one;refine Qm Y (Bw (Qx (AP PD [.w 0,.w 0,.nl] [(0,_)] [_,_,_] Y A5 Y Y Qt Y) Y (Qx (AP PD [.w 0,.w 0,.nl] [(0,_)] [_,_,_] Y A5 Y Y Qt Y) Y (AJ [(0,_),(3,_)] [.w 0,.w 0,.nl,.w 0,.w 0,.nl] [_,_,_,_,_,_] Y Cb A5 Y ω κ Qt Y Y Y Y (λg13=>Qx (AP AbK [.nl] [(0,_)] [_] Y Bj Y Y Qt Y) Y (BY [.nl] Y Bj Y Y (λg4=>?_)))))));refine Sa 0 [_] Bj Y (by simp[Value.oneCell']) ?_;refine An (Aw 0 Y λh7 l7 hS4=>(Aw 0 Y λh8 l8 hS13=>?_));have l68:=AD l7 l8;have l58:=AD l6' l68;have l48:=AD l5 l58;have l38:=AD l4 l48;have l28:=AD l3 l38;have l18:=AD l2' l28;have l08:=AD l1' l18;have R1:=R1.up l18;have R2:=R2.up l28;have R3:=R3.up l68
 have R4:RdC h8 (.slice (some ⟨g13,0,none⟩) 2 2) [⟨⟨1,0,[]⟩,.nl⟩,⟨⟨2,0,[]⟩,.nl⟩]:=⟨RdL.built hS13 Y Y DN δ,λa ha=>by
  simp only[bi,gx,gu]at ha
  rcases ha with rfl|rfl<;>exact LH _⟩
 have G1:∀h',h8.le h'->∀ms,Seg h' ms (⟨g1,0,none⟩:Addr) [v1]:=λh' q ms=>(((hS1.le l48).le q)).any;have G2:∀h',h8.le h'->∀ms,Seg h' ms (⟨g2,0,none⟩:Addr) [v2]:=λh' q ms=>(((hS2.le l38).le q)).any;have G4:∀h',h8.le h'->∀ms,Seg h' ms (⟨g4,0,none⟩:Addr) [.slice (some ⟨g13,0,none⟩) 2 2]:=λh' q ms=>(((hS4.le l8).le q)).any;refine Bt (λsl h' ms'=>sl=[(1,.pt g1),(2,.pt g2),(3,r3),(4,.pt g4),(6,.w 40)]/\h8.le h'/\ms'=[]) ?_ (λs h ms hI=>?_)
 ·refine AU (n:=10) (bs:=[ic,ie,ie,ie,ie,ie,ie,ie,ie,ie]) [true] CK κ κ Y Y (Qp Y (oG Y Dz Bj (G1 _ (BD) _)) ?_);unfold Do;simp only[bj,aw];refine AV [1,7] κ Y ?_;refine Av Y ?_ ?_;refine AJ [(0,_),(1,_),(2,_),(3,_)] [.w 0,.w 0,.w 0,.w 0] [_,_,_,_] Y A9 Bp Y ω κ Qt Y Y Y Y (λg17=>AZ λh9 l9 hS17=>(Qa (AV [2,7] κ Y ?_)));refine Av Y ?_ ?_;refine Az (pre:=[]) Y call37 Y (Df (n:=2) (l:=[4,1,6,1]) hS17 Y Y δ δ) Y Y Y Y (λr5 hA msA lA hF=>?_);obtain⟨lA',rfl,R5⟩:=hF;have l8A:=AD l9 lA';refine Qa (AV [3,7] κ Y ?_);refine Av Y ?_ ?_;refine Az (pre:=[]) Y call16 Y (Vq (R1.up l8A) E1 R5) Y Y Y Y (λw0 hB msB lB hF=>?_);obtain⟨lB',rfl,rfl⟩:=hF;have l8B:=AD l8A lB';unfold anZ;refine Qa (Bd 4 15 κ Y (by assumption) Y (Ar Y Y) (Bd 5 20 κ Y (by assumption) Y (Bz Y Y Y) (Bd 6 21 κ Y (by assumption) Y (Bz Y Y Y) (Qo 7 Y (BY [.bool false,.nl,.nl,.bool false,.es] Y FE Y Y (λg5=>Qa ?_))))))
  rotate_left
  refine Av Y ?_ ?_;refine BY [.bool false,.nl,.nl,.bool false,.es] Y FE Y Y (λg5=>Qa (Qo 3 Y (Az (pre:=[]) Y call16 Y (Vq (R1.up l8A) E1 R5) Y Y Y Y (λw0 hB msB lB hF=>?_))));obtain⟨lB',rfl,rfl⟩:=hF;have l8B:=AD l8A lB';unfold anZ;refine Qa (Bd 4 15 κ Y (by assumption) Y (Ar Y Y) (Bd 5 20 κ Y (by assumption) Y (Bz Y Y Y) (Bd 6 21 κ Y (by assumption) Y (Bz Y Y Y) ?_)))
  rotate_left
  exact AW;refine Av Y ?_ ?_;refine BY [.bool false,.nl,.nl,.bool false,.es] Y FE Y Y (λg5=>Qa (Qo 2 Y (Az (pre:=[]) Y call37 Y (Df (n:=2) (l:=[4,1,6,1]) hS17 Y Y δ δ) Y Y Y Y (λr5 hA msA lA hF=>?_))));obtain⟨lA',rfl,R5⟩:=hF;have l8A:=AD l9 lA';refine Qa (Qo 3 Y (Az (pre:=[]) Y call16 Y (Vq (R1.up l8A) E1 R5) Y Y Y Y (λw0 hB msB lB hF=>?_)));obtain⟨lB',rfl,rfl⟩:=hF;have l8B:=AD l8A lB';unfold anZ;refine Qa (Bd 4 15 κ Y (by assumption) Y (Ar Y Y) (Bd 5 20 κ Y (by assumption) Y (Bz Y Y Y) (Bd 6 21 κ Y (by assumption) Y (Bz Y Y Y) ?_)))
  rotate_left
  exact AW;refine Av Y ?_ ?_;refine BY [.bool false,.nl,.nl,.bool false,.es] Y FE Y Y (λg5=>Qw (Qo 1 Y (AJ [(0,_),(1,_),(2,_),(3,_)] [.w 0,.w 0,.w 0,.w 0] [_,_,_,_] Y A9 Bp Y ω κ Qt Y Y Y Y (λg17=>AZ λh9 l9 hS17=>(Qa (Qo 2 Y (Az (pre:=[]) Y call37 Y (Df (n:=2) (l:=[4,1,6,1]) hS17 Y Y δ δ) Y Y Y Y (λr5 hA msA lA hF=>?_))))))));obtain⟨lA',rfl,R5⟩:=hF;have l8A:=AD l9 lA';refine Qa (Qo 3 Y (Az (pre:=[]) Y call16 Y (Vq (R1.up l8A) E1 R5) Y Y Y Y (λw0 hB msB lB hF=>?_)));obtain⟨lB',rfl,rfl⟩:=hF;have l8B:=AD l8A lB';unfold anZ;refine Qa (Bd 4 15 κ Y (by assumption) Y (Ar Y Y) (Bd 5 20 κ Y (by assumption) Y (Bz Y Y Y) (Bd 6 21 κ Y (by assumption) Y (Bz Y Y Y) ?_)))
  rotate_left
  exact AW
  all_goals
   refine Qo 8 Y ?_;refine Sa 0 [_,_,_,_,_] FE Y (by simp[o1,o2,o3,Cn]) ?_;refine Qa (Qo 9 Y (Qm Y (Qa (Qe (AR ?_)))));exact AH _ ⟨Y,l8B,Y⟩ Qs
 ·obtain⟨rfl,lc,rfl⟩:=hI;have lh:=Hp.le_refl h;have l8h:=lc;refine Ac (AU (n:=37) (bs:=[ic,ie,ie,ie,ie,ie,ie,ie,ie,ie,ie,ie,ie,ie,ie,ie,ie,ie,ie,ie,ie,ie,ie,ie,ie,ie,ie,ie,ie,ie,ie,ie,ie,ie,ie,ie,ie]) [true] CK κ κ Y Y (Qp Y (oG Y Dz Bj (G1 _ l8h _)) ?_));unfold Do;simp only[bj,aw];refine AV [1,3] κ Y ?_;refine Av Y ?_ ?_;refine AJ [(0,_),(1,_)] [.w 0,.w 0] [_,_] Y A9 Bp Y ω κ Qt Y Y Y Y (λg23=>AZ λhA lA S1=>?_);have lc:=AD lc lA;have lh:=AD lh lA;refine Qa (AV [2,3] κ Y ?_);refine Av Y ?_ ?_;refine Az (pre:=[]) Y call37 Y (Df (n:=1) (l:=[1,1]) S1 Y Y δ δ) Y Y Y Y (λp1 hB msB lB hF=>?_);obtain⟨lB',rfl,P1⟩:=hF;have lc:=AD lc lB';have lh:=AD lh lB';refine Qa (Qo 3 Y (AJ [(0,_),(1,_)] [.w 0,.w 0] [_,_] Y A9 Bp Y ω κ Qt Y Y Y Y (λg25=>AZ λhC lC S3=>?_)));have lc:=AD lc lC;have lh:=AD lh lC;have P1:=P1.up lC;refine Qa ?_
  rotate_left
  refine Av Y ?_ ?_;refine AJ [(0,_),(1,_)] [.w 0,.w 0] [_,_] Y A9 Bp Y ω κ Qt Y Y Y Y (λg25=>AZ λhC lC S3=>?_);have lc:=AD lc lC;have lh:=AD lh lC;have S1:=S1.le lC;refine Qa (Qo 2 Y (Az (pre:=[]) Y call37 Y (Df (n:=1) (l:=[1,1]) S1 Y Y δ δ) Y Y Y Y (λp1 hB msB lB hF=>?_)));obtain⟨lB',rfl,P1⟩:=hF;have lc:=AD lc lB';have lh:=AD lh lB';have S3:=S3.le lB';refine Qa ?_
  rotate_left
  exact AW;refine Av Y ?_ ?_;refine AJ [(0,_),(1,_)] [.w 0,.w 0] [_,_] Y A9 Bp Y ω κ Qt Y Y Y Y (λg25=>AZ λhC lC S3=>?_);have lc:=AD lc lC;have lh:=AD lh lC;refine Qa (Qo 1 Y (AJ [(0,_),(1,_)] [.w 0,.w 0] [_,_] Y A9 Bp Y ω κ Qt Y Y Y Y (λg23=>AZ λhA lA S1=>?_)));have lc:=AD lc lA;have lh:=AD lh lA;have S3:=S3.le lA;refine Qa (Qo 2 Y (Az (pre:=[]) Y call37 Y (Df (n:=1) (l:=[1,1]) S1 Y Y δ δ) Y Y Y Y (λp1 hB msB lB hF=>?_)));obtain⟨lB',rfl,P1⟩:=hF;have lc:=AD lc lB';have lh:=AD lh lB';have S3:=S3.le lB';refine Qa ?_
  rotate_left
  exact AW
  all_goals
   refine Qo 4 Y (Az (pre:=[]) Y call37 Y (Df (n:=1) (l:=[3,1]) S3 Y Y δ δ) Y Y Y Y (λp2 hD msD lD hF=>?_));obtain⟨lD',rfl,P2⟩:=hF;have lc:=AD lc lD';have lh:=AD lh lD';have P1:=P1.up lD';refine Qa (Qo 5 Y (Qx (Au Y call36 Y (AeD (R1.up lc) E1 P1 P2 _)) Y (Qa (Bd 6 28 κ Y (by assumption) Y (Ar Y Y) (BH 7 29 κ Y Y Y Y Y (by assumption) Y (oG Y Dz Bj (G1 _ l8h _)) (BH 8 30 κ Y Y Y Y Y (by assumption) Y (Ar Y Y) (Qo 9 Y (Qg (Au Y call36 Y (Afb (R1.up lc) E1 (R3.up lc) _)) Y (Qa (Qo 10 Y (Qm Y (Qa (Bd 11 33 κ Y (by assumption) Y (Ar Y Y) (BH 12 34 κ Y Y Y Y Y (by assumption) Y (oG Y Dz Bj (G2 _ l8h _)) (BH 13 35 κ Y Y Y Y Y (by assumption) Y (Ar Y Y) (Qo 14 Y (Qg (Au Y call36 Y (Ae7 (R2.up lc) E2 (R3.up lc) _)) Y (Qa (Qo 15 Y (Qm Y (Qa (Bd 16 38 κ Y (by assumption) Y (Ar Y Y) (BH 17 39 κ Y Y Y Y Y (by assumption) Y (Ar Y Y) (BH 18 40 κ Y Y Y Y Y (by assumption) Y (BE (Ca Y Y Y) (ao Value.bool (bm Y))) (Qo 19 Y (Qm Y (Qa (Bd 20 42 κ Y (by assumption) Y (Ar Y Y) (BH 21 43 κ Y Y Y Y Y (by assumption) Y (oG Y Dz Bj (G4 _ l8h _)) (AV [22,24] κ Y ?_))))))))))))))))))))))))))))));refine Av Y ?_ ?_;refine Bh Y Y Y Y (AJ [(0,_),(1,_)] [.w 0,.w 0] [_,_] Y A9 Bp Y ω κ Qt Y Y Y Y (λg44=>AZ λhA lA S22=>?_));have lc:=AD lc lA;have lh:=AD lh lA;refine Qa (AV [23,24] κ Y ?_);refine Av Y ?_ ?_;refine Bh Y Y Y Y (Az (pre:=[]) Y call37 Y (Df (n:=1) (l:=[1,1]) S22 Y Y δ δ) Y Y Y Y (λp1 hB msB lB hF=>?_));obtain⟨lB',rfl,P3⟩:=hF;have lc:=AD lc lB';have lh:=AD lh lB';refine Qa (Qo 24 Y (Bh Y Y Y Y (AJ [(0,_),(1,_)] [.w 0,.w 0] [_,_] Y A9 Bp Y ω κ Qt Y Y Y Y (λg46=>AZ λhC lC S24=>?_))));have lc:=AD lc lC;have lh:=AD lh lC;have P3:=P3.up lC;refine Qa ?_
   rotate_left
   refine Av Y ?_ ?_;refine Bh Y Y Y Y (AJ [(0,_),(1,_)] [.w 0,.w 0] [_,_] Y A9 Bp Y ω κ Qt Y Y Y Y (λg46=>AZ λhC lC S24=>?_));have lc:=AD lc lC;have lh:=AD lh lC;have S22:=S22.le lC;refine Qa (Qo 23 Y (Bh Y Y Y Y (Az (pre:=[]) Y call37 Y (Df (n:=1) (l:=[1,1]) S22 Y Y δ δ) Y Y Y Y (λp1 hB msB lB hF=>?_))));obtain⟨lB',rfl,P3⟩:=hF;have lc:=AD lc lB';have lh:=AD lh lB';have S24:=S24.le lB';refine Qa ?_
   rotate_left
   exact AW;refine Av Y ?_ ?_;refine Bh Y Y Y Y (AJ [(0,_),(1,_)] [.w 0,.w 0] [_,_] Y A9 Bp Y ω κ Qt Y Y Y Y (λg46=>AZ λhC lC S24=>?_));have lc:=AD lc lC;have lh:=AD lh lC;refine Qa (Qo 22 Y (Bh Y Y Y Y (AJ [(0,_),(1,_)] [.w 0,.w 0] [_,_] Y A9 Bp Y ω κ Qt Y Y Y Y (λg44=>AZ λhA lA S22=>?_))));have lc:=AD lc lA;have lh:=AD lh lA;have S24:=S24.le lA;refine Qa (Qo 23 Y (Bh Y Y Y Y (Az (pre:=[]) Y call37 Y (Df (n:=1) (l:=[1,1]) S22 Y Y δ δ) Y Y Y Y (λp1 hB msB lB hF=>?_))));obtain⟨lB',rfl,P3⟩:=hF;have lc:=AD lc lB';have lh:=AD lh lB';have S24:=S24.le lB';refine Qa ?_
   rotate_left
   exact AW
   all_goals
    refine Qo 25 Y (Bh Y Y Y Y (Az (pre:=[]) Y call37 Y (Df (n:=1) (l:=[2,1]) S24 Y Y δ δ) Y Y Y Y (λp2 hD msD lD hF=>?_)));obtain⟨lD',rfl,P4⟩:=hF;have lc:=AD lc lD';have lh:=AD lh lD';have P3:=P3.up lD';refine Qa (Qo 26 Y (Qg (Au Y call36 Y (Ae9 (R4.up lc) Y P3 P4 _)) Y (Qa (Qo 27 Y (Qm Y (Qa (Bd 28 50 κ Y (by assumption) Y (Ar Y Y) (BH 29 51 κ Y Y Y Y Y (by assumption) Y (oG Y Dz Bj (G1 _ l8h _)) (BH 30 52 κ Y Y Y Y Y (by assumption) Y (Ar Y Y) (Qo 31 Y (Bh Y Y Y Y (AJ [(0,_),(1,_)] [.w 0,.w 0] [_,_] Y A9 Bp Y ω κ Qt Y Y Y Y (λg53=>AZ λhA lA S31=>?_)))))))))))));have lc:=AD lc lA;have lh:=AD lh lA;refine Qa (Qo 32 Y (Bh Y Y Y Y (Az (pre:=[]) Y call37 Y (Df (n:=1) (l:=[4,1]) S31 Y Y δ δ) Y Y Y Y (λp5 hB msB lB hF=>?_))));obtain⟨lB',rfl,P5⟩:=hF;obtain⟨pa,pc,rfl,_⟩:=P5.rd.ex;have lc:=AD lc lB';have lh:=AD lh lB';refine Qa (BH 33 55 κ Y Y Y Y Y (by assumption) Y (AP Abc [.bool false,.nl,.nl,.bool false,.es] [(2,_)] [_,_,_,_,_] Y FE Y Y Qt Y) (Qo 34 Y (Qg (Au Y call19 Y (Afp (R1.up lc) E1 (R3.up lc) P5 _)) Y (Qa (Qo 35 Y (Qm Y (Qa (Qo 36 Y (Qm Y (Qa (Qe (Ab (Aj ?_)))))))))))));exact Al Y Y Y
theorem IV:∀(l acc s:List Int),ER acc l=some s->s.length<=acc.length+l.length
 | [],acc,s,e=>by have:acc=s:=ax e;rw[<-this];exact Nat.le_add_right _ _
 | x::l,acc,s,e=>by
  unfold ER at e;split at e
  ·have:=IV l acc s e;rw[length_cons];omega
  ·split at e
   ·cases e
   ·have:=IV l _ s e;rw[RO]at this;rw[length_cons];omega
theorem MX:∀(ll acc all:List (List Int)),(∀l∈ll,l.length<=4)->CJ acc ll=some all->all.length<=acc.length+15*ll.length
 | [],acc,all,h,e=>by have:acc=all:=ax e;rw[<-this];exact Nat.le_add_right _ _
 | l::ll,acc,all,h,e=>by
  rw[Ek]at e;split at e
  ·cases e
  ·have h1:=MX ll _ all (λx hx=>h x (be _ hx)) e
   have h2:(Uz acc (ER [] l)).length<=acc.length+15:=by
    cases hs:ER [] l with
    | none=>exact Nat.le_add_right _ _
    | some s=>
     have h3:=IV l [] s hs;have h4:=h l Mh;have h5:=Hh acc s (2^s.length-1);have h6:2^s.length<=16:=Nat.pow_le_pow_right (n:=2) (i:=s.length) (j:=4) δ (by simp at h3;omega);show(C5 acc s (2^s.length-1)).length<=_;omega
   rw[length_cons];omega
theorem AaG{ll:List (List Int)}(h:∀l∈ll,l.length<=4):(CP ll).length<=15*ll.length:=by
 unfold CP;cases e:CJ [] ll with
 | none=>simp
 | some all=>have:=MX ll [] all h e;simpa using this
def TG(x:Int):Nat->List Int
 | 0=>[]
 | j+1=>if(TG x j).length<4/\AeZ (x.fdiv (2^j)) 1=1 then TG x j++[(j:Int)] else TG x j
theorem SG{x:Int}{j:Nat}(h:¬(TG x j).length<4):∀k,TG x (j+k)=TG x j
 | 0=>rfl
 | k+1=>by show(if(TG x (j+k)).length<4/\_ then _ else TG x (j+k))=_;have ih:=SG h k;rw[ab (λq=>h (by rw[<-ih];exact q.1)),ih]
def WT(l:List Int):List (List Int):=(l.take 12).map λx=>TG x 6
theorem Ln(x:Int):∀j,(TG x j).length<=4
 | 0=>Nat.zero_le _
 | j+1=>by
  unfold TG;split
  ·rename_i h;rw[ag,ae];omega
  ·exact Ln x j
theorem Rb(l:List Int):(WT l).length<=12:=by unfold WT;rw[bf,List.length_take];omega
theorem ZU(l:List Int):∀s∈WT l,s.length<=4:=λs hs=>by obtain⟨x,_,rfl⟩:=aj.1 hs;exact Ln x 6
def pcB(b n:Nat):Nat:=((range n).filter λk=>b.testBit k).length
theorem WN(s:List Int)(b n:Nat):(ES s b n).length=pcB b n:=by unfold ES pcB;rw[bf]
theorem Yg(k:Nat)(all:List (List Int))(s:List Int):(Jb all s).countP (λt=>decide (t.length=k))<=all.countP (λt=>decide (t.length=k))+if s.length=k then 1 else 0:=by
 unfold Jb;split
 ·exact Nat.le_add_right _ _
 ·rw[List.countP_append,List.countP_cons];have h1:all.countP (λt=>decide (t.length=k))=(all.take (Ex all s)).countP (λt=>decide (t.length=k))+(all.drop (Ex all s)).countP (λt=>decide (t.length=k)):=by rw[<-List.countP_append,dp]
  simp only[decide_eq_true_eq];omega
theorem M9(k:Nat)(all:List (List Int))(s:List Int):∀b,(C5 all s b).countP (λt=>decide (t.length=k))<=all.countP (λt=>decide (t.length=k))+(range b).countP λc=>decide (pcB (c+1) s.length=k)
 | 0=>Nat.le_add_right _ _
 | b+1=>by have ih:=M9 k all s b;have h:=Yg k (C5 all s b) (ES s (b+1) s.length);rw[WN]at h;show(Jb (C5 all s b) (ES s (b+1) s.length)).countP _<=_;rw[List.range_succ,List.countP_append,List.countP_cons,List.countP_nil];simp only[decide_eq_true_eq];omega
theorem AdG:∀n,n<=4->∀k,((range (2^n-1)).countP λc=>decide (pcB (c+1) n=k))<=6:=λn hn k=>by
 by_cases hk:k<=4
 ·have key:∀n:Fin 5,∀k:Fin 5,((range (2^n.val-1)).countP λc=>decide (pcB (c+1) n.val=k.val))<=6:=by decide
  exact key ⟨n,ω⟩ ⟨k,ω⟩
 ·have h0:((range (2^n-1)).countP λc=>decide (pcB (c+1) n=k))=0:=by
   rw[List.countP_eq_zero];intro c _;have:pcB (c+1) n<=n:=by unfold pcB;exact bp (ft _ _) (by rw[List.length_range];exact ak _)
   simp only[decide_eq_true_eq];omega
  omega
theorem KV(k:Nat):∀(ll acc all:List (List Int)),(∀l∈ll,l.length<=4)->CJ acc ll=some all->all.countP (λt=>decide (t.length=k))<=acc.countP (λt=>decide (t.length=k))+6*ll.length
 | [],acc,all,h,e=>by have:acc=all:=ax e;rw[<-this];exact Nat.le_add_right _ _
 | l::ll,acc,all,h,e=>by
  rw[Ek]at e;split at e
  ·cases e
  ·have h1:=KV k ll _ all (λx hx=>h x (be _ hx)) e
   have h2:(Uz acc (ER [] l)).countP (λt=>decide (t.length=k))<=acc.countP (λt=>decide (t.length=k))+6:=by
    cases hs:ER [] l with
    | none=>exact Nat.le_add_right _ _
    | some s=>
     have h3:=IV l [] s hs;have h4:=h l Mh;have h5:=M9 k acc s (2^s.length-1);have h6:=AdG s.length (by simp at h3;omega) k;show(C5 acc s (2^s.length-1)).countP _<=_;omega
   rw[length_cons];omega
theorem XH{ll:List (List Int)}(h:∀l∈ll,l.length<=4)(n:Int):(Ba (ordF (CP ll)) n).length<=6*ll.length:=by
 have e1:(Ba (ordF (CP ll)) n).length=(CP ll).countP λc=>decide (c.dim=n):=by unfold Ba;rw[bf,<-List.countP_eq_length_filter,(D1 (CP ll).length (CP ll) (ak _)).countP_eq,List.countP_map];rfl
 rw[e1];unfold CP;cases e:CJ [] ll with
 | none=>exact Nat.zero_le _
 | some all=>
  have h1:=KV (n+1).toNat ll [] all h e;rw[List.countP_nil,Nat.zero_add]at h1;refine bp ?_ h1;show((range all.length).map (Ee all)).countP (λc=>decide (c.dim=n))<=_;rw[List.countP_map]
  have e2:all.countP (λt=>decide (t.length=(n+1).toNat))=(range all.length).countP ((λt=>decide (t.length=(n+1).toNat))∘λi=>all.getD i []):=by rw[<-List.countP_map];congr 1;refine fl σ λi h1 h2=>?_;simp[List.getD,h1]
  rw[e2];refine List.countP_mono_left λi hi hd=>?_;have hd:((all.getD i []).length:Int)-1=n:=du hd;show decide ((all.getD i []).length=(n+1).toNat)=true;exact bm ω
theorem AbW{v:Value}{h:Hp}{l:List Ce}{L:List Int}(hR:RdC h v l)(e:l.map Ce.c=CP (WT L)):QsOk v h l/\l.length<=180:=by
 have h1:l.length<=180:=by have h2:=AaG (ZU L);have h3:=Rb L;rw[<-e,bf]at h2;omega
 refine⟨QsOk.of hR e ω λn=>?_,h1⟩;have h2:=XH (ZU L) n;have h3:=Rb L;unfold cn;rw[e];omega
theorem QJ(l:List Int)(v:Value)(hp:Hp)(hR:RdL cI 1 hp [] v l):FnT Tryz.prog 13 #[v] hp [] (λr h' ms'=>hp.le h'/\Afm h' r ms' (λo=>o=CP (WT l))):=by
 have ov:=hR.rd.one;refine Ao func13 ntmps13 Y Y (λw0 hw0=>?_);simp only[AS];refine As (BY [.nl] Y Bj Y Y (λg2=>Bw (Qm Y (An (Ac (As (Qm Y (An (Af (B8 ?_))))))))))
 refine AC (λq sl h' ms'=>∃(i:Nat) (v3:Value) (m3:Hp) (es:List Value) (ll:List (List Int)),q=12-i/\sl=[(0,v),(2,.pt g2),(3,v3),(4,.w i)]/\hp.le h'/\ms'=[m3,BL g2 27 [.nl]]/\i<=12/\i<=l.length/\OwnL cW 1 22 m3 v3 es/\RdEs h' es ll/\ll=(l.take i).map λx=>TG x 6)
  (12-0) _ ⟨0,_,Hp.emp,[],[],rfl,rfl,BD,rfl,ω,ω,OwnL.nil Mo,RdEs.nil _,rfl⟩ Qs ?_
 rintro q sl h' ms' ⟨i,v3,m3,es,ll,rfl,rfl,lh,rfl,hi,hil,hO,hE,hll⟩;have h4:∀s∈ll,s.length<=4:=λs hs=>by rw[hll]at hs;obtain⟨x,_,rfl⟩:=aj.1 hs;exact Ln x 6
 have hlen:ll.length=i:=by rw[hll,bf,List.length_take];omega
 have hR:=hR.up lh;have hel:=hE.1;have ov3:=hO.o1;refine Ac (As (Qm Y (Qm Y (Qx (Aq hR.rd.any Y A9 Y) Y (Qm Y (Qm Y ?_))))));refine AY (t:=11) Y (λh1=>?_) (λh1=>?_)
 ·refine Qg (Ar Y Y) Y (Qg (DB Y Y Y) Y (Qm Y (An ?_)));refine Ax Y (λh2=>?_) (λh2=>?_)
  ·have hin:i<l.length:=ω
   obtain⟨x,hx⟩:∃x,l[i]=x:=⟨_,Y⟩
   have cx:∀ms,Cell h' ms ((AI v).add (i*1)) (.w x):=λms=>by rw[<-hx];exact(hR.any (ms:=ms)).cell0 hin Y
   refine Ah (Ab (Ac (Af (As (Qm Y (An (B8 ?_)))))));refine Bt (λsl h'' ms'=>∃(v5:Value) (m5:Hp) (s:List Int),sl=[(0,v),(2,.pt g2),(3,v3),(4,.w i),(5,v5)]/\h'=h''/\ms'=[m5,m3,BL g2 27 [.nl]]/\OwnL cI 1 3 m5 v5 s/\s=TG x 6) ?_ (λs h ms hI=>?_)
   ·refine Ac (Ad (Qm Y (An (Af ?_))))
    refine AC (λq sl h'' ms'=>∃(j:Nat) (v5:Value) (m5:Hp) (s:List Int),q=6-j/\sl=[(0,v),(2,.pt g2),(3,v3),(4,.w i),(5,v5),(6,.w j)]/\h'=h''/\ms'=[m5,m3,BL g2 27 [.nl]]/\j<=6/\OwnL cI 1 3 m5 v5 s/\s=TG x j)
     (6-0) _ ⟨0,_,Hp.emp,[],rfl,rfl,rfl,rfl,ω,OwnL.nil Bf,rfl⟩ Qs ?_
    rintro q sl h'' ms' ⟨j,v5,m5,s,rfl,rfl,rfl,rfl,hj,hO5,hsv⟩;have hs4:s.length<=4:=hsv ▸ Ln x j;have ov5:=hO5.o1;refine Ac (As (Qm Y (Qm Y (Qm Y ?_))));refine AY (t:=19) Y (λhj1=>?_) (λhj1=>?_)
    ·refine Qg (Ar Y Y) Y (Qg (Lm (hO5.rd (h:=h') (ms:=[m5]) Mh).rd Y A9 Y) Y (Qg (DB Y Y Y) Y (Qm Y (An ?_))));refine Ax Y (λhj2=>?_) (λhj2=>?_)
     ·refine Ah (Ab (Ac (Af (As (Qm Y (Qm Y (Qx (BR (i) hR.rd.any Y A9 Bp Y Y) Y (Ql Y U3 (cx _) (Qm Y (Qx (AcC (n:=j) Y Y Y ω) Y (Qx (AcJ Y Y Y) Y (Qm Y (An ?_)))))))))))));refine Ax Y (λhbit=>?_) (λhbit=>?_)
      ·refine Ad (Qm Y (Qm Y (AB [_] Y A9 Bp Y (by rfl) Y Y ω Y Y Y (λg36=>AL 1 hO5 (RdL.one Bf (x:=(j:Int)) Mh Y) Y A9 Bp Y ω Y Y Y Cq (by(try simp only[ae]);omega) (by(try simp only[ae]);omega) rfl rfl rfl (λv9 m9 hO9=>?_)))));have ov9:=hO9.o1;refine Qm Y (Am (Ai (Ab (Ad (Qm Y (Qx (oA Y) Y (Qm Y (Am (AR ?_)))))))));exact Ap (6-(j+1)) _ ω ⟨j+1,v9,m9,_,Y,Y,Y,Y,ω,hO9,by rw[hsv];exact(af ⟨by rw[<-hsv];omega,hbit⟩).symm⟩ Qs
      ·refine Ah (Ai (Ab (Ad (Qm Y (Qx (oA Y) Y (Qm Y (Am ?_)))))));exact Ap (6-(j+1)) _ ω ⟨j+1,v5,m5,s,Y,Y,Y,Y,ω,hO5,by rw[hsv];exact(ab (λq=>hbit q.2)).symm⟩ Qs
     ·refine AA (Aa (Aa (Ag ?_)));exact AH _ ⟨v5,m5,s,Y,Y,Y,hO5,by rw[hsv];have:=SG (x:=x) (j:=j) (by rw[<-hsv];omega) (6-j);rw[show j+(6-j)=6 by omega]at this;exact this.symm⟩ Qs
    ·refine Qk Y (Qk Y (Qk Y (Qm Y (An (AN Y (AA (Aa (Aa (Ag ?_)))))))));exact AH _ ⟨v5,m5,s,Y,Y,Y,hO5,by rw[hsv];exact ao (TG x) ω⟩ Qs
   ·obtain⟨v5,m5,s,rfl,rfl,rfl,hO5,hsv⟩:=hI;refine CN λh6 l6 k6=>?_;have hS:=hO5.rdh (ms:=[]) k6;have oS_:=hS.rd.one;refine Ad (Qm Y (Qm Y (AB [_] Y JF FA Y ((RdL.rd ‹_›).cells) Y Y ω Y Y Y (λg40=>?_))));refine Cv 1 hO (RdL.one Mo (x:=v5) Mh Y) Y JF FA Y ω Y Y Y (Po λu hu=>by rw[bg.1 hu];exact oS_) (by(try simp only[ae]);omega) (by(try simp only[ae]);omega) rfl rfl rfl (λv9 m9 hO9=>?_);have ov9:=hO9.o1;refine Qm Y (Am (Ai (Ab (Ad (Qm Y (Qx (oA Y) Y (Qm Y (Am (AR ?_)))))))));exact Ap (12-(i+1)) _ ω ⟨i+1,v9,m9,_,ll++[s],Y,Y,AD lh l6,Y,ω,ω,hO9,(hE.up l6).snoc hS,by rw[hll,hsv,am hin,cq,hx];rfl⟩ Qs
  ·have hfin:l.take i=l.take 12:=by rcases (ω:i=12\/(l.length<=i/\l.length<=12)) with e|⟨e1,e2⟩;rw[e];rw[take_of_length_le e1,take_of_length_le e2]
   refine CN λh6 l6 k6=>?_;have hV:=hO.rdh (ms:=[]) k6;have hE:=hE.up l6;refine AA (Aa (Aa (Ag (Ab (As (Qm Y ?_))))));refine Qc call40 Y (Jl ll es v3 h6 ω (λs hs=>by have:=h4 s hs;omega) hV hE) (λrC h7 ms7 l7 hF=>?_);obtain⟨l7',m,A,vA,rfl,rfl,hOA,hA,hs⟩:=hF;have ovA:=hOA.o1;refine Sa 1 [_] Bj Y (by simp[ov,ov3,ovA]) ?_;refine An (Aj ?_);exact Bx (vs:=[_]) 1 Y Y Dz Y Bj Y Y (⟨AD lh (AD l6 l7'),m,A,_,Y,Y,hOA,hA.trans (ao CP (by rw[hll,hfin];rfl)),hs⟩)
 ·refine Qk Y (Qk Y (Qm Y (An (AN Y (AA (Aa (Aa (Ag (Ab ?_)))))))));have hfin:l.take i=l.take 12:=by rcases (ω:i=12\/(l.length<=i/\l.length<=12)) with e|⟨e1,e2⟩;rw[e];rw[take_of_length_le e1,take_of_length_le e2]
  refine CN λh6 l6 k6=>?_;have hV:=hO.rdh (ms:=[]) k6;have hE:=hE.up l6;refine As (Qm Y ?_);refine Qc call40 Y (Jl ll es v3 h6 ω (λs hs=>by have:=h4 s hs;omega) hV hE) (λrC h7 ms7 l7 hF=>?_);obtain⟨l7',m,A,vA,rfl,rfl,hOA,hA,hs⟩:=hF;have ovA:=hOA.o1;refine Sa 1 [_] Bj Y (by simp[ov,ov3,ovA]) ?_;refine An (Aj ?_);exact Bx (vs:=[_]) 1 Y Y Dz Y Bj Y Y (⟨AD lh (AD l6 l7'),m,A,_,Y,Y,hOA,hA.trans (ao CP (by rw[hll,hfin];rfl)),hs⟩)
theorem NZ{κ ν:Type}[DecidableEq κ](T:List (κ×ν))(a:κ)(x y:ν):Cj (Cj T a x) a y=Cj T a y:=by
 unfold Cj;by_cases h:a∈T.map Prod.fst
 ·rw[af h,af h]
  have h2:a∈(T.map λp=>if p.1=a then(a,x) else p).map Prod.fst:=by rw[gc];obtain⟨p,hp,e⟩:=aj.1 h;refine aj.2 ⟨p,hp,?_⟩;show(if p.1=a then(a,x) else p).1=a;rw[af e]
  rw[af h2,gc];refine gh λp _=>?_;show(if(if p.1=a then(a,x) else p).1=a then(a,y) else(if p.1=a then(a,x) else p))=_;by_cases e:p.1=a
  ·rw[af e,af rfl,af e]
  ·simp only[ab e]
 ·rw[ab h,ab h];have h2:a∈(T++[(a,x)]).map Prod.fst:=by rw[cq];exact List.mem_append_right _ (bg.2 Y)
  rw[af h2,cq]
  have h3:(T.map λp=>if p.1=a then(a,y) else p)=T:=by
   have:∀p∈T,(if p.1=a then(a,y) else p)=p:=λp hp=>ab λe=>h (aj.2 ⟨p,hp,e⟩)
   conv=>rhs;rw[<-List.map_id T]
   exact gh this
  rw[h3];show T++[if a=a then(a,y) else(a,x)]=_;rw[af rfl]
def edC(x:Cl):List (Int×Int):=if x.dim=1 then [((x.sd.getD 0 default).1,(x.sd.getD 1 default).1)] else []
theorem AaL(o:List Cl)(x:Cl):Li (o++[x])=Li o++edC x:=by unfold Li edC;rw[dy];simp
theorem Us(E F:List (Int×Int))(T:List (Int×Bool)):K0 (E++F) T=K0 F (K0 E T):=by unfold K0;rw[List.foldl_append]
theorem V8(p:Int×Int)(T:List (Int×Bool)):K0 [p] T=Ui T p:=rfl
theorem SO(l:List Int)(v:Value)(hp:Hp)(hR:RdL cI 1 hp [] v l):FnT Tryz.prog 13 #[v] hp [] (λr h' ms'=>hp.le h'/\ms'=[]/\∃v A,r=.agg #[v]/\RdC h' v A/\A.map Ce.c=CP (WT l)):=
 FnT.frz (QJ l v hp hR) λr h' ms' ⟨q,m,A,v,e,er,O,eA,hs⟩=>⟨m,[],e,λh2 l2 lm=>⟨AD q l2,rfl,v,A,er,⟨O.rdh lm,λa ha=>(hs a ha).up l2⟩,eA⟩⟩
theorem BF{g n:Nat}{l:List Int}{cs:List Value}{h:Hp}(hS:Seg h [] (⟨g,0,none⟩:Addr) cs)(hc:cs=l.flatMap cI)(hl:l.length=2*n)(hn:n<=1000)(hI:∀x∈l,Cc x):FnT Tryz.prog 37 #[.slice (some ⟨g,0,none⟩) (2*n) (2*n)] h [] (λr h' ms'=>h.le h'/\ms'=[]/\RdL DK 3 h' [] r (LV l n)):=
 Nl _ l n hl hn hI h (RdL.built hS hc hl Bf ω)
theorem UV{o:List Cl}(R:Rgt o){a:Int}(h:a∈Ba (ordF o) 0):bz o [(a,1)]=true:=by
 obtain⟨x,hx,rfl,hd⟩:=mem_ids.1 h;refine(QI _ _).2 λc=>?_
 have hs:x.sd=[]:=by have:=R.num x hx;unfold Ck at this;exact fv.1 ω
 rw[NV R hx,hs];rfl
theorem parts_told{v:Value}{h:Hp}{l:List Ce}{o:List Cl}{ids:List Int}{a b:Int}{bT:Bool}(Q:QsOk v h l)(R:Rgt (l.map Ce.c))(hl:l.length<=180)(ho:l.map Ce.c=o)(hids:Ba (cn l) 0=ids)(ha:a∈ids)(hb:b∈ids)(haI:Cc a)(hbI:Cc b)(hT:DC (KO (Li o) o.length [(a,true)]) b=bT):∀h',h.le h'->∀va vb,RdL DK 3 h' [] va [(a,1)]->RdL DK 3 h' [] vb [(b,1)]->∀ms,FnV Tryz.prog 36 #[.agg #[v],.int .i64 0,va,vb,.bool bT] h' ms (.bool true):=λh' q va vb A B ms=>by
 subst ho;obtain⟨s',F⟩:=Np R hl;have hh:∀c∈ids,IY (l.map Ce.c) 0 c=true:=λc hc=>has_iff.2 (mem_ids.1 (by rw[<-hids]at hc;exact hc));have Q':=Q.up q;have T:Tq v va vb h' 0 l [(a,1)] [(b,1)]:=⟨Q',KD A (by show 1<=1000;decide) (λp hp=>by rw[bg.1 hp];exact haI) (XY (by show 1+0<100000;decide)),KD B (by show 1<=1000;decide) (λp hp=>by rw[bg.1 hp];exact hbI) (XY (by show 1+0<100000;decide)),by decide,ω,Jz λp hp=>by rw[bg.1 hp];exact hh a ha,Jz λp hp=>by rw[bg.1 hp];exact hh b hb,UV R (by rw[<-hids]at ha;exact ha),UV R (by rw[<-hids]at hb;exact hb),by show 1+1<=100000;decide,Ada (by show 1+0<100000;decide) (by show 1+0<100000;decide),TM Q' ω⟩
 have:=Nr T F bT bT ⟨λe=>parts_yes R _ (hT.trans e),λ⟨ch,hb2⟩=>by
  cases bT with
  | true=>rfl
  | false=>
   obtain⟨co,h1,h2⟩:=parts_no R (by rw[<-hids]at ha;exact ha) (by rw[<-hids]at hb;exact hb) hT
   exact ib (UT R hb2 h1) h2⟩ ms
 rwa [bm rfl]at this
theorem W7(p q:Nat)(hp:p<256)(hq:q<256)(L:List Int)(vL:Value)(h:Hp)(hL:RdL cI 1 h [] vL L):FnT Tryz.prog 10 #[vL,.int .u8 p,.int .u8 q] h [] (λr _ _=>r=.bool true):=by
 have oL_:=hL.rd.one;refine Ao func10 ntmps10 Y Y (λw0 hw0=>?_);simp only[AS];refine As (Qm Y (Bw (Qx (Au Y call12 Y (YH _ _)) Y (Qm Y (Bw (Qm Y (Qc call13 Y (SO L vL h hL) (λr1 h1 ms1 l1 hF=>?_))))))));obtain⟨l1',rfl,v,l,rfl,hR,hl⟩:=hF;have ov:=hR.q.rd.one;refine BY [.nl] Y Bj Y Y (λg8=>?_);refine Sa 0 [_] Bj Y (by simp[oL_,ov]) ?_;refine An (Aw 0 Y λh2 l2 hS8=>?_);have l02:=AD l1' l2;have hR:=hR.up l2;obtain⟨Q,hl180⟩:=AbW hR hl;have R:=Q.K.r;obtain⟨ids,hids⟩:∃ids,Ba (cn l) 0=ids:=⟨_,Y⟩
 have s8:∀h',h2.le h'->∀ms,Seg h' ms (⟨g8,0,none⟩:Addr) [v]:=λh' q ms=>(hS8.le q).any;refine As (Qx (oG Y Dz Bj (s8 _ (BD) _)) Y (Qc call35 Y (Yy l v 0 h2 Q.K hR) (λvi h3 ms3 l3 hF=>?_)));obtain⟨l3',rfl,hI⟩:=hF;rw[hids]at hI;obtain⟨n,hn⟩:∃n,ids.length=n:=⟨_,Y⟩
 have hnb:n<=100:=by rw[<-hn,<-hids];exact Q.many 0
 have oi:=hI.rd.one;have rI:∀h',h3.le h'->∀ms,Rd h' ms vi 1 n (ids.flatMap cI):=λh' q ms=>by have:=((hI.up q).rd).any (ms:=ms);rwa [hn]at this
 refine Qm Y (An (Ac (As (Qm Y (Qx (Aq (rI _ (BD) _) Y A9 Y) Y (Qm Y (An ?_)))))));refine Ax Y (λhz=>?_) (λhz=>?_)
 ·refine Ac (Ad (Qm Y (Qm Y (An (Aj (Ae ?_))))));exact Al Y Y (Y)
 ·have hn0:0<n:=ω
  have hpn:p%n<n:=Nat.mod_lt _ hn0;have hqn:q%n<n:=Nat.mod_lt _ hn0;obtain⟨a,ha⟩:∃a,ids[p%n]'ω=a:=⟨_,Y⟩
  obtain⟨b,hb⟩:∃b,ids[q%n]'ω=b:=⟨_,Y⟩
  have ham:a∈ids:=ha ▸ ap _;have hbm:b∈ids:=hb ▸ ap _;have ca:∀ms,Cell h3 ms ((AI vi).add (p%n*1)) (.w a):=λms=>(hI.any (ms:=ms)).cell0 (j:=p%n) ω (by rw[ha];rfl);have cb:∀ms,Cell h3 ms ((AI vi).add (q%n*1)) (.w b):=λms=>(hI.any (ms:=ms)).cell0 (j:=q%n) ω (by rw[hb];rfl);have e1:((p:Int)%(n:Int))=((p%n:Nat):Int):=ω
  have e2:((q:Int)%(n:Int))=((q%n:Nat):Int):=ω
  refine Ah (Ab (Ac (AU (n:=18) (bs:=[ic,ic,ic,ic,ic,ic,ic,ic,ic,ic,ic,ic,ic,ic,ic,ic,ie,ie]) [ic,ic,ic,ic,ic,ic,ic,ic,ic,ic,ic,ic,ic,ic,ic,ic] CK κ κ Y Y (Qq Y (Qq Y (Qp Y (Kh Y U5 U3 Y (DR ω)) (Qq Y (Qp Y (Aq (rI _ (BD) _) Y A9 Y) (Qp Y (Dx (Eb Y Y Y ω ω) (ao (Value.int .i64) e1)) (Qp Y (AM (p%n) (rI _ (BD) _) Y A9 Bp Y Y ω ω) (QL Y U3 (ca _) (Qq Y (Qq Y (Qp Y (Kh Y U5 U3 Y (DR ω)) (Qq Y (Qp Y (Aq (rI _ (BD) _) Y A9 Y) (Qp Y (Dx (Eb Y Y Y ω ω) (ao (Value.int .i64) e2)) (Qp Y (AM (q%n) (rI _ (BD) _) Y A9 Bp Y Y ω ω) (QL Y U3 (cb _) ?_)))))))))))))))))));unfold Do;simp only[bj,aw];refine Qo 16 Y (Qm Y (Qw (Qo 17 Y (Qm Y (Qw (Qe ?_))))))
  have haI:Cc a:=by have h1:a∈Ba (cn l) 0:=hids ▸ ham;obtain⟨x,hx,e,_⟩:=mem_ids.1 h1;obtain⟨y,hy,rfl⟩:=aj.1 hx;exact e ▸ Q.X.ids y hy
  have hbI:Cc b:=by have h1:b∈Ba (cn l) 0:=hids ▸ hbm;obtain⟨x,hx,e,_⟩:=mem_ids.1 h1;obtain⟨y,hy,rfl⟩:=aj.1 hx;exact e ▸ Q.X.ids y hy
  refine Ab (As (Di (K:=kN) (V:=vB) (Ok:=Cc) Y Y Y Y (λgS m0 O0=>Qm Y (Ph (V:=vB) (z:=undef) 0 a true Bb O0 Y Y IU Y Y Y haI Y Y (λm1 bs1 O1=>?_)))));have e0:Cj [] a true=[(a,true)]:=by unfold Cj;rw[ab σ];rfl
  rw[e0]at O1;obtain⟨N,hN⟩:∃N,l.length=N:=⟨_,Y⟩
  obtain⟨o,ho⟩:∃o,l.map Ce.c=o:=⟨_,Y⟩
  have hoN:o.length=N:=by rw[<-ho,bf,hN]
  have rV:∀h',h2.le h'->∀ms,Rd h' ms v 3 N (l.flatMap cC):=λh' q ms=>by have:=(hR.q.up q).rd.any (ms:=ms);rwa [hN]at this
  have c8:∀h',h2.le h'->∀ms,Cell h' ms ((⟨g8,0,none⟩:Addr).add 0) v:=λh' q ms=>((hS8.le q) 0 _ Y).any;refine Qm Y (Qm Y (An (Ac (As (Qf Cz Y (Ql Y Cb (c8 _ l3' _) (Qx (Aq (rV _ l3' _) Y Cb Y) Y (Qm Y (An (Af ?_))))))))));refine AC (λq sl h' ms'=>∃(k:Nat) (m:Hp) (bs:List Nat),N-k=q/\sl=[(7,.bool true),(8,.pt g8),(10,.w a),(11,.w b),(12,.map (some gS)),(45,.w N),(46,.w k)]/\h3.le h'/\ms'=[m]/\k<=N/\Cd kN vB gS Cc m (KO (Li o) k [(a,true)]) bs) (N-0) _ ⟨0,m1,bs1,Y,Y,BD,Y,ω,O1⟩ Qs ?_;rintro q sl h' ms' ⟨k,m,bs,rfl,rfl,lh,rfl,hk,O⟩;have l2h:=AD l3' lh;refine As (Qm Y (An (Ac ?_)));refine Ax Y (λhlt=>?_) (λhlt=>?_)
  ·obtain⟨T,hT⟩:∃T,KO (Li o) k [(a,true)]=T:=⟨_,Y⟩
   rw[hT]at O;refine Ah (Ab (Ac (Af (As (Qf Cz Y (Ql Y Cb (c8 _ l2h _) (Qx (Aq (rV _ l2h _) Y Cb Y) Y (Qm Y (An (Af ?_))))))))));refine AC (λq sl h'' ms'=>∃(i:Nat) (m:Hp) (bs:List Nat),N-i=q/\sl=[(7,.bool true),(8,.pt g8),(10,.w a),(11,.w b),(12,.map (some gS)),(45,.w N),(46,.w k),(49,v),(50,.w N),(51,.w i)]/\h'.le h''/\ms'=[m]/\i<=N/\Cd kN vB gS Cc m (K0 (Li (o.take i)) T) bs) (N-0) _ ⟨0,m,bs,Y,Y,BD,Y,ω,O⟩ Qs ?_;rintro q sl h'' ms' ⟨i,m,bs,rfl,rfl,lh2,rfl,hi,O⟩;have l2i:=AD l2h lh2;refine As (Qm Y (An (Ac ?_)));refine Ax Y (λhli=>?_) (λhli=>?_)
   ·have hiN:i<N:=ω
    have hil:i<l.length:=ω
    have hio:i<o.length:=ω
    obtain⟨x,hx⟩:∃x,l[i]=x:=⟨_,Y⟩
    have hox:o[i]=x.c:=by subst ho;rw[List.getElem_map,hx]
    have hxm:x∈l:=hx ▸ ap hil;have etk:K0 (Li (o.take (i+1))) T=K0 (edC x.c) (K0 (Li (o.take i)) T):=by rw[am hio,hox,AaL,Us]
    obtain⟨U,hU⟩:∃U,K0 (Li (o.take i)) T=U:=⟨_,Y⟩
    rw[hU]at O etk;have Rs:=hR.s x hxm;have ox:=Rs.rd.one;have gE:∀ms,Seg h'' ms ((AI v).add (i*3)) (cC x):=λms=>by rw[<-hx];exact((hR.q.up l2i).any (ms:=ms)).seg hil
    refine Ah (Ab (Ac (Af (As (Qx (AM (i) (rV _ l2i _) Y Cb A5 Y Y ω ω) Y (Qx (oG Y Jq A5 (gE _)) Y (BY [.w 0,.w 0,.nl] Y A5 Y Y (λg14=>?_))))))));refine Sa 0 [_,_,_] A5 Y (by simp[oL_,ov,oi,ox]) ?_;refine An (AF λh4 l4 hS14=>?_);have l2j:=AD l2i l4;have d1:∀ms,Cell h4 ms ((⟨g14,0,none⟩:Addr).add 1) (.w x.c.dim):=λms=>(hS14 1 _ Y).any;have d2:∀ms,Cell h4 ms ((⟨g14,0,none⟩:Addr).add 2) x.v:=λms=>(hS14 2 _ Y).any;obtain⟨sa,hsa⟩:∃sa,(x.c.sd.getD 0 default).1=sa:=⟨_,Y⟩
    obtain⟨sb,hsb⟩:∃sb,(x.c.sd.getD 1 default).1=sb:=⟨_,Y⟩
    have hedC:edC x.c=if x.c.dim=1 then [(sa,sb)] else []:=by unfold edC;rw[hsa,hsb]
    have h1d:x.c.dim=1->x.c.sd.length=2/\Cc sa/\Cc sb/\(∀ms,Cell h4 ms (((AI x.v).add (0*2)).add 0) (.w sa))/\(∀ms,Cell h4 ms (((AI x.v).add (1*2)).add 0) (.w sb)):=λhd=>by
     obtain⟨s,t,e,_,_,_⟩:=JU R (aj.2 ⟨x,hxm,Y⟩) hd;rw[e]at hsa hsb;have hsa:s.1=sa:=hsa;have hsb:t.1=sb:=hsb;have hm1:s∈x.c.sd:=by rw[e];exact aq
     have hm2:t∈x.c.sd:=by rw[e];exact be _ aq
     have hl2:x.c.sd.length=2:=by rw[e];rfl
     have R4:=Rs.up l2j;refine⟨hl2,hsa ▸ (Q.X.sds x hxm s hm1).1,hsb ▸ (Q.X.sds x hxm t hm2).1,λms=>?_,λms=>?_⟩
     ·have:=(R4.any (ms:=ms)).seg (j:=0) ω 0 (.w s.1) (by simp only[e];rfl)
      rwa [hsa]at this
     ·have:=(R4.any (ms:=ms)).seg (j:=1) ω 0 (.w t.1) (by simp only[e];rfl)
      rwa [hsb]at this
    obtain⟨b75,hb75⟩:∃b75,(decide (x.c.dim=1)&&(DC U sa||DC U sb))=b75:=⟨_,Y⟩
    refine Bt (λsl h' ms'=>sl=[(7,.bool true),(8,.pt g8),(10,.w a),(11,.w b),(12,.map (some gS)),(14,.pt g14),(45,.w N),(46,.w k),(49,v),(50,.w N),(51,.w i),(75,.bool b75)]/\h4=h'/\ms'=[m]) ?_ (λs h ms hI=>?_)
    ·by_cases hd:x.c.dim=1
     ·obtain⟨hsl,hsaI,hsbI,f0,f1⟩:=h1d hd;have rS:∀ms,Rd h4 ms x.v 2 2 (x.c.sd.flatMap cD):=λms=>by have:=(Rs.up l2j).rd.any (ms:=ms);rwa [hsl]at this
      rw[bm hd,Bool.true_and]at hb75;obtain⟨u1,hu1⟩:∃u,DC U sa=u:=⟨_,Y⟩
      have hu1':(Bs U sa).getD false=u1:=hu1;rw[hu1]at hb75;cases u1
      ·have hu2':(Bs U sb).getD false=b75:=by rw[Bool.false_or]at hb75;exact hb75
       refine Ad (Qf B7 Y (Ql Y U3 (d1 _) (Qx (BE (Ca Y Y Y) (ao Value.bool (bm hd))) Y (Qm Y (Qg (Ar Y Y) Y (Qg (oF BT Y) Y (Qg (oL Y C0 (d2 _)) Y (Qg (AM (0) (rS _) Y C0 BX Y Y ω ω) Y (Qg (oF CQ Y) Y (Qg (oL Y U3 (f0 _)) Y (Qg (C7 (V:=vB) (z:=false) sa hu1' Bb O (.head _) Y IU ED Y Y hsaI) Y (Qg (Ar Y Y) Y (Qg (Ar Y Y) Y (Qg (oF BT Y) Y (Qg (oL Y C0 (d2 _)) Y (Qg (AM (1) (rS _) Y C0 BX Y Y ω ω) Y (Qg (oF CQ Y) Y (Qg (oL Y U3 (f1 _)) Y (Qg (C7 (V:=vB) (z:=false) sb hu2' Bb O (.head _) Y IU ED Y Y hsbI) Y (Qg (CE Y Y Y) Y (Qm Y (Am ?_))))))))))))))))))))));exact AH _ ⟨Y,Y,Y⟩ Qs
      ·rw[Bool.true_or]at hb75;subst hb75;refine Ad (Qf B7 Y (Ql Y U3 (d1 _) (Qx (BE (Ca Y Y Y) (ao Value.bool (bm hd))) Y (Qm Y (Qg (Ar Y Y) Y (Qg (oF BT Y) Y (Qg (oL Y C0 (d2 _)) Y (Qg (AM (0) (rS _) Y C0 BX Y Y ω ω) Y (Qg (oF CQ Y) Y (Qg (oL Y U3 (f0 _)) Y (Qg (C7 (V:=vB) (z:=false) sa hu1' Bb O (.head _) Y IU ED Y Y hsaI) Y (Qg (Ar Y Y) Y (Qk Y (Qk Y (Qk Y (Qk Y (Qk Y (Qk Y (Qk Y (Qg (CW Y Y Y) Y (Qm Y (Am ?_))))))))))))))))))))));exact AH _ ⟨Y,Y,Y⟩ Qs
     ·rw[b7 hd,Bool.false_and]at hb75;subst hb75;refine Ad (Qf B7 Y (Ql Y U3 (d1 _) (Qx (BE (Ca Y Y Y) (ao Value.bool (b7 hd))) Y (Qm Y (Qk Y (Qk Y (Qk Y (Qk Y (Qk Y (Qk Y (Qk Y (Qk Y (A7 Y Y Y Y Y Y (A7 Y Y Y Y Y Y (A7 Y Y Y Y Y Y (A7 Y Y Y Y Y Y (A7 Y Y Y Y Y Y (A7 Y Y Y Y Y Y (A7 Y Y Y Y Y Y (Qk Y (Qm Y (Am ?_))))))))))))))))))))));exact AH _ ⟨Y,Y,Y⟩ Qs
    ·obtain⟨rfl,rfl,rfl⟩:=hI;cases b75
     ·have estay:K0 (edC x.c) U=U:=by
       rw[hedC];split
       ·rename_i hd;rw[bm hd,Bool.true_and]at hb75;rw[V8];unfold Ui;rw[ab (by rw[hb75];simp)]
       ·rfl
      refine AN Y (Ah (Ai (Ab (Ad (Qx (oA Y) Y (Qm Y (Am ?_)))))));exact Ap (N-(i+1)) _ ω ⟨i+1,m,bs,Y,Y,AD lh2 l4,Y,ω,by rw[etk,estay];exact O⟩ Qs
     ·have hd:x.c.dim=1:=by refine ay λhd=>?_;rw[b7 hd,Bool.false_and]at hb75;cases hb75
      obtain⟨hsl,hsaI,hsbI,f0,f1⟩:=h1d hd;have rS:∀ms,Rd h4 ms x.v 2 2 (x.c.sd.flatMap cD):=λms=>by have:=(Rs.up l2j).rd.any (ms:=ms);rwa [hsl]at this
      have ego:K0 (edC x.c) U=Cj (Cj U sa true) sb true:=by rw[hedC,af hd,V8];rw[bm hd,Bool.true_and]at hb75;unfold Ui;rw[af hb75]
      refine AX Y (AU (n:=18) (bs:=[ic,ic,ic,ic,ic,ic,ic,ic,ic,ic,ic,ic,ie,ie,ie,ie,ie,ie]) [ic,ic,ic,ic,ic,ic,ic,ic,ic,ic,ic,ic] CK κ κ Y Y (Qq Y (QF BT Y (QL Y C0 (d2 _) (Qp Y (AM (0) (rS _) Y C0 BX Y Y ω ω) (QF CQ Y (QL Y U3 (f0 _) (Qq Y (QF BT Y (QL Y C0 (d2 _) (Qp Y (AM (1) (rS _) Y C0 BX Y Y ω ω) (QF CQ Y (QL Y U3 (f1 _) ?_)))))))))))));unfold Do;simp only[bj,aw];refine Qo 12 Y (K5 (V:=vB) (z:=false) 0 sa Bb O Y Y IU ED Y Y hsaI Y Y Y (λm2 bs2 j2 b2 O2 hj2 hb2=>Qw (Bd 13 89 κ Y (BD) Y (Bz Y Y Y) (Qo 14 Y (Ji 0 true O2 hj2 hb2 Y Y Y Y Y Y Y (λm3 O3=>?_))))));rw[NZ]at O3;refine Qw (Qo 15 Y (K5 (V:=vB) (z:=false) 0 sb Bb O3 Y Y IU ED Y Y hsbI Y Y Y (λm4 bs4 j4 b4 O4 hj4 hb4=>Qw (Bd 16 91 κ Y (BD) Y (Bz Y Y Y) (Qo 17 Y (Ji 0 true O4 hj4 hb4 Y Y Y Y Y Y Y (λm5 O5=>?_)))))));rw[NZ]at O5;refine Qw (Qe (Ai (Ab (Ad (Qx (oA Y) Y (Qm Y (Am ?_)))))));exact Ap (N-(i+1)) _ ω ⟨i+1,m5,bs4,Y,Y,AD lh2 l4,Y,ω,by rw[etk,ego];exact O5⟩ Qs
   ·obtain rfl:i=N:=ω
    rw[show o.take i=o from take_of_length_le ω]at O;refine AA (Aa (Aa (Ag (Ai (Ab (Ad (Qx (oA Y) Y (Qm Y (Am ?_)))))))));exact Ap (i-(k+1)) _ ω ⟨k+1,m,bs,Y,Y,AD lh lh2,Y,ω,by show Cd _ _ _ _ _ (K0 (Li o) (KO (Li o) k [(a,true)])) _;rw[hT];exact O⟩ Qs
  ·obtain rfl:k=N:=ω
   obtain⟨T,hT⟩:∃T,KO (Li o) k [(a,true)]=T:=⟨_,Y⟩
   rw[hT]at O;obtain⟨bT,hbT⟩:∃bT,DC T b=bT:=⟨_,Y⟩
   have hbT':(Bs T b).getD false=bT:=hbT;refine AA (Aa (Aa (Ag (Ab (CN λh4 l4 lm=>?_)))));have l24:=AD l2h l4;have l04:=AD l02 l24
   have hIa:∀x∈[a,1],Cc x:=λx hx=>by
    simp only[bi,gx,gu]at hx;rcases hx with rfl|rfl
    ·exact haI
    ·unfold Cc;decide
   have hIb:∀x∈[b,1],Cc x:=λx hx=>by
    simp only[bi,gx,gu]at hx;rcases hx with rfl|rfl
    ·exact hbI
    ·unfold Cc;decide
   have hTold:=parts_told Q R hl180 ho hids ham hbm haI hbI (bT:=bT) (by rw[hoN,hT];exact hbT);have lc:=Hp.le_refl h4;have s84:∀ms,Seg h4 ms (⟨g8,0,none⟩:Addr) [v]:=λms=>s8 _ l24 _;refine Ac (AU (n:=15) (bs:=[ic,ie,ie,ie,ie,ie,ie,ie,ie,ie,ie,ie,ie,ie,ie]) [true] CK κ κ Y Y (Qq Y ?_));unfold Do;simp only[bj,aw];refine Qo 1 Y (Qm Y (Qw (BH 2 96 κ Y Y Y Y Y (BD) Y (oG Y Dz Bj (s84 _)) (BH 3 97 κ Y Y Y Y Y (BD) Y (Ar Y Y) (BH 6 100 κ Y Y Y Y Y (BD) Y (Ar Y Y) (BH 9 103 κ Y Y Y Y Y (BD) Y (Ar Y Y) (BH 10 104 κ Y Y Y Y Y (BD) Y (Ar Y Y) (AV [4,7,11] κ Y ?_))))))));refine Av Y ?_ ?_;refine Bh Y Y Y Y (AJ [(0,_),(1,_)] [.w 0,.w 0] [_,_] Y A9 Bp Y ω κ Qt Y Y Y Y (λg98=>AZ λhA lA S4=>?_));have lc:=AD lc lA;refine Qa (AV [5,7,11] κ Y ?_);refine Av Y ?_ ?_;refine Bh Y Y Y Y (Az (pre:=[]) Y call37 Y (BF (n:=1) (l:=[a,1]) S4 Y Y δ hIa) Y Y Y Y (λp1 hB msB lB hF=>?_));obtain⟨lB',rfl,P1⟩:=hF;have lc:=AD lc lB';refine Qa (AV [7,11] κ Y ?_);refine Av Y ?_ ?_;refine Bh Y Y Y Y (AJ [(0,_),(1,_)] [.w 0,.w 0] [_,_] Y A9 Bp Y ω κ Qt Y Y Y Y (λg101=>AZ λhC lC S7=>?_));have lc:=AD lc lC;have P1:=P1.up lC;refine Qa (AV [8,11] κ Y ?_);refine Av Y ?_ ?_;refine Bh Y Y Y Y (Az (pre:=[]) Y call37 Y (BF (n:=1) (l:=[b,1]) S7 Y Y δ hIb) Y Y Y Y (λp2 hD msD lD hF=>?_));obtain⟨lD',rfl,P2⟩:=hF;have lc:=AD lc lD';have P1:=P1.up lD';refine Qa (Qo 11 Y (Qg (BE (B9 (V:=vB) (z:=false) b Bb O (AD lm lc) Y IU ED Y Y hbI) (ao vB hbT')) Y (Qa ?_)))
   rotate_left
   refine Av Y ?_ ?_;refine Qg (BE (B9 (V:=vB) (z:=false) b Bb O (AD lm lc) Y IU ED Y Y hbI) (ao vB hbT')) Y (Qa (Qo 8 Y (Bh Y Y Y Y (Az (pre:=[]) Y call37 Y (BF (n:=1) (l:=[b,1]) S7 Y Y δ hIb) Y Y Y Y (λp2 hD msD lD hF=>?_)))));obtain⟨lD',rfl,P2⟩:=hF;have lc:=AD lc lD';have P1:=P1.up lD';refine Qa ?_
   rotate_left
   exact AW;refine Av Y ?_ ?_;refine Qg (BE (B9 (V:=vB) (z:=false) b Bb O (AD lm lc) Y IU ED Y Y hbI) (ao vB hbT')) Y (Qa (Qo 7 Y (Bh Y Y Y Y (AJ [(0,_),(1,_)] [.w 0,.w 0] [_,_] Y A9 Bp Y ω κ Qt Y Y Y Y (λg101=>AZ λhC lC S7=>?_)))));have lc:=AD lc lC;have P1:=P1.up lC;refine Qa (Qo 8 Y (Bh Y Y Y Y (Az (pre:=[]) Y call37 Y (BF (n:=1) (l:=[b,1]) S7 Y Y δ hIb) Y Y Y Y (λp2 hD msD lD hF=>?_))));obtain⟨lD',rfl,P2⟩:=hF;have lc:=AD lc lD';have P1:=P1.up lD';refine Qa ?_
   rotate_left
   exact AW;refine Av Y ?_ ?_;refine Bh Y Y Y Y (AJ [(0,_),(1,_)] [.w 0,.w 0] [_,_] Y A9 Bp Y ω κ Qt Y Y Y Y (λg101=>AZ λhC lC S7=>?_));have lc:=AD lc lC;have S4:=S4.le lC;refine Qa (AV [5,11] κ Y ?_);refine Av Y ?_ ?_;refine Bh Y Y Y Y (Az (pre:=[]) Y call37 Y (BF (n:=1) (l:=[a,1]) S4 Y Y δ hIa) Y Y Y Y (λp1 hB msB lB hF=>?_));obtain⟨lB',rfl,P1⟩:=hF;have lc:=AD lc lB';have S7:=S7.le lB';refine Qa (AV [8,11] κ Y ?_);refine Av Y ?_ ?_;refine Bh Y Y Y Y (Az (pre:=[]) Y call37 Y (BF (n:=1) (l:=[b,1]) S7 Y Y δ hIb) Y Y Y Y (λp2 hD msD lD hF=>?_));obtain⟨lD',rfl,P2⟩:=hF;have lc:=AD lc lD';have P1:=P1.up lD';refine Qa (Qo 11 Y (Qg (BE (B9 (V:=vB) (z:=false) b Bb O (AD lm lc) Y IU ED Y Y hbI) (ao vB hbT')) Y (Qa ?_)))
   rotate_left
   refine Av Y ?_ ?_;refine Qg (BE (B9 (V:=vB) (z:=false) b Bb O (AD lm lc) Y IU ED Y Y hbI) (ao vB hbT')) Y (Qa (Qo 8 Y (Bh Y Y Y Y (Az (pre:=[]) Y call37 Y (BF (n:=1) (l:=[b,1]) S7 Y Y δ hIb) Y Y Y Y (λp2 hD msD lD hF=>?_)))));obtain⟨lD',rfl,P2⟩:=hF;have lc:=AD lc lD';have P1:=P1.up lD';refine Qa ?_
   rotate_left
   exact AW;refine Av Y ?_ ?_;refine Qg (BE (B9 (V:=vB) (z:=false) b Bb O (AD lm lc) Y IU ED Y Y hbI) (ao vB hbT')) Y (Qa (Qo 5 Y (Bh Y Y Y Y (Az (pre:=[]) Y call37 Y (BF (n:=1) (l:=[a,1]) S4 Y Y δ hIa) Y Y Y Y (λp1 hB msB lB hF=>?_)))));obtain⟨lB',rfl,P1⟩:=hF;have lc:=AD lc lB';have S7:=S7.le lB';refine Qa (Qo 8 Y (Bh Y Y Y Y (Az (pre:=[]) Y call37 Y (BF (n:=1) (l:=[b,1]) S7 Y Y δ hIb) Y Y Y Y (λp2 hD msD lD hF=>?_))));obtain⟨lD',rfl,P2⟩:=hF;have lc:=AD lc lD';have P1:=P1.up lD';refine Qa ?_
   rotate_left
   exact AW;refine Av Y ?_ ?_;refine Qg (BE (B9 (V:=vB) (z:=false) b Bb O (AD lm lc) Y IU ED Y Y hbI) (ao vB hbT')) Y (Qa (AV [5,7] κ Y ?_));refine Av Y ?_ ?_;refine Bh Y Y Y Y (Az (pre:=[]) Y call37 Y (BF (n:=1) (l:=[a,1]) S4 Y Y δ hIa) Y Y Y Y (λp1 hB msB lB hF=>?_));obtain⟨lB',rfl,P1⟩:=hF;have lc:=AD lc lB';refine Qa (Qo 7 Y (Bh Y Y Y Y (AJ [(0,_),(1,_)] [.w 0,.w 0] [_,_] Y A9 Bp Y ω κ Qt Y Y Y Y (λg101=>AZ λhC lC S7=>?_))));have lc:=AD lc lC;have P1:=P1.up lC;refine Qa (Qo 8 Y (Bh Y Y Y Y (Az (pre:=[]) Y call37 Y (BF (n:=1) (l:=[b,1]) S7 Y Y δ hIb) Y Y Y Y (λp2 hD msD lD hF=>?_))));obtain⟨lD',rfl,P2⟩:=hF;have lc:=AD lc lD';have P1:=P1.up lD';refine Qa ?_
   rotate_left
   refine Av Y ?_ ?_;refine Bh Y Y Y Y (AJ [(0,_),(1,_)] [.w 0,.w 0] [_,_] Y A9 Bp Y ω κ Qt Y Y Y Y (λg101=>AZ λhC lC S7=>?_));have lc:=AD lc lC;have S4:=S4.le lC;refine Qa (Qo 5 Y (Bh Y Y Y Y (Az (pre:=[]) Y call37 Y (BF (n:=1) (l:=[a,1]) S4 Y Y δ hIa) Y Y Y Y (λp1 hB msB lB hF=>?_))));obtain⟨lB',rfl,P1⟩:=hF;have lc:=AD lc lB';have S7:=S7.le lB';refine Qa (Qo 8 Y (Bh Y Y Y Y (Az (pre:=[]) Y call37 Y (BF (n:=1) (l:=[b,1]) S7 Y Y δ hIb) Y Y Y Y (λp2 hD msD lD hF=>?_))));obtain⟨lD',rfl,P2⟩:=hF;have lc:=AD lc lD';have P1:=P1.up lD';refine Qa ?_
   rotate_left
   exact AW;exact AW;refine Av Y ?_ ?_;refine Bh Y Y Y Y (AJ [(0,_),(1,_)] [.w 0,.w 0] [_,_] Y A9 Bp Y ω κ Qt Y Y Y Y (λg101=>AZ λhC lC S7=>?_));have lc:=AD lc lC;refine Qa (AV [4,11] κ Y ?_);refine Av Y ?_ ?_;refine Bh Y Y Y Y (AJ [(0,_),(1,_)] [.w 0,.w 0] [_,_] Y A9 Bp Y ω κ Qt Y Y Y Y (λg98=>AZ λhA lA S4=>?_));have lc:=AD lc lA;have S7:=S7.le lA;refine Qa (AV [5,11] κ Y ?_);refine Av Y ?_ ?_;refine Bh Y Y Y Y (Az (pre:=[]) Y call37 Y (BF (n:=1) (l:=[a,1]) S4 Y Y δ hIa) Y Y Y Y (λp1 hB msB lB hF=>?_));obtain⟨lB',rfl,P1⟩:=hF;have lc:=AD lc lB';have S7:=S7.le lB';refine Qa (AV [8,11] κ Y ?_);refine Av Y ?_ ?_;refine Bh Y Y Y Y (Az (pre:=[]) Y call37 Y (BF (n:=1) (l:=[b,1]) S7 Y Y δ hIb) Y Y Y Y (λp2 hD msD lD hF=>?_));obtain⟨lD',rfl,P2⟩:=hF;have lc:=AD lc lD';have P1:=P1.up lD';refine Qa (Qo 11 Y (Qg (BE (B9 (V:=vB) (z:=false) b Bb O (AD lm lc) Y IU ED Y Y hbI) (ao vB hbT')) Y (Qa ?_)))
   rotate_left
   refine Av Y ?_ ?_;refine Qg (BE (B9 (V:=vB) (z:=false) b Bb O (AD lm lc) Y IU ED Y Y hbI) (ao vB hbT')) Y (Qa (Qo 8 Y (Bh Y Y Y Y (Az (pre:=[]) Y call37 Y (BF (n:=1) (l:=[b,1]) S7 Y Y δ hIb) Y Y Y Y (λp2 hD msD lD hF=>?_)))));obtain⟨lD',rfl,P2⟩:=hF;have lc:=AD lc lD';have P1:=P1.up lD';refine Qa ?_
   rotate_left
   exact AW;refine Av Y ?_ ?_;refine Qg (BE (B9 (V:=vB) (z:=false) b Bb O (AD lm lc) Y IU ED Y Y hbI) (ao vB hbT')) Y (Qa (Qo 5 Y (Bh Y Y Y Y (Az (pre:=[]) Y call37 Y (BF (n:=1) (l:=[a,1]) S4 Y Y δ hIa) Y Y Y Y (λp1 hB msB lB hF=>?_)))));obtain⟨lB',rfl,P1⟩:=hF;have lc:=AD lc lB';have S7:=S7.le lB';refine Qa (Qo 8 Y (Bh Y Y Y Y (Az (pre:=[]) Y call37 Y (BF (n:=1) (l:=[b,1]) S7 Y Y δ hIb) Y Y Y Y (λp2 hD msD lD hF=>?_))));obtain⟨lD',rfl,P2⟩:=hF;have lc:=AD lc lD';have P1:=P1.up lD';refine Qa ?_
   rotate_left
   exact AW;refine Av Y ?_ ?_;refine Qg (BE (B9 (V:=vB) (z:=false) b Bb O (AD lm lc) Y IU ED Y Y hbI) (ao vB hbT')) Y (Qa (Qo 4 Y (Bh Y Y Y Y (AJ [(0,_),(1,_)] [.w 0,.w 0] [_,_] Y A9 Bp Y ω κ Qt Y Y Y Y (λg98=>AZ λhA lA S4=>?_)))));have lc:=AD lc lA;have S7:=S7.le lA;refine Qa (Qo 5 Y (Bh Y Y Y Y (Az (pre:=[]) Y call37 Y (BF (n:=1) (l:=[a,1]) S4 Y Y δ hIa) Y Y Y Y (λp1 hB msB lB hF=>?_))));obtain⟨lB',rfl,P1⟩:=hF;have lc:=AD lc lB';have S7:=S7.le lB';refine Qa (Qo 8 Y (Bh Y Y Y Y (Az (pre:=[]) Y call37 Y (BF (n:=1) (l:=[b,1]) S7 Y Y δ hIb) Y Y Y Y (λp2 hD msD lD hF=>?_))));obtain⟨lD',rfl,P2⟩:=hF;have lc:=AD lc lD';have P1:=P1.up lD';refine Qa ?_
   rotate_left
   exact AW;refine Av Y ?_ ?_;refine Qg (BE (B9 (V:=vB) (z:=false) b Bb O (AD lm lc) Y IU ED Y Y hbI) (ao vB hbT')) Y (Qw (AV [4,7] κ Y ?_));refine Av Y ?_ ?_;refine Bh Y Y Y Y (AJ [(0,_),(1,_)] [.w 0,.w 0] [_,_] Y A9 Bp Y ω κ Qt Y Y Y Y (λg98=>AZ λhA lA S4=>?_));have lc:=AD lc lA;refine Qa (AV [5,7] κ Y ?_);refine Av Y ?_ ?_;refine Bh Y Y Y Y (Az (pre:=[]) Y call37 Y (BF (n:=1) (l:=[a,1]) S4 Y Y δ hIa) Y Y Y Y (λp1 hB msB lB hF=>?_));obtain⟨lB',rfl,P1⟩:=hF;have lc:=AD lc lB';refine Qa (Qo 7 Y (Bh Y Y Y Y (AJ [(0,_),(1,_)] [.w 0,.w 0] [_,_] Y A9 Bp Y ω κ Qt Y Y Y Y (λg101=>AZ λhC lC S7=>?_))));have lc:=AD lc lC;have P1:=P1.up lC;refine Qa (Qo 8 Y (Bh Y Y Y Y (Az (pre:=[]) Y call37 Y (BF (n:=1) (l:=[b,1]) S7 Y Y δ hIb) Y Y Y Y (λp2 hD msD lD hF=>?_))));obtain⟨lD',rfl,P2⟩:=hF;have lc:=AD lc lD';have P1:=P1.up lD';refine Qa ?_
   rotate_left
   refine Av Y ?_ ?_;refine Bh Y Y Y Y (AJ [(0,_),(1,_)] [.w 0,.w 0] [_,_] Y A9 Bp Y ω κ Qt Y Y Y Y (λg101=>AZ λhC lC S7=>?_));have lc:=AD lc lC;have S4:=S4.le lC;refine Qa (Qo 5 Y (Bh Y Y Y Y (Az (pre:=[]) Y call37 Y (BF (n:=1) (l:=[a,1]) S4 Y Y δ hIa) Y Y Y Y (λp1 hB msB lB hF=>?_))));obtain⟨lB',rfl,P1⟩:=hF;have lc:=AD lc lB';have S7:=S7.le lB';refine Qa (Qo 8 Y (Bh Y Y Y Y (Az (pre:=[]) Y call37 Y (BF (n:=1) (l:=[b,1]) S7 Y Y δ hIb) Y Y Y Y (λp2 hD msD lD hF=>?_))));obtain⟨lD',rfl,P2⟩:=hF;have lc:=AD lc lD';have P1:=P1.up lD';refine Qa ?_
   rotate_left
   exact AW;refine Av Y ?_ ?_;refine Bh Y Y Y Y (AJ [(0,_),(1,_)] [.w 0,.w 0] [_,_] Y A9 Bp Y ω κ Qt Y Y Y Y (λg101=>AZ λhC lC S7=>?_));have lc:=AD lc lC;refine Qa (Qo 4 Y (Bh Y Y Y Y (AJ [(0,_),(1,_)] [.w 0,.w 0] [_,_] Y A9 Bp Y ω κ Qt Y Y Y Y (λg98=>AZ λhA lA S4=>?_))));have lc:=AD lc lA;have S7:=S7.le lA;refine Qa (Qo 5 Y (Bh Y Y Y Y (Az (pre:=[]) Y call37 Y (BF (n:=1) (l:=[a,1]) S4 Y Y δ hIa) Y Y Y Y (λp1 hB msB lB hF=>?_))));obtain⟨lB',rfl,P1⟩:=hF;have lc:=AD lc lB';have S7:=S7.le lB';refine Qa (Qo 8 Y (Bh Y Y Y Y (Az (pre:=[]) Y call37 Y (BF (n:=1) (l:=[b,1]) S7 Y Y δ hIb) Y Y Y Y (λp2 hD msD lD hF=>?_))));obtain⟨lD',rfl,P2⟩:=hF;have lc:=AD lc lD';have P1:=P1.up lD';refine Qa ?_
   rotate_left
   exact AW;exact AW
   all_goals
    refine Qo 12 Y (Qg (Au Y call36 Y (hTold _ (AD l24 lc) _ _ P1 P2 _)) Y (Qa (Qo 13 Y (Qm Y (Qa (Qo 14 Y (Qm Y (Qa (Qe (Ab (Aj ?_)))))))))));exact Al Y Y Y
end
section
open Go.Eng Go.ChangeShapes Go.WideShapes Go.ChangeAt Go.RowKit Go.Deep
theorem own:ownKnob Tryz.prog.godebug=none:=by kernel_rfl
theorem Ad1{w w':World}(E:Ext w w'):Below w.heap.size w w':=⟨E.os,E.tape.tape,E.output,E.size,E.block⟩
theorem AbH:laidOutB Tryz.prog=true:=by kernel_rfl
section
variable {H:Type} {enc:TypeId×Value->H} {w:World} {base:Nat} {spare:Nat->Bool} {held:Bool}
theorem XS(n:Nat)(cs:List Value)(y:DataW H×List MemPlace)(h:DataW.trod enc Tryz.prog w base spare held n 3 cs=some y):∃a,cs=cI a/\Cc a:=by obtain⟨b,h1,_,h2⟩:=DataW.trod_int U3 h;exact⟨b,h1,bounds_i64 h2⟩
theorem Abo{v:Value}{fuel:Nat}{x:DataW H×List MemPlace}(h:DataW.trod enc Tryz.prog w base spare held fuel 22 [v]=some x):∃l,RdL cI 1 (whole w) [] v l/\∀a∈l,Cc a:=
 YZ A9 κ Bf δ XS h
end
theorem TI(p q:Int)(L:List Int)(vL:Value)(h:Hp)(hp:0<=p/\p<=255)(hq:0<=q/\q<=255)(hL:RdL cI 1 h [] vL L):FnT Tryz.prog 10 #[vL,.int .u8 p,.int .u8 q] h [] (λr _ _=>r=.bool true):=by
 obtain⟨a,rfl⟩:∃n:Nat,p=n:=⟨p.toNat,(Int.toNat_of_nonneg hp.1).symm⟩
 obtain⟨b,rfl⟩:∃n:Nat,q=n:=⟨q.toNat,(Int.toNat_of_nonneg hq.1).symm⟩
 exact W7 a b ω ω L vL h hL
end
end Go.Proofs.Q
namespace Go.Proofs.YtmgaeedkcecckaaGreatDoor
open Go Go.ChangeShapes Go.WideShapes Go.ChangeAt Go.RowKit Go.Proofs.Q

theorem parts_k1:(Rows.answerPartsRow.inPlace==Tryz.prog.inPlace 10)=true:=by kernel_rfl
theorem parts_k2:(Rows.answerPartsRow.unfollowed==Tryz.prog.unfollowed 10)=true:=by kernel_rfl
theorem parts_k3:(Rows.answerPartsRow.recurses==Tryz.prog.recurses 10)=true:=by kernel_rfl
theorem parts_k4:(Rows.answerPartsRow.named==Tryz.prog.varsNamed 10)=true:=by kernel_rfl

theorem parts_g1:false=Tryz.prog.looks []:=by kernel_rfl
theorem parts_g2:Tryz.prog.funcNamed "cocycle/cocyclelaw10.AnswerParts" = some 10:=by kernel_rfl
theorem parts_g3:false=Rows.answerPartsRow.goesBy Tryz.prog:=by kernel_rfl
end Go.Proofs.YtmgaeedkcecckaaGreatDoor
