/- A part of the proof. -/
import Derived.Test.YtodheebhahdepaaGreatDoorQE
set_option linter.unusedSimpArgs false
set_option linter.unusedVariables false
set_option linter.unusedSectionVars false
set_option maxRecDepth 100000
set_option maxHeartbeats 4000000

open List (mem_map length_map length_singleton getElem_mem replicate range length_append nil_append length_take mem_cons mem_range cons_append map_append mem_filter pairwise_cons take_succ_eq_append_getElem append_nil map_map map_cons length_set getElem_of_mem take_length getElem_map flatMap_cons length_range filter_append take_zero length_replicate sum_cons sum_append not_mem_nil)
namespace Go.Proofs.Q
open Go.Proofs.Tryz
open Go.Eng Go.RowKit Go.Lin
theorem Z1(b:UInt8):b.toNat<256:=b.toNat_lt
theorem XL(neg:Bool)(h:Hp):FnT Tryz.prog 187 #[.agg #[.bool neg,sv []]] h [] (fun r h' ms'=>h.le h'/\ms'=[]/\RdL Ca 1 h' [] r []):=by
 refine Ap func187 ntmps187 rfl rfl (fun w0 hw0=>?_);simp only[AU];refine Au (AX [_,_] rfl rfl (by rfl) rfl rfl rfl (fun g1=>Qm rfl (Al (AD fun h1 l1 hS=>?_))));have e1:∀ms,Cell h1 ms ((⟨g1,0,none⟩:Addr).add 1) (sv []):=fun ms=>(hS 1 _ rfl).any;refine Au (Qf GP rfl (Ql rfl U9 (e1 _) (Qx (EW 0 rfl rfl U9 rfl) rfl (Qx (oA rfl) rfl (Qx (oS rfl) rfl (Qx (FX rfl rfl rfl (by omega) (by omega)) rfl (CB (n:=0) rfl BJ B6 rfl rfl rfl (by rfl) (by rfl) (by omega) (by omega) rfl rfl rfl (fun g12=>Qm rfl (Al (Ac (Au (Qf GP rfl (Ql rfl U9 (e1 _) (Qx (EW 0 rfl rfl U9 rfl) rfl (Qm rfl (Al (Af (Ax (fun q sl h' ms'=>q=0/\sl=[(1,.pointer (some ⟨g1,0,none⟩)),(3,.slice (some ⟨g12,0,none⟩) 0 0),(15,.int .i64 ((0:Nat):Int)),(16,.int .i64 0)]/\h1=h'/\ms'=[Bi g12 222 []]) 0 _ ⟨rfl,rfl,rfl,rfl⟩ Qs ?_))))))))))))))))));rintro q sl h' ms' ⟨rfl,rfl,rfl,rfl⟩;refine Au (Qm rfl (Al (Ac ?_)));refine Av rfl (fun hlt=>?_) (fun hlt=>?_)
 ·exact absurd hlt (by omega)
 ·refine As (Aa (Aa (Ae (Ab ?_))));have hO:OwnL Ca 1 222 (Bi g12 222 []) (.slice (some ⟨g12,0,none⟩) 0 0) []:=OwnL.blk (l:=([]:List Nat)) 0 Dn rfl (by omega);refine Bq hO fun h2 l2 hR=>(Au (Qm rfl (AY (pre:=[]) rfl call229 rfl (Fc [] _ h2 hR (by simp)) rfl rfl rfl rfl (fun r h3 ms3 l3 hF=>?_))))
  obtain⟨l3',rfl,hR3⟩:=hF;refine Qm rfl (Al (Ao ?_));exact Az rfl rfl (⟨AI l1 (AI l2 l3'),rfl,hR3⟩)
theorem WY(neg:Bool)(b:UInt8)(hb:b.toNat≠0)(h:Hp):FnT Tryz.prog 187 #[.agg #[.bool neg,sv [b]]] h [] (fun r h' ms'=>h.le h'/\ms'=[]/\RdL Ca 1 h' [] r [b.toNat]):=by
 have hb8:=Z1 b;refine Ap func187 ntmps187 rfl rfl (fun w0 hw0=>?_);simp only[AU];refine Au (AX [_,_] rfl rfl (by rfl) rfl rfl rfl (fun g1=>Qm rfl (Al (AD fun h1 l1 hS=>?_))));have e1:∀ms,Cell h1 ms ((⟨g1,0,none⟩:Addr).add 1) (sv [b]):=fun ms=>(hS 1 _ rfl).any;refine Au (Qf GP rfl (Ql rfl U9 (e1 _) (Qx (EW 1 rfl rfl U9 rfl) rfl (Qx (oA rfl) rfl (Qx (oS rfl) rfl (Qx (FX rfl rfl rfl (by omega) (by omega)) rfl (CB (n:=1) rfl BJ B6 rfl rfl rfl (by rfl) (by rfl) (by omega) (by omega) rfl rfl rfl (fun g12=>Qm rfl (Al (Ac (Au (Qf GP rfl (Ql rfl U9 (e1 _) (Qx (EW 1 rfl rfl U9 rfl) rfl (Qm rfl (Al (Af ?_)))))))))))))))));refine Ax (fun q sl h' ms'=>∃(i:Nat) (m:Hp),1-i=q/\sl=[(1,.pointer (some ⟨g1,0,none⟩)),(3,.slice (some ⟨g12,0,none⟩) 1 1),(15,.int .i64 ((1:Nat):Int)),(16,.int .i64 i)]/\h1=h'/\ms'=[m]/\i<=1/\OwnL Ca 1 222 m (.slice (some ⟨g12,0,none⟩) 1 1) [if i=0 then 0 else b.toNat]) 1 _ ⟨0,_,rfl,rfl,rfl,rfl,by omega,OwnL.blk (l:=[0]) 1 Dn rfl (by omega)⟩ Qs ?_;rintro q sl h' ms' ⟨i,m,rfl,rfl,rfl,rfl,hi,hO⟩;refine Au (Qm rfl (Al (Ac ?_)));refine Av rfl (fun hlt=>?_) (fun hlt=>?_)
 ·have hi0:i=0:=by omega
  subst hi0;rw[if_pos rfl]at hO;refine Ag (Ab (Ac (Af (Au (Qm rfl (Qm rfl (BL (Qf GP rfl (Ql rfl U9 (e1 _) (Qx (EW 1 rfl rfl U9 rfl) rfl (Qx (oS rfl) rfl (Qm rfl (Qx (oS rfl) rfl (Qm rfl (Al ?_)))))))))))))));have hc:Cell h1 [m] ((AF (.slice (some ⟨g12,0,none⟩) 1 1)).add (0*1)) (.int .u64 ((0:Nat):Int)):=(hO.rd (h:=h1) (ms:=[m]) (.head _)).cell0 (j:=0) (by simp) rfl;refine Bg 14 CY (by kernel_rfl) rfl (Wm rfl (Wm rfl (AP (FX rfl rfl rfl (by omega) (by omega)) rfl rfl (AP (BF (0) rfl BJ B6 rfl rfl (by omega) (by omega)) rfl rfl (Wl rfl Fl (hc) (Wf GP rfl (Wl rfl U9 (e1 _) (Wm rfl (AP (SO (l:=[b]) 0 rfl U9 rfl rfl rfl (by simp)) rfl rfl (AP (H2 (a:=((b.toNat:Nat):Int)) rfl U5 Fl rfl (DS (by omega))) rfl rfl (Wm rfl (AP (BM rfl rfl rfl (by omega) (by omega)) rfl rfl (AP (oM rfl) rfl rfl (AP (P0 (a:=b.toNat) (n:=0) rfl rfl rfl (by omega)) rfl rfl (Bc (Qx (Vq (a:=0) (b:=b.toNat*2^0%18446744073709551616) rfl rfl rfl (by omega) (by omega)) rfl (Qx (BF (0) rfl BJ B6 rfl rfl (by omega) (by omega)) rfl (Cr (f:=fun n:Nat=>Value.int .u64 (n:Int)) 0 0 (fun _=>rfl) hO rfl B6 rfl rfl rfl rfl (by simp) rfl rfl (fun m' hO'=>?_)))))))))))))))))))
  have e:(0 ||| b.toNat*2^0%18446744073709551616)=b.toNat:=by rw[Nat.zero_or,Nat.pow_zero,Nat.mul_one,Nat.mod_eq_of_lt (by omega)]
  rw[e]at hO';refine Aj (Ai (Ab (Ad (Qx (oA rfl) rfl (Qm rfl (Aj ?_))))));exact Ak 0 _ (by omega) ⟨1,m',rfl,rfl,rfl,rfl,by omega,hO'⟩ Qs
 ·have hi1:i=1:=by omega
  subst hi1;rw[if_neg (by decide)]at hO;refine As (Aa (Aa (Ae (Ab (Bq hO fun h2 l2 hR=>(Au (Qm rfl (AY (pre:=[]) rfl call229 rfl (Fc [b.toNat] _ h2 hR (by simp)) rfl rfl rfl rfl (fun r h3 ms3 l3 hF=>?_)))))))));obtain⟨l3',rfl,hR3⟩:=hF;have e:FJ [b.toNat]=[b.toNat]:=EV [] hb;rw[e]at hR3;refine Qm rfl (Al (Ao ?_));exact Az rfl rfl (⟨AI l1 (AI l2 l3'),rfl,hR3⟩)
def YL(l:List Nat)(k:Nat):List Value:=[.int .i64 ((l.length:Int)-1-k),.int .u64 ((l.getD (l.length-1-k) 0:Nat):Int)]
theorem RL(g:Nat)(v:Value)(l:List Nat)(h:Hp)(hG:Seg h [] ⟨g,0,none⟩ [v])(hR:RdL Ca 1 h [] v l)(hn2:l.length<=1000000):YO Tryz.prog 270 [.pointer (some ⟨g,0,none⟩)] h l.length (YL l):=by
 intro lp X Y h1 ms hl hY h0;show FnT _ _ #[.func (.yield lp) #[] #[],.pointer (some ⟨g,0,none⟩)] _ _ _;have hG:=hG.le hl;have hR:=hR.up hl;obtain⟨n,hn⟩:∃n,l.length=n:=⟨_,rfl⟩
 rw[hn]at hn2 hY;refine Ap func270 ntmps270 rfl rfl (fun w0 hw0=>?_);simp only[AU];refine Ac (Da (Dh (oL rfl BJ ((hG.at0 rfl).any)) rfl rfl rfl (Dh (Ar hR.rd.any rfl BJ rfl) rfl rfl rfl (Dh (oS rfl) rfl rfl rfl (Dh (FC rfl rfl) rfl rfl rfl (Fk (Ab (Af ?_))))))))
 refine Ax (fun q s hh ms'=>∃(k:Nat),q=n-k/\s=[(0,.func (.yield lp) #[] #[]),(1,.pointer (some ⟨g,0,none⟩)),(3,.int .i64 ((n:Int)-1-k))]/\h1.le hh/\k<=n/\X k hh ms')
  (n-0) [(0,.func (.yield lp) #[] #[]),(1,.pointer (some ⟨g,0,none⟩)),(3,.int .i64 ((l.length:Int)-1))] ⟨0,rfl,by rw[hn,show((n:Int)-1-(0:Nat))=(n:Int)-1 by omega],DU,by omega,h0⟩ Qs ?_
 rintro q s hh ms' ⟨k,rfl,rfl,lh,hk,hX⟩;refine Ac (Ac (Da (Dh (AA rfl rfl) rfl rfl rfl (Dh (IS rfl rfl rfl) rfl rfl rfl (Fk (Ab ?_))))));refine Av rfl (fun hlt=>?_) (fun hlt=>?_)
 ·have hkn:k<n:=by omega
  have hG2:=hG.le lh;have hR2:=hR.up lh;have hi:n-1-k<l.length:=by omega
  have hc:∀ms,Cell hh ms ((AF v).add ((n-1-k)*1)) (.int .u64 ((l.getD (n-1-k) 0:Nat):Int)):=fun ms=>by rw[show l.getD (n-1-k) 0=l[n-1-k] by simp[List.getD,hi]];exact(hR2.any (ms:=ms)).cell0 hi rfl
  refine Ag (Ab (Ac (Af (Ac (Da (Dh (AA rfl rfl) rfl rfl rfl (Dh (AA rfl rfl) rfl rfl rfl (Dh (oL rfl BJ ((hG2.at0 rfl).any)) rfl rfl rfl (Dh (AA rfl rfl) rfl rfl rfl (Dh (BU (n-1-k) hR2.rd.any rfl BJ B6 rfl rfl) rfl rfl rfl (Dh (oL rfl Fl (hc _)) rfl rfl rfl ?_)))))))))));have hyk:=hY k hh ms' hkn lh hX;unfold YL at hyk;rw[hn]at hyk;refine N5 rfl rfl rfl (hyk) rfl rfl rfl (fun r h2 ms2 l2 hr=>?_);rcases hr with ⟨rfl,hX2⟩|⟨rfl,hX2⟩
  ·refine Dh (GL rfl rfl) rfl rfl rfl (Fk (Ab (AM rfl (Ag (Ai (Ab (Da (Dh (AA rfl rfl) rfl rfl rfl (Dh (oS rfl) rfl rfl rfl (Dh (FC rfl rfl) rfl rfl rfl (Fk ?_)))))))))));refine Ak (n-(k+1)) [(0,.func (.yield lp) #[] #[]),(1,.pointer (some ⟨g,0,none⟩)),(3,.int .i64 ((n:Int)-1-k-1))] (by omega) ⟨k+1,rfl,by rw[show((n:Int)-1-k-1)=(n:Int)-1-(k+1:Nat) by omega],AI lh l2,by omega,hX2⟩ Qs
  ·refine Dh (GL rfl rfl) rfl rfl rfl (Fk (Ab (B3 rfl (Ao (Am (Ah (Ah (Am ?_))))))));exact Fg rfl (.inr ⟨k,by omega,hX2⟩)
 ·obtain rfl:k=n:=by omega
  refine As (Aa (Aa (Ae ?_)));exact BO rfl (.inl (by rw[hn];exact hX))
theorem Oh(v:Value)(n:Nat)(cs:List Value)(h:Hp)(hR:Rd h [] v 1 n cs):FnT Tryz.prog 230 #[v] h [] (fun r h' ms'=>h=h'/\∃g,r=.func (.func 270) #[] #[.pointer (some ⟨g,0,none⟩)]/\ms'=[Bi g 225 [v]]):=by refine Ap func230 ntmps230 rfl rfl (fun w0 hw0=>?_);simp only[AU];refine Au (AX [_] rfl rfl (Rd.cells ‹_›) rfl rfl rfl (fun g1=>Qm rfl (BL (Qx (BH rfl rfl rfl) rfl (Qm rfl (Al (Ao ?_)))))));exact Az rfl rfl (⟨rfl,_,rfl,rfl⟩)
def Ht(n:Nat):List UInt8:=if n=0 then [] else [UInt8.ofNat n]
def Gl(n:Nat):List Nat:=if n=0 then [] else [n]
theorem JM(n:Nat):(Gl n).length<=1:=by unfold Gl;split<;>simp
def b4(n k:Nat):List UInt8:=if k=0 then [] else [0,0,0,UInt8.ofNat n]
theorem WU:∀a:UInt8,∀c∈Ym a,c.oneCell'=true:=fun a c hc=>by unfold Ym at hc;rw[List.mem_singleton]at hc;subst hc;rfl
theorem MA(l:List Nat)(neg:Bool)(v:Value)(n:Nat)(hn:n<256)(hs:FJ l=Gl n)(h:Hp)(R:RdL Ca 1 h [] v l)(hl:l.length<=1000) :
  FnT Tryz.prog 186 #[v,.bool neg] h [] (fun r h' ms'=>h.le h'/\ms'=[]/\r=.agg #[.bool (neg&&decide (Ht n≠[])),sv (Ht n)]):=by
 have ov:=R.rd.one;refine LQ func186 ntmps186 rfl rfl (fun w0 hw0=>?_);simp only[AU];refine Au (CN [.bool false,.string ByteArray.empty] rfl Cd rfl rfl (fun g4=>BL (Qm rfl (Qc call229 rfl (Fc l v h R (by omega)) (fun r h1 ms1 l1 hF=>?_)))));obtain⟨l1',rfl,hR1⟩:=hF;rw[hs]at hR1;have or_:=hR1.rd.one;obtain⟨W,hW⟩:∃W,Gl n=W:=⟨_,rfl⟩
 have hWl:W.length<=1:=by rw[<-hW];exact JM n
 rw[hW]at hR1;refine Qm rfl (BL (Qm rfl (Qx (Ar hR1.rd.any rfl BJ rfl) rfl (Qx (oM rfl) rfl (VC (n:=0) (cp:=4*W.length) rfl VW el5 rfl rfl rfl rfl (by omega) (by omega) (by omega) (by omega) rfl rfl rfl (fun g14=>CN [.slice none 0 0] rfl YQ rfl rfl (fun g5=>AK 0 0 rfl YQ rfl rfl (by rfl) rfl rfl (by decide) rfl rfl (Al (Ac (Au (Qm rfl (Qc call230 rfl (Oh r W.length _ h1 hR1.rd) (fun vf h2 ms2 l2 hF=>?_)))))))))))));obtain⟨rfl,gb,rfl,rfl⟩:=hF;refine Al (Af (AD fun h2 l2 hGb=>?_));have hR2:=hR1.up l2;have hI:=RL gb r W h2 hGb hR2 (by omega);refine Hb (fun k hh ms=>∃bv m,ms=[Bi g5 23 [bv],m,Bi g4 172 [.bool false,.string ByteArray.empty]]/\OwnL Ym 1 5 m bv (b4 n k)) (fun k hh ms=>False) (fun k s1 hh ms=>∃bv m,s1=[(1,.bool neg),(4,.pointer (some ⟨g4,0,none⟩)),(5,.pointer (some ⟨g5,0,none⟩)),(7,.int .u64 (n:Int))]/\ms=[Bi g5 23 [bv],m,Bi g4 172 [.bool false,.string ByteArray.empty]]/\OwnL Ym 1 5 m bv (b4 n k)) rfl call270 hI (fun k=>rfl) rfl ?_ ?_ ?_ ?_ ?_
 ·exact⟨_,_,rfl,⟨⟨by simp[b4],.inr ⟨g14,4*W.length,replicate (4*W.length) (.int .u8 0),rfl,by simp[b4],by simp[b4],by simp[b4],by show 4*W.length<=_;omega⟩⟩,Rl⟩⟩
 ·rintro w1 k hh ms1 hk lh ⟨bv,m,rfl,hO⟩;have hk0:k=0:=by omega
  subst hk0;have hn0:n≠0:=by rintro rfl;rw[<-hW]at hk;simp[Gl]at hk
  have hWn:W=[n]:=by rw[<-hW];simp[Gl,hn0]
  have he:YL W 0=[.int .i64 0,.int .u64 (n:Int)]:=by rw[hWn];rfl
  rw[he];refine D3 (by kernel_rfl) (Qm rfl (Aj ?_));exact AC _ ⟨bv,m,rfl,rfl,hO⟩ Qs
 ·rintro w1 k s1 hh ms1 hk lh ⟨bv,m,rfl,rfl,hO⟩;have hk0:k=0:=by omega
  subst hk0;have c24:IntKind.u8.wrap ((n/2^24:Nat):Int)=(((0:UInt8).toNat:Nat):Int):=by rw[Nat.div_eq_of_lt (by omega)];rfl
  have c16:IntKind.u8.wrap ((n/2^16:Nat):Int)=(((0:UInt8).toNat:Nat):Int):=by rw[Nat.div_eq_of_lt (by omega)];rfl
  have c8:IntKind.u8.wrap ((n/2^8:Nat):Int)=(((0:UInt8).toNat:Nat):Int):=by rw[Nat.div_eq_of_lt (by omega)];rfl
  have c0:IntKind.u8.wrap (n:Int)=(((UInt8.ofNat n).toNat:Nat):Int):=by simp[IntKind.wrap,IntKind.bits,IntKind.signed]
  have ovb:=hO.o1;refine NZ (D3 (by kernel_rfl) (Ql rfl VW (Cell.blk0 0 rfl rfl) (Qm rfl (Qx (Dr (n:=24) rfl rfl rfl (by omega)) rfl (Qx (H8 c24 rfl Fl U5 rfl) rfl (Qm rfl (Qx (Dr (n:=16) rfl rfl rfl (by omega)) rfl (Qx (H8 c16 rfl Fl U5 rfl) rfl (Qm rfl (Qx (Dr (n:=8) rfl rfl rfl (by omega)) rfl (Qx (H8 c8 rfl Fl U5 rfl) rfl (Qm rfl (Qx (H8 c0 rfl Fl U5 rfl) rfl (Aq [(0,_),(1,_),(2,_),(3,_)] [.int .u8 0,.int .u8 0,.int .u8 0,.int .u8 0] [_,_,_,_] rfl VW el5 rfl (by omega) (by kernel_rfl) Qt rfl rfl rfl rfl (fun g31=>AZ 2 hO (⟨Rd.blk (n:=4) (c:=4) Mh rfl (Nat.le_refl _) (by omega),Rl⟩:RdL Ym 1 _ _ _ [(0:UInt8),0,0,UInt8.ofNat n]) rfl VW el5 rfl (by omega) rfl rfl rfl (fun a _=>WU a) (by simp[b4]) (by simp[b4]) rfl rfl rfl (fun v32 m' hO'=>?_))))))))))))))));have ov32:=hO'.o1;refine AK 1 0 rfl YQ rfl rfl (by assumption) rfl rfl (by(simp;done)) rfl rfl ?_;refine Aj (Ai (AL ?_));exact AC [] ⟨v32,m',rfl,hO'⟩ trivial
 ·rintro D hh ms1 lh ⟨bv,m,rfl,hO⟩;have hRb:=(hO.rd (h:=hh) (ms:=[Bi g5 23 [bv],m,Bi g4 172 [.bool false,.string ByteArray.empty]]++[Mk D]) (.tail _ (.head _))).rd
  have ht:Lib.trimLeftB (b4 n W.length) 0=Ht n:=by
   rw[<-hW];unfold Gl Ht b4;by_cases h0:n=0
   ·subst h0;rfl
   ·rw[if_neg h0,if_neg h0,if_neg (by simp)]
    have:UInt8.ofNat n≠0:=fun e=>h0 (by
     have:=congrArg UInt8.toNat e
     simp at this;omega)
    simp[Lib.trimLeftB,this]
  have osv:(sv (Ht n)).oneCell'=true:=rfl;refine Ai (Ab (Au (Ql rfl VW (Cell.blk0 0 rfl rfl) (Qx (UO hRb rfl rfl VW U5 U9 rfl) rfl ?_))));refine Qx (AO rfl call231 rfl (FnV.ofCalls (v:=sv (Ht n)) (fun w=>(Tryz.strings_TrimLeft_one ⟨(b4 n W.length).toArray⟩ 0 (by decide) w).mono fun e w' h=>by rw[<-ht];exact h))) rfl ?_;refine Qm rfl (BL (Qm rfl (Qm rfl ?_)));refine Li (t:=37) rfl (fun hneg=>?_) (fun hneg=>?_)
  ·refine Qg (AA rfl rfl) rfl (Qg (R4 (l':=[]) rfl rfl rfl) rfl (Qm rfl (Qm rfl (Qx (Bf Yc [.bool false,.string ByteArray.empty] [(0,_),(1,_)] [_,_] rfl Cd rfl rfl Qt rfl) rfl ?_))));refine Sa 2 [_,_] Cd rfl (by simp[osv]) ?_;refine Al (Ao ?_);refine AL (AL ?_);refine JA 1 (.inr rfl) rfl ?_;exact Bs (vs:=[_,_]) 0 rfl rfl J1 rfl Cd rfl rfl (⟨AI l1' (AI l2 lh),rfl,by rw[hneg];rfl⟩)
  ·refine Qk rfl (Qk rfl (Qm rfl (Qm rfl (Qx (Bf Yc [.bool false,.string ByteArray.empty] [(0,_),(1,_)] [_,_] rfl Cd rfl rfl Qt rfl) rfl ?_))));refine Sa 2 [_,_] Cd rfl (by simp[osv]) ?_;refine Al (Ao ?_);refine AL (AL ?_);refine JA 1 (.inr rfl) rfl ?_;exact Bs (vs:=[_,_]) 0 rfl rfl J1 rfl Cd rfl rfl (⟨AI l1' (AI l2 lh),rfl,by rw[hneg];rfl⟩)
 ·rintro D k hh ms1 hk lh hF;exact hF.elim
def WD(n:Int):Value:=.agg #[.bool (decide (n<0)),sv (Ht n.natAbs)]
theorem bys_ne{n:Nat}:Ht n≠[]<->n≠0:=by unfold Ht;split<;>simp[*]
theorem LW(n:Nat):FJ [n,0]=Gl n:=by
 rw[show [n,0]=[n]++[0] from rfl,KQ];unfold Gl;split
 ·rename_i h;subst h;rfl
 ·rename_i h;exact EV [] h
theorem Xz(n:Int)(hn:-256<n/\n<256)(h:Hp):FnT Tryz.prog 126 #[.int .i64 n] h [] (fun r h' ms'=>h.le h'/\ms'=[]/\r=WD n):=by
 obtain⟨m,hm⟩:∃m,n.natAbs=m:=⟨_,rfl⟩
 have hm2:m<256:=by omega
 refine Ap func126 ntmps126 rfl rfl (fun w0 hw0=>?_);simp only[AU];refine Au (CN [.bool false,.string ByteArray.empty] rfl Cd rfl rfl (fun g2=>BL (Qm rfl (Qx (BZ rfl U3 Fl rfl) rfl (Qm rfl (Al ?_))))));refine Bb (fun sl h' ms'=>sl=[(0,.int .i64 n),(2,.pointer (some ⟨g2,0,none⟩)),(3,.int .u64 (m:Int))]/\h=h'/\ms'=[Bi g2 172 [.bool false,.string ByteArray.empty]]) ?_ (fun s h ms hI=>?_)
 ·have e9:IntKind.u64.wrap (-(IntKind.u64.wrap n))=(m:Int)\/¬n<0:=by
   by_cases h0:n<0
   ·refine .inl ?_;simp only[IntKind.wrap,IntKind.bits,IntKind.signed];simp;omega
   ·exact .inr h0
  refine Au (Qm rfl (Qm rfl (Al ?_)));refine Av rfl (fun hlt=>?_) (fun hlt=>?_)
  ·have e9:IntKind.u64.wrap (-(IntKind.u64.wrap n))=(m:Int):=e9.resolve_right (fun h=>h hlt);refine Ad (Qm rfl (Qx (XF e9 rfl rfl) rfl (Qm rfl (Aj ?_))));exact AC _ ⟨rfl,rfl,rfl⟩ Qs
  ·have e3:IntKind.u64.wrap n=(m:Int):=by rw[DS (by omega)];omega
   refine Ag ?_;exact AC _ ⟨rfl,rfl,rfl⟩ (by rw[<-e3];exact Qs)
 ·obtain⟨rfl,rfl,rfl⟩:=hI
  have ea:((m &&& 4294967295:Nat):Int)=(m:Int):=by have:=Nat.and_two_pow_sub_one_eq_mod m 32;rw[show(2^32-1:Nat)=4294967295 from rfl,Nat.mod_eq_of_lt (by omega)]at this;rw[this]
  have es:((m/2^32:Nat):Int)=((0:Nat):Int):=by rw[Nat.div_eq_of_lt (by omega)]
  refine Au (Qm rfl (Qx (Ju ea rfl rfl rfl (by omega) (by omega)) rfl (Qm rfl (Qx (JR es rfl rfl rfl (by omega)) rfl (Aq [(0,_),(1,_)] [.int .u64 0,.int .u64 0] [_,_] rfl BJ B6 rfl (by omega) (by kernel_rfl) Qt rfl rfl rfl rfl (fun g14=>Qm rfl (Qm rfl (Dx fun h3 l3 hS=>?_))))))));have hR:RdL Ca 1 h3 [] (.slice (some ⟨g14,0,none⟩) 2 2) [m,0]:=⟨⟨⟨_,_,rfl,Nat.le_refl _,by decide,rfl,fun _=>⟨_,rfl,hS⟩⟩⟩,Dn⟩
  refine Qc call186 rfl (MA [m,0] (decide (n<0)) _ m hm2 (LW m) h3 hR (by simp)) (fun r h4 ms4 l4 hF=>?_);obtain⟨l4',rfl,rfl⟩:=hF;have osv:(sv (Ht m)).oneCell'=true:=rfl
  have eW:Value.agg #[.bool (decide (n<0)&&decide (Ht m≠[])),sv (Ht m)]=WD n:=by
   unfold WD
   have:(decide (n<0)&&decide (Ht m≠[]))=decide (n<0):=by
    by_cases h0:n<0
    ·have:Ht m≠[]:=bys_ne.2 (by omega);simp[h0,this]
    ·simp[h0]
   rw[this,hm]
  refine Sa 0 [_,_] Cd rfl (by simp[osv]) ?_;refine Al (Ao ?_);exact Bs (vs:=[_,_]) 0 rfl rfl J1 rfl Cd rfl rfl (⟨AI l3 l4',rfl,eW⟩)
theorem UR(n:Int)(hn:-256<n/\n<256)(h:Hp)(ms:List Hp):FnV Tryz.prog 126 #[.int .i64 n] h ms (WD n):=Gf ((Xz n hn h).mono fun _ _ _ h=>h.2.2) ms
theorem PL(n:Int)(hn:-256<n/\n<256)(h:Hp):FnT Tryz.prog 187 #[WD n] h [] (fun r h' ms'=>h.le h'/\ms'=[]/\RdL Ca 1 h' [] r (Gl n.natAbs)):=by
 unfold WD;by_cases h0:n.natAbs=0
 ·have e1:Ht n.natAbs=[]:=by unfold Ht;rw[if_pos h0]
  have e2:Gl n.natAbs=[]:=by unfold Gl;rw[if_pos h0]
  rw[e1,e2];exact XL _ h
 ·have e1:Ht n.natAbs=[UInt8.ofNat n.natAbs]:=by unfold Ht;rw[if_neg h0]
  have e3:(UInt8.ofNat n.natAbs).toNat=n.natAbs:=by simp;omega
  have e2:Gl n.natAbs=[(UInt8.ofNat n.natAbs).toNat]:=by unfold Gl;rw[if_neg h0,e3]
  rw[e1,e2];exact WY _ _ (by omega) h
theorem Gc{m:Nat}(h:m≠0):Gl m=[m]:=if_neg h
def RQ(m k:Nat):Int:=if m<k then -1 else if k<m then 1 else 0
theorem Xp(m k:Nat)(hk:k≠0)(va vb:Value)(h:Hp)(hA:RdL Ca 1 h [] va (Gl m))(hB:RdL Ca 1 h [] vb [k]) :
  FnT Tryz.prog 232 #[va,vb] h [] (fun r _ _=>r=.int .i64 (RQ m k)):=by
 by_cases h0:m=0
 ·have e:Gl m=[]:=if_pos h0;rw[e]at hA;have rA:Rd h [] va 1 0 (([]:List Nat).flatMap Ca):=hA.rd;have rB:Rd h [] vb 1 1 ([k].flatMap Ca):=hB.rd;refine Ap func232 ntmps232 rfl rfl (fun w0 hw0=>?_);simp only[AU];refine Au (Qm rfl (Al (Ac (Af (Au (Qm rfl (Qx (Ar rA.any rfl BJ rfl) rfl (Qm rfl (Qx (Ar rB.any rfl BJ rfl) rfl (Qm rfl (Qm rfl (Al ?_))))))))))));refine Av rfl (fun h1=>?_) (fun h1=>?_)
  ·refine Ac (Ad (Qm rfl (Al (Ao (Am (Ah ?_))))));exact Az rfl rfl (by unfold RQ;rw[if_pos (by omega)])
  ·exact absurd (by decide) h1
 ·rw[Gc h0]at hA;have rA:Rd h [] va 1 1 ([m].flatMap Ca):=hA.rd;have rB:Rd h [] vb 1 1 ([k].flatMap Ca):=hB.rd;have cA:∀ms,Cell h ms ((AF va).add (0*1)) (.int .u64 (m:Int)):=fun ms=>(hA.any (ms:=ms)).cell0 (j:=0) (by simp) rfl;have cB:∀ms,Cell h ms ((AF vb).add (0*1)) (.int .u64 (k:Int)):=fun ms=>(hB.any (ms:=ms)).cell0 (j:=0) (by simp) rfl;refine Ap func232 ntmps232 rfl rfl (fun w0 hw0=>?_);simp only[AU];refine Au (Qm rfl (Al (Ac (Af (Au (Qm rfl (Qx (Ar rA.any rfl BJ rfl) rfl (Qm rfl (Qx (Ar rB.any rfl BJ rfl) rfl (Qm rfl (Qm rfl (Al ?_))))))))))));refine Av rfl (fun h1=>?_) (fun h1=>?_)
  ·exact absurd h1 (by decide)
  ·refine Ac (Ad (Qm rfl (Qx (Ar rA.any rfl BJ rfl) rfl (Qm rfl (Qx (Ar rB.any rfl BJ rfl) rfl (Qm rfl (Qm rfl (Al ?_))))))));refine Av rfl (fun h2=>?_) (fun h2=>?_)
   ·exact absurd h2 (by decide)
   ·refine Ag (Ai (Ab (Ac (Au (Qm rfl (Qx (Ar rA.any rfl BJ rfl) rfl (Qx (oS rfl) rfl (Qm rfl (Al (Af ?_))))))))));refine Ax (fun q sl h' ms'=>∃i:Nat,i=q/\sl=[(0,va),(1,vb),(5,.int .i64 ((i:Int)-1))]/\h=h'/\ms'=[]/\i<=1/\(i=0->m=k)) 1 _ ⟨1,rfl,rfl,rfl,rfl,by omega,by omega⟩ Qs ?_;rintro q sl h' ms' ⟨i,rfl,rfl,rfl,rfl,hi,hk0⟩;refine Ac (Au (Qm rfl (Qm rfl (Al ?_))));refine Av rfl (fun hlt=>?_) (fun hlt=>?_)
    ·have hi1:i=1:=by omega
     subst hi1;refine Ag (Ab (Ac (Af (Af (Ac (Bg 8 CY (by kernel_rfl) rfl (Wm rfl (Wm rfl (AP (AB _ rA.any rfl BJ B6 rfl rfl rfl (by omega)) rfl rfl (Wl rfl Fl (cA _) (Wm rfl (Wm rfl (AP (AB _ rB.any rfl BJ B6 rfl rfl rfl (by omega)) rfl rfl (Wl rfl Fl (cB _) (Bc (Qm rfl (Qm rfl (Al ?_))))))))))))))))));refine Av rfl (fun h3=>?_) (fun h3=>?_)
     ·refine Ac (Ad (Qm rfl (Al (Ao (Am (Am (Ah (Ah (Am (Ah ?_))))))))));exact Az rfl rfl (by unfold RQ;rw[if_pos (by omega)])
     ·refine Ac (Bg 8 CY (by kernel_rfl) rfl (Wm rfl (Wm rfl (AP (AB _ rA.any rfl BJ B6 rfl rfl rfl (by omega)) rfl rfl (Wl rfl Fl (cA _) (Wm rfl (Wm rfl (AP (AB _ rB.any rfl BJ B6 rfl rfl rfl (by omega)) rfl rfl (Wl rfl Fl (cB _) (Bc (Qm rfl (Qm rfl (Al ?_)))))))))))));refine Av rfl (fun h4=>?_) (fun h4=>?_)
      ·refine Ac (Ad (Qm rfl (Al (Ao (Am (Am (Ah (Ah (Am (Ah ?_))))))))));exact Az rfl rfl (by unfold RQ;rw[if_neg (by omega),if_pos (by omega)])
      ·refine Ag (Ai (Ai (Ab (Ad (Qm rfl (Qx (oS rfl) rfl (Qm rfl (Aj ?_))))))));exact Ak 0 _ (by omega) ⟨0,rfl,rfl,rfl,rfl,by omega,fun _=>by omega⟩ Qs
    ·have hi1:i=0:=by omega
     subst hi1;have:=hk0 rfl;refine As (Aa (Aa (Ae (Ab (Au (Qm rfl (Al (Ao ?_))))))));exact Az rfl rfl (by unfold RQ;rw[if_neg (by omega),if_neg (by omega)])
theorem IV(n:Nat):FJ [n]=Gl n:=by
 unfold Gl;split
 ·rename_i h;subst h;rfl
 ·rename_i h;exact EV [] h
theorem Vw(m k:Nat)(hm:m<256)(hk:k≠0)(hk2:k<256)(va:Value)(h:Hp)(hA:RdL Ca 1 h [] va (Gl m)) :
  FnT Tryz.prog 233 #[va,.int .u64 (k:Int)] h [] (fun r h' ms'=>h.le h'/\ms'=[]/\∃q,r=.tuple #[q,.int .u64 ((m%k:Nat):Int)]/\RdL Ca 1 h' [] q (Gl (m/k))):=by
 by_cases h0:m=0
 ·subst h0;have rA:Rd h [] va 1 0 (([]:List Nat).flatMap Ca):=hA.rd;refine Ap func233 ntmps233 rfl rfl (fun w0 hw0=>?_);simp only[AU];refine Au (Qm rfl (Qm rfl (BL (Qm rfl (Qx (Ar rA.any rfl BJ rfl) rfl (CB (n:=0) rfl BJ B6 rfl rfl rfl (by rfl) (by rfl) (by omega) (by omega) rfl rfl rfl (fun g11=>Qm rfl (BL (Qm rfl (Al (Ac (Au (Qm rfl (Qx (Ar rA.any rfl BJ rfl) rfl (Qx (oS rfl) rfl (Qm rfl (Al (Af (Ax (fun q sl h' ms'=>q=0/\sl=[(6,.slice (some ⟨g11,0,none⟩) 0 0),(7,.int .u64 0),(8,.int .i64 (-1))]/\h=h'/\ms'=[Bi g11 222 []]) 0 _ ⟨rfl,rfl,rfl,rfl⟩ Qs ?_)))))))))))))))))));rintro q sl h' ms' ⟨rfl,rfl,rfl,rfl⟩;refine Ac (Au (Qm rfl (Qm rfl (Al ?_))));refine Av rfl (fun hlt=>?_) (fun hlt=>?_)
  ·exact absurd hlt (by decide)
  ·refine As (Aa (Aa (Ae (Ab ?_))));have hO:OwnL Ca 1 222 (Bi g11 222 []) (.slice (some ⟨g11,0,none⟩) 0 0) []:=OwnL.blk (l:=([]:List Nat)) 0 Dn rfl (by omega);refine Bq hO fun h2 l2 hR=>(Au (Qm rfl (Qc call229 rfl (Fc [] _ h2 hR (by simp)) (fun r h3 ms3 l3 hF=>?_))))
   obtain⟨l3',rfl,hR3⟩:=hF;refine Qm rfl (Qm rfl (Qm rfl (Al (Ao ?_))));exact BP rfl rfl rfl (⟨AI l2 l3',rfl,_,by rw[Nat.zero_mod];rfl,by rw[Nat.zero_div];exact hR3⟩)
 ·rw[Gc h0]at hA;have rA:Rd h [] va 1 1 ([m].flatMap Ca):=hA.rd;have cA:∀ms,Cell h ms ((AF va).add (0*1)) (.int .u64 (m:Int)):=fun ms=>(hA.any (ms:=ms)).cell0 (j:=0) (by simp) rfl;refine Ap func233 ntmps233 rfl rfl (fun w0 hw0=>?_);simp only[AU];refine Au (Qm rfl (Qm rfl (BL (Qm rfl (Qx (Ar rA.any rfl BJ rfl) rfl (CB (n:=1) rfl BJ B6 rfl rfl rfl (by rfl) (by rfl) (by omega) (by omega) rfl rfl rfl (fun g11=>Qm rfl (BL (Qm rfl (Al (Ac (Au (Qm rfl (Qx (Ar rA.any rfl BJ rfl) rfl (Qx (oS rfl) rfl (Qm rfl (Al (Af ?_))))))))))))))))));refine Ax (fun q sl h' ms'=>∃(i:Nat) (mo:Hp),i=q/\sl=[(0,va),(1,.int .u64 (k:Int)),(6,.slice (some ⟨g11,0,none⟩) 1 1),(7,.int .u64 ((if i=1 then 0 else m%k:Nat):Int)),(8,.int .i64 ((i:Int)-1))]/\h=h'/\ms'=[mo]/\i<=1/\OwnL Ca 1 222 mo (.slice (some ⟨g11,0,none⟩) 1 1) [if i=1 then 0 else m/k]) 1 _ ⟨1,_,rfl,rfl,rfl,rfl,by omega,OwnL.blk (l:=[0]) 1 Dn rfl (by omega)⟩ Qs ?_;rintro q sl h' ms' ⟨i,mo,rfl,rfl,rfl,rfl,hi,hO⟩;refine Ac (Au (Qm rfl (Qm rfl (Al ?_))));refine Av rfl (fun hlt=>?_) (fun hlt=>?_)
  ·have hi1:i=1:=by omega
   subst hi1;rw[if_pos rfl]at hO;simp only[if_true];have e20:((0*2^32%18446744073709551616:Nat):Int)=((0:Nat):Int):=rfl;have e25:((0 ||| m:Nat):Int)=(m:Int):=by rw[Nat.zero_or]
   refine Ag (Ab (Ac (Af (Au (Qm rfl (Qx (Qz e20 rfl rfl rfl (by omega)) rfl (Qm rfl (Qm rfl (Qx (AB _ rA.any rfl BJ B6 rfl rfl rfl (by omega)) rfl (Ql rfl Fl (cA _) (Qx (V1 e25 rfl rfl rfl (by omega) (by omega)) rfl (Qm rfl (Al (BE (n:=11) (bs:=[true,true,true,true,true,true,true,true,true,false,false]) [true,true,true,true,true,true,true,true,true] CY (by kernel_rfl) (by kernel_rfl) rfl rfl (Qq rfl (Qq rfl (Qq rfl (Qq rfl (Qp rfl (Xk rfl rfl rfl (by omega) (by omega)) (Qq rfl (Qq rfl (Qp rfl (Xy rfl rfl rfl (by omega)) (Qp rfl (BF _ rfl BJ B6 rfl rfl rfl (by omega)) ?_)))))))))))))))))))))));unfold Fy;simp only[cons_append,nil_append];refine Qo 9 rfl (Cr (f:=fun n:Nat=>Value.int .u64 (n:Int)) 0 0 (fun _=>rfl) hO rfl B6 rfl rfl rfl rfl (by simp) rfl rfl (fun m' hO'=>Qw (Qo 10 rfl (Qm rfl (Qw (Qe (Ai (Ab (Ad (Qm rfl (Qx (oS rfl) rfl (Qm rfl (Aj ?_)))))))))))));exact Ak 0 _ (by omega) ⟨0,m',rfl,rfl,rfl,rfl,by omega,hO'⟩ Qs
  ·have hi1:i=0:=by omega
   subst hi1;rw[if_neg (by decide)]at hO;refine As (Aa (Aa (Ae (Ab (Bq hO fun h2 l2 hR=>(Au (Qm rfl (Qc call229 rfl (Fc [m/k] _ h2 hR (by simp)) (fun r h3 ms3 l3 hF=>?_)))))))));obtain⟨l3',rfl,hR3⟩:=hF;rw[IV]at hR3;refine Qm rfl (Qm rfl (Qm rfl (Al (Ao ?_))));exact BP rfl rfl rfl (⟨AI l2 l3',rfl,_,rfl,hR3⟩)
theorem NN{n:Nat}(h:n<4294967296):((n &&& 4294967295:Nat):Int)=(n:Int):=by have:=Nat.and_two_pow_sub_one_eq_mod n 32;rw[show(2^32-1:Nat)=4294967295 from rfl,Nat.mod_eq_of_lt (by omega)]at this;rw[this]
theorem Wp(a b:Nat)(hb:b<a)(ha:a<256)(va vb:Value)(h:Hp)(hA:RdL Ca 1 h [] va [a])(hB:RdL Ca 1 h [] vb [b]) :
  FnT Tryz.prog 190 #[va,vb] h [] (fun r h' ms'=>h.le h'/\ms'=[]/\RdL Ca 1 h' [] r (Gl (a-b))):=by
 have rA:Rd h [] va 1 1 ([a].flatMap Ca):=hA.rd;have rB:Rd h [] vb 1 1 ([b].flatMap Ca):=hB.rd;have cA:∀ms,Cell h ms ((AF va).add (0*1)) (.int .u64 (a:Int)):=fun ms=>(hA.any (ms:=ms)).cell0 (j:=0) (by simp) rfl;have cB:∀ms,Cell h ms ((AF vb).add (0*1)) (.int .u64 (b:Int)):=fun ms=>(hB.any (ms:=ms)).cell0 (j:=0) (by simp) rfl;refine Ap func190 ntmps190 rfl rfl (fun w0 hw0=>?_);simp only[AU];refine Au (Qm rfl (BL (Qm rfl (Qx (Ar rA.any rfl BJ rfl) rfl (CB (n:=1) rfl BJ B6 rfl rfl rfl (by rfl) (by rfl) (by omega) (by omega) rfl rfl rfl (fun g11=>Qm rfl (BL (Qm rfl (Al (Ac (Au (Qm rfl (Qx (Ar rA.any rfl BJ rfl) rfl (Qm rfl (Al (Af ?_))))))))))))))));refine Ax (fun q sl h' ms'=>∃(i:Nat) (mo:Hp),1-i=q/\sl=[(0,va),(1,vb),(5,.slice (some ⟨g11,0,none⟩) 1 1),(6,.int .u64 0),(13,.int .i64 ((1:Nat):Int)),(14,.int .i64 i)]/\h=h'/\ms'=[mo]/\i<=1/\OwnL Ca 1 222 mo (.slice (some ⟨g11,0,none⟩) 1 1) [if i=0 then 0 else a-b]) 1 _ ⟨0,_,rfl,rfl,rfl,rfl,by omega,OwnL.blk (l:=[0]) 1 Dn rfl (by omega)⟩ Qs ?_;rintro q sl h' ms' ⟨i,mo,rfl,rfl,rfl,rfl,hi,hO⟩;refine Au (Qm rfl (Al (Ac ?_)));refine Av rfl (fun hlt=>?_) (fun hlt=>?_)
 ·have hi0:i=0:=by omega
  subst hi0;rw[if_pos rfl]at hO;have e22:IntKind.u64.wrap ((a:Int)-((0:Nat):Int))=(a:Int):=by rw[DS (by omega)];omega
  refine Ag (Ab (Ac (Af (Au (Qm rfl (Qm rfl (BL (Qm rfl (Qm rfl (Qx (AB _ rA.any rfl BJ B6 rfl rfl rfl (by omega)) rfl (Ql rfl Fl (cA _) (Qm rfl (Qx (Rc (b:=0) e22 rfl rfl rfl) rfl (Qm rfl (Al (Ac (Au (Qm rfl (Qm rfl (Qx (Ar rB.any rfl BJ rfl) rfl (Qm rfl (Al ?_))))))))))))))))))))));refine Av rfl (fun h2=>?_) (fun h2=>?_)
  ·have e32:IntKind.u64.wrap ((a:Int)-(b:Int))=((a-b:Nat):Int):=by rw[DS (by omega)];omega
   have em:=NN (n:=a-b) (by omega);have e38:(((a-b)/2^63:Nat):Int)=((0:Nat):Int):=by rw[Nat.div_eq_of_lt (by omega)]
   refine Ad (Qm rfl (Qm rfl (Qm rfl (Qx (AB _ rB.any rfl BJ B6 rfl rfl rfl (by omega)) rfl (Ql rfl Fl (cB _) (Qx (Rc e32 rfl rfl rfl) rfl (Qm rfl (Gn (Qm rfl (Qm rfl (Qm rfl (Qx (Ju em rfl rfl rfl (by omega) (by omega)) rfl (Qm rfl (Qx (JR (n:=63) e38 rfl rfl rfl (by omega)) rfl (Qx (BF _ rfl BJ B6 rfl rfl rfl (by omega)) rfl (Cr (f:=fun n:Nat=>Value.int .u64 (n:Int)) 0 0 (fun _=>rfl) hO rfl B6 rfl rfl rfl rfl (by simp) rfl rfl (fun m' hO'=>Qm rfl (Aj (Ai (Ab (Ad (Qx (oA rfl) rfl (Qm rfl (Aj ?_))))))))))))))))))))))));exact Ak 0 _ (by omega) ⟨1,m',rfl,rfl,rfl,rfl,by omega,hO'⟩ Qs
  ·exact absurd (by decide) h2
 ·have hi1:i=1:=by omega
  subst hi1;rw[if_neg (by decide)]at hO;refine As (Aa (Aa (Ae (Ab (Bq hO fun h2 l2 hR=>(Au (Qm rfl (Qc call229 rfl (Fc [a-b] _ h2 hR (by simp)) (fun r h3 ms3 l3 hF=>?_)))))))));obtain⟨l3',rfl,hR3⟩:=hF;rw[IV]at hR3;refine Qm rfl (Al (Ao ?_));exact Az rfl rfl (⟨AI l2 l3',rfl,hR3⟩)
theorem WC(m:Nat)(hm:m<256)(va vb:Value)(h:Hp)(hA:RdL Ca 1 h [] va (Gl m))(hB:RdL Ca 1 h [] vb [1]) :
  FnT Tryz.prog 189 #[va,vb] h [] (fun r h' ms'=>h.le h'/\ms'=[]/\RdL Ca 1 h' [] r (Gl (m+1))):=by
 refine Ap func189 ntmps189 rfl rfl (fun w0 hw0=>?_);simp only[AU];refine Au (Qm rfl (Al ?_));refine Bb (fun sl h' ms'=>∃(u w:Value) (x:Nat) (W:List Nat),sl=[(0,u),(1,w)]/\h=h'/\ms'=[]/\RdL Ca 1 h [] u [x]/\RdL Ca 1 h [] w W/\x<257/\((W=[]/\x=m+1)\/∃y,W=[y]/\y<256/\x+y=m+1)) ?_ (fun s h ms hI=>?_)
 ·by_cases h0:m=0
  ·have e:Gl m=[]:=if_pos h0;rw[e]at hA;have rA:Rd h [] va 1 0 (([]:List Nat).flatMap Ca):=hA.rd;have rB:Rd h [] vb 1 1 (([1]:List Nat).flatMap Ca):=hB.rd;refine Au (Qm rfl (Qx (Ar rA.any rfl BJ rfl) rfl (Qm rfl (Qx (Ar rB.any rfl BJ rfl) rfl (Qm rfl (Al ?_))))));refine Av rfl (fun h1=>?_) (fun h1=>?_)
   ·refine Ad (Qm rfl (Qm rfl (Qm rfl (Qm rfl (Aj ?_)))));exact AC _ ⟨vb,va,1,[],rfl,rfl,rfl,hB,hA,by omega,.inl ⟨rfl,by omega⟩⟩ Qs
   ·exact absurd (by decide) h1
  ·rw[Gc h0]at hA;have rA:Rd h [] va 1 1 (([m]:List Nat).flatMap Ca):=hA.rd;have rB:Rd h [] vb 1 1 (([1]:List Nat).flatMap Ca):=hB.rd;refine Au (Qm rfl (Qx (Ar rA.any rfl BJ rfl) rfl (Qm rfl (Qx (Ar rB.any rfl BJ rfl) rfl (Qm rfl (Al ?_))))));refine Av rfl (fun h1=>?_) (fun h1=>?_)
   ·exact absurd h1 (by decide)
   ·refine Ag ?_;exact AC _ ⟨va,vb,m,[1],rfl,rfl,rfl,hA,hB,by omega,.inr ⟨1,rfl,by omega,by omega⟩⟩ Qs
 ·obtain⟨u,w,x,W,rfl,rfl,rfl,hU,hW,hx,hc⟩:=hI;have rU:Rd h [] u 1 1 ([x].flatMap Ca):=hU.rd;have cA:∀ms,Cell h ms ((AF u).add (0*1)) (.int .u64 (x:Int)):=fun ms=>(hU.any (ms:=ms)).cell0 (j:=0) (by simp) rfl;have hWl:W.length<=1:=by rcases hc with ⟨rfl,_⟩|⟨y,rfl,_⟩<;>simp
  refine Au (Qm rfl (Qx (Ar rU.any rfl BJ rfl) rfl (Qx (oA rfl) rfl (CB (n:=2) rfl BJ B6 rfl rfl rfl (by rfl) (by rfl) (by omega) (by omega) rfl rfl rfl (fun g19=>Qm rfl (BL (Qm rfl (Al (Ac (Au (Qm rfl (Qx (Ar rU.any rfl BJ rfl) rfl (Qm rfl (Al (Af ?_)))))))))))))));refine Ax (fun q sl h' ms'=>∃(i:Nat) (mo:Hp),1-i=q/\sl=[(0,u),(1,w),(5,.slice (some ⟨g19,0,none⟩) 2 2),(6,.int .u64 0),(21,.int .i64 ((1:Nat):Int)),(22,.int .i64 i)]/\h=h'/\ms'=[mo]/\i<=1/\OwnL Ca 1 222 mo (.slice (some ⟨g19,0,none⟩) 2 2) [if i=0 then 0 else m+1,0]) 1 _ ⟨0,_,rfl,rfl,rfl,rfl,by omega,OwnL.blk (l:=[0,0]) 2 Dn rfl (by omega)⟩ Qs ?_;rintro q sl h' ms' ⟨i,mo,rfl,rfl,rfl,rfl,hi,hO⟩;refine Au (Qm rfl (Al (Ac ?_)));refine Av rfl (fun hlt=>?_) (fun hlt=>?_)
  ·have hi0:i=0:=by omega
   subst hi0;rw[if_pos rfl]at hO;have e30:IntKind.u64.wrap ((x:Int)+((0:Nat):Int))=(x:Int):=by rw[DS (by omega)];omega
   have em:=NN (n:=m+1) (by omega);have e46:((m+1)/2^32:Nat)=0:=Nat.div_eq_of_lt (by omega);have e46':(((m+1)/2^32:Nat):Int)=((0:Nat):Int):=by rw[e46]
   refine Ag (Ab (Ac (Af (Au (Qm rfl (Qm rfl (BL (Qm rfl (Qm rfl (Qx (BU (0) rU.any rfl BJ B6 rfl rfl) rfl (Ql rfl Fl (cA _) (Qm rfl (Qx (PW (b:=0) e30 rfl rfl rfl) rfl (Qm rfl (Al (Ac (Au (Qm rfl (Qm rfl (Qx (Ar hW.rd.any rfl BJ rfl) rfl (Qm rfl (Al ?_))))))))))))))))))))));refine Av rfl (fun h2=>?_) (fun h2=>?_)
   ·obtain⟨y,rfl,hy,hs⟩:∃y,W=[y]/\y<256/\x+y=m+1:=by
     rcases hc with ⟨rfl,_⟩|h
     ·exact absurd h2 (by decide)
     ·exact h
    have cB:∀ms,Cell h ms ((AF w).add (0*1)) (.int .u64 (y:Int)):=fun ms=>(hW.any (ms:=ms)).cell0 (j:=0) (by simp) rfl;have e40:IntKind.u64.wrap ((x:Int)+(y:Int))=((m+1:Nat):Int):=by rw[DS (by omega)];omega
    refine Ad (Qm rfl (Qm rfl (Qm rfl (Qx (BU (0) hW.rd.any rfl BJ B6 rfl rfl) rfl (Ql rfl Fl (cB _) (Qx (PW e40 rfl rfl rfl) rfl (Qm rfl (Gn (Qm rfl (Qm rfl (Qm rfl (Qx (Ju em rfl rfl rfl (by omega) (by omega)) rfl (Qm rfl (Qx (JR (n:=32) e46' rfl rfl rfl (by omega)) rfl (Qx (BF (0) rfl BJ B6 rfl rfl (by omega) (by omega)) rfl (Cr (f:=fun n:Nat=>Value.int .u64 (n:Int)) 0 0 (fun _=>rfl) hO rfl B6 rfl rfl rfl rfl (by simp) rfl rfl (fun m' hO'=>Qm rfl (Aj (Ai (Ab (Ad (Qx (oA rfl) rfl (Qm rfl (Aj ?_))))))))))))))))))))))));exact Ak 0 _ (by omega) ⟨1,m',rfl,rfl,rfl,rfl,by omega,hO'⟩ Qs
   ·obtain⟨rfl,hs⟩:W=[]/\x=m+1:=by
     rcases hc with h|⟨y,rfl,_⟩
     ·exact h
     ·exact absurd (by simp) h2
    subst hs;refine Ag (Ab (Ad (Qm rfl (Qm rfl (Qm rfl (Qx (Ju em rfl rfl rfl (by omega) (by omega)) rfl (Qm rfl (Qx (JR (n:=32) e46' rfl rfl rfl (by omega)) rfl (Qx (BF (0) rfl BJ B6 rfl rfl (by omega) (by omega)) rfl (Cr (f:=fun n:Nat=>Value.int .u64 (n:Int)) 0 0 (fun _=>rfl) hO rfl B6 rfl rfl rfl rfl (by simp) rfl rfl (fun m' hO'=>Qm rfl (Aj (Ai (Ab (Ad (Qx (oA rfl) rfl (Qm rfl (Aj ?_))))))))))))))))));exact Ak 0 _ (by omega) ⟨1,m',rfl,rfl,rfl,rfl,by omega,hO'⟩ Qs
  ·have hi1:i=1:=by omega
   subst hi1;rw[if_neg (by decide)]at hO;refine As (Aa (Aa (Ae (Ab (Au (Qm rfl (Qm rfl (Qx (Ar rU.any rfl BJ rfl) rfl (Qm rfl (Qx (BF (1) rfl BJ B6 rfl rfl (by omega) (by omega)) rfl (Cr (f:=fun n:Nat=>Value.int .u64 (n:Int)) (a:=0) 0 1 (fun _=>rfl) hO rfl B6 rfl rfl rfl rfl (by simp) rfl rfl (fun m' hO'=>Al (Bq hO' fun h2 l2 hR=>(Au (Qm rfl (Qc call229 rfl (Fc [m+1,0] _ h2 hR (by simp)) (fun r h3 ms3 l3 hF=>?_)))))))))))))))));obtain⟨l3',rfl,hR3⟩:=hF;rw[LW]at hR3;refine Qm rfl (Al (Ao ?_));exact Az rfl rfl (⟨AI l2 l3',rfl,hR3⟩)
theorem Wq(h:Hp)(ms:List Hp):RdL Ca 1 h ms (.slice none 0 0) []:=⟨⟨⟨none,0,rfl,Nat.le_refl _,by decide,rfl,fun h=>absurd h (by decide)⟩⟩,Dn⟩
theorem X8(m k:Nat)(hm:m<256)(hk:k≠0)(hk2:k<256)(va vb:Value)(h:Hp)(hA:RdL Ca 1 h [] va (Gl m))(hB:RdL Ca 1 h [] vb [k]) :
  FnT Tryz.prog 188 #[va,vb] h [] (fun r h' ms'=>h.le h'/\ms'=[]/\∃q u,r=.tuple #[q,u]/\RdL Ca 1 h' [] q (Gl (m/k))/\RdL Ca 1 h' [] u (Gl (m%k))):=by
 have rB:Rd h [] vb 1 1 ([k].flatMap Ca):=hB.rd;have cB:∀ms,Cell h ms ((AF vb).add (0*1)) (.int .u64 (k:Int)):=fun ms=>(hB.any (ms:=ms)).cell0 (j:=0) (by simp) rfl;have oa:=hA.rd.one;have ob:=hB.rd.one;refine Ap func188 ntmps188 rfl rfl (fun w0 hw0=>?_);simp only[AU];refine Au (Qm rfl (Qm rfl (Al (Ac (Au (Qm rfl (Qm rfl (Qx (AO rfl call232 rfl (Gf (Xp m k hk va vb h hA hB) _)) rfl (Qm rfl (Al ?_))))))))));refine Av rfl (fun h1=>?_) (fun h1=>?_)
 ·have hlt:m<k:=by
   unfold RQ at h1;rcases Nat.lt_or_ge m k with h|h
   ·exact h
   ·rw[if_neg (by omega)]at h1;split at h1<;>omega
  refine Au (Qm rfl (Qm rfl (Qm rfl (Al (Ao (Ah ?_))))));exact BP rfl rfl rfl (⟨DU,rfl,_,_,rfl,by rw[Nat.div_eq_of_lt hlt];exact Wq _ _,by rw[Nat.mod_eq_of_lt hlt];exact hA⟩)
 ·refine Ag (Ab (Ac (Au (Qm rfl (Qx (Ar rB.any rfl BJ rfl) rfl (Qm rfl (Al ?_)))))));refine Av rfl (fun h2=>?_) (fun h2=>?_)
  ·refine Ac (Ad (Qm rfl (Qm rfl (Qx (AB 0 rB.any rfl BJ B6 rfl rfl rfl (by omega)) rfl (Ql rfl Fl (cB _) (Qc call233 rfl (Vw m k hm hk hk2 va h hA) (fun r h3 ms3 l3 hF=>?_)))))));obtain⟨l3',rfl,q,rfl,hq⟩:=hF;have oq:=hq.rd.one;refine Qm rfl (Qm rfl (Qm rfl (Qm rfl (Qm rfl (BL (Qm rfl (Qm rfl (An [_] rfl BJ B6 rfl (by rfl) rfl rfl (by omega) rfl rfl rfl (fun g37=>Dx fun h4 l4 hS=>?_)))))))));have hR:RdL Ca 1 h4 [] (.slice (some ⟨g37,0,none⟩) 1 1) [m%k]:=⟨⟨⟨_,_,rfl,Nat.le_refl _,by decide,rfl,fun _=>⟨_,rfl,hS⟩⟩⟩,Dn⟩
   refine Qc call229 rfl (Fc [m%k] _ h4 hR (by simp)) (fun r h5 ms5 l5 hF=>?_);obtain⟨l5',rfl,hR5⟩:=hF;rw[IV]at hR5;have or_:=hR5.rd.one;refine Qm rfl (Qm rfl (Al (Ao (Ah ?_))));exact BP rfl rfl rfl (⟨AI l3' (AI l4 l5'),rfl,_,_,rfl,(hq.up l4).up l5',hR5⟩)
  ·exact absurd (by decide) h2
theorem XT(m k:Nat)(hk:0<k):(-(m:Int))%(k:Int)=(if m%k=0 then 0 else k-m%k:Nat):=by
 have h1:(m:Int)=((m%k:Nat):Int)+(k:Int)*((m/k:Nat):Int):=by
  have:=Nat.mod_add_div m k
  exact_mod_cast this.symm
 have hlt:=Nat.mod_lt m hk;split
 ·rename_i h0;rw[h0]at h1;have:-(m:Int)=0+(k:Int)*(-((m/k:Nat):Int)):=by rw[Int.mul_neg];omega
  rw[this,Int.add_mul_emod_self_left];rfl
 ·rename_i h0
  have:-(m:Int)=((k-m%k:Nat):Int)+(k:Int)*(-((m/k:Nat):Int)-1):=by rw[Int.mul_sub,Int.mul_neg,Int.mul_one];omega
  rw[this,Int.add_mul_emod_self_left,Int.emod_eq_of_lt (by omega) (by omega)]
theorem LK(n:Nat):FJ (Gl n)=Gl n:=by
 unfold Gl;split
 ·rfl
 ·rename_i h;exact EV [] h
theorem YS(n:Int)(k:Nat)(hn:-256<n/\n<256)(hk:2<=k)(hk2:k<256)(h:Hp) :
  FnT Tryz.prog 127 #[WD n,WD (k:Int)] h [] (fun r h' ms'=>h.le h'/\ms'=[]/\∃(b:Bool) (l:List UInt8),r=.tuple #[.agg #[.bool b,sv l],WD (n%(k:Int)),.bool true]):=by
 obtain⟨m,hm⟩:∃m,n.natAbs=m:=⟨_,rfl⟩
 have hm2:m<256:=by omega
 have osn:(sv (Ht n.natAbs)).oneCell'=true:=rfl;have osk:(sv (Ht (k:Int).natAbs)).oneCell'=true:=rfl;refine Ap func127 ntmps127 rfl rfl (fun w0 hw0=>?_);simp only[AU];refine Au (AX [_,_] rfl rfl (by rfl) rfl rfl rfl (fun g2=>AX [_,_] rfl rfl (by rfl) rfl rfl rfl (fun g3=>CN [.bool false,.string ByteArray.empty] rfl Cd rfl rfl (fun g4=>CN [.bool false,.string ByteArray.empty] rfl Cd rfl rfl (fun g5=>Qm rfl (Al (Bo 2 rfl fun h1 l1 hS3=>(Bo 2 rfl fun h2 l2 hS2=>?_))))))));have gS2:∀ms,Seg h2 ms (⟨g2,0,none⟩:Addr) [.bool (decide (n<0)),sv (Ht n.natAbs)]:=fun ms=>hS2.any;have gS3:∀ms,Seg h2 ms (⟨g3,0,none⟩:Addr) [.bool (decide ((k:Int)<0)),sv (Ht (k:Int).natAbs)]:=fun ms=>(hS3.le l2).any;refine Ac (BE (n:=6) (bs:=[true,false,true,false,false,false]) [true,false,true] CY (by kernel_rfl) (by kernel_rfl) rfl rfl (Qp rfl (oG rfl J1 Cd (gS2 _)) (Qp rfl (oG rfl J1 Cd (gS3 _)) ?_)));unfold Fy;simp only[cons_append,nil_append];refine Qo 1 rfl (Qc call187 rfl (PL n hn h2) (fun a h3 ms3 l3 hF=>?_));obtain⟨l3',rfl,hA⟩:=hF;rw[hm]at hA;refine Qa (Qo 3 rfl (Qc call187 rfl (PL (k:Int) (by omega) h3) (fun b h4 ms4 l4 hF=>?_)));obtain⟨l4',rfl,hB⟩:=hF;have l24:=AI l3' l4';refine Qa (Qo 4 rfl (Qm rfl (Qa (Qo 5 rfl (Qm rfl (Qa (Qe ?_)))))));have hA4:=hA.up l4'
 have hBk:RdL Ca 1 h4 [] b [k]:=by
  have:Gl (k:Int).natAbs=[k]:=by rw[Int.natAbs_natCast];exact if_neg (by omega)
  rw[this]at hB;exact hB
 have rB:Rd h4 [] b 1 1 ([k].flatMap Ca):=hBk.rd;have oa:=hA4.rd.one;have ob:=hBk.rd.one;refine Ab (Ac (Au (Qm rfl (Qx (Ar rB.any rfl BJ rfl) rfl (Qm rfl (Al ?_))))));refine Av rfl (fun hz=>?_) (fun hz=>?_)
 ·exact absurd hz (by decide)
 ·refine Ag (Ab (Au (Qm rfl (Qm rfl (Qc call188 rfl (X8 m k hm2 (by omega) hk2 a b h4 hA4 hBk) (fun r h5 ms5 l5 hF=>?_))))));obtain⟨l5',rfl,q,u,rfl,hQ,hU⟩:=hF;have oq:=hQ.rd.one;have ou:=hU.rd.one;have hB5:=hBk.up l5';have l25:=AI l24 l5';have e2:∀ms,Cell h5 ms ((⟨g2,0,none⟩:Addr).add 0) (.bool (decide (n<0))):=fun ms=>((hS2 0 _ rfl).any).le l25;have e3:∀ms,Cell h5 ms ((⟨g3,0,none⟩:Addr).add 0) (.bool (decide ((k:Int)<0))):=fun ms=>((hS3.le l2) 0 _ rfl).any.le l25;refine Qm rfl (Qm rfl (Qm rfl (Qm rfl (Qm rfl (Al ?_)))))
  have hmk:m/k<128:=by have:=Nat.div_le_div_left (a:=m) hk (by omega);omega
  have hmm:m%k<k:=Nat.mod_lt _ (by omega);refine Bb (fun sl h' ms'=>∃(q' u':Value) (Q:Nat),sl=[(2,.pointer (some ⟨g2,0,none⟩)),(3,.pointer (some ⟨g3,0,none⟩)),(4,.pointer (some ⟨g4,0,none⟩)),(5,.pointer (some ⟨g5,0,none⟩)),(9,q'),(10,u')]/\h5.le h'/\ms'=[Bi g5 172 [.bool false,.string ByteArray.empty],Bi g4 172 [.bool false,.string ByteArray.empty]]/\Q<256/\RdL Ca 1 h' [] q' (Gl Q)/\RdL Ca 1 h' [] u' (Gl (n%(k:Int)).toNat)) ?_ (fun s h ms hI=>?_)
  ·refine Ac (Ad (Qf JL rfl (Ql rfl U4 (e2 _) (Qm rfl ?_))));refine AS (t:=28) rfl (fun hneg=>?_) (fun hneg=>?_)
   ·have hnm:n=-(m:Int):=by omega
    have hnk:=XT m k (by omega);rw[<-hnm]at hnk;refine Qg (AA rfl rfl) rfl (Qg (Ar hU.rd.any rfl BJ rfl) rfl (Qg (CK rfl rfl rfl) rfl (Qm rfl (Al ?_))));refine Av rfl (fun h3=>?_) (fun h3=>?_)
    ·have h0:m%k≠0:=by intro h0;rw[h0]at h3;exact absurd h3 (by decide)
     rw[if_neg h0]at hnk;have hU1:RdL Ca 1 h5 [] u [m%k]:=by rw[<-Gc h0];exact hU
     refine Ad (Qm rfl (An [_] rfl BJ B6 rfl (by rfl) rfl rfl (by omega) rfl rfl rfl (fun g34=>Dx fun h6 l6 hS1=>?_)));have hR1:RdL Ca 1 h6 [] (.slice (some ⟨g34,0,none⟩) 1 1) [1]:=⟨⟨⟨_,_,rfl,Nat.le_refl _,by decide,rfl,fun _=>⟨_,rfl,hS1⟩⟩⟩,Dn⟩
     refine Qc call189 rfl (WC (m/k) (by omega) q _ h6 (hQ.up l6) hR1) (fun x h7 ms7 l7 hF=>?_);obtain⟨l7',rfl,hX⟩:=hF;have ox:=hX.rd.one;refine Qm rfl (Qm rfl (Qc call190 rfl (Wp k (m%k) hmm hk2 b u h7 ((hB5.up l6).up l7') ((hU1.up l6).up l7')) (fun y h8 ms8 l8 hF=>?_)));obtain⟨l8',rfl,hY⟩:=hF;refine Qm rfl (Qm rfl (Aj ?_));exact AC _ ⟨x,y,m/k+1,rfl,AI l6 (AI l7' l8'),rfl,by omega,hX.up l8',by rw[hnk,Int.toNat_natCast];exact hY⟩ Qs
    ·have h0:m%k=0:=by refine Classical.byContradiction fun h0=>h3 ?_;rw[Gc h0];simp
     rw[if_pos h0]at hnk;refine Ag ?_;exact AC _ ⟨q,u,m/k,rfl,DU,rfl,by omega,hQ,by rw[hnk,Int.toNat_natCast,<-h0];exact hU⟩ Qs
   ·have hnm:n=(m:Int):=by omega
    have hnk:n%(k:Int)=((m%k:Nat):Int):=by rw[hnm];exact(Int.natCast_emod m k).symm
    refine Qk rfl (Qk rfl (Qk rfl (Qm rfl (Al (AM rfl (Ag ?_))))));exact AC _ ⟨q,u,m/k,rfl,DU,rfl,by omega,hQ,by rw[hnk,Int.toNat_natCast];exact hU⟩ Qs
  ·obtain⟨q',u',Q,rfl,l6,rfl,hQ2,hQ',hU'⟩:=hI;have oq':=hQ'.rd.one;have ou':=hU'.rd.one;have hkp:(0:Int)<(k:Int):=by omega
   have hr0:=Int.emod_nonneg n (Int.ne_of_gt hkp);have hr1:=Int.emod_lt_of_pos n hkp
   have eR:Value.agg #[.bool (false&&decide (Ht (n%(k:Int)).toNat≠[])),sv (Ht (n%(k:Int)).toNat)]=WD (n%(k:Int)):=by
    unfold WD;have h1:(n%(k:Int)).natAbs=(n%(k:Int)).toNat:=by omega
    have h2:decide (n%(k:Int)<0)=false:=decide_eq_false (by omega);rw[h1,h2];rfl
   have hrn:(n%(k:Int)).toNat<256:=by omega
   refine Au (Qm rfl (Qf JL rfl (Ql rfl U4 ((e2 _).le l6) (Qf JL rfl (Ql rfl U4 ((e3 _).le l6) (Qx (YJ rfl U4 rfl rfl) rfl ?_))))));refine Qc call186 rfl (MA (Gl Q) _ q' Q hQ2 (LK Q) _ hQ' (by have:=JM Q;omega)) (fun x1 h7 ms7 l7 hF=>?_);obtain⟨l7',rfl,rfl⟩:=hF;refine Qm rfl ?_;refine Qc call186 rfl (MA (Gl (n%(k:Int)).toNat) false u' (n%(k:Int)).toNat hrn (LK _) h7 (hU'.up l7') (by have:=JM (n%(k:Int)).toNat;omega)) (fun x2 h8 ms8 l8 hF=>?_);obtain⟨l8',rfl,rfl⟩:=hF;have os1:(sv (Ht Q)).oneCell'=true:=rfl;have os2:(sv (Ht (n%(k:Int)).toNat)).oneCell'=true:=rfl;refine Sa 1 [_,_] Cd rfl (by simp[osn,osk,oq',ou',os1,os2]) ?_;refine Sa 0 [_,_] Cd rfl (by simp[osn,osk,oq',ou',os1,os2]) ?_;refine Qm rfl (Al (Ao (Ck 1 rfl ?_)));exact VK (vs:=[_,_]) (vs2:=[_,_]) rfl rfl rfl rfl J1 rfl Cd rfl rfl ⟨AI l1 (AI l2 (AI l25 (AI l6 (AI l7' l8')))),rfl,_,_,by rw[<-eR]⟩
theorem Zq(n:Nat)(hn:n<256)(h:Hp) :
  FnT Tryz.prog 128 #[WD (n:Int)] h [] (fun r h' ms'=>h.le h'/\ms'=[]/\r=.tuple #[.int .i64 n,.bool true]):=by
 have osn:(sv (Ht (n:Int).natAbs)).oneCell'=true:=rfl;refine Ap func128 ntmps128 rfl rfl (fun w0 hw0=>?_);simp only[AU];refine Au (AX [_,_] rfl rfl (by rfl) rfl rfl rfl (fun g1=>Qm rfl (Qm rfl (Al (AD fun h2 l2 hS2=>?_)))));have gS2:∀ms,Seg h2 ms (⟨g1,0,none⟩:Addr) [.bool (decide ((n:Int)<0)),sv (Ht (n:Int).natAbs)]:=fun ms=>hS2.any;refine Au (Qx (oG rfl J1 Cd (gS2 _)) rfl (Qc call187 rfl (PL (n:Int) (by omega) h2) (fun a h3 ms3 l3 hF=>?_)));obtain⟨l3',rfl,hA⟩:=hF;rw[Int.natAbs_natCast]at hA;obtain⟨W,hW⟩:∃W,Gl n=W:=⟨_,rfl⟩
 have hWl:W.length<=1:=by rw[<-hW];exact JM n
 rw[hW]at hA;have oa:=hA.rd.one;refine Qm rfl (Al (Ac (Au (Qm rfl (Qx (Ar hA.rd.any rfl BJ rfl) rfl (Qm rfl (Al ?_)))))));refine Av rfl (fun h1=>?_) (fun h1=>?_)
 ·exact absurd h1 (by omega)
 ·refine Ag (Ab (Au (Qm rfl (Al (Ac (Au (Qm rfl (Qx (Ar hA.rd.any rfl BJ rfl) rfl (Qm rfl (Al (Af ?_)))))))))));refine Ax (fun q sl h' ms'=>∃(i:Nat),W.length-i=q/\sl=[(1,.pointer (some ⟨g1,0,none⟩)),(4,a),(5,.int .u64 ((if i=0 then 0 else n:Nat):Int)),(13,a),(14,.int .i64 (W.length:Int)),(15,.int .i64 i)]/\h3=h'/\ms'=[]/\i<=W.length) W.length _ ⟨0,rfl,rfl,rfl,rfl,by omega⟩ Qs ?_;rintro q sl h' ms' ⟨i,rfl,rfl,rfl,rfl,hi⟩;refine Au (Qm rfl (Al (Ac ?_)));refine Av rfl (fun hlt=>?_) (fun hlt=>?_)
  ·have hi0:i=0:=by omega
   subst hi0;have hn0:n≠0:=by rintro rfl;rw[<-hW]at hlt;exact absurd hlt (by decide)
   have hWn:W=[n]:=by rw[<-hW];exact Gc hn0
   subst hWn;have cA:∀ms,Cell h3 ms ((AF a).add (0*1)) (.int .u64 (n:Int)):=fun ms=>(hA.any (ms:=ms)).cell0 (j:=0) (by simp) rfl;have e24:((n*2^0%18446744073709551616:Nat):Int)=(n:Int):=by rw[Nat.pow_zero,Nat.mul_one,Nat.mod_eq_of_lt (by omega)]
   have e25:((0 ||| n:Nat):Int)=(n:Int):=by rw[Nat.zero_or]
   refine Ag (Ab (Ac (Af (Au (Qm rfl (Qx (BU (0) hA.rd.any rfl BJ B6 rfl rfl) rfl (Ql rfl Fl (cA _) (Qm rfl (Qm rfl (Gn (Qm rfl (Qm rfl (Qm rfl (Qx (oM rfl) rfl (Qx (Qz (n:=0) e24 rfl rfl rfl (by omega)) rfl (Qx (V1 (a:=0) (b:=n) e25 rfl rfl rfl (by omega) (by omega)) rfl (Qm rfl (Aj (Ai (Ab (Ad (Qx (oA rfl) rfl (Qm rfl (Aj ?_))))))))))))))))))))))));exact Ak 0 _ (by simp) ⟨1,rfl,rfl,rfl,rfl,by simp⟩ Qs
  ·have hiW:i=W.length:=by omega
   have em:(if i=0 then 0 else n)=n:=by
    by_cases h0:n=0
    ·subst h0;simp
    ·have:W=[n]:=by rw[<-hW];exact Gc h0
     rw[hiW,this];simp
   rw[em];have e1:∀ms,Cell h3 ms ((⟨g1,0,none⟩:Addr).add 0) (.bool (decide ((n:Int)<0))):=fun ms=>((hS2 0 _ rfl).any).le l3';refine As (Aa (Aa (Ae (Ab (Ac (Af (Au (Qf JL rfl (Ql rfl U4 (e1 _) (Qm rfl ?_))))))))));refine AS (t:=30) rfl (fun hneg=>?_) (fun hneg=>?_)
   ·exact absurd hneg (by omega)
   ·refine Qk rfl (Qk rfl (Qm rfl (Qm rfl (Al (AM rfl (Au (Qm rfl (Qm rfl (Qm rfl (Al ?_))))))))));refine Av rfl (fun h5=>?_) (fun h5=>?_)
    ·exact absurd h5 (by omega)
    ·refine Ag (Ai (Ab (Au (Qm rfl (Qx (H2 (a:=(n:Int)) rfl Fl U3 rfl (CE (by omega))) rfl (Qm rfl (Qm rfl (Al (Ao ?_)))))))));exact BP rfl rfl rfl (⟨AI l2 l3',rfl,rfl⟩)
theorem Aal(n:Nat)(hn:n<256)(h:Hp)(ms:List Hp):FnV Tryz.prog 128 #[WD (n:Int)] h ms (.tuple #[.int .i64 n,.bool true]):=Gf ((Zq n hn h).mono fun _ _ _ h=>h.2.2) ms
def Pu(n:Int):List Value:=[.bool (decide (n<0)),sv (Ht n.natAbs)]
theorem XN:∀n,(Pu n).length=2:=fun _=>rfl
theorem Wr:∀a:Int,∀c∈Pu a,c.oneCell'=true:=fun a c hc=>by unfold Pu at hc;simp only[mem_cons,not_mem_nil,or_false]at hc;rcases hc with rfl|rfl<;>rfl
theorem Aab(n:Int):WD n=.agg (Pu n).toArray:=rfl
theorem Mf{l:List Int}{k n:Nat}(hk:k<n)(hl:l.length=n):(l.take k++replicate (n-k) 0).set k (l[k]'(by omega))=l.take (k+1)++replicate (n-(k+1)) 0:=by
 have h1:(l.take k).length=k:=by rw[length_take];omega
 have h2:replicate (n-k) (0:Int)=0::replicate (n-(k+1)) 0:=by rw[<-List.replicate_succ];congr 1;omega
 rw[List.set_append_right _ _ (by omega),h1,Nat.sub_self,h2,List.set_cons_zero,take_succ_eq_append_getElem (by omega),List.append_assoc];rfl
theorem Wg(p:Int)(r c:Nat)(hp:IsP p)(hp2:p<256)(hr:r<=200)(hc:c<=200)(L:List Int)(hL:L.length=r*c)(hb:∀x∈L,-256<x/\x<256)(ev:Value)(h:Hp)(hR:RdL Pu 2 h [] ev L) :
  FnT Tryz.prog 60 #[.int .i64 p,.agg #[.int .i64 r,.int .i64 c,ev]] h [] (fun v h' ms'=>h.le h'/\Yp v ms' ⟨p,r,c,L.map (· % p)⟩):=by
 have hpb:=hp.1;have hrc:r*c<=40000:=Nat.mul_le_mul hr hc;obtain⟨pn,rfl⟩:=Int.eq_ofNat_of_zero_le (show 0<=p by omega);have oe:=hR.rd.one;refine Ap func60 ntmps60 rfl rfl (fun w0 hw0=>?_);simp only[AU];refine Au (AX [_,_,_] rfl rfl (by rfl) rfl rfl rfl (fun g3=>CN [.int .i64 0,.int .i64 0,.int .i64 0,.slice none 0 0] rfl Ep rfl rfl (fun g4=>Al ?_)))
 -- ms=[Bi g4 (result),Bi g3 (the matrix)]
 refine Bo 1 rfl fun h1 l1 hS3=>?_;have hR1:=hR.up l1;have e0:∀ms,Cell h1 ms ((⟨g3,0,none⟩:Addr).add 0) (.int .i64 r):=fun ms=>(hS3 0 _ rfl).any;have e1:∀ms,Cell h1 ms ((⟨g3,0,none⟩:Addr).add 1) (.int .i64 c):=fun ms=>(hS3 1 _ rfl).any;have e2:∀ms,Cell h1 ms ((⟨g3,0,none⟩:Addr).add 2) ev:=fun ms=>(hS3 2 _ rfl).any;refine Au (Qm rfl (Qf WT rfl (Ql rfl U3 (e0 _) (Qf W5 rfl (Ql rfl U3 (e1 _) ?_)))));refine Qc call125 rfl (X3 (pn:Int) r c h1 ⟨by omega,by omega⟩) (fun z h2 ms2 l2 hF=>?_);obtain⟨rfl,eu,m,rfl,rfl,hO⟩:=hF
 have hZ:ZB (pn:Int) r c=⟨(pn:Int),r,c,replicate (r*c) 0⟩:=by unfold ZB;rw[if_pos ⟨hp,by unfold ID;omega⟩,show((r:Int)*c).toNat=r*c by rw[<-Int.natCast_mul,Int.toNat_natCast]]
 rw[hZ]at hO;simp only[hZ];have ou:=hO.o1;have rE:Rd h1 [] ev 2 (r*c) (L.flatMap Pu):=by have:=hR1.rd;rwa [hL]at this
 have rU:Rd h1 [m] eu 1 (r*c) ((replicate (r*c) (0:Int)).flatMap cI):=by have:=(hO.rd (h:=h1) (ms:=[m]) Mh).rd;rwa [length_replicate]at this
 refine CN [.int .i64 0,.int .i64 0,.int .i64 0,.slice none 0 0] rfl Ep rfl rfl (fun g5=>?_);refine Sa 0 [_,_,_,_] Ep rfl (by simp[oe,ou]) ?_;refine Al (Ac (Au (Qf Fp rfl (Ql rfl U3 (Cell.blk 0 rfl rfl) (Qm rfl (Qm rfl ?_))))));refine AS (t:=21) rfl (fun h0=>?_) (fun h0=>?_)
 ·exact absurd h0 (by omega)
 ·refine Qg (oF Jx rfl) rfl (Qg (oL rfl Lf (e2 _)) rfl (Qg (Ar rE.any rfl Lf rfl) rfl (Qg (oF Ho rfl) rfl (Qg (oL rfl AR (Cell.blk 0 rfl rfl)) rfl (Qg (DO rU rfl AR rfl) rfl (Qg (DK rfl rfl rfl) rfl (Qm rfl (Al ?_))))))));refine Av rfl (fun hne=>?_) (fun hne=>?_)
  ·exact absurd rfl hne
  ·refine Ag (Ab (AD fun h2 l2 hS5=>?_));have hR2:=hR1.up l2;have osp:(sv (Ht (pn:Int).natAbs)).oneCell'=true:=rfl;refine Au (Qm rfl (Qx (AO rfl call126 rfl (UR (pn:Int) (by omega) _ _)) rfl (CN [.bool false,.string ByteArray.empty] rfl Cd rfl rfl (fun g6=>?_))));refine Sa 0 [_,_] Cd rfl (by simp[oe,ou,KC]) ?_;refine Al (AD fun h3 l3 hS6=>?_);have l13:=AI l2 l3;have hR3:=hR1.up l13;have rE3:=rE.le l13;have e2:∀ms,Cell h3 ms ((⟨g3,0,none⟩:Addr).add 2) ev:=fun ms=>(e2 ms).le l13;refine Ac (Au (Qf Jx rfl (Ql rfl Lf (e2 _) (Qx (Ar rE3.any rfl Lf rfl) rfl (Qm rfl (Al (Af ?_)))))));refine Ax (fun q sl h' ms'=>∃(k:Nat) (mo:Hp),r*c-k=q/\sl=[(4,.pointer (some ⟨g4,0,none⟩)),(5,.pointer (some ⟨g5,0,none⟩)),(6,.pointer (some ⟨g6,0,none⟩)),(34,ev),(35,.int .i64 ((r*c:Nat):Int)),(36,.int .i64 k)]/\h3.le h'/\ms'=[mo,Bi g4 65 [.int .i64 0,.int .i64 0,.int .i64 0,.slice none 0 0]]/\k<=r*c/\OwnL cI 1 3 mo eu ((L.map (· % (pn:Int))).take k++replicate (r*c-k) 0)) (r*c-0) _ ⟨0,_,rfl,rfl,DU,rfl,by omega,by rw[take_zero,nil_append];exact hO⟩ Qs ?_;rintro q sl h' ms' ⟨k,mo,rfl,rfl,lh,rfl,hk,hO⟩;have hR4:=hR3.up lh;have rE4:=rE3.le lh;refine Au (Qm rfl (Al (Ac ?_)));refine Av rfl (fun hlt=>?_) (fun hlt=>?_)
   ·have hkL:k<L.length:=by omega
    obtain⟨x,hx⟩:∃x,L[k]=x:=⟨_,rfl⟩
    have hxb:=hb x (by rw[<-hx];exact getElem_mem hkL);have gE:∀ms,Seg h' ms ((AF ev).add (k*2)) (Pu x):=fun ms=>by rw[<-hx];exact(hR4.any (ms:=ms)).seg hkL
    have osx:(sv (Ht x.natAbs)).oneCell'=true:=rfl;refine Ag (Ab (Ac (Af (Au (Qm rfl (Qx (BU (k) rE4.any rfl Lf Cd rfl rfl) rfl (Qx (oG rfl J1 Cd (gE _)) rfl (CN [.bool false,.string ByteArray.empty] rfl Cd rfl rfl (fun g8=>Qm rfl ?_)))))))));refine Sa 0 [_,_] Cd rfl (by simp[oe,ou,KC]) ?_;refine Al ?_;have gS6:∀ms,Seg h' ms (⟨g6,0,none⟩:Addr) (Pu (pn:Int)):=fun ms=>(hS6.le lh).any;refine Au (Qx (oG rfl J1 Cd (Seg.blk 0 rfl)) rfl (Qx (oG rfl J1 Cd (gS6 _)) rfl (Qc call127 rfl (YS x pn hxb (by omega) (by omega) h') (fun z h4 ms4 l4 hF=>?_))));obtain⟨l4',rfl,bq,lq,rfl⟩:=hF;obtain⟨y,hy⟩:∃y:Nat,x%(pn:Int)=y:=⟨(x%(pn:Int)).toNat,by have:=Int.emod_nonneg x (show(pn:Int)≠0 by omega);omega⟩
    have hyp:y<pn:=by have:=Int.emod_lt_of_pos x (show 0<(pn:Int) by omega);omega
    rw[hy,Aab];refine Qm rfl (Qm rfl (Qm rfl (Qm rfl (CN [.bool false,.string ByteArray.empty] rfl Cd rfl rfl (fun g9=>CN [.bool false,.string ByteArray.empty] rfl Cd rfl rfl (fun g10=>?_))))));refine Sa 1 [_,_] Cd rfl (by simp[oe,ou,KC]) ?_;refine Sa 0 [_,_] Cd rfl (by simp[oe,ou,KC]) ?_;refine Qm rfl (Al (AD fun h5 l5 hS10=>?_));have lh5:=AI lh (AI l4' l5);have gS10:∀ms,Seg h5 ms (⟨g10,0,none⟩:Addr) (Pu (y:Int)):=fun ms=>hS10.any;have e5:∀ms,Cell h5 ms ((⟨g5,0,none⟩:Addr).add 3) eu:=fun ms=>(((hS5.le l3).le lh5) 3 _ rfl).any
    have hln:((L.map (· % (pn:Int))).take k++replicate (r*c-k) 0).length=r*c:=by rw[length_append,length_take,length_map,length_replicate];omega
    refine BE (n:=10) (bs:=[true,true,true,true,true,true,true,true,true,false]) [true,true,true,true,true,true,true,true,true] CY (by kernel_rfl) (by kernel_rfl) rfl rfl (QF Ho rfl (QL rfl AR (e5 _) (Qq rfl (Qp rfl (oG rfl J1 Cd (gS10 _)) (Qp rfl (AO rfl call128 rfl (Aal y (by omega) _ _)) (Qq rfl (Qq rfl (Qq rfl (Qp rfl (CI (k) (hO.rd (h:=h5) (ms:=[mo]) Mh).rd rfl AR Be rfl rfl (by omega) (by omega)) ?_)))))))));unfold Fy;simp only[cons_append,nil_append];refine Qo 9 rfl ?_;refine EO 2 k hO rfl Be rfl rfl rfl (by rw[hln];omega) rfl rfl (fun mo' hO'=>?_);refine Qw (Qe ?_);have hset:=Mf (l:=L.map (· % (pn:Int))) (k:=k) (n:=r*c) (by omega) (by rw[length_map];exact hL);rw[getElem_map,hx,hy]at hset;rw[hset]at hO';refine Ai (Ab (Ad (Qx (oA rfl) rfl (Qm rfl (Aj ?_)))));refine AL (AL ?_);exact Ak (r*c-(k+1)) _ (by omega) ⟨k+1,mo',rfl,rfl,lh5,rfl,by omega,hO'⟩ Qs
   ·have hkn:k=r*c:=by omega
    have gS5:∀ms,Seg h' ms (⟨g5,0,none⟩:Addr) [.int .i64 pn,.int .i64 r,.int .i64 c,eu]:=fun ms=>((hS5.le l3).le lh).any;refine As (Aa (Aa (Ae (Ab (Au (Qx (oG rfl TT Ep (gS5 _)) rfl ?_))))));refine Sa 1 [_,_,_,_] Ep rfl (by simp[oe,ou,KC]) ?_;refine Al (Ao ?_);exact Bs (vs:=[_,_,_,_]) 1 rfl rfl TT rfl Ep rfl rfl (⟨AI l1 (AI l13 lh),eu,mo,rfl,rfl,by rw[hkn,Nat.sub_self,List.replicate_zero,append_nil,List.take_of_length_le (by rw[length_map];omega)]at hO;exact hO⟩)
def To(v:Value)(ms:List Hp)(r c:Nat)(L:List Int):Prop:=∃ev m,ms=[m]/\v=.agg #[.int .i64 r,.int .i64 c,ev]/\OwnL Pu 2 172 m ev L
theorem TH(r c:Nat)(hr:r<=200)(hc:c<=200)(h:Hp):FnT Tryz.prog 191 #[.int .i64 r,.int .i64 c] h [] (fun v _ _=>v=.bool true):=by
 refine Ap func191 ntmps191 rfl rfl (fun w0 hw0=>?_);simp only[AU];refine Au (Qm rfl (BL (Qm rfl (Qm rfl (Qx (PS rfl rfl rfl) rfl (Qm rfl (Qm rfl ?_)))))));refine AS (t:=9) rfl (fun h1=>?_) (fun h1=>?_)
 ·refine Qg (AA rfl rfl) rfl (Qg (AA rfl rfl) rfl (Qg (IX rfl rfl rfl) rfl (Qg (Mq rfl rfl rfl) rfl (Qm rfl (Qm rfl (Al (Ao ?_)))))));exact Az rfl rfl (by rw[decide_eq_true];omega)
 ·exact absurd (by omega) h1
theorem On(r c:Nat)(hr:r<=200)(hc:c<=200)(h:Hp):FnT Tryz.prog 129 #[.int .i64 r,.int .i64 c] h [] (fun v h' ms'=>h=h'/\To v ms' r c (replicate (r*c) 0)):=by have hrc:r*c<=40000:=Nat.mul_le_mul hr hc;have hmi:(r:Int)*c=((r*c:Nat):Int):=(Int.natCast_mul r c).symm;refine Ap func129 ntmps129 rfl rfl (fun w0 hw0=>?_);simp only[AU];refine Au (CN [.int .i64 0,.int .i64 0,.slice none 0 0] rfl DT rfl rfl (fun g4=>Al (Ac (Au (Qm rfl (Qm rfl (Qx (AO rfl call191 rfl (Gf (TH r c hr hc h) _)) rfl (Qm rfl (Al (AM rfl (Ag (Ab (Au (Qm rfl (Qm rfl (Qm rfl (Qm rfl (Qx (oM rfl) rfl (Tp XN (by omega) (0:Int) (n:=r*c) rfl Lf Cd rfl rfl rfl (by omega) (by omega) (by omega) (by omega) rfl rfl rfl (fun g15 ev m hev hO=>?_))))))))))))))))))));subst hev;refine Qx (Bf Aaq [.int .i64 0,.int .i64 0,.slice none 0 0] [(0,_),(1,_),(2,_)] [_,_,_] rfl DT rfl rfl Qt rfl) rfl ?_;refine Sa 1 [_,_,_] DT rfl (by simp[Value.oneCell']) ?_;refine Al (Ao ?_);exact Bs (vs:=[_,_,_]) 1 rfl rfl NT rfl DT rfl rfl (⟨rfl,_,m,rfl,rfl,hO⟩)
def SF(f:Nat->Nat->Int)(k t a b:Nat):Int:=if a<k\/(a=k/\b<t) then f a b else 0
theorem UZ(f:Nat->Nat->Int)(k t:Nat){r c:Nat}:Dq r c (Ks (SF f k t) k t (f k t))=Dq r c (SF f k (t+1)):=by
 refine BV fun a _ b _=>?_;unfold Ks SF;by_cases h:a=k/\b=t
 ·obtain⟨rfl,rfl⟩:=h;rw[if_pos ⟨rfl,rfl⟩,if_pos (by omega)]
 ·rw[if_neg h];by_cases h2:a<k\/(a=k/\b<t)
  ·rw[if_pos h2,if_pos (by omega)]
  ·rw[if_neg h2,if_neg (by omega)]
theorem V9(f:Nat->Nat->Int)(k:Nat){r c:Nat}:Dq r c (SF f k c)=Dq r c (SF f (k+1) 0):=by
 refine BV fun a _ b hb=>?_;unfold SF;by_cases h2:a<k\/(a=k/\b<c)
 ·rw[if_pos h2,if_pos (by omega)]
 ·rw[if_neg h2,if_neg (by omega)]
theorem YU(r c:Nat)(hr0:0<r)(hr:r<=200)(hc:c<=200)(f:Nat->Nat->Int)(hb:∀i,i<r->∀j,j<c->-256<f i j/\f i j<256)(Rs:List Value)(lR:Rs.length=r)(v:Value)(h:Hp)(hv:RdL cU 1 h [] v Rs)(hRs:∀i,i<r->RdL cI 1 h [] (Rs.getD i undef) (Gy c (f i))) :
  FnT Tryz.prog 131 #[v] h [] (fun w h' ms'=>h.le h'/\To w ms' r c (Dq r c f)):=by
 have hrc:r*c<=40000:=Nat.mul_le_mul hr hc;have ov:=hv.rd.one;have rv:Rd h [] v 1 r (Rs.flatMap cU):=by have:=hv.rd;rwa [lR]at this
 refine Ap func131 ntmps131 rfl rfl (fun w0 hw0=>?_);simp only[AU];refine Au (CN [.int .i64 0,.int .i64 0,.slice none 0 0] rfl DT rfl rfl (fun g2=>BL (Qm rfl (Al (Ac (Au (Qm rfl (Qx (Ar rv.any rfl B7 rfl) rfl (Qm rfl (Al (Af ?_)))))))))));refine Ax (fun q sl h' ms'=>∃(i:Nat),r-i=q/\sl=[(0,v),(2,.pointer (some ⟨g2,0,none⟩)),(3,.int .i64 ((if i=0 then 0 else c:Nat):Int)),(11,v),(12,.int .i64 (r:Int)),(13,.int .i64 i)]/\h=h'/\ms'=[Bi g2 106 [.int .i64 0,.int .i64 0,.slice none 0 0]]/\i<=r) (r-0) _ ⟨0,rfl,rfl,rfl,rfl,by omega⟩ Qs ?_;rintro q sl h' ms' ⟨i,rfl,rfl,rfl,rfl,hi⟩;refine Au (Qm rfl (Al (Ac ?_)));refine Av rfl (fun hlt=>?_) (fun hlt=>?_)
 ·have hir:i<r:=by omega
  have hiR:i<Rs.length:=by omega
  obtain⟨ri,hri⟩:∃ri,Rs.getD i undef=ri:=⟨_,rfl⟩
  have hRi:=hRs i hir;rw[hri]at hRi;have cR:∀ms,Cell h ms ((AF v).add (i*1)) ri:=fun ms=>(hv.any (ms:=ms)).cell0 hiR (by rw[<-hri];simp[List.getD,hiR,cU]);have rri:Rd h [] ri 1 c ((Gy c (f i)).flatMap cI):=by have:=hRi.rd;rwa [Ct]at this
  have ori:=rri.one;refine Ag (Ab (Ac (Af (Au (Qx (BU (i) rv.any rfl B7 Cb rfl rfl) rfl (Ql rfl AR (cR _) (Qm rfl (Gn (Qm rfl (Qm rfl (Qx (Ar rri.any rfl AR rfl) rfl (Qx (IX rfl rfl rfl) rfl (Qm rfl (Aj (Ai (Ab (Ad (Qx (oA rfl) rfl (Qm rfl (Aj ?_))))))))))))))))))))
  have hmx:max ((if i=0 then 0 else c:Nat):Int) (c:Int)=((if i+1=0 then 0 else c:Nat):Int):=by rw[if_neg (show ¬i+1=0 by omega)];split<;>omega
  rw[hmx];exact Ak (r-(i+1)) _ (by omega) ⟨i+1,rfl,rfl,rfl,rfl,by omega⟩ Qs
 ·have hir:i=r:=by omega
  subst hir;rw[if_neg (by omega)];refine As (Aa (Aa (Ae (Ab (Au (Qm rfl (Qx (Ar rv.any rfl B7 rfl) rfl (Qm rfl (Qc call129 rfl (On i c hr hc h) (fun z h2 ms2 l2 hF=>?_))))))))));obtain⟨rfl,ev,m,rfl,rfl,hO⟩:=hF;have oe:=hO.o1;have re:Rd h [m] ev 2 (i*c) ((replicate (i*c) (0:Int)).flatMap Pu):=by have:=(hO.rd (h:=h) (ms:=[m]) Mh).rd;rwa [length_replicate]at this
  refine CN [.int .i64 0,.int .i64 0,.slice none 0 0] rfl DT rfl rfl (fun g6=>?_);refine Sa 0 [_,_,_] DT rfl (by simp[ov,oe]) ?_;refine Al (AD fun h3 l3 hS6=>?_);have e6:∀ms,Cell h3 ms ((⟨g6,0,none⟩:Addr).add 2) ev:=fun ms=>(hS6 2 _ rfl).any;have gS6:∀ms,Seg h3 ms (⟨g6,0,none⟩:Addr) [.int .i64 i,.int .i64 c,ev]:=fun ms=>hS6.any;refine Ac (Au (Qf Jx rfl (Ql rfl Lf (e6 _) (Qx (DO re rfl Lf rfl) rfl (Qm rfl (Al ?_))))));refine Av rfl (fun hz=>?_) (fun hz=>?_)
  ·have hz':i*c=0:=by omega
   have hL:replicate (i*c) (0:Int)=Dq i c f:=by have h1:=Ds i c f;rw[hz']at h1;rw[hz',List.length_eq_zero_iff.1 h1];rfl
   rw[hL]at hO;refine Au (Qx (oG rfl NT DT (gS6 _)) rfl ?_);refine Sa 1 [_,_,_] DT rfl (by simp[ov,oe]) ?_;refine Al (Ao (Ah ?_));exact Bs (vs:=[_,_,_]) 1 rfl rfl NT rfl DT rfl rfl (⟨l3,ev,m,rfl,rfl,hO⟩)
  ·refine Ag (Ab ?_);have rv3:=rv.le l3;refine Ac (Au (Qm rfl (Qx (Ar rv3.any rfl B7 rfl) rfl (Qm rfl (Al (Af ?_))))))
   refine Ax (fun q sl h' ms'=>∃(k:Nat) (mo:Hp),i-k=q/\sl=[(0,v),(2,.pointer (some ⟨g2,0,none⟩)),(3,.int .i64 c),(6,.pointer (some ⟨g6,0,none⟩)),(31,v),(32,.int .i64 i),(33,.int .i64 k)]/\h3.le h'/\ms'=[mo,Bi g2 106 [.int .i64 0,.int .i64 0,.slice none 0 0]]/\k<=i/\OwnL Pu 2 172 mo ev (Dq i c (SF f k 0))) (i-0) _ ⟨0,_,rfl,rfl,DU,rfl,by omega,by
    have:Dq i c (SF f 0 0)=replicate (i*c) 0:=by rw[XD];refine BV fun a _ b _=>?_;unfold SF;rw[if_neg (by omega)]
    rw[this];exact hO⟩ Qs ?_
   rintro q sl h' ms' ⟨k,mo,rfl,rfl,lh,rfl,hk,hO⟩;have rv4:=rv3.le lh;refine Au (Qm rfl (Al (Ac ?_)));refine Av rfl (fun hlt=>?_) (fun hlt=>?_)
   ·have hki:k<i:=by omega
    have hkR:k<Rs.length:=by omega
    obtain⟨rk,hrk⟩:∃rk,Rs.getD k undef=rk:=⟨_,rfl⟩
    have hRk:=hRs k hki;rw[hrk]at hRk;have hRk4:=hRk.up (AI l3 lh);have cR:∀ms,Cell h' ms ((AF v).add (k*1)) rk:=fun ms=>((hv.any (ms:=ms)).cell0 hkR (by rw[<-hrk];simp[List.getD,hkR,cU])).le (AI l3 lh);have rrk:Rd h' [] rk 1 c ((Gy c (f k)).flatMap cI):=by have:=hRk4.rd;rwa [Ct]at this
    have ork:=rrk.one;refine Ag (Ab (Ac (Af (Au (Qm rfl (Qx (BU (k) rv4.any rfl B7 Cb rfl rfl) rfl (Ql rfl AR (cR _) (Qm rfl (Qm rfl (BL (Qm rfl (Qx (Ar rrk.any rfl AR rfl) rfl (Qm rfl (Al (Af ?_)))))))))))))));refine Ax (fun q sl hh ms'=>∃(t:Nat) (mo:Hp),c-t=q/\sl=[(0,v),(2,.pointer (some ⟨g2,0,none⟩)),(3,.int .i64 c),(6,.pointer (some ⟨g6,0,none⟩)),(31,v),(32,.int .i64 i),(33,.int .i64 k),(7,.int .i64 k),(38,rk),(39,.int .i64 c),(40,.int .i64 t)]/\h'.le hh/\ms'=[mo,Bi g2 106 [.int .i64 0,.int .i64 0,.slice none 0 0]]/\t<=c/\OwnL Pu 2 172 mo ev (Dq i c (SF f k t))) (c-0) _ ⟨0,mo,rfl,rfl,DU,rfl,by omega,hO⟩ Qs ?_;rintro q sl hh ms' ⟨t,mo,rfl,rfl,lhh,rfl,ht,hO⟩;have lhh':=AI lh lhh;refine Au (Qm rfl (Al (Ac ?_)));refine Av rfl (fun hlt2=>?_) (fun hlt2=>?_)
    ·have htc:t<c:=by omega
     have htv:t<(Gy c (f k)).length:=by rw[Ct];exact htc
     have cX:∀ms,Cell hh ms ((AF rk).add (t*1)) (.int .i64 (f k t)):=fun ms=>((hRk4.any (ms:=ms)).cell0 htv (by simp[Gy,cI])).le lhh;have e6:∀ms,Cell hh ms ((⟨g6,0,none⟩:Addr).add 2) ev:=fun ms=>(e6 ms).le lhh';have hix:k*c+t<i*c:=PY hki htc;have hcast:(k:Int)*c=((k*c:Nat):Int):=(Int.natCast_mul k c).symm;have reo:Rd hh [mo] ev 2 (i*c) ((Dq i c (SF f k t)).flatMap Pu):=by have:=(hO.rd (h:=hh) (ms:=[mo]) Mh).rd;rwa [Ds]at this
     refine Ag (Ab (Ac (Af (Au (Qm rfl (Qx (AB (t) (rrk.le lhh).any rfl AR Be rfl rfl (by omega) (by omega)) rfl (Ql rfl U3 (cX _) (Qm rfl (Qm rfl (Al (Bg 9 CY (by kernel_rfl) rfl (Wf Jx rfl (Wl rfl Lf (e6 _) (Wm rfl (Wm rfl (AP (oM rfl) rfl rfl (Wm rfl (AP (oA rfl) rfl rfl (Wm rfl (AP (AO rfl call126 rfl (UR (f k t) (hb k hki t htc) _ _)) rfl rfl (Bc (Qx (CI (k*c+t) reo rfl Lf Cd rfl rfl (by omega) (by omega)) rfl ?_))))))))))))))))))))));refine FV 0 (k*c+t) (f k t) hO rfl Cd rfl rfl rfl (Wr _) rfl (by rw[Ds];exact hix) rfl rfl (fun mo' hO'=>?_);rw[Qh _ htc,UZ]at hO';refine Aj (Ai (Ab (Ad (Qx (oA rfl) rfl (Qm rfl (Aj ?_))))));exact Ak (c-(t+1)) _ (by omega) ⟨t+1,mo',rfl,rfl,lhh,rfl,by omega,hO'⟩ Qs
    ·have htc:t=c:=by omega
     subst htc;rw[V9]at hO;refine As (Aa (Aa (Ae (Ai (Ab (Ad (Qx (oA rfl) rfl (Qm rfl (Aj ?_)))))))));exact Ak (i-(k+1)) _ (by omega) ⟨k+1,mo,rfl,rfl,lhh',rfl,by omega,hO⟩ Qs
   ·have hki:k=i:=by omega
    subst hki;have gS6:∀ms,Seg h' ms (⟨g6,0,none⟩:Addr) [.int .i64 k,.int .i64 c,ev]:=fun ms=>(gS6 ms).le lh;refine As (Aa (Aa (Ae (Ab (Au (Qx (oG rfl NT DT (gS6 _)) rfl ?_))))));refine Sa 1 [_,_,_] DT rfl (by simp[ov,oe]) ?_;refine Al (Ao ?_);have hL:Dq k c (SF f k 0)=Dq k c f:=BV fun a ha b _=>by unfold SF;rw[if_pos (.inl ha)]
    rw[hL]at hO;exact Bs (vs:=[_,_,_]) 1 rfl rfl NT rfl DT rfl rfl (⟨AI l3 lh,ev,mo,rfl,rfl,hO⟩)
theorem Ke:∀{U:List Ce},(U.map fun a=>a.c.id).Nodup->∀{x:Ce},x∈U->A9 (E5 U) x.c.id=some x
 | [],_,x,hx=>by cases hx
 | a::U,hn,x,hx=>by
  rw[map_cons,List.nodup_cons]at hn;unfold A9 E5;rw[map_cons,List.find?_cons];by_cases h:a.c.id=x.c.id
  ·have:a=x:=by
    rcases List.mem_cons.1 hx with e|e
    ·exact e.symm
    ·exact absurd (List.mem_map.2 ⟨x,e,h.symm⟩) hn.1
   subst this;simp
  ·have hx':x∈U:=by
    rcases List.mem_cons.1 hx with e|e
    ·exact absurd (by rw[e]) h
    ·exact e
   have:=Ke hn.2 hx';unfold A9 E5 at this;simp only[h];simpa using this
theorem XA(g:Nat)(U:List Ce)(cf:FuncId)(cs:List Value)(pr:Cl->Bool)(h:Hp)(R:RdT h g U)(hnd:(U.map fun a=>a.c.id).Nodup)(hid:∀a∈U,BC a.c.id)(hn:U.length<=1000000)
  (hc:∀xs w,(callFunc cf xs).run Tryz.prog w=.ok (.enter cf xs) w)
  (hp:∀a∈U,∀h',h.le h'->∀ms,FnV Tryz.prog cf ([]++[Value.agg (cC a).toArray]++cs).toArray h' ms (.bool (pr a.c))) :
  FnT Tryz.prog 80 #[.pointer (some ⟨g,0,none⟩),.func (.func cf) #[] cs.toArray] h [] (fun r h' ms'=>h.le h'/\∃v m,r=.agg #[v]/\ms'=[m]/\OwnL cC 3 52 m v (U.filter fun a=>pr a.c)):=by
 obtain⟨gm,mT,bs,vids,hS,hM,lM,hV,hsd⟩:=R;have ovi:=hV.rd.one;have hVl:(U.map fun a=>a.c.id).length=U.length:=by rw[length_map]
 have rV:Rd h [] vids 1 U.length ((U.map fun a=>a.c.id).flatMap cI):=by have:=hV.rd;rwa [hVl]at this
 have e0:∀ms,Cell h ms ((⟨g,0,none⟩:Addr).add 0) (.map (some gm)):=fun ms=>(hS 0 _ rfl).any;have e1:∀ms,Cell h ms ((⟨g,0,none⟩:Addr).add 1) vids:=fun ms=>(hS 1 _ rfl).any;refine Ap func80 ntmps80 rfl rfl (fun w0 hw0=>?_);simp only[AU];refine Au (CN [.slice none 0 0] rfl AV rfl rfl (fun g4=>BL (CN [.slice none 0 0] rfl AV rfl rfl (fun g5=>Al (Ac (Au (Qm rfl (Qm rfl (Qf Ms rfl (Ql rfl AR (e1 _) (Qx (Ar rV.any rfl AR rfl) rfl (Qm rfl (Al (Af (BG ?_)))))))))))))))
 refine Ax (fun q sl h' ms'=>∃(i:Nat) (vo:Value) (mo:Hp),U.length-i=q/\sl=[(0,.pointer (some ⟨g,0,none⟩)),(1,.func (.func cf) #[] cs.toArray),(4,.pointer (some ⟨g4,0,none⟩)),(5,.pointer (some ⟨g5,0,none⟩)),(11,vids),(12,.int .i64 U.length),(13,.int .i64 i)]/\h.le h'/\ms'=[mo,Bi g5 29 [vo],Bi g4 29 [.slice none 0 0]]/\i<=U.length/\OwnL cC 3 52 mo vo ((U.take i).filter fun a=>pr a.c))
  (U.length-0) _ ⟨0,_,Hp.emp,rfl,rfl,DU,rfl,by omega,OwnL.nil Cc⟩ Qs ?_
 rintro q sl h' ms' ⟨i,vo,mo,rfl,rfl,lh,rfl,hi,hO⟩;have e0:∀ms,Cell h' ms ((⟨g,0,none⟩:Addr).add 0) (.map (some gm)):=fun ms=>(e0 ms).le lh;have hV4:=hV.up lh;have rV4:=rV.le lh;have ovo:=hO.o1;refine Au (Qm rfl (Al (Ac ?_)));refine Av rfl (fun hlt=>?_) (fun hlt=>?_)
 ·have hiU:i<U.length:=by omega
  obtain⟨x,hx⟩:∃x,U[i]=x:=⟨_,rfl⟩
  have hxm:x∈U:=by rw[<-hx];exact getElem_mem hiU
  have hxi:=hid x hxm;have oxv:=(hsd x hxm).rd.one;have cI_:∀ms,Cell h' ms ((AF vids).add (i*1)) (.int .i64 x.c.id):=fun ms=>(hV4.any (ms:=ms)).cell0 (j:=i) (by rw[hVl];exact hiU) (by rw[getElem_map,hx];rfl);have hg1:(A9 (E5 U) x.c.id).getD default=x:=by rw[Ke hnd hxm];rfl
  refine Ag (Ab ?_);refine Bb (fun sl h'' ms'=>∃(vo':Value) (mo':Hp),sl=[(0,.pointer (some ⟨g,0,none⟩)),(1,.func (.func cf) #[] cs.toArray),(4,.pointer (some ⟨g4,0,none⟩)),(5,.pointer (some ⟨g5,0,none⟩)),(11,vids),(12,.int .i64 U.length),(13,.int .i64 i)]/\h'=h''/\ms'=[mo',Bi g5 29 [vo'],Bi g4 29 [.slice none 0 0]]/\OwnL cC 3 52 mo' vo' ((U.take (i+1)).filter fun a=>pr a.c)) ?_ (fun s h ms hI=>?_)
  ·have htk:U.take (i+1)=U.take i++[x]:=by rw[<-hx];exact take_succ_eq_append_getElem hiU
   rw[htk,filter_append];refine Af (Au (Qx (BU (i) rV4.any rfl AR Be rfl rfl) rfl (Ql rfl U3 (cI_ _) (Qm rfl (BL (Qm rfl (Qm rfl (Qm rfl (Qf EF rfl (Ql rfl Gm (e0 _) (Qm rfl (Qx (BI (V:=vC) (z:=(default:Ce)) (u:=x) x.c.id hg1 A0 hM (AI lM lh) rfl Gm KX rfl rfl hxi) rfl (Qx (BY rfl rfl hc rfl (hp x hxm h' lh _)) rfl (Al ?_))))))))))))));refine Bu rfl (fun hpx=>?_) (fun hpx=>?_)
   ·have hf:[x].filter (fun a=>pr a.c)=[x]:=by simp[hpx]
    rw[hf];have hol:((U.take i).filter fun a=>pr a.c).length<=1000000:=Nat.le_trans (List.length_filter_le _ _) (by rw[length_take];omega);refine BE (n:=12) (bs:=[true,false,true,true,true,true,true,true,false,false,true,false]) [true,false,true,true,true,true,true,true,false,false,true] CY (by kernel_rfl) (by kernel_rfl) rfl rfl (QF BW rfl (Qq rfl (Qq rfl (QF EF rfl (QL rfl Gm (e0 _) (Qq rfl (Qp rfl (BI (V:=vC) (z:=(default:Ce)) (u:=x) x.c.id hg1 A0 hM (AI lM lh) rfl Gm KX rfl rfl hxi) (QF BW rfl ?_))))))));unfold Fy;simp only[cons_append,nil_append];refine A5 [1,8] (by kernel_rfl) rfl ?_;refine Ay rfl ?_ ?_
    ·refine Ql rfl Bk (Cell.blk 1 rfl rfl) (Qw (Qo 8 rfl (An [_,_,_] rfl Bk AH rfl (by rfl) rfl rfl (by omega) rfl rfl rfl (fun g33=>Qw (Qo 9 rfl ?_)))));refine AZ 1 hO (RdL.one Cc (x:=x) Mh rfl) rfl Bk AH rfl (by omega) rfl rfl rfl (C0 (l:=[x]) (fun y hy=>by rw[List.mem_singleton.1 hy];exact hsd x hxm)) (by simp only[length_singleton];omega) (by simp only[length_singleton];omega) rfl rfl rfl (fun v6 m6 hO6=>?_);have ov6:=hO6.o1;refine Qw (Qo 11 rfl (AK 2 0 rfl Jt rfl rfl ov6 rfl rfl (by simp) rfl rfl (Qw (Qe ?_))));refine Ai (AL ?_);exact AC _ ⟨v6,m6,rfl,rfl,rfl,hO6⟩ Qs
    refine Ay rfl ?_ ?_
    ·refine An [_,_,_] rfl Bk AH rfl (by rfl) rfl rfl (by omega) rfl rfl rfl (fun g33=>Qw (Qo 1 rfl (Ql rfl Bk (Cell.blk 2 rfl rfl) (Qw (Qo 9 rfl ?_)))));refine AZ 1 hO (RdL.one Cc (x:=x) Mh rfl) rfl Bk AH rfl (by omega) rfl rfl rfl (C0 (l:=[x]) (fun y hy=>by rw[List.mem_singleton.1 hy];exact hsd x hxm)) (by simp only[length_singleton];omega) (by simp only[length_singleton];omega) rfl rfl rfl (fun v6 m6 hO6=>?_);have ov6:=hO6.o1;refine Qw (Qo 11 rfl (AK 2 0 rfl Jt rfl rfl ov6 rfl rfl (by simp) rfl rfl (Qw (Qe ?_))));refine Ai (AL ?_);exact AC _ ⟨v6,m6,rfl,rfl,rfl,hO6⟩ Qs
    exact A4
   ·have hf:[x].filter (fun a=>pr a.c)=[]:=by simp[hpx]
    rw[hf,append_nil];refine Ag (Ai ?_);exact AC _ ⟨vo,mo,rfl,rfl,rfl,hO⟩ Qs
  ·obtain⟨vo',mo',rfl,rfl,rfl,hO'⟩:=hI;refine Ad (Qx (oA rfl) rfl (Qm rfl (Aj ?_)));exact Ak (U.length-(i+1)) _ (by omega) ⟨i+1,vo',mo',rfl,rfl,lh,rfl,by omega,hO'⟩ Qs
 ·have hiU:i=U.length:=by omega
  subst hiU;rw[take_length]at hO;refine As (Aa (Aa (Ae (Ab (Au (Qx (oG rfl CM AV (Seg.blk 1 rfl)) rfl ?_))))));refine Sa 2 [_] AV rfl (by simp[ovi,ovo]) ?_;refine Al (Ao (Ck 1 rfl (AL ?_)));exact Bs (vs:=[_]) 1 rfl rfl CM rfl AV rfl rfl (⟨lh,vo,mo,rfl,rfl,hO⟩)
theorem Tc(g:Nat)(U:List Ce)(cf:FuncId)(cs:List Value)(pr:Cl->Bool)(h:Hp)(R:RdT h g U)(hnd:(U.map fun a=>a.c.id).Nodup)(hid:∀a∈U,BC a.c.id)(hn:U.length<=1000000)
  (hc:∀xs w,(callFunc cf xs).run Tryz.prog w=.ok (.enter cf xs) w)
  (hp:∀a∈U,∀h',h.le h'->∀ms,FnV Tryz.prog cf ([]++[Value.agg (cC a).toArray]++cs).toArray h' ms (.bool (pr a.c))) :
  FnT Tryz.prog 132 #[.pointer (some ⟨g,0,none⟩),.func (.func cf) #[] cs.toArray] h [] (fun r h' ms'=>h.le h'/\∃m,ms'=[m]/\OwnL cI 1 3 m r ((U.filter fun a=>pr a.c).map fun a=>a.c.id)):=by
 refine Ap func132 ntmps132 rfl rfl (fun w0 hw0=>?_);simp only[AU];refine Au (Qm rfl (BL (Qm rfl (Al (Ac (Au (Qm rfl (Qm rfl (Qc call80 rfl (XA g U cf cs pr h R hnd hid hn hc hp) (fun r h1 ms1 l1 hF=>?_))))))))));obtain⟨l1',v,m,rfl,rfl,hO⟩:=hF;refine Bw hO fun h2 l2 hQ=>?_;obtain⟨W,hW⟩:∃W,(U.filter fun a=>pr a.c)=W:=⟨_,rfl⟩
 rw[hW]at hQ;have hWl:W.length<=1000000:=by rw[<-hW];exact Nat.le_trans (List.length_filter_le _ _) hn
 have hov:∀x∈W,x.v.oneCell'=true:=fun x hx=>by obtain⟨gm,mT,bs,vids,hS,hM,lM,hV,hsd⟩:=R;rw[<-hW]at hx;exact(hsd x (List.mem_filter.1 hx).1).rd.one
 have ov:=hQ.rd.one;refine Qx (D8 rfl CM rfl Bk rfl rfl rfl) rfl (Qx (Ar hQ.rd.any rfl Bk rfl) rfl (Qm rfl (Al (Af (BG ?_)))))
 refine Ax (fun q sl h' ms'=>∃(i:Nat) (vo:Value) (mo:Hp),W.length-i=q/\sl=[(5,vo),(11,v),(12,.int .i64 W.length),(13,.int .i64 i)]/\h2.le h'/\ms'=[mo]/\i<=W.length/\OwnL cI 1 3 mo vo ((W.take i).map fun a=>a.c.id))
  (W.length-0) _ ⟨0,_,Hp.emp,rfl,rfl,DU,rfl,by omega,OwnL.nil Bl⟩ Qs ?_
 rintro q sl h' ms' ⟨i,vo,mo,rfl,rfl,lh,rfl,hi,hO⟩;have hQ4:=hQ.up lh;have ovo:=hO.o1;refine Au (Qm rfl (Al (Ac ?_)));refine Av rfl (fun hlt=>?_) (fun hlt=>?_)
 ·have hiW:i<W.length:=by omega
  obtain⟨x,hx⟩:∃x,W[i]=x:=⟨_,rfl⟩
  have oxv:=hov x (by rw[<-hx];exact getElem_mem hiW);have gX:∀ms,Seg h' ms ((AF v).add (i*3)) (cC x):=fun ms=>by rw[<-hx];exact(hQ4.any (ms:=ms)).seg hiW
  have htk:(W.take (i+1)).map (fun a=>a.c.id)=(W.take i).map (fun a=>a.c.id)++[x.c.id]:=by rw[take_succ_eq_append_getElem hiW,map_append,hx];rfl
  have hol:((W.take i).map fun a=>a.c.id).length<=1000000:=by rw[length_map,length_take];omega
  refine Ag (Ab (Ac (Af (Au (Qx (BU (i) hQ4.rd.any rfl Bk AH rfl rfl) rfl (Qx (oG rfl EL AH (gX _)) rfl (CN [.int .i64 0,.int .i64 0,.slice none 0 0] rfl AH rfl rfl (fun g7=>?_))))))));refine Sa 0 [_,_,_] AH rfl (by simp[ov,ovo,oxv]) ?_;refine Gn (Qm rfl (Qf By rfl (Ql rfl U3 (Cell.blk 0 rfl rfl) (An [_] rfl AR Be rfl (by rfl) rfl rfl (by omega) rfl rfl rfl (fun g20=>AQ 2 hO (RdL.one Bl (x:=x.c.id) Mh rfl) rfl AR Be rfl (by omega) rfl rfl rfl Cm (by simp only[length_singleton];omega) (by simp only[length_singleton];omega) rfl rfl rfl (fun v6 m6 hO6=>?_))))));rw[<-htk]at hO6;have ov6:=hO6.o1;refine Qm rfl (Aj (Ai (Ab (Ad (Qx (oA rfl) rfl (Qm rfl (Aj ?_)))))));refine AL (AL ?_);exact Ak (W.length-(i+1)) _ (by omega) ⟨i+1,v6,m6,rfl,rfl,lh,rfl,by omega,hO6⟩ Qs
 ·have hiW:i=W.length:=by omega
  subst hiW;rw[take_length]at hO;refine As (Aa (Aa (Ae (Ab (Au (Qm rfl (Qm rfl (Al (Ao ?_)))))))));exact Az rfl rfl (⟨AI l1' (AI l2 lh),mo,rfl,by rw[hW];exact hO⟩)
theorem Wz(x:Ce)(gd:Nat)(d:Int)(h:Hp)(hD:∀ms,Cell h ms (⟨gd,0,none⟩:Addr) (.int .i64 d))(ox:x.v.oneCell'=true) :
  FnT Tryz.prog 133 #[.agg (cC x).toArray,.pointer (some ⟨gd,0,none⟩)] h [] (fun r _ _=>r=.bool (decide (x.c.dim=d))):=by
 refine Ap func133 ntmps133 rfl rfl (fun w0 hw0=>?_);simp only[AU];refine Au (AX [_,_,_] rfl rfl (by rfl) rfl rfl rfl (fun g2=>Qm rfl (Al (AD fun h1 l1 hS=>?_))));have e1:∀ms,Cell h1 ms ((⟨g2,0,none⟩:Addr).add 1) (.int .i64 x.c.dim):=fun ms=>(hS 1 _ rfl).any;have e2:∀ms,Cell h1 ms (⟨gd,0,none⟩:Addr) (.int .i64 d):=fun ms=>(hD ms).le l1;refine Au (Qf Cw rfl (Ql rfl U3 (e1 _) (Ql rfl U3 (e2 _) (Qm rfl (Qm rfl (Al (Ao ?_)))))));exact Az rfl rfl (rfl)
theorem M7(l:List Ce)(v:Value)(d:Int)(hp:Hp)(hK:RgC l)(hR:RdC hp v l) :
  FnT Tryz.prog 63 #[.agg #[v],.int .i64 d] hp [] (fun r h' ms'=>hp.le h'/\∃m,ms'=[m]/\OwnL cI 1 3 m r (((cn l).filter fun c=>decide (c.dim=d)).map Cl.id)):=by
 have ov:=hR.q.rd.one;refine Ap func63 ntmps63 rfl rfl (fun w0 hw0=>?_);simp only[AU];refine Au (AX [_] rfl rfl (by rfl) rfl rfl rfl (fun g2=>AX [_] rfl rfl (by rfl) rfl rfl rfl (fun g3=>Qm rfl (Al (Bo 1 rfl fun h1 l1 hS2=>(AD fun h2 l2 hS3=>?_))))));have hR2:=(hR.up l1).up l2;have gS2:∀ms,Seg h2 ms (⟨g2,0,none⟩:Addr) [v]:=fun ms=>(hS2.le l2).any;refine Au (Qx (oG rfl CM AV (gS2 _)) rfl (Qc call64 rfl (Mo l v h2 hK hR2) (fun r h3 ms3 l3 hF=>?_)));obtain⟨l3',rfl,g,A,rfl,hA,hT⟩:=hF;have hO:=hK.pc.toOfOk;have hAl:A.length=l.length:=by have:=congrArg List.length hA;rwa [length_map,Dy]at this
 have hAid:(A.map fun a=>a.c.id)=(cn l).map Cl.id:=by rw[<-hA,map_map];rfl
 have hnd:(A.map fun a=>a.c.id).Nodup:=by rw[hAid];exact hK.F.rgt.nd
 have hid:∀a∈A,BC a.c.id:=fun a ha=>by
  have h1:a.c∈cn l:=by rw[<-hA];exact List.mem_map.2 ⟨a,ha,rfl⟩
  exact hK.cI h1
 have hov:∀a∈A,a.v.oneCell'=true:=fun a ha=>by obtain⟨gm,mT,bs,vids,hS,hM,lM,hV,hsd⟩:=hT;exact(hsd a ha).rd.one
 have eD:∀h',h3.le h'->∀ms,Cell h' ms (⟨g3,0,none⟩:Addr) (.int .i64 d):=fun h' lh ms=>((hS3 0 _ rfl).any.le l3').le lh;refine Qx (BH rfl rfl rfl) rfl ?_;refine Qc call132 rfl (Tc g A 133 [.pointer (some ⟨g3,0,none⟩)] (fun c=>decide (c.dim=d)) h3 hT hnd hid (by rw[hAl];exact hO.n) call133 (fun a ha h' lh ms=>Gf (Wz a g3 d h' (eD h' lh) (hov a ha)) ms)) (fun r h4 ms4 l4 hF=>?_);obtain⟨l4',m,rfl,hOm⟩:=hF
 have e:(A.filter fun a=>decide (a.c.dim=d)).map (fun a=>a.c.id)=((cn l).filter fun c=>decide (c.dim=d)).map Cl.id:=by rw[<-hA,List.filter_map,map_map];rfl
 rw[e]at hOm;refine Qm rfl (Al (Ao ?_));exact Az rfl rfl (⟨AI l1 (AI l2 (AI l3' l4')),m,rfl,hOm⟩)
theorem Y5(A:List Ce)(j:Nat)(hj:j<(E5 A).length):(E5 A)[j].2=A[j]'(by unfold E5 at hj;rwa [length_map]at hj):=by simp only[E5,getElem_map]
def Jb(o:List Cl)(D:Int):Prop:=-1<=D/\(∀c∈o,c.dim<=D)/\(D=-1\/∃c∈o,c.dim=D)
theorem UG(l:List Ce)(v:Value)(hp:Hp)(hK:RgC l)(hR:RdC hp v l) :
  FnT Tryz.prog 61 #[.agg #[v]] hp [] (fun r h' ms'=>hp.le h'/\ms'=[]/\∃D,r=.int .i64 D/\Jb (cn l) D):=by
 have ov:=hR.q.rd.one;refine Ap func61 ntmps61 rfl rfl (fun w0 hw0=>?_);simp only[AU];refine Au (AX [_] rfl rfl (by rfl) rfl rfl rfl (fun g1=>Qm rfl (Al (AD fun h1 l1 hS1=>?_))));have hR1:=hR.up l1;have gS1:∀ms,Seg h1 ms (⟨g1,0,none⟩:Addr) [v]:=fun ms=>hS1.any;refine Au (Qm rfl (Al (Ac (Au (Qx (oG rfl CM AV (gS1 _)) rfl (Qc call64 rfl (Mo l v h1 hK hR1) (fun r h3 ms3 l3 hF=>?_)))))));obtain⟨l3',rfl,g,A,rfl,hA,gm,mT,bs,vids,hS,hM,lM,hV,hsd⟩:=hF;have e0:∀ms,Cell h3 ms ((⟨g,0,none⟩:Addr).add 0) (.map (some gm)):=fun ms=>(hS 0 _ rfl).any;have hTl:(E5 A).length=A.length:=by unfold E5;rw[length_map]
 refine Qm rfl (Qf EF rfl (Ql rfl Gm (e0 _) (IK hM lM rfl Gm rfl rfl rfl rfl (fun gi mi0 I0=>Al (Af ?_)))))
 refine Ax (fun q sl h' ms'=>∃(vis:List Nat) (mi:Hp) (D:Int),A.length-vis.length=q/\sl=[(3,.int .i64 D),(11,.pointer (some ⟨gi,0,none⟩))]/\h3=h'/\ms'=[mi]/\Hi gi gm mT mi bs vis/\-1<=D/\(∀j (hj:j<A.length),j∈vis->A[j].c.dim<=D)/\(D=-1\/∃a∈A,a.c.dim=D))
  (A.length-0) _ ⟨[],mi0,-1,rfl,rfl,rfl,rfl,I0,by omega,fun j hj h=>(nomatch h),.inl rfl⟩ Qs ?_
 rintro q sl h' ms' ⟨vis,mi,D,rfl,rfl,rfl,rfl,I,hD1,hDv,hDe⟩;refine Au ?_;refine KH 0 hM I lM rfl rfl rfl rfl rfl rfl (fun hall=>?_) (fun j hj mi' hjv I'=>?_)
 ·refine Qm rfl (Al (Ac (AM rfl (As (Aa (Aa (Ae (Ab (Au (Qm rfl (Qm rfl (Al (Ao (AL ?_))))))))))))));exact Az rfl rfl (⟨AI l1 l3',rfl,D,rfl,hD1,fun c hc=>by rw[<-hA]at hc;obtain⟨a,ha,rfl⟩:=List.mem_map.1 hc;obtain⟨j,hj,rfl⟩:=List.mem_iff_getElem.1 ha;exact hDv j hj (hall j (by rw[hTl];exact hj)),by rcases hDe with h|⟨a,ha,h⟩;exact .inl h;exact .inr ⟨a.c,by rw[<-hA];exact List.mem_map.2 ⟨a,ha,rfl⟩,h⟩⟩)
 ·have hjA:j<A.length:=by omega
  have hTj:(E5 A)[j].2=A[j]:=Y5 A j hj;obtain⟨x,hx⟩:∃x,A[j]=x:=⟨_,rfl⟩
  have hxm:x∈A:=by rw[<-hx];exact getElem_mem hjA
  have oxv:=(hsd x hxm).rd.one;refine Qm rfl (Al (Ac (B3 rfl (Ag (Ab (Af (Au (Qx (IW hM I' lM (by simp) hj rfl rfl) rfl ?_))))))));rw[hTj,hx];refine Qm rfl (CN [.int .i64 0,.int .i64 0,.slice none 0 0] rfl AH rfl rfl (fun g5=>?_));refine Sa 0 [_,_,_] AH rfl (by simp[ov,oxv]) ?_;refine Gn (Qm rfl (Qf Cw rfl (Ql rfl U3 (Cell.blk 0 rfl rfl) (Qx (IX rfl rfl rfl) rfl (Qm rfl (Aj (Ai (AL ?_))))))));refine Ak (A.length-(vis.length+1)) _ ?_ ⟨vis++[j],mi',max D x.c.dim,by simp,rfl,rfl,rfl,I',by omega,fun i hi' hv=>?_,?_⟩ Qs
  ·have hlt:vis.length<(E5 A).length:=by
    have h1:=Go.Kuhn.nodup_le (vis++[j]) (range (E5 A).length) I'.nodup fun x hx=>by rw[mem_range,<-hM.len];exact I'.lt x hx
    simp at h1;omega
   omega
  ·rcases List.mem_append.1 hv with hv|hv
   ·have:=hDv i hi' hv;omega
   ·simp at hv;subst hv;rw[hx];omega
  ·rcases (by omega:max D x.c.dim=D\/max D x.c.dim=x.c.dim) with e|e
   ·rw[e];exact hDe
   ·rw[e];exact .inr ⟨x,hxm,rfl⟩
end Go.Proofs.Q

namespace Go.Proofs.Q
open Go.Eng Go.RowKit Go.Lin Go.Sort Go.Srt
def VT(o:List Cl)(c:Int):List Int:=(FS o c).sd.map Prod.fst
open Classical in
noncomputable def Tx(o:List Cl)(c:Int):List Int:=(o.map Cl.id).filter fun x=>decide (Rch (VT o) c x)
theorem cloL_mem{o:List Cl}{c x:Int}:x∈Tx o c<->x∈o.map Cl.id/\Rch (VT o) c x:=by
 classical
 unfold Tx;rw[mem_filter,decide_eq_true_iff]
end Go.Proofs.Q
namespace Go.Proofs.Q
open Go.Eng Go.RowKit Go.Lin
variable {o:List Cl} {j i:Nat}
def sgn(sd:List (Int×Int))(c:Int):Int:=(sd.map fun s=>if s.1=c then s.2 else 0).sum
theorem GV(c:Int):sgn [] c=0:=rfl
theorem HY(s:Int×Int)(sd:List (Int×Int))(c:Int):sgn (s::sd) c=(if s.1=c then s.2 else 0)+sgn sd c:=by unfold sgn;rw[map_cons,sum_cons]
theorem Kw(s:Int×Int)(sd:List (Int×Int))(c:Int):sgn (sd++[s]) c=sgn sd c+if s.1=c then s.2 else 0:=by unfold sgn;simp
theorem Ky{c:Int}:∀{sd:List (Int×Int)},(∀s∈sd,s.1≠c)->sgn sd c=0
 | [],_=>rfl
 | s::sd,h=>by rw[HY,if_neg (h s Mh),Ky fun s hs=>h s (List.Mem.tail _ hs)];rfl
theorem Ml{c:Int}{sd:List (Int×Int)}(h:sgn sd c≠0):∃s∈sd,s.1=c:=Classical.byContradiction fun q=>h (Ky fun s hs e=>q ⟨s,hs,e⟩)
def DM(o:List Cl)(i j:Nat):Int:=sgn (o.getD j default).sd (o.getD i default).id
def N8(o:List Cl)(c:Int):Nat:=(o.map Cl.id).idxOf c
theorem GU{y:Cl}(hy:y∈o)(hn:(o.map Cl.id).Nodup):N8 o y.id<o.length/\o.getD (N8 o y.id) default=y:=by
 have hm:y.id∈o.map Cl.id:=List.mem_map.2 ⟨y,hy,rfl⟩;have hlt:=List.idxOf_lt_length_of_mem hm;have h1:N8 o y.id<o.length:=by unfold N8;simpa using hlt
 refine⟨h1,?_⟩;rw[show o.getD (N8 o y.id) default=o[N8 o y.id] by simp[List.getD,h1]]
 have h2:(o[N8 o y.id]).id=y.id:=by have:=List.getElem_idxOf hlt;rw[getElem_map]at this;exact this
 have h3:=Ci hn (getElem_mem h1);rw[h2,Ci hn hy]at h3;exact h3.symm
theorem Kz(hn:(o.map Cl.id).Nodup)(hi:i<o.length)(hj:j<o.length)(h:(o.getD i default).id=(o.getD j default).id):i=j:=by
 rw[show o.getD i default=o[i] by simp[List.getD,hi],show o.getD j default=o[j] by simp[List.getD,hj]]at h;have hp:=List.pairwise_iff_getElem.1 hn;rcases Nat.lt_trichotomy i j with h1|h1|h1
 ·have:=hp i j (by simpa using hi) (by simpa using hj) h1;simp only[getElem_map]at this;exact absurd h this
 ·exact h1
 ·have:=hp j i (by simpa using hj) (by simpa using hi) h1;simp only[getElem_map]at this;exact absurd h.symm this
theorem VZ(hn:(o.map Cl.id).Nodup)(g:Nat->Int):∀sd:List (Int×Int),(∀s∈sd,∃y∈o,y.id=s.1)->sm o.length (fun k=>g k*sgn sd (o.getD k default).id)=(sd.map fun s=>s.2*g (N8 o s.1)).sum
 | [],_=>by rw[List.map_nil];exact Gr fun i _=>by rw[GV,Int.mul_zero]
 | s::sd,h=>by
  obtain⟨y,hy,e⟩:=h s Mh;obtain⟨h1,h2⟩:=GU hy hn;rw[e]at h1 h2;rw[map_cons,sum_cons,<-VZ hn g sd fun s hs=>h s (List.Mem.tail _ hs),Ba (g:=fun k=>g k*(if s.1=(o.getD k default).id then s.2 else 0)+g k*sgn sd (o.getD k default).id) fun k _=>by rw[HY,Int.mul_add],GH];congr 1;rw[F1 o.length (N8 o s.1) _ h1 fun k hk hne=>?_]
  ·rw[h2,if_pos e.symm,Int.mul_comm]
  ·rw[if_neg,Int.mul_zero];intro e2;refine hne (Kz hn hk h1 ?_);rw[h2,e,e2]
theorem Kl(L:Int->List (Int×Int))(c:Int):∀s:List (Int×Int),DH (J9 L s) c=(s.map fun a=>a.2*sgn (L a.1) c).sum
 | []=>rfl
 | a::s=>by
  have ih:=Kl L c s;unfold DH J9 at *;rw[flatMap_cons,map_append,sum_append,ih,map_cons,sum_cons];congr 1
  have:∀l:List (Int×Int),((l.map fun r=>(a.1,r.1,a.2*r.2)).map fun(e:Int×Int×Int)=>if e.2.1=c then e.2.2 else 0).sum=a.2*sgn l c:=fun l=>by
   induction l with
   | nil=>simp[sgn]
   | cons r l ih=>
    rw[map_cons,map_cons,sum_cons,ih,HY,Int.mul_add];congr 1;show(if r.1=c then a.2*r.2 else 0)=_;split
    ·rfl
    ·rw[Int.mul_zero]
  exact this _
theorem NQ{α:Type}{h:α->Int}:∀{l:List α},(∀s∈l,h s=0)->(l.map h).sum=0
 | [],_=>rfl
 | a::l,hl=>by rw[map_cons,sum_cons,hl a Mh,NQ fun s hs=>hl s (List.Mem.tail _ hs)];rfl
theorem DC(hj:j<o.length):o.getD j default∈o:=by rw[show o.getD j default=o[j] by simp[List.getD,hj]];exact getElem_mem hj
theorem DM2(R:Rgt o)(hj:j<o.length):E3 o.length (DM o) (fun k=>DM o k j) i=0:=by
 obtain⟨x,hx⟩:∃x,o.getD j default=x:=⟨_,rfl⟩
 have hxm:x∈o:=by rw[<-hx];exact DC hj
 obtain⟨c,hc⟩:∃c,(o.getD i default).id=c:=⟨_,rfl⟩
 have hs:∀s∈x.sd,∃y∈o,y.id=s.1:=fun s hs=>by obtain⟨y,hy,e,_⟩:=R.sid x hxm s hs;exact⟨y,hy,e⟩
 have e1:E3 o.length (DM o) (fun k=>DM o k j) i=(x.sd.map fun s=>s.2*DM o i (N8 o s.1)).sum:=by rw[<-VZ R.nd (fun k=>DM o i k) x.sd hs];unfold E3;exact Ba fun k _=>by unfold DM;rw[hx]
 have e2:(x.sd.map fun s=>s.2*DM o i (N8 o s.1)).sum=DH (E4 o x) c:=by unfold E4;rw[Kl];congr 1;refine List.map_congr_left fun s hs'=>?_;obtain⟨y,hy,e⟩:=hs s hs';obtain⟨h1,h2⟩:=GU hy R.nd;unfold DM;rw[hc,<-e,h2,Ci R.nd hy]
 rw[e1,e2];have hd:=R.dim x hxm;rcases (by omega:2<=x.dim\/x.dim=1\/x.dim=0) with h|h|h
 ·by_cases he:∃e∈E4 o x,e.2.1=c
  ·obtain⟨e,he,rfl⟩:=he;exact(R.tab x hxm h).sum e he
  ·exact(LJ fun e he' q=>he ⟨e,he',q⟩).1
 ·unfold E4;rw[Kl]
  have:∀s∈x.sd,s.2*sgn (FS o s.1).sd c=0:=fun s hs'=>by obtain⟨y,hy,e,hyd⟩:=R.sid x hxm s hs';rw[<-e,Ci R.nd hy];have hnum:=R.num y hy;unfold Cj at hnum;have:y.sd=[]:=List.length_eq_zero_iff.1 (by omega);rw[this,GV,Int.mul_zero]
  exact NQ this
 ·have hnum:=R.num x hxm;unfold Cj at hnum;have:x.sd=[]:=List.length_eq_zero_iff.1 (by omega);unfold E4;rw[this];rfl
theorem Zo(R:Rgt o)(hi:i<o.length)(hj:j<o.length)(h:DM o i j≠0):(o.getD j default).dim=(o.getD i default).dim+1:=by obtain⟨s,hs,e⟩:=Ml h;obtain⟨y,hy,e1,e2⟩:=R.sid _ (DC hj) s hs;obtain⟨h1,h2⟩:=GU hy R.nd;have h3:N8 o y.id=i:=Kz R.nd h1 hi (by rw[h2,e1,e]);rw[<-h3,h2,e2];omega
end Go.Proofs.Q
namespace Go.Proofs.Q
open Go.Proofs.Tryz
open Go.Eng Go.RowKit Go.Lin
def Shp(v:Value)(n:Nat):Prop:=(v=.slice none 0 0/\n=0)\/∃g c,v=.slice (some ⟨g,0,none⟩) n c
theorem Q9{α:Type}{F:α->List Value}{sz:Nat}{el:TypeId}{m:Hp}{v:Value}{l:List α}(O:OwnL F sz el m v l):Shp v l.length:=by
 obtain⟨⟨_,h⟩,_⟩:=O;rcases h with ⟨h1,h2,_⟩|⟨g,cap,spare,h1,_⟩
 ·exact .inl ⟨h1,h2⟩
 ·exact .inr ⟨g,cap,h1⟩
theorem AaH(zs:List Int)(v:Value)(x:Int)(h:Hp)(hR:RdL cI 1 h [] v zs)(hv:Shp v zs.length)(hs:zs.Pairwise (·<=·))(hn:zs.length<=1000000)(ms:List Hp) :
  FnV Tryz.prog 130 #[v,.int .i64 x] h ms (.tuple #[.int .i64 ((zs.countP (·<x):Nat):Int),.bool (zs.contains x)]):=by
 intro w hw;rcases hv with ⟨rfl,h0⟩|⟨g,c,rfl⟩
 ·obtain rfl:zs=[]:=List.length_eq_zero_iff.1 h0;exact(Tryz.slices_BinarySearch_int_empty none 0 x w).mono fun e w' ⟨h1,h2⟩=>⟨by rw[h1];rfl,by rw[h2];exact Ext.refl _⟩
 ·refine(Tryz.slices_BinarySearch_int g 0 zs.length c zs x w (Nat.le_refl _) (by omega) (fun j hj=>?_) (by rw[take_length];exact hs)).mono fun e w' ⟨h1,q,h2⟩=>⟨by rw[h1,take_length],by rw[h2];exact⟨rfl,⟨rfl,Nat.le_add_right _ _⟩,rfl,Nat.le_refl _,fun _ _=>rfl⟩⟩
  have hc:=(hR.any (ms:=ms)).cell0 hj (u:=.int .i64 zs[j]) rfl;have:=hw.cell hc;rw[show(AF (.slice (some ⟨g,0,none⟩) zs.length c)).add (j*1)=(⟨g,0+j,none⟩:Addr) by simp only[AF,Addr.add,Nat.mul_one];split<;>simp_all]at this;simpa[List.getD,hj] using this
theorem Nu:∀{zs:List Int},zs.Pairwise (· < ·)->∀{x:Int} {i:Nat} (hi:i<zs.length),zs[i]=x->zs.countP (·<x)=i
 | [],_,x,i,hi,_=>by simp at hi
 | a::zs,hp,x,i,hi,he=>by
  rw[pairwise_cons]at hp;cases i with
  | zero=>
   simp at he;subst he;rw[List.countP_cons,if_neg (by simp)];rw[List.countP_eq_zero.2 fun b hb=>by have:=hp.1 b hb;simp;omega]
  | succ i=>
   have hi':i<zs.length:=by simpa using hi
   have he':zs[i]=x:=by simpa using he
   have:=hp.1 _ (getElem_mem hi');rw[List.countP_cons,if_pos (by simp;omega),Nu hp.2 hi' he']
end Go.Proofs.Q

namespace Go.Proofs.Q
open Go.Eng Go.RowKit Go.Lin
theorem Ls{a b c:Hp}(h:a.disj b):a.join (b.join c)=b.join (a.join c):=by rw[<-Hp.join_assoc,<-Hp.join_assoc,Hp.join_comm h]
theorem ColsO.at_:∀{vs:List Value} {cs:List (List Int)} {m:Hp},ColsO m vs cs->∀{i:Nat} (hv:i<vs.length) (hc:i<cs.length),∃a b,m=a.join b/\a.disj b/\OwnL cI 1 3 a vs[i] cs[i]/\∀a' c',a'.disj b->OwnL cI 1 3 a' vs[i] c'->ColsO (a'.join b) vs (cs.set i c')
 | [],_,_,_,i,hv,_=>by simp at hv
 | _::_,[],_,h,_,_,_=>h.elim
 | v::vs,c::cs,m,⟨a,b,e,hd,O,C⟩,0,_,_=>⟨a,b,e,hd,O,fun a' c' hd' O'=>⟨a',b,rfl,hd',O',C⟩⟩
 | v::vs,c::cs,m,⟨a0,b0,e,hd,O,C⟩,i+1,hv,hc=>by
  obtain⟨a,b,e2,hd2,O2,K⟩:=C.at_ (i:=i) (by simpa using hv) (by simpa using hc);subst e2;obtain⟨h0a,h0b⟩:=Hp.disj_of_join hd;refine⟨a,a0.join b,by rw[e];exact Ls h0a,?_,O2,fun a' c' hd' O'=>?_⟩
  ·exact Hp.disj_symm (Hp.disj_join h0a (Hp.disj_symm hd2))
  ·obtain⟨k0,kb⟩:=Hp.disj_of_join hd';refine⟨a0,a'.join b,Ls k0,?_,O,K a' c' kb O'⟩;exact Hp.disj_symm (Hp.disj_join k0 (Hp.disj_symm h0b))
variable {r c k:Nat} {B:Nat->Nat->Int} {sd:List (Int×Int)} {rows:List Int}
def Do(B:Nat->Nat->Int)(sd:List (Int×Int))(rows:List Int)(k j i b:Nat):Int:=if b<k then B i b else if b=k then sgn (sd.take j) (rows.getD i 0) else 0
def Cv(r c:Nat)(F:Nat->Nat->Int):List (List Int):=(range r).map fun i=>Gy c (F i)
theorem D5(r c:Nat)(F:Nat->Nat->Int):(Cv r c F).length=r:=by simp[Cv]
theorem Es{F G:Nat->Nat->Int}(h:∀i,i<r->∀b,b<c->F i b=G i b):Cv r c F=Cv r c G:=by unfold Cv;refine List.map_congr_left fun i hi=>LX fun b hb=>h i (List.mem_range.1 hi) b hb
theorem PI(r c:Nat)(B:Nat->Nat->Int)(sd:List (Int×Int))(rows:List Int):Cv r c (Do B sd rows 0 0)=replicate r (replicate c 0):=by
 have h1:Cv r c (Do B sd rows 0 0)=Cv r c fun _ _=>0:=Es fun i _ b _=>by unfold Do;rw[if_neg (by omega),take_zero,GV,ite_self]
 rw[h1];unfold Cv Gy;rw[List.map_const',length_range,List.map_const',length_range]
theorem Jf{sd':List (Int×Int)}:Cv r c (Do B sd rows k 0)=Cv r c (Do B sd' rows k 0):=
 Es fun i _ b _=>by unfold Do;rw[take_zero,take_zero]
theorem Pr(hB:∀i,i<r->B i k=sgn sd (rows.getD i 0)):Cv r c (Do B sd rows k sd.length)=Cv r c (Do B sd rows (k+1) 0):=
 Es fun i hi b _=>by
  unfold Do;rw[take_length,take_zero,GV,ite_self];by_cases h1:b<k
  ·rw[if_pos h1,if_pos (by omega)]
  ·by_cases h2:b=k
   ·subst h2;rw[if_neg h1,if_pos rfl,if_pos (by omega),hB i hi]
   ·rw[if_neg h1,if_neg h2,if_neg (by omega)]
theorem RK:Cv r c (Do B sd rows c 0)=Cv r c B:=
 Es fun i _ b hb=>by unfold Do;rw[if_pos hb]
theorem Tw{j:Nat}(hr:rows.length=r)(hj:j<sd.length)(h:sd[j].1 ∉ rows):Cv r c (Do B sd rows k (j+1))=Cv r c (Do B sd rows k j):=
 Es fun i hi b _=>by
  unfold Do;have hi':i<rows.length:=by omega
  have hne:¬sd[j].1=rows.getD i 0:=fun e=>h (by rw[e];simp[List.getD,hi']);rw[take_succ_eq_append_getElem hj,Kw,if_neg hne,Int.add_zero]
theorem SL{j i0:Nat}(hr:rows.length=r)(hn:rows.Nodup)(hj:j<sd.length)(hi0:i0<r)(hk:k<c)(h:rows[i0]'(by omega)=sd[j].1) :
  Cv r c (Do B sd rows k (j+1))=(Cv r c (Do B sd rows k j)).set i0 ((Gy c (Do B sd rows k j i0)).set k (Do B sd rows k j i0 k+sd[j].2)):=by
 refine List.ext_getElem (by rw[length_set,D5,D5]) fun i h1 h2=>?_;have hi:i<r:=by rwa [D5]at h1
 have hi':i<rows.length:=by omega
 rw[List.getElem_set];have e1:∀(F:Nat->Nat->Int) (h:i<(Cv r c F).length),(Cv r c F)[i]=Gy c (F i):=fun F h=>by simp[Cv]
 have es:sgn (sd.take (j+1)) (rows.getD i 0)=sgn (sd.take j) (rows.getD i 0)+if sd[j].1=rows.getD i 0 then sd[j].2 else 0:=by rw[take_succ_eq_append_getElem hj,Kw]
 have eg:rows.getD i 0=rows[i]:=by simp[List.getD,hi']
 split
 ·rename_i e;subst e;rw[e1];refine List.ext_getElem (by simp[Gy]) fun b hb1 hb2=>?_;rw[List.getElem_set];have hbc:b<c:=by simpa[Gy] using hb1
  have ev:∀(F:Nat->Int) (h:b<(Gy c F).length),(Gy c F)[b]=F b:=fun F h=>by simp[Gy]
  rw[ev];split
  ·rename_i e;subst e;unfold Do;rw[if_neg (by omega),if_pos rfl,if_neg (by omega),if_pos rfl,es,eg,if_pos h.symm]
  ·rename_i e;rw[ev];unfold Do;rw[if_neg (show ¬b=k from fun q=>e q.symm),if_neg (show ¬b=k from fun q=>e q.symm)]
 ·rename_i e;rw[e1,e1];refine LX fun b hb=>?_;unfold Do
  have hne:¬sd[j].1=rows.getD i 0:=fun q=>e (by
   rw[<-h,eg]at q
   exact(List.getElem_inj hn).1 q)
  rw[es,if_neg hne,Int.add_zero]
end Go.Proofs.Q

namespace Go.Proofs.Q
open Go.Proofs.Tryz
open Go.Eng Go.RowKit Go.Lin
def Bt(o:List Cl)(d:Int):List Int:=(o.filter fun c=>decide (c.dim=d)).map Cl.id
theorem FH(o:List Cl)(d:Int):(Bt o d).length<=o.length:=by unfold Bt;rw[length_map];exact List.length_filter_le _ _
theorem U8{o:List Cl}(h:RgtF o)(d:Int):(Bt o d).Pairwise (· < ·):=by unfold Bt;rw[List.pairwise_map];exact h.inc.sublist List.filter_sublist
theorem P8:∀l:List Value,l.flatMap cU=l
 | []=>rfl
 | a::l=>by rw[flatMap_cons,P8 l];rfl
theorem MD:∀(sd:List (Int×Int)) (c:Int),(∀s∈sd,s.2=1\/s.2=-1)->-(sd.length:Int)<=sgn sd c/\sgn sd c<=sd.length
 | [],c,_=>by rw[GV];simp
 | s::sd,c,h=>by have ih:=MD sd c fun s hs=>h s (List.mem_cons_of_mem _ hs);have h1:=h s List.mem_cons_self;rw[HY,List.length_cons];split<;>omega
def HG(o:List Cl)(d:Int)(i k:Nat):Int:=sgn (FS o ((Bt o d).getD k 0)).sd ((Bt o (d-1)).getD i 0)
theorem Sx(l:List Ce)(v:Value)(d:Int)(hd:-5<=d/\d<=1000)(hp:Hp)(hK:RgC l)(hR:RdC hp v l)(hn:l.length<=200) :
  FnT Tryz.prog 62 #[.agg #[v],.int .i64 d] hp [] (fun w h' ms'=>hp.le h'/\To w ms' (Bt (cn l) (d-1)).length (Bt (cn l) d).length (Dq (Bt (cn l) (d-1)).length (Bt (cn l) d).length (HG (cn l) d))):=by
 have ov:=hR.q.rd.one;refine Ap func62 ntmps62 rfl rfl (fun w0 hw0=>?_);simp only[AU];refine Au (AX [_] rfl rfl (by rfl) rfl rfl rfl (fun g2=>CN [.int .i64 0,.int .i64 0,.slice none 0 0] rfl DT rfl rfl (fun g4=>Al (Bo 1 rfl fun h1 l1 hS2=>?_))));have hR1:=hR.up l1;have gS2:∀ms,Seg h1 ms (⟨g2,0,none⟩:Addr) [v]:=fun ms=>hS2.any;refine Au (Qx (oG rfl CM AV (gS2 _)) rfl (Qc call64 rfl (Mo l v h1 hK hR1) (fun r h3 ms3 l3 hF=>?_)));obtain⟨l3',rfl,g,A,rfl,hA,hT⟩:=hF;have hR3:=hR1.up l3';have gS2:∀ms,Seg h3 ms (⟨g2,0,none⟩:Addr) [v]:=fun ms=>(hS2.le l3').any;refine Qm rfl (Al (Ac (BE (n:=9) (bs:=[true,true,true,false,true,true,false,false,false]) [true,true,true,false,true,true] CY (by kernel_rfl) (by kernel_rfl) rfl rfl (Qp rfl (oG rfl CM AV (gS2 _)) (Qq rfl (Qp rfl (oS rfl) (Qp rfl (oG rfl CM AV (gS2 _)) (Qq rfl ?_))))))));unfold Fy;simp only[cons_append,nil_append];refine Qo 3 rfl (Qc call63 rfl (M7 l v (d-1) h3 hK hR3) (fun ra h4 ms4 l4 hF=>?_));obtain⟨l4',ma,rfl,hOa⟩:=hF;have shA:=Q9 hOa;refine Bw hOa fun h5 l5 hRa=>?_;have l35:=AI l4' l5;refine Qa (Qo 6 rfl (Qc call63 rfl (M7 l v d h5 hK (hR3.up l35)) (fun rb h6 ms6 l6 hF=>?_)));obtain⟨l6',mb,rfl,hOb⟩:=hF;have shB:=Q9 hOb;refine Bw hOb fun h7 l7 hRb=>?_;have l57:=AI l6' l7;have l37:=AI l35 l57;refine Qa (Qo 7 rfl (Qm rfl (Qa (Qo 8 rfl (Qm rfl (Qa (Qe ?_)))))));have hRa7:=hRa.up l57;obtain⟨o,ho⟩:∃o,cn l=o:=⟨_,rfl⟩
 have hol:o.length=l.length:=by rw[<-ho,Dy]
 have hrg:RgtF o:=by rw[<-ho];exact hK.F
 change RdL cI 1 h7 [] ra (Bt (cn l) (d-1)) at hRa7;change RdL cI 1 h7 [] rb (Bt (cn l) d) at hRb;rw[ho]at hRa7 hRb ⊢;obtain⟨r,hr⟩:∃r,(Bt o (d-1)).length=r:=⟨_,rfl⟩
 obtain⟨c,hc⟩:∃c,(Bt o d).length=c:=⟨_,rfl⟩
 have hr2:r<=200:=by have:=FH o (d-1);omega
 have hc2:c<=200:=by have:=FH o d;omega
 rw[hr,hc];have rA:Rd h7 [] ra 1 r ((Bt o (d-1)).flatMap cI):=by have:=hRa7.rd;rwa [hr]at this
 have rB:Rd h7 [] rb 1 c ((Bt o d).flatMap cI):=by have:=hRb.rd;rwa [hc]at this
 have oa:=rA.one;have ob:=rB.one;have lh7:=AI l1 (AI l3' l37);refine Ab (Ac (Au (Qm rfl (Qx (Ar rA.any rfl AR rfl) rfl (Qm rfl (Qm rfl ?_))))));refine AS (t:=28) rfl (fun h1=>?_) (fun h1=>?_)
 ·exact absurd h1 (by omega)
 ·refine Qg (AA rfl rfl) rfl (Qg (Ar rB.any rfl AR rfl) rfl (Qg (CK rfl rfl rfl) rfl (Qm rfl (Al ?_))));refine Av rfl (fun h2=>?_) (fun h2=>?_)
  ·exact absurd h2 (by omega)
  ·refine Ag (Ab (Ac (Au (Qm rfl (Qx (Ar rA.any rfl AR rfl) rfl (Qm rfl (Al ?_)))))));refine Av rfl (fun h3=>?_) (fun h3=>?_)
   ·have hr0:r=0:=by omega
    subst hr0;refine Au (Qm rfl (Qx (Ar rB.any rfl AR rfl) rfl (Qc call129 rfl (On 0 c (by omega) hc2 h7) (fun z h8 ms8 l8 hF=>?_))));obtain⟨rfl,ev,m,rfl,rfl,hO⟩:=hF;have oe:=hO.o1;have hL:replicate (0*c) (0:Int)=Dq 0 c (HG o d):=by simp[Dq]
    rw[hL]at hO;refine Sa 1 [_,_,_] DT rfl (by simp[ov,oa,ob,oe]) ?_;refine Al (Ao (Ah ?_));exact Bs (vs:=[_,_,_]) 1 rfl rfl NT rfl DT rfl rfl (⟨lh7,ev,m,rfl,rfl,hO⟩)
   ·refine Ag (Ab (Au (Qm rfl (Qx (Ar rA.any rfl AR rfl) rfl (CB (n:=r) rfl B7 Cb rfl rfl rfl (by rfl) (by rfl) (by omega) (by omega) rfl rfl rfl (fun g42=>Qm rfl (Al (Ac (Au (Qm rfl (Qx (Po (ty:=81) rfl B7 rfl) rfl (Qm rfl (Al (Af ?_))))))))))))))
    have hO0:OwnL cU 1 22 (Bi g42 22 (replicate r (.slice none 0 0))) (.slice (some ⟨g42,0,none⟩) r r) ([]++replicate r (.slice none 0 0)):=by
     rw[nil_append];have:=OwnL.blk (F:=cU) (el:=22) (g:=g42) (l:=replicate r (Value.slice none 0 0)) r Mn (by simp) (by omega)
     rwa [P8]at this
    refine BG ?_
    refine Ax (fun q sl h' ms'=>∃(i:Nat) (Rs:List Value) (mR mo:Hp),r-i=q/\sl=[(4,.pointer (some ⟨g4,0,none⟩)),(5,.pointer (some ⟨g,0,none⟩)),(6,ra),(7,rb),(8,.slice (some ⟨g42,0,none⟩) r r),(44,.int .i64 r),(45,.int .i64 i)]/\h7=h'/\ms'=[mR,mo,Bi g4 106 [.int .i64 0,.int .i64 0,.slice none 0 0]]/\i<=r/\OwnL cU 1 22 mo (.slice (some ⟨g42,0,none⟩) r r) (Rs++replicate (r-i) (.slice none 0 0))/\Rs.length=i/\ColsO mR Rs (replicate i (replicate c 0)))
     (r-0) _ ⟨0,[],Hp.emp,_,rfl,rfl,rfl,rfl,by omega,hO0,rfl,rfl⟩ Qs ?_
    rintro q sl h' ms' ⟨i,Rs,mR,mo,rfl,rfl,rfl,rfl,hi,hO,hRl,hCR⟩;refine Au (Qm rfl (Al (Ac ?_)));refine Av rfl (fun hlt=>?_) (fun hlt=>?_)
    ·have hir:i<r:=by omega
     refine Ag (Ab (Ac (Af (Au (Qm rfl (Qm rfl (Gn (Qm rfl (Qm rfl (Qm rfl (Qx (Ar rB.any rfl AR rfl) rfl (CB (n:=c) rfl AR Be rfl rfl rfl (by rfl) (by rfl) (by omega) (by omega) rfl rfl rfl (fun g52=>Qx (BF (i) rfl B7 Cb rfl rfl (by omega) (by omega)) rfl ?_)))))))))))))
     have hset:(Rs++replicate (r-i) (Value.slice none 0 0)).set i (.slice (some ⟨g52,0,none⟩) c c)=(Rs++[.slice (some ⟨g52,0,none⟩) c c])++replicate (r-(i+1)) (Value.slice none 0 0):=by rw[List.set_append_right _ _ (by omega),hRl,Nat.sub_self,show r-i=(r-(i+1))+1 by omega,List.replicate_succ,List.set_cons_zero,List.append_assoc];rfl
     refine Cr (f:=fun v:Value=>v) (a:=.slice (some ⟨g52,0,none⟩) c c) 2 i (fun _=>rfl) hO rfl Cb rfl rfl rfl rfl (by rw[length_append,length_replicate];omega) rfl rfl (fun mo' hO'=>?_);rw[hset]at hO';refine Aj (Ai (Ab (Ad (Qx (oA rfl) rfl (Qm rfl (Aj (DG fun hap=>?_)))))));have hap:[Bi g52 3 (replicate c (.int .i64 0)),mR,mo',Bi g4 106 [.int .i64 0,.int .i64 0,.slice none 0 0]].Pairwise Hp.disj:=hap;simp only[pairwise_cons,mem_cons,not_mem_nil,or_false,forall_eq_or_imp,forall_eq]at hap;have hC':=hCR.snoc (OwnL.rep (g:=g52) (el:=3) c 0 (by omega)) (Hp.disj_symm hap.1.1);have hrs:replicate i (replicate c (0:Int))++[replicate c 0]=replicate (i+1) (replicate c 0):=(List.replicate_succ' ..).symm;rw[hrs]at hC';refine Ck 1 rfl (Ej ?_);exact Ak (r-(i+1)) _ (by omega) ⟨i+1,_,_,mo',rfl,rfl,rfl,rfl,by omega,hO',by rw[length_append,hRl];rfl,hC'⟩ Qs
    ·have hir:i=r:=by omega
     subst hir;refine As (Aa (Aa (Ae (Ab (DN 1 rfl (Bq hO fun h8 l8 hL=>?_))))));rw[Nat.sub_self,List.replicate_zero,append_nil]at hL;have rB8:=rB.le l8;have rA8:=rA.le l8;refine Ac (Au (Qm rfl (Qx (Ar rB8.any rfl AR rfl) rfl (Qm rfl (Al (Af ?_))))));have hCR0:ColsO mR Rs (Cv i c (Do (HG o d) [] (Bt o (d-1)) 0 0)):=by rw[PI];exact hCR
     refine Ax (fun q sl h' ms'=>∃(k:Nat) (mR:Hp),c-k=q/\sl=[(4,.pointer (some ⟨g4,0,none⟩)),(5,.pointer (some ⟨g,0,none⟩)),(6,ra),(8,.slice (some ⟨g42,0,none⟩) i i),(55,rb),(56,.int .i64 c),(57,.int .i64 k)]/\h8.le h'/\ms'=[mR,Bi g4 106 [.int .i64 0,.int .i64 0,.slice none 0 0]]/\k<=c/\ColsO mR Rs (Cv i c (Do (HG o d) [] (Bt o (d-1)) k 0)))
      (c-0) _ ⟨0,mR,rfl,rfl,DU,rfl,by omega,hCR0⟩ Qs ?_
     rintro q sl h9 ms' ⟨k,mR,rfl,rfl,l9,rfl,hk,hC⟩;refine Au (Qm rfl (Al (Ac ?_)));refine Av rfl (fun hlt2=>?_) (fun hlt2=>?_)
     ·have hkc:k<c:=by omega
      have hkL:k<(Bt o d).length:=by omega
      obtain⟨y,hy⟩:∃y,(Bt o d).getD k 0=y:=⟨_,rfl⟩
      have hyg:(Bt o d)[k]=y:=by rw[<-hy];simp[List.getD,hkL]
      have hB9:=(hRb.up l8).up l9;have cB:∀ms,Cell h9 ms ((AF rb).add (k*1)) (.int .i64 y):=fun ms=>(hB9.any (ms:=ms)).cell0 hkL (by rw[hyg];rfl);obtain⟨gm,mT,bs,vids,hS,hM,lM,hV,hsd⟩:=hT;have l39:=AI l37 (AI l8 l9);have e0:∀ms,Cell h9 ms ((⟨g,0,none⟩:Addr).add 0) (.map (some gm)):=fun ms=>((hS 0 _ rfl).any).le l39;have hAo:A.map Ce.c=o:=by rw[hA,ho]
      have hAid:(A.map fun a=>a.c.id)=o.map Cl.id:=by rw[<-hAo,map_map];rfl
      have hnd:(A.map fun a=>a.c.id).Nodup:=by rw[hAid];exact hrg.rgt.nd
      obtain⟨a,haA,hay⟩:∃a,a∈A/\a.c.id=y:=by
       have h1:y∈Bt o d:=by rw[<-hyg];exact getElem_mem hkL
       unfold Bt at h1;obtain⟨cl,h2,h3⟩:=List.mem_map.1 h1;have h4:cl∈A.map Ce.c:=by rw[hAo];exact(List.mem_filter.1 h2).1
       obtain⟨a,h5,rfl⟩:=List.mem_map.1 h4;exact⟨a,h5,h3⟩
      have hga:A9 (E5 A) y=some a:=by rw[<-hay];exact Ke hnd haA
      have hga1:(A9 (E5 A) y).getD default=a:=by rw[hga];rfl
      have hyI:BC y:=by
       have h1:a.c∈cn l:=by rw[<-hA];exact List.mem_map.2 ⟨a,haA,rfl⟩
       rw[<-hay];exact hK.cI h1
      have hcel:FS o y=a.c:=by have:=Iz A y;rw[hAo,hga1]at this;exact this.symm
      have hsa:=(hsd a haA).up l39;have oav:=hsa.rd.one;refine Ag (Ab (Ac (Af (Au (Qm rfl (Qx (AB (k) (rB8.le l9).any rfl AR Be rfl rfl (by omega) (by omega)) rfl (Ql rfl U3 (cB _) (Qm rfl (Qm rfl (BL (Qm rfl (Qm rfl (Qf EF rfl (Ql rfl Gm (e0 _) (Qm rfl (Qx (BI (V:=vC) (z:=(default:Ce)) (u:=a) y hga1 A0 hM (AI lM l39) rfl Gm KX rfl rfl hyI) rfl (Qx (D8 rfl EL rfl Cu rfl rfl rfl) rfl (Qx (Ar hsa.rd.any rfl Cu rfl) rfl (Qm rfl (Al (Af ?_)))))))))))))))))))));have hao:a.c∈o:=by rw[<-hAo];exact List.mem_map.2 ⟨a,haA,rfl⟩
      have hsl:a.c.sd.length<=64:=(hrg.bds hao).2.1;have hsg:=hrg.rgt.sgn _ hao
      refine Ax (fun q sl h' ms'=>∃(j:Nat) (mR:Hp),a.c.sd.length-j=q/\sl=[(4,.pointer (some ⟨g4,0,none⟩)),(5,.pointer (some ⟨g,0,none⟩)),(6,ra),(8,.slice (some ⟨g42,0,none⟩) i i),(10,.int .i64 k),(55,rb),(56,.int .i64 c),(57,.int .i64 k),(68,a.v),(69,.int .i64 a.c.sd.length),(70,.int .i64 j)]/\h9.le h'/\ms'=[mR,Bi g4 106 [.int .i64 0,.int .i64 0,.slice none 0 0]]/\j<=a.c.sd.length/\ColsO mR Rs (Cv i c (Do (HG o d) a.c.sd (Bt o (d-1)) k j)))
       (a.c.sd.length-0) _ ⟨0,mR,rfl,rfl,DU,rfl,by omega,by rw[Jf (sd':=[])];exact hC⟩ Qs ?_
      rintro q sl h11 ms' ⟨j,mR,rfl,rfl,l11,rfl,hj,hC⟩;have hsa11:=hsa.up l11;refine Au (Qm rfl (Al (Ac ?_)));refine Av rfl (fun hlt3=>?_) (fun hlt3=>?_)
      ·have hjl:j<a.c.sd.length:=by omega
       obtain⟨s,hs⟩:∃s,a.c.sd[j]=s:=⟨_,rfl⟩
       have gS:∀ms,Seg h11 ms ((AF a.v).add (j*2)) (cD s):=fun ms=>by rw[<-hs];exact(hsa11.any (ms:=ms)).seg hjl
       refine Ag (Ab ?_);refine Bb (fun sl h'' ms'=>∃mR':Hp,sl=[(4,.pointer (some ⟨g4,0,none⟩)),(5,.pointer (some ⟨g,0,none⟩)),(6,ra),(8,.slice (some ⟨g42,0,none⟩) i i),(10,.int .i64 k),(55,rb),(56,.int .i64 c),(57,.int .i64 k),(68,a.v),(69,.int .i64 a.c.sd.length),(70,.int .i64 j)]/\h11.le h''/\ms'=[mR',Bi g4 106 [.int .i64 0,.int .i64 0,.slice none 0 0]]/\ColsO mR' Rs (Cv i c (Do (HG o d) a.c.sd (Bt o (d-1)) k (j+1)))) ?_ (fun s h ms hI=>?_)
       ·refine Af (Au (Qx (BU (j) hsa11.rd.any rfl Cu AJ rfl rfl) rfl (Qx (oG rfl DE AJ (gS _)) rfl (CN [.int .i64 0,.int .i64 0] rfl AJ rfl rfl (fun g13=>?_)))));refine Sa 0 [_,_] AJ rfl (by simp[Value.oneCell']) ?_;refine Al (AD fun h12 l12 hS13=>?_);have l712:=AI l8 (AI l9 (AI l11 l12));have hRa12:=hRa7.up l712;have e130:∀ms,Cell h12 ms ((⟨g13,0,none⟩:Addr).add 0) (.int .i64 s.1):=fun ms=>(hS13 0 _ rfl).any;have e131:∀ms,Cell h12 ms ((⟨g13,0,none⟩:Addr).add 1) (.int .i64 s.2):=fun ms=>(hS13 1 _ rfl).any;have hinc:=U8 hrg (d-1);change Shp ra (Bt (cn l) (d-1)).length at shA;rw[ho]at shA;refine Au (Qm rfl (Qf Cy rfl (Ql rfl U3 (e130 _) (Qx (AO rfl call130 rfl (AaH (Bt o (d-1)) ra s.1 h12 hRa12 shA (hinc.imp fun h=>Int.le_of_lt h) (by omega) _)) rfl (Qm rfl (Qm rfl (Qm rfl (Qm rfl (Qm rfl (BL (Qm rfl (Al ?_))))))))))));refine Bu rfl (fun hfd=>?_) (fun hfd=>?_)
        ·have hmem:s.1∈Bt o (d-1):=by simpa using hfd
         obtain⟨i0,hi0,he0⟩:=List.mem_iff_getElem.1 hmem;have hi0i:i0<i:=by omega
         have hcnt:(Bt o (d-1)).countP (·<s.1)=i0:=Nu hinc hi0 he0;rw[hcnt];have hv0:i0<Rs.length:=by omega
         obtain⟨a1,b1,e1,dab,O1,K⟩:=hC.at_ (i:=i0) hv0 (by rw[D5];exact hi0i);subst e1;obtain⟨ρ,hρ⟩:∃ρ,Rs[i0]=ρ:=⟨_,rfl⟩
         rw[hρ]at O1 K;have er:(Cv i c (Do (HG o d) a.c.sd (Bt o (d-1)) k j))[i0]'(by rw[D5];exact hi0i)=Gy c (Do (HG o d) a.c.sd (Bt o (d-1)) k j i0):=by simp[Cv]
         rw[er]at O1;refine G5 dab ?_;have cL:∀ms,Cell h12 ms ((AF (.slice (some ⟨g42,0,none⟩) i i)).add (i0*1)) ρ:=fun ms=>((hL.any (ms:=ms)).cell0 hv0 (by rw[hρ];rfl)).le (AI l9 (AI l11 l12));have hkv:k<(Gy c (Do (HG o d) a.c.sd (Bt o (d-1)) k j i0)).length:=by rw[Ct];exact hkc
         have cX:∀ms,a1∈ms->Cell h12 ms ((AF ρ).add (k*1)) (.int .i64 (Do (HG o d) a.c.sd (Bt o (d-1)) k j i0 k)):=fun ms hm=>(O1.rd (h:=h12) hm).cell0 hkv (by simp[Gy,cI]);have rρ:Rd h12 [a1] ρ 1 c ((Gy c (Do (HG o d) a.c.sd (Bt o (d-1)) k j i0)).flatMap cI):=by have:=(O1.rd (h:=h12) (ms:=[a1]) Mh).rd;rwa [Ct]at this
         have hbd:=MD (a.c.sd.take j) ((Bt o (d-1)).getD i0 0) fun s hs=>hsg s (List.mem_of_mem_take hs);have hbe:Do (HG o d) a.c.sd (Bt o (d-1)) k j i0 k=sgn (a.c.sd.take j) ((Bt o (d-1)).getD i0 0):=by unfold Do;rw[if_neg (by omega),if_pos rfl]
         have htl:(a.c.sd.take j).length<=64:=by rw[length_take];omega
         have hs2:=hsg s (by rw[<-hs];exact getElem_mem hjl);have oρ:=rρ.one;refine Bg 9 CY (by kernel_rfl) rfl (Wm rfl (Wm rfl (AP (BF (i0) rfl B7 Cb rfl rfl (by omega) (by omega)) rfl rfl (Wl rfl AR (cL _) (Wm rfl (AP (CI (k) rρ rfl AR Be rfl rfl (by omega) (by omega)) rfl rfl (Wl rfl U3 (cX _ Mh) (Wf Fa rfl (Wl rfl U3 (e131 _) (Bc (Qx (oA rfl) rfl (Qx (CI (k) rρ rfl AR Be rfl rfl (by omega) (by omega)) rfl (EO 0 k O1 rfl Be rfl rfl rfl hkv rfl rfl (fun a1' O1'=>Aj (Ai (DG fun hap=>?_))))))))))))))));have hap:[a1',b1,Bi g4 106 [.int .i64 0,.int .i64 0,.slice none 0 0]].Pairwise Hp.disj:=hap;simp only[pairwise_cons,mem_cons,not_mem_nil,or_false,forall_eq_or_imp,forall_eq]at hap;have hC':=K a1' _ hap.1.1 O1';have hyes:=SL (B:=HG o d) hr (hinc.imp fun h=>Int.ne_of_lt h) hjl hi0i hkc (by rw[he0,hs]);rw[hs]at hyes;rw[<-hyes]at hC';refine Ej ?_;exact AC _ ⟨_,rfl,l12,rfl,hC'⟩ Qs
        ·have hmem:s.1 ∉ Bt o (d-1):=by simpa using hfd
         rw[<-hs]at hmem;rw[<-Tw (B:=HG o d) hr hjl hmem]at hC;refine Ag (Ai ?_);exact AC _ ⟨mR,rfl,l12,rfl,hC⟩ Qs
       ·obtain⟨mR',rfl,l12,rfl,hC'⟩:=hI;refine Ad (Qx (oA rfl) rfl (Qm rfl (Aj ?_)));exact Ak (a.c.sd.length-(j+1)) _ (by omega) ⟨j+1,mR',rfl,rfl,AI l11 l12,rfl,by omega,hC'⟩ Qs
      ·have hjl:j=a.c.sd.length:=by omega
       subst hjl;have hB:∀i',i'<i->HG o d i' k=sgn a.c.sd ((Bt o (d-1)).getD i' 0):=fun i' _=>by unfold HG;rw[hy,hcel]
       rw[Pr hB,Jf (sd':=[])]at hC;refine As (Aa (Aa (Ae (Ai (Ab (Ad (Qx (oA rfl) rfl (Qm rfl (Aj ?_)))))))));exact Ak (c-(k+1)) _ (by omega) ⟨k+1,mR,rfl,rfl,AI l9 l11,rfl,by omega,hC⟩ Qs
     ·have hkc:k=c:=by omega
      subst hkc;rw[RK]at hC;refine As (Aa (Aa (Ae (Ab (Bd fun h10 l10 lm=>?_)))))
      have hRr:∀i',i'<i->RdL cI 1 h10 [] (Rs.getD i' undef) (Gy k (HG o d i')):=fun i' hi'=>by
       have hv:i'<Rs.length:=by omega
       obtain⟨a1,b1,e1,dab,O1,_⟩:=hC.at_ (i:=i') hv (by rw[D5];exact hi');have er:(Cv i k (HG o d))[i']'(by rw[D5];exact hi')=Gy k (HG o d i'):=by simp[Cv]
       rw[er]at O1;have hle:a1.le h10:=AI (by rw[e1];exact Hp.le_join _ _) lm;have:=O1.rdh (ms:=[]) hle
       rwa [show Rs.getD i' undef=Rs[i'] by simp[List.getD,hv]]
      have hAo:A.map Ce.c=o:=by rw[hA,ho]
      have hb:∀i',i'<i->∀j,j<k->-256<HG o d i' j/\HG o d i' j<256:=fun i' _ j _=>by
       unfold HG;obtain⟨y,hy⟩:∃y,(Bt o d).getD j 0=y:=⟨_,rfl⟩
       rw[hy];have h1:=Iz A y;rw[hAo]at h1;rw[<-h1];cases hg:A9 (E5 A) y with
       | none=>exact(by decide:-256<(0:Int)/\(0:Int)<256)
       | some z=>
        have hz:z.c∈o:=by rw[<-hAo];exact List.mem_map.2 ⟨z,Rb hg,rfl⟩
        have h2:=MD z.c.sd ((Bt o (d-1)).getD i' 0) (hrg.rgt.sgn _ hz);have h3:=(hrg.bds hz).2.1;simp only[Option.getD_some];omega
      have hi0:0<i:=by omega
      refine Au (Qm rfl (Qc call131 rfl (YU i k hi0 hr2 hc2 (HG o d) hb Rs hRl _ h10 (hL.up (AI l9 l10)) hRr) (fun z h13 ms13 l13 hF=>?_)));obtain⟨l13',ev,m,rfl,rfl,hO⟩:=hF;have oe:=hO.o1;refine Sa 1 [_,_,_] DT rfl (by simp[ov,oa,ob,oe]) ?_;refine Al (Ao ?_);exact Bs (vs:=[_,_,_]) 1 rfl rfl NT rfl DT rfl rfl (⟨AI lh7 (AI l8 (AI l9 (AI l10 l13'))),ev,m,rfl,rfl,hO⟩)
theorem WZ(r c:Nat)(f:Nat->Nat->Int)(g:Int->Int):(Dq r c f).map g=Dq r c fun i j=>g (f i j):=by unfold Dq;rw[map_map];rfl
theorem Tl(p:Int)(r c:Nat)(f:Nat->Nat->Int)(hp:IsP p)(hp2:p<256)(hr:r<=200)(hc:c<=200)(hb:∀i,i<r->∀j,j<c->-256<f i j/\f i j<256)(gp:Nat)(ev:Value)(h:Hp)(hD:∀ms,Cell h ms (⟨gp,0,none⟩:Addr) (.int .i64 p))(hR:RdL Pu 2 h [] ev (Dq r c f)) :
  FnT Tryz.prog 58 #[.agg #[.int .i64 r,.int .i64 c,ev],.pointer (some ⟨gp,0,none⟩)] h [] (fun x h' ms'=>h.le h'/\ms'=[]/\∃(F:Nat->Nat->Int) (pv:List Nat),x=.int .i64 pv.length/\Ech p r c (fun i j=>f i j%p) F pv):=by
 have hpb:=hp.1;have oe:=hR.rd.one;refine Ap func58 ntmps58 rfl rfl (fun w0 hw0=>?_);simp only[AU];refine Au (AX [_,_,_] rfl rfl (by rfl) rfl rfl rfl (fun g2=>Qm rfl (Al (AD fun h1 l1 hS2=>?_))));have hR1:=hR.up l1;have gS2:∀ms,Seg h1 ms (⟨g2,0,none⟩:Addr) [.int .i64 r,.int .i64 c,ev]:=fun ms=>hS2.any;have eD:∀ms,Cell h1 ms (⟨gp,0,none⟩:Addr) (.int .i64 p):=fun ms=>(hD ms).le l1
 have hbm:∀x∈Dq r c f,-256<x/\x<256:=fun x hx=>by
  unfold Dq at hx;obtain⟨k,hk,rfl⟩:=List.mem_map.1 hx;have hk:=List.mem_range.1 hk
  have hc0:0<c:=by
   rcases Nat.eq_zero_or_pos c with h|h
   ·subst h;simp at hk
   ·exact h
  exact hb _ (Nat.div_lt_of_lt_mul (by rw[Nat.mul_comm];exact hk)) _ (Nat.mod_lt _ hc0)
 refine Au (Ql rfl U3 (eD _) (Qx (oG rfl NT DT (gS2 _)) rfl (Qc call60 rfl (Wg p r c hp hp2 hr hc (Dq r c f) (Ds r c f) hbm ev h1 hR1) (fun z h2 ms2 l2 hF=>?_))));obtain⟨l2',eu,m,rfl,rfl,hO⟩:=hF;rw[WZ]at hO;refine Bw hO fun h3 l3 hQ=>?_;have hRt:RtM p r c (fun i j=>f i j%p):=⟨hp,by omega,by omega,fun i _ j _=>⟨Int.emod_nonneg _ (by omega),Int.emod_lt_of_pos _ (by omega)⟩⟩
 refine Qc call59 rfl (Us p r c _ eu h3 hRt hQ) (fun z h4 ms4 l4 hF=>?_);obtain⟨l4',rfl,F,pv,rfl,hE⟩:=hF;refine Qm rfl (Al (Ao ?_));exact Az rfl rfl (⟨AI l1 (AI l2' (AI l3 l4')),rfl,F,pv,rfl,hE⟩)
theorem Sv(l:List Ce)(v:Value)(hp:Hp)(hK:RgC l)(hR:RdC hp v l)(hn:l.length<=100) :
  FnT Tryz.prog 55 #[.agg #[v]] hp [] (fun r h' ms'=>hp.le h'/\ms'=[]/\r=.int .i64 0):=by
 have ov:=hR.q.rd.one;refine Ap func55 ntmps55 rfl rfl (fun w0 hw0=>?_);simp only[AU];refine Au (AX [_] rfl rfl (by rfl) rfl rfl rfl (fun g1=>Qm rfl (Al (AD fun h1 l1 hS1=>?_))));have hR1:=hR.up l1;have gS1:∀ms,Seg h1 ms (⟨g1,0,none⟩:Addr) [v]:=fun ms=>hS1.any;refine Ac (Au (Qx (oG rfl CM AV (gS1 _)) rfl (Qx (AO rfl call28 rfl (Gf (Lx l v h1 hK hR1) _)) rfl (Qm rfl (Qm rfl (Qm rfl (Qm rfl (Qm rfl (BL (Qm rfl (Qm rfl (Al ?_))))))))))));refine Av rfl (fun hz=>?_) (fun hz=>?_)
 ·exact absurd rfl hz
 ·refine Ag (Ab (Ac (Au (Qx (oG rfl CM AV (gS1 _)) rfl (Qc call61 rfl (UG l v h1 hK hR1) (fun r h3 ms3 l3 hF=>?_))))));obtain⟨l3',rfl,D,rfl,hD1,hD2,hD3⟩:=hF
  have hD8:D<=8:=by
   rcases hD3 with h|⟨c,hc,h⟩
   ·omega
   ·have:=(hK.F.bds hc).1;omega
  have gS1:∀ms,Seg h3 ms (⟨g1,0,none⟩:Addr) [v]:=fun ms=>(hS1.le l3').any;refine Qx (oA rfl) rfl (Qm rfl (Al (Af ?_)));refine Ax (fun q sl h' ms'=>∃(k:Nat),(D+1).toNat-k=q/\sl=[(1,.pointer (some ⟨g1,0,none⟩)),(16,.int .i64 (D+1)),(17,.int .i64 k)]/\h3.le h'/\ms'=[]/\(k:Int)<=D+1) ((D+1).toNat-0) _ ⟨0,rfl,rfl,DU,rfl,by omega⟩ Qs ?_;rintro q sl h' ms' ⟨k,rfl,rfl,lh,rfl,hk⟩;have gS1:∀ms,Seg h' ms (⟨g1,0,none⟩:Addr) [v]:=fun ms=>(gS1 ms).le lh;refine Au (Qm rfl (Al (Ac ?_)));refine Av rfl (fun hlt=>?_) (fun hlt=>?_)
  ·refine Ag (Ab (Ac (Af (Au (Qm rfl (Qm rfl (BL (Qx (oG rfl CM AV (gS1 _)) rfl (Qm rfl (Qc call63 rfl (M7 l v (k:Int) h' hK ((hR1.up l3').up lh)) (fun r h4 ms4 l4 hF=>?_)))))))))));obtain⟨l4',m,rfl,hO⟩:=hF
   have hlen:(((cn l).filter fun c=>decide (c.dim=(k:Int))).map Cl.id).length<=100:=by rw[length_map];exact Nat.le_trans (List.length_filter_le _ _) (by rw[Dy];exact hn)
   refine Qx (DO (hO.rd (h:=h4) (ms:=[m]) Mh).rd rfl AR rfl) rfl (Qm rfl (Al ?_));refine Av rfl (fun h5=>?_) (fun h5=>?_)
   ·exact absurd h5 (by omega)
   ·refine Ag (Ai (Ab (Ad (Qx (oA rfl) rfl (Qm rfl (Aj (AL ?_)))))));exact Ak ((D+1).toNat-(k+1)) _ (by omega) ⟨k+1,rfl,rfl,AI lh l4',rfl,by omega⟩ Qs
  ·refine As (Aa (Aa (Ae (Ab (Au (Qm rfl (Al (Ao ?_))))))));exact Az rfl rfl (⟨AI l1 (AI l3' lh),rfl,rfl⟩)
def Y1(p:Int)(o:List Cl)(d:Int)(ρ:Nat):Prop:=∃(F:Nat->Nat->Int) (pv:List Nat),Ech p (Bt o (d-1)).length (Bt o d).length (fun i k=>HG o d i k%p) F pv/\ρ=pv.length
def JF(o:List Cl)(rk:Nat->Nat)(n:Nat):List Int:=(range n).map fun(k:Nat)=>((Bt o k).length:Int)-rk k-rk (k+1)
theorem V3(o:List Cl)(rk:Nat->Nat)(n:Nat):JF o rk (n+1)=JF o rk n++[((Bt o n).length:Int)-rk n-rk (n+1)]:=by unfold JF;rw[List.range_succ,map_append];rfl
theorem Rz{o:List Cl}{rk rk':Nat->Nat}{n:Nat}(h:∀k,k<=n->rk k=rk' k):JF o rk n=JF o rk' n:=by unfold JF;refine List.map_congr_left fun k hk=>?_;have:=List.mem_range.1 hk;rw[h k (by omega),h (k+1) (by omega)]
theorem ZA{o:List Cl}(hrg:RgtF o)(d:Int)(i j:Nat)(hj:j<(Bt o d).length):-256<HG o d i j/\HG o d i j<256:=by
 unfold HG;obtain⟨y,hy⟩:∃y,(Bt o d).getD j 0=y:=⟨_,rfl⟩
 rw[hy];unfold FS;cases hg:OQ o y with
 | none=>exact(by decide:-256<(0:Int)/\(0:Int)<256)
 | some z=>
  have hz:z∈o:=List.mem_of_find?_eq_some hg;have h2:=MD z.sd ((Bt o (d-1)).getD i 0) (hrg.rgt.sgn _ hz);have h3:=(hrg.bds hz).2.1;simp only[Option.getD_some];omega
theorem Nk(l:List Ce)(v:Value)(p:Int)(hp:Hp)(hP:IsP p)(hp2:p<256)(hK:RgC l)(hR:RdC hp v l)(hn:l.length<=100) :
  FnT Tryz.prog 20 #[.agg #[v],.int .i64 p] hp [] (fun r h' ms'=>hp.le h'/\∃(D:Int) (rk:Nat->Nat) (w:Value) (m:Hp),r=.tuple #[w,.int .i64 0]/\ms'=[m]/\OwnL cI 1 3 m w (JF (cn l) rk (D+1).toNat)/\Jb (cn l) D/\rk 0=0/\∀n:Nat,n<(D+1).toNat->Y1 p (cn l) (n+1) (rk (n+1))):=by
 have hpb:=hP.1;have ov:=hR.q.rd.one;refine Ap func20 ntmps20 rfl rfl (fun w0 hw0=>?_);simp only[AU];refine Au (AX [_] rfl rfl (by rfl) rfl rfl rfl (fun g2=>AX [_] rfl rfl (by rfl) rfl rfl rfl (fun g3=>Qm rfl (Qm rfl (Al (AD fun h1 l1 hS3=>(AD fun h2 l2 hS2=>?_)))))));have hR2:=(hR.up l1).up l2;have gS2:∀ms,Seg h2 ms (⟨g2,0,none⟩:Addr) [v]:=fun ms=>hS2.any;have eD:∀ms,Cell h2 ms (⟨g3,0,none⟩:Addr) (.int .i64 p):=fun ms=>((hS3 0 _ rfl).any).le l2;refine Ac (Au (Ql rfl U3 (eD _) (Qm rfl (Qm rfl ?_))));refine AS (t:=14) rfl (fun hp0=>?_) (fun hp0=>?_)
 ·refine Qg (oL rfl U3 (eD _)) rfl ?_;refine Qg (AO rfl call54 rfl (Mm p h2 ⟨by omega,by omega⟩ _)) rfl ?_;refine Qg (GL rfl rfl) rfl (Qm rfl (Al ?_));refine Bu rfl (fun hnp=>?_) (fun hnp=>?_)
  ·exact absurd hP (by simpa using hnp)
  ·refine Ag (Ab (Ac (Au (Qx (oG rfl CM AV (gS2 _)) rfl (Qx (AO rfl call55 rfl (Gf ((Sv l v h2 hK hR2 hn).mono fun _ _ _ h=>h.2.2) _)) rfl (Qm rfl (BL (Qm rfl (Qm rfl (Al ?_))))))))));refine Av rfl (fun hz=>?_) (fun hz=>?_)
   ·exact absurd rfl hz
   ·refine Ag (Ab (Au (Qm rfl (Al (Ac (Au (Ql rfl U3 (eD _) (Qm rfl (Al ?_)))))))));refine Av rfl (fun hp1=>?_) (fun hp1=>?_)
    ·refine Ad (Qx (BH rfl rfl rfl) rfl (Qm rfl (BL (Qm rfl (BL (Qm rfl (Al (Ac (Au (Qx (oG rfl CM AV (gS2 _)) rfl (Qc call61 rfl (UG l v h2 hK hR2) (fun r h3 ms3 l3 hF=>?_))))))))))));obtain⟨l3',rfl,D,rfl,hD⟩:=hF
     have hD8:D<=8:=by
      rcases hD.2.2 with h|⟨c,hc,h⟩
      ·omega
      ·have:=(hK.F.bds hc).1;omega
     have hD1:=hD.1;obtain⟨o,ho⟩:∃o,cn l=o:=⟨_,rfl⟩
     have hrg:RgtF o:=by rw[<-ho];exact hK.F
     have hol:o.length<=100:=by rw[<-ho,Dy];exact hn
     rw[ho]at hD ⊢;refine Qx (oA rfl) rfl (Qm rfl (Al (Af (BG ?_))))
     refine Ax (fun q sl h' ms'=>∃(k x:Nat) (rk:Nat->Nat) (vo:Value) (mo:Hp),x=rk k/\(D+1).toNat-k=q/\sl=[(2,.pointer (some ⟨g2,0,none⟩)),(7,.func (.func 58) #[] #[.pointer (some ⟨g3,0,none⟩)]),(8,vo),(9,.int .i64 (x:Nat)),(29,.int .i64 (D+1)),(30,.int .i64 k)]/\h3.le h'/\ms'=[mo]/\(k:Int)<=D+1/\OwnL cI 1 3 mo vo (JF o rk k)/\rk 0=0/\∀n:Nat,n<k->Y1 p o (n+1) (rk (n+1)))
      ((D+1).toNat-0) _ ⟨0,0,fun _=>0,_,Hp.emp,rfl,rfl,rfl,DU,rfl,by omega,OwnL.nil Bl,rfl,fun n h=>by omega⟩ Qs ?_
     rintro q sl h' ms' ⟨k,xk,rk,vo,mo,hxk,rfl,rfl,lh,rfl,hk,hO,hr0,hrk⟩;have l2h:=AI l3' lh;have hRh:=hR2.up l2h;have gS2:∀ms,Seg h' ms (⟨g2,0,none⟩:Addr) [v]:=fun ms=>(hS2.le l2h).any;have ovo:=hO.o1;refine Au (Qm rfl (Al (Ac ?_)));refine Av rfl (fun hlt=>?_) (fun hlt=>?_)
     ·refine Ag (Ab (Ac (Af (Au (Qm rfl (Qm rfl (BL (Qm rfl (Qx (oG rfl CM AV (gS2 _)) rfl (Qm rfl (Qx (oA rfl) rfl (Qc call62 rfl (Sx l v ((k:Int)+1) (by omega) h' hK hRh (by omega)) (fun z h4 ms4 l4 hF=>?_)))))))))))));obtain⟨l4',ev,m,rfl,rfl,hM⟩:=hF;have hk1:(k:Int)+1-1=k:=by omega
      rw[ho,hk1]at hM;simp only[ho,hk1];have hrl:(Bt o (k:Int)).length<=100:=Nat.le_trans (FH o _) hol;have hcl:(Bt o ((k:Int)+1)).length<=100:=Nat.le_trans (FH o _) hol;refine Bw hM fun h5 l5 hQ=>?_;have l25:=AI l2h (AI l4' l5);have eD5:∀ms,Cell h5 ms (⟨g3,0,none⟩:Addr) (.int .i64 p):=fun ms=>(eD ms).le l25;refine GX (pre:=[]) rfl rfl call58 rfl (Tl p _ _ (HG o ((k:Int)+1)) hP hp2 (by omega) (by omega) (fun i _ j hj=>ZA hrg _ i j hj) g3 ev h5 eD5 hQ) rfl rfl rfl rfl (fun x h6 pre' l6 hF=>?_);obtain⟨l6',rfl,F,pv,rfl,hE⟩:=hF;have l26:=AI l25 l6';have gS6:∀ms,Seg h6 ms (⟨g2,0,none⟩:Addr) [v]:=fun ms=>(hS2.le l26).any;refine Qm rfl (BL (Qm rfl (Qx (oG rfl CM AV (gS6 _)) rfl (Qm rfl (Qc call63 rfl (M7 l v (k:Int) h6 hK (hR2.up l26)) (fun w h7 ms7 l7 hF=>?_))))));obtain⟨l7',mi,rfl,hOi⟩:=hF;rw[ho]at hOi;change OwnL cI 1 3 mi w (Bt o (k:Int)) at hOi;have hil:(Bt o (k:Int)).length<=100:=Nat.le_trans (FH o _) hol;have hpl:pv.length<=100:=Nat.le_trans hE.red.len hrl
      have hrkk:xk<=100:=by
       rw[hxk];by_cases hk0:k=0
       ·rw[hk0,hr0];omega
       ·obtain⟨F',pv',hE',e'⟩:=hrk (k-1) (by omega);have e1:k-1+1=k:=by omega
        rw[e1]at e';rw[e'];exact Nat.le_trans hE'.red.len (Nat.le_trans (FH o _) hol)
      have rI:=(hOi.rd (h:=h7) (ms:=[mi]) Mh).rd;have ow:=rI.one;refine Qx (DO rI rfl AR rfl) rfl (Qm rfl (Qx (oS rfl) rfl (Qm rfl (Qx (oS rfl) rfl (An [_] rfl AR Be rfl (by rfl) rfl rfl (by omega) rfl rfl rfl (fun g48=>?_))))));have hbl:(JF o rk k).length<=1000000:=by unfold JF;rw[length_map,length_range];omega
      refine AQ 2 hO (RdL.one Bl (x:=((Bt o (k:Int)).length:Int)-xk-pv.length) Mh rfl) rfl AR Be rfl (by omega) rfl rfl rfl Cm (by simp only[length_singleton];omega) (by simp only[length_singleton];omega) rfl rfl rfl (fun v6 m6 hO6=>?_);have ov6:=hO6.o1;refine Qm rfl (Gn (Qm rfl (Qm rfl (Aj (Ai (Ab (Ad (Qx (oA rfl) rfl (Qm rfl (Aj ?_))))))))));refine AL (AL ?_);obtain⟨rk',hra,hrb⟩:∃rk':Nat->Nat,rk' (k+1)=pv.length/\∀n,n≠k+1->rk' n=rk n:=⟨fun n=>if n=k+1 then pv.length else rk n,by simp,fun n hn=>by simp[hn]⟩
      have hk1:JF o rk k++[((Bt o (k:Int)).length:Int)-xk-pv.length]=JF o rk' (k+1):=by rw[V3,Rz (rk:=rk) (rk':=rk') (fun n hn=>(hrb n (by omega)).symm),hrb k (by omega),hra,hxk]
      rw[hk1]at hO6
      exact Ak ((D+1).toNat-(k+1)) _ (by omega) ⟨k+1,pv.length,rk',v6,m6,hra.symm,rfl,rfl,AI lh (AI l4' (AI l5 (AI l6' l7'))),rfl,by omega,hO6,by rw[hrb 0 (by omega),hr0],fun n hn=>by
       by_cases e:n=k
       ·subst e;have e1:(n:Int)+1-1=n:=by omega
        rw[hra];unfold Y1;rw[e1];exact⟨F,pv,hE,rfl⟩
       ·rw[hrb (n+1) (by omega)]
        exact hrk n (by omega)⟩ Qs
     ·have hkD:k=(D+1).toNat:=by omega
      subst hkD;refine As (Aa (Aa (Ae (Ab (Au (Qm rfl (Qm rfl (Qm rfl (Al (Ao ?_))))))))));exact BP rfl rfl rfl (⟨AI l1 (AI l2 l2h),D,rk,vo,mo,rfl,rfl,hO,hD,hr0,hrk⟩)
    ·exact absurd hp0 hp1
 ·exact absurd (by omega) hp0
end Go.Proofs.Q
namespace Go.Proofs.Q
open Go.Proofs.Tryz
open Go.Eng Go.RowKit
variable {A W:List CeO} {pr:CeO->Bool} {i j:Nat}
def ON(A:List CeO)(pr:CeO->Bool):Int:=match A.findIdx? pr with|some k=>k|none=>-1
theorem Rq{k:Nat}(hk:k<A.length)(h:pr A[k]=true)(hno:∀j (hj:j<A.length),j<k->pr A[j]=false):ON A pr=k:=by
 unfold ON
 have:A.findIdx? pr=some k:=by rw[List.findIdx?_eq_some_iff_getElem];exact⟨hk,h,fun j hj=>by rw[hno j (by omega) hj];simp⟩
 rw[this]
theorem Su(hno:∀j (hj:j<A.length),pr A[j]=false):ON A pr=-1:=by
 unfold ON
 have:A.findIdx? pr=none:=by rw[List.findIdx?_eq_none_iff];intro a ha;obtain⟨j,hj,rfl⟩:=getElem_of_mem ha;exact hno j hj
 rw[this]
structure DelI(A W:List CeO)(pr:CeO->Bool)(i j:Nat):Prop where
 len:W.length=A.length
 ij:i<=j
 jn:j<=A.length
 tk:W.take i=(A.take j).filter fun a=>!pr a
 dr:W.drop j=A.drop j
theorem DelI.start{k:Nat}(hk:k<A.length)(h:pr A[k]=true)(hno:∀j (hj:j<A.length),j<k->pr A[j]=false):DelI A A pr k (k+1):=by
 refine⟨rfl,by omega,by omega,?_,rfl⟩;rw[take_succ_eq_append_getElem hk,filter_append];have e1:[A[k]].filter (fun a=>!pr a)=[]:=by simp[h]
 have e2:(A.take k).filter (fun a=>!pr a)=A.take k:=by rw[List.filter_eq_self];intro a ha;obtain⟨j,hj,rfl⟩:=getElem_of_mem ha;rw[length_take]at hj;rw[List.getElem_take,hno j (by omega) (by omega)];rfl
 rw[e1,e2,append_nil]
theorem DelI.get(D:DelI A W pr i j)(hj:j<W.length)(hj':j<A.length):W[j]=A[j]:=by have h1:W.drop j=W[j]::W.drop (j+1):=List.drop_eq_getElem_cons hj;have h2:A.drop j=A[j]::A.drop (j+1):=List.drop_eq_getElem_cons hj';have:=D.dr;rw[h1,h2]at this;exact(List.cons.inj this).1
theorem DelI.next(D:DelI A W pr i j)(hj:j<A.length):W.drop (j+1)=A.drop (j+1):=by
 have:=congrArg (List.drop 1) D.dr
 rwa [List.drop_drop,List.drop_drop]at this
theorem DelI.del(D:DelI A W pr i j)(hj:j<A.length)(h:pr A[j]=true):DelI A W pr i (j+1):=by refine⟨D.len,by have:=D.ij;omega,by omega,?_,D.next hj⟩;rw[take_succ_eq_append_getElem hj,filter_append,<-D.tk];simp[h]
theorem DelI.keep(D:DelI A W pr i j)(hj:j<A.length)(h:pr A[j]=false):DelI A (W.set i A[j]) pr (i+1) (j+1):=by
 have hij:=D.ij;have hl:=D.len;refine⟨by rw[length_set,D.len],by omega,by omega,?_,?_⟩
 ·rw[take_succ_eq_append_getElem hj,filter_append,<-D.tk];have hi:i<(W.set i A[j]).length:=by rw[length_set];omega
  rw[take_succ_eq_append_getElem hi,List.getElem_set_self,List.take_set_of_le (Nat.le_refl _)];simp[h]
 ·rw[List.drop_set_of_lt (by omega),D.next hj]
theorem RV(A:List CeO)(v:Value)(cf:FuncId)(cs:List Value)(pr:CeO->Bool)(h:Hp)(hR:RdL Hh 3 h [] v A)(hn:A.length<=100000)
  (hc:∀xs w,(callFunc cf xs).run Tryz.prog w=.ok (.enter cf xs) w)
  (hp:∀a∈A,∀h',h.le h'->∀ms,FnV Tryz.prog cf ([]++[Value.agg (Hh a).toArray]++cs).toArray h' ms (.bool (pr a))) :
  FnT Tryz.prog 141 #[v,.func (.func cf) #[] cs.toArray] h [] (fun r _ _=>r=.int .i64 (ON A pr)):=by
 have ov:=hR.rd.one;refine Ap func141 ntmps141 rfl rfl (fun w0 hw0=>?_);simp only[AU];refine Au (Qm rfl (Al (Ac (Au (Qm rfl (Qx (Ar hR.rd.any rfl Bk rfl) rfl (Qm rfl (Al (Af ?_)))))))))
 refine Ax (fun q s h' ms'=>∃(k:Nat),q=A.length-k/\s=[(0,v),(1,.func (.func cf) #[] cs.toArray),(7,.int .i64 A.length),(8,.int .i64 k)]/\h=h'/\ms'=[]/\k<=A.length/\∀j (hj:j<A.length),j<k->pr A[j]=false)
  (A.length-0) _ ⟨0,rfl,rfl,rfl,rfl,by omega,fun j _ hj=>by omega⟩ Qs ?_
 rintro q s h' ms' ⟨k,rfl,rfl,rfl,rfl,hk,hno⟩;refine Au (Qm rfl (Al (Ac ?_)));refine Av rfl (fun hlt=>?_) (fun hlt=>?_)
 ·have hkn:k<A.length:=by omega
  obtain⟨x,hx⟩:∃x,A[k]=x:=⟨_,rfl⟩
  have gX:∀ms,Seg h ms ((AF v).add (k*3)) (Hh x):=fun ms=>by rw[<-hx];exact(hR.any (ms:=ms)).seg hkn
  have oxv:=x.one;refine Ag (Ab (Ac (Af (Au (Qm rfl (Qm rfl (BL (Qm rfl (Qm rfl (Qm rfl (Qx (BU (k) hR.rd.any rfl Bk AH rfl rfl) rfl (Qx (oG rfl EL AH (gX _)) rfl ?_))))))))))));refine Qx (BY rfl rfl hc rfl (hp x (by rw[<-hx];exact getElem_mem hkn) _ (DU) _)) rfl ?_;refine Al ?_;refine Bu rfl (fun hpk=>?_) (fun hpk=>?_)
  ·refine Ac (Ad (Qm rfl (Qm rfl (Al (Ao (Am (Ah (Ah (Am (Ah ?_))))))))));exact Az rfl rfl (by rw[Rq hkn (by rw[hx];exact hpk) hno])
  ·refine Ag (Ai (Ab (Ad (Qx (oA rfl) rfl (Qm rfl (Aj ?_))))));refine Ak (A.length-(k+1)) _ (by omega) ⟨k+1,rfl,rfl,rfl,rfl,by omega,fun j hj hj2=>?_⟩ Qs;rcases (by omega:j<k\/j=k) with h2|rfl
   ·exact hno j hj h2
   ·rw[hx];exact hpk
 ·refine As (Aa (Aa (Ae (Ab (Au (Qm rfl (Al (Ao ?_))))))));exact Az rfl rfl (by rw[Su fun j hj=>hno j hj (by omega)])
theorem Pg(A:List CeO)(v:Value)(m:Hp)(cf:FuncId)(cs:List Value)(pr:CeO->Bool)(h:Hp)(hO:OwnL Hh 3 52 m v A)(hn:A.length<=100000)
  (hc:∀xs w,(callFunc cf xs).run Tryz.prog w=.ok (.enter cf xs) w)
  (hp:∀a∈A,∀h',h.le h'->∀ms,FnV Tryz.prog cf ([]++[Value.agg (Hh a).toArray]++cs).toArray h' ms (.bool (pr a))) :
  FnT Tryz.prog 74 #[v,.func (.func cf) #[] cs.toArray] h [m] (fun r h' ms'=>h=h'/\∃m',ms'=[m']/\OwnL Hh 3 52 m' r (A.filter fun a=>!pr a)):=by
 have ov:=hO.o1;refine Ap func74 ntmps74 rfl rfl (fun w0 hw0=>?_);simp only[AU];refine Au (Qm rfl (BL (Qm rfl (Qm rfl (Qx (AO rfl call141 rfl (Co fun h' hl hm=>Gf (RV A v cf cs pr h' (hO.rdh (hm _ Mh)) hn hc fun a ha h2 l2=>hp a ha h2 (AI hl l2)) _)) rfl (Qm rfl (Al (Ac (Au (Qm rfl (Qm rfl (Al ?_))))))))))));obtain⟨q,hq⟩:∃q,ON A pr=q:=⟨_,rfl⟩
 have hcase:(q=-1/\A.filter (fun a=>!pr a)=A)\/∃k:Nat,q=k/\∃hk:k<A.length,pr A[k]=true/\∀j (hj:j<A.length),j<k->pr A[j]=false:=by
  rw[<-hq];cases h:A.findIdx? pr with
  | none=>
   have h1:=List.findIdx?_eq_none_iff.1 h;refine .inl ⟨by unfold ON;rw[h],?_⟩;rw[List.filter_eq_self];intro a ha;rw[h1 a ha];rfl
  | some k=>
   obtain⟨h1,h2,h3⟩:=List.findIdx?_eq_some_iff_getElem.1 h;exact .inr ⟨k,by unfold ON;rw[h],h1,h2,fun j hj hjk=>by simpa using h3 j hjk⟩
 rw[hq];refine Av rfl (fun hz=>?_) (fun hz=>?_)
 ·have hfl:A.filter (fun a=>!pr a)=A:=by
   rcases hcase with ⟨_,e⟩|⟨k,e,_⟩
   ·exact e
   ·omega
  refine Au (Qm rfl (Qm rfl (Al (Ao (Ah ?_)))));exact Az rfl rfl (⟨rfl,m,rfl,by rw[hfl];exact hO⟩)
 ·obtain⟨k,rfl,hk,hkp,hkn⟩:∃k:Nat,q=k/\∃hk:k<A.length,pr A[k]=true/\∀j (hj:j<A.length),j<k->pr A[j]=false:=by
   rcases hcase with ⟨e,_⟩|h
   ·exact absurd e hz
   ·exact h
  refine Ag (Ab (Ac (Au (Qm rfl (Qx (oA rfl) rfl (Qm rfl (Al (Af ?_))))))))
  refine Ax (fun q s h' ms'=>∃(i j:Nat) (W:List CeO) (m:Hp),A.length-j=q/\s=[(0,v),(1,.func (.func cf) #[] cs.toArray),(5,.int .i64 i),(6,.int .i64 j)]/\h=h'/\ms'=[m]/\OwnL Hh 3 52 m v W/\DelI A W pr i j)
   (A.length-(k+1)) _ ⟨k,k+1,A,m,rfl,rfl,rfl,rfl,hO,DelI.start hk hkp hkn⟩ Qs ?_
  rintro q s h' ms' ⟨i,j,W,m,rfl,rfl,rfl,rfl,hO,hD⟩;have hlW:=hD.len;have hij:=hD.ij;have hjn:=hD.jn;refine Ac (Au (Qm rfl (Qm rfl (Qx (Ar (hO.rd Mh).rd rfl Bk rfl) rfl (Qm rfl (Al ?_))))));refine Av rfl (fun hlt=>?_) (fun hlt=>?_)
  ·have hjA:j<A.length:=by omega
   have hjW:j<W.length:=by omega
   have hgx:=hD.get hjW hjA;obtain⟨x,hx⟩:∃x,A[j]=x:=⟨_,rfl⟩
   rw[hx]at hgx;have gX:∀ms,m∈ms->Seg h ms ((AF v).add (j*3)) (Hh x):=fun ms hm=>by rw[<-hgx];exact(hO.rd hm).seg hjW
   have oxv:=x.one;refine Ag (Ab (Ac (Af (Au (Qm rfl (Qm rfl (Qx (AB (j) (hO.rd Mh).rd rfl Bk AH rfl rfl (by omega) (by omega)) rfl (Qx (oG rfl EL AH (gX _ Mh)) rfl (CN [.int .i64 0,.int .i64 0,.slice none 0 0] rfl AH rfl rfl (fun g7=>?_))))))))));refine Sa 0 [_,_,_] AH rfl (by simp[ov,oxv]) ?_;refine BL (Qm rfl (Qx (oG rfl EL AH (Seg.blk 0 rfl)) rfl ?_));refine Qx (BY rfl rfl hc rfl (hp x (by rw[<-hx];exact getElem_mem hjA) _ (DU) _)) rfl ?_;refine Qm rfl (Al ?_);refine Bu rfl (fun hpk=>?_) (fun hpk=>?_)
   ·have hpf:pr A[j]=false:=by rw[hx];simpa using hpk
    have hk':=hD.keep hjA hpf;refine Au (Qm rfl (Qm rfl (Qx (oG rfl EL AH (Seg.blk 0 rfl)) rfl (Qx (AB (i) (hO.rd (List.Mem.tail _ Mh)).rd rfl Bk AH rfl rfl (by omega) (by omega)) rfl ?_))));refine FV 1 i x hO rfl AH rfl rfl rfl (MI x) rfl (show i<W.length by omega) rfl rfl (fun m' hO'=>?_);rw[hx]at hk';refine Gn (Qm rfl (Qx (oA rfl) rfl (Qm rfl (Aj (Ai (Ab (Ad (Qm rfl (Qx (oA rfl) rfl (Qm rfl (Aj (AL ?_))))))))))));exact Ak (A.length-(j+1)) _ (by omega) ⟨i+1,j+1,_,m',rfl,rfl,rfl,rfl,hO',hk'⟩ Qs
   ·have hpt:pr A[j]=true:=by rw[hx];simpa using hpk
    refine Ag (Ai (Ab (Ad (Qm rfl (Qx (oA rfl) rfl (Qm rfl (Aj (AL ?_))))))));exact Ak (A.length-(j+1)) _ (by omega) ⟨i,j+1,W,m,rfl,rfl,rfl,rfl,hO,hD.del hjA hpt⟩ Qs
  ·have hjl:j=A.length:=by omega
   subst hjl;refine As (Aa (Aa (Ae (Ab (Au (Qm rfl (Qm rfl (Qx (CA _ (hO.rd Mh).rd rfl Bk AH rfl rfl rfl (by omega)) rfl (Sp 0 i hO (by omega) rfl Bk AH rfl (by decide) rfl rfl rfl rfl (fun m' hO'=>?_))))))))));have htk:W.take i=A.filter fun a=>!pr a:=by have:=hD.tk;rwa [take_length]at this
   rw[htk]at hO';refine BL (Qm rfl (Qm rfl (Qx (Eo i (hO.rd (h:=h) (ms:=[m]) Mh).rd rfl Bk AH rfl rfl rfl (by omega)) rfl (Qm rfl (Al (Ao ?_))))));exact Az rfl rfl (⟨rfl,m',rfl,hO'⟩)
end Go.Proofs.Q
namespace Go.Proofs.Q
open Go.Proofs.Tryz
open Go.Eng Go.RowKit
def Ee(F:List (Int×Int))(t:Int)(o:List Cl):List Cl:=o.filter fun c=>decide (CJ (Bj F) c.id<=t)
theorem YI{lo:List CeO}{m:Hp}{v:Value}(O:OwnL cC 3 52 m v (lo.map JS)):OwnL Hh 3 52 m v lo:=⟨by have:=O.own;rwa [IU,length_map]at this,Jw⟩
theorem Xn(F:List (Int×Int))(x:CeO)(t:Int)(g1 g2 gA:Nat)(mA:Hp)(bs:List Nat)(h:Hp)(hO:Cn kN kN gA BC mA (Bj F) bs)(lA:mA.le h)(h1:∀ms,Cell h ms (⟨g1,0,none⟩:Addr) (.map (some gA)))(h2:∀ms,Cell h ms (⟨g2,0,none⟩:Addr) (.int .i64 t))(hs:BC x.c.id)(ms:List Hp) :
  FnV Tryz.prog 75 ([]++[Value.agg (Hh x).toArray]++[Value.pointer (some ⟨g1,0,none⟩),.pointer (some ⟨g2,0,none⟩)]).toArray h ms (.bool (decide (CJ (Bj F) x.c.id>t))):=by
 refine Gf ?_ ms;show FnT _ _ #[.agg #[.int .i64 x.c.id,.int .i64 x.c.dim,x.v],.pointer (some ⟨g1,0,none⟩),.pointer (some ⟨g2,0,none⟩)] _ _ _;have ox:=x.one;refine Ap func75 ntmps75 rfl rfl (fun w0 hw0=>?_);simp only[AU];refine Au (AX [_,_,_] rfl rfl (by rfl) rfl rfl rfl (fun g3=>Qm rfl (Al (AD fun h3 l3 hS=>?_))));have e0:∀ms,Cell h3 ms ((⟨g3,0,none⟩:Addr).add 0) (.int .i64 x.c.id):=fun ms=>(hS 0 _ rfl).any;have h1:∀ms,Cell h3 ms (⟨g1,0,none⟩:Addr) (.map (some gA)):=fun ms=>(h1 ms).le l3;have h2:∀ms,Cell h3 ms (⟨g2,0,none⟩:Addr) (.int .i64 t):=fun ms=>(h2 ms).le l3;refine Au (Ql rfl Jq (h1 _) (Qf By rfl (Ql rfl U3 (e0 _) (Qx (BI (V:=kN) (z:=(0:Int)) (u:=CJ (Bj F) x.c.id) x.c.id rfl A0 hO (AI lA l3) rfl Jq Gg rfl rfl hs) rfl (Ql rfl U3 (h2 _) (Qm rfl (Qm rfl (Al (Ao ?_)))))))));exact Az rfl rfl (rfl)
theorem Nw(l:List Ce)(F:List (Int×Int))(v vf:Value)(t:Int)(hp:Hp)(hK:RgC l)(hR:RdC hp v l)(hF:RdL cV 2 hp [] vf F)(hV:NM F)(h0:F9 (cn l) F=(0,0))(hl:l.length<=400) :
  FnT Tryz.prog 27 #[.agg #[v],vf,.int .i64 t] hp [] (fun r h' ms'=>hp.le h'/\∃m A v',ms'=[m]/\r=.agg #[v']/\OwnL cC 3 52 m v' A/\A.map Ce.c=Ee F t (cn l)/\∀a∈A,RdL cD 2 h' [] a.v a.c.sd):=by
 have o1:=hR.q.rd.one;have o2:=hF.rd.one;refine Ap func27 ntmps27 rfl rfl (fun w0 hw0=>?_);simp only[AU];refine Au (AX [_] rfl rfl (by rfl) rfl rfl rfl (fun g3=>AX [_] rfl rfl (by rfl) rfl rfl rfl (fun g5=>CN [.slice none 0 0] rfl AV rfl rfl (fun g6=>Al (Bo 1 rfl fun h1 l1 hS5=>(Bo 1 rfl fun h2 l2 hS3=>?_))))));have hR2:=(hR.up l1).up l2;have hF2:=(hF.up l1).up l2;have c3:∀ms,Seg h2 ms (⟨g3,0,none⟩:Addr) [v]:=fun ms=>hS3.any;have c5:∀ms,Cell h2 ms (⟨g5,0,none⟩:Addr) (.int .i64 t):=fun ms=>((hS5 0 _ rfl).any).le l2;refine Ac (Au (Qx (oG rfl CM AV (c3 _)) rfl (Qm rfl ?_)));refine Qx (AO rfl call24 rfl (Gf ((FL l F v vf h2 hK hR2 hF2 hV).mono fun r _ _ h=>by rw[h,h0]) _)) rfl ?_;refine Qm rfl (Qm rfl (Qm rfl (Qm rfl (Qm rfl (BL (Qm rfl (Qm rfl (Al ?_))))))));refine Av rfl (fun hz=>?_) (fun hz=>?_)
 ·exact absurd rfl hz
 ·refine Ag (Ab (Au (Qm rfl (Qc call66 rfl (IT F vf h2 hF2 hV.n hV.k) (fun rL h3 ms3 l3 hL=>?_)))));obtain⟨l3',gL,mL,bL,rfl,rfl,hOL⟩:=hL;refine CN [.map none] rfl Ww rfl rfl (fun g9=>AK 0 0 rfl Ww rfl rfl (by rfl) rfl rfl (by decide) rfl rfl (Al (AD fun h4 l4 hS9=>(Bd fun h5 l5 lmL=>?_))));have l25:=AI l3' (AI l4 l5);have c9:∀ms,Cell h5 ms (⟨g9,0,none⟩:Addr) (.map (some gL)):=fun ms=>((hS9 0 _ rfl).any).le l5;have c3:∀ms,Seg h5 ms (⟨g3,0,none⟩:Addr) [v]:=fun ms=>(c3 ms).le l25;have c5:∀ms,Cell h5 ms (⟨g5,0,none⟩:Addr) (.int .i64 t):=fun ms=>(c5 ms).le l25;refine Au (Qx (oG rfl CM AV (c3 _)) rfl (Qc call65 rfl (IG l v h5 hK (hR2.up l25)) (fun rC h6 ms6 l6 hQ=>?_)));obtain⟨l6',mC,A,vA,rfl,rfl,hOC,hAl,hsA⟩:=hQ;obtain⟨lo,e⟩:=exO (fun a ha=>(hsA a ha).rd.one);have e:lo.map JS=A:=e;have hlo:lo.length=l.length:=by have h1:=congrArg List.length hAl;rw[<-e]at h1;rw[Dy]at h1;simpa using h1
  have hOo:OwnL Hh 3 52 mC vA lo:=YI (by rw[e];exact hOC);have ovA:=hOC.o1;refine CN [.slice none 0 0] rfl AV rfl rfl (fun g10=>?_);refine Sa 0 [_] AV rfl (by simp[o1,o2,ovA]) ?_;refine BL (Qf BW rfl (Ql rfl Bk (Cell.blk 0 rfl rfl) (Qx (BH rfl rfl rfl) rfl ?_)))
  have hidI:∀a∈lo,BC a.c.id:=fun a ha=>by
   have h1:a.c∈cn l:=by rw[<-hAl,<-e,map_map];exact List.mem_map.2 ⟨a,ha,rfl⟩
   exact hK.cI h1
  refine MK 1 rfl (AY (pre:=[mC]) rfl call74 rfl (Pg lo vA mC 75 [Value.pointer (some ⟨g9,0,none⟩),.pointer (some ⟨g5,0,none⟩)] (fun x=>decide (CJ (Bj F) x.c.id>t)) h6 hOo (by omega) call75 (fun a ha h' l' ms=>Xn F a t g9 g5 gL mL bL h' hOL (AI lmL (AI l6 l')) (fun ms=>(c9 ms).le (AI l6 l')) (fun ms=>(c5 ms).le (AI l6 l')) (hidI a ha) ms)) rfl rfl rfl rfl (fun vD h7 ms7 l7 hF=>?_));obtain⟨rfl,mD,rfl,hOD⟩:=hF;have ovD:=hOD.o1;refine Qf BW rfl ?_;refine AK 1 _ rfl Jt rfl rfl (by assumption) rfl rfl (by(simp;done)) rfl rfl ?_;refine Al (Bo 1 rfl fun h8 l8 hS10=>?_);have c10:∀ms,Seg h8 ms (⟨g10,0,none⟩:Addr) [vD]:=fun ms=>hS10.any
  have hfe:(lo.filter fun x=>!decide (CJ (Bj F) x.c.id>t)).map JS=A.filter fun a=>decide (CJ (Bj F) a.c.id<=t):=by
   rw[<-e,List.filter_map];congr 1;refine List.filter_congr fun x _=>?_;show(!decide (CJ (Bj F) x.c.id>t))=decide (CJ (Bj F) x.c.id<=t);by_cases h:CJ (Bj F) x.c.id<=t
   ·rw[decide_eq_true h,decide_eq_false (by omega)];rfl
   ·rw[decide_eq_false h,decide_eq_true (by omega)];rfl
  have hOe:=T5 hOD;rw[hfe]at hOe
  have hfc:(A.filter fun a=>decide (CJ (Bj F) a.c.id<=t)).map Ce.c=Ee F t (cn l):=by unfold Ee;rw[<-hAl,List.filter_map];rfl
  refine Au (Qx (oG rfl CM AV (c10 _)) rfl ?_);refine Sa 1 [_] AV rfl (by simp[o1,o2,ovA,ovD]) ?_;refine Al (Ao ?_);have lpp:=AI l1 (AI l2 (AI l25 (AI l6 l8)));have hpost:=fun a (ha:a∈A.filter fun a=>decide (CJ (Bj F) a.c.id<=t))=>(hsA a (List.mem_filter.1 ha).1).up l8;exact Bs (vs:=[_]) 1 rfl rfl CM rfl AV rfl rfl (⟨lpp,mD,_,vD,rfl,rfl,hOe,hfc,hpost⟩)
end Go.Proofs.Q
namespace Go.Proofs.Q
open Go.Eng Go.RowKit
variable {o:List Cl}
theorem Rgt.filt(R:Rgt o){P:Cl->Bool}(hc:∀x∈o,P x=true->∀s∈x.sd,∀y∈o,y.id=s.1->P y=true):Rgt (o.filter P):=by
 have hm:∀{x},x∈o.filter P->x∈o:=fun h=>(List.mem_filter.1 h).1;have hnd:((o.filter P).map Cl.id).Nodup:=R.nd.sublist (List.filter_sublist.map _)
 have hsid:∀x∈o.filter P,∀s∈x.sd,∃y∈o.filter P,y.id=s.1/\y.dim=x.dim-1:=fun x hx s hs=>by obtain⟨y,hy,e1,e2⟩:=R.sid x (hm hx) s hs;exact⟨y,List.mem_filter.2 ⟨hy,hc x (hm hx) (List.mem_filter.1 hx).2 s hs y hy e1⟩,e1,e2⟩
 refine⟨Nat.le_trans (List.length_filter_le _ _) R.n,hnd,fun x hx=>R.pos x (hm hx),fun x hx=>R.dim x (hm hx),fun x hx=>R.num x (hm hx),fun x hx=>R.sds x (hm hx),hsid,fun x hx=>R.sgn x (hm hx),fun x hx=>R.one x (hm hx),fun x hx hd=>?_⟩
 have e:E4 (o.filter P) x=E4 o x:=by
  unfold E4 J9;refine Dz fun s hs=>?_;obtain⟨y,hy,e1,_⟩:=hsid x hx s hs
  have h1:FS (o.filter P) s.1=FS o s.1:=by rw[<-e1];unfold FS;rw[CL hnd hy,CL R.nd (hm hy)]
  simp only[h1]
 rw[e];exact R.tab x (hm hx) hd
theorem RgtF.can_eq(R:RgtF o){x:Cl}(hx:x∈o):x.can=x:=by have e:BX x.sd=x.sd:=Dc Prod.fst (BB _) (E2 _) (R.sinc x hx);unfold Cl.can;rw[e]
theorem RgtF.filt(R:RgtF o){P:Cl->Bool}(hc:∀x∈o,P x=true->∀s∈x.sd,∀y∈o,y.id=s.1->P y=true):RgtF (o.filter P):=by
 have h1:=(R.rgt.filt hc).ordF
 have e1:(o.filter P).map Cl.can=o.filter P:=by
  have:∀l:List Cl,(∀x∈l,x∈o)->l.map Cl.can=l:=fun l=>by
   induction l with
   | nil=>intro _;rfl
   | cons a l ih=>intro h;rw[map_cons,R.can_eq (h a Mh),ih fun x hx=>h x (List.mem_cons_of_mem _ hx)]
  exact this _ fun x hx=>(List.mem_filter.1 hx).1
 have h2:=De (o.filter P).length (o.filter P) (Nat.le_refl _);rw[e1]at h2;have h3:=Dc Cl.id h2 (En _ _ (Nat.le_refl _)) (R.inc.sublist List.filter_sublist)
 rwa [h3]at h1
theorem RgtF.sub(R:RgtF o){F:List (Int×Int)}(hmon:∀x∈o,∀s∈x.sd,CJ (Bj F) s.1<=CJ (Bj F) x.id)(t:Int):RgtF (Ee F t o):=
 R.filt fun x hx hP s hs y hy e=>by have h1:=of_decide_eq_true hP;have h2:=hmon x hx s hs;rw[<-e]at h2;exact decide_eq_true (by omega)
end Go.Proofs.Q
namespace Go.Proofs.Q
open Go.Proofs.Tryz
open Go.Eng Go.RowKit
theorem Lr(l:List Ce)(F:List (Int×Int))(v vf:Value)(t p:Int)(hp:Hp)(hK:RgC l)(hR:RdC hp v l)(hF:RdL cV 2 hp [] vf F)(hV:NM F)(h0:F9 (cn l) F=(0,0))(hmon:∀x∈cn l,∀s∈x.sd,CJ (Bj F) s.1<=CJ (Bj F) x.id)(hP:IsP p)(hp2:p<256)(hl:l.length<=100) :
  FnT Tryz.prog 19 #[.agg #[v],vf,.int .i64 t,.int .i64 p] hp [] (fun r h' ms'=>hp.le h'/\∃(D:Int) (rk:Nat->Nat) (w:Value) (m:Hp),r=.tuple #[w,.int .i64 0]/\ms'=[m]/\OwnL cI 1 3 m w (JF (Ee F t (cn l)) rk (D+1).toNat)/\Jb (Ee F t (cn l)) D/\rk 0=0/\∀n:Nat,n<(D+1).toNat->Y1 p (Ee F t (cn l)) (n+1) (rk (n+1))):=by
 have o1:=hR.q.rd.one;have o2:=hF.rd.one;refine Ap func19 ntmps19 rfl rfl (fun w0 hw0=>?_);simp only[AU];refine Au (AX [_] rfl rfl (by rfl) rfl rfl rfl (fun g4=>Qm rfl (Qm rfl (Al (AD fun h1 l1 hS4=>?_)))));have hR1:=hR.up l1;have hF1:=hF.up l1;have c4:∀ms,Seg h1 ms (⟨g4,0,none⟩:Addr) [v]:=fun ms=>hS4.any;refine Ac (Au (Qx (oG rfl CM AV (c4 _)) rfl (Qm rfl ?_)));refine Qx (AO rfl call24 rfl (Gf ((FL l F v vf h1 hK hR1 hF1 hV).mono fun r _ _ h=>by rw[h,h0]) _)) rfl ?_;refine Qm rfl (Qm rfl (Qm rfl (Qm rfl (Qm rfl (BL (Qm rfl (Qm rfl (Al ?_))))))));refine Av rfl (fun hz=>?_) (fun hz=>?_)
 ·exact absurd rfl hz
 ·refine Ag (Ab (Au (Qx (oG rfl CM AV (c4 _)) rfl (Qm rfl (Qm rfl (Qc call27 rfl (Nw l F v vf t h1 hK hR1 hF1 hV h0 (by omega)) (fun rS h2 ms2 l2 hS=>?_)))))));obtain⟨l2',mS,A,vA,rfl,rfl,hOS,hA,hsA⟩:=hS;refine Bw hOS fun h3 l3 hRA=>?_
  have hAl:A.length<=100:=by have h1:=congrArg List.length hA;rw[length_map]at h1;rw[h1];refine Nat.le_trans (List.length_filter_le _ _) ?_;rw[Dy];exact hl
  have hFA:RgtF (A.map Ce.c):=by rw[hA];exact hK.F.sub hmon t
  have hKA:RgC A:=⟨hFA.rgt,fun a ha=>by
   have h1:a.c∈Ee F t (cn l):=by rw[<-hA];exact List.mem_map.2 ⟨a,ha,rfl⟩
   exact hK.ci (List.mem_filter.1 h1).1⟩
  have hRC:RdC h3 vA A:=⟨hRA,fun a ha=>(hsA a ha).up l3⟩
  have oA_:=hRA.rd.one;refine Qm rfl (Qc call20 rfl (Nk A vA p h3 hP hp2 hKA hRC hAl) (fun rB h4 ms4 l4 hB=>?_));obtain⟨l4',D,rk,w,m,rfl,rfl,hO,hD,hr0,hrk⟩:=hB;rw[T9 hFA,hA]at hO hD hrk;have ow:=hO.o1;refine Qm rfl (Qm rfl (Qm rfl (Qm rfl (Al (Ao ?_)))));exact BP rfl rfl rfl (⟨AI l1 (AI l2 (AI l3 l4)),D,rk,w,m,rfl,rfl,hO,hD,hr0,hrk⟩)
end Go.Proofs.Q
namespace Go.Proofs.Q
open Go.Eng Go.RowKit Go.Lin
variable {i j:Nat}
def CW(S:List Ce)(i:Nat):Cl:=(S.getD i default).c
theorem FT{S:List Ce}(h:i<S.length):CW S i=S[i].c:=by unfold CW;simp[List.getD,h]
structure PerH(p:Int)(F:List (Int×Int))(l S:List Ce)(R V:Nat->List Int):Prop where
 P:PersF p F l S R V
 hp:IsP p
 G:Rgt (cn l)
 mon:∀x∈cn l,∀s∈x.sd,CJ (Bj F) s.1<=CJ (Bj F) x.id
section
variable {p:Int} {F:List (Int×Int)} {l S:List Ce} {R V:Nat->List Int}
theorem PerH.nd(H:PerH p F l S R V):(S.map fun a=>a.c.id).Nodup:=by
 have:=(H.P.perm.map Cl.id).nodup_iff.2 H.G.nd
 rwa [map_map]at this
theorem PerH.mem(H:PerH p F l S R V)(h:i<S.length):CW S i∈cn l:=by rw[FT h];exact H.P.perm.mem_iff.1 (List.mem_map.2 ⟨_,getElem_mem h,rfl⟩)
theorem PerH.inj(H:PerH p F l S R V)(hi:i<S.length)(hj:j<S.length)(h:(CW S i).id=(CW S j).id):i=j:=by
 rw[FT hi,FT hj]at h;have hp:=List.pairwise_iff_getElem.1 H.nd;rcases Nat.lt_trichotomy i j with h1|h1|h1
 ·have:=hp i j (by simpa using hi) (by simpa using hj) h1;simp only[getElem_map]at this;exact absurd h this
 ·exact h1
 ·have:=hp j i (by simpa using hj) (by simpa using hi) h1;simp only[getElem_map]at this;exact absurd h.symm this
theorem PerH.place(H:PerH p F l S R V){y:Cl}(hy:y∈cn l):∃m,m<S.length/\CW S m=y:=by obtain⟨a,ha,rfl⟩:=List.mem_map.1 (H.P.perm.mem_iff.2 hy);obtain⟨m,hm,rfl⟩:=getElem_of_mem ha;exact⟨m,hm,FT hm⟩
theorem PerH.before(H:PerH p F l S R V)(hj:j<S.length){s:Int×Int}(hs:s∈(CW S j).sd):∃m,m<j/\(CW S m).id=s.1/\(CW S m).dim=(CW S j).dim-1:=by
 obtain⟨y,hy,e1,e2⟩:=H.G.sid _ (H.mem hj) s hs;obtain⟨m,hm,rfl⟩:=H.place hy;refine⟨m,?_,e1,e2⟩;have hf:=H.mon _ (H.mem hj) s hs;rw[<-e1]at hf;refine Classical.byContradiction fun hn=>?_;rcases (by omega:m=j\/j<m) with rfl|h
 ·omega
 ·have:=List.pairwise_iff_getElem.1 H.P.srt j m hj hm h;rw[<-FT hj,<-FT hm]at this;omega
def EM(S:List Ce)(i k:Nat):Int:=sgn (CW S k).sd (CW S i).id
theorem QV(H:PerH p F l S R V)(hj:j<S.length)(hi:i<S.length):∀k,k<=(CW S j).sd.length->Cg p ((EY p S j k).getD i 0) (sgn ((CW S j).sd.take k) (CW S i).id)
 | 0,_=>by
  have:(EY p S j 0).getD i 0=0:=by unfold EY;simp[List.getD,hi]
  rw[this,take_zero,GV];exact Cg.refl _ _
 | k+1,hk=>by
  have ih:=QV H hj hi k (by omega);have hkl:k<(S.getD j default).c.sd.length:=by unfold CW at hk;omega
  have hkl':k<(CW S j).sd.length:=hkl;obtain⟨s,hs⟩:∃s,(CW S j).sd[k]=s:=⟨_,rfl⟩
  have hs':(S.getD j default).c.sd[k]=s:=hs
  have hcs:EY p S j (k+1)=(EY p S j k).set (pl S (j+1) s.1) ((s.2+p)%p):=by rw[<-hs'];exact Lw hkl
  rw[hcs,take_succ_eq_append_getElem hkl',Kw,hs];have hsm:s∈(CW S j).sd:=by rw[<-hs];exact getElem_mem hkl'
  obtain⟨m,hm,e1,e2⟩:=H.before hj hsm
  have hpl:pl S (j+1) s.1=m:=by rw[<-e1];exact Zc H.nd (by omega) (by omega)
  rw[hpl];have hpp:0<p:=by have:=H.hp.1;omega
  by_cases him:i=m
  ·subst him
   have hz:sgn ((CW S j).sd.take k) (CW S i).id=0:=Ky fun s' hs2 e=>by have h1:=List.pairwise_iff_getElem.1 (H.G.sds _ (H.mem hj));obtain⟨t,ht,rfl⟩:=getElem_of_mem hs2;rw[length_take]at ht;have:=h1 t k (by simp;omega) (by simpa using hkl') (by omega);rw[getElem_map,getElem_map,hs]at this;rw[List.getElem_take]at e;exact this (e.trans e1)
   have hlt:i<(EY p S j k).length:=by rw[Fv];exact hi
   rw[hz,if_pos e1.symm];have hv:((EY p S j k).set i ((s.2+p)%p)).getD i 0=(s.2+p)%p:=by simp[List.getD,hlt]
   rw[hv,Int.zero_add];have h5:=(Cg.mod p (s.2+p)).trans ((Cg.refl p s.2).add (Cg.self p))
   rwa [Int.add_zero]at h5
  ·have hne:s.1≠(CW S i).id:=fun e=>him (H.inj hi (by omega) (by rw[e1,e]));rw[if_neg hne,Int.add_zero]
   have hv:((EY p S j k).set m ((s.2+p)%p)).getD i 0=(EY p S j k).getD i 0:=by simp[List.getD,List.getElem?_set_ne (Ne.symm him)]
   rw[hv];exact ih
theorem Qu(H:PerH p F l S R V)(hj:j<S.length)(hi:i<S.length):Cg p ((Js p S j).getD i 0) (EM S i j):=by have:=QV H hj hi (CW S j).sd.length (Nat.le_refl _);rw[take_length]at this;exact this
end
end Go.Proofs.Q
namespace Go.Proofs.Q
open Go.Eng Go.RowKit Go.Lin
variable {i k j:Nat} {o o':List Cl}
section
variable {p:Int} {F:List (Int×Int)} {l S:List Ce} {R V:Nat->List Int}
structure ColI(p:Int)(S:List Ce)(k:Nat)(r v:List Int):Prop where
 rl:r.length=S.length
 vl:v.length=S.length
 eq:∀i,i<S.length->Cg p (r.getD i 0) (E3 S.length (EM S) (fun m=>v.getD m 0) i)
 one:v.getD k 0=1
 aft:∀i,k<i->v.getD i 0=0
 vd:∀i,i<S.length->v.getD i 0≠0->(CW S i).dim=(CW S k).dim
 rd:∀i,i<S.length->r.getD i 0≠0->(CW S k).dim=(CW S i).dim+1
theorem Gx{n:Nat}(hk:k<n)(i:Nat):(EX n k).getD i 0=if i=k then 1 else 0:=by
 unfold EX;by_cases e:i=k
 ·subst e;simp[List.getD,hk]
 ·rw[if_neg e];simp only[List.getD];rw[List.getElem?_set_ne (Ne.symm e)];by_cases h:i<n
  ·simp[h]
  ·simp[List.getElem?_eq_none (show(replicate n (0:Int)).length<=i by simp;omega)]
theorem PerH.col0(H:PerH p F l S R V)(hk:k<S.length):ColI p S k (Js p S k) (EX S.length k):=by
 have hp:=H.hp.1;refine⟨Fv _ _ _ _,LV _ _,fun i hi=>?_,?_,fun i hi=>?_,fun i hi h=>?_,fun i hi h=>?_⟩
 ·refine(Qu H hk hi).trans (Cg.of_eq ?_);unfold E3;rw[F1 S.length k _ hk fun m hm hne=>by show EM S i m*(EX S.length k).getD m 0=0;rw[Gx hk,if_neg hne,Int.mul_zero]];show EM S i k=EM S i k*(EX S.length k).getD k 0;rw[Gx hk,if_pos rfl,Int.mul_one]
 ·rw[Gx hk,if_pos rfl]
 ·rw[Gx hk,if_neg (by omega)]
 ·rw[Gx hk]at h;split at h
  ·rename_i e;rw[e]
  ·exact absurd rfl h
 ·have hE:EM S i k≠0:=fun e=>h (by
   have h1:=Qu H hk hi;rw[e]at h1
   exact h1.eq (FE (by omega) (NW (by omega) S k _) i) ⟨by omega,by omega⟩)
  obtain⟨s,hs,e⟩:=Ml hE;obtain⟨m,hm,e1,e2⟩:=H.before hk hs;have:m=i:=H.inj (by omega) hi (by rw[e1,e]);subst this;omega
theorem Wc(n:Nat)(D:Nat->Nat->Int)(x y:Nat->Int)(c:Int)(i:Nat):E3 n D (fun k=>x k+c*y k) i=E3 n D x i+c*E3 n D y i:=by unfold E3;rw[<-EP,<-GH];exact Ba fun k _=>by rw[Int.mul_add,<-Int.mul_assoc,<-Int.mul_assoc,Int.mul_comm c]
theorem ColI.step{k' i0:Nat}{t:Int}{r v r' v':List Int}(hp:2<=p)(C:ColI p S k r v)(C':ColI p S k' r' v')(hk:k'<k)(hi0:i0<S.length)(h1:r.getD i0 0≠0)(h2:r'.getD i0 0≠0):ColI p S k (Ft p r r' t) (Ft p v v' t):=by
 have lr:r.length=r'.length:=C.rl.trans C'.rl.symm;have lv:v.length=v'.length:=C.vl.trans C'.vl.symm
 have hd:(CW S k').dim=(CW S k).dim:=by have:=C.rd i0 hi0 h1;have:=C'.rd i0 hi0 h2;omega
 refine⟨by rw[ET lr,C.rl],by rw[ET lv,C.vl],fun i hi=>?_,?_,fun i hi=>?_,fun i hi h=>?_,fun i hi h=>?_⟩
 ·rw[Ef lr];refine(Cg.mod p _).trans (((C.eq i hi).add ((Cg.refl p t).mul (C'.eq i hi))).trans ?_);rw[<-Wc];exact O4 (fun m _=>by rw[Ef lv];exact(Cg.mod p _).symm) i
 ·rw[Ef lv,C.one,C'.aft k hk,Int.mul_zero,Int.add_zero];exact Int.emod_eq_of_lt (by omega) (by omega)
 ·rw[Ef lv,C.aft i hi,C'.aft i (by omega),Int.mul_zero,Int.add_zero];rfl
 ·rw[Ef lv]at h;by_cases e:v.getD i 0=0
  ·by_cases e':v'.getD i 0=0
   ·rw[e,e',Int.mul_zero]at h;exact absurd rfl h
   ·rw[C'.vd i hi e',hd]
  ·exact C.vd i hi e
 ·rw[Ef lr]at h;by_cases e:r.getD i 0=0
  ·by_cases e':r'.getD i 0=0
   ·rw[e,e',Int.mul_zero]at h;exact absurd rfl h
   ·rw[<-hd];exact C'.rd i hi e'
  ·exact C.rd i hi e
theorem PerH.ops(H:PerH p F l S R V)(ih:∀k',k'<k->ColI p S k' (R k') (V k')){r0 v0 r v:List Int}(C:ColI p S k r0 v0)(h:Ops p S.length k R V r0 v0 r v):ColI p S k r v:=by
 induction h with
 | refl=>exact C
 | step h hk hi h0 h1 h2 h3 ih'=>exact ih'.step H.hp.1 (ih _ hk) hk hi h2 h3
theorem PerH.col(H:PerH p F l S R V):∀k,k<S.length->ColI p S k (R k) (V k):=fun k=>by
 induction k using Nat.strongRecOn with
 | ind k ih=>
  intro hk;obtain⟨la,A⟩:=H.P.all;exact H.ops (fun k' hk'=>ih k' hk' (by omega)) (H.col0 hk) (A.ops k hk)
end
def tr(o o':List Cl)(i:Nat):Nat:=N8 o' (o.getD i default).id
theorem LR(h:o.Perm o')(hn:(o.map Cl.id).Nodup)(hi:i<o.length):tr o o' i<o.length/\o'.getD (tr o o' i) default=o.getD i default:=by have:=GU (h.mem_iff.1 (DC hi)) ((h.map Cl.id).nodup_iff.1 hn);exact⟨by rw[h.length_eq];exact this.1,this.2⟩
theorem JY(h:o.Perm o')(hn:(o.map Cl.id).Nodup)(hi:i<o.length):tr o' o (tr o o' i)=i:=by obtain⟨h1,h2⟩:=LR h hn hi;have hn':=(h.map Cl.id).nodup_iff.1 hn;obtain⟨h3,h4⟩:=LR h.symm hn' (i:=tr o o' i) (by rw[<-h.length_eq];exact h1);exact Kz hn (by rw[h.length_eq];exact h3) hi (by rw[h4,h2])
theorem UV(h:o.Perm o')(hn:(o.map Cl.id).Nodup)(hi:i<o.length)(hj:j<o.length)(e:tr o o' i=tr o o' j):i=j:=by rw[<-JY h hn hi,e,JY h hn hj]
theorem ZK{n:Nat}{π ρ:Nat->Nat}(f:Nat->Int)(h1:∀i,i<n->π i<n)(h2:∀i,i<n->ρ i<n)(h3:∀i,i<n->π (ρ i)=i)(h4:∀i,i<n->ρ (π i)=i):sm n (fun i=>f (π i))=sm n f:=by rw[Ba (g:=fun i=>sm n fun m=>if m=π i then f m else 0) fun i hi=>(HI n (π i) f (h1 i hi)).symm,Jz];refine Ba fun m hm=>?_;rw[F1 n (ρ m) _ (h2 m hm) fun i hi hne=>if_neg fun e=>hne (by rw[e,h4 i hi]),if_pos (h3 m hm).symm]
theorem Lz{l:List Int}(h:A3 l<0)(i:Nat):l.getD i 0=0:=by
 rcases HU l with ⟨k,hk,e,_⟩|⟨e,h1⟩
 ·omega
 ·by_cases hi:i<l.length
  ·rw[show l.getD i 0=l[i] by simp[List.getD,hi]];exact h1 i hi
  ·simp[List.getD,List.getElem?_eq_none (show l.length<=i by omega)]
def vO(o:List Cl)(S:List Ce)(V:Nat->List Int)(j i:Nat):Int:=(V (tr o (S.map Ce.c) j)).getD (tr o (S.map Ce.c) i) 0
noncomputable def O5(o:List Cl)(S:List Ce)(R:Nat->List Int)(j:Nat):Option Nat:=if 0<=A3 (R (tr o (S.map Ce.c) j)) then some (tr (S.map Ce.c) o (A3 (R (tr o (S.map Ce.c) j))).toNat) else none
theorem Mg{S:List Ce}(h:i<S.length):(S.map Ce.c).getD i default=CW S i:=by rw[FT h];simp[List.getD,h]
def ZH(o:List Cl)(i:Nat):Int:=(o.getD i default).dim
section
variable {p:Int} {F:List (Int×Int)} {l S:List Ce} {R V:Nat->List Int}
theorem PerH.lenS(H:PerH p F l S R V):S.length=(cn l).length:=by have:=H.P.perm.length_eq;simpa using this
theorem PerH.trS(H:PerH p F l S R V)(hi:i<S.length):tr (cn l) (S.map Ce.c) i<S.length/\CW S (tr (cn l) (S.map Ce.c) i)=(cn l).getD i default:=by
 have h1:=LR H.P.perm.symm H.G.nd (i:=i) (by rw[<-H.lenS];exact hi);have h2:tr (cn l) (S.map Ce.c) i<S.length:=by rw[H.lenS];exact h1.1
 exact⟨h2,by rw[<-Mg h2];exact h1.2⟩
theorem PerH.bndS(H:PerH p F l S R V)(hj:j<S.length)(hi:i<S.length):E3 S.length (DM (cn l)) (vO (cn l) S V j) i=E3 S.length (EM S) (fun m=>(V (tr (cn l) (S.map Ce.c) j)).getD m 0) (tr (cn l) (S.map Ce.c) i):=by
 have hnS:((S.map Ce.c).map Cl.id).Nodup:=(H.P.perm.map Cl.id).nodup_iff.2 H.G.nd;unfold E3;rw[<-ZK (π:=tr (cn l) (S.map Ce.c)) (ρ:=tr (S.map Ce.c) (cn l)) (fun m=>EM S (tr (cn l) (S.map Ce.c) i) m*(V (tr (cn l) (S.map Ce.c) j)).getD m 0) (fun k hk=>(H.trS hk).1) (fun k hk=>?_) (fun k hk=>?_) (fun k hk=>?_)]
 ·refine Ba fun k hk=>?_;show DM _ i k*(V _).getD _ 0=EM S _ _*_;congr 1;unfold DM EM;rw[(H.trS hk).2,(H.trS hi).2]
 ·have:=(LR H.P.perm hnS (i:=k) (by simpa using hk)).1;simpa using this
 ·exact JY H.P.perm hnS (by simpa using hk)
 ·exact JY H.P.perm.symm H.G.nd (by rw[<-H.lenS];exact hk)
theorem PerH.lowS(H:PerH p F l S R V)(hj:j<S.length):O5 (cn l) S R j=some i<->i<S.length/\A3 (R (tr (cn l) (S.map Ce.c) j))=tr (cn l) (S.map Ce.c) i:=by
 have hnS:((S.map Ce.c).map Cl.id).Nodup:=(H.P.perm.map Cl.id).nodup_iff.2 H.G.nd;have C:=H.col _ (H.trS hj).1;unfold O5;constructor
 ·intro h;split at h
  ·rename_i h0;cases h;have h1:=(Gw (R (tr (cn l) (S.map Ce.c) j))).2;rw[C.rl]at h1;have h2:(A3 (R (tr (cn l) (S.map Ce.c) j))).toNat<(S.map Ce.c).length:=by rw[length_map];omega
   have h3:=LR H.P.perm hnS h2;have h4:=JY H.P.perm hnS h2;refine⟨by simpa using h3.1,?_⟩;rw[h4,Int.toNat_of_nonneg h0]
  ·cases h
 ·rintro⟨hi,h⟩;rw[h,if_pos (by omega),Int.toNat_natCast,JY H.P.perm.symm H.G.nd (by rw[<-H.lenS];exact hi)]
theorem PerH.rdc(H:PerH p F l S R V):Rdc p S.length (DM (cn l)) (ZH (cn l)) (tr (cn l) (S.map Ce.c)) (vO (cn l) S V) (O5 (cn l) S R):=by
 have hp:=H.hp.1;obtain⟨la,A⟩:=H.P.all;have e1:=H.lenS
 have hR:∀k,k<S.length->∀i,p∣(R k).getD i 0->(R k).getD i 0=0:=fun k hk i hd=>by have:=FE (by omega) (A.red.rr k hk) i;exact(Cg.eq (cgz.2 hd) this ⟨by omega,by omega⟩)
 have hb:∀j i,j<S.length->i<S.length->(p∣E3 S.length (DM (cn l)) (vO (cn l) S V j) i<->(R (tr (cn l) (S.map Ce.c) j)).getD (tr (cn l) (S.map Ce.c) i) 0=0):=fun j i hj hi=>by have ht:=(H.trS hj).1;rw[H.bndS hj hi,<-((H.col _ ht).eq _ (H.trS hi).1).dvd_iff];exact⟨hR _ ht _,fun h=>by rw[h];exact Int.dvd_zero p⟩
 refine⟨H.hp.fld,fun i j hi hj=>?_,fun i j hi hj h=>?_,fun i j hi hj h=>?_,fun j hj=>?_,fun j i hj hi h=>?_,fun j hj h i hi=>?_,fun j i hj h=>?_,fun j j' i hj hj' h h'=>?_⟩
 ·rw[e1,DM2 H.G (by omega)];exact Int.dvd_zero p
 ·exact Zo H.G (by omega) (by omega) fun e=>h (by rw[e];exact Int.dvd_zero p)
 ·exact UV H.P.perm.symm H.G.nd (by omega) (by omega) h
 ·have C:=H.col _ (H.trS hj).1;refine⟨hj,fun h=>?_,fun i' hi' h=>?_⟩
  ·unfold vO at h;rw[C.one]at h;have:=Int.le_of_dvd (by omega) h;omega
  ·refine Nat.le_of_not_lt fun hlt=>h ?_;unfold vO;rw[C.aft _ hlt];exact Int.dvd_zero p
 ·have C:=H.col _ (H.trS hj).1;have:=C.vd _ (H.trS hi).1 fun e=>h (by unfold vO;rw[e];exact Int.dvd_zero p);rw[(H.trS hi).2,(H.trS hj).2]at this;exact this
 ·rw[hb j i hj hi];refine Lz ?_ _;unfold O5 at h;split at h
  ·cases h
  ·omega
 ·obtain⟨hi,e⟩:=(H.lowS hj).1 h;obtain⟨h1,h2,h3⟩:=Er e;refine⟨hi,fun hd=>h2 ((hb j i hj hi).1 hd),fun i' hi' hd=>Nat.le_of_not_lt fun hlt=>hd ((hb j i' hj hi').2 (h3 _ hlt))⟩
 ·obtain⟨hi,e⟩:=(H.lowS hj).1 h;obtain⟨_,e'⟩:=(H.lowS hj').1 h';have a1:=A.red.a1 _ (H.trS hj).1 (by omega);have a2:=A.red.a1 _ (H.trS hj').1 (by omega);rw[e']at a2;rw[e]at a1;exact UV H.P.perm.symm H.G.nd (by omega) (by omega) (by omega)
end
end Go.Proofs.Q
namespace Go.Proofs.Q
open Go.Eng Go.RowKit Go.Lin Go.Kuhn
variable {m j:Nat}
theorem Ki{α β:Type}{l:List α}{g:α->β}(h:l.Nodup)(hi:∀a∈l,∀b∈l,g a=g b->a=b):(l.map g).Nodup:=
 List.pairwise_map.2 (h.imp_of_mem fun {a b} ha hb hne e=>hne (hi a ha b hb e))
def fo(F:List (Int×Int))(o:List Cl)(i:Nat):Int:=CJ (Bj F) (o.getD i default).id
section
variable {p:Int} {F:List (Int×Int)} {l S:List Ce} {R V:Nat->List Int}
theorem PerH.uniq(H:PerH p F l S R V){j':Nat}(hj:j<S.length)(hj':j'<S.length)(h0:0<=A3 (R j))(e:A3 (R j)=A3 (R j')):j=j':=by obtain⟨la,A⟩:=H.P.all;have a1:=A.red.a1 j hj h0;have a2:=A.red.a1 j' hj' (by omega);rw[e]at a1;omega
theorem PerH.end_some(H:PerH p F l S R V){x:Int}(h:A9 (CP (C8 S R) (C8 S R).length) (m:Int)=some x):∃j,j<S.length/\x=j/\A3 (R j)=m:=by obtain⟨j,h1,h2,h3,_⟩:=F3 h;rw[Kb]at h1;rw[If S R h1]at h3;exact⟨j,h1,h2,h3⟩
theorem PerH.end_get(H:PerH p F l S R V)(hj:j<S.length)(e:A3 (R j)=m):A9 (CP (C8 S R) (C8 S R).length) (m:Int)=some (j:Int):=by
 cases h:A9 (CP (C8 S R) (C8 S R).length) (m:Int) with
 | none=>exact absurd (by rw[If S R hj];exact e) (Hs h j (by rw[Kb];exact hj) (by omega))
 | some x=>
  obtain⟨j',h1,rfl,h3⟩:=H.end_some h;rw[H.uniq h1 hj (by omega) (by rw[e,h3])]
theorem PerH.inv(H:PerH p F l S R V)(hm:m<S.length):tr (S.map Ce.c) (cn l) m<S.length/\(cn l).getD (tr (S.map Ce.c) (cn l) m) default=(S.getD m default).c/\tr (cn l) (S.map Ce.c) (tr (S.map Ce.c) (cn l) m)=m:=by
 have hnS:((S.map Ce.c).map Cl.id).Nodup:=(H.P.perm.map Cl.id).nodup_iff.2 H.G.nd;have hm':m<(S.map Ce.c).length:=by simpa using hm
 obtain⟨h1,h2⟩:=LR H.P.perm hnS hm';refine⟨by simpa using h1,?_,JY H.P.perm hnS hm'⟩;rw[h2,Mg hm];rfl
theorem PerH.pair(H:PerH p F l S R V)(hm:m<S.length)(hj:j<S.length)(e:A3 (R j)=m):O5 (cn l) S R (tr (S.map Ce.c) (cn l) j)=some (tr (S.map Ce.c) (cn l) m):=by rw[H.lowS (H.inv hj).1];exact⟨(H.inv hm).1,by rw[(H.inv hj).2.2,(H.inv hm).2.2];exact e⟩
end
end Go.Proofs.Q
namespace Go.Proofs.Q
open Go.Eng Go.RowKit Go.Lin
variable {t d:Int} {n i j m:Nat} {b:Nat->Bool}
def Sw(f:Int->Int)(S:List Ce)(L:List Int)(d t:Int)(m:Nat):Bool:=match A9 (CP L L.length) (m:Int) with
 | some j=>decide (f (CW S m).id<f (CW S j.toNat).id/\(CW S m).dim=d/\f (CW S m).id<=t/\t<f (CW S j.toNat).id)
 | none=>decide (L.getD m 0<0/\(CW S m).dim=d/\f (CW S m).id<=t)
theorem Xe(f:Int->Int)(S:List Ce)(L:List Int)(d t:Int)(m:Nat):((Hl f S L m).filter (Br.at d t)).length=if Sw f S L d t m then 1 else 0:=by
 unfold Hl Sw;cases A9 (CP L L.length) (m:Int) with
 | none=>
  show((if L.getD m 0<0 then [⟨(CW S m).dim,f (CW S m).id,0,true,(CW S m).id,0⟩] else []:List Br).filter (Br.at d t)).length=_;generalize CW S m=x;generalize L.getD m 0=z;by_cases h1:z<0<;>by_cases h2:x.dim=d<;>by_cases h3:f x.id<=t<;>simp[h1,h2,h3,Br.at]
 | some j=>
  show((if f (CW S m).id<f (CW S j.toNat).id then [⟨(CW S m).dim,f (CW S m).id,f (CW S j.toNat).id,false,(CW S m).id,(CW S j.toNat).id⟩] else []:List Br).filter (Br.at d t)).length=if decide (f (CW S m).id<f (CW S j.toNat).id/\(CW S m).dim=d/\f (CW S m).id<=t/\t<f (CW S j.toNat).id)=true then 1 else 0
  generalize CW S m=x;generalize CW S j.toNat=y;by_cases h1:f x.id<f y.id<;>by_cases h2:x.dim=d<;>by_cases h3:f x.id<=t<;>by_cases h4:t<f y.id<;>simp[h1,h2,h3,h4,Br.at]
theorem OJ(f:Int->Int)(S:List Ce)(L:List Int)(d t:Int):∀n,((CS f S L n).filter (Br.at d t)).length=GC n (Sw f S L d t)
 | 0=>rfl
 | n+1=>by rw[D9,filter_append,length_append,OJ f S L d t n,Xe,FO]
theorem Y2{a c e:Nat->Bool}(h:∀i,i<n->(if a i then 1 else 0)=(if b i then 1 else 0)+(if c i then 1 else 0)+(if e i then 1 else 0:Nat)):GC n a=GC n b+GC n c+GC n e:=by
 induction n with
 | zero=>rfl
 | succ n ih=>
  have:=h n (by omega);rw[FO,FO,FO,FO,ih fun i hi=>h i (by omega)];omega
theorem QG(h:∀l,l<n->b l=false):GC n b=0:=by unfold GC FD;rw[List.length_eq_zero_iff,List.filter_eq_nil_iff];intro a ha;rw[h a (List.mem_range.1 ha)];simp
theorem Nv{L:List Nat}(hn:L.Nodup)(h:∀l,l∈L<->l<n/\b l=true):GC n b=L.length:=by unfold GC FD;refine((List.perm_ext_iff_of_nodup (List.Pairwise.filter _ List.nodup_range) hn).2 fun a=>?_).length_eq;rw[mem_filter,mem_range,h]
section
variable {p:Int} {F:List (Int×Int)} {l S:List Ce} {R V:Nat->List Int}
def fs(F:List (Int×Int))(S:List Ce)(i:Nat):Int:=CJ (Bj F) (CW S i).id
def NR(F:List (Int×Int))(S:List Ce)(d t:Int)(i:Nat):Bool:=decide ((CW S i).dim=d/\fs F S i<=t)
noncomputable def SZ(R:Nat->List Int)(i:Nat):Bool:=decide (0<=A3 (R i))
theorem inA_iff:NR F S d t i=true<->(CW S i).dim=d/\fs F S i<=t:=decide_eq_true_iff
theorem nzA_iff:SZ R i=true<->0<=A3 (R i):=decide_eq_true_iff
theorem PerH.fmono(H:PerH p F l S R V)(hij:i<=j)(hj:j<S.length):fs F S i<=fs F S j:=by
 rcases Nat.lt_or_eq_of_le hij with h|h
 ·have:=List.pairwise_iff_getElem.1 H.P.srt i j (by omega) hj h;unfold fs;rw[FT hj,FT (by omega:i<S.length)];omega
 ·rw[h];exact Int.le_refl _
theorem PerH.low_lt(H:PerH p F l S R V)(hj:j<S.length)(e:A3 (R j)=m):m<j/\(CW S j).dim=(CW S m).dim+1:=by
 have C:=H.col j hj;obtain⟨la,A⟩:=H.P.all;obtain⟨h1,h2,h3⟩:=Er e;rw[C.rl]at h1;have hp:=H.hp.1;refine⟨?_,C.rd m h1 h2⟩;have hn:¬p∣E3 S.length (EM S) (fun k=>(V j).getD k 0) m:=fun hd=>h2 (Cg.eq ((C.eq m h1).trans (cgz.2 hd)) (FE (by omega) (A.red.rr j hj) m) ⟨by omega,by omega⟩);obtain⟨k,hk,h4⟩:=Yu hn;have h5:EM S m k≠0:=fun e=>h4 (by rw[e,Int.zero_mul];exact Int.dvd_zero p);have h6:(V j).getD k 0≠0:=fun e=>h4 (by show p∣_*(V j).getD k 0;rw[e,Int.mul_zero];exact Int.dvd_zero p);obtain⟨s,hs,e1⟩:=Ml h5;obtain⟨m',h7,h8,_⟩:=H.before hk hs;have:m'=m:=H.inj (by omega) h1 (by rw[h8,e1]);subst this;rcases (by omega:k<=j\/j<k) with h9|h9
 ·omega
 ·exact absurd (C.aft k h9) h6
theorem PerH.low_none(H:PerH p F l S R V)(hj:j<S.length)(e:A3 (R j)=m):A3 (R m)<0:=by
 have hm:m<S.length:=by have:=(H.low_lt hj e).1;omega
 have h1:=H.pair hm hj e;have Q:=H.rdc;have h2:=Q.cyc (fun i hi=>Q.bb _ hi) (Q.lsome _ _ (H.inv hj).1 h1);unfold O5 at h2;rw[(H.inv hm).2.2]at h2;split at h2
 ·cases h2
 ·omega
noncomputable def YT(F:List (Int×Int))(S:List Ce)(R:Nat->List Int)(d t:Int)(m:Nat):Bool:=@decide (NR F S d t m=true/\∃j,j<S.length/\fs F S j<=t/\A3 (R j)=m) (Classical.propDecidable _)
theorem enA_iff:YT F S R d t m=true<->NR F S d t m=true/\∃j,j<S.length/\fs F S j<=t/\A3 (R j)=m:=by unfold YT;exact @decide_eq_true_iff _ (Classical.propDecidable _)
theorem PerH.ends(H:PerH p F l S R V)(d t:Int):GC S.length (YT F S R d t)=GC S.length fun j=>NR F S (d+1) t j&&SZ R j:=by
 have hP:∀{j},j∈FD S.length (fun j=>NR F S (d+1) t j&&SZ R j)<->j<S.length/\(CW S j).dim=d+1/\fs F S j<=t/\0<=A3 (R j):=fun {j}=>by unfold FD;rw[mem_filter,mem_range,Bool.and_eq_true,inA_iff,nzA_iff];exact⟨fun⟨a,⟨b,c⟩,e⟩=>⟨a,b,c,e⟩,fun⟨a,b,c,e⟩=>⟨a,⟨b,c⟩,e⟩⟩
 rw[Nv (L:=(FD S.length fun j=>NR F S (d+1) t j&&SZ R j).map fun j=>(A3 (R j)).toNat),length_map]
 ·rfl
 ·refine Ki (List.Pairwise.filter _ List.nodup_range) fun a ha b hb e=>?_;obtain⟨a1,_,_,a2⟩:=hP.1 ha;obtain⟨b1,_,_,b2⟩:=hP.1 hb;exact H.uniq a1 b1 a2 (by omega)
 ·intro m;rw[enA_iff,inA_iff];constructor
  ·intro h;obtain⟨j,hj,rfl⟩:=List.mem_map.1 h;obtain⟨a1,a2,a3,a4⟩:=hP.1 hj;have e:A3 (R j)=((A3 (R j)).toNat:Int):=by omega
   obtain⟨h1,h2⟩:=H.low_lt a1 e;have h3:=H.fmono (Nat.le_of_lt h1) a1;exact⟨by omega,⟨by omega,by omega⟩,j,a1,a3,e⟩
  ·rintro⟨hm,⟨h1,h2⟩,j,h3,h4,h5⟩;obtain⟨h6,h7⟩:=H.low_lt h3 h5;exact List.mem_map.2 ⟨j,hP.2 ⟨h3,by omega,h4,by omega⟩,by rw[h5];omega⟩
theorem PerH.bars(H:PerH p F l S R V)(d t:Int):GC S.length (NR F S d t)=((CS (CJ (Bj F)) S (C8 S R) S.length).filter (Br.at d t)).length+(GC S.length fun j=>NR F S d t j&&SZ R j)+GC S.length fun j=>NR F S (d+1) t j&&SZ R j:=by
 rw[OJ,<-H.ends];refine Y2 fun m hm=>?_
 have hb:Sw (CJ (Bj F)) S (C8 S R) d t m=true<->NR F S d t m=true/\¬SZ R m=true/\¬YT F S R d t m=true:=by
  rw[enA_iff,nzA_iff,inA_iff];unfold Sw;cases hg:A9 (CP (C8 S R) (C8 S R).length) (m:Int) with
  | none=>
   simp only[];rw[decide_eq_true_iff,If S R hm];constructor
   ·rintro⟨h1,h2,h3⟩;refine⟨⟨h2,h3⟩,by omega,?_⟩;rintro⟨_,j,h4,_,h5⟩;have:=H.end_get h4 h5;rw[hg]at this;cases this
   ·rintro⟨⟨h1,h2⟩,h3,_⟩;exact⟨by omega,h1,h2⟩
  | some x=>
   obtain⟨j,hj,rfl,e⟩:=H.end_some hg;have h0:=H.low_none hj e;simp only[Int.toNat_natCast];rw[decide_eq_true_iff];constructor
   ·rintro⟨h1,h2,h3,h4⟩;refine⟨⟨h2,h3⟩,by omega,?_⟩;rintro⟨_,j',h5,h6,h7⟩;have:=H.uniq hj h5 (by omega) (by rw[e,h7]);subst this;have h6:CJ (Bj F) (CW S j).id<=t:=h6;omega
   ·rintro⟨⟨h1,h2⟩,_,h3⟩;have h4:t<CJ (Bj F) (CW S j).id:=Int.lt_of_not_ge fun h5=>h3 ⟨⟨h1,h2⟩,j,hj,h5,e⟩;have h2:CJ (Bj F) (CW S m).id<=t:=h2;exact⟨by omega,h1,h2,h4⟩
 have hx:YT F S R d t m=true->¬SZ R m=true:=by rw[enA_iff,nzA_iff];rintro⟨_,j,h1,_,h2⟩;have:=H.low_none h1 h2;omega
 have hE:YT F S R d t m=true->NR F S d t m=true:=fun h=>(enA_iff.1 h).1;revert hb hx hE;cases Sw (CJ (Bj F)) S (C8 S R) d t m<;>cases NR F S d t m<;>cases SZ R m<;>cases YT F S R d t m<;>simp
def S7(S:List Ce)(c:Int):Nat:=N8 (S.map Ce.c) c
theorem PerH.pl(H:PerH p F l S R V){y:Cl}(hy:y∈cn l):S7 S y.id<S.length/\CW S (S7 S y.id)=y:=by
 have hn:((S.map Ce.c).map Cl.id).Nodup:=by have:=H.nd;rw[map_map];exact this
 obtain⟨h1,h2⟩:=GU (H.P.perm.mem_iff.2 hy) hn;have h1:N8 (S.map Ce.c) y.id<S.length:=by simpa using h1
 exact⟨h1,by show CW S (N8 (S.map Ce.c) y.id)=y;rw[<-Mg h1];exact h2⟩
theorem mem_sub{F:List (Int×Int)}{o:List Cl}{y:Cl}:y∈Ee F t o<->y∈o/\CJ (Bj F) y.id<=t:=by unfold Ee;rw[mem_filter,decide_eq_true_iff]
theorem PerH.ids(H:PerH p F l S R V){c:Int}:c∈Bt (Ee F t (cn l)) d<->∃y,y∈cn l/\CJ (Bj F) y.id<=t/\y.dim=d/\y.id=c:=by
 unfold Bt;rw[mem_map];constructor
 ·rintro⟨y,hy,e⟩;obtain⟨h1,h2⟩:=List.mem_filter.1 hy;obtain⟨h3,h4⟩:=mem_sub.1 h1;exact⟨y,h3,h4,of_decide_eq_true h2,e⟩
 ·rintro⟨y,h1,h2,h3,e⟩;exact⟨y,List.mem_filter.2 ⟨mem_sub.2 ⟨h1,h2⟩,decide_eq_true h3⟩,e⟩
theorem PerH.idsN(H:PerH p F l S R V)(d t:Int):(Bt (Ee F t (cn l)) d).Nodup:=by unfold Bt;exact H.G.nd.sublist ((List.filter_sublist.trans List.filter_sublist).map _)
theorem PerH.nIds(H:PerH p F l S R V)(d t:Int):(Bt (Ee F t (cn l)) d).length=GC S.length (NR F S d t):=by
 rw[Nv (L:=(Bt (Ee F t (cn l)) d).map (S7 S)),length_map]
 ·refine Ki (H.idsN d t) fun a ha b hb e=>?_;obtain⟨y,h1,_,_,rfl⟩:=H.ids.1 ha;obtain⟨z,h2,_,_,rfl⟩:=H.ids.1 hb;have:=(H.pl h1).2;rw[e,(H.pl h2).2]at this;rw[this]
 ·intro m;rw[inA_iff,mem_map];constructor
  ·rintro⟨c,hc,rfl⟩;obtain⟨y,h1,h2,h3,rfl⟩:=H.ids.1 hc;obtain⟨h4,h5⟩:=H.pl h1;exact⟨h4,by rw[h5];exact h3,by unfold fs;rw[h5];exact h2⟩
  ·rintro⟨hm,h1,h2⟩;refine⟨(CW S m).id,H.ids.2 ⟨_,H.mem hm,h2,h1,rfl⟩,?_⟩;obtain⟨h4,h5⟩:=H.pl (H.mem hm);exact H.inj h4 hm (by rw[h5])
theorem PerH.rank(H:PerH p F l S R V)(d t:Int){ρ:Nat}(hr:Y1 p (Ee F t (cn l)) d ρ):ρ=GC S.length fun j=>NR F S d t j&&SZ R j:=by
 obtain⟨E,pv,hE,rfl⟩:=hr;obtain⟨la,A⟩:=H.P.all;have hp:=H.hp.1;obtain⟨sb,hsb⟩:∃sb,Ee F t (cn l)=sb:=⟨_,rfl⟩
 have hids:∀{d c},c∈Bt sb d<->∃y,y∈cn l/\CJ (Bj F) y.id<=t/\y.dim=d/\y.id=c:=fun {d c}=>by rw[<-hsb];exact H.ids
 have hcel:∀{y},y∈cn l->CJ (Bj F) y.id<=t->FS sb y.id=y:=fun {y} hy h=>by
  refine Ci ?_ ?_
  ·rw[<-hsb];exact H.G.nd.sublist (List.filter_sublist.map _)
  ·rw[<-hsb];exact mem_sub.2 ⟨hy,h⟩
 rw[hsb]at hE
 have hgc:∀k,k<(Bt sb d).length->∃y,y∈cn l/\CJ (Bj F) y.id<=t/\y.dim=d/\y.id=(Bt sb d).getD k 0:=fun k hk=>by refine hids.1 ?_;rw[show(Bt sb d).getD k 0=(Bt sb d)[k] by simp[List.getD,hk]];exact getElem_mem hk
 have hgr:∀k,k<(Bt sb (d-1)).length->∃y,y∈cn l/\CJ (Bj F) y.id<=t/\y.dim=d-1/\y.id=(Bt sb (d-1)).getD k 0:=fun k hk=>by refine hids.1 ?_;rw[show(Bt sb (d-1)).getD k 0=(Bt sb (d-1))[k] by simp[List.getD,hk]];exact getElem_mem hk
 refine Sq (N:=S.length) (D:=EM S) (q:=fun k=>S7 S ((Bt sb d).getD k 0)) (ρ:=fun i=>S7 S ((Bt sb (d-1)).getD i 0)) (b:=NR F S d t) H.hp.fld hE.red (fun k hk=>?_) (fun k hk=>?_) (fun i hi k hk=>?_) (fun x hx k hk hno=>?_) (fun j hj=>?_) (fun j i=>(R j).getD i 0) (fun j i=>(V j).getD i 0) (fun j hj hb i hi=>?_) (fun j hj hb=>?_) (fun j m hj hb hm=>?_) (fun j m hj hm hb hv=>?_) (SZ R) (fun j=>(A3 (R j)).toNat) (fun j hj hb hn i hi=>?_) (fun j hj hb hn=>?_) (fun j k hj hk hb hb' hn hn' e=>?_)
 ·obtain⟨y,h1,_,_,e⟩:=hgc k hk;rw[<-e];exact(H.pl h1).1
 ·obtain⟨y,h1,_,_,e⟩:=hgr k hk;rw[<-e];exact(H.pl h1).1
 ·obtain⟨y,h1,h2,_,e⟩:=hgc k hk;obtain⟨z,h3,h4,_,e'⟩:=hgr i hi;refine(Cg.mod p _).trans (Cg.of_eq ?_);show HG sb d i k=EM S (S7 S ((Bt sb (d-1)).getD i 0)) (S7 S ((Bt sb d).getD k 0));unfold HG EM;rw[<-e,<-e',hcel h1 h2,(H.pl h1).2,(H.pl h3).2]
 ·obtain⟨y,h1,h2,h3,e⟩:=hgc k hk;refine Cg.of_eq (Classical.byContradiction fun hne=>?_);have hne:sgn (CW S (S7 S ((Bt sb d).getD k 0))).sd (CW S x).id≠0:=hne;rw[<-e,(H.pl h1).2]at hne;obtain⟨s,hs,es⟩:=Ml hne;obtain⟨z,hz,ez,dz⟩:=H.G.sid y h1 s hs;have hm:=H.mon y h1 s hs;have hmem:z.id∈Bt sb (d-1):=hids.2 ⟨z,hz,by rw[ez];omega,by omega,rfl⟩;obtain⟨i,hi,ei⟩:=getElem_of_mem hmem;refine hno i hi ?_;show S7 S ((Bt sb (d-1)).getD i 0)=x;rw[show(Bt sb (d-1)).getD i 0=(Bt sb (d-1))[i] by simp[List.getD,hi],ei];exact H.inj (H.pl hz).1 hx (by rw[(H.pl hz).2,ez,es])
 ·rw[inA_iff];constructor
  ·rintro⟨h1,h2⟩;have hmem:(CW S j).id∈Bt sb d:=hids.2 ⟨_,H.mem hj,h2,h1,rfl⟩;obtain⟨k,hk,ek⟩:=getElem_of_mem hmem;refine⟨k,hk,?_⟩;show S7 S ((Bt sb d).getD k 0)=j;rw[show(Bt sb d).getD k 0=(Bt sb d)[k] by simp[List.getD,hk],ek];exact H.inj (H.pl (H.mem hj)).1 hj (by rw[(H.pl (H.mem hj)).2])
  ·rintro⟨k,hk,rfl⟩;obtain⟨y,h1,h2,h3,e⟩:=hgc k hk;show(CW S (S7 S ((Bt sb d).getD k 0))).dim=d/\fs F S (S7 S ((Bt sb d).getD k 0))<=t;unfold fs;rw[<-e,(H.pl h1).2];exact⟨h3,h2⟩
 ·refine((H.col j hj).eq i hi).trans (Cg.of_eq ?_);unfold E3;exact Ba fun k _=>Int.mul_comm _ _
 ·exact(H.col j hj).one
 ·exact(H.col j hj).aft m hm
 ·have C:=H.col j hj;have h1:=C.vd m hm hv;have h2:m<=j:=Nat.le_of_not_lt fun h=>hv (C.aft m h);have h3:=H.fmono h2 hj;rw[inA_iff]at hb ⊢;exact⟨by omega,by omega⟩
 ·have hn:¬0<=A3 (R j):=of_decide_eq_false hn;show Cg p ((R j).getD i 0) 0;rw[Lz (by omega) i];exact Cg.refl p 0
 ·have hn:=nzA_iff.1 hn;have e:A3 (R j)=((A3 (R j)).toNat:Int):=by omega
  obtain⟨h1,h2,h3⟩:=Er e;rw[(H.col j hj).rl]at h1;refine⟨h1,fun hd=>h2 ?_,fun i hi _=>?_⟩
  ·exact Cg.eq (cgz.2 hd) (FE (by omega) (A.red.rr j hj) _) ⟨by omega,by omega⟩
  ·show p∣(R j).getD i 0;rw[h3 i hi];exact Int.dvd_zero p
 ·have hn:=nzA_iff.1 hn;have hn':=nzA_iff.1 hn';have e:(A3 (R j)).toNat=(A3 (R k)).toNat:=e;exact H.uniq hj hk hn (by omega)
theorem PerH.betti(H:PerH p F l S R V)(t D:Int)(rk:Nat->Nat)(hD:Jb (Ee F t (cn l)) D)(h0:rk 0=0)(hrk:∀n:Nat,n<(D+1).toNat->Y1 p (Ee F t (cn l)) (n+1) (rk (n+1)))(d:Nat) :
  (((CS (CJ (Bj F)) S (C8 S R) S.length).filter (Br.at d t)).length:Int)=if d<(D+1).toNat then(JF (Ee F t (cn l)) rk (D+1).toNat).getD d 0 else 0:=by
 have h1:=H.bars d t;split
 ·rename_i hd
  have h2:(JF (Ee F t (cn l)) rk (D+1).toNat).getD d 0=((Bt (Ee F t (cn l)) d).length:Int)-rk d-rk (d+1):=by unfold JF;simp[List.getD,hd]
  have h3:=H.rank _ _ (hrk d hd)
  have h4:rk d=GC S.length fun j=>NR F S d t j&&SZ R j:=by
   cases d with
   | zero=>
    rw[h0,QG];intro j hj;refine Bool.eq_false_iff.2 fun h=>?_;rw[Bool.and_eq_true,inA_iff,nzA_iff]at h;have e:A3 (R j)=((A3 (R j)).toNat:Int):=by omega
    obtain⟨h5,h6⟩:=H.low_lt hj e;have:=H.G.dim _ (H.mem (i:=(A3 (R j)).toNat) (by omega));have:=h.1.1;omega
   | succ d=>
    exact H.rank _ _ (hrk d (by omega))
  rw[h2,h4,h3,H.nIds,h1];omega
 ·rename_i hd
  have h2:GC S.length (NR F S d t)=0:=QG fun j hj=>by refine Bool.eq_false_iff.2 fun h=>?_;obtain⟨h3,h4⟩:=inA_iff.1 h;have h5:=hD.2.1 _ (mem_sub.2 ⟨H.mem hj,h4⟩);have:=hD.1;omega
  omega
end
end Go.Proofs.Q
namespace Go.Proofs.Q
open Go.Eng Go.RowKit Go.Lin Go.Kuhn
structure X4(o:List Cl)(F:List (Int×Int)):Prop where
 fst:F.map Prod.fst=o.map Cl.id
 bd:∀q∈F,-2000000000<=q.2/\q.2<=2000000000
 at_:∀i,i<o.length->fo F o i=(F.getD i (0,0)).2
 chk:F9 o F=(0,0)
 bI:∀c,-2000000000<=CJ (Bj F) c/\CJ (Bj F) c<=2000000000
 mon:∀x∈o,∀s∈x.sd,CJ (Bj F) s.1<=CJ (Bj F) x.id
theorem TA{o:List Cl}(G:Rgt o)(w:Int->Int)(hb:∀y∈o,-2000000000<=w y.id/\w y.id<=2000000000)(hm:∀x∈o,∀s∈x.sd,w s.1<=w x.id):X4 o (o.map fun x=>(x.id,w x.id)):=by
 obtain⟨F,hF⟩:∃F,(o.map fun x=>(x.id,w x.id))=F:=⟨_,rfl⟩
 have e0:F=o.map fun x=>(x.id,w x.id):=hF.symm;have e1:F.map Prod.fst=o.map Cl.id:=by rw[e0,map_map];rfl
 have hnd:(F.map Prod.fst).Nodup:=by rw[e1];exact G.nd
 have hat:∀x∈o,CJ (Bj F) x.id=w x.id:=fun x hx=>U7 hnd (by rw[e0];exact List.mem_map.2 ⟨x,hx,rfl⟩)
 have hmon:∀x∈o,∀s∈x.sd,CJ (Bj F) s.1<=CJ (Bj F) x.id:=fun x hx s hs=>by obtain⟨y,hy,e,_⟩:=G.sid x hx s hs;rw[hat x hx,<-e,hat y hy,e];exact hm x hx s hs
 rw[hF];refine⟨e1,fun q hq=>?_,fun i hi=>?_,UM (fun j hj=>?_) (fun j hj=>?_) (fun j hj=>?_),fun c=>?_,hmon⟩
 ·rw[e0]at hq;obtain⟨x,hx,rfl⟩:=List.mem_map.1 hq;exact hb x hx
 ·have h1:o.getD i default=o[i]:=by simp[List.getD,hi]
  unfold fo;rw[h1,hat _ (getElem_mem hi),e0];simp[List.getD,hi]
 ·have hjo:j<o.length:=by rw[e0,length_map]at hj;exact hj
  have h1:(F.getD j (0,0)).1=o[j].id:=by rw[e0];simp[List.getD,hjo]
  unfold fA;rw[h1,CL G.nd (getElem_mem hjo),if_neg (by simp),if_neg fun h=>?_];obtain⟨q,hq,e⟩:=List.mem_map.1 h;obtain⟨i,hi,rfl⟩:=getElem_of_mem hq;rw[length_take]at hi;have hp:=List.pairwise_iff_getElem.1 G.nd i j (by simp;omega) (by simpa using hjo) (by omega);rw[getElem_map,getElem_map]at hp;refine hp ?_;rw[List.getElem_take]at e;rw[<-e];simp only[e0,getElem_map]
 ·unfold fB;rw[if_neg];intro h;refine h ?_;rw[e1];exact List.mem_map.2 ⟨_,DC hj,rfl⟩
 ·unfold fC;rw[if_neg];rintro⟨s,hs,h⟩;have:=hmon _ (DC hj) s hs;unfold CJ at this;unfold Ie at h;omega
 ·unfold CJ;cases h:A9 (Bj F) c with
  | none=>simp
  | some x=>
   have hc:c∈(Bj F).map Prod.fst:=Classical.byContradiction fun hn=>by rw[CX hn]at h;cases h
   rw[RU,e1]at hc;obtain⟨y,hy,rfl⟩:=List.mem_map.1 hc;have:=hat y hy;unfold CJ at this;rw[h]at this;rw[this];exact hb y hy
end Go.Proofs.Q

namespace Go.Proofs.Q
open Go.Eng Go.RowKit
theorem GA(f:Int×Int×Int->Int)(g:Int×Int×Int->Int)(κ:Int):∀T:FA,(∀e∈T,f e=κ*g e)->(T.map f).sum=κ*(T.map g).sum
 | [],_=>by simp
 | e::T,h=>by rw[map_cons,map_cons,sum_cons,sum_cons,h e Mh,GA f g κ T fun e he=>h e (List.mem_cons_of_mem _ he),Int.mul_add]
theorem GoodT.ren{T:FA}{s s':List (Int×Int)}(G:GoodT T s)(φ κ:Int->Int)(hφ:∀e∈T,∀e'∈T,φ e.2.1=φ e'.2.1->e.2.1=e'.2.1)(hs:∀a∈s',∃b∈s,a.1=φ b.1):GoodT (T.map fun e=>(φ e.1,φ e.2.1,κ e.2.1*e.2.2)) s' where
 sum:=fun e' he'=>by
  obtain⟨e,he,rfl⟩:=List.mem_map.1 he';have h1:=G.sum e he;unfold DH at *;rw[map_map,GA _ (fun e'=>if e'.2.1=e.2.1 then e'.2.2 else 0) (κ e.2.1) T fun e' he'=>?_,h1,Int.mul_zero];show(if φ e'.2.1=φ e.2.1 then κ e'.2.1*e'.2.2 else 0)=_;by_cases h:e'.2.1=e.2.1
  ·rw[if_pos h,h,if_pos rfl]
  ·rw[if_neg h,if_neg fun q=>h (hφ _ he' _ he q),Int.mul_zero]
 two:=fun e' he'=>by
  obtain⟨e,he,rfl⟩:=List.mem_map.1 he';have h1:=G.two e he;unfold ER at *;rw[map_map,GA _ (fun e'=>if e'.2.1=e.2.1 then 1 else 0) 1 T fun e' he'=>?_,h1]
  ·rfl
  show(if φ e'.2.1=φ e.2.1 then(1:Int) else 0)=_;by_cases h:e'.2.1=e.2.1
  ·rw[if_pos h,h,if_pos rfl];rfl
  ·rw[if_neg h,if_neg fun q=>h (hφ _ he' _ he q)];rfl
 con:=fun a ha b hb=>by
  obtain⟨a',ha',ea⟩:=hs a ha;obtain⟨b',hb',eb⟩:=hs b hb;rw[ea,eb];have h:=G.con a' ha' b' hb';generalize a'.1=x at *;generalize b'.1=y at *;clear ea eb
  induction h with
  | refl=>exact .refl _
  | step _ h1 h2 ih=>exact .step ih (List.mem_map.2 ⟨_,h1,rfl⟩) (List.mem_map.2 ⟨_,h2,rfl⟩)
variable {n k b m j:Nat} {all:List (List Int)} {S l t s:List Int} {f:Nat->Int}
abbrev Zz(l:List Int):Prop:=l.Pairwise (· < ·)
theorem Mi{x:Int}(h:t.Sublist (l++[x])):t.Sublist l\/∃t',t=t'++[x]/\t'.Sublist l:=by
 obtain⟨t1,t2,e,h1,h2⟩:=List.sublist_append_iff.1 h
 have h3:t2=[]\/t2=[x]:=by
  cases h2 with
  | cons _ h=>exact .inl (List.sublist_nil.1 h)
  | cons_cons _ h=>exact .inr (by rw[List.sublist_nil.1 h])
 rcases h3 with rfl|rfl
 ·left;rw[e,append_nil];exact h1
 ·exact .inr ⟨t1,e,h1⟩
theorem NJ(s:List Int)(b:Nat):∀n,n<=s.length->(Ea s b n).Sublist (s.take n)
 | 0,_=>by simp[Ea]
 | n+1,h=>by
  rw[G6,take_succ_eq_append_getElem (by omega)];refine(NJ s b n (by omega)).append ?_;split
  ·simp[List.getD,show n<s.length by omega]
  ·simp
theorem RY{b':Nat}(h:∀k,k<n->b.testBit k=b'.testBit k):Ea s b n=Ea s b' n:=by unfold Ea;congr 1;exact List.filter_congr fun k hk=>h k (List.mem_range.1 hk)
theorem KR(s:List Int):∀n,n<=s.length->∀t:List Int,t.Sublist (s.take n)->∃b,b<2^n/\t=Ea s b n
 | 0,_,t,ht=>⟨0,by simp,by simpa[Ea] using ht⟩
 | n+1,h,t,ht=>by
  rw[take_succ_eq_append_getElem (by omega)]at ht;have h2:2^(n+1)=2^n+2^n:=by rw[Nat.pow_succ];omega
  rcases Mi ht with h1|⟨t',rfl,h1⟩
  ·obtain⟨b,hb,e⟩:=KR s n (by omega) t h1;refine⟨b,by omega,?_⟩;rw[G6,Nat.testBit_lt_two_pow hb,e];simp
  ·obtain⟨b,hb,e⟩:=KR s n (by omega) t' h1;refine⟨2^n+b,by omega,?_⟩;rw[G6,Nat.testBit_two_pow_add_eq,Nat.testBit_lt_two_pow hb,e];rw[RY (b:=2^n+b) (b':=b) fun k hk=>Nat.testBit_two_pow_add_gt hk b];simp[List.getD,show n<s.length by omega]
theorem RW(s:List Int)(n:Nat):Ea s 0 n=[]:=by simp[Ea]
theorem PK(H:SrtB all):t∈Cx all s (2^s.length-1)<->t∈all\/(t≠[]/\t.Sublist s)\/(t=[]/\∃b,1<=b/\b<=2^s.length-1/\Ea s b s.length=[]):=by
 rw[Hx H];constructor
 ·rintro(h|⟨b,h1,h2,rfl⟩)
  ·exact .inl h
  ·by_cases h3:Ea s b s.length=[]
   ·exact .inr (.inr ⟨h3,b,h1,h2,h3⟩)
   ·refine .inr (.inl ⟨h3,?_⟩);have:=NJ s b s.length (Nat.le_refl _)
    rwa [take_length]at this
 ·rintro(h|⟨h1,h2⟩|⟨rfl,b,h1,h2,h3⟩)
  ·exact .inl h
  ·obtain⟨b,hb,e⟩:=KR s s.length (Nat.le_refl _) t (by rw[take_length];exact h2);refine .inr ⟨b,?_,by omega,e⟩;rcases Nat.eq_zero_or_pos b with rfl|h
   ·rw[RW]at e;exact absurd e h1
   ·exact h
  ·exact .inr ⟨b,h1,h2,h3.symm⟩
theorem Wo(h1:1<=b)(h2:b<2^s.length):Ea s b s.length≠[]:=fun h=>by
 have:b=0:=Nat.eq_of_testBit_eq fun k=>by
  rw[Nat.zero_testBit];by_cases hk:k<s.length
  ·cases hb:b.testBit k with
   | false=>rfl
   | true=>
    have:s.getD k 0∈Ea s b s.length:=by unfold Ea;exact List.mem_map.2 ⟨k,List.mem_filter.2 ⟨List.mem_range.2 hk,hb⟩,rfl⟩
    rw[h]at this;cases this
  ·exact Nat.testBit_lt_two_pow (Nat.lt_of_lt_of_le h2 (Nat.pow_le_pow_right (by decide) (by omega)))
 omega
theorem U6{x:Int}(h:Zz l)(hn:¬Lg x l):Zz (Jo x l):=by
 unfold Lg at hn;unfold Jo
 have h1:∀y∈l.takeWhile (fun y=>decide (y<x)),y<x:=fun y hy=>by have:=List.all_eq_true.1 (List.all_takeWhile (p:=fun y:Int=>decide (y<x)) (l:=l)) y hy;simpa using this
 have h2:∀l:List Int,Zz l->(l.dropWhile fun y=>decide (y<x)).head?≠some x->∀y∈l.dropWhile (fun y=>decide (y<x)),x<y:=fun l=>by
  induction l with
  | nil=>intro _ _ y hy;cases hy
  | cons a l ih=>
   intro hi hx y hy;rw[List.dropWhile_cons]at hy hx;split at hy
   ·rename_i g;rw[if_pos g]at hx;exact ih (List.pairwise_cons.1 hi).2 hx y hy
   ·rename_i g;rw[if_neg g]at hx;have g1:¬a<x:=by simpa using g
    have g2:a≠x:=by simpa using hx
    rcases List.mem_cons.1 hy with rfl|hy
    ·omega
    ·have:=(List.pairwise_cons.1 hi).1 y hy;omega
 have h3:=h2 l h hn;refine List.pairwise_append.2 ⟨h.sublist (List.takeWhile_sublist _),List.pairwise_cons.2 ⟨h3,h.sublist (List.dropWhile_sublist _)⟩,fun a ha b hb=>?_⟩;have h4:=h1 a ha;rcases List.mem_cons.1 hb with rfl|hb
 ·exact h4
 ·have:=h3 b hb;omega
theorem JV:∀(l acc:List Int) (s:List Int),Zz acc->DF acc l=some s->Zz s
 | [],acc,s,h,e=>by have:acc=s:=Option.some.inj e;rw[<-this];exact h
 | x::l,acc,s,h,e=>by
  unfold DF at e;split at e
  ·exact JV l acc s h e
  ·rename_i hn;split at e
   ·cases e
   ·refine JV l _ s ?_ e;exact U6 h hn
structure AllS(all:List (List Int)):Prop where
 srt:SrtB all
 inc:∀s∈all,Zz s
 ne:∀s∈all,s≠[]
 sub:∀s∈all,∀t:List Int,t≠[]->t.Sublist s->t∈all
theorem AllS.faces(A:AllS all)(hs:Zz s):AllS (Cx all s (2^s.length-1)):=by
 have hm:∀t,t∈Cx all s (2^s.length-1)<->t∈all\/(t≠[]/\t.Sublist s):=fun t=>by
  rw[PK A.srt];refine⟨fun h=>?_,fun h=>?_⟩
  ·rcases h with h|h|⟨_,b,h1,h2,h3⟩
   ·exact .inl h
   ·exact .inr h
   ·exact absurd h3 (Wo h1 (by have:=Nat.two_pow_pos s.length;omega))
  ·rcases h with h|h
   ·exact .inl h
   ·exact .inr (.inl h)
 refine⟨Eg A.srt s _,fun t ht=>?_,fun t ht=>?_,fun t ht u hu hs=>?_⟩
 ·rcases (hm t).1 ht with h|h
  ·exact A.inc t h
  ·exact hs.sublist h.2
 ·rcases (hm t).1 ht with h|h
  ·exact A.ne t h
  ·exact h.1
 ·rw[hm];rcases (hm t).1 ht with h|h
  ·exact .inl (A.sub t h u hu hs)
  ·exact .inr ⟨hu,hs.trans h.2⟩
theorem Ly:∀(ll:List (List Int)) (acc all:List (List Int)),AllS acc->Ch acc ll=some all->AllS all
 | [],acc,all,h,e=>by have:acc=all:=Option.some.inj e;rw[<-this];exact h
 | l::ll,acc,all,h,e=>by
  rw[Df]at e;split at e
  ·cases e
  ·refine Ly ll _ all ?_ e;cases hs:DF [] l with
   | none=>exact h
   | some s=>exact h.faces (JV l [] s List.Pairwise.nil hs)
def nI(all:List (List Int))(t:List Int):Int:=((CG all t).1:Int)+1
theorem AllS.nI_at(A:AllS all)(ht:t∈all):∃j,∃hj:j<all.length,all[j]=t/\nI all t=(j:Int)+1:=by obtain⟨j,hj,rfl⟩:=getElem_of_mem ht;exact⟨j,hj,rfl,by unfold nI;rw[Oo A.srt hj]⟩
theorem AllS.nI_inj(A:AllS all){u:List Int}(ht:t∈all)(hu:u∈all)(e:nI all t=nI all u):t=u:=by
 obtain⟨j,hj,rfl,e1⟩:=A.nI_at ht;obtain⟨k,hk,rfl,e2⟩:=A.nI_at hu;have:j=k:=by omega
 subst this;rfl
def sk(k i:Nat):Nat:=if i<k then i else i+1
theorem Gi(k i:Nat):(i<k/\sk k i=i)\/(k<=i/\sk k i=i+1):=by unfold sk;split<;>omega
theorem Lq(k i:Nat):sk k i≠k:=by unfold sk;split<;>omega
theorem Aag{i:Nat}(hi:i<n):sk k i<n+1:=by unfold sk;split<;>omega
theorem Fs(l:List Int)(k i:Nat):(l.eraseIdx k)[i]?=l[sk k i]?:=by rw[List.getElem?_eraseIdx];unfold sk;split<;>rfl
def un(j k:Nat):Nat:=if k<j then k else k-1
theorem KJ(j k:Nat):(k<j/\un j k=k)\/(j<=k/\un j k=k-1):=by unfold un;split<;>omega
theorem N6(h:j≠k):sk j (un j k)=k:=by have:=KJ j k;have:=Gi j (un j k);omega
theorem P9(l:List Int):(l.eraseIdx k).eraseIdx m=(l.eraseIdx (sk k m)).eraseIdx (un (sk k m) k):=by refine List.ext_getElem? fun i=>?_;rw[Fs,Fs,Fs,Fs];congr 1;have:=Gi k m;have:=Gi m i;have:=Gi k (sk m i);have:=KJ (sk k m) k;have:=Gi (un (sk k m) k) i;have:=Gi (sk k m) (sk (un (sk k m) k) i);omega
theorem Ui(hn:l.Nodup)(hj:j<l.length):l[j]∈l.eraseIdx k<->j≠k:=by
 rw[List.mem_iff_getElem?];constructor
 ·rintro⟨i,h⟩ e;rw[Fs]at h;obtain⟨h1,h2⟩:=List.getElem?_eq_some_iff.1 h;have:=G3 hn h1 hj h2;exact Lq k i (by omega)
 ·intro h;exact⟨un k j,by rw[Fs,N6 (Ne.symm h),List.getElem?_eq_getElem hj]⟩
theorem JE(hn:l.Nodup)(hj:j<l.length):l[j]∈(l.eraseIdx k).eraseIdx m<->j≠k/\j≠sk k m:=by
 rw[List.mem_iff_getElem?];constructor
 ·rintro⟨i,h⟩;rw[Fs,Fs]at h;obtain⟨h1,h2⟩:=List.getElem?_eq_some_iff.1 h;have:=G3 hn h1 hj h2;refine⟨fun e=>Lq k (sk m i) (by omega),fun e=>?_⟩;have h3:sk k (sk m i)=sk k m:=by omega
  have h4:=Lq m i;have:=Gi k m;have:=Gi k (sk m i);omega
 ·rintro⟨h1,h2⟩;have h3:m≠un k j:=fun e=>h2 (by rw[e,N6 (Ne.symm h1)]);exact⟨un m (un k j),by rw[Fs,Fs,N6 h3,N6 (Ne.symm h1),List.getElem?_eq_getElem hj]⟩
theorem Aat(hn:l.Nodup){a:Nat}(hl:l.length=n+1)(hk:k<n+1)(hm:m<n)(ha:a<n+1)(hb:b<n):(l.eraseIdx k).eraseIdx m=(l.eraseIdx a).eraseIdx b<->(k=a/\m=b)\/(k=sk a b/\m=un (sk a b) a):=by
 constructor
 ·intro h;have hab:=Aag (k:=a) hb
  have h1:¬(a≠k/\a≠sk k m):=fun q=>by have:=(JE hn (k:=k) (m:=m) (show a<l.length by omega)).2 q;rw[h]at this;exact((JE hn (show a<l.length by omega)).1 this).1 rfl
  have h2:¬(sk a b≠k/\sk a b≠sk k m):=fun q=>by have:=(JE hn (k:=k) (m:=m) (show sk a b<l.length by omega)).2 q;rw[h]at this;exact((JE hn (show sk a b<l.length by omega)).1 this).2 rfl
  have h3:=Lq a b;have:=Gi k m;have:=Gi a b;have:=KJ (sk a b) a;omega
 ·rintro(⟨rfl,rfl⟩|⟨rfl,rfl⟩)
  ·rfl
  ·exact(P9 l).symm
def rs(n:Nat)(f:Nat->Int):Int:=((range n).map f).sum
theorem M9(n:Nat)(f:Nat->Int):rs (n+1) f=rs n f+f n:=by unfold rs;rw[List.range_succ,map_append,sum_append];simp
theorem QQ(h:∀i,i<n->f i=0):rs n f=0:=by
 induction n with
 | zero=>rfl
 | succ n ih=>rw[M9,ih fun i hi=>h i (by omega),h n (by omega)];rfl
theorem MF(hk:k<n)(h:∀i,i<n->i≠k->f i=0):rs n f=f k:=by
 induction n with
 | zero=>omega
 | succ n ih=>
  rw[M9];rcases (by omega:k=n\/k<n) with rfl|h1
  ·rw[QQ fun i hi=>h i (by omega) (by omega),Int.zero_add]
  ·rw[ih h1 fun i hi=>h i (by omega),h n (by omega) (by omega),Int.add_zero]
theorem Zt{k':Nat}(hk:k<n)(hk':k'<n)(hne:k≠k')(h:∀i,i<n->i≠k->i≠k'->f i=0):rs n f=f k+f k':=by
 induction n with
 | zero=>omega
 | succ n ih=>
  rw[M9];rcases (by omega:k=n\/(k<n/\k'=n)\/(k<n/\k'<n)) with rfl|⟨h1,rfl⟩|⟨h1,h2⟩
  ·rw[MF (k:=k') (by omega) fun i hi hn=>h i (by omega) (by omega) hn,Int.add_comm]
  ·rw[MF (k:=k) h1 fun i hi hn=>h i (by omega) hn (by omega)]
  ·rw[ih h1 h2 fun i hi=>h i (by omega),h n (by omega) (by omega) (by omega),Int.add_zero]
theorem OK{α:Type}(f:α->List Int):∀l:List α,(l.flatMap f).sum=(l.map fun a=>(f a).sum).sum
 | []=>rfl
 | a::l=>by rw[flatMap_cons,sum_append,OK f l,map_cons,sum_cons]
def sg(k:Nat):Int:=1-2*((k:Int)%2)
theorem QS(k:Nat):sg (k+1)=- sg k:=by unfold sg;omega
theorem ZX(k:Nat):sg k=1\/sg k=-1:=by unfold sg;omega
def Hw(all:List (List Int))(t:List Int):List (Int×Int):=(range t.length).map fun k=>(nI all (t.eraseIdx k),sg k)
def sc(all:List (List Int))(t:List Int):Cl:=⟨nI all t,(t.length:Int)-1,if t.length<=1 then [] else BX (Hw all t)⟩
theorem PG(A:AllS all):(range all.length).map (Dp all)=all.map (sc all):=by
 refine List.ext_getElem (by simp) fun j h1 h2=>?_;have hj:j<all.length:=by simpa using h2
 rw[getElem_map,getElem_map,List.getElem_range];have e:all.getD j []=all[j]:=by simp[List.getD,hj]
 unfold Dp sc;rw[e];unfold nI;rw[Oo A.srt hj];rfl
def Rn(all:List (List Int))(S:List Int)(n:Nat):FA:=(range (n+1)).flatMap fun k=>(range n).map fun m=>(nI all (S.eraseIdx k),nI all ((S.eraseIdx k).eraseIdx m),sg k*sg m)
theorem N4(all:List (List Int))(S:List Int)(n:Nat)(g:Int×Int×Int->Int):((Rn all S n).map g).sum=rs (n+1) fun k=>rs n fun m=>g (nI all (S.eraseIdx k),nI all ((S.eraseIdx k).eraseIdx m),sg k*sg m):=by unfold Rn;rw[List.map_flatMap,OK];unfold rs;simp only[map_map];rfl
theorem T8(A:AllS all)(hS:S∈all)(hl:S.length=n+1)(hn:1<=n)(hk:k<n+1):S.eraseIdx k∈all:=by refine A.sub S hS _ (fun e=>?_) (List.eraseIdx_sublist _ _);have:=congrArg List.length e;rw[List.length_eraseIdx,if_pos (by omega)]at this;simp at this;omega
theorem Mu(hl:S.length=n+1)(hk:k<n+1):(S.eraseIdx k).length=n:=by rw[List.length_eraseIdx,if_pos (by omega)];omega
theorem OF(A:AllS all)(hS:S∈all){a:Nat}(hl:S.length=n+1)(hn:2<=n)(ha:a<n+1)(hb:b<n)(w:Nat->Nat->Int):(rs (n+1) fun k=>rs n fun m=>if nI all ((S.eraseIdx k).eraseIdx m)=nI all ((S.eraseIdx a).eraseIdx b) then w k m else 0)=w a b+w (sk a b) (un (sk a b) a):=by
 have hnd:S.Nodup:=(A.inc S hS).imp fun h e=>by omega
 have hin:∀k m,k<n+1->m<n->(S.eraseIdx k).eraseIdx m∈all:=fun k m hk hm=>by
  obtain⟨n',rfl⟩:∃n',n=n'+1:=⟨n-1,by omega⟩
  exact T8 A (T8 A hS hl (by omega) hk) (Mu hl hk) (by omega) hm
 have hiff:∀k m,k<n+1->m<n->(nI all ((S.eraseIdx k).eraseIdx m)=nI all ((S.eraseIdx a).eraseIdx b)<->(k=a/\m=b)\/(k=sk a b/\m=un (sk a b) a)):=fun k m hk hm=>by rw[<-Aat hnd hl hk hm ha hb];exact⟨fun h=>A.nI_inj (hin k m hk hm) (hin a b ha hb) h,fun h=>by rw[h]⟩
 have h1:=Lq a b;have h2:=Gi a b;have h3:=KJ (sk a b) a
 rw[Zt (k:=a) (k':=sk a b) ha (by omega) (Ne.symm h1) fun k hk q1 q2=>QQ fun m hm=>if_neg fun q=>by
  rcases (hiff k m hk hm).1 q with q|q
  ·exact q1 q.1
  ·exact q2 q.1]
 rw[MF (k:=b) hb fun m hm q=>if_neg fun q'=>by
   rcases (hiff a m ha hm).1 q' with q'|q'
   ·exact q q'.2
   ·exact h1 q'.1.symm,if_pos rfl,
  MF (k:=un (sk a b) a) (by omega) fun m hm q=>if_neg fun q'=>by
   rcases (hiff (sk a b) m (by omega) hm).1 q' with q'|q'
   ·exact h1 q'.1
   ·exact q q'.2,if_pos ((hiff _ _ (by omega) (by omega)).2 (.inr ⟨rfl,rfl⟩))]
theorem N2{e:Int×Int×Int}(h:e∈Rn all S n):∃k m,k<n+1/\m<n/\e=(nI all (S.eraseIdx k),nI all ((S.eraseIdx k).eraseIdx m),sg k*sg m):=by obtain⟨k,hk,h1⟩:=List.mem_flatMap.1 h;obtain⟨m,hm,rfl⟩:=List.mem_map.1 h1;exact⟨k,m,List.mem_range.1 hk,List.mem_range.1 hm,rfl⟩
theorem Np(hk:k<n+1)(hm:m<n):(nI all (S.eraseIdx k),nI all ((S.eraseIdx k).eraseIdx m),sg k*sg m)∈Rn all S n:=List.mem_flatMap.2 ⟨k,List.mem_range.2 hk,List.mem_map.2 ⟨m,List.mem_range.2 hm,rfl⟩⟩
theorem Sd(A:AllS all)(hS:S∈all)(hl:S.length=n+1)(hn:2<=n):GoodT (Rn all S n) (Hw all S) where
 sum:=fun e he=>by
  obtain⟨a,b,ha,hb,rfl⟩:=N2 he;unfold DH;rw[N4];refine(OF A hS hl hn ha hb fun k m=>sg k*sg m).trans ?_;have h1:=Lq a b;have h2:=Gi a b;have h3:=KJ (sk a b) a;rcases h2 with ⟨h4,h5⟩|⟨h4,h5⟩
  ·rw[h5]at h3 ⊢;obtain⟨c,rfl⟩:∃c,a=c+1:=⟨a-1,by omega⟩
   rw[show un b (c+1)=c by omega,QS,Int.neg_mul,Int.mul_comm (sg b)];omega
  ·rw[h5]at h3 ⊢;rw[show un (b+1) a=a by omega,QS,Int.neg_mul,Int.mul_comm (sg b)];omega
 two:=fun e he=>by obtain⟨a,b,ha,hb,rfl⟩:=N2 he;unfold ER;rw[N4];exact OF A hS hl hn ha hb fun k m=>1
 con:=fun a ha b hb=>by
  unfold Hw at ha hb;obtain⟨k,hk,rfl⟩:=List.mem_map.1 ha;obtain⟨k',hk',rfl⟩:=List.mem_map.1 hb;have hk:=List.mem_range.1 hk;have hk':=List.mem_range.1 hk';show Con _ (nI all (S.eraseIdx k)) (nI all (S.eraseIdx k'));by_cases e:k=k'
  ·subst e;exact .refl _
  ·have h1:=KJ k k';have h2:=KJ k' k
   have h3:(S.eraseIdx k).eraseIdx (un k k')=(S.eraseIdx k').eraseIdx (un k' k):=by rw[P9 S (k:=k) (m:=un k k'),N6 e]
   have m1:=Np (all:=all) (S:=S) (n:=n) (k:=k) (m:=un k k') (by omega) (by omega);have m2:=Np (all:=all) (S:=S) (n:=n) (k:=k') (m:=un k' k) (by omega) (by omega);rw[h3]at m1;exact .step (.refl _) m1 m2
theorem AllS.nil:AllS []:=⟨List.Pairwise.nil,nofun,nofun,nofun⟩
theorem TN(ll:List (List Int)):Rgt (DY ll):=by
 have hbd:=TI ll;unfold DY at *;cases h:Ch [] ll with
 | none=>exact Rgt.nil
 | some all=>
  rw[h]at hbd;have A:=Ly ll [] all AllS.nil h;have h9:=EH ll [] all List.Pairwise.nil (fun t ht=>nomatch ht) h;show Rgt ((range all.length).map (Dp all));have hbd1:((range all.length).map (Dp all)).length<=4000:=hbd.1;rw[PG A]at hbd1 ⊢
  have hlen:∀t∈all,1<=t.length:=fun t ht=>by
   have:=A.ne t ht;cases t with
   | nil=>exact absurd rfl this
   | cons a t=>simp
  have hnd:((all.map (sc all)).map Cl.id).Nodup:=by rw[map_map];refine List.pairwise_map.2 ((A.srt.imp fun {a b} h e=>?_:all.Pairwise (·≠·)).imp_of_mem fun {a b} ha hb hne e=>hne (A.nI_inj ha hb e));rw[e,Gq]at h;cases h
  have hcel:∀t∈all,FS (all.map (sc all)) (nI all t)=sc all t:=fun t ht=>Ci hnd (List.mem_map.2 ⟨t,ht,rfl⟩);have hsd:∀t∈all,2<=t.length->(sc all t).sd=BX (Hw all t):=fun t _ h=>if_neg (by omega);have hraw:∀t:List Int,(Hw all t).length=t.length:=fun t=>by simp[Hw]
  have hside:∀t∈all,∀s∈(sc all t).sd,∃k,k<t.length/\2<=t.length/\s=(nI all (t.eraseIdx k),sg k):=fun t ht s hs=>by
   by_cases h2:2<=t.length
   ·rw[hsd t ht h2]at hs;have hs:=(BB _).mem_iff.1 hs;unfold Hw at hs;obtain⟨k,hk,rfl⟩:=List.mem_map.1 hs;exact⟨k,List.mem_range.1 hk,h2,rfl⟩
   ·have:(sc all t).sd=[]:=if_pos (by omega);rw[this]at hs;cases hs
  have hin:∀t∈all,2<=t.length->∀k,k<t.length->t.eraseIdx k∈all:=fun t ht h2 k hk=>T8 A ht (n:=t.length-1) (by omega) (by omega) (by omega);refine⟨hbd1,hnd,fun x hx=>?_,fun x hx=>?_,fun x hx=>?_,fun x hx=>?_,fun x hx s hs=>?_,fun x hx s hs=>?_,fun x hx hd=>?_,fun x hx hd=>?_⟩<;>obtain⟨t,ht,rfl⟩:=List.mem_map.1 hx<;>have hl1:=hlen t ht<;>have hl9:=h9 t ht
  ·show 1<=nI all t;unfold nI;omega
  ·show 0<=(t.length:Int)-1/\(t.length:Int)-1<=8;omega
  ·unfold Cj;show ¬(((t.length:Int)-1=0/\0<(sc all t).sd.length)\/((t.length:Int)-1=1/\(sc all t).sd.length≠2)\/(1<(t.length:Int)-1/\((sc all t).sd.length<2\/64<(sc all t).sd.length)));by_cases h2:2<=t.length
   ·rw[hsd t ht h2,HC,hraw];omega
   ·have:(sc all t).sd=[]:=if_pos (by omega);rw[this];simp;omega
  ·by_cases h2:2<=t.length
   ·rw[hsd t ht h2,((BB (Hw all t)).map Prod.fst).nodup_iff];unfold Hw;rw[map_map];refine List.pairwise_map.2 ((List.nodup_range (n:=t.length)).imp_of_mem fun {a b} ha hb hne e=>hne ?_);have ha:=List.mem_range.1 ha;have hb:=List.mem_range.1 hb;have e:=A.nI_inj (hin t ht h2 a ha) (hin t ht h2 b hb) e;have hnd:t.Nodup:=(A.inc t ht).imp fun h e=>by omega
    have h3:t[a] ∉ t.eraseIdx a:=fun q=>(Ui hnd ha).1 q rfl;rw[e,Ui hnd ha]at h3;exact Classical.not_not.1 h3
   ·have:(sc all t).sd=[]:=if_pos (by omega);rw[this];simp
  ·obtain⟨k,hk,h2,rfl⟩:=hside t ht s hs;refine⟨_,List.mem_map.2 ⟨_,hin t ht h2 k hk,rfl⟩,rfl,?_⟩;show((t.eraseIdx k).length:Int)-1=(t.length:Int)-1-1;rw[Mu (n:=t.length-1) (by omega) (by omega)];omega
  ·obtain⟨k,hk,h2,rfl⟩:=hside t ht s hs;exact ZX k
  ·have hd:(t.length:Int)-1=1:=hd;have h2:t.length=2:=by omega
   rw[hsd t ht (by omega),Ia ((BB (Hw all t)).map Prod.snd)];unfold Hw;rw[h2];rfl
  ·have hd:2<=(t.length:Int)-1:=hd;obtain⟨n,hl⟩:∃n,t.length=n+1:=⟨t.length-1,by omega⟩
   have h2:2<=t.length:=by omega
   refine(Sd A ht hl (by omega)).perm ?_ (by rw[hsd t ht h2];exact(BB _).symm);unfold E4;rw[hsd t ht h2]
   have e:Rn all t n=J9 (fun c=>if c=0 then [] else Hw all (all.getD (c-1).toNat [])) (Hw all t):=by
    unfold J9 Hw;rw[List.flatMap_map,hl];refine Dz fun k hk=>?_;have hk:=List.mem_range.1 hk;obtain⟨j,hj,e1,e2⟩:=A.nI_at (hin t ht h2 k (by omega));show _=List.map _ (if nI all (t.eraseIdx k)=0 then [] else _);rw[if_neg (by omega)]
    have e3:all.getD (nI all (t.eraseIdx k)-1).toNat []=t.eraseIdx k:=by rw[e2,show(((j:Int)+1)-1).toNat=j by omega];simp[List.getD,hj,e1]
    rw[e3,map_map,Mu hl (by omega)];rfl
   rw[e];refine HX (BB _).symm fun s hs=>List.Perm.map _ ?_;unfold Hw at hs;obtain⟨k,hk,rfl⟩:=List.mem_map.1 hs;have hk:=List.mem_range.1 hk;obtain⟨j,hj,e1,e2⟩:=A.nI_at (hin t ht h2 k hk);show List.Perm (if nI all (t.eraseIdx k)=0 then [] else _) (FS (all.map (sc all)) (nI all (t.eraseIdx k))).sd;rw[if_neg (by omega),hcel _ (hin t ht h2 k hk)]
   have e3:all.getD (nI all (t.eraseIdx k)-1).toNat []=t.eraseIdx k:=by rw[e2,show(((j:Int)+1)-1).toNat=j by omega];simp[List.getD,hj,e1]
   rw[e3,hsd _ (hin t ht h2 k hk) (by rw[Mu hl (by omega)];omega)];exact(BB _).symm
theorem Xu(ll:List (List Int)):∀x∈DY ll,x.id<=(DY ll).length:=by
 unfold DY;cases h:Ch [] ll with
 | none=>nofun
 | some all=>
  intro x hx;obtain⟨i,hi,rfl⟩:=List.mem_map.1 hx;have hi:=List.mem_range.1 hi;show(i:Int)+1<=(((range all.length).map (Dp all)).length:Nat);rw[length_map,length_range];omega
end Go.Proofs.Q
