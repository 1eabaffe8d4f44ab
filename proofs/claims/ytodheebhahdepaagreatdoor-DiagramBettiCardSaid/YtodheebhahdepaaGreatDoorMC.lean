/- A part of the proof. -/
import Derived.Test.YtodheebhahdepaaGreatDoorMB
import Derived.Laws.Strings
import Derived.Laws.BytesArg
import Derived.Test.YtodheebhahdepaaGreatDoorChecked
import Derived.KernelRfl
import Derived.WalkArith
set_option linter.unusedSimpArgs false
set_option linter.unusedVariables false
set_option linter.unusedSectionVars false
set_option maxRecDepth 100000
set_option maxHeartbeats 4000000
open List (length_map length_singleton getElem_mem replicate length_append nil_append length_take mem_cons cons_append map_append mem_cons_self mem_cons_of_mem length_nil length_drop append_nil map_cons length_set append_assoc getElem_map perm_append_comm length_cons take_zero drop_zero take_succ_cons drop_succ_cons not_mem_nil)
namespace Go.Eng
open Go.RowKit
variable {s:AB} {h:Hp} {ms:List Hp} {e:Entry} {t:Nat}
def ZN(P:Program)(gf:FuncId)(lb:List Value)(h:Hp)(N:Nat)(enc:Nat->List Value):Prop:=
  ∀(lp:Nat) (X Y:Nat->Hp->List Hp->Prop) (h1:Hp) (ms:List Hp),h.le h1->(∀k h2 ms2,k<N->h1.le h2->X k h2 ms2->YdT P lp (enc k).toArray h2 ms2 (fun r h' ms'=>(r=.bool true/\X (k+1) h' ms')\/(r=.bool false/\Y k h' ms')))->X 0 h1 ms →
    FnT P gf ([Value.func (.yield lp) #[] #[]]++lb).toArray h1 ms (fun _ h' ms'=>X N h' ms'\/∃k,k<N/\Y k h' ms')
abbrev ZD(e:Entry)(I I2:AB->Hp->List Hp->Prop):Exit->Act->World->Prop:=Exit.then (Inv e I) (fun x a w=>x=.ret/\Inv e I2 a w)
theorem Xw{I I2:AB->Hp->List Hp->Prop}:¬LetsOut (ZD e I I2):=fun⟨_,_,h,_⟩=>by cases h
theorem YV{I I2:AB->Hp->List Hp->Prop}(s':AB)(hI:I2 s' h ms)(hs:Sub s' s):NX e (ZD e I I2) .ret s h ms:=
  fun a w ha hw=>⟨rfl,s',h,ms,hI,ha.sub hs,hw⟩
theorem HS{Q:Exit->Act->World->Prop}{gf:Nat}{lb:List Value}{ps:List Nat}{assign body:Code}(J Jr:Nat->Hp->List Hp->Prop)(A:Nat->AB->Hp->List Hp->Prop){N:Nat}{enc:Nat->List Value}
    (hg:lk s t=some (.func (.func gf) #[] lb.toArray)) (hc:∀az w,(callFunc gf az).run e.P w=.ok (.enter gf az) w) (hit:ZN e.P gf lb h N enc) (hps:∀k,(enc k).length=ps.length) (hpn:ps.all (fun p=>Nat.blt p e.n)=true)
    (h0:J 0 h ms)
    (hA:∀w0 k h1 ms1,k<N->h.le h1->J k h1 ms1->RS ⟨e.P,w0,h1,ms1,e.n,[]⟩ assign (Yf ⟨e.P,w0,h1,ms1,e.n,[]⟩ (A k)) (Q1 ps (enc k) s) h1 ms1)
    (hB:∀w0 k s1 h1 ms1,k<N->h.le h1->A k s1 h1 ms1->RS ⟨e.P,w0,h1,ms1,e.n,[]⟩ body (ZD ⟨e.P,w0,h1,ms1,e.n,[]⟩ (fun _=>J (k+1)) (fun _=>Jr k)) s1 h1 ms1)
    (hK:∀D h1 ms1,h.le h1->J N h1 ms1->NX ⟨e.P,e.w0,e.h0,e.ms0,e.n,D::e.ds⟩ Q .normal s h1 (ms1++[Mk D]))
    (hR:∀D k h1 ms1,k<N->h.le h1->Jr k h1 ms1->NX ⟨e.P,e.w0,e.h0,e.ms0,e.n,D::e.ds⟩ Q .ret s h1 (ms1++[Mk D])) :
    WS e (.rangeFunc (.tmp t) ps.toArray assign body) Q s h ms:=by
  intro a w ha hw;refine(wpIn_wide (n:=0)).1 (wpIn_rangeFunc fun fn _=>?_);have hge:a.eval (.tmp t)=.func (.func gf) #[] lb.toArray:=ha.eval (.tmp t) _ hg;obtain⟨rec,hrec⟩:∃rec:LoopState->Loop,rec=fun st=>{ state:=st,pending:=none,fn,tmps:=a.tmps,params:=ps.toArray,assign,body,defers:=w.heap.size }:=⟨_,rfl⟩
  obtain⟨recD,hrecD⟩:∃recD:Loop,recD={ state:=.done,pending:=some .ret,fn,tmps:=a.tmps,params:=ps.toArray,assign,body,defers:=w.heap.size }:=⟨_,rfl⟩
  obtain⟨l,hl⟩:∃l,l=w.heap.size+1:=⟨_,rfl⟩
  obtain⟨W1,hW1⟩:∃W1,(w.alloc (.deferred (some []))).alloc (.loop (rec .ready))=W1:=⟨_,rfl⟩
  have hE1:e.Ends W1 h (ms++[Hp.one l (.loop (rec .ready)),Mk w.heap.size]):=by
    have h2:=(hw.alloc (.deferred (some []))).alloc (.loop (rec .ready));rw[World.size_alloc,<-hl,hW1]at h2
    exact h2.perm (by
      refine List.Perm.trans ?_ perm_append_comm
      exact List.Perm.refl _)
  refine⟨l,[{ target:=.collected w.heap.size,args:=#[] }],W1,{ target:=.fn (.func gf) lb.toArray,args:=#[.func (.yield l) #[] #[]] },W1,gf,([Value.func (.yield l) #[] #[]]++lb).toArray,W1,?_,?_,fun _ _=>trivial,?_,(fun h=>by cases h),?_⟩
  · rw[<-hW1,hrec,hl];exact run_enterLoop_outer _ _ _ _ _
  · simp only[resolve,hge];simp[go_sem]
  · simp[invoke,go_sem,hc]
  · refine(callsIn_wide (n:=0)).2 ((hit l (fun k h1 ms1=>h.le h1/\∃ms2,ms1=ms2++[Hp.one l (.loop (rec .ready)),Mk w.heap.size]/\J k h1 ms2) (fun k h1 ms1=>h.le h1/\∃ms2,ms1=ms2++[Hp.one l (.loop recD),Mk w.heap.size]/\Jr k h1 ms2) h _ (Hp.le_refl _) ?_ ⟨Hp.le_refl _,ms,rfl,h0⟩ W1 hE1.st).mono ?_)
    · -- a round
      rintro k h2 ms2 hkN hl2 ⟨_,ms2,rfl,hJ⟩ w2 hS2;have hlo:w2.heap[l]?=some (.loop (rec .ready)):=hS2.own _ (by simp) l _ (Hp.one_self _ _);have hy:=run_yield (P:=e.P) (args:=(enc k).toArray) hlo (by rw[hrec];simpa using hps k);refine⟨_,_,_,_,hy,?_⟩;have r1:(rec .ready).params=ps.toArray:=by rw[hrec]
      have r2:(rec .ready).tmps=a.tmps:=by rw[hrec]
      have r3:(rec .ready).assign=assign:=by rw[hrec]
      have r4:(rec .ready).body=body:=by rw[hrec]
      rw[r1,r2,r3,r4];refine roundIn_of_wpIn trivial ?_;have hSp:St w2 h2 ms2:=hS2.pre
      have hHas:Has e.n [] { tmps:=(ps.toArray.zip (enc k).toArray).foldl (fun t (p,v)=>t.setIfInBounds p v) a.tmps,defers:=[] } (Q1 ps (enc k) s):=by
        have e1:(ps.toArray.zip (enc k).toArray).foldl (fun t (p,v)=>t.setIfInBounds p v) a.tmps=(ps.zip (enc k)).foldl (fun t (p,v)=>t.setIfInBounds p v) a.tmps:=by simp
        rw[e1];exact MU rfl ps (enc k) s a.tmps (fun p hp=>Nat.le_of_ble_eq_true (List.all_eq_true.1 hpn p hp)) ⟨rfl,ha.size,ha.slots⟩
      refine wpIn_mono (hA w2 k h2 ms2 hkN hl2 hJ l _ w2 hHas (Ends.refl hSp) Nr) ?_;intro x a1 w3 hx;cases x with
      | normal=>
        obtain⟨s3,h3,ms3,hA3,hHas3,hE3⟩:=hx;have hEf:Ends w2 h2 (ms2++[Hp.one l (.loop (rec .ready)),Mk w.heap.size]) w3 h3 (ms3++[Hp.one l (.loop (rec .ready)),Mk w.heap.size]):=Ends.call (Ends.refl hS2) hE3;have hEp:=hEf.perm (ms':=Hp.one l (.loop (rec .ready))::Mk w.heap.size::ms3) perm_append_comm;have hl3:w3.heap[l]?=some (.loop (rec .ready)):=hEp.st.own _ (mem_cons_self) l _ (Hp.one_self _ _);have hE4:=Ends.putL (.loop (rec .busy)) hEp;refine⟨_,run_beginRound hl3 (by rw[hrec]),?_⟩;have e2:({ rec .ready with state:=.busy }:Loop)=rec .busy:=by rw[hrec]
        rw[e2];have hE4':=hE4.perm (ms':=ms3++[Hp.one l (.loop (rec .busy)),Mk w.heap.size]) (perm_append_comm (l₁:=[_,_]));refine wpIn_mono (hB _ k s3 h3 ms3 hkN (Hp.le_trans hl2 hE3.le) hA3 l a1 _ hHas3 (Ends.refl hE4'.st.pre) Xw) ?_;intro y a2 w5 hy5;cases y with
        | normal=>
          obtain⟨s5,h5,ms5,hJ5,_,hE5⟩:=hy5;have hE6:=Ends.call hE4' hE5;have hE6p:=hE6.perm (ms':=Hp.one l (.loop (rec .busy))::Mk w.heap.size::ms5) perm_append_comm;have hl6:w5.heap[l]?=some (.loop (rec .busy)):=hE6p.st.own _ (mem_cons_self) l _ (Hp.one_self _ _);refine⟨_,_,run_endRound none hl6,?_⟩;have e3:({ rec .busy with state:=if(none:Option Code).isNone then .ready else .done,pending:=none }:Loop)=rec .ready:=by rw[hrec];rfl
          rw[e3];exact⟨_,h5,_,rfl,(Ends.putL (.loop (rec .ready)) hE6p).perm (perm_append_comm (l₁:=[_,_])),.inl ⟨rfl,Hp.le_trans hl2 (Hp.le_trans hE3.le hE5.le),ms5,rfl,hJ5⟩⟩
        | ret=>
          obtain⟨_,s5,h5,ms5,hJ5,_,hE5⟩:=hy5;have hE6:=Ends.call hE4' hE5;have hE6p:=hE6.perm (ms':=Hp.one l (.loop (rec .busy))::Mk w.heap.size::ms5) perm_append_comm;have hl6:w5.heap[l]?=some (.loop (rec .busy)):=hE6p.st.own _ (mem_cons_self) l _ (Hp.one_self _ _);refine⟨_,_,run_endRound (some .ret) hl6,?_⟩;have e3:({ rec .busy with state:=if(some Code.ret:Option Code).isNone then .ready else .done,pending:=some .ret }:Loop)=recD:=by rw[hrec,hrecD];rfl
          rw[e3];exact⟨_,h5,_,rfl,(Ends.putL (.loop recD) hE6p).perm (perm_append_comm (l₁:=[_,_])),.inr ⟨rfl,Hp.le_trans hl2 (Hp.le_trans hE3.le hE5.le),ms5,rfl,hJ5⟩⟩
        | _=>exact absurd hy5.1 (by simp)
      | _=>exact hx
    · rintro x w3 ⟨r,h3,ms3,rfl,hE3,⟨hl3,ms4,rfl,hJ⟩|⟨k,hkN,hl3,ms4,rfl,hJ⟩⟩
      · have hE4:=Ends.call (fr:=[]) (by rw[append_nil];exact hE1) hE3;rw[append_nil]at hE4;have hE5:=hE4.perm (ms':=Hp.one l (.loop (rec .ready))::Mk w.heap.size::ms4) perm_append_comm;have hl5:w3.heap[l]?=some (.loop (rec .ready)):=hE5.st.own _ (mem_cons_self) l _ (Hp.one_self _ _);refine⟨_,_,run_endLoop hl5 (by rw[hrec];simp),?_⟩;have e4:(rec .ready).pending=none:=by rw[hrec]
        rw[e4];exact hK w.heap.size h3 ms4 hl3 hJ { a with defers:=[{ target:=.collected w.heap.size,args:=#[] }]++a.defers } _ ⟨by show [_]++a.defers=_;rw[ha.defers];rfl,ha.size,ha.slots⟩ ((Ends.putL _ hE5).drop.perm (perm_append_comm (l₁:=[_])))
      · have hE4:=Ends.call (fr:=[]) (by rw[append_nil];exact hE1) hE3;rw[append_nil]at hE4;have hE5:=hE4.perm (ms':=Hp.one l (.loop recD)::Mk w.heap.size::ms4) perm_append_comm;have hl5:w3.heap[l]?=some (.loop recD):=hE5.st.own _ (mem_cons_self) l _ (Hp.one_self _ _);refine⟨_,_,run_endLoop hl5 (by rw[hrecD];simp),?_⟩;have e4:recD.pending=some .ret:=by rw[hrecD]
        rw[e4];exact wpIn_ret (hR w.heap.size k h3 ms4 hkN hl3 hJ { a with defers:=[{ target:=.collected w.heap.size,args:=#[] }]++a.defers } _ ⟨by show [_]++a.defers=_;rw[ha.defers];rfl,ha.size,ha.slots⟩ ((Ends.putL _ hE5).drop.perm (perm_append_comm (l₁:=[_]))))
theorem Mb{P:Program}{w0:World}{h0:Hp}{ms0:List Hp}{n:Nat}{fn:Func}{post:Value->Hp->List Hp->Prop}{g:Nat}{ty el:TypeId}{d:TypeDesc}{v:Value}
    (hr:fn.results=#[.cell t ty]) (hv:lk s t=some (.pointer (some ⟨g,0,none⟩))) (ht:P.underlying ty=some d) (hd:Ir d=false) (i:Nat) (hm:ms[i]?=some (A7 g el [v])) (hp:post v h ms) :
    NX ⟨P,w0,h0,ms0,n,[]⟩ (bodyPost P fn (RP w0 h0 ms0 post)) .ret s h ms:=
  Vh hr hv ht hd (Cell.blk0 i hm rfl) hp
theorem YI{P:Program}{w0:World}{h0:Hp}{ms0:List Hp}{n:Nat}{fn:Func}{post:Value->Hp->List Hp->Prop}{u r:Nat}{v v' v2:Value}(hr:fn.results=#[.tmp t,.tmp u,.tmp r])(hv:lk s t=some v)(hv':lk s u=some v')(hv2:lk s r=some v2)(hp:post (.tuple #[v,v',v2]) h ms) :
    NX ⟨P,w0,h0,ms0,n,[]⟩ (bodyPost P fn (RP w0 h0 ms0 post)) .ret s h ms:=fun a w ha hw=>
  bodyPost_ret (v:=.tuple #[v,v',v2]) (by
    have h1:=ha.eval (.tmp t) v hv;have h2:=ha.eval (.tmp u) v' hv';have h3:=ha.eval (.tmp r) v2 hv2;simp only[Act.eval]at h1 h2 h3;rw[Array.getD_eq_getD_getElem?]at h1 h2 h3
    simp[results,hr,h1,h2,h3]) ha.defers ⟨_,h,ms,rfl,hw,hp⟩
end Go.Eng
namespace Go.Eng
open Go.RowKit
variable {a b n bytes sz:Nat} {r:Int} {el:TypeId} {z:Value}
def sv(l:List UInt8):Value:=.string ⟨l.toArray⟩
theorem KI(l:List UInt8):(sv l).oneCell'=true:=rfl
def Zj(b:UInt8):List Value:=[.int .u8 (b.toNat:Int)]
def Cn(n:Nat):List Value:=[.int .u64 (n:Int)]
theorem RW:∀n,(Zj n).length=1:=fun _=>rfl
theorem DI:∀n,(Cn n).length=1:=fun _=>rfl
section
variable {P:Program} {o:Oper} {s:AB} {h:Hp} {ms:List Hp} {t u:TypeId} {x y:Operand} {l l':List UInt8} {k:IntKind}
theorem SD(ho:o.op=.call { callee:=.builtin .len,args:=#[x],argTypes:=#[t] })(ht:P.underlying t=some .string)(hx:ev s x=some (sv l)):OX P o s h ms (.int .i64 l.length):=
  Bw fun ρ w hρ _=>by have:=run_len_string w t 0 ⟨l.toArray⟩ ht;simp[execOp,ho,hρ _ _ hx,resolve,invoke,builtin,sv,Builtin.len_,run_underlying ht,goInt];rfl
theorem Fw(n:Nat)(hn:l.length=n)(ho:o.op=.call { callee:=.builtin .len,args:=#[x],argTypes:=#[t] })(ht:P.underlying t=some .string)(hx:ev s x=some (sv l)):OX P o s h ms (.int .i64 n):=by subst hn;exact SD ho ht hx
theorem Tb{i:Int}(j:Nat)(ho:o.op=.index t x y)(ht:P.underlying t=some .string)(hx:ev s x=some (sv l))(hy:ev s y=some (.int k i))(hi:i=(j:Int))(hlt:j<l.length):OX P o s h ms (.int .u8 ((l[j].toNat:Nat):Int)):=
  Bw fun ρ w hρ _=>by
    have h1:=run_index_string (P:=P) w t ⟨l.toArray⟩ k i ht
    have h2:0<=i/\i<((⟨l.toArray⟩:ByteArray).size:Int):=by refine⟨by omega,?_⟩;show i<((l.toArray.size:Nat):Int);rw[List.size_toArray];omega
    rw[dif_pos h2]at h1;subst hi;simp only[execOp,ho,hρ _ _ hx,hρ _ _ hy,sv,Sem.run_bind,h1];rfl
theorem TG(ho:o.op=.binOp .neq t x y u)(hx:ev s x=some (sv l))(hy:ev s y=some (sv l')):OX P o s h ms (.bool (decide (l≠l'))):=
  Bw fun ρ w hρ _=>by
    have e:(!(l==l'))=decide (l≠l'):=by
      by_cases h:l=l'
      · subst h;simp
      · simp[h]
    simp[execOp,ho,hρ _ _ hx,hρ _ _ hy,sv,binOp_string_neq,e,ByteArray.toList_eq,eqGuard_at_string]
theorem UB(ho:o.op=.binOp .or t x y u)(hx:ev s x=some (.int .u64 a))(hy:ev s y=some (.int .u64 b))(ha:a<18446744073709551616)(hb:b<18446744073709551616):OX P o s h ms (.int .u64 ((a ||| b:Nat):Int)):=
  Bw fun ρ w hρ _=>by
    have h0:a ||| b<2^64:=Nat.or_lt_two_pow (by omega) (by omega)
    have h3:IntKind.u64.wrap (((BitVec.ofNat 64 a) ||| (BitVec.ofNat 64 b)).toNat:Int)=((a ||| b:Nat):Int):=by rw[BitVec.toNat_or,BitVec.toNat_ofNat,BitVec.toNat_ofNat,Nat.mod_eq_of_lt (by omega),Nat.mod_eq_of_lt (by omega)];exact Ds (by omega)
    simp[execOp,ho,hρ _ _ hx,hρ _ _ hy,Op.intBits,IntKind.bits,go_sem];exact h3
theorem Jh{k':IntKind}{d:TypeDesc}{a:Int}(he:k'.wrap a=r)(ho:o.op=.convert t u x)(ht:P.underlying t=some d)(hu:P.underlying u=some (.int k'))(hx:ev s x=some (.int k a)):OX P o s h ms (.int k' r):=by subst he;exact Cf ho ht hu hx
theorem Xz{a:Int}(he:k.wrap (-a)=r)(ho:o.op=.unOp .neg t x)(hx:ev s x=some (.int k a)):OX P o s h ms (.int k r):=by subst he;exact YO ho hx
theorem Kh(he:((a &&& b:Nat):Int)=r)(ho:o.op=.binOp .and t x y u)(hx:ev s x=some (.int .u64 a))(hy:ev s y=some (.int .u64 b))(ha:a<18446744073709551616)(hb:b<18446744073709551616):OX P o s h ms (.int .u64 r):=by subst he;exact X1 ho hx hy ha hb
theorem Ki(he:((a/2^n:Nat):Int)=r)(ho:o.op=.binOp .shr t x y u)(hx:ev s x=some (.int .u64 a))(hy:ev s y=some (.int k n))(hn:n<=64):OX P o s h ms (.int .u64 r):=by subst he;exact DP ho hx hy hn
theorem Sf(he:((a*2^n%18446744073709551616:Nat):Int)=r)(ho:o.op=.binOp .shl t x y u)(hx:ev s x=some (.int .u64 a))(hy:ev s y=some (.int k n))(hn:n<=64):OX P o s h ms (.int .u64 r):=by subst he;exact Rn ho hx hy hn
theorem Wr(he:((a ||| b:Nat):Int)=r)(ho:o.op=.binOp .or t x y u)(hx:ev s x=some (.int .u64 a))(hy:ev s y=some (.int .u64 b))(ha:a<18446744073709551616)(hb:b<18446744073709551616):OX P o s h ms (.int .u64 r):=by subst he;exact UB ho hx hy ha hb
theorem Yd(ho:o.op=.binOp .quo t x y u)(hx:ev s x=some (.int .u64 a))(hy:ev s y=some (.int .u64 b))(ha:a<18446744073709551616)(hb:0<b):OX P o s h ms (.int .u64 ((a/b:Nat):Int)):=by
  have h1:((a:Int).tdiv (b:Int))=((a/b:Nat):Int):=by rw[Int.tdiv_eq_ediv_of_nonneg (Int.natCast_nonneg a)];rfl
  have h2:a/b<=a:=Nat.div_le_self a b
  have h3:IntKind.u64.wrap ((a:Int).tdiv (b:Int))=((a/b:Nat):Int):=by rw[h1];refine Ds ⟨Int.natCast_nonneg _,?_⟩;have:((a/b:Nat):Int)<=(a:Int):=Int.ofNat_le.2 h2;omega
  have:=SA (P:=P) (h:=h) (ms:=ms) ho hx hy (by omega)
  rwa [h3]at this
theorem XX(ho:o.op=.binOp .rem t x y u)(hx:ev s x=some (.int .u64 a))(hy:ev s y=some (.int .u64 b))(hb:0<b):OX P o s h ms (.int .u64 ((a%b:Nat):Int)):=by
  have:=BV (P:=P) (h:=h) (ms:=ms) ho hx hy (by omega) (by omega)
  rwa [<-Int.natCast_emod]at this
theorem Sb(he:IntKind.u64.wrap ((a:Int)+b)=r)(ho:o.op=.binOp .add t x y u)(hx:ev s x=some (.int .u64 a))(hy:ev s y=some (.int .u64 b)):OX P o s h ms (.int .u64 r):=by subst he;exact Bw fun ρ w hρ _=>by simp[execOp,ho,hρ _ _ hx,hρ _ _ hy,Op.intArith,go_sem]
theorem R7(he:IntKind.u64.wrap ((a:Int)-b)=r)(ho:o.op=.binOp .sub t x y u)(hx:ev s x=some (.int .u64 a))(hy:ev s y=some (.int .u64 b)):OX P o s h ms (.int .u64 r):=by subst he;exact Bw fun ρ w hρ _=>by simp[execOp,ho,hρ _ _ hx,hρ _ _ hy,Op.intArith,go_sem]
theorem KD:∀l:List UInt8,l.flatMap Zj=(l.map fun b=>(b.toNat:Int)).map (Value.int .u8)
  | []=>rfl
  | b::l=>by rw[List.flatMap_cons,map_cons,map_cons,KD l];rfl
theorem UP{e:TypeId}{v:Value}(R:Rd h ms v 1 n (l.flatMap Zj))(hl:l.length=n)(ho:o.op=.convert t u x)(ht:P.underlying t=some (.slice e))(he:P.underlying e=some (.int .u8))(hu:P.underlying u=some .string)(hx:ev s x=some v):OX P o s h ms (sv l):=
  Bw fun ρ w hρ hw=>by
    obtain⟨a,c,rfl,e2,e3,e4,e5⟩:=R.ex;subst hl;have hfm:=KD l
    have hs:strOfNums (l.map fun b=>(b.toNat:Int))=⟨l.toArray⟩:=by unfold strOfNums;rw[List.map_map];congr 2;exact(List.map_congr_left fun b _=>by simp).trans (List.map_id _)
    have key:(convert t u (.slice a l.length c)).run P w=.ok (sv l) w:=by
      cases a with
      | none=>
        have:l=[]:=by
          rcases Nat.eq_zero_or_pos l.length with h|h
          · exact List.length_eq_zero_iff.1 h
          · obtain⟨q,h1,_⟩:=e5 h;cases h1
        subst this;exact run_convert_bytes_nil w t e ht he _ _ u hu
      | some q=>
        rw[run_convert_bytes_string w t u e _ _ _ ht he hu]
        have hc:∀j v,((l.map fun b=>(b.toNat:Int)).map (Value.int .u8))[j]?=some v->w.cell? (q.add j)=some v:=by
          rw[<-hfm];rcases Nat.eq_zero_or_pos l.length with h|h
          · intro j v hv;rw[List.length_eq_zero_iff.1 h]at hv;simp at hv
          · obtain⟨q',h1,h2⟩:=e5 h;cases h1;exact fun j v hv=>hw.cell (h2 j v hv)
        have h1:=run_loadCells_list (P:=P) w q _ hc;rw[length_map,length_map]at h1;rw[run_bytesToString w q _ c _ h1,foldl_push_bytes]
        have:(ByteArray.empty.data++((l.map fun b=>(b.toNat:Int)).map fun n=>UInt8.ofNat n.toNat).toArray)=l.toArray:=by have:=congrArg ByteArray.data hs;simpa[strOfNums] using this
        rw[this];rfl
    simp only[execOp,ho,hρ _ _ hx,Sem.run_bind,key];rfl
end
section
variable {e:Entry} {Q:Exit->Act->World->Prop} {ops:Array Oper} {rest:List Oper} {o:Oper} {s:AB} {h:Hp} {ms:List Hp}
theorem Vw{t:TypeId}{d:Nat}{cp:Nat}{x y:Operand}{k1 k2:IntKind}{l c:Int}(ho:o.op=.makeSlice t x y)(ht:e.P.underlying t=some (.slice el))(hs:Elem e.P el 1 z bytes)(hz:z.cells=#[z])
    (hx:ev s x=some (.int k1 l)) (hy:ev s y=some (.int k2 c)) (hl:l=(n:Int)) (hc:c=(cp:Int)) (hnc:n<=cp) (hb:bytes*cp<=281474976710656) (h63:cp<=9223372036854775807) (hd:o.dst=some d) (hn:Nat.blt d e.n=true) (hg:o.guard=none)
    (k:∀g,WL e ops Q rest ((d,.slice (some ⟨g,0,none⟩) n cp)::s) h (A7 g el (replicate cp z)::ms)):WL e ops Q (o::rest) s h ms:=
  Iq (post:=fun v h' ms'=>∃g,v=.slice (some ⟨g,0,none⟩) n cp/\h'=h/\ms'=A7 g el (replicate cp z)::ms) (fun ρ w hρ hw=>by
    obtain⟨i,hi,hz',his,hib⟩:=hs.info
    have hb':(i.bytes:Int)*c<=281474976710656:=by
      rw[hib,hc];have h:((bytes*cp:Nat):Int)<=281474976710656:=by omega
      rwa [Int.natCast_mul]at h
    have hr:=run_make (P:=e.P) w t el i z ht hi hz' k1 k2 l c (by omega) (by omega) hb' (by omega)
    have:(execOp ρ o).run e.P w=.ok (.value (.slice (some ⟨w.heap.size,0,none⟩) n cp)) (w.alloc (.cells (replicate cp z).toArray el)):=by
      have e1:l.toNat=n:=by omega
      have e2:c.toNat=cp:=by omega
      rw[e1,e2,his,hz,Nat.mul_one,HY]at hr;simp only[execOp,ho,hρ _ _ hx,hρ _ _ hy,Sem.run_bind,hr,Result.andThen_ok,Sem.run_pure]
    unfold OpRes;rw[this]
    exact⟨h,_,Ends.alloc hw _,_,rfl,rfl,rfl⟩) hd hn hg fun _ _ _ ⟨g,e1,e2,e3⟩=>by subst e1 e2 e3;exact k g
end
theorem PD{α:Type}{F:α->List Value}(hF:∀x,(F x).length=sz)(hsz:0<sz)(a:α)(n:Nat):madeCells (F a).toArray (n*sz)=((replicate n a).flatMap F).toArray:=by
  apply Array.ext_getElem?;intro i;unfold madeCells;have hr:((replicate n a).flatMap F).toArray[i]?=((replicate n a).flatMap F)[i]?:=List.getElem?_toArray;rw[hr,Array.getElem?_map];have hz:(F a).toArray.size=sz:=by simp[hF]
  rcases Nat.lt_or_ge i (n*sz) with h|h
  · have h1:i/sz<n:=Nat.div_lt_of_lt_mul (by rw[Nat.mul_comm];exact h);have hm:=Nat.mod_lt i hsz;have h2:i%sz<(F a).length:=by rw[hF];exact hm
    have h3:=EP hF (replicate n a) (i/sz) (by simpa using h1) (i%sz) ((F a)[i%sz]) (by simp[h2]);rw[Nat.mul_comm,Nat.div_add_mod]at h3;rw[h3];simp[h,hF];rw[List.getElem?_eq_getElem h2];rfl
  · rw[List.getElem?_eq_none (l:=(replicate n a).flatMap F) (by rw[A5 hF];simpa using h)];simp[h]
section
variable {e:Entry} {Q:Exit->Act->World->Prop} {ops:Array Oper} {rest:List Oper} {o:Oper} {s:AB} {h:Hp} {ms:List Hp}
theorem U8{α:Type}{F:α->List Value}(hF:∀x,(F x).length=sz)(hsz:0<sz)(a:α){t:TypeId}{d:Nat}{x y:Operand}{k1 k2:IntKind}{l c:Int}(ho:o.op=.makeSlice t x y)(ht:e.P.underlying t=some (.slice el))(hs:Elem e.P el sz z bytes)(hz:z.cells=(F a).toArray)
    (hx:ev s x=some (.int k1 l)) (hy:ev s y=some (.int k2 c)) (hl:l=(n:Int)) (hc:c=(n:Int)) (hb:bytes*n<=281474976710656) (h63:n<=9223372036854775807) (hd:o.dst=some d) (hn:Nat.blt d e.n=true) (hg:o.guard=none)
    (k:∀g v m,v=.slice (some ⟨g,0,none⟩) n n->OwnL F sz el m v (replicate n a)->WL e ops Q rest ((d,v)::s) h (m::ms)):WL e ops Q (o::rest) s h ms:=
  Iq (post:=fun v h' ms'=>∃g,v=.slice (some ⟨g,0,none⟩) n n/\h'=h/\ms'=A7 g el ((replicate n a).flatMap F)::ms) (fun ρ w hρ hw=>by
    obtain⟨i,hi,hz',his,hib⟩:=hs.info
    have hb':(i.bytes:Int)*c<=281474976710656:=by
      rw[hib,hc];have h:((bytes*n:Nat):Int)<=281474976710656:=by omega
      rwa [Int.natCast_mul]at h
    have hr:=run_make (P:=e.P) w t el i z ht hi hz' k1 k2 l c (by omega) (by omega) hb' (by omega)
    have:(execOp ρ o).run e.P w=.ok (.value (.slice (some ⟨w.heap.size,0,none⟩) n n)) (w.alloc (.cells ((replicate n a).flatMap F).toArray el)):=by
      have e1:l.toNat=n:=by omega
      have e2:c.toNat=n:=by omega
      rw[e1,e2,his,hz,PD hF hsz]at hr;simp only[execOp,ho,hρ _ _ hx,hρ _ _ hy,Sem.run_bind,hr,Result.andThen_ok,Sem.run_pure]
    unfold OpRes;rw[this]
    exact⟨h,_,Ends.alloc hw _,_,rfl,rfl,rfl⟩) hd hn hg fun _ _ _ ⟨g,e1,e2,e3⟩=>by subst e1 e2 e3;exact k g _ _ rfl (OwnL.blk n hF (by simp) (by omega))
end
theorem VU{P:Program}{w0:World}{h0:Hp}{ms0:List Hp}{fn:Func}{post:Value->Hp->List Hp->Prop}{s:AB}{h:Hp}{t t2 u:Nat}{ty:TypeId}{g g2:Nat}{d:TypeDesc}{vs vs2:List Value}{v:Value}
    (hr:fn.results=#[.cell t ty,.cell t2 ty,.tmp u]) (hv:lk s t=some (.pointer (some ⟨g,0,none⟩))) (hv2:lk s t2=some (.pointer (some ⟨g2,0,none⟩))) (hu:lk s u=some v) (ht:P.underlying ty=some d) (hd:Ir d=true) (hs:Elem P ty sz z bytes) (hl:vs.length=sz) (hl2:vs2.length=sz)
    (hp:post (.tuple #[.agg vs.toArray,.agg vs2.toArray,v]) h []) :
    NX ⟨P,w0,h0,ms0,n,[]⟩ (bodyPost P fn (RP w0 h0 ms0 post)) .ret s h [A7 g el vs,A7 g2 el vs2]:=fun a w ha hw=>by
  have h1:a.tmps[t]?.getD undef=.pointer (some ⟨g,0,none⟩):=by rw[ha.slots t _ hv];rfl
  have h1':a.tmps[t2]?.getD undef=.pointer (some ⟨g2,0,none⟩):=by rw[ha.slots t2 _ hv2];rfl
  have h2:a.tmps[u]?.getD undef=v:=by rw[ha.slots u _ hu];rfl
  have hag:(isAgg ty).run P w=.ok true w:=by rw[D3 ht,hd]
  have hc':∀j v,vs[j]?=some v->w.cell? ((⟨g,0,none⟩:Addr).add j)=some v:=fun j v e=>hw.st.cell (Seg.blk (el:=el) 0 rfl j v e);have hc2:∀j v,vs2[j]?=some v->w.cell? ((⟨g2,0,none⟩:Addr).add j)=some v:=fun j v e=>hw.st.cell (Seg.blk (el:=el) 1 rfl j v e);refine bodyPost_ret (v:=.tuple #[.agg vs.toArray,.agg vs2.toArray,v]) ?_ ha.defers ⟨_,h,_,rfl,Ends.drop (Ends.drop hw),hp⟩;have e1:=run_loadCells_list (P:=P) w _ vs hc';have e2:=run_loadCells_list (P:=P) w _ vs2 hc2;rw[hl]at e1;rw[hl2]at e2;simp[results,hr,h1,h1',h2,asAddr,loadVar,hag,hs.sizeOf,e1,e2]
end Go.Eng
namespace Go.Eng
open Go.RowKit
section
variable {e:Entry} {Q:Exit->Act->World->Prop} {ops:Array Oper} {rest:List Oper} {o:Oper} {s:AB} {h:Hp} {ms:List Hp}
theorem UC(z:Array Value)(n:Nat):(Builtin.zeroCells z n).toList.length=n*z.size:=by simp[Builtin.zeroCells]
theorem VW{z:Array Value}{n:Nat}(h1:∀c∈z,c.oneCell'=true):∀c∈(Builtin.zeroCells z n).toList,c.oneCell'=true:=by
  intro c hc;simp only[Builtin.zeroCells,Array.toList_map,List.mem_map]at hc;obtain⟨i,hi,rfl⟩:=hc;have hi':i<n*z.size:=by simpa using hi
  have hz:0<z.size:=by
    rcases Nat.eq_zero_or_pos z.size with h|h
    · rw[h]at hi';omega
    · exact h
  have hm:=Nat.mod_lt i hz;rw[getElem!_pos z _ hm];exact h1 _ (Array.getElem_mem hm)
theorem To{α:Type}{F:α->List Value}{t el:TypeId}{m:Hp}{v:Value}{l:List α}{x:Operand}{z:Value}{sz bytes:Nat}(i n:Nat)(O:OwnL F sz el m v l)(hn:n<=l.length)(ho:o.op=.call { callee:=.builtin .clear,args:=#[x],argTypes:=#[t] })(ht:e.P.underlying t=some (.slice el))(hs:Elem e.P el sz z bytes)(hz:z.cells.size=sz)(h1:∀c∈z.cells,c.oneCell'=true)
    (hx:ev s x=some (Cu sz v n l.length)) (hm:ms[i]?=some m) (hd:o.dst=none) (hg:o.guard=none)
    (K:∀m',OwnL F sz el m' (Cu sz v 0 n) (l.take n)->WL e ops Q rest s h (ms.set i m')):WL e ops Q (o::rest) s h ms:=by
  have hP:=O.pre hn
  have hset:ms.set i m=ms:=by
    refine List.ext_getElem? fun j=>?_;rw[List.getElem?_set];split
    · next hij=>subst hij;split
                · exact hm.symm
                · next hlt=>exact(List.getElem?_eq_none (by omega)).symm
    · rfl
  have nothing:(∀w ty,(Builtin.clear_ #[t] ty #[Cu sz v n l.length]).run e.P w=.ok (.tuple #[]) w)->WL e ops Q (o::rest) s h ms:=fun hh=>by
    refine Kv (post:=fun _ h' ms'=>h'=h/\ms'=ms) (fun ρ w hρ hw=>?_) hd hg fun _ _ _ ⟨e4,e5⟩=>by
      subst e4 e5;have:=K m hP
      rwa [hset]at this
    have:(execOp ρ o).run e.P w=.ok (.value (.tuple #[])) w:=by simp[execOp,ho,hρ _ _ hx,resolve,invoke,builtin,hh]
    unfold OpRes;rw[this];exact⟨h,_,hw,rfl,rfl⟩
  obtain⟨⟨h2,h3⟩,hF⟩:=O;rcases h3 with ⟨rfl,h5,rfl⟩|⟨g,cap,spare,rfl,rfl,h6,h7,h8⟩
  · refine nothing fun w ty=>?_
    have:Cu sz (.slice none 0 0) n l.length=.slice none (l.length-n) (0-n):=by unfold Cu;simp
    rw[this];simp[Builtin.clear_,run_underlying ht]
  · rcases Nat.eq_zero_or_pos (l.length-n) with h0|h0
    · refine nothing fun w ty=>?_;have:∃a c,Cu sz (.slice (some ⟨g,0,none⟩) l.length cap) n l.length=.slice a 0 c:=⟨_,_,by unfold Cu;rw[h0]⟩
      obtain⟨a,c,this⟩:=this;rw[this];cases a<;>simp[Builtin.clear_,run_underlying ht]
    · have hcn:¬cap=n:=by omega
      have hvs:Cu sz (.slice (some ⟨g,0,none⟩) l.length cap) n l.length=.slice (some ⟨g,n*sz,none⟩) (l.length-n) (cap-n):=by
        unfold Cu;simp only;rw[if_neg hcn];have:(⟨g,0,none⟩:Addr).add (n*sz)=⟨g,n*sz,none⟩:=by unfold Addr.add;split<;>simp_all
        simp only[Option.map_some,this]
      rw[hvs]at hx;obtain⟨Z,hZ⟩:∃Z,(Builtin.zeroCells z.cells (l.length-n)).toList=Z:=⟨_,rfl⟩
      have hZl:Z.length=(l.length-n)*sz:=by rw[<-hZ,UC,hz]
      have hZ1:∀c∈Z,c.oneCell'=true:=by rw[<-hZ];exact VW h1
      have hsm:n*sz+(l.length-n)*sz=l.length*sz:=by rw[<-Nat.add_mul];congr 1;omega
      have hfl:(l.flatMap F).length=l.length*sz:=A5 hF l;obtain⟨L,hL⟩:∃L,l.flatMap F++spare=L:=⟨_,rfl⟩
      have hLl:l.length*sz<=L.length:=by rw[<-hL,length_append,hfl];omega
      have hsp:l.flatMap F=(l.take n).flatMap F++(l.drop n).flatMap F:=by rw[<-List.flatMap_append,List.take_append_drop]
      have hL2:(l.take n).flatMap F++((l.drop n).flatMap F++spare)=L:=by rw[<-append_assoc,<-hsp,hL]
      have hft:((l.take n).flatMap F).length=n*sz:=by rw[A5 hF,length_take,Nat.min_eq_left hn]
      have hLt:L.take (n*sz)=(l.take n).flatMap F:=by rw[<-hL2,<-hft,List.take_left]
      have hNew:L.take (n*sz)++Z++L.drop (n*sz+Z.length)=(l.take n).flatMap F++(Z++L.drop (n*sz+Z.length)):=by rw[hLt,append_assoc]
      refine Kv (post:=fun _ h' ms'=>h'=h/\ms'=ms.set i (A7 g el (L.take (n*sz)++Z++L.drop (n*sz+Z.length)))) (fun ρ w hρ hw=>?_) hd hg fun _ _ _ ⟨e4,e5⟩=>by
        subst e4 e5
        have hv:Cu sz (.slice (some ⟨g,0,none⟩) l.length cap) 0 n=.slice (some ⟨g,0,none⟩) n cap:=by
          unfold Cu;by_cases h0:cap=0
          · omega
          · show Value.slice (if cap=0 then _ else _) (n-0) (cap-0)=_;rw[if_neg h0,Nat.zero_mul];rfl
        refine K _ ⟨⟨A5 hF _,.inr ⟨g,cap,Z++L.drop (n*sz+Z.length),?_,?_,?_,?_,h8⟩⟩,hF⟩
        · rw[length_take,Nat.min_eq_left hn];exact hv
        · rw[hNew]
        · rw[<-hNew];have:(L.take (n*sz)++Z++L.drop (n*sz+Z.length)).length=L.length:=by simp;omega
          rw[this,<-hL];exact h6
        · rw[length_take,Nat.min_eq_left hn];omega
      rw[hL]at hm;have hgw:w.heap[g]?=some (.cells L.toArray el (0,0)):=hw.st.own _ (List.mem_of_getElem? hm) g _ (Hp.one_self _ _);have hst:=run_storeCells_at (P:=e.P) g (n*sz) el Z 0 _ w hgw (by simp only[List.size_toArray];omega) hZ1
      have:(execOp ρ o).run e.P w=.ok (.value (.tuple #[])) (w.setRow g (L.take (n*sz)++Z++L.drop (n*sz+Z.length)).toArray):=by
        obtain⟨q,hq⟩:∃q,l.length-n=q+1:=⟨l.length-n-1,by omega⟩
        rw[hq]at hx hZ;simp[execOp,ho,hρ _ _ hx,resolve,invoke,builtin,Builtin.clear_,run_underlying ht,hs.zeroValue,hZ];simp at hst;rw[hst];rfl
      unfold OpRes;rw[this];exact⟨h,_,Ends.put hw hm rfl ⟨rfl,Nat.le_refl _⟩ rfl (by simp) (setRow_heap w g _ _ _ _ hgw) (fun k hk hne=>setRow_other w g k _ hne),rfl,rfl⟩
end
end Go.Eng
namespace Go.Eng
open Go.RowKit
theorem Qs{s' s:AB}(h:Eng.Sub s' s:=by repeat (first|exact trivial|refine⟨rfl,?_⟩)):Eng.Sub s' s:=h
theorem Qt{f:Nat->Option (Nat×Nat)}{n:Nat}{vs:List (Nat×Value)}{ps:List (Nat×List Value)}(h:Gw f n vs ps:=by repeat (first|exact trivial|refine⟨⟨by rfl,rfl,rfl⟩,?_⟩)):Gw f n vs ps:=h
def dg(n:Nat)(o:Oper):Option Nat:=match o.dst,o.guard with
  | some d,none=>match Nat.blt d n with
    | true=>some d
    | false=>none
  | _,_=>none
theorem Kc{n d:Nat}{o:Oper}(h:dg n o=some d):o.dst=some d/\Nat.blt d n=true/\o.guard=none:=by
  unfold dg at h;split at h
  · rename_i d' h1 h2;split at h
    · rename_i h3;cases h;exact⟨h1,h3,h2⟩
    · cases h
  · cases h
def mv(s:AB)(o:Oper):Option Value:=match o.op with
  | .move x=>ev s x
  | .assign x=>ev s x
  | .nilCheck x=>match ev s x with
    | some (.pointer (some p))=>some (.pointer (some p))
    | _=>none
  | .extract x i=>match ev s x with
    | some (.tuple vs)=>vs[i]?
    | _=>none
  | .pick c x y=>match ev s c with
    | some (.bool true)=>ev s x
    | some (.bool false)=>ev s y
    | _=>none
  | .unOp .not _ x=>match ev s x with
    | some (.bool a)=>some (.bool (!a))
    | _=>none
  | .binOp b _ x y _=>match b,ev s x,ev s y with
    | .lss,some (.int k a),some (.int k' b)=>if k=k' then some (.bool (decide (a<b))) else none
    | .leq,some (.int k a),some (.int k' b)=>if k=k' then some (.bool (decide (a<=b))) else none
    | .gtr,some (.int k a),some (.int k' b)=>if k=k' then some (.bool (decide (b<a))) else none
    | .geq,some (.int k a),some (.int k' b)=>if k=k' then some (.bool (decide (b<=a))) else none
    | .eql,some (.int k a),some (.int k' b)=>if k=k' then some (.bool (decide (a=b))) else none
    | .neq,some (.int k a),some (.int k' b)=>if k=k' then some (.bool (decide (a≠b))) else none
    | _,_,_=>none
  | _=>none
theorem VH{P:Program}{s:AB}{h:Hp}{ms:List Hp}{o:Oper}{v:Value}(hv:mv s o=some v):OX P o s h ms v:=by
  unfold mv at hv;split at hv
  · rename_i h1;exact Ay h1 hv
  · rename_i h1;exact F1 h1 hv
  · rename_i h1;split at hv
    · rename_i h2;cases hv;exact Oq h1 h2
    · cases hv
  · rename_i h1;split at hv
    · rename_i h2;exact H2 h1 h2 hv
    · cases hv
  · rename_i h1;split at hv
    · rename_i h2;exact CA h1 h2 hv
    · rename_i h2;exact Cj h1 h2 hv
    · cases hv
  · rename_i h1;split at hv
    · rename_i h2;cases hv;exact Es h1 h2
    · cases hv
  · rename_i h1;split at hv<;>first|(split at hv<;>first|(rename_i h2 h3 h4;subst h4;cases hv;first|exact Dv h1 h2 h3|exact LA h1 h2 h3|exact Cc h1 h2 h3|exact Ky h1 h2 h3|exact DH h1 h2 h3|exact EZ h1 h2 h3)|cases hv)|cases hv
  · cases hv
def gd(ops:Array Oper)(n:Nat)(s:AB)(o:Oper)(w:Bool):Option Nat:=match o.dst,o.guard with
  | some d,some (j,b)=>match Nat.blt d n,ops[j]? with
    | true,some oj=>match oj.dst with
      | some dj=>match lk s dj with
        | some (.bool b')=>match (b'==b)==w with
          | true=>some d
          | false=>none
        | _=>none
      | none=>none
    | _,_=>none
  | _,_=>none
theorem So{ops:Array Oper}{n d:Nat}{s:AB}{o:Oper}{w:Bool}(h:gd ops n s o w=some d):∃j b oj dj b',o.dst=some d/\Nat.blt d n=true/\o.guard=some (j,b)/\ops[j]?=some oj/\oj.dst=some dj/\lk s dj=some (.bool b')/\(b'==b)=w:=by
  unfold gd at h;split at h
  · rename_i d' j b h1 h2;split at h
    · rename_i oj h3 h4;split at h
      · rename_i dj h5;split at h
        · rename_i b' h6;split at h
          · rename_i h7;cases h;exact⟨j,b,oj,dj,b',h1,h3,h2,h4,h5,h6,by simpa using h7⟩
          · cases h
        · cases h
      · cases h
    · cases h
  · cases h
section
variable {e:Entry} {Q:Exit->Act->World->Prop} {s:AB} {h h0:Hp} {ms:List Hp} {ops:Array Oper} {listed:Array Bool} {fuel:Nat} {o:Oper} {rest:List Oper} {v:Value} {d:Nat}
theorem Qx(hx:OX e.P o s h ms v)(hd:dg e.n o=some d)(k:WL e ops Q rest ((d,v)::s) h ms):WL e ops Q (o::rest) s h ms:=
  let ⟨h1,h2,h3⟩:=Kc hd
  AaW hx h1 h2 h3 k
def mvd(n:Nat)(s:AB)(o:Oper):Option (Nat×Value):=match dg n o,mv s o with
  | some d,some v=>some (d,v)
  | _,_=>none
theorem Qm(hm:mvd e.n s o=some (d,v))(k:WL e ops Q rest ((d,v)::s) h ms):WL e ops Q (o::rest) s h ms:=by
  obtain⟨hd,hv⟩:dg e.n o=some d/\mv s o=some v:=by
    unfold mvd at hm;split at hm
    · rename_i h1 h2;cases hm;exact⟨h1,h2⟩
    · cases hm
  exact Qx (VH hv) hd k
theorem Qk(hd:gd ops e.n s o false=some d)(k:WL e ops Q rest ((d,undef)::s) h ms):WL e ops Q (o::rest) s h ms:=
  let ⟨_,_,_,_,_,h1,h2,h3,h4,h5,h6,h7⟩:=So hd
  Ym h1 h2 h3 h4 h5 h6 h7 k
theorem Qg(hx:OX e.P o s h ms v)(hd:gd ops e.n s o true=some d)(k:WL e ops Q rest ((d,v)::s) h ms):WL e ops Q (o::rest) s h ms:=
  let ⟨_,_,_,_,_,h1,h2,h3,h4,h5,h6,h7⟩:=So hd
  Za hx h1 h2 h3 h4 h5 (by rw[h6];congr 2;simpa using h7) k
theorem Qw(k:WB e ops Q h fuel listed s h ms):WL e ops (QB e ops Q h fuel listed) [] s h ms:=Aj (Zl (Hp.le_refl _) k)
theorem Qa(k:WB e ops Q h0 fuel listed s h ms)(hl:h0.le h:=by assumption):WL e ops (QB e ops Q h0 fuel listed) [] s h ms:=Aj (Zl hl k)
theorem Qo(i:Nat)(ho:ops[i]?=some o)(k:WL e ops (QB e ops Q h0 fuel (listed.setIfInBounds i true)) [o] s h ms)(hr:Region.ready .any ops listed=[i]:=by kernel_rfl):WB e ops Q h0 (fuel+1) listed s h ms:=Ba [i] hr rfl (AD ho k Bb)
theorem Qe(k:NX e Q .normal s h ms)(hr:Region.ready .any ops listed=[]:=by kernel_rfl):WB e ops Q h0 fuel listed s h ms:=Aag hr k
theorem An{y:Code}(k:WS e y Q s h ms):WL e ops (Exit.then (fun a w=>y.wp e.P Q a w) Q) [] s h ms:=Aj (Ab k)
theorem As{id:Nat}{l:List Oper}{y:Code}(k:WL e l.toArray (Exit.then (fun a w=>y.wp e.P Q a w) Q) l s h ms):WS e (.seq (.region id l.toArray false) y) Q s h ms:=Ac (Ad k)
theorem Bv{id:Nat}{l:List Oper}{y:Code}(k:WL e l.toArray (Exit.then (fun a w=>y.wp e.P Q a w) Q) l s h ms):WL e ops (Exit.then (fun a w=>(Code.seq (.region id l.toArray false) y).wp e.P Q a w) Q) [] s h ms:=Aj (Ab (Ac (Ad k)))
theorem Gh{id:Nat}{l:List Oper}(k:WL e l.toArray Q l s h ms):WL e ops (Exit.then (fun a w=>(Code.region id l.toArray false).wp e.P Q a w) Q) [] s h ms:=Aj (Ab (Ad k))
theorem CC{t:TypeId}{sz:Nat}{z:Value}{bytes:Nat}(zl:List Value)(ho:o.op=.alloc t)(hs:Elem e.P t sz z bytes)(hz:z.cells=zl.toArray)(hd:dg e.n o=some d)(k:∀g,WL e ops Q rest ((d,.pointer (some ⟨g,0,none⟩))::s) h (A7 g t zl::ms)):WL e ops Q (o::rest) s h ms:=
  let ⟨h1,h2,h3⟩:=Kc hd
  WY zl ho hs hz h1 h2 h3 k
end
def pzo(l:List Oper)(n:Nat)(zs:AB)(i:Nat):Option (Oper×Nat):=match l[i]? with
  | some o=>match dg n o with
    | some d=>match lk zs d with
      | none=>some (o,d)
      | some _=>none
    | none=>none
  | none=>none
theorem Qp{P:Program}{l:List Oper}{n:Nat}{s z:AB}{h0:Hp}{K:AB->Prop}{r:List Nat}{i d:Nat}{o:Oper}{v:Value}(ho:pzo l n (z++s) i=some (o,d))(hx:OX P o (z++s) h0 [] v)(k:FN P l n s h0 K r ((d,v)::z)):FN P l n s h0 K (i::r) z:=by
  unfold pzo at ho;split at ho
  · rename_i o' h1;split at ho
    · rename_i d' h2;split at ho
      · rename_i h3;cases ho;obtain⟨h4,h5,_⟩:=Kc h2;exact AaM h1 h4 h5 h3 hx k
      · cases ho
    · cases ho
  · cases ho
def pzm(l:List Oper)(n:Nat)(zs:AB)(i:Nat):Option (Nat×Value):=match pzo l n zs i with
  | some (o,d)=>match mv zs o with
    | some v=>some (d,v)
    | none=>none
  | none=>none
def ldv(s:AB)(o:Oper):Option (TypeId×Addr):=match o.op with
  | .load t x=>match ev s x with
    | some (.pointer (some p))=>some (t,p)
    | _=>none
  | _=>none
theorem O6{s:AB}{o:Oper}{t:TypeId}{p:Addr}(h:ldv s o=some (t,p)):∃x,o.op=.load t x/\ev s x=some (.pointer (some p)):=by
  unfold ldv at h;split at h
  · rename_i t' x h1;split at h
    · rename_i h2;cases h;exact⟨x,h1,h2⟩
    · cases h
  · cases h
def fav(s:AB)(o:Oper):Option (TypeId×Nat×Addr):=match o.op with
  | .fieldAddr t x i=>match ev s x with
    | some (.pointer (some p))=>some (t,i,p)
    | _=>none
  | _=>none
theorem VS{s:AB}{o:Oper}{t:TypeId}{i:Nat}{p:Addr}(h:fav s o=some (t,i,p)):∃x,o.op=.fieldAddr t x i/\ev s x=some (.pointer (some p)):=by
  unfold fav at h;split at h
  · rename_i t' x i' h1;split at h
    · rename_i h2;cases h;exact⟨x,h1,h2⟩
    · cases h
  · cases h
def wd(o:Oper):Option Nat:=match o.dst,o.guard with
  | some d,none=>some d
  | _,_=>none
theorem MN{o:Oper}{d:Nat}(h:wd o=some d):o.dst=some d/\o.guard=none:=by
  unfold wd at h;split at h
  · rename_i h1 h2;cases h;exact⟨h1,h2⟩
  · cases h
section
variable {P:Program} {l:List Oper} {n:Nat} {s z:AB} {h h0:Hp} {ms:List Hp} {K:AB->Prop} {r:List Nat} {i d:Nat} {o:Oper} {v:Value} {t:TypeId} {p:Addr} {D:TypeDesc}
theorem Qq(hm:pzm l n (z++s) i=some (d,v))(k:FN P l n s h0 K r ((d,v)::z)):FN P l n s h0 K (i::r) z:=by
  unfold pzm at hm;split at hm
  · rename_i h1;split at hm
    · rename_i h2;cases hm;exact Qp h1 (VH h2) k
    · cases hm
  · cases hm
def ad2{α:Type}(a:Option (Oper×Nat))(f:Oper->Option α):Option (α×Nat):=match a with
  | some (o,d)=>match f o with
    | some x=>some (x,d)
    | none=>none
  | none=>none
theorem Pw{α:Type}{a:Option (Oper×Nat)}{f:Oper->Option α}{x:α}{d:Nat}(h:ad2 a f=some (x,d)):∃o,a=some (o,d)/\f o=some x:=by
  unfold ad2 at h;split at h
  · rename_i o' d';split at h
    · rename_i h2;cases h;exact⟨_,rfl,h2⟩
    · cases h
  · cases h
theorem oL(hm:ldv s o=some (t,p))(ht:P.underlying t=some D)(hc:Cell h ms p v)(ha:Ir D=false:=by rfl):OX P o s h ms v:=
  let ⟨_,h1,h2⟩:=O6 hm
  X2 h1 ht ha h2 hc
theorem oG{z:Value}{sz bytes:Nat}{vs:List Value}(hm:ldv s o=some (t,p))(ht:P.underlying t=some D)(hs:Elem P t sz z bytes)(hc:Seg h ms p vs)(ha:Ir D=true:=by rfl)(hl:vs.length=sz:=by rfl):OX P o s h ms (.agg vs.toArray):=
  let ⟨_,h1,h2⟩:=O6 hm
  Wx h1 ht ha hs hl h2 hc
theorem oF{j off:Nat}(F:EC P t j off)(hm:fav s o=some (t,j,p)):OX P o s h ms (.pointer (some (p.add off))):=
  let ⟨_,h1,h2⟩:=VS hm
  Tf F h1 h2
theorem QL(hm:ad2 (pzo l n (z++s) i) (ldv (z++s))=some ((t,p),d))(ht:P.underlying t=some D)(hc:Cell h0 [] p v)(k:FN P l n s h0 K r ((d,v)::z))(ha:Ir D=false:=by rfl):FN P l n s h0 K (i::r) z:=
  let ⟨_,h1,h2⟩:=Pw hm
  Qp h1 (oL h2 ht hc ha) k
theorem QF{j off:Nat}(F:EC P t j off)(hm:ad2 (pzo l n (z++s) i) (fav (z++s))=some ((t,j,p),d))(k:FN P l n s h0 K r ((d,.pointer (some (p.add off)))::z)):FN P l n s h0 K (i::r) z:=
  let ⟨_,h1,h2⟩:=Pw hm
  Qp h1 (oF F h2) k
end
def bn(s:AB)(o:Oper):Option (BinOp×Int×Int):=match o.op with
  | .binOp b _ x y _=>match ev s x,ev s y with
    | some (.int .i64 a),some (.int .i64 c)=>some (b,a,c)
    | _,_=>none
  | _=>none
theorem Nf{s:AB}{o:Oper}{b:BinOp}{a c:Int}(h:bn s o=some (b,a,c)):∃t x y u,o.op=.binOp b t x y u/\ev s x=some (.int .i64 a)/\ev s y=some (.int .i64 c):=by
  unfold bn at h;split at h
  · rename_i b' t x y u h1;split at h
    · rename_i h2 h3;cases h;exact⟨t,x,y,u,h1,h2,h3⟩
    · cases h
  · cases h
section
variable {P:Program} {s:AB} {h:Hp} {ms:List Hp} {o:Oper} {a b:Int}
theorem oA(hm:bn s o=some (.add,a,b))(hr:-9223372036854775808<=a+b/\a+b<=9223372036854775807:=by omega):OX P o s h ms (.int .i64 (a+b)):=
  let ⟨_,_,_,_,h1,h2,h3⟩:=Nf hm
  Aaz h1 h2 h3 hr
theorem oS(hm:bn s o=some (.sub,a,b))(hr:-9223372036854775808<=a-b/\a-b<=9223372036854775807:=by omega):OX P o s h ms (.int .i64 (a-b)):=
  let ⟨_,_,_,_,h1,h2,h3⟩:=Nf hm
  Aah h1 h2 h3 hr
theorem oM(hm:bn s o=some (.mul,a,b))(hr:-9223372036854775808<=a*b/\a*b<=9223372036854775807:=by omega):OX P o s h ms (.int .i64 (a*b)):=
  let ⟨_,_,_,_,h1,h2,h3⟩:=Nf hm
  Aaq h1 h2 h3 hr
end
def stv(s:AB)(o:Oper):Option (TypeId×Addr×Value):=match o.op,o.dst,o.guard with
  | .store t x y,none,none=>match ev s x,ev s y with
    | some (.pointer (some p)),some v=>some (t,p,v)
    | _,_=>none
  | _,_,_=>none
theorem Wp{s:AB}{o:Oper}{t:TypeId}{p:Addr}{v:Value}(h:stv s o=some (t,p,v)):∃x y,o.op=.store t x y/\ev s x=some (.pointer (some p))/\ev s y=some v/\o.dst=none/\o.guard=none:=by
  unfold stv at h;split at h
  · rename_i t' x y h1 h2 h3;split at h
    · rename_i h4 h5;cases h;exact⟨x,y,h1,h4,h5,h2,h3⟩
    · cases h
  · cases h
def cav(s:AB)(o:Oper):Option (FuncId×List Value):=match o.op with
  | .call c=>match c.callee,NV s c.args.toList with
    | .value (.func f),some vs=>some (f,vs)
    | _,_=>none
  | _=>none
theorem U2{s:AB}{o:Oper}{f:FuncId}{vs:List Value}(h:cav s o=some (f,vs)):∃l ts,o.op=.call { callee:=.value (.func f),args:=List.toArray l,argTypes:=ts }/\NV s l=some vs:=by
  unfold cav at h;split at h
  · rename_i c h1;split at h
    · rename_i f' vs' h2 h3;cases h;obtain⟨ce,az,ts⟩:=c;simp only at h2 h3;subst h2;exact⟨az.toList,ts,by rw[h1,Array.toArray_toList],h3⟩
    · cases h
  · cases h
section
variable {e:Entry} {Q:Exit->Act->World->Prop} {s:AB} {h:Hp} {ms:List Hp} {ops:Array Oper} {o:Oper} {rest l:List Oper} {v:Value} {d:Nat} {t:TypeId} {p:Addr} {D:TypeDesc}
theorem Ql(hm:(ldv s o,dg e.n o)=(some (t,p),some d))(ht:e.P.underlying t=some D)(hc:Cell h ms p v)(k:WL e ops Q rest ((d,v)::s) h ms)(ha:Ir D=false:=by rfl):WL e ops Q (o::rest) s h ms:=
  let ⟨h1,h2⟩:=Prod.mk.inj hm
  Qx (oL h1 ht hc ha) h2 k
theorem Qf{j off:Nat}(F:EC e.P t j off)(hm:(fav s o,dg e.n o)=(some (t,j,p),some d))(k:WL e ops Q rest ((d,.pointer (some (p.add off)))::s) h ms):WL e ops Q (o::rest) s h ms:=
  let ⟨h1,h2⟩:=Prod.mk.inj hm
  Qx (oF F h1) h2 k
theorem Sa{el:TypeId}{z:Value}{sz bytes g:Nat}{l:List Value}(i:Nat)(vl:List Value)(hs:Elem e.P t sz z bytes)(hm:(stv s o,v.cells,ms[i]?,vl.length,l.length)=(some (t,⟨g,0,none⟩,v),vl.toArray,some (A7 g el l),sz,sz))(h1:∀u∈vl,u.oneCell'=true)(K:WL e ops Q rest s h (ms.set i (A7 g el vl))):WL e ops Q (o::rest) s h ms:=by simp only[Prod.mk.injEq]at hm;obtain⟨q1,q2,q3,q4,q5⟩:=hm;obtain⟨x,y,r1,r2,r3,r4,r5⟩:=Wp q1;exact D1 i vl r1 hs r2 r3 q2 h1 q3 q4 q5 r4 r5 K
theorem Qc{f:FuncId}{vs:List Value}{post:Value->Hp->List Hp->Prop}(hc:∀az w,(callFunc f az).run e.P w=.ok (.enter f az) w)(hm:(cav s o,dg e.n o)=(some (f,vs),some d))(k:FnT e.P f vs.toArray h [] post)(K:∀v h' pre',h.le h'->post v h' pre'->WL e ops Q rest ((d,v)::s) h' (pre'++ms)):WL e ops Q (o::rest) s h ms:=by obtain⟨h1,h2⟩:=Prod.mk.inj hm;obtain⟨l,ts,h3,h4⟩:=U2 h1;obtain⟨h5,h6,h7⟩:=Kc h2;exact XP h3 hc h4 k h5 h6 h7 K
variable {tl:List Oper} {q:List (Nat×VP)} {al:List (Nat×Nb)}
theorem Wm(hm:(wd o,mv s o)=(some d,some v))(k:WR e ops Q tl h ms l ((d,v)::s) q al):WR e ops Q tl h ms (o::l) s q al:=
  let ⟨h1,h2⟩:=Prod.mk.inj hm
  let ⟨h3,h4⟩:=MN h1
  AP (VH h2) h3 h4 k
theorem Wf{j off:Nat}(F:EC e.P t j off)(hm:(wd o,fav s o)=(some d,some (t,j,p)))(k:WR e ops Q tl h ms l ((d,.pointer (some (p.add off)))::s) q al):WR e ops Q tl h ms (o::l) s q al:=
  let ⟨h1,h2⟩:=Prod.mk.inj hm
  let ⟨h3,h4⟩:=MN h1
  AP (oF F h2) h3 h4 k
theorem Wl(hm:(wd o,ldv s o)=(some d,some (t,p)))(ht:e.P.underlying t=some D)(hc:Cell h ms p v)(k:WR e ops Q tl h ms l ((d,v)::s) q al)(ha:Ir D=false:=by rfl):WR e ops Q tl h ms (o::l) s q al:=
  let ⟨h1,h2⟩:=Prod.mk.inj hm
  let ⟨h3,h4⟩:=MN h1
  AP (oL h2 ht hc ha) h3 h4 k
end
theorem OwnL.o1{α:Type _}{F:α->List Value}{sz:Nat}{el:TypeId}{m:Hp}{v:Value}{l:List α}(O:OwnL F sz el m v l):v.oneCell'=true:=(O.rd (h:=Hp.emp) (ms:=[m]) (List.Mem.head _)).rd.one
theorem BS{P:Program}{s:AB}{h:Hp}{ms:List Hp}{o:Oper}{v:Value}{sz n:Nat}{cs:List Value}{t el:TypeId}{x y:Operand}{z:Value}{bytes:Nat}{k:IntKind}{i:Int}(j:Nat)(R:Rd h ms v sz n cs)(ho:o.op=.indexAddr t x y)(ht:P.underlying t=some (.slice el))(hs:Elem P el sz z bytes)(hx:ev s x=some v)(hy:ev s y=some (.int k i))(hi:i=(j:Int):=by omega)(hlt:j<n:=by omega):OX P o s h ms (.pointer (some ((AG v).add (j*sz)))):=AC j R ho ht hs hx hy hi hlt
theorem AJ{a b c:Hp}(x:a.le b)(y:b.le c):a.le c:=Hp.le_trans x y
theorem CY{a:Hp}:a.le a:=Hp.le_refl a
theorem Mh{α:Type _}{a:α}{l:List α}:a∈a::l:=List.Mem.head _
end Go.Eng
namespace Go.Proofs.Q
open Go.Proofs.Tryz
open Go.Eng
theorem CP:prog.follows .mixedOrders=true:=by kernel_rfl
theorem Be:Elem prog 3 1 (.int .i64 0) 8:=Elem.of (by kernel_rfl)
theorem el4:Elem prog 4 1 (.bool false) 1:=Elem.of (by kernel_rfl)
theorem el5:Elem prog 5 1 (.int .u8 0) 1:=Elem.of (by kernel_rfl)
theorem Cw:Elem prog 22 1 (.slice none 0 0) 24:=Elem.of (by kernel_rfl)
theorem ZA:Elem prog 23 1 (.slice none 0 0) 24:=Elem.of (by kernel_rfl)
theorem JI:Elem prog 27 1 (.slice none 0 0) 24:=Elem.of (by kernel_rfl)
theorem A6:Elem prog 29 1 (.agg #[.slice none 0 0]) 24:=Elem.of (by kernel_rfl)
theorem BW:Elem prog 43 6 (.agg #[.int .i64 0,.int .i64 0,.int .i64 0,.bool false,.int .i64 0,.int .i64 0]) 48:=Elem.of (by kernel_rfl)
theorem X5:Elem prog 45 1 (.map none) 8:=Elem.of (by kernel_rfl)
theorem Lb:Elem prog 47 2 (.agg #[.int .i64 0,.int .i64 0]) 16:=Elem.of (by kernel_rfl)
theorem YK:Elem prog 49 1 (.map none) 8:=Elem.of (by kernel_rfl)
theorem Pb:Elem prog 50 1 (.slice none 0 0) 24:=Elem.of (by kernel_rfl)
theorem AI:Elem prog 52 3 (.agg #[.int .i64 0,.int .i64 0,.slice none 0 0]) 40:=Elem.of (by kernel_rfl)
theorem EK:Elem prog 65 4 (.agg #[.int .i64 0,.int .i64 0,.int .i64 0,.slice none 0 0]) 48:=Elem.of (by kernel_rfl)
theorem Wu:Elem prog 81 1 (.slice none 0 0) 24:=Elem.of (by kernel_rfl)
theorem AbD:Elem prog 83 3 (.agg #[.int .i64 0,.slice none 0 0,.int .i64 0]) 40:=Elem.of (by kernel_rfl)
theorem Abo:Elem prog 97 1 (.pointer none) 8:=Elem.of (by kernel_rfl)
theorem Zi:Elem prog 102 1 (.nilFunc) 8:=Elem.of (by kernel_rfl)
theorem Eb:Elem prog 106 3 (.agg #[.int .i64 0,.int .i64 0,.slice none 0 0]) 40:=Elem.of (by kernel_rfl)
theorem Abw:Elem prog 115 2 (.agg #[.map none,.slice none 0 0]) 32:=Elem.of (by kernel_rfl)
theorem AH:Elem prog 119 2 (.agg #[.int .i64 0,.int .i64 0]) 16:=Elem.of (by kernel_rfl)
theorem Abp:Elem prog 130 405 (.agg (([.int .i64 0,.slice none 0 0,.map none,.slice none 0 0,.slice none 0 0]:List Value)++replicate 400 (Value.int .i64 0)).toArray) 3288:=Elem.of (by kernel_rfl)
theorem VL:Elem prog 157 3 (.agg #[.slice none 0 0,.slice none 0 0,.slice none 0 0]) 72:=Elem.of (by kernel_rfl)
theorem Zb:Elem prog 160 1 (.slice none 0 0) 24:=Elem.of (by kernel_rfl)
theorem Sz:Elem prog 165 1 (.nilFunc) 8:=Elem.of (by kernel_rfl)
theorem Cv:Elem prog 172 2 (.agg #[.bool false,.string ByteArray.empty]) 24:=Elem.of (by kernel_rfl)
theorem Y8:Elem prog 188 1 (.map none) 8:=Elem.of (by kernel_rfl)
theorem Zf:Elem prog 196 1 (.nilFunc) 8:=Elem.of (by kernel_rfl)
theorem Cm:Elem prog 222 1 (.int .u64 0) 8:=Elem.of (by kernel_rfl)
theorem AaO:Elem prog 255 1002 (.agg (([.int .i64 0,.int .i64 0,.int .i64 0,.slice none 0 0]:List Value)++replicate 998 (Value.int .i64 0)).toArray) 8032:=Elem.of (by kernel_rfl)
theorem Y7:Elem prog 260 3 (.agg #[.slice none 0 0,.int .i64 0,.int .i64 0]) 40:=Elem.of (by kernel_rfl)
theorem Q5:F2 prog 29 #[(0,1)]:=⟨_,underlying29,fun w=>by kernel_rfl⟩
theorem Aaw:F2 prog 43 #[(0,1),(1,1),(2,1),(3,1),(4,1),(5,1)]:=⟨_,underlying43,fun w=>by kernel_rfl⟩
theorem AbM:F2 prog 47 #[(0,1),(1,1)]:=⟨_,underlying47,fun w=>by kernel_rfl⟩
theorem LW:F2 prog 52 #[(0,1),(1,1),(2,1)]:=⟨_,underlying52,fun w=>by kernel_rfl⟩
theorem Abh:F2 prog 65 #[(0,1),(1,1),(2,1),(3,1)]:=⟨_,underlying65,fun w=>by kernel_rfl⟩
theorem AaZ:F2 prog 106 #[(0,1),(1,1),(2,1)]:=⟨_,underlying106,fun w=>by kernel_rfl⟩
theorem Abc:F2 prog 115 #[(0,1),(1,1)]:=⟨_,underlying115,fun w=>by kernel_rfl⟩
theorem KW:F2 prog 119 #[(0,1),(1,1)]:=⟨_,underlying119,fun w=>by kernel_rfl⟩
theorem Aa3:F2 prog 130 #[(0,1),(1,1),(2,1),(3,1),(4,1),(5,400)]:=⟨_,underlying130,fun w=>by kernel_rfl⟩
theorem Ze:F2 prog 172 #[(0,1),(1,1)]:=⟨_,underlying172,fun w=>by kernel_rfl⟩
theorem Abm:F2 prog 255 #[(0,4),(4,998)]:=⟨_,underlying255,fun w=>by kernel_rfl⟩
theorem Y9:F2 prog 260 #[(0,1),(1,1),(2,1)]:=⟨_,underlying260,fun w=>by kernel_rfl⟩
theorem B6:EC prog 29 0 0:=⟨_,_,_,underlying29,rfl,rfl,sizeOf27⟩
theorem QN:EC prog 43 0 0:=⟨_,_,_,underlying43,rfl,rfl,sizeOf3⟩
theorem Ib:EC prog 43 1 1:=⟨_,_,_,underlying43,rfl,rfl,sizeOf3⟩
theorem Il:EC prog 43 2 2:=⟨_,_,_,underlying43,rfl,rfl,sizeOf3⟩
theorem Ij:EC prog 43 3 3:=⟨_,_,_,underlying43,rfl,rfl,sizeOf4⟩
theorem UM:EC prog 43 5 5:=⟨_,_,_,underlying43,rfl,rfl,sizeOf3⟩
theorem JB:EC prog 47 0 0:=⟨_,_,_,underlying47,rfl,rfl,sizeOf3⟩
theorem Aat:EC prog 47 1 1:=⟨_,_,_,underlying47,rfl,rfl,sizeOf3⟩
theorem Bz:EC prog 52 0 0:=⟨_,_,_,underlying52,rfl,rfl,sizeOf3⟩
theorem BM:EC prog 52 1 1:=⟨_,_,_,underlying52,rfl,rfl,sizeOf3⟩
theorem Bu:EC prog 52 2 2:=⟨_,_,_,underlying52,rfl,rfl,sizeOf50⟩
theorem FU:EC prog 65 0 0:=⟨_,_,_,underlying65,rfl,rfl,sizeOf3⟩
theorem No:EC prog 65 1 1:=⟨_,_,_,underlying65,rfl,rfl,sizeOf3⟩
theorem KL:EC prog 65 2 2:=⟨_,_,_,underlying65,rfl,rfl,sizeOf3⟩
theorem Ia:EC prog 65 3 3:=⟨_,_,_,underlying65,rfl,rfl,sizeOf22⟩
theorem Aab:EC prog 83 0 0:=⟨_,_,_,underlying83,rfl,rfl,sizeOf3⟩
theorem Un:EC prog 83 1 1:=⟨_,_,_,underlying83,rfl,rfl,sizeOf81⟩
theorem Ii:EC prog 83 2 2:=⟨_,_,_,underlying83,rfl,rfl,sizeOf3⟩
theorem YY:EC prog 106 0 0:=⟨_,_,_,underlying106,rfl,rfl,sizeOf3⟩
theorem YF:EC prog 106 1 1:=⟨_,_,_,underlying106,rfl,rfl,sizeOf3⟩
theorem Ke:EC prog 106 2 2:=⟨_,_,_,underlying106,rfl,rfl,sizeOf104⟩
theorem Ey:EC prog 115 0 0:=⟨_,_,_,underlying115,rfl,rfl,sizeOf113⟩
theorem Nc:EC prog 115 1 1:=⟨_,_,_,underlying115,rfl,rfl,sizeOf22⟩
theorem B4:EC prog 119 0 0:=⟨_,_,_,underlying119,rfl,rfl,sizeOf3⟩
theorem Cp:EC prog 119 1 1:=⟨_,_,_,underlying119,rfl,rfl,sizeOf3⟩
theorem IQ:EC prog 130 0 0:=⟨_,_,_,underlying130,rfl,rfl,sizeOf3⟩
theorem FF:EC prog 130 1 1:=⟨_,_,_,underlying130,rfl,rfl,sizeOf27⟩
theorem Kl:EC prog 130 2 2:=⟨_,_,_,underlying130,rfl,rfl,sizeOf45⟩
theorem FJ:EC prog 130 3 3:=⟨_,_,_,underlying130,rfl,rfl,sizeOf81⟩
theorem Kn:EC prog 130 4 4:=⟨_,_,_,underlying130,rfl,rfl,sizeOf81⟩
theorem RT:EC prog 130 5 5:=⟨_,_,_,underlying130,rfl,rfl,sizeOf128⟩
theorem Kp:EC prog 172 0 0:=⟨_,_,_,underlying172,rfl,rfl,sizeOf4⟩
theorem HJ:EC prog 172 1 1:=⟨_,_,_,underlying172,rfl,rfl,sizeOf9⟩
theorem FI:EC prog 255 0 0:=⟨_,_,_,underlying255,rfl,rfl,sizeOf65⟩
theorem NJ:EC prog 255 1 4:=⟨_,_,_,underlying255,rfl,rfl,sizeOf253⟩
theorem XC:EC prog 260 0 0:=⟨_,_,_,underlying260,rfl,rfl,sizeOf22⟩
theorem RY:EC prog 260 1 1:=⟨_,_,_,underlying260,rfl,rfl,sizeOf3⟩
theorem RX:EC prog 260 2 2:=⟨_,_,_,underlying260,rfl,rfl,sizeOf3⟩
theorem U3:type_of% @Tryz.underlying3:=@Tryz.underlying3
theorem U4:type_of% @Tryz.underlying4:=@Tryz.underlying4
theorem U5:type_of% @Tryz.underlying5:=@Tryz.underlying5
theorem U9:type_of% @Tryz.underlying9:=@Tryz.underlying9
theorem AY:type_of% @Tryz.underlying22:=@Tryz.underlying22
theorem U23:type_of% @Tryz.underlying23:=@Tryz.underlying23
theorem Bs:type_of% @Tryz.underlying27:=@Tryz.underlying27
theorem Dt:type_of% @Tryz.underlying29:=@Tryz.underlying29
theorem U31:type_of% @Tryz.underlying31:=@Tryz.underlying31
theorem E0:type_of% @Tryz.underlying33:=@Tryz.underlying33
theorem Mo:type_of% @Tryz.underlying43:=@Tryz.underlying43
theorem LV:type_of% @Tryz.underlying45:=@Tryz.underlying45
theorem U47:type_of% @Tryz.underlying47:=@Tryz.underlying47
theorem PK:type_of% @Tryz.underlying49:=@Tryz.underlying49
theorem BL:type_of% @Tryz.underlying50:=@Tryz.underlying50
theorem Fb:type_of% @Tryz.underlying52:=@Tryz.underlying52
theorem UZ:type_of% @Tryz.underlying65:=@Tryz.underlying65
theorem Ck:type_of% @Tryz.underlying81:=@Tryz.underlying81
theorem U83:type_of% @Tryz.underlying83:=@Tryz.underlying83
theorem U84:type_of% @Tryz.underlying84:=@Tryz.underlying84
theorem Ug:type_of% @Tryz.underlying97:=@Tryz.underlying97
theorem Abl:type_of% @Tryz.underlying102:=@Tryz.underlying102
theorem L6:type_of% @Tryz.underlying104:=@Tryz.underlying104
theorem OG:type_of% @Tryz.underlying106:=@Tryz.underlying106
theorem Gb:type_of% @Tryz.underlying113:=@Tryz.underlying113
theorem AbI:type_of% @Tryz.underlying116:=@Tryz.underlying116
theorem DJ:type_of% @Tryz.underlying119:=@Tryz.underlying119
theorem AaG:type_of% @Tryz.underlying128:=@Tryz.underlying128
theorem Z6:type_of% @Tryz.underlying157:=@Tryz.underlying157
theorem W2:type_of% @Tryz.underlying160:=@Tryz.underlying160
theorem XZ:type_of% @Tryz.underlying165:=@Tryz.underlying165
theorem LU:type_of% @Tryz.underlying172:=@Tryz.underlying172
theorem Abt:type_of% @Tryz.underlying182:=@Tryz.underlying182
theorem Abx:type_of% @Tryz.underlying184:=@Tryz.underlying184
theorem GA:type_of% @Tryz.underlying188:=@Tryz.underlying188
theorem AbB:type_of% @Tryz.underlying196:=@Tryz.underlying196
theorem FS:type_of% @Tryz.underlying222:=@Tryz.underlying222
theorem GJ:type_of% @Tryz.underlying223:=@Tryz.underlying223
theorem BY:type_of% @Tryz.underlying225:=@Tryz.underlying225
theorem Aad:type_of% @Tryz.underlying253:=@Tryz.underlying253
end Go.Proofs.Q

namespace Go.Proofs.Q
open Go.Eng Go.RowKit
def BD(n:Int):Prop:=-9223372036854775808<=n/\n<=9223372036854775807
instance (n:Int):Decidable (BD n):=by unfold BD;infer_instance
theorem F6{P:Program}{f:FuncId}{args:Array Value}{h:Hp}{v:Value}(k:FnT P f args h [] (fun r _ _=>r=v))(ms:List Hp):FnV P f args h ms v:=by refine fun w hw=>(?_:FnV _ _ _ h [] _) w (hw.weaken (CY) (List.nil_sublist _));exact FnT.toV k
theorem Cx{a b:Nat}(h:(a:Int)<b):a<b:=by omega
open Go.Proofs.Tryz
def cD(s:Int×Int):List Value:=[.int .i64 s.1,.int .i64 s.2]
theorem CK:∀s,(cD s).length=2:=fun _=>rfl
theorem DT:∀a,∀c∈cD a,c.oneCell'=true:=fun a c hc=>by simp only[cD,mem_cons,not_mem_nil,or_false]at hc;rcases hc with rfl|rfl<;>rfl
structure Cl where
 id:Int
 dim:Int
 sd:List (Int×Int)
 deriving DecidableEq,Inhabited
structure Ce where
 c:Cl
 v:Value
instance:Inhabited Ce:=⟨⟨default,.slice none 0 0⟩⟩
def cC(a:Ce):List Value:=[.int .i64 a.c.id,.int .i64 a.c.dim,a.v]
theorem B3:∀a,(cC a).length=3:=fun _=>rfl
structure RdC(h:Hp)(v:Value)(l:List Ce):Prop where
 q:RdL cC 3 h [] v l
 s:∀a∈l,RdL cD 2 h [] a.v a.c.sd
theorem RdC.up{h h':Hp}{v:Value}{l:List Ce}(R:RdC h v l)(hl:h.le h'):RdC h' v l:=⟨R.q.up hl,fun a ha=>(R.s a ha).up hl⟩
theorem Df{h:Hp}{l:List Ce}(H:∀a∈l,RdL cD 2 h [] a.v a.c.sd):∀a∈l,∀c∈cC a,c.oneCell'=true:=fun a ha c hc=>by
 simp only[cC,mem_cons,not_mem_nil,or_false]at hc;rcases hc with rfl|rfl|rfl
 ·rfl
 ·rfl
 ·exact(H a ha).rd.one
def If(x:Int×Int)(l:List (Int×Int)):List (Int×Int):=l.takeWhile (fun y=>decide (y.1<=x.1))++x::l.dropWhile (fun y=>decide (y.1<=x.1))
def CF(l:List (Int×Int)):List (Int×Int):=l.foldl (fun acc x=>If x acc) []
theorem Eo{α:Type}(p:α->Bool):∀(l:List α) (k:Nat),k<=l.length->(∀j (hj:j<l.length),j<k->p l[j]=true)->(∀hk:k<l.length,p l[k]=false)->l.takeWhile p=l.take k/\l.dropWhile p=l.drop k
 | [],k,hk,_,_=>by simp
 | a::l,0,_,_,h=>by have:=h (by simp);simp only[List.getElem_cons_zero]at this;simp[List.takeWhile,List.dropWhile,this]
 | a::l,k+1,hk,h1,h2=>by
  have h3:p a=true:=h1 0 (by simp) (by omega)
  have ih:=Eo p l k (by simpa using hk) (fun j hj hjk=>by
   have:=h1 (j+1) (by simpa using hj) (by omega)
   simpa using this) (fun hk=>by
   have:=h2 (by simpa using hk)
   simpa using this)
  simp[List.takeWhile,List.dropWhile,h3,ih.1,ih.2]
theorem Rw{x:Int×Int}{l:List (Int×Int)}{k:Nat}(hk:k<=l.length)(h1:∀j (hj:j<l.length),j<k->l[j].1<=x.1)(h2:∀hk:k<l.length,¬l[k].1<=x.1):If x l=l.take k++x::l.drop k:=by obtain⟨e1,e2⟩:=Eo (fun y=>decide (y.1<=x.1)) l k hk (fun j hj hjk=>decide_eq_true (h1 j hj hjk)) (fun hk=>decide_eq_false (h2 hk));unfold If;rw[e1,e2]
theorem WU(x:Int×Int)(l:List (Int×Int)):(If x l).length=l.length+1:=by unfold If;have:=congrArg List.length (List.takeWhile_append_dropWhile (p:=fun y:Int×Int=>decide (y.1<=x.1)) (l:=l));rw[length_append]at this;rw[length_append,length_cons];omega
theorem Ox(l:List (Int×Int))(x:Int×Int):CF (l++[x])=If x (CF l):=by unfold CF;rw[List.foldl_append];rfl
theorem GQ(l:List (Int×Int)):(CF l).length=l.length:=by
 have go:∀(l acc:List (Int×Int)),(l.foldl (fun acc x=>If x acc) acc).length=acc.length+l.length:=fun l=>by
  induction l with
  | nil=>intro acc;rfl
  | cons x l ih=>intro acc;rw[List.foldl_cons,ih,WU,length_cons];omega
 have:=go l [];rw[length_nil,Nat.zero_add]at this;exact this
theorem E2(a b:Int)(ha:BD a)(hb:1<=b/\b<=1000000)(h:Hp)(ms:List Hp):FnV Tryz.prog 34 #[.int .i64 a,.int .i64 b] h ms (.int .i64 (a%b)):=by
 refine F6 ?_ ms;have ha1:=ha.1;have ha2:=ha.2;have h1:a.tmod b<b:=by have:=Int.tmod_lt_of_pos a (show 0<b by omega);omega
 have h2:-b<a.tmod b:=by have:=Int.lt_tmod_of_pos a (show 0<b by omega);omega
 have h3:(a.tmod b+b)%b=a%b:=by rw[Int.add_emod_right,Int.tmod_def,Int.sub_mul_emod_self_left]
 refine Ao func34 ntmps34 rfl rfl (fun w0 hw0=>?_);simp only[AU];refine As (Qm rfl (Bv (Qm rfl (Qm rfl (Qx (Re rfl rfl rfl (by omega)) rfl (Qm rfl (Qx (oA rfl) rfl (Qm rfl (Qx (BV rfl rfl rfl (by omega) (by omega)) rfl (Qm rfl (An (Am ?_))))))))))));exact Ap rfl rfl (by rw[h3])
theorem ER{α:Type}{F:α->List Value}{sz:Nat}{el:TypeId}(g:Nat)(hF:∀x,(F x).length=sz):OwnL F sz el (A7 g el []) (.slice (some ⟨g,0,none⟩) 0 0) ([]:List α):=OwnL.blk (l:=[]) 0 hF rfl (by decide)
theorem OF(l:List (Int×Int))(v:Value)(h:Hp)(hl:l.length<=100000)(hR:RdL cD 2 h [] v l):FnT Tryz.prog 170 #[v] h [] (fun r h' ms'=>h=h'/\∃m,ms'=[m]/\OwnL cD 2 119 m r (CF l)):=by
 have o1:=hR.rd.one;refine Ao func170 ntmps170 rfl rfl (fun w0 hw0=>?_);simp only[AU];refine As (Qm rfl (Bv (Qm rfl (An (Ac (As (Qm rfl (An (Ae (BB ?_))))))))))
 refine Az (fun q s h' ms'=>∃(i:Nat) (vo:Value) (mo:Hp),q=l.length-i/\s=[(0,v),(3,vo),(4,.int .i64 i)]/\h=h'/\ms'=[mo]/\i<=l.length/\OwnL cD 2 119 mo vo (CF (l.take i)))
  (l.length-0) _ ⟨0,_,_,rfl,rfl,rfl,rfl,by omega,OwnL.nil CK⟩ Qs ?_
 rintro q s h' ms' ⟨i,vo,mo,rfl,rfl,rfl,rfl,hi,hO⟩;have hsl:=GQ (l.take i);rw[length_take]at hsl;refine Ac (As (Qm rfl (Qm rfl (Qx (Ar hR.rd.any rfl BL rfl) rfl (Qm rfl (An ?_))))));refine Au rfl (fun hlt=>?_) (fun hlt=>?_)
 ·have hil:i<l.length:=Cx hlt;have ovo:=hO.o1;have hseg:∀ms,Seg h ms ((AG v).add (i*2)) (cD l[i]):=fun ms=>(hR.any (ms:=ms)).seg hil;obtain⟨out,hout⟩:∃out,CF (l.take i)=out:=⟨_,rfl⟩
  rw[hout]at hO hsl;refine Ah (Ab (Ac (Ae (As (Qm rfl (An ?_))))));have hcl:=hO.rd (h:=h) (ms:=[mo]) Mh;have hout2:=hcl.len_le;have htk:CF (l.take (i+1))=If l[i] out:=by rw[List.take_succ_eq_append_getElem hil,Ox,hout]
  refine A3 (fun s h' ms'=>∃(k:Nat),s=[(0,v),(3,vo),(4,.int .i64 i),(5,.int .i64 k)]/\h=h'/\ms'=[mo]/\k<=out.length/\If l[i] out=out.take k++l[i]::out.drop k) ?_ (fun s h ms hI=>?_)
  ·refine Ae ?_
   refine Az (fun q s h' ms'=>∃(k:Nat),q=out.length-k/\s=[(0,v),(3,vo),(4,.int .i64 i),(5,.int .i64 k)]/\h=h'/\ms'=[mo]/\k<=out.length/\∀j (hj:j<out.length),j<k->out[j].1<=l[i].1)
    (out.length-0) _ ⟨0,rfl,rfl,rfl,rfl,by omega,fun j hj h=>by omega⟩ Qs ?_
   rintro q s h' ms' ⟨k,rfl,rfl,rfl,rfl,hk,hlo⟩;refine Ac (Ac (Bc 15 CP (by kernel_rfl) rfl (Wm rfl (Wm rfl (AP (Ar hcl.rd rfl BL rfl) rfl rfl (Wm rfl (Wm rfl ?_)))))));refine Ct (t:=17) rfl (fun hs1=>?_) (fun hs1=>?_)
   ·have hkl:k<out.length:=Cx hs1;have hck:Cell h [mo] ((AG vo).add (k*2)) (.int .i64 out[k].1):=hcl.cell0 hkl rfl;have hci:Cell h [mo] ((AG v).add (i*2)) (.int .i64 l[i].1):=hR.any.cell0 hil rfl;refine AL (Ay rfl rfl) rfl rfl rfl rfl (AL (Ay rfl rfl) rfl rfl rfl rfl (AL (BS (k) hcl.rd rfl BL AH rfl rfl) rfl rfl rfl rfl (AL (oF B4 rfl) rfl rfl rfl rfl (AL (oL rfl U3 (hck)) rfl rfl rfl rfl (AL (Ay rfl rfl) rfl rfl rfl rfl (AL (Ay rfl rfl) rfl rfl rfl rfl (AL (BS (i) hR.rd.any rfl BL AH rfl rfl) rfl rfl rfl rfl (AL (oF B4 rfl) rfl rfl rfl rfl (AL (oL rfl U3 (hci)) rfl rfl rfl rfl (AZ (Qg (LA rfl rfl rfl) rfl (Qm rfl (An ?_)))))))))))));refine Au rfl (fun hs2=>?_) (fun hs2=>?_)
    ·refine Ah (Ab (Ae (Ad (Qm rfl (Qx (oA rfl) rfl (Qm rfl (Aj (Ai ?_))))))))
     exact Ak (out.length-(k+1)) _ (by omega) ⟨k+1,rfl,rfl,rfl,rfl,by omega,fun j hj h=>by
      rcases (by omega:j<k\/j=k) with h1|rfl
      ·exact hlo j hj h1
      ·exact hs2⟩ Qs
    ·refine Av (Aa (Aa (Af ?_)));exact AA _ ⟨k,rfl,rfl,rfl,hk,Rw hk hlo fun _=>hs2⟩ Qs
   ·have hkl:k=out.length:=by omega
    refine Ax rfl rfl rfl rfl rfl (Ax rfl rfl rfl rfl rfl (Ax rfl rfl rfl rfl rfl (Ax rfl rfl rfl rfl rfl (Ax rfl rfl rfl rfl rfl (Ax rfl rfl rfl rfl rfl (Ax rfl rfl rfl rfl rfl (Ax rfl rfl rfl rfl rfl (Ax rfl rfl rfl rfl rfl (Ax rfl rfl rfl rfl rfl (AZ (Qk rfl (Qm rfl (An (AQ rfl (Av (Aa (Aa (Af ?_))))))))))))))))));exact AA _ ⟨k,rfl,rfl,rfl,hk,Rw hk hlo fun h=>absurd h (by omega)⟩ Qs
  ·obtain⟨k,rfl,rfl,rfl,hk,hins⟩:=hI;refine Ac (Bc 8 CP (by kernel_rfl) rfl (Wm rfl (Wm rfl (AP (BS (i) hR.rd.any rfl BL AH rfl rfl) rfl rfl (AP (oG rfl DJ AH (hseg _)) rfl rfl (WE (EW [_,_] rfl BL AH rfl (by rfl) rfl rfl (by omega)) rfl rfl (Wm rfl (Wm rfl (AP (Dy (k) hcl.rd rfl BL AH rfl rfl (by omega) (by omega)) rfl rfl (I3 (fun g36=>AM 0 (OwnL.blk (g:=g36) (el:=119) (F:=cD) (l:=[l[i]]) 1 CK rfl (by decide)) ((hO.rd (h:=h) (List.Mem.tail _ Mh)).sub_ hk (Nat.le_refl _)) rfl BL AH rfl (by omega) rfl rfl rfl DT (by(try simp only[length_singleton,length_nil,length_append,length_take,length_drop,nil_append]);omega) (by(try simp only[length_singleton,length_nil,length_append,length_take,length_drop,nil_append]);omega) rfl rfl rfl (fun v6 m6 hO6=>?_))))))))))));have ov6:=hO6.o1;refine Qm rfl (Gh ?_);refine AE [] [] [] rfl BL AH rfl (by omega) (by kernel_rfl) (by repeat (first|exact trivial|refine⟨⟨by first|rfl|exact(hcl.rd).cells|exact Rd.cells ‹_›|exact(RdL.rd ‹_›).cells,rfl,rfl⟩,?_⟩)) rfl rfl rfl rfl (fun g41=>?_);refine Qm rfl (Qm rfl (Qx (EG (k) hcl.rd rfl BL AH rfl rfl (by omega) (by omega)) rfl (AM 0 (ER g41 CK) ((hO.rd (h:=h) (List.Mem.tail _ (List.Mem.tail _ Mh))).sub_ (Nat.zero_le _) hk) rfl BL AH rfl (by omega) rfl rfl rfl DT (by(try simp only[length_singleton,length_nil,length_append,length_take,length_drop,nil_append]);omega) (by(try simp only[length_singleton,length_nil,length_append,length_take,length_drop,nil_append]);omega) rfl rfl rfl (fun v7 m7 hO7=>Qm rfl (AM 0 hO7 (hO6.rd (h:=h) (List.Mem.tail _ Mh)) rfl BL AH rfl (by omega) rfl rfl rfl DT (by(try simp only[length_singleton,length_nil,length_append,length_take,length_drop,nil_append]);omega) (by(try simp only[length_singleton,length_nil,length_append,length_take,length_drop,nil_append]);omega) rfl rfl rfl (fun v8 m8 hO8=>?_))))))
   have he:[]++(out.drop 0).take (k-0)++([l[i]]++(out.drop k).take (out.length-k))=CF (l.take (i+1)):=by rw[htk,hins,drop_zero,Nat.sub_zero,List.take_of_length_le (l:=out.drop k) (by rw[length_drop];omega)];rfl
   rw[he]at hO8;refine Qm rfl (Aj (Ai (Ab (Ad (Qm rfl (Qx (oA rfl) rfl (Qm rfl (Aj ?_))))))));refine Hs (perm_append_comm (l₁:=[m8]) (l₂:=[m6,mo])) (AN (AN ?_));exact Ak (l.length-(i+1)) _ (by omega) ⟨i+1,v8,m8,rfl,rfl,rfl,rfl,by omega,hO8⟩ Qs
 ·have hil:i=l.length:=by omega
  rw[hil,List.take_length]at hO;refine Av (Aa (Aa (Af (Ab (As (Qm rfl (Qm rfl (An (Am ?_)))))))));exact Ap rfl rfl (⟨rfl,mo,rfl,hO⟩)
open Go.Lin Go.Sort Go.Srt
theorem Ha(i j:Nat)(h:i+j<4611686018427387904):IntKind.i64.wrap (((i+j)%((2:Int)^IntKind.u64.bits).natAbs/2^1:Nat):Int)=(((i+j)/2:Nat):Int):=by
 have e1:(2^IntKind.u64.bits:Int).natAbs=18446744073709551616:=by decide
 rw[e1,Nat.mod_eq_of_lt (by omega)];show IntKind.i64.wrap (((i+j)/2:Nat):Int)=_;unfold IntKind.wrap;simp[IntKind.bits,IntKind.signed];omega
theorem ET{k x a:Nat}(hx:k∣x)(ha:k∣a)(h:x<a):x+k<=a:=by
 obtain⟨p,rfl⟩:=hx;obtain⟨q,rfl⟩:=ha;have:p<q:=Nat.lt_of_mul_lt_mul_left h
 calc k*p+k=k*(p+1):=by rw[Nat.mul_add,Nat.mul_one]
  _<=k*q:=Nat.mul_le_mul_left k this
def c3(x y:Int):Int:=if x<y then -1 else if y<x then 1 else 0
theorem JO(x y:Int):c3 x y<0<->x<y:=by
 unfold c3
 repeat' split
 all_goals omega
theorem Sh(x:Int)(h:Hp)(ms:List Hp):FnV Tryz.prog 202 #[.int .i64 x] h ms (.bool false):=by refine F6 ?_ ms;refine Ao func202 ntmps202 rfl rfl (fun w0 hw0=>?_);simp only[AU];refine As (Qm rfl (Bv (Qm rfl (Qm rfl (Qm rfl (Qm rfl (An (Am ?_))))))));exact Ap rfl rfl (by simp)
theorem F7(x y:Int)(h:Hp)(ms:List Hp):FnV Tryz.prog 150 #[.int .i64 x,.int .i64 y] h ms (.int .i64 (c3 x y)):=by
 refine F6 ?_ ms;refine Ao func150 ntmps150 rfl rfl (fun w0 hw0=>?_);simp only[AU];refine As (Qm rfl (Bv (Qm rfl (Qx (AF rfl call202 rfl (Sh _ _ _)) rfl (Qm rfl (Bv (Qm rfl (Qx (AF rfl call202 rfl (Sh _ _ _)) rfl (Qm rfl (An (Ac (As (Qm rfl (An (AQ rfl (Ah (Ab (Ac (As (Qm rfl (An (AQ rfl (Ah (Ab (Ac (As (Qm rfl (Qm rfl (Qm rfl (An ?_))))))))))))))))))))))))))))));refine Au rfl (fun h1=>?_) (fun h1=>?_)
 ·refine Ac (Ad (Qm rfl (An (Am (Ag ?_)))));exact Ap rfl rfl (by unfold c3;rw[if_pos h1])
 ·refine Ah (Ab (Ac (As (Qm rfl (Qm rfl (Qm rfl (An ?_)))))));refine Au rfl (fun h2=>?_) (fun h2=>?_)
  ·refine Ac (Ad (Qm rfl (An (Am (Ag ?_)))));exact Ap rfl rfl (by unfold c3;rw[if_neg h1,if_pos h2])
  ·refine Ah (Ab (As (Qm rfl (An (Am ?_)))));exact Ap rfl rfl (by unfold c3;rw[if_neg h1,if_neg h2])
structure CeO where
 c:Cl
 v:Value
 one:v.oneCell'=true
instance:Inhabited CeO:=⟨⟨default,.slice none 0 0,rfl⟩⟩
def HT(a:CeO):List Value:=[.int .i64 a.c.id,.int .i64 a.c.dim,a.v]
theorem Kf:∀a,(HT a).length=3:=fun _=>rfl
theorem Np(s:CeO):∀c∈HT s,c.oneCell'=true:=fun c hc=>by
 simp only[HT,mem_cons,not_mem_nil,or_false]at hc;rcases hc with rfl|rfl|rfl
 ·rfl
 ·rfl
 ·exact s.one
abbrev Iy:=Int×Int
def CE(x y:CeO):Bool:=decide (c3 x.c.id y.c.id<0)
def CG(x y:Iy):Bool:=decide (c3 x.1 y.1<0)
theorem Jd:SWO CE:=by
 refine⟨fun x=>?_,fun x y z h1 h2=>?_,fun x y z h1 h2=>?_⟩
 ·unfold CE;rw[decide_eq_false_iff_not,JO];omega
 ·unfold CE at *;rw[decide_eq_true_iff,JO]at *;omega
 ·unfold CE at *;rw[decide_eq_false_iff_not,JO]at *;omega
theorem IR:SWO CG:=by
 refine⟨fun x=>?_,fun x y z h1 h2=>?_,fun x y z h1 h2=>?_⟩
 ·unfold CG;rw[decide_eq_false_iff_not,JO];omega
 ·unfold CG at *;rw[decide_eq_true_iff,JO]at *;omega
 ·unfold CG at *;rw[decide_eq_false_iff_not,JO]at *;omega
def PN(g:Nat):Value:=.func (.func 196) #[] #[.pointer (some ⟨g,0,none⟩)]
def PL(g:Nat):Value:=.func (.func 199) #[] #[.pointer (some ⟨g,0,none⟩)]
def fkC:Value:=.func (.func 135) #[] #[]
def fkD:Value:=.func (.func 137) #[] #[]
def Ud(h:Hp)(g:Nat):Prop:=∀ms,Cell h ms (⟨g,0,none⟩:Addr) fkC
def TC(h:Hp)(g:Nat):Prop:=∀ms,Cell h ms (⟨g,0,none⟩:Addr) fkD
theorem Y5(x:CeO)(h:Hp)(ms:List Hp):FnV Tryz.prog 135 #[.agg (HT x).toArray] h ms (.int .i64 x.c.id):=by refine F6 ?_ ms;have o1:=x.one;show FnT _ _ #[.agg #[.int .i64 x.c.id,.int .i64 x.c.dim,x.v]] _ _ _;refine Ao func135 ntmps135 rfl rfl (fun w0 hw0=>?_);simp only[AU];refine As (AS [_,_,_] rfl rfl (by rfl) rfl rfl rfl (fun g1=>Qm rfl (Bv (Qf Bz rfl (Ql rfl U3 (Cell.blk 0 rfl rfl) (Qm rfl (An (Am ?_))))))));exact Ap rfl rfl (rfl)
theorem Zp(x:Iy)(h:Hp)(ms:List Hp):FnV Tryz.prog 137 #[.agg (cD x).toArray] h ms (.int .i64 x.1):=by refine F6 ?_ ms;show FnT _ _ #[.agg #[.int .i64 x.1,.int .i64 x.2]] _ _ _;refine Ao func137 ntmps137 rfl rfl (fun w0 hw0=>?_);simp only[AU];refine As (AS [_,_] rfl rfl (by rfl) rfl rfl rfl (fun g1=>Qm rfl (Bv (Qf B4 rfl (Ql rfl U3 (Cell.blk 0 rfl rfl) (Qm rfl (An (Am ?_))))))));exact Ap rfl rfl (rfl)
theorem NM(x y:CeO)(h:Hp)(g:Nat)(hg:Ud h g)(ms:List Hp):FnV Tryz.prog 196 #[.agg (HT x).toArray,.agg (HT y).toArray,.pointer (some ⟨g,0,none⟩)] h ms (.int .i64 (c3 x.c.id y.c.id)):=by refine F6 ?_ ms;have o1:=x.one;have o2:=y.one;show FnT _ _ #[.agg #[.int .i64 x.c.id,.int .i64 x.c.dim,x.v],.agg #[.int .i64 y.c.id,.int .i64 y.c.dim,y.v],.pointer (some ⟨g,0,none⟩)] _ _ _;refine Ao func196 ntmps196 rfl rfl (fun w0 hw0=>?_);simp only[AU];refine As (AS [_,_,_] rfl rfl (by rfl) rfl rfl rfl (fun g3=>AS [_,_,_] rfl rfl (by rfl) rfl rfl rfl (fun g4=>Qm rfl (An (Aw fun h1 l1 hG4=>(Aw fun h2 l2 hG3=>?_))))));have hG4:=hG4.le l2;have hgk:∀ms,Cell h2 ms (⟨g,0,none⟩:Addr) fkC:=fun ms=>(hg ms).le (AJ l1 l2);refine Ac (Bc 5 CP (by kernel_rfl) rfl (Wl rfl Abt (hgk _) (AP (oG rfl Fb AI (Seg.any hG3)) rfl rfl (AP (BX rfl rfl call135 rfl ((Y5 x _ _))) rfl rfl (Wl rfl Abt (hgk _) (AP (oG rfl Fb AI (Seg.any hG4)) rfl rfl (AZ (Qx (BX rfl rfl call135 rfl ((Y5 y _ _))) rfl (Qx (AF rfl call150 rfl (F7 _ _ _ _)) rfl (Qm rfl (An (Am ?_))))))))))));exact Ap rfl rfl (rfl)
theorem NH(x y:Iy)(h:Hp)(g:Nat)(hg:TC h g)(ms:List Hp):FnV Tryz.prog 199 #[.agg (cD x).toArray,.agg (cD y).toArray,.pointer (some ⟨g,0,none⟩)] h ms (.int .i64 (c3 x.1 y.1)):=by refine F6 ?_ ms;show FnT _ _ #[.agg #[.int .i64 x.1,.int .i64 x.2],.agg #[.int .i64 y.1,.int .i64 y.2],.pointer (some ⟨g,0,none⟩)] _ _ _;refine Ao func199 ntmps199 rfl rfl (fun w0 hw0=>?_);simp only[AU];refine As (AS [_,_] rfl rfl (by rfl) rfl rfl rfl (fun g3=>AS [_,_] rfl rfl (by rfl) rfl rfl rfl (fun g4=>Qm rfl (An (Aw fun h1 l1 hG4=>(Aw fun h2 l2 hG3=>?_))))));have hG4:=hG4.le l2;have hgk:∀ms,Cell h2 ms (⟨g,0,none⟩:Addr) fkD:=fun ms=>(hg ms).le (AJ l1 l2);refine Ac (Bc 5 CP (by kernel_rfl) rfl (Wl rfl Abx (hgk _) (AP (oG rfl DJ AH (Seg.any hG3)) rfl rfl (AP (BX rfl rfl call137 rfl ((Zp x _ _))) rfl rfl (Wl rfl Abx (hgk _) (AP (oG rfl DJ AH (Seg.any hG4)) rfl rfl (AZ (Qx (BX rfl rfl call137 rfl ((Zp y _ _))) rfl (Qx (AF rfl call150 rfl (F7 _ _ _ _)) rfl (Qm rfl (An (Am ?_))))))))))));exact Ap rfl rfl (rfl)
variable {m h:Hp} {v:Value} {d:Array CeO} {ms:List Hp}
abbrev OSC(m:Hp)(v:Value)(d:Array CeO):Prop:=OwnL HT 3 52 m v d.toList
theorem OSC.rd(O:OSC m v d)(hm:m∈ms):Rd h ms v 3 d.size (d.toList.flatMap HT):=by have:=(OwnL.rd O hm (h:=h)).rd;rwa [Array.length_toList]at this
theorem OSC.get(O:OSC m v d)(hm:m∈ms){j:Nat}(hj:j<d.size):Seg h ms ((AG v).add (j*3)) (HT d[j]!):=by have:=(OwnL.rd O hm (h:=h)).seg (j:=j) (by simpa using hj);simpa[hj] using this
theorem Dz{e:Entry}{Q:Exit->Act->World->Prop}{ops:Array Oper}{rest:List Oper}{o:Oper}{s:AB}{t:TypeId}{x y:Operand}{z:Value}{bytes:Nat}{a:CeO}(i j:Nat)(O:OSC m v d)(ho:o.op=.store t x y)(hs:Elem e.P t 3 z bytes)(hx:ev s x=some (.pointer (some ((AG v).add (j*3)))))(hy:ev s y=some (.agg (HT a).toArray))
  (hm:ms[i]?=some m) (hj:j<d.size) (hd:o.dst=none) (hg:o.guard=none)
  (K:∀m',(d.setIfInBounds j a).size=d.size->OSC m' v (d.setIfInBounds j a)->WL e ops Q rest s h (ms.set i m')):WL e ops Q (o::rest) s h ms:=
 GN i j a O ho hs hx hy rfl (Np a) hm (by simpa using hj) hd hg fun m' O'=>K m' (by simp) (by
  show OwnL HT 3 52 m' v (d.setIfInBounds j a).toList
  rw[Array.toList_setIfInBounds];exact O')
theorem FY(d:Array CeO)(v cv:Value)(m:Hp)(hO:OSC m v d)(a b n lo hi:Nat)(hab:a+n<=b)(hb:b+n<=d.size)(hsz:d.size<=1000000)(hlo:lo<=a)(hhi:b+n<=hi)(hhs:hi<=d.size)(h:Hp){a' b' n':Int}(ea:a'=a)(eb:b'=b)(en:n'=n) :
  FnT Tryz.prog 308 #[v,.int .i64 a',.int .i64 b',.int .i64 n',cv] h [m] (fun _ h' ms'=>h=h'/\∃m' d',ms'=[m']/\OSC m' v d'/\SwR d d' a b n/\PermIn lo hi d d'):=by
 subst ea eb en;refine Ao func308 ntmps308 rfl rfl (fun w0 hw0=>?_);simp only[AU];refine As (Qm rfl (An (Ae ?_)))
 refine Az (fun q s h' ms'=>∃(i:Nat) (d0:Array CeO) (m:Hp),q=n-i/\s=[(0,v),(1,.int .i64 a),(2,.int .i64 b),(3,.int .i64 n),(10,.int .i64 i)]/\h=h'/\ms'=[m]/\i<=n/\OSC m v d0/\SwR d d0 a b i/\PermIn lo hi d d0)
  (n-0) _ ⟨0,d,m,rfl,rfl,rfl,rfl,by omega,hO,SwR.start d a b,permIn_refl d lo hi⟩ Qs ?_
 rintro q s h' ms' ⟨i,d0,m0,rfl,rfl,rfl,rfl,hi2,hO0,S,P⟩;have hds:=S.1;refine Ac (As (Qm rfl (Qm rfl (Qm rfl (An ?_)))));refine Au rfl (fun hlt=>?_) (fun hlt=>?_)
 ·refine Ah (Ab (Ac (Ae (Dw 20 [false,false,false,false,true,true,true,true] CP (by kernel_rfl) (by kernel_rfl) (by kernel_rfl) (DZ rfl rfl rfl rfl (B8 rfl rfl) (DZ rfl rfl rfl rfl (B8 rfl rfl) (DZ rfl rfl rfl rfl (B8 rfl rfl) (DZ rfl rfl rfl rfl (M8 rfl rfl rfl (by omega)) ?_))))))));refine⟨rfl,?_⟩;simp only[Eh,zap,cons_append,nil_append,take_succ_cons,take_zero,drop_succ_cons,drop_zero,List.take_nil,List.drop_nil];refine Wm rfl (Wm rfl (Wm rfl (AP (oA rfl) rfl rfl (DU rfl rfl rfl (DU rfl rfl rfl (DU rfl rfl rfl (DU rfl rfl rfl (Wm rfl (Wm rfl (Wm rfl (AP (oA rfl) rfl rfl (AP (AC (b+i) (hO0.rd (.head _)) rfl Bs AI rfl rfl (by omega) (by omega)) rfl rfl (AP (oG rfl Fb AI (hO0.get (.head _) (by omega))) rfl rfl (Wm rfl (Wm rfl (Wm rfl (AP (oA rfl) rfl rfl (AP (AC (a+i) (hO0.rd (.head _)) rfl Bs AI rfl rfl (by omega) (by omega)) rfl rfl (AP (oG rfl Fb AI (hO0.get (.head _) (by omega))) rfl rfl (AZ (Qx (AC (a+i) (hO0.rd (.head _)) rfl Bs AI rfl rfl (by omega) (by omega)) rfl (Dz 0 _ hO0 rfl AI rfl rfl rfl (by omega) rfl rfl (fun mhO1 hzhO1 hO1=>Qx (AC (b+i) (hO1.rd (.head _)) rfl Bs AI rfl rfl (by omega) (by omega)) rfl (Dz 0 _ hO1 rfl AI rfl rfl rfl (by omega) rfl rfl (fun mhO2 hzhO2 hO2=>Aj (Hc (Ai (Ab (Ad (Qm rfl (Qx (oA rfl) rfl (Qm rfl (Aj ?_)))))))))))))))))))))))))))))))));refine Ak (n-(i+1)) _ (by omega) ⟨i+1,_,mhO2,rfl,rfl,rfl,rfl,by omega,hO2,S.step (by omega) (by omega),permIn_trans _ _ _ _ _ P (swp_permIn d0 lo hi (a+i) (b+i) (by omega) (by omega) (by omega) (by omega) (by omega))⟩ Qs
 ·obtain rfl:i=n:=by omega
  refine Av (Aa (Aa (Af ?_)));exact BT rfl (⟨rfl,m0,d0,rfl,hO0,S,P⟩)
theorem QV(d:Array CeO)(v cv:Value)(m:Hp)(hO:OSC m v d)(a t b lo hi:Nat)(hat:a<t)(htb:t<b)(hb:b<=d.size)(hsz:d.size<=1000000)(hlo:lo<=a)(hhi:b<=hi)(hhs:hi<=d.size)(h:Hp){a' t' b':Int}(ea:a'=a)(et:t'=t)(eb:b'=b) :
  FnT Tryz.prog 298 #[v,.int .i64 a',.int .i64 t',.int .i64 b',cv] h [m] (fun _ h' ms'=>h=h'/\∃m' d',ms'=[m']/\OSC m' v d'/\(∀k,d'[k]! = Fk d a t b k)/\PermIn lo hi d d'):=by
 subst ea et eb;refine Ao func298 ntmps298 rfl rfl (fun w0 hw0=>?_);simp only[AU];refine As (Qm rfl (Qm rfl (Qx (oS rfl) rfl (Qm rfl (Bv (Qm rfl (Qm rfl (Qx (oS rfl) rfl (Qm rfl (An (Ac (Ae ?_))))))))))))
 refine Az (fun q s h' ms'=>∃(i j:Nat) (x y:Int) (d0:Array CeO) (m:Hp),q=i+j/\s=[(0,v),(2,.int .i64 t),(4,cv),(10,.int .i64 x),(11,.int .i64 y)]/\h=h'/\ms'=[m]/\x=i/\y=j/\0<i/\0<j/\a+i<=t/\t+j<=b/\OSC m v d0/\(∀k,Fk d0 (t-i) t (t+j) k=Fk d a t b k)/\PermIn lo hi d d0)
  ((t-a)+(b-t)) _ ⟨t-a,b-t,(t:Int)-a,(b:Int)-t,d,m,rfl,rfl,rfl,rfl,by omega,by omega,by omega,by omega,by omega,by omega,hO,fun k=>by rw[show t-(t-a)=a by omega,show t+(b-t)=b by omega],permIn_refl d lo hi⟩ Qs ?_
 rintro q s h' ms' ⟨i,j,x,y,d0,m0,rfl,rfl,rfl,rfl,rfl,rfl,hi0,hj0,hai,hjb,hO0,hR,P⟩;have hds:=P.1;refine Ac (As (Qm rfl (Qm rfl (Qm rfl (An ?_)))));refine Au rfl (fun hne=>?_) (fun hne=>?_)
 ·refine Ah (Ab (Ae (As (Qm rfl (Qm rfl (Qm rfl (An ?_)))))));refine Au rfl (fun hgt=>?_) (fun hgt=>?_)
  ·refine Ac (Ad (Qm rfl (Qm rfl (Qm rfl (Qx (oS rfl) rfl (Qm rfl (Qm rfl (Qm rfl (A8 (pre:=[m0]) rfl call308 rfl (FY d0 v cv m0 hO0 (t-i) t j lo hi (by omega) (by omega) (by omega) (by omega) (by omega) (by omega) h (by omega) rfl rfl) rfl rfl rfl rfl (fun r h1 ms1 l1 hF=>?_))))))))));obtain⟨rfl,m1,d1,rfl,hO1,S,P1⟩:=hF;refine Gh (Qm rfl (Qm rfl (Qx (oS rfl) rfl (Qm rfl (Aj (Ai ?_))))));refine Ak ((i-j)+j) _ (by omega) ⟨i-j,j,(i:Int)-j,j,d1,m1,rfl,rfl,rfl,rfl,by omega,rfl,by omega,by omega,by omega,by omega,hO1,fun k=>(NZ (by omega) (by omega) S k).trans (hR k),permIn_trans _ _ _ _ _ P P1⟩ Qs
  ·refine Ac (Ad (Qm rfl (Qm rfl (Qm rfl (Qx (oS rfl) rfl (Qm rfl (Qm rfl (Qx (oA rfl) rfl (Qm rfl (Qx (oS rfl) rfl (Qm rfl (Qm rfl (A8 (pre:=[m0]) rfl call308 rfl (FY d0 v cv m0 hO0 (t-i) (t+j-i) i lo hi (by omega) (by omega) (by omega) (by omega) (by omega) (by omega) h (by omega) (by omega) rfl) rfl rfl rfl rfl (fun r h1 ms1 l1 hF=>?_))))))))))))));obtain⟨rfl,m1,d1,rfl,hO1,S,P1⟩:=hF;refine Gh (Qm rfl (Qm rfl (Qx (oS rfl) rfl (Qm rfl (Aj (Ai ?_))))));refine Ak (i+(j-i)) _ (by omega) ⟨i,j-i,i,(j:Int)-i,d1,m1,rfl,rfl,rfl,rfl,rfl,by omega,by omega,by omega,by omega,by omega,hO1,fun k=>(LR (by omega) (by omega) S k).trans (hR k),permIn_trans _ _ _ _ _ P P1⟩ Qs
 ·obtain rfl:i=j:=by omega
  refine Av (Aa (Aa (Af (Ab (Ad (Qm rfl (Qm rfl (Qm rfl (Qx (oS rfl) rfl (Qm rfl (Qm rfl (Qm rfl (A8 (pre:=[m0]) rfl call308 rfl (FY d0 v cv m0 hO0 (t-i) t i lo hi (by omega) (by omega) (by omega) (by omega) (by omega) (by omega) h (by omega) rfl rfl) rfl rfl rfl rfl (fun r h1 ms1 l1 hF=>?_))))))))))))));obtain⟨rfl,m1,d1,rfl,hO1,S,P1⟩:=hF;refine Aj ?_;exact BT rfl (⟨rfl,m1,d1,rfl,hO1,fun k=>(Ot (by omega) S k).trans (hR k),permIn_trans _ _ _ _ _ P P1⟩)
end Go.Proofs.Q

namespace Go.Proofs.Q
open Go.Proofs.Tryz
open Go.Eng Go.RowKit Go.Lin Go.Sort Go.Srt
theorem OW(d:Array CeO)(v:Value)(m:Hp)(hO:OSC m v d)(a b:Nat)(hab:a<=b)(hb:b<=d.size)(hsz:d.size<=1000000)(h:Hp)(g:Nat)(hg:Ud h g){a' b':Int}(ea:a'=a)(eb:b'=b) :
  FnT Tryz.prog 240 #[v,.int .i64 a',.int .i64 b',(PN g)] h [m] (fun _ h' ms'=>h=h'/\∃m' d',ms'=[m']/\OSC m' v d'/\PermIn a b d d'/\SortedIn CE a b d'):=by
 subst ea eb;have hfin:=insertionSort_holds (lt:=CE) Jd d a b hab hb;refine Ao func240 ntmps240 rfl rfl (fun w0 hw0=>?_);simp only[AU];refine As (Qm rfl (Qx (oA rfl) rfl (Qm rfl (An (Ae ?_)))))
 refine Az (fun n s h' ms'=>∃(i:Nat) (z:Int) (d':Array CeO) (m:Hp),n=b-i/\s=[(0,v),(1,.int .i64 a),(2,.int .i64 b),(3,(PN g)),(8,.int .i64 z)]/\h=h'/\ms'=[m]/\z=i/\a<i/\i<=4611686018427387905/\OSC m v d'/\d'.size=d.size/\insOuter CE a b i d'=insertionSort CE d a b)
  _ _ ⟨a+1,(a:Int)+1,d,m,rfl,rfl,rfl,rfl,by omega,by omega,by omega,hO,rfl,rfl⟩ Qs ?_
 rintro n s h' ms' ⟨i,z,d',m,rfl,rfl,rfl,rfl,hz,hai,hi,hO,hds,hR⟩;refine Ac (As (Qm rfl (Qm rfl (Qm rfl (An ?_)))));refine Au rfl (fun hlt=>?_) (fun hlt=>?_)
 ·refine Ah (Ab (Ac (Ae (As (Qm rfl (Qm rfl (An (Ae ?_))))))))
  refine Az (fun n s h' ms'=>∃(j:Nat) (y:Int) (d':Array CeO) (m:Hp),j=n/\s=[(0,v),(1,.int .i64 a),(2,.int .i64 b),(3,(PN g)),(8,.int .i64 z),(9,.int .i64 y)]/\h=h'/\ms'=[m]/\y=j/\j<=i/\OSC m v d'/\d'.size=d.size/\insOuter CE a b (i+1) (insInner CE a j d')=insertionSort CE d a b)
   _ _ ⟨i,z,d',m,rfl,rfl,rfl,rfl,hz,by omega,hO,hds,by rw[<-hR];conv=>rhs;unfold insOuter;rw[if_pos (by omega)]⟩ Qs ?_
  rintro n s h' ms' ⟨j,y,d1,m1,rfl,rfl,rfl,rfl,hy,hji,hO1,hds1,hR1⟩;refine Ac (Ac (Bc 14 CP (by kernel_rfl) rfl (Wm rfl (Wm rfl (Wm rfl (Wm rfl ?_))))));refine Ct (t:=21) rfl (fun hja=>?_) (fun hja=>?_)
  ·refine AL (Ay rfl rfl) rfl rfl rfl rfl (AL (Ay rfl rfl) rfl rfl rfl rfl (AL (Ay rfl rfl) rfl rfl rfl rfl (AL (AC (j) (hO1.rd (.head _)) rfl Bs AI rfl rfl (by omega) (by omega)) rfl rfl rfl rfl (AL (oG rfl Fb AI (hO1.get (.head _) (by omega))) rfl rfl rfl rfl (AL (Ay rfl rfl) rfl rfl rfl rfl (AL (Ay rfl rfl) rfl rfl rfl rfl (AL (oS rfl) rfl rfl rfl rfl (AL (AC (j-1) (hO1.rd (.head _)) rfl Bs AI rfl rfl (by omega) (by omega)) rfl rfl rfl rfl (AL (oG rfl Fb AI (hO1.get (.head _) (by omega))) rfl rfl rfl rfl (AZ (Qg (BX rfl rfl call196 rfl (NM _ _ _ g hg _)) rfl (Qg (Dv rfl rfl rfl) rfl (Qm rfl (An ?_))))))))))))));refine Bq rfl (fun hl=>?_) (fun hl=>?_)
   ·refine Ah (Ab (Ac (Ae (Dw 14 [false,false,true,true,true] CP (by kernel_rfl) (by kernel_rfl) (by kernel_rfl) (DZ rfl rfl rfl rfl (B8 rfl rfl) (DZ rfl rfl rfl rfl (B8 rfl rfl) (DZ rfl rfl rfl rfl (Nh rfl rfl rfl (by omega)) ?_)))))));refine⟨rfl,?_⟩;simp only[Eh,zap,cons_append,nil_append,take_succ_cons,take_zero,drop_succ_cons,drop_zero,List.take_nil,List.drop_nil];refine Wm rfl (Wm rfl (DU rfl rfl rfl (DU rfl rfl rfl (DU rfl rfl rfl (Wm rfl (Wm rfl (AP (oS rfl) rfl rfl (AP (AC (j-1) (hO1.rd (.head _)) rfl Bs AI rfl rfl (by omega) (by omega)) rfl rfl (AP (oG rfl Fb AI (hO1.get (.head _) (by omega))) rfl rfl (Wm rfl (Wm rfl (AP (AC (j) (hO1.rd (.head _)) rfl Bs AI rfl rfl (by omega) (by omega)) rfl rfl (AP (oG rfl Fb AI (hO1.get (.head _) (by omega))) rfl rfl (AZ (Qx (AC (j) (hO1.rd (.head _)) rfl Bs AI rfl rfl (by omega) (by omega)) rfl (Dz 0 _ hO1 rfl AI rfl rfl rfl (by omega) rfl rfl (fun mhO2 hzhO2 hO2=>Qx (AC (j-1) (hO2.rd (.head _)) rfl Bs AI rfl rfl (by omega) (by omega)) rfl (Dz 0 _ hO2 rfl AI rfl rfl rfl (by omega) rfl rfl (fun mhO3 hzhO3 hO3=>Aj (Hc (Ai (Ab (Ad (Qm rfl (Qx (oS rfl) rfl (Qm rfl (Aj ?_)))))))))))))))))))))))))));obtain⟨j',rfl⟩:∃j',j=j'+1:=⟨j-1,by omega⟩
    refine Ak j' _ (by omega) ⟨j',y-1,_,mhO3,rfl,rfl,rfl,rfl,by omega,by omega,hO3,by simp[hds1],?_⟩ Qs;rw[<-hR1]
    conv=>rhs;unfold insInner
    rw[if_pos (by rw[Bool.and_eq_true];exact⟨decide_eq_true (by omega),hl⟩)];rfl
   ·refine Av (Aa (Aa (Af (Ai (Ab (Ad (Qm rfl (Qx (oA rfl) rfl (Qm rfl (Aj ?_))))))))));refine Ak (b-(i+1)) _ (by omega) ⟨i+1,z+1,d1,m1,rfl,rfl,rfl,rfl,by omega,by omega,by omega,hO1,hds1,?_⟩ Qs;rw[<-hR1];obtain⟨j',rfl⟩:∃j',j=j'+1:=⟨j-1,by omega⟩
    conv=>rhs;unfold insInner
    rw[if_neg (by rw[Bool.and_eq_true];rintro⟨_,h2⟩;exact absurd (hl.symm.trans h2) (by decide))]
  ·refine Ax rfl rfl rfl rfl rfl (Ax rfl rfl rfl rfl rfl (Ax rfl rfl rfl rfl rfl (Ax rfl rfl rfl rfl rfl (Ax rfl rfl rfl rfl rfl (Ax rfl rfl rfl rfl rfl (Ax rfl rfl rfl rfl rfl (Ax rfl rfl rfl rfl rfl (Ax rfl rfl rfl rfl rfl (Ax rfl rfl rfl rfl rfl (AZ (Qk rfl (Qk rfl (Qm rfl (An (AQ rfl (Av (Aa (Aa (Af (Ai (Ab (Ad (Qm rfl (Qx (oA rfl) rfl (Qm rfl (Aj ?_))))))))))))))))))))))))));refine Ak (b-(i+1)) _ (by omega) ⟨i+1,z+1,d1,m1,rfl,rfl,rfl,rfl,by omega,by omega,by omega,hO1,hds1,?_⟩ Qs;rw[<-hR1];cases j with
   | zero=>rfl
   | succ j'=>
    conv=>rhs;unfold insInner
    rw[if_neg (by simp;intro h';omega)]
 ·refine Av (Aa (Aa (Af ?_)));exact BT rfl (⟨rfl,m,insertionSort CE d a b,rfl,by rw[<-hR];unfold insOuter;rw[if_neg (by omega)];exact hO,hfin.1,hfin.2⟩)
theorem Iw:∀(N:Nat) (d:Array CeO) (v:Value) (m:Hp) (hO:OSC m v d) (a t b:Nat) (hN:b-a<=N) (hat:a<t) (htb:t<b) (hb:b<=d.size) (hsz:d.size<=1000000) (hA:SortedIn CE a t d) (hB:SortedIn CE t b d) (h:Hp) (g:Nat) (hg:Ud h g) {a' t' b':Int} (ea:a'=a) (et:t'=t) (eb:b'=b),
  FnT Tryz.prog 277 #[v,.int .i64 a',.int .i64 t',.int .i64 b',(PN g)] h [m] (fun _ h' ms'=>h=h'/\∃m' d',ms'=[m']/\OSC m' v d'/\PermIn a b d d'/\SortedIn CE a b d'):=by
 intro N
 induction N with
 | zero=>intro d v m hO a t b hN hat htb;omega
 | succ N ih=>
 intro d v m hO a t b hN hat htb hb hsz hA hB h g hg a' t' b' ea et eb;subst ea et eb;refine Ao func277 ntmps277 rfl rfl (fun w0 hw0=>?_);simp only[AU];refine Ac (As (Qm rfl (Qm rfl (Qx (oS rfl) rfl (Qm rfl (An ?_))))));refine Au rfl (fun h1=>?_) (fun h1=>?_)
 ·-- one element on the left
  obtain rfl:t=a+1:=by omega
  refine As (Qm rfl (Qm rfl (Bv (Qm rfl (Qm rfl (An (Ac (Ae ?_))))))))
  refine Az (fun n s h' ms'=>∃(i j:Nat),n=j-i/\s=[(0,v),(1,.int .i64 a),(4,(PN g)),(10,.int .i64 i),(11,.int .i64 j)]/\h=h'/\ms'=[m]/\a+1<=i/\i<=j/\j<=b/\(i=a+1\/CE d[i-1]! d[a]! = true)/\(j=b\/CE d[j]! d[a]! = false))
   (b-(a+1)) _ ⟨a+1,b,rfl,rfl,rfl,rfl,by omega,by omega,by omega,.inl rfl,.inl rfl⟩ Qs ?_
  rintro n s h' ms' ⟨i,j,rfl,rfl,rfl,rfl,hi,hij,hj,c1,c2⟩;refine Ac (As (Qm rfl (Qm rfl (Qm rfl (An ?_)))));refine Au rfl (fun hlt=>?_) (fun hlt=>?_)
  ·refine Ah (Ab (Ae (As (Qm rfl (Qm rfl (Qx (oA rfl) rfl (Qx (Cf rfl U3 GJ rfl) rfl (Qx (DP (n:=1) rfl rfl rfl (by omega)) rfl (Qx (Cf rfl GJ U3 rfl) rfl (Qm rfl (An ?_)))))))))));rw[Ha i j (by omega)];refine Ac (Bc 9 CP (by kernel_rfl) rfl (Wm rfl (Wm rfl (Wm rfl (AP (AC ((i+j)/2) (hO.rd (.head _)) rfl Bs AI rfl rfl (by omega) (by omega)) rfl rfl (AP (oG rfl Fb AI (hO.get (.head _) (by omega))) rfl rfl (Wm rfl (Wm rfl (AP (AC (a) (hO.rd (.head _)) rfl Bs AI rfl rfl (by omega) (by omega)) rfl rfl (AP (oG rfl Fb AI (hO.get (.head _) (by omega))) rfl rfl (AZ (Qx (BX rfl rfl call196 rfl (NM _ _ _ g hg _)) rfl (Qm rfl (An ?_))))))))))))));refine Bq rfl (fun hl=>?_) (fun hl=>?_)
   ·refine Ad (Qm rfl (Qx (oA rfl) rfl (Qm rfl (Aj (Ai ?_)))));exact Ak (j-((i+j)/2+1)) _ (by omega) ⟨(i+j)/2+1,j,rfl,rfl,rfl,rfl,by omega,by omega,by omega,.inr (by rw[Nat.add_sub_cancel];exact hl),c2⟩ Qs
   ·refine Ad (Qm rfl (Qm rfl (Aj (Ai ?_))));exact Ak ((i+j)/2-i) _ (by omega) ⟨i,(i+j)/2,rfl,rfl,rfl,rfl,by omega,by omega,by omega,c1,.inr hl⟩ Qs
  ·obtain rfl:i=j:=by omega
   refine Av (Aa (Aa (Af (Ab (Ac (As (Qm rfl (Qm rfl (An (Ae ?_))))))))))
   refine Az (fun n s h' ms'=>∃(k:Nat) (d0:Array CeO) (m:Hp),n=i-1-k/\s=[(0,v),(10,.int .i64 i),(13,.int .i64 k)]/\h=h'/\ms'=[m]/\a<=k/\k<=i-1/\OSC m v d0/\InsR d d0 a k/\PermIn a b d d0)
    (i-1-a) _ ⟨a,d,m,rfl,rfl,rfl,rfl,by omega,by omega,hO,InsR.start d a,permIn_refl d a b⟩ Qs ?_
   rintro n s h' ms' ⟨k,d0,m0,rfl,rfl,rfl,rfl,hak,hki,hO0,R,P⟩;have hds:=R.1;refine Ac (As (Qm rfl (Qm rfl (Qx (oS rfl) rfl (Qm rfl (An ?_))))));refine Au rfl (fun hltk=>?_) (fun hltk=>?_)
   ·refine Ah (Ab (Ac (Ae (Dw 14 [false,false,true,true,true] CP (by kernel_rfl) (by kernel_rfl) (by kernel_rfl) (DZ rfl rfl rfl rfl (B8 rfl rfl) (DZ rfl rfl rfl rfl (B8 rfl rfl) (DZ rfl rfl rfl rfl (M8 rfl rfl rfl (by omega)) ?_)))))));refine⟨rfl,?_⟩;simp only[Eh,zap,cons_append,nil_append,take_succ_cons,take_zero,drop_succ_cons,drop_zero,List.take_nil,List.drop_nil];refine Wm rfl (Wm rfl (DU rfl rfl rfl (DU rfl rfl rfl (DU rfl rfl rfl (Wm rfl (Wm rfl (AP (oA rfl) rfl rfl (AP (AC (k+1) (hO0.rd (.head _)) rfl Bs AI rfl rfl (by omega) (by omega)) rfl rfl (AP (oG rfl Fb AI (hO0.get (.head _) (by omega))) rfl rfl (Wm rfl (Wm rfl (AP (AC (k) (hO0.rd (.head _)) rfl Bs AI rfl rfl (by omega) (by omega)) rfl rfl (AP (oG rfl Fb AI (hO0.get (.head _) (by omega))) rfl rfl (AZ (Qx (AC (k) (hO0.rd (.head _)) rfl Bs AI rfl rfl (by omega) (by omega)) rfl (Dz 0 _ hO0 rfl AI rfl rfl rfl (by omega) rfl rfl (fun mhO1 hzhO1 hO1=>Qx (AC (k+1) (hO1.rd (.head _)) rfl Bs AI rfl rfl (by omega) (by omega)) rfl (Dz 0 _ hO1 rfl AI rfl rfl rfl (by omega) rfl rfl (fun mhO2 hzhO2 hO2=>Aj (Hc (Ai (Ab (Ad (Qm rfl (Qx (oA rfl) rfl (Qm rfl (Aj ?_)))))))))))))))))))))))))));exact Ak (i-1-(k+1)) _ (by omega) ⟨k+1,_,mhO2,rfl,rfl,rfl,rfl,by omega,by omega,hO2,R.step hak (by omega),permIn_trans _ _ _ _ _ P (swp_permIn d0 a b k (k+1) (by omega) (by omega) (by omega) (by omega) (by omega))⟩ Qs
   ·obtain rfl:k=i-1:=by omega
    refine Av (Aa (Aa (Af (Ab (Am (Ag ?_))))));exact ED rfl (⟨rfl,m0,d0,rfl,hO0,P,K5 Jd hB ⟨hi,hj⟩ c1 c2 R⟩)
 ·refine Ah (Ab (Ac (As (Qm rfl (Qm rfl (Qx (oS rfl) rfl (Qm rfl (An ?_))))))));refine Au rfl (fun h2=>?_) (fun h2=>?_)
  ·-- one element on the right
   obtain rfl:b=t+1:=by omega
   refine As (Qm rfl (Qm rfl (Bv (Qm rfl (Qm rfl (An (Ac (Ae ?_))))))))
   refine Az (fun n s h' ms'=>∃(i j:Nat),n=j-i/\s=[(0,v),(1,.int .i64 a),(2,.int .i64 t),(4,(PN g)),(14,.int .i64 i),(15,.int .i64 j)]/\h=h'/\ms'=[m]/\a<=i/\i<=j/\j<=t/\(i=a\/CE d[t]! d[i-1]! = false)/\(j=t\/CE d[t]! d[j]! = true))
    (t-a) _ ⟨a,t,rfl,rfl,rfl,rfl,by omega,by omega,by omega,.inl rfl,.inl rfl⟩ Qs ?_
   rintro n s h' ms' ⟨i,j,rfl,rfl,rfl,rfl,hi,hij,hj,c1,c2⟩;refine Ac (As (Qm rfl (Qm rfl (Qm rfl (An ?_)))));refine Au rfl (fun hlt=>?_) (fun hlt=>?_)
   ·refine Ah (Ab (Ae (As (Qm rfl (Qm rfl (Qx (oA rfl) rfl (Qx (Cf rfl U3 GJ rfl) rfl (Qx (DP (n:=1) rfl rfl rfl (by omega)) rfl (Qx (Cf rfl GJ U3 rfl) rfl (Qm rfl (An ?_)))))))))));rw[Ha i j (by omega)];refine Ac (Bc 9 CP (by kernel_rfl) rfl (Wm rfl (Wm rfl (Wm rfl (AP (AC (t) (hO.rd (.head _)) rfl Bs AI rfl rfl (by omega) (by omega)) rfl rfl (AP (oG rfl Fb AI (hO.get (.head _) (by omega))) rfl rfl (Wm rfl (Wm rfl (AP (AC ((i+j)/2) (hO.rd (.head _)) rfl Bs AI rfl rfl (by omega) (by omega)) rfl rfl (AP (oG rfl Fb AI (hO.get (.head _) (by omega))) rfl rfl (AZ (Qx (BX rfl rfl call196 rfl (NM _ _ _ g hg _)) rfl (Qm rfl (Qm rfl (An ?_)))))))))))))));refine Bq rfl (fun hl=>?_) (fun hl=>?_)
    ·have hl:CE d[t]! d[(i+j)/2]! = false:=by unfold CE;simpa using hl
     refine Ad (Qm rfl (Qx (oA rfl) rfl (Qm rfl (Aj (Ai ?_)))));exact Ak (j-((i+j)/2+1)) _ (by omega) ⟨(i+j)/2+1,j,rfl,rfl,rfl,rfl,by omega,by omega,by omega,.inr (by rw[Nat.add_sub_cancel];exact hl),c2⟩ Qs
    ·have hl:CE d[t]! d[(i+j)/2]! = true:=by unfold CE;simpa using hl
     refine Ad (Qm rfl (Qm rfl (Aj (Ai ?_))));exact Ak ((i+j)/2-i) _ (by omega) ⟨i,(i+j)/2,rfl,rfl,rfl,rfl,by omega,by omega,by omega,c1,.inr hl⟩ Qs
   ·obtain rfl:i=j:=by omega
    refine Av (Aa (Aa (Af (Ab (Ac (As (Qm rfl (Qm rfl (An (Ae ?_))))))))))
    refine Az (fun n s h' ms'=>∃(k:Nat) (d0:Array CeO) (m:Hp),n=k-i/\s=[(0,v),(14,.int .i64 i),(17,.int .i64 k)]/\h=h'/\ms'=[m]/\i<=k/\k<=t/\OSC m v d0/\ShR d d0 t k/\PermIn a (t+1) d d0)
     (t-i) _ ⟨t,d,m,rfl,rfl,rfl,rfl,by omega,by omega,hO,ShR.start d t,permIn_refl d a (t+1)⟩ Qs ?_
    rintro n s h' ms' ⟨k,d0,m0,rfl,rfl,rfl,rfl,hik,hkt,hO0,R,P⟩;have hds:=R.1;refine Ac (As (Qm rfl (Qm rfl (Qm rfl (An ?_)))));refine Au rfl (fun hltk=>?_) (fun hltk=>?_)
    ·have st:ShR d (Go.Sort.swp d0 k (k-1)) t (k-1):=by
      obtain⟨k',rfl⟩:∃k',k=k'+1:=⟨k-1,by omega⟩
      exact R.step (by omega) (by omega)
     have e:(k:Int)-1=((k-1:Nat):Int):=by omega
     refine Ah (Ab (Ac (Ae (Dw 14 [false,false,true,true,true] CP (by kernel_rfl) (by kernel_rfl) (by kernel_rfl) (DZ rfl rfl rfl rfl (B8 rfl rfl) (DZ rfl rfl rfl rfl (B8 rfl rfl) (DZ rfl rfl rfl rfl (Nh rfl rfl rfl (by omega)) ?_)))))));refine⟨rfl,?_⟩;simp only[Eh,zap,cons_append,nil_append,take_succ_cons,take_zero,drop_succ_cons,drop_zero,List.take_nil,List.drop_nil];refine Wm rfl (Wm rfl (DU rfl rfl rfl (DU rfl rfl rfl (DU rfl rfl rfl (Wm rfl (Wm rfl (AP (oS rfl) rfl rfl (AP (AC (k-1) (hO0.rd (.head _)) rfl Bs AI rfl rfl (by omega) (by omega)) rfl rfl (AP (oG rfl Fb AI (hO0.get (.head _) (by omega))) rfl rfl (Wm rfl (Wm rfl (AP (AC (k) (hO0.rd (.head _)) rfl Bs AI rfl rfl (by omega) (by omega)) rfl rfl (AP (oG rfl Fb AI (hO0.get (.head _) (by omega))) rfl rfl (AZ (Qx (AC (k) (hO0.rd (.head _)) rfl Bs AI rfl rfl (by omega) (by omega)) rfl (Dz 0 _ hO0 rfl AI rfl rfl rfl (by omega) rfl rfl (fun mhO1 hzhO1 hO1=>Qx (AC (k-1) (hO1.rd (.head _)) rfl Bs AI rfl rfl (by omega) (by omega)) rfl (Dz 0 _ hO1 rfl AI rfl rfl rfl (by omega) rfl rfl (fun mhO2 hzhO2 hO2=>Aj (Hc (Ai (Ab (Ad (Qm rfl (Qx (oS rfl) rfl (Qm rfl (Aj ?_)))))))))))))))))))))))))));rw[e];exact Ak (k-1-i) _ (by omega) ⟨k-1,_,mhO2,rfl,rfl,rfl,rfl,by omega,by omega,hO2,st,permIn_trans _ _ _ _ _ P (swp_permIn d0 a (t+1) k (k-1) (by omega) (by omega) (by omega) (by omega) (by omega))⟩ Qs
    ·obtain rfl:k=i:=by omega
     refine Av (Aa (Aa (Af (Ab (Am (Ag ?_))))));exact ED rfl (⟨rfl,m0,d0,rfl,hO0,P,Mz Jd hA ⟨hi,hj⟩ c1 c2 R⟩)
  ·refine Ah (Ab (As (Qm rfl (Qm rfl (Qx (oA rfl) rfl (Qx (Cf rfl U3 GJ rfl) rfl (Qx (DP (n:=1) rfl rfl rfl (by omega)) rfl (Qx (Cf rfl GJ U3 rfl) rfl (Qm rfl (An ?_))))))))));rw[Ha a b (by omega)];obtain⟨mid,hmid⟩:∃mid,mid=(a+b)/2:=⟨_,rfl⟩
   rw[<-hmid];refine As (Qm rfl (Qm rfl (Qx (oA rfl) rfl (Qm rfl (Bv (Qm rfl (Qm rfl (An ?_))))))));refine A3 (fun s h' ms'=>∃(s0 r0:Nat),s=[(0,v),(1,.int .i64 a),(2,.int .i64 t),(3,.int .i64 b),(4,(PN g)),(18,.int .i64 mid),(19,.int .i64 ((mid:Int)+t)),(20,.int .i64 s0),(21,.int .i64 r0)]/\h=h'/\ms'=[m]/\((mid<t/\s0+b=mid+t/\r0=mid)\/(t<=mid/\s0=a/\r0=t))) ?_ (fun s h ms hI=>?_)
   ·refine Ac (Ad (Qm rfl (Qm rfl (Qm rfl (An ?_)))));refine Au rfl (fun hgt=>?_) (fun hgt=>?_)
    ·refine Ac (Ad (Qm rfl (Qm rfl (Qx (oS rfl) rfl (Qm rfl (Gh (Qm rfl (Qm rfl (Aj ?_)))))))));have e:(mid:Int)+t-b=((mid+t-b:Nat):Int):=by omega
     rw[e];exact AA _ ⟨mid+t-b,mid,rfl,rfl,rfl,.inl ⟨by omega,by omega,rfl⟩⟩ Qs
    ·refine Ac (Ad (Qm rfl (Qm rfl (Gh (Qm rfl (Qm rfl (Aj ?_)))))));exact AA _ ⟨a,t,rfl,rfl,rfl,.inr ⟨by omega,rfl,rfl⟩⟩ Qs
   ·obtain⟨s0,r0,rfl,rfl,rfl,hc⟩:=hI;refine As (Qm rfl (Qx (oS rfl) rfl (Qm rfl (An (Ac (Ae ?_))))))
    refine Az (fun n s h' ms'=>∃(i j:Nat),n=j-i/\s=[(0,v),(1,.int .i64 a),(2,.int .i64 t),(3,.int .i64 b),(4,(PN g)),(18,.int .i64 mid),(19,.int .i64 ((mid:Int)+t)),(20,.int .i64 i),(21,.int .i64 j),(22,.int .i64 ((mid:Int)+t-1))]/\h=h'/\ms'=[m]/\s0<=i/\i<=j/\j<=r0/\(i=s0\/CE d[mid+t-i]! d[i-1]! = false)/\(j=r0\/CE d[mid+t-1-j]! d[j]! = true))
     (r0-s0) _ ⟨s0,r0,rfl,rfl,rfl,rfl,by omega,by omega,by omega,.inl rfl,.inl rfl⟩ Qs ?_
    rintro n s h' ms' ⟨i,j,rfl,rfl,rfl,rfl,hi,hij,hj,c1,c2⟩;refine Ac (As (Qm rfl (Qm rfl (Qm rfl (An ?_)))));refine Au rfl (fun hlt=>?_) (fun hlt=>?_)
    ·refine Ah (Ab (Ae (As (Qm rfl (Qm rfl (Qx (oA rfl) rfl (Qx (Cf rfl U3 GJ rfl) rfl (Qx (DP (n:=1) rfl rfl rfl (by omega)) rfl (Qx (Cf rfl GJ U3 rfl) rfl (Qm rfl (An ?_)))))))))));rw[Ha i j (by omega)];refine Ac (Bc 11 CP (by kernel_rfl) rfl (Wm rfl (Wm rfl (Wm rfl (Wm rfl (AP (oS rfl) rfl rfl (AP (AC (mid+t-1-(i+j)/2) (hO.rd (.head _)) rfl Bs AI rfl rfl (by omega) (by omega)) rfl rfl (AP (oG rfl Fb AI (hO.get (.head _) (by omega))) rfl rfl (Wm rfl (Wm rfl (AP (AC ((i+j)/2) (hO.rd (.head _)) rfl Bs AI rfl rfl (by omega) (by omega)) rfl rfl (AP (oG rfl Fb AI (hO.get (.head _) (by omega))) rfl rfl (AZ (Qx (BX rfl rfl call196 rfl (NM _ _ _ g hg _)) rfl (Qm rfl (Qm rfl (An ?_)))))))))))))))));refine Bq rfl (fun hl=>?_) (fun hl=>?_)
     ·have hl:CE d[mid+t-1-(i+j)/2]! d[(i+j)/2]! = false:=by unfold CE;simpa using hl
      refine Ad (Qm rfl (Qx (oA rfl) rfl (Qm rfl (Aj (Ai ?_)))));exact Ak (j-((i+j)/2+1)) _ (by omega) ⟨(i+j)/2+1,j,rfl,rfl,rfl,rfl,by omega,by omega,by omega,.inr (by rw[Nat.add_sub_cancel,show mid+t-((i+j)/2+1)=mid+t-1-(i+j)/2 by omega];exact hl),c2⟩ Qs
     ·have hl:CE d[mid+t-1-(i+j)/2]! d[(i+j)/2]! = true:=by unfold CE;simpa using hl
      refine Ad (Qm rfl (Qm rfl (Aj (Ai ?_))));exact Ak ((i+j)/2-i) _ (by omega) ⟨i,(i+j)/2,rfl,rfl,rfl,rfl,by omega,by omega,by omega,c1,.inr hl⟩ Qs
    ·obtain rfl:i=j:=by omega
     obtain⟨e,he⟩:∃e,e=mid+t-i:=⟨_,rfl⟩
     have he2:(mid:Int)+t-i=(e:Int):=by omega
     refine Av (Aa (Aa (Af (Ab (As (Qm rfl (Qm rfl (Qx (oS rfl) rfl (Qm rfl (An ?_))))))))));rw[he2]
     have k1:i=a\/e=b\/CE d[e]! d[i-1]! = false:=by
      rcases c1 with c|c
      ·rcases hc with hc|hc
       ·right;left;omega
       ·left;omega
      ·right;right;rw[he];exact c
     have k2:i=t\/e=t\/CE d[e-1]! d[i]! = true:=by
      rcases c2 with c|c
      ·rcases hc with hc|hc
       ·right;left;omega
       ·left;omega
      ·right;right;rw[show e-1=mid+t-1-i by omega];exact c
     have hgeo:a<=i/\i<=t/\i<=mid/\t<=e/\e<=b:=by rcases hc with hc|hc<;>omega
     have hs2:i+e=mid+t:=by omega
     refine A3 (fun s h' ms'=>∃(d1:Array CeO) (m1:Hp),s=[(0,v),(1,.int .i64 a),(3,.int .i64 b),(4,(PN g)),(18,.int .i64 mid),(20,.int .i64 i),(24,.int .i64 e)]/\h=h'/\ms'=[m1]/\OSC m1 v d1/\(∀k,d1[k]! = Fk d i t e k)/\PermIn a b d d1) ?_ (fun s h ms hI=>?_)
     ·refine Ac (Ad (Qm rfl (Qm rfl (Qm rfl (Qm rfl ?_)))));refine AO (t:=181) rfl (fun q1=>?_) (fun q1=>?_)
      ·refine Qg (Ay rfl rfl) rfl (Qg (Ay rfl rfl) rfl (Qg (Dv rfl rfl rfl) rfl (Qm rfl (An ?_))));refine Au rfl (fun q2=>?_) (fun q2=>?_)
       ·refine Ad (Qm rfl (Qm rfl (Qm rfl (Qm rfl (Qm rfl (A8 (pre:=[m]) rfl call298 rfl (QV d v (PN g) m hO i t e a b (by omega) (by omega) (by omega) (by omega) (by omega) (by omega) (by omega) h rfl rfl rfl) rfl rfl rfl rfl (fun r h1 ms1 l1 hF=>?_)))))));obtain⟨rfl,m1,d1,rfl,hO1,hr,P⟩:=hF;refine Aj ?_;exact AA _ ⟨d1,m1,rfl,rfl,rfl,hO1,hr,P⟩ Qs
       ·refine Ah ?_;exact AA _ ⟨d,m,rfl,rfl,rfl,hO,fun k=>(Hw (by omega) k).symm,permIn_refl d a b⟩ Qs
      ·refine Qk rfl (Qk rfl (Qk rfl (Qm rfl (An (AQ rfl (Ah ?_))))));exact AA _ ⟨d,m,rfl,rfl,rfl,hO,fun k=>(Hw (by omega) k).symm,permIn_refl d a b⟩ Qs
     ·obtain⟨d1,m1,rfl,rfl,rfl,hO1,hr,P⟩:=hI;have C:=Xd Jd hA hB hgeo hs2 hr k1 k2;have hd1:=P.1;refine A3 (fun s h' ms'=>∃(d2:Array CeO) (m2:Hp),s=[(0,v),(3,.int .i64 b),(4,(PN g)),(18,.int .i64 mid),(24,.int .i64 e)]/\h=h'/\ms'=[m2]/\OSC m2 v d2/\PermIn a mid d1 d2/\SortedIn CE a mid d2) ?_ (fun s h ms hI=>?_)
      ·refine Ac (Ad (Qm rfl (Qm rfl (Qm rfl (Qm rfl ?_)))));refine AO (t:=195) rfl (fun q1=>?_) (fun q1=>?_)
       ·refine Qg (Ay rfl rfl) rfl (Qg (Ay rfl rfl) rfl (Qg (Dv rfl rfl rfl) rfl (Qm rfl (An ?_))));refine Au rfl (fun q2=>?_) (fun q2=>?_)
        ·refine Ad (Qm rfl (Qm rfl (Qm rfl (Qm rfl (Qm rfl (A8 (pre:=[m1]) rfl call277 rfl (ih d1 v m1 hO1 a i mid (by omega) (by omega) (by omega) (by omega) (by omega) C.lo C.lo2 h g hg rfl rfl rfl) rfl rfl rfl rfl (fun r h1 ms1 l1 hF=>?_)))))));obtain⟨rfl,m2,d2,rfl,hO2,P2,S2⟩:=hF;refine Aj ?_;exact AA _ ⟨d2,m2,rfl,rfl,rfl,hO2,P2,S2⟩ Qs
        ·obtain rfl:i=mid:=by omega
         refine Ah ?_;exact AA _ ⟨d1,m1,rfl,rfl,rfl,hO1,permIn_refl d1 a _,C.lo⟩ Qs
       ·obtain rfl:i=a:=by omega
        refine Qk rfl (Qk rfl (Qk rfl (Qm rfl (An (AQ rfl (Ah ?_))))));exact AA _ ⟨d1,m1,rfl,rfl,rfl,hO1,permIn_refl d1 _ _,C.lo2⟩ Qs
      ·obtain⟨d2,m2,rfl,rfl,rfl,hO2,P2,S2⟩:=hI;have hd2:=P2.1;have f1:SortedIn CE mid e d2:=BI C.hi fun k h1 h2=>P2.2.1 k (.inr h1);have f2:SortedIn CE e b d2:=BI C.hi2 fun k h1 h2=>P2.2.1 k (.inr (by omega))
       have fin:∀d3,PermIn mid b d2 d3->SortedIn CE mid b d3->PermIn a b d d3/\SortedIn CE a b d3:=fun d3 P3 S3=>
        ⟨permIn_trans _ _ _ _ _ P (permIn_trans _ _ _ _ _ (permIn_mono d1 d2 a mid a b (by omega) (by omega) (by omega) P2) (permIn_mono d2 d3 mid b a b (by omega) (by omega) (by omega) P3)),On C (by omega) (by omega) P2 S2 P3 S3⟩
       refine As (Qm rfl (Qm rfl (Qm rfl (Qm rfl ?_))));refine AO (t:=209) rfl (fun q1=>?_) (fun q1=>?_)
       ·refine Qg (Ay rfl rfl) rfl (Qg (Ay rfl rfl) rfl (Qg (Dv rfl rfl rfl) rfl (Qm rfl (An ?_))));refine Au rfl (fun q2=>?_) (fun q2=>?_)
        ·refine Ad (Qm rfl (Qm rfl (Qm rfl (Qm rfl (Qm rfl (A8 (pre:=[m2]) rfl call277 rfl (ih d2 v m2 hO2 mid e b (by omega) (by omega) (by omega) (by omega) (by omega) f1 f2 h g hg rfl rfl rfl) rfl rfl rfl rfl (fun r h1 ms1 l1 hF=>?_)))))));obtain⟨rfl,m3,d3,rfl,hO3,P3,S3⟩:=hF;refine Aj ?_;exact BT rfl (⟨rfl,m3,d3,rfl,hO3,(fin d3 P3 S3).1,(fin d3 P3 S3).2⟩)
        ·obtain rfl:e=b:=by omega
         refine Ah ?_;exact BT rfl (⟨rfl,m2,d2,rfl,hO2,(fin d2 (permIn_refl d2 _ _) f1).1,(fin d2 (permIn_refl d2 _ _) f1).2⟩)
       ·obtain rfl:e=mid:=by omega
        refine Qk rfl (Qk rfl (Qk rfl (Qm rfl (An (AQ rfl (Ah ?_))))));exact BT rfl (⟨rfl,m2,d2,rfl,hO2,(fin d2 (permIn_refl d2 _ _) f2).1,(fin d2 (permIn_refl d2 _ _) f2).2⟩)
def BkC(d:Array CeO)(s n:Nat):Prop:=∀x,s∣x->SortedIn CE x (min (x+s) n) d
theorem EE{d:Array CeO}{a b b':Nat}(h:SortedIn CE a b d)(hb:b'<=b):SortedIn CE a b' d:=fun i j h1 h2 h3=>h i j h1 h2 (by omega)
theorem IT{d:Array CeO}{a b:Nat}(hb:b<=a):SortedIn CE a b d:=fun i j h1 h2 h3=>by omega
theorem QK(d:Array CeO)(v:Value)(m:Hp)(hO:OSC m v d)(hsz:d.size<=1000000)(h:Hp)(g:Nat)(hg:Ud h g){n':Int}(en:n'=d.size) :
  FnT Tryz.prog 238 #[v,.int .i64 n',(PN g)] h [m] (fun _ h' ms'=>h=h'/\∃m' d',ms'=[m']/\OSC m' v d'/\PermIn 0 d.size d d'/\SortedIn CE 0 d.size d'):=by
 subst en;obtain⟨n,hn⟩:∃n,n=d.size:=⟨_,rfl⟩
 rw[<-hn];refine Ao func238 ntmps238 rfl rfl (fun w0 hw0=>?_);simp only[AU];refine As (Qm rfl (Bv (Qm rfl (Qm rfl (Qm rfl (An (Ac (Ae ?_))))))))
 refine Az (fun q s h' ms'=>∃(a:Nat) (d0:Array CeO) (m:Hp),q=n-a/\s=[(0,v),(1,.int .i64 n),(2,(PN g)),(6,.int .i64 20),(7,.int .i64 a),(8,.int .i64 ((a:Int)+20))]/\h=h'/\ms'=[m]/\a<=n/\20∣a/\OSC m v d0/\PermIn 0 n d d0/\∀x,20∣x->x+20<=a->SortedIn CE x (x+20) d0)
  (n-0) _ ⟨0,d,m,rfl,rfl,rfl,rfl,by omega,⟨0,rfl⟩,hO,permIn_refl d 0 n,fun x _ h=>by omega⟩ Qs ?_
 rintro q s h' ms' ⟨a,d0,m0,rfl,rfl,rfl,rfl,han,hda,hO0,P,hB⟩;have hds:=P.1;refine Ac (As (Qm rfl (Qm rfl (Qm rfl (An ?_)))));refine Au rfl (fun hle=>?_) (fun hle=>?_)
 ·refine Ah (Ab (Ae (As (Qm rfl (Qm rfl (Qm rfl (Qm rfl (A8 (pre:=[m0]) rfl call240 rfl (OW d0 v m0 hO0 a (a+20) (by omega) (by omega) (by omega) h g hg rfl (by omega)) rfl rfl rfl rfl (fun r h1 ms1 l1 hF=>?_)))))))));obtain⟨rfl,m1,d1,rfl,hO1,P1,S1⟩:=hF;refine Bv (Qm rfl (Qm rfl (Gh (Qm rfl (Qm rfl (Qx (oA rfl) rfl (Qm rfl (Aj (Ai ?_)))))))))
  exact Ak (n-(a+20)) _ (by omega) ⟨a+20,d1,m1,rfl,rfl,rfl,rfl,by omega,Nat.dvd_add hda ⟨1,rfl⟩,hO1,permIn_trans _ _ _ _ _ P (permIn_mono d0 d1 a (a+20) 0 n (by omega) (by omega) (by omega) P1),fun x hx hx2=>by
   rcases Nat.lt_or_ge x a with h1|h1
   ·have:=ET hx hda h1;exact BI (hB x hx this) fun k h2 h3=>P1.2.1 k (.inl (by omega))
   ·obtain rfl:x=a:=by omega
    exact S1⟩ Qs
 ·refine Av (Aa (Aa (Af (Ab (As (Qm rfl (Qm rfl (Qm rfl (Qm rfl (A8 (pre:=[m0]) rfl call240 rfl (OW d0 v m0 hO0 a n (by omega) (by omega) (by omega) h g hg rfl rfl) rfl rfl rfl rfl (fun r h1 ms1 l1 hF=>?_)))))))))));obtain⟨rfl,m1,d1,rfl,hO1,P1,S1⟩:=hF;have PB:PermIn 0 n d d1:=permIn_trans _ _ _ _ _ P (permIn_mono d0 d1 a n 0 n (by omega) (by omega) (by omega) P1)
  have B1:BkC d1 20 n:=fun x hx=>by
   rcases Nat.lt_trichotomy x a with h1|rfl|h1
   ·have:=ET hx hda h1;exact EE (BI (hB x hx this) fun k h2 h3=>P1.2.1 k (.inl (by omega))) (by omega)
   ·exact EE S1 (by omega)
   ·have:=ET hda hx h1;exact IT (by omega)
  refine An (Ae ?_)
  refine Az (fun q s h' ms'=>∃(w:Nat) (d0:Array CeO) (m:Hp),q=n-w/\s=[(0,v),(1,.int .i64 n),(2,(PN g)),(6,.int .i64 w)]/\h=h'/\ms'=[m]/\1<=w/\w<=4000000/\OSC m v d0/\PermIn 0 n d d0/\BkC d0 w n)
   (n-20) _ ⟨20,d1,m1,rfl,rfl,rfl,rfl,by omega,by omega,hO1,PB,B1⟩ Qs ?_
  rintro q s h' ms' ⟨w,d2,m2,rfl,rfl,rfl,rfl,hw1,hw2,hO2,P2,B2⟩;have hd2:=P2.1;refine Ac (As (Qm rfl (Qm rfl (Qm rfl (An ?_)))));refine Au rfl (fun hlt=>?_) (fun hlt=>?_)
  ·refine Ah (Ab (Ae (As (Qm rfl (Qx (oM rfl) rfl (Qm rfl (Qm rfl (An (Ac (Ae ?_))))))))))
   refine Az (fun q s h' ms'=>∃(a:Nat) (z:Int) (d0:Array CeO) (m:Hp),q=n-a/\s=[(0,v),(1,.int .i64 n),(2,(PN g)),(6,.int .i64 w),(7,.int .i64 a),(8,.int .i64 z)]/\h=h'/\ms'=[m]/\z=a+2*w/\a<=n/\2*w∣a/\OSC m v d0/\PermIn 0 n d d0/\(∀x,2*w∣x->x+2*w<=a->SortedIn CE x (x+2*w) d0)/\∀x,w∣x->a<=x->SortedIn CE x (min (x+w) n) d0)
    (n-0) _ ⟨0,2*(w:Int),d2,m2,rfl,rfl,rfl,rfl,by omega,by omega,⟨0,rfl⟩,hO2,P2,fun x _ h=>by omega,fun x hx _=>B2 x hx⟩ Qs ?_
   rintro q s h' ms' ⟨a,z,d3,m3,rfl,rfl,rfl,rfl,rfl,han,hda,hO3,P3,hL,hR⟩;have hd3:=P3.1;have hwa:w∣a:=Nat.dvd_trans ⟨2,Nat.mul_comm 2 w⟩ hda;have hwa2:w∣a+w:=Nat.dvd_add hwa (Nat.dvd_refl w);have hwa3:2*w∣a+2*w:=Nat.dvd_add hda (Nat.dvd_refl _);have s1:=hR a hwa (Nat.le_refl _);have s2:=hR (a+w) hwa2 (by omega);refine Ac (As (Qm rfl (Qm rfl (Qm rfl (An ?_)))));refine Au rfl (fun hle2=>?_) (fun hle2=>?_)
   ·rw[show min (a+w) n=a+w by omega]at s1;rw[show min (a+w+w) n=a+2*w by omega]at s2;refine Ah (Ab (Ae (As (Qm rfl (Qm rfl (Qm rfl (Qm rfl (Qx (oA rfl) rfl (Qm rfl (Qm rfl (A8 (pre:=[m3]) rfl call277 rfl (Iw (2*w) d3 v m3 hO3 a (a+w) (a+2*w) (by omega) (by omega) (by omega) (by omega) (by omega) s1 s2 h g hg rfl (by omega) (by omega)) rfl rfl rfl rfl (fun r h1 ms1 l1 hF=>?_))))))))))));obtain⟨rfl,m4,d4,rfl,hO4,P4,S4⟩:=hF;refine Bv (Qm rfl (Qm rfl (Gh (Qm rfl (Qm rfl (Qx (oM rfl) rfl (Qx (oA rfl) rfl (Qm rfl (Aj (Ai ?_))))))))))
    exact Ak (n-(a+2*w)) _ (by omega) ⟨a+2*w,(a:Int)+2*w+2*w,d4,m4,rfl,rfl,rfl,rfl,by omega,by omega,hwa3,hO4,permIn_trans _ _ _ _ _ P3 (permIn_mono d3 d4 a (a+2*w) 0 n (by omega) (by omega) (by omega) P4),fun x hx hx2=>by
     rcases Nat.lt_or_ge x a with h1|h1
     ·have:=ET hx hda h1;exact BI (hL x hx this) fun k h2 h3=>P4.2.1 k (.inl (by omega))
     ·obtain rfl:x=a:=by omega
      exact S4,fun x hx hx2=>BI (hR x hx (by omega)) fun k h2 h3=>P4.2.1 k (.inr (by omega))⟩ Qs
   ·have fin:∀d4,PermIn a n d3 d4->SortedIn CE a n d4->PermIn 0 n d d4/\BkC d4 (w*2) n:=fun d4 P4 S4=>⟨permIn_trans _ _ _ _ _ P3 (permIn_mono d3 d4 a n 0 n (by omega) (by omega) (by omega) P4),fun x hx=>by
     rw[Nat.mul_comm]at hx ⊢;rcases Nat.lt_trichotomy x a with h1|rfl|h1
     ·have:=ET hx hda h1;exact EE (BI (hL x hx this) fun k h2 h3=>P4.2.1 k (.inl (by omega))) (by omega)
     ·exact EE S4 (by omega)
     ·have:=ET hda hx h1
      exact IT (by omega)⟩
    refine Av (Aa (Aa (Af (Ab (Ac (As (Qm rfl (Qm rfl (Qx (oA rfl) rfl (Qm rfl (Bv (Qm rfl (Qm rfl (Qm rfl (An ?_)))))))))))))));refine Au rfl (fun hm=>?_) (fun hm=>?_)
    ·rw[show min (a+w) n=a+w by omega]at s1;rw[show min (a+w+w) n=n by omega]at s2;refine Ad (Qm rfl (Qm rfl (Qm rfl (Qm rfl (Qm rfl (A8 (pre:=[m3]) rfl call277 rfl (Iw (2*w) d3 v m3 hO3 a (a+w) n (by omega) (by omega) (by omega) (by omega) (by omega) s1 s2 h g hg rfl (by omega) rfl) rfl rfl rfl rfl (fun r h1 ms1 l1 hF=>?_)))))));obtain⟨rfl,m4,d4,rfl,hO4,P4,S4⟩:=hF;have:=fin d4 P4 S4;refine Gh (Qm rfl (Qx (oM rfl) rfl (Qm rfl (Aj (Ai ?_)))));exact Ak (n-w*2) _ (by omega) ⟨w*2,d4,m4,rfl,rfl,rfl,rfl,by omega,by omega,hO4,this.1,this.2⟩ Qs
    ·rw[show min (a+w) n=n by omega]at s1;have:=fin d3 (permIn_refl d3 a n) s1;refine Ah (Ab (Ad (Qm rfl (Qx (oM rfl) rfl (Qm rfl (Aj (Ai ?_)))))));exact Ak (n-w*2) _ (by omega) ⟨w*2,d3,m3,rfl,rfl,rfl,rfl,by omega,by omega,hO3,this.1,this.2⟩ Qs
  ·refine Av (Aa (Aa (Af ?_)));exact BT rfl (⟨rfl,m2,d2,rfl,hO2,P2,by have:=B2 0 ⟨0,rfl⟩;rwa [show min (0+w) n=n by omega]at this⟩)
theorem Ly(d:Array CeO)(v:Value)(m:Hp)(hO:OSC m v d)(hsz:d.size<=1000000)(h:Hp)(g:Nat)(hg:Ud h g) :
  FnT Tryz.prog 195 #[v,(PN g)] h [m] (fun _ h' ms'=>h=h'/\∃m' d',ms'=[m']/\OSC m' v d'/\PermIn 0 d.size d d'/\SortedIn CE 0 d.size d'):=by
 refine Ao func195 ntmps195 rfl rfl (fun w0 hw0=>?_);simp only[AU];refine Ad (Qm rfl (Qm rfl (Qx (Ar (hO.rd (.head _)) rfl Bs rfl) rfl (Qm rfl (A8 (pre:=[m]) rfl call238 rfl (QK d v m hO hsz h g hg rfl) rfl rfl rfl rfl (fun r h1 ms1 l1 hF=>?_))))));obtain⟨rfl,m4,d4,rfl,hO4,P4,S4⟩:=hF;refine Aj ?_;exact BT rfl (⟨rfl,m4,d4,rfl,hO4,P4,S4⟩)
variable {m h:Hp} {v:Value} {d:Array Iy} {ms:List Hp}
abbrev OSD(m:Hp)(v:Value)(d:Array Iy):Prop:=OwnL cD 2 119 m v d.toList
theorem OSD.rd(O:OSD m v d)(hm:m∈ms):Rd h ms v 2 d.size (d.toList.flatMap cD):=by have:=(OwnL.rd O hm (h:=h)).rd;rwa [Array.length_toList]at this
theorem OSD.get(O:OSD m v d)(hm:m∈ms){j:Nat}(hj:j<d.size):Seg h ms ((AG v).add (j*2)) (cD d[j]!):=by have:=(OwnL.rd O hm (h:=h)).seg (j:=j) (by simpa using hj);simpa[hj] using this
theorem Dp{e:Entry}{Q:Exit->Act->World->Prop}{ops:Array Oper}{rest:List Oper}{o:Oper}{s:AB}{t:TypeId}{x y:Operand}{z:Value}{bytes:Nat}{a:Iy}(i j:Nat)(O:OSD m v d)(ho:o.op=.store t x y)(hs:Elem e.P t 2 z bytes)(hx:ev s x=some (.pointer (some ((AG v).add (j*2)))))(hy:ev s y=some (.agg (cD a).toArray))
  (hm:ms[i]?=some m) (hj:j<d.size) (hd:o.dst=none) (hg:o.guard=none)
  (K:∀m',(d.setIfInBounds j a).size=d.size->OSD m' v (d.setIfInBounds j a)->WL e ops Q rest s h (ms.set i m')):WL e ops Q (o::rest) s h ms:=
 GN i j a O ho hs hx hy rfl (DT a) hm (by simpa using hj) hd hg fun m' O'=>K m' (by simp) (by
  show OwnL cD 2 119 m' v (d.setIfInBounds j a).toList
  rw[Array.toList_setIfInBounds];exact O')
theorem FT(d:Array Iy)(v cv:Value)(m:Hp)(hO:OSD m v d)(a b n lo hi:Nat)(hab:a+n<=b)(hb:b+n<=d.size)(hsz:d.size<=1000000)(hlo:lo<=a)(hhi:b+n<=hi)(hhs:hi<=d.size)(h:Hp){a' b' n':Int}(ea:a'=a)(eb:b'=b)(en:n'=n) :
  FnT Tryz.prog 309 #[v,.int .i64 a',.int .i64 b',.int .i64 n',cv] h [m] (fun _ h' ms'=>h=h'/\∃m' d',ms'=[m']/\OSD m' v d'/\SwR d d' a b n/\PermIn lo hi d d'):=by
 subst ea eb en;refine Ao func309 ntmps309 rfl rfl (fun w0 hw0=>?_);simp only[AU];refine As (Qm rfl (An (Ae ?_)))
 refine Az (fun q s h' ms'=>∃(i:Nat) (d0:Array Iy) (m:Hp),q=n-i/\s=[(0,v),(1,.int .i64 a),(2,.int .i64 b),(3,.int .i64 n),(10,.int .i64 i)]/\h=h'/\ms'=[m]/\i<=n/\OSD m v d0/\SwR d d0 a b i/\PermIn lo hi d d0)
  (n-0) _ ⟨0,d,m,rfl,rfl,rfl,rfl,by omega,hO,SwR.start d a b,permIn_refl d lo hi⟩ Qs ?_
 rintro q s h' ms' ⟨i,d0,m0,rfl,rfl,rfl,rfl,hi2,hO0,S,P⟩;have hds:=S.1;refine Ac (As (Qm rfl (Qm rfl (Qm rfl (An ?_)))));refine Au rfl (fun hlt=>?_) (fun hlt=>?_)
 ·refine Ah (Ab (Ac (Ae (Dw 20 [false,false,false,false,true,true,true,true] CP (by kernel_rfl) (by kernel_rfl) (by kernel_rfl) (DZ rfl rfl rfl rfl (B8 rfl rfl) (DZ rfl rfl rfl rfl (B8 rfl rfl) (DZ rfl rfl rfl rfl (B8 rfl rfl) (DZ rfl rfl rfl rfl (M8 rfl rfl rfl (by omega)) ?_))))))));refine⟨rfl,?_⟩;simp only[Eh,zap,cons_append,nil_append,take_succ_cons,take_zero,drop_succ_cons,drop_zero,List.take_nil,List.drop_nil];refine Wm rfl (Wm rfl (Wm rfl (AP (oA rfl) rfl rfl (DU rfl rfl rfl (DU rfl rfl rfl (DU rfl rfl rfl (DU rfl rfl rfl (Wm rfl (Wm rfl (Wm rfl (AP (oA rfl) rfl rfl (AP (AC (b+i) (hO0.rd (.head _)) rfl BL AH rfl rfl (by omega) (by omega)) rfl rfl (AP (oG rfl DJ AH (hO0.get (.head _) (by omega))) rfl rfl (Wm rfl (Wm rfl (Wm rfl (AP (oA rfl) rfl rfl (AP (AC (a+i) (hO0.rd (.head _)) rfl BL AH rfl rfl (by omega) (by omega)) rfl rfl (AP (oG rfl DJ AH (hO0.get (.head _) (by omega))) rfl rfl (AZ (Qx (AC (a+i) (hO0.rd (.head _)) rfl BL AH rfl rfl (by omega) (by omega)) rfl (Dp 0 _ hO0 rfl AH rfl rfl rfl (by omega) rfl rfl (fun mhO1 hzhO1 hO1=>Qx (AC (b+i) (hO1.rd (.head _)) rfl BL AH rfl rfl (by omega) (by omega)) rfl (Dp 0 _ hO1 rfl AH rfl rfl rfl (by omega) rfl rfl (fun mhO2 hzhO2 hO2=>Aj (Hc (Ai (Ab (Ad (Qm rfl (Qx (oA rfl) rfl (Qm rfl (Aj ?_)))))))))))))))))))))))))))))))));refine Ak (n-(i+1)) _ (by omega) ⟨i+1,_,mhO2,rfl,rfl,rfl,rfl,by omega,hO2,S.step (by omega) (by omega),permIn_trans _ _ _ _ _ P (swp_permIn d0 lo hi (a+i) (b+i) (by omega) (by omega) (by omega) (by omega) (by omega))⟩ Qs
 ·obtain rfl:i=n:=by omega
  refine Av (Aa (Aa (Af ?_)));exact BT rfl (⟨rfl,m0,d0,rfl,hO0,S,P⟩)
theorem QT(d:Array Iy)(v cv:Value)(m:Hp)(hO:OSD m v d)(a t b lo hi:Nat)(hat:a<t)(htb:t<b)(hb:b<=d.size)(hsz:d.size<=1000000)(hlo:lo<=a)(hhi:b<=hi)(hhs:hi<=d.size)(h:Hp){a' t' b':Int}(ea:a'=a)(et:t'=t)(eb:b'=b) :
  FnT Tryz.prog 299 #[v,.int .i64 a',.int .i64 t',.int .i64 b',cv] h [m] (fun _ h' ms'=>h=h'/\∃m' d',ms'=[m']/\OSD m' v d'/\(∀k,d'[k]! = Fk d a t b k)/\PermIn lo hi d d'):=by
 subst ea et eb;refine Ao func299 ntmps299 rfl rfl (fun w0 hw0=>?_);simp only[AU];refine As (Qm rfl (Qm rfl (Qx (oS rfl) rfl (Qm rfl (Bv (Qm rfl (Qm rfl (Qx (oS rfl) rfl (Qm rfl (An (Ac (Ae ?_))))))))))))
 refine Az (fun q s h' ms'=>∃(i j:Nat) (x y:Int) (d0:Array Iy) (m:Hp),q=i+j/\s=[(0,v),(2,.int .i64 t),(4,cv),(10,.int .i64 x),(11,.int .i64 y)]/\h=h'/\ms'=[m]/\x=i/\y=j/\0<i/\0<j/\a+i<=t/\t+j<=b/\OSD m v d0/\(∀k,Fk d0 (t-i) t (t+j) k=Fk d a t b k)/\PermIn lo hi d d0)
  ((t-a)+(b-t)) _ ⟨t-a,b-t,(t:Int)-a,(b:Int)-t,d,m,rfl,rfl,rfl,rfl,by omega,by omega,by omega,by omega,by omega,by omega,hO,fun k=>by rw[show t-(t-a)=a by omega,show t+(b-t)=b by omega],permIn_refl d lo hi⟩ Qs ?_
 rintro q s h' ms' ⟨i,j,x,y,d0,m0,rfl,rfl,rfl,rfl,rfl,rfl,hi0,hj0,hai,hjb,hO0,hR,P⟩;have hds:=P.1;refine Ac (As (Qm rfl (Qm rfl (Qm rfl (An ?_)))));refine Au rfl (fun hne=>?_) (fun hne=>?_)
 ·refine Ah (Ab (Ae (As (Qm rfl (Qm rfl (Qm rfl (An ?_)))))));refine Au rfl (fun hgt=>?_) (fun hgt=>?_)
  ·refine Ac (Ad (Qm rfl (Qm rfl (Qm rfl (Qx (oS rfl) rfl (Qm rfl (Qm rfl (Qm rfl (A8 (pre:=[m0]) rfl call309 rfl (FT d0 v cv m0 hO0 (t-i) t j lo hi (by omega) (by omega) (by omega) (by omega) (by omega) (by omega) h (by omega) rfl rfl) rfl rfl rfl rfl (fun r h1 ms1 l1 hF=>?_))))))))));obtain⟨rfl,m1,d1,rfl,hO1,S,P1⟩:=hF;refine Gh (Qm rfl (Qm rfl (Qx (oS rfl) rfl (Qm rfl (Aj (Ai ?_))))));refine Ak ((i-j)+j) _ (by omega) ⟨i-j,j,(i:Int)-j,j,d1,m1,rfl,rfl,rfl,rfl,by omega,rfl,by omega,by omega,by omega,by omega,hO1,fun k=>(NZ (by omega) (by omega) S k).trans (hR k),permIn_trans _ _ _ _ _ P P1⟩ Qs
  ·refine Ac (Ad (Qm rfl (Qm rfl (Qm rfl (Qx (oS rfl) rfl (Qm rfl (Qm rfl (Qx (oA rfl) rfl (Qm rfl (Qx (oS rfl) rfl (Qm rfl (Qm rfl (A8 (pre:=[m0]) rfl call309 rfl (FT d0 v cv m0 hO0 (t-i) (t+j-i) i lo hi (by omega) (by omega) (by omega) (by omega) (by omega) (by omega) h (by omega) (by omega) rfl) rfl rfl rfl rfl (fun r h1 ms1 l1 hF=>?_))))))))))))));obtain⟨rfl,m1,d1,rfl,hO1,S,P1⟩:=hF;refine Gh (Qm rfl (Qm rfl (Qx (oS rfl) rfl (Qm rfl (Aj (Ai ?_))))));refine Ak (i+(j-i)) _ (by omega) ⟨i,j-i,i,(j:Int)-i,d1,m1,rfl,rfl,rfl,rfl,rfl,by omega,by omega,by omega,by omega,by omega,hO1,fun k=>(LR (by omega) (by omega) S k).trans (hR k),permIn_trans _ _ _ _ _ P P1⟩ Qs
 ·obtain rfl:i=j:=by omega
  refine Av (Aa (Aa (Af (Ab (Ad (Qm rfl (Qm rfl (Qm rfl (Qx (oS rfl) rfl (Qm rfl (Qm rfl (Qm rfl (A8 (pre:=[m0]) rfl call309 rfl (FT d0 v cv m0 hO0 (t-i) t i lo hi (by omega) (by omega) (by omega) (by omega) (by omega) (by omega) h (by omega) rfl rfl) rfl rfl rfl rfl (fun r h1 ms1 l1 hF=>?_))))))))))))));obtain⟨rfl,m1,d1,rfl,hO1,S,P1⟩:=hF;refine Aj ?_;exact BT rfl (⟨rfl,m1,d1,rfl,hO1,fun k=>(Ot (by omega) S k).trans (hR k),permIn_trans _ _ _ _ _ P P1⟩)
end Go.Proofs.Q

namespace Go.Proofs.Q
open Go.Proofs.Tryz
open Go.Eng Go.RowKit Go.Lin Go.Sort Go.Srt
theorem OZ(d:Array Iy)(v:Value)(m:Hp)(hO:OSD m v d)(a b:Nat)(hab:a<=b)(hb:b<=d.size)(hsz:d.size<=1000000)(h:Hp)(g:Nat)(hg:TC h g){a' b':Int}(ea:a'=a)(eb:b'=b) :
  FnT Tryz.prog 278 #[v,.int .i64 a',.int .i64 b',(PL g)] h [m] (fun _ h' ms'=>h=h'/\∃m' d',ms'=[m']/\OSD m' v d'/\PermIn a b d d'/\SortedIn CG a b d'):=by
 subst ea eb;have hfin:=insertionSort_holds (lt:=CG) IR d a b hab hb;refine Ao func278 ntmps278 rfl rfl (fun w0 hw0=>?_);simp only[AU];refine As (Qm rfl (Qx (oA rfl) rfl (Qm rfl (An (Ae ?_)))))
 refine Az (fun n s h' ms'=>∃(i:Nat) (z:Int) (d':Array Iy) (m:Hp),n=b-i/\s=[(0,v),(1,.int .i64 a),(2,.int .i64 b),(3,(PL g)),(8,.int .i64 z)]/\h=h'/\ms'=[m]/\z=i/\a<i/\i<=4611686018427387905/\OSD m v d'/\d'.size=d.size/\insOuter CG a b i d'=insertionSort CG d a b)
  _ _ ⟨a+1,(a:Int)+1,d,m,rfl,rfl,rfl,rfl,by omega,by omega,by omega,hO,rfl,rfl⟩ Qs ?_
 rintro n s h' ms' ⟨i,z,d',m,rfl,rfl,rfl,rfl,hz,hai,hi,hO,hds,hR⟩;refine Ac (As (Qm rfl (Qm rfl (Qm rfl (An ?_)))));refine Au rfl (fun hlt=>?_) (fun hlt=>?_)
 ·refine Ah (Ab (Ac (Ae (As (Qm rfl (Qm rfl (An (Ae ?_))))))))
  refine Az (fun n s h' ms'=>∃(j:Nat) (y:Int) (d':Array Iy) (m:Hp),j=n/\s=[(0,v),(1,.int .i64 a),(2,.int .i64 b),(3,(PL g)),(8,.int .i64 z),(9,.int .i64 y)]/\h=h'/\ms'=[m]/\y=j/\j<=i/\OSD m v d'/\d'.size=d.size/\insOuter CG a b (i+1) (insInner CG a j d')=insertionSort CG d a b)
   _ _ ⟨i,z,d',m,rfl,rfl,rfl,rfl,hz,by omega,hO,hds,by rw[<-hR];conv=>rhs;unfold insOuter;rw[if_pos (by omega)]⟩ Qs ?_
  rintro n s h' ms' ⟨j,y,d1,m1,rfl,rfl,rfl,rfl,hy,hji,hO1,hds1,hR1⟩;refine Ac (Ac (Bc 14 CP (by kernel_rfl) rfl (Wm rfl (Wm rfl (Wm rfl (Wm rfl ?_))))));refine Ct (t:=21) rfl (fun hja=>?_) (fun hja=>?_)
  ·refine AL (Ay rfl rfl) rfl rfl rfl rfl (AL (Ay rfl rfl) rfl rfl rfl rfl (AL (Ay rfl rfl) rfl rfl rfl rfl (AL (AC (j) (hO1.rd (.head _)) rfl BL AH rfl rfl (by omega) (by omega)) rfl rfl rfl rfl (AL (oG rfl DJ AH (hO1.get (.head _) (by omega))) rfl rfl rfl rfl (AL (Ay rfl rfl) rfl rfl rfl rfl (AL (Ay rfl rfl) rfl rfl rfl rfl (AL (oS rfl) rfl rfl rfl rfl (AL (AC (j-1) (hO1.rd (.head _)) rfl BL AH rfl rfl (by omega) (by omega)) rfl rfl rfl rfl (AL (oG rfl DJ AH (hO1.get (.head _) (by omega))) rfl rfl rfl rfl (AZ (Qg (BX rfl rfl call199 rfl (NH _ _ _ g hg _)) rfl (Qg (Dv rfl rfl rfl) rfl (Qm rfl (An ?_))))))))))))));refine Bq rfl (fun hl=>?_) (fun hl=>?_)
   ·refine Ah (Ab (Ac (Ae (Dw 14 [false,false,true,true,true] CP (by kernel_rfl) (by kernel_rfl) (by kernel_rfl) (DZ rfl rfl rfl rfl (B8 rfl rfl) (DZ rfl rfl rfl rfl (B8 rfl rfl) (DZ rfl rfl rfl rfl (Nh rfl rfl rfl (by omega)) ?_)))))));refine⟨rfl,?_⟩;simp only[Eh,zap,cons_append,nil_append,take_succ_cons,take_zero,drop_succ_cons,drop_zero,List.take_nil,List.drop_nil];refine Wm rfl (Wm rfl (DU rfl rfl rfl (DU rfl rfl rfl (DU rfl rfl rfl (Wm rfl (Wm rfl (AP (oS rfl) rfl rfl (AP (AC (j-1) (hO1.rd (.head _)) rfl BL AH rfl rfl (by omega) (by omega)) rfl rfl (AP (oG rfl DJ AH (hO1.get (.head _) (by omega))) rfl rfl (Wm rfl (Wm rfl (AP (AC (j) (hO1.rd (.head _)) rfl BL AH rfl rfl (by omega) (by omega)) rfl rfl (AP (oG rfl DJ AH (hO1.get (.head _) (by omega))) rfl rfl (AZ (Qx (AC (j) (hO1.rd (.head _)) rfl BL AH rfl rfl (by omega) (by omega)) rfl (Dp 0 _ hO1 rfl AH rfl rfl rfl (by omega) rfl rfl (fun mhO2 hzhO2 hO2=>Qx (AC (j-1) (hO2.rd (.head _)) rfl BL AH rfl rfl (by omega) (by omega)) rfl (Dp 0 _ hO2 rfl AH rfl rfl rfl (by omega) rfl rfl (fun mhO3 hzhO3 hO3=>Aj (Hc (Ai (Ab (Ad (Qm rfl (Qx (oS rfl) rfl (Qm rfl (Aj ?_)))))))))))))))))))))))))));obtain⟨j',rfl⟩:∃j',j=j'+1:=⟨j-1,by omega⟩
    refine Ak j' _ (by omega) ⟨j',y-1,_,mhO3,rfl,rfl,rfl,rfl,by omega,by omega,hO3,by simp[hds1],?_⟩ Qs;rw[<-hR1]
    conv=>rhs;unfold insInner
    rw[if_pos (by rw[Bool.and_eq_true];exact⟨decide_eq_true (by omega),hl⟩)];rfl
   ·refine Av (Aa (Aa (Af (Ai (Ab (Ad (Qm rfl (Qx (oA rfl) rfl (Qm rfl (Aj ?_))))))))));refine Ak (b-(i+1)) _ (by omega) ⟨i+1,z+1,d1,m1,rfl,rfl,rfl,rfl,by omega,by omega,by omega,hO1,hds1,?_⟩ Qs;rw[<-hR1];obtain⟨j',rfl⟩:∃j',j=j'+1:=⟨j-1,by omega⟩
    conv=>rhs;unfold insInner
    rw[if_neg (by rw[Bool.and_eq_true];rintro⟨_,h2⟩;exact absurd (hl.symm.trans h2) (by decide))]
  ·refine Ax rfl rfl rfl rfl rfl (Ax rfl rfl rfl rfl rfl (Ax rfl rfl rfl rfl rfl (Ax rfl rfl rfl rfl rfl (Ax rfl rfl rfl rfl rfl (Ax rfl rfl rfl rfl rfl (Ax rfl rfl rfl rfl rfl (Ax rfl rfl rfl rfl rfl (Ax rfl rfl rfl rfl rfl (Ax rfl rfl rfl rfl rfl (AZ (Qk rfl (Qk rfl (Qm rfl (An (AQ rfl (Av (Aa (Aa (Af (Ai (Ab (Ad (Qm rfl (Qx (oA rfl) rfl (Qm rfl (Aj ?_))))))))))))))))))))))))));refine Ak (b-(i+1)) _ (by omega) ⟨i+1,z+1,d1,m1,rfl,rfl,rfl,rfl,by omega,by omega,by omega,hO1,hds1,?_⟩ Qs;rw[<-hR1];cases j with
   | zero=>rfl
   | succ j'=>
    conv=>rhs;unfold insInner
    rw[if_neg (by simp;intro h';omega)]
 ·refine Av (Aa (Aa (Af ?_)));exact BT rfl (⟨rfl,m,insertionSort CG d a b,rfl,by rw[<-hR];unfold insOuter;rw[if_neg (by omega)];exact hO,hfin.1,hfin.2⟩)
theorem Jb:∀(N:Nat) (d:Array Iy) (v:Value) (m:Hp) (hO:OSD m v d) (a t b:Nat) (hN:b-a<=N) (hat:a<t) (htb:t<b) (hb:b<=d.size) (hsz:d.size<=1000000) (hA:SortedIn CG a t d) (hB:SortedIn CG t b d) (h:Hp) (g:Nat) (hg:TC h g) {a' t' b':Int} (ea:a'=a) (et:t'=t) (eb:b'=b),
  FnT Tryz.prog 279 #[v,.int .i64 a',.int .i64 t',.int .i64 b',(PL g)] h [m] (fun _ h' ms'=>h=h'/\∃m' d',ms'=[m']/\OSD m' v d'/\PermIn a b d d'/\SortedIn CG a b d'):=by
 intro N
 induction N with
 | zero=>intro d v m hO a t b hN hat htb;omega
 | succ N ih=>
 intro d v m hO a t b hN hat htb hb hsz hA hB h g hg a' t' b' ea et eb;subst ea et eb;refine Ao func279 ntmps279 rfl rfl (fun w0 hw0=>?_);simp only[AU];refine Ac (As (Qm rfl (Qm rfl (Qx (oS rfl) rfl (Qm rfl (An ?_))))));refine Au rfl (fun h1=>?_) (fun h1=>?_)
 ·-- one element on the left
  obtain rfl:t=a+1:=by omega
  refine As (Qm rfl (Qm rfl (Bv (Qm rfl (Qm rfl (An (Ac (Ae ?_))))))))
  refine Az (fun n s h' ms'=>∃(i j:Nat),n=j-i/\s=[(0,v),(1,.int .i64 a),(4,(PL g)),(10,.int .i64 i),(11,.int .i64 j)]/\h=h'/\ms'=[m]/\a+1<=i/\i<=j/\j<=b/\(i=a+1\/CG d[i-1]! d[a]! = true)/\(j=b\/CG d[j]! d[a]! = false))
   (b-(a+1)) _ ⟨a+1,b,rfl,rfl,rfl,rfl,by omega,by omega,by omega,.inl rfl,.inl rfl⟩ Qs ?_
  rintro n s h' ms' ⟨i,j,rfl,rfl,rfl,rfl,hi,hij,hj,c1,c2⟩;refine Ac (As (Qm rfl (Qm rfl (Qm rfl (An ?_)))));refine Au rfl (fun hlt=>?_) (fun hlt=>?_)
  ·refine Ah (Ab (Ae (As (Qm rfl (Qm rfl (Qx (oA rfl) rfl (Qx (Cf rfl U3 GJ rfl) rfl (Qx (DP (n:=1) rfl rfl rfl (by omega)) rfl (Qx (Cf rfl GJ U3 rfl) rfl (Qm rfl (An ?_)))))))))));rw[Ha i j (by omega)];refine Ac (Bc 9 CP (by kernel_rfl) rfl (Wm rfl (Wm rfl (Wm rfl (AP (AC ((i+j)/2) (hO.rd (.head _)) rfl BL AH rfl rfl (by omega) (by omega)) rfl rfl (AP (oG rfl DJ AH (hO.get (.head _) (by omega))) rfl rfl (Wm rfl (Wm rfl (AP (AC (a) (hO.rd (.head _)) rfl BL AH rfl rfl (by omega) (by omega)) rfl rfl (AP (oG rfl DJ AH (hO.get (.head _) (by omega))) rfl rfl (AZ (Qx (BX rfl rfl call199 rfl (NH _ _ _ g hg _)) rfl (Qm rfl (An ?_))))))))))))));refine Bq rfl (fun hl=>?_) (fun hl=>?_)
   ·refine Ad (Qm rfl (Qx (oA rfl) rfl (Qm rfl (Aj (Ai ?_)))));exact Ak (j-((i+j)/2+1)) _ (by omega) ⟨(i+j)/2+1,j,rfl,rfl,rfl,rfl,by omega,by omega,by omega,.inr (by rw[Nat.add_sub_cancel];exact hl),c2⟩ Qs
   ·refine Ad (Qm rfl (Qm rfl (Aj (Ai ?_))));exact Ak ((i+j)/2-i) _ (by omega) ⟨i,(i+j)/2,rfl,rfl,rfl,rfl,by omega,by omega,by omega,c1,.inr hl⟩ Qs
  ·obtain rfl:i=j:=by omega
   refine Av (Aa (Aa (Af (Ab (Ac (As (Qm rfl (Qm rfl (An (Ae ?_))))))))))
   refine Az (fun n s h' ms'=>∃(k:Nat) (d0:Array Iy) (m:Hp),n=i-1-k/\s=[(0,v),(10,.int .i64 i),(13,.int .i64 k)]/\h=h'/\ms'=[m]/\a<=k/\k<=i-1/\OSD m v d0/\InsR d d0 a k/\PermIn a b d d0)
    (i-1-a) _ ⟨a,d,m,rfl,rfl,rfl,rfl,by omega,by omega,hO,InsR.start d a,permIn_refl d a b⟩ Qs ?_
   rintro n s h' ms' ⟨k,d0,m0,rfl,rfl,rfl,rfl,hak,hki,hO0,R,P⟩;have hds:=R.1;refine Ac (As (Qm rfl (Qm rfl (Qx (oS rfl) rfl (Qm rfl (An ?_))))));refine Au rfl (fun hltk=>?_) (fun hltk=>?_)
   ·refine Ah (Ab (Ac (Ae (Dw 14 [false,false,true,true,true] CP (by kernel_rfl) (by kernel_rfl) (by kernel_rfl) (DZ rfl rfl rfl rfl (B8 rfl rfl) (DZ rfl rfl rfl rfl (B8 rfl rfl) (DZ rfl rfl rfl rfl (M8 rfl rfl rfl (by omega)) ?_)))))));refine⟨rfl,?_⟩;simp only[Eh,zap,cons_append,nil_append,take_succ_cons,take_zero,drop_succ_cons,drop_zero,List.take_nil,List.drop_nil];refine Wm rfl (Wm rfl (DU rfl rfl rfl (DU rfl rfl rfl (DU rfl rfl rfl (Wm rfl (Wm rfl (AP (oA rfl) rfl rfl (AP (AC (k+1) (hO0.rd (.head _)) rfl BL AH rfl rfl (by omega) (by omega)) rfl rfl (AP (oG rfl DJ AH (hO0.get (.head _) (by omega))) rfl rfl (Wm rfl (Wm rfl (AP (AC (k) (hO0.rd (.head _)) rfl BL AH rfl rfl (by omega) (by omega)) rfl rfl (AP (oG rfl DJ AH (hO0.get (.head _) (by omega))) rfl rfl (AZ (Qx (AC (k) (hO0.rd (.head _)) rfl BL AH rfl rfl (by omega) (by omega)) rfl (Dp 0 _ hO0 rfl AH rfl rfl rfl (by omega) rfl rfl (fun mhO1 hzhO1 hO1=>Qx (AC (k+1) (hO1.rd (.head _)) rfl BL AH rfl rfl (by omega) (by omega)) rfl (Dp 0 _ hO1 rfl AH rfl rfl rfl (by omega) rfl rfl (fun mhO2 hzhO2 hO2=>Aj (Hc (Ai (Ab (Ad (Qm rfl (Qx (oA rfl) rfl (Qm rfl (Aj ?_)))))))))))))))))))))))))));exact Ak (i-1-(k+1)) _ (by omega) ⟨k+1,_,mhO2,rfl,rfl,rfl,rfl,by omega,by omega,hO2,R.step hak (by omega),permIn_trans _ _ _ _ _ P (swp_permIn d0 a b k (k+1) (by omega) (by omega) (by omega) (by omega) (by omega))⟩ Qs
   ·obtain rfl:k=i-1:=by omega
    refine Av (Aa (Aa (Af (Ab (Am (Ag ?_))))));exact ED rfl (⟨rfl,m0,d0,rfl,hO0,P,K5 IR hB ⟨hi,hj⟩ c1 c2 R⟩)
 ·refine Ah (Ab (Ac (As (Qm rfl (Qm rfl (Qx (oS rfl) rfl (Qm rfl (An ?_))))))));refine Au rfl (fun h2=>?_) (fun h2=>?_)
  ·-- one element on the right
   obtain rfl:b=t+1:=by omega
   refine As (Qm rfl (Qm rfl (Bv (Qm rfl (Qm rfl (An (Ac (Ae ?_))))))))
   refine Az (fun n s h' ms'=>∃(i j:Nat),n=j-i/\s=[(0,v),(1,.int .i64 a),(2,.int .i64 t),(4,(PL g)),(14,.int .i64 i),(15,.int .i64 j)]/\h=h'/\ms'=[m]/\a<=i/\i<=j/\j<=t/\(i=a\/CG d[t]! d[i-1]! = false)/\(j=t\/CG d[t]! d[j]! = true))
    (t-a) _ ⟨a,t,rfl,rfl,rfl,rfl,by omega,by omega,by omega,.inl rfl,.inl rfl⟩ Qs ?_
   rintro n s h' ms' ⟨i,j,rfl,rfl,rfl,rfl,hi,hij,hj,c1,c2⟩;refine Ac (As (Qm rfl (Qm rfl (Qm rfl (An ?_)))));refine Au rfl (fun hlt=>?_) (fun hlt=>?_)
   ·refine Ah (Ab (Ae (As (Qm rfl (Qm rfl (Qx (oA rfl) rfl (Qx (Cf rfl U3 GJ rfl) rfl (Qx (DP (n:=1) rfl rfl rfl (by omega)) rfl (Qx (Cf rfl GJ U3 rfl) rfl (Qm rfl (An ?_)))))))))));rw[Ha i j (by omega)];refine Ac (Bc 9 CP (by kernel_rfl) rfl (Wm rfl (Wm rfl (Wm rfl (AP (AC (t) (hO.rd (.head _)) rfl BL AH rfl rfl (by omega) (by omega)) rfl rfl (AP (oG rfl DJ AH (hO.get (.head _) (by omega))) rfl rfl (Wm rfl (Wm rfl (AP (AC ((i+j)/2) (hO.rd (.head _)) rfl BL AH rfl rfl (by omega) (by omega)) rfl rfl (AP (oG rfl DJ AH (hO.get (.head _) (by omega))) rfl rfl (AZ (Qx (BX rfl rfl call199 rfl (NH _ _ _ g hg _)) rfl (Qm rfl (Qm rfl (An ?_)))))))))))))));refine Bq rfl (fun hl=>?_) (fun hl=>?_)
    ·have hl:CG d[t]! d[(i+j)/2]! = false:=by unfold CG;simpa using hl
     refine Ad (Qm rfl (Qx (oA rfl) rfl (Qm rfl (Aj (Ai ?_)))));exact Ak (j-((i+j)/2+1)) _ (by omega) ⟨(i+j)/2+1,j,rfl,rfl,rfl,rfl,by omega,by omega,by omega,.inr (by rw[Nat.add_sub_cancel];exact hl),c2⟩ Qs
    ·have hl:CG d[t]! d[(i+j)/2]! = true:=by unfold CG;simpa using hl
     refine Ad (Qm rfl (Qm rfl (Aj (Ai ?_))));exact Ak ((i+j)/2-i) _ (by omega) ⟨i,(i+j)/2,rfl,rfl,rfl,rfl,by omega,by omega,by omega,c1,.inr hl⟩ Qs
   ·obtain rfl:i=j:=by omega
    refine Av (Aa (Aa (Af (Ab (Ac (As (Qm rfl (Qm rfl (An (Ae ?_))))))))))
    refine Az (fun n s h' ms'=>∃(k:Nat) (d0:Array Iy) (m:Hp),n=k-i/\s=[(0,v),(14,.int .i64 i),(17,.int .i64 k)]/\h=h'/\ms'=[m]/\i<=k/\k<=t/\OSD m v d0/\ShR d d0 t k/\PermIn a (t+1) d d0)
     (t-i) _ ⟨t,d,m,rfl,rfl,rfl,rfl,by omega,by omega,hO,ShR.start d t,permIn_refl d a (t+1)⟩ Qs ?_
    rintro n s h' ms' ⟨k,d0,m0,rfl,rfl,rfl,rfl,hik,hkt,hO0,R,P⟩;have hds:=R.1;refine Ac (As (Qm rfl (Qm rfl (Qm rfl (An ?_)))));refine Au rfl (fun hltk=>?_) (fun hltk=>?_)
    ·have st:ShR d (Go.Sort.swp d0 k (k-1)) t (k-1):=by
      obtain⟨k',rfl⟩:∃k',k=k'+1:=⟨k-1,by omega⟩
      exact R.step (by omega) (by omega)
     have e:(k:Int)-1=((k-1:Nat):Int):=by omega
     refine Ah (Ab (Ac (Ae (Dw 14 [false,false,true,true,true] CP (by kernel_rfl) (by kernel_rfl) (by kernel_rfl) (DZ rfl rfl rfl rfl (B8 rfl rfl) (DZ rfl rfl rfl rfl (B8 rfl rfl) (DZ rfl rfl rfl rfl (Nh rfl rfl rfl (by omega)) ?_)))))));refine⟨rfl,?_⟩;simp only[Eh,zap,cons_append,nil_append,take_succ_cons,take_zero,drop_succ_cons,drop_zero,List.take_nil,List.drop_nil];refine Wm rfl (Wm rfl (DU rfl rfl rfl (DU rfl rfl rfl (DU rfl rfl rfl (Wm rfl (Wm rfl (AP (oS rfl) rfl rfl (AP (AC (k-1) (hO0.rd (.head _)) rfl BL AH rfl rfl (by omega) (by omega)) rfl rfl (AP (oG rfl DJ AH (hO0.get (.head _) (by omega))) rfl rfl (Wm rfl (Wm rfl (AP (AC (k) (hO0.rd (.head _)) rfl BL AH rfl rfl (by omega) (by omega)) rfl rfl (AP (oG rfl DJ AH (hO0.get (.head _) (by omega))) rfl rfl (AZ (Qx (AC (k) (hO0.rd (.head _)) rfl BL AH rfl rfl (by omega) (by omega)) rfl (Dp 0 _ hO0 rfl AH rfl rfl rfl (by omega) rfl rfl (fun mhO1 hzhO1 hO1=>Qx (AC (k-1) (hO1.rd (.head _)) rfl BL AH rfl rfl (by omega) (by omega)) rfl (Dp 0 _ hO1 rfl AH rfl rfl rfl (by omega) rfl rfl (fun mhO2 hzhO2 hO2=>Aj (Hc (Ai (Ab (Ad (Qm rfl (Qx (oS rfl) rfl (Qm rfl (Aj ?_)))))))))))))))))))))))))));rw[e];exact Ak (k-1-i) _ (by omega) ⟨k-1,_,mhO2,rfl,rfl,rfl,rfl,by omega,by omega,hO2,st,permIn_trans _ _ _ _ _ P (swp_permIn d0 a (t+1) k (k-1) (by omega) (by omega) (by omega) (by omega) (by omega))⟩ Qs
    ·obtain rfl:k=i:=by omega
     refine Av (Aa (Aa (Af (Ab (Am (Ag ?_))))));exact ED rfl (⟨rfl,m0,d0,rfl,hO0,P,Mz IR hA ⟨hi,hj⟩ c1 c2 R⟩)
  ·refine Ah (Ab (As (Qm rfl (Qm rfl (Qx (oA rfl) rfl (Qx (Cf rfl U3 GJ rfl) rfl (Qx (DP (n:=1) rfl rfl rfl (by omega)) rfl (Qx (Cf rfl GJ U3 rfl) rfl (Qm rfl (An ?_))))))))));rw[Ha a b (by omega)];obtain⟨mid,hmid⟩:∃mid,mid=(a+b)/2:=⟨_,rfl⟩
   rw[<-hmid];refine As (Qm rfl (Qm rfl (Qx (oA rfl) rfl (Qm rfl (Bv (Qm rfl (Qm rfl (An ?_))))))));refine A3 (fun s h' ms'=>∃(s0 r0:Nat),s=[(0,v),(1,.int .i64 a),(2,.int .i64 t),(3,.int .i64 b),(4,(PL g)),(18,.int .i64 mid),(19,.int .i64 ((mid:Int)+t)),(20,.int .i64 s0),(21,.int .i64 r0)]/\h=h'/\ms'=[m]/\((mid<t/\s0+b=mid+t/\r0=mid)\/(t<=mid/\s0=a/\r0=t))) ?_ (fun s h ms hI=>?_)
   ·refine Ac (Ad (Qm rfl (Qm rfl (Qm rfl (An ?_)))));refine Au rfl (fun hgt=>?_) (fun hgt=>?_)
    ·refine Ac (Ad (Qm rfl (Qm rfl (Qx (oS rfl) rfl (Qm rfl (Gh (Qm rfl (Qm rfl (Aj ?_)))))))));have e:(mid:Int)+t-b=((mid+t-b:Nat):Int):=by omega
     rw[e];exact AA _ ⟨mid+t-b,mid,rfl,rfl,rfl,.inl ⟨by omega,by omega,rfl⟩⟩ Qs
    ·refine Ac (Ad (Qm rfl (Qm rfl (Gh (Qm rfl (Qm rfl (Aj ?_)))))));exact AA _ ⟨a,t,rfl,rfl,rfl,.inr ⟨by omega,rfl,rfl⟩⟩ Qs
   ·obtain⟨s0,r0,rfl,rfl,rfl,hc⟩:=hI;refine As (Qm rfl (Qx (oS rfl) rfl (Qm rfl (An (Ac (Ae ?_))))))
    refine Az (fun n s h' ms'=>∃(i j:Nat),n=j-i/\s=[(0,v),(1,.int .i64 a),(2,.int .i64 t),(3,.int .i64 b),(4,(PL g)),(18,.int .i64 mid),(19,.int .i64 ((mid:Int)+t)),(20,.int .i64 i),(21,.int .i64 j),(22,.int .i64 ((mid:Int)+t-1))]/\h=h'/\ms'=[m]/\s0<=i/\i<=j/\j<=r0/\(i=s0\/CG d[mid+t-i]! d[i-1]! = false)/\(j=r0\/CG d[mid+t-1-j]! d[j]! = true))
     (r0-s0) _ ⟨s0,r0,rfl,rfl,rfl,rfl,by omega,by omega,by omega,.inl rfl,.inl rfl⟩ Qs ?_
    rintro n s h' ms' ⟨i,j,rfl,rfl,rfl,rfl,hi,hij,hj,c1,c2⟩;refine Ac (As (Qm rfl (Qm rfl (Qm rfl (An ?_)))));refine Au rfl (fun hlt=>?_) (fun hlt=>?_)
    ·refine Ah (Ab (Ae (As (Qm rfl (Qm rfl (Qx (oA rfl) rfl (Qx (Cf rfl U3 GJ rfl) rfl (Qx (DP (n:=1) rfl rfl rfl (by omega)) rfl (Qx (Cf rfl GJ U3 rfl) rfl (Qm rfl (An ?_)))))))))));rw[Ha i j (by omega)];refine Ac (Bc 11 CP (by kernel_rfl) rfl (Wm rfl (Wm rfl (Wm rfl (Wm rfl (AP (oS rfl) rfl rfl (AP (AC (mid+t-1-(i+j)/2) (hO.rd (.head _)) rfl BL AH rfl rfl (by omega) (by omega)) rfl rfl (AP (oG rfl DJ AH (hO.get (.head _) (by omega))) rfl rfl (Wm rfl (Wm rfl (AP (AC ((i+j)/2) (hO.rd (.head _)) rfl BL AH rfl rfl (by omega) (by omega)) rfl rfl (AP (oG rfl DJ AH (hO.get (.head _) (by omega))) rfl rfl (AZ (Qx (BX rfl rfl call199 rfl (NH _ _ _ g hg _)) rfl (Qm rfl (Qm rfl (An ?_)))))))))))))))));refine Bq rfl (fun hl=>?_) (fun hl=>?_)
     ·have hl:CG d[mid+t-1-(i+j)/2]! d[(i+j)/2]! = false:=by unfold CG;simpa using hl
      refine Ad (Qm rfl (Qx (oA rfl) rfl (Qm rfl (Aj (Ai ?_)))));exact Ak (j-((i+j)/2+1)) _ (by omega) ⟨(i+j)/2+1,j,rfl,rfl,rfl,rfl,by omega,by omega,by omega,.inr (by rw[Nat.add_sub_cancel,show mid+t-((i+j)/2+1)=mid+t-1-(i+j)/2 by omega];exact hl),c2⟩ Qs
     ·have hl:CG d[mid+t-1-(i+j)/2]! d[(i+j)/2]! = true:=by unfold CG;simpa using hl
      refine Ad (Qm rfl (Qm rfl (Aj (Ai ?_))));exact Ak ((i+j)/2-i) _ (by omega) ⟨i,(i+j)/2,rfl,rfl,rfl,rfl,by omega,by omega,by omega,c1,.inr hl⟩ Qs
    ·obtain rfl:i=j:=by omega
     obtain⟨e,he⟩:∃e,e=mid+t-i:=⟨_,rfl⟩
     have he2:(mid:Int)+t-i=(e:Int):=by omega
     refine Av (Aa (Aa (Af (Ab (As (Qm rfl (Qm rfl (Qx (oS rfl) rfl (Qm rfl (An ?_))))))))));rw[he2]
     have k1:i=a\/e=b\/CG d[e]! d[i-1]! = false:=by
      rcases c1 with c|c
      ·rcases hc with hc|hc
       ·right;left;omega
       ·left;omega
      ·right;right;rw[he];exact c
     have k2:i=t\/e=t\/CG d[e-1]! d[i]! = true:=by
      rcases c2 with c|c
      ·rcases hc with hc|hc
       ·right;left;omega
       ·left;omega
      ·right;right;rw[show e-1=mid+t-1-i by omega];exact c
     have hgeo:a<=i/\i<=t/\i<=mid/\t<=e/\e<=b:=by rcases hc with hc|hc<;>omega
     have hs2:i+e=mid+t:=by omega
     refine A3 (fun s h' ms'=>∃(d1:Array Iy) (m1:Hp),s=[(0,v),(1,.int .i64 a),(3,.int .i64 b),(4,(PL g)),(18,.int .i64 mid),(20,.int .i64 i),(24,.int .i64 e)]/\h=h'/\ms'=[m1]/\OSD m1 v d1/\(∀k,d1[k]! = Fk d i t e k)/\PermIn a b d d1) ?_ (fun s h ms hI=>?_)
     ·refine Ac (Ad (Qm rfl (Qm rfl (Qm rfl (Qm rfl ?_)))));refine AO (t:=181) rfl (fun q1=>?_) (fun q1=>?_)
      ·refine Qg (Ay rfl rfl) rfl (Qg (Ay rfl rfl) rfl (Qg (Dv rfl rfl rfl) rfl (Qm rfl (An ?_))));refine Au rfl (fun q2=>?_) (fun q2=>?_)
       ·refine Ad (Qm rfl (Qm rfl (Qm rfl (Qm rfl (Qm rfl (A8 (pre:=[m]) rfl call299 rfl (QT d v (PL g) m hO i t e a b (by omega) (by omega) (by omega) (by omega) (by omega) (by omega) (by omega) h rfl rfl rfl) rfl rfl rfl rfl (fun r h1 ms1 l1 hF=>?_)))))));obtain⟨rfl,m1,d1,rfl,hO1,hr,P⟩:=hF;refine Aj ?_;exact AA _ ⟨d1,m1,rfl,rfl,rfl,hO1,hr,P⟩ Qs
       ·refine Ah ?_;exact AA _ ⟨d,m,rfl,rfl,rfl,hO,fun k=>(Hw (by omega) k).symm,permIn_refl d a b⟩ Qs
      ·refine Qk rfl (Qk rfl (Qk rfl (Qm rfl (An (AQ rfl (Ah ?_))))));exact AA _ ⟨d,m,rfl,rfl,rfl,hO,fun k=>(Hw (by omega) k).symm,permIn_refl d a b⟩ Qs
     ·obtain⟨d1,m1,rfl,rfl,rfl,hO1,hr,P⟩:=hI;have C:=Xd IR hA hB hgeo hs2 hr k1 k2;have hd1:=P.1;refine A3 (fun s h' ms'=>∃(d2:Array Iy) (m2:Hp),s=[(0,v),(3,.int .i64 b),(4,(PL g)),(18,.int .i64 mid),(24,.int .i64 e)]/\h=h'/\ms'=[m2]/\OSD m2 v d2/\PermIn a mid d1 d2/\SortedIn CG a mid d2) ?_ (fun s h ms hI=>?_)
      ·refine Ac (Ad (Qm rfl (Qm rfl (Qm rfl (Qm rfl ?_)))));refine AO (t:=195) rfl (fun q1=>?_) (fun q1=>?_)
       ·refine Qg (Ay rfl rfl) rfl (Qg (Ay rfl rfl) rfl (Qg (Dv rfl rfl rfl) rfl (Qm rfl (An ?_))));refine Au rfl (fun q2=>?_) (fun q2=>?_)
        ·refine Ad (Qm rfl (Qm rfl (Qm rfl (Qm rfl (Qm rfl (A8 (pre:=[m1]) rfl call279 rfl (ih d1 v m1 hO1 a i mid (by omega) (by omega) (by omega) (by omega) (by omega) C.lo C.lo2 h g hg rfl rfl rfl) rfl rfl rfl rfl (fun r h1 ms1 l1 hF=>?_)))))));obtain⟨rfl,m2,d2,rfl,hO2,P2,S2⟩:=hF;refine Aj ?_;exact AA _ ⟨d2,m2,rfl,rfl,rfl,hO2,P2,S2⟩ Qs
        ·obtain rfl:i=mid:=by omega
         refine Ah ?_;exact AA _ ⟨d1,m1,rfl,rfl,rfl,hO1,permIn_refl d1 a _,C.lo⟩ Qs
       ·obtain rfl:i=a:=by omega
        refine Qk rfl (Qk rfl (Qk rfl (Qm rfl (An (AQ rfl (Ah ?_))))));exact AA _ ⟨d1,m1,rfl,rfl,rfl,hO1,permIn_refl d1 _ _,C.lo2⟩ Qs
      ·obtain⟨d2,m2,rfl,rfl,rfl,hO2,P2,S2⟩:=hI;have hd2:=P2.1;have f1:SortedIn CG mid e d2:=BI C.hi fun k h1 h2=>P2.2.1 k (.inr h1);have f2:SortedIn CG e b d2:=BI C.hi2 fun k h1 h2=>P2.2.1 k (.inr (by omega))
       have fin:∀d3,PermIn mid b d2 d3->SortedIn CG mid b d3->PermIn a b d d3/\SortedIn CG a b d3:=fun d3 P3 S3=>
        ⟨permIn_trans _ _ _ _ _ P (permIn_trans _ _ _ _ _ (permIn_mono d1 d2 a mid a b (by omega) (by omega) (by omega) P2) (permIn_mono d2 d3 mid b a b (by omega) (by omega) (by omega) P3)),On C (by omega) (by omega) P2 S2 P3 S3⟩
       refine As (Qm rfl (Qm rfl (Qm rfl (Qm rfl ?_))));refine AO (t:=209) rfl (fun q1=>?_) (fun q1=>?_)
       ·refine Qg (Ay rfl rfl) rfl (Qg (Ay rfl rfl) rfl (Qg (Dv rfl rfl rfl) rfl (Qm rfl (An ?_))));refine Au rfl (fun q2=>?_) (fun q2=>?_)
        ·refine Ad (Qm rfl (Qm rfl (Qm rfl (Qm rfl (Qm rfl (A8 (pre:=[m2]) rfl call279 rfl (ih d2 v m2 hO2 mid e b (by omega) (by omega) (by omega) (by omega) (by omega) f1 f2 h g hg rfl rfl rfl) rfl rfl rfl rfl (fun r h1 ms1 l1 hF=>?_)))))));obtain⟨rfl,m3,d3,rfl,hO3,P3,S3⟩:=hF;refine Aj ?_;exact BT rfl (⟨rfl,m3,d3,rfl,hO3,(fin d3 P3 S3).1,(fin d3 P3 S3).2⟩)
        ·obtain rfl:e=b:=by omega
         refine Ah ?_;exact BT rfl (⟨rfl,m2,d2,rfl,hO2,(fin d2 (permIn_refl d2 _ _) f1).1,(fin d2 (permIn_refl d2 _ _) f1).2⟩)
       ·obtain rfl:e=mid:=by omega
        refine Qk rfl (Qk rfl (Qk rfl (Qm rfl (An (AQ rfl (Ah ?_))))));exact BT rfl (⟨rfl,m2,d2,rfl,hO2,(fin d2 (permIn_refl d2 _ _) f2).1,(fin d2 (permIn_refl d2 _ _) f2).2⟩)
def BkD(d:Array Iy)(s n:Nat):Prop:=∀x,s∣x->SortedIn CG x (min (x+s) n) d
theorem EA{d:Array Iy}{a b b':Nat}(h:SortedIn CG a b d)(hb:b'<=b):SortedIn CG a b' d:=fun i j h1 h2 h3=>h i j h1 h2 (by omega)
theorem IA{d:Array Iy}{a b:Nat}(hb:b<=a):SortedIn CG a b d:=fun i j h1 h2 h3=>by omega
theorem Qi(d:Array Iy)(v:Value)(m:Hp)(hO:OSD m v d)(hsz:d.size<=1000000)(h:Hp)(g:Nat)(hg:TC h g){n':Int}(en:n'=d.size) :
  FnT Tryz.prog 239 #[v,.int .i64 n',(PL g)] h [m] (fun _ h' ms'=>h=h'/\∃m' d',ms'=[m']/\OSD m' v d'/\PermIn 0 d.size d d'/\SortedIn CG 0 d.size d'):=by
 subst en;obtain⟨n,hn⟩:∃n,n=d.size:=⟨_,rfl⟩
 rw[<-hn];refine Ao func239 ntmps239 rfl rfl (fun w0 hw0=>?_);simp only[AU];refine As (Qm rfl (Bv (Qm rfl (Qm rfl (Qm rfl (An (Ac (Ae ?_))))))))
 refine Az (fun q s h' ms'=>∃(a:Nat) (d0:Array Iy) (m:Hp),q=n-a/\s=[(0,v),(1,.int .i64 n),(2,(PL g)),(6,.int .i64 20),(7,.int .i64 a),(8,.int .i64 ((a:Int)+20))]/\h=h'/\ms'=[m]/\a<=n/\20∣a/\OSD m v d0/\PermIn 0 n d d0/\∀x,20∣x->x+20<=a->SortedIn CG x (x+20) d0)
  (n-0) _ ⟨0,d,m,rfl,rfl,rfl,rfl,by omega,⟨0,rfl⟩,hO,permIn_refl d 0 n,fun x _ h=>by omega⟩ Qs ?_
 rintro q s h' ms' ⟨a,d0,m0,rfl,rfl,rfl,rfl,han,hda,hO0,P,hB⟩;have hds:=P.1;refine Ac (As (Qm rfl (Qm rfl (Qm rfl (An ?_)))));refine Au rfl (fun hle=>?_) (fun hle=>?_)
 ·refine Ah (Ab (Ae (As (Qm rfl (Qm rfl (Qm rfl (Qm rfl (A8 (pre:=[m0]) rfl call278 rfl (OZ d0 v m0 hO0 a (a+20) (by omega) (by omega) (by omega) h g hg rfl (by omega)) rfl rfl rfl rfl (fun r h1 ms1 l1 hF=>?_)))))))));obtain⟨rfl,m1,d1,rfl,hO1,P1,S1⟩:=hF;refine Bv (Qm rfl (Qm rfl (Gh (Qm rfl (Qm rfl (Qx (oA rfl) rfl (Qm rfl (Aj (Ai ?_)))))))))
  exact Ak (n-(a+20)) _ (by omega) ⟨a+20,d1,m1,rfl,rfl,rfl,rfl,by omega,Nat.dvd_add hda ⟨1,rfl⟩,hO1,permIn_trans _ _ _ _ _ P (permIn_mono d0 d1 a (a+20) 0 n (by omega) (by omega) (by omega) P1),fun x hx hx2=>by
   rcases Nat.lt_or_ge x a with h1|h1
   ·have:=ET hx hda h1;exact BI (hB x hx this) fun k h2 h3=>P1.2.1 k (.inl (by omega))
   ·obtain rfl:x=a:=by omega
    exact S1⟩ Qs
 ·refine Av (Aa (Aa (Af (Ab (As (Qm rfl (Qm rfl (Qm rfl (Qm rfl (A8 (pre:=[m0]) rfl call278 rfl (OZ d0 v m0 hO0 a n (by omega) (by omega) (by omega) h g hg rfl rfl) rfl rfl rfl rfl (fun r h1 ms1 l1 hF=>?_)))))))))));obtain⟨rfl,m1,d1,rfl,hO1,P1,S1⟩:=hF;have PB:PermIn 0 n d d1:=permIn_trans _ _ _ _ _ P (permIn_mono d0 d1 a n 0 n (by omega) (by omega) (by omega) P1)
  have B1:BkD d1 20 n:=fun x hx=>by
   rcases Nat.lt_trichotomy x a with h1|rfl|h1
   ·have:=ET hx hda h1;exact EA (BI (hB x hx this) fun k h2 h3=>P1.2.1 k (.inl (by omega))) (by omega)
   ·exact EA S1 (by omega)
   ·have:=ET hda hx h1;exact IA (by omega)
  refine An (Ae ?_)
  refine Az (fun q s h' ms'=>∃(w:Nat) (d0:Array Iy) (m:Hp),q=n-w/\s=[(0,v),(1,.int .i64 n),(2,(PL g)),(6,.int .i64 w)]/\h=h'/\ms'=[m]/\1<=w/\w<=4000000/\OSD m v d0/\PermIn 0 n d d0/\BkD d0 w n)
   (n-20) _ ⟨20,d1,m1,rfl,rfl,rfl,rfl,by omega,by omega,hO1,PB,B1⟩ Qs ?_
  rintro q s h' ms' ⟨w,d2,m2,rfl,rfl,rfl,rfl,hw1,hw2,hO2,P2,B2⟩;have hd2:=P2.1;refine Ac (As (Qm rfl (Qm rfl (Qm rfl (An ?_)))));refine Au rfl (fun hlt=>?_) (fun hlt=>?_)
  ·refine Ah (Ab (Ae (As (Qm rfl (Qx (oM rfl) rfl (Qm rfl (Qm rfl (An (Ac (Ae ?_))))))))))
   refine Az (fun q s h' ms'=>∃(a:Nat) (z:Int) (d0:Array Iy) (m:Hp),q=n-a/\s=[(0,v),(1,.int .i64 n),(2,(PL g)),(6,.int .i64 w),(7,.int .i64 a),(8,.int .i64 z)]/\h=h'/\ms'=[m]/\z=a+2*w/\a<=n/\2*w∣a/\OSD m v d0/\PermIn 0 n d d0/\(∀x,2*w∣x->x+2*w<=a->SortedIn CG x (x+2*w) d0)/\∀x,w∣x->a<=x->SortedIn CG x (min (x+w) n) d0)
    (n-0) _ ⟨0,2*(w:Int),d2,m2,rfl,rfl,rfl,rfl,by omega,by omega,⟨0,rfl⟩,hO2,P2,fun x _ h=>by omega,fun x hx _=>B2 x hx⟩ Qs ?_
   rintro q s h' ms' ⟨a,z,d3,m3,rfl,rfl,rfl,rfl,rfl,han,hda,hO3,P3,hL,hR⟩;have hd3:=P3.1;have hwa:w∣a:=Nat.dvd_trans ⟨2,Nat.mul_comm 2 w⟩ hda;have hwa2:w∣a+w:=Nat.dvd_add hwa (Nat.dvd_refl w);have hwa3:2*w∣a+2*w:=Nat.dvd_add hda (Nat.dvd_refl _);have s1:=hR a hwa (Nat.le_refl _);have s2:=hR (a+w) hwa2 (by omega);refine Ac (As (Qm rfl (Qm rfl (Qm rfl (An ?_)))));refine Au rfl (fun hle2=>?_) (fun hle2=>?_)
   ·rw[show min (a+w) n=a+w by omega]at s1;rw[show min (a+w+w) n=a+2*w by omega]at s2;refine Ah (Ab (Ae (As (Qm rfl (Qm rfl (Qm rfl (Qm rfl (Qx (oA rfl) rfl (Qm rfl (Qm rfl (A8 (pre:=[m3]) rfl call279 rfl (Jb (2*w) d3 v m3 hO3 a (a+w) (a+2*w) (by omega) (by omega) (by omega) (by omega) (by omega) s1 s2 h g hg rfl (by omega) (by omega)) rfl rfl rfl rfl (fun r h1 ms1 l1 hF=>?_))))))))))));obtain⟨rfl,m4,d4,rfl,hO4,P4,S4⟩:=hF;refine Bv (Qm rfl (Qm rfl (Gh (Qm rfl (Qm rfl (Qx (oM rfl) rfl (Qx (oA rfl) rfl (Qm rfl (Aj (Ai ?_))))))))))
    exact Ak (n-(a+2*w)) _ (by omega) ⟨a+2*w,(a:Int)+2*w+2*w,d4,m4,rfl,rfl,rfl,rfl,by omega,by omega,hwa3,hO4,permIn_trans _ _ _ _ _ P3 (permIn_mono d3 d4 a (a+2*w) 0 n (by omega) (by omega) (by omega) P4),fun x hx hx2=>by
     rcases Nat.lt_or_ge x a with h1|h1
     ·have:=ET hx hda h1;exact BI (hL x hx this) fun k h2 h3=>P4.2.1 k (.inl (by omega))
     ·obtain rfl:x=a:=by omega
      exact S4,fun x hx hx2=>BI (hR x hx (by omega)) fun k h2 h3=>P4.2.1 k (.inr (by omega))⟩ Qs
   ·have fin:∀d4,PermIn a n d3 d4->SortedIn CG a n d4->PermIn 0 n d d4/\BkD d4 (w*2) n:=fun d4 P4 S4=>⟨permIn_trans _ _ _ _ _ P3 (permIn_mono d3 d4 a n 0 n (by omega) (by omega) (by omega) P4),fun x hx=>by
     rw[Nat.mul_comm]at hx ⊢;rcases Nat.lt_trichotomy x a with h1|rfl|h1
     ·have:=ET hx hda h1;exact EA (BI (hL x hx this) fun k h2 h3=>P4.2.1 k (.inl (by omega))) (by omega)
     ·exact EA S4 (by omega)
     ·have:=ET hda hx h1
      exact IA (by omega)⟩
    refine Av (Aa (Aa (Af (Ab (Ac (As (Qm rfl (Qm rfl (Qx (oA rfl) rfl (Qm rfl (Bv (Qm rfl (Qm rfl (Qm rfl (An ?_)))))))))))))));refine Au rfl (fun hm=>?_) (fun hm=>?_)
    ·rw[show min (a+w) n=a+w by omega]at s1;rw[show min (a+w+w) n=n by omega]at s2;refine Ad (Qm rfl (Qm rfl (Qm rfl (Qm rfl (Qm rfl (A8 (pre:=[m3]) rfl call279 rfl (Jb (2*w) d3 v m3 hO3 a (a+w) n (by omega) (by omega) (by omega) (by omega) (by omega) s1 s2 h g hg rfl (by omega) rfl) rfl rfl rfl rfl (fun r h1 ms1 l1 hF=>?_)))))));obtain⟨rfl,m4,d4,rfl,hO4,P4,S4⟩:=hF;have:=fin d4 P4 S4;refine Gh (Qm rfl (Qx (oM rfl) rfl (Qm rfl (Aj (Ai ?_)))));exact Ak (n-w*2) _ (by omega) ⟨w*2,d4,m4,rfl,rfl,rfl,rfl,by omega,by omega,hO4,this.1,this.2⟩ Qs
    ·rw[show min (a+w) n=n by omega]at s1;have:=fin d3 (permIn_refl d3 a n) s1;refine Ah (Ab (Ad (Qm rfl (Qx (oM rfl) rfl (Qm rfl (Aj (Ai ?_)))))));exact Ak (n-w*2) _ (by omega) ⟨w*2,d3,m3,rfl,rfl,rfl,rfl,by omega,by omega,hO3,this.1,this.2⟩ Qs
  ·refine Av (Aa (Aa (Af ?_)));exact BT rfl (⟨rfl,m2,d2,rfl,hO2,P2,by have:=B2 0 ⟨0,rfl⟩;rwa [show min (0+w) n=n by omega]at this⟩)
theorem LQ(d:Array Iy)(v:Value)(m:Hp)(hO:OSD m v d)(hsz:d.size<=1000000)(h:Hp)(g:Nat)(hg:TC h g) :
  FnT Tryz.prog 198 #[v,(PL g)] h [m] (fun _ h' ms'=>h=h'/\∃m' d',ms'=[m']/\OSD m' v d'/\PermIn 0 d.size d d'/\SortedIn CG 0 d.size d'):=by
 refine Ao func198 ntmps198 rfl rfl (fun w0 hw0=>?_);simp only[AU];refine Ad (Qm rfl (Qm rfl (Qx (Ar (hO.rd (.head _)) rfl BL rfl) rfl (Qm rfl (A8 (pre:=[m]) rfl call239 rfl (Qi d v m hO hsz h g hg rfl) rfl rfl rfl rfl (fun r h1 ms1 l1 hF=>?_))))));obtain⟨rfl,m4,d4,rfl,hO4,P4,S4⟩:=hF;refine Aj ?_;exact BT rfl (⟨rfl,m4,d4,rfl,hO4,P4,S4⟩)
theorem J0{α:Type}[Inhabited α]{d d':Array α}(P:PermIn 0 d.size d d'):d'.toList.Perm d.toList:=by
 have h:=P.2.2;have e1:d'.extract 0 d.size=d':=by rw[<-P.1];simp
 have e2:d.extract 0 d.size=d:=by simp
 rwa [e1,e2]at h
theorem H0{α:Type}[Inhabited α]{lt:α->α->Bool}{d:Array α}(S:SortedIn lt 0 d.size d):d.toList.Pairwise fun a b=>lt b a=false:=by
 rw[List.pairwise_iff_getElem];intro i j hi hj hij;have h1:=S i j (by omega) hij (by simpa using hj)
 have e:∀k (hk:k<d.toList.length),d[k]! = d.toList[k]:=fun k hk=>by
  have:k<d.size:=by simpa using hk
  simp[this]
 rwa [e i hi,e j hj]at h1
theorem Ue(l:List CeO)(v:Value)(h:Hp)(hR:RdL HT 3 h [] v l)(hl:l.length<=1000000):FnT Tryz.prog 194 #[v] h [] (fun x h' ms'=>h=h'/\∃m,ms'=[m]/\OwnL HT 3 52 m x l):=by
 refine Ao func194 ntmps194 rfl rfl (fun w0 hw0=>?_);simp only[AU];refine As (Qm rfl (An (Ac (As (Qm rfl (Qx (Lf hR.rd.any rfl Bs rfl rfl) rfl (An ?_)))))));refine Bq rfl (fun hn=>?_) (fun hn=>?_)
 ·have h0:=Jn hR.rd hn;obtain rfl:l=[]:=List.eq_nil_of_length_eq_zero h0;refine As (Qm rfl (An (Am (Ag (G1 ?_)))));exact Ap rfl rfl (⟨rfl,_,rfl,OwnL.nil Kf⟩)
 ·refine Ah (Ab (As ?_));refine AE [] [] [] rfl Bs AI rfl (by omega) (by kernel_rfl) (by repeat (first|exact trivial|refine⟨⟨by first|rfl|exact(hR.rd.any).cells|exact Rd.cells ‹_›|exact(RdL.rd ‹_›).cells,rfl,rfl⟩,?_⟩)) rfl rfl rfl rfl (fun g5=>?_);refine Qm rfl ?_;have hO:OwnL HT 3 52 (A7 g5 52 []) (.slice (some ⟨g5,0,none⟩) 0 0) []:=OwnL.blk (l:=([]:List CeO)) 0 Kf rfl (by omega);refine AM 0 hO hR.any rfl Bs AI rfl (by omega) rfl rfl rfl Np (by simp;omega) (by simp;omega) rfl rfl rfl (fun v' m' hO'=>?_);refine Qm rfl (An (Am ?_));exact Ap rfl rfl (⟨rfl,m',rfl,hO'⟩)
theorem SX(l:List Iy)(v:Value)(h:Hp)(hR:RdL cD 2 h [] v l)(hl:l.length<=1000000):FnT Tryz.prog 197 #[v] h [] (fun x h' ms'=>h=h'/\∃m,ms'=[m]/\OwnL cD 2 119 m x l):=by
 refine Ao func197 ntmps197 rfl rfl (fun w0 hw0=>?_);simp only[AU];refine As (Qm rfl (An (Ac (As (Qm rfl (Qx (Lf hR.rd.any rfl BL rfl rfl) rfl (An ?_)))))));refine Bq rfl (fun hn=>?_) (fun hn=>?_)
 ·have h0:=Jn hR.rd hn;obtain rfl:l=[]:=List.eq_nil_of_length_eq_zero h0;refine As (Qm rfl (An (Am (Ag (G1 ?_)))));exact Ap rfl rfl (⟨rfl,_,rfl,OwnL.nil CK⟩)
 ·refine Ah (Ab (As ?_));refine AE [] [] [] rfl BL AH rfl (by omega) (by kernel_rfl) (by repeat (first|exact trivial|refine⟨⟨by first|rfl|exact(hR.rd.any).cells|exact Rd.cells ‹_›|exact(RdL.rd ‹_›).cells,rfl,rfl⟩,?_⟩)) rfl rfl rfl rfl (fun g5=>?_);refine Qm rfl ?_;have hO:OwnL cD 2 119 (A7 g5 119 []) (.slice (some ⟨g5,0,none⟩) 0 0) []:=OwnL.blk (l:=([]:List Iy)) 0 CK rfl (by omega);refine AM 0 hO hR.any rfl BL AH rfl (by omega) rfl rfl rfl DT (by simp;omega) (by simp;omega) rfl rfl rfl (fun v' m' hO'=>?_);refine Qm rfl (An (Am ?_));exact Ap rfl rfl (⟨rfl,m',rfl,hO'⟩)
theorem QH(l:List CeO)(v:Value)(h:Hp)(hR:RdL HT 3 h [] v l)(hl:l.length<=1000000):FnT Tryz.prog 134 #[v,fkC] h [] (fun x h' ms'=>h.le h'/\∃m o,ms'=[m]/\OwnL HT 3 52 m x o/\o.Perm l/\o.Pairwise fun a b=>a.c.id<=b.c.id):=by
 have o1:=hR.rd.one;refine Ao func134 ntmps134 rfl rfl (fun w0 hw0=>?_);simp only[AU];refine As (AS [_] rfl rfl (by rfl) rfl rfl rfl (fun g3=>Qm rfl (An (Aw fun h1 l1 hG=>?_))));have hk:Ud h1 g3:=fun ms=>Seg.all hG 0 _ rfl ms;have hR:=hR.up l1;refine As (Qm rfl (Qc call194 rfl (Ue l v h1 hR hl) (fun r h2 ms2 l2 hF=>?_)));obtain⟨rfl,m,rfl,hO⟩:=hF;have ovr:=hO.o1;have hO':OSC m r l.toArray:=hO;refine Qm rfl (Bv (Qm rfl (Qx (Bk rfl rfl rfl) rfl ?_)));refine A8 (pre:=[m]) rfl call195 rfl (Ly l.toArray r m hO' (by simpa using hl) h1 g3 hk) rfl rfl rfl rfl (fun x h3 ms3 l3 hF=>?_);obtain⟨rfl,m',d',rfl,hO2,P,S⟩:=hF;have ov2:r.oneCell'=true:=(OwnL.rd hO2 (h:=h1) (ms:=[m']) Mh).rd.one;have hp:d'.toList.Perm l:=J0 P
 have hs:d'.toList.Pairwise fun a b=>a.c.id<=b.c.id:=(H0 (P.1 ▸ S)).imp fun {a b} h=>by unfold CE at h;rw[decide_eq_false_iff_not,JO]at h;omega
 refine Bv (Qm rfl (Qm rfl (An (Am ?_))));exact Ap rfl rfl (⟨l1,m',d'.toList,rfl,hO2,hp,hs⟩)
theorem PW(l:List Iy)(v:Value)(h:Hp)(hR:RdL cD 2 h [] v l)(hl:l.length<=1000000):FnT Tryz.prog 136 #[v,fkD] h [] (fun x h' ms'=>h.le h'/\∃m o,ms'=[m]/\OwnL cD 2 119 m x o/\o.Perm l/\o.Pairwise fun a b=>a.1<=b.1):=by
 have o1:=hR.rd.one;refine Ao func136 ntmps136 rfl rfl (fun w0 hw0=>?_);simp only[AU];refine As (AS [_] rfl rfl (by rfl) rfl rfl rfl (fun g3=>Qm rfl (An (Aw fun h1 l1 hG=>?_))));have hk:TC h1 g3:=fun ms=>Seg.all hG 0 _ rfl ms;have hR:=hR.up l1;refine As (Qm rfl (Qc call197 rfl (SX l v h1 hR hl) (fun r h2 ms2 l2 hF=>?_)));obtain⟨rfl,m,rfl,hO⟩:=hF;have ovr:=hO.o1;have hO':OSD m r l.toArray:=hO;refine Qm rfl (Bv (Qm rfl (Qx (Bk rfl rfl rfl) rfl ?_)));refine A8 (pre:=[m]) rfl call198 rfl (LQ l.toArray r m hO' (by simpa using hl) h1 g3 hk) rfl rfl rfl rfl (fun x h3 ms3 l3 hF=>?_);obtain⟨rfl,m',d',rfl,hO2,P,S⟩:=hF;have ov2:r.oneCell'=true:=(OwnL.rd hO2 (h:=h1) (ms:=[m']) Mh).rd.one;have hp:d'.toList.Perm l:=J0 P
 have hs:d'.toList.Pairwise fun a b=>a.1<=b.1:=(H0 (P.1 ▸ S)).imp fun {a b} h=>by unfold CG at h;rw[decide_eq_false_iff_not,JO]at h;omega
 refine Bv (Qm rfl (Qm rfl (An (Am ?_))));exact Ap rfl rfl (⟨l1,m',d'.toList,rfl,hO2,hp,hs⟩)
end Go.Proofs.Q

namespace Go.Proofs.Q
open Go.Proofs.Tryz
open Go.Eng Go.RowKit
def Cl.can(c:Cl):Cl:=⟨c.id,c.dim,CF c.sd⟩
def HR(x y:Cl):Bool:=decide (x.id<=y.id)
def ordF(l:List Cl):List Cl:=if h:l.length<=1 then l.map Cl.can else
 List.merge (ordF (l.take (l.length/2))) (ordF (l.drop (l.length/2))) HR
termination_by l.length
decreasing_by
 ·rw[length_take];omega
 ·rw[length_drop];omega
theorem Et{l:List Cl}(h:l.length<=1):ordF l=l.map Cl.can:=by rw[ordF,dif_pos h]
theorem Lz{l:List Cl}(h:¬l.length<=1):ordF l=List.merge (ordF (l.take (l.length/2))) (ordF (l.drop (l.length/2))) HR:=by rw[ordF,dif_neg h]
theorem DE:∀(n:Nat) (l:List Cl),l.length<=n->(ordF l).Perm (l.map Cl.can)
 | 0,l,h=>by rw[Et (by omega)]
 | n+1,l,h=>by
  by_cases hs:l.length<=1
  ·rw[Et hs]
  ·rw[Lz hs];have h1:=DE n (l.take (l.length/2)) (by rw[length_take];omega);have h2:=DE n (l.drop (l.length/2)) (by rw[length_drop];omega);refine(List.merge_perm_append HR).trans ((h1.append h2).trans ?_);rw[<-map_append,List.take_append_drop]
theorem Gi(l:List Cl):(ordF l).length=l.length:=by
 have:=(DE l.length l (Nat.le_refl _)).length_eq
 rwa [length_map]at this
theorem C0:∀(n:Nat) (l:List Cl),l.length<=n->(ordF l).Pairwise (fun x y=>x.id<=y.id)
 | 0,l,h=>by obtain rfl:l=[]:=List.eq_nil_of_length_eq_zero (by omega);rw[Et (by simp)];exact List.Pairwise.nil
 | n+1,l,h=>by
  by_cases hs:l.length<=1
  ·rw[Et hs]
   match l,hs with
   | [],_=>exact List.Pairwise.nil
   | [a],_=>exact List.pairwise_singleton _ _
  ·rw[Lz hs];have h1:=C0 n (l.take (l.length/2)) (by rw[length_take];omega);have h2:=C0 n (l.drop (l.length/2)) (by rw[length_drop];omega)
   have:=List.pairwise_merge (le:=HR) (fun a b c hab hbc=>by
    unfold HR at *;have:=of_decide_eq_true hab;have:=of_decide_eq_true hbc
    exact decide_eq_true (by omega)) (fun a b=>by
    unfold HR;by_cases h:a.id<=b.id
    ·simp[h]
    ·have:b.id<=a.id:=by omega
     simp[this]) _ _ (h1.imp fun h=>decide_eq_true h) (h2.imp fun h=>decide_eq_true h)
   exact this.imp fun h=>of_decide_eq_true h
theorem X3(a b:Cl)(l l':List Cl)(h:b.id<a.id):List.merge (a::l) (b::l') HR=b::List.merge (a::l) l' HR:=by have:HR a b=false:=decide_eq_false (by omega);simp[List.merge,this]
theorem Yx(a b:Cl)(l l':List Cl)(h:¬b.id<a.id):List.merge (a::l) (b::l') HR=a::List.merge l (b::l') HR:=by have:HR a b=true:=decide_eq_true (by omega);simp[List.merge,this]
theorem RdC.part{h:Hp}{v:Value}{l:List Ce}(R:RdC h v l){i j:Nat}(hi:i<=j)(hj:j<=l.length):RdC h (Cu 3 v i j) ((l.drop i).take (j-i)):=⟨R.q.sub_ hi hj,fun a ha=>R.s a (List.mem_of_mem_drop (List.mem_of_mem_take ha))⟩
theorem H3:∀(N:Nat) (l:List Ce) (v:Value) (h:Hp),l.length<N->N<=1000000->(∀a∈l,a.c.sd.length<=100000)->RdC h v l->FnT Tryz.prog 118 #[v] h [] (fun r h' ms'=>h.le h'/\∃m A,ms'=[m]/\OwnL cC 3 52 m r A/\A.map Ce.c=ordF (l.map Ce.c)/\∀a∈A,RdL cD 2 h' [] a.v a.c.sd):=by
 intro N
 induction N with
 | zero=>intro l v h hN;omega
 | succ N ih=>
  intro l v h hN hM hs hR;have o1:=hR.q.rd.one;refine Ao func118 ntmps118 rfl rfl (fun w0 hw0=>?_);simp only[AU];refine As (Qm rfl (An (Ac (As (Qm rfl (Qx (Ar hR.q.rd.any rfl Bs rfl) rfl (Qm rfl (An ?_))))))));refine Au rfl (fun h0=>?_) (fun h0=>?_)
  ·obtain rfl:l=[]:=List.eq_nil_of_length_eq_zero (by omega);refine BB (As (Qm rfl (An (Am (Ag ?_)))));exact Ap rfl rfl (⟨CY,Hp.emp,[],rfl,OwnL.nil B3,by rw[Et (by simp)];rfl,fun a ha=>nomatch ha⟩)
  ·refine Ah (Ab (Ac (As (Qm rfl (Qx (Ar hR.q.rd.any rfl Bs rfl) rfl (Qm rfl (An ?_)))))));refine Au rfl (fun h1=>?_) (fun h1=>?_)
   ·match l,h0,h1,hs,hR with
    | [a],_,_,hs,hR=>
     have hsa:=hR.s a Mh;have osa:=hsa.rd.one;have c0:∀ms,Cell h ms ((AG v).add (0*3)) (.int .i64 a.c.id):=fun ms=>(hR.q.any (ms:=ms)).cell0 (j:=0) (by simp) rfl;have c1:∀ms,Cell h ms (((AG v).add (0*3)).add 1) (.int .i64 a.c.dim):=fun ms=>(hR.q.any (ms:=ms)).cell (j:=0) (by simp) (f:=1) rfl;have c2:∀ms,Cell h ms (((AG v).add (0*3)).add 2) a.v:=fun ms=>(hR.q.any (ms:=ms)).cell (j:=0) (by simp) (f:=2) rfl;have h01:(0:Nat) < [a].length:=by simp
     refine Ac (BF (n:=16) (bs:=[true,true,true,true,true,true,true,true,true,true,true,true,false,false,false,false]) [true,true,true,true,true,true,true,true,true,true,true,true] CP (by kernel_rfl) (by kernel_rfl) rfl rfl (Qq rfl (Qp rfl (BS (0) hR.q.rd.any rfl Bs AI rfl rfl) (QF Bz rfl (QL rfl U3 (c0 _) (Qq rfl (Qp rfl (BS (0) hR.q.rd.any rfl Bs AI rfl rfl) (QF BM rfl (QL rfl U3 (c1 _) (Qq rfl (Qp rfl (BS (0) hR.q.rd.any rfl Bs AI rfl rfl) (QF Bu rfl (QL rfl BL (c2 _) ?_)))))))))))));unfold FN;simp only[cons_append,nil_append];refine Qo 12 rfl (Qc call170 rfl (OF a.c.sd a.v h (hs a Mh) hsa) (fun rs h2 ms2 l2 hF=>?_));obtain⟨rfl,mq,rfl,hOq⟩:=hF;refine A4 hOq fun h3 l3 hRq=>?_;obtain⟨a9,c9,rfl,_⟩:=hRq.rd.ex;refine Qa (EL 13 25 (by kernel_rfl) rfl (by assumption) rfl (A0 LW [.int .i64 0,.int .i64 0,.slice none 0 0] [(0,_),(1,_),(2,_)] [_,_,_] rfl AI rfl rfl Qt rfl) (Qo 14 rfl (Aq [_,_,_] rfl Bs AI rfl (by rfl) rfl rfl (by omega) rfl rfl rfl (fun g26=>Qa (Qo 15 rfl (Qm rfl (Qa (Qe (Ab (Am ?_))))))))));exact Ap rfl rfl ⟨l3,_,[⟨a.c.can,.slice a9 (CF a.c.sd).length c9⟩],rfl,OwnL.blk (g:=g26) (el:=52) (F:=cC) (l:=[⟨a.c.can,.slice a9 (CF a.c.sd).length c9⟩]) 1 B3 rfl (by decide),by rw[Et (by simp)];rfl,fun b hb=>by rw[List.mem_singleton.1 hb];exact hRq⟩
   ·have hl2:¬l.length<=1:=by omega
    obtain⟨k,hk⟩:∃k,l.length/2=k:=⟨_,rfl⟩
    have hk1:k<l.length:=by omega
    have hk0:0<k:=by omega
    have hll:=hR.q.len_le;have hR1:RdC h (Cu 3 v 0 k) (l.take k):=by have:=hR.part (i:=0) (j:=k) (by omega) (by omega);rwa [drop_zero,Nat.sub_zero]at this
    have hR2:RdC h (Cu 3 v k l.length) (l.drop k):=by have:=hR.part (i:=k) (j:=l.length) (by omega) (by omega);rwa [List.take_of_length_le (by rw[length_drop];omega)]at this
    have hkt:Int.tdiv (l.length:Int) 2=(k:Int):=by rw[Int.tdiv_eq_ediv_of_nonneg (by omega)];omega
    refine Ah (Ab (As (Qm rfl (Qm rfl (Qx (Ar hR.q.rd.any rfl Bs rfl) rfl (Qx (FE rfl rfl rfl (by omega) (by omega)) rfl (Qx (Ho (k) hR.q.rd.any rfl Bs AI rfl rfl (by omega) (by omega)) rfl ?_)))))));refine Qc call118 rfl (ih (l.take k) _ h (by rw[length_take];omega) (by omega) (fun a ha=>hs a (List.mem_of_mem_take ha)) hR1) (fun ra h2 ms2 l2 hF=>?_);obtain⟨l2',ma,A,rfl,hOA,hA,hAs⟩:=hF;refine A4 hOA fun h3 l3 hRA=>?_;have hAs:∀a∈A,RdL cD 2 h3 [] a.v a.c.sd:=fun a ha=>(hAs a ha).up l3;have hR2:=hR2.up (AJ l2 l3);have hR:=hR.up (AJ l2 l3);have oA_:=hRA.rd.one;refine Qm rfl (Bv (Qm rfl (Qm rfl (Qx (Ar hR.q.rd.any rfl Bs rfl) rfl (Qx (FE rfl rfl rfl (by omega) (by omega)) rfl (Qx (Dy (k) hR.q.rd.any rfl Bs AI rfl rfl (by omega) (by omega)) rfl ?_))))));refine Qc call118 rfl (ih (l.drop k) _ h3 (by rw[length_drop];omega) (by omega) (fun a ha=>hs a (List.mem_of_mem_drop ha)) hR2) (fun rb h4 ms4 l4 hF=>?_);obtain⟨l4',mb,B,rfl,hOB,hB,hBs⟩:=hF;refine A4 hOB fun h5 l5 hRB=>?_;have l45:=AJ l4 l5;have hAs:∀a∈A,RdL cD 2 h5 [] a.v a.c.sd:=fun a ha=>(hAs a ha).up l45;have hBs:∀a∈B,RdL cD 2 h5 [] a.v a.c.sd:=fun a ha=>(hBs a ha).up l5;have hRA:=hRA.up l45;have oB:=hRB.rd.one;have lA:A.length=k:=by have:=congrArg List.length hA;rw[length_map,Gi,length_map,length_take]at this;omega
    have lB:B.length=l.length-k:=by have:=congrArg List.length hB;rw[length_map,Gi,length_map,length_drop]at this;exact this
    have hmg:ordF (l.map Ce.c)=List.merge (A.map Ce.c) (B.map Ce.c) HR:=by rw[Lz (by rw[length_map];exact hl2),hA,hB,length_map,hk,List.map_take,List.map_drop]
    refine Qm rfl (Bv (Qm rfl (An ?_)));refine A3 (fun s h' ms'=>∃(A' B' O:List Ce) (va vb vo:Value) (mo:Hp),s=[(3,va),(4,vb),(5,vo)]/\h5=h'/\ms'=[mo]/\A'.length+B'.length+O.length=l.length/\RdL cC 3 h5 [] va A'/\RdL cC 3 h5 [] vb B'/\OwnL cC 3 52 mo vo O/\O.map Ce.c++A'.map Ce.c++B'.map Ce.c=ordF (l.map Ce.c)/\(∀a∈A',RdL cD 2 h5 [] a.v a.c.sd)/\(∀a∈B',RdL cD 2 h5 [] a.v a.c.sd)/\∀a∈O,RdL cD 2 h5 [] a.v a.c.sd) ?_ (fun s h ms hI=>?_)
    ·refine Ae (BB ?_)
     refine Az (fun q s h' ms'=>∃(A' B' O:List Ce) (va vb vo:Value) (mo:Hp),q=A'.length+B'.length/\s=[(3,va),(4,vb),(5,vo)]/\h5=h'/\ms'=[mo]/\A'.length+B'.length+O.length=l.length/\RdL cC 3 h5 [] va A'/\RdL cC 3 h5 [] vb B'/\OwnL cC 3 52 mo vo O/\O.map Ce.c++List.merge (A'.map Ce.c) (B'.map Ce.c) HR=ordF (l.map Ce.c)/\(∀a∈A',RdL cD 2 h5 [] a.v a.c.sd)/\(∀a∈B',RdL cD 2 h5 [] a.v a.c.sd)/\∀a∈O,RdL cD 2 h5 [] a.v a.c.sd)
      (A.length+B.length) _ ⟨A,B,[],_,_,_,Hp.emp,rfl,rfl,rfl,rfl,by rw[lA,lB,length_nil];omega,hRA,hRB,OwnL.nil B3,by rw[hmg];rfl,hAs,hBs,fun a ha=>nomatch ha⟩ Qs ?_
     rintro q s h' ms' ⟨A',B',O,va,vb,vo,mo,rfl,rfl,rfl,rfl,hln,hRa,hRb,hOo,hm,hAa,hBb,hOa⟩;have ova:=hRa.rd.one;have ovb:=hRb.rd.one;have ovo:=hOo.o1;refine Ac (As (Qm rfl (Qx (Ar hRa.rd.any rfl Bs rfl) rfl (Qm rfl (Qm rfl ?_)))));refine AO (t:=42) rfl (fun hs1=>?_) (fun hs1=>?_)
     ·refine Qg (Ay rfl rfl) rfl (Qg (Ar hRb.rd.any rfl Bs rfl) rfl (Qg (Cc rfl rfl rfl) rfl (Qm rfl (An ?_))));refine Au rfl (fun hs2=>?_) (fun hs2=>?_)
      ·obtain⟨a,A2,rfl⟩:=List.exists_cons_of_length_pos (l:=A') (by omega);obtain⟨b,B2,rfl⟩:=List.exists_cons_of_length_pos (l:=B') (by omega);have hA0:0<(a::A2).length:=by simp
       have hB0:0<(b::B2).length:=by simp
       have oav:=(hAa a Mh).rd.one;have obv:=(hBb b Mh).rd.one;have ca:∀ms,Cell h5 ms ((AG va).add (0*3)) (.int .i64 a.c.id):=fun ms=>(hRa.any (ms:=ms)).cell0 (j:=0) hA0 rfl;have cb:∀ms,Cell h5 ms ((AG vb).add (0*3)) (.int .i64 b.c.id):=fun ms=>(hRb.any (ms:=ms)).cell0 (j:=0) hB0 rfl;have ga:∀ms,Seg h5 ms ((AG va).add (0*3)) (cC a):=fun ms=>(hRa.any (ms:=ms)).seg (j:=0) hA0;have gb:∀ms,Seg h5 ms ((AG vb).add (0*3)) (cC b):=fun ms=>(hRb.any (ms:=ms)).seg (j:=0) hB0;have hA2:RdL cC 3 h5 [] (Cu 3 va 1 (a::A2).length) A2:=by have:=hRa.sub_ (i:=1) (j:=(a::A2).length) (by simp) (Nat.le_refl _);simpa using this
       have hB2:RdL cC 3 h5 [] (Cu 3 vb 1 (b::B2).length) B2:=by have:=hRb.sub_ (i:=1) (j:=(b::B2).length) (by simp) (Nat.le_refl _);simpa using this
       have oA2:=hA2.rd.one;have oB2:=hB2.rd.one;have hal:(a::A2).length=A2.length+1:=rfl;have hbl:(b::B2).length=B2.length+1:=rfl;refine Ah (Ab (Ae (Ac (Bc 8 CP (by kernel_rfl) rfl (Wm rfl (AP (BS (0) hRb.rd.any rfl Bs AI rfl rfl) rfl rfl (Wf Bz rfl (Wl rfl U3 (cb _) (Wm rfl (AP (BS (0) hRa.rd.any rfl Bs AI rfl rfl) rfl rfl (Wf Bz rfl (Wl rfl U3 (ca _) (AZ (Qm rfl (An ?_)))))))))))))));refine Au rfl (fun hlt=>?_) (fun hlt=>?_)
       ·refine Ac (Ad (Qm rfl (Qm rfl (Qx (BS (0) hRb.rd.any rfl Bs AI rfl rfl) rfl (Qx (oG rfl Fb AI (gb _)) rfl (Aq [_,_,_] rfl Bs AI rfl (by rfl) rfl rfl (by omega) rfl rfl rfl (fun g60=>?_)))))));refine Bj 1 hOo (RdL.one B3 (x:=b) Mh rfl) rfl Bs AI rfl (by omega) rfl rfl rfl (Df (l:=[b]) (fun y hy=>by rw[List.mem_singleton.1 hy];exact hBb b Mh)) (by(try simp only[length_singleton]);omega) (by(try simp only[length_singleton]);omega) rfl rfl rfl (fun v6 m6 hO6=>?_);have ov6:=hO6.o1;refine Qm rfl (Gh (Qm rfl (Qx (Dy (1) hRb.rd.any rfl Bs AI rfl rfl (by omega) (by omega)) rfl (Qm rfl (Aj (Ai (AN ?_)))))));exact Ak ((a::A2).length+B2.length) _ (by omega) ⟨a::A2,B2,O++[b],va,_,v6,m6,rfl,rfl,rfl,rfl,by rw[length_append,length_singleton];omega,hRa,hB2,hO6,by rw[map_append,<-hm];show _++[b.c]++_=_++List.merge (a.c::_) (b.c::_) HR;rw[X3 _ _ _ _ hlt,append_assoc];rfl,hAa,fun y hy=>hBb y (mem_cons_of_mem _ hy),fun y hy=>by rcases List.mem_append.1 hy with h|h;exact hOa y h;rw[List.mem_singleton.1 h];exact hBb b Mh⟩ Qs
       ·refine Ac (Ad (Qm rfl (Qm rfl (Qx (BS (0) hRa.rd.any rfl Bs AI rfl rfl) rfl (Qx (oG rfl Fb AI (ga _)) rfl (Aq [_,_,_] rfl Bs AI rfl (by rfl) rfl rfl (by omega) rfl rfl rfl (fun g68=>?_)))))));refine Bj 1 hOo (RdL.one B3 (x:=a) Mh rfl) rfl Bs AI rfl (by omega) rfl rfl rfl (Df (l:=[a]) (fun y hy=>by rw[List.mem_singleton.1 hy];exact hAa a Mh)) (by(try simp only[length_singleton]);omega) (by(try simp only[length_singleton]);omega) rfl rfl rfl (fun v6 m6 hO6=>?_);have ov6:=hO6.o1;refine Qm rfl (Gh (Qm rfl (Qx (Dy (1) hRa.rd.any rfl Bs AI rfl rfl (by omega) (by omega)) rfl (Qm rfl (Aj (Ai (AN ?_)))))));exact Ak (A2.length+(b::B2).length) _ (by omega) ⟨A2,b::B2,O++[a],_,vb,v6,m6,rfl,rfl,rfl,rfl,by rw[length_append,length_singleton];omega,hA2,hRb,hO6,by rw[map_append,<-hm];show _++[a.c]++_=_++List.merge (a.c::_) (b.c::_) HR;rw[Yx _ _ _ _ hlt,append_assoc];rfl,fun y hy=>hAa y (mem_cons_of_mem _ hy),hBb,fun y hy=>by rcases List.mem_append.1 hy with h|h;exact hOa y h;rw[List.mem_singleton.1 h];exact hAa a Mh⟩ Qs
      ·obtain rfl:B'=[]:=List.eq_nil_of_length_eq_zero (by omega);refine Av (Aa (Aa (Af ?_)));exact AA _ ⟨A',[],O,va,vb,vo,mo,rfl,rfl,rfl,hln,hRa,hRb,hOo,by rw[<-hm,append_assoc];simp,hAa,hBb,hOa⟩ Qs
     ·obtain rfl:A'=[]:=List.eq_nil_of_length_eq_zero (by omega);refine Qk rfl (Qk rfl (Qk rfl (Qm rfl (An (AQ rfl (Av (Aa (Aa (Af ?_)))))))));exact AA _ ⟨[],B',O,va,vb,vo,mo,rfl,rfl,rfl,hln,hRa,hRb,hOo,by rw[<-hm];simp,hAa,hBb,hOa⟩ Qs
    ·obtain⟨A',B',O,va,vb,vo,mo,rfl,rfl,rfl,hln,hRa,hRb,hOo,hm,hAa,hBb,hOa⟩:=hI;have ova:=hRa.rd.one;have ovb:=hRb.rd.one;have ovo:=hOo.o1;refine As (Qm rfl (Qm rfl (Bj 0 hOo hRa.any rfl Bs AI rfl (by omega) rfl rfl rfl (Df hAa) (by(try simp only[length_append]);omega) (by(try simp only[length_append]);omega) rfl rfl rfl (fun v7 m7 hO7=>Qm rfl (Bj 0 hO7 hRb.any rfl Bs AI rfl (by omega) rfl rfl rfl (Df hBb) (by(try simp only[length_append]);omega) (by(try simp only[length_append]);omega) rfl rfl rfl (fun v8 m8 hO8=>Qm rfl (An (Am ?_))))))));exact Ap rfl rfl (⟨AJ l2 (AJ l3 l45),m8,_,rfl,hO8,by rw[map_append,map_append];exact hm,fun y hy=>by rcases List.mem_append.1 hy with h|h;rcases List.mem_append.1 h with h|h;exact hOa y h;exact hAa y h;exact hBb y h⟩)
structure CsOk(l:List Ce):Prop where
 n:l.length<=100000
 s:∀a∈l,a.c.sd.length<=100000
theorem KP(l:List Ce)(v:Value)(h:Hp)(hK:CsOk l)(hR:RdC h v l):FnT Tryz.prog 83 #[.agg #[v]] h [] (fun r h' ms'=>h.le h'/\∃m A v',ms'=[m]/\r=.agg #[v']/\OwnL cC 3 52 m v' A/\A.map Ce.c=ordF (l.map Ce.c)/\∀a∈A,RdL cD 2 h' [] a.v a.c.sd):=by have o1:=hR.q.rd.one;have hn:=hK.n;refine Ao func83 ntmps83 rfl rfl (fun w0 hw0=>?_);simp only[AU];refine As (AS [_] rfl rfl (by rfl) rfl rfl rfl (fun g1=>CC [.slice none 0 0] rfl A6 rfl rfl (fun g2=>An (BH 1 rfl fun h1 l1 hS=>?_))));have hR:=hR.up l1;have hA0:=Seg.all hS 0 _ rfl;refine As (Qf B6 rfl (Ql rfl Bs (hA0 _) (Qc call118 rfl (H3 (l.length+1) l v h1 (by omega) (by omega) hK.s hR) (fun r2 h2 ms2 l2 hF=>?_))));obtain⟨l2',m,A,rfl,hO,hA,hs⟩:=hF;obtain⟨a9,c9,rfl,_⟩:=(hO.rd (h:=h2) (ms:=[m]) Mh).rd.ex;refine Qx (A0 Q5 [.slice none 0 0] [(0,_)] [_] rfl A6 rfl rfl Qt rfl) rfl ?_;refine Sa 1 [_] A6 rfl (by simp[Value.oneCell']) ?_;refine An (Am ?_);exact BU (vs:=[_]) 1 rfl rfl Dt rfl A6 rfl rfl (⟨AJ l1 l2,m,A,_,rfl,rfl,hO,hA,hs⟩)
def uq:Option Int->List Cl->List Cl
 | _,[]=>[]
 | p,a::l=>if p=some a.id then uq (some a.id) l else a::uq (some a.id) l
def Na:Option Int->List Ce->List Ce
 | _,[]=>[]
 | p,a::l=>if p=some a.c.id then Na (some a.c.id) l else a::Na (some a.c.id) l
theorem MO:∀(l:List Ce) (p:Option Int),(Na p l).map Ce.c=uq p (l.map Ce.c)
 | [],_=>rfl
 | a::l,p=>by
  unfold Na;show _=(if p=some a.c.id then uq (some a.c.id) (l.map Ce.c) else a.c::uq (some a.c.id) (l.map Ce.c));split
  ·exact MO l _
  ·rw[map_cons,MO l _]
theorem Nl:∀(l:List Ce) (p:Option Int),∀a∈Na p l,a∈l
 | [],_,a,h=>by cases h
 | b::l,p,a,h=>by
  unfold Na at h;split at h
  ·exact mem_cons_of_mem _ (Nl l _ a h)
  ·rcases List.mem_cons.1 h with rfl|h
   ·exact Mh
   ·exact mem_cons_of_mem _ (Nl l _ a h)
theorem Yj(l:List Ce)(p:Option Int):(Na p l).length<=l.length:=by
 induction l generalizing p with
 | nil=>exact Nat.le_refl _
 | cons a l ih=>
  unfold Na;have:=ih (some a.c.id);split
  ·rw[length_cons];omega
  ·rw[length_cons,length_cons];omega
theorem Pq:∀(l:List Ce) (p:Option Int) (a:Ce),Na p (l++[a])=Na p l++(if((l.getLast?.map fun x=>x.c.id).or p)=some a.c.id then [] else [a])
 | [],p,a=>by show Na p [a]=_;unfold Na;show _=[]++(if p=some a.c.id then [] else [a]);split<;>rfl
 | b::l,p,a=>by
  have ih:=Pq l (some b.c.id) a
  have e:(((b::l).getLast?.map fun x:Ce=>x.c.id).or p)=((l.getLast?.map fun x=>x.c.id).or (some b.c.id)):=by
   cases l with
   | nil=>rfl
   | cons c l=>simp[List.getLast?_cons_cons,List.getLast?_cons]
  rw[e];show Na p (b::(l++[a]))=_;unfold Na;split
  ·exact ih
  ·rw[ih];rfl
theorem W0{l:List Ce}{i:Nat}(hi:i<l.length):Na none (l.take (i+1))=Na none (l.take i)++(if h:0<i/\(l[i-1]'(by omega)).c.id=l[i].c.id then [] else [l[i]]):=by
 rw[List.take_succ_eq_append_getElem hi,Pq];congr 1;by_cases h0:0<i
 ·have e:(l.take i).getLast?=some (l[i-1]'(by omega)):=by rw[List.getLast?_eq_getElem?,length_take,Nat.min_eq_left (by omega),List.getElem?_take_of_lt (by omega),List.getElem?_eq_getElem (by omega)]
  rw[e];by_cases h1:(l[i-1]'(by omega)).c.id=l[i].c.id
  ·rw[dif_pos ⟨h0,h1⟩,if_pos (by simp[h1])]
  ·rw[dif_neg (fun q=>h1 q.2),if_neg (by simpa using h1)]
 ·obtain rfl:i=0:=by omega
  rw[dif_neg (fun q=>h0 q.1)];simp
def Ex(l:List Cl):List Cl:=uq none (ordF l)
theorem Ls(l:List Ce)(v:Value)(h:Hp)(hK:CsOk l)(hR:RdC h v l):FnT Tryz.prog 49 #[.agg #[v]] h [] (fun r h' ms'=>h.le h'/\∃m A,ms'=[m]/\OwnL cC 3 52 m r A/\A.map Ce.c=Ex (l.map Ce.c)/\∀a∈A,RdL cD 2 h' [] a.v a.c.sd):=by
 have o1:=hR.q.rd.one;have hn:=hK.n;refine Ao func49 ntmps49 rfl rfl (fun w0 hw0=>?_);simp only[AU];refine As (AS [_] rfl rfl (by rfl) rfl rfl rfl (fun g1=>Qm rfl (An (Aw fun h1 l1 hS=>?_))));have hR:=hR.up l1;have hA0:=Seg.all hS 0 _ rfl;refine As (Qf B6 rfl (Ql rfl Bs (hA0 _) (Qc call118 rfl (H3 (l.length+1) l v h1 (by omega) (by omega) hK.s hR) (fun r2 h2 ms2 l2 hF=>?_))));obtain⟨l2',m,A,rfl,hO,hA,hs⟩:=hF;refine A4 hO fun h3 l3 hRA=>?_;have hs:∀a∈A,RdL cD 2 h3 [] a.v a.c.sd:=fun a ha=>(hs a ha).up l3;have lA:A.length=l.length:=by have:=congrArg List.length hA;rwa [length_map,Gi,length_map]at this
 have o2:=hRA.rd.one;refine Qm rfl (Bv (Qm rfl (An (Ac (As (Qm rfl (An (Ae (BB ?_)))))))))
 refine Az (fun q s h' ms'=>∃(i:Nat) (vo:Value) (mo:Hp),q=A.length-i/\s=[(3,r2),(4,vo),(5,.int .i64 i)]/\h3=h'/\ms'=[mo]/\i<=A.length/\OwnL cC 3 52 mo vo (Na none (A.take i)))
  (A.length-0) _ ⟨0,_,Hp.emp,rfl,rfl,rfl,rfl,by omega,OwnL.nil B3⟩ Qs ?_
 rintro q s h' ms' ⟨i,vo,mo,rfl,rfl,rfl,rfl,hi,hO⟩;refine Ac (As (Qm rfl (Qm rfl (Qx (Ar hRA.rd.any rfl Bs rfl) rfl (Qm rfl (An ?_))))));refine Au rfl (fun hlt=>?_) (fun hlt=>?_)
 ·have hil:i<A.length:=Cx hlt;have ovo:=hO.o1;have oav:=(hs _ (getElem_mem hil)).rd.one;have hgi:∀ms,Seg h3 ms ((AG r2).add (i*3)) (cC A[i]):=fun ms=>(hRA.any (ms:=ms)).seg hil;have hci:∀ms,Cell h3 ms ((AG r2).add (i*3)) (.int .i64 A[i].c.id):=fun ms=>(hRA.any (ms:=ms)).cell0 hil rfl;have htk:=W0 hil;have hul:(Na none (A.take i)).length<=100000:=by have:=Yj (A.take i) none;rw[length_take]at this;omega
  refine Ah (Ab ?_);refine A3 (fun s h' ms'=>∃(vo:Value) (mo:Hp),s=[(3,r2),(4,vo),(5,.int .i64 i)]/\h3=h'/\ms'=[mo]/\OwnL cC 3 52 mo vo (Na none (A.take (i+1)))) ?_ (fun s h ms hI=>?_)
  ·refine Ae (Ac (Bc 14 CP (by kernel_rfl) rfl (Wm rfl (Wm rfl (Wm rfl ?_)))));refine Ct (t:=17) rfl (fun hs1=>?_) (fun hs1=>?_)
   ·rw[dif_neg (fun q=>by omega)]at htk;refine Ax rfl rfl rfl rfl rfl (Ax rfl rfl rfl rfl rfl (Ax rfl rfl rfl rfl rfl (Ax rfl rfl rfl rfl rfl (Ax rfl rfl rfl rfl rfl (Ax rfl rfl rfl rfl rfl (Ax rfl rfl rfl rfl rfl (Ax rfl rfl rfl rfl rfl (Ax rfl rfl rfl rfl rfl (Ax rfl rfl rfl rfl rfl (Ax rfl rfl rfl rfl rfl (AZ (Qk rfl (Qm rfl (An (Bn rfl (Ad (Qm rfl (Qm rfl (Qm rfl (Qx (BS (i) hRA.rd.any rfl Bs AI rfl rfl) rfl (Qx (oG rfl Fb AI (hgi _)) rfl (Aq [_,_,_] rfl Bs AI rfl (by rfl) rfl rfl (by omega) rfl rfl rfl (fun g36=>?_)))))))))))))))))))))));refine Bj 1 hO (RdL.one B3 (x:=A[i]) Mh rfl) rfl Bs AI rfl (by omega) rfl rfl rfl (Df (l:=[A[i]]) (fun y hy=>by rw[List.mem_singleton.1 hy];exact hs _ (getElem_mem hil))) (by(try simp only[length_singleton]);omega) (by(try simp only[length_singleton]);omega) rfl rfl rfl (fun v6 m6 hO6=>?_);rw[<-htk]at hO6;refine Qm rfl (Aj (Ai (AN ?_)));exact AA _ ⟨v6,m6,rfl,rfl,rfl,hO6⟩ Qs
   ·have hip:i-1<A.length:=by omega
    have hcp:∀ms,Cell h3 ms ((AG r2).add ((i-1)*3)) (.int .i64 A[i-1].c.id):=fun ms=>(hRA.any (ms:=ms)).cell0 hip rfl;refine AL (Ay rfl rfl) rfl rfl rfl rfl (AL (Ay rfl rfl) rfl rfl rfl rfl (AL (BS (i) hRA.rd.any rfl Bs AI rfl rfl) rfl rfl rfl rfl (AL (oF Bz rfl) rfl rfl rfl rfl (AL (oL rfl U3 (hci _)) rfl rfl rfl rfl (AL (Ay rfl rfl) rfl rfl rfl rfl (AL (Ay rfl rfl) rfl rfl rfl rfl (AL (oS rfl) rfl rfl rfl rfl (AL (BS (i-1) hRA.rd.any rfl Bs AI rfl rfl) rfl rfl rfl rfl (AL (oF Bz rfl) rfl rfl rfl rfl (AL (oL rfl U3 (hcp _)) rfl rfl rfl rfl (AZ (Qg (EZ rfl rfl rfl) rfl (Qm rfl (An ?_))))))))))))));refine Au rfl (fun hs2=>?_) (fun hs2=>?_)
    ·rw[dif_neg (fun q=>hs2 q.2.symm)]at htk;refine Ad (Qm rfl (Qm rfl (Qm rfl (Qx (BS (i) hRA.rd.any rfl Bs AI rfl rfl) rfl (Qx (oG rfl Fb AI (hgi _)) rfl (Aq [_,_,_] rfl Bs AI rfl (by rfl) rfl rfl (by omega) rfl rfl rfl (fun g36=>?_)))))));refine Bj 1 hO (RdL.one B3 (x:=A[i]) Mh rfl) rfl Bs AI rfl (by omega) rfl rfl rfl (Df (l:=[A[i]]) (fun y hy=>by rw[List.mem_singleton.1 hy];exact hs _ (getElem_mem hil))) (by(try simp only[length_singleton]);omega) (by(try simp only[length_singleton]);omega) rfl rfl rfl (fun v6 m6 hO6=>?_);rw[<-htk]at hO6;refine Qm rfl (Aj (Ai (AN ?_)));exact AA _ ⟨v6,m6,rfl,rfl,rfl,hO6⟩ Qs
    ·rw[dif_pos ⟨by omega,by omega⟩,append_nil]at htk;rw[<-htk]at hO;refine Ah (Ai ?_);exact AA _ ⟨vo,mo,rfl,rfl,rfl,hO⟩ Qs
  ·obtain⟨vo,mo,rfl,rfl,rfl,hO⟩:=hI;refine Ad (Qm rfl (Qx (oA rfl) rfl (Qm rfl (Aj ?_))));exact Ak (A.length-(i+1)) _ (by omega) ⟨i+1,vo,mo,rfl,rfl,rfl,rfl,by omega,hO⟩ Qs
 ·have hie:i=A.length:=by omega
  rw[hie,List.take_length]at hO;refine Av (Aa (Aa (Af (Ab (As (Qm rfl (Qm rfl (An (Am ?_)))))))));exact Ap rfl rfl (⟨AJ l1 (AJ l2 l3),mo,_,rfl,hO,by rw[MO,hA];rfl,fun a ha=>hs a (Nl _ _ a ha)⟩)
def K2(l:List Cl)(x:Int):Nat:=(l.takeWhile fun c=>decide (c.id<x)).length
def Jm(l:List Cl)(x:Int):Int:=if h:K2 l x<l.length then if l[K2 l x].id=x then(K2 l x:Nat) else -1 else -1
theorem N8{l:List Cl}{x:Int}{k:Nat}(hk:k<=l.length)(h1:∀j (hj:j<l.length),j<k->l[j].id<x)(h2:∀hk:k<l.length,¬l[k].id<x):K2 l x=k:=by obtain⟨e1,_⟩:=Eo (fun c:Cl=>decide (c.id<x)) l k hk (fun j hj hjk=>decide_eq_true (h1 j hj hjk)) (fun hk=>decide_eq_false (h2 hk));unfold K2;rw[e1,length_take];omega
theorem XK(l:List Ce)(v:Value)(x:Int)(h:Hp)(hn:l.length<=100000)(hst:(l.map Ce.c).Pairwise fun a b=>a.id<=b.id)(hR:RdL cC 3 h [] v l)(ms:List Hp):FnV Tryz.prog 117 #[v,.int .i64 x] h ms (.int .i64 (Jm (l.map Ce.c) x)):=by
 refine F6 ?_ ms;have o1:=hR.rd.one
 have hsr:∀i j (hi:i<l.length) (hj:j<l.length),i<j->l[i].c.id<=l[j].c.id:=fun i j hi hj hij=>by have:=List.pairwise_iff_getElem.1 hst i j (by simpa using hi) (by simpa using hj) hij;simpa using this
 refine Ao func117 ntmps117 rfl rfl (fun w0 hw0=>?_);simp only[AU];refine As (Qm rfl (Bv (Qm rfl (Bv (Qm rfl (Qx (Ar hR.rd.any rfl Bs rfl) rfl (Qm rfl (An (Ac (Ae ?_))))))))))
 refine Az (fun q s h' ms'=>∃(lo hi:Nat),q=hi-lo/\s=[(0,v),(1,.int .i64 x),(5,.int .i64 lo),(6,.int .i64 hi)]/\h=h'/\ms'=[]/\lo<=hi/\hi<=l.length/\(∀j (hj:j<l.length),j<lo->l[j].c.id<x)/\∀j (hj:j<l.length),hi<=j->¬l[j].c.id<x)
  (l.length-0) _ ⟨0,l.length,rfl,rfl,rfl,rfl,by omega,by omega,fun j hj h=>by omega,fun j hj h=>by omega⟩ Qs ?_
 rintro q s h' ms' ⟨lo,hi,rfl,rfl,rfl,rfl,hlh,hhl,hlo,hhi⟩;refine Ac (As (Qm rfl (Qm rfl (Qm rfl (An ?_)))));refine Au rfl (fun hlt=>?_) (fun hlt=>?_)
 ·obtain⟨m,hm⟩:∃m,(lo+hi)/2=m:=⟨_,rfl⟩
  have hml:m<l.length:=by omega
  have hmt:((lo:Int)+hi)/2=(m:Int):=by omega
  have hcm:Cell h [] ((AG v).add (m*3)) (.int .i64 l[m].c.id):=hR.cell0 hml rfl;refine Ah (Ab (Ae (As (Qm rfl (Qm rfl (Qx (oA rfl) rfl (Qx (FE rfl rfl rfl (by omega) (by omega)) rfl (Qm rfl (An ?_)))))))));rw[hmt];refine As (Qm rfl (Qm rfl (Qx (BS (m) hR.rd.any rfl Bs AI rfl rfl) rfl (Qf Bz rfl (Ql rfl U3 (hcm) (Qm rfl (Qm rfl (An ?_))))))));refine Au rfl (fun hlt2=>?_) (fun hlt2=>?_)
  ·refine Ad (Qm rfl (Qx (oA rfl) rfl (Qm rfl (Aj (Ai ?_)))))
   exact Ak (hi-(m+1)) _ (by omega) ⟨m+1,hi,rfl,rfl,rfl,rfl,by omega,by omega,fun j hj h=>by
    rcases (by omega:j<m\/j=m) with h1|rfl
    ·have:=hsr j m hj hml h1;omega
    ·exact hlt2,hhi⟩ Qs
  ·refine Ad (Qm rfl (Qm rfl (Aj (Ai ?_))))
   exact Ak (m-lo) _ (by omega) ⟨lo,m,rfl,rfl,rfl,rfl,by omega,by omega,hlo,fun j hj h=>by
    rcases (by omega:m<j\/j=m) with h1|rfl
    ·have:=hsr m j hml hj h1;omega
    ·exact hlt2⟩ Qs
 ·obtain rfl:lo=hi:=by omega
  have hcnt:K2 (l.map Ce.c) x=lo:=N8 (by rw[length_map];omega) (fun j hj h=>by rw[getElem_map];exact hlo j (by simpa using hj) h) (fun hk=>by rw[getElem_map];exact hhi lo (by simpa using hk) (Nat.le_refl _))
  have hat:Jm (l.map Ce.c) x=if h:lo<l.length then(if l[lo].c.id=x then(lo:Int) else -1) else -1:=by unfold Jm;simp only[hcnt,length_map,getElem_map]
  refine Av (Aa (Aa (Af (Ab (Ac (As (Qm rfl (Qm rfl (Qx (Ar hR.rd.any rfl Bs rfl) rfl (Qm rfl (Qm rfl ?_)))))))))));refine AO (t:=31) rfl (fun hs1=>?_) (fun hs1=>?_)
  ·have hll:lo<l.length:=Cx hs1;have hcl:Cell h [] ((AG v).add (lo*3)) (.int .i64 l[lo].c.id):=hR.cell0 hll rfl;rw[dif_pos hll]at hat;refine Qg (Ay rfl rfl) rfl (Qg (Ay rfl rfl) rfl (Qg (BS (lo) hR.rd.any rfl Bs AI rfl rfl) rfl (Qg (oF Bz rfl) rfl (Qg (oL rfl U3 (hcl)) rfl (Qg (Ay rfl rfl) rfl (Qg (DH rfl rfl rfl) rfl (Qm rfl (An ?_))))))));refine Au rfl (fun hs2=>?_) (fun hs2=>?_)
   ·refine Ac (Ad (Qm rfl (Qm rfl (An (Am (Ag ?_))))));exact Ap rfl rfl (by rw[hat,if_pos hs2])
   ·refine Ah (Ab (As (Qm rfl (An (Am ?_)))));exact Ap rfl rfl (by rw[hat,if_neg hs2])
  ·rw[dif_neg (by omega)]at hat;refine Qk rfl (Qk rfl (Qk rfl (Qk rfl (Qk rfl (Qk rfl (Qk rfl (Qm rfl (An (AQ rfl (Ah (Ab (As (Qm rfl (An (Am ?_)))))))))))))));exact Ap rfl rfl (by rw[hat])
def Bl(x:Cl)(i:Nat):Int×Int:=x.sd.getD i (0,0)
theorem Bh{x:Cl}{i:Nat}(hi:i<x.sd.length):Bl x i=x.sd[i]:=by simp[Bl,List.getD,hi]
def Cy(l:List Cl)(x:Cl)(i:Nat):Prop:=Jm l (Bl x i).1<0\/(l.getD (Jm l (Bl x i).1).toNat default).dim≠x.dim-1\/(0<i/\(Bl x i).1=(Bl x (i-1)).1)
instance (l:List Cl) (x:Cl) (i:Nat):Decidable (Cy l x i):=by unfold Cy;infer_instance
def BP(x:Cl):Prop:=(x.dim=0/\0<x.sd.length)\/(x.dim=1/\x.sd.length≠2)\/(1<x.dim/\(x.sd.length<2\/64<x.sd.length))
instance (x:Cl):Decidable (BP x):=by unfold BP;infer_instance
def BK(x:Cl)(i:Nat):Prop:=(Bl x i).2≠1/\(Bl x i).2≠-1
instance (x:Cl) (i:Nat):Decidable (BK x i):=by unfold BK;infer_instance
def Cd(l:List Cl)(x:Cl):Int:=
 if x.dim<0\/8<x.dim then 21
 else if BP x then 22
 else if ¬∀i,i<x.sd.length->¬Cy l x i then 22
 else if ¬∀i,i<x.sd.length->¬BK x i then 23
 else if x.dim=1/\(Bl x 0).2=(Bl x 1).2 then 23 else 0
theorem KZ(l:List Cl)(x:Int):Jm l x<l.length:=by
 unfold Jm;split
 ·split
  ·omega
  ·omega
 ·omega
theorem YB(l:List Ce)(x:Ce)(v:Value)(h:Hp)(hn:l.length<=100000)(hxn:x.c.sd.length<=100000)(hxd:-9223372036854775807<=x.c.dim/\x.c.dim<=9223372036854775807)(hst:(l.map Ce.c).Pairwise fun a b=>a.id<=b.id)(hR:RdL cC 3 h [] v l)(hX:RdL cD 2 h [] x.v x.c.sd)(ms:List Hp):FnV Tryz.prog 139 #[v,.agg #[.int .i64 x.c.id,.int .i64 x.c.dim,x.v]] h ms (.int .i64 (Cd (l.map Ce.c) x.c)):=by
 refine F6 ?_ ms;have o1:=hR.rd.one;have o2:=hX.rd.one;refine Ao func139 ntmps139 rfl rfl (fun w0 hw0=>?_);simp only[AU];refine As (AS [_,_,_] rfl rfl (by rfl) rfl rfl rfl (fun g3=>Qm rfl (An (Aw fun h1 l1 hS=>?_))));have hR:=hR.up l1;have hX:=hX.up l1;have hA:=Seg.all hS;refine Ac (As (Qf BM rfl (Ql rfl U3 (hA _ _ rfl _) (Qm rfl (Qm rfl ?_)))));refine AO (t:=12) rfl (fun g1=>?_) (fun g1=>?_)
 ·refine Qk rfl (Qk rfl (Qk rfl (Qm rfl (An (Bn rfl (As (Qm rfl (An (Am (Ag ?_))))))))));exact Ap rfl rfl (by unfold Cd;rw[if_pos (.inl g1)])
 ·refine Qg (oF BM rfl) rfl (Qg (oL rfl U3 (hA _ _ rfl _)) rfl (Qg (Cc rfl rfl rfl) rfl (Qm rfl (An ?_))));refine Au rfl (fun g2=>?_) (fun g2=>?_)
  ·refine Ac (Ad (Qm rfl (An (Am (Ag ?_)))));exact Ap rfl rfl (by unfold Cd;rw[if_pos (.inr g2)])
  ·have hd:¬(x.c.dim<0\/8<x.c.dim):=by omega
   refine Ah (Ab (As (Qf Bu rfl (Ql rfl BL (hA _ _ rfl _) (Qx (Ar hX.rd.any rfl BL rfl) rfl (Qm rfl (An ?_)))))));refine A3 (fun s h' ms'=>s=[(0,v),(3,.pointer (some ⟨g3,0,none⟩)),(5,.int .i64 x.c.sd.length)]/\h1=h'/\ms'=[]/\¬BP x.c) ?_ (fun s h ms hI=>?_)
   ·refine Ac (Ad (Qf BM rfl (Ql rfl U3 (hA _ _ rfl _) (Qm rfl (Qm rfl ?_)))));refine AO (t:=23) rfl (fun a1=>?_) (fun a1=>?_)
    ·refine Qg (Ay rfl rfl) rfl (Qg (Cc rfl rfl rfl) rfl (Qm rfl (Qm rfl ?_)));refine AO (t:=27) rfl (fun a2=>?_) (fun a2=>?_)
     ·refine Qk rfl (Qk rfl (Qk rfl (Qk rfl (AX rfl rfl rfl rfl rfl rfl (AX rfl rfl rfl rfl rfl rfl (Qk rfl (Qm rfl (Qm rfl (Qk rfl (Qk rfl (Qk rfl (Qk rfl (AX rfl rfl rfl rfl rfl rfl (AX rfl rfl rfl rfl rfl rfl (AX rfl rfl rfl rfl rfl rfl (AX rfl rfl rfl rfl rfl rfl (AX rfl rfl rfl rfl rfl rfl (AX rfl rfl rfl rfl rfl rfl (Qk rfl (Qm rfl (An (Bn rfl (As (Qm rfl (An (Am (Ag ?_)))))))))))))))))))))))))));exact Ap rfl rfl (by unfold Cd;rw[if_neg hd,if_pos (by unfold BP;omega)])
     ·refine Qg (oF BM rfl) rfl (Qg (oL rfl U3 (hA _ _ rfl _)) rfl (Qg (DH rfl rfl rfl) rfl (Qg (Ay rfl rfl) rfl ?_)));refine AO (t:=31) rfl (fun a3=>?_) (fun a3=>?_)
      ·exact absurd a3 (by omega)
      ·refine Qk rfl (Qk rfl (Qg (Cj rfl rfl rfl) rfl (Qm rfl (Qm rfl (Qg (oF BM rfl) rfl (Qg (oL rfl U3 (hA _ _ rfl _)) rfl (Qg (Cc rfl rfl rfl) rfl (Qg (Ay rfl rfl) rfl ?_))))))));refine AO (t:=40) rfl (fun a4=>?_) (fun a4=>?_)
       ·exact absurd a4 (by omega)
       ·refine Qk rfl (Qk rfl (Qk rfl (AX rfl rfl rfl rfl rfl rfl (AX rfl rfl rfl rfl rfl rfl (Qk rfl (Qg (Cj rfl rfl rfl) rfl (Qm rfl (An (AQ rfl (Ah ?_))))))))));exact AA _ ⟨rfl,rfl,rfl,by unfold BP;omega⟩ Qs
    ·refine Qk rfl (Qk rfl (Qm rfl (Qm rfl (Qg (oF BM rfl) rfl (Qg (oL rfl U3 (hA _ _ rfl _)) rfl (Qg (DH rfl rfl rfl) rfl (Qg (Ay rfl rfl) rfl ?_)))))));refine AO (t:=31) rfl (fun a3=>?_) (fun a3=>?_)
     ·refine Qg (Ay rfl rfl) rfl (Qg (EZ rfl rfl rfl) rfl (Qg (CA rfl rfl rfl) rfl (Qm rfl (Qm rfl ?_))));refine AO (t:=36) rfl (fun a5=>?_) (fun a5=>?_)
      ·refine Qk rfl (Qk rfl (Qk rfl (Qk rfl (AX rfl rfl rfl rfl rfl rfl (AX rfl rfl rfl rfl rfl rfl (AX rfl rfl rfl rfl rfl rfl (AX rfl rfl rfl rfl rfl rfl (AX rfl rfl rfl rfl rfl rfl (AX rfl rfl rfl rfl rfl rfl (Qk rfl (Qm rfl (An (Bn rfl (As (Qm rfl (An (Am (Ag ?_))))))))))))))))));exact Ap rfl rfl (by unfold Cd;rw[if_neg hd,if_pos (by unfold BP;omega)])
      ·refine Qg (oF BM rfl) rfl (Qg (oL rfl U3 (hA _ _ rfl _)) rfl (Qg (Cc rfl rfl rfl) rfl (Qg (Ay rfl rfl) rfl ?_)));refine AO (t:=40) rfl (fun a6=>?_) (fun a6=>?_)
       ·exact absurd a6 (by omega)
       ·refine Qk rfl (Qk rfl (Qk rfl (AX rfl rfl rfl rfl rfl rfl (AX rfl rfl rfl rfl rfl rfl (Qk rfl (Qg (Cj rfl rfl rfl) rfl (Qm rfl (An (AQ rfl (Ah ?_))))))))));exact AA _ ⟨rfl,rfl,rfl,by unfold BP;omega⟩ Qs
     ·refine Qk rfl (Qk rfl (Qg (Cj rfl rfl rfl) rfl (Qm rfl (Qm rfl (Qg (oF BM rfl) rfl (Qg (oL rfl U3 (hA _ _ rfl _)) rfl (Qg (Cc rfl rfl rfl) rfl (Qg (Ay rfl rfl) rfl ?_))))))));refine AO (t:=40) rfl (fun a6=>?_) (fun a6=>?_)
      ·refine Qg (Ay rfl rfl) rfl (Qg (Dv rfl rfl rfl) rfl (Qg (Ay rfl rfl) rfl ?_));refine AO (t:=43) rfl (fun a7=>?_) (fun a7=>?_)
       ·refine Qk rfl (Qk rfl (Qg (CA rfl rfl rfl) rfl (Qg (CA rfl rfl rfl) rfl (Qm rfl (An (Bn rfl (As (Qm rfl (An (Am (Ag ?_)))))))))));exact Ap rfl rfl (by unfold Cd;rw[if_neg hd,if_pos (by unfold BP;omega)])
       ·refine Qg (Ay rfl rfl) rfl (Qg (Cc rfl rfl rfl) rfl (Qg (Cj rfl rfl rfl) rfl (Qg (CA rfl rfl rfl) rfl (Qm rfl (An ?_)))));refine Au rfl (fun a8=>?_) (fun a8=>?_)
        ·refine Ac (Ad (Qm rfl (An (Am (Ag ?_)))));exact Ap rfl rfl (by unfold Cd;rw[if_neg hd,if_pos (by unfold BP;omega)])
        ·refine Ah ?_;exact AA _ ⟨rfl,rfl,rfl,by unfold BP;omega⟩ Qs
      ·exact absurd a6 (by omega)
   ·obtain⟨rfl,rfl,rfl,hnb⟩:=hI;refine Ac (As (Qm rfl (An (Ae ?_))))
    refine Az (fun q s h' ms'=>∃(i:Nat),q=x.c.sd.length-i/\s=[(0,v),(3,.pointer (some ⟨g3,0,none⟩)),(5,.int .i64 x.c.sd.length),(6,.int .i64 i)]/\h1=h'/\ms'=[]/\i<=x.c.sd.length/\∀j,j<i->¬Cy (l.map Ce.c) x.c j)
     (x.c.sd.length-0) _ ⟨0,rfl,rfl,rfl,rfl,by omega,fun j hj=>by omega⟩ Qs ?_
    rintro q s h' ms' ⟨i,rfl,rfl,rfl,rfl,hi,hno⟩;refine Ac (As (Qm rfl (Qm rfl (Qm rfl (An ?_)))));refine Au rfl (fun hlt=>?_) (fun hlt=>?_)
    ·have hil:i<x.c.sd.length:=Cx hlt;have hsi:=Bh hil;have hci:Cell h1 [] ((AG x.v).add (i*2)) (.int .i64 x.c.sd[i].1):=hX.cell0 hil rfl;obtain⟨k,hk⟩:∃k,Jm (l.map Ce.c) x.c.sd[i].1=k:=⟨_,rfl⟩
     have hkl:=KZ (l.map Ce.c) x.c.sd[i].1;rw[hk,length_map]at hkl
     have hround:¬Cy (l.map Ce.c) x.c i->∀j,j<i+1->¬Cy (l.map Ce.c) x.c j:=fun hb j hj=>by
      rcases (by omega:j<i\/j=i) with h|rfl
      ·exact hno j h
      ·exact hb
     refine Ah (Ab (Ac (Ae (As (Qm rfl (Qf Bu rfl (Ql rfl BL (hA _ _ rfl _) (Qm rfl (Qx (BS (i) hX.rd.any rfl BL AH rfl rfl) rfl (Qf B4 rfl (Ql rfl U3 (hci) (Qx (AF rfl call117 rfl (XK l v _ h1 hn hst hR _)) rfl (Qm rfl (An ?_))))))))))))));rw[hk];refine Ac (Bc 30 CP (by kernel_rfl) rfl (Wm rfl (Wm rfl (Wm rfl ?_))));refine Ct (t:=64) rfl (fun b1=>?_) (fun b1=>?_)
     ·refine Ax rfl rfl rfl rfl rfl (Ax rfl rfl rfl rfl rfl (Ax rfl rfl rfl rfl rfl (Ax rfl rfl rfl rfl rfl (Ax rfl rfl rfl rfl rfl (Ax rfl rfl rfl rfl rfl (Ax rfl rfl rfl rfl rfl (Ax rfl rfl rfl rfl rfl (Ax rfl rfl rfl rfl rfl (Wm rfl (Wm rfl (Ax rfl rfl rfl rfl rfl (Ax rfl rfl rfl rfl rfl (Ax rfl rfl rfl rfl rfl (AR rfl rfl rfl rfl (AR rfl rfl rfl rfl (AR rfl rfl rfl rfl (AR rfl rfl rfl rfl (AR rfl rfl rfl rfl (AR rfl rfl rfl rfl (AR rfl rfl rfl rfl (AR rfl rfl rfl rfl (AR rfl rfl rfl rfl (AR rfl rfl rfl rfl (AR rfl rfl rfl rfl (AR rfl rfl rfl rfl (AR rfl rfl rfl rfl (AZ (AX rfl rfl rfl rfl rfl rfl (Qk rfl (Qm rfl (An (Bn rfl (As (Qm rfl (An (Am (Al (Ag (Ag ?_)))))))))))))))))))))))))))))))))))))));refine Al (Ag ?_);exact Ap rfl rfl (by unfold Cd;rw[if_neg hd,if_neg hnb,if_pos (fun q=>q i hil (by unfold Cy;rw[hsi,hk];exact .inl b1))])
     ·obtain⟨m,rfl⟩:∃m:Nat,k=m:=⟨k.toNat,by omega⟩
      have hml:m<l.length:=by omega
      have hcd:Cell h1 [] (((AG v).add (m*3)).add 1) (.int .i64 l[m].c.dim):=hR.cell hml (f:=1) rfl;have hgd:(l.map Ce.c).getD ((m:Int).toNat) default=l[m].c:=by simp[List.getD,hml]
      refine AL (Ay rfl rfl) rfl rfl rfl rfl (AL (Ay rfl rfl) rfl rfl rfl rfl (AL (BS (m) hR.rd.any rfl Bs AI rfl rfl) rfl rfl rfl rfl (AL (oF BM rfl) rfl rfl rfl rfl (AL (oL rfl U3 (hcd)) rfl rfl rfl rfl (AL (oF BM rfl) rfl rfl rfl rfl (AL (oL rfl U3 (hA _ _ rfl _)) rfl rfl rfl rfl (AL (oS rfl) rfl rfl rfl rfl (AL (EZ rfl rfl rfl) rfl rfl rfl rfl (Wm rfl (Wm rfl ?_))))))))));refine Ct (t:=75) rfl (fun b2=>?_) (fun b2=>?_)
      ·refine Ax rfl rfl rfl rfl rfl (Ax rfl rfl rfl rfl rfl (Ax rfl rfl rfl rfl rfl (AR rfl rfl rfl rfl (AR rfl rfl rfl rfl (AR rfl rfl rfl rfl (AR rfl rfl rfl rfl (AR rfl rfl rfl rfl (AR rfl rfl rfl rfl (AR rfl rfl rfl rfl (AR rfl rfl rfl rfl (AR rfl rfl rfl rfl (AR rfl rfl rfl rfl (AR rfl rfl rfl rfl (AR rfl rfl rfl rfl (AR rfl rfl rfl rfl (AZ (AX rfl rfl rfl rfl rfl rfl (Qk rfl (Qm rfl (An (Bn rfl (As (Qm rfl (An (Am (Al (Ag (Ag (Al (Ag ?_))))))))))))))))))))))))))))));exact Ap rfl rfl (by unfold Cd;rw[if_neg hd,if_neg hnb,if_pos (fun q=>q i hil (by unfold Cy;rw[hsi,hk,hgd];exact .inr (.inl b2)))])
      ·refine AL (Ay rfl rfl) rfl rfl rfl rfl (AL (Cc rfl rfl rfl) rfl rfl rfl rfl (AL (Ay rfl rfl) rfl rfl rfl rfl ?_));refine Ct (t:=78) rfl (fun b3=>?_) (fun b3=>?_)
       ·have hip:i-1<x.c.sd.length:=by omega
        have hsp:=Bh hip;have hcp:Cell h1 [] ((AG x.v).add ((i-1)*2)) (.int .i64 x.c.sd[i-1].1):=hX.cell0 hip rfl;refine AL (oF Bu rfl) rfl rfl rfl rfl (AL (oL rfl BL (hA _ _ rfl _)) rfl rfl rfl rfl (AL (Ay rfl rfl) rfl rfl rfl rfl (AL (BS (i) hX.rd.any rfl BL AH rfl rfl) rfl rfl rfl rfl (AL (oF B4 rfl) rfl rfl rfl rfl (AL (oL rfl U3 (hci)) rfl rfl rfl rfl (AL (oF Bu rfl) rfl rfl rfl rfl (AL (oL rfl BL (hA _ _ rfl _)) rfl rfl rfl rfl (AL (Ay rfl rfl) rfl rfl rfl rfl (AL (oS rfl) rfl rfl rfl rfl (AL (BS (i-1) hX.rd.any rfl BL AH rfl rfl) rfl rfl rfl rfl (AL (oF B4 rfl) rfl rfl rfl rfl (AL (oL rfl U3 (hcp)) rfl rfl rfl rfl (AZ (Qg (DH rfl rfl rfl) rfl (Qg (CA rfl rfl rfl) rfl (Qm rfl (An ?_)))))))))))))))));refine Au rfl (fun b4=>?_) (fun b4=>?_)
        ·refine Ac (Ad (Qm rfl (An (Am (Al (Ag (Ag (Al (Ag ?_)))))))));exact Ap rfl rfl (by unfold Cd;rw[if_neg hd,if_neg hnb,if_pos (fun q=>q i hil (by unfold Cy;rw[hsi,hsp,hk,hgd];exact .inr (.inr ⟨by omega,b4⟩)))])
        ·refine Ah (Ai (Ab (Ad (Qm rfl (Qx (oA rfl) rfl (Qm rfl (Aj ?_)))))));exact Ak (x.c.sd.length-(i+1)) _ (by omega) ⟨i+1,rfl,rfl,rfl,rfl,by omega,hround (by unfold Cy;rw[hsi,hsp,hk,hgd];omega)⟩ Qs
       ·refine Ax rfl rfl rfl rfl rfl (Ax rfl rfl rfl rfl rfl (Ax rfl rfl rfl rfl rfl (Ax rfl rfl rfl rfl rfl (Ax rfl rfl rfl rfl rfl (Ax rfl rfl rfl rfl rfl (Ax rfl rfl rfl rfl rfl (Ax rfl rfl rfl rfl rfl (Ax rfl rfl rfl rfl rfl (Ax rfl rfl rfl rfl rfl (Ax rfl rfl rfl rfl rfl (Ax rfl rfl rfl rfl rfl (Ax rfl rfl rfl rfl rfl (AZ (Qk rfl (Qg (Cj rfl rfl rfl) rfl (Qm rfl (An (AQ rfl (Ah (Ai (Ab (Ad (Qm rfl (Qx (oA rfl) rfl (Qm rfl (Aj ?_))))))))))))))))))))))))));exact Ak (x.c.sd.length-(i+1)) _ (by omega) ⟨i+1,rfl,rfl,rfl,rfl,by omega,hround (by unfold Cy;rw[hsi,hk,hgd];omega)⟩ Qs
    ·obtain rfl:i=x.c.sd.length:=by omega
     have hs2:¬¬∀i,i<x.c.sd.length->¬Cy (l.map Ce.c) x.c i:=fun q=>q hno;refine Av (Aa (Aa (Af (Ab (Ac (As (Qm rfl (An (Ae ?_)))))))))
     refine Az (fun q s h' ms'=>∃(i:Nat),q=x.c.sd.length-i/\s=[(0,v),(3,.pointer (some ⟨g3,0,none⟩)),(5,.int .i64 x.c.sd.length),(8,.int .i64 i)]/\h1=h'/\ms'=[]/\i<=x.c.sd.length/\∀j,j<i->¬BK x.c j)
      (x.c.sd.length-0) _ ⟨0,rfl,rfl,rfl,rfl,by omega,fun j hj=>by omega⟩ Qs ?_
     rintro q s h' ms' ⟨i,rfl,rfl,rfl,rfl,hi,hno2⟩;refine Ac (As (Qm rfl (Qm rfl (Qm rfl (An ?_)))));refine Au rfl (fun hlt2=>?_) (fun hlt2=>?_)
     ·have hil:i<x.c.sd.length:=Cx hlt2;have hsi:=Bh hil;have hci:Cell h1 [] (((AG x.v).add (i*2)).add 1) (.int .i64 x.c.sd[i].2):=hX.cell hil (f:=1) rfl
      have hround:¬BK x.c i->∀j,j<i+1->¬BK x.c j:=fun hb j hj=>by
       rcases (by omega:j<i\/j=i) with h|rfl
       ·exact hno2 j h
       ·exact hb
      refine Ah (Ab (Ac (Ae (As (Qf Bu rfl (Ql rfl BL (hA _ _ rfl _) (Qm rfl (Qx (BS (i) hX.rd.any rfl BL AH rfl rfl) rfl (Qf Cp rfl (Ql rfl U3 (hci) (Qm rfl (Qm rfl ?_))))))))))));refine AO (t:=107) rfl (fun c1=>?_) (fun c1=>?_)
      ·refine Qg (oF Bu rfl) rfl (Qg (oL rfl BL (hA _ _ rfl _)) rfl (Qg (Ay rfl rfl) rfl (Qg (BS (i) hX.rd.any rfl BL AH rfl rfl) rfl (Qg (oF Cp rfl) rfl (Qg (oL rfl U3 (hci)) rfl (Qg (EZ rfl rfl rfl) rfl (Qm rfl (An ?_))))))));refine Au rfl (fun c2=>?_) (fun c2=>?_)
       ·refine Ac (Ad (Qm rfl (An (Am (Al (Ag (Ag (Al (Ag ?_)))))))));exact Ap rfl rfl (by unfold Cd;rw[if_neg hd,if_neg hnb,if_neg hs2,if_pos (fun q=>q i hil (by unfold BK;rw[hsi];exact⟨c1,c2⟩))])
       ·refine Ah (Ai (Ab (Ad (Qm rfl (Qx (oA rfl) rfl (Qm rfl (Aj ?_)))))));exact Ak (x.c.sd.length-(i+1)) _ (by omega) ⟨i+1,rfl,rfl,rfl,rfl,by omega,hround (by unfold BK;rw[hsi];exact fun q=>c2 q.2)⟩ Qs
      ·refine Qk rfl (Qk rfl (Qk rfl (Qk rfl (Qk rfl (Qk rfl (Qk rfl (Qm rfl (An (AQ rfl (Ah (Ai (Ab (Ad (Qm rfl (Qx (oA rfl) rfl (Qm rfl (Aj ?_)))))))))))))))));exact Ak (x.c.sd.length-(i+1)) _ (by omega) ⟨i+1,rfl,rfl,rfl,rfl,by omega,hround (by unfold BK;rw[hsi];exact fun q=>c1 q.1)⟩ Qs
     ·obtain rfl:i=x.c.sd.length:=by omega
      have hs3:¬¬∀i,i<x.c.sd.length->¬BK x.c i:=fun q=>q hno2;refine Av (Aa (Aa (Af (Ab (Ac (Ac (Bc 14 CP (by kernel_rfl) rfl (Wf BM rfl (Wl rfl U3 (hA _ _ rfl _) (Wm rfl (Wm rfl ?_)))))))))));refine Ct (t:=119) rfl (fun d1=>?_) (fun d1=>?_)
      ·have h2:x.c.sd.length=2:=by unfold BP at hnb;omega
       have hl0:0<x.c.sd.length:=by omega
       have hl1:1<x.c.sd.length:=by omega
       have hs0:=Bh hl0;have hs1:=Bh hl1;have hc0:Cell h1 [] (((AG x.v).add (0*2)).add 1) (.int .i64 x.c.sd[0].2):=hX.cell hl0 (f:=1) rfl;have hc1:Cell h1 [] (((AG x.v).add (1*2)).add 1) (.int .i64 x.c.sd[1].2):=hX.cell hl1 (f:=1) rfl;refine AL (oF Bu rfl) rfl rfl rfl rfl (AL (oL rfl BL (hA _ _ rfl _)) rfl rfl rfl rfl (AL (BS (0) hX.rd.any rfl BL AH rfl rfl) rfl rfl rfl rfl (AL (oF Cp rfl) rfl rfl rfl rfl (AL (oL rfl U3 (hc0)) rfl rfl rfl rfl (AL (oF Bu rfl) rfl rfl rfl rfl (AL (oL rfl BL (hA _ _ rfl _)) rfl rfl rfl rfl (AL (BS (1) hX.rd.any rfl BL AH rfl rfl) rfl rfl rfl rfl (AL (oF Cp rfl) rfl rfl rfl rfl (AL (oL rfl U3 (hc1)) rfl rfl rfl rfl (AZ (Qg (DH rfl rfl rfl) rfl (Qm rfl (An ?_)))))))))))));refine Au rfl (fun d2=>?_) (fun d2=>?_)
       ·refine Ac (Ad (Qm rfl (An (Am (Ag ?_)))));exact Ap rfl rfl (by unfold Cd;rw[if_neg hd,if_neg hnb,if_neg hs2,if_neg hs3,if_pos ⟨d1,by rw[hs0,hs1];exact d2⟩])
       ·refine Ah (Ab (As (Qm rfl (An (Am ?_)))));exact Ap rfl rfl (by unfold Cd;rw[if_neg hd,if_neg hnb,if_neg hs2,if_neg hs3,if_neg (fun q=>d2 (by have:=q.2;rwa [hs0,hs1]at this))])
      ·refine Ax rfl rfl rfl rfl rfl (Ax rfl rfl rfl rfl rfl (Ax rfl rfl rfl rfl rfl (Ax rfl rfl rfl rfl rfl (Ax rfl rfl rfl rfl rfl (Ax rfl rfl rfl rfl rfl (Ax rfl rfl rfl rfl rfl (Ax rfl rfl rfl rfl rfl (Ax rfl rfl rfl rfl rfl (Ax rfl rfl rfl rfl rfl (AZ (Qk rfl (Qm rfl (An (AQ rfl (Ah (Ab (As (Qm rfl (An (Am ?_))))))))))))))))))));exact Ap rfl rfl (by unfold Cd;rw[if_neg hd,if_neg hnb,if_neg hs2,if_neg hs3,if_neg (fun q=>d1 q.1)])
end Go.Proofs.Q
namespace Go.Proofs.Q
open Go.Eng Go.RowKit
variable {n T i k m:Nat} {l pa:List Int} {now old w:Int}
def Ei(l:List Int)(x:Int):Nat:=(l.takeWhile fun y=>decide (y≠x)).length
theorem Pc(l:List Int)(x:Int):Ei l x<=l.length:=(List.takeWhile_sublist _).length_le
theorem N0{x:Int}(hk:k<=l.length)(h1:∀j (hj:j<l.length),j<k->l[j]≠x)(h2:∀hk:k<l.length,l[k]=x):Ei l x=k:=by obtain⟨e1,_⟩:=Eo (fun y:Int=>decide (y≠x)) l k hk (fun j hj hjk=>decide_eq_true (h1 j hj hjk)) (fun hk=>decide_eq_false (fun q=>q (h2 hk)));unfold Ei;rw[e1,length_take];omega
def Fm(pa:List Int)(m:Nat)(now old:Int):List Int:=pa.mapIdx fun j p=>if j<m/\p=now then old else p
theorem C8(pa:List Int)(m:Nat)(now old:Int):(Fm pa m now old).length=pa.length:=by simp[Fm]
theorem EN{j:Nat}(hj:j<pa.length):(Fm pa m now old)[j]'(by rw[C8];exact hj)=if j<m/\pa[j]=now then old else pa[j]:=by simp[Fm]
theorem Tj(pa:List Int)(now old:Int):Fm pa 0 now old=pa:=by refine List.ext_getElem (by rw[C8]) fun j h1 h2=>?_;rw[EN h2,if_neg (fun q=>by omega)]
theorem V5(hm:m<pa.length)(h:pa[m]=now):(Fm pa m now old).set m old=Fm pa (m+1) now old:=by
 refine List.ext_getElem (by rw[length_set,C8,C8]) fun j h1 h2=>?_;rw[C8]at h2;rw[List.getElem_set];by_cases e:m=j
 ·subst e;rw[if_pos rfl,EN h2,if_pos ⟨by omega,h⟩]
 ·rw[if_neg e,EN h2,EN h2];by_cases h3:j<m
  ·simp only[h3,true_and,show j<m+1 by omega]
  ·rw[if_neg (fun q=>h3 q.1),if_neg (fun q=>by omega)]
theorem XF(hm:m<pa.length)(h:pa[m]≠now):Fm pa m now old=Fm pa (m+1) now old:=by
 refine List.ext_getElem (by rw[C8,C8]) fun j h1 h2=>?_;rw[C8]at h2;rw[EN h2,EN h2];by_cases e:m=j
 ·subst e;rw[if_neg (fun q=>by omega),if_neg (fun q=>h q.2)]
 ·by_cases h3:j<m
  ·simp only[h3,true_and,show j<m+1 by omega]
  ·rw[if_neg (fun q=>h3 q.1),if_neg (fun q=>by omega)]
structure S2 where
 ids:List Int
 su:List Int
 ma:List Int
 fi:List Int
 pa:List Int
def S2.add(S:S2)(i:Nat)(id:Int):S2:=if Ei S.ids id=S.ids.length then⟨S.ids++[id],S.su++[0],S.ma++[0],S.fi++[(i:Int)],S.pa⟩ else S
def S2.hit(S:S2)(i k:Nat)(w:Int):S2:=⟨S.ids,S.su.set k (S.su.getD k 0+w),S.ma.set k (S.ma.getD k 0+1),S.fi,Fm S.pa (i+1) (S.pa.getD i 0) (S.pa.getD (S.fi.getD k 0).toNat 0)⟩
def S2.side(S:S2)(i:Nat)(w:Int)(r:Int×Int):S2:=(S.add i r.1).hit i (Ei S.ids r.1) (w*r.2)
def S2.sides(S:S2)(i:Nat)(w:Int)(l:List (Int×Int)):S2:=l.foldl (fun S r=>S.side i w r) S
theorem S2.sides_snoc(S:S2)(i:Nat)(w:Int)(l:List (Int×Int))(r:Int×Int):S.sides i w (l++[r])=(S.sides i w l).side i w r:=by unfold S2.sides;rw[List.foldl_append];rfl
def S2.start(S:S2)(i:Nat):S2:=⟨S.ids,S.su,S.ma,S.fi,S.pa.set i (i:Int)⟩
def Fc(l:List Cl)(x:Cl)(i:Nat):Cl:=l.getD (Jm l (Bl x i).1).toNat default
def G4(l:List Cl)(x:Cl):Nat->S2
 | 0=>⟨[],[],[],[],replicate x.sd.length 0⟩
 | i+1=>((G4 l x i).start i).sides i (Bl x i).2 (Fc l x i).sd
def DQ(l:List Cl)(x:Cl):Int:=
 if ¬∀y∈(G4 l x x.sd.length).su,y=0 then 24
 else if ¬∀y∈(G4 l x x.sd.length).ma,y=2 then 25
 else if ¬∀y∈(G4 l x x.sd.length).pa,y=(G4 l x x.sd.length).pa.getD 0 0 then 25 else 0
structure S2.Ok(S:S2)(T n:Nat):Prop where
 s:S.su.length=S.ids.length
 m:S.ma.length=S.ids.length
 f:S.fi.length=S.ids.length
 p:S.pa.length=n
 t:S.ids.length<=T
 sb:∀y∈S.su,-(T:Int)<=y/\y<=T
 mb:∀y∈S.ma,0<=y/\y<=T
 fb:∀y∈S.fi,0<=y/\y<n
theorem G9{a y:Int}(h:y∈l++[a]):y∈l\/y=a:=by
 rcases List.mem_append.1 h with h|h
 ·exact .inl h
 ·exact .inr (List.mem_singleton.1 h)
theorem S2.Ok.add{S:S2}(K:S.Ok T n)(hi:i<n)(id:Int):(S.add i id).Ok (T+1) n/\Ei S.ids id<(S.add i id).ids.length:=by
 have hf:=Pc S.ids id;unfold S2.add;split
 ·rename_i h;refine⟨⟨by simp[K.s],by simp[K.m],by simp[K.f],K.p,by simp[K.t],fun y hy=>?_,fun y hy=>?_,fun y hy=>?_⟩,by rw[length_append,length_singleton];omega⟩
  ·rcases G9 hy with h|rfl
   ·have:=K.sb y h;omega
   ·omega
  ·rcases G9 hy with h|rfl
   ·have:=K.mb y h;omega
   ·omega
  ·rcases G9 hy with h|rfl
   ·exact K.fb y h
   ·omega
 ·rename_i h;exact⟨⟨K.s,K.m,K.f,K.p,by have:=K.t;omega,fun y hy=>by have:=K.sb y hy;omega,fun y hy=>by have:=K.mb y hy;omega,K.fb⟩,by omega⟩
theorem N5(hk:k<l.length):l.getD k 0∈l:=by simp[List.getD,hk]
theorem S2.Ok.hit{S:S2}(K:S.Ok (T+1) n){U:S2}(KU:U.Ok T n)(hsu:∀y∈S.su,-(T:Int)<=y/\y<=T)(hma:∀y∈S.ma,0<=y/\y<=T)(hk:k<S.ids.length)(hw:w=1\/w=-1):(S.hit i k w).Ok (T+1) n:=by
 have h1:=hsu _ (N5 (show k<S.su.length by rw[K.s];exact hk));have h2:=hma _ (N5 (show k<S.ma.length by rw[K.m];exact hk));refine⟨by show(List.set _ _ _).length=_;rw[length_set];exact K.s,by show(List.set _ _ _).length=_;rw[length_set];exact K.m,K.f,by show(Fm _ _ _ _).length=_;rw[C8];exact K.p,K.t,fun y hy=>?_,fun y hy=>?_,K.fb⟩
 ·rcases List.mem_or_eq_of_mem_set hy with h|rfl
  ·exact K.sb y h
  ·rcases hw with rfl|rfl<;>omega
 ·rcases List.mem_or_eq_of_mem_set hy with h|rfl
  ·exact K.mb y h
  ·omega
theorem S2.add_su{S:S2}(K:S.Ok T n)(i:Nat)(id:Int):(∀y∈(S.add i id).su,-(T:Int)<=y/\y<=T)/\∀y∈(S.add i id).ma,0<=y/\y<=T:=by
 unfold S2.add;split
 ·refine⟨fun y hy=>?_,fun y hy=>?_⟩
  ·rcases G9 hy with h|rfl
   ·exact K.sb y h
   ·omega
  ·rcases G9 hy with h|rfl
   ·exact K.mb y h
   ·omega
 ·exact⟨K.sb,K.mb⟩
theorem S2.Ok.side{S:S2}(K:S.Ok T n)(hi:i<n){r:Int×Int}(hw:w*r.2=1\/w*r.2=-1):(S.side i w r).Ok (T+1) n:=
 S2.Ok.hit (K.add hi r.1).1 K (S2.add_su K i r.1).1 (S2.add_su K i r.1).2 (K.add hi r.1).2 hw
theorem S2.Ok.start{S:S2}(K:S.Ok T n):(S.start i).Ok T n:=⟨K.s,K.m,K.f,by show(List.set _ _ _).length=n;rw[length_set];exact K.p,K.t,K.sb,K.mb,K.fb⟩
theorem PI{a b:Int}(ha:a=1\/a=-1)(hb:b=1\/b=-1):a*b=1\/a*b=-1:=by rcases ha with rfl|rfl<;>rcases hb with rfl|rfl<;>decide
theorem S2.Ok.sides(hi:i<n)(hw:w=1\/w=-1):∀(l:List (Int×Int)) (S:S2) (T:Nat),S.Ok T n->(∀r∈l,r.2=1\/r.2=-1)->(S.sides i w l).Ok (T+l.length) n
 | [],S,T,K,_=>K
 | r::l,S,T,K,h=>by have:=S2.Ok.sides hi hw l (S.side i w r) (T+1) (K.side hi (PI hw (h r Mh))) (fun r hr=>h r (mem_cons_of_mem _ hr));rw[length_cons,show T+(l.length+1)=T+1+l.length by omega];exact this
end Go.Proofs.Q
