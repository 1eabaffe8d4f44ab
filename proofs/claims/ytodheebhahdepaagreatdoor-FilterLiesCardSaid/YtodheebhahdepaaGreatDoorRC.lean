/- A part of the proof. -/
import Derived.Test.YtodheebhahdepaaGreatDoorRB
import Derived.Test.YtodheebhahdepaaGreatDoorChecked
import Derived.KernelRfl
import Derived.WalkArith
set_option linter.unusedSimpArgs false
set_option linter.unusedVariables false
set_option linter.unusedSectionVars false
set_option maxRecDepth 100000
set_option maxHeartbeats 4000000
open List (length_map length_singleton getElem_mem replicate length_append nil_append length_take mem_cons cons_append map_append mem_cons_of_mem length_nil length_drop length_set append_assoc getElem_map length_cons take_zero drop_zero take_succ_cons drop_succ_cons not_mem_nil)
namespace Go.Eng
open Go.RowKit
section
variable {e:Entry} {Q:Exit->Act->World->Prop} {ops:Array Oper} {rest:List Oper} {o:Oper} {s:AF} {h:Hp} {ms:List Hp}
theorem Xb(z:Array Value)(n:Nat):(Builtin.zeroCells z n).toList.length=n*z.size:=by simp[Builtin.zeroCells]
theorem VG{z:Array Value}{n:Nat}(h1:∀c∈z,c.oneCell'=true):∀c∈(Builtin.zeroCells z n).toList,c.oneCell'=true:=by
 intro c hc;simp only[Builtin.zeroCells,Array.toList_map,ad]at hc;obtain⟨i,hi,rfl⟩:=hc;have hi':i<n*z.size:=by simpa using hi
 have hz:0<z.size:=by
  rcases d8 z.size with h|h
  ·rw[h]at hi';omega
  ·exact h
 have hm:=Nat.mod_lt i hz;rw[getElem!_pos z _ hm];exact h1 _ (Array.getElem_mem hm)
theorem Us{α:Type}{F:α->List Value}{t el:TypeId}{m:Hp}{v:Value}{l:List α}{x:Operand}{z:Value}{sz bytes:Nat}(i n:Nat)(O:OwnL F sz el m v l)(hn:n<=l.length)(ho:o.op=.call { callee:=.builtin .clear,args:=#[x],argTypes:=#[t] })(ht:e.P.underlying t=some (.slice el))(hs:Elem e.P el sz z bytes)(hz:z.cells.size=sz)(h1:∀c∈z.cells,c.oneCell'=true)
  (hx:ev s x=some (Cj sz v n l.length)) (hm:ms[i]?=some m) (hd:o.dst=none) (hg:o.guard=none)
  (K:∀m',OwnL F sz el m' (Cj sz v 0 n) (l.take n)->WL e ops Q rest s h (ms.set i m')):WL e ops Q (o::rest) s h ms:=by
 have hP:=O.pre hn
 have hset:ms.set i m=ms:=by
  refine List.ext_getElem? λj=>?_;rw[List.getElem?_set];split
  ·next hij=>
      subst hij;split
      ·exact hm.symm
      ·next hlt=>exact(cu ω).symm
  ·rfl
 have nothing:(∀w ty,(Builtin.clear_ #[t] ty #[Cj sz v n l.length]).run e.P w=.ok (.tuple #[]) w)->WL e ops Q (o::rest) s h ms:=λhh=>by
  refine Lo (post:=λ_ h' ms'=>h'=h/\ms'=ms) (λρ w hρ hw=>?_) hd hg λ_ _ _ ⟨e4,e5⟩=>by
   subst e4 e5;have:=K m hP
   rwa [hset]at this
  have:(execOp ρ o).run e.P w=.ok (.value (.tuple #[])) w:=by simp[execOp,ho,hρ _ _ hx,resolve,invoke,builtin,hh]
  unfold OpRes;rw[this];exact⟨h,_,hw,Y,Y⟩
 obtain⟨⟨h2,h3⟩,hF⟩:=O;rcases h3 with ⟨rfl,h5,rfl⟩|⟨g,cap,spare,rfl,rfl,h6,h7,h8⟩
 ·refine nothing λw ty=>?_
  have:Cj sz (.nl) n l.length=.slice none (l.length-n) (0-n):=by unfold Cj;simp
  rw[this];simp[Builtin.clear_,run_underlying ht]
 ·rcases d8 (l.length-n) with h0|h0
  ·refine nothing λw ty=>?_;have:∃a c,Cj sz (.slice (some ⟨g,0,none⟩) l.length cap) n l.length=.slice a 0 c:=⟨_,_,by unfold Cj;rw[h0]⟩
   obtain⟨a,c,this⟩:=this;rw[this];cases a<;>simp[Builtin.clear_,run_underlying ht]
  ·have hcn:¬cap=n:=ω
   have hvs:Cj sz (.slice (some ⟨g,0,none⟩) l.length cap) n l.length=.slice (some ⟨g,n*sz,none⟩) (l.length-n) (cap-n):=by
    unfold Cj;simp only;rw[aa hcn];have:(⟨g,0,none⟩:Addr).add (n*sz)=⟨g,n*sz,none⟩:=by unfold Addr.add;split<;>simp_all
    simp only[Option.map_some,this]
   rw[hvs]at hx;obtain⟨Z,hZ⟩:∃Z,(Builtin.zeroCells z.cells (l.length-n)).toList=Z:=⟨_,Y⟩
   have hZl:Z.length=(l.length-n)*sz:=by rw[<-hZ,Xb,hz]
   have hZ1:∀c∈Z,c.oneCell'=true:=by rw[<-hZ];exact VG h1
   have hsm:n*sz+(l.length-n)*sz=l.length*sz:=by rw[<-d5];congr 1;omega
   have hfl:(l.flatMap F).length=l.length*sz:=Bv hF l;obtain⟨L,hL⟩:∃L,l.flatMap F++spare=L:=⟨_,Y⟩
   have hLl:l.length*sz<=L.length:=by rw[<-hL,ag,hfl];omega
   have hsp:l.flatMap F=(l.take n).flatMap F++(l.drop n).flatMap F:=by rw[<-fg,it]
   have hL2:(l.take n).flatMap F++((l.drop n).flatMap F++spare)=L:=by rw[<-bp,<-hsp,hL]
   have hft:((l.take n).flatMap F).length=n*sz:=by rw[Bv hF,av,gh hn]
   have hLt:L.take (n*sz)=(l.take n).flatMap F:=by rw[<-hL2,<-hft,List.take_left]
   have hNew:L.take (n*sz)++Z++L.drop (n*sz+Z.length)=(l.take n).flatMap F++(Z++L.drop (n*sz+Z.length)):=by rw[hLt,bp]
   refine Lo (post:=λ_ h' ms'=>h'=h/\ms'=ms.set i (Bh g el (L.take (n*sz)++Z++L.drop (n*sz+Z.length)))) (λρ w hρ hw=>?_) hd hg λ_ _ _ ⟨e4,e5⟩=>by
    subst e4 e5
    have hv:Cj sz (.slice (some ⟨g,0,none⟩) l.length cap) 0 n=.slice (some ⟨g,0,none⟩) n cap:=by
     unfold Cj;by_cases h0:cap=0
     ·omega
     ·show Value.slice (if cap=0 then _ else _) (n-0) (cap-0)=_;rw[aa h0,Nat.zero_mul];rfl
    refine K _ ⟨⟨Bv hF _,.inr ⟨g,cap,Z++L.drop (n*sz+Z.length),?_,?_,?_,?_,h8⟩⟩,hF⟩
    ·rw[av,gh hn];exact hv
    ·rw[hNew]
    ·rw[<-hNew];have:(L.take (n*sz)++Z++L.drop (n*sz+Z.length)).length=L.length:=by simp;omega
     rw[this,<-hL];exact h6
    ·rw[av,gh hn];omega
   rw[hL]at hm;have hgw:w.heap[g]?=some (.cells L.toArray el (0,0)):=hw.st.own _ (du hm) g _ (Hp.one_self _ _);have hst:=run_storeCells_at (P:=e.P) g (n*sz) el Z 0 _ w hgw (by simp only[iw];omega) hZ1
   have:(execOp ρ o).run e.P w=.ok (.value (.tuple #[])) (w.setRow g (L.take (n*sz)++Z++L.drop (n*sz+Z.length)).toArray):=by
    obtain⟨q,hq⟩:∃q,l.length-n=q+1:=⟨l.length-n-1,ω⟩
    rw[hq]at hx hZ;simp[execOp,ho,hρ _ _ hx,resolve,invoke,builtin,Builtin.clear_,run_underlying ht,hs.zeroValue,hZ];simp at hst;rw[hst];rfl
   unfold OpRes;rw[this];exact⟨h,_,Ends.put hw hm Y ⟨Y,au _⟩ Y σ (setRow_heap w g _ _ _ _ hgw) (λk hk hne=>setRow_other w g k _ hne),rfl,rfl⟩
end
end Go.Eng
namespace Go.Eng
section
variable {P:Program} {o:Oper} {s:AF} {h:Hp} {ms:List Hp} {t u:TypeId} {x y:Operand}
theorem YS{a:Int}{n:Nat}{k:IntKind}(ho:o.op=.binOp .shr t x y u)(hx:ev s x=some (.int .i64 a))(hy:ev s y=some (.int k n))(hn:n<=64):OX P o s h ms (.int .i64 (a.fdiv (2^n))):=
 BJ λρ w hρ _=>by
  have h1:¬((n:Int)<0):=ω
  have h2:min n 64=n:=gh hn;simp[execOp,ho,hρ _ _ hx,hρ _ _ hy,Op.shift,h1,IntKind.bits,h2,go_sem]<;>exact(Int.fdiv_eq_ediv_of_nonneg a (Int.le_of_lt (Int.pow_pos δ))).symm
def AcD(a b:Int):Int:=IntKind.i64.wrap ((BitVec.ofInt 64 a &&& BitVec.ofInt 64 b).toNat:Int)
theorem Zl{a b:Int}(ho:o.op=.binOp .and t x y u)(hx:ev s x=some (.int .i64 a))(hy:ev s y=some (.int .i64 b)):OX P o s h ms (.int .i64 (AcD a b)):=
 BJ λρ w hρ _=>by simp[execOp,ho,hρ _ _ hx,hρ _ _ hy,Op.intBits,IntKind.bits,go_sem];rfl
end
end Go.Eng
namespace Go.Eng
variable {n:Nat} {cs:List Value}
def OwnO(el:TypeId)(sz:Nat)(m:Hp)(v:Value)(n:Nat)(cs:List Value):Prop:=
 cs.length=n*sz/\((v=.nl/\n=0/\m=Hp.emp) ∨
  ∃g cap pre spare,v=.slice (some ⟨g,pre.length,none⟩) n cap/\m=Bh g el (pre++(cs++spare))/\cap*sz<=(cs++spare).length/\n<=cap/\cap<=9223372036854775807)
theorem Own.o{el:TypeId}{sz:Nat}{m:Hp}{v:Value}(O:Own el sz m v n cs):OwnO el sz m v n cs:=by
 obtain⟨h1,h2⟩:=O;refine⟨h1,?_⟩;rcases h2 with h|⟨g,cap,spare,rfl,rfl,e1,e2,e3⟩
 ·exact .inl h
 ·exact .inr ⟨g,cap,[],spare,Y,Y,ω,e2,e3⟩
theorem OwnO.rd{el:TypeId}{sz:Nat}{m:Hp}{v:Value}(O:OwnO el sz m v n cs){h:Hp}{ms:List Hp}(hm:m∈ms):Rd h ms v sz n cs:=by
 obtain⟨h1,h2⟩:=O;rcases h2 with ⟨rfl,rfl,rfl⟩|⟨g,cap,pre,spare,rfl,rfl,e1,e2,e3⟩
 ·exact⟨none,0,Y,au _,ω,h1,λh=>ω⟩
 ·refine⟨_,cap,Y,e2,e3,h1,λ_=>⟨_,Y,λj v hv=>?_⟩⟩;obtain⟨i,hi⟩:=List.getElem?_of_mem hm
  have:Cell h ms ((⟨g,0,none⟩:Addr).add (pre.length+j)) v:=Cell.blk i hi (by
   rw[List.getElem?_append_right ω,Nat.add_sub_cancel_left,dw (bg.1 hv).1];exact hv)
  have e:(⟨g,0,none⟩:Addr).add (pre.length+j)=(⟨g,pre.length,none⟩:Addr).add j:=by unfold Addr.add;split<;>split<;>simp_all<;>omega
  rwa [e]at this
theorem OwnO.tail{el:TypeId}{sz:Nat}{m:Hp}{v:Value}(O:OwnO el sz m v (n+1) cs):OwnO el sz m (Cj sz v 1 (n+1)) n (cs.drop sz):=by
 obtain⟨h1,h2⟩:=O;have hc:sz<=cs.length:=by rw[h1,d5];omega
 refine⟨by rw[cz,h1,d5];omega,?_⟩;rcases h2 with ⟨_,h,_⟩|⟨g,cap,pre,spare,rfl,rfl,e1,e2,e3⟩
 ·omega
 ·right
  rw[ag]at e1;by_cases hcap:cap=1
  ·subst hcap;obtain rfl:n=0:=ω
   refine⟨g,0,pre,cs++spare,?_,?_,ω,ω,ω⟩
   ·simp[Cj]
   ·rw[List.drop_eq_nil_of_le ω,ay]
  ·refine⟨g,cap-1,pre++cs.take sz,spare,?_,?_,?_,ω,ω⟩
   ·simp only[Cj];rw[aa hcap,ag,av,gh hc];simp[Addr.add]
   ·rw[bp,<-bp (cs.take sz),it]
   ·rw[ag,cz,Nat.sub_mul];omega
section
variable {P:Program}
theorem J7(w:World)(t ty e:TypeId)(i:TypeInfo)(ht:P.underlying t=some (.slice e))(hi:P.info? e=some i)
  (g o sLen sCap:Nat) (cur:Array Value) (hg:w.heap[g]?=some (.cells cur e (0,0)))
  (a:Addr) (m c:Nat) (news:List Value) (hl:news.length=m*i.size) (hnews:∀j u,news[j]?=some u->w.cell? (a.add j)=some u) (h1:∀u∈news,u.oneCell'=true)
  (hroom:sLen+m<=sCap) (hfit:o+sLen*i.size+news.length<=cur.size) :
  (Builtin.append_ #[t,t] ty #[.slice (some ⟨g,o,none⟩) sLen sCap,.slice (some a) m c]).run P w =
   .ok (.slice (some ⟨g,o,none⟩) (sLen+m) sCap) (w.setRow g (cur.toList.take (o+sLen*i.size)++news++cur.toList.drop (o+sLen*i.size+news.length)).toArray):=by
 have hf:=run_firstCells_some (P:=P) w i.size m a m c news hl hnews;have hst:=run_storeCells_at P g (o+sLen*i.size) e news 0 cur w hg (by simpa using hfit) h1;simp only[Nat.add_zero]at hst;simp[Builtin.append_,run_underlying ht,sizeOf,typeInfo,hi,Builtin.lenOf,hroom,hf,Addr.add_lit,hst]
theorem QW{w0 w:World}{h0 h:Hp}{ms0 ms:List Hp}{m:Hp}(H:Ends w0 h0 ms0 w h (m::ms))(t ty el:TypeId){sz:Nat}{z:Value}{bytes:Nat}(ht:P.underlying t=some (.slice el))(hs:Elem P el sz z bytes)(hzs:z.cells.size=sz)(hsz:0<sz)
  {v x:Value} {k:Nat} {news:List Value} (O:OwnO el sz m v n cs) (R:Rd h (m::ms) x sz k news) (h1:∀u∈news,u.oneCell'=true) (hb:(n+k)*bytes<=140737488355328) (hb63:n+k<=9223372036854775807) :
  ∃v' w' m',(Builtin.append_ #[t,t] ty #[v,x]).run P w=.ok v' w'/\OwnO el sz m' v' (n+k) (cs++news)/\Ends w0 h0 ms0 w' h (m'::ms):=by
 have O0:=O;obtain⟨hcl,hO⟩:=O;rcases hO with ⟨rfl,rfl,rfl⟩|⟨g,cap,pre,spare,rfl,rfl,e1,e2,e3⟩
 ·have O1:Own el sz Hp.emp (.nl) 0 cs:=⟨hcl,.inl ⟨Y,Y,Y⟩⟩
  obtain⟨v',w',m',hr,hO',hE⟩:=Lh H t ty el ht hs hzs hsz O1 R h1 hb hb63;exact⟨v',w',m',hr,hO'.o,hE⟩
 obtain⟨a,c,rfl,hkc,hcm,hnl,hq⟩:=R.ex;obtain⟨i,hi,hz,his,hib⟩:=hs.info;rcases d8 k with rfl|hk
 ·have hnews:news=[]:=dn (by simpa using hnl);subst hnews;exact⟨_,w,_,Fu w t ty el ht hs _ a n cap c e2,by simpa using O0,H⟩
 ·obtain⟨q,rfl,hseg⟩:=hq hk;have hnews:∀j u,news[j]?=some u->w.cell? (q.add j)=some u:=λj u e=>H.st.cell (hseg j u e)
  have hcap:∀old,grownCap w (n+k) old el<=9223372036854775807/\n+k<=grownCap w (n+k) old el:=λold=>
   ⟨grownCap_le_maxLen w (n+k) old el (by simp only[maxLen];omega),grownCap_ge w (n+k) old el⟩
  have hzl:∀N,(Builtin.zeroCells z.cells N).toList.length=N*sz:=λN=>by rw[gq,size_zeroCells,hzs]
  have hgw:w.heap[g]?=some (.cells (pre++(cs++spare)).toArray el (0,0)):=H.st.own _ (List.mem_cons_self) g _ (Hp.one_self _ _);have hln:news.length=k*sz:=hnl;by_cases hroom:n+k<=cap
  ·have h2:(n+k)*sz<=cap*sz:=d7 _ hroom;rw[d5]at h2;rw[ag]at e1;have hsp:news.length<=spare.length:=ω
   have hfit:pre.length+n*i.size+news.length<=(pre++(cs++spare)).toArray.size:=by rw[his,iw,ag,ag];omega
   have hr:=J7 (P:=P) w t ty el i ht hi g pre.length n cap (pre++(cs++spare)).toArray hgw q k c news (by rw[his];exact hnl) hnews h1 hroom hfit
   have e5:(List.take (pre.length+n*i.size) (pre++(cs++spare)).toArray.toList++news++List.drop (pre.length+n*i.size+news.length) (pre++(cs++spare)).toArray.toList)=pre++(cs++news++spare.drop news.length):=by
    rw[his,<-hcl]
    have hd:List.drop (pre.length+cs.length+news.length) (pre++(cs++spare))=spare.drop news.length:=by rw[<-bp,<-List.drop_drop,<-ag,List.drop_left]
    have ht':List.take (pre.length+cs.length) (pre++(cs++spare))=pre++cs:=by rw[<-bp,<-ag,List.take_left]
    simp only[ht',hd,bp]
   rw[e5]at hr;refine⟨_,_,_,hr,⟨by rw[ag,hcl,hnl,d5],.inr ⟨g,cap,pre,spare.drop news.length,rfl,rfl,?_,hroom,e3⟩⟩,?_⟩
   ·rw[ag,ag,cz];omega
   ·exact Ends.change H Y ⟨Y,au _⟩ Y σ (setRow_heap w g _ _ _ _ hgw) (λj hj hne=>setRow_other w g j _ hne)
  ·have hR:=OwnO.rd O0 (h:=h) (ms:=Bh g el (pre++(cs++spare))::ms) (List.Mem.head _)
   have holds:∀j u,cs[j]?=some u->w.cell? ((⟨g,pre.length,none⟩:Addr).add j)=some u:=λj u hv=>by
    rcases d8 n with rfl|hn
    ·have:cs=[]:=dn (by simpa using hcl);subst this;simp at hv
    ·obtain⟨a',c',e',_,_,_,hq'⟩:=hR.ex;obtain⟨q',hq1,hq2⟩:=hq' hn;simp only[Value.slice.injEq]at e';obtain⟨e',_,_⟩:=e';rw[hq1]at e';obtain rfl:=di e';exact H.st.cell (hq2 j u hv)
   have hr:=run_append_grow (P:=P) w t ty el i z ht hi hz ⟨g,pre.length,none⟩ n cap cs (by rw[his];exact hcl) holds q k c news (by rw[his];exact hnl) hnews ω ω (by rw[hib];exact growslice_fits ω hb);refine⟨_,_,_,hr,⟨by rw[ag,hcl,hnl,d5],.inr ⟨w.heap.size,grownCap w (n+k) cap el,[],(Builtin.zeroCells z.cells (grownCap w (n+k) cap el-(n+k))).toList,rfl,rfl,?_,(hcap cap).2,(hcap cap).1⟩⟩,?_⟩
   ·rw[ag,ag,hzl,hcl,hnl,<-d5,<-d5];refine d7 _ ?_;have:=(hcap cap).2;omega
   ·have:=Ends.alloc (Ends.drew (Ends.drop H)) (.cells (cs.toArray++news.toArray++Builtin.zeroCells z.cells (grownCap w (n+k) cap el-(n+k))) el)
    have e:([]++(cs++news++(Builtin.zeroCells z.cells (grownCap w (n+k) cap el-(n+k))).toList)).toArray=cs.toArray++news.toArray++Builtin.zeroCells z.cells (grownCap w (n+k) cap el-(n+k)):=by apply Array.ext';simp
    unfold Bh;rw[e];exact this
end
structure OwnQ{α:Type}(F:α->List Value)(sz:Nat)(el:TypeId)(m:Hp)(v:Value)(l:List α):Prop where
 own:OwnO el sz m v l.length (l.flatMap F)
 len:∀x,(F x).length=sz
section
variable {α:Type} {F:α->List Value} {sz:Nat} {h:Hp} {ms:List Hp} {v:Value} {l:List α} {el:TypeId} {m:Hp}
theorem OwnL.q(O:OwnL F sz el m v l):OwnQ F sz el m v l:=⟨O.own.o,O.len⟩
theorem OwnQ.rd(O:OwnQ F sz el m v l)(hm:m∈ms):RdL F sz h ms v l:=⟨O.own.rd hm,O.len⟩
theorem OwnQ.o1(O:OwnQ F sz el m v l):v.oneCell'=true:=(O.rd (h:=Hp.emp) (ms:=[m]) (List.Mem.head _)).rd.one
theorem OwnQ.tail{x:α}(O:OwnQ F sz el m v (x::l)):OwnQ F sz el m (Cj sz v 1 (l.length+1)) l:=by have:=OwnO.tail (n:=l.length) (cs:=(x::l).flatMap F) O.own;rw[List.flatMap_cons,<-O.len x,List.drop_left,O.len x]at this;exact⟨this,O.len⟩
theorem Mo{e:Entry}{Q:Exit->Act->World->Prop}{ops:Array Oper}{rest:List Oper}{o:Oper}{s:AF}{t:TypeId}{d:Nat}{z:Value}{bytes:Nat}{x y:Operand}{u:Value}{r:List α}(i:Nat)(O:OwnQ F sz el m v l)(R:RdL F sz h ms u r)(ho:o.op=.call { callee:=.builtin .append,args:=#[x,y],argTypes:=#[t,t] })(ht:e.P.underlying t=some (.slice el))(hs:Elem e.P el sz z bytes)(hzs:z.cells.size=sz)(hsz:0<sz)
  (hx:ev s x=some v) (hy:ev s y=some u) (hm:ms[i]?=some m) (h1:∀a∈r,∀c∈F a,c.oneCell'=true) (hb:(l.length+r.length)*bytes<=140737488355328) (hb63:l.length+r.length<=9223372036854775807) (hd:o.dst=some d) (hn:Nat.blt d e.n=true) (hg:o.guard=none)
  (K:∀v' m',OwnQ F sz el m' v' (l++r)->WL e ops Q rest ((d,v')::s) h (ms.set i m')):WL e ops Q (o::rest) s h ms:=
 Ix (post:=λv' h' ms'=>∃m',h'=h/\ms'=ms.set i m'/\OwnO el sz m' v' (l.length+r.length) (l.flatMap F++r.flatMap F)) (λρ w hρ hw=>by
  obtain⟨r',p1,_⟩:=Gn ms i m m hm;obtain⟨v',w',m',hr,hO,hE⟩:=QW (P:=e.P) (Ends.perm hw p1) t o.type el ht hs hzs hsz O.own (R.rd.sub (λm hm=>p1.mem_iff.1 hm)) (λc hc=>by obtain⟨a,hm',ha⟩:=List.mem_flatMap.1 hc;exact h1 a hm' c ha) hb hb63
  have:(execOp ρ o).run e.P w=.ok (.value v') w':=by simp[execOp,ho,hρ _ _ hx,hρ _ _ hy,resolve,invoke,builtin,hr]
  unfold OpRes;rw[this];obtain⟨r'',q1,q2⟩:=Gn ms i m m' hm;have pr:(m'::r').Perm (ms.set i m'):=((List.Perm.cons_inv (p1.symm.trans q1)).cons m').trans q2.symm
  exact⟨h,_,Ends.perm hE pr,m',Y,Y,hO⟩) hd hn hg λv' h' ms' ⟨m',e1,e2,e3⟩=>by subst e1 e2;exact K v' m' ⟨by rw[ag,fg];exact e3,O.len⟩
end
end Go.Eng

namespace Go.Eng
theorem FnT.borrow{P:Program}{f:FuncId}{args:Array Value}{h m:Hp}{post:Hp->Value->Hp->List Hp->Prop}(kf:∀hj,h.le hj->m.le hj->FnT P f args hj [] (post hj)) :
  FnT P f args h [m] (λr h' ms'=>h.le h'/\∃hj h2 ms2,h.le hj/\post hj r h2 ms2/\h'.le h2/\ms'=m::ms2/\∀h3:Hp,h3.le h2->m.disj h3->h3.le h'):=by
 intro w hw;have hd:m.disj h:=hw.off m (List.Mem.head _);have E0:=Ends.freeze (Ends.refl hw);refine(kf _ (Hp.le_join _ _) (Hp.join_le_right hd) w E0.st).mono λx w' ⟨r,h2,ms2,e1,E,hp⟩=>?_;have hm2:m.le h2:=Hp.le_trans (Hp.join_le_right hd) E.le;have hh2:h.le h2:=Hp.le_trans (Hp.le_join _ _) E.le
 have hdh:h.le (λk=>if m k=none then h2 k else none):=λk o e=>by
  show(if m k=none then h2 k else none)=some o;rcases hd k with h1|h1
  ·rw[ac h1];exact hh2 k o e
  ·rw[h1]at e;cases e
 refine⟨r,λk=>if m k=none then h2 k else none,m::ms2,e1,?_,hdh,h.join m,h2,ms2,Hp.le_join _ _,hp,λk o e=>?_,Y,λh3 l3 d3 k o e=>?_⟩
 ·refine⟨⟨λk o e=>?_,λm' hm'=>?_,λm' hm' k=>?_,bj.2 ⟨λm' hm' k=>?_,E.st.apart⟩⟩,E.os,E.tape,E.output,E.size,λk hk _=>E.block k hk σ,hdh,λk hk hm=>?_,λm' hm' k hk hn=>?_⟩
  ·have e:(if m k=none then h2 k else none)=some o:=e;split at e
   ·exact E.st.imm k o e
   ·cases e
  ·rcases aq.1 hm' with rfl|hm'
   ·exact λk o e=>E.st.imm k o (hm2 k o e)
   ·exact E.st.own m' hm'
  ·show m' k=none\/(if m k=none then h2 k else none)=none;rcases aq.1 hm' with rfl|hm'
   ·by_cases h1:m' k=none
    ·exact .inl h1
    ·right;rw[aa h1]
   ·rcases E.st.off m' hm' k with h1|h1
    ·exact .inl h1
    ·right;rw[h1];split<;>rfl
  ·rcases E.st.off m' hm' k with h1|h1
   ·exact .inr h1
   ·left
    cases e:m k with
    | none=>rfl
    | some o=>rw[hm2 k o e]at h1;cases h1
  ·have hmk:m k=none:=hm m (List.Mem.head _);show(if m k=none then h2 k else none)=h k;rw[ac hmk,E.hnew k hk σ];unfold Hp.join;cases h k with
   | none=>exact hmk
   | some o=>rfl
  ·rcases aq.1 hm' with rfl|hm'
   ·exact⟨m',List.Mem.head _,hn⟩
   ·obtain⟨m0,h0,_⟩:=E.mnew m' hm' k hk hn;cases h0
 ·have e:(if m k=none then h2 k else none)=some o:=e;split at e
  ·exact e
  ·cases e
 ·show(if m k=none then h2 k else none)=some o;rcases d3 k with h1|h1
  ·rw[ac h1];exact l3 k o e
  ·rw[h1]at e;cases e
open Go.RowKit
section
variable {P:Program} {w0:World} {h0 h:Hp} {ms0 ms:List Hp} {n:Nat} {fn:Func} {post:Value->Hp->List Hp->Prop} {s:AF}
theorem WN{t1 t2 a b g1 g2 sz bytes:Nat}{ty el1 el2:TypeId}{d:TypeDesc}{z va vb:Value}{vs1 vs2:List Value}(i j:Nat)(hr:fn.results=#[.tmp a,.cell t1 ty,.cell t2 ty,.tmp b])(hva:lk s a=some va)(hv1:lk s t1=some (.pointer (some ⟨g1,0,none⟩)))(hv2:lk s t2=some (.pointer (some ⟨g2,0,none⟩)))(hvb:lk s b=some vb)(ht:P.underlying ty=some d)(hd:Iz d=true)(hs:Elem P ty sz z bytes)(hl1:vs1.length=sz)(hl2:vs2.length=sz)(hc1:ms[i]?=some (Bh g1 el1 vs1))(hc2:(ms.eraseIdx i)[j]?=some (Bh g2 el2 vs2))(hp:post (.tuple #[va,.agg vs1.toArray,.agg vs2.toArray,vb]) h ((ms.eraseIdx i).eraseIdx j)) :
  NX ⟨P,w0,h0,ms0,n,[]⟩ (bodyPost P fn (RP w0 h0 ms0 post)) .ret s h ms:=λx w hx hw=>by
 have e1:x.tmps[t1]?.getD undef=.pt g1:=by rw[hx.slots t1 _ hv1];rfl
 have e2:x.tmps[t2]?.getD undef=.pt g2:=by rw[hx.slots t2 _ hv2];rfl
 have e3:x.tmps[a]?.getD undef=va:=by rw[hx.slots a _ hva];rfl
 have e4:x.tmps[b]?.getD undef=vb:=by rw[hx.slots b _ hvb];rfl
 have hag:(isAgg ty).run P w=.ok true w:=by rw[En ht,hd]
 obtain⟨k,hk⟩:=List.getElem?_of_mem (List.mem_of_mem_eraseIdx (du hc2));have hc1':∀j v,vs1[j]?=some v->w.cell? ((⟨g1,0,none⟩:Addr).add j)=some v:=λj v e=>hw.st.cell (Seg.blk i hc1 j v e);have hc2':∀j v,vs2[j]?=some v->w.cell? ((⟨g2,0,none⟩:Addr).add j)=some v:=λj v e=>hw.st.cell (Seg.blk k hk j v e);refine bodyPost_ret (v:=.tuple #[va,.agg vs1.toArray,.agg vs2.toArray,vb]) ?_ hx.defers ⟨_,h,_,Y,Ends.erase (Ends.erase hw hc1) hc2,hp⟩;have r1:=run_loadCells_list (P:=P) w _ vs1 hc1';have r2:=run_loadCells_list (P:=P) w _ vs2 hc2';rw[hl1]at r1;rw[hl2]at r2;simp[results,hr,e1,e2,e3,e4,asAddr,loadVar,hag,hs.sizeOf,r1,r2]
end
end Go.Eng
namespace Go.Eng
open Go.RowKit
variable {h:Hp}
theorem Ends.none{w0 w:World}{h0:Hp}{ms0:List Hp}:∀{ms:List Hp},Ends w0 h0 ms0 w h ms->Ends w0 h0 ms0 w h []
 | [],H=>H
 | _::_,H=>Ends.none H.drop
theorem FnT.drops{P:Program}{f:FuncId}{args:Array Value}{ms:List Hp}{post:Value->Hp->List Hp->Prop}(k:FnT P f args h ms post):FnT P f args h ms (λr h' ms'=>ms'=[]/\∃q,post r h' q):=
 λw hw=>(k w hw).mono λ_ _ ⟨r,h',ms',e1,e2,e3⟩=>⟨r,h',[],e1,e2.none,rfl,ms',e3⟩
theorem FnT.le{P:Program}{f:FuncId}{args:Array Value}{ms:List Hp}{post:Value->Hp->List Hp->Prop}(k:FnT P f args h ms post):FnT P f args h ms (λr h' ms'=>h.le h'/\post r h' ms'):=
 λw hw=>(k w hw).mono λ_ _ ⟨r,h',ms',e1,e2,e3⟩=>⟨r,h',ms',e1,e2,e2.le,e3⟩
end Go.Eng

namespace Go.Eng
open Go.RowKit
theorem Bo{e:Entry}{Q:Exit->Act->World->Prop}{s:AF}{h:Hp}{ms:List Hp}{el:TypeId}{x:Exit}{g:Nat}{cs:List Value}(k:∀h',h.le h'->Seg h' [] ⟨g,0,none⟩ cs->NX e Q x s h' ms):NX e Q x s h (Bh g el cs::ms):=
 λa w ha hw=>k _ (Hp.le_join _ _) (λj u hu=>⟨by unfold Addr.add;split<;>rfl,cs.toArray,el,(0,0),.inl (by
  rw[Dn]
  exact(Hp.join_le_right (hw.st.off _ List.mem_cons_self)) _ _ (Hp.one_self _ _)),by rw[DY];simpa using hu⟩) a w ha (Ends.freeze hw)
theorem Qs{s' s:AF}(h:Eng.Sub s' s:=by repeat (first|exact ff|refine⟨rfl,?_⟩)):Eng.Sub s' s:=h
theorem Qt{f:Nat->Option (Nat×Nat)}{n:Nat}{vs:List (Nat×Value)}{ps:List (Nat×List Value)}(h:G4 f n vs ps:=by repeat (first|exact ff|refine⟨⟨by rfl,rfl,rfl⟩,?_⟩)):G4 f n vs ps:=h
def dg(n:Nat)(o:Oper):Option Nat:=match o.dst,o.guard with
 | some d,none=>match Nat.blt d n with
  | true=>some d
  | false=>none
 | _,_=>none
theorem KH{n d:Nat}{o:Oper}(h:dg n o=some d):o.dst=some d/\Nat.blt d n=true/\o.guard=none:=by
 unfold dg at h;split at h
 ·rename_i d' h1 h2;split at h
  ·rename_i h3;cases h;exact⟨h1,h3,h2⟩
  ·cases h
 ·cases h
def mv(s:AF)(o:Oper):Option Value:=match o.op with
 | .move x=>ev s x
 | .assign x=>ev s x
 | .nilCheck x=>match ev s x with
  | some (.pointer (some p))=>some (.pointer (some p))
  | _=>none
 | .extract x i=>match ev s x with
  | some (.tuple vs)=>vs[i]?
  | _=>none
 | .pick c x y=>match ev s c with
  | some (.bool true)=>ev s x
  | some (.bool false)=>ev s y
  | _=>none
 | .unOp .not _ x=>match ev s x with
  | some (.bool a)=>some (.bool (!a))
  | _=>none
 | .binOp b _ x y _=>match b,ev s x,ev s y with
  | .lss,some (.int k a),some (.int k' b)=>if k=k' then some (.bool (decide (a<b))) else none
  | .leq,some (.int k a),some (.int k' b)=>if k=k' then some (.bool (decide (a<=b))) else none
  | .gtr,some (.int k a),some (.int k' b)=>if k=k' then some (.bool (decide (b<a))) else none
  | .geq,some (.int k a),some (.int k' b)=>if k=k' then some (.bool (decide (b<=a))) else none
  | .eql,some (.int k a),some (.int k' b)=>if k=k' then some (.bool (decide (a=b))) else none
  | .neq,some (.int k a),some (.int k' b)=>if k=k' then some (.bool (decide (a≠b))) else none
  | _,_,_=>none
 | _=>none
theorem XW{P:Program}{s:AF}{h:Hp}{ms:List Hp}{o:Oper}{v:Value}(hv:mv s o=some v):OX P o s h ms v:=by
 unfold mv at hv;split at hv
 ·rename_i h1;exact Ar h1 hv
 ·rename_i h1;exact GD h1 hv
 ·rename_i h1;split at hv
  ·rename_i h2;cases hv;exact PU h1 h2
  ·cases hv
 ·rename_i h1;split at hv
  ·rename_i h2;exact BX h1 h2 hv
  ·cases hv
 ·rename_i h1;split at hv
  ·rename_i h2;exact Cp h1 h2 hv
  ·rename_i h2;exact Ch h1 h2 hv
  ·cases hv
 ·rename_i h1;split at hv
  ·rename_i h2;cases hv;exact DB h1 h2
  ·cases hv
 ·rename_i h1;split at hv<;>first|(split at hv<;>first|(rename_i h2 h3 h4;subst h4;cases hv;first|exact DA h1 h2 h3|exact JQ h1 h2 h3|exact Ct h1 h2 h3|exact HE h1 h2 h3|exact CO h1 h2 h3|exact B8 h1 h2 h3)|cases hv)|cases hv
 ·cases hv
def gd(ops:Array Oper)(n:Nat)(s:AF)(o:Oper)(w:Bool):Option Nat:=match o.dst,o.guard with
 | some d,some (j,b)=>match Nat.blt d n,ops[j]? with
  | true,some oj=>match oj.dst with
   | some dj=>match lk s dj with
    | some (.bool b')=>match (b'==b)==w with
     | true=>some d
     | false=>none
    | _=>none
   | none=>none
  | _,_=>none
 | _,_=>none
theorem Tn{ops:Array Oper}{n d:Nat}{s:AF}{o:Oper}{w:Bool}(h:gd ops n s o w=some d):∃j b oj dj b',o.dst=some d/\Nat.blt d n=true/\o.guard=some (j,b)/\ops[j]?=some oj/\oj.dst=some dj/\lk s dj=some (.bool b')/\(b'==b)=w:=by
 unfold gd at h;split at h
 ·rename_i d' j b h1 h2;split at h
  ·rename_i oj h3 h4;split at h
   ·rename_i dj h5;split at h
    ·rename_i b' h6;split at h
     ·rename_i h7;cases h;exact⟨j,b,oj,dj,b',h1,h3,h2,h4,h5,h6,by simpa using h7⟩
     ·cases h
    ·cases h
   ·cases h
  ·cases h
 ·cases h
section
variable {e:Entry} {Q:Exit->Act->World->Prop} {s:AF} {h h0:Hp} {ms:List Hp} {ops:Array Oper} {listed:Array Bool} {fuel:Nat} {o:Oper} {rest:List Oper} {v:Value} {d:Nat}
theorem Qx(hx:OX e.P o s h ms v)(hd:dg e.n o=some d)(k:WL e ops Q rest ((d,v)::s) h ms):WL e ops Q (o::rest) s h ms:=
 let ⟨h1,h2,h3⟩:=KH hd
 Ack hx h1 h2 h3 k
def mvd(n:Nat)(s:AF)(o:Oper):Option (Nat×Value):=match dg n o,mv s o with
 | some d,some v=>some (d,v)
 | _,_=>none
theorem Qm(hm:mvd e.n s o=some (d,v))(k:WL e ops Q rest ((d,v)::s) h ms):WL e ops Q (o::rest) s h ms:=by
 obtain⟨hd,hv⟩:dg e.n o=some d/\mv s o=some v:=by
  unfold mvd at hm;split at hm
  ·rename_i h1 h2;cases hm;exact⟨h1,h2⟩
  ·cases hm
 exact Qx (XW hv) hd k
theorem Qk(hd:gd ops e.n s o false=some d)(k:WL e ops Q rest ((d,undef)::s) h ms):WL e ops Q (o::rest) s h ms:=
 let ⟨_,_,_,_,_,h1,h2,h3,h4,h5,h6,h7⟩:=Tn hd
 YR h1 h2 h3 h4 h5 h6 h7 k
theorem Qg(hx:OX e.P o s h ms v)(hd:gd ops e.n s o true=some d)(k:WL e ops Q rest ((d,v)::s) h ms):WL e ops Q (o::rest) s h ms:=
 let ⟨_,_,_,_,_,h1,h2,h3,h4,h5,h6,h7⟩:=Tn hd
 Aam hx h1 h2 h3 h4 h5 (by rw[h6];congr 2;simpa using h7) k
theorem Qw(k:WB e ops Q h fuel listed s h ms):WL e ops (QB e ops Q h fuel listed) [] s h ms:=Ak (Aaz (Hp.le_refl _) k)
theorem Qa(k:WB e ops Q h0 fuel listed s h ms)(hl:h0.le h:=by assumption):WL e ops (QB e ops Q h0 fuel listed) [] s h ms:=Ak (Aaz hl k)
theorem Qo(i:Nat)(ho:ops[i]?=some o)(k:WL e ops (QB e ops Q h0 fuel (listed.setIfInBounds i true)) [o] s h ms)(hr:Region.ready .any ops listed=[i]:=by kernel_rfl):WB e ops Q h0 (fuel+1) listed s h ms:=Bf [i] hr rfl (AD ho k Be)
theorem Qe(k:NX e Q .normal s h ms)(hr:Region.ready .any ops listed=[]:=by kernel_rfl):WB e ops Q h0 fuel listed s h ms:=Aa5 hr k
theorem Am{y:Code}(k:WS e y Q s h ms):WL e ops (Exit.then (λa w=>y.wp e.P Q a w) Q) [] s h ms:=Ak (Ad k)
theorem Aq{id:Nat}{l:List Oper}{y:Code}(k:WL e l.toArray (Exit.then (λa w=>y.wp e.P Q a w) Q) l s h ms):WS e (.seq (.region id l.toArray false) y) Q s h ms:=Ac (Ab k)
theorem BM{id:Nat}{l:List Oper}{y:Code}(k:WL e l.toArray (Exit.then (λa w=>y.wp e.P Q a w) Q) l s h ms):WL e ops (Exit.then (λa w=>(Code.seq (.region id l.toArray false) y).wp e.P Q a w) Q) [] s h ms:=Ak (Ad (Ac (Ab k)))
theorem Gl{id:Nat}{l:List Oper}(k:WL e l.toArray Q l s h ms):WL e ops (Exit.then (λa w=>(Code.region id l.toArray false).wp e.P Q a w) Q) [] s h ms:=Ak (Ad (Ab k))
theorem Cx{t:TypeId}{sz:Nat}{z:Value}{bytes:Nat}(zl:List Value)(ho:o.op=.alloc t)(hs:Elem e.P t sz z bytes)(hz:z.cells=zl.toArray)(hd:dg e.n o=some d)(k:∀g,WL e ops Q rest ((d,.pointer (some ⟨g,0,none⟩))::s) h (Bh g t zl::ms)):WL e ops Q (o::rest) s h ms:=
 let ⟨h1,h2,h3⟩:=KH hd
 XU zl ho hs hz h1 h2 h3 k
end
def pzo(l:List Oper)(n:Nat)(zs:AF)(i:Nat):Option (Oper×Nat):=match l[i]? with
 | some o=>match dg n o with
  | some d=>match lk zs d with
   | none=>some (o,d)
   | some _=>none
  | none=>none
 | none=>none
theorem Qp{P:Program}{l:List Oper}{n:Nat}{s z:AF}{h0:Hp}{K:AF->Prop}{r:List Nat}{i d:Nat}{o:Oper}{v:Value}(ho:pzo l n (z++s) i=some (o,d))(hx:OX P o (z++s) h0 [] v)(k:Fm P l n s h0 K r ((d,v)::z)):Fm P l n s h0 K (i::r) z:=by
 unfold pzo at ho;split at ho
 ·rename_i o' h1;split at ho
  ·rename_i d' h2;split at ho
   ·rename_i h3;cases ho;obtain⟨h4,h5,_⟩:=KH h2;exact Acj h1 h4 h5 h3 hx k
   ·cases ho
  ·cases ho
 ·cases ho
def pzm(l:List Oper)(n:Nat)(zs:AF)(i:Nat):Option (Nat×Value):=match pzo l n zs i with
 | some (o,d)=>match mv zs o with
  | some v=>some (d,v)
  | none=>none
 | none=>none
def ldv(s:AF)(o:Oper):Option (TypeId×Addr):=match o.op with
 | .load t x=>match ev s x with
  | some (.pointer (some p))=>some (t,p)
  | _=>none
 | _=>none
theorem Pz{s:AF}{o:Oper}{t:TypeId}{p:Addr}(h:ldv s o=some (t,p)):∃x,o.op=.load t x/\ev s x=some (.pointer (some p)):=by
 unfold ldv at h;split at h
 ·rename_i t' x h1;split at h
  ·rename_i h2;cases h;exact⟨x,h1,h2⟩
  ·cases h
 ·cases h
def fav(s:AF)(o:Oper):Option (TypeId×Nat×Addr):=match o.op with
 | .fieldAddr t x i=>match ev s x with
  | some (.pointer (some p))=>some (t,i,p)
  | _=>none
 | _=>none
theorem V2{s:AF}{o:Oper}{t:TypeId}{i:Nat}{p:Addr}(h:fav s o=some (t,i,p)):∃x,o.op=.fieldAddr t x i/\ev s x=some (.pointer (some p)):=by
 unfold fav at h;split at h
 ·rename_i t' x i' h1;split at h
  ·rename_i h2;cases h;exact⟨x,h1,h2⟩
  ·cases h
 ·cases h
def wd(o:Oper):Option Nat:=match o.dst,o.guard with
 | some d,none=>some d
 | _,_=>none
theorem OJ{o:Oper}{d:Nat}(h:wd o=some d):o.dst=some d/\o.guard=none:=by
 unfold wd at h;split at h
 ·rename_i h1 h2;cases h;exact⟨h1,h2⟩
 ·cases h
section
variable {P:Program} {l:List Oper} {n:Nat} {s z:AF} {h h0:Hp} {ms:List Hp} {K:AF->Prop} {r:List Nat} {i d:Nat} {o:Oper} {v:Value} {t:TypeId} {p:Addr} {D:TypeDesc}
theorem Qq(hm:pzm l n (z++s) i=some (d,v))(k:Fm P l n s h0 K r ((d,v)::z)):Fm P l n s h0 K (i::r) z:=by
 unfold pzm at hm;split at hm
 ·rename_i h1;split at hm
  ·rename_i h2;cases hm;exact Qp h1 (XW h2) k
  ·cases hm
 ·cases hm
def ad2{α:Type}(a:Option (Oper×Nat))(f:Oper->Option α):Option (α×Nat):=match a with
 | some (o,d)=>match f o with
  | some x=>some (x,d)
  | none=>none
 | none=>none
theorem PR{α:Type}{a:Option (Oper×Nat)}{f:Oper->Option α}{x:α}{d:Nat}(h:ad2 a f=some (x,d)):∃o,a=some (o,d)/\f o=some x:=by
 unfold ad2 at h;split at h
 ·rename_i o' d';split at h
  ·rename_i h2;cases h;exact⟨_,Y,h2⟩
  ·cases h
 ·cases h
theorem oL(hm:ldv s o=some (t,p))(ht:P.underlying t=some D)(hc:Cell h ms p v)(ha:Iz D=false:=by rfl):OX P o s h ms v:=
 let ⟨_,h1,h2⟩:=Pz hm
 YH h1 ht ha h2 hc
theorem oG{z:Value}{sz bytes:Nat}{vs:List Value}(hm:ldv s o=some (t,p))(ht:P.underlying t=some D)(hs:Elem P t sz z bytes)(hc:Seg h ms p vs)(ha:Iz D=true:=by rfl)(hl:vs.length=sz:=by rfl):OX P o s h ms (.agg vs.toArray):=
 let ⟨_,h1,h2⟩:=Pz hm
 Yg h1 ht ha hs hl h2 hc
theorem oF{j off:Nat}(F:E5 P t j off)(hm:fav s o=some (t,j,p)):OX P o s h ms (.pointer (some (p.add off))):=
 let ⟨_,h1,h2⟩:=V2 hm
 UM F h1 h2
theorem QL(hm:ad2 (pzo l n (z++s) i) (ldv (z++s))=some ((t,p),d))(ht:P.underlying t=some D)(hc:Cell h0 [] p v)(k:Fm P l n s h0 K r ((d,v)::z))(ha:Iz D=false:=by rfl):Fm P l n s h0 K (i::r) z:=
 let ⟨_,h1,h2⟩:=PR hm
 Qp h1 (oL h2 ht hc ha) k
theorem QF{j off:Nat}(F:E5 P t j off)(hm:ad2 (pzo l n (z++s) i) (fav (z++s))=some ((t,j,p),d))(k:Fm P l n s h0 K r ((d,.pointer (some (p.add off)))::z)):Fm P l n s h0 K (i::r) z:=
 let ⟨_,h1,h2⟩:=PR hm
 Qp h1 (oF F h2) k
end
def bn(s:AF)(o:Oper):Option (BinOp×Int×Int):=match o.op with
 | .binOp b _ x y _=>match ev s x,ev s y with
  | some (.w a),some (.w c)=>some (b,a,c)
  | _,_=>none
 | _=>none
theorem N7{s:AF}{o:Oper}{b:BinOp}{a c:Int}(h:bn s o=some (b,a,c)):∃t x y u,o.op=.binOp b t x y u/\ev s x=some (.int .i64 a)/\ev s y=some (.int .i64 c):=by
 unfold bn at h;split at h
 ·rename_i b' t x y u h1;split at h
  ·rename_i h2 h3;cases h;exact⟨t,x,y,u,h1,h2,h3⟩
  ·cases h
 ·cases h
section
variable {P:Program} {s:AF} {h:Hp} {ms:List Hp} {o:Oper} {a b:Int}
theorem oA(hm:bn s o=some (.add,a,b))(hr:-9223372036854775808<=a+b/\a+b<=9223372036854775807:=by omega):OX P o s h ms (.int .i64 (a+b)):=
 let ⟨_,_,_,_,h1,h2,h3⟩:=N7 hm
 Abv h1 h2 h3 hr
theorem oS(hm:bn s o=some (.sub,a,b))(hr:-9223372036854775808<=a-b/\a-b<=9223372036854775807:=by omega):OX P o s h ms (.int .i64 (a-b)):=
 let ⟨_,_,_,_,h1,h2,h3⟩:=N7 hm
 Abe h1 h2 h3 hr
theorem oM(hm:bn s o=some (.mul,a,b))(hr:-9223372036854775808<=a*b/\a*b<=9223372036854775807:=by omega):OX P o s h ms (.int .i64 (a*b)):=
 let ⟨_,_,_,_,h1,h2,h3⟩:=N7 hm
 Abq h1 h2 h3 hr
end
def stv(s:AF)(o:Oper):Option (TypeId×Addr×Value):=match o.op,o.dst,o.guard with
 | .store t x y,none,none=>match ev s x,ev s y with
  | some (.pointer (some p)),some v=>some (t,p,v)
  | _,_=>none
 | _,_,_=>none
theorem Wr{s:AF}{o:Oper}{t:TypeId}{p:Addr}{v:Value}(h:stv s o=some (t,p,v)):∃x y,o.op=.store t x y/\ev s x=some (.pointer (some p))/\ev s y=some v/\o.dst=none/\o.guard=none:=by
 unfold stv at h;split at h
 ·rename_i t' x y h1 h2 h3;split at h
  ·rename_i h4 h5;cases h;exact⟨x,y,h1,h4,h5,h2,h3⟩
  ·cases h
 ·cases h
def cav(s:AF)(o:Oper):Option (FuncId×List Value):=match o.op with
 | .call c=>match c.callee,Q6 s c.args.toList with
  | .value (.func f),some vs=>some (f,vs)
  | _,_=>none
 | _=>none
theorem XD{s:AF}{o:Oper}{f:FuncId}{vs:List Value}(h:cav s o=some (f,vs)):∃l ts,o.op=.call { callee:=.value (.func f),args:=List.toArray l,argTypes:=ts }/\Q6 s l=some vs:=by
 unfold cav at h;split at h
 ·rename_i c h1;split at h
  ·rename_i f' vs' h2 h3;cases h;obtain⟨ce,az,ts⟩:=c;simp only at h2 h3;subst h2;exact⟨az.toList,ts,by rw[h1,Array.toArray_toList],h3⟩
  ·cases h
 ·cases h
section
variable {e:Entry} {Q:Exit->Act->World->Prop} {s:AF} {h:Hp} {ms:List Hp} {ops:Array Oper} {o:Oper} {rest l:List Oper} {v:Value} {d:Nat} {t:TypeId} {p:Addr} {D:TypeDesc}
theorem Ql(hm:(ldv s o,dg e.n o)=(some (t,p),some d))(ht:e.P.underlying t=some D)(hc:Cell h ms p v)(k:WL e ops Q rest ((d,v)::s) h ms)(ha:Iz D=false:=by rfl):WL e ops Q (o::rest) s h ms:=
 let ⟨h1,h2⟩:=Prod.mk.inj hm
 Qx (oL h1 ht hc ha) h2 k
theorem Qf{j off:Nat}(F:E5 e.P t j off)(hm:(fav s o,dg e.n o)=(some (t,j,p),some d))(k:WL e ops Q rest ((d,.pointer (some (p.add off)))::s) h ms):WL e ops Q (o::rest) s h ms:=
 let ⟨h1,h2⟩:=Prod.mk.inj hm
 Qx (oF F h1) h2 k
theorem Sa{el:TypeId}{z:Value}{sz bytes g:Nat}{l:List Value}(i:Nat)(vl:List Value)(hs:Elem e.P t sz z bytes)(hm:(stv s o,v.cells,ms[i]?,vl.length,l.length)=(some (t,⟨g,0,none⟩,v),vl.toArray,some (Bh g el l),sz,sz))(h1:∀u∈vl,u.oneCell'=true)(K:WL e ops Q rest s h (ms.set i (Bh g el vl))):WL e ops Q (o::rest) s h ms:=by simp only[Prod.mk.injEq]at hm;obtain⟨q1,q2,q3,q4,q5⟩:=hm;obtain⟨x,y,r1,r2,r3,r4,r5⟩:=Wr q1;exact QC i vl r1 hs r2 r3 q2 h1 q3 q4 q5 r4 r5 K
theorem Qc{f:FuncId}{vs:List Value}{post:Value->Hp->List Hp->Prop}(hc:∀az w,(callFunc f az).run e.P w=.ok (.enter f az) w)(hm:(cav s o,dg e.n o)=(some (f,vs),some d))(k:FnT e.P f vs.toArray h [] post)(K:∀v h' pre',h.le h'->post v h' pre'->WL e ops Q rest ((d,v)::s) h' (pre'++ms)):WL e ops Q (o::rest) s h ms:=by obtain⟨h1,h2⟩:=Prod.mk.inj hm;obtain⟨l,ts,h3,h4⟩:=XD h1;obtain⟨h5,h6,h7⟩:=KH h2;exact ZW h3 hc h4 k h5 h6 h7 K
variable {tl:List Oper} {q:List (Nat×VP)} {al:List (Nat×Nb)}
theorem Wm(hm:(wd o,mv s o)=(some d,some v))(k:WR e ops Q tl h ms l ((d,v)::s) q al):WR e ops Q tl h ms (o::l) s q al:=
 let ⟨h1,h2⟩:=Prod.mk.inj hm
 let ⟨h3,h4⟩:=OJ h1
 AM (XW h2) h3 h4 k
theorem Wf{j off:Nat}(F:E5 e.P t j off)(hm:(wd o,fav s o)=(some d,some (t,j,p)))(k:WR e ops Q tl h ms l ((d,.pointer (some (p.add off)))::s) q al):WR e ops Q tl h ms (o::l) s q al:=
 let ⟨h1,h2⟩:=Prod.mk.inj hm
 let ⟨h3,h4⟩:=OJ h1
 AM (oF F h2) h3 h4 k
theorem Wl(hm:(wd o,ldv s o)=(some d,some (t,p)))(ht:e.P.underlying t=some D)(hc:Cell h ms p v)(k:WR e ops Q tl h ms l ((d,v)::s) q al)(ha:Iz D=false:=by rfl):WR e ops Q tl h ms (o::l) s q al:=
 let ⟨h1,h2⟩:=Prod.mk.inj hm
 let ⟨h3,h4⟩:=OJ h1
 AM (oL h2 ht hc ha) h3 h4 k
end
theorem OwnL.o1{α:Type _}{F:α->List Value}{sz:Nat}{el:TypeId}{m:Hp}{v:Value}{l:List α}(O:OwnL F sz el m v l):v.oneCell'=true:=(O.rd (h:=Hp.emp) (ms:=[m]) (List.Mem.head _)).rd.one
theorem BN{P:Program}{s:AF}{h:Hp}{ms:List Hp}{o:Oper}{v:Value}{sz n:Nat}{cs:List Value}{t el:TypeId}{x y:Operand}{z:Value}{bytes:Nat}{k:IntKind}{i:Int}(j:Nat)(R:Rd h ms v sz n cs)(ho:o.op=.indexAddr t x y)(ht:P.underlying t=some (.slice el))(hs:Elem P el sz z bytes)(hx:ev s x=some v)(hy:ev s y=some (.int k i))(hi:i=(j:Int):=by omega)(hlt:j<n:=by omega):OX P o s h ms (.pointer (some ((AG v).add (j*sz)))):=AA j R ho ht hs hx hy hi hlt
theorem AE{a b c:Hp}(x:a.le b)(y:b.le c):a.le c:=Hp.le_trans x y
theorem Da{a:Hp}:a.le a:=Hp.le_refl a
theorem Mh{α:Type _}{a:α}{l:List α}:a∈a::l:=List.Mem.head _
end Go.Eng
namespace Go.Proofs.Q
open Go.Proofs.Tryz
open Go.Eng Go.RowKit
section
open Go.Eng
theorem CT:prog.follows .mixedOrders=true:=by kernel_rfl
theorem A0:Elem prog 3 1 (.int .i64 0) 8:=Elem.of κ
theorem Xe:Elem prog 4 1 (.bool false) 1:=Elem.of κ
theorem el5:Elem prog 5 1 (.int .u8 0) 1:=Elem.of κ
theorem CI:Elem prog 22 1 (.slice none 0 0) 24:=Elem.of κ
theorem Abg:Elem prog 23 1 (.slice none 0 0) 24:=Elem.of κ
theorem AcI:Elem prog 25 4 (.agg #[.int .u8 0,.slice none 0 0,.slice none 0 0,.int .u8 0]) 64:=Elem.of κ
theorem Kx:Elem prog 27 1 (.slice none 0 0) 24:=Elem.of κ
theorem A8:Elem prog 29 1 (.agg #[.slice none 0 0]) 24:=Elem.of κ
theorem D6:Elem prog 43 6 (.agg #[.int .i64 0,.int .i64 0,.int .i64 0,.bool false,.int .i64 0,.int .i64 0]) 48:=Elem.of κ
theorem Yr:Elem prog 45 1 (.map none) 8:=Elem.of κ
theorem Fv:Elem prog 47 2 (.agg #[.int .i64 0,.int .i64 0]) 16:=Elem.of κ
theorem Acw:Elem prog 49 1 (.map none) 8:=Elem.of κ
theorem Uz:Elem prog 50 1 (.slice none 0 0) 24:=Elem.of κ
theorem AI:Elem prog 52 3 (.agg #[.int .i64 0,.int .i64 0,.slice none 0 0]) 40:=Elem.of κ
theorem A4:Elem prog 65 4 (.agg #[.int .i64 0,.int .i64 0,.int .i64 0,.slice none 0 0]) 48:=Elem.of κ
theorem Ab0:Elem prog 70 2 (.agg #[.int .i64 0,.int .i64 0]) 16:=Elem.of κ
theorem Acp:Elem prog 81 1 (.slice none 0 0) 24:=Elem.of κ
theorem Ym:Elem prog 97 1 (.pointer none) 8:=Elem.of κ
theorem EH:Elem prog 106 3 (.agg #[.int .i64 0,.int .i64 0,.slice none 0 0]) 40:=Elem.of κ
theorem Aco:Elem prog 115 2 (.agg #[.map none,.slice none 0 0]) 32:=Elem.of κ
theorem AS:Elem prog 119 2 (.agg #[.int .i64 0,.int .i64 0]) 16:=Elem.of κ
theorem AaC:Elem prog 130 405 (.agg (([.int .i64 0,.slice none 0 0,.map none,.slice none 0 0,.slice none 0 0]:List Value)++replicate 400 (Value.int .i64 0)).toArray) 3288:=Elem.of κ
theorem Aax:Elem prog 165 1 (.nilFunc) 8:=Elem.of κ
theorem CU:Elem prog 172 2 (.agg #[.bool false,.string ByteArray.empty]) 24:=Elem.of κ
theorem Aar:Elem prog 188 1 (.map none) 8:=Elem.of κ
theorem CK:Elem prog 222 1 (.int .u64 0) 8:=Elem.of κ
theorem Acr:Elem prog 255 1002 (.agg (([.int .i64 0,.int .i64 0,.int .i64 0,.slice none 0 0]:List Value)++replicate 998 (Value.int .i64 0)).toArray) 8032:=Elem.of κ
theorem AaE:Elem prog 260 3 (.agg #[.slice none 0 0,.int .i64 0,.int .i64 0]) 40:=Elem.of κ
theorem AbH:GA prog 29 #[(0,1)]:=⟨_,underlying29,λw=>by kernel_rfl⟩
theorem Wd:GA prog 43 #[(0,1),(1,1),(2,1),(3,1),(4,1),(5,1)]:=⟨_,underlying43,λw=>by kernel_rfl⟩
theorem WK:GA prog 47 #[(0,1),(1,1)]:=⟨_,underlying47,λw=>by kernel_rfl⟩
theorem VB:GA prog 52 #[(0,1),(1,1),(2,1)]:=⟨_,underlying52,λw=>by kernel_rfl⟩
theorem Kw:GA prog 65 #[(0,1),(1,1),(2,1),(3,1)]:=⟨_,underlying65,λw=>by kernel_rfl⟩
theorem Acg:GA prog 106 #[(0,1),(1,1),(2,1)]:=⟨_,underlying106,λw=>by kernel_rfl⟩
theorem Acn:GA prog 115 #[(0,1),(1,1)]:=⟨_,underlying115,λw=>by kernel_rfl⟩
theorem W2:GA prog 119 #[(0,1),(1,1)]:=⟨_,underlying119,λw=>by kernel_rfl⟩
theorem AaD:GA prog 130 #[(0,1),(1,1),(2,1),(3,1),(4,1),(5,400)]:=⟨_,underlying130,λw=>by kernel_rfl⟩
theorem Aao:GA prog 172 #[(0,1),(1,1)]:=⟨_,underlying172,λw=>by kernel_rfl⟩
theorem AbU:GA prog 255 #[(0,4),(4,998)]:=⟨_,underlying255,λw=>by kernel_rfl⟩
theorem Aas:GA prog 260 #[(0,1),(1,1),(2,1)]:=⟨_,underlying260,λw=>by kernel_rfl⟩
theorem XF:E5 prog 25 0 0:=⟨_,_,_,underlying25,rfl,rfl,sizeOf5⟩
theorem XI:E5 prog 25 1 1:=⟨_,_,_,underlying25,rfl,rfl,sizeOf22⟩
theorem Wp:E5 prog 25 2 2:=⟨_,_,_,underlying25,rfl,rfl,sizeOf23⟩
theorem WE:E5 prog 25 3 3:=⟨_,_,_,underlying25,rfl,rfl,sizeOf5⟩
theorem Cr:E5 prog 29 0 0:=⟨_,_,_,underlying29,rfl,rfl,sizeOf27⟩
theorem W6:E5 prog 43 1 1:=⟨_,_,_,underlying43,rfl,rfl,sizeOf3⟩
theorem JP:E5 prog 43 2 2:=⟨_,_,_,underlying43,rfl,rfl,sizeOf3⟩
theorem Lu:E5 prog 43 3 3:=⟨_,_,_,underlying43,rfl,rfl,sizeOf4⟩
theorem OH:E5 prog 43 5 5:=⟨_,_,_,underlying43,rfl,rfl,sizeOf3⟩
theorem FW:E5 prog 47 0 0:=⟨_,_,_,underlying47,rfl,rfl,sizeOf3⟩
theorem Rz:E5 prog 47 1 1:=⟨_,_,_,underlying47,rfl,rfl,sizeOf3⟩
theorem Bq:E5 prog 52 0 0:=⟨_,_,_,underlying52,rfl,rfl,sizeOf3⟩
theorem BZ:E5 prog 52 1 1:=⟨_,_,_,underlying52,rfl,rfl,sizeOf3⟩
theorem BI:E5 prog 52 2 2:=⟨_,_,_,underlying52,rfl,rfl,sizeOf50⟩
theorem Cz:E5 prog 65 0 0:=⟨_,_,_,underlying65,rfl,rfl,sizeOf3⟩
theorem CQ:E5 prog 65 1 1:=⟨_,_,_,underlying65,rfl,rfl,sizeOf3⟩
theorem BU:E5 prog 65 2 2:=⟨_,_,_,underlying65,rfl,rfl,sizeOf3⟩
theorem Bl:E5 prog 65 3 3:=⟨_,_,_,underlying65,rfl,rfl,sizeOf22⟩
theorem Zq:E5 prog 106 0 0:=⟨_,_,_,underlying106,rfl,rfl,sizeOf3⟩
theorem ZE:E5 prog 106 1 1:=⟨_,_,_,underlying106,rfl,rfl,sizeOf3⟩
theorem KQ:E5 prog 106 2 2:=⟨_,_,_,underlying106,rfl,rfl,sizeOf104⟩
theorem FC:E5 prog 115 0 0:=⟨_,_,_,underlying115,rfl,rfl,sizeOf113⟩
theorem OF:E5 prog 115 1 1:=⟨_,_,_,underlying115,rfl,rfl,sizeOf22⟩
theorem Cm:E5 prog 119 0 0:=⟨_,_,_,underlying119,rfl,rfl,sizeOf3⟩
theorem Dt:E5 prog 119 1 1:=⟨_,_,_,underlying119,rfl,rfl,sizeOf3⟩
theorem Ia:E5 prog 130 0 0:=⟨_,_,_,underlying130,rfl,rfl,sizeOf3⟩
theorem Fx:E5 prog 130 1 1:=⟨_,_,_,underlying130,rfl,rfl,sizeOf27⟩
theorem KV:E5 prog 130 2 2:=⟨_,_,_,underlying130,rfl,rfl,sizeOf45⟩
theorem E9:E5 prog 130 3 3:=⟨_,_,_,underlying130,rfl,rfl,sizeOf81⟩
theorem KP:E5 prog 130 4 4:=⟨_,_,_,underlying130,rfl,rfl,sizeOf81⟩
theorem TD:E5 prog 130 5 5:=⟨_,_,_,underlying130,rfl,rfl,sizeOf128⟩
theorem KO:E5 prog 172 0 0:=⟨_,_,_,underlying172,rfl,rfl,sizeOf4⟩
theorem HK:E5 prog 172 1 1:=⟨_,_,_,underlying172,rfl,rfl,sizeOf9⟩
theorem F7:E5 prog 255 0 0:=⟨_,_,_,underlying255,rfl,rfl,sizeOf65⟩
theorem NY:E5 prog 255 1 4:=⟨_,_,_,underlying255,rfl,rfl,sizeOf253⟩
theorem ZR:E5 prog 260 0 0:=⟨_,_,_,underlying260,rfl,rfl,sizeOf22⟩
theorem Sv:E5 prog 260 1 1:=⟨_,_,_,underlying260,rfl,rfl,sizeOf3⟩
theorem Tz:E5 prog 260 2 2:=⟨_,_,_,underlying260,rfl,rfl,sizeOf3⟩
theorem U3:type_of% @Tryz.underlying3:=@Tryz.underlying3
theorem U4:type_of% @Tryz.underlying4:=@Tryz.underlying4
theorem U5:type_of% @Tryz.underlying5:=@Tryz.underlying5
theorem U9:type_of% @Tryz.underlying9:=@Tryz.underlying9
theorem AN:type_of% @Tryz.underlying22:=@Tryz.underlying22
theorem WJ:type_of% @Tryz.underlying23:=@Tryz.underlying23
theorem U25:type_of% @Tryz.underlying25:=@Tryz.underlying25
theorem Bm:type_of% @Tryz.underlying27:=@Tryz.underlying27
theorem CS:type_of% @Tryz.underlying29:=@Tryz.underlying29
theorem OU:type_of% @Tryz.underlying31:=@Tryz.underlying31
theorem Ku:type_of% @Tryz.underlying33:=@Tryz.underlying33
theorem U43:type_of% @Tryz.underlying43:=@Tryz.underlying43
theorem Mu:type_of% @Tryz.underlying45:=@Tryz.underlying45
theorem U47:type_of% @Tryz.underlying47:=@Tryz.underlying47
theorem Vl:type_of% @Tryz.underlying49:=@Tryz.underlying49
theorem Cf:type_of% @Tryz.underlying50:=@Tryz.underlying50
theorem Ey:type_of% @Tryz.underlying52:=@Tryz.underlying52
theorem Dr:type_of% @Tryz.underlying65:=@Tryz.underlying65
theorem U70:type_of% @Tryz.underlying70:=@Tryz.underlying70
theorem Y3:type_of% @Tryz.underlying75:=@Tryz.underlying75
theorem CA:type_of% @Tryz.underlying81:=@Tryz.underlying81
theorem Vi:type_of% @Tryz.underlying97:=@Tryz.underlying97
theorem Mz:type_of% @Tryz.underlying104:=@Tryz.underlying104
theorem PA:type_of% @Tryz.underlying106:=@Tryz.underlying106
theorem Hf:type_of% @Tryz.underlying113:=@Tryz.underlying113
theorem Eh:type_of% @Tryz.underlying119:=@Tryz.underlying119
theorem Acb:type_of% @Tryz.underlying128:=@Tryz.underlying128
theorem RA:type_of% @Tryz.underlying160:=@Tryz.underlying160
theorem Ab4:type_of% @Tryz.underlying165:=@Tryz.underlying165
theorem Mp:type_of% @Tryz.underlying172:=@Tryz.underlying172
theorem AbS:type_of% @Tryz.underlying182:=@Tryz.underlying182
theorem Acs:type_of% @Tryz.underlying184:=@Tryz.underlying184
theorem G2:type_of% @Tryz.underlying188:=@Tryz.underlying188
theorem Gc:type_of% @Tryz.underlying222:=@Tryz.underlying222
theorem Ic:type_of% @Tryz.underlying223:=@Tryz.underlying223
theorem Ck:type_of% @Tryz.underlying225:=@Tryz.underlying225
theorem Aby:type_of% @Tryz.underlying253:=@Tryz.underlying253
end
section
def BS(n:Int):Prop:=-9223372036854775808<=n/\n<=9223372036854775807
instance (n:Int):Decidable (BS n):=by unfold BS;infer_instance
theorem DW{P:Program}{f:FuncId}{args:Array Value}{h:Hp}{v:Value}(k:FnT P f args h [] (λr _ _=>r=v))(ms:List Hp):FnV P f args h ms v:=by refine λw hw=>(?_:FnV _ _ _ h [] _) w (hw.weaken (Da) (List.nil_sublist _));exact FnT.toV k
theorem CX{a b:Nat}(h:(a:Int)<b):a<b:=ω
def cD(s:Int×Int):List Value:=[.int .i64 s.1,.int .i64 s.2]
theorem E2:∀s,(cD s).length=2:=λ_=>rfl
theorem G9:∀a,∀c∈cD a,c.oneCell'=true:=λa c hc=>by simp only[cD,aq,iz,jf]at hc;rcases hc with rfl|rfl<;>rfl
structure Cl where
 id:Int
 dim:Int
 sd:List (Int×Int)
 deriving DecidableEq,Inhabited
structure Ce where
 c:Cl
 v:Value
instance:Inhabited Ce:=⟨⟨default,.slice none 0 0⟩⟩
def cC(a:Ce):List Value:=[.int .i64 a.c.id,.int .i64 a.c.dim,a.v]
theorem CP:∀a,(cC a).length=3:=λ_=>rfl
structure RdC(h:Hp)(v:Value)(l:List Ce):Prop where
 q:RdL cC 3 h [] v l
 s:∀a∈l,RdL cD 2 h [] a.v a.c.sd
theorem RdC.up{h h':Hp}{v:Value}{l:List Ce}(R:RdC h v l)(hl:h.le h'):RdC h' v l:=⟨R.q.up hl,λa ha=>(R.s a ha).up hl⟩
theorem DC{h:Hp}{l:List Ce}(H:∀a∈l,RdL cD 2 h [] a.v a.c.sd):∀a∈l,∀c∈cC a,c.oneCell'=true:=λa ha c hc=>by
 simp only[cC,aq,iz,jf]at hc;rcases hc with rfl|rfl|rfl
 ·rfl
 ·rfl
 ·exact(H a ha).rd.one
def IC(x:Int×Int)(l:List (Int×Int)):List (Int×Int):=l.takeWhile (λy=>decide (y.1<=x.1))++x::l.dropWhile (λy=>decide (y.1<=x.1))
def Cu(l:List (Int×Int)):List (Int×Int):=l.foldl (λacc x=>IC x acc) []
theorem ET{α:Type}(p:α->Bool):∀(l:List α) (k:Nat),k<=l.length->(∀j (hj:j<l.length),j<k->p l[j]=true)->(∀hk:k<l.length,p l[k]=false)->l.takeWhile p=l.take k/\l.dropWhile p=l.drop k
 | [],k,hk,_,_=>by simp
 | a::l,0,_,_,h=>by have:=h σ;simp only[List.getElem_cons_zero]at this;simp[List.takeWhile,List.dropWhile,this]
 | a::l,k+1,hk,h1,h2=>by
  have h3:p a=true:=h1 0 σ ω
  have ih:=ET p l k (by simpa using hk) (λj hj hjk=>by
   have:=h1 (j+1) (by simpa using hj) ω
   simpa using this) (λhk=>by
   have:=h2 (by simpa using hk)
   simpa using this)
  simp[List.takeWhile,List.dropWhile,h3,ih.1,ih.2]
theorem Sz{x:Int×Int}{l:List (Int×Int)}{k:Nat}(hk:k<=l.length)(h1:∀j (hj:j<l.length),j<k->l[j].1<=x.1)(h2:∀hk:k<l.length,¬l[k].1<=x.1):IC x l=l.take k++x::l.drop k:=by obtain⟨e1,e2⟩:=ET (λy=>decide (y.1<=x.1)) l k hk (λj hj hjk=>ai (h1 j hj hjk)) (λhk=>aj (h2 hk));unfold IC;rw[e1,e2]
theorem Xc(x:Int×Int)(l:List (Int×Int)):(IC x l).length=l.length+1:=by unfold IC;have:=aw List.length (List.takeWhile_append_dropWhile (p:=λy:Int×Int=>decide (y.1<=x.1)) (l:=l));rw[ag]at this;rw[ag,ef];omega
theorem Qv(l:List (Int×Int))(x:Int×Int):Cu (l++[x])=IC x (Cu l):=by unfold Cu;rw[List.foldl_append];rfl
theorem GR(l:List (Int×Int)):(Cu l).length=l.length:=by
 have go:∀(l acc:List (Int×Int)),(l.foldl (λacc x=>IC x acc) acc).length=acc.length+l.length:=λl=>by
  induction l with
  | nil=>intro acc;rfl
  | cons x l ih=>intro acc;rw[jg,ih,Xc,ef];omega
 have:=go l [];rw[dv,Nat.zero_add]at this;exact this
theorem D0(a b:Int)(ha:BS a)(hb:1<=b/\b<=1000000)(h:Hp)(ms:List Hp):FnV Tryz.prog 34 #[.int .i64 a,.int .i64 b] h ms (.int .i64 (a%b)):=by
 refine DW ?_ ms;have ha1:=ha.1;have ha2:=ha.2;have h1:a.tmod b<b:=by have:=Int.tmod_lt_of_pos a (show 0<b by omega);omega
 have h2:-b<a.tmod b:=by have:=Int.lt_tmod_of_pos a (show 0<b by omega);omega
 have h3:(a.tmod b+b)%b=a%b:=by rw[Int.add_emod_right,Int.tmod_def,Int.sub_mul_emod_self_left]
 refine Au func34 ntmps34 Y Y (λw0 hw0=>?_);simp only[A6];refine Aq (Qm Y (BM (Qm Y (Qm Y (Qx (VT Y Y Y ω) Y (Qm Y (Qx (oA Y) Y (Qm Y (Qx (BH Y Y Y ω ω) Y (Qm Y (Am (An ?_))))))))))));exact Ap Y Y (by rw[h3])
theorem DK{α:Type}{F:α->List Value}{sz:Nat}{el:TypeId}(g:Nat)(hF:∀x,(F x).length=sz):OwnL F sz el (Bh g el []) (.slice (some ⟨g,0,none⟩) 0 0) ([]:List α):=OwnL.blk (l:=[]) 0 hF rfl δ
theorem OW(l:List (Int×Int))(v:Value)(h:Hp)(hl:l.length<=100000)(hR:RdL cD 2 h [] v l):FnT Tryz.prog 170 #[v] h [] (λr h' ms'=>h=h'/\∃m,ms'=[m]/\OwnL cD 2 119 m r (Cu l)):=by
 have o1:=hR.rd.one;refine Au func170 ntmps170 Y Y (λw0 hw0=>?_);simp only[A6];refine Aq (Qm Y (BM (Qm Y (Am (Ac (Aq (Qm Y (Am (Ag (BT ?_))))))))))
 refine Ay (λq s h' ms'=>∃(i:Nat) (vo:Value) (mo:Hp),q=l.length-i/\s=[(0,v),(3,vo),(4,.w i)]/\h=h'/\ms'=[mo]/\i<=l.length/\OwnL cD 2 119 mo vo (Cu (l.take i)))
  (l.length-0) _ ⟨0,_,_,rfl,rfl,rfl,rfl,ω,OwnL.nil E2⟩ Qs ?_
 rintro q s h' ms' ⟨i,vo,mo,rfl,rfl,rfl,rfl,hi,hO⟩;have hsl:=GR (l.take i);rw[av]at hsl;refine Ac (Aq (Qm Y (Qm Y (Qx (As hR.rd.any Y Cf Y) Y (Qm Y (Am ?_))))));refine Ao Y (λhlt=>?_) (λhlt=>?_)
 ·have hil:i<l.length:=CX hlt;have ovo:=hO.o1;have hseg:∀ms,Seg h ms ((AG v).add (i*2)) (cD l[i]):=λms=>(hR.any (ms:=ms)).seg hil;obtain⟨out,hout⟩:∃out,Cu (l.take i)=out:=⟨_,Y⟩
  rw[hout]at hO hsl;refine Ah (Ad (Ac (Ag (Aq (Qm Y (Am ?_))))));have hcl:=hO.rd (h:=h) (ms:=[mo]) Mh;have hout2:=hcl.len_le;have htk:Cu (l.take (i+1))=IC l[i] out:=by rw[ak hil,Qv,hout]
  refine Bg (λs h' ms'=>∃(k:Nat),s=[(0,v),(3,vo),(4,.w i),(5,.w k)]/\h=h'/\ms'=[mo]/\k<=out.length/\IC l[i] out=out.take k++l[i]::out.drop k) ?_ (λs h ms hI=>?_)
  ·refine Ag ?_
   refine Ay (λq s h' ms'=>∃(k:Nat),q=out.length-k/\s=[(0,v),(3,vo),(4,.w i),(5,.w k)]/\h=h'/\ms'=[mo]/\k<=out.length/\∀j (hj:j<out.length),j<k->out[j].1<=l[i].1)
    (out.length-0) _ ⟨0,rfl,rfl,rfl,rfl,ω,λj hj h=>ω⟩ Qs ?_
   rintro q s h' ms' ⟨k,rfl,rfl,rfl,rfl,hk,hlo⟩;refine Ac (Ac (Bc 15 CT κ Y (Wm Y (Wm Y (AM (As hcl.rd Y Cf Y) Y Y (Wm Y (Wm Y ?_)))))));refine CC (t:=17) Y (λhs1=>?_) (λhs1=>?_)
   ·have hkl:k<out.length:=CX hs1;have hck:Cell h [mo] ((AG vo).add (k*2)) (.w out[k].1):=hcl.cell0 hkl Y;have hci:Cell h [mo] ((AG v).add (i*2)) (.w l[i].1):=hR.any.cell0 hil Y;refine AJ (Ar Y Y) Y Y Y Y (AJ (Ar Y Y) Y Y Y Y (AJ (BN (k) hcl.rd Y Cf AS Y Y) Y Y Y Y (AJ (oF Cm Y) Y Y Y Y (AJ (oL Y U3 (hck)) Y Y Y Y (AJ (Ar Y Y) Y Y Y Y (AJ (Ar Y Y) Y Y Y Y (AJ (BN (i) hR.rd.any Y Cf AS Y Y) Y Y Y Y (AJ (oF Cm Y) Y Y Y Y (AJ (oL Y U3 (hci)) Y Y Y Y (A7 (Qg (JQ Y Y Y) Y (Qm Y (Am ?_)))))))))))));refine Ao Y (λhs2=>?_) (λhs2=>?_)
    ·refine Ah (Ad (Ag (Ab (Qm Y (Qx (oA Y) Y (Qm Y (Ak (Ai ?_))))))))
     exact Al (out.length-(k+1)) _ ω ⟨k+1,Y,Y,Y,Y,ω,λj hj h=>by
      rcases (ω:j<k\/j=k) with h1|rfl
      ·exact hlo j hj h1
      ·exact hs2⟩ Qs
    ·refine Av (Aa (Aa (Af ?_)));exact Az _ ⟨k,Y,Y,Y,hk,Sz hk hlo λ_=>hs2⟩ Qs
   ·have hkl:k=out.length:=ω
    refine AC Y Y Y Y Y (AC Y Y Y Y Y (AC Y Y Y Y Y (AC Y Y Y Y Y (AC Y Y Y Y Y (AC Y Y Y Y Y (AC Y Y Y Y Y (AC Y Y Y Y Y (AC Y Y Y Y Y (AC Y Y Y Y Y (A7 (Qk Y (Qm Y (Am (AQ Y (Av (Aa (Aa (Af ?_))))))))))))))))));exact Az _ ⟨k,Y,Y,Y,hk,Sz hk hlo λh=>jt h ω⟩ Qs
  ·obtain⟨k,rfl,rfl,rfl,hk,hins⟩:=hI;refine Ac (Bc 8 CT κ rfl (Wm rfl (Wm rfl (AM (BN (i) hR.rd.any rfl Cf AS rfl rfl) rfl rfl (AM (oG rfl Eh AS (hseg _)) rfl rfl (Ug (Ft [_,_] rfl Cf AS rfl (by rfl) rfl rfl ω) rfl rfl (Wm rfl (Wm rfl (AM (C3 (k) hcl.rd rfl Cf AS rfl rfl ω ω) rfl rfl (HZ (λg36=>AU 0 (OwnL.blk (g:=g36) (el:=119) (F:=cD) (l:=[l[i]]) 1 E2 rfl δ) ((hO.rd (h:=h) (List.Mem.tail _ Mh)).sub_ hk (au _)) rfl Cf AS rfl ω rfl rfl rfl G9 (by(try simp only[ab,dv,ag,av,cz,ay]);omega) (by(try simp only[ab,dv,ag,av,cz,ay]);omega) rfl rfl rfl (λv6 m6 hO6=>?_))))))))))));have ov6:=hO6.o1;refine Qm rfl (Gl ?_);refine AB [] [] [] rfl Cf AS rfl ω κ (by repeat (first|exact ff|refine⟨⟨by first|rfl|exact(hcl.rd).cells|exact Rd.cells ‹_›|exact(RdL.rd ‹_›).cells,rfl,rfl⟩,?_⟩)) rfl rfl rfl rfl (λg41=>?_);refine Qm rfl (Qm rfl (Qx (Fl (k) hcl.rd rfl Cf AS rfl rfl ω ω) rfl (AU 0 (DK g41 E2) ((hO.rd (h:=h) (List.Mem.tail _ (List.Mem.tail _ Mh))).sub_ (Nat.zero_le _) hk) rfl Cf AS rfl ω rfl rfl rfl G9 (by(try simp only[ab,dv,ag,av,cz,ay]);omega) (by(try simp only[ab,dv,ag,av,cz,ay]);omega) rfl rfl rfl (λv7 m7 hO7=>Qm rfl (AU 0 hO7 (hO6.rd (h:=h) (List.Mem.tail _ Mh)) rfl Cf AS rfl ω rfl rfl rfl G9 (by(try simp only[ab,dv,ag,av,cz,ay]);omega) (by(try simp only[ab,dv,ag,av,cz,ay]);omega) rfl rfl rfl (λv8 m8 hO8=>?_))))))
   have he:[]++(out.drop 0).take (k-0)++([l[i]]++(out.drop k).take (out.length-k))=Cu (l.take (i+1)):=by rw[htk,hins,jj,Nat.sub_zero,io (l:=out.drop k) (by rw[cz];omega)];rfl
   rw[he]at hO8;refine Qm Y (Ak (Ai (Ad (Ab (Qm Y (Qx (oA Y) Y (Qm Y (Ak ?_))))))));refine JD (List.perm_append_comm (l₁:=[m8]) (l₂:=[m6,mo])) (AX (AX ?_));exact Al (l.length-(i+1)) _ ω ⟨i+1,v8,m8,Y,Y,Y,Y,ω,hO8⟩ Qs
 ·have hil:i=l.length:=ω
  rw[hil,List.take_length]at hO;refine Av (Aa (Aa (Af (Ad (Aq (Qm Y (Qm Y (Am (An ?_)))))))));exact Ap Y Y (⟨Y,mo,Y,hO⟩)
open Go.Lin Go.Sort Go.Srt
theorem Hi(i j:Nat)(h:i+j<4611686018427387904):IntKind.i64.wrap (((i+j)%((2:Int)^IntKind.u64.bits).natAbs/2^1:Nat):Int)=(((i+j)/2:Nat):Int):=by
 have e1:(2^IntKind.u64.bits:Int).natAbs=18446744073709551616:=by decide
 rw[e1,fj ω];show IntKind.i64.wrap (((i+j)/2:Nat):Int)=_;unfold IntKind.wrap;simp[IntKind.bits,IntKind.signed];omega
theorem Fq{k x a:Nat}(hx:k∣x)(ha:k∣a)(h:x<a):x+k<=a:=by
 obtain⟨p,rfl⟩:=hx;obtain⟨q,rfl⟩:=ha;have:p<q:=Nat.lt_of_mul_lt_mul_left h
 calc k*p+k=k*(p+1):=by rw[Nat.mul_add,jk]
  _<=k*q:=Nat.mul_le_mul_left k this
def c3(x y:Int):Int:=if x<y then -1 else if y<x then 1 else 0
theorem Kj(x y:Int):c3 x y<0<->x<y:=by
 unfold c3
 repeat' split
 all_goals omega
theorem Tr(x:Int)(h:Hp)(ms:List Hp):FnV Tryz.prog 202 #[.int .i64 x] h ms (.bool false):=by refine DW ?_ ms;refine Au func202 ntmps202 Y Y (λw0 hw0=>?_);simp only[A6];refine Aq (Qm Y (BM (Qm Y (Qm Y (Qm Y (Qm Y (Am (An ?_))))))));exact Ap Y Y σ
theorem GB(x y:Int)(h:Hp)(ms:List Hp):FnV Tryz.prog 150 #[.int .i64 x,.int .i64 y] h ms (.int .i64 (c3 x y)):=by
 refine DW ?_ ms;refine Au func150 ntmps150 Y Y (λw0 hw0=>?_);simp only[A6];refine Aq (Qm Y (BM (Qm Y (Qx (AH Y call202 Y (Tr _ _ _)) Y (Qm Y (BM (Qm Y (Qx (AH Y call202 Y (Tr _ _ _)) Y (Qm Y (Am (Ac (Aq (Qm Y (Am (AQ Y (Ah (Ad (Ac (Aq (Qm Y (Am (AQ Y (Ah (Ad (Ac (Aq (Qm Y (Qm Y (Qm Y (Am ?_))))))))))))))))))))))))))))));refine Ao Y (λh1=>?_) (λh1=>?_)
 ·refine Ac (Ab (Qm Y (Am (An (Ae ?_)))));exact Ap Y Y (by unfold c3;rw[ac h1])
 ·refine Ah (Ad (Ac (Aq (Qm Y (Qm Y (Qm Y (Am ?_)))))));refine Ao Y (λh2=>?_) (λh2=>?_)
  ·refine Ac (Ab (Qm Y (Am (An (Ae ?_)))));exact Ap Y Y (by unfold c3;rw[aa h1,ac h2])
  ·refine Ah (Ad (Aq (Qm Y (Am (An ?_)))));exact Ap Y Y (by unfold c3;rw[aa h1,aa h2])
structure CeO where
 c:Cl
 v:Value
 one:v.oneCell'=true
instance:Inhabited CeO:=⟨⟨default,.slice none 0 0,rfl⟩⟩
def Ii(a:CeO):List Value:=[.int .i64 a.c.id,.int .i64 a.c.dim,a.v]
theorem KR:∀a,(Ii a).length=3:=λ_=>rfl
theorem OI(s:CeO):∀c∈Ii s,c.oneCell'=true:=λc hc=>by
 simp only[Ii,aq,iz,jf]at hc;rcases hc with rfl|rfl|rfl
 ·rfl
 ·rfl
 ·exact s.one
abbrev Jf:=Int×Int
def C9(x y:CeO):Bool:=decide (c3 x.c.id y.c.id<0)
def C7(x y:Jf):Bool:=decide (c3 x.1 y.1<0)
theorem Ju:SWO C9:=by
 refine⟨λx=>?_,λx y z h1 h2=>?_,λx y z h1 h2=>?_⟩
 ·unfold C9;rw[gy,Kj];omega
 ·unfold C9 at *;rw[decide_eq_true_iff,Kj]at *;omega
 ·unfold C9 at *;rw[gy,Kj]at *;omega
theorem Jz:SWO C7:=by
 refine⟨λx=>?_,λx y z h1 h2=>?_,λx y z h1 h2=>?_⟩
 ·unfold C7;rw[gy,Kj];omega
 ·unfold C7 at *;rw[decide_eq_true_iff,Kj]at *;omega
 ·unfold C7 at *;rw[gy,Kj]at *;omega
def Q8(g:Nat):Value:=.func (.func 196) #[] #[.pointer (some ⟨g,0,none⟩)]
def Q4(g:Nat):Value:=.func (.func 199) #[] #[.pointer (some ⟨g,0,none⟩)]
def fkC:Value:=.func (.func 135) #[] #[]
def fkD:Value:=.func (.func 137) #[] #[]
def Up(h:Hp)(g:Nat):Prop:=∀ms,Cell h ms (⟨g,0,none⟩:Addr) fkC
def U8(h:Hp)(g:Nat):Prop:=∀ms,Cell h ms (⟨g,0,none⟩:Addr) fkD
theorem Aaq(x:CeO)(h:Hp)(ms:List Hp):FnV Tryz.prog 135 #[.agg (Ii x).toArray] h ms (.int .i64 x.c.id):=by refine DW ?_ ms;have o1:=x.one;show FnT _ _ #[.agg #[.int .i64 x.c.id,.int .i64 x.c.dim,x.v]] _ _ _;refine Au func135 ntmps135 Y Y (λw0 hw0=>?_);simp only[A6];refine Aq (AP [_,_,_] Y Y (by rfl) Y Y Y (λg1=>Qm Y (BM (Qf Bq Y (Ql Y U3 (Cell.blk 0 Y Y) (Qm Y (Am (An ?_))))))));exact Ap Y Y (Y)
theorem AaA(x:Jf)(h:Hp)(ms:List Hp):FnV Tryz.prog 137 #[.agg (cD x).toArray] h ms (.int .i64 x.1):=by refine DW ?_ ms;show FnT _ _ #[.agg #[.int .i64 x.1,.int .i64 x.2]] _ _ _;refine Au func137 ntmps137 Y Y (λw0 hw0=>?_);simp only[A6];refine Aq (AP [_,_] Y Y (by rfl) Y Y Y (λg1=>Qm Y (BM (Qf Cm Y (Ql Y U3 (Cell.blk 0 Y Y) (Qm Y (Am (An ?_))))))));exact Ap Y Y (Y)
theorem ON(x y:CeO)(h:Hp)(g:Nat)(hg:Up h g)(ms:List Hp):FnV Tryz.prog 196 #[.agg (Ii x).toArray,.agg (Ii y).toArray,.pointer (some ⟨g,0,none⟩)] h ms (.int .i64 (c3 x.c.id y.c.id)):=by refine DW ?_ ms;have o1:=x.one;have o2:=y.one;show FnT _ _ #[.agg #[.int .i64 x.c.id,.int .i64 x.c.dim,x.v],.agg #[.int .i64 y.c.id,.int .i64 y.c.dim,y.v],.pointer (some ⟨g,0,none⟩)] _ _ _;refine Au func196 ntmps196 Y Y (λw0 hw0=>?_);simp only[A6];refine Aq (AP [_,_,_] Y Y (by rfl) Y Y Y (λg3=>AP [_,_,_] Y Y (by rfl) Y Y Y (λg4=>Qm Y (Am (Ax λh1 l1 hG4=>(Ax λh2 l2 hG3=>?_))))));have hG4:=hG4.le l2;have hgk:∀ms,Cell h2 ms (⟨g,0,none⟩:Addr) fkC:=λms=>(hg ms).le (AE l1 l2);refine Ac (Bc 5 CT κ Y (Wl Y AbS (hgk _) (AM (oG Y Ey AI (Seg.any hG3)) Y Y (AM (CE Y Y call135 Y ((Aaq x _ _))) Y Y (Wl Y AbS (hgk _) (AM (oG Y Ey AI (Seg.any hG4)) Y Y (A7 (Qx (CE Y Y call135 Y ((Aaq y _ _))) Y (Qx (AH Y call150 Y (GB _ _ _ _)) Y (Qm Y (Am (An ?_))))))))))));exact Ap Y Y (Y)
theorem Ns(x y:Jf)(h:Hp)(g:Nat)(hg:U8 h g)(ms:List Hp):FnV Tryz.prog 199 #[.agg (cD x).toArray,.agg (cD y).toArray,.pointer (some ⟨g,0,none⟩)] h ms (.int .i64 (c3 x.1 y.1)):=by refine DW ?_ ms;show FnT _ _ #[.agg #[.int .i64 x.1,.int .i64 x.2],.agg #[.int .i64 y.1,.int .i64 y.2],.pointer (some ⟨g,0,none⟩)] _ _ _;refine Au func199 ntmps199 Y Y (λw0 hw0=>?_);simp only[A6];refine Aq (AP [_,_] Y Y (by rfl) Y Y Y (λg3=>AP [_,_] Y Y (by rfl) Y Y Y (λg4=>Qm Y (Am (Ax λh1 l1 hG4=>(Ax λh2 l2 hG3=>?_))))));have hG4:=hG4.le l2;have hgk:∀ms,Cell h2 ms (⟨g,0,none⟩:Addr) fkD:=λms=>(hg ms).le (AE l1 l2);refine Ac (Bc 5 CT κ Y (Wl Y Acs (hgk _) (AM (oG Y Eh AS (Seg.any hG3)) Y Y (AM (CE Y Y call137 Y ((AaA x _ _))) Y Y (Wl Y Acs (hgk _) (AM (oG Y Eh AS (Seg.any hG4)) Y Y (A7 (Qx (CE Y Y call137 Y ((AaA y _ _))) Y (Qx (AH Y call150 Y (GB _ _ _ _)) Y (Qm Y (Am (An ?_))))))))))));exact Ap Y Y (Y)
variable {m h:Hp} {v:Value} {d:Array CeO} {ms:List Hp}
abbrev OSC(m:Hp)(v:Value)(d:Array CeO):Prop:=OwnL Ii 3 52 m v d.toList
theorem OSC.rd(O:OSC m v d)(hm:m∈ms):Rd h ms v 3 d.size (d.toList.flatMap Ii):=by have:=(OwnL.rd O hm (h:=h)).rd;rwa [gq]at this
theorem OSC.get(O:OSC m v d)(hm:m∈ms){j:Nat}(hj:j<d.size):Seg h ms ((AG v).add (j*3)) (Ii d[j]!):=by have:=(OwnL.rd O hm (h:=h)).seg (j:=j) (by simpa using hj);simpa[hj] using this
theorem DR{e:Entry}{Q:Exit->Act->World->Prop}{ops:Array Oper}{rest:List Oper}{o:Oper}{s:AF}{t:TypeId}{x y:Operand}{z:Value}{bytes:Nat}{a:CeO}(i j:Nat)(O:OSC m v d)(ho:o.op=.store t x y)(hs:Elem e.P t 3 z bytes)(hx:ev s x=some (.pointer (some ((AG v).add (j*3)))))(hy:ev s y=some (.agg (Ii a).toArray))
  (hm:ms[i]?=some m) (hj:j<d.size) (hd:o.dst=none) (hg:o.guard=none)
  (K:∀m',(d.setIfInBounds j a).size=d.size->OSC m' v (d.setIfInBounds j a)->WL e ops Q rest s h (ms.set i m')):WL e ops Q (o::rest) s h ms:=
 FX i j a O ho hs hx hy rfl (OI a) hm (by simpa using hj) hd hg λm' O'=>K m' σ (by
  show OwnL Ii 3 52 m' v (d.setIfInBounds j a).toList
  rw[Array.toList_setIfInBounds];exact O')
theorem Gh(d:Array CeO)(v cv:Value)(m:Hp)(hO:OSC m v d)(a b n lo hi:Nat)(hab:a+n<=b)(hb:b+n<=d.size)(hsz:d.size<=1000000)(hlo:lo<=a)(hhi:b+n<=hi)(hhs:hi<=d.size)(h:Hp){a' b' n':Int}(ea:a'=a)(eb:b'=b)(en:n'=n) :
  FnT Tryz.prog 308 #[v,.w a',.w b',.w n',cv] h [m] (λ_ h' ms'=>h=h'/\∃m' d',ms'=[m']/\OSC m' v d'/\SwR d d' a b n/\PermIn lo hi d d'):=by
 subst ea eb en;refine Au func308 ntmps308 Y Y (λw0 hw0=>?_);simp only[A6];refine Aq (Qm Y (Am (Ag ?_)))
 refine Ay (λq s h' ms'=>∃(i:Nat) (d0:Array CeO) (m:Hp),q=n-i/\s=[(0,v),(1,.w a),(2,.w b),(3,.w n),(10,.w i)]/\h=h'/\ms'=[m]/\i<=n/\OSC m v d0/\SwR d d0 a b i/\PermIn lo hi d d0)
  (n-0) _ ⟨0,d,m,rfl,rfl,rfl,rfl,ω,hO,SwR.start d a b,permIn_refl d lo hi⟩ Qs ?_
 rintro q s h' ms' ⟨i,d0,m0,rfl,rfl,rfl,rfl,hi2,hO0,S,P⟩;have hds:=S.1;refine Ac (Aq (Qm Y (Qm Y (Qm Y (Am ?_)))));refine Ao Y (λhlt=>?_) (λhlt=>?_)
 ·refine Ah (Ad (Ac (Ag (Eb 20 [false,false,false,false,true,true,true,true] CT κ κ κ (Ew Y Y Y Y (CB Y Y) (Ew Y Y Y Y (CB Y Y) (Ew Y Y Y Y (CB Y Y) (Ew Y Y Y Y (OL Y Y Y ω) ?_))))))));refine⟨Y,?_⟩;simp only[E3,zap,bl,ay,jr,jq,js,jj,i6,i7];refine Wm Y (Wm Y (Wm Y (AM (oA Y) Y Y (Ex Y Y Y (Ex Y Y Y (Ex Y Y Y (Ex Y Y Y (Wm Y (Wm Y (Wm Y (AM (oA Y) Y Y (AM (AA (b+i) (hO0.rd (.head _)) Y Bm AI Y Y ω ω) Y Y (AM (oG Y Ey AI (hO0.get (.head _) ω)) Y Y (Wm Y (Wm Y (Wm Y (AM (oA Y) Y Y (AM (AA (a+i) (hO0.rd (.head _)) Y Bm AI Y Y ω ω) Y Y (AM (oG Y Ey AI (hO0.get (.head _) ω)) Y Y (A7 (Qx (AA (a+i) (hO0.rd (.head _)) Y Bm AI Y Y ω ω) Y (DR 0 _ hO0 Y AI Y Y Y ω Y Y (λmhO1 hzhO1 hO1=>Qx (AA (b+i) (hO1.rd (.head _)) Y Bm AI Y Y ω ω) Y (DR 0 _ hO1 Y AI Y Y Y ω Y Y (λmhO2 hzhO2 hO2=>Ak (Il (Ai (Ad (Ab (Qm Y (Qx (oA Y) Y (Qm Y (Ak ?_)))))))))))))))))))))))))))))))));refine Al (n-(i+1)) _ ω ⟨i+1,_,mhO2,Y,Y,Y,Y,ω,hO2,S.step ω ω,permIn_trans _ _ _ _ _ P (swp_permIn d0 lo hi (a+i) (b+i) ω ω ω ω ω)⟩ Qs
 ·obtain rfl:i=n:=ω
  refine Av (Aa (Aa (Af ?_)));exact Cq Y (⟨Y,m0,d0,Y,hO0,S,P⟩)
theorem RK(d:Array CeO)(v cv:Value)(m:Hp)(hO:OSC m v d)(a t b lo hi:Nat)(hat:a<t)(htb:t<b)(hb:b<=d.size)(hsz:d.size<=1000000)(hlo:lo<=a)(hhi:b<=hi)(hhs:hi<=d.size)(h:Hp){a' t' b':Int}(ea:a'=a)(et:t'=t)(eb:b'=b) :
  FnT Tryz.prog 298 #[v,.w a',.w t',.w b',cv] h [m] (λ_ h' ms'=>h=h'/\∃m' d',ms'=[m']/\OSC m' v d'/\(∀k,d'[k]! = FO d a t b k)/\PermIn lo hi d d'):=by
 subst ea et eb;refine Au func298 ntmps298 Y Y (λw0 hw0=>?_);simp only[A6];refine Aq (Qm Y (Qm Y (Qx (oS Y) Y (Qm Y (BM (Qm Y (Qm Y (Qx (oS Y) Y (Qm Y (Am (Ac (Ag ?_))))))))))))
 refine Ay (λq s h' ms'=>∃(i j:Nat) (x y:Int) (d0:Array CeO) (m:Hp),q=i+j/\s=[(0,v),(2,.w t),(4,cv),(10,.w x),(11,.w y)]/\h=h'/\ms'=[m]/\x=i/\y=j/\0<i/\0<j/\a+i<=t/\t+j<=b/\OSC m v d0/\(∀k,FO d0 (t-i) t (t+j) k=FO d a t b k)/\PermIn lo hi d d0)
  ((t-a)+(b-t)) _ ⟨t-a,b-t,(t:Int)-a,(b:Int)-t,d,m,rfl,rfl,rfl,rfl,ω,ω,ω,ω,ω,ω,hO,λk=>by rw[show t-(t-a)=a by omega,show t+(b-t)=b by omega],permIn_refl d lo hi⟩ Qs ?_
 rintro q s h' ms' ⟨i,j,x,y,d0,m0,rfl,rfl,rfl,rfl,rfl,rfl,hi0,hj0,hai,hjb,hO0,hR,P⟩;have hds:=P.1;refine Ac (Aq (Qm Y (Qm Y (Qm Y (Am ?_)))));refine Ao Y (λhne=>?_) (λhne=>?_)
 ·refine Ah (Ad (Ag (Aq (Qm Y (Qm Y (Qm Y (Am ?_)))))));refine Ao Y (λhgt=>?_) (λhgt=>?_)
  ·refine Ac (Ab (Qm Y (Qm Y (Qm Y (Qx (oS Y) Y (Qm Y (Qm Y (Qm Y (Bs (pre:=[m0]) Y call308 Y (Gh d0 v cv m0 hO0 (t-i) t j lo hi ω ω ω ω ω ω h ω Y Y) Y Y Y Y (λr h1 ms1 l1 hF=>?_))))))))));obtain⟨rfl,m1,d1,rfl,hO1,S,P1⟩:=hF;refine Gl (Qm Y (Qm Y (Qx (oS Y) Y (Qm Y (Ak (Ai ?_))))));refine Al ((i-j)+j) _ ω ⟨i-j,j,(i:Int)-j,j,d1,m1,Y,Y,Y,Y,ω,Y,ω,ω,ω,ω,hO1,λk=>(PJ ω ω S k).trans (hR k),permIn_trans _ _ _ _ _ P P1⟩ Qs
  ·refine Ac (Ab (Qm Y (Qm Y (Qm Y (Qx (oS Y) Y (Qm Y (Qm Y (Qx (oA Y) Y (Qm Y (Qx (oS Y) Y (Qm Y (Qm Y (Bs (pre:=[m0]) Y call308 Y (Gh d0 v cv m0 hO0 (t-i) (t+j-i) i lo hi ω ω ω ω ω ω h ω ω Y) Y Y Y Y (λr h1 ms1 l1 hF=>?_))))))))))))));obtain⟨rfl,m1,d1,rfl,hO1,S,P1⟩:=hF;refine Gl (Qm Y (Qm Y (Qx (oS Y) Y (Qm Y (Ak (Ai ?_))))));refine Al (i+(j-i)) _ ω ⟨i,j-i,i,(j:Int)-i,d1,m1,Y,Y,Y,Y,Y,ω,ω,ω,ω,ω,hO1,λk=>(Lm ω ω S k).trans (hR k),permIn_trans _ _ _ _ _ P P1⟩ Qs
 ·obtain rfl:i=j:=ω
  refine Av (Aa (Aa (Af (Ad (Ab (Qm Y (Qm Y (Qm Y (Qx (oS Y) Y (Qm Y (Qm Y (Qm Y (Bs (pre:=[m0]) Y call308 Y (Gh d0 v cv m0 hO0 (t-i) t i lo hi ω ω ω ω ω ω h ω Y Y) Y Y Y Y (λr h1 ms1 l1 hF=>?_))))))))))))));obtain⟨rfl,m1,d1,rfl,hO1,S,P1⟩:=hF;refine Ak ?_;exact Cq Y (⟨Y,m1,d1,Y,hO1,λk=>(Q2 ω S k).trans (hR k),permIn_trans _ _ _ _ _ P P1⟩)
end
section
open Go.Lin Go.Sort Go.Srt
theorem Pp(d:Array CeO)(v:Value)(m:Hp)(hO:OSC m v d)(a b:Nat)(hab:a<=b)(hb:b<=d.size)(hsz:d.size<=1000000)(h:Hp)(g:Nat)(hg:Up h g){a' b':Int}(ea:a'=a)(eb:b'=b) :
  FnT Tryz.prog 240 #[v,.w a',.w b',(Q8 g)] h [m] (λ_ h' ms'=>h=h'/\∃m' d',ms'=[m']/\OSC m' v d'/\PermIn a b d d'/\SortedIn C9 a b d'):=by
 subst ea eb;have hfin:=insertionSort_holds (lt:=C9) Ju d a b hab hb;refine Au func240 ntmps240 Y Y (λw0 hw0=>?_);simp only[A6];refine Aq (Qm Y (Qx (oA Y) Y (Qm Y (Am (Ag ?_)))))
 refine Ay (λn s h' ms'=>∃(i:Nat) (z:Int) (d':Array CeO) (m:Hp),n=b-i/\s=[(0,v),(1,.w a),(2,.w b),(3,(Q8 g)),(8,.w z)]/\h=h'/\ms'=[m]/\z=i/\a<i/\i<=4611686018427387905/\OSC m v d'/\d'.size=d.size/\insOuter C9 a b i d'=insertionSort C9 d a b)
  _ _ ⟨a+1,(a:Int)+1,d,m,rfl,rfl,rfl,rfl,ω,ω,ω,hO,rfl,rfl⟩ Qs ?_
 rintro n s h' ms' ⟨i,z,d',m,rfl,rfl,rfl,rfl,hz,hai,hi,hO,hds,hR⟩;refine Ac (Aq (Qm Y (Qm Y (Qm Y (Am ?_)))));refine Ao Y (λhlt=>?_) (λhlt=>?_)
 ·refine Ah (Ad (Ac (Ag (Aq (Qm Y (Qm Y (Am (Ag ?_))))))))
  refine Ay (λn s h' ms'=>∃(j:Nat) (y:Int) (d':Array CeO) (m:Hp),j=n/\s=[(0,v),(1,.w a),(2,.w b),(3,(Q8 g)),(8,.w z),(9,.w y)]/\h=h'/\ms'=[m]/\y=j/\j<=i/\OSC m v d'/\d'.size=d.size/\insOuter C9 a b (i+1) (insInner C9 a j d')=insertionSort C9 d a b)
   _ _ ⟨i,z,d',m,rfl,rfl,rfl,rfl,hz,ω,hO,hds,by rw[<-hR];conv=>rhs;unfold insOuter;rw[ac ω]⟩ Qs ?_
  rintro n s h' ms' ⟨j,y,d1,m1,rfl,rfl,rfl,rfl,hy,hji,hO1,hds1,hR1⟩;refine Ac (Ac (Bc 14 CT κ Y (Wm Y (Wm Y (Wm Y (Wm Y ?_))))));refine CC (t:=21) Y (λhja=>?_) (λhja=>?_)
  ·refine AJ (Ar Y Y) Y Y Y Y (AJ (Ar Y Y) Y Y Y Y (AJ (Ar Y Y) Y Y Y Y (AJ (AA (j) (hO1.rd (.head _)) Y Bm AI Y Y ω ω) Y Y Y Y (AJ (oG Y Ey AI (hO1.get (.head _) ω)) Y Y Y Y (AJ (Ar Y Y) Y Y Y Y (AJ (Ar Y Y) Y Y Y Y (AJ (oS Y) Y Y Y Y (AJ (AA (j-1) (hO1.rd (.head _)) Y Bm AI Y Y ω ω) Y Y Y Y (AJ (oG Y Ey AI (hO1.get (.head _) ω)) Y Y Y Y (A7 (Qg (CE Y Y call196 Y (ON _ _ _ g hg _)) Y (Qg (DA Y Y Y) Y (Qm Y (Am ?_))))))))))))));refine BG Y (λhl=>?_) (λhl=>?_)
   ·refine Ah (Ad (Ac (Ag (Eb 14 [false,false,true,true,true] CT κ κ κ (Ew Y Y Y Y (CB Y Y) (Ew Y Y Y Y (CB Y Y) (Ew Y Y Y Y (NH Y Y Y ω) ?_)))))));refine⟨Y,?_⟩;simp only[E3,zap,bl,ay,jr,jq,js,jj,i6,i7];refine Wm Y (Wm Y (Ex Y Y Y (Ex Y Y Y (Ex Y Y Y (Wm Y (Wm Y (AM (oS Y) Y Y (AM (AA (j-1) (hO1.rd (.head _)) Y Bm AI Y Y ω ω) Y Y (AM (oG Y Ey AI (hO1.get (.head _) ω)) Y Y (Wm Y (Wm Y (AM (AA (j) (hO1.rd (.head _)) Y Bm AI Y Y ω ω) Y Y (AM (oG Y Ey AI (hO1.get (.head _) ω)) Y Y (A7 (Qx (AA (j) (hO1.rd (.head _)) Y Bm AI Y Y ω ω) Y (DR 0 _ hO1 Y AI Y Y Y ω Y Y (λmhO2 hzhO2 hO2=>Qx (AA (j-1) (hO2.rd (.head _)) Y Bm AI Y Y ω ω) Y (DR 0 _ hO2 Y AI Y Y Y ω Y Y (λmhO3 hzhO3 hO3=>Ak (Il (Ai (Ad (Ab (Qm Y (Qx (oS Y) Y (Qm Y (Ak ?_)))))))))))))))))))))))))));obtain⟨j',rfl⟩:∃j',j=j'+1:=⟨j-1,ω⟩
    refine Al j' _ ω ⟨j',y-1,_,mhO3,Y,Y,Y,Y,ω,ω,hO3,by simp[hds1],?_⟩ Qs;rw[<-hR1]
    conv=>rhs;unfold insInner
    rw[ac (by rw[bo];exact⟨ai ω,hl⟩)];rfl
   ·refine Av (Aa (Aa (Af (Ai (Ad (Ab (Qm Y (Qx (oA Y) Y (Qm Y (Ak ?_))))))))));refine Al (b-(i+1)) _ ω ⟨i+1,z+1,d1,m1,Y,Y,Y,Y,ω,ω,ω,hO1,hds1,?_⟩ Qs;rw[<-hR1];obtain⟨j',rfl⟩:∃j',j=j'+1:=⟨j-1,ω⟩
    conv=>rhs;unfold insInner
    rw[aa (by rw[bo];rintro⟨_,h2⟩;exact jt (hl.symm.trans h2) δ)]
  ·refine AC Y Y Y Y Y (AC Y Y Y Y Y (AC Y Y Y Y Y (AC Y Y Y Y Y (AC Y Y Y Y Y (AC Y Y Y Y Y (AC Y Y Y Y Y (AC Y Y Y Y Y (AC Y Y Y Y Y (AC Y Y Y Y Y (A7 (Qk Y (Qk Y (Qm Y (Am (AQ Y (Av (Aa (Aa (Af (Ai (Ad (Ab (Qm Y (Qx (oA Y) Y (Qm Y (Ak ?_))))))))))))))))))))))))));refine Al (b-(i+1)) _ ω ⟨i+1,z+1,d1,m1,Y,Y,Y,Y,ω,ω,ω,hO1,hds1,?_⟩ Qs;rw[<-hR1];cases j with
   | zero=>rfl
   | succ j'=>
    conv=>rhs;unfold insInner
    rw[aa (by simp;intro h';omega)]
 ·refine Av (Aa (Aa (Af ?_)));exact Cq Y (⟨Y,m,insertionSort C9 d a b,Y,by rw[<-hR];unfold insOuter;rw[aa ω];exact hO,hfin.1,hfin.2⟩)
theorem JI:∀(N:Nat) (d:Array CeO) (v:Value) (m:Hp) (hO:OSC m v d) (a t b:Nat) (hN:b-a<=N) (hat:a<t) (htb:t<b) (hb:b<=d.size) (hsz:d.size<=1000000) (hA:SortedIn C9 a t d) (hB:SortedIn C9 t b d) (h:Hp) (g:Nat) (hg:Up h g) {a' t' b':Int} (ea:a'=a) (et:t'=t) (eb:b'=b),
  FnT Tryz.prog 277 #[v,.w a',.w t',.w b',(Q8 g)] h [m] (λ_ h' ms'=>h=h'/\∃m' d',ms'=[m']/\OSC m' v d'/\PermIn a b d d'/\SortedIn C9 a b d'):=by
 intro N
 induction N with
 | zero=>intro d v m hO a t b hN hat htb;omega
 | succ N ih=>
 intro d v m hO a t b hN hat htb hb hsz hA hB h g hg a' t' b' ea et eb;subst ea et eb;refine Au func277 ntmps277 Y Y (λw0 hw0=>?_);simp only[A6];refine Ac (Aq (Qm Y (Qm Y (Qx (oS Y) Y (Qm Y (Am ?_))))));refine Ao Y (λh1=>?_) (λh1=>?_)
 ·-- one element on the left
  obtain rfl:t=a+1:=ω
  refine Aq (Qm Y (Qm Y (BM (Qm Y (Qm Y (Am (Ac (Ag ?_))))))))
  refine Ay (λn s h' ms'=>∃(i j:Nat),n=j-i/\s=[(0,v),(1,.w a),(4,(Q8 g)),(10,.w i),(11,.w j)]/\h=h'/\ms'=[m]/\a+1<=i/\i<=j/\j<=b/\(i=a+1\/C9 d[i-1]! d[a]! = true)/\(j=b\/C9 d[j]! d[a]! = false))
   (b-(a+1)) _ ⟨a+1,b,rfl,rfl,rfl,rfl,ω,ω,ω,.inl rfl,.inl rfl⟩ Qs ?_
  rintro n s h' ms' ⟨i,j,rfl,rfl,rfl,rfl,hi,hij,hj,c1,c2⟩;refine Ac (Aq (Qm Y (Qm Y (Qm Y (Am ?_)))));refine Ao Y (λhlt=>?_) (λhlt=>?_)
  ·refine Ah (Ad (Ag (Aq (Qm Y (Qm Y (Qx (oA Y) Y (Qx (CD Y U3 Ic Y) Y (Qx (Ef (n:=1) Y Y Y ω) Y (Qx (CD Y Ic U3 Y) Y (Qm Y (Am ?_)))))))))));rw[Hi i j ω];refine Ac (Bc 9 CT κ Y (Wm Y (Wm Y (Wm Y (AM (AA ((i+j)/2) (hO.rd (.head _)) Y Bm AI Y Y ω ω) Y Y (AM (oG Y Ey AI (hO.get (.head _) ω)) Y Y (Wm Y (Wm Y (AM (AA (a) (hO.rd (.head _)) Y Bm AI Y Y ω ω) Y Y (AM (oG Y Ey AI (hO.get (.head _) ω)) Y Y (A7 (Qx (CE Y Y call196 Y (ON _ _ _ g hg _)) Y (Qm Y (Am ?_))))))))))))));refine BG Y (λhl=>?_) (λhl=>?_)
   ·refine Ab (Qm Y (Qx (oA Y) Y (Qm Y (Ak (Ai ?_)))));exact Al (j-((i+j)/2+1)) _ ω ⟨(i+j)/2+1,j,Y,Y,Y,Y,ω,ω,ω,.inr (by rw[ie];exact hl),c2⟩ Qs
   ·refine Ab (Qm Y (Qm Y (Ak (Ai ?_))));exact Al ((i+j)/2-i) _ ω ⟨i,(i+j)/2,Y,Y,Y,Y,ω,ω,ω,c1,.inr hl⟩ Qs
  ·obtain rfl:i=j:=ω
   refine Av (Aa (Aa (Af (Ad (Ac (Aq (Qm Y (Qm Y (Am (Ag ?_))))))))))
   refine Ay (λn s h' ms'=>∃(k:Nat) (d0:Array CeO) (m:Hp),n=i-1-k/\s=[(0,v),(10,.w i),(13,.w k)]/\h=h'/\ms'=[m]/\a<=k/\k<=i-1/\OSC m v d0/\InsR d d0 a k/\PermIn a b d d0)
    (i-1-a) _ ⟨a,d,m,rfl,rfl,rfl,rfl,ω,ω,hO,InsR.start d a,permIn_refl d a b⟩ Qs ?_
   rintro n s h' ms' ⟨k,d0,m0,rfl,rfl,rfl,rfl,hak,hki,hO0,R,P⟩;have hds:=R.1;refine Ac (Aq (Qm Y (Qm Y (Qx (oS Y) Y (Qm Y (Am ?_))))));refine Ao Y (λhltk=>?_) (λhltk=>?_)
   ·refine Ah (Ad (Ac (Ag (Eb 14 [false,false,true,true,true] CT κ κ κ (Ew Y Y Y Y (CB Y Y) (Ew Y Y Y Y (CB Y Y) (Ew Y Y Y Y (OL Y Y Y ω) ?_)))))));refine⟨Y,?_⟩;simp only[E3,zap,bl,ay,jr,jq,js,jj,i6,i7];refine Wm Y (Wm Y (Ex Y Y Y (Ex Y Y Y (Ex Y Y Y (Wm Y (Wm Y (AM (oA Y) Y Y (AM (AA (k+1) (hO0.rd (.head _)) Y Bm AI Y Y ω ω) Y Y (AM (oG Y Ey AI (hO0.get (.head _) ω)) Y Y (Wm Y (Wm Y (AM (AA (k) (hO0.rd (.head _)) Y Bm AI Y Y ω ω) Y Y (AM (oG Y Ey AI (hO0.get (.head _) ω)) Y Y (A7 (Qx (AA (k) (hO0.rd (.head _)) Y Bm AI Y Y ω ω) Y (DR 0 _ hO0 Y AI Y Y Y ω Y Y (λmhO1 hzhO1 hO1=>Qx (AA (k+1) (hO1.rd (.head _)) Y Bm AI Y Y ω ω) Y (DR 0 _ hO1 Y AI Y Y Y ω Y Y (λmhO2 hzhO2 hO2=>Ak (Il (Ai (Ad (Ab (Qm Y (Qx (oA Y) Y (Qm Y (Ak ?_)))))))))))))))))))))))))));exact Al (i-1-(k+1)) _ ω ⟨k+1,_,mhO2,Y,Y,Y,Y,ω,ω,hO2,R.step hak ω,permIn_trans _ _ _ _ _ P (swp_permIn d0 a b k (k+1) ω ω ω ω ω)⟩ Qs
   ·obtain rfl:k=i-1:=ω
    refine Av (Aa (Aa (Af (Ad (An (Ae ?_))))));exact F6 Y (⟨Y,m0,d0,Y,hO0,P,LQ Ju hB ⟨hi,hj⟩ c1 c2 R⟩)
 ·refine Ah (Ad (Ac (Aq (Qm Y (Qm Y (Qx (oS Y) Y (Qm Y (Am ?_))))))));refine Ao Y (λh2=>?_) (λh2=>?_)
  ·-- one element on the right
   obtain rfl:b=t+1:=ω
   refine Aq (Qm Y (Qm Y (BM (Qm Y (Qm Y (Am (Ac (Ag ?_))))))))
   refine Ay (λn s h' ms'=>∃(i j:Nat),n=j-i/\s=[(0,v),(1,.w a),(2,.w t),(4,(Q8 g)),(14,.w i),(15,.w j)]/\h=h'/\ms'=[m]/\a<=i/\i<=j/\j<=t/\(i=a\/C9 d[t]! d[i-1]! = false)/\(j=t\/C9 d[t]! d[j]! = true))
    (t-a) _ ⟨a,t,rfl,rfl,rfl,rfl,ω,ω,ω,.inl rfl,.inl rfl⟩ Qs ?_
   rintro n s h' ms' ⟨i,j,rfl,rfl,rfl,rfl,hi,hij,hj,c1,c2⟩;refine Ac (Aq (Qm Y (Qm Y (Qm Y (Am ?_)))));refine Ao Y (λhlt=>?_) (λhlt=>?_)
   ·refine Ah (Ad (Ag (Aq (Qm Y (Qm Y (Qx (oA Y) Y (Qx (CD Y U3 Ic Y) Y (Qx (Ef (n:=1) Y Y Y ω) Y (Qx (CD Y Ic U3 Y) Y (Qm Y (Am ?_)))))))))));rw[Hi i j ω];refine Ac (Bc 9 CT κ Y (Wm Y (Wm Y (Wm Y (AM (AA (t) (hO.rd (.head _)) Y Bm AI Y Y ω ω) Y Y (AM (oG Y Ey AI (hO.get (.head _) ω)) Y Y (Wm Y (Wm Y (AM (AA ((i+j)/2) (hO.rd (.head _)) Y Bm AI Y Y ω ω) Y Y (AM (oG Y Ey AI (hO.get (.head _) ω)) Y Y (A7 (Qx (CE Y Y call196 Y (ON _ _ _ g hg _)) Y (Qm Y (Qm Y (Am ?_)))))))))))))));refine BG Y (λhl=>?_) (λhl=>?_)
    ·have hl:C9 d[t]! d[(i+j)/2]! = false:=by unfold C9;simpa using hl
     refine Ab (Qm Y (Qx (oA Y) Y (Qm Y (Ak (Ai ?_)))));exact Al (j-((i+j)/2+1)) _ ω ⟨(i+j)/2+1,j,Y,Y,Y,Y,ω,ω,ω,.inr (by rw[ie];exact hl),c2⟩ Qs
    ·have hl:C9 d[t]! d[(i+j)/2]! = true:=by unfold C9;simpa using hl
     refine Ab (Qm Y (Qm Y (Ak (Ai ?_))));exact Al ((i+j)/2-i) _ ω ⟨i,(i+j)/2,Y,Y,Y,Y,ω,ω,ω,c1,.inr hl⟩ Qs
   ·obtain rfl:i=j:=ω
    refine Av (Aa (Aa (Af (Ad (Ac (Aq (Qm Y (Qm Y (Am (Ag ?_))))))))))
    refine Ay (λn s h' ms'=>∃(k:Nat) (d0:Array CeO) (m:Hp),n=k-i/\s=[(0,v),(14,.w i),(17,.w k)]/\h=h'/\ms'=[m]/\i<=k/\k<=t/\OSC m v d0/\ShR d d0 t k/\PermIn a (t+1) d d0)
     (t-i) _ ⟨t,d,m,rfl,rfl,rfl,rfl,ω,ω,hO,ShR.start d t,permIn_refl d a (t+1)⟩ Qs ?_
    rintro n s h' ms' ⟨k,d0,m0,rfl,rfl,rfl,rfl,hik,hkt,hO0,R,P⟩;have hds:=R.1;refine Ac (Aq (Qm Y (Qm Y (Qm Y (Am ?_)))));refine Ao Y (λhltk=>?_) (λhltk=>?_)
    ·have st:ShR d (Go.Sort.swp d0 k (k-1)) t (k-1):=by
      obtain⟨k',rfl⟩:∃k',k=k'+1:=⟨k-1,ω⟩
      exact R.step ω ω
     have e:(k:Int)-1=((k-1:Nat):Int):=ω
     refine Ah (Ad (Ac (Ag (Eb 14 [false,false,true,true,true] CT κ κ κ (Ew Y Y Y Y (CB Y Y) (Ew Y Y Y Y (CB Y Y) (Ew Y Y Y Y (NH Y Y Y ω) ?_)))))));refine⟨Y,?_⟩;simp only[E3,zap,bl,ay,jr,jq,js,jj,i6,i7];refine Wm Y (Wm Y (Ex Y Y Y (Ex Y Y Y (Ex Y Y Y (Wm Y (Wm Y (AM (oS Y) Y Y (AM (AA (k-1) (hO0.rd (.head _)) Y Bm AI Y Y ω ω) Y Y (AM (oG Y Ey AI (hO0.get (.head _) ω)) Y Y (Wm Y (Wm Y (AM (AA (k) (hO0.rd (.head _)) Y Bm AI Y Y ω ω) Y Y (AM (oG Y Ey AI (hO0.get (.head _) ω)) Y Y (A7 (Qx (AA (k) (hO0.rd (.head _)) Y Bm AI Y Y ω ω) Y (DR 0 _ hO0 Y AI Y Y Y ω Y Y (λmhO1 hzhO1 hO1=>Qx (AA (k-1) (hO1.rd (.head _)) Y Bm AI Y Y ω ω) Y (DR 0 _ hO1 Y AI Y Y Y ω Y Y (λmhO2 hzhO2 hO2=>Ak (Il (Ai (Ad (Ab (Qm Y (Qx (oS Y) Y (Qm Y (Ak ?_)))))))))))))))))))))))))));rw[e];exact Al (k-1-i) _ ω ⟨k-1,_,mhO2,Y,Y,Y,Y,ω,ω,hO2,st,permIn_trans _ _ _ _ _ P (swp_permIn d0 a (t+1) k (k-1) ω ω ω ω ω)⟩ Qs
    ·obtain rfl:k=i:=ω
     refine Av (Aa (Aa (Af (Ad (An (Ae ?_))))));exact F6 Y (⟨Y,m0,d0,Y,hO0,P,Ng Ju hA ⟨hi,hj⟩ c1 c2 R⟩)
  ·refine Ah (Ad (Aq (Qm Y (Qm Y (Qx (oA Y) Y (Qx (CD Y U3 Ic Y) Y (Qx (Ef (n:=1) Y Y Y ω) Y (Qx (CD Y Ic U3 Y) Y (Qm Y (Am ?_))))))))));rw[Hi a b ω];obtain⟨mid,hmid⟩:∃mid,mid=(a+b)/2:=⟨_,Y⟩
   rw[<-hmid];refine Aq (Qm Y (Qm Y (Qx (oA Y) Y (Qm Y (BM (Qm Y (Qm Y (Am ?_))))))));refine Bg (λs h' ms'=>∃(s0 r0:Nat),s=[(0,v),(1,.w a),(2,.w t),(3,.w b),(4,(Q8 g)),(18,.w mid),(19,.w ((mid:Int)+t)),(20,.w s0),(21,.w r0)]/\h=h'/\ms'=[m]/\((mid<t/\s0+b=mid+t/\r0=mid)\/(t<=mid/\s0=a/\r0=t))) ?_ (λs h ms hI=>?_)
   ·refine Ac (Ab (Qm Y (Qm Y (Qm Y (Am ?_)))));refine Ao Y (λhgt=>?_) (λhgt=>?_)
    ·refine Ac (Ab (Qm Y (Qm Y (Qx (oS Y) Y (Qm Y (Gl (Qm Y (Qm Y (Ak ?_)))))))));have e:(mid:Int)+t-b=((mid+t-b:Nat):Int):=ω
     rw[e];exact Az _ ⟨mid+t-b,mid,Y,Y,Y,.inl ⟨ω,ω,Y⟩⟩ Qs
    ·refine Ac (Ab (Qm Y (Qm Y (Gl (Qm Y (Qm Y (Ak ?_)))))));exact Az _ ⟨a,t,Y,Y,Y,.inr ⟨ω,Y,Y⟩⟩ Qs
   ·obtain⟨s0,r0,rfl,rfl,rfl,hc⟩:=hI;refine Aq (Qm Y (Qx (oS Y) Y (Qm Y (Am (Ac (Ag ?_))))))
    refine Ay (λn s h' ms'=>∃(i j:Nat),n=j-i/\s=[(0,v),(1,.w a),(2,.w t),(3,.w b),(4,(Q8 g)),(18,.w mid),(19,.w ((mid:Int)+t)),(20,.w i),(21,.w j),(22,.w ((mid:Int)+t-1))]/\h=h'/\ms'=[m]/\s0<=i/\i<=j/\j<=r0/\(i=s0\/C9 d[mid+t-i]! d[i-1]! = false)/\(j=r0\/C9 d[mid+t-1-j]! d[j]! = true))
     (r0-s0) _ ⟨s0,r0,rfl,rfl,rfl,rfl,ω,ω,ω,.inl rfl,.inl rfl⟩ Qs ?_
    rintro n s h' ms' ⟨i,j,rfl,rfl,rfl,rfl,hi,hij,hj,c1,c2⟩;refine Ac (Aq (Qm Y (Qm Y (Qm Y (Am ?_)))));refine Ao Y (λhlt=>?_) (λhlt=>?_)
    ·refine Ah (Ad (Ag (Aq (Qm Y (Qm Y (Qx (oA Y) Y (Qx (CD Y U3 Ic Y) Y (Qx (Ef (n:=1) Y Y Y ω) Y (Qx (CD Y Ic U3 Y) Y (Qm Y (Am ?_)))))))))));rw[Hi i j ω];refine Ac (Bc 11 CT κ Y (Wm Y (Wm Y (Wm Y (Wm Y (AM (oS Y) Y Y (AM (AA (mid+t-1-(i+j)/2) (hO.rd (.head _)) Y Bm AI Y Y ω ω) Y Y (AM (oG Y Ey AI (hO.get (.head _) ω)) Y Y (Wm Y (Wm Y (AM (AA ((i+j)/2) (hO.rd (.head _)) Y Bm AI Y Y ω ω) Y Y (AM (oG Y Ey AI (hO.get (.head _) ω)) Y Y (A7 (Qx (CE Y Y call196 Y (ON _ _ _ g hg _)) Y (Qm Y (Qm Y (Am ?_)))))))))))))))));refine BG Y (λhl=>?_) (λhl=>?_)
     ·have hl:C9 d[mid+t-1-(i+j)/2]! d[(i+j)/2]! = false:=by unfold C9;simpa using hl
      refine Ab (Qm Y (Qx (oA Y) Y (Qm Y (Ak (Ai ?_)))));exact Al (j-((i+j)/2+1)) _ ω ⟨(i+j)/2+1,j,Y,Y,Y,Y,ω,ω,ω,.inr (by rw[ie,show mid+t-((i+j)/2+1)=mid+t-1-(i+j)/2 by omega];exact hl),c2⟩ Qs
     ·have hl:C9 d[mid+t-1-(i+j)/2]! d[(i+j)/2]! = true:=by unfold C9;simpa using hl
      refine Ab (Qm Y (Qm Y (Ak (Ai ?_))));exact Al ((i+j)/2-i) _ ω ⟨i,(i+j)/2,Y,Y,Y,Y,ω,ω,ω,c1,.inr hl⟩ Qs
    ·obtain rfl:i=j:=ω
     obtain⟨e,he⟩:∃e,e=mid+t-i:=⟨_,Y⟩
     have he2:(mid:Int)+t-i=(e:Int):=ω
     refine Av (Aa (Aa (Af (Ad (Aq (Qm Y (Qm Y (Qx (oS Y) Y (Qm Y (Am ?_))))))))));rw[he2]
     have k1:i=a\/e=b\/C9 d[e]! d[i-1]! = false:=by
      rcases c1 with c|c
      ·rcases hc with hc|hc
       ·right;left;omega
       ·left;omega
      ·right;right;rw[he];exact c
     have k2:i=t\/e=t\/C9 d[e-1]! d[i]! = true:=by
      rcases c2 with c|c
      ·rcases hc with hc|hc
       ·right;left;omega
       ·left;omega
      ·right;right;rw[show e-1=mid+t-1-i by omega];exact c
     have hgeo:a<=i/\i<=t/\i<=mid/\t<=e/\e<=b:=by rcases hc with hc|hc<;>omega
     have hs2:i+e=mid+t:=ω
     refine Bg (λs h' ms'=>∃(d1:Array CeO) (m1:Hp),s=[(0,v),(1,.w a),(3,.w b),(4,(Q8 g)),(18,.w mid),(20,.w i),(24,.w e)]/\h=h'/\ms'=[m1]/\OSC m1 v d1/\(∀k,d1[k]! = FO d i t e k)/\PermIn a b d d1) ?_ (λs h ms hI=>?_)
     ·refine Ac (Ab (Qm Y (Qm Y (Qm Y (Qm Y ?_)))));refine AL (t:=181) Y (λq1=>?_) (λq1=>?_)
      ·refine Qg (Ar Y Y) Y (Qg (Ar Y Y) Y (Qg (DA Y Y Y) Y (Qm Y (Am ?_))));refine Ao Y (λq2=>?_) (λq2=>?_)
       ·refine Ab (Qm Y (Qm Y (Qm Y (Qm Y (Qm Y (Bs (pre:=[m]) Y call298 Y (RK d v (Q8 g) m hO i t e a b ω ω ω ω ω ω ω h Y Y Y) Y Y Y Y (λr h1 ms1 l1 hF=>?_)))))));obtain⟨rfl,m1,d1,rfl,hO1,hr,P⟩:=hF;refine Ak ?_;exact Az _ ⟨d1,m1,Y,Y,Y,hO1,hr,P⟩ Qs
       ·refine Ah ?_;exact Az _ ⟨d,m,Y,Y,Y,hO,λk=>(HQ ω k).symm,permIn_refl d a b⟩ Qs
      ·refine Qk Y (Qk Y (Qk Y (Qm Y (Am (AQ Y (Ah ?_))))));exact Az _ ⟨d,m,Y,Y,Y,hO,λk=>(HQ ω k).symm,permIn_refl d a b⟩ Qs
     ·obtain⟨d1,m1,rfl,rfl,rfl,hO1,hr,P⟩:=hI;have C:=XS Ju hA hB hgeo hs2 hr k1 k2;have hd1:=P.1;refine Bg (λs h' ms'=>∃(d2:Array CeO) (m2:Hp),s=[(0,v),(3,.w b),(4,(Q8 g)),(18,.w mid),(24,.w e)]/\h=h'/\ms'=[m2]/\OSC m2 v d2/\PermIn a mid d1 d2/\SortedIn C9 a mid d2) ?_ (λs h ms hI=>?_)
      ·refine Ac (Ab (Qm Y (Qm Y (Qm Y (Qm Y ?_)))));refine AL (t:=195) Y (λq1=>?_) (λq1=>?_)
       ·refine Qg (Ar Y Y) Y (Qg (Ar Y Y) Y (Qg (DA Y Y Y) Y (Qm Y (Am ?_))));refine Ao Y (λq2=>?_) (λq2=>?_)
        ·refine Ab (Qm Y (Qm Y (Qm Y (Qm Y (Qm Y (Bs (pre:=[m1]) Y call277 Y (ih d1 v m1 hO1 a i mid ω ω ω ω ω C.lo C.lo2 h g hg Y Y Y) Y Y Y Y (λr h1 ms1 l1 hF=>?_)))))));obtain⟨rfl,m2,d2,rfl,hO2,P2,S2⟩:=hF;refine Ak ?_;exact Az _ ⟨d2,m2,Y,Y,Y,hO2,P2,S2⟩ Qs
        ·obtain rfl:i=mid:=ω
         refine Ah ?_;exact Az _ ⟨d1,m1,Y,Y,Y,hO1,permIn_refl d1 a _,C.lo⟩ Qs
       ·obtain rfl:i=a:=ω
        refine Qk Y (Qk Y (Qk Y (Qm Y (Am (AQ Y (Ah ?_))))));exact Az _ ⟨d1,m1,Y,Y,Y,hO1,permIn_refl d1 _ _,C.lo2⟩ Qs
      ·obtain⟨d2,m2,rfl,rfl,rfl,hO2,P2,S2⟩:=hI;have hd2:=P2.1;have f1:SortedIn C9 mid e d2:=B3 C.hi λk h1 h2=>P2.2.1 k (.inr h1);have f2:SortedIn C9 e b d2:=B3 C.hi2 λk h1 h2=>P2.2.1 k (.inr ω)
       have fin:∀d3,PermIn mid b d2 d3->SortedIn C9 mid b d3->PermIn a b d d3/\SortedIn C9 a b d3:=λd3 P3 S3=>
        ⟨permIn_trans _ _ _ _ _ P (permIn_trans _ _ _ _ _ (permIn_mono d1 d2 a mid a b ω ω ω P2) (permIn_mono d2 d3 mid b a b ω ω ω P3)),PK C ω ω P2 S2 P3 S3⟩
       refine Aq (Qm Y (Qm Y (Qm Y (Qm Y ?_))));refine AL (t:=209) Y (λq1=>?_) (λq1=>?_)
       ·refine Qg (Ar Y Y) Y (Qg (Ar Y Y) Y (Qg (DA Y Y Y) Y (Qm Y (Am ?_))));refine Ao Y (λq2=>?_) (λq2=>?_)
        ·refine Ab (Qm Y (Qm Y (Qm Y (Qm Y (Qm Y (Bs (pre:=[m2]) Y call277 Y (ih d2 v m2 hO2 mid e b ω ω ω ω ω f1 f2 h g hg Y Y Y) Y Y Y Y (λr h1 ms1 l1 hF=>?_)))))));obtain⟨rfl,m3,d3,rfl,hO3,P3,S3⟩:=hF;refine Ak ?_;exact Cq Y (⟨Y,m3,d3,Y,hO3,(fin d3 P3 S3).1,(fin d3 P3 S3).2⟩)
        ·obtain rfl:e=b:=ω
         refine Ah ?_;exact Cq Y (⟨Y,m2,d2,Y,hO2,(fin d2 (permIn_refl d2 _ _) f1).1,(fin d2 (permIn_refl d2 _ _) f1).2⟩)
       ·obtain rfl:e=mid:=ω
        refine Qk Y (Qk Y (Qk Y (Qm Y (Am (AQ Y (Ah ?_))))));exact Cq Y (⟨Y,m2,d2,Y,hO2,(fin d2 (permIn_refl d2 _ _) f2).1,(fin d2 (permIn_refl d2 _ _) f2).2⟩)
def BkC(d:Array CeO)(s n:Nat):Prop:=∀x,s∣x->SortedIn C9 x (min (x+s) n) d
theorem E7{d:Array CeO}{a b b':Nat}(h:SortedIn C9 a b d)(hb:b'<=b):SortedIn C9 a b' d:=λi j h1 h2 h3=>h i j h1 h2 ω
theorem JG{d:Array CeO}{a b:Nat}(hb:b<=a):SortedIn C9 a b d:=λi j h1 h2 h3=>ω
theorem R7(d:Array CeO)(v:Value)(m:Hp)(hO:OSC m v d)(hsz:d.size<=1000000)(h:Hp)(g:Nat)(hg:Up h g){n':Int}(en:n'=d.size) :
  FnT Tryz.prog 238 #[v,.w n',(Q8 g)] h [m] (λ_ h' ms'=>h=h'/\∃m' d',ms'=[m']/\OSC m' v d'/\PermIn 0 d.size d d'/\SortedIn C9 0 d.size d'):=by
 subst en;obtain⟨n,hn⟩:∃n,n=d.size:=⟨_,Y⟩
 rw[<-hn];refine Au func238 ntmps238 Y Y (λw0 hw0=>?_);simp only[A6];refine Aq (Qm Y (BM (Qm Y (Qm Y (Qm Y (Am (Ac (Ag ?_))))))))
 refine Ay (λq s h' ms'=>∃(a:Nat) (d0:Array CeO) (m:Hp),q=n-a/\s=[(0,v),(1,.w n),(2,(Q8 g)),(6,.w 20),(7,.w a),(8,.w ((a:Int)+20))]/\h=h'/\ms'=[m]/\a<=n/\20∣a/\OSC m v d0/\PermIn 0 n d d0/\∀x,20∣x->x+20<=a->SortedIn C9 x (x+20) d0)
  (n-0) _ ⟨0,d,m,rfl,rfl,rfl,rfl,ω,⟨0,rfl⟩,hO,permIn_refl d 0 n,λx _ h=>ω⟩ Qs ?_
 rintro q s h' ms' ⟨a,d0,m0,rfl,rfl,rfl,rfl,han,hda,hO0,P,hB⟩;have hds:=P.1;refine Ac (Aq (Qm Y (Qm Y (Qm Y (Am ?_)))));refine Ao Y (λhle=>?_) (λhle=>?_)
 ·refine Ah (Ad (Ag (Aq (Qm Y (Qm Y (Qm Y (Qm Y (Bs (pre:=[m0]) Y call240 Y (Pp d0 v m0 hO0 a (a+20) ω ω ω h g hg Y ω) Y Y Y Y (λr h1 ms1 l1 hF=>?_)))))))));obtain⟨rfl,m1,d1,rfl,hO1,P1,S1⟩:=hF;refine BM (Qm Y (Qm Y (Gl (Qm Y (Qm Y (Qx (oA Y) Y (Qm Y (Ak (Ai ?_)))))))))
  exact Al (n-(a+20)) _ ω ⟨a+20,d1,m1,Y,Y,Y,Y,ω,Nat.dvd_add hda ⟨1,Y⟩,hO1,permIn_trans _ _ _ _ _ P (permIn_mono d0 d1 a (a+20) 0 n ω ω ω P1),λx hx hx2=>by
   rcases eh x a with h1|h1
   ·have:=Fq hx hda h1;exact B3 (hB x hx this) λk h2 h3=>P1.2.1 k (.inl ω)
   ·obtain rfl:x=a:=ω
    exact S1⟩ Qs
 ·refine Av (Aa (Aa (Af (Ad (Aq (Qm Y (Qm Y (Qm Y (Qm Y (Bs (pre:=[m0]) Y call240 Y (Pp d0 v m0 hO0 a n ω ω ω h g hg Y Y) Y Y Y Y (λr h1 ms1 l1 hF=>?_)))))))))));obtain⟨rfl,m1,d1,rfl,hO1,P1,S1⟩:=hF;have PB:PermIn 0 n d d1:=permIn_trans _ _ _ _ _ P (permIn_mono d0 d1 a n 0 n ω ω ω P1)
  have B1:BkC d1 20 n:=λx hx=>by
   rcases dy x a with h1|rfl|h1
   ·have:=Fq hx hda h1;exact E7 (B3 (hB x hx this) λk h2 h3=>P1.2.1 k (.inl ω)) ω
   ·exact E7 S1 ω
   ·have:=Fq hda hx h1;exact JG ω
  refine Am (Ag ?_)
  refine Ay (λq s h' ms'=>∃(w:Nat) (d0:Array CeO) (m:Hp),q=n-w/\s=[(0,v),(1,.w n),(2,(Q8 g)),(6,.w w)]/\h=h'/\ms'=[m]/\1<=w/\w<=4000000/\OSC m v d0/\PermIn 0 n d d0/\BkC d0 w n)
   (n-20) _ ⟨20,d1,m1,rfl,rfl,rfl,rfl,ω,ω,hO1,PB,B1⟩ Qs ?_
  rintro q s h' ms' ⟨w,d2,m2,rfl,rfl,rfl,rfl,hw1,hw2,hO2,P2,B2⟩;have hd2:=P2.1;refine Ac (Aq (Qm Y (Qm Y (Qm Y (Am ?_)))));refine Ao Y (λhlt=>?_) (λhlt=>?_)
  ·refine Ah (Ad (Ag (Aq (Qm Y (Qx (oM Y) Y (Qm Y (Qm Y (Am (Ac (Ag ?_))))))))))
   refine Ay (λq s h' ms'=>∃(a:Nat) (z:Int) (d0:Array CeO) (m:Hp),q=n-a/\s=[(0,v),(1,.w n),(2,(Q8 g)),(6,.w w),(7,.w a),(8,.w z)]/\h=h'/\ms'=[m]/\z=a+2*w/\a<=n/\2*w∣a/\OSC m v d0/\PermIn 0 n d d0/\(∀x,2*w∣x->x+2*w<=a->SortedIn C9 x (x+2*w) d0)/\∀x,w∣x->a<=x->SortedIn C9 x (min (x+w) n) d0)
    (n-0) _ ⟨0,2*(w:Int),d2,m2,rfl,rfl,rfl,rfl,ω,ω,⟨0,rfl⟩,hO2,P2,λx _ h=>ω,λx hx _=>B2 x hx⟩ Qs ?_
   rintro q s h' ms' ⟨a,z,d3,m3,rfl,rfl,rfl,rfl,rfl,han,hda,hO3,P3,hL,hR⟩;have hd3:=P3.1;have hwa:w∣a:=Nat.dvd_trans ⟨2,fv 2 w⟩ hda;have hwa2:w∣a+w:=Nat.dvd_add hwa (Nat.dvd_refl w);have hwa3:2*w∣a+2*w:=Nat.dvd_add hda (Nat.dvd_refl _);have s1:=hR a hwa (au _);have s2:=hR (a+w) hwa2 ω;refine Ac (Aq (Qm Y (Qm Y (Qm Y (Am ?_)))));refine Ao Y (λhle2=>?_) (λhle2=>?_)
   ·rw[show min (a+w) n=a+w by omega]at s1;rw[show min (a+w+w) n=a+2*w by omega]at s2;refine Ah (Ad (Ag (Aq (Qm Y (Qm Y (Qm Y (Qm Y (Qx (oA Y) Y (Qm Y (Qm Y (Bs (pre:=[m3]) Y call277 Y (JI (2*w) d3 v m3 hO3 a (a+w) (a+2*w) ω ω ω ω ω s1 s2 h g hg Y ω ω) Y Y Y Y (λr h1 ms1 l1 hF=>?_))))))))))));obtain⟨rfl,m4,d4,rfl,hO4,P4,S4⟩:=hF;refine BM (Qm Y (Qm Y (Gl (Qm Y (Qm Y (Qx (oM Y) Y (Qx (oA Y) Y (Qm Y (Ak (Ai ?_))))))))))
    exact Al (n-(a+2*w)) _ ω ⟨a+2*w,(a:Int)+2*w+2*w,d4,m4,Y,Y,Y,Y,ω,ω,hwa3,hO4,permIn_trans _ _ _ _ _ P3 (permIn_mono d3 d4 a (a+2*w) 0 n ω ω ω P4),λx hx hx2=>by
     rcases eh x a with h1|h1
     ·have:=Fq hx hda h1;exact B3 (hL x hx this) λk h2 h3=>P4.2.1 k (.inl ω)
     ·obtain rfl:x=a:=ω
      exact S4,λx hx hx2=>B3 (hR x hx ω) λk h2 h3=>P4.2.1 k (.inr ω)⟩ Qs
   ·have fin:∀d4,PermIn a n d3 d4->SortedIn C9 a n d4->PermIn 0 n d d4/\BkC d4 (w*2) n:=λd4 P4 S4=>⟨permIn_trans _ _ _ _ _ P3 (permIn_mono d3 d4 a n 0 n ω ω ω P4),λx hx=>by
     rw[fv]at hx ⊢;rcases dy x a with h1|rfl|h1
     ·have:=Fq hx hda h1;exact E7 (B3 (hL x hx this) λk h2 h3=>P4.2.1 k (.inl ω)) ω
     ·exact E7 S4 ω
     ·have:=Fq hda hx h1
      exact JG ω⟩
    refine Av (Aa (Aa (Af (Ad (Ac (Aq (Qm Y (Qm Y (Qx (oA Y) Y (Qm Y (BM (Qm Y (Qm Y (Qm Y (Am ?_)))))))))))))));refine Ao Y (λhm=>?_) (λhm=>?_)
    ·rw[show min (a+w) n=a+w by omega]at s1;rw[show min (a+w+w) n=n by omega]at s2;refine Ab (Qm Y (Qm Y (Qm Y (Qm Y (Qm Y (Bs (pre:=[m3]) Y call277 Y (JI (2*w) d3 v m3 hO3 a (a+w) n ω ω ω ω ω s1 s2 h g hg Y ω Y) Y Y Y Y (λr h1 ms1 l1 hF=>?_)))))));obtain⟨rfl,m4,d4,rfl,hO4,P4,S4⟩:=hF;have:=fin d4 P4 S4;refine Gl (Qm Y (Qx (oM Y) Y (Qm Y (Ak (Ai ?_)))));exact Al (n-w*2) _ ω ⟨w*2,d4,m4,Y,Y,Y,Y,ω,ω,hO4,this.1,this.2⟩ Qs
    ·rw[show min (a+w) n=n by omega]at s1;have:=fin d3 (permIn_refl d3 a n) s1;refine Ah (Ad (Ab (Qm Y (Qx (oM Y) Y (Qm Y (Ak (Ai ?_)))))));exact Al (n-w*2) _ ω ⟨w*2,d3,m3,Y,Y,Y,Y,ω,ω,hO3,this.1,this.2⟩ Qs
  ·refine Av (Aa (Aa (Af ?_)));exact Cq Y (⟨Y,m2,d2,Y,hO2,P2,by have:=B2 0 ⟨0,Y⟩;rwa [show min (0+w) n=n by omega]at this⟩)
theorem L7(d:Array CeO)(v:Value)(m:Hp)(hO:OSC m v d)(hsz:d.size<=1000000)(h:Hp)(g:Nat)(hg:Up h g) :
  FnT Tryz.prog 195 #[v,(Q8 g)] h [m] (λ_ h' ms'=>h=h'/\∃m' d',ms'=[m']/\OSC m' v d'/\PermIn 0 d.size d d'/\SortedIn C9 0 d.size d'):=by
 refine Au func195 ntmps195 Y Y (λw0 hw0=>?_);simp only[A6];refine Ab (Qm Y (Qm Y (Qx (As (hO.rd (.head _)) Y Bm Y) Y (Qm Y (Bs (pre:=[m]) Y call238 Y (R7 d v m hO hsz h g hg Y) Y Y Y Y (λr h1 ms1 l1 hF=>?_))))));obtain⟨rfl,m4,d4,rfl,hO4,P4,S4⟩:=hF;refine Ak ?_;exact Cq Y (⟨Y,m4,d4,Y,hO4,P4,S4⟩)
variable {m h:Hp} {v:Value} {d:Array Jf} {ms:List Hp}
abbrev OSD(m:Hp)(v:Value)(d:Array Jf):Prop:=OwnL cD 2 119 m v d.toList
theorem OSD.rd(O:OSD m v d)(hm:m∈ms):Rd h ms v 2 d.size (d.toList.flatMap cD):=by have:=(OwnL.rd O hm (h:=h)).rd;rwa [gq]at this
theorem OSD.get(O:OSD m v d)(hm:m∈ms){j:Nat}(hj:j<d.size):Seg h ms ((AG v).add (j*2)) (cD d[j]!):=by have:=(OwnL.rd O hm (h:=h)).seg (j:=j) (by simpa using hj);simpa[hj] using this
theorem DT{e:Entry}{Q:Exit->Act->World->Prop}{ops:Array Oper}{rest:List Oper}{o:Oper}{s:AF}{t:TypeId}{x y:Operand}{z:Value}{bytes:Nat}{a:Jf}(i j:Nat)(O:OSD m v d)(ho:o.op=.store t x y)(hs:Elem e.P t 2 z bytes)(hx:ev s x=some (.pointer (some ((AG v).add (j*2)))))(hy:ev s y=some (.agg (cD a).toArray))
  (hm:ms[i]?=some m) (hj:j<d.size) (hd:o.dst=none) (hg:o.guard=none)
  (K:∀m',(d.setIfInBounds j a).size=d.size->OSD m' v (d.setIfInBounds j a)->WL e ops Q rest s h (ms.set i m')):WL e ops Q (o::rest) s h ms:=
 FX i j a O ho hs hx hy rfl (G9 a) hm (by simpa using hj) hd hg λm' O'=>K m' σ (by
  show OwnL cD 2 119 m' v (d.setIfInBounds j a).toList
  rw[Array.toList_setIfInBounds];exact O')
theorem Gd(d:Array Jf)(v cv:Value)(m:Hp)(hO:OSD m v d)(a b n lo hi:Nat)(hab:a+n<=b)(hb:b+n<=d.size)(hsz:d.size<=1000000)(hlo:lo<=a)(hhi:b+n<=hi)(hhs:hi<=d.size)(h:Hp){a' b' n':Int}(ea:a'=a)(eb:b'=b)(en:n'=n) :
  FnT Tryz.prog 309 #[v,.w a',.w b',.w n',cv] h [m] (λ_ h' ms'=>h=h'/\∃m' d',ms'=[m']/\OSD m' v d'/\SwR d d' a b n/\PermIn lo hi d d'):=by
 subst ea eb en;refine Au func309 ntmps309 Y Y (λw0 hw0=>?_);simp only[A6];refine Aq (Qm Y (Am (Ag ?_)))
 refine Ay (λq s h' ms'=>∃(i:Nat) (d0:Array Jf) (m:Hp),q=n-i/\s=[(0,v),(1,.w a),(2,.w b),(3,.w n),(10,.w i)]/\h=h'/\ms'=[m]/\i<=n/\OSD m v d0/\SwR d d0 a b i/\PermIn lo hi d d0)
  (n-0) _ ⟨0,d,m,rfl,rfl,rfl,rfl,ω,hO,SwR.start d a b,permIn_refl d lo hi⟩ Qs ?_
 rintro q s h' ms' ⟨i,d0,m0,rfl,rfl,rfl,rfl,hi2,hO0,S,P⟩;have hds:=S.1;refine Ac (Aq (Qm Y (Qm Y (Qm Y (Am ?_)))));refine Ao Y (λhlt=>?_) (λhlt=>?_)
 ·refine Ah (Ad (Ac (Ag (Eb 20 [false,false,false,false,true,true,true,true] CT κ κ κ (Ew Y Y Y Y (CB Y Y) (Ew Y Y Y Y (CB Y Y) (Ew Y Y Y Y (CB Y Y) (Ew Y Y Y Y (OL Y Y Y ω) ?_))))))));refine⟨Y,?_⟩;simp only[E3,zap,bl,ay,jr,jq,js,jj,i6,i7];refine Wm Y (Wm Y (Wm Y (AM (oA Y) Y Y (Ex Y Y Y (Ex Y Y Y (Ex Y Y Y (Ex Y Y Y (Wm Y (Wm Y (Wm Y (AM (oA Y) Y Y (AM (AA (b+i) (hO0.rd (.head _)) Y Cf AS Y Y ω ω) Y Y (AM (oG Y Eh AS (hO0.get (.head _) ω)) Y Y (Wm Y (Wm Y (Wm Y (AM (oA Y) Y Y (AM (AA (a+i) (hO0.rd (.head _)) Y Cf AS Y Y ω ω) Y Y (AM (oG Y Eh AS (hO0.get (.head _) ω)) Y Y (A7 (Qx (AA (a+i) (hO0.rd (.head _)) Y Cf AS Y Y ω ω) Y (DT 0 _ hO0 Y AS Y Y Y ω Y Y (λmhO1 hzhO1 hO1=>Qx (AA (b+i) (hO1.rd (.head _)) Y Cf AS Y Y ω ω) Y (DT 0 _ hO1 Y AS Y Y Y ω Y Y (λmhO2 hzhO2 hO2=>Ak (Il (Ai (Ad (Ab (Qm Y (Qx (oA Y) Y (Qm Y (Ak ?_)))))))))))))))))))))))))))))))));refine Al (n-(i+1)) _ ω ⟨i+1,_,mhO2,Y,Y,Y,Y,ω,hO2,S.step ω ω,permIn_trans _ _ _ _ _ P (swp_permIn d0 lo hi (a+i) (b+i) ω ω ω ω ω)⟩ Qs
 ·obtain rfl:i=n:=ω
  refine Av (Aa (Aa (Af ?_)));exact Cq Y (⟨Y,m0,d0,Y,hO0,S,P⟩)
theorem Ro(d:Array Jf)(v cv:Value)(m:Hp)(hO:OSD m v d)(a t b lo hi:Nat)(hat:a<t)(htb:t<b)(hb:b<=d.size)(hsz:d.size<=1000000)(hlo:lo<=a)(hhi:b<=hi)(hhs:hi<=d.size)(h:Hp){a' t' b':Int}(ea:a'=a)(et:t'=t)(eb:b'=b) :
  FnT Tryz.prog 299 #[v,.w a',.w t',.w b',cv] h [m] (λ_ h' ms'=>h=h'/\∃m' d',ms'=[m']/\OSD m' v d'/\(∀k,d'[k]! = FO d a t b k)/\PermIn lo hi d d'):=by
 subst ea et eb;refine Au func299 ntmps299 Y Y (λw0 hw0=>?_);simp only[A6];refine Aq (Qm Y (Qm Y (Qx (oS Y) Y (Qm Y (BM (Qm Y (Qm Y (Qx (oS Y) Y (Qm Y (Am (Ac (Ag ?_))))))))))))
 refine Ay (λq s h' ms'=>∃(i j:Nat) (x y:Int) (d0:Array Jf) (m:Hp),q=i+j/\s=[(0,v),(2,.w t),(4,cv),(10,.w x),(11,.w y)]/\h=h'/\ms'=[m]/\x=i/\y=j/\0<i/\0<j/\a+i<=t/\t+j<=b/\OSD m v d0/\(∀k,FO d0 (t-i) t (t+j) k=FO d a t b k)/\PermIn lo hi d d0)
  ((t-a)+(b-t)) _ ⟨t-a,b-t,(t:Int)-a,(b:Int)-t,d,m,rfl,rfl,rfl,rfl,ω,ω,ω,ω,ω,ω,hO,λk=>by rw[show t-(t-a)=a by omega,show t+(b-t)=b by omega],permIn_refl d lo hi⟩ Qs ?_
 rintro q s h' ms' ⟨i,j,x,y,d0,m0,rfl,rfl,rfl,rfl,rfl,rfl,hi0,hj0,hai,hjb,hO0,hR,P⟩;have hds:=P.1;refine Ac (Aq (Qm Y (Qm Y (Qm Y (Am ?_)))));refine Ao Y (λhne=>?_) (λhne=>?_)
 ·refine Ah (Ad (Ag (Aq (Qm Y (Qm Y (Qm Y (Am ?_)))))));refine Ao Y (λhgt=>?_) (λhgt=>?_)
  ·refine Ac (Ab (Qm Y (Qm Y (Qm Y (Qx (oS Y) Y (Qm Y (Qm Y (Qm Y (Bs (pre:=[m0]) Y call309 Y (Gd d0 v cv m0 hO0 (t-i) t j lo hi ω ω ω ω ω ω h ω Y Y) Y Y Y Y (λr h1 ms1 l1 hF=>?_))))))))));obtain⟨rfl,m1,d1,rfl,hO1,S,P1⟩:=hF;refine Gl (Qm Y (Qm Y (Qx (oS Y) Y (Qm Y (Ak (Ai ?_))))));refine Al ((i-j)+j) _ ω ⟨i-j,j,(i:Int)-j,j,d1,m1,Y,Y,Y,Y,ω,Y,ω,ω,ω,ω,hO1,λk=>(PJ ω ω S k).trans (hR k),permIn_trans _ _ _ _ _ P P1⟩ Qs
  ·refine Ac (Ab (Qm Y (Qm Y (Qm Y (Qx (oS Y) Y (Qm Y (Qm Y (Qx (oA Y) Y (Qm Y (Qx (oS Y) Y (Qm Y (Qm Y (Bs (pre:=[m0]) Y call309 Y (Gd d0 v cv m0 hO0 (t-i) (t+j-i) i lo hi ω ω ω ω ω ω h ω ω Y) Y Y Y Y (λr h1 ms1 l1 hF=>?_))))))))))))));obtain⟨rfl,m1,d1,rfl,hO1,S,P1⟩:=hF;refine Gl (Qm Y (Qm Y (Qx (oS Y) Y (Qm Y (Ak (Ai ?_))))));refine Al (i+(j-i)) _ ω ⟨i,j-i,i,(j:Int)-i,d1,m1,Y,Y,Y,Y,Y,ω,ω,ω,ω,ω,hO1,λk=>(Lm ω ω S k).trans (hR k),permIn_trans _ _ _ _ _ P P1⟩ Qs
 ·obtain rfl:i=j:=ω
  refine Av (Aa (Aa (Af (Ad (Ab (Qm Y (Qm Y (Qm Y (Qx (oS Y) Y (Qm Y (Qm Y (Qm Y (Bs (pre:=[m0]) Y call309 Y (Gd d0 v cv m0 hO0 (t-i) t i lo hi ω ω ω ω ω ω h ω Y Y) Y Y Y Y (λr h1 ms1 l1 hF=>?_))))))))))))));obtain⟨rfl,m1,d1,rfl,hO1,S,P1⟩:=hF;refine Ak ?_;exact Cq Y (⟨Y,m1,d1,Y,hO1,λk=>(Q2 ω S k).trans (hR k),permIn_trans _ _ _ _ _ P P1⟩)
end
section
open Go.Lin Go.Sort Go.Srt
theorem PW(d:Array Jf)(v:Value)(m:Hp)(hO:OSD m v d)(a b:Nat)(hab:a<=b)(hb:b<=d.size)(hsz:d.size<=1000000)(h:Hp)(g:Nat)(hg:U8 h g){a' b':Int}(ea:a'=a)(eb:b'=b) :
  FnT Tryz.prog 278 #[v,.w a',.w b',(Q4 g)] h [m] (λ_ h' ms'=>h=h'/\∃m' d',ms'=[m']/\OSD m' v d'/\PermIn a b d d'/\SortedIn C7 a b d'):=by
 subst ea eb;have hfin:=insertionSort_holds (lt:=C7) Jz d a b hab hb;refine Au func278 ntmps278 Y Y (λw0 hw0=>?_);simp only[A6];refine Aq (Qm Y (Qx (oA Y) Y (Qm Y (Am (Ag ?_)))))
 refine Ay (λn s h' ms'=>∃(i:Nat) (z:Int) (d':Array Jf) (m:Hp),n=b-i/\s=[(0,v),(1,.w a),(2,.w b),(3,(Q4 g)),(8,.w z)]/\h=h'/\ms'=[m]/\z=i/\a<i/\i<=4611686018427387905/\OSD m v d'/\d'.size=d.size/\insOuter C7 a b i d'=insertionSort C7 d a b)
  _ _ ⟨a+1,(a:Int)+1,d,m,rfl,rfl,rfl,rfl,ω,ω,ω,hO,rfl,rfl⟩ Qs ?_
 rintro n s h' ms' ⟨i,z,d',m,rfl,rfl,rfl,rfl,hz,hai,hi,hO,hds,hR⟩;refine Ac (Aq (Qm Y (Qm Y (Qm Y (Am ?_)))));refine Ao Y (λhlt=>?_) (λhlt=>?_)
 ·refine Ah (Ad (Ac (Ag (Aq (Qm Y (Qm Y (Am (Ag ?_))))))))
  refine Ay (λn s h' ms'=>∃(j:Nat) (y:Int) (d':Array Jf) (m:Hp),j=n/\s=[(0,v),(1,.w a),(2,.w b),(3,(Q4 g)),(8,.w z),(9,.w y)]/\h=h'/\ms'=[m]/\y=j/\j<=i/\OSD m v d'/\d'.size=d.size/\insOuter C7 a b (i+1) (insInner C7 a j d')=insertionSort C7 d a b)
   _ _ ⟨i,z,d',m,rfl,rfl,rfl,rfl,hz,ω,hO,hds,by rw[<-hR];conv=>rhs;unfold insOuter;rw[ac ω]⟩ Qs ?_
  rintro n s h' ms' ⟨j,y,d1,m1,rfl,rfl,rfl,rfl,hy,hji,hO1,hds1,hR1⟩;refine Ac (Ac (Bc 14 CT κ Y (Wm Y (Wm Y (Wm Y (Wm Y ?_))))));refine CC (t:=21) Y (λhja=>?_) (λhja=>?_)
  ·refine AJ (Ar Y Y) Y Y Y Y (AJ (Ar Y Y) Y Y Y Y (AJ (Ar Y Y) Y Y Y Y (AJ (AA (j) (hO1.rd (.head _)) Y Cf AS Y Y ω ω) Y Y Y Y (AJ (oG Y Eh AS (hO1.get (.head _) ω)) Y Y Y Y (AJ (Ar Y Y) Y Y Y Y (AJ (Ar Y Y) Y Y Y Y (AJ (oS Y) Y Y Y Y (AJ (AA (j-1) (hO1.rd (.head _)) Y Cf AS Y Y ω ω) Y Y Y Y (AJ (oG Y Eh AS (hO1.get (.head _) ω)) Y Y Y Y (A7 (Qg (CE Y Y call199 Y (Ns _ _ _ g hg _)) Y (Qg (DA Y Y Y) Y (Qm Y (Am ?_))))))))))))));refine BG Y (λhl=>?_) (λhl=>?_)
   ·refine Ah (Ad (Ac (Ag (Eb 14 [false,false,true,true,true] CT κ κ κ (Ew Y Y Y Y (CB Y Y) (Ew Y Y Y Y (CB Y Y) (Ew Y Y Y Y (NH Y Y Y ω) ?_)))))));refine⟨Y,?_⟩;simp only[E3,zap,bl,ay,jr,jq,js,jj,i6,i7];refine Wm Y (Wm Y (Ex Y Y Y (Ex Y Y Y (Ex Y Y Y (Wm Y (Wm Y (AM (oS Y) Y Y (AM (AA (j-1) (hO1.rd (.head _)) Y Cf AS Y Y ω ω) Y Y (AM (oG Y Eh AS (hO1.get (.head _) ω)) Y Y (Wm Y (Wm Y (AM (AA (j) (hO1.rd (.head _)) Y Cf AS Y Y ω ω) Y Y (AM (oG Y Eh AS (hO1.get (.head _) ω)) Y Y (A7 (Qx (AA (j) (hO1.rd (.head _)) Y Cf AS Y Y ω ω) Y (DT 0 _ hO1 Y AS Y Y Y ω Y Y (λmhO2 hzhO2 hO2=>Qx (AA (j-1) (hO2.rd (.head _)) Y Cf AS Y Y ω ω) Y (DT 0 _ hO2 Y AS Y Y Y ω Y Y (λmhO3 hzhO3 hO3=>Ak (Il (Ai (Ad (Ab (Qm Y (Qx (oS Y) Y (Qm Y (Ak ?_)))))))))))))))))))))))))));obtain⟨j',rfl⟩:∃j',j=j'+1:=⟨j-1,ω⟩
    refine Al j' _ ω ⟨j',y-1,_,mhO3,Y,Y,Y,Y,ω,ω,hO3,by simp[hds1],?_⟩ Qs;rw[<-hR1]
    conv=>rhs;unfold insInner
    rw[ac (by rw[bo];exact⟨ai ω,hl⟩)];rfl
   ·refine Av (Aa (Aa (Af (Ai (Ad (Ab (Qm Y (Qx (oA Y) Y (Qm Y (Ak ?_))))))))));refine Al (b-(i+1)) _ ω ⟨i+1,z+1,d1,m1,Y,Y,Y,Y,ω,ω,ω,hO1,hds1,?_⟩ Qs;rw[<-hR1];obtain⟨j',rfl⟩:∃j',j=j'+1:=⟨j-1,ω⟩
    conv=>rhs;unfold insInner
    rw[aa (by rw[bo];rintro⟨_,h2⟩;exact jt (hl.symm.trans h2) δ)]
  ·refine AC Y Y Y Y Y (AC Y Y Y Y Y (AC Y Y Y Y Y (AC Y Y Y Y Y (AC Y Y Y Y Y (AC Y Y Y Y Y (AC Y Y Y Y Y (AC Y Y Y Y Y (AC Y Y Y Y Y (AC Y Y Y Y Y (A7 (Qk Y (Qk Y (Qm Y (Am (AQ Y (Av (Aa (Aa (Af (Ai (Ad (Ab (Qm Y (Qx (oA Y) Y (Qm Y (Ak ?_))))))))))))))))))))))))));refine Al (b-(i+1)) _ ω ⟨i+1,z+1,d1,m1,Y,Y,Y,Y,ω,ω,ω,hO1,hds1,?_⟩ Qs;rw[<-hR1];cases j with
   | zero=>rfl
   | succ j'=>
    conv=>rhs;unfold insInner
    rw[aa (by simp;intro h';omega)]
 ·refine Av (Aa (Aa (Af ?_)));exact Cq Y (⟨Y,m,insertionSort C7 d a b,Y,by rw[<-hR];unfold insOuter;rw[aa ω];exact hO,hfin.1,hfin.2⟩)
theorem Js:∀(N:Nat) (d:Array Jf) (v:Value) (m:Hp) (hO:OSD m v d) (a t b:Nat) (hN:b-a<=N) (hat:a<t) (htb:t<b) (hb:b<=d.size) (hsz:d.size<=1000000) (hA:SortedIn C7 a t d) (hB:SortedIn C7 t b d) (h:Hp) (g:Nat) (hg:U8 h g) {a' t' b':Int} (ea:a'=a) (et:t'=t) (eb:b'=b),
  FnT Tryz.prog 279 #[v,.w a',.w t',.w b',(Q4 g)] h [m] (λ_ h' ms'=>h=h'/\∃m' d',ms'=[m']/\OSD m' v d'/\PermIn a b d d'/\SortedIn C7 a b d'):=by
 intro N
 induction N with
 | zero=>intro d v m hO a t b hN hat htb;omega
 | succ N ih=>
 intro d v m hO a t b hN hat htb hb hsz hA hB h g hg a' t' b' ea et eb;subst ea et eb;refine Au func279 ntmps279 Y Y (λw0 hw0=>?_);simp only[A6];refine Ac (Aq (Qm Y (Qm Y (Qx (oS Y) Y (Qm Y (Am ?_))))));refine Ao Y (λh1=>?_) (λh1=>?_)
 ·-- one element on the left
  obtain rfl:t=a+1:=ω
  refine Aq (Qm Y (Qm Y (BM (Qm Y (Qm Y (Am (Ac (Ag ?_))))))))
  refine Ay (λn s h' ms'=>∃(i j:Nat),n=j-i/\s=[(0,v),(1,.w a),(4,(Q4 g)),(10,.w i),(11,.w j)]/\h=h'/\ms'=[m]/\a+1<=i/\i<=j/\j<=b/\(i=a+1\/C7 d[i-1]! d[a]! = true)/\(j=b\/C7 d[j]! d[a]! = false))
   (b-(a+1)) _ ⟨a+1,b,rfl,rfl,rfl,rfl,ω,ω,ω,.inl rfl,.inl rfl⟩ Qs ?_
  rintro n s h' ms' ⟨i,j,rfl,rfl,rfl,rfl,hi,hij,hj,c1,c2⟩;refine Ac (Aq (Qm Y (Qm Y (Qm Y (Am ?_)))));refine Ao Y (λhlt=>?_) (λhlt=>?_)
  ·refine Ah (Ad (Ag (Aq (Qm Y (Qm Y (Qx (oA Y) Y (Qx (CD Y U3 Ic Y) Y (Qx (Ef (n:=1) Y Y Y ω) Y (Qx (CD Y Ic U3 Y) Y (Qm Y (Am ?_)))))))))));rw[Hi i j ω];refine Ac (Bc 9 CT κ Y (Wm Y (Wm Y (Wm Y (AM (AA ((i+j)/2) (hO.rd (.head _)) Y Cf AS Y Y ω ω) Y Y (AM (oG Y Eh AS (hO.get (.head _) ω)) Y Y (Wm Y (Wm Y (AM (AA (a) (hO.rd (.head _)) Y Cf AS Y Y ω ω) Y Y (AM (oG Y Eh AS (hO.get (.head _) ω)) Y Y (A7 (Qx (CE Y Y call199 Y (Ns _ _ _ g hg _)) Y (Qm Y (Am ?_))))))))))))));refine BG Y (λhl=>?_) (λhl=>?_)
   ·refine Ab (Qm Y (Qx (oA Y) Y (Qm Y (Ak (Ai ?_)))));exact Al (j-((i+j)/2+1)) _ ω ⟨(i+j)/2+1,j,Y,Y,Y,Y,ω,ω,ω,.inr (by rw[ie];exact hl),c2⟩ Qs
   ·refine Ab (Qm Y (Qm Y (Ak (Ai ?_))));exact Al ((i+j)/2-i) _ ω ⟨i,(i+j)/2,Y,Y,Y,Y,ω,ω,ω,c1,.inr hl⟩ Qs
  ·obtain rfl:i=j:=ω
   refine Av (Aa (Aa (Af (Ad (Ac (Aq (Qm Y (Qm Y (Am (Ag ?_))))))))))
   refine Ay (λn s h' ms'=>∃(k:Nat) (d0:Array Jf) (m:Hp),n=i-1-k/\s=[(0,v),(10,.w i),(13,.w k)]/\h=h'/\ms'=[m]/\a<=k/\k<=i-1/\OSD m v d0/\InsR d d0 a k/\PermIn a b d d0)
    (i-1-a) _ ⟨a,d,m,rfl,rfl,rfl,rfl,ω,ω,hO,InsR.start d a,permIn_refl d a b⟩ Qs ?_
   rintro n s h' ms' ⟨k,d0,m0,rfl,rfl,rfl,rfl,hak,hki,hO0,R,P⟩;have hds:=R.1;refine Ac (Aq (Qm Y (Qm Y (Qx (oS Y) Y (Qm Y (Am ?_))))));refine Ao Y (λhltk=>?_) (λhltk=>?_)
   ·refine Ah (Ad (Ac (Ag (Eb 14 [false,false,true,true,true] CT κ κ κ (Ew Y Y Y Y (CB Y Y) (Ew Y Y Y Y (CB Y Y) (Ew Y Y Y Y (OL Y Y Y ω) ?_)))))));refine⟨Y,?_⟩;simp only[E3,zap,bl,ay,jr,jq,js,jj,i6,i7];refine Wm Y (Wm Y (Ex Y Y Y (Ex Y Y Y (Ex Y Y Y (Wm Y (Wm Y (AM (oA Y) Y Y (AM (AA (k+1) (hO0.rd (.head _)) Y Cf AS Y Y ω ω) Y Y (AM (oG Y Eh AS (hO0.get (.head _) ω)) Y Y (Wm Y (Wm Y (AM (AA (k) (hO0.rd (.head _)) Y Cf AS Y Y ω ω) Y Y (AM (oG Y Eh AS (hO0.get (.head _) ω)) Y Y (A7 (Qx (AA (k) (hO0.rd (.head _)) Y Cf AS Y Y ω ω) Y (DT 0 _ hO0 Y AS Y Y Y ω Y Y (λmhO1 hzhO1 hO1=>Qx (AA (k+1) (hO1.rd (.head _)) Y Cf AS Y Y ω ω) Y (DT 0 _ hO1 Y AS Y Y Y ω Y Y (λmhO2 hzhO2 hO2=>Ak (Il (Ai (Ad (Ab (Qm Y (Qx (oA Y) Y (Qm Y (Ak ?_)))))))))))))))))))))))))));exact Al (i-1-(k+1)) _ ω ⟨k+1,_,mhO2,Y,Y,Y,Y,ω,ω,hO2,R.step hak ω,permIn_trans _ _ _ _ _ P (swp_permIn d0 a b k (k+1) ω ω ω ω ω)⟩ Qs
   ·obtain rfl:k=i-1:=ω
    refine Av (Aa (Aa (Af (Ad (An (Ae ?_))))));exact F6 Y (⟨Y,m0,d0,Y,hO0,P,LQ Jz hB ⟨hi,hj⟩ c1 c2 R⟩)
 ·refine Ah (Ad (Ac (Aq (Qm Y (Qm Y (Qx (oS Y) Y (Qm Y (Am ?_))))))));refine Ao Y (λh2=>?_) (λh2=>?_)
  ·-- one element on the right
   obtain rfl:b=t+1:=ω
   refine Aq (Qm Y (Qm Y (BM (Qm Y (Qm Y (Am (Ac (Ag ?_))))))))
   refine Ay (λn s h' ms'=>∃(i j:Nat),n=j-i/\s=[(0,v),(1,.w a),(2,.w t),(4,(Q4 g)),(14,.w i),(15,.w j)]/\h=h'/\ms'=[m]/\a<=i/\i<=j/\j<=t/\(i=a\/C7 d[t]! d[i-1]! = false)/\(j=t\/C7 d[t]! d[j]! = true))
    (t-a) _ ⟨a,t,rfl,rfl,rfl,rfl,ω,ω,ω,.inl rfl,.inl rfl⟩ Qs ?_
   rintro n s h' ms' ⟨i,j,rfl,rfl,rfl,rfl,hi,hij,hj,c1,c2⟩;refine Ac (Aq (Qm Y (Qm Y (Qm Y (Am ?_)))));refine Ao Y (λhlt=>?_) (λhlt=>?_)
   ·refine Ah (Ad (Ag (Aq (Qm Y (Qm Y (Qx (oA Y) Y (Qx (CD Y U3 Ic Y) Y (Qx (Ef (n:=1) Y Y Y ω) Y (Qx (CD Y Ic U3 Y) Y (Qm Y (Am ?_)))))))))));rw[Hi i j ω];refine Ac (Bc 9 CT κ Y (Wm Y (Wm Y (Wm Y (AM (AA (t) (hO.rd (.head _)) Y Cf AS Y Y ω ω) Y Y (AM (oG Y Eh AS (hO.get (.head _) ω)) Y Y (Wm Y (Wm Y (AM (AA ((i+j)/2) (hO.rd (.head _)) Y Cf AS Y Y ω ω) Y Y (AM (oG Y Eh AS (hO.get (.head _) ω)) Y Y (A7 (Qx (CE Y Y call199 Y (Ns _ _ _ g hg _)) Y (Qm Y (Qm Y (Am ?_)))))))))))))));refine BG Y (λhl=>?_) (λhl=>?_)
    ·have hl:C7 d[t]! d[(i+j)/2]! = false:=by unfold C7;simpa using hl
     refine Ab (Qm Y (Qx (oA Y) Y (Qm Y (Ak (Ai ?_)))));exact Al (j-((i+j)/2+1)) _ ω ⟨(i+j)/2+1,j,Y,Y,Y,Y,ω,ω,ω,.inr (by rw[ie];exact hl),c2⟩ Qs
    ·have hl:C7 d[t]! d[(i+j)/2]! = true:=by unfold C7;simpa using hl
     refine Ab (Qm Y (Qm Y (Ak (Ai ?_))));exact Al ((i+j)/2-i) _ ω ⟨i,(i+j)/2,Y,Y,Y,Y,ω,ω,ω,c1,.inr hl⟩ Qs
   ·obtain rfl:i=j:=ω
    refine Av (Aa (Aa (Af (Ad (Ac (Aq (Qm Y (Qm Y (Am (Ag ?_))))))))))
    refine Ay (λn s h' ms'=>∃(k:Nat) (d0:Array Jf) (m:Hp),n=k-i/\s=[(0,v),(14,.w i),(17,.w k)]/\h=h'/\ms'=[m]/\i<=k/\k<=t/\OSD m v d0/\ShR d d0 t k/\PermIn a (t+1) d d0)
     (t-i) _ ⟨t,d,m,rfl,rfl,rfl,rfl,ω,ω,hO,ShR.start d t,permIn_refl d a (t+1)⟩ Qs ?_
    rintro n s h' ms' ⟨k,d0,m0,rfl,rfl,rfl,rfl,hik,hkt,hO0,R,P⟩;have hds:=R.1;refine Ac (Aq (Qm Y (Qm Y (Qm Y (Am ?_)))));refine Ao Y (λhltk=>?_) (λhltk=>?_)
    ·have st:ShR d (Go.Sort.swp d0 k (k-1)) t (k-1):=by
      obtain⟨k',rfl⟩:∃k',k=k'+1:=⟨k-1,ω⟩
      exact R.step ω ω
     have e:(k:Int)-1=((k-1:Nat):Int):=ω
     refine Ah (Ad (Ac (Ag (Eb 14 [false,false,true,true,true] CT κ κ κ (Ew Y Y Y Y (CB Y Y) (Ew Y Y Y Y (CB Y Y) (Ew Y Y Y Y (NH Y Y Y ω) ?_)))))));refine⟨Y,?_⟩;simp only[E3,zap,bl,ay,jr,jq,js,jj,i6,i7];refine Wm Y (Wm Y (Ex Y Y Y (Ex Y Y Y (Ex Y Y Y (Wm Y (Wm Y (AM (oS Y) Y Y (AM (AA (k-1) (hO0.rd (.head _)) Y Cf AS Y Y ω ω) Y Y (AM (oG Y Eh AS (hO0.get (.head _) ω)) Y Y (Wm Y (Wm Y (AM (AA (k) (hO0.rd (.head _)) Y Cf AS Y Y ω ω) Y Y (AM (oG Y Eh AS (hO0.get (.head _) ω)) Y Y (A7 (Qx (AA (k) (hO0.rd (.head _)) Y Cf AS Y Y ω ω) Y (DT 0 _ hO0 Y AS Y Y Y ω Y Y (λmhO1 hzhO1 hO1=>Qx (AA (k-1) (hO1.rd (.head _)) Y Cf AS Y Y ω ω) Y (DT 0 _ hO1 Y AS Y Y Y ω Y Y (λmhO2 hzhO2 hO2=>Ak (Il (Ai (Ad (Ab (Qm Y (Qx (oS Y) Y (Qm Y (Ak ?_)))))))))))))))))))))))))));rw[e];exact Al (k-1-i) _ ω ⟨k-1,_,mhO2,Y,Y,Y,Y,ω,ω,hO2,st,permIn_trans _ _ _ _ _ P (swp_permIn d0 a (t+1) k (k-1) ω ω ω ω ω)⟩ Qs
    ·obtain rfl:k=i:=ω
     refine Av (Aa (Aa (Af (Ad (An (Ae ?_))))));exact F6 Y (⟨Y,m0,d0,Y,hO0,P,Ng Jz hA ⟨hi,hj⟩ c1 c2 R⟩)
  ·refine Ah (Ad (Aq (Qm Y (Qm Y (Qx (oA Y) Y (Qx (CD Y U3 Ic Y) Y (Qx (Ef (n:=1) Y Y Y ω) Y (Qx (CD Y Ic U3 Y) Y (Qm Y (Am ?_))))))))));rw[Hi a b ω];obtain⟨mid,hmid⟩:∃mid,mid=(a+b)/2:=⟨_,Y⟩
   rw[<-hmid];refine Aq (Qm Y (Qm Y (Qx (oA Y) Y (Qm Y (BM (Qm Y (Qm Y (Am ?_))))))));refine Bg (λs h' ms'=>∃(s0 r0:Nat),s=[(0,v),(1,.w a),(2,.w t),(3,.w b),(4,(Q4 g)),(18,.w mid),(19,.w ((mid:Int)+t)),(20,.w s0),(21,.w r0)]/\h=h'/\ms'=[m]/\((mid<t/\s0+b=mid+t/\r0=mid)\/(t<=mid/\s0=a/\r0=t))) ?_ (λs h ms hI=>?_)
   ·refine Ac (Ab (Qm Y (Qm Y (Qm Y (Am ?_)))));refine Ao Y (λhgt=>?_) (λhgt=>?_)
    ·refine Ac (Ab (Qm Y (Qm Y (Qx (oS Y) Y (Qm Y (Gl (Qm Y (Qm Y (Ak ?_)))))))));have e:(mid:Int)+t-b=((mid+t-b:Nat):Int):=ω
     rw[e];exact Az _ ⟨mid+t-b,mid,Y,Y,Y,.inl ⟨ω,ω,Y⟩⟩ Qs
    ·refine Ac (Ab (Qm Y (Qm Y (Gl (Qm Y (Qm Y (Ak ?_)))))));exact Az _ ⟨a,t,Y,Y,Y,.inr ⟨ω,Y,Y⟩⟩ Qs
   ·obtain⟨s0,r0,rfl,rfl,rfl,hc⟩:=hI;refine Aq (Qm Y (Qx (oS Y) Y (Qm Y (Am (Ac (Ag ?_))))))
    refine Ay (λn s h' ms'=>∃(i j:Nat),n=j-i/\s=[(0,v),(1,.w a),(2,.w t),(3,.w b),(4,(Q4 g)),(18,.w mid),(19,.w ((mid:Int)+t)),(20,.w i),(21,.w j),(22,.w ((mid:Int)+t-1))]/\h=h'/\ms'=[m]/\s0<=i/\i<=j/\j<=r0/\(i=s0\/C7 d[mid+t-i]! d[i-1]! = false)/\(j=r0\/C7 d[mid+t-1-j]! d[j]! = true))
     (r0-s0) _ ⟨s0,r0,rfl,rfl,rfl,rfl,ω,ω,ω,.inl rfl,.inl rfl⟩ Qs ?_
    rintro n s h' ms' ⟨i,j,rfl,rfl,rfl,rfl,hi,hij,hj,c1,c2⟩;refine Ac (Aq (Qm Y (Qm Y (Qm Y (Am ?_)))));refine Ao Y (λhlt=>?_) (λhlt=>?_)
    ·refine Ah (Ad (Ag (Aq (Qm Y (Qm Y (Qx (oA Y) Y (Qx (CD Y U3 Ic Y) Y (Qx (Ef (n:=1) Y Y Y ω) Y (Qx (CD Y Ic U3 Y) Y (Qm Y (Am ?_)))))))))));rw[Hi i j ω];refine Ac (Bc 11 CT κ Y (Wm Y (Wm Y (Wm Y (Wm Y (AM (oS Y) Y Y (AM (AA (mid+t-1-(i+j)/2) (hO.rd (.head _)) Y Cf AS Y Y ω ω) Y Y (AM (oG Y Eh AS (hO.get (.head _) ω)) Y Y (Wm Y (Wm Y (AM (AA ((i+j)/2) (hO.rd (.head _)) Y Cf AS Y Y ω ω) Y Y (AM (oG Y Eh AS (hO.get (.head _) ω)) Y Y (A7 (Qx (CE Y Y call199 Y (Ns _ _ _ g hg _)) Y (Qm Y (Qm Y (Am ?_)))))))))))))))));refine BG Y (λhl=>?_) (λhl=>?_)
     ·have hl:C7 d[mid+t-1-(i+j)/2]! d[(i+j)/2]! = false:=by unfold C7;simpa using hl
      refine Ab (Qm Y (Qx (oA Y) Y (Qm Y (Ak (Ai ?_)))));exact Al (j-((i+j)/2+1)) _ ω ⟨(i+j)/2+1,j,Y,Y,Y,Y,ω,ω,ω,.inr (by rw[ie,show mid+t-((i+j)/2+1)=mid+t-1-(i+j)/2 by omega];exact hl),c2⟩ Qs
     ·have hl:C7 d[mid+t-1-(i+j)/2]! d[(i+j)/2]! = true:=by unfold C7;simpa using hl
      refine Ab (Qm Y (Qm Y (Ak (Ai ?_))));exact Al ((i+j)/2-i) _ ω ⟨i,(i+j)/2,Y,Y,Y,Y,ω,ω,ω,c1,.inr hl⟩ Qs
    ·obtain rfl:i=j:=ω
     obtain⟨e,he⟩:∃e,e=mid+t-i:=⟨_,Y⟩
     have he2:(mid:Int)+t-i=(e:Int):=ω
     refine Av (Aa (Aa (Af (Ad (Aq (Qm Y (Qm Y (Qx (oS Y) Y (Qm Y (Am ?_))))))))));rw[he2]
     have k1:i=a\/e=b\/C7 d[e]! d[i-1]! = false:=by
      rcases c1 with c|c
      ·rcases hc with hc|hc
       ·right;left;omega
       ·left;omega
      ·right;right;rw[he];exact c
     have k2:i=t\/e=t\/C7 d[e-1]! d[i]! = true:=by
      rcases c2 with c|c
      ·rcases hc with hc|hc
       ·right;left;omega
       ·left;omega
      ·right;right;rw[show e-1=mid+t-1-i by omega];exact c
     have hgeo:a<=i/\i<=t/\i<=mid/\t<=e/\e<=b:=by rcases hc with hc|hc<;>omega
     have hs2:i+e=mid+t:=ω
     refine Bg (λs h' ms'=>∃(d1:Array Jf) (m1:Hp),s=[(0,v),(1,.w a),(3,.w b),(4,(Q4 g)),(18,.w mid),(20,.w i),(24,.w e)]/\h=h'/\ms'=[m1]/\OSD m1 v d1/\(∀k,d1[k]! = FO d i t e k)/\PermIn a b d d1) ?_ (λs h ms hI=>?_)
     ·refine Ac (Ab (Qm Y (Qm Y (Qm Y (Qm Y ?_)))));refine AL (t:=181) Y (λq1=>?_) (λq1=>?_)
      ·refine Qg (Ar Y Y) Y (Qg (Ar Y Y) Y (Qg (DA Y Y Y) Y (Qm Y (Am ?_))));refine Ao Y (λq2=>?_) (λq2=>?_)
       ·refine Ab (Qm Y (Qm Y (Qm Y (Qm Y (Qm Y (Bs (pre:=[m]) Y call299 Y (Ro d v (Q4 g) m hO i t e a b ω ω ω ω ω ω ω h Y Y Y) Y Y Y Y (λr h1 ms1 l1 hF=>?_)))))));obtain⟨rfl,m1,d1,rfl,hO1,hr,P⟩:=hF;refine Ak ?_;exact Az _ ⟨d1,m1,Y,Y,Y,hO1,hr,P⟩ Qs
       ·refine Ah ?_;exact Az _ ⟨d,m,Y,Y,Y,hO,λk=>(HQ ω k).symm,permIn_refl d a b⟩ Qs
      ·refine Qk Y (Qk Y (Qk Y (Qm Y (Am (AQ Y (Ah ?_))))));exact Az _ ⟨d,m,Y,Y,Y,hO,λk=>(HQ ω k).symm,permIn_refl d a b⟩ Qs
     ·obtain⟨d1,m1,rfl,rfl,rfl,hO1,hr,P⟩:=hI;have C:=XS Jz hA hB hgeo hs2 hr k1 k2;have hd1:=P.1;refine Bg (λs h' ms'=>∃(d2:Array Jf) (m2:Hp),s=[(0,v),(3,.w b),(4,(Q4 g)),(18,.w mid),(24,.w e)]/\h=h'/\ms'=[m2]/\OSD m2 v d2/\PermIn a mid d1 d2/\SortedIn C7 a mid d2) ?_ (λs h ms hI=>?_)
      ·refine Ac (Ab (Qm Y (Qm Y (Qm Y (Qm Y ?_)))));refine AL (t:=195) Y (λq1=>?_) (λq1=>?_)
       ·refine Qg (Ar Y Y) Y (Qg (Ar Y Y) Y (Qg (DA Y Y Y) Y (Qm Y (Am ?_))));refine Ao Y (λq2=>?_) (λq2=>?_)
        ·refine Ab (Qm Y (Qm Y (Qm Y (Qm Y (Qm Y (Bs (pre:=[m1]) Y call279 Y (ih d1 v m1 hO1 a i mid ω ω ω ω ω C.lo C.lo2 h g hg Y Y Y) Y Y Y Y (λr h1 ms1 l1 hF=>?_)))))));obtain⟨rfl,m2,d2,rfl,hO2,P2,S2⟩:=hF;refine Ak ?_;exact Az _ ⟨d2,m2,Y,Y,Y,hO2,P2,S2⟩ Qs
        ·obtain rfl:i=mid:=ω
         refine Ah ?_;exact Az _ ⟨d1,m1,Y,Y,Y,hO1,permIn_refl d1 a _,C.lo⟩ Qs
       ·obtain rfl:i=a:=ω
        refine Qk Y (Qk Y (Qk Y (Qm Y (Am (AQ Y (Ah ?_))))));exact Az _ ⟨d1,m1,Y,Y,Y,hO1,permIn_refl d1 _ _,C.lo2⟩ Qs
      ·obtain⟨d2,m2,rfl,rfl,rfl,hO2,P2,S2⟩:=hI;have hd2:=P2.1;have f1:SortedIn C7 mid e d2:=B3 C.hi λk h1 h2=>P2.2.1 k (.inr h1);have f2:SortedIn C7 e b d2:=B3 C.hi2 λk h1 h2=>P2.2.1 k (.inr ω)
       have fin:∀d3,PermIn mid b d2 d3->SortedIn C7 mid b d3->PermIn a b d d3/\SortedIn C7 a b d3:=λd3 P3 S3=>
        ⟨permIn_trans _ _ _ _ _ P (permIn_trans _ _ _ _ _ (permIn_mono d1 d2 a mid a b ω ω ω P2) (permIn_mono d2 d3 mid b a b ω ω ω P3)),PK C ω ω P2 S2 P3 S3⟩
       refine Aq (Qm Y (Qm Y (Qm Y (Qm Y ?_))));refine AL (t:=209) Y (λq1=>?_) (λq1=>?_)
       ·refine Qg (Ar Y Y) Y (Qg (Ar Y Y) Y (Qg (DA Y Y Y) Y (Qm Y (Am ?_))));refine Ao Y (λq2=>?_) (λq2=>?_)
        ·refine Ab (Qm Y (Qm Y (Qm Y (Qm Y (Qm Y (Bs (pre:=[m2]) Y call279 Y (ih d2 v m2 hO2 mid e b ω ω ω ω ω f1 f2 h g hg Y Y Y) Y Y Y Y (λr h1 ms1 l1 hF=>?_)))))));obtain⟨rfl,m3,d3,rfl,hO3,P3,S3⟩:=hF;refine Ak ?_;exact Cq Y (⟨Y,m3,d3,Y,hO3,(fin d3 P3 S3).1,(fin d3 P3 S3).2⟩)
        ·obtain rfl:e=b:=ω
         refine Ah ?_;exact Cq Y (⟨Y,m2,d2,Y,hO2,(fin d2 (permIn_refl d2 _ _) f1).1,(fin d2 (permIn_refl d2 _ _) f1).2⟩)
       ·obtain rfl:e=mid:=ω
        refine Qk Y (Qk Y (Qk Y (Qm Y (Am (AQ Y (Ah ?_))))));exact Cq Y (⟨Y,m2,d2,Y,hO2,(fin d2 (permIn_refl d2 _ _) f2).1,(fin d2 (permIn_refl d2 _ _) f2).2⟩)
def BkD(d:Array Jf)(s n:Nat):Prop:=∀x,s∣x->SortedIn C7 x (min (x+s) n) d
theorem E8{d:Array Jf}{a b b':Nat}(h:SortedIn C7 a b d)(hb:b'<=b):SortedIn C7 a b' d:=λi j h1 h2 h3=>h i j h1 h2 ω
theorem IZ{d:Array Jf}{a b:Nat}(hb:b<=a):SortedIn C7 a b d:=λi j h1 h2 h3=>ω
theorem Q9(d:Array Jf)(v:Value)(m:Hp)(hO:OSD m v d)(hsz:d.size<=1000000)(h:Hp)(g:Nat)(hg:U8 h g){n':Int}(en:n'=d.size) :
  FnT Tryz.prog 239 #[v,.w n',(Q4 g)] h [m] (λ_ h' ms'=>h=h'/\∃m' d',ms'=[m']/\OSD m' v d'/\PermIn 0 d.size d d'/\SortedIn C7 0 d.size d'):=by
 subst en;obtain⟨n,hn⟩:∃n,n=d.size:=⟨_,Y⟩
 rw[<-hn];refine Au func239 ntmps239 Y Y (λw0 hw0=>?_);simp only[A6];refine Aq (Qm Y (BM (Qm Y (Qm Y (Qm Y (Am (Ac (Ag ?_))))))))
 refine Ay (λq s h' ms'=>∃(a:Nat) (d0:Array Jf) (m:Hp),q=n-a/\s=[(0,v),(1,.w n),(2,(Q4 g)),(6,.w 20),(7,.w a),(8,.w ((a:Int)+20))]/\h=h'/\ms'=[m]/\a<=n/\20∣a/\OSD m v d0/\PermIn 0 n d d0/\∀x,20∣x->x+20<=a->SortedIn C7 x (x+20) d0)
  (n-0) _ ⟨0,d,m,rfl,rfl,rfl,rfl,ω,⟨0,rfl⟩,hO,permIn_refl d 0 n,λx _ h=>ω⟩ Qs ?_
 rintro q s h' ms' ⟨a,d0,m0,rfl,rfl,rfl,rfl,han,hda,hO0,P,hB⟩;have hds:=P.1;refine Ac (Aq (Qm Y (Qm Y (Qm Y (Am ?_)))));refine Ao Y (λhle=>?_) (λhle=>?_)
 ·refine Ah (Ad (Ag (Aq (Qm Y (Qm Y (Qm Y (Qm Y (Bs (pre:=[m0]) Y call278 Y (PW d0 v m0 hO0 a (a+20) ω ω ω h g hg Y ω) Y Y Y Y (λr h1 ms1 l1 hF=>?_)))))))));obtain⟨rfl,m1,d1,rfl,hO1,P1,S1⟩:=hF;refine BM (Qm Y (Qm Y (Gl (Qm Y (Qm Y (Qx (oA Y) Y (Qm Y (Ak (Ai ?_)))))))))
  exact Al (n-(a+20)) _ ω ⟨a+20,d1,m1,Y,Y,Y,Y,ω,Nat.dvd_add hda ⟨1,Y⟩,hO1,permIn_trans _ _ _ _ _ P (permIn_mono d0 d1 a (a+20) 0 n ω ω ω P1),λx hx hx2=>by
   rcases eh x a with h1|h1
   ·have:=Fq hx hda h1;exact B3 (hB x hx this) λk h2 h3=>P1.2.1 k (.inl ω)
   ·obtain rfl:x=a:=ω
    exact S1⟩ Qs
 ·refine Av (Aa (Aa (Af (Ad (Aq (Qm Y (Qm Y (Qm Y (Qm Y (Bs (pre:=[m0]) Y call278 Y (PW d0 v m0 hO0 a n ω ω ω h g hg Y Y) Y Y Y Y (λr h1 ms1 l1 hF=>?_)))))))))));obtain⟨rfl,m1,d1,rfl,hO1,P1,S1⟩:=hF;have PB:PermIn 0 n d d1:=permIn_trans _ _ _ _ _ P (permIn_mono d0 d1 a n 0 n ω ω ω P1)
  have B1:BkD d1 20 n:=λx hx=>by
   rcases dy x a with h1|rfl|h1
   ·have:=Fq hx hda h1;exact E8 (B3 (hB x hx this) λk h2 h3=>P1.2.1 k (.inl ω)) ω
   ·exact E8 S1 ω
   ·have:=Fq hda hx h1;exact IZ ω
  refine Am (Ag ?_)
  refine Ay (λq s h' ms'=>∃(w:Nat) (d0:Array Jf) (m:Hp),q=n-w/\s=[(0,v),(1,.w n),(2,(Q4 g)),(6,.w w)]/\h=h'/\ms'=[m]/\1<=w/\w<=4000000/\OSD m v d0/\PermIn 0 n d d0/\BkD d0 w n)
   (n-20) _ ⟨20,d1,m1,rfl,rfl,rfl,rfl,ω,ω,hO1,PB,B1⟩ Qs ?_
  rintro q s h' ms' ⟨w,d2,m2,rfl,rfl,rfl,rfl,hw1,hw2,hO2,P2,B2⟩;have hd2:=P2.1;refine Ac (Aq (Qm Y (Qm Y (Qm Y (Am ?_)))));refine Ao Y (λhlt=>?_) (λhlt=>?_)
  ·refine Ah (Ad (Ag (Aq (Qm Y (Qx (oM Y) Y (Qm Y (Qm Y (Am (Ac (Ag ?_))))))))))
   refine Ay (λq s h' ms'=>∃(a:Nat) (z:Int) (d0:Array Jf) (m:Hp),q=n-a/\s=[(0,v),(1,.w n),(2,(Q4 g)),(6,.w w),(7,.w a),(8,.w z)]/\h=h'/\ms'=[m]/\z=a+2*w/\a<=n/\2*w∣a/\OSD m v d0/\PermIn 0 n d d0/\(∀x,2*w∣x->x+2*w<=a->SortedIn C7 x (x+2*w) d0)/\∀x,w∣x->a<=x->SortedIn C7 x (min (x+w) n) d0)
    (n-0) _ ⟨0,2*(w:Int),d2,m2,rfl,rfl,rfl,rfl,ω,ω,⟨0,rfl⟩,hO2,P2,λx _ h=>ω,λx hx _=>B2 x hx⟩ Qs ?_
   rintro q s h' ms' ⟨a,z,d3,m3,rfl,rfl,rfl,rfl,rfl,han,hda,hO3,P3,hL,hR⟩;have hd3:=P3.1;have hwa:w∣a:=Nat.dvd_trans ⟨2,fv 2 w⟩ hda;have hwa2:w∣a+w:=Nat.dvd_add hwa (Nat.dvd_refl w);have hwa3:2*w∣a+2*w:=Nat.dvd_add hda (Nat.dvd_refl _);have s1:=hR a hwa (au _);have s2:=hR (a+w) hwa2 ω;refine Ac (Aq (Qm Y (Qm Y (Qm Y (Am ?_)))));refine Ao Y (λhle2=>?_) (λhle2=>?_)
   ·rw[show min (a+w) n=a+w by omega]at s1;rw[show min (a+w+w) n=a+2*w by omega]at s2;refine Ah (Ad (Ag (Aq (Qm Y (Qm Y (Qm Y (Qm Y (Qx (oA Y) Y (Qm Y (Qm Y (Bs (pre:=[m3]) Y call279 Y (Js (2*w) d3 v m3 hO3 a (a+w) (a+2*w) ω ω ω ω ω s1 s2 h g hg Y ω ω) Y Y Y Y (λr h1 ms1 l1 hF=>?_))))))))))));obtain⟨rfl,m4,d4,rfl,hO4,P4,S4⟩:=hF;refine BM (Qm Y (Qm Y (Gl (Qm Y (Qm Y (Qx (oM Y) Y (Qx (oA Y) Y (Qm Y (Ak (Ai ?_))))))))))
    exact Al (n-(a+2*w)) _ ω ⟨a+2*w,(a:Int)+2*w+2*w,d4,m4,Y,Y,Y,Y,ω,ω,hwa3,hO4,permIn_trans _ _ _ _ _ P3 (permIn_mono d3 d4 a (a+2*w) 0 n ω ω ω P4),λx hx hx2=>by
     rcases eh x a with h1|h1
     ·have:=Fq hx hda h1;exact B3 (hL x hx this) λk h2 h3=>P4.2.1 k (.inl ω)
     ·obtain rfl:x=a:=ω
      exact S4,λx hx hx2=>B3 (hR x hx ω) λk h2 h3=>P4.2.1 k (.inr ω)⟩ Qs
   ·have fin:∀d4,PermIn a n d3 d4->SortedIn C7 a n d4->PermIn 0 n d d4/\BkD d4 (w*2) n:=λd4 P4 S4=>⟨permIn_trans _ _ _ _ _ P3 (permIn_mono d3 d4 a n 0 n ω ω ω P4),λx hx=>by
     rw[fv]at hx ⊢;rcases dy x a with h1|rfl|h1
     ·have:=Fq hx hda h1;exact E8 (B3 (hL x hx this) λk h2 h3=>P4.2.1 k (.inl ω)) ω
     ·exact E8 S4 ω
     ·have:=Fq hda hx h1
      exact IZ ω⟩
    refine Av (Aa (Aa (Af (Ad (Ac (Aq (Qm Y (Qm Y (Qx (oA Y) Y (Qm Y (BM (Qm Y (Qm Y (Qm Y (Am ?_)))))))))))))));refine Ao Y (λhm=>?_) (λhm=>?_)
    ·rw[show min (a+w) n=a+w by omega]at s1;rw[show min (a+w+w) n=n by omega]at s2;refine Ab (Qm Y (Qm Y (Qm Y (Qm Y (Qm Y (Bs (pre:=[m3]) Y call279 Y (Js (2*w) d3 v m3 hO3 a (a+w) n ω ω ω ω ω s1 s2 h g hg Y ω Y) Y Y Y Y (λr h1 ms1 l1 hF=>?_)))))));obtain⟨rfl,m4,d4,rfl,hO4,P4,S4⟩:=hF;have:=fin d4 P4 S4;refine Gl (Qm Y (Qx (oM Y) Y (Qm Y (Ak (Ai ?_)))));exact Al (n-w*2) _ ω ⟨w*2,d4,m4,Y,Y,Y,Y,ω,ω,hO4,this.1,this.2⟩ Qs
    ·rw[show min (a+w) n=n by omega]at s1;have:=fin d3 (permIn_refl d3 a n) s1;refine Ah (Ad (Ab (Qm Y (Qx (oM Y) Y (Qm Y (Ak (Ai ?_)))))));exact Al (n-w*2) _ ω ⟨w*2,d3,m3,Y,Y,Y,Y,ω,ω,hO3,this.1,this.2⟩ Qs
  ·refine Av (Aa (Aa (Af ?_)));exact Cq Y (⟨Y,m2,d2,Y,hO2,P2,by have:=B2 0 ⟨0,Y⟩;rwa [show min (0+w) n=n by omega]at this⟩)
theorem LN(d:Array Jf)(v:Value)(m:Hp)(hO:OSD m v d)(hsz:d.size<=1000000)(h:Hp)(g:Nat)(hg:U8 h g) :
  FnT Tryz.prog 198 #[v,(Q4 g)] h [m] (λ_ h' ms'=>h=h'/\∃m' d',ms'=[m']/\OSD m' v d'/\PermIn 0 d.size d d'/\SortedIn C7 0 d.size d'):=by
 refine Au func198 ntmps198 Y Y (λw0 hw0=>?_);simp only[A6];refine Ab (Qm Y (Qm Y (Qx (As (hO.rd (.head _)) Y Cf Y) Y (Qm Y (Bs (pre:=[m]) Y call239 Y (Q9 d v m hO hsz h g hg Y) Y Y Y Y (λr h1 ms1 l1 hF=>?_))))));obtain⟨rfl,m4,d4,rfl,hO4,P4,S4⟩:=hF;refine Ak ?_;exact Cq Y (⟨Y,m4,d4,Y,hO4,P4,S4⟩)
theorem Hk{α:Type}[Inhabited α]{d d':Array α}(P:PermIn 0 d.size d d'):d'.toList.Perm d.toList:=by
 have h:=P.2.2;have e1:d'.extract 0 d.size=d':=by rw[<-P.1];simp
 have e2:d.extract 0 d.size=d:=by simp
 rwa [e1,e2]at h
theorem Gg{α:Type}[Inhabited α]{lt:α->α->Bool}{d:Array α}(S:SortedIn lt 0 d.size d):d.toList.Pairwise λa b=>lt b a=false:=by
 rw[ax];intro i j hi hj hij;have h1:=S i j ω hij (by simpa using hj)
 have e:∀k (hk:k<d.toList.length),d[k]! = d.toList[k]:=λk hk=>by
  have:k<d.size:=by simpa using hk
  simp[this]
 rwa [e i hi,e j hj]at h1
theorem T5(l:List CeO)(v:Value)(h:Hp)(hR:RdL Ii 3 h [] v l)(hl:l.length<=1000000):FnT Tryz.prog 194 #[v] h [] (λx h' ms'=>h=h'/\∃m,ms'=[m]/\OwnL Ii 3 52 m x l):=by
 refine Au func194 ntmps194 Y Y (λw0 hw0=>?_);simp only[A6];refine Aq (Qm Y (Am (Ac (Aq (Qm Y (Qx (Ll hR.rd.any Y Bm Y Y) Y (Am ?_)))))));refine BG Y (λhn=>?_) (λhn=>?_)
 ·have h0:=JU hR.rd hn;obtain rfl:l=[]:=dn h0;refine Aq (Qm Y (Am (An (Ae (JV ?_)))));exact Ap Y Y (⟨Y,_,Y,OwnL.nil KR⟩)
 ·refine Ah (Ad (Aq ?_));refine AB [] [] [] rfl Bm AI rfl ω κ (by repeat (first|exact ff|refine⟨⟨by first|rfl|exact(hR.rd.any).cells|exact Rd.cells ‹_›|exact(RdL.rd ‹_›).cells,rfl,rfl⟩,?_⟩)) rfl rfl rfl rfl (λg5=>?_);refine Qm rfl ?_;have hO:OwnL Ii 3 52 (Bh g5 52 []) (.slice (some ⟨g5,0,none⟩) 0 0) []:=OwnL.blk (l:=([]:List CeO)) 0 KR rfl ω;refine AU 0 hO hR.any rfl Bm AI rfl ω rfl rfl rfl OI (by simp;omega) (by simp;omega) rfl rfl rfl (λv' m' hO'=>?_);refine Qm rfl (Am (An ?_));exact Ap rfl rfl (⟨rfl,m',rfl,hO'⟩)
theorem Uc(l:List Jf)(v:Value)(h:Hp)(hR:RdL cD 2 h [] v l)(hl:l.length<=1000000):FnT Tryz.prog 197 #[v] h [] (λx h' ms'=>h=h'/\∃m,ms'=[m]/\OwnL cD 2 119 m x l):=by
 refine Au func197 ntmps197 Y Y (λw0 hw0=>?_);simp only[A6];refine Aq (Qm Y (Am (Ac (Aq (Qm Y (Qx (Ll hR.rd.any Y Cf Y Y) Y (Am ?_)))))));refine BG Y (λhn=>?_) (λhn=>?_)
 ·have h0:=JU hR.rd hn;obtain rfl:l=[]:=dn h0;refine Aq (Qm Y (Am (An (Ae (JV ?_)))));exact Ap Y Y (⟨Y,_,Y,OwnL.nil E2⟩)
 ·refine Ah (Ad (Aq ?_));refine AB [] [] [] rfl Cf AS rfl ω κ (by repeat (first|exact ff|refine⟨⟨by first|rfl|exact(hR.rd.any).cells|exact Rd.cells ‹_›|exact(RdL.rd ‹_›).cells,rfl,rfl⟩,?_⟩)) rfl rfl rfl rfl (λg5=>?_);refine Qm rfl ?_;have hO:OwnL cD 2 119 (Bh g5 119 []) (.slice (some ⟨g5,0,none⟩) 0 0) []:=OwnL.blk (l:=([]:List Jf)) 0 E2 rfl ω;refine AU 0 hO hR.any rfl Cf AS rfl ω rfl rfl rfl G9 (by simp;omega) (by simp;omega) rfl rfl rfl (λv' m' hO'=>?_);refine Qm rfl (Am (An ?_));exact Ap rfl rfl (⟨rfl,m',rfl,hO'⟩)
theorem Ri(l:List CeO)(v:Value)(h:Hp)(hR:RdL Ii 3 h [] v l)(hl:l.length<=1000000):FnT Tryz.prog 134 #[v,fkC] h [] (λx h' ms'=>h.le h'/\∃m o,ms'=[m]/\OwnL Ii 3 52 m x o/\o.Perm l/\o.Pairwise λa b=>a.c.id<=b.c.id):=by
 have o1:=hR.rd.one;refine Au func134 ntmps134 Y Y (λw0 hw0=>?_);simp only[A6];refine Aq (AP [_] Y Y (by rfl) Y Y Y (λg3=>Qm Y (Am (Ax λh1 l1 hG=>?_))));have hk:Up h1 g3:=λms=>Seg.all hG 0 _ Y ms;have hR:=hR.up l1;refine Aq (Qm Y (Qc call194 Y (T5 l v h1 hR hl) (λr h2 ms2 l2 hF=>?_)));obtain⟨rfl,m,rfl,hO⟩:=hF;have ovr:=hO.o1;have hO':OSC m r l.toArray:=hO;refine Qm Y (BM (Qm Y (Qx (Cc Y Y Y) Y ?_)));refine Bs (pre:=[m]) Y call195 Y (L7 l.toArray r m hO' (by simpa using hl) h1 g3 hk) rfl rfl rfl rfl (λx h3 ms3 l3 hF=>?_);obtain⟨rfl,m',d',rfl,hO2,P,S⟩:=hF;have ov2:r.oneCell'=true:=(OwnL.rd hO2 (h:=h1) (ms:=[m']) Mh).rd.one;have hp:d'.toList.Perm l:=Hk P
 have hs:d'.toList.Pairwise λa b=>a.c.id<=b.c.id:=(Gg (P.1 ▸ S)).imp λ{a b} h=>by unfold C9 at h;rw[gy,Kj]at h;omega
 refine BM (Qm Y (Qm Y (Am (An ?_))));exact Ap Y Y (⟨l1,m',d'.toList,Y,hO2,hp,hs⟩)
theorem RC(l:List Jf)(v:Value)(h:Hp)(hR:RdL cD 2 h [] v l)(hl:l.length<=1000000):FnT Tryz.prog 136 #[v,fkD] h [] (λx h' ms'=>h.le h'/\∃m o,ms'=[m]/\OwnL cD 2 119 m x o/\o.Perm l/\o.Pairwise λa b=>a.1<=b.1):=by
 have o1:=hR.rd.one;refine Au func136 ntmps136 Y Y (λw0 hw0=>?_);simp only[A6];refine Aq (AP [_] Y Y (by rfl) Y Y Y (λg3=>Qm Y (Am (Ax λh1 l1 hG=>?_))));have hk:U8 h1 g3:=λms=>Seg.all hG 0 _ Y ms;have hR:=hR.up l1;refine Aq (Qm Y (Qc call197 Y (Uc l v h1 hR hl) (λr h2 ms2 l2 hF=>?_)));obtain⟨rfl,m,rfl,hO⟩:=hF;have ovr:=hO.o1;have hO':OSD m r l.toArray:=hO;refine Qm Y (BM (Qm Y (Qx (Cc Y Y Y) Y ?_)));refine Bs (pre:=[m]) Y call198 Y (LN l.toArray r m hO' (by simpa using hl) h1 g3 hk) rfl rfl rfl rfl (λx h3 ms3 l3 hF=>?_);obtain⟨rfl,m',d',rfl,hO2,P,S⟩:=hF;have ov2:r.oneCell'=true:=(OwnL.rd hO2 (h:=h1) (ms:=[m']) Mh).rd.one;have hp:d'.toList.Perm l:=Hk P
 have hs:d'.toList.Pairwise λa b=>a.1<=b.1:=(Gg (P.1 ▸ S)).imp λ{a b} h=>by unfold C7 at h;rw[gy,Kj]at h;omega
 refine BM (Qm Y (Qm Y (Am (An ?_))));exact Ap Y Y (⟨l1,m',d'.toList,Y,hO2,hp,hs⟩)
end
def Cl.can(c:Cl):Cl:=⟨c.id,c.dim,Cu c.sd⟩
def If(x y:Cl):Bool:=decide (x.id<=y.id)
def ordF(l:List Cl):List Cl:=if h:l.length<=1 then l.map Cl.can else
 List.merge (ordF (l.take (l.length/2))) (ordF (l.drop (l.length/2))) If
termination_by l.length
decreasing_by
 ·rw[av];omega
 ·rw[cz];omega
theorem EU{l:List Cl}(h:l.length<=1):ordF l=l.map Cl.can:=by rw[ordF,dif_pos h]
theorem K2{l:List Cl}(h:¬l.length<=1):ordF l=List.merge (ordF (l.take (l.length/2))) (ordF (l.drop (l.length/2))) If:=by rw[ordF,dif_neg h]
theorem Dy:∀(n:Nat) (l:List Cl),l.length<=n->(ordF l).Perm (l.map Cl.can)
 | 0,l,h=>by rw[EU ω]
 | n+1,l,h=>by
  by_cases hs:l.length<=1
  ·rw[EU hs]
  ·rw[K2 hs];have h1:=Dy n (l.take (l.length/2)) (by rw[av];omega);have h2:=Dy n (l.drop (l.length/2)) (by rw[cz];omega);refine(List.merge_perm_append If).trans ((h1.append h2).trans ?_);rw[<-bm,it]
theorem Fh(l:List Cl):(ordF l).length=l.length:=by
 have:=(Dy l.length l (au _)).length_eq
 rwa [af]at this
theorem DS:∀(n:Nat) (l:List Cl),l.length<=n->(ordF l).Pairwise (λx y=>x.id<=y.id)
 | 0,l,h=>by obtain rfl:l=[]:=dn ω;rw[EU σ];exact List.Pairwise.nil
 | n+1,l,h=>by
  by_cases hs:l.length<=1
  ·rw[EU hs]
   match l,hs with
   | [],_=>exact List.Pairwise.nil
   | [a],_=>exact List.pairwise_singleton _ _
  ·rw[K2 hs];have h1:=DS n (l.take (l.length/2)) (by rw[av];omega);have h2:=DS n (l.drop (l.length/2)) (by rw[cz];omega)
   have:=List.pairwise_merge (le:=If) (λa b c hab hbc=>by
    unfold If at *;have:=bz hab;have:=bz hbc
    exact ai ω) (λa b=>by
    unfold If;by_cases h:a.id<=b.id
    ·simp[h]
    ·have:b.id<=a.id:=ω
     simp[this]) _ _ (h1.imp λh=>ai h) (h2.imp λh=>ai h)
   exact this.imp λh=>bz h
theorem Zz(a b:Cl)(l l':List Cl)(h:b.id<a.id):List.merge (a::l) (b::l') If=b::List.merge (a::l) l' If:=by have:If a b=false:=aj ω;simp[List.merge,this]
theorem ZG(a b:Cl)(l l':List Cl)(h:¬b.id<a.id):List.merge (a::l) (b::l') If=a::List.merge l (b::l') If:=by have:If a b=true:=ai ω;simp[List.merge,this]
theorem RdC.part{h:Hp}{v:Value}{l:List Ce}(R:RdC h v l){i j:Nat}(hi:i<=j)(hj:j<=l.length):RdC h (Cj 3 v i j) ((l.drop i).take (j-i)):=⟨R.q.sub_ hi hj,λa ha=>R.s a (jl (List.mem_of_mem_take ha))⟩
theorem LS:∀(N:Nat) (l:List Ce) (v:Value) (h:Hp),l.length<N->N<=1000000->(∀a∈l,a.c.sd.length<=100000)->RdC h v l->FnT Tryz.prog 118 #[v] h [] (λr h' ms'=>h.le h'/\∃m A,ms'=[m]/\OwnL cC 3 52 m r A/\A.map Ce.c=ordF (l.map Ce.c)/\∀a∈A,RdL cD 2 h' [] a.v a.c.sd):=by
 intro N
 induction N with
 | zero=>intro l v h hN;omega
 | succ N ih=>
  intro l v h hN hM hs hR;have o1:=hR.q.rd.one;refine Au func118 ntmps118 Y Y (λw0 hw0=>?_);simp only[A6];refine Aq (Qm Y (Am (Ac (Aq (Qm Y (Qx (As hR.q.rd.any Y Bm Y) Y (Qm Y (Am ?_))))))));refine Ao Y (λh0=>?_) (λh0=>?_)
  ·obtain rfl:l=[]:=dn ω;refine BT (Aq (Qm Y (Am (An (Ae ?_)))));exact Ap Y Y (⟨Da,Hp.emp,[],Y,OwnL.nil CP,by rw[EU σ];rfl,λa ha=>nomatch ha⟩)
  ·refine Ah (Ad (Ac (Aq (Qm Y (Qx (As hR.q.rd.any Y Bm Y) Y (Qm Y (Am ?_)))))));refine Ao Y (λh1=>?_) (λh1=>?_)
   ·match l,h0,h1,hs,hR with
    | [a],_,_,hs,hR=>
     have hsa:=hR.s a Mh;have osa:=hsa.rd.one;have c0:∀ms,Cell h ms ((AG v).add (0*3)) (.w a.c.id):=λms=>(hR.q.any (ms:=ms)).cell0 (j:=0) σ rfl;have c1:∀ms,Cell h ms (((AG v).add (0*3)).add 1) (.w a.c.dim):=λms=>(hR.q.any (ms:=ms)).cell (j:=0) σ (f:=1) rfl;have c2:∀ms,Cell h ms (((AG v).add (0*3)).add 2) a.v:=λms=>(hR.q.any (ms:=ms)).cell (j:=0) σ (f:=2) rfl;have h01:(0:Nat) < [a].length:=by simp
     refine Ac (BK (n:=16) (bs:=[true,true,true,true,true,true,true,true,true,true,true,true,false,false,false,false]) [true,true,true,true,true,true,true,true,true,true,true,true] CT κ κ Y Y (Qq Y (Qp Y (BN (0) hR.q.rd.any Y Bm AI Y Y) (QF Bq Y (QL Y U3 (c0 _) (Qq Y (Qp Y (BN (0) hR.q.rd.any Y Bm AI Y Y) (QF BZ Y (QL Y U3 (c1 _) (Qq Y (Qp Y (BN (0) hR.q.rd.any Y Bm AI Y Y) (QF BI Y (QL Y Cf (c2 _) ?_)))))))))))));unfold Fm;simp only[bl,ay];refine Qo 12 Y (Qc call170 Y (OW a.c.sd a.v h (hs a Mh) hsa) (λrs h2 ms2 l2 hF=>?_));obtain⟨rfl,mq,rfl,hOq⟩:=hF;refine Ba hOq λh3 l3 hRq=>?_;obtain⟨a9,c9,rfl,_⟩:=hRq.rd.ex;refine Qa (Bd 13 25 κ Y (by assumption) Y (Bb VB [.w 0,.w 0,.nl] [(0,_),(1,_),(2,_)] [_,_,_] Y AI Y Y Qt Y) (Qo 14 Y (Aw [_,_,_] Y Bm AI Y (by rfl) Y Y ω Y Y Y (λg26=>Qa (Qo 15 Y (Qm Y (Qa (Qe (Ad (An ?_))))))))));exact Ap Y Y ⟨l3,_,[⟨a.c.can,.slice a9 (Cu a.c.sd).length c9⟩],Y,OwnL.blk (g:=g26) (el:=52) (F:=cC) (l:=[⟨a.c.can,.slice a9 (Cu a.c.sd).length c9⟩]) 1 CP Y δ,by rw[EU σ];rfl,λb hb=>by rw[ao.1 hb];exact hRq⟩
   ·have hl2:¬l.length<=1:=ω
    obtain⟨k,hk⟩:∃k,l.length/2=k:=⟨_,Y⟩
    have hk1:k<l.length:=ω
    have hk0:0<k:=ω
    have hll:=hR.q.len_le;have hR1:RdC h (Cj 3 v 0 k) (l.take k):=by have:=hR.part (i:=0) (j:=k) ω ω;rwa [jj,Nat.sub_zero]at this
    have hR2:RdC h (Cj 3 v k l.length) (l.drop k):=by have:=hR.part (i:=k) (j:=l.length) ω ω;rwa [io (by rw[cz];omega)]at this
    have hkt:Int.tdiv (l.length:Int) 2=(k:Int):=by rw[Int.tdiv_eq_ediv_of_nonneg ω];omega
    refine Ah (Ad (Aq (Qm Y (Qm Y (Qx (As hR.q.rd.any Y Bm Y) Y (Qx (G7 Y Y Y ω ω) Y (Qx (Fk (k) hR.q.rd.any Y Bm AI Y Y ω ω) Y ?_)))))));refine Qc call118 Y (ih (l.take k) _ h (by rw[av];omega) ω (λa ha=>hs a (List.mem_of_mem_take ha)) hR1) (λra h2 ms2 l2 hF=>?_);obtain⟨l2',ma,A,rfl,hOA,hA,hAs⟩:=hF;refine Ba hOA λh3 l3 hRA=>?_;have hAs:∀a∈A,RdL cD 2 h3 [] a.v a.c.sd:=λa ha=>(hAs a ha).up l3;have hR2:=hR2.up (AE l2 l3);have hR:=hR.up (AE l2 l3);have oA_:=hRA.rd.one;refine Qm Y (BM (Qm Y (Qm Y (Qx (As hR.q.rd.any Y Bm Y) Y (Qx (G7 Y Y Y ω ω) Y (Qx (C3 (k) hR.q.rd.any Y Bm AI Y Y ω ω) Y ?_))))));refine Qc call118 Y (ih (l.drop k) _ h3 (by rw[cz];omega) ω (λa ha=>hs a (jl ha)) hR2) (λrb h4 ms4 l4 hF=>?_);obtain⟨l4',mb,B,rfl,hOB,hB,hBs⟩:=hF;refine Ba hOB λh5 l5 hRB=>?_;have l45:=AE l4 l5;have hAs:∀a∈A,RdL cD 2 h5 [] a.v a.c.sd:=λa ha=>(hAs a ha).up l45;have hBs:∀a∈B,RdL cD 2 h5 [] a.v a.c.sd:=λa ha=>(hBs a ha).up l5;have hRA:=hRA.up l45;have oB:=hRB.rd.one;have lA:A.length=k:=by have:=aw List.length hA;rw[af,Fh,af,av]at this;omega
    have lB:B.length=l.length-k:=by have:=aw List.length hB;rw[af,Fh,af,cz]at this;exact this
    have hmg:ordF (l.map Ce.c)=List.merge (A.map Ce.c) (B.map Ce.c) If:=by rw[K2 (by rw[af];exact hl2),hA,hB,af,hk,List.map_take,List.map_drop]
    refine Qm Y (BM (Qm Y (Am ?_)));refine Bg (λs h' ms'=>∃(A' B' O:List Ce) (va vb vo:Value) (mo:Hp),s=[(3,va),(4,vb),(5,vo)]/\h5=h'/\ms'=[mo]/\A'.length+B'.length+O.length=l.length/\RdL cC 3 h5 [] va A'/\RdL cC 3 h5 [] vb B'/\OwnL cC 3 52 mo vo O/\O.map Ce.c++A'.map Ce.c++B'.map Ce.c=ordF (l.map Ce.c)/\(∀a∈A',RdL cD 2 h5 [] a.v a.c.sd)/\(∀a∈B',RdL cD 2 h5 [] a.v a.c.sd)/\∀a∈O,RdL cD 2 h5 [] a.v a.c.sd) ?_ (λs h ms hI=>?_)
    ·refine Ag (BT ?_)
     refine Ay (λq s h' ms'=>∃(A' B' O:List Ce) (va vb vo:Value) (mo:Hp),q=A'.length+B'.length/\s=[(3,va),(4,vb),(5,vo)]/\h5=h'/\ms'=[mo]/\A'.length+B'.length+O.length=l.length/\RdL cC 3 h5 [] va A'/\RdL cC 3 h5 [] vb B'/\OwnL cC 3 52 mo vo O/\O.map Ce.c++List.merge (A'.map Ce.c) (B'.map Ce.c) If=ordF (l.map Ce.c)/\(∀a∈A',RdL cD 2 h5 [] a.v a.c.sd)/\(∀a∈B',RdL cD 2 h5 [] a.v a.c.sd)/\∀a∈O,RdL cD 2 h5 [] a.v a.c.sd)
      (A.length+B.length) _ ⟨A,B,[],_,_,_,Hp.emp,rfl,rfl,rfl,rfl,by rw[lA,lB,dv];omega,hRA,hRB,OwnL.nil CP,by rw[hmg];rfl,hAs,hBs,λa ha=>nomatch ha⟩ Qs ?_
     rintro q s h' ms' ⟨A',B',O,va,vb,vo,mo,rfl,rfl,rfl,rfl,hln,hRa,hRb,hOo,hm,hAa,hBb,hOa⟩;have ova:=hRa.rd.one;have ovb:=hRb.rd.one;have ovo:=hOo.o1;refine Ac (Aq (Qm Y (Qx (As hRa.rd.any Y Bm Y) Y (Qm Y (Qm Y ?_)))));refine AL (t:=42) Y (λhs1=>?_) (λhs1=>?_)
     ·refine Qg (Ar Y Y) Y (Qg (As hRb.rd.any Y Bm Y) Y (Qg (Ct Y Y Y) Y (Qm Y (Am ?_))));refine Ao Y (λhs2=>?_) (λhs2=>?_)
      ·obtain⟨a,A2,rfl⟩:=List.exists_cons_of_length_pos (l:=A') ω;obtain⟨b,B2,rfl⟩:=List.exists_cons_of_length_pos (l:=B') ω;have hA0:0<(a::A2).length:=by simp
       have hB0:0<(b::B2).length:=by simp
       have oav:=(hAa a Mh).rd.one;have obv:=(hBb b Mh).rd.one;have ca:∀ms,Cell h5 ms ((AG va).add (0*3)) (.w a.c.id):=λms=>(hRa.any (ms:=ms)).cell0 (j:=0) hA0 Y;have cb:∀ms,Cell h5 ms ((AG vb).add (0*3)) (.w b.c.id):=λms=>(hRb.any (ms:=ms)).cell0 (j:=0) hB0 Y;have ga:∀ms,Seg h5 ms ((AG va).add (0*3)) (cC a):=λms=>(hRa.any (ms:=ms)).seg (j:=0) hA0;have gb:∀ms,Seg h5 ms ((AG vb).add (0*3)) (cC b):=λms=>(hRb.any (ms:=ms)).seg (j:=0) hB0;have hA2:RdL cC 3 h5 [] (Cj 3 va 1 (a::A2).length) A2:=by have:=hRa.sub_ (i:=1) (j:=(a::A2).length) σ (au _);simpa using this
       have hB2:RdL cC 3 h5 [] (Cj 3 vb 1 (b::B2).length) B2:=by have:=hRb.sub_ (i:=1) (j:=(b::B2).length) σ (au _);simpa using this
       have oA2:=hA2.rd.one;have oB2:=hB2.rd.one;have hal:(a::A2).length=A2.length+1:=rfl;have hbl:(b::B2).length=B2.length+1:=rfl;refine Ah (Ad (Ag (Ac (Bc 8 CT κ Y (Wm Y (AM (BN (0) hRb.rd.any Y Bm AI Y Y) Y Y (Wf Bq Y (Wl Y U3 (cb _) (Wm Y (AM (BN (0) hRa.rd.any Y Bm AI Y Y) Y Y (Wf Bq Y (Wl Y U3 (ca _) (A7 (Qm Y (Am ?_)))))))))))))));refine Ao Y (λhlt=>?_) (λhlt=>?_)
       ·refine Ac (Ab (Qm Y (Qm Y (Qx (BN (0) hRb.rd.any Y Bm AI Y Y) Y (Qx (oG Y Ey AI (gb _)) Y (Aw [_,_,_] Y Bm AI Y (by rfl) Y Y ω Y Y Y (λg60=>?_)))))));refine Bp 1 hOo (RdL.one CP (x:=b) Mh Y) Y Bm AI Y ω Y Y Y (DC (l:=[b]) (λy hy=>by rw[ao.1 hy];exact hBb b Mh)) (by(try simp only[ab]);omega) (by(try simp only[ab]);omega) rfl rfl rfl (λv6 m6 hO6=>?_);have ov6:=hO6.o1;refine Qm Y (Gl (Qm Y (Qx (C3 (1) hRb.rd.any Y Bm AI Y Y ω ω) Y (Qm Y (Ak (Ai (AX ?_)))))));exact Al ((a::A2).length+B2.length) _ ω ⟨a::A2,B2,O++[b],va,_,v6,m6,Y,Y,Y,Y,by rw[ag,ab];omega,hRa,hB2,hO6,by rw[bm,<-hm];show _++[b.c]++_=_++List.merge (a.c::_) (b.c::_) If;rw[Zz _ _ _ _ hlt,bp];rfl,hAa,λy hy=>hBb y (bh _ hy),λy hy=>by rcases bf.1 hy with h|h;exact hOa y h;rw[ao.1 h];exact hBb b Mh⟩ Qs
       ·refine Ac (Ab (Qm Y (Qm Y (Qx (BN (0) hRa.rd.any Y Bm AI Y Y) Y (Qx (oG Y Ey AI (ga _)) Y (Aw [_,_,_] Y Bm AI Y (by rfl) Y Y ω Y Y Y (λg68=>?_)))))));refine Bp 1 hOo (RdL.one CP (x:=a) Mh Y) Y Bm AI Y ω Y Y Y (DC (l:=[a]) (λy hy=>by rw[ao.1 hy];exact hAa a Mh)) (by(try simp only[ab]);omega) (by(try simp only[ab]);omega) rfl rfl rfl (λv6 m6 hO6=>?_);have ov6:=hO6.o1;refine Qm Y (Gl (Qm Y (Qx (C3 (1) hRa.rd.any Y Bm AI Y Y ω ω) Y (Qm Y (Ak (Ai (AX ?_)))))));exact Al (A2.length+(b::B2).length) _ ω ⟨A2,b::B2,O++[a],_,vb,v6,m6,Y,Y,Y,Y,by rw[ag,ab];omega,hA2,hRb,hO6,by rw[bm,<-hm];show _++[a.c]++_=_++List.merge (a.c::_) (b.c::_) If;rw[ZG _ _ _ _ hlt,bp];rfl,λy hy=>hAa y (bh _ hy),hBb,λy hy=>by rcases bf.1 hy with h|h;exact hOa y h;rw[ao.1 h];exact hAa a Mh⟩ Qs
      ·obtain rfl:B'=[]:=dn ω;refine Av (Aa (Aa (Af ?_)));exact Az _ ⟨A',[],O,va,vb,vo,mo,Y,Y,Y,hln,hRa,hRb,hOo,by rw[<-hm,bp];simp,hAa,hBb,hOa⟩ Qs
     ·obtain rfl:A'=[]:=dn ω;refine Qk Y (Qk Y (Qk Y (Qm Y (Am (AQ Y (Av (Aa (Aa (Af ?_)))))))));exact Az _ ⟨[],B',O,va,vb,vo,mo,Y,Y,Y,hln,hRa,hRb,hOo,by rw[<-hm];simp,hAa,hBb,hOa⟩ Qs
    ·obtain⟨A',B',O,va,vb,vo,mo,rfl,rfl,rfl,hln,hRa,hRb,hOo,hm,hAa,hBb,hOa⟩:=hI;have ova:=hRa.rd.one;have ovb:=hRb.rd.one;have ovo:=hOo.o1;refine Aq (Qm Y (Qm Y (Bp 0 hOo hRa.any Y Bm AI Y ω Y Y Y (DC hAa) (by(try simp only[ag]);omega) (by(try simp only[ag]);omega) rfl rfl rfl (λv7 m7 hO7=>Qm rfl (Bp 0 hO7 hRb.any rfl Bm AI rfl ω rfl rfl rfl (DC hBb) (by(try simp only[ag]);omega) (by(try simp only[ag]);omega) rfl rfl rfl (λv8 m8 hO8=>Qm rfl (Am (An ?_))))))));exact Ap Y Y (⟨AE l2 (AE l3 l45),m8,_,Y,hO8,by rw[bm,bm];exact hm,λy hy=>by rcases bf.1 hy with h|h;rcases bf.1 h with h|h;exact hOa y h;exact hAa y h;exact hBb y h⟩)
structure CsOk(l:List Ce):Prop where
 n:l.length<=100000
 s:∀a∈l,a.c.sd.length<=100000
def uq:Option Int->List Cl->List Cl
 | _,[]=>[]
 | p,a::l=>if p=some a.id then uq (some a.id) l else a::uq (some a.id) l
def Oj:Option Int->List Ce->List Ce
 | _,[]=>[]
 | p,a::l=>if p=some a.c.id then Oj (some a.c.id) l else a::Oj (some a.c.id) l
theorem Oo:∀(l:List Ce) (p:Option Int),(Oj p l).map Ce.c=uq p (l.map Ce.c)
 | [],_=>rfl
 | a::l,p=>by
  unfold Oj;show _=(if p=some a.c.id then uq (some a.c.id) (l.map Ce.c) else a.c::uq (some a.c.id) (l.map Ce.c));split
  ·exact Oo l _
  ·rw[List.map_cons,Oo l _]
theorem N0:∀(l:List Ce) (p:Option Int),∀a∈Oj p l,a∈l
 | [],_,a,h=>by cases h
 | b::l,p,a,h=>by
  unfold Oj at h;split at h
  ·exact bh _ (N0 l _ a h)
  ·rcases aq.1 h with rfl|h
   ·exact Mh
   ·exact bh _ (N0 l _ a h)
theorem ZM(l:List Ce)(p:Option Int):(Oj p l).length<=l.length:=by
 induction l generalizing p with
 | nil=>exact au _
 | cons a l ih=>
  unfold Oj;have:=ih (some a.c.id);split
  ·rw[ef];omega
  ·rw[ef,ef];omega
theorem Qd:∀(l:List Ce) (p:Option Int) (a:Ce),Oj p (l++[a])=Oj p l++(if((l.getLast?.map λx=>x.c.id).or p)=some a.c.id then [] else [a])
 | [],p,a=>by show Oj p [a]=_;unfold Oj;show _=[]++(if p=some a.c.id then [] else [a]);split<;>rfl
 | b::l,p,a=>by
  have ih:=Qd l (some b.c.id) a
  have e:(((b::l).getLast?.map λx:Ce=>x.c.id).or p)=((l.getLast?.map λx=>x.c.id).or (some b.c.id)):=by
   cases l with
   | nil=>rfl
   | cons c l=>simp[List.getLast?_cons_cons,List.getLast?_cons]
  rw[e];show Oj p (b::(l++[a]))=_;unfold Oj;split
  ·exact ih
  ·rw[ih];rfl
theorem Vw{l:List Ce}{i:Nat}(hi:i<l.length):Oj none (l.take (i+1))=Oj none (l.take i)++(if h:0<i/\(l[i-1]'ω).c.id=l[i].c.id then [] else [l[i]]):=by
 rw[ak hi,Qd];congr 1;by_cases h0:0<i
 ·have e:(l.take i).getLast?=some (l[i-1]'ω):=by rw[List.getLast?_eq_getElem?,av,gh ω,List.getElem?_take_of_lt ω,ah ω]
  rw[e];by_cases h1:(l[i-1]'ω).c.id=l[i].c.id
  ·rw[dif_pos ⟨h0,h1⟩,ac (by simp[h1])]
  ·rw[dif_neg (λq=>h1 q.2),aa (by simpa using h1)]
 ·obtain rfl:i=0:=ω
  rw[dif_neg (λq=>h0 q.1)];simp
def FU(l:List Cl):List Cl:=uq none (ordF l)
theorem Fa(l:List Ce)(v:Value)(h:Hp)(hK:CsOk l)(hR:RdC h v l):FnT Tryz.prog 49 #[.agg #[v]] h [] (λr h' ms'=>h.le h'/\∃m A,ms'=[m]/\OwnL cC 3 52 m r A/\A.map Ce.c=FU (l.map Ce.c)/\∀a∈A,RdL cD 2 h' [] a.v a.c.sd):=by
 have o1:=hR.q.rd.one;have hn:=hK.n;refine Au func49 ntmps49 Y Y (λw0 hw0=>?_);simp only[A6];refine Aq (AP [_] Y Y (by rfl) Y Y Y (λg1=>Qm Y (Am (Ax λh1 l1 hS=>?_))));have hR:=hR.up l1;have hA0:=Seg.all hS 0 _ Y;refine Aq (Qf Cr Y (Ql Y Bm (hA0 _) (Qc call118 Y (LS (l.length+1) l v h1 ω ω hK.s hR) (λr2 h2 ms2 l2 hF=>?_))));obtain⟨l2',m,A,rfl,hO,hA,hs⟩:=hF;refine Ba hO λh3 l3 hRA=>?_;have hs:∀a∈A,RdL cD 2 h3 [] a.v a.c.sd:=λa ha=>(hs a ha).up l3;have lA:A.length=l.length:=by have:=aw List.length hA;rwa [af,Fh,af]at this
 have o2:=hRA.rd.one;refine Qm Y (BM (Qm Y (Am (Ac (Aq (Qm Y (Am (Ag (BT ?_)))))))))
 refine Ay (λq s h' ms'=>∃(i:Nat) (vo:Value) (mo:Hp),q=A.length-i/\s=[(3,r2),(4,vo),(5,.w i)]/\h3=h'/\ms'=[mo]/\i<=A.length/\OwnL cC 3 52 mo vo (Oj none (A.take i)))
  (A.length-0) _ ⟨0,_,Hp.emp,rfl,rfl,rfl,rfl,ω,OwnL.nil CP⟩ Qs ?_
 rintro q s h' ms' ⟨i,vo,mo,rfl,rfl,rfl,rfl,hi,hO⟩;refine Ac (Aq (Qm Y (Qm Y (Qx (As hRA.rd.any Y Bm Y) Y (Qm Y (Am ?_))))));refine Ao Y (λhlt=>?_) (λhlt=>?_)
 ·have hil:i<A.length:=CX hlt;have ovo:=hO.o1;have oav:=(hs _ (ae hil)).rd.one;have hgi:∀ms,Seg h3 ms ((AG r2).add (i*3)) (cC A[i]):=λms=>(hRA.any (ms:=ms)).seg hil;have hci:∀ms,Cell h3 ms ((AG r2).add (i*3)) (.w A[i].c.id):=λms=>(hRA.any (ms:=ms)).cell0 hil Y;have htk:=Vw hil;have hul:(Oj none (A.take i)).length<=100000:=by have:=ZM (A.take i) none;rw[av]at this;omega
  refine Ah (Ad ?_);refine Bg (λs h' ms'=>∃(vo:Value) (mo:Hp),s=[(3,r2),(4,vo),(5,.w i)]/\h3=h'/\ms'=[mo]/\OwnL cC 3 52 mo vo (Oj none (A.take (i+1)))) ?_ (λs h ms hI=>?_)
  ·refine Ag (Ac (Bc 14 CT κ Y (Wm Y (Wm Y (Wm Y ?_)))));refine CC (t:=17) Y (λhs1=>?_) (λhs1=>?_)
   ·rw[dif_neg (λq=>ω)]at htk;refine AC Y Y Y Y Y (AC Y Y Y Y Y (AC Y Y Y Y Y (AC Y Y Y Y Y (AC Y Y Y Y Y (AC Y Y Y Y Y (AC Y Y Y Y Y (AC Y Y Y Y Y (AC Y Y Y Y Y (AC Y Y Y Y Y (AC Y Y Y Y Y (A7 (Qk Y (Qm Y (Am (A5 Y (Ab (Qm Y (Qm Y (Qm Y (Qx (BN (i) hRA.rd.any Y Bm AI Y Y) Y (Qx (oG Y Ey AI (hgi _)) Y (Aw [_,_,_] Y Bm AI Y (by rfl) Y Y ω Y Y Y (λg36=>?_)))))))))))))))))))))));refine Bp 1 hO (RdL.one CP (x:=A[i]) Mh Y) Y Bm AI Y ω Y Y Y (DC (l:=[A[i]]) (λy hy=>by rw[ao.1 hy];exact hs _ (ae hil))) (by(try simp only[ab]);omega) (by(try simp only[ab]);omega) rfl rfl rfl (λv6 m6 hO6=>?_);rw[<-htk]at hO6;refine Qm Y (Ak (Ai (AX ?_)));exact Az _ ⟨v6,m6,Y,Y,Y,hO6⟩ Qs
   ·have hip:i-1<A.length:=ω
    have hcp:∀ms,Cell h3 ms ((AG r2).add ((i-1)*3)) (.w A[i-1].c.id):=λms=>(hRA.any (ms:=ms)).cell0 hip Y;refine AJ (Ar Y Y) Y Y Y Y (AJ (Ar Y Y) Y Y Y Y (AJ (BN (i) hRA.rd.any Y Bm AI Y Y) Y Y Y Y (AJ (oF Bq Y) Y Y Y Y (AJ (oL Y U3 (hci _)) Y Y Y Y (AJ (Ar Y Y) Y Y Y Y (AJ (Ar Y Y) Y Y Y Y (AJ (oS Y) Y Y Y Y (AJ (BN (i-1) hRA.rd.any Y Bm AI Y Y) Y Y Y Y (AJ (oF Bq Y) Y Y Y Y (AJ (oL Y U3 (hcp _)) Y Y Y Y (A7 (Qg (B8 Y Y Y) Y (Qm Y (Am ?_))))))))))))));refine Ao Y (λhs2=>?_) (λhs2=>?_)
    ·rw[dif_neg (λq=>hs2 q.2.symm)]at htk;refine Ab (Qm Y (Qm Y (Qm Y (Qx (BN (i) hRA.rd.any Y Bm AI Y Y) Y (Qx (oG Y Ey AI (hgi _)) Y (Aw [_,_,_] Y Bm AI Y (by rfl) Y Y ω Y Y Y (λg36=>?_)))))));refine Bp 1 hO (RdL.one CP (x:=A[i]) Mh Y) Y Bm AI Y ω Y Y Y (DC (l:=[A[i]]) (λy hy=>by rw[ao.1 hy];exact hs _ (ae hil))) (by(try simp only[ab]);omega) (by(try simp only[ab]);omega) rfl rfl rfl (λv6 m6 hO6=>?_);rw[<-htk]at hO6;refine Qm Y (Ak (Ai (AX ?_)));exact Az _ ⟨v6,m6,Y,Y,Y,hO6⟩ Qs
    ·rw[dif_pos ⟨ω,ω⟩,List.append_nil]at htk;rw[<-htk]at hO;refine Ah (Ai ?_);exact Az _ ⟨vo,mo,Y,Y,Y,hO⟩ Qs
  ·obtain⟨vo,mo,rfl,rfl,rfl,hO⟩:=hI;refine Ab (Qm Y (Qx (oA Y) Y (Qm Y (Ak ?_))));exact Al (A.length-(i+1)) _ ω ⟨i+1,vo,mo,Y,Y,Y,Y,ω,hO⟩ Qs
 ·have hie:i=A.length:=ω
  rw[hie,List.take_length]at hO;refine Av (Aa (Aa (Af (Ad (Aq (Qm Y (Qm Y (Am (An ?_)))))))));exact Ap Y Y (⟨AE l1 (AE l2 l3),mo,_,Y,hO,by rw[Oo,hA];rfl,λa ha=>hs a (N0 _ _ a ha)⟩)
def LK(l:List Cl)(x:Int):Nat:=(l.takeWhile λc=>decide (c.id<x)).length
def JL(l:List Cl)(x:Int):Int:=if h:LK l x<l.length then if l[LK l x].id=x then(LK l x:Nat) else -1 else -1
theorem QU{l:List Cl}{x:Int}{k:Nat}(hk:k<=l.length)(h1:∀j (hj:j<l.length),j<k->l[j].id<x)(h2:∀hk:k<l.length,¬l[k].id<x):LK l x=k:=by obtain⟨e1,_⟩:=ET (λc:Cl=>decide (c.id<x)) l k hk (λj hj hjk=>ai (h1 j hj hjk)) (λhk=>aj (h2 hk));unfold LK;rw[e1,av];omega
theorem WM(l:List Ce)(v:Value)(x:Int)(h:Hp)(hn:l.length<=100000)(hst:(l.map Ce.c).Pairwise λa b=>a.id<=b.id)(hR:RdL cC 3 h [] v l)(ms:List Hp):FnV Tryz.prog 117 #[v,.int .i64 x] h ms (.int .i64 (JL (l.map Ce.c) x)):=by
 refine DW ?_ ms;have o1:=hR.rd.one
 have hsr:∀i j (hi:i<l.length) (hj:j<l.length),i<j->l[i].c.id<=l[j].c.id:=λi j hi hj hij=>by have:=ax.1 hst i j (by simpa using hi) (by simpa using hj) hij;simpa using this
 refine Au func117 ntmps117 Y Y (λw0 hw0=>?_);simp only[A6];refine Aq (Qm Y (BM (Qm Y (BM (Qm Y (Qx (As hR.rd.any Y Bm Y) Y (Qm Y (Am (Ac (Ag ?_))))))))))
 refine Ay (λq s h' ms'=>∃(lo hi:Nat),q=hi-lo/\s=[(0,v),(1,.w x),(5,.w lo),(6,.w hi)]/\h=h'/\ms'=[]/\lo<=hi/\hi<=l.length/\(∀j (hj:j<l.length),j<lo->l[j].c.id<x)/\∀j (hj:j<l.length),hi<=j->¬l[j].c.id<x)
  (l.length-0) _ ⟨0,l.length,rfl,rfl,rfl,rfl,ω,ω,λj hj h=>ω,λj hj h=>ω⟩ Qs ?_
 rintro q s h' ms' ⟨lo,hi,rfl,rfl,rfl,rfl,hlh,hhl,hlo,hhi⟩;refine Ac (Aq (Qm Y (Qm Y (Qm Y (Am ?_)))));refine Ao Y (λhlt=>?_) (λhlt=>?_)
 ·obtain⟨m,hm⟩:∃m,(lo+hi)/2=m:=⟨_,Y⟩
  have hml:m<l.length:=ω
  have hmt:((lo:Int)+hi)/2=(m:Int):=ω
  have hcm:Cell h [] ((AG v).add (m*3)) (.w l[m].c.id):=hR.cell0 hml Y;refine Ah (Ad (Ag (Aq (Qm Y (Qm Y (Qx (oA Y) Y (Qx (G7 Y Y Y ω ω) Y (Qm Y (Am ?_)))))))));rw[hmt];refine Aq (Qm Y (Qm Y (Qx (BN (m) hR.rd.any Y Bm AI Y Y) Y (Qf Bq Y (Ql Y U3 (hcm) (Qm Y (Qm Y (Am ?_))))))));refine Ao Y (λhlt2=>?_) (λhlt2=>?_)
  ·refine Ab (Qm Y (Qx (oA Y) Y (Qm Y (Ak (Ai ?_)))))
   exact Al (hi-(m+1)) _ ω ⟨m+1,hi,Y,Y,Y,Y,ω,ω,λj hj h=>by
    rcases (ω:j<m\/j=m) with h1|rfl
    ·have:=hsr j m hj hml h1;omega
    ·exact hlt2,hhi⟩ Qs
  ·refine Ab (Qm Y (Qm Y (Ak (Ai ?_))))
   exact Al (m-lo) _ ω ⟨lo,m,Y,Y,Y,Y,ω,ω,hlo,λj hj h=>by
    rcases (ω:m<j\/j=m) with h1|rfl
    ·have:=hsr m j hml hj h1;omega
    ·exact hlt2⟩ Qs
 ·obtain rfl:lo=hi:=ω
  have hcnt:LK (l.map Ce.c) x=lo:=QU (by rw[af];omega) (λj hj h=>by rw[fm];exact hlo j (by simpa using hj) h) (λhk=>by rw[fm];exact hhi lo (by simpa using hk) (au _))
  have hat:JL (l.map Ce.c) x=if h:lo<l.length then(if l[lo].c.id=x then(lo:Int) else -1) else -1:=by unfold JL;simp only[hcnt,af,fm]
  refine Av (Aa (Aa (Af (Ad (Ac (Aq (Qm Y (Qm Y (Qx (As hR.rd.any Y Bm Y) Y (Qm Y (Qm Y ?_)))))))))));refine AL (t:=31) Y (λhs1=>?_) (λhs1=>?_)
  ·have hll:lo<l.length:=CX hs1;have hcl:Cell h [] ((AG v).add (lo*3)) (.w l[lo].c.id):=hR.cell0 hll Y;rw[dif_pos hll]at hat;refine Qg (Ar Y Y) Y (Qg (Ar Y Y) Y (Qg (BN (lo) hR.rd.any Y Bm AI Y Y) Y (Qg (oF Bq Y) Y (Qg (oL Y U3 (hcl)) Y (Qg (Ar Y Y) Y (Qg (CO Y Y Y) Y (Qm Y (Am ?_))))))));refine Ao Y (λhs2=>?_) (λhs2=>?_)
   ·refine Ac (Ab (Qm Y (Qm Y (Am (An (Ae ?_))))));exact Ap Y Y (by rw[hat,ac hs2])
   ·refine Ah (Ad (Aq (Qm Y (Am (An ?_)))));exact Ap Y Y (by rw[hat,aa hs2])
  ·rw[dif_neg ω]at hat;refine Qk Y (Qk Y (Qk Y (Qk Y (Qk Y (Qk Y (Qk Y (Qm Y (Am (AQ Y (Ah (Ad (Aq (Qm Y (Am (An ?_)))))))))))))));exact Ap Y Y (by rw[hat])
def BD(x:Cl)(i:Nat):Int×Int:=x.sd.getD i (0,0)
theorem By{x:Cl}{i:Nat}(hi:i<x.sd.length):BD x i=x.sd[i]:=by simp[BD,List.getD,hi]
def CZ(l:List Cl)(x:Cl)(i:Nat):Prop:=JL l (BD x i).1<0\/(l.getD (JL l (BD x i).1).toNat default).dim≠x.dim-1\/(0<i/\(BD x i).1=(BD x (i-1)).1)
instance (l:List Cl) (x:Cl) (i:Nat):Decidable (CZ l x i):=by unfold CZ;infer_instance
def Cb(x:Cl):Prop:=(x.dim=0/\0<x.sd.length)\/(x.dim=1/\x.sd.length≠2)\/(1<x.dim/\(x.sd.length<2\/64<x.sd.length))
instance (x:Cl):Decidable (Cb x):=by unfold Cb;infer_instance
def B0(x:Cl)(i:Nat):Prop:=(BD x i).2≠1/\(BD x i).2≠-1
instance (x:Cl) (i:Nat):Decidable (B0 x i):=by unfold B0;infer_instance
def CG(l:List Cl)(x:Cl):Int:=
 if x.dim<0\/8<x.dim then 21
 else if Cb x then 22
 else if ¬∀i,i<x.sd.length->¬CZ l x i then 22
 else if ¬∀i,i<x.sd.length->¬B0 x i then 23
 else if x.dim=1/\(BD x 0).2=(BD x 1).2 then 23 else 0
theorem IG(l:List Cl)(x:Int):JL l x<l.length:=by
 unfold JL;split
 ·split
  ·omega
  ·omega
 ·omega
theorem ZF(l:List Ce)(x:Ce)(v:Value)(h:Hp)(hn:l.length<=100000)(hxn:x.c.sd.length<=100000)(hxd:-9223372036854775807<=x.c.dim/\x.c.dim<=9223372036854775807)(hst:(l.map Ce.c).Pairwise λa b=>a.id<=b.id)(hR:RdL cC 3 h [] v l)(hX:RdL cD 2 h [] x.v x.c.sd)(ms:List Hp):FnV Tryz.prog 139 #[v,.agg #[.int .i64 x.c.id,.int .i64 x.c.dim,x.v]] h ms (.int .i64 (CG (l.map Ce.c) x.c)):=by
 refine DW ?_ ms;have o1:=hR.rd.one;have o2:=hX.rd.one;refine Au func139 ntmps139 Y Y (λw0 hw0=>?_);simp only[A6];refine Aq (AP [_,_,_] Y Y (by rfl) Y Y Y (λg3=>Qm Y (Am (Ax λh1 l1 hS=>?_))));have hR:=hR.up l1;have hX:=hX.up l1;have hA:=Seg.all hS;refine Ac (Aq (Qf BZ Y (Ql Y U3 (hA _ _ Y _) (Qm Y (Qm Y ?_)))));refine AL (t:=12) Y (λg1=>?_) (λg1=>?_)
 ·refine Qk Y (Qk Y (Qk Y (Qm Y (Am (A5 Y (Aq (Qm Y (Am (An (Ae ?_))))))))));exact Ap Y Y (by unfold CG;rw[ac (.inl g1)])
 ·refine Qg (oF BZ Y) Y (Qg (oL Y U3 (hA _ _ Y _)) Y (Qg (Ct Y Y Y) Y (Qm Y (Am ?_))));refine Ao Y (λg2=>?_) (λg2=>?_)
  ·refine Ac (Ab (Qm Y (Am (An (Ae ?_)))));exact Ap Y Y (by unfold CG;rw[ac (.inr g2)])
  ·have hd:¬(x.c.dim<0\/8<x.c.dim):=ω
   refine Ah (Ad (Aq (Qf BI Y (Ql Y Cf (hA _ _ Y _) (Qx (As hX.rd.any Y Cf Y) Y (Qm Y (Am ?_)))))));refine Bg (λs h' ms'=>s=[(0,v),(3,.pt g3),(5,.w x.c.sd.length)]/\h1=h'/\ms'=[]/\¬Cb x.c) ?_ (λs h ms hI=>?_)
   ·refine Ac (Ab (Qf BZ Y (Ql Y U3 (hA _ _ Y _) (Qm Y (Qm Y ?_)))));refine AL (t:=23) Y (λa1=>?_) (λa1=>?_)
    ·refine Qg (Ar Y Y) Y (Qg (Ct Y Y Y) Y (Qm Y (Qm Y ?_)));refine AL (t:=27) Y (λa2=>?_) (λa2=>?_)
     ·refine Qk Y (Qk Y (Qk Y (Qk Y (A3 Y Y Y Y Y Y (A3 Y Y Y Y Y Y (Qk Y (Qm Y (Qm Y (Qk Y (Qk Y (Qk Y (Qk Y (A3 Y Y Y Y Y Y (A3 Y Y Y Y Y Y (A3 Y Y Y Y Y Y (A3 Y Y Y Y Y Y (A3 Y Y Y Y Y Y (A3 Y Y Y Y Y Y (Qk Y (Qm Y (Am (A5 Y (Aq (Qm Y (Am (An (Ae ?_)))))))))))))))))))))))))));exact Ap Y Y (by unfold CG;rw[aa hd,ac (by unfold Cb;omega)])
     ·refine Qg (oF BZ Y) Y (Qg (oL Y U3 (hA _ _ Y _)) Y (Qg (CO Y Y Y) Y (Qg (Ar Y Y) Y ?_)));refine AL (t:=31) Y (λa3=>?_) (λa3=>?_)
      ·exact jt a3 ω
      ·refine Qk Y (Qk Y (Qg (Ch Y Y Y) Y (Qm Y (Qm Y (Qg (oF BZ Y) Y (Qg (oL Y U3 (hA _ _ Y _)) Y (Qg (Ct Y Y Y) Y (Qg (Ar Y Y) Y ?_))))))));refine AL (t:=40) Y (λa4=>?_) (λa4=>?_)
       ·exact jt a4 ω
       ·refine Qk Y (Qk Y (Qk Y (A3 Y Y Y Y Y Y (A3 Y Y Y Y Y Y (Qk Y (Qg (Ch Y Y Y) Y (Qm Y (Am (AQ Y (Ah ?_))))))))));exact Az _ ⟨Y,Y,Y,by unfold Cb;omega⟩ Qs
    ·refine Qk Y (Qk Y (Qm Y (Qm Y (Qg (oF BZ Y) Y (Qg (oL Y U3 (hA _ _ Y _)) Y (Qg (CO Y Y Y) Y (Qg (Ar Y Y) Y ?_)))))));refine AL (t:=31) Y (λa3=>?_) (λa3=>?_)
     ·refine Qg (Ar Y Y) Y (Qg (B8 Y Y Y) Y (Qg (Cp Y Y Y) Y (Qm Y (Qm Y ?_))));refine AL (t:=36) Y (λa5=>?_) (λa5=>?_)
      ·refine Qk Y (Qk Y (Qk Y (Qk Y (A3 Y Y Y Y Y Y (A3 Y Y Y Y Y Y (A3 Y Y Y Y Y Y (A3 Y Y Y Y Y Y (A3 Y Y Y Y Y Y (A3 Y Y Y Y Y Y (Qk Y (Qm Y (Am (A5 Y (Aq (Qm Y (Am (An (Ae ?_))))))))))))))))));exact Ap Y Y (by unfold CG;rw[aa hd,ac (by unfold Cb;omega)])
      ·refine Qg (oF BZ Y) Y (Qg (oL Y U3 (hA _ _ Y _)) Y (Qg (Ct Y Y Y) Y (Qg (Ar Y Y) Y ?_)));refine AL (t:=40) Y (λa6=>?_) (λa6=>?_)
       ·exact jt a6 ω
       ·refine Qk Y (Qk Y (Qk Y (A3 Y Y Y Y Y Y (A3 Y Y Y Y Y Y (Qk Y (Qg (Ch Y Y Y) Y (Qm Y (Am (AQ Y (Ah ?_))))))))));exact Az _ ⟨Y,Y,Y,by unfold Cb;omega⟩ Qs
     ·refine Qk Y (Qk Y (Qg (Ch Y Y Y) Y (Qm Y (Qm Y (Qg (oF BZ Y) Y (Qg (oL Y U3 (hA _ _ Y _)) Y (Qg (Ct Y Y Y) Y (Qg (Ar Y Y) Y ?_))))))));refine AL (t:=40) Y (λa6=>?_) (λa6=>?_)
      ·refine Qg (Ar Y Y) Y (Qg (DA Y Y Y) Y (Qg (Ar Y Y) Y ?_));refine AL (t:=43) Y (λa7=>?_) (λa7=>?_)
       ·refine Qk Y (Qk Y (Qg (Cp Y Y Y) Y (Qg (Cp Y Y Y) Y (Qm Y (Am (A5 Y (Aq (Qm Y (Am (An (Ae ?_)))))))))));exact Ap Y Y (by unfold CG;rw[aa hd,ac (by unfold Cb;omega)])
       ·refine Qg (Ar Y Y) Y (Qg (Ct Y Y Y) Y (Qg (Ch Y Y Y) Y (Qg (Cp Y Y Y) Y (Qm Y (Am ?_)))));refine Ao Y (λa8=>?_) (λa8=>?_)
        ·refine Ac (Ab (Qm Y (Am (An (Ae ?_)))));exact Ap Y Y (by unfold CG;rw[aa hd,ac (by unfold Cb;omega)])
        ·refine Ah ?_;exact Az _ ⟨Y,Y,Y,by unfold Cb;omega⟩ Qs
      ·exact jt a6 ω
   ·obtain⟨rfl,rfl,rfl,hnb⟩:=hI;refine Ac (Aq (Qm Y (Am (Ag ?_))))
    refine Ay (λq s h' ms'=>∃(i:Nat),q=x.c.sd.length-i/\s=[(0,v),(3,.pt g3),(5,.w x.c.sd.length),(6,.w i)]/\h1=h'/\ms'=[]/\i<=x.c.sd.length/\∀j,j<i->¬CZ (l.map Ce.c) x.c j)
     (x.c.sd.length-0) _ ⟨0,rfl,rfl,rfl,rfl,ω,λj hj=>ω⟩ Qs ?_
    rintro q s h' ms' ⟨i,rfl,rfl,rfl,rfl,hi,hno⟩;refine Ac (Aq (Qm Y (Qm Y (Qm Y (Am ?_)))));refine Ao Y (λhlt=>?_) (λhlt=>?_)
    ·have hil:i<x.c.sd.length:=CX hlt;have hsi:=By hil;have hci:Cell h1 [] ((AG x.v).add (i*2)) (.w x.c.sd[i].1):=hX.cell0 hil Y;obtain⟨k,hk⟩:∃k,JL (l.map Ce.c) x.c.sd[i].1=k:=⟨_,Y⟩
     have hkl:=IG (l.map Ce.c) x.c.sd[i].1;rw[hk,af]at hkl
     have hround:¬CZ (l.map Ce.c) x.c i->∀j,j<i+1->¬CZ (l.map Ce.c) x.c j:=λhb j hj=>by
      rcases (ω:j<i\/j=i) with h|rfl
      ·exact hno j h
      ·exact hb
     refine Ah (Ad (Ac (Ag (Aq (Qm Y (Qf BI Y (Ql Y Cf (hA _ _ Y _) (Qm Y (Qx (BN (i) hX.rd.any Y Cf AS Y Y) Y (Qf Cm Y (Ql Y U3 (hci) (Qx (AH Y call117 Y (WM l v _ h1 hn hst hR _)) Y (Qm Y (Am ?_))))))))))))));rw[hk];refine Ac (Bc 30 CT κ Y (Wm Y (Wm Y (Wm Y ?_))));refine CC (t:=64) Y (λb1=>?_) (λb1=>?_)
     ·refine AC Y Y Y Y Y (AC Y Y Y Y Y (AC Y Y Y Y Y (AC Y Y Y Y Y (AC Y Y Y Y Y (AC Y Y Y Y Y (AC Y Y Y Y Y (AC Y Y Y Y Y (AC Y Y Y Y Y (Wm Y (Wm Y (AC Y Y Y Y Y (AC Y Y Y Y Y (AC Y Y Y Y Y (AY Y Y Y Y (AY Y Y Y Y (AY Y Y Y Y (AY Y Y Y Y (AY Y Y Y Y (AY Y Y Y Y (AY Y Y Y Y (AY Y Y Y Y (AY Y Y Y Y (AY Y Y Y Y (AY Y Y Y Y (AY Y Y Y Y (AY Y Y Y Y (A7 (A3 Y Y Y Y Y Y (Qk Y (Qm Y (Am (A5 Y (Aq (Qm Y (Am (An (Aj (Ae (Ae ?_)))))))))))))))))))))))))))))))))))))));refine Aj (Ae ?_);exact Ap Y Y (by unfold CG;rw[aa hd,aa hnb,ac (λq=>q i hil (by unfold CZ;rw[hsi,hk];exact .inl b1))])
     ·obtain⟨m,rfl⟩:∃m:Nat,k=m:=⟨k.toNat,ω⟩
      have hml:m<l.length:=ω
      have hcd:Cell h1 [] (((AG v).add (m*3)).add 1) (.w l[m].c.dim):=hR.cell hml (f:=1) Y;have hgd:(l.map Ce.c).getD ((m:Int).toNat) default=l[m].c:=by simp[List.getD,hml]
      refine AJ (Ar Y Y) Y Y Y Y (AJ (Ar Y Y) Y Y Y Y (AJ (BN (m) hR.rd.any Y Bm AI Y Y) Y Y Y Y (AJ (oF BZ Y) Y Y Y Y (AJ (oL Y U3 (hcd)) Y Y Y Y (AJ (oF BZ Y) Y Y Y Y (AJ (oL Y U3 (hA _ _ Y _)) Y Y Y Y (AJ (oS Y) Y Y Y Y (AJ (B8 Y Y Y) Y Y Y Y (Wm Y (Wm Y ?_))))))))));refine CC (t:=75) Y (λb2=>?_) (λb2=>?_)
      ·refine AC Y Y Y Y Y (AC Y Y Y Y Y (AC Y Y Y Y Y (AY Y Y Y Y (AY Y Y Y Y (AY Y Y Y Y (AY Y Y Y Y (AY Y Y Y Y (AY Y Y Y Y (AY Y Y Y Y (AY Y Y Y Y (AY Y Y Y Y (AY Y Y Y Y (AY Y Y Y Y (AY Y Y Y Y (AY Y Y Y Y (A7 (A3 Y Y Y Y Y Y (Qk Y (Qm Y (Am (A5 Y (Aq (Qm Y (Am (An (Aj (Ae (Ae (Aj (Ae ?_))))))))))))))))))))))))))))));exact Ap Y Y (by unfold CG;rw[aa hd,aa hnb,ac (λq=>q i hil (by unfold CZ;rw[hsi,hk,hgd];exact .inr (.inl b2)))])
      ·refine AJ (Ar Y Y) Y Y Y Y (AJ (Ct Y Y Y) Y Y Y Y (AJ (Ar Y Y) Y Y Y Y ?_));refine CC (t:=78) Y (λb3=>?_) (λb3=>?_)
       ·have hip:i-1<x.c.sd.length:=ω
        have hsp:=By hip;have hcp:Cell h1 [] ((AG x.v).add ((i-1)*2)) (.w x.c.sd[i-1].1):=hX.cell0 hip Y;refine AJ (oF BI Y) Y Y Y Y (AJ (oL Y Cf (hA _ _ Y _)) Y Y Y Y (AJ (Ar Y Y) Y Y Y Y (AJ (BN (i) hX.rd.any Y Cf AS Y Y) Y Y Y Y (AJ (oF Cm Y) Y Y Y Y (AJ (oL Y U3 (hci)) Y Y Y Y (AJ (oF BI Y) Y Y Y Y (AJ (oL Y Cf (hA _ _ Y _)) Y Y Y Y (AJ (Ar Y Y) Y Y Y Y (AJ (oS Y) Y Y Y Y (AJ (BN (i-1) hX.rd.any Y Cf AS Y Y) Y Y Y Y (AJ (oF Cm Y) Y Y Y Y (AJ (oL Y U3 (hcp)) Y Y Y Y (A7 (Qg (CO Y Y Y) Y (Qg (Cp Y Y Y) Y (Qm Y (Am ?_)))))))))))))))));refine Ao Y (λb4=>?_) (λb4=>?_)
        ·refine Ac (Ab (Qm Y (Am (An (Aj (Ae (Ae (Aj (Ae ?_)))))))));exact Ap Y Y (by unfold CG;rw[aa hd,aa hnb,ac (λq=>q i hil (by unfold CZ;rw[hsi,hsp,hk,hgd];exact .inr (.inr ⟨ω,b4⟩)))])
        ·refine Ah (Ai (Ad (Ab (Qm Y (Qx (oA Y) Y (Qm Y (Ak ?_)))))));exact Al (x.c.sd.length-(i+1)) _ ω ⟨i+1,Y,Y,Y,Y,ω,hround (by unfold CZ;rw[hsi,hsp,hk,hgd];omega)⟩ Qs
       ·refine AC Y Y Y Y Y (AC Y Y Y Y Y (AC Y Y Y Y Y (AC Y Y Y Y Y (AC Y Y Y Y Y (AC Y Y Y Y Y (AC Y Y Y Y Y (AC Y Y Y Y Y (AC Y Y Y Y Y (AC Y Y Y Y Y (AC Y Y Y Y Y (AC Y Y Y Y Y (AC Y Y Y Y Y (A7 (Qk Y (Qg (Ch Y Y Y) Y (Qm Y (Am (AQ Y (Ah (Ai (Ad (Ab (Qm Y (Qx (oA Y) Y (Qm Y (Ak ?_))))))))))))))))))))))))));exact Al (x.c.sd.length-(i+1)) _ ω ⟨i+1,Y,Y,Y,Y,ω,hround (by unfold CZ;rw[hsi,hk,hgd];omega)⟩ Qs
    ·obtain rfl:i=x.c.sd.length:=ω
     have hs2:¬¬∀i,i<x.c.sd.length->¬CZ (l.map Ce.c) x.c i:=λq=>q hno;refine Av (Aa (Aa (Af (Ad (Ac (Aq (Qm Y (Am (Ag ?_)))))))))
     refine Ay (λq s h' ms'=>∃(i:Nat),q=x.c.sd.length-i/\s=[(0,v),(3,.pt g3),(5,.w x.c.sd.length),(8,.w i)]/\h1=h'/\ms'=[]/\i<=x.c.sd.length/\∀j,j<i->¬B0 x.c j)
      (x.c.sd.length-0) _ ⟨0,rfl,rfl,rfl,rfl,ω,λj hj=>ω⟩ Qs ?_
     rintro q s h' ms' ⟨i,rfl,rfl,rfl,rfl,hi,hno2⟩;refine Ac (Aq (Qm Y (Qm Y (Qm Y (Am ?_)))));refine Ao Y (λhlt2=>?_) (λhlt2=>?_)
     ·have hil:i<x.c.sd.length:=CX hlt2;have hsi:=By hil;have hci:Cell h1 [] (((AG x.v).add (i*2)).add 1) (.w x.c.sd[i].2):=hX.cell hil (f:=1) Y
      have hround:¬B0 x.c i->∀j,j<i+1->¬B0 x.c j:=λhb j hj=>by
       rcases (ω:j<i\/j=i) with h|rfl
       ·exact hno2 j h
       ·exact hb
      refine Ah (Ad (Ac (Ag (Aq (Qf BI Y (Ql Y Cf (hA _ _ Y _) (Qm Y (Qx (BN (i) hX.rd.any Y Cf AS Y Y) Y (Qf Dt Y (Ql Y U3 (hci) (Qm Y (Qm Y ?_))))))))))));refine AL (t:=107) Y (λc1=>?_) (λc1=>?_)
      ·refine Qg (oF BI Y) Y (Qg (oL Y Cf (hA _ _ Y _)) Y (Qg (Ar Y Y) Y (Qg (BN (i) hX.rd.any Y Cf AS Y Y) Y (Qg (oF Dt Y) Y (Qg (oL Y U3 (hci)) Y (Qg (B8 Y Y Y) Y (Qm Y (Am ?_))))))));refine Ao Y (λc2=>?_) (λc2=>?_)
       ·refine Ac (Ab (Qm Y (Am (An (Aj (Ae (Ae (Aj (Ae ?_)))))))));exact Ap Y Y (by unfold CG;rw[aa hd,aa hnb,aa hs2,ac (λq=>q i hil (by unfold B0;rw[hsi];exact⟨c1,c2⟩))])
       ·refine Ah (Ai (Ad (Ab (Qm Y (Qx (oA Y) Y (Qm Y (Ak ?_)))))));exact Al (x.c.sd.length-(i+1)) _ ω ⟨i+1,Y,Y,Y,Y,ω,hround (by unfold B0;rw[hsi];exact λq=>c2 q.2)⟩ Qs
      ·refine Qk Y (Qk Y (Qk Y (Qk Y (Qk Y (Qk Y (Qk Y (Qm Y (Am (AQ Y (Ah (Ai (Ad (Ab (Qm Y (Qx (oA Y) Y (Qm Y (Ak ?_)))))))))))))))));exact Al (x.c.sd.length-(i+1)) _ ω ⟨i+1,Y,Y,Y,Y,ω,hround (by unfold B0;rw[hsi];exact λq=>c1 q.1)⟩ Qs
     ·obtain rfl:i=x.c.sd.length:=ω
      have hs3:¬¬∀i,i<x.c.sd.length->¬B0 x.c i:=λq=>q hno2;refine Av (Aa (Aa (Af (Ad (Ac (Ac (Bc 14 CT κ Y (Wf BZ Y (Wl Y U3 (hA _ _ Y _) (Wm Y (Wm Y ?_)))))))))));refine CC (t:=119) Y (λd1=>?_) (λd1=>?_)
      ·have h2:x.c.sd.length=2:=by unfold Cb at hnb;omega
       have hl0:0<x.c.sd.length:=ω
       have hl1:1<x.c.sd.length:=ω
       have hs0:=By hl0;have hs1:=By hl1;have hc0:Cell h1 [] (((AG x.v).add (0*2)).add 1) (.w x.c.sd[0].2):=hX.cell hl0 (f:=1) Y;have hc1:Cell h1 [] (((AG x.v).add (1*2)).add 1) (.w x.c.sd[1].2):=hX.cell hl1 (f:=1) Y;refine AJ (oF BI Y) Y Y Y Y (AJ (oL Y Cf (hA _ _ Y _)) Y Y Y Y (AJ (BN (0) hX.rd.any Y Cf AS Y Y) Y Y Y Y (AJ (oF Dt Y) Y Y Y Y (AJ (oL Y U3 (hc0)) Y Y Y Y (AJ (oF BI Y) Y Y Y Y (AJ (oL Y Cf (hA _ _ Y _)) Y Y Y Y (AJ (BN (1) hX.rd.any Y Cf AS Y Y) Y Y Y Y (AJ (oF Dt Y) Y Y Y Y (AJ (oL Y U3 (hc1)) Y Y Y Y (A7 (Qg (CO Y Y Y) Y (Qm Y (Am ?_)))))))))))));refine Ao Y (λd2=>?_) (λd2=>?_)
       ·refine Ac (Ab (Qm Y (Am (An (Ae ?_)))));exact Ap Y Y (by unfold CG;rw[aa hd,aa hnb,aa hs2,aa hs3,ac ⟨d1,by rw[hs0,hs1];exact d2⟩])
       ·refine Ah (Ad (Aq (Qm Y (Am (An ?_)))));exact Ap Y Y (by unfold CG;rw[aa hd,aa hnb,aa hs2,aa hs3,aa (λq=>d2 (by have:=q.2;rwa [hs0,hs1]at this))])
      ·refine AC Y Y Y Y Y (AC Y Y Y Y Y (AC Y Y Y Y Y (AC Y Y Y Y Y (AC Y Y Y Y Y (AC Y Y Y Y Y (AC Y Y Y Y Y (AC Y Y Y Y Y (AC Y Y Y Y Y (AC Y Y Y Y Y (A7 (Qk Y (Qm Y (Am (AQ Y (Ah (Ad (Aq (Qm Y (Am (An ?_))))))))))))))))))));exact Ap Y Y (by unfold CG;rw[aa hd,aa hnb,aa hs2,aa hs3,aa (λq=>d1 q.1)])
section
variable {n T i k m:Nat} {l pa:List Int} {now old w:Int}
def EN(l:List Int)(x:Int):Nat:=(l.takeWhile λy=>decide (y≠x)).length
theorem PV(l:List Int)(x:Int):EN l x<=l.length:=(List.takeWhile_sublist _).length_le
theorem QS{x:Int}(hk:k<=l.length)(h1:∀j (hj:j<l.length),j<k->l[j]≠x)(h2:∀hk:k<l.length,l[k]=x):EN l x=k:=by obtain⟨e1,_⟩:=ET (λy:Int=>decide (y≠x)) l k hk (λj hj hjk=>ai (h1 j hj hjk)) (λhk=>aj (λq=>q (h2 hk)));unfold EN;rw[e1,av];omega
def FQ(pa:List Int)(m:Nat)(now old:Int):List Int:=pa.mapIdx λj p=>if j<m/\p=now then old else p
theorem Du(pa:List Int)(m:Nat)(now old:Int):(FQ pa m now old).length=pa.length:=by simp[FQ]
theorem Fc{j:Nat}(hj:j<pa.length):(FQ pa m now old)[j]'(by rw[Du];exact hj)=if j<m/\pa[j]=now then old else pa[j]:=by simp[FQ]
theorem Uo(pa:List Int)(now old:Int):FQ pa 0 now old=pa:=by refine dq (by rw[Du]) λj h1 h2=>?_;rw[Fc h2,aa (λq=>ω)]
theorem WQ(hm:m<pa.length)(h:pa[m]=now):(FQ pa m now old).set m old=FQ pa (m+1) now old:=by
 refine dq (by rw[e8,Du,Du]) λj h1 h2=>?_;rw[Du]at h2;rw[List.getElem_set];by_cases e:m=j
 ·subst e;rw[ac rfl,Fc h2,ac ⟨ω,h⟩]
 ·rw[aa e,Fc h2,Fc h2];by_cases h3:j<m
  ·simp only[h3,true_and,show j<m+1 by omega]
  ·rw[aa (λq=>h3 q.1),aa (λq=>ω)]
theorem ZK(hm:m<pa.length)(h:pa[m]≠now):FQ pa m now old=FQ pa (m+1) now old:=by
 refine dq (by rw[Du,Du]) λj h1 h2=>?_;rw[Du]at h2;rw[Fc h2,Fc h2];by_cases e:m=j
 ·subst e;rw[aa (λq=>ω),aa (λq=>h q.2)]
 ·by_cases h3:j<m
  ·simp only[h3,true_and,show j<m+1 by omega]
  ·rw[aa (λq=>h3 q.1),aa (λq=>ω)]
structure S2 where
 ids:List Int
 su:List Int
 ma:List Int
 fi:List Int
 pa:List Int
def S2.add(S:S2)(i:Nat)(id:Int):S2:=if EN S.ids id=S.ids.length then⟨S.ids++[id],S.su++[0],S.ma++[0],S.fi++[(i:Int)],S.pa⟩ else S
def S2.hit(S:S2)(i k:Nat)(w:Int):S2:=⟨S.ids,S.su.set k (S.su.getD k 0+w),S.ma.set k (S.ma.getD k 0+1),S.fi,FQ S.pa (i+1) (S.pa.getD i 0) (S.pa.getD (S.fi.getD k 0).toNat 0)⟩
def S2.side(S:S2)(i:Nat)(w:Int)(r:Int×Int):S2:=(S.add i r.1).hit i (EN S.ids r.1) (w*r.2)
def S2.sides(S:S2)(i:Nat)(w:Int)(l:List (Int×Int)):S2:=l.foldl (λS r=>S.side i w r) S
theorem S2.sides_snoc(S:S2)(i:Nat)(w:Int)(l:List (Int×Int))(r:Int×Int):S.sides i w (l++[r])=(S.sides i w l).side i w r:=by unfold S2.sides;rw[List.foldl_append];rfl
def S2.start(S:S2)(i:Nat):S2:=⟨S.ids,S.su,S.ma,S.fi,S.pa.set i (i:Int)⟩
def FT(l:List Cl)(x:Cl)(i:Nat):Cl:=l.getD (JL l (BD x i).1).toNat default
def HA(l:List Cl)(x:Cl):Nat->S2
 | 0=>⟨[],[],[],[],replicate x.sd.length 0⟩
 | i+1=>((HA l x i).start i).sides i (BD x i).2 (FT l x i).sd
def Eg(l:List Cl)(x:Cl):Int:=
 if ¬∀y∈(HA l x x.sd.length).su,y=0 then 24
 else if ¬∀y∈(HA l x x.sd.length).ma,y=2 then 25
 else if ¬∀y∈(HA l x x.sd.length).pa,y=(HA l x x.sd.length).pa.getD 0 0 then 25 else 0
structure S2.Ok(S:S2)(T n:Nat):Prop where
 s:S.su.length=S.ids.length
 m:S.ma.length=S.ids.length
 f:S.fi.length=S.ids.length
 p:S.pa.length=n
 t:S.ids.length<=T
 sb:∀y∈S.su,-(T:Int)<=y/\y<=T
 mb:∀y∈S.ma,0<=y/\y<=T
 fb:∀y∈S.fi,0<=y/\y<n
theorem Hr{a y:Int}(h:y∈l++[a]):y∈l\/y=a:=by
 rcases bf.1 h with h|h
 ·exact .inl h
 ·exact .inr (ao.1 h)
theorem S2.Ok.add{S:S2}(K:S.Ok T n)(hi:i<n)(id:Int):(S.add i id).Ok (T+1) n/\EN S.ids id<(S.add i id).ids.length:=by
 have hf:=PV S.ids id;unfold S2.add;split
 ·rename_i h;refine⟨⟨by simp[K.s],by simp[K.m],by simp[K.f],K.p,by simp[K.t],λy hy=>?_,λy hy=>?_,λy hy=>?_⟩,by rw[ag,ab];omega⟩
  ·rcases Hr hy with h|rfl
   ·have:=K.sb y h;omega
   ·omega
  ·rcases Hr hy with h|rfl
   ·have:=K.mb y h;omega
   ·omega
  ·rcases Hr hy with h|rfl
   ·exact K.fb y h
   ·omega
 ·rename_i h;exact⟨⟨K.s,K.m,K.f,K.p,by have:=K.t;omega,λy hy=>by have:=K.sb y hy;omega,λy hy=>by have:=K.mb y hy;omega,K.fb⟩,ω⟩
theorem QT(hk:k<l.length):l.getD k 0∈l:=by simp[List.getD,hk]
theorem S2.Ok.hit{S:S2}(K:S.Ok (T+1) n){U:S2}(KU:U.Ok T n)(hsu:∀y∈S.su,-(T:Int)<=y/\y<=T)(hma:∀y∈S.ma,0<=y/\y<=T)(hk:k<S.ids.length)(hw:w=1\/w=-1):(S.hit i k w).Ok (T+1) n:=by
 have h1:=hsu _ (QT (show k<S.su.length by rw[K.s];exact hk));have h2:=hma _ (QT (show k<S.ma.length by rw[K.m];exact hk));refine⟨by show(List.set _ _ _).length=_;rw[e8];exact K.s,by show(List.set _ _ _).length=_;rw[e8];exact K.m,K.f,by show(FQ _ _ _ _).length=_;rw[Du];exact K.p,K.t,λy hy=>?_,λy hy=>?_,K.fb⟩
 ·rcases List.mem_or_eq_of_mem_set hy with h|rfl
  ·exact K.sb y h
  ·rcases hw with rfl|rfl<;>omega
 ·rcases List.mem_or_eq_of_mem_set hy with h|rfl
  ·exact K.mb y h
  ·omega
theorem S2.add_su{S:S2}(K:S.Ok T n)(i:Nat)(id:Int):(∀y∈(S.add i id).su,-(T:Int)<=y/\y<=T)/\∀y∈(S.add i id).ma,0<=y/\y<=T:=by
 unfold S2.add;split
 ·refine⟨λy hy=>?_,λy hy=>?_⟩
  ·rcases Hr hy with h|rfl
   ·exact K.sb y h
   ·omega
  ·rcases Hr hy with h|rfl
   ·exact K.mb y h
   ·omega
 ·exact⟨K.sb,K.mb⟩
theorem S2.Ok.side{S:S2}(K:S.Ok T n)(hi:i<n){r:Int×Int}(hw:w*r.2=1\/w*r.2=-1):(S.side i w r).Ok (T+1) n:=
 S2.Ok.hit (K.add hi r.1).1 K (S2.add_su K i r.1).1 (S2.add_su K i r.1).2 (K.add hi r.1).2 hw
theorem S2.Ok.start{S:S2}(K:S.Ok T n):(S.start i).Ok T n:=⟨K.s,K.m,K.f,by show(List.set _ _ _).length=n;rw[e8];exact K.p,K.t,K.sb,K.mb,K.fb⟩
theorem Qi{a b:Int}(ha:a=1\/a=-1)(hb:b=1\/b=-1):a*b=1\/a*b=-1:=by rcases ha with rfl|rfl<;>rcases hb with rfl|rfl<;>decide
theorem S2.Ok.sides(hi:i<n)(hw:w=1\/w=-1):∀(l:List (Int×Int)) (S:S2) (T:Nat),S.Ok T n->(∀r∈l,r.2=1\/r.2=-1)->(S.sides i w l).Ok (T+l.length) n
 | [],S,T,K,_=>K
 | r::l,S,T,K,h=>by have:=S2.Ok.sides hi hw l (S.side i w r) (T+1) (K.side hi (Qi hw (h r Mh))) (λr hr=>h r (bh _ hr));rw[ef,show T+(l.length+1)=T+1+l.length by omega];exact this
end
end Go.Proofs.Q