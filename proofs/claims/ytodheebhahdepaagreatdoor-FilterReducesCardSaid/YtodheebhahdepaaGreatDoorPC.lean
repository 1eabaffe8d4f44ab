/- A part of the proof. -/
import Derived.Test.YtodheebhahdepaaGreatDoorPB
import Derived.Test.YtodheebhahdepaaGreatDoorChecked
import Derived.KernelRfl
import Derived.WalkArith
set_option linter.unusedSimpArgs false
set_option linter.unusedVariables false
set_option linter.unusedSectionVars false
set_option maxRecDepth 100000
set_option maxHeartbeats 4000000
open List (length_map length_singleton getElem_mem replicate length_append nil_append length_take mem_cons cons_append map_append mem_cons_of_mem length_nil length_drop length_set append_assoc getElem_map length_cons take_zero drop_zero take_succ_cons drop_succ_cons not_mem_nil)
namespace Go.Eng
open Go.RowKit
section
variable {e:Entry} {Q:Exit->Act->World->Prop} {ops:Array Oper} {rest:List Oper} {o:Oper} {s:AC} {h:Hp} {ms:List Hp}
theorem Vt(z:Array Value)(n:Nat):(Builtin.zeroCells z n).toList.length=n*z.size:=by simp[Builtin.zeroCells]
theorem VT{z:Array Value}{n:Nat}(h1:∀c∈z,c.oneCell'=true):∀c∈(Builtin.zeroCells z n).toList,c.oneCell'=true:=by
  intro c hc;simp only[Builtin.zeroCells,Array.toList_map,ai]at hc;obtain⟨i,hi,rfl⟩:=hc;have hi':i<n*z.size:=by simpa using hi
  have hz:0<z.size:=by
    rcases Nat.eq_zero_or_pos z.size with h|h
    · rw[h]at hi';omega
    · exact h
  have hm:=Nat.mod_lt i hz;rw[getElem!_pos z _ hm];exact h1 _ (Array.getElem_mem hm)
theorem Un{α:Type}{F:α->List Value}{t el:TypeId}{m:Hp}{v:Value}{l:List α}{x:Operand}{z:Value}{sz bytes:Nat}(i n:Nat)(O:OwnL F sz el m v l)(hn:n<=l.length)(ho:o.op=.call { callee:=.builtin .clear,args:=#[x],argTypes:=#[t] })(ht:e.P.underlying t=some (.slice el))(hs:Elem e.P el sz z bytes)(hz:z.cells.size=sz)(h1:∀c∈z.cells,c.oneCell'=true)
    (hx:ev s x=some (B0 sz v n l.length)) (hm:ms[i]?=some m) (hd:o.dst=none) (hg:o.guard=none)
    (K:∀m',OwnL F sz el m' (B0 sz v 0 n) (l.take n)->WL e ops Q rest s h (ms.set i m')):WL e ops Q (o::rest) s h ms:=by
  have hP:=O.pre hn
  have hset:ms.set i m=ms:=by
    refine List.ext_getElem? λj=>?_;rw[List.getElem?_set];split
    · next hij=>subst hij;split
                · exact hm.symm
                · next hlt=>exact(List.getElem?_eq_none ω).symm
    · rfl
  have nothing:(∀w ty,(Builtin.clear_ #[t] ty #[B0 sz v n l.length]).run e.P w=.ok (.tuple #[]) w)->WL e ops Q (o::rest) s h ms:=λhh=>by
    refine Lj (post:=λ_ h' ms'=>h'=h/\ms'=ms) (λρ w hρ hw=>?_) hd hg λ_ _ _ ⟨e4,e5⟩=>by
      subst e4 e5;have:=K m hP
      rwa [hset]at this
    have:(execOp ρ o).run e.P w=.ok (.value (.tuple #[])) w:=by simp[execOp,ho,hρ _ _ hx,resolve,invoke,builtin,hh]
    unfold OpRes;rw[this];exact⟨h,_,hw,Y,Y⟩
  obtain⟨⟨h2,h3⟩,hF⟩:=O;rcases h3 with ⟨rfl,h5,rfl⟩|⟨g,cap,spare,rfl,rfl,h6,h7,h8⟩
  · refine nothing λw ty=>?_
    have:B0 sz (.slice none 0 0) n l.length=.slice none (l.length-n) (0-n):=by unfold B0;simp
    rw[this];simp[Builtin.clear_,run_underlying ht]
  · rcases Nat.eq_zero_or_pos (l.length-n) with h0|h0
    · refine nothing λw ty=>?_;have:∃a c,B0 sz (.slice (some ⟨g,0,none⟩) l.length cap) n l.length=.slice a 0 c:=⟨_,_,by unfold B0;rw[h0]⟩
      obtain⟨a,c,this⟩:=this;rw[this];cases a<;>simp[Builtin.clear_,run_underlying ht]
    · have hcn:¬cap=n:=ω
      have hvs:B0 sz (.slice (some ⟨g,0,none⟩) l.length cap) n l.length=.slice (some ⟨g,n*sz,none⟩) (l.length-n) (cap-n):=by
        unfold B0;simp only;rw[aa hcn];have:(⟨g,0,none⟩:Addr).add (n*sz)=⟨g,n*sz,none⟩:=by unfold Addr.add;split<;>simp_all
        simp only[Option.map_some,this]
      rw[hvs]at hx;obtain⟨Z,hZ⟩:∃Z,(Builtin.zeroCells z.cells (l.length-n)).toList=Z:=⟨_,Y⟩
      have hZl:Z.length=(l.length-n)*sz:=by rw[<-hZ,Vt,hz]
      have hZ1:∀c∈Z,c.oneCell'=true:=by rw[<-hZ];exact VT h1
      have hsm:n*sz+(l.length-n)*sz=l.length*sz:=by rw[<-Nat.add_mul];congr 1;omega
      have hfl:(l.flatMap F).length=l.length*sz:=Bk hF l;obtain⟨L,hL⟩:∃L,l.flatMap F++spare=L:=⟨_,Y⟩
      have hLl:l.length*sz<=L.length:=by rw[<-hL,ad,hfl];omega
      have hsp:l.flatMap F=(l.take n).flatMap F++(l.drop n).flatMap F:=by rw[<-List.flatMap_append,List.take_append_drop]
      have hL2:(l.take n).flatMap F++((l.drop n).flatMap F++spare)=L:=by rw[<-bl,<-hsp,hL]
      have hft:((l.take n).flatMap F).length=n*sz:=by rw[Bk hF,ao,Nat.min_eq_left hn]
      have hLt:L.take (n*sz)=(l.take n).flatMap F:=by rw[<-hL2,<-hft,List.take_left]
      have hNew:L.take (n*sz)++Z++L.drop (n*sz+Z.length)=(l.take n).flatMap F++(Z++L.drop (n*sz+Z.length)):=by rw[hLt,bl]
      refine Lj (post:=λ_ h' ms'=>h'=h/\ms'=ms.set i (A8 g el (L.take (n*sz)++Z++L.drop (n*sz+Z.length)))) (λρ w hρ hw=>?_) hd hg λ_ _ _ ⟨e4,e5⟩=>by
        subst e4 e5
        have hv:B0 sz (.slice (some ⟨g,0,none⟩) l.length cap) 0 n=.slice (some ⟨g,0,none⟩) n cap:=by
          unfold B0;by_cases h0:cap=0
          · omega
          · show Value.slice (if cap=0 then _ else _) (n-0) (cap-0)=_;rw[aa h0,Nat.zero_mul];rfl
        refine K _ ⟨⟨Bk hF _,.inr ⟨g,cap,Z++L.drop (n*sz+Z.length),?_,?_,?_,?_,h8⟩⟩,hF⟩
        · rw[ao,Nat.min_eq_left hn];exact hv
        · rw[hNew]
        · rw[<-hNew];have:(L.take (n*sz)++Z++L.drop (n*sz+Z.length)).length=L.length:=by simp;omega
          rw[this,<-hL];exact h6
        · rw[ao,Nat.min_eq_left hn];omega
      rw[hL]at hm;have hgw:w.heap[g]?=some (.cells L.toArray el (0,0)):=hw.st.own _ (List.mem_of_getElem? hm) g _ (Hp.one_self _ _);have hst:=run_storeCells_at (P:=e.P) g (n*sz) el Z 0 _ w hgw (by simp only[List.size_toArray];omega) hZ1
      have:(execOp ρ o).run e.P w=.ok (.value (.tuple #[])) (w.setRow g (L.take (n*sz)++Z++L.drop (n*sz+Z.length)).toArray):=by
        obtain⟨q,hq⟩:∃q,l.length-n=q+1:=⟨l.length-n-1,ω⟩
        rw[hq]at hx hZ;simp[execOp,ho,hρ _ _ hx,resolve,invoke,builtin,Builtin.clear_,run_underlying ht,hs.zeroValue,hZ];simp at hst;rw[hst];rfl
      unfold OpRes;rw[this];exact⟨h,_,Ends.put hw hm Y ⟨Y,ay _⟩ Y (by simp) (setRow_heap w g _ _ _ _ hgw) (λk hk hne=>setRow_other w g k _ hne),rfl,rfl⟩
end
end Go.Eng
namespace Go.Eng
section
variable {P:Program} {o:Oper} {s:AC} {h:Hp} {ms:List Hp} {t u:TypeId} {x y:Operand}
theorem YU{a:Int}{n:Nat}{k:IntKind}(ho:o.op=.binOp .shr t x y u)(hx:ev s x=some (.int .i64 a))(hy:ev s y=some (.int k n))(hn:n<=64):OX P o s h ms (.int .i64 (a.fdiv (2^n))):=
  BD λρ w hρ _=>by
    have h1:¬((n:Int)<0):=ω
    have h2:min n 64=n:=Nat.min_eq_left hn;simp[execOp,ho,hρ _ _ hx,hρ _ _ hy,Op.shift,h1,IntKind.bits,h2,go_sem]<;>exact(Int.fdiv_eq_ediv_of_nonneg a (Int.le_of_lt (Int.pow_pos (by decide)))).symm
def Aca(a b:Int):Int:=IntKind.i64.wrap ((BitVec.ofInt 64 a &&& BitVec.ofInt 64 b).toNat:Int)
theorem ZB{a b:Int}(ho:o.op=.binOp .and t x y u)(hx:ev s x=some (.int .i64 a))(hy:ev s y=some (.int .i64 b)):OX P o s h ms (.int .i64 (Aca a b)):=
  BD λρ w hρ _=>by simp[execOp,ho,hρ _ _ hx,hρ _ _ hy,Op.intBits,IntKind.bits,go_sem];rfl
end
end Go.Eng
namespace Go.Eng
variable {n:Nat} {cs:List Value}
def OwnO(el:TypeId)(sz:Nat)(m:Hp)(v:Value)(n:Nat)(cs:List Value):Prop:=
  cs.length=n*sz/\((v=.slice none 0 0/\n=0/\m=Hp.emp) ∨
    ∃g cap pre spare,v=.slice (some ⟨g,pre.length,none⟩) n cap/\m=A8 g el (pre++(cs++spare))/\cap*sz<=(cs++spare).length/\n<=cap/\cap<=9223372036854775807)
theorem Own.o{el:TypeId}{sz:Nat}{m:Hp}{v:Value}(O:Own el sz m v n cs):OwnO el sz m v n cs:=by
  obtain⟨h1,h2⟩:=O;refine⟨h1,?_⟩;rcases h2 with h|⟨g,cap,spare,rfl,rfl,e1,e2,e3⟩
  · exact .inl h
  · exact .inr ⟨g,cap,[],spare,Y,Y,ω,e2,e3⟩
theorem OwnO.rd{el:TypeId}{sz:Nat}{m:Hp}{v:Value}(O:OwnO el sz m v n cs){h:Hp}{ms:List Hp}(hm:m∈ms):Rd h ms v sz n cs:=by
  obtain⟨h1,h2⟩:=O;rcases h2 with ⟨rfl,rfl,rfl⟩|⟨g,cap,pre,spare,rfl,rfl,e1,e2,e3⟩
  · exact⟨none,0,Y,ay _,ω,h1,λh=>ω⟩
  · refine⟨_,cap,Y,e2,e3,h1,λ_=>⟨_,Y,λj v hv=>?_⟩⟩;obtain⟨i,hi⟩:=List.getElem?_of_mem hm
    have:Cell h ms ((⟨g,0,none⟩:Addr).add (pre.length+j)) v:=Cell.blk i hi (by
      rw[List.getElem?_append_right ω,Nat.add_sub_cancel_left,List.getElem?_append_left (List.getElem?_eq_some_iff.1 hv).1];exact hv)
    have e:(⟨g,0,none⟩:Addr).add (pre.length+j)=(⟨g,pre.length,none⟩:Addr).add j:=by unfold Addr.add;split<;>split<;>simp_all<;>omega
    rwa [e]at this
theorem OwnO.tail{el:TypeId}{sz:Nat}{m:Hp}{v:Value}(O:OwnO el sz m v (n+1) cs):OwnO el sz m (B0 sz v 1 (n+1)) n (cs.drop sz):=by
  obtain⟨h1,h2⟩:=O;have hc:sz<=cs.length:=by rw[h1,Nat.add_mul];omega
  refine⟨by rw[bk,h1,Nat.add_mul];omega,?_⟩;rcases h2 with ⟨_,h,_⟩|⟨g,cap,pre,spare,rfl,rfl,e1,e2,e3⟩
  · omega
  · right
    rw[ad]at e1;by_cases hcap:cap=1
    · subst hcap;obtain rfl:n=0:=ω
      refine⟨g,0,pre,cs++spare,?_,?_,ω,ω,ω⟩
      · simp[B0]
      · rw[List.drop_eq_nil_of_le ω,av]
    · refine⟨g,cap-1,pre++cs.take sz,spare,?_,?_,?_,ω,ω⟩
      · simp only[B0];rw[aa hcap,ad,ao,Nat.min_eq_left hc];simp[Addr.add]
      · rw[bl,<-bl (cs.take sz),List.take_append_drop]
      · rw[ad,bk,Nat.sub_mul];omega
section
variable {P:Program}
theorem JC(w:World)(t ty e:TypeId)(i:TypeInfo)(ht:P.underlying t=some (.slice e))(hi:P.info? e=some i)
    (g o sLen sCap:Nat) (cur:Array Value) (hg:w.heap[g]?=some (.cells cur e (0,0)))
    (a:Addr) (m c:Nat) (news:List Value) (hl:news.length=m*i.size) (hnews:∀j u,news[j]?=some u->w.cell? (a.add j)=some u) (h1:∀u∈news,u.oneCell'=true)
    (hroom:sLen+m<=sCap) (hfit:o+sLen*i.size+news.length<=cur.size) :
    (Builtin.append_ #[t,t] ty #[.slice (some ⟨g,o,none⟩) sLen sCap,.slice (some a) m c]).run P w =
      .ok (.slice (some ⟨g,o,none⟩) (sLen+m) sCap) (w.setRow g (cur.toList.take (o+sLen*i.size)++news++cur.toList.drop (o+sLen*i.size+news.length)).toArray):=by
  have hf:=run_firstCells_some (P:=P) w i.size m a m c news hl hnews;have hst:=run_storeCells_at P g (o+sLen*i.size) e news 0 cur w hg (by simpa using hfit) h1;simp only[Nat.add_zero]at hst;simp[Builtin.append_,run_underlying ht,sizeOf,typeInfo,hi,Builtin.lenOf,hroom,hf,Addr.add_lit,hst]
theorem Pm{w0 w:World}{h0 h:Hp}{ms0 ms:List Hp}{m:Hp}(H:Ends w0 h0 ms0 w h (m::ms))(t ty el:TypeId){sz:Nat}{z:Value}{bytes:Nat}(ht:P.underlying t=some (.slice el))(hs:Elem P el sz z bytes)(hzs:z.cells.size=sz)(hsz:0<sz)
    {v x:Value} {k:Nat} {news:List Value} (O:OwnO el sz m v n cs) (R:Rd h (m::ms) x sz k news) (h1:∀u∈news,u.oneCell'=true) (hb:(n+k)*bytes<=140737488355328) (hb63:n+k<=9223372036854775807) :
    ∃v' w' m',(Builtin.append_ #[t,t] ty #[v,x]).run P w=.ok v' w'/\OwnO el sz m' v' (n+k) (cs++news)/\Ends w0 h0 ms0 w' h (m'::ms):=by
  have O0:=O;obtain⟨hcl,hO⟩:=O;rcases hO with ⟨rfl,rfl,rfl⟩|⟨g,cap,pre,spare,rfl,rfl,e1,e2,e3⟩
  · have O1:Own el sz Hp.emp (.slice none 0 0) 0 cs:=⟨hcl,.inl ⟨Y,Y,Y⟩⟩
    obtain⟨v',w',m',hr,hO',hE⟩:=KF H t ty el ht hs hzs hsz O1 R h1 hb hb63;exact⟨v',w',m',hr,hO'.o,hE⟩
  obtain⟨a,c,rfl,hkc,hcm,hnl,hq⟩:=R.ex;obtain⟨i,hi,hz,his,hib⟩:=hs.info;rcases Nat.eq_zero_or_pos k with rfl|hk
  · have hnews:news=[]:=List.eq_nil_of_length_eq_zero (by simpa using hnl);subst hnews;exact⟨_,w,_,E9 w t ty el ht hs _ a n cap c e2,by simpa using O0,H⟩
  · obtain⟨q,rfl,hseg⟩:=hq hk;have hnews:∀j u,news[j]?=some u->w.cell? (q.add j)=some u:=λj u e=>H.st.cell (hseg j u e)
    have hcap:∀old,grownCap w (n+k) old el<=9223372036854775807/\n+k<=grownCap w (n+k) old el:=λold=>
      ⟨grownCap_le_maxLen w (n+k) old el (by simp only[maxLen];omega),grownCap_ge w (n+k) old el⟩
    have hzl:∀N,(Builtin.zeroCells z.cells N).toList.length=N*sz:=λN=>by rw[Array.length_toList,size_zeroCells,hzs]
    have hgw:w.heap[g]?=some (.cells (pre++(cs++spare)).toArray el (0,0)):=H.st.own _ (List.mem_cons_self) g _ (Hp.one_self _ _);have hln:news.length=k*sz:=hnl;by_cases hroom:n+k<=cap
    · have h2:(n+k)*sz<=cap*sz:=Nat.mul_le_mul_right _ hroom;rw[Nat.add_mul]at h2;rw[ad]at e1;have hsp:news.length<=spare.length:=ω
      have hfit:pre.length+n*i.size+news.length<=(pre++(cs++spare)).toArray.size:=by rw[his,List.size_toArray,ad,ad];omega
      have hr:=JC (P:=P) w t ty el i ht hi g pre.length n cap (pre++(cs++spare)).toArray hgw q k c news (by rw[his];exact hnl) hnews h1 hroom hfit
      have e5:(List.take (pre.length+n*i.size) (pre++(cs++spare)).toArray.toList++news++List.drop (pre.length+n*i.size+news.length) (pre++(cs++spare)).toArray.toList)=pre++(cs++news++spare.drop news.length):=by
        rw[his,<-hcl]
        have hd:List.drop (pre.length+cs.length+news.length) (pre++(cs++spare))=spare.drop news.length:=by rw[<-bl,<-List.drop_drop,<-ad,List.drop_left]
        have ht':List.take (pre.length+cs.length) (pre++(cs++spare))=pre++cs:=by rw[<-bl,<-ad,List.take_left]
        simp only[ht',hd,bl]
      rw[e5]at hr;refine⟨_,_,_,hr,⟨by rw[ad,hcl,hnl,Nat.add_mul],.inr ⟨g,cap,pre,spare.drop news.length,rfl,rfl,?_,hroom,e3⟩⟩,?_⟩
      · rw[ad,ad,bk];omega
      · exact Ends.change H Y ⟨Y,ay _⟩ Y (by simp) (setRow_heap w g _ _ _ _ hgw) (λj hj hne=>setRow_other w g j _ hne)
    · have hR:=OwnO.rd O0 (h:=h) (ms:=A8 g el (pre++(cs++spare))::ms) (List.Mem.head _)
      have holds:∀j u,cs[j]?=some u->w.cell? ((⟨g,pre.length,none⟩:Addr).add j)=some u:=λj u hv=>by
        rcases Nat.eq_zero_or_pos n with rfl|hn
        · have:cs=[]:=List.eq_nil_of_length_eq_zero (by simpa using hcl);subst this;simp at hv
        · obtain⟨a',c',e',_,_,_,hq'⟩:=hR.ex;obtain⟨q',hq1,hq2⟩:=hq' hn;simp only[Value.slice.injEq]at e';obtain⟨e',_,_⟩:=e';rw[hq1]at e';obtain rfl:=de e';exact H.st.cell (hq2 j u hv)
      have hr:=run_append_grow (P:=P) w t ty el i z ht hi hz ⟨g,pre.length,none⟩ n cap cs (by rw[his];exact hcl) holds q k c news (by rw[his];exact hnl) hnews ω ω (by rw[hib];exact growslice_fits ω hb);refine⟨_,_,_,hr,⟨by rw[ad,hcl,hnl,Nat.add_mul],.inr ⟨w.heap.size,grownCap w (n+k) cap el,[],(Builtin.zeroCells z.cells (grownCap w (n+k) cap el-(n+k))).toList,rfl,rfl,?_,(hcap cap).2,(hcap cap).1⟩⟩,?_⟩
      · rw[ad,ad,hzl,hcl,hnl,<-Nat.add_mul,<-Nat.add_mul];refine Nat.mul_le_mul_right _ ?_;have:=(hcap cap).2;omega
      · have:=Ends.alloc (Ends.drew (Ends.drop H)) (.cells (cs.toArray++news.toArray++Builtin.zeroCells z.cells (grownCap w (n+k) cap el-(n+k))) el)
        have e:([]++(cs++news++(Builtin.zeroCells z.cells (grownCap w (n+k) cap el-(n+k))).toList)).toArray=cs.toArray++news.toArray++Builtin.zeroCells z.cells (grownCap w (n+k) cap el-(n+k)):=by apply Array.ext';simp
        unfold A8;rw[e];exact this
end
structure OwnQ{α:Type}(F:α->List Value)(sz:Nat)(el:TypeId)(m:Hp)(v:Value)(l:List α):Prop where
  own:OwnO el sz m v l.length (l.flatMap F)
  len:∀x,(F x).length=sz
section
variable {α:Type} {F:α->List Value} {sz:Nat} {h:Hp} {ms:List Hp} {v:Value} {l:List α} {el:TypeId} {m:Hp}
theorem OwnL.q(O:OwnL F sz el m v l):OwnQ F sz el m v l:=⟨O.own.o,O.len⟩
theorem OwnQ.rd(O:OwnQ F sz el m v l)(hm:m∈ms):RdL F sz h ms v l:=⟨O.own.rd hm,O.len⟩
theorem OwnQ.o1(O:OwnQ F sz el m v l):v.oneCell'=true:=(O.rd (h:=Hp.emp) (ms:=[m]) (List.Mem.head _)).rd.one
theorem OwnQ.tail{x:α}(O:OwnQ F sz el m v (x::l)):OwnQ F sz el m (B0 sz v 1 (l.length+1)) l:=by have:=OwnO.tail (n:=l.length) (cs:=(x::l).flatMap F) O.own;rw[List.flatMap_cons,<-O.len x,List.drop_left,O.len x]at this;exact⟨this,O.len⟩
theorem LK{e:Entry}{Q:Exit->Act->World->Prop}{ops:Array Oper}{rest:List Oper}{o:Oper}{s:AC}{t:TypeId}{d:Nat}{z:Value}{bytes:Nat}{x y:Operand}{u:Value}{r:List α}(i:Nat)(O:OwnQ F sz el m v l)(R:RdL F sz h ms u r)(ho:o.op=.call { callee:=.builtin .append,args:=#[x,y],argTypes:=#[t,t] })(ht:e.P.underlying t=some (.slice el))(hs:Elem e.P el sz z bytes)(hzs:z.cells.size=sz)(hsz:0<sz)
    (hx:ev s x=some v) (hy:ev s y=some u) (hm:ms[i]?=some m) (h1:∀a∈r,∀c∈F a,c.oneCell'=true) (hb:(l.length+r.length)*bytes<=140737488355328) (hb63:l.length+r.length<=9223372036854775807) (hd:o.dst=some d) (hn:Nat.blt d e.n=true) (hg:o.guard=none)
    (K:∀v' m',OwnQ F sz el m' v' (l++r)->WL e ops Q rest ((d,v')::s) h (ms.set i m')):WL e ops Q (o::rest) s h ms:=
  H5 (post:=λv' h' ms'=>∃m',h'=h/\ms'=ms.set i m'/\OwnO el sz m' v' (l.length+r.length) (l.flatMap F++r.flatMap F)) (λρ w hρ hw=>by
    obtain⟨r',p1,_⟩:=Gn ms i m m hm;obtain⟨v',w',m',hr,hO,hE⟩:=Pm (P:=e.P) (Ends.perm hw p1) t o.type el ht hs hzs hsz O.own (R.rd.sub (λm hm=>p1.mem_iff.1 hm)) (λc hc=>by obtain⟨a,hm',ha⟩:=List.mem_flatMap.1 hc;exact h1 a hm' c ha) hb hb63
    have:(execOp ρ o).run e.P w=.ok (.value v') w':=by simp[execOp,ho,hρ _ _ hx,hρ _ _ hy,resolve,invoke,builtin,hr]
    unfold OpRes;rw[this];obtain⟨r'',q1,q2⟩:=Gn ms i m m' hm;have pr:(m'::r').Perm (ms.set i m'):=((List.Perm.cons_inv (p1.symm.trans q1)).cons m').trans q2.symm
    exact⟨h,_,Ends.perm hE pr,m',Y,Y,hO⟩) hd hn hg λv' h' ms' ⟨m',e1,e2,e3⟩=>by subst e1 e2;exact K v' m' ⟨by rw[ad,List.flatMap_append];exact e3,O.len⟩
end
end Go.Eng

namespace Go.Eng
theorem FnT.borrow{P:Program}{f:FuncId}{args:Array Value}{h m:Hp}{post:Hp->Value->Hp->List Hp->Prop}(kf:∀hj,h.le hj->m.le hj->FnT P f args hj [] (post hj)) :
    FnT P f args h [m] (λr h' ms'=>h.le h'/\∃hj h2 ms2,h.le hj/\post hj r h2 ms2/\h'.le h2/\ms'=m::ms2/\∀h3:Hp,h3.le h2->m.disj h3->h3.le h'):=by
  intro w hw;have hd:m.disj h:=hw.off m (List.Mem.head _);have E0:=Ends.freeze (Ends.refl hw);refine(kf _ (Hp.le_join _ _) (Hp.join_le_right hd) w E0.st).mono λx w' ⟨r,h2,ms2,e1,E,hp⟩=>?_;have hm2:m.le h2:=Hp.le_trans (Hp.join_le_right hd) E.le;have hh2:h.le h2:=Hp.le_trans (Hp.le_join _ _) E.le
  have hdh:h.le (λk=>if m k=none then h2 k else none):=λk o e=>by
    show(if m k=none then h2 k else none)=some o;rcases hd k with h1|h1
    · rw[ab h1];exact hh2 k o e
    · rw[h1]at e;cases e
  refine⟨r,λk=>if m k=none then h2 k else none,m::ms2,e1,?_,hdh,h.join m,h2,ms2,Hp.le_join _ _,hp,λk o e=>?_,Y,λh3 l3 d3 k o e=>?_⟩
  · refine⟨⟨λk o e=>?_,λm' hm'=>?_,λm' hm' k=>?_,bm.2 ⟨λm' hm' k=>?_,E.st.apart⟩⟩,E.os,E.tape,E.output,E.size,λk hk _=>E.block k hk (by simp),hdh,λk hk hm=>?_,λm' hm' k hk hn=>?_⟩
    · have e:(if m k=none then h2 k else none)=some o:=e;split at e
      · exact E.st.imm k o e
      · cases e
    · rcases aj.1 hm' with rfl|hm'
      · exact λk o e=>E.st.imm k o (hm2 k o e)
      · exact E.st.own m' hm'
    · show m' k=none\/(if m k=none then h2 k else none)=none;rcases aj.1 hm' with rfl|hm'
      · by_cases h1:m' k=none
        · exact .inl h1
        · right;rw[aa h1]
      · rcases E.st.off m' hm' k with h1|h1
        · exact .inl h1
        · right;rw[h1];split<;>rfl
    · rcases E.st.off m' hm' k with h1|h1
      · exact .inr h1
      · left
        cases e:m k with
        | none=>rfl
        | some o=>rw[hm2 k o e]at h1;cases h1
    · have hmk:m k=none:=hm m (List.Mem.head _);show(if m k=none then h2 k else none)=h k;rw[ab hmk,E.hnew k hk (by simp)];unfold Hp.join;cases h k with
      | none=>exact hmk
      | some o=>rfl
    · rcases aj.1 hm' with rfl|hm'
      · exact⟨m',List.Mem.head _,hn⟩
      · obtain⟨m0,h0,_⟩:=E.mnew m' hm' k hk hn;cases h0
  · have e:(if m k=none then h2 k else none)=some o:=e;split at e
    · exact e
    · cases e
  · show(if m k=none then h2 k else none)=some o;rcases d3 k with h1|h1
    · rw[ab h1];exact l3 k o e
    · rw[h1]at e;cases e
open Go.RowKit
section
variable {P:Program} {w0:World} {h0 h:Hp} {ms0 ms:List Hp} {n:Nat} {fn:Func} {post:Value->Hp->List Hp->Prop} {s:AC}
theorem PW{t1 t2 a b g1 g2 sz bytes:Nat}{ty el1 el2:TypeId}{d:TypeDesc}{z va vb:Value}{vs1 vs2:List Value}(i j:Nat)(hr:fn.results=#[.tmp a,.cell t1 ty,.cell t2 ty,.tmp b])(hva:lk s a=some va)(hv1:lk s t1=some (.pointer (some ⟨g1,0,none⟩)))(hv2:lk s t2=some (.pointer (some ⟨g2,0,none⟩)))(hvb:lk s b=some vb)(ht:P.underlying ty=some d)(hd:Ia d=true)(hs:Elem P ty sz z bytes)(hl1:vs1.length=sz)(hl2:vs2.length=sz)(hc1:ms[i]?=some (A8 g1 el1 vs1))(hc2:(ms.eraseIdx i)[j]?=some (A8 g2 el2 vs2))(hp:post (.tuple #[va,.agg vs1.toArray,.agg vs2.toArray,vb]) h ((ms.eraseIdx i).eraseIdx j)) :
    NX ⟨P,w0,h0,ms0,n,[]⟩ (bodyPost P fn (RP w0 h0 ms0 post)) .ret s h ms:=λx w hx hw=>by
  have e1:x.tmps[t1]?.getD undef=.pt g1:=by rw[hx.slots t1 _ hv1];rfl
  have e2:x.tmps[t2]?.getD undef=.pt g2:=by rw[hx.slots t2 _ hv2];rfl
  have e3:x.tmps[a]?.getD undef=va:=by rw[hx.slots a _ hva];rfl
  have e4:x.tmps[b]?.getD undef=vb:=by rw[hx.slots b _ hvb];rfl
  have hag:(isAgg ty).run P w=.ok true w:=by rw[D9 ht,hd]
  obtain⟨k,hk⟩:=List.getElem?_of_mem (List.mem_of_mem_eraseIdx (List.mem_of_getElem? hc2));have hc1':∀j v,vs1[j]?=some v->w.cell? ((⟨g1,0,none⟩:Addr).add j)=some v:=λj v e=>hw.st.cell (Seg.blk i hc1 j v e);have hc2':∀j v,vs2[j]?=some v->w.cell? ((⟨g2,0,none⟩:Addr).add j)=some v:=λj v e=>hw.st.cell (Seg.blk k hk j v e);refine bodyPost_ret (v:=.tuple #[va,.agg vs1.toArray,.agg vs2.toArray,vb]) ?_ hx.defers ⟨_,h,_,Y,Ends.erase (Ends.erase hw hc1) hc2,hp⟩;have r1:=run_loadCells_list (P:=P) w _ vs1 hc1';have r2:=run_loadCells_list (P:=P) w _ vs2 hc2';rw[hl1]at r1;rw[hl2]at r2;simp[results,hr,e1,e2,e3,e4,asAddr,loadVar,hag,hs.sizeOf,r1,r2]
end
end Go.Eng
namespace Go.Eng
open Go.RowKit
variable {P:Program} {f:FuncId} {args:Array Value} {h:Hp} {ms:List Hp} {post post':Value->Hp->List Hp->Prop}
theorem FnT.frz(k:FnT P f args h ms post)(hq:∀r h' ms',post r h' ms'->∃m q,ms'=m::q/\∀h2,h'.le h2->m.le h2->post' r h2 q):FnT P f args h ms post':=
  λw hw=>(k w hw).mono λ_ _ ⟨r,h',ms',e1,e2,e3⟩=>by obtain⟨m,q,rfl,hk⟩:=hq r h' ms' e3;exact⟨r,_,q,e1,Ends.freeze e2,hk _ (Hp.le_join _ _) (Hp.join_le_right (e2.st.off m List.mem_cons_self))⟩
theorem FnT.frz1(k:FnT P f args h ms post)(hq:∀r h' ms',post r h' ms'->∃a,ms'=[a]/\∀h2,h'.le h2->a.le h2->post' r h2 []):FnT P f args h ms post':=
  k.frz λr h' ms' e=>by obtain⟨a,rfl,hk⟩:=hq r h' ms' e;exact⟨a,[],Y,hk⟩
theorem FnT.frz3(k:FnT P f args h ms post)(hq:∀r h' ms',post r h' ms'->∃a b c,ms'=[a,b,c]/\∀h2,h'.le h2->a.le h2->b.le h2->c.le h2->post' r h2 []):FnT P f args h ms post':=by
  refine FnT.frz (post:=λr h' ms'=>∃c,ms'=[c]/\∀h2,h'.le h2->c.le h2->post' r h2 []) (FnT.frz (post:=λr h' ms'=>∃b c,ms'=[b,c]/\∀h2,h'.le h2->b.le h2->c.le h2->post' r h2 []) (k.frz λr h' ms' e=>?_) λr h' ms' e=>?_) λr h' ms' e=>?_
  · obtain⟨a,b,c,rfl,hk⟩:=hq r h' ms' e;exact⟨a,[b,c],Y,λh2 l1 l2=>⟨b,c,Y,λh3 l3 l4 l5=>hk h3 (Hp.le_trans l1 l3) (Hp.le_trans l2 l3) l4 l5⟩⟩
  · obtain⟨b,c,rfl,hk⟩:=e;exact⟨b,[c],Y,λh2 l1 l2=>⟨c,Y,λh3 l3 l4=>hk h3 (Hp.le_trans l1 l3) (Hp.le_trans l2 l3) l4⟩⟩
  · obtain⟨c,rfl,hk⟩:=e;exact⟨c,[],Y,hk⟩
end Go.Eng
namespace Go.Eng
open Go.RowKit
theorem Qs{s' s:AC}(h:Eng.Sub s' s:=by repeat (first|exact trivial|refine⟨rfl,?_⟩)):Eng.Sub s' s:=h
theorem Qt{f:Nat->Option (Nat×Nat)}{n:Nat}{vs:List (Nat×Value)}{ps:List (Nat×List Value)}(h:G2 f n vs ps:=by repeat (first|exact trivial|refine⟨⟨by rfl,rfl,rfl⟩,?_⟩)):G2 f n vs ps:=h
def dg(n:Nat)(o:Oper):Option Nat:=match o.dst,o.guard with
  | some d,none=>match Nat.blt d n with
    | true=>some d
    | false=>none
  | _,_=>none
theorem Kb{n d:Nat}{o:Oper}(h:dg n o=some d):o.dst=some d/\Nat.blt d n=true/\o.guard=none:=by
  unfold dg at h;split at h
  · rename_i d' h1 h2;split at h
    · rename_i h3;cases h;exact⟨h1,h3,h2⟩
    · cases h
  · cases h
def mv(s:AC)(o:Oper):Option Value:=match o.op with
  | .move x=>ev s x
  | .assign x=>ev s x
  | .nilCheck x=>match ev s x with
    | some (.pointer (some p))=>some (.pointer (some p))
    | _=>none
  | .extract x i=>match ev s x with
    | some (.tuple vs)=>vs[i]?
    | _=>none
  | .pick c x y=>match ev s c with
    | some (.bool true)=>ev s x
    | some (.bool false)=>ev s y
    | _=>none
  | .unOp .not _ x=>match ev s x with
    | some (.bool a)=>some (.bool (!a))
    | _=>none
  | .binOp b _ x y _=>match b,ev s x,ev s y with
    | .lss,some (.int k a),some (.int k' b)=>if k=k' then some (.bool (decide (a<b))) else none
    | .leq,some (.int k a),some (.int k' b)=>if k=k' then some (.bool (decide (a<=b))) else none
    | .gtr,some (.int k a),some (.int k' b)=>if k=k' then some (.bool (decide (b<a))) else none
    | .geq,some (.int k a),some (.int k' b)=>if k=k' then some (.bool (decide (b<=a))) else none
    | .eql,some (.int k a),some (.int k' b)=>if k=k' then some (.bool (decide (a=b))) else none
    | .neq,some (.int k a),some (.int k' b)=>if k=k' then some (.bool (decide (a≠b))) else none
    | _,_,_=>none
  | _=>none
theorem WO{P:Program}{s:AC}{h:Hp}{ms:List Hp}{o:Oper}{v:Value}(hv:mv s o=some v):OX P o s h ms v:=by
  unfold mv at hv;split at hv
  · rename_i h1;exact As h1 hv
  · rename_i h1;exact Gs h1 hv
  · rename_i h1;split at hv
    · rename_i h2;cases hv;exact PV h1 h2
    · cases hv
  · rename_i h1;split at hv
    · rename_i h2;exact Ct h1 h2 hv
    · cases hv
  · rename_i h1;split at hv
    · rename_i h2;exact CE h1 h2 hv
    · rename_i h2;exact B9 h1 h2 hv
    · cases hv
  · rename_i h1;split at hv
    · rename_i h2;cases hv;exact Eo h1 h2
    · cases hv
  · rename_i h1;split at hv<;>first|(split at hv<;>first|(rename_i h2 h3 h4;subst h4;cases hv;first|exact Dp h1 h2 h3|exact JH h1 h2 h3|exact Cf h1 h2 h3|exact Hd h1 h2 h3|exact CD h1 h2 h3|exact CI h1 h2 h3)|cases hv)|cases hv
  · cases hv
def gd(ops:Array Oper)(n:Nat)(s:AC)(o:Oper)(w:Bool):Option Nat:=match o.dst,o.guard with
  | some d,some (j,b)=>match Nat.blt d n,ops[j]? with
    | true,some oj=>match oj.dst with
      | some dj=>match lk s dj with
        | some (.bool b')=>match (b'==b)==w with
          | true=>some d
          | false=>none
        | _=>none
      | none=>none
    | _,_=>none
  | _,_=>none
theorem SA{ops:Array Oper}{n d:Nat}{s:AC}{o:Oper}{w:Bool}(h:gd ops n s o w=some d):∃j b oj dj b',o.dst=some d/\Nat.blt d n=true/\o.guard=some (j,b)/\ops[j]?=some oj/\oj.dst=some dj/\lk s dj=some (.bool b')/\(b'==b)=w:=by
  unfold gd at h;split at h
  · rename_i d' j b h1 h2;split at h
    · rename_i oj h3 h4;split at h
      · rename_i dj h5;split at h
        · rename_i b' h6;split at h
          · rename_i h7;cases h;exact⟨j,b,oj,dj,b',h1,h3,h2,h4,h5,h6,by simpa using h7⟩
          · cases h
        · cases h
      · cases h
    · cases h
  · cases h
section
variable {e:Entry} {Q:Exit->Act->World->Prop} {s:AC} {h h0:Hp} {ms:List Hp} {ops:Array Oper} {listed:Array Bool} {fuel:Nat} {o:Oper} {rest:List Oper} {v:Value} {d:Nat}
theorem Qx(hx:OX e.P o s h ms v)(hd:dg e.n o=some d)(k:WL e ops Q rest ((d,v)::s) h ms):WL e ops Q (o::rest) s h ms:=
  let ⟨h1,h2,h3⟩:=Kb hd
  AbU hx h1 h2 h3 k
def mvd(n:Nat)(s:AC)(o:Oper):Option (Nat×Value):=match dg n o,mv s o with
  | some d,some v=>some (d,v)
  | _,_=>none
theorem Qm(hm:mvd e.n s o=some (d,v))(k:WL e ops Q rest ((d,v)::s) h ms):WL e ops Q (o::rest) s h ms:=by
  obtain⟨hd,hv⟩:dg e.n o=some d/\mv s o=some v:=by
    unfold mvd at hm;split at hm
    · rename_i h1 h2;cases hm;exact⟨h1,h2⟩
    · cases hm
  exact Qx (WO hv) hd k
theorem Qk(hd:gd ops e.n s o false=some d)(k:WL e ops Q rest ((d,undef)::s) h ms):WL e ops Q (o::rest) s h ms:=
  let ⟨_,_,_,_,_,h1,h2,h3,h4,h5,h6,h7⟩:=SA hd
  ZF h1 h2 h3 h4 h5 h6 h7 k
theorem Qg(hx:OX e.P o s h ms v)(hd:gd ops e.n s o true=some d)(k:WL e ops Q rest ((d,v)::s) h ms):WL e ops Q (o::rest) s h ms:=
  let ⟨_,_,_,_,_,h1,h2,h3,h4,h5,h6,h7⟩:=SA hd
  Z0 hx h1 h2 h3 h4 h5 (by rw[h6];congr 2;simpa using h7) k
theorem Qw(k:WB e ops Q h fuel listed s h ms):WL e ops (QB e ops Q h fuel listed) [] s h ms:=Al (Z7 (Hp.le_refl _) k)
theorem Qa(k:WB e ops Q h0 fuel listed s h ms)(hl:h0.le h:=by assumption):WL e ops (QB e ops Q h0 fuel listed) [] s h ms:=Al (Z7 hl k)
theorem Qo(i:Nat)(ho:ops[i]?=some o)(k:WL e ops (QB e ops Q h0 fuel (listed.setIfInBounds i true)) [o] s h ms)(hr:Region.ready .any ops listed=[i]:=by kernel_rfl):WB e ops Q h0 (fuel+1) listed s h ms:=Ba [i] hr rfl (AD ho k Bb)
theorem Qe(k:NX e Q .normal s h ms)(hr:Region.ready .any ops listed=[]:=by kernel_rfl):WB e ops Q h0 fuel listed s h ms:=AaP hr k
theorem Am{y:Code}(k:WS e y Q s h ms):WL e ops (Exit.then (λa w=>y.wp e.P Q a w) Q) [] s h ms:=Al (Ab k)
theorem Ap{id:Nat}{l:List Oper}{y:Code}(k:WL e l.toArray (Exit.then (λa w=>y.wp e.P Q a w) Q) l s h ms):WS e (.seq (.region id l.toArray false) y) Q s h ms:=Ac (Ad k)
theorem BE{id:Nat}{l:List Oper}{y:Code}(k:WL e l.toArray (Exit.then (λa w=>y.wp e.P Q a w) Q) l s h ms):WL e ops (Exit.then (λa w=>(Code.seq (.region id l.toArray false) y).wp e.P Q a w) Q) [] s h ms:=Al (Ab (Ac (Ad k)))
theorem Gu{id:Nat}{l:List Oper}(k:WL e l.toArray Q l s h ms):WL e ops (Exit.then (λa w=>(Code.region id l.toArray false).wp e.P Q a w) Q) [] s h ms:=Al (Ab (Ad k))
theorem Cx{t:TypeId}{sz:Nat}{z:Value}{bytes:Nat}(zl:List Value)(ho:o.op=.alloc t)(hs:Elem e.P t sz z bytes)(hz:z.cells=zl.toArray)(hd:dg e.n o=some d)(k:∀g,WL e ops Q rest ((d,.pointer (some ⟨g,0,none⟩))::s) h (A8 g t zl::ms)):WL e ops Q (o::rest) s h ms:=
  let ⟨h1,h2,h3⟩:=Kb hd
  Wh zl ho hs hz h1 h2 h3 k
end
def pzo(l:List Oper)(n:Nat)(zs:AC)(i:Nat):Option (Oper×Nat):=match l[i]? with
  | some o=>match dg n o with
    | some d=>match lk zs d with
      | none=>some (o,d)
      | some _=>none
    | none=>none
  | none=>none
theorem Qp{P:Program}{l:List Oper}{n:Nat}{s z:AC}{h0:Hp}{K:AC->Prop}{r:List Nat}{i d:Nat}{o:Oper}{v:Value}(ho:pzo l n (z++s) i=some (o,d))(hx:OX P o (z++s) h0 [] v)(k:FS P l n s h0 K r ((d,v)::z)):FS P l n s h0 K (i::r) z:=by
  unfold pzo at ho;split at ho
  · rename_i o' h1;split at ho
    · rename_i d' h2;split at ho
      · rename_i h3;cases ho;obtain⟨h4,h5,_⟩:=Kb h2;exact AbR h1 h4 h5 h3 hx k
      · cases ho
    · cases ho
  · cases ho
def pzm(l:List Oper)(n:Nat)(zs:AC)(i:Nat):Option (Nat×Value):=match pzo l n zs i with
  | some (o,d)=>match mv zs o with
    | some v=>some (d,v)
    | none=>none
  | none=>none
def ldv(s:AC)(o:Oper):Option (TypeId×Addr):=match o.op with
  | .load t x=>match ev s x with
    | some (.pointer (some p))=>some (t,p)
    | _=>none
  | _=>none
theorem OI{s:AC}{o:Oper}{t:TypeId}{p:Addr}(h:ldv s o=some (t,p)):∃x,o.op=.load t x/\ev s x=some (.pointer (some p)):=by
  unfold ldv at h;split at h
  · rename_i t' x h1;split at h
    · rename_i h2;cases h;exact⟨x,h1,h2⟩
    · cases h
  · cases h
def fav(s:AC)(o:Oper):Option (TypeId×Nat×Addr):=match o.op with
  | .fieldAddr t x i=>match ev s x with
    | some (.pointer (some p))=>some (t,i,p)
    | _=>none
  | _=>none
theorem VA{s:AC}{o:Oper}{t:TypeId}{i:Nat}{p:Addr}(h:fav s o=some (t,i,p)):∃x,o.op=.fieldAddr t x i/\ev s x=some (.pointer (some p)):=by
  unfold fav at h;split at h
  · rename_i t' x i' h1;split at h
    · rename_i h2;cases h;exact⟨x,h1,h2⟩
    · cases h
  · cases h
def wd(o:Oper):Option Nat:=match o.dst,o.guard with
  | some d,none=>some d
  | _,_=>none
theorem N8{o:Oper}{d:Nat}(h:wd o=some d):o.dst=some d/\o.guard=none:=by
  unfold wd at h;split at h
  · rename_i h1 h2;cases h;exact⟨h1,h2⟩
  · cases h
section
variable {P:Program} {l:List Oper} {n:Nat} {s z:AC} {h h0:Hp} {ms:List Hp} {K:AC->Prop} {r:List Nat} {i d:Nat} {o:Oper} {v:Value} {t:TypeId} {p:Addr} {D:TypeDesc}
theorem Qq(hm:pzm l n (z++s) i=some (d,v))(k:FS P l n s h0 K r ((d,v)::z)):FS P l n s h0 K (i::r) z:=by
  unfold pzm at hm;split at hm
  · rename_i h1;split at hm
    · rename_i h2;cases hm;exact Qp h1 (WO h2) k
    · cases hm
  · cases hm
def ad2{α:Type}(a:Option (Oper×Nat))(f:Oper->Option α):Option (α×Nat):=match a with
  | some (o,d)=>match f o with
    | some x=>some (x,d)
    | none=>none
  | none=>none
theorem PT{α:Type}{a:Option (Oper×Nat)}{f:Oper->Option α}{x:α}{d:Nat}(h:ad2 a f=some (x,d)):∃o,a=some (o,d)/\f o=some x:=by
  unfold ad2 at h;split at h
  · rename_i o' d';split at h
    · rename_i h2;cases h;exact⟨_,Y,h2⟩
    · cases h
  · cases h
theorem oL(hm:ldv s o=some (t,p))(ht:P.underlying t=some D)(hc:Cell h ms p v)(ha:Ia D=false:=by rfl):OX P o s h ms v:=
  let ⟨_,h1,h2⟩:=OI hm
  X3 h1 ht ha h2 hc
theorem oG{z:Value}{sz bytes:Nat}{vs:List Value}(hm:ldv s o=some (t,p))(ht:P.underlying t=some D)(hs:Elem P t sz z bytes)(hc:Seg h ms p vs)(ha:Ia D=true:=by rfl)(hl:vs.length=sz:=by rfl):OX P o s h ms (.agg vs.toArray):=
  let ⟨_,h1,h2⟩:=OI hm
  Xz h1 ht ha hs hl h2 hc
theorem oF{j off:Nat}(F:EO P t j off)(hm:fav s o=some (t,j,p)):OX P o s h ms (.pointer (some (p.add off))):=
  let ⟨_,h1,h2⟩:=VA hm
  Tq F h1 h2
theorem QL(hm:ad2 (pzo l n (z++s) i) (ldv (z++s))=some ((t,p),d))(ht:P.underlying t=some D)(hc:Cell h0 [] p v)(k:FS P l n s h0 K r ((d,v)::z))(ha:Ia D=false:=by rfl):FS P l n s h0 K (i::r) z:=
  let ⟨_,h1,h2⟩:=PT hm
  Qp h1 (oL h2 ht hc ha) k
theorem QF{j off:Nat}(F:EO P t j off)(hm:ad2 (pzo l n (z++s) i) (fav (z++s))=some ((t,j,p),d))(k:FS P l n s h0 K r ((d,.pointer (some (p.add off)))::z)):FS P l n s h0 K (i::r) z:=
  let ⟨_,h1,h2⟩:=PT hm
  Qp h1 (oF F h2) k
end
def bn(s:AC)(o:Oper):Option (BinOp×Int×Int):=match o.op with
  | .binOp b _ x y _=>match ev s x,ev s y with
    | some (.w a),some (.w c)=>some (b,a,c)
    | _,_=>none
  | _=>none
theorem NZ{s:AC}{o:Oper}{b:BinOp}{a c:Int}(h:bn s o=some (b,a,c)):∃t x y u,o.op=.binOp b t x y u/\ev s x=some (.int .i64 a)/\ev s y=some (.int .i64 c):=by
  unfold bn at h;split at h
  · rename_i b' t x y u h1;split at h
    · rename_i h2 h3;cases h;exact⟨t,x,y,u,h1,h2,h3⟩
    · cases h
  · cases h
section
variable {P:Program} {s:AC} {h:Hp} {ms:List Hp} {o:Oper} {a b:Int}
theorem oA(hm:bn s o=some (.add,a,b))(hr:-9223372036854775808<=a+b/\a+b<=9223372036854775807:=by omega):OX P o s h ms (.int .i64 (a+b)):=
  let ⟨_,_,_,_,h1,h2,h3⟩:=NZ hm
  Aal h1 h2 h3 hr
theorem oS(hm:bn s o=some (.sub,a,b))(hr:-9223372036854775808<=a-b/\a-b<=9223372036854775807:=by omega):OX P o s h ms (.int .i64 (a-b)):=
  let ⟨_,_,_,_,h1,h2,h3⟩:=NZ hm
  AaK h1 h2 h3 hr
theorem oM(hm:bn s o=some (.mul,a,b))(hr:-9223372036854775808<=a*b/\a*b<=9223372036854775807:=by omega):OX P o s h ms (.int .i64 (a*b)):=
  let ⟨_,_,_,_,h1,h2,h3⟩:=NZ hm
  Aav h1 h2 h3 hr
end
def stv(s:AC)(o:Oper):Option (TypeId×Addr×Value):=match o.op,o.dst,o.guard with
  | .store t x y,none,none=>match ev s x,ev s y with
    | some (.pointer (some p)),some v=>some (t,p,v)
    | _,_=>none
  | _,_,_=>none
theorem Wb{s:AC}{o:Oper}{t:TypeId}{p:Addr}{v:Value}(h:stv s o=some (t,p,v)):∃x y,o.op=.store t x y/\ev s x=some (.pointer (some p))/\ev s y=some v/\o.dst=none/\o.guard=none:=by
  unfold stv at h;split at h
  · rename_i t' x y h1 h2 h3;split at h
    · rename_i h4 h5;cases h;exact⟨x,y,h1,h4,h5,h2,h3⟩
    · cases h
  · cases h
def cav(s:AC)(o:Oper):Option (FuncId×List Value):=match o.op with
  | .call c=>match c.callee,Qv s c.args.toList with
    | .value (.func f),some vs=>some (f,vs)
    | _,_=>none
  | _=>none
theorem VN{s:AC}{o:Oper}{f:FuncId}{vs:List Value}(h:cav s o=some (f,vs)):∃l ts,o.op=.call { callee:=.value (.func f),args:=List.toArray l,argTypes:=ts }/\Qv s l=some vs:=by
  unfold cav at h;split at h
  · rename_i c h1;split at h
    · rename_i f' vs' h2 h3;cases h;obtain⟨ce,az,ts⟩:=c;simp only at h2 h3;subst h2;exact⟨az.toList,ts,by rw[h1,Array.toArray_toList],h3⟩
    · cases h
  · cases h
section
variable {e:Entry} {Q:Exit->Act->World->Prop} {s:AC} {h:Hp} {ms:List Hp} {ops:Array Oper} {o:Oper} {rest l:List Oper} {v:Value} {d:Nat} {t:TypeId} {p:Addr} {D:TypeDesc}
theorem Ql(hm:(ldv s o,dg e.n o)=(some (t,p),some d))(ht:e.P.underlying t=some D)(hc:Cell h ms p v)(k:WL e ops Q rest ((d,v)::s) h ms)(ha:Ia D=false:=by rfl):WL e ops Q (o::rest) s h ms:=
  let ⟨h1,h2⟩:=Prod.mk.inj hm
  Qx (oL h1 ht hc ha) h2 k
theorem Qf{j off:Nat}(F:EO e.P t j off)(hm:(fav s o,dg e.n o)=(some (t,j,p),some d))(k:WL e ops Q rest ((d,.pointer (some (p.add off)))::s) h ms):WL e ops Q (o::rest) s h ms:=
  let ⟨h1,h2⟩:=Prod.mk.inj hm
  Qx (oF F h1) h2 k
theorem Sa{el:TypeId}{z:Value}{sz bytes g:Nat}{l:List Value}(i:Nat)(vl:List Value)(hs:Elem e.P t sz z bytes)(hm:(stv s o,v.cells,ms[i]?,vl.length,l.length)=(some (t,⟨g,0,none⟩,v),vl.toArray,some (A8 g el l),sz,sz))(h1:∀u∈vl,u.oneCell'=true)(K:WL e ops Q rest s h (ms.set i (A8 g el vl))):WL e ops Q (o::rest) s h ms:=by simp only[Prod.mk.injEq]at hm;obtain⟨q1,q2,q3,q4,q5⟩:=hm;obtain⟨x,y,r1,r2,r3,r4,r5⟩:=Wb q1;exact PR i vl r1 hs r2 r3 q2 h1 q3 q4 q5 r4 r5 K
theorem Qc{f:FuncId}{vs:List Value}{post:Value->Hp->List Hp->Prop}(hc:∀az w,(callFunc f az).run e.P w=.ok (.enter f az) w)(hm:(cav s o,dg e.n o)=(some (f,vs),some d))(k:FnT e.P f vs.toArray h [] post)(K:∀v h' pre',h.le h'->post v h' pre'->WL e ops Q rest ((d,v)::s) h' (pre'++ms)):WL e ops Q (o::rest) s h ms:=by obtain⟨h1,h2⟩:=Prod.mk.inj hm;obtain⟨l,ts,h3,h4⟩:=VN h1;obtain⟨h5,h6,h7⟩:=Kb h2;exact Y4 h3 hc h4 k h5 h6 h7 K
variable {tl:List Oper} {q:List (Nat×VP)} {al:List (Nat×Nb)}
theorem Wm(hm:(wd o,mv s o)=(some d,some v))(k:WR e ops Q tl h ms l ((d,v)::s) q al):WR e ops Q tl h ms (o::l) s q al:=
  let ⟨h1,h2⟩:=Prod.mk.inj hm
  let ⟨h3,h4⟩:=N8 h1
  AL (WO h2) h3 h4 k
theorem Wf{j off:Nat}(F:EO e.P t j off)(hm:(wd o,fav s o)=(some d,some (t,j,p)))(k:WR e ops Q tl h ms l ((d,.pointer (some (p.add off)))::s) q al):WR e ops Q tl h ms (o::l) s q al:=
  let ⟨h1,h2⟩:=Prod.mk.inj hm
  let ⟨h3,h4⟩:=N8 h1
  AL (oF F h2) h3 h4 k
theorem Wl(hm:(wd o,ldv s o)=(some d,some (t,p)))(ht:e.P.underlying t=some D)(hc:Cell h ms p v)(k:WR e ops Q tl h ms l ((d,v)::s) q al)(ha:Ia D=false:=by rfl):WR e ops Q tl h ms (o::l) s q al:=
  let ⟨h1,h2⟩:=Prod.mk.inj hm
  let ⟨h3,h4⟩:=N8 h1
  AL (oL h2 ht hc ha) h3 h4 k
end
theorem OwnL.o1{α:Type _}{F:α->List Value}{sz:Nat}{el:TypeId}{m:Hp}{v:Value}{l:List α}(O:OwnL F sz el m v l):v.oneCell'=true:=(O.rd (h:=Hp.emp) (ms:=[m]) (List.Mem.head _)).rd.one
theorem BG{P:Program}{s:AC}{h:Hp}{ms:List Hp}{o:Oper}{v:Value}{sz n:Nat}{cs:List Value}{t el:TypeId}{x y:Operand}{z:Value}{bytes:Nat}{k:IntKind}{i:Int}(j:Nat)(R:Rd h ms v sz n cs)(ho:o.op=.indexAddr t x y)(ht:P.underlying t=some (.slice el))(hs:Elem P el sz z bytes)(hx:ev s x=some v)(hy:ev s y=some (.int k i))(hi:i=(j:Int):=by omega)(hlt:j<n:=by omega):OX P o s h ms (.pointer (some ((AF v).add (j*sz)))):=Az j R ho ht hs hx hy hi hlt
theorem AI{a b c:Hp}(x:a.le b)(y:b.le c):a.le c:=Hp.le_trans x y
theorem Dv{a:Hp}:a.le a:=Hp.le_refl a
theorem Mh{α:Type _}{a:α}{l:List α}:a∈a::l:=List.Mem.head _
end Go.Eng
namespace Go.Proofs.Q
open Go.Proofs.Tryz
open Go.Eng
theorem CT:prog.follows .mixedOrders=true:=by kernel_rfl
theorem A3:Elem prog 3 1 (.int .i64 0) 8:=Elem.of κ
theorem XX:Elem prog 4 1 (.bool false) 1:=Elem.of κ
theorem el5:Elem prog 5 1 (.int .u8 0) 1:=Elem.of κ
theorem Cz:Elem prog 22 1 (.slice none 0 0) 24:=Elem.of κ
theorem Aam:Elem prog 23 1 (.slice none 0 0) 24:=Elem.of κ
theorem Acb:Elem prog 25 4 (.agg #[.int .u8 0,.slice none 0 0,.slice none 0 0,.int .u8 0]) 64:=Elem.of κ
theorem J8:Elem prog 27 1 (.slice none 0 0) 24:=Elem.of κ
theorem A0:Elem prog 29 1 (.agg #[.slice none 0 0]) 24:=Elem.of κ
theorem F6:Elem prog 43 6 (.agg #[.int .i64 0,.int .i64 0,.int .i64 0,.bool false,.int .i64 0,.int .i64 0]) 48:=Elem.of κ
theorem YN:Elem prog 45 1 (.map none) 8:=Elem.of κ
theorem Ff:Elem prog 47 2 (.agg #[.int .i64 0,.int .i64 0]) 16:=Elem.of κ
theorem AbL:Elem prog 49 1 (.map none) 8:=Elem.of κ
theorem TM:Elem prog 50 1 (.slice none 0 0) 24:=Elem.of κ
theorem AH:Elem prog 52 3 (.agg #[.int .i64 0,.int .i64 0,.slice none 0 0]) 40:=Elem.of κ
theorem A7:Elem prog 65 4 (.agg #[.int .i64 0,.int .i64 0,.int .i64 0,.slice none 0 0]) 48:=Elem.of κ
theorem Abx:Elem prog 81 1 (.slice none 0 0) 24:=Elem.of κ
theorem Abm:Elem prog 97 1 (.pointer none) 8:=Elem.of κ
theorem Ei:Elem prog 106 3 (.agg #[.int .i64 0,.int .i64 0,.slice none 0 0]) 40:=Elem.of κ
theorem AbY:Elem prog 115 2 (.agg #[.map none,.slice none 0 0]) 32:=Elem.of κ
theorem AO:Elem prog 119 2 (.agg #[.int .i64 0,.int .i64 0]) 16:=Elem.of κ
theorem AbO:Elem prog 130 405 (.agg (([.int .i64 0,.slice none 0 0,.map none,.slice none 0 0,.slice none 0 0]:List Value)++replicate 400 (Value.int .i64 0)).toArray) 3288:=Elem.of κ
theorem Z2:Elem prog 165 1 (.nilFunc) 8:=Elem.of κ
theorem CG:Elem prog 172 2 (.agg #[.bool false,.string ByteArray.empty]) 24:=Elem.of κ
theorem Z6:Elem prog 188 1 (.map none) 8:=Elem.of κ
theorem Cw:Elem prog 222 1 (.int .u64 0) 8:=Elem.of κ
theorem AbG:Elem prog 255 1002 (.agg (([.int .i64 0,.int .i64 0,.int .i64 0,.slice none 0 0]:List Value)++replicate 998 (Value.int .i64 0)).toArray) 8032:=Elem.of κ
theorem Z1:Elem prog 260 3 (.agg #[.slice none 0 0,.int .i64 0,.int .i64 0]) 40:=Elem.of κ
theorem Aaz:Gr prog 29 #[(0,1)]:=⟨_,underlying29,λw=>by kernel_rfl⟩
theorem Zi:Gr prog 43 #[(0,1),(1,1),(2,1),(3,1),(4,1),(5,1)]:=⟨_,underlying43,λw=>by kernel_rfl⟩
theorem Wd:Gr prog 47 #[(0,1),(1,1)]:=⟨_,underlying47,λw=>by kernel_rfl⟩
theorem U6:Gr prog 52 #[(0,1),(1,1),(2,1)]:=⟨_,underlying52,λw=>by kernel_rfl⟩
theorem Rv:Gr prog 65 #[(0,1),(1,1),(2,1),(3,1)]:=⟨_,underlying65,λw=>by kernel_rfl⟩
theorem AbX:Gr prog 106 #[(0,1),(1,1),(2,1)]:=⟨_,underlying106,λw=>by kernel_rfl⟩
theorem Abh:Gr prog 115 #[(0,1),(1,1)]:=⟨_,underlying115,λw=>by kernel_rfl⟩
theorem V3:Gr prog 119 #[(0,1),(1,1)]:=⟨_,underlying119,λw=>by kernel_rfl⟩
theorem Abp:Gr prog 130 #[(0,1),(1,1),(2,1),(3,1),(4,1),(5,400)]:=⟨_,underlying130,λw=>by kernel_rfl⟩
theorem Z5:Gr prog 172 #[(0,1),(1,1)]:=⟨_,underlying172,λw=>by kernel_rfl⟩
theorem AbJ:Gr prog 255 #[(0,4),(4,998)]:=⟨_,underlying255,λw=>by kernel_rfl⟩
theorem ZY:Gr prog 260 #[(0,1),(1,1),(2,1)]:=⟨_,underlying260,λw=>by kernel_rfl⟩
theorem WW:EO prog 25 0 0:=⟨_,_,_,underlying25,rfl,rfl,sizeOf5⟩
theorem UV:EO prog 25 1 1:=⟨_,_,_,underlying25,rfl,rfl,sizeOf22⟩
theorem XW:EO prog 25 2 2:=⟨_,_,_,underlying25,rfl,rfl,sizeOf23⟩
theorem We:EO prog 25 3 3:=⟨_,_,_,underlying25,rfl,rfl,sizeOf5⟩
theorem Cc:EO prog 29 0 0:=⟨_,_,_,underlying29,rfl,rfl,sizeOf27⟩
theorem Aar:EO prog 43 1 1:=⟨_,_,_,underlying43,rfl,rfl,sizeOf3⟩
theorem Wq:EO prog 43 2 2:=⟨_,_,_,underlying43,rfl,rfl,sizeOf3⟩
theorem Ry:EO prog 43 3 3:=⟨_,_,_,underlying43,rfl,rfl,sizeOf4⟩
theorem V0:EO prog 43 5 5:=⟨_,_,_,underlying43,rfl,rfl,sizeOf3⟩
theorem FB:EO prog 47 0 0:=⟨_,_,_,underlying47,rfl,rfl,sizeOf3⟩
theorem RD:EO prog 47 1 1:=⟨_,_,_,underlying47,rfl,rfl,sizeOf3⟩
theorem Bn:EO prog 52 0 0:=⟨_,_,_,underlying52,rfl,rfl,sizeOf3⟩
theorem BT:EO prog 52 1 1:=⟨_,_,_,underlying52,rfl,rfl,sizeOf3⟩
theorem BA:EO prog 52 2 2:=⟨_,_,_,underlying52,rfl,rfl,sizeOf50⟩
theorem CW:EO prog 65 0 0:=⟨_,_,_,underlying65,rfl,rfl,sizeOf3⟩
theorem Dg:EO prog 65 1 1:=⟨_,_,_,underlying65,rfl,rfl,sizeOf3⟩
theorem B6:EO prog 65 2 2:=⟨_,_,_,underlying65,rfl,rfl,sizeOf3⟩
theorem BH:EO prog 65 3 3:=⟨_,_,_,underlying65,rfl,rfl,sizeOf22⟩
theorem Zr:EO prog 106 0 0:=⟨_,_,_,underlying106,rfl,rfl,sizeOf3⟩
theorem Yl:EO prog 106 1 1:=⟨_,_,_,underlying106,rfl,rfl,sizeOf3⟩
theorem Kj:EO prog 106 2 2:=⟨_,_,_,underlying106,rfl,rfl,sizeOf104⟩
theorem Fo:EO prog 115 0 0:=⟨_,_,_,underlying115,rfl,rfl,sizeOf113⟩
theorem M1:EO prog 115 1 1:=⟨_,_,_,underlying115,rfl,rfl,sizeOf22⟩
theorem B4:EO prog 119 0 0:=⟨_,_,_,underlying119,rfl,rfl,sizeOf3⟩
theorem Dh:EO prog 119 1 1:=⟨_,_,_,underlying119,rfl,rfl,sizeOf3⟩
theorem HI:EO prog 130 0 0:=⟨_,_,_,underlying130,rfl,rfl,sizeOf3⟩
theorem Fq:EO prog 130 1 1:=⟨_,_,_,underlying130,rfl,rfl,sizeOf27⟩
theorem Km:EO prog 130 2 2:=⟨_,_,_,underlying130,rfl,rfl,sizeOf45⟩
theorem ER:EO prog 130 3 3:=⟨_,_,_,underlying130,rfl,rfl,sizeOf81⟩
theorem Ji:EO prog 130 4 4:=⟨_,_,_,underlying130,rfl,rfl,sizeOf81⟩
theorem Sg:EO prog 130 5 5:=⟨_,_,_,underlying130,rfl,rfl,sizeOf128⟩
theorem Kd:EO prog 172 0 0:=⟨_,_,_,underlying172,rfl,rfl,sizeOf4⟩
theorem HH:EO prog 172 1 1:=⟨_,_,_,underlying172,rfl,rfl,sizeOf9⟩
theorem FO:EO prog 255 0 0:=⟨_,_,_,underlying255,rfl,rfl,sizeOf65⟩
theorem Nx:EO prog 255 1 4:=⟨_,_,_,underlying255,rfl,rfl,sizeOf253⟩
theorem Zm:EO prog 260 0 0:=⟨_,_,_,underlying260,rfl,rfl,sizeOf22⟩
theorem SB:EO prog 260 1 1:=⟨_,_,_,underlying260,rfl,rfl,sizeOf3⟩
theorem Sc:EO prog 260 2 2:=⟨_,_,_,underlying260,rfl,rfl,sizeOf3⟩
theorem U3:type_of% @Tryz.underlying3:=@Tryz.underlying3
theorem U4:type_of% @Tryz.underlying4:=@Tryz.underlying4
theorem U5:type_of% @Tryz.underlying5:=@Tryz.underlying5
theorem U9:type_of% @Tryz.underlying9:=@Tryz.underlying9
theorem AP:type_of% @Tryz.underlying22:=@Tryz.underlying22
theorem WG:type_of% @Tryz.underlying23:=@Tryz.underlying23
theorem U25:type_of% @Tryz.underlying25:=@Tryz.underlying25
theorem Bi:type_of% @Tryz.underlying27:=@Tryz.underlying27
theorem CN:type_of% @Tryz.underlying29:=@Tryz.underlying29
theorem Oi:type_of% @Tryz.underlying31:=@Tryz.underlying31
theorem QE:type_of% @Tryz.underlying33:=@Tryz.underlying33
theorem U43:type_of% @Tryz.underlying43:=@Tryz.underlying43
theorem L5:type_of% @Tryz.underlying45:=@Tryz.underlying45
theorem U47:type_of% @Tryz.underlying47:=@Tryz.underlying47
theorem W0:type_of% @Tryz.underlying49:=@Tryz.underlying49
theorem BZ:type_of% @Tryz.underlying50:=@Tryz.underlying50
theorem Ef:type_of% @Tryz.underlying52:=@Tryz.underlying52
theorem D8:type_of% @Tryz.underlying65:=@Tryz.underlying65
theorem Ck:type_of% @Tryz.underlying81:=@Tryz.underlying81
theorem UM:type_of% @Tryz.underlying97:=@Tryz.underlying97
theorem L9:type_of% @Tryz.underlying104:=@Tryz.underlying104
theorem Pv:type_of% @Tryz.underlying106:=@Tryz.underlying106
theorem GX:type_of% @Tryz.underlying113:=@Tryz.underlying113
theorem D4:type_of% @Tryz.underlying119:=@Tryz.underlying119
theorem Abo:type_of% @Tryz.underlying128:=@Tryz.underlying128
theorem QI:type_of% @Tryz.underlying160:=@Tryz.underlying160
theorem AbN:type_of% @Tryz.underlying165:=@Tryz.underlying165
theorem Ky:type_of% @Tryz.underlying172:=@Tryz.underlying172
theorem AbF:type_of% @Tryz.underlying182:=@Tryz.underlying182
theorem AbW:type_of% @Tryz.underlying184:=@Tryz.underlying184
theorem GB:type_of% @Tryz.underlying188:=@Tryz.underlying188
theorem FY:type_of% @Tryz.underlying222:=@Tryz.underlying222
theorem HM:type_of% @Tryz.underlying223:=@Tryz.underlying223
theorem B5:type_of% @Tryz.underlying225:=@Tryz.underlying225
theorem Aan:type_of% @Tryz.underlying253:=@Tryz.underlying253
end Go.Proofs.Q

namespace Go.Proofs.Q
open Go.Eng Go.RowKit
def BS(n:Int):Prop:=-9223372036854775808<=n/\n<=9223372036854775807
instance (n:Int):Decidable (BS n):=by unfold BS;infer_instance
theorem DZ{P:Program}{f:FuncId}{args:Array Value}{h:Hp}{v:Value}(k:FnT P f args h [] (λr _ _=>r=v))(ms:List Hp):FnV P f args h ms v:=by refine λw hw=>(?_:FnV _ _ _ h [] _) w (hw.weaken (Dv) (List.nil_sublist _));exact FnT.toV k
theorem CK{a b:Nat}(h:(a:Int)<b):a<b:=ω
open Go.Proofs.Tryz
def cD(s:Int×Int):List Value:=[.int .i64 s.1,.int .i64 s.2]
theorem EJ:∀s,(cD s).length=2:=λ_=>rfl
theorem GH:∀a,∀c∈cD a,c.oneCell'=true:=λa c hc=>by simp only[cD,mem_cons,not_mem_nil,or_false]at hc;rcases hc with rfl|rfl<;>rfl
structure Cl where
 id:Int
 dim:Int
 sd:List (Int×Int)
 deriving DecidableEq,Inhabited
structure Ce where
 c:Cl
 v:Value
instance:Inhabited Ce:=⟨⟨default,.slice none 0 0⟩⟩
def cC(a:Ce):List Value:=[.int .i64 a.c.id,.int .i64 a.c.dim,a.v]
theorem CC:∀a,(cC a).length=3:=λ_=>rfl
structure RdC(h:Hp)(v:Value)(l:List Ce):Prop where
 q:RdL cC 3 h [] v l
 s:∀a∈l,RdL cD 2 h [] a.v a.c.sd
theorem RdC.up{h h':Hp}{v:Value}{l:List Ce}(R:RdC h v l)(hl:h.le h'):RdC h' v l:=⟨R.q.up hl,λa ha=>(R.s a ha).up hl⟩
theorem Dq{h:Hp}{l:List Ce}(H:∀a∈l,RdL cD 2 h [] a.v a.c.sd):∀a∈l,∀c∈cC a,c.oneCell'=true:=λa ha c hc=>by
 simp only[cC,mem_cons,not_mem_nil,or_false]at hc;rcases hc with rfl|rfl|rfl
 ·rfl
 ·rfl
 ·exact(H a ha).rd.one
def H3(x:Int×Int)(l:List (Int×Int)):List (Int×Int):=l.takeWhile (λy=>decide (y.1<=x.1))++x::l.dropWhile (λy=>decide (y.1<=x.1))
def CU(l:List (Int×Int)):List (Int×Int):=l.foldl (λacc x=>H3 x acc) []
theorem EA{α:Type}(p:α->Bool):∀(l:List α) (k:Nat),k<=l.length->(∀j (hj:j<l.length),j<k->p l[j]=true)->(∀hk:k<l.length,p l[k]=false)->l.takeWhile p=l.take k/\l.dropWhile p=l.drop k
 | [],k,hk,_,_=>by simp
 | a::l,0,_,_,h=>by have:=h (by simp);simp only[List.getElem_cons_zero]at this;simp[List.takeWhile,List.dropWhile,this]
 | a::l,k+1,hk,h1,h2=>by
  have h3:p a=true:=h1 0 (by simp) ω
  have ih:=EA p l k (by simpa using hk) (λj hj hjk=>by
   have:=h1 (j+1) (by simpa using hj) ω
   simpa using this) (λhk=>by
   have:=h2 (by simpa using hk)
   simpa using this)
  simp[List.takeWhile,List.dropWhile,h3,ih.1,ih.2]
theorem SH{x:Int×Int}{l:List (Int×Int)}{k:Nat}(hk:k<=l.length)(h1:∀j (hj:j<l.length),j<k->l[j].1<=x.1)(h2:∀hk:k<l.length,¬l[k].1<=x.1):H3 x l=l.take k++x::l.drop k:=by obtain⟨e1,e2⟩:=EA (λy=>decide (y.1<=x.1)) l k hk (λj hj hjk=>ag (h1 j hj hjk)) (λhk=>ah (h2 hk));unfold H3;rw[e1,e2]
theorem V9(x:Int×Int)(l:List (Int×Int)):(H3 x l).length=l.length+1:=by unfold H3;have:=bf List.length (List.takeWhile_append_dropWhile (p:=λy:Int×Int=>decide (y.1<=x.1)) (l:=l));rw[ad]at this;rw[ad,df];omega
theorem OP(l:List (Int×Int))(x:Int×Int):CU (l++[x])=H3 x (CU l):=by unfold CU;rw[List.foldl_append];rfl
theorem GC(l:List (Int×Int)):(CU l).length=l.length:=by
 have go:∀(l acc:List (Int×Int)),(l.foldl (λacc x=>H3 x acc) acc).length=acc.length+l.length:=λl=>by
  induction l with
  | nil=>intro acc;rfl
  | cons x l ih=>intro acc;rw[List.foldl_cons,ih,V9,df];omega
 have:=go l [];rw[length_nil,Nat.zero_add]at this;exact this
theorem Ht(a b:Int)(ha:BS a)(hb:1<=b/\b<=1000000)(h:Hp)(ms:List Hp):FnV Tryz.prog 34 #[.int .i64 a,.int .i64 b] h ms (.int .i64 (a%b)):=by
 refine DZ ?_ ms;have ha1:=ha.1;have ha2:=ha.2;have h1:a.tmod b<b:=by have:=Int.tmod_lt_of_pos a (show 0<b by omega);omega
 have h2:-b<a.tmod b:=by have:=Int.lt_tmod_of_pos a (show 0<b by omega);omega
 have h3:(a.tmod b+b)%b=a%b:=by rw[Int.add_emod_right,Int.tmod_def,Int.sub_mul_emod_self_left]
 refine Ao func34 ntmps34 Y Y (λw0 hw0=>?_);simp only[AX];refine Ap (Qm Y (BE (Qm Y (Qm Y (Qx (Xp Y Y Y ω) Y (Qm Y (Qx (oA Y) Y (Qm Y (Qx (BJ Y Y Y ω ω) Y (Qm Y (Am (An ?_))))))))))));exact Au Y Y (by rw[h3])
theorem EY{α:Type}{F:α->List Value}{sz:Nat}{el:TypeId}(g:Nat)(hF:∀x,(F x).length=sz):OwnL F sz el (A8 g el []) (.slice (some ⟨g,0,none⟩) 0 0) ([]:List α):=OwnL.blk (l:=[]) 0 hF rfl (by decide)
theorem O9(l:List (Int×Int))(v:Value)(h:Hp)(hl:l.length<=100000)(hR:RdL cD 2 h [] v l):FnT Tryz.prog 170 #[v] h [] (λr h' ms'=>h=h'/\∃m,ms'=[m]/\OwnL cD 2 119 m r (CU l)):=by
 have o1:=hR.rd.one;refine Ao func170 ntmps170 Y Y (λw0 hw0=>?_);simp only[AX];refine Ap (Qm Y (BE (Qm Y (Am (Ac (Ap (Qm Y (Am (Ag (BI ?_))))))))))
 refine Ax (λq s h' ms'=>∃(i:Nat) (vo:Value) (mo:Hp),q=l.length-i/\s=[(0,v),(3,vo),(4,.w i)]/\h=h'/\ms'=[mo]/\i<=l.length/\OwnL cD 2 119 mo vo (CU (l.take i)))
  (l.length-0) _ ⟨0,_,_,rfl,rfl,rfl,rfl,ω,OwnL.nil EJ⟩ Qs ?_
 rintro q s h' ms' ⟨i,vo,mo,rfl,rfl,rfl,rfl,hi,hO⟩;have hsl:=GC (l.take i);rw[ao]at hsl;refine Ac (Ap (Qm Y (Qm Y (Qx (Av hR.rd.any Y BZ Y) Y (Qm Y (Am ?_))))));refine Ar Y (λhlt=>?_) (λhlt=>?_)
 ·have hil:i<l.length:=CK hlt;have ovo:=hO.o1;have hseg:∀ms,Seg h ms ((AF v).add (i*2)) (cD l[i]):=λms=>(hR.any (ms:=ms)).seg hil;obtain⟨out,hout⟩:∃out,CU (l.take i)=out:=⟨_,Y⟩
  rw[hout]at hO hsl;refine Ah (Ab (Ac (Ag (Ap (Qm Y (Am ?_))))));have hcl:=hO.rd (h:=h) (ms:=[mo]) Mh;have hout2:=hcl.len_le;have htk:CU (l.take (i+1))=H3 l[i] out:=by rw[List.take_succ_eq_append_getElem hil,OP,hout]
  refine A9 (λs h' ms'=>∃(k:Nat),s=[(0,v),(3,vo),(4,.w i),(5,.w k)]/\h=h'/\ms'=[mo]/\k<=out.length/\H3 l[i] out=out.take k++l[i]::out.drop k) ?_ (λs h ms hI=>?_)
  ·refine Ag ?_
   refine Ax (λq s h' ms'=>∃(k:Nat),q=out.length-k/\s=[(0,v),(3,vo),(4,.w i),(5,.w k)]/\h=h'/\ms'=[mo]/\k<=out.length/\∀j (hj:j<out.length),j<k->out[j].1<=l[i].1)
    (out.length-0) _ ⟨0,rfl,rfl,rfl,rfl,ω,λj hj h=>ω⟩ Qs ?_
   rintro q s h' ms' ⟨k,rfl,rfl,rfl,rfl,hk,hlo⟩;refine Ac (Ac (A5 15 CT κ Y (Wm Y (Wm Y (AL (Av hcl.rd Y BZ Y) Y Y (Wm Y (Wm Y ?_)))))));refine Cp (t:=17) Y (λhs1=>?_) (λhs1=>?_)
   ·have hkl:k<out.length:=CK hs1;have hck:Cell h [mo] ((AF vo).add (k*2)) (.w out[k].1):=hcl.cell0 hkl Y;have hci:Cell h [mo] ((AF v).add (i*2)) (.w l[i].1):=hR.any.cell0 hil Y;refine AK (As Y Y) Y Y Y Y (AK (As Y Y) Y Y Y Y (AK (BG (k) hcl.rd Y BZ AO Y Y) Y Y Y Y (AK (oF B4 Y) Y Y Y Y (AK (oL Y U3 (hck)) Y Y Y Y (AK (As Y Y) Y Y Y Y (AK (As Y Y) Y Y Y Y (AK (BG (i) hR.rd.any Y BZ AO Y Y) Y Y Y Y (AK (oF B4 Y) Y Y Y Y (AK (oL Y U3 (hci)) Y Y Y Y (AZ (Qg (JH Y Y Y) Y (Qm Y (Am ?_)))))))))))));refine Ar Y (λhs2=>?_) (λhs2=>?_)
    ·refine Ah (Ab (Ag (Ad (Qm Y (Qx (oA Y) Y (Qm Y (Al (Ai ?_))))))))
     exact Ak (out.length-(k+1)) _ ω ⟨k+1,Y,Y,Y,Y,ω,λj hj h=>by
      rcases (ω:j<k\/j=k) with h1|rfl
      ·exact hlo j hj h1
      ·exact hs2⟩ Qs
    ·refine Aq (Aa (Aa (Af ?_)));exact AE _ ⟨k,Y,Y,Y,hk,SH hk hlo λ_=>hs2⟩ Qs
   ·have hkl:k=out.length:=ω
    refine Ay Y Y Y Y Y (Ay Y Y Y Y Y (Ay Y Y Y Y Y (Ay Y Y Y Y Y (Ay Y Y Y Y Y (Ay Y Y Y Y Y (Ay Y Y Y Y Y (Ay Y Y Y Y Y (Ay Y Y Y Y Y (Ay Y Y Y Y Y (AZ (Qk Y (Qm Y (Am (AN Y (Aq (Aa (Aa (Af ?_))))))))))))))))));exact AE _ ⟨k,Y,Y,Y,hk,SH hk hlo λh=>absurd h ω⟩ Qs
  ·obtain⟨k,rfl,rfl,rfl,hk,hins⟩:=hI;refine Ac (A5 8 CT κ rfl (Wm rfl (Wm rfl (AL (BG (i) hR.rd.any rfl BZ AO rfl rfl) rfl rfl (AL (oG rfl D4 AO (hseg _)) rfl rfl (Vh (Fg [_,_] rfl BZ AO rfl (by rfl) rfl rfl ω) rfl rfl (Wm rfl (Wm rfl (AL (C4 (k) hcl.rd rfl BZ AO rfl rfl ω ω) rfl rfl (Jg (λg36=>AV 0 (OwnL.blk (g:=g36) (el:=119) (F:=cD) (l:=[l[i]]) 1 EJ rfl (by decide)) ((hO.rd (h:=h) (List.Mem.tail _ Mh)).sub_ hk (ay _)) rfl BZ AO rfl ω rfl rfl rfl GH (by(try simp only[ac,length_nil,ad,ao,bk,av]);omega) (by(try simp only[ac,length_nil,ad,ao,bk,av]);omega) rfl rfl rfl (λv6 m6 hO6=>?_))))))))))));have ov6:=hO6.o1;refine Qm rfl (Gu ?_);refine AB [] [] [] rfl BZ AO rfl ω κ (by repeat (first|exact trivial|refine⟨⟨by first|rfl|exact(hcl.rd).cells|exact Rd.cells ‹_›|exact(RdL.rd ‹_›).cells,rfl,rfl⟩,?_⟩)) rfl rfl rfl rfl (λg41=>?_);refine Qm rfl (Qm rfl (Qx (EZ (k) hcl.rd rfl BZ AO rfl rfl ω ω) rfl (AV 0 (EY g41 EJ) ((hO.rd (h:=h) (List.Mem.tail _ (List.Mem.tail _ Mh))).sub_ (Nat.zero_le _) hk) rfl BZ AO rfl ω rfl rfl rfl GH (by(try simp only[ac,length_nil,ad,ao,bk,av]);omega) (by(try simp only[ac,length_nil,ad,ao,bk,av]);omega) rfl rfl rfl (λv7 m7 hO7=>Qm rfl (AV 0 hO7 (hO6.rd (h:=h) (List.Mem.tail _ Mh)) rfl BZ AO rfl ω rfl rfl rfl GH (by(try simp only[ac,length_nil,ad,ao,bk,av]);omega) (by(try simp only[ac,length_nil,ad,ao,bk,av]);omega) rfl rfl rfl (λv8 m8 hO8=>?_))))))
   have he:[]++(out.drop 0).take (k-0)++([l[i]]++(out.drop k).take (out.length-k))=CU (l.take (i+1)):=by rw[htk,hins,drop_zero,Nat.sub_zero,List.take_of_length_le (l:=out.drop k) (by rw[bk];omega)];rfl
   rw[he]at hO8;refine Qm Y (Al (Ai (Ab (Ad (Qm Y (Qx (oA Y) Y (Qm Y (Al ?_))))))));refine IT (List.perm_append_comm (l₁:=[m8]) (l₂:=[m6,mo])) (AR (AR ?_));exact Ak (l.length-(i+1)) _ ω ⟨i+1,v8,m8,Y,Y,Y,Y,ω,hO8⟩ Qs
 ·have hil:i=l.length:=ω
  rw[hil,List.take_length]at hO;refine Aq (Aa (Aa (Af (Ab (Ap (Qm Y (Qm Y (Am (An ?_)))))))));exact Au Y Y (⟨Y,mo,Y,hO⟩)
open Go.Lin Go.Sort Go.Srt
theorem Hg(i j:Nat)(h:i+j<4611686018427387904):IntKind.i64.wrap (((i+j)%((2:Int)^IntKind.u64.bits).natAbs/2^1:Nat):Int)=(((i+j)/2:Nat):Int):=by
 have e1:(2^IntKind.u64.bits:Int).natAbs=18446744073709551616:=by decide
 rw[e1,Nat.mod_eq_of_lt ω];show IntKind.i64.wrap (((i+j)/2:Nat):Int)=_;unfold IntKind.wrap;simp[IntKind.bits,IntKind.signed];omega
theorem Fb{k x a:Nat}(hx:k∣x)(ha:k∣a)(h:x<a):x+k<=a:=by
 obtain⟨p,rfl⟩:=hx;obtain⟨q,rfl⟩:=ha;have:p<q:=Nat.lt_of_mul_lt_mul_left h
 calc k*p+k=k*(p+1):=by rw[Nat.mul_add,Nat.mul_one]
  _<=k*q:=Nat.mul_le_mul_left k this
def c3(x y:Int):Int:=if x<y then -1 else if y<x then 1 else 0
theorem JZ(x y:Int):c3 x y<0<->x<y:=by
 unfold c3
 repeat' split
 all_goals omega
theorem SY(x:Int)(h:Hp)(ms:List Hp):FnV Tryz.prog 202 #[.int .i64 x] h ms (.bool false):=by refine DZ ?_ ms;refine Ao func202 ntmps202 Y Y (λw0 hw0=>?_);simp only[AX];refine Ap (Qm Y (BE (Qm Y (Qm Y (Qm Y (Qm Y (Am (An ?_))))))));exact Au Y Y (by simp)
theorem Gl(x y:Int)(h:Hp)(ms:List Hp):FnV Tryz.prog 150 #[.int .i64 x,.int .i64 y] h ms (.int .i64 (c3 x y)):=by
 refine DZ ?_ ms;refine Ao func150 ntmps150 Y Y (λw0 hw0=>?_);simp only[AX];refine Ap (Qm Y (BE (Qm Y (Qx (AG Y call202 Y (SY _ _ _)) Y (Qm Y (BE (Qm Y (Qx (AG Y call202 Y (SY _ _ _)) Y (Qm Y (Am (Ac (Ap (Qm Y (Am (AN Y (Ah (Ab (Ac (Ap (Qm Y (Am (AN Y (Ah (Ab (Ac (Ap (Qm Y (Qm Y (Qm Y (Am ?_))))))))))))))))))))))))))))));refine Ar Y (λh1=>?_) (λh1=>?_)
 ·refine Ac (Ad (Qm Y (Am (An (Ae ?_)))));exact Au Y Y (by unfold c3;rw[ab h1])
 ·refine Ah (Ab (Ac (Ap (Qm Y (Qm Y (Qm Y (Am ?_)))))));refine Ar Y (λh2=>?_) (λh2=>?_)
  ·refine Ac (Ad (Qm Y (Am (An (Ae ?_)))));exact Au Y Y (by unfold c3;rw[aa h1,ab h2])
  ·refine Ah (Ab (Ap (Qm Y (Am (An ?_)))));exact Au Y Y (by unfold c3;rw[aa h1,aa h2])
structure CeO where
 c:Cl
 v:Value
 one:v.oneCell'=true
instance:Inhabited CeO:=⟨⟨default,.slice none 0 0,rfl⟩⟩
def HV(a:CeO):List Value:=[.int .i64 a.c.id,.int .i64 a.c.dim,a.v]
theorem Kc:∀a,(HV a).length=3:=λ_=>rfl
theorem NR(s:CeO):∀c∈HV s,c.oneCell'=true:=λc hc=>by
 simp only[HV,mem_cons,not_mem_nil,or_false]at hc;rcases hc with rfl|rfl|rfl
 ·rfl
 ·rfl
 ·exact s.one
abbrev IQ:=Int×Int
def CS(x y:CeO):Bool:=decide (c3 x.c.id y.c.id<0)
def CX(x y:IQ):Bool:=decide (c3 x.1 y.1<0)
theorem IV:SWO CS:=by
 refine⟨λx=>?_,λx y z h1 h2=>?_,λx y z h1 h2=>?_⟩
 ·unfold CS;rw[decide_eq_false_iff_not,JZ];omega
 ·unfold CS at *;rw[decide_eq_true_iff,JZ]at *;omega
 ·unfold CS at *;rw[decide_eq_false_iff_not,JZ]at *;omega
theorem Jc:SWO CX:=by
 refine⟨λx=>?_,λx y z h1 h2=>?_,λx y z h1 h2=>?_⟩
 ·unfold CX;rw[decide_eq_false_iff_not,JZ];omega
 ·unfold CX at *;rw[decide_eq_true_iff,JZ]at *;omega
 ·unfold CX at *;rw[decide_eq_false_iff_not,JZ]at *;omega
def QC(g:Nat):Value:=.func (.func 196) #[] #[.pointer (some ⟨g,0,none⟩)]
def Qz(g:Nat):Value:=.func (.func 199) #[] #[.pointer (some ⟨g,0,none⟩)]
def fkC:Value:=.func (.func 135) #[] #[]
def fkD:Value:=.func (.func 137) #[] #[]
def UC(h:Hp)(g:Nat):Prop:=∀ms,Cell h ms (⟨g,0,none⟩:Addr) fkC
def Ul(h:Hp)(g:Nat):Prop:=∀ms,Cell h ms (⟨g,0,none⟩:Addr) fkD
theorem ZT(x:CeO)(h:Hp)(ms:List Hp):FnV Tryz.prog 135 #[.agg (HV x).toArray] h ms (.int .i64 x.c.id):=by refine DZ ?_ ms;have o1:=x.one;show FnT _ _ #[.agg #[.int .i64 x.c.id,.int .i64 x.c.dim,x.v]] _ _ _;refine Ao func135 ntmps135 Y Y (λw0 hw0=>?_);simp only[AX];refine Ap (AQ [_,_,_] Y Y (by rfl) Y Y Y (λg1=>Qm Y (BE (Qf Bn Y (Ql Y U3 (Cell.blk 0 Y Y) (Qm Y (Am (An ?_))))))));exact Au Y Y (Y)
theorem ZZ(x:IQ)(h:Hp)(ms:List Hp):FnV Tryz.prog 137 #[.agg (cD x).toArray] h ms (.int .i64 x.1):=by refine DZ ?_ ms;show FnT _ _ #[.agg #[.int .i64 x.1,.int .i64 x.2]] _ _ _;refine Ao func137 ntmps137 Y Y (λw0 hw0=>?_);simp only[AX];refine Ap (AQ [_,_] Y Y (by rfl) Y Y Y (λg1=>Qm Y (BE (Qf B4 Y (Ql Y U3 (Cell.blk 0 Y Y) (Qm Y (Am (An ?_))))))));exact Au Y Y (Y)
theorem NB(x y:CeO)(h:Hp)(g:Nat)(hg:UC h g)(ms:List Hp):FnV Tryz.prog 196 #[.agg (HV x).toArray,.agg (HV y).toArray,.pointer (some ⟨g,0,none⟩)] h ms (.int .i64 (c3 x.c.id y.c.id)):=by refine DZ ?_ ms;have o1:=x.one;have o2:=y.one;show FnT _ _ #[.agg #[.int .i64 x.c.id,.int .i64 x.c.dim,x.v],.agg #[.int .i64 y.c.id,.int .i64 y.c.dim,y.v],.pointer (some ⟨g,0,none⟩)] _ _ _;refine Ao func196 ntmps196 Y Y (λw0 hw0=>?_);simp only[AX];refine Ap (AQ [_,_,_] Y Y (by rfl) Y Y Y (λg3=>AQ [_,_,_] Y Y (by rfl) Y Y Y (λg4=>Qm Y (Am (AA λh1 l1 hG4=>(AA λh2 l2 hG3=>?_))))));have hG4:=hG4.le l2;have hgk:∀ms,Cell h2 ms (⟨g,0,none⟩:Addr) fkC:=λms=>(hg ms).le (AI l1 l2);refine Ac (A5 5 CT κ Y (Wl Y AbF (hgk _) (AL (oG Y Ef AH (Seg.any hG3)) Y Y (AL (Co Y Y call135 Y ((ZT x _ _))) Y Y (Wl Y AbF (hgk _) (AL (oG Y Ef AH (Seg.any hG4)) Y Y (AZ (Qx (Co Y Y call135 Y ((ZT y _ _))) Y (Qx (AG Y call150 Y (Gl _ _ _ _)) Y (Qm Y (Am (An ?_))))))))))));exact Au Y Y (Y)
theorem M5(x y:IQ)(h:Hp)(g:Nat)(hg:Ul h g)(ms:List Hp):FnV Tryz.prog 199 #[.agg (cD x).toArray,.agg (cD y).toArray,.pointer (some ⟨g,0,none⟩)] h ms (.int .i64 (c3 x.1 y.1)):=by refine DZ ?_ ms;show FnT _ _ #[.agg #[.int .i64 x.1,.int .i64 x.2],.agg #[.int .i64 y.1,.int .i64 y.2],.pointer (some ⟨g,0,none⟩)] _ _ _;refine Ao func199 ntmps199 Y Y (λw0 hw0=>?_);simp only[AX];refine Ap (AQ [_,_] Y Y (by rfl) Y Y Y (λg3=>AQ [_,_] Y Y (by rfl) Y Y Y (λg4=>Qm Y (Am (AA λh1 l1 hG4=>(AA λh2 l2 hG3=>?_))))));have hG4:=hG4.le l2;have hgk:∀ms,Cell h2 ms (⟨g,0,none⟩:Addr) fkD:=λms=>(hg ms).le (AI l1 l2);refine Ac (A5 5 CT κ Y (Wl Y AbW (hgk _) (AL (oG Y D4 AO (Seg.any hG3)) Y Y (AL (Co Y Y call137 Y ((ZZ x _ _))) Y Y (Wl Y AbW (hgk _) (AL (oG Y D4 AO (Seg.any hG4)) Y Y (AZ (Qx (Co Y Y call137 Y ((ZZ y _ _))) Y (Qx (AG Y call150 Y (Gl _ _ _ _)) Y (Qm Y (Am (An ?_))))))))))));exact Au Y Y (Y)
variable {m h:Hp} {v:Value} {d:Array CeO} {ms:List Hp}
abbrev OSC(m:Hp)(v:Value)(d:Array CeO):Prop:=OwnL HV 3 52 m v d.toList
theorem OSC.rd(O:OSC m v d)(hm:m∈ms):Rd h ms v 3 d.size (d.toList.flatMap HV):=by have:=(OwnL.rd O hm (h:=h)).rd;rwa [Array.length_toList]at this
theorem OSC.get(O:OSC m v d)(hm:m∈ms){j:Nat}(hj:j<d.size):Seg h ms ((AF v).add (j*3)) (HV d[j]!):=by have:=(OwnL.rd O hm (h:=h)).seg (j:=j) (by simpa using hj);simpa[hj] using this
theorem Dw{e:Entry}{Q:Exit->Act->World->Prop}{ops:Array Oper}{rest:List Oper}{o:Oper}{s:AC}{t:TypeId}{x y:Operand}{z:Value}{bytes:Nat}{a:CeO}(i j:Nat)(O:OSC m v d)(ho:o.op=.store t x y)(hs:Elem e.P t 3 z bytes)(hx:ev s x=some (.pointer (some ((AF v).add (j*3)))))(hy:ev s y=some (.agg (HV a).toArray))
  (hm:ms[i]?=some m) (hj:j<d.size) (hd:o.dst=none) (hg:o.guard=none)
  (K:∀m',(d.setIfInBounds j a).size=d.size->OSC m' v (d.setIfInBounds j a)->WL e ops Q rest s h (ms.set i m')):WL e ops Q (o::rest) s h ms:=
 FF i j a O ho hs hx hy rfl (NR a) hm (by simpa using hj) hd hg λm' O'=>K m' (by simp) (by
  show OwnL HV 3 52 m' v (d.setIfInBounds j a).toList
  rw[Array.toList_setIfInBounds];exact O')
theorem F8(d:Array CeO)(v cv:Value)(m:Hp)(hO:OSC m v d)(a b n lo hi:Nat)(hab:a+n<=b)(hb:b+n<=d.size)(hsz:d.size<=1000000)(hlo:lo<=a)(hhi:b+n<=hi)(hhs:hi<=d.size)(h:Hp){a' b' n':Int}(ea:a'=a)(eb:b'=b)(en:n'=n) :
  FnT Tryz.prog 308 #[v,.w a',.w b',.w n',cv] h [m] (λ_ h' ms'=>h=h'/\∃m' d',ms'=[m']/\OSC m' v d'/\SwR d d' a b n/\PermIn lo hi d d'):=by
 subst ea eb en;refine Ao func308 ntmps308 Y Y (λw0 hw0=>?_);simp only[AX];refine Ap (Qm Y (Am (Ag ?_)))
 refine Ax (λq s h' ms'=>∃(i:Nat) (d0:Array CeO) (m:Hp),q=n-i/\s=[(0,v),(1,.w a),(2,.w b),(3,.w n),(10,.w i)]/\h=h'/\ms'=[m]/\i<=n/\OSC m v d0/\SwR d d0 a b i/\PermIn lo hi d d0)
  (n-0) _ ⟨0,d,m,rfl,rfl,rfl,rfl,ω,hO,SwR.start d a b,permIn_refl d lo hi⟩ Qs ?_
 rintro q s h' ms' ⟨i,d0,m0,rfl,rfl,rfl,rfl,hi2,hO0,S,P⟩;have hds:=S.1;refine Ac (Ap (Qm Y (Qm Y (Qm Y (Am ?_)))));refine Ar Y (λhlt=>?_) (λhlt=>?_)
 ·refine Ah (Ab (Ac (Ag (DV 20 [false,false,false,false,true,true,true,true] CT κ κ κ (Ed Y Y Y Y (Cn Y Y) (Ed Y Y Y Y (Cn Y Y) (Ed Y Y Y Y (Cn Y Y) (Ed Y Y Y Y (Nm Y Y Y ω) ?_))))))));refine⟨Y,?_⟩;simp only[EL,zap,bh,av,take_succ_cons,take_zero,drop_succ_cons,drop_zero,List.take_nil,List.drop_nil];refine Wm Y (Wm Y (Wm Y (AL (oA Y) Y Y (Ee Y Y Y (Ee Y Y Y (Ee Y Y Y (Ee Y Y Y (Wm Y (Wm Y (Wm Y (AL (oA Y) Y Y (AL (Az (b+i) (hO0.rd (.head _)) Y Bi AH Y Y ω ω) Y Y (AL (oG Y Ef AH (hO0.get (.head _) ω)) Y Y (Wm Y (Wm Y (Wm Y (AL (oA Y) Y Y (AL (Az (a+i) (hO0.rd (.head _)) Y Bi AH Y Y ω ω) Y Y (AL (oG Y Ef AH (hO0.get (.head _) ω)) Y Y (AZ (Qx (Az (a+i) (hO0.rd (.head _)) Y Bi AH Y Y ω ω) Y (Dw 0 _ hO0 Y AH Y Y Y ω Y Y (λmhO1 hzhO1 hO1=>Qx (Az (b+i) (hO1.rd (.head _)) Y Bi AH Y Y ω ω) Y (Dw 0 _ hO1 Y AH Y Y Y ω Y Y (λmhO2 hzhO2 hO2=>Al (HT (Ai (Ab (Ad (Qm Y (Qx (oA Y) Y (Qm Y (Al ?_)))))))))))))))))))))))))))))))));refine Ak (n-(i+1)) _ ω ⟨i+1,_,mhO2,Y,Y,Y,Y,ω,hO2,S.step ω ω,permIn_trans _ _ _ _ _ P (swp_permIn d0 lo hi (a+i) (b+i) ω ω ω ω ω)⟩ Qs
 ·obtain rfl:i=n:=ω
  refine Aq (Aa (Aa (Af ?_)));exact Cb Y (⟨Y,m0,d0,Y,hO0,S,P⟩)
theorem Q5(d:Array CeO)(v cv:Value)(m:Hp)(hO:OSC m v d)(a t b lo hi:Nat)(hat:a<t)(htb:t<b)(hb:b<=d.size)(hsz:d.size<=1000000)(hlo:lo<=a)(hhi:b<=hi)(hhs:hi<=d.size)(h:Hp){a' t' b':Int}(ea:a'=a)(et:t'=t)(eb:b'=b) :
  FnT Tryz.prog 298 #[v,.w a',.w t',.w b',cv] h [m] (λ_ h' ms'=>h=h'/\∃m' d',ms'=[m']/\OSC m' v d'/\(∀k,d'[k]! = Fz d a t b k)/\PermIn lo hi d d'):=by
 subst ea et eb;refine Ao func298 ntmps298 Y Y (λw0 hw0=>?_);simp only[AX];refine Ap (Qm Y (Qm Y (Qx (oS Y) Y (Qm Y (BE (Qm Y (Qm Y (Qx (oS Y) Y (Qm Y (Am (Ac (Ag ?_))))))))))))
 refine Ax (λq s h' ms'=>∃(i j:Nat) (x y:Int) (d0:Array CeO) (m:Hp),q=i+j/\s=[(0,v),(2,.w t),(4,cv),(10,.w x),(11,.w y)]/\h=h'/\ms'=[m]/\x=i/\y=j/\0<i/\0<j/\a+i<=t/\t+j<=b/\OSC m v d0/\(∀k,Fz d0 (t-i) t (t+j) k=Fz d a t b k)/\PermIn lo hi d d0)
  ((t-a)+(b-t)) _ ⟨t-a,b-t,(t:Int)-a,(b:Int)-t,d,m,rfl,rfl,rfl,rfl,ω,ω,ω,ω,ω,ω,hO,λk=>by rw[show t-(t-a)=a by omega,show t+(b-t)=b by omega],permIn_refl d lo hi⟩ Qs ?_
 rintro q s h' ms' ⟨i,j,x,y,d0,m0,rfl,rfl,rfl,rfl,rfl,rfl,hi0,hj0,hai,hjb,hO0,hR,P⟩;have hds:=P.1;refine Ac (Ap (Qm Y (Qm Y (Qm Y (Am ?_)))));refine Ar Y (λhne=>?_) (λhne=>?_)
 ·refine Ah (Ab (Ag (Ap (Qm Y (Qm Y (Qm Y (Am ?_)))))));refine Ar Y (λhgt=>?_) (λhgt=>?_)
  ·refine Ac (Ad (Qm Y (Qm Y (Qm Y (Qx (oS Y) Y (Qm Y (Qm Y (Qm Y (Bf (pre:=[m0]) Y call308 Y (F8 d0 v cv m0 hO0 (t-i) t j lo hi ω ω ω ω ω ω h ω Y Y) Y Y Y Y (λr h1 ms1 l1 hF=>?_))))))))));obtain⟨rfl,m1,d1,rfl,hO1,S,P1⟩:=hF;refine Gu (Qm Y (Qm Y (Qx (oS Y) Y (Qm Y (Al (Ai ?_))))));refine Ak ((i-j)+j) _ ω ⟨i-j,j,(i:Int)-j,j,d1,m1,Y,Y,Y,Y,ω,Y,ω,ω,ω,ω,hO1,λk=>(Px ω ω S k).trans (hR k),permIn_trans _ _ _ _ _ P P1⟩ Qs
  ·refine Ac (Ad (Qm Y (Qm Y (Qm Y (Qx (oS Y) Y (Qm Y (Qm Y (Qx (oA Y) Y (Qm Y (Qx (oS Y) Y (Qm Y (Qm Y (Bf (pre:=[m0]) Y call308 Y (F8 d0 v cv m0 hO0 (t-i) (t+j-i) i lo hi ω ω ω ω ω ω h ω ω Y) Y Y Y Y (λr h1 ms1 l1 hF=>?_))))))))))))));obtain⟨rfl,m1,d1,rfl,hO1,S,P1⟩:=hF;refine Gu (Qm Y (Qm Y (Qx (oS Y) Y (Qm Y (Al (Ai ?_))))));refine Ak (i+(j-i)) _ ω ⟨i,j-i,i,(j:Int)-i,d1,m1,Y,Y,Y,Y,Y,ω,ω,ω,ω,ω,hO1,λk=>(K3 ω ω S k).trans (hR k),permIn_trans _ _ _ _ _ P P1⟩ Qs
 ·obtain rfl:i=j:=ω
  refine Aq (Aa (Aa (Af (Ab (Ad (Qm Y (Qm Y (Qm Y (Qx (oS Y) Y (Qm Y (Qm Y (Qm Y (Bf (pre:=[m0]) Y call308 Y (F8 d0 v cv m0 hO0 (t-i) t i lo hi ω ω ω ω ω ω h ω Y Y) Y Y Y Y (λr h1 ms1 l1 hF=>?_))))))))))))));obtain⟨rfl,m1,d1,rfl,hO1,S,P1⟩:=hF;refine Al ?_;exact Cb Y (⟨Y,m1,d1,Y,hO1,λk=>(Pu ω S k).trans (hR k),permIn_trans _ _ _ _ _ P P1⟩)
end Go.Proofs.Q

namespace Go.Proofs.Q
open Go.Proofs.Tryz
open Go.Eng Go.RowKit Go.Lin Go.Sort Go.Srt
theorem O7(d:Array CeO)(v:Value)(m:Hp)(hO:OSC m v d)(a b:Nat)(hab:a<=b)(hb:b<=d.size)(hsz:d.size<=1000000)(h:Hp)(g:Nat)(hg:UC h g){a' b':Int}(ea:a'=a)(eb:b'=b) :
  FnT Tryz.prog 240 #[v,.w a',.w b',(QC g)] h [m] (λ_ h' ms'=>h=h'/\∃m' d',ms'=[m']/\OSC m' v d'/\PermIn a b d d'/\SortedIn CS a b d'):=by
 subst ea eb;have hfin:=insertionSort_holds (lt:=CS) IV d a b hab hb;refine Ao func240 ntmps240 Y Y (λw0 hw0=>?_);simp only[AX];refine Ap (Qm Y (Qx (oA Y) Y (Qm Y (Am (Ag ?_)))))
 refine Ax (λn s h' ms'=>∃(i:Nat) (z:Int) (d':Array CeO) (m:Hp),n=b-i/\s=[(0,v),(1,.w a),(2,.w b),(3,(QC g)),(8,.w z)]/\h=h'/\ms'=[m]/\z=i/\a<i/\i<=4611686018427387905/\OSC m v d'/\d'.size=d.size/\insOuter CS a b i d'=insertionSort CS d a b)
  _ _ ⟨a+1,(a:Int)+1,d,m,rfl,rfl,rfl,rfl,ω,ω,ω,hO,rfl,rfl⟩ Qs ?_
 rintro n s h' ms' ⟨i,z,d',m,rfl,rfl,rfl,rfl,hz,hai,hi,hO,hds,hR⟩;refine Ac (Ap (Qm Y (Qm Y (Qm Y (Am ?_)))));refine Ar Y (λhlt=>?_) (λhlt=>?_)
 ·refine Ah (Ab (Ac (Ag (Ap (Qm Y (Qm Y (Am (Ag ?_))))))))
  refine Ax (λn s h' ms'=>∃(j:Nat) (y:Int) (d':Array CeO) (m:Hp),j=n/\s=[(0,v),(1,.w a),(2,.w b),(3,(QC g)),(8,.w z),(9,.w y)]/\h=h'/\ms'=[m]/\y=j/\j<=i/\OSC m v d'/\d'.size=d.size/\insOuter CS a b (i+1) (insInner CS a j d')=insertionSort CS d a b)
   _ _ ⟨i,z,d',m,rfl,rfl,rfl,rfl,hz,ω,hO,hds,by rw[<-hR];conv=>rhs;unfold insOuter;rw[ab ω]⟩ Qs ?_
  rintro n s h' ms' ⟨j,y,d1,m1,rfl,rfl,rfl,rfl,hy,hji,hO1,hds1,hR1⟩;refine Ac (Ac (A5 14 CT κ Y (Wm Y (Wm Y (Wm Y (Wm Y ?_))))));refine Cp (t:=21) Y (λhja=>?_) (λhja=>?_)
  ·refine AK (As Y Y) Y Y Y Y (AK (As Y Y) Y Y Y Y (AK (As Y Y) Y Y Y Y (AK (Az (j) (hO1.rd (.head _)) Y Bi AH Y Y ω ω) Y Y Y Y (AK (oG Y Ef AH (hO1.get (.head _) ω)) Y Y Y Y (AK (As Y Y) Y Y Y Y (AK (As Y Y) Y Y Y Y (AK (oS Y) Y Y Y Y (AK (Az (j-1) (hO1.rd (.head _)) Y Bi AH Y Y ω ω) Y Y Y Y (AK (oG Y Ef AH (hO1.get (.head _) ω)) Y Y Y Y (AZ (Qg (Co Y Y call196 Y (NB _ _ _ g hg _)) Y (Qg (Dp Y Y Y) Y (Qm Y (Am ?_))))))))))))));refine Bz Y (λhl=>?_) (λhl=>?_)
   ·refine Ah (Ab (Ac (Ag (DV 14 [false,false,true,true,true] CT κ κ κ (Ed Y Y Y Y (Cn Y Y) (Ed Y Y Y Y (Cn Y Y) (Ed Y Y Y Y (Ns Y Y Y ω) ?_)))))));refine⟨Y,?_⟩;simp only[EL,zap,bh,av,take_succ_cons,take_zero,drop_succ_cons,drop_zero,List.take_nil,List.drop_nil];refine Wm Y (Wm Y (Ee Y Y Y (Ee Y Y Y (Ee Y Y Y (Wm Y (Wm Y (AL (oS Y) Y Y (AL (Az (j-1) (hO1.rd (.head _)) Y Bi AH Y Y ω ω) Y Y (AL (oG Y Ef AH (hO1.get (.head _) ω)) Y Y (Wm Y (Wm Y (AL (Az (j) (hO1.rd (.head _)) Y Bi AH Y Y ω ω) Y Y (AL (oG Y Ef AH (hO1.get (.head _) ω)) Y Y (AZ (Qx (Az (j) (hO1.rd (.head _)) Y Bi AH Y Y ω ω) Y (Dw 0 _ hO1 Y AH Y Y Y ω Y Y (λmhO2 hzhO2 hO2=>Qx (Az (j-1) (hO2.rd (.head _)) Y Bi AH Y Y ω ω) Y (Dw 0 _ hO2 Y AH Y Y Y ω Y Y (λmhO3 hzhO3 hO3=>Al (HT (Ai (Ab (Ad (Qm Y (Qx (oS Y) Y (Qm Y (Al ?_)))))))))))))))))))))))))));obtain⟨j',rfl⟩:∃j',j=j'+1:=⟨j-1,ω⟩
    refine Ak j' _ ω ⟨j',y-1,_,mhO3,Y,Y,Y,Y,ω,ω,hO3,by simp[hds1],?_⟩ Qs;rw[<-hR1]
    conv=>rhs;unfold insInner
    rw[ab (by rw[bj];exact⟨ag ω,hl⟩)];rfl
   ·refine Aq (Aa (Aa (Af (Ai (Ab (Ad (Qm Y (Qx (oA Y) Y (Qm Y (Al ?_))))))))));refine Ak (b-(i+1)) _ ω ⟨i+1,z+1,d1,m1,Y,Y,Y,Y,ω,ω,ω,hO1,hds1,?_⟩ Qs;rw[<-hR1];obtain⟨j',rfl⟩:∃j',j=j'+1:=⟨j-1,ω⟩
    conv=>rhs;unfold insInner
    rw[aa (by rw[bj];rintro⟨_,h2⟩;exact absurd (hl.symm.trans h2) (by decide))]
  ·refine Ay Y Y Y Y Y (Ay Y Y Y Y Y (Ay Y Y Y Y Y (Ay Y Y Y Y Y (Ay Y Y Y Y Y (Ay Y Y Y Y Y (Ay Y Y Y Y Y (Ay Y Y Y Y Y (Ay Y Y Y Y Y (Ay Y Y Y Y Y (AZ (Qk Y (Qk Y (Qm Y (Am (AN Y (Aq (Aa (Aa (Af (Ai (Ab (Ad (Qm Y (Qx (oA Y) Y (Qm Y (Al ?_))))))))))))))))))))))))));refine Ak (b-(i+1)) _ ω ⟨i+1,z+1,d1,m1,Y,Y,Y,Y,ω,ω,ω,hO1,hds1,?_⟩ Qs;rw[<-hR1];cases j with
   | zero=>rfl
   | succ j'=>
    conv=>rhs;unfold insInner
    rw[aa (by simp;intro h';omega)]
 ·refine Aq (Aa (Aa (Af ?_)));exact Cb Y (⟨Y,m,insertionSort CS d a b,Y,by rw[<-hR];unfold insOuter;rw[aa ω];exact hO,hfin.1,hfin.2⟩)
theorem Iy:∀(N:Nat) (d:Array CeO) (v:Value) (m:Hp) (hO:OSC m v d) (a t b:Nat) (hN:b-a<=N) (hat:a<t) (htb:t<b) (hb:b<=d.size) (hsz:d.size<=1000000) (hA:SortedIn CS a t d) (hB:SortedIn CS t b d) (h:Hp) (g:Nat) (hg:UC h g) {a' t' b':Int} (ea:a'=a) (et:t'=t) (eb:b'=b),
  FnT Tryz.prog 277 #[v,.w a',.w t',.w b',(QC g)] h [m] (λ_ h' ms'=>h=h'/\∃m' d',ms'=[m']/\OSC m' v d'/\PermIn a b d d'/\SortedIn CS a b d'):=by
 intro N
 induction N with
 | zero=>intro d v m hO a t b hN hat htb;omega
 | succ N ih=>
 intro d v m hO a t b hN hat htb hb hsz hA hB h g hg a' t' b' ea et eb;subst ea et eb;refine Ao func277 ntmps277 Y Y (λw0 hw0=>?_);simp only[AX];refine Ac (Ap (Qm Y (Qm Y (Qx (oS Y) Y (Qm Y (Am ?_))))));refine Ar Y (λh1=>?_) (λh1=>?_)
 ·-- one element on the left
  obtain rfl:t=a+1:=ω
  refine Ap (Qm Y (Qm Y (BE (Qm Y (Qm Y (Am (Ac (Ag ?_))))))))
  refine Ax (λn s h' ms'=>∃(i j:Nat),n=j-i/\s=[(0,v),(1,.w a),(4,(QC g)),(10,.w i),(11,.w j)]/\h=h'/\ms'=[m]/\a+1<=i/\i<=j/\j<=b/\(i=a+1\/CS d[i-1]! d[a]! = true)/\(j=b\/CS d[j]! d[a]! = false))
   (b-(a+1)) _ ⟨a+1,b,rfl,rfl,rfl,rfl,ω,ω,ω,.inl rfl,.inl rfl⟩ Qs ?_
  rintro n s h' ms' ⟨i,j,rfl,rfl,rfl,rfl,hi,hij,hj,c1,c2⟩;refine Ac (Ap (Qm Y (Qm Y (Qm Y (Am ?_)))));refine Ar Y (λhlt=>?_) (λhlt=>?_)
  ·refine Ah (Ab (Ag (Ap (Qm Y (Qm Y (Qx (oA Y) Y (Qx (Cq Y U3 HM Y) Y (Qx (DX (n:=1) Y Y Y ω) Y (Qx (Cq Y HM U3 Y) Y (Qm Y (Am ?_)))))))))));rw[Hg i j ω];refine Ac (A5 9 CT κ Y (Wm Y (Wm Y (Wm Y (AL (Az ((i+j)/2) (hO.rd (.head _)) Y Bi AH Y Y ω ω) Y Y (AL (oG Y Ef AH (hO.get (.head _) ω)) Y Y (Wm Y (Wm Y (AL (Az (a) (hO.rd (.head _)) Y Bi AH Y Y ω ω) Y Y (AL (oG Y Ef AH (hO.get (.head _) ω)) Y Y (AZ (Qx (Co Y Y call196 Y (NB _ _ _ g hg _)) Y (Qm Y (Am ?_))))))))))))));refine Bz Y (λhl=>?_) (λhl=>?_)
   ·refine Ad (Qm Y (Qx (oA Y) Y (Qm Y (Al (Ai ?_)))));exact Ak (j-((i+j)/2+1)) _ ω ⟨(i+j)/2+1,j,Y,Y,Y,Y,ω,ω,ω,.inr (by rw[Nat.add_sub_cancel];exact hl),c2⟩ Qs
   ·refine Ad (Qm Y (Qm Y (Al (Ai ?_))));exact Ak ((i+j)/2-i) _ ω ⟨i,(i+j)/2,Y,Y,Y,Y,ω,ω,ω,c1,.inr hl⟩ Qs
  ·obtain rfl:i=j:=ω
   refine Aq (Aa (Aa (Af (Ab (Ac (Ap (Qm Y (Qm Y (Am (Ag ?_))))))))))
   refine Ax (λn s h' ms'=>∃(k:Nat) (d0:Array CeO) (m:Hp),n=i-1-k/\s=[(0,v),(10,.w i),(13,.w k)]/\h=h'/\ms'=[m]/\a<=k/\k<=i-1/\OSC m v d0/\InsR d d0 a k/\PermIn a b d d0)
    (i-1-a) _ ⟨a,d,m,rfl,rfl,rfl,rfl,ω,ω,hO,InsR.start d a,permIn_refl d a b⟩ Qs ?_
   rintro n s h' ms' ⟨k,d0,m0,rfl,rfl,rfl,rfl,hak,hki,hO0,R,P⟩;have hds:=R.1;refine Ac (Ap (Qm Y (Qm Y (Qx (oS Y) Y (Qm Y (Am ?_))))));refine Ar Y (λhltk=>?_) (λhltk=>?_)
   ·refine Ah (Ab (Ac (Ag (DV 14 [false,false,true,true,true] CT κ κ κ (Ed Y Y Y Y (Cn Y Y) (Ed Y Y Y Y (Cn Y Y) (Ed Y Y Y Y (Nm Y Y Y ω) ?_)))))));refine⟨Y,?_⟩;simp only[EL,zap,bh,av,take_succ_cons,take_zero,drop_succ_cons,drop_zero,List.take_nil,List.drop_nil];refine Wm Y (Wm Y (Ee Y Y Y (Ee Y Y Y (Ee Y Y Y (Wm Y (Wm Y (AL (oA Y) Y Y (AL (Az (k+1) (hO0.rd (.head _)) Y Bi AH Y Y ω ω) Y Y (AL (oG Y Ef AH (hO0.get (.head _) ω)) Y Y (Wm Y (Wm Y (AL (Az (k) (hO0.rd (.head _)) Y Bi AH Y Y ω ω) Y Y (AL (oG Y Ef AH (hO0.get (.head _) ω)) Y Y (AZ (Qx (Az (k) (hO0.rd (.head _)) Y Bi AH Y Y ω ω) Y (Dw 0 _ hO0 Y AH Y Y Y ω Y Y (λmhO1 hzhO1 hO1=>Qx (Az (k+1) (hO1.rd (.head _)) Y Bi AH Y Y ω ω) Y (Dw 0 _ hO1 Y AH Y Y Y ω Y Y (λmhO2 hzhO2 hO2=>Al (HT (Ai (Ab (Ad (Qm Y (Qx (oA Y) Y (Qm Y (Al ?_)))))))))))))))))))))))))));exact Ak (i-1-(k+1)) _ ω ⟨k+1,_,mhO2,Y,Y,Y,Y,ω,ω,hO2,R.step hak ω,permIn_trans _ _ _ _ _ P (swp_permIn d0 a b k (k+1) ω ω ω ω ω)⟩ Qs
   ·obtain rfl:k=i-1:=ω
    refine Aq (Aa (Aa (Af (Ab (An (Ae ?_))))));exact FQ Y (⟨Y,m0,d0,Y,hO0,P,KR IV hB ⟨hi,hj⟩ c1 c2 R⟩)
 ·refine Ah (Ab (Ac (Ap (Qm Y (Qm Y (Qx (oS Y) Y (Qm Y (Am ?_))))))));refine Ar Y (λh2=>?_) (λh2=>?_)
  ·-- one element on the right
   obtain rfl:b=t+1:=ω
   refine Ap (Qm Y (Qm Y (BE (Qm Y (Qm Y (Am (Ac (Ag ?_))))))))
   refine Ax (λn s h' ms'=>∃(i j:Nat),n=j-i/\s=[(0,v),(1,.w a),(2,.w t),(4,(QC g)),(14,.w i),(15,.w j)]/\h=h'/\ms'=[m]/\a<=i/\i<=j/\j<=t/\(i=a\/CS d[t]! d[i-1]! = false)/\(j=t\/CS d[t]! d[j]! = true))
    (t-a) _ ⟨a,t,rfl,rfl,rfl,rfl,ω,ω,ω,.inl rfl,.inl rfl⟩ Qs ?_
   rintro n s h' ms' ⟨i,j,rfl,rfl,rfl,rfl,hi,hij,hj,c1,c2⟩;refine Ac (Ap (Qm Y (Qm Y (Qm Y (Am ?_)))));refine Ar Y (λhlt=>?_) (λhlt=>?_)
   ·refine Ah (Ab (Ag (Ap (Qm Y (Qm Y (Qx (oA Y) Y (Qx (Cq Y U3 HM Y) Y (Qx (DX (n:=1) Y Y Y ω) Y (Qx (Cq Y HM U3 Y) Y (Qm Y (Am ?_)))))))))));rw[Hg i j ω];refine Ac (A5 9 CT κ Y (Wm Y (Wm Y (Wm Y (AL (Az (t) (hO.rd (.head _)) Y Bi AH Y Y ω ω) Y Y (AL (oG Y Ef AH (hO.get (.head _) ω)) Y Y (Wm Y (Wm Y (AL (Az ((i+j)/2) (hO.rd (.head _)) Y Bi AH Y Y ω ω) Y Y (AL (oG Y Ef AH (hO.get (.head _) ω)) Y Y (AZ (Qx (Co Y Y call196 Y (NB _ _ _ g hg _)) Y (Qm Y (Qm Y (Am ?_)))))))))))))));refine Bz Y (λhl=>?_) (λhl=>?_)
    ·have hl:CS d[t]! d[(i+j)/2]! = false:=by unfold CS;simpa using hl
     refine Ad (Qm Y (Qx (oA Y) Y (Qm Y (Al (Ai ?_)))));exact Ak (j-((i+j)/2+1)) _ ω ⟨(i+j)/2+1,j,Y,Y,Y,Y,ω,ω,ω,.inr (by rw[Nat.add_sub_cancel];exact hl),c2⟩ Qs
    ·have hl:CS d[t]! d[(i+j)/2]! = true:=by unfold CS;simpa using hl
     refine Ad (Qm Y (Qm Y (Al (Ai ?_))));exact Ak ((i+j)/2-i) _ ω ⟨i,(i+j)/2,Y,Y,Y,Y,ω,ω,ω,c1,.inr hl⟩ Qs
   ·obtain rfl:i=j:=ω
    refine Aq (Aa (Aa (Af (Ab (Ac (Ap (Qm Y (Qm Y (Am (Ag ?_))))))))))
    refine Ax (λn s h' ms'=>∃(k:Nat) (d0:Array CeO) (m:Hp),n=k-i/\s=[(0,v),(14,.w i),(17,.w k)]/\h=h'/\ms'=[m]/\i<=k/\k<=t/\OSC m v d0/\ShR d d0 t k/\PermIn a (t+1) d d0)
     (t-i) _ ⟨t,d,m,rfl,rfl,rfl,rfl,ω,ω,hO,ShR.start d t,permIn_refl d a (t+1)⟩ Qs ?_
    rintro n s h' ms' ⟨k,d0,m0,rfl,rfl,rfl,rfl,hik,hkt,hO0,R,P⟩;have hds:=R.1;refine Ac (Ap (Qm Y (Qm Y (Qm Y (Am ?_)))));refine Ar Y (λhltk=>?_) (λhltk=>?_)
    ·have st:ShR d (Go.Sort.swp d0 k (k-1)) t (k-1):=by
      obtain⟨k',rfl⟩:∃k',k=k'+1:=⟨k-1,ω⟩
      exact R.step ω ω
     have e:(k:Int)-1=((k-1:Nat):Int):=ω
     refine Ah (Ab (Ac (Ag (DV 14 [false,false,true,true,true] CT κ κ κ (Ed Y Y Y Y (Cn Y Y) (Ed Y Y Y Y (Cn Y Y) (Ed Y Y Y Y (Ns Y Y Y ω) ?_)))))));refine⟨Y,?_⟩;simp only[EL,zap,bh,av,take_succ_cons,take_zero,drop_succ_cons,drop_zero,List.take_nil,List.drop_nil];refine Wm Y (Wm Y (Ee Y Y Y (Ee Y Y Y (Ee Y Y Y (Wm Y (Wm Y (AL (oS Y) Y Y (AL (Az (k-1) (hO0.rd (.head _)) Y Bi AH Y Y ω ω) Y Y (AL (oG Y Ef AH (hO0.get (.head _) ω)) Y Y (Wm Y (Wm Y (AL (Az (k) (hO0.rd (.head _)) Y Bi AH Y Y ω ω) Y Y (AL (oG Y Ef AH (hO0.get (.head _) ω)) Y Y (AZ (Qx (Az (k) (hO0.rd (.head _)) Y Bi AH Y Y ω ω) Y (Dw 0 _ hO0 Y AH Y Y Y ω Y Y (λmhO1 hzhO1 hO1=>Qx (Az (k-1) (hO1.rd (.head _)) Y Bi AH Y Y ω ω) Y (Dw 0 _ hO1 Y AH Y Y Y ω Y Y (λmhO2 hzhO2 hO2=>Al (HT (Ai (Ab (Ad (Qm Y (Qx (oS Y) Y (Qm Y (Al ?_)))))))))))))))))))))))))));rw[e];exact Ak (k-1-i) _ ω ⟨k-1,_,mhO2,Y,Y,Y,Y,ω,ω,hO2,st,permIn_trans _ _ _ _ _ P (swp_permIn d0 a (t+1) k (k-1) ω ω ω ω ω)⟩ Qs
    ·obtain rfl:k=i:=ω
     refine Aq (Aa (Aa (Af (Ab (An (Ae ?_))))));exact FQ Y (⟨Y,m0,d0,Y,hO0,P,Mp IV hA ⟨hi,hj⟩ c1 c2 R⟩)
  ·refine Ah (Ab (Ap (Qm Y (Qm Y (Qx (oA Y) Y (Qx (Cq Y U3 HM Y) Y (Qx (DX (n:=1) Y Y Y ω) Y (Qx (Cq Y HM U3 Y) Y (Qm Y (Am ?_))))))))));rw[Hg a b ω];obtain⟨mid,hmid⟩:∃mid,mid=(a+b)/2:=⟨_,Y⟩
   rw[<-hmid];refine Ap (Qm Y (Qm Y (Qx (oA Y) Y (Qm Y (BE (Qm Y (Qm Y (Am ?_))))))));refine A9 (λs h' ms'=>∃(s0 r0:Nat),s=[(0,v),(1,.w a),(2,.w t),(3,.w b),(4,(QC g)),(18,.w mid),(19,.w ((mid:Int)+t)),(20,.w s0),(21,.w r0)]/\h=h'/\ms'=[m]/\((mid<t/\s0+b=mid+t/\r0=mid)\/(t<=mid/\s0=a/\r0=t))) ?_ (λs h ms hI=>?_)
   ·refine Ac (Ad (Qm Y (Qm Y (Qm Y (Am ?_)))));refine Ar Y (λhgt=>?_) (λhgt=>?_)
    ·refine Ac (Ad (Qm Y (Qm Y (Qx (oS Y) Y (Qm Y (Gu (Qm Y (Qm Y (Al ?_)))))))));have e:(mid:Int)+t-b=((mid+t-b:Nat):Int):=ω
     rw[e];exact AE _ ⟨mid+t-b,mid,Y,Y,Y,.inl ⟨ω,ω,Y⟩⟩ Qs
    ·refine Ac (Ad (Qm Y (Qm Y (Gu (Qm Y (Qm Y (Al ?_)))))));exact AE _ ⟨a,t,Y,Y,Y,.inr ⟨ω,Y,Y⟩⟩ Qs
   ·obtain⟨s0,r0,rfl,rfl,rfl,hc⟩:=hI;refine Ap (Qm Y (Qx (oS Y) Y (Qm Y (Am (Ac (Ag ?_))))))
    refine Ax (λn s h' ms'=>∃(i j:Nat),n=j-i/\s=[(0,v),(1,.w a),(2,.w t),(3,.w b),(4,(QC g)),(18,.w mid),(19,.w ((mid:Int)+t)),(20,.w i),(21,.w j),(22,.w ((mid:Int)+t-1))]/\h=h'/\ms'=[m]/\s0<=i/\i<=j/\j<=r0/\(i=s0\/CS d[mid+t-i]! d[i-1]! = false)/\(j=r0\/CS d[mid+t-1-j]! d[j]! = true))
     (r0-s0) _ ⟨s0,r0,rfl,rfl,rfl,rfl,ω,ω,ω,.inl rfl,.inl rfl⟩ Qs ?_
    rintro n s h' ms' ⟨i,j,rfl,rfl,rfl,rfl,hi,hij,hj,c1,c2⟩;refine Ac (Ap (Qm Y (Qm Y (Qm Y (Am ?_)))));refine Ar Y (λhlt=>?_) (λhlt=>?_)
    ·refine Ah (Ab (Ag (Ap (Qm Y (Qm Y (Qx (oA Y) Y (Qx (Cq Y U3 HM Y) Y (Qx (DX (n:=1) Y Y Y ω) Y (Qx (Cq Y HM U3 Y) Y (Qm Y (Am ?_)))))))))));rw[Hg i j ω];refine Ac (A5 11 CT κ Y (Wm Y (Wm Y (Wm Y (Wm Y (AL (oS Y) Y Y (AL (Az (mid+t-1-(i+j)/2) (hO.rd (.head _)) Y Bi AH Y Y ω ω) Y Y (AL (oG Y Ef AH (hO.get (.head _) ω)) Y Y (Wm Y (Wm Y (AL (Az ((i+j)/2) (hO.rd (.head _)) Y Bi AH Y Y ω ω) Y Y (AL (oG Y Ef AH (hO.get (.head _) ω)) Y Y (AZ (Qx (Co Y Y call196 Y (NB _ _ _ g hg _)) Y (Qm Y (Qm Y (Am ?_)))))))))))))))));refine Bz Y (λhl=>?_) (λhl=>?_)
     ·have hl:CS d[mid+t-1-(i+j)/2]! d[(i+j)/2]! = false:=by unfold CS;simpa using hl
      refine Ad (Qm Y (Qx (oA Y) Y (Qm Y (Al (Ai ?_)))));exact Ak (j-((i+j)/2+1)) _ ω ⟨(i+j)/2+1,j,Y,Y,Y,Y,ω,ω,ω,.inr (by rw[Nat.add_sub_cancel,show mid+t-((i+j)/2+1)=mid+t-1-(i+j)/2 by omega];exact hl),c2⟩ Qs
     ·have hl:CS d[mid+t-1-(i+j)/2]! d[(i+j)/2]! = true:=by unfold CS;simpa using hl
      refine Ad (Qm Y (Qm Y (Al (Ai ?_))));exact Ak ((i+j)/2-i) _ ω ⟨i,(i+j)/2,Y,Y,Y,Y,ω,ω,ω,c1,.inr hl⟩ Qs
    ·obtain rfl:i=j:=ω
     obtain⟨e,he⟩:∃e,e=mid+t-i:=⟨_,Y⟩
     have he2:(mid:Int)+t-i=(e:Int):=ω
     refine Aq (Aa (Aa (Af (Ab (Ap (Qm Y (Qm Y (Qx (oS Y) Y (Qm Y (Am ?_))))))))));rw[he2]
     have k1:i=a\/e=b\/CS d[e]! d[i-1]! = false:=by
      rcases c1 with c|c
      ·rcases hc with hc|hc
       ·right;left;omega
       ·left;omega
      ·right;right;rw[he];exact c
     have k2:i=t\/e=t\/CS d[e-1]! d[i]! = true:=by
      rcases c2 with c|c
      ·rcases hc with hc|hc
       ·right;left;omega
       ·left;omega
      ·right;right;rw[show e-1=mid+t-1-i by omega];exact c
     have hgeo:a<=i/\i<=t/\i<=mid/\t<=e/\e<=b:=by rcases hc with hc|hc<;>omega
     have hs2:i+e=mid+t:=ω
     refine A9 (λs h' ms'=>∃(d1:Array CeO) (m1:Hp),s=[(0,v),(1,.w a),(3,.w b),(4,(QC g)),(18,.w mid),(20,.w i),(24,.w e)]/\h=h'/\ms'=[m1]/\OSC m1 v d1/\(∀k,d1[k]! = Fz d i t e k)/\PermIn a b d d1) ?_ (λs h ms hI=>?_)
     ·refine Ac (Ad (Qm Y (Qm Y (Qm Y (Qm Y ?_)))));refine AM (t:=181) Y (λq1=>?_) (λq1=>?_)
      ·refine Qg (As Y Y) Y (Qg (As Y Y) Y (Qg (Dp Y Y Y) Y (Qm Y (Am ?_))));refine Ar Y (λq2=>?_) (λq2=>?_)
       ·refine Ad (Qm Y (Qm Y (Qm Y (Qm Y (Qm Y (Bf (pre:=[m]) Y call298 Y (Q5 d v (QC g) m hO i t e a b ω ω ω ω ω ω ω h Y Y Y) Y Y Y Y (λr h1 ms1 l1 hF=>?_)))))));obtain⟨rfl,m1,d1,rfl,hO1,hr,P⟩:=hF;refine Al ?_;exact AE _ ⟨d1,m1,Y,Y,Y,hO1,hr,P⟩ Qs
       ·refine Ah ?_;exact AE _ ⟨d,m,Y,Y,Y,hO,λk=>(Hy ω k).symm,permIn_refl d a b⟩ Qs
      ·refine Qk Y (Qk Y (Qk Y (Qm Y (Am (AN Y (Ah ?_))))));exact AE _ ⟨d,m,Y,Y,Y,hO,λk=>(Hy ω k).symm,permIn_refl d a b⟩ Qs
     ·obtain⟨d1,m1,rfl,rfl,rfl,hO1,hr,P⟩:=hI;have C:=Xf IV hA hB hgeo hs2 hr k1 k2;have hd1:=P.1;refine A9 (λs h' ms'=>∃(d2:Array CeO) (m2:Hp),s=[(0,v),(3,.w b),(4,(QC g)),(18,.w mid),(24,.w e)]/\h=h'/\ms'=[m2]/\OSC m2 v d2/\PermIn a mid d1 d2/\SortedIn CS a mid d2) ?_ (λs h ms hI=>?_)
      ·refine Ac (Ad (Qm Y (Qm Y (Qm Y (Qm Y ?_)))));refine AM (t:=195) Y (λq1=>?_) (λq1=>?_)
       ·refine Qg (As Y Y) Y (Qg (As Y Y) Y (Qg (Dp Y Y Y) Y (Qm Y (Am ?_))));refine Ar Y (λq2=>?_) (λq2=>?_)
        ·refine Ad (Qm Y (Qm Y (Qm Y (Qm Y (Qm Y (Bf (pre:=[m1]) Y call277 Y (ih d1 v m1 hO1 a i mid ω ω ω ω ω C.lo C.lo2 h g hg Y Y Y) Y Y Y Y (λr h1 ms1 l1 hF=>?_)))))));obtain⟨rfl,m2,d2,rfl,hO2,P2,S2⟩:=hF;refine Al ?_;exact AE _ ⟨d2,m2,Y,Y,Y,hO2,P2,S2⟩ Qs
        ·obtain rfl:i=mid:=ω
         refine Ah ?_;exact AE _ ⟨d1,m1,Y,Y,Y,hO1,permIn_refl d1 a _,C.lo⟩ Qs
       ·obtain rfl:i=a:=ω
        refine Qk Y (Qk Y (Qk Y (Qm Y (Am (AN Y (Ah ?_))))));exact AE _ ⟨d1,m1,Y,Y,Y,hO1,permIn_refl d1 _ _,C.lo2⟩ Qs
      ·obtain⟨d2,m2,rfl,rfl,rfl,hO2,P2,S2⟩:=hI;have hd2:=P2.1;have f1:SortedIn CS mid e d2:=BQ C.hi λk h1 h2=>P2.2.1 k (.inr h1);have f2:SortedIn CS e b d2:=BQ C.hi2 λk h1 h2=>P2.2.1 k (.inr ω)
       have fin:∀d3,PermIn mid b d2 d3->SortedIn CS mid b d3->PermIn a b d d3/\SortedIn CS a b d3:=λd3 P3 S3=>
        ⟨permIn_trans _ _ _ _ _ P (permIn_trans _ _ _ _ _ (permIn_mono d1 d2 a mid a b ω ω ω P2) (permIn_mono d2 d3 mid b a b ω ω ω P3)),Ol C ω ω P2 S2 P3 S3⟩
       refine Ap (Qm Y (Qm Y (Qm Y (Qm Y ?_))));refine AM (t:=209) Y (λq1=>?_) (λq1=>?_)
       ·refine Qg (As Y Y) Y (Qg (As Y Y) Y (Qg (Dp Y Y Y) Y (Qm Y (Am ?_))));refine Ar Y (λq2=>?_) (λq2=>?_)
        ·refine Ad (Qm Y (Qm Y (Qm Y (Qm Y (Qm Y (Bf (pre:=[m2]) Y call277 Y (ih d2 v m2 hO2 mid e b ω ω ω ω ω f1 f2 h g hg Y Y Y) Y Y Y Y (λr h1 ms1 l1 hF=>?_)))))));obtain⟨rfl,m3,d3,rfl,hO3,P3,S3⟩:=hF;refine Al ?_;exact Cb Y (⟨Y,m3,d3,Y,hO3,(fin d3 P3 S3).1,(fin d3 P3 S3).2⟩)
        ·obtain rfl:e=b:=ω
         refine Ah ?_;exact Cb Y (⟨Y,m2,d2,Y,hO2,(fin d2 (permIn_refl d2 _ _) f1).1,(fin d2 (permIn_refl d2 _ _) f1).2⟩)
       ·obtain rfl:e=mid:=ω
        refine Qk Y (Qk Y (Qk Y (Qm Y (Am (AN Y (Ah ?_))))));exact Cb Y (⟨Y,m2,d2,Y,hO2,(fin d2 (permIn_refl d2 _ _) f2).1,(fin d2 (permIn_refl d2 _ _) f2).2⟩)
def BkC(d:Array CeO)(s n:Nat):Prop:=∀x,s∣x->SortedIn CS x (min (x+s) n) d
theorem ES{d:Array CeO}{a b b':Nat}(h:SortedIn CS a b d)(hb:b'<=b):SortedIn CS a b' d:=λi j h1 h2 h3=>h i j h1 h2 ω
theorem IJ{d:Array CeO}{a b:Nat}(hb:b<=a):SortedIn CS a b d:=λi j h1 h2 h3=>ω
theorem Rp(d:Array CeO)(v:Value)(m:Hp)(hO:OSC m v d)(hsz:d.size<=1000000)(h:Hp)(g:Nat)(hg:UC h g){n':Int}(en:n'=d.size) :
  FnT Tryz.prog 238 #[v,.w n',(QC g)] h [m] (λ_ h' ms'=>h=h'/\∃m' d',ms'=[m']/\OSC m' v d'/\PermIn 0 d.size d d'/\SortedIn CS 0 d.size d'):=by
 subst en;obtain⟨n,hn⟩:∃n,n=d.size:=⟨_,Y⟩
 rw[<-hn];refine Ao func238 ntmps238 Y Y (λw0 hw0=>?_);simp only[AX];refine Ap (Qm Y (BE (Qm Y (Qm Y (Qm Y (Am (Ac (Ag ?_))))))))
 refine Ax (λq s h' ms'=>∃(a:Nat) (d0:Array CeO) (m:Hp),q=n-a/\s=[(0,v),(1,.w n),(2,(QC g)),(6,.w 20),(7,.w a),(8,.w ((a:Int)+20))]/\h=h'/\ms'=[m]/\a<=n/\20∣a/\OSC m v d0/\PermIn 0 n d d0/\∀x,20∣x->x+20<=a->SortedIn CS x (x+20) d0)
  (n-0) _ ⟨0,d,m,rfl,rfl,rfl,rfl,ω,⟨0,rfl⟩,hO,permIn_refl d 0 n,λx _ h=>ω⟩ Qs ?_
 rintro q s h' ms' ⟨a,d0,m0,rfl,rfl,rfl,rfl,han,hda,hO0,P,hB⟩;have hds:=P.1;refine Ac (Ap (Qm Y (Qm Y (Qm Y (Am ?_)))));refine Ar Y (λhle=>?_) (λhle=>?_)
 ·refine Ah (Ab (Ag (Ap (Qm Y (Qm Y (Qm Y (Qm Y (Bf (pre:=[m0]) Y call240 Y (O7 d0 v m0 hO0 a (a+20) ω ω ω h g hg Y ω) Y Y Y Y (λr h1 ms1 l1 hF=>?_)))))))));obtain⟨rfl,m1,d1,rfl,hO1,P1,S1⟩:=hF;refine BE (Qm Y (Qm Y (Gu (Qm Y (Qm Y (Qx (oA Y) Y (Qm Y (Al (Ai ?_)))))))))
  exact Ak (n-(a+20)) _ ω ⟨a+20,d1,m1,Y,Y,Y,Y,ω,Nat.dvd_add hda ⟨1,Y⟩,hO1,permIn_trans _ _ _ _ _ P (permIn_mono d0 d1 a (a+20) 0 n ω ω ω P1),λx hx hx2=>by
   rcases Nat.lt_or_ge x a with h1|h1
   ·have:=Fb hx hda h1;exact BQ (hB x hx this) λk h2 h3=>P1.2.1 k (.inl ω)
   ·obtain rfl:x=a:=ω
    exact S1⟩ Qs
 ·refine Aq (Aa (Aa (Af (Ab (Ap (Qm Y (Qm Y (Qm Y (Qm Y (Bf (pre:=[m0]) Y call240 Y (O7 d0 v m0 hO0 a n ω ω ω h g hg Y Y) Y Y Y Y (λr h1 ms1 l1 hF=>?_)))))))))));obtain⟨rfl,m1,d1,rfl,hO1,P1,S1⟩:=hF;have PB:PermIn 0 n d d1:=permIn_trans _ _ _ _ _ P (permIn_mono d0 d1 a n 0 n ω ω ω P1)
  have B1:BkC d1 20 n:=λx hx=>by
   rcases Nat.lt_trichotomy x a with h1|rfl|h1
   ·have:=Fb hx hda h1;exact ES (BQ (hB x hx this) λk h2 h3=>P1.2.1 k (.inl ω)) ω
   ·exact ES S1 ω
   ·have:=Fb hda hx h1;exact IJ ω
  refine Am (Ag ?_)
  refine Ax (λq s h' ms'=>∃(w:Nat) (d0:Array CeO) (m:Hp),q=n-w/\s=[(0,v),(1,.w n),(2,(QC g)),(6,.w w)]/\h=h'/\ms'=[m]/\1<=w/\w<=4000000/\OSC m v d0/\PermIn 0 n d d0/\BkC d0 w n)
   (n-20) _ ⟨20,d1,m1,rfl,rfl,rfl,rfl,ω,ω,hO1,PB,B1⟩ Qs ?_
  rintro q s h' ms' ⟨w,d2,m2,rfl,rfl,rfl,rfl,hw1,hw2,hO2,P2,B2⟩;have hd2:=P2.1;refine Ac (Ap (Qm Y (Qm Y (Qm Y (Am ?_)))));refine Ar Y (λhlt=>?_) (λhlt=>?_)
  ·refine Ah (Ab (Ag (Ap (Qm Y (Qx (oM Y) Y (Qm Y (Qm Y (Am (Ac (Ag ?_))))))))))
   refine Ax (λq s h' ms'=>∃(a:Nat) (z:Int) (d0:Array CeO) (m:Hp),q=n-a/\s=[(0,v),(1,.w n),(2,(QC g)),(6,.w w),(7,.w a),(8,.w z)]/\h=h'/\ms'=[m]/\z=a+2*w/\a<=n/\2*w∣a/\OSC m v d0/\PermIn 0 n d d0/\(∀x,2*w∣x->x+2*w<=a->SortedIn CS x (x+2*w) d0)/\∀x,w∣x->a<=x->SortedIn CS x (min (x+w) n) d0)
    (n-0) _ ⟨0,2*(w:Int),d2,m2,rfl,rfl,rfl,rfl,ω,ω,⟨0,rfl⟩,hO2,P2,λx _ h=>ω,λx hx _=>B2 x hx⟩ Qs ?_
   rintro q s h' ms' ⟨a,z,d3,m3,rfl,rfl,rfl,rfl,rfl,han,hda,hO3,P3,hL,hR⟩;have hd3:=P3.1;have hwa:w∣a:=Nat.dvd_trans ⟨2,Nat.mul_comm 2 w⟩ hda;have hwa2:w∣a+w:=Nat.dvd_add hwa (Nat.dvd_refl w);have hwa3:2*w∣a+2*w:=Nat.dvd_add hda (Nat.dvd_refl _);have s1:=hR a hwa (ay _);have s2:=hR (a+w) hwa2 ω;refine Ac (Ap (Qm Y (Qm Y (Qm Y (Am ?_)))));refine Ar Y (λhle2=>?_) (λhle2=>?_)
   ·rw[show min (a+w) n=a+w by omega]at s1;rw[show min (a+w+w) n=a+2*w by omega]at s2;refine Ah (Ab (Ag (Ap (Qm Y (Qm Y (Qm Y (Qm Y (Qx (oA Y) Y (Qm Y (Qm Y (Bf (pre:=[m3]) Y call277 Y (Iy (2*w) d3 v m3 hO3 a (a+w) (a+2*w) ω ω ω ω ω s1 s2 h g hg Y ω ω) Y Y Y Y (λr h1 ms1 l1 hF=>?_))))))))))));obtain⟨rfl,m4,d4,rfl,hO4,P4,S4⟩:=hF;refine BE (Qm Y (Qm Y (Gu (Qm Y (Qm Y (Qx (oM Y) Y (Qx (oA Y) Y (Qm Y (Al (Ai ?_))))))))))
    exact Ak (n-(a+2*w)) _ ω ⟨a+2*w,(a:Int)+2*w+2*w,d4,m4,Y,Y,Y,Y,ω,ω,hwa3,hO4,permIn_trans _ _ _ _ _ P3 (permIn_mono d3 d4 a (a+2*w) 0 n ω ω ω P4),λx hx hx2=>by
     rcases Nat.lt_or_ge x a with h1|h1
     ·have:=Fb hx hda h1;exact BQ (hL x hx this) λk h2 h3=>P4.2.1 k (.inl ω)
     ·obtain rfl:x=a:=ω
      exact S4,λx hx hx2=>BQ (hR x hx ω) λk h2 h3=>P4.2.1 k (.inr ω)⟩ Qs
   ·have fin:∀d4,PermIn a n d3 d4->SortedIn CS a n d4->PermIn 0 n d d4/\BkC d4 (w*2) n:=λd4 P4 S4=>⟨permIn_trans _ _ _ _ _ P3 (permIn_mono d3 d4 a n 0 n ω ω ω P4),λx hx=>by
     rw[Nat.mul_comm]at hx ⊢;rcases Nat.lt_trichotomy x a with h1|rfl|h1
     ·have:=Fb hx hda h1;exact ES (BQ (hL x hx this) λk h2 h3=>P4.2.1 k (.inl ω)) ω
     ·exact ES S4 ω
     ·have:=Fb hda hx h1
      exact IJ ω⟩
    refine Aq (Aa (Aa (Af (Ab (Ac (Ap (Qm Y (Qm Y (Qx (oA Y) Y (Qm Y (BE (Qm Y (Qm Y (Qm Y (Am ?_)))))))))))))));refine Ar Y (λhm=>?_) (λhm=>?_)
    ·rw[show min (a+w) n=a+w by omega]at s1;rw[show min (a+w+w) n=n by omega]at s2;refine Ad (Qm Y (Qm Y (Qm Y (Qm Y (Qm Y (Bf (pre:=[m3]) Y call277 Y (Iy (2*w) d3 v m3 hO3 a (a+w) n ω ω ω ω ω s1 s2 h g hg Y ω Y) Y Y Y Y (λr h1 ms1 l1 hF=>?_)))))));obtain⟨rfl,m4,d4,rfl,hO4,P4,S4⟩:=hF;have:=fin d4 P4 S4;refine Gu (Qm Y (Qx (oM Y) Y (Qm Y (Al (Ai ?_)))));exact Ak (n-w*2) _ ω ⟨w*2,d4,m4,Y,Y,Y,Y,ω,ω,hO4,this.1,this.2⟩ Qs
    ·rw[show min (a+w) n=n by omega]at s1;have:=fin d3 (permIn_refl d3 a n) s1;refine Ah (Ab (Ad (Qm Y (Qx (oM Y) Y (Qm Y (Al (Ai ?_)))))));exact Ak (n-w*2) _ ω ⟨w*2,d3,m3,Y,Y,Y,Y,ω,ω,hO3,this.1,this.2⟩ Qs
  ·refine Aq (Aa (Aa (Af ?_)));exact Cb Y (⟨Y,m2,d2,Y,hO2,P2,by have:=B2 0 ⟨0,Y⟩;rwa [show min (0+w) n=n by omega]at this⟩)
theorem Kz(d:Array CeO)(v:Value)(m:Hp)(hO:OSC m v d)(hsz:d.size<=1000000)(h:Hp)(g:Nat)(hg:UC h g) :
  FnT Tryz.prog 195 #[v,(QC g)] h [m] (λ_ h' ms'=>h=h'/\∃m' d',ms'=[m']/\OSC m' v d'/\PermIn 0 d.size d d'/\SortedIn CS 0 d.size d'):=by
 refine Ao func195 ntmps195 Y Y (λw0 hw0=>?_);simp only[AX];refine Ad (Qm Y (Qm Y (Qx (Av (hO.rd (.head _)) Y Bi Y) Y (Qm Y (Bf (pre:=[m]) Y call238 Y (Rp d v m hO hsz h g hg Y) Y Y Y Y (λr h1 ms1 l1 hF=>?_))))));obtain⟨rfl,m4,d4,rfl,hO4,P4,S4⟩:=hF;refine Al ?_;exact Cb Y (⟨Y,m4,d4,Y,hO4,P4,S4⟩)
variable {m h:Hp} {v:Value} {d:Array IQ} {ms:List Hp}
abbrev OSD(m:Hp)(v:Value)(d:Array IQ):Prop:=OwnL cD 2 119 m v d.toList
theorem OSD.rd(O:OSD m v d)(hm:m∈ms):Rd h ms v 2 d.size (d.toList.flatMap cD):=by have:=(OwnL.rd O hm (h:=h)).rd;rwa [Array.length_toList]at this
theorem OSD.get(O:OSD m v d)(hm:m∈ms){j:Nat}(hj:j<d.size):Seg h ms ((AF v).add (j*2)) (cD d[j]!):=by have:=(OwnL.rd O hm (h:=h)).seg (j:=j) (by simpa using hj);simpa[hj] using this
theorem DF{e:Entry}{Q:Exit->Act->World->Prop}{ops:Array Oper}{rest:List Oper}{o:Oper}{s:AC}{t:TypeId}{x y:Operand}{z:Value}{bytes:Nat}{a:IQ}(i j:Nat)(O:OSD m v d)(ho:o.op=.store t x y)(hs:Elem e.P t 2 z bytes)(hx:ev s x=some (.pointer (some ((AF v).add (j*2)))))(hy:ev s y=some (.agg (cD a).toArray))
  (hm:ms[i]?=some m) (hj:j<d.size) (hd:o.dst=none) (hg:o.guard=none)
  (K:∀m',(d.setIfInBounds j a).size=d.size->OSD m' v (d.setIfInBounds j a)->WL e ops Q rest s h (ms.set i m')):WL e ops Q (o::rest) s h ms:=
 FF i j a O ho hs hx hy rfl (GH a) hm (by simpa using hj) hd hg λm' O'=>K m' (by simp) (by
  show OwnL cD 2 119 m' v (d.setIfInBounds j a).toList
  rw[Array.toList_setIfInBounds];exact O')
theorem F3(d:Array IQ)(v cv:Value)(m:Hp)(hO:OSD m v d)(a b n lo hi:Nat)(hab:a+n<=b)(hb:b+n<=d.size)(hsz:d.size<=1000000)(hlo:lo<=a)(hhi:b+n<=hi)(hhs:hi<=d.size)(h:Hp){a' b' n':Int}(ea:a'=a)(eb:b'=b)(en:n'=n) :
  FnT Tryz.prog 309 #[v,.w a',.w b',.w n',cv] h [m] (λ_ h' ms'=>h=h'/\∃m' d',ms'=[m']/\OSD m' v d'/\SwR d d' a b n/\PermIn lo hi d d'):=by
 subst ea eb en;refine Ao func309 ntmps309 Y Y (λw0 hw0=>?_);simp only[AX];refine Ap (Qm Y (Am (Ag ?_)))
 refine Ax (λq s h' ms'=>∃(i:Nat) (d0:Array IQ) (m:Hp),q=n-i/\s=[(0,v),(1,.w a),(2,.w b),(3,.w n),(10,.w i)]/\h=h'/\ms'=[m]/\i<=n/\OSD m v d0/\SwR d d0 a b i/\PermIn lo hi d d0)
  (n-0) _ ⟨0,d,m,rfl,rfl,rfl,rfl,ω,hO,SwR.start d a b,permIn_refl d lo hi⟩ Qs ?_
 rintro q s h' ms' ⟨i,d0,m0,rfl,rfl,rfl,rfl,hi2,hO0,S,P⟩;have hds:=S.1;refine Ac (Ap (Qm Y (Qm Y (Qm Y (Am ?_)))));refine Ar Y (λhlt=>?_) (λhlt=>?_)
 ·refine Ah (Ab (Ac (Ag (DV 20 [false,false,false,false,true,true,true,true] CT κ κ κ (Ed Y Y Y Y (Cn Y Y) (Ed Y Y Y Y (Cn Y Y) (Ed Y Y Y Y (Cn Y Y) (Ed Y Y Y Y (Nm Y Y Y ω) ?_))))))));refine⟨Y,?_⟩;simp only[EL,zap,bh,av,take_succ_cons,take_zero,drop_succ_cons,drop_zero,List.take_nil,List.drop_nil];refine Wm Y (Wm Y (Wm Y (AL (oA Y) Y Y (Ee Y Y Y (Ee Y Y Y (Ee Y Y Y (Ee Y Y Y (Wm Y (Wm Y (Wm Y (AL (oA Y) Y Y (AL (Az (b+i) (hO0.rd (.head _)) Y BZ AO Y Y ω ω) Y Y (AL (oG Y D4 AO (hO0.get (.head _) ω)) Y Y (Wm Y (Wm Y (Wm Y (AL (oA Y) Y Y (AL (Az (a+i) (hO0.rd (.head _)) Y BZ AO Y Y ω ω) Y Y (AL (oG Y D4 AO (hO0.get (.head _) ω)) Y Y (AZ (Qx (Az (a+i) (hO0.rd (.head _)) Y BZ AO Y Y ω ω) Y (DF 0 _ hO0 Y AO Y Y Y ω Y Y (λmhO1 hzhO1 hO1=>Qx (Az (b+i) (hO1.rd (.head _)) Y BZ AO Y Y ω ω) Y (DF 0 _ hO1 Y AO Y Y Y ω Y Y (λmhO2 hzhO2 hO2=>Al (HT (Ai (Ab (Ad (Qm Y (Qx (oA Y) Y (Qm Y (Al ?_)))))))))))))))))))))))))))))))));refine Ak (n-(i+1)) _ ω ⟨i+1,_,mhO2,Y,Y,Y,Y,ω,hO2,S.step ω ω,permIn_trans _ _ _ _ _ P (swp_permIn d0 lo hi (a+i) (b+i) ω ω ω ω ω)⟩ Qs
 ·obtain rfl:i=n:=ω
  refine Aq (Aa (Aa (Af ?_)));exact Cb Y (⟨Y,m0,d0,Y,hO0,S,P⟩)
theorem RO(d:Array IQ)(v cv:Value)(m:Hp)(hO:OSD m v d)(a t b lo hi:Nat)(hat:a<t)(htb:t<b)(hb:b<=d.size)(hsz:d.size<=1000000)(hlo:lo<=a)(hhi:b<=hi)(hhs:hi<=d.size)(h:Hp){a' t' b':Int}(ea:a'=a)(et:t'=t)(eb:b'=b) :
  FnT Tryz.prog 299 #[v,.w a',.w t',.w b',cv] h [m] (λ_ h' ms'=>h=h'/\∃m' d',ms'=[m']/\OSD m' v d'/\(∀k,d'[k]! = Fz d a t b k)/\PermIn lo hi d d'):=by
 subst ea et eb;refine Ao func299 ntmps299 Y Y (λw0 hw0=>?_);simp only[AX];refine Ap (Qm Y (Qm Y (Qx (oS Y) Y (Qm Y (BE (Qm Y (Qm Y (Qx (oS Y) Y (Qm Y (Am (Ac (Ag ?_))))))))))))
 refine Ax (λq s h' ms'=>∃(i j:Nat) (x y:Int) (d0:Array IQ) (m:Hp),q=i+j/\s=[(0,v),(2,.w t),(4,cv),(10,.w x),(11,.w y)]/\h=h'/\ms'=[m]/\x=i/\y=j/\0<i/\0<j/\a+i<=t/\t+j<=b/\OSD m v d0/\(∀k,Fz d0 (t-i) t (t+j) k=Fz d a t b k)/\PermIn lo hi d d0)
  ((t-a)+(b-t)) _ ⟨t-a,b-t,(t:Int)-a,(b:Int)-t,d,m,rfl,rfl,rfl,rfl,ω,ω,ω,ω,ω,ω,hO,λk=>by rw[show t-(t-a)=a by omega,show t+(b-t)=b by omega],permIn_refl d lo hi⟩ Qs ?_
 rintro q s h' ms' ⟨i,j,x,y,d0,m0,rfl,rfl,rfl,rfl,rfl,rfl,hi0,hj0,hai,hjb,hO0,hR,P⟩;have hds:=P.1;refine Ac (Ap (Qm Y (Qm Y (Qm Y (Am ?_)))));refine Ar Y (λhne=>?_) (λhne=>?_)
 ·refine Ah (Ab (Ag (Ap (Qm Y (Qm Y (Qm Y (Am ?_)))))));refine Ar Y (λhgt=>?_) (λhgt=>?_)
  ·refine Ac (Ad (Qm Y (Qm Y (Qm Y (Qx (oS Y) Y (Qm Y (Qm Y (Qm Y (Bf (pre:=[m0]) Y call309 Y (F3 d0 v cv m0 hO0 (t-i) t j lo hi ω ω ω ω ω ω h ω Y Y) Y Y Y Y (λr h1 ms1 l1 hF=>?_))))))))));obtain⟨rfl,m1,d1,rfl,hO1,S,P1⟩:=hF;refine Gu (Qm Y (Qm Y (Qx (oS Y) Y (Qm Y (Al (Ai ?_))))));refine Ak ((i-j)+j) _ ω ⟨i-j,j,(i:Int)-j,j,d1,m1,Y,Y,Y,Y,ω,Y,ω,ω,ω,ω,hO1,λk=>(Px ω ω S k).trans (hR k),permIn_trans _ _ _ _ _ P P1⟩ Qs
  ·refine Ac (Ad (Qm Y (Qm Y (Qm Y (Qx (oS Y) Y (Qm Y (Qm Y (Qx (oA Y) Y (Qm Y (Qx (oS Y) Y (Qm Y (Qm Y (Bf (pre:=[m0]) Y call309 Y (F3 d0 v cv m0 hO0 (t-i) (t+j-i) i lo hi ω ω ω ω ω ω h ω ω Y) Y Y Y Y (λr h1 ms1 l1 hF=>?_))))))))))))));obtain⟨rfl,m1,d1,rfl,hO1,S,P1⟩:=hF;refine Gu (Qm Y (Qm Y (Qx (oS Y) Y (Qm Y (Al (Ai ?_))))));refine Ak (i+(j-i)) _ ω ⟨i,j-i,i,(j:Int)-i,d1,m1,Y,Y,Y,Y,Y,ω,ω,ω,ω,ω,hO1,λk=>(K3 ω ω S k).trans (hR k),permIn_trans _ _ _ _ _ P P1⟩ Qs
 ·obtain rfl:i=j:=ω
  refine Aq (Aa (Aa (Af (Ab (Ad (Qm Y (Qm Y (Qm Y (Qx (oS Y) Y (Qm Y (Qm Y (Qm Y (Bf (pre:=[m0]) Y call309 Y (F3 d0 v cv m0 hO0 (t-i) t i lo hi ω ω ω ω ω ω h ω Y Y) Y Y Y Y (λr h1 ms1 l1 hF=>?_))))))))))))));obtain⟨rfl,m1,d1,rfl,hO1,S,P1⟩:=hF;refine Al ?_;exact Cb Y (⟨Y,m1,d1,Y,hO1,λk=>(Pu ω S k).trans (hR k),permIn_trans _ _ _ _ _ P P1⟩)
end Go.Proofs.Q

namespace Go.Proofs.Q
open Go.Proofs.Tryz
open Go.Eng Go.RowKit Go.Lin Go.Sort Go.Srt
theorem OZ(d:Array IQ)(v:Value)(m:Hp)(hO:OSD m v d)(a b:Nat)(hab:a<=b)(hb:b<=d.size)(hsz:d.size<=1000000)(h:Hp)(g:Nat)(hg:Ul h g){a' b':Int}(ea:a'=a)(eb:b'=b) :
  FnT Tryz.prog 278 #[v,.w a',.w b',(Qz g)] h [m] (λ_ h' ms'=>h=h'/\∃m' d',ms'=[m']/\OSD m' v d'/\PermIn a b d d'/\SortedIn CX a b d'):=by
 subst ea eb;have hfin:=insertionSort_holds (lt:=CX) Jc d a b hab hb;refine Ao func278 ntmps278 Y Y (λw0 hw0=>?_);simp only[AX];refine Ap (Qm Y (Qx (oA Y) Y (Qm Y (Am (Ag ?_)))))
 refine Ax (λn s h' ms'=>∃(i:Nat) (z:Int) (d':Array IQ) (m:Hp),n=b-i/\s=[(0,v),(1,.w a),(2,.w b),(3,(Qz g)),(8,.w z)]/\h=h'/\ms'=[m]/\z=i/\a<i/\i<=4611686018427387905/\OSD m v d'/\d'.size=d.size/\insOuter CX a b i d'=insertionSort CX d a b)
  _ _ ⟨a+1,(a:Int)+1,d,m,rfl,rfl,rfl,rfl,ω,ω,ω,hO,rfl,rfl⟩ Qs ?_
 rintro n s h' ms' ⟨i,z,d',m,rfl,rfl,rfl,rfl,hz,hai,hi,hO,hds,hR⟩;refine Ac (Ap (Qm Y (Qm Y (Qm Y (Am ?_)))));refine Ar Y (λhlt=>?_) (λhlt=>?_)
 ·refine Ah (Ab (Ac (Ag (Ap (Qm Y (Qm Y (Am (Ag ?_))))))))
  refine Ax (λn s h' ms'=>∃(j:Nat) (y:Int) (d':Array IQ) (m:Hp),j=n/\s=[(0,v),(1,.w a),(2,.w b),(3,(Qz g)),(8,.w z),(9,.w y)]/\h=h'/\ms'=[m]/\y=j/\j<=i/\OSD m v d'/\d'.size=d.size/\insOuter CX a b (i+1) (insInner CX a j d')=insertionSort CX d a b)
   _ _ ⟨i,z,d',m,rfl,rfl,rfl,rfl,hz,ω,hO,hds,by rw[<-hR];conv=>rhs;unfold insOuter;rw[ab ω]⟩ Qs ?_
  rintro n s h' ms' ⟨j,y,d1,m1,rfl,rfl,rfl,rfl,hy,hji,hO1,hds1,hR1⟩;refine Ac (Ac (A5 14 CT κ Y (Wm Y (Wm Y (Wm Y (Wm Y ?_))))));refine Cp (t:=21) Y (λhja=>?_) (λhja=>?_)
  ·refine AK (As Y Y) Y Y Y Y (AK (As Y Y) Y Y Y Y (AK (As Y Y) Y Y Y Y (AK (Az (j) (hO1.rd (.head _)) Y BZ AO Y Y ω ω) Y Y Y Y (AK (oG Y D4 AO (hO1.get (.head _) ω)) Y Y Y Y (AK (As Y Y) Y Y Y Y (AK (As Y Y) Y Y Y Y (AK (oS Y) Y Y Y Y (AK (Az (j-1) (hO1.rd (.head _)) Y BZ AO Y Y ω ω) Y Y Y Y (AK (oG Y D4 AO (hO1.get (.head _) ω)) Y Y Y Y (AZ (Qg (Co Y Y call199 Y (M5 _ _ _ g hg _)) Y (Qg (Dp Y Y Y) Y (Qm Y (Am ?_))))))))))))));refine Bz Y (λhl=>?_) (λhl=>?_)
   ·refine Ah (Ab (Ac (Ag (DV 14 [false,false,true,true,true] CT κ κ κ (Ed Y Y Y Y (Cn Y Y) (Ed Y Y Y Y (Cn Y Y) (Ed Y Y Y Y (Ns Y Y Y ω) ?_)))))));refine⟨Y,?_⟩;simp only[EL,zap,bh,av,take_succ_cons,take_zero,drop_succ_cons,drop_zero,List.take_nil,List.drop_nil];refine Wm Y (Wm Y (Ee Y Y Y (Ee Y Y Y (Ee Y Y Y (Wm Y (Wm Y (AL (oS Y) Y Y (AL (Az (j-1) (hO1.rd (.head _)) Y BZ AO Y Y ω ω) Y Y (AL (oG Y D4 AO (hO1.get (.head _) ω)) Y Y (Wm Y (Wm Y (AL (Az (j) (hO1.rd (.head _)) Y BZ AO Y Y ω ω) Y Y (AL (oG Y D4 AO (hO1.get (.head _) ω)) Y Y (AZ (Qx (Az (j) (hO1.rd (.head _)) Y BZ AO Y Y ω ω) Y (DF 0 _ hO1 Y AO Y Y Y ω Y Y (λmhO2 hzhO2 hO2=>Qx (Az (j-1) (hO2.rd (.head _)) Y BZ AO Y Y ω ω) Y (DF 0 _ hO2 Y AO Y Y Y ω Y Y (λmhO3 hzhO3 hO3=>Al (HT (Ai (Ab (Ad (Qm Y (Qx (oS Y) Y (Qm Y (Al ?_)))))))))))))))))))))))))));obtain⟨j',rfl⟩:∃j',j=j'+1:=⟨j-1,ω⟩
    refine Ak j' _ ω ⟨j',y-1,_,mhO3,Y,Y,Y,Y,ω,ω,hO3,by simp[hds1],?_⟩ Qs;rw[<-hR1]
    conv=>rhs;unfold insInner
    rw[ab (by rw[bj];exact⟨ag ω,hl⟩)];rfl
   ·refine Aq (Aa (Aa (Af (Ai (Ab (Ad (Qm Y (Qx (oA Y) Y (Qm Y (Al ?_))))))))));refine Ak (b-(i+1)) _ ω ⟨i+1,z+1,d1,m1,Y,Y,Y,Y,ω,ω,ω,hO1,hds1,?_⟩ Qs;rw[<-hR1];obtain⟨j',rfl⟩:∃j',j=j'+1:=⟨j-1,ω⟩
    conv=>rhs;unfold insInner
    rw[aa (by rw[bj];rintro⟨_,h2⟩;exact absurd (hl.symm.trans h2) (by decide))]
  ·refine Ay Y Y Y Y Y (Ay Y Y Y Y Y (Ay Y Y Y Y Y (Ay Y Y Y Y Y (Ay Y Y Y Y Y (Ay Y Y Y Y Y (Ay Y Y Y Y Y (Ay Y Y Y Y Y (Ay Y Y Y Y Y (Ay Y Y Y Y Y (AZ (Qk Y (Qk Y (Qm Y (Am (AN Y (Aq (Aa (Aa (Af (Ai (Ab (Ad (Qm Y (Qx (oA Y) Y (Qm Y (Al ?_))))))))))))))))))))))))));refine Ak (b-(i+1)) _ ω ⟨i+1,z+1,d1,m1,Y,Y,Y,Y,ω,ω,ω,hO1,hds1,?_⟩ Qs;rw[<-hR1];cases j with
   | zero=>rfl
   | succ j'=>
    conv=>rhs;unfold insInner
    rw[aa (by simp;intro h';omega)]
 ·refine Aq (Aa (Aa (Af ?_)));exact Cb Y (⟨Y,m,insertionSort CX d a b,Y,by rw[<-hR];unfold insOuter;rw[aa ω];exact hO,hfin.1,hfin.2⟩)
theorem Jf:∀(N:Nat) (d:Array IQ) (v:Value) (m:Hp) (hO:OSD m v d) (a t b:Nat) (hN:b-a<=N) (hat:a<t) (htb:t<b) (hb:b<=d.size) (hsz:d.size<=1000000) (hA:SortedIn CX a t d) (hB:SortedIn CX t b d) (h:Hp) (g:Nat) (hg:Ul h g) {a' t' b':Int} (ea:a'=a) (et:t'=t) (eb:b'=b),
  FnT Tryz.prog 279 #[v,.w a',.w t',.w b',(Qz g)] h [m] (λ_ h' ms'=>h=h'/\∃m' d',ms'=[m']/\OSD m' v d'/\PermIn a b d d'/\SortedIn CX a b d'):=by
 intro N
 induction N with
 | zero=>intro d v m hO a t b hN hat htb;omega
 | succ N ih=>
 intro d v m hO a t b hN hat htb hb hsz hA hB h g hg a' t' b' ea et eb;subst ea et eb;refine Ao func279 ntmps279 Y Y (λw0 hw0=>?_);simp only[AX];refine Ac (Ap (Qm Y (Qm Y (Qx (oS Y) Y (Qm Y (Am ?_))))));refine Ar Y (λh1=>?_) (λh1=>?_)
 ·-- one element on the left
  obtain rfl:t=a+1:=ω
  refine Ap (Qm Y (Qm Y (BE (Qm Y (Qm Y (Am (Ac (Ag ?_))))))))
  refine Ax (λn s h' ms'=>∃(i j:Nat),n=j-i/\s=[(0,v),(1,.w a),(4,(Qz g)),(10,.w i),(11,.w j)]/\h=h'/\ms'=[m]/\a+1<=i/\i<=j/\j<=b/\(i=a+1\/CX d[i-1]! d[a]! = true)/\(j=b\/CX d[j]! d[a]! = false))
   (b-(a+1)) _ ⟨a+1,b,rfl,rfl,rfl,rfl,ω,ω,ω,.inl rfl,.inl rfl⟩ Qs ?_
  rintro n s h' ms' ⟨i,j,rfl,rfl,rfl,rfl,hi,hij,hj,c1,c2⟩;refine Ac (Ap (Qm Y (Qm Y (Qm Y (Am ?_)))));refine Ar Y (λhlt=>?_) (λhlt=>?_)
  ·refine Ah (Ab (Ag (Ap (Qm Y (Qm Y (Qx (oA Y) Y (Qx (Cq Y U3 HM Y) Y (Qx (DX (n:=1) Y Y Y ω) Y (Qx (Cq Y HM U3 Y) Y (Qm Y (Am ?_)))))))))));rw[Hg i j ω];refine Ac (A5 9 CT κ Y (Wm Y (Wm Y (Wm Y (AL (Az ((i+j)/2) (hO.rd (.head _)) Y BZ AO Y Y ω ω) Y Y (AL (oG Y D4 AO (hO.get (.head _) ω)) Y Y (Wm Y (Wm Y (AL (Az (a) (hO.rd (.head _)) Y BZ AO Y Y ω ω) Y Y (AL (oG Y D4 AO (hO.get (.head _) ω)) Y Y (AZ (Qx (Co Y Y call199 Y (M5 _ _ _ g hg _)) Y (Qm Y (Am ?_))))))))))))));refine Bz Y (λhl=>?_) (λhl=>?_)
   ·refine Ad (Qm Y (Qx (oA Y) Y (Qm Y (Al (Ai ?_)))));exact Ak (j-((i+j)/2+1)) _ ω ⟨(i+j)/2+1,j,Y,Y,Y,Y,ω,ω,ω,.inr (by rw[Nat.add_sub_cancel];exact hl),c2⟩ Qs
   ·refine Ad (Qm Y (Qm Y (Al (Ai ?_))));exact Ak ((i+j)/2-i) _ ω ⟨i,(i+j)/2,Y,Y,Y,Y,ω,ω,ω,c1,.inr hl⟩ Qs
  ·obtain rfl:i=j:=ω
   refine Aq (Aa (Aa (Af (Ab (Ac (Ap (Qm Y (Qm Y (Am (Ag ?_))))))))))
   refine Ax (λn s h' ms'=>∃(k:Nat) (d0:Array IQ) (m:Hp),n=i-1-k/\s=[(0,v),(10,.w i),(13,.w k)]/\h=h'/\ms'=[m]/\a<=k/\k<=i-1/\OSD m v d0/\InsR d d0 a k/\PermIn a b d d0)
    (i-1-a) _ ⟨a,d,m,rfl,rfl,rfl,rfl,ω,ω,hO,InsR.start d a,permIn_refl d a b⟩ Qs ?_
   rintro n s h' ms' ⟨k,d0,m0,rfl,rfl,rfl,rfl,hak,hki,hO0,R,P⟩;have hds:=R.1;refine Ac (Ap (Qm Y (Qm Y (Qx (oS Y) Y (Qm Y (Am ?_))))));refine Ar Y (λhltk=>?_) (λhltk=>?_)
   ·refine Ah (Ab (Ac (Ag (DV 14 [false,false,true,true,true] CT κ κ κ (Ed Y Y Y Y (Cn Y Y) (Ed Y Y Y Y (Cn Y Y) (Ed Y Y Y Y (Nm Y Y Y ω) ?_)))))));refine⟨Y,?_⟩;simp only[EL,zap,bh,av,take_succ_cons,take_zero,drop_succ_cons,drop_zero,List.take_nil,List.drop_nil];refine Wm Y (Wm Y (Ee Y Y Y (Ee Y Y Y (Ee Y Y Y (Wm Y (Wm Y (AL (oA Y) Y Y (AL (Az (k+1) (hO0.rd (.head _)) Y BZ AO Y Y ω ω) Y Y (AL (oG Y D4 AO (hO0.get (.head _) ω)) Y Y (Wm Y (Wm Y (AL (Az (k) (hO0.rd (.head _)) Y BZ AO Y Y ω ω) Y Y (AL (oG Y D4 AO (hO0.get (.head _) ω)) Y Y (AZ (Qx (Az (k) (hO0.rd (.head _)) Y BZ AO Y Y ω ω) Y (DF 0 _ hO0 Y AO Y Y Y ω Y Y (λmhO1 hzhO1 hO1=>Qx (Az (k+1) (hO1.rd (.head _)) Y BZ AO Y Y ω ω) Y (DF 0 _ hO1 Y AO Y Y Y ω Y Y (λmhO2 hzhO2 hO2=>Al (HT (Ai (Ab (Ad (Qm Y (Qx (oA Y) Y (Qm Y (Al ?_)))))))))))))))))))))))))));exact Ak (i-1-(k+1)) _ ω ⟨k+1,_,mhO2,Y,Y,Y,Y,ω,ω,hO2,R.step hak ω,permIn_trans _ _ _ _ _ P (swp_permIn d0 a b k (k+1) ω ω ω ω ω)⟩ Qs
   ·obtain rfl:k=i-1:=ω
    refine Aq (Aa (Aa (Af (Ab (An (Ae ?_))))));exact FQ Y (⟨Y,m0,d0,Y,hO0,P,KR Jc hB ⟨hi,hj⟩ c1 c2 R⟩)
 ·refine Ah (Ab (Ac (Ap (Qm Y (Qm Y (Qx (oS Y) Y (Qm Y (Am ?_))))))));refine Ar Y (λh2=>?_) (λh2=>?_)
  ·-- one element on the right
   obtain rfl:b=t+1:=ω
   refine Ap (Qm Y (Qm Y (BE (Qm Y (Qm Y (Am (Ac (Ag ?_))))))))
   refine Ax (λn s h' ms'=>∃(i j:Nat),n=j-i/\s=[(0,v),(1,.w a),(2,.w t),(4,(Qz g)),(14,.w i),(15,.w j)]/\h=h'/\ms'=[m]/\a<=i/\i<=j/\j<=t/\(i=a\/CX d[t]! d[i-1]! = false)/\(j=t\/CX d[t]! d[j]! = true))
    (t-a) _ ⟨a,t,rfl,rfl,rfl,rfl,ω,ω,ω,.inl rfl,.inl rfl⟩ Qs ?_
   rintro n s h' ms' ⟨i,j,rfl,rfl,rfl,rfl,hi,hij,hj,c1,c2⟩;refine Ac (Ap (Qm Y (Qm Y (Qm Y (Am ?_)))));refine Ar Y (λhlt=>?_) (λhlt=>?_)
   ·refine Ah (Ab (Ag (Ap (Qm Y (Qm Y (Qx (oA Y) Y (Qx (Cq Y U3 HM Y) Y (Qx (DX (n:=1) Y Y Y ω) Y (Qx (Cq Y HM U3 Y) Y (Qm Y (Am ?_)))))))))));rw[Hg i j ω];refine Ac (A5 9 CT κ Y (Wm Y (Wm Y (Wm Y (AL (Az (t) (hO.rd (.head _)) Y BZ AO Y Y ω ω) Y Y (AL (oG Y D4 AO (hO.get (.head _) ω)) Y Y (Wm Y (Wm Y (AL (Az ((i+j)/2) (hO.rd (.head _)) Y BZ AO Y Y ω ω) Y Y (AL (oG Y D4 AO (hO.get (.head _) ω)) Y Y (AZ (Qx (Co Y Y call199 Y (M5 _ _ _ g hg _)) Y (Qm Y (Qm Y (Am ?_)))))))))))))));refine Bz Y (λhl=>?_) (λhl=>?_)
    ·have hl:CX d[t]! d[(i+j)/2]! = false:=by unfold CX;simpa using hl
     refine Ad (Qm Y (Qx (oA Y) Y (Qm Y (Al (Ai ?_)))));exact Ak (j-((i+j)/2+1)) _ ω ⟨(i+j)/2+1,j,Y,Y,Y,Y,ω,ω,ω,.inr (by rw[Nat.add_sub_cancel];exact hl),c2⟩ Qs
    ·have hl:CX d[t]! d[(i+j)/2]! = true:=by unfold CX;simpa using hl
     refine Ad (Qm Y (Qm Y (Al (Ai ?_))));exact Ak ((i+j)/2-i) _ ω ⟨i,(i+j)/2,Y,Y,Y,Y,ω,ω,ω,c1,.inr hl⟩ Qs
   ·obtain rfl:i=j:=ω
    refine Aq (Aa (Aa (Af (Ab (Ac (Ap (Qm Y (Qm Y (Am (Ag ?_))))))))))
    refine Ax (λn s h' ms'=>∃(k:Nat) (d0:Array IQ) (m:Hp),n=k-i/\s=[(0,v),(14,.w i),(17,.w k)]/\h=h'/\ms'=[m]/\i<=k/\k<=t/\OSD m v d0/\ShR d d0 t k/\PermIn a (t+1) d d0)
     (t-i) _ ⟨t,d,m,rfl,rfl,rfl,rfl,ω,ω,hO,ShR.start d t,permIn_refl d a (t+1)⟩ Qs ?_
    rintro n s h' ms' ⟨k,d0,m0,rfl,rfl,rfl,rfl,hik,hkt,hO0,R,P⟩;have hds:=R.1;refine Ac (Ap (Qm Y (Qm Y (Qm Y (Am ?_)))));refine Ar Y (λhltk=>?_) (λhltk=>?_)
    ·have st:ShR d (Go.Sort.swp d0 k (k-1)) t (k-1):=by
      obtain⟨k',rfl⟩:∃k',k=k'+1:=⟨k-1,ω⟩
      exact R.step ω ω
     have e:(k:Int)-1=((k-1:Nat):Int):=ω
     refine Ah (Ab (Ac (Ag (DV 14 [false,false,true,true,true] CT κ κ κ (Ed Y Y Y Y (Cn Y Y) (Ed Y Y Y Y (Cn Y Y) (Ed Y Y Y Y (Ns Y Y Y ω) ?_)))))));refine⟨Y,?_⟩;simp only[EL,zap,bh,av,take_succ_cons,take_zero,drop_succ_cons,drop_zero,List.take_nil,List.drop_nil];refine Wm Y (Wm Y (Ee Y Y Y (Ee Y Y Y (Ee Y Y Y (Wm Y (Wm Y (AL (oS Y) Y Y (AL (Az (k-1) (hO0.rd (.head _)) Y BZ AO Y Y ω ω) Y Y (AL (oG Y D4 AO (hO0.get (.head _) ω)) Y Y (Wm Y (Wm Y (AL (Az (k) (hO0.rd (.head _)) Y BZ AO Y Y ω ω) Y Y (AL (oG Y D4 AO (hO0.get (.head _) ω)) Y Y (AZ (Qx (Az (k) (hO0.rd (.head _)) Y BZ AO Y Y ω ω) Y (DF 0 _ hO0 Y AO Y Y Y ω Y Y (λmhO1 hzhO1 hO1=>Qx (Az (k-1) (hO1.rd (.head _)) Y BZ AO Y Y ω ω) Y (DF 0 _ hO1 Y AO Y Y Y ω Y Y (λmhO2 hzhO2 hO2=>Al (HT (Ai (Ab (Ad (Qm Y (Qx (oS Y) Y (Qm Y (Al ?_)))))))))))))))))))))))))));rw[e];exact Ak (k-1-i) _ ω ⟨k-1,_,mhO2,Y,Y,Y,Y,ω,ω,hO2,st,permIn_trans _ _ _ _ _ P (swp_permIn d0 a (t+1) k (k-1) ω ω ω ω ω)⟩ Qs
    ·obtain rfl:k=i:=ω
     refine Aq (Aa (Aa (Af (Ab (An (Ae ?_))))));exact FQ Y (⟨Y,m0,d0,Y,hO0,P,Mp Jc hA ⟨hi,hj⟩ c1 c2 R⟩)
  ·refine Ah (Ab (Ap (Qm Y (Qm Y (Qx (oA Y) Y (Qx (Cq Y U3 HM Y) Y (Qx (DX (n:=1) Y Y Y ω) Y (Qx (Cq Y HM U3 Y) Y (Qm Y (Am ?_))))))))));rw[Hg a b ω];obtain⟨mid,hmid⟩:∃mid,mid=(a+b)/2:=⟨_,Y⟩
   rw[<-hmid];refine Ap (Qm Y (Qm Y (Qx (oA Y) Y (Qm Y (BE (Qm Y (Qm Y (Am ?_))))))));refine A9 (λs h' ms'=>∃(s0 r0:Nat),s=[(0,v),(1,.w a),(2,.w t),(3,.w b),(4,(Qz g)),(18,.w mid),(19,.w ((mid:Int)+t)),(20,.w s0),(21,.w r0)]/\h=h'/\ms'=[m]/\((mid<t/\s0+b=mid+t/\r0=mid)\/(t<=mid/\s0=a/\r0=t))) ?_ (λs h ms hI=>?_)
   ·refine Ac (Ad (Qm Y (Qm Y (Qm Y (Am ?_)))));refine Ar Y (λhgt=>?_) (λhgt=>?_)
    ·refine Ac (Ad (Qm Y (Qm Y (Qx (oS Y) Y (Qm Y (Gu (Qm Y (Qm Y (Al ?_)))))))));have e:(mid:Int)+t-b=((mid+t-b:Nat):Int):=ω
     rw[e];exact AE _ ⟨mid+t-b,mid,Y,Y,Y,.inl ⟨ω,ω,Y⟩⟩ Qs
    ·refine Ac (Ad (Qm Y (Qm Y (Gu (Qm Y (Qm Y (Al ?_)))))));exact AE _ ⟨a,t,Y,Y,Y,.inr ⟨ω,Y,Y⟩⟩ Qs
   ·obtain⟨s0,r0,rfl,rfl,rfl,hc⟩:=hI;refine Ap (Qm Y (Qx (oS Y) Y (Qm Y (Am (Ac (Ag ?_))))))
    refine Ax (λn s h' ms'=>∃(i j:Nat),n=j-i/\s=[(0,v),(1,.w a),(2,.w t),(3,.w b),(4,(Qz g)),(18,.w mid),(19,.w ((mid:Int)+t)),(20,.w i),(21,.w j),(22,.w ((mid:Int)+t-1))]/\h=h'/\ms'=[m]/\s0<=i/\i<=j/\j<=r0/\(i=s0\/CX d[mid+t-i]! d[i-1]! = false)/\(j=r0\/CX d[mid+t-1-j]! d[j]! = true))
     (r0-s0) _ ⟨s0,r0,rfl,rfl,rfl,rfl,ω,ω,ω,.inl rfl,.inl rfl⟩ Qs ?_
    rintro n s h' ms' ⟨i,j,rfl,rfl,rfl,rfl,hi,hij,hj,c1,c2⟩;refine Ac (Ap (Qm Y (Qm Y (Qm Y (Am ?_)))));refine Ar Y (λhlt=>?_) (λhlt=>?_)
    ·refine Ah (Ab (Ag (Ap (Qm Y (Qm Y (Qx (oA Y) Y (Qx (Cq Y U3 HM Y) Y (Qx (DX (n:=1) Y Y Y ω) Y (Qx (Cq Y HM U3 Y) Y (Qm Y (Am ?_)))))))))));rw[Hg i j ω];refine Ac (A5 11 CT κ Y (Wm Y (Wm Y (Wm Y (Wm Y (AL (oS Y) Y Y (AL (Az (mid+t-1-(i+j)/2) (hO.rd (.head _)) Y BZ AO Y Y ω ω) Y Y (AL (oG Y D4 AO (hO.get (.head _) ω)) Y Y (Wm Y (Wm Y (AL (Az ((i+j)/2) (hO.rd (.head _)) Y BZ AO Y Y ω ω) Y Y (AL (oG Y D4 AO (hO.get (.head _) ω)) Y Y (AZ (Qx (Co Y Y call199 Y (M5 _ _ _ g hg _)) Y (Qm Y (Qm Y (Am ?_)))))))))))))))));refine Bz Y (λhl=>?_) (λhl=>?_)
     ·have hl:CX d[mid+t-1-(i+j)/2]! d[(i+j)/2]! = false:=by unfold CX;simpa using hl
      refine Ad (Qm Y (Qx (oA Y) Y (Qm Y (Al (Ai ?_)))));exact Ak (j-((i+j)/2+1)) _ ω ⟨(i+j)/2+1,j,Y,Y,Y,Y,ω,ω,ω,.inr (by rw[Nat.add_sub_cancel,show mid+t-((i+j)/2+1)=mid+t-1-(i+j)/2 by omega];exact hl),c2⟩ Qs
     ·have hl:CX d[mid+t-1-(i+j)/2]! d[(i+j)/2]! = true:=by unfold CX;simpa using hl
      refine Ad (Qm Y (Qm Y (Al (Ai ?_))));exact Ak ((i+j)/2-i) _ ω ⟨i,(i+j)/2,Y,Y,Y,Y,ω,ω,ω,c1,.inr hl⟩ Qs
    ·obtain rfl:i=j:=ω
     obtain⟨e,he⟩:∃e,e=mid+t-i:=⟨_,Y⟩
     have he2:(mid:Int)+t-i=(e:Int):=ω
     refine Aq (Aa (Aa (Af (Ab (Ap (Qm Y (Qm Y (Qx (oS Y) Y (Qm Y (Am ?_))))))))));rw[he2]
     have k1:i=a\/e=b\/CX d[e]! d[i-1]! = false:=by
      rcases c1 with c|c
      ·rcases hc with hc|hc
       ·right;left;omega
       ·left;omega
      ·right;right;rw[he];exact c
     have k2:i=t\/e=t\/CX d[e-1]! d[i]! = true:=by
      rcases c2 with c|c
      ·rcases hc with hc|hc
       ·right;left;omega
       ·left;omega
      ·right;right;rw[show e-1=mid+t-1-i by omega];exact c
     have hgeo:a<=i/\i<=t/\i<=mid/\t<=e/\e<=b:=by rcases hc with hc|hc<;>omega
     have hs2:i+e=mid+t:=ω
     refine A9 (λs h' ms'=>∃(d1:Array IQ) (m1:Hp),s=[(0,v),(1,.w a),(3,.w b),(4,(Qz g)),(18,.w mid),(20,.w i),(24,.w e)]/\h=h'/\ms'=[m1]/\OSD m1 v d1/\(∀k,d1[k]! = Fz d i t e k)/\PermIn a b d d1) ?_ (λs h ms hI=>?_)
     ·refine Ac (Ad (Qm Y (Qm Y (Qm Y (Qm Y ?_)))));refine AM (t:=181) Y (λq1=>?_) (λq1=>?_)
      ·refine Qg (As Y Y) Y (Qg (As Y Y) Y (Qg (Dp Y Y Y) Y (Qm Y (Am ?_))));refine Ar Y (λq2=>?_) (λq2=>?_)
       ·refine Ad (Qm Y (Qm Y (Qm Y (Qm Y (Qm Y (Bf (pre:=[m]) Y call299 Y (RO d v (Qz g) m hO i t e a b ω ω ω ω ω ω ω h Y Y Y) Y Y Y Y (λr h1 ms1 l1 hF=>?_)))))));obtain⟨rfl,m1,d1,rfl,hO1,hr,P⟩:=hF;refine Al ?_;exact AE _ ⟨d1,m1,Y,Y,Y,hO1,hr,P⟩ Qs
       ·refine Ah ?_;exact AE _ ⟨d,m,Y,Y,Y,hO,λk=>(Hy ω k).symm,permIn_refl d a b⟩ Qs
      ·refine Qk Y (Qk Y (Qk Y (Qm Y (Am (AN Y (Ah ?_))))));exact AE _ ⟨d,m,Y,Y,Y,hO,λk=>(Hy ω k).symm,permIn_refl d a b⟩ Qs
     ·obtain⟨d1,m1,rfl,rfl,rfl,hO1,hr,P⟩:=hI;have C:=Xf Jc hA hB hgeo hs2 hr k1 k2;have hd1:=P.1;refine A9 (λs h' ms'=>∃(d2:Array IQ) (m2:Hp),s=[(0,v),(3,.w b),(4,(Qz g)),(18,.w mid),(24,.w e)]/\h=h'/\ms'=[m2]/\OSD m2 v d2/\PermIn a mid d1 d2/\SortedIn CX a mid d2) ?_ (λs h ms hI=>?_)
      ·refine Ac (Ad (Qm Y (Qm Y (Qm Y (Qm Y ?_)))));refine AM (t:=195) Y (λq1=>?_) (λq1=>?_)
       ·refine Qg (As Y Y) Y (Qg (As Y Y) Y (Qg (Dp Y Y Y) Y (Qm Y (Am ?_))));refine Ar Y (λq2=>?_) (λq2=>?_)
        ·refine Ad (Qm Y (Qm Y (Qm Y (Qm Y (Qm Y (Bf (pre:=[m1]) Y call279 Y (ih d1 v m1 hO1 a i mid ω ω ω ω ω C.lo C.lo2 h g hg Y Y Y) Y Y Y Y (λr h1 ms1 l1 hF=>?_)))))));obtain⟨rfl,m2,d2,rfl,hO2,P2,S2⟩:=hF;refine Al ?_;exact AE _ ⟨d2,m2,Y,Y,Y,hO2,P2,S2⟩ Qs
        ·obtain rfl:i=mid:=ω
         refine Ah ?_;exact AE _ ⟨d1,m1,Y,Y,Y,hO1,permIn_refl d1 a _,C.lo⟩ Qs
       ·obtain rfl:i=a:=ω
        refine Qk Y (Qk Y (Qk Y (Qm Y (Am (AN Y (Ah ?_))))));exact AE _ ⟨d1,m1,Y,Y,Y,hO1,permIn_refl d1 _ _,C.lo2⟩ Qs
      ·obtain⟨d2,m2,rfl,rfl,rfl,hO2,P2,S2⟩:=hI;have hd2:=P2.1;have f1:SortedIn CX mid e d2:=BQ C.hi λk h1 h2=>P2.2.1 k (.inr h1);have f2:SortedIn CX e b d2:=BQ C.hi2 λk h1 h2=>P2.2.1 k (.inr ω)
       have fin:∀d3,PermIn mid b d2 d3->SortedIn CX mid b d3->PermIn a b d d3/\SortedIn CX a b d3:=λd3 P3 S3=>
        ⟨permIn_trans _ _ _ _ _ P (permIn_trans _ _ _ _ _ (permIn_mono d1 d2 a mid a b ω ω ω P2) (permIn_mono d2 d3 mid b a b ω ω ω P3)),Ol C ω ω P2 S2 P3 S3⟩
       refine Ap (Qm Y (Qm Y (Qm Y (Qm Y ?_))));refine AM (t:=209) Y (λq1=>?_) (λq1=>?_)
       ·refine Qg (As Y Y) Y (Qg (As Y Y) Y (Qg (Dp Y Y Y) Y (Qm Y (Am ?_))));refine Ar Y (λq2=>?_) (λq2=>?_)
        ·refine Ad (Qm Y (Qm Y (Qm Y (Qm Y (Qm Y (Bf (pre:=[m2]) Y call279 Y (ih d2 v m2 hO2 mid e b ω ω ω ω ω f1 f2 h g hg Y Y Y) Y Y Y Y (λr h1 ms1 l1 hF=>?_)))))));obtain⟨rfl,m3,d3,rfl,hO3,P3,S3⟩:=hF;refine Al ?_;exact Cb Y (⟨Y,m3,d3,Y,hO3,(fin d3 P3 S3).1,(fin d3 P3 S3).2⟩)
        ·obtain rfl:e=b:=ω
         refine Ah ?_;exact Cb Y (⟨Y,m2,d2,Y,hO2,(fin d2 (permIn_refl d2 _ _) f1).1,(fin d2 (permIn_refl d2 _ _) f1).2⟩)
       ·obtain rfl:e=mid:=ω
        refine Qk Y (Qk Y (Qk Y (Qm Y (Am (AN Y (Ah ?_))))));exact Cb Y (⟨Y,m2,d2,Y,hO2,(fin d2 (permIn_refl d2 _ _) f2).1,(fin d2 (permIn_refl d2 _ _) f2).2⟩)
def BkD(d:Array IQ)(s n:Nat):Prop:=∀x,s∣x->SortedIn CX x (min (x+s) n) d
theorem EP{d:Array IQ}{a b b':Nat}(h:SortedIn CX a b d)(hb:b'<=b):SortedIn CX a b' d:=λi j h1 h2 h3=>h i j h1 h2 ω
theorem I8{d:Array IQ}{a b:Nat}(hb:b<=a):SortedIn CX a b d:=λi j h1 h2 h3=>ω
theorem RC(d:Array IQ)(v:Value)(m:Hp)(hO:OSD m v d)(hsz:d.size<=1000000)(h:Hp)(g:Nat)(hg:Ul h g){n':Int}(en:n'=d.size) :
  FnT Tryz.prog 239 #[v,.w n',(Qz g)] h [m] (λ_ h' ms'=>h=h'/\∃m' d',ms'=[m']/\OSD m' v d'/\PermIn 0 d.size d d'/\SortedIn CX 0 d.size d'):=by
 subst en;obtain⟨n,hn⟩:∃n,n=d.size:=⟨_,Y⟩
 rw[<-hn];refine Ao func239 ntmps239 Y Y (λw0 hw0=>?_);simp only[AX];refine Ap (Qm Y (BE (Qm Y (Qm Y (Qm Y (Am (Ac (Ag ?_))))))))
 refine Ax (λq s h' ms'=>∃(a:Nat) (d0:Array IQ) (m:Hp),q=n-a/\s=[(0,v),(1,.w n),(2,(Qz g)),(6,.w 20),(7,.w a),(8,.w ((a:Int)+20))]/\h=h'/\ms'=[m]/\a<=n/\20∣a/\OSD m v d0/\PermIn 0 n d d0/\∀x,20∣x->x+20<=a->SortedIn CX x (x+20) d0)
  (n-0) _ ⟨0,d,m,rfl,rfl,rfl,rfl,ω,⟨0,rfl⟩,hO,permIn_refl d 0 n,λx _ h=>ω⟩ Qs ?_
 rintro q s h' ms' ⟨a,d0,m0,rfl,rfl,rfl,rfl,han,hda,hO0,P,hB⟩;have hds:=P.1;refine Ac (Ap (Qm Y (Qm Y (Qm Y (Am ?_)))));refine Ar Y (λhle=>?_) (λhle=>?_)
 ·refine Ah (Ab (Ag (Ap (Qm Y (Qm Y (Qm Y (Qm Y (Bf (pre:=[m0]) Y call278 Y (OZ d0 v m0 hO0 a (a+20) ω ω ω h g hg Y ω) Y Y Y Y (λr h1 ms1 l1 hF=>?_)))))))));obtain⟨rfl,m1,d1,rfl,hO1,P1,S1⟩:=hF;refine BE (Qm Y (Qm Y (Gu (Qm Y (Qm Y (Qx (oA Y) Y (Qm Y (Al (Ai ?_)))))))))
  exact Ak (n-(a+20)) _ ω ⟨a+20,d1,m1,Y,Y,Y,Y,ω,Nat.dvd_add hda ⟨1,Y⟩,hO1,permIn_trans _ _ _ _ _ P (permIn_mono d0 d1 a (a+20) 0 n ω ω ω P1),λx hx hx2=>by
   rcases Nat.lt_or_ge x a with h1|h1
   ·have:=Fb hx hda h1;exact BQ (hB x hx this) λk h2 h3=>P1.2.1 k (.inl ω)
   ·obtain rfl:x=a:=ω
    exact S1⟩ Qs
 ·refine Aq (Aa (Aa (Af (Ab (Ap (Qm Y (Qm Y (Qm Y (Qm Y (Bf (pre:=[m0]) Y call278 Y (OZ d0 v m0 hO0 a n ω ω ω h g hg Y Y) Y Y Y Y (λr h1 ms1 l1 hF=>?_)))))))))));obtain⟨rfl,m1,d1,rfl,hO1,P1,S1⟩:=hF;have PB:PermIn 0 n d d1:=permIn_trans _ _ _ _ _ P (permIn_mono d0 d1 a n 0 n ω ω ω P1)
  have B1:BkD d1 20 n:=λx hx=>by
   rcases Nat.lt_trichotomy x a with h1|rfl|h1
   ·have:=Fb hx hda h1;exact EP (BQ (hB x hx this) λk h2 h3=>P1.2.1 k (.inl ω)) ω
   ·exact EP S1 ω
   ·have:=Fb hda hx h1;exact I8 ω
  refine Am (Ag ?_)
  refine Ax (λq s h' ms'=>∃(w:Nat) (d0:Array IQ) (m:Hp),q=n-w/\s=[(0,v),(1,.w n),(2,(Qz g)),(6,.w w)]/\h=h'/\ms'=[m]/\1<=w/\w<=4000000/\OSD m v d0/\PermIn 0 n d d0/\BkD d0 w n)
   (n-20) _ ⟨20,d1,m1,rfl,rfl,rfl,rfl,ω,ω,hO1,PB,B1⟩ Qs ?_
  rintro q s h' ms' ⟨w,d2,m2,rfl,rfl,rfl,rfl,hw1,hw2,hO2,P2,B2⟩;have hd2:=P2.1;refine Ac (Ap (Qm Y (Qm Y (Qm Y (Am ?_)))));refine Ar Y (λhlt=>?_) (λhlt=>?_)
  ·refine Ah (Ab (Ag (Ap (Qm Y (Qx (oM Y) Y (Qm Y (Qm Y (Am (Ac (Ag ?_))))))))))
   refine Ax (λq s h' ms'=>∃(a:Nat) (z:Int) (d0:Array IQ) (m:Hp),q=n-a/\s=[(0,v),(1,.w n),(2,(Qz g)),(6,.w w),(7,.w a),(8,.w z)]/\h=h'/\ms'=[m]/\z=a+2*w/\a<=n/\2*w∣a/\OSD m v d0/\PermIn 0 n d d0/\(∀x,2*w∣x->x+2*w<=a->SortedIn CX x (x+2*w) d0)/\∀x,w∣x->a<=x->SortedIn CX x (min (x+w) n) d0)
    (n-0) _ ⟨0,2*(w:Int),d2,m2,rfl,rfl,rfl,rfl,ω,ω,⟨0,rfl⟩,hO2,P2,λx _ h=>ω,λx hx _=>B2 x hx⟩ Qs ?_
   rintro q s h' ms' ⟨a,z,d3,m3,rfl,rfl,rfl,rfl,rfl,han,hda,hO3,P3,hL,hR⟩;have hd3:=P3.1;have hwa:w∣a:=Nat.dvd_trans ⟨2,Nat.mul_comm 2 w⟩ hda;have hwa2:w∣a+w:=Nat.dvd_add hwa (Nat.dvd_refl w);have hwa3:2*w∣a+2*w:=Nat.dvd_add hda (Nat.dvd_refl _);have s1:=hR a hwa (ay _);have s2:=hR (a+w) hwa2 ω;refine Ac (Ap (Qm Y (Qm Y (Qm Y (Am ?_)))));refine Ar Y (λhle2=>?_) (λhle2=>?_)
   ·rw[show min (a+w) n=a+w by omega]at s1;rw[show min (a+w+w) n=a+2*w by omega]at s2;refine Ah (Ab (Ag (Ap (Qm Y (Qm Y (Qm Y (Qm Y (Qx (oA Y) Y (Qm Y (Qm Y (Bf (pre:=[m3]) Y call279 Y (Jf (2*w) d3 v m3 hO3 a (a+w) (a+2*w) ω ω ω ω ω s1 s2 h g hg Y ω ω) Y Y Y Y (λr h1 ms1 l1 hF=>?_))))))))))));obtain⟨rfl,m4,d4,rfl,hO4,P4,S4⟩:=hF;refine BE (Qm Y (Qm Y (Gu (Qm Y (Qm Y (Qx (oM Y) Y (Qx (oA Y) Y (Qm Y (Al (Ai ?_))))))))))
    exact Ak (n-(a+2*w)) _ ω ⟨a+2*w,(a:Int)+2*w+2*w,d4,m4,Y,Y,Y,Y,ω,ω,hwa3,hO4,permIn_trans _ _ _ _ _ P3 (permIn_mono d3 d4 a (a+2*w) 0 n ω ω ω P4),λx hx hx2=>by
     rcases Nat.lt_or_ge x a with h1|h1
     ·have:=Fb hx hda h1;exact BQ (hL x hx this) λk h2 h3=>P4.2.1 k (.inl ω)
     ·obtain rfl:x=a:=ω
      exact S4,λx hx hx2=>BQ (hR x hx ω) λk h2 h3=>P4.2.1 k (.inr ω)⟩ Qs
   ·have fin:∀d4,PermIn a n d3 d4->SortedIn CX a n d4->PermIn 0 n d d4/\BkD d4 (w*2) n:=λd4 P4 S4=>⟨permIn_trans _ _ _ _ _ P3 (permIn_mono d3 d4 a n 0 n ω ω ω P4),λx hx=>by
     rw[Nat.mul_comm]at hx ⊢;rcases Nat.lt_trichotomy x a with h1|rfl|h1
     ·have:=Fb hx hda h1;exact EP (BQ (hL x hx this) λk h2 h3=>P4.2.1 k (.inl ω)) ω
     ·exact EP S4 ω
     ·have:=Fb hda hx h1
      exact I8 ω⟩
    refine Aq (Aa (Aa (Af (Ab (Ac (Ap (Qm Y (Qm Y (Qx (oA Y) Y (Qm Y (BE (Qm Y (Qm Y (Qm Y (Am ?_)))))))))))))));refine Ar Y (λhm=>?_) (λhm=>?_)
    ·rw[show min (a+w) n=a+w by omega]at s1;rw[show min (a+w+w) n=n by omega]at s2;refine Ad (Qm Y (Qm Y (Qm Y (Qm Y (Qm Y (Bf (pre:=[m3]) Y call279 Y (Jf (2*w) d3 v m3 hO3 a (a+w) n ω ω ω ω ω s1 s2 h g hg Y ω Y) Y Y Y Y (λr h1 ms1 l1 hF=>?_)))))));obtain⟨rfl,m4,d4,rfl,hO4,P4,S4⟩:=hF;have:=fin d4 P4 S4;refine Gu (Qm Y (Qx (oM Y) Y (Qm Y (Al (Ai ?_)))));exact Ak (n-w*2) _ ω ⟨w*2,d4,m4,Y,Y,Y,Y,ω,ω,hO4,this.1,this.2⟩ Qs
    ·rw[show min (a+w) n=n by omega]at s1;have:=fin d3 (permIn_refl d3 a n) s1;refine Ah (Ab (Ad (Qm Y (Qx (oM Y) Y (Qm Y (Al (Ai ?_)))))));exact Ak (n-w*2) _ ω ⟨w*2,d3,m3,Y,Y,Y,Y,ω,ω,hO3,this.1,this.2⟩ Qs
  ·refine Aq (Aa (Aa (Af ?_)));exact Cb Y (⟨Y,m2,d2,Y,hO2,P2,by have:=B2 0 ⟨0,Y⟩;rwa [show min (0+w) n=n by omega]at this⟩)
theorem KH(d:Array IQ)(v:Value)(m:Hp)(hO:OSD m v d)(hsz:d.size<=1000000)(h:Hp)(g:Nat)(hg:Ul h g) :
  FnT Tryz.prog 198 #[v,(Qz g)] h [m] (λ_ h' ms'=>h=h'/\∃m' d',ms'=[m']/\OSD m' v d'/\PermIn 0 d.size d d'/\SortedIn CX 0 d.size d'):=by
 refine Ao func198 ntmps198 Y Y (λw0 hw0=>?_);simp only[AX];refine Ad (Qm Y (Qm Y (Qx (Av (hO.rd (.head _)) Y BZ Y) Y (Qm Y (Bf (pre:=[m]) Y call239 Y (RC d v m hO hsz h g hg Y) Y Y Y Y (λr h1 ms1 l1 hF=>?_))))));obtain⟨rfl,m4,d4,rfl,hO4,P4,S4⟩:=hF;refine Al ?_;exact Cb Y (⟨Y,m4,d4,Y,hO4,P4,S4⟩)
theorem Hm{α:Type}[Inhabited α]{d d':Array α}(P:PermIn 0 d.size d d'):d'.toList.Perm d.toList:=by
 have h:=P.2.2;have e1:d'.extract 0 d.size=d':=by rw[<-P.1];simp
 have e2:d.extract 0 d.size=d:=by simp
 rwa [e1,e2]at h
theorem F4{α:Type}[Inhabited α]{lt:α->α->Bool}{d:Array α}(S:SortedIn lt 0 d.size d):d.toList.Pairwise λa b=>lt b a=false:=by
 rw[aw];intro i j hi hj hij;have h1:=S i j ω hij (by simpa using hj)
 have e:∀k (hk:k<d.toList.length),d[k]! = d.toList[k]:=λk hk=>by
  have:k<d.size:=by simpa using hk
  simp[this]
 rwa [e i hi,e j hj]at h1
theorem Ut(l:List CeO)(v:Value)(h:Hp)(hR:RdL HV 3 h [] v l)(hl:l.length<=1000000):FnT Tryz.prog 194 #[v] h [] (λx h' ms'=>h=h'/\∃m,ms'=[m]/\OwnL HV 3 52 m x l):=by
 refine Ao func194 ntmps194 Y Y (λw0 hw0=>?_);simp only[AX];refine Ap (Qm Y (Am (Ac (Ap (Qm Y (Qx (LV hR.rd.any Y Bi Y Y) Y (Am ?_)))))));refine Bz Y (λhn=>?_) (λhn=>?_)
 ·have h0:=Ju hR.rd hn;obtain rfl:l=[]:=List.eq_nil_of_length_eq_zero h0;refine Ap (Qm Y (Am (An (Ae (Jz ?_)))));exact Au Y Y (⟨Y,_,Y,OwnL.nil Kc⟩)
 ·refine Ah (Ab (Ap ?_));refine AB [] [] [] rfl Bi AH rfl ω κ (by repeat (first|exact trivial|refine⟨⟨by first|rfl|exact(hR.rd.any).cells|exact Rd.cells ‹_›|exact(RdL.rd ‹_›).cells,rfl,rfl⟩,?_⟩)) rfl rfl rfl rfl (λg5=>?_);refine Qm rfl ?_;have hO:OwnL HV 3 52 (A8 g5 52 []) (.slice (some ⟨g5,0,none⟩) 0 0) []:=OwnL.blk (l:=([]:List CeO)) 0 Kc rfl ω;refine AV 0 hO hR.any rfl Bi AH rfl ω rfl rfl rfl NR (by simp;omega) (by simp;omega) rfl rfl rfl (λv' m' hO'=>?_);refine Qm rfl (Am (An ?_));exact Au rfl rfl (⟨rfl,m',rfl,hO'⟩)
theorem T9(l:List IQ)(v:Value)(h:Hp)(hR:RdL cD 2 h [] v l)(hl:l.length<=1000000):FnT Tryz.prog 197 #[v] h [] (λx h' ms'=>h=h'/\∃m,ms'=[m]/\OwnL cD 2 119 m x l):=by
 refine Ao func197 ntmps197 Y Y (λw0 hw0=>?_);simp only[AX];refine Ap (Qm Y (Am (Ac (Ap (Qm Y (Qx (LV hR.rd.any Y BZ Y Y) Y (Am ?_)))))));refine Bz Y (λhn=>?_) (λhn=>?_)
 ·have h0:=Ju hR.rd hn;obtain rfl:l=[]:=List.eq_nil_of_length_eq_zero h0;refine Ap (Qm Y (Am (An (Ae (Jz ?_)))));exact Au Y Y (⟨Y,_,Y,OwnL.nil EJ⟩)
 ·refine Ah (Ab (Ap ?_));refine AB [] [] [] rfl BZ AO rfl ω κ (by repeat (first|exact trivial|refine⟨⟨by first|rfl|exact(hR.rd.any).cells|exact Rd.cells ‹_›|exact(RdL.rd ‹_›).cells,rfl,rfl⟩,?_⟩)) rfl rfl rfl rfl (λg5=>?_);refine Qm rfl ?_;have hO:OwnL cD 2 119 (A8 g5 119 []) (.slice (some ⟨g5,0,none⟩) 0 0) []:=OwnL.blk (l:=([]:List IQ)) 0 EJ rfl ω;refine AV 0 hO hR.any rfl BZ AO rfl ω rfl rfl rfl GH (by simp;omega) (by simp;omega) rfl rfl rfl (λv' m' hO'=>?_);refine Qm rfl (Am (An ?_));exact Au rfl rfl (⟨rfl,m',rfl,hO'⟩)
theorem Q2(l:List CeO)(v:Value)(h:Hp)(hR:RdL HV 3 h [] v l)(hl:l.length<=1000000):FnT Tryz.prog 134 #[v,fkC] h [] (λx h' ms'=>h.le h'/\∃m o,ms'=[m]/\OwnL HV 3 52 m x o/\o.Perm l/\o.Pairwise λa b=>a.c.id<=b.c.id):=by
 have o1:=hR.rd.one;refine Ao func134 ntmps134 Y Y (λw0 hw0=>?_);simp only[AX];refine Ap (AQ [_] Y Y (by rfl) Y Y Y (λg3=>Qm Y (Am (AA λh1 l1 hG=>?_))));have hk:UC h1 g3:=λms=>Seg.all hG 0 _ Y ms;have hR:=hR.up l1;refine Ap (Qm Y (Qc call194 Y (Ut l v h1 hR hl) (λr h2 ms2 l2 hF=>?_)));obtain⟨rfl,m,rfl,hO⟩:=hF;have ovr:=hO.o1;have hO':OSC m r l.toArray:=hO;refine Qm Y (BE (Qm Y (Qx (BY Y Y Y) Y ?_)));refine Bf (pre:=[m]) Y call195 Y (Kz l.toArray r m hO' (by simpa using hl) h1 g3 hk) rfl rfl rfl rfl (λx h3 ms3 l3 hF=>?_);obtain⟨rfl,m',d',rfl,hO2,P,S⟩:=hF;have ov2:r.oneCell'=true:=(OwnL.rd hO2 (h:=h1) (ms:=[m']) Mh).rd.one;have hp:d'.toList.Perm l:=Hm P
 have hs:d'.toList.Pairwise λa b=>a.c.id<=b.c.id:=(F4 (P.1 ▸ S)).imp λ{a b} h=>by unfold CS at h;rw[decide_eq_false_iff_not,JZ]at h;omega
 refine BE (Qm Y (Qm Y (Am (An ?_))));exact Au Y Y (⟨l1,m',d'.toList,Y,hO2,hp,hs⟩)
theorem QX(l:List IQ)(v:Value)(h:Hp)(hR:RdL cD 2 h [] v l)(hl:l.length<=1000000):FnT Tryz.prog 136 #[v,fkD] h [] (λx h' ms'=>h.le h'/\∃m o,ms'=[m]/\OwnL cD 2 119 m x o/\o.Perm l/\o.Pairwise λa b=>a.1<=b.1):=by
 have o1:=hR.rd.one;refine Ao func136 ntmps136 Y Y (λw0 hw0=>?_);simp only[AX];refine Ap (AQ [_] Y Y (by rfl) Y Y Y (λg3=>Qm Y (Am (AA λh1 l1 hG=>?_))));have hk:Ul h1 g3:=λms=>Seg.all hG 0 _ Y ms;have hR:=hR.up l1;refine Ap (Qm Y (Qc call197 Y (T9 l v h1 hR hl) (λr h2 ms2 l2 hF=>?_)));obtain⟨rfl,m,rfl,hO⟩:=hF;have ovr:=hO.o1;have hO':OSD m r l.toArray:=hO;refine Qm Y (BE (Qm Y (Qx (BY Y Y Y) Y ?_)));refine Bf (pre:=[m]) Y call198 Y (KH l.toArray r m hO' (by simpa using hl) h1 g3 hk) rfl rfl rfl rfl (λx h3 ms3 l3 hF=>?_);obtain⟨rfl,m',d',rfl,hO2,P,S⟩:=hF;have ov2:r.oneCell'=true:=(OwnL.rd hO2 (h:=h1) (ms:=[m']) Mh).rd.one;have hp:d'.toList.Perm l:=Hm P
 have hs:d'.toList.Pairwise λa b=>a.1<=b.1:=(F4 (P.1 ▸ S)).imp λ{a b} h=>by unfold CX at h;rw[decide_eq_false_iff_not,JZ]at h;omega
 refine BE (Qm Y (Qm Y (Am (An ?_))));exact Au Y Y (⟨l1,m',d'.toList,Y,hO2,hp,hs⟩)
end Go.Proofs.Q

namespace Go.Proofs.Q
open Go.Proofs.Tryz
open Go.Eng Go.RowKit
def Cl.can(c:Cl):Cl:=⟨c.id,c.dim,CU c.sd⟩
def HK(x y:Cl):Bool:=decide (x.id<=y.id)
def ordF(l:List Cl):List Cl:=if h:l.length<=1 then l.map Cl.can else
 List.merge (ordF (l.take (l.length/2))) (ordF (l.drop (l.length/2))) HK
termination_by l.length
decreasing_by
 ·rw[ao];omega
 ·rw[bk];omega
theorem EK{l:List Cl}(h:l.length<=1):ordF l=l.map Cl.can:=by rw[ordF,dif_pos h]
theorem LS{l:List Cl}(h:¬l.length<=1):ordF l=List.merge (ordF (l.take (l.length/2))) (ordF (l.drop (l.length/2))) HK:=by rw[ordF,dif_neg h]
theorem Dn:∀(n:Nat) (l:List Cl),l.length<=n->(ordF l).Perm (l.map Cl.can)
 | 0,l,h=>by rw[EK ω]
 | n+1,l,h=>by
  by_cases hs:l.length<=1
  ·rw[EK hs]
  ·rw[LS hs];have h1:=Dn n (l.take (l.length/2)) (by rw[ao];omega);have h2:=Dn n (l.drop (l.length/2)) (by rw[bk];omega);refine(List.merge_perm_append HK).trans ((h1.append h2).trans ?_);rw[<-bg,List.take_append_drop]
theorem E1(l:List Cl):(ordF l).length=l.length:=by
 have:=(Dn l.length l (ay _)).length_eq
 rwa [af]at this
theorem Dx:∀(n:Nat) (l:List Cl),l.length<=n->(ordF l).Pairwise (λx y=>x.id<=y.id)
 | 0,l,h=>by obtain rfl:l=[]:=List.eq_nil_of_length_eq_zero ω;rw[EK (by simp)];exact List.Pairwise.nil
 | n+1,l,h=>by
  by_cases hs:l.length<=1
  ·rw[EK hs]
   match l,hs with
   | [],_=>exact List.Pairwise.nil
   | [a],_=>exact List.pairwise_singleton _ _
  ·rw[LS hs];have h1:=Dx n (l.take (l.length/2)) (by rw[ao];omega);have h2:=Dx n (l.drop (l.length/2)) (by rw[bk];omega)
   have:=List.pairwise_merge (le:=HK) (λa b c hab hbc=>by
    unfold HK at *;have:=bw hab;have:=bw hbc
    exact ag ω) (λa b=>by
    unfold HK;by_cases h:a.id<=b.id
    ·simp[h]
    ·have:b.id<=a.id:=ω
     simp[this]) _ _ (h1.imp λh=>ag h) (h2.imp λh=>ag h)
   exact this.imp λh=>bw h
theorem Y2(a b:Cl)(l l':List Cl)(h:b.id<a.id):List.merge (a::l) (b::l') HK=b::List.merge (a::l) l' HK:=by have:HK a b=false:=ah ω;simp[List.merge,this]
theorem ZG(a b:Cl)(l l':List Cl)(h:¬b.id<a.id):List.merge (a::l) (b::l') HK=a::List.merge l (b::l') HK:=by have:HK a b=true:=ag ω;simp[List.merge,this]
theorem RdC.part{h:Hp}{v:Value}{l:List Ce}(R:RdC h v l){i j:Nat}(hi:i<=j)(hj:j<=l.length):RdC h (B0 3 v i j) ((l.drop i).take (j-i)):=⟨R.q.sub_ hi hj,λa ha=>R.s a (List.mem_of_mem_drop (List.mem_of_mem_take ha))⟩
theorem LX:∀(N:Nat) (l:List Ce) (v:Value) (h:Hp),l.length<N->N<=1000000->(∀a∈l,a.c.sd.length<=100000)->RdC h v l->FnT Tryz.prog 118 #[v] h [] (λr h' ms'=>h.le h'/\∃m A,ms'=[m]/\OwnL cC 3 52 m r A/\A.map Ce.c=ordF (l.map Ce.c)/\∀a∈A,RdL cD 2 h' [] a.v a.c.sd):=by
 intro N
 induction N with
 | zero=>intro l v h hN;omega
 | succ N ih=>
  intro l v h hN hM hs hR;have o1:=hR.q.rd.one;refine Ao func118 ntmps118 Y Y (λw0 hw0=>?_);simp only[AX];refine Ap (Qm Y (Am (Ac (Ap (Qm Y (Qx (Av hR.q.rd.any Y Bi Y) Y (Qm Y (Am ?_))))))));refine Ar Y (λh0=>?_) (λh0=>?_)
  ·obtain rfl:l=[]:=List.eq_nil_of_length_eq_zero ω;refine BI (Ap (Qm Y (Am (An (Ae ?_)))));exact Au Y Y (⟨Dv,Hp.emp,[],Y,OwnL.nil CC,by rw[EK (by simp)];rfl,λa ha=>nomatch ha⟩)
  ·refine Ah (Ab (Ac (Ap (Qm Y (Qx (Av hR.q.rd.any Y Bi Y) Y (Qm Y (Am ?_)))))));refine Ar Y (λh1=>?_) (λh1=>?_)
   ·match l,h0,h1,hs,hR with
    | [a],_,_,hs,hR=>
     have hsa:=hR.s a Mh;have osa:=hsa.rd.one;have c0:∀ms,Cell h ms ((AF v).add (0*3)) (.w a.c.id):=λms=>(hR.q.any (ms:=ms)).cell0 (j:=0) (by simp) rfl;have c1:∀ms,Cell h ms (((AF v).add (0*3)).add 1) (.w a.c.dim):=λms=>(hR.q.any (ms:=ms)).cell (j:=0) (by simp) (f:=1) rfl;have c2:∀ms,Cell h ms (((AF v).add (0*3)).add 2) a.v:=λms=>(hR.q.any (ms:=ms)).cell (j:=0) (by simp) (f:=2) rfl;have h01:(0:Nat) < [a].length:=by simp
     refine Ac (BL (n:=16) (bs:=[true,true,true,true,true,true,true,true,true,true,true,true,false,false,false,false]) [true,true,true,true,true,true,true,true,true,true,true,true] CT κ κ Y Y (Qq Y (Qp Y (BG (0) hR.q.rd.any Y Bi AH Y Y) (QF Bn Y (QL Y U3 (c0 _) (Qq Y (Qp Y (BG (0) hR.q.rd.any Y Bi AH Y Y) (QF BT Y (QL Y U3 (c1 _) (Qq Y (Qp Y (BG (0) hR.q.rd.any Y Bi AH Y Y) (QF BA Y (QL Y BZ (c2 _) ?_)))))))))))));unfold FS;simp only[bh,av];refine Qo 12 Y (Qc call170 Y (O9 a.c.sd a.v h (hs a Mh) hsa) (λrs h2 ms2 l2 hF=>?_));obtain⟨rfl,mq,rfl,hOq⟩:=hF;refine A6 hOq λh3 l3 hRq=>?_;obtain⟨a9,c9,rfl,_⟩:=hRq.rd.ex;refine Qa (BU 13 25 κ Y (by assumption) Y (Be U6 [.w 0,.w 0,.slice none 0 0] [(0,_),(1,_),(2,_)] [_,_,_] Y AH Y Y Qt Y) (Qo 14 Y (Aw [_,_,_] Y Bi AH Y (by rfl) Y Y ω Y Y Y (λg26=>Qa (Qo 15 Y (Qm Y (Qa (Qe (Ab (An ?_))))))))));exact Au Y Y ⟨l3,_,[⟨a.c.can,.slice a9 (CU a.c.sd).length c9⟩],Y,OwnL.blk (g:=g26) (el:=52) (F:=cC) (l:=[⟨a.c.can,.slice a9 (CU a.c.sd).length c9⟩]) 1 CC Y (by decide),by rw[EK (by simp)];rfl,λb hb=>by rw[ak.1 hb];exact hRq⟩
   ·have hl2:¬l.length<=1:=ω
    obtain⟨k,hk⟩:∃k,l.length/2=k:=⟨_,Y⟩
    have hk1:k<l.length:=ω
    have hk0:0<k:=ω
    have hll:=hR.q.len_le;have hR1:RdC h (B0 3 v 0 k) (l.take k):=by have:=hR.part (i:=0) (j:=k) ω ω;rwa [drop_zero,Nat.sub_zero]at this
    have hR2:RdC h (B0 3 v k l.length) (l.drop k):=by have:=hR.part (i:=k) (j:=l.length) ω ω;rwa [List.take_of_length_le (by rw[bk];omega)]at this
    have hkt:Int.tdiv (l.length:Int) 2=(k:Int):=by rw[Int.tdiv_eq_ediv_of_nonneg ω];omega
    refine Ah (Ab (Ap (Qm Y (Qm Y (Qx (Av hR.q.rd.any Y Bi Y) Y (Qx (Gx Y Y Y ω ω) Y (Qx (E3 (k) hR.q.rd.any Y Bi AH Y Y ω ω) Y ?_)))))));refine Qc call118 Y (ih (l.take k) _ h (by rw[ao];omega) ω (λa ha=>hs a (List.mem_of_mem_take ha)) hR1) (λra h2 ms2 l2 hF=>?_);obtain⟨l2',ma,A,rfl,hOA,hA,hAs⟩:=hF;refine A6 hOA λh3 l3 hRA=>?_;have hAs:∀a∈A,RdL cD 2 h3 [] a.v a.c.sd:=λa ha=>(hAs a ha).up l3;have hR2:=hR2.up (AI l2 l3);have hR:=hR.up (AI l2 l3);have oA_:=hRA.rd.one;refine Qm Y (BE (Qm Y (Qm Y (Qx (Av hR.q.rd.any Y Bi Y) Y (Qx (Gx Y Y Y ω ω) Y (Qx (C4 (k) hR.q.rd.any Y Bi AH Y Y ω ω) Y ?_))))));refine Qc call118 Y (ih (l.drop k) _ h3 (by rw[bk];omega) ω (λa ha=>hs a (List.mem_of_mem_drop ha)) hR2) (λrb h4 ms4 l4 hF=>?_);obtain⟨l4',mb,B,rfl,hOB,hB,hBs⟩:=hF;refine A6 hOB λh5 l5 hRB=>?_;have l45:=AI l4 l5;have hAs:∀a∈A,RdL cD 2 h5 [] a.v a.c.sd:=λa ha=>(hAs a ha).up l45;have hBs:∀a∈B,RdL cD 2 h5 [] a.v a.c.sd:=λa ha=>(hBs a ha).up l5;have hRA:=hRA.up l45;have oB:=hRB.rd.one;have lA:A.length=k:=by have:=bf List.length hA;rw[af,E1,af,ao]at this;omega
    have lB:B.length=l.length-k:=by have:=bf List.length hB;rw[af,E1,af,bk]at this;exact this
    have hmg:ordF (l.map Ce.c)=List.merge (A.map Ce.c) (B.map Ce.c) HK:=by rw[LS (by rw[af];exact hl2),hA,hB,af,hk,List.map_take,List.map_drop]
    refine Qm Y (BE (Qm Y (Am ?_)));refine A9 (λs h' ms'=>∃(A' B' O:List Ce) (va vb vo:Value) (mo:Hp),s=[(3,va),(4,vb),(5,vo)]/\h5=h'/\ms'=[mo]/\A'.length+B'.length+O.length=l.length/\RdL cC 3 h5 [] va A'/\RdL cC 3 h5 [] vb B'/\OwnL cC 3 52 mo vo O/\O.map Ce.c++A'.map Ce.c++B'.map Ce.c=ordF (l.map Ce.c)/\(∀a∈A',RdL cD 2 h5 [] a.v a.c.sd)/\(∀a∈B',RdL cD 2 h5 [] a.v a.c.sd)/\∀a∈O,RdL cD 2 h5 [] a.v a.c.sd) ?_ (λs h ms hI=>?_)
    ·refine Ag (BI ?_)
     refine Ax (λq s h' ms'=>∃(A' B' O:List Ce) (va vb vo:Value) (mo:Hp),q=A'.length+B'.length/\s=[(3,va),(4,vb),(5,vo)]/\h5=h'/\ms'=[mo]/\A'.length+B'.length+O.length=l.length/\RdL cC 3 h5 [] va A'/\RdL cC 3 h5 [] vb B'/\OwnL cC 3 52 mo vo O/\O.map Ce.c++List.merge (A'.map Ce.c) (B'.map Ce.c) HK=ordF (l.map Ce.c)/\(∀a∈A',RdL cD 2 h5 [] a.v a.c.sd)/\(∀a∈B',RdL cD 2 h5 [] a.v a.c.sd)/\∀a∈O,RdL cD 2 h5 [] a.v a.c.sd)
      (A.length+B.length) _ ⟨A,B,[],_,_,_,Hp.emp,rfl,rfl,rfl,rfl,by rw[lA,lB,length_nil];omega,hRA,hRB,OwnL.nil CC,by rw[hmg];rfl,hAs,hBs,λa ha=>nomatch ha⟩ Qs ?_
     rintro q s h' ms' ⟨A',B',O,va,vb,vo,mo,rfl,rfl,rfl,rfl,hln,hRa,hRb,hOo,hm,hAa,hBb,hOa⟩;have ova:=hRa.rd.one;have ovb:=hRb.rd.one;have ovo:=hOo.o1;refine Ac (Ap (Qm Y (Qx (Av hRa.rd.any Y Bi Y) Y (Qm Y (Qm Y ?_)))));refine AM (t:=42) Y (λhs1=>?_) (λhs1=>?_)
     ·refine Qg (As Y Y) Y (Qg (Av hRb.rd.any Y Bi Y) Y (Qg (Cf Y Y Y) Y (Qm Y (Am ?_))));refine Ar Y (λhs2=>?_) (λhs2=>?_)
      ·obtain⟨a,A2,rfl⟩:=List.exists_cons_of_length_pos (l:=A') ω;obtain⟨b,B2,rfl⟩:=List.exists_cons_of_length_pos (l:=B') ω;have hA0:0<(a::A2).length:=by simp
       have hB0:0<(b::B2).length:=by simp
       have oav:=(hAa a Mh).rd.one;have obv:=(hBb b Mh).rd.one;have ca:∀ms,Cell h5 ms ((AF va).add (0*3)) (.w a.c.id):=λms=>(hRa.any (ms:=ms)).cell0 (j:=0) hA0 Y;have cb:∀ms,Cell h5 ms ((AF vb).add (0*3)) (.w b.c.id):=λms=>(hRb.any (ms:=ms)).cell0 (j:=0) hB0 Y;have ga:∀ms,Seg h5 ms ((AF va).add (0*3)) (cC a):=λms=>(hRa.any (ms:=ms)).seg (j:=0) hA0;have gb:∀ms,Seg h5 ms ((AF vb).add (0*3)) (cC b):=λms=>(hRb.any (ms:=ms)).seg (j:=0) hB0;have hA2:RdL cC 3 h5 [] (B0 3 va 1 (a::A2).length) A2:=by have:=hRa.sub_ (i:=1) (j:=(a::A2).length) (by simp) (ay _);simpa using this
       have hB2:RdL cC 3 h5 [] (B0 3 vb 1 (b::B2).length) B2:=by have:=hRb.sub_ (i:=1) (j:=(b::B2).length) (by simp) (ay _);simpa using this
       have oA2:=hA2.rd.one;have oB2:=hB2.rd.one;have hal:(a::A2).length=A2.length+1:=rfl;have hbl:(b::B2).length=B2.length+1:=rfl;refine Ah (Ab (Ag (Ac (A5 8 CT κ Y (Wm Y (AL (BG (0) hRb.rd.any Y Bi AH Y Y) Y Y (Wf Bn Y (Wl Y U3 (cb _) (Wm Y (AL (BG (0) hRa.rd.any Y Bi AH Y Y) Y Y (Wf Bn Y (Wl Y U3 (ca _) (AZ (Qm Y (Am ?_)))))))))))))));refine Ar Y (λhlt=>?_) (λhlt=>?_)
       ·refine Ac (Ad (Qm Y (Qm Y (Qx (BG (0) hRb.rd.any Y Bi AH Y Y) Y (Qx (oG Y Ef AH (gb _)) Y (Aw [_,_,_] Y Bi AH Y (by rfl) Y Y ω Y Y Y (λg60=>?_)))))));refine Bg 1 hOo (RdL.one CC (x:=b) Mh Y) Y Bi AH Y ω Y Y Y (Dq (l:=[b]) (λy hy=>by rw[ak.1 hy];exact hBb b Mh)) (by(try simp only[ac]);omega) (by(try simp only[ac]);omega) rfl rfl rfl (λv6 m6 hO6=>?_);have ov6:=hO6.o1;refine Qm Y (Gu (Qm Y (Qx (C4 (1) hRb.rd.any Y Bi AH Y Y ω ω) Y (Qm Y (Al (Ai (AR ?_)))))));exact Ak ((a::A2).length+B2.length) _ ω ⟨a::A2,B2,O++[b],va,_,v6,m6,Y,Y,Y,Y,by rw[ad,ac];omega,hRa,hB2,hO6,by rw[bg,<-hm];show _++[b.c]++_=_++List.merge (a.c::_) (b.c::_) HK;rw[Y2 _ _ _ _ hlt,bl];rfl,hAa,λy hy=>hBb y (au _ hy),λy hy=>by rcases aq.1 hy with h|h;exact hOa y h;rw[ak.1 h];exact hBb b Mh⟩ Qs
       ·refine Ac (Ad (Qm Y (Qm Y (Qx (BG (0) hRa.rd.any Y Bi AH Y Y) Y (Qx (oG Y Ef AH (ga _)) Y (Aw [_,_,_] Y Bi AH Y (by rfl) Y Y ω Y Y Y (λg68=>?_)))))));refine Bg 1 hOo (RdL.one CC (x:=a) Mh Y) Y Bi AH Y ω Y Y Y (Dq (l:=[a]) (λy hy=>by rw[ak.1 hy];exact hAa a Mh)) (by(try simp only[ac]);omega) (by(try simp only[ac]);omega) rfl rfl rfl (λv6 m6 hO6=>?_);have ov6:=hO6.o1;refine Qm Y (Gu (Qm Y (Qx (C4 (1) hRa.rd.any Y Bi AH Y Y ω ω) Y (Qm Y (Al (Ai (AR ?_)))))));exact Ak (A2.length+(b::B2).length) _ ω ⟨A2,b::B2,O++[a],_,vb,v6,m6,Y,Y,Y,Y,by rw[ad,ac];omega,hA2,hRb,hO6,by rw[bg,<-hm];show _++[a.c]++_=_++List.merge (a.c::_) (b.c::_) HK;rw[ZG _ _ _ _ hlt,bl];rfl,λy hy=>hAa y (au _ hy),hBb,λy hy=>by rcases aq.1 hy with h|h;exact hOa y h;rw[ak.1 h];exact hAa a Mh⟩ Qs
      ·obtain rfl:B'=[]:=List.eq_nil_of_length_eq_zero ω;refine Aq (Aa (Aa (Af ?_)));exact AE _ ⟨A',[],O,va,vb,vo,mo,Y,Y,Y,hln,hRa,hRb,hOo,by rw[<-hm,bl];simp,hAa,hBb,hOa⟩ Qs
     ·obtain rfl:A'=[]:=List.eq_nil_of_length_eq_zero ω;refine Qk Y (Qk Y (Qk Y (Qm Y (Am (AN Y (Aq (Aa (Aa (Af ?_)))))))));exact AE _ ⟨[],B',O,va,vb,vo,mo,Y,Y,Y,hln,hRa,hRb,hOo,by rw[<-hm];simp,hAa,hBb,hOa⟩ Qs
    ·obtain⟨A',B',O,va,vb,vo,mo,rfl,rfl,rfl,hln,hRa,hRb,hOo,hm,hAa,hBb,hOa⟩:=hI;have ova:=hRa.rd.one;have ovb:=hRb.rd.one;have ovo:=hOo.o1;refine Ap (Qm Y (Qm Y (Bg 0 hOo hRa.any Y Bi AH Y ω Y Y Y (Dq hAa) (by(try simp only[ad]);omega) (by(try simp only[ad]);omega) rfl rfl rfl (λv7 m7 hO7=>Qm rfl (Bg 0 hO7 hRb.any rfl Bi AH rfl ω rfl rfl rfl (Dq hBb) (by(try simp only[ad]);omega) (by(try simp only[ad]);omega) rfl rfl rfl (λv8 m8 hO8=>Qm rfl (Am (An ?_))))))));exact Au Y Y (⟨AI l2 (AI l3 l45),m8,_,Y,hO8,by rw[bg,bg];exact hm,λy hy=>by rcases aq.1 hy with h|h;rcases aq.1 h with h|h;exact hOa y h;exact hAa y h;exact hBb y h⟩)
structure CsOk(l:List Ce):Prop where
 n:l.length<=100000
 s:∀a∈l,a.c.sd.length<=100000
def uq:Option Int->List Cl->List Cl
 | _,[]=>[]
 | p,a::l=>if p=some a.id then uq (some a.id) l else a::uq (some a.id) l
def NT:Option Int->List Ce->List Ce
 | _,[]=>[]
 | p,a::l=>if p=some a.c.id then NT (some a.c.id) l else a::NT (some a.c.id) l
theorem M8:∀(l:List Ce) (p:Option Int),(NT p l).map Ce.c=uq p (l.map Ce.c)
 | [],_=>rfl
 | a::l,p=>by
  unfold NT;show _=(if p=some a.c.id then uq (some a.c.id) (l.map Ce.c) else a.c::uq (some a.c.id) (l.map Ce.c));split
  ·exact M8 l _
  ·rw[List.map_cons,M8 l _]
theorem NG:∀(l:List Ce) (p:Option Int),∀a∈NT p l,a∈l
 | [],_,a,h=>by cases h
 | b::l,p,a,h=>by
  unfold NT at h;split at h
  ·exact au _ (NG l _ a h)
  ·rcases aj.1 h with rfl|h
   ·exact Mh
   ·exact au _ (NG l _ a h)
theorem Y6(l:List Ce)(p:Option Int):(NT p l).length<=l.length:=by
 induction l generalizing p with
 | nil=>exact ay _
 | cons a l ih=>
  unfold NT;have:=ih (some a.c.id);split
  ·rw[df];omega
  ·rw[df,df];omega
theorem P7:∀(l:List Ce) (p:Option Int) (a:Ce),NT p (l++[a])=NT p l++(if((l.getLast?.map λx=>x.c.id).or p)=some a.c.id then [] else [a])
 | [],p,a=>by show NT p [a]=_;unfold NT;show _=[]++(if p=some a.c.id then [] else [a]);split<;>rfl
 | b::l,p,a=>by
  have ih:=P7 l (some b.c.id) a
  have e:(((b::l).getLast?.map λx:Ce=>x.c.id).or p)=((l.getLast?.map λx=>x.c.id).or (some b.c.id)):=by
   cases l with
   | nil=>rfl
   | cons c l=>simp[List.getLast?_cons_cons,List.getLast?_cons]
  rw[e];show NT p (b::(l++[a]))=_;unfold NT;split
  ·exact ih
  ·rw[ih];rfl
theorem Vj{l:List Ce}{i:Nat}(hi:i<l.length):NT none (l.take (i+1))=NT none (l.take i)++(if h:0<i/\(l[i-1]'ω).c.id=l[i].c.id then [] else [l[i]]):=by
 rw[List.take_succ_eq_append_getElem hi,P7];congr 1;by_cases h0:0<i
 ·have e:(l.take i).getLast?=some (l[i-1]'ω):=by rw[List.getLast?_eq_getElem?,ao,Nat.min_eq_left ω,List.getElem?_take_of_lt ω,co ω]
  rw[e];by_cases h1:(l[i-1]'ω).c.id=l[i].c.id
  ·rw[dif_pos ⟨h0,h1⟩,ab (by simp[h1])]
  ·rw[dif_neg (λq=>h1 q.2),aa (by simpa using h1)]
 ·obtain rfl:i=0:=ω
  rw[dif_neg (λq=>h0 q.1)];simp
def FD(l:List Cl):List Cl:=uq none (ordF l)
theorem EW(l:List Ce)(v:Value)(h:Hp)(hK:CsOk l)(hR:RdC h v l):FnT Tryz.prog 49 #[.agg #[v]] h [] (λr h' ms'=>h.le h'/\∃m A,ms'=[m]/\OwnL cC 3 52 m r A/\A.map Ce.c=FD (l.map Ce.c)/\∀a∈A,RdL cD 2 h' [] a.v a.c.sd):=by
 have o1:=hR.q.rd.one;have hn:=hK.n;refine Ao func49 ntmps49 Y Y (λw0 hw0=>?_);simp only[AX];refine Ap (AQ [_] Y Y (by rfl) Y Y Y (λg1=>Qm Y (Am (AA λh1 l1 hS=>?_))));have hR:=hR.up l1;have hA0:=Seg.all hS 0 _ Y;refine Ap (Qf Cc Y (Ql Y Bi (hA0 _) (Qc call118 Y (LX (l.length+1) l v h1 ω ω hK.s hR) (λr2 h2 ms2 l2 hF=>?_))));obtain⟨l2',m,A,rfl,hO,hA,hs⟩:=hF;refine A6 hO λh3 l3 hRA=>?_;have hs:∀a∈A,RdL cD 2 h3 [] a.v a.c.sd:=λa ha=>(hs a ha).up l3;have lA:A.length=l.length:=by have:=bf List.length hA;rwa [af,E1,af]at this
 have o2:=hRA.rd.one;refine Qm Y (BE (Qm Y (Am (Ac (Ap (Qm Y (Am (Ag (BI ?_)))))))))
 refine Ax (λq s h' ms'=>∃(i:Nat) (vo:Value) (mo:Hp),q=A.length-i/\s=[(3,r2),(4,vo),(5,.w i)]/\h3=h'/\ms'=[mo]/\i<=A.length/\OwnL cC 3 52 mo vo (NT none (A.take i)))
  (A.length-0) _ ⟨0,_,Hp.emp,rfl,rfl,rfl,rfl,ω,OwnL.nil CC⟩ Qs ?_
 rintro q s h' ms' ⟨i,vo,mo,rfl,rfl,rfl,rfl,hi,hO⟩;refine Ac (Ap (Qm Y (Qm Y (Qx (Av hRA.rd.any Y Bi Y) Y (Qm Y (Am ?_))))));refine Ar Y (λhlt=>?_) (λhlt=>?_)
 ·have hil:i<A.length:=CK hlt;have ovo:=hO.o1;have oav:=(hs _ (ae hil)).rd.one;have hgi:∀ms,Seg h3 ms ((AF r2).add (i*3)) (cC A[i]):=λms=>(hRA.any (ms:=ms)).seg hil;have hci:∀ms,Cell h3 ms ((AF r2).add (i*3)) (.w A[i].c.id):=λms=>(hRA.any (ms:=ms)).cell0 hil Y;have htk:=Vj hil;have hul:(NT none (A.take i)).length<=100000:=by have:=Y6 (A.take i) none;rw[ao]at this;omega
  refine Ah (Ab ?_);refine A9 (λs h' ms'=>∃(vo:Value) (mo:Hp),s=[(3,r2),(4,vo),(5,.w i)]/\h3=h'/\ms'=[mo]/\OwnL cC 3 52 mo vo (NT none (A.take (i+1)))) ?_ (λs h ms hI=>?_)
  ·refine Ag (Ac (A5 14 CT κ Y (Wm Y (Wm Y (Wm Y ?_)))));refine Cp (t:=17) Y (λhs1=>?_) (λhs1=>?_)
   ·rw[dif_neg (λq=>ω)]at htk;refine Ay Y Y Y Y Y (Ay Y Y Y Y Y (Ay Y Y Y Y Y (Ay Y Y Y Y Y (Ay Y Y Y Y Y (Ay Y Y Y Y Y (Ay Y Y Y Y Y (Ay Y Y Y Y Y (Ay Y Y Y Y Y (Ay Y Y Y Y Y (Ay Y Y Y Y Y (AZ (Qk Y (Qm Y (Am (Bu Y (Ad (Qm Y (Qm Y (Qm Y (Qx (BG (i) hRA.rd.any Y Bi AH Y Y) Y (Qx (oG Y Ef AH (hgi _)) Y (Aw [_,_,_] Y Bi AH Y (by rfl) Y Y ω Y Y Y (λg36=>?_)))))))))))))))))))))));refine Bg 1 hO (RdL.one CC (x:=A[i]) Mh Y) Y Bi AH Y ω Y Y Y (Dq (l:=[A[i]]) (λy hy=>by rw[ak.1 hy];exact hs _ (ae hil))) (by(try simp only[ac]);omega) (by(try simp only[ac]);omega) rfl rfl rfl (λv6 m6 hO6=>?_);rw[<-htk]at hO6;refine Qm Y (Al (Ai (AR ?_)));exact AE _ ⟨v6,m6,Y,Y,Y,hO6⟩ Qs
   ·have hip:i-1<A.length:=ω
    have hcp:∀ms,Cell h3 ms ((AF r2).add ((i-1)*3)) (.w A[i-1].c.id):=λms=>(hRA.any (ms:=ms)).cell0 hip Y;refine AK (As Y Y) Y Y Y Y (AK (As Y Y) Y Y Y Y (AK (BG (i) hRA.rd.any Y Bi AH Y Y) Y Y Y Y (AK (oF Bn Y) Y Y Y Y (AK (oL Y U3 (hci _)) Y Y Y Y (AK (As Y Y) Y Y Y Y (AK (As Y Y) Y Y Y Y (AK (oS Y) Y Y Y Y (AK (BG (i-1) hRA.rd.any Y Bi AH Y Y) Y Y Y Y (AK (oF Bn Y) Y Y Y Y (AK (oL Y U3 (hcp _)) Y Y Y Y (AZ (Qg (CI Y Y Y) Y (Qm Y (Am ?_))))))))))))));refine Ar Y (λhs2=>?_) (λhs2=>?_)
    ·rw[dif_neg (λq=>hs2 q.2.symm)]at htk;refine Ad (Qm Y (Qm Y (Qm Y (Qx (BG (i) hRA.rd.any Y Bi AH Y Y) Y (Qx (oG Y Ef AH (hgi _)) Y (Aw [_,_,_] Y Bi AH Y (by rfl) Y Y ω Y Y Y (λg36=>?_)))))));refine Bg 1 hO (RdL.one CC (x:=A[i]) Mh Y) Y Bi AH Y ω Y Y Y (Dq (l:=[A[i]]) (λy hy=>by rw[ak.1 hy];exact hs _ (ae hil))) (by(try simp only[ac]);omega) (by(try simp only[ac]);omega) rfl rfl rfl (λv6 m6 hO6=>?_);rw[<-htk]at hO6;refine Qm Y (Al (Ai (AR ?_)));exact AE _ ⟨v6,m6,Y,Y,Y,hO6⟩ Qs
    ·rw[dif_pos ⟨ω,ω⟩,List.append_nil]at htk;rw[<-htk]at hO;refine Ah (Ai ?_);exact AE _ ⟨vo,mo,Y,Y,Y,hO⟩ Qs
  ·obtain⟨vo,mo,rfl,rfl,rfl,hO⟩:=hI;refine Ad (Qm Y (Qx (oA Y) Y (Qm Y (Al ?_))));exact Ak (A.length-(i+1)) _ ω ⟨i+1,vo,mo,Y,Y,Y,Y,ω,hO⟩ Qs
 ·have hie:i=A.length:=ω
  rw[hie,List.take_length]at hO;refine Aq (Aa (Aa (Af (Ab (Ap (Qm Y (Qm Y (Am (An ?_)))))))));exact Au Y Y (⟨AI l1 (AI l2 l3),mo,_,Y,hO,by rw[M8,hA];rfl,λa ha=>hs a (NG _ _ a ha)⟩)
def KD(l:List Cl)(x:Int):Nat:=(l.takeWhile λc=>decide (c.id<x)).length
def Jj(l:List Cl)(x:Int):Int:=if h:KD l x<l.length then if l[KD l x].id=x then(KD l x:Nat) else -1 else -1
theorem OF{l:List Cl}{x:Int}{k:Nat}(hk:k<=l.length)(h1:∀j (hj:j<l.length),j<k->l[j].id<x)(h2:∀hk:k<l.length,¬l[k].id<x):KD l x=k:=by obtain⟨e1,_⟩:=EA (λc:Cl=>decide (c.id<x)) l k hk (λj hj hjk=>ag (h1 j hj hjk)) (λhk=>ah (h2 hk));unfold KD;rw[e1,ao];omega
theorem VM(l:List Ce)(v:Value)(x:Int)(h:Hp)(hn:l.length<=100000)(hst:(l.map Ce.c).Pairwise λa b=>a.id<=b.id)(hR:RdL cC 3 h [] v l)(ms:List Hp):FnV Tryz.prog 117 #[v,.int .i64 x] h ms (.int .i64 (Jj (l.map Ce.c) x)):=by
 refine DZ ?_ ms;have o1:=hR.rd.one
 have hsr:∀i j (hi:i<l.length) (hj:j<l.length),i<j->l[i].c.id<=l[j].c.id:=λi j hi hj hij=>by have:=aw.1 hst i j (by simpa using hi) (by simpa using hj) hij;simpa using this
 refine Ao func117 ntmps117 Y Y (λw0 hw0=>?_);simp only[AX];refine Ap (Qm Y (BE (Qm Y (BE (Qm Y (Qx (Av hR.rd.any Y Bi Y) Y (Qm Y (Am (Ac (Ag ?_))))))))))
 refine Ax (λq s h' ms'=>∃(lo hi:Nat),q=hi-lo/\s=[(0,v),(1,.w x),(5,.w lo),(6,.w hi)]/\h=h'/\ms'=[]/\lo<=hi/\hi<=l.length/\(∀j (hj:j<l.length),j<lo->l[j].c.id<x)/\∀j (hj:j<l.length),hi<=j->¬l[j].c.id<x)
  (l.length-0) _ ⟨0,l.length,rfl,rfl,rfl,rfl,ω,ω,λj hj h=>ω,λj hj h=>ω⟩ Qs ?_
 rintro q s h' ms' ⟨lo,hi,rfl,rfl,rfl,rfl,hlh,hhl,hlo,hhi⟩;refine Ac (Ap (Qm Y (Qm Y (Qm Y (Am ?_)))));refine Ar Y (λhlt=>?_) (λhlt=>?_)
 ·obtain⟨m,hm⟩:∃m,(lo+hi)/2=m:=⟨_,Y⟩
  have hml:m<l.length:=ω
  have hmt:((lo:Int)+hi)/2=(m:Int):=ω
  have hcm:Cell h [] ((AF v).add (m*3)) (.w l[m].c.id):=hR.cell0 hml Y;refine Ah (Ab (Ag (Ap (Qm Y (Qm Y (Qx (oA Y) Y (Qx (Gx Y Y Y ω ω) Y (Qm Y (Am ?_)))))))));rw[hmt];refine Ap (Qm Y (Qm Y (Qx (BG (m) hR.rd.any Y Bi AH Y Y) Y (Qf Bn Y (Ql Y U3 (hcm) (Qm Y (Qm Y (Am ?_))))))));refine Ar Y (λhlt2=>?_) (λhlt2=>?_)
  ·refine Ad (Qm Y (Qx (oA Y) Y (Qm Y (Al (Ai ?_)))))
   exact Ak (hi-(m+1)) _ ω ⟨m+1,hi,Y,Y,Y,Y,ω,ω,λj hj h=>by
    rcases (ω:j<m\/j=m) with h1|rfl
    ·have:=hsr j m hj hml h1;omega
    ·exact hlt2,hhi⟩ Qs
  ·refine Ad (Qm Y (Qm Y (Al (Ai ?_))))
   exact Ak (m-lo) _ ω ⟨lo,m,Y,Y,Y,Y,ω,ω,hlo,λj hj h=>by
    rcases (ω:m<j\/j=m) with h1|rfl
    ·have:=hsr m j hml hj h1;omega
    ·exact hlt2⟩ Qs
 ·obtain rfl:lo=hi:=ω
  have hcnt:KD (l.map Ce.c) x=lo:=OF (by rw[af];omega) (λj hj h=>by rw[cm];exact hlo j (by simpa using hj) h) (λhk=>by rw[cm];exact hhi lo (by simpa using hk) (ay _))
  have hat:Jj (l.map Ce.c) x=if h:lo<l.length then(if l[lo].c.id=x then(lo:Int) else -1) else -1:=by unfold Jj;simp only[hcnt,af,cm]
  refine Aq (Aa (Aa (Af (Ab (Ac (Ap (Qm Y (Qm Y (Qx (Av hR.rd.any Y Bi Y) Y (Qm Y (Qm Y ?_)))))))))));refine AM (t:=31) Y (λhs1=>?_) (λhs1=>?_)
  ·have hll:lo<l.length:=CK hs1;have hcl:Cell h [] ((AF v).add (lo*3)) (.w l[lo].c.id):=hR.cell0 hll Y;rw[dif_pos hll]at hat;refine Qg (As Y Y) Y (Qg (As Y Y) Y (Qg (BG (lo) hR.rd.any Y Bi AH Y Y) Y (Qg (oF Bn Y) Y (Qg (oL Y U3 (hcl)) Y (Qg (As Y Y) Y (Qg (CD Y Y Y) Y (Qm Y (Am ?_))))))));refine Ar Y (λhs2=>?_) (λhs2=>?_)
   ·refine Ac (Ad (Qm Y (Qm Y (Am (An (Ae ?_))))));exact Au Y Y (by rw[hat,ab hs2])
   ·refine Ah (Ab (Ap (Qm Y (Am (An ?_)))));exact Au Y Y (by rw[hat,aa hs2])
  ·rw[dif_neg ω]at hat;refine Qk Y (Qk Y (Qk Y (Qk Y (Qk Y (Qk Y (Qk Y (Qm Y (Am (AN Y (Ah (Ab (Ap (Qm Y (Am (An ?_)))))))))))))));exact Au Y Y (by rw[hat])
def Bw(x:Cl)(i:Nat):Int×Int:=x.sd.getD i (0,0)
theorem Bs{x:Cl}{i:Nat}(hi:i<x.sd.length):Bw x i=x.sd[i]:=by simp[Bw,List.getD,hi]
def CL(l:List Cl)(x:Cl)(i:Nat):Prop:=Jj l (Bw x i).1<0\/(l.getD (Jj l (Bw x i).1).toNat default).dim≠x.dim-1\/(0<i/\(Bw x i).1=(Bw x (i-1)).1)
instance (l:List Cl) (x:Cl) (i:Nat):Decidable (CL l x i):=by unfold CL;infer_instance
def BX(x:Cl):Prop:=(x.dim=0/\0<x.sd.length)\/(x.dim=1/\x.sd.length≠2)\/(1<x.dim/\(x.sd.length<2\/64<x.sd.length))
instance (x:Cl):Decidable (BX x):=by unfold BX;infer_instance
def BP(x:Cl)(i:Nat):Prop:=(Bw x i).2≠1/\(Bw x i).2≠-1
instance (x:Cl) (i:Nat):Decidable (BP x i):=by unfold BP;infer_instance
def Cu(l:List Cl)(x:Cl):Int:=
 if x.dim<0\/8<x.dim then 21
 else if BX x then 22
 else if ¬∀i,i<x.sd.length->¬CL l x i then 22
 else if ¬∀i,i<x.sd.length->¬BP x i then 23
 else if x.dim=1/\(Bw x 0).2=(Bw x 1).2 then 23 else 0
theorem If(l:List Cl)(x:Int):Jj l x<l.length:=by
 unfold Jj;split
 ·split
  ·omega
  ·omega
 ·omega
theorem Zz(l:List Ce)(x:Ce)(v:Value)(h:Hp)(hn:l.length<=100000)(hxn:x.c.sd.length<=100000)(hxd:-9223372036854775807<=x.c.dim/\x.c.dim<=9223372036854775807)(hst:(l.map Ce.c).Pairwise λa b=>a.id<=b.id)(hR:RdL cC 3 h [] v l)(hX:RdL cD 2 h [] x.v x.c.sd)(ms:List Hp):FnV Tryz.prog 139 #[v,.agg #[.int .i64 x.c.id,.int .i64 x.c.dim,x.v]] h ms (.int .i64 (Cu (l.map Ce.c) x.c)):=by
 refine DZ ?_ ms;have o1:=hR.rd.one;have o2:=hX.rd.one;refine Ao func139 ntmps139 Y Y (λw0 hw0=>?_);simp only[AX];refine Ap (AQ [_,_,_] Y Y (by rfl) Y Y Y (λg3=>Qm Y (Am (AA λh1 l1 hS=>?_))));have hR:=hR.up l1;have hX:=hX.up l1;have hA:=Seg.all hS;refine Ac (Ap (Qf BT Y (Ql Y U3 (hA _ _ Y _) (Qm Y (Qm Y ?_)))));refine AM (t:=12) Y (λg1=>?_) (λg1=>?_)
 ·refine Qk Y (Qk Y (Qk Y (Qm Y (Am (Bu Y (Ap (Qm Y (Am (An (Ae ?_))))))))));exact Au Y Y (by unfold Cu;rw[ab (.inl g1)])
 ·refine Qg (oF BT Y) Y (Qg (oL Y U3 (hA _ _ Y _)) Y (Qg (Cf Y Y Y) Y (Qm Y (Am ?_))));refine Ar Y (λg2=>?_) (λg2=>?_)
  ·refine Ac (Ad (Qm Y (Am (An (Ae ?_)))));exact Au Y Y (by unfold Cu;rw[ab (.inr g2)])
  ·have hd:¬(x.c.dim<0\/8<x.c.dim):=ω
   refine Ah (Ab (Ap (Qf BA Y (Ql Y BZ (hA _ _ Y _) (Qx (Av hX.rd.any Y BZ Y) Y (Qm Y (Am ?_)))))));refine A9 (λs h' ms'=>s=[(0,v),(3,.pt g3),(5,.w x.c.sd.length)]/\h1=h'/\ms'=[]/\¬BX x.c) ?_ (λs h ms hI=>?_)
   ·refine Ac (Ad (Qf BT Y (Ql Y U3 (hA _ _ Y _) (Qm Y (Qm Y ?_)))));refine AM (t:=23) Y (λa1=>?_) (λa1=>?_)
    ·refine Qg (As Y Y) Y (Qg (Cf Y Y Y) Y (Qm Y (Qm Y ?_)));refine AM (t:=27) Y (λa2=>?_) (λa2=>?_)
     ·refine Qk Y (Qk Y (Qk Y (Qk Y (Bc Y Y Y Y Y Y (Bc Y Y Y Y Y Y (Qk Y (Qm Y (Qm Y (Qk Y (Qk Y (Qk Y (Qk Y (Bc Y Y Y Y Y Y (Bc Y Y Y Y Y Y (Bc Y Y Y Y Y Y (Bc Y Y Y Y Y Y (Bc Y Y Y Y Y Y (Bc Y Y Y Y Y Y (Qk Y (Qm Y (Am (Bu Y (Ap (Qm Y (Am (An (Ae ?_)))))))))))))))))))))))))));exact Au Y Y (by unfold Cu;rw[aa hd,ab (by unfold BX;omega)])
     ·refine Qg (oF BT Y) Y (Qg (oL Y U3 (hA _ _ Y _)) Y (Qg (CD Y Y Y) Y (Qg (As Y Y) Y ?_)));refine AM (t:=31) Y (λa3=>?_) (λa3=>?_)
      ·exact absurd a3 ω
      ·refine Qk Y (Qk Y (Qg (B9 Y Y Y) Y (Qm Y (Qm Y (Qg (oF BT Y) Y (Qg (oL Y U3 (hA _ _ Y _)) Y (Qg (Cf Y Y Y) Y (Qg (As Y Y) Y ?_))))))));refine AM (t:=40) Y (λa4=>?_) (λa4=>?_)
       ·exact absurd a4 ω
       ·refine Qk Y (Qk Y (Qk Y (Bc Y Y Y Y Y Y (Bc Y Y Y Y Y Y (Qk Y (Qg (B9 Y Y Y) Y (Qm Y (Am (AN Y (Ah ?_))))))))));exact AE _ ⟨Y,Y,Y,by unfold BX;omega⟩ Qs
    ·refine Qk Y (Qk Y (Qm Y (Qm Y (Qg (oF BT Y) Y (Qg (oL Y U3 (hA _ _ Y _)) Y (Qg (CD Y Y Y) Y (Qg (As Y Y) Y ?_)))))));refine AM (t:=31) Y (λa3=>?_) (λa3=>?_)
     ·refine Qg (As Y Y) Y (Qg (CI Y Y Y) Y (Qg (CE Y Y Y) Y (Qm Y (Qm Y ?_))));refine AM (t:=36) Y (λa5=>?_) (λa5=>?_)
      ·refine Qk Y (Qk Y (Qk Y (Qk Y (Bc Y Y Y Y Y Y (Bc Y Y Y Y Y Y (Bc Y Y Y Y Y Y (Bc Y Y Y Y Y Y (Bc Y Y Y Y Y Y (Bc Y Y Y Y Y Y (Qk Y (Qm Y (Am (Bu Y (Ap (Qm Y (Am (An (Ae ?_))))))))))))))))));exact Au Y Y (by unfold Cu;rw[aa hd,ab (by unfold BX;omega)])
      ·refine Qg (oF BT Y) Y (Qg (oL Y U3 (hA _ _ Y _)) Y (Qg (Cf Y Y Y) Y (Qg (As Y Y) Y ?_)));refine AM (t:=40) Y (λa6=>?_) (λa6=>?_)
       ·exact absurd a6 ω
       ·refine Qk Y (Qk Y (Qk Y (Bc Y Y Y Y Y Y (Bc Y Y Y Y Y Y (Qk Y (Qg (B9 Y Y Y) Y (Qm Y (Am (AN Y (Ah ?_))))))))));exact AE _ ⟨Y,Y,Y,by unfold BX;omega⟩ Qs
     ·refine Qk Y (Qk Y (Qg (B9 Y Y Y) Y (Qm Y (Qm Y (Qg (oF BT Y) Y (Qg (oL Y U3 (hA _ _ Y _)) Y (Qg (Cf Y Y Y) Y (Qg (As Y Y) Y ?_))))))));refine AM (t:=40) Y (λa6=>?_) (λa6=>?_)
      ·refine Qg (As Y Y) Y (Qg (Dp Y Y Y) Y (Qg (As Y Y) Y ?_));refine AM (t:=43) Y (λa7=>?_) (λa7=>?_)
       ·refine Qk Y (Qk Y (Qg (CE Y Y Y) Y (Qg (CE Y Y Y) Y (Qm Y (Am (Bu Y (Ap (Qm Y (Am (An (Ae ?_)))))))))));exact Au Y Y (by unfold Cu;rw[aa hd,ab (by unfold BX;omega)])
       ·refine Qg (As Y Y) Y (Qg (Cf Y Y Y) Y (Qg (B9 Y Y Y) Y (Qg (CE Y Y Y) Y (Qm Y (Am ?_)))));refine Ar Y (λa8=>?_) (λa8=>?_)
        ·refine Ac (Ad (Qm Y (Am (An (Ae ?_)))));exact Au Y Y (by unfold Cu;rw[aa hd,ab (by unfold BX;omega)])
        ·refine Ah ?_;exact AE _ ⟨Y,Y,Y,by unfold BX;omega⟩ Qs
      ·exact absurd a6 ω
   ·obtain⟨rfl,rfl,rfl,hnb⟩:=hI;refine Ac (Ap (Qm Y (Am (Ag ?_))))
    refine Ax (λq s h' ms'=>∃(i:Nat),q=x.c.sd.length-i/\s=[(0,v),(3,.pt g3),(5,.w x.c.sd.length),(6,.w i)]/\h1=h'/\ms'=[]/\i<=x.c.sd.length/\∀j,j<i->¬CL (l.map Ce.c) x.c j)
     (x.c.sd.length-0) _ ⟨0,rfl,rfl,rfl,rfl,ω,λj hj=>ω⟩ Qs ?_
    rintro q s h' ms' ⟨i,rfl,rfl,rfl,rfl,hi,hno⟩;refine Ac (Ap (Qm Y (Qm Y (Qm Y (Am ?_)))));refine Ar Y (λhlt=>?_) (λhlt=>?_)
    ·have hil:i<x.c.sd.length:=CK hlt;have hsi:=Bs hil;have hci:Cell h1 [] ((AF x.v).add (i*2)) (.w x.c.sd[i].1):=hX.cell0 hil Y;obtain⟨k,hk⟩:∃k,Jj (l.map Ce.c) x.c.sd[i].1=k:=⟨_,Y⟩
     have hkl:=If (l.map Ce.c) x.c.sd[i].1;rw[hk,af]at hkl
     have hround:¬CL (l.map Ce.c) x.c i->∀j,j<i+1->¬CL (l.map Ce.c) x.c j:=λhb j hj=>by
      rcases (ω:j<i\/j=i) with h|rfl
      ·exact hno j h
      ·exact hb
     refine Ah (Ab (Ac (Ag (Ap (Qm Y (Qf BA Y (Ql Y BZ (hA _ _ Y _) (Qm Y (Qx (BG (i) hX.rd.any Y BZ AO Y Y) Y (Qf B4 Y (Ql Y U3 (hci) (Qx (AG Y call117 Y (VM l v _ h1 hn hst hR _)) Y (Qm Y (Am ?_))))))))))))));rw[hk];refine Ac (A5 30 CT κ Y (Wm Y (Wm Y (Wm Y ?_))));refine Cp (t:=64) Y (λb1=>?_) (λb1=>?_)
     ·refine Ay Y Y Y Y Y (Ay Y Y Y Y Y (Ay Y Y Y Y Y (Ay Y Y Y Y Y (Ay Y Y Y Y Y (Ay Y Y Y Y Y (Ay Y Y Y Y Y (Ay Y Y Y Y Y (Ay Y Y Y Y Y (Wm Y (Wm Y (Ay Y Y Y Y Y (Ay Y Y Y Y Y (Ay Y Y Y Y Y (AW Y Y Y Y (AW Y Y Y Y (AW Y Y Y Y (AW Y Y Y Y (AW Y Y Y Y (AW Y Y Y Y (AW Y Y Y Y (AW Y Y Y Y (AW Y Y Y Y (AW Y Y Y Y (AW Y Y Y Y (AW Y Y Y Y (AW Y Y Y Y (AZ (Bc Y Y Y Y Y Y (Qk Y (Qm Y (Am (Bu Y (Ap (Qm Y (Am (An (Aj (Ae (Ae ?_)))))))))))))))))))))))))))))))))))))));refine Aj (Ae ?_);exact Au Y Y (by unfold Cu;rw[aa hd,aa hnb,ab (λq=>q i hil (by unfold CL;rw[hsi,hk];exact .inl b1))])
     ·obtain⟨m,rfl⟩:∃m:Nat,k=m:=⟨k.toNat,ω⟩
      have hml:m<l.length:=ω
      have hcd:Cell h1 [] (((AF v).add (m*3)).add 1) (.w l[m].c.dim):=hR.cell hml (f:=1) Y;have hgd:(l.map Ce.c).getD ((m:Int).toNat) default=l[m].c:=by simp[List.getD,hml]
      refine AK (As Y Y) Y Y Y Y (AK (As Y Y) Y Y Y Y (AK (BG (m) hR.rd.any Y Bi AH Y Y) Y Y Y Y (AK (oF BT Y) Y Y Y Y (AK (oL Y U3 (hcd)) Y Y Y Y (AK (oF BT Y) Y Y Y Y (AK (oL Y U3 (hA _ _ Y _)) Y Y Y Y (AK (oS Y) Y Y Y Y (AK (CI Y Y Y) Y Y Y Y (Wm Y (Wm Y ?_))))))))));refine Cp (t:=75) Y (λb2=>?_) (λb2=>?_)
      ·refine Ay Y Y Y Y Y (Ay Y Y Y Y Y (Ay Y Y Y Y Y (AW Y Y Y Y (AW Y Y Y Y (AW Y Y Y Y (AW Y Y Y Y (AW Y Y Y Y (AW Y Y Y Y (AW Y Y Y Y (AW Y Y Y Y (AW Y Y Y Y (AW Y Y Y Y (AW Y Y Y Y (AW Y Y Y Y (AW Y Y Y Y (AZ (Bc Y Y Y Y Y Y (Qk Y (Qm Y (Am (Bu Y (Ap (Qm Y (Am (An (Aj (Ae (Ae (Aj (Ae ?_))))))))))))))))))))))))))))));exact Au Y Y (by unfold Cu;rw[aa hd,aa hnb,ab (λq=>q i hil (by unfold CL;rw[hsi,hk,hgd];exact .inr (.inl b2)))])
      ·refine AK (As Y Y) Y Y Y Y (AK (Cf Y Y Y) Y Y Y Y (AK (As Y Y) Y Y Y Y ?_));refine Cp (t:=78) Y (λb3=>?_) (λb3=>?_)
       ·have hip:i-1<x.c.sd.length:=ω
        have hsp:=Bs hip;have hcp:Cell h1 [] ((AF x.v).add ((i-1)*2)) (.w x.c.sd[i-1].1):=hX.cell0 hip Y;refine AK (oF BA Y) Y Y Y Y (AK (oL Y BZ (hA _ _ Y _)) Y Y Y Y (AK (As Y Y) Y Y Y Y (AK (BG (i) hX.rd.any Y BZ AO Y Y) Y Y Y Y (AK (oF B4 Y) Y Y Y Y (AK (oL Y U3 (hci)) Y Y Y Y (AK (oF BA Y) Y Y Y Y (AK (oL Y BZ (hA _ _ Y _)) Y Y Y Y (AK (As Y Y) Y Y Y Y (AK (oS Y) Y Y Y Y (AK (BG (i-1) hX.rd.any Y BZ AO Y Y) Y Y Y Y (AK (oF B4 Y) Y Y Y Y (AK (oL Y U3 (hcp)) Y Y Y Y (AZ (Qg (CD Y Y Y) Y (Qg (CE Y Y Y) Y (Qm Y (Am ?_)))))))))))))))));refine Ar Y (λb4=>?_) (λb4=>?_)
        ·refine Ac (Ad (Qm Y (Am (An (Aj (Ae (Ae (Aj (Ae ?_)))))))));exact Au Y Y (by unfold Cu;rw[aa hd,aa hnb,ab (λq=>q i hil (by unfold CL;rw[hsi,hsp,hk,hgd];exact .inr (.inr ⟨ω,b4⟩)))])
        ·refine Ah (Ai (Ab (Ad (Qm Y (Qx (oA Y) Y (Qm Y (Al ?_)))))));exact Ak (x.c.sd.length-(i+1)) _ ω ⟨i+1,Y,Y,Y,Y,ω,hround (by unfold CL;rw[hsi,hsp,hk,hgd];omega)⟩ Qs
       ·refine Ay Y Y Y Y Y (Ay Y Y Y Y Y (Ay Y Y Y Y Y (Ay Y Y Y Y Y (Ay Y Y Y Y Y (Ay Y Y Y Y Y (Ay Y Y Y Y Y (Ay Y Y Y Y Y (Ay Y Y Y Y Y (Ay Y Y Y Y Y (Ay Y Y Y Y Y (Ay Y Y Y Y Y (Ay Y Y Y Y Y (AZ (Qk Y (Qg (B9 Y Y Y) Y (Qm Y (Am (AN Y (Ah (Ai (Ab (Ad (Qm Y (Qx (oA Y) Y (Qm Y (Al ?_))))))))))))))))))))))))));exact Ak (x.c.sd.length-(i+1)) _ ω ⟨i+1,Y,Y,Y,Y,ω,hround (by unfold CL;rw[hsi,hk,hgd];omega)⟩ Qs
    ·obtain rfl:i=x.c.sd.length:=ω
     have hs2:¬¬∀i,i<x.c.sd.length->¬CL (l.map Ce.c) x.c i:=λq=>q hno;refine Aq (Aa (Aa (Af (Ab (Ac (Ap (Qm Y (Am (Ag ?_)))))))))
     refine Ax (λq s h' ms'=>∃(i:Nat),q=x.c.sd.length-i/\s=[(0,v),(3,.pt g3),(5,.w x.c.sd.length),(8,.w i)]/\h1=h'/\ms'=[]/\i<=x.c.sd.length/\∀j,j<i->¬BP x.c j)
      (x.c.sd.length-0) _ ⟨0,rfl,rfl,rfl,rfl,ω,λj hj=>ω⟩ Qs ?_
     rintro q s h' ms' ⟨i,rfl,rfl,rfl,rfl,hi,hno2⟩;refine Ac (Ap (Qm Y (Qm Y (Qm Y (Am ?_)))));refine Ar Y (λhlt2=>?_) (λhlt2=>?_)
     ·have hil:i<x.c.sd.length:=CK hlt2;have hsi:=Bs hil;have hci:Cell h1 [] (((AF x.v).add (i*2)).add 1) (.w x.c.sd[i].2):=hX.cell hil (f:=1) Y
      have hround:¬BP x.c i->∀j,j<i+1->¬BP x.c j:=λhb j hj=>by
       rcases (ω:j<i\/j=i) with h|rfl
       ·exact hno2 j h
       ·exact hb
      refine Ah (Ab (Ac (Ag (Ap (Qf BA Y (Ql Y BZ (hA _ _ Y _) (Qm Y (Qx (BG (i) hX.rd.any Y BZ AO Y Y) Y (Qf Dh Y (Ql Y U3 (hci) (Qm Y (Qm Y ?_))))))))))));refine AM (t:=107) Y (λc1=>?_) (λc1=>?_)
      ·refine Qg (oF BA Y) Y (Qg (oL Y BZ (hA _ _ Y _)) Y (Qg (As Y Y) Y (Qg (BG (i) hX.rd.any Y BZ AO Y Y) Y (Qg (oF Dh Y) Y (Qg (oL Y U3 (hci)) Y (Qg (CI Y Y Y) Y (Qm Y (Am ?_))))))));refine Ar Y (λc2=>?_) (λc2=>?_)
       ·refine Ac (Ad (Qm Y (Am (An (Aj (Ae (Ae (Aj (Ae ?_)))))))));exact Au Y Y (by unfold Cu;rw[aa hd,aa hnb,aa hs2,ab (λq=>q i hil (by unfold BP;rw[hsi];exact⟨c1,c2⟩))])
       ·refine Ah (Ai (Ab (Ad (Qm Y (Qx (oA Y) Y (Qm Y (Al ?_)))))));exact Ak (x.c.sd.length-(i+1)) _ ω ⟨i+1,Y,Y,Y,Y,ω,hround (by unfold BP;rw[hsi];exact λq=>c2 q.2)⟩ Qs
      ·refine Qk Y (Qk Y (Qk Y (Qk Y (Qk Y (Qk Y (Qk Y (Qm Y (Am (AN Y (Ah (Ai (Ab (Ad (Qm Y (Qx (oA Y) Y (Qm Y (Al ?_)))))))))))))))));exact Ak (x.c.sd.length-(i+1)) _ ω ⟨i+1,Y,Y,Y,Y,ω,hround (by unfold BP;rw[hsi];exact λq=>c1 q.1)⟩ Qs
     ·obtain rfl:i=x.c.sd.length:=ω
      have hs3:¬¬∀i,i<x.c.sd.length->¬BP x.c i:=λq=>q hno2;refine Aq (Aa (Aa (Af (Ab (Ac (Ac (A5 14 CT κ Y (Wf BT Y (Wl Y U3 (hA _ _ Y _) (Wm Y (Wm Y ?_)))))))))));refine Cp (t:=119) Y (λd1=>?_) (λd1=>?_)
      ·have h2:x.c.sd.length=2:=by unfold BX at hnb;omega
       have hl0:0<x.c.sd.length:=ω
       have hl1:1<x.c.sd.length:=ω
       have hs0:=Bs hl0;have hs1:=Bs hl1;have hc0:Cell h1 [] (((AF x.v).add (0*2)).add 1) (.w x.c.sd[0].2):=hX.cell hl0 (f:=1) Y;have hc1:Cell h1 [] (((AF x.v).add (1*2)).add 1) (.w x.c.sd[1].2):=hX.cell hl1 (f:=1) Y;refine AK (oF BA Y) Y Y Y Y (AK (oL Y BZ (hA _ _ Y _)) Y Y Y Y (AK (BG (0) hX.rd.any Y BZ AO Y Y) Y Y Y Y (AK (oF Dh Y) Y Y Y Y (AK (oL Y U3 (hc0)) Y Y Y Y (AK (oF BA Y) Y Y Y Y (AK (oL Y BZ (hA _ _ Y _)) Y Y Y Y (AK (BG (1) hX.rd.any Y BZ AO Y Y) Y Y Y Y (AK (oF Dh Y) Y Y Y Y (AK (oL Y U3 (hc1)) Y Y Y Y (AZ (Qg (CD Y Y Y) Y (Qm Y (Am ?_)))))))))))));refine Ar Y (λd2=>?_) (λd2=>?_)
       ·refine Ac (Ad (Qm Y (Am (An (Ae ?_)))));exact Au Y Y (by unfold Cu;rw[aa hd,aa hnb,aa hs2,aa hs3,ab ⟨d1,by rw[hs0,hs1];exact d2⟩])
       ·refine Ah (Ab (Ap (Qm Y (Am (An ?_)))));exact Au Y Y (by unfold Cu;rw[aa hd,aa hnb,aa hs2,aa hs3,aa (λq=>d2 (by have:=q.2;rwa [hs0,hs1]at this))])
      ·refine Ay Y Y Y Y Y (Ay Y Y Y Y Y (Ay Y Y Y Y Y (Ay Y Y Y Y Y (Ay Y Y Y Y Y (Ay Y Y Y Y Y (Ay Y Y Y Y Y (Ay Y Y Y Y Y (Ay Y Y Y Y Y (Ay Y Y Y Y Y (AZ (Qk Y (Qm Y (Am (AN Y (Ah (Ab (Ap (Qm Y (Am (An ?_))))))))))))))))))));exact Au Y Y (by unfold Cu;rw[aa hd,aa hnb,aa hs2,aa hs3,aa (λq=>d1 q.1)])
end Go.Proofs.Q
namespace Go.Proofs.Q
open Go.Eng Go.RowKit
variable {n T i k m:Nat} {l pa:List Int} {now old w:Int}
def Ew(l:List Int)(x:Int):Nat:=(l.takeWhile λy=>decide (y≠x)).length
theorem PG(l:List Int)(x:Int):Ew l x<=l.length:=(List.takeWhile_sublist _).length_le
theorem OY{x:Int}(hk:k<=l.length)(h1:∀j (hj:j<l.length),j<k->l[j]≠x)(h2:∀hk:k<l.length,l[k]=x):Ew l x=k:=by obtain⟨e1,_⟩:=EA (λy:Int=>decide (y≠x)) l k hk (λj hj hjk=>ag (h1 j hj hjk)) (λhk=>ah (λq=>q (h2 hk)));unfold Ew;rw[e1,ao];omega
def FA(pa:List Int)(m:Nat)(now old:Int):List Int:=pa.mapIdx λj p=>if j<m/\p=now then old else p
theorem Dk(pa:List Int)(m:Nat)(now old:Int):(FA pa m now old).length=pa.length:=by simp[FA]
theorem E5{j:Nat}(hj:j<pa.length):(FA pa m now old)[j]'(by rw[Dk];exact hj)=if j<m/\pa[j]=now then old else pa[j]:=by simp[FA]
theorem TW(pa:List Int)(now old:Int):FA pa 0 now old=pa:=by refine bo (by rw[Dk]) λj h1 h2=>?_;rw[E5 h2,aa (λq=>ω)]
theorem VH(hm:m<pa.length)(h:pa[m]=now):(FA pa m now old).set m old=FA pa (m+1) now old:=by
 refine bo (by rw[bz,Dk,Dk]) λj h1 h2=>?_;rw[Dk]at h2;rw[List.getElem_set];by_cases e:m=j
 ·subst e;rw[ab rfl,E5 h2,ab ⟨ω,h⟩]
 ·rw[aa e,E5 h2,E5 h2];by_cases h3:j<m
  ·simp only[h3,true_and,show j<m+1 by omega]
  ·rw[aa (λq=>h3 q.1),aa (λq=>ω)]
theorem ZE(hm:m<pa.length)(h:pa[m]≠now):FA pa m now old=FA pa (m+1) now old:=by
 refine bo (by rw[Dk,Dk]) λj h1 h2=>?_;rw[Dk]at h2;rw[E5 h2,E5 h2];by_cases e:m=j
 ·subst e;rw[aa (λq=>ω),aa (λq=>h q.2)]
 ·by_cases h3:j<m
  ·simp only[h3,true_and,show j<m+1 by omega]
  ·rw[aa (λq=>h3 q.1),aa (λq=>ω)]
structure S2 where
 ids:List Int
 su:List Int
 ma:List Int
 fi:List Int
 pa:List Int
def S2.add(S:S2)(i:Nat)(id:Int):S2:=if Ew S.ids id=S.ids.length then⟨S.ids++[id],S.su++[0],S.ma++[0],S.fi++[(i:Int)],S.pa⟩ else S
def S2.hit(S:S2)(i k:Nat)(w:Int):S2:=⟨S.ids,S.su.set k (S.su.getD k 0+w),S.ma.set k (S.ma.getD k 0+1),S.fi,FA S.pa (i+1) (S.pa.getD i 0) (S.pa.getD (S.fi.getD k 0).toNat 0)⟩
def S2.side(S:S2)(i:Nat)(w:Int)(r:Int×Int):S2:=(S.add i r.1).hit i (Ew S.ids r.1) (w*r.2)
def S2.sides(S:S2)(i:Nat)(w:Int)(l:List (Int×Int)):S2:=l.foldl (λS r=>S.side i w r) S
theorem S2.sides_snoc(S:S2)(i:Nat)(w:Int)(l:List (Int×Int))(r:Int×Int):S.sides i w (l++[r])=(S.sides i w l).side i w r:=by unfold S2.sides;rw[List.foldl_append];rfl
def S2.start(S:S2)(i:Nat):S2:=⟨S.ids,S.su,S.ma,S.fi,S.pa.set i (i:Int)⟩
def Fv(l:List Cl)(x:Cl)(i:Nat):Cl:=l.getD (Jj l (Bw x i).1).toNat default
def Hf(l:List Cl)(x:Cl):Nat->S2
 | 0=>⟨[],[],[],[],replicate x.sd.length 0⟩
 | i+1=>((Hf l x i).start i).sides i (Bw x i).2 (Fv l x i).sd
def DY(l:List Cl)(x:Cl):Int:=
 if ¬∀y∈(Hf l x x.sd.length).su,y=0 then 24
 else if ¬∀y∈(Hf l x x.sd.length).ma,y=2 then 25
 else if ¬∀y∈(Hf l x x.sd.length).pa,y=(Hf l x x.sd.length).pa.getD 0 0 then 25 else 0
structure S2.Ok(S:S2)(T n:Nat):Prop where
 s:S.su.length=S.ids.length
 m:S.ma.length=S.ids.length
 f:S.fi.length=S.ids.length
 p:S.pa.length=n
 t:S.ids.length<=T
 sb:∀y∈S.su,-(T:Int)<=y/\y<=T
 mb:∀y∈S.ma,0<=y/\y<=T
 fb:∀y∈S.fi,0<=y/\y<n
theorem G1{a y:Int}(h:y∈l++[a]):y∈l\/y=a:=by
 rcases aq.1 h with h|h
 ·exact .inl h
 ·exact .inr (ak.1 h)
theorem S2.Ok.add{S:S2}(K:S.Ok T n)(hi:i<n)(id:Int):(S.add i id).Ok (T+1) n/\Ew S.ids id<(S.add i id).ids.length:=by
 have hf:=PG S.ids id;unfold S2.add;split
 ·rename_i h;refine⟨⟨by simp[K.s],by simp[K.m],by simp[K.f],K.p,by simp[K.t],λy hy=>?_,λy hy=>?_,λy hy=>?_⟩,by rw[ad,ac];omega⟩
  ·rcases G1 hy with h|rfl
   ·have:=K.sb y h;omega
   ·omega
  ·rcases G1 hy with h|rfl
   ·have:=K.mb y h;omega
   ·omega
  ·rcases G1 hy with h|rfl
   ·exact K.fb y h
   ·omega
 ·rename_i h;exact⟨⟨K.s,K.m,K.f,K.p,by have:=K.t;omega,λy hy=>by have:=K.sb y hy;omega,λy hy=>by have:=K.mb y hy;omega,K.fb⟩,ω⟩
theorem Pp(hk:k<l.length):l.getD k 0∈l:=by simp[List.getD,hk]
theorem S2.Ok.hit{S:S2}(K:S.Ok (T+1) n){U:S2}(KU:U.Ok T n)(hsu:∀y∈S.su,-(T:Int)<=y/\y<=T)(hma:∀y∈S.ma,0<=y/\y<=T)(hk:k<S.ids.length)(hw:w=1\/w=-1):(S.hit i k w).Ok (T+1) n:=by
 have h1:=hsu _ (Pp (show k<S.su.length by rw[K.s];exact hk));have h2:=hma _ (Pp (show k<S.ma.length by rw[K.m];exact hk));refine⟨by show(List.set _ _ _).length=_;rw[bz];exact K.s,by show(List.set _ _ _).length=_;rw[bz];exact K.m,K.f,by show(FA _ _ _ _).length=_;rw[Dk];exact K.p,K.t,λy hy=>?_,λy hy=>?_,K.fb⟩
 ·rcases List.mem_or_eq_of_mem_set hy with h|rfl
  ·exact K.sb y h
  ·rcases hw with rfl|rfl<;>omega
 ·rcases List.mem_or_eq_of_mem_set hy with h|rfl
  ·exact K.mb y h
  ·omega
theorem S2.add_su{S:S2}(K:S.Ok T n)(i:Nat)(id:Int):(∀y∈(S.add i id).su,-(T:Int)<=y/\y<=T)/\∀y∈(S.add i id).ma,0<=y/\y<=T:=by
 unfold S2.add;split
 ·refine⟨λy hy=>?_,λy hy=>?_⟩
  ·rcases G1 hy with h|rfl
   ·exact K.sb y h
   ·omega
  ·rcases G1 hy with h|rfl
   ·exact K.mb y h
   ·omega
 ·exact⟨K.sb,K.mb⟩
theorem S2.Ok.side{S:S2}(K:S.Ok T n)(hi:i<n){r:Int×Int}(hw:w*r.2=1\/w*r.2=-1):(S.side i w r).Ok (T+1) n:=
 S2.Ok.hit (K.add hi r.1).1 K (S2.add_su K i r.1).1 (S2.add_su K i r.1).2 (K.add hi r.1).2 hw
theorem S2.Ok.start{S:S2}(K:S.Ok T n):(S.start i).Ok T n:=⟨K.s,K.m,K.f,by show(List.set _ _ _).length=n;rw[bz];exact K.p,K.t,K.sb,K.mb,K.fb⟩
theorem Qi{a b:Int}(ha:a=1\/a=-1)(hb:b=1\/b=-1):a*b=1\/a*b=-1:=by rcases ha with rfl|rfl<;>rcases hb with rfl|rfl<;>decide
theorem S2.Ok.sides(hi:i<n)(hw:w=1\/w=-1):∀(l:List (Int×Int)) (S:S2) (T:Nat),S.Ok T n->(∀r∈l,r.2=1\/r.2=-1)->(S.sides i w l).Ok (T+l.length) n
 | [],S,T,K,_=>K
 | r::l,S,T,K,h=>by have:=S2.Ok.sides hi hw l (S.side i w r) (T+1) (K.side hi (Qi hw (h r Mh))) (λr hr=>h r (au _ hr));rw[df,show T+(l.length+1)=T+1+l.length by omega];exact this
end Go.Proofs.Q
