/- A part of the proof. -/
import Derived.Test.YtodheebhahdepaaGreatDoorSB
import Derived.Test.YtodheebhahdepaaGreatDoorChecked
import Derived.KernelRfl
import Derived.WalkArith
set_option linter.unusedSimpArgs false
set_option linter.unusedVariables false
set_option linter.unusedSectionVars false
set_option maxRecDepth 100000
set_option maxHeartbeats 4000000
open List (length_map length_singleton getElem_mem replicate range length_append nil_append length_take mem_cons cons_append map_append mem_cons_of_mem length_nil length_drop length_set append_assoc getElem_map length_cons take_zero drop_zero take_succ_cons drop_succ_cons not_mem_nil)
namespace Go.Eng
open Go.RowKit
section
variable {e:Entry} {Q:Exit->Act->World->Prop} {ops:Array Oper} {rest:List Oper} {o:Oper} {s:AB} {h:Hp} {ms:List Hp}
theorem Vu(z:Array Value)(n:Nat):(Builtin.zeroCells z n).toList.length=n*z.size:=by simp[Builtin.zeroCells]
theorem V4{z:Array Value}{n:Nat}(h1:∀c∈z,c.oneCell'=true):∀c∈(Builtin.zeroCells z n).toList,c.oneCell'=true:=by
  intro c hc;simp only[Builtin.zeroCells,Array.toList_map,List.mem_map]at hc;obtain⟨i,hi,rfl⟩:=hc;have hi':i<n*z.size:=by simpa using hi
  have hz:0<z.size:=by
    rcases Nat.eq_zero_or_pos z.size with h|h
    · rw[h]at hi';omega
    · exact h
  have hm:=Nat.mod_lt i hz;rw[getElem!_pos z _ hm];exact h1 _ (Array.getElem_mem hm)
theorem Sp{α:Type}{F:α->List Value}{t el:TypeId}{m:Hp}{v:Value}{l:List α}{x:Operand}{z:Value}{sz bytes:Nat}(i n:Nat)(O:OwnL F sz el m v l)(hn:n<=l.length)(ho:o.op=.call { callee:=.builtin .clear,args:=#[x],argTypes:=#[t] })(ht:e.P.underlying t=some (.slice el))(hs:Elem e.P el sz z bytes)(hz:z.cells.size=sz)(h1:∀c∈z.cells,c.oneCell'=true)
    (hx:ev s x=some (B4 sz v n l.length)) (hm:ms[i]?=some m) (hd:o.dst=none) (hg:o.guard=none)
    (K:∀m',OwnL F sz el m' (B4 sz v 0 n) (l.take n)->WL e ops Q rest s h (ms.set i m')):WL e ops Q (o::rest) s h ms:=by
  have hP:=O.pre hn
  have hset:ms.set i m=ms:=by
    refine List.ext_getElem? fun j=>?_;rw[List.getElem?_set];split
    · next hij=>subst hij;split
                · exact hm.symm
                · next hlt=>exact(List.getElem?_eq_none (by omega)).symm
    · rfl
  have nothing:(∀w ty,(Builtin.clear_ #[t] ty #[B4 sz v n l.length]).run e.P w=.ok (.tuple #[]) w)->WL e ops Q (o::rest) s h ms:=fun hh=>by
    refine Kj (post:=fun _ h' ms'=>h'=h/\ms'=ms) (fun ρ w hρ hw=>?_) hd hg fun _ _ _ ⟨e4,e5⟩=>by
      subst e4 e5;have:=K m hP
      rwa [hset]at this
    have:(execOp ρ o).run e.P w=.ok (.value (.tuple #[])) w:=by simp[execOp,ho,hρ _ _ hx,resolve,invoke,builtin,hh]
    unfold OpRes;rw[this];exact⟨h,_,hw,rfl,rfl⟩
  obtain⟨⟨h2,h3⟩,hF⟩:=O;rcases h3 with ⟨rfl,h5,rfl⟩|⟨g,cap,spare,rfl,rfl,h6,h7,h8⟩
  · refine nothing fun w ty=>?_
    have:B4 sz (.slice none 0 0) n l.length=.slice none (l.length-n) (0-n):=by unfold B4;simp
    rw[this];simp[Builtin.clear_,run_underlying ht]
  · rcases Nat.eq_zero_or_pos (l.length-n) with h0|h0
    · refine nothing fun w ty=>?_;have:∃a c,B4 sz (.slice (some ⟨g,0,none⟩) l.length cap) n l.length=.slice a 0 c:=⟨_,_,by unfold B4;rw[h0]⟩
      obtain⟨a,c,this⟩:=this;rw[this];cases a<;>simp[Builtin.clear_,run_underlying ht]
    · have hcn:¬cap=n:=by omega
      have hvs:B4 sz (.slice (some ⟨g,0,none⟩) l.length cap) n l.length=.slice (some ⟨g,n*sz,none⟩) (l.length-n) (cap-n):=by
        unfold B4;simp only;rw[if_neg hcn];have:(⟨g,0,none⟩:Addr).add (n*sz)=⟨g,n*sz,none⟩:=by unfold Addr.add;split<;>simp_all
        simp only[Option.map_some,this]
      rw[hvs]at hx;obtain⟨Z,hZ⟩:∃Z,(Builtin.zeroCells z.cells (l.length-n)).toList=Z:=⟨_,rfl⟩
      have hZl:Z.length=(l.length-n)*sz:=by rw[<-hZ,Vu,hz]
      have hZ1:∀c∈Z,c.oneCell'=true:=by rw[<-hZ];exact V4 h1
      have hsm:n*sz+(l.length-n)*sz=l.length*sz:=by rw[<-Nat.add_mul];congr 1;omega
      have hfl:(l.flatMap F).length=l.length*sz:=Bf hF l;obtain⟨L,hL⟩:∃L,l.flatMap F++spare=L:=⟨_,rfl⟩
      have hLl:l.length*sz<=L.length:=by rw[<-hL,length_append,hfl];omega
      have hsp:l.flatMap F=(l.take n).flatMap F++(l.drop n).flatMap F:=by rw[<-List.flatMap_append,List.take_append_drop]
      have hL2:(l.take n).flatMap F++((l.drop n).flatMap F++spare)=L:=by rw[<-append_assoc,<-hsp,hL]
      have hft:((l.take n).flatMap F).length=n*sz:=by rw[Bf hF,length_take,Nat.min_eq_left hn]
      have hLt:L.take (n*sz)=(l.take n).flatMap F:=by rw[<-hL2,<-hft,List.take_left]
      have hNew:L.take (n*sz)++Z++L.drop (n*sz+Z.length)=(l.take n).flatMap F++(Z++L.drop (n*sz+Z.length)):=by rw[hLt,append_assoc]
      refine Kj (post:=fun _ h' ms'=>h'=h/\ms'=ms.set i (Bn g el (L.take (n*sz)++Z++L.drop (n*sz+Z.length)))) (fun ρ w hρ hw=>?_) hd hg fun _ _ _ ⟨e4,e5⟩=>by
        subst e4 e5
        have hv:B4 sz (.slice (some ⟨g,0,none⟩) l.length cap) 0 n=.slice (some ⟨g,0,none⟩) n cap:=by
          unfold B4;by_cases h0:cap=0
          · omega
          · show Value.slice (if cap=0 then _ else _) (n-0) (cap-0)=_;rw[if_neg h0,Nat.zero_mul];rfl
        refine K _ ⟨⟨Bf hF _,.inr ⟨g,cap,Z++L.drop (n*sz+Z.length),?_,?_,?_,?_,h8⟩⟩,hF⟩
        · rw[length_take,Nat.min_eq_left hn];exact hv
        · rw[hNew]
        · rw[<-hNew];have:(L.take (n*sz)++Z++L.drop (n*sz+Z.length)).length=L.length:=by simp;omega
          rw[this,<-hL];exact h6
        · rw[length_take,Nat.min_eq_left hn];omega
      rw[hL]at hm;have hgw:w.heap[g]?=some (.cells L.toArray el (0,0)):=hw.st.own _ (List.mem_of_getElem? hm) g _ (Hp.one_self _ _);have hst:=run_storeCells_at (P:=e.P) g (n*sz) el Z 0 _ w hgw (by simp only[List.size_toArray];omega) hZ1
      have:(execOp ρ o).run e.P w=.ok (.value (.tuple #[])) (w.setRow g (L.take (n*sz)++Z++L.drop (n*sz+Z.length)).toArray):=by
        obtain⟨q,hq⟩:∃q,l.length-n=q+1:=⟨l.length-n-1,by omega⟩
        rw[hq]at hx hZ;simp[execOp,ho,hρ _ _ hx,resolve,invoke,builtin,Builtin.clear_,run_underlying ht,hs.zeroValue,hZ];simp at hst;rw[hst];rfl
      unfold OpRes;rw[this];exact⟨h,_,Ends.put hw hm rfl ⟨rfl,Nat.le_refl _⟩ rfl (by simp) (setRow_heap w g _ _ _ _ hgw) (fun k hk hne=>setRow_other w g k _ hne),rfl,rfl⟩
end
end Go.Eng
namespace Go.Eng
section
variable {P:Program} {o:Oper} {s:AB} {h:Hp} {ms:List Hp} {t u:TypeId} {x y:Operand}
theorem XB{a:Int}{n:Nat}{k:IntKind}(ho:o.op=.binOp .shr t x y u)(hx:ev s x=some (.int .i64 a))(hy:ev s y=some (.int k n))(hn:n<=64):OX P o s h ms (.int .i64 (a.fdiv (2^n))):=
  Bx fun ρ w hρ _=>by
    have h1:¬((n:Int)<0):=by omega
    have h2:min n 64=n:=Nat.min_eq_left hn;simp[execOp,ho,hρ _ _ hx,hρ _ _ hy,Op.shift,h1,IntKind.bits,h2,go_sem]<;>exact(Int.fdiv_eq_ediv_of_nonneg a (Int.le_of_lt (Int.pow_pos (by decide)))).symm
def Abg(a b:Int):Int:=IntKind.i64.wrap ((BitVec.ofInt 64 a &&& BitVec.ofInt 64 b).toNat:Int)
theorem Yx{a b:Int}(ho:o.op=.binOp .and t x y u)(hx:ev s x=some (.int .i64 a))(hy:ev s y=some (.int .i64 b)):OX P o s h ms (.int .i64 (Abg a b)):=
  Bx fun ρ w hρ _=>by simp[execOp,ho,hρ _ _ hx,hρ _ _ hy,Op.intBits,IntKind.bits,go_sem];rfl
end
end Go.Eng
namespace Go.Eng
variable {n:Nat} {cs:List Value}
def OwnO(el:TypeId)(sz:Nat)(m:Hp)(v:Value)(n:Nat)(cs:List Value):Prop:=
  cs.length=n*sz/\((v=.slice none 0 0/\n=0/\m=Hp.emp) ∨
    ∃g cap pre spare,v=.slice (some ⟨g,pre.length,none⟩) n cap/\m=Bn g el (pre++(cs++spare))/\cap*sz<=(cs++spare).length/\n<=cap/\cap<=9223372036854775807)
theorem Own.o{el:TypeId}{sz:Nat}{m:Hp}{v:Value}(O:Own el sz m v n cs):OwnO el sz m v n cs:=by
  obtain⟨h1,h2⟩:=O;refine⟨h1,?_⟩;rcases h2 with h|⟨g,cap,spare,rfl,rfl,e1,e2,e3⟩
  · exact .inl h
  · exact .inr ⟨g,cap,[],spare,rfl,rfl,by omega,e2,e3⟩
theorem OwnO.rd{el:TypeId}{sz:Nat}{m:Hp}{v:Value}(O:OwnO el sz m v n cs){h:Hp}{ms:List Hp}(hm:m∈ms):Rd h ms v sz n cs:=by
  obtain⟨h1,h2⟩:=O;rcases h2 with ⟨rfl,rfl,rfl⟩|⟨g,cap,pre,spare,rfl,rfl,e1,e2,e3⟩
  · exact⟨none,0,rfl,Nat.le_refl _,by omega,h1,fun h=>by omega⟩
  · refine⟨_,cap,rfl,e2,e3,h1,fun _=>⟨_,rfl,fun j v hv=>?_⟩⟩;obtain⟨i,hi⟩:=List.getElem?_of_mem hm
    have:Cell h ms ((⟨g,0,none⟩:Addr).add (pre.length+j)) v:=Cell.blk i hi (by
      rw[List.getElem?_append_right (by omega),Nat.add_sub_cancel_left,List.getElem?_append_left (List.getElem?_eq_some_iff.1 hv).1];exact hv)
    have e:(⟨g,0,none⟩:Addr).add (pre.length+j)=(⟨g,pre.length,none⟩:Addr).add j:=by unfold Addr.add;split<;>split<;>simp_all<;>omega
    rwa [e]at this
theorem OwnO.tail{el:TypeId}{sz:Nat}{m:Hp}{v:Value}(O:OwnO el sz m v (n+1) cs):OwnO el sz m (B4 sz v 1 (n+1)) n (cs.drop sz):=by
  obtain⟨h1,h2⟩:=O;have hc:sz<=cs.length:=by rw[h1,Nat.add_mul];omega
  refine⟨by rw[length_drop,h1,Nat.add_mul];omega,?_⟩;rcases h2 with ⟨_,h,_⟩|⟨g,cap,pre,spare,rfl,rfl,e1,e2,e3⟩
  · omega
  · right
    rw[length_append]at e1;by_cases hcap:cap=1
    · subst hcap;obtain rfl:n=0:=by omega
      refine⟨g,0,pre,cs++spare,?_,?_,by omega,by omega,by omega⟩
      · simp[B4]
      · rw[List.drop_eq_nil_of_le (by omega),nil_append]
    · refine⟨g,cap-1,pre++cs.take sz,spare,?_,?_,?_,by omega,by omega⟩
      · simp only[B4];rw[if_neg hcap,length_append,length_take,Nat.min_eq_left hc];simp[Addr.add]
      · rw[append_assoc,<-append_assoc (cs.take sz),List.take_append_drop]
      · rw[length_append,length_drop,Nat.sub_mul];omega
section
variable {P:Program}
theorem Jh(w:World)(t ty e:TypeId)(i:TypeInfo)(ht:P.underlying t=some (.slice e))(hi:P.info? e=some i)
    (g o sLen sCap:Nat) (cur:Array Value) (hg:w.heap[g]?=some (.cells cur e (0,0)))
    (a:Addr) (m c:Nat) (news:List Value) (hl:news.length=m*i.size) (hnews:∀j u,news[j]?=some u->w.cell? (a.add j)=some u) (h1:∀u∈news,u.oneCell'=true)
    (hroom:sLen+m<=sCap) (hfit:o+sLen*i.size+news.length<=cur.size) :
    (Builtin.append_ #[t,t] ty #[.slice (some ⟨g,o,none⟩) sLen sCap,.slice (some a) m c]).run P w =
      .ok (.slice (some ⟨g,o,none⟩) (sLen+m) sCap) (w.setRow g (cur.toList.take (o+sLen*i.size)++news++cur.toList.drop (o+sLen*i.size+news.length)).toArray):=by
  have hf:=run_firstCells_some (P:=P) w i.size m a m c news hl hnews;have hst:=run_storeCells_at P g (o+sLen*i.size) e news 0 cur w hg (by simpa using hfit) h1;simp only[Nat.add_zero]at hst;simp[Builtin.append_,run_underlying ht,sizeOf,typeInfo,hi,Builtin.lenOf,hroom,hf,Addr.add_lit,hst]
theorem OO{w0 w:World}{h0 h:Hp}{ms0 ms:List Hp}{m:Hp}(H:Ends w0 h0 ms0 w h (m::ms))(t ty el:TypeId){sz:Nat}{z:Value}{bytes:Nat}(ht:P.underlying t=some (.slice el))(hs:Elem P el sz z bytes)(hzs:z.cells.size=sz)(hsz:0<sz)
    {v x:Value} {k:Nat} {news:List Value} (O:OwnO el sz m v n cs) (R:Rd h (m::ms) x sz k news) (h1:∀u∈news,u.oneCell'=true) (hb:(n+k)*bytes<=140737488355328) (hb63:n+k<=9223372036854775807) :
    ∃v' w' m',(Builtin.append_ #[t,t] ty #[v,x]).run P w=.ok v' w'/\OwnO el sz m' v' (n+k) (cs++news)/\Ends w0 h0 ms0 w' h (m'::ms):=by
  have O0:=O;obtain⟨hcl,hO⟩:=O;rcases hO with ⟨rfl,rfl,rfl⟩|⟨g,cap,pre,spare,rfl,rfl,e1,e2,e3⟩
  · have O1:Own el sz Hp.emp (.slice none 0 0) 0 cs:=⟨hcl,.inl ⟨rfl,rfl,rfl⟩⟩
    obtain⟨v',w',m',hr,hO',hE⟩:=La H t ty el ht hs hzs hsz O1 R h1 hb hb63;exact⟨v',w',m',hr,hO'.o,hE⟩
  obtain⟨a,c,rfl,hkc,hcm,hnl,hq⟩:=R.ex;obtain⟨i,hi,hz,his,hib⟩:=hs.info;rcases Nat.eq_zero_or_pos k with rfl|hk
  · have hnews:news=[]:=List.eq_nil_of_length_eq_zero (by simpa using hnl);subst hnews;exact⟨_,w,_,ES w t ty el ht hs _ a n cap c e2,by simpa using O0,H⟩
  · obtain⟨q,rfl,hseg⟩:=hq hk;have hnews:∀j u,news[j]?=some u->w.cell? (q.add j)=some u:=fun j u e=>H.st.cell (hseg j u e)
    have hcap:∀old,grownCap w (n+k) old el<=9223372036854775807/\n+k<=grownCap w (n+k) old el:=fun old=>
      ⟨grownCap_le_maxLen w (n+k) old el (by simp only[maxLen];omega),grownCap_ge w (n+k) old el⟩
    have hzl:∀N,(Builtin.zeroCells z.cells N).toList.length=N*sz:=fun N=>by rw[Array.length_toList,size_zeroCells,hzs]
    have hgw:w.heap[g]?=some (.cells (pre++(cs++spare)).toArray el (0,0)):=H.st.own _ (List.mem_cons_self) g _ (Hp.one_self _ _);have hln:news.length=k*sz:=hnl;by_cases hroom:n+k<=cap
    · have h2:(n+k)*sz<=cap*sz:=Nat.mul_le_mul_right _ hroom;rw[Nat.add_mul]at h2;rw[length_append]at e1;have hsp:news.length<=spare.length:=by omega
      have hfit:pre.length+n*i.size+news.length<=(pre++(cs++spare)).toArray.size:=by rw[his,List.size_toArray,length_append,length_append];omega
      have hr:=Jh (P:=P) w t ty el i ht hi g pre.length n cap (pre++(cs++spare)).toArray hgw q k c news (by rw[his];exact hnl) hnews h1 hroom hfit
      have e5:(List.take (pre.length+n*i.size) (pre++(cs++spare)).toArray.toList++news++List.drop (pre.length+n*i.size+news.length) (pre++(cs++spare)).toArray.toList)=pre++(cs++news++spare.drop news.length):=by
        rw[his,<-hcl]
        have hd:List.drop (pre.length+cs.length+news.length) (pre++(cs++spare))=spare.drop news.length:=by rw[<-append_assoc,<-List.drop_drop,<-length_append,List.drop_left]
        have ht':List.take (pre.length+cs.length) (pre++(cs++spare))=pre++cs:=by rw[<-append_assoc,<-length_append,List.take_left]
        simp only[ht',hd,append_assoc]
      rw[e5]at hr;refine⟨_,_,_,hr,⟨by rw[length_append,hcl,hnl,Nat.add_mul],.inr ⟨g,cap,pre,spare.drop news.length,rfl,rfl,?_,hroom,e3⟩⟩,?_⟩
      · rw[length_append,length_append,length_drop];omega
      · exact Ends.change H rfl ⟨rfl,Nat.le_refl _⟩ rfl (by simp) (setRow_heap w g _ _ _ _ hgw) (fun j hj hne=>setRow_other w g j _ hne)
    · have hR:=OwnO.rd O0 (h:=h) (ms:=Bn g el (pre++(cs++spare))::ms) (List.Mem.head _)
      have holds:∀j u,cs[j]?=some u->w.cell? ((⟨g,pre.length,none⟩:Addr).add j)=some u:=fun j u hv=>by
        rcases Nat.eq_zero_or_pos n with rfl|hn
        · have:cs=[]:=List.eq_nil_of_length_eq_zero (by simpa using hcl);subst this;simp at hv
        · obtain⟨a',c',e',_,_,_,hq'⟩:=hR.ex;obtain⟨q',hq1,hq2⟩:=hq' hn;simp only[Value.slice.injEq]at e';obtain⟨e',_,_⟩:=e';rw[hq1]at e';obtain rfl:=Option.some.inj e';exact H.st.cell (hq2 j u hv)
      have hr:=run_append_grow (P:=P) w t ty el i z ht hi hz ⟨g,pre.length,none⟩ n cap cs (by rw[his];exact hcl) holds q k c news (by rw[his];exact hnl) hnews (by omega) (by omega) (by rw[hib];exact growslice_fits (by omega) hb);refine⟨_,_,_,hr,⟨by rw[length_append,hcl,hnl,Nat.add_mul],.inr ⟨w.heap.size,grownCap w (n+k) cap el,[],(Builtin.zeroCells z.cells (grownCap w (n+k) cap el-(n+k))).toList,rfl,rfl,?_,(hcap cap).2,(hcap cap).1⟩⟩,?_⟩
      · rw[length_append,length_append,hzl,hcl,hnl,<-Nat.add_mul,<-Nat.add_mul];refine Nat.mul_le_mul_right _ ?_;have:=(hcap cap).2;omega
      · have:=Ends.alloc (Ends.drew (Ends.drop H)) (.cells (cs.toArray++news.toArray++Builtin.zeroCells z.cells (grownCap w (n+k) cap el-(n+k))) el)
        have e:([]++(cs++news++(Builtin.zeroCells z.cells (grownCap w (n+k) cap el-(n+k))).toList)).toArray=cs.toArray++news.toArray++Builtin.zeroCells z.cells (grownCap w (n+k) cap el-(n+k)):=by apply Array.ext';simp
        unfold Bn;rw[e];exact this
end
structure OwnQ{α:Type}(F:α->List Value)(sz:Nat)(el:TypeId)(m:Hp)(v:Value)(l:List α):Prop where
  own:OwnO el sz m v l.length (l.flatMap F)
  len:∀x,(F x).length=sz
section
variable {α:Type} {F:α->List Value} {sz:Nat} {h:Hp} {ms:List Hp} {v:Value} {l:List α} {el:TypeId} {m:Hp}
theorem OwnL.q(O:OwnL F sz el m v l):OwnQ F sz el m v l:=⟨O.own.o,O.len⟩
theorem OwnQ.rd(O:OwnQ F sz el m v l)(hm:m∈ms):RdL F sz h ms v l:=⟨O.own.rd hm,O.len⟩
theorem OwnQ.o1(O:OwnQ F sz el m v l):v.oneCell'=true:=(O.rd (h:=Hp.emp) (ms:=[m]) (List.Mem.head _)).rd.one
theorem OwnQ.tail{x:α}(O:OwnQ F sz el m v (x::l)):OwnQ F sz el m (B4 sz v 1 (l.length+1)) l:=by have:=OwnO.tail (n:=l.length) (cs:=(x::l).flatMap F) O.own;rw[List.flatMap_cons,<-O.len x,List.drop_left,O.len x]at this;exact⟨this,O.len⟩
theorem Kz{e:Entry}{Q:Exit->Act->World->Prop}{ops:Array Oper}{rest:List Oper}{o:Oper}{s:AB}{t:TypeId}{d:Nat}{z:Value}{bytes:Nat}{x y:Operand}{u:Value}{r:List α}(i:Nat)(O:OwnQ F sz el m v l)(R:RdL F sz h ms u r)(ho:o.op=.call { callee:=.builtin .append,args:=#[x,y],argTypes:=#[t,t] })(ht:e.P.underlying t=some (.slice el))(hs:Elem e.P el sz z bytes)(hzs:z.cells.size=sz)(hsz:0<sz)
    (hx:ev s x=some v) (hy:ev s y=some u) (hm:ms[i]?=some m) (h1:∀a∈r,∀c∈F a,c.oneCell'=true) (hb:(l.length+r.length)*bytes<=140737488355328) (hb63:l.length+r.length<=9223372036854775807) (hd:o.dst=some d) (hn:Nat.blt d e.n=true) (hg:o.guard=none)
    (K:∀v' m',OwnQ F sz el m' v' (l++r)->WL e ops Q rest ((d,v')::s) h (ms.set i m')):WL e ops Q (o::rest) s h ms:=
  Ia (post:=fun v' h' ms'=>∃m',h'=h/\ms'=ms.set i m'/\OwnO el sz m' v' (l.length+r.length) (l.flatMap F++r.flatMap F)) (fun ρ w hρ hw=>by
    obtain⟨r',p1,_⟩:=FW ms i m m hm;obtain⟨v',w',m',hr,hO,hE⟩:=OO (P:=e.P) (Ends.perm hw p1) t o.type el ht hs hzs hsz O.own (R.rd.sub (fun m hm=>p1.mem_iff.1 hm)) (fun c hc=>by obtain⟨a,hm',ha⟩:=List.mem_flatMap.1 hc;exact h1 a hm' c ha) hb hb63
    have:(execOp ρ o).run e.P w=.ok (.value v') w':=by simp[execOp,ho,hρ _ _ hx,hρ _ _ hy,resolve,invoke,builtin,hr]
    unfold OpRes;rw[this];obtain⟨r'',q1,q2⟩:=FW ms i m m' hm;have pr:(m'::r').Perm (ms.set i m'):=((List.Perm.cons_inv (p1.symm.trans q1)).cons m').trans q2.symm
    exact⟨h,_,Ends.perm hE pr,m',rfl,rfl,hO⟩) hd hn hg fun v' h' ms' ⟨m',e1,e2,e3⟩=>by subst e1 e2;exact K v' m' ⟨by rw[length_append,List.flatMap_append];exact e3,O.len⟩
end
end Go.Eng

namespace Go.Eng
theorem FnT.borrow{P:Program}{f:FuncId}{args:Array Value}{h m:Hp}{post:Hp->Value->Hp->List Hp->Prop}(kf:∀hj,h.le hj->m.le hj->FnT P f args hj [] (post hj)) :
    FnT P f args h [m] (fun r h' ms'=>h.le h'/\∃hj h2 ms2,h.le hj/\post hj r h2 ms2/\h'.le h2/\ms'=m::ms2/\∀h3:Hp,h3.le h2->m.disj h3->h3.le h'):=by
  intro w hw;have hd:m.disj h:=hw.off m (List.Mem.head _);have E0:=Ends.freeze (Ends.refl hw);refine(kf _ (Hp.le_join _ _) (Hp.join_le_right hd) w E0.st).mono fun x w' ⟨r,h2,ms2,e1,E,hp⟩=>?_;have hm2:m.le h2:=Hp.le_trans (Hp.join_le_right hd) E.le;have hh2:h.le h2:=Hp.le_trans (Hp.le_join _ _) E.le
  have hdh:h.le (fun k=>if m k=none then h2 k else none):=fun k o e=>by
    show(if m k=none then h2 k else none)=some o;rcases hd k with h1|h1
    · rw[if_pos h1];exact hh2 k o e
    · rw[h1]at e;cases e
  refine⟨r,fun k=>if m k=none then h2 k else none,m::ms2,e1,?_,hdh,h.join m,h2,ms2,Hp.le_join _ _,hp,fun k o e=>?_,rfl,fun h3 l3 d3 k o e=>?_⟩
  · refine⟨⟨fun k o e=>?_,fun m' hm'=>?_,fun m' hm' k=>?_,List.pairwise_cons.2 ⟨fun m' hm' k=>?_,E.st.apart⟩⟩,E.os,E.tape,E.output,E.size,fun k hk _=>E.block k hk (by simp),hdh,fun k hk hm=>?_,fun m' hm' k hk hn=>?_⟩
    · have e:(if m k=none then h2 k else none)=some o:=e;split at e
      · exact E.st.imm k o e
      · cases e
    · rcases List.mem_cons.1 hm' with rfl|hm'
      · exact fun k o e=>E.st.imm k o (hm2 k o e)
      · exact E.st.own m' hm'
    · show m' k=none\/(if m k=none then h2 k else none)=none;rcases List.mem_cons.1 hm' with rfl|hm'
      · by_cases h1:m' k=none
        · exact .inl h1
        · right;rw[if_neg h1]
      · rcases E.st.off m' hm' k with h1|h1
        · exact .inl h1
        · right;rw[h1];split<;>rfl
    · rcases E.st.off m' hm' k with h1|h1
      · exact .inr h1
      · left
        cases e:m k with
        | none=>rfl
        | some o=>rw[hm2 k o e]at h1;cases h1
    · have hmk:m k=none:=hm m (List.Mem.head _);show(if m k=none then h2 k else none)=h k;rw[if_pos hmk,E.hnew k hk (by simp)];unfold Hp.join;cases h k with
      | none=>exact hmk
      | some o=>rfl
    · rcases List.mem_cons.1 hm' with rfl|hm'
      · exact⟨m',List.Mem.head _,hn⟩
      · obtain⟨m0,h0,_⟩:=E.mnew m' hm' k hk hn;cases h0
  · have e:(if m k=none then h2 k else none)=some o:=e;split at e
    · exact e
    · cases e
  · show(if m k=none then h2 k else none)=some o;rcases d3 k with h1|h1
    · rw[if_pos h1];exact l3 k o e
    · rw[h1]at e;cases e
open Go.RowKit
variable {ops:Array Oper} {j i:Nat} {o:Oper}
def Jn(ops:Array Oper)(i:Nat):List Nat:=match ops[i]? with
  | none=>[]
  | some o=>o.after.toList.filterMap fun e=>if Region.binds .any e then some e.on else none
def NQ(ops:Array Oper):Nat->List Nat->List Nat
  | 0,m=>m
  | k+1,m=>NQ ops k (if m.contains k then Jn ops k++m else m)
def Wx(ops:Array Oper)(np:Nat):Bool:=
  Nat.ble np ops.size&&Region.noSelect ops &&
  (range ops.size).all fun i=>match ops[i]? with
    | none=>false
    | some o=>backs o i &&
      if i<np then
        ((range np).all fun j=>j==i||(match o.dst with|some d=>Ba ops j != some d|none=>true)) &&
        ((o.looksAt ops).all fun t=>(range np).all fun j=>Ba ops j != some t||(j<i&&FS o j))
      else(range i).all fun j=>(NQ ops i (Jn ops i)).contains j
theorem LR(h:j∈Jn ops i):∃o,ops[i]?=some o/\FS o j=true:=by
  unfold Jn at h;split at h
  · cases h
  · rename_i o ho;obtain⟨e,he,h1⟩:=List.mem_filterMap.1 h;split at h1
    · rename_i hb;cases h1;refine⟨o,ho,?_⟩;unfold FS;rw[Array.any_eq_true'];exact⟨e,Array.mem_toList_iff.1 he,by simp[hb]⟩
    · cases h1
theorem GB(ho:ops[i]?=some o)(h:FS o j=true)(n:Nat):C7 ops (n+1) i j=true:=by unfold C7;rw[ho];simp[h]
theorem Ht{k n:Nat}(ho:ops[i]?=some o)(h:FS o k=true)(hk:C7 ops n k j=true):C7 ops (n+1) i j=true:=by unfold FS at h;rw[Array.any_eq_true']at h;obtain⟨e,he,hb⟩:=h;simp only[Bool.and_eq_true,beq_iff_eq]at hb;unfold C7;rw[ho];simp only[Bool.or_eq_true];refine .inr ?_;rw[Array.any_eq_true'];exact⟨e,he,by rw[hb.1,hb.2,hk];rfl⟩
theorem GX{n:Nat}(h:C7 ops (n+1) i j=true):∃o,ops[i]?=some o/\(FS o j=true\/∃k,FS o k=true/\C7 ops n k j=true):=by
  unfold C7 at h;split at h
  · cases h
  · rename_i o ho;refine⟨o,ho,?_⟩;simp only[Bool.or_eq_true]at h;rcases h with h|h
    · exact .inl h
    · rw[Array.any_eq_true']at h;obtain⟨e,he,hb⟩:=h;simp only[Bool.and_eq_true]at hb;refine .inr ⟨e.on,?_,hb.2⟩;unfold FS;rw[Array.any_eq_true'];exact⟨e,he,by simp[hb.1]⟩
theorem KC{k:Nat}(ho:ops[k]?=some o)(h:FS o j=true):∀(n i:Nat),C7 ops n i k=true->C7 ops (n+1) i j=true
  | 0,i,hr=>by unfold C7 at hr;cases hr
  | n+1,i,hr=>by
    obtain⟨o',ho',hc⟩:=GX hr;rcases hc with hc|⟨k',h1,h2⟩
    · exact Ht ho' hc (GB ho h n)
    · exact Ht ho' h1 (KC ho h n k' h2)
theorem H3:∀(n m i:Nat),n<=m->C7 ops n i j=true->C7 ops m i j=true
  | 0,_,i,_,hr=>by unfold C7 at hr;cases hr
  | n+1,0,i,h,_=>by omega
  | n+1,m+1,i,h,hr=>by
    obtain⟨o',ho',hc⟩:=GX hr;rcases hc with hc|⟨k',h1,h2⟩
    · exact GB ho' hc m
    · exact Ht ho' h1 (H3 n m k' (by omega) h2)
theorem Lp(hb:∀i o,ops[i]?=some o->backs o i=true):∀(n i:Nat),C7 ops n i j=true->C7 ops (i+1) i j=true
  | 0,i,hr=>by unfold C7 at hr;cases hr
  | n+1,i,hr=>by
    obtain⟨o',ho',hc⟩:=GX hr;rcases hc with hc|⟨k',h1,h2⟩
    · exact GB ho' hc i
    · have h3:=hb i o' ho'
      have h4:k'<i:=by unfold FS at h1;rw[Array.any_eq_true']at h1;obtain⟨e,he,hbb⟩:=h1;simp only[Bool.and_eq_true,beq_iff_eq]at hbb;unfold backs at h3;rw[Array.all_eq_true']at h3;have:=h3 e he;rw[hbb.1]at this;simp at this;omega
      exact Ht ho' h1 (H3 (k'+1) i k' (by omega) (Lp hb n k' h2))
theorem Lm{R:Nat->Prop}(hR:∀k x,R k->x∈Jn ops k->R x):∀(n:Nat) (m:List Nat),(∀x∈m,R x)->∀x∈NQ ops n m,R x
  | 0,m,hm=>hm
  | k+1,m,hm=>by
    unfold NQ;refine Lm hR k _ ?_;split
    · rename_i h;have hk:=hm k (by simpa using h);intro x hx;rcases List.mem_append.1 hx with hx|hx
      · exact hR k x hk hx
      · exact hm x hx
    · exact hm
theorem Uv{np:Nat}(h:Wx ops np=true):KG [] ops np=true:=by
  unfold Wx at h;unfold KG;simp only[Bool.and_eq_true,List.all_eq_true,List.mem_range]at h ⊢;obtain⟨⟨h1,h2⟩,h3⟩:=h;refine⟨⟨⟨h1,fun x hx=>nomatch hx⟩,h2⟩,fun i hi=>?_⟩
  have hb:∀i o,ops[i]?=some o->backs o i=true:=fun i o ho=>by have hi:i<ops.size:=(Array.getElem?_eq_some_iff.1 ho).1;have:=h3 i hi;rw[ho]at this;simp only[Bool.and_eq_true]at this;exact this.1
  have h4:=h3 i hi;split
  · rename_i e;rw[e]at h4;cases h4
  · rename_i o ho;rw[ho]at h4;simp only[Bool.and_eq_true]at h4;obtain⟨h5,h6⟩:=h4;rw[Bool.and_eq_true];refine⟨h5,?_⟩;split
    · rename_i hlt;rw[if_pos hlt]at h6;exact h6
    · rename_i hlt;rw[if_neg hlt]at h6;rw[if_neg (by simp)];rw[List.all_eq_true]at h6 ⊢;intro j hj;have h7:=h6 j hj;rw[Bool.or_eq_true];refine .inr ?_
      have h8:=Lm (ops:=ops) (R:=fun x=>∃n,C7 ops n i x=true) (fun k x hk hx=>by
        obtain⟨n,hn⟩:=hk;obtain⟨o',ho',he⟩:=LR hx
        exact⟨n+1,KC ho' he n i hn⟩) i (Jn ops i) (fun x hx=>by
        obtain⟨o',ho',he⟩:=LR hx
        exact⟨1,GB ho' he 0⟩) j (by simpa using h7)
      obtain⟨n,hn⟩:=h8;exact H3 (i+1) ops.size i (by omega) (Lp hb n i hn)
end Go.Eng
namespace Go.Eng
open Go.RowKit
section
variable {P:Program} {w0:World} {h0 h:Hp} {ms0 ms:List Hp} {n:Nat} {fn:Func} {post:Value->Hp->List Hp->Prop} {s:AB}
theorem Pe{t1 t2 a b g1 g2 sz bytes:Nat}{ty el1 el2:TypeId}{d:TypeDesc}{z va vb:Value}{vs1 vs2:List Value}(i j:Nat)(hr:fn.results=#[.tmp a,.cell t1 ty,.cell t2 ty,.tmp b])(hva:lk s a=some va)(hv1:lk s t1=some (.pointer (some ⟨g1,0,none⟩)))(hv2:lk s t2=some (.pointer (some ⟨g2,0,none⟩)))(hvb:lk s b=some vb)(ht:P.underlying ty=some d)(hd:H0 d=true)(hs:Elem P ty sz z bytes)(hl1:vs1.length=sz)(hl2:vs2.length=sz)(hc1:ms[i]?=some (Bn g1 el1 vs1))(hc2:(ms.eraseIdx i)[j]?=some (Bn g2 el2 vs2))(hp:post (.tuple #[va,.agg vs1.toArray,.agg vs2.toArray,vb]) h ((ms.eraseIdx i).eraseIdx j)) :
    NX ⟨P,w0,h0,ms0,n,[]⟩ (bodyPost P fn (RP w0 h0 ms0 post)) .ret s h ms:=fun x w hx hw=>by
  have e1:x.tmps[t1]?.getD undef=.pointer (some ⟨g1,0,none⟩):=by rw[hx.slots t1 _ hv1];rfl
  have e2:x.tmps[t2]?.getD undef=.pointer (some ⟨g2,0,none⟩):=by rw[hx.slots t2 _ hv2];rfl
  have e3:x.tmps[a]?.getD undef=va:=by rw[hx.slots a _ hva];rfl
  have e4:x.tmps[b]?.getD undef=vb:=by rw[hx.slots b _ hvb];rfl
  have hag:(isAgg ty).run P w=.ok true w:=by rw[DU ht,hd]
  obtain⟨k,hk⟩:=List.getElem?_of_mem (List.mem_of_mem_eraseIdx (List.mem_of_getElem? hc2));have hc1':∀j v,vs1[j]?=some v->w.cell? ((⟨g1,0,none⟩:Addr).add j)=some v:=fun j v e=>hw.st.cell (Seg.blk i hc1 j v e);have hc2':∀j v,vs2[j]?=some v->w.cell? ((⟨g2,0,none⟩:Addr).add j)=some v:=fun j v e=>hw.st.cell (Seg.blk k hk j v e);refine bodyPost_ret (v:=.tuple #[va,.agg vs1.toArray,.agg vs2.toArray,vb]) ?_ hx.defers ⟨_,h,_,rfl,Ends.erase (Ends.erase hw hc1) hc2,hp⟩;have r1:=run_loadCells_list (P:=P) w _ vs1 hc1';have r2:=run_loadCells_list (P:=P) w _ vs2 hc2';rw[hl1]at r1;rw[hl2]at r2;simp[results,hr,e1,e2,e3,e4,asAddr,loadVar,hag,hs.sizeOf,r1,r2]
end
end Go.Eng
namespace Go.Eng
open Go.RowKit
variable {h:Hp}
theorem Ends.none{w0 w:World}{h0:Hp}{ms0:List Hp}:∀{ms:List Hp},Ends w0 h0 ms0 w h ms->Ends w0 h0 ms0 w h []
  | [],H=>H
  | _::_,H=>Ends.none H.drop
theorem FnT.drops{P:Program}{f:FuncId}{args:Array Value}{ms:List Hp}{post:Value->Hp->List Hp->Prop}(k:FnT P f args h ms post):FnT P f args h ms (fun r h' ms'=>ms'=[]/\∃q,post r h' q):=
  fun w hw=>(k w hw).mono fun _ _ ⟨r,h',ms',e1,e2,e3⟩=>⟨r,h',[],e1,e2.none,rfl,ms',e3⟩
theorem FnT.le{P:Program}{f:FuncId}{args:Array Value}{ms:List Hp}{post:Value->Hp->List Hp->Prop}(k:FnT P f args h ms post):FnT P f args h ms (fun r h' ms'=>h.le h'/\post r h' ms'):=
  fun w hw=>(k w hw).mono fun _ _ ⟨r,h',ms',e1,e2,e3⟩=>⟨r,h',ms',e1,e2,e2.le,e3⟩
end Go.Eng
namespace Go.Eng
open Go.RowKit
theorem Qs{s' s:AB}(h:Eng.Sub s' s:=by repeat (first|exact trivial|refine⟨rfl,?_⟩)):Eng.Sub s' s:=h
theorem Qt{f:Nat->Option (Nat×Nat)}{n:Nat}{vs:List (Nat×Value)}{ps:List (Nat×List Value)}(h:Gc f n vs ps:=by repeat (first|exact trivial|refine⟨⟨by rfl,rfl,rfl⟩,?_⟩)):Gc f n vs ps:=h
def dg(n:Nat)(o:Oper):Option Nat:=match o.dst,o.guard with
  | some d,none=>match Nat.blt d n with
    | true=>some d
    | false=>none
  | _,_=>none
theorem J0{n d:Nat}{o:Oper}(h:dg n o=some d):o.dst=some d/\Nat.blt d n=true/\o.guard=none:=by
  unfold dg at h;split at h
  · rename_i d' h1 h2;split at h
    · rename_i h3;cases h;exact⟨h1,h3,h2⟩
    · cases h
  · cases h
def mv(s:AB)(o:Oper):Option Value:=match o.op with
  | .move x=>ev s x
  | .assign x=>ev s x
  | .nilCheck x=>match ev s x with
    | some (.pointer (some p))=>some (.pointer (some p))
    | _=>none
  | .extract x i=>match ev s x with
    | some (.tuple vs)=>vs[i]?
    | _=>none
  | .pick c x y=>match ev s c with
    | some (.bool true)=>ev s x
    | some (.bool false)=>ev s y
    | _=>none
  | .unOp .not _ x=>match ev s x with
    | some (.bool a)=>some (.bool (!a))
    | _=>none
  | .binOp b _ x y _=>match b,ev s x,ev s y with
    | .lss,some (.int k a),some (.int k' b)=>if k=k' then some (.bool (decide (a<b))) else none
    | .leq,some (.int k a),some (.int k' b)=>if k=k' then some (.bool (decide (a<=b))) else none
    | .gtr,some (.int k a),some (.int k' b)=>if k=k' then some (.bool (decide (b<a))) else none
    | .geq,some (.int k a),some (.int k' b)=>if k=k' then some (.bool (decide (b<=a))) else none
    | .eql,some (.int k a),some (.int k' b)=>if k=k' then some (.bool (decide (a=b))) else none
    | .neq,some (.int k a),some (.int k' b)=>if k=k' then some (.bool (decide (a≠b))) else none
    | _,_,_=>none
  | _=>none
theorem V3{P:Program}{s:AB}{h:Hp}{ms:List Hp}{o:Oper}{v:Value}(hv:mv s o=some v):OX P o s h ms v:=by
  unfold mv at hv;split at hv
  · rename_i h1;exact Au h1 hv
  · rename_i h1;exact F3 h1 hv
  · rename_i h1;split at hv
    · rename_i h2;cases hv;exact Pu h1 h2
    · cases hv
  · rename_i h1;split at hv
    · rename_i h2;exact A7 h1 h2 hv
    · cases hv
  · rename_i h1;split at hv
    · rename_i h2;exact CG h1 h2 hv
    · rename_i h2;exact BX h1 h2 hv
    · cases hv
  · rename_i h1;split at hv
    · rename_i h2;cases hv;exact G6 h1 h2
    · cases hv
  · rename_i h1;split at hv<;>first|(split at hv<;>first|(rename_i h2 h3 h4;subst h4;cases hv;first|exact Dg h1 h2 h3|exact MZ h1 h2 h3|exact Cw h1 h2 h3|exact Lc h1 h2 h3|exact CU h1 h2 h3|exact CY h1 h2 h3)|cases hv)|cases hv
  · cases hv
def gd(ops:Array Oper)(n:Nat)(s:AB)(o:Oper)(w:Bool):Option Nat:=match o.dst,o.guard with
  | some d,some (j,b)=>match Nat.blt d n,ops[j]? with
    | true,some oj=>match oj.dst with
      | some dj=>match lk s dj with
        | some (.bool b')=>match (b'==b)==w with
          | true=>some d
          | false=>none
        | _=>none
      | none=>none
    | _,_=>none
  | _,_=>none
theorem RJ{ops:Array Oper}{n d:Nat}{s:AB}{o:Oper}{w:Bool}(h:gd ops n s o w=some d):∃j b oj dj b',o.dst=some d/\Nat.blt d n=true/\o.guard=some (j,b)/\ops[j]?=some oj/\oj.dst=some dj/\lk s dj=some (.bool b')/\(b'==b)=w:=by
  unfold gd at h;split at h
  · rename_i d' j b h1 h2;split at h
    · rename_i oj h3 h4;split at h
      · rename_i dj h5;split at h
        · rename_i b' h6;split at h
          · rename_i h7;cases h;exact⟨j,b,oj,dj,b',h1,h3,h2,h4,h5,h6,by simpa using h7⟩
          · cases h
        · cases h
      · cases h
    · cases h
  · cases h
section
variable {e:Entry} {Q:Exit->Act->World->Prop} {s:AB} {h h0:Hp} {ms:List Hp} {ops:Array Oper} {listed:Array Bool} {fuel:Nat} {o:Oper} {rest:List Oper} {v:Value} {d:Nat}
theorem Qx(hx:OX e.P o s h ms v)(hd:dg e.n o=some d)(k:WL e ops Q rest ((d,v)::s) h ms):WL e ops Q (o::rest) s h ms:=
  let ⟨h1,h2,h3⟩:=J0 hd
  AaI hx h1 h2 h3 k
def mvd(n:Nat)(s:AB)(o:Oper):Option (Nat×Value):=match dg n o,mv s o with
  | some d,some v=>some (d,v)
  | _,_=>none
theorem Qm(hm:mvd e.n s o=some (d,v))(k:WL e ops Q rest ((d,v)::s) h ms):WL e ops Q (o::rest) s h ms:=by
  obtain⟨hd,hv⟩:dg e.n o=some d/\mv s o=some v:=by
    unfold mvd at hm;split at hm
    · rename_i h1 h2;cases hm;exact⟨h1,h2⟩
    · cases hm
  exact Qx (V3 hv) hd k
theorem Qk(hd:gd ops e.n s o false=some d)(k:WL e ops Q rest ((d,undef)::s) h ms):WL e ops Q (o::rest) s h ms:=
  let ⟨_,_,_,_,_,h1,h2,h3,h4,h5,h6,h7⟩:=RJ hd
  Y0 h1 h2 h3 h4 h5 h6 h7 k
theorem Qg(hx:OX e.P o s h ms v)(hd:gd ops e.n s o true=some d)(k:WL e ops Q rest ((d,v)::s) h ms):WL e ops Q (o::rest) s h ms:=
  let ⟨_,_,_,_,_,h1,h2,h3,h4,h5,h6,h7⟩:=RJ hd
  Zc hx h1 h2 h3 h4 h5 (by rw[h6];congr 2;simpa using h7) k
theorem Qw(k:WB e ops Q h fuel listed s h ms):WL e ops (QB e ops Q h fuel listed) [] s h ms:=Ak (Y7 (Hp.le_refl _) k)
theorem Qa(k:WB e ops Q h0 fuel listed s h ms)(hl:h0.le h:=by assumption):WL e ops (QB e ops Q h0 fuel listed) [] s h ms:=Ak (Y7 hl k)
theorem Qo(i:Nat)(ho:ops[i]?=some o)(k:WL e ops (QB e ops Q h0 fuel (listed.setIfInBounds i true)) [o] s h ms)(hr:Region.ready .any ops listed=[i]:=by kernel_rfl):WB e ops Q h0 (fuel+1) listed s h ms:=A4 [i] hr rfl (AA ho k A5)
theorem Qe(k:NX e Q .normal s h ms)(hr:Region.ready .any ops listed=[]:=by kernel_rfl):WB e ops Q h0 fuel listed s h ms:=Aac hr k
theorem Am{y:Code}(k:WS e y Q s h ms):WL e ops (Exit.then (fun a w=>y.wp e.P Q a w) Q) [] s h ms:=Ak (Ab k)
theorem As{id:Nat}{l:List Oper}{y:Code}(k:WL e l.toArray (Exit.then (fun a w=>y.wp e.P Q a w) Q) l s h ms):WS e (.seq (.region id l.toArray false) y) Q s h ms:=Ac (Ad k)
theorem BK{id:Nat}{l:List Oper}{y:Code}(k:WL e l.toArray (Exit.then (fun a w=>y.wp e.P Q a w) Q) l s h ms):WL e ops (Exit.then (fun a w=>(Code.seq (.region id l.toArray false) y).wp e.P Q a w) Q) [] s h ms:=Ak (Ab (Ac (Ad k)))
theorem Gm{id:Nat}{l:List Oper}(k:WL e l.toArray Q l s h ms):WL e ops (Exit.then (fun a w=>(Code.region id l.toArray false).wp e.P Q a w) Q) [] s h ms:=Ak (Ab (Ad k))
theorem Cz{t:TypeId}{sz:Nat}{z:Value}{bytes:Nat}(zl:List Value)(ho:o.op=.alloc t)(hs:Elem e.P t sz z bytes)(hz:z.cells=zl.toArray)(hd:dg e.n o=some d)(k:∀g,WL e ops Q rest ((d,.pointer (some ⟨g,0,none⟩))::s) h (Bn g t zl::ms)):WL e ops Q (o::rest) s h ms:=
  let ⟨h1,h2,h3⟩:=J0 hd
  Wd zl ho hs hz h1 h2 h3 k
end
def pzo(l:List Oper)(n:Nat)(zs:AB)(i:Nat):Option (Oper×Nat):=match l[i]? with
  | some o=>match dg n o with
    | some d=>match lk zs d with
      | none=>some (o,d)
      | some _=>none
    | none=>none
  | none=>none
theorem Qp{P:Program}{l:List Oper}{n:Nat}{s z:AB}{h0:Hp}{K:AB->Prop}{r:List Nat}{i d:Nat}{o:Oper}{v:Value}(ho:pzo l n (z++s) i=some (o,d))(hx:OX P o (z++s) h0 [] v)(k:Ft P l n s h0 K r ((d,v)::z)):Ft P l n s h0 K (i::r) z:=by
  unfold pzo at ho;split at ho
  · rename_i o' h1;split at ho
    · rename_i d' h2;split at ho
      · rename_i h3;cases ho;obtain⟨h4,h5,_⟩:=J0 h2;exact Aa6 h1 h4 h5 h3 hx k
      · cases ho
    · cases ho
  · cases ho
def pzm(l:List Oper)(n:Nat)(zs:AB)(i:Nat):Option (Nat×Value):=match pzo l n zs i with
  | some (o,d)=>match mv zs o with
    | some v=>some (d,v)
    | none=>none
  | none=>none
def ldv(s:AB)(o:Oper):Option (TypeId×Addr):=match o.op with
  | .load t x=>match ev s x with
    | some (.pointer (some p))=>some (t,p)
    | _=>none
  | _=>none
theorem Pc{s:AB}{o:Oper}{t:TypeId}{p:Addr}(h:ldv s o=some (t,p)):∃x,o.op=.load t x/\ev s x=some (.pointer (some p)):=by
  unfold ldv at h;split at h
  · rename_i t' x h1;split at h
    · rename_i h2;cases h;exact⟨x,h1,h2⟩
    · cases h
  · cases h
def fav(s:AB)(o:Oper):Option (TypeId×Nat×Addr):=match o.op with
  | .fieldAddr t x i=>match ev s x with
    | some (.pointer (some p))=>some (t,i,p)
    | _=>none
  | _=>none
theorem Vo{s:AB}{o:Oper}{t:TypeId}{i:Nat}{p:Addr}(h:fav s o=some (t,i,p)):∃x,o.op=.fieldAddr t x i/\ev s x=some (.pointer (some p)):=by
  unfold fav at h;split at h
  · rename_i t' x i' h1;split at h
    · rename_i h2;cases h;exact⟨x,h1,h2⟩
    · cases h
  · cases h
def wd(o:Oper):Option Nat:=match o.dst,o.guard with
  | some d,none=>some d
  | _,_=>none
theorem MT{o:Oper}{d:Nat}(h:wd o=some d):o.dst=some d/\o.guard=none:=by
  unfold wd at h;split at h
  · rename_i h1 h2;cases h;exact⟨h1,h2⟩
  · cases h
section
variable {P:Program} {l:List Oper} {n:Nat} {s z:AB} {h h0:Hp} {ms:List Hp} {K:AB->Prop} {r:List Nat} {i d:Nat} {o:Oper} {v:Value} {t:TypeId} {p:Addr} {D:TypeDesc}
theorem Qq(hm:pzm l n (z++s) i=some (d,v))(k:Ft P l n s h0 K r ((d,v)::z)):Ft P l n s h0 K (i::r) z:=by
  unfold pzm at hm;split at hm
  · rename_i h1;split at hm
    · rename_i h2;cases hm;exact Qp h1 (V3 h2) k
    · cases hm
  · cases hm
def ad2{α:Type}(a:Option (Oper×Nat))(f:Oper->Option α):Option (α×Nat):=match a with
  | some (o,d)=>match f o with
    | some x=>some (x,d)
    | none=>none
  | none=>none
theorem OE{α:Type}{a:Option (Oper×Nat)}{f:Oper->Option α}{x:α}{d:Nat}(h:ad2 a f=some (x,d)):∃o,a=some (o,d)/\f o=some x:=by
  unfold ad2 at h;split at h
  · rename_i o' d';split at h
    · rename_i h2;cases h;exact⟨_,rfl,h2⟩
    · cases h
  · cases h
theorem oL(hm:ldv s o=some (t,p))(ht:P.underlying t=some D)(hc:Cell h ms p v)(ha:H0 D=false:=by rfl):OX P o s h ms v:=
  let ⟨_,h1,h2⟩:=Pc hm
  YT h1 ht ha h2 hc
theorem oG{z:Value}{sz bytes:Nat}{vs:List Value}(hm:ldv s o=some (t,p))(ht:P.underlying t=some D)(hs:Elem P t sz z bytes)(hc:Seg h ms p vs)(ha:H0 D=true:=by rfl)(hl:vs.length=sz:=by rfl):OX P o s h ms (.agg vs.toArray):=
  let ⟨_,h1,h2⟩:=Pc hm
  Wp h1 ht ha hs hl h2 hc
theorem oF{j off:Nat}(F:Ez P t j off)(hm:fav s o=some (t,j,p)):OX P o s h ms (.pointer (some (p.add off))):=
  let ⟨_,h1,h2⟩:=Vo hm
  Ti F h1 h2
theorem QL(hm:ad2 (pzo l n (z++s) i) (ldv (z++s))=some ((t,p),d))(ht:P.underlying t=some D)(hc:Cell h0 [] p v)(k:Ft P l n s h0 K r ((d,v)::z))(ha:H0 D=false:=by rfl):Ft P l n s h0 K (i::r) z:=
  let ⟨_,h1,h2⟩:=OE hm
  Qp h1 (oL h2 ht hc ha) k
theorem QF{j off:Nat}(F:Ez P t j off)(hm:ad2 (pzo l n (z++s) i) (fav (z++s))=some ((t,j,p),d))(k:Ft P l n s h0 K r ((d,.pointer (some (p.add off)))::z)):Ft P l n s h0 K (i::r) z:=
  let ⟨_,h1,h2⟩:=OE hm
  Qp h1 (oF F h2) k
end
def bn(s:AB)(o:Oper):Option (BinOp×Int×Int):=match o.op with
  | .binOp b _ x y _=>match ev s x,ev s y with
    | some (.int .i64 a),some (.int .i64 c)=>some (b,a,c)
    | _,_=>none
  | _=>none
theorem ML{s:AB}{o:Oper}{b:BinOp}{a c:Int}(h:bn s o=some (b,a,c)):∃t x y u,o.op=.binOp b t x y u/\ev s x=some (.int .i64 a)/\ev s y=some (.int .i64 c):=by
  unfold bn at h;split at h
  · rename_i b' t x y u h1;split at h
    · rename_i h2 h3;cases h;exact⟨t,x,y,u,h1,h2,h3⟩
    · cases h
  · cases h
section
variable {P:Program} {s:AB} {h:Hp} {ms:List Hp} {o:Oper} {a b:Int}
theorem oA(hm:bn s o=some (.add,a,b))(hr:-9223372036854775808<=a+b/\a+b<=9223372036854775807:=by omega):OX P o s h ms (.int .i64 (a+b)):=
  let ⟨_,_,_,_,h1,h2,h3⟩:=ML hm
  Aat h1 h2 h3 hr
theorem oS(hm:bn s o=some (.sub,a,b))(hr:-9223372036854775808<=a-b/\a-b<=9223372036854775807:=by omega):OX P o s h ms (.int .i64 (a-b)):=
  let ⟨_,_,_,_,h1,h2,h3⟩:=ML hm
  Z0 h1 h2 h3 hr
theorem oM(hm:bn s o=some (.mul,a,b))(hr:-9223372036854775808<=a*b/\a*b<=9223372036854775807:=by omega):OX P o s h ms (.int .i64 (a*b)):=
  let ⟨_,_,_,_,h1,h2,h3⟩:=ML hm
  Zv h1 h2 h3 hr
end
def stv(s:AB)(o:Oper):Option (TypeId×Addr×Value):=match o.op,o.dst,o.guard with
  | .store t x y,none,none=>match ev s x,ev s y with
    | some (.pointer (some p)),some v=>some (t,p,v)
    | _,_=>none
  | _,_,_=>none
theorem U0{s:AB}{o:Oper}{t:TypeId}{p:Addr}{v:Value}(h:stv s o=some (t,p,v)):∃x y,o.op=.store t x y/\ev s x=some (.pointer (some p))/\ev s y=some v/\o.dst=none/\o.guard=none:=by
  unfold stv at h;split at h
  · rename_i t' x y h1 h2 h3;split at h
    · rename_i h4 h5;cases h;exact⟨x,y,h1,h4,h5,h2,h3⟩
    · cases h
  · cases h
def cav(s:AB)(o:Oper):Option (FuncId×List Value):=match o.op with
  | .call c=>match c.callee,PG s c.args.toList with
    | .value (.func f),some vs=>some (f,vs)
    | _,_=>none
  | _=>none
theorem WV{s:AB}{o:Oper}{f:FuncId}{vs:List Value}(h:cav s o=some (f,vs)):∃l ts,o.op=.call { callee:=.value (.func f),args:=List.toArray l,argTypes:=ts }/\PG s l=some vs:=by
  unfold cav at h;split at h
  · rename_i c h1;split at h
    · rename_i f' vs' h2 h3;cases h;obtain⟨ce,az,ts⟩:=c;simp only at h2 h3;subst h2;exact⟨az.toList,ts,by rw[h1,Array.toArray_toList],h3⟩
    · cases h
  · cases h
section
variable {e:Entry} {Q:Exit->Act->World->Prop} {s:AB} {h:Hp} {ms:List Hp} {ops:Array Oper} {o:Oper} {rest l:List Oper} {v:Value} {d:Nat} {t:TypeId} {p:Addr} {D:TypeDesc}
theorem Ql(hm:(ldv s o,dg e.n o)=(some (t,p),some d))(ht:e.P.underlying t=some D)(hc:Cell h ms p v)(k:WL e ops Q rest ((d,v)::s) h ms)(ha:H0 D=false:=by rfl):WL e ops Q (o::rest) s h ms:=
  let ⟨h1,h2⟩:=Prod.mk.inj hm
  Qx (oL h1 ht hc ha) h2 k
theorem Qf{j off:Nat}(F:Ez e.P t j off)(hm:(fav s o,dg e.n o)=(some (t,j,p),some d))(k:WL e ops Q rest ((d,.pointer (some (p.add off)))::s) h ms):WL e ops Q (o::rest) s h ms:=
  let ⟨h1,h2⟩:=Prod.mk.inj hm
  Qx (oF F h1) h2 k
theorem Sa{el:TypeId}{z:Value}{sz bytes g:Nat}{l:List Value}(i:Nat)(vl:List Value)(hs:Elem e.P t sz z bytes)(hm:(stv s o,v.cells,ms[i]?,vl.length,l.length)=(some (t,⟨g,0,none⟩,v),vl.toArray,some (Bn g el l),sz,sz))(h1:∀u∈vl,u.oneCell'=true)(K:WL e ops Q rest s h (ms.set i (Bn g el vl))):WL e ops Q (o::rest) s h ms:=by simp only[Prod.mk.injEq]at hm;obtain⟨q1,q2,q3,q4,q5⟩:=hm;obtain⟨x,y,r1,r2,r3,r4,r5⟩:=U0 q1;exact Oi i vl r1 hs r2 r3 q2 h1 q3 q4 q5 r4 r5 K
theorem Qc{f:FuncId}{vs:List Value}{post:Value->Hp->List Hp->Prop}(hc:∀az w,(callFunc f az).run e.P w=.ok (.enter f az) w)(hm:(cav s o,dg e.n o)=(some (f,vs),some d))(k:FnT e.P f vs.toArray h [] post)(K:∀v h' pre',h.le h'->post v h' pre'->WL e ops Q rest ((d,v)::s) h' (pre'++ms)):WL e ops Q (o::rest) s h ms:=by obtain⟨h1,h2⟩:=Prod.mk.inj hm;obtain⟨l,ts,h3,h4⟩:=WV h1;obtain⟨h5,h6,h7⟩:=J0 h2;exact Xu h3 hc h4 k h5 h6 h7 K
variable {tl:List Oper} {q:List (Nat×VP)} {al:List (Nat×Nb)}
theorem Wm(hm:(wd o,mv s o)=(some d,some v))(k:WR e ops Q tl h ms l ((d,v)::s) q al):WR e ops Q tl h ms (o::l) s q al:=
  let ⟨h1,h2⟩:=Prod.mk.inj hm
  let ⟨h3,h4⟩:=MT h1
  AR (V3 h2) h3 h4 k
theorem Wf{j off:Nat}(F:Ez e.P t j off)(hm:(wd o,fav s o)=(some d,some (t,j,p)))(k:WR e ops Q tl h ms l ((d,.pointer (some (p.add off)))::s) q al):WR e ops Q tl h ms (o::l) s q al:=
  let ⟨h1,h2⟩:=Prod.mk.inj hm
  let ⟨h3,h4⟩:=MT h1
  AR (oF F h2) h3 h4 k
theorem Wl(hm:(wd o,ldv s o)=(some d,some (t,p)))(ht:e.P.underlying t=some D)(hc:Cell h ms p v)(k:WR e ops Q tl h ms l ((d,v)::s) q al)(ha:H0 D=false:=by rfl):WR e ops Q tl h ms (o::l) s q al:=
  let ⟨h1,h2⟩:=Prod.mk.inj hm
  let ⟨h3,h4⟩:=MT h1
  AR (oL h2 ht hc ha) h3 h4 k
end
theorem OwnL.o1{α:Type _}{F:α->List Value}{sz:Nat}{el:TypeId}{m:Hp}{v:Value}{l:List α}(O:OwnL F sz el m v l):v.oneCell'=true:=(O.rd (h:=Hp.emp) (ms:=[m]) (List.Mem.head _)).rd.one
theorem BF{P:Program}{s:AB}{h:Hp}{ms:List Hp}{o:Oper}{v:Value}{sz n:Nat}{cs:List Value}{t el:TypeId}{x y:Operand}{z:Value}{bytes:Nat}{k:IntKind}{i:Int}(j:Nat)(R:Rd h ms v sz n cs)(ho:o.op=.indexAddr t x y)(ht:P.underlying t=some (.slice el))(hs:Elem P el sz z bytes)(hx:ev s x=some v)(hy:ev s y=some (.int k i))(hi:i=(j:Int):=by omega)(hlt:j<n:=by omega):OX P o s h ms (.pointer (some ((AF v).add (j*sz)))):=AE j R ho ht hs hx hy hi hlt
theorem AJ{a b c:Hp}(x:a.le b)(y:b.le c):a.le c:=Hp.le_trans x y
theorem C9{a:Hp}:a.le a:=Hp.le_refl a
theorem Mh{α:Type _}{a:α}{l:List α}:a∈a::l:=List.Mem.head _
end Go.Eng
namespace Go.Proofs.Q
open Go.Proofs.Tryz
open Go.Eng
theorem CS:prog.follows .mixedOrders=true:=by kernel_rfl
theorem A6:Elem prog 3 1 (.int .i64 0) 8:=Elem.of (by kernel_rfl)
theorem W7:Elem prog 4 1 (.bool false) 1:=Elem.of (by kernel_rfl)
theorem el5:Elem prog 5 1 (.int .u8 0) 1:=Elem.of (by kernel_rfl)
theorem Cr:Elem prog 22 1 (.slice none 0 0) 24:=Elem.of (by kernel_rfl)
theorem ZU:Elem prog 23 1 (.slice none 0 0) 24:=Elem.of (by kernel_rfl)
theorem Abo:Elem prog 25 4 (.agg #[.int .u8 0,.slice none 0 0,.slice none 0 0,.int .u8 0]) 64:=Elem.of (by kernel_rfl)
theorem JP:Elem prog 27 1 (.slice none 0 0) 24:=Elem.of (by kernel_rfl)
theorem AW:Elem prog 29 1 (.agg #[.slice none 0 0]) 24:=Elem.of (by kernel_rfl)
theorem QS:Elem prog 31 1 (.slice none 0 0) 24:=Elem.of (by kernel_rfl)
theorem Hb:Elem prog 43 6 (.agg #[.int .i64 0,.int .i64 0,.int .i64 0,.bool false,.int .i64 0,.int .i64 0]) 48:=Elem.of (by kernel_rfl)
theorem Yv:Elem prog 45 1 (.map none) 8:=Elem.of (by kernel_rfl)
theorem Cx:Elem prog 47 2 (.agg #[.int .i64 0,.int .i64 0]) 16:=Elem.of (by kernel_rfl)
theorem AaL:Elem prog 49 1 (.map none) 8:=Elem.of (by kernel_rfl)
theorem Tf:Elem prog 50 1 (.slice none 0 0) 24:=Elem.of (by kernel_rfl)
theorem AI:Elem prog 52 3 (.agg #[.int .i64 0,.int .i64 0,.slice none 0 0]) 40:=Elem.of (by kernel_rfl)
theorem AaY:Elem prog 60 3 (.agg #[.int .i64 0,.int .i64 0,.int .i64 0]) 24:=Elem.of (by kernel_rfl)
theorem BS:Elem prog 65 4 (.agg #[.int .i64 0,.int .i64 0,.int .i64 0,.slice none 0 0]) 48:=Elem.of (by kernel_rfl)
theorem AaQ:Elem prog 81 1 (.slice none 0 0) 24:=Elem.of (by kernel_rfl)
theorem Xe:Elem prog 97 1 (.pointer none) 8:=Elem.of (by kernel_rfl)
theorem D3:Elem prog 106 3 (.agg #[.int .i64 0,.int .i64 0,.slice none 0 0]) 40:=Elem.of (by kernel_rfl)
theorem Aa8:Elem prog 115 2 (.agg #[.map none,.slice none 0 0]) 32:=Elem.of (by kernel_rfl)
theorem AM:Elem prog 119 2 (.agg #[.int .i64 0,.int .i64 0]) 16:=Elem.of (by kernel_rfl)
theorem Zi:Elem prog 130 405 (.agg (([.int .i64 0,.slice none 0 0,.map none,.slice none 0 0,.slice none 0 0]:List Value)++replicate 400 (Value.int .i64 0)).toArray) 3288:=Elem.of (by kernel_rfl)
theorem Zp:Elem prog 165 1 (.nilFunc) 8:=Elem.of (by kernel_rfl)
theorem Cv:Elem prog 172 2 (.agg #[.bool false,.string ByteArray.empty]) 24:=Elem.of (by kernel_rfl)
theorem Zm:Elem prog 188 1 (.map none) 8:=Elem.of (by kernel_rfl)
theorem Cp:Elem prog 222 1 (.int .u64 0) 8:=Elem.of (by kernel_rfl)
theorem Aa3:Elem prog 255 1002 (.agg (([.int .i64 0,.int .i64 0,.int .i64 0,.slice none 0 0]:List Value)++replicate 998 (Value.int .i64 0)).toArray) 8032:=Elem.of (by kernel_rfl)
theorem Zf:Elem prog 260 3 (.agg #[.slice none 0 0,.int .i64 0,.int .i64 0]) 40:=Elem.of (by kernel_rfl)
theorem YQ:F4 prog 29 #[(0,1)]:=⟨_,underlying29,fun w=>by kernel_rfl⟩
theorem YW:F4 prog 43 #[(0,1),(1,1),(2,1),(3,1),(4,1),(5,1)]:=⟨_,underlying43,fun w=>by kernel_rfl⟩
theorem Te:F4 prog 47 #[(0,1),(1,1)]:=⟨_,underlying47,fun w=>by kernel_rfl⟩
theorem VZ:F4 prog 52 #[(0,1),(1,1),(2,1)]:=⟨_,underlying52,fun w=>by kernel_rfl⟩
theorem Sy:F4 prog 65 #[(0,1),(1,1),(2,1),(3,1)]:=⟨_,underlying65,fun w=>by kernel_rfl⟩
theorem AaT:F4 prog 106 #[(0,1),(1,1),(2,1)]:=⟨_,underlying106,fun w=>by kernel_rfl⟩
theorem Aa4:F4 prog 115 #[(0,1),(1,1)]:=⟨_,underlying115,fun w=>by kernel_rfl⟩
theorem Wv:F4 prog 119 #[(0,1),(1,1)]:=⟨_,underlying119,fun w=>by kernel_rfl⟩
theorem Zh:F4 prog 130 #[(0,1),(1,1),(2,1),(3,1),(4,1),(5,400)]:=⟨_,underlying130,fun w=>by kernel_rfl⟩
theorem Y9:F4 prog 172 #[(0,1),(1,1)]:=⟨_,underlying172,fun w=>by kernel_rfl⟩
theorem AaW:F4 prog 255 #[(0,4),(4,998)]:=⟨_,underlying255,fun w=>by kernel_rfl⟩
theorem Ze:F4 prog 260 #[(0,1),(1,1),(2,1)]:=⟨_,underlying260,fun w=>by kernel_rfl⟩
theorem VQ:Ez prog 25 0 0:=⟨_,_,_,underlying25,rfl,rfl,sizeOf5⟩
theorem Vi:Ez prog 25 1 1:=⟨_,_,_,underlying25,rfl,rfl,sizeOf22⟩
theorem UR:Ez prog 25 2 2:=⟨_,_,_,underlying25,rfl,rfl,sizeOf23⟩
theorem Uc:Ez prog 25 3 3:=⟨_,_,_,underlying25,rfl,rfl,sizeOf5⟩
theorem B8:Ez prog 29 0 0:=⟨_,_,_,underlying29,rfl,rfl,sizeOf27⟩
theorem Aaf:Ez prog 43 1 1:=⟨_,_,_,underlying43,rfl,rfl,sizeOf3⟩
theorem U6:Ez prog 43 2 2:=⟨_,_,_,underlying43,rfl,rfl,sizeOf3⟩
theorem QY:Ez prog 43 3 3:=⟨_,_,_,underlying43,rfl,rfl,sizeOf4⟩
theorem Vr:Ez prog 43 5 5:=⟨_,_,_,underlying43,rfl,rfl,sizeOf3⟩
theorem EJ:Ez prog 47 0 0:=⟨_,_,_,underlying47,rfl,rfl,sizeOf3⟩
theorem MF:Ez prog 47 1 1:=⟨_,_,_,underlying47,rfl,rfl,sizeOf3⟩
theorem Bt:Ez prog 52 0 0:=⟨_,_,_,underlying52,rfl,rfl,sizeOf3⟩
theorem BY:Ez prog 52 1 1:=⟨_,_,_,underlying52,rfl,rfl,sizeOf3⟩
theorem BB:Ez prog 52 2 2:=⟨_,_,_,underlying52,rfl,rfl,sizeOf50⟩
theorem EP:Ez prog 65 0 0:=⟨_,_,_,underlying65,rfl,rfl,sizeOf3⟩
theorem Nw:Ez prog 65 1 1:=⟨_,_,_,underlying65,rfl,rfl,sizeOf3⟩
theorem Kk:Ez prog 65 2 2:=⟨_,_,_,underlying65,rfl,rfl,sizeOf3⟩
theorem GV:Ez prog 65 3 3:=⟨_,_,_,underlying65,rfl,rfl,sizeOf22⟩
theorem Y4:Ez prog 106 0 0:=⟨_,_,_,underlying106,rfl,rfl,sizeOf3⟩
theorem YA:Ez prog 106 1 1:=⟨_,_,_,underlying106,rfl,rfl,sizeOf3⟩
theorem J9:Ez prog 106 2 2:=⟨_,_,_,underlying106,rfl,rfl,sizeOf104⟩
theorem E4:Ez prog 115 0 0:=⟨_,_,_,underlying115,rfl,rfl,sizeOf113⟩
theorem NJ:Ez prog 115 1 1:=⟨_,_,_,underlying115,rfl,rfl,sizeOf22⟩
theorem B6:Ez prog 119 0 0:=⟨_,_,_,underlying119,rfl,rfl,sizeOf3⟩
theorem Dn:Ez prog 119 1 1:=⟨_,_,_,underlying119,rfl,rfl,sizeOf3⟩
theorem Hw:Ez prog 130 0 0:=⟨_,_,_,underlying130,rfl,rfl,sizeOf3⟩
theorem E3:Ez prog 130 1 1:=⟨_,_,_,underlying130,rfl,rfl,sizeOf27⟩
theorem JY:Ez prog 130 2 2:=⟨_,_,_,underlying130,rfl,rfl,sizeOf45⟩
theorem EV:Ez prog 130 3 3:=⟨_,_,_,underlying130,rfl,rfl,sizeOf81⟩
theorem Ij:Ez prog 130 4 4:=⟨_,_,_,underlying130,rfl,rfl,sizeOf81⟩
theorem R8:Ez prog 130 5 5:=⟨_,_,_,underlying130,rfl,rfl,sizeOf128⟩
theorem J2:Ez prog 172 0 0:=⟨_,_,_,underlying172,rfl,rfl,sizeOf4⟩
theorem Hx:Ez prog 172 1 1:=⟨_,_,_,underlying172,rfl,rfl,sizeOf9⟩
theorem FC:Ez prog 255 0 0:=⟨_,_,_,underlying255,rfl,rfl,sizeOf65⟩
theorem MW:Ez prog 255 1 4:=⟨_,_,_,underlying255,rfl,rfl,sizeOf253⟩
theorem YN:Ez prog 260 0 0:=⟨_,_,_,underlying260,rfl,rfl,sizeOf22⟩
theorem RW:Ez prog 260 1 1:=⟨_,_,_,underlying260,rfl,rfl,sizeOf3⟩
theorem RH:Ez prog 260 2 2:=⟨_,_,_,underlying260,rfl,rfl,sizeOf3⟩
theorem U3:type_of% @Tryz.underlying3:=@Tryz.underlying3
theorem U4:type_of% @Tryz.underlying4:=@Tryz.underlying4
theorem U5:type_of% @Tryz.underlying5:=@Tryz.underlying5
theorem U9:type_of% @Tryz.underlying9:=@Tryz.underlying9
theorem AU:type_of% @Tryz.underlying22:=@Tryz.underlying22
theorem Ve:type_of% @Tryz.underlying23:=@Tryz.underlying23
theorem U25:type_of% @Tryz.underlying25:=@Tryz.underlying25
theorem Bh:type_of% @Tryz.underlying27:=@Tryz.underlying27
theorem CF:type_of% @Tryz.underlying29:=@Tryz.underlying29
theorem FP:type_of% @Tryz.underlying31:=@Tryz.underlying31
theorem W3:type_of% @Tryz.underlying33:=@Tryz.underlying33
theorem U43:type_of% @Tryz.underlying43:=@Tryz.underlying43
theorem Lw:type_of% @Tryz.underlying45:=@Tryz.underlying45
theorem U47:type_of% @Tryz.underlying47:=@Tryz.underlying47
theorem Yh:type_of% @Tryz.underlying49:=@Tryz.underlying49
theorem BZ:type_of% @Tryz.underlying50:=@Tryz.underlying50
theorem Ef:type_of% @Tryz.underlying52:=@Tryz.underlying52
theorem U58:type_of% @Tryz.underlying58:=@Tryz.underlying58
theorem Zo:type_of% @Tryz.underlying60:=@Tryz.underlying60
theorem ZG:type_of% @Tryz.underlying61:=@Tryz.underlying61
theorem PS:type_of% @Tryz.underlying65:=@Tryz.underlying65
theorem Ch:type_of% @Tryz.underlying81:=@Tryz.underlying81
theorem T4:type_of% @Tryz.underlying97:=@Tryz.underlying97
theorem LD:type_of% @Tryz.underlying104:=@Tryz.underlying104
theorem Ow:type_of% @Tryz.underlying106:=@Tryz.underlying106
theorem GJ:type_of% @Tryz.underlying113:=@Tryz.underlying113
theorem DX:type_of% @Tryz.underlying119:=@Tryz.underlying119
theorem AaU:type_of% @Tryz.underlying128:=@Tryz.underlying128
theorem Qh:type_of% @Tryz.underlying160:=@Tryz.underlying160
theorem Aa7:type_of% @Tryz.underlying165:=@Tryz.underlying165
theorem KD:type_of% @Tryz.underlying172:=@Tryz.underlying172
theorem AaB:type_of% @Tryz.underlying182:=@Tryz.underlying182
theorem Aa0:type_of% @Tryz.underlying184:=@Tryz.underlying184
theorem Gl:type_of% @Tryz.underlying188:=@Tryz.underlying188
theorem FE:type_of% @Tryz.underlying222:=@Tryz.underlying222
theorem HE:type_of% @Tryz.underlying223:=@Tryz.underlying223
theorem B0:type_of% @Tryz.underlying225:=@Tryz.underlying225
theorem ZS:type_of% @Tryz.underlying253:=@Tryz.underlying253
end Go.Proofs.Q

namespace Go.Proofs.Q
open Go.Eng Go.RowKit
def BH(n:Int):Prop:=-9223372036854775808<=n/\n<=9223372036854775807
instance (n:Int):Decidable (BH n):=by unfold BH;infer_instance
theorem EO{P:Program}{f:FuncId}{args:Array Value}{h:Hp}{v:Value}(k:FnT P f args h [] (fun r _ _=>r=v))(ms:List Hp):FnV P f args h ms v:=by refine fun w hw=>(?_:FnV _ _ _ h [] _) w (hw.weaken (C9) (List.nil_sublist _));exact FnT.toV k
theorem CC{a b:Nat}(h:(a:Int)<b):a<b:=by omega
open Go.Proofs.Tryz
def cD(s:Int×Int):List Value:=[.int .i64 s.1,.int .i64 s.2]
theorem Ep:∀s,(cD s).length=2:=fun _=>rfl
theorem Ga:∀a,∀c∈cD a,c.oneCell'=true:=fun a c hc=>by simp only[cD,mem_cons,not_mem_nil,or_false]at hc;rcases hc with rfl|rfl<;>rfl
structure Cl where
 id:Int
 dim:Int
 sd:List (Int×Int)
 deriving DecidableEq,Inhabited
structure Ce where
 c:Cl
 v:Value
instance:Inhabited Ce:=⟨⟨default,.slice none 0 0⟩⟩
def cC(a:Ce):List Value:=[.int .i64 a.c.id,.int .i64 a.c.dim,a.v]
theorem Ct:∀a,(cC a).length=3:=fun _=>rfl
structure RdC(h:Hp)(v:Value)(l:List Ce):Prop where
 q:RdL cC 3 h [] v l
 s:∀a∈l,RdL cD 2 h [] a.v a.c.sd
theorem RdC.up{h h':Hp}{v:Value}{l:List Ce}(R:RdC h v l)(hl:h.le h'):RdC h' v l:=⟨R.q.up hl,fun a ha=>(R.s a ha).up hl⟩
theorem Di{h:Hp}{l:List Ce}(H:∀a∈l,RdL cD 2 h [] a.v a.c.sd):∀a∈l,∀c∈cC a,c.oneCell'=true:=fun a ha c hc=>by
 simp only[cC,mem_cons,not_mem_nil,or_false]at hc;rcases hc with rfl|rfl|rfl
 ·rfl
 ·rfl
 ·exact(H a ha).rd.one
def HS(x:Int×Int)(l:List (Int×Int)):List (Int×Int):=l.takeWhile (fun y=>decide (y.1<=x.1))++x::l.dropWhile (fun y=>decide (y.1<=x.1))
def Ca(l:List (Int×Int)):List (Int×Int):=l.foldl (fun acc x=>HS x acc) []
theorem Ek{α:Type}(p:α->Bool):∀(l:List α) (k:Nat),k<=l.length->(∀j (hj:j<l.length),j<k->p l[j]=true)->(∀hk:k<l.length,p l[k]=false)->l.takeWhile p=l.take k/\l.dropWhile p=l.drop k
 | [],k,hk,_,_=>by simp
 | a::l,0,_,_,h=>by have:=h (by simp);simp only[List.getElem_cons_zero]at this;simp[List.takeWhile,List.dropWhile,this]
 | a::l,k+1,hk,h1,h2=>by
  have h3:p a=true:=h1 0 (by simp) (by omega)
  have ih:=Ek p l k (by simpa using hk) (fun j hj hjk=>by
   have:=h1 (j+1) (by simpa using hj) (by omega)
   simpa using this) (fun hk=>by
   have:=h2 (by simpa using hk)
   simpa using this)
  simp[List.takeWhile,List.dropWhile,h3,ih.1,ih.2]
theorem Ry{x:Int×Int}{l:List (Int×Int)}{k:Nat}(hk:k<=l.length)(h1:∀j (hj:j<l.length),j<k->l[j].1<=x.1)(h2:∀hk:k<l.length,¬l[k].1<=x.1):HS x l=l.take k++x::l.drop k:=by obtain⟨e1,e2⟩:=Ek (fun y=>decide (y.1<=x.1)) l k hk (fun j hj hjk=>decide_eq_true (h1 j hj hjk)) (fun hk=>decide_eq_false (h2 hk));unfold HS;rw[e1,e2]
theorem Wq(x:Int×Int)(l:List (Int×Int)):(HS x l).length=l.length+1:=by unfold HS;have:=congrArg List.length (List.takeWhile_append_dropWhile (p:=fun y:Int×Int=>decide (y.1<=x.1)) (l:=l));rw[length_append]at this;rw[length_append,length_cons];omega
theorem N5(l:List (Int×Int))(x:Int×Int):Ca (l++[x])=HS x (Ca l):=by unfold Ca;rw[List.foldl_append];rfl
theorem Gn(l:List (Int×Int)):(Ca l).length=l.length:=by
 have go:∀(l acc:List (Int×Int)),(l.foldl (fun acc x=>HS x acc) acc).length=acc.length+l.length:=fun l=>by
  induction l with
  | nil=>intro acc;rfl
  | cons x l ih=>intro acc;rw[List.foldl_cons,ih,Wq,length_cons];omega
 have:=go l [];rw[length_nil,Nat.zero_add]at this;exact this
theorem Gf(a b:Int)(ha:BH a)(hb:1<=b/\b<=1000000)(h:Hp)(ms:List Hp):FnV Tryz.prog 34 #[.int .i64 a,.int .i64 b] h ms (.int .i64 (a%b)):=by
 refine EO ?_ ms;have ha1:=ha.1;have ha2:=ha.2;have h1:a.tmod b<b:=by have:=Int.tmod_lt_of_pos a (show 0<b by omega);omega
 have h2:-b<a.tmod b:=by have:=Int.lt_tmod_of_pos a (show 0<b by omega);omega
 have h3:(a.tmod b+b)%b=a%b:=by rw[Int.add_emod_right,Int.tmod_def,Int.sub_mul_emod_self_left]
 refine Ap func34 ntmps34 rfl rfl (fun w0 hw0=>?_);simp only[AX];refine As (Qm rfl (BK (Qm rfl (Qm rfl (Qx (Vx rfl rfl rfl (by omega)) rfl (Qm rfl (Qx (oA rfl) rfl (Qm rfl (Qx (Cc rfl rfl rfl (by omega) (by omega)) rfl (Qm rfl (Am (An ?_))))))))))));exact Az rfl rfl (by rw[h3])
theorem EC{α:Type}{F:α->List Value}{sz:Nat}{el:TypeId}(g:Nat)(hF:∀x,(F x).length=sz):OwnL F sz el (Bn g el []) (.slice (some ⟨g,0,none⟩) 0 0) ([]:List α):=OwnL.blk (l:=[]) 0 hF rfl (by decide)
theorem Pk(l:List (Int×Int))(v:Value)(h:Hp)(hl:l.length<=100000)(hR:RdL cD 2 h [] v l):FnT Tryz.prog 170 #[v] h [] (fun r h' ms'=>h=h'/\∃m,ms'=[m]/\OwnL cD 2 119 m r (Ca l)):=by
 have o1:=hR.rd.one;refine Ap func170 ntmps170 rfl rfl (fun w0 hw0=>?_);simp only[AX];refine As (Qm rfl (BK (Qm rfl (Am (Ac (As (Qm rfl (Am (Ag (BJ ?_))))))))))
 refine Ay (fun q s h' ms'=>∃(i:Nat) (vo:Value) (mo:Hp),q=l.length-i/\s=[(0,v),(3,vo),(4,.int .i64 i)]/\h=h'/\ms'=[mo]/\i<=l.length/\OwnL cD 2 119 mo vo (Ca (l.take i)))
  (l.length-0) _ ⟨0,_,_,rfl,rfl,rfl,rfl,by omega,OwnL.nil Ep⟩ Qs ?_
 rintro q s h' ms' ⟨i,vo,mo,rfl,rfl,rfl,rfl,hi,hO⟩;have hsl:=Gn (l.take i);rw[length_take]at hsl;refine Ac (As (Qm rfl (Qm rfl (Qx (Ar hR.rd.any rfl BZ rfl) rfl (Qm rfl (Am ?_))))));refine Aq rfl (fun hlt=>?_) (fun hlt=>?_)
 ·have hil:i<l.length:=CC hlt;have ovo:=hO.o1;have hseg:∀ms,Seg h ms ((AF v).add (i*2)) (cD l[i]):=fun ms=>(hR.any (ms:=ms)).seg hil;obtain⟨out,hout⟩:∃out,Ca (l.take i)=out:=⟨_,rfl⟩
  rw[hout]at hO hsl;refine Ah (Ab (Ac (Ag (As (Qm rfl (Am ?_))))));have hcl:=hO.rd (h:=h) (ms:=[mo]) Mh;have hout2:=hcl.len_le;have htk:Ca (l.take (i+1))=HS l[i] out:=by rw[List.take_succ_eq_append_getElem hil,N5,hout]
  refine A9 (fun s h' ms'=>∃(k:Nat),s=[(0,v),(3,vo),(4,.int .i64 i),(5,.int .i64 k)]/\h=h'/\ms'=[mo]/\k<=out.length/\HS l[i] out=out.take k++l[i]::out.drop k) ?_ (fun s h ms hI=>?_)
  ·refine Ag ?_
   refine Ay (fun q s h' ms'=>∃(k:Nat),q=out.length-k/\s=[(0,v),(3,vo),(4,.int .i64 i),(5,.int .i64 k)]/\h=h'/\ms'=[mo]/\k<=out.length/\∀j (hj:j<out.length),j<k->out[j].1<=l[i].1)
    (out.length-0) _ ⟨0,rfl,rfl,rfl,rfl,by omega,fun j hj h=>by omega⟩ Qs ?_
   rintro q s h' ms' ⟨k,rfl,rfl,rfl,rfl,hk,hlo⟩;refine Ac (Ac (Bc 15 CS (by kernel_rfl) rfl (Wm rfl (Wm rfl (AR (Ar hcl.rd rfl BZ rfl) rfl rfl (Wm rfl (Wm rfl ?_)))))));refine Cs (t:=17) rfl (fun hs1=>?_) (fun hs1=>?_)
   ·have hkl:k<out.length:=CC hs1;have hck:Cell h [mo] ((AF vo).add (k*2)) (.int .i64 out[k].1):=hcl.cell0 hkl rfl;have hci:Cell h [mo] ((AF v).add (i*2)) (.int .i64 l[i].1):=hR.any.cell0 hil rfl;refine AG (Au rfl rfl) rfl rfl rfl rfl (AG (Au rfl rfl) rfl rfl rfl rfl (AG (BF (k) hcl.rd rfl BZ AM rfl rfl) rfl rfl rfl rfl (AG (oF B6 rfl) rfl rfl rfl rfl (AG (oL rfl U3 (hck)) rfl rfl rfl rfl (AG (Au rfl rfl) rfl rfl rfl rfl (AG (Au rfl rfl) rfl rfl rfl rfl (AG (BF (i) hR.rd.any rfl BZ AM rfl rfl) rfl rfl rfl rfl (AG (oF B6 rfl) rfl rfl rfl rfl (AG (oL rfl U3 (hci)) rfl rfl rfl rfl (AY (Qg (MZ rfl rfl rfl) rfl (Qm rfl (Am ?_)))))))))))));refine Aq rfl (fun hs2=>?_) (fun hs2=>?_)
    ·refine Ah (Ab (Ag (Ad (Qm rfl (Qx (oA rfl) rfl (Qm rfl (Ak (Ai ?_))))))))
     exact Al (out.length-(k+1)) _ (by omega) ⟨k+1,rfl,rfl,rfl,rfl,by omega,fun j hj h=>by
      rcases (by omega:j<k\/j=k) with h1|rfl
      ·exact hlo j hj h1
      ·exact hs2⟩ Qs
    ·refine Av (Aa (Aa (Af ?_)));exact AD _ ⟨k,rfl,rfl,rfl,hk,Ry hk hlo fun _=>hs2⟩ Qs
   ·have hkl:k=out.length:=by omega
    refine Aw rfl rfl rfl rfl rfl (Aw rfl rfl rfl rfl rfl (Aw rfl rfl rfl rfl rfl (Aw rfl rfl rfl rfl rfl (Aw rfl rfl rfl rfl rfl (Aw rfl rfl rfl rfl rfl (Aw rfl rfl rfl rfl rfl (Aw rfl rfl rfl rfl rfl (Aw rfl rfl rfl rfl rfl (Aw rfl rfl rfl rfl rfl (AY (Qk rfl (Qm rfl (Am (AP rfl (Av (Aa (Aa (Af ?_))))))))))))))))));exact AD _ ⟨k,rfl,rfl,rfl,hk,Ry hk hlo fun h=>absurd h (by omega)⟩ Qs
  ·obtain⟨k,rfl,rfl,rfl,hk,hins⟩:=hI;refine Ac (Bc 8 CS (by kernel_rfl) rfl (Wm rfl (Wm rfl (AR (BF (i) hR.rd.any rfl BZ AM rfl rfl) rfl rfl (AR (oG rfl DX AM (hseg _)) rfl rfl (Vv (EL [_,_] rfl BZ AM rfl (by rfl) rfl rfl (by omega)) rfl rfl (Wm rfl (Wm rfl (AR (CE (k) hcl.rd rfl BZ AM rfl rfl (by omega) (by omega)) rfl rfl (IK (fun g36=>AO 0 (OwnL.blk (g:=g36) (el:=119) (F:=cD) (l:=[l[i]]) 1 Ep rfl (by decide)) ((hO.rd (h:=h) (List.Mem.tail _ Mh)).sub_ hk (Nat.le_refl _)) rfl BZ AM rfl (by omega) rfl rfl rfl Ga (by(try simp only[length_singleton,length_nil,length_append,length_take,length_drop,nil_append]);omega) (by(try simp only[length_singleton,length_nil,length_append,length_take,length_drop,nil_append]);omega) rfl rfl rfl (fun v6 m6 hO6=>?_))))))))))));have ov6:=hO6.o1;refine Qm rfl (Gm ?_);refine Ax [] [] [] rfl BZ AM rfl (by omega) (by kernel_rfl) (by repeat (first|exact trivial|refine⟨⟨by first|rfl|exact(hcl.rd).cells|exact Rd.cells ‹_›|exact(RdL.rd ‹_›).cells,rfl,rfl⟩,?_⟩)) rfl rfl rfl rfl (fun g41=>?_);refine Qm rfl (Qm rfl (Qx (EA (k) hcl.rd rfl BZ AM rfl rfl (by omega) (by omega)) rfl (AO 0 (EC g41 Ep) ((hO.rd (h:=h) (List.Mem.tail _ (List.Mem.tail _ Mh))).sub_ (Nat.zero_le _) hk) rfl BZ AM rfl (by omega) rfl rfl rfl Ga (by(try simp only[length_singleton,length_nil,length_append,length_take,length_drop,nil_append]);omega) (by(try simp only[length_singleton,length_nil,length_append,length_take,length_drop,nil_append]);omega) rfl rfl rfl (fun v7 m7 hO7=>Qm rfl (AO 0 hO7 (hO6.rd (h:=h) (List.Mem.tail _ Mh)) rfl BZ AM rfl (by omega) rfl rfl rfl Ga (by(try simp only[length_singleton,length_nil,length_append,length_take,length_drop,nil_append]);omega) (by(try simp only[length_singleton,length_nil,length_append,length_take,length_drop,nil_append]);omega) rfl rfl rfl (fun v8 m8 hO8=>?_))))))
   have he:[]++(out.drop 0).take (k-0)++([l[i]]++(out.drop k).take (out.length-k))=Ca (l.take (i+1)):=by rw[htk,hins,drop_zero,Nat.sub_zero,List.take_of_length_le (l:=out.drop k) (by rw[length_drop];omega)];rfl
   rw[he]at hO8;refine Qm rfl (Ak (Ai (Ab (Ad (Qm rfl (Qx (oA rfl) rfl (Qm rfl (Ak ?_))))))));refine Ir (List.perm_append_comm (l₁:=[m8]) (l₂:=[m6,mo])) (AN (AN ?_));exact Al (l.length-(i+1)) _ (by omega) ⟨i+1,v8,m8,rfl,rfl,rfl,rfl,by omega,hO8⟩ Qs
 ·have hil:i=l.length:=by omega
  rw[hil,List.take_length]at hO;refine Av (Aa (Aa (Af (Ab (As (Qm rfl (Qm rfl (Am (An ?_)))))))));exact Az rfl rfl (⟨rfl,mo,rfl,hO⟩)
open Go.Lin Go.Sort Go.Srt
theorem GN(i j:Nat)(h:i+j<4611686018427387904):IntKind.i64.wrap (((i+j)%((2:Int)^IntKind.u64.bits).natAbs/2^1:Nat):Int)=(((i+j)/2:Nat):Int):=by
 have e1:(2^IntKind.u64.bits:Int).natAbs=18446744073709551616:=by decide
 rw[e1,Nat.mod_eq_of_lt (by omega)];show IntKind.i64.wrap (((i+j)/2:Nat):Int)=_;unfold IntKind.wrap;simp[IntKind.bits,IntKind.signed];omega
theorem ET{k x a:Nat}(hx:k∣x)(ha:k∣a)(h:x<a):x+k<=a:=by
 obtain⟨p,rfl⟩:=hx;obtain⟨q,rfl⟩:=ha;have:p<q:=Nat.lt_of_mul_lt_mul_left h
 calc k*p+k=k*(p+1):=by rw[Nat.mul_add,Nat.mul_one]
  _<=k*q:=Nat.mul_le_mul_left k this
def c3(x y:Int):Int:=if x<y then -1 else if y<x then 1 else 0
theorem Jy(x y:Int):c3 x y<0<->x<y:=by
 unfold c3
 repeat' split
 all_goals omega
theorem RD(x:Int)(h:Hp)(ms:List Hp):FnV Tryz.prog 202 #[.int .i64 x] h ms (.bool false):=by refine EO ?_ ms;refine Ap func202 ntmps202 rfl rfl (fun w0 hw0=>?_);simp only[AX];refine As (Qm rfl (BK (Qm rfl (Qm rfl (Qm rfl (Qm rfl (Am (An ?_))))))));exact Az rfl rfl (by simp)
theorem F1(x y:Int)(h:Hp)(ms:List Hp):FnV Tryz.prog 150 #[.int .i64 x,.int .i64 y] h ms (.int .i64 (c3 x y)):=by
 refine EO ?_ ms;refine Ap func150 ntmps150 rfl rfl (fun w0 hw0=>?_);simp only[AX];refine As (Qm rfl (BK (Qm rfl (Qx (AL rfl call202 rfl (RD _ _ _)) rfl (Qm rfl (BK (Qm rfl (Qx (AL rfl call202 rfl (RD _ _ _)) rfl (Qm rfl (Am (Ac (As (Qm rfl (Am (AP rfl (Ah (Ab (Ac (As (Qm rfl (Am (AP rfl (Ah (Ab (Ac (As (Qm rfl (Qm rfl (Qm rfl (Am ?_))))))))))))))))))))))))))))));refine Aq rfl (fun h1=>?_) (fun h1=>?_)
 ·refine Ac (Ad (Qm rfl (Am (An (Ae ?_)))));exact Az rfl rfl (by unfold c3;rw[if_pos h1])
 ·refine Ah (Ab (Ac (As (Qm rfl (Qm rfl (Qm rfl (Am ?_)))))));refine Aq rfl (fun h2=>?_) (fun h2=>?_)
  ·refine Ac (Ad (Qm rfl (Am (An (Ae ?_)))));exact Az rfl rfl (by unfold c3;rw[if_neg h1,if_pos h2])
  ·refine Ah (Ab (As (Qm rfl (Am (An ?_)))));exact Az rfl rfl (by unfold c3;rw[if_neg h1,if_neg h2])
structure CeO where
 c:Cl
 v:Value
 one:v.oneCell'=true
instance:Inhabited CeO:=⟨⟨default,.slice none 0 0,rfl⟩⟩
def HK(a:CeO):List Value:=[.int .i64 a.c.id,.int .i64 a.c.dim,a.v]
theorem JR:∀a,(HK a).length=3:=fun _=>rfl
theorem Nf(s:CeO):∀c∈HK s,c.oneCell'=true:=fun c hc=>by
 simp only[HK,mem_cons,not_mem_nil,or_false]at hc;rcases hc with rfl|rfl|rfl
 ·rfl
 ·rfl
 ·exact s.one
abbrev Io:=Int×Int
def CI(x y:CeO):Bool:=decide (c3 x.c.id y.c.id<0)
def CJ(x y:Io):Bool:=decide (c3 x.1 y.1<0)
theorem Ii:SWO CI:=by
 refine⟨fun x=>?_,fun x y z h1 h2=>?_,fun x y z h1 h2=>?_⟩
 ·unfold CI;rw[decide_eq_false_iff_not,Jy];omega
 ·unfold CI at *;rw[decide_eq_true_iff,Jy]at *;omega
 ·unfold CI at *;rw[decide_eq_false_iff_not,Jy]at *;omega
theorem IB:SWO CJ:=by
 refine⟨fun x=>?_,fun x y z h1 h2=>?_,fun x y z h1 h2=>?_⟩
 ·unfold CJ;rw[decide_eq_false_iff_not,Jy];omega
 ·unfold CJ at *;rw[decide_eq_true_iff,Jy]at *;omega
 ·unfold CJ at *;rw[decide_eq_false_iff_not,Jy]at *;omega
def PI(g:Nat):Value:=.func (.func 196) #[] #[.pointer (some ⟨g,0,none⟩)]
def PH(g:Nat):Value:=.func (.func 199) #[] #[.pointer (some ⟨g,0,none⟩)]
def fkC:Value:=.func (.func 135) #[] #[]
def fkD:Value:=.func (.func 137) #[] #[]
def Sl(h:Hp)(g:Nat):Prop:=∀ms,Cell h ms (⟨g,0,none⟩:Addr) fkC
def SQ(h:Hp)(g:Nat):Prop:=∀ms,Cell h ms (⟨g,0,none⟩:Addr) fkD
theorem Y6(x:CeO)(h:Hp)(ms:List Hp):FnV Tryz.prog 135 #[.agg (HK x).toArray] h ms (.int .i64 x.c.id):=by refine EO ?_ ms;have o1:=x.one;show FnT _ _ #[.agg #[.int .i64 x.c.id,.int .i64 x.c.dim,x.v]] _ _ _;refine Ap func135 ntmps135 rfl rfl (fun w0 hw0=>?_);simp only[AX];refine As (AV [_,_,_] rfl rfl (by rfl) rfl rfl rfl (fun g1=>Qm rfl (BK (Qf Bt rfl (Ql rfl U3 (Cell.blk 0 rfl rfl) (Qm rfl (Am (An ?_))))))));exact Az rfl rfl (rfl)
theorem Zg(x:Io)(h:Hp)(ms:List Hp):FnV Tryz.prog 137 #[.agg (cD x).toArray] h ms (.int .i64 x.1):=by refine EO ?_ ms;show FnT _ _ #[.agg #[.int .i64 x.1,.int .i64 x.2]] _ _ _;refine Ap func137 ntmps137 rfl rfl (fun w0 hw0=>?_);simp only[AX];refine As (AV [_,_] rfl rfl (by rfl) rfl rfl rfl (fun g1=>Qm rfl (BK (Qf B6 rfl (Ql rfl U3 (Cell.blk 0 rfl rfl) (Qm rfl (Am (An ?_))))))));exact Az rfl rfl (rfl)
theorem M4(x y:CeO)(h:Hp)(g:Nat)(hg:Sl h g)(ms:List Hp):FnV Tryz.prog 196 #[.agg (HK x).toArray,.agg (HK y).toArray,.pointer (some ⟨g,0,none⟩)] h ms (.int .i64 (c3 x.c.id y.c.id)):=by refine EO ?_ ms;have o1:=x.one;have o2:=y.one;show FnT _ _ #[.agg #[.int .i64 x.c.id,.int .i64 x.c.dim,x.v],.agg #[.int .i64 y.c.id,.int .i64 y.c.dim,y.v],.pointer (some ⟨g,0,none⟩)] _ _ _;refine Ap func196 ntmps196 rfl rfl (fun w0 hw0=>?_);simp only[AX];refine As (AV [_,_,_] rfl rfl (by rfl) rfl rfl rfl (fun g3=>AV [_,_,_] rfl rfl (by rfl) rfl rfl rfl (fun g4=>Qm rfl (Am (AC fun h1 l1 hG4=>(AC fun h2 l2 hG3=>?_))))));have hG4:=hG4.le l2;have hgk:∀ms,Cell h2 ms (⟨g,0,none⟩:Addr) fkC:=fun ms=>(hg ms).le (AJ l1 l2);refine Ac (Bc 5 CS (by kernel_rfl) rfl (Wl rfl AaB (hgk _) (AR (oG rfl Ef AI (Seg.any hG3)) rfl rfl (AR (Cj rfl rfl call135 rfl ((Y6 x _ _))) rfl rfl (Wl rfl AaB (hgk _) (AR (oG rfl Ef AI (Seg.any hG4)) rfl rfl (AY (Qx (Cj rfl rfl call135 rfl ((Y6 y _ _))) rfl (Qx (AL rfl call150 rfl (F1 _ _ _ _)) rfl (Qm rfl (Am (An ?_))))))))))));exact Az rfl rfl (rfl)
theorem NC(x y:Io)(h:Hp)(g:Nat)(hg:SQ h g)(ms:List Hp):FnV Tryz.prog 199 #[.agg (cD x).toArray,.agg (cD y).toArray,.pointer (some ⟨g,0,none⟩)] h ms (.int .i64 (c3 x.1 y.1)):=by refine EO ?_ ms;show FnT _ _ #[.agg #[.int .i64 x.1,.int .i64 x.2],.agg #[.int .i64 y.1,.int .i64 y.2],.pointer (some ⟨g,0,none⟩)] _ _ _;refine Ap func199 ntmps199 rfl rfl (fun w0 hw0=>?_);simp only[AX];refine As (AV [_,_] rfl rfl (by rfl) rfl rfl rfl (fun g3=>AV [_,_] rfl rfl (by rfl) rfl rfl rfl (fun g4=>Qm rfl (Am (AC fun h1 l1 hG4=>(AC fun h2 l2 hG3=>?_))))));have hG4:=hG4.le l2;have hgk:∀ms,Cell h2 ms (⟨g,0,none⟩:Addr) fkD:=fun ms=>(hg ms).le (AJ l1 l2);refine Ac (Bc 5 CS (by kernel_rfl) rfl (Wl rfl Aa0 (hgk _) (AR (oG rfl DX AM (Seg.any hG3)) rfl rfl (AR (Cj rfl rfl call137 rfl ((Zg x _ _))) rfl rfl (Wl rfl Aa0 (hgk _) (AR (oG rfl DX AM (Seg.any hG4)) rfl rfl (AY (Qx (Cj rfl rfl call137 rfl ((Zg y _ _))) rfl (Qx (AL rfl call150 rfl (F1 _ _ _ _)) rfl (Qm rfl (Am (An ?_))))))))))));exact Az rfl rfl (rfl)
variable {m h:Hp} {v:Value} {d:Array CeO} {ms:List Hp}
abbrev OSC(m:Hp)(v:Value)(d:Array CeO):Prop:=OwnL HK 3 52 m v d.toList
theorem OSC.rd(O:OSC m v d)(hm:m∈ms):Rd h ms v 3 d.size (d.toList.flatMap HK):=by have:=(OwnL.rd O hm (h:=h)).rd;rwa [Array.length_toList]at this
theorem OSC.get(O:OSC m v d)(hm:m∈ms){j:Nat}(hj:j<d.size):Seg h ms ((AF v).add (j*3)) (HK d[j]!):=by have:=(OwnL.rd O hm (h:=h)).seg (j:=j) (by simpa using hj);simpa[hj] using this
theorem Dr{e:Entry}{Q:Exit->Act->World->Prop}{ops:Array Oper}{rest:List Oper}{o:Oper}{s:AB}{t:TypeId}{x y:Operand}{z:Value}{bytes:Nat}{a:CeO}(i j:Nat)(O:OSC m v d)(ho:o.op=.store t x y)(hs:Elem e.P t 3 z bytes)(hx:ev s x=some (.pointer (some ((AF v).add (j*3)))))(hy:ev s y=some (.agg (HK a).toArray))
  (hm:ms[i]?=some m) (hj:j<d.size) (hd:o.dst=none) (hg:o.guard=none)
  (K:∀m',(d.setIfInBounds j a).size=d.size->OSC m' v (d.setIfInBounds j a)->WL e ops Q rest s h (ms.set i m')):WL e ops Q (o::rest) s h ms:=
 Ee i j a O ho hs hx hy rfl (Nf a) hm (by simpa using hj) hd hg fun m' O'=>K m' (by simp) (by
  show OwnL HK 3 52 m' v (d.setIfInBounds j a).toList
  rw[Array.toList_setIfInBounds];exact O')
theorem FO(d:Array CeO)(v cv:Value)(m:Hp)(hO:OSC m v d)(a b n lo hi:Nat)(hab:a+n<=b)(hb:b+n<=d.size)(hsz:d.size<=1000000)(hlo:lo<=a)(hhi:b+n<=hi)(hhs:hi<=d.size)(h:Hp){a' b' n':Int}(ea:a'=a)(eb:b'=b)(en:n'=n) :
  FnT Tryz.prog 308 #[v,.int .i64 a',.int .i64 b',.int .i64 n',cv] h [m] (fun _ h' ms'=>h=h'/\∃m' d',ms'=[m']/\OSC m' v d'/\SwR d d' a b n/\PermIn lo hi d d'):=by
 subst ea eb en;refine Ap func308 ntmps308 rfl rfl (fun w0 hw0=>?_);simp only[AX];refine As (Qm rfl (Am (Ag ?_)))
 refine Ay (fun q s h' ms'=>∃(i:Nat) (d0:Array CeO) (m:Hp),q=n-i/\s=[(0,v),(1,.int .i64 a),(2,.int .i64 b),(3,.int .i64 n),(10,.int .i64 i)]/\h=h'/\ms'=[m]/\i<=n/\OSC m v d0/\SwR d d0 a b i/\PermIn lo hi d d0)
  (n-0) _ ⟨0,d,m,rfl,rfl,rfl,rfl,by omega,hO,SwR.start d a b,permIn_refl d lo hi⟩ Qs ?_
 rintro q s h' ms' ⟨i,d0,m0,rfl,rfl,rfl,rfl,hi2,hO0,S,P⟩;have hds:=S.1;refine Ac (As (Qm rfl (Qm rfl (Qm rfl (Am ?_)))));refine Aq rfl (fun hlt=>?_) (fun hlt=>?_)
 ·refine Ah (Ab (Ac (Ag (DJ 20 [false,false,false,false,true,true,true,true] CS (by kernel_rfl) (by kernel_rfl) (by kernel_rfl) (DW rfl rfl rfl rfl (Ci rfl rfl) (DW rfl rfl rfl rfl (Ci rfl rfl) (DW rfl rfl rfl rfl (Ci rfl rfl) (DW rfl rfl rfl rfl (M9 rfl rfl rfl (by omega)) ?_))))))));refine⟨rfl,?_⟩;simp only[Ed,zap,cons_append,nil_append,take_succ_cons,take_zero,drop_succ_cons,drop_zero,List.take_nil,List.drop_nil];refine Wm rfl (Wm rfl (Wm rfl (AR (oA rfl) rfl rfl (DY rfl rfl rfl (DY rfl rfl rfl (DY rfl rfl rfl (DY rfl rfl rfl (Wm rfl (Wm rfl (Wm rfl (AR (oA rfl) rfl rfl (AR (AE (b+i) (hO0.rd (.head _)) rfl Bh AI rfl rfl (by omega) (by omega)) rfl rfl (AR (oG rfl Ef AI (hO0.get (.head _) (by omega))) rfl rfl (Wm rfl (Wm rfl (Wm rfl (AR (oA rfl) rfl rfl (AR (AE (a+i) (hO0.rd (.head _)) rfl Bh AI rfl rfl (by omega) (by omega)) rfl rfl (AR (oG rfl Ef AI (hO0.get (.head _) (by omega))) rfl rfl (AY (Qx (AE (a+i) (hO0.rd (.head _)) rfl Bh AI rfl rfl (by omega) (by omega)) rfl (Dr 0 _ hO0 rfl AI rfl rfl rfl (by omega) rfl rfl (fun mhO1 hzhO1 hO1=>Qx (AE (b+i) (hO1.rd (.head _)) rfl Bh AI rfl rfl (by omega) (by omega)) rfl (Dr 0 _ hO1 rfl AI rfl rfl rfl (by omega) rfl rfl (fun mhO2 hzhO2 hO2=>Ak (HQ (Ai (Ab (Ad (Qm rfl (Qx (oA rfl) rfl (Qm rfl (Ak ?_)))))))))))))))))))))))))))))))));refine Al (n-(i+1)) _ (by omega) ⟨i+1,_,mhO2,rfl,rfl,rfl,rfl,by omega,hO2,S.step (by omega) (by omega),permIn_trans _ _ _ _ _ P (swp_permIn d0 lo hi (a+i) (b+i) (by omega) (by omega) (by omega) (by omega) (by omega))⟩ Qs
 ·obtain rfl:i=n:=by omega
  refine Av (Aa (Aa (Af ?_)));exact B7 rfl (⟨rfl,m0,d0,rfl,hO0,S,P⟩)
theorem PP(d:Array CeO)(v cv:Value)(m:Hp)(hO:OSC m v d)(a t b lo hi:Nat)(hat:a<t)(htb:t<b)(hb:b<=d.size)(hsz:d.size<=1000000)(hlo:lo<=a)(hhi:b<=hi)(hhs:hi<=d.size)(h:Hp){a' t' b':Int}(ea:a'=a)(et:t'=t)(eb:b'=b) :
  FnT Tryz.prog 298 #[v,.int .i64 a',.int .i64 t',.int .i64 b',cv] h [m] (fun _ h' ms'=>h=h'/\∃m' d',ms'=[m']/\OSC m' v d'/\(∀k,d'[k]! = Fe d a t b k)/\PermIn lo hi d d'):=by
 subst ea et eb;refine Ap func298 ntmps298 rfl rfl (fun w0 hw0=>?_);simp only[AX];refine As (Qm rfl (Qm rfl (Qx (oS rfl) rfl (Qm rfl (BK (Qm rfl (Qm rfl (Qx (oS rfl) rfl (Qm rfl (Am (Ac (Ag ?_))))))))))))
 refine Ay (fun q s h' ms'=>∃(i j:Nat) (x y:Int) (d0:Array CeO) (m:Hp),q=i+j/\s=[(0,v),(2,.int .i64 t),(4,cv),(10,.int .i64 x),(11,.int .i64 y)]/\h=h'/\ms'=[m]/\x=i/\y=j/\0<i/\0<j/\a+i<=t/\t+j<=b/\OSC m v d0/\(∀k,Fe d0 (t-i) t (t+j) k=Fe d a t b k)/\PermIn lo hi d d0)
  ((t-a)+(b-t)) _ ⟨t-a,b-t,(t:Int)-a,(b:Int)-t,d,m,rfl,rfl,rfl,rfl,by omega,by omega,by omega,by omega,by omega,by omega,hO,fun k=>by rw[show t-(t-a)=a by omega,show t+(b-t)=b by omega],permIn_refl d lo hi⟩ Qs ?_
 rintro q s h' ms' ⟨i,j,x,y,d0,m0,rfl,rfl,rfl,rfl,rfl,rfl,hi0,hj0,hai,hjb,hO0,hR,P⟩;have hds:=P.1;refine Ac (As (Qm rfl (Qm rfl (Qm rfl (Am ?_)))));refine Aq rfl (fun hne=>?_) (fun hne=>?_)
 ·refine Ah (Ab (Ag (As (Qm rfl (Qm rfl (Qm rfl (Am ?_)))))));refine Aq rfl (fun hgt=>?_) (fun hgt=>?_)
  ·refine Ac (Ad (Qm rfl (Qm rfl (Qm rfl (Qx (oS rfl) rfl (Qm rfl (Qm rfl (Qm rfl (Bb (pre:=[m0]) rfl call308 rfl (FO d0 v cv m0 hO0 (t-i) t j lo hi (by omega) (by omega) (by omega) (by omega) (by omega) (by omega) h (by omega) rfl rfl) rfl rfl rfl rfl (fun r h1 ms1 l1 hF=>?_))))))))));obtain⟨rfl,m1,d1,rfl,hO1,S,P1⟩:=hF;refine Gm (Qm rfl (Qm rfl (Qx (oS rfl) rfl (Qm rfl (Ak (Ai ?_))))));refine Al ((i-j)+j) _ (by omega) ⟨i-j,j,(i:Int)-j,j,d1,m1,rfl,rfl,rfl,rfl,by omega,rfl,by omega,by omega,by omega,by omega,hO1,fun k=>(O9 (by omega) (by omega) S k).trans (hR k),permIn_trans _ _ _ _ _ P P1⟩ Qs
  ·refine Ac (Ad (Qm rfl (Qm rfl (Qm rfl (Qx (oS rfl) rfl (Qm rfl (Qm rfl (Qx (oA rfl) rfl (Qm rfl (Qx (oS rfl) rfl (Qm rfl (Qm rfl (Bb (pre:=[m0]) rfl call308 rfl (FO d0 v cv m0 hO0 (t-i) (t+j-i) i lo hi (by omega) (by omega) (by omega) (by omega) (by omega) (by omega) h (by omega) (by omega) rfl) rfl rfl rfl rfl (fun r h1 ms1 l1 hF=>?_))))))))))))));obtain⟨rfl,m1,d1,rfl,hO1,S,P1⟩:=hF;refine Gm (Qm rfl (Qm rfl (Qx (oS rfl) rfl (Qm rfl (Ak (Ai ?_))))));refine Al (i+(j-i)) _ (by omega) ⟨i,j-i,i,(j:Int)-i,d1,m1,rfl,rfl,rfl,rfl,rfl,by omega,by omega,by omega,by omega,by omega,hO1,fun k=>(Ky (by omega) (by omega) S k).trans (hR k),permIn_trans _ _ _ _ _ P P1⟩ Qs
 ·obtain rfl:i=j:=by omega
  refine Av (Aa (Aa (Af (Ab (Ad (Qm rfl (Qm rfl (Qm rfl (Qx (oS rfl) rfl (Qm rfl (Qm rfl (Qm rfl (Bb (pre:=[m0]) rfl call308 rfl (FO d0 v cv m0 hO0 (t-i) t i lo hi (by omega) (by omega) (by omega) (by omega) (by omega) (by omega) h (by omega) rfl rfl) rfl rfl rfl rfl (fun r h1 ms1 l1 hF=>?_))))))))))))));obtain⟨rfl,m1,d1,rfl,hO1,S,P1⟩:=hF;refine Ak ?_;exact B7 rfl (⟨rfl,m1,d1,rfl,hO1,fun k=>(Oh (by omega) S k).trans (hR k),permIn_trans _ _ _ _ _ P P1⟩)
end Go.Proofs.Q

namespace Go.Proofs.Q
open Go.Proofs.Tryz
open Go.Eng Go.RowKit Go.Lin Go.Sort Go.Srt
theorem O5(d:Array CeO)(v:Value)(m:Hp)(hO:OSC m v d)(a b:Nat)(hab:a<=b)(hb:b<=d.size)(hsz:d.size<=1000000)(h:Hp)(g:Nat)(hg:Sl h g){a' b':Int}(ea:a'=a)(eb:b'=b) :
  FnT Tryz.prog 240 #[v,.int .i64 a',.int .i64 b',(PI g)] h [m] (fun _ h' ms'=>h=h'/\∃m' d',ms'=[m']/\OSC m' v d'/\PermIn a b d d'/\SortedIn CI a b d'):=by
 subst ea eb;have hfin:=insertionSort_holds (lt:=CI) Ii d a b hab hb;refine Ap func240 ntmps240 rfl rfl (fun w0 hw0=>?_);simp only[AX];refine As (Qm rfl (Qx (oA rfl) rfl (Qm rfl (Am (Ag ?_)))))
 refine Ay (fun n s h' ms'=>∃(i:Nat) (z:Int) (d':Array CeO) (m:Hp),n=b-i/\s=[(0,v),(1,.int .i64 a),(2,.int .i64 b),(3,(PI g)),(8,.int .i64 z)]/\h=h'/\ms'=[m]/\z=i/\a<i/\i<=4611686018427387905/\OSC m v d'/\d'.size=d.size/\insOuter CI a b i d'=insertionSort CI d a b)
  _ _ ⟨a+1,(a:Int)+1,d,m,rfl,rfl,rfl,rfl,by omega,by omega,by omega,hO,rfl,rfl⟩ Qs ?_
 rintro n s h' ms' ⟨i,z,d',m,rfl,rfl,rfl,rfl,hz,hai,hi,hO,hds,hR⟩;refine Ac (As (Qm rfl (Qm rfl (Qm rfl (Am ?_)))));refine Aq rfl (fun hlt=>?_) (fun hlt=>?_)
 ·refine Ah (Ab (Ac (Ag (As (Qm rfl (Qm rfl (Am (Ag ?_))))))))
  refine Ay (fun n s h' ms'=>∃(j:Nat) (y:Int) (d':Array CeO) (m:Hp),j=n/\s=[(0,v),(1,.int .i64 a),(2,.int .i64 b),(3,(PI g)),(8,.int .i64 z),(9,.int .i64 y)]/\h=h'/\ms'=[m]/\y=j/\j<=i/\OSC m v d'/\d'.size=d.size/\insOuter CI a b (i+1) (insInner CI a j d')=insertionSort CI d a b)
   _ _ ⟨i,z,d',m,rfl,rfl,rfl,rfl,hz,by omega,hO,hds,by rw[<-hR];conv=>rhs;unfold insOuter;rw[if_pos (by omega)]⟩ Qs ?_
  rintro n s h' ms' ⟨j,y,d1,m1,rfl,rfl,rfl,rfl,hy,hji,hO1,hds1,hR1⟩;refine Ac (Ac (Bc 14 CS (by kernel_rfl) rfl (Wm rfl (Wm rfl (Wm rfl (Wm rfl ?_))))));refine Cs (t:=21) rfl (fun hja=>?_) (fun hja=>?_)
  ·refine AG (Au rfl rfl) rfl rfl rfl rfl (AG (Au rfl rfl) rfl rfl rfl rfl (AG (Au rfl rfl) rfl rfl rfl rfl (AG (AE (j) (hO1.rd (.head _)) rfl Bh AI rfl rfl (by omega) (by omega)) rfl rfl rfl rfl (AG (oG rfl Ef AI (hO1.get (.head _) (by omega))) rfl rfl rfl rfl (AG (Au rfl rfl) rfl rfl rfl rfl (AG (Au rfl rfl) rfl rfl rfl rfl (AG (oS rfl) rfl rfl rfl rfl (AG (AE (j-1) (hO1.rd (.head _)) rfl Bh AI rfl rfl (by omega) (by omega)) rfl rfl rfl rfl (AG (oG rfl Ef AI (hO1.get (.head _) (by omega))) rfl rfl rfl rfl (AY (Qg (Cj rfl rfl call196 rfl (M4 _ _ _ g hg _)) rfl (Qg (Dg rfl rfl rfl) rfl (Qm rfl (Am ?_))))))))))))));refine Bz rfl (fun hl=>?_) (fun hl=>?_)
   ·refine Ah (Ab (Ac (Ag (DJ 14 [false,false,true,true,true] CS (by kernel_rfl) (by kernel_rfl) (by kernel_rfl) (DW rfl rfl rfl rfl (Ci rfl rfl) (DW rfl rfl rfl rfl (Ci rfl rfl) (DW rfl rfl rfl rfl (MS rfl rfl rfl (by omega)) ?_)))))));refine⟨rfl,?_⟩;simp only[Ed,zap,cons_append,nil_append,take_succ_cons,take_zero,drop_succ_cons,drop_zero,List.take_nil,List.drop_nil];refine Wm rfl (Wm rfl (DY rfl rfl rfl (DY rfl rfl rfl (DY rfl rfl rfl (Wm rfl (Wm rfl (AR (oS rfl) rfl rfl (AR (AE (j-1) (hO1.rd (.head _)) rfl Bh AI rfl rfl (by omega) (by omega)) rfl rfl (AR (oG rfl Ef AI (hO1.get (.head _) (by omega))) rfl rfl (Wm rfl (Wm rfl (AR (AE (j) (hO1.rd (.head _)) rfl Bh AI rfl rfl (by omega) (by omega)) rfl rfl (AR (oG rfl Ef AI (hO1.get (.head _) (by omega))) rfl rfl (AY (Qx (AE (j) (hO1.rd (.head _)) rfl Bh AI rfl rfl (by omega) (by omega)) rfl (Dr 0 _ hO1 rfl AI rfl rfl rfl (by omega) rfl rfl (fun mhO2 hzhO2 hO2=>Qx (AE (j-1) (hO2.rd (.head _)) rfl Bh AI rfl rfl (by omega) (by omega)) rfl (Dr 0 _ hO2 rfl AI rfl rfl rfl (by omega) rfl rfl (fun mhO3 hzhO3 hO3=>Ak (HQ (Ai (Ab (Ad (Qm rfl (Qx (oS rfl) rfl (Qm rfl (Ak ?_)))))))))))))))))))))))))));obtain⟨j',rfl⟩:∃j',j=j'+1:=⟨j-1,by omega⟩
    refine Al j' _ (by omega) ⟨j',y-1,_,mhO3,rfl,rfl,rfl,rfl,by omega,by omega,hO3,by simp[hds1],?_⟩ Qs;rw[<-hR1]
    conv=>rhs;unfold insInner
    rw[if_pos (by rw[Bool.and_eq_true];exact⟨decide_eq_true (by omega),hl⟩)];rfl
   ·refine Av (Aa (Aa (Af (Ai (Ab (Ad (Qm rfl (Qx (oA rfl) rfl (Qm rfl (Ak ?_))))))))));refine Al (b-(i+1)) _ (by omega) ⟨i+1,z+1,d1,m1,rfl,rfl,rfl,rfl,by omega,by omega,by omega,hO1,hds1,?_⟩ Qs;rw[<-hR1];obtain⟨j',rfl⟩:∃j',j=j'+1:=⟨j-1,by omega⟩
    conv=>rhs;unfold insInner
    rw[if_neg (by rw[Bool.and_eq_true];rintro⟨_,h2⟩;exact absurd (hl.symm.trans h2) (by decide))]
  ·refine Aw rfl rfl rfl rfl rfl (Aw rfl rfl rfl rfl rfl (Aw rfl rfl rfl rfl rfl (Aw rfl rfl rfl rfl rfl (Aw rfl rfl rfl rfl rfl (Aw rfl rfl rfl rfl rfl (Aw rfl rfl rfl rfl rfl (Aw rfl rfl rfl rfl rfl (Aw rfl rfl rfl rfl rfl (Aw rfl rfl rfl rfl rfl (AY (Qk rfl (Qk rfl (Qm rfl (Am (AP rfl (Av (Aa (Aa (Af (Ai (Ab (Ad (Qm rfl (Qx (oA rfl) rfl (Qm rfl (Ak ?_))))))))))))))))))))))))));refine Al (b-(i+1)) _ (by omega) ⟨i+1,z+1,d1,m1,rfl,rfl,rfl,rfl,by omega,by omega,by omega,hO1,hds1,?_⟩ Qs;rw[<-hR1];cases j with
   | zero=>rfl
   | succ j'=>
    conv=>rhs;unfold insInner
    rw[if_neg (by simp;intro h';omega)]
 ·refine Av (Aa (Aa (Af ?_)));exact B7 rfl (⟨rfl,m,insertionSort CI d a b,rfl,by rw[<-hR];unfold insOuter;rw[if_neg (by omega)];exact hO,hfin.1,hfin.2⟩)
theorem Iy:∀(N:Nat) (d:Array CeO) (v:Value) (m:Hp) (hO:OSC m v d) (a t b:Nat) (hN:b-a<=N) (hat:a<t) (htb:t<b) (hb:b<=d.size) (hsz:d.size<=1000000) (hA:SortedIn CI a t d) (hB:SortedIn CI t b d) (h:Hp) (g:Nat) (hg:Sl h g) {a' t' b':Int} (ea:a'=a) (et:t'=t) (eb:b'=b),
  FnT Tryz.prog 277 #[v,.int .i64 a',.int .i64 t',.int .i64 b',(PI g)] h [m] (fun _ h' ms'=>h=h'/\∃m' d',ms'=[m']/\OSC m' v d'/\PermIn a b d d'/\SortedIn CI a b d'):=by
 intro N
 induction N with
 | zero=>intro d v m hO a t b hN hat htb;omega
 | succ N ih=>
 intro d v m hO a t b hN hat htb hb hsz hA hB h g hg a' t' b' ea et eb;subst ea et eb;refine Ap func277 ntmps277 rfl rfl (fun w0 hw0=>?_);simp only[AX];refine Ac (As (Qm rfl (Qm rfl (Qx (oS rfl) rfl (Qm rfl (Am ?_))))));refine Aq rfl (fun h1=>?_) (fun h1=>?_)
 ·-- one element on the left
  obtain rfl:t=a+1:=by omega
  refine As (Qm rfl (Qm rfl (BK (Qm rfl (Qm rfl (Am (Ac (Ag ?_))))))))
  refine Ay (fun n s h' ms'=>∃(i j:Nat),n=j-i/\s=[(0,v),(1,.int .i64 a),(4,(PI g)),(10,.int .i64 i),(11,.int .i64 j)]/\h=h'/\ms'=[m]/\a+1<=i/\i<=j/\j<=b/\(i=a+1\/CI d[i-1]! d[a]! = true)/\(j=b\/CI d[j]! d[a]! = false))
   (b-(a+1)) _ ⟨a+1,b,rfl,rfl,rfl,rfl,by omega,by omega,by omega,.inl rfl,.inl rfl⟩ Qs ?_
  rintro n s h' ms' ⟨i,j,rfl,rfl,rfl,rfl,hi,hij,hj,c1,c2⟩;refine Ac (As (Qm rfl (Qm rfl (Qm rfl (Am ?_)))));refine Aq rfl (fun hlt=>?_) (fun hlt=>?_)
  ·refine Ah (Ab (Ag (As (Qm rfl (Qm rfl (Qx (oA rfl) rfl (Qx (Ck rfl U3 HE rfl) rfl (Qx (DN (n:=1) rfl rfl rfl (by omega)) rfl (Qx (Ck rfl HE U3 rfl) rfl (Qm rfl (Am ?_)))))))))));rw[GN i j (by omega)];refine Ac (Bc 9 CS (by kernel_rfl) rfl (Wm rfl (Wm rfl (Wm rfl (AR (AE ((i+j)/2) (hO.rd (.head _)) rfl Bh AI rfl rfl (by omega) (by omega)) rfl rfl (AR (oG rfl Ef AI (hO.get (.head _) (by omega))) rfl rfl (Wm rfl (Wm rfl (AR (AE (a) (hO.rd (.head _)) rfl Bh AI rfl rfl (by omega) (by omega)) rfl rfl (AR (oG rfl Ef AI (hO.get (.head _) (by omega))) rfl rfl (AY (Qx (Cj rfl rfl call196 rfl (M4 _ _ _ g hg _)) rfl (Qm rfl (Am ?_))))))))))))));refine Bz rfl (fun hl=>?_) (fun hl=>?_)
   ·refine Ad (Qm rfl (Qx (oA rfl) rfl (Qm rfl (Ak (Ai ?_)))));exact Al (j-((i+j)/2+1)) _ (by omega) ⟨(i+j)/2+1,j,rfl,rfl,rfl,rfl,by omega,by omega,by omega,.inr (by rw[Nat.add_sub_cancel];exact hl),c2⟩ Qs
   ·refine Ad (Qm rfl (Qm rfl (Ak (Ai ?_))));exact Al ((i+j)/2-i) _ (by omega) ⟨i,(i+j)/2,rfl,rfl,rfl,rfl,by omega,by omega,by omega,c1,.inr hl⟩ Qs
  ·obtain rfl:i=j:=by omega
   refine Av (Aa (Aa (Af (Ab (Ac (As (Qm rfl (Qm rfl (Am (Ag ?_))))))))))
   refine Ay (fun n s h' ms'=>∃(k:Nat) (d0:Array CeO) (m:Hp),n=i-1-k/\s=[(0,v),(10,.int .i64 i),(13,.int .i64 k)]/\h=h'/\ms'=[m]/\a<=k/\k<=i-1/\OSC m v d0/\InsR d d0 a k/\PermIn a b d d0)
    (i-1-a) _ ⟨a,d,m,rfl,rfl,rfl,rfl,by omega,by omega,hO,InsR.start d a,permIn_refl d a b⟩ Qs ?_
   rintro n s h' ms' ⟨k,d0,m0,rfl,rfl,rfl,rfl,hak,hki,hO0,R,P⟩;have hds:=R.1;refine Ac (As (Qm rfl (Qm rfl (Qx (oS rfl) rfl (Qm rfl (Am ?_))))));refine Aq rfl (fun hltk=>?_) (fun hltk=>?_)
   ·refine Ah (Ab (Ac (Ag (DJ 14 [false,false,true,true,true] CS (by kernel_rfl) (by kernel_rfl) (by kernel_rfl) (DW rfl rfl rfl rfl (Ci rfl rfl) (DW rfl rfl rfl rfl (Ci rfl rfl) (DW rfl rfl rfl rfl (M9 rfl rfl rfl (by omega)) ?_)))))));refine⟨rfl,?_⟩;simp only[Ed,zap,cons_append,nil_append,take_succ_cons,take_zero,drop_succ_cons,drop_zero,List.take_nil,List.drop_nil];refine Wm rfl (Wm rfl (DY rfl rfl rfl (DY rfl rfl rfl (DY rfl rfl rfl (Wm rfl (Wm rfl (AR (oA rfl) rfl rfl (AR (AE (k+1) (hO0.rd (.head _)) rfl Bh AI rfl rfl (by omega) (by omega)) rfl rfl (AR (oG rfl Ef AI (hO0.get (.head _) (by omega))) rfl rfl (Wm rfl (Wm rfl (AR (AE (k) (hO0.rd (.head _)) rfl Bh AI rfl rfl (by omega) (by omega)) rfl rfl (AR (oG rfl Ef AI (hO0.get (.head _) (by omega))) rfl rfl (AY (Qx (AE (k) (hO0.rd (.head _)) rfl Bh AI rfl rfl (by omega) (by omega)) rfl (Dr 0 _ hO0 rfl AI rfl rfl rfl (by omega) rfl rfl (fun mhO1 hzhO1 hO1=>Qx (AE (k+1) (hO1.rd (.head _)) rfl Bh AI rfl rfl (by omega) (by omega)) rfl (Dr 0 _ hO1 rfl AI rfl rfl rfl (by omega) rfl rfl (fun mhO2 hzhO2 hO2=>Ak (HQ (Ai (Ab (Ad (Qm rfl (Qx (oA rfl) rfl (Qm rfl (Ak ?_)))))))))))))))))))))))))));exact Al (i-1-(k+1)) _ (by omega) ⟨k+1,_,mhO2,rfl,rfl,rfl,rfl,by omega,by omega,hO2,R.step hak (by omega),permIn_trans _ _ _ _ _ P (swp_permIn d0 a b k (k+1) (by omega) (by omega) (by omega) (by omega) (by omega))⟩ Qs
   ·obtain rfl:k=i-1:=by omega
    refine Av (Aa (Aa (Af (Ab (An (Ae ?_))))));exact FB rfl (⟨rfl,m0,d0,rfl,hO0,P,Kl Ii hB ⟨hi,hj⟩ c1 c2 R⟩)
 ·refine Ah (Ab (Ac (As (Qm rfl (Qm rfl (Qx (oS rfl) rfl (Qm rfl (Am ?_))))))));refine Aq rfl (fun h2=>?_) (fun h2=>?_)
  ·-- one element on the right
   obtain rfl:b=t+1:=by omega
   refine As (Qm rfl (Qm rfl (BK (Qm rfl (Qm rfl (Am (Ac (Ag ?_))))))))
   refine Ay (fun n s h' ms'=>∃(i j:Nat),n=j-i/\s=[(0,v),(1,.int .i64 a),(2,.int .i64 t),(4,(PI g)),(14,.int .i64 i),(15,.int .i64 j)]/\h=h'/\ms'=[m]/\a<=i/\i<=j/\j<=t/\(i=a\/CI d[t]! d[i-1]! = false)/\(j=t\/CI d[t]! d[j]! = true))
    (t-a) _ ⟨a,t,rfl,rfl,rfl,rfl,by omega,by omega,by omega,.inl rfl,.inl rfl⟩ Qs ?_
   rintro n s h' ms' ⟨i,j,rfl,rfl,rfl,rfl,hi,hij,hj,c1,c2⟩;refine Ac (As (Qm rfl (Qm rfl (Qm rfl (Am ?_)))));refine Aq rfl (fun hlt=>?_) (fun hlt=>?_)
   ·refine Ah (Ab (Ag (As (Qm rfl (Qm rfl (Qx (oA rfl) rfl (Qx (Ck rfl U3 HE rfl) rfl (Qx (DN (n:=1) rfl rfl rfl (by omega)) rfl (Qx (Ck rfl HE U3 rfl) rfl (Qm rfl (Am ?_)))))))))));rw[GN i j (by omega)];refine Ac (Bc 9 CS (by kernel_rfl) rfl (Wm rfl (Wm rfl (Wm rfl (AR (AE (t) (hO.rd (.head _)) rfl Bh AI rfl rfl (by omega) (by omega)) rfl rfl (AR (oG rfl Ef AI (hO.get (.head _) (by omega))) rfl rfl (Wm rfl (Wm rfl (AR (AE ((i+j)/2) (hO.rd (.head _)) rfl Bh AI rfl rfl (by omega) (by omega)) rfl rfl (AR (oG rfl Ef AI (hO.get (.head _) (by omega))) rfl rfl (AY (Qx (Cj rfl rfl call196 rfl (M4 _ _ _ g hg _)) rfl (Qm rfl (Qm rfl (Am ?_)))))))))))))));refine Bz rfl (fun hl=>?_) (fun hl=>?_)
    ·have hl:CI d[t]! d[(i+j)/2]! = false:=by unfold CI;simpa using hl
     refine Ad (Qm rfl (Qx (oA rfl) rfl (Qm rfl (Ak (Ai ?_)))));exact Al (j-((i+j)/2+1)) _ (by omega) ⟨(i+j)/2+1,j,rfl,rfl,rfl,rfl,by omega,by omega,by omega,.inr (by rw[Nat.add_sub_cancel];exact hl),c2⟩ Qs
    ·have hl:CI d[t]! d[(i+j)/2]! = true:=by unfold CI;simpa using hl
     refine Ad (Qm rfl (Qm rfl (Ak (Ai ?_))));exact Al ((i+j)/2-i) _ (by omega) ⟨i,(i+j)/2,rfl,rfl,rfl,rfl,by omega,by omega,by omega,c1,.inr hl⟩ Qs
   ·obtain rfl:i=j:=by omega
    refine Av (Aa (Aa (Af (Ab (Ac (As (Qm rfl (Qm rfl (Am (Ag ?_))))))))))
    refine Ay (fun n s h' ms'=>∃(k:Nat) (d0:Array CeO) (m:Hp),n=k-i/\s=[(0,v),(14,.int .i64 i),(17,.int .i64 k)]/\h=h'/\ms'=[m]/\i<=k/\k<=t/\OSC m v d0/\ShR d d0 t k/\PermIn a (t+1) d d0)
     (t-i) _ ⟨t,d,m,rfl,rfl,rfl,rfl,by omega,by omega,hO,ShR.start d t,permIn_refl d a (t+1)⟩ Qs ?_
    rintro n s h' ms' ⟨k,d0,m0,rfl,rfl,rfl,rfl,hik,hkt,hO0,R,P⟩;have hds:=R.1;refine Ac (As (Qm rfl (Qm rfl (Qm rfl (Am ?_)))));refine Aq rfl (fun hltk=>?_) (fun hltk=>?_)
    ·have st:ShR d (Go.Sort.swp d0 k (k-1)) t (k-1):=by
      obtain⟨k',rfl⟩:∃k',k=k'+1:=⟨k-1,by omega⟩
      exact R.step (by omega) (by omega)
     have e:(k:Int)-1=((k-1:Nat):Int):=by omega
     refine Ah (Ab (Ac (Ag (DJ 14 [false,false,true,true,true] CS (by kernel_rfl) (by kernel_rfl) (by kernel_rfl) (DW rfl rfl rfl rfl (Ci rfl rfl) (DW rfl rfl rfl rfl (Ci rfl rfl) (DW rfl rfl rfl rfl (MS rfl rfl rfl (by omega)) ?_)))))));refine⟨rfl,?_⟩;simp only[Ed,zap,cons_append,nil_append,take_succ_cons,take_zero,drop_succ_cons,drop_zero,List.take_nil,List.drop_nil];refine Wm rfl (Wm rfl (DY rfl rfl rfl (DY rfl rfl rfl (DY rfl rfl rfl (Wm rfl (Wm rfl (AR (oS rfl) rfl rfl (AR (AE (k-1) (hO0.rd (.head _)) rfl Bh AI rfl rfl (by omega) (by omega)) rfl rfl (AR (oG rfl Ef AI (hO0.get (.head _) (by omega))) rfl rfl (Wm rfl (Wm rfl (AR (AE (k) (hO0.rd (.head _)) rfl Bh AI rfl rfl (by omega) (by omega)) rfl rfl (AR (oG rfl Ef AI (hO0.get (.head _) (by omega))) rfl rfl (AY (Qx (AE (k) (hO0.rd (.head _)) rfl Bh AI rfl rfl (by omega) (by omega)) rfl (Dr 0 _ hO0 rfl AI rfl rfl rfl (by omega) rfl rfl (fun mhO1 hzhO1 hO1=>Qx (AE (k-1) (hO1.rd (.head _)) rfl Bh AI rfl rfl (by omega) (by omega)) rfl (Dr 0 _ hO1 rfl AI rfl rfl rfl (by omega) rfl rfl (fun mhO2 hzhO2 hO2=>Ak (HQ (Ai (Ab (Ad (Qm rfl (Qx (oS rfl) rfl (Qm rfl (Ak ?_)))))))))))))))))))))))))));rw[e];exact Al (k-1-i) _ (by omega) ⟨k-1,_,mhO2,rfl,rfl,rfl,rfl,by omega,by omega,hO2,st,permIn_trans _ _ _ _ _ P (swp_permIn d0 a (t+1) k (k-1) (by omega) (by omega) (by omega) (by omega) (by omega))⟩ Qs
    ·obtain rfl:k=i:=by omega
     refine Av (Aa (Aa (Af (Ab (An (Ae ?_))))));exact FB rfl (⟨rfl,m0,d0,rfl,hO0,P,L6 Ii hA ⟨hi,hj⟩ c1 c2 R⟩)
  ·refine Ah (Ab (As (Qm rfl (Qm rfl (Qx (oA rfl) rfl (Qx (Ck rfl U3 HE rfl) rfl (Qx (DN (n:=1) rfl rfl rfl (by omega)) rfl (Qx (Ck rfl HE U3 rfl) rfl (Qm rfl (Am ?_))))))))));rw[GN a b (by omega)];obtain⟨mid,hmid⟩:∃mid,mid=(a+b)/2:=⟨_,rfl⟩
   rw[<-hmid];refine As (Qm rfl (Qm rfl (Qx (oA rfl) rfl (Qm rfl (BK (Qm rfl (Qm rfl (Am ?_))))))));refine A9 (fun s h' ms'=>∃(s0 r0:Nat),s=[(0,v),(1,.int .i64 a),(2,.int .i64 t),(3,.int .i64 b),(4,(PI g)),(18,.int .i64 mid),(19,.int .i64 ((mid:Int)+t)),(20,.int .i64 s0),(21,.int .i64 r0)]/\h=h'/\ms'=[m]/\((mid<t/\s0+b=mid+t/\r0=mid)\/(t<=mid/\s0=a/\r0=t))) ?_ (fun s h ms hI=>?_)
   ·refine Ac (Ad (Qm rfl (Qm rfl (Qm rfl (Am ?_)))));refine Aq rfl (fun hgt=>?_) (fun hgt=>?_)
    ·refine Ac (Ad (Qm rfl (Qm rfl (Qx (oS rfl) rfl (Qm rfl (Gm (Qm rfl (Qm rfl (Ak ?_)))))))));have e:(mid:Int)+t-b=((mid+t-b:Nat):Int):=by omega
     rw[e];exact AD _ ⟨mid+t-b,mid,rfl,rfl,rfl,.inl ⟨by omega,by omega,rfl⟩⟩ Qs
    ·refine Ac (Ad (Qm rfl (Qm rfl (Gm (Qm rfl (Qm rfl (Ak ?_)))))));exact AD _ ⟨a,t,rfl,rfl,rfl,.inr ⟨by omega,rfl,rfl⟩⟩ Qs
   ·obtain⟨s0,r0,rfl,rfl,rfl,hc⟩:=hI;refine As (Qm rfl (Qx (oS rfl) rfl (Qm rfl (Am (Ac (Ag ?_))))))
    refine Ay (fun n s h' ms'=>∃(i j:Nat),n=j-i/\s=[(0,v),(1,.int .i64 a),(2,.int .i64 t),(3,.int .i64 b),(4,(PI g)),(18,.int .i64 mid),(19,.int .i64 ((mid:Int)+t)),(20,.int .i64 i),(21,.int .i64 j),(22,.int .i64 ((mid:Int)+t-1))]/\h=h'/\ms'=[m]/\s0<=i/\i<=j/\j<=r0/\(i=s0\/CI d[mid+t-i]! d[i-1]! = false)/\(j=r0\/CI d[mid+t-1-j]! d[j]! = true))
     (r0-s0) _ ⟨s0,r0,rfl,rfl,rfl,rfl,by omega,by omega,by omega,.inl rfl,.inl rfl⟩ Qs ?_
    rintro n s h' ms' ⟨i,j,rfl,rfl,rfl,rfl,hi,hij,hj,c1,c2⟩;refine Ac (As (Qm rfl (Qm rfl (Qm rfl (Am ?_)))));refine Aq rfl (fun hlt=>?_) (fun hlt=>?_)
    ·refine Ah (Ab (Ag (As (Qm rfl (Qm rfl (Qx (oA rfl) rfl (Qx (Ck rfl U3 HE rfl) rfl (Qx (DN (n:=1) rfl rfl rfl (by omega)) rfl (Qx (Ck rfl HE U3 rfl) rfl (Qm rfl (Am ?_)))))))))));rw[GN i j (by omega)];refine Ac (Bc 11 CS (by kernel_rfl) rfl (Wm rfl (Wm rfl (Wm rfl (Wm rfl (AR (oS rfl) rfl rfl (AR (AE (mid+t-1-(i+j)/2) (hO.rd (.head _)) rfl Bh AI rfl rfl (by omega) (by omega)) rfl rfl (AR (oG rfl Ef AI (hO.get (.head _) (by omega))) rfl rfl (Wm rfl (Wm rfl (AR (AE ((i+j)/2) (hO.rd (.head _)) rfl Bh AI rfl rfl (by omega) (by omega)) rfl rfl (AR (oG rfl Ef AI (hO.get (.head _) (by omega))) rfl rfl (AY (Qx (Cj rfl rfl call196 rfl (M4 _ _ _ g hg _)) rfl (Qm rfl (Qm rfl (Am ?_)))))))))))))))));refine Bz rfl (fun hl=>?_) (fun hl=>?_)
     ·have hl:CI d[mid+t-1-(i+j)/2]! d[(i+j)/2]! = false:=by unfold CI;simpa using hl
      refine Ad (Qm rfl (Qx (oA rfl) rfl (Qm rfl (Ak (Ai ?_)))));exact Al (j-((i+j)/2+1)) _ (by omega) ⟨(i+j)/2+1,j,rfl,rfl,rfl,rfl,by omega,by omega,by omega,.inr (by rw[Nat.add_sub_cancel,show mid+t-((i+j)/2+1)=mid+t-1-(i+j)/2 by omega];exact hl),c2⟩ Qs
     ·have hl:CI d[mid+t-1-(i+j)/2]! d[(i+j)/2]! = true:=by unfold CI;simpa using hl
      refine Ad (Qm rfl (Qm rfl (Ak (Ai ?_))));exact Al ((i+j)/2-i) _ (by omega) ⟨i,(i+j)/2,rfl,rfl,rfl,rfl,by omega,by omega,by omega,c1,.inr hl⟩ Qs
    ·obtain rfl:i=j:=by omega
     obtain⟨e,he⟩:∃e,e=mid+t-i:=⟨_,rfl⟩
     have he2:(mid:Int)+t-i=(e:Int):=by omega
     refine Av (Aa (Aa (Af (Ab (As (Qm rfl (Qm rfl (Qx (oS rfl) rfl (Qm rfl (Am ?_))))))))));rw[he2]
     have k1:i=a\/e=b\/CI d[e]! d[i-1]! = false:=by
      rcases c1 with c|c
      ·rcases hc with hc|hc
       ·right;left;omega
       ·left;omega
      ·right;right;rw[he];exact c
     have k2:i=t\/e=t\/CI d[e-1]! d[i]! = true:=by
      rcases c2 with c|c
      ·rcases hc with hc|hc
       ·right;left;omega
       ·left;omega
      ·right;right;rw[show e-1=mid+t-1-i by omega];exact c
     have hgeo:a<=i/\i<=t/\i<=mid/\t<=e/\e<=b:=by rcases hc with hc|hc<;>omega
     have hs2:i+e=mid+t:=by omega
     refine A9 (fun s h' ms'=>∃(d1:Array CeO) (m1:Hp),s=[(0,v),(1,.int .i64 a),(3,.int .i64 b),(4,(PI g)),(18,.int .i64 mid),(20,.int .i64 i),(24,.int .i64 e)]/\h=h'/\ms'=[m1]/\OSC m1 v d1/\(∀k,d1[k]! = Fe d i t e k)/\PermIn a b d d1) ?_ (fun s h ms hI=>?_)
     ·refine Ac (Ad (Qm rfl (Qm rfl (Qm rfl (Qm rfl ?_)))));refine AQ (t:=181) rfl (fun q1=>?_) (fun q1=>?_)
      ·refine Qg (Au rfl rfl) rfl (Qg (Au rfl rfl) rfl (Qg (Dg rfl rfl rfl) rfl (Qm rfl (Am ?_))));refine Aq rfl (fun q2=>?_) (fun q2=>?_)
       ·refine Ad (Qm rfl (Qm rfl (Qm rfl (Qm rfl (Qm rfl (Bb (pre:=[m]) rfl call298 rfl (PP d v (PI g) m hO i t e a b (by omega) (by omega) (by omega) (by omega) (by omega) (by omega) (by omega) h rfl rfl rfl) rfl rfl rfl rfl (fun r h1 ms1 l1 hF=>?_)))))));obtain⟨rfl,m1,d1,rfl,hO1,hr,P⟩:=hF;refine Ak ?_;exact AD _ ⟨d1,m1,rfl,rfl,rfl,hO1,hr,P⟩ Qs
       ·refine Ah ?_;exact AD _ ⟨d,m,rfl,rfl,rfl,hO,fun k=>(Ho (by omega) k).symm,permIn_refl d a b⟩ Qs
      ·refine Qk rfl (Qk rfl (Qk rfl (Qm rfl (Am (AP rfl (Ah ?_))))));exact AD _ ⟨d,m,rfl,rfl,rfl,hO,fun k=>(Ho (by omega) k).symm,permIn_refl d a b⟩ Qs
     ·obtain⟨d1,m1,rfl,rfl,rfl,hO1,hr,P⟩:=hI;have C:=WW Ii hA hB hgeo hs2 hr k1 k2;have hd1:=P.1;refine A9 (fun s h' ms'=>∃(d2:Array CeO) (m2:Hp),s=[(0,v),(3,.int .i64 b),(4,(PI g)),(18,.int .i64 mid),(24,.int .i64 e)]/\h=h'/\ms'=[m2]/\OSC m2 v d2/\PermIn a mid d1 d2/\SortedIn CI a mid d2) ?_ (fun s h ms hI=>?_)
      ·refine Ac (Ad (Qm rfl (Qm rfl (Qm rfl (Qm rfl ?_)))));refine AQ (t:=195) rfl (fun q1=>?_) (fun q1=>?_)
       ·refine Qg (Au rfl rfl) rfl (Qg (Au rfl rfl) rfl (Qg (Dg rfl rfl rfl) rfl (Qm rfl (Am ?_))));refine Aq rfl (fun q2=>?_) (fun q2=>?_)
        ·refine Ad (Qm rfl (Qm rfl (Qm rfl (Qm rfl (Qm rfl (Bb (pre:=[m1]) rfl call277 rfl (ih d1 v m1 hO1 a i mid (by omega) (by omega) (by omega) (by omega) (by omega) C.lo C.lo2 h g hg rfl rfl rfl) rfl rfl rfl rfl (fun r h1 ms1 l1 hF=>?_)))))));obtain⟨rfl,m2,d2,rfl,hO2,P2,S2⟩:=hF;refine Ak ?_;exact AD _ ⟨d2,m2,rfl,rfl,rfl,hO2,P2,S2⟩ Qs
        ·obtain rfl:i=mid:=by omega
         refine Ah ?_;exact AD _ ⟨d1,m1,rfl,rfl,rfl,hO1,permIn_refl d1 a _,C.lo⟩ Qs
       ·obtain rfl:i=a:=by omega
        refine Qk rfl (Qk rfl (Qk rfl (Qm rfl (Am (AP rfl (Ah ?_))))));exact AD _ ⟨d1,m1,rfl,rfl,rfl,hO1,permIn_refl d1 _ _,C.lo2⟩ Qs
      ·obtain⟨d2,m2,rfl,rfl,rfl,hO2,P2,S2⟩:=hI;have hd2:=P2.1;have f1:SortedIn CI mid e d2:=BL C.hi fun k h1 h2=>P2.2.1 k (.inr h1);have f2:SortedIn CI e b d2:=BL C.hi2 fun k h1 h2=>P2.2.1 k (.inr (by omega))
       have fin:∀d3,PermIn mid b d2 d3->SortedIn CI mid b d3->PermIn a b d d3/\SortedIn CI a b d3:=fun d3 P3 S3=>
        ⟨permIn_trans _ _ _ _ _ P (permIn_trans _ _ _ _ _ (permIn_mono d1 d2 a mid a b (by omega) (by omega) (by omega) P2) (permIn_mono d2 d3 mid b a b (by omega) (by omega) (by omega) P3)),NZ C (by omega) (by omega) P2 S2 P3 S3⟩
       refine As (Qm rfl (Qm rfl (Qm rfl (Qm rfl ?_))));refine AQ (t:=209) rfl (fun q1=>?_) (fun q1=>?_)
       ·refine Qg (Au rfl rfl) rfl (Qg (Au rfl rfl) rfl (Qg (Dg rfl rfl rfl) rfl (Qm rfl (Am ?_))));refine Aq rfl (fun q2=>?_) (fun q2=>?_)
        ·refine Ad (Qm rfl (Qm rfl (Qm rfl (Qm rfl (Qm rfl (Bb (pre:=[m2]) rfl call277 rfl (ih d2 v m2 hO2 mid e b (by omega) (by omega) (by omega) (by omega) (by omega) f1 f2 h g hg rfl rfl rfl) rfl rfl rfl rfl (fun r h1 ms1 l1 hF=>?_)))))));obtain⟨rfl,m3,d3,rfl,hO3,P3,S3⟩:=hF;refine Ak ?_;exact B7 rfl (⟨rfl,m3,d3,rfl,hO3,(fin d3 P3 S3).1,(fin d3 P3 S3).2⟩)
        ·obtain rfl:e=b:=by omega
         refine Ah ?_;exact B7 rfl (⟨rfl,m2,d2,rfl,hO2,(fin d2 (permIn_refl d2 _ _) f1).1,(fin d2 (permIn_refl d2 _ _) f1).2⟩)
       ·obtain rfl:e=mid:=by omega
        refine Qk rfl (Qk rfl (Qk rfl (Qm rfl (Am (AP rfl (Ah ?_))))));exact B7 rfl (⟨rfl,m2,d2,rfl,hO2,(fin d2 (permIn_refl d2 _ _) f2).1,(fin d2 (permIn_refl d2 _ _) f2).2⟩)
def BkC(d:Array CeO)(s n:Nat):Prop:=∀x,s∣x->SortedIn CI x (min (x+s) n) d
theorem Eu{d:Array CeO}{a b b':Nat}(h:SortedIn CI a b d)(hb:b'<=b):SortedIn CI a b' d:=fun i j h1 h2 h3=>h i j h1 h2 (by omega)
theorem Ih{d:Array CeO}{a b:Nat}(hb:b<=a):SortedIn CI a b d:=fun i j h1 h2 h3=>by omega
theorem QO(d:Array CeO)(v:Value)(m:Hp)(hO:OSC m v d)(hsz:d.size<=1000000)(h:Hp)(g:Nat)(hg:Sl h g){n':Int}(en:n'=d.size) :
  FnT Tryz.prog 238 #[v,.int .i64 n',(PI g)] h [m] (fun _ h' ms'=>h=h'/\∃m' d',ms'=[m']/\OSC m' v d'/\PermIn 0 d.size d d'/\SortedIn CI 0 d.size d'):=by
 subst en;obtain⟨n,hn⟩:∃n,n=d.size:=⟨_,rfl⟩
 rw[<-hn];refine Ap func238 ntmps238 rfl rfl (fun w0 hw0=>?_);simp only[AX];refine As (Qm rfl (BK (Qm rfl (Qm rfl (Qm rfl (Am (Ac (Ag ?_))))))))
 refine Ay (fun q s h' ms'=>∃(a:Nat) (d0:Array CeO) (m:Hp),q=n-a/\s=[(0,v),(1,.int .i64 n),(2,(PI g)),(6,.int .i64 20),(7,.int .i64 a),(8,.int .i64 ((a:Int)+20))]/\h=h'/\ms'=[m]/\a<=n/\20∣a/\OSC m v d0/\PermIn 0 n d d0/\∀x,20∣x->x+20<=a->SortedIn CI x (x+20) d0)
  (n-0) _ ⟨0,d,m,rfl,rfl,rfl,rfl,by omega,⟨0,rfl⟩,hO,permIn_refl d 0 n,fun x _ h=>by omega⟩ Qs ?_
 rintro q s h' ms' ⟨a,d0,m0,rfl,rfl,rfl,rfl,han,hda,hO0,P,hB⟩;have hds:=P.1;refine Ac (As (Qm rfl (Qm rfl (Qm rfl (Am ?_)))));refine Aq rfl (fun hle=>?_) (fun hle=>?_)
 ·refine Ah (Ab (Ag (As (Qm rfl (Qm rfl (Qm rfl (Qm rfl (Bb (pre:=[m0]) rfl call240 rfl (O5 d0 v m0 hO0 a (a+20) (by omega) (by omega) (by omega) h g hg rfl (by omega)) rfl rfl rfl rfl (fun r h1 ms1 l1 hF=>?_)))))))));obtain⟨rfl,m1,d1,rfl,hO1,P1,S1⟩:=hF;refine BK (Qm rfl (Qm rfl (Gm (Qm rfl (Qm rfl (Qx (oA rfl) rfl (Qm rfl (Ak (Ai ?_)))))))))
  exact Al (n-(a+20)) _ (by omega) ⟨a+20,d1,m1,rfl,rfl,rfl,rfl,by omega,Nat.dvd_add hda ⟨1,rfl⟩,hO1,permIn_trans _ _ _ _ _ P (permIn_mono d0 d1 a (a+20) 0 n (by omega) (by omega) (by omega) P1),fun x hx hx2=>by
   rcases Nat.lt_or_ge x a with h1|h1
   ·have:=ET hx hda h1;exact BL (hB x hx this) fun k h2 h3=>P1.2.1 k (.inl (by omega))
   ·obtain rfl:x=a:=by omega
    exact S1⟩ Qs
 ·refine Av (Aa (Aa (Af (Ab (As (Qm rfl (Qm rfl (Qm rfl (Qm rfl (Bb (pre:=[m0]) rfl call240 rfl (O5 d0 v m0 hO0 a n (by omega) (by omega) (by omega) h g hg rfl rfl) rfl rfl rfl rfl (fun r h1 ms1 l1 hF=>?_)))))))))));obtain⟨rfl,m1,d1,rfl,hO1,P1,S1⟩:=hF;have PB:PermIn 0 n d d1:=permIn_trans _ _ _ _ _ P (permIn_mono d0 d1 a n 0 n (by omega) (by omega) (by omega) P1)
  have B1:BkC d1 20 n:=fun x hx=>by
   rcases Nat.lt_trichotomy x a with h1|rfl|h1
   ·have:=ET hx hda h1;exact Eu (BL (hB x hx this) fun k h2 h3=>P1.2.1 k (.inl (by omega))) (by omega)
   ·exact Eu S1 (by omega)
   ·have:=ET hda hx h1;exact Ih (by omega)
  refine Am (Ag ?_)
  refine Ay (fun q s h' ms'=>∃(w:Nat) (d0:Array CeO) (m:Hp),q=n-w/\s=[(0,v),(1,.int .i64 n),(2,(PI g)),(6,.int .i64 w)]/\h=h'/\ms'=[m]/\1<=w/\w<=4000000/\OSC m v d0/\PermIn 0 n d d0/\BkC d0 w n)
   (n-20) _ ⟨20,d1,m1,rfl,rfl,rfl,rfl,by omega,by omega,hO1,PB,B1⟩ Qs ?_
  rintro q s h' ms' ⟨w,d2,m2,rfl,rfl,rfl,rfl,hw1,hw2,hO2,P2,B2⟩;have hd2:=P2.1;refine Ac (As (Qm rfl (Qm rfl (Qm rfl (Am ?_)))));refine Aq rfl (fun hlt=>?_) (fun hlt=>?_)
  ·refine Ah (Ab (Ag (As (Qm rfl (Qx (oM rfl) rfl (Qm rfl (Qm rfl (Am (Ac (Ag ?_))))))))))
   refine Ay (fun q s h' ms'=>∃(a:Nat) (z:Int) (d0:Array CeO) (m:Hp),q=n-a/\s=[(0,v),(1,.int .i64 n),(2,(PI g)),(6,.int .i64 w),(7,.int .i64 a),(8,.int .i64 z)]/\h=h'/\ms'=[m]/\z=a+2*w/\a<=n/\2*w∣a/\OSC m v d0/\PermIn 0 n d d0/\(∀x,2*w∣x->x+2*w<=a->SortedIn CI x (x+2*w) d0)/\∀x,w∣x->a<=x->SortedIn CI x (min (x+w) n) d0)
    (n-0) _ ⟨0,2*(w:Int),d2,m2,rfl,rfl,rfl,rfl,by omega,by omega,⟨0,rfl⟩,hO2,P2,fun x _ h=>by omega,fun x hx _=>B2 x hx⟩ Qs ?_
   rintro q s h' ms' ⟨a,z,d3,m3,rfl,rfl,rfl,rfl,rfl,han,hda,hO3,P3,hL,hR⟩;have hd3:=P3.1;have hwa:w∣a:=Nat.dvd_trans ⟨2,Nat.mul_comm 2 w⟩ hda;have hwa2:w∣a+w:=Nat.dvd_add hwa (Nat.dvd_refl w);have hwa3:2*w∣a+2*w:=Nat.dvd_add hda (Nat.dvd_refl _);have s1:=hR a hwa (Nat.le_refl _);have s2:=hR (a+w) hwa2 (by omega);refine Ac (As (Qm rfl (Qm rfl (Qm rfl (Am ?_)))));refine Aq rfl (fun hle2=>?_) (fun hle2=>?_)
   ·rw[show min (a+w) n=a+w by omega]at s1;rw[show min (a+w+w) n=a+2*w by omega]at s2;refine Ah (Ab (Ag (As (Qm rfl (Qm rfl (Qm rfl (Qm rfl (Qx (oA rfl) rfl (Qm rfl (Qm rfl (Bb (pre:=[m3]) rfl call277 rfl (Iy (2*w) d3 v m3 hO3 a (a+w) (a+2*w) (by omega) (by omega) (by omega) (by omega) (by omega) s1 s2 h g hg rfl (by omega) (by omega)) rfl rfl rfl rfl (fun r h1 ms1 l1 hF=>?_))))))))))));obtain⟨rfl,m4,d4,rfl,hO4,P4,S4⟩:=hF;refine BK (Qm rfl (Qm rfl (Gm (Qm rfl (Qm rfl (Qx (oM rfl) rfl (Qx (oA rfl) rfl (Qm rfl (Ak (Ai ?_))))))))))
    exact Al (n-(a+2*w)) _ (by omega) ⟨a+2*w,(a:Int)+2*w+2*w,d4,m4,rfl,rfl,rfl,rfl,by omega,by omega,hwa3,hO4,permIn_trans _ _ _ _ _ P3 (permIn_mono d3 d4 a (a+2*w) 0 n (by omega) (by omega) (by omega) P4),fun x hx hx2=>by
     rcases Nat.lt_or_ge x a with h1|h1
     ·have:=ET hx hda h1;exact BL (hL x hx this) fun k h2 h3=>P4.2.1 k (.inl (by omega))
     ·obtain rfl:x=a:=by omega
      exact S4,fun x hx hx2=>BL (hR x hx (by omega)) fun k h2 h3=>P4.2.1 k (.inr (by omega))⟩ Qs
   ·have fin:∀d4,PermIn a n d3 d4->SortedIn CI a n d4->PermIn 0 n d d4/\BkC d4 (w*2) n:=fun d4 P4 S4=>⟨permIn_trans _ _ _ _ _ P3 (permIn_mono d3 d4 a n 0 n (by omega) (by omega) (by omega) P4),fun x hx=>by
     rw[Nat.mul_comm]at hx ⊢;rcases Nat.lt_trichotomy x a with h1|rfl|h1
     ·have:=ET hx hda h1;exact Eu (BL (hL x hx this) fun k h2 h3=>P4.2.1 k (.inl (by omega))) (by omega)
     ·exact Eu S4 (by omega)
     ·have:=ET hda hx h1
      exact Ih (by omega)⟩
    refine Av (Aa (Aa (Af (Ab (Ac (As (Qm rfl (Qm rfl (Qx (oA rfl) rfl (Qm rfl (BK (Qm rfl (Qm rfl (Qm rfl (Am ?_)))))))))))))));refine Aq rfl (fun hm=>?_) (fun hm=>?_)
    ·rw[show min (a+w) n=a+w by omega]at s1;rw[show min (a+w+w) n=n by omega]at s2;refine Ad (Qm rfl (Qm rfl (Qm rfl (Qm rfl (Qm rfl (Bb (pre:=[m3]) rfl call277 rfl (Iy (2*w) d3 v m3 hO3 a (a+w) n (by omega) (by omega) (by omega) (by omega) (by omega) s1 s2 h g hg rfl (by omega) rfl) rfl rfl rfl rfl (fun r h1 ms1 l1 hF=>?_)))))));obtain⟨rfl,m4,d4,rfl,hO4,P4,S4⟩:=hF;have:=fin d4 P4 S4;refine Gm (Qm rfl (Qx (oM rfl) rfl (Qm rfl (Ak (Ai ?_)))));exact Al (n-w*2) _ (by omega) ⟨w*2,d4,m4,rfl,rfl,rfl,rfl,by omega,by omega,hO4,this.1,this.2⟩ Qs
    ·rw[show min (a+w) n=n by omega]at s1;have:=fin d3 (permIn_refl d3 a n) s1;refine Ah (Ab (Ad (Qm rfl (Qx (oM rfl) rfl (Qm rfl (Ak (Ai ?_)))))));exact Al (n-w*2) _ (by omega) ⟨w*2,d3,m3,rfl,rfl,rfl,rfl,by omega,by omega,hO3,this.1,this.2⟩ Qs
  ·refine Av (Aa (Aa (Af ?_)));exact B7 rfl (⟨rfl,m2,d2,rfl,hO2,P2,by have:=B2 0 ⟨0,rfl⟩;rwa [show min (0+w) n=n by omega]at this⟩)
theorem Lf(d:Array CeO)(v:Value)(m:Hp)(hO:OSC m v d)(hsz:d.size<=1000000)(h:Hp)(g:Nat)(hg:Sl h g) :
  FnT Tryz.prog 195 #[v,(PI g)] h [m] (fun _ h' ms'=>h=h'/\∃m' d',ms'=[m']/\OSC m' v d'/\PermIn 0 d.size d d'/\SortedIn CI 0 d.size d'):=by
 refine Ap func195 ntmps195 rfl rfl (fun w0 hw0=>?_);simp only[AX];refine Ad (Qm rfl (Qm rfl (Qx (Ar (hO.rd (.head _)) rfl Bh rfl) rfl (Qm rfl (Bb (pre:=[m]) rfl call238 rfl (QO d v m hO hsz h g hg rfl) rfl rfl rfl rfl (fun r h1 ms1 l1 hF=>?_))))));obtain⟨rfl,m4,d4,rfl,hO4,P4,S4⟩:=hF;refine Ak ?_;exact B7 rfl (⟨rfl,m4,d4,rfl,hO4,P4,S4⟩)
variable {m h:Hp} {v:Value} {d:Array Io} {ms:List Hp}
abbrev OSD(m:Hp)(v:Value)(d:Array Io):Prop:=OwnL cD 2 119 m v d.toList
theorem OSD.rd(O:OSD m v d)(hm:m∈ms):Rd h ms v 2 d.size (d.toList.flatMap cD):=by have:=(OwnL.rd O hm (h:=h)).rd;rwa [Array.length_toList]at this
theorem OSD.get(O:OSD m v d)(hm:m∈ms){j:Nat}(hj:j<d.size):Seg h ms ((AF v).add (j*2)) (cD d[j]!):=by have:=(OwnL.rd O hm (h:=h)).seg (j:=j) (by simpa using hj);simpa[hj] using this
theorem Dv{e:Entry}{Q:Exit->Act->World->Prop}{ops:Array Oper}{rest:List Oper}{o:Oper}{s:AB}{t:TypeId}{x y:Operand}{z:Value}{bytes:Nat}{a:Io}(i j:Nat)(O:OSD m v d)(ho:o.op=.store t x y)(hs:Elem e.P t 2 z bytes)(hx:ev s x=some (.pointer (some ((AF v).add (j*2)))))(hy:ev s y=some (.agg (cD a).toArray))
  (hm:ms[i]?=some m) (hj:j<d.size) (hd:o.dst=none) (hg:o.guard=none)
  (K:∀m',(d.setIfInBounds j a).size=d.size->OSD m' v (d.setIfInBounds j a)->WL e ops Q rest s h (ms.set i m')):WL e ops Q (o::rest) s h ms:=
 Ee i j a O ho hs hx hy rfl (Ga a) hm (by simpa using hj) hd hg fun m' O'=>K m' (by simp) (by
  show OwnL cD 2 119 m' v (d.setIfInBounds j a).toList
  rw[Array.toList_setIfInBounds];exact O')
theorem FF(d:Array Io)(v cv:Value)(m:Hp)(hO:OSD m v d)(a b n lo hi:Nat)(hab:a+n<=b)(hb:b+n<=d.size)(hsz:d.size<=1000000)(hlo:lo<=a)(hhi:b+n<=hi)(hhs:hi<=d.size)(h:Hp){a' b' n':Int}(ea:a'=a)(eb:b'=b)(en:n'=n) :
  FnT Tryz.prog 309 #[v,.int .i64 a',.int .i64 b',.int .i64 n',cv] h [m] (fun _ h' ms'=>h=h'/\∃m' d',ms'=[m']/\OSD m' v d'/\SwR d d' a b n/\PermIn lo hi d d'):=by
 subst ea eb en;refine Ap func309 ntmps309 rfl rfl (fun w0 hw0=>?_);simp only[AX];refine As (Qm rfl (Am (Ag ?_)))
 refine Ay (fun q s h' ms'=>∃(i:Nat) (d0:Array Io) (m:Hp),q=n-i/\s=[(0,v),(1,.int .i64 a),(2,.int .i64 b),(3,.int .i64 n),(10,.int .i64 i)]/\h=h'/\ms'=[m]/\i<=n/\OSD m v d0/\SwR d d0 a b i/\PermIn lo hi d d0)
  (n-0) _ ⟨0,d,m,rfl,rfl,rfl,rfl,by omega,hO,SwR.start d a b,permIn_refl d lo hi⟩ Qs ?_
 rintro q s h' ms' ⟨i,d0,m0,rfl,rfl,rfl,rfl,hi2,hO0,S,P⟩;have hds:=S.1;refine Ac (As (Qm rfl (Qm rfl (Qm rfl (Am ?_)))));refine Aq rfl (fun hlt=>?_) (fun hlt=>?_)
 ·refine Ah (Ab (Ac (Ag (DJ 20 [false,false,false,false,true,true,true,true] CS (by kernel_rfl) (by kernel_rfl) (by kernel_rfl) (DW rfl rfl rfl rfl (Ci rfl rfl) (DW rfl rfl rfl rfl (Ci rfl rfl) (DW rfl rfl rfl rfl (Ci rfl rfl) (DW rfl rfl rfl rfl (M9 rfl rfl rfl (by omega)) ?_))))))));refine⟨rfl,?_⟩;simp only[Ed,zap,cons_append,nil_append,take_succ_cons,take_zero,drop_succ_cons,drop_zero,List.take_nil,List.drop_nil];refine Wm rfl (Wm rfl (Wm rfl (AR (oA rfl) rfl rfl (DY rfl rfl rfl (DY rfl rfl rfl (DY rfl rfl rfl (DY rfl rfl rfl (Wm rfl (Wm rfl (Wm rfl (AR (oA rfl) rfl rfl (AR (AE (b+i) (hO0.rd (.head _)) rfl BZ AM rfl rfl (by omega) (by omega)) rfl rfl (AR (oG rfl DX AM (hO0.get (.head _) (by omega))) rfl rfl (Wm rfl (Wm rfl (Wm rfl (AR (oA rfl) rfl rfl (AR (AE (a+i) (hO0.rd (.head _)) rfl BZ AM rfl rfl (by omega) (by omega)) rfl rfl (AR (oG rfl DX AM (hO0.get (.head _) (by omega))) rfl rfl (AY (Qx (AE (a+i) (hO0.rd (.head _)) rfl BZ AM rfl rfl (by omega) (by omega)) rfl (Dv 0 _ hO0 rfl AM rfl rfl rfl (by omega) rfl rfl (fun mhO1 hzhO1 hO1=>Qx (AE (b+i) (hO1.rd (.head _)) rfl BZ AM rfl rfl (by omega) (by omega)) rfl (Dv 0 _ hO1 rfl AM rfl rfl rfl (by omega) rfl rfl (fun mhO2 hzhO2 hO2=>Ak (HQ (Ai (Ab (Ad (Qm rfl (Qx (oA rfl) rfl (Qm rfl (Ak ?_)))))))))))))))))))))))))))))))));refine Al (n-(i+1)) _ (by omega) ⟨i+1,_,mhO2,rfl,rfl,rfl,rfl,by omega,hO2,S.step (by omega) (by omega),permIn_trans _ _ _ _ _ P (swp_permIn d0 lo hi (a+i) (b+i) (by omega) (by omega) (by omega) (by omega) (by omega))⟩ Qs
 ·obtain rfl:i=n:=by omega
  refine Av (Aa (Aa (Af ?_)));exact B7 rfl (⟨rfl,m0,d0,rfl,hO0,S,P⟩)
theorem PM(d:Array Io)(v cv:Value)(m:Hp)(hO:OSD m v d)(a t b lo hi:Nat)(hat:a<t)(htb:t<b)(hb:b<=d.size)(hsz:d.size<=1000000)(hlo:lo<=a)(hhi:b<=hi)(hhs:hi<=d.size)(h:Hp){a' t' b':Int}(ea:a'=a)(et:t'=t)(eb:b'=b) :
  FnT Tryz.prog 299 #[v,.int .i64 a',.int .i64 t',.int .i64 b',cv] h [m] (fun _ h' ms'=>h=h'/\∃m' d',ms'=[m']/\OSD m' v d'/\(∀k,d'[k]! = Fe d a t b k)/\PermIn lo hi d d'):=by
 subst ea et eb;refine Ap func299 ntmps299 rfl rfl (fun w0 hw0=>?_);simp only[AX];refine As (Qm rfl (Qm rfl (Qx (oS rfl) rfl (Qm rfl (BK (Qm rfl (Qm rfl (Qx (oS rfl) rfl (Qm rfl (Am (Ac (Ag ?_))))))))))))
 refine Ay (fun q s h' ms'=>∃(i j:Nat) (x y:Int) (d0:Array Io) (m:Hp),q=i+j/\s=[(0,v),(2,.int .i64 t),(4,cv),(10,.int .i64 x),(11,.int .i64 y)]/\h=h'/\ms'=[m]/\x=i/\y=j/\0<i/\0<j/\a+i<=t/\t+j<=b/\OSD m v d0/\(∀k,Fe d0 (t-i) t (t+j) k=Fe d a t b k)/\PermIn lo hi d d0)
  ((t-a)+(b-t)) _ ⟨t-a,b-t,(t:Int)-a,(b:Int)-t,d,m,rfl,rfl,rfl,rfl,by omega,by omega,by omega,by omega,by omega,by omega,hO,fun k=>by rw[show t-(t-a)=a by omega,show t+(b-t)=b by omega],permIn_refl d lo hi⟩ Qs ?_
 rintro q s h' ms' ⟨i,j,x,y,d0,m0,rfl,rfl,rfl,rfl,rfl,rfl,hi0,hj0,hai,hjb,hO0,hR,P⟩;have hds:=P.1;refine Ac (As (Qm rfl (Qm rfl (Qm rfl (Am ?_)))));refine Aq rfl (fun hne=>?_) (fun hne=>?_)
 ·refine Ah (Ab (Ag (As (Qm rfl (Qm rfl (Qm rfl (Am ?_)))))));refine Aq rfl (fun hgt=>?_) (fun hgt=>?_)
  ·refine Ac (Ad (Qm rfl (Qm rfl (Qm rfl (Qx (oS rfl) rfl (Qm rfl (Qm rfl (Qm rfl (Bb (pre:=[m0]) rfl call309 rfl (FF d0 v cv m0 hO0 (t-i) t j lo hi (by omega) (by omega) (by omega) (by omega) (by omega) (by omega) h (by omega) rfl rfl) rfl rfl rfl rfl (fun r h1 ms1 l1 hF=>?_))))))))));obtain⟨rfl,m1,d1,rfl,hO1,S,P1⟩:=hF;refine Gm (Qm rfl (Qm rfl (Qx (oS rfl) rfl (Qm rfl (Ak (Ai ?_))))));refine Al ((i-j)+j) _ (by omega) ⟨i-j,j,(i:Int)-j,j,d1,m1,rfl,rfl,rfl,rfl,by omega,rfl,by omega,by omega,by omega,by omega,hO1,fun k=>(O9 (by omega) (by omega) S k).trans (hR k),permIn_trans _ _ _ _ _ P P1⟩ Qs
  ·refine Ac (Ad (Qm rfl (Qm rfl (Qm rfl (Qx (oS rfl) rfl (Qm rfl (Qm rfl (Qx (oA rfl) rfl (Qm rfl (Qx (oS rfl) rfl (Qm rfl (Qm rfl (Bb (pre:=[m0]) rfl call309 rfl (FF d0 v cv m0 hO0 (t-i) (t+j-i) i lo hi (by omega) (by omega) (by omega) (by omega) (by omega) (by omega) h (by omega) (by omega) rfl) rfl rfl rfl rfl (fun r h1 ms1 l1 hF=>?_))))))))))))));obtain⟨rfl,m1,d1,rfl,hO1,S,P1⟩:=hF;refine Gm (Qm rfl (Qm rfl (Qx (oS rfl) rfl (Qm rfl (Ak (Ai ?_))))));refine Al (i+(j-i)) _ (by omega) ⟨i,j-i,i,(j:Int)-i,d1,m1,rfl,rfl,rfl,rfl,rfl,by omega,by omega,by omega,by omega,by omega,hO1,fun k=>(Ky (by omega) (by omega) S k).trans (hR k),permIn_trans _ _ _ _ _ P P1⟩ Qs
 ·obtain rfl:i=j:=by omega
  refine Av (Aa (Aa (Af (Ab (Ad (Qm rfl (Qm rfl (Qm rfl (Qx (oS rfl) rfl (Qm rfl (Qm rfl (Qm rfl (Bb (pre:=[m0]) rfl call309 rfl (FF d0 v cv m0 hO0 (t-i) t i lo hi (by omega) (by omega) (by omega) (by omega) (by omega) (by omega) h (by omega) rfl rfl) rfl rfl rfl rfl (fun r h1 ms1 l1 hF=>?_))))))))))))));obtain⟨rfl,m1,d1,rfl,hO1,S,P1⟩:=hF;refine Ak ?_;exact B7 rfl (⟨rfl,m1,d1,rfl,hO1,fun k=>(Oh (by omega) S k).trans (hR k),permIn_trans _ _ _ _ _ P P1⟩)
end Go.Proofs.Q

namespace Go.Proofs.Q
open Go.Proofs.Tryz
open Go.Eng Go.RowKit Go.Lin Go.Sort Go.Srt
theorem OU(d:Array Io)(v:Value)(m:Hp)(hO:OSD m v d)(a b:Nat)(hab:a<=b)(hb:b<=d.size)(hsz:d.size<=1000000)(h:Hp)(g:Nat)(hg:SQ h g){a' b':Int}(ea:a'=a)(eb:b'=b) :
  FnT Tryz.prog 278 #[v,.int .i64 a',.int .i64 b',(PH g)] h [m] (fun _ h' ms'=>h=h'/\∃m' d',ms'=[m']/\OSD m' v d'/\PermIn a b d d'/\SortedIn CJ a b d'):=by
 subst ea eb;have hfin:=insertionSort_holds (lt:=CJ) IB d a b hab hb;refine Ap func278 ntmps278 rfl rfl (fun w0 hw0=>?_);simp only[AX];refine As (Qm rfl (Qx (oA rfl) rfl (Qm rfl (Am (Ag ?_)))))
 refine Ay (fun n s h' ms'=>∃(i:Nat) (z:Int) (d':Array Io) (m:Hp),n=b-i/\s=[(0,v),(1,.int .i64 a),(2,.int .i64 b),(3,(PH g)),(8,.int .i64 z)]/\h=h'/\ms'=[m]/\z=i/\a<i/\i<=4611686018427387905/\OSD m v d'/\d'.size=d.size/\insOuter CJ a b i d'=insertionSort CJ d a b)
  _ _ ⟨a+1,(a:Int)+1,d,m,rfl,rfl,rfl,rfl,by omega,by omega,by omega,hO,rfl,rfl⟩ Qs ?_
 rintro n s h' ms' ⟨i,z,d',m,rfl,rfl,rfl,rfl,hz,hai,hi,hO,hds,hR⟩;refine Ac (As (Qm rfl (Qm rfl (Qm rfl (Am ?_)))));refine Aq rfl (fun hlt=>?_) (fun hlt=>?_)
 ·refine Ah (Ab (Ac (Ag (As (Qm rfl (Qm rfl (Am (Ag ?_))))))))
  refine Ay (fun n s h' ms'=>∃(j:Nat) (y:Int) (d':Array Io) (m:Hp),j=n/\s=[(0,v),(1,.int .i64 a),(2,.int .i64 b),(3,(PH g)),(8,.int .i64 z),(9,.int .i64 y)]/\h=h'/\ms'=[m]/\y=j/\j<=i/\OSD m v d'/\d'.size=d.size/\insOuter CJ a b (i+1) (insInner CJ a j d')=insertionSort CJ d a b)
   _ _ ⟨i,z,d',m,rfl,rfl,rfl,rfl,hz,by omega,hO,hds,by rw[<-hR];conv=>rhs;unfold insOuter;rw[if_pos (by omega)]⟩ Qs ?_
  rintro n s h' ms' ⟨j,y,d1,m1,rfl,rfl,rfl,rfl,hy,hji,hO1,hds1,hR1⟩;refine Ac (Ac (Bc 14 CS (by kernel_rfl) rfl (Wm rfl (Wm rfl (Wm rfl (Wm rfl ?_))))));refine Cs (t:=21) rfl (fun hja=>?_) (fun hja=>?_)
  ·refine AG (Au rfl rfl) rfl rfl rfl rfl (AG (Au rfl rfl) rfl rfl rfl rfl (AG (Au rfl rfl) rfl rfl rfl rfl (AG (AE (j) (hO1.rd (.head _)) rfl BZ AM rfl rfl (by omega) (by omega)) rfl rfl rfl rfl (AG (oG rfl DX AM (hO1.get (.head _) (by omega))) rfl rfl rfl rfl (AG (Au rfl rfl) rfl rfl rfl rfl (AG (Au rfl rfl) rfl rfl rfl rfl (AG (oS rfl) rfl rfl rfl rfl (AG (AE (j-1) (hO1.rd (.head _)) rfl BZ AM rfl rfl (by omega) (by omega)) rfl rfl rfl rfl (AG (oG rfl DX AM (hO1.get (.head _) (by omega))) rfl rfl rfl rfl (AY (Qg (Cj rfl rfl call199 rfl (NC _ _ _ g hg _)) rfl (Qg (Dg rfl rfl rfl) rfl (Qm rfl (Am ?_))))))))))))));refine Bz rfl (fun hl=>?_) (fun hl=>?_)
   ·refine Ah (Ab (Ac (Ag (DJ 14 [false,false,true,true,true] CS (by kernel_rfl) (by kernel_rfl) (by kernel_rfl) (DW rfl rfl rfl rfl (Ci rfl rfl) (DW rfl rfl rfl rfl (Ci rfl rfl) (DW rfl rfl rfl rfl (MS rfl rfl rfl (by omega)) ?_)))))));refine⟨rfl,?_⟩;simp only[Ed,zap,cons_append,nil_append,take_succ_cons,take_zero,drop_succ_cons,drop_zero,List.take_nil,List.drop_nil];refine Wm rfl (Wm rfl (DY rfl rfl rfl (DY rfl rfl rfl (DY rfl rfl rfl (Wm rfl (Wm rfl (AR (oS rfl) rfl rfl (AR (AE (j-1) (hO1.rd (.head _)) rfl BZ AM rfl rfl (by omega) (by omega)) rfl rfl (AR (oG rfl DX AM (hO1.get (.head _) (by omega))) rfl rfl (Wm rfl (Wm rfl (AR (AE (j) (hO1.rd (.head _)) rfl BZ AM rfl rfl (by omega) (by omega)) rfl rfl (AR (oG rfl DX AM (hO1.get (.head _) (by omega))) rfl rfl (AY (Qx (AE (j) (hO1.rd (.head _)) rfl BZ AM rfl rfl (by omega) (by omega)) rfl (Dv 0 _ hO1 rfl AM rfl rfl rfl (by omega) rfl rfl (fun mhO2 hzhO2 hO2=>Qx (AE (j-1) (hO2.rd (.head _)) rfl BZ AM rfl rfl (by omega) (by omega)) rfl (Dv 0 _ hO2 rfl AM rfl rfl rfl (by omega) rfl rfl (fun mhO3 hzhO3 hO3=>Ak (HQ (Ai (Ab (Ad (Qm rfl (Qx (oS rfl) rfl (Qm rfl (Ak ?_)))))))))))))))))))))))))));obtain⟨j',rfl⟩:∃j',j=j'+1:=⟨j-1,by omega⟩
    refine Al j' _ (by omega) ⟨j',y-1,_,mhO3,rfl,rfl,rfl,rfl,by omega,by omega,hO3,by simp[hds1],?_⟩ Qs;rw[<-hR1]
    conv=>rhs;unfold insInner
    rw[if_pos (by rw[Bool.and_eq_true];exact⟨decide_eq_true (by omega),hl⟩)];rfl
   ·refine Av (Aa (Aa (Af (Ai (Ab (Ad (Qm rfl (Qx (oA rfl) rfl (Qm rfl (Ak ?_))))))))));refine Al (b-(i+1)) _ (by omega) ⟨i+1,z+1,d1,m1,rfl,rfl,rfl,rfl,by omega,by omega,by omega,hO1,hds1,?_⟩ Qs;rw[<-hR1];obtain⟨j',rfl⟩:∃j',j=j'+1:=⟨j-1,by omega⟩
    conv=>rhs;unfold insInner
    rw[if_neg (by rw[Bool.and_eq_true];rintro⟨_,h2⟩;exact absurd (hl.symm.trans h2) (by decide))]
  ·refine Aw rfl rfl rfl rfl rfl (Aw rfl rfl rfl rfl rfl (Aw rfl rfl rfl rfl rfl (Aw rfl rfl rfl rfl rfl (Aw rfl rfl rfl rfl rfl (Aw rfl rfl rfl rfl rfl (Aw rfl rfl rfl rfl rfl (Aw rfl rfl rfl rfl rfl (Aw rfl rfl rfl rfl rfl (Aw rfl rfl rfl rfl rfl (AY (Qk rfl (Qk rfl (Qm rfl (Am (AP rfl (Av (Aa (Aa (Af (Ai (Ab (Ad (Qm rfl (Qx (oA rfl) rfl (Qm rfl (Ak ?_))))))))))))))))))))))))));refine Al (b-(i+1)) _ (by omega) ⟨i+1,z+1,d1,m1,rfl,rfl,rfl,rfl,by omega,by omega,by omega,hO1,hds1,?_⟩ Qs;rw[<-hR1];cases j with
   | zero=>rfl
   | succ j'=>
    conv=>rhs;unfold insInner
    rw[if_neg (by simp;intro h';omega)]
 ·refine Av (Aa (Aa (Af ?_)));exact B7 rfl (⟨rfl,m,insertionSort CJ d a b,rfl,by rw[<-hR];unfold insOuter;rw[if_neg (by omega)];exact hO,hfin.1,hfin.2⟩)
theorem Im:∀(N:Nat) (d:Array Io) (v:Value) (m:Hp) (hO:OSD m v d) (a t b:Nat) (hN:b-a<=N) (hat:a<t) (htb:t<b) (hb:b<=d.size) (hsz:d.size<=1000000) (hA:SortedIn CJ a t d) (hB:SortedIn CJ t b d) (h:Hp) (g:Nat) (hg:SQ h g) {a' t' b':Int} (ea:a'=a) (et:t'=t) (eb:b'=b),
  FnT Tryz.prog 279 #[v,.int .i64 a',.int .i64 t',.int .i64 b',(PH g)] h [m] (fun _ h' ms'=>h=h'/\∃m' d',ms'=[m']/\OSD m' v d'/\PermIn a b d d'/\SortedIn CJ a b d'):=by
 intro N
 induction N with
 | zero=>intro d v m hO a t b hN hat htb;omega
 | succ N ih=>
 intro d v m hO a t b hN hat htb hb hsz hA hB h g hg a' t' b' ea et eb;subst ea et eb;refine Ap func279 ntmps279 rfl rfl (fun w0 hw0=>?_);simp only[AX];refine Ac (As (Qm rfl (Qm rfl (Qx (oS rfl) rfl (Qm rfl (Am ?_))))));refine Aq rfl (fun h1=>?_) (fun h1=>?_)
 ·-- one element on the left
  obtain rfl:t=a+1:=by omega
  refine As (Qm rfl (Qm rfl (BK (Qm rfl (Qm rfl (Am (Ac (Ag ?_))))))))
  refine Ay (fun n s h' ms'=>∃(i j:Nat),n=j-i/\s=[(0,v),(1,.int .i64 a),(4,(PH g)),(10,.int .i64 i),(11,.int .i64 j)]/\h=h'/\ms'=[m]/\a+1<=i/\i<=j/\j<=b/\(i=a+1\/CJ d[i-1]! d[a]! = true)/\(j=b\/CJ d[j]! d[a]! = false))
   (b-(a+1)) _ ⟨a+1,b,rfl,rfl,rfl,rfl,by omega,by omega,by omega,.inl rfl,.inl rfl⟩ Qs ?_
  rintro n s h' ms' ⟨i,j,rfl,rfl,rfl,rfl,hi,hij,hj,c1,c2⟩;refine Ac (As (Qm rfl (Qm rfl (Qm rfl (Am ?_)))));refine Aq rfl (fun hlt=>?_) (fun hlt=>?_)
  ·refine Ah (Ab (Ag (As (Qm rfl (Qm rfl (Qx (oA rfl) rfl (Qx (Ck rfl U3 HE rfl) rfl (Qx (DN (n:=1) rfl rfl rfl (by omega)) rfl (Qx (Ck rfl HE U3 rfl) rfl (Qm rfl (Am ?_)))))))))));rw[GN i j (by omega)];refine Ac (Bc 9 CS (by kernel_rfl) rfl (Wm rfl (Wm rfl (Wm rfl (AR (AE ((i+j)/2) (hO.rd (.head _)) rfl BZ AM rfl rfl (by omega) (by omega)) rfl rfl (AR (oG rfl DX AM (hO.get (.head _) (by omega))) rfl rfl (Wm rfl (Wm rfl (AR (AE (a) (hO.rd (.head _)) rfl BZ AM rfl rfl (by omega) (by omega)) rfl rfl (AR (oG rfl DX AM (hO.get (.head _) (by omega))) rfl rfl (AY (Qx (Cj rfl rfl call199 rfl (NC _ _ _ g hg _)) rfl (Qm rfl (Am ?_))))))))))))));refine Bz rfl (fun hl=>?_) (fun hl=>?_)
   ·refine Ad (Qm rfl (Qx (oA rfl) rfl (Qm rfl (Ak (Ai ?_)))));exact Al (j-((i+j)/2+1)) _ (by omega) ⟨(i+j)/2+1,j,rfl,rfl,rfl,rfl,by omega,by omega,by omega,.inr (by rw[Nat.add_sub_cancel];exact hl),c2⟩ Qs
   ·refine Ad (Qm rfl (Qm rfl (Ak (Ai ?_))));exact Al ((i+j)/2-i) _ (by omega) ⟨i,(i+j)/2,rfl,rfl,rfl,rfl,by omega,by omega,by omega,c1,.inr hl⟩ Qs
  ·obtain rfl:i=j:=by omega
   refine Av (Aa (Aa (Af (Ab (Ac (As (Qm rfl (Qm rfl (Am (Ag ?_))))))))))
   refine Ay (fun n s h' ms'=>∃(k:Nat) (d0:Array Io) (m:Hp),n=i-1-k/\s=[(0,v),(10,.int .i64 i),(13,.int .i64 k)]/\h=h'/\ms'=[m]/\a<=k/\k<=i-1/\OSD m v d0/\InsR d d0 a k/\PermIn a b d d0)
    (i-1-a) _ ⟨a,d,m,rfl,rfl,rfl,rfl,by omega,by omega,hO,InsR.start d a,permIn_refl d a b⟩ Qs ?_
   rintro n s h' ms' ⟨k,d0,m0,rfl,rfl,rfl,rfl,hak,hki,hO0,R,P⟩;have hds:=R.1;refine Ac (As (Qm rfl (Qm rfl (Qx (oS rfl) rfl (Qm rfl (Am ?_))))));refine Aq rfl (fun hltk=>?_) (fun hltk=>?_)
   ·refine Ah (Ab (Ac (Ag (DJ 14 [false,false,true,true,true] CS (by kernel_rfl) (by kernel_rfl) (by kernel_rfl) (DW rfl rfl rfl rfl (Ci rfl rfl) (DW rfl rfl rfl rfl (Ci rfl rfl) (DW rfl rfl rfl rfl (M9 rfl rfl rfl (by omega)) ?_)))))));refine⟨rfl,?_⟩;simp only[Ed,zap,cons_append,nil_append,take_succ_cons,take_zero,drop_succ_cons,drop_zero,List.take_nil,List.drop_nil];refine Wm rfl (Wm rfl (DY rfl rfl rfl (DY rfl rfl rfl (DY rfl rfl rfl (Wm rfl (Wm rfl (AR (oA rfl) rfl rfl (AR (AE (k+1) (hO0.rd (.head _)) rfl BZ AM rfl rfl (by omega) (by omega)) rfl rfl (AR (oG rfl DX AM (hO0.get (.head _) (by omega))) rfl rfl (Wm rfl (Wm rfl (AR (AE (k) (hO0.rd (.head _)) rfl BZ AM rfl rfl (by omega) (by omega)) rfl rfl (AR (oG rfl DX AM (hO0.get (.head _) (by omega))) rfl rfl (AY (Qx (AE (k) (hO0.rd (.head _)) rfl BZ AM rfl rfl (by omega) (by omega)) rfl (Dv 0 _ hO0 rfl AM rfl rfl rfl (by omega) rfl rfl (fun mhO1 hzhO1 hO1=>Qx (AE (k+1) (hO1.rd (.head _)) rfl BZ AM rfl rfl (by omega) (by omega)) rfl (Dv 0 _ hO1 rfl AM rfl rfl rfl (by omega) rfl rfl (fun mhO2 hzhO2 hO2=>Ak (HQ (Ai (Ab (Ad (Qm rfl (Qx (oA rfl) rfl (Qm rfl (Ak ?_)))))))))))))))))))))))))));exact Al (i-1-(k+1)) _ (by omega) ⟨k+1,_,mhO2,rfl,rfl,rfl,rfl,by omega,by omega,hO2,R.step hak (by omega),permIn_trans _ _ _ _ _ P (swp_permIn d0 a b k (k+1) (by omega) (by omega) (by omega) (by omega) (by omega))⟩ Qs
   ·obtain rfl:k=i-1:=by omega
    refine Av (Aa (Aa (Af (Ab (An (Ae ?_))))));exact FB rfl (⟨rfl,m0,d0,rfl,hO0,P,Kl IB hB ⟨hi,hj⟩ c1 c2 R⟩)
 ·refine Ah (Ab (Ac (As (Qm rfl (Qm rfl (Qx (oS rfl) rfl (Qm rfl (Am ?_))))))));refine Aq rfl (fun h2=>?_) (fun h2=>?_)
  ·-- one element on the right
   obtain rfl:b=t+1:=by omega
   refine As (Qm rfl (Qm rfl (BK (Qm rfl (Qm rfl (Am (Ac (Ag ?_))))))))
   refine Ay (fun n s h' ms'=>∃(i j:Nat),n=j-i/\s=[(0,v),(1,.int .i64 a),(2,.int .i64 t),(4,(PH g)),(14,.int .i64 i),(15,.int .i64 j)]/\h=h'/\ms'=[m]/\a<=i/\i<=j/\j<=t/\(i=a\/CJ d[t]! d[i-1]! = false)/\(j=t\/CJ d[t]! d[j]! = true))
    (t-a) _ ⟨a,t,rfl,rfl,rfl,rfl,by omega,by omega,by omega,.inl rfl,.inl rfl⟩ Qs ?_
   rintro n s h' ms' ⟨i,j,rfl,rfl,rfl,rfl,hi,hij,hj,c1,c2⟩;refine Ac (As (Qm rfl (Qm rfl (Qm rfl (Am ?_)))));refine Aq rfl (fun hlt=>?_) (fun hlt=>?_)
   ·refine Ah (Ab (Ag (As (Qm rfl (Qm rfl (Qx (oA rfl) rfl (Qx (Ck rfl U3 HE rfl) rfl (Qx (DN (n:=1) rfl rfl rfl (by omega)) rfl (Qx (Ck rfl HE U3 rfl) rfl (Qm rfl (Am ?_)))))))))));rw[GN i j (by omega)];refine Ac (Bc 9 CS (by kernel_rfl) rfl (Wm rfl (Wm rfl (Wm rfl (AR (AE (t) (hO.rd (.head _)) rfl BZ AM rfl rfl (by omega) (by omega)) rfl rfl (AR (oG rfl DX AM (hO.get (.head _) (by omega))) rfl rfl (Wm rfl (Wm rfl (AR (AE ((i+j)/2) (hO.rd (.head _)) rfl BZ AM rfl rfl (by omega) (by omega)) rfl rfl (AR (oG rfl DX AM (hO.get (.head _) (by omega))) rfl rfl (AY (Qx (Cj rfl rfl call199 rfl (NC _ _ _ g hg _)) rfl (Qm rfl (Qm rfl (Am ?_)))))))))))))));refine Bz rfl (fun hl=>?_) (fun hl=>?_)
    ·have hl:CJ d[t]! d[(i+j)/2]! = false:=by unfold CJ;simpa using hl
     refine Ad (Qm rfl (Qx (oA rfl) rfl (Qm rfl (Ak (Ai ?_)))));exact Al (j-((i+j)/2+1)) _ (by omega) ⟨(i+j)/2+1,j,rfl,rfl,rfl,rfl,by omega,by omega,by omega,.inr (by rw[Nat.add_sub_cancel];exact hl),c2⟩ Qs
    ·have hl:CJ d[t]! d[(i+j)/2]! = true:=by unfold CJ;simpa using hl
     refine Ad (Qm rfl (Qm rfl (Ak (Ai ?_))));exact Al ((i+j)/2-i) _ (by omega) ⟨i,(i+j)/2,rfl,rfl,rfl,rfl,by omega,by omega,by omega,c1,.inr hl⟩ Qs
   ·obtain rfl:i=j:=by omega
    refine Av (Aa (Aa (Af (Ab (Ac (As (Qm rfl (Qm rfl (Am (Ag ?_))))))))))
    refine Ay (fun n s h' ms'=>∃(k:Nat) (d0:Array Io) (m:Hp),n=k-i/\s=[(0,v),(14,.int .i64 i),(17,.int .i64 k)]/\h=h'/\ms'=[m]/\i<=k/\k<=t/\OSD m v d0/\ShR d d0 t k/\PermIn a (t+1) d d0)
     (t-i) _ ⟨t,d,m,rfl,rfl,rfl,rfl,by omega,by omega,hO,ShR.start d t,permIn_refl d a (t+1)⟩ Qs ?_
    rintro n s h' ms' ⟨k,d0,m0,rfl,rfl,rfl,rfl,hik,hkt,hO0,R,P⟩;have hds:=R.1;refine Ac (As (Qm rfl (Qm rfl (Qm rfl (Am ?_)))));refine Aq rfl (fun hltk=>?_) (fun hltk=>?_)
    ·have st:ShR d (Go.Sort.swp d0 k (k-1)) t (k-1):=by
      obtain⟨k',rfl⟩:∃k',k=k'+1:=⟨k-1,by omega⟩
      exact R.step (by omega) (by omega)
     have e:(k:Int)-1=((k-1:Nat):Int):=by omega
     refine Ah (Ab (Ac (Ag (DJ 14 [false,false,true,true,true] CS (by kernel_rfl) (by kernel_rfl) (by kernel_rfl) (DW rfl rfl rfl rfl (Ci rfl rfl) (DW rfl rfl rfl rfl (Ci rfl rfl) (DW rfl rfl rfl rfl (MS rfl rfl rfl (by omega)) ?_)))))));refine⟨rfl,?_⟩;simp only[Ed,zap,cons_append,nil_append,take_succ_cons,take_zero,drop_succ_cons,drop_zero,List.take_nil,List.drop_nil];refine Wm rfl (Wm rfl (DY rfl rfl rfl (DY rfl rfl rfl (DY rfl rfl rfl (Wm rfl (Wm rfl (AR (oS rfl) rfl rfl (AR (AE (k-1) (hO0.rd (.head _)) rfl BZ AM rfl rfl (by omega) (by omega)) rfl rfl (AR (oG rfl DX AM (hO0.get (.head _) (by omega))) rfl rfl (Wm rfl (Wm rfl (AR (AE (k) (hO0.rd (.head _)) rfl BZ AM rfl rfl (by omega) (by omega)) rfl rfl (AR (oG rfl DX AM (hO0.get (.head _) (by omega))) rfl rfl (AY (Qx (AE (k) (hO0.rd (.head _)) rfl BZ AM rfl rfl (by omega) (by omega)) rfl (Dv 0 _ hO0 rfl AM rfl rfl rfl (by omega) rfl rfl (fun mhO1 hzhO1 hO1=>Qx (AE (k-1) (hO1.rd (.head _)) rfl BZ AM rfl rfl (by omega) (by omega)) rfl (Dv 0 _ hO1 rfl AM rfl rfl rfl (by omega) rfl rfl (fun mhO2 hzhO2 hO2=>Ak (HQ (Ai (Ab (Ad (Qm rfl (Qx (oS rfl) rfl (Qm rfl (Ak ?_)))))))))))))))))))))))))));rw[e];exact Al (k-1-i) _ (by omega) ⟨k-1,_,mhO2,rfl,rfl,rfl,rfl,by omega,by omega,hO2,st,permIn_trans _ _ _ _ _ P (swp_permIn d0 a (t+1) k (k-1) (by omega) (by omega) (by omega) (by omega) (by omega))⟩ Qs
    ·obtain rfl:k=i:=by omega
     refine Av (Aa (Aa (Af (Ab (An (Ae ?_))))));exact FB rfl (⟨rfl,m0,d0,rfl,hO0,P,L6 IB hA ⟨hi,hj⟩ c1 c2 R⟩)
  ·refine Ah (Ab (As (Qm rfl (Qm rfl (Qx (oA rfl) rfl (Qx (Ck rfl U3 HE rfl) rfl (Qx (DN (n:=1) rfl rfl rfl (by omega)) rfl (Qx (Ck rfl HE U3 rfl) rfl (Qm rfl (Am ?_))))))))));rw[GN a b (by omega)];obtain⟨mid,hmid⟩:∃mid,mid=(a+b)/2:=⟨_,rfl⟩
   rw[<-hmid];refine As (Qm rfl (Qm rfl (Qx (oA rfl) rfl (Qm rfl (BK (Qm rfl (Qm rfl (Am ?_))))))));refine A9 (fun s h' ms'=>∃(s0 r0:Nat),s=[(0,v),(1,.int .i64 a),(2,.int .i64 t),(3,.int .i64 b),(4,(PH g)),(18,.int .i64 mid),(19,.int .i64 ((mid:Int)+t)),(20,.int .i64 s0),(21,.int .i64 r0)]/\h=h'/\ms'=[m]/\((mid<t/\s0+b=mid+t/\r0=mid)\/(t<=mid/\s0=a/\r0=t))) ?_ (fun s h ms hI=>?_)
   ·refine Ac (Ad (Qm rfl (Qm rfl (Qm rfl (Am ?_)))));refine Aq rfl (fun hgt=>?_) (fun hgt=>?_)
    ·refine Ac (Ad (Qm rfl (Qm rfl (Qx (oS rfl) rfl (Qm rfl (Gm (Qm rfl (Qm rfl (Ak ?_)))))))));have e:(mid:Int)+t-b=((mid+t-b:Nat):Int):=by omega
     rw[e];exact AD _ ⟨mid+t-b,mid,rfl,rfl,rfl,.inl ⟨by omega,by omega,rfl⟩⟩ Qs
    ·refine Ac (Ad (Qm rfl (Qm rfl (Gm (Qm rfl (Qm rfl (Ak ?_)))))));exact AD _ ⟨a,t,rfl,rfl,rfl,.inr ⟨by omega,rfl,rfl⟩⟩ Qs
   ·obtain⟨s0,r0,rfl,rfl,rfl,hc⟩:=hI;refine As (Qm rfl (Qx (oS rfl) rfl (Qm rfl (Am (Ac (Ag ?_))))))
    refine Ay (fun n s h' ms'=>∃(i j:Nat),n=j-i/\s=[(0,v),(1,.int .i64 a),(2,.int .i64 t),(3,.int .i64 b),(4,(PH g)),(18,.int .i64 mid),(19,.int .i64 ((mid:Int)+t)),(20,.int .i64 i),(21,.int .i64 j),(22,.int .i64 ((mid:Int)+t-1))]/\h=h'/\ms'=[m]/\s0<=i/\i<=j/\j<=r0/\(i=s0\/CJ d[mid+t-i]! d[i-1]! = false)/\(j=r0\/CJ d[mid+t-1-j]! d[j]! = true))
     (r0-s0) _ ⟨s0,r0,rfl,rfl,rfl,rfl,by omega,by omega,by omega,.inl rfl,.inl rfl⟩ Qs ?_
    rintro n s h' ms' ⟨i,j,rfl,rfl,rfl,rfl,hi,hij,hj,c1,c2⟩;refine Ac (As (Qm rfl (Qm rfl (Qm rfl (Am ?_)))));refine Aq rfl (fun hlt=>?_) (fun hlt=>?_)
    ·refine Ah (Ab (Ag (As (Qm rfl (Qm rfl (Qx (oA rfl) rfl (Qx (Ck rfl U3 HE rfl) rfl (Qx (DN (n:=1) rfl rfl rfl (by omega)) rfl (Qx (Ck rfl HE U3 rfl) rfl (Qm rfl (Am ?_)))))))))));rw[GN i j (by omega)];refine Ac (Bc 11 CS (by kernel_rfl) rfl (Wm rfl (Wm rfl (Wm rfl (Wm rfl (AR (oS rfl) rfl rfl (AR (AE (mid+t-1-(i+j)/2) (hO.rd (.head _)) rfl BZ AM rfl rfl (by omega) (by omega)) rfl rfl (AR (oG rfl DX AM (hO.get (.head _) (by omega))) rfl rfl (Wm rfl (Wm rfl (AR (AE ((i+j)/2) (hO.rd (.head _)) rfl BZ AM rfl rfl (by omega) (by omega)) rfl rfl (AR (oG rfl DX AM (hO.get (.head _) (by omega))) rfl rfl (AY (Qx (Cj rfl rfl call199 rfl (NC _ _ _ g hg _)) rfl (Qm rfl (Qm rfl (Am ?_)))))))))))))))));refine Bz rfl (fun hl=>?_) (fun hl=>?_)
     ·have hl:CJ d[mid+t-1-(i+j)/2]! d[(i+j)/2]! = false:=by unfold CJ;simpa using hl
      refine Ad (Qm rfl (Qx (oA rfl) rfl (Qm rfl (Ak (Ai ?_)))));exact Al (j-((i+j)/2+1)) _ (by omega) ⟨(i+j)/2+1,j,rfl,rfl,rfl,rfl,by omega,by omega,by omega,.inr (by rw[Nat.add_sub_cancel,show mid+t-((i+j)/2+1)=mid+t-1-(i+j)/2 by omega];exact hl),c2⟩ Qs
     ·have hl:CJ d[mid+t-1-(i+j)/2]! d[(i+j)/2]! = true:=by unfold CJ;simpa using hl
      refine Ad (Qm rfl (Qm rfl (Ak (Ai ?_))));exact Al ((i+j)/2-i) _ (by omega) ⟨i,(i+j)/2,rfl,rfl,rfl,rfl,by omega,by omega,by omega,c1,.inr hl⟩ Qs
    ·obtain rfl:i=j:=by omega
     obtain⟨e,he⟩:∃e,e=mid+t-i:=⟨_,rfl⟩
     have he2:(mid:Int)+t-i=(e:Int):=by omega
     refine Av (Aa (Aa (Af (Ab (As (Qm rfl (Qm rfl (Qx (oS rfl) rfl (Qm rfl (Am ?_))))))))));rw[he2]
     have k1:i=a\/e=b\/CJ d[e]! d[i-1]! = false:=by
      rcases c1 with c|c
      ·rcases hc with hc|hc
       ·right;left;omega
       ·left;omega
      ·right;right;rw[he];exact c
     have k2:i=t\/e=t\/CJ d[e-1]! d[i]! = true:=by
      rcases c2 with c|c
      ·rcases hc with hc|hc
       ·right;left;omega
       ·left;omega
      ·right;right;rw[show e-1=mid+t-1-i by omega];exact c
     have hgeo:a<=i/\i<=t/\i<=mid/\t<=e/\e<=b:=by rcases hc with hc|hc<;>omega
     have hs2:i+e=mid+t:=by omega
     refine A9 (fun s h' ms'=>∃(d1:Array Io) (m1:Hp),s=[(0,v),(1,.int .i64 a),(3,.int .i64 b),(4,(PH g)),(18,.int .i64 mid),(20,.int .i64 i),(24,.int .i64 e)]/\h=h'/\ms'=[m1]/\OSD m1 v d1/\(∀k,d1[k]! = Fe d i t e k)/\PermIn a b d d1) ?_ (fun s h ms hI=>?_)
     ·refine Ac (Ad (Qm rfl (Qm rfl (Qm rfl (Qm rfl ?_)))));refine AQ (t:=181) rfl (fun q1=>?_) (fun q1=>?_)
      ·refine Qg (Au rfl rfl) rfl (Qg (Au rfl rfl) rfl (Qg (Dg rfl rfl rfl) rfl (Qm rfl (Am ?_))));refine Aq rfl (fun q2=>?_) (fun q2=>?_)
       ·refine Ad (Qm rfl (Qm rfl (Qm rfl (Qm rfl (Qm rfl (Bb (pre:=[m]) rfl call299 rfl (PM d v (PH g) m hO i t e a b (by omega) (by omega) (by omega) (by omega) (by omega) (by omega) (by omega) h rfl rfl rfl) rfl rfl rfl rfl (fun r h1 ms1 l1 hF=>?_)))))));obtain⟨rfl,m1,d1,rfl,hO1,hr,P⟩:=hF;refine Ak ?_;exact AD _ ⟨d1,m1,rfl,rfl,rfl,hO1,hr,P⟩ Qs
       ·refine Ah ?_;exact AD _ ⟨d,m,rfl,rfl,rfl,hO,fun k=>(Ho (by omega) k).symm,permIn_refl d a b⟩ Qs
      ·refine Qk rfl (Qk rfl (Qk rfl (Qm rfl (Am (AP rfl (Ah ?_))))));exact AD _ ⟨d,m,rfl,rfl,rfl,hO,fun k=>(Ho (by omega) k).symm,permIn_refl d a b⟩ Qs
     ·obtain⟨d1,m1,rfl,rfl,rfl,hO1,hr,P⟩:=hI;have C:=WW IB hA hB hgeo hs2 hr k1 k2;have hd1:=P.1;refine A9 (fun s h' ms'=>∃(d2:Array Io) (m2:Hp),s=[(0,v),(3,.int .i64 b),(4,(PH g)),(18,.int .i64 mid),(24,.int .i64 e)]/\h=h'/\ms'=[m2]/\OSD m2 v d2/\PermIn a mid d1 d2/\SortedIn CJ a mid d2) ?_ (fun s h ms hI=>?_)
      ·refine Ac (Ad (Qm rfl (Qm rfl (Qm rfl (Qm rfl ?_)))));refine AQ (t:=195) rfl (fun q1=>?_) (fun q1=>?_)
       ·refine Qg (Au rfl rfl) rfl (Qg (Au rfl rfl) rfl (Qg (Dg rfl rfl rfl) rfl (Qm rfl (Am ?_))));refine Aq rfl (fun q2=>?_) (fun q2=>?_)
        ·refine Ad (Qm rfl (Qm rfl (Qm rfl (Qm rfl (Qm rfl (Bb (pre:=[m1]) rfl call279 rfl (ih d1 v m1 hO1 a i mid (by omega) (by omega) (by omega) (by omega) (by omega) C.lo C.lo2 h g hg rfl rfl rfl) rfl rfl rfl rfl (fun r h1 ms1 l1 hF=>?_)))))));obtain⟨rfl,m2,d2,rfl,hO2,P2,S2⟩:=hF;refine Ak ?_;exact AD _ ⟨d2,m2,rfl,rfl,rfl,hO2,P2,S2⟩ Qs
        ·obtain rfl:i=mid:=by omega
         refine Ah ?_;exact AD _ ⟨d1,m1,rfl,rfl,rfl,hO1,permIn_refl d1 a _,C.lo⟩ Qs
       ·obtain rfl:i=a:=by omega
        refine Qk rfl (Qk rfl (Qk rfl (Qm rfl (Am (AP rfl (Ah ?_))))));exact AD _ ⟨d1,m1,rfl,rfl,rfl,hO1,permIn_refl d1 _ _,C.lo2⟩ Qs
      ·obtain⟨d2,m2,rfl,rfl,rfl,hO2,P2,S2⟩:=hI;have hd2:=P2.1;have f1:SortedIn CJ mid e d2:=BL C.hi fun k h1 h2=>P2.2.1 k (.inr h1);have f2:SortedIn CJ e b d2:=BL C.hi2 fun k h1 h2=>P2.2.1 k (.inr (by omega))
       have fin:∀d3,PermIn mid b d2 d3->SortedIn CJ mid b d3->PermIn a b d d3/\SortedIn CJ a b d3:=fun d3 P3 S3=>
        ⟨permIn_trans _ _ _ _ _ P (permIn_trans _ _ _ _ _ (permIn_mono d1 d2 a mid a b (by omega) (by omega) (by omega) P2) (permIn_mono d2 d3 mid b a b (by omega) (by omega) (by omega) P3)),NZ C (by omega) (by omega) P2 S2 P3 S3⟩
       refine As (Qm rfl (Qm rfl (Qm rfl (Qm rfl ?_))));refine AQ (t:=209) rfl (fun q1=>?_) (fun q1=>?_)
       ·refine Qg (Au rfl rfl) rfl (Qg (Au rfl rfl) rfl (Qg (Dg rfl rfl rfl) rfl (Qm rfl (Am ?_))));refine Aq rfl (fun q2=>?_) (fun q2=>?_)
        ·refine Ad (Qm rfl (Qm rfl (Qm rfl (Qm rfl (Qm rfl (Bb (pre:=[m2]) rfl call279 rfl (ih d2 v m2 hO2 mid e b (by omega) (by omega) (by omega) (by omega) (by omega) f1 f2 h g hg rfl rfl rfl) rfl rfl rfl rfl (fun r h1 ms1 l1 hF=>?_)))))));obtain⟨rfl,m3,d3,rfl,hO3,P3,S3⟩:=hF;refine Ak ?_;exact B7 rfl (⟨rfl,m3,d3,rfl,hO3,(fin d3 P3 S3).1,(fin d3 P3 S3).2⟩)
        ·obtain rfl:e=b:=by omega
         refine Ah ?_;exact B7 rfl (⟨rfl,m2,d2,rfl,hO2,(fin d2 (permIn_refl d2 _ _) f1).1,(fin d2 (permIn_refl d2 _ _) f1).2⟩)
       ·obtain rfl:e=mid:=by omega
        refine Qk rfl (Qk rfl (Qk rfl (Qm rfl (Am (AP rfl (Ah ?_))))));exact B7 rfl (⟨rfl,m2,d2,rfl,hO2,(fin d2 (permIn_refl d2 _ _) f2).1,(fin d2 (permIn_refl d2 _ _) f2).2⟩)
def BkD(d:Array Io)(s n:Nat):Prop:=∀x,s∣x->SortedIn CJ x (min (x+s) n) d
theorem Ev{d:Array Io}{a b b':Nat}(h:SortedIn CJ a b d)(hb:b'<=b):SortedIn CJ a b' d:=fun i j h1 h2 h3=>h i j h1 h2 (by omega)
theorem IE{d:Array Io}{a b:Nat}(hb:b<=a):SortedIn CJ a b d:=fun i j h1 h2 h3=>by omega
theorem P8(d:Array Io)(v:Value)(m:Hp)(hO:OSD m v d)(hsz:d.size<=1000000)(h:Hp)(g:Nat)(hg:SQ h g){n':Int}(en:n'=d.size) :
  FnT Tryz.prog 239 #[v,.int .i64 n',(PH g)] h [m] (fun _ h' ms'=>h=h'/\∃m' d',ms'=[m']/\OSD m' v d'/\PermIn 0 d.size d d'/\SortedIn CJ 0 d.size d'):=by
 subst en;obtain⟨n,hn⟩:∃n,n=d.size:=⟨_,rfl⟩
 rw[<-hn];refine Ap func239 ntmps239 rfl rfl (fun w0 hw0=>?_);simp only[AX];refine As (Qm rfl (BK (Qm rfl (Qm rfl (Qm rfl (Am (Ac (Ag ?_))))))))
 refine Ay (fun q s h' ms'=>∃(a:Nat) (d0:Array Io) (m:Hp),q=n-a/\s=[(0,v),(1,.int .i64 n),(2,(PH g)),(6,.int .i64 20),(7,.int .i64 a),(8,.int .i64 ((a:Int)+20))]/\h=h'/\ms'=[m]/\a<=n/\20∣a/\OSD m v d0/\PermIn 0 n d d0/\∀x,20∣x->x+20<=a->SortedIn CJ x (x+20) d0)
  (n-0) _ ⟨0,d,m,rfl,rfl,rfl,rfl,by omega,⟨0,rfl⟩,hO,permIn_refl d 0 n,fun x _ h=>by omega⟩ Qs ?_
 rintro q s h' ms' ⟨a,d0,m0,rfl,rfl,rfl,rfl,han,hda,hO0,P,hB⟩;have hds:=P.1;refine Ac (As (Qm rfl (Qm rfl (Qm rfl (Am ?_)))));refine Aq rfl (fun hle=>?_) (fun hle=>?_)
 ·refine Ah (Ab (Ag (As (Qm rfl (Qm rfl (Qm rfl (Qm rfl (Bb (pre:=[m0]) rfl call278 rfl (OU d0 v m0 hO0 a (a+20) (by omega) (by omega) (by omega) h g hg rfl (by omega)) rfl rfl rfl rfl (fun r h1 ms1 l1 hF=>?_)))))))));obtain⟨rfl,m1,d1,rfl,hO1,P1,S1⟩:=hF;refine BK (Qm rfl (Qm rfl (Gm (Qm rfl (Qm rfl (Qx (oA rfl) rfl (Qm rfl (Ak (Ai ?_)))))))))
  exact Al (n-(a+20)) _ (by omega) ⟨a+20,d1,m1,rfl,rfl,rfl,rfl,by omega,Nat.dvd_add hda ⟨1,rfl⟩,hO1,permIn_trans _ _ _ _ _ P (permIn_mono d0 d1 a (a+20) 0 n (by omega) (by omega) (by omega) P1),fun x hx hx2=>by
   rcases Nat.lt_or_ge x a with h1|h1
   ·have:=ET hx hda h1;exact BL (hB x hx this) fun k h2 h3=>P1.2.1 k (.inl (by omega))
   ·obtain rfl:x=a:=by omega
    exact S1⟩ Qs
 ·refine Av (Aa (Aa (Af (Ab (As (Qm rfl (Qm rfl (Qm rfl (Qm rfl (Bb (pre:=[m0]) rfl call278 rfl (OU d0 v m0 hO0 a n (by omega) (by omega) (by omega) h g hg rfl rfl) rfl rfl rfl rfl (fun r h1 ms1 l1 hF=>?_)))))))))));obtain⟨rfl,m1,d1,rfl,hO1,P1,S1⟩:=hF;have PB:PermIn 0 n d d1:=permIn_trans _ _ _ _ _ P (permIn_mono d0 d1 a n 0 n (by omega) (by omega) (by omega) P1)
  have B1:BkD d1 20 n:=fun x hx=>by
   rcases Nat.lt_trichotomy x a with h1|rfl|h1
   ·have:=ET hx hda h1;exact Ev (BL (hB x hx this) fun k h2 h3=>P1.2.1 k (.inl (by omega))) (by omega)
   ·exact Ev S1 (by omega)
   ·have:=ET hda hx h1;exact IE (by omega)
  refine Am (Ag ?_)
  refine Ay (fun q s h' ms'=>∃(w:Nat) (d0:Array Io) (m:Hp),q=n-w/\s=[(0,v),(1,.int .i64 n),(2,(PH g)),(6,.int .i64 w)]/\h=h'/\ms'=[m]/\1<=w/\w<=4000000/\OSD m v d0/\PermIn 0 n d d0/\BkD d0 w n)
   (n-20) _ ⟨20,d1,m1,rfl,rfl,rfl,rfl,by omega,by omega,hO1,PB,B1⟩ Qs ?_
  rintro q s h' ms' ⟨w,d2,m2,rfl,rfl,rfl,rfl,hw1,hw2,hO2,P2,B2⟩;have hd2:=P2.1;refine Ac (As (Qm rfl (Qm rfl (Qm rfl (Am ?_)))));refine Aq rfl (fun hlt=>?_) (fun hlt=>?_)
  ·refine Ah (Ab (Ag (As (Qm rfl (Qx (oM rfl) rfl (Qm rfl (Qm rfl (Am (Ac (Ag ?_))))))))))
   refine Ay (fun q s h' ms'=>∃(a:Nat) (z:Int) (d0:Array Io) (m:Hp),q=n-a/\s=[(0,v),(1,.int .i64 n),(2,(PH g)),(6,.int .i64 w),(7,.int .i64 a),(8,.int .i64 z)]/\h=h'/\ms'=[m]/\z=a+2*w/\a<=n/\2*w∣a/\OSD m v d0/\PermIn 0 n d d0/\(∀x,2*w∣x->x+2*w<=a->SortedIn CJ x (x+2*w) d0)/\∀x,w∣x->a<=x->SortedIn CJ x (min (x+w) n) d0)
    (n-0) _ ⟨0,2*(w:Int),d2,m2,rfl,rfl,rfl,rfl,by omega,by omega,⟨0,rfl⟩,hO2,P2,fun x _ h=>by omega,fun x hx _=>B2 x hx⟩ Qs ?_
   rintro q s h' ms' ⟨a,z,d3,m3,rfl,rfl,rfl,rfl,rfl,han,hda,hO3,P3,hL,hR⟩;have hd3:=P3.1;have hwa:w∣a:=Nat.dvd_trans ⟨2,Nat.mul_comm 2 w⟩ hda;have hwa2:w∣a+w:=Nat.dvd_add hwa (Nat.dvd_refl w);have hwa3:2*w∣a+2*w:=Nat.dvd_add hda (Nat.dvd_refl _);have s1:=hR a hwa (Nat.le_refl _);have s2:=hR (a+w) hwa2 (by omega);refine Ac (As (Qm rfl (Qm rfl (Qm rfl (Am ?_)))));refine Aq rfl (fun hle2=>?_) (fun hle2=>?_)
   ·rw[show min (a+w) n=a+w by omega]at s1;rw[show min (a+w+w) n=a+2*w by omega]at s2;refine Ah (Ab (Ag (As (Qm rfl (Qm rfl (Qm rfl (Qm rfl (Qx (oA rfl) rfl (Qm rfl (Qm rfl (Bb (pre:=[m3]) rfl call279 rfl (Im (2*w) d3 v m3 hO3 a (a+w) (a+2*w) (by omega) (by omega) (by omega) (by omega) (by omega) s1 s2 h g hg rfl (by omega) (by omega)) rfl rfl rfl rfl (fun r h1 ms1 l1 hF=>?_))))))))))));obtain⟨rfl,m4,d4,rfl,hO4,P4,S4⟩:=hF;refine BK (Qm rfl (Qm rfl (Gm (Qm rfl (Qm rfl (Qx (oM rfl) rfl (Qx (oA rfl) rfl (Qm rfl (Ak (Ai ?_))))))))))
    exact Al (n-(a+2*w)) _ (by omega) ⟨a+2*w,(a:Int)+2*w+2*w,d4,m4,rfl,rfl,rfl,rfl,by omega,by omega,hwa3,hO4,permIn_trans _ _ _ _ _ P3 (permIn_mono d3 d4 a (a+2*w) 0 n (by omega) (by omega) (by omega) P4),fun x hx hx2=>by
     rcases Nat.lt_or_ge x a with h1|h1
     ·have:=ET hx hda h1;exact BL (hL x hx this) fun k h2 h3=>P4.2.1 k (.inl (by omega))
     ·obtain rfl:x=a:=by omega
      exact S4,fun x hx hx2=>BL (hR x hx (by omega)) fun k h2 h3=>P4.2.1 k (.inr (by omega))⟩ Qs
   ·have fin:∀d4,PermIn a n d3 d4->SortedIn CJ a n d4->PermIn 0 n d d4/\BkD d4 (w*2) n:=fun d4 P4 S4=>⟨permIn_trans _ _ _ _ _ P3 (permIn_mono d3 d4 a n 0 n (by omega) (by omega) (by omega) P4),fun x hx=>by
     rw[Nat.mul_comm]at hx ⊢;rcases Nat.lt_trichotomy x a with h1|rfl|h1
     ·have:=ET hx hda h1;exact Ev (BL (hL x hx this) fun k h2 h3=>P4.2.1 k (.inl (by omega))) (by omega)
     ·exact Ev S4 (by omega)
     ·have:=ET hda hx h1
      exact IE (by omega)⟩
    refine Av (Aa (Aa (Af (Ab (Ac (As (Qm rfl (Qm rfl (Qx (oA rfl) rfl (Qm rfl (BK (Qm rfl (Qm rfl (Qm rfl (Am ?_)))))))))))))));refine Aq rfl (fun hm=>?_) (fun hm=>?_)
    ·rw[show min (a+w) n=a+w by omega]at s1;rw[show min (a+w+w) n=n by omega]at s2;refine Ad (Qm rfl (Qm rfl (Qm rfl (Qm rfl (Qm rfl (Bb (pre:=[m3]) rfl call279 rfl (Im (2*w) d3 v m3 hO3 a (a+w) n (by omega) (by omega) (by omega) (by omega) (by omega) s1 s2 h g hg rfl (by omega) rfl) rfl rfl rfl rfl (fun r h1 ms1 l1 hF=>?_)))))));obtain⟨rfl,m4,d4,rfl,hO4,P4,S4⟩:=hF;have:=fin d4 P4 S4;refine Gm (Qm rfl (Qx (oM rfl) rfl (Qm rfl (Ak (Ai ?_)))));exact Al (n-w*2) _ (by omega) ⟨w*2,d4,m4,rfl,rfl,rfl,rfl,by omega,by omega,hO4,this.1,this.2⟩ Qs
    ·rw[show min (a+w) n=n by omega]at s1;have:=fin d3 (permIn_refl d3 a n) s1;refine Ah (Ab (Ad (Qm rfl (Qx (oM rfl) rfl (Qm rfl (Ak (Ai ?_)))))));exact Al (n-w*2) _ (by omega) ⟨w*2,d3,m3,rfl,rfl,rfl,rfl,by omega,by omega,hO3,this.1,this.2⟩ Qs
  ·refine Av (Aa (Aa (Af ?_)));exact B7 rfl (⟨rfl,m2,d2,rfl,hO2,P2,by have:=B2 0 ⟨0,rfl⟩;rwa [show min (0+w) n=n by omega]at this⟩)
theorem KM(d:Array Io)(v:Value)(m:Hp)(hO:OSD m v d)(hsz:d.size<=1000000)(h:Hp)(g:Nat)(hg:SQ h g) :
  FnT Tryz.prog 198 #[v,(PH g)] h [m] (fun _ h' ms'=>h=h'/\∃m' d',ms'=[m']/\OSD m' v d'/\PermIn 0 d.size d d'/\SortedIn CJ 0 d.size d'):=by
 refine Ap func198 ntmps198 rfl rfl (fun w0 hw0=>?_);simp only[AX];refine Ad (Qm rfl (Qm rfl (Qx (Ar (hO.rd (.head _)) rfl BZ rfl) rfl (Qm rfl (Bb (pre:=[m]) rfl call239 rfl (P8 d v m hO hsz h g hg rfl) rfl rfl rfl rfl (fun r h1 ms1 l1 hF=>?_))))));obtain⟨rfl,m4,d4,rfl,hO4,P4,S4⟩:=hF;refine Ak ?_;exact B7 rfl (⟨rfl,m4,d4,rfl,hO4,P4,S4⟩)
theorem JC{α:Type}[Inhabited α]{d d':Array α}(P:PermIn 0 d.size d d'):d'.toList.Perm d.toList:=by
 have h:=P.2.2;have e1:d'.extract 0 d.size=d':=by rw[<-P.1];simp
 have e2:d.extract 0 d.size=d:=by simp
 rwa [e1,e2]at h
theorem HP{α:Type}[Inhabited α]{lt:α->α->Bool}{d:Array α}(S:SortedIn lt 0 d.size d):d.toList.Pairwise fun a b=>lt b a=false:=by
 rw[List.pairwise_iff_getElem];intro i j hi hj hij;have h1:=S i j (by omega) hij (by simpa using hj)
 have e:∀k (hk:k<d.toList.length),d[k]! = d.toList[k]:=fun k hk=>by
  have:k<d.size:=by simpa using hk
  simp[this]
 rwa [e i hi,e j hj]at h1
theorem TV(l:List CeO)(v:Value)(h:Hp)(hR:RdL HK 3 h [] v l)(hl:l.length<=1000000):FnT Tryz.prog 194 #[v] h [] (fun x h' ms'=>h=h'/\∃m,ms'=[m]/\OwnL HK 3 52 m x l):=by
 refine Ap func194 ntmps194 rfl rfl (fun w0 hw0=>?_);simp only[AX];refine As (Qm rfl (Am (Ac (As (Qm rfl (Qx (Kq hR.rd.any rfl Bh rfl rfl) rfl (Am ?_)))))));refine Bz rfl (fun hn=>?_) (fun hn=>?_)
 ·have h0:=Jp hR.rd hn;obtain rfl:l=[]:=List.eq_nil_of_length_eq_zero h0;refine As (Qm rfl (Am (An (Ae (M7 ?_)))));exact Az rfl rfl (⟨rfl,_,rfl,OwnL.nil JR⟩)
 ·refine Ah (Ab (As ?_));refine Ax [] [] [] rfl Bh AI rfl (by omega) (by kernel_rfl) (by repeat (first|exact trivial|refine⟨⟨by first|rfl|exact(hR.rd.any).cells|exact Rd.cells ‹_›|exact(RdL.rd ‹_›).cells,rfl,rfl⟩,?_⟩)) rfl rfl rfl rfl (fun g5=>?_);refine Qm rfl ?_;have hO:OwnL HK 3 52 (Bn g5 52 []) (.slice (some ⟨g5,0,none⟩) 0 0) []:=OwnL.blk (l:=([]:List CeO)) 0 JR rfl (by omega);refine AO 0 hO hR.any rfl Bh AI rfl (by omega) rfl rfl rfl Nf (by simp;omega) (by simp;omega) rfl rfl rfl (fun v' m' hO'=>?_);refine Qm rfl (Am (An ?_));exact Az rfl rfl (⟨rfl,m',rfl,hO'⟩)
theorem Sk(l:List Io)(v:Value)(h:Hp)(hR:RdL cD 2 h [] v l)(hl:l.length<=1000000):FnT Tryz.prog 197 #[v] h [] (fun x h' ms'=>h=h'/\∃m,ms'=[m]/\OwnL cD 2 119 m x l):=by
 refine Ap func197 ntmps197 rfl rfl (fun w0 hw0=>?_);simp only[AX];refine As (Qm rfl (Am (Ac (As (Qm rfl (Qx (Kq hR.rd.any rfl BZ rfl rfl) rfl (Am ?_)))))));refine Bz rfl (fun hn=>?_) (fun hn=>?_)
 ·have h0:=Jp hR.rd hn;obtain rfl:l=[]:=List.eq_nil_of_length_eq_zero h0;refine As (Qm rfl (Am (An (Ae (M7 ?_)))));exact Az rfl rfl (⟨rfl,_,rfl,OwnL.nil Ep⟩)
 ·refine Ah (Ab (As ?_));refine Ax [] [] [] rfl BZ AM rfl (by omega) (by kernel_rfl) (by repeat (first|exact trivial|refine⟨⟨by first|rfl|exact(hR.rd.any).cells|exact Rd.cells ‹_›|exact(RdL.rd ‹_›).cells,rfl,rfl⟩,?_⟩)) rfl rfl rfl rfl (fun g5=>?_);refine Qm rfl ?_;have hO:OwnL cD 2 119 (Bn g5 119 []) (.slice (some ⟨g5,0,none⟩) 0 0) []:=OwnL.blk (l:=([]:List Io)) 0 Ep rfl (by omega);refine AO 0 hO hR.any rfl BZ AM rfl (by omega) rfl rfl rfl Ga (by simp;omega) (by simp;omega) rfl rfl rfl (fun v' m' hO'=>?_);refine Qm rfl (Am (An ?_));exact Az rfl rfl (⟨rfl,m',rfl,hO'⟩)
theorem Q3(l:List CeO)(v:Value)(h:Hp)(hR:RdL HK 3 h [] v l)(hl:l.length<=1000000):FnT Tryz.prog 134 #[v,fkC] h [] (fun x h' ms'=>h.le h'/\∃m o,ms'=[m]/\OwnL HK 3 52 m x o/\o.Perm l/\o.Pairwise fun a b=>a.c.id<=b.c.id):=by
 have o1:=hR.rd.one;refine Ap func134 ntmps134 rfl rfl (fun w0 hw0=>?_);simp only[AX];refine As (AV [_] rfl rfl (by rfl) rfl rfl rfl (fun g3=>Qm rfl (Am (AC fun h1 l1 hG=>?_))));have hk:Sl h1 g3:=fun ms=>Seg.all hG 0 _ rfl ms;have hR:=hR.up l1;refine As (Qm rfl (Qc call194 rfl (TV l v h1 hR hl) (fun r h2 ms2 l2 hF=>?_)));obtain⟨rfl,m,rfl,hO⟩:=hF;have ovr:=hO.o1;have hO':OSC m r l.toArray:=hO;refine Qm rfl (BK (Qm rfl (Qx (BW rfl rfl rfl) rfl ?_)));refine Bb (pre:=[m]) rfl call195 rfl (Lf l.toArray r m hO' (by simpa using hl) h1 g3 hk) rfl rfl rfl rfl (fun x h3 ms3 l3 hF=>?_);obtain⟨rfl,m',d',rfl,hO2,P,S⟩:=hF;have ov2:r.oneCell'=true:=(OwnL.rd hO2 (h:=h1) (ms:=[m']) Mh).rd.one;have hp:d'.toList.Perm l:=JC P
 have hs:d'.toList.Pairwise fun a b=>a.c.id<=b.c.id:=(HP (P.1 ▸ S)).imp fun {a b} h=>by unfold CI at h;rw[decide_eq_false_iff_not,Jy]at h;omega
 refine BK (Qm rfl (Qm rfl (Am (An ?_))));exact Az rfl rfl (⟨l1,m',d'.toList,rfl,hO2,hp,hs⟩)
theorem PY(l:List Io)(v:Value)(h:Hp)(hR:RdL cD 2 h [] v l)(hl:l.length<=1000000):FnT Tryz.prog 136 #[v,fkD] h [] (fun x h' ms'=>h.le h'/\∃m o,ms'=[m]/\OwnL cD 2 119 m x o/\o.Perm l/\o.Pairwise fun a b=>a.1<=b.1):=by
 have o1:=hR.rd.one;refine Ap func136 ntmps136 rfl rfl (fun w0 hw0=>?_);simp only[AX];refine As (AV [_] rfl rfl (by rfl) rfl rfl rfl (fun g3=>Qm rfl (Am (AC fun h1 l1 hG=>?_))));have hk:SQ h1 g3:=fun ms=>Seg.all hG 0 _ rfl ms;have hR:=hR.up l1;refine As (Qm rfl (Qc call197 rfl (Sk l v h1 hR hl) (fun r h2 ms2 l2 hF=>?_)));obtain⟨rfl,m,rfl,hO⟩:=hF;have ovr:=hO.o1;have hO':OSD m r l.toArray:=hO;refine Qm rfl (BK (Qm rfl (Qx (BW rfl rfl rfl) rfl ?_)));refine Bb (pre:=[m]) rfl call198 rfl (KM l.toArray r m hO' (by simpa using hl) h1 g3 hk) rfl rfl rfl rfl (fun x h3 ms3 l3 hF=>?_);obtain⟨rfl,m',d',rfl,hO2,P,S⟩:=hF;have ov2:r.oneCell'=true:=(OwnL.rd hO2 (h:=h1) (ms:=[m']) Mh).rd.one;have hp:d'.toList.Perm l:=JC P
 have hs:d'.toList.Pairwise fun a b=>a.1<=b.1:=(HP (P.1 ▸ S)).imp fun {a b} h=>by unfold CJ at h;rw[decide_eq_false_iff_not,Jy]at h;omega
 refine BK (Qm rfl (Qm rfl (Am (An ?_))));exact Az rfl rfl (⟨l1,m',d'.toList,rfl,hO2,hp,hs⟩)
end Go.Proofs.Q

namespace Go.Proofs.Q
open Go.Proofs.Tryz
open Go.Eng Go.RowKit
def Cl.can(c:Cl):Cl:=⟨c.id,c.dim,Ca c.sd⟩
def HF(x y:Cl):Bool:=decide (x.id<=y.id)
def ordF(l:List Cl):List Cl:=if h:l.length<=1 then l.map Cl.can else
 List.merge (ordF (l.take (l.length/2))) (ordF (l.drop (l.length/2))) HF
termination_by l.length
decreasing_by
 ·rw[length_take];omega
 ·rw[length_drop];omega
theorem Et{l:List Cl}(h:l.length<=1):ordF l=l.map Cl.can:=by rw[ordF,dif_pos h]
theorem KJ{l:List Cl}(h:¬l.length<=1):ordF l=List.merge (ordF (l.take (l.length/2))) (ordF (l.drop (l.length/2))) HF:=by rw[ordF,dif_neg h]
theorem Db:∀(n:Nat) (l:List Cl),l.length<=n->(ordF l).Perm (l.map Cl.can)
 | 0,l,h=>by rw[Et (by omega)]
 | n+1,l,h=>by
  by_cases hs:l.length<=1
  ·rw[Et hs]
  ·rw[KJ hs];have h1:=Db n (l.take (l.length/2)) (by rw[length_take];omega);have h2:=Db n (l.drop (l.length/2)) (by rw[length_drop];omega);refine(List.merge_perm_append HF).trans ((h1.append h2).trans ?_);rw[<-map_append,List.take_append_drop]
theorem E8(l:List Cl):(ordF l).length=l.length:=by
 have:=(Db l.length l (Nat.le_refl _)).length_eq
 rwa [length_map]at this
theorem Du:∀(n:Nat) (l:List Cl),l.length<=n->(ordF l).Pairwise (fun x y=>x.id<=y.id)
 | 0,l,h=>by obtain rfl:l=[]:=List.eq_nil_of_length_eq_zero (by omega);rw[Et (by simp)];exact List.Pairwise.nil
 | n+1,l,h=>by
  by_cases hs:l.length<=1
  ·rw[Et hs]
   match l,hs with
   | [],_=>exact List.Pairwise.nil
   | [a],_=>exact List.pairwise_singleton _ _
  ·rw[KJ hs];have h1:=Du n (l.take (l.length/2)) (by rw[length_take];omega);have h2:=Du n (l.drop (l.length/2)) (by rw[length_drop];omega)
   have:=List.pairwise_merge (le:=HF) (fun a b c hab hbc=>by
    unfold HF at *;have:=of_decide_eq_true hab;have:=of_decide_eq_true hbc
    exact decide_eq_true (by omega)) (fun a b=>by
    unfold HF;by_cases h:a.id<=b.id
    ·simp[h]
    ·have:b.id<=a.id:=by omega
     simp[this]) _ _ (h1.imp fun h=>decide_eq_true h) (h2.imp fun h=>decide_eq_true h)
   exact this.imp fun h=>of_decide_eq_true h
theorem XC(a b:Cl)(l l':List Cl)(h:b.id<a.id):List.merge (a::l) (b::l') HF=b::List.merge (a::l) l' HF:=by have:HF a b=false:=decide_eq_false (by omega);simp[List.merge,this]
theorem XZ(a b:Cl)(l l':List Cl)(h:¬b.id<a.id):List.merge (a::l) (b::l') HF=a::List.merge l (b::l') HF:=by have:HF a b=true:=decide_eq_true (by omega);simp[List.merge,this]
theorem RdC.part{h:Hp}{v:Value}{l:List Ce}(R:RdC h v l){i j:Nat}(hi:i<=j)(hj:j<=l.length):RdC h (B4 3 v i j) ((l.drop i).take (j-i)):=⟨R.q.sub_ hi hj,fun a ha=>R.s a (List.mem_of_mem_drop (List.mem_of_mem_take ha))⟩
theorem K6:∀(N:Nat) (l:List Ce) (v:Value) (h:Hp),l.length<N->N<=1000000->(∀a∈l,a.c.sd.length<=100000)->RdC h v l->FnT Tryz.prog 118 #[v] h [] (fun r h' ms'=>h.le h'/\∃m A,ms'=[m]/\OwnL cC 3 52 m r A/\A.map Ce.c=ordF (l.map Ce.c)/\∀a∈A,RdL cD 2 h' [] a.v a.c.sd):=by
 intro N
 induction N with
 | zero=>intro l v h hN;omega
 | succ N ih=>
  intro l v h hN hM hs hR;have o1:=hR.q.rd.one;refine Ap func118 ntmps118 rfl rfl (fun w0 hw0=>?_);simp only[AX];refine As (Qm rfl (Am (Ac (As (Qm rfl (Qx (Ar hR.q.rd.any rfl Bh rfl) rfl (Qm rfl (Am ?_))))))));refine Aq rfl (fun h0=>?_) (fun h0=>?_)
  ·obtain rfl:l=[]:=List.eq_nil_of_length_eq_zero (by omega);refine BJ (As (Qm rfl (Am (An (Ae ?_)))));exact Az rfl rfl (⟨C9,Hp.emp,[],rfl,OwnL.nil Ct,by rw[Et (by simp)];rfl,fun a ha=>nomatch ha⟩)
  ·refine Ah (Ab (Ac (As (Qm rfl (Qx (Ar hR.q.rd.any rfl Bh rfl) rfl (Qm rfl (Am ?_)))))));refine Aq rfl (fun h1=>?_) (fun h1=>?_)
   ·match l,h0,h1,hs,hR with
    | [a],_,_,hs,hR=>
     have hsa:=hR.s a Mh;have osa:=hsa.rd.one;have c0:∀ms,Cell h ms ((AF v).add (0*3)) (.int .i64 a.c.id):=fun ms=>(hR.q.any (ms:=ms)).cell0 (j:=0) (by simp) rfl;have c1:∀ms,Cell h ms (((AF v).add (0*3)).add 1) (.int .i64 a.c.dim):=fun ms=>(hR.q.any (ms:=ms)).cell (j:=0) (by simp) (f:=1) rfl;have c2:∀ms,Cell h ms (((AF v).add (0*3)).add 2) a.v:=fun ms=>(hR.q.any (ms:=ms)).cell (j:=0) (by simp) (f:=2) rfl;have h01:(0:Nat) < [a].length:=by simp
     refine Ac (BG (n:=16) (bs:=[true,true,true,true,true,true,true,true,true,true,true,true,false,false,false,false]) [true,true,true,true,true,true,true,true,true,true,true,true] CS (by kernel_rfl) (by kernel_rfl) rfl rfl (Qq rfl (Qp rfl (BF (0) hR.q.rd.any rfl Bh AI rfl rfl) (QF Bt rfl (QL rfl U3 (c0 _) (Qq rfl (Qp rfl (BF (0) hR.q.rd.any rfl Bh AI rfl rfl) (QF BY rfl (QL rfl U3 (c1 _) (Qq rfl (Qp rfl (BF (0) hR.q.rd.any rfl Bh AI rfl rfl) (QF BB rfl (QL rfl BZ (c2 _) ?_)))))))))))));unfold Ft;simp only[cons_append,nil_append];refine Qo 12 rfl (Qc call170 rfl (Pk a.c.sd a.v h (hs a Mh) hsa) (fun rs h2 ms2 l2 hF=>?_));obtain⟨rfl,mq,rfl,hOq⟩:=hF;refine BA hOq fun h3 l3 hRq=>?_;obtain⟨a9,c9,rfl,_⟩:=hRq.rd.ex;refine Qa (AZ 13 25 (by kernel_rfl) rfl (by assumption) rfl (A3 VZ [.int .i64 0,.int .i64 0,.slice none 0 0] [(0,_),(1,_),(2,_)] [_,_,_] rfl AI rfl rfl Qt rfl) (Qo 14 rfl (Ao [_,_,_] rfl Bh AI rfl (by rfl) rfl rfl (by omega) rfl rfl rfl (fun g26=>Qa (Qo 15 rfl (Qm rfl (Qa (Qe (Ab (An ?_))))))))));exact Az rfl rfl ⟨l3,_,[⟨a.c.can,.slice a9 (Ca a.c.sd).length c9⟩],rfl,OwnL.blk (g:=g26) (el:=52) (F:=cC) (l:=[⟨a.c.can,.slice a9 (Ca a.c.sd).length c9⟩]) 1 Ct rfl (by decide),by rw[Et (by simp)];rfl,fun b hb=>by rw[List.mem_singleton.1 hb];exact hRq⟩
   ·have hl2:¬l.length<=1:=by omega
    obtain⟨k,hk⟩:∃k,l.length/2=k:=⟨_,rfl⟩
    have hk1:k<l.length:=by omega
    have hk0:0<k:=by omega
    have hll:=hR.q.len_le;have hR1:RdC h (B4 3 v 0 k) (l.take k):=by have:=hR.part (i:=0) (j:=k) (by omega) (by omega);rwa [drop_zero,Nat.sub_zero]at this
    have hR2:RdC h (B4 3 v k l.length) (l.drop k):=by have:=hR.part (i:=k) (j:=l.length) (by omega) (by omega);rwa [List.take_of_length_le (by rw[length_drop];omega)]at this
    have hkt:Int.tdiv (l.length:Int) 2=(k:Int):=by rw[Int.tdiv_eq_ediv_of_nonneg (by omega)];omega
    refine Ah (Ab (As (Qm rfl (Qm rfl (Qx (Ar hR.q.rd.any rfl Bh rfl) rfl (Qx (Gi rfl rfl rfl (by omega) (by omega)) rfl (Qx (DS (k) hR.q.rd.any rfl Bh AI rfl rfl (by omega) (by omega)) rfl ?_)))))));refine Qc call118 rfl (ih (l.take k) _ h (by rw[length_take];omega) (by omega) (fun a ha=>hs a (List.mem_of_mem_take ha)) hR1) (fun ra h2 ms2 l2 hF=>?_);obtain⟨l2',ma,A,rfl,hOA,hA,hAs⟩:=hF;refine BA hOA fun h3 l3 hRA=>?_;have hAs:∀a∈A,RdL cD 2 h3 [] a.v a.c.sd:=fun a ha=>(hAs a ha).up l3;have hR2:=hR2.up (AJ l2 l3);have hR:=hR.up (AJ l2 l3);have oA_:=hRA.rd.one;refine Qm rfl (BK (Qm rfl (Qm rfl (Qx (Ar hR.q.rd.any rfl Bh rfl) rfl (Qx (Gi rfl rfl rfl (by omega) (by omega)) rfl (Qx (CE (k) hR.q.rd.any rfl Bh AI rfl rfl (by omega) (by omega)) rfl ?_))))));refine Qc call118 rfl (ih (l.drop k) _ h3 (by rw[length_drop];omega) (by omega) (fun a ha=>hs a (List.mem_of_mem_drop ha)) hR2) (fun rb h4 ms4 l4 hF=>?_);obtain⟨l4',mb,B,rfl,hOB,hB,hBs⟩:=hF;refine BA hOB fun h5 l5 hRB=>?_;have l45:=AJ l4 l5;have hAs:∀a∈A,RdL cD 2 h5 [] a.v a.c.sd:=fun a ha=>(hAs a ha).up l45;have hBs:∀a∈B,RdL cD 2 h5 [] a.v a.c.sd:=fun a ha=>(hBs a ha).up l5;have hRA:=hRA.up l45;have oB:=hRB.rd.one;have lA:A.length=k:=by have:=congrArg List.length hA;rw[length_map,E8,length_map,length_take]at this;omega
    have lB:B.length=l.length-k:=by have:=congrArg List.length hB;rw[length_map,E8,length_map,length_drop]at this;exact this
    have hmg:ordF (l.map Ce.c)=List.merge (A.map Ce.c) (B.map Ce.c) HF:=by rw[KJ (by rw[length_map];exact hl2),hA,hB,length_map,hk,List.map_take,List.map_drop]
    refine Qm rfl (BK (Qm rfl (Am ?_)));refine A9 (fun s h' ms'=>∃(A' B' O:List Ce) (va vb vo:Value) (mo:Hp),s=[(3,va),(4,vb),(5,vo)]/\h5=h'/\ms'=[mo]/\A'.length+B'.length+O.length=l.length/\RdL cC 3 h5 [] va A'/\RdL cC 3 h5 [] vb B'/\OwnL cC 3 52 mo vo O/\O.map Ce.c++A'.map Ce.c++B'.map Ce.c=ordF (l.map Ce.c)/\(∀a∈A',RdL cD 2 h5 [] a.v a.c.sd)/\(∀a∈B',RdL cD 2 h5 [] a.v a.c.sd)/\∀a∈O,RdL cD 2 h5 [] a.v a.c.sd) ?_ (fun s h ms hI=>?_)
    ·refine Ag (BJ ?_)
     refine Ay (fun q s h' ms'=>∃(A' B' O:List Ce) (va vb vo:Value) (mo:Hp),q=A'.length+B'.length/\s=[(3,va),(4,vb),(5,vo)]/\h5=h'/\ms'=[mo]/\A'.length+B'.length+O.length=l.length/\RdL cC 3 h5 [] va A'/\RdL cC 3 h5 [] vb B'/\OwnL cC 3 52 mo vo O/\O.map Ce.c++List.merge (A'.map Ce.c) (B'.map Ce.c) HF=ordF (l.map Ce.c)/\(∀a∈A',RdL cD 2 h5 [] a.v a.c.sd)/\(∀a∈B',RdL cD 2 h5 [] a.v a.c.sd)/\∀a∈O,RdL cD 2 h5 [] a.v a.c.sd)
      (A.length+B.length) _ ⟨A,B,[],_,_,_,Hp.emp,rfl,rfl,rfl,rfl,by rw[lA,lB,length_nil];omega,hRA,hRB,OwnL.nil Ct,by rw[hmg];rfl,hAs,hBs,fun a ha=>nomatch ha⟩ Qs ?_
     rintro q s h' ms' ⟨A',B',O,va,vb,vo,mo,rfl,rfl,rfl,rfl,hln,hRa,hRb,hOo,hm,hAa,hBb,hOa⟩;have ova:=hRa.rd.one;have ovb:=hRb.rd.one;have ovo:=hOo.o1;refine Ac (As (Qm rfl (Qx (Ar hRa.rd.any rfl Bh rfl) rfl (Qm rfl (Qm rfl ?_)))));refine AQ (t:=42) rfl (fun hs1=>?_) (fun hs1=>?_)
     ·refine Qg (Au rfl rfl) rfl (Qg (Ar hRb.rd.any rfl Bh rfl) rfl (Qg (Cw rfl rfl rfl) rfl (Qm rfl (Am ?_))));refine Aq rfl (fun hs2=>?_) (fun hs2=>?_)
      ·obtain⟨a,A2,rfl⟩:=List.exists_cons_of_length_pos (l:=A') (by omega);obtain⟨b,B2,rfl⟩:=List.exists_cons_of_length_pos (l:=B') (by omega);have hA0:0<(a::A2).length:=by simp
       have hB0:0<(b::B2).length:=by simp
       have oav:=(hAa a Mh).rd.one;have obv:=(hBb b Mh).rd.one;have ca:∀ms,Cell h5 ms ((AF va).add (0*3)) (.int .i64 a.c.id):=fun ms=>(hRa.any (ms:=ms)).cell0 (j:=0) hA0 rfl;have cb:∀ms,Cell h5 ms ((AF vb).add (0*3)) (.int .i64 b.c.id):=fun ms=>(hRb.any (ms:=ms)).cell0 (j:=0) hB0 rfl;have ga:∀ms,Seg h5 ms ((AF va).add (0*3)) (cC a):=fun ms=>(hRa.any (ms:=ms)).seg (j:=0) hA0;have gb:∀ms,Seg h5 ms ((AF vb).add (0*3)) (cC b):=fun ms=>(hRb.any (ms:=ms)).seg (j:=0) hB0;have hA2:RdL cC 3 h5 [] (B4 3 va 1 (a::A2).length) A2:=by have:=hRa.sub_ (i:=1) (j:=(a::A2).length) (by simp) (Nat.le_refl _);simpa using this
       have hB2:RdL cC 3 h5 [] (B4 3 vb 1 (b::B2).length) B2:=by have:=hRb.sub_ (i:=1) (j:=(b::B2).length) (by simp) (Nat.le_refl _);simpa using this
       have oA2:=hA2.rd.one;have oB2:=hB2.rd.one;have hal:(a::A2).length=A2.length+1:=rfl;have hbl:(b::B2).length=B2.length+1:=rfl;refine Ah (Ab (Ag (Ac (Bc 8 CS (by kernel_rfl) rfl (Wm rfl (AR (BF (0) hRb.rd.any rfl Bh AI rfl rfl) rfl rfl (Wf Bt rfl (Wl rfl U3 (cb _) (Wm rfl (AR (BF (0) hRa.rd.any rfl Bh AI rfl rfl) rfl rfl (Wf Bt rfl (Wl rfl U3 (ca _) (AY (Qm rfl (Am ?_)))))))))))))));refine Aq rfl (fun hlt=>?_) (fun hlt=>?_)
       ·refine Ac (Ad (Qm rfl (Qm rfl (Qx (BF (0) hRb.rd.any rfl Bh AI rfl rfl) rfl (Qx (oG rfl Ef AI (gb _)) rfl (Ao [_,_,_] rfl Bh AI rfl (by rfl) rfl rfl (by omega) rfl rfl rfl (fun g60=>?_)))))));refine Bd 1 hOo (RdL.one Ct (x:=b) Mh rfl) rfl Bh AI rfl (by omega) rfl rfl rfl (Di (l:=[b]) (fun y hy=>by rw[List.mem_singleton.1 hy];exact hBb b Mh)) (by(try simp only[length_singleton]);omega) (by(try simp only[length_singleton]);omega) rfl rfl rfl (fun v6 m6 hO6=>?_);have ov6:=hO6.o1;refine Qm rfl (Gm (Qm rfl (Qx (CE (1) hRb.rd.any rfl Bh AI rfl rfl (by omega) (by omega)) rfl (Qm rfl (Ak (Ai (AN ?_)))))));exact Al ((a::A2).length+B2.length) _ (by omega) ⟨a::A2,B2,O++[b],va,_,v6,m6,rfl,rfl,rfl,rfl,by rw[length_append,length_singleton];omega,hRa,hB2,hO6,by rw[map_append,<-hm];show _++[b.c]++_=_++List.merge (a.c::_) (b.c::_) HF;rw[XC _ _ _ _ hlt,append_assoc];rfl,hAa,fun y hy=>hBb y (mem_cons_of_mem _ hy),fun y hy=>by rcases List.mem_append.1 hy with h|h;exact hOa y h;rw[List.mem_singleton.1 h];exact hBb b Mh⟩ Qs
       ·refine Ac (Ad (Qm rfl (Qm rfl (Qx (BF (0) hRa.rd.any rfl Bh AI rfl rfl) rfl (Qx (oG rfl Ef AI (ga _)) rfl (Ao [_,_,_] rfl Bh AI rfl (by rfl) rfl rfl (by omega) rfl rfl rfl (fun g68=>?_)))))));refine Bd 1 hOo (RdL.one Ct (x:=a) Mh rfl) rfl Bh AI rfl (by omega) rfl rfl rfl (Di (l:=[a]) (fun y hy=>by rw[List.mem_singleton.1 hy];exact hAa a Mh)) (by(try simp only[length_singleton]);omega) (by(try simp only[length_singleton]);omega) rfl rfl rfl (fun v6 m6 hO6=>?_);have ov6:=hO6.o1;refine Qm rfl (Gm (Qm rfl (Qx (CE (1) hRa.rd.any rfl Bh AI rfl rfl (by omega) (by omega)) rfl (Qm rfl (Ak (Ai (AN ?_)))))));exact Al (A2.length+(b::B2).length) _ (by omega) ⟨A2,b::B2,O++[a],_,vb,v6,m6,rfl,rfl,rfl,rfl,by rw[length_append,length_singleton];omega,hA2,hRb,hO6,by rw[map_append,<-hm];show _++[a.c]++_=_++List.merge (a.c::_) (b.c::_) HF;rw[XZ _ _ _ _ hlt,append_assoc];rfl,fun y hy=>hAa y (mem_cons_of_mem _ hy),hBb,fun y hy=>by rcases List.mem_append.1 hy with h|h;exact hOa y h;rw[List.mem_singleton.1 h];exact hAa a Mh⟩ Qs
      ·obtain rfl:B'=[]:=List.eq_nil_of_length_eq_zero (by omega);refine Av (Aa (Aa (Af ?_)));exact AD _ ⟨A',[],O,va,vb,vo,mo,rfl,rfl,rfl,hln,hRa,hRb,hOo,by rw[<-hm,append_assoc];simp,hAa,hBb,hOa⟩ Qs
     ·obtain rfl:A'=[]:=List.eq_nil_of_length_eq_zero (by omega);refine Qk rfl (Qk rfl (Qk rfl (Qm rfl (Am (AP rfl (Av (Aa (Aa (Af ?_)))))))));exact AD _ ⟨[],B',O,va,vb,vo,mo,rfl,rfl,rfl,hln,hRa,hRb,hOo,by rw[<-hm];simp,hAa,hBb,hOa⟩ Qs
    ·obtain⟨A',B',O,va,vb,vo,mo,rfl,rfl,rfl,hln,hRa,hRb,hOo,hm,hAa,hBb,hOa⟩:=hI;have ova:=hRa.rd.one;have ovb:=hRb.rd.one;have ovo:=hOo.o1;refine As (Qm rfl (Qm rfl (Bd 0 hOo hRa.any rfl Bh AI rfl (by omega) rfl rfl rfl (Di hAa) (by(try simp only[length_append]);omega) (by(try simp only[length_append]);omega) rfl rfl rfl (fun v7 m7 hO7=>Qm rfl (Bd 0 hO7 hRb.any rfl Bh AI rfl (by omega) rfl rfl rfl (Di hBb) (by(try simp only[length_append]);omega) (by(try simp only[length_append]);omega) rfl rfl rfl (fun v8 m8 hO8=>Qm rfl (Am (An ?_))))))));exact Az rfl rfl (⟨AJ l2 (AJ l3 l45),m8,_,rfl,hO8,by rw[map_append,map_append];exact hm,fun y hy=>by rcases List.mem_append.1 hy with h|h;rcases List.mem_append.1 h with h|h;exact hOa y h;exact hAa y h;exact hBb y h⟩)
structure CsOk(l:List Ce):Prop where
 n:l.length<=100000
 s:∀a∈l,a.c.sd.length<=100000
def uq:Option Int->List Cl->List Cl
 | _,[]=>[]
 | p,a::l=>if p=some a.id then uq (some a.id) l else a::uq (some a.id) l
def Nz:Option Int->List Ce->List Ce
 | _,[]=>[]
 | p,a::l=>if p=some a.c.id then Nz (some a.c.id) l else a::Nz (some a.c.id) l
theorem ND:∀(l:List Ce) (p:Option Int),(Nz p l).map Ce.c=uq p (l.map Ce.c)
 | [],_=>rfl
 | a::l,p=>by
  unfold Nz;show _=(if p=some a.c.id then uq (some a.c.id) (l.map Ce.c) else a.c::uq (some a.c.id) (l.map Ce.c));split
  ·exact ND l _
  ·rw[List.map_cons,ND l _]
theorem Nc:∀(l:List Ce) (p:Option Int),∀a∈Nz p l,a∈l
 | [],_,a,h=>by cases h
 | b::l,p,a,h=>by
  unfold Nz at h;split at h
  ·exact mem_cons_of_mem _ (Nc l _ a h)
  ·rcases List.mem_cons.1 h with rfl|h
   ·exact Mh
   ·exact mem_cons_of_mem _ (Nc l _ a h)
theorem XT(l:List Ce)(p:Option Int):(Nz p l).length<=l.length:=by
 induction l generalizing p with
 | nil=>exact Nat.le_refl _
 | cons a l ih=>
  unfold Nz;have:=ih (some a.c.id);split
  ·rw[length_cons];omega
  ·rw[length_cons,length_cons];omega
theorem Oj:∀(l:List Ce) (p:Option Int) (a:Ce),Nz p (l++[a])=Nz p l++(if((l.getLast?.map fun x=>x.c.id).or p)=some a.c.id then [] else [a])
 | [],p,a=>by show Nz p [a]=_;unfold Nz;show _=[]++(if p=some a.c.id then [] else [a]);split<;>rfl
 | b::l,p,a=>by
  have ih:=Oj l (some b.c.id) a
  have e:(((b::l).getLast?.map fun x:Ce=>x.c.id).or p)=((l.getLast?.map fun x=>x.c.id).or (some b.c.id)):=by
   cases l with
   | nil=>rfl
   | cons c l=>simp[List.getLast?_cons_cons,List.getLast?_cons]
  rw[e];show Nz p (b::(l++[a]))=_;unfold Nz;split
  ·exact ih
  ·rw[ih];rfl
theorem UY{l:List Ce}{i:Nat}(hi:i<l.length):Nz none (l.take (i+1))=Nz none (l.take i)++(if h:0<i/\(l[i-1]'(by omega)).c.id=l[i].c.id then [] else [l[i]]):=by
 rw[List.take_succ_eq_append_getElem hi,Oj];congr 1;by_cases h0:0<i
 ·have e:(l.take i).getLast?=some (l[i-1]'(by omega)):=by rw[List.getLast?_eq_getElem?,length_take,Nat.min_eq_left (by omega),List.getElem?_take_of_lt (by omega),List.getElem?_eq_getElem (by omega)]
  rw[e];by_cases h1:(l[i-1]'(by omega)).c.id=l[i].c.id
  ·rw[dif_pos ⟨h0,h1⟩,if_pos (by simp[h1])]
  ·rw[dif_neg (fun q=>h1 q.2),if_neg (by simpa using h1)]
 ·obtain rfl:i=0:=by omega
  rw[dif_neg (fun q=>h0 q.1)];simp
def Fh(l:List Cl):List Cl:=uq none (ordF l)
theorem F5(l:List Ce)(v:Value)(h:Hp)(hK:CsOk l)(hR:RdC h v l):FnT Tryz.prog 49 #[.agg #[v]] h [] (fun r h' ms'=>h.le h'/\∃m A,ms'=[m]/\OwnL cC 3 52 m r A/\A.map Ce.c=Fh (l.map Ce.c)/\∀a∈A,RdL cD 2 h' [] a.v a.c.sd):=by
 have o1:=hR.q.rd.one;have hn:=hK.n;refine Ap func49 ntmps49 rfl rfl (fun w0 hw0=>?_);simp only[AX];refine As (AV [_] rfl rfl (by rfl) rfl rfl rfl (fun g1=>Qm rfl (Am (AC fun h1 l1 hS=>?_))));have hR:=hR.up l1;have hA0:=Seg.all hS 0 _ rfl;refine As (Qf B8 rfl (Ql rfl Bh (hA0 _) (Qc call118 rfl (K6 (l.length+1) l v h1 (by omega) (by omega) hK.s hR) (fun r2 h2 ms2 l2 hF=>?_))));obtain⟨l2',m,A,rfl,hO,hA,hs⟩:=hF;refine BA hO fun h3 l3 hRA=>?_;have hs:∀a∈A,RdL cD 2 h3 [] a.v a.c.sd:=fun a ha=>(hs a ha).up l3;have lA:A.length=l.length:=by have:=congrArg List.length hA;rwa [length_map,E8,length_map]at this
 have o2:=hRA.rd.one;refine Qm rfl (BK (Qm rfl (Am (Ac (As (Qm rfl (Am (Ag (BJ ?_)))))))))
 refine Ay (fun q s h' ms'=>∃(i:Nat) (vo:Value) (mo:Hp),q=A.length-i/\s=[(3,r2),(4,vo),(5,.int .i64 i)]/\h3=h'/\ms'=[mo]/\i<=A.length/\OwnL cC 3 52 mo vo (Nz none (A.take i)))
  (A.length-0) _ ⟨0,_,Hp.emp,rfl,rfl,rfl,rfl,by omega,OwnL.nil Ct⟩ Qs ?_
 rintro q s h' ms' ⟨i,vo,mo,rfl,rfl,rfl,rfl,hi,hO⟩;refine Ac (As (Qm rfl (Qm rfl (Qx (Ar hRA.rd.any rfl Bh rfl) rfl (Qm rfl (Am ?_))))));refine Aq rfl (fun hlt=>?_) (fun hlt=>?_)
 ·have hil:i<A.length:=CC hlt;have ovo:=hO.o1;have oav:=(hs _ (getElem_mem hil)).rd.one;have hgi:∀ms,Seg h3 ms ((AF r2).add (i*3)) (cC A[i]):=fun ms=>(hRA.any (ms:=ms)).seg hil;have hci:∀ms,Cell h3 ms ((AF r2).add (i*3)) (.int .i64 A[i].c.id):=fun ms=>(hRA.any (ms:=ms)).cell0 hil rfl;have htk:=UY hil;have hul:(Nz none (A.take i)).length<=100000:=by have:=XT (A.take i) none;rw[length_take]at this;omega
  refine Ah (Ab ?_);refine A9 (fun s h' ms'=>∃(vo:Value) (mo:Hp),s=[(3,r2),(4,vo),(5,.int .i64 i)]/\h3=h'/\ms'=[mo]/\OwnL cC 3 52 mo vo (Nz none (A.take (i+1)))) ?_ (fun s h ms hI=>?_)
  ·refine Ag (Ac (Bc 14 CS (by kernel_rfl) rfl (Wm rfl (Wm rfl (Wm rfl ?_)))));refine Cs (t:=17) rfl (fun hs1=>?_) (fun hs1=>?_)
   ·rw[dif_neg (fun q=>by omega)]at htk;refine Aw rfl rfl rfl rfl rfl (Aw rfl rfl rfl rfl rfl (Aw rfl rfl rfl rfl rfl (Aw rfl rfl rfl rfl rfl (Aw rfl rfl rfl rfl rfl (Aw rfl rfl rfl rfl rfl (Aw rfl rfl rfl rfl rfl (Aw rfl rfl rfl rfl rfl (Aw rfl rfl rfl rfl rfl (Aw rfl rfl rfl rfl rfl (Aw rfl rfl rfl rfl rfl (AY (Qk rfl (Qm rfl (Am (BE rfl (Ad (Qm rfl (Qm rfl (Qm rfl (Qx (BF (i) hRA.rd.any rfl Bh AI rfl rfl) rfl (Qx (oG rfl Ef AI (hgi _)) rfl (Ao [_,_,_] rfl Bh AI rfl (by rfl) rfl rfl (by omega) rfl rfl rfl (fun g36=>?_)))))))))))))))))))))));refine Bd 1 hO (RdL.one Ct (x:=A[i]) Mh rfl) rfl Bh AI rfl (by omega) rfl rfl rfl (Di (l:=[A[i]]) (fun y hy=>by rw[List.mem_singleton.1 hy];exact hs _ (getElem_mem hil))) (by(try simp only[length_singleton]);omega) (by(try simp only[length_singleton]);omega) rfl rfl rfl (fun v6 m6 hO6=>?_);rw[<-htk]at hO6;refine Qm rfl (Ak (Ai (AN ?_)));exact AD _ ⟨v6,m6,rfl,rfl,rfl,hO6⟩ Qs
   ·have hip:i-1<A.length:=by omega
    have hcp:∀ms,Cell h3 ms ((AF r2).add ((i-1)*3)) (.int .i64 A[i-1].c.id):=fun ms=>(hRA.any (ms:=ms)).cell0 hip rfl;refine AG (Au rfl rfl) rfl rfl rfl rfl (AG (Au rfl rfl) rfl rfl rfl rfl (AG (BF (i) hRA.rd.any rfl Bh AI rfl rfl) rfl rfl rfl rfl (AG (oF Bt rfl) rfl rfl rfl rfl (AG (oL rfl U3 (hci _)) rfl rfl rfl rfl (AG (Au rfl rfl) rfl rfl rfl rfl (AG (Au rfl rfl) rfl rfl rfl rfl (AG (oS rfl) rfl rfl rfl rfl (AG (BF (i-1) hRA.rd.any rfl Bh AI rfl rfl) rfl rfl rfl rfl (AG (oF Bt rfl) rfl rfl rfl rfl (AG (oL rfl U3 (hcp _)) rfl rfl rfl rfl (AY (Qg (CY rfl rfl rfl) rfl (Qm rfl (Am ?_))))))))))))));refine Aq rfl (fun hs2=>?_) (fun hs2=>?_)
    ·rw[dif_neg (fun q=>hs2 q.2.symm)]at htk;refine Ad (Qm rfl (Qm rfl (Qm rfl (Qx (BF (i) hRA.rd.any rfl Bh AI rfl rfl) rfl (Qx (oG rfl Ef AI (hgi _)) rfl (Ao [_,_,_] rfl Bh AI rfl (by rfl) rfl rfl (by omega) rfl rfl rfl (fun g36=>?_)))))));refine Bd 1 hO (RdL.one Ct (x:=A[i]) Mh rfl) rfl Bh AI rfl (by omega) rfl rfl rfl (Di (l:=[A[i]]) (fun y hy=>by rw[List.mem_singleton.1 hy];exact hs _ (getElem_mem hil))) (by(try simp only[length_singleton]);omega) (by(try simp only[length_singleton]);omega) rfl rfl rfl (fun v6 m6 hO6=>?_);rw[<-htk]at hO6;refine Qm rfl (Ak (Ai (AN ?_)));exact AD _ ⟨v6,m6,rfl,rfl,rfl,hO6⟩ Qs
    ·rw[dif_pos ⟨by omega,by omega⟩,List.append_nil]at htk;rw[<-htk]at hO;refine Ah (Ai ?_);exact AD _ ⟨vo,mo,rfl,rfl,rfl,hO⟩ Qs
  ·obtain⟨vo,mo,rfl,rfl,rfl,hO⟩:=hI;refine Ad (Qm rfl (Qx (oA rfl) rfl (Qm rfl (Ak ?_))));exact Al (A.length-(i+1)) _ (by omega) ⟨i+1,vo,mo,rfl,rfl,rfl,rfl,by omega,hO⟩ Qs
 ·have hie:i=A.length:=by omega
  rw[hie,List.take_length]at hO;refine Av (Aa (Aa (Af (Ab (As (Qm rfl (Qm rfl (Am (An ?_)))))))));exact Az rfl rfl (⟨AJ l1 (AJ l2 l3),mo,_,rfl,hO,by rw[ND,hA];rfl,fun a ha=>hs a (Nc _ _ a ha)⟩)
def Kc(l:List Cl)(x:Int):Nat:=(l.takeWhile fun c=>decide (c.id<x)).length
def I5(l:List Cl)(x:Int):Int:=if h:Kc l x<l.length then if l[Kc l x].id=x then(Kc l x:Nat) else -1 else -1
theorem Oy{l:List Cl}{x:Int}{k:Nat}(hk:k<=l.length)(h1:∀j (hj:j<l.length),j<k->l[j].id<x)(h2:∀hk:k<l.length,¬l[k].id<x):Kc l x=k:=by obtain⟨e1,_⟩:=Ek (fun c:Cl=>decide (c.id<x)) l k hk (fun j hj hjk=>decide_eq_true (h1 j hj hjk)) (fun hk=>decide_eq_false (h2 hk));unfold Kc;rw[e1,length_take];omega
theorem WG(l:List Ce)(v:Value)(x:Int)(h:Hp)(hn:l.length<=100000)(hst:(l.map Ce.c).Pairwise fun a b=>a.id<=b.id)(hR:RdL cC 3 h [] v l)(ms:List Hp):FnV Tryz.prog 117 #[v,.int .i64 x] h ms (.int .i64 (I5 (l.map Ce.c) x)):=by
 refine EO ?_ ms;have o1:=hR.rd.one
 have hsr:∀i j (hi:i<l.length) (hj:j<l.length),i<j->l[i].c.id<=l[j].c.id:=fun i j hi hj hij=>by have:=List.pairwise_iff_getElem.1 hst i j (by simpa using hi) (by simpa using hj) hij;simpa using this
 refine Ap func117 ntmps117 rfl rfl (fun w0 hw0=>?_);simp only[AX];refine As (Qm rfl (BK (Qm rfl (BK (Qm rfl (Qx (Ar hR.rd.any rfl Bh rfl) rfl (Qm rfl (Am (Ac (Ag ?_))))))))))
 refine Ay (fun q s h' ms'=>∃(lo hi:Nat),q=hi-lo/\s=[(0,v),(1,.int .i64 x),(5,.int .i64 lo),(6,.int .i64 hi)]/\h=h'/\ms'=[]/\lo<=hi/\hi<=l.length/\(∀j (hj:j<l.length),j<lo->l[j].c.id<x)/\∀j (hj:j<l.length),hi<=j->¬l[j].c.id<x)
  (l.length-0) _ ⟨0,l.length,rfl,rfl,rfl,rfl,by omega,by omega,fun j hj h=>by omega,fun j hj h=>by omega⟩ Qs ?_
 rintro q s h' ms' ⟨lo,hi,rfl,rfl,rfl,rfl,hlh,hhl,hlo,hhi⟩;refine Ac (As (Qm rfl (Qm rfl (Qm rfl (Am ?_)))));refine Aq rfl (fun hlt=>?_) (fun hlt=>?_)
 ·obtain⟨m,hm⟩:∃m,(lo+hi)/2=m:=⟨_,rfl⟩
  have hml:m<l.length:=by omega
  have hmt:((lo:Int)+hi)/2=(m:Int):=by omega
  have hcm:Cell h [] ((AF v).add (m*3)) (.int .i64 l[m].c.id):=hR.cell0 hml rfl;refine Ah (Ab (Ag (As (Qm rfl (Qm rfl (Qx (oA rfl) rfl (Qx (Gi rfl rfl rfl (by omega) (by omega)) rfl (Qm rfl (Am ?_)))))))));rw[hmt];refine As (Qm rfl (Qm rfl (Qx (BF (m) hR.rd.any rfl Bh AI rfl rfl) rfl (Qf Bt rfl (Ql rfl U3 (hcm) (Qm rfl (Qm rfl (Am ?_))))))));refine Aq rfl (fun hlt2=>?_) (fun hlt2=>?_)
  ·refine Ad (Qm rfl (Qx (oA rfl) rfl (Qm rfl (Ak (Ai ?_)))))
   exact Al (hi-(m+1)) _ (by omega) ⟨m+1,hi,rfl,rfl,rfl,rfl,by omega,by omega,fun j hj h=>by
    rcases (by omega:j<m\/j=m) with h1|rfl
    ·have:=hsr j m hj hml h1;omega
    ·exact hlt2,hhi⟩ Qs
  ·refine Ad (Qm rfl (Qm rfl (Ak (Ai ?_))))
   exact Al (m-lo) _ (by omega) ⟨lo,m,rfl,rfl,rfl,rfl,by omega,by omega,hlo,fun j hj h=>by
    rcases (by omega:m<j\/j=m) with h1|rfl
    ·have:=hsr m j hml hj h1;omega
    ·exact hlt2⟩ Qs
 ·obtain rfl:lo=hi:=by omega
  have hcnt:Kc (l.map Ce.c) x=lo:=Oy (by rw[length_map];omega) (fun j hj h=>by rw[getElem_map];exact hlo j (by simpa using hj) h) (fun hk=>by rw[getElem_map];exact hhi lo (by simpa using hk) (Nat.le_refl _))
  have hat:I5 (l.map Ce.c) x=if h:lo<l.length then(if l[lo].c.id=x then(lo:Int) else -1) else -1:=by unfold I5;simp only[hcnt,length_map,getElem_map]
  refine Av (Aa (Aa (Af (Ab (Ac (As (Qm rfl (Qm rfl (Qx (Ar hR.rd.any rfl Bh rfl) rfl (Qm rfl (Qm rfl ?_)))))))))));refine AQ (t:=31) rfl (fun hs1=>?_) (fun hs1=>?_)
  ·have hll:lo<l.length:=CC hs1;have hcl:Cell h [] ((AF v).add (lo*3)) (.int .i64 l[lo].c.id):=hR.cell0 hll rfl;rw[dif_pos hll]at hat;refine Qg (Au rfl rfl) rfl (Qg (Au rfl rfl) rfl (Qg (BF (lo) hR.rd.any rfl Bh AI rfl rfl) rfl (Qg (oF Bt rfl) rfl (Qg (oL rfl U3 (hcl)) rfl (Qg (Au rfl rfl) rfl (Qg (CU rfl rfl rfl) rfl (Qm rfl (Am ?_))))))));refine Aq rfl (fun hs2=>?_) (fun hs2=>?_)
   ·refine Ac (Ad (Qm rfl (Qm rfl (Am (An (Ae ?_))))));exact Az rfl rfl (by rw[hat,if_pos hs2])
   ·refine Ah (Ab (As (Qm rfl (Am (An ?_)))));exact Az rfl rfl (by rw[hat,if_neg hs2])
  ·rw[dif_neg (by omega)]at hat;refine Qk rfl (Qk rfl (Qk rfl (Qk rfl (Qk rfl (Qk rfl (Qk rfl (Qm rfl (Am (AP rfl (Ah (Ab (As (Qm rfl (Am (An ?_)))))))))))))));exact Az rfl rfl (by rw[hat])
def Bp(x:Cl)(i:Nat):Int×Int:=x.sd.getD i (0,0)
theorem Bj{x:Cl}{i:Nat}(hi:i<x.sd.length):Bp x i=x.sd[i]:=by simp[Bp,List.getD,hi]
def CA(l:List Cl)(x:Cl)(i:Nat):Prop:=I5 l (Bp x i).1<0\/(l.getD (I5 l (Bp x i).1).toNat default).dim≠x.dim-1\/(0<i/\(Bp x i).1=(Bp x (i-1)).1)
instance (l:List Cl) (x:Cl) (i:Nat):Decidable (CA l x i):=by unfold CA;infer_instance
def BV(x:Cl):Prop:=(x.dim=0/\0<x.sd.length)\/(x.dim=1/\x.sd.length≠2)\/(1<x.dim/\(x.sd.length<2\/64<x.sd.length))
instance (x:Cl):Decidable (BV x):=by unfold BV;infer_instance
def BN(x:Cl)(i:Nat):Prop:=(Bp x i).2≠1/\(Bp x i).2≠-1
instance (x:Cl) (i:Nat):Decidable (BN x i):=by unfold BN;infer_instance
def Cn(l:List Cl)(x:Cl):Int:=
 if x.dim<0\/8<x.dim then 21
 else if BV x then 22
 else if ¬∀i,i<x.sd.length->¬CA l x i then 22
 else if ¬∀i,i<x.sd.length->¬BN x i then 23
 else if x.dim=1/\(Bp x 0).2=(Bp x 1).2 then 23 else 0
theorem HT(l:List Cl)(x:Int):I5 l x<l.length:=by
 unfold I5;split
 ·split
  ·omega
  ·omega
 ·omega
theorem Yk(l:List Ce)(x:Ce)(v:Value)(h:Hp)(hn:l.length<=100000)(hxn:x.c.sd.length<=100000)(hxd:-9223372036854775807<=x.c.dim/\x.c.dim<=9223372036854775807)(hst:(l.map Ce.c).Pairwise fun a b=>a.id<=b.id)(hR:RdL cC 3 h [] v l)(hX:RdL cD 2 h [] x.v x.c.sd)(ms:List Hp):FnV Tryz.prog 139 #[v,.agg #[.int .i64 x.c.id,.int .i64 x.c.dim,x.v]] h ms (.int .i64 (Cn (l.map Ce.c) x.c)):=by
 refine EO ?_ ms;have o1:=hR.rd.one;have o2:=hX.rd.one;refine Ap func139 ntmps139 rfl rfl (fun w0 hw0=>?_);simp only[AX];refine As (AV [_,_,_] rfl rfl (by rfl) rfl rfl rfl (fun g3=>Qm rfl (Am (AC fun h1 l1 hS=>?_))));have hR:=hR.up l1;have hX:=hX.up l1;have hA:=Seg.all hS;refine Ac (As (Qf BY rfl (Ql rfl U3 (hA _ _ rfl _) (Qm rfl (Qm rfl ?_)))));refine AQ (t:=12) rfl (fun g1=>?_) (fun g1=>?_)
 ·refine Qk rfl (Qk rfl (Qk rfl (Qm rfl (Am (BE rfl (As (Qm rfl (Am (An (Ae ?_))))))))));exact Az rfl rfl (by unfold Cn;rw[if_pos (.inl g1)])
 ·refine Qg (oF BY rfl) rfl (Qg (oL rfl U3 (hA _ _ rfl _)) rfl (Qg (Cw rfl rfl rfl) rfl (Qm rfl (Am ?_))));refine Aq rfl (fun g2=>?_) (fun g2=>?_)
  ·refine Ac (Ad (Qm rfl (Am (An (Ae ?_)))));exact Az rfl rfl (by unfold Cn;rw[if_pos (.inr g2)])
  ·have hd:¬(x.c.dim<0\/8<x.c.dim):=by omega
   refine Ah (Ab (As (Qf BB rfl (Ql rfl BZ (hA _ _ rfl _) (Qx (Ar hX.rd.any rfl BZ rfl) rfl (Qm rfl (Am ?_)))))));refine A9 (fun s h' ms'=>s=[(0,v),(3,.pointer (some ⟨g3,0,none⟩)),(5,.int .i64 x.c.sd.length)]/\h1=h'/\ms'=[]/\¬BV x.c) ?_ (fun s h ms hI=>?_)
   ·refine Ac (Ad (Qf BY rfl (Ql rfl U3 (hA _ _ rfl _) (Qm rfl (Qm rfl ?_)))));refine AQ (t:=23) rfl (fun a1=>?_) (fun a1=>?_)
    ·refine Qg (Au rfl rfl) rfl (Qg (Cw rfl rfl rfl) rfl (Qm rfl (Qm rfl ?_)));refine AQ (t:=27) rfl (fun a2=>?_) (fun a2=>?_)
     ·refine Qk rfl (Qk rfl (Qk rfl (Qk rfl (A0 rfl rfl rfl rfl rfl rfl (A0 rfl rfl rfl rfl rfl rfl (Qk rfl (Qm rfl (Qm rfl (Qk rfl (Qk rfl (Qk rfl (Qk rfl (A0 rfl rfl rfl rfl rfl rfl (A0 rfl rfl rfl rfl rfl rfl (A0 rfl rfl rfl rfl rfl rfl (A0 rfl rfl rfl rfl rfl rfl (A0 rfl rfl rfl rfl rfl rfl (A0 rfl rfl rfl rfl rfl rfl (Qk rfl (Qm rfl (Am (BE rfl (As (Qm rfl (Am (An (Ae ?_)))))))))))))))))))))))))));exact Az rfl rfl (by unfold Cn;rw[if_neg hd,if_pos (by unfold BV;omega)])
     ·refine Qg (oF BY rfl) rfl (Qg (oL rfl U3 (hA _ _ rfl _)) rfl (Qg (CU rfl rfl rfl) rfl (Qg (Au rfl rfl) rfl ?_)));refine AQ (t:=31) rfl (fun a3=>?_) (fun a3=>?_)
      ·exact absurd a3 (by omega)
      ·refine Qk rfl (Qk rfl (Qg (BX rfl rfl rfl) rfl (Qm rfl (Qm rfl (Qg (oF BY rfl) rfl (Qg (oL rfl U3 (hA _ _ rfl _)) rfl (Qg (Cw rfl rfl rfl) rfl (Qg (Au rfl rfl) rfl ?_))))))));refine AQ (t:=40) rfl (fun a4=>?_) (fun a4=>?_)
       ·exact absurd a4 (by omega)
       ·refine Qk rfl (Qk rfl (Qk rfl (A0 rfl rfl rfl rfl rfl rfl (A0 rfl rfl rfl rfl rfl rfl (Qk rfl (Qg (BX rfl rfl rfl) rfl (Qm rfl (Am (AP rfl (Ah ?_))))))))));exact AD _ ⟨rfl,rfl,rfl,by unfold BV;omega⟩ Qs
    ·refine Qk rfl (Qk rfl (Qm rfl (Qm rfl (Qg (oF BY rfl) rfl (Qg (oL rfl U3 (hA _ _ rfl _)) rfl (Qg (CU rfl rfl rfl) rfl (Qg (Au rfl rfl) rfl ?_)))))));refine AQ (t:=31) rfl (fun a3=>?_) (fun a3=>?_)
     ·refine Qg (Au rfl rfl) rfl (Qg (CY rfl rfl rfl) rfl (Qg (CG rfl rfl rfl) rfl (Qm rfl (Qm rfl ?_))));refine AQ (t:=36) rfl (fun a5=>?_) (fun a5=>?_)
      ·refine Qk rfl (Qk rfl (Qk rfl (Qk rfl (A0 rfl rfl rfl rfl rfl rfl (A0 rfl rfl rfl rfl rfl rfl (A0 rfl rfl rfl rfl rfl rfl (A0 rfl rfl rfl rfl rfl rfl (A0 rfl rfl rfl rfl rfl rfl (A0 rfl rfl rfl rfl rfl rfl (Qk rfl (Qm rfl (Am (BE rfl (As (Qm rfl (Am (An (Ae ?_))))))))))))))))));exact Az rfl rfl (by unfold Cn;rw[if_neg hd,if_pos (by unfold BV;omega)])
      ·refine Qg (oF BY rfl) rfl (Qg (oL rfl U3 (hA _ _ rfl _)) rfl (Qg (Cw rfl rfl rfl) rfl (Qg (Au rfl rfl) rfl ?_)));refine AQ (t:=40) rfl (fun a6=>?_) (fun a6=>?_)
       ·exact absurd a6 (by omega)
       ·refine Qk rfl (Qk rfl (Qk rfl (A0 rfl rfl rfl rfl rfl rfl (A0 rfl rfl rfl rfl rfl rfl (Qk rfl (Qg (BX rfl rfl rfl) rfl (Qm rfl (Am (AP rfl (Ah ?_))))))))));exact AD _ ⟨rfl,rfl,rfl,by unfold BV;omega⟩ Qs
     ·refine Qk rfl (Qk rfl (Qg (BX rfl rfl rfl) rfl (Qm rfl (Qm rfl (Qg (oF BY rfl) rfl (Qg (oL rfl U3 (hA _ _ rfl _)) rfl (Qg (Cw rfl rfl rfl) rfl (Qg (Au rfl rfl) rfl ?_))))))));refine AQ (t:=40) rfl (fun a6=>?_) (fun a6=>?_)
      ·refine Qg (Au rfl rfl) rfl (Qg (Dg rfl rfl rfl) rfl (Qg (Au rfl rfl) rfl ?_));refine AQ (t:=43) rfl (fun a7=>?_) (fun a7=>?_)
       ·refine Qk rfl (Qk rfl (Qg (CG rfl rfl rfl) rfl (Qg (CG rfl rfl rfl) rfl (Qm rfl (Am (BE rfl (As (Qm rfl (Am (An (Ae ?_)))))))))));exact Az rfl rfl (by unfold Cn;rw[if_neg hd,if_pos (by unfold BV;omega)])
       ·refine Qg (Au rfl rfl) rfl (Qg (Cw rfl rfl rfl) rfl (Qg (BX rfl rfl rfl) rfl (Qg (CG rfl rfl rfl) rfl (Qm rfl (Am ?_)))));refine Aq rfl (fun a8=>?_) (fun a8=>?_)
        ·refine Ac (Ad (Qm rfl (Am (An (Ae ?_)))));exact Az rfl rfl (by unfold Cn;rw[if_neg hd,if_pos (by unfold BV;omega)])
        ·refine Ah ?_;exact AD _ ⟨rfl,rfl,rfl,by unfold BV;omega⟩ Qs
      ·exact absurd a6 (by omega)
   ·obtain⟨rfl,rfl,rfl,hnb⟩:=hI;refine Ac (As (Qm rfl (Am (Ag ?_))))
    refine Ay (fun q s h' ms'=>∃(i:Nat),q=x.c.sd.length-i/\s=[(0,v),(3,.pointer (some ⟨g3,0,none⟩)),(5,.int .i64 x.c.sd.length),(6,.int .i64 i)]/\h1=h'/\ms'=[]/\i<=x.c.sd.length/\∀j,j<i->¬CA (l.map Ce.c) x.c j)
     (x.c.sd.length-0) _ ⟨0,rfl,rfl,rfl,rfl,by omega,fun j hj=>by omega⟩ Qs ?_
    rintro q s h' ms' ⟨i,rfl,rfl,rfl,rfl,hi,hno⟩;refine Ac (As (Qm rfl (Qm rfl (Qm rfl (Am ?_)))));refine Aq rfl (fun hlt=>?_) (fun hlt=>?_)
    ·have hil:i<x.c.sd.length:=CC hlt;have hsi:=Bj hil;have hci:Cell h1 [] ((AF x.v).add (i*2)) (.int .i64 x.c.sd[i].1):=hX.cell0 hil rfl;obtain⟨k,hk⟩:∃k,I5 (l.map Ce.c) x.c.sd[i].1=k:=⟨_,rfl⟩
     have hkl:=HT (l.map Ce.c) x.c.sd[i].1;rw[hk,length_map]at hkl
     have hround:¬CA (l.map Ce.c) x.c i->∀j,j<i+1->¬CA (l.map Ce.c) x.c j:=fun hb j hj=>by
      rcases (by omega:j<i\/j=i) with h|rfl
      ·exact hno j h
      ·exact hb
     refine Ah (Ab (Ac (Ag (As (Qm rfl (Qf BB rfl (Ql rfl BZ (hA _ _ rfl _) (Qm rfl (Qx (BF (i) hX.rd.any rfl BZ AM rfl rfl) rfl (Qf B6 rfl (Ql rfl U3 (hci) (Qx (AL rfl call117 rfl (WG l v _ h1 hn hst hR _)) rfl (Qm rfl (Am ?_))))))))))))));rw[hk];refine Ac (Bc 30 CS (by kernel_rfl) rfl (Wm rfl (Wm rfl (Wm rfl ?_))));refine Cs (t:=64) rfl (fun b1=>?_) (fun b1=>?_)
     ·refine Aw rfl rfl rfl rfl rfl (Aw rfl rfl rfl rfl rfl (Aw rfl rfl rfl rfl rfl (Aw rfl rfl rfl rfl rfl (Aw rfl rfl rfl rfl rfl (Aw rfl rfl rfl rfl rfl (Aw rfl rfl rfl rfl rfl (Aw rfl rfl rfl rfl rfl (Aw rfl rfl rfl rfl rfl (Wm rfl (Wm rfl (Aw rfl rfl rfl rfl rfl (Aw rfl rfl rfl rfl rfl (Aw rfl rfl rfl rfl rfl (AK rfl rfl rfl rfl (AK rfl rfl rfl rfl (AK rfl rfl rfl rfl (AK rfl rfl rfl rfl (AK rfl rfl rfl rfl (AK rfl rfl rfl rfl (AK rfl rfl rfl rfl (AK rfl rfl rfl rfl (AK rfl rfl rfl rfl (AK rfl rfl rfl rfl (AK rfl rfl rfl rfl (AK rfl rfl rfl rfl (AK rfl rfl rfl rfl (AY (A0 rfl rfl rfl rfl rfl rfl (Qk rfl (Qm rfl (Am (BE rfl (As (Qm rfl (Am (An (Aj (Ae (Ae ?_)))))))))))))))))))))))))))))))))))))));refine Aj (Ae ?_);exact Az rfl rfl (by unfold Cn;rw[if_neg hd,if_neg hnb,if_pos (fun q=>q i hil (by unfold CA;rw[hsi,hk];exact .inl b1))])
     ·obtain⟨m,rfl⟩:∃m:Nat,k=m:=⟨k.toNat,by omega⟩
      have hml:m<l.length:=by omega
      have hcd:Cell h1 [] (((AF v).add (m*3)).add 1) (.int .i64 l[m].c.dim):=hR.cell hml (f:=1) rfl;have hgd:(l.map Ce.c).getD ((m:Int).toNat) default=l[m].c:=by simp[List.getD,hml]
      refine AG (Au rfl rfl) rfl rfl rfl rfl (AG (Au rfl rfl) rfl rfl rfl rfl (AG (BF (m) hR.rd.any rfl Bh AI rfl rfl) rfl rfl rfl rfl (AG (oF BY rfl) rfl rfl rfl rfl (AG (oL rfl U3 (hcd)) rfl rfl rfl rfl (AG (oF BY rfl) rfl rfl rfl rfl (AG (oL rfl U3 (hA _ _ rfl _)) rfl rfl rfl rfl (AG (oS rfl) rfl rfl rfl rfl (AG (CY rfl rfl rfl) rfl rfl rfl rfl (Wm rfl (Wm rfl ?_))))))))));refine Cs (t:=75) rfl (fun b2=>?_) (fun b2=>?_)
      ·refine Aw rfl rfl rfl rfl rfl (Aw rfl rfl rfl rfl rfl (Aw rfl rfl rfl rfl rfl (AK rfl rfl rfl rfl (AK rfl rfl rfl rfl (AK rfl rfl rfl rfl (AK rfl rfl rfl rfl (AK rfl rfl rfl rfl (AK rfl rfl rfl rfl (AK rfl rfl rfl rfl (AK rfl rfl rfl rfl (AK rfl rfl rfl rfl (AK rfl rfl rfl rfl (AK rfl rfl rfl rfl (AK rfl rfl rfl rfl (AK rfl rfl rfl rfl (AY (A0 rfl rfl rfl rfl rfl rfl (Qk rfl (Qm rfl (Am (BE rfl (As (Qm rfl (Am (An (Aj (Ae (Ae (Aj (Ae ?_))))))))))))))))))))))))))))));exact Az rfl rfl (by unfold Cn;rw[if_neg hd,if_neg hnb,if_pos (fun q=>q i hil (by unfold CA;rw[hsi,hk,hgd];exact .inr (.inl b2)))])
      ·refine AG (Au rfl rfl) rfl rfl rfl rfl (AG (Cw rfl rfl rfl) rfl rfl rfl rfl (AG (Au rfl rfl) rfl rfl rfl rfl ?_));refine Cs (t:=78) rfl (fun b3=>?_) (fun b3=>?_)
       ·have hip:i-1<x.c.sd.length:=by omega
        have hsp:=Bj hip;have hcp:Cell h1 [] ((AF x.v).add ((i-1)*2)) (.int .i64 x.c.sd[i-1].1):=hX.cell0 hip rfl;refine AG (oF BB rfl) rfl rfl rfl rfl (AG (oL rfl BZ (hA _ _ rfl _)) rfl rfl rfl rfl (AG (Au rfl rfl) rfl rfl rfl rfl (AG (BF (i) hX.rd.any rfl BZ AM rfl rfl) rfl rfl rfl rfl (AG (oF B6 rfl) rfl rfl rfl rfl (AG (oL rfl U3 (hci)) rfl rfl rfl rfl (AG (oF BB rfl) rfl rfl rfl rfl (AG (oL rfl BZ (hA _ _ rfl _)) rfl rfl rfl rfl (AG (Au rfl rfl) rfl rfl rfl rfl (AG (oS rfl) rfl rfl rfl rfl (AG (BF (i-1) hX.rd.any rfl BZ AM rfl rfl) rfl rfl rfl rfl (AG (oF B6 rfl) rfl rfl rfl rfl (AG (oL rfl U3 (hcp)) rfl rfl rfl rfl (AY (Qg (CU rfl rfl rfl) rfl (Qg (CG rfl rfl rfl) rfl (Qm rfl (Am ?_)))))))))))))))));refine Aq rfl (fun b4=>?_) (fun b4=>?_)
        ·refine Ac (Ad (Qm rfl (Am (An (Aj (Ae (Ae (Aj (Ae ?_)))))))));exact Az rfl rfl (by unfold Cn;rw[if_neg hd,if_neg hnb,if_pos (fun q=>q i hil (by unfold CA;rw[hsi,hsp,hk,hgd];exact .inr (.inr ⟨by omega,b4⟩)))])
        ·refine Ah (Ai (Ab (Ad (Qm rfl (Qx (oA rfl) rfl (Qm rfl (Ak ?_)))))));exact Al (x.c.sd.length-(i+1)) _ (by omega) ⟨i+1,rfl,rfl,rfl,rfl,by omega,hround (by unfold CA;rw[hsi,hsp,hk,hgd];omega)⟩ Qs
       ·refine Aw rfl rfl rfl rfl rfl (Aw rfl rfl rfl rfl rfl (Aw rfl rfl rfl rfl rfl (Aw rfl rfl rfl rfl rfl (Aw rfl rfl rfl rfl rfl (Aw rfl rfl rfl rfl rfl (Aw rfl rfl rfl rfl rfl (Aw rfl rfl rfl rfl rfl (Aw rfl rfl rfl rfl rfl (Aw rfl rfl rfl rfl rfl (Aw rfl rfl rfl rfl rfl (Aw rfl rfl rfl rfl rfl (Aw rfl rfl rfl rfl rfl (AY (Qk rfl (Qg (BX rfl rfl rfl) rfl (Qm rfl (Am (AP rfl (Ah (Ai (Ab (Ad (Qm rfl (Qx (oA rfl) rfl (Qm rfl (Ak ?_))))))))))))))))))))))))));exact Al (x.c.sd.length-(i+1)) _ (by omega) ⟨i+1,rfl,rfl,rfl,rfl,by omega,hround (by unfold CA;rw[hsi,hk,hgd];omega)⟩ Qs
    ·obtain rfl:i=x.c.sd.length:=by omega
     have hs2:¬¬∀i,i<x.c.sd.length->¬CA (l.map Ce.c) x.c i:=fun q=>q hno;refine Av (Aa (Aa (Af (Ab (Ac (As (Qm rfl (Am (Ag ?_)))))))))
     refine Ay (fun q s h' ms'=>∃(i:Nat),q=x.c.sd.length-i/\s=[(0,v),(3,.pointer (some ⟨g3,0,none⟩)),(5,.int .i64 x.c.sd.length),(8,.int .i64 i)]/\h1=h'/\ms'=[]/\i<=x.c.sd.length/\∀j,j<i->¬BN x.c j)
      (x.c.sd.length-0) _ ⟨0,rfl,rfl,rfl,rfl,by omega,fun j hj=>by omega⟩ Qs ?_
     rintro q s h' ms' ⟨i,rfl,rfl,rfl,rfl,hi,hno2⟩;refine Ac (As (Qm rfl (Qm rfl (Qm rfl (Am ?_)))));refine Aq rfl (fun hlt2=>?_) (fun hlt2=>?_)
     ·have hil:i<x.c.sd.length:=CC hlt2;have hsi:=Bj hil;have hci:Cell h1 [] (((AF x.v).add (i*2)).add 1) (.int .i64 x.c.sd[i].2):=hX.cell hil (f:=1) rfl
      have hround:¬BN x.c i->∀j,j<i+1->¬BN x.c j:=fun hb j hj=>by
       rcases (by omega:j<i\/j=i) with h|rfl
       ·exact hno2 j h
       ·exact hb
      refine Ah (Ab (Ac (Ag (As (Qf BB rfl (Ql rfl BZ (hA _ _ rfl _) (Qm rfl (Qx (BF (i) hX.rd.any rfl BZ AM rfl rfl) rfl (Qf Dn rfl (Ql rfl U3 (hci) (Qm rfl (Qm rfl ?_))))))))))));refine AQ (t:=107) rfl (fun c1=>?_) (fun c1=>?_)
      ·refine Qg (oF BB rfl) rfl (Qg (oL rfl BZ (hA _ _ rfl _)) rfl (Qg (Au rfl rfl) rfl (Qg (BF (i) hX.rd.any rfl BZ AM rfl rfl) rfl (Qg (oF Dn rfl) rfl (Qg (oL rfl U3 (hci)) rfl (Qg (CY rfl rfl rfl) rfl (Qm rfl (Am ?_))))))));refine Aq rfl (fun c2=>?_) (fun c2=>?_)
       ·refine Ac (Ad (Qm rfl (Am (An (Aj (Ae (Ae (Aj (Ae ?_)))))))));exact Az rfl rfl (by unfold Cn;rw[if_neg hd,if_neg hnb,if_neg hs2,if_pos (fun q=>q i hil (by unfold BN;rw[hsi];exact⟨c1,c2⟩))])
       ·refine Ah (Ai (Ab (Ad (Qm rfl (Qx (oA rfl) rfl (Qm rfl (Ak ?_)))))));exact Al (x.c.sd.length-(i+1)) _ (by omega) ⟨i+1,rfl,rfl,rfl,rfl,by omega,hround (by unfold BN;rw[hsi];exact fun q=>c2 q.2)⟩ Qs
      ·refine Qk rfl (Qk rfl (Qk rfl (Qk rfl (Qk rfl (Qk rfl (Qk rfl (Qm rfl (Am (AP rfl (Ah (Ai (Ab (Ad (Qm rfl (Qx (oA rfl) rfl (Qm rfl (Ak ?_)))))))))))))))));exact Al (x.c.sd.length-(i+1)) _ (by omega) ⟨i+1,rfl,rfl,rfl,rfl,by omega,hround (by unfold BN;rw[hsi];exact fun q=>c1 q.1)⟩ Qs
     ·obtain rfl:i=x.c.sd.length:=by omega
      have hs3:¬¬∀i,i<x.c.sd.length->¬BN x.c i:=fun q=>q hno2;refine Av (Aa (Aa (Af (Ab (Ac (Ac (Bc 14 CS (by kernel_rfl) rfl (Wf BY rfl (Wl rfl U3 (hA _ _ rfl _) (Wm rfl (Wm rfl ?_)))))))))));refine Cs (t:=119) rfl (fun d1=>?_) (fun d1=>?_)
      ·have h2:x.c.sd.length=2:=by unfold BV at hnb;omega
       have hl0:0<x.c.sd.length:=by omega
       have hl1:1<x.c.sd.length:=by omega
       have hs0:=Bj hl0;have hs1:=Bj hl1;have hc0:Cell h1 [] (((AF x.v).add (0*2)).add 1) (.int .i64 x.c.sd[0].2):=hX.cell hl0 (f:=1) rfl;have hc1:Cell h1 [] (((AF x.v).add (1*2)).add 1) (.int .i64 x.c.sd[1].2):=hX.cell hl1 (f:=1) rfl;refine AG (oF BB rfl) rfl rfl rfl rfl (AG (oL rfl BZ (hA _ _ rfl _)) rfl rfl rfl rfl (AG (BF (0) hX.rd.any rfl BZ AM rfl rfl) rfl rfl rfl rfl (AG (oF Dn rfl) rfl rfl rfl rfl (AG (oL rfl U3 (hc0)) rfl rfl rfl rfl (AG (oF BB rfl) rfl rfl rfl rfl (AG (oL rfl BZ (hA _ _ rfl _)) rfl rfl rfl rfl (AG (BF (1) hX.rd.any rfl BZ AM rfl rfl) rfl rfl rfl rfl (AG (oF Dn rfl) rfl rfl rfl rfl (AG (oL rfl U3 (hc1)) rfl rfl rfl rfl (AY (Qg (CU rfl rfl rfl) rfl (Qm rfl (Am ?_)))))))))))));refine Aq rfl (fun d2=>?_) (fun d2=>?_)
       ·refine Ac (Ad (Qm rfl (Am (An (Ae ?_)))));exact Az rfl rfl (by unfold Cn;rw[if_neg hd,if_neg hnb,if_neg hs2,if_neg hs3,if_pos ⟨d1,by rw[hs0,hs1];exact d2⟩])
       ·refine Ah (Ab (As (Qm rfl (Am (An ?_)))));exact Az rfl rfl (by unfold Cn;rw[if_neg hd,if_neg hnb,if_neg hs2,if_neg hs3,if_neg (fun q=>d2 (by have:=q.2;rwa [hs0,hs1]at this))])
      ·refine Aw rfl rfl rfl rfl rfl (Aw rfl rfl rfl rfl rfl (Aw rfl rfl rfl rfl rfl (Aw rfl rfl rfl rfl rfl (Aw rfl rfl rfl rfl rfl (Aw rfl rfl rfl rfl rfl (Aw rfl rfl rfl rfl rfl (Aw rfl rfl rfl rfl rfl (Aw rfl rfl rfl rfl rfl (Aw rfl rfl rfl rfl rfl (AY (Qk rfl (Qm rfl (Am (AP rfl (Ah (Ab (As (Qm rfl (Am (An ?_))))))))))))))))))));exact Az rfl rfl (by unfold Cn;rw[if_neg hd,if_neg hnb,if_neg hs2,if_neg hs3,if_neg (fun q=>d1 q.1)])
end Go.Proofs.Q
namespace Go.Proofs.Q
open Go.Eng Go.RowKit
variable {n T i k m:Nat} {l pa:List Int} {now old w:Int}
def Ec(l:List Int)(x:Int):Nat:=(l.takeWhile fun y=>decide (y≠x)).length
theorem Ox(l:List Int)(x:Int):Ec l x<=l.length:=(List.takeWhile_sublist _).length_le
theorem NP{x:Int}(hk:k<=l.length)(h1:∀j (hj:j<l.length),j<k->l[j]≠x)(h2:∀hk:k<l.length,l[k]=x):Ec l x=k:=by obtain⟨e1,_⟩:=Ek (fun y:Int=>decide (y≠x)) l k hk (fun j hj hjk=>decide_eq_true (h1 j hj hjk)) (fun hk=>decide_eq_false (fun q=>q (h2 hk)));unfold Ec;rw[e1,length_take];omega
def Ff(pa:List Int)(m:Nat)(now old:Int):List Int:=pa.mapIdx fun j p=>if j<m/\p=now then old else p
theorem C8(pa:List Int)(m:Nat)(now old:Int):(Ff pa m now old).length=pa.length:=by simp[Ff]
theorem EH{j:Nat}(hj:j<pa.length):(Ff pa m now old)[j]'(by rw[C8];exact hj)=if j<m/\pa[j]=now then old else pa[j]:=by simp[Ff]
theorem Tm(pa:List Int)(now old:Int):Ff pa 0 now old=pa:=by refine List.ext_getElem (by rw[C8]) fun j h1 h2=>?_;rw[EH h2,if_neg (fun q=>by omega)]
theorem Ww(hm:m<pa.length)(h:pa[m]=now):(Ff pa m now old).set m old=Ff pa (m+1) now old:=by
 refine List.ext_getElem (by rw[length_set,C8,C8]) fun j h1 h2=>?_;rw[C8]at h2;rw[List.getElem_set];by_cases e:m=j
 ·subst e;rw[if_pos rfl,EH h2,if_pos ⟨by omega,h⟩]
 ·rw[if_neg e,EH h2,EH h2];by_cases h3:j<m
  ·simp only[h3,true_and,show j<m+1 by omega]
  ·rw[if_neg (fun q=>h3 q.1),if_neg (fun q=>by omega)]
theorem Y1(hm:m<pa.length)(h:pa[m]≠now):Ff pa m now old=Ff pa (m+1) now old:=by
 refine List.ext_getElem (by rw[C8,C8]) fun j h1 h2=>?_;rw[C8]at h2;rw[EH h2,EH h2];by_cases e:m=j
 ·subst e;rw[if_neg (fun q=>by omega),if_neg (fun q=>h q.2)]
 ·by_cases h3:j<m
  ·simp only[h3,true_and,show j<m+1 by omega]
  ·rw[if_neg (fun q=>h3 q.1),if_neg (fun q=>by omega)]
structure S2 where
 ids:List Int
 su:List Int
 ma:List Int
 fi:List Int
 pa:List Int
def S2.add(S:S2)(i:Nat)(id:Int):S2:=if Ec S.ids id=S.ids.length then⟨S.ids++[id],S.su++[0],S.ma++[0],S.fi++[(i:Int)],S.pa⟩ else S
def S2.hit(S:S2)(i k:Nat)(w:Int):S2:=⟨S.ids,S.su.set k (S.su.getD k 0+w),S.ma.set k (S.ma.getD k 0+1),S.fi,Ff S.pa (i+1) (S.pa.getD i 0) (S.pa.getD (S.fi.getD k 0).toNat 0)⟩
def S2.side(S:S2)(i:Nat)(w:Int)(r:Int×Int):S2:=(S.add i r.1).hit i (Ec S.ids r.1) (w*r.2)
def S2.sides(S:S2)(i:Nat)(w:Int)(l:List (Int×Int)):S2:=l.foldl (fun S r=>S.side i w r) S
theorem S2.sides_snoc(S:S2)(i:Nat)(w:Int)(l:List (Int×Int))(r:Int×Int):S.sides i w (l++[r])=(S.sides i w l).side i w r:=by unfold S2.sides;rw[List.foldl_append];rfl
def S2.start(S:S2)(i:Nat):S2:=⟨S.ids,S.su,S.ma,S.fi,S.pa.set i (i:Int)⟩
def Fm(l:List Cl)(x:Cl)(i:Nat):Cl:=l.getD (I5 l (Bp x i).1).toNat default
def Ha(l:List Cl)(x:Cl):Nat->S2
 | 0=>⟨[],[],[],[],replicate x.sd.length 0⟩
 | i+1=>((Ha l x i).start i).sides i (Bp x i).2 (Fm l x i).sd
def DL(l:List Cl)(x:Cl):Int:=
 if ¬∀y∈(Ha l x x.sd.length).su,y=0 then 24
 else if ¬∀y∈(Ha l x x.sd.length).ma,y=2 then 25
 else if ¬∀y∈(Ha l x x.sd.length).pa,y=(Ha l x x.sd.length).pa.getD 0 0 then 25 else 0
structure S2.Ok(S:S2)(T n:Nat):Prop where
 s:S.su.length=S.ids.length
 m:S.ma.length=S.ids.length
 f:S.fi.length=S.ids.length
 p:S.pa.length=n
 t:S.ids.length<=T
 sb:∀y∈S.su,-(T:Int)<=y/\y<=T
 mb:∀y∈S.ma,0<=y/\y<=T
 fb:∀y∈S.fi,0<=y/\y<n
theorem G0{a y:Int}(h:y∈l++[a]):y∈l\/y=a:=by
 rcases List.mem_append.1 h with h|h
 ·exact .inl h
 ·exact .inr (List.mem_singleton.1 h)
theorem S2.Ok.add{S:S2}(K:S.Ok T n)(hi:i<n)(id:Int):(S.add i id).Ok (T+1) n/\Ec S.ids id<(S.add i id).ids.length:=by
 have hf:=Ox S.ids id;unfold S2.add;split
 ·rename_i h;refine⟨⟨by simp[K.s],by simp[K.m],by simp[K.f],K.p,by simp[K.t],fun y hy=>?_,fun y hy=>?_,fun y hy=>?_⟩,by rw[length_append,length_singleton];omega⟩
  ·rcases G0 hy with h|rfl
   ·have:=K.sb y h;omega
   ·omega
  ·rcases G0 hy with h|rfl
   ·have:=K.mb y h;omega
   ·omega
  ·rcases G0 hy with h|rfl
   ·exact K.fb y h
   ·omega
 ·rename_i h;exact⟨⟨K.s,K.m,K.f,K.p,by have:=K.t;omega,fun y hy=>by have:=K.sb y hy;omega,fun y hy=>by have:=K.mb y hy;omega,K.fb⟩,by omega⟩
theorem NT(hk:k<l.length):l.getD k 0∈l:=by simp[List.getD,hk]
theorem S2.Ok.hit{S:S2}(K:S.Ok (T+1) n){U:S2}(KU:U.Ok T n)(hsu:∀y∈S.su,-(T:Int)<=y/\y<=T)(hma:∀y∈S.ma,0<=y/\y<=T)(hk:k<S.ids.length)(hw:w=1\/w=-1):(S.hit i k w).Ok (T+1) n:=by
 have h1:=hsu _ (NT (show k<S.su.length by rw[K.s];exact hk));have h2:=hma _ (NT (show k<S.ma.length by rw[K.m];exact hk));refine⟨by show(List.set _ _ _).length=_;rw[length_set];exact K.s,by show(List.set _ _ _).length=_;rw[length_set];exact K.m,K.f,by show(Ff _ _ _ _).length=_;rw[C8];exact K.p,K.t,fun y hy=>?_,fun y hy=>?_,K.fb⟩
 ·rcases List.mem_or_eq_of_mem_set hy with h|rfl
  ·exact K.sb y h
  ·rcases hw with rfl|rfl<;>omega
 ·rcases List.mem_or_eq_of_mem_set hy with h|rfl
  ·exact K.mb y h
  ·omega
theorem S2.add_su{S:S2}(K:S.Ok T n)(i:Nat)(id:Int):(∀y∈(S.add i id).su,-(T:Int)<=y/\y<=T)/\∀y∈(S.add i id).ma,0<=y/\y<=T:=by
 unfold S2.add;split
 ·refine⟨fun y hy=>?_,fun y hy=>?_⟩
  ·rcases G0 hy with h|rfl
   ·exact K.sb y h
   ·omega
  ·rcases G0 hy with h|rfl
   ·exact K.mb y h
   ·omega
 ·exact⟨K.sb,K.mb⟩
theorem S2.Ok.side{S:S2}(K:S.Ok T n)(hi:i<n){r:Int×Int}(hw:w*r.2=1\/w*r.2=-1):(S.side i w r).Ok (T+1) n:=
 S2.Ok.hit (K.add hi r.1).1 K (S2.add_su K i r.1).1 (S2.add_su K i r.1).2 (K.add hi r.1).2 hw
theorem S2.Ok.start{S:S2}(K:S.Ok T n):(S.start i).Ok T n:=⟨K.s,K.m,K.f,by show(List.set _ _ _).length=n;rw[length_set];exact K.p,K.t,K.sb,K.mb,K.fb⟩
theorem NW{a b:Int}(ha:a=1\/a=-1)(hb:b=1\/b=-1):a*b=1\/a*b=-1:=by rcases ha with rfl|rfl<;>rcases hb with rfl|rfl<;>decide
theorem S2.Ok.sides(hi:i<n)(hw:w=1\/w=-1):∀(l:List (Int×Int)) (S:S2) (T:Nat),S.Ok T n->(∀r∈l,r.2=1\/r.2=-1)->(S.sides i w l).Ok (T+l.length) n
 | [],S,T,K,_=>K
 | r::l,S,T,K,h=>by have:=S2.Ok.sides hi hw l (S.side i w r) (T+1) (K.side hi (NW hw (h r Mh))) (fun r hr=>h r (mem_cons_of_mem _ hr));rw[length_cons,show T+(l.length+1)=T+1+l.length by omega];exact this
end Go.Proofs.Q
