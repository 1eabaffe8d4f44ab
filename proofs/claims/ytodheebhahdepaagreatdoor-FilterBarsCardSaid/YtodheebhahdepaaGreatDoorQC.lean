/- A part of the proof. -/
import Derived.Test.YtodheebhahdepaaGreatDoorQB
import Derived.Test.YtodheebhahdepaaGreatDoorChecked
import Derived.KernelRfl
import Derived.WalkArith
set_option linter.unusedSimpArgs false
set_option linter.unusedVariables false
set_option linter.unusedSectionVars false
set_option maxRecDepth 100000
set_option maxHeartbeats 4000000
open List (length_map length_singleton getElem_mem replicate range length_append nil_append length_take mem_cons cons_append map_append mem_cons_of_mem length_nil length_drop append_assoc getElem_map length_cons take_zero drop_zero take_succ_cons drop_succ_cons not_mem_nil)
namespace Go.Eng
open Go.RowKit
section
variable {e:Entry} {Q:Exit->Act->World->Prop} {ops:Array Oper} {rest:List Oper} {o:Oper} {s:Aw} {h:Hp} {ms:List Hp}
theorem UU(z:Array Value)(n:Nat):(Builtin.zeroCells z n).toList.length=n*z.size:=by simp[Builtin.zeroCells]
theorem Vg{z:Array Value}{n:Nat}(h1:∀c∈z,c.oneCell'=true):∀c∈(Builtin.zeroCells z n).toList,c.oneCell'=true:=by
  intro c hc;simp only[Builtin.zeroCells,Array.toList_map,List.mem_map]at hc;obtain⟨i,hi,rfl⟩:=hc;have hi':i<n*z.size:=by simpa using hi
  have hz:0<z.size:=by
    rcases Nat.eq_zero_or_pos z.size with h|h
    · rw[h]at hi';omega
    · exact h
  have hm:=Nat.mod_lt i hz;rw[getElem!_pos z _ hm];exact h1 _ (Array.getElem_mem hm)
theorem Sp{α:Type}{F:α->List Value}{t el:TypeId}{m:Hp}{v:Value}{l:List α}{x:Operand}{z:Value}{sz bytes:Nat}(i n:Nat)(O:OwnL F sz el m v l)(hn:n<=l.length)(ho:o.op=.call { callee:=.builtin .clear,args:=#[x],argTypes:=#[t] })(ht:e.P.underlying t=some (.slice el))(hs:Elem e.P el sz z bytes)(hz:z.cells.size=sz)(h1:∀c∈z.cells,c.oneCell'=true)
    (hx:ev s x=some (BS sz v n l.length)) (hm:ms[i]?=some m) (hd:o.dst=none) (hg:o.guard=none)
    (K:∀m',OwnL F sz el m' (BS sz v 0 n) (l.take n)->WL e ops Q rest s h (ms.set i m')):WL e ops Q (o::rest) s h ms:=by
  have hP:=O.pre hn
  have hset:ms.set i m=ms:=by
    refine List.ext_getElem? fun j=>?_;rw[List.getElem?_set];split
    · next hij=>subst hij;split
                · exact hm.symm
                · next hlt=>exact(List.getElem?_eq_none (by omega)).symm
    · rfl
  have nothing:(∀w ty,(Builtin.clear_ #[t] ty #[BS sz v n l.length]).run e.P w=.ok (.tuple #[]) w)->WL e ops Q (o::rest) s h ms:=fun hh=>by
    refine Kr (post:=fun _ h' ms'=>h'=h/\ms'=ms) (fun ρ w hρ hw=>?_) hd hg fun _ _ _ ⟨e4,e5⟩=>by
      subst e4 e5;have:=K m hP
      rwa [hset]at this
    have:(execOp ρ o).run e.P w=.ok (.value (.tuple #[])) w:=by simp[execOp,ho,hρ _ _ hx,resolve,invoke,builtin,hh]
    unfold OpRes;rw[this];exact⟨h,_,hw,rfl,rfl⟩
  obtain⟨⟨h2,h3⟩,hF⟩:=O;rcases h3 with ⟨rfl,h5,rfl⟩|⟨g,cap,spare,rfl,rfl,h6,h7,h8⟩
  · refine nothing fun w ty=>?_
    have:BS sz (.slice none 0 0) n l.length=.slice none (l.length-n) (0-n):=by unfold BS;simp
    rw[this];simp[Builtin.clear_,run_underlying ht]
  · rcases Nat.eq_zero_or_pos (l.length-n) with h0|h0
    · refine nothing fun w ty=>?_;have:∃a c,BS sz (.slice (some ⟨g,0,none⟩) l.length cap) n l.length=.slice a 0 c:=⟨_,_,by unfold BS;rw[h0]⟩
      obtain⟨a,c,this⟩:=this;rw[this];cases a<;>simp[Builtin.clear_,run_underlying ht]
    · have hcn:¬cap=n:=by omega
      have hvs:BS sz (.slice (some ⟨g,0,none⟩) l.length cap) n l.length=.slice (some ⟨g,n*sz,none⟩) (l.length-n) (cap-n):=by
        unfold BS;simp only;rw[if_neg hcn];have:(⟨g,0,none⟩:Addr).add (n*sz)=⟨g,n*sz,none⟩:=by unfold Addr.add;split<;>simp_all
        simp only[Option.map_some,this]
      rw[hvs]at hx;obtain⟨Z,hZ⟩:∃Z,(Builtin.zeroCells z.cells (l.length-n)).toList=Z:=⟨_,rfl⟩
      have hZl:Z.length=(l.length-n)*sz:=by rw[<-hZ,UU,hz]
      have hZ1:∀c∈Z,c.oneCell'=true:=by rw[<-hZ];exact Vg h1
      have hsm:n*sz+(l.length-n)*sz=l.length*sz:=by rw[<-Nat.add_mul];congr 1;omega
      have hfl:(l.flatMap F).length=l.length*sz:=A7 hF l;obtain⟨L,hL⟩:∃L,l.flatMap F++spare=L:=⟨_,rfl⟩
      have hLl:l.length*sz<=L.length:=by rw[<-hL,length_append,hfl];omega
      have hsp:l.flatMap F=(l.take n).flatMap F++(l.drop n).flatMap F:=by rw[<-List.flatMap_append,List.take_append_drop]
      have hL2:(l.take n).flatMap F++((l.drop n).flatMap F++spare)=L:=by rw[<-append_assoc,<-hsp,hL]
      have hft:((l.take n).flatMap F).length=n*sz:=by rw[A7 hF,length_take,Nat.min_eq_left hn]
      have hLt:L.take (n*sz)=(l.take n).flatMap F:=by rw[<-hL2,<-hft,List.take_left]
      have hNew:L.take (n*sz)++Z++L.drop (n*sz+Z.length)=(l.take n).flatMap F++(Z++L.drop (n*sz+Z.length)):=by rw[hLt,append_assoc]
      refine Kr (post:=fun _ h' ms'=>h'=h/\ms'=ms.set i (Bi g el (L.take (n*sz)++Z++L.drop (n*sz+Z.length)))) (fun ρ w hρ hw=>?_) hd hg fun _ _ _ ⟨e4,e5⟩=>by
        subst e4 e5
        have hv:BS sz (.slice (some ⟨g,0,none⟩) l.length cap) 0 n=.slice (some ⟨g,0,none⟩) n cap:=by
          unfold BS;by_cases h0:cap=0
          · omega
          · show Value.slice (if cap=0 then _ else _) (n-0) (cap-0)=_;rw[if_neg h0,Nat.zero_mul];rfl
        refine K _ ⟨⟨A7 hF _,.inr ⟨g,cap,Z++L.drop (n*sz+Z.length),?_,?_,?_,?_,h8⟩⟩,hF⟩
        · rw[length_take,Nat.min_eq_left hn];exact hv
        · rw[hNew]
        · rw[<-hNew];have:(L.take (n*sz)++Z++L.drop (n*sz+Z.length)).length=L.length:=by simp;omega
          rw[this,<-hL];exact h6
        · rw[length_take,Nat.min_eq_left hn];omega
      rw[hL]at hm;have hgw:w.heap[g]?=some (.cells L.toArray el (0,0)):=hw.st.own _ (List.mem_of_getElem? hm) g _ (Hp.one_self _ _);have hst:=run_storeCells_at (P:=e.P) g (n*sz) el Z 0 _ w hgw (by simp only[List.size_toArray];omega) hZ1
      have:(execOp ρ o).run e.P w=.ok (.value (.tuple #[])) (w.setRow g (L.take (n*sz)++Z++L.drop (n*sz+Z.length)).toArray):=by
        obtain⟨q,hq⟩:∃q,l.length-n=q+1:=⟨l.length-n-1,by omega⟩
        rw[hq]at hx hZ;simp[execOp,ho,hρ _ _ hx,resolve,invoke,builtin,Builtin.clear_,run_underlying ht,hs.zeroValue,hZ];simp at hst;rw[hst];rfl
      unfold OpRes;rw[this];exact⟨h,_,Ends.put hw hm rfl ⟨rfl,Nat.le_refl _⟩ rfl (by simp) (setRow_heap w g _ _ _ _ hgw) (fun k hk hne=>setRow_other w g k _ hne),rfl,rfl⟩
end
end Go.Eng
namespace Go.Eng
section
variable {P:Program} {o:Oper} {s:Aw} {h:Hp} {ms:List Hp} {t u:TypeId} {x y:Operand}
theorem W3{a:Int}{n:Nat}{k:IntKind}(ho:o.op=.binOp .shr t x y u)(hx:ev s x=some (.int .i64 a))(hy:ev s y=some (.int k n))(hn:n<=64):OX P o s h ms (.int .i64 (a.fdiv (2^n))):=
  Bn fun ρ w hρ _=>by
    have h1:¬((n:Int)<0):=by omega
    have h2:min n 64=n:=Nat.min_eq_left hn;simp[execOp,ho,hρ _ _ hx,hρ _ _ hy,Op.shift,h1,IntKind.bits,h2,go_sem]<;>exact(Int.fdiv_eq_ediv_of_nonneg a (Int.le_of_lt (Int.pow_pos (by decide)))).symm
def AaD(a b:Int):Int:=IntKind.i64.wrap ((BitVec.ofInt 64 a &&& BitVec.ofInt 64 b).toNat:Int)
theorem WE{a b:Int}(ho:o.op=.binOp .and t x y u)(hx:ev s x=some (.int .i64 a))(hy:ev s y=some (.int .i64 b)):OX P o s h ms (.int .i64 (AaD a b)):=
  Bn fun ρ w hρ _=>by simp[execOp,ho,hρ _ _ hx,hρ _ _ hy,Op.intBits,IntKind.bits,go_sem];rfl
end
end Go.Eng
namespace Go.Eng
variable {n:Nat} {cs:List Value}
def OwnO(el:TypeId)(sz:Nat)(m:Hp)(v:Value)(n:Nat)(cs:List Value):Prop:=
  cs.length=n*sz/\((v=.slice none 0 0/\n=0/\m=Hp.emp) ∨
    ∃g cap pre spare,v=.slice (some ⟨g,pre.length,none⟩) n cap/\m=Bi g el (pre++(cs++spare))/\cap*sz<=(cs++spare).length/\n<=cap/\cap<=9223372036854775807)
theorem Own.o{el:TypeId}{sz:Nat}{m:Hp}{v:Value}(O:Own el sz m v n cs):OwnO el sz m v n cs:=by
  obtain⟨h1,h2⟩:=O;refine⟨h1,?_⟩;rcases h2 with h|⟨g,cap,spare,rfl,rfl,e1,e2,e3⟩
  · exact .inl h
  · exact .inr ⟨g,cap,[],spare,rfl,rfl,by omega,e2,e3⟩
theorem OwnO.rd{el:TypeId}{sz:Nat}{m:Hp}{v:Value}(O:OwnO el sz m v n cs){h:Hp}{ms:List Hp}(hm:m∈ms):Rd h ms v sz n cs:=by
  obtain⟨h1,h2⟩:=O;rcases h2 with ⟨rfl,rfl,rfl⟩|⟨g,cap,pre,spare,rfl,rfl,e1,e2,e3⟩
  · exact⟨none,0,rfl,Nat.le_refl _,by omega,h1,fun h=>by omega⟩
  · refine⟨_,cap,rfl,e2,e3,h1,fun _=>⟨_,rfl,fun j v hv=>?_⟩⟩;obtain⟨i,hi⟩:=List.getElem?_of_mem hm
    have:Cell h ms ((⟨g,0,none⟩:Addr).add (pre.length+j)) v:=Cell.blk i hi (by
      rw[List.getElem?_append_right (by omega),Nat.add_sub_cancel_left,List.getElem?_append_left (List.getElem?_eq_some_iff.1 hv).1];exact hv)
    have e:(⟨g,0,none⟩:Addr).add (pre.length+j)=(⟨g,pre.length,none⟩:Addr).add j:=by unfold Addr.add;split<;>split<;>simp_all<;>omega
    rwa [e]at this
theorem OwnO.tail{el:TypeId}{sz:Nat}{m:Hp}{v:Value}(O:OwnO el sz m v (n+1) cs):OwnO el sz m (BS sz v 1 (n+1)) n (cs.drop sz):=by
  obtain⟨h1,h2⟩:=O;have hc:sz<=cs.length:=by rw[h1,Nat.add_mul];omega
  refine⟨by rw[length_drop,h1,Nat.add_mul];omega,?_⟩;rcases h2 with ⟨_,h,_⟩|⟨g,cap,pre,spare,rfl,rfl,e1,e2,e3⟩
  · omega
  · right
    rw[length_append]at e1;by_cases hcap:cap=1
    · subst hcap;obtain rfl:n=0:=by omega
      refine⟨g,0,pre,cs++spare,?_,?_,by omega,by omega,by omega⟩
      · simp[BS]
      · rw[List.drop_eq_nil_of_le (by omega),nil_append]
    · refine⟨g,cap-1,pre++cs.take sz,spare,?_,?_,?_,by omega,by omega⟩
      · simp only[BS];rw[if_neg hcap,length_append,length_take,Nat.min_eq_left hc];simp[Addr.add]
      · rw[append_assoc,<-append_assoc (cs.take sz),List.take_append_drop]
      · rw[length_append,length_drop,Nat.sub_mul];omega
section
variable {P:Program}
theorem IR(w:World)(t ty e:TypeId)(i:TypeInfo)(ht:P.underlying t=some (.slice e))(hi:P.info? e=some i)
    (g o sLen sCap:Nat) (cur:Array Value) (hg:w.heap[g]?=some (.cells cur e (0,0)))
    (a:Addr) (m c:Nat) (news:List Value) (hl:news.length=m*i.size) (hnews:∀j u,news[j]?=some u->w.cell? (a.add j)=some u) (h1:∀u∈news,u.oneCell'=true)
    (hroom:sLen+m<=sCap) (hfit:o+sLen*i.size+news.length<=cur.size) :
    (Builtin.append_ #[t,t] ty #[.slice (some ⟨g,o,none⟩) sLen sCap,.slice (some a) m c]).run P w =
      .ok (.slice (some ⟨g,o,none⟩) (sLen+m) sCap) (w.setRow g (cur.toList.take (o+sLen*i.size)++news++cur.toList.drop (o+sLen*i.size+news.length)).toArray):=by
  have hf:=run_firstCells_some (P:=P) w i.size m a m c news hl hnews;have hst:=run_storeCells_at P g (o+sLen*i.size) e news 0 cur w hg (by simpa using hfit) h1;simp only[Nat.add_zero]at hst;simp[Builtin.append_,run_underlying ht,sizeOf,typeInfo,hi,Builtin.lenOf,hroom,hf,Addr.add_lit,hst]
theorem Om{w0 w:World}{h0 h:Hp}{ms0 ms:List Hp}{m:Hp}(H:Ends w0 h0 ms0 w h (m::ms))(t ty el:TypeId){sz:Nat}{z:Value}{bytes:Nat}(ht:P.underlying t=some (.slice el))(hs:Elem P el sz z bytes)(hzs:z.cells.size=sz)(hsz:0<sz)
    {v x:Value} {k:Nat} {news:List Value} (O:OwnO el sz m v n cs) (R:Rd h (m::ms) x sz k news) (h1:∀u∈news,u.oneCell'=true) (hb:(n+k)*bytes<=140737488355328) (hb63:n+k<=9223372036854775807) :
    ∃v' w' m',(Builtin.append_ #[t,t] ty #[v,x]).run P w=.ok v' w'/\OwnO el sz m' v' (n+k) (cs++news)/\Ends w0 h0 ms0 w' h (m'::ms):=by
  have O0:=O;obtain⟨hcl,hO⟩:=O;rcases hO with ⟨rfl,rfl,rfl⟩|⟨g,cap,pre,spare,rfl,rfl,e1,e2,e3⟩
  · have O1:Own el sz Hp.emp (.slice none 0 0) 0 cs:=⟨hcl,.inl ⟨rfl,rfl,rfl⟩⟩
    obtain⟨v',w',m',hr,hO',hE⟩:=Kk H t ty el ht hs hzs hsz O1 R h1 hb hb63;exact⟨v',w',m',hr,hO'.o,hE⟩
  obtain⟨a,c,rfl,hkc,hcm,hnl,hq⟩:=R.ex;obtain⟨i,hi,hz,his,hib⟩:=hs.info;rcases Nat.eq_zero_or_pos k with rfl|hk
  · have hnews:news=[]:=List.eq_nil_of_length_eq_zero (by simpa using hnl);subst hnews;exact⟨_,w,_,Ex w t ty el ht hs _ a n cap c e2,by simpa using O0,H⟩
  · obtain⟨q,rfl,hseg⟩:=hq hk;have hnews:∀j u,news[j]?=some u->w.cell? (q.add j)=some u:=fun j u e=>H.st.cell (hseg j u e)
    have hcap:∀old,grownCap w (n+k) old el<=9223372036854775807/\n+k<=grownCap w (n+k) old el:=fun old=>
      ⟨grownCap_le_maxLen w (n+k) old el (by simp only[maxLen];omega),grownCap_ge w (n+k) old el⟩
    have hzl:∀N,(Builtin.zeroCells z.cells N).toList.length=N*sz:=fun N=>by rw[Array.length_toList,size_zeroCells,hzs]
    have hgw:w.heap[g]?=some (.cells (pre++(cs++spare)).toArray el (0,0)):=H.st.own _ (List.mem_cons_self) g _ (Hp.one_self _ _);have hln:news.length=k*sz:=hnl;by_cases hroom:n+k<=cap
    · have h2:(n+k)*sz<=cap*sz:=Nat.mul_le_mul_right _ hroom;rw[Nat.add_mul]at h2;rw[length_append]at e1;have hsp:news.length<=spare.length:=by omega
      have hfit:pre.length+n*i.size+news.length<=(pre++(cs++spare)).toArray.size:=by rw[his,List.size_toArray,length_append,length_append];omega
      have hr:=IR (P:=P) w t ty el i ht hi g pre.length n cap (pre++(cs++spare)).toArray hgw q k c news (by rw[his];exact hnl) hnews h1 hroom hfit
      have e5:(List.take (pre.length+n*i.size) (pre++(cs++spare)).toArray.toList++news++List.drop (pre.length+n*i.size+news.length) (pre++(cs++spare)).toArray.toList)=pre++(cs++news++spare.drop news.length):=by
        rw[his,<-hcl]
        have hd:List.drop (pre.length+cs.length+news.length) (pre++(cs++spare))=spare.drop news.length:=by rw[<-append_assoc,<-List.drop_drop,<-length_append,List.drop_left]
        have ht':List.take (pre.length+cs.length) (pre++(cs++spare))=pre++cs:=by rw[<-append_assoc,<-length_append,List.take_left]
        simp only[ht',hd,append_assoc]
      rw[e5]at hr;refine⟨_,_,_,hr,⟨by rw[length_append,hcl,hnl,Nat.add_mul],.inr ⟨g,cap,pre,spare.drop news.length,rfl,rfl,?_,hroom,e3⟩⟩,?_⟩
      · rw[length_append,length_append,length_drop];omega
      · exact Ends.change H rfl ⟨rfl,Nat.le_refl _⟩ rfl (by simp) (setRow_heap w g _ _ _ _ hgw) (fun j hj hne=>setRow_other w g j _ hne)
    · have hR:=OwnO.rd O0 (h:=h) (ms:=Bi g el (pre++(cs++spare))::ms) (List.Mem.head _)
      have holds:∀j u,cs[j]?=some u->w.cell? ((⟨g,pre.length,none⟩:Addr).add j)=some u:=fun j u hv=>by
        rcases Nat.eq_zero_or_pos n with rfl|hn
        · have:cs=[]:=List.eq_nil_of_length_eq_zero (by simpa using hcl);subst this;simp at hv
        · obtain⟨a',c',e',_,_,_,hq'⟩:=hR.ex;obtain⟨q',hq1,hq2⟩:=hq' hn;simp only[Value.slice.injEq]at e';obtain⟨e',_,_⟩:=e';rw[hq1]at e';obtain rfl:=Option.some.inj e';exact H.st.cell (hq2 j u hv)
      have hr:=run_append_grow (P:=P) w t ty el i z ht hi hz ⟨g,pre.length,none⟩ n cap cs (by rw[his];exact hcl) holds q k c news (by rw[his];exact hnl) hnews (by omega) (by omega) (by rw[hib];exact growslice_fits (by omega) hb);refine⟨_,_,_,hr,⟨by rw[length_append,hcl,hnl,Nat.add_mul],.inr ⟨w.heap.size,grownCap w (n+k) cap el,[],(Builtin.zeroCells z.cells (grownCap w (n+k) cap el-(n+k))).toList,rfl,rfl,?_,(hcap cap).2,(hcap cap).1⟩⟩,?_⟩
      · rw[length_append,length_append,hzl,hcl,hnl,<-Nat.add_mul,<-Nat.add_mul];refine Nat.mul_le_mul_right _ ?_;have:=(hcap cap).2;omega
      · have:=Ends.alloc (Ends.drew (Ends.drop H)) (.cells (cs.toArray++news.toArray++Builtin.zeroCells z.cells (grownCap w (n+k) cap el-(n+k))) el)
        have e:([]++(cs++news++(Builtin.zeroCells z.cells (grownCap w (n+k) cap el-(n+k))).toList)).toArray=cs.toArray++news.toArray++Builtin.zeroCells z.cells (grownCap w (n+k) cap el-(n+k)):=by apply Array.ext';simp
        unfold Bi;rw[e];exact this
end
structure OwnQ{α:Type}(F:α->List Value)(sz:Nat)(el:TypeId)(m:Hp)(v:Value)(l:List α):Prop where
  own:OwnO el sz m v l.length (l.flatMap F)
  len:∀x,(F x).length=sz
section
variable {α:Type} {F:α->List Value} {sz:Nat} {h:Hp} {ms:List Hp} {v:Value} {l:List α} {el:TypeId} {m:Hp}
theorem OwnL.q(O:OwnL F sz el m v l):OwnQ F sz el m v l:=⟨O.own.o,O.len⟩
theorem OwnQ.rd(O:OwnQ F sz el m v l)(hm:m∈ms):RdL F sz h ms v l:=⟨O.own.rd hm,O.len⟩
theorem OwnQ.o1(O:OwnQ F sz el m v l):v.oneCell'=true:=(O.rd (h:=Hp.emp) (ms:=[m]) (List.Mem.head _)).rd.one
theorem OwnQ.tail{x:α}(O:OwnQ F sz el m v (x::l)):OwnQ F sz el m (BS sz v 1 (l.length+1)) l:=by have:=OwnO.tail (n:=l.length) (cs:=(x::l).flatMap F) O.own;rw[List.flatMap_cons,<-O.len x,List.drop_left,O.len x]at this;exact⟨this,O.len⟩
theorem KB{e:Entry}{Q:Exit->Act->World->Prop}{ops:Array Oper}{rest:List Oper}{o:Oper}{s:Aw}{t:TypeId}{d:Nat}{z:Value}{bytes:Nat}{x y:Operand}{u:Value}{r:List α}(i:Nat)(O:OwnQ F sz el m v l)(R:RdL F sz h ms u r)(ho:o.op=.call { callee:=.builtin .append,args:=#[x,y],argTypes:=#[t,t] })(ht:e.P.underlying t=some (.slice el))(hs:Elem e.P el sz z bytes)(hzs:z.cells.size=sz)(hsz:0<sz)
    (hx:ev s x=some v) (hy:ev s y=some u) (hm:ms[i]?=some m) (h1:∀a∈r,∀c∈F a,c.oneCell'=true) (hb:(l.length+r.length)*bytes<=140737488355328) (hb63:l.length+r.length<=9223372036854775807) (hd:o.dst=some d) (hn:Nat.blt d e.n=true) (hg:o.guard=none)
    (K:∀v' m',OwnQ F sz el m' v' (l++r)->WL e ops Q rest ((d,v')::s) h (ms.set i m')):WL e ops Q (o::rest) s h ms:=
  Hn (post:=fun v' h' ms'=>∃m',h'=h/\ms'=ms.set i m'/\OwnO el sz m' v' (l.length+r.length) (l.flatMap F++r.flatMap F)) (fun ρ w hρ hw=>by
    obtain⟨r',p1,_⟩:=FQ ms i m m hm;obtain⟨v',w',m',hr,hO,hE⟩:=Om (P:=e.P) (Ends.perm hw p1) t o.type el ht hs hzs hsz O.own (R.rd.sub (fun m hm=>p1.mem_iff.1 hm)) (fun c hc=>by obtain⟨a,hm',ha⟩:=List.mem_flatMap.1 hc;exact h1 a hm' c ha) hb hb63
    have:(execOp ρ o).run e.P w=.ok (.value v') w':=by simp[execOp,ho,hρ _ _ hx,hρ _ _ hy,resolve,invoke,builtin,hr]
    unfold OpRes;rw[this];obtain⟨r'',q1,q2⟩:=FQ ms i m m' hm;have pr:(m'::r').Perm (ms.set i m'):=((List.Perm.cons_inv (p1.symm.trans q1)).cons m').trans q2.symm
    exact⟨h,_,Ends.perm hE pr,m',rfl,rfl,hO⟩) hd hn hg fun v' h' ms' ⟨m',e1,e2,e3⟩=>by subst e1 e2;exact K v' m' ⟨by rw[length_append,List.flatMap_append];exact e3,O.len⟩
end
end Go.Eng

namespace Go.Eng
theorem FnT.borrow{P:Program}{f:FuncId}{args:Array Value}{h m:Hp}{post:Hp->Value->Hp->List Hp->Prop}(kf:∀hj,h.le hj->m.le hj->FnT P f args hj [] (post hj)) :
    FnT P f args h [m] (fun r h' ms'=>h.le h'/\∃hj h2 ms2,h.le hj/\post hj r h2 ms2/\h'.le h2/\ms'=m::ms2/\∀h3:Hp,h3.le h2->m.disj h3->h3.le h'):=by
  intro w hw;have hd:m.disj h:=hw.off m (List.Mem.head _);have E0:=Ends.freeze (Ends.refl hw);refine(kf _ (Hp.le_join _ _) (Hp.join_le_right hd) w E0.st).mono fun x w' ⟨r,h2,ms2,e1,E,hp⟩=>?_;have hm2:m.le h2:=Hp.le_trans (Hp.join_le_right hd) E.le;have hh2:h.le h2:=Hp.le_trans (Hp.le_join _ _) E.le
  have hdh:h.le (fun k=>if m k=none then h2 k else none):=fun k o e=>by
    show(if m k=none then h2 k else none)=some o;rcases hd k with h1|h1
    · rw[if_pos h1];exact hh2 k o e
    · rw[h1]at e;cases e
  refine⟨r,fun k=>if m k=none then h2 k else none,m::ms2,e1,?_,hdh,h.join m,h2,ms2,Hp.le_join _ _,hp,fun k o e=>?_,rfl,fun h3 l3 d3 k o e=>?_⟩
  · refine⟨⟨fun k o e=>?_,fun m' hm'=>?_,fun m' hm' k=>?_,List.pairwise_cons.2 ⟨fun m' hm' k=>?_,E.st.apart⟩⟩,E.os,E.tape,E.output,E.size,fun k hk _=>E.block k hk (by simp),hdh,fun k hk hm=>?_,fun m' hm' k hk hn=>?_⟩
    · have e:(if m k=none then h2 k else none)=some o:=e;split at e
      · exact E.st.imm k o e
      · cases e
    · rcases List.mem_cons.1 hm' with rfl|hm'
      · exact fun k o e=>E.st.imm k o (hm2 k o e)
      · exact E.st.own m' hm'
    · show m' k=none\/(if m k=none then h2 k else none)=none;rcases List.mem_cons.1 hm' with rfl|hm'
      · by_cases h1:m' k=none
        · exact .inl h1
        · right;rw[if_neg h1]
      · rcases E.st.off m' hm' k with h1|h1
        · exact .inl h1
        · right;rw[h1];split<;>rfl
    · rcases E.st.off m' hm' k with h1|h1
      · exact .inr h1
      · left
        cases e:m k with
        | none=>rfl
        | some o=>rw[hm2 k o e]at h1;cases h1
    · have hmk:m k=none:=hm m (List.Mem.head _);show(if m k=none then h2 k else none)=h k;rw[if_pos hmk,E.hnew k hk (by simp)];unfold Hp.join;cases h k with
      | none=>exact hmk
      | some o=>rfl
    · rcases List.mem_cons.1 hm' with rfl|hm'
      · exact⟨m',List.Mem.head _,hn⟩
      · obtain⟨m0,h0,_⟩:=E.mnew m' hm' k hk hn;cases h0
  · have e:(if m k=none then h2 k else none)=some o:=e;split at e
    · exact e
    · cases e
  · show(if m k=none then h2 k else none)=some o;rcases d3 k with h1|h1
    · rw[if_pos h1];exact l3 k o e
    · rw[h1]at e;cases e
open Go.RowKit
variable {ops:Array Oper} {j i:Nat} {o:Oper}
def IQ(ops:Array Oper)(i:Nat):List Nat:=match ops[i]? with
  | none=>[]
  | some o=>o.after.toList.filterMap fun e=>if Region.binds .any e then some e.on else none
def Nz(ops:Array Oper):Nat->List Nat->List Nat
  | 0,m=>m
  | k+1,m=>Nz ops k (if m.contains k then IQ ops k++m else m)
def T6(ops:Array Oper)(np:Nat):Bool:=
  Nat.ble np ops.size&&Region.noSelect ops &&
  (range ops.size).all fun i=>match ops[i]? with
    | none=>false
    | some o=>backs o i &&
      if i<np then
        ((range np).all fun j=>j==i||(match o.dst with|some d=>AW ops j != some d|none=>true)) &&
        ((o.looksAt ops).all fun t=>(range np).all fun j=>AW ops j != some t||(j<i&&FI o j))
      else(range i).all fun j=>(Nz ops i (IQ ops i)).contains j
theorem LA(h:j∈IQ ops i):∃o,ops[i]?=some o/\FI o j=true:=by
  unfold IQ at h;split at h
  · cases h
  · rename_i o ho;obtain⟨e,he,h1⟩:=List.mem_filterMap.1 h;split at h1
    · rename_i hb;cases h1;refine⟨o,ho,?_⟩;unfold FI;rw[Array.any_eq_true'];exact⟨e,Array.mem_toList_iff.1 he,by simp[hb]⟩
    · cases h1
theorem F5(ho:ops[i]?=some o)(h:FI o j=true)(n:Nat):CQ ops (n+1) i j=true:=by unfold CQ;rw[ho];simp[h]
theorem G2{k n:Nat}(ho:ops[i]?=some o)(h:FI o k=true)(hk:CQ ops n k j=true):CQ ops (n+1) i j=true:=by unfold FI at h;rw[Array.any_eq_true']at h;obtain⟨e,he,hb⟩:=h;simp only[Bool.and_eq_true,beq_iff_eq]at hb;unfold CQ;rw[ho];simp only[Bool.or_eq_true];refine .inr ?_;rw[Array.any_eq_true'];exact⟨e,he,by rw[hb.1,hb.2,hk];rfl⟩
theorem GM{n:Nat}(h:CQ ops (n+1) i j=true):∃o,ops[i]?=some o/\(FI o j=true\/∃k,FI o k=true/\CQ ops n k j=true):=by
  unfold CQ at h;split at h
  · cases h
  · rename_i o ho;refine⟨o,ho,?_⟩;simp only[Bool.or_eq_true]at h;rcases h with h|h
    · exact .inl h
    · rw[Array.any_eq_true']at h;obtain⟨e,he,hb⟩:=h;simp only[Bool.and_eq_true]at hb;refine .inr ⟨e.on,?_,hb.2⟩;unfold FI;rw[Array.any_eq_true'];exact⟨e,he,by simp[hb.1]⟩
theorem Kt{k:Nat}(ho:ops[k]?=some o)(h:FI o j=true):∀(n i:Nat),CQ ops n i k=true->CQ ops (n+1) i j=true
  | 0,i,hr=>by unfold CQ at hr;cases hr
  | n+1,i,hr=>by
    obtain⟨o',ho',hc⟩:=GM hr;rcases hc with hc|⟨k',h1,h2⟩
    · exact G2 ho' hc (F5 ho h n)
    · exact G2 ho' h1 (Kt ho h n k' h2)
theorem Hk:∀(n m i:Nat),n<=m->CQ ops n i j=true->CQ ops m i j=true
  | 0,_,i,_,hr=>by unfold CQ at hr;cases hr
  | n+1,0,i,h,_=>by omega
  | n+1,m+1,i,h,hr=>by
    obtain⟨o',ho',hc⟩:=GM hr;rcases hc with hc|⟨k',h1,h2⟩
    · exact F5 ho' hc m
    · exact G2 ho' h1 (Hk n m k' (by omega) h2)
theorem Kq(hb:∀i o,ops[i]?=some o->backs o i=true):∀(n i:Nat),CQ ops n i j=true->CQ ops (i+1) i j=true
  | 0,i,hr=>by unfold CQ at hr;cases hr
  | n+1,i,hr=>by
    obtain⟨o',ho',hc⟩:=GM hr;rcases hc with hc|⟨k',h1,h2⟩
    · exact F5 ho' hc i
    · have h3:=hb i o' ho'
      have h4:k'<i:=by unfold FI at h1;rw[Array.any_eq_true']at h1;obtain⟨e,he,hbb⟩:=h1;simp only[Bool.and_eq_true,beq_iff_eq]at hbb;unfold backs at h3;rw[Array.all_eq_true']at h3;have:=h3 e he;rw[hbb.1]at this;simp at this;omega
      exact G2 ho' h1 (Hk (k'+1) i k' (by omega) (Kq hb n k' h2))
theorem Kh{R:Nat->Prop}(hR:∀k x,R k->x∈IQ ops k->R x):∀(n:Nat) (m:List Nat),(∀x∈m,R x)->∀x∈Nz ops n m,R x
  | 0,m,hm=>hm
  | k+1,m,hm=>by
    unfold Nz;refine Kh hR k _ ?_;split
    · rename_i h;have hk:=hm k (by simpa using h);intro x hx;rcases List.mem_append.1 hx with hx|hx
      · exact hR k x hk hx
      · exact hm x hx
    · exact hm
theorem VJ{np:Nat}(h:T6 ops np=true):K4 [] ops np=true:=by
  unfold T6 at h;unfold K4;simp only[Bool.and_eq_true,List.all_eq_true,List.mem_range]at h ⊢;obtain⟨⟨h1,h2⟩,h3⟩:=h;refine⟨⟨⟨h1,fun x hx=>nomatch hx⟩,h2⟩,fun i hi=>?_⟩
  have hb:∀i o,ops[i]?=some o->backs o i=true:=fun i o ho=>by have hi:i<ops.size:=(Array.getElem?_eq_some_iff.1 ho).1;have:=h3 i hi;rw[ho]at this;simp only[Bool.and_eq_true]at this;exact this.1
  have h4:=h3 i hi;split
  · rename_i e;rw[e]at h4;cases h4
  · rename_i o ho;rw[ho]at h4;simp only[Bool.and_eq_true]at h4;obtain⟨h5,h6⟩:=h4;rw[Bool.and_eq_true];refine⟨h5,?_⟩;split
    · rename_i hlt;rw[if_pos hlt]at h6;exact h6
    · rename_i hlt;rw[if_neg hlt]at h6;rw[if_neg (by simp)];rw[List.all_eq_true]at h6 ⊢;intro j hj;have h7:=h6 j hj;rw[Bool.or_eq_true];refine .inr ?_
      have h8:=Kh (ops:=ops) (R:=fun x=>∃n,CQ ops n i x=true) (fun k x hk hx=>by
        obtain⟨n,hn⟩:=hk;obtain⟨o',ho',he⟩:=LA hx
        exact⟨n+1,Kt ho' he n i hn⟩) i (IQ ops i) (fun x hx=>by
        obtain⟨o',ho',he⟩:=LA hx
        exact⟨1,F5 ho' he 0⟩) j (by simpa using h7)
      obtain⟨n,hn⟩:=h8;exact Hk (i+1) ops.size i (by omega) (Kq hb n i hn)
end Go.Eng
namespace Go.Eng
open Go.RowKit
theorem Qs{s' s:Aw}(h:Eng.Sub s' s:=by repeat (first|exact trivial|refine⟨rfl,?_⟩)):Eng.Sub s' s:=h
theorem Qt{f:Nat->Option (Nat×Nat)}{n:Nat}{vs:List (Nat×Value)}{ps:List (Nat×List Value)}(h:Gu f n vs ps:=by repeat (first|exact trivial|refine⟨⟨by rfl,rfl,rfl⟩,?_⟩)):Gu f n vs ps:=h
def dg(n:Nat)(o:Oper):Option Nat:=match o.dst,o.guard with
  | some d,none=>match Nat.blt d n with
    | true=>some d
    | false=>none
  | _,_=>none
theorem JH{n d:Nat}{o:Oper}(h:dg n o=some d):o.dst=some d/\Nat.blt d n=true/\o.guard=none:=by
  unfold dg at h;split at h
  · rename_i d' h1 h2;split at h
    · rename_i h3;cases h;exact⟨h1,h3,h2⟩
    · cases h
  · cases h
def mv(s:Aw)(o:Oper):Option Value:=match o.op with
  | .move x=>ev s x
  | .assign x=>ev s x
  | .nilCheck x=>match ev s x with
    | some (.pointer (some p))=>some (.pointer (some p))
    | _=>none
  | .extract x i=>match ev s x with
    | some (.tuple vs)=>vs[i]?
    | _=>none
  | .pick c x y=>match ev s c with
    | some (.bool true)=>ev s x
    | some (.bool false)=>ev s y
    | _=>none
  | .unOp .not _ x=>match ev s x with
    | some (.bool a)=>some (.bool (!a))
    | _=>none
  | .binOp b _ x y _=>match b,ev s x,ev s y with
    | .lss,some (.int k a),some (.int k' b)=>if k=k' then some (.bool (decide (a<b))) else none
    | .leq,some (.int k a),some (.int k' b)=>if k=k' then some (.bool (decide (a<=b))) else none
    | .gtr,some (.int k a),some (.int k' b)=>if k=k' then some (.bool (decide (b<a))) else none
    | .geq,some (.int k a),some (.int k' b)=>if k=k' then some (.bool (decide (b<=a))) else none
    | .eql,some (.int k a),some (.int k' b)=>if k=k' then some (.bool (decide (a=b))) else none
    | .neq,some (.int k a),some (.int k' b)=>if k=k' then some (.bool (decide (a≠b))) else none
    | _,_,_=>none
  | _=>none
theorem V0{P:Program}{s:Aw}{h:Hp}{ms:List Hp}{o:Oper}{v:Value}(hv:mv s o=some v):OX P o s h ms v:=by
  unfold mv at hv;split at hv
  · rename_i h1;exact AA h1 hv
  · rename_i h1;exact FC h1 hv
  · rename_i h1;split at hv
    · rename_i h2;cases hv;exact NU h1 h2
    · cases hv
  · rename_i h1;split at hv
    · rename_i h2;exact Dt h1 h2 hv
    · cases hv
  · rename_i h1;split at hv
    · rename_i h2;exact Ed h1 h2 hv
    · rename_i h2;exact DA h1 h2 hv
    · cases hv
  · rename_i h1;split at hv
    · rename_i h2;cases hv;exact GL h1 h2
    · cases hv
  · rename_i h1;split at hv<;>first|(split at hv<;>first|(rename_i h2 h3 h4;subst h4;cases hv;first|exact CZ h1 h2 h3|exact Mq h1 h2 h3|exact CK h1 h2 h3|exact IS h1 h2 h3|exact Du h1 h2 h3|exact DK h1 h2 h3)|cases hv)|cases hv
  · cases hv
def gd(ops:Array Oper)(n:Nat)(s:Aw)(o:Oper)(w:Bool):Option Nat:=match o.dst,o.guard with
  | some d,some (j,b)=>match Nat.blt d n,ops[j]? with
    | true,some oj=>match oj.dst with
      | some dj=>match lk s dj with
        | some (.bool b')=>match (b'==b)==w with
          | true=>some d
          | false=>none
        | _=>none
      | none=>none
    | _,_=>none
  | _,_=>none
theorem QN{ops:Array Oper}{n d:Nat}{s:Aw}{o:Oper}{w:Bool}(h:gd ops n s o w=some d):∃j b oj dj b',o.dst=some d/\Nat.blt d n=true/\o.guard=some (j,b)/\ops[j]?=some oj/\oj.dst=some dj/\lk s dj=some (.bool b')/\(b'==b)=w:=by
  unfold gd at h;split at h
  · rename_i d' j b h1 h2;split at h
    · rename_i oj h3 h4;split at h
      · rename_i dj h5;split at h
        · rename_i b' h6;split at h
          · rename_i h7;cases h;exact⟨j,b,oj,dj,b',h1,h3,h2,h4,h5,h6,by simpa using h7⟩
          · cases h
        · cases h
      · cases h
    · cases h
  · cases h
section
variable {e:Entry} {Q:Exit->Act->World->Prop} {s:Aw} {h h0:Hp} {ms:List Hp} {ops:Array Oper} {listed:Array Bool} {fuel:Nat} {o:Oper} {rest:List Oper} {v:Value} {d:Nat}
theorem Qx(hx:OX e.P o s h ms v)(hd:dg e.n o=some d)(k:WL e ops Q rest ((d,v)::s) h ms):WL e ops Q (o::rest) s h ms:=
  let ⟨h1,h2,h3⟩:=JH hd
  Aam hx h1 h2 h3 k
def mvd(n:Nat)(s:Aw)(o:Oper):Option (Nat×Value):=match dg n o,mv s o with
  | some d,some v=>some (d,v)
  | _,_=>none
theorem Qm(hm:mvd e.n s o=some (d,v))(k:WL e ops Q rest ((d,v)::s) h ms):WL e ops Q (o::rest) s h ms:=by
  obtain⟨hd,hv⟩:dg e.n o=some d/\mv s o=some v:=by
    unfold mvd at hm;split at hm
    · rename_i h1 h2;cases hm;exact⟨h1,h2⟩
    · cases hm
  exact Qx (V0 hv) hd k
theorem Qk(hd:gd ops e.n s o false=some d)(k:WL e ops Q rest ((d,undef)::s) h ms):WL e ops Q (o::rest) s h ms:=
  let ⟨_,_,_,_,_,h1,h2,h3,h4,h5,h6,h7⟩:=QN hd
  WH h1 h2 h3 h4 h5 h6 h7 k
theorem Qg(hx:OX e.P o s h ms v)(hd:gd ops e.n s o true=some d)(k:WL e ops Q rest ((d,v)::s) h ms):WL e ops Q (o::rest) s h ms:=
  let ⟨_,_,_,_,_,h1,h2,h3,h4,h5,h6,h7⟩:=QN hd
  Yn hx h1 h2 h3 h4 h5 (by rw[h6];congr 2;simpa using h7) k
theorem Qw(k:WB e ops Q h fuel listed s h ms):WL e ops (QB e ops Q h fuel listed) [] s h ms:=Aj (Yo (Hp.le_refl _) k)
theorem Qa(k:WB e ops Q h0 fuel listed s h ms)(hl:h0.le h:=by assumption):WL e ops (QB e ops Q h0 fuel listed) [] s h ms:=Aj (Yo hl k)
theorem Qo(i:Nat)(ho:ops[i]?=some o)(k:WL e ops (QB e ops Q h0 fuel (listed.setIfInBounds i true)) [o] s h ms)(hr:Region.ready .any ops listed=[i]:=by kernel_rfl):WB e ops Q h0 (fuel+1) listed s h ms:=A5 [i] hr rfl (Ay ho k A4)
theorem Qe(k:NX e Q .normal s h ms)(hr:Region.ready .any ops listed=[]:=by kernel_rfl):WB e ops Q h0 fuel listed s h ms:=Zu hr k
theorem Al{y:Code}(k:WS e y Q s h ms):WL e ops (Exit.then (fun a w=>y.wp e.P Q a w) Q) [] s h ms:=Aj (Ab k)
theorem Au{id:Nat}{l:List Oper}{y:Code}(k:WL e l.toArray (Exit.then (fun a w=>y.wp e.P Q a w) Q) l s h ms):WS e (.seq (.region id l.toArray false) y) Q s h ms:=Ac (Ad k)
theorem BL{id:Nat}{l:List Oper}{y:Code}(k:WL e l.toArray (Exit.then (fun a w=>y.wp e.P Q a w) Q) l s h ms):WL e ops (Exit.then (fun a w=>(Code.seq (.region id l.toArray false) y).wp e.P Q a w) Q) [] s h ms:=Aj (Ab (Ac (Ad k)))
theorem Gn{id:Nat}{l:List Oper}(k:WL e l.toArray Q l s h ms):WL e ops (Exit.then (fun a w=>(Code.region id l.toArray false).wp e.P Q a w) Q) [] s h ms:=Aj (Ab (Ad k))
theorem CN{t:TypeId}{sz:Nat}{z:Value}{bytes:Nat}(zl:List Value)(ho:o.op=.alloc t)(hs:Elem e.P t sz z bytes)(hz:z.cells=zl.toArray)(hd:dg e.n o=some d)(k:∀g,WL e ops Q rest ((d,.pointer (some ⟨g,0,none⟩))::s) h (Bi g t zl::ms)):WL e ops Q (o::rest) s h ms:=
  let ⟨h1,h2,h3⟩:=JH hd
  Uh zl ho hs hz h1 h2 h3 k
end
def ZU(l:List Oper)(n:Nat)(zs:Aw)(i:Nat):Option (Oper×Nat):=match l[i]? with
  | some o=>match dg n o with
    | some d=>match lk zs d with
      | none=>some (o,d)
      | some _=>none
    | none=>none
  | none=>none
theorem Qp{P:Program}{l:List Oper}{n:Nat}{s z:Aw}{h0:Hp}{K:Aw->Prop}{r:List Nat}{i d:Nat}{o:Oper}{v:Value}(ho:ZU l n (z++s) i=some (o,d))(hx:OX P o (z++s) h0 [] v)(k:Fy P l n s h0 K r ((d,v)::z)):Fy P l n s h0 K (i::r) z:=by
  unfold ZU at ho;split at ho
  · rename_i o' h1;split at ho
    · rename_i d' h2;split at ho
      · rename_i h3;cases ho;obtain⟨h4,h5,_⟩:=JH h2;exact Z7 h1 h4 h5 h3 hx k
      · cases ho
    · cases ho
  · cases ho
def pzm(l:List Oper)(n:Nat)(zs:Aw)(i:Nat):Option (Nat×Value):=match ZU l n zs i with
  | some (o,d)=>match mv zs o with
    | some v=>some (d,v)
    | none=>none
  | none=>none
def Zl(s:Aw)(o:Oper):Option (TypeId×Addr):=match o.op with
  | .load t x=>match ev s x with
    | some (.pointer (some p))=>some (t,p)
    | _=>none
  | _=>none
theorem Oi{s:Aw}{o:Oper}{t:TypeId}{p:Addr}(h:Zl s o=some (t,p)):∃x,o.op=.load t x/\ev s x=some (.pointer (some p)):=by
  unfold Zl at h;split at h
  · rename_i t' x h1;split at h
    · rename_i h2;cases h;exact⟨x,h1,h2⟩
    · cases h
  · cases h
def ZG(s:Aw)(o:Oper):Option (TypeId×Nat×Addr):=match o.op with
  | .fieldAddr t x i=>match ev s x with
    | some (.pointer (some p))=>some (t,i,p)
    | _=>none
  | _=>none
theorem TD{s:Aw}{o:Oper}{t:TypeId}{i:Nat}{p:Addr}(h:ZG s o=some (t,i,p)):∃x,o.op=.fieldAddr t x i/\ev s x=some (.pointer (some p)):=by
  unfold ZG at h;split at h
  · rename_i t' x i' h1;split at h
    · rename_i h2;cases h;exact⟨x,h1,h2⟩
    · cases h
  · cases h
def wd(o:Oper):Option Nat:=match o.dst,o.guard with
  | some d,none=>some d
  | _,_=>none
theorem MG{o:Oper}{d:Nat}(h:wd o=some d):o.dst=some d/\o.guard=none:=by
  unfold wd at h;split at h
  · rename_i h1 h2;cases h;exact⟨h1,h2⟩
  · cases h
section
variable {P:Program} {l:List Oper} {n:Nat} {s z:Aw} {h h0:Hp} {ms:List Hp} {K:Aw->Prop} {r:List Nat} {i d:Nat} {o:Oper} {v:Value} {t:TypeId} {p:Addr} {D:TypeDesc}
theorem Qq(hm:pzm l n (z++s) i=some (d,v))(k:Fy P l n s h0 K r ((d,v)::z)):Fy P l n s h0 K (i::r) z:=by
  unfold pzm at hm;split at hm
  · rename_i h1;split at hm
    · rename_i h2;cases hm;exact Qp h1 (V0 h2) k
    · cases hm
  · cases hm
def ad2{α:Type}(a:Option (Oper×Nat))(f:Oper->Option α):Option (α×Nat):=match a with
  | some (o,d)=>match f o with
    | some x=>some (x,d)
    | none=>none
  | none=>none
theorem Oe{α:Type}{a:Option (Oper×Nat)}{f:Oper->Option α}{x:α}{d:Nat}(h:ad2 a f=some (x,d)):∃o,a=some (o,d)/\f o=some x:=by
  unfold ad2 at h;split at h
  · rename_i o' d';split at h
    · rename_i h2;cases h;exact⟨_,rfl,h2⟩
    · cases h
  · cases h
theorem oL(hm:Zl s o=some (t,p))(ht:P.underlying t=some D)(hc:Cell h ms p v)(ha:Im D=false:=by rfl):OX P o s h ms v:=
  let ⟨_,h1,h2⟩:=Oi hm
  XK h1 ht ha h2 hc
theorem oG{z:Value}{sz bytes:Nat}{vs:List Value}(hm:Zl s o=some (t,p))(ht:P.underlying t=some D)(hs:Elem P t sz z bytes)(hc:Seg h ms p vs)(ha:Im D=true:=by rfl)(hl:vs.length=sz:=by rfl):OX P o s h ms (.agg vs.toArray):=
  let ⟨_,h1,h2⟩:=Oi hm
  Vd h1 ht ha hs hl h2 hc
theorem oF{j off:Nat}(F:DZ P t j off)(hm:ZG s o=some (t,j,p)):OX P o s h ms (.pointer (some (p.add off))):=
  let ⟨_,h1,h2⟩:=TD hm
  RE F h1 h2
theorem QL(hm:ad2 (ZU l n (z++s) i) (Zl (z++s))=some ((t,p),d))(ht:P.underlying t=some D)(hc:Cell h0 [] p v)(k:Fy P l n s h0 K r ((d,v)::z))(ha:Im D=false:=by rfl):Fy P l n s h0 K (i::r) z:=
  let ⟨_,h1,h2⟩:=Oe hm
  Qp h1 (oL h2 ht hc ha) k
theorem QF{j off:Nat}(F:DZ P t j off)(hm:ad2 (ZU l n (z++s) i) (ZG (z++s))=some ((t,j,p),d))(k:Fy P l n s h0 K r ((d,.pointer (some (p.add off)))::z)):Fy P l n s h0 K (i::r) z:=
  let ⟨_,h1,h2⟩:=Oe hm
  Qp h1 (oF F h2) k
end
def bn(s:Aw)(o:Oper):Option (BinOp×Int×Int):=match o.op with
  | .binOp b _ x y _=>match ev s x,ev s y with
    | some (.int .i64 a),some (.int .i64 c)=>some (b,a,c)
    | _,_=>none
  | _=>none
theorem Me{s:Aw}{o:Oper}{b:BinOp}{a c:Int}(h:bn s o=some (b,a,c)):∃t x y u,o.op=.binOp b t x y u/\ev s x=some (.int .i64 a)/\ev s y=some (.int .i64 c):=by
  unfold bn at h;split at h
  · rename_i b' t x y u h1;split at h
    · rename_i h2 h3;cases h;exact⟨t,x,y,u,h1,h2,h3⟩
    · cases h
  · cases h
section
variable {P:Program} {s:Aw} {h:Hp} {ms:List Hp} {o:Oper} {a b:Int}
theorem oA(hm:bn s o=some (.add,a,b))(hr:-9223372036854775808<=a+b/\a+b<=9223372036854775807:=by omega):OX P o s h ms (.int .i64 (a+b)):=
  let ⟨_,_,_,_,h1,h2,h3⟩:=Me hm
  YY h1 h2 h3 hr
theorem oS(hm:bn s o=some (.sub,a,b))(hr:-9223372036854775808<=a-b/\a-b<=9223372036854775807:=by omega):OX P o s h ms (.int .i64 (a-b)):=
  let ⟨_,_,_,_,h1,h2,h3⟩:=Me hm
  Zn h1 h2 h3 hr
theorem oM(hm:bn s o=some (.mul,a,b))(hr:-9223372036854775808<=a*b/\a*b<=9223372036854775807:=by omega):OX P o s h ms (.int .i64 (a*b)):=
  let ⟨_,_,_,_,h1,h2,h3⟩:=Me hm
  Zv h1 h2 h3 hr
end
def stv(s:Aw)(o:Oper):Option (TypeId×Addr×Value):=match o.op,o.dst,o.guard with
  | .store t x y,none,none=>match ev s x,ev s y with
    | some (.pointer (some p)),some v=>some (t,p,v)
    | _,_=>none
  | _,_,_=>none
theorem VH{s:Aw}{o:Oper}{t:TypeId}{p:Addr}{v:Value}(h:stv s o=some (t,p,v)):∃x y,o.op=.store t x y/\ev s x=some (.pointer (some p))/\ev s y=some v/\o.dst=none/\o.guard=none:=by
  unfold stv at h;split at h
  · rename_i t' x y h1 h2 h3;split at h
    · rename_i h4 h5;cases h;exact⟨x,y,h1,h4,h5,h2,h3⟩
    · cases h
  · cases h
def cav(s:Aw)(o:Oper):Option (FuncId×List Value):=match o.op with
  | .call c=>match c.callee,OS s c.args.toList with
    | .value (.func f),some vs=>some (f,vs)
    | _,_=>none
  | _=>none
theorem UA{s:Aw}{o:Oper}{f:FuncId}{vs:List Value}(h:cav s o=some (f,vs)):∃l ts,o.op=.call { callee:=.value (.func f),args:=List.toArray l,argTypes:=ts }/\OS s l=some vs:=by
  unfold cav at h;split at h
  · rename_i c h1;split at h
    · rename_i f' vs' h2 h3;cases h;obtain⟨ce,az,ts⟩:=c;simp only at h2 h3;subst h2;exact⟨az.toList,ts,by rw[h1,Array.toArray_toList],h3⟩
    · cases h
  · cases h
section
variable {e:Entry} {Q:Exit->Act->World->Prop} {s:Aw} {h:Hp} {ms:List Hp} {ops:Array Oper} {o:Oper} {rest l:List Oper} {v:Value} {d:Nat} {t:TypeId} {p:Addr} {D:TypeDesc}
theorem Ql(hm:(Zl s o,dg e.n o)=(some (t,p),some d))(ht:e.P.underlying t=some D)(hc:Cell h ms p v)(k:WL e ops Q rest ((d,v)::s) h ms)(ha:Im D=false:=by rfl):WL e ops Q (o::rest) s h ms:=
  let ⟨h1,h2⟩:=Prod.mk.inj hm
  Qx (oL h1 ht hc ha) h2 k
theorem Qf{j off:Nat}(F:DZ e.P t j off)(hm:(ZG s o,dg e.n o)=(some (t,j,p),some d))(k:WL e ops Q rest ((d,.pointer (some (p.add off)))::s) h ms):WL e ops Q (o::rest) s h ms:=
  let ⟨h1,h2⟩:=Prod.mk.inj hm
  Qx (oF F h1) h2 k
theorem Sa{el:TypeId}{z:Value}{sz bytes g:Nat}{l:List Value}(i:Nat)(vl:List Value)(hs:Elem e.P t sz z bytes)(hm:(stv s o,v.cells,ms[i]?,vl.length,l.length)=(some (t,⟨g,0,none⟩,v),vl.toArray,some (Bi g el l),sz,sz))(h1:∀u∈vl,u.oneCell'=true)(K:WL e ops Q rest s h (ms.set i (Bi g el vl))):WL e ops Q (o::rest) s h ms:=by simp only[Prod.mk.injEq]at hm;obtain⟨q1,q2,q3,q4,q5⟩:=hm;obtain⟨x,y,r1,r2,r3,r4,r5⟩:=VH q1;exact OG i vl r1 hs r2 r3 q2 h1 q3 q4 q5 r4 r5 K
theorem Qc{f:FuncId}{vs:List Value}{post:Value->Hp->List Hp->Prop}(hc:∀az w,(callFunc f az).run e.P w=.ok (.enter f az) w)(hm:(cav s o,dg e.n o)=(some (f,vs),some d))(k:FnT e.P f vs.toArray h [] post)(K:∀v h' pre',h.le h'->post v h' pre'->WL e ops Q rest ((d,v)::s) h' (pre'++ms)):WL e ops Q (o::rest) s h ms:=by obtain⟨h1,h2⟩:=Prod.mk.inj hm;obtain⟨l,ts,h3,h4⟩:=UA h1;obtain⟨h5,h6,h7⟩:=JH h2;exact Xj h3 hc h4 k h5 h6 h7 K
variable {tl:List Oper} {q:List (Nat×VP)} {al:List (Nat×Nb)}
theorem Wm(hm:(wd o,mv s o)=(some d,some v))(k:WR e ops Q tl h ms l ((d,v)::s) q al):WR e ops Q tl h ms (o::l) s q al:=
  let ⟨h1,h2⟩:=Prod.mk.inj hm
  let ⟨h3,h4⟩:=MG h1
  AP (V0 h2) h3 h4 k
theorem Wf{j off:Nat}(F:DZ e.P t j off)(hm:(wd o,ZG s o)=(some d,some (t,j,p)))(k:WR e ops Q tl h ms l ((d,.pointer (some (p.add off)))::s) q al):WR e ops Q tl h ms (o::l) s q al:=
  let ⟨h1,h2⟩:=Prod.mk.inj hm
  let ⟨h3,h4⟩:=MG h1
  AP (oF F h2) h3 h4 k
theorem Wl(hm:(wd o,Zl s o)=(some d,some (t,p)))(ht:e.P.underlying t=some D)(hc:Cell h ms p v)(k:WR e ops Q tl h ms l ((d,v)::s) q al)(ha:Im D=false:=by rfl):WR e ops Q tl h ms (o::l) s q al:=
  let ⟨h1,h2⟩:=Prod.mk.inj hm
  let ⟨h3,h4⟩:=MG h1
  AP (oL h2 ht hc ha) h3 h4 k
end
theorem OwnL.o1{α:Type _}{F:α->List Value}{sz:Nat}{el:TypeId}{m:Hp}{v:Value}{l:List α}(O:OwnL F sz el m v l):v.oneCell'=true:=(O.rd (h:=Hp.emp) (ms:=[m]) (List.Mem.head _)).rd.one
theorem BU{P:Program}{s:Aw}{h:Hp}{ms:List Hp}{o:Oper}{v:Value}{sz n:Nat}{cs:List Value}{t el:TypeId}{x y:Operand}{z:Value}{bytes:Nat}{k:IntKind}{i:Int}(j:Nat)(R:Rd h ms v sz n cs)(ho:o.op=.indexAddr t x y)(ht:P.underlying t=some (.slice el))(hs:Elem P el sz z bytes)(hx:ev s x=some v)(hy:ev s y=some (.int k i))(hi:i=(j:Int):=by omega)(hlt:j<n:=by omega):OX P o s h ms (.pointer (some ((AF v).add (j*sz)))):=AB j R ho ht hs hx hy hi hlt
theorem AI{a b c:Hp}(x:a.le b)(y:b.le c):a.le c:=Hp.le_trans x y
theorem DU{a:Hp}:a.le a:=Hp.le_refl a
theorem Mh{α:Type _}{a:α}{l:List α}:a∈a::l:=List.Mem.head _
end Go.Eng
namespace Go.Proofs.Q
open Go.Proofs.Tryz
open Go.Eng
theorem CY:prog.follows .mixedOrders=true:=by kernel_rfl
theorem Be:Elem prog 3 1 (.int .i64 0) 8:=Elem.of (by kernel_rfl)
theorem V4:Elem prog 4 1 (.bool false) 1:=Elem.of (by kernel_rfl)
theorem el5:Elem prog 5 1 (.int .u8 0) 1:=Elem.of (by kernel_rfl)
theorem Cb:Elem prog 22 1 (.slice none 0 0) 24:=Elem.of (by kernel_rfl)
theorem YQ:Elem prog 23 1 (.slice none 0 0) 24:=Elem.of (by kernel_rfl)
theorem AaF:Elem prog 25 4 (.agg #[.int .u8 0,.slice none 0 0,.slice none 0 0,.int .u8 0]) 64:=Elem.of (by kernel_rfl)
theorem Jt:Elem prog 27 1 (.slice none 0 0) 24:=Elem.of (by kernel_rfl)
theorem AV:Elem prog 29 1 (.agg #[.slice none 0 0]) 24:=Elem.of (by kernel_rfl)
theorem E6:Elem prog 43 6 (.agg #[.int .i64 0,.int .i64 0,.int .i64 0,.bool false,.int .i64 0,.int .i64 0]) 48:=Elem.of (by kernel_rfl)
theorem Ww:Elem prog 45 1 (.map none) 8:=Elem.of (by kernel_rfl)
theorem Fz:Elem prog 47 2 (.agg #[.int .i64 0,.int .i64 0]) 16:=Elem.of (by kernel_rfl)
theorem Aaw:Elem prog 49 1 (.map none) 8:=Elem.of (by kernel_rfl)
theorem SU:Elem prog 50 1 (.slice none 0 0) 24:=Elem.of (by kernel_rfl)
theorem AH:Elem prog 52 3 (.agg #[.int .i64 0,.int .i64 0,.slice none 0 0]) 40:=Elem.of (by kernel_rfl)
theorem Ep:Elem prog 65 4 (.agg #[.int .i64 0,.int .i64 0,.int .i64 0,.slice none 0 0]) 48:=Elem.of (by kernel_rfl)
theorem Aae:Elem prog 81 1 (.slice none 0 0) 24:=Elem.of (by kernel_rfl)
theorem Z8:Elem prog 97 1 (.pointer none) 8:=Elem.of (by kernel_rfl)
theorem DT:Elem prog 106 3 (.agg #[.int .i64 0,.int .i64 0,.slice none 0 0]) 40:=Elem.of (by kernel_rfl)
theorem Aan:Elem prog 115 2 (.agg #[.map none,.slice none 0 0]) 32:=Elem.of (by kernel_rfl)
theorem AJ:Elem prog 119 2 (.agg #[.int .i64 0,.int .i64 0]) 16:=Elem.of (by kernel_rfl)
theorem ZS:Elem prog 130 405 (.agg (([.int .i64 0,.slice none 0 0,.map none,.slice none 0 0,.slice none 0 0]:List Value)++replicate 400 (Value.int .i64 0)).toArray) 3288:=Elem.of (by kernel_rfl)
theorem Yd:Elem prog 165 1 (.nilFunc) 8:=Elem.of (by kernel_rfl)
theorem Cd:Elem prog 172 2 (.agg #[.bool false,.string ByteArray.empty]) 24:=Elem.of (by kernel_rfl)
theorem Yq:Elem prog 188 1 (.map none) 8:=Elem.of (by kernel_rfl)
theorem B6:Elem prog 222 1 (.int .u64 0) 8:=Elem.of (by kernel_rfl)
theorem Z9:Elem prog 255 1002 (.agg (([.int .i64 0,.int .i64 0,.int .i64 0,.slice none 0 0]:List Value)++replicate 998 (Value.int .i64 0)).toArray) 8032:=Elem.of (by kernel_rfl)
theorem Yl:Elem prog 260 3 (.agg #[.slice none 0 0,.int .i64 0,.int .i64 0]) 40:=Elem.of (by kernel_rfl)
theorem YE:FB prog 29 #[(0,1)]:=⟨_,underlying29,fun w=>by kernel_rfl⟩
theorem Yb:FB prog 43 #[(0,1),(1,1),(2,1),(3,1),(4,1),(5,1)]:=⟨_,underlying43,fun w=>by kernel_rfl⟩
theorem Uz:FB prog 47 #[(0,1),(1,1)]:=⟨_,underlying47,fun w=>by kernel_rfl⟩
theorem X7:FB prog 52 #[(0,1),(1,1),(2,1)]:=⟨_,underlying52,fun w=>by kernel_rfl⟩
theorem ZQ:FB prog 65 #[(0,1),(1,1),(2,1),(3,1)]:=⟨_,underlying65,fun w=>by kernel_rfl⟩
theorem Aaq:FB prog 106 #[(0,1),(1,1),(2,1)]:=⟨_,underlying106,fun w=>by kernel_rfl⟩
theorem Aap:FB prog 115 #[(0,1),(1,1)]:=⟨_,underlying115,fun w=>by kernel_rfl⟩
theorem Vr:FB prog 119 #[(0,1),(1,1)]:=⟨_,underlying119,fun w=>by kernel_rfl⟩
theorem Z6:FB prog 130 #[(0,1),(1,1),(2,1),(3,1),(4,1),(5,400)]:=⟨_,underlying130,fun w=>by kernel_rfl⟩
theorem Yc:FB prog 172 #[(0,1),(1,1)]:=⟨_,underlying172,fun w=>by kernel_rfl⟩
theorem ZI:FB prog 255 #[(0,4),(4,998)]:=⟨_,underlying255,fun w=>by kernel_rfl⟩
theorem Ye:FB prog 260 #[(0,1),(1,1),(2,1)]:=⟨_,underlying260,fun w=>by kernel_rfl⟩
theorem Tg:DZ prog 25 0 0:=⟨_,_,_,underlying25,rfl,rfl,sizeOf5⟩
theorem VY:DZ prog 25 1 1:=⟨_,_,_,underlying25,rfl,rfl,sizeOf22⟩
theorem TX:DZ prog 25 2 2:=⟨_,_,_,underlying25,rfl,rfl,sizeOf23⟩
theorem Tn:DZ prog 25 3 3:=⟨_,_,_,underlying25,rfl,rfl,sizeOf5⟩
theorem BW:DZ prog 29 0 0:=⟨_,_,_,underlying29,rfl,rfl,sizeOf27⟩
theorem Na:DZ prog 43 0 0:=⟨_,_,_,underlying43,rfl,rfl,sizeOf3⟩
theorem Ko:DZ prog 43 1 1:=⟨_,_,_,underlying43,rfl,rfl,sizeOf3⟩
theorem J7:DZ prog 43 2 2:=⟨_,_,_,underlying43,rfl,rfl,sizeOf3⟩
theorem Mt:DZ prog 43 3 3:=⟨_,_,_,underlying43,rfl,rfl,sizeOf4⟩
theorem M6:DZ prog 43 4 4:=⟨_,_,_,underlying43,rfl,rfl,sizeOf3⟩
theorem HE:DZ prog 43 5 5:=⟨_,_,_,underlying43,rfl,rfl,sizeOf3⟩
theorem Hu:DZ prog 47 0 0:=⟨_,_,_,underlying47,rfl,rfl,sizeOf3⟩
theorem PH:DZ prog 47 1 1:=⟨_,_,_,underlying47,rfl,rfl,sizeOf3⟩
theorem By:DZ prog 52 0 0:=⟨_,_,_,underlying52,rfl,rfl,sizeOf3⟩
theorem Cw:DZ prog 52 1 1:=⟨_,_,_,underlying52,rfl,rfl,sizeOf3⟩
theorem B5:DZ prog 52 2 2:=⟨_,_,_,underlying52,rfl,rfl,sizeOf50⟩
theorem Fp:DZ prog 65 0 0:=⟨_,_,_,underlying65,rfl,rfl,sizeOf3⟩
theorem MQ:DZ prog 65 1 1:=⟨_,_,_,underlying65,rfl,rfl,sizeOf3⟩
theorem J5:DZ prog 65 2 2:=⟨_,_,_,underlying65,rfl,rfl,sizeOf3⟩
theorem Ho:DZ prog 65 3 3:=⟨_,_,_,underlying65,rfl,rfl,sizeOf22⟩
theorem WT:DZ prog 106 0 0:=⟨_,_,_,underlying106,rfl,rfl,sizeOf3⟩
theorem W5:DZ prog 106 1 1:=⟨_,_,_,underlying106,rfl,rfl,sizeOf3⟩
theorem Jx:DZ prog 106 2 2:=⟨_,_,_,underlying106,rfl,rfl,sizeOf104⟩
theorem EF:DZ prog 115 0 0:=⟨_,_,_,underlying115,rfl,rfl,sizeOf113⟩
theorem Ms:DZ prog 115 1 1:=⟨_,_,_,underlying115,rfl,rfl,sizeOf22⟩
theorem Cy:DZ prog 119 0 0:=⟨_,_,_,underlying119,rfl,rfl,sizeOf3⟩
theorem Fa:DZ prog 119 1 1:=⟨_,_,_,underlying119,rfl,rfl,sizeOf3⟩
theorem It:DZ prog 130 0 0:=⟨_,_,_,underlying130,rfl,rfl,sizeOf3⟩
theorem E9:DZ prog 130 1 1:=⟨_,_,_,underlying130,rfl,rfl,sizeOf27⟩
theorem JP:DZ prog 130 2 2:=⟨_,_,_,underlying130,rfl,rfl,sizeOf45⟩
theorem E8:DZ prog 130 3 3:=⟨_,_,_,underlying130,rfl,rfl,sizeOf81⟩
theorem JI:DZ prog 130 4 4:=⟨_,_,_,underlying130,rfl,rfl,sizeOf81⟩
theorem Rj:DZ prog 130 5 5:=⟨_,_,_,underlying130,rfl,rfl,sizeOf128⟩
theorem JL:DZ prog 172 0 0:=⟨_,_,_,underlying172,rfl,rfl,sizeOf4⟩
theorem GP:DZ prog 172 1 1:=⟨_,_,_,underlying172,rfl,rfl,sizeOf9⟩
theorem Ff:DZ prog 255 0 0:=⟨_,_,_,underlying255,rfl,rfl,sizeOf65⟩
theorem MR:DZ prog 255 1 4:=⟨_,_,_,underlying255,rfl,rfl,sizeOf253⟩
theorem WG:DZ prog 260 0 0:=⟨_,_,_,underlying260,rfl,rfl,sizeOf22⟩
theorem P5:DZ prog 260 1 1:=⟨_,_,_,underlying260,rfl,rfl,sizeOf3⟩
theorem PV:DZ prog 260 2 2:=⟨_,_,_,underlying260,rfl,rfl,sizeOf3⟩
theorem U3:type_of% @Tryz.underlying3:=@Tryz.underlying3
theorem U4:type_of% @Tryz.underlying4:=@Tryz.underlying4
theorem U5:type_of% @Tryz.underlying5:=@Tryz.underlying5
theorem U9:type_of% @Tryz.underlying9:=@Tryz.underlying9
theorem AR:type_of% @Tryz.underlying22:=@Tryz.underlying22
theorem VW:type_of% @Tryz.underlying23:=@Tryz.underlying23
theorem U25:type_of% @Tryz.underlying25:=@Tryz.underlying25
theorem Bk:type_of% @Tryz.underlying27:=@Tryz.underlying27
theorem CM:type_of% @Tryz.underlying29:=@Tryz.underlying29
theorem S8:type_of% @Tryz.underlying31:=@Tryz.underlying31
theorem Sb:type_of% @Tryz.underlying33:=@Tryz.underlying33
theorem U43:type_of% @Tryz.underlying43:=@Tryz.underlying43
theorem Jq:type_of% @Tryz.underlying45:=@Tryz.underlying45
theorem U47:type_of% @Tryz.underlying47:=@Tryz.underlying47
theorem RX:type_of% @Tryz.underlying49:=@Tryz.underlying49
theorem Cu:type_of% @Tryz.underlying50:=@Tryz.underlying50
theorem EL:type_of% @Tryz.underlying52:=@Tryz.underlying52
theorem TT:type_of% @Tryz.underlying65:=@Tryz.underlying65
theorem B7:type_of% @Tryz.underlying81:=@Tryz.underlying81
theorem S6:type_of% @Tryz.underlying97:=@Tryz.underlying97
theorem Lf:type_of% @Tryz.underlying104:=@Tryz.underlying104
theorem NT:type_of% @Tryz.underlying106:=@Tryz.underlying106
theorem Gm:type_of% @Tryz.underlying113:=@Tryz.underlying113
theorem DE:type_of% @Tryz.underlying119:=@Tryz.underlying119
theorem Aau:type_of% @Tryz.underlying128:=@Tryz.underlying128
theorem Pc:type_of% @Tryz.underlying160:=@Tryz.underlying160
theorem Aad:type_of% @Tryz.underlying165:=@Tryz.underlying165
theorem J1:type_of% @Tryz.underlying172:=@Tryz.underlying172
theorem Aai:type_of% @Tryz.underlying182:=@Tryz.underlying182
theorem ZL:type_of% @Tryz.underlying184:=@Tryz.underlying184
theorem FU:type_of% @Tryz.underlying188:=@Tryz.underlying188
theorem Fl:type_of% @Tryz.underlying222:=@Tryz.underlying222
theorem G9:type_of% @Tryz.underlying223:=@Tryz.underlying223
theorem BJ:type_of% @Tryz.underlying225:=@Tryz.underlying225
theorem Zp:type_of% @Tryz.underlying253:=@Tryz.underlying253
end Go.Proofs.Q

namespace Go.Proofs.Q
open Go.Eng Go.RowKit
def BC(n:Int):Prop:=-9223372036854775808<=n/\n<=9223372036854775807
instance (n:Int):Decidable (BC n):=by unfold BC;infer_instance
theorem Gf{P:Program}{f:FuncId}{args:Array Value}{h:Hp}{v:Value}(k:FnT P f args h [] (fun r _ _=>r=v))(ms:List Hp):FnV P f args h ms v:=by refine fun w hw=>(?_:FnV _ _ _ h [] _) w (hw.weaken (DU) (List.nil_sublist _));exact FnT.toV k
theorem EI{a b:Nat}(h:(a:Int)<b):a<b:=by omega
open Go.Proofs.Tryz
def cD(s:Int×Int):List Value:=[.int .i64 s.1,.int .i64 s.2]
theorem D6:∀s,(cD s).length=2:=fun _=>rfl
theorem F7:∀a,∀c∈cD a,c.oneCell'=true:=fun a c hc=>by simp only[cD,mem_cons,not_mem_nil,or_false]at hc;rcases hc with rfl|rfl<;>rfl
structure Cl where
 id:Int
 dim:Int
 sd:List (Int×Int)
 deriving DecidableEq,Inhabited
structure Ce where
 c:Cl
 v:Value
instance:Inhabited Ce:=⟨⟨default,.slice none 0 0⟩⟩
def cC(a:Ce):List Value:=[.int .i64 a.c.id,.int .i64 a.c.dim,a.v]
theorem Cc:∀a,(cC a).length=3:=fun _=>rfl
structure RdC(h:Hp)(v:Value)(l:List Ce):Prop where
 q:RdL cC 3 h [] v l
 s:∀a∈l,RdL cD 2 h [] a.v a.c.sd
theorem RdC.up{h h':Hp}{v:Value}{l:List Ce}(R:RdC h v l)(hl:h.le h'):RdC h' v l:=⟨R.q.up hl,fun a ha=>(R.s a ha).up hl⟩
theorem C0{h:Hp}{l:List Ce}(H:∀a∈l,RdL cD 2 h [] a.v a.c.sd):∀a∈l,∀c∈cC a,c.oneCell'=true:=fun a ha c hc=>by
 simp only[cC,mem_cons,not_mem_nil,or_false]at hc;rcases hc with rfl|rfl|rfl
 ·rfl
 ·rfl
 ·exact(H a ha).rd.one
def Hm(x:Int×Int)(l:List (Int×Int)):List (Int×Int):=l.takeWhile (fun y=>decide (y.1<=x.1))++x::l.dropWhile (fun y=>decide (y.1<=x.1))
def BX(l:List (Int×Int)):List (Int×Int):=l.foldl (fun acc x=>Hm x acc) []
theorem EU{α:Type}(p:α->Bool):∀(l:List α) (k:Nat),k<=l.length->(∀j (hj:j<l.length),j<k->p l[j]=true)->(∀hk:k<l.length,p l[k]=false)->l.takeWhile p=l.take k/\l.dropWhile p=l.drop k
 | [],k,hk,_,_=>by simp
 | a::l,0,_,_,h=>by have:=h (by simp);simp only[List.getElem_cons_zero]at this;simp[List.takeWhile,List.dropWhile,this]
 | a::l,k+1,hk,h1,h2=>by
  have h3:p a=true:=h1 0 (by simp) (by omega)
  have ih:=EU p l k (by simpa using hk) (fun j hj hjk=>by
   have:=h1 (j+1) (by simpa using hj) (by omega)
   simpa using this) (fun hk=>by
   have:=h2 (by simpa using hk)
   simpa using this)
  simp[List.takeWhile,List.dropWhile,h3,ih.1,ih.2]
theorem QI{x:Int×Int}{l:List (Int×Int)}{k:Nat}(hk:k<=l.length)(h1:∀j (hj:j<l.length),j<k->l[j].1<=x.1)(h2:∀hk:k<l.length,¬l[k].1<=x.1):Hm x l=l.take k++x::l.drop k:=by obtain⟨e1,e2⟩:=EU (fun y=>decide (y.1<=x.1)) l k hk (fun j hj hjk=>decide_eq_true (h1 j hj hjk)) (fun hk=>decide_eq_false (h2 hk));unfold Hm;rw[e1,e2]
theorem UH(x:Int×Int)(l:List (Int×Int)):(Hm x l).length=l.length+1:=by unfold Hm;have:=congrArg List.length (List.takeWhile_append_dropWhile (p:=fun y:Int×Int=>decide (y.1<=x.1)) (l:=l));rw[length_append]at this;rw[length_append,length_cons];omega
theorem NG(l:List (Int×Int))(x:Int×Int):BX (l++[x])=Hm x (BX l):=by unfold BX;rw[List.foldl_append];rfl
theorem HC(l:List (Int×Int)):(BX l).length=l.length:=by
 have go:∀(l acc:List (Int×Int)),(l.foldl (fun acc x=>Hm x acc) acc).length=acc.length+l.length:=fun l=>by
  induction l with
  | nil=>intro acc;rfl
  | cons x l ih=>intro acc;rw[List.foldl_cons,ih,UH,length_cons];omega
 have:=go l [];rw[length_nil,Nat.zero_add]at this;exact this
theorem Ig(a b:Int)(ha:BC a)(hb:1<=b/\b<=1000000)(h:Hp)(ms:List Hp):FnV Tryz.prog 34 #[.int .i64 a,.int .i64 b] h ms (.int .i64 (a%b)):=by
 refine Gf ?_ ms;have ha1:=ha.1;have ha2:=ha.2;have h1:a.tmod b<b:=by have:=Int.tmod_lt_of_pos a (show 0<b by omega);omega
 have h2:-b<a.tmod b:=by have:=Int.lt_tmod_of_pos a (show 0<b by omega);omega
 have h3:(a.tmod b+b)%b=a%b:=by rw[Int.add_emod_right,Int.tmod_def,Int.sub_mul_emod_self_left]
 refine Ap func34 ntmps34 rfl rfl (fun w0 hw0=>?_);simp only[AU];refine Au (Qm rfl (BL (Qm rfl (Qm rfl (Qx (Vy rfl rfl rfl (by omega)) rfl (Qm rfl (Qx (oA rfl) rfl (Qm rfl (Qx (BM rfl rfl rfl (by omega) (by omega)) rfl (Qm rfl (Al (Ao ?_))))))))))));exact Az rfl rfl (by rw[h3])
theorem FN{α:Type}{F:α->List Value}{sz:Nat}{el:TypeId}(g:Nat)(hF:∀x,(F x).length=sz):OwnL F sz el (Bi g el []) (.slice (some ⟨g,0,none⟩) 0 0) ([]:List α):=OwnL.blk (l:=[]) 0 hF rfl (by decide)
theorem Ns(l:List (Int×Int))(v:Value)(h:Hp)(hl:l.length<=100000)(hR:RdL cD 2 h [] v l):FnT Tryz.prog 170 #[v] h [] (fun r h' ms'=>h=h'/\∃m,ms'=[m]/\OwnL cD 2 119 m r (BX l)):=by
 have o1:=hR.rd.one;refine Ap func170 ntmps170 rfl rfl (fun w0 hw0=>?_);simp only[AU];refine Au (Qm rfl (BL (Qm rfl (Al (Ac (Au (Qm rfl (Al (Af (BG ?_))))))))))
 refine Ax (fun q s h' ms'=>∃(i:Nat) (vo:Value) (mo:Hp),q=l.length-i/\s=[(0,v),(3,vo),(4,.int .i64 i)]/\h=h'/\ms'=[mo]/\i<=l.length/\OwnL cD 2 119 mo vo (BX (l.take i)))
  (l.length-0) _ ⟨0,_,_,rfl,rfl,rfl,rfl,by omega,OwnL.nil D6⟩ Qs ?_
 rintro q s h' ms' ⟨i,vo,mo,rfl,rfl,rfl,rfl,hi,hO⟩;have hsl:=HC (l.take i);rw[length_take]at hsl;refine Ac (Au (Qm rfl (Qm rfl (Qx (Ar hR.rd.any rfl Cu rfl) rfl (Qm rfl (Al ?_))))));refine Av rfl (fun hlt=>?_) (fun hlt=>?_)
 ·have hil:i<l.length:=EI hlt;have ovo:=hO.o1;have hseg:∀ms,Seg h ms ((AF v).add (i*2)) (cD l[i]):=fun ms=>(hR.any (ms:=ms)).seg hil;obtain⟨out,hout⟩:∃out,BX (l.take i)=out:=⟨_,rfl⟩
  rw[hout]at hO hsl;refine Ag (Ab (Ac (Af (Au (Qm rfl (Al ?_))))));have hcl:=hO.rd (h:=h) (ms:=[mo]) Mh;have hout2:=hcl.len_le;have htk:BX (l.take (i+1))=Hm l[i] out:=by rw[List.take_succ_eq_append_getElem hil,NG,hout]
  refine Bb (fun s h' ms'=>∃(k:Nat),s=[(0,v),(3,vo),(4,.int .i64 i),(5,.int .i64 k)]/\h=h'/\ms'=[mo]/\k<=out.length/\Hm l[i] out=out.take k++l[i]::out.drop k) ?_ (fun s h ms hI=>?_)
  ·refine Af ?_
   refine Ax (fun q s h' ms'=>∃(k:Nat),q=out.length-k/\s=[(0,v),(3,vo),(4,.int .i64 i),(5,.int .i64 k)]/\h=h'/\ms'=[mo]/\k<=out.length/\∀j (hj:j<out.length),j<k->out[j].1<=l[i].1)
    (out.length-0) _ ⟨0,rfl,rfl,rfl,rfl,by omega,fun j hj h=>by omega⟩ Qs ?_
   rintro q s h' ms' ⟨k,rfl,rfl,rfl,rfl,hk,hlo⟩;refine Ac (Ac (Bg 15 CY (by kernel_rfl) rfl (Wm rfl (Wm rfl (AP (Ar hcl.rd rfl Cu rfl) rfl rfl (Wm rfl (Wm rfl ?_)))))));refine Dm (t:=17) rfl (fun hs1=>?_) (fun hs1=>?_)
   ·have hkl:k<out.length:=EI hs1;have hck:Cell h [mo] ((AF vo).add (k*2)) (.int .i64 out[k].1):=hcl.cell0 hkl rfl;have hci:Cell h [mo] ((AF v).add (i*2)) (.int .i64 l[i].1):=hR.any.cell0 hil rfl;refine AN (AA rfl rfl) rfl rfl rfl rfl (AN (AA rfl rfl) rfl rfl rfl rfl (AN (BU (k) hcl.rd rfl Cu AJ rfl rfl) rfl rfl rfl rfl (AN (oF Cy rfl) rfl rfl rfl rfl (AN (oL rfl U3 (hck)) rfl rfl rfl rfl (AN (AA rfl rfl) rfl rfl rfl rfl (AN (AA rfl rfl) rfl rfl rfl rfl (AN (BU (i) hR.rd.any rfl Cu AJ rfl rfl) rfl rfl rfl rfl (AN (oF Cy rfl) rfl rfl rfl rfl (AN (oL rfl U3 (hci)) rfl rfl rfl rfl (Bc (Qg (Mq rfl rfl rfl) rfl (Qm rfl (Al ?_)))))))))))));refine Av rfl (fun hs2=>?_) (fun hs2=>?_)
    ·refine Ag (Ab (Af (Ad (Qm rfl (Qx (oA rfl) rfl (Qm rfl (Aj (Ai ?_))))))))
     exact Ak (out.length-(k+1)) _ (by omega) ⟨k+1,rfl,rfl,rfl,rfl,by omega,fun j hj h=>by
      rcases (by omega:j<k\/j=k) with h1|rfl
      ·exact hlo j hj h1
      ·exact hs2⟩ Qs
    ·refine As (Aa (Aa (Ae ?_)));exact AC _ ⟨k,rfl,rfl,rfl,hk,QI hk hlo fun _=>hs2⟩ Qs
   ·have hkl:k=out.length:=by omega
    refine AG rfl rfl rfl rfl rfl (AG rfl rfl rfl rfl rfl (AG rfl rfl rfl rfl rfl (AG rfl rfl rfl rfl rfl (AG rfl rfl rfl rfl rfl (AG rfl rfl rfl rfl rfl (AG rfl rfl rfl rfl rfl (AG rfl rfl rfl rfl rfl (AG rfl rfl rfl rfl rfl (AG rfl rfl rfl rfl rfl (Bc (Qk rfl (Qm rfl (Al (AM rfl (As (Aa (Aa (Ae ?_))))))))))))))))));exact AC _ ⟨k,rfl,rfl,rfl,hk,QI hk hlo fun h=>absurd h (by omega)⟩ Qs
  ·obtain⟨k,rfl,rfl,rfl,hk,hins⟩:=hI;refine Ac (Bg 8 CY (by kernel_rfl) rfl (Wm rfl (Wm rfl (AP (BU (i) hR.rd.any rfl Cu AJ rfl rfl) rfl rfl (AP (oG rfl DE AJ (hseg _)) rfl rfl (UF (Ev [_,_] rfl Cu AJ rfl (by rfl) rfl rfl (by omega)) rfl rfl (Wm rfl (Wm rfl (AP (CA (k) hcl.rd rfl Cu AJ rfl rfl (by omega) (by omega)) rfl rfl (HJ (fun g36=>AQ 0 (OwnL.blk (g:=g36) (el:=119) (F:=cD) (l:=[l[i]]) 1 D6 rfl (by decide)) ((hO.rd (h:=h) (List.Mem.tail _ Mh)).sub_ hk (Nat.le_refl _)) rfl Cu AJ rfl (by omega) rfl rfl rfl F7 (by(try simp only[length_singleton,length_nil,length_append,length_take,length_drop,nil_append]);omega) (by(try simp only[length_singleton,length_nil,length_append,length_take,length_drop,nil_append]);omega) rfl rfl rfl (fun v6 m6 hO6=>?_))))))))))));have ov6:=hO6.o1;refine Qm rfl (Gn ?_);refine Aq [] [] [] rfl Cu AJ rfl (by omega) (by kernel_rfl) (by repeat (first|exact trivial|refine⟨⟨by first|rfl|exact(hcl.rd).cells|exact Rd.cells ‹_›|exact(RdL.rd ‹_›).cells,rfl,rfl⟩,?_⟩)) rfl rfl rfl rfl (fun g41=>?_);refine Qm rfl (Qm rfl (Qx (Eo (k) hcl.rd rfl Cu AJ rfl rfl (by omega) (by omega)) rfl (AQ 0 (FN g41 D6) ((hO.rd (h:=h) (List.Mem.tail _ (List.Mem.tail _ Mh))).sub_ (Nat.zero_le _) hk) rfl Cu AJ rfl (by omega) rfl rfl rfl F7 (by(try simp only[length_singleton,length_nil,length_append,length_take,length_drop,nil_append]);omega) (by(try simp only[length_singleton,length_nil,length_append,length_take,length_drop,nil_append]);omega) rfl rfl rfl (fun v7 m7 hO7=>Qm rfl (AQ 0 hO7 (hO6.rd (h:=h) (List.Mem.tail _ Mh)) rfl Cu AJ rfl (by omega) rfl rfl rfl F7 (by(try simp only[length_singleton,length_nil,length_append,length_take,length_drop,nil_append]);omega) (by(try simp only[length_singleton,length_nil,length_append,length_take,length_drop,nil_append]);omega) rfl rfl rfl (fun v8 m8 hO8=>?_))))))
   have he:[]++(out.drop 0).take (k-0)++([l[i]]++(out.drop k).take (out.length-k))=BX (l.take (i+1)):=by rw[htk,hins,drop_zero,Nat.sub_zero,List.take_of_length_le (l:=out.drop k) (by rw[length_drop];omega)];rfl
   rw[he]at hO8;refine Qm rfl (Aj (Ai (Ab (Ad (Qm rfl (Qx (oA rfl) rfl (Qm rfl (Aj ?_))))))));refine JJ (List.perm_append_comm (l₁:=[m8]) (l₂:=[m6,mo])) (AL (AL ?_));exact Ak (l.length-(i+1)) _ (by omega) ⟨i+1,v8,m8,rfl,rfl,rfl,rfl,by omega,hO8⟩ Qs
 ·have hil:i=l.length:=by omega
  rw[hil,List.take_length]at hO;refine As (Aa (Aa (Ae (Ab (Au (Qm rfl (Qm rfl (Al (Ao ?_)))))))));exact Az rfl rfl (⟨rfl,mo,rfl,hO⟩)
open Go.Lin Go.Sort Go.Srt
theorem GO(i j:Nat)(h:i+j<4611686018427387904):IntKind.i64.wrap (((i+j)%((2:Int)^IntKind.u64.bits).natAbs/2^1:Nat):Int)=(((i+j)/2:Nat):Int):=by
 have e1:(2^IntKind.u64.bits:Int).natAbs=18446744073709551616:=by decide
 rw[e1,Nat.mod_eq_of_lt (by omega)];show IntKind.i64.wrap (((i+j)/2:Nat):Int)=_;unfold IntKind.wrap;simp[IntKind.bits,IntKind.signed];omega
theorem Ew{k x a:Nat}(hx:k∣x)(ha:k∣a)(h:x<a):x+k<=a:=by
 obtain⟨p,rfl⟩:=hx;obtain⟨q,rfl⟩:=ha;have:p<q:=Nat.lt_of_mul_lt_mul_left h
 calc k*p+k=k*(p+1):=by rw[Nat.mul_add,Nat.mul_one]
  _<=k*q:=Nat.mul_le_mul_left k this
def c3(x y:Int):Int:=if x<y then -1 else if y<x then 1 else 0
theorem Je(x y:Int):c3 x y<0<->x<y:=by
 unfold c3
 repeat' split
 all_goals omega
theorem Q1(x:Int)(h:Hp)(ms:List Hp):FnV Tryz.prog 202 #[.int .i64 x] h ms (.bool false):=by refine Gf ?_ ms;refine Ap func202 ntmps202 rfl rfl (fun w0 hw0=>?_);simp only[AU];refine Au (Qm rfl (BL (Qm rfl (Qm rfl (Qm rfl (Qm rfl (Al (Ao ?_))))))));exact Az rfl rfl (by simp)
theorem FK(x y:Int)(h:Hp)(ms:List Hp):FnV Tryz.prog 150 #[.int .i64 x,.int .i64 y] h ms (.int .i64 (c3 x y)):=by
 refine Gf ?_ ms;refine Ap func150 ntmps150 rfl rfl (fun w0 hw0=>?_);simp only[AU];refine Au (Qm rfl (BL (Qm rfl (Qx (AO rfl call202 rfl (Q1 _ _ _)) rfl (Qm rfl (BL (Qm rfl (Qx (AO rfl call202 rfl (Q1 _ _ _)) rfl (Qm rfl (Al (Ac (Au (Qm rfl (Al (AM rfl (Ag (Ab (Ac (Au (Qm rfl (Al (AM rfl (Ag (Ab (Ac (Au (Qm rfl (Qm rfl (Qm rfl (Al ?_))))))))))))))))))))))))))))));refine Av rfl (fun h1=>?_) (fun h1=>?_)
 ·refine Ac (Ad (Qm rfl (Al (Ao (Ah ?_)))));exact Az rfl rfl (by unfold c3;rw[if_pos h1])
 ·refine Ag (Ab (Ac (Au (Qm rfl (Qm rfl (Qm rfl (Al ?_)))))));refine Av rfl (fun h2=>?_) (fun h2=>?_)
  ·refine Ac (Ad (Qm rfl (Al (Ao (Ah ?_)))));exact Az rfl rfl (by unfold c3;rw[if_neg h1,if_pos h2])
  ·refine Ag (Ab (Au (Qm rfl (Al (Ao ?_)))));exact Az rfl rfl (by unfold c3;rw[if_neg h1,if_neg h2])
structure CeO where
 c:Cl
 v:Value
 one:v.oneCell'=true
instance:Inhabited CeO:=⟨⟨default,.slice none 0 0,rfl⟩⟩
def Hh(a:CeO):List Value:=[.int .i64 a.c.id,.int .i64 a.c.dim,a.v]
theorem Jw:∀a,(Hh a).length=3:=fun _=>rfl
theorem MI(s:CeO):∀c∈Hh s,c.oneCell'=true:=fun c hc=>by
 simp only[Hh,mem_cons,not_mem_nil,or_false]at hc;rcases hc with rfl|rfl|rfl
 ·rfl
 ·rfl
 ·exact s.one
abbrev HM:=Int×Int
def Cq(x y:CeO):Bool:=decide (c3 x.c.id y.c.id<0)
def Cs(x y:HM):Bool:=decide (c3 x.1 y.1<0)
theorem H5:SWO Cq:=by
 refine⟨fun x=>?_,fun x y z h1 h2=>?_,fun x y z h1 h2=>?_⟩
 ·unfold Cq;rw[decide_eq_false_iff_not,Je];omega
 ·unfold Cq at *;rw[decide_eq_true_iff,Je]at *;omega
 ·unfold Cq at *;rw[decide_eq_false_iff_not,Je]at *;omega
theorem Iv:SWO Cs:=by
 refine⟨fun x=>?_,fun x y z h1 h2=>?_,fun x y z h1 h2=>?_⟩
 ·unfold Cs;rw[decide_eq_false_iff_not,Je];omega
 ·unfold Cs at *;rw[decide_eq_true_iff,Je]at *;omega
 ·unfold Cs at *;rw[decide_eq_false_iff_not,Je]at *;omega
def OR(g:Nat):Value:=.func (.func 196) #[] #[.pointer (some ⟨g,0,none⟩)]
def OV(g:Nat):Value:=.func (.func 199) #[] #[.pointer (some ⟨g,0,none⟩)]
def fkC:Value:=.func (.func 135) #[] #[]
def fkD:Value:=.func (.func 137) #[] #[]
def Sf(h:Hp)(g:Nat):Prop:=∀ms,Cell h ms (⟨g,0,none⟩:Addr) fkC
def Ru(h:Hp)(g:Nat):Prop:=∀ms,Cell h ms (⟨g,0,none⟩:Addr) fkD
theorem Yh(x:CeO)(h:Hp)(ms:List Hp):FnV Tryz.prog 135 #[.agg (Hh x).toArray] h ms (.int .i64 x.c.id):=by refine Gf ?_ ms;have o1:=x.one;show FnT _ _ #[.agg #[.int .i64 x.c.id,.int .i64 x.c.dim,x.v]] _ _ _;refine Ap func135 ntmps135 rfl rfl (fun w0 hw0=>?_);simp only[AU];refine Au (AX [_,_,_] rfl rfl (by rfl) rfl rfl rfl (fun g1=>Qm rfl (BL (Qf By rfl (Ql rfl U3 (Cell.blk 0 rfl rfl) (Qm rfl (Al (Ao ?_))))))));exact Az rfl rfl (rfl)
theorem Yj(x:HM)(h:Hp)(ms:List Hp):FnV Tryz.prog 137 #[.agg (cD x).toArray] h ms (.int .i64 x.1):=by refine Gf ?_ ms;show FnT _ _ #[.agg #[.int .i64 x.1,.int .i64 x.2]] _ _ _;refine Ap func137 ntmps137 rfl rfl (fun w0 hw0=>?_);simp only[AU];refine Au (AX [_,_] rfl rfl (by rfl) rfl rfl rfl (fun g1=>Qm rfl (BL (Qf Cy rfl (Ql rfl U3 (Cell.blk 0 rfl rfl) (Qm rfl (Al (Ao ?_))))))));exact Az rfl rfl (rfl)
theorem Nc(x y:CeO)(h:Hp)(g:Nat)(hg:Sf h g)(ms:List Hp):FnV Tryz.prog 196 #[.agg (Hh x).toArray,.agg (Hh y).toArray,.pointer (some ⟨g,0,none⟩)] h ms (.int .i64 (c3 x.c.id y.c.id)):=by refine Gf ?_ ms;have o1:=x.one;have o2:=y.one;show FnT _ _ #[.agg #[.int .i64 x.c.id,.int .i64 x.c.dim,x.v],.agg #[.int .i64 y.c.id,.int .i64 y.c.dim,y.v],.pointer (some ⟨g,0,none⟩)] _ _ _;refine Ap func196 ntmps196 rfl rfl (fun w0 hw0=>?_);simp only[AU];refine Au (AX [_,_,_] rfl rfl (by rfl) rfl rfl rfl (fun g3=>AX [_,_,_] rfl rfl (by rfl) rfl rfl rfl (fun g4=>Qm rfl (Al (AD fun h1 l1 hG4=>(AD fun h2 l2 hG3=>?_))))));have hG4:=hG4.le l2;have hgk:∀ms,Cell h2 ms (⟨g,0,none⟩:Addr) fkC:=fun ms=>(hg ms).le (AI l1 l2);refine Ac (Bg 5 CY (by kernel_rfl) rfl (Wl rfl Aai (hgk _) (AP (oG rfl EL AH (Seg.any hG3)) rfl rfl (AP (BY rfl rfl call135 rfl ((Yh x _ _))) rfl rfl (Wl rfl Aai (hgk _) (AP (oG rfl EL AH (Seg.any hG4)) rfl rfl (Bc (Qx (BY rfl rfl call135 rfl ((Yh y _ _))) rfl (Qx (AO rfl call150 rfl (FK _ _ _ _)) rfl (Qm rfl (Al (Ao ?_))))))))))));exact Az rfl rfl (rfl)
theorem Mx(x y:HM)(h:Hp)(g:Nat)(hg:Ru h g)(ms:List Hp):FnV Tryz.prog 199 #[.agg (cD x).toArray,.agg (cD y).toArray,.pointer (some ⟨g,0,none⟩)] h ms (.int .i64 (c3 x.1 y.1)):=by refine Gf ?_ ms;show FnT _ _ #[.agg #[.int .i64 x.1,.int .i64 x.2],.agg #[.int .i64 y.1,.int .i64 y.2],.pointer (some ⟨g,0,none⟩)] _ _ _;refine Ap func199 ntmps199 rfl rfl (fun w0 hw0=>?_);simp only[AU];refine Au (AX [_,_] rfl rfl (by rfl) rfl rfl rfl (fun g3=>AX [_,_] rfl rfl (by rfl) rfl rfl rfl (fun g4=>Qm rfl (Al (AD fun h1 l1 hG4=>(AD fun h2 l2 hG3=>?_))))));have hG4:=hG4.le l2;have hgk:∀ms,Cell h2 ms (⟨g,0,none⟩:Addr) fkD:=fun ms=>(hg ms).le (AI l1 l2);refine Ac (Bg 5 CY (by kernel_rfl) rfl (Wl rfl ZL (hgk _) (AP (oG rfl DE AJ (Seg.any hG3)) rfl rfl (AP (BY rfl rfl call137 rfl ((Yj x _ _))) rfl rfl (Wl rfl ZL (hgk _) (AP (oG rfl DE AJ (Seg.any hG4)) rfl rfl (Bc (Qx (BY rfl rfl call137 rfl ((Yj y _ _))) rfl (Qx (AO rfl call150 rfl (FK _ _ _ _)) rfl (Qm rfl (Al (Ao ?_))))))))))));exact Az rfl rfl (rfl)
variable {m h:Hp} {v:Value} {d:Array CeO} {ms:List Hp}
abbrev OSC(m:Hp)(v:Value)(d:Array CeO):Prop:=OwnL Hh 3 52 m v d.toList
theorem OSC.rd(O:OSC m v d)(hm:m∈ms):Rd h ms v 3 d.size (d.toList.flatMap Hh):=by have:=(OwnL.rd O hm (h:=h)).rd;rwa [Array.length_toList]at this
theorem OSC.get(O:OSC m v d)(hm:m∈ms){j:Nat}(hj:j<d.size):Seg h ms ((AF v).add (j*3)) (Hh d[j]!):=by have:=(OwnL.rd O hm (h:=h)).seg (j:=j) (by simpa using hj);simpa[hj] using this
theorem Dd{e:Entry}{Q:Exit->Act->World->Prop}{ops:Array Oper}{rest:List Oper}{o:Oper}{s:Aw}{t:TypeId}{x y:Operand}{z:Value}{bytes:Nat}{a:CeO}(i j:Nat)(O:OSC m v d)(ho:o.op=.store t x y)(hs:Elem e.P t 3 z bytes)(hx:ev s x=some (.pointer (some ((AF v).add (j*3)))))(hy:ev s y=some (.agg (Hh a).toArray))
  (hm:ms[i]?=some m) (hj:j<d.size) (hd:o.dst=none) (hg:o.guard=none)
  (K:∀m',(d.setIfInBounds j a).size=d.size->OSC m' v (d.setIfInBounds j a)->WL e ops Q rest s h (ms.set i m')):WL e ops Q (o::rest) s h ms:=
 FV i j a O ho hs hx hy rfl (MI a) hm (by simpa using hj) hd hg fun m' O'=>K m' (by simp) (by
  show OwnL Hh 3 52 m' v (d.setIfInBounds j a).toList
  rw[Array.toList_setIfInBounds];exact O')
theorem Fo(d:Array CeO)(v cv:Value)(m:Hp)(hO:OSC m v d)(a b n lo hi:Nat)(hab:a+n<=b)(hb:b+n<=d.size)(hsz:d.size<=1000000)(hlo:lo<=a)(hhi:b+n<=hi)(hhs:hi<=d.size)(h:Hp){a' b' n':Int}(ea:a'=a)(eb:b'=b)(en:n'=n) :
  FnT Tryz.prog 308 #[v,.int .i64 a',.int .i64 b',.int .i64 n',cv] h [m] (fun _ h' ms'=>h=h'/\∃m' d',ms'=[m']/\OSC m' v d'/\SwR d d' a b n/\PermIn lo hi d d'):=by
 subst ea eb en;refine Ap func308 ntmps308 rfl rfl (fun w0 hw0=>?_);simp only[AU];refine Au (Qm rfl (Al (Af ?_)))
 refine Ax (fun q s h' ms'=>∃(i:Nat) (d0:Array CeO) (m:Hp),q=n-i/\s=[(0,v),(1,.int .i64 a),(2,.int .i64 b),(3,.int .i64 n),(10,.int .i64 i)]/\h=h'/\ms'=[m]/\i<=n/\OSC m v d0/\SwR d d0 a b i/\PermIn lo hi d d0)
  (n-0) _ ⟨0,d,m,rfl,rfl,rfl,rfl,by omega,hO,SwR.start d a b,permIn_refl d lo hi⟩ Qs ?_
 rintro q s h' ms' ⟨i,d0,m0,rfl,rfl,rfl,rfl,hi2,hO0,S,P⟩;have hds:=S.1;refine Ac (Au (Qm rfl (Qm rfl (Qm rfl (Al ?_)))));refine Av rfl (fun hlt=>?_) (fun hlt=>?_)
 ·refine Ag (Ab (Ac (Af (DL 20 [false,false,false,false,true,true,true,true] CY (by kernel_rfl) (by kernel_rfl) (by kernel_rfl) (DX rfl rfl rfl rfl (Cf rfl rfl) (DX rfl rfl rfl rfl (Cf rfl rfl) (DX rfl rfl rfl rfl (Cf rfl rfl) (DX rfl rfl rfl rfl (Mj rfl rfl rfl (by omega)) ?_))))))));refine⟨rfl,?_⟩;simp only[Em,zap,cons_append,nil_append,take_succ_cons,take_zero,drop_succ_cons,drop_zero,List.take_nil,List.drop_nil];refine Wm rfl (Wm rfl (Wm rfl (AP (oA rfl) rfl rfl (DW rfl rfl rfl (DW rfl rfl rfl (DW rfl rfl rfl (DW rfl rfl rfl (Wm rfl (Wm rfl (Wm rfl (AP (oA rfl) rfl rfl (AP (AB (b+i) (hO0.rd (.head _)) rfl Bk AH rfl rfl (by omega) (by omega)) rfl rfl (AP (oG rfl EL AH (hO0.get (.head _) (by omega))) rfl rfl (Wm rfl (Wm rfl (Wm rfl (AP (oA rfl) rfl rfl (AP (AB (a+i) (hO0.rd (.head _)) rfl Bk AH rfl rfl (by omega) (by omega)) rfl rfl (AP (oG rfl EL AH (hO0.get (.head _) (by omega))) rfl rfl (Bc (Qx (AB (a+i) (hO0.rd (.head _)) rfl Bk AH rfl rfl (by omega) (by omega)) rfl (Dd 0 _ hO0 rfl AH rfl rfl rfl (by omega) rfl rfl (fun mhO1 hzhO1 hO1=>Qx (AB (b+i) (hO1.rd (.head _)) rfl Bk AH rfl rfl (by omega) (by omega)) rfl (Dd 0 _ hO1 rfl AH rfl rfl rfl (by omega) rfl rfl (fun mhO2 hzhO2 hO2=>Aj (Iq (Ai (Ab (Ad (Qm rfl (Qx (oA rfl) rfl (Qm rfl (Aj ?_)))))))))))))))))))))))))))))))));refine Ak (n-(i+1)) _ (by omega) ⟨i+1,_,mhO2,rfl,rfl,rfl,rfl,by omega,hO2,S.step (by omega) (by omega),permIn_trans _ _ _ _ _ P (swp_permIn d0 lo hi (a+i) (b+i) (by omega) (by omega) (by omega) (by omega) (by omega))⟩ Qs
 ·obtain rfl:i=n:=by omega
  refine As (Aa (Aa (Ae ?_)));exact BO rfl (⟨rfl,m0,d0,rfl,hO0,S,P⟩)
theorem Pv(d:Array CeO)(v cv:Value)(m:Hp)(hO:OSC m v d)(a t b lo hi:Nat)(hat:a<t)(htb:t<b)(hb:b<=d.size)(hsz:d.size<=1000000)(hlo:lo<=a)(hhi:b<=hi)(hhs:hi<=d.size)(h:Hp){a' t' b':Int}(ea:a'=a)(et:t'=t)(eb:b'=b) :
  FnT Tryz.prog 298 #[v,.int .i64 a',.int .i64 t',.int .i64 b',cv] h [m] (fun _ h' ms'=>h=h'/\∃m' d',ms'=[m']/\OSC m' v d'/\(∀k,d'[k]! = EZ d a t b k)/\PermIn lo hi d d'):=by
 subst ea et eb;refine Ap func298 ntmps298 rfl rfl (fun w0 hw0=>?_);simp only[AU];refine Au (Qm rfl (Qm rfl (Qx (oS rfl) rfl (Qm rfl (BL (Qm rfl (Qm rfl (Qx (oS rfl) rfl (Qm rfl (Al (Ac (Af ?_))))))))))))
 refine Ax (fun q s h' ms'=>∃(i j:Nat) (x y:Int) (d0:Array CeO) (m:Hp),q=i+j/\s=[(0,v),(2,.int .i64 t),(4,cv),(10,.int .i64 x),(11,.int .i64 y)]/\h=h'/\ms'=[m]/\x=i/\y=j/\0<i/\0<j/\a+i<=t/\t+j<=b/\OSC m v d0/\(∀k,EZ d0 (t-i) t (t+j) k=EZ d a t b k)/\PermIn lo hi d d0)
  ((t-a)+(b-t)) _ ⟨t-a,b-t,(t:Int)-a,(b:Int)-t,d,m,rfl,rfl,rfl,rfl,by omega,by omega,by omega,by omega,by omega,by omega,hO,fun k=>by rw[show t-(t-a)=a by omega,show t+(b-t)=b by omega],permIn_refl d lo hi⟩ Qs ?_
 rintro q s h' ms' ⟨i,j,x,y,d0,m0,rfl,rfl,rfl,rfl,rfl,rfl,hi0,hj0,hai,hjb,hO0,hR,P⟩;have hds:=P.1;refine Ac (Au (Qm rfl (Qm rfl (Qm rfl (Al ?_)))));refine Av rfl (fun hne=>?_) (fun hne=>?_)
 ·refine Ag (Ab (Af (Au (Qm rfl (Qm rfl (Qm rfl (Al ?_)))))));refine Av rfl (fun hgt=>?_) (fun hgt=>?_)
  ·refine Ac (Ad (Qm rfl (Qm rfl (Qm rfl (Qx (oS rfl) rfl (Qm rfl (Qm rfl (Qm rfl (AY (pre:=[m0]) rfl call308 rfl (Fo d0 v cv m0 hO0 (t-i) t j lo hi (by omega) (by omega) (by omega) (by omega) (by omega) (by omega) h (by omega) rfl rfl) rfl rfl rfl rfl (fun r h1 ms1 l1 hF=>?_))))))))));obtain⟨rfl,m1,d1,rfl,hO1,S,P1⟩:=hF;refine Gn (Qm rfl (Qm rfl (Qx (oS rfl) rfl (Qm rfl (Aj (Ai ?_))))));refine Ak ((i-j)+j) _ (by omega) ⟨i-j,j,(i:Int)-j,j,d1,m1,rfl,rfl,rfl,rfl,by omega,rfl,by omega,by omega,by omega,by omega,hO1,fun k=>(NB (by omega) (by omega) S k).trans (hR k),permIn_trans _ _ _ _ _ P P1⟩ Qs
  ·refine Ac (Ad (Qm rfl (Qm rfl (Qm rfl (Qx (oS rfl) rfl (Qm rfl (Qm rfl (Qx (oA rfl) rfl (Qm rfl (Qx (oS rfl) rfl (Qm rfl (Qm rfl (AY (pre:=[m0]) rfl call308 rfl (Fo d0 v cv m0 hO0 (t-i) (t+j-i) i lo hi (by omega) (by omega) (by omega) (by omega) (by omega) (by omega) h (by omega) (by omega) rfl) rfl rfl rfl rfl (fun r h1 ms1 l1 hF=>?_))))))))))))));obtain⟨rfl,m1,d1,rfl,hO1,S,P1⟩:=hF;refine Gn (Qm rfl (Qm rfl (Qx (oS rfl) rfl (Qm rfl (Aj (Ai ?_))))));refine Ak (i+(j-i)) _ (by omega) ⟨i,j-i,i,(j:Int)-i,d1,m1,rfl,rfl,rfl,rfl,rfl,by omega,by omega,by omega,by omega,by omega,hO1,fun k=>(KM (by omega) (by omega) S k).trans (hR k),permIn_trans _ _ _ _ _ P P1⟩ Qs
 ·obtain rfl:i=j:=by omega
  refine As (Aa (Aa (Ae (Ab (Ad (Qm rfl (Qm rfl (Qm rfl (Qx (oS rfl) rfl (Qm rfl (Qm rfl (Qm rfl (AY (pre:=[m0]) rfl call308 rfl (Fo d0 v cv m0 hO0 (t-i) t i lo hi (by omega) (by omega) (by omega) (by omega) (by omega) (by omega) h (by omega) rfl rfl) rfl rfl rfl rfl (fun r h1 ms1 l1 hF=>?_))))))))))))));obtain⟨rfl,m1,d1,rfl,hO1,S,P1⟩:=hF;refine Aj ?_;exact BO rfl (⟨rfl,m1,d1,rfl,hO1,fun k=>(N0 (by omega) S k).trans (hR k),permIn_trans _ _ _ _ _ P P1⟩)
end Go.Proofs.Q

namespace Go.Proofs.Q
open Go.Proofs.Tryz
open Go.Eng Go.RowKit Go.Lin Go.Sort Go.Srt
theorem Nl(d:Array CeO)(v:Value)(m:Hp)(hO:OSC m v d)(a b:Nat)(hab:a<=b)(hb:b<=d.size)(hsz:d.size<=1000000)(h:Hp)(g:Nat)(hg:Sf h g){a' b':Int}(ea:a'=a)(eb:b'=b) :
  FnT Tryz.prog 240 #[v,.int .i64 a',.int .i64 b',(OR g)] h [m] (fun _ h' ms'=>h=h'/\∃m' d',ms'=[m']/\OSC m' v d'/\PermIn a b d d'/\SortedIn Cq a b d'):=by
 subst ea eb;have hfin:=insertionSort_holds (lt:=Cq) H5 d a b hab hb;refine Ap func240 ntmps240 rfl rfl (fun w0 hw0=>?_);simp only[AU];refine Au (Qm rfl (Qx (oA rfl) rfl (Qm rfl (Al (Af ?_)))))
 refine Ax (fun n s h' ms'=>∃(i:Nat) (z:Int) (d':Array CeO) (m:Hp),n=b-i/\s=[(0,v),(1,.int .i64 a),(2,.int .i64 b),(3,(OR g)),(8,.int .i64 z)]/\h=h'/\ms'=[m]/\z=i/\a<i/\i<=4611686018427387905/\OSC m v d'/\d'.size=d.size/\insOuter Cq a b i d'=insertionSort Cq d a b)
  _ _ ⟨a+1,(a:Int)+1,d,m,rfl,rfl,rfl,rfl,by omega,by omega,by omega,hO,rfl,rfl⟩ Qs ?_
 rintro n s h' ms' ⟨i,z,d',m,rfl,rfl,rfl,rfl,hz,hai,hi,hO,hds,hR⟩;refine Ac (Au (Qm rfl (Qm rfl (Qm rfl (Al ?_)))));refine Av rfl (fun hlt=>?_) (fun hlt=>?_)
 ·refine Ag (Ab (Ac (Af (Au (Qm rfl (Qm rfl (Al (Af ?_))))))))
  refine Ax (fun n s h' ms'=>∃(j:Nat) (y:Int) (d':Array CeO) (m:Hp),j=n/\s=[(0,v),(1,.int .i64 a),(2,.int .i64 b),(3,(OR g)),(8,.int .i64 z),(9,.int .i64 y)]/\h=h'/\ms'=[m]/\y=j/\j<=i/\OSC m v d'/\d'.size=d.size/\insOuter Cq a b (i+1) (insInner Cq a j d')=insertionSort Cq d a b)
   _ _ ⟨i,z,d',m,rfl,rfl,rfl,rfl,hz,by omega,hO,hds,by rw[<-hR];conv=>rhs;unfold insOuter;rw[if_pos (by omega)]⟩ Qs ?_
  rintro n s h' ms' ⟨j,y,d1,m1,rfl,rfl,rfl,rfl,hy,hji,hO1,hds1,hR1⟩;refine Ac (Ac (Bg 14 CY (by kernel_rfl) rfl (Wm rfl (Wm rfl (Wm rfl (Wm rfl ?_))))));refine Dm (t:=21) rfl (fun hja=>?_) (fun hja=>?_)
  ·refine AN (AA rfl rfl) rfl rfl rfl rfl (AN (AA rfl rfl) rfl rfl rfl rfl (AN (AA rfl rfl) rfl rfl rfl rfl (AN (AB (j) (hO1.rd (.head _)) rfl Bk AH rfl rfl (by omega) (by omega)) rfl rfl rfl rfl (AN (oG rfl EL AH (hO1.get (.head _) (by omega))) rfl rfl rfl rfl (AN (AA rfl rfl) rfl rfl rfl rfl (AN (AA rfl rfl) rfl rfl rfl rfl (AN (oS rfl) rfl rfl rfl rfl (AN (AB (j-1) (hO1.rd (.head _)) rfl Bk AH rfl rfl (by omega) (by omega)) rfl rfl rfl rfl (AN (oG rfl EL AH (hO1.get (.head _) (by omega))) rfl rfl rfl rfl (Bc (Qg (BY rfl rfl call196 rfl (Nc _ _ _ g hg _)) rfl (Qg (CZ rfl rfl rfl) rfl (Qm rfl (Al ?_))))))))))))));refine Bu rfl (fun hl=>?_) (fun hl=>?_)
   ·refine Ag (Ab (Ac (Af (DL 14 [false,false,true,true,true] CY (by kernel_rfl) (by kernel_rfl) (by kernel_rfl) (DX rfl rfl rfl rfl (Cf rfl rfl) (DX rfl rfl rfl rfl (Cf rfl rfl) (DX rfl rfl rfl rfl (MX rfl rfl rfl (by omega)) ?_)))))));refine⟨rfl,?_⟩;simp only[Em,zap,cons_append,nil_append,take_succ_cons,take_zero,drop_succ_cons,drop_zero,List.take_nil,List.drop_nil];refine Wm rfl (Wm rfl (DW rfl rfl rfl (DW rfl rfl rfl (DW rfl rfl rfl (Wm rfl (Wm rfl (AP (oS rfl) rfl rfl (AP (AB (j-1) (hO1.rd (.head _)) rfl Bk AH rfl rfl (by omega) (by omega)) rfl rfl (AP (oG rfl EL AH (hO1.get (.head _) (by omega))) rfl rfl (Wm rfl (Wm rfl (AP (AB (j) (hO1.rd (.head _)) rfl Bk AH rfl rfl (by omega) (by omega)) rfl rfl (AP (oG rfl EL AH (hO1.get (.head _) (by omega))) rfl rfl (Bc (Qx (AB (j) (hO1.rd (.head _)) rfl Bk AH rfl rfl (by omega) (by omega)) rfl (Dd 0 _ hO1 rfl AH rfl rfl rfl (by omega) rfl rfl (fun mhO2 hzhO2 hO2=>Qx (AB (j-1) (hO2.rd (.head _)) rfl Bk AH rfl rfl (by omega) (by omega)) rfl (Dd 0 _ hO2 rfl AH rfl rfl rfl (by omega) rfl rfl (fun mhO3 hzhO3 hO3=>Aj (Iq (Ai (Ab (Ad (Qm rfl (Qx (oS rfl) rfl (Qm rfl (Aj ?_)))))))))))))))))))))))))));obtain⟨j',rfl⟩:∃j',j=j'+1:=⟨j-1,by omega⟩
    refine Ak j' _ (by omega) ⟨j',y-1,_,mhO3,rfl,rfl,rfl,rfl,by omega,by omega,hO3,by simp[hds1],?_⟩ Qs;rw[<-hR1]
    conv=>rhs;unfold insInner
    rw[if_pos (by rw[Bool.and_eq_true];exact⟨decide_eq_true (by omega),hl⟩)];rfl
   ·refine As (Aa (Aa (Ae (Ai (Ab (Ad (Qm rfl (Qx (oA rfl) rfl (Qm rfl (Aj ?_))))))))));refine Ak (b-(i+1)) _ (by omega) ⟨i+1,z+1,d1,m1,rfl,rfl,rfl,rfl,by omega,by omega,by omega,hO1,hds1,?_⟩ Qs;rw[<-hR1];obtain⟨j',rfl⟩:∃j',j=j'+1:=⟨j-1,by omega⟩
    conv=>rhs;unfold insInner
    rw[if_neg (by rw[Bool.and_eq_true];rintro⟨_,h2⟩;exact absurd (hl.symm.trans h2) (by decide))]
  ·refine AG rfl rfl rfl rfl rfl (AG rfl rfl rfl rfl rfl (AG rfl rfl rfl rfl rfl (AG rfl rfl rfl rfl rfl (AG rfl rfl rfl rfl rfl (AG rfl rfl rfl rfl rfl (AG rfl rfl rfl rfl rfl (AG rfl rfl rfl rfl rfl (AG rfl rfl rfl rfl rfl (AG rfl rfl rfl rfl rfl (Bc (Qk rfl (Qk rfl (Qm rfl (Al (AM rfl (As (Aa (Aa (Ae (Ai (Ab (Ad (Qm rfl (Qx (oA rfl) rfl (Qm rfl (Aj ?_))))))))))))))))))))))))));refine Ak (b-(i+1)) _ (by omega) ⟨i+1,z+1,d1,m1,rfl,rfl,rfl,rfl,by omega,by omega,by omega,hO1,hds1,?_⟩ Qs;rw[<-hR1];cases j with
   | zero=>rfl
   | succ j'=>
    conv=>rhs;unfold insInner
    rw[if_neg (by simp;intro h';omega)]
 ·refine As (Aa (Aa (Ae ?_)));exact BO rfl (⟨rfl,m,insertionSort Cq d a b,rfl,by rw[<-hR];unfold insOuter;rw[if_neg (by omega)];exact hO,hfin.1,hfin.2⟩)
theorem Iy:∀(N:Nat) (d:Array CeO) (v:Value) (m:Hp) (hO:OSC m v d) (a t b:Nat) (hN:b-a<=N) (hat:a<t) (htb:t<b) (hb:b<=d.size) (hsz:d.size<=1000000) (hA:SortedIn Cq a t d) (hB:SortedIn Cq t b d) (h:Hp) (g:Nat) (hg:Sf h g) {a' t' b':Int} (ea:a'=a) (et:t'=t) (eb:b'=b),
  FnT Tryz.prog 277 #[v,.int .i64 a',.int .i64 t',.int .i64 b',(OR g)] h [m] (fun _ h' ms'=>h=h'/\∃m' d',ms'=[m']/\OSC m' v d'/\PermIn a b d d'/\SortedIn Cq a b d'):=by
 intro N
 induction N with
 | zero=>intro d v m hO a t b hN hat htb;omega
 | succ N ih=>
 intro d v m hO a t b hN hat htb hb hsz hA hB h g hg a' t' b' ea et eb;subst ea et eb;refine Ap func277 ntmps277 rfl rfl (fun w0 hw0=>?_);simp only[AU];refine Ac (Au (Qm rfl (Qm rfl (Qx (oS rfl) rfl (Qm rfl (Al ?_))))));refine Av rfl (fun h1=>?_) (fun h1=>?_)
 ·-- one element on the left
  obtain rfl:t=a+1:=by omega
  refine Au (Qm rfl (Qm rfl (BL (Qm rfl (Qm rfl (Al (Ac (Af ?_))))))))
  refine Ax (fun n s h' ms'=>∃(i j:Nat),n=j-i/\s=[(0,v),(1,.int .i64 a),(4,(OR g)),(10,.int .i64 i),(11,.int .i64 j)]/\h=h'/\ms'=[m]/\a+1<=i/\i<=j/\j<=b/\(i=a+1\/Cq d[i-1]! d[a]! = true)/\(j=b\/Cq d[j]! d[a]! = false))
   (b-(a+1)) _ ⟨a+1,b,rfl,rfl,rfl,rfl,by omega,by omega,by omega,.inl rfl,.inl rfl⟩ Qs ?_
  rintro n s h' ms' ⟨i,j,rfl,rfl,rfl,rfl,hi,hij,hj,c1,c2⟩;refine Ac (Au (Qm rfl (Qm rfl (Qm rfl (Al ?_)))));refine Av rfl (fun hlt=>?_) (fun hlt=>?_)
  ·refine Ag (Ab (Af (Au (Qm rfl (Qm rfl (Qx (oA rfl) rfl (Qx (BZ rfl U3 G9 rfl) rfl (Qx (Dr (n:=1) rfl rfl rfl (by omega)) rfl (Qx (BZ rfl G9 U3 rfl) rfl (Qm rfl (Al ?_)))))))))));rw[GO i j (by omega)];refine Ac (Bg 9 CY (by kernel_rfl) rfl (Wm rfl (Wm rfl (Wm rfl (AP (AB ((i+j)/2) (hO.rd (.head _)) rfl Bk AH rfl rfl (by omega) (by omega)) rfl rfl (AP (oG rfl EL AH (hO.get (.head _) (by omega))) rfl rfl (Wm rfl (Wm rfl (AP (AB (a) (hO.rd (.head _)) rfl Bk AH rfl rfl (by omega) (by omega)) rfl rfl (AP (oG rfl EL AH (hO.get (.head _) (by omega))) rfl rfl (Bc (Qx (BY rfl rfl call196 rfl (Nc _ _ _ g hg _)) rfl (Qm rfl (Al ?_))))))))))))));refine Bu rfl (fun hl=>?_) (fun hl=>?_)
   ·refine Ad (Qm rfl (Qx (oA rfl) rfl (Qm rfl (Aj (Ai ?_)))));exact Ak (j-((i+j)/2+1)) _ (by omega) ⟨(i+j)/2+1,j,rfl,rfl,rfl,rfl,by omega,by omega,by omega,.inr (by rw[Nat.add_sub_cancel];exact hl),c2⟩ Qs
   ·refine Ad (Qm rfl (Qm rfl (Aj (Ai ?_))));exact Ak ((i+j)/2-i) _ (by omega) ⟨i,(i+j)/2,rfl,rfl,rfl,rfl,by omega,by omega,by omega,c1,.inr hl⟩ Qs
  ·obtain rfl:i=j:=by omega
   refine As (Aa (Aa (Ae (Ab (Ac (Au (Qm rfl (Qm rfl (Al (Af ?_))))))))))
   refine Ax (fun n s h' ms'=>∃(k:Nat) (d0:Array CeO) (m:Hp),n=i-1-k/\s=[(0,v),(10,.int .i64 i),(13,.int .i64 k)]/\h=h'/\ms'=[m]/\a<=k/\k<=i-1/\OSC m v d0/\InsR d d0 a k/\PermIn a b d d0)
    (i-1-a) _ ⟨a,d,m,rfl,rfl,rfl,rfl,by omega,by omega,hO,InsR.start d a,permIn_refl d a b⟩ Qs ?_
   rintro n s h' ms' ⟨k,d0,m0,rfl,rfl,rfl,rfl,hak,hki,hO0,R,P⟩;have hds:=R.1;refine Ac (Au (Qm rfl (Qm rfl (Qx (oS rfl) rfl (Qm rfl (Al ?_))))));refine Av rfl (fun hltk=>?_) (fun hltk=>?_)
   ·refine Ag (Ab (Ac (Af (DL 14 [false,false,true,true,true] CY (by kernel_rfl) (by kernel_rfl) (by kernel_rfl) (DX rfl rfl rfl rfl (Cf rfl rfl) (DX rfl rfl rfl rfl (Cf rfl rfl) (DX rfl rfl rfl rfl (Mj rfl rfl rfl (by omega)) ?_)))))));refine⟨rfl,?_⟩;simp only[Em,zap,cons_append,nil_append,take_succ_cons,take_zero,drop_succ_cons,drop_zero,List.take_nil,List.drop_nil];refine Wm rfl (Wm rfl (DW rfl rfl rfl (DW rfl rfl rfl (DW rfl rfl rfl (Wm rfl (Wm rfl (AP (oA rfl) rfl rfl (AP (AB (k+1) (hO0.rd (.head _)) rfl Bk AH rfl rfl (by omega) (by omega)) rfl rfl (AP (oG rfl EL AH (hO0.get (.head _) (by omega))) rfl rfl (Wm rfl (Wm rfl (AP (AB (k) (hO0.rd (.head _)) rfl Bk AH rfl rfl (by omega) (by omega)) rfl rfl (AP (oG rfl EL AH (hO0.get (.head _) (by omega))) rfl rfl (Bc (Qx (AB (k) (hO0.rd (.head _)) rfl Bk AH rfl rfl (by omega) (by omega)) rfl (Dd 0 _ hO0 rfl AH rfl rfl rfl (by omega) rfl rfl (fun mhO1 hzhO1 hO1=>Qx (AB (k+1) (hO1.rd (.head _)) rfl Bk AH rfl rfl (by omega) (by omega)) rfl (Dd 0 _ hO1 rfl AH rfl rfl rfl (by omega) rfl rfl (fun mhO2 hzhO2 hO2=>Aj (Iq (Ai (Ab (Ad (Qm rfl (Qx (oA rfl) rfl (Qm rfl (Aj ?_)))))))))))))))))))))))))));exact Ak (i-1-(k+1)) _ (by omega) ⟨k+1,_,mhO2,rfl,rfl,rfl,rfl,by omega,by omega,hO2,R.step hak (by omega),permIn_trans _ _ _ _ _ P (swp_permIn d0 a b k (k+1) (by omega) (by omega) (by omega) (by omega) (by omega))⟩ Qs
   ·obtain rfl:k=i-1:=by omega
    refine As (Aa (Aa (Ae (Ab (Ao (Ah ?_))))));exact Fg rfl (⟨rfl,m0,d0,rfl,hO0,P,Km H5 hB ⟨hi,hj⟩ c1 c2 R⟩)
 ·refine Ag (Ab (Ac (Au (Qm rfl (Qm rfl (Qx (oS rfl) rfl (Qm rfl (Al ?_))))))));refine Av rfl (fun h2=>?_) (fun h2=>?_)
  ·-- one element on the right
   obtain rfl:b=t+1:=by omega
   refine Au (Qm rfl (Qm rfl (BL (Qm rfl (Qm rfl (Al (Ac (Af ?_))))))))
   refine Ax (fun n s h' ms'=>∃(i j:Nat),n=j-i/\s=[(0,v),(1,.int .i64 a),(2,.int .i64 t),(4,(OR g)),(14,.int .i64 i),(15,.int .i64 j)]/\h=h'/\ms'=[m]/\a<=i/\i<=j/\j<=t/\(i=a\/Cq d[t]! d[i-1]! = false)/\(j=t\/Cq d[t]! d[j]! = true))
    (t-a) _ ⟨a,t,rfl,rfl,rfl,rfl,by omega,by omega,by omega,.inl rfl,.inl rfl⟩ Qs ?_
   rintro n s h' ms' ⟨i,j,rfl,rfl,rfl,rfl,hi,hij,hj,c1,c2⟩;refine Ac (Au (Qm rfl (Qm rfl (Qm rfl (Al ?_)))));refine Av rfl (fun hlt=>?_) (fun hlt=>?_)
   ·refine Ag (Ab (Af (Au (Qm rfl (Qm rfl (Qx (oA rfl) rfl (Qx (BZ rfl U3 G9 rfl) rfl (Qx (Dr (n:=1) rfl rfl rfl (by omega)) rfl (Qx (BZ rfl G9 U3 rfl) rfl (Qm rfl (Al ?_)))))))))));rw[GO i j (by omega)];refine Ac (Bg 9 CY (by kernel_rfl) rfl (Wm rfl (Wm rfl (Wm rfl (AP (AB (t) (hO.rd (.head _)) rfl Bk AH rfl rfl (by omega) (by omega)) rfl rfl (AP (oG rfl EL AH (hO.get (.head _) (by omega))) rfl rfl (Wm rfl (Wm rfl (AP (AB ((i+j)/2) (hO.rd (.head _)) rfl Bk AH rfl rfl (by omega) (by omega)) rfl rfl (AP (oG rfl EL AH (hO.get (.head _) (by omega))) rfl rfl (Bc (Qx (BY rfl rfl call196 rfl (Nc _ _ _ g hg _)) rfl (Qm rfl (Qm rfl (Al ?_)))))))))))))));refine Bu rfl (fun hl=>?_) (fun hl=>?_)
    ·have hl:Cq d[t]! d[(i+j)/2]! = false:=by unfold Cq;simpa using hl
     refine Ad (Qm rfl (Qx (oA rfl) rfl (Qm rfl (Aj (Ai ?_)))));exact Ak (j-((i+j)/2+1)) _ (by omega) ⟨(i+j)/2+1,j,rfl,rfl,rfl,rfl,by omega,by omega,by omega,.inr (by rw[Nat.add_sub_cancel];exact hl),c2⟩ Qs
    ·have hl:Cq d[t]! d[(i+j)/2]! = true:=by unfold Cq;simpa using hl
     refine Ad (Qm rfl (Qm rfl (Aj (Ai ?_))));exact Ak ((i+j)/2-i) _ (by omega) ⟨i,(i+j)/2,rfl,rfl,rfl,rfl,by omega,by omega,by omega,c1,.inr hl⟩ Qs
   ·obtain rfl:i=j:=by omega
    refine As (Aa (Aa (Ae (Ab (Ac (Au (Qm rfl (Qm rfl (Al (Af ?_))))))))))
    refine Ax (fun n s h' ms'=>∃(k:Nat) (d0:Array CeO) (m:Hp),n=k-i/\s=[(0,v),(14,.int .i64 i),(17,.int .i64 k)]/\h=h'/\ms'=[m]/\i<=k/\k<=t/\OSC m v d0/\ShR d d0 t k/\PermIn a (t+1) d d0)
     (t-i) _ ⟨t,d,m,rfl,rfl,rfl,rfl,by omega,by omega,hO,ShR.start d t,permIn_refl d a (t+1)⟩ Qs ?_
    rintro n s h' ms' ⟨k,d0,m0,rfl,rfl,rfl,rfl,hik,hkt,hO0,R,P⟩;have hds:=R.1;refine Ac (Au (Qm rfl (Qm rfl (Qm rfl (Al ?_)))));refine Av rfl (fun hltk=>?_) (fun hltk=>?_)
    ·have st:ShR d (Go.Sort.swp d0 k (k-1)) t (k-1):=by
      obtain⟨k',rfl⟩:∃k',k=k'+1:=⟨k-1,by omega⟩
      exact R.step (by omega) (by omega)
     have e:(k:Int)-1=((k-1:Nat):Int):=by omega
     refine Ag (Ab (Ac (Af (DL 14 [false,false,true,true,true] CY (by kernel_rfl) (by kernel_rfl) (by kernel_rfl) (DX rfl rfl rfl rfl (Cf rfl rfl) (DX rfl rfl rfl rfl (Cf rfl rfl) (DX rfl rfl rfl rfl (MX rfl rfl rfl (by omega)) ?_)))))));refine⟨rfl,?_⟩;simp only[Em,zap,cons_append,nil_append,take_succ_cons,take_zero,drop_succ_cons,drop_zero,List.take_nil,List.drop_nil];refine Wm rfl (Wm rfl (DW rfl rfl rfl (DW rfl rfl rfl (DW rfl rfl rfl (Wm rfl (Wm rfl (AP (oS rfl) rfl rfl (AP (AB (k-1) (hO0.rd (.head _)) rfl Bk AH rfl rfl (by omega) (by omega)) rfl rfl (AP (oG rfl EL AH (hO0.get (.head _) (by omega))) rfl rfl (Wm rfl (Wm rfl (AP (AB (k) (hO0.rd (.head _)) rfl Bk AH rfl rfl (by omega) (by omega)) rfl rfl (AP (oG rfl EL AH (hO0.get (.head _) (by omega))) rfl rfl (Bc (Qx (AB (k) (hO0.rd (.head _)) rfl Bk AH rfl rfl (by omega) (by omega)) rfl (Dd 0 _ hO0 rfl AH rfl rfl rfl (by omega) rfl rfl (fun mhO1 hzhO1 hO1=>Qx (AB (k-1) (hO1.rd (.head _)) rfl Bk AH rfl rfl (by omega) (by omega)) rfl (Dd 0 _ hO1 rfl AH rfl rfl rfl (by omega) rfl rfl (fun mhO2 hzhO2 hO2=>Aj (Iq (Ai (Ab (Ad (Qm rfl (Qx (oS rfl) rfl (Qm rfl (Aj ?_)))))))))))))))))))))))))));rw[e];exact Ak (k-1-i) _ (by omega) ⟨k-1,_,mhO2,rfl,rfl,rfl,rfl,by omega,by omega,hO2,st,permIn_trans _ _ _ _ _ P (swp_permIn d0 a (t+1) k (k-1) (by omega) (by omega) (by omega) (by omega) (by omega))⟩ Qs
    ·obtain rfl:k=i:=by omega
     refine As (Aa (Aa (Ae (Ab (Ao (Ah ?_))))));exact Fg rfl (⟨rfl,m0,d0,rfl,hO0,P,LF H5 hA ⟨hi,hj⟩ c1 c2 R⟩)
  ·refine Ag (Ab (Au (Qm rfl (Qm rfl (Qx (oA rfl) rfl (Qx (BZ rfl U3 G9 rfl) rfl (Qx (Dr (n:=1) rfl rfl rfl (by omega)) rfl (Qx (BZ rfl G9 U3 rfl) rfl (Qm rfl (Al ?_))))))))));rw[GO a b (by omega)];obtain⟨mid,hmid⟩:∃mid,mid=(a+b)/2:=⟨_,rfl⟩
   rw[<-hmid];refine Au (Qm rfl (Qm rfl (Qx (oA rfl) rfl (Qm rfl (BL (Qm rfl (Qm rfl (Al ?_))))))));refine Bb (fun s h' ms'=>∃(s0 r0:Nat),s=[(0,v),(1,.int .i64 a),(2,.int .i64 t),(3,.int .i64 b),(4,(OR g)),(18,.int .i64 mid),(19,.int .i64 ((mid:Int)+t)),(20,.int .i64 s0),(21,.int .i64 r0)]/\h=h'/\ms'=[m]/\((mid<t/\s0+b=mid+t/\r0=mid)\/(t<=mid/\s0=a/\r0=t))) ?_ (fun s h ms hI=>?_)
   ·refine Ac (Ad (Qm rfl (Qm rfl (Qm rfl (Al ?_)))));refine Av rfl (fun hgt=>?_) (fun hgt=>?_)
    ·refine Ac (Ad (Qm rfl (Qm rfl (Qx (oS rfl) rfl (Qm rfl (Gn (Qm rfl (Qm rfl (Aj ?_)))))))));have e:(mid:Int)+t-b=((mid+t-b:Nat):Int):=by omega
     rw[e];exact AC _ ⟨mid+t-b,mid,rfl,rfl,rfl,.inl ⟨by omega,by omega,rfl⟩⟩ Qs
    ·refine Ac (Ad (Qm rfl (Qm rfl (Gn (Qm rfl (Qm rfl (Aj ?_)))))));exact AC _ ⟨a,t,rfl,rfl,rfl,.inr ⟨by omega,rfl,rfl⟩⟩ Qs
   ·obtain⟨s0,r0,rfl,rfl,rfl,hc⟩:=hI;refine Au (Qm rfl (Qx (oS rfl) rfl (Qm rfl (Al (Ac (Af ?_))))))
    refine Ax (fun n s h' ms'=>∃(i j:Nat),n=j-i/\s=[(0,v),(1,.int .i64 a),(2,.int .i64 t),(3,.int .i64 b),(4,(OR g)),(18,.int .i64 mid),(19,.int .i64 ((mid:Int)+t)),(20,.int .i64 i),(21,.int .i64 j),(22,.int .i64 ((mid:Int)+t-1))]/\h=h'/\ms'=[m]/\s0<=i/\i<=j/\j<=r0/\(i=s0\/Cq d[mid+t-i]! d[i-1]! = false)/\(j=r0\/Cq d[mid+t-1-j]! d[j]! = true))
     (r0-s0) _ ⟨s0,r0,rfl,rfl,rfl,rfl,by omega,by omega,by omega,.inl rfl,.inl rfl⟩ Qs ?_
    rintro n s h' ms' ⟨i,j,rfl,rfl,rfl,rfl,hi,hij,hj,c1,c2⟩;refine Ac (Au (Qm rfl (Qm rfl (Qm rfl (Al ?_)))));refine Av rfl (fun hlt=>?_) (fun hlt=>?_)
    ·refine Ag (Ab (Af (Au (Qm rfl (Qm rfl (Qx (oA rfl) rfl (Qx (BZ rfl U3 G9 rfl) rfl (Qx (Dr (n:=1) rfl rfl rfl (by omega)) rfl (Qx (BZ rfl G9 U3 rfl) rfl (Qm rfl (Al ?_)))))))))));rw[GO i j (by omega)];refine Ac (Bg 11 CY (by kernel_rfl) rfl (Wm rfl (Wm rfl (Wm rfl (Wm rfl (AP (oS rfl) rfl rfl (AP (AB (mid+t-1-(i+j)/2) (hO.rd (.head _)) rfl Bk AH rfl rfl (by omega) (by omega)) rfl rfl (AP (oG rfl EL AH (hO.get (.head _) (by omega))) rfl rfl (Wm rfl (Wm rfl (AP (AB ((i+j)/2) (hO.rd (.head _)) rfl Bk AH rfl rfl (by omega) (by omega)) rfl rfl (AP (oG rfl EL AH (hO.get (.head _) (by omega))) rfl rfl (Bc (Qx (BY rfl rfl call196 rfl (Nc _ _ _ g hg _)) rfl (Qm rfl (Qm rfl (Al ?_)))))))))))))))));refine Bu rfl (fun hl=>?_) (fun hl=>?_)
     ·have hl:Cq d[mid+t-1-(i+j)/2]! d[(i+j)/2]! = false:=by unfold Cq;simpa using hl
      refine Ad (Qm rfl (Qx (oA rfl) rfl (Qm rfl (Aj (Ai ?_)))));exact Ak (j-((i+j)/2+1)) _ (by omega) ⟨(i+j)/2+1,j,rfl,rfl,rfl,rfl,by omega,by omega,by omega,.inr (by rw[Nat.add_sub_cancel,show mid+t-((i+j)/2+1)=mid+t-1-(i+j)/2 by omega];exact hl),c2⟩ Qs
     ·have hl:Cq d[mid+t-1-(i+j)/2]! d[(i+j)/2]! = true:=by unfold Cq;simpa using hl
      refine Ad (Qm rfl (Qm rfl (Aj (Ai ?_))));exact Ak ((i+j)/2-i) _ (by omega) ⟨i,(i+j)/2,rfl,rfl,rfl,rfl,by omega,by omega,by omega,c1,.inr hl⟩ Qs
    ·obtain rfl:i=j:=by omega
     obtain⟨e,he⟩:∃e,e=mid+t-i:=⟨_,rfl⟩
     have he2:(mid:Int)+t-i=(e:Int):=by omega
     refine As (Aa (Aa (Ae (Ab (Au (Qm rfl (Qm rfl (Qx (oS rfl) rfl (Qm rfl (Al ?_))))))))));rw[he2]
     have k1:i=a\/e=b\/Cq d[e]! d[i-1]! = false:=by
      rcases c1 with c|c
      ·rcases hc with hc|hc
       ·right;left;omega
       ·left;omega
      ·right;right;rw[he];exact c
     have k2:i=t\/e=t\/Cq d[e-1]! d[i]! = true:=by
      rcases c2 with c|c
      ·rcases hc with hc|hc
       ·right;left;omega
       ·left;omega
      ·right;right;rw[show e-1=mid+t-1-i by omega];exact c
     have hgeo:a<=i/\i<=t/\i<=mid/\t<=e/\e<=b:=by rcases hc with hc|hc<;>omega
     have hs2:i+e=mid+t:=by omega
     refine Bb (fun s h' ms'=>∃(d1:Array CeO) (m1:Hp),s=[(0,v),(1,.int .i64 a),(3,.int .i64 b),(4,(OR g)),(18,.int .i64 mid),(20,.int .i64 i),(24,.int .i64 e)]/\h=h'/\ms'=[m1]/\OSC m1 v d1/\(∀k,d1[k]! = EZ d i t e k)/\PermIn a b d d1) ?_ (fun s h ms hI=>?_)
     ·refine Ac (Ad (Qm rfl (Qm rfl (Qm rfl (Qm rfl ?_)))));refine AS (t:=181) rfl (fun q1=>?_) (fun q1=>?_)
      ·refine Qg (AA rfl rfl) rfl (Qg (AA rfl rfl) rfl (Qg (CZ rfl rfl rfl) rfl (Qm rfl (Al ?_))));refine Av rfl (fun q2=>?_) (fun q2=>?_)
       ·refine Ad (Qm rfl (Qm rfl (Qm rfl (Qm rfl (Qm rfl (AY (pre:=[m]) rfl call298 rfl (Pv d v (OR g) m hO i t e a b (by omega) (by omega) (by omega) (by omega) (by omega) (by omega) (by omega) h rfl rfl rfl) rfl rfl rfl rfl (fun r h1 ms1 l1 hF=>?_)))))));obtain⟨rfl,m1,d1,rfl,hO1,hr,P⟩:=hF;refine Aj ?_;exact AC _ ⟨d1,m1,rfl,rfl,rfl,hO1,hr,P⟩ Qs
       ·refine Ag ?_;exact AC _ ⟨d,m,rfl,rfl,rfl,hO,fun k=>(GY (by omega) k).symm,permIn_refl d a b⟩ Qs
      ·refine Qk rfl (Qk rfl (Qk rfl (Qm rfl (Al (AM rfl (Ag ?_))))));exact AC _ ⟨d,m,rfl,rfl,rfl,hO,fun k=>(GY (by omega) k).symm,permIn_refl d a b⟩ Qs
     ·obtain⟨d1,m1,rfl,rfl,rfl,hO1,hr,P⟩:=hI;have C:=Vb H5 hA hB hgeo hs2 hr k1 k2;have hd1:=P.1;refine Bb (fun s h' ms'=>∃(d2:Array CeO) (m2:Hp),s=[(0,v),(3,.int .i64 b),(4,(OR g)),(18,.int .i64 mid),(24,.int .i64 e)]/\h=h'/\ms'=[m2]/\OSC m2 v d2/\PermIn a mid d1 d2/\SortedIn Cq a mid d2) ?_ (fun s h ms hI=>?_)
      ·refine Ac (Ad (Qm rfl (Qm rfl (Qm rfl (Qm rfl ?_)))));refine AS (t:=195) rfl (fun q1=>?_) (fun q1=>?_)
       ·refine Qg (AA rfl rfl) rfl (Qg (AA rfl rfl) rfl (Qg (CZ rfl rfl rfl) rfl (Qm rfl (Al ?_))));refine Av rfl (fun q2=>?_) (fun q2=>?_)
        ·refine Ad (Qm rfl (Qm rfl (Qm rfl (Qm rfl (Qm rfl (AY (pre:=[m1]) rfl call277 rfl (ih d1 v m1 hO1 a i mid (by omega) (by omega) (by omega) (by omega) (by omega) C.lo C.lo2 h g hg rfl rfl rfl) rfl rfl rfl rfl (fun r h1 ms1 l1 hF=>?_)))))));obtain⟨rfl,m2,d2,rfl,hO2,P2,S2⟩:=hF;refine Aj ?_;exact AC _ ⟨d2,m2,rfl,rfl,rfl,hO2,P2,S2⟩ Qs
        ·obtain rfl:i=mid:=by omega
         refine Ag ?_;exact AC _ ⟨d1,m1,rfl,rfl,rfl,hO1,permIn_refl d1 a _,C.lo⟩ Qs
       ·obtain rfl:i=a:=by omega
        refine Qk rfl (Qk rfl (Qk rfl (Qm rfl (Al (AM rfl (Ag ?_))))));exact AC _ ⟨d1,m1,rfl,rfl,rfl,hO1,permIn_refl d1 _ _,C.lo2⟩ Qs
      ·obtain⟨d2,m2,rfl,rfl,rfl,hO2,P2,S2⟩:=hI;have hd2:=P2.1;have f1:SortedIn Cq mid e d2:=Bz C.hi fun k h1 h2=>P2.2.1 k (.inr h1);have f2:SortedIn Cq e b d2:=Bz C.hi2 fun k h1 h2=>P2.2.1 k (.inr (by omega))
       have fin:∀d3,PermIn mid b d2 d3->SortedIn Cq mid b d3->PermIn a b d d3/\SortedIn Cq a b d3:=fun d3 P3 S3=>
        ⟨permIn_trans _ _ _ _ _ P (permIn_trans _ _ _ _ _ (permIn_mono d1 d2 a mid a b (by omega) (by omega) (by omega) P2) (permIn_mono d2 d3 mid b a b (by omega) (by omega) (by omega) P3)),OM C (by omega) (by omega) P2 S2 P3 S3⟩
       refine Au (Qm rfl (Qm rfl (Qm rfl (Qm rfl ?_))));refine AS (t:=209) rfl (fun q1=>?_) (fun q1=>?_)
       ·refine Qg (AA rfl rfl) rfl (Qg (AA rfl rfl) rfl (Qg (CZ rfl rfl rfl) rfl (Qm rfl (Al ?_))));refine Av rfl (fun q2=>?_) (fun q2=>?_)
        ·refine Ad (Qm rfl (Qm rfl (Qm rfl (Qm rfl (Qm rfl (AY (pre:=[m2]) rfl call277 rfl (ih d2 v m2 hO2 mid e b (by omega) (by omega) (by omega) (by omega) (by omega) f1 f2 h g hg rfl rfl rfl) rfl rfl rfl rfl (fun r h1 ms1 l1 hF=>?_)))))));obtain⟨rfl,m3,d3,rfl,hO3,P3,S3⟩:=hF;refine Aj ?_;exact BO rfl (⟨rfl,m3,d3,rfl,hO3,(fin d3 P3 S3).1,(fin d3 P3 S3).2⟩)
        ·obtain rfl:e=b:=by omega
         refine Ag ?_;exact BO rfl (⟨rfl,m2,d2,rfl,hO2,(fin d2 (permIn_refl d2 _ _) f1).1,(fin d2 (permIn_refl d2 _ _) f1).2⟩)
       ·obtain rfl:e=mid:=by omega
        refine Qk rfl (Qk rfl (Qk rfl (Qm rfl (Al (AM rfl (Ag ?_))))));exact BO rfl (⟨rfl,m2,d2,rfl,hO2,(fin d2 (permIn_refl d2 _ _) f2).1,(fin d2 (permIn_refl d2 _ _) f2).2⟩)
def BkC(d:Array CeO)(s n:Nat):Prop:=∀x,s∣x->SortedIn Cq x (min (x+s) n) d
theorem Ei{d:Array CeO}{a b b':Nat}(h:SortedIn Cq a b d)(hb:b'<=b):SortedIn Cq a b' d:=fun i j h1 h2 h3=>h i j h1 h2 (by omega)
theorem HV{d:Array CeO}{a b:Nat}(hb:b<=a):SortedIn Cq a b d:=fun i j h1 h2 h3=>by omega
theorem Pw(d:Array CeO)(v:Value)(m:Hp)(hO:OSC m v d)(hsz:d.size<=1000000)(h:Hp)(g:Nat)(hg:Sf h g){n':Int}(en:n'=d.size) :
  FnT Tryz.prog 238 #[v,.int .i64 n',(OR g)] h [m] (fun _ h' ms'=>h=h'/\∃m' d',ms'=[m']/\OSC m' v d'/\PermIn 0 d.size d d'/\SortedIn Cq 0 d.size d'):=by
 subst en;obtain⟨n,hn⟩:∃n,n=d.size:=⟨_,rfl⟩
 rw[<-hn];refine Ap func238 ntmps238 rfl rfl (fun w0 hw0=>?_);simp only[AU];refine Au (Qm rfl (BL (Qm rfl (Qm rfl (Qm rfl (Al (Ac (Af ?_))))))))
 refine Ax (fun q s h' ms'=>∃(a:Nat) (d0:Array CeO) (m:Hp),q=n-a/\s=[(0,v),(1,.int .i64 n),(2,(OR g)),(6,.int .i64 20),(7,.int .i64 a),(8,.int .i64 ((a:Int)+20))]/\h=h'/\ms'=[m]/\a<=n/\20∣a/\OSC m v d0/\PermIn 0 n d d0/\∀x,20∣x->x+20<=a->SortedIn Cq x (x+20) d0)
  (n-0) _ ⟨0,d,m,rfl,rfl,rfl,rfl,by omega,⟨0,rfl⟩,hO,permIn_refl d 0 n,fun x _ h=>by omega⟩ Qs ?_
 rintro q s h' ms' ⟨a,d0,m0,rfl,rfl,rfl,rfl,han,hda,hO0,P,hB⟩;have hds:=P.1;refine Ac (Au (Qm rfl (Qm rfl (Qm rfl (Al ?_)))));refine Av rfl (fun hle=>?_) (fun hle=>?_)
 ·refine Ag (Ab (Af (Au (Qm rfl (Qm rfl (Qm rfl (Qm rfl (AY (pre:=[m0]) rfl call240 rfl (Nl d0 v m0 hO0 a (a+20) (by omega) (by omega) (by omega) h g hg rfl (by omega)) rfl rfl rfl rfl (fun r h1 ms1 l1 hF=>?_)))))))));obtain⟨rfl,m1,d1,rfl,hO1,P1,S1⟩:=hF;refine BL (Qm rfl (Qm rfl (Gn (Qm rfl (Qm rfl (Qx (oA rfl) rfl (Qm rfl (Aj (Ai ?_)))))))))
  exact Ak (n-(a+20)) _ (by omega) ⟨a+20,d1,m1,rfl,rfl,rfl,rfl,by omega,Nat.dvd_add hda ⟨1,rfl⟩,hO1,permIn_trans _ _ _ _ _ P (permIn_mono d0 d1 a (a+20) 0 n (by omega) (by omega) (by omega) P1),fun x hx hx2=>by
   rcases Nat.lt_or_ge x a with h1|h1
   ·have:=Ew hx hda h1;exact Bz (hB x hx this) fun k h2 h3=>P1.2.1 k (.inl (by omega))
   ·obtain rfl:x=a:=by omega
    exact S1⟩ Qs
 ·refine As (Aa (Aa (Ae (Ab (Au (Qm rfl (Qm rfl (Qm rfl (Qm rfl (AY (pre:=[m0]) rfl call240 rfl (Nl d0 v m0 hO0 a n (by omega) (by omega) (by omega) h g hg rfl rfl) rfl rfl rfl rfl (fun r h1 ms1 l1 hF=>?_)))))))))));obtain⟨rfl,m1,d1,rfl,hO1,P1,S1⟩:=hF;have PB:PermIn 0 n d d1:=permIn_trans _ _ _ _ _ P (permIn_mono d0 d1 a n 0 n (by omega) (by omega) (by omega) P1)
  have B1:BkC d1 20 n:=fun x hx=>by
   rcases Nat.lt_trichotomy x a with h1|rfl|h1
   ·have:=Ew hx hda h1;exact Ei (Bz (hB x hx this) fun k h2 h3=>P1.2.1 k (.inl (by omega))) (by omega)
   ·exact Ei S1 (by omega)
   ·have:=Ew hda hx h1;exact HV (by omega)
  refine Al (Af ?_)
  refine Ax (fun q s h' ms'=>∃(w:Nat) (d0:Array CeO) (m:Hp),q=n-w/\s=[(0,v),(1,.int .i64 n),(2,(OR g)),(6,.int .i64 w)]/\h=h'/\ms'=[m]/\1<=w/\w<=4000000/\OSC m v d0/\PermIn 0 n d d0/\BkC d0 w n)
   (n-20) _ ⟨20,d1,m1,rfl,rfl,rfl,rfl,by omega,by omega,hO1,PB,B1⟩ Qs ?_
  rintro q s h' ms' ⟨w,d2,m2,rfl,rfl,rfl,rfl,hw1,hw2,hO2,P2,B2⟩;have hd2:=P2.1;refine Ac (Au (Qm rfl (Qm rfl (Qm rfl (Al ?_)))));refine Av rfl (fun hlt=>?_) (fun hlt=>?_)
  ·refine Ag (Ab (Af (Au (Qm rfl (Qx (oM rfl) rfl (Qm rfl (Qm rfl (Al (Ac (Af ?_))))))))))
   refine Ax (fun q s h' ms'=>∃(a:Nat) (z:Int) (d0:Array CeO) (m:Hp),q=n-a/\s=[(0,v),(1,.int .i64 n),(2,(OR g)),(6,.int .i64 w),(7,.int .i64 a),(8,.int .i64 z)]/\h=h'/\ms'=[m]/\z=a+2*w/\a<=n/\2*w∣a/\OSC m v d0/\PermIn 0 n d d0/\(∀x,2*w∣x->x+2*w<=a->SortedIn Cq x (x+2*w) d0)/\∀x,w∣x->a<=x->SortedIn Cq x (min (x+w) n) d0)
    (n-0) _ ⟨0,2*(w:Int),d2,m2,rfl,rfl,rfl,rfl,by omega,by omega,⟨0,rfl⟩,hO2,P2,fun x _ h=>by omega,fun x hx _=>B2 x hx⟩ Qs ?_
   rintro q s h' ms' ⟨a,z,d3,m3,rfl,rfl,rfl,rfl,rfl,han,hda,hO3,P3,hL,hR⟩;have hd3:=P3.1;have hwa:w∣a:=Nat.dvd_trans ⟨2,Nat.mul_comm 2 w⟩ hda;have hwa2:w∣a+w:=Nat.dvd_add hwa (Nat.dvd_refl w);have hwa3:2*w∣a+2*w:=Nat.dvd_add hda (Nat.dvd_refl _);have s1:=hR a hwa (Nat.le_refl _);have s2:=hR (a+w) hwa2 (by omega);refine Ac (Au (Qm rfl (Qm rfl (Qm rfl (Al ?_)))));refine Av rfl (fun hle2=>?_) (fun hle2=>?_)
   ·rw[show min (a+w) n=a+w by omega]at s1;rw[show min (a+w+w) n=a+2*w by omega]at s2;refine Ag (Ab (Af (Au (Qm rfl (Qm rfl (Qm rfl (Qm rfl (Qx (oA rfl) rfl (Qm rfl (Qm rfl (AY (pre:=[m3]) rfl call277 rfl (Iy (2*w) d3 v m3 hO3 a (a+w) (a+2*w) (by omega) (by omega) (by omega) (by omega) (by omega) s1 s2 h g hg rfl (by omega) (by omega)) rfl rfl rfl rfl (fun r h1 ms1 l1 hF=>?_))))))))))));obtain⟨rfl,m4,d4,rfl,hO4,P4,S4⟩:=hF;refine BL (Qm rfl (Qm rfl (Gn (Qm rfl (Qm rfl (Qx (oM rfl) rfl (Qx (oA rfl) rfl (Qm rfl (Aj (Ai ?_))))))))))
    exact Ak (n-(a+2*w)) _ (by omega) ⟨a+2*w,(a:Int)+2*w+2*w,d4,m4,rfl,rfl,rfl,rfl,by omega,by omega,hwa3,hO4,permIn_trans _ _ _ _ _ P3 (permIn_mono d3 d4 a (a+2*w) 0 n (by omega) (by omega) (by omega) P4),fun x hx hx2=>by
     rcases Nat.lt_or_ge x a with h1|h1
     ·have:=Ew hx hda h1;exact Bz (hL x hx this) fun k h2 h3=>P4.2.1 k (.inl (by omega))
     ·obtain rfl:x=a:=by omega
      exact S4,fun x hx hx2=>Bz (hR x hx (by omega)) fun k h2 h3=>P4.2.1 k (.inr (by omega))⟩ Qs
   ·have fin:∀d4,PermIn a n d3 d4->SortedIn Cq a n d4->PermIn 0 n d d4/\BkC d4 (w*2) n:=fun d4 P4 S4=>⟨permIn_trans _ _ _ _ _ P3 (permIn_mono d3 d4 a n 0 n (by omega) (by omega) (by omega) P4),fun x hx=>by
     rw[Nat.mul_comm]at hx ⊢;rcases Nat.lt_trichotomy x a with h1|rfl|h1
     ·have:=Ew hx hda h1;exact Ei (Bz (hL x hx this) fun k h2 h3=>P4.2.1 k (.inl (by omega))) (by omega)
     ·exact Ei S4 (by omega)
     ·have:=Ew hda hx h1
      exact HV (by omega)⟩
    refine As (Aa (Aa (Ae (Ab (Ac (Au (Qm rfl (Qm rfl (Qx (oA rfl) rfl (Qm rfl (BL (Qm rfl (Qm rfl (Qm rfl (Al ?_)))))))))))))));refine Av rfl (fun hm=>?_) (fun hm=>?_)
    ·rw[show min (a+w) n=a+w by omega]at s1;rw[show min (a+w+w) n=n by omega]at s2;refine Ad (Qm rfl (Qm rfl (Qm rfl (Qm rfl (Qm rfl (AY (pre:=[m3]) rfl call277 rfl (Iy (2*w) d3 v m3 hO3 a (a+w) n (by omega) (by omega) (by omega) (by omega) (by omega) s1 s2 h g hg rfl (by omega) rfl) rfl rfl rfl rfl (fun r h1 ms1 l1 hF=>?_)))))));obtain⟨rfl,m4,d4,rfl,hO4,P4,S4⟩:=hF;have:=fin d4 P4 S4;refine Gn (Qm rfl (Qx (oM rfl) rfl (Qm rfl (Aj (Ai ?_)))));exact Ak (n-w*2) _ (by omega) ⟨w*2,d4,m4,rfl,rfl,rfl,rfl,by omega,by omega,hO4,this.1,this.2⟩ Qs
    ·rw[show min (a+w) n=n by omega]at s1;have:=fin d3 (permIn_refl d3 a n) s1;refine Ag (Ab (Ad (Qm rfl (Qx (oM rfl) rfl (Qm rfl (Aj (Ai ?_)))))));exact Ak (n-w*2) _ (by omega) ⟨w*2,d3,m3,rfl,rfl,rfl,rfl,by omega,by omega,hO3,this.1,this.2⟩ Qs
  ·refine As (Aa (Aa (Ae ?_)));exact BO rfl (⟨rfl,m2,d2,rfl,hO2,P2,by have:=B2 0 ⟨0,rfl⟩;rwa [show min (0+w) n=n by omega]at this⟩)
theorem J6(d:Array CeO)(v:Value)(m:Hp)(hO:OSC m v d)(hsz:d.size<=1000000)(h:Hp)(g:Nat)(hg:Sf h g) :
  FnT Tryz.prog 195 #[v,(OR g)] h [m] (fun _ h' ms'=>h=h'/\∃m' d',ms'=[m']/\OSC m' v d'/\PermIn 0 d.size d d'/\SortedIn Cq 0 d.size d'):=by
 refine Ap func195 ntmps195 rfl rfl (fun w0 hw0=>?_);simp only[AU];refine Ad (Qm rfl (Qm rfl (Qx (Ar (hO.rd (.head _)) rfl Bk rfl) rfl (Qm rfl (AY (pre:=[m]) rfl call238 rfl (Pw d v m hO hsz h g hg rfl) rfl rfl rfl rfl (fun r h1 ms1 l1 hF=>?_))))));obtain⟨rfl,m4,d4,rfl,hO4,P4,S4⟩:=hF;refine Aj ?_;exact BO rfl (⟨rfl,m4,d4,rfl,hO4,P4,S4⟩)
variable {m h:Hp} {v:Value} {d:Array HM} {ms:List Hp}
abbrev OSD(m:Hp)(v:Value)(d:Array HM):Prop:=OwnL cD 2 119 m v d.toList
theorem OSD.rd(O:OSD m v d)(hm:m∈ms):Rd h ms v 2 d.size (d.toList.flatMap cD):=by have:=(OwnL.rd O hm (h:=h)).rd;rwa [Array.length_toList]at this
theorem OSD.get(O:OSD m v d)(hm:m∈ms){j:Nat}(hj:j<d.size):Seg h ms ((AF v).add (j*2)) (cD d[j]!):=by have:=(OwnL.rd O hm (h:=h)).seg (j:=j) (by simpa using hj);simpa[hj] using this
theorem C9{e:Entry}{Q:Exit->Act->World->Prop}{ops:Array Oper}{rest:List Oper}{o:Oper}{s:Aw}{t:TypeId}{x y:Operand}{z:Value}{bytes:Nat}{a:HM}(i j:Nat)(O:OSD m v d)(ho:o.op=.store t x y)(hs:Elem e.P t 2 z bytes)(hx:ev s x=some (.pointer (some ((AF v).add (j*2)))))(hy:ev s y=some (.agg (cD a).toArray))
  (hm:ms[i]?=some m) (hj:j<d.size) (hd:o.dst=none) (hg:o.guard=none)
  (K:∀m',(d.setIfInBounds j a).size=d.size->OSD m' v (d.setIfInBounds j a)->WL e ops Q rest s h (ms.set i m')):WL e ops Q (o::rest) s h ms:=
 FV i j a O ho hs hx hy rfl (F7 a) hm (by simpa using hj) hd hg fun m' O'=>K m' (by simp) (by
  show OwnL cD 2 119 m' v (d.setIfInBounds j a).toList
  rw[Array.toList_setIfInBounds];exact O')
theorem Fu(d:Array HM)(v cv:Value)(m:Hp)(hO:OSD m v d)(a b n lo hi:Nat)(hab:a+n<=b)(hb:b+n<=d.size)(hsz:d.size<=1000000)(hlo:lo<=a)(hhi:b+n<=hi)(hhs:hi<=d.size)(h:Hp){a' b' n':Int}(ea:a'=a)(eb:b'=b)(en:n'=n) :
  FnT Tryz.prog 309 #[v,.int .i64 a',.int .i64 b',.int .i64 n',cv] h [m] (fun _ h' ms'=>h=h'/\∃m' d',ms'=[m']/\OSD m' v d'/\SwR d d' a b n/\PermIn lo hi d d'):=by
 subst ea eb en;refine Ap func309 ntmps309 rfl rfl (fun w0 hw0=>?_);simp only[AU];refine Au (Qm rfl (Al (Af ?_)))
 refine Ax (fun q s h' ms'=>∃(i:Nat) (d0:Array HM) (m:Hp),q=n-i/\s=[(0,v),(1,.int .i64 a),(2,.int .i64 b),(3,.int .i64 n),(10,.int .i64 i)]/\h=h'/\ms'=[m]/\i<=n/\OSD m v d0/\SwR d d0 a b i/\PermIn lo hi d d0)
  (n-0) _ ⟨0,d,m,rfl,rfl,rfl,rfl,by omega,hO,SwR.start d a b,permIn_refl d lo hi⟩ Qs ?_
 rintro q s h' ms' ⟨i,d0,m0,rfl,rfl,rfl,rfl,hi2,hO0,S,P⟩;have hds:=S.1;refine Ac (Au (Qm rfl (Qm rfl (Qm rfl (Al ?_)))));refine Av rfl (fun hlt=>?_) (fun hlt=>?_)
 ·refine Ag (Ab (Ac (Af (DL 20 [false,false,false,false,true,true,true,true] CY (by kernel_rfl) (by kernel_rfl) (by kernel_rfl) (DX rfl rfl rfl rfl (Cf rfl rfl) (DX rfl rfl rfl rfl (Cf rfl rfl) (DX rfl rfl rfl rfl (Cf rfl rfl) (DX rfl rfl rfl rfl (Mj rfl rfl rfl (by omega)) ?_))))))));refine⟨rfl,?_⟩;simp only[Em,zap,cons_append,nil_append,take_succ_cons,take_zero,drop_succ_cons,drop_zero,List.take_nil,List.drop_nil];refine Wm rfl (Wm rfl (Wm rfl (AP (oA rfl) rfl rfl (DW rfl rfl rfl (DW rfl rfl rfl (DW rfl rfl rfl (DW rfl rfl rfl (Wm rfl (Wm rfl (Wm rfl (AP (oA rfl) rfl rfl (AP (AB (b+i) (hO0.rd (.head _)) rfl Cu AJ rfl rfl (by omega) (by omega)) rfl rfl (AP (oG rfl DE AJ (hO0.get (.head _) (by omega))) rfl rfl (Wm rfl (Wm rfl (Wm rfl (AP (oA rfl) rfl rfl (AP (AB (a+i) (hO0.rd (.head _)) rfl Cu AJ rfl rfl (by omega) (by omega)) rfl rfl (AP (oG rfl DE AJ (hO0.get (.head _) (by omega))) rfl rfl (Bc (Qx (AB (a+i) (hO0.rd (.head _)) rfl Cu AJ rfl rfl (by omega) (by omega)) rfl (C9 0 _ hO0 rfl AJ rfl rfl rfl (by omega) rfl rfl (fun mhO1 hzhO1 hO1=>Qx (AB (b+i) (hO1.rd (.head _)) rfl Cu AJ rfl rfl (by omega) (by omega)) rfl (C9 0 _ hO1 rfl AJ rfl rfl rfl (by omega) rfl rfl (fun mhO2 hzhO2 hO2=>Aj (Iq (Ai (Ab (Ad (Qm rfl (Qx (oA rfl) rfl (Qm rfl (Aj ?_)))))))))))))))))))))))))))))))));refine Ak (n-(i+1)) _ (by omega) ⟨i+1,_,mhO2,rfl,rfl,rfl,rfl,by omega,hO2,S.step (by omega) (by omega),permIn_trans _ _ _ _ _ P (swp_permIn d0 lo hi (a+i) (b+i) (by omega) (by omega) (by omega) (by omega) (by omega))⟩ Qs
 ·obtain rfl:i=n:=by omega
  refine As (Aa (Aa (Ae ?_)));exact BO rfl (⟨rfl,m0,d0,rfl,hO0,S,P⟩)
theorem PD(d:Array HM)(v cv:Value)(m:Hp)(hO:OSD m v d)(a t b lo hi:Nat)(hat:a<t)(htb:t<b)(hb:b<=d.size)(hsz:d.size<=1000000)(hlo:lo<=a)(hhi:b<=hi)(hhs:hi<=d.size)(h:Hp){a' t' b':Int}(ea:a'=a)(et:t'=t)(eb:b'=b) :
  FnT Tryz.prog 299 #[v,.int .i64 a',.int .i64 t',.int .i64 b',cv] h [m] (fun _ h' ms'=>h=h'/\∃m' d',ms'=[m']/\OSD m' v d'/\(∀k,d'[k]! = EZ d a t b k)/\PermIn lo hi d d'):=by
 subst ea et eb;refine Ap func299 ntmps299 rfl rfl (fun w0 hw0=>?_);simp only[AU];refine Au (Qm rfl (Qm rfl (Qx (oS rfl) rfl (Qm rfl (BL (Qm rfl (Qm rfl (Qx (oS rfl) rfl (Qm rfl (Al (Ac (Af ?_))))))))))))
 refine Ax (fun q s h' ms'=>∃(i j:Nat) (x y:Int) (d0:Array HM) (m:Hp),q=i+j/\s=[(0,v),(2,.int .i64 t),(4,cv),(10,.int .i64 x),(11,.int .i64 y)]/\h=h'/\ms'=[m]/\x=i/\y=j/\0<i/\0<j/\a+i<=t/\t+j<=b/\OSD m v d0/\(∀k,EZ d0 (t-i) t (t+j) k=EZ d a t b k)/\PermIn lo hi d d0)
  ((t-a)+(b-t)) _ ⟨t-a,b-t,(t:Int)-a,(b:Int)-t,d,m,rfl,rfl,rfl,rfl,by omega,by omega,by omega,by omega,by omega,by omega,hO,fun k=>by rw[show t-(t-a)=a by omega,show t+(b-t)=b by omega],permIn_refl d lo hi⟩ Qs ?_
 rintro q s h' ms' ⟨i,j,x,y,d0,m0,rfl,rfl,rfl,rfl,rfl,rfl,hi0,hj0,hai,hjb,hO0,hR,P⟩;have hds:=P.1;refine Ac (Au (Qm rfl (Qm rfl (Qm rfl (Al ?_)))));refine Av rfl (fun hne=>?_) (fun hne=>?_)
 ·refine Ag (Ab (Af (Au (Qm rfl (Qm rfl (Qm rfl (Al ?_)))))));refine Av rfl (fun hgt=>?_) (fun hgt=>?_)
  ·refine Ac (Ad (Qm rfl (Qm rfl (Qm rfl (Qx (oS rfl) rfl (Qm rfl (Qm rfl (Qm rfl (AY (pre:=[m0]) rfl call309 rfl (Fu d0 v cv m0 hO0 (t-i) t j lo hi (by omega) (by omega) (by omega) (by omega) (by omega) (by omega) h (by omega) rfl rfl) rfl rfl rfl rfl (fun r h1 ms1 l1 hF=>?_))))))))));obtain⟨rfl,m1,d1,rfl,hO1,S,P1⟩:=hF;refine Gn (Qm rfl (Qm rfl (Qx (oS rfl) rfl (Qm rfl (Aj (Ai ?_))))));refine Ak ((i-j)+j) _ (by omega) ⟨i-j,j,(i:Int)-j,j,d1,m1,rfl,rfl,rfl,rfl,by omega,rfl,by omega,by omega,by omega,by omega,hO1,fun k=>(NB (by omega) (by omega) S k).trans (hR k),permIn_trans _ _ _ _ _ P P1⟩ Qs
  ·refine Ac (Ad (Qm rfl (Qm rfl (Qm rfl (Qx (oS rfl) rfl (Qm rfl (Qm rfl (Qx (oA rfl) rfl (Qm rfl (Qx (oS rfl) rfl (Qm rfl (Qm rfl (AY (pre:=[m0]) rfl call309 rfl (Fu d0 v cv m0 hO0 (t-i) (t+j-i) i lo hi (by omega) (by omega) (by omega) (by omega) (by omega) (by omega) h (by omega) (by omega) rfl) rfl rfl rfl rfl (fun r h1 ms1 l1 hF=>?_))))))))))))));obtain⟨rfl,m1,d1,rfl,hO1,S,P1⟩:=hF;refine Gn (Qm rfl (Qm rfl (Qx (oS rfl) rfl (Qm rfl (Aj (Ai ?_))))));refine Ak (i+(j-i)) _ (by omega) ⟨i,j-i,i,(j:Int)-i,d1,m1,rfl,rfl,rfl,rfl,rfl,by omega,by omega,by omega,by omega,by omega,hO1,fun k=>(KM (by omega) (by omega) S k).trans (hR k),permIn_trans _ _ _ _ _ P P1⟩ Qs
 ·obtain rfl:i=j:=by omega
  refine As (Aa (Aa (Ae (Ab (Ad (Qm rfl (Qm rfl (Qm rfl (Qx (oS rfl) rfl (Qm rfl (Qm rfl (Qm rfl (AY (pre:=[m0]) rfl call309 rfl (Fu d0 v cv m0 hO0 (t-i) t i lo hi (by omega) (by omega) (by omega) (by omega) (by omega) (by omega) h (by omega) rfl rfl) rfl rfl rfl rfl (fun r h1 ms1 l1 hF=>?_))))))))))))));obtain⟨rfl,m1,d1,rfl,hO1,S,P1⟩:=hF;refine Aj ?_;exact BO rfl (⟨rfl,m1,d1,rfl,hO1,fun k=>(N0 (by omega) S k).trans (hR k),permIn_trans _ _ _ _ _ P P1⟩)
end Go.Proofs.Q

namespace Go.Proofs.Q
open Go.Proofs.Tryz
open Go.Eng Go.RowKit Go.Lin Go.Sort Go.Srt
theorem N1(d:Array HM)(v:Value)(m:Hp)(hO:OSD m v d)(a b:Nat)(hab:a<=b)(hb:b<=d.size)(hsz:d.size<=1000000)(h:Hp)(g:Nat)(hg:Ru h g){a' b':Int}(ea:a'=a)(eb:b'=b) :
  FnT Tryz.prog 278 #[v,.int .i64 a',.int .i64 b',(OV g)] h [m] (fun _ h' ms'=>h=h'/\∃m' d',ms'=[m']/\OSD m' v d'/\PermIn a b d d'/\SortedIn Cs a b d'):=by
 subst ea eb;have hfin:=insertionSort_holds (lt:=Cs) Iv d a b hab hb;refine Ap func278 ntmps278 rfl rfl (fun w0 hw0=>?_);simp only[AU];refine Au (Qm rfl (Qx (oA rfl) rfl (Qm rfl (Al (Af ?_)))))
 refine Ax (fun n s h' ms'=>∃(i:Nat) (z:Int) (d':Array HM) (m:Hp),n=b-i/\s=[(0,v),(1,.int .i64 a),(2,.int .i64 b),(3,(OV g)),(8,.int .i64 z)]/\h=h'/\ms'=[m]/\z=i/\a<i/\i<=4611686018427387905/\OSD m v d'/\d'.size=d.size/\insOuter Cs a b i d'=insertionSort Cs d a b)
  _ _ ⟨a+1,(a:Int)+1,d,m,rfl,rfl,rfl,rfl,by omega,by omega,by omega,hO,rfl,rfl⟩ Qs ?_
 rintro n s h' ms' ⟨i,z,d',m,rfl,rfl,rfl,rfl,hz,hai,hi,hO,hds,hR⟩;refine Ac (Au (Qm rfl (Qm rfl (Qm rfl (Al ?_)))));refine Av rfl (fun hlt=>?_) (fun hlt=>?_)
 ·refine Ag (Ab (Ac (Af (Au (Qm rfl (Qm rfl (Al (Af ?_))))))))
  refine Ax (fun n s h' ms'=>∃(j:Nat) (y:Int) (d':Array HM) (m:Hp),j=n/\s=[(0,v),(1,.int .i64 a),(2,.int .i64 b),(3,(OV g)),(8,.int .i64 z),(9,.int .i64 y)]/\h=h'/\ms'=[m]/\y=j/\j<=i/\OSD m v d'/\d'.size=d.size/\insOuter Cs a b (i+1) (insInner Cs a j d')=insertionSort Cs d a b)
   _ _ ⟨i,z,d',m,rfl,rfl,rfl,rfl,hz,by omega,hO,hds,by rw[<-hR];conv=>rhs;unfold insOuter;rw[if_pos (by omega)]⟩ Qs ?_
  rintro n s h' ms' ⟨j,y,d1,m1,rfl,rfl,rfl,rfl,hy,hji,hO1,hds1,hR1⟩;refine Ac (Ac (Bg 14 CY (by kernel_rfl) rfl (Wm rfl (Wm rfl (Wm rfl (Wm rfl ?_))))));refine Dm (t:=21) rfl (fun hja=>?_) (fun hja=>?_)
  ·refine AN (AA rfl rfl) rfl rfl rfl rfl (AN (AA rfl rfl) rfl rfl rfl rfl (AN (AA rfl rfl) rfl rfl rfl rfl (AN (AB (j) (hO1.rd (.head _)) rfl Cu AJ rfl rfl (by omega) (by omega)) rfl rfl rfl rfl (AN (oG rfl DE AJ (hO1.get (.head _) (by omega))) rfl rfl rfl rfl (AN (AA rfl rfl) rfl rfl rfl rfl (AN (AA rfl rfl) rfl rfl rfl rfl (AN (oS rfl) rfl rfl rfl rfl (AN (AB (j-1) (hO1.rd (.head _)) rfl Cu AJ rfl rfl (by omega) (by omega)) rfl rfl rfl rfl (AN (oG rfl DE AJ (hO1.get (.head _) (by omega))) rfl rfl rfl rfl (Bc (Qg (BY rfl rfl call199 rfl (Mx _ _ _ g hg _)) rfl (Qg (CZ rfl rfl rfl) rfl (Qm rfl (Al ?_))))))))))))));refine Bu rfl (fun hl=>?_) (fun hl=>?_)
   ·refine Ag (Ab (Ac (Af (DL 14 [false,false,true,true,true] CY (by kernel_rfl) (by kernel_rfl) (by kernel_rfl) (DX rfl rfl rfl rfl (Cf rfl rfl) (DX rfl rfl rfl rfl (Cf rfl rfl) (DX rfl rfl rfl rfl (MX rfl rfl rfl (by omega)) ?_)))))));refine⟨rfl,?_⟩;simp only[Em,zap,cons_append,nil_append,take_succ_cons,take_zero,drop_succ_cons,drop_zero,List.take_nil,List.drop_nil];refine Wm rfl (Wm rfl (DW rfl rfl rfl (DW rfl rfl rfl (DW rfl rfl rfl (Wm rfl (Wm rfl (AP (oS rfl) rfl rfl (AP (AB (j-1) (hO1.rd (.head _)) rfl Cu AJ rfl rfl (by omega) (by omega)) rfl rfl (AP (oG rfl DE AJ (hO1.get (.head _) (by omega))) rfl rfl (Wm rfl (Wm rfl (AP (AB (j) (hO1.rd (.head _)) rfl Cu AJ rfl rfl (by omega) (by omega)) rfl rfl (AP (oG rfl DE AJ (hO1.get (.head _) (by omega))) rfl rfl (Bc (Qx (AB (j) (hO1.rd (.head _)) rfl Cu AJ rfl rfl (by omega) (by omega)) rfl (C9 0 _ hO1 rfl AJ rfl rfl rfl (by omega) rfl rfl (fun mhO2 hzhO2 hO2=>Qx (AB (j-1) (hO2.rd (.head _)) rfl Cu AJ rfl rfl (by omega) (by omega)) rfl (C9 0 _ hO2 rfl AJ rfl rfl rfl (by omega) rfl rfl (fun mhO3 hzhO3 hO3=>Aj (Iq (Ai (Ab (Ad (Qm rfl (Qx (oS rfl) rfl (Qm rfl (Aj ?_)))))))))))))))))))))))))));obtain⟨j',rfl⟩:∃j',j=j'+1:=⟨j-1,by omega⟩
    refine Ak j' _ (by omega) ⟨j',y-1,_,mhO3,rfl,rfl,rfl,rfl,by omega,by omega,hO3,by simp[hds1],?_⟩ Qs;rw[<-hR1]
    conv=>rhs;unfold insInner
    rw[if_pos (by rw[Bool.and_eq_true];exact⟨decide_eq_true (by omega),hl⟩)];rfl
   ·refine As (Aa (Aa (Ae (Ai (Ab (Ad (Qm rfl (Qx (oA rfl) rfl (Qm rfl (Aj ?_))))))))));refine Ak (b-(i+1)) _ (by omega) ⟨i+1,z+1,d1,m1,rfl,rfl,rfl,rfl,by omega,by omega,by omega,hO1,hds1,?_⟩ Qs;rw[<-hR1];obtain⟨j',rfl⟩:∃j',j=j'+1:=⟨j-1,by omega⟩
    conv=>rhs;unfold insInner
    rw[if_neg (by rw[Bool.and_eq_true];rintro⟨_,h2⟩;exact absurd (hl.symm.trans h2) (by decide))]
  ·refine AG rfl rfl rfl rfl rfl (AG rfl rfl rfl rfl rfl (AG rfl rfl rfl rfl rfl (AG rfl rfl rfl rfl rfl (AG rfl rfl rfl rfl rfl (AG rfl rfl rfl rfl rfl (AG rfl rfl rfl rfl rfl (AG rfl rfl rfl rfl rfl (AG rfl rfl rfl rfl rfl (AG rfl rfl rfl rfl rfl (Bc (Qk rfl (Qk rfl (Qm rfl (Al (AM rfl (As (Aa (Aa (Ae (Ai (Ab (Ad (Qm rfl (Qx (oA rfl) rfl (Qm rfl (Aj ?_))))))))))))))))))))))))));refine Ak (b-(i+1)) _ (by omega) ⟨i+1,z+1,d1,m1,rfl,rfl,rfl,rfl,by omega,by omega,by omega,hO1,hds1,?_⟩ Qs;rw[<-hR1];cases j with
   | zero=>rfl
   | succ j'=>
    conv=>rhs;unfold insInner
    rw[if_neg (by simp;intro h';omega)]
 ·refine As (Aa (Aa (Ae ?_)));exact BO rfl (⟨rfl,m,insertionSort Cs d a b,rfl,by rw[<-hR];unfold insOuter;rw[if_neg (by omega)];exact hO,hfin.1,hfin.2⟩)
theorem Ix:∀(N:Nat) (d:Array HM) (v:Value) (m:Hp) (hO:OSD m v d) (a t b:Nat) (hN:b-a<=N) (hat:a<t) (htb:t<b) (hb:b<=d.size) (hsz:d.size<=1000000) (hA:SortedIn Cs a t d) (hB:SortedIn Cs t b d) (h:Hp) (g:Nat) (hg:Ru h g) {a' t' b':Int} (ea:a'=a) (et:t'=t) (eb:b'=b),
  FnT Tryz.prog 279 #[v,.int .i64 a',.int .i64 t',.int .i64 b',(OV g)] h [m] (fun _ h' ms'=>h=h'/\∃m' d',ms'=[m']/\OSD m' v d'/\PermIn a b d d'/\SortedIn Cs a b d'):=by
 intro N
 induction N with
 | zero=>intro d v m hO a t b hN hat htb;omega
 | succ N ih=>
 intro d v m hO a t b hN hat htb hb hsz hA hB h g hg a' t' b' ea et eb;subst ea et eb;refine Ap func279 ntmps279 rfl rfl (fun w0 hw0=>?_);simp only[AU];refine Ac (Au (Qm rfl (Qm rfl (Qx (oS rfl) rfl (Qm rfl (Al ?_))))));refine Av rfl (fun h1=>?_) (fun h1=>?_)
 ·-- one element on the left
  obtain rfl:t=a+1:=by omega
  refine Au (Qm rfl (Qm rfl (BL (Qm rfl (Qm rfl (Al (Ac (Af ?_))))))))
  refine Ax (fun n s h' ms'=>∃(i j:Nat),n=j-i/\s=[(0,v),(1,.int .i64 a),(4,(OV g)),(10,.int .i64 i),(11,.int .i64 j)]/\h=h'/\ms'=[m]/\a+1<=i/\i<=j/\j<=b/\(i=a+1\/Cs d[i-1]! d[a]! = true)/\(j=b\/Cs d[j]! d[a]! = false))
   (b-(a+1)) _ ⟨a+1,b,rfl,rfl,rfl,rfl,by omega,by omega,by omega,.inl rfl,.inl rfl⟩ Qs ?_
  rintro n s h' ms' ⟨i,j,rfl,rfl,rfl,rfl,hi,hij,hj,c1,c2⟩;refine Ac (Au (Qm rfl (Qm rfl (Qm rfl (Al ?_)))));refine Av rfl (fun hlt=>?_) (fun hlt=>?_)
  ·refine Ag (Ab (Af (Au (Qm rfl (Qm rfl (Qx (oA rfl) rfl (Qx (BZ rfl U3 G9 rfl) rfl (Qx (Dr (n:=1) rfl rfl rfl (by omega)) rfl (Qx (BZ rfl G9 U3 rfl) rfl (Qm rfl (Al ?_)))))))))));rw[GO i j (by omega)];refine Ac (Bg 9 CY (by kernel_rfl) rfl (Wm rfl (Wm rfl (Wm rfl (AP (AB ((i+j)/2) (hO.rd (.head _)) rfl Cu AJ rfl rfl (by omega) (by omega)) rfl rfl (AP (oG rfl DE AJ (hO.get (.head _) (by omega))) rfl rfl (Wm rfl (Wm rfl (AP (AB (a) (hO.rd (.head _)) rfl Cu AJ rfl rfl (by omega) (by omega)) rfl rfl (AP (oG rfl DE AJ (hO.get (.head _) (by omega))) rfl rfl (Bc (Qx (BY rfl rfl call199 rfl (Mx _ _ _ g hg _)) rfl (Qm rfl (Al ?_))))))))))))));refine Bu rfl (fun hl=>?_) (fun hl=>?_)
   ·refine Ad (Qm rfl (Qx (oA rfl) rfl (Qm rfl (Aj (Ai ?_)))));exact Ak (j-((i+j)/2+1)) _ (by omega) ⟨(i+j)/2+1,j,rfl,rfl,rfl,rfl,by omega,by omega,by omega,.inr (by rw[Nat.add_sub_cancel];exact hl),c2⟩ Qs
   ·refine Ad (Qm rfl (Qm rfl (Aj (Ai ?_))));exact Ak ((i+j)/2-i) _ (by omega) ⟨i,(i+j)/2,rfl,rfl,rfl,rfl,by omega,by omega,by omega,c1,.inr hl⟩ Qs
  ·obtain rfl:i=j:=by omega
   refine As (Aa (Aa (Ae (Ab (Ac (Au (Qm rfl (Qm rfl (Al (Af ?_))))))))))
   refine Ax (fun n s h' ms'=>∃(k:Nat) (d0:Array HM) (m:Hp),n=i-1-k/\s=[(0,v),(10,.int .i64 i),(13,.int .i64 k)]/\h=h'/\ms'=[m]/\a<=k/\k<=i-1/\OSD m v d0/\InsR d d0 a k/\PermIn a b d d0)
    (i-1-a) _ ⟨a,d,m,rfl,rfl,rfl,rfl,by omega,by omega,hO,InsR.start d a,permIn_refl d a b⟩ Qs ?_
   rintro n s h' ms' ⟨k,d0,m0,rfl,rfl,rfl,rfl,hak,hki,hO0,R,P⟩;have hds:=R.1;refine Ac (Au (Qm rfl (Qm rfl (Qx (oS rfl) rfl (Qm rfl (Al ?_))))));refine Av rfl (fun hltk=>?_) (fun hltk=>?_)
   ·refine Ag (Ab (Ac (Af (DL 14 [false,false,true,true,true] CY (by kernel_rfl) (by kernel_rfl) (by kernel_rfl) (DX rfl rfl rfl rfl (Cf rfl rfl) (DX rfl rfl rfl rfl (Cf rfl rfl) (DX rfl rfl rfl rfl (Mj rfl rfl rfl (by omega)) ?_)))))));refine⟨rfl,?_⟩;simp only[Em,zap,cons_append,nil_append,take_succ_cons,take_zero,drop_succ_cons,drop_zero,List.take_nil,List.drop_nil];refine Wm rfl (Wm rfl (DW rfl rfl rfl (DW rfl rfl rfl (DW rfl rfl rfl (Wm rfl (Wm rfl (AP (oA rfl) rfl rfl (AP (AB (k+1) (hO0.rd (.head _)) rfl Cu AJ rfl rfl (by omega) (by omega)) rfl rfl (AP (oG rfl DE AJ (hO0.get (.head _) (by omega))) rfl rfl (Wm rfl (Wm rfl (AP (AB (k) (hO0.rd (.head _)) rfl Cu AJ rfl rfl (by omega) (by omega)) rfl rfl (AP (oG rfl DE AJ (hO0.get (.head _) (by omega))) rfl rfl (Bc (Qx (AB (k) (hO0.rd (.head _)) rfl Cu AJ rfl rfl (by omega) (by omega)) rfl (C9 0 _ hO0 rfl AJ rfl rfl rfl (by omega) rfl rfl (fun mhO1 hzhO1 hO1=>Qx (AB (k+1) (hO1.rd (.head _)) rfl Cu AJ rfl rfl (by omega) (by omega)) rfl (C9 0 _ hO1 rfl AJ rfl rfl rfl (by omega) rfl rfl (fun mhO2 hzhO2 hO2=>Aj (Iq (Ai (Ab (Ad (Qm rfl (Qx (oA rfl) rfl (Qm rfl (Aj ?_)))))))))))))))))))))))))));exact Ak (i-1-(k+1)) _ (by omega) ⟨k+1,_,mhO2,rfl,rfl,rfl,rfl,by omega,by omega,hO2,R.step hak (by omega),permIn_trans _ _ _ _ _ P (swp_permIn d0 a b k (k+1) (by omega) (by omega) (by omega) (by omega) (by omega))⟩ Qs
   ·obtain rfl:k=i-1:=by omega
    refine As (Aa (Aa (Ae (Ab (Ao (Ah ?_))))));exact Fg rfl (⟨rfl,m0,d0,rfl,hO0,P,Km Iv hB ⟨hi,hj⟩ c1 c2 R⟩)
 ·refine Ag (Ab (Ac (Au (Qm rfl (Qm rfl (Qx (oS rfl) rfl (Qm rfl (Al ?_))))))));refine Av rfl (fun h2=>?_) (fun h2=>?_)
  ·-- one element on the right
   obtain rfl:b=t+1:=by omega
   refine Au (Qm rfl (Qm rfl (BL (Qm rfl (Qm rfl (Al (Ac (Af ?_))))))))
   refine Ax (fun n s h' ms'=>∃(i j:Nat),n=j-i/\s=[(0,v),(1,.int .i64 a),(2,.int .i64 t),(4,(OV g)),(14,.int .i64 i),(15,.int .i64 j)]/\h=h'/\ms'=[m]/\a<=i/\i<=j/\j<=t/\(i=a\/Cs d[t]! d[i-1]! = false)/\(j=t\/Cs d[t]! d[j]! = true))
    (t-a) _ ⟨a,t,rfl,rfl,rfl,rfl,by omega,by omega,by omega,.inl rfl,.inl rfl⟩ Qs ?_
   rintro n s h' ms' ⟨i,j,rfl,rfl,rfl,rfl,hi,hij,hj,c1,c2⟩;refine Ac (Au (Qm rfl (Qm rfl (Qm rfl (Al ?_)))));refine Av rfl (fun hlt=>?_) (fun hlt=>?_)
   ·refine Ag (Ab (Af (Au (Qm rfl (Qm rfl (Qx (oA rfl) rfl (Qx (BZ rfl U3 G9 rfl) rfl (Qx (Dr (n:=1) rfl rfl rfl (by omega)) rfl (Qx (BZ rfl G9 U3 rfl) rfl (Qm rfl (Al ?_)))))))))));rw[GO i j (by omega)];refine Ac (Bg 9 CY (by kernel_rfl) rfl (Wm rfl (Wm rfl (Wm rfl (AP (AB (t) (hO.rd (.head _)) rfl Cu AJ rfl rfl (by omega) (by omega)) rfl rfl (AP (oG rfl DE AJ (hO.get (.head _) (by omega))) rfl rfl (Wm rfl (Wm rfl (AP (AB ((i+j)/2) (hO.rd (.head _)) rfl Cu AJ rfl rfl (by omega) (by omega)) rfl rfl (AP (oG rfl DE AJ (hO.get (.head _) (by omega))) rfl rfl (Bc (Qx (BY rfl rfl call199 rfl (Mx _ _ _ g hg _)) rfl (Qm rfl (Qm rfl (Al ?_)))))))))))))));refine Bu rfl (fun hl=>?_) (fun hl=>?_)
    ·have hl:Cs d[t]! d[(i+j)/2]! = false:=by unfold Cs;simpa using hl
     refine Ad (Qm rfl (Qx (oA rfl) rfl (Qm rfl (Aj (Ai ?_)))));exact Ak (j-((i+j)/2+1)) _ (by omega) ⟨(i+j)/2+1,j,rfl,rfl,rfl,rfl,by omega,by omega,by omega,.inr (by rw[Nat.add_sub_cancel];exact hl),c2⟩ Qs
    ·have hl:Cs d[t]! d[(i+j)/2]! = true:=by unfold Cs;simpa using hl
     refine Ad (Qm rfl (Qm rfl (Aj (Ai ?_))));exact Ak ((i+j)/2-i) _ (by omega) ⟨i,(i+j)/2,rfl,rfl,rfl,rfl,by omega,by omega,by omega,c1,.inr hl⟩ Qs
   ·obtain rfl:i=j:=by omega
    refine As (Aa (Aa (Ae (Ab (Ac (Au (Qm rfl (Qm rfl (Al (Af ?_))))))))))
    refine Ax (fun n s h' ms'=>∃(k:Nat) (d0:Array HM) (m:Hp),n=k-i/\s=[(0,v),(14,.int .i64 i),(17,.int .i64 k)]/\h=h'/\ms'=[m]/\i<=k/\k<=t/\OSD m v d0/\ShR d d0 t k/\PermIn a (t+1) d d0)
     (t-i) _ ⟨t,d,m,rfl,rfl,rfl,rfl,by omega,by omega,hO,ShR.start d t,permIn_refl d a (t+1)⟩ Qs ?_
    rintro n s h' ms' ⟨k,d0,m0,rfl,rfl,rfl,rfl,hik,hkt,hO0,R,P⟩;have hds:=R.1;refine Ac (Au (Qm rfl (Qm rfl (Qm rfl (Al ?_)))));refine Av rfl (fun hltk=>?_) (fun hltk=>?_)
    ·have st:ShR d (Go.Sort.swp d0 k (k-1)) t (k-1):=by
      obtain⟨k',rfl⟩:∃k',k=k'+1:=⟨k-1,by omega⟩
      exact R.step (by omega) (by omega)
     have e:(k:Int)-1=((k-1:Nat):Int):=by omega
     refine Ag (Ab (Ac (Af (DL 14 [false,false,true,true,true] CY (by kernel_rfl) (by kernel_rfl) (by kernel_rfl) (DX rfl rfl rfl rfl (Cf rfl rfl) (DX rfl rfl rfl rfl (Cf rfl rfl) (DX rfl rfl rfl rfl (MX rfl rfl rfl (by omega)) ?_)))))));refine⟨rfl,?_⟩;simp only[Em,zap,cons_append,nil_append,take_succ_cons,take_zero,drop_succ_cons,drop_zero,List.take_nil,List.drop_nil];refine Wm rfl (Wm rfl (DW rfl rfl rfl (DW rfl rfl rfl (DW rfl rfl rfl (Wm rfl (Wm rfl (AP (oS rfl) rfl rfl (AP (AB (k-1) (hO0.rd (.head _)) rfl Cu AJ rfl rfl (by omega) (by omega)) rfl rfl (AP (oG rfl DE AJ (hO0.get (.head _) (by omega))) rfl rfl (Wm rfl (Wm rfl (AP (AB (k) (hO0.rd (.head _)) rfl Cu AJ rfl rfl (by omega) (by omega)) rfl rfl (AP (oG rfl DE AJ (hO0.get (.head _) (by omega))) rfl rfl (Bc (Qx (AB (k) (hO0.rd (.head _)) rfl Cu AJ rfl rfl (by omega) (by omega)) rfl (C9 0 _ hO0 rfl AJ rfl rfl rfl (by omega) rfl rfl (fun mhO1 hzhO1 hO1=>Qx (AB (k-1) (hO1.rd (.head _)) rfl Cu AJ rfl rfl (by omega) (by omega)) rfl (C9 0 _ hO1 rfl AJ rfl rfl rfl (by omega) rfl rfl (fun mhO2 hzhO2 hO2=>Aj (Iq (Ai (Ab (Ad (Qm rfl (Qx (oS rfl) rfl (Qm rfl (Aj ?_)))))))))))))))))))))))))));rw[e];exact Ak (k-1-i) _ (by omega) ⟨k-1,_,mhO2,rfl,rfl,rfl,rfl,by omega,by omega,hO2,st,permIn_trans _ _ _ _ _ P (swp_permIn d0 a (t+1) k (k-1) (by omega) (by omega) (by omega) (by omega) (by omega))⟩ Qs
    ·obtain rfl:k=i:=by omega
     refine As (Aa (Aa (Ae (Ab (Ao (Ah ?_))))));exact Fg rfl (⟨rfl,m0,d0,rfl,hO0,P,LF Iv hA ⟨hi,hj⟩ c1 c2 R⟩)
  ·refine Ag (Ab (Au (Qm rfl (Qm rfl (Qx (oA rfl) rfl (Qx (BZ rfl U3 G9 rfl) rfl (Qx (Dr (n:=1) rfl rfl rfl (by omega)) rfl (Qx (BZ rfl G9 U3 rfl) rfl (Qm rfl (Al ?_))))))))));rw[GO a b (by omega)];obtain⟨mid,hmid⟩:∃mid,mid=(a+b)/2:=⟨_,rfl⟩
   rw[<-hmid];refine Au (Qm rfl (Qm rfl (Qx (oA rfl) rfl (Qm rfl (BL (Qm rfl (Qm rfl (Al ?_))))))));refine Bb (fun s h' ms'=>∃(s0 r0:Nat),s=[(0,v),(1,.int .i64 a),(2,.int .i64 t),(3,.int .i64 b),(4,(OV g)),(18,.int .i64 mid),(19,.int .i64 ((mid:Int)+t)),(20,.int .i64 s0),(21,.int .i64 r0)]/\h=h'/\ms'=[m]/\((mid<t/\s0+b=mid+t/\r0=mid)\/(t<=mid/\s0=a/\r0=t))) ?_ (fun s h ms hI=>?_)
   ·refine Ac (Ad (Qm rfl (Qm rfl (Qm rfl (Al ?_)))));refine Av rfl (fun hgt=>?_) (fun hgt=>?_)
    ·refine Ac (Ad (Qm rfl (Qm rfl (Qx (oS rfl) rfl (Qm rfl (Gn (Qm rfl (Qm rfl (Aj ?_)))))))));have e:(mid:Int)+t-b=((mid+t-b:Nat):Int):=by omega
     rw[e];exact AC _ ⟨mid+t-b,mid,rfl,rfl,rfl,.inl ⟨by omega,by omega,rfl⟩⟩ Qs
    ·refine Ac (Ad (Qm rfl (Qm rfl (Gn (Qm rfl (Qm rfl (Aj ?_)))))));exact AC _ ⟨a,t,rfl,rfl,rfl,.inr ⟨by omega,rfl,rfl⟩⟩ Qs
   ·obtain⟨s0,r0,rfl,rfl,rfl,hc⟩:=hI;refine Au (Qm rfl (Qx (oS rfl) rfl (Qm rfl (Al (Ac (Af ?_))))))
    refine Ax (fun n s h' ms'=>∃(i j:Nat),n=j-i/\s=[(0,v),(1,.int .i64 a),(2,.int .i64 t),(3,.int .i64 b),(4,(OV g)),(18,.int .i64 mid),(19,.int .i64 ((mid:Int)+t)),(20,.int .i64 i),(21,.int .i64 j),(22,.int .i64 ((mid:Int)+t-1))]/\h=h'/\ms'=[m]/\s0<=i/\i<=j/\j<=r0/\(i=s0\/Cs d[mid+t-i]! d[i-1]! = false)/\(j=r0\/Cs d[mid+t-1-j]! d[j]! = true))
     (r0-s0) _ ⟨s0,r0,rfl,rfl,rfl,rfl,by omega,by omega,by omega,.inl rfl,.inl rfl⟩ Qs ?_
    rintro n s h' ms' ⟨i,j,rfl,rfl,rfl,rfl,hi,hij,hj,c1,c2⟩;refine Ac (Au (Qm rfl (Qm rfl (Qm rfl (Al ?_)))));refine Av rfl (fun hlt=>?_) (fun hlt=>?_)
    ·refine Ag (Ab (Af (Au (Qm rfl (Qm rfl (Qx (oA rfl) rfl (Qx (BZ rfl U3 G9 rfl) rfl (Qx (Dr (n:=1) rfl rfl rfl (by omega)) rfl (Qx (BZ rfl G9 U3 rfl) rfl (Qm rfl (Al ?_)))))))))));rw[GO i j (by omega)];refine Ac (Bg 11 CY (by kernel_rfl) rfl (Wm rfl (Wm rfl (Wm rfl (Wm rfl (AP (oS rfl) rfl rfl (AP (AB (mid+t-1-(i+j)/2) (hO.rd (.head _)) rfl Cu AJ rfl rfl (by omega) (by omega)) rfl rfl (AP (oG rfl DE AJ (hO.get (.head _) (by omega))) rfl rfl (Wm rfl (Wm rfl (AP (AB ((i+j)/2) (hO.rd (.head _)) rfl Cu AJ rfl rfl (by omega) (by omega)) rfl rfl (AP (oG rfl DE AJ (hO.get (.head _) (by omega))) rfl rfl (Bc (Qx (BY rfl rfl call199 rfl (Mx _ _ _ g hg _)) rfl (Qm rfl (Qm rfl (Al ?_)))))))))))))))));refine Bu rfl (fun hl=>?_) (fun hl=>?_)
     ·have hl:Cs d[mid+t-1-(i+j)/2]! d[(i+j)/2]! = false:=by unfold Cs;simpa using hl
      refine Ad (Qm rfl (Qx (oA rfl) rfl (Qm rfl (Aj (Ai ?_)))));exact Ak (j-((i+j)/2+1)) _ (by omega) ⟨(i+j)/2+1,j,rfl,rfl,rfl,rfl,by omega,by omega,by omega,.inr (by rw[Nat.add_sub_cancel,show mid+t-((i+j)/2+1)=mid+t-1-(i+j)/2 by omega];exact hl),c2⟩ Qs
     ·have hl:Cs d[mid+t-1-(i+j)/2]! d[(i+j)/2]! = true:=by unfold Cs;simpa using hl
      refine Ad (Qm rfl (Qm rfl (Aj (Ai ?_))));exact Ak ((i+j)/2-i) _ (by omega) ⟨i,(i+j)/2,rfl,rfl,rfl,rfl,by omega,by omega,by omega,c1,.inr hl⟩ Qs
    ·obtain rfl:i=j:=by omega
     obtain⟨e,he⟩:∃e,e=mid+t-i:=⟨_,rfl⟩
     have he2:(mid:Int)+t-i=(e:Int):=by omega
     refine As (Aa (Aa (Ae (Ab (Au (Qm rfl (Qm rfl (Qx (oS rfl) rfl (Qm rfl (Al ?_))))))))));rw[he2]
     have k1:i=a\/e=b\/Cs d[e]! d[i-1]! = false:=by
      rcases c1 with c|c
      ·rcases hc with hc|hc
       ·right;left;omega
       ·left;omega
      ·right;right;rw[he];exact c
     have k2:i=t\/e=t\/Cs d[e-1]! d[i]! = true:=by
      rcases c2 with c|c
      ·rcases hc with hc|hc
       ·right;left;omega
       ·left;omega
      ·right;right;rw[show e-1=mid+t-1-i by omega];exact c
     have hgeo:a<=i/\i<=t/\i<=mid/\t<=e/\e<=b:=by rcases hc with hc|hc<;>omega
     have hs2:i+e=mid+t:=by omega
     refine Bb (fun s h' ms'=>∃(d1:Array HM) (m1:Hp),s=[(0,v),(1,.int .i64 a),(3,.int .i64 b),(4,(OV g)),(18,.int .i64 mid),(20,.int .i64 i),(24,.int .i64 e)]/\h=h'/\ms'=[m1]/\OSD m1 v d1/\(∀k,d1[k]! = EZ d i t e k)/\PermIn a b d d1) ?_ (fun s h ms hI=>?_)
     ·refine Ac (Ad (Qm rfl (Qm rfl (Qm rfl (Qm rfl ?_)))));refine AS (t:=181) rfl (fun q1=>?_) (fun q1=>?_)
      ·refine Qg (AA rfl rfl) rfl (Qg (AA rfl rfl) rfl (Qg (CZ rfl rfl rfl) rfl (Qm rfl (Al ?_))));refine Av rfl (fun q2=>?_) (fun q2=>?_)
       ·refine Ad (Qm rfl (Qm rfl (Qm rfl (Qm rfl (Qm rfl (AY (pre:=[m]) rfl call299 rfl (PD d v (OV g) m hO i t e a b (by omega) (by omega) (by omega) (by omega) (by omega) (by omega) (by omega) h rfl rfl rfl) rfl rfl rfl rfl (fun r h1 ms1 l1 hF=>?_)))))));obtain⟨rfl,m1,d1,rfl,hO1,hr,P⟩:=hF;refine Aj ?_;exact AC _ ⟨d1,m1,rfl,rfl,rfl,hO1,hr,P⟩ Qs
       ·refine Ag ?_;exact AC _ ⟨d,m,rfl,rfl,rfl,hO,fun k=>(GY (by omega) k).symm,permIn_refl d a b⟩ Qs
      ·refine Qk rfl (Qk rfl (Qk rfl (Qm rfl (Al (AM rfl (Ag ?_))))));exact AC _ ⟨d,m,rfl,rfl,rfl,hO,fun k=>(GY (by omega) k).symm,permIn_refl d a b⟩ Qs
     ·obtain⟨d1,m1,rfl,rfl,rfl,hO1,hr,P⟩:=hI;have C:=Vb Iv hA hB hgeo hs2 hr k1 k2;have hd1:=P.1;refine Bb (fun s h' ms'=>∃(d2:Array HM) (m2:Hp),s=[(0,v),(3,.int .i64 b),(4,(OV g)),(18,.int .i64 mid),(24,.int .i64 e)]/\h=h'/\ms'=[m2]/\OSD m2 v d2/\PermIn a mid d1 d2/\SortedIn Cs a mid d2) ?_ (fun s h ms hI=>?_)
      ·refine Ac (Ad (Qm rfl (Qm rfl (Qm rfl (Qm rfl ?_)))));refine AS (t:=195) rfl (fun q1=>?_) (fun q1=>?_)
       ·refine Qg (AA rfl rfl) rfl (Qg (AA rfl rfl) rfl (Qg (CZ rfl rfl rfl) rfl (Qm rfl (Al ?_))));refine Av rfl (fun q2=>?_) (fun q2=>?_)
        ·refine Ad (Qm rfl (Qm rfl (Qm rfl (Qm rfl (Qm rfl (AY (pre:=[m1]) rfl call279 rfl (ih d1 v m1 hO1 a i mid (by omega) (by omega) (by omega) (by omega) (by omega) C.lo C.lo2 h g hg rfl rfl rfl) rfl rfl rfl rfl (fun r h1 ms1 l1 hF=>?_)))))));obtain⟨rfl,m2,d2,rfl,hO2,P2,S2⟩:=hF;refine Aj ?_;exact AC _ ⟨d2,m2,rfl,rfl,rfl,hO2,P2,S2⟩ Qs
        ·obtain rfl:i=mid:=by omega
         refine Ag ?_;exact AC _ ⟨d1,m1,rfl,rfl,rfl,hO1,permIn_refl d1 a _,C.lo⟩ Qs
       ·obtain rfl:i=a:=by omega
        refine Qk rfl (Qk rfl (Qk rfl (Qm rfl (Al (AM rfl (Ag ?_))))));exact AC _ ⟨d1,m1,rfl,rfl,rfl,hO1,permIn_refl d1 _ _,C.lo2⟩ Qs
      ·obtain⟨d2,m2,rfl,rfl,rfl,hO2,P2,S2⟩:=hI;have hd2:=P2.1;have f1:SortedIn Cs mid e d2:=Bz C.hi fun k h1 h2=>P2.2.1 k (.inr h1);have f2:SortedIn Cs e b d2:=Bz C.hi2 fun k h1 h2=>P2.2.1 k (.inr (by omega))
       have fin:∀d3,PermIn mid b d2 d3->SortedIn Cs mid b d3->PermIn a b d d3/\SortedIn Cs a b d3:=fun d3 P3 S3=>
        ⟨permIn_trans _ _ _ _ _ P (permIn_trans _ _ _ _ _ (permIn_mono d1 d2 a mid a b (by omega) (by omega) (by omega) P2) (permIn_mono d2 d3 mid b a b (by omega) (by omega) (by omega) P3)),OM C (by omega) (by omega) P2 S2 P3 S3⟩
       refine Au (Qm rfl (Qm rfl (Qm rfl (Qm rfl ?_))));refine AS (t:=209) rfl (fun q1=>?_) (fun q1=>?_)
       ·refine Qg (AA rfl rfl) rfl (Qg (AA rfl rfl) rfl (Qg (CZ rfl rfl rfl) rfl (Qm rfl (Al ?_))));refine Av rfl (fun q2=>?_) (fun q2=>?_)
        ·refine Ad (Qm rfl (Qm rfl (Qm rfl (Qm rfl (Qm rfl (AY (pre:=[m2]) rfl call279 rfl (ih d2 v m2 hO2 mid e b (by omega) (by omega) (by omega) (by omega) (by omega) f1 f2 h g hg rfl rfl rfl) rfl rfl rfl rfl (fun r h1 ms1 l1 hF=>?_)))))));obtain⟨rfl,m3,d3,rfl,hO3,P3,S3⟩:=hF;refine Aj ?_;exact BO rfl (⟨rfl,m3,d3,rfl,hO3,(fin d3 P3 S3).1,(fin d3 P3 S3).2⟩)
        ·obtain rfl:e=b:=by omega
         refine Ag ?_;exact BO rfl (⟨rfl,m2,d2,rfl,hO2,(fin d2 (permIn_refl d2 _ _) f1).1,(fin d2 (permIn_refl d2 _ _) f1).2⟩)
       ·obtain rfl:e=mid:=by omega
        refine Qk rfl (Qk rfl (Qk rfl (Qm rfl (Al (AM rfl (Ag ?_))))));exact BO rfl (⟨rfl,m2,d2,rfl,hO2,(fin d2 (permIn_refl d2 _ _) f2).1,(fin d2 (permIn_refl d2 _ _) f2).2⟩)
def BkD(d:Array HM)(s n:Nat):Prop:=∀x,s∣x->SortedIn Cs x (min (x+s) n) d
theorem El{d:Array HM}{a b b':Nat}(h:SortedIn Cs a b d)(hb:b'<=b):SortedIn Cs a b' d:=fun i j h1 h2 h3=>h i j h1 h2 (by omega)
theorem HQ{d:Array HM}{a b:Nat}(hb:b<=a):SortedIn Cs a b d:=fun i j h1 h2 h3=>by omega
theorem Pp(d:Array HM)(v:Value)(m:Hp)(hO:OSD m v d)(hsz:d.size<=1000000)(h:Hp)(g:Nat)(hg:Ru h g){n':Int}(en:n'=d.size) :
  FnT Tryz.prog 239 #[v,.int .i64 n',(OV g)] h [m] (fun _ h' ms'=>h=h'/\∃m' d',ms'=[m']/\OSD m' v d'/\PermIn 0 d.size d d'/\SortedIn Cs 0 d.size d'):=by
 subst en;obtain⟨n,hn⟩:∃n,n=d.size:=⟨_,rfl⟩
 rw[<-hn];refine Ap func239 ntmps239 rfl rfl (fun w0 hw0=>?_);simp only[AU];refine Au (Qm rfl (BL (Qm rfl (Qm rfl (Qm rfl (Al (Ac (Af ?_))))))))
 refine Ax (fun q s h' ms'=>∃(a:Nat) (d0:Array HM) (m:Hp),q=n-a/\s=[(0,v),(1,.int .i64 n),(2,(OV g)),(6,.int .i64 20),(7,.int .i64 a),(8,.int .i64 ((a:Int)+20))]/\h=h'/\ms'=[m]/\a<=n/\20∣a/\OSD m v d0/\PermIn 0 n d d0/\∀x,20∣x->x+20<=a->SortedIn Cs x (x+20) d0)
  (n-0) _ ⟨0,d,m,rfl,rfl,rfl,rfl,by omega,⟨0,rfl⟩,hO,permIn_refl d 0 n,fun x _ h=>by omega⟩ Qs ?_
 rintro q s h' ms' ⟨a,d0,m0,rfl,rfl,rfl,rfl,han,hda,hO0,P,hB⟩;have hds:=P.1;refine Ac (Au (Qm rfl (Qm rfl (Qm rfl (Al ?_)))));refine Av rfl (fun hle=>?_) (fun hle=>?_)
 ·refine Ag (Ab (Af (Au (Qm rfl (Qm rfl (Qm rfl (Qm rfl (AY (pre:=[m0]) rfl call278 rfl (N1 d0 v m0 hO0 a (a+20) (by omega) (by omega) (by omega) h g hg rfl (by omega)) rfl rfl rfl rfl (fun r h1 ms1 l1 hF=>?_)))))))));obtain⟨rfl,m1,d1,rfl,hO1,P1,S1⟩:=hF;refine BL (Qm rfl (Qm rfl (Gn (Qm rfl (Qm rfl (Qx (oA rfl) rfl (Qm rfl (Aj (Ai ?_)))))))))
  exact Ak (n-(a+20)) _ (by omega) ⟨a+20,d1,m1,rfl,rfl,rfl,rfl,by omega,Nat.dvd_add hda ⟨1,rfl⟩,hO1,permIn_trans _ _ _ _ _ P (permIn_mono d0 d1 a (a+20) 0 n (by omega) (by omega) (by omega) P1),fun x hx hx2=>by
   rcases Nat.lt_or_ge x a with h1|h1
   ·have:=Ew hx hda h1;exact Bz (hB x hx this) fun k h2 h3=>P1.2.1 k (.inl (by omega))
   ·obtain rfl:x=a:=by omega
    exact S1⟩ Qs
 ·refine As (Aa (Aa (Ae (Ab (Au (Qm rfl (Qm rfl (Qm rfl (Qm rfl (AY (pre:=[m0]) rfl call278 rfl (N1 d0 v m0 hO0 a n (by omega) (by omega) (by omega) h g hg rfl rfl) rfl rfl rfl rfl (fun r h1 ms1 l1 hF=>?_)))))))))));obtain⟨rfl,m1,d1,rfl,hO1,P1,S1⟩:=hF;have PB:PermIn 0 n d d1:=permIn_trans _ _ _ _ _ P (permIn_mono d0 d1 a n 0 n (by omega) (by omega) (by omega) P1)
  have B1:BkD d1 20 n:=fun x hx=>by
   rcases Nat.lt_trichotomy x a with h1|rfl|h1
   ·have:=Ew hx hda h1;exact El (Bz (hB x hx this) fun k h2 h3=>P1.2.1 k (.inl (by omega))) (by omega)
   ·exact El S1 (by omega)
   ·have:=Ew hda hx h1;exact HQ (by omega)
  refine Al (Af ?_)
  refine Ax (fun q s h' ms'=>∃(w:Nat) (d0:Array HM) (m:Hp),q=n-w/\s=[(0,v),(1,.int .i64 n),(2,(OV g)),(6,.int .i64 w)]/\h=h'/\ms'=[m]/\1<=w/\w<=4000000/\OSD m v d0/\PermIn 0 n d d0/\BkD d0 w n)
   (n-20) _ ⟨20,d1,m1,rfl,rfl,rfl,rfl,by omega,by omega,hO1,PB,B1⟩ Qs ?_
  rintro q s h' ms' ⟨w,d2,m2,rfl,rfl,rfl,rfl,hw1,hw2,hO2,P2,B2⟩;have hd2:=P2.1;refine Ac (Au (Qm rfl (Qm rfl (Qm rfl (Al ?_)))));refine Av rfl (fun hlt=>?_) (fun hlt=>?_)
  ·refine Ag (Ab (Af (Au (Qm rfl (Qx (oM rfl) rfl (Qm rfl (Qm rfl (Al (Ac (Af ?_))))))))))
   refine Ax (fun q s h' ms'=>∃(a:Nat) (z:Int) (d0:Array HM) (m:Hp),q=n-a/\s=[(0,v),(1,.int .i64 n),(2,(OV g)),(6,.int .i64 w),(7,.int .i64 a),(8,.int .i64 z)]/\h=h'/\ms'=[m]/\z=a+2*w/\a<=n/\2*w∣a/\OSD m v d0/\PermIn 0 n d d0/\(∀x,2*w∣x->x+2*w<=a->SortedIn Cs x (x+2*w) d0)/\∀x,w∣x->a<=x->SortedIn Cs x (min (x+w) n) d0)
    (n-0) _ ⟨0,2*(w:Int),d2,m2,rfl,rfl,rfl,rfl,by omega,by omega,⟨0,rfl⟩,hO2,P2,fun x _ h=>by omega,fun x hx _=>B2 x hx⟩ Qs ?_
   rintro q s h' ms' ⟨a,z,d3,m3,rfl,rfl,rfl,rfl,rfl,han,hda,hO3,P3,hL,hR⟩;have hd3:=P3.1;have hwa:w∣a:=Nat.dvd_trans ⟨2,Nat.mul_comm 2 w⟩ hda;have hwa2:w∣a+w:=Nat.dvd_add hwa (Nat.dvd_refl w);have hwa3:2*w∣a+2*w:=Nat.dvd_add hda (Nat.dvd_refl _);have s1:=hR a hwa (Nat.le_refl _);have s2:=hR (a+w) hwa2 (by omega);refine Ac (Au (Qm rfl (Qm rfl (Qm rfl (Al ?_)))));refine Av rfl (fun hle2=>?_) (fun hle2=>?_)
   ·rw[show min (a+w) n=a+w by omega]at s1;rw[show min (a+w+w) n=a+2*w by omega]at s2;refine Ag (Ab (Af (Au (Qm rfl (Qm rfl (Qm rfl (Qm rfl (Qx (oA rfl) rfl (Qm rfl (Qm rfl (AY (pre:=[m3]) rfl call279 rfl (Ix (2*w) d3 v m3 hO3 a (a+w) (a+2*w) (by omega) (by omega) (by omega) (by omega) (by omega) s1 s2 h g hg rfl (by omega) (by omega)) rfl rfl rfl rfl (fun r h1 ms1 l1 hF=>?_))))))))))));obtain⟨rfl,m4,d4,rfl,hO4,P4,S4⟩:=hF;refine BL (Qm rfl (Qm rfl (Gn (Qm rfl (Qm rfl (Qx (oM rfl) rfl (Qx (oA rfl) rfl (Qm rfl (Aj (Ai ?_))))))))))
    exact Ak (n-(a+2*w)) _ (by omega) ⟨a+2*w,(a:Int)+2*w+2*w,d4,m4,rfl,rfl,rfl,rfl,by omega,by omega,hwa3,hO4,permIn_trans _ _ _ _ _ P3 (permIn_mono d3 d4 a (a+2*w) 0 n (by omega) (by omega) (by omega) P4),fun x hx hx2=>by
     rcases Nat.lt_or_ge x a with h1|h1
     ·have:=Ew hx hda h1;exact Bz (hL x hx this) fun k h2 h3=>P4.2.1 k (.inl (by omega))
     ·obtain rfl:x=a:=by omega
      exact S4,fun x hx hx2=>Bz (hR x hx (by omega)) fun k h2 h3=>P4.2.1 k (.inr (by omega))⟩ Qs
   ·have fin:∀d4,PermIn a n d3 d4->SortedIn Cs a n d4->PermIn 0 n d d4/\BkD d4 (w*2) n:=fun d4 P4 S4=>⟨permIn_trans _ _ _ _ _ P3 (permIn_mono d3 d4 a n 0 n (by omega) (by omega) (by omega) P4),fun x hx=>by
     rw[Nat.mul_comm]at hx ⊢;rcases Nat.lt_trichotomy x a with h1|rfl|h1
     ·have:=Ew hx hda h1;exact El (Bz (hL x hx this) fun k h2 h3=>P4.2.1 k (.inl (by omega))) (by omega)
     ·exact El S4 (by omega)
     ·have:=Ew hda hx h1
      exact HQ (by omega)⟩
    refine As (Aa (Aa (Ae (Ab (Ac (Au (Qm rfl (Qm rfl (Qx (oA rfl) rfl (Qm rfl (BL (Qm rfl (Qm rfl (Qm rfl (Al ?_)))))))))))))));refine Av rfl (fun hm=>?_) (fun hm=>?_)
    ·rw[show min (a+w) n=a+w by omega]at s1;rw[show min (a+w+w) n=n by omega]at s2;refine Ad (Qm rfl (Qm rfl (Qm rfl (Qm rfl (Qm rfl (AY (pre:=[m3]) rfl call279 rfl (Ix (2*w) d3 v m3 hO3 a (a+w) n (by omega) (by omega) (by omega) (by omega) (by omega) s1 s2 h g hg rfl (by omega) rfl) rfl rfl rfl rfl (fun r h1 ms1 l1 hF=>?_)))))));obtain⟨rfl,m4,d4,rfl,hO4,P4,S4⟩:=hF;have:=fin d4 P4 S4;refine Gn (Qm rfl (Qx (oM rfl) rfl (Qm rfl (Aj (Ai ?_)))));exact Ak (n-w*2) _ (by omega) ⟨w*2,d4,m4,rfl,rfl,rfl,rfl,by omega,by omega,hO4,this.1,this.2⟩ Qs
    ·rw[show min (a+w) n=n by omega]at s1;have:=fin d3 (permIn_refl d3 a n) s1;refine Ag (Ab (Ad (Qm rfl (Qx (oM rfl) rfl (Qm rfl (Aj (Ai ?_)))))));exact Ak (n-w*2) _ (by omega) ⟨w*2,d3,m3,rfl,rfl,rfl,rfl,by omega,by omega,hO3,this.1,this.2⟩ Qs
  ·refine As (Aa (Aa (Ae ?_)));exact BO rfl (⟨rfl,m2,d2,rfl,hO2,P2,by have:=B2 0 ⟨0,rfl⟩;rwa [show min (0+w) n=n by omega]at this⟩)
theorem KF(d:Array HM)(v:Value)(m:Hp)(hO:OSD m v d)(hsz:d.size<=1000000)(h:Hp)(g:Nat)(hg:Ru h g) :
  FnT Tryz.prog 198 #[v,(OV g)] h [m] (fun _ h' ms'=>h=h'/\∃m' d',ms'=[m']/\OSD m' v d'/\PermIn 0 d.size d d'/\SortedIn Cs 0 d.size d'):=by
 refine Ap func198 ntmps198 rfl rfl (fun w0 hw0=>?_);simp only[AU];refine Ad (Qm rfl (Qm rfl (Qx (Ar (hO.rd (.head _)) rfl Cu rfl) rfl (Qm rfl (AY (pre:=[m]) rfl call239 rfl (Pp d v m hO hsz h g hg rfl) rfl rfl rfl rfl (fun r h1 ms1 l1 hF=>?_))))));obtain⟨rfl,m4,d4,rfl,hO4,P4,S4⟩:=hF;refine Aj ?_;exact BO rfl (⟨rfl,m4,d4,rfl,hO4,P4,S4⟩)
theorem Jd{α:Type}[Inhabited α]{d d':Array α}(P:PermIn 0 d.size d d'):d'.toList.Perm d.toList:=by
 have h:=P.2.2;have e1:d'.extract 0 d.size=d':=by rw[<-P.1];simp
 have e2:d.extract 0 d.size=d:=by simp
 rwa [e1,e2]at h
theorem Hj{α:Type}[Inhabited α]{lt:α->α->Bool}{d:Array α}(S:SortedIn lt 0 d.size d):d.toList.Pairwise fun a b=>lt b a=false:=by
 rw[List.pairwise_iff_getElem];intro i j hi hj hij;have h1:=S i j (by omega) hij (by simpa using hj)
 have e:∀k (hk:k<d.toList.length),d[k]! = d.toList[k]:=fun k hk=>by
  have:k<d.size:=by simpa using hk
  simp[this]
 rwa [e i hi,e j hj]at h1
theorem SC(l:List CeO)(v:Value)(h:Hp)(hR:RdL Hh 3 h [] v l)(hl:l.length<=1000000):FnT Tryz.prog 194 #[v] h [] (fun x h' ms'=>h=h'/\∃m,ms'=[m]/\OwnL Hh 3 52 m x l):=by
 refine Ap func194 ntmps194 rfl rfl (fun w0 hw0=>?_);simp only[AU];refine Au (Qm rfl (Al (Ac (Au (Qm rfl (Qx (Kp hR.rd.any rfl Bk rfl rfl) rfl (Al ?_)))))));refine Bu rfl (fun hn=>?_) (fun hn=>?_)
 ·have h0:=I4 hR.rd hn;obtain rfl:l=[]:=List.eq_nil_of_length_eq_zero h0;refine Au (Qm rfl (Al (Ao (Ah (Ma ?_)))));exact Az rfl rfl (⟨rfl,_,rfl,OwnL.nil Jw⟩)
 ·refine Ag (Ab (Au ?_));refine Aq [] [] [] rfl Bk AH rfl (by omega) (by kernel_rfl) (by repeat (first|exact trivial|refine⟨⟨by first|rfl|exact(hR.rd.any).cells|exact Rd.cells ‹_›|exact(RdL.rd ‹_›).cells,rfl,rfl⟩,?_⟩)) rfl rfl rfl rfl (fun g5=>?_);refine Qm rfl ?_;have hO:OwnL Hh 3 52 (Bi g5 52 []) (.slice (some ⟨g5,0,none⟩) 0 0) []:=OwnL.blk (l:=([]:List CeO)) 0 Jw rfl (by omega);refine AQ 0 hO hR.any rfl Bk AH rfl (by omega) rfl rfl rfl MI (by simp;omega) (by simp;omega) rfl rfl rfl (fun v' m' hO'=>?_);refine Qm rfl (Al (Ao ?_));exact Az rfl rfl (⟨rfl,m',rfl,hO'⟩)
theorem SV(l:List HM)(v:Value)(h:Hp)(hR:RdL cD 2 h [] v l)(hl:l.length<=1000000):FnT Tryz.prog 197 #[v] h [] (fun x h' ms'=>h=h'/\∃m,ms'=[m]/\OwnL cD 2 119 m x l):=by
 refine Ap func197 ntmps197 rfl rfl (fun w0 hw0=>?_);simp only[AU];refine Au (Qm rfl (Al (Ac (Au (Qm rfl (Qx (Kp hR.rd.any rfl Cu rfl rfl) rfl (Al ?_)))))));refine Bu rfl (fun hn=>?_) (fun hn=>?_)
 ·have h0:=I4 hR.rd hn;obtain rfl:l=[]:=List.eq_nil_of_length_eq_zero h0;refine Au (Qm rfl (Al (Ao (Ah (Ma ?_)))));exact Az rfl rfl (⟨rfl,_,rfl,OwnL.nil D6⟩)
 ·refine Ag (Ab (Au ?_));refine Aq [] [] [] rfl Cu AJ rfl (by omega) (by kernel_rfl) (by repeat (first|exact trivial|refine⟨⟨by first|rfl|exact(hR.rd.any).cells|exact Rd.cells ‹_›|exact(RdL.rd ‹_›).cells,rfl,rfl⟩,?_⟩)) rfl rfl rfl rfl (fun g5=>?_);refine Qm rfl ?_;have hO:OwnL cD 2 119 (Bi g5 119 []) (.slice (some ⟨g5,0,none⟩) 0 0) []:=OwnL.blk (l:=([]:List HM)) 0 D6 rfl (by omega);refine AQ 0 hO hR.any rfl Cu AJ rfl (by omega) rfl rfl rfl F7 (by simp;omega) (by simp;omega) rfl rfl rfl (fun v' m' hO'=>?_);refine Qm rfl (Al (Ao ?_));exact Az rfl rfl (⟨rfl,m',rfl,hO'⟩)
theorem PT(l:List CeO)(v:Value)(h:Hp)(hR:RdL Hh 3 h [] v l)(hl:l.length<=1000000):FnT Tryz.prog 134 #[v,fkC] h [] (fun x h' ms'=>h.le h'/\∃m o,ms'=[m]/\OwnL Hh 3 52 m x o/\o.Perm l/\o.Pairwise fun a b=>a.c.id<=b.c.id):=by
 have o1:=hR.rd.one;refine Ap func134 ntmps134 rfl rfl (fun w0 hw0=>?_);simp only[AU];refine Au (AX [_] rfl rfl (by rfl) rfl rfl rfl (fun g3=>Qm rfl (Al (AD fun h1 l1 hG=>?_))));have hk:Sf h1 g3:=fun ms=>Seg.all hG 0 _ rfl ms;have hR:=hR.up l1;refine Au (Qm rfl (Qc call194 rfl (SC l v h1 hR hl) (fun r h2 ms2 l2 hF=>?_)));obtain⟨rfl,m,rfl,hO⟩:=hF;have ovr:=hO.o1;have hO':OSC m r l.toArray:=hO;refine Qm rfl (BL (Qm rfl (Qx (BH rfl rfl rfl) rfl ?_)));refine AY (pre:=[m]) rfl call195 rfl (J6 l.toArray r m hO' (by simpa using hl) h1 g3 hk) rfl rfl rfl rfl (fun x h3 ms3 l3 hF=>?_);obtain⟨rfl,m',d',rfl,hO2,P,S⟩:=hF;have ov2:r.oneCell'=true:=(OwnL.rd hO2 (h:=h1) (ms:=[m']) Mh).rd.one;have hp:d'.toList.Perm l:=Jd P
 have hs:d'.toList.Pairwise fun a b=>a.c.id<=b.c.id:=(Hj (P.1 ▸ S)).imp fun {a b} h=>by unfold Cq at h;rw[decide_eq_false_iff_not,Je]at h;omega
 refine BL (Qm rfl (Qm rfl (Al (Ao ?_))));exact Az rfl rfl (⟨l1,m',d'.toList,rfl,hO2,hp,hs⟩)
theorem Pd(l:List HM)(v:Value)(h:Hp)(hR:RdL cD 2 h [] v l)(hl:l.length<=1000000):FnT Tryz.prog 136 #[v,fkD] h [] (fun x h' ms'=>h.le h'/\∃m o,ms'=[m]/\OwnL cD 2 119 m x o/\o.Perm l/\o.Pairwise fun a b=>a.1<=b.1):=by
 have o1:=hR.rd.one;refine Ap func136 ntmps136 rfl rfl (fun w0 hw0=>?_);simp only[AU];refine Au (AX [_] rfl rfl (by rfl) rfl rfl rfl (fun g3=>Qm rfl (Al (AD fun h1 l1 hG=>?_))));have hk:Ru h1 g3:=fun ms=>Seg.all hG 0 _ rfl ms;have hR:=hR.up l1;refine Au (Qm rfl (Qc call197 rfl (SV l v h1 hR hl) (fun r h2 ms2 l2 hF=>?_)));obtain⟨rfl,m,rfl,hO⟩:=hF;have ovr:=hO.o1;have hO':OSD m r l.toArray:=hO;refine Qm rfl (BL (Qm rfl (Qx (BH rfl rfl rfl) rfl ?_)));refine AY (pre:=[m]) rfl call198 rfl (KF l.toArray r m hO' (by simpa using hl) h1 g3 hk) rfl rfl rfl rfl (fun x h3 ms3 l3 hF=>?_);obtain⟨rfl,m',d',rfl,hO2,P,S⟩:=hF;have ov2:r.oneCell'=true:=(OwnL.rd hO2 (h:=h1) (ms:=[m']) Mh).rd.one;have hp:d'.toList.Perm l:=Jd P
 have hs:d'.toList.Pairwise fun a b=>a.1<=b.1:=(Hj (P.1 ▸ S)).imp fun {a b} h=>by unfold Cs at h;rw[decide_eq_false_iff_not,Je]at h;omega
 refine BL (Qm rfl (Qm rfl (Al (Ao ?_))));exact Az rfl rfl (⟨l1,m',d'.toList,rfl,hO2,hp,hs⟩)
end Go.Proofs.Q

namespace Go.Proofs.Q
open Go.Proofs.Tryz
open Go.Eng Go.RowKit
def Cl.can(c:Cl):Cl:=⟨c.id,c.dim,BX c.sd⟩
def G7(x y:Cl):Bool:=decide (x.id<=y.id)
def ordF(l:List Cl):List Cl:=if h:l.length<=1 then l.map Cl.can else
 List.merge (ordF (l.take (l.length/2))) (ordF (l.drop (l.length/2))) G7
termination_by l.length
decreasing_by
 ·rw[length_take];omega
 ·rw[length_drop];omega
theorem D7{l:List Cl}(h:l.length<=1):ordF l=l.map Cl.can:=by rw[ordF,dif_pos h]
theorem Kv{l:List Cl}(h:¬l.length<=1):ordF l=List.merge (ordF (l.take (l.length/2))) (ordF (l.drop (l.length/2))) G7:=by rw[ordF,dif_neg h]
theorem De:∀(n:Nat) (l:List Cl),l.length<=n->(ordF l).Perm (l.map Cl.can)
 | 0,l,h=>by rw[D7 (by omega)]
 | n+1,l,h=>by
  by_cases hs:l.length<=1
  ·rw[D7 hs]
  ·rw[Kv hs];have h1:=De n (l.take (l.length/2)) (by rw[length_take];omega);have h2:=De n (l.drop (l.length/2)) (by rw[length_drop];omega);refine(List.merge_perm_append G7).trans ((h1.append h2).trans ?_);rw[<-map_append,List.take_append_drop]
theorem IA(l:List Cl):(ordF l).length=l.length:=by
 have:=(De l.length l (Nat.le_refl _)).length_eq
 rwa [length_map]at this
theorem En:∀(n:Nat) (l:List Cl),l.length<=n->(ordF l).Pairwise (fun x y=>x.id<=y.id)
 | 0,l,h=>by obtain rfl:l=[]:=List.eq_nil_of_length_eq_zero (by omega);rw[D7 (by simp)];exact List.Pairwise.nil
 | n+1,l,h=>by
  by_cases hs:l.length<=1
  ·rw[D7 hs]
   match l,hs with
   | [],_=>exact List.Pairwise.nil
   | [a],_=>exact List.pairwise_singleton _ _
  ·rw[Kv hs];have h1:=En n (l.take (l.length/2)) (by rw[length_take];omega);have h2:=En n (l.drop (l.length/2)) (by rw[length_drop];omega)
   have:=List.pairwise_merge (le:=G7) (fun a b c hab hbc=>by
    unfold G7 at *;have:=of_decide_eq_true hab;have:=of_decide_eq_true hbc
    exact decide_eq_true (by omega)) (fun a b=>by
    unfold G7;by_cases h:a.id<=b.id
    ·simp[h]
    ·have:b.id<=a.id:=by omega
     simp[this]) _ _ (h1.imp fun h=>decide_eq_true h) (h2.imp fun h=>decide_eq_true h)
   exact this.imp fun h=>of_decide_eq_true h
theorem WO(a b:Cl)(l l':List Cl)(h:b.id<a.id):List.merge (a::l) (b::l') G7=b::List.merge (a::l) l' G7:=by have:G7 a b=false:=decide_eq_false (by omega);simp[List.merge,this]
theorem Ws(a b:Cl)(l l':List Cl)(h:¬b.id<a.id):List.merge (a::l) (b::l') G7=a::List.merge l (b::l') G7:=by have:G7 a b=true:=decide_eq_true (by omega);simp[List.merge,this]
theorem RdC.part{h:Hp}{v:Value}{l:List Ce}(R:RdC h v l){i j:Nat}(hi:i<=j)(hj:j<=l.length):RdC h (BS 3 v i j) ((l.drop i).take (j-i)):=⟨R.q.sub_ hi hj,fun a ha=>R.s a (List.mem_of_mem_drop (List.mem_of_mem_take ha))⟩
theorem PP:∀(N:Nat) (l:List Ce) (v:Value) (h:Hp),l.length<N->N<=1000000->(∀a∈l,a.c.sd.length<=100000)->RdC h v l->FnT Tryz.prog 118 #[v] h [] (fun r h' ms'=>h.le h'/\∃m A,ms'=[m]/\OwnL cC 3 52 m r A/\A.map Ce.c=ordF (l.map Ce.c)/\∀a∈A,RdL cD 2 h' [] a.v a.c.sd):=by
 intro N
 induction N with
 | zero=>intro l v h hN;omega
 | succ N ih=>
  intro l v h hN hM hs hR;have o1:=hR.q.rd.one;refine Ap func118 ntmps118 rfl rfl (fun w0 hw0=>?_);simp only[AU];refine Au (Qm rfl (Al (Ac (Au (Qm rfl (Qx (Ar hR.q.rd.any rfl Bk rfl) rfl (Qm rfl (Al ?_))))))));refine Av rfl (fun h0=>?_) (fun h0=>?_)
  ·obtain rfl:l=[]:=List.eq_nil_of_length_eq_zero (by omega);refine BG (Au (Qm rfl (Al (Ao (Ah ?_)))));exact Az rfl rfl (⟨DU,Hp.emp,[],rfl,OwnL.nil Cc,by rw[D7 (by simp)];rfl,fun a ha=>nomatch ha⟩)
  ·refine Ag (Ab (Ac (Au (Qm rfl (Qx (Ar hR.q.rd.any rfl Bk rfl) rfl (Qm rfl (Al ?_)))))));refine Av rfl (fun h1=>?_) (fun h1=>?_)
   ·match l,h0,h1,hs,hR with
    | [a],_,_,hs,hR=>
     have hsa:=hR.s a Mh;have osa:=hsa.rd.one;have c0:∀ms,Cell h ms ((AF v).add (0*3)) (.int .i64 a.c.id):=fun ms=>(hR.q.any (ms:=ms)).cell0 (j:=0) (by simp) rfl;have c1:∀ms,Cell h ms (((AF v).add (0*3)).add 1) (.int .i64 a.c.dim):=fun ms=>(hR.q.any (ms:=ms)).cell (j:=0) (by simp) (f:=1) rfl;have c2:∀ms,Cell h ms (((AF v).add (0*3)).add 2) a.v:=fun ms=>(hR.q.any (ms:=ms)).cell (j:=0) (by simp) (f:=2) rfl;have h01:(0:Nat) < [a].length:=by simp
     refine Ac (BE (n:=16) (bs:=[true,true,true,true,true,true,true,true,true,true,true,true,false,false,false,false]) [true,true,true,true,true,true,true,true,true,true,true,true] CY (by kernel_rfl) (by kernel_rfl) rfl rfl (Qq rfl (Qp rfl (BU (0) hR.q.rd.any rfl Bk AH rfl rfl) (QF By rfl (QL rfl U3 (c0 _) (Qq rfl (Qp rfl (BU (0) hR.q.rd.any rfl Bk AH rfl rfl) (QF Cw rfl (QL rfl U3 (c1 _) (Qq rfl (Qp rfl (BU (0) hR.q.rd.any rfl Bk AH rfl rfl) (QF B5 rfl (QL rfl Cu (c2 _) ?_)))))))))))));unfold Fy;simp only[cons_append,nil_append];refine Qo 12 rfl (Qc call170 rfl (Ns a.c.sd a.v h (hs a Mh) hsa) (fun rs h2 ms2 l2 hF=>?_));obtain⟨rfl,mq,rfl,hOq⟩:=hF;refine Bw hOq fun h3 l3 hRq=>?_;obtain⟨a9,c9,rfl,_⟩:=hRq.rd.ex;refine Qa (CT 13 25 (by kernel_rfl) rfl (by assumption) rfl (Bf X7 [.int .i64 0,.int .i64 0,.slice none 0 0] [(0,_),(1,_),(2,_)] [_,_,_] rfl AH rfl rfl Qt rfl) (Qo 14 rfl (An [_,_,_] rfl Bk AH rfl (by rfl) rfl rfl (by omega) rfl rfl rfl (fun g26=>Qa (Qo 15 rfl (Qm rfl (Qa (Qe (Ab (Ao ?_))))))))));exact Az rfl rfl ⟨l3,_,[⟨a.c.can,.slice a9 (BX a.c.sd).length c9⟩],rfl,OwnL.blk (g:=g26) (el:=52) (F:=cC) (l:=[⟨a.c.can,.slice a9 (BX a.c.sd).length c9⟩]) 1 Cc rfl (by decide),by rw[D7 (by simp)];rfl,fun b hb=>by rw[List.mem_singleton.1 hb];exact hRq⟩
   ·have hl2:¬l.length<=1:=by omega
    obtain⟨k,hk⟩:∃k,l.length/2=k:=⟨_,rfl⟩
    have hk1:k<l.length:=by omega
    have hk0:0<k:=by omega
    have hll:=hR.q.len_le;have hR1:RdC h (BS 3 v 0 k) (l.take k):=by have:=hR.part (i:=0) (j:=k) (by omega) (by omega);rwa [drop_zero,Nat.sub_zero]at this
    have hR2:RdC h (BS 3 v k l.length) (l.drop k):=by have:=hR.part (i:=k) (j:=l.length) (by omega) (by omega);rwa [List.take_of_length_le (by rw[length_drop];omega)]at this
    have hkt:Int.tdiv (l.length:Int) 2=(k:Int):=by rw[Int.tdiv_eq_ediv_of_nonneg (by omega)];omega
    refine Ag (Ab (Au (Qm rfl (Qm rfl (Qx (Ar hR.q.rd.any rfl Bk rfl) rfl (Qx (FX rfl rfl rfl (by omega) (by omega)) rfl (Qx (E7 (k) hR.q.rd.any rfl Bk AH rfl rfl (by omega) (by omega)) rfl ?_)))))));refine Qc call118 rfl (ih (l.take k) _ h (by rw[length_take];omega) (by omega) (fun a ha=>hs a (List.mem_of_mem_take ha)) hR1) (fun ra h2 ms2 l2 hF=>?_);obtain⟨l2',ma,A,rfl,hOA,hA,hAs⟩:=hF;refine Bw hOA fun h3 l3 hRA=>?_;have hAs:∀a∈A,RdL cD 2 h3 [] a.v a.c.sd:=fun a ha=>(hAs a ha).up l3;have hR2:=hR2.up (AI l2 l3);have hR:=hR.up (AI l2 l3);have oA_:=hRA.rd.one;refine Qm rfl (BL (Qm rfl (Qm rfl (Qx (Ar hR.q.rd.any rfl Bk rfl) rfl (Qx (FX rfl rfl rfl (by omega) (by omega)) rfl (Qx (CA (k) hR.q.rd.any rfl Bk AH rfl rfl (by omega) (by omega)) rfl ?_))))));refine Qc call118 rfl (ih (l.drop k) _ h3 (by rw[length_drop];omega) (by omega) (fun a ha=>hs a (List.mem_of_mem_drop ha)) hR2) (fun rb h4 ms4 l4 hF=>?_);obtain⟨l4',mb,B,rfl,hOB,hB,hBs⟩:=hF;refine Bw hOB fun h5 l5 hRB=>?_;have l45:=AI l4 l5;have hAs:∀a∈A,RdL cD 2 h5 [] a.v a.c.sd:=fun a ha=>(hAs a ha).up l45;have hBs:∀a∈B,RdL cD 2 h5 [] a.v a.c.sd:=fun a ha=>(hBs a ha).up l5;have hRA:=hRA.up l45;have oB:=hRB.rd.one;have lA:A.length=k:=by have:=congrArg List.length hA;rw[length_map,IA,length_map,length_take]at this;omega
    have lB:B.length=l.length-k:=by have:=congrArg List.length hB;rw[length_map,IA,length_map,length_drop]at this;exact this
    have hmg:ordF (l.map Ce.c)=List.merge (A.map Ce.c) (B.map Ce.c) G7:=by rw[Kv (by rw[length_map];exact hl2),hA,hB,length_map,hk,List.map_take,List.map_drop]
    refine Qm rfl (BL (Qm rfl (Al ?_)));refine Bb (fun s h' ms'=>∃(A' B' O:List Ce) (va vb vo:Value) (mo:Hp),s=[(3,va),(4,vb),(5,vo)]/\h5=h'/\ms'=[mo]/\A'.length+B'.length+O.length=l.length/\RdL cC 3 h5 [] va A'/\RdL cC 3 h5 [] vb B'/\OwnL cC 3 52 mo vo O/\O.map Ce.c++A'.map Ce.c++B'.map Ce.c=ordF (l.map Ce.c)/\(∀a∈A',RdL cD 2 h5 [] a.v a.c.sd)/\(∀a∈B',RdL cD 2 h5 [] a.v a.c.sd)/\∀a∈O,RdL cD 2 h5 [] a.v a.c.sd) ?_ (fun s h ms hI=>?_)
    ·refine Af (BG ?_)
     refine Ax (fun q s h' ms'=>∃(A' B' O:List Ce) (va vb vo:Value) (mo:Hp),q=A'.length+B'.length/\s=[(3,va),(4,vb),(5,vo)]/\h5=h'/\ms'=[mo]/\A'.length+B'.length+O.length=l.length/\RdL cC 3 h5 [] va A'/\RdL cC 3 h5 [] vb B'/\OwnL cC 3 52 mo vo O/\O.map Ce.c++List.merge (A'.map Ce.c) (B'.map Ce.c) G7=ordF (l.map Ce.c)/\(∀a∈A',RdL cD 2 h5 [] a.v a.c.sd)/\(∀a∈B',RdL cD 2 h5 [] a.v a.c.sd)/\∀a∈O,RdL cD 2 h5 [] a.v a.c.sd)
      (A.length+B.length) _ ⟨A,B,[],_,_,_,Hp.emp,rfl,rfl,rfl,rfl,by rw[lA,lB,length_nil];omega,hRA,hRB,OwnL.nil Cc,by rw[hmg];rfl,hAs,hBs,fun a ha=>nomatch ha⟩ Qs ?_
     rintro q s h' ms' ⟨A',B',O,va,vb,vo,mo,rfl,rfl,rfl,rfl,hln,hRa,hRb,hOo,hm,hAa,hBb,hOa⟩;have ova:=hRa.rd.one;have ovb:=hRb.rd.one;have ovo:=hOo.o1;refine Ac (Au (Qm rfl (Qx (Ar hRa.rd.any rfl Bk rfl) rfl (Qm rfl (Qm rfl ?_)))));refine AS (t:=42) rfl (fun hs1=>?_) (fun hs1=>?_)
     ·refine Qg (AA rfl rfl) rfl (Qg (Ar hRb.rd.any rfl Bk rfl) rfl (Qg (CK rfl rfl rfl) rfl (Qm rfl (Al ?_))));refine Av rfl (fun hs2=>?_) (fun hs2=>?_)
      ·obtain⟨a,A2,rfl⟩:=List.exists_cons_of_length_pos (l:=A') (by omega);obtain⟨b,B2,rfl⟩:=List.exists_cons_of_length_pos (l:=B') (by omega);have hA0:0<(a::A2).length:=by simp
       have hB0:0<(b::B2).length:=by simp
       have oav:=(hAa a Mh).rd.one;have obv:=(hBb b Mh).rd.one;have ca:∀ms,Cell h5 ms ((AF va).add (0*3)) (.int .i64 a.c.id):=fun ms=>(hRa.any (ms:=ms)).cell0 (j:=0) hA0 rfl;have cb:∀ms,Cell h5 ms ((AF vb).add (0*3)) (.int .i64 b.c.id):=fun ms=>(hRb.any (ms:=ms)).cell0 (j:=0) hB0 rfl;have ga:∀ms,Seg h5 ms ((AF va).add (0*3)) (cC a):=fun ms=>(hRa.any (ms:=ms)).seg (j:=0) hA0;have gb:∀ms,Seg h5 ms ((AF vb).add (0*3)) (cC b):=fun ms=>(hRb.any (ms:=ms)).seg (j:=0) hB0;have hA2:RdL cC 3 h5 [] (BS 3 va 1 (a::A2).length) A2:=by have:=hRa.sub_ (i:=1) (j:=(a::A2).length) (by simp) (Nat.le_refl _);simpa using this
       have hB2:RdL cC 3 h5 [] (BS 3 vb 1 (b::B2).length) B2:=by have:=hRb.sub_ (i:=1) (j:=(b::B2).length) (by simp) (Nat.le_refl _);simpa using this
       have oA2:=hA2.rd.one;have oB2:=hB2.rd.one;have hal:(a::A2).length=A2.length+1:=rfl;have hbl:(b::B2).length=B2.length+1:=rfl;refine Ag (Ab (Af (Ac (Bg 8 CY (by kernel_rfl) rfl (Wm rfl (AP (BU (0) hRb.rd.any rfl Bk AH rfl rfl) rfl rfl (Wf By rfl (Wl rfl U3 (cb _) (Wm rfl (AP (BU (0) hRa.rd.any rfl Bk AH rfl rfl) rfl rfl (Wf By rfl (Wl rfl U3 (ca _) (Bc (Qm rfl (Al ?_)))))))))))))));refine Av rfl (fun hlt=>?_) (fun hlt=>?_)
       ·refine Ac (Ad (Qm rfl (Qm rfl (Qx (BU (0) hRb.rd.any rfl Bk AH rfl rfl) rfl (Qx (oG rfl EL AH (gb _)) rfl (An [_,_,_] rfl Bk AH rfl (by rfl) rfl rfl (by omega) rfl rfl rfl (fun g60=>?_)))))));refine AZ 1 hOo (RdL.one Cc (x:=b) Mh rfl) rfl Bk AH rfl (by omega) rfl rfl rfl (C0 (l:=[b]) (fun y hy=>by rw[List.mem_singleton.1 hy];exact hBb b Mh)) (by(try simp only[length_singleton]);omega) (by(try simp only[length_singleton]);omega) rfl rfl rfl (fun v6 m6 hO6=>?_);have ov6:=hO6.o1;refine Qm rfl (Gn (Qm rfl (Qx (CA (1) hRb.rd.any rfl Bk AH rfl rfl (by omega) (by omega)) rfl (Qm rfl (Aj (Ai (AL ?_)))))));exact Ak ((a::A2).length+B2.length) _ (by omega) ⟨a::A2,B2,O++[b],va,_,v6,m6,rfl,rfl,rfl,rfl,by rw[length_append,length_singleton];omega,hRa,hB2,hO6,by rw[map_append,<-hm];show _++[b.c]++_=_++List.merge (a.c::_) (b.c::_) G7;rw[WO _ _ _ _ hlt,append_assoc];rfl,hAa,fun y hy=>hBb y (mem_cons_of_mem _ hy),fun y hy=>by rcases List.mem_append.1 hy with h|h;exact hOa y h;rw[List.mem_singleton.1 h];exact hBb b Mh⟩ Qs
       ·refine Ac (Ad (Qm rfl (Qm rfl (Qx (BU (0) hRa.rd.any rfl Bk AH rfl rfl) rfl (Qx (oG rfl EL AH (ga _)) rfl (An [_,_,_] rfl Bk AH rfl (by rfl) rfl rfl (by omega) rfl rfl rfl (fun g68=>?_)))))));refine AZ 1 hOo (RdL.one Cc (x:=a) Mh rfl) rfl Bk AH rfl (by omega) rfl rfl rfl (C0 (l:=[a]) (fun y hy=>by rw[List.mem_singleton.1 hy];exact hAa a Mh)) (by(try simp only[length_singleton]);omega) (by(try simp only[length_singleton]);omega) rfl rfl rfl (fun v6 m6 hO6=>?_);have ov6:=hO6.o1;refine Qm rfl (Gn (Qm rfl (Qx (CA (1) hRa.rd.any rfl Bk AH rfl rfl (by omega) (by omega)) rfl (Qm rfl (Aj (Ai (AL ?_)))))));exact Ak (A2.length+(b::B2).length) _ (by omega) ⟨A2,b::B2,O++[a],_,vb,v6,m6,rfl,rfl,rfl,rfl,by rw[length_append,length_singleton];omega,hA2,hRb,hO6,by rw[map_append,<-hm];show _++[a.c]++_=_++List.merge (a.c::_) (b.c::_) G7;rw[Ws _ _ _ _ hlt,append_assoc];rfl,fun y hy=>hAa y (mem_cons_of_mem _ hy),hBb,fun y hy=>by rcases List.mem_append.1 hy with h|h;exact hOa y h;rw[List.mem_singleton.1 h];exact hAa a Mh⟩ Qs
      ·obtain rfl:B'=[]:=List.eq_nil_of_length_eq_zero (by omega);refine As (Aa (Aa (Ae ?_)));exact AC _ ⟨A',[],O,va,vb,vo,mo,rfl,rfl,rfl,hln,hRa,hRb,hOo,by rw[<-hm,append_assoc];simp,hAa,hBb,hOa⟩ Qs
     ·obtain rfl:A'=[]:=List.eq_nil_of_length_eq_zero (by omega);refine Qk rfl (Qk rfl (Qk rfl (Qm rfl (Al (AM rfl (As (Aa (Aa (Ae ?_)))))))));exact AC _ ⟨[],B',O,va,vb,vo,mo,rfl,rfl,rfl,hln,hRa,hRb,hOo,by rw[<-hm];simp,hAa,hBb,hOa⟩ Qs
    ·obtain⟨A',B',O,va,vb,vo,mo,rfl,rfl,rfl,hln,hRa,hRb,hOo,hm,hAa,hBb,hOa⟩:=hI;have ova:=hRa.rd.one;have ovb:=hRb.rd.one;have ovo:=hOo.o1;refine Au (Qm rfl (Qm rfl (AZ 0 hOo hRa.any rfl Bk AH rfl (by omega) rfl rfl rfl (C0 hAa) (by(try simp only[length_append]);omega) (by(try simp only[length_append]);omega) rfl rfl rfl (fun v7 m7 hO7=>Qm rfl (AZ 0 hO7 hRb.any rfl Bk AH rfl (by omega) rfl rfl rfl (C0 hBb) (by(try simp only[length_append]);omega) (by(try simp only[length_append]);omega) rfl rfl rfl (fun v8 m8 hO8=>Qm rfl (Al (Ao ?_))))))));exact Az rfl rfl (⟨AI l2 (AI l3 l45),m8,_,rfl,hO8,by rw[map_append,map_append];exact hm,fun y hy=>by rcases List.mem_append.1 hy with h|h;rcases List.mem_append.1 h with h|h;exact hOa y h;exact hAa y h;exact hBb y h⟩)
structure ZP(l:List Ce):Prop where
 n:l.length<=100000
 s:∀a∈l,a.c.sd.length<=100000
def uq:Option Int->List Cl->List Cl
 | _,[]=>[]
 | p,a::l=>if p=some a.id then uq (some a.id) l else a::uq (some a.id) l
def M5:Option Int->List Ce->List Ce
 | _,[]=>[]
 | p,a::l=>if p=some a.c.id then M5 (some a.c.id) l else a::M5 (some a.c.id) l
theorem Mp:∀(l:List Ce) (p:Option Int),(M5 p l).map Ce.c=uq p (l.map Ce.c)
 | [],_=>rfl
 | a::l,p=>by
  unfold M5;show _=(if p=some a.c.id then uq (some a.c.id) (l.map Ce.c) else a.c::uq (some a.c.id) (l.map Ce.c));split
  ·exact Mp l _
  ·rw[List.map_cons,Mp l _]
theorem L5:∀(l:List Ce) (p:Option Int),∀a∈M5 p l,a∈l
 | [],_,a,h=>by cases h
 | b::l,p,a,h=>by
  unfold M5 at h;split at h
  ·exact mem_cons_of_mem _ (L5 l _ a h)
  ·rcases List.mem_cons.1 h with rfl|h
   ·exact Mh
   ·exact mem_cons_of_mem _ (L5 l _ a h)
theorem Wa(l:List Ce)(p:Option Int):(M5 p l).length<=l.length:=by
 induction l generalizing p with
 | nil=>exact Nat.le_refl _
 | cons a l ih=>
  unfold M5;have:=ih (some a.c.id);split
  ·rw[length_cons];omega
  ·rw[length_cons,length_cons];omega
theorem Og:∀(l:List Ce) (p:Option Int) (a:Ce),M5 p (l++[a])=M5 p l++(if((l.getLast?.map fun x=>x.c.id).or p)=some a.c.id then [] else [a])
 | [],p,a=>by show M5 p [a]=_;unfold M5;show _=[]++(if p=some a.c.id then [] else [a]);split<;>rfl
 | b::l,p,a=>by
  have ih:=Og l (some b.c.id) a
  have e:(((b::l).getLast?.map fun x:Ce=>x.c.id).or p)=((l.getLast?.map fun x=>x.c.id).or (some b.c.id)):=by
   cases l with
   | nil=>rfl
   | cons c l=>simp[List.getLast?_cons_cons,List.getLast?_cons]
  rw[e];show M5 p (b::(l++[a]))=_;unfold M5;split
  ·exact ih
  ·rw[ih];rfl
theorem Tu{l:List Ce}{i:Nat}(hi:i<l.length):M5 none (l.take (i+1))=M5 none (l.take i)++(if h:0<i/\(l[i-1]'(by omega)).c.id=l[i].c.id then [] else [l[i]]):=by
 rw[List.take_succ_eq_append_getElem hi,Og];congr 1;by_cases h0:0<i
 ·have e:(l.take i).getLast?=some (l[i-1]'(by omega)):=by rw[List.getLast?_eq_getElem?,length_take,Nat.min_eq_left (by omega),List.getElem?_take_of_lt (by omega),List.getElem?_eq_getElem (by omega)]
  rw[e];by_cases h1:(l[i-1]'(by omega)).c.id=l[i].c.id
  ·rw[dif_pos ⟨h0,h1⟩,if_pos (by simp[h1])]
  ·rw[dif_neg (fun q=>h1 q.2),if_neg (by simpa using h1)]
 ·obtain rfl:i=0:=by omega
  rw[dif_neg (fun q=>h0 q.1)];simp
def Ub(l:List Cl):List Cl:=uq none (ordF l)
theorem KP(l:List Ce)(v:Value)(h:Hp)(hK:ZP l)(hR:RdC h v l):FnT Tryz.prog 49 #[.agg #[v]] h [] (fun r h' ms'=>h.le h'/\∃m A,ms'=[m]/\OwnL cC 3 52 m r A/\A.map Ce.c=Ub (l.map Ce.c)/\∀a∈A,RdL cD 2 h' [] a.v a.c.sd):=by
 have o1:=hR.q.rd.one;have hn:=hK.n;refine Ap func49 ntmps49 rfl rfl (fun w0 hw0=>?_);simp only[AU];refine Au (AX [_] rfl rfl (by rfl) rfl rfl rfl (fun g1=>Qm rfl (Al (AD fun h1 l1 hS=>?_))));have hR:=hR.up l1;have hA0:=Seg.all hS 0 _ rfl;refine Au (Qf BW rfl (Ql rfl Bk (hA0 _) (Qc call118 rfl (PP (l.length+1) l v h1 (by omega) (by omega) hK.s hR) (fun r2 h2 ms2 l2 hF=>?_))));obtain⟨l2',m,A,rfl,hO,hA,hs⟩:=hF;refine Bw hO fun h3 l3 hRA=>?_;have hs:∀a∈A,RdL cD 2 h3 [] a.v a.c.sd:=fun a ha=>(hs a ha).up l3;have lA:A.length=l.length:=by have:=congrArg List.length hA;rwa [length_map,IA,length_map]at this
 have o2:=hRA.rd.one;refine Qm rfl (BL (Qm rfl (Al (Ac (Au (Qm rfl (Al (Af (BG ?_)))))))))
 refine Ax (fun q s h' ms'=>∃(i:Nat) (vo:Value) (mo:Hp),q=A.length-i/\s=[(3,r2),(4,vo),(5,.int .i64 i)]/\h3=h'/\ms'=[mo]/\i<=A.length/\OwnL cC 3 52 mo vo (M5 none (A.take i)))
  (A.length-0) _ ⟨0,_,Hp.emp,rfl,rfl,rfl,rfl,by omega,OwnL.nil Cc⟩ Qs ?_
 rintro q s h' ms' ⟨i,vo,mo,rfl,rfl,rfl,rfl,hi,hO⟩;refine Ac (Au (Qm rfl (Qm rfl (Qx (Ar hRA.rd.any rfl Bk rfl) rfl (Qm rfl (Al ?_))))));refine Av rfl (fun hlt=>?_) (fun hlt=>?_)
 ·have hil:i<A.length:=EI hlt;have ovo:=hO.o1;have oav:=(hs _ (getElem_mem hil)).rd.one;have hgi:∀ms,Seg h3 ms ((AF r2).add (i*3)) (cC A[i]):=fun ms=>(hRA.any (ms:=ms)).seg hil;have hci:∀ms,Cell h3 ms ((AF r2).add (i*3)) (.int .i64 A[i].c.id):=fun ms=>(hRA.any (ms:=ms)).cell0 hil rfl;have htk:=Tu hil;have hul:(M5 none (A.take i)).length<=100000:=by have:=Wa (A.take i) none;rw[length_take]at this;omega
  refine Ag (Ab ?_);refine Bb (fun s h' ms'=>∃(vo:Value) (mo:Hp),s=[(3,r2),(4,vo),(5,.int .i64 i)]/\h3=h'/\ms'=[mo]/\OwnL cC 3 52 mo vo (M5 none (A.take (i+1)))) ?_ (fun s h ms hI=>?_)
  ·refine Af (Ac (Bg 14 CY (by kernel_rfl) rfl (Wm rfl (Wm rfl (Wm rfl ?_)))));refine Dm (t:=17) rfl (fun hs1=>?_) (fun hs1=>?_)
   ·rw[dif_neg (fun q=>by omega)]at htk;refine AG rfl rfl rfl rfl rfl (AG rfl rfl rfl rfl rfl (AG rfl rfl rfl rfl rfl (AG rfl rfl rfl rfl rfl (AG rfl rfl rfl rfl rfl (AG rfl rfl rfl rfl rfl (AG rfl rfl rfl rfl rfl (AG rfl rfl rfl rfl rfl (AG rfl rfl rfl rfl rfl (AG rfl rfl rfl rfl rfl (AG rfl rfl rfl rfl rfl (Bc (Qk rfl (Qm rfl (Al (B3 rfl (Ad (Qm rfl (Qm rfl (Qm rfl (Qx (BU (i) hRA.rd.any rfl Bk AH rfl rfl) rfl (Qx (oG rfl EL AH (hgi _)) rfl (An [_,_,_] rfl Bk AH rfl (by rfl) rfl rfl (by omega) rfl rfl rfl (fun g36=>?_)))))))))))))))))))))));refine AZ 1 hO (RdL.one Cc (x:=A[i]) Mh rfl) rfl Bk AH rfl (by omega) rfl rfl rfl (C0 (l:=[A[i]]) (fun y hy=>by rw[List.mem_singleton.1 hy];exact hs _ (getElem_mem hil))) (by(try simp only[length_singleton]);omega) (by(try simp only[length_singleton]);omega) rfl rfl rfl (fun v6 m6 hO6=>?_);rw[<-htk]at hO6;refine Qm rfl (Aj (Ai (AL ?_)));exact AC _ ⟨v6,m6,rfl,rfl,rfl,hO6⟩ Qs
   ·have hip:i-1<A.length:=by omega
    have hcp:∀ms,Cell h3 ms ((AF r2).add ((i-1)*3)) (.int .i64 A[i-1].c.id):=fun ms=>(hRA.any (ms:=ms)).cell0 hip rfl;refine AN (AA rfl rfl) rfl rfl rfl rfl (AN (AA rfl rfl) rfl rfl rfl rfl (AN (BU (i) hRA.rd.any rfl Bk AH rfl rfl) rfl rfl rfl rfl (AN (oF By rfl) rfl rfl rfl rfl (AN (oL rfl U3 (hci _)) rfl rfl rfl rfl (AN (AA rfl rfl) rfl rfl rfl rfl (AN (AA rfl rfl) rfl rfl rfl rfl (AN (oS rfl) rfl rfl rfl rfl (AN (BU (i-1) hRA.rd.any rfl Bk AH rfl rfl) rfl rfl rfl rfl (AN (oF By rfl) rfl rfl rfl rfl (AN (oL rfl U3 (hcp _)) rfl rfl rfl rfl (Bc (Qg (DK rfl rfl rfl) rfl (Qm rfl (Al ?_))))))))))))));refine Av rfl (fun hs2=>?_) (fun hs2=>?_)
    ·rw[dif_neg (fun q=>hs2 q.2.symm)]at htk;refine Ad (Qm rfl (Qm rfl (Qm rfl (Qx (BU (i) hRA.rd.any rfl Bk AH rfl rfl) rfl (Qx (oG rfl EL AH (hgi _)) rfl (An [_,_,_] rfl Bk AH rfl (by rfl) rfl rfl (by omega) rfl rfl rfl (fun g36=>?_)))))));refine AZ 1 hO (RdL.one Cc (x:=A[i]) Mh rfl) rfl Bk AH rfl (by omega) rfl rfl rfl (C0 (l:=[A[i]]) (fun y hy=>by rw[List.mem_singleton.1 hy];exact hs _ (getElem_mem hil))) (by(try simp only[length_singleton]);omega) (by(try simp only[length_singleton]);omega) rfl rfl rfl (fun v6 m6 hO6=>?_);rw[<-htk]at hO6;refine Qm rfl (Aj (Ai (AL ?_)));exact AC _ ⟨v6,m6,rfl,rfl,rfl,hO6⟩ Qs
    ·rw[dif_pos ⟨by omega,by omega⟩,List.append_nil]at htk;rw[<-htk]at hO;refine Ag (Ai ?_);exact AC _ ⟨vo,mo,rfl,rfl,rfl,hO⟩ Qs
  ·obtain⟨vo,mo,rfl,rfl,rfl,hO⟩:=hI;refine Ad (Qm rfl (Qx (oA rfl) rfl (Qm rfl (Aj ?_))));exact Ak (A.length-(i+1)) _ (by omega) ⟨i+1,vo,mo,rfl,rfl,rfl,rfl,by omega,hO⟩ Qs
 ·have hie:i=A.length:=by omega
  rw[hie,List.take_length]at hO;refine As (Aa (Aa (Ae (Ab (Au (Qm rfl (Qm rfl (Al (Ao ?_)))))))));exact Az rfl rfl (⟨AI l1 (AI l2 l3),mo,_,rfl,hO,by rw[Mp,hA];rfl,fun a ha=>hs a (L5 _ _ a ha)⟩)
def Kn(l:List Cl)(x:Int):Nat:=(l.takeWhile fun c=>decide (c.id<x)).length
def L3(l:List Cl)(x:Int):Int:=if h:Kn l x<l.length then if l[Kn l x].id=x then(Kn l x:Nat) else -1 else -1
theorem Nr{l:List Cl}{x:Int}{k:Nat}(hk:k<=l.length)(h1:∀j (hj:j<l.length),j<k->l[j].id<x)(h2:∀hk:k<l.length,¬l[k].id<x):Kn l x=k:=by obtain⟨e1,_⟩:=EU (fun c:Cl=>decide (c.id<x)) l k hk (fun j hj hjk=>decide_eq_true (h1 j hj hjk)) (fun hk=>decide_eq_false (h2 hk));unfold Kn;rw[e1,length_take];omega
theorem ZZ(l:List Ce)(v:Value)(x:Int)(h:Hp)(hn:l.length<=100000)(hst:(l.map Ce.c).Pairwise fun a b=>a.id<=b.id)(hR:RdL cC 3 h [] v l)(ms:List Hp):FnV Tryz.prog 117 #[v,.int .i64 x] h ms (.int .i64 (L3 (l.map Ce.c) x)):=by
 refine Gf ?_ ms;have o1:=hR.rd.one
 have hsr:∀i j (hi:i<l.length) (hj:j<l.length),i<j->l[i].c.id<=l[j].c.id:=fun i j hi hj hij=>by have:=List.pairwise_iff_getElem.1 hst i j (by simpa using hi) (by simpa using hj) hij;simpa using this
 refine Ap func117 ntmps117 rfl rfl (fun w0 hw0=>?_);simp only[AU];refine Au (Qm rfl (BL (Qm rfl (BL (Qm rfl (Qx (Ar hR.rd.any rfl Bk rfl) rfl (Qm rfl (Al (Ac (Af ?_))))))))))
 refine Ax (fun q s h' ms'=>∃(lo hi:Nat),q=hi-lo/\s=[(0,v),(1,.int .i64 x),(5,.int .i64 lo),(6,.int .i64 hi)]/\h=h'/\ms'=[]/\lo<=hi/\hi<=l.length/\(∀j (hj:j<l.length),j<lo->l[j].c.id<x)/\∀j (hj:j<l.length),hi<=j->¬l[j].c.id<x)
  (l.length-0) _ ⟨0,l.length,rfl,rfl,rfl,rfl,by omega,by omega,fun j hj h=>by omega,fun j hj h=>by omega⟩ Qs ?_
 rintro q s h' ms' ⟨lo,hi,rfl,rfl,rfl,rfl,hlh,hhl,hlo,hhi⟩;refine Ac (Au (Qm rfl (Qm rfl (Qm rfl (Al ?_)))));refine Av rfl (fun hlt=>?_) (fun hlt=>?_)
 ·obtain⟨m,hm⟩:∃m,(lo+hi)/2=m:=⟨_,rfl⟩
  have hml:m<l.length:=by omega
  have hmt:((lo:Int)+hi)/2=(m:Int):=by omega
  have hcm:Cell h [] ((AF v).add (m*3)) (.int .i64 l[m].c.id):=hR.cell0 hml rfl;refine Ag (Ab (Af (Au (Qm rfl (Qm rfl (Qx (oA rfl) rfl (Qx (FX rfl rfl rfl (by omega) (by omega)) rfl (Qm rfl (Al ?_)))))))));rw[hmt];refine Au (Qm rfl (Qm rfl (Qx (BU (m) hR.rd.any rfl Bk AH rfl rfl) rfl (Qf By rfl (Ql rfl U3 (hcm) (Qm rfl (Qm rfl (Al ?_))))))));refine Av rfl (fun hlt2=>?_) (fun hlt2=>?_)
  ·refine Ad (Qm rfl (Qx (oA rfl) rfl (Qm rfl (Aj (Ai ?_)))))
   exact Ak (hi-(m+1)) _ (by omega) ⟨m+1,hi,rfl,rfl,rfl,rfl,by omega,by omega,fun j hj h=>by
    rcases (by omega:j<m\/j=m) with h1|rfl
    ·have:=hsr j m hj hml h1;omega
    ·exact hlt2,hhi⟩ Qs
  ·refine Ad (Qm rfl (Qm rfl (Aj (Ai ?_))))
   exact Ak (m-lo) _ (by omega) ⟨lo,m,rfl,rfl,rfl,rfl,by omega,by omega,hlo,fun j hj h=>by
    rcases (by omega:m<j\/j=m) with h1|rfl
    ·have:=hsr m j hml hj h1;omega
    ·exact hlt2⟩ Qs
 ·obtain rfl:lo=hi:=by omega
  have hcnt:Kn (l.map Ce.c) x=lo:=Nr (by rw[length_map];omega) (fun j hj h=>by rw[getElem_map];exact hlo j (by simpa using hj) h) (fun hk=>by rw[getElem_map];exact hhi lo (by simpa using hk) (Nat.le_refl _))
  have hat:L3 (l.map Ce.c) x=if h:lo<l.length then(if l[lo].c.id=x then(lo:Int) else -1) else -1:=by unfold L3;simp only[hcnt,length_map,getElem_map]
  refine As (Aa (Aa (Ae (Ab (Ac (Au (Qm rfl (Qm rfl (Qx (Ar hR.rd.any rfl Bk rfl) rfl (Qm rfl (Qm rfl ?_)))))))))));refine AS (t:=31) rfl (fun hs1=>?_) (fun hs1=>?_)
  ·have hll:lo<l.length:=EI hs1;have hcl:Cell h [] ((AF v).add (lo*3)) (.int .i64 l[lo].c.id):=hR.cell0 hll rfl;rw[dif_pos hll]at hat;refine Qg (AA rfl rfl) rfl (Qg (AA rfl rfl) rfl (Qg (BU (lo) hR.rd.any rfl Bk AH rfl rfl) rfl (Qg (oF By rfl) rfl (Qg (oL rfl U3 (hcl)) rfl (Qg (AA rfl rfl) rfl (Qg (Du rfl rfl rfl) rfl (Qm rfl (Al ?_))))))));refine Av rfl (fun hs2=>?_) (fun hs2=>?_)
   ·refine Ac (Ad (Qm rfl (Qm rfl (Al (Ao (Ah ?_))))));exact Az rfl rfl (by rw[hat,if_pos hs2])
   ·refine Ag (Ab (Au (Qm rfl (Al (Ao ?_)))));exact Az rfl rfl (by rw[hat,if_neg hs2])
  ·rw[dif_neg (by omega)]at hat;refine Qk rfl (Qk rfl (Qk rfl (Qk rfl (Qk rfl (Qk rfl (Qk rfl (Qm rfl (Al (AM rfl (Ag (Ab (Au (Qm rfl (Al (Ao ?_)))))))))))))));exact Az rfl rfl (by rw[hat])
end Go.Proofs.Q

namespace Go.Proofs.Q
open Go.Eng Go.RowKit
def Bx(x:Cl)(i:Nat):Int×Int:=x.sd.getD i (0,0)
theorem Bp{x:Cl}{i:Nat}(hi:i<x.sd.length):Bx x i=x.sd[i]:=by simp[Bx,List.getD,hi]
def EJ(l:List Cl)(x:Cl)(i:Nat):Prop:=L3 l (Bx x i).1<0\/(l.getD (L3 l (Bx x i).1).toNat default).dim≠x.dim-1\/(0<i/\(Bx x i).1=(Bx x (i-1)).1)
instance (l:List Cl) (x:Cl) (i:Nat):Decidable (EJ l x i):=by unfold EJ;infer_instance
def Cj(x:Cl):Prop:=(x.dim=0/\0<x.sd.length)\/(x.dim=1/\x.sd.length≠2)\/(1<x.dim/\(x.sd.length<2\/64<x.sd.length))
instance (x:Cl):Decidable (Cj x):=by unfold Cj;infer_instance
def B9(x:Cl)(i:Nat):Prop:=(Bx x i).2≠1/\(Bx x i).2≠-1
instance (x:Cl) (i:Nat):Decidable (B9 x i):=by unfold B9;infer_instance
def Hq(l:List Cl)(x:Cl):Int:=
 if x.dim<0\/8<x.dim then 21
 else if Cj x then 22
 else if ¬∀i,i<x.sd.length->¬EJ l x i then 22
 else if ¬∀i,i<x.sd.length->¬B9 x i then 23
 else if x.dim=1/\(Bx x 0).2=(Bx x 1).2 then 23 else 0
theorem PF(l:List Cl)(x:Int):L3 l x<l.length:=by
 unfold L3;split
 ·split
  ·omega
  ·omega
 ·omega
def Hc(l:List Int)(x:Int):Nat:=(l.takeWhile fun y=>decide (y≠x)).length
theorem Tb(l:List Int)(x:Int):Hc l x<=l.length:=(List.takeWhile_sublist _).length_le
def IM(pa:List Int)(m:Nat)(now old:Int):List Int:=pa.mapIdx fun j p=>if j<m/\p=now then old else p
theorem KZ(pa:List Int)(m:Nat)(now old:Int):(IM pa m now old).length=pa.length:=by simp[IM]
theorem VX{pa:List Int}{m:Nat}{now old:Int}{j:Nat}(hj:j<pa.length):(IM pa m now old)[j]'(by rw[KZ];exact hj)=if j<m/\pa[j]=now then old else pa[j]:=by simp[IM]
structure S2 where
 ids:List Int
 su:List Int
 ma:List Int
 fi:List Int
 pa:List Int
def S2.add(S:S2)(i:Nat)(id:Int):S2:=if Hc S.ids id=S.ids.length then⟨S.ids++[id],S.su++[0],S.ma++[0],S.fi++[(i:Int)],S.pa⟩ else S
def S2.hit(S:S2)(i k:Nat)(w:Int):S2:=⟨S.ids,S.su.set k (S.su.getD k 0+w),S.ma.set k (S.ma.getD k 0+1),S.fi,IM S.pa (i+1) (S.pa.getD i 0) (S.pa.getD (S.fi.getD k 0).toNat 0)⟩
def S2.side(S:S2)(i:Nat)(w:Int)(r:Int×Int):S2:=(S.add i r.1).hit i (Hc S.ids r.1) (w*r.2)
def S2.sides(S:S2)(i:Nat)(w:Int)(l:List (Int×Int)):S2:=l.foldl (fun S r=>S.side i w r) S
def S2.start(S:S2)(i:Nat):S2:=⟨S.ids,S.su,S.ma,S.fi,S.pa.set i (i:Int)⟩
def KV(l:List Cl)(x:Cl)(i:Nat):Cl:=l.getD (L3 l (Bx x i).1).toNat default
def MV(l:List Cl)(x:Cl):Nat->S2
 | 0=>⟨[],[],[],[],replicate x.sd.length 0⟩
 | i+1=>((MV l x i).start i).sides i (Bx x i).2 (KV l x i).sd
def Jv(l:List Cl)(x:Cl):Int:=
 if ¬∀y∈(MV l x x.sd.length).su,y=0 then 24
 else if ¬∀y∈(MV l x x.sd.length).ma,y=2 then 25
 else if ¬∀y∈(MV l x x.sd.length).pa,y=(MV l x x.sd.length).pa.getD 0 0 then 25 else 0
theorem CF{β:Type}{e:Nat->Option β}:∀n,(∀b,b<n->e b=none)->(range n).findSome? e=none
 | 0,_=>rfl
 | n+1,h=>by rw[List.range_succ,List.findSome?_append,CF n fun b hb=>h b (by omega)];simp[h n (by omega)]
theorem Eb{β:Type}{e:Nat->Option β}{a:Nat}{x:β}(h:∀b,b<a->e b=none)(hx:e a=some x):∀n,a<n->(range n).findSome? e=some x
 | 0,ha=>by omega
 | n+1,ha=>by
  rw[List.range_succ,List.findSome?_append];rcases (by omega:a<n\/a=n) with h1|rfl
  ·rw[Eb h hx n h1];rfl
  ·rw[CF a h];simp[hx]
theorem U2:∀(l:List Cl) (p:Option Int),(∀h:0<l.length,p≠some l[0].id)->(∀i (hi:i+1<l.length),l[i].id≠l[i+1].id)->uq p l=l
 | [],_,_,_=>rfl
 | a::l,p,h0,h=>by
  unfold uq
  rw[if_neg (show p≠some a.id from h0 (by simp)),U2 l _ (fun hl=>by
   have:=h 0 (by simp;omega)
   simpa using this) (fun i hi=>by
   have:=h (i+1) (by simp;omega)
   simpa using this)]
theorem Jj{l:List Cl}{x:Cl}(h:Hq l x=0):(0<=x.dim/\x.dim<=8)/\x.sd.length<=64/\(∀i,i<x.sd.length->¬EJ l x i)/\∀i,i<x.sd.length->¬B9 x i:=by
 unfold Hq at h;split at h
 ·omega
 ·rename_i h1;split at h
  ·omega
  ·rename_i h2;split at h
   ·omega
   ·rename_i h3;split at h
    ·omega
    ·rename_i h4;refine⟨by omega,?_,Classical.not_not.1 h3,Classical.not_not.1 h4⟩;unfold Cj at h2;omega
theorem HH{l:List Cl}{c:Cl}(h:c∈ordF l):∃a∈l,c=a.can:=by have:=(De l.length l (Nat.le_refl _)).mem_iff.1 h;obtain⟨a,ha,e⟩:=List.mem_map.1 this;exact⟨a,ha,e.symm⟩
open Go.Proofs.Tryz
def GJ:List Int->List Int->Bool
 | x::a,y::b=>if x=y then GJ a b else decide (x<y)
 | _,_=>false
def C3(a b:List Int):Bool:=if a.length≠b.length then decide (a.length<b.length) else GJ a b
theorem NL(a b:List Int)(va vb:Value)(h:Hp)(hA:RdL cI 1 h [] va a)(hB:RdL cI 1 h [] vb b)(ms:List Hp):FnV Tryz.prog 208 #[va,vb] h ms (.bool (C3 a b)):=by
 refine Gf ?_ ms;have o1:=hA.rd.one;have o2:=hB.rd.one;have la:=hA.len_le;have lb:=hB.len_le;refine Ap func208 ntmps208 rfl rfl (fun w0 hw0=>?_);simp only[AU];refine Au (Qm rfl (Al (Ac (Au (Qm rfl (Qx (Ar hA.rd.any rfl AR rfl) rfl (Qm rfl (Qx (Ar hB.rd.any rfl AR rfl) rfl (Qm rfl (Al ?_))))))))));refine Av rfl (fun h1=>?_) (fun h1=>?_)
 ·refine Ac (Ad (Qm rfl (Qx (Ar hA.rd.any rfl AR rfl) rfl (Qm rfl (Qx (Ar hB.rd.any rfl AR rfl) rfl (Qm rfl (Qm rfl (Al (Ao (Ah ?_))))))))));exact Az rfl rfl (by unfold C3;rw[if_pos (by omega)];exact congrArg Value.bool (decide_eq_decide.2 (by omega)))
 ·have hl:a.length=b.length:=by omega
  have hbf:C3 a b=GJ a b:=by unfold C3;rw[if_neg (fun q=>q hl)]
  refine Ag (Ab (Ac (Au (Qm rfl (Al (Af ?_))))))
  refine Ax (fun q s h' ms'=>∃(i:Nat),q=a.length-i/\s=[(0,va),(1,vb),(5,.int .i64 i)]/\h=h'/\ms'=[]/\i<=a.length/\GJ a b=GJ (a.drop i) (b.drop i))
   (a.length-0) _ ⟨0,rfl,rfl,rfl,rfl,by omega,rfl⟩ Qs ?_
  rintro q s h' ms' ⟨i,rfl,rfl,rfl,rfl,hi,he⟩;refine Ac (Au (Qm rfl (Qm rfl (Qx (Ar hA.rd.any rfl AR rfl) rfl (Qm rfl (Al ?_))))));refine Av rfl (fun hlt=>?_) (fun hlt=>?_)
  ·have hia:i<a.length:=EI hlt;have hib:i<b.length:=by omega
   have hca:Cell h [] ((AF va).add (i*1)) (.int .i64 a[i]):=hA.cell0 hia rfl;have hcb:Cell h [] ((AF vb).add (i*1)) (.int .i64 b[i]):=hB.cell0 hib rfl
   have hd:GJ (a.drop i) (b.drop i)=if a[i]=b[i] then GJ (a.drop (i+1)) (b.drop (i+1)) else decide (a[i]<b[i]):=by rw[List.drop_eq_getElem_cons hia,List.drop_eq_getElem_cons hib];rfl
   refine Ag (Ab (Ac (Af (Ac (Bg 8 CY (by kernel_rfl) rfl (Wm rfl (Wm rfl (AP (BU (i) hA.rd.any rfl AR Be rfl rfl) rfl rfl (Wl rfl U3 (hca) (Wm rfl (Wm rfl (AP (BU (i) hB.rd.any rfl AR Be rfl rfl) rfl rfl (Wl rfl U3 (hcb) (Bc (Qm rfl (Al ?_))))))))))))))));refine Av rfl (fun h2=>?_) (fun h2=>?_)
   ·refine Ac (Bg 8 CY (by kernel_rfl) rfl (Wm rfl (Wm rfl (AP (BU (i) hA.rd.any rfl AR Be rfl rfl) rfl rfl (Wl rfl U3 (hca) (Wm rfl (Wm rfl (AP (BU (i) hB.rd.any rfl AR Be rfl rfl) rfl rfl (Wl rfl U3 (hcb) (Bc (Qm rfl (Qm rfl (Al (Ao (Am (Ah (Ah (Am (Ah ?_)))))))))))))))))));exact Az rfl rfl (by rw[hbf,he,hd,if_neg h2])
   ·have h2:a[i]=b[i]:=Classical.byContradiction fun q=>h2 q;refine Ag (Ai (Ab (Ad (Qm rfl (Qx (oA rfl) rfl (Qm rfl (Aj ?_)))))));exact Ak (a.length-(i+1)) _ (by omega) ⟨i+1,rfl,rfl,rfl,rfl,by omega,by rw[he,hd,if_pos h2]⟩ Qs
  ·obtain rfl:i=a.length:=by omega
   refine As (Aa (Aa (Ae (Ab (Au (Qm rfl (Al (Ao ?_))))))));exact Az rfl rfl (by rw[hbf,he,List.drop_length];rfl)
def Jo(x:Int)(l:List Int):List Int:=l.takeWhile (fun y=>decide (y<x))++x::l.dropWhile (fun y=>decide (y<x))
def Lg(x:Int)(l:List Int):Prop:=(l.dropWhile fun y=>decide (y<x)).head?=some x
instance (x:Int) (l:List Int):Decidable (Lg x l):=by unfold Lg;infer_instance
def DF:List Int->List Int->Option (List Int)
 | acc,[]=>some acc
 | acc,x::l=>if Lg x acc then DF acc l else if x<0\/9<(Jo x acc).length then none else DF (Jo x acc) l
theorem Td{x:Int}{l:List Int}{k:Nat}(hk:k<=l.length)(h1:∀j (hj:j<l.length),j<k->l[j]<x)(h2:∀hk:k<l.length,¬l[k]<x):Jo x l=l.take k++x::l.drop k/\(Lg x l<->∃h:k<l.length,l[k]=x):=by
 obtain⟨e1,e2⟩:=EU (fun y:Int=>decide (y<x)) l k hk (fun j hj hjk=>decide_eq_true (h1 j hj hjk)) (fun hk=>decide_eq_false (h2 hk));unfold Jo Lg;rw[e1,e2];refine⟨rfl,?_⟩;rw[List.head?_drop];by_cases hkl:k<l.length
 ·rw[List.getElem?_eq_getElem hkl];exact⟨fun q=>⟨hkl,Option.some.inj q⟩,fun⟨_,q⟩=>by rw[q]⟩
 ·rw[List.getElem?_eq_none (by omega)];exact⟨fun q=>(nomatch q),fun⟨q,_⟩=>absurd q hkl⟩
theorem No(x:Int)(l:List Int):(Jo x l).length=l.length+1:=by unfold Jo;have:=congrArg List.length (List.takeWhile_append_dropWhile (p:=fun y:Int=>decide (y<x)) (l:=l));rw[length_append]at this;rw[length_append,length_cons];omega
def Z4(r:Value)(ms:List Hp):Option (List Int)->Prop
 | some l=>∃v m,ms=[m]/\r=.tuple #[v,.bool true]/\OwnL cI 1 3 m v l
 | none=>r=.tuple #[.slice none 0 0,.bool false]
theorem Zi(l:List Int)(v:Value)(h:Hp)(hl:l.length<=100000)(hR:RdL cI 1 h [] v l):FnT Tryz.prog 168 #[v] h [] (fun r h' ms'=>h=h'/\Z4 r ms' (DF [] l)):=by
 have o1:=hR.rd.one;refine Ap func168 ntmps168 rfl rfl (fun w0 hw0=>?_);simp only[AU];refine Au (Qm rfl (Qm rfl (BL (Qm rfl (Al (Ac (Au (Qm rfl (Al (Af (BG ?_)))))))))))
 refine Ax (fun q s h' ms'=>∃(i:Nat) (vo:Value) (mo:Hp) (acc:List Int),q=l.length-i/\s=[(0,v),(4,vo),(5,.int .i64 i)]/\h=h'/\ms'=[mo]/\i<=l.length/\acc.length<=9/\OwnL cI 1 3 mo vo acc/\DF [] l=DF acc (l.drop i))
  (l.length-0) _ ⟨0,_,Hp.emp,[],rfl,rfl,rfl,rfl,by omega,by simp,OwnL.nil Bl,rfl⟩ Qs ?_
 rintro q s h' ms' ⟨i,vo,mo,acc,rfl,rfl,rfl,rfl,hi,ha9,hO,he⟩;refine Ac (Au (Qm rfl (Qm rfl (Qx (Ar hR.rd.any rfl AR rfl) rfl (Qm rfl (Al ?_))))));refine Av rfl (fun hlt=>?_) (fun hlt=>?_)
 ·have hil:i<l.length:=EI hlt;have hcl:=hO.rd (h:=h) (ms:=[mo]) Mh;have ovo:vo.oneCell'=true:=hcl.rd.one;have hci:∀ms,Cell h ms ((AF v).add (i*1)) (.int .i64 l[i]):=fun ms=>(hR.any (ms:=ms)).cell0 hil rfl;have hd:DF acc (l.drop i)=if Lg l[i] acc then DF acc (l.drop (i+1)) else if l[i]<0\/9<(Jo l[i] acc).length then none else DF (Jo l[i] acc) (l.drop (i+1)):=by rw[List.drop_eq_getElem_cons hil];rfl
  rw[hd]at he;refine Ag (Ab (Ac (Af (Au (Qm rfl (Al ?_))))));refine Bb (fun s h' ms'=>∃(k:Nat),s=[(0,v),(4,vo),(5,.int .i64 i),(6,.int .i64 k)]/\h=h'/\ms'=[mo]/\k<=acc.length/\Jo l[i] acc=acc.take k++l[i]::acc.drop k/\(Lg l[i] acc<->∃h:k<acc.length,acc[k]=l[i])) ?_ (fun s h ms hI=>?_)
  ·refine Af ?_
   refine Ax (fun q s h' ms'=>∃(k:Nat),q=acc.length-k/\s=[(0,v),(4,vo),(5,.int .i64 i),(6,.int .i64 k)]/\h=h'/\ms'=[mo]/\k<=acc.length/\∀j (hj:j<acc.length),j<k->acc[j]<l[i])
    (acc.length-0) _ ⟨0,rfl,rfl,rfl,rfl,by omega,fun j hj h=>by omega⟩ Qs ?_
   rintro q s h' ms' ⟨k,rfl,rfl,rfl,rfl,hk,hlo⟩;refine Ac (Ac (Bg 13 CY (by kernel_rfl) rfl (Wm rfl (Wm rfl (AP (Ar hcl.rd rfl AR rfl) rfl rfl (Wm rfl (Wm rfl ?_)))))));refine Dm (t:=18) rfl (fun hs1=>?_) (fun hs1=>?_)
   ·have hkl:k<acc.length:=EI hs1;have hck:Cell h [mo] ((AF vo).add (k*1)) (.int .i64 acc[k]):=hcl.cell0 hkl rfl;refine AN (AA rfl rfl) rfl rfl rfl rfl (AN (AA rfl rfl) rfl rfl rfl rfl (AN (BU (k) hcl.rd rfl AR Be rfl rfl) rfl rfl rfl rfl (AN (oL rfl U3 (hck)) rfl rfl rfl rfl (AN (AA rfl rfl) rfl rfl rfl rfl (AN (AA rfl rfl) rfl rfl rfl rfl (AN (BU (i) hR.rd.any rfl AR Be rfl rfl) rfl rfl rfl rfl (AN (oL rfl U3 (hci _)) rfl rfl rfl rfl (Bc (Qg (CZ rfl rfl rfl) rfl (Qm rfl (Al ?_)))))))))));refine Av rfl (fun hs2=>?_) (fun hs2=>?_)
    ·refine Ag (Ab (Af (Ad (Qm rfl (Qx (oA rfl) rfl (Qm rfl (Aj (Ai ?_))))))))
     exact Ak (acc.length-(k+1)) _ (by omega) ⟨k+1,rfl,rfl,rfl,rfl,by omega,fun j hj h=>by
      rcases (by omega:j<k\/j=k) with h1|rfl
      ·exact hlo j hj h1
      ·exact hs2⟩ Qs
    ·refine As (Aa (Aa (Ae ?_)));exact AC _ ⟨k,rfl,rfl,rfl,hk,Td hk hlo fun _=>hs2⟩ Qs
   ·have hkl:k=acc.length:=by omega
    refine AG rfl rfl rfl rfl rfl (AG rfl rfl rfl rfl rfl (AG rfl rfl rfl rfl rfl (AG rfl rfl rfl rfl rfl (AG rfl rfl rfl rfl rfl (AG rfl rfl rfl rfl rfl (AG rfl rfl rfl rfl rfl (AG rfl rfl rfl rfl rfl (Bc (Qk rfl (Qm rfl (Al (AM rfl (As (Aa (Aa (Ae ?_))))))))))))))));exact AC _ ⟨k,rfl,rfl,rfl,hk,Td hk hlo fun h=>absurd h (by omega)⟩ Qs
  ·obtain⟨k,rfl,rfl,rfl,hk,hins,hhas⟩:=hI;have hil2:=No l[i] acc;refine Bb (fun s h' ms'=>s=[(0,v),(4,vo),(5,.int .i64 i),(6,.int .i64 k)]/\h=h'/\ms'=[mo]/\¬Lg l[i] acc) ?_ (fun s h ms hI=>?_)
   ·refine Ac (Bg 13 CY (by kernel_rfl) rfl (Wm rfl (Wm rfl (AP (Ar hcl.rd rfl AR rfl) rfl rfl (Wm rfl (Wm rfl ?_))))));refine Dm (t:=35) rfl (fun g1=>?_) (fun g1=>?_)
    ·have hkl:k<acc.length:=EI g1;have hck:Cell h [mo] ((AF vo).add (k*1)) (.int .i64 acc[k]):=hcl.cell0 hkl rfl;refine AN (AA rfl rfl) rfl rfl rfl rfl (AN (AA rfl rfl) rfl rfl rfl rfl (AN (BU (k) hcl.rd rfl AR Be rfl rfl) rfl rfl rfl rfl (AN (oL rfl U3 (hck)) rfl rfl rfl rfl (AN (AA rfl rfl) rfl rfl rfl rfl (AN (AA rfl rfl) rfl rfl rfl rfl (AN (BU (i) hR.rd.any rfl AR Be rfl rfl) rfl rfl rfl rfl (AN (oL rfl U3 (hci _)) rfl rfl rfl rfl (Bc (Qg (Du rfl rfl rfl) rfl (Qm rfl (Al ?_)))))))))));refine Av rfl (fun g2=>?_) (fun g2=>?_)
     ·rw[if_pos (hhas.2 ⟨hkl,g2⟩)]at he;refine As (Aa (Ae (Ab (Ad (Qm rfl (Qx (oA rfl) rfl (Qm rfl (Aj ?_))))))));exact Ak (l.length-(i+1)) _ (by omega) ⟨i+1,vo,mo,acc,rfl,rfl,rfl,rfl,by omega,ha9,hO,he⟩ Qs
     ·refine Ag ?_;exact AC _ ⟨rfl,rfl,rfl,fun q=>g2 (hhas.1 q).2⟩ Qs
    ·refine AG rfl rfl rfl rfl rfl (AG rfl rfl rfl rfl rfl (AG rfl rfl rfl rfl rfl (AG rfl rfl rfl rfl rfl (AG rfl rfl rfl rfl rfl (AG rfl rfl rfl rfl rfl (AG rfl rfl rfl rfl rfl (AG rfl rfl rfl rfl rfl (Bc (Qk rfl (Qm rfl (Al (AM rfl (Ag ?_)))))))))))));exact AC _ ⟨rfl,rfl,rfl,fun q=>absurd (hhas.1 q).1 (by omega)⟩ Qs
   ·obtain⟨rfl,rfl,rfl,hnh⟩:=hI;rw[if_neg hnh]at he;refine Ac (Bg 8 CY (by kernel_rfl) rfl (Wm rfl (Wm rfl (AP (BU (i) hR.rd.any rfl AR Be rfl rfl) rfl rfl (Wl rfl U3 (hci _) (UF (Ev [_] rfl AR Be rfl (by rfl) rfl rfl (by omega)) rfl rfl (Wm rfl (Wm rfl (AP (CA (k) hcl.rd rfl AR Be rfl rfl (by omega) (by omega)) rfl rfl (HJ (fun g50=>AQ 0 (OwnL.blk (g:=g50) (el:=3) (F:=cI) (l:=[l[i]]) 1 Bl rfl (by decide)) ((hO.rd (h:=h) (List.Mem.tail _ Mh)).sub_ hk (Nat.le_refl _)) rfl AR Be rfl (by omega) rfl rfl rfl Cm (by(try simp only[length_singleton,length_nil,length_append,length_take,length_drop,nil_append]);omega) (by(try simp only[length_singleton,length_nil,length_append,length_take,length_drop,nil_append]);omega) rfl rfl rfl (fun v6 m6 hO6=>?_))))))))))));have ov6:=hO6.o1;refine Qm rfl (BL ?_);refine Aq [] [] [] rfl AR Be rfl (by omega) (by kernel_rfl) (by repeat (first|exact trivial|refine⟨⟨by first|rfl|exact(hcl.rd).cells|exact Rd.cells ‹_›|exact(RdL.rd ‹_›).cells,rfl,rfl⟩,?_⟩)) rfl rfl rfl rfl (fun g55=>?_);refine Qm rfl (Qm rfl (Qx (Eo (k) hcl.rd rfl AR Be rfl rfl (by omega) (by omega)) rfl (AQ 0 (FN g55 Bl) ((hO.rd (h:=h) (List.Mem.tail _ (List.Mem.tail _ Mh))).sub_ (Nat.zero_le _) hk) rfl AR Be rfl (by omega) rfl rfl rfl Cm (by(try simp only[length_singleton,length_nil,length_append,length_take,length_drop,nil_append]);omega) (by(try simp only[length_singleton,length_nil,length_append,length_take,length_drop,nil_append]);omega) rfl rfl rfl (fun v7 m7 hO7=>Qm rfl (AQ 0 hO7 (hO6.rd (h:=h) (List.Mem.tail _ Mh)) rfl AR Be rfl (by omega) rfl rfl rfl Cm (by(try simp only[length_singleton,length_nil,length_append,length_take,length_drop,nil_append]);omega) (by(try simp only[length_singleton,length_nil,length_append,length_take,length_drop,nil_append]);omega) rfl rfl rfl (fun v8 m8 hO8=>?_))))))
    have heq:[]++(acc.drop 0).take (k-0)++([l[i]]++(acc.drop k).take (acc.length-k))=Jo l[i] acc:=by rw[hins,drop_zero,Nat.sub_zero,List.take_of_length_le (l:=acc.drop k) (by rw[length_drop];omega)];rfl
    rw[heq]at hO8;have ov8:=hO8.o1;refine Qm rfl (Al (Yk (Goes.perm (List.perm_append_comm (l₁:=[m8]) (l₂:=[m6,mo]))) ?_));refine TP (TP ?_);refine Au (Qm rfl (Qm rfl (Qx (BU (i) hR.rd.any rfl AR Be rfl rfl) rfl (Ql rfl U3 (hci _) (Qm rfl (Qm rfl ?_))))));refine AS (t:=67) rfl (fun g3=>?_) (fun g3=>?_)
    ·rw[if_pos (.inl g3)]at he;refine Qk rfl (Qk rfl (Qk rfl (Qm rfl (Al (B3 rfl (Au (Qm rfl (Qm rfl (Al (Ao (Am (Ah (Ah (Am (Ah ?_)))))))))))))));exact BP rfl rfl rfl (⟨rfl,by rw[he];rfl⟩)
    ·refine Qg (AA rfl rfl) rfl (Qg (DO (hO8.rd (h:=h) (ms:=[m8]) Mh).rd rfl AR rfl) rfl (Qg (CK rfl rfl rfl) rfl (Qm rfl (Al ?_))));refine Av rfl (fun g4=>?_) (fun g4=>?_)
     ·rw[if_pos (.inr (by omega))]at he;refine Au (Qm rfl (Qm rfl (Al (Ao (Am (Ah (Ah (Am (Ah ?_)))))))));exact BP rfl rfl rfl (⟨rfl,by rw[he];rfl⟩)
     ·rw[if_neg (by omega)]at he;refine Ag (Ai (Ab (Ad (Qm rfl (Qx (oA rfl) rfl (Qm rfl (Aj ?_)))))));exact Ak (l.length-(i+1)) _ (by omega) ⟨i+1,v8,m8,_,rfl,rfl,rfl,rfl,by omega,by omega,hO8,he⟩ Qs
 ·have hie:i=l.length:=by omega
  rw[hie,List.drop_length]at he;have he:DF [] l=some acc:=he;refine As (Aa (Aa (Ae (Ab (Au (Qm rfl (Qm rfl (Qm rfl (Al (Ao ?_))))))))));exact BP rfl rfl rfl (⟨rfl,by rw[he];exact⟨vo,mo,rfl,rfl,hO⟩⟩)
def cW(v:Value):List Value:=[v]
theorem Dl:∀v,(cW v).length=1:=fun _=>rfl
def RdEs(h:Hp)(es:List Value)(ll:List (List Int)):Prop:=es.length=ll.length/\∀i (h1:i<es.length) (h2:i<ll.length),RdL cI 1 h [] es[i] ll[i]
theorem RdEs.up{h h':Hp}{es:List Value}{ll:List (List Int)}(R:RdEs h es ll)(l:h.le h'):RdEs h' es ll:=⟨R.1,fun i h1 h2=>(R.2 i h1 h2).up l⟩
def Dw(ll:List (List Int))(s:List Int):Nat:=(ll.takeWhile fun t=>C3 t s).length
def CG(ll:List (List Int))(s:List Int):Nat×Bool:=(Dw ll s,match ll[Dw ll s]? with|some t=>!C3 s t|none=>false)
theorem Xo{ll:List (List Int)}{s:List Int}{k:Nat}(hk:k<=ll.length)(h1:∀j (hj:j<ll.length),j<k->C3 ll[j] s=true)(h2:∀hk:k<ll.length,C3 ll[k] s=false):Dw ll s=k:=by obtain⟨e1,_⟩:=EU (fun t=>C3 t s) ll k hk h1 h2;unfold Dw;rw[e1,length_take];omega
theorem Qj(ll:List (List Int))(s:List Int)(es:List Value)(v vs:Value)(h:Hp)(hn:ll.length<=1000000)(hm:∀i j (hi:i<ll.length) (hj:j<ll.length),i<=j->C3 ll[j] s=true->C3 ll[i] s=true)(hV:RdL cW 1 h [] v es)(hE:RdEs h es ll)(hS:RdL cI 1 h [] vs s)(ms:List Hp):FnV Tryz.prog 169 #[v,vs] h ms (.tuple #[.int .i64 (CG ll s).1,.bool (CG ll s).2]):=by
 refine Gf ?_ ms;have o1:=hV.rd.one;have o2:=hS.rd.one;have hle:=hE.1;refine Ap func169 ntmps169 rfl rfl (fun w0 hw0=>?_);simp only[AU];refine Au (Qm rfl (Qm rfl (BL (Qm rfl (BL (Qm rfl (Qx (Ar hV.rd.any rfl B7 rfl) rfl (Qm rfl (Al (Ac (Af ?_)))))))))))
 refine Ax (fun q sl h' ms'=>∃(lo hi:Nat),q=hi-lo/\sl=[(0,v),(1,vs),(6,.int .i64 lo),(7,.int .i64 hi)]/\h=h'/\ms'=[]/\lo<=hi/\hi<=ll.length/\(∀j (hj:j<ll.length),j<lo->C3 ll[j] s=true)/\∀j (hj:j<ll.length),hi<=j->C3 ll[j] s=false)
  (ll.length-0) _ ⟨0,ll.length,rfl,by rw[<-hle],rfl,rfl,by omega,by omega,fun j hj h=>by omega,fun j hj h=>by omega⟩ Qs ?_
 rintro q sl h' ms' ⟨lo,hi,rfl,rfl,rfl,rfl,hlh,hhl,hlo,hhi⟩;refine Ac (Au (Qm rfl (Qm rfl (Qm rfl (Al ?_)))));refine Av rfl (fun hlt=>?_) (fun hlt=>?_)
 ·obtain⟨m,hmm⟩:∃m,(lo+hi)/2=m:=⟨_,rfl⟩
  have hml:m<ll.length:=by omega
  have hme:m<es.length:=by omega
  have hmt:((lo:Int)+hi)/2=(m:Int):=by omega
  have hcm:Cell h [] ((AF v).add (m*1)) es[m]:=hV.cell0 hme rfl;have oem:=(hE.2 m hme hml).rd.one;refine Ag (Ab (Af (Au (Qm rfl (Qm rfl (Qx (oA rfl) rfl (Qx (FX rfl rfl rfl (by omega) (by omega)) rfl (Qm rfl (Al ?_)))))))));rw[hmt];refine Au (Qm rfl (Qm rfl (Qx (BU (m) hV.rd.any rfl B7 Cb rfl rfl) rfl (Ql rfl AR (hcm) (Qm rfl (Qx (AO rfl call208 rfl (NL ll[m] s _ _ h (hE.2 m hme hml) hS _)) rfl (Al ?_)))))));refine Bu rfl (fun hb=>?_) (fun hb=>?_)
  ·refine Ad (Qm rfl (Qx (oA rfl) rfl (Qm rfl (Aj (Ai ?_)))));exact Ak (hi-(m+1)) _ (by omega) ⟨m+1,hi,rfl,rfl,rfl,rfl,by omega,by omega,fun j hj h=>hm j m hj hml (by omega) hb,hhi⟩ Qs
  ·refine Ad (Qm rfl (Qm rfl (Aj (Ai ?_))))
   exact Ak (m-lo) _ (by omega) ⟨lo,m,rfl,rfl,rfl,rfl,by omega,by omega,hlo,fun j hj h=>by
    cases hq:C3 ll[j] s with
    | false=>rfl
    | true=>rw[hm m j hml hj h hq]at hb;cases hb⟩ Qs
 ·obtain rfl:lo=hi:=by omega
  have hcnt:Dw ll s=lo:=Xo hhl hlo fun hk=>hhi lo hk (Nat.le_refl _);have hp1:(CG ll s).1=lo:=hcnt;refine As (Aa (Aa (Ae (Ab (Au (Qm rfl (Qm rfl (Qm rfl (Qx (Ar hV.rd.any rfl B7 rfl) rfl (Qm rfl (Qm rfl ?_)))))))))));refine AS (t:=32) rfl (fun g1=>?_) (fun g1=>?_)
  ·have hll:lo<ll.length:=by omega
   have hle2:lo<es.length:=by omega
   have hcl:Cell h [] ((AF v).add (lo*1)) es[lo]:=hV.cell0 hle2 rfl;have oel:=(hE.2 lo hle2 hll).rd.one;have hp2:(CG ll s).2=!C3 s ll[lo]:=by unfold CG;rw[hcnt,List.getElem?_eq_getElem hll]
   refine Qg (AA rfl rfl) rfl (Qg (AA rfl rfl) rfl (Qg (AA rfl rfl) rfl (Qg (BU (lo) hV.rd.any rfl B7 Cb rfl rfl) rfl (Qg (oL rfl AR (hcl)) rfl (Qg (AO rfl call208 rfl (NL s ll[lo] _ _ h hS (hE.2 lo hle2 hll) _)) rfl (Qg (GL rfl rfl) rfl (Qm rfl (Qm rfl (Qm rfl (Al (Ao ?_)))))))))));exact BP rfl rfl rfl (by rw[hp1,hp2])
  ·have hp2:(CG ll s).2=false:=by unfold CG;rw[hcnt,List.getElem?_eq_none (by omega)]
   refine Qk rfl (Qk rfl (Qk rfl (Qk rfl (Qk rfl (Qk rfl (Qk rfl (Qm rfl (Qm rfl (Qm rfl (Al (Ao ?_)))))))))));exact BP rfl rfl rfl (by rw[hp1,hp2])
end Go.Proofs.Q
