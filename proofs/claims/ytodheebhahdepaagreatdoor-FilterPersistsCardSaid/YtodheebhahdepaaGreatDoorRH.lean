/- A part of the proof. -/
import Derived.Test.YtodheebhahdepaaGreatDoorRG
import Derived.Laws.StructEq
import Derived.ChangeKeysEq
set_option linter.unusedSimpArgs false
set_option linter.unusedVariables false
set_option linter.unusedSectionVars false
set_option maxRecDepth 100000
set_option maxHeartbeats 4000000
open List (length_map length_singleton getElem_mem replicate range length_append nil_append length_take mem_cons cons_append map_append mem_cons_of_mem append_nil map_map take_length length_cons length_range filter_cons)
namespace Go.Proofs.Q
open Go.Proofs.Tryz
open Go.Eng Go.RowKit Go.Lin
theorem Tn(n p:Int)(h:Hp)(hp:2<=p/\p<=997)(hn:0<=n/\n<p):FnT Tryz.prog 89 #[.int .i64 n,.int .i64 p] h [] (fun r _ _=>r=.int .i64 (Fv p n)):=by
 refine Aq func89 ntmps89 Y Y (fun w0 hw0=>?_);simp only[AW];refine Ar (Qm Y (Am (Ac (Ar (Qm Y (Am (Ag ?_)))))))
 refine Aw (fun q sl h' ms'=>∃(k:Nat),q=p.toNat-k/\sl=[(0,.int .i64 n),(1,.int .i64 p),(5,.int .i64 k)]/\h=h'/\ms'=[]/\1<=k/\(k:Int)<=p/\∀j:Nat,1<=j->j<k->n*(j:Int)%p≠1)
  (p.toNat-1) _ ⟨1,rfl,rfl,rfl,rfl,by omega,by omega,fun j h1 h2=>by omega⟩ Qs ?_
 rintro q sl h' ms' ⟨k,rfl,rfl,rfl,rfl,h1,hk,hno⟩;have hnk:0<=n*(k:Int)/\n*(k:Int)<=997*997:=⟨Int.mul_nonneg hn.1 (by omega),Int.mul_le_mul (by omega) (by omega) (by omega) (by omega)⟩
 refine Ac (Ar (Qm Y (Qm Y (Qm Y (Am ?_)))));refine Ap Y (fun hlt=>?_) (fun hlt=>?_)
 ·refine Ah (Ab (Ac (Ag (Ar (Qm Y (Qm Y (Qx (oM Y) Y (Qm Y (Qx (BO Y Y Y (by omega) (by omega)) Y (Qm Y (Am ?_)))))))))));refine Ap Y (fun he=>?_) (fun he=>?_)
  ·refine Ac (Ad (Qm Y (Qm Y (Am (An (Aj (Ae (Ae (Aj (Ae ?_))))))))));exact Av Y Y (by rw[K3 h1 hlt he hno])
  ·refine Ah (Ai (Ab (Ad (Qm Y (Qx (oA Y) Y (Qm Y (Al ?_)))))));refine Ak (p.toNat-(k+1)) _ (by omega) ⟨k+1,Y,Y,Y,Y,by omega,by omega,fun j h3 h4=>?_⟩ Qs;rcases (by omega:j<k\/j=k) with h5|rfl
   ·exact hno j h3 h5
   ·exact he
 ·have hkp:(k:Int)=p:=by omega
  refine As (Aa (Aa (Af (Ab (Ar (Qm Y (Am (An ?_))))))));exact Av Y Y (by rw[K5 fun j h3 h4=>hno j h3 (by omega)])
theorem Xb(n p:Int)(h:Hp)(hp:2<=p/\p<=997)(hn:0<=n/\n<p)(ms:List Hp):FnV Tryz.prog 89 #[.int .i64 n,.int .i64 p] h ms (.int .i64 (Fv p n)):=EO (Tn n p h hp hn) ms
theorem T3(p:Int)(n:Nat)(F:Nat->Nat->Int)(ev:Value)(j:Nat)(h:Hp)(hR:RdL cI 1 h [] ev (CI n n F))(hn:n<=400)(hj:j<n):FnT Tryz.prog 88 #[.agg #[.int .i64 p,.int .i64 n,.int .i64 n,ev],.int .i64 j] h [] (fun r _ _=>r=.int .i64 (AX (FB n fun i=>F i j))):=by
 have o1:=hR.rd.one;refine Aq func88 ntmps88 Y Y (fun w0 hw0=>?_);simp only[AW];refine Ar (AV [_,_,_,_] Y Y (by rfl) Y Y Y (fun g2=>Qm Y (Am (Az fun h1 l1 hS=>?_))));have hR:=hR.up l1;have e1:∀ms,Cell h1 ms (⟨g2,1,none⟩:Addr) (.int .i64 n):=fun ms=>Seg.all hS 1 _ Y ms;have e2:∀ms,Cell h1 ms (⟨g2,2,none⟩:Addr) (.int .i64 n):=fun ms=>Seg.all hS 2 _ Y ms;have e3:∀ms,Cell h1 ms (⟨g2,3,none⟩:Addr) ev:=fun ms=>Seg.all hS 3 _ Y ms;refine Ac (Ar (Qf Jy Y (Ql Y U3 (e1 _) (Qx (oS Y) Y (Qm Y (Am (Ag ?_)))))))
 refine Aw (fun q sl h' ms'=>∃(k:Nat) (y:Int),k=q/\sl=[(1,.int .i64 j),(2,.pointer (some ⟨g2,0,none⟩)),(5,.int .i64 y)]/\h1=h'/\ms'=[]/\y=(k:Int)-1/\k<=n/\∀i (hi:i<(FB n fun i=>F i j).length),k<=i->(FB n fun i=>F i j)[i]=0)
  n _ ⟨n,(n:Int)-1,rfl,rfl,rfl,rfl,rfl,by omega,fun i hi h=>by rw[Cd]at hi;omega⟩ Qs ?_
 rintro q sl h' ms' ⟨k,y,rfl,rfl,rfl,rfl,hy,hk,hz⟩;refine Ac (Ar (Qm Y (Qm Y (Am ?_))));refine Ap Y (fun hge=>?_) (fun hge=>?_)
 ·have hk1:k-1<n:=by omega
  have c0:∀ms,Cell h1 ms ((AE ev).add (((k-1)*n+j)*1)) (.int .i64 (F (k-1) j)):=fun ms=>(hR.any (ms:=ms)).ent hk1 hj;have hix:=Gg hk1 hj;have hnn:n*n<=160000:=by have:=Nat.mul_le_mul hn hn;omega
  have hml:(CI n n F).length=n*n:=Cy _ _ _;have hcast:((((k-1)*n+j:Nat)):Int)=y*(n:Int)+j:=by rw[Int.natCast_add,Int.natCast_mul,show((k-1:Nat):Int)=y by omega]
  have hyn:0<=y*(n:Int):=Int.mul_nonneg (by omega) (by omega);refine Ah (Ab (Ac (Ag (Ar (Qf Di Y (Ql Y AU (e3 _) (Qm Y (Qf Ia Y (Ql Y U3 (e2 _) (Qx (oM Y) Y (Qm Y (Qx (oA Y) Y (Qx (AB (((k-1)*n+j)) hR.rd.any Y AU A5 Y Y (by omega) (by omega)) Y (Ql Y U3 (c0 _) (Qm Y (Am ?_))))))))))))))));refine Ap Y (fun hne=>?_) (fun hne=>?_)
  ·have hl:AX (FB n fun i=>F i j)=y:=by refine Il (.inl ⟨k-1,by rw[Cd];exact hk1,by omega,by rw[Kk hk1];exact hne,fun i hi hlt=>hz i hi (by omega)⟩)
   refine Ar (Qm Y (Qm Y (Am (An (Aj (Ae (Ae (Aj (Ae ?_)))))))));exact Av Y Y (by rw[hl])
  ·refine Ah (Ai (Ab (Ad (Qm Y (Qx (oS Y) Y (Qm Y (Al ?_)))))));refine Ak (k-1) _ (by omega) ⟨k-1,y-1,Y,Y,Y,Y,by omega,by omega,fun i hi hle=>?_⟩ Qs;rcases (by omega:k<=i\/i=k-1) with h1|rfl
   ·exact hz i hi h1
   ·rw[Kk hk1];exact Classical.not_not.1 hne
 ·have hl:AX (FB n fun i=>F i j)=-1:=Il (.inr ⟨Y,fun i hi=>hz i hi (by omega)⟩);refine As (Aa (Aa (Af (Ab (Ar (Qm Y (Am (An ?_))))))));exact Av Y Y (by rw[hl])
theorem Lu(p:Int)(n:Nat)(F:Nat->Nat->Int)(ev:Value)(j:Nat)(h:Hp)(hR:RdL cI 1 h [] ev (CI n n F))(hn:n<=400)(hj:j<n)(ms:List Hp):FnV Tryz.prog 88 #[.agg #[.int .i64 p,.int .i64 n,.int .i64 n,ev],.int .i64 j] h ms (.int .i64 (AX (FB n fun i=>F i j))):=EO (T3 p n F ev j h hR hn hj) ms
def DU(o:List Cl)(F:List (Int×Int))(p:Int):Int:=if(DF o F).2≠0 then(DF o F).2 else if IsP p then 0 else 46
theorem JH(l:List Ce)(F:List (Int×Int))(v vf:Value)(p:Int)(hp:Hp)(hK:RgC l)(hR:RdC hp v l)(hF:RdL cV 2 hp [] vf F)(hV:GA F)(hI:BN p)(hl:l.length<=400):FnT Tryz.prog 85 #[.agg #[v],vf,.int .i64 p] hp [] (fun r _ _=>r=.int .i64 (DU (cn l) F p)):=by
 have o1:=hR.q.rd.one;have o2:=hF.rd.one;refine Aq func85 ntmps85 Y Y (fun w0 hw0=>?_);simp only[AW];refine Ar (AV [_] Y Y (by rfl) Y Y Y (fun g3=>Qm Y (Am (Az fun h1 l1 hS=>?_))));have hR:=hR.up l1;have hF:=hF.up l1;have hck:=fun ms=>EO (Qn l F v vf h1 hK hR hF hV) ms;have hre:DU (cn l) F p=if(DF (cn l) F).2≠0 then(DF (cn l) F).2 else if IsP p then 0 else 46:=rfl
 rw[hre];clear hre;generalize DF (cn l) F=cc at *;refine Ar (Qx (oG Y CB AY (Seg.any hS)) Y (Qm Y (Qx (AI Y call25 Y (hck _)) Y (Qm Y (Qm Y (Qm Y (Qm Y (Qm Y (Am (Ac (Ar (Qm Y (Qm Y (Am ?_))))))))))))));refine Ap Y (fun he=>?_) (fun he=>?_)
 ·refine Ac (Ad (Qm Y (Qm Y (Am (An (Ae ?_))))));exact Av Y Y (by rw[if_pos he];rfl)
 ·refine Ah (Ab (Ar (Qm Y (Qx (AI Y call145 Y (Ph p h1 hI _)) Y (Qm Y (Am (Ac (Ar (Qm Y (Qm Y (Am ?_)))))))))));refine Bx Y (fun hpr=>?_) (fun hpr=>?_)
  ·have hnp:¬IsP p:=fun q=>by rw[decide_eq_true q]at hpr;cases hpr
   refine Ar (Qm Y (Am (An (Ae ?_))));exact Av Y Y (by rw[if_neg he,if_neg hnp])
  ·have hnp:IsP p:=Classical.byContradiction fun q=>by rw[decide_eq_false q]at hpr;cases hpr
   refine Ah (Ab (Ac (Ar (Qx (oG Y CB AY (Seg.any hS)) Y (Qc call49 Y (EK l v h1 hK.r.cs hR) (fun rA h2 ms2 l2 hQ=>?_))))));obtain⟨l2',mA,A,rfl,hOA,hA,hsA⟩:=hQ;rw[D4 hK.r]at hA
   have hAl:A.length=l.length:=by have:=congrArg List.length hA;rw[length_map,EL,length_map]at this;exact this
   refine Bv hOA fun h3 l3 hRA=>?_;have oA_:=hRA.rd.one;refine Qx (Au hRA.rd.any Y A9 Y) Y (Qm Y (Am (Ap Y (fun hc=>absurd hc (by omega)) (fun hc=>Ah (Ab (Ar (Qm Y (Am (An ?_)))))))));exact Av Y Y (by rw[if_neg he,if_pos hnp])
end Go.Proofs.Q
namespace Go.Proofs.Q
open Go.Eng Go.RowKit Go.Lin
variable {j:Nat}
section
variable {p:Int} {n:Nat} {D:Nat->Nat->Int} {dm:Nat->Int} {pos:Nat->Nat} {v v':Nat->Nat->Int} {low low':Nat->Option Nat}
theorem Xe(R:Rdc p n D dm pos v low)(R':Rdc p n D dm pos v' low'){i:Nat}(hj:j<n)(h:low j=some i):∃k,k<n/\low' k=some i/\pos k<=pos j:=by
 obtain⟨C,hC⟩:=R.chg R' (f:=fun i=>(pos i:Int)) (g:=fun i=>(pos i:Int)) (δ:=0) (fun i j _ _ h=>by show(pos i:Int)<=pos j;omega) (fun i j _ _ h=>by show(pos i:Int)<=pos j;omega) (fun i _=>by show(pos i:Int)<=pos i+0;omega) (dm j);have hlo:lo low j=i:=by unfold lo;rw[h];rfl
 have hb:NW dm low (dm j) j=true:=prs_iff.2 ⟨Y,by rw[hlo];exact h⟩;obtain⟨h1,h2⟩:=hC j hj hb;obtain⟨hi,hn,hm⟩:=R.lsome j i hj h;have h3:¬p∣El n (NW dm low' (dm j)) (C j) (fun k=>FC n D (v' k)) i:=fun q=>hn ((h1 i hi).dvd_iff.2 q);obtain⟨k,hk,h4⟩:=ZB h3;cases hbk:NW dm low' (dm j) k with
 | false=>rw[hbk]at h4;exact absurd (Int.dvd_zero p) h4
 | true=>
  rw[hbk]at h4;have h4:¬p∣C j k*FC n D (v' k) i:=h4;have hc:¬p∣C j k:=fun q=>h4 (Int.dvd_mul_of_dvd_left q);have hv:¬p∣FC n D (v' k) i:=fun q=>h4 (Int.dvd_mul_of_dvd_right q);obtain⟨h5,h6⟩:=h2 k hk hbk hc;rw[hlo]at h6;have T:=R'.prs_top hk hbk;have h7:=T.2.2 i hi hv;have h8:lo low' k=i:=R.pinj _ _ T.1 hi (by omega);exact⟨k,hk,by rw[<-h8];exact(prs_iff.1 hbk).2,by omega⟩
theorem Wx(R:Rdc p n D dm pos v low)(R':Rdc p n D dm pos v' low')(hj:j<n):low j=low' j:=by
 have key:∀{v v':Nat->Nat->Int} {low low':Nat->Option Nat},Rdc p n D dm pos v low->Rdc p n D dm pos v' low'->∀i,low j=some i->low' j=some i:=fun {v v' low low'} R R' i h=>by obtain⟨k,hk,h1,h2⟩:=Xe R R' hj h;obtain⟨j',hj',h3,h4⟩:=Xe R' R hk h1;have:j'=j:=R.linj j' j i hj' hj h3 h;subst this;have:k=j':=R.pinj _ _ hk hj (by omega);rw[<-this];exact h1
 cases h:low j with
 | some i=>exact(key R R' i h).symm
 | none=>
  cases h':low' j with
  | none=>rfl
  | some i=>have:=key R' R i h';rw[h]at this;cases this
end
section
variable {p:Int} {F F':List (Int×Int)} {l l' S S':List Ce} {R V R' V':Nat->List Int}
theorem PerH.low_eq(H:PerH p F l S R V)(H':PerH p F' l' S' R' V')(hl:cn l'=cn l)(hS:S'.map Ce.c=S.map Ce.c)(hj:j<S.length):AX (R j)=AX (R' j):=by
 have Q:=H.rdc;have Q':=H'.rdc;have hln:S'.length=S.length:=by have:=congrArg List.length hS;simpa using this
 rw[hln,hl,hS]at Q';have e:=Wx Q Q' (H.inv hj).1;have h3:=(H.inv hj).2.2;unfold O8 at e;rw[hS,h3]at e;have hb:=(Dc (R j)).1;have hb':=(Dc (R' j)).1
 have hu:∀{R:Nat->List Int} {V} {F:List (Int×Int)} {l S'},PerH p F l S' R V->S'.length=S.length->AX (R j)<S.length:=fun {R V F l S'} H e=>by have:=(Dc (R j)).2;rw[(H.col j (by omega)).rl]at this;omega
 have hlt:=hu H Y;have hlt':=hu H' hln;split at e
 ·rename_i h0;split at e
  ·rename_i h1;have e:=Option.some.inj e;have hnS:((S.map Ce.c).map Cl.id).Nodup:=(H.P.perm.map Cl.id).nodup_iff.2 H.G.nd;have:=Rp H.P.perm hnS (i:=(AX (R j)).toNat) (j:=(AX (R' j)).toNat) (by rw[length_map];omega) (by rw[length_map];omega) e;omega
  ·cases e
 ·split at e
  ·cases e
  ·omega
theorem Ra{f g:Int->Int}(hS:Ls f S)(hS':Ls g S')(hp:(S.map Ce.c).Perm (S'.map Ce.c))(hn:(S.map fun a=>a.c.id).Nodup)(hfg:∀a∈S,∀b∈S,(f a.c.id<f b.c.id<->g a.c.id<g b.c.id)):S'.map Ce.c=S.map Ce.c:=by
 have hS1:(S.map Ce.c).Pairwise fun a b=>f a.id<f b.id\/(f a.id=f b.id/\(a.dim<b.dim\/(a.dim=b.dim/\a.id<=b.id))):=List.pairwise_map.2 hS
 have hS2:(S'.map Ce.c).Pairwise fun a b=>f a.id<f b.id\/(f a.id=f b.id/\(a.dim<b.dim\/(a.dim=b.dim/\a.id<=b.id))):=by have:(S'.map Ce.c).Pairwise fun a b=>g a.id<g b.id\/(g a.id=g b.id/\(a.dim<b.dim\/(a.dim=b.dim/\a.id<=b.id))):=List.pairwise_map.2 hS';refine this.imp_of_mem fun {a b} ha hb h=>?_;obtain⟨x,hx,rfl⟩:=List.mem_map.1 (hp.mem_iff.2 ha);obtain⟨y,hy,rfl⟩:=List.mem_map.1 (hp.mem_iff.2 hb);have h1:=hfg x hx y hy;have h2:=hfg y hy x hx;omega
 have hinj:∀a∈S.map Ce.c,∀b∈S.map Ce.c,a.id=b.id->a=b:=fun a ha b hb e=>by
  have hn':((S.map Ce.c).map Cl.id).Nodup:=by rw[map_map];exact hn
  have h1:=Dp hn' ha;have h2:=Dp hn' hb;rw[e,h2]at h1;exact(Option.some.inj h1).symm
 refine(List.Perm.eq_of_pairwise (fun a b ha hb h1 h2=>?_) hS1 hS2 hp).symm;exact hinj a ha b (hp.mem_iff.2 hb) (by omega)
theorem Q3{f g:Int->Int}{φ:Int->Int}{L L':List Int}(hS:S'.map Ce.c=S.map Ce.c)(hg:∀a∈S,g a.c.id=φ (f a.c.id))(hφ:∀a∈S,∀b∈S,(φ (f a.c.id)<φ (f b.c.id)<->f a.c.id<f b.c.id))(hL:L'.length=L.length)(hn:L.length=S.length)(hl:∀j,j<L.length->L'.getD j 0=L.getD j 0){m:Nat}(hm:m<S.length) :
  GP g S' L' m=(GP f S L m).map fun b=>⟨b.dim,φ b.birth,if b.opn then b.death else φ b.death,b.opn,b.low,b.high⟩:=by
 have hLL:L'=L:=List.ext_getElem hL fun j h1 h2=>by have:=hl j h2;simp[List.getD,h1,h2]at this;exact this
 subst hLL;have hln:S'.length=S.length:=by have:=congrArg List.length hS;simpa using this
 have hsc:∀i,i<S.length->(S'.getD i default).c=(S.getD i default).c:=fun i hi=>by have h1:=IW hi;have h2:=IW (S:=S') (i:=i) (by omega);rw[hS,h1]at h2;exact h2.symm
 have hmm:∀i,i<S.length->∃a∈S,(S.getD i default).c=a.c:=fun i hi=>⟨S[i],getElem_mem hi,by simp[List.getD,hi]⟩
 obtain⟨a,ha,ea⟩:=hmm m hm;unfold GP;cases hg':Bm (CZ L' L'.length) (m:Int) with
 | some x=>
  obtain⟨j,hj,rfl,_⟩:=Fx hg';obtain⟨b,hb,eb⟩:=hmm j (by omega);simp only[Int.toNat_natCast];rw[hsc m hm,hsc j (by omega),ea,eb,hg a ha,hg b hb];have:=hφ a ha b hb;by_cases h:f a.c.id<f b.c.id
  ·rw[if_pos h,if_pos (this.2 h)];rfl
  ·rw[if_neg h,if_neg fun q=>h (this.1 q)];rfl
 | none=>
  simp only[];rw[hsc m hm,ea,hg a ha];by_cases h:L'.getD m 0<0
  ·rw[if_pos h,if_pos h];rfl
  ·rw[if_neg h,if_neg h];rfl
theorem JU{α β:Type}(g:α->β)(h:Nat->List α)(l:List Nat):l.flatMap (fun m=>(h m).map g)=(l.flatMap h).map g:=by rw[List.map_flatMap]
theorem PerH.bars_eq(H:PerH p F l S R V)(H':PerH p F' l' S' R' V')(hl:cn l'=cn l)(φ:Int->Int)(hg:∀a∈cn l,Cb (A6 F') a.id=φ (Cb (A6 F) a.id))(hφ:∀a∈cn l,∀b∈cn l,(φ (Cb (A6 F) a.id)<φ (Cb (A6 F) b.id)<->Cb (A6 F) a.id<Cb (A6 F) b.id)) :
  Do (Cb (A6 F')) S' (Dr S' R') S'.length=(Do (Cb (A6 F)) S (Dr S R) S.length).map fun b=>⟨b.dim,φ b.birth,if b.opn then b.death else φ b.death,b.opn,b.low,b.high⟩:=by
 have hm:∀a∈S,a.c∈cn l:=fun a ha=>H.P.perm.mem_iff.1 (List.mem_map.2 ⟨a,ha,Y⟩);have hp:(S.map Ce.c).Perm (S'.map Ce.c):=H.P.perm.trans (by rw[<-hl];exact H'.P.perm.symm);have hS:=Ra H.P.srt H'.P.srt hp H.nd fun a ha b hb=>by rw[hg _ (hm a ha),hg _ (hm b hb)];exact(hφ _ (hm a ha) _ (hm b hb)).symm
 have hln:S'.length=S.length:=by have:=congrArg List.length hS;simpa using this
 unfold Do;rw[<-JU,hln]
 have:∀l:List Nat,(∀m∈l,m<S.length)->l.flatMap (GP (Cb (A6 F')) S' (Dr S' R'))=l.flatMap fun m=>(GP (Cb (A6 F)) S (Dr S R) m).map fun b=>⟨b.dim,φ b.birth,if b.opn then b.death else φ b.death,b.opn,b.low,b.high⟩:=fun l=>by
  induction l with
  | nil=>intro _;rfl
  | cons m l ih=>
   intro h;rw[List.flatMap_cons,List.flatMap_cons,ih fun x hx=>h x (mem_cons_of_mem _ hx)];congr 1;refine Q3 hS (fun a ha=>hg _ (hm a ha)) (fun a ha b hb=>hφ _ (hm a ha) _ (hm b hb)) (by rw[Ft,Ft,hln]) (Ft S R) (fun j hj=>?_) (h m Mh);rw[Ft]at hj;rw[Gb S R hj,Gb S' R' (by omega),H.low_eq H' hl hS hj]
 exact this _ fun m hm=>List.mem_range.1 hm
end
end Go.Proofs.Q
namespace Go.Proofs.Q
open Go.Eng Go.RowKit Go.Lin Go.Sort Go.Srt
variable {j:Nat}
structure SrtH(F:List (Int×Int))(l S:List Ce):Prop where
 perm:(S.map Ce.c).Perm (cn l)
 srt:Ls (Cb (A6 F)) S
 G:Rgt (cn l)
 mon:∀x∈cn l,∀s∈x.sd,Cb (A6 F) s.1<=Cb (A6 F) x.id
section
variable {p:Int} {F:List (Int×Int)} {l S S':List Ce}
theorem SrtH.nd(H:SrtH F l S):(S.map fun a=>a.c.id).Nodup:=by
 have:=(H.perm.map Cl.id).nodup_iff.2 H.G.nd
 rwa [map_map]at this
theorem SrtH.mem(H:SrtH F l S){i:Nat}(h:i<S.length):Cq S i∈cn l:=by rw[CJ h];exact H.perm.mem_iff.1 (List.mem_map.2 ⟨_,getElem_mem h,Y⟩)
theorem SrtH.inj(H:SrtH F l S){i:Nat}(hi:i<S.length)(hj:j<S.length)(h:(Cq S i).id=(Cq S j).id):i=j:=by
 rw[CJ hi,CJ hj]at h;have hp:=List.pairwise_iff_getElem.1 H.nd;rcases Nat.lt_trichotomy i j with h1|h1|h1
 ·have:=hp i j (by simpa using hi) (by simpa using hj) h1;simp only[List.getElem_map]at this;exact absurd h this
 ·exact h1
 ·have:=hp j i (by simpa using hj) (by simpa using hi) h1;simp only[List.getElem_map]at this;exact absurd h.symm this
theorem SrtH.place(H:SrtH F l S){y:Cl}(hy:y∈cn l):∃m,m<S.length/\Cq S m=y:=by obtain⟨a,ha,rfl⟩:=List.mem_map.1 (H.perm.mem_iff.2 hy);obtain⟨m,hm,rfl⟩:=List.getElem_of_mem ha;exact⟨m,hm,CJ hm⟩
theorem SrtH.before(H:SrtH F l S)(hj:j<S.length){s:Int×Int}(hs:s∈(Cq S j).sd):∃m,m<j/\(Cq S m).id=s.1/\(Cq S m).dim=(Cq S j).dim-1:=by
 obtain⟨y,hy,e1,e2⟩:=H.G.sid _ (H.mem hj) s hs;obtain⟨m,hm,rfl⟩:=H.place hy;refine⟨m,?_,e1,e2⟩;have hf:=H.mon _ (H.mem hj) s hs;rw[<-e1]at hf;refine Classical.byContradiction fun hn=>?_;rcases (by omega:m=j\/j<m) with rfl|h
 ·omega
 ·have:=List.pairwise_iff_getElem.1 H.srt j m hj hm h;rw[<-CJ hj,<-CJ hm]at this;omega
theorem SrtH.uniq(H:SrtH F l S)(H':SrtH F l S'):S'.map Ce.c=S.map Ce.c:=
 Ra H.srt H'.srt (H.perm.trans H'.perm.symm) H.nd fun _ _ _ _=>Iff.rfl
theorem SrtH.len(H:SrtH F l S):S.length=l.length:=by
 have:=H.perm.length_eq
 rwa [length_map,CY]at this
def LR(p:Int)(S:List Ce)(j k:Nat)(a b:Nat):Int:=if b<j then(Dm p S b).getD a 0 else if b=j then(EP p S j k).getD a 0 else 0
theorem V3(p:Int)(S:List Ce)(a b:Nat)(ha:a<S.length):LR p S 0 0 a b=0:=by
 unfold LR EP;split
 ·omega
 ·split
  ·simp[List.getD,ha]
  ·rfl
theorem Vl(p:Int)(S:List Ce)(a b:Nat)(ha:a<S.length):LR p S j (S.getD j default).c.sd.length a b=LR p S (j+1) 0 a b:=by
 unfold LR;rcases (by omega:b<j\/b=j\/b=j+1\/j+1<b) with h|rfl|rfl|h
 ·rw[if_pos h,if_pos (by omega)]
 ·rw[if_neg (by omega),if_pos rfl,if_pos (by omega)];rfl
 ·rw[if_neg (by omega),if_neg (by omega),if_neg (by omega),if_pos rfl];unfold EP;simp[List.getD,ha]
 ·rw[if_neg (by omega),if_neg (by omega),if_neg (by omega),if_neg (by omega)]
theorem Wj(H:SrtH F l S)(p:Int){k m:Nat}(hj:j<S.length)(hk:k<(S.getD j default).c.sd.length)(hm:m<j)(e:(Cq S m).id=((S.getD j default).c.sd[k]).1)(a b:Nat)(ha:a<S.length) :
  GZ (LR p S j k) m j (((S.getD j default).c.sd[k].2+p)%p) a b=LR p S j (k+1) a b:=by
 have hpl:pl S (j+1) ((S.getD j default).c.sd[k]).1=m:=by
  have:=We H.nd (i:=m) (j:=j+1) (by omega) (by omega)
  rwa [show(S.getD m default).c.id=((S.getD j default).c.sd[k]).1 from e]at this
 unfold GZ LR;rw[JA hk,hpl];rcases (by omega:b<j\/b=j\/j<b) with h|rfl|h
 ·rw[if_neg (by omega),if_pos h];rw[if_pos h]
 ·by_cases hab:a=m
  ·subst hab;rw[if_pos ⟨rfl,rfl⟩,if_neg (by omega),if_pos rfl];simp[List.getD,EH,ha]
  ·rw[if_neg (fun q=>hab q.1),if_neg (by omega),if_pos rfl,if_neg (by omega),if_pos rfl];simp only[List.getD];rw[List.getElem?_set_ne (Ne.symm hab)]
 ·rw[if_neg (by omega),if_neg (by omega),if_neg (by omega),if_neg (by omega),if_neg (by omega)]
end
end Go.Proofs.Q

namespace Go.Proofs.Q
open Go.Proofs.Tryz
open Go.Eng Go.RowKit Go.Lin Go.Sort Go.Srt
theorem O4(l:List Ce)(F:List (Int×Int))(v vf:Value)(p:Int)(hp:Hp)(hK:RgC l)(hR:RdC hp v l)(hF:RdL cV 2 hp [] vf F)(hn:(F.map Prod.fst).Nodup)(hmon:∀x∈cn l,∀s∈x.sd,Cb (A6 F) s.1<=Cb (A6 F) x.id)(hP:IsP p)(hl:l.length<=400):FnT Tryz.prog 86 #[.agg #[v],vf,.int .i64 p] hp [] (fun r h' ms'=>hp.le h'/\∃S,SrtH F l S/\PR r ms' (Xy p S.length S.length fun i j=>(Dm p S j).getD i 0)):=by
 have o1:=hR.q.rd.one;have o2:=hF.rd.one;have hpb:=hP.1;have hpb2:=hP.2.1;refine Aq func86 ntmps86 Y Y (fun w0 hw0=>?_);simp only[AW];refine Ar (AV [_] Y Y (by rfl) Y Y Y (fun g3=>CG [.int .i64 0,.int .i64 0,.int .i64 0,.slice none 0 0] Y BF Y Y (fun g6=>Am (Bp 1 Y fun h1 l1 hS=>?_))));have hR:=hR.up l1;have hF:=hF.up l1;refine Ar (Qx (oG Y CB AY (Seg.any hS)) Y (Qm Y (Qc call122 Y (GI l F v vf h1 hK hR hF hn) (fun r7 h2 ms2 l2 hQ=>?_))));obtain⟨l2',mS,S,rfl,hOS,hpm,hsrt,hsS⟩:=hQ;have H:SrtH F l S:=⟨hpm,hsrt,hK.F.rgt,hmon⟩
 have hSl:=H.len;refine Qm Y (Am (Bc hOS fun h3 l3 hRS=>?_));have hsS:=fun a ha=>(hsS a ha).up l3;have o7:=hRS.rd.one;refine Ar (Qm Y (Qx (Au hRS.rd.any Y A9 Y) Y (Qm Y (BH (Qm Y (Qm Y (Qm Y ?_)))))));refine Qc call146 Y (PQ p S.length S.length h3 ⟨by omega,by omega⟩) (fun rz h4 ms4 l4 hQ=>?_);obtain⟨rfl,hM⟩:=hQ;rw[R6 hP (by omega) (by omega)]at hM;obtain⟨ev,me,rfl,rfl,hO⟩:=hM;have oe:=hO.o1;change OwnL cI 1 3 me ev (CI S.length S.length fun _ _=>0) at hO;refine CG [.int .i64 0,.int .i64 0,.int .i64 0,.slice none 0 0] Y BF Y Y (fun g9=>?_);refine Sa 0 [_,_,_,_] BF Y (by simp[o1,o2,o7,oe]) ?_;refine Am (Az fun h4 l4 hS9=>?_);have hRS:=hRS.up l4;have hsS:=fun a ha=>(hsS a ha).up l4;have e3:∀h',h4.le h'->∀ms,Cell h' ms (⟨g9,3,none⟩:Addr) ev:=fun h' l' ms=>(Seg.all hS9 3 _ Y ms).le l';have hnn:S.length*S.length<=160000:=by have:=Nat.mul_le_mul (show S.length<=400 by omega) (show S.length<=400 by omega);omega
 rw[Bg (fun i hi j hj=>(V3 p S i j hi).symm)]at hO;refine Ac (Ar (Qm Y (Am (Ag ?_))))
 refine Aw (fun q sl h' ms'=>∃(j:Nat) (me:Hp),q=S.length-j/\sl=[(2,.int .i64 p),(6,.pointer (some ⟨g6,0,none⟩)),(7,r7),(8,.int .i64 S.length),(9,.pointer (some ⟨g9,0,none⟩)),(10,.int .i64 j)]/\h4.le h'/\ms'=[me,Bl g6 65 [.int .i64 0,.int .i64 0,.int .i64 0,.slice none 0 0]]/\j<=S.length/\OwnL cI 1 3 me ev (CI S.length S.length (LR p S j 0)))
  (S.length-0) _ ⟨0,me,rfl,rfl,DT,rfl,by omega,hO⟩ Qs ?_
 rintro q sl h' ms' ⟨j,me,rfl,rfl,lh,rfl,hj,hO⟩;have hRS:=hRS.up lh;refine Ac (Ar (Qm Y (Qm Y (Qm Y (Am ?_)))));refine Ap Y (fun hjl=>?_) (fun hjl=>?_)
 ·have hjS:j<S.length:=by omega
  obtain⟨x,hx⟩:∃x,S[j]=x:=⟨_,Y⟩
  have hgx:(S.getD j default)=x:=by simp[List.getD,hjS,hx]
  have hX:=(hsS x (by rw[<-hx];exact getElem_mem hjS)).up lh;have ox:=hX.rd.one;have hxo:x.c∈cn l:=by have:=H.mem hjS;rwa [CJ hjS,hx]at this
  have hxs:=(hK.F.bds hxo).2.1;refine Ah (Ab (Ac (Ag (Ar (Qm Y (Am (Ag ?_)))))))
  refine Aw (fun q sl h2 ms'=>∃(k:Nat) (me:Hp),q=x.c.sd.length-k/\sl=[(2,.int .i64 p),(6,.pointer (some ⟨g6,0,none⟩)),(7,r7),(8,.int .i64 S.length),(9,.pointer (some ⟨g9,0,none⟩)),(10,.int .i64 j),(11,.int .i64 k)]/\h'.le h2/\ms'=[me,Bl g6 65 [.int .i64 0,.int .i64 0,.int .i64 0,.slice none 0 0]]/\k<=x.c.sd.length/\OwnL cI 1 3 me ev (CI S.length S.length (LR p S j k)))
   (x.c.sd.length-0) _ ⟨0,me,rfl,rfl,DT,rfl,by omega,hO⟩ Qs ?_
  rintro q sl h2 ms' ⟨k,me,rfl,rfl,lh2,rfl,hk,hO⟩;have hRS:=hRS.up lh2;have hX:=hX.up lh2;have c2:∀ms,Cell h2 ms (((AE r7).add (j*3)).add 2) x.v:=fun ms=>by rw[<-hx];exact(hRS.any (ms:=ms)).cell hjS (f:=2) Y
  refine Ac (Ar (Qm Y (Qm Y (Qm Y (Qx (BE (j) hRS.rd.any Y A9 AG Y Y) Y (Qf Bz Y (Ql Y BW (c2 _) (Qx (Au hX.rd.any Y BW Y) Y (Qm Y (Am ?_))))))))));refine Ap Y (fun hkl=>?_) (fun hkl=>?_)
  ·have hkS:k<x.c.sd.length:=by omega
   obtain⟨s,hs⟩:∃s,x.c.sd[k]=s:=⟨_,Y⟩
   have hsm:s∈x.c.sd:=by rw[<-hs];exact getElem_mem hkS
   have hsg:=hK.F.rgt.sgn _ hxo s hsm;obtain⟨m,hmj,em,_⟩:=H.before hjS (s:=s) (by rw[CJ hjS,hx];exact hsm);have sx:∀ms,Seg h2 ms ((AE x.v).add (k*2)) (cD s):=fun ms=>by rw[<-hs];exact(hX.any (ms:=ms)).seg hkS
   refine Ah (Ab (Ac (Ag (Ar (Qm Y (Qm Y (Qx (BE (j) hRS.rd.any Y A9 AG Y Y) Y (Qf Bz Y (Ql Y BW (c2 _) (Qm Y (Qx (BE (k) hX.rd.any Y BW AM Y Y) Y (Qx (oG Y DS AM (sx _)) Y (CG [.int .i64 0,.int .i64 0] Y AM Y Y (fun g12=>?_))))))))))))));refine Sa 0 [_,_] AM Y (by simp[Value.oneCell']) ?_;refine Am (Az fun h5 l5 hS12=>?_);have hRS:=hRS.up l5;have d0:∀ms,Cell h5 ms (⟨g12,0,none⟩:Addr) (.int .i64 s.1):=fun ms=>Seg.all hS12 0 _ Y ms;have d1:∀ms,Cell h5 ms (⟨g12,1,none⟩:Addr) (.int .i64 s.2):=fun ms=>Seg.all hS12 1 _ Y ms;have e3:=e3 h5 (AJ lh (AJ lh2 l5));refine Ar (Qm Y (Am (Ag ?_)))
   refine Aw (fun q sl h' ms'=>∃(i:Nat) (me:Hp),q=S.length-i/\sl=[(2,.int .i64 p),(6,.pointer (some ⟨g6,0,none⟩)),(7,r7),(8,.int .i64 S.length),(9,.pointer (some ⟨g9,0,none⟩)),(10,.int .i64 j),(11,.int .i64 k),(12,.pointer (some ⟨g12,0,none⟩)),(13,.int .i64 i)]/\h5=h'/\ms'=[me,Bl g6 65 [.int .i64 0,.int .i64 0,.int .i64 0,.slice none 0 0]]/\i<=S.length/\OwnL cI 1 3 me ev (CI S.length S.length (if m<i then LR p S j (k+1) else LR p S j k)))
    (S.length-0) _ ⟨0,me,rfl,rfl,rfl,rfl,by omega,by rw[if_neg (by omega)];exact hO⟩ Qs ?_
   rintro q sl h' ms' ⟨i,me,rfl,rfl,rfl,rfl,hi,hO⟩;have hO':=hO;refine Ac (Ar (Qm Y (Qm Y (Qm Y (Am ?_)))));refine Ap Y (fun hil=>?_) (fun hil=>?_)
   ·have hiS:i<S.length:=by omega
    have c0:∀ms,Cell h5 ms (((AE r7).add (i*3)).add 0) (.int .i64 (Cq S i).id):=fun ms=>by rw[CJ hiS];exact(hRS.any (ms:=ms)).cell hiS (f:=0) Y
    refine Ah (Ab (Ac (Ag (Ac (A7 7 CW (by kernel_rfl) Y (Wm Y (Wm Y (AK (BE (i) hRS.rd.any Y A9 AG Y Y) Y Y (Wf Bi Y (Wl Y U3 (c0 _) (Wf BY Y (Wl Y U3 (d0 _) (AZ (Qm Y (Am ?_)))))))))))))));refine Ap Y (fun he=>?_) (fun he=>?_)
    ·obtain rfl:i=m:=H.inj hiS (by omega) (by rw[em];exact he);rw[if_neg (by omega)]at hO hO';have hix:=Gg hiS hjS;have hml:(CI S.length S.length (LR p S j k)).length=S.length*S.length:=Cy _ _ _;have hcast:(((i*S.length+j:Nat)):Int)=(i:Int)*(S.length:Int)+j:=by rw[Int.natCast_add,Int.natCast_mul]
     have hmo:s.2%p=(s.2+p)%p:=by rw[Int.add_emod_right]
     refine A7 11 CW (by kernel_rfl) Y (Wf Di Y (Wl Y AU (e3 _) (Wm Y (Wm Y (AK (oM Y) Y Y (Wm Y (AK (oA Y) Y Y (Wf Da Y (Wl Y U3 (d1 _) (Wm Y ?_))))))))));refine AK (AI Y call34 Y (Hv s.2 p ⟨by omega,by omega⟩ ⟨by omega,by omega⟩ h5 _)) Y Y ?_;refine AZ (Qx (AB ((i*S.length+j)) (hO'.rd (h:=h5) (ms:=[me,Bl g6 65 [.int .i64 0,.int .i64 0,.int .i64 0,.slice none 0 0]]) Mh).rd Y AU A5 Y Y (by omega) (by omega)) Y (Cj (F:=cI) (f:=fun x=>.int .i64 x) (a:=s.2%p) 0 (i*S.length+j) (fun _=>rfl) hO Y A5 Y Y Y Y (by omega) Y Y (fun m2 hO2=>?_)))
     rw[Hk _ hjS,hmo,Bg (fun a ha b hb=>by
      have:=Wj H p (k:=k) hjS (by rw[hgx];exact hkS) hmj (by simp only[hgx,hs];exact em) a b ha;simp only[hgx,hs]at this
      exact this)]at hO2
     refine Al (Ai (Ab (Ad (Qm Y (Qx (oA Y) Y (Qm Y (Al ?_)))))));exact Ak (S.length-(i+1)) _ (by omega) ⟨i+1,m2,Y,Y,Y,Y,by omega,by rw[if_pos (by omega)];exact hO2⟩ Qs
    ·have him:i≠m:=fun e=>he (by rw[e];exact em);refine Ah (Ai (Ab (Ad (Qm Y (Qx (oA Y) Y (Qm Y (Al ?_)))))));exact Ak (S.length-(i+1)) _ (by omega) ⟨i+1,me,Y,Y,Y,Y,by omega,by rw[show(if m<i+1 then LR p S j (k+1) else LR p S j k)=(if m<i then LR p S j (k+1) else LR p S j k) by simp only[show(m<i+1)=(m<i) from propext (by omega)]];exact hO⟩ Qs
   ·rw[if_pos (by omega)]at hO;refine As (Aa (Aa (Af (Ai (Ab (Ad (Qm Y (Qx (oA Y) Y (Qm Y (Al ?_))))))))));exact Ak (x.c.sd.length-(k+1)) _ (by omega) ⟨k+1,me,Y,Y,AJ lh2 l5,Y,by omega,hO⟩ Qs
  ·obtain rfl:k=x.c.sd.length:=by omega
   have hmx:CI S.length S.length (LR p S j x.c.sd.length)=CI S.length S.length (LR p S (j+1) 0):=Bg fun a ha b hb=>by have:=Vl p S (j:=j) a b ha;rw[hgx]at this;exact this
   rw[hmx]at hO;refine As (Aa (Aa (Af (Ai (Ab (Ad (Qm Y (Qx (oA Y) Y (Qm Y (Al ?_))))))))));exact Ak (S.length-(j+1)) _ (by omega) ⟨j+1,me,Y,Y,AJ lh lh2,Y,by omega,hO⟩ Qs
 ·obtain rfl:j=S.length:=by omega
  rw[Bg (fun a ha b hb=>show LR p S S.length 0 a b=(Dm p S b).getD a 0 by unfold LR;rw[if_pos hb])]at hO;have hS9:=hS9.le lh;refine As (Aa (Aa (Af (Ab (Ar (Qx (oG Y Jt BF (Seg.any hS9)) Y ?_))))));refine Sa 1 [_,_,_,_] BF Y (by simp[o1,o2,o7,oe]) ?_;refine Am (An ?_);exact By (vs:=[_,_,_,_]) 1 Y Y Jt Y BF Y Y (⟨AJ l1 (AJ l2 (AJ l3 (AJ l4 lh))),S,H,ev,me,Y,Y,hO⟩)
variable {n:Nat} {S:List Ce}
def JW(S:List Ce):List Int:=S.map fun a=>a.c.id
theorem Q9{S':List Ce}(h:S'.map Ce.c=S.map Ce.c):JW S'=JW S:=by
 have:=congrArg (List.map Cl.id) h
 rwa [map_map,map_map]at this
theorem SrtH.ids{F:List (Int×Int)}{l S':List Ce}(H:SrtH F l S)(H':SrtH F l S'):JW S'=JW S:=Q9 (H.uniq H')
theorem Ru(l:List Ce)(F:List (Int×Int))(v vf:Value)(hp:Hp)(hK:RgC l)(hR:RdC hp v l)(hF:RdL cV 2 hp [] vf F)(hn:(F.map Prod.fst).Nodup)(hmon:∀x∈cn l,∀s∈x.sd,Cb (A6 F) s.1<=Cb (A6 F) x.id)(hl:l.length<=400):FnT Tryz.prog 90 #[.agg #[v],vf] hp [] (fun r h' ms'=>hp.le h'/\∃S m,SrtH F l S/\ms'=[m]/\OwnL cI 1 3 m r (JW S)):=by
 have o1:=hR.q.rd.one;have o2:=hF.rd.one;refine Aq func90 ntmps90 Y Y (fun w0 hw0=>?_);simp only[AW];refine Ar (AV [_] Y Y (by rfl) Y Y Y (fun g2=>Qm Y (Am (Az fun h1 l1 hS=>?_))));have hR:=hR.up l1;have hF:=hF.up l1;refine Ar (Qm Y (BH (Qx (oG Y CB AY (Seg.any hS)) Y (Qm Y (Qc call122 Y (GI l F v vf h1 hK hR hF hn) (fun r7 h2 ms2 l2 hQ=>?_))))));obtain⟨l2',mS,S,rfl,hOS,hpm,hsrt,hsS⟩:=hQ;have H:SrtH F l S:=⟨hpm,hsrt,hK.F.rgt,hmon⟩
 have hSl:=H.len;refine Qm Y (Am (Bc hOS fun h3 l3 hRS=>?_));have o7:=hRS.rd.one;refine Ac (Ar (Qm Y (Am (Ag (BG ?_)))))
 refine Aw (fun q sl h' ms'=>∃(i:Nat) (vo:Value) (mo:Hp),q=S.length-i/\sl=[(5,vo),(6,r7),(7,.int .i64 i)]/\h3=h'/\ms'=[mo]/\i<=S.length/\OwnL cI 1 3 mo vo (JW (S.take i)))
  (S.length-0) _ ⟨0,_,Hp.emp,rfl,rfl,rfl,rfl,by omega,OwnL.nil Be⟩ Qs ?_
 rintro q sl h' ms' ⟨i,vo,mo,rfl,rfl,rfl,rfl,hi,hO⟩;have ov:=hO.o1;refine Ac (Ar (Qm Y (Qm Y (Qx (Au hRS.rd.any Y A9 Y) Y (Qm Y (Am ?_))))));refine Ap Y (fun hil=>?_) (fun hil=>?_)
 ·have hiS:i<S.length:=by omega
  have c0:∀ms,Cell h3 ms (((AE r7).add (i*3)).add 0) (.int .i64 S[i].c.id):=fun ms=>(hRS.any (ms:=ms)).cell hiS (f:=0) Y;have hnx:JW (S.take (i+1))=JW (S.take i)++[S[i].c.id]:=by unfold JW;rw[List.take_succ_eq_append_getElem hiS,map_append];rfl
  have hnl:(JW (S.take i)).length<=4000:=by unfold JW;rw[length_map,length_take];omega
  refine Ah (Ab (Ac (Ag (Ad (Qm Y (Qm Y (Qm Y (Qx (BE (i) hRS.rd.any Y A9 AG Y Y) Y (Qf Bi Y (Ql Y U3 (c0 _) (Ao [_] Y AU A5 Y (by rfl) Y Y (by omega) Y Y Y (fun g23=>?_))))))))))));refine AR 1 hO (OwnL.rd (OwnL.blk (g:=g23) (el:=3) (F:=cI) (l:=[S[i].c.id]) 1 Be Y (by decide)) Mh) Y AU A5 Y (by omega) Y Y Y B8 (by simp;omega) (by simp;omega) rfl rfl rfl (fun v8 m8 hO8=>?_);rw[<-hnx]at hO8;refine Qm Y (Al (Ai (Ab (Ad (Qm Y (Qx (oA Y) Y (Qm Y (Al (A3 0 Y ?_)))))))));exact Ak (S.length-(i+1)) _ (by omega) ⟨i+1,v8,m8,Y,Y,Y,Y,by omega,hO8⟩ Qs
 ·obtain rfl:i=S.length:=by omega
  rw[take_length]at hO;refine As (Aa (Aa (Af (Ab (Ar (Qm Y (Qm Y (Am (An ?_)))))))));exact Av Y Y (⟨AJ l1 (AJ l2 l3),S,mo,H,Y,hO⟩)
theorem Kt{l:List Int}(h:l.length=n):(FB n fun i=>l.getD i 0)=l:=by refine List.ext_getElem (by rw[Cd,h]) fun i h1 h2=>?_;rw[Cd]at h1;rw[Kk h1];simp[List.getD,h2]
def mc(R D:Nat->List Int)(j:Nat)(r1:List Int)(a b:Nat):Int:=if b<j then(R b).getD a 0 else if b=j then r1.getD a 0 else(D b).getD a 0
theorem OZ(R D:Nat->List Int)(a b:Nat):(D b).getD a 0=mc R D 0 (D 0) a b:=by
 unfold mc;rw[if_neg (by omega)];split
 ·rename_i h;rw[h]
 ·rfl
theorem Kf(R D:Nat->List Int)(j:Nat)(r1:List Int)(a b:Nat):mc R D j r1 a b=mc (upd R j r1) D (j+1) (D (j+1)) a b:=by
 unfold mc;rcases (by omega:b<j\/b=j\/b=j+1\/j+1<b) with h|rfl|rfl|h
 ·rw[if_pos h,if_pos (by omega),EB _ _ (by omega)]
 ·rw[if_neg (by omega),if_pos rfl,if_pos (by omega),Fj]
 ·rw[if_neg (by omega),if_neg (by omega),if_neg (by omega),if_pos rfl]
 ·rw[if_neg (by omega),if_neg (by omega),if_neg (by omega),if_neg (by omega)]
theorem Aay(R D:Nat->List Int)(j:Nat)(r1:List Int)(h:r1.length=n):(FB n fun i=>mc R D j r1 i j)=r1:=by rw[show(fun i=>mc R D j r1 i j)=fun i=>r1.getD i 0 from funext fun i=>by unfold mc;rw[if_neg (by omega),if_pos rfl]];exact Kt h
theorem ZZ(R D:Nat->List Int)(j:Nat)(r1:List Int){k:Nat}(hk:k<j)(h:(R k).length=n):(FB n fun i=>mc R D j r1 i k)=R k:=by rw[show(fun i=>mc R D j r1 i k)=fun i=>(R k).getD i 0 from funext fun i=>by unfold mc;rw[if_pos hk]];exact Kt h
def Nt(p:Int)(a b:List Int)(t:Int)(i:Nat):List Int:=(range a.length).map fun q=>if q<i then(a.getD q 0+t*b.getD q 0)%p else a.getD q 0
theorem Nz(p:Int)(a b:List Int)(t:Int)(i:Nat):(Nt p a b t i).length=a.length:=by unfold Nt;simp
theorem Is(p:Int)(a b:List Int)(t:Int)(i:Nat){q:Nat}(hq:q<a.length):(Nt p a b t i).getD q 0=if q<i then(a.getD q 0+t*b.getD q 0)%p else a.getD q 0:=by unfold Nt;simp[List.getD,hq]
theorem Oj(p:Int)(a b:List Int)(t:Int):Nt p a b t 0=a:=by refine List.ext_getElem (Nz _ _ _ _ _) fun q h1 h2=>?_;have:=Is p a b t 0 h2;rw[if_neg (by omega)]at this;simpa[List.getD,h1,h2] using this
theorem Sq(p:Int){a b:List Int}(t:Int)(h:a.length=b.length):Nt p a b t a.length=Em p a b t:=by
 refine List.ext_getElem (by rw[Nz,DH h]) fun q h1 h2=>?_;have h3:q<a.length:=by rw[Nz]at h1;exact h1
 have h4:=Is p a b t a.length h3;rw[if_pos h3]at h4;have h5:=DZ (p:=p) (t:=t) h q;rw[<-h5]at h4;simpa[List.getD,h1,h2] using h4
theorem Sx(p:Int)(R D:Nat->List Int)(j:Nat){r1 b1:List Int}(t:Int){i:Nat}(h:r1.length=n)(hi:i<n)(a b:Nat)(ha:a<n) :
  GZ (mc R D j (Nt p r1 b1 t i)) i j ((r1.getD i 0+t*b1.getD i 0)%p) a b=mc R D j (Nt p r1 b1 t (i+1)) a b:=by
 unfold GZ mc;rcases (by omega:b<j\/b=j\/j<b) with hb|rfl|hb
 ·rw[if_neg (by omega),if_pos hb,if_pos hb]
 ·rw[if_neg (by omega:¬b<b),if_pos rfl,if_neg (by omega:¬b<b),if_pos rfl,Is _ _ _ _ _ (by omega),Is _ _ _ _ _ (by omega)];by_cases hai:a=i
  ·subst hai;rw[if_pos ⟨rfl,rfl⟩,if_pos (by omega)]
  ·rw[if_neg fun q=>hai q.1];by_cases h2:a<i
   ·rw[if_pos h2,if_pos (by omega)]
   ·rw[if_neg h2,if_neg (by omega)]
 ·rw[if_neg (by omega),if_neg (by omega),if_neg (by omega),if_neg (by omega),if_neg (by omega)]
theorem UA(p:Int)(R D:Nat->List Int)(j:Nat){r1 b1:List Int}(t:Int){i:Nat}(h:r1.length=n)(hi:i<n):mc R D j (Nt p r1 b1 t i) i j=r1.getD i 0:=by unfold mc;rw[if_neg (by omega),if_pos rfl,Is _ _ _ _ _ (by omega),if_neg (by omega)]
theorem VJ(R D:Nat->List Int)(j:Nat)(r1:List Int){k:Nat}(hk:k<j)(a:Nat):mc R D j r1 a k=(R k).getD a 0:=by unfold mc;rw[if_pos hk]
theorem AllC.put{p:Int}{j:Nat}{R V:Nat->List Int}{la r v:List Int}(A:AllC p S n j R V la)(hn:n<=400)(lr:r.length=n)(lv:v.length=n)(rr:Jc p r)(rv:Jc p v)(hO:Ops p n j R V (Dm p S j) (CF n j) r v)(hfree:∀k,k<j->0<=AX r->AX (R k)≠AX r):∃la',AllC p S n (j+1) (upd R j r) (upd V j v) la':=by
 by_cases h0:AX r<0
 ·exact⟨la,A.next hn lr lv rr rv (.inl ⟨h0,Y⟩) hO⟩
 ·have hb:=Dc r;have hi:(AX r).toNat<400:=by omega
  have hz:la.getD (AX r).toNat 0=0:=by
   rcases A.red.a0 _ hi with h|⟨k,hk,_,e⟩
   ·exact h
   ·exact absurd (by rw[e];omega) (hfree k hk (by omega))
  exact⟨_,A.next hn lr lv rr rv (.inr ⟨by omega,hz,Y⟩) hO⟩
end Go.Proofs.Q

namespace Go.Proofs.Q
open Go.Proofs.Tryz
open Go.Eng Go.RowKit Go.Lin Go.Sort Go.Srt
theorem NC{o:List Cl}{F:List (Int×Int)}{p:Int}(h0:DF o F=(0,0))(hP:IsP p):DU o F p=0:=by unfold DU;rw[h0,if_neg (fun h=>h rfl),if_pos hP]
theorem AaJ{n:Nat}(a b:Nat)(ha:a<n)(hb:b<n)(V:Nat->List Int):eye a b=mc V (CF n) 0 (CF n 0) a b:=by rw[<-OZ,F3 hb];rfl
theorem Oe(l:List Ce)(F:List (Int×Int))(v vf:Value)(p:Int)(hp:Hp)(hK:RgC l)(hR:RdC hp v l)(hF:RdL cV 2 hp [] vf F)(hV:GA F)(hn:(F.map Prod.fst).Nodup)(h0:DF (cn l) F=(0,0))(hmon:∀x∈cn l,∀s∈x.sd,Cb (A6 F) s.1<=Cb (A6 F) x.id)(hP:IsP p)(hl:l.length<=400):FnT Tryz.prog 33 #[.agg #[v],vf,.int .i64 p] hp [] (fun r h' ms'=>hp.le h'/\∃(S:List Ce) (R V:Nat->List Int) (vo er ev:Value) (mo mr mv:Hp),PersF p F l S R V/\r=.tuple #[vo,.agg #[.int .i64 p,.int .i64 S.length,.int .i64 S.length,er],.agg #[.int .i64 p,.int .i64 S.length,.int .i64 S.length,ev],.int .i64 0]/\ms'=[mo,mv,mr]/\OwnL cI 1 3 mo vo (JW S)/\OwnL cI 1 3 mr er (CI S.length S.length fun i j=>(R j).getD i 0)/\OwnL cI 1 3 mv ev (CI S.length S.length fun i j=>(V j).getD i 0)):=by
 have o1:=hR.q.rd.one;have o2:=hF.rd.one;have hpb:=hP.1;have hpb2:=hP.2.1;refine Aq func33 ntmps33 Y Y (fun w0 hw0=>?_);simp only[AW];refine Ar (AV [_] Y Y (by rfl) Y Y Y (fun g3=>Qm Y (CG [.int .i64 0,.int .i64 0,.int .i64 0,.slice none 0 0] Y BF Y Y (fun g7=>CG [.int .i64 0,.int .i64 0,.int .i64 0,.slice none 0 0] Y BF Y Y (fun g8=>Qm Y (Am (Bp 2 Y fun h1 l1 hS=>?_)))))));have hR:=hR.up l1;have hF:=hF.up l1;have her:=fun ms=>EO (JH l F v vf p h1 hK hR hF hV ⟨by omega,by omega⟩ hl) ms;rw[NC h0 hP]at her;refine Ar (Qx (oG Y CB AY (Seg.any hS)) Y (Qm Y (Qm Y (Qx (AI Y call85 Y (her _)) Y (Qm Y (Am (Ac (Ar (Qm Y (Qm Y (Am (Ap Y (fun hc=>absurd hc (fun h=>h Y)) (fun hc=>Ah (Ab (Ar (Qx (oG Y CB AY (Seg.any hS)) Y (Qm Y (Qm Y (Qc call86 Y (O4 l F v vf p h1 hK hR hF hn hmon hP hl) (fun rm h2 ms2 l2 hQ=>?_))))))))))))))))))));obtain⟨l2',S,H,er,mr,rfl,rfl,hOr⟩:=hQ;change OwnL cI 1 3 mr er (CI S.length S.length fun i j=>(Dm p S j).getD i 0) at hOr;have hSl:=H.len;have oer:=hOr.o1;refine CG [.int .i64 0,.int .i64 0,.int .i64 0,.slice none 0 0] Y BF Y Y (fun g11=>?_);refine Sa 0 [_,_,_,_] BF Y (by simp[o1,o2,oer]) ?_;refine Am (Az fun h3 l3 hS11=>?_);have l23:=AJ l1 (AJ l2 l3);have c112:∀ms,Cell h3 ms (⟨g11,2,none⟩:Addr) (.int .i64 S.length):=fun ms=>Seg.all hS11 2 _ Y ms;refine Ar (Qf Ia Y (Ql Y U3 (c112 _) (Qm Y (BH (Qm Y (Qm Y (Qc call87 Y (Y1 p S.length h3 hP (by omega)) (fun rv h4 ms4 l4 hQ=>?_))))))));obtain⟨rfl,ev,mv,rfl,rfl,hOv⟩:=hQ;change OwnL cI 1 3 mv ev (CI S.length S.length eye) at hOv;have oev:=hOv.o1;refine CG [.int .i64 0,.int .i64 0,.int .i64 0,.slice none 0 0] Y BF Y Y (fun g13=>?_);refine Sa 0 [_,_,_,_] BF Y (by simp[o1,o2,oer,oev]) ?_;refine Am (Az fun h5 l5 hS13=>?_);have hS11:=hS11.le l5;have hR:=hR.up (AJ l2 (AJ l3 l5));have hF:=hF.up (AJ l2 (AJ l3 l5));have hS3:=hS.le (AJ l2 (AJ l3 l5));have e11:∀ms,Cell h5 ms (⟨g11,3,none⟩:Addr) er:=fun ms=>Seg.all hS11 3 _ Y ms;have e13:∀ms,Cell h5 ms (⟨g13,3,none⟩:Addr) ev:=fun ms=>Seg.all hS13 3 _ Y ms;have hnn:S.length*S.length<=160000:=by have:=Nat.mul_le_mul (show S.length<=400 by omega) (show S.length<=400 by omega);omega
 obtain⟨n,hnS⟩:∃n,S.length=n:=⟨_,Y⟩
 have hn4:n<=400:=by omega
 rw[hnS]at hOr hOv hnn hS11 hS13 ⊢;rw[Bg (g:=mc (fun _=>[]) (Dm p S) 0 (Dm p S 0)) fun a _ b _=>OZ (fun _=>[]) (Dm p S) a b]at hOr;rw[Bg (g:=mc (fun _=>[]) (CF n) 0 (CF n 0)) fun a ha b hb=>AaJ a b ha hb _]at hOv;have hcl:∀j,(Dm p S j).length=n:=fun j=>by rw[<-hnS];exact EH _ _ _ _
 have hz7:[Value.int .i64 0,.int .i64 0,.int .i64 0,.slice none 0 0]=[Value.int .i64 0,.int .i64 0,.int .i64 0,.slice none 0 0]:=rfl;refine A8 (fun sl h' ms'=>∃(R V:Nat->List Int) (la:List Int) (mr mv:Hp),sl=[(1,vf),(3,.pointer (some ⟨g3,0,none⟩)),(7,.pointer (some ⟨g7,0,none⟩)),(8,.pointer (some ⟨g8,0,none⟩)),(11,.pointer (some ⟨g11,0,none⟩)),(13,.pointer (some ⟨g13,0,none⟩))]/\h5=h'/\ms'=[mv,mr,Bl g8 65 [.int .i64 0,.int .i64 0,.int .i64 0,.slice none 0 0],Bl g7 65 [.int .i64 0,.int .i64 0,.int .i64 0,.slice none 0 0]]/\AllC p S n n R V la/\OwnL cI 1 3 mr er (CI n n fun i j=>(R j).getD i 0)/\OwnL cI 1 3 mv ev (CI n n fun i j=>(V j).getD i 0)) ?_ (fun s h ms hI=>?_)
 ·refine Ac (Ad (Qm Y (Am (Ag ?_))))
  refine Aw (fun q sl h' ms'=>∃(j:Nat) (R V:Nat->List Int) (la:List Int) (mr mv:Hp),q=n-j/\sl=[(1,vf),(2,.int .i64 p),(3,.pointer (some ⟨g3,0,none⟩)),(7,.pointer (some ⟨g7,0,none⟩)),(8,.pointer (some ⟨g8,0,none⟩)),(11,.pointer (some ⟨g11,0,none⟩)),(12,.int .i64 n),(13,.pointer (some ⟨g13,0,none⟩)),(14,.int .i64 j)]/\h5=h'/\ms'=[mv,mr,Bl g8 65 [.int .i64 0,.int .i64 0,.int .i64 0,.slice none 0 0],Bl g7 65 [.int .i64 0,.int .i64 0,.int .i64 0,.slice none 0 0]]/\j<=n/\AllC p S n j R V la/\OwnL cI 1 3 mr er (CI n n (mc R (Dm p S) j (Dm p S j)))/\OwnL cI 1 3 mv ev (CI n n (mc V (CF n) j (CF n j))))
   (n-0) _ ⟨0,_,_,_,mr,mv,rfl,rfl,rfl,rfl,by omega,P6 p S n,hOr,hOv⟩ Qs ?_
  rintro q sl h' ms' ⟨j,R,V,la,mr,mv,rfl,rfl,rfl,rfl,hj,A,hOr,hOv⟩;refine Ac (Ar (Qm Y (Qm Y (Qm Y (Am ?_)))));refine Ap Y (fun hjn=>?_) (fun hjn=>?_)
  ·have hjl:j<n:=by omega
   refine Ah (Ab (Ac (Ag (Ar (Qm Y (Am (Ag ?_)))))))
   refine Aw (fun q sl h' ms'=>∃(k:Nat) (y:Int) (r1 v1:List Int) (mr mv:Hp),q=(AX r1+1).toNat*401+(j-k)/\sl=[(1,vf),(2,.int .i64 p),(3,.pointer (some ⟨g3,0,none⟩)),(7,.pointer (some ⟨g7,0,none⟩)),(8,.pointer (some ⟨g8,0,none⟩)),(11,.pointer (some ⟨g11,0,none⟩)),(12,.int .i64 n),(13,.pointer (some ⟨g13,0,none⟩)),(14,.int .i64 j),(15,.int .i64 y)]/\h5=h'/\ms'=[mv,mr,Bl g8 65 [.int .i64 0,.int .i64 0,.int .i64 0,.slice none 0 0],Bl g7 65 [.int .i64 0,.int .i64 0,.int .i64 0,.slice none 0 0]]/\y=k/\k<=j/\r1.length=n/\v1.length=n/\Jc p r1/\Jc p v1/\Ops p n j R V (Dm p S j) (CF n j) r1 v1/\(∀k',k'<k->0<=AX r1->AX (R k')≠AX r1)/\OwnL cI 1 3 mr er (CI n n (mc R (Dm p S) j r1))/\OwnL cI 1 3 mv ev (CI n n (mc V (CF n) j v1)))
    _ _ ⟨0,0,Dm p S j,CF n j,mr,mv,rfl,rfl,rfl,rfl,rfl,by omega,hcl j,Jm _ _,Lp (by omega) _ _ _,Mi hpb _ _,.refl,fun _ h=>by omega,hOr,hOv⟩ Qs ?_
   rintro q sl h' ms' ⟨k,y,r1,v1,mr,mv,rfl,rfl,rfl,rfl,hy,hk,lr,lv,rr,rv,hOp,hfr,hOr,hOv⟩;refine Ac (Ar (Qm Y (Qm Y (Qm Y (Am ?_)))));refine Ap Y (fun hkj=>?_) (fun hkj=>?_)
   ·have hkl:k<j:=by omega
    have hkn:k<n:=by omega
    have lRk:=A.red.rl k hkl;have lVk:=A.red.vl k hkl
    have hL1:∀ms,mr∈ms->FnV Tryz.prog 88 #[.agg #[.int .i64 p,.int .i64 n,.int .i64 n,er],.int .i64 j] h5 ms (.int .i64 (AX r1)):=fun ms hm=>Cn fun h' hl hmm=>by
     have:=Lu p n (mc R (Dm p S) j r1) er j h' (hOr.rdh (hmm _ hm)) hn4 hjl []
     rwa [Aay _ _ _ _ lr]at this
    have hL2:∀ms,mr∈ms->FnV Tryz.prog 88 #[.agg #[.int .i64 p,.int .i64 n,.int .i64 n,er],.int .i64 y] h5 ms (.int .i64 (AX (R k))):=fun ms hm=>Cn fun h' hl hmm=>by
     have:=Lu p n (mc R (Dm p S) j r1) er k h' (hOr.rdh (hmm _ hm)) hn4 hkn [];rw[ZZ _ _ _ _ hkl lRk]at this
     rwa [hy]
    have s11:∀ms,Seg h5 ms (⟨g11,0,none⟩:Addr) [.int .i64 p,.int .i64 n,.int .i64 n,er]:=fun ms=>hS11.any;refine Ah (Ab (Ac (Ag (Ar (Qx (oG Y Jt BF (s11 _)) Y (Qm Y (Qx (AI Y call88 Y (hL1 _ (.tail _ (.head _)))) Y (Qm Y (Am (Ac (Ar (Qm Y (Qm Y (Am ?_))))))))))))));refine Ap Y (fun hneg=>?_) (fun hneg=>?_)
    ·obtain⟨la',A'⟩:=A.put hn4 lr lv rr rv hOp fun k' hk' h=>by omega
     rw[Bg fun a _ b _=>Kf R (Dm p S) j r1 a b]at hOr;rw[Bg fun a _ b _=>Kf V (CF n) j v1 a b]at hOv;refine As (Aa (Ek Y (Aa (Aa (Af (Ai (Ab (Ad (Qm Y (Qx (oA Y) Y (Qm Y (Al ?_))))))))))));exact Ak (n-(j+1)) _ (by omega) ⟨j+1,_,_,la',mr,mv,Y,Y,Y,Y,by omega,A',hOr,hOv⟩ Qs
    ·obtain⟨m,hm⟩:∃m:Nat,AX r1=m:=⟨(AX r1).toNat,by omega⟩
     refine Ah (Ab (Ac (Ar (Qx (oG Y Jt BF (s11 _)) Y (Qm Y (Qx (AI Y call88 Y (hL2 _ (.tail _ (.head _)))) Y (Qm Y (Qm Y (Am ?_)))))))));refine Ap Y (fun hne=>?_) (fun hne=>?_)
     ·refine As (Aa (Af (Ab (Ad (Qm Y (Qx (oA Y) Y (Qm Y (Al ?_))))))))
      exact Ak ((AX r1+1).toNat*401+(j-(k+1))) _ (by omega) ⟨k+1,y+1,r1,v1,mr,mv,Y,Y,Y,Y,by omega,by omega,lr,lv,rr,rv,hOp,fun k' hk' h=>by
       rcases (by omega:k'<k\/k'=k) with h1|rfl
       ·exact hfr k' h1 h
       ·exact hne,hOr,hOv⟩ Qs
     ·have hlk:AX (R k)=(m:Int):=by rw[<-hm];exact Classical.not_not.1 hne
      have hmn:m<n:=by have:=Dc r1;omega
      obtain⟨hk1,hk2,_⟩:=DN hlk;obtain⟨_,hi2,_⟩:=DN hm;have hi2':=hi2;have hk2':=hk2;have bx:=Dd (by omega) rr m;have bb:=Dd (by omega) (A.red.rr k hkl) m
      have cx:∀ms,mr∈ms->Cell h5 ms ((AE er).add ((m*n+j)*1)) (.int .i64 (r1.getD m 0)):=fun ms hq=>by
       have:=(hOr.rd (h:=h5) hq).ent hmn hjl
       rwa [show mc R (Dm p S) j r1 m j=r1.getD m 0 by unfold mc;rw[if_neg (by omega),if_pos rfl]]at this
      have cb:∀ms,mr∈ms->Cell h5 ms ((AE er).add ((m*n+k)*1)) (.int .i64 ((R k).getD m 0)):=fun ms hq=>by
       have:=(hOr.rd (h:=h5) hq).ent hmn hkn
       rwa [VJ _ _ _ _ hkl]at this
      obtain⟨x,hx⟩:∃x,r1.getD m 0=x:=⟨_,Y⟩
      obtain⟨b,hb⟩:∃b,(R k).getD m 0=b:=⟨_,Y⟩
      rw[hx]at cx bx;rw[hb]at cb bb;have hb0:b≠0:=by rw[<-hb];exact hk2
      have hinv:=MD hP (show 0<b by omega) bb.2;have hwb:=Py hpb b;have hov:=Xb b p h5 ⟨hpb,hpb2⟩ bb;obtain⟨w,hw⟩:∃w,Fv p b=w:=⟨_,Y⟩
      rw[hw]at hinv hwb hov;have hpw:0<=(p-x)*w/\(p-x)*w<=997*997:=⟨Int.mul_nonneg (by omega) (by omega),Int.mul_le_mul (by omega) (by omega) (by omega) (by omega)⟩
      have hkill:=Abh (x:=x) hinv (show 0<p by omega);have ht0:=Int.emod_nonneg ((p-x)*w) (show p≠0 by omega);have ht1:=Int.emod_lt_of_pos ((p-x)*w) (show 0<p by omega);have hix1:=Gg hmn hjl;have hix2:=Gg hmn hkn;have hml:(CI n n (mc R (Dm p S) j r1)).length=n*n:=Cy _ _ _;have hc1:(((m*n+j:Nat)):Int)=(m:Int)*(n:Int)+j:=by rw[Int.natCast_add,Int.natCast_mul]
      have hc2:(((m*n+k:Nat)):Int)=(m:Int)*(n:Int)+k:=by rw[Int.natCast_add,Int.natCast_mul]
      have hmn0:0<=(m:Int)*(n:Int):=Int.mul_nonneg (by omega) (by omega);rw[hm];subst hy;refine Ah (Ab (Ac (A7 24 CW (by kernel_rfl) Y (Wm Y (Wf Di Y (Wl Y AU (e11 _) (Wm Y (Wm Y (AK (oM Y) Y Y (Wm Y (AK (oA Y) Y Y (AK (AB ((m*n+j)) (hOr.rd (h:=h5) (ms:=[mv,mr,Bl g8 65 [.int .i64 0,.int .i64 0,.int .i64 0,.slice none 0 0],Bl g7 65 [.int .i64 0,.int .i64 0,.int .i64 0,.slice none 0 0]]) (.tail _ (.head _))).rd Y AU A5 Y Y (by omega) (by omega)) Y Y (Wl Y U3 (cx _ (.tail _ (.head _))) (AK (oS Y) Y Y (Wf Di Y (Wl Y AU (e11 _) (Wm Y (Wm Y (AK (oM Y) Y Y (Wm Y (AK (oA Y) Y Y (AK (AB ((m*n+k)) (hOr.rd (h:=h5) (ms:=[mv,mr,Bl g8 65 [.int .i64 0,.int .i64 0,.int .i64 0,.slice none 0 0],Bl g7 65 [.int .i64 0,.int .i64 0,.int .i64 0,.slice none 0 0]]) (.tail _ (.head _))).rd Y AU A5 Y Y (by omega) (by omega)) Y Y (Wl Y U3 (cb _ (.tail _ (.head _))) (Wm Y (AK (AI Y call89 Y (hov _)) Y Y (AK (oM Y) Y Y (Wm Y (AZ (Qx (BO Y Y Y (by omega) (by omega)) Y (Qm Y (Am (Ac (Ar (Qm Y (Am (Ag ?_))))))))))))))))))))))))))))))))))));obtain⟨tt,htt⟩:∃tt,(p-x)*w%p=tt:=⟨_,Y⟩
      rw[htt]at hkill ht0 ht1 ⊢;have hll:r1.length=(R k).length:=by rw[lr,lRk]
      have hlv:v1.length=(V k).length:=by rw[lv,lVk]
      have hless:=Mv (p:=p) (t:=tt) hll hm hlk (by rw[hx,hb];exact hkill);rw[show r1=Nt p r1 (R k) tt 0 from(Oj _ _ _ _).symm]at hOr;rw[show v1=Nt p v1 (V k) tt 0 from(Oj _ _ _ _).symm]at hOv
      refine Aw (fun q sl h' ms'=>∃(i:Nat) (mr mv:Hp),q=n-i/\sl=[(1,vf),(2,.int .i64 p),(3,.pointer (some ⟨g3,0,none⟩)),(7,.pointer (some ⟨g7,0,none⟩)),(8,.pointer (some ⟨g8,0,none⟩)),(11,.pointer (some ⟨g11,0,none⟩)),(12,.int .i64 n),(13,.pointer (some ⟨g13,0,none⟩)),(14,.int .i64 j),(15,.int .i64 k),(17,.int .i64 tt),(18,.int .i64 i)]/\h5=h'/\ms'=[mv,mr,Bl g8 65 [.int .i64 0,.int .i64 0,.int .i64 0,.slice none 0 0],Bl g7 65 [.int .i64 0,.int .i64 0,.int .i64 0,.slice none 0 0]]/\i<=n/\OwnL cI 1 3 mr er (CI n n (mc R (Dm p S) j (Nt p r1 (R k) tt i)))/\OwnL cI 1 3 mv ev (CI n n (mc V (CF n) j (Nt p v1 (V k) tt i))))
       (n-0) _ ⟨0,mr,mv,rfl,rfl,rfl,rfl,by omega,hOr,hOv⟩ Qs ?_
      rintro q sl h' ms' ⟨i,mr,mv,rfl,rfl,rfl,rfl,hi,hOr,hOv⟩;refine Ac (Ar (Qm Y (Qm Y (Qm Y (Am ?_)))));refine Ap Y (fun hin=>?_) (fun hin=>?_)
      ·have hil:i<n:=by omega
       have bx:=Dd (by omega) rr i;have bb:=Dd (by omega) (A.red.rr k hkl) i;have ux:=Dd (by omega) rv i;have ub:=Dd (by omega) (A.red.vr k hkl) i
       have cx:∀ms,mr∈ms->Cell h5 ms ((AE er).add ((i*n+j)*1)) (.int .i64 (r1.getD i 0)):=fun ms hq=>by
        have:=(hOr.rd (h:=h5) hq).ent hil hjl
        rwa [UA p R (Dm p S) j tt lr hil]at this
       have cb:∀ms,mr∈ms->Cell h5 ms ((AE er).add ((i*n+k)*1)) (.int .i64 ((R k).getD i 0)):=fun ms hq=>by
        have:=(hOr.rd (h:=h5) hq).ent hil hkn
        rwa [VJ _ _ _ _ hkl]at this
       have dx:∀ms,mv∈ms->Cell h5 ms ((AE ev).add ((i*n+j)*1)) (.int .i64 (v1.getD i 0)):=fun ms hq=>by
        have:=(hOv.rd (h:=h5) hq).ent hil hjl
        rwa [UA p V (CF n) j tt lv hil]at this
       have db:∀ms,mv∈ms->Cell h5 ms ((AE ev).add ((i*n+k)*1)) (.int .i64 ((V k).getD i 0)):=fun ms hq=>by
        have:=(hOv.rd (h:=h5) hq).ent hil hkn
        rwa [VJ _ _ _ _ hkl]at this
       have sR:=fun a b ha=>Sx p R (Dm p S) j (b1:=R k) tt lr hil a b ha;have sV:=fun a b ha=>Sx p V (CF n) j (b1:=V k) tt lv hil a b ha;obtain⟨x,hx⟩:∃x,r1.getD i 0=x:=⟨_,Y⟩
       obtain⟨b,hb⟩:∃b,(R k).getD i 0=b:=⟨_,Y⟩
       obtain⟨u,hu⟩:∃u,v1.getD i 0=u:=⟨_,Y⟩
       obtain⟨z,hz⟩:∃z,(V k).getD i 0=z:=⟨_,Y⟩
       rw[hx]at cx bx;rw[hb]at cb bb;rw[hu]at dx ux;rw[hz]at db ub;simp only[hx,hb]at sR;simp only[hu,hz]at sV;have hm1:0<=tt*b/\tt*b<=997*997:=⟨Int.mul_nonneg ht0 bb.1,Int.mul_le_mul (by omega) (by omega) (by omega) (by omega)⟩
       have hm2:0<=tt*z/\tt*z<=997*997:=⟨Int.mul_nonneg ht0 ub.1,Int.mul_le_mul (by omega) (by omega) (by omega) (by omega)⟩
       have hix1:=Gg hil hjl;have hix2:=Gg hil hkn;have hml1:(CI n n (mc R (Dm p S) j (Nt p r1 (R k) tt i))).length=n*n:=Cy _ _ _;have hml2:(CI n n (mc V (CF n) j (Nt p v1 (V k) tt i))).length=n*n:=Cy _ _ _;have hc1:(((i*n+j:Nat)):Int)=(i:Int)*(n:Int)+j:=by rw[Int.natCast_add,Int.natCast_mul]
       have hc2:(((i*n+k:Nat)):Int)=(i:Int)*(n:Int)+k:=by rw[Int.natCast_add,Int.natCast_mul]
       have hin0:0<=(i:Int)*(n:Int):=Int.mul_nonneg (by omega) (by omega);have hOr1:=hOr;refine Ah (Ab (Ac (Ag (Ac (A7 30 CW (by kernel_rfl) Y (Wf Di Y (Wl Y AU (e11 _) (Wm Y (Wm Y (AK (oM Y) Y Y (Wm Y (AK (oA Y) Y Y (Wf Di Y (Wl Y AU (e11 _) (Wm Y (Wm Y (AK (oM Y) Y Y (Wm Y (AK (oA Y) Y Y (AK (AB ((i*n+j)) (hOr1.rd (h:=h5) (ms:=[mv,mr,Bl g8 65 [.int .i64 0,.int .i64 0,.int .i64 0,.slice none 0 0],Bl g7 65 [.int .i64 0,.int .i64 0,.int .i64 0,.slice none 0 0]]) (.tail _ (.head _))).rd Y AU A5 Y Y (by omega) (by omega)) Y Y (Wl Y U3 (cx _ (.tail _ (.head _))) (Wm Y (Wf Di Y (Wl Y AU (e11 _) (Wm Y (Wm Y (AK (oM Y) Y Y (Wm Y (AK (oA Y) Y Y (AK (AB ((i*n+k)) (hOr1.rd (h:=h5) (ms:=[mv,mr,Bl g8 65 [.int .i64 0,.int .i64 0,.int .i64 0,.slice none 0 0],Bl g7 65 [.int .i64 0,.int .i64 0,.int .i64 0,.slice none 0 0]]) (.tail _ (.head _))).rd Y AU A5 Y Y (by omega) (by omega)) Y Y (Wl Y U3 (cb _ (.tail _ (.head _))) (AK (oM Y) Y Y (AK (oA Y) Y Y (Wm Y (AK (BO Y Y Y (by omega) (by omega)) Y Y (AZ (Qx (AB ((i*n+j)) (hOr1.rd (h:=h5) (ms:=[mv,mr,Bl g8 65 [.int .i64 0,.int .i64 0,.int .i64 0,.slice none 0 0],Bl g7 65 [.int .i64 0,.int .i64 0,.int .i64 0,.slice none 0 0]]) (.tail _ (.head _))).rd Y AU A5 Y Y (by omega) (by omega)) Y (Cj (F:=cI) (f:=fun x=>.int .i64 x) (a:=(x+tt*b)%p) 1 (i*n+j) (fun _=>rfl) hOr Y A5 Y Y Y Y (by omega) Y Y (fun m2 hO2=>?_)))))))))))))))))))))))))))))))))))))));rw[Hk _ hjl,Bg (g:=mc R (Dm p S) j (Nt p r1 (R k) tt (i+1))) (fun a ha b hb=>sR a b ha)]at hO2;refine Am (A7 30 CW (by kernel_rfl) Y (Wf Di Y (Wl Y AU (e13 _) (Wm Y (Wm Y (AK (oM Y) Y Y (Wm Y (AK (oA Y) Y Y (Wf Di Y (Wl Y AU (e13 _) (Wm Y (Wm Y (AK (oM Y) Y Y (Wm Y (AK (oA Y) Y Y (AK (AB ((i*n+j)) (hOv.rd (h:=h5) (ms:=[mv,m2,Bl g8 65 [.int .i64 0,.int .i64 0,.int .i64 0,.slice none 0 0],Bl g7 65 [.int .i64 0,.int .i64 0,.int .i64 0,.slice none 0 0]]) (.head _)).rd Y AU A5 Y Y (by omega) (by omega)) Y Y (Wl Y U3 (dx _ (.head _)) (Wm Y (Wf Di Y (Wl Y AU (e13 _) (Wm Y (Wm Y (AK (oM Y) Y Y (Wm Y (AK (oA Y) Y Y (AK (AB ((i*n+k)) (hOv.rd (h:=h5) (ms:=[mv,m2,Bl g8 65 [.int .i64 0,.int .i64 0,.int .i64 0,.slice none 0 0],Bl g7 65 [.int .i64 0,.int .i64 0,.int .i64 0,.slice none 0 0]]) (.head _)).rd Y AU A5 Y Y (by omega) (by omega)) Y Y (Wl Y U3 (db _ (.head _)) (AK (oM Y) Y Y (AK (oA Y) Y Y (Wm Y (AK (BO Y Y Y (by omega) (by omega)) Y Y (AZ (Qx (AB ((i*n+j)) (hOv.rd (h:=h5) (ms:=[mv,m2,Bl g8 65 [.int .i64 0,.int .i64 0,.int .i64 0,.slice none 0 0],Bl g7 65 [.int .i64 0,.int .i64 0,.int .i64 0,.slice none 0 0]]) (.head _)).rd Y AU A5 Y Y (by omega) (by omega)) Y (Cj (F:=cI) (f:=fun x=>.int .i64 x) (a:=(u+tt*z)%p) 0 (i*n+j) (fun _=>rfl) hOv Y A5 Y Y Y Y (by omega) Y Y (fun m3 hO3=>?_)))))))))))))))))))))))))))))))))));rw[Hk _ hjl,Bg (g:=mc V (CF n) j (Nt p v1 (V k) tt (i+1))) (fun a ha b hb=>sV a b ha)]at hO3;refine Al (Ai (Ab (Ad (Qm Y (Qx (oA Y) Y (Qm Y (Al ?_)))))));exact Ak (n-(i+1)) _ (by omega) ⟨i+1,m2,m3,Y,Y,Y,Y,by omega,hO2,hO3⟩ Qs
      ·obtain rfl:i=n:=by omega
       rw[show Nt p r1 (R k) tt i=Em p r1 (R k) tt by rw[<-lr];exact Sq p tt hll]at hOr;rw[show Nt p v1 (V k) tt i=Em p v1 (V k) tt by rw[<-lv];exact Sq p tt hlv]at hOv;have hlb:=Dc (Em p r1 (R k) tt);refine As (Aa (Aa (Af (Ab (Ad (Qm Y (Al (Ai (Ab (Ad (Qm Y (Qx (oA Y) Y (Qm Y (Al ?_))))))))))))));exact Ak ((AX (Em p r1 (R k) tt)+1).toNat*401+(j-0)) _ (by omega) ⟨0,-1+1,Em p r1 (R k) tt,Em p v1 (V k) tt,mr,mv,Y,Y,Y,Y,Y,by omega,by rw[DH hll,lr],by rw[DH hlv,lv],IC (by omega) _ _,IC (by omega) _ _,.step hOp hkl hmn ht0 ht1 hi2' hk2',fun _ h=>by omega,hOr,hOv⟩ Qs
   ·obtain⟨la',A'⟩:=A.put hn4 lr lv rr rv hOp fun k' hk'=>hfr k' (by omega);rw[Bg fun a _ b _=>Kf R (Dm p S) j r1 a b]at hOr;rw[Bg fun a _ b _=>Kf V (CF n) j v1 a b]at hOv;refine As (Aa (Aa (Af (Ai (Ab (Ad (Qm Y (Qx (oA Y) Y (Qm Y (Al ?_))))))))));exact Ak (n-(j+1)) _ (by omega) ⟨j+1,_,_,la',mr,mv,Y,Y,Y,Y,by omega,A',hOr,hOv⟩ Qs
  ·obtain rfl:j=n:=by omega
   rw[Bg (g:=fun i j=>(R j).getD i 0) fun a _ b hb=>VJ R _ _ _ hb a]at hOr;rw[Bg (g:=fun i j=>(V j).getD i 0) fun a _ b hb=>VJ V _ _ _ hb a]at hOv;refine As (Aa (Aa (Af ?_)));exact AF _ ⟨R,V,la,mr,mv,Y,Y,Y,A,hOr,hOv⟩ Qs
 ·obtain⟨R,V,la,mr,mv,rfl,rfl,rfl,A,hOr,hOv⟩:=hI;subst hnS;have s11:∀ms,Seg h5 ms (⟨g11,0,none⟩:Addr) [.int .i64 p,.int .i64 S.length,.int .i64 S.length,er]:=fun ms=>hS11.any;have s13:∀ms,Seg h5 ms (⟨g13,0,none⟩:Addr) [.int .i64 p,.int .i64 S.length,.int .i64 S.length,ev]:=fun ms=>hS13.any;have s3:∀ms,Seg h5 ms (⟨g3,0,none⟩:Addr) [v]:=fun ms=>hS3.any;refine Ac (BM (n:=9) (bs:=[true,true,false,true,true,false,false,false,false]) [true,true,false,true,true] CW (by kernel_rfl) (by kernel_rfl) Y Y (Qp Y (oG Y CB AY (s3 _)) (Qq Y (Qp Y (oG Y Jt BF (s11 _)) (Qp Y (oG Y Jt BF (s13 _)) ?_)))));unfold FU;simp only[cons_append,nil_append];refine Qo 2 Y (Qc call90 Y (Ru l F v vf _ hK hR hF hn hmon hl) (fun ro h6 ms6 l6 hQ=>?_));obtain⟨l6',S',mo,H',rfl,hOo⟩:=hQ;rw[H.ids H']at hOo;refine Qa (Qo 5 Y (Qm Y (Qa (Qo 6 Y ?_))));refine Sa 4 [_,_,_,_] BF Y (by simp[o1,o2,oer,oev]) ?_;refine Qa (Qo 7 Y ?_);refine Sa 3 [_,_,_,_] BF Y (by simp[o1,o2,oer,oev]) ?_;refine Qa (Qo 8 Y (Qm Y (Qa (Qe (Ab (An ?_))))));exact Ou (vs1:=[_,_,_,_]) (vs2:=[_,_,_,_]) 4 3 Y Y Y Y Y Jt Y BF Y Y Y Y ⟨AJ l23 (AJ l5 l6'),S,R,V,ro,er,ev,mo,mr,mv,⟨H.perm,H.srt,la,A⟩,Y,Y,hOo,hOr,hOv⟩
variable {L:List Int} {S:List Ce} {f:Int->Int} {i:Nat}
def lj(L:List Int)(i:Int):Nat->Option Nat
 | 0=>none
 | k+1=>if L.getD k 0=i then some k else lj L i k
theorem Sc{i:Int}:∀{k j:Nat},lj L i k=some j->j<k/\L.getD j 0=i
 | 0,j,h=>by cases h
 | k+1,j,h=>by
  unfold lj at h;split at h
  ·cases h;rename_i e;exact⟨by omega,e⟩
  ·have:=Sc h;exact⟨by omega,this.2⟩
theorem NH{i:Int}(hi:0<=i):∀n,Bm (CZ L n) i=(lj L i n).map fun(j:Nat)=>(j:Int)
 | 0=>rfl
 | n+1=>by
  unfold CZ lj;by_cases h:L.getD n 0=i
  ·rw[if_pos (by omega),if_pos h,h,C0,if_pos rfl];rfl
  ·rw[if_neg h];split
   ·rw[C0,if_neg (fun e=>h e.symm)];exact NH hi n
   ·exact NH hi n
def rB(f:Int->Int)(S:List Ce)(L:List Int)(i k:Nat):Br:=match lj L i k with
 | some j=>⟨(Cq S i).dim,f (Cq S i).id,f (Cq S j).id,false,(Cq S i).id,(Cq S j).id⟩
 | none=>⟨(Cq S i).dim,f (Cq S i).id,0,decide (L.getD i 0<0),(Cq S i).id,0⟩
theorem Z7{k:Nat}(h:L.getD k 0=i):rB f S L i (k+1)=⟨(rB f S L i k).dim,(rB f S L i k).birth,f (Cq S k).id,false,(rB f S L i k).low,(Cq S k).id⟩:=by unfold rB;rw[show lj L i (k+1)=some k by unfold lj;rw[if_pos h]];cases lj L i k<;>rfl
theorem Za{k:Nat}(h:L.getD k 0≠i):rB f S L i (k+1)=rB f S L i k:=by unfold rB;rw[show lj L i (k+1)=lj L i k by conv=>lhs;unfold lj;rw[if_neg h]]
def Mo(b:Br):Bool:=b.opn||(decide (b.high≠0)&&decide (b.birth≠b.death))
theorem ZR(hL:L.length=S.length)(hi:i<S.length)(hid:∀j,j<S.length->1<=(Cq S j).id)(hlt:∀j,j<S.length->L.getD j 0<j)(hf:∀a b,a<b->b<S.length->f (Cq S a).id<=f (Cq S b).id) :
  (if Mo (rB f S L i S.length) then [rB f S L i S.length] else [])=GP f S L i:=by
 unfold GP;rw[hL,NH (by omega)];unfold rB Mo;cases e:lj L i S.length with
 | none=>
  simp only[Option.map_none,ne_eq,decide_not,Bool.or_false,Bool.false_and];by_cases h:L.getD i 0<0
  ·rw[if_pos (by rw[decide_eq_true h];rfl),if_pos h,decide_eq_true h];rfl
  ·rw[if_neg (by rw[decide_eq_false h];simp),if_neg h]
 | some j=>
  obtain⟨h1,h2⟩:=Sc e;have h3:=hlt j h1;have h4:=hf i j (by omega) h1;have h5:=hid j h1;simp only[Option.map_some,ne_eq,Bool.false_or,Int.toNat_natCast];by_cases h:f (Cq S i).id<f (Cq S j).id
  ·rw[if_pos (by rw[decide_eq_true (show ¬(Cq S j).id=0 by omega),decide_eq_true (show ¬f (Cq S i).id=f (Cq S j).id by omega)];rfl)];rw[if_pos (show f (S.getD i default).c.id<f (S.getD j default).c.id from h)];rfl
  ·rw[if_neg (by rw[decide_eq_false (show ¬¬f (Cq S i).id=f (Cq S j).id by omega)];simp)];rw[if_neg (show ¬f (S.getD i default).c.id<f (S.getD j default).c.id from h)]
theorem Tr{S':List Ce}(h:S'.map Ce.c=S.map Ce.c)(i:Nat):Cq S' i=Cq S i:=by
 have hl:S'.length=S.length:=by have:=congrArg List.length h;rwa [length_map,length_map]at this
 have h1:=congrArg (fun l=>l[i]?) h;simp only[List.getElem?_map]at h1;unfold Cq;simp only[List.getD];by_cases hi:i<S.length
 ·rw[List.getElem?_eq_getElem (by omega),List.getElem?_eq_getElem hi]at h1 ⊢;simpa using h1
 ·rw[List.getElem?_eq_none (by omega),List.getElem?_eq_none (by omega)]
theorem SrtH.fmono{F:List (Int×Int)}{l:List Ce}(H:SrtH F l S){a b:Nat}(hab:a<b)(hb:b<S.length):Cb (A6 F) (Cq S a).id<=Cb (A6 F) (Cq S b).id:=by have:=List.pairwise_iff_getElem.1 H.srt a b (by omega) hb hab;rw[CJ hb,CJ (show a<S.length by omega)];omega
noncomputable def G4(n:Nat)(G:Nat->Nat->Int):List Int:=(range n).map fun j=>AX (FB n fun i=>G i j)
theorem Ul(n:Nat)(G:Nat->Nat->Int):(G4 n G).length=n:=by unfold G4;simp
theorem Uh{n:Nat}(G:Nat->Nat->Int){j:Nat}(hj:j<n):(G4 n G).getD j 0=AX (FB n fun i=>G i j):=by unfold G4;simp[List.getD,hj]
theorem S6(l S:List Ce)(F:List (Int×Int))(v vf er:Value)(p:Int)(G:Nat->Nat->Int)(hp:Hp)(hK:RgC l)(hR:RdC hp v l)(hF:RdL cV 2 hp [] vf F)(hn:(F.map Prod.fst).Nodup)(hb:∀c,-2000000000<=Cb (A6 F) c/\Cb (A6 F) c<=2000000000)(H:SrtH F l S)(hl:l.length<=400)(hG:RdL cI 1 hp [] er (CI S.length S.length G))(hlt:∀j,j<S.length->(G4 S.length G).getD j 0<j):FnT Tryz.prog 53 #[.agg #[v],vf,.agg #[.int .i64 p,.int .i64 S.length,.int .i64 S.length,er]] hp [] (fun r h' ms'=>hp.le h'/\∃m,ms'=[m]/\OwnL JY 6 43 m r (Do (Cb (A6 F)) S (G4 S.length G) S.length)):=by
 have o1:=hR.q.rd.one;have o2:=hF.rd.one;have o3:=hG.rd.one;have hSl:=H.len;have hn4:S.length<=400:=by omega
 refine Aq func53 ntmps53 Y Y (fun w0 hw0=>?_);simp only[AW];refine Ar (AV [_] Y Y (by rfl) Y Y Y (fun g3=>AV [_,_,_,_] Y Y (by rfl) Y Y Y (fun g5=>Qm Y (Am (Az fun h1 l1 hS5=>(Az fun h2 l2 hS3=>?_))))));have l12:=AJ l1 l2;have hR:=hR.up l12;have hF:=hF.up l12;refine Ar (Qx (oG Y CB AY (Seg.any hS3)) Y (Qm Y (Qc call122 Y (GI l F v vf h2 hK hR hF hn) (fun r7 h3 ms3 l3 hQ=>?_))));obtain⟨l3',mS,S',rfl,hOS,hpm,hsrt,hsS⟩:=hQ;have H':SrtH F l S':=⟨hpm,hsrt,hK.F.rgt,H.mon⟩
 have heq:=H.uniq H';have hsc:=fun i=>Tr heq i;have hS'l:S'.length=S.length:=by rw[H'.len,hSl]
 refine Qm Y (Am (Bc hOS fun h4 l4 hRS=>?_));have l24:=AJ l3 l4;have hF:=hF.up l24;have hG:=hG.up (AJ l12 l24);have hS5:=hS5.le (AJ l2 l24);have o7:=hRS.rd.one
 have hvv:∀c ms,FnV Tryz.prog 71 #[vf,.int .i64 c] h4 ms (.tuple #[.int .i64 (Cb (A6 F) c),.bool (Iu F c).isSome]):=fun c ms=>by
  have:=F9 F vf c h4 hF ms
  rwa [show(Iu F c).getD 0=Cb (A6 F) c from Hb hn c]at this
 have hLv:∀j,j<S.length->∀ms,FnV Tryz.prog 88 #[.agg #[.int .i64 p,.int .i64 S.length,.int .i64 S.length,er],.int .i64 j] h4 ms (.int .i64 ((G4 S.length G).getD j 0)):=fun j hj ms=>by
  have:=Lu p S.length G er j h4 hG hn4 hj ms
  rwa [<-Uh G hj]at this
 have hid:∀j,j<S.length->1<=(Cq S j).id:=fun j hj=>hK.F.rgt.pos _ (H.mem hj);have hbars:=fun i (hi:i<S.length)=>ZR (f:=Cb (A6 F)) (L:=G4 S.length G) (Ul _ _) hi hid hlt fun a b hab hb=>H.fmono hab hb;obtain⟨f,hf⟩:∃f,Cb (A6 F)=f:=⟨_,Y⟩
 obtain⟨L,hL⟩:∃L,G4 S.length G=L:=⟨_,Y⟩
 rw[hf]at hvv hbars hb ⊢;rw[hL]at hLv hlt hbars ⊢;have s5:∀h',h4.le h'->∀ms,Seg h' ms (⟨g5,0,none⟩:Addr) [.int .i64 p,.int .i64 S.length,.int .i64 S.length,er]:=fun h' l' ms=>(hS5.le l').any;refine Ar (Qm Y (Am (Ac (Ar (Qm Y (Am (Ag (BG ?_))))))))
 refine Aw (fun q sl h' ms'=>∃(i:Nat) (vo:Value) (mo:Hp),q=S'.length-i/\sl=[(1,vf),(5,.pointer (some ⟨g5,0,none⟩)),(7,r7),(8,vo),(9,.int .i64 i)]/\h4=h'/\ms'=[mo]/\i<=S'.length/\OwnL JY 6 43 mo vo (Do f S L i))
  (S'.length-0) _ ⟨0,_,Hp.emp,rfl,rfl,rfl,rfl,by omega,OwnL.nil Ff⟩ Qs ?_
 rintro q sl h' ms' ⟨i,vo,mo,rfl,rfl,rfl,rfl,hi,hO⟩;have ovo:=hO.o1;have s5:=s5 h4 (DT);refine Ac (Ar (Qm Y (Qm Y (Qx (Au hRS.rd.any Y A9 Y) Y (Qm Y (Am ?_))))));refine Ap Y (fun hil=>?_) (fun hil=>?_)
 ·have hiS:i<S'.length:=by omega
  have hiS0:i<S.length:=by omega
  have c0:∀ms,Cell h4 ms (((AE r7).add (i*3)).add 0) (.int .i64 (Cq S i).id):=fun ms=>by rw[<-hsc i,CJ hiS];exact(hRS.any (ms:=ms)).cell hiS (f:=0) Y
  have c1:∀ms,Cell h4 ms (((AE r7).add (i*3)).add 1) (.int .i64 (Cq S i).dim):=fun ms=>by rw[<-hsc i,CJ hiS];exact(hRS.any (ms:=ms)).cell hiS (f:=1) Y
  refine Ah (Ab (Ac (Ag (Ar (Qm Y (Qm Y (Qm Y (Qx (BE (i) hRS.rd.any Y A9 AG Y Y) Y (Qf Bi Y (Ql Y U3 (c0 _) (Qx (AI Y call71 Y (hvv _ _)) Y (Qm Y (Qm Y (Qm Y (Qm Y (Qm Y (Am (Ac (A7 17 CW (by kernel_rfl) Y (Wm Y (Wm Y (AK (BE (i) hRS.rd.any Y A9 AG Y Y) Y Y (Wf BJ Y (Wl Y U3 (c1 _) (Wm Y (AK (oG Y Jt BF (s5 _)) Y Y (Wm Y (AK (AI Y call88 Y (hLv i hiS0 _)) Y Y (Wm Y (Wm Y (Wm Y (AK (BE (i) hRS.rd.any Y A9 AG Y Y) Y Y (Wf Bi Y (Wl Y U3 (c0 _) (AK (A4 WJ [.int .i64 0,.int .i64 0,.int .i64 0,.bool false,.int .i64 0,.int .i64 0] [(0,_),(1,_),(3,_),(4,_)] [_,_,_,_,_,_] Y ER Y Y Qt Y) Y Y (Ui (Ja [.int .i64 0,.int .i64 0,.int .i64 0,.bool false,.int .i64 0,.int .i64 0] Y ER Y) Y Y (HF (fun g12=>?_))))))))))))))))))))))))))))))))))))));refine Sa 0 [_,_,_,_,_,_] ER Y (by simp[Value.oneCell']) ?_;refine Am (Ac (Ar (Qm Y (Am (Ag ?_)))))
  refine Aw (fun q sl h' ms'=>∃(j:Nat),q=S'.length-j/\sl=[(1,vf),(5,.pointer (some ⟨g5,0,none⟩)),(7,r7),(8,vo),(9,.int .i64 i),(12,.pointer (some ⟨g12,0,none⟩)),(13,.int .i64 j)]/\h4=h'/\ms'=[Bl g12 43 (JY (rB f S L i j)),mo]/\j<=S'.length)
   (S'.length-0) _ ⟨0,rfl,rfl,rfl,rfl,by omega⟩ Qs ?_
  rintro q sl h' ms' ⟨j,rfl,rfl,rfl,rfl,hj⟩;refine Ac (Ar (Qm Y (Qm Y (Qx (Au hRS.rd.any Y A9 Y) Y (Qm Y (Am ?_))))));refine Ap Y (fun hjl=>?_) (fun hjl=>?_)
  ·have hjS:j<S'.length:=by omega
   have hjS0:j<S.length:=by omega
   have d0:∀ms,Cell h4 ms (((AE r7).add (j*3)).add 0) (.int .i64 (Cq S j).id):=fun ms=>by rw[<-hsc j,CJ hjS];exact(hRS.any (ms:=ms)).cell hjS (f:=0) Y
   refine Ah (Ab (Ac (Ag (Ar (Qx (oG Y Jt BF (s5 _)) Y (Qm Y (Qx (AI Y call88 Y (hLv j hjS0 _)) Y (Qm Y (Qm Y (Am ?_))))))))));refine Ap Y (fun he=>?_) (fun he=>?_)
   ·have hh:=Z7 (f:=f) (S:=S) he;generalize rB f S L i j=b at *;refine Ar (Qf KN Y (AP 0 _ Y Wd Y Y (by rfl) Y Y (of_decide_eq_true Y) Y Y (Am ?_)));simp only[JY,List.set_cons_succ,List.set_cons_zero];refine Ar (Qm Y (Qm Y (Qx (BE (j) hRS.rd.any Y A9 AG Y Y) Y (Qf Bi Y (Ql Y U3 (d0 _) (Qf NO Y ?_))))));refine AP 0 _ Y A5 Y Y (by rfl) Y Y (by(simp;done)) rfl rfl ?_;refine Am ?_;simp only[JY,List.set_cons_succ,List.set_cons_zero];refine Ad (Qm Y (Qm Y (Qm Y (Qx (BE (j) hRS.rd.any Y A9 AG Y Y) Y (Qf Bi Y (Ql Y U3 (d0 _) (Qx (AI Y call71 Y (hvv _ _)) Y (Qm Y (Qm Y (Qm Y (Qf MF Y ?_)))))))))));refine AP 0 _ Y A5 Y Y (by rfl) Y Y (by(simp;done)) rfl rfl ?_;refine Al (Ai (Ab (Ad (Qm Y (Qx (oA Y) Y (Qm Y (Al ?_)))))));exact Ak (S'.length-(j+1)) _ (by omega) ⟨j+1,Y,Y,Y,by rw[hh];rfl,by omega⟩ Qs
   ·have hm:=Za (f:=f) (S:=S) he;refine Ah (Ai (Ab (Ad (Qm Y (Qx (oA Y) Y (Qm Y (Al ?_)))))));exact Ak (S'.length-(j+1)) _ (by omega) ⟨j+1,Y,Y,Y,by rw[hm],by omega⟩ Qs
  ·have hje:j=S.length:=by omega
   rw[hje];have hnx:=DV f S L i;rw[<-hbars i hiS0]at hnx;have hbl:=G8 f S L i;generalize rB f S L i S.length=b at *;refine As (Aa (Aa (Af (Ab (Ar (Qf KN Y (Ql Y U4 (Cell.blk 0 Y Y) (Qm Y ?_))))))));refine Hl (t:=80) Y (fun hop=>?_) (fun hop=>?_)
   ·rw[if_pos (by unfold Mo;rw[hop];rfl)]at hnx;refine Qk Y (Qk Y (Qk Y (Qk Y (A0 Y Y Y Y Y Y (A0 Y Y Y Y Y Y (A0 Y Y Y Y Y Y (A0 Y Y Y Y Y Y (A0 Y Y Y Y Y Y (Qk Y (Qm Y (Am (BC Y (Ad (Qm Y (Qx (oG Y U43 ER (Seg.blk 0 Y)) Y (Ao [_,_,_,_,_,_] Y RQ ER Y (by rfl) Y Y (by omega) Y Y Y (fun g94=>?_)))))))))))))))));refine AR 2 hO (RdL.one Ff (x:=b) Mh Y) Y RQ ER Y (by omega) Y Y Y J4 (by simp;omega) (by simp;omega) rfl rfl rfl (fun v6 m6 hO6=>?_);rw[<-hnx]at hO6;refine Qm Y (Al (Ai (Ab (Ad (Qm Y (Qx (oA Y) Y (Qm Y (Al (A3 0 Y (A3 0 Y ?_))))))))));exact Ak (S'.length-(i+1)) _ (by omega) ⟨i+1,v6,m6,Y,Y,Y,Y,by omega,hO6⟩ Qs
   ·refine Qg (oF NO Y) Y (Qg (oL Y U3 (Cell.blk 0 Y Y)) Y (Qg (Ec Y Y Y) Y (Qg (Ay Y Y) Y ?_)));refine AN (t:=84) Y (fun hh0=>?_) (fun hh0=>?_)
    ·refine Qg (oF V7 Y) Y (Qg (oL Y U3 (Cell.blk 0 Y Y)) Y (Qg (oF MF Y) Y (Qg (oL Y U3 (Cell.blk 0 Y Y)) Y (Qg (Ec Y Y Y) Y (Qg (CH Y Y Y) Y (Qm Y (Am ?_)))))));refine Ap Y (fun hbd=>?_) (fun hbd=>?_)
     ·rw[if_pos (by unfold Mo;rw[hop,decide_eq_true hh0,decide_eq_true hbd];rfl)]at hnx;refine Ad (Qm Y (Qx (oG Y U43 ER (Seg.blk 0 Y)) Y (Ao [_,_,_,_,_,_] Y RQ ER Y (by rfl) Y Y (by omega) Y Y Y (fun g94=>?_))));refine AR 2 hO (RdL.one Ff (x:=b) Mh Y) Y RQ ER Y (by omega) Y Y Y J4 (by simp;omega) (by simp;omega) rfl rfl rfl (fun v6 m6 hO6=>?_);rw[<-hnx]at hO6;refine Qm Y (Al (Ai (Ab (Ad (Qm Y (Qx (oA Y) Y (Qm Y (Al (A3 0 Y (A3 0 Y ?_))))))))));exact Ak (S'.length-(i+1)) _ (by omega) ⟨i+1,v6,m6,Y,Y,Y,Y,by omega,hO6⟩ Qs
     ·rw[if_neg (by unfold Mo;rw[hop,decide_eq_false hbd];simp),append_nil]at hnx;rw[<-hnx]at hO;refine Ah (Ai (Ab (Ad (Qm Y (Qx (oA Y) Y (Qm Y (Al (A3 0 Y ?_))))))));exact Ak (S'.length-(i+1)) _ (by omega) ⟨i+1,vo,mo,Y,Y,Y,Y,by omega,hO⟩ Qs
    ·rw[if_neg (by unfold Mo;rw[hop,decide_eq_false hh0];simp),append_nil]at hnx;rw[<-hnx]at hO;refine Qk Y (Qk Y (Qk Y (Qk Y (Qk Y (Qg (Cm Y Y Y) Y (Qm Y (Am (AQ Y (Ah (Ai (Ab (Ad (Qm Y (Qx (oA Y) Y (Qm Y (Al (A3 0 Y ?_)))))))))))))))));exact Ak (S'.length-(i+1)) _ (by omega) ⟨i+1,vo,mo,Y,Y,Y,Y,by omega,hO⟩ Qs
 ·obtain rfl:i=S'.length:=by omega
  rw[hS'l]at hO;refine As (Aa (Aa (Af (Ab (Ar (Qm Y (Qm Y (Am (An ?_)))))))));exact Av Y Y (⟨AJ l12 l24,mo,Y,hO⟩)
end Go.Proofs.Q

namespace Go.Proofs.Q
open Go.Proofs.Tryz
open Go.Eng Go.RowKit Go.Lin Go.Sort Go.Srt
theorem Xx{o:List Cl}{F:List (Int×Int)}{p:Int}(h0:(DF o F).2=0)(hE:DU o F p≠0):¬IsP p/\DU o F p=46:=by
 unfold DU at *;rw[if_neg (fun h=>h h0)]at *;by_cases hP:IsP p
 ·rw[if_pos hP]at hE;exact absurd Y hE
 ·exact⟨hP,if_neg hP⟩
theorem Tf(l:List Ce)(F:List (Int×Int))(v vf:Value)(p:Int)(hp:Hp)(hK:RgC l)(hR:RdC hp v l)(hF:RdL cV 2 hp [] vf F)(hV:GA F)(hI:BN p)(hE:DU (cn l) F p≠0):FnT Tryz.prog 91 #[.agg #[v],vf,.int .i64 p] hp [] (fun r h' ms'=>r=.tuple #[.pointer none,.int .i64 (DU (cn l) F p)]):=by
 have o1:=hR.q.rd.one;have o2:=hF.rd.one;have hG:=hK.F.rgt;refine Aq func91 ntmps91 Y Y (fun w0 hw0=>?_);simp only[AW];refine Ar (AV [_] Y Y (by rfl) Y Y Y (fun g3=>Qm Y (Qm Y (Am (Az fun h1 l1 hS=>?_)))));have hR:=hR.up l1;have hF:=hF.up l1;have hck:=fun ms=>EO (Fh l F v vf h1 hK hR hF hV) ms;have hre:(DF (cn l) F).2≠0->DU (cn l) F p=(DF (cn l) F).2:=fun h=>by unfold DU;rw[if_pos h]
 have hno:=Xx (o:=cn l) (F:=F) (p:=p);generalize DU (cn l) F p=ee at *;generalize DF (cn l) F=cc at *;refine Ac (Ar (Qx (oG Y CB AY (Seg.any hS)) Y (Qm Y (Qx (AI Y call24 Y (hck _)) Y (Qm Y (Qm Y (Qm Y (Qm Y (Qm Y (BH (Qm Y (Qm Y (Am ?_)))))))))))));refine Ap Y (fun he=>?_) (fun he=>?_)
 ·refine Ac (Ad (Qm Y (Qm Y (Qm Y (Am (An (Ae ?_)))))));exact Bq Y Y Y (by rw[hre he];rfl)
 ·obtain⟨hnp,e46⟩:=hno (Classical.not_not.1 he) hE;refine Ah (Ab (Ar (Qm Y (Qx (oG Y CB AY (Seg.any hS)) Y (Qc call65 Y (Hr l v _ hK hR) (fun rC h2 ms2 l2 hQ=>?_))))));obtain⟨l2',mC,A,vA,rfl,rfl,hOC,hAl,hsA⟩:=hQ;have hF:=hF.up l2;refine Qx (D0 Y CB Y A9 Y Y Y) Y (Qm Y (Qc call66 Y (HH F vf _ hF hV.n hV.k) (fun rL h3 ms3 l3 hL=>?_)));obtain⟨l3',gL,mL,bL,rfl,rfl,hOL⟩:=hL;have ovA:=hOC.o1;have cvA:vA.cells=#[vA]:=(hOC.rd (h:=h3) (ms:=[mC]) Mh).rd.cells;refine Qx (A4 Zt box0 [(0,[_]),(1,[vA]),(2,[_])] (EY p vA gL (.slice none 0 0) (.slice none 0 0) (replicate 400 0)) Y Zn (by kernel_rfl) Y (by rw[Pz];exact⟨⟨Y,Y,Y⟩,⟨cvA,Y,Y⟩,⟨Y,Y,Y⟩,trivial⟩) (Og p vA gL)) Y ?_;refine AV (EY p vA gL (.slice none 0 0) (.slice none 0 0) (replicate 400 0)) Y Y Y Y Y Y (fun g34=>CG [.pointer none] Y Zh Y Y (fun g10=>AP 0 0 Y Zh Y Y (by rfl) Y Y (by decide) Y Y (Am (Ac (Ag (Ar (Qm Y (Qx (AI Y call54 Y (J8 p h3 hI _)) Y (Qm Y (Qm Y (Am ?_)))))))))));refine Bx Y (fun hpr=>?_) (fun hpr=>?_)
  ·refine Ac (Ad (Qm Y (Qm Y (Am (An (Aj (Ae ?_)))))));exact Bq Y Y Y (by rw[e46])
  ·exact absurd (of_decide_eq_true (by simpa using hpr)) hnp
theorem Pk(l:List Ce)(F:List (Int×Int))(v vf:Value)(p:Int)(hp:Hp)(hK:RgC l)(hR:RdC hp v l)(hF:RdL cV 2 hp [] vf F)(hV:GA F)(hI:BN p)(hE:DU (cn l) F p≠0):FnT Tryz.prog 51 #[.agg #[v],vf,.int .i64 p] hp [] (fun r h' ms'=>r=.tuple #[.pointer none,.slice none 0 0,.int .i64 (DU (cn l) F p)]):=by have o1:=hR.q.rd.one;have o2:=hF.rd.one;refine Aq func51 ntmps51 Y Y (fun w0 hw0=>?_);simp only[AW];refine Ar (AV [_] Y Y (by rfl) Y Y Y (fun g3=>Qm Y (Qm Y (Qm Y (Am (Az fun h1 l1 hS=>?_))))));have hb:=fun ms=>EO (Tf l F v vf p h1 hK (hR.up l1) (hF.up l1) hV hI hE) ms;generalize DU (cn l) F p=ee at *;refine Ar (Qx (oG Y CB AY (Seg.any hS)) Y (Qm Y (Qm Y (Qx (AI Y call91 Y (hb _)) Y (Qm Y (Qm Y (Qm Y (Qm Y (Qm Y (Am (Ac (Ar (Qm Y (Qm Y (Am ?_)))))))))))))));refine Ap Y (fun hc=>?_) (fun hc=>absurd (hE) hc);refine Ar (Qm Y (Qm Y (Qm Y (Qm Y (Am (An (Ae ?_)))))));exact Sz Y Y Y Y (Y)
theorem Ob(l:List Ce)(F:List (Int×Int))(v vf:Value)(p:Int)(hp:Hp)(hK:RgC l)(hR:RdC hp v l)(hF:RdL cV 2 hp [] vf F)(hV:GA F)(hI:BN p)(hE:DU (cn l) F p≠0):FnT Tryz.prog 15 #[.agg #[v],vf,.int .i64 p] hp [] (fun r h' ms'=>r=.tuple #[.slice none 0 0,.int .i64 (DU (cn l) F p)]):=by have o1:=hR.q.rd.one;have o2:=hF.rd.one;refine Aq func15 ntmps15 Y Y (fun w0 hw0=>?_);simp only[AW];refine Ar (AV [_] Y Y (by rfl) Y Y Y (fun g3=>Qm Y (Qm Y (Am (Az fun h1 l1 hS=>?_)))));have hb:=fun ms=>EO (Pk l F v vf p h1 hK (hR.up l1) (hF.up l1) hV hI hE) ms;generalize DU (cn l) F p=ee at *;refine Ar (Qx (oG Y CB AY (Seg.any hS)) Y (Qm Y (Qm Y (Qx (AI Y call51 Y (hb _)) Y (Qm Y (Qm Y (Qm Y (Qm Y (Qm Y (Qm Y (Qm Y (Am (Ac (Ar (Qm Y (Qm Y (Am ?_)))))))))))))))));refine Ap Y (fun hc=>?_) (fun hc=>absurd (hE) hc);refine Ar (Qm Y (Qm Y (Qm Y (Am (An (Ae ?_))))));exact Bq Y Y Y (Y)
theorem MM(l:List Ce)(F:List (Int×Int))(v vf:Value)(p:Int)(hp:Hp)(hK:RgC l)(hR:RdC hp v l)(hF:RdL cV 2 hp [] vf F)(hV:GA F)(hI:BN p)(hl:l.length<=400)(hE:DU (cn l) F p≠0):FnT Tryz.prog 33 #[.agg #[v],vf,.int .i64 p] hp [] (fun r h' ms'=>r=.tuple #[.slice none 0 0,.agg #[.int .i64 0,.int .i64 0,.int .i64 0,.slice none 0 0],.agg #[.int .i64 0,.int .i64 0,.int .i64 0,.slice none 0 0],.int .i64 (DU (cn l) F p)]):=by have o1:=hR.q.rd.one;have o2:=hF.rd.one;refine Aq func33 ntmps33 Y Y (fun w0 hw0=>?_);simp only[AW];refine Ar (AV [_] Y Y (by rfl) Y Y Y (fun g3=>Qm Y (CG [.int .i64 0,.int .i64 0,.int .i64 0,.slice none 0 0] Y BF Y Y (fun g7=>CG [.int .i64 0,.int .i64 0,.int .i64 0,.slice none 0 0] Y BF Y Y (fun g8=>Qm Y (Am (Bp 2 Y fun h1 l1 hS=>?_)))))));have her:=fun ms=>EO (JH l F v vf p h1 hK (hR.up l1) (hF.up l1) hV hI hl) ms;generalize DU (cn l) F p=ee at *;refine Ar (Qx (oG Y CB AY (Seg.any hS)) Y (Qm Y (Qm Y (Qx (AI Y call85 Y (her _)) Y (Qm Y (Am (Ac (Ar (Qm Y (Qm Y (Am ?_)))))))))));refine Ap Y (fun hc=>?_) (fun hc=>absurd (hE) hc);refine Ar (Qx (A4 QT [.int .i64 0,.int .i64 0,.int .i64 0,.slice none 0 0] [] [_,_,_,_] Y BF Y Y Qt Y) Y (Qx (A4 QT [.int .i64 0,.int .i64 0,.int .i64 0,.slice none 0 0] [] [_,_,_,_] Y BF Y Y Qt Y) Y (Qm Y (Qm Y ?_))));refine Sa 1 [_,_,_,_] BF Y (by simp[Value.oneCell']) ?_;refine Sa 0 [_,_,_,_] BF Y (by simp[Value.oneCell']) ?_;refine Qm Y (Am (An (Ae ?_)));exact Ou (vs1:=[_,_,_,_]) (vs2:=[_,_,_,_]) 1 0 Y Y Y Y Y Jt Y BF Y Y Y Y Y
variable {S:List Ce} {R:Nat->List Int}
theorem Rj(h:∀k,k<S.length->(R k).length=S.length):G4 S.length (fun i j=>(R j).getD i 0)=Dr S R:=by unfold G4 Dr;refine List.map_congr_left fun k hk=>?_;rw[Kt (h k (List.mem_range.1 hk))]
theorem PerH.low_lj{p:Int}{F:List (Int×Int)}{l:List Ce}{V:Nat->List Int}(H:PerH p F l S R V){j:Nat}(hj:j<S.length):(Dr S R).getD j 0<j:=by
 rw[Gb S R hj];have hb:=Dc (R j);by_cases h:AX (R j)<0
 ·omega
 ·have:=(H.low_lt (m:=(AX (R j)).toNat) hj (by omega)).1;omega
theorem PersF.srtH{p:Int}{F:List (Int×Int)}{l:List Ce}{V:Nat->List Int}(P:PersF p F l S R V)(G:Rgt (cn l))(hmon:∀x∈cn l,∀s∈x.sd,Cb (A6 F) s.1<=Cb (A6 F) x.id):SrtH F l S:=⟨P.perm,P.srt,G,hmon⟩
theorem ND(l:List Ce)(F:List (Int×Int))(v vf:Value)(p:Int)(hp:Hp)(hK:RgC l)(hR:RdC hp v l)(hF:RdL cV 2 hp [] vf F)(hV:GA F)(hn:(F.map Prod.fst).Nodup)(hb:∀c,-2000000000<=Cb (A6 F) c/\Cb (A6 F) c<=2000000000)(h0:DF (cn l) F=(0,0))(hmon:∀x∈cn l,∀s∈x.sd,Cb (A6 F) s.1<=Cb (A6 F) x.id)(hP:IsP p)(hl:l.length<=400):FnT Tryz.prog 16 #[.agg #[v],vf,.int .i64 p] hp [] (fun r h' ms'=>hp.le h'/\∃(S:List Ce) (R V:Nat->List Int) (vb:Value) (mb:Hp),PersF p F l S R V/\r=.tuple #[vb,.int .i64 0]/\ms'=[mb]/\OwnL JY 6 43 mb vb (Do (Cb (A6 F)) S (Dr S R) S.length)):=by
 have o1:=hR.q.rd.one;have o2:=hF.rd.one;refine Aq func16 ntmps16 Y Y (fun w0 hw0=>?_);simp only[AW];refine Ar (AV [_] Y Y (by rfl) Y Y Y (fun g3=>Qm Y (Qm Y (Am (Az fun h1 l1 hS=>?_)))));have hR:=hR.up l1;have hF:=hF.up l1;refine Ar (Qx (oG Y CB AY (Seg.any hS)) Y (Qm Y (Qm Y (Qc call33 Y (Oe l F v vf p h1 hK hR hF hV hn h0 hmon hP hl) (fun rr h2 ms2 l2 hQ=>?_)))));obtain⟨l2',S,R,V,vo,er,ev,mo,mr,mv,P,rfl,rfl,hOo,hOr,hOv⟩:=hQ;have H:PerH p F l S R V:=⟨P,hP,hK.F.rgt,hmon⟩
 obtain⟨la,A⟩:=P.all;have hlw:=Rj A.red.rl;have oo:=hOo.o1;have oer:=hOr.o1;have oev:=hOv.o1;refine Qm Y (Qm Y (Qm Y (Qm Y (Qm Y (CG [.int .i64 0,.int .i64 0,.int .i64 0,.slice none 0 0] Y BF Y Y (fun g9=>CG [.int .i64 0,.int .i64 0,.int .i64 0,.slice none 0 0] Y BF Y Y (fun g10=>Qm Y ?_)))))));refine Sa 1 [_,_,_,_] BF Y (by simp[o1,o2,oo,oer,oev]) ?_;refine Sa 0 [_,_,_,_] BF Y (by simp[o1,o2,oo,oer,oev]) ?_;refine Qm Y (Am (Az fun h3 l3 hS10=>(Az fun h4 l4 hS9=>(Bc hOo fun h5 l5 hRo=>(Bc hOv fun h6 l6 hRv=>(Bc hOr fun h7 l7 hRr=>?_))))));have l47:=AJ l5 (AJ l6 l7);have l27:=AJ l2' (AJ l3 (AJ l4 l47));have hR:=hR.up l27;have hF:=hF.up l27;have hS3:=hS.le l27;have hS9:=hS9.le l47;have s3:∀ms,Seg h7 ms (⟨g3,0,none⟩:Addr) [v]:=fun ms=>hS3.any;have s9:∀ms,Seg h7 ms (⟨g9,0,none⟩:Addr) [.int .i64 p,.int .i64 S.length,.int .i64 S.length,er]:=fun ms=>hS9.any;refine Ac (Ar (Qm Y (Qm Y (Am (Ap Y (fun hc=>absurd hc (fun h=>h Y)) (fun hc=>Ah (Ab (Ar (Qx (oG Y CB AY (s3 _)) Y (Qm Y (Qx (oG Y Jt BF (s9 _)) Y ?_)))))))))));refine Qc call53 Y (S6 l S F v vf er p (fun i j=>(R j).getD i 0) h7 hK hR hF hn hb (P.srtH hK.F.rgt hmon) hl hRr (fun j hj=>by rw[hlw];exact H.low_lj hj)) (fun rb h8 ms8 l8 hQ=>?_);obtain⟨l8',mb,rfl,hOb⟩:=hQ;rw[hlw]at hOb;have ob:=hOb.o1;refine Qm Y (Qm Y (Am (An ?_)));exact Bq Y Y Y (⟨AJ l1 (AJ l27 l8'),S,R,V,rb,mb,P,Y,Y,hOb⟩)
theorem LQ(l:List Ce)(F:List (Int×Int))(v vf:Value)(p:Int)(hp:Hp)(hK:RgC l)(hR:RdC hp v l)(hF:RdL cV 2 hp [] vf F)(hV:GA F)(hI:BN p)(hl:l.length<=400)(hE:DU (cn l) F p≠0):FnT Tryz.prog 16 #[.agg #[v],vf,.int .i64 p] hp [] (fun r h' ms'=>r=.tuple #[.slice none 0 0,.int .i64 (DU (cn l) F p)]):=by have o1:=hR.q.rd.one;have o2:=hF.rd.one;refine Aq func16 ntmps16 Y Y (fun w0 hw0=>?_);simp only[AW];refine Ar (AV [_] Y Y (by rfl) Y Y Y (fun g3=>Qm Y (Qm Y (Am (Az fun h1 l1 hS=>?_)))));have hb:=fun ms=>EO (MM l F v vf p h1 hK (hR.up l1) (hF.up l1) hV hI hl hE) ms;generalize DU (cn l) F p=ee at *;refine Ar (Qx (oG Y CB AY (Seg.any hS)) Y (Qm Y (Qm Y (Qx (AI Y call33 Y (hb _)) Y (Qm Y (Qm Y (Qm Y (Qm Y (Qm Y (CG [.int .i64 0,.int .i64 0,.int .i64 0,.slice none 0 0] Y BF Y Y (fun g9=>CG [.int .i64 0,.int .i64 0,.int .i64 0,.slice none 0 0] Y BF Y Y (fun g10=>Qm Y ?_))))))))))));refine Sa 1 [_,_,_,_] BF Y (by simp[Value.oneCell']) ?_;refine Sa 0 [_,_,_,_] BF Y (by simp[Value.oneCell']) ?_;refine Qm Y (Am (Ac (Ar (Qm Y (Qm Y (Am ?_))))));refine Ap Y (fun hc=>?_) (fun hc=>absurd (hE) hc);refine Ar (Qm Y (Qm Y (Qm Y (Am (An (Ae ?_))))));exact Bq Y Y Y (Y)
end Go.Proofs.Q
namespace Go.Proofs.Q
open Go.Proofs.Tryz
open Go.Eng Go.RowKit Go.Lin Go.Sort Go.Srt
def PerQ(p:Int)(F:List (Int×Int))(l:List Ce)(la:List Br):Prop:=(IsP p/\∃(S:List Ce) (R V:Nat->List Int),PersF p F l S R V/\la=Do (Cb (A6 F)) S (Dr S R) S.length)\/(¬IsP p/\la=[])
theorem Ww(l:List Br):(l.map fun b=>(⟨b.dim,b.birth,if b.opn then b.death else b.death,b.opn,b.low,b.high⟩:Br))=l:=by
 have:(fun b:Br=>(⟨b.dim,b.birth,if b.opn then b.death else b.death,b.opn,b.low,b.high⟩:Br))=id:=by funext b;cases b;simp
 rw[this,List.map_id]
theorem PersF.bars_same{p:Int}{F:List (Int×Int)}{l S S':List Ce}{R V R' V':Nat->List Int}(P:PersF p F l S R V)(P':PersF p F l S' R' V')(hP:IsP p)(G:Rgt (cn l))(hmon:∀x∈cn l,∀s∈x.sd,Cb (A6 F) s.1<=Cb (A6 F) x.id):Do (Cb (A6 F)) S' (Dr S' R') S'.length=Do (Cb (A6 F)) S (Dr S R) S.length:=by
 have H:PerH p F l S R V:=⟨P,hP,G,hmon⟩
 have H':PerH p F l S' R' V':=⟨P',hP,G,hmon⟩
 have:=H.bars_eq H' Y (fun v=>v) (fun _ _=>rfl) (fun _ _ _ _=>Iff.rfl)
 rwa [Ww]at this
theorem PerQ.uniq{p:Int}{F:List (Int×Int)}{l:List Ce}{la lb:List Br}(A:PerQ p F l la)(B:PerQ p F l lb)(G:Rgt (cn l))(hmon:∀x∈cn l,∀s∈x.sd,Cb (A6 F) s.1<=Cb (A6 F) x.id):la=lb:=by
 rcases A with ⟨hP,S,R,V,P,rfl⟩|⟨hP,rfl⟩
 ·rcases B with ⟨_,S',R',V',P',rfl⟩|⟨hN,_⟩
  ·exact(P.bars_same P' hP G hmon).symm
  ·exact absurd hP hN
 ·rcases B with ⟨hN,_⟩|⟨_,rfl⟩
  ·exact absurd hN hP
  ·rfl
section
variable {l:List Ce} {F:List (Int×Int)} {v vf:Value} {p:Int} {hp:Hp}
theorem V2(hK:RgC l)(hR:RdC hp v l)(hF:RdL cV 2 hp [] vf F)(hV:GA F)(Q:T4 (cn l) F)(hI:BN p)(hl:l.length<=400):FnT Tryz.prog 15 #[.agg #[v],vf,.int .i64 p] hp [] (fun r h' ms'=>hp.le h'/\∃(la:List Br) (vb:Value) (mb:Hp),r=.tuple #[vb,.int .i64 (DU (cn l) F p)]/\ms'=[mb]/\OwnL JY 6 43 mb vb la/\PerQ p F l la/\la.length<=400):=by
 by_cases hP:IsP p
 ·rw[NC Q.chk hP];refine(KI l F v vf p hp hK hR hF hV (fun c=>by have:=Q.bI c;unfold BN;omega) Q.chk hP hl).mono fun r h' ms' h=>?_;obtain⟨h1,S,R,V,vb,mb,e1,e2,h2,h3⟩:=h;refine⟨h1,_,vb,mb,e1,e2,h2,.inl ⟨hP,S,R,V,h3,Y⟩,?_⟩;have:=G8 (Cb (A6 F)) S (Dr S R) S.length;have:=h3.perm.length_eq;rw[length_map,CY]at this;omega
 ·have hE:DU (cn l) F p=46:=by unfold DU;rw[Q.chk,if_neg (fun h=>h rfl),if_neg hP]
  have h:=(Ob l F v vf p hp hK hR hF hV hI (by rw[hE];decide)).drops.emp.le;refine h.mono fun r h' ms' h=>?_;obtain⟨h1,q,e1,rfl,_,e2⟩:=h;exact⟨h1,[],.slice none 0 0,Hp.emp,e2,e1,OwnL.nil Ff,.inr ⟨hP,Y⟩,by simp⟩
theorem Rx(hK:RgC l)(hR:RdC hp v l)(hF:RdL cV 2 hp [] vf F)(hV:GA F)(Q:T4 (cn l) F)(hI:BN p)(hl:l.length<=400):FnT Tryz.prog 16 #[.agg #[v],vf,.int .i64 p] hp [] (fun r h' ms'=>hp.le h'/\∃(la:List Br) (vb:Value) (mb:Hp),r=.tuple #[vb,.int .i64 (DU (cn l) F p)]/\ms'=[mb]/\OwnL JY 6 43 mb vb la/\PerQ p F l la/\la.length<=400):=by
 have hnd:(F.map Prod.fst).Nodup:=by rw[Q.fst];exact hK.F.rgt.nd
 by_cases hP:IsP p
 ·rw[NC Q.chk hP];refine(ND l F v vf p hp hK hR hF hV hnd Q.bI Q.chk Q.mon hP hl).mono fun r h' ms' h=>?_;obtain⟨h1,S,R,V,vb,mb,h3,e1,e2,h2⟩:=h;refine⟨h1,_,vb,mb,e1,e2,h2,.inl ⟨hP,S,R,V,h3,Y⟩,?_⟩;have:=G8 (Cb (A6 F)) S (Dr S R) S.length;have:=h3.perm.length_eq;rw[length_map,CY]at this;omega
 ·have hE:DU (cn l) F p=46:=by unfold DU;rw[Q.chk,if_neg (fun h=>h rfl),if_neg hP]
  have h:=(LQ l F v vf p hp hK hR hF hV hI hl (by rw[hE];decide)).drops.emp.le;refine h.mono fun r h' ms' h=>?_;obtain⟨h1,q,e1,rfl,_,e2⟩:=h;exact⟨h1,[],.slice none 0 0,Hp.emp,e2,e1,OwnL.nil Ff,.inr ⟨hP,Y⟩,by simp⟩
end
end Go.Proofs.Q
namespace Go.Proofs.Q
open Go.Eng Go.RowKit
variable {o:List Cl} {M:List Bool} {c0 x:Int} {Q:List Int} {k:Nat}
def MkC(o:List Cl)(M:List Bool)(x:Int):Prop:=∃k,k<o.length/\(o.getD k default).id=x/\M.getD k false=true
structure ReI(o:List Cl)(c0:Int)(M:List Bool)(Q:List Int):Prop where
 len:M.length=o.length
 rM:∀x,MkC o M x->Rch (UJ o) c0 x
 rQ:∀x∈Q,Rch (UJ o) c0 x
 st:c0∈Q\/MkC o M c0
 cl:∀x,MkC o M x->∀s∈UJ o x,s∈Q\/MkC o M s
theorem ReI.start(o:List Cl)(c0:Int):ReI o c0 (replicate o.length false) [c0]:=by
 have hn:∀x,¬MkC o (replicate o.length false) x:=fun x ⟨k,hk,_,h⟩=>by simp[List.getD,hk]at h
 exact⟨by simp,fun x h=>absurd h (hn x),fun x h=>by rw[List.mem_singleton.1 h];exact .refl _,.inl (List.mem_singleton.2 Y),fun x h=>absurd h (hn x)⟩
theorem ReI.mem(R:Rgt o)(hc:c0∈o.map Cl.id)(I:ReI o c0 M Q)(h:Rch (UJ o) c0 x):∃y∈o,y.id=x:=by
 have:x∈o.map Cl.id:=by
  induction h with
  | refl=>exact hc
  | step h hk ih=>
   obtain⟨z,hz,rfl⟩:=List.mem_map.1 ih;unfold UJ at hk;rw[CT R.nd hz]at hk;obtain⟨s,hs,rfl⟩:=List.mem_map.1 hk;obtain⟨w,hw,e,_⟩:=R.sid z hz s hs;exact List.mem_map.2 ⟨w,hw,e⟩
 obtain⟨y,hy,e⟩:=List.mem_map.1 this;exact⟨y,hy,e⟩
theorem ReI.skip(I:ReI o c0 M (x::Q))(hx:MkC o M x):ReI o c0 M Q:=by
 refine⟨I.len,I.rM,fun y hy=>I.rQ y (mem_cons_of_mem _ hy),?_,fun y hy s hs=>?_⟩
 ·rcases I.st with h|h
  ·rcases List.mem_cons.1 h with rfl|h
   ·exact .inr hx
   ·exact .inl h
  ·exact .inr h
 ·rcases I.cl y hy s hs with h|h
  ·rcases List.mem_cons.1 h with rfl|h
   ·exact .inr hx
   ·exact .inl h
  ·exact .inr h
theorem MkC.set(hk:k<M.length):MkC o (M.set k true) x<->MkC o M x\/(k<o.length/\(o.getD k default).id=x):=by
 constructor
 ·rintro⟨q,h1,h2,h3⟩;by_cases e:k=q
  ·subst e;exact .inr ⟨h1,h2⟩
  ·refine .inl ⟨q,h1,h2,?_⟩
   rwa [show(M.set k true).getD q false=M.getD q false by simp[List.getD,List.getElem?_set_ne e]]at h3
 ·rintro(⟨q,h1,h2,h3⟩|⟨h1,h2⟩)
  ·refine⟨q,h1,h2,?_⟩;by_cases e:k=q
   ·subst e;simp[List.getD,hk]
   ·rw[show(M.set k true).getD q false=M.getD q false by simp[List.getD,List.getElem?_set_ne e]];exact h3
  ·exact⟨k,h1,h2,by simp[List.getD,hk]⟩
theorem ReI.mark(R:Rgt o)(I:ReI o c0 M (x::Q))(hk:k<o.length)(e:(o.getD k default).id=x):ReI o c0 (M.set k true) (Q++(o.getD k default).sd.map Prod.fst):=by
 have hkM:k<M.length:=by rw[I.len];exact hk
 have hs:UJ o x=(o.getD k default).sd.map Prod.fst:=by unfold UJ;rw[<-e,CT R.nd (D1 hk)]
 have hrx:=I.rQ x Mh;refine⟨by rw[List.length_set];exact I.len,fun y hy=>?_,fun y hy=>?_,?_,fun y hy s hs'=>?_⟩
 ·rcases (MkC.set hkM).1 hy with h|⟨_,h⟩
  ·exact I.rM y h
  ·rw[<-h,e];exact hrx
 ·rcases List.mem_append.1 hy with h|h
  ·exact I.rQ y (mem_cons_of_mem _ h)
  ·exact .step hrx (by rw[hs];exact h)
 ·rcases I.st with h|h
  ·rcases List.mem_cons.1 h with rfl|h
   ·exact .inr ((MkC.set hkM).2 (.inr ⟨hk,e⟩))
   ·exact .inl (List.mem_append.2 (.inl h))
  ·exact .inr ((MkC.set hkM).2 (.inl h))
 ·rcases (MkC.set hkM).1 hy with h|⟨_,h⟩
  ·rcases I.cl y h s hs' with h2|h2
   ·rcases List.mem_cons.1 h2 with rfl|h2
    ·exact .inr ((MkC.set hkM).2 (.inr ⟨hk,e⟩))
    ·exact .inl (List.mem_append.2 (.inl h2))
   ·exact .inr ((MkC.set hkM).2 (.inl h2))
  ·rw[<-h,e,hs]at hs';exact .inl (List.mem_append.2 (.inr hs'))
theorem ReI.all(R:Rgt o)(hc:c0∈o.map Cl.id)(I:ReI o c0 M [])(hk:k<o.length):M.getD k false=true<->(o.getD k default).id∈U8 o c0:=by
 have hcl:∀x,Rch (UJ o) c0 x->MkC o M x:=fun x h=>by
  induction h with
  | refl=>exact I.st.resolve_left nofun
  | step h hk' ih=>exact(I.cl _ ih _ hk').resolve_left nofun
 rw[cloL_mem];constructor
 ·intro h;exact⟨List.mem_map.2 ⟨_,D1 hk,Y⟩,I.rM _ ⟨k,hk,Y,h⟩⟩
 ·rintro⟨_,h⟩;obtain⟨q,h1,h2,h3⟩:=hcl _ h;have:=LA R.nd h1 hk h2;subst this;exact h3
def Ti(M:List Bool)(Q:List Int):Nat:=M.count false*70+Q.length
theorem Wb(hk:k<M.length)(h:M.getD k false=false){S:List Int}(hS:S.length<=64):Ti (M.set k true) (Q++S)<Ti M (x::Q):=by
 have hc:(M.set k true).count false+1=M.count false:=by
  have hg:M[k]=false:=by simpa[List.getD,hk] using h
  have h1:=List.count_set (a:=true) (b:=false) (l:=M) (i:=k) hk;rw[hg]at h1;have h2:0<M.count false:=List.count_pos_iff.2 (by rw[<-hg];exact getElem_mem hk);simp at h1;omega
 unfold Ti;rw[length_append,length_cons];omega
theorem WI(M:List Bool)(x:Int)(Q:List Int):Ti M Q<Ti M (x::Q):=by unfold Ti;rw[length_cons];omega
def Js(o:List Cl)(M:List Bool)(n:Nat):List Int:=((range n).filter fun k=>M.getD k false).map fun k=>(o.getD k default).id
theorem Wi(R:Rgt o)(hc:c0∈o.map Cl.id)(I:ReI o c0 M [])(x:Int):x∈Js o M o.length<->x∈U8 o c0:=by
 unfold Js;rw[List.mem_map];constructor
 ·rintro⟨k,hk,rfl⟩;obtain⟨h1,h2⟩:=List.mem_filter.1 hk;exact(I.all R hc (List.mem_range.1 h1)).1 h2
 ·intro h;obtain⟨y,hy,rfl⟩:=List.mem_map.1 (cloL_mem.1 h).1;obtain⟨h1,h2⟩:=Hn hy R.nd;refine⟨OF o y.id,List.mem_filter.2 ⟨List.mem_range.2 h1,?_⟩,by rw[h2]⟩;exact(I.all R hc h1).2 (by rw[h2];exact h)
theorem SX(o:List Cl)(M:List Bool)(n:Nat):Js o M (n+1)=Js o M n++if M.getD n false then [(o.getD n default).id] else []:=by
 unfold Js;rw[List.range_succ,List.filter_append,map_append];congr 1;cases h:M.getD n false
 ·rw[filter_cons,h];simp
 ·rw[filter_cons,h];simp
def nM(L:List Int)(k:Int):Int:=L.getD (k%(L.length:Int)).toNat 0%6
def Ss(L:List Int)(ks:List Int):Int:=if L=[] then 0 else ks.foldl (fun m k=>max m (nM L k)) 0
theorem GF(L:List Int)(x:Int):∀(ks:List Int) (m:Int),ks.foldl (fun m k=>max m (nM L k)) m<=x<->m<=x/\∀k∈ks,nM L k<=x
 | [],m=>by simp
 | k::ks,m=>by rw[List.foldl_cons,GF L x ks];simp only[mem_cons,forall_eq_or_imp,Int.max_le];exact⟨fun⟨⟨a,b⟩,c⟩=>⟨a,b,c⟩,fun⟨a,b,c⟩=>⟨⟨a,b⟩,c⟩⟩
theorem Zu(L:List Int)(k:Int):0<=nM L k/\nM L k<=5:=by unfold nM;omega
theorem Wu(L ks:List Int):0<=Ss L ks/\Ss L ks<=5:=by
 unfold Ss;split
 ·decide
 ·have h1:=((GF L (ks.foldl (fun m k=>max m (nM L k)) 0) ks 0).1 (Int.le_refl _)).1;have h2:=(GF L 5 ks 0).2 ⟨by decide,fun k _=>(Zu L k).2⟩;exact⟨h1,h2⟩
theorem KM{L ks ks':List Int}(h:∀k∈ks,k∈ks'):Ss L ks<=Ss L ks':=by
 unfold Ss;split
 ·exact Int.le_refl _
 ·have h1:=(GF L (ks'.foldl (fun m k=>max m (nM L k)) 0) ks' 0).1 (Int.le_refl _);exact(GF L _ ks 0).2 ⟨h1.1,fun k hk=>h1.2 k (h k hk)⟩
theorem SM{L ks ks':List Int}(h:∀k,k∈ks<->k∈ks'):Ss L ks=Ss L ks':=Int.le_antisymm (KM fun k hk=>(h k).1 hk) (KM fun k hk=>(h k).2 hk)
noncomputable def GH(o:List Cl)(L:List Int)(c:Int):Int:=Ss L (U8 o c)
theorem Ut(G:Rgt o)(L:List Int){x:Cl}(hx:x∈o){s:Int×Int}(hs:s∈x.sd):GH o L s.1<=GH o L x.id:=by refine KM fun k hk=>?_;rw[cloL_mem]at hk ⊢;refine⟨hk.1,Rch.trans (Rch.step (Rch.refl _) ?_) hk.2⟩;unfold UJ;rw[CT G.nd hx];exact List.mem_map.2 ⟨s,hs,Y⟩
noncomputable def Ha(o:List Cl)(L:List Int)(f:Int)(n:Nat):List (Int×Int):=(o.take n).map fun x=>(x.id,GH o L x.id*f)
theorem Aap(G:Rgt o)(L:List Int)(f:Int)(hf:0<=f/\f<=1000):T4 o (Ha o L f o.length):=by
 have hb:∀c,0<=GH o L c/\GH o L c<=5:=fun c=>Wu _ _;have hm:∀a b:Int,a<=b->a*f<=b*f:=fun a b h=>Int.mul_le_mul_of_nonneg_right h hf.1
 have:=Wy G (fun c=>GH o L c*f) (fun y _=>by
  have h1:=hb y.id;have h2:=hm 0 _ h1.1;have h3:=hm _ 5 h1.2
  constructor<;>omega) fun x hx s hs=>hm _ _ (Ut G L hx hs)
 unfold Ha
 rwa [take_length]
end Go.Proofs.Q

namespace Go.Proofs.Q
open Go.Proofs.Tryz
open Go.Eng Go.RowKit
theorem Rb(A:List Ce)(v vq:Value)(c0:Int)(hp:Hp)(F:RgtF (A.map Ce.c))(hc:c0∈(A.map Ce.c).map Cl.id)(hR:RdL cC 3 hp [] v A)(hAs:∀a∈A,RdL cD 2 hp [] a.v a.c.sd)(hq:RdL cI 1 hp [] vq [c0]):FnT Tryz.prog 119 #[v,vq] hp [] (fun r h' ms'=>hp.le h'/\∃m M,ms'=[m]/\OwnL cB 1 4 m r M/\ReI (A.map Ce.c) c0 M []):=by
 have o1:=hR.rd.one;have o2:=hq.rd.one;have G:=F.rgt;obtain⟨o,ho⟩:∃o,A.map Ce.c=o:=⟨_,Y⟩
 rw[ho]at F G hc;rw[ho];have hAl:A.length=o.length:=by rw[<-ho,length_map]
 have hol:o.length<=4000:=G.n;have hge:∀i (hi:i<A.length),o[i]'(by omega)=A[i].c:=fun i hi=>by subst ho;simp
 refine Aq func119 ntmps119 rfl rfl (fun w0 hw0=>?_);simp only[AW];refine Ar (Qm rfl (BH (Qm rfl (Qx (Au hR.rd.any rfl A9 rfl) rfl (CN (n:=_) rfl Rq Wd rfl rfl rfl (by rfl) (by rfl) (by omega) (by omega) rfl rfl rfl (fun g11=>Qm rfl (Am ?_)))))));have hM0:=SJ g11 A.length (by omega);refine Ar ?_;refine Ax [] [] [] rfl AU A5 rfl (by omega) (by kernel_rfl) (by repeat (first|exact trivial|refine⟨⟨by first|rfl|exact(hR.rd.any).cells|exact Rd.cells ‹_›|exact(RdL.rd ‹_›).cells,rfl,rfl⟩,?_⟩)) rfl rfl rfl rfl (fun g12=>?_);refine Qm rfl ?_;refine K0 0 (EI g12 Be).q hq.any rfl AU A5 rfl (by omega) rfl rfl rfl (fun a _=>B8 a) (by(simp;done)) (by(simp;done)) rfl rfl rfl (fun v6 m6 hO6=>?_);have hI0:=ReI.start o c0;have hr0:Ti (replicate o.length false) [c0]<=300000:=by unfold Ti;rw[List.count_replicate_self];simp;omega
 refine Qm Y (Am (Ac (Ag ?_)))
 refine Aw (fun q sl h' ms'=>∃(M:List Bool) (Q:List Int) (m5 m6:Hp) (v6:Value),q=Ti M Q/\sl=[(0,v),(4,.slice none 0 0),(5,.slice (some ⟨g11,0,none⟩) A.length A.length),(6,v6)]/\hp=h'/\ms'=[m6,m5]/\Ti M Q<=300000/\ReI o c0 M Q/\OwnL cB 1 4 m5 (.slice (some ⟨g11,0,none⟩) A.length A.length) M/\OwnQ cI 1 3 m6 v6 Q)
  _ _ ⟨replicate o.length false,[c0],_,_,_,rfl,rfl,rfl,rfl,hr0,hI0,by rw[<-hAl];exact hM0,hO6⟩ Qs ?_
 rintro q sl h' ms' ⟨M,Q,m5,m6,v6,rfl,rfl,rfl,rfl,hr,hI,hO5,hO6⟩;have ov6:=hO6.o1;refine Ac (Ar (Qm Y (Qx (Au (hO6.rd (h:=hp) (ms:=[m6,m5]) Mh).rd Y AU Y) Y (Qm Y (Am ?_)))));refine Ap Y (fun hql=>?_) (fun hql=>?_)
 ·obtain⟨x,Q,rfl⟩:∃x Q',Q=x::Q':=by
   cases Q with
   | nil=>simp at hql
   | cons x Q'=>exact⟨x,Q',Y⟩
  have cq:Cell hp [m6,m5] ((AE v6).add (0*1)) (.int .i64 x):=(hO6.rd (h:=hp) (ms:=[m6,m5]) Mh).cell0 (j:=0) (by simp) rfl;obtain⟨y,hy,ey⟩:=hI.mem G hc (hI.rQ x Mh);obtain⟨hat,hgk⟩:=Hm F.inc hy;rw[ey]at hat hgk;obtain⟨k,hk⟩:∃k:Nat,I7 o x=k:=⟨_,(Int.toNat_of_nonneg hat).symm⟩
  rw[hk,Int.toNat_natCast]at hgk;have hko:k<o.length:=by have:=HZ o x;omega
  have hkA:k<A.length:=by omega
  have hkM:k<M.length:=by rw[hI.len];exact hko
  have hkid:(o.getD k default).id=x:=by rw[hgk,ey]
  refine Ah (Ab (Ag (Ar (Qm Y (Qm Y (Qx (AB 0 (hO6.rd (h:=hp) (ms:=[m6,m5]) Mh).rd Y AU A5 Y Y Y (by omega)) Y (Ql Y U3 (cq) ?_)))))));refine Qx (AI Y call117 Y ((by have:=Vz A v x hp (by omega) (by rw[ho];exact F.inc.imp fun h=>Int.le_of_lt h) hR [m6,m5];rwa [ho,hk]at this))) rfl ?_;refine Qm Y (BH (Qm Y (Qx (CU 1 (hO6.rd (h:=hp) (ms:=[m6,m5]) Mh).rd Y AU A5 Y Y Y (by simp)) rfl (Qm rfl (Am ?_)))));have hO6:=hO6.tail;obtain⟨w6,hw6⟩:∃w,B3 1 v6 1 (Q.length+1)=w:=⟨_,Y⟩
  simp only[length_cons,hw6]at hO6 ⊢;have ov6:=hO6.o1;have cb:∀ms,m5∈ms->Cell hp ms ((AE (.slice (some ⟨g11,0,none⟩) A.length A.length)).add (k*1)) (.bool M[k]):=fun ms hm=>(hO5.rd hm).cell0 hkM Y;refine Ac (Ar (Qm Y (Qm Y (Qm Y ?_))));refine AN (t:=27) Y (fun hs=>?_) (fun hs=>?_)
  ·omega
  ·refine Qg (Ay Y Y) Y (Qg (Ay Y Y) Y (Qg (B0 (k) Y Rq Wd Y Y (by omega) (by omega)) Y (Qg (oL Y U4 (cb _ (.tail _ (.head _)))) Y (Qm Y (Am ?_)))));refine Bx Y (fun hb=>?_) (fun hb=>?_)
   ·have hmk:MkC o M x:=⟨k,hko,hkid,by rw[show M.getD k false=M[k] by simp[List.getD,hkM]];exact hb⟩
    have hlt:=WI M x Q;refine As (Aa (Af ?_));exact Ak (Ti M Q) _ hlt ⟨M,Q,m5,m6,w6,Y,Y,Y,Y,by omega,hI.skip hmk,hO5,hO6⟩ Qs
   ·have hmf:M.getD k false=false:=by rw[show M.getD k false=M[k] by simp[List.getD,hkM]];exact hb
    obtain⟨z,hz⟩:∃z,A[k]=z:=⟨_,Y⟩
    have hzo:o.getD k default=z.c:=by rw[show o.getD k default=o[k] by simp[List.getD,hko],hge k hkA,hz]
    have hI':=hI.mark G hko hkid;rw[hzo]at hI';have hX:=hAs z (by rw[<-hz];exact getElem_mem hkA);have hzl:z.c.sd.length<=64:=by have:=(F.bds (getElem_mem hko)).2.1;rwa [hge k hkA,hz]at this
    have hlt:=Wb (x:=x) (Q:=Q) (S:=z.c.sd.map Prod.fst) hkM hmf (by rw[length_map];omega);have hQl:Q.length<=300000:=by unfold Ti at hr;rw[length_cons]at hr;omega
    have cx:∀ms,Cell hp ms (((AE v).add (k*3)).add 2) z.v:=fun ms=>by rw[<-hz];exact(hR.any (ms:=ms)).cell (j:=k) hkA (f:=2) Y
    refine Ah (Ab (Ar (Qm Y (Qm Y (Qx (B0 (k) Y Rq Wd Y Y (by omega) (by omega)) Y (Cj (F:=cB) (f:=fun x=>.bool x) (a:=true) 1 k (fun _=>rfl) hO5 Y Wd Y Y Y Y hkM Y Y (fun m7 hO7=>BH (Qm Y (Am (Ag ?_))))))))))
    refine Aw (fun q sl h' ms'=>∃(j:Nat) (m6:Hp) (v6:Value),q=z.c.sd.length-j/\sl=[(0,v),(4,.slice none 0 0),(5,.slice (some ⟨g11,0,none⟩) A.length A.length),(6,v6),(7,.int .i64 k),(8,.int .i64 j)]/\hp=h'/\ms'=[m6,m7]/\j<=z.c.sd.length/\OwnQ cI 1 3 m6 v6 (Q++(z.c.sd.take j).map Prod.fst))
     (z.c.sd.length-0) _ ⟨0,m6,w6,rfl,rfl,rfl,rfl,by omega,by simpa using hO6⟩ Qs ?_
    rintro q sl h' ms' ⟨j,m6,v6,rfl,rfl,rfl,rfl,hj,hO6⟩;have ov6:=hO6.o1;have hql:(Q++(z.c.sd.take j).map Prod.fst).length<=400000:=by rw[length_append,length_map,length_take];omega
    refine Ac (Ar (Qm Y (Qm Y (Qm Y (Qx (AB _ hR.rd.any Y A9 AG Y Y Y (by omega)) Y (Qf Bz Y (Ql Y BW (cx _) (Qx (Au hX.rd.any Y BW Y) Y (Qm Y (Am ?_))))))))));refine Ap Y (fun hjl=>?_) (fun hjl=>?_)
    ·have hjn:j<z.c.sd.length:=by omega
     obtain⟨s,hs⟩:∃s,z.c.sd[j]=s:=⟨_,Y⟩
     have cs:∀ms,Cell hp ms (((AE z.v).add (j*2)).add 0) (.int .i64 s.1):=fun ms=>by
      have:Seg hp ms ((AE z.v).add (j*2)) (cD s):=by rw[<-hs];exact(hX.any (ms:=ms)).seg hjn
      exact this 0 _ Y
     refine Ah (Ab (Ac (Ag (Ad (Qm Y (Qm Y (Qm Y (Qx (BE (k) hR.rd.any Y A9 AG Y Y) Y (Qf Bz Y (Ql Y BW (cx _) (Qm Y (Qx (BE (j) hX.rd.any Y BW AM Y Y) Y (Qf BY Y (Ql Y U3 (cs _) (Ao [_] Y AU A5 Y (by rfl) Y Y (by omega) Y Y Y (fun g56=>K0 1 hO6 (RdL.one Be (x:=s.1) Mh Y) Y AU A5 Y (by omega) Y Y Y (fun a _=>B8 a) (by(try simp only[length_singleton]);omega) (by(try simp only[length_singleton]);omega) rfl rfl rfl (fun v9 m9 hO9=>?_)))))))))))))))));have ov9:=hO9.o1;refine Qm Y (Al (Ai (Ab (Ad (Qm Y (Qx (oA Y) Y (Qm Y (Al (AO ?_)))))))));exact Ak (z.c.sd.length-(j+1)) _ (by omega) ⟨j+1,m9,v9,Y,Y,Y,Y,by omega,by rw[List.take_succ_eq_append_getElem hjn,map_append,<-List.append_assoc,hs];exact hO9⟩ Qs
    ·obtain rfl:j=z.c.sd.length:=by omega
     rw[take_length]at hO6;refine As (Aa (Aa (Af (Ai ?_))));exact Ak (Ti (M.set k true) (Q++z.c.sd.map Prod.fst)) _ hlt ⟨M.set k true,Q++z.c.sd.map Prod.fst,m7,m6,v6,Y,Y,Y,Y,by omega,hI',hO7,hO6⟩ Qs
 ·obtain rfl:Q=[]:=by
   cases Q with
   | nil=>rfl
   | cons x Q'=>simp at hql
  refine As (Aa (Aa (Af (Ab (Ar (Qm Y (Qm Y (Am (An (AO ?_))))))))));exact Av Y Y (⟨DT,m5,M,Y,hO5,hI⟩)
theorem Pv(l:List Ce)(v vq:Value)(c0:Int)(hp:Hp)(hK:RgC l)(hR:RdC hp v l)(hq:RdL cI 1 hp [] vq [c0])(hc:c0∈(cn l).map Cl.id):FnT Tryz.prog 50 #[.agg #[v],vq] hp [] (fun r h' ms'=>hp.le h'/\∃m M,ms'=[m]/\OwnL cI 1 3 m r (Js (cn l) M (cn l).length)/\ReI (cn l) c0 M []):=by
 have o1:=hR.q.rd.one;have o2:=hq.rd.one;have hln:=hK.r.n;rw[length_map]at hln;refine Aq func50 ntmps50 Y Y (fun w0 hw0=>?_);simp only[AW];refine Ar (AV [_] Y Y (by rfl) Y Y Y (fun g2=>Qm Y (Am (Bp 0 Y fun h1 l1 hS=>?_))));have hR:=hR.up l1;have hq:=hq.up l1;refine Ar (Qx (oG Y CB AY (Seg.any hS)) Y (Qc call49 Y (EK l v h1 hK.r.cs hR) (fun rC h2 ms2 l2 hF=>?_)));obtain⟨l2',mC,A,rfl,hOC,hA,hAs⟩:=hF;rw[D4 hK.r]at hA;obtain⟨o,ho⟩:∃o,cn l=o:=⟨_,Y⟩
 have hA:A.map Ce.c=o:=by rw[hA,<-ho];rfl
 have F:RgtF o:=by rw[<-ho];exact hK.F
 have G:=F.rgt;rw[ho]at hc;rw[ho];have hAl:A.length=o.length:=by rw[<-hA,length_map]
 have hol:o.length<=4000:=G.n;have oC:=hOC.o1;refine Qm Y (Am (Bc hOC fun h3 l3 hQ=>?_));have hAs:∀a∈A,RdL cD 2 h3 [] a.v a.c.sd:=fun a ha=>(hAs a ha).up l3;have l13:=AJ l2' l3;have hge:∀i (hi:i<A.length),o[i]'(by omega)=A[i].c:=fun i hi=>by subst hA;simp
 refine Ar (Qm Y (Qm Y ?_));refine Qc call119 Y (Rb A rC vq c0 h3 (by rw[hA];exact F) (by rw[hA];exact hc) hQ hAs (hq.up l13)) (fun rM h4 ms4 l4 hF=>?_);obtain⟨l4',mM,M,rfl,hOM,hI⟩:=hF;rw[hA]at hI;have oM_:=hOM.o1;have hQ:=hQ.up l4';refine Qm Y (Am (Bc hOM fun h5 l5 hB=>?_));have hQ:=hQ.up l5;refine Ar (Qm Y (Am (Ac (Ar (Qm Y (Am (Ag (BG ?_))))))))
 refine Aw (fun q sl h' ms'=>∃(i:Nat) (v7:Value) (m:Hp),q=A.length-i/\sl=[(4,.slice none 0 0),(5,rC),(6,rM),(7,v7),(8,.int .i64 i)]/\h5=h'/\ms'=[m]/\i<=A.length/\OwnL cI 1 3 m v7 (Js o M i))
  (A.length-0) _ ⟨0,_,Hp.emp,rfl,rfl,rfl,rfl,by omega,OwnL.nil Be⟩ Qs ?_
 rintro q sl h' ms' ⟨i,v7,m7,rfl,rfl,rfl,rfl,hi,hO7⟩;have ov7:=hO7.o1;refine Ac (Ar (Qm Y (Qm Y (Qx (Au hQ.rd.any Y A9 Y) Y (Qm Y (Am ?_))))));refine Ap Y (fun hlt=>?_) (fun hlt=>?_)
 ·have hil:i<A.length:=by omega
  have hio:i<o.length:=by omega
  have hiM:i<M.length:=by rw[hI.len];exact hio
  obtain⟨x,hx⟩:∃x,A[i]=x:=⟨_,Y⟩
  have hxo:o.getD i default=x.c:=by rw[show o.getD i default=o[i] by simp[List.getD,hio],hge i hil,hx]
  have cb:∀ms,Cell h5 ms ((AE rM).add (i*1)) (.bool M[i]):=fun ms=>(hB.any (ms:=ms)).cell0 hiM Y;have cx:∀ms,Cell h5 ms (((AE rC).add (i*3)).add 0) (.int .i64 x.c.id):=fun ms=>by rw[<-hx];exact(hQ.any (ms:=ms)).cell (j:=i) hil (f:=0) Y
  have hk:=SX o M i;rw[hxo,show M.getD i false=M[i] by simp[List.getD,hiM]]at hk
  have hfl:(Js o M i).length<=4000:=by unfold Js;rw[length_map];exact Nat.le_trans (List.length_filter_le _ _) (by rw[length_range];omega)
  refine Ah (Ab (Ac (Ag (Ar (Qm Y (Qm Y (Qx (BE (i) hB.rd.any Y Rq Wd Y Y) Y (Ql Y U4 (cb _) (Am ?_)))))))));refine Bx Y (fun hb=>?_) (fun hb=>?_)
  ·rw[hb,if_pos rfl]at hk;refine Ad (Qm Y (Qm Y (Qm Y (Qx (BE (i) hQ.rd.any Y A9 AG Y Y) Y (Qf Bi Y (Ql Y U3 (cx _) (Ao [_] Y AU A5 Y (by rfl) Y Y (by omega) Y Y Y (fun g30=>AR 1 hO7 (RdL.one Be (x:=x.c.id) Mh Y) Y AU A5 Y (by omega) Y Y Y B8 (by(try simp only[length_singleton]);omega) (by(try simp only[length_singleton]);omega) rfl rfl rfl (fun v9 m9 hO9=>?_)))))))));rw[<-hk]at hO9;have ov9:=hO9.o1;refine Qm Y (Al (Ai (Ab (Ad (Qm Y (Qx (oA Y) Y (Qm Y (Al (AO ?_)))))))));exact Ak (A.length-(i+1)) _ (by omega) ⟨i+1,v9,m9,Y,Y,Y,Y,by omega,hO9⟩ Qs
  ·rw[hb,if_neg (by decide),append_nil]at hk;refine Ah (Ai (Ab (Ad (Qm Y (Qx (oA Y) Y (Qm Y (Al ?_)))))));exact Ak (A.length-(i+1)) _ (by omega) ⟨i+1,v7,m7,Y,Y,Y,Y,by omega,by rw[hk];exact hO7⟩ Qs
 ·obtain rfl:i=A.length:=by omega
  refine As (Aa (Aa (Af (Ab (Ar (Qm Y (Qm Y (Am (An ?_)))))))));exact Av Y Y (⟨AJ l1 (AJ l13 (AJ l4' l5)),m7,M,Y,by rw[hAl]at hO7;exact hO7,hI⟩)
variable {L:List Int}
theorem OM{α:Type}{F:α->List Value}{h:Hp}{g:Nat}{x:α}(n:Nat)(hF:∀x,(F x).length=n)(hS:Seg h [] ⟨g,0,none⟩ (F x)):RdL F n h [] (.slice (some ⟨g,0,none⟩) 1 1) [x]:=
 ⟨⟨some ⟨g,0,none⟩,1,rfl,Nat.le_refl _,by decide,by rw[Bk hF],fun _=>⟨_,rfl,by simpa using hS⟩⟩,hF⟩
theorem XD(ks:List Int):Ss [] ks=0:=by unfold Ss;rw[if_pos rfl]
def Zf(L ks:List Int)(j:Nat):Int:=(ks.take j).foldl (fun m k=>max m (nM L k)) 0
theorem V6{ks:List Int}{j:Nat}(hj:j<ks.length):Zf L ks (j+1)=max (Zf L ks j) (nM L ks[j]):=by unfold Zf;rw[List.take_succ_eq_append_getElem hj,List.foldl_append];rfl
theorem Zm{ks:List Int}(h:L≠[]):Zf L ks ks.length=Ss L ks:=by unfold Zf Ss;rw[if_neg h,take_length]
theorem Aae(L ks:List Int)(j:Nat):0<=Zf L ks j/\Zf L ks j<=5:=by have h1:=((GF L (Zf L ks j) (ks.take j) 0).1 (Int.le_refl _)).1;have h2:=(GF L 5 (ks.take j) 0).2 ⟨by decide,fun k _=>(Zu L k).2⟩;exact⟨h1,h2⟩
theorem X3{o:List Cl}{M:List Bool}{n:Nat}(hn:n<=o.length):∀y∈Js o M n,∃x∈o,x.id=y:=fun y hy=>by unfold Js at hy;obtain⟨k,hk,rfl⟩:=List.mem_map.1 hy;have:=List.mem_range.1 (List.mem_filter.1 hk).1;exact⟨_,D1 (by omega),Y⟩
theorem QZ{o:List Cl}{f:Int}{i:Nat}(hi:i<o.length):Ha o L f (i+1)=Ha o L f i++[(o[i].id,GH o L o[i].id*f)]:=by unfold Ha;rw[List.take_succ_eq_append_getElem hi,map_append];rfl
theorem SU(l:List Ce)(v vL:Value)(L:List Int)(f:Int)(hp:Hp)(hK:RgC l)(hR:RdC hp v l)(hL:RdL cI 1 hp [] vL L)(hLb:∀x∈L,BN x)(hf:0<=f/\f<=1000):FnT Tryz.prog 14 #[.agg #[v],vL,.int .i64 f] hp [] (fun r h' ms'=>hp.le h'/\∃m,ms'=[m]/\OwnL cV 2 47 m r (Ha (cn l) L f (cn l).length)):=by
 have o1:=hR.q.rd.one;have o2:=hL.rd.one;have hln:=hK.r.n;rw[length_map]at hln;refine Aq func14 ntmps14 Y Y (fun w0 hw0=>?_);simp only[AW];refine Ar (AV [_] Y Y (by rfl) Y Y Y (fun g3=>Qm Y (Am (Bp 0 Y fun h1 l1 hS=>?_))));have hR:=hR.up l1;have hL:=hL.up l1;refine Ar (Qm Y (BH (Qx (oG Y CB AY (Seg.any hS)) Y (Qc call49 Y (EK l v h1 hK.r.cs hR) (fun rC h2 ms2 l2 hF=>?_)))));obtain⟨l2',mC,A,rfl,hOC,hA,hAs⟩:=hF;rw[D4 hK.r]at hA;obtain⟨o,ho⟩:∃o,cn l=o:=⟨_,Y⟩
 have hA:A.map Ce.c=o:=by rw[hA,<-ho];rfl
 have F:RgtF o:=by rw[<-ho];exact hK.F
 have G:=F.rgt;rw[ho];have hAl:A.length=o.length:=by rw[<-hA,length_map]
 have hol:o.length<=4000:=G.n;have oC:=hOC.o1;refine Qm Y (Am (Bc hOC fun h3 l3 hQ=>?_));have l13:=AJ l2' l3;have hge:∀i (hi:i<A.length),o[i]'(by omega)=A[i].c:=fun i hi=>by subst hA;simp
 refine Ac (Ar (Qm Y (Am (Ag (BG ?_)))))
 refine Aw (fun q sl h' ms'=>∃(i:Nat) (v7:Value) (m:Hp),q=A.length-i/\sl=[(1,vL),(2,.int .i64 f),(3,.pointer (some ⟨g3,0,none⟩)),(6,.slice none 0 0),(7,v7),(8,rC),(9,.int .i64 i)]/\h3.le h'/\ms'=[m]/\i<=A.length/\OwnL cV 2 47 m v7 (Ha o L f i))
  (A.length-0) _ ⟨0,_,Hp.emp,rfl,rfl,DT,rfl,by omega,OwnL.nil Nr⟩ Qs ?_
 rintro q sl h4 ms' ⟨i,v7,m7,rfl,rfl,l4,rfl,hi,hO7⟩;have ov7:=hO7.o1;have hQ:=hQ.up l4;have hL:=hL.up (AJ l13 l4);have hR:=hR.up (AJ l13 l4);have hS:Seg h4 [] ⟨g3,0,none⟩ [v]:=hS.le (AJ l13 l4);refine Ac (Ar (Qm Y (Qm Y (Qx (Au hQ.rd.any Y A9 Y) Y (Qm Y (Am ?_))))));refine Ap Y (fun hlt=>?_) (fun hlt=>?_)
 ·have hil:i<A.length:=by omega
  have hio:i<o.length:=by omega
  obtain⟨x,hx⟩:∃x,A[i]=x:=⟨_,Y⟩
  have hxo:o[i]=x.c:=by rw[hge i hil,hx]
  have hxm:x.c∈o:=by rw[<-hxo];exact getElem_mem hio
  have cx:∀ms,Cell h4 ms (((AE rC).add (i*3)).add 0) (.int .i64 x.c.id):=fun ms=>by rw[<-hx];exact(hQ.any (ms:=ms)).cell (j:=i) hil (f:=0) Y
  refine Ah (Ab (Ac (Ag (Ar (Qm Y (Am (Ac (A7 7 CW (by kernel_rfl) Y (AK (oG Y CB AY (Seg.any hS)) Y Y (Wm Y (Wm Y (AK (BE (i) hQ.rd.any Y A9 AG Y Y) Y Y (Wf Bi Y (Wl Y U3 (cx _) (Ui (EX [_] Y AU A5 Y (by rfl) Y Y (by omega)) Y Y (HF (fun g27=>DR fun h5 l5 hS5=>?_)))))))))))))))));refine Qc call50 Y (Pv l v _ x.c.id h5 hK (hR.up l5) (OM 1 Be hS5) (by rw[ho];exact List.mem_map.2 ⟨_,hxm,Y⟩)) (fun rK h6 ms6 l6 hF=>?_);obtain⟨l6',mK,M,rfl,hOK,hI⟩:=hF;rw[ho]at hOK hI;obtain⟨K,hKe⟩:∃K,Js o M o.length=K:=⟨_,Y⟩
  rw[hKe]at hOK
  have hKl:K.length<=4000:=by rw[<-hKe];unfold Js;rw[length_map];exact Nat.le_trans (List.length_filter_le _ _) (by rw[length_range];omega)
  have hKid:∀y∈K,0<=y:=fun y hy=>by obtain⟨z,hz,rfl⟩:=X3 (Nat.le_refl _) y (by rw[hKe];exact hy);have:=G.pos z hz;omega
  have hKv:Ss L K=GH o L x.c.id:=SM fun y=>by rw[<-hKe];exact Wi G (List.mem_map.2 ⟨_,hxm,Y⟩) hI y
  have oK:=hOK.o1;refine Qm Y (Am (Bc hOK fun h7 l7 hRK=>?_));have l47:=AJ l5 (AJ l6' l7);have hL:=hL.up l47;have hQ:=hQ.up l47;refine A8 (fun sl h' ms'=>sl=[(1,vL),(2,.int .i64 f),(3,.pointer (some ⟨g3,0,none⟩)),(6,.slice none 0 0),(7,v7),(8,rC),(9,.int .i64 i),(10,.int .i64 (GH o L x.c.id))]/\h7=h'/\ms'=[m7]) ?_ (fun s h ms hI=>?_)
  ·refine Ac (Ad (Qm Y (Am (Ag ?_))))
   refine Aw (fun q sl h' ms'=>∃(j:Nat) (w:Int),q=K.length-j/\sl=[(1,vL),(2,.int .i64 f),(3,.pointer (some ⟨g3,0,none⟩)),(6,.slice none 0 0),(7,v7),(8,rC),(9,.int .i64 i),(10,.int .i64 w),(11,rK),(12,.int .i64 j)]/\h7=h'/\ms'=[m7]/\j<=K.length/\(L=[]->w=0)/\(L≠[]->w=Zf L K j))
    (K.length-0) _ ⟨0,0,rfl,rfl,rfl,rfl,by omega,fun _=>rfl,fun _=>rfl⟩ Qs ?_
   rintro q sl h' ms' ⟨j,w,rfl,rfl,rfl,rfl,hj,hw0,hw1⟩
   have hwb:0<=w/\w<=5:=by
    by_cases e:L=[]
    ·rw[hw0 e];decide
    ·rw[hw1 e];exact Aae _ _ _
   have hLl:=hL.len_le
   have hend:(j=K.length\/L=[])->w=GH o L x.c.id:=fun h=>by
    rw[<-hKv];by_cases e:L=[]
    ·rw[hw0 e,e,XD]
    ·rw[hw1 e,h.resolve_right e,Zm e]
   refine Ac (Ar (Qm Y (Qm Y (Qx (Au hRK.rd.any Y AU Y) Y (Qm Y (Qm Y ?_))))));refine AN (t:=33) Y (fun hs=>?_) (fun hs=>?_)
   ·refine Qg (Ay Y Y) Y (Qg (Au hL.rd.any Y AU Y) Y (Qg (Cu Y Y Y) Y (Qm Y (Am ?_))));refine Ap Y (fun hLn=>?_) (fun hLn=>?_)
    ·have hL0:L≠[]:=fun e=>by rw[e]at hLn;simp at hLn
     have hLp:0<L.length:=by
      cases L with
      | nil=>exact absurd Y hL0
      | cons=>simp
     have hjn:j<K.length:=by omega
     have hK0:=hKid _ (getElem_mem hjn);obtain⟨r,hr⟩:∃r:Nat,K[j]%(L.length:Int)=r:=⟨(K[j]%(L.length:Int)).toNat,by rw[Int.toNat_of_nonneg (Int.emod_nonneg _ (by omega))]⟩
     have hrl:r<L.length:=by have:=Int.emod_lt_of_pos K[j] (show(0:Int)<L.length by omega);omega
     have hn:nM L K[j]=L[r]%6:=by unfold nM;rw[hr,Int.toNat_natCast];simp[List.getD,hrl]
     have hw:=hw1 hL0;have ck:∀ms,Cell h7 ms ((AE rK).add (j*1)) (.int .i64 K[j]):=fun ms=>(hRK.any (ms:=ms)).cell0 hjn Y;have cl:∀ms,Cell h7 ms ((AE vL).add (r*1)) (.int .i64 L[r]):=fun ms=>(hL.any (ms:=ms)).cell0 hrl Y;refine Ah (Ab (Ac (Ag (Ad (Qm Y (Qm Y (Qm Y (Qm Y (Qx (BE (j) hRK.rd.any Y AU A5 Y Y) Y (Ql Y U3 (ck _) (Qm Y (Qx (Au hL.rd.any Y AU Y) Y (Qx (BO Y Y Y hK0 (by omega)) Y (Qx (BE (r) hL.rd.any Y AU A5 Y Y) Y (Ql Y U3 (cl _) (Qx (AI Y call34 Y (Hv L[r] 6 (hLb _ (getElem_mem hrl)) (by decide) h7 [m7])) Y (Qx (Jq Y Y Y) Y (Qm Y (Al (Ai (Ab (Ad (Qm Y (Qx (oA Y) Y (Qm Y (Al ?_))))))))))))))))))))))))));exact Ak (K.length-(j+1)) _ (by omega) ⟨j+1,max w (L[r]%6),Y,Y,Y,Y,by omega,fun e=>absurd e hL0,fun _=>by rw[V6 hjn,hn,hw]⟩ Qs
    ·have hL0:L=[]:=by
      cases L with
      | nil=>rfl
      | cons=>simp at hLn
     obtain rfl:w=GH o L x.c.id:=hend (.inr hL0);refine As (Aa (Aa (Af ?_)));exact AF _ ⟨Y,Y,Y⟩ Qs
   ·obtain rfl:w=GH o L x.c.id:=hend (.inl (by omega));refine Qk Y (Qk Y (Qk Y (Qm Y (Am (AQ Y (As (Aa (Aa (Af ?_)))))))));exact AF _ ⟨Y,Y,Y⟩ Qs
  ·obtain⟨rfl,rfl,rfl⟩:=hI;have hvb:0<=GH o L x.c.id/\GH o L x.c.id<=5:=Wu _ _
   have hpb:-9223372036854775808<=GH o L x.c.id*f/\GH o L x.c.id*f<=9223372036854775807:=by have h1:0<=GH o L x.c.id*f:=Int.mul_nonneg hvb.1 hf.1;have h2:GH o L x.c.id*f<=5*f:=Int.mul_le_mul_of_nonneg_right hvb.2 hf.1;omega
   have hfl:(Ha o L f i).length<=4000:=by unfold Ha;rw[length_map,length_take];omega
   have cx7:∀ms,Cell h7 ms (((AE rC).add (i*3)).add 0) (.int .i64 x.c.id):=fun ms=>by rw[<-hx];exact(hQ.any (ms:=ms)).cell (j:=i) hil (f:=0) Y
   refine Ad (Qm Y (Qm Y (Qm Y (Qx (BE (i) hQ.rd.any Y A9 AG Y Y) Y (Qf Bi Y (Ql Y U3 (cx7 _) (Qm Y (Qm Y (Qx (oM Y hpb) Y (Qx (A4 Wv [.int .i64 0,.int .i64 0] [(0,_),(1,_)] [_,_] Y EZ Y Y Qt Y) Y (Ao [_,_] Y NY EZ Y (by rfl) Y Y (by omega) Y Y Y (fun g63=>AR 1 hO7 (RdL.one Nr (x:=(x.c.id,GH o L x.c.id*f)) Mh Y) Y NY EZ Y (by omega) Y Y Y Aal (by(try simp only[length_singleton]);omega) (by(try simp only[length_singleton]);omega) rfl rfl rfl (fun v9 m9 hO9=>?_)))))))))))));have ov9:=hO9.o1;refine Qm Y (Al (Ai (Ab (Ad (Qm Y (Qx (oA Y) Y (Qm Y (Al (AO ?_)))))))));exact Ak (A.length-(i+1)) _ (by omega) ⟨i+1,v9,m9,Y,Y,AJ l4 l47,Y,by omega,by rw[QZ hio,hxo];exact hO9⟩ Qs
 ·obtain rfl:i=A.length:=by omega
  refine As (Aa (Aa (Af (Ab (Ar (Qm Y (Qm Y (Am (An ?_)))))))));exact Av Y Y (⟨AJ l1 (AJ l13 l4),m7,Y,by rw[hAl]at hO7;exact hO7⟩)
end Go.Proofs.Q
namespace Go.Proofs.Q
open Go.Proofs.Tryz
open Go.Eng Go.RowKit
theorem RH{P:Program}{d:Nat}(X Y:Array Value)(w:World):∀(fs:List Field) (os:List (TypeId×Nat×Bool)),fs.map (fun f=>(decide (f.name ≠ "_"),f.type,f.offset))=os.map (fun o=>(true,o.1,o.2.1))->(∀o∈os,P.plainKey o.1=true/\∃a b,X[o.2.1]?=some a/\Y[o.2.1]?=some b/\(Op.equalIn (d+1) o.1 a b).run P w=.ok o.2.2 w)->(Op.eqFields (d+1) X Y fs).run P w=.ok (os.all fun o=>o.2.2) w
 | [],[],_,_=>by simp[Op.eqFields]
 | [],o::os,h,_=>by simp at h
 | f::fs,[],h,_=>by simp at h
 | f::fs,o::os,h,hc=>by
  simp only[List.map_cons,List.cons.injEq,Prod.mk.injEq]at h;obtain⟨⟨h1,h2,h3⟩,h4⟩:=h;have ih:=RH (d:=d) X Y w fs os h4 fun a ha=>hc a (mem_cons_of_mem _ ha);obtain⟨hp,a,b,c1,c2,he⟩:=hc o Mh;unfold Op.eqFields;rw[if_pos (of_decide_eq_true h1),h2,h3];simp only[Sem.run_bind,run_part_plain w hp c1,run_part_plain w hp c2,Result.andThen_ok,he];cases e:o.2.2
  ·simp[e]
  ·simp[e,ih]
theorem Aan:(Tryz.prog.fieldsOf 43).toList.map (fun f=>(decide (f.name ≠ "_"),f.type,f.offset))=[(3,0),(3,1),(3,2),(4,3),(3,4),(3,5)].map (fun o=>(true,o.1,o.2)):=by kernel_rfl
theorem pk3:Tryz.prog.plainKey 3=true:=by kernel_rfl
theorem pk4:Tryz.prog.plainKey 4=true:=by kernel_rfl
theorem AbF:Tryz.prog.eqGuardType Tryz.prog.depth 43=false:=by kernel_rfl
theorem Aa4:Tryz.prog.underlying 43=some (.struct (Tryz.prog.fieldsOf 43)):=by kernel_rfl
theorem Aa2:Tryz.prog.stoodInHeld 43=false:=by kernel_rfl
theorem XL{o:Oper}{s:AC}{h:Hp}{ms:List Hp}{x y:Operand}{u:TypeId}(a b:Br)(ho:o.op=.binOp .neq 43 x y u)(hx:ev s x=some (.agg (JY a).toArray))(hy:ev s y=some (.agg (JY b).toArray)):OX Tryz.prog o s h ms (.bool (decide (a≠b))):=
 BB fun ρ w hρ _=>by
  have h1:(Op.equalIn 10000 43 (.agg (JY a).toArray) (.agg (JY b).toArray)).run Tryz.prog w=.ok (decide (a=b)) w:=by
   have h2:=RH (P:=Tryz.prog) (d:=9998) (JY a).toArray (JY b).toArray w (Tryz.prog.fieldsOf 43).toList [(3,0,a.dim==b.dim),(3,1,a.birth==b.birth),(3,2,a.death==b.death),(4,3,a.opn==b.opn),(3,4,a.low==b.low),(3,5,a.high==b.high)] (by rw[Aan];rfl) fun o ho=>by
    simp only[mem_cons,List.not_mem_nil,or_false]at ho;rcases ho with rfl|rfl|rfl|rfl|rfl|rfl
    ·exact⟨pk3,_,_,Y,Y,run_equalIn_int w _ 3 .i64 .i64 _ _ U3⟩
    ·exact⟨pk3,_,_,Y,Y,run_equalIn_int w _ 3 .i64 .i64 _ _ U3⟩
    ·exact⟨pk3,_,_,Y,Y,run_equalIn_int w _ 3 .i64 .i64 _ _ U3⟩
    ·exact⟨pk4,_,_,Y,Y,run_equalIn_bool' w _ 4 _ _ U4⟩
    ·exact⟨pk3,_,_,Y,Y,run_equalIn_int w _ 3 .i64 .i64 _ _ U3⟩
    ·exact⟨pk3,_,_,Y,Y,run_equalIn_int w _ 3 .i64 .i64 _ _ U3⟩
   rw[run_equalIn_agg w 9999 43 _ _ Aa4 Aa2,h2];congr 1;obtain⟨a1,a2,a3,a4,a5,a6⟩:=a;obtain⟨b1,b2,b3,b4,b5,b6⟩:=b;rw[Bool.eq_iff_iff,decide_eq_true_iff,Br.mk.injEq];show((a1==b1)&&((a2==b2)&&((a3==b3)&&((a4==b4)&&((a5==b5)&&((a6==b6)&&true))))))=true<->_;simp only[Bool.and_true,Bool.and_eq_true,beq_iff_eq]
  have e:(!decide (a=b))=decide (a≠b):=by simp
  simp only[execOp,ho,hρ _ _ hx,hρ _ _ hy];simp only[Sem.run_bind,run_eqGuard_agg w _ _ _ _ _ _ AbF,run_neq_struct,h1,e,Result.andThen_ok,Sem.run_pure]
theorem QW{a b:Nat}(h:(a:Int)<b):a<b:=by omega
theorem OS(a b:List Br)(va vb:Value)(h:Hp)(hA:RdL JY 6 h [] va a)(hB:RdL JY 6 h [] vb b)(ms:List Hp):FnV Tryz.prog 17 #[va,vb] h ms (.bool (decide (a=b))):=by
 refine EO ?_ ms;have la:=hA.len_le;have lb:=hB.len_le;refine Aq func17 ntmps17 Y Y (fun w0 hw0=>?_);simp only[AW];refine Ar (Qm Y (Am (Ac (Ar (Qm Y (Qx (Au hA.rd.any Y RQ Y) Y (Qm Y (Qx (Au hB.rd.any Y RQ Y) Y (Qm Y (Am ?_))))))))));refine Ap Y (fun hne=>?_) (fun hne=>?_)
 ·refine Ac (Ad (Qm Y (Am (An (Ae ?_)))));exact Av Y Y (by rw[decide_eq_false];intro e;rw[e]at hne;exact hne Y)
 ·have hl:a.length=b.length:=by omega
  refine Ah (Ab (Ac (Ar (Qm Y (Am (Ag ?_))))))
  refine Aw (fun q s h' ms'=>∃(k:Nat),q=a.length-k/\s=[(0,va),(1,vb),(5,.int .i64 k)]/\h=h'/\ms'=[]/\k<=a.length/\a.take k=b.take k)
   (a.length-0) _ ⟨0,rfl,rfl,rfl,rfl,by omega,rfl⟩ Qs ?_
  rintro q s h' ms' ⟨k,rfl,rfl,rfl,rfl,hk,he⟩;refine Ac (Ar (Qm Y (Qm Y (Qx (Au hA.rd.any Y RQ Y) Y (Qm Y (Am ?_))))));refine Ap Y (fun hlt=>?_) (fun hlt=>?_)
  ·have hka:k<a.length:=QW hlt;have hkb:k<b.length:=by omega
   have ca:∀ms,Seg h ms ((AE va).add (k*6)) (JY a[k]):=fun ms=>(hA.any (ms:=ms)).seg hka;have cb:∀ms,Seg h ms ((AE vb).add (k*6)) (JY b[k]):=fun ms=>(hB.any (ms:=ms)).seg hkb;refine Ah (Ab (Ac (Ag (Ac (A7 8 CW (by kernel_rfl) Y (Wm Y (Wm Y (AK (BE (k) hA.rd.any Y RQ ER Y Y) Y Y (AK (oG Y U43 ER (ca _)) Y Y (Wm Y (Wm Y (AK (BE (k) hB.rd.any Y RQ ER Y Y) Y Y (AK (oG Y U43 ER (cb _)) Y Y (AZ (Qx (XL a[k] b[k] Y Y Y) Y (Am ?_))))))))))))))));refine Ap Y (fun hne=>?_) (fun hne=>?_)
   ·refine Ac (Ad (Qm Y (Am (An (Aj (Ae (Ae (Aj (Ae ?_)))))))));exact Av Y Y (by rw[decide_eq_false];rintro rfl;exact hne Y)
   ·refine Ah (Ai (Ab (Ad (Qm Y (Qx (oA Y) Y (Qm Y (Al ?_)))))));refine Ak (a.length-(k+1)) _ (by omega) ⟨k+1,Y,Y,Y,Y,by omega,?_⟩ Qs;rw[List.take_add_one,List.take_add_one,he,List.getElem?_eq_getElem hka,List.getElem?_eq_getElem hkb,Decidable.not_not.1 hne]
  ·obtain rfl:k=a.length:=by omega
   refine As (Aa (Aa (Af (Ab (Ar (Qm Y (Am (An ?_))))))));exact Av Y Y (by rw[take_length,hl,take_length]at he;rw[decide_eq_true he])
theorem SK(la lb:List Int)(va vb:Value)(h:Hp)(hA:RdL cI 1 h [] va la)(hB:RdL cI 1 h [] vb lb)(ms:List Hp):FnV Tryz.prog 44 #[va,vb] h ms (.bool (decide (la=lb))):=by
 refine EO ?_ ms;have l1:=hA.len_le;have l2:=hB.len_le;refine Aq func44 ntmps44 Y Y (fun w0 hw0=>?_);simp only[AW];refine Ar (Qm Y (Am (Ac (Ar (Qm Y (Qx (Au hA.rd.any Y AU Y) Y (Qm Y (Qx (Au hB.rd.any Y AU Y) Y (Qm Y (Am ?_))))))))));refine Ap Y (fun hlen=>?_) (fun hlen=>?_)
 ·refine Ac (Ad (Qm Y (Am (An (Ae ?_)))));exact Av Y Y (by rw[decide_eq_false];rintro rfl;exact hlen Y)
 ·have hlen:la.length=lb.length:=by omega
  refine Ah (Ab (Ac (Ar (Qm Y (Am (Ag ?_))))))
  refine Aw (fun q s h' ms'=>∃(k:Nat),q=la.length-k/\s=[(0,va),(1,vb),(5,.int .i64 k)]/\h=h'/\ms'=[]/\k<=la.length/\la.take k=lb.take k)
   (la.length-0) _ ⟨0,rfl,rfl,rfl,rfl,by omega,rfl⟩ Qs ?_
  rintro q s h' ms' ⟨k,rfl,rfl,rfl,rfl,hk,hno⟩;refine Ac (Ar (Qm Y (Qm Y (Qx (Au hA.rd.any Y AU Y) Y (Qm Y (Am ?_))))));refine Ap Y (fun hlt=>?_) (fun hlt=>?_)
  ·have k1:k<la.length:=by omega
   have k2:k<lb.length:=by omega
   have ca:∀ms,Cell h ms ((AE va).add (k*1)) (.int .i64 la[k]):=fun ms=>(hA.any (ms:=ms)).cell0 k1 Y;have cb:∀ms,Cell h ms ((AE vb).add (k*1)) (.int .i64 lb[k]):=fun ms=>(hB.any (ms:=ms)).cell0 k2 Y;refine Ah (Ab (Ac (Ag (Ac (A7 8 CW (by kernel_rfl) Y (Wm Y (Wm Y (AK (BE (k) hA.rd.any Y AU A5 Y Y) Y Y (Wl Y U3 (ca _) (Wm Y (Wm Y (AK (BE (k) hB.rd.any Y AU A5 Y Y) Y Y (Wl Y U3 (cb _) (AZ (Qm Y (Am ?_))))))))))))))));refine Ap Y (fun hne=>?_) (fun hne=>?_)
   ·refine Ac (Ad (Qm Y (Am (An (Aj (Ae (Ae (Aj (Ae ?_)))))))));exact Av Y Y (by rw[decide_eq_false];rintro rfl;exact hne Y)
   ·refine Ah (Ai (Ab (Ad (Qm Y (Qx (oA Y) Y (Qm Y (Al ?_)))))));refine Ak (la.length-(k+1)) _ (by omega) ⟨k+1,Y,Y,Y,Y,by omega,?_⟩ Qs;rw[List.take_add_one,List.take_add_one,hno,List.getElem?_eq_getElem k1,List.getElem?_eq_getElem k2,Decidable.not_not.1 hne]
  ·refine As (Aa (Aa (Af (Ab (Ar (Qm Y (Am (An ?_))))))));exact Av Y Y (by rw[decide_eq_true];rwa [List.take_of_length_le (by omega),List.take_of_length_le (by omega)]at hno)
end Go.Proofs.Q
namespace Go.Proofs.Q
open Go.Eng Go.RowKit Go.Lin
variable {S:List Ce}
theorem AaN{S':List Ce}(h:S'.map Ce.c=S.map Ce.c)(i:Nat):(S'.getD i default).c=(S.getD i default).c:=by
 have e:∀S:List Ce,(S.getD i default).c=(S.map Ce.c).getD i (default:Ce).c:=fun S=>by simp only[List.getD,List.getElem?_map];cases S[i]?<;>rfl
 rw[e,e,h]
theorem PN{S':List Ce}(f:Int->Int)(L:List Int)(h:S'.map Ce.c=S.map Ce.c)(n:Nat):Do f S' L n=Do f S L n:=by unfold Do;congr 1;funext m;unfold GP;simp only[AaN h]
def circC:List Cl:=[⟨1,0,[]⟩,⟨2,0,[]⟩,⟨3,1,[(1,-1),(2,1)]⟩,⟨4,1,[(1,-1),(2,1)]⟩]
def circF:List (Int×Int):=[(1,0),(2,1),(3,2),(4,5)]
def circB:List Br:=[⟨0,0,0,true,1,0⟩,⟨0,1,2,false,2,3⟩,⟨1,5,0,true,4,0⟩]
def circS:List Ce:=circC.map fun c=>⟨c,undef⟩
theorem Nh:circS.map Ce.c=circC:=rfl
def Ks(j i:Nat):Int:=if i=j\/(j=3/\i=2) then 1 else 0
def PT(j:Nat):Option Nat:=if j=2 then some 1 else none
theorem isP2:IsP 2:=⟨by decide,by decide,by decide⟩
theorem UH:Rdc 2 4 (DM circC) (dmo circC) (tr circC circC) Ks PT:=by
 have h1:∀i,i<4->∀j,j<4->(2:Int)∣FC 4 (DM circC) (fun k=>DM circC k j) i:=by decide
 have h2:∀i,i<4->∀j,j<4->¬(2:Int)∣DM circC i j->dmo circC j=dmo circC i+1:=by decide
 have h3:∀i,i<4->∀j,j<4->tr circC circC i=tr circC circC j->i=j:=by decide
 have h4:∀j,j<4->j<4/\¬(2:Int)∣Ks j j/\∀i,i<4->¬(2:Int)∣Ks j i->tr circC circC i<=tr circC circC j:=by decide
 have h5:∀j,j<4->∀i,i<4->¬(2:Int)∣Ks j i->dmo circC i=dmo circC j:=by decide
 have h6:∀j,j<4->PT j=none->∀i,i<4->(2:Int)∣FC 4 (DM circC) (Ks j) i:=by decide
 have h7:¬(2:Int)∣FC 4 (DM circC) (Ks 2) 1/\∀i,i<4->¬(2:Int)∣FC 4 (DM circC) (Ks 2) i->tr circC circC i<=tr circC circC 1:=by decide
 have h8:∀j i,PT j=some i->j=2/\i=1:=fun j i h=>by
  unfold PT at h;split at h
  ·rename_i e;exact⟨e,(Option.some.inj h).symm⟩
  ·cases h
 refine⟨isP2.fld,fun i j hi hj=>h1 i hi j hj,fun i j hi hj=>h2 i hi j hj,fun i j hi hj=>h3 i hi j hj,fun j hj=>h4 j hj,fun j i hj hi=>h5 j hj i hi,fun j hj=>h6 j hj,fun j i hj h=>?_,fun j j' i hj hj' h h'=>?_⟩
 ·obtain⟨rfl,rfl⟩:=h8 j i h;exact⟨by decide,h7.1,h7.2⟩
 ·rw[(h8 _ _ h).1,(h8 _ _ h').1]
theorem Ue{l:List Ce}{R V:Nat->List Int}(H:PerH 2 circF l S R V)(hl:cn l=circC):Do (Cb (A6 circF)) S (Dr S R) S.length=circB:=by
 have hS:S.map Ce.c=circC:=by
  have h1:Ls (Cb (A6 circF)) circS:=by unfold Ls;decide
  have:=Ra (f:=Cb (A6 circF)) (g:=Cb (A6 circF)) (S:=circS) (S':=S) h1 H.P.srt (by rw[Nh,<-hl];exact H.P.perm.symm) (by decide) fun _ _ _ _=>Iff.rfl;rw[this,Nh]
 have hn:S.length=4:=by have:=congrArg List.length hS;simpa[circC] using this
 have Q:=H.rdc;rw[hl,hn,hS]at Q
 have key:∀j,j<4->AX (R j)=if j=2 then 1 else -1:=fun j hj=>by
  have e:=Wx Q UH hj;have h1:=(Dc (R j)).1;have h2:=(Dc (R j)).2;rw[(H.col j (by omega)).rl,hn]at h2;have ht:∀j,j<4->tr circC circC j=j:=by decide
  unfold O8 PT at e;rw[hS,ht j hj]at e;by_cases h0:0<=AX (R j)
  ·rw[if_pos h0,ht _ (by omega)]at e;split at e
   ·rename_i h;rw[if_pos h];have:=Option.some.inj e;omega
   ·cases e
  ·rw[if_neg h0]at e;split at e
   ·cases e
   ·rename_i h;rw[if_neg h];omega
 have hL:Dr S R=[-1,-1,1,-1]:=by unfold Dr;rw[hn];show [AX (R 0),AX (R 1),AX (R 2),AX (R 3)]=_;rw[key 0 (by omega),key 1 (by omega),key 2 (by omega),key 3 (by omega)];rfl
 rw[hL,hn,PN (S:=circS) (S':=S) _ _ (by rw[hS,Nh]) 4];decide
end Go.Proofs.Q
namespace Go.Proofs.Q
open Go.Proofs.Tryz
open Go.Eng Go.RowKit
variable {D:Int}
theorem X1:O9 (E6 1)=circC:=by decide
theorem circ_rgtF:RgtF circC:=by
 have e:Tz circC=circC:=by decide
 exact⟨by decide,by decide,by decide,fun x hx=>by rw[<-e]at hx;obtain⟨y,_,rfl⟩:=List.mem_map.1 hx;exact⟨y,Y⟩,by decide,by decide⟩
theorem KV:DF circC circF=(0,0):=by decide
theorem Tq:DF circC (circF.take 3)=(4,30):=by decide
theorem Uq:DF circC [(1,0),(2,3),(3,2),(4,5)]=(3,44):=by decide
theorem IA(F:List (Int×Int))(hF:F=circF\/F=circF.take 3\/F=[(1,0),(2,3),(3,2),(4,5)]):GA F:=by rcases hF with rfl|rfl|rfl<;>exact⟨by decide,by decide⟩
theorem K9:∀x∈circC,∀s∈x.sd,Cb (A6 circF) s.1<=Cb (A6 circF) x.id:=by decide
theorem circ_q:T4 circC circF:=by
 have:=Wy circ_rgtF.rgt (fun c=>Cb (A6 circF) c) (by decide) K9;have e:(circC.map fun x=>(x.id,Cb (A6 circF) x.id))=circF:=by decide
 rwa [e]at this
theorem UI{o:List Cl}(h:Kv o D)(k:Int)(h1:∀c∈o,c.dim<=k)(h2:∃c∈o,c.dim=k)(h0:0<=k):D=k:=by
 obtain⟨a,b,c⟩:=h;obtain⟨y,hy,e⟩:=h2;have:=b y hy;rcases c with c|⟨z,hz,c⟩
 ·omega
 ·have:=h1 z hz;omega
theorem Zj{W:List Int}(hD:Kv (E1 circF 1 circC) D)(hl:W.length=(D+1).toNat)(key:∀d:Nat,((circB.filter (Br.at d 1)).length:Int)=if d<(D+1).toNat then W.getD d 0 else 0):W=[2]:=by
 obtain rfl:=UI hD 0 (by decide) (by decide) (by decide)
 match W,hl with
 | [a],_=>
  have h:=key 0;have h2:((circB.filter (Br.at (0:Nat) 1)).length:Int)=2:=by decide
  rw[h2,if_pos (by decide)]at h;rw[h];rfl
theorem Yy{W:List Int}(hD:Kv (E1 circF 2 circC) D)(hl:W.length=(D+1).toNat)(key:∀d:Nat,((circB.filter (Br.at d 2)).length:Int)=if d<(D+1).toNat then W.getD d 0 else 0):W=[1,0]:=by
 obtain rfl:=UI hD 1 (by decide) (by decide) (by decide)
 match W,hl with
 | [a,b],_=>
  have h:=key 0;have h':=key 1;have h2:((circB.filter (Br.at (0:Nat) 2)).length:Int)=1:=by decide
  have h3:((circB.filter (Br.at (1:Nat) 2)).length:Int)=0:=by decide
  rw[h2,if_pos (by decide)]at h;rw[h3,if_pos (by decide)]at h';have e1:a=1:=h.symm;have e2:b=0:=h'.symm;rw[e1,e2]
theorem TA(hp:Hp):FnT Tryz.prog 43 #[] hp [] (fun r h' ms'=>hp.le h'/\∃gF mC A vC,r=.tuple #[.agg #[vC],.slice (some ⟨gF,0,none⟩) 4 4]/\ms'=[Bl gF 47 [.int .i64 1,.int .i64 0,.int .i64 2,.int .i64 1,.int .i64 3,.int .i64 2,.int .i64 4,.int .i64 5],mC]/\OwnL cC 3 52 mC vC A/\A.map Ce.c=O9 (E6 1)/\∀a∈A,RdL cD 2 h' [] a.v a.c.sd):=by show FnT _ _ (List.toArray []) _ _ _;refine Aq func43 ntmps43 Y Y (fun w0 hw0=>?_);simp only[AW];refine Ar (CG [.slice none 0 0] Y AY Y Y (fun g0=>Qm Y (BH (Qc call45 Y (IM 1 hp (by decide)) (fun rC h2 ms2 l2 hF=>?_)))));obtain⟨l2',mC,A,vC,rfl,rfl,hOC,hA,hsd⟩:=hF;have oC:=hOC.o1;refine Qx (A4 Wv [.int .i64 0,.int .i64 0] [(0,_)] [_,_] Y EZ Y Y Qt Y) Y (Qx (A4 Wv [.int .i64 0,.int .i64 0] [(0,_),(1,_)] [_,_] Y EZ Y Y Qt Y) Y (Qx (A4 Wv [.int .i64 0,.int .i64 0] [(0,_),(1,_)] [_,_] Y EZ Y Y Qt Y) Y (Qx (A4 Wv [.int .i64 0,.int .i64 0] [(0,_),(1,_)] [_,_] Y EZ Y Y Qt Y) Y (Ax [(0,_),(2,_),(4,_),(6,_)] [.int .i64 0,.int .i64 0,.int .i64 0,.int .i64 0,.int .i64 0,.int .i64 0,.int .i64 0,.int .i64 0] [_,_,_,_,_,_,_,_] Y NY EZ Y (by omega) (by kernel_rfl) Qt Y Y Y Y (fun g7=>?_)))));refine Sa 2 [_] AY Y (by simp[oC]) ?_;refine Qm Y (Am (An ?_));exact F5 (vs:=[_]) 2 Y Y Y CB Y AY Y Y (⟨l2',_,mC,A,vC,Y,Y,hOC,hA,hsd⟩)
end Go.Proofs.Q

namespace Go.Proofs.Q
open Go.Proofs.Tryz
open Go.Eng Go.RowKit
theorem Ho:∀(l acc s:List Int),Eb acc l=some s->s.length<=acc.length+l.length
 | [],acc,s,e=>by have:acc=s:=Option.some.inj e;rw[<-this];exact Nat.le_add_right _ _
 | x::l,acc,s,e=>by
  unfold Eb at e;split at e
  ·have:=Ho l acc s e;rw[length_cons];omega
  ·split at e
   ·cases e
   ·have:=Ho l _ s e;rw[Pu]at this;rw[length_cons];omega
theorem Lr:∀(ll acc all:List (List Int)),(∀l∈ll,l.length<=4)->Cx acc ll=some all->all.length<=acc.length+15*ll.length
 | [],acc,all,h,e=>by have:acc=all:=Option.some.inj e;rw[<-this];exact Nat.le_add_right _ _
 | l::ll,acc,all,h,e=>by
  rw[DC]at e;split at e
  ·cases e
  ·have h1:=Lr ll _ all (fun x hx=>h x (mem_cons_of_mem _ hx)) e
   have h2:(TP acc (Eb [] l)).length<=acc.length+15:=by
    cases hs:Eb [] l with
    | none=>exact Nat.le_add_right _ _
    | some s=>
     have h3:=Ho l [] s hs;have h4:=h l Mh;have h5:=Gz acc s (2^s.length-1);have h6:2^s.length<=16:=Nat.pow_le_pow_right (n:=2) (i:=s.length) (j:=4) (by decide) (by simp at h3;omega);show(CP acc s (2^s.length-1)).length<=_;omega
   rw[length_cons];omega
theorem VQ{ll:List (List Int)}(h:∀l∈ll,l.length<=4):(En ll).length<=15*ll.length:=by
 unfold En;cases e:Cx [] ll with
 | none=>simp
 | some all=>have:=Lr ll [] all h e;simpa using this
theorem WV{all:List (List Int)}{s t:List Int}(h:t∈H0 all s):t=s\/t∈all:=by
 unfold H0 at h;split at h
 ·exact .inr h
 ·rcases List.mem_append.1 h with h|h
  ·exact .inr (List.mem_of_mem_take h)
  ·rcases List.mem_cons.1 h with h|h
   ·exact .inl h
   ·exact .inr (List.mem_of_mem_drop h)
theorem Ma{all:List (List Int)}{s:List Int}(h:∀t∈all,t.length<=4)(hs:s.length<=4):∀b,∀t∈CP all s b,t.length<=4
 | 0,t,ht=>h t ht
 | b+1,t,ht=>by
  rcases WV ht with rfl|ht
  ·unfold Eu;rw[length_map];exact Nat.le_trans (List.length_filter_le _ _) (by rw[length_range];exact hs)
  ·exact Ma h hs b t ht
theorem Km:∀(ll acc all:List (List Int)),(∀l∈ll,l.length<=4)->(∀l∈acc,l.length<=4)->Cx acc ll=some all->∀l∈all,l.length<=4
 | [],acc,all,h,ha,e=>by have:acc=all:=Option.some.inj e;rw[<-this];exact ha
 | l::ll,acc,all,h,ha,e=>by
  rw[DC]at e;split at e
  ·cases e
  ·refine Km ll _ all (fun x hx=>h x (mem_cons_of_mem _ hx)) ?_ e;cases hs:Eb [] l with
   | none=>exact ha
   | some s=>exact Ma ha (by have:=Ho l [] s hs;have:=h l Mh;simp at *;omega) _
theorem VM{ll:List (List Int)}(h:∀l∈ll,l.length<=4):∀x∈En ll,x.dim<=7:=by
 unfold En;cases e:Cx [] ll with
 | none=>nofun
 | some all=>
  intro x hx;obtain⟨i,hi,rfl⟩:=List.mem_map.1 hx;have hi:=List.mem_range.1 hi;have:=Km ll [] all h nofun e _ (getElem_mem hi);show((all.getD i []).length:Int)-1<=7;rw[show all.getD i []=all[i] by simp[List.getD,hi]];omega
theorem NP(l:List Int)(v:Value)(hp:Hp)(hR:RdL cI 1 hp [] v l):FnT Tryz.prog 46 #[v] hp [] (fun r h' ms'=>hp.le h'/\Rn h' r ms' (fun o=>∃ll:List (List Int),ll.length<=l.length/\(∀s∈ll,s.length<=4)/\o=En ll)):=by
 have ov:=hR.rd.one;refine Aq func46 ntmps46 Y Y (fun w0 hw0=>?_);simp only[AW];refine Ar (CG [.slice none 0 0] Y AY Y Y (fun g2=>BH (Qm Y (Am (Ac (Ar (Qm Y (Am (Ag (BG ?_))))))))))
 refine Aw (fun q sl h' ms'=>∃(i:Nat) (v3:Value) (m3:Hp) (es:List Value) (ll:List (List Int)),q=12-i/\sl=[(0,v),(2,.pointer (some ⟨g2,0,none⟩)),(3,v3),(4,.int .i64 i)]/\hp.le h'/\ms'=[m3,Bl g2 29 [.slice none 0 0]]/\i<=12/\i<=l.length/\OwnL cW 1 22 m3 v3 es/\RdEs h' es ll/\ll.length=i/\∀s∈ll,s.length<=4)
  (12-0) _ ⟨0,_,Hp.emp,[],[],rfl,rfl,DT,rfl,by omega,by omega,OwnL.nil DG,RdEs.nil _,rfl,nofun⟩ Qs ?_
 rintro q sl h' ms' ⟨i,v3,m3,es,ll,rfl,rfl,lh,rfl,hi,hil,hO,hE,hll,h4⟩;have hR:=hR.up lh;have hel:=hE.1;have ov3:=hO.o1;refine Ac (Ar (Qm Y (Qm Y (Qx (Au hR.rd.any Y AU Y) Y (Qm Y (Qm Y ?_))))));refine AN (t:=11) Y (fun h1=>?_) (fun h1=>?_)
 ·refine Qg (Ay Y Y) Y (Qg (Dk Y Y Y) Y (Qm Y (Am ?_)));refine Ap Y (fun h2=>?_) (fun h2=>?_)
  ·have hin:i<l.length:=by omega
   obtain⟨x,hx⟩:∃x,l[i]=x:=⟨_,Y⟩
   have cx:∀ms,Cell h' ms ((AE v).add (i*1)) (.int .i64 x):=fun ms=>by rw[<-hx];exact(hR.any (ms:=ms)).cell0 hin Y
   refine Ah (Ab (Ac (Ag (Ar (Qm Y (Am (BG ?_)))))));refine A8 (fun sl h'' ms'=>∃(v5:Value) (m5:Hp) (s:List Int),sl=[(0,v),(2,.pointer (some ⟨g2,0,none⟩)),(3,v3),(4,.int .i64 i),(5,v5)]/\h'=h''/\ms'=[m5,m3,Bl g2 29 [.slice none 0 0]]/\OwnL cI 1 3 m5 v5 s/\s.length<=4) ?_ (fun s h ms hI=>?_)
   ·refine Ac (Ad (Qm Y (Am (Ag ?_))))
    refine Aw (fun q sl h'' ms'=>∃(j:Nat) (v5:Value) (m5:Hp) (s:List Int),q=6-j/\sl=[(0,v),(2,.pointer (some ⟨g2,0,none⟩)),(3,v3),(4,.int .i64 i),(5,v5),(6,.int .i64 j)]/\h'=h''/\ms'=[m5,m3,Bl g2 29 [.slice none 0 0]]/\j<=6/\OwnL cI 1 3 m5 v5 s/\s.length<=4)
     (6-0) _ ⟨0,_,Hp.emp,[],rfl,rfl,rfl,rfl,by omega,OwnL.nil Be,by simp⟩ Qs ?_
    rintro q sl h'' ms' ⟨j,v5,m5,s,rfl,rfl,rfl,rfl,hj,hO5,hs4⟩;have ov5:=hO5.o1;refine Ac (Ar (Qm Y (Qm Y (Qm Y ?_))));refine AN (t:=19) Y (fun hj1=>?_) (fun hj1=>?_)
    ·refine Qg (Ay Y Y) Y (Qg (Ef (hO5.rd (h:=h') (ms:=[m5]) Mh).rd Y AU Y) Y (Qg (Dk Y Y Y) Y (Qm Y (Am ?_))));refine Ap Y (fun hj2=>?_) (fun hj2=>?_)
     ·refine Ah (Ab (Ac (Ag (Ar (Qm Y (Qm Y (Qx (BE (i) hR.rd.any Y AU A5 Y Y) Y (Ql Y U3 (cx _) (Qm Y (Qx (YN (n:=j) Y Y Y (by omega)) Y (Qx (XP Y Y Y) Y (Qm Y (Am ?_)))))))))))));refine Ap Y (fun hbit=>?_) (fun hbit=>?_)
      ·refine Ad (Qm Y (Qm Y (Ao [_] Y AU A5 Y (by rfl) Y Y (by omega) Y Y Y (fun g36=>AR 1 hO5 (RdL.one Be (x:=(j:Int)) Mh Y) Y AU A5 Y (by omega) Y Y Y B8 (by(try simp only[length_singleton]);omega) (by(try simp only[length_singleton]);omega) rfl rfl rfl (fun v9 m9 hO9=>?_)))));have ov9:=hO9.o1;refine Qm Y (Al (Ai (Ab (Ad (Qm Y (Qx (oA Y) Y (Qm Y (Al (AO ?_)))))))));exact Ak (6-(j+1)) _ (by omega) ⟨j+1,v9,m9,_,Y,Y,Y,Y,by omega,hO9,by rw[length_append,length_singleton];omega⟩ Qs
      ·refine Ah (Ai (Ab (Ad (Qm Y (Qx (oA Y) Y (Qm Y (Al ?_)))))));exact Ak (6-(j+1)) _ (by omega) ⟨j+1,v5,m5,s,Y,Y,Y,Y,by omega,hO5,hs4⟩ Qs
     ·refine As (Aa (Aa (Af ?_)));exact AF _ ⟨v5,m5,s,Y,Y,Y,hO5,hs4⟩ Qs
    ·refine Qk Y (Qk Y (Qk Y (Qm Y (Am (AQ Y (As (Aa (Aa (Af ?_)))))))));exact AF _ ⟨v5,m5,s,Y,Y,Y,hO5,hs4⟩ Qs
   ·obtain⟨v5,m5,s,rfl,rfl,rfl,hO5,hs4⟩:=hI;refine Bs fun h6 l6 k6=>?_;have hS:=hO5.rdh (ms:=[]) k6;have oS_:=hS.rd.one;refine Ad (Qm Y (Qm Y (Ao [_] Y Cr Cv Y ((RdL.rd ‹_›).cells) Y Y (by omega) Y Y Y (fun g40=>?_))));refine Bb 1 hO (RdL.one DG (x:=v5) Mh Y) Y Cr Cv Y (by omega) Y Y Y (Gr fun u hu=>by rw[List.mem_singleton.1 hu];exact oS_) (by(try simp only[length_singleton]);omega) (by(try simp only[length_singleton]);omega) rfl rfl rfl (fun v9 m9 hO9=>?_);have ov9:=hO9.o1;refine Qm Y (Al (Ai (Ab (Ad (Qm Y (Qx (oA Y) Y (Qm Y (Al (AO ?_)))))))))
    exact Ak (12-(i+1)) _ (by omega) ⟨i+1,v9,m9,_,ll++[s],Y,Y,AJ lh l6,Y,by omega,by omega,hO9,(hE.up l6).snoc hS,by rw[length_append,hll];rfl,fun u hu=>by
     rcases List.mem_append.1 hu with h|h
     ·exact h4 u h
     ·rw[List.mem_singleton.1 h];exact hs4⟩ Qs
  ·refine Bs fun h6 l6 k6=>?_;have hV:=hO.rdh (ms:=[]) k6;have hE:=hE.up l6;refine As (Aa (Aa (Af (Ab (Ar (Qm Y ?_))))));refine Qc call104 Y (HL ll es v3 h6 (by omega) (fun s hs=>by have:=h4 s hs;omega) hV hE) (fun rC h7 ms7 l7 hF=>?_);obtain⟨l7',m,A,vA,rfl,rfl,hOA,hA,hs⟩:=hF;have ovA:=hOA.o1;refine Sa 1 [_] AY Y (by simp[ov,ov3,ovA]) ?_;refine Am (An ?_);exact By (vs:=[_]) 1 Y Y CB Y AY Y Y (⟨AJ lh (AJ l6 l7'),m,A,_,Y,Y,hOA,⟨ll,by omega,h4,hA⟩,hs⟩)
 ·refine Qk Y (Qk Y (Qm Y (Am (AQ Y (As (Aa (Aa (Af (Ab (Bs fun h6 l6 k6=>?_))))))))));have hV:=hO.rdh (ms:=[]) k6;have hE:=hE.up l6;refine Ar (Qm Y ?_);refine Qc call104 Y (HL ll es v3 h6 (by omega) (fun s hs=>by have:=h4 s hs;omega) hV hE) (fun rC h7 ms7 l7 hF=>?_);obtain⟨l7',m,A,vA,rfl,rfl,hOA,hA,hs⟩:=hF;have ovA:=hOA.o1;refine Sa 1 [_] AY Y (by simp[ov,ov3,ovA]) ?_;refine Am (An ?_);exact By (vs:=[_]) 1 Y Y CB Y AY Y Y (⟨AJ lh (AJ l6 l7'),m,A,_,Y,Y,hOA,⟨ll,by omega,h4,hA⟩,hs⟩)
variable {o:List Cl}
structure CxQ(K:Int)(o:List Cl):Prop where
 r:Rgt o
 n:o.length<=80
 i:∀x∈o,x.id<=K
 d:∀x∈o,x.dim<=7
theorem So:∀n,n<10->∀x∈O9 (E6 n),x.dim<=7:=by decide
theorem CxQ.spa(n:Nat)(h:n<10):CxQ 900 (O9 (E6 n)):=by have h1:=(Ka n h).1;exact⟨Nc n h,by rw[NV];omega,fun x hx=>by have:=(LC x hx).2;omega,So n h⟩
theorem CxQ.simp{ll:List (List Int)}(h1:ll.length<=5)(h4:∀l∈ll,l.length<=4):CxQ 900 (En ll):=by have h2:=VQ h4;exact⟨UN ll,by omega,fun x hx=>by have:=X9 ll x hx;omega,VM h4⟩
theorem CxQ.gone{K:Int}(Q:CxQ K o){c:Int}(h:c∈IB (ordF o)):CxQ K (o.filter fun x=>decide (x.id≠c)):=by refine⟨Q.r.gone fun y hy s hs e=>?_,Nat.le_trans (List.length_filter_le _ _) Q.n,fun x hx=>Q.i x (List.mem_filter.1 hx).1,fun x hx=>Q.d x (List.mem_filter.1 hx).1⟩;have hc:y.can∈ordF o:=(Dg o.length o (Nat.le_refl _)).mem_iff.2 (List.mem_map.2 ⟨y,hy,Y⟩);exact UR h _ hc s ((BP y.sd).mem_iff.2 hs) e
theorem CxQ.beside(Q:CxQ 900 o)(hn:o.length<26){m:Int}(h0:0<=m)(hM:∀x∈o,x.id<=m)(hK:m<=900)(n:Nat)(h:n<5):CxQ 1000 (o++(O9 (E6 n)).map (Wh m)):=by
 have h1:=(Ka n (by omega)).2 h;have hl:=NV (E6 n);refine⟨Q.r.union ((Nc n (by omega)).shift h0) (fun x hx y hy=>?_) (by rw[length_map];omega),by rw[length_append,length_map];omega,fun x hx=>?_,fun x hx=>?_⟩
 ·obtain⟨z,hz,rfl⟩:=List.mem_map.1 hy;have:=hM x hx;have:=(LC z hz).1;show x.id≠z.id+m;omega
 ·rcases List.mem_append.1 hx with h|h
  ·have:=Q.i x h;omega
  ·obtain⟨z,hz,rfl⟩:=List.mem_map.1 h;have:=(LC z hz).2;show z.id+m<=1000;omega
 ·rcases List.mem_append.1 hx with h'|h'
  ·exact Q.d x h'
  ·obtain⟨z,hz,rfl⟩:=List.mem_map.1 h';exact So n (by omega) z hz
theorem CxQ.up(Q:CxQ 900 o):CxQ 1000 o:=⟨Q.r,Q.n,fun x hx=>by have:=Q.i x hx;omega,Q.d⟩
theorem CxQ.rg{K:Int}(hK:K<=1000000){A:List Ce}(Q:CxQ K (A.map Ce.c)):RgC A:=⟨Q.r,fun a ha=>by have:=Q.i _ (List.mem_map.2 ⟨a,ha,Y⟩);omega⟩
theorem CxQ.ids{A:List Ce}(Q:CxQ 900 (A.map Ce.c)){a:Ce}(ha:a∈A):-1000000<=a.c.id/\a.c.id<=900:=by have hm:a.c∈A.map Ce.c:=List.mem_map.2 ⟨a,ha,Y⟩;have:=Q.i _ hm;have:=Q.r.pos _ hm;omega
theorem Sv{B:List Ce}{n:Int}(hB:B.map Ce.c=O9 (E6 (n%10).toNat))(hn:0<=n/\n<10):B.length<=1000:=by have h1:=congrArg List.length hB;rw[length_map,NV]at h1;have:=(Ka (n%10).toNat (by omega)).1;omega
theorem VY{B:List Ce}{n:Int}(hB:B.map Ce.c=O9 (E6 (n%10).toNat))(hn:0<=n/\n<10){b:Ce}(hb:b∈B):(-1000000<=b.c.id/\b.c.id<=1000000)/\b.c.sd.length<=100/\∀s∈b.c.sd,-1000000<=s.1/\s.1<=1000000:=by
 have hm:b.c∈O9 (E6 (n%10).toNat):=by rw[<-hB];exact List.mem_map.2 ⟨b,hb,Y⟩
 have R:=Nc (n%10).toNat (by omega);have hl:=(Ka (n%10).toNat (by omega)).1;have h1:=LC _ hm;refine⟨by omega,by have:=(R.bds hm).2;omega,fun s hs=>?_⟩;obtain⟨y,hy,e,_⟩:=R.sid _ hm s hs;have h2:=LC _ hy;omega
theorem E9{P:Program}{o:Oper}{s:AC}{h:Hp}{ms:List Hp}{v v':Value}(hx:OX P o s h ms v)(e:v=v'):OX P o s h ms v':=e ▸ hx
theorem QU(sp be:Nat)(L:List Int)(G:List Nat)(vL vG:Value)(hp:Hp)(hsp:sp<256)(hbe:be<256)(hG:∀g∈G,g<256)(hL:RdL cI 1 hp [] vL L)(hRG:RdL (fun g=>[.int .u8 (g:Nat)]) 1 hp [] vG G):FnT Tryz.prog 13 #[.agg #[.int .u8 sp,vL,vG,.int .u8 be]] hp [] (fun r h' ms'=>hp.le h'/\Rn h' r ms' (CxQ 1000)):=by
 have oL_:=hL.rd.one;have oG_:=hRG.rd.one;refine Aq func13 ntmps13 Y Y (fun w0 hw0=>?_);simp only[AW];refine Ar (AV [_,_,_,_] Y Y (by rfl) Y Y Y (fun g1=>CG [.slice none 0 0] Y AY Y Y (fun g2=>Am (Bp 1 Y fun h1 l1 hS=>?_))));have hL:=hL.up l1;have hRG:=hRG.up l1;have s0:∀{h},h1.le h->∀ms,Cell h ms (⟨g1,0,none⟩:Addr) (.int .u8 sp):=fun l ms=>Seg.all (hS.le l) 0 _ Y ms;have s1:∀{h},h1.le h->∀ms,Cell h ms (⟨g1,1,none⟩:Addr) vL:=fun l ms=>Seg.all (hS.le l) 1 _ Y ms;have s2:∀{h},h1.le h->∀ms,Cell h ms (⟨g1,2,none⟩:Addr) vG:=fun l ms=>Seg.all (hS.le l) 2 _ Y ms;have s3:∀{h},h1.le h->∀ms,Cell h ms (⟨g1,3,none⟩:Addr) (.int .u8 be):=fun l ms=>Seg.all (hS.le l) 3 _ Y ms;refine Ar (Qf Vp Y (Ql Y U5 (s0 (DT) _) (Qx (Ig Y U5 U3 Y (C4 (by omega))) Y ?_)));refine Qc call45 Y (IM sp h1 (by unfold BN;omega)) (fun rc h2 ms2 l2 hF=>?_);obtain⟨l2',mC,A,vC,rfl,rfl,hOC,hA,hAs⟩:=hF;have hQ:CxQ 900 (A.map Ce.c):=by rw[hA];exact CxQ.spa _ (by omega)
 have oC:=hOC.o1;refine CG [.slice none 0 0] Y AY Y Y (fun g3=>?_);refine Sa 0 [_] AY Y (by simp[oL_,oG_,oC]) ?_;refine Am ?_;refine A8 (fun sl h' ms'=>∃(vC:Value) (mC:Hp) (A:List Ce),sl=[(1,.pointer (some ⟨g1,0,none⟩)),(2,.pointer (some ⟨g2,0,none⟩)),(3,.pointer (some ⟨g3,0,none⟩))]/\h1.le h'/\ms'=[Bl g3 29 [vC],mC,Bl g2 29 [.slice none 0 0]]/\OwnL cC 3 52 mC vC A/\CxQ 900 (A.map Ce.c)/\∀a∈A,RdL cD 2 h' [] a.v a.c.sd) ?_ (fun s h ms hI=>?_)
 ·have hL2:=hL.up l2';obtain⟨k,hk⟩:∃k:Nat,min (L.length:Int) 5=k:=⟨min L.length 5,by omega⟩
  have hkl:k<=L.length/\k<=5:=by omega
  have hSub:RdL cI 1 h2 [] (B3 1 vL 0 k) (L.take k):=by have:=hL2.sub_ (i:=0) (j:=k) (by omega) hkl.1;simpa using this
  refine Ar (Qf Vp Y (Ql Y U5 (s0 l2' _) (Qx (BO Y Y Y (by omega) (by omega)) Y (Qm Y (Am ?_)))));refine Ap Y (fun h26=>?_) (fun h26=>?_)
  ·refine Ad (Qf W7 Y (Ql Y AU (s1 l2' _) (Qf W7 Y (Ql Y AU (s1 l2' _) (Qx (Au hL2.rd.any Y AU Y) Y (Qx (QY Y Y Y) Y (Qx (ET (k) hL2.rd.any Y AU A5 Y Y (by omega) (by omega)) Y (Qc call46 Y (NP (L.take k) _ h2 hSub) (fun rs h3 ms3 l3 hF=>?_)))))))));obtain⟨l3',mS,B,vB,rfl,rfl,hOB,⟨ll,hll,h4,hB⟩,hBs⟩:=hF;have hQB:CxQ 900 (B.map Ce.c):=by rw[hB];exact CxQ.simp (by rw[length_take]at hll;omega) h4
   have oB:=hOB.o1;refine Sa 1 [_] AY Y (by simp[oL_,oG_,oC,oB]) ?_;refine Al (A3 2 Y (CC 1 Y ?_));exact AF _ ⟨vB,mS,B,Y,AJ l2' l3',Y,hOB,hQB,hBs⟩ Qs
  ·refine Ah ?_;exact AF _ ⟨vC,mC,A,Y,l2',Y,hOC,hQ,hAs⟩ Qs
 ·obtain⟨vC,mC,A,rfl,l3,rfl,hOC,hQ,hAs⟩:=hI;refine A8 (fun sl h' ms'=>∃(vC:Value) (mC:Hp) (A:List Ce),sl=[(1,.pointer (some ⟨g1,0,none⟩)),(2,.pointer (some ⟨g2,0,none⟩)),(3,.pointer (some ⟨g3,0,none⟩))]/\h1.le h'/\ms'=[Bl g3 29 [vC],mC,Bl g2 29 [.slice none 0 0]]/\OwnL cC 3 52 mC vC A/\CxQ 900 (A.map Ce.c)/\∀a∈A,RdL cD 2 h' [] a.v a.c.sd) ?_ (fun s h ms hI=>?_)
  ·refine Ac (Ad (Qm Y (Am (Ag ?_))))
   refine Aw (fun q sl h' ms'=>∃(i:Nat) (vC:Value) (mC:Hp) (A:List Ce),q=6-i/\sl=[(1,.pointer (some ⟨g1,0,none⟩)),(2,.pointer (some ⟨g2,0,none⟩)),(3,.pointer (some ⟨g3,0,none⟩)),(4,.int .i64 i)]/\h1.le h'/\ms'=[Bl g3 29 [vC],mC,Bl g2 29 [.slice none 0 0]]/\i<=6/\OwnL cC 3 52 mC vC A/\CxQ 900 (A.map Ce.c)/\∀a∈A,RdL cD 2 h' [] a.v a.c.sd)
    (6-0) _ ⟨0,vC,mC,A,rfl,rfl,l3,rfl,by omega,hOC,hQ,hAs⟩ Qs ?_
   rintro q sl h' ms' ⟨i,vC,mC,A,rfl,rfl,lh,rfl,hi,hOC,hQ,hAs⟩;have hRG:=hRG.up lh;have hAn:=hQ.n;rw[length_map]at hAn;have oC:=hOC.o1;refine Ac (Ar (Qm Y (Qf Xm Y (Ql Y VB (s2 lh _) (Qx (Au hRG.rd.any Y VB Y) Y (Qm Y (Qm Y ?_)))))));refine AN (t:=30) Y (fun ha=>?_) (fun ha=>?_)
   ·refine Qg (Ay Y Y) Y (Qg (Dk Y Y Y) Y (Qm Y (Qm Y ?_)));refine AN (t:=34) Y (fun hb=>?_) (fun hb=>?_)
    ·refine Qg (oF B5 Y) Y (Qg (oL Y A9 (Cell.blk 0 Y Y)) Y (Qg (Ef (hOC.rd (h:=h') (ms:=[Bl g3 29 [vC],mC,Bl g2 29 [.slice none 0 0]]) (.tail _ (.head _))).rd Y A9 Y) Y (Qg (Cu Y Y Y) Y (Qm Y (Am ?_)))));refine Ap Y (fun hc=>?_) (fun hc=>?_)
     ·have hil:i<G.length:=by omega
      have hA1:1<A.length:=by omega
      refine Eg 1 Y (Bs fun h5 l5 k5=>?_);have hRC:RdC h5 vC A:=⟨hOC.rdh (ms:=[]) k5,fun a ha=>(hAs a ha).up l5⟩
      have hKA:RgC A:=hQ.rg (by decide);have l15:=AJ lh l5;have hRG:=hRG.up l5;refine Ah (Ab (Ac (Ag (Ar (Qx (oG Y CB AY (Seg.blk 0 Y)) Y (Qc call47 Y (YR A vC h5 hKA hRC) (fun rt h6 ms6 l6 hF=>?_)))))));obtain⟨l6',mT,rfl,hOT⟩:=hF
      have hTn:IB (cn A)≠[]:=Zb hKA.F.rgt fun e=>by have h1:=CY A;rw[e]at h1;simp at h1;omega
      obtain⟨T,hT⟩:∃T,IB (cn A)=T:=⟨_,Y⟩
      rw[hT]at hOT hTn;have hTl:0<T.length:=List.length_pos_iff.2 hTn
      have hTm:T.length<=4000:=by rw[<-hT];unfold IB;rw[length_map];exact Nat.le_trans (List.length_filter_le _ _) hKA.F.rgt.n
      have oT:=hOT.o1;obtain⟨gg,hgg⟩:∃gg,G[i]=gg:=⟨_,Y⟩
      have hgb:=hG gg (by rw[<-hgg];exact getElem_mem hil);have hRG:=hRG.up l6;have hRC:=hRC.up l6;have cg:∀ms,Cell h6 ms ((AE vG).add (i*1)) (.int .u8 gg):=fun ms=>by rw[<-hgg];exact(hRG.any (ms:=ms)).cell0 hil Y
      obtain⟨z,hz⟩:∃z:Nat,(gg:Int)%(T.length:Int)=z:=⟨gg%T.length,by omega⟩
      have hzT:z<T.length:=by have:=Int.emod_lt_of_pos (gg:Int) (b:=(T.length:Int)) (by omega);omega
      obtain⟨id,hid⟩:∃id,T[z]=id:=⟨_,Y⟩
      have hidT:id∈IB (cn A):=by rw[hT,<-hid];exact getElem_mem hzT
      refine Qm Y (Am (Bc hOT fun h7 l7 hQT=>?_));have hRG:=hRG.up l7;have hRC:=hRC.up l7;have l17:=AJ l15 (AJ l6 l7);have cid:∀ms,Cell h7 ms ((AE rt).add (z*1)) (.int .i64 id):=fun ms=>by rw[<-hid];exact(hQT.any (ms:=ms)).cell0 hzT Y
      have cg:=fun ms=>(cg ms).le l7;refine Ar (Qm Y (Qf Xm Y (Ql Y VB (s2 l17 _) (Qm Y (Qx (BE (i) hRG.rd.any Y VB el5 Y Y) Y (Ql Y U5 (cg _) (Qx (Ig Y U5 U3 Y (C4 (by omega))) Y (Qm Y (Qx (Au hQT.rd.any Y AU Y) Y (Qx (BO Y Y Y (by omega) (by omega)) Y (Qx (BE (z) hQT.rd.any Y AU A5 Y Y) Y (Ql Y U3 (cid _) (Qm Y (BH (CG [.slice none 0 0] Y AY Y Y (fun g7=>Am (BG ?_)))))))))))))))));refine A8 (fun sl h' ms'=>∃(v7:Value) (m7:Hp) (O:List Ce),sl=[(1,.pointer (some ⟨g1,0,none⟩)),(2,.pointer (some ⟨g2,0,none⟩)),(3,.pointer (some ⟨g3,0,none⟩)),(4,.int .i64 i),(7,.pointer (some ⟨g7,0,none⟩))]/\h7=h'/\ms'=[m7,Bl g7 29 [v7],Bl g3 29 [vC],Bl g2 29 [.slice none 0 0]]/\OwnL cC 3 52 m7 v7 O/\O.map Ce.c=(A.map Ce.c).filter (fun x=>decide (x.id≠id))/\∀a∈O,RdL cD 2 h' [] a.v a.c.sd) ?_ (fun s h ms hI=>?_)
      ·refine Ac (Ad (Qm Y (Am (Ag ?_))))
       refine Aw (fun q sl h' ms'=>∃(j:Nat) (v7:Value) (m7:Hp) (O:List Ce),q=A.length-j/\sl=[(1,.pointer (some ⟨g1,0,none⟩)),(2,.pointer (some ⟨g2,0,none⟩)),(3,.pointer (some ⟨g3,0,none⟩)),(4,.int .i64 i),(6,.int .i64 id),(7,.pointer (some ⟨g7,0,none⟩)),(8,.int .i64 j)]/\h7=h'/\ms'=[m7,Bl g7 29 [v7],Bl g3 29 [vC],Bl g2 29 [.slice none 0 0]]/\j<=A.length/\OwnL cC 3 52 m7 v7 O/\O.map Ce.c=((A.take j).map Ce.c).filter (fun x=>decide (x.id≠id))/\∀a∈O,RdL cD 2 h' [] a.v a.c.sd)
        (A.length-0) _ ⟨0,_,Hp.emp,[],rfl,rfl,rfl,rfl,by omega,OwnL.nil Cw,rfl,nofun⟩ Qs ?_
       rintro q sl h' ms' ⟨j,v7,m7,O,rfl,rfl,rfl,rfl,hj,hO7,hOc,hOs⟩
       have hOl:O.length<=80:=by have h1:=congrArg List.length hOc;rw[length_map]at h1;rw[h1];exact Nat.le_trans (List.length_filter_le _ _) (by rw[length_map,length_take];omega)
       have ov7:=hO7.o1;refine Ac (Ar (Qm Y (Qf B5 Y (Ql Y A9 (Cell.blk 2 Y Y) (Qx (Au hRC.q.rd.any Y A9 Y) Y (Qm Y (Am ?_)))))));refine Ap Y (fun hjl=>?_) (fun hjl=>?_)
       ·have hjn:j<A.length:=by omega
        obtain⟨x,hx⟩:∃x,A[j]=x:=⟨_,Y⟩
        have hX:=hRC.s x (by rw[<-hx];exact getElem_mem hjn);have oX:=hX.rd.one;have cx:∀ms,Cell h7 ms (((AE vC).add (j*3)).add 0) (.int .i64 x.c.id):=fun ms=>by rw[<-hx];exact(hRC.q.any (ms:=ms)).cell (j:=j) hjn (f:=0) Y
        have sx:∀ms,Seg h7 ms ((AE vC).add (j*3)) (cC x):=fun ms=>by rw[<-hx];exact(hRC.q.any (ms:=ms)).seg hjn
        have hsn:((A.take (j+1)).map Ce.c).filter (fun x=>decide (x.id≠id))=((A.take j).map Ce.c).filter (fun x=>decide (x.id≠id))++if x.c.id≠id then [x.c] else []:=by rw[List.take_succ_eq_append_getElem hjn,map_append,List.filter_append,hx];congr 1;by_cases h:x.c.id=id<;>simp[filter_cons,h]
        refine Ah (Ab ?_);refine A8 (fun sl h' ms'=>∃(v7:Value) (m7:Hp) (O:List Ce),sl=[(1,.pointer (some ⟨g1,0,none⟩)),(2,.pointer (some ⟨g2,0,none⟩)),(3,.pointer (some ⟨g3,0,none⟩)),(4,.int .i64 i),(6,.int .i64 id),(7,.pointer (some ⟨g7,0,none⟩)),(8,.int .i64 j)]/\h7=h'/\ms'=[m7,Bl g7 29 [v7],Bl g3 29 [vC],Bl g2 29 [.slice none 0 0]]/\OwnL cC 3 52 m7 v7 O/\O.map Ce.c=((A.take (j+1)).map Ce.c).filter (fun x=>decide (x.id≠id))/\∀a∈O,RdL cD 2 h' [] a.v a.c.sd) ?_ (fun s h ms hI=>?_)
        ·refine Ag (Ar (Qf B5 Y (Ql Y A9 (Cell.blk 2 Y Y) (Qm Y (Qx (BE (j) hRC.q.rd.any Y A9 AG Y Y) Y (Qf Bi Y (Ql Y U3 (cx _) (Qm Y (Qm Y (Am ?_))))))))));refine Ap Y (fun hne=>?_) (fun hne=>?_)
         ·refine BM (n:=11) (bs:=[true,false,true,false,true,false,false,false,false,true,false]) [true,false,true,false,true,false,false,false,false,true] CW (by kernel_rfl) (by kernel_rfl) Y Y (QF B5 Y (QF B5 Y (Qq Y (QF B5 Y ?_))));unfold FU;simp only[cons_append,nil_append];refine Bf [1,3] (by kernel_rfl) Y ?_;refine AD Y ?_ ?_
          ·refine Ql Y A9 (Cell.blk 1 Y Y) (Qw (Qo 3 Y (Ql Y A9 (Cell.blk 2 Y Y) (Qw (Ch 5 76 (by kernel_rfl) Y (DT) Y (BE (j) hRC.q.rd.any Y A9 AG Y Y) (Qo 6 Y (Qx (oG Y Ei AG (sx _)) Y (Qw (Qo 7 Y (Ao [_,_,_] Y A9 AG Y (by rfl) Y Y (by omega) Y Y Y (fun g78=>Qw (Qo 8 Y ?_))))))))))));refine Bb 1 hO7 (RdL.one Cw (x:=x) Mh Y) Y A9 AG Y (by omega) Y Y Y (Dh (l:=[x]) (h:=h7) fun y hy=>by rw[List.mem_singleton.1 hy];exact hX) (by(try simp only[length_singleton]);omega) (by(try simp only[length_singleton]);omega) rfl rfl rfl (fun v9 m9 hO9=>?_);have ov9:=hO9.o1;refine Qw (Qo 10 Y ?_);refine AP 2 _ Y JT Y Y (by assumption) Y Y (by(simp;done)) rfl rfl ?_;refine Qw (Qe (AO (Ai ?_)));exact AF _ ⟨v9,m9,O++[x],Y,Y,Y,hO9,by rw[hsn,if_pos hne,map_append,hOc];rfl,RdC.snoc' hOs hX⟩ Qs
          refine AD Y ?_ ?_
          ·refine Ql Y A9 (Cell.blk 2 Y Y) (Qw (Ch 5 76 (by kernel_rfl) Y (DT) Y (BE (j) hRC.q.rd.any Y A9 AG Y Y) (Bf [1,6] (by kernel_rfl) Y ?_)));refine AD Y ?_ ?_
           ·refine Ql Y A9 (Cell.blk 1 Y Y) (Qw (Qo 6 Y (Qx (oG Y Ei AG (sx _)) Y (Qw (Qo 7 Y (Ao [_,_,_] Y A9 AG Y (by rfl) Y Y (by omega) Y Y Y (fun g78=>Qw (Qo 8 Y ?_))))))));refine Bb 1 hO7 (RdL.one Cw (x:=x) Mh Y) Y A9 AG Y (by omega) Y Y Y (Dh (l:=[x]) (h:=h7) fun y hy=>by rw[List.mem_singleton.1 hy];exact hX) (by(try simp only[length_singleton]);omega) (by(try simp only[length_singleton]);omega) rfl rfl rfl (fun v9 m9 hO9=>?_);have ov9:=hO9.o1;refine Qw (Qo 10 Y ?_);refine AP 2 _ Y JT Y Y (by assumption) Y Y (by(simp;done)) rfl rfl ?_;refine Qw (Qe (AO (Ai ?_)));exact AF _ ⟨v9,m9,O++[x],Y,Y,Y,hO9,by rw[hsn,if_pos hne,map_append,hOc];rfl,RdC.snoc' hOs hX⟩ Qs
           refine AD Y ?_ ?_
           ·refine Qx (oG Y Ei AG (sx _)) Y (Qw (Bf [1,7] (by kernel_rfl) Y ?_));refine AD Y ?_ ?_
            ·refine Ql Y A9 (Cell.blk 1 Y Y) (Qw (Qo 7 Y (Ao [_,_,_] Y A9 AG Y (by rfl) Y Y (by omega) Y Y Y (fun g78=>Qw (Qo 8 Y ?_)))));refine Bb 1 hO7 (RdL.one Cw (x:=x) Mh Y) Y A9 AG Y (by omega) Y Y Y (Dh (l:=[x]) (h:=h7) fun y hy=>by rw[List.mem_singleton.1 hy];exact hX) (by(try simp only[length_singleton]);omega) (by(try simp only[length_singleton]);omega) rfl rfl rfl (fun v9 m9 hO9=>?_);have ov9:=hO9.o1;refine Qw (Qo 10 Y ?_);refine AP 2 _ Y JT Y Y (by assumption) Y Y (by(simp;done)) rfl rfl ?_;refine Qw (Qe (AO (Ai ?_)));exact AF _ ⟨v9,m9,O++[x],Y,Y,Y,hO9,by rw[hsn,if_pos hne,map_append,hOc];rfl,RdC.snoc' hOs hX⟩ Qs
            refine AD Y ?_ ?_
            ·refine Ao [_,_,_] Y A9 AG Y (by rfl) Y Y (by omega) Y Y Y (fun g78=>Qw (Qo 1 Y (Ql Y A9 (Cell.blk 2 Y Y) (Qw (Qo 8 Y ?_)))));refine Bb 1 hO7 (RdL.one Cw (x:=x) Mh Y) Y A9 AG Y (by omega) Y Y Y (Dh (l:=[x]) (h:=h7) fun y hy=>by rw[List.mem_singleton.1 hy];exact hX) (by(try simp only[length_singleton]);omega) (by(try simp only[length_singleton]);omega) rfl rfl rfl (fun v9 m9 hO9=>?_);have ov9:=hO9.o1;refine Qw (Qo 10 Y ?_);refine AP 2 _ Y JT Y Y (by assumption) Y Y (by(simp;done)) rfl rfl ?_;refine Qw (Qe (AO (Ai ?_)));exact AF _ ⟨v9,m9,O++[x],Y,Y,Y,hO9,by rw[hsn,if_pos hne,map_append,hOc];rfl,RdC.snoc' hOs hX⟩ Qs
            exact Bd
           exact Bd
          exact Bd
         ·refine Ah (Ai ?_);exact AF _ ⟨v7,m7,O,Y,Y,Y,hO7,by rw[hsn,if_neg hne,append_nil];exact hOc,hOs⟩ Qs
        ·obtain⟨v7,m7,O,rfl,rfl,rfl,hO7,hOc,hOs⟩:=hI;refine Ad (Qm Y (Qx (oA Y) Y (Qm Y (Al ?_))));exact Ak (A.length-(j+1)) _ (by omega) ⟨j+1,v7,m7,O,Y,Y,Y,Y,by omega,hO7,hOc,hOs⟩ Qs
       ·obtain rfl:j=A.length:=by omega
        refine As (Aa (Aa (Af ?_)));exact AF _ ⟨v7,m7,O,Y,Y,Y,hO7,by rw[hOc,take_length],hOs⟩ Qs
      ·obtain⟨v7,m7,O,rfl,rfl,rfl,hO7,hOc,hOs⟩:=hI;have ov7:=hO7.o1;have hQ7:CxQ 900 (O.map Ce.c):=by rw[hOc];exact hQ.gone hidT
       refine Ad (Qx (oG Y CB AY (Seg.blk 1 Y)) Y ?_);refine Sa 2 [_] AY Y (by simp[oL_,oG_,oC,oT,ov7]) ?_;refine Al (Ai (Ab (Ad (Qm Y (Qx (oA Y) Y (Qm Y (Al (A3 1 Y (CC 1 Y ?_)))))))));exact Ak (6-(i+1)) _ (by omega) ⟨i+1,v7,m7,O,Y,Y,AJ l15 (AJ l6 l7),Y,by omega,hO7,hQ7,hOs⟩ Qs
     ·refine As (Aa (Aa (Af ?_)));exact AF _ ⟨vC,mC,A,Y,lh,Y,hOC,hQ,hAs⟩ Qs
    ·refine Qk Y (Qk Y (Qk Y (Qk Y (Qm Y (Am (AQ Y (As (Aa (Aa (Af ?_))))))))));exact AF _ ⟨vC,mC,A,Y,lh,Y,hOC,hQ,hAs⟩ Qs
   ·refine Qk Y (Qk Y (Qm Y (Qm Y (Qk Y (Qk Y (Qk Y (Qk Y (Qm Y (Am (AQ Y (As (Aa (Aa (Af ?_))))))))))))));exact AF _ ⟨vC,mC,A,Y,lh,Y,hOC,hQ,hAs⟩ Qs
  ·obtain⟨vC,mC,A,rfl,lh,rfl,hOC,hQ,hAs⟩:=hI;have hAn:=hQ.n;rw[length_map]at hAn;have oC:=hOC.o1;refine A8 (fun sl h' ms'=>∃(vC:Value) (mC:Hp) (A:List Ce),sl=[(2,.pointer (some ⟨g2,0,none⟩)),(3,.pointer (some ⟨g3,0,none⟩))]/\h1.le h'/\ms'=[Bl g3 29 [vC],mC,Bl g2 29 [.slice none 0 0]]/\OwnL cC 3 52 mC vC A/\CxQ 1000 (A.map Ce.c)/\∀a∈A,RdL cD 2 h' [] a.v a.c.sd) ?_ (fun s h ms hI=>?_)
   ·refine Ac (Ad (Qf Vg Y (Ql Y U5 (s3 lh _) (Qx (BO Y Y Y (by omega) (by omega)) Y (Qm Y (Qm Y ?_))))));refine AN (t:=86) Y (fun hb3=>?_) (fun hb3=>?_)
    ·refine Qg (oF B5 Y) Y (Qg (oL Y A9 (Cell.blk 0 Y Y)) Y (Qg (Ef (hOC.rd (h:=h) (ms:=[Bl g3 29 [vC],mC,Bl g2 29 [.slice none 0 0]]) (.tail _ (.head _))).rd Y A9 Y) Y (Qg (Dk Y Y Y) Y (Qm Y (Am ?_)))));refine Ap Y (fun h26=>?_) (fun h26=>?_)
     ·refine Eg 1 Y (Bs fun h5 l5 k5=>?_);have hRC:RdC h5 vC A:=⟨hOC.rdh (ms:=[]) k5,fun a ha=>(hAs a ha).up l5⟩
      have l15:=AJ lh l5;have hd4:(be:Int).tdiv 4=(be:Int)/4:=by rw[Int.tdiv_eq_ediv_of_nonneg (by omega)]
      have hw4:IntKind.u8.wrap ((be:Int).tdiv 4)=(be:Int)/4:=by rw[hd4];simp only[IntKind.wrap,IntKind.bits,IntKind.signed];simp;omega
      obtain⟨z,hz⟩:∃z:Nat,(be:Int)/4%5=z:=⟨be/4%5,by omega⟩
      have hz5:z<5:=by omega
      refine BM (n:=9) (bs:=[false,true,true,true,true,true,false,false,false]) [false,true,true,true,true,true] CW (by kernel_rfl) (by kernel_rfl) Y Y (QF Vg Y (QL Y U5 (s3 l15 _) (Qp Y (E9 (MN Y Y Y (by decide)) (congrArg (Value.int .u8) hw4)) (Qp Y (Ig Y U5 U3 Y (C4 (by omega))) (Qp Y (BO Y Y Y (by omega) (by omega)) ?_)))));unfold FU;simp only[cons_append,nil_append];refine Bf [0,6] (by kernel_rfl) Y ?_;refine AD Y ?_ ?_
      ·refine Qx (oG Y CB AY (Seg.blk 0 Y)) Y (Qw (Qo 6 Y ?_));refine Qc call45 Y (IM ((be:Int)/4%5) h5 (by unfold BN;omega)) (fun rs h6 ms6 l6 hF=>?_);obtain⟨l6',mS,B,vB,rfl,rfl,hOB,hB,hBs⟩:=hF;refine Bv hOB fun h7 l7 hRB=>?_;have l57:=AJ l6' l7;have oB:=hRB.rd.one;refine Qa (Qo 7 Y (Qc call48 Y (Mt A B vC vB 900 (by decide) h7 (hRC.up l57) ⟨hRB,fun a ha=>(hBs a ha).up l7⟩ (by omega) (Sv hB (by omega)) (fun a ha=>hQ.ids ha) (fun b hb=>VY hB (by omega) hb)) (fun rb h8 ms8 l8 hF=>?_)));have l58:=AJ l57 l8;obtain⟨l8',mD,D,vD,rfl,rfl,hOD,⟨m,hm0,hm1,hmA,hD⟩,hDs⟩:=hF;have oC:=And.intro oC (show vD.oneCell'=true from hOD.o1);refine Qa (Qo 8 Y ?_);refine Sa 1 [_] AY Y (by simp[oL_,oG_,oC]) ?_;refine Qa (Qe (CC 1 Y ?_));exact AF _ ⟨vD,mD,D,Y,AJ l15 (AJ l57 l8'),Y,hOD,by rw[hD,hB,hz,Int.emod_eq_of_lt (by omega) (by omega),Int.toNat_natCast];exact hQ.beside (by rw[length_map];omega) hm0 (fun x hx=>by obtain⟨a,ha,rfl⟩:=List.mem_map.1 hx;exact hmA a ha) hm1 z hz5,hDs⟩ Qs
      refine AD Y ?_ ?_
      ·refine Qc call45 Y (IM ((be:Int)/4%5) h5 (by unfold BN;omega)) (fun rs h6 ms6 l6 hF=>?_);obtain⟨l6',mS,B,vB,rfl,rfl,hOB,hB,hBs⟩:=hF;refine Bv hOB fun h7 l7 hRB=>?_;have l57:=AJ l6' l7;have oB:=hRB.rd.one;refine Qa (Qo 0 Y (Qx (oG Y CB AY (Seg.blk 0 Y)) Y (Qa (Qo 7 Y (Qc call48 Y (Mt A B vC vB 900 (by decide) h7 (hRC.up l57) ⟨hRB,fun a ha=>(hBs a ha).up l7⟩ (by omega) (Sv hB (by omega)) (fun a ha=>hQ.ids ha) (fun b hb=>VY hB (by omega) hb)) (fun rb h8 ms8 l8 hF=>?_))))));have l58:=AJ l57 l8;obtain⟨l8',mD,D,vD,rfl,rfl,hOD,⟨m,hm0,hm1,hmA,hD⟩,hDs⟩:=hF;have oC:=And.intro oC (show vD.oneCell'=true from hOD.o1);refine Qa (Qo 8 Y ?_);refine Sa 1 [_] AY Y (by simp[oL_,oG_,oC]) ?_;refine Qa (Qe (CC 1 Y ?_));exact AF _ ⟨vD,mD,D,Y,AJ l15 (AJ l57 l8'),Y,hOD,by rw[hD,hB,hz,Int.emod_eq_of_lt (by omega) (by omega),Int.toNat_natCast];exact hQ.beside (by rw[length_map];omega) hm0 (fun x hx=>by obtain⟨a,ha,rfl⟩:=List.mem_map.1 hx;exact hmA a ha) hm1 z hz5,hDs⟩ Qs
      exact Bd
     ·refine Ah ?_;exact AF _ ⟨vC,mC,A,Y,lh,Y,hOC,hQ.up,hAs⟩ Qs
    ·refine Qk Y (Qk Y (Qk Y (Qk Y (Qm Y (Am (AQ Y (Ah ?_)))))));exact AF _ ⟨vC,mC,A,Y,lh,Y,hOC,hQ.up,hAs⟩ Qs
   ·obtain⟨vC,mC,A,rfl,lh,rfl,hOC,hQ,hAs⟩:=hI;have oC:=hOC.o1;refine Ar (Qx (oG Y CB AY (Seg.blk 0 Y)) Y ?_);refine Sa 2 [_] AY Y (by simp[oL_,oG_,oC]) ?_;refine Am (An (AO ?_));exact By (vs:=[_]) 1 Y Y CB Y AY Y Y (⟨AJ l1 lh,mC,A,_,Y,Y,hOC,hQ,hAs⟩)
end Go.Proofs.Q
namespace Go.Proofs.Q
open Go.Proofs.Tryz
open Go.Eng Go.RowKit
theorem Qr(h:Hp)(ms:List Hp):FnV Tryz.prog 12 #[] h ms (.bool true):=by
 refine FnV.weaken (h:=Hp.emp) (FnT.toV ?_) (Hp.emp_le h);show FnT _ _ (List.toArray []) _ _ _;refine Aq func12 ntmps12 Y Y (fun w0 hw0=>?_);simp only[AW];refine Ar (Qm Y (BH (Qc call43 Y (TA Hp.emp) (fun rC h2 ms2 l2 hF=>?_))));obtain⟨l2',gF,mC,A,vC,rfl,rfl,hOC,hA,hsd⟩:=hF;obtain⟨vF,hvF⟩:∃vF:Value,vF=.slice (some ⟨gF,0,none⟩) 4 4:=⟨_,Y⟩
 obtain⟨mF,hmF⟩:∃mF:Hp,mF=Bl gF 47 [.int .i64 1,.int .i64 0,.int .i64 2,.int .i64 1,.int .i64 3,.int .i64 2,.int .i64 4,.int .i64 5]:=⟨_,Y⟩
 rw[<-hvF,<-hmF];have hOF:OwnL cV 2 47 mF vF circF:=by rw[hmF,hvF];exact OwnL.blk (l:=circF) 4 Nr Y (by decide)
 have oC:=hOC.o1;have oF_:=hOF.o1;refine Qm Y (Qm Y (Qm Y (CG [.slice none 0 0] Y AY Y Y (fun g1=>?_))));refine Sa 0 [_] AY Y (by simp[oC,oF_]) ?_;refine Qm Y (Am (Bp 0 Y fun h3 l3 hS=>(FJ 1 hOC Y fun h4 l4 hC=>?_)));have hR:RdC h4 vC A:=⟨hC,fun a ha=>(hsd a ha).up (AJ l3 l4)⟩
 have hA:A.map Ce.c=circC:=by rw[hA];exact X1
 have hFA:RgtF (A.map Ce.c):=by rw[hA];exact circ_rgtF
 have hcn:cn A=circC:=by rw[Vx hFA,hA]
 have hAl:A.length=4:=by have:=congrArg List.length hA;rwa [length_map]at this
 have hK:RgC A:=⟨hFA.rgt,fun a ha=>by
  have h1:a.c∈circC:=by rw[<-hA];exact List.mem_map.2 ⟨a,ha,Y⟩
  have h2:∀c∈circC,c.id<=1000000:=by decide
  exact h2 _ h1⟩
 have hS:=hS.le l4;refine Ar (Qx (oG Y CB AY (Seg.any hS)) Y (Qm Y ?_));refine Ba (pre:=[mF]) Y call15 Y (FnT.borrow (fun hj l1 l2=>KI A circF vC vF 2 hj hK (hR.up l1) (hOF.rdh l2) (IA _ (.inl Y)) (fun c=>by have:=circ_q.bI c;unfold BN;omega) (by rw[hcn];exact KV) isP2 (by omega))) Y Y Y Y (fun ra h5 ms5 l5 hQ=>?_);obtain⟨l5',hj5,k5,ms5',lj5,⟨lk5,S,Rf,Vf,va,ma,rfl,rfl,hOa,Pa⟩,_,rfl,_⟩:=hQ;have oa:=hOa.o1;have hR:=hR.up l5;have hS:=hS.le l5;have H:PerH 2 circF A S Rf Vf:=⟨Pa,isP2,hK.F.rgt,by rw[hcn];exact circ_q.mon⟩
 have hbt:=H.betti;have hbars:=Ue H hcn;rw[hbars]at hOa hbt;rw[hcn]at hbt;refine Qm Y (Qm Y (Qm Y (Qm Y (Qm Y (Am (FJ 1 hOa Y fun h6 l6 hBa=>?_))))));have hR:=hR.up l6;have hS:=hS.le l6;refine Ar (Qx (oG Y CB AY (Seg.any hS)) Y (Qm Y ?_));refine Ba (pre:=[mF]) Y call19 Y (FnT.borrow (fun hj l1 l2=>Ml A circF vC vF 1 2 hj hK (hR.up l1) (hOF.rdh l2) (IA _ (.inl Y)) (by rw[hcn];exact KV) (by rw[hcn];exact K9) isP2 (by decide) (by omega))) Y Y Y Y (fun rb h7 ms7 l7 hQ=>?_);obtain⟨l7',hj7,k7,ms7',lj7,⟨lk7,D,rk,w1,m1,rfl,rfl,hO1,hD,hr0,hrk⟩,_,rfl,_⟩:=hQ;rw[hcn]at hO1 hD hrk;have e1:Mw (E1 circF 1 circC) rk (D+1).toNat=[2]:=Zj hD (by unfold Mw;rw[length_map,length_range]) (hbt 1 D rk hD hr0 hrk);rw[e1]at hO1;have ow1:=hO1.o1;refine Qm Y (Qm Y (Qm Y (Qm Y (Qm Y (Am (FJ 1 hO1 Y fun h8 l8 hW1=>?_))))));have l68:=AJ l7 l8;have hR:=hR.up l68;have hS:=hS.le l68;refine Ar (Qx (oG Y CB AY (Seg.any hS)) Y (Qm Y ?_));refine Ba (pre:=[mF]) Y call19 Y (FnT.borrow (fun hj l1 l2=>Ml A circF vC vF 2 2 hj hK (hR.up l1) (hOF.rdh l2) (IA _ (.inl Y)) (by rw[hcn];exact KV) (by rw[hcn];exact K9) isP2 (by decide) (by omega))) Y Y Y Y (fun rd h9 ms9 l9 hQ=>?_);obtain⟨l9',hj9,k9,ms9',lj9,⟨lk9,D',rk',w2,m2,rfl,rfl,hO2,hD',hr0',hrk'⟩,_,rfl,_⟩:=hQ;rw[hcn]at hO2 hD' hrk';have e2:Mw (E1 circF 2 circC) rk' (D'+1).toNat=[1,0]:=Yy hD' (by unfold Mw;rw[length_map,length_range]) (hbt 2 D' rk' hD' hr0' hrk');rw[e2]at hO2;have ow2:=hO2.o1;refine Qm Y (Qm Y (Qm Y (Qm Y (Qm Y (Am (FJ 1 hO2 Y fun h10 l10 hW2=>(Ar (Qx (A4 WJ [.int .i64 0,.int .i64 0,.int .i64 0,.bool false,.int .i64 0,.int .i64 0] [(3,_),(4,_)] [_,_,_,_,_,_] Y ER Y Y Qt Y) Y (Qx (A4 WJ [.int .i64 0,.int .i64 0,.int .i64 0,.bool false,.int .i64 0,.int .i64 0] [(1,_),(2,_),(4,_),(5,_)] [_,_,_,_,_,_] Y ER Y Y Qt Y) Y (Qx (A4 WJ [.int .i64 0,.int .i64 0,.int .i64 0,.bool false,.int .i64 0,.int .i64 0] [(0,_),(1,_),(3,_),(4,_)] [_,_,_,_,_,_] Y ER Y Y Qt Y) Y (Ax [(0,_),(6,_),(12,_)] [.int .i64 0,.int .i64 0,.int .i64 0,.bool false,.int .i64 0,.int .i64 0,.int .i64 0,.int .i64 0,.int .i64 0,.bool false,.int .i64 0,.int .i64 0,.int .i64 0,.int .i64 0,.int .i64 0,.bool false,.int .i64 0,.int .i64 0] [_,_,_,_,_,_,_,_,_,_,_,_,_,_,_,_,_,_] Y RQ ER Y (by omega) (by kernel_rfl) Qt Y Y Y Y (fun g39=>Qm Y (Am (Bp 0 Y fun h11 l11 hS39=>?_))))))))))))));have l811:=AJ l9 (AJ l10 l11);have hR:=hR.up l811;have hS:=hS.le l811;refine Ac (BM (n:=9) (bs:=[false,true,true,false,false,false,false,false,false]) [false,true,true] CW (by kernel_rfl) (by kernel_rfl) Y Y (Qq Y (Qp Y (EV 3 (hOF.rd (h:=h11) (ms:=[mF]) Mh).rd Y NY EZ Y Y Y (by decide)) ?_)));unfold FU;simp only[cons_append,nil_append];refine Qo 0 Y (Qx (oG Y CB AY (Seg.any hS)) Y (Qw (Qo 3 Y (Ba (pre:=[mF]) Y call24 Y (FnT.borrow (fun hj l1 l2=>Fh A (circF.take 3) vC (B3 2 vF 0 3) hj hK (hR.up l1) (show RdL cV 2 hj [] (B3 2 vF 0 3) (circF.take 3) from(hOF.rdh l2).sub_ (i:=0) (j:=3) (by decide) (by decide)) (IA _ (.inr (.inl Y))))) Y Y Y Y (fun rc h12 ms12 l12 hQ=>?_)))));obtain⟨l12',hj12,k12,ms12',lj12,hr12,_,rfl,_⟩:=hQ;rw[hcn,Tq]at hr12;subst hr12;refine Qa (Ch 4 40 (by kernel_rfl) Y (by assumption) Y (Ay Y Y) (Ch 5 45 (by kernel_rfl) Y (by assumption) Y (CL Y Y Y) (Ch 6 46 (by kernel_rfl) Y (by assumption) Y (CL Y Y Y) (Qo 7 Y (Qm Y (Qa (Qo 8 Y (Qm Y (Qa (Qe (Ab ?_)))))))))));rw[hmF,hvF];refine Ar (Qm Y (Qx (B0 1 Y NY EZ Y Y Y (by omega)) Y (Qf Rg Y ?_)));refine AP 0 3 Y A5 Y Y Y Y (by rw[BS]) (by decide) rfl rfl ?_;simp only[List.set_cons_succ,List.set_cons_zero];refine Am (Az fun h13 l13 hSF=>?_);have l1113:=AJ l12 l13;have hR:=hR.up l1113;have hS:=hS.le l1113;have hFB:RdL cV 2 h13 [] (.slice (some ⟨gF,0,none⟩) 4 4) [(1,0),(2,3),(3,2),(4,5)]:=⟨⟨_,4,Y,by decide,by decide,Y,fun _=>⟨_,Y,hSF⟩⟩,Nr⟩
 refine Ar (Qx (oG Y CB AY (Seg.any hS)) Y (Qm Y (Qc call24 Y (Fh A [(1,0),(2,3),(3,2),(4,5)] vC _ h13 hK hR hFB (IA _ (.inr (.inr Y)))) (fun rd h14 ms14 l14 hQ=>?_))));rw[hcn,Uq]at hQ;subst hQ;refine Qm Y (Qm Y (Qm Y (Qm Y (Qm Y (Am ?_)))));have hBa:=hBa.up (AJ l68 (AJ l811 (AJ l1113 l14)));have hW1:=hW1.up (AJ l811 (AJ l1113 l14));have hW2:=hW2.up (AJ l11 (AJ l1113 l14));have hS39:=hS39.le (AJ l1113 l14);have hB9:RdL JY 6 h14 [] (.slice (some ⟨g39,0,none⟩) 3 3) circB:=⟨⟨_,3,Y,by decide,by decide,Y,fun _=>⟨_,Y,hS39⟩⟩,Ff⟩
 refine Ar (Qm Y (Qx (E9 (C6 Y Y Y) (congrArg Value.bool (decide_eq_true Y))) Y (Qm Y (Qg (Ay Y Y) Y (Qg (Ay Y Y) Y ?_)))));refine Qg (AI Y call17 Y ((by have:=OS circB circB va _ h14 hBa hB9 (ms14++ms12'.append []);rwa [decide_eq_true rfl]at this))) rfl ?_;refine Qm Y (Qm Y (Qg (Ay Y Y) Y (Qg (E9 (C6 Y Y Y) (congrArg Value.bool (decide_eq_true Y))) Y (Qm Y (Qm Y (Qg (Ay Y Y) Y (Qg (E9 (C6 Y Y Y) (congrArg Value.bool (decide_eq_true Y))) Y (Qm Y (Qm Y (Qg (Ay Y Y) Y (Wc Y Y Y Y (Ao [_] Y AU A5 Y (by rfl) Y Y (by omega) Y Y Y (fun g73=>DR fun h15 l15 hS73=>?_)))))))))))));refine Qg (AI Y call44 Y ((by have:=SK [2] [2] w1 _ h15 (hW1.up l15) (OM 1 Be hS73) (ms14++ms12'.append []);rwa [decide_eq_true rfl]at this))) rfl ?_;refine Qm Y (Qm Y (Qg (Ay Y Y) Y (Wc Y Y Y Y (Ax [(0,_),(1,_)] [.int .i64 0,.int .i64 0] [_,_] Y AU A5 Y (by omega) (by kernel_rfl) Qt Y Y Y Y (fun g78=>DR fun h16 l16 hS78=>?_)))));have hR2:RdL cI 1 h16 [] (.slice (some ⟨g78,0,none⟩) 2 2) [1,0]:=⟨⟨_,2,Y,by decide,by decide,Y,fun _=>⟨_,Y,hS78⟩⟩,Be⟩
 refine Qg (AI Y call44 Y ((by have:=SK [1,0] [1,0] w2 _ h16 (hW2.up (AJ l15 l16)) hR2 (ms14++ms12'.append []);rwa [decide_eq_true rfl]at this))) rfl ?_;refine Qm Y (Qm Y (Qg (Ay Y Y) Y (Qg (E9 (C6 Y Y Y) (congrArg Value.bool (decide_eq_true Y))) Y (Qm Y (Qm Y (Qg (Ay Y Y) Y (Qg (E9 (C6 Y Y Y) (congrArg Value.bool (decide_eq_true Y))) Y (Qm Y (Qm Y (Qg (Ay Y Y) Y (Qg (E9 (C6 Y Y Y) (congrArg Value.bool (decide_eq_true Y))) Y (Qm Y (Qm Y (Qg (Ay Y Y) Y (Qg (E9 (C6 Y Y Y) (congrArg Value.bool (decide_eq_true Y))) Y (Qm Y (Qm Y (Am (An ?_)))))))))))))))))));exact Av Y Y (Y)
end Go.Proofs.Q

namespace Go.Proofs.Q
open Go.Eng Go.RowKit
open Go.Proofs.Tryz
theorem MT(sp be:Nat)(q0:Int)(L0 L:List Int)(G:List Nat)(v0 vG vL:Value)(hp:Hp)(hsp:sp<256)(hbe:be<256)(hq0:BN q0)(hG:∀g∈G,g<256)(hL0:RdL cI 1 hp [] v0 L0)(hRG:RdL (fun g=>[.int .u8 (g:Nat)]) 1 hp [] vG G)(hL:RdL cI 1 hp [] vL L)(hLb:∀x∈L,BN x):FnT Tryz.prog 3 #[.agg #[.int .u8 sp,v0,vG,.int .u8 be],vL,.int .i64 q0] hp [] (fun r _ _=>r=.bool true):=by
 have o1:=hL0.rd.one;have o2:=hRG.rd.one;have o3:=hL.rd.one;refine Aq func3 ntmps3 Y Y (fun w0 hw0=>?_);simp only[AW];refine Ar (AV [_,_,_,_] Y Y (by rfl) Y Y Y (fun g3=>Qm Y (Am (Az fun h1 l1 hS=>?_))));have hL0:=hL0.up l1;have hRG:=hRG.up l1;have hL:=hL.up l1;refine Ar (Qx (AI Y call12 Y (Qr _ _)) Y (Qm Y (BH (Qx (oG Y U25 Aby (Seg.any hS)) Y (Qc call13 Y (QU sp be L0 G v0 vG h1 hsp hbe hG hL0 hRG) (fun rc h2 ms2 l2 hQ=>?_))))));obtain⟨l2',mC,A,vC,rfl,rfl,hOC,hCQ,hsd⟩:=hQ;have oC:=hOC.o1;refine CG [.slice none 0 0] Y AY Y Y (fun g8=>?_);refine Sa 0 [_] AY Y (by simp[o1,o2,o3,oC]) ?_;refine Am (Az fun h3 l3 hS8=>(Bc hOC fun h4 l4 hC=>?_));have hR:RdC h4 vC A:=⟨hC,fun a ha=>(hsd a ha).up (AJ l3 l4)⟩
 have hK:RgC A:=hCQ.rg (by decide);have hG:=hK.F.rgt;have hA80:A.length<=80:=by have:=hCQ.n;rwa [length_map]at this
 have hdim:∀x∈cn A,0<=x.dim/\x.dim<=7:=fun x hx=>by obtain⟨b,hb,rfl⟩:=WQ hx;exact⟨(hG.bds hx).1.1,hCQ.d b.c (List.mem_map.2 ⟨b,hb,Y⟩)⟩
 have l24:=AJ l2 (AJ l3 l4);have hL:=hL.up l24;have hS8:=hS8.le l4;refine Ar (Qx (oG Y CB AY (Seg.any hS8)) Y (Qm Y (Qc call14 Y (SU A vC vL L 10 h4 hK hR hL hLb (by decide)) (fun rF h5 ms5 l5 hQ=>?_))));obtain⟨l5',mF,rfl,hOF⟩:=hQ;have QF:T4 (cn A) (Ha (cn A) L 10 (cn A).length):=Aap hG L 10 (by decide);generalize Ha (cn A) L 10 (cn A).length=F at hOF QF;have oF_:=hOF.o1;refine Qm Y (Am (Bc hOF fun h6 l6 hF=>?_));have l46:=AJ l5 l6;have hR:=hR.up l46;have hS8:=hS8.le l46;have hlF:F.length=A.length:=by have:=congrArg List.length QF.fst;rw[length_map,length_map,CY]at this;exact this
 have kF:∀q∈F,BN q.1:=fun q hq=>by
  have hc:q.1∈(cn A).map Cl.id:=by rw[<-QF.fst];exact List.mem_map.2 ⟨q,hq,Y⟩
  obtain⟨x,hx,e⟩:=List.mem_map.1 hc;have h1:=hG.pos x hx;have h2:=hK.ci hx;rw[<-e];unfold BN;omega
 have VF:GA F:=⟨by omega,kF⟩
 have hPI:∀x∈([2,3,7,q0]:List Int),BN x:=fun x hx=>by simp only[mem_cons,List.not_mem_nil,or_false]at hx;rcases hx with rfl|rfl|rfl|rfl<;>first|exact hq0|decide
 refine Ar (Qm Y (Ax [(0,_),(1,_),(2,_),(3,_)] [.int .i64 0,.int .i64 0,.int .i64 0,.int .i64 0] [_,_,_,_] Y AU A5 Y (by omega) (by kernel_rfl) Qt Y Y Y Y (fun g23=>Qm Y (Am ?_))));have hO10:OwnL cI 1 3 (Bl g23 3 [.int .i64 2,.int .i64 3,.int .i64 7,.int .i64 q0]) (.slice (some ⟨g23,0,none⟩) 4 4) [2,3,7,q0]:=OwnL.blk (g:=g23) (el:=3) (F:=cI) (l:=[2,3,7,q0]) 4 Be Y (by decide);refine Bc hO10 fun h7 l7 hLi=>?_;have hR:=hR.up l7;have hF:=hF.up l7;have hS8:=hS8.le l7;generalize hlist:([2,3,7,q0]:List Int)=PL at hLi hPI;have hPL:PL.length=4:=by rw[<-hlist];rfl
 refine Ac (Ar (Qm Y (Am (Ag ?_))))
 refine Aw (fun q sl h' ms'=>∃(k:Nat),q=4-k/\sl=[(7,.bool true),(8,.pointer (some ⟨g8,0,none⟩)),(9,rF),(10,.slice (some ⟨g23,0,none⟩) 4 4),(11,.int .i64 k)]/\h7.le h'/\ms'=[]/\k<=4)
  (4-0) _ ⟨0,rfl,rfl,DT,rfl,by omega⟩ Qs ?_
 rintro q sl h' ms' ⟨k,rfl,rfl,lh,rfl,hk4⟩;have hR:=hR.up lh;have hF:=hF.up lh;have hS8:=hS8.le lh;have hLi:=hLi.up lh;refine Ac (Ar (Qm Y (Qm Y (Qx (M6 (ty:=22) Y AU Y) Y (Qm Y (Am ?_))))));refine Ap Y (fun hkl=>?_) (fun hkl=>?_)
 ·have hk:k<PL.length:=by omega
  obtain⟨p,hp'⟩:∃p,PL[k]=p:=⟨_,Y⟩
  have hI:=hPI p (by rw[<-hp'];exact getElem_mem hk);have cp:∀ms,Cell h' ms ((AE (.slice (some ⟨g23,0,none⟩) 4 4)).add (k*1)) (.int .i64 p):=fun ms=>by rw[<-hp'];exact(hLi.any (ms:=ms)).cell0 hk Y
  have s8:∀ms,Seg h' ms (⟨g8,0,none⟩:Addr) [vC]:=fun ms=>hS8.any;obtain⟨ee,hee⟩:∃ee,DU (cn A) F p=ee:=⟨_,Y⟩
  have kA:=V2 hK hR hF VF QF hI (by omega);rw[hee]at kA;refine Ah (Ab (Ac (Ag (Ac (BM (n:=12) (bs:=[true,true,true,true,true,true,false,false,false,false,false,false]) [true,true,true,true,true,true] CW (by kernel_rfl) (by kernel_rfl) Y Y (Qp Y (oG Y CB AY (s8 _)) (Qq Y (Qq Y (Qq Y (Qp Y (B0 (k) Y AU A5 Y Y (by omega) (by omega)) (QL Y U3 (cp _) ?_)))))))))));unfold FU;simp only[cons_append,nil_append];refine Qo 6 Y (Qc call15 Y (kA) (fun ra h10 ms10 l10 hQ=>?_));obtain⟨l10',la,va,ma,rfl,rfl,hOa,hQa,hna⟩:=hQ;have oa:=hOa.o1;refine Qa (Ch 7 30 (by kernel_rfl) Y (by assumption) Y (Ay Y Y) (Ch 8 38 (by kernel_rfl) Y (by assumption) Y (CL Y Y Y) (Ch 9 39 (by kernel_rfl) Y (by assumption) Y (CL Y Y Y) (Qo 10 Y (Qm Y (Qa (Qo 11 Y (Qm Y (Qa (Qe (Ab (Bc hOa fun h11 l11 hBa=>?_))))))))))));have l11':=AJ l10' l11;have hR:=hR.up l11';have hF:=hF.up l11';have hS8:=hS8.le l11';have hLi:=hLi.up l11';have cp:∀ms,Cell h11 ms ((AE (.slice (some ⟨g23,0,none⟩) 4 4)).add (k*1)) (.int .i64 p):=fun ms=>by rw[<-hp'];exact(hLi.any (ms:=ms)).cell0 hk Y
  have s8:∀ms,Seg h11 ms (⟨g8,0,none⟩:Addr) [vC]:=fun ms=>hS8.any;have kB:=Rx hK hR hF VF QF hI (by omega);rw[hee]at kB;refine Ac (BM (n:=12) (bs:=[true,true,true,true,true,true,false,false,false,false,false,false]) [true,true,true,true,true,true] CW (by kernel_rfl) (by kernel_rfl) Y Y (Qp Y (oG Y CB AY (s8 _)) (Qq Y (Qq Y (Qq Y (Qp Y (B0 (k) Y AU A5 Y Y (by omega) (by omega)) (QL Y U3 (cp _) ?_)))))));unfold FU;simp only[cons_append,nil_append];refine Qo 6 Y (Qc call16 Y (kB) (fun rb h12 ms12 l12 hQ=>?_));obtain⟨l12',lb,vb,mb,rfl,rfl,hOb,hQb,hnb⟩:=hQ;have ob:=hOb.o1;refine Qa (Ch 7 40 (by kernel_rfl) Y (by assumption) Y (Ay Y Y) (Ch 8 48 (by kernel_rfl) Y (by assumption) Y (CL Y Y Y) (Ch 9 49 (by kernel_rfl) Y (by assumption) Y (CL Y Y Y) (Qo 10 Y (Qm Y (Qa (Qo 11 Y (Qm Y (Qa (Qe (Ab (Bc hOb fun h13 l13 hBb=>?_))))))))))));have l13':=AJ l12' l13;have hBa:=hBa.up l13';obtain rfl:=hQa.uniq hQb hG QF.mon;have hsm:=OS la la va vb h13 hBa hBb;refine Ar (Qm Y (Qm Y (Qx (E9 (Ec Y Y Y) (congrArg Value.bool (decide_eq_false fun e=>e Y))) Y (Qm Y (Qg (Ay Y Y) Y (Qg (Ay Y Y) Y ?_))))));refine Qg (AI Y call17 Y ((by have:=hsm [];rwa [decide_eq_true rfl]at this))) rfl ?_;refine Qg (F1 Y Y) Y (Qm Y (Am (AQ Y (Ah (Ai (Ab (Ad (Qm Y (Qx (oA Y) Y (Qm Y (Al ?_)))))))))));exact Ak (4-(k+1)) _ (by omega) ⟨k+1,Y,Y,AJ lh (AJ l11' l13'),Y,by omega⟩ Qs
 ·refine As (Aa (Aa (Af (Ab (Ar (Qm Y (Qm Y (Am (An ?_)))))))));exact Av Y Y (Y)
open Go.ChangeShapes Go.WideShapes Go.ChangeAt Go.Deep
section
variable {H:Type} {enc:TypeId×Value->H} {w:World} {base:Nat} {spare:Nat->Bool} {held:Bool}
theorem MR{P:Program}{t:TypeId}{f0 f1 f2 f3:Field}{fuel:Nat}{cs:List Value}{x:DataW H×List MemPlace}(ht:P.underlying t=some (.struct #[f0,f1,f2,f3]))(h:DataW.trod enc P w base spare held fuel t cs=some x) :
  ∃y0 y1 y2 y3 n,cs.length=P.cellsOf t/\DataW.trod enc P w base spare held n f0.type ((cs.drop f0.offset).take (P.cellsOf f0.type))=some y0 ∧
   DataW.trod enc P w base spare held n f1.type ((cs.drop f1.offset).take (P.cellsOf f1.type))=some y1/\DataW.trod enc P w base spare held n f2.type ((cs.drop f2.offset).take (P.cellsOf f2.type))=some y2/\DataW.trod enc P w base spare held n f3.type ((cs.drop f3.offset).take (P.cellsOf f3.type))=some y3:=by
 obtain⟨xs,n,_,rfl,hl,hlen,hf⟩:=DataW.trod_struct ht h
 match xs,hlen with
 | [y0,y1,y2,y3],_=>exact⟨y0,y1,y2,y3,n,hl,by simpa using hf 0 f0 rfl,by simpa using hf 1 f1 rfl,by simpa using hf 2 f2 rfl,by simpa using hf 3 f3 rfl⟩
theorem MY(n:Nat)(cs:List Value)(y:DataW H×List MemPlace)(h:DataW.trod enc Tryz.prog w base spare held n 5 cs=some y):∃a:Nat,cs=[.int .u8 (a:Nat)]/\a<256:=by obtain⟨b,h1,_,h2⟩:=DataW.trod_int U5 h;have h3:=bounds_u8 h2;exact⟨b.toNat,by rw[h1,Int.toNat_of_nonneg (by omega)],by omega⟩
theorem XU{v:Value}{fuel:Nat}{x:DataW H×List MemPlace}(h:DataW.trod enc Tryz.prog w base spare held fuel 23 [v]=some x):∃l,RdL (fun g:Nat=>[.int .u8 (g:Nat)]) 1 (whole w) [] v l/\∀a∈l,a<256:=
 Pi VB (by kernel_rfl) (fun _=>rfl) (by decide) MY h
theorem QK{v:Value}{r:Reach}{b0:Nat}{d:DataW H}{ps:List MemPlace}(hval:Value.okWide Tryz.prog w r b0 25 v)(h:DataW.Trod enc Tryz.prog w base spare held 25 v d ps):∃(sp be:Nat) (v0 vG:Value) (L:List Int) (G:List Nat),v=.agg #[.int .u8 sp,v0,vG,.int .u8 be]/\sp<256/\be<256/\(∀g∈G,g<256)/\RdL cI 1 (whole w) [] v0 L/\RdL (fun g:Nat=>[.int .u8 (g:Nat)]) 1 (whole w) [] vG G:=by
 obtain⟨cs,rfl,hc⟩:=okWide_struct U25 hval;obtain⟨fuel,hf⟩:=h;obtain⟨y0,y1,y2,y3,n,h0,h1,h2,h3,h4⟩:=MR U25 hf;have hc3:cs.size=4:=hc.trans (by kernel_rfl);obtain⟨l⟩:=cs
 match l,hc3 with
 | [c0,c1,c2,c3],_=>
  have h1:DataW.trod enc Tryz.prog w base spare held n 5 [c0]=some y0:=h1;have h2:DataW.trod enc Tryz.prog w base spare held n 22 [c1]=some y1:=h2;have h3:DataW.trod enc Tryz.prog w base spare held n 23 [c2]=some y2:=h3;have h4:DataW.trod enc Tryz.prog w base spare held n 5 [c3]=some y3:=h4;obtain⟨sp,e0,w0⟩:=MY n _ _ h1;obtain⟨L,hR,hE⟩:=Sy h2;obtain⟨G,hG,hI⟩:=XU h3;obtain⟨be,e2,w2⟩:=MY n _ _ h4;simp only[List.cons.injEq,and_true]at e0 e2;subst e0 e2;exact⟨sp,be,c1,c2,L,G,Y,w0,w2,hI,hR,hG⟩
end
end Go.Proofs.Q
