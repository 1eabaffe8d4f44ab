/- A part of the proof. -/
import Derived.Test.YtodheebhahdepaaGreatDoorUG
import Derived.Laws.StructEq
import Derived.ChangeKeysEq
set_option linter.unusedSimpArgs false
set_option linter.unusedVariables false
set_option linter.unusedSectionVars false
set_option maxRecDepth 100000
set_option maxHeartbeats 4000000

open List (length_map length_singleton getElem_mem range length_append nil_append mem_cons cons_append map_append map_map map_cons take_length length_cons length_range take_of_length_le)
namespace Go.Proofs.Q
open Go.Proofs.Tryz
open Go.Eng Go.RowKit
theorem Mw{P:Program}{d:Nat}(X Y:Array Value)(w:World):∀(fs:List Field) (os:List (TypeId×Nat×Bool)),fs.map (fun f=>(decide (f.name ≠ "_"),f.type,f.offset))=os.map (fun o=>(true,o.1,o.2.1))->(∀o∈os,P.plainKey o.1=true/\∃a b,X[o.2.1]?=some a/\Y[o.2.1]?=some b/\(Op.equalIn (d+1) o.1 a b).run P w=.ok o.2.2 w)->(Op.eqFields (d+1) X Y fs).run P w=.ok (os.all fun o=>o.2.2) w
 | [],[],_,_=>by simp[Op.eqFields]
 | [],o::os,h,_=>by simp at h
 | f::fs,[],h,_=>by simp at h
 | f::fs,o::os,h,hc=>by
  simp only[map_cons,List.cons.injEq,Prod.mk.injEq]at h;obtain⟨⟨h1,h2,h3⟩,h4⟩:=h;have ih:=Mw (d:=d) X Y w fs os h4 fun a ha=>hc a (List.mem_cons_of_mem _ ha);obtain⟨hp,a,b,c1,c2,he⟩:=hc o Mh;unfold Op.eqFields;rw[if_pos (of_decide_eq_true h1),h2,h3];simp only[Sem.run_bind,run_part_plain w hp c1,run_part_plain w hp c2,Result.andThen_ok,he];cases e:o.2.2
  ·simp[e]
  ·simp[e,ih]
theorem Zr:(Tryz.prog.fieldsOf 43).toList.map (λf=>(decide (f.name ≠ "_"),f.type,f.offset))=[(3,0),(3,1),(3,2),(4,3),(3,4),(3,5)].map (λo=>(true,o.1,o.2)):=by kernel_rfl
theorem Zu:Tryz.prog.plainKey 3=true:=by kernel_rfl
theorem pk4:Tryz.prog.plainKey 4=true:=by kernel_rfl
theorem Abi:Tryz.prog.eqGuardType Tryz.prog.depth 43=false:=by kernel_rfl
theorem AaI:Tryz.prog.underlying 43=some (.struct (Tryz.prog.fieldsOf 43)):=by kernel_rfl
theorem AaB:Tryz.prog.stoodInHeld 43=false:=by kernel_rfl
theorem X2{o:Oper}{s:AF}{h:Hp}{ms:List Hp}{x y:Operand}{u:TypeId}(a b:Br)(ho:o.op=.binOp .neq 43 x y u)(hx:ev s x=some (.agg (OG a).toArray))(hy:ev s y=some (.agg (OG b).toArray)):OX Tryz.prog o s h ms (.bool (decide (a≠b))):=
 BE λρ w hρ _=>by
  have h1:(Op.equalIn 10000 43 (.agg (OG a).toArray) (.agg (OG b).toArray)).run Tryz.prog w=.ok (decide (a=b)) w:=by
   have h2:=Mw (P:=Tryz.prog) (d:=9998) (OG a).toArray (OG b).toArray w (Tryz.prog.fieldsOf 43).toList [(3,0,a.dim==b.dim),(3,1,a.birth==b.birth),(3,2,a.death==b.death),(4,3,a.opn==b.opn),(3,4,a.low==b.low),(3,5,a.high==b.high)] (by rw[Zr];rfl) λo ho=>by
    simp only[mem_cons,List.not_mem_nil,or_false]at ho;rcases ho with rfl|rfl|rfl|rfl|rfl|rfl
    ·exact⟨Zu,_,_,Y,Y,run_equalIn_int w _ 3 .i64 .i64 _ _ U3⟩
    ·exact⟨Zu,_,_,Y,Y,run_equalIn_int w _ 3 .i64 .i64 _ _ U3⟩
    ·exact⟨Zu,_,_,Y,Y,run_equalIn_int w _ 3 .i64 .i64 _ _ U3⟩
    ·exact⟨pk4,_,_,Y,Y,run_equalIn_bool' w _ 4 _ _ U4⟩
    ·exact⟨Zu,_,_,Y,Y,run_equalIn_int w _ 3 .i64 .i64 _ _ U3⟩
    ·exact⟨Zu,_,_,Y,Y,run_equalIn_int w _ 3 .i64 .i64 _ _ U3⟩
   rw[run_equalIn_agg w 9999 43 _ _ AaI AaB,h2];congr 1;obtain⟨a1,a2,a3,a4,a5,a6⟩:=a;obtain⟨b1,b2,b3,b4,b5,b6⟩:=b;rw[Bool.eq_iff_iff,decide_eq_true_iff,Br.mk.injEq];show((a1==b1)&&((a2==b2)&&((a3==b3)&&((a4==b4)&&((a5==b5)&&((a6==b6)&&true))))))=true<->_;simp only[Bool.and_true,Bool.and_eq_true,beq_iff_eq]
  have e:(!decide (a=b))=decide (a≠b):=by simp
  simp only[execOp,ho,hρ _ _ hx,hρ _ _ hy];simp only[Sem.run_bind,run_eqGuard_agg w _ _ _ _ _ _ Abi,run_neq_struct,h1,e,Result.andThen_ok,Sem.run_pure]
theorem Gq{a b:Nat}(h:(a:Int)<b):a<b:=by omega
theorem T9(a b:List Br)(va vb:Value)(h:Hp)(hA:RdL OG 6 h [] va a)(hB:RdL OG 6 h [] vb b)(ms:List Hp):FnV Tryz.prog 17 #[va,vb] h ms (.bool (decide (a=b))):=by
 refine EX ?_ ms;have la:=hA.len_le;have lb:=hB.len_le;refine Av func17 ntmps17 Y Y (λw0 hw0=>?_);simp only[A3];refine Aw (Qm Y (Ap (Ac (Aw (Qm Y (Qx (As hA.rd.any Y WJ Y) Y (Qm Y (Qx (As hB.rd.any Y WJ Y) Y (Qm Y (Ap ?_))))))))));refine Ax Y (λhne=>?_) (λhne=>?_)
 ·refine Ac (Ad (Qm Y (Ap (Aq (Ae ?_)))));exact Az Y Y (by rw[decide_eq_false];intro e;rw[e]at hne;exact hne Y)
 ·have hl:a.length=b.length:=by omega
  refine Aj (Ab (Ac (Aw (Qm Y (Ap (Ah ?_))))))
  refine AD (λq s h' ms'=>∃(k:Nat),q=a.length-k/\s=[(0,va),(1,vb),(5,.int .i64 k)]/\h=h'/\ms'=[]/\k<=a.length/\a.take k=b.take k)
   (a.length-0) _ ⟨0,rfl,rfl,rfl,rfl,by omega,rfl⟩ Qs ?_
  rintro q s h' ms' ⟨k,rfl,rfl,rfl,rfl,hk,he⟩;refine Ac (Aw (Qm Y (Qm Y (Qx (As hA.rd.any Y WJ Y) Y (Qm Y (Ap ?_))))));refine Ax Y (λhlt=>?_) (λhlt=>?_)
  ·have hka:k<a.length:=Gq hlt;have hkb:k<b.length:=by omega
   have ca:∀ms,Seg h ms ((AJ va).add (k*6)) (OG a[k]):=λms=>(hA.any (ms:=ms)).seg hka;have cb:∀ms,Seg h ms ((AJ vb).add (k*6)) (OG b[k]):=λms=>(hB.any (ms:=ms)).seg hkb;refine Aj (Ab (Ac (Ah (Ac (Bc 8 CZ (by kernel_rfl) Y (Wm Y (Wm Y (AW (BH (k) hA.rd.any Y WJ G9 Y Y) Y Y (AW (oG Y U43 G9 (ca _)) Y Y (Wm Y (Wm Y (AW (BH (k) hB.rd.any Y WJ G9 Y Y) Y Y (AW (oG Y U43 G9 (cb _)) Y Y (A4 (Qx (X2 a[k] b[k] Y Y Y) Y (Ap ?_))))))))))))))));refine Ax Y (λhne=>?_) (λhne=>?_)
   ·refine Ac (Ad (Qm Y (Ap (Aq (Al (Ae (Ae (Al (Ae ?_)))))))));exact Az Y Y (by rw[decide_eq_false];rintro rfl;exact hne Y)
   ·refine Aj (Ak (Ab (Ad (Qm Y (Qx (oA Y) Y (Qm Y (An ?_)))))));refine Am (a.length-(k+1)) _ (by omega) ⟨k+1,Y,Y,Y,Y,by omega,?_⟩ Qs;rw[List.take_add_one,List.take_add_one,he,List.getElem?_eq_getElem hka,List.getElem?_eq_getElem hkb,Decidable.not_not.1 hne]
  ·obtain rfl:k=a.length:=by omega
   refine Ay (Aa (Aa (Ag (Ab (Aw (Qm Y (Ap (Aq ?_))))))));exact Az Y Y (by rw[take_length,hl,take_length]at he;rw[decide_eq_true he])
theorem RB(la lb:List Int)(va vb:Value)(h:Hp)(hA:RdL cI 1 h [] va la)(hB:RdL cI 1 h [] vb lb)(ms:List Hp):FnV Tryz.prog 44 #[va,vb] h ms (.bool (decide (la=lb))):=by
 refine EX ?_ ms;have l1:=hA.len_le;have l2:=hB.len_le;refine Av func44 ntmps44 Y Y (λw0 hw0=>?_);simp only[A3];refine Aw (Qm Y (Ap (Ac (Aw (Qm Y (Qx (As hA.rd.any Y A0 Y) Y (Qm Y (Qx (As hB.rd.any Y A0 Y) Y (Qm Y (Ap ?_))))))))));refine Ax Y (λhlen=>?_) (λhlen=>?_)
 ·refine Ac (Ad (Qm Y (Ap (Aq (Ae ?_)))));exact Az Y Y (by rw[decide_eq_false];rintro rfl;exact hlen Y)
 ·have hlen:la.length=lb.length:=by omega
  refine Aj (Ab (Ac (Aw (Qm Y (Ap (Ah ?_))))))
  refine AD (λq s h' ms'=>∃(k:Nat),q=la.length-k/\s=[(0,va),(1,vb),(5,.int .i64 k)]/\h=h'/\ms'=[]/\k<=la.length/\la.take k=lb.take k)
   (la.length-0) _ ⟨0,rfl,rfl,rfl,rfl,by omega,rfl⟩ Qs ?_
  rintro q s h' ms' ⟨k,rfl,rfl,rfl,rfl,hk,hno⟩;refine Ac (Aw (Qm Y (Qm Y (Qx (As hA.rd.any Y A0 Y) Y (Qm Y (Ap ?_))))));refine Ax Y (λhlt=>?_) (λhlt=>?_)
  ·have k1:k<la.length:=by omega
   have k2:k<lb.length:=by omega
   have ca:∀ms,Cell h ms ((AJ va).add (k*1)) (.int .i64 la[k]):=λms=>(hA.any (ms:=ms)).cell0 k1 Y;have cb:∀ms,Cell h ms ((AJ vb).add (k*1)) (.int .i64 lb[k]):=λms=>(hB.any (ms:=ms)).cell0 k2 Y;refine Aj (Ab (Ac (Ah (Ac (Bc 8 CZ (by kernel_rfl) Y (Wm Y (Wm Y (AW (BH (k) hA.rd.any Y A0 Ba Y Y) Y Y (Wl Y U3 (ca _) (Wm Y (Wm Y (AW (BH (k) hB.rd.any Y A0 Ba Y Y) Y Y (Wl Y U3 (cb _) (A4 (Qm Y (Ap ?_))))))))))))))));refine Ax Y (λhne=>?_) (λhne=>?_)
   ·refine Ac (Ad (Qm Y (Ap (Aq (Al (Ae (Ae (Al (Ae ?_)))))))));exact Az Y Y (by rw[decide_eq_false];rintro rfl;exact hne Y)
   ·refine Aj (Ak (Ab (Ad (Qm Y (Qx (oA Y) Y (Qm Y (An ?_)))))));refine Am (la.length-(k+1)) _ (by omega) ⟨k+1,Y,Y,Y,Y,by omega,?_⟩ Qs;rw[List.take_add_one,List.take_add_one,hno,List.getElem?_eq_getElem k1,List.getElem?_eq_getElem k2,Decidable.not_not.1 hne]
  ·refine Ay (Aa (Aa (Ag (Ab (Aw (Qm Y (Ap (Aq ?_))))))));exact Az Y Y (by rw[decide_eq_true];rwa [take_of_length_le (by omega),take_of_length_le (by omega)]at hno)
theorem ZK:(Tryz.prog.fieldsOf 119).toList.map (λf=>(decide (f.name ≠ "_"),f.type,f.offset))=[(3,0),(3,1)].map (λo=>(true,o.1,o.2)):=by kernel_rfl
theorem Aa7:Tryz.prog.eqGuardType Tryz.prog.depth 119=false:=by kernel_rfl
theorem AaM:Tryz.prog.underlying 119=some (.struct (Tryz.prog.fieldsOf 119)):=by kernel_rfl
theorem Aaj:Tryz.prog.stoodInHeld 119=false:=by kernel_rfl
theorem QQ{o:Oper}{s:AF}{h:Hp}{ms:List Hp}{x y:Operand}{u:TypeId}(a b:Int×Int)(ho:o.op=.binOp .neq 119 x y u)(hx:ev s x=some (.agg (cD a).toArray))(hy:ev s y=some (.agg (cD b).toArray)):OX Tryz.prog o s h ms (.bool (decide (a≠b))):=
 BE λρ w hρ _=>by
  have h1:(Op.equalIn 10000 119 (.agg (cD a).toArray) (.agg (cD b).toArray)).run Tryz.prog w=.ok (decide (a=b)) w:=by
   have h2:=Mw (P:=Tryz.prog) (d:=9998) (cD a).toArray (cD b).toArray w (Tryz.prog.fieldsOf 119).toList [(3,0,a.1==b.1),(3,1,a.2==b.2)] (by rw[ZK];rfl) λo ho=>by
    simp only[mem_cons,List.not_mem_nil,or_false]at ho;rcases ho with rfl|rfl
    ·exact⟨Zu,_,_,Y,Y,run_equalIn_int w _ 3 .i64 .i64 _ _ U3⟩
    ·exact⟨Zu,_,_,Y,Y,run_equalIn_int w _ 3 .i64 .i64 _ _ U3⟩
   rw[run_equalIn_agg w 9999 119 _ _ AaM Aaj,h2];congr 1;obtain⟨a1,a2⟩:=a;obtain⟨b1,b2⟩:=b;rw[Bool.eq_iff_iff,decide_eq_true_iff,Prod.mk.injEq];show((a1==b1)&&((a2==b2)&&true))=true<->_;simp only[Bool.and_true,Bool.and_eq_true,beq_iff_eq]
  have e:(!decide (a=b))=decide (a≠b):=by simp
  simp only[execOp,ho,hρ _ _ hx,hρ _ _ hy];simp only[Sem.run_bind,run_eqGuard_agg w _ _ _ _ _ _ Aa7,run_neq_struct,h1,e,Result.andThen_ok,Sem.run_pure]
theorem Vb(a b:List (Int×Int))(va vb:Value)(h:Hp)(hA:RdL cD 2 h [] va a)(hB:RdL cD 2 h [] vb b)(ms:List Hp):FnV Tryz.prog 143 #[va,vb] h ms (.bool (decide (a=b))):=by
 refine EX ?_ ms;have la:=hA.len_le;have lb:=hB.len_le;have oa:=hA.rd.one;have ob:=hB.rd.one;refine Av func143 ntmps143 Y Y (λw0 hw0=>?_);simp only[A3];refine Aw (Qm Y (Ap (Ac (Aw (Qm Y (Qx (As hA.rd.any Y BQ Y) Y (Qm Y (Qx (As hB.rd.any Y BQ Y) Y (Qm Y (Ap ?_))))))))));refine Ax Y (λhne=>?_) (λhne=>?_)
 ·refine Ac (Ad (Qm Y (Ap (Aq (Ae ?_)))));exact Az Y Y (by rw[decide_eq_false];intro e;rw[e]at hne;exact hne Y)
 ·have hl:a.length=b.length:=by omega
  refine Aj (Ab (Ac (Aw (Qm Y (Qx (As hA.rd.any Y BQ Y) Y (Qm Y (Ap (Ah ?_))))))))
  refine AD (λq s h' ms'=>∃(k:Nat),q=a.length-k/\s=[(0,va),(1,vb),(11,va),(12,.int .i64 a.length),(13,.int .i64 k)]/\h=h'/\ms'=[]/\k<=a.length/\a.take k=b.take k)
   (a.length-0) _ ⟨0,rfl,rfl,rfl,rfl,by omega,rfl⟩ Qs ?_
  rintro q s h' ms' ⟨k,rfl,rfl,rfl,rfl,hk,he⟩;refine Aw (Qm Y (Ap (Ac ?_)));refine Ax Y (λhlt=>?_) (λhlt=>?_)
  ·have hka:k<a.length:=Gq hlt;have hkb:k<b.length:=by omega
   have ca:∀ms,Seg h ms ((AJ va).add (k*2)) (cD a[k]):=λms=>(hA.any (ms:=ms)).seg hka;have cb:∀ms,Seg h ms ((AJ vb).add (k*2)) (cD b[k]):=λms=>(hB.any (ms:=ms)).seg hkb;refine Aj (Ab (Ac (Ah (Aw (Qm Y (Qm Y (Ap (Ac (Bc 8 CZ (by kernel_rfl) Y (Wm Y (Wm Y (AW (BH (k) hA.rd.any Y BQ AQ Y Y) Y Y (AW (oG Y Du AQ (ca _)) Y Y (Wm Y (Wm Y (AW (BH (k) hB.rd.any Y BQ AQ Y Y) Y Y (AW (oG Y Du AQ (cb _)) Y Y (A4 (Qx (QQ a[k] b[k] Y Y Y) Y (Ap ?_))))))))))))))))))));refine Ax Y (λhne=>?_) (λhne=>?_)
   ·refine Ac (Ad (Qm Y (Ap (Aq (Al (Ae (Ae (Al (Ae ?_)))))))));exact Az Y Y (by rw[decide_eq_false];rintro rfl;exact hne Y)
   ·refine Aj (Ak (Ab (Ad (Qx (oA Y) Y (Qm Y (An ?_))))));refine Am (a.length-(k+1)) _ (by omega) ⟨k+1,Y,Y,Y,Y,by omega,?_⟩ Qs;rw[List.take_add_one,List.take_add_one,he,List.getElem?_eq_getElem hka,List.getElem?_eq_getElem hkb,Decidable.not_not.1 hne]
  ·obtain rfl:k=a.length:=by omega
   refine Ay (Aa (Aa (Ag (Ab (Aw (Qm Y (Ap (Aq ?_))))))));exact Az Y Y (by rw[take_length,hl,take_length]at he;rw[decide_eq_true he])
theorem Ru(x y:Ce)(h:Hp)(hx:RdL cD 2 h [] x.v x.c.sd)(hy:RdL cD 2 h [] y.v y.c.sd)(ms:List Hp):FnV Tryz.prog 79 #[.agg (cC x).toArray,.agg (cC y).toArray] h ms (.bool (decide (x.c=y.c))):=by
 refine EX ?_ ms;have o1:=hx.rd.one;have o2:=hy.rd.one;have hcl:∀a b:Cl,a=b<->a.id=b.id/\a.dim=b.dim/\a.sd=b.sd:=λa b=>by cases a;cases b;simp
 show FnT _ _ #[.agg #[.int .i64 x.c.id,.int .i64 x.c.dim,x.v],.agg #[.int .i64 y.c.id,.int .i64 y.c.dim,y.v]] _ _ _;refine Av func79 ntmps79 Y Y (λw0 hw0=>?_);simp only[A3];refine Aw (AY [_,_,_] Y Y (by rfl) Y Y Y (λg2=>AY [_,_,_] Y Y (by rfl) Y Y Y (λg3=>Qm Y (Ap (AB λh1 l1 hG3=>(AB λh2 l2 hG2=>?_))))));have l12:=AI l1 l2;have x0:∀ms,Cell h2 ms (⟨g2,0,none⟩:Addr) (.int .i64 x.c.id):=λms=>Seg.all hG2 0 _ Y ms;have x1:∀ms,Cell h2 ms (⟨g2,1,none⟩:Addr) (.int .i64 x.c.dim):=λms=>Seg.all hG2 1 _ Y ms;have x2:∀ms,Cell h2 ms (⟨g2,2,none⟩:Addr) x.v:=λms=>Seg.all hG2 2 _ Y ms;have y0:∀ms,Cell h2 ms (⟨g3,0,none⟩:Addr) (.int .i64 y.c.id):=λms=>(Seg.all hG3 0 _ Y ms).le l2;have y1:∀ms,Cell h2 ms (⟨g3,1,none⟩:Addr) (.int .i64 y.c.dim):=λms=>(Seg.all hG3 1 _ Y ms).le l2;have y2:∀ms,Cell h2 ms (⟨g3,2,none⟩:Addr) y.v:=λms=>(Seg.all hG3 2 _ Y ms).le l2;refine Aw (Qf Bq Y (Ql Y U3 (x0 _) (Qf Bq Y (Ql Y U3 (y0 _) (Qm Y (Qm Y ?_))))));refine AU (t:=10) Y (λc1=>?_) (λc1=>?_)
 ·refine Qg (oF BV Y) Y (Qg (oL Y U3 (x1 _)) Y (Qg (oF BV Y) Y (Qg (oL Y U3 (y1 _)) Y (Qg (CN Y Y Y) Y (Qm Y (Qm Y ?_))))));refine AU (t:=17) Y (λc2=>?_) (λc2=>?_)
  ·refine Qg (oF Bs Y) Y (Qg (oL Y BQ (x2 _)) Y (Qg (oF Bs Y) Y (Qg (oL Y BQ (y2 _)) Y (Qg (AR Y call143 Y (Vb x.c.sd y.c.sd x.v y.v h2 (hx.up l12) (hy.up l12) _)) Y (Qm Y (Qm Y (Ap (Aq ?_))))))));exact Az Y Y (by congr 1;rw[decide_eq_decide,hcl];exact⟨λe=>⟨c1,c2,e⟩,λe=>e.2.2⟩)
  ·refine Qk Y (Qk Y (Qk Y (Qk Y (Qk Y (Qm Y (Qm Y (Ap (Aq ?_))))))));exact Az Y Y (by rw[decide_eq_false λe=>c2 ((hcl _ _).1 e).2.1])
 ·refine Qk Y (Qk Y (Qk Y (Qk Y (Qk Y (Qm Y (Qm Y (Qk Y (Qk Y (Qk Y (Qk Y (Qk Y (Qm Y (Qm Y (Ap (Aq ?_)))))))))))))));exact Az Y Y (by rw[decide_eq_false λe=>c1 ((hcl _ _).1 e).1])
theorem Km(a b:List Ce)(va vb:Value)(h:Hp)(hA:RdC h va a)(hB:RdC h vb b)(ms:List Hp):FnV Tryz.prog 78 #[va,vb,.func (.func 79) #[] #[]] h ms (.bool (decide (a.map Ce.c=b.map Ce.c))):=by
 refine EX ?_ ms;have la:=hA.q.len_le;have lb:=hB.q.len_le;have oa:=hA.q.rd.one;have ob:=hB.q.rd.one;refine Av func78 ntmps78 Y Y (λw0 hw0=>?_);simp only[A3];refine Aw (Qm Y (Ap (Ac (Aw (Qm Y (Qx (As hA.q.rd.any Y A9 Y) Y (Qm Y (Qx (As hB.q.rd.any Y A9 Y) Y (Qm Y (Ap ?_))))))))));refine Ax Y (λhne=>?_) (λhne=>?_)
 ·refine Ac (Ad (Qm Y (Ap (Aq (Ae ?_)))));exact Az Y Y (by rw[decide_eq_false];intro e;have:=congrArg List.length e;rw[length_map,length_map]at this;exact hne (by rw[this]))
 ·have hl:a.length=b.length:=by omega
  refine Aj (Ab (Ac (Aw (Qm Y (Qx (As hA.q.rd.any Y A9 Y) Y (Qm Y (Ap (Ah ?_))))))))
  refine AD (λq s h' ms'=>∃(k:Nat),q=a.length-k/\s=[(1,vb),(2,.func (.func 79) #[] #[]),(15,va),(16,.int .i64 a.length),(17,.int .i64 k)]/\h.le h'/\ms'=[]/\k<=a.length/\(a.map Ce.c).take k=(b.map Ce.c).take k)
   (a.length-0) _ ⟨0,rfl,rfl,B8,rfl,by omega,rfl⟩ Qs ?_
  rintro q s h' ms' ⟨k,rfl,rfl,lh,rfl,hk,he⟩;have hA:=hA.up lh;have hB:=hB.up lh;refine Aw (Qm Y (Ap (Ac ?_)));refine Ax Y (λhlt=>?_) (λhlt=>?_)
  ·have hka:k<a.length:=Gq hlt;have hkb:k<b.length:=by omega
   have hxa:=hA.s _ (getElem_mem hka);have hxb:=hB.s _ (getElem_mem hkb);have oxa:=hxa.rd.one;have oxb:=hxb.rd.one;have ca:∀ms,Seg h' ms ((AJ va).add (k*3)) (cC a[k]):=λms=>(hA.q.any (ms:=ms)).seg hka;refine Aj (Ab (Ac (Ah (Aw (Qm Y (Qx (BH (k) hA.q.rd.any Y A9 AL Y Y) Y (Qx (oG Y D1 AL (ca _)) Y (By [.int .i64 0,.int .i64 0,.slice none 0 0] Y AL Y Y (λg8=>Qm Y ?_)))))))));refine Sa 0 [_,_,_] AL Y (by simp[oa,ob,oxa,oxb]) ?_;refine Ap (AB λh3 l3 hS8=>?_);have hB:=hB.up l3;have cb:∀ms,Seg h3 ms ((AJ vb).add (k*3)) (cC b[k]):=λms=>(hB.q.any (ms:=ms)).seg hkb;refine Aw (Qm Y (Qm Y (Qx (BH (k) hB.q.rd.any Y A9 AL Y Y) Y (Qx (oG Y D1 AL (cb _)) Y (By [.int .i64 0,.int .i64 0,.slice none 0 0] Y AL Y Y (λg9=>?_))))));refine Sa 0 [_,_,_] AL Y (by simp[oa,ob,oxa,oxb]) ?_;refine Ap (AB λh4 l4 hS9=>?_);have s8:∀ms,Seg h4 ms (⟨g8,0,none⟩:Addr) (cC a[k]):=λms=>(hS8.le l4).any;have s9:∀ms,Seg h4 ms (⟨g9,0,none⟩:Addr) (cC b[k]):=λms=>hS9.any;have hsm:=Ru a[k] b[k] h4 (hxa.up (AI l3 l4)) (hxb.up (AI l3 l4));refine Aw (Qm Y (Qx (oG Y D1 AL (s8 _)) Y (Qx (oG Y D1 AL (s9 _)) Y (Qx (Ch Y Y call79 Y (hsm _)) Y (Qm Y (Ap ?_))))));refine Bz Y (λhc=>?_) (λhc=>?_)
   ·have hnc:a[k].c≠b[k].c:=λe=>by rw[decide_eq_true e]at hc;cases hc
    refine Aw (Qm Y (Ap (Aq (Al (Ae (Ae (Al (Ae ?_))))))));exact Az Y Y (by rw[decide_eq_false];intro e;have:=congrArg (λl=>l[k]?) e;simp only[List.getElem?_map,List.getElem?_eq_getElem hka,List.getElem?_eq_getElem hkb,Option.map_some,Option.some.injEq]at this;exact hnc this)
   ·have hcc:a[k].c=b[k].c:=Classical.byContradiction λe=>by rw[decide_eq_false e]at hc;cases hc
    refine Aj (Ak (Ab (Ad (Qx (oA Y) Y (Qm Y (An ?_))))));refine Am (a.length-(k+1)) _ (by omega) ⟨k+1,Y,Y,AI lh (AI l3 l4),Y,by omega,?_⟩ Qs;rw[List.take_add_one,List.take_add_one,he,List.getElem?_map,List.getElem?_map,List.getElem?_eq_getElem hka,List.getElem?_eq_getElem hkb,Option.map_some,Option.map_some,hcc]
  ·obtain rfl:k=a.length:=by omega
   refine Ay (Aa (Aa (Ag (Ab (Aw (Qm Y (Ap (Aq ?_))))))));exact Az Y Y (by rw[take_of_length_le (by rw[length_map];omega),take_of_length_le (by rw[length_map];omega)]at he;rw[decide_eq_true he])
theorem AaK(a b:List Ce)(va vb:Value)(h:Hp)(hKa:RgC a)(hKb:RgC b)(hA:RdC h va a)(hB:RdC h vb b)(ms:List Hp):FnV Tryz.prog 29 #[.agg #[va],.agg #[vb]] h ms (.bool (decide (cn a=cn b))):=by
 refine EX ?_ ms;have oa:=hA.q.rd.one;have ob:=hB.q.rd.one;refine Av func29 ntmps29 Y Y (λw0 hw0=>?_);simp only[A3];refine Aw (AY [_] Y Y (by rfl) Y Y Y (λg2=>AY [_] Y Y (by rfl) Y Y Y (λg3=>Qm Y (Ap (AB λh1 l1 hS3=>(AB λh2 l2 hS2=>?_))))));have l12:=AI l1 l2;have hA:=hA.up l12;have hB:=hB.up l12;have s2:∀h',h2.le h'->∀ms,Seg h' ms (⟨g2,0,none⟩:Addr) [va]:=λh' l' ms=>(hS2.le l').any;have s3:∀h',h2.le h'->∀ms,Seg h' ms (⟨g3,0,none⟩:Addr) [vb]:=λh' l' ms=>(hS3.le (AI l2 l')).any;refine Ac (BK (n:=8) (bs:=[false,false,false,false,false,false,false,false]) [] CZ (by kernel_rfl) (by kernel_rfl) Y Y ?_);unfold FK;simp only[cons_append,nil_append];refine AG [0,3] (by kernel_rfl) Y ?_;refine Ai Y ?_ ?_
 ·refine Qx (oG Y BJ AO (s2 _ (B8) _)) Y (Qw (AG [1,3] (by kernel_rfl) Y ?_));refine Ai Y ?_ ?_
  ·refine Qc call65 Y (Dz a va _ hKa hA) (λrA h4 ms4 l4 hQ=>?_);obtain⟨l4',mA,A,vA,rfl,rfl,hOA,hAl,hsA⟩:=hQ;refine A5 hOA λh5 l5 hRA=>?_;have l25:=AI l4 l5;refine Qa (BW 2 7 (by kernel_rfl) Y (by assumption) Y (Cp Y BJ Y A9 Y Y Y) (Qo 3 Y (Qx (oG Y BJ AO (s3 _ (by assumption) _)) Y (Qa (Qo 4 Y (Qc call65 Y (Dz b vb _ hKb (hB.up l25)) (λrB h6 ms6 l6 hQ=>?_)))))));obtain⟨l6',mB,B,vB,rfl,rfl,hOB,hBl,hsB⟩:=hQ;refine A5 hOB λh7 l7 hRB=>?_;have l57:=AI l6 l7;have l27:=AI l25 l57;have hEq:=Km A B vA vB h7 ⟨hRA.up l57,λa ha=>(hsA a ha).up (AI l5 l57)⟩ ⟨hRB,λa ha=>(hsB a ha).up l7⟩;rw[hAl,hBl]at hEq;refine Qa (BW 5 10 (by kernel_rfl) Y (by assumption) Y (Cp Y BJ Y A9 Y Y Y) (Qo 6 Y (Qx (AR Y call78 Y (hEq _)) Y (Qa (Qo 7 Y (Qm Y (Qa (Qe (Ab (Aq ?_))))))))));exact Az Y Y Y
  refine Ai Y ?_ ?_
  ·refine Qx (oG Y BJ AO (s3 _ (B8) _)) Y (Qw (Qo 1 Y (Qc call65 Y (Dz a va _ hKa hA) (λrA h4 ms4 l4 hQ=>?_))));obtain⟨l4',mA,A,vA,rfl,rfl,hOA,hAl,hsA⟩:=hQ;refine A5 hOA λh5 l5 hRA=>?_;have l25:=AI l4 l5;refine Qa (BW 2 7 (by kernel_rfl) Y (by assumption) Y (Cp Y BJ Y A9 Y Y Y) (Qo 4 Y (Qc call65 Y (Dz b vb _ hKb (hB.up l25)) (λrB h6 ms6 l6 hQ=>?_))));obtain⟨l6',mB,B,vB,rfl,rfl,hOB,hBl,hsB⟩:=hQ;refine A5 hOB λh7 l7 hRB=>?_;have l57:=AI l6 l7;have l27:=AI l25 l57;have hEq:=Km A B vA vB h7 ⟨hRA.up l57,λa ha=>(hsA a ha).up (AI l5 l57)⟩ ⟨hRB,λa ha=>(hsB a ha).up l7⟩;rw[hAl,hBl]at hEq;refine Qa (BW 5 10 (by kernel_rfl) Y (by assumption) Y (Cp Y BJ Y A9 Y Y Y) (Qo 6 Y (Qx (AR Y call78 Y (hEq _)) Y (Qa (Qo 7 Y (Qm Y (Qa (Qe (Ab (Aq ?_))))))))));exact Az Y Y Y
  exact AH
 refine Ai Y ?_ ?_
 ·refine Qx (oG Y BJ AO (s3 _ (B8) _)) Y (Qw (Qo 0 Y (Qx (oG Y BJ AO (s2 _ (B8) _)) Y (Qw (Qo 1 Y (Qc call65 Y (Dz a va _ hKa hA) (λrA h4 ms4 l4 hQ=>?_)))))));obtain⟨l4',mA,A,vA,rfl,rfl,hOA,hAl,hsA⟩:=hQ;refine A5 hOA λh5 l5 hRA=>?_;have l25:=AI l4 l5;refine Qa (BW 2 7 (by kernel_rfl) Y (by assumption) Y (Cp Y BJ Y A9 Y Y Y) (Qo 4 Y (Qc call65 Y (Dz b vb _ hKb (hB.up l25)) (λrB h6 ms6 l6 hQ=>?_))));obtain⟨l6',mB,B,vB,rfl,rfl,hOB,hBl,hsB⟩:=hQ;refine A5 hOB λh7 l7 hRB=>?_;have l57:=AI l6 l7;have l27:=AI l25 l57;have hEq:=Km A B vA vB h7 ⟨hRA.up l57,λa ha=>(hsA a ha).up (AI l5 l57)⟩ ⟨hRB,λa ha=>(hsB a ha).up l7⟩;rw[hAl,hBl]at hEq;refine Qa (BW 5 10 (by kernel_rfl) Y (by assumption) Y (Cp Y BJ Y A9 Y Y Y) (Qo 6 Y (Qx (AR Y call78 Y (hEq _)) Y (Qa (Qo 7 Y (Qm Y (Qa (Qe (Ab (Aq ?_))))))))));exact Az Y Y Y
 exact AH
variable {F:List (Int×Int)}
def Im(F:List (Int×Int))(c:Int):Option Int:=(F.find? λq=>decide (q.1=c)).map Prod.snd
theorem Yz{c:Int}{k:Nat}(hk:k<F.length)(h:F[k].1=c)(hno:∀j (hj:j<F.length),j<k->F[j].1≠c):Im F c=some F[k].2:=by have e:(F.find? λq=>decide (q.1=c))=some F[k]:=List.find?_eq_some_iff_getElem.2 ⟨decide_eq_true h,k,hk,Y,λj hj=>by rw[decide_eq_false (hno j (by omega) hj)];rfl⟩;unfold Im;rw[e];rfl
theorem WW{c:Int}(hno:∀j (hj:j<F.length),F[j].1≠c):Im F c=none:=by
 unfold Im;rw[List.find?_eq_none.2 λx hx=>?_]
 ·rfl
 ·obtain⟨j,hj,rfl⟩:=List.getElem_of_mem hx;rw[decide_eq_false (hno j hj)];decide
theorem OY(F:List (Int×Int))(c:Int):(Im F c).isSome=decide (c∈F.map Prod.fst):=by
 unfold Im;rw[Option.isSome_map];cases h:F.find? λq=>decide (q.1=c) with
 | none=>
  rw[List.find?_eq_none]at h
  symm
  refine decide_eq_false λq=>?_;obtain⟨x,hx,rfl⟩:=List.mem_map.1 q;exact h x hx (decide_eq_true Y)
 | some x=>
  have h1:=List.mem_of_find?_eq_some h;have h2:x.1=c:=by have:=List.find?_some h;simpa using this
  symm
  exact decide_eq_true (List.mem_map.2 ⟨x,h1,h2⟩)
theorem J9(hn:(F.map Prod.fst).Nodup)(c:Int):(Im F c).getD 0=GO F c:=by
 cases h:F.find? λq=>decide (q.1=c) with
 | none=>
  unfold Im;rw[h];rw[List.find?_eq_none]at h
  have:c ∉ F.map Prod.fst:=λq=>by obtain⟨x,hx,rfl⟩:=List.mem_map.1 q;exact h x hx (decide_eq_true Y)
  unfold GO;rw[<-LN c F]at this;rw[C7 this];rfl
 | some x=>
  have h1:=List.mem_of_find?_eq_some h;have h2:x.1=c:=by have:=List.find?_some h;simpa using this
  unfold Im;rw[h];rw[Kt (x:=x.2) hn (by rw[<-h2];exact h1)];rfl
theorem Jh(F:List (Int×Int))(v:Value)(c:Int)(h:Hp)(hR:RdL cV 2 h [] v F)(ms:List Hp):FnV Tryz.prog 71 #[v,.int .i64 c] h ms (.tuple #[.int .i64 ((Im F c).getD 0),.bool (Im F c).isSome]):=by
 refine EX ?_ ms;have o1:=hR.rd.one;have hn:=hR.len_le;refine Av func71 ntmps71 Y Y (λw0 hw0=>?_);simp only[A3];refine Aw (Qm Y (Qm Y (Ap (Ac (Aw (Qm Y (Ap (Ah ?_))))))))
 refine AD (λq sl h' ms'=>∃(i:Nat),q=F.length-i/\sl=[(0,v),(1,.int .i64 c),(6,.int .i64 i)]/\h=h'/\ms'=[]/\i<=F.length/\∀j (hj:j<F.length),j<i->F[j].1≠c)
  (F.length-0) _ ⟨0,rfl,rfl,rfl,rfl,by omega,λj _ h=>by omega⟩ Qs ?_
 rintro q sl h' ms' ⟨i,rfl,rfl,rfl,rfl,hi,hno⟩;refine Ac (Aw (Qm Y (Qm Y (Qx (As hR.rd.any Y Ny Y) Y (Qm Y (Ap ?_))))));refine Ax Y (λhlt=>?_) (λhlt=>?_)
 ·have hil:i<F.length:=by omega
  have c0:∀ms,Cell h ms (((AJ v).add (i*2)).add 0) (.int .i64 F[i].1):=λms=>(hR.any (ms:=ms)).cell hil (f:=0) Y;have c1:∀ms,Cell h ms (((AJ v).add (i*2)).add 1) (.int .i64 F[i].2):=λms=>(hR.any (ms:=ms)).cell hil (f:=1) Y;refine Aj (Ab (Ac (Ah (Aw (Qm Y (Qm Y (Qx (BH (i) hR.rd.any Y Ny EV Y Y) Y (Qf Fl Y (Ql Y U3 (c0 _) (Qm Y (Qm Y (Ap ?_))))))))))));refine Ax Y (λhe=>?_) (λhe=>?_)
  ·refine Ac (Ad (Qm Y (Qm Y (Qx (BH (i) hR.rd.any Y Ny EV Y Y) Y (Qf Pz Y (Ql Y U3 (c1 _) (Qm Y (Qm Y (Ap (Aq (Al (Ae (Ae (Al (Ae ?_)))))))))))))));exact BA Y Y Y (by rw[Yz hil he hno];rfl)
  ·refine Aj (Ak (Ab (Ad (Qm Y (Qx (oA Y) Y (Qm Y (An ?_)))))))
   exact Am (F.length-(i+1)) _ (by omega) ⟨i+1,Y,Y,Y,Y,by omega,λj hj hji=>by
    rcases (by omega:j<i\/j=i) with h1|rfl
    ·exact hno j hj h1
    ·exact he⟩ Qs
 ·obtain rfl:i=F.length:=by omega
  refine Ay (Aa (Aa (Ag (Ab (Aw (Qm Y (Qm Y (Ap (Aq ?_)))))))));exact BA Y Y Y (by rw[WW λj hj=>hno j hj hj];rfl)
end Go.Proofs.Q

namespace Go.Proofs.Q
open Go.Proofs.Tryz
open Go.Eng Go.RowKit
theorem Xx{l:List Cl}(R:Rgt l):FW l=(0,0):=by
 have F:=R.ordF;have hl:=SC l
 have hA:(range l.length).findSome? (HY (ordF l) (Fs l))=none:=Cq _ λb hb=>by
  have hb':b<(ordF l).length:=by omega
  unfold HY;rw[Et R,GY hb'];have h1:=F.pos _ (getElem_mem hb');rw[if_neg (λq=>?_),if_neg (λq=>q (F.fst _ (getElem_mem hb')))];rcases q with q|⟨q,e⟩
  ·omega
  ·have:=List.pairwise_iff_getElem.1 F.inc (b-1) b (by omega) hb' (by omega);rw[GY (show b-1<(ordF l).length by omega)]at e;omega
 have hB:(range l.length).findSome? (JI (ordF l))=none:=Cq _ λb hb=>by
  have hb':b<(ordF l).length:=by omega
  unfold JI;rw[GY hb'];split
  ·rfl
  ·rw[if_neg λq=>q (F.snd _ (getElem_mem hb') (by omega))]
 unfold FW;rw[if_neg (by have:=R.n;omega),hA,hB];rfl
theorem Rgt.ck{l:List Ce}(R:Rgt (l.map Ce.c)):Aa0 l:=
 ⟨R.cs,λa ha=>by have:=(R.bds (List.mem_map.2 ⟨a,ha,Y⟩)).1;omega⟩
theorem Ot(l:List Ce)(v:Value)(h:Hp)(hK:RgC l)(hR:RdC h v l):FnT Tryz.prog 69 #[.agg #[v]] h [] (λr _ _=>r=.tuple #[.int .i64 0,.int .i64 0]):=by
 have:=Qv l v h hK.r.ck hR
 rwa [Xx hK.r]at this
theorem LA(l:List Ce)(v:Value)(i:Int)(hp:Hp)(hK:RgC l)(hR:RdC hp v l):FnT Tryz.prog 70 #[.agg #[v],.int .i64 i] hp [] (λr h' ms'=>hp.le h'/\∃y:Ce,r=.tuple #[vC y,.bool (H7 (cn l) i).isSome]/\y.v.oneCell'=true):=by
 have o1:=hR.q.rd.one;have F:=hK.F;refine Av func70 ntmps70 Y Y (λw0 hw0=>?_);simp only[A3];refine Aw (AY [_] Y Y (by rfl) Y Y Y (λg2=>By [.int .i64 0,.int .i64 0,.slice none 0 0] Y AL Y Y (λg4=>Qm Y (Ap (Bk 1 Y λh1 l1 hS=>?_)))));have hR:=hR.up l1;refine Aw (Qx (oG Y BJ AO (Seg.any hS)) Y (Qc call49 Y (Fm l v h1 hK.r.cs hR) (λrA h2 ms2 l2 hF=>?_)));obtain⟨l2',mA,A,rfl,hOA,hA,hsA⟩:=hF;rw[Et hK.r]at hA;have oA_:=hOA.o1;refine Qm Y (Ap (Bu hOA λh3 l3 hRA=>?_))
 have hAl:A.length<=100000:=by have:=congrArg List.length hA;rw[length_map,Fc,length_map]at this;have:=hK.r.cs.n;omega
 have hcn:A.map Ce.c=cn l:=hA;have hst:(A.map Ce.c).Pairwise λa b=>a.id<=b.id:=by rw[hcn];exact F.inc.imp λh=>by omega
 have hatv:=λms=>VC A rA i h3 hAl hst hRA ms;rw[hcn]at hatv;refine Aw (Qm Y (Qm Y (Qx (AR Y call117 Y (hatv _)) Y (Qm Y (Ap (Ac (Aw (Qm Y (Qm Y (Ap ?_))))))))));refine Ax Y (λhlt=>?_) (λhlt=>?_)
 ·have hno:(H7 (cn l) i).isSome=false:=by
   cases e:(H7 (cn l) i) with
   | none=>rfl
   | some y=>
    unfold H7 at e;have h1:=List.mem_of_find?_eq_some e;have h2:y.id=i:=by have:=List.find?_some e;simpa using this
    have:=(Hw F.inc h1).1;rw[h2]at this;omega
  refine Aw (Qx (Bm Uo [.int .i64 0,.int .i64 0,.slice none 0 0] [] [_,_,_] Y AL Y Y Qt Y) Y ?_);refine Sa 0 [_,_,_] AL Y (by simp[Value.oneCell']) ?_;refine Qm Y (Ap (Aq (Ae ?_)));exact Gh (vs:=[_,_,_]) 0 Y Y Y D1 Y AL Y Y (⟨AI l1 (AI l2 l3),default,by rw[hno];rfl,rfl⟩)
 ·obtain⟨y,hy,ey,eg⟩:=RV (o:=cn l) (c:=i) (by omega);have hys:(H7 (cn l) i).isSome=true:=by rw[<-ey,Dh (MZ F.inc) hy];rfl
  obtain⟨k,hk⟩:∃k:Nat,I1 (cn l) i=k:=⟨(I1 (cn l) i).toNat,by omega⟩
  have hlt':=HP (cn l) i;have hkA:k<A.length:=by rw[<-hcn,length_map]at hlt';rw[<-hcn]at hk;omega
  obtain⟨x,hx⟩:∃x,A[k]=x:=⟨_,Y⟩
  have hX:=(hsA x (by rw[<-hx];exact getElem_mem hkA)).up l3;have ox:=hX.rd.one;have sx:∀ms,Seg h3 ms ((AJ rA).add (k*3)) (cC x):=λms=>by rw[<-hx];exact(hRA.any (ms:=ms)).seg hkA
  rw[hk];refine Aj (Ab (Aw (Qm Y (Qm Y (Qx (BH (k) hRA.rd.any Y A9 AL Y Y) Y (Qx (oG Y D1 AL (sx _)) Y ?_))))));refine Sa 0 [_,_,_] AL Y (by simp[o1,oA_,ox]) ?_;refine Qm Y (Ap (Aq ?_));exact Gh (vs:=[_,_,_]) 0 Y Y Y D1 Y AL Y Y (⟨AI l1 (AI l2 l3),x,by rw[hys];rfl,ox⟩)
theorem AaT{o:List Cl}{F:List (Int×Int)}:(∀j,j<F.length->fA o F j=none)->(F.map Prod.fst).Nodup:=λh=>by
 have:∀i,i<=F.length->((F.take i).map Prod.fst).Nodup:=λi=>by
  induction i with
  | zero=>simp
  | succ i ih=>
   intro hi;have h1:=ih (by omega);have h2:=h i (by omega);unfold fA at h2;have hg:F.getD i (0,0)=F[i]:=by simp[List.getD,show i<F.length by omega]
   rw[hg]at h2;split at h2
   ·cases h2
   ·split at h2
    ·cases h2
    ·rename_i h3;rw[List.take_succ_eq_append_getElem (by omega),map_append,List.nodup_append];refine⟨h1,by simp,λa ha b hb e=>h3 ?_⟩;simp only[map_cons,List.map_nil,List.mem_singleton]at hb;rw[<-hb,<-e];exact ha
 have:=this F.length (Nat.le_refl _)
 rwa [take_length]at this
theorem Qy(l:List Ce)(F:List (Int×Int))(v vf:Value)(hp:Hp)(hK:RgC l)(hR:RdC hp v l)(hF:RdL cV 2 hp [] vf F)(hV:Ls F):FnT Tryz.prog 25 #[.agg #[v],vf] hp [] (λr _ _=>r=.tuple #[.int .i64 (Fz (cn l) F).1,.int .i64 (Fz (cn l) F).2]):=by
 have o1:=hR.q.rd.one;have o2:=hF.rd.one;have hG:=hK.F.rgt;have hFn:=hV.n;have hln:l.length<=4000:=by have:=hG.n;rwa [C6]at this
 refine Av func25 ntmps25 Y Y (λw0 hw0=>?_);simp only[A3];refine Aw (AY [_] Y Y (by rfl) Y Y Y (λg2=>Qm Y (Qm Y (Ap (AB λh1 l1 hS=>?_)))));have hR:=hR.up l1;have hF:=hF.up l1;refine Aw (Qx (oG Y BJ AO (Seg.any hS)) Y (Qx (AR Y call69 Y (EX (Ot l v h1 hK hR) _)) Y (Qm Y (Qm Y (Qm Y (Qm Y (Qm Y (Ap (Ac (Aw (Qm Y (Qm Y (Ap (Ax Y (λhc=>absurd hc (λh=>h Y)) (λhc=>Aj (Ab ?_))))))))))))))));refine A8 (λsl h' ms'=>sl=[(1,vf),(2,.pointer (some ⟨g2,0,none⟩))]/\h1.le h'/\ms'=[]/\∀j,j<F.length->fA (cn l) F j=none) ?_ (λs h ms hI=>?_)
 ·refine Ac (Ad (Qm Y (Ap (Ah ?_))))
  refine AD (λq sl h' ms'=>∃(i:Nat),q=F.length-i/\sl=[(1,vf),(2,.pointer (some ⟨g2,0,none⟩)),(8,.int .i64 i)]/\h1.le h'/\ms'=[]/\i<=F.length/\∀j,j<i->fA (cn l) F j=none)
   (F.length-0) _ ⟨0,rfl,rfl,B8,rfl,by omega,λj h=>by omega⟩ Qs ?_
  rintro q sl h2 ms' ⟨i,rfl,rfl,l2,rfl,hi,hno⟩;have hF:=hF.up l2;have hR:=hR.up l2;have hS2:=hS.le l2;refine Ac (Aw (Qm Y (Qm Y (Qx (As hF.rd.any Y Ny Y) Y (Qm Y (Ap ?_))))));refine Ax Y (λhlt=>?_) (λhlt=>?_)
  ·have hil:i<F.length:=by omega
   obtain⟨p,hp⟩:∃p,F[i]=p:=⟨_,Y⟩
   have hgp:F.getD i (0,0)=p:=by simp[List.getD,hil,hp]
   have c0:∀h',h2.le h'->∀ms,Cell h' ms (((AJ vf).add (i*2)).add 0) (.int .i64 p.1):=λh' l' ms=>by rw[<-hp];exact((hF.up l').any (ms:=ms)).cell hil (f:=0) Y
   obtain⟨bb,hbb⟩:∃bb,(H7 (cn l) p.1).isSome=bb:=⟨_,Y⟩
   refine Aj (Ab (Ac (Ah ?_)));refine A8 (λsl h' ms'=>sl=[(1,vf),(2,.pointer (some ⟨g2,0,none⟩)),(8,.int .i64 i),(10,.bool bb)]/\h2.le h'/\ms'=[]) ?_ (λs h ms hI=>?_)
   ·refine BK (n:=13) (bs:=[true,true,true,true,true,true,false,false,false,false,false,false,false]) [true,true,true,true,true,true] CZ (by kernel_rfl) (by kernel_rfl) Y Y (Qp Y (oG Y BJ AO (Seg.any hS2)) (Qq Y (Qq Y (Qp Y (BH (i) hF.rd.any Y Ny EV Y Y) (QF Fl Y (QL Y U3 (c0 _ (B8) _) ?_))))));unfold FK;simp only[cons_append,nil_append];refine AG [6,10] (by kernel_rfl) Y ?_;refine Ai Y ?_ ?_
    ·refine Qc call70 Y (LA l v p.1 _ hK hR) (λrF h4 ms4 l4 hQ=>?_);obtain⟨l4',y,rfl,oy⟩:=hQ;refine Ew ?_ ms4;rw[hbb];refine Qa (BW 7 38 (by kernel_rfl) Y (by assumption) Y (AC Y Y) (BW 8 46 (by kernel_rfl) Y (by assumption) Y (DY Y Y Y) (BW 9 47 (by kernel_rfl) Y (by assumption) Y (DY Y Y Y) (Qo 10 Y (By [.int .i64 0,.int .i64 0,.slice none 0 0] Y AL Y Y (λg9=>Qa (Qo 11 Y ?_)))))));refine Sa 0 [_,_,_] AL Y (by simp[o1,o2,oy]) ?_;refine Qa (Qo 12 Y (Qm Y (Qa (Qe (AS ?_)))));exact Ao _ ⟨Y,l4',Y⟩ Qs
    refine Ai Y ?_ ?_
    ·refine By [.int .i64 0,.int .i64 0,.slice none 0 0] Y AL Y Y (λg9=>Qw (Qo 6 Y (Qc call70 Y (LA l v p.1 _ hK hR) (λrF h4 ms4 l4 hQ=>?_))));obtain⟨l4',y,rfl,oy⟩:=hQ;refine Ew ?_ ms4;rw[hbb];refine Qa (BW 7 38 (by kernel_rfl) Y (by assumption) Y (AC Y Y) (BW 8 46 (by kernel_rfl) Y (by assumption) Y (DY Y Y Y) (BW 9 47 (by kernel_rfl) Y (by assumption) Y (DY Y Y Y) (Qo 11 Y ?_))));refine Sa 0 [_,_,_] AL Y (by simp[o1,o2,oy]) ?_;refine Qa (Qo 12 Y (Qm Y (Qa (Qe (AS ?_)))));exact Ao _ ⟨Y,l4',Y⟩ Qs
    exact AH
   ·obtain⟨rfl,l3,rfl⟩:=hI;have hF:=hF.up l3;have hR:=hR.up l3;have l23:=AI l2 l3;have c0:=c0 _ l3;refine Ac (Aw (Qm Y (Qm Y (Ap ?_))));refine Bz Y (λhn=>?_) (λhn=>?_)
    ·have hbf:bb=false:=by cases bb<;>simp at hn ⊢
     have hch:=MM (o:=cn l) hil hno (by unfold fA;rw[hgp,hbb,if_pos hbf]);refine Aw (Qm Y (Qm Y (Qx (BH (i) hF.rd.any Y Ny EV Y Y) Y (Qf Fl Y (Ql Y U3 (c0 _) (Qm Y (Qm Y (Ap (Aq (Ae (Al (Ae (Ae (Al (Ae ?_)))))))))))))));exact BA Y Y Y (by rw[hch])
    ·have hbt:¬bb=false:=by cases bb<;>simp at hn ⊢
     have hTk:RdL cV 2 h [] (Ca 2 vf 0 i) (F.take i):=by have:=hF.sub_ (i:=0) (j:=i) (by omega) hi;rwa [List.drop_zero,Nat.sub_zero]at this
     have hval:=Jh (F.take i) (Ca 2 vf 0 i) p.1 h hTk;rw[OY]at hval;refine Aj (Ab (Ac (Bc 13 CZ (by kernel_rfl) Y (Wm Y (Wm Y (AW (EK _ hF.rd.any Y Ny EV Y Y Y (by omega)) Y Y (Wm Y (Wm Y (AW (BH (i) hF.rd.any Y Ny EV Y Y) Y Y (Wf Fl Y (Wl Y U3 (c0 _) (AW (AR Y call71 Y (hval _)) Y Y (Wm Y (Wm Y (Wm Y (Wm Y (A4 (Qm Y (BN (Qm Y (Ap ?_)))))))))))))))))))));refine Bz Y (λhin=>?_) (λhin=>?_)
     ·have him:p.1∈(F.take i).map Prod.fst:=of_decide_eq_true hin;have hch:=MM (o:=cn l) hil hno (by unfold fA;rw[hgp,hbb,if_neg hbt,if_pos him]);refine Aw (Qm Y (Qm Y (Qx (BH (i) hF.rd.any Y Ny EV Y Y) Y (Qf Fl Y (Ql Y U3 (c0 _) (Qm Y (Qm Y (Ap (Aq (Al (Ae (Ae (Al (Ae ?_))))))))))))));exact BA Y Y Y (by rw[hch])
     ·have him:p.1 ∉ (F.take i).map Prod.fst:=λq=>by rw[decide_eq_true q]at hin;cases hin
      have hci:fA (cn l) F i=none:=by unfold fA;rw[hgp,hbb,if_neg hbt,if_neg him]
      refine Aj (Ak (Ab (Ad (Qm Y (Qx (oA Y) Y (Qm Y (An ?_)))))))
      exact Am (F.length-(i+1)) _ (by omega) ⟨i+1,Y,Y,l23,Y,by omega,λj hj=>by
       rcases (by omega:j<i\/j=i) with h1|rfl
       ·exact hno j h1
       ·exact hci⟩ Qs
  ·obtain rfl:i=F.length:=by omega
   refine Ay (Aa (Aa (Ag ?_)));exact Ao _ ⟨Y,l2,Y,hno⟩ Qs
 ·obtain⟨rfl,l2,rfl,hno⟩:=hI;have hR:=hR.up l2;have hF:=hF.up l2;have hS2:=hS.le l2;have hfn:=AaT hno;refine Aw (Qx (oG Y BJ AO (Seg.any hS2)) Y (Qc call49 Y (Fm l v _ hK.r.cs hR) (λrA h3 ms3 l3 hQ=>?_)));obtain⟨l3',mA,A,rfl,hOA,hA,hsA⟩:=hQ;rw[Et hK.r]at hA;have hcn:A.map Ce.c=cn l:=hA;refine Qm Y (Ap (Bu hOA λh4 l4 hQ=>?_));have hsA:=λa ha=>(hsA a ha).up l4;have hF:=hF.up (AI l3 l4);have oA_:=hQ.rd.one;have hol:(cn l).length=A.length:=by rw[<-hcn,length_map]
  have hAn:A.length<=4000:=by rw[<-hol,C6];exact hln
  have hget:∀i (hi:i<A.length),(cn l).getD i default=A[i].c:=λi hi=>by rw[<-hcn];simp[List.getD,hi]
  have hAs:∀a∈A,a.c.sd.length<=64:=λa ha=>by
   have h1:a.c∈cn l:=by rw[<-hcn];exact List.mem_map.2 ⟨a,ha,Y⟩
   exact(hK.F.bds h1).2.1
  obtain⟨o,ho⟩:∃o,cn l=o:=⟨_,Y⟩
  rw[ho]at hol hno hget ⊢;have hvv:=λc=>Jh F vf c h4 hF;refine A8 (λsl h' ms'=>sl=[(1,vf),(13,rA)]/\h4=h'/\ms'=[]/\∀j,j<A.length->fB o F j=none) ?_ (λs h ms hI=>?_)
  ·refine Ac (Ad (Qm Y (Ap (Ah ?_))))
   refine AD (λq sl h' ms'=>∃(i:Nat),q=A.length-i/\sl=[(1,vf),(13,rA),(14,.int .i64 i)]/\h4=h'/\ms'=[]/\i<=A.length/\∀j,j<i->fB o F j=none)
    (A.length-0) _ ⟨0,rfl,rfl,rfl,rfl,by omega,λj h=>by omega⟩ Qs ?_
   rintro q sl h' ms' ⟨i,rfl,rfl,rfl,rfl,hi,hnB⟩;refine Ac (Aw (Qm Y (Qm Y (Qx (As hQ.rd.any Y A9 Y) Y (Qm Y (Ap ?_))))));refine Ax Y (λhlt=>?_) (λhlt=>?_)
   ·have hil:i<A.length:=by omega
    have hgx:=hget i hil;have c0:∀ms,Cell h4 ms (((AJ rA).add (i*3)).add 0) (.int .i64 A[i].c.id):=λms=>(hQ.any (ms:=ms)).cell hil (f:=0) Y;have hvi:=hvv A[i].c.id;rw[OY]at hvi;refine Aj (Ab (Ac (Ah (Aw (Qm Y (Qm Y (Qm Y (Qx (BH (i) hQ.rd.any Y A9 AL Y Y) Y (Qf Bq Y (Ql Y U3 (c0 _) (Qx (AR Y call71 Y (hvi _)) Y (Qm Y (Qm Y (Qm Y (Qm Y (Qm Y (BN (Qm Y (Qm Y (Ap ?_))))))))))))))))))));refine Bz Y (λhin=>?_) (λhin=>?_)
    ·have hni:A[i].c.id ∉ F.map Prod.fst:=λq=>by rw[decide_eq_true q]at hin;cases hin
     have hch:=UF (o:=o) (F:=F) hno (by rw[hol];exact hil) hnB (by unfold fB;rw[hgx,if_pos hni]);refine Aw (Qm Y (Qm Y (Qx (BH (i) hQ.rd.any Y A9 AL Y Y) Y (Qf Bq Y (Ql Y U3 (c0 _) (Qm Y (Qm Y (Ap (Aq (Al (Ae (Ae (Al (Ae ?_))))))))))))));exact BA Y Y Y (by rw[hch])
    ·have hni:A[i].c.id∈F.map Prod.fst:=Classical.byContradiction λq=>by rw[decide_eq_false q]at hin;cases hin
     have hci:fB o F i=none:=by unfold fB;rw[hgx,if_neg λq=>q hni]
     refine Aj (Ak (Ab (Ad (Qm Y (Qx (oA Y) Y (Qm Y (An ?_)))))))
     exact Am (A.length-(i+1)) _ (by omega) ⟨i+1,Y,Y,Y,Y,by omega,λj hj=>by
      rcases (by omega:j<i\/j=i) with h1|rfl
      ·exact hnB j h1
      ·exact hci⟩ Qs
   ·obtain rfl:i=A.length:=by omega
    refine Ay (Aa (Aa (Ag ?_)));exact Ao _ ⟨Y,Y,Y,hnB⟩ Qs
  ·obtain⟨rfl,rfl,rfl,hnB⟩:=hI;refine Ac (Aw (Qm Y (Ap (Ah ?_))))
   refine AD (λq sl h' ms'=>∃(i:Nat),q=A.length-i/\sl=[(1,vf),(13,rA),(17,.int .i64 i)]/\h4=h'/\ms'=[]/\i<=A.length/\∀j,j<i->fC o F j=none)
    (A.length-0) _ ⟨0,rfl,rfl,rfl,rfl,by omega,λj h=>by omega⟩ Qs ?_
   rintro q sl h' ms' ⟨i,rfl,rfl,rfl,rfl,hi,hnC⟩;refine Ac (Aw (Qm Y (Qm Y (Qx (As hQ.rd.any Y A9 Y) Y (Qm Y (Ap ?_))))));refine Ax Y (λhlt=>?_) (λhlt=>?_)
   ·have hil:i<A.length:=by omega
    obtain⟨x,hx⟩:∃x,A[i]=x:=⟨_,Y⟩
    have hxm:x∈A:=by rw[<-hx];exact getElem_mem hil
    have hgx:=hget i hil;rw[hx]at hgx;have hX:=hsA x hxm;have ox:=hX.rd.one;have hxs:=hAs x hxm;have c0:∀ms,Cell h4 ms (((AJ rA).add (i*3)).add 0) (.int .i64 x.c.id):=λms=>by rw[<-hx];exact(hQ.any (ms:=ms)).cell hil (f:=0) Y
    have c2:∀ms,Cell h4 ms (((AJ rA).add (i*3)).add 2) x.v:=λms=>by rw[<-hx];exact(hQ.any (ms:=ms)).cell hil (f:=2) Y
    have hvi:=hvv x.c.id;rw[J9 hfn]at hvi;obtain⟨w0,hw0⟩:∃w0,GO F x.c.id=w0:=⟨_,Y⟩
    obtain⟨b0,hb0⟩:∃b0,(Im F x.c.id).isSome=b0:=⟨_,Y⟩
    rw[hw0,hb0]at hvi;refine Aj (Ab (Ac (Ah (Aw (Qm Y (Qm Y (Qm Y (Qx (BH (i) hQ.rd.any Y A9 AL Y Y) Y (Qf Bq Y (Ql Y U3 (c0 _) (Qx (AR Y call71 Y (hvi _)) Y (Qm Y (Qm Y (Qm Y (Qm Y (Qm Y (BN (Qm Y (Ap (Ah ?_))))))))))))))))))))
    refine AD (λq sl h' ms'=>∃(k:Nat),q=x.c.sd.length-k/\sl=[(1,vf),(13,rA),(17,.int .i64 i),(18,.int .i64 w0),(20,.int .i64 k)]/\h4=h'/\ms'=[]/\k<=x.c.sd.length/\∀j (hj:j<x.c.sd.length),j<k->¬GO F x.c.sd[j].1>w0)
     (x.c.sd.length-0) _ ⟨0,rfl,rfl,rfl,rfl,by omega,λj _ h=>by omega⟩ Qs ?_
    rintro q sl h' ms' ⟨k,rfl,rfl,rfl,rfl,hk,hnD⟩;refine Ac (Aw (Qm Y (Qm Y (Qm Y (Qx (BH (i) hQ.rd.any Y A9 AL Y Y) Y (Qf Bs Y (Ql Y BQ (c2 _) (Qx (As hX.rd.any Y BQ Y) Y (Qm Y (Ap ?_))))))))));refine Ax Y (λhlt2=>?_) (λhlt2=>?_)
    ·have hkl:k<x.c.sd.length:=by omega
     obtain⟨s,hs⟩:∃s,x.c.sd[k]=s:=⟨_,Y⟩
     have d0:∀ms,Cell h4 ms (((AJ x.v).add (k*2)).add 0) (.int .i64 s.1):=λms=>by rw[<-hs];exact(hX.any (ms:=ms)).cell hkl (f:=0) Y
     have hvs:=hvv s.1;rw[J9 hfn]at hvs;refine Aj (Ab (Ac (Ah (Aw (Qm Y (Qm Y (Qm Y (Qx (BH (i) hQ.rd.any Y A9 AL Y Y) Y (Qf Bs Y (Ql Y BQ (c2 _) (Qm Y (Qx (BH (k) hX.rd.any Y BQ AQ Y Y) Y (Qf B6 Y (Ql Y U3 (d0 _) (Qx (AR Y call71 Y (hvs _)) Y (Qm Y (Qm Y (Qm Y (Qm Y (Qm Y (BN (Qm Y (Qm Y (Qm Y (Ap ?_)))))))))))))))))))))))));refine Ax Y (λhgt=>?_) (λhgt=>?_)
     ·have hup:YY o F i:=by unfold YY;rw[hgx];exact⟨s,by rw[<-hs];exact getElem_mem hkl,by rw[hw0];exact hgt⟩
      have hch:=TZ (o:=o) (F:=F) hno (by rw[hol];exact hnB) (by rw[hol];exact hil) hnC (by unfold fC;rw[hgx,if_pos hup]);refine Aw (Qm Y (Qm Y (Qx (BH (i) hQ.rd.any Y A9 AL Y Y) Y (Qf Bq Y (Ql Y U3 (c0 _) (Qm Y (Qm Y (Ap (Aq (Al (Ae (Ae (Al (Al (Ae (Ae (Al (Ae ?_))))))))))))))))));exact BA Y Y Y (by rw[hch])
     ·refine Aj (Ak (Ab (Ad (Qm Y (Qx (oA Y) Y (Qm Y (An ?_)))))))
      exact Am (x.c.sd.length-(k+1)) _ (by omega) ⟨k+1,Y,Y,Y,Y,by omega,λj hj hjk=>by
       rcases (by omega:j<k\/j=k) with h1|rfl
       ·exact hnD j hj h1
       ·rw[hs];exact hgt⟩ Qs
    ·obtain rfl:k=x.c.sd.length:=by omega
     have hci:fC o F i=none:=by unfold fC;rw[if_neg λq=>?_];unfold YY at q;rw[hgx]at q;obtain⟨s,hs,hgt⟩:=q;obtain⟨j,hj,rfl⟩:=List.getElem_of_mem hs;rw[hw0]at hgt;exact hnD j hj hj hgt
     refine Ay (Aa (Aa (Ag (Ak (Ab (Ad (Qm Y (Qx (oA Y) Y (Qm Y (An ?_))))))))))
     exact Am (A.length-(i+1)) _ (by omega) ⟨i+1,Y,Y,Y,Y,by omega,λj hj=>by
      rcases (by omega:j<i\/j=i) with h1|rfl
      ·exact hnC j h1
      ·exact hci⟩ Qs
   ·obtain rfl:i=A.length:=by omega
    have hch:=Pq (o:=o) (F:=F) hno (by rw[hol];exact hnB) (by rw[hol];exact hnC);refine Ay (Aa (Aa (Ag (Ab (Aw (Qm Y (Qm Y (Ap (Aq ?_)))))))));exact BA Y Y Y (by rw[hch])
theorem Ve(x y:Ce)(h:Hp)(hx:RdL cD 2 h [] x.v x.c.sd)(hy:RdL cD 2 h [] y.v y.c.sd)(ms:List Hp):FnV Tryz.prog 84 #[.agg (cC x).toArray,.agg (cC y).toArray] h ms (.bool (decide (x.c=y.c))):=by
 refine EX ?_ ms;have o1:=hx.rd.one;have o2:=hy.rd.one;have la:=hx.len_le;have lb:=hy.len_le;have hcl:∀a b:Cl,a=b<->a.id=b.id/\a.dim=b.dim/\a.sd=b.sd:=λa b=>by cases a;cases b;simp
 show FnT _ _ #[.agg #[.int .i64 x.c.id,.int .i64 x.c.dim,x.v],.agg #[.int .i64 y.c.id,.int .i64 y.c.dim,y.v]] _ _ _;refine Av func84 ntmps84 Y Y (λw0 hw0=>?_);simp only[A3];refine Aw (AY [_,_,_] Y Y (by rfl) Y Y Y (λg2=>AY [_,_,_] Y Y (by rfl) Y Y Y (λg3=>Qm Y (Ap (AB λh1 l1 hG3=>(AB λh2 l2 hG2=>?_))))));have l12:=AI l1 l2;have hx:=hx.up l12;have hy:=hy.up l12;have x0:∀ms,Cell h2 ms (⟨g2,0,none⟩:Addr) (.int .i64 x.c.id):=λms=>Seg.all hG2 0 _ Y ms;have x1:∀ms,Cell h2 ms (⟨g2,1,none⟩:Addr) (.int .i64 x.c.dim):=λms=>Seg.all hG2 1 _ Y ms;have x2:∀ms,Cell h2 ms (⟨g2,2,none⟩:Addr) x.v:=λms=>Seg.all hG2 2 _ Y ms;have y0:∀ms,Cell h2 ms (⟨g3,0,none⟩:Addr) (.int .i64 y.c.id):=λms=>(Seg.all hG3 0 _ Y ms).le l2;have y1:∀ms,Cell h2 ms (⟨g3,1,none⟩:Addr) (.int .i64 y.c.dim):=λms=>(Seg.all hG3 1 _ Y ms).le l2;have y2:∀ms,Cell h2 ms (⟨g3,2,none⟩:Addr) y.v:=λms=>(Seg.all hG3 2 _ Y ms).le l2;refine Ac (Aw (Qf Bq Y (Ql Y U3 (x0 _) (Qf Bq Y (Ql Y U3 (y0 _) (Qm Y (Qm Y ?_)))))));refine AU (t:=11) Y (λc1=>?_) (λc1=>?_)
 ·refine Qk Y (Qk Y (Qk Y (Qk Y (Qk Y (Qm Y (Qm Y (Qk Y (Qk Y (Qk Y (Qk Y (Qk Y (Qk Y (Qk Y (Qm Y (Ap (BD Y (Aw (Qm Y (Ap (Aq (Ae ?_)))))))))))))))))))));exact Az Y Y (by rw[decide_eq_false λe=>c1 ((hcl _ _).1 e).1])
 ·refine Qg (oF BV Y) Y (Qg (oL Y U3 (x1 _)) Y (Qg (oF BV Y) Y (Qg (oL Y U3 (y1 _)) Y (Qg (Ep Y Y Y) Y (Qm Y (Qm Y ?_))))));refine AU (t:=18) Y (λc2=>?_) (λc2=>?_)
  ·refine Qk Y (Qk Y (Qk Y (Qk Y (Qk Y (Qk Y (Qk Y (Qm Y (Ap (BD Y (Aw (Qm Y (Ap (Aq (Ae ?_))))))))))))));exact Az Y Y (by rw[decide_eq_false λe=>c2 ((hcl _ _).1 e).2.1])
  ·refine Qg (oF Bs Y) Y (Qg (oL Y BQ (x2 _)) Y (Qg (As hx.rd.any Y BQ Y) Y (Qg (oF Bs Y) Y (Qg (oL Y BQ (y2 _)) Y (Qg (As hy.rd.any Y BQ Y) Y (Qg (Ep Y Y Y) Y (Qm Y (Ap ?_))))))));refine Ax Y (λc3=>?_) (λc3=>?_)
   ·refine Ac (Ad (Qm Y (Ap (Aq (Ae ?_)))));exact Az Y Y (by rw[decide_eq_false λe=>c3 (by rw[((hcl _ _).1 e).2.2])])
   ·have hl:x.c.sd.length=y.c.sd.length:=by omega
    refine Aj (Ab (Ac (Aw (Qm Y (Ap (Ah ?_))))))
    refine AD (λq s h' ms'=>∃(k:Nat),q=x.c.sd.length-k/\s=[(2,.pointer (some ⟨g2,0,none⟩)),(3,.pointer (some ⟨g3,0,none⟩)),(5,.int .i64 k)]/\h2=h'/\ms'=[]/\k<=x.c.sd.length/\x.c.sd.take k=y.c.sd.take k)
     (x.c.sd.length-0) _ ⟨0,rfl,rfl,rfl,rfl,by omega,rfl⟩ Qs ?_
    rintro q s h' ms' ⟨k,rfl,rfl,rfl,rfl,hk,he⟩;refine Ac (Aw (Qm Y (Qf Bs Y (Ql Y BQ (x2 _) (Qx (As hx.rd.any Y BQ Y) Y (Qm Y (Ap ?_)))))));refine Ax Y (λhlt=>?_) (λhlt=>?_)
    ·have hka:k<x.c.sd.length:=by omega
     have hkb:k<y.c.sd.length:=by omega
     have ca:∀ms,Seg h2 ms ((AJ x.v).add (k*2)) (cD x.c.sd[k]):=λms=>(hx.any (ms:=ms)).seg hka;have cb:∀ms,Seg h2 ms ((AJ y.v).add (k*2)) (cD y.c.sd[k]):=λms=>(hy.any (ms:=ms)).seg hkb;refine Aj (Ab (Ac (Ah (Ac (Bc 10 CZ (by kernel_rfl) Y (Wf Bs Y (Wl Y BQ (x2 _) (Wm Y (AW (BH (k) hx.rd.any Y BQ AQ Y Y) Y Y (AW (oG Y Du AQ (ca _)) Y Y (Wf Bs Y (Wl Y BQ (y2 _) (Wm Y (AW (BH (k) hy.rd.any Y BQ AQ Y Y) Y Y (AW (oG Y Du AQ (cb _)) Y Y (A4 (Qx (QQ x.c.sd[k] y.c.sd[k] Y Y Y) Y (Ap ?_))))))))))))))))));refine Ax Y (λhne=>?_) (λhne=>?_)
     ·refine Ac (Ad (Qm Y (Ap (Aq (Al (Ae (Ae (Al (Ae ?_)))))))));exact Az Y Y (by rw[decide_eq_false];intro e;have e2:=((hcl _ _).1 e).2.2;have:=congrArg (λl=>l[k]?) e2;simp only[List.getElem?_eq_getElem hka,List.getElem?_eq_getElem hkb,Option.some.injEq]at this;exact hne this)
     ·refine Aj (Ak (Ab (Ad (Qm Y (Qx (oA Y) Y (Qm Y (An ?_)))))));refine Am (x.c.sd.length-(k+1)) _ (by omega) ⟨k+1,Y,Y,Y,Y,by omega,?_⟩ Qs;rw[List.take_add_one,List.take_add_one,he,List.getElem?_eq_getElem hka,List.getElem?_eq_getElem hkb,Decidable.not_not.1 hne]
    ·have hke:k=x.c.sd.length:=by omega
     rw[take_of_length_le (by omega),take_of_length_le (by omega)]at he;have hxy:x.c=y.c:=(hcl _ _).2 ⟨Decidable.not_not.1 c1,Decidable.not_not.1 c2,he⟩;refine Ay (Aa (Aa (Ag (Ab (Aw (Qm Y (Ap (Aq ?_))))))));exact Az Y Y (by rw[decide_eq_true hxy])
theorem Aad(a b:List Ce)(va vb:Value)(h:Hp)(hKa:RgC a)(hKb:RgC b)(hA:RdC h va a)(hB:RdC h vb b)(ms:List Hp):FnV Tryz.prog 31 #[.agg #[va],.agg #[vb]] h ms (.bool (decide (cn a=cn b))):=by
 refine EX ?_ ms;have oa:=hA.q.rd.one;have ob:=hB.q.rd.one;refine Av func31 ntmps31 Y Y (λw0 hw0=>?_);simp only[A3];refine Aw (AY [_] Y Y (by rfl) Y Y Y (λg2=>AY [_] Y Y (by rfl) Y Y Y (λg3=>Qm Y (Ap (AB λh1 l1 hS3=>(AB λh2 l2 hS2=>?_))))));have l12:=AI l1 l2;have hA:=hA.up l12;have hB:=hB.up l12;refine Aw (Qx (oG Y BJ AO (Seg.any hS2)) Y (Qc call83 Y (Pf a va _ hKa.r.cs hA) (λrA h4 ms4 l4 hQ=>?_)));obtain⟨l4',mA,A,vA,rfl,rfl,hOA,hAl,hsA⟩:=hQ;refine Qx (Cp Y BJ Y A9 Y Y Y) Y (Qm Y (Ap (Bu hOA λh5 l5 hRA=>?_)));have l25:=AI l4' l5;have hS3:=hS3.le (AI l2 l25);refine Aw (Qx (oG Y BJ AO (Seg.any hS3)) Y (Qc call83 Y (Pf b vb _ hKb.r.cs (hB.up l25)) (λrB h6 ms6 l6 hQ=>?_)));obtain⟨l6',mB,B,vB,rfl,rfl,hOB,hBl,hsB⟩:=hQ;refine Qx (Cp Y BJ Y A9 Y Y Y) Y (Qm Y (Ap (Bu hOB λh7 l7 hRB=>?_)));have l57:=AI l6' l7;have hRA:=hRA.up l57;have hsA:=λa ha=>(hsA a ha).up (AI l5 l57);have hsB:=λa ha=>(hsB a ha).up l7;have oA_:=hRA.rd.one;have oB:=hRB.rd.one;have la:=hRA.len_le;have lb:=hRB.len_le;change A.map Ce.c=cn a at hAl;change B.map Ce.c=cn b at hBl;rw[<-hAl,<-hBl];refine Ac (Aw (Qm Y (Qx (As hRA.rd.any Y A9 Y) Y (Qm Y (Qx (As hRB.rd.any Y A9 Y) Y (Qm Y (Ap ?_)))))));refine Ax Y (λhne=>?_) (λhne=>?_)
 ·refine Ac (Ad (Qm Y (Ap (Aq (Ae ?_)))));exact Az Y Y (by rw[decide_eq_false];intro e;have:=congrArg List.length e;rw[length_map,length_map]at this;exact hne (by rw[this]))
 ·have hl:A.length=B.length:=by omega
  refine Aj (Ab (Ac (Aw (Qm Y (Ap (Ah ?_))))))
  refine AD (λq s h' ms'=>∃(k:Nat),q=A.length-k/\s=[(5,vA),(6,vB),(7,.int .i64 k)]/\h7=h'/\ms'=[]/\k<=A.length/\(A.map Ce.c).take k=(B.map Ce.c).take k)
   (A.length-0) _ ⟨0,rfl,rfl,rfl,rfl,by omega,rfl⟩ Qs ?_
  rintro q s h' ms' ⟨k,rfl,rfl,rfl,rfl,hk,he⟩;refine Ac (Aw (Qm Y (Qm Y (Qx (As hRA.rd.any Y A9 Y) Y (Qm Y (Ap ?_))))));refine Ax Y (λhlt=>?_) (λhlt=>?_)
  ·have hka:k<A.length:=Gq hlt;have hkb:k<B.length:=by omega
   have hxa:=hsA _ (getElem_mem hka);have hxb:=hsB _ (getElem_mem hkb);have oxa:=hxa.rd.one;have oxb:=hxb.rd.one;have ca:∀ms,Seg h7 ms ((AJ vA).add (k*3)) (cC A[k]):=λms=>(hRA.any (ms:=ms)).seg hka;have cb:∀ms,Seg h7 ms ((AJ vB).add (k*3)) (cC B[k]):=λms=>(hRB.any (ms:=ms)).seg hkb;have hsm:=Ve A[k] B[k] h7 hxa hxb;refine Aj (Ab (Ac (Ah (Ac (Bc 8 CZ (by kernel_rfl) Y (Wm Y (Wm Y (AW (BH (k) hRA.rd.any Y A9 AL Y Y) Y Y (AW (oG Y D1 AL (ca _)) Y Y (Wm Y (Wm Y (AW (BH (k) hRB.rd.any Y A9 AL Y Y) Y Y (AW (oG Y D1 AL (cb _)) Y Y (A4 (Qx (AR Y call84 Y (hsm _)) Y (Qm Y (BN (Qm Y (Qm Y (Ap ?_))))))))))))))))))));refine Bz Y (λhc=>?_) (λhc=>?_)
   ·have hnc:A[k].c≠B[k].c:=λe=>by rw[decide_eq_true e]at hc;cases hc
    refine Aw (Qm Y (Ap (Aq (Al (Ae (Ae (Al (Ae ?_))))))));exact Az Y Y (by rw[decide_eq_false];intro e;have:=congrArg (λl=>l[k]?) e;simp only[List.getElem?_map,List.getElem?_eq_getElem hka,List.getElem?_eq_getElem hkb,Option.map_some,Option.some.injEq]at this;exact hnc this)
   ·have hcc:A[k].c=B[k].c:=Classical.byContradiction λe=>by rw[decide_eq_false e]at hc;cases hc
    refine Aj (Ak (Ab (Ad (Qm Y (Qx (oA Y) Y (Qm Y (An ?_)))))));refine Am (A.length-(k+1)) _ (by omega) ⟨k+1,Y,Y,Y,Y,by omega,?_⟩ Qs;rw[List.take_add_one,List.take_add_one,he,List.getElem?_map,List.getElem?_map,List.getElem?_eq_getElem hka,List.getElem?_eq_getElem hkb,Option.map_some,Option.map_some,hcc]
  ·obtain rfl:k=A.length:=by omega
   refine Ay (Aa (Aa (Ag (Ab (Aw (Qm Y (Ap (Aq ?_))))))));exact Az Y Y (by rw[take_of_length_le (by rw[length_map];omega),take_of_length_le (by rw[length_map];omega)]at he;rw[decide_eq_true he])
theorem Pg(l:List Ce)(F:List (Int×Int))(v vf:Value)(t:Int)(hp:Hp)(hK:RgC l)(hR:RdC hp v l)(hF:RdL cV 2 hp [] vf F)(hV:Ls F)(hn:(F.map Prod.fst).Nodup)(h0:Fz (cn l) F=(0,0)):FnT Tryz.prog 32 #[.agg #[v],vf,.int .i64 t] hp [] (λr h' ms'=>hp.le h'/\∃m A v',ms'=[m]/\r=.agg #[v']/\OwnL cC 3 52 m v' A/\A.map Ce.c=Dm F t (cn l)/\∀a∈A,RdL cD 2 h' [] a.v a.c.sd):=by
 have o1:=hR.q.rd.one;have o2:=hF.rd.one;have hln:l.length<=4000:=by have:=hK.F.rgt.n;rwa [C6]at this
 refine Av func32 ntmps32 Y Y (λw0 hw0=>?_);simp only[A3];refine Aw (AY [_] Y Y (by rfl) Y Y Y (λg3=>By [.slice none 0 0] Y AO Y Y (λg6=>Ap (Bk 1 Y λh1 l1 hS=>?_))));have hR:=hR.up l1;have hF:=hF.up l1;have hck:=λms=>EX (Qy l F v vf h1 hK hR hF hV) ms;rw[h0]at hck;refine Aw (Qx (oG Y BJ AO (Seg.any hS)) Y (Qm Y (Qx (AR Y call25 Y (hck _)) Y (Qm Y (Qm Y (Qm Y (Qm Y (Qm Y (BN (By [.slice none 0 0] Y AO Y Y (λg9=>Ap (Ac (Aw (Qm Y (Qm Y (Ap (Ax Y (λhc=>absurd hc (λh=>h Y)) (λhc=>Aj (Ab (Aw (Qx (oG Y BJ AO (Seg.any hS)) Y (Qc call49 Y (Fm l v h1 hK.r.cs hR) (λrA h3 ms3 l3 hQ=>?_)))))))))))))))))))))));obtain⟨l3',mA,A,rfl,hOA,hA,hsA⟩:=hQ;rw[Et hK.r]at hA;have hcn:A.map Ce.c=cn l:=hA;have oA0:=hOA.o1;refine Qm Y (Ap (Bu hOA λh4 l4 hQ=>?_));have hsA:=λa ha=>(hsA a ha).up l4;have hF:=hF.up (AI l3 l4);have oA_:=hQ.rd.one;have hAn:A.length<=4000:=by have:=congrArg List.length hcn;rw[length_map,C6]at this;omega
 have hvv:∀c ms,FnV Tryz.prog 71 #[vf,.int .i64 c] h4 ms (.tuple #[.int .i64 (Dn (BI F) c),.bool (Im F c).isSome]):=λc ms=>by
  have:=Jh F vf c h4 hF ms
  rwa [show(Im F c).getD 0=Dn (BI F) c from J9 hn c]at this
 refine Ac (Aw (Qm Y (Ap (Ah (BO ?_)))))
 refine AD (λq sl h' ms'=>∃(i:Nat) (vO:Value) (mO:Hp) (O:List Ce),q=A.length-i/\sl=[(1,vf),(2,.int .i64 t),(6,.pointer (some ⟨g6,0,none⟩)),(9,.pointer (some ⟨g9,0,none⟩)),(10,rA),(11,.int .i64 i)]/\h4=h'/\ms'=[mO,Bw g9 29 [vO],Bw g6 29 [.slice none 0 0]]/\i<=A.length/\OwnL cC 3 52 mO vO O/\O.map Ce.c=Dm F t ((A.take i).map Ce.c)/\O.length<=i/\∀a∈O,RdL cD 2 h4 [] a.v a.c.sd)
  (A.length-0) _ ⟨0,_,Hp.emp,[],rfl,rfl,rfl,rfl,by omega,OwnL.nil Cc,rfl,by simp,λa ha=>nomatch ha⟩ Qs ?_
 rintro q sl h' ms' ⟨i,vO,mO,O,rfl,rfl,rfl,rfl,hi,hO,hOc,hOl,hOs⟩;have ovO:=hO.o1;refine Ac (Aw (Qm Y (Qm Y (Qx (As hQ.rd.any Y A9 Y) Y (Qm Y (Ap ?_))))));refine Ax Y (λhlt=>?_) (λhlt=>?_)
 ·have hil:i<A.length:=by omega
  have hX:=hsA _ (getElem_mem hil);have oX:=hX.rd.one;have c0:∀ms,Cell h4 ms (((AJ rA).add (i*3)).add 0) (.int .i64 A[i].c.id):=λms=>(hQ.any (ms:=ms)).cell hil (f:=0) Y;have sx:∀ms,Seg h4 ms ((AJ rA).add (i*3)) (cC A[i]):=λms=>(hQ.any (ms:=ms)).seg hil
  have hsn:Dm F t ((A.take (i+1)).map Ce.c)=Dm F t ((A.take i).map Ce.c)++(if Dn (BI F) A[i].c.id<=t then [A[i].c] else []):=by
   rw[List.take_succ_eq_append_getElem hil,map_append];unfold Dm;rw[List.filter_append];congr 1;simp only[map_cons,List.map_nil,List.filter_cons,List.filter_nil];by_cases h:Dn (BI F) A[i].c.id<=t
   ·rw[if_pos h,if_pos (decide_eq_true h)]
   ·rw[if_neg h,if_neg (by rw[decide_eq_false h];decide)]
  refine Aj (Ab ?_);refine A8 (λsl h' ms'=>∃(vO:Value) (mO:Hp) (O:List Ce),sl=[(1,vf),(2,.int .i64 t),(6,.pointer (some ⟨g6,0,none⟩)),(9,.pointer (some ⟨g9,0,none⟩)),(10,rA),(11,.int .i64 i)]/\h4=h'/\ms'=[mO,Bw g9 29 [vO],Bw g6 29 [.slice none 0 0]]/\OwnL cC 3 52 mO vO O/\O.map Ce.c=Dm F t ((A.take (i+1)).map Ce.c)/\O.length<=i+1/\∀a∈O,RdL cD 2 h4 [] a.v a.c.sd) ?_ (λs h ms hI=>?_)
  ·refine Ah (Aw (Qm Y (Qm Y (Qm Y (Qx (BH (i) hQ.rd.any Y A9 AL Y Y) Y (Qf Bq Y (Ql Y U3 (c0 _) (Qx (AR Y call71 Y (hvv _ _)) Y (Qm Y (Qm Y (Qm Y (Qm Y (Qm Y (BN (Qm Y (Qm Y (Qm Y (Ap ?_))))))))))))))))));refine Ax Y (λhle=>?_) (λhle=>?_)
   ·rw[if_pos hle]at hsn;refine BK (n:=10) (bs:=[true,false,true,true,true,true,false,false,true,false]) [true,false,true,true,true,true,false,false,true] CZ (by kernel_rfl) (by kernel_rfl) Y Y (QF B3 Y (Qq Y (Qq Y (Qp Y (BH (i) hQ.rd.any Y A9 AL Y Y) (Qp Y (oG Y D1 AL (sx _)) (QF B3 Y ?_))))));unfold FK;simp only[cons_append,nil_append];refine AG [1,6] (by kernel_rfl) Y ?_;refine Ai Y ?_ ?_
    ·refine Ql Y A9 (Cell.blk 1 Y Y) (Qw (Qo 6 Y (Ar [_,_,_] Y A9 AL Y (by rfl) Y Y (by omega) Y Y Y (λg50=>Qw (Qo 7 Y ?_)))));refine A6 1 hO (RdL.one Cc (x:=A[i]) Mh Y) Y A9 AL Y (by omega) Y Y Y (C5 (l:=[A[i]]) (h:=h4) λy hy=>by rw[List.mem_singleton.1 hy];exact hX) (by(try simp only[length_singleton]);omega) (by(try simp only[length_singleton]);omega) rfl rfl rfl (λv9 m9 hO9=>?_);have ov9:=hO9.o1;refine Qw (Qo 9 Y ?_);refine Af 2 _ Y IK Y Y (by assumption) Y Y (by(simp;done)) rfl rfl ?_;refine Qw (Qe (AS (Ak ?_)));exact Ao _ ⟨v9,m9,O++[A[i]],Y,Y,Y,hO9,by rw[map_append,hOc,hsn];rfl,by simp;omega,RdC.snoc' hOs hX⟩ Qs
    refine Ai Y ?_ ?_
    ·refine Ar [_,_,_] Y A9 AL Y (by rfl) Y Y (by omega) Y Y Y (λg50=>Qw (Qo 1 Y (Ql Y A9 (Cell.blk 2 Y Y) (Qw (Qo 7 Y ?_)))));refine A6 1 hO (RdL.one Cc (x:=A[i]) Mh Y) Y A9 AL Y (by omega) Y Y Y (C5 (l:=[A[i]]) (h:=h4) λy hy=>by rw[List.mem_singleton.1 hy];exact hX) (by(try simp only[length_singleton]);omega) (by(try simp only[length_singleton]);omega) rfl rfl rfl (λv9 m9 hO9=>?_);have ov9:=hO9.o1;refine Qw (Qo 9 Y ?_);refine Af 2 _ Y IK Y Y (by assumption) Y Y (by(simp;done)) rfl rfl ?_;refine Qw (Qe (AS (Ak ?_)));exact Ao _ ⟨v9,m9,O++[A[i]],Y,Y,Y,hO9,by rw[map_append,hOc,hsn];rfl,by simp;omega,RdC.snoc' hOs hX⟩ Qs
    exact AH
   ·rw[if_neg hle,List.append_nil]at hsn;refine Aj (Ak ?_);exact Ao _ ⟨vO,mO,O,Y,Y,Y,hO,by rw[hOc,hsn],by omega,hOs⟩ Qs
  ·obtain⟨vO,mO,O,rfl,rfl,rfl,hO,hOc,hOl,hOs⟩:=hI;refine Ad (Qm Y (Qx (oA Y) Y (Qm Y (An ?_))));exact Am (A.length-(i+1)) _ (by omega) ⟨i+1,vO,mO,O,Y,Y,Y,Y,by omega,hO,hOc,hOl,hOs⟩ Qs
 ·obtain rfl:i=A.length:=by omega
  rw[take_length,hcn]at hOc;refine Ay (Aa (Aa (Ag (Ab (Aw (Qx (oG Y BJ AO (Seg.blk 1 Y)) Y ?_))))));refine Sa 2 [_] AO Y (by simp[o1,o2,oA_,ovO]) ?_;refine Ap (Aq (Bd 1 Y ?_));exact BB (vs:=[_]) 1 Y Y BJ Y AO Y Y (⟨AI l1 (AI l3' l4),mO,O,_,Y,Y,hO,hOc,hOs⟩)
theorem W4(x:Ce)(U W:List Ce)(ga gb gt gu:Nat)(h:Hp)(ha:∀ms,Cell h ms (⟨ga,0,none⟩:Addr) (.pointer (some ⟨gt,0,none⟩)))(hb:∀ms,Cell h ms (⟨gb,0,none⟩:Addr) (.pointer (some ⟨gu,0,none⟩)))(RU:RdT h gt U)(RW:RdT h gu W)(ndU:((U.map Ce.c).map Cl.id).Nodup)(ndW:((W.map Ce.c).map Cl.id).Nodup)(hn:∀y∈U,y.c.sd.length<=1000000)(hi:∀y∈U,∀s∈y.c.sd,BP s.1)(hid:∀a∈U,BP a.c.id)(hsub:∀y∈U,∃z∈W,z.c=y.c)(hx:x∈U)(ms:List Hp) :
  FnV Tryz.prog 81 ([]++[Value.agg (cC x).toArray]++[Value.pointer (some ⟨ga,0,none⟩),.pointer (some ⟨gb,0,none⟩)]).toArray h ms (.bool true):=by
 refine EX ?_ ms;have hnU:(U.map λa=>a.c.id).Nodup:=by rw[map_map]at ndU;exact ndU
 have hnW:(W.map λa=>a.c.id).Nodup:=by rw[map_map]at ndW;exact ndW
 obtain⟨_,_,_,_,_,_,_,_,hsU⟩:=id RU;have ox:=(hsU x hx).rd.one;show FnT _ _ #[.agg #[.int .i64 x.c.id,.int .i64 x.c.dim,x.v],.pointer (some ⟨ga,0,none⟩),.pointer (some ⟨gb,0,none⟩)] _ _ _;refine Av func81 ntmps81 Y Y (λw0 hw0=>?_);simp only[A3];refine Aw (AY [_,_,_] Y Y (by rfl) Y Y Y (λg3=>Qm Y (Ap (AB λh1 l1 hS3=>?_))));have a1:∀h',h1.le h'->∀ms,Cell h' ms (⟨ga,0,none⟩:Addr) (.pointer (some ⟨gt,0,none⟩)):=λh' l' ms=>(ha ms).le (AI l1 l');have b1:∀h',h1.le h'->∀ms,Cell h' ms (⟨gb,0,none⟩:Addr) (.pointer (some ⟨gu,0,none⟩)):=λh' l' ms=>(hb ms).le (AI l1 l');have x0:∀ms,Cell h1 ms (⟨g3,0,none⟩:Addr) (.int .i64 x.c.id):=λms=>Seg.all hS3 0 _ Y ms;refine Ac (Aw (Ql Y UN (a1 _ (B8) _) (Qf Bq Y (Ql Y U3 (x0 _) (Ar [_] Y A0 Ba Y (by rfl) Y Y (by omega) Y Y Y (λg11=>A5 (OwnL.blk (g:=g11) (el:=3) (F:=cI) (l:=[x.c.id]) 1 Bl Y (by decide)) λh2 l2 hLi=>?_))))));refine Qc call82 Y (N8 U gt [x.c.id] _ h2 ndU (RU.up (AI l1 l2)) hn hi hLi (by simp) (λc hc=>by rw[List.mem_singleton.1 hc];exact hid x hx)) (λrM h3 ms3 l3 hQ=>?_);obtain⟨l3',gS,mS,T,bs,rfl,rfl,hOM,hC⟩:=hQ;refine AN λh4 l4 lM=>?_;have l14:=AI l2 (AI l3 l4);obtain⟨gmU,mU,bU,vU,hSU,hMU,lMU,hVU,hsU⟩:=RU.up (AI l1 l14);obtain⟨gmW,mW,bW,vW,hSW,hMW,lMW,hVW,hsW⟩:=RW.up (AI l1 l14);refine Hv hOM lM Y PL Y Y Y Y (λgi mi0 I0=>Ap (Ah ?_))
 refine AD (λq sl h' ms'=>∃(vis:List Nat) (mi:Hp),T.length-vis.length=q/\sl=[(1,.pointer (some ⟨ga,0,none⟩)),(2,.pointer (some ⟨gb,0,none⟩)),(13,.pointer (some ⟨gi,0,none⟩))]/\h4.le h'/\ms'=[mi]/\He gi gS mS mi bs vis)
  (T.length-0) _ ⟨[],mi0,rfl,rfl,B8,rfl,I0⟩ Qs ?_
 rintro q sl h5 ms' ⟨vis,mi,rfl,rfl,l5,rfl,I⟩;have lM5:=AI lM l5;have lMU:=AI lMU l5;have lMW:=AI lMW l5;have eU:∀h',h5.le h'->∀ms,Cell h' ms (⟨gt,0,none⟩:Addr) (.map (some gmU)):=λh' l' ms=>(Seg.all hSU 0 _ Y ms).le (AI l5 l');have eW:∀ms,Cell h5 ms (⟨gu,0,none⟩:Addr) (.map (some gmW)):=λms=>(Seg.all hSW 0 _ Y ms).le l5;refine Aw ?_;refine IM 0 hOM I lM5 Y Y Y Y Y Y (λhall=>?_) (λj hj mi' hjv I'=>?_)
 ·refine Qm Y (Ap (Ac (AV Y (Ay (Aa (Aa (Ag (Ab (Aw (Qm Y (Ap (Aq (AS ?_)))))))))))));exact Az Y Y (Y)
 ·have hkey:(T[j]).1∈DH T:=List.mem_map.2 ⟨T[j],getElem_mem hj,Y⟩
  obtain⟨y,hy,ey⟩:∃y∈U,y.c.id=(T[j]).1:=by have:=hC.mem _ hkey;rw[map_map]at this;obtain⟨y,hy,e⟩:=List.mem_map.1 this;exact⟨y,hy,e⟩
  obtain⟨z,hz,ez⟩:=hsub y hy;obtain⟨c,hc⟩:∃c,(T[j]).1=c:=⟨_,Y⟩
  rw[hc]at ey hkey;have hcI:BP c:=by rw[<-ey];exact hid y hy
  have gU:Bj (E4 U) c=some y:=by rw[<-ey];exact G4 hnU hy
  have gW:Bj (E4 W) c=some z:=by rw[<-ey,<-ez];exact G4 hnW hz
  have hY:=(hsU y hy).up l5;have hZ:=(hsW z hz).up l5;have oy:=hY.rd.one;have oz:=hZ.rd.one;refine Qm Y (Ap (Ac (BD Y (Aj (Ab (Ah (Aw (Qx (Hu hOM I' lM5 (by simp) hj rfl rfl) rfl ?_))))))));rw[hc];refine Qm Y (Qm Y (BN (Ql Y UN (b1 _ (AI l14 l5) _) (Qm Y (Qf DO Y (Ql Y EY (eW _) (Qm Y ?_)))))));refine Qx (DD (V:=vC) (z:=(default:Ce)) (u:=z) (b:=true) c (by rw[gW];rfl) (by rw[gW];rfl) Bh hMW lMW rfl EY HK rfl rfl hcI) rfl ?_;refine Qm Y (Qm Y (Qm Y (By [.int .i64 0,.int .i64 0,.slice none 0 0] Y AL Y Y (λg6=>?_))));refine Sa 0 [_,_,_] AL Y (by simp[ox,oy,oz]) ?_;refine Qm Y (Ap (AB λh6 l6 hS6=>?_));have s6:∀ms,Seg h6 ms (⟨g6,0,none⟩:Addr) (cC z):=λms=>hS6.any;have hsm:=Ru y z h6 (hY.up l6) (hZ.up l6);rw[decide_eq_true ez.symm]at hsm;refine Ac (Bc 10 CZ (by kernel_rfl) Y (Wm Y (Wm Y (Wm Y (AP (oL Y UN (a1 _ (AI l14 (AI l5 l6)) _)) Y Y Y Y (AP (Jv Y Y) Y Y Y Y (AP (oF DO Y) Y Y Y Y (AP (oL Y EY (eU _ l6 _)) Y Y Y Y (AP (AC Y Y) Y Y Y Y ?_)))))))));refine AP (B9 (V:=vC) (z:=(default:Ce)) (u:=y) c (by rw[gU];rfl) Bh hMU (AI lMU l6) rfl EY HK rfl rfl hcI) rfl rfl rfl rfl ?_;refine AP (oG Y D1 AL (s6 _)) Y Y Y Y (A4 (Qg (AR Y call79 Y (hsm _)) Y (Qg (Gj Y Y) Y (Qm Y (Ap (AV Y (Aj (Ak ?_))))))))
  have hlt:vis.length<T.length:=by
   have h1:=Go.Kuhn.nodup_le (vis++[j]) (range T.length) I'.nodup λx hx=>by rw[List.mem_range,<-hOM.len];exact I'.lt x hx
   simp at h1;omega
  exact Am (T.length-(vis.length+1)) _ (by omega) ⟨vis++[j],mi',by simp,rfl,AI l5 l6,rfl,I'⟩ Qs
theorem Yq(a b:List Ce)(va vb:Value)(h:Hp)(hKa:RgC a)(hKb:RgC b)(hA:RdC h va a)(hB:RdC h vb b)(hsub:∀y∈cn a,y∈cn b):FnT Tryz.prog 30 #[.agg #[va],.agg #[vb]] h [] (λr h' ms'=>h.le h'/\∃m A v',ms'=[m]/\r=.agg #[v']/\OwnL cC 3 52 m v' A/\A.map Ce.c=cn a/\∀x∈A,RdL cD 2 h' [] x.v x.c.sd):=by
 have oa:=hA.q.rd.one;have ob:=hB.q.rd.one;refine Av func30 ntmps30 Y Y (λw0 hw0=>?_);simp only[A3];refine Aw (AY [_] Y Y (by rfl) Y Y Y (λg2=>AY [_] Y Y (by rfl) Y Y Y (λg3=>By [.slice none 0 0] Y AO Y Y (λg4=>Ap (Bk 1 Y λh1 l1 hS3=>(Bk 1 Y λh2 l2 hS2=>?_))))));have l12:=AI l1 l2;have hA:=hA.up l12;have hB:=hB.up l12;have s2:∀h',h2.le h'->∀ms,Seg h' ms (⟨g2,0,none⟩:Addr) [va]:=λh' l' ms=>(hS2.le l').any;have s3:∀h',h2.le h'->∀ms,Seg h' ms (⟨g3,0,none⟩:Addr) [vb]:=λh' l' ms=>(hS3.le (AI l2 l')).any;refine A8 (λsl h' ms'=>∃(g5 g6 gt gu:Nat) (U W:List Ce),sl=[(4,.pointer (some ⟨g4,0,none⟩)),(5,.pointer (some ⟨g5,0,none⟩)),(6,.pointer (some ⟨g6,0,none⟩))]/\h2.le h'/\ms'=[Bw g6 116 [.pointer (some ⟨gu,0,none⟩)],Bw g5 116 [.pointer (some ⟨gt,0,none⟩)],Bw g4 29 [.slice none 0 0]]/\RdT h' gt U/\RdT h' gu W/\U.map Ce.c=cn a/\W.map Ce.c=cn b) ?_ (λs h ms hI=>?_)
 ·refine BK (n:=8) (bs:=[false,false,false,false,false,false,false,false]) [] CZ (by kernel_rfl) (by kernel_rfl) Y Y ?_;unfold FK;simp only[cons_append,nil_append];refine AG [0,2,4,5] (by kernel_rfl) Y ?_;refine Ai Y ?_ ?_
  ·refine Qx (oG Y BJ AO (s2 _ (B8) _)) Y (Qw (AG [1,2,4,5] (by kernel_rfl) Y ?_));refine Ai Y ?_ ?_
   ·refine Qc call64 Y (AK a va h2 hKa hA) (λr1 h4 ms4 l4 hQ=>?_);obtain⟨l4',rfl,gt,U,rfl,hU,RU⟩:=hQ;refine Qa (AG [2,4,5] (by kernel_rfl) Y ?_);refine Ai Y ?_ ?_
    ·refine Qx (oG Y BJ AO (s3 _ (by assumption) _)) Y (Qa (AG [3,4,5] (by kernel_rfl) Y ?_));refine Ai Y ?_ ?_
     ·refine Qc call64 Y (AK b vb h4 hKb (hB.up l4)) (λr2 h6 ms6 l6 hQ=>?_);obtain⟨l6',rfl,gu,W,rfl,hW,RW⟩:=hQ;have l26:=AI l4 l6;refine Qa (AG [4,5] (by kernel_rfl) Y ?_);refine Ai Y ?_ ?_
      ·refine By [.pointer none] Y Au Y Y (λg5=>Qa (Qo 5 Y (By [.pointer none] Y Au Y Y (λg6=>Qa (Qo 6 Y (Af 1 0 Y Au Y Y (by rfl) Y Y (by decide) Y Y (Qa (Qo 7 Y (Af 0 0 Y Au Y Y (by rfl) Y Y (by decide) Y Y (Qa (Qe ?_)))))))))));exact Ao _ ⟨_,_,gt,gu,U,W,Y,l26,Y,RU.up l6,RW,hU,hW⟩ Qs
      refine Ai Y ?_ ?_
      ·refine By [.pointer none] Y Au Y Y (λg6=>Qa (Qo 4 Y (By [.pointer none] Y Au Y Y (λg5=>Qa (Qo 6 Y (Af 0 0 Y Au Y Y (by rfl) Y Y (by decide) Y Y (Qa (Qo 7 Y (Af 1 0 Y Au Y Y (by rfl) Y Y (by decide) Y Y (Qa (Qe ?_)))))))))))
       (refine Bi ?_;exact Ao _ ⟨_,_,gt,gu,U,W,Y,l26,Y,RU.up l6,RW,hU,hW⟩ Qs)
      exact AH
     refine Ai Y ?_ ?_
     ·refine By [.pointer none] Y Au Y Y (λg5=>Qa (AG [3,5] (by kernel_rfl) Y ?_));refine Ai Y ?_ ?_
      ·refine Qc call64 Y (AK b vb h4 hKb (hB.up l4)) (λr2 h6 ms6 l6 hQ=>?_);obtain⟨l6',rfl,gu,W,rfl,hW,RW⟩:=hQ;have l26:=AI l4 l6;refine Qa (Qo 5 Y (By [.pointer none] Y Au Y Y (λg6=>Qa (Qo 6 Y (Af 1 0 Y Au Y Y (by rfl) Y Y (by decide) Y Y (Qa (Qo 7 Y (Af 0 0 Y Au Y Y (by rfl) Y Y (by decide) Y Y (Qa (Qe ?_))))))))));exact Ao _ ⟨_,_,gt,gu,U,W,Y,l26,Y,RU.up l6,RW,hU,hW⟩ Qs
      refine Ai Y ?_ ?_
      ·refine By [.pointer none] Y Au Y Y (λg6=>Qa (Qo 3 Y (Qc call64 Y (AK b vb h4 hKb (hB.up l4)) (λr2 h6 ms6 l6 hQ=>?_))));obtain⟨l6',rfl,gu,W,rfl,hW,RW⟩:=hQ;have l26:=AI l4 l6;refine Qa (Qo 6 Y (Af 1 0 Y Au Y Y (by rfl) Y Y (by decide) Y Y (Qa (Qo 7 Y (Af 0 0 Y Au Y Y (by rfl) Y Y (by decide) Y Y (Qa (Qe ?_)))))));exact Ao _ ⟨_,_,gt,gu,U,W,Y,l26,Y,RU.up l6,RW,hU,hW⟩ Qs
      exact AH
     refine Ai Y ?_ ?_
     ·refine By [.pointer none] Y Au Y Y (λg6=>Qa (AG [3,4] (by kernel_rfl) Y ?_));refine Ai Y ?_ ?_
      ·refine Qc call64 Y (AK b vb h4 hKb (hB.up l4)) (λr2 h6 ms6 l6 hQ=>?_);obtain⟨l6',rfl,gu,W,rfl,hW,RW⟩:=hQ;have l26:=AI l4 l6;refine Qa (Qo 4 Y (By [.pointer none] Y Au Y Y (λg5=>Qa (Qo 6 Y (Af 0 0 Y Au Y Y (by rfl) Y Y (by decide) Y Y (Qa (Qo 7 Y (Af 1 0 Y Au Y Y (by rfl) Y Y (by decide) Y Y (Qa (Qe ?_))))))))))
       (refine Bi ?_;exact Ao _ ⟨_,_,gt,gu,U,W,Y,l26,Y,RU.up l6,RW,hU,hW⟩ Qs)
      refine Ai Y ?_ ?_
      ·refine By [.pointer none] Y Au Y Y (λg5=>Qa (Qo 3 Y (Qc call64 Y (AK b vb h4 hKb (hB.up l4)) (λr2 h6 ms6 l6 hQ=>?_))));obtain⟨l6',rfl,gu,W,rfl,hW,RW⟩:=hQ;have l26:=AI l4 l6;refine Qa (Qo 6 Y (Af 0 0 Y Au Y Y (by rfl) Y Y (by decide) Y Y (Qa (Qo 7 Y (Af 1 0 Y Au Y Y (by rfl) Y Y (by decide) Y Y (Qa (Qe ?_)))))))
       (refine Bi ?_;exact Ao _ ⟨_,_,gt,gu,U,W,Y,l26,Y,RU.up l6,RW,hU,hW⟩ Qs)
      exact AH
     exact AH
    refine Ai Y ?_ ?_
    ·refine By [.pointer none] Y Au Y Y (λg5=>Qa (AG [2,5] (by kernel_rfl) Y ?_));refine Ai Y ?_ ?_
     ·refine Qx (oG Y BJ AO (s3 _ (by assumption) _)) Y (Qa (AG [3,5] (by kernel_rfl) Y ?_));refine Ai Y ?_ ?_
      ·refine Qc call64 Y (AK b vb h4 hKb (hB.up l4)) (λr2 h6 ms6 l6 hQ=>?_);obtain⟨l6',rfl,gu,W,rfl,hW,RW⟩:=hQ;have l26:=AI l4 l6;refine Qa (Qo 5 Y (By [.pointer none] Y Au Y Y (λg6=>Qa (Qo 6 Y (Af 1 0 Y Au Y Y (by rfl) Y Y (by decide) Y Y (Qa (Qo 7 Y (Af 0 0 Y Au Y Y (by rfl) Y Y (by decide) Y Y (Qa (Qe ?_))))))))));exact Ao _ ⟨_,_,gt,gu,U,W,Y,l26,Y,RU.up l6,RW,hU,hW⟩ Qs
      refine Ai Y ?_ ?_
      ·refine By [.pointer none] Y Au Y Y (λg6=>Qa (Qo 3 Y (Qc call64 Y (AK b vb h4 hKb (hB.up l4)) (λr2 h6 ms6 l6 hQ=>?_))));obtain⟨l6',rfl,gu,W,rfl,hW,RW⟩:=hQ;have l26:=AI l4 l6;refine Qa (Qo 6 Y (Af 1 0 Y Au Y Y (by rfl) Y Y (by decide) Y Y (Qa (Qo 7 Y (Af 0 0 Y Au Y Y (by rfl) Y Y (by decide) Y Y (Qa (Qe ?_)))))));exact Ao _ ⟨_,_,gt,gu,U,W,Y,l26,Y,RU.up l6,RW,hU,hW⟩ Qs
      exact AH
     refine Ai Y ?_ ?_
     ·refine By [.pointer none] Y Au Y Y (λg6=>Qa (Qo 2 Y (Qx (oG Y BJ AO (s3 _ (by assumption) _)) Y (Qa (Qo 3 Y (Qc call64 Y (AK b vb h4 hKb (hB.up l4)) (λr2 h6 ms6 l6 hQ=>?_)))))));obtain⟨l6',rfl,gu,W,rfl,hW,RW⟩:=hQ;have l26:=AI l4 l6;refine Qa (Qo 6 Y (Af 1 0 Y Au Y Y (by rfl) Y Y (by decide) Y Y (Qa (Qo 7 Y (Af 0 0 Y Au Y Y (by rfl) Y Y (by decide) Y Y (Qa (Qe ?_)))))));exact Ao _ ⟨_,_,gt,gu,U,W,Y,l26,Y,RU.up l6,RW,hU,hW⟩ Qs
     exact AH
    refine Ai Y ?_ ?_
    ·refine By [.pointer none] Y Au Y Y (λg6=>Qa (AG [2,4] (by kernel_rfl) Y ?_));refine Ai Y ?_ ?_
     ·refine Qx (oG Y BJ AO (s3 _ (by assumption) _)) Y (Qa (AG [3,4] (by kernel_rfl) Y ?_));refine Ai Y ?_ ?_
      ·refine Qc call64 Y (AK b vb h4 hKb (hB.up l4)) (λr2 h6 ms6 l6 hQ=>?_);obtain⟨l6',rfl,gu,W,rfl,hW,RW⟩:=hQ;have l26:=AI l4 l6;refine Qa (Qo 4 Y (By [.pointer none] Y Au Y Y (λg5=>Qa (Qo 6 Y (Af 0 0 Y Au Y Y (by rfl) Y Y (by decide) Y Y (Qa (Qo 7 Y (Af 1 0 Y Au Y Y (by rfl) Y Y (by decide) Y Y (Qa (Qe ?_))))))))))
       (refine Bi ?_;exact Ao _ ⟨_,_,gt,gu,U,W,Y,l26,Y,RU.up l6,RW,hU,hW⟩ Qs)
      refine Ai Y ?_ ?_
      ·refine By [.pointer none] Y Au Y Y (λg5=>Qa (Qo 3 Y (Qc call64 Y (AK b vb h4 hKb (hB.up l4)) (λr2 h6 ms6 l6 hQ=>?_))));obtain⟨l6',rfl,gu,W,rfl,hW,RW⟩:=hQ;have l26:=AI l4 l6;refine Qa (Qo 6 Y (Af 0 0 Y Au Y Y (by rfl) Y Y (by decide) Y Y (Qa (Qo 7 Y (Af 1 0 Y Au Y Y (by rfl) Y Y (by decide) Y Y (Qa (Qe ?_)))))))
       (refine Bi ?_;exact Ao _ ⟨_,_,gt,gu,U,W,Y,l26,Y,RU.up l6,RW,hU,hW⟩ Qs)
      exact AH
     refine Ai Y ?_ ?_
     ·refine By [.pointer none] Y Au Y Y (λg5=>Qa (Qo 2 Y (Qx (oG Y BJ AO (s3 _ (by assumption) _)) Y (Qa (Qo 3 Y (Qc call64 Y (AK b vb h4 hKb (hB.up l4)) (λr2 h6 ms6 l6 hQ=>?_)))))));obtain⟨l6',rfl,gu,W,rfl,hW,RW⟩:=hQ;have l26:=AI l4 l6;refine Qa (Qo 6 Y (Af 0 0 Y Au Y Y (by rfl) Y Y (by decide) Y Y (Qa (Qo 7 Y (Af 1 0 Y Au Y Y (by rfl) Y Y (by decide) Y Y (Qa (Qe ?_)))))))
      (refine Bi ?_;exact Ao _ ⟨_,_,gt,gu,U,W,Y,l26,Y,RU.up l6,RW,hU,hW⟩ Qs)
     exact AH
    exact AH
   refine Ai Y ?_ ?_
   ·refine Qx (oG Y BJ AO (s3 _ (B8) _)) Y (Qw (AG [1,4,5] (by kernel_rfl) Y ?_));refine Ai Y ?_ ?_
    ·refine Qc call64 Y (AK a va h2 hKa hA) (λr1 h4 ms4 l4 hQ=>?_);obtain⟨l4',rfl,gt,U,rfl,hU,RU⟩:=hQ;refine Qa (AG [3,4,5] (by kernel_rfl) Y ?_);refine Ai Y ?_ ?_
     ·refine Qc call64 Y (AK b vb h4 hKb (hB.up l4)) (λr2 h6 ms6 l6 hQ=>?_);obtain⟨l6',rfl,gu,W,rfl,hW,RW⟩:=hQ;have l26:=AI l4 l6;refine Qa (AG [4,5] (by kernel_rfl) Y ?_);refine Ai Y ?_ ?_
      ·refine By [.pointer none] Y Au Y Y (λg5=>Qa (Qo 5 Y (By [.pointer none] Y Au Y Y (λg6=>Qa (Qo 6 Y (Af 1 0 Y Au Y Y (by rfl) Y Y (by decide) Y Y (Qa (Qo 7 Y (Af 0 0 Y Au Y Y (by rfl) Y Y (by decide) Y Y (Qa (Qe ?_)))))))))));exact Ao _ ⟨_,_,gt,gu,U,W,Y,l26,Y,RU.up l6,RW,hU,hW⟩ Qs
      refine Ai Y ?_ ?_
      ·refine By [.pointer none] Y Au Y Y (λg6=>Qa (Qo 4 Y (By [.pointer none] Y Au Y Y (λg5=>Qa (Qo 6 Y (Af 0 0 Y Au Y Y (by rfl) Y Y (by decide) Y Y (Qa (Qo 7 Y (Af 1 0 Y Au Y Y (by rfl) Y Y (by decide) Y Y (Qa (Qe ?_)))))))))))
       (refine Bi ?_;exact Ao _ ⟨_,_,gt,gu,U,W,Y,l26,Y,RU.up l6,RW,hU,hW⟩ Qs)
      exact AH
     refine Ai Y ?_ ?_
     ·refine By [.pointer none] Y Au Y Y (λg5=>Qa (AG [3,5] (by kernel_rfl) Y ?_));refine Ai Y ?_ ?_
      ·refine Qc call64 Y (AK b vb h4 hKb (hB.up l4)) (λr2 h6 ms6 l6 hQ=>?_);obtain⟨l6',rfl,gu,W,rfl,hW,RW⟩:=hQ;have l26:=AI l4 l6;refine Qa (Qo 5 Y (By [.pointer none] Y Au Y Y (λg6=>Qa (Qo 6 Y (Af 1 0 Y Au Y Y (by rfl) Y Y (by decide) Y Y (Qa (Qo 7 Y (Af 0 0 Y Au Y Y (by rfl) Y Y (by decide) Y Y (Qa (Qe ?_))))))))));exact Ao _ ⟨_,_,gt,gu,U,W,Y,l26,Y,RU.up l6,RW,hU,hW⟩ Qs
      refine Ai Y ?_ ?_
      ·refine By [.pointer none] Y Au Y Y (λg6=>Qa (Qo 3 Y (Qc call64 Y (AK b vb h4 hKb (hB.up l4)) (λr2 h6 ms6 l6 hQ=>?_))));obtain⟨l6',rfl,gu,W,rfl,hW,RW⟩:=hQ;have l26:=AI l4 l6;refine Qa (Qo 6 Y (Af 1 0 Y Au Y Y (by rfl) Y Y (by decide) Y Y (Qa (Qo 7 Y (Af 0 0 Y Au Y Y (by rfl) Y Y (by decide) Y Y (Qa (Qe ?_)))))));exact Ao _ ⟨_,_,gt,gu,U,W,Y,l26,Y,RU.up l6,RW,hU,hW⟩ Qs
      exact AH
     refine Ai Y ?_ ?_
     ·refine By [.pointer none] Y Au Y Y (λg6=>Qa (AG [3,4] (by kernel_rfl) Y ?_));refine Ai Y ?_ ?_
      ·refine Qc call64 Y (AK b vb h4 hKb (hB.up l4)) (λr2 h6 ms6 l6 hQ=>?_);obtain⟨l6',rfl,gu,W,rfl,hW,RW⟩:=hQ;have l26:=AI l4 l6;refine Qa (Qo 4 Y (By [.pointer none] Y Au Y Y (λg5=>Qa (Qo 6 Y (Af 0 0 Y Au Y Y (by rfl) Y Y (by decide) Y Y (Qa (Qo 7 Y (Af 1 0 Y Au Y Y (by rfl) Y Y (by decide) Y Y (Qa (Qe ?_))))))))))
       (refine Bi ?_;exact Ao _ ⟨_,_,gt,gu,U,W,Y,l26,Y,RU.up l6,RW,hU,hW⟩ Qs)
      refine Ai Y ?_ ?_
      ·refine By [.pointer none] Y Au Y Y (λg5=>Qa (Qo 3 Y (Qc call64 Y (AK b vb h4 hKb (hB.up l4)) (λr2 h6 ms6 l6 hQ=>?_))));obtain⟨l6',rfl,gu,W,rfl,hW,RW⟩:=hQ;have l26:=AI l4 l6;refine Qa (Qo 6 Y (Af 0 0 Y Au Y Y (by rfl) Y Y (by decide) Y Y (Qa (Qo 7 Y (Af 1 0 Y Au Y Y (by rfl) Y Y (by decide) Y Y (Qa (Qe ?_)))))))
       (refine Bi ?_;exact Ao _ ⟨_,_,gt,gu,U,W,Y,l26,Y,RU.up l6,RW,hU,hW⟩ Qs)
      exact AH
     exact AH
    refine Ai Y ?_ ?_
    ·refine By [.pointer none] Y Au Y Y (λg5=>Qw (AG [1,5] (by kernel_rfl) Y ?_));refine Ai Y ?_ ?_
     ·refine Qc call64 Y (AK a va h2 hKa hA) (λr1 h4 ms4 l4 hQ=>?_);obtain⟨l4',rfl,gt,U,rfl,hU,RU⟩:=hQ;refine Qa (AG [3,5] (by kernel_rfl) Y ?_);refine Ai Y ?_ ?_
      ·refine Qc call64 Y (AK b vb h4 hKb (hB.up l4)) (λr2 h6 ms6 l6 hQ=>?_);obtain⟨l6',rfl,gu,W,rfl,hW,RW⟩:=hQ;have l26:=AI l4 l6;refine Qa (Qo 5 Y (By [.pointer none] Y Au Y Y (λg6=>Qa (Qo 6 Y (Af 1 0 Y Au Y Y (by rfl) Y Y (by decide) Y Y (Qa (Qo 7 Y (Af 0 0 Y Au Y Y (by rfl) Y Y (by decide) Y Y (Qa (Qe ?_))))))))));exact Ao _ ⟨_,_,gt,gu,U,W,Y,l26,Y,RU.up l6,RW,hU,hW⟩ Qs
      refine Ai Y ?_ ?_
      ·refine By [.pointer none] Y Au Y Y (λg6=>Qa (Qo 3 Y (Qc call64 Y (AK b vb h4 hKb (hB.up l4)) (λr2 h6 ms6 l6 hQ=>?_))));obtain⟨l6',rfl,gu,W,rfl,hW,RW⟩:=hQ;have l26:=AI l4 l6;refine Qa (Qo 6 Y (Af 1 0 Y Au Y Y (by rfl) Y Y (by decide) Y Y (Qa (Qo 7 Y (Af 0 0 Y Au Y Y (by rfl) Y Y (by decide) Y Y (Qa (Qe ?_)))))));exact Ao _ ⟨_,_,gt,gu,U,W,Y,l26,Y,RU.up l6,RW,hU,hW⟩ Qs
      exact AH
     refine Ai Y ?_ ?_
     ·refine By [.pointer none] Y Au Y Y (λg6=>Qw (Qo 1 Y (Qc call64 Y (AK a va h2 hKa hA) (λr1 h4 ms4 l4 hQ=>?_))));obtain⟨l4',rfl,gt,U,rfl,hU,RU⟩:=hQ;refine Qa (Qo 3 Y (Qc call64 Y (AK b vb h4 hKb (hB.up l4)) (λr2 h6 ms6 l6 hQ=>?_)));obtain⟨l6',rfl,gu,W,rfl,hW,RW⟩:=hQ;have l26:=AI l4 l6;refine Qa (Qo 6 Y (Af 1 0 Y Au Y Y (by rfl) Y Y (by decide) Y Y (Qa (Qo 7 Y (Af 0 0 Y Au Y Y (by rfl) Y Y (by decide) Y Y (Qa (Qe ?_)))))));exact Ao _ ⟨_,_,gt,gu,U,W,Y,l26,Y,RU.up l6,RW,hU,hW⟩ Qs
     exact AH
    refine Ai Y ?_ ?_
    ·refine By [.pointer none] Y Au Y Y (λg6=>Qw (AG [1,4] (by kernel_rfl) Y ?_));refine Ai Y ?_ ?_
     ·refine Qc call64 Y (AK a va h2 hKa hA) (λr1 h4 ms4 l4 hQ=>?_);obtain⟨l4',rfl,gt,U,rfl,hU,RU⟩:=hQ;refine Qa (AG [3,4] (by kernel_rfl) Y ?_);refine Ai Y ?_ ?_
      ·refine Qc call64 Y (AK b vb h4 hKb (hB.up l4)) (λr2 h6 ms6 l6 hQ=>?_);obtain⟨l6',rfl,gu,W,rfl,hW,RW⟩:=hQ;have l26:=AI l4 l6;refine Qa (Qo 4 Y (By [.pointer none] Y Au Y Y (λg5=>Qa (Qo 6 Y (Af 0 0 Y Au Y Y (by rfl) Y Y (by decide) Y Y (Qa (Qo 7 Y (Af 1 0 Y Au Y Y (by rfl) Y Y (by decide) Y Y (Qa (Qe ?_))))))))))
       (refine Bi ?_;exact Ao _ ⟨_,_,gt,gu,U,W,Y,l26,Y,RU.up l6,RW,hU,hW⟩ Qs)
      refine Ai Y ?_ ?_
      ·refine By [.pointer none] Y Au Y Y (λg5=>Qa (Qo 3 Y (Qc call64 Y (AK b vb h4 hKb (hB.up l4)) (λr2 h6 ms6 l6 hQ=>?_))));obtain⟨l6',rfl,gu,W,rfl,hW,RW⟩:=hQ;have l26:=AI l4 l6;refine Qa (Qo 6 Y (Af 0 0 Y Au Y Y (by rfl) Y Y (by decide) Y Y (Qa (Qo 7 Y (Af 1 0 Y Au Y Y (by rfl) Y Y (by decide) Y Y (Qa (Qe ?_)))))))
       (refine Bi ?_;exact Ao _ ⟨_,_,gt,gu,U,W,Y,l26,Y,RU.up l6,RW,hU,hW⟩ Qs)
      exact AH
     refine Ai Y ?_ ?_
     ·refine By [.pointer none] Y Au Y Y (λg5=>Qw (Qo 1 Y (Qc call64 Y (AK a va h2 hKa hA) (λr1 h4 ms4 l4 hQ=>?_))));obtain⟨l4',rfl,gt,U,rfl,hU,RU⟩:=hQ;refine Qa (Qo 3 Y (Qc call64 Y (AK b vb h4 hKb (hB.up l4)) (λr2 h6 ms6 l6 hQ=>?_)));obtain⟨l6',rfl,gu,W,rfl,hW,RW⟩:=hQ;have l26:=AI l4 l6;refine Qa (Qo 6 Y (Af 0 0 Y Au Y Y (by rfl) Y Y (by decide) Y Y (Qa (Qo 7 Y (Af 1 0 Y Au Y Y (by rfl) Y Y (by decide) Y Y (Qa (Qe ?_)))))))
      (refine Bi ?_;exact Ao _ ⟨_,_,gt,gu,U,W,Y,l26,Y,RU.up l6,RW,hU,hW⟩ Qs)
     exact AH
    exact AH
   refine Ai Y ?_ ?_
   ·refine By [.pointer none] Y Au Y Y (λg5=>Qw (AG [1,2,5] (by kernel_rfl) Y ?_));refine Ai Y ?_ ?_
    ·refine Qc call64 Y (AK a va h2 hKa hA) (λr1 h4 ms4 l4 hQ=>?_);obtain⟨l4',rfl,gt,U,rfl,hU,RU⟩:=hQ;refine Qa (AG [2,5] (by kernel_rfl) Y ?_);refine Ai Y ?_ ?_
     ·refine Qx (oG Y BJ AO (s3 _ (by assumption) _)) Y (Qa (AG [3,5] (by kernel_rfl) Y ?_));refine Ai Y ?_ ?_
      ·refine Qc call64 Y (AK b vb h4 hKb (hB.up l4)) (λr2 h6 ms6 l6 hQ=>?_);obtain⟨l6',rfl,gu,W,rfl,hW,RW⟩:=hQ;have l26:=AI l4 l6;refine Qa (Qo 5 Y (By [.pointer none] Y Au Y Y (λg6=>Qa (Qo 6 Y (Af 1 0 Y Au Y Y (by rfl) Y Y (by decide) Y Y (Qa (Qo 7 Y (Af 0 0 Y Au Y Y (by rfl) Y Y (by decide) Y Y (Qa (Qe ?_))))))))));exact Ao _ ⟨_,_,gt,gu,U,W,Y,l26,Y,RU.up l6,RW,hU,hW⟩ Qs
      refine Ai Y ?_ ?_
      ·refine By [.pointer none] Y Au Y Y (λg6=>Qa (Qo 3 Y (Qc call64 Y (AK b vb h4 hKb (hB.up l4)) (λr2 h6 ms6 l6 hQ=>?_))));obtain⟨l6',rfl,gu,W,rfl,hW,RW⟩:=hQ;have l26:=AI l4 l6;refine Qa (Qo 6 Y (Af 1 0 Y Au Y Y (by rfl) Y Y (by decide) Y Y (Qa (Qo 7 Y (Af 0 0 Y Au Y Y (by rfl) Y Y (by decide) Y Y (Qa (Qe ?_)))))));exact Ao _ ⟨_,_,gt,gu,U,W,Y,l26,Y,RU.up l6,RW,hU,hW⟩ Qs
      exact AH
     refine Ai Y ?_ ?_
     ·refine By [.pointer none] Y Au Y Y (λg6=>Qa (Qo 2 Y (Qx (oG Y BJ AO (s3 _ (by assumption) _)) Y (Qa (Qo 3 Y (Qc call64 Y (AK b vb h4 hKb (hB.up l4)) (λr2 h6 ms6 l6 hQ=>?_)))))));obtain⟨l6',rfl,gu,W,rfl,hW,RW⟩:=hQ;have l26:=AI l4 l6;refine Qa (Qo 6 Y (Af 1 0 Y Au Y Y (by rfl) Y Y (by decide) Y Y (Qa (Qo 7 Y (Af 0 0 Y Au Y Y (by rfl) Y Y (by decide) Y Y (Qa (Qe ?_)))))));exact Ao _ ⟨_,_,gt,gu,U,W,Y,l26,Y,RU.up l6,RW,hU,hW⟩ Qs
     exact AH
    refine Ai Y ?_ ?_
    ·refine Qx (oG Y BJ AO (s3 _ (B8) _)) Y (Qw (AG [1,5] (by kernel_rfl) Y ?_));refine Ai Y ?_ ?_
     ·refine Qc call64 Y (AK a va h2 hKa hA) (λr1 h4 ms4 l4 hQ=>?_);obtain⟨l4',rfl,gt,U,rfl,hU,RU⟩:=hQ;refine Qa (AG [3,5] (by kernel_rfl) Y ?_);refine Ai Y ?_ ?_
      ·refine Qc call64 Y (AK b vb h4 hKb (hB.up l4)) (λr2 h6 ms6 l6 hQ=>?_);obtain⟨l6',rfl,gu,W,rfl,hW,RW⟩:=hQ;have l26:=AI l4 l6;refine Qa (Qo 5 Y (By [.pointer none] Y Au Y Y (λg6=>Qa (Qo 6 Y (Af 1 0 Y Au Y Y (by rfl) Y Y (by decide) Y Y (Qa (Qo 7 Y (Af 0 0 Y Au Y Y (by rfl) Y Y (by decide) Y Y (Qa (Qe ?_))))))))));exact Ao _ ⟨_,_,gt,gu,U,W,Y,l26,Y,RU.up l6,RW,hU,hW⟩ Qs
      refine Ai Y ?_ ?_
      ·refine By [.pointer none] Y Au Y Y (λg6=>Qa (Qo 3 Y (Qc call64 Y (AK b vb h4 hKb (hB.up l4)) (λr2 h6 ms6 l6 hQ=>?_))));obtain⟨l6',rfl,gu,W,rfl,hW,RW⟩:=hQ;have l26:=AI l4 l6;refine Qa (Qo 6 Y (Af 1 0 Y Au Y Y (by rfl) Y Y (by decide) Y Y (Qa (Qo 7 Y (Af 0 0 Y Au Y Y (by rfl) Y Y (by decide) Y Y (Qa (Qe ?_)))))));exact Ao _ ⟨_,_,gt,gu,U,W,Y,l26,Y,RU.up l6,RW,hU,hW⟩ Qs
      exact AH
     refine Ai Y ?_ ?_
     ·refine By [.pointer none] Y Au Y Y (λg6=>Qw (Qo 1 Y (Qc call64 Y (AK a va h2 hKa hA) (λr1 h4 ms4 l4 hQ=>?_))));obtain⟨l4',rfl,gt,U,rfl,hU,RU⟩:=hQ;refine Qa (Qo 3 Y (Qc call64 Y (AK b vb h4 hKb (hB.up l4)) (λr2 h6 ms6 l6 hQ=>?_)));obtain⟨l6',rfl,gu,W,rfl,hW,RW⟩:=hQ;have l26:=AI l4 l6;refine Qa (Qo 6 Y (Af 1 0 Y Au Y Y (by rfl) Y Y (by decide) Y Y (Qa (Qo 7 Y (Af 0 0 Y Au Y Y (by rfl) Y Y (by decide) Y Y (Qa (Qe ?_)))))));exact Ao _ ⟨_,_,gt,gu,U,W,Y,l26,Y,RU.up l6,RW,hU,hW⟩ Qs
     exact AH
    refine Ai Y ?_ ?_
    ·refine By [.pointer none] Y Au Y Y (λg6=>Qw (AG [1,2] (by kernel_rfl) Y ?_));refine Ai Y ?_ ?_
     ·refine Qc call64 Y (AK a va h2 hKa hA) (λr1 h4 ms4 l4 hQ=>?_);obtain⟨l4',rfl,gt,U,rfl,hU,RU⟩:=hQ;refine Qa (Qo 2 Y (Qx (oG Y BJ AO (s3 _ (by assumption) _)) Y (Qa (Qo 3 Y (Qc call64 Y (AK b vb h4 hKb (hB.up l4)) (λr2 h6 ms6 l6 hQ=>?_))))));obtain⟨l6',rfl,gu,W,rfl,hW,RW⟩:=hQ;have l26:=AI l4 l6;refine Qa (Qo 6 Y (Af 1 0 Y Au Y Y (by rfl) Y Y (by decide) Y Y (Qa (Qo 7 Y (Af 0 0 Y Au Y Y (by rfl) Y Y (by decide) Y Y (Qa (Qe ?_)))))));exact Ao _ ⟨_,_,gt,gu,U,W,Y,l26,Y,RU.up l6,RW,hU,hW⟩ Qs
     refine Ai Y ?_ ?_
     ·refine Qx (oG Y BJ AO (s3 _ (B8) _)) Y (Qw (Qo 1 Y (Qc call64 Y (AK a va h2 hKa hA) (λr1 h4 ms4 l4 hQ=>?_))));obtain⟨l4',rfl,gt,U,rfl,hU,RU⟩:=hQ;refine Qa (Qo 3 Y (Qc call64 Y (AK b vb h4 hKb (hB.up l4)) (λr2 h6 ms6 l6 hQ=>?_)));obtain⟨l6',rfl,gu,W,rfl,hW,RW⟩:=hQ;have l26:=AI l4 l6;refine Qa (Qo 6 Y (Af 1 0 Y Au Y Y (by rfl) Y Y (by decide) Y Y (Qa (Qo 7 Y (Af 0 0 Y Au Y Y (by rfl) Y Y (by decide) Y Y (Qa (Qe ?_)))))));exact Ao _ ⟨_,_,gt,gu,U,W,Y,l26,Y,RU.up l6,RW,hU,hW⟩ Qs
     exact AH
    exact AH
   refine Ai Y ?_ ?_
   ·refine By [.pointer none] Y Au Y Y (λg6=>Qw (AG [1,2,4] (by kernel_rfl) Y ?_));refine Ai Y ?_ ?_
    ·refine Qc call64 Y (AK a va h2 hKa hA) (λr1 h4 ms4 l4 hQ=>?_);obtain⟨l4',rfl,gt,U,rfl,hU,RU⟩:=hQ;refine Qa (AG [2,4] (by kernel_rfl) Y ?_);refine Ai Y ?_ ?_
     ·refine Qx (oG Y BJ AO (s3 _ (by assumption) _)) Y (Qa (AG [3,4] (by kernel_rfl) Y ?_));refine Ai Y ?_ ?_
      ·refine Qc call64 Y (AK b vb h4 hKb (hB.up l4)) (λr2 h6 ms6 l6 hQ=>?_);obtain⟨l6',rfl,gu,W,rfl,hW,RW⟩:=hQ;have l26:=AI l4 l6;refine Qa (Qo 4 Y (By [.pointer none] Y Au Y Y (λg5=>Qa (Qo 6 Y (Af 0 0 Y Au Y Y (by rfl) Y Y (by decide) Y Y (Qa (Qo 7 Y (Af 1 0 Y Au Y Y (by rfl) Y Y (by decide) Y Y (Qa (Qe ?_))))))))))
       (refine Bi ?_;exact Ao _ ⟨_,_,gt,gu,U,W,Y,l26,Y,RU.up l6,RW,hU,hW⟩ Qs)
      refine Ai Y ?_ ?_
      ·refine By [.pointer none] Y Au Y Y (λg5=>Qa (Qo 3 Y (Qc call64 Y (AK b vb h4 hKb (hB.up l4)) (λr2 h6 ms6 l6 hQ=>?_))));obtain⟨l6',rfl,gu,W,rfl,hW,RW⟩:=hQ;have l26:=AI l4 l6;refine Qa (Qo 6 Y (Af 0 0 Y Au Y Y (by rfl) Y Y (by decide) Y Y (Qa (Qo 7 Y (Af 1 0 Y Au Y Y (by rfl) Y Y (by decide) Y Y (Qa (Qe ?_)))))))
       (refine Bi ?_;exact Ao _ ⟨_,_,gt,gu,U,W,Y,l26,Y,RU.up l6,RW,hU,hW⟩ Qs)
      exact AH
     refine Ai Y ?_ ?_
     ·refine By [.pointer none] Y Au Y Y (λg5=>Qa (Qo 2 Y (Qx (oG Y BJ AO (s3 _ (by assumption) _)) Y (Qa (Qo 3 Y (Qc call64 Y (AK b vb h4 hKb (hB.up l4)) (λr2 h6 ms6 l6 hQ=>?_)))))));obtain⟨l6',rfl,gu,W,rfl,hW,RW⟩:=hQ;have l26:=AI l4 l6;refine Qa (Qo 6 Y (Af 0 0 Y Au Y Y (by rfl) Y Y (by decide) Y Y (Qa (Qo 7 Y (Af 1 0 Y Au Y Y (by rfl) Y Y (by decide) Y Y (Qa (Qe ?_)))))))
      (refine Bi ?_;exact Ao _ ⟨_,_,gt,gu,U,W,Y,l26,Y,RU.up l6,RW,hU,hW⟩ Qs)
     exact AH
    refine Ai Y ?_ ?_
    ·refine Qx (oG Y BJ AO (s3 _ (B8) _)) Y (Qw (AG [1,4] (by kernel_rfl) Y ?_));refine Ai Y ?_ ?_
     ·refine Qc call64 Y (AK a va h2 hKa hA) (λr1 h4 ms4 l4 hQ=>?_);obtain⟨l4',rfl,gt,U,rfl,hU,RU⟩:=hQ;refine Qa (AG [3,4] (by kernel_rfl) Y ?_);refine Ai Y ?_ ?_
      ·refine Qc call64 Y (AK b vb h4 hKb (hB.up l4)) (λr2 h6 ms6 l6 hQ=>?_);obtain⟨l6',rfl,gu,W,rfl,hW,RW⟩:=hQ;have l26:=AI l4 l6;refine Qa (Qo 4 Y (By [.pointer none] Y Au Y Y (λg5=>Qa (Qo 6 Y (Af 0 0 Y Au Y Y (by rfl) Y Y (by decide) Y Y (Qa (Qo 7 Y (Af 1 0 Y Au Y Y (by rfl) Y Y (by decide) Y Y (Qa (Qe ?_))))))))))
       (refine Bi ?_;exact Ao _ ⟨_,_,gt,gu,U,W,Y,l26,Y,RU.up l6,RW,hU,hW⟩ Qs)
      refine Ai Y ?_ ?_
      ·refine By [.pointer none] Y Au Y Y (λg5=>Qa (Qo 3 Y (Qc call64 Y (AK b vb h4 hKb (hB.up l4)) (λr2 h6 ms6 l6 hQ=>?_))));obtain⟨l6',rfl,gu,W,rfl,hW,RW⟩:=hQ;have l26:=AI l4 l6;refine Qa (Qo 6 Y (Af 0 0 Y Au Y Y (by rfl) Y Y (by decide) Y Y (Qa (Qo 7 Y (Af 1 0 Y Au Y Y (by rfl) Y Y (by decide) Y Y (Qa (Qe ?_)))))))
       (refine Bi ?_;exact Ao _ ⟨_,_,gt,gu,U,W,Y,l26,Y,RU.up l6,RW,hU,hW⟩ Qs)
      exact AH
     refine Ai Y ?_ ?_
     ·refine By [.pointer none] Y Au Y Y (λg5=>Qw (Qo 1 Y (Qc call64 Y (AK a va h2 hKa hA) (λr1 h4 ms4 l4 hQ=>?_))));obtain⟨l4',rfl,gt,U,rfl,hU,RU⟩:=hQ;refine Qa (Qo 3 Y (Qc call64 Y (AK b vb h4 hKb (hB.up l4)) (λr2 h6 ms6 l6 hQ=>?_)));obtain⟨l6',rfl,gu,W,rfl,hW,RW⟩:=hQ;have l26:=AI l4 l6;refine Qa (Qo 6 Y (Af 0 0 Y Au Y Y (by rfl) Y Y (by decide) Y Y (Qa (Qo 7 Y (Af 1 0 Y Au Y Y (by rfl) Y Y (by decide) Y Y (Qa (Qe ?_)))))))
      (refine Bi ?_;exact Ao _ ⟨_,_,gt,gu,U,W,Y,l26,Y,RU.up l6,RW,hU,hW⟩ Qs)
     exact AH
    refine Ai Y ?_ ?_
    ·refine By [.pointer none] Y Au Y Y (λg5=>Qw (AG [1,2] (by kernel_rfl) Y ?_));refine Ai Y ?_ ?_
     ·refine Qc call64 Y (AK a va h2 hKa hA) (λr1 h4 ms4 l4 hQ=>?_);obtain⟨l4',rfl,gt,U,rfl,hU,RU⟩:=hQ;refine Qa (Qo 2 Y (Qx (oG Y BJ AO (s3 _ (by assumption) _)) Y (Qa (Qo 3 Y (Qc call64 Y (AK b vb h4 hKb (hB.up l4)) (λr2 h6 ms6 l6 hQ=>?_))))));obtain⟨l6',rfl,gu,W,rfl,hW,RW⟩:=hQ;have l26:=AI l4 l6;refine Qa (Qo 6 Y (Af 0 0 Y Au Y Y (by rfl) Y Y (by decide) Y Y (Qa (Qo 7 Y (Af 1 0 Y Au Y Y (by rfl) Y Y (by decide) Y Y (Qa (Qe ?_)))))))
      (refine Bi ?_;exact Ao _ ⟨_,_,gt,gu,U,W,Y,l26,Y,RU.up l6,RW,hU,hW⟩ Qs)
     refine Ai Y ?_ ?_
     ·refine Qx (oG Y BJ AO (s3 _ (B8) _)) Y (Qw (Qo 1 Y (Qc call64 Y (AK a va h2 hKa hA) (λr1 h4 ms4 l4 hQ=>?_))));obtain⟨l4',rfl,gt,U,rfl,hU,RU⟩:=hQ;refine Qa (Qo 3 Y (Qc call64 Y (AK b vb h4 hKb (hB.up l4)) (λr2 h6 ms6 l6 hQ=>?_)));obtain⟨l6',rfl,gu,W,rfl,hW,RW⟩:=hQ;have l26:=AI l4 l6;refine Qa (Qo 6 Y (Af 0 0 Y Au Y Y (by rfl) Y Y (by decide) Y Y (Qa (Qo 7 Y (Af 1 0 Y Au Y Y (by rfl) Y Y (by decide) Y Y (Qa (Qe ?_)))))))
      (refine Bi ?_;exact Ao _ ⟨_,_,gt,gu,U,W,Y,l26,Y,RU.up l6,RW,hU,hW⟩ Qs)
     exact AH
    exact AH
   exact AH
  refine Ai Y ?_ ?_
  ·refine Qx (oG Y BJ AO (s3 _ (B8) _)) Y (Qw (AG [0,4,5] (by kernel_rfl) Y ?_));refine Ai Y ?_ ?_
   ·refine Qx (oG Y BJ AO (s2 _ (B8) _)) Y (Qw (AG [1,4,5] (by kernel_rfl) Y ?_));refine Ai Y ?_ ?_
    ·refine Qc call64 Y (AK a va h2 hKa hA) (λr1 h4 ms4 l4 hQ=>?_);obtain⟨l4',rfl,gt,U,rfl,hU,RU⟩:=hQ;refine Qa (AG [3,4,5] (by kernel_rfl) Y ?_);refine Ai Y ?_ ?_
     ·refine Qc call64 Y (AK b vb h4 hKb (hB.up l4)) (λr2 h6 ms6 l6 hQ=>?_);obtain⟨l6',rfl,gu,W,rfl,hW,RW⟩:=hQ;have l26:=AI l4 l6;refine Qa (AG [4,5] (by kernel_rfl) Y ?_);refine Ai Y ?_ ?_
      ·refine By [.pointer none] Y Au Y Y (λg5=>Qa (Qo 5 Y (By [.pointer none] Y Au Y Y (λg6=>Qa (Qo 6 Y (Af 1 0 Y Au Y Y (by rfl) Y Y (by decide) Y Y (Qa (Qo 7 Y (Af 0 0 Y Au Y Y (by rfl) Y Y (by decide) Y Y (Qa (Qe ?_)))))))))));exact Ao _ ⟨_,_,gt,gu,U,W,Y,l26,Y,RU.up l6,RW,hU,hW⟩ Qs
      refine Ai Y ?_ ?_
      ·refine By [.pointer none] Y Au Y Y (λg6=>Qa (Qo 4 Y (By [.pointer none] Y Au Y Y (λg5=>Qa (Qo 6 Y (Af 0 0 Y Au Y Y (by rfl) Y Y (by decide) Y Y (Qa (Qo 7 Y (Af 1 0 Y Au Y Y (by rfl) Y Y (by decide) Y Y (Qa (Qe ?_)))))))))))
       (refine Bi ?_;exact Ao _ ⟨_,_,gt,gu,U,W,Y,l26,Y,RU.up l6,RW,hU,hW⟩ Qs)
      exact AH
     refine Ai Y ?_ ?_
     ·refine By [.pointer none] Y Au Y Y (λg5=>Qa (AG [3,5] (by kernel_rfl) Y ?_));refine Ai Y ?_ ?_
      ·refine Qc call64 Y (AK b vb h4 hKb (hB.up l4)) (λr2 h6 ms6 l6 hQ=>?_);obtain⟨l6',rfl,gu,W,rfl,hW,RW⟩:=hQ;have l26:=AI l4 l6;refine Qa (Qo 5 Y (By [.pointer none] Y Au Y Y (λg6=>Qa (Qo 6 Y (Af 1 0 Y Au Y Y (by rfl) Y Y (by decide) Y Y (Qa (Qo 7 Y (Af 0 0 Y Au Y Y (by rfl) Y Y (by decide) Y Y (Qa (Qe ?_))))))))));exact Ao _ ⟨_,_,gt,gu,U,W,Y,l26,Y,RU.up l6,RW,hU,hW⟩ Qs
      refine Ai Y ?_ ?_
      ·refine By [.pointer none] Y Au Y Y (λg6=>Qa (Qo 3 Y (Qc call64 Y (AK b vb h4 hKb (hB.up l4)) (λr2 h6 ms6 l6 hQ=>?_))));obtain⟨l6',rfl,gu,W,rfl,hW,RW⟩:=hQ;have l26:=AI l4 l6;refine Qa (Qo 6 Y (Af 1 0 Y Au Y Y (by rfl) Y Y (by decide) Y Y (Qa (Qo 7 Y (Af 0 0 Y Au Y Y (by rfl) Y Y (by decide) Y Y (Qa (Qe ?_)))))));exact Ao _ ⟨_,_,gt,gu,U,W,Y,l26,Y,RU.up l6,RW,hU,hW⟩ Qs
      exact AH
     refine Ai Y ?_ ?_
     ·refine By [.pointer none] Y Au Y Y (λg6=>Qa (AG [3,4] (by kernel_rfl) Y ?_));refine Ai Y ?_ ?_
      ·refine Qc call64 Y (AK b vb h4 hKb (hB.up l4)) (λr2 h6 ms6 l6 hQ=>?_);obtain⟨l6',rfl,gu,W,rfl,hW,RW⟩:=hQ;have l26:=AI l4 l6;refine Qa (Qo 4 Y (By [.pointer none] Y Au Y Y (λg5=>Qa (Qo 6 Y (Af 0 0 Y Au Y Y (by rfl) Y Y (by decide) Y Y (Qa (Qo 7 Y (Af 1 0 Y Au Y Y (by rfl) Y Y (by decide) Y Y (Qa (Qe ?_))))))))))
       (refine Bi ?_;exact Ao _ ⟨_,_,gt,gu,U,W,Y,l26,Y,RU.up l6,RW,hU,hW⟩ Qs)
      refine Ai Y ?_ ?_
      ·refine By [.pointer none] Y Au Y Y (λg5=>Qa (Qo 3 Y (Qc call64 Y (AK b vb h4 hKb (hB.up l4)) (λr2 h6 ms6 l6 hQ=>?_))));obtain⟨l6',rfl,gu,W,rfl,hW,RW⟩:=hQ;have l26:=AI l4 l6;refine Qa (Qo 6 Y (Af 0 0 Y Au Y Y (by rfl) Y Y (by decide) Y Y (Qa (Qo 7 Y (Af 1 0 Y Au Y Y (by rfl) Y Y (by decide) Y Y (Qa (Qe ?_)))))))
       (refine Bi ?_;exact Ao _ ⟨_,_,gt,gu,U,W,Y,l26,Y,RU.up l6,RW,hU,hW⟩ Qs)
      exact AH
     exact AH
    refine Ai Y ?_ ?_
    ·refine By [.pointer none] Y Au Y Y (λg5=>Qw (AG [1,5] (by kernel_rfl) Y ?_));refine Ai Y ?_ ?_
     ·refine Qc call64 Y (AK a va h2 hKa hA) (λr1 h4 ms4 l4 hQ=>?_);obtain⟨l4',rfl,gt,U,rfl,hU,RU⟩:=hQ;refine Qa (AG [3,5] (by kernel_rfl) Y ?_);refine Ai Y ?_ ?_
      ·refine Qc call64 Y (AK b vb h4 hKb (hB.up l4)) (λr2 h6 ms6 l6 hQ=>?_);obtain⟨l6',rfl,gu,W,rfl,hW,RW⟩:=hQ;have l26:=AI l4 l6;refine Qa (Qo 5 Y (By [.pointer none] Y Au Y Y (λg6=>Qa (Qo 6 Y (Af 1 0 Y Au Y Y (by rfl) Y Y (by decide) Y Y (Qa (Qo 7 Y (Af 0 0 Y Au Y Y (by rfl) Y Y (by decide) Y Y (Qa (Qe ?_))))))))));exact Ao _ ⟨_,_,gt,gu,U,W,Y,l26,Y,RU.up l6,RW,hU,hW⟩ Qs
      refine Ai Y ?_ ?_
      ·refine By [.pointer none] Y Au Y Y (λg6=>Qa (Qo 3 Y (Qc call64 Y (AK b vb h4 hKb (hB.up l4)) (λr2 h6 ms6 l6 hQ=>?_))));obtain⟨l6',rfl,gu,W,rfl,hW,RW⟩:=hQ;have l26:=AI l4 l6;refine Qa (Qo 6 Y (Af 1 0 Y Au Y Y (by rfl) Y Y (by decide) Y Y (Qa (Qo 7 Y (Af 0 0 Y Au Y Y (by rfl) Y Y (by decide) Y Y (Qa (Qe ?_)))))));exact Ao _ ⟨_,_,gt,gu,U,W,Y,l26,Y,RU.up l6,RW,hU,hW⟩ Qs
      exact AH
     refine Ai Y ?_ ?_
     ·refine By [.pointer none] Y Au Y Y (λg6=>Qw (Qo 1 Y (Qc call64 Y (AK a va h2 hKa hA) (λr1 h4 ms4 l4 hQ=>?_))));obtain⟨l4',rfl,gt,U,rfl,hU,RU⟩:=hQ;refine Qa (Qo 3 Y (Qc call64 Y (AK b vb h4 hKb (hB.up l4)) (λr2 h6 ms6 l6 hQ=>?_)));obtain⟨l6',rfl,gu,W,rfl,hW,RW⟩:=hQ;have l26:=AI l4 l6;refine Qa (Qo 6 Y (Af 1 0 Y Au Y Y (by rfl) Y Y (by decide) Y Y (Qa (Qo 7 Y (Af 0 0 Y Au Y Y (by rfl) Y Y (by decide) Y Y (Qa (Qe ?_)))))));exact Ao _ ⟨_,_,gt,gu,U,W,Y,l26,Y,RU.up l6,RW,hU,hW⟩ Qs
     exact AH
    refine Ai Y ?_ ?_
    ·refine By [.pointer none] Y Au Y Y (λg6=>Qw (AG [1,4] (by kernel_rfl) Y ?_));refine Ai Y ?_ ?_
     ·refine Qc call64 Y (AK a va h2 hKa hA) (λr1 h4 ms4 l4 hQ=>?_);obtain⟨l4',rfl,gt,U,rfl,hU,RU⟩:=hQ;refine Qa (AG [3,4] (by kernel_rfl) Y ?_);refine Ai Y ?_ ?_
      ·refine Qc call64 Y (AK b vb h4 hKb (hB.up l4)) (λr2 h6 ms6 l6 hQ=>?_);obtain⟨l6',rfl,gu,W,rfl,hW,RW⟩:=hQ;have l26:=AI l4 l6;refine Qa (Qo 4 Y (By [.pointer none] Y Au Y Y (λg5=>Qa (Qo 6 Y (Af 0 0 Y Au Y Y (by rfl) Y Y (by decide) Y Y (Qa (Qo 7 Y (Af 1 0 Y Au Y Y (by rfl) Y Y (by decide) Y Y (Qa (Qe ?_))))))))))
       (refine Bi ?_;exact Ao _ ⟨_,_,gt,gu,U,W,Y,l26,Y,RU.up l6,RW,hU,hW⟩ Qs)
      refine Ai Y ?_ ?_
      ·refine By [.pointer none] Y Au Y Y (λg5=>Qa (Qo 3 Y (Qc call64 Y (AK b vb h4 hKb (hB.up l4)) (λr2 h6 ms6 l6 hQ=>?_))));obtain⟨l6',rfl,gu,W,rfl,hW,RW⟩:=hQ;have l26:=AI l4 l6;refine Qa (Qo 6 Y (Af 0 0 Y Au Y Y (by rfl) Y Y (by decide) Y Y (Qa (Qo 7 Y (Af 1 0 Y Au Y Y (by rfl) Y Y (by decide) Y Y (Qa (Qe ?_)))))))
       (refine Bi ?_;exact Ao _ ⟨_,_,gt,gu,U,W,Y,l26,Y,RU.up l6,RW,hU,hW⟩ Qs)
      exact AH
     refine Ai Y ?_ ?_
     ·refine By [.pointer none] Y Au Y Y (λg5=>Qw (Qo 1 Y (Qc call64 Y (AK a va h2 hKa hA) (λr1 h4 ms4 l4 hQ=>?_))));obtain⟨l4',rfl,gt,U,rfl,hU,RU⟩:=hQ;refine Qa (Qo 3 Y (Qc call64 Y (AK b vb h4 hKb (hB.up l4)) (λr2 h6 ms6 l6 hQ=>?_)));obtain⟨l6',rfl,gu,W,rfl,hW,RW⟩:=hQ;have l26:=AI l4 l6;refine Qa (Qo 6 Y (Af 0 0 Y Au Y Y (by rfl) Y Y (by decide) Y Y (Qa (Qo 7 Y (Af 1 0 Y Au Y Y (by rfl) Y Y (by decide) Y Y (Qa (Qe ?_)))))))
      (refine Bi ?_;exact Ao _ ⟨_,_,gt,gu,U,W,Y,l26,Y,RU.up l6,RW,hU,hW⟩ Qs)
     exact AH
    exact AH
   refine Ai Y ?_ ?_
   ·refine By [.pointer none] Y Au Y Y (λg5=>Qw (AG [0,5] (by kernel_rfl) Y ?_));refine Ai Y ?_ ?_
    ·refine Qx (oG Y BJ AO (s2 _ (B8) _)) Y (Qw (AG [1,5] (by kernel_rfl) Y ?_));refine Ai Y ?_ ?_
     ·refine Qc call64 Y (AK a va h2 hKa hA) (λr1 h4 ms4 l4 hQ=>?_);obtain⟨l4',rfl,gt,U,rfl,hU,RU⟩:=hQ;refine Qa (AG [3,5] (by kernel_rfl) Y ?_);refine Ai Y ?_ ?_
      ·refine Qc call64 Y (AK b vb h4 hKb (hB.up l4)) (λr2 h6 ms6 l6 hQ=>?_);obtain⟨l6',rfl,gu,W,rfl,hW,RW⟩:=hQ;have l26:=AI l4 l6;refine Qa (Qo 5 Y (By [.pointer none] Y Au Y Y (λg6=>Qa (Qo 6 Y (Af 1 0 Y Au Y Y (by rfl) Y Y (by decide) Y Y (Qa (Qo 7 Y (Af 0 0 Y Au Y Y (by rfl) Y Y (by decide) Y Y (Qa (Qe ?_))))))))));exact Ao _ ⟨_,_,gt,gu,U,W,Y,l26,Y,RU.up l6,RW,hU,hW⟩ Qs
      refine Ai Y ?_ ?_
      ·refine By [.pointer none] Y Au Y Y (λg6=>Qa (Qo 3 Y (Qc call64 Y (AK b vb h4 hKb (hB.up l4)) (λr2 h6 ms6 l6 hQ=>?_))));obtain⟨l6',rfl,gu,W,rfl,hW,RW⟩:=hQ;have l26:=AI l4 l6;refine Qa (Qo 6 Y (Af 1 0 Y Au Y Y (by rfl) Y Y (by decide) Y Y (Qa (Qo 7 Y (Af 0 0 Y Au Y Y (by rfl) Y Y (by decide) Y Y (Qa (Qe ?_)))))));exact Ao _ ⟨_,_,gt,gu,U,W,Y,l26,Y,RU.up l6,RW,hU,hW⟩ Qs
      exact AH
     refine Ai Y ?_ ?_
     ·refine By [.pointer none] Y Au Y Y (λg6=>Qw (Qo 1 Y (Qc call64 Y (AK a va h2 hKa hA) (λr1 h4 ms4 l4 hQ=>?_))));obtain⟨l4',rfl,gt,U,rfl,hU,RU⟩:=hQ;refine Qa (Qo 3 Y (Qc call64 Y (AK b vb h4 hKb (hB.up l4)) (λr2 h6 ms6 l6 hQ=>?_)));obtain⟨l6',rfl,gu,W,rfl,hW,RW⟩:=hQ;have l26:=AI l4 l6;refine Qa (Qo 6 Y (Af 1 0 Y Au Y Y (by rfl) Y Y (by decide) Y Y (Qa (Qo 7 Y (Af 0 0 Y Au Y Y (by rfl) Y Y (by decide) Y Y (Qa (Qe ?_)))))));exact Ao _ ⟨_,_,gt,gu,U,W,Y,l26,Y,RU.up l6,RW,hU,hW⟩ Qs
     exact AH
    refine Ai Y ?_ ?_
    ·refine By [.pointer none] Y Au Y Y (λg6=>Qw (Qo 0 Y (Qx (oG Y BJ AO (s2 _ (B8) _)) Y (Qw (Qo 1 Y (Qc call64 Y (AK a va h2 hKa hA) (λr1 h4 ms4 l4 hQ=>?_)))))));obtain⟨l4',rfl,gt,U,rfl,hU,RU⟩:=hQ;refine Qa (Qo 3 Y (Qc call64 Y (AK b vb h4 hKb (hB.up l4)) (λr2 h6 ms6 l6 hQ=>?_)));obtain⟨l6',rfl,gu,W,rfl,hW,RW⟩:=hQ;have l26:=AI l4 l6;refine Qa (Qo 6 Y (Af 1 0 Y Au Y Y (by rfl) Y Y (by decide) Y Y (Qa (Qo 7 Y (Af 0 0 Y Au Y Y (by rfl) Y Y (by decide) Y Y (Qa (Qe ?_)))))));exact Ao _ ⟨_,_,gt,gu,U,W,Y,l26,Y,RU.up l6,RW,hU,hW⟩ Qs
    exact AH
   refine Ai Y ?_ ?_
   ·refine By [.pointer none] Y Au Y Y (λg6=>Qw (AG [0,4] (by kernel_rfl) Y ?_));refine Ai Y ?_ ?_
    ·refine Qx (oG Y BJ AO (s2 _ (B8) _)) Y (Qw (AG [1,4] (by kernel_rfl) Y ?_));refine Ai Y ?_ ?_
     ·refine Qc call64 Y (AK a va h2 hKa hA) (λr1 h4 ms4 l4 hQ=>?_);obtain⟨l4',rfl,gt,U,rfl,hU,RU⟩:=hQ;refine Qa (AG [3,4] (by kernel_rfl) Y ?_);refine Ai Y ?_ ?_
      ·refine Qc call64 Y (AK b vb h4 hKb (hB.up l4)) (λr2 h6 ms6 l6 hQ=>?_);obtain⟨l6',rfl,gu,W,rfl,hW,RW⟩:=hQ;have l26:=AI l4 l6;refine Qa (Qo 4 Y (By [.pointer none] Y Au Y Y (λg5=>Qa (Qo 6 Y (Af 0 0 Y Au Y Y (by rfl) Y Y (by decide) Y Y (Qa (Qo 7 Y (Af 1 0 Y Au Y Y (by rfl) Y Y (by decide) Y Y (Qa (Qe ?_))))))))))
       (refine Bi ?_;exact Ao _ ⟨_,_,gt,gu,U,W,Y,l26,Y,RU.up l6,RW,hU,hW⟩ Qs)
      refine Ai Y ?_ ?_
      ·refine By [.pointer none] Y Au Y Y (λg5=>Qa (Qo 3 Y (Qc call64 Y (AK b vb h4 hKb (hB.up l4)) (λr2 h6 ms6 l6 hQ=>?_))));obtain⟨l6',rfl,gu,W,rfl,hW,RW⟩:=hQ;have l26:=AI l4 l6;refine Qa (Qo 6 Y (Af 0 0 Y Au Y Y (by rfl) Y Y (by decide) Y Y (Qa (Qo 7 Y (Af 1 0 Y Au Y Y (by rfl) Y Y (by decide) Y Y (Qa (Qe ?_)))))))
       (refine Bi ?_;exact Ao _ ⟨_,_,gt,gu,U,W,Y,l26,Y,RU.up l6,RW,hU,hW⟩ Qs)
      exact AH
     refine Ai Y ?_ ?_
     ·refine By [.pointer none] Y Au Y Y (λg5=>Qw (Qo 1 Y (Qc call64 Y (AK a va h2 hKa hA) (λr1 h4 ms4 l4 hQ=>?_))));obtain⟨l4',rfl,gt,U,rfl,hU,RU⟩:=hQ;refine Qa (Qo 3 Y (Qc call64 Y (AK b vb h4 hKb (hB.up l4)) (λr2 h6 ms6 l6 hQ=>?_)));obtain⟨l6',rfl,gu,W,rfl,hW,RW⟩:=hQ;have l26:=AI l4 l6;refine Qa (Qo 6 Y (Af 0 0 Y Au Y Y (by rfl) Y Y (by decide) Y Y (Qa (Qo 7 Y (Af 1 0 Y Au Y Y (by rfl) Y Y (by decide) Y Y (Qa (Qe ?_)))))))
      (refine Bi ?_;exact Ao _ ⟨_,_,gt,gu,U,W,Y,l26,Y,RU.up l6,RW,hU,hW⟩ Qs)
     exact AH
    refine Ai Y ?_ ?_
    ·refine By [.pointer none] Y Au Y Y (λg5=>Qw (Qo 0 Y (Qx (oG Y BJ AO (s2 _ (B8) _)) Y (Qw (Qo 1 Y (Qc call64 Y (AK a va h2 hKa hA) (λr1 h4 ms4 l4 hQ=>?_)))))));obtain⟨l4',rfl,gt,U,rfl,hU,RU⟩:=hQ;refine Qa (Qo 3 Y (Qc call64 Y (AK b vb h4 hKb (hB.up l4)) (λr2 h6 ms6 l6 hQ=>?_)));obtain⟨l6',rfl,gu,W,rfl,hW,RW⟩:=hQ;have l26:=AI l4 l6;refine Qa (Qo 6 Y (Af 0 0 Y Au Y Y (by rfl) Y Y (by decide) Y Y (Qa (Qo 7 Y (Af 1 0 Y Au Y Y (by rfl) Y Y (by decide) Y Y (Qa (Qe ?_)))))))
     (refine Bi ?_;exact Ao _ ⟨_,_,gt,gu,U,W,Y,l26,Y,RU.up l6,RW,hU,hW⟩ Qs)
    exact AH
   exact AH
  refine Ai Y ?_ ?_
  ·refine By [.pointer none] Y Au Y Y (λg5=>Qw (AG [0,2,5] (by kernel_rfl) Y ?_));refine Ai Y ?_ ?_
   ·refine Qx (oG Y BJ AO (s2 _ (B8) _)) Y (Qw (AG [1,2,5] (by kernel_rfl) Y ?_));refine Ai Y ?_ ?_
    ·refine Qc call64 Y (AK a va h2 hKa hA) (λr1 h4 ms4 l4 hQ=>?_);obtain⟨l4',rfl,gt,U,rfl,hU,RU⟩:=hQ;refine Qa (AG [2,5] (by kernel_rfl) Y ?_);refine Ai Y ?_ ?_
     ·refine Qx (oG Y BJ AO (s3 _ (by assumption) _)) Y (Qa (AG [3,5] (by kernel_rfl) Y ?_));refine Ai Y ?_ ?_
      ·refine Qc call64 Y (AK b vb h4 hKb (hB.up l4)) (λr2 h6 ms6 l6 hQ=>?_);obtain⟨l6',rfl,gu,W,rfl,hW,RW⟩:=hQ;have l26:=AI l4 l6;refine Qa (Qo 5 Y (By [.pointer none] Y Au Y Y (λg6=>Qa (Qo 6 Y (Af 1 0 Y Au Y Y (by rfl) Y Y (by decide) Y Y (Qa (Qo 7 Y (Af 0 0 Y Au Y Y (by rfl) Y Y (by decide) Y Y (Qa (Qe ?_))))))))));exact Ao _ ⟨_,_,gt,gu,U,W,Y,l26,Y,RU.up l6,RW,hU,hW⟩ Qs
      refine Ai Y ?_ ?_
      ·refine By [.pointer none] Y Au Y Y (λg6=>Qa (Qo 3 Y (Qc call64 Y (AK b vb h4 hKb (hB.up l4)) (λr2 h6 ms6 l6 hQ=>?_))));obtain⟨l6',rfl,gu,W,rfl,hW,RW⟩:=hQ;have l26:=AI l4 l6;refine Qa (Qo 6 Y (Af 1 0 Y Au Y Y (by rfl) Y Y (by decide) Y Y (Qa (Qo 7 Y (Af 0 0 Y Au Y Y (by rfl) Y Y (by decide) Y Y (Qa (Qe ?_)))))));exact Ao _ ⟨_,_,gt,gu,U,W,Y,l26,Y,RU.up l6,RW,hU,hW⟩ Qs
      exact AH
     refine Ai Y ?_ ?_
     ·refine By [.pointer none] Y Au Y Y (λg6=>Qa (Qo 2 Y (Qx (oG Y BJ AO (s3 _ (by assumption) _)) Y (Qa (Qo 3 Y (Qc call64 Y (AK b vb h4 hKb (hB.up l4)) (λr2 h6 ms6 l6 hQ=>?_)))))));obtain⟨l6',rfl,gu,W,rfl,hW,RW⟩:=hQ;have l26:=AI l4 l6;refine Qa (Qo 6 Y (Af 1 0 Y Au Y Y (by rfl) Y Y (by decide) Y Y (Qa (Qo 7 Y (Af 0 0 Y Au Y Y (by rfl) Y Y (by decide) Y Y (Qa (Qe ?_)))))));exact Ao _ ⟨_,_,gt,gu,U,W,Y,l26,Y,RU.up l6,RW,hU,hW⟩ Qs
     exact AH
    refine Ai Y ?_ ?_
    ·refine Qx (oG Y BJ AO (s3 _ (B8) _)) Y (Qw (AG [1,5] (by kernel_rfl) Y ?_));refine Ai Y ?_ ?_
     ·refine Qc call64 Y (AK a va h2 hKa hA) (λr1 h4 ms4 l4 hQ=>?_);obtain⟨l4',rfl,gt,U,rfl,hU,RU⟩:=hQ;refine Qa (AG [3,5] (by kernel_rfl) Y ?_);refine Ai Y ?_ ?_
      ·refine Qc call64 Y (AK b vb h4 hKb (hB.up l4)) (λr2 h6 ms6 l6 hQ=>?_);obtain⟨l6',rfl,gu,W,rfl,hW,RW⟩:=hQ;have l26:=AI l4 l6;refine Qa (Qo 5 Y (By [.pointer none] Y Au Y Y (λg6=>Qa (Qo 6 Y (Af 1 0 Y Au Y Y (by rfl) Y Y (by decide) Y Y (Qa (Qo 7 Y (Af 0 0 Y Au Y Y (by rfl) Y Y (by decide) Y Y (Qa (Qe ?_))))))))));exact Ao _ ⟨_,_,gt,gu,U,W,Y,l26,Y,RU.up l6,RW,hU,hW⟩ Qs
      refine Ai Y ?_ ?_
      ·refine By [.pointer none] Y Au Y Y (λg6=>Qa (Qo 3 Y (Qc call64 Y (AK b vb h4 hKb (hB.up l4)) (λr2 h6 ms6 l6 hQ=>?_))));obtain⟨l6',rfl,gu,W,rfl,hW,RW⟩:=hQ;have l26:=AI l4 l6;refine Qa (Qo 6 Y (Af 1 0 Y Au Y Y (by rfl) Y Y (by decide) Y Y (Qa (Qo 7 Y (Af 0 0 Y Au Y Y (by rfl) Y Y (by decide) Y Y (Qa (Qe ?_)))))));exact Ao _ ⟨_,_,gt,gu,U,W,Y,l26,Y,RU.up l6,RW,hU,hW⟩ Qs
      exact AH
     refine Ai Y ?_ ?_
     ·refine By [.pointer none] Y Au Y Y (λg6=>Qw (Qo 1 Y (Qc call64 Y (AK a va h2 hKa hA) (λr1 h4 ms4 l4 hQ=>?_))));obtain⟨l4',rfl,gt,U,rfl,hU,RU⟩:=hQ;refine Qa (Qo 3 Y (Qc call64 Y (AK b vb h4 hKb (hB.up l4)) (λr2 h6 ms6 l6 hQ=>?_)));obtain⟨l6',rfl,gu,W,rfl,hW,RW⟩:=hQ;have l26:=AI l4 l6;refine Qa (Qo 6 Y (Af 1 0 Y Au Y Y (by rfl) Y Y (by decide) Y Y (Qa (Qo 7 Y (Af 0 0 Y Au Y Y (by rfl) Y Y (by decide) Y Y (Qa (Qe ?_)))))));exact Ao _ ⟨_,_,gt,gu,U,W,Y,l26,Y,RU.up l6,RW,hU,hW⟩ Qs
     exact AH
    refine Ai Y ?_ ?_
    ·refine By [.pointer none] Y Au Y Y (λg6=>Qw (AG [1,2] (by kernel_rfl) Y ?_));refine Ai Y ?_ ?_
     ·refine Qc call64 Y (AK a va h2 hKa hA) (λr1 h4 ms4 l4 hQ=>?_);obtain⟨l4',rfl,gt,U,rfl,hU,RU⟩:=hQ;refine Qa (Qo 2 Y (Qx (oG Y BJ AO (s3 _ (by assumption) _)) Y (Qa (Qo 3 Y (Qc call64 Y (AK b vb h4 hKb (hB.up l4)) (λr2 h6 ms6 l6 hQ=>?_))))));obtain⟨l6',rfl,gu,W,rfl,hW,RW⟩:=hQ;have l26:=AI l4 l6;refine Qa (Qo 6 Y (Af 1 0 Y Au Y Y (by rfl) Y Y (by decide) Y Y (Qa (Qo 7 Y (Af 0 0 Y Au Y Y (by rfl) Y Y (by decide) Y Y (Qa (Qe ?_)))))));exact Ao _ ⟨_,_,gt,gu,U,W,Y,l26,Y,RU.up l6,RW,hU,hW⟩ Qs
     refine Ai Y ?_ ?_
     ·refine Qx (oG Y BJ AO (s3 _ (B8) _)) Y (Qw (Qo 1 Y (Qc call64 Y (AK a va h2 hKa hA) (λr1 h4 ms4 l4 hQ=>?_))));obtain⟨l4',rfl,gt,U,rfl,hU,RU⟩:=hQ;refine Qa (Qo 3 Y (Qc call64 Y (AK b vb h4 hKb (hB.up l4)) (λr2 h6 ms6 l6 hQ=>?_)));obtain⟨l6',rfl,gu,W,rfl,hW,RW⟩:=hQ;have l26:=AI l4 l6;refine Qa (Qo 6 Y (Af 1 0 Y Au Y Y (by rfl) Y Y (by decide) Y Y (Qa (Qo 7 Y (Af 0 0 Y Au Y Y (by rfl) Y Y (by decide) Y Y (Qa (Qe ?_)))))));exact Ao _ ⟨_,_,gt,gu,U,W,Y,l26,Y,RU.up l6,RW,hU,hW⟩ Qs
     exact AH
    exact AH
   refine Ai Y ?_ ?_
   ·refine Qx (oG Y BJ AO (s3 _ (B8) _)) Y (Qw (AG [0,5] (by kernel_rfl) Y ?_));refine Ai Y ?_ ?_
    ·refine Qx (oG Y BJ AO (s2 _ (B8) _)) Y (Qw (AG [1,5] (by kernel_rfl) Y ?_));refine Ai Y ?_ ?_
     ·refine Qc call64 Y (AK a va h2 hKa hA) (λr1 h4 ms4 l4 hQ=>?_);obtain⟨l4',rfl,gt,U,rfl,hU,RU⟩:=hQ;refine Qa (AG [3,5] (by kernel_rfl) Y ?_);refine Ai Y ?_ ?_
      ·refine Qc call64 Y (AK b vb h4 hKb (hB.up l4)) (λr2 h6 ms6 l6 hQ=>?_);obtain⟨l6',rfl,gu,W,rfl,hW,RW⟩:=hQ;have l26:=AI l4 l6;refine Qa (Qo 5 Y (By [.pointer none] Y Au Y Y (λg6=>Qa (Qo 6 Y (Af 1 0 Y Au Y Y (by rfl) Y Y (by decide) Y Y (Qa (Qo 7 Y (Af 0 0 Y Au Y Y (by rfl) Y Y (by decide) Y Y (Qa (Qe ?_))))))))));exact Ao _ ⟨_,_,gt,gu,U,W,Y,l26,Y,RU.up l6,RW,hU,hW⟩ Qs
      refine Ai Y ?_ ?_
      ·refine By [.pointer none] Y Au Y Y (λg6=>Qa (Qo 3 Y (Qc call64 Y (AK b vb h4 hKb (hB.up l4)) (λr2 h6 ms6 l6 hQ=>?_))));obtain⟨l6',rfl,gu,W,rfl,hW,RW⟩:=hQ;have l26:=AI l4 l6;refine Qa (Qo 6 Y (Af 1 0 Y Au Y Y (by rfl) Y Y (by decide) Y Y (Qa (Qo 7 Y (Af 0 0 Y Au Y Y (by rfl) Y Y (by decide) Y Y (Qa (Qe ?_)))))));exact Ao _ ⟨_,_,gt,gu,U,W,Y,l26,Y,RU.up l6,RW,hU,hW⟩ Qs
      exact AH
     refine Ai Y ?_ ?_
     ·refine By [.pointer none] Y Au Y Y (λg6=>Qw (Qo 1 Y (Qc call64 Y (AK a va h2 hKa hA) (λr1 h4 ms4 l4 hQ=>?_))));obtain⟨l4',rfl,gt,U,rfl,hU,RU⟩:=hQ;refine Qa (Qo 3 Y (Qc call64 Y (AK b vb h4 hKb (hB.up l4)) (λr2 h6 ms6 l6 hQ=>?_)));obtain⟨l6',rfl,gu,W,rfl,hW,RW⟩:=hQ;have l26:=AI l4 l6;refine Qa (Qo 6 Y (Af 1 0 Y Au Y Y (by rfl) Y Y (by decide) Y Y (Qa (Qo 7 Y (Af 0 0 Y Au Y Y (by rfl) Y Y (by decide) Y Y (Qa (Qe ?_)))))));exact Ao _ ⟨_,_,gt,gu,U,W,Y,l26,Y,RU.up l6,RW,hU,hW⟩ Qs
     exact AH
    refine Ai Y ?_ ?_
    ·refine By [.pointer none] Y Au Y Y (λg6=>Qw (Qo 0 Y (Qx (oG Y BJ AO (s2 _ (B8) _)) Y (Qw (Qo 1 Y (Qc call64 Y (AK a va h2 hKa hA) (λr1 h4 ms4 l4 hQ=>?_)))))));obtain⟨l4',rfl,gt,U,rfl,hU,RU⟩:=hQ;refine Qa (Qo 3 Y (Qc call64 Y (AK b vb h4 hKb (hB.up l4)) (λr2 h6 ms6 l6 hQ=>?_)));obtain⟨l6',rfl,gu,W,rfl,hW,RW⟩:=hQ;have l26:=AI l4 l6;refine Qa (Qo 6 Y (Af 1 0 Y Au Y Y (by rfl) Y Y (by decide) Y Y (Qa (Qo 7 Y (Af 0 0 Y Au Y Y (by rfl) Y Y (by decide) Y Y (Qa (Qe ?_)))))));exact Ao _ ⟨_,_,gt,gu,U,W,Y,l26,Y,RU.up l6,RW,hU,hW⟩ Qs
    exact AH
   refine Ai Y ?_ ?_
   ·refine By [.pointer none] Y Au Y Y (λg6=>Qw (AG [0,2] (by kernel_rfl) Y ?_));refine Ai Y ?_ ?_
    ·refine Qx (oG Y BJ AO (s2 _ (B8) _)) Y (Qw (AG [1,2] (by kernel_rfl) Y ?_));refine Ai Y ?_ ?_
     ·refine Qc call64 Y (AK a va h2 hKa hA) (λr1 h4 ms4 l4 hQ=>?_);obtain⟨l4',rfl,gt,U,rfl,hU,RU⟩:=hQ;refine Qa (Qo 2 Y (Qx (oG Y BJ AO (s3 _ (by assumption) _)) Y (Qa (Qo 3 Y (Qc call64 Y (AK b vb h4 hKb (hB.up l4)) (λr2 h6 ms6 l6 hQ=>?_))))));obtain⟨l6',rfl,gu,W,rfl,hW,RW⟩:=hQ;have l26:=AI l4 l6;refine Qa (Qo 6 Y (Af 1 0 Y Au Y Y (by rfl) Y Y (by decide) Y Y (Qa (Qo 7 Y (Af 0 0 Y Au Y Y (by rfl) Y Y (by decide) Y Y (Qa (Qe ?_)))))));exact Ao _ ⟨_,_,gt,gu,U,W,Y,l26,Y,RU.up l6,RW,hU,hW⟩ Qs
     refine Ai Y ?_ ?_
     ·refine Qx (oG Y BJ AO (s3 _ (B8) _)) Y (Qw (Qo 1 Y (Qc call64 Y (AK a va h2 hKa hA) (λr1 h4 ms4 l4 hQ=>?_))));obtain⟨l4',rfl,gt,U,rfl,hU,RU⟩:=hQ;refine Qa (Qo 3 Y (Qc call64 Y (AK b vb h4 hKb (hB.up l4)) (λr2 h6 ms6 l6 hQ=>?_)));obtain⟨l6',rfl,gu,W,rfl,hW,RW⟩:=hQ;have l26:=AI l4 l6;refine Qa (Qo 6 Y (Af 1 0 Y Au Y Y (by rfl) Y Y (by decide) Y Y (Qa (Qo 7 Y (Af 0 0 Y Au Y Y (by rfl) Y Y (by decide) Y Y (Qa (Qe ?_)))))));exact Ao _ ⟨_,_,gt,gu,U,W,Y,l26,Y,RU.up l6,RW,hU,hW⟩ Qs
     exact AH
    refine Ai Y ?_ ?_
    ·refine Qx (oG Y BJ AO (s3 _ (B8) _)) Y (Qw (Qo 0 Y (Qx (oG Y BJ AO (s2 _ (B8) _)) Y (Qw (Qo 1 Y (Qc call64 Y (AK a va h2 hKa hA) (λr1 h4 ms4 l4 hQ=>?_)))))));obtain⟨l4',rfl,gt,U,rfl,hU,RU⟩:=hQ;refine Qa (Qo 3 Y (Qc call64 Y (AK b vb h4 hKb (hB.up l4)) (λr2 h6 ms6 l6 hQ=>?_)));obtain⟨l6',rfl,gu,W,rfl,hW,RW⟩:=hQ;have l26:=AI l4 l6;refine Qa (Qo 6 Y (Af 1 0 Y Au Y Y (by rfl) Y Y (by decide) Y Y (Qa (Qo 7 Y (Af 0 0 Y Au Y Y (by rfl) Y Y (by decide) Y Y (Qa (Qe ?_)))))));exact Ao _ ⟨_,_,gt,gu,U,W,Y,l26,Y,RU.up l6,RW,hU,hW⟩ Qs
    exact AH
   exact AH
  refine Ai Y ?_ ?_
  ·refine By [.pointer none] Y Au Y Y (λg6=>Qw (AG [0,2,4] (by kernel_rfl) Y ?_));refine Ai Y ?_ ?_
   ·refine Qx (oG Y BJ AO (s2 _ (B8) _)) Y (Qw (AG [1,2,4] (by kernel_rfl) Y ?_));refine Ai Y ?_ ?_
    ·refine Qc call64 Y (AK a va h2 hKa hA) (λr1 h4 ms4 l4 hQ=>?_);obtain⟨l4',rfl,gt,U,rfl,hU,RU⟩:=hQ;refine Qa (AG [2,4] (by kernel_rfl) Y ?_);refine Ai Y ?_ ?_
     ·refine Qx (oG Y BJ AO (s3 _ (by assumption) _)) Y (Qa (AG [3,4] (by kernel_rfl) Y ?_));refine Ai Y ?_ ?_
      ·refine Qc call64 Y (AK b vb h4 hKb (hB.up l4)) (λr2 h6 ms6 l6 hQ=>?_);obtain⟨l6',rfl,gu,W,rfl,hW,RW⟩:=hQ;have l26:=AI l4 l6;refine Qa (Qo 4 Y (By [.pointer none] Y Au Y Y (λg5=>Qa (Qo 6 Y (Af 0 0 Y Au Y Y (by rfl) Y Y (by decide) Y Y (Qa (Qo 7 Y (Af 1 0 Y Au Y Y (by rfl) Y Y (by decide) Y Y (Qa (Qe ?_))))))))))
       (refine Bi ?_;exact Ao _ ⟨_,_,gt,gu,U,W,Y,l26,Y,RU.up l6,RW,hU,hW⟩ Qs)
      refine Ai Y ?_ ?_
      ·refine By [.pointer none] Y Au Y Y (λg5=>Qa (Qo 3 Y (Qc call64 Y (AK b vb h4 hKb (hB.up l4)) (λr2 h6 ms6 l6 hQ=>?_))));obtain⟨l6',rfl,gu,W,rfl,hW,RW⟩:=hQ;have l26:=AI l4 l6;refine Qa (Qo 6 Y (Af 0 0 Y Au Y Y (by rfl) Y Y (by decide) Y Y (Qa (Qo 7 Y (Af 1 0 Y Au Y Y (by rfl) Y Y (by decide) Y Y (Qa (Qe ?_)))))))
       (refine Bi ?_;exact Ao _ ⟨_,_,gt,gu,U,W,Y,l26,Y,RU.up l6,RW,hU,hW⟩ Qs)
      exact AH
     refine Ai Y ?_ ?_
     ·refine By [.pointer none] Y Au Y Y (λg5=>Qa (Qo 2 Y (Qx (oG Y BJ AO (s3 _ (by assumption) _)) Y (Qa (Qo 3 Y (Qc call64 Y (AK b vb h4 hKb (hB.up l4)) (λr2 h6 ms6 l6 hQ=>?_)))))));obtain⟨l6',rfl,gu,W,rfl,hW,RW⟩:=hQ;have l26:=AI l4 l6;refine Qa (Qo 6 Y (Af 0 0 Y Au Y Y (by rfl) Y Y (by decide) Y Y (Qa (Qo 7 Y (Af 1 0 Y Au Y Y (by rfl) Y Y (by decide) Y Y (Qa (Qe ?_)))))))
      (refine Bi ?_;exact Ao _ ⟨_,_,gt,gu,U,W,Y,l26,Y,RU.up l6,RW,hU,hW⟩ Qs)
     exact AH
    refine Ai Y ?_ ?_
    ·refine Qx (oG Y BJ AO (s3 _ (B8) _)) Y (Qw (AG [1,4] (by kernel_rfl) Y ?_));refine Ai Y ?_ ?_
     ·refine Qc call64 Y (AK a va h2 hKa hA) (λr1 h4 ms4 l4 hQ=>?_);obtain⟨l4',rfl,gt,U,rfl,hU,RU⟩:=hQ;refine Qa (AG [3,4] (by kernel_rfl) Y ?_);refine Ai Y ?_ ?_
      ·refine Qc call64 Y (AK b vb h4 hKb (hB.up l4)) (λr2 h6 ms6 l6 hQ=>?_);obtain⟨l6',rfl,gu,W,rfl,hW,RW⟩:=hQ;have l26:=AI l4 l6;refine Qa (Qo 4 Y (By [.pointer none] Y Au Y Y (λg5=>Qa (Qo 6 Y (Af 0 0 Y Au Y Y (by rfl) Y Y (by decide) Y Y (Qa (Qo 7 Y (Af 1 0 Y Au Y Y (by rfl) Y Y (by decide) Y Y (Qa (Qe ?_))))))))))
       (refine Bi ?_;exact Ao _ ⟨_,_,gt,gu,U,W,Y,l26,Y,RU.up l6,RW,hU,hW⟩ Qs)
      refine Ai Y ?_ ?_
      ·refine By [.pointer none] Y Au Y Y (λg5=>Qa (Qo 3 Y (Qc call64 Y (AK b vb h4 hKb (hB.up l4)) (λr2 h6 ms6 l6 hQ=>?_))));obtain⟨l6',rfl,gu,W,rfl,hW,RW⟩:=hQ;have l26:=AI l4 l6;refine Qa (Qo 6 Y (Af 0 0 Y Au Y Y (by rfl) Y Y (by decide) Y Y (Qa (Qo 7 Y (Af 1 0 Y Au Y Y (by rfl) Y Y (by decide) Y Y (Qa (Qe ?_)))))))
       (refine Bi ?_;exact Ao _ ⟨_,_,gt,gu,U,W,Y,l26,Y,RU.up l6,RW,hU,hW⟩ Qs)
      exact AH
     refine Ai Y ?_ ?_
     ·refine By [.pointer none] Y Au Y Y (λg5=>Qw (Qo 1 Y (Qc call64 Y (AK a va h2 hKa hA) (λr1 h4 ms4 l4 hQ=>?_))));obtain⟨l4',rfl,gt,U,rfl,hU,RU⟩:=hQ;refine Qa (Qo 3 Y (Qc call64 Y (AK b vb h4 hKb (hB.up l4)) (λr2 h6 ms6 l6 hQ=>?_)));obtain⟨l6',rfl,gu,W,rfl,hW,RW⟩:=hQ;have l26:=AI l4 l6;refine Qa (Qo 6 Y (Af 0 0 Y Au Y Y (by rfl) Y Y (by decide) Y Y (Qa (Qo 7 Y (Af 1 0 Y Au Y Y (by rfl) Y Y (by decide) Y Y (Qa (Qe ?_)))))))
      (refine Bi ?_;exact Ao _ ⟨_,_,gt,gu,U,W,Y,l26,Y,RU.up l6,RW,hU,hW⟩ Qs)
     exact AH
    refine Ai Y ?_ ?_
    ·refine By [.pointer none] Y Au Y Y (λg5=>Qw (AG [1,2] (by kernel_rfl) Y ?_));refine Ai Y ?_ ?_
     ·refine Qc call64 Y (AK a va h2 hKa hA) (λr1 h4 ms4 l4 hQ=>?_);obtain⟨l4',rfl,gt,U,rfl,hU,RU⟩:=hQ;refine Qa (Qo 2 Y (Qx (oG Y BJ AO (s3 _ (by assumption) _)) Y (Qa (Qo 3 Y (Qc call64 Y (AK b vb h4 hKb (hB.up l4)) (λr2 h6 ms6 l6 hQ=>?_))))));obtain⟨l6',rfl,gu,W,rfl,hW,RW⟩:=hQ;have l26:=AI l4 l6;refine Qa (Qo 6 Y (Af 0 0 Y Au Y Y (by rfl) Y Y (by decide) Y Y (Qa (Qo 7 Y (Af 1 0 Y Au Y Y (by rfl) Y Y (by decide) Y Y (Qa (Qe ?_)))))))
      (refine Bi ?_;exact Ao _ ⟨_,_,gt,gu,U,W,Y,l26,Y,RU.up l6,RW,hU,hW⟩ Qs)
     refine Ai Y ?_ ?_
     ·refine Qx (oG Y BJ AO (s3 _ (B8) _)) Y (Qw (Qo 1 Y (Qc call64 Y (AK a va h2 hKa hA) (λr1 h4 ms4 l4 hQ=>?_))));obtain⟨l4',rfl,gt,U,rfl,hU,RU⟩:=hQ;refine Qa (Qo 3 Y (Qc call64 Y (AK b vb h4 hKb (hB.up l4)) (λr2 h6 ms6 l6 hQ=>?_)));obtain⟨l6',rfl,gu,W,rfl,hW,RW⟩:=hQ;have l26:=AI l4 l6;refine Qa (Qo 6 Y (Af 0 0 Y Au Y Y (by rfl) Y Y (by decide) Y Y (Qa (Qo 7 Y (Af 1 0 Y Au Y Y (by rfl) Y Y (by decide) Y Y (Qa (Qe ?_)))))))
      (refine Bi ?_;exact Ao _ ⟨_,_,gt,gu,U,W,Y,l26,Y,RU.up l6,RW,hU,hW⟩ Qs)
     exact AH
    exact AH
   refine Ai Y ?_ ?_
   ·refine Qx (oG Y BJ AO (s3 _ (B8) _)) Y (Qw (AG [0,4] (by kernel_rfl) Y ?_));refine Ai Y ?_ ?_
    ·refine Qx (oG Y BJ AO (s2 _ (B8) _)) Y (Qw (AG [1,4] (by kernel_rfl) Y ?_));refine Ai Y ?_ ?_
     ·refine Qc call64 Y (AK a va h2 hKa hA) (λr1 h4 ms4 l4 hQ=>?_);obtain⟨l4',rfl,gt,U,rfl,hU,RU⟩:=hQ;refine Qa (AG [3,4] (by kernel_rfl) Y ?_);refine Ai Y ?_ ?_
      ·refine Qc call64 Y (AK b vb h4 hKb (hB.up l4)) (λr2 h6 ms6 l6 hQ=>?_);obtain⟨l6',rfl,gu,W,rfl,hW,RW⟩:=hQ;have l26:=AI l4 l6;refine Qa (Qo 4 Y (By [.pointer none] Y Au Y Y (λg5=>Qa (Qo 6 Y (Af 0 0 Y Au Y Y (by rfl) Y Y (by decide) Y Y (Qa (Qo 7 Y (Af 1 0 Y Au Y Y (by rfl) Y Y (by decide) Y Y (Qa (Qe ?_))))))))))
       (refine Bi ?_;exact Ao _ ⟨_,_,gt,gu,U,W,Y,l26,Y,RU.up l6,RW,hU,hW⟩ Qs)
      refine Ai Y ?_ ?_
      ·refine By [.pointer none] Y Au Y Y (λg5=>Qa (Qo 3 Y (Qc call64 Y (AK b vb h4 hKb (hB.up l4)) (λr2 h6 ms6 l6 hQ=>?_))));obtain⟨l6',rfl,gu,W,rfl,hW,RW⟩:=hQ;have l26:=AI l4 l6;refine Qa (Qo 6 Y (Af 0 0 Y Au Y Y (by rfl) Y Y (by decide) Y Y (Qa (Qo 7 Y (Af 1 0 Y Au Y Y (by rfl) Y Y (by decide) Y Y (Qa (Qe ?_)))))))
       (refine Bi ?_;exact Ao _ ⟨_,_,gt,gu,U,W,Y,l26,Y,RU.up l6,RW,hU,hW⟩ Qs)
      exact AH
     refine Ai Y ?_ ?_
     ·refine By [.pointer none] Y Au Y Y (λg5=>Qw (Qo 1 Y (Qc call64 Y (AK a va h2 hKa hA) (λr1 h4 ms4 l4 hQ=>?_))));obtain⟨l4',rfl,gt,U,rfl,hU,RU⟩:=hQ;refine Qa (Qo 3 Y (Qc call64 Y (AK b vb h4 hKb (hB.up l4)) (λr2 h6 ms6 l6 hQ=>?_)));obtain⟨l6',rfl,gu,W,rfl,hW,RW⟩:=hQ;have l26:=AI l4 l6;refine Qa (Qo 6 Y (Af 0 0 Y Au Y Y (by rfl) Y Y (by decide) Y Y (Qa (Qo 7 Y (Af 1 0 Y Au Y Y (by rfl) Y Y (by decide) Y Y (Qa (Qe ?_)))))))
      (refine Bi ?_;exact Ao _ ⟨_,_,gt,gu,U,W,Y,l26,Y,RU.up l6,RW,hU,hW⟩ Qs)
     exact AH
    refine Ai Y ?_ ?_
    ·refine By [.pointer none] Y Au Y Y (λg5=>Qw (Qo 0 Y (Qx (oG Y BJ AO (s2 _ (B8) _)) Y (Qw (Qo 1 Y (Qc call64 Y (AK a va h2 hKa hA) (λr1 h4 ms4 l4 hQ=>?_)))))));obtain⟨l4',rfl,gt,U,rfl,hU,RU⟩:=hQ;refine Qa (Qo 3 Y (Qc call64 Y (AK b vb h4 hKb (hB.up l4)) (λr2 h6 ms6 l6 hQ=>?_)));obtain⟨l6',rfl,gu,W,rfl,hW,RW⟩:=hQ;have l26:=AI l4 l6;refine Qa (Qo 6 Y (Af 0 0 Y Au Y Y (by rfl) Y Y (by decide) Y Y (Qa (Qo 7 Y (Af 1 0 Y Au Y Y (by rfl) Y Y (by decide) Y Y (Qa (Qe ?_)))))))
     (refine Bi ?_;exact Ao _ ⟨_,_,gt,gu,U,W,Y,l26,Y,RU.up l6,RW,hU,hW⟩ Qs)
    exact AH
   refine Ai Y ?_ ?_
   ·refine By [.pointer none] Y Au Y Y (λg5=>Qw (AG [0,2] (by kernel_rfl) Y ?_));refine Ai Y ?_ ?_
    ·refine Qx (oG Y BJ AO (s2 _ (B8) _)) Y (Qw (AG [1,2] (by kernel_rfl) Y ?_));refine Ai Y ?_ ?_
     ·refine Qc call64 Y (AK a va h2 hKa hA) (λr1 h4 ms4 l4 hQ=>?_);obtain⟨l4',rfl,gt,U,rfl,hU,RU⟩:=hQ;refine Qa (Qo 2 Y (Qx (oG Y BJ AO (s3 _ (by assumption) _)) Y (Qa (Qo 3 Y (Qc call64 Y (AK b vb h4 hKb (hB.up l4)) (λr2 h6 ms6 l6 hQ=>?_))))));obtain⟨l6',rfl,gu,W,rfl,hW,RW⟩:=hQ;have l26:=AI l4 l6;refine Qa (Qo 6 Y (Af 0 0 Y Au Y Y (by rfl) Y Y (by decide) Y Y (Qa (Qo 7 Y (Af 1 0 Y Au Y Y (by rfl) Y Y (by decide) Y Y (Qa (Qe ?_)))))))
      (refine Bi ?_;exact Ao _ ⟨_,_,gt,gu,U,W,Y,l26,Y,RU.up l6,RW,hU,hW⟩ Qs)
     refine Ai Y ?_ ?_
     ·refine Qx (oG Y BJ AO (s3 _ (B8) _)) Y (Qw (Qo 1 Y (Qc call64 Y (AK a va h2 hKa hA) (λr1 h4 ms4 l4 hQ=>?_))));obtain⟨l4',rfl,gt,U,rfl,hU,RU⟩:=hQ;refine Qa (Qo 3 Y (Qc call64 Y (AK b vb h4 hKb (hB.up l4)) (λr2 h6 ms6 l6 hQ=>?_)));obtain⟨l6',rfl,gu,W,rfl,hW,RW⟩:=hQ;have l26:=AI l4 l6;refine Qa (Qo 6 Y (Af 0 0 Y Au Y Y (by rfl) Y Y (by decide) Y Y (Qa (Qo 7 Y (Af 1 0 Y Au Y Y (by rfl) Y Y (by decide) Y Y (Qa (Qe ?_)))))))
      (refine Bi ?_;exact Ao _ ⟨_,_,gt,gu,U,W,Y,l26,Y,RU.up l6,RW,hU,hW⟩ Qs)
     exact AH
    refine Ai Y ?_ ?_
    ·refine Qx (oG Y BJ AO (s3 _ (B8) _)) Y (Qw (Qo 0 Y (Qx (oG Y BJ AO (s2 _ (B8) _)) Y (Qw (Qo 1 Y (Qc call64 Y (AK a va h2 hKa hA) (λr1 h4 ms4 l4 hQ=>?_)))))));obtain⟨l4',rfl,gt,U,rfl,hU,RU⟩:=hQ;refine Qa (Qo 3 Y (Qc call64 Y (AK b vb h4 hKb (hB.up l4)) (λr2 h6 ms6 l6 hQ=>?_)));obtain⟨l6',rfl,gu,W,rfl,hW,RW⟩:=hQ;have l26:=AI l4 l6;refine Qa (Qo 6 Y (Af 0 0 Y Au Y Y (by rfl) Y Y (by decide) Y Y (Qa (Qo 7 Y (Af 1 0 Y Au Y Y (by rfl) Y Y (by decide) Y Y (Qa (Qe ?_)))))))
     (refine Bi ?_;exact Ao _ ⟨_,_,gt,gu,U,W,Y,l26,Y,RU.up l6,RW,hU,hW⟩ Qs)
    exact AH
   exact AH
  exact AH
 ·obtain⟨g5,g6,gt,gu,U,W,rfl,l3,rfl,RU,RW,hU,hW⟩:=hI;refine AB λh7 l7 hS6=>(AB λh8 l8 hS5=>?_)
  have l78:=AI l7 l8;have hS6:=hS6.le l8;have RU:=RU.up l78;have RW:=RW.up l78;obtain⟨ndU,hn,hi⟩:=hKa.table hU;obtain⟨ndW,_,_⟩:=hKb.table hW;have hnU:(U.map λa=>a.c.id).Nodup:=by rw[map_map]at ndU;exact ndU
  have hid:∀x∈U,BP x.c.id:=λx hx=>by
   have h1:x.c∈cn a:=by rw[<-hU];exact List.mem_map.2 ⟨x,hx,Y⟩
   have h2:=hKa.F.rgt.pos _ h1;have h3:=hKa.ci h1;unfold BP;omega
  have hsb:∀y∈U,∃z∈W,z.c=y.c:=λy hy=>by
   have h1:y.c∈cn a:=by rw[<-hU];exact List.mem_map.2 ⟨y,hy,Y⟩
   have h2:=hsub _ h1;rw[<-hW]at h2;obtain⟨z,hz,e⟩:=List.mem_map.1 h2;exact⟨z,hz,e⟩
  have hUl:U.length<=1000000:=by have h1:=congrArg List.length hU;rw[length_map,C6]at h1;have h2:=hKa.F.rgt.n;rw[C6]at h2;omega
  have c5:∀h',h8.le h'->∀ms,Cell h' ms (⟨g5,0,none⟩:Addr) (.pointer (some ⟨gt,0,none⟩)):=λh' l' ms=>(Seg.all hS5 0 _ Y ms).le l';have c6:∀h',h8.le h'->∀ms,Cell h' ms (⟨g6,0,none⟩:Addr) (.pointer (some ⟨gu,0,none⟩)):=λh' l' ms=>(Seg.all hS6 0 _ Y ms).le l';refine Aw (Ql Y UN (c5 _ (B8) _) (Qx (BM Y Y Y) Y (Qc call80 Y (QJ gt U 81 [.pointer (some ⟨g5,0,none⟩),.pointer (some ⟨g6,0,none⟩)] (λ_=>true) h8 RU hnU hid hUl (λ_ _=>rfl) (λx hx h' l' ms=>W4 x U W g5 g6 gt gu h' (c5 h' l') (c6 h' l') (RU.up l') (RW.up l') ndU ndW hn hi hid hsb hx ms)) (λr3 h9 ms9 l9 hQ=>?_))));obtain⟨l9',v9,m9,rfl,rfl,hO9⟩:=hQ;rw[List.filter_eq_self.2 (λ_ _=>rfl)]at hO9;obtain⟨_,_,_,_,_,_,_,_,hsU⟩:=RU.up l9';have ov9:=hO9.o1;refine Sa 1 [_] AO Y (by simp[ov9]) ?_;refine Ap (Aq ?_);exact BB (vs:=[_]) 1 Y Y BJ Y AO Y Y (⟨AI l12 (AI l3 (AI l78 l9')),m9,U,_,Y,Y,hO9,hU,hsU⟩)
variable {h:Hp}
theorem FnV.toT{P:Program}{f:FuncId}{args:Array Value}{v:Value}(k:FnV P f args h [] v):FnT P f args h [] (λr h' ms'=>h.le h'/\ms'=[]/\r=v):=
 λw hw=>(k w hw).mono λx w' ⟨e1,e2⟩=>⟨v,h,[],e1,(Ends.refl hw).ext e2,B8,rfl,rfl⟩
theorem RgC.sub{l A:List Ce}{F:List (Int×Int)}{t:Int}(hK:RgC l)(hmon:∀x∈cn l,∀s∈x.sd,Dn (BI F) s.1<=Dn (BI F) x.id)(hA:A.map Ce.c=Dm F t (cn l)):RgC A/\cn A=Dm F t (cn l):=by
 have R:=hK.F.sub hmon t;have R':RgtF (A.map Ce.c):=by rw[hA];exact R
 refine⟨⟨R'.rgt,λa ha=>?_⟩,by rw[Nl R',hA]⟩;have h1:a.c∈Dm F t (cn l):=by rw[<-hA];exact List.mem_map.2 ⟨a,ha,Y⟩
 exact hK.ci (List.mem_filter.1 h1).1
theorem RgC.same{l A:List Ce}(hK:RgC l)(hA:A.map Ce.c=cn l):RgC A/\cn A=cn l:=by
 have R':RgtF (A.map Ce.c):=by rw[hA];exact hK.F
 refine⟨⟨R'.rgt,λa ha=>?_⟩,by rw[Nl R',hA]⟩;exact hK.ci (by rw[<-hA];exact List.mem_map.2 ⟨a,ha,Y⟩)
theorem XI{o:List Cl}{F:List (Int×Int)}{s t:Int}(h:s<=t):∀y∈Dm F s o,y∈Dm F t o:=λy hy=>by obtain⟨h1,h2⟩:=List.mem_filter.1 hy;have h3:Dn (BI F) y.id<=s:=of_decide_eq_true h2;exact List.mem_filter.2 ⟨h1,decide_eq_true (by omega)⟩
theorem YV{a b:List Ce}{va vb:Value}(hKa:RgC a)(hKb:RgC b)(hA:RdC h va a)(hB:RdC h vb b)(e:cn a=cn b):FnT Tryz.prog 29 #[.agg #[va],.agg #[vb]] h [] (λr h' ms'=>h.le h'/\ms'=[]/\r=.bool true):=by have:=AaK a b va vb h hKa hKb hA hB [];rw[decide_eq_true e]at this;exact FnV.toT this
theorem U7{a b:List Ce}{va vb:Value}(hKa:RgC a)(hKb:RgC b)(hA:RdC h va a)(hB:RdC h vb b)(e:cn a=cn b):FnT Tryz.prog 31 #[.agg #[va],.agg #[vb]] h [] (λr h' ms'=>h.le h'/\ms'=[]/\r=.bool true):=by have:=Aad a b va vb h hKa hKb hA hB [];rw[decide_eq_true e]at this;exact FnV.toT this
end Go.Proofs.Q
namespace Go.Proofs.Q
open Go.Eng Go.RowKit Go.Lin
section
variable {p:Int} {n:Nat} {D:Nat->Nat->Int} {dm:Nat->Int} {pos:Nat->Nat} {v v':Nat->Nat->Int} {low low':Nat->Option Nat}
theorem Ww(R:Rdc p n D dm pos v low)(R':Rdc p n D dm pos v' low'){j i:Nat}(hj:j<n)(h:low j=some i):∃k,k<n/\low' k=some i/\pos k<=pos j:=by
 obtain⟨C,hC⟩:=R.chg R' (f:=λi=>(pos i:Int)) (g:=λi=>(pos i:Int)) (δ:=0) (λi j _ _ h=>by show(pos i:Int)<=pos j;omega) (λi j _ _ h=>by show(pos i:Int)<=pos j;omega) (λi _=>by show(pos i:Int)<=pos i+0;omega) (dm j);have hlo:lo low j=i:=by unfold lo;rw[h];rfl
 have hb:Nz dm low (dm j) j=true:=prs_iff.2 ⟨Y,by rw[hlo];exact h⟩;obtain⟨h1,h2⟩:=hC j hj hb;obtain⟨hi,hn,hm⟩:=R.lsome j i hj h;have h3:¬p∣Ee n (Nz dm low' (dm j)) (C j) (λk=>Fx n D (v' k)) i:=λq=>hn ((h1 i hi).dvd_iff.2 q);obtain⟨k,hk,h4⟩:=YT h3;cases hbk:Nz dm low' (dm j) k with
 | false=>rw[hbk]at h4;exact absurd (Int.dvd_zero p) h4
 | true=>
  rw[hbk]at h4;have h4:¬p∣C j k*Fx n D (v' k) i:=h4;have hc:¬p∣C j k:=λq=>h4 (Int.dvd_mul_of_dvd_left q);have hv:¬p∣Fx n D (v' k) i:=λq=>h4 (Int.dvd_mul_of_dvd_right q);obtain⟨h5,h6⟩:=h2 k hk hbk hc;rw[hlo]at h6;have T:=R'.prs_top hk hbk;have h7:=T.2.2 i hi hv;have h8:lo low' k=i:=R.pinj _ _ T.1 hi (by omega);exact⟨k,hk,by rw[<-h8];exact(prs_iff.1 hbk).2,by omega⟩
theorem Zj(R:Rdc p n D dm pos v low)(R':Rdc p n D dm pos v' low'){j:Nat}(hj:j<n):low j=low' j:=by
 have key:∀{v v':Nat->Nat->Int} {low low':Nat->Option Nat},Rdc p n D dm pos v low->Rdc p n D dm pos v' low'->∀i,low j=some i->low' j=some i:=λ{v v' low low'} R R' i h=>by obtain⟨k,hk,h1,h2⟩:=Ww R R' hj h;obtain⟨j',hj',h3,h4⟩:=Ww R' R hk h1;have:j'=j:=R.linj j' j i hj' hj h3 h;subst this;have:k=j':=R.pinj _ _ hk hj (by omega);rw[<-this];exact h1
 cases h:low j with
 | some i=>exact(key R R' i h).symm
 | none=>
  cases h':low' j with
  | none=>rfl
  | some i=>have:=key R' R i h';rw[h]at this;cases this
end
section
variable {p:Int} {F F':List (Int×Int)} {l l' S S':List Ce} {R V R' V':Nat->List Int}
theorem ZC{f g:Int->Int}(hS:Nw f S)(hS':Nw g S')(hp:(S.map Ce.c).Perm (S'.map Ce.c))(hn:(S.map λa=>a.c.id).Nodup)(hfg:∀a∈S,∀b∈S,(f a.c.id<f b.c.id<->g a.c.id<g b.c.id)):S'.map Ce.c=S.map Ce.c:=by
 have hS1:(S.map Ce.c).Pairwise λa b=>f a.id<f b.id\/(f a.id=f b.id/\(a.dim<b.dim\/(a.dim=b.dim/\a.id<=b.id))):=List.pairwise_map.2 hS
 have hS2:(S'.map Ce.c).Pairwise λa b=>f a.id<f b.id\/(f a.id=f b.id/\(a.dim<b.dim\/(a.dim=b.dim/\a.id<=b.id))):=by have:(S'.map Ce.c).Pairwise λa b=>g a.id<g b.id\/(g a.id=g b.id/\(a.dim<b.dim\/(a.dim=b.dim/\a.id<=b.id))):=List.pairwise_map.2 hS';refine this.imp_of_mem λ{a b} ha hb h=>?_;obtain⟨x,hx,rfl⟩:=List.mem_map.1 (hp.mem_iff.2 ha);obtain⟨y,hy,rfl⟩:=List.mem_map.1 (hp.mem_iff.2 hb);have h1:=hfg x hx y hy;have h2:=hfg y hy x hx;omega
 have hinj:∀a∈S.map Ce.c,∀b∈S.map Ce.c,a.id=b.id->a=b:=λa ha b hb e=>by
  have hn':((S.map Ce.c).map Cl.id).Nodup:=by rw[map_map];exact hn
  have h1:=Dh hn' ha;have h2:=Dh hn' hb;rw[e,h2]at h1;exact(Option.some.inj h1).symm
 refine(List.Perm.eq_of_pairwise (λa b ha hb h1 h2=>?_) hS1 hS2 hp).symm;exact hinj a ha b (hp.mem_iff.2 hb) (by omega)
end
end Go.Proofs.Q
namespace Go.Proofs.Q
open Go.Eng Go.RowKit Go.Lin
variable {S:List Ce}
theorem Z7{S':List Ce}(h:S'.map Ce.c=S.map Ce.c)(i:Nat):(S'.getD i default).c=(S.getD i default).c:=by
 have e:∀S:List Ce,(S.getD i default).c=(S.map Ce.c).getD i (default:Ce).c:=λS=>by simp only[List.getD,List.getElem?_map];cases S[i]?<;>rfl
 rw[e,e,h]
theorem Ow{S':List Ce}(f:Int->Int)(L:List Int)(h:S'.map Ce.c=S.map Ce.c)(n:Nat):Fi f S' L n=Fi f S L n:=by unfold Fi;congr 1;funext m;unfold K5;simp only[Z7 h]
def circC:List Cl:=[⟨1,0,[]⟩,⟨2,0,[]⟩,⟨3,1,[(1,-1),(2,1)]⟩,⟨4,1,[(1,-1),(2,1)]⟩]
def circF:List (Int×Int):=[(1,0),(2,1),(3,2),(4,5)]
def circB:List Br:=[⟨0,0,0,true,1,0⟩,⟨0,1,2,false,2,3⟩,⟨1,5,0,true,4,0⟩]
def circS:List Ce:=circC.map λc=>⟨c,undef⟩
theorem MP:circS.map Ce.c=circC:=rfl
def La(j i:Nat):Int:=if i=j\/(j=3/\i=2) then 1 else 0
def OC(j:Nat):Option Nat:=if j=2 then some 1 else none
theorem isP2:IsP 2:=⟨by decide,by decide,by decide⟩
theorem Vj:Rdc 2 4 (DM circC) (dmo circC) (tr circC circC) La OC:=by
 have h1:∀i,i<4->∀j,j<4->(2:Int)∣Fx 4 (DM circC) (λk=>DM circC k j) i:=by decide
 have h2:∀i,i<4->∀j,j<4->¬(2:Int)∣DM circC i j->dmo circC j=dmo circC i+1:=by decide
 have h3:∀i,i<4->∀j,j<4->tr circC circC i=tr circC circC j->i=j:=by decide
 have h4:∀j,j<4->j<4/\¬(2:Int)∣La j j/\∀i,i<4->¬(2:Int)∣La j i->tr circC circC i<=tr circC circC j:=by decide
 have h5:∀j,j<4->∀i,i<4->¬(2:Int)∣La j i->dmo circC i=dmo circC j:=by decide
 have h6:∀j,j<4->OC j=none->∀i,i<4->(2:Int)∣Fx 4 (DM circC) (La j) i:=by decide
 have h7:¬(2:Int)∣Fx 4 (DM circC) (La 2) 1/\∀i,i<4->¬(2:Int)∣Fx 4 (DM circC) (La 2) i->tr circC circC i<=tr circC circC 1:=by decide
 have h8:∀j i,OC j=some i->j=2/\i=1:=λj i h=>by
  unfold OC at h;split at h
  ·rename_i e;exact⟨e,(Option.some.inj h).symm⟩
  ·cases h
 refine⟨isP2.fld,λi j hi hj=>h1 i hi j hj,λi j hi hj=>h2 i hi j hj,λi j hi hj=>h3 i hi j hj,λj hj=>h4 j hj,λj i hj hi=>h5 j hj i hi,λj hj=>h6 j hj,λj i hj h=>?_,λj j' i hj hj' h h'=>?_⟩
 ·obtain⟨rfl,rfl⟩:=h8 j i h;exact⟨by decide,h7.1,h7.2⟩
 ·rw[(h8 _ _ h).1,(h8 _ _ h').1]
theorem Tr{l:List Ce}{R V:Nat->List Int}(H:PerH 2 circF l S R V)(hl:cn l=circC):Fi (Dn (BI circF)) S (Fa S R) S.length=circB:=by
 have hS:S.map Ce.c=circC:=by
  have h1:Nw (Dn (BI circF)) circS:=by unfold Nw;decide
  have:=ZC (f:=Dn (BI circF)) (g:=Dn (BI circF)) (S:=circS) (S':=S) h1 H.P.srt (by rw[MP,<-hl];exact H.P.perm.symm) (by decide) λ_ _ _ _=>Iff.rfl;rw[this,MP]
 have hn:S.length=4:=by have:=congrArg List.length hS;simpa[circC] using this
 have Q:=H.rdc;rw[hl,hn,hS]at Q
 have key:∀j,j<4->Bn (R j)=if j=2 then 1 else -1:=λj hj=>by
  have e:=Zj Q Vj hj;have h1:=(G8 (R j)).1;have h2:=(G8 (R j)).2;rw[(H.col j (by omega)).rl,hn]at h2;have ht:∀j,j<4->tr circC circC j=j:=by decide
  unfold Qu OC at e;rw[hS,ht j hj]at e;by_cases h0:0<=Bn (R j)
  ·rw[if_pos h0,ht _ (by omega)]at e;split at e
   ·rename_i h;rw[if_pos h];have:=Option.some.inj e;omega
   ·cases e
  ·rw[if_neg h0]at e;split at e
   ·cases e
   ·rename_i h;rw[if_neg h];omega
 have hL:Fa S R=[-1,-1,1,-1]:=by unfold Fa;rw[hn];show [Bn (R 0),Bn (R 1),Bn (R 2),Bn (R 3)]=_;rw[key 0 (by omega),key 1 (by omega),key 2 (by omega),key 3 (by omega)];rfl
 rw[hL,hn,Ow (S:=circS) (S':=S) _ _ (by rw[hS,MP]) 4];decide
end Go.Proofs.Q
namespace Go.Proofs.Q
open Go.Proofs.Tryz
open Go.Eng Go.RowKit
variable {D:Int}
theorem YI:Oh (E5 1)=circC:=by decide
theorem circ_rgtF:RgtF circC:=by
 have e:RX circC=circC:=by decide
 exact⟨by decide,by decide,by decide,λx hx=>by rw[<-e]at hx;obtain⟨y,_,rfl⟩:=List.mem_map.1 hx;exact⟨y,Y⟩,by decide,by decide⟩
theorem Lh:Fz circC circF=(0,0):=by decide
theorem Sh:Fz circC (circF.take 3)=(4,30):=by decide
theorem Sz:Fz circC [(1,0),(2,3),(3,2),(4,5)]=(3,44):=by decide
theorem IG(F:List (Int×Int))(hF:F=circF\/F=circF.take 3\/F=[(1,0),(2,3),(3,2),(4,5)]):Ls F:=by rcases hF with rfl|rfl|rfl<;>exact⟨by decide,by decide⟩
theorem J4:∀x∈circC,∀s∈x.sd,Dn (BI circF) s.1<=Dn (BI circF) x.id:=by decide
theorem circ_q:Xw circC circF:=by
 have:=VI circ_rgtF.rgt (λc=>Dn (BI circF) c) (by decide) J4;have e:(circC.map λx=>(x.id,Dn (BI circF) x.id))=circF:=by decide
 rwa [e]at this
theorem UL{o:List Cl}(h:J8 o D)(k:Int)(h1:∀c∈o,c.dim<=k)(h2:∃c∈o,c.dim=k)(h0:0<=k):D=k:=by
 obtain⟨a,b,c⟩:=h;obtain⟨y,hy,e⟩:=h2;have:=b y hy;rcases c with c|⟨z,hz,c⟩
 ·omega
 ·have:=h1 z hz;omega
theorem Yl{W:List Int}(hD:J8 (Dm circF 1 circC) D)(hl:W.length=(D+1).toNat)(key:∀d:Nat,((circB.filter (Br.at d 1)).length:Int)=if d<(D+1).toNat then W.getD d 0 else 0):W=[2]:=by
 obtain rfl:=UL hD 0 (by decide) (by decide) (by decide)
 match W,hl with
 | [a],_=>
  have h:=key 0;have h2:((circB.filter (Br.at (0:Nat) 1)).length:Int)=2:=by decide
  rw[h2,if_pos (by decide)]at h;rw[h];rfl
theorem X0{W:List Int}(hD:J8 (Dm circF 2 circC) D)(hl:W.length=(D+1).toNat)(key:∀d:Nat,((circB.filter (Br.at d 2)).length:Int)=if d<(D+1).toNat then W.getD d 0 else 0):W=[1,0]:=by
 obtain rfl:=UL hD 1 (by decide) (by decide) (by decide)
 match W,hl with
 | [a,b],_=>
  have h:=key 0;have h':=key 1;have h2:((circB.filter (Br.at (0:Nat) 2)).length:Int)=1:=by decide
  have h3:((circB.filter (Br.at (1:Nat) 2)).length:Int)=0:=by decide
  rw[h2,if_pos (by decide)]at h;rw[h3,if_pos (by decide)]at h';have e1:a=1:=h.symm;have e2:b=0:=h'.symm;rw[e1,e2]
theorem SG(hp:Hp):FnT Tryz.prog 43 #[] hp [] (λr h' ms'=>hp.le h'/\∃gF mC A vC,r=.tuple #[.agg #[vC],.slice (some ⟨gF,0,none⟩) 4 4]/\ms'=[Bw gF 47 [.int .i64 1,.int .i64 0,.int .i64 2,.int .i64 1,.int .i64 3,.int .i64 2,.int .i64 4,.int .i64 5],mC]/\OwnL cC 3 52 mC vC A/\A.map Ce.c=Oh (E5 1)/\∀a∈A,RdL cD 2 h' [] a.v a.c.sd):=by show FnT _ _ (List.toArray []) _ _ _;refine Av func43 ntmps43 Y Y (λw0 hw0=>?_);simp only[A3];refine Aw (By [.slice none 0 0] Y AO Y Y (λg0=>Qm Y (BN (Qc call45 Y (Ip 1 hp (by decide)) (λrC h2 ms2 l2 hF=>?_)))));obtain⟨l2',mC,A,vC,rfl,rfl,hOC,hA,hsd⟩:=hF;have oC:=hOC.o1;refine Qx (Bm VY [.int .i64 0,.int .i64 0] [(0,_)] [_,_] Y EV Y Y Qt Y) Y (Qx (Bm VY [.int .i64 0,.int .i64 0] [(0,_),(1,_)] [_,_] Y EV Y Y Qt Y) Y (Qx (Bm VY [.int .i64 0,.int .i64 0] [(0,_),(1,_)] [_,_] Y EV Y Y Qt Y) Y (Qx (Bm VY [.int .i64 0,.int .i64 0] [(0,_),(1,_)] [_,_] Y EV Y Y Qt Y) Y (AA [(0,_),(2,_),(4,_),(6,_)] [.int .i64 0,.int .i64 0,.int .i64 0,.int .i64 0,.int .i64 0,.int .i64 0,.int .i64 0,.int .i64 0] [_,_,_,_,_,_,_,_] Y Ny EV Y (by omega) (by kernel_rfl) Qt Y Y Y Y (λg7=>?_)))));refine Sa 2 [_] AO Y (by simp[oC]) ?_;refine Qm Y (Ap (Aq ?_));exact Gh (vs:=[_]) 2 Y Y Y BJ Y AO Y Y (⟨l2',_,mC,A,vC,Y,Y,hOC,hA,hsd⟩)
end Go.Proofs.Q

namespace Go.Proofs.Q
open Go.Proofs.Tryz
open Go.Eng Go.RowKit
theorem Hl:∀(l acc s:List Int),D6 acc l=some s->s.length<=acc.length+l.length
 | [],acc,s,e=>by have:acc=s:=Option.some.inj e;rw[<-this];exact Nat.le_add_right _ _
 | x::l,acc,s,e=>by
  unfold D6 at e;split at e
  ·have:=Hl l acc s e;rw[length_cons];omega
  ·split at e
   ·cases e
   ·have:=Hl l _ s e;rw[OO]at this;rw[length_cons];omega
theorem Lf:∀(ll acc all:List (List Int)),(∀l∈ll,l.length<=4)->Cz acc ll=some all->all.length<=acc.length+15*ll.length
 | [],acc,all,h,e=>by have:acc=all:=Option.some.inj e;rw[<-this];exact Nat.le_add_right _ _
 | l::ll,acc,all,h,e=>by
  rw[DC]at e;split at e
  ·cases e
  ·have h1:=Lf ll _ all (λx hx=>h x (List.mem_cons_of_mem _ hx)) e
   have h2:(R8 acc (D6 [] l)).length<=acc.length+15:=by
    cases hs:D6 [] l with
    | none=>exact Nat.le_add_right _ _
    | some s=>
     have h3:=Hl l [] s hs;have h4:=h l Mh;have h5:=Gv acc s (2^s.length-1);have h6:2^s.length<=16:=Nat.pow_le_pow_right (n:=2) (i:=s.length) (j:=4) (by decide) (by simp at h3;omega);show(CO acc s (2^s.length-1)).length<=_;omega
   rw[length_cons];omega
theorem Ub{ll:List (List Int)}(h:∀l∈ll,l.length<=4):(Eg ll).length<=15*ll.length:=by
 unfold Eg;cases e:Cz [] ll with
 | none=>simp
 | some all=>have:=Lf ll [] all h e;simpa using this
theorem UT{all:List (List Int)}{s t:List Int}(h:t∈H3 all s):t=s\/t∈all:=by
 unfold H3 at h;split at h
 ·exact .inr h
 ·rcases List.mem_append.1 h with h|h
  ·exact .inr (List.mem_of_mem_take h)
  ·rcases List.mem_cons.1 h with h|h
   ·exact .inl h
   ·exact .inr (List.mem_of_mem_drop h)
theorem LJ{all:List (List Int)}{s:List Int}(h:∀t∈all,t.length<=4)(hs:s.length<=4):∀b,∀t∈CO all s b,t.length<=4
 | 0,t,ht=>h t ht
 | b+1,t,ht=>by
  rcases UT ht with rfl|ht
  ·unfold Ei;rw[length_map];exact Nat.le_trans (List.length_filter_le _ _) (by rw[length_range];exact hs)
  ·exact LJ h hs b t ht
theorem KG:∀(ll acc all:List (List Int)),(∀l∈ll,l.length<=4)->(∀l∈acc,l.length<=4)->Cz acc ll=some all->∀l∈all,l.length<=4
 | [],acc,all,h,ha,e=>by have:acc=all:=Option.some.inj e;rw[<-this];exact ha
 | l::ll,acc,all,h,ha,e=>by
  rw[DC]at e;split at e
  ·cases e
  ·refine KG ll _ all (λx hx=>h x (List.mem_cons_of_mem _ hx)) ?_ e;cases hs:D6 [] l with
   | none=>exact ha
   | some s=>exact LJ ha (by have:=Hl l [] s hs;have:=h l Mh;simp at *;omega) _
theorem TX{ll:List (List Int)}(h:∀l∈ll,l.length<=4):∀x∈Eg ll,x.dim<=7:=by
 unfold Eg;cases e:Cz [] ll with
 | none=>nofun
 | some all=>
  intro x hx;obtain⟨i,hi,rfl⟩:=List.mem_map.1 hx;have hi:=List.mem_range.1 hi;have:=KG ll [] all h nofun e _ (getElem_mem hi);show((all.getD i []).length:Int)-1<=7;rw[show all.getD i []=all[i] by simp[List.getD,hi]];omega
theorem Nq(l:List Int)(v:Value)(hp:Hp)(hR:RdL cI 1 hp [] v l):FnT Tryz.prog 46 #[v] hp [] (λr h' ms'=>hp.le h'/\P8 h' r ms' (λo=>∃ll:List (List Int),ll.length<=l.length/\(∀s∈ll,s.length<=4)/\o=Eg ll)):=by
 have ov:=hR.rd.one;refine Av func46 ntmps46 Y Y (λw0 hw0=>?_);simp only[A3];refine Aw (By [.slice none 0 0] Y AO Y Y (λg2=>BN (Qm Y (Ap (Ac (Aw (Qm Y (Ap (Ah (BO ?_))))))))))
 refine AD (λq sl h' ms'=>∃(i:Nat) (v3:Value) (m3:Hp) (es:List Value) (ll:List (List Int)),q=12-i/\sl=[(0,v),(2,.pointer (some ⟨g2,0,none⟩)),(3,v3),(4,.int .i64 i)]/\hp.le h'/\ms'=[m3,Bw g2 29 [.slice none 0 0]]/\i<=12/\i<=l.length/\OwnL cW 1 22 m3 v3 es/\RdEs h' es ll/\ll.length=i/\∀s∈ll,s.length<=4)
  (12-0) _ ⟨0,_,Hp.emp,[],[],rfl,rfl,B8,rfl,by omega,by omega,OwnL.nil DG,RdEs.nil _,rfl,nofun⟩ Qs ?_
 rintro q sl h' ms' ⟨i,v3,m3,es,ll,rfl,rfl,lh,rfl,hi,hil,hO,hE,hll,h4⟩;have hR:=hR.up lh;have hel:=hE.1;have ov3:=hO.o1;refine Ac (Aw (Qm Y (Qm Y (Qx (As hR.rd.any Y A0 Y) Y (Qm Y (Qm Y ?_))))));refine AU (t:=11) Y (λh1=>?_) (λh1=>?_)
 ·refine Qg (AC Y Y) Y (Qg (Df Y Y Y) Y (Qm Y (Ap ?_)));refine Ax Y (λh2=>?_) (λh2=>?_)
  ·have hin:i<l.length:=by omega
   obtain⟨x,hx⟩:∃x,l[i]=x:=⟨_,Y⟩
   have cx:∀ms,Cell h' ms ((AJ v).add (i*1)) (.int .i64 x):=λms=>by rw[<-hx];exact(hR.any (ms:=ms)).cell0 hin Y
   refine Aj (Ab (Ac (Ah (Aw (Qm Y (Ap (BO ?_)))))));refine A8 (λsl h'' ms'=>∃(v5:Value) (m5:Hp) (s:List Int),sl=[(0,v),(2,.pointer (some ⟨g2,0,none⟩)),(3,v3),(4,.int .i64 i),(5,v5)]/\h'=h''/\ms'=[m5,m3,Bw g2 29 [.slice none 0 0]]/\OwnL cI 1 3 m5 v5 s/\s.length<=4) ?_ (λs h ms hI=>?_)
   ·refine Ac (Ad (Qm Y (Ap (Ah ?_))))
    refine AD (λq sl h'' ms'=>∃(j:Nat) (v5:Value) (m5:Hp) (s:List Int),q=6-j/\sl=[(0,v),(2,.pointer (some ⟨g2,0,none⟩)),(3,v3),(4,.int .i64 i),(5,v5),(6,.int .i64 j)]/\h'=h''/\ms'=[m5,m3,Bw g2 29 [.slice none 0 0]]/\j<=6/\OwnL cI 1 3 m5 v5 s/\s.length<=4)
     (6-0) _ ⟨0,_,Hp.emp,[],rfl,rfl,rfl,rfl,by omega,OwnL.nil Bl,by simp⟩ Qs ?_
    rintro q sl h'' ms' ⟨j,v5,m5,s,rfl,rfl,rfl,rfl,hj,hO5,hs4⟩;have ov5:=hO5.o1;refine Ac (Aw (Qm Y (Qm Y (Qm Y ?_))));refine AU (t:=19) Y (λhj1=>?_) (λhj1=>?_)
    ·refine Qg (AC Y Y) Y (Qg (D7 (hO5.rd (h:=h') (ms:=[m5]) Mh).rd Y A0 Y) Y (Qg (Df Y Y Y) Y (Qm Y (Ap ?_))));refine Ax Y (λhj2=>?_) (λhj2=>?_)
     ·refine Aj (Ab (Ac (Ah (Aw (Qm Y (Qm Y (Qx (BH (i) hR.rd.any Y A0 Ba Y Y) Y (Ql Y U3 (cx _) (Qm Y (Qx (Xc (n:=j) Y Y Y (by omega)) Y (Qx (Xq Y Y Y) Y (Qm Y (Ap ?_)))))))))))));refine Ax Y (λhbit=>?_) (λhbit=>?_)
      ·refine Ad (Qm Y (Qm Y (Ar [_] Y A0 Ba Y (by rfl) Y Y (by omega) Y Y Y (λg36=>AZ 1 hO5 (RdL.one Bl (x:=(j:Int)) Mh Y) Y A0 Ba Y (by omega) Y Y Y Ck (by(try simp only[length_singleton]);omega) (by(try simp only[length_singleton]);omega) rfl rfl rfl (λv9 m9 hO9=>?_)))));have ov9:=hO9.o1;refine Qm Y (An (Ak (Ab (Ad (Qm Y (Qx (oA Y) Y (Qm Y (An (AS ?_)))))))));exact Am (6-(j+1)) _ (by omega) ⟨j+1,v9,m9,_,Y,Y,Y,Y,by omega,hO9,by rw[length_append,length_singleton];omega⟩ Qs
      ·refine Aj (Ak (Ab (Ad (Qm Y (Qx (oA Y) Y (Qm Y (An ?_)))))));exact Am (6-(j+1)) _ (by omega) ⟨j+1,v5,m5,s,Y,Y,Y,Y,by omega,hO5,hs4⟩ Qs
     ·refine Ay (Aa (Aa (Ag ?_)));exact Ao _ ⟨v5,m5,s,Y,Y,Y,hO5,hs4⟩ Qs
    ·refine Qk Y (Qk Y (Qk Y (Qm Y (Ap (AV Y (Ay (Aa (Aa (Ag ?_)))))))));exact Ao _ ⟨v5,m5,s,Y,Y,Y,hO5,hs4⟩ Qs
   ·obtain⟨v5,m5,s,rfl,rfl,rfl,hO5,hs4⟩:=hI;refine Bt λh6 l6 k6=>?_;have hS:=hO5.rdh (ms:=[]) k6;have oS_:=hS.rd.one;refine Ad (Qm Y (Qm Y (Ar [_] Y Cu Cw Y ((RdL.rd ‹_›).cells) Y Y (by omega) Y Y Y (λg40=>?_))));refine A6 1 hO (RdL.one DG (x:=v5) Mh Y) Y Cu Cw Y (by omega) Y Y Y (Gl λu hu=>by rw[List.mem_singleton.1 hu];exact oS_) (by(try simp only[length_singleton]);omega) (by(try simp only[length_singleton]);omega) rfl rfl rfl (λv9 m9 hO9=>?_);have ov9:=hO9.o1;refine Qm Y (An (Ak (Ab (Ad (Qm Y (Qx (oA Y) Y (Qm Y (An (AS ?_)))))))))
    exact Am (12-(i+1)) _ (by omega) ⟨i+1,v9,m9,_,ll++[s],Y,Y,AI lh l6,Y,by omega,by omega,hO9,(hE.up l6).snoc hS,by rw[length_append,hll];rfl,λu hu=>by
     rcases List.mem_append.1 hu with h|h
     ·exact h4 u h
     ·rw[List.mem_singleton.1 h];exact hs4⟩ Qs
  ·refine Bt λh6 l6 k6=>?_;have hV:=hO.rdh (ms:=[]) k6;have hE:=hE.up l6;refine Ay (Aa (Aa (Ag (Ab (Aw (Qm Y ?_))))));refine Qc call104 Y (HL ll es v3 h6 (by omega) (λs hs=>by have:=h4 s hs;omega) hV hE) (λrC h7 ms7 l7 hF=>?_);obtain⟨l7',m,A,vA,rfl,rfl,hOA,hA,hs⟩:=hF;have ovA:=hOA.o1;refine Sa 1 [_] AO Y (by simp[ov,ov3,ovA]) ?_;refine Ap (Aq ?_);exact BB (vs:=[_]) 1 Y Y BJ Y AO Y Y (⟨AI lh (AI l6 l7'),m,A,_,Y,Y,hOA,⟨ll,by omega,h4,hA⟩,hs⟩)
 ·refine Qk Y (Qk Y (Qm Y (Ap (AV Y (Ay (Aa (Aa (Ag (Ab (Bt λh6 l6 k6=>?_))))))))));have hV:=hO.rdh (ms:=[]) k6;have hE:=hE.up l6;refine Aw (Qm Y ?_);refine Qc call104 Y (HL ll es v3 h6 (by omega) (λs hs=>by have:=h4 s hs;omega) hV hE) (λrC h7 ms7 l7 hF=>?_);obtain⟨l7',m,A,vA,rfl,rfl,hOA,hA,hs⟩:=hF;have ovA:=hOA.o1;refine Sa 1 [_] AO Y (by simp[ov,ov3,ovA]) ?_;refine Ap (Aq ?_);exact BB (vs:=[_]) 1 Y Y BJ Y AO Y Y (⟨AI lh (AI l6 l7'),m,A,_,Y,Y,hOA,⟨ll,by omega,h4,hA⟩,hs⟩)
variable {o:List Cl}
structure CxQ(K:Int)(o:List Cl):Prop where
 r:Rgt o
 n:o.length<=80
 i:∀x∈o,x.id<=K
 d:∀x∈o,x.dim<=7
theorem Ro:∀n,n<10->∀x∈Oh (E5 n),x.dim<=7:=by decide
theorem CxQ.spa(n:Nat)(h:n<10):CxQ 900 (Oh (E5 n)):=by have h1:=(JL n h).1;exact⟨MK n h,by rw[MT];omega,λx hx=>by have:=(KE x hx).2;omega,Ro n h⟩
theorem CxQ.simp{ll:List (List Int)}(h1:ll.length<=5)(h4:∀l∈ll,l.length<=4):CxQ 900 (Eg ll):=by have h2:=Ub h4;exact⟨V2 ll,by omega,λx hx=>by have:=XE ll x hx;omega,TX h4⟩
theorem CxQ.gone{K:Int}(Q:CxQ K o){c:Int}(h:c∈Ix (ordF o)):CxQ K (o.filter λx=>decide (x.id≠c)):=by refine⟨Q.r.gone λy hy s hs e=>?_,Nat.le_trans (List.length_filter_le _ _) Q.n,λx hx=>Q.i x (List.mem_filter.1 hx).1,λx hx=>Q.d x (List.mem_filter.1 hx).1⟩;have hc:y.can∈ordF o:=(Dc o.length o (Nat.le_refl _)).mem_iff.2 (List.mem_map.2 ⟨y,hy,Y⟩);exact UM h _ hc s ((BY y.sd).mem_iff.2 hs) e
theorem CxQ.beside(Q:CxQ 900 o)(hn:o.length<26){m:Int}(h0:0<=m)(hM:∀x∈o,x.id<=m)(hK:m<=900)(n:Nat)(h:n<5):CxQ 1000 (o++(Oh (E5 n)).map (Ws m)):=by
 have h1:=(JL n (by omega)).2 h;have hl:=MT (E5 n);refine⟨Q.r.union ((MK n (by omega)).shift h0) (λx hx y hy=>?_) (by rw[length_map];omega),by rw[length_append,length_map];omega,λx hx=>?_,λx hx=>?_⟩
 ·obtain⟨z,hz,rfl⟩:=List.mem_map.1 hy;have:=hM x hx;have:=(KE z hz).1;show x.id≠z.id+m;omega
 ·rcases List.mem_append.1 hx with h|h
  ·have:=Q.i x h;omega
  ·obtain⟨z,hz,rfl⟩:=List.mem_map.1 h;have:=(KE z hz).2;show z.id+m<=1000;omega
 ·rcases List.mem_append.1 hx with h'|h'
  ·exact Q.d x h'
  ·obtain⟨z,hz,rfl⟩:=List.mem_map.1 h';exact Ro n (by omega) z hz
theorem CxQ.up(Q:CxQ 900 o):CxQ 1000 o:=⟨Q.r,Q.n,λx hx=>by have:=Q.i x hx;omega,Q.d⟩
theorem CxQ.rg{K:Int}(hK:K<=1000000){A:List Ce}(Q:CxQ K (A.map Ce.c)):RgC A:=⟨Q.r,λa ha=>by have:=Q.i _ (List.mem_map.2 ⟨a,ha,Y⟩);omega⟩
theorem CxQ.ids{A:List Ce}(Q:CxQ 900 (A.map Ce.c)){a:Ce}(ha:a∈A):-1000000<=a.c.id/\a.c.id<=900:=by have hm:a.c∈A.map Ce.c:=List.mem_map.2 ⟨a,ha,Y⟩;have:=Q.i _ hm;have:=Q.r.pos _ hm;omega
theorem QS{B:List Ce}{n:Int}(hB:B.map Ce.c=Oh (E5 (n%10).toNat))(hn:0<=n/\n<10):B.length<=1000:=by have h1:=congrArg List.length hB;rw[length_map,MT]at h1;have:=(JL (n%10).toNat (by omega)).1;omega
theorem UI{B:List Ce}{n:Int}(hB:B.map Ce.c=Oh (E5 (n%10).toNat))(hn:0<=n/\n<10){b:Ce}(hb:b∈B):(-1000000<=b.c.id/\b.c.id<=1000000)/\b.c.sd.length<=100/\∀s∈b.c.sd,-1000000<=s.1/\s.1<=1000000:=by
 have hm:b.c∈Oh (E5 (n%10).toNat):=by rw[<-hB];exact List.mem_map.2 ⟨b,hb,Y⟩
 have R:=MK (n%10).toNat (by omega);have hl:=(JL (n%10).toNat (by omega)).1;have h1:=KE _ hm;refine⟨by omega,by have:=(R.bds hm).2;omega,λs hs=>?_⟩;obtain⟨y,hy,e,_⟩:=R.sid _ hm s hs;have h2:=KE _ hy;omega
theorem FG{P:Program}{o:Oper}{s:AF}{h:Hp}{ms:List Hp}{v v':Value}(hx:OX P o s h ms v)(e:v=v'):OX P o s h ms v':=e ▸ hx
theorem Qz(sp be:Nat)(L:List Int)(G:List Nat)(vL vG:Value)(hp:Hp)(hsp:sp<256)(hbe:be<256)(hG:∀g∈G,g<256)(hL:RdL cI 1 hp [] vL L)(hRG:RdL (λg=>[.int .u8 (g:Nat)]) 1 hp [] vG G):FnT Tryz.prog 13 #[.agg #[.int .u8 sp,vL,vG,.int .u8 be]] hp [] (λr h' ms'=>hp.le h'/\P8 h' r ms' (CxQ 1000)):=by
 have oL_:=hL.rd.one;have oG_:=hRG.rd.one;refine Av func13 ntmps13 Y Y (λw0 hw0=>?_);simp only[A3];refine Aw (AY [_,_,_,_] Y Y (by rfl) Y Y Y (λg1=>By [.slice none 0 0] Y AO Y Y (λg2=>Ap (Bk 1 Y λh1 l1 hS=>?_))));have hL:=hL.up l1;have hRG:=hRG.up l1;have s0:∀{h},h1.le h->∀ms,Cell h ms (⟨g1,0,none⟩:Addr) (.int .u8 sp):=λl ms=>Seg.all (hS.le l) 0 _ Y ms;have s1:∀{h},h1.le h->∀ms,Cell h ms (⟨g1,1,none⟩:Addr) vL:=λl ms=>Seg.all (hS.le l) 1 _ Y ms;have s2:∀{h},h1.le h->∀ms,Cell h ms (⟨g1,2,none⟩:Addr) vG:=λl ms=>Seg.all (hS.le l) 2 _ Y ms;have s3:∀{h},h1.le h->∀ms,Cell h ms (⟨g1,3,none⟩:Addr) (.int .u8 be):=λl ms=>Seg.all (hS.le l) 3 _ Y ms;refine Aw (Qf TN Y (Ql Y U5 (s0 (B8) _) (Qx (Ie Y U5 U3 Y (C8 (by omega))) Y ?_)));refine Qc call45 Y (Ip sp h1 (by unfold BP;omega)) (λrc h2 ms2 l2 hF=>?_);obtain⟨l2',mC,A,vC,rfl,rfl,hOC,hA,hAs⟩:=hF;have hQ:CxQ 900 (A.map Ce.c):=by rw[hA];exact CxQ.spa _ (by omega)
 have oC:=hOC.o1;refine By [.slice none 0 0] Y AO Y Y (λg3=>?_);refine Sa 0 [_] AO Y (by simp[oL_,oG_,oC]) ?_;refine Ap ?_;refine A8 (λsl h' ms'=>∃(vC:Value) (mC:Hp) (A:List Ce),sl=[(1,.pointer (some ⟨g1,0,none⟩)),(2,.pointer (some ⟨g2,0,none⟩)),(3,.pointer (some ⟨g3,0,none⟩))]/\h1.le h'/\ms'=[Bw g3 29 [vC],mC,Bw g2 29 [.slice none 0 0]]/\OwnL cC 3 52 mC vC A/\CxQ 900 (A.map Ce.c)/\∀a∈A,RdL cD 2 h' [] a.v a.c.sd) ?_ (λs h ms hI=>?_)
 ·have hL2:=hL.up l2';obtain⟨k,hk⟩:∃k:Nat,min (L.length:Int) 5=k:=⟨min L.length 5,by omega⟩
  have hkl:k<=L.length/\k<=5:=by omega
  have hSub:RdL cI 1 h2 [] (Ca 1 vL 0 k) (L.take k):=by have:=hL2.sub_ (i:=0) (j:=k) (by omega) hkl.1;simpa using this
  refine Aw (Qf TN Y (Ql Y U5 (s0 l2' _) (Qx (Cf Y Y Y (by omega) (by omega)) Y (Qm Y (Ap ?_)))));refine Ax Y (λh26=>?_) (λh26=>?_)
  ·refine Ad (Qf VU Y (Ql Y A0 (s1 l2' _) (Qf VU Y (Ql Y A0 (s1 l2' _) (Qx (As hL2.rd.any Y A0 Y) Y (Qx (KW Y Y Y) Y (Qx (EK (k) hL2.rd.any Y A0 Ba Y Y (by omega) (by omega)) Y (Qc call46 Y (Nq (L.take k) _ h2 hSub) (λrs h3 ms3 l3 hF=>?_)))))))));obtain⟨l3',mS,B,vB,rfl,rfl,hOB,⟨ll,hll,h4,hB⟩,hBs⟩:=hF;have hQB:CxQ 900 (B.map Ce.c):=by rw[hB];exact CxQ.simp (by rw[List.length_take]at hll;omega) h4
   have oB:=hOB.o1;refine Sa 1 [_] AO Y (by simp[oL_,oG_,oC,oB]) ?_;refine An (Bd 2 Y (CD 1 Y ?_));exact Ao _ ⟨vB,mS,B,Y,AI l2' l3',Y,hOB,hQB,hBs⟩ Qs
  ·refine Aj ?_;exact Ao _ ⟨vC,mC,A,Y,l2',Y,hOC,hQ,hAs⟩ Qs
 ·obtain⟨vC,mC,A,rfl,l3,rfl,hOC,hQ,hAs⟩:=hI;refine A8 (λsl h' ms'=>∃(vC:Value) (mC:Hp) (A:List Ce),sl=[(1,.pointer (some ⟨g1,0,none⟩)),(2,.pointer (some ⟨g2,0,none⟩)),(3,.pointer (some ⟨g3,0,none⟩))]/\h1.le h'/\ms'=[Bw g3 29 [vC],mC,Bw g2 29 [.slice none 0 0]]/\OwnL cC 3 52 mC vC A/\CxQ 900 (A.map Ce.c)/\∀a∈A,RdL cD 2 h' [] a.v a.c.sd) ?_ (λs h ms hI=>?_)
  ·refine Ac (Ad (Qm Y (Ap (Ah ?_))))
   refine AD (λq sl h' ms'=>∃(i:Nat) (vC:Value) (mC:Hp) (A:List Ce),q=6-i/\sl=[(1,.pointer (some ⟨g1,0,none⟩)),(2,.pointer (some ⟨g2,0,none⟩)),(3,.pointer (some ⟨g3,0,none⟩)),(4,.int .i64 i)]/\h1.le h'/\ms'=[Bw g3 29 [vC],mC,Bw g2 29 [.slice none 0 0]]/\i<=6/\OwnL cC 3 52 mC vC A/\CxQ 900 (A.map Ce.c)/\∀a∈A,RdL cD 2 h' [] a.v a.c.sd)
    (6-0) _ ⟨0,vC,mC,A,rfl,rfl,l3,rfl,by omega,hOC,hQ,hAs⟩ Qs ?_
   rintro q sl h' ms' ⟨i,vC,mC,A,rfl,rfl,lh,rfl,hi,hOC,hQ,hAs⟩;have hRG:=hRG.up lh;have hAn:=hQ.n;rw[length_map]at hAn;have oC:=hOC.o1;refine Ac (Aw (Qm Y (Qf Ux Y (Ql Y TH (s2 lh _) (Qx (As hRG.rd.any Y TH Y) Y (Qm Y (Qm Y ?_)))))));refine AU (t:=30) Y (λha=>?_) (λha=>?_)
   ·refine Qg (AC Y Y) Y (Qg (Df Y Y Y) Y (Qm Y (Qm Y ?_)));refine AU (t:=34) Y (λhb=>?_) (λhb=>?_)
    ·refine Qg (oF B3 Y) Y (Qg (oL Y A9 (Cell.blk 0 Y Y)) Y (Qg (D7 (hOC.rd (h:=h') (ms:=[Bw g3 29 [vC],mC,Bw g2 29 [.slice none 0 0]]) (.tail _ (.head _))).rd Y A9 Y) Y (Qg (CA Y Y Y) Y (Qm Y (Ap ?_)))));refine Ax Y (λhc=>?_) (λhc=>?_)
     ·have hil:i<G.length:=by omega
      have hA1:1<A.length:=by omega
      refine DT 1 Y (Bt λh5 l5 k5=>?_);have hRC:RdC h5 vC A:=⟨hOC.rdh (ms:=[]) k5,λa ha=>(hAs a ha).up l5⟩
      have hKA:RgC A:=hQ.rg (by decide);have l15:=AI lh l5;have hRG:=hRG.up l5;refine Aj (Ab (Ac (Ah (Aw (Qx (oG Y BJ AO (Seg.blk 0 Y)) Y (Qc call47 Y (Xb A vC h5 hKA hRC) (λrt h6 ms6 l6 hF=>?_)))))));obtain⟨l6',mT,rfl,hOT⟩:=hF
      have hTn:Ix (cn A)≠[]:=Xz hKA.F.rgt λe=>by have h1:=C6 A;rw[e]at h1;simp at h1;omega
      obtain⟨T,hT⟩:∃T,Ix (cn A)=T:=⟨_,Y⟩
      rw[hT]at hOT hTn;have hTl:0<T.length:=List.length_pos_iff.2 hTn
      have hTm:T.length<=4000:=by rw[<-hT];unfold Ix;rw[length_map];exact Nat.le_trans (List.length_filter_le _ _) hKA.F.rgt.n
      have oT:=hOT.o1;obtain⟨gg,hgg⟩:∃gg,G[i]=gg:=⟨_,Y⟩
      have hgb:=hG gg (by rw[<-hgg];exact getElem_mem hil);have hRG:=hRG.up l6;have hRC:=hRC.up l6;have cg:∀ms,Cell h6 ms ((AJ vG).add (i*1)) (.int .u8 gg):=λms=>by rw[<-hgg];exact(hRG.any (ms:=ms)).cell0 hil Y
      obtain⟨z,hz⟩:∃z:Nat,(gg:Int)%(T.length:Int)=z:=⟨gg%T.length,by omega⟩
      have hzT:z<T.length:=by have:=Int.emod_lt_of_pos (gg:Int) (b:=(T.length:Int)) (by omega);omega
      obtain⟨id,hid⟩:∃id,T[z]=id:=⟨_,Y⟩
      have hidT:id∈Ix (cn A):=by rw[hT,<-hid];exact getElem_mem hzT
      refine Qm Y (Ap (Bu hOT λh7 l7 hQT=>?_));have hRG:=hRG.up l7;have hRC:=hRC.up l7;have l17:=AI l15 (AI l6 l7);have cid:∀ms,Cell h7 ms ((AJ rt).add (z*1)) (.int .i64 id):=λms=>by rw[<-hid];exact(hQT.any (ms:=ms)).cell0 hzT Y
      have cg:=λms=>(cg ms).le l7;refine Aw (Qm Y (Qf Ux Y (Ql Y TH (s2 l17 _) (Qm Y (Qx (BH (i) hRG.rd.any Y TH el5 Y Y) Y (Ql Y U5 (cg _) (Qx (Ie Y U5 U3 Y (C8 (by omega))) Y (Qm Y (Qx (As hQT.rd.any Y A0 Y) Y (Qx (Cf Y Y Y (by omega) (by omega)) Y (Qx (BH (z) hQT.rd.any Y A0 Ba Y Y) Y (Ql Y U3 (cid _) (Qm Y (BN (By [.slice none 0 0] Y AO Y Y (λg7=>Ap (BO ?_)))))))))))))))));refine A8 (λsl h' ms'=>∃(v7:Value) (m7:Hp) (O:List Ce),sl=[(1,.pointer (some ⟨g1,0,none⟩)),(2,.pointer (some ⟨g2,0,none⟩)),(3,.pointer (some ⟨g3,0,none⟩)),(4,.int .i64 i),(7,.pointer (some ⟨g7,0,none⟩))]/\h7=h'/\ms'=[m7,Bw g7 29 [v7],Bw g3 29 [vC],Bw g2 29 [.slice none 0 0]]/\OwnL cC 3 52 m7 v7 O/\O.map Ce.c=(A.map Ce.c).filter (λx=>decide (x.id≠id))/\∀a∈O,RdL cD 2 h' [] a.v a.c.sd) ?_ (λs h ms hI=>?_)
      ·refine Ac (Ad (Qm Y (Ap (Ah ?_))))
       refine AD (λq sl h' ms'=>∃(j:Nat) (v7:Value) (m7:Hp) (O:List Ce),q=A.length-j/\sl=[(1,.pointer (some ⟨g1,0,none⟩)),(2,.pointer (some ⟨g2,0,none⟩)),(3,.pointer (some ⟨g3,0,none⟩)),(4,.int .i64 i),(6,.int .i64 id),(7,.pointer (some ⟨g7,0,none⟩)),(8,.int .i64 j)]/\h7=h'/\ms'=[m7,Bw g7 29 [v7],Bw g3 29 [vC],Bw g2 29 [.slice none 0 0]]/\j<=A.length/\OwnL cC 3 52 m7 v7 O/\O.map Ce.c=((A.take j).map Ce.c).filter (λx=>decide (x.id≠id))/\∀a∈O,RdL cD 2 h' [] a.v a.c.sd)
        (A.length-0) _ ⟨0,_,Hp.emp,[],rfl,rfl,rfl,rfl,by omega,OwnL.nil Cc,rfl,nofun⟩ Qs ?_
       rintro q sl h' ms' ⟨j,v7,m7,O,rfl,rfl,rfl,rfl,hj,hO7,hOc,hOs⟩
       have hOl:O.length<=80:=by have h1:=congrArg List.length hOc;rw[length_map]at h1;rw[h1];exact Nat.le_trans (List.length_filter_le _ _) (by rw[length_map,List.length_take];omega)
       have ov7:=hO7.o1;refine Ac (Aw (Qm Y (Qf B3 Y (Ql Y A9 (Cell.blk 2 Y Y) (Qx (As hRC.q.rd.any Y A9 Y) Y (Qm Y (Ap ?_)))))));refine Ax Y (λhjl=>?_) (λhjl=>?_)
       ·have hjn:j<A.length:=by omega
        obtain⟨x,hx⟩:∃x,A[j]=x:=⟨_,Y⟩
        have hX:=hRC.s x (by rw[<-hx];exact getElem_mem hjn);have oX:=hX.rd.one;have cx:∀ms,Cell h7 ms (((AJ vC).add (j*3)).add 0) (.int .i64 x.c.id):=λms=>by rw[<-hx];exact(hRC.q.any (ms:=ms)).cell (j:=j) hjn (f:=0) Y
        have sx:∀ms,Seg h7 ms ((AJ vC).add (j*3)) (cC x):=λms=>by rw[<-hx];exact(hRC.q.any (ms:=ms)).seg hjn
        have hsn:((A.take (j+1)).map Ce.c).filter (λx=>decide (x.id≠id))=((A.take j).map Ce.c).filter (λx=>decide (x.id≠id))++if x.c.id≠id then [x.c] else []:=by rw[List.take_succ_eq_append_getElem hjn,map_append,List.filter_append,hx];congr 1;by_cases h:x.c.id=id<;>simp[List.filter_cons,h]
        refine Aj (Ab ?_);refine A8 (λsl h' ms'=>∃(v7:Value) (m7:Hp) (O:List Ce),sl=[(1,.pointer (some ⟨g1,0,none⟩)),(2,.pointer (some ⟨g2,0,none⟩)),(3,.pointer (some ⟨g3,0,none⟩)),(4,.int .i64 i),(6,.int .i64 id),(7,.pointer (some ⟨g7,0,none⟩)),(8,.int .i64 j)]/\h7=h'/\ms'=[m7,Bw g7 29 [v7],Bw g3 29 [vC],Bw g2 29 [.slice none 0 0]]/\OwnL cC 3 52 m7 v7 O/\O.map Ce.c=((A.take (j+1)).map Ce.c).filter (λx=>decide (x.id≠id))/\∀a∈O,RdL cD 2 h' [] a.v a.c.sd) ?_ (λs h ms hI=>?_)
        ·refine Ah (Aw (Qf B3 Y (Ql Y A9 (Cell.blk 2 Y Y) (Qm Y (Qx (BH (j) hRC.q.rd.any Y A9 AL Y Y) Y (Qf Bq Y (Ql Y U3 (cx _) (Qm Y (Qm Y (Ap ?_))))))))));refine Ax Y (λhne=>?_) (λhne=>?_)
         ·refine BK (n:=11) (bs:=[true,false,true,false,true,false,false,false,false,true,false]) [true,false,true,false,true,false,false,false,false,true] CZ (by kernel_rfl) (by kernel_rfl) Y Y (QF B3 Y (QF B3 Y (Qq Y (QF B3 Y ?_))));unfold FK;simp only[cons_append,nil_append];refine AG [1,3] (by kernel_rfl) Y ?_;refine Ai Y ?_ ?_
          ·refine Ql Y A9 (Cell.blk 1 Y Y) (Qw (Qo 3 Y (Ql Y A9 (Cell.blk 2 Y Y) (Qw (BW 5 76 (by kernel_rfl) Y (B8) Y (BH (j) hRC.q.rd.any Y A9 AL Y Y) (Qo 6 Y (Qx (oG Y D1 AL (sx _)) Y (Qw (Qo 7 Y (Ar [_,_,_] Y A9 AL Y (by rfl) Y Y (by omega) Y Y Y (λg78=>Qw (Qo 8 Y ?_))))))))))));refine A6 1 hO7 (RdL.one Cc (x:=x) Mh Y) Y A9 AL Y (by omega) Y Y Y (C5 (l:=[x]) (h:=h7) λy hy=>by rw[List.mem_singleton.1 hy];exact hX) (by(try simp only[length_singleton]);omega) (by(try simp only[length_singleton]);omega) rfl rfl rfl (λv9 m9 hO9=>?_);have ov9:=hO9.o1;refine Qw (Qo 10 Y ?_);refine Af 2 _ Y IK Y Y (by assumption) Y Y (by(simp;done)) rfl rfl ?_;refine Qw (Qe (AS (Ak ?_)));exact Ao _ ⟨v9,m9,O++[x],Y,Y,Y,hO9,by rw[hsn,if_pos hne,map_append,hOc];rfl,RdC.snoc' hOs hX⟩ Qs
          refine Ai Y ?_ ?_
          ·refine Ql Y A9 (Cell.blk 2 Y Y) (Qw (BW 5 76 (by kernel_rfl) Y (B8) Y (BH (j) hRC.q.rd.any Y A9 AL Y Y) (AG [1,6] (by kernel_rfl) Y ?_)));refine Ai Y ?_ ?_
           ·refine Ql Y A9 (Cell.blk 1 Y Y) (Qw (Qo 6 Y (Qx (oG Y D1 AL (sx _)) Y (Qw (Qo 7 Y (Ar [_,_,_] Y A9 AL Y (by rfl) Y Y (by omega) Y Y Y (λg78=>Qw (Qo 8 Y ?_))))))));refine A6 1 hO7 (RdL.one Cc (x:=x) Mh Y) Y A9 AL Y (by omega) Y Y Y (C5 (l:=[x]) (h:=h7) λy hy=>by rw[List.mem_singleton.1 hy];exact hX) (by(try simp only[length_singleton]);omega) (by(try simp only[length_singleton]);omega) rfl rfl rfl (λv9 m9 hO9=>?_);have ov9:=hO9.o1;refine Qw (Qo 10 Y ?_);refine Af 2 _ Y IK Y Y (by assumption) Y Y (by(simp;done)) rfl rfl ?_;refine Qw (Qe (AS (Ak ?_)));exact Ao _ ⟨v9,m9,O++[x],Y,Y,Y,hO9,by rw[hsn,if_pos hne,map_append,hOc];rfl,RdC.snoc' hOs hX⟩ Qs
           refine Ai Y ?_ ?_
           ·refine Qx (oG Y D1 AL (sx _)) Y (Qw (AG [1,7] (by kernel_rfl) Y ?_));refine Ai Y ?_ ?_
            ·refine Ql Y A9 (Cell.blk 1 Y Y) (Qw (Qo 7 Y (Ar [_,_,_] Y A9 AL Y (by rfl) Y Y (by omega) Y Y Y (λg78=>Qw (Qo 8 Y ?_)))));refine A6 1 hO7 (RdL.one Cc (x:=x) Mh Y) Y A9 AL Y (by omega) Y Y Y (C5 (l:=[x]) (h:=h7) λy hy=>by rw[List.mem_singleton.1 hy];exact hX) (by(try simp only[length_singleton]);omega) (by(try simp only[length_singleton]);omega) rfl rfl rfl (λv9 m9 hO9=>?_);have ov9:=hO9.o1;refine Qw (Qo 10 Y ?_);refine Af 2 _ Y IK Y Y (by assumption) Y Y (by(simp;done)) rfl rfl ?_;refine Qw (Qe (AS (Ak ?_)));exact Ao _ ⟨v9,m9,O++[x],Y,Y,Y,hO9,by rw[hsn,if_pos hne,map_append,hOc];rfl,RdC.snoc' hOs hX⟩ Qs
            refine Ai Y ?_ ?_
            ·refine Ar [_,_,_] Y A9 AL Y (by rfl) Y Y (by omega) Y Y Y (λg78=>Qw (Qo 1 Y (Ql Y A9 (Cell.blk 2 Y Y) (Qw (Qo 8 Y ?_)))));refine A6 1 hO7 (RdL.one Cc (x:=x) Mh Y) Y A9 AL Y (by omega) Y Y Y (C5 (l:=[x]) (h:=h7) λy hy=>by rw[List.mem_singleton.1 hy];exact hX) (by(try simp only[length_singleton]);omega) (by(try simp only[length_singleton]);omega) rfl rfl rfl (λv9 m9 hO9=>?_);have ov9:=hO9.o1;refine Qw (Qo 10 Y ?_);refine Af 2 _ Y IK Y Y (by assumption) Y Y (by(simp;done)) rfl rfl ?_;refine Qw (Qe (AS (Ak ?_)));exact Ao _ ⟨v9,m9,O++[x],Y,Y,Y,hO9,by rw[hsn,if_pos hne,map_append,hOc];rfl,RdC.snoc' hOs hX⟩ Qs
            exact AH
           exact AH
          exact AH
         ·refine Aj (Ak ?_);exact Ao _ ⟨v7,m7,O,Y,Y,Y,hO7,by rw[hsn,if_neg hne,List.append_nil];exact hOc,hOs⟩ Qs
        ·obtain⟨v7,m7,O,rfl,rfl,rfl,hO7,hOc,hOs⟩:=hI;refine Ad (Qm Y (Qx (oA Y) Y (Qm Y (An ?_))));exact Am (A.length-(j+1)) _ (by omega) ⟨j+1,v7,m7,O,Y,Y,Y,Y,by omega,hO7,hOc,hOs⟩ Qs
       ·obtain rfl:j=A.length:=by omega
        refine Ay (Aa (Aa (Ag ?_)));exact Ao _ ⟨v7,m7,O,Y,Y,Y,hO7,by rw[hOc,take_length],hOs⟩ Qs
      ·obtain⟨v7,m7,O,rfl,rfl,rfl,hO7,hOc,hOs⟩:=hI;have ov7:=hO7.o1;have hQ7:CxQ 900 (O.map Ce.c):=by rw[hOc];exact hQ.gone hidT
       refine Ad (Qx (oG Y BJ AO (Seg.blk 1 Y)) Y ?_);refine Sa 2 [_] AO Y (by simp[oL_,oG_,oC,oT,ov7]) ?_;refine An (Ak (Ab (Ad (Qm Y (Qx (oA Y) Y (Qm Y (An (Bd 1 Y (CD 1 Y ?_)))))))));exact Am (6-(i+1)) _ (by omega) ⟨i+1,v7,m7,O,Y,Y,AI l15 (AI l6 l7),Y,by omega,hO7,hQ7,hOs⟩ Qs
     ·refine Ay (Aa (Aa (Ag ?_)));exact Ao _ ⟨vC,mC,A,Y,lh,Y,hOC,hQ,hAs⟩ Qs
    ·refine Qk Y (Qk Y (Qk Y (Qk Y (Qm Y (Ap (AV Y (Ay (Aa (Aa (Ag ?_))))))))));exact Ao _ ⟨vC,mC,A,Y,lh,Y,hOC,hQ,hAs⟩ Qs
   ·refine Qk Y (Qk Y (Qm Y (Qm Y (Qk Y (Qk Y (Qk Y (Qk Y (Qm Y (Ap (AV Y (Ay (Aa (Aa (Ag ?_))))))))))))));exact Ao _ ⟨vC,mC,A,Y,lh,Y,hOC,hQ,hAs⟩ Qs
  ·obtain⟨vC,mC,A,rfl,lh,rfl,hOC,hQ,hAs⟩:=hI;have hAn:=hQ.n;rw[length_map]at hAn;have oC:=hOC.o1;refine A8 (λsl h' ms'=>∃(vC:Value) (mC:Hp) (A:List Ce),sl=[(2,.pointer (some ⟨g2,0,none⟩)),(3,.pointer (some ⟨g3,0,none⟩))]/\h1.le h'/\ms'=[Bw g3 29 [vC],mC,Bw g2 29 [.slice none 0 0]]/\OwnL cC 3 52 mC vC A/\CxQ 1000 (A.map Ce.c)/\∀a∈A,RdL cD 2 h' [] a.v a.c.sd) ?_ (λs h ms hI=>?_)
   ·refine Ac (Ad (Qf Ua Y (Ql Y U5 (s3 lh _) (Qx (Cf Y Y Y (by omega) (by omega)) Y (Qm Y (Qm Y ?_))))));refine AU (t:=86) Y (λhb3=>?_) (λhb3=>?_)
    ·refine Qg (oF B3 Y) Y (Qg (oL Y A9 (Cell.blk 0 Y Y)) Y (Qg (D7 (hOC.rd (h:=h) (ms:=[Bw g3 29 [vC],mC,Bw g2 29 [.slice none 0 0]]) (.tail _ (.head _))).rd Y A9 Y) Y (Qg (Df Y Y Y) Y (Qm Y (Ap ?_)))));refine Ax Y (λh26=>?_) (λh26=>?_)
     ·refine DT 1 Y (Bt λh5 l5 k5=>?_);have hRC:RdC h5 vC A:=⟨hOC.rdh (ms:=[]) k5,λa ha=>(hAs a ha).up l5⟩
      have l15:=AI lh l5;have hd4:(be:Int).tdiv 4=(be:Int)/4:=by rw[Int.tdiv_eq_ediv_of_nonneg (by omega)]
      have hw4:IntKind.u8.wrap ((be:Int).tdiv 4)=(be:Int)/4:=by rw[hd4];simp only[IntKind.wrap,IntKind.bits,IntKind.signed];simp;omega
      obtain⟨z,hz⟩:∃z:Nat,(be:Int)/4%5=z:=⟨be/4%5,by omega⟩
      have hz5:z<5:=by omega
      refine BK (n:=9) (bs:=[false,true,true,true,true,true,false,false,false]) [false,true,true,true,true,true] CZ (by kernel_rfl) (by kernel_rfl) Y Y (QF Ua Y (QL Y U5 (s3 l15 _) (Qp Y (FG (MV Y Y Y (by decide)) (congrArg (Value.int .u8) hw4)) (Qp Y (Ie Y U5 U3 Y (C8 (by omega))) (Qp Y (Cf Y Y Y (by omega) (by omega)) ?_)))));unfold FK;simp only[cons_append,nil_append];refine AG [0,6] (by kernel_rfl) Y ?_;refine Ai Y ?_ ?_
      ·refine Qx (oG Y BJ AO (Seg.blk 0 Y)) Y (Qw (Qo 6 Y ?_));refine Qc call45 Y (Ip ((be:Int)/4%5) h5 (by unfold BP;omega)) (λrs h6 ms6 l6 hF=>?_);obtain⟨l6',mS,B,vB,rfl,rfl,hOB,hB,hBs⟩:=hF;refine A5 hOB λh7 l7 hRB=>?_;have l57:=AI l6' l7;have oB:=hRB.rd.one;refine Qa (Qo 7 Y (Qc call48 Y (LC A B vC vB 900 (by decide) h7 (hRC.up l57) ⟨hRB,λa ha=>(hBs a ha).up l7⟩ (by omega) (QS hB (by omega)) (λa ha=>hQ.ids ha) (λb hb=>UI hB (by omega) hb)) (λrb h8 ms8 l8 hF=>?_)));have l58:=AI l57 l8;obtain⟨l8',mD,D,vD,rfl,rfl,hOD,⟨m,hm0,hm1,hmA,hD⟩,hDs⟩:=hF;have oC:=And.intro oC (show vD.oneCell'=true from hOD.o1);refine Qa (Qo 8 Y ?_);refine Sa 1 [_] AO Y (by simp[oL_,oG_,oC]) ?_;refine Qa (Qe (CD 1 Y ?_));exact Ao _ ⟨vD,mD,D,Y,AI l15 (AI l57 l8'),Y,hOD,by rw[hD,hB,hz,Int.emod_eq_of_lt (by omega) (by omega),Int.toNat_natCast];exact hQ.beside (by rw[length_map];omega) hm0 (λx hx=>by obtain⟨a,ha,rfl⟩:=List.mem_map.1 hx;exact hmA a ha) hm1 z hz5,hDs⟩ Qs
      refine Ai Y ?_ ?_
      ·refine Qc call45 Y (Ip ((be:Int)/4%5) h5 (by unfold BP;omega)) (λrs h6 ms6 l6 hF=>?_);obtain⟨l6',mS,B,vB,rfl,rfl,hOB,hB,hBs⟩:=hF;refine A5 hOB λh7 l7 hRB=>?_;have l57:=AI l6' l7;have oB:=hRB.rd.one;refine Qa (Qo 0 Y (Qx (oG Y BJ AO (Seg.blk 0 Y)) Y (Qa (Qo 7 Y (Qc call48 Y (LC A B vC vB 900 (by decide) h7 (hRC.up l57) ⟨hRB,λa ha=>(hBs a ha).up l7⟩ (by omega) (QS hB (by omega)) (λa ha=>hQ.ids ha) (λb hb=>UI hB (by omega) hb)) (λrb h8 ms8 l8 hF=>?_))))));have l58:=AI l57 l8;obtain⟨l8',mD,D,vD,rfl,rfl,hOD,⟨m,hm0,hm1,hmA,hD⟩,hDs⟩:=hF;have oC:=And.intro oC (show vD.oneCell'=true from hOD.o1);refine Qa (Qo 8 Y ?_);refine Sa 1 [_] AO Y (by simp[oL_,oG_,oC]) ?_;refine Qa (Qe (CD 1 Y ?_));exact Ao _ ⟨vD,mD,D,Y,AI l15 (AI l57 l8'),Y,hOD,by rw[hD,hB,hz,Int.emod_eq_of_lt (by omega) (by omega),Int.toNat_natCast];exact hQ.beside (by rw[length_map];omega) hm0 (λx hx=>by obtain⟨a,ha,rfl⟩:=List.mem_map.1 hx;exact hmA a ha) hm1 z hz5,hDs⟩ Qs
      exact AH
     ·refine Aj ?_;exact Ao _ ⟨vC,mC,A,Y,lh,Y,hOC,hQ.up,hAs⟩ Qs
    ·refine Qk Y (Qk Y (Qk Y (Qk Y (Qm Y (Ap (AV Y (Aj ?_)))))));exact Ao _ ⟨vC,mC,A,Y,lh,Y,hOC,hQ.up,hAs⟩ Qs
   ·obtain⟨vC,mC,A,rfl,lh,rfl,hOC,hQ,hAs⟩:=hI;have oC:=hOC.o1;refine Aw (Qx (oG Y BJ AO (Seg.blk 0 Y)) Y ?_);refine Sa 2 [_] AO Y (by simp[oL_,oG_,oC]) ?_;refine Ap (Aq (AS ?_));exact BB (vs:=[_]) 1 Y Y BJ Y AO Y Y (⟨AI l1 lh,mC,A,_,Y,Y,hOC,hQ,hAs⟩)
end Go.Proofs.Q
namespace Go.Proofs.Q
open Go.Proofs.Tryz
open Go.Eng Go.RowKit
theorem Qd(h:Hp)(ms:List Hp):FnV Tryz.prog 12 #[] h ms (.bool true):=by
 refine FnV.weaken (h:=Hp.emp) (FnT.toV ?_) (Hp.emp_le h);show FnT _ _ (List.toArray []) _ _ _;refine Av func12 ntmps12 Y Y (λw0 hw0=>?_);simp only[A3];refine Aw (Qm Y (BN (Qc call43 Y (SG Hp.emp) (λrC h2 ms2 l2 hF=>?_))));obtain⟨l2',gF,mC,A,vC,rfl,rfl,hOC,hA,hsd⟩:=hF;obtain⟨vF,hvF⟩:∃vF:Value,vF=.slice (some ⟨gF,0,none⟩) 4 4:=⟨_,Y⟩
 obtain⟨mF,hmF⟩:∃mF:Hp,mF=Bw gF 47 [.int .i64 1,.int .i64 0,.int .i64 2,.int .i64 1,.int .i64 3,.int .i64 2,.int .i64 4,.int .i64 5]:=⟨_,Y⟩
 rw[<-hvF,<-hmF];have hOF:OwnL cV 2 47 mF vF circF:=by rw[hmF,hvF];exact OwnL.blk (l:=circF) 4 M8 Y (by decide)
 have oC:=hOC.o1;have oF_:=hOF.o1;refine Qm Y (Qm Y (Qm Y (By [.slice none 0 0] Y AO Y Y (λg1=>?_))));refine Sa 0 [_] AO Y (by simp[oC,oF_]) ?_;refine Qm Y (Ap (Bk 0 Y λh3 l3 hS=>(FH 1 hOC Y λh4 l4 hC=>?_)));have hR:RdC h4 vC A:=⟨hC,λa ha=>(hsd a ha).up (AI l3 l4)⟩
 have hA:A.map Ce.c=circC:=by rw[hA];exact YI
 have hFA:RgtF (A.map Ce.c):=by rw[hA];exact circ_rgtF
 have hcn:cn A=circC:=by rw[Nl hFA,hA]
 have hAl:A.length=4:=by have:=congrArg List.length hA;rwa [length_map]at this
 have hK:RgC A:=⟨hFA.rgt,λa ha=>by
  have h1:a.c∈circC:=by rw[<-hA];exact List.mem_map.2 ⟨a,ha,Y⟩
  have h2:∀c∈circC,c.id<=1000000:=by decide
  exact h2 _ h1⟩
 have hS:=hS.le l4;refine Aw (Qx (oG Y BJ AO (Seg.any hS)) Y (Qm Y ?_));refine Bb (pre:=[mF]) Y call15 Y (FnT.borrow (λhj l1 l2=>PM A circF vC vF 2 hj hK (hR.up l1) (hOF.rdh l2) (IG _ (.inl Y)) (λc=>by have:=circ_q.bI c;unfold BP;omega) (by rw[hcn];exact Lh) isP2 (by omega))) Y Y Y Y (λra h5 ms5 l5 hQ=>?_);obtain⟨l5',hj5,k5,ms5',lj5,⟨lk5,S,Rf,Vf,va,ma,rfl,rfl,hOa,Pa⟩,_,rfl,_⟩:=hQ;have oa:=hOa.o1;have hR:=hR.up l5;have hS:=hS.le l5;have H:PerH 2 circF A S Rf Vf:=⟨Pa,isP2,hK.F.rgt,by rw[hcn];exact circ_q.mon⟩
 have hbt:=H.betti;have hbars:=Tr H hcn;rw[hbars]at hOa hbt;rw[hcn]at hbt;refine Qm Y (Qm Y (Qm Y (Qm Y (Qm Y (Ap (FH 1 hOa Y λh6 l6 hBa=>?_))))));have hR:=hR.up l6;have hS:=hS.le l6;refine Aw (Qx (oG Y BJ AO (Seg.any hS)) Y (Qm Y ?_));refine Bb (pre:=[mF]) Y call19 Y (FnT.borrow (λhj l1 l2=>Lw A circF vC vF 1 2 hj hK (hR.up l1) (hOF.rdh l2) (IG _ (.inl Y)) (by rw[hcn];exact Lh) (by rw[hcn];exact J4) isP2 (by decide) (by omega))) Y Y Y Y (λrb h7 ms7 l7 hQ=>?_);obtain⟨l7',hj7,k7,ms7',lj7,⟨lk7,D,rk,w1,m1,rfl,rfl,hO1,hD,hr0,hrk⟩,_,rfl,_⟩:=hQ;rw[hcn]at hO1 hD hrk;have e1:L3 (Dm circF 1 circC) rk (D+1).toNat=[2]:=Yl hD (by unfold L3;rw[length_map,length_range]) (hbt 1 D rk hD hr0 hrk);rw[e1]at hO1;have ow1:=hO1.o1;refine Qm Y (Qm Y (Qm Y (Qm Y (Qm Y (Ap (FH 1 hO1 Y λh8 l8 hW1=>?_))))));have l68:=AI l7 l8;have hR:=hR.up l68;have hS:=hS.le l68;refine Aw (Qx (oG Y BJ AO (Seg.any hS)) Y (Qm Y ?_));refine Bb (pre:=[mF]) Y call19 Y (FnT.borrow (λhj l1 l2=>Lw A circF vC vF 2 2 hj hK (hR.up l1) (hOF.rdh l2) (IG _ (.inl Y)) (by rw[hcn];exact Lh) (by rw[hcn];exact J4) isP2 (by decide) (by omega))) Y Y Y Y (λrd h9 ms9 l9 hQ=>?_);obtain⟨l9',hj9,k9,ms9',lj9,⟨lk9,D',rk',w2,m2,rfl,rfl,hO2,hD',hr0',hrk'⟩,_,rfl,_⟩:=hQ;rw[hcn]at hO2 hD' hrk';have e2:L3 (Dm circF 2 circC) rk' (D'+1).toNat=[1,0]:=X0 hD' (by unfold L3;rw[length_map,length_range]) (hbt 2 D' rk' hD' hr0' hrk');rw[e2]at hO2;have ow2:=hO2.o1;refine Qm Y (Qm Y (Qm Y (Qm Y (Qm Y (Ap (FH 1 hO2 Y λh10 l10 hW2=>(Aw (Qx (Bm XY [.int .i64 0,.int .i64 0,.int .i64 0,.bool false,.int .i64 0,.int .i64 0] [(3,_),(4,_)] [_,_,_,_,_,_] Y G9 Y Y Qt Y) Y (Qx (Bm XY [.int .i64 0,.int .i64 0,.int .i64 0,.bool false,.int .i64 0,.int .i64 0] [(1,_),(2,_),(4,_),(5,_)] [_,_,_,_,_,_] Y G9 Y Y Qt Y) Y (Qx (Bm XY [.int .i64 0,.int .i64 0,.int .i64 0,.bool false,.int .i64 0,.int .i64 0] [(0,_),(1,_),(3,_),(4,_)] [_,_,_,_,_,_] Y G9 Y Y Qt Y) Y (AA [(0,_),(6,_),(12,_)] [.int .i64 0,.int .i64 0,.int .i64 0,.bool false,.int .i64 0,.int .i64 0,.int .i64 0,.int .i64 0,.int .i64 0,.bool false,.int .i64 0,.int .i64 0,.int .i64 0,.int .i64 0,.int .i64 0,.bool false,.int .i64 0,.int .i64 0] [_,_,_,_,_,_,_,_,_,_,_,_,_,_,_,_,_,_] Y WJ G9 Y (by omega) (by kernel_rfl) Qt Y Y Y Y (λg39=>Qm Y (Ap (Bk 0 Y λh11 l11 hS39=>?_))))))))))))));have l811:=AI l9 (AI l10 l11);have hR:=hR.up l811;have hS:=hS.le l811;refine Ac (BK (n:=9) (bs:=[false,true,true,false,false,false,false,false,false]) [false,true,true] CZ (by kernel_rfl) (by kernel_rfl) Y Y (Qq Y (Qp Y (EF 3 (hOF.rd (h:=h11) (ms:=[mF]) Mh).rd Y Ny EV Y Y Y (by decide)) ?_)));unfold FK;simp only[cons_append,nil_append];refine Qo 0 Y (Qx (oG Y BJ AO (Seg.any hS)) Y (Qw (Qo 3 Y (Bb (pre:=[mF]) Y call24 Y (FnT.borrow (λhj l1 l2=>F8 A (circF.take 3) vC (Ca 2 vF 0 3) hj hK (hR.up l1) (show RdL cV 2 hj [] (Ca 2 vF 0 3) (circF.take 3) from(hOF.rdh l2).sub_ (i:=0) (j:=3) (by decide) (by decide)) (IG _ (.inr (.inl Y))))) Y Y Y Y (λrc h12 ms12 l12 hQ=>?_)))));obtain⟨l12',hj12,k12,ms12',lj12,hr12,_,rfl,_⟩:=hQ;rw[hcn,Sh]at hr12;subst hr12;refine Qa (BW 4 40 (by kernel_rfl) Y (by assumption) Y (AC Y Y) (BW 5 45 (by kernel_rfl) Y (by assumption) Y (DY Y Y Y) (BW 6 46 (by kernel_rfl) Y (by assumption) Y (DY Y Y Y) (Qo 7 Y (Qm Y (Qa (Qo 8 Y (Qm Y (Qa (Qe (Ab ?_)))))))))));rw[hmF,hvF];refine Aw (Qm Y (Qx (Cn 1 Y Ny EV Y Y Y (by omega)) Y (Qf Pz Y ?_)));refine Af 0 3 Y Ba Y Y Y Y (by rw[BZ]) (by decide) rfl rfl ?_;simp only[List.set_cons_succ,List.set_cons_zero];refine Ap (AB λh13 l13 hSF=>?_);have l1113:=AI l12 l13;have hR:=hR.up l1113;have hS:=hS.le l1113;have hFB:RdL cV 2 h13 [] (.slice (some ⟨gF,0,none⟩) 4 4) [(1,0),(2,3),(3,2),(4,5)]:=⟨⟨_,4,Y,by decide,by decide,Y,λ_=>⟨_,Y,hSF⟩⟩,M8⟩
 refine Aw (Qx (oG Y BJ AO (Seg.any hS)) Y (Qm Y (Qc call24 Y (F8 A [(1,0),(2,3),(3,2),(4,5)] vC _ h13 hK hR hFB (IG _ (.inr (.inr Y)))) (λrd h14 ms14 l14 hQ=>?_))));rw[hcn,Sz]at hQ;subst hQ;refine Qm Y (Qm Y (Qm Y (Qm Y (Qm Y (Ap ?_)))));have hBa:=hBa.up (AI l68 (AI l811 (AI l1113 l14)));have hW1:=hW1.up (AI l811 (AI l1113 l14));have hW2:=hW2.up (AI l11 (AI l1113 l14));have hS39:=hS39.le (AI l1113 l14);have hB9:RdL OG 6 h14 [] (.slice (some ⟨g39,0,none⟩) 3 3) circB:=⟨⟨_,3,Y,by decide,by decide,Y,λ_=>⟨_,Y,hS39⟩⟩,JT⟩
 refine Aw (Qm Y (Qx (FG (CN Y Y Y) (congrArg Value.bool (decide_eq_true Y))) Y (Qm Y (Qg (AC Y Y) Y (Qg (AC Y Y) Y ?_)))));refine Qg (AR Y call17 Y ((by have:=T9 circB circB va _ h14 hBa hB9 (ms14++ms12'.append []);rwa [decide_eq_true rfl]at this))) rfl ?_;refine Qm Y (Qm Y (Qg (AC Y Y) Y (Qg (FG (CN Y Y Y) (congrArg Value.bool (decide_eq_true Y))) Y (Qm Y (Qm Y (Qg (AC Y Y) Y (Qg (FG (CN Y Y Y) (congrArg Value.bool (decide_eq_true Y))) Y (Qm Y (Qm Y (Qg (AC Y Y) Y (FL Y Y Y Y (Ar [_] Y A0 Ba Y (by rfl) Y Y (by omega) Y Y Y (λg73=>DX λh15 l15 hS73=>?_)))))))))))));refine Qg (AR Y call44 Y ((by have:=RB [2] [2] w1 _ h15 (hW1.up l15) (N0 1 Bl hS73) (ms14++ms12'.append []);rwa [decide_eq_true rfl]at this))) rfl ?_;refine Qm Y (Qm Y (Qg (AC Y Y) Y (FL Y Y Y Y (AA [(0,_),(1,_)] [.int .i64 0,.int .i64 0] [_,_] Y A0 Ba Y (by omega) (by kernel_rfl) Qt Y Y Y Y (λg78=>DX λh16 l16 hS78=>?_)))));have hR2:RdL cI 1 h16 [] (.slice (some ⟨g78,0,none⟩) 2 2) [1,0]:=⟨⟨_,2,Y,by decide,by decide,Y,λ_=>⟨_,Y,hS78⟩⟩,Bl⟩
 refine Qg (AR Y call44 Y ((by have:=RB [1,0] [1,0] w2 _ h16 (hW2.up (AI l15 l16)) hR2 (ms14++ms12'.append []);rwa [decide_eq_true rfl]at this))) rfl ?_;refine Qm Y (Qm Y (Qg (AC Y Y) Y (Qg (FG (CN Y Y Y) (congrArg Value.bool (decide_eq_true Y))) Y (Qm Y (Qm Y (Qg (AC Y Y) Y (Qg (FG (CN Y Y Y) (congrArg Value.bool (decide_eq_true Y))) Y (Qm Y (Qm Y (Qg (AC Y Y) Y (Qg (FG (CN Y Y Y) (congrArg Value.bool (decide_eq_true Y))) Y (Qm Y (Qm Y (Qg (AC Y Y) Y (Qg (FG (CN Y Y Y) (congrArg Value.bool (decide_eq_true Y))) Y (Qm Y (Qm Y (Ap (Aq ?_)))))))))))))))))));exact Az Y Y (Y)
end Go.Proofs.Q

namespace Go.Proofs.Q
open Go.Eng Go.RowKit
open Go.Proofs.Tryz
theorem Py(sp be:Nat)(q0 q1:Int)(L0 L:List Int)(G:List Nat)(v0 vG vL:Value)(hp:Hp)(hsp:sp<256)(hbe:be<256)(hq0:BP q0)(hq1:BP q1)(hG:∀g∈G,g<256)(hL0:RdL cI 1 hp [] v0 L0)(hRG:RdL (λg=>[.int .u8 (g:Nat)]) 1 hp [] vG G)(hL:RdL cI 1 hp [] vL L)(hLb:∀x∈L,BP x):FnT Tryz.prog 8 #[.agg #[.int .u8 sp,v0,vG,.int .u8 be],vL,.agg #[.int .i64 q0,.int .i64 q1]] hp [] (λr _ _=>r=.bool true):=by
 have o1:=hL0.rd.one;have o2:=hRG.rd.one;have o3:=hL.rd.one;refine Av func8 ntmps8 Y Y (λw0 hw0=>?_);simp only[A3];refine Aw (AY [_,_,_,_] Y Y (by rfl) Y Y Y (λg3=>AY [_,_] Y Y (by rfl) Y Y Y (λg5=>Qm Y (Ap (AB λh0 l0 hS5=>(AB λh1 l1 hS=>?_))))));have hS5:=hS5.le l1;have l1:=AI l0 l1;have hL0:=hL0.up l1;have hRG:=hRG.up l1;have hL:=hL.up l1;refine Aw (Qx (AR Y call12 Y (Qd _ _)) Y (Qm Y (BN (Qx (oG Y U25 Abg (Seg.any hS)) Y (Qc call13 Y (Qz sp be L0 G v0 vG h1 hsp hbe hG hL0 hRG) (λrc h2 ms2 l2 hQ=>?_))))));obtain⟨l2',mC,A,vC,rfl,rfl,hOC,hCQ,hsd⟩:=hQ;have oC:=hOC.o1;refine By [.slice none 0 0] Y AO Y Y (λg8=>?_);refine Sa 0 [_] AO Y (by simp[o1,o2,o3,oC]) ?_;refine Ap (AB λh3 l3 hS8=>(Bu hOC λh4 l4 hC=>?_));have hR:RdC h4 vC A:=⟨hC,λa ha=>(hsd a ha).up (AI l3 l4)⟩
 have hK:RgC A:=hCQ.rg (by decide);have hG:=hK.F.rgt;have hA80:A.length<=80:=by have:=hCQ.n;rwa [length_map]at this
 have hdim:∀x∈cn A,0<=x.dim/\x.dim<=7:=λx hx=>by obtain⟨b,hb,rfl⟩:=Uk hx;exact⟨(hG.bds hx).1.1,hCQ.d b.c (List.mem_map.2 ⟨b,hb,Y⟩)⟩
 have l24:=AI l2 (AI l3 l4);have hL:=hL.up l24;have hS8:=hS8.le l4;refine Aw (Qx (oG Y BJ AO (Seg.any hS8)) Y (Qm Y (Qc call14 Y (SQ A vC vL L 1 h4 hK hR hL hLb (by decide)) (λrF h5 ms5 l5 hQ=>?_))));obtain⟨l5',mF,rfl,hOF⟩:=hQ;have QF:Xw (cn A) (Fp (cn A) L 1 (cn A).length):=ZR hG L 1 (by decide)
 have hF5:∀x∈cn A,Dn (BI (Fp (cn A) L 1 (cn A).length)) x.id<=5:=λx hx=>by
  have hFe:Fp (cn A) L 1 (cn A).length=(cn A).map λx=>(x.id,FN (cn A) L x.id):=by unfold Fp;rw[take_length];simp only[Int.mul_one]
  have h1:Dn (BI (Fp (cn A) L 1 (cn A).length)) x.id=FN (cn A) L x.id:=Kt (by rw[QF.fst];exact hG.nd) (by rw[hFe];exact List.mem_map.2 ⟨x,hx,Y⟩);rw[h1];exact(P9 _ _).2
 generalize Fp (cn A) L 1 (cn A).length=F at hOF QF hF5;have oF_:=hOF.o1;refine Qm Y (Ap (Bu hOF λh6 l6 hF=>?_));have l46:=AI l5 l6;have hR:=hR.up l46;have hS8:=hS8.le l46;have hS5:=hS5.le (AI l24 l46);have hlF:F.length=A.length:=by have:=congrArg List.length QF.fst;rw[length_map,length_map,C6]at this;exact this
 have kF:∀q∈F,BP q.1:=λq hq=>by
  have hc:q.1∈(cn A).map Cl.id:=by rw[<-QF.fst];exact List.mem_map.2 ⟨q,hq,Y⟩
  obtain⟨x,hx,e⟩:=List.mem_map.1 hc;have h1:=hG.pos x hx;have h2:=hK.ci hx;rw[<-e];unfold BP;omega
 have nF:(F.map Prod.fst).Nodup:=by rw[QF.fst];exact hG.nd
 have VF:Ls F:=⟨by omega,kF⟩
 have c5:∀h',h6.le h'->∀ms (k:Nat) u,([.int .i64 q0,.int .i64 q1]:List Value)[k]?=some u->Cell h' ms ((⟨g5,0,none⟩:Addr).add (k*1)) u:=λh' l' ms k u hu=>by rw[Nat.mul_one];exact Seg.all (hS5.le l') k _ hu ms
 have s8:∀h',h6.le h'->∀ms,Seg h' ms (⟨g8,0,none⟩:Addr) [vC]:=λh' l' ms=>(hS8.le l').any;refine Aw (Qx (oG Y BJ AO (s8 _ (B8) _)) Y (Qm Y (Qx (CH 0 Y YK Ba Y Y Y (by omega)) Y (Ql Y U3 (c5 _ (B8) _ 0 _ Y) (Qx (CH 1 Y YK Ba Y Y Y (by omega)) Y (Ql Y U3 (c5 _ (B8) _ 1 _ Y) (Qx (KW Y Y Y) Y (Qc call27 Y (FC A F vC rF (min q0 q1) h6 hK hR hF VF QF.chk (by omega)) (λr10 h7 ms7 l7 hQ=>?_)))))))));obtain⟨l7',mA1,A1,v10,rfl,rfl,hO1,hA1,hsA1⟩:=hQ;have o10:=hO1.o1;refine By [.slice none 0 0] Y AO Y Y (λg10=>?_);refine Sa 0 [_] AO Y (by simp[o1,o2,o3,oC,oF_,o10]) ?_;refine Ap (AB λh8 l8 hS10=>(Bu hO1 λh9 l9 hR1=>?_));have l79:=AI l8 l9;have l69:=AI l7' l79;have hR1:RdC h9 v10 A1:=⟨hR1,λa ha=>(hsA1 a ha).up l79⟩
 have hS10:=hS10.le l9;refine Aw (Qx (oG Y BJ AO (s8 _ l69 _)) Y (Qm Y (Qx (CH 0 Y YK Ba Y Y Y (by omega)) Y (Ql Y U3 (c5 _ l69 _ 0 _ Y) (Qx (CH 1 Y YK Ba Y Y Y (by omega)) Y (Ql Y U3 (c5 _ l69 _ 1 _ Y) (Qx (GV Y Y Y) Y (Qc call27 Y (FC A F vC rF (max q0 q1) h9 hK (hR.up l69) (hF.up l69) VF QF.chk (by omega)) (λr11 h10 ms10 l10 hQ=>?_)))))))));obtain⟨l10',mB1,B1,v11,rfl,rfl,hO2,hB1,hsB1⟩:=hQ;have o11:=hO2.o1;refine By [.slice none 0 0] Y AO Y Y (λg11=>?_);refine Sa 0 [_] AO Y (by simp[o1,o2,o3,oC,oF_,o10,o11]) ?_;refine Ap (AB λh11 l11 hS11=>(Bu hO2 λh12 l12 hR2=>?_));have l1012:=AI l11 l12;have l912:=AI l10' l1012;have l612:=AI l69 l912;have hR2:RdC h12 v11 B1:=⟨hR2,λa ha=>(hsB1 a ha).up l1012⟩
 have hR1:=hR1.up l912;have hR:=hR.up l612;have hF:=hF.up l612;have hS11:=hS11.le l12;have hS10:=hS10.le l912;obtain⟨K1,C1⟩:=hK.sub QF.mon hA1;obtain⟨K2,C2⟩:=hK.sub QF.mon hB1;have hsub:∀y∈cn A1,y∈cn B1:=by rw[C1,C2];exact XI (by omega)
 have t8:∀h',h12.le h'->∀ms,Seg h' ms (⟨g8,0,none⟩:Addr) [vC]:=λh' l' ms=>s8 h' (AI l612 l') ms;have t10:∀h',h12.le h'->∀ms,Seg h' ms (⟨g10,0,none⟩:Addr) [v10]:=λh' l' ms=>(hS10.le l').any;have t11:∀h',h12.le h'->∀ms,Seg h' ms (⟨g11,0,none⟩:Addr) [v11]:=λh' l' ms=>(hS11.le l').any;have t5:∀h',h12.le h'->∀ms (k:Nat) u,([.int .i64 q0,.int .i64 q1]:List Value)[k]?=some u->Cell h' ms ((⟨g5,0,none⟩:Addr).add (k*1)) u:=λh' l'=>c5 h' (AI l612 l');refine Aw (Qx (oG Y BJ AO (t10 _ (B8) _)) Y (Qx (AR Y call28 Y (EX (I6 A1 v10 h12 K1 hR1) _)) Y (Qm Y (Qm Y (Qm Y (Qm Y (Qm Y (Ap (Ac (BK (n:=44) (bs:=[false,false,false,false,false,false,false,false,false,false,false,false,false,false,false,false,false,false,false,false,false,false,false,false,false,false,false,false,false,false,false,false,false,false,false,false,false,false,false,false,false,false,false,false]) [] CZ (by kernel_rfl) (by kernel_rfl) Y Y ?_))))))))));unfold FK;simp only[cons_append,nil_append];refine Qo 0 Y (Qm Y (Qw (BW 1 42 (by kernel_rfl) Y (B8) Y (AC Y Y) (BF 2 43 (by kernel_rfl) Y Y Y Y Y (B8) Y (AC Y Y) (BF 3 44 (by kernel_rfl) Y Y Y Y Y (B8) Y (CN Y Y Y) (Qo 4 Y (Qm Y (Qw (BW 5 46 (by kernel_rfl) Y (B8) Y (AC Y Y) (BF 6 47 (by kernel_rfl) Y Y Y Y Y (B8) Y (oG Y BJ AO (t10 _ (B8) _)) (BF 7 48 (by kernel_rfl) Y Y Y Y Y (B8) Y (oG Y BJ AO (t11 _ (B8) _)) (BF 9 50 (by kernel_rfl) Y Y Y Y Y (B8) Y (oG Y BJ AO (t10 _ (B8) _)) (Qo 8 Y (FL Y Y Y Y (Qc call30 Y (Yq A1 B1 v10 v11 h12 K1 K2 hR1 hR2 hsub) (λrm h13 ms13 l13 hQ=>?_))))))))))))))));obtain⟨l13',mM,M,vM,rfl,rfl,hOM,hM,hsM⟩:=hQ;refine A5 hOM λh14 l14 hRM=>?_;have k14:=AI l13 l14;have hRM:RdC h14 vM M:=⟨hRM,λa ha=>(hsM a ha).up l14⟩
 obtain⟨KM,CM⟩:=K1.same hM;refine Qa (Qo 10 Y (FL Y Y Y Y (Qc call29 Y (YV KM K1 hRM (hR1.up k14) CM) (λre h15 ms15 l15 hQ=>?_))));obtain⟨l15',rfl,rfl⟩:=hQ;have k15:=AI k14 l15;refine Qa (Qo 11 Y (Qm Y (Qa (BW 12 53 (by kernel_rfl) Y (by assumption) Y (AC Y Y) (BF 13 54 (by kernel_rfl) Y Y Y Y Y (by assumption) Y (oG Y BJ AO (t10 _ (B8) _)) (BF 14 55 (by kernel_rfl) Y Y Y Y Y (by assumption) Y (oG Y BJ AO (t8 _ (B8) _)) (BF 15 56 (by kernel_rfl) Y Y Y Y Y (by assumption) Y (AC Y Y) (BF 16 57 (by kernel_rfl) Y Y Y Y Y (by assumption) Y (CH 0 Y YK Ba Y Y Y (by omega)) (BF 17 58 (by kernel_rfl) Y Y Y Y Y (by assumption) Y (oL Y U3 (t5 _ (B8) _ 0 _ Y)) (BF 18 59 (by kernel_rfl) Y Y Y Y Y (by assumption) Y (CH 1 Y YK Ba Y Y Y (by omega)) (BF 19 60 (by kernel_rfl) Y Y Y Y Y (by assumption) Y (oL Y U3 (t5 _ (B8) _ 1 _ Y)) (BF 20 61 (by kernel_rfl) Y Y Y Y Y (by assumption) Y (KW Y Y Y) (Qo 21 Y (FL Y Y Y Y (Qc call32 Y (Pg A F vC rF (min q0 q1) h15 hK (hR.up k15) (hF.up k15) VF nF QF.chk) (λrs h16 ms16 l16 hQ=>?_))))))))))))))));obtain⟨l16',mS1,S1,vS1,rfl,rfl,hOS1,hS1,hsS1⟩:=hQ;refine A5 hOS1 λh17 l17 hRS1=>?_;have k16:=AI k15 (AI l16 l17);have hRS1:RdC h17 vS1 S1:=⟨hRS1,λa ha=>(hsS1 a ha).up l17⟩
 obtain⟨KS1,CS1⟩:=hK.sub QF.mon hS1;refine Qa (Qo 22 Y (FL Y Y Y Y ?_));refine Qc call31 Y (U7 K1 KS1 (hR1.up k16) hRS1 (by rw[C1,CS1])) (λre2 h18 ms18 l18 hQ=>?_);obtain⟨l18',rfl,rfl⟩:=hQ;have k18:=AI k16 l18;refine Qa (Qo 23 Y (Qm Y (Qa (BW 24 65 (by kernel_rfl) Y (by assumption) Y (AC Y Y) (BF 25 66 (by kernel_rfl) Y Y Y Y Y (by assumption) Y (oG Y BJ AO (t11 _ (B8) _)) (BF 26 67 (by kernel_rfl) Y Y Y Y Y (by assumption) Y (oG Y BJ AO (t8 _ (B8) _)) (BF 27 68 (by kernel_rfl) Y Y Y Y Y (by assumption) Y (AC Y Y) (BF 28 69 (by kernel_rfl) Y Y Y Y Y (by assumption) Y (CH 0 Y YK Ba Y Y Y (by omega)) (BF 29 70 (by kernel_rfl) Y Y Y Y Y (by assumption) Y (oL Y U3 (t5 _ (B8) _ 0 _ Y)) (BF 30 71 (by kernel_rfl) Y Y Y Y Y (by assumption) Y (CH 1 Y YK Ba Y Y Y (by omega)) (BF 31 72 (by kernel_rfl) Y Y Y Y Y (by assumption) Y (oL Y U3 (t5 _ (B8) _ 1 _ Y)) (BF 32 73 (by kernel_rfl) Y Y Y Y Y (by assumption) Y (GV Y Y Y) (Qo 33 Y (FL Y Y Y Y (Qc call32 Y (Pg A F vC rF (max q0 q1) h18 hK (hR.up k18) (hF.up k18) VF nF QF.chk) (λEf h19 ms19 l19 hQ=>?_))))))))))))))));obtain⟨l19',mS2,S2,vS2,rfl,rfl,hOS2,hS2,hsS2⟩:=hQ;refine A5 hOS2 λh20 l20 hRS2=>?_;have k20:=AI k18 (AI l19 l20);have hRS2:RdC h20 vS2 S2:=⟨hRS2,λa ha=>(hsS2 a ha).up l20⟩
 obtain⟨KS2,CS2⟩:=hK.sub QF.mon hS2;refine Qa (Qo 34 Y (FL Y Y Y Y ?_));refine Qc call31 Y (U7 K2 KS2 (hR2.up k20) hRS2 (by rw[C2,CS2])) (λre3 h21 ms21 l21 hQ=>?_);obtain⟨l21',rfl,rfl⟩:=hQ;have k21:=AI k20 l21;refine Qa (Qo 35 Y (Qm Y (Qa (BW 36 77 (by kernel_rfl) Y (by assumption) Y (AC Y Y) (BF 37 78 (by kernel_rfl) Y Y Y Y Y (by assumption) Y (oG Y BJ AO (t8 _ (B8) _)) (BF 38 79 (by kernel_rfl) Y Y Y Y Y (by assumption) Y (AC Y Y) (BF 40 81 (by kernel_rfl) Y Y Y Y Y (by assumption) Y (oG Y BJ AO (t8 _ (B8) _)) (Qo 39 Y (FL Y Y Y Y (Qc call27 Y (FC A F vC rF 5 h21 hK (hR.up k21) (hF.up k21) VF QF.chk (by omega)) (λPh h22 ms22 l22 hQ=>?_)))))))))));obtain⟨l22',mS3,S3,vS3,rfl,rfl,hOS3,hS3,hsS3⟩:=hQ;refine A5 hOS3 λh23 l23 hRS3=>?_;have k23:=AI k21 (AI l22 l23);have hRS3:RdC h23 vS3 S3:=⟨hRS3,λa ha=>(hsS3 a ha).up l23⟩
 obtain⟨KS3,CS3⟩:=hK.sub QF.mon hS3;have C3:cn S3=cn A:=by rw[CS3];exact List.filter_eq_self.2 λx hx=>decide_eq_true (hF5 x hx)
 refine Qa (Qo 41 Y (FL Y Y Y Y (Qc call29 Y (YV KS3 hK hRS3 (hR.up k23) C3) (λre4 h24 ms24 l24 hQ=>?_))));obtain⟨l24',rfl,rfl⟩:=hQ;have k24:=AI k23 l24;refine Qa (Qo 42 Y (Qm Y (Qa (Qo 43 Y (Qm Y (Qa (Qe (Ab (Aq ?_)))))))));exact Az Y Y Y
open Go.ChangeShapes Go.WideShapes Go.ChangeAt Go.Deep
section
variable {H:Type} {enc:TypeId×Value->H} {w:World} {base:Nat} {spare:Nat->Bool} {held:Bool}
theorem MF{P:Program}{t:TypeId}{f0 f1 f2 f3:Field}{fuel:Nat}{cs:List Value}{x:DataW H×List MemPlace}(ht:P.underlying t=some (.struct #[f0,f1,f2,f3]))(h:DataW.trod enc P w base spare held fuel t cs=some x) :
  ∃y0 y1 y2 y3 n,cs.length=P.cellsOf t/\DataW.trod enc P w base spare held n f0.type ((cs.drop f0.offset).take (P.cellsOf f0.type))=some y0 ∧
   DataW.trod enc P w base spare held n f1.type ((cs.drop f1.offset).take (P.cellsOf f1.type))=some y1/\DataW.trod enc P w base spare held n f2.type ((cs.drop f2.offset).take (P.cellsOf f2.type))=some y2/\DataW.trod enc P w base spare held n f3.type ((cs.drop f3.offset).take (P.cellsOf f3.type))=some y3:=by
 obtain⟨xs,n,_,rfl,hl,hlen,hf⟩:=DataW.trod_struct ht h
 match xs,hlen with
 | [y0,y1,y2,y3],_=>exact⟨y0,y1,y2,y3,n,hl,by simpa using hf 0 f0 rfl,by simpa using hf 1 f1 rfl,by simpa using hf 2 f2 rfl,by simpa using hf 3 f3 rfl⟩
theorem Nr(n:Nat)(cs:List Value)(y:DataW H×List MemPlace)(h:DataW.trod enc Tryz.prog w base spare held n 5 cs=some y):∃a:Nat,cs=[.int .u8 (a:Nat)]/\a<256:=by obtain⟨b,h1,_,h2⟩:=DataW.trod_int U5 h;have h3:=bounds_u8 h2;exact⟨b.toNat,by rw[h1,Int.toNat_of_nonneg (by omega)],by omega⟩
theorem YB{v:Value}{fuel:Nat}{x:DataW H×List MemPlace}(h:DataW.trod enc Tryz.prog w base spare held fuel 23 [v]=some x):∃l,RdL (λg:Nat=>[.int .u8 (g:Nat)]) 1 (whole w) [] v l/\∀a∈l,a<256:=
 Oz TH (by kernel_rfl) (λ_=>rfl) (by decide) Nr h
theorem PE{v:Value}{r:Reach}{b0:Nat}{d:DataW H}{ps:List MemPlace}(hval:Value.okWide Tryz.prog w r b0 25 v)(h:DataW.Trod enc Tryz.prog w base spare held 25 v d ps):∃(sp be:Nat) (v0 vG:Value) (L:List Int) (G:List Nat),v=.agg #[.int .u8 sp,v0,vG,.int .u8 be]/\sp<256/\be<256/\(∀g∈G,g<256)/\RdL cI 1 (whole w) [] v0 L/\RdL (λg:Nat=>[.int .u8 (g:Nat)]) 1 (whole w) [] vG G:=by
 obtain⟨cs,rfl,hc⟩:=okWide_struct U25 hval;obtain⟨fuel,hf⟩:=h;obtain⟨y0,y1,y2,y3,n,h0,h1,h2,h3,h4⟩:=MF U25 hf;have hc3:cs.size=4:=hc.trans (by kernel_rfl);obtain⟨l⟩:=cs
 match l,hc3 with
 | [c0,c1,c2,c3],_=>
  have h1:DataW.trod enc Tryz.prog w base spare held n 5 [c0]=some y0:=h1;have h2:DataW.trod enc Tryz.prog w base spare held n 22 [c1]=some y1:=h2;have h3:DataW.trod enc Tryz.prog w base spare held n 23 [c2]=some y2:=h3;have h4:DataW.trod enc Tryz.prog w base spare held n 5 [c3]=some y3:=h4;obtain⟨sp,e0,w0⟩:=Nr n _ _ h1;obtain⟨L,hR,hE⟩:=Ry h2;obtain⟨G,hG,hI⟩:=YB h3;obtain⟨be,e2,w2⟩:=Nr n _ _ h4;simp only[List.cons.injEq,and_true]at e0 e2;subst e0 e2;exact⟨sp,be,c1,c2,L,G,Y,w0,w2,hI,hR,hG⟩
end
end Go.Proofs.Q
namespace Go.Proofs.Q
open Go.Proofs.Tryz
open Go.Eng Go.ChangeShapes Go.WideShapes Go.ChangeAt Go.RowKit Go.Deep
section
variable {H:Type} {enc:TypeId×Value->H} {w:World} {base:Nat} {spare:Nat->Bool} {held:Bool}
theorem Y6:Tryz.prog.underlying 70=some (.array 2 3):=by kernel_rfl
theorem Ys{v:Value}{r:Reach}{b0:Nat}{d:DataW H}{ps:List MemPlace}(hval:Value.okWide Tryz.prog w r b0 70 v)(h:DataW.Trod enc Tryz.prog w base spare held 70 v d ps):∃a0 a1:Int,v=.agg #[.int .i64 a0,.int .i64 a1]/\BP a0/\BP a1:=by
 obtain⟨cs,rfl,hc⟩:∃cs,v=.agg cs/\cs.size=Tryz.prog.cellsOf 70:=by simp only[Value.okWide,Y6]at hval;obtain⟨cs,h1,h2,_⟩:=hval;exact⟨cs,h1,h2⟩
 obtain⟨fuel,hf⟩:=h;obtain⟨xs,m,_,_,_,hl,hx⟩:=DataW.trod_array Y6 hf;have hc2:cs.size=2:=hc.trans (by kernel_rfl);obtain⟨l⟩:=cs
 match l,hc2,xs,hl with
 | [c0,c1],_,[y0,y1],_=>
  have h0:DataW.trod enc Tryz.prog w base spare held m 3 [c0]=some y0:=hx 0 (by decide);have h1:DataW.trod enc Tryz.prog w base spare held m 3 [c1]=some y1:=hx 1 (by decide);obtain⟨a0,e0,w0⟩:=Jd m _ _ h0;obtain⟨a1,e1,w1⟩:=Jd m _ _ h1;obtain rfl:c0=.int .i64 a0:=by simpa[cI] using e0
  obtain rfl:c1=.int .i64 a1:=by simpa[cI] using e1
  exact⟨a0,a1,Y,w0,w1⟩
end
end Go.Proofs.Q
