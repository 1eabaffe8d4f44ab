/- What Reduce returns has the properties that it should have, and proves the bars: the statement 'FilterReduces' (the tied card), for every input. -/
import Derived.Test.YtodheebhahdepaaGreatDoorPI
set_option linter.unusedSimpArgs false
set_option linter.unusedVariables false
set_option linter.unusedSimpArgs false
set_option linter.unusedVariables false
set_option maxRecDepth 100000
namespace Go.Proofs.YtodheebhahdepaaGreatDoor
open Go.Eng Go.ChangeShapes Go.WideShapes Go.ChangeAt Go.RowKit Go.Deep Go.Proofs.Q

theorem K9(os:Os)(started:os.Started)(H:Type)(enc:TypeId×Value->H) :
    ReturnsInHanded {} Tryz.checked os 10 .any (fun w args=>(Rows.filterReducesSpec.pre enc Tryz.prog Tryz.f10 Rows.filterReducesRow.domain false w args/\laidMetH Tryz.prog Rows.filterReducesRow.laid w)/\sizedMet enc Tryz.prog Tryz.f10 (OpenSpec.ofChange Rows.filterReducesSpec) false w args)
      (Rows.filterReducesSpec.post enc Tryz.prog Tryz.f10 false true false false):=by
  refine returnsInHanded_of_change_and (C:=Tryz.checked) (X:=fun w _=>laidMetH Tryz.prog Rows.filterReducesRow.laid w) (fun _ _ _ hh h=>h.of_heap hh) own started (by kernel_rfl) Tryz.func10
    (ChangeSpec.witness_shaped (enc:=enc) (C:=Tryz.checked) (os:=os) (X:=fun w _=>laidMetH Tryz.prog Rows.filterReducesRow.laid w) false (World.laidAll Tryz.prog os Rows.filterReducesRow.laid) #[.agg #[.int .u8 0,.slice none 0 0,.slice none 0 0,.int .u8 0],.slice none 0 0,.int .u8 0] 8 (World.laidAll_os _ _ _)
      (World.shaped_of_ZipB (by kernel_rfl) (by kernel_rfl)) (by kernel_rfl) (by kernel_rfl) (by kernel_rfl)
      (by rw[MakeChecks.laidMetH_plain _ _ _ (by kernel_rfl)];exact laidMet_laidAll _ (by kernel_rfl) (by kernel_rfl))) ?_
  intro W base args ds gs before hval0 hW hcnd _ hL _;have hval:∀(j:Nat) t v,Tryz.f10.params[j]?=some t->args[j]?=some v->Value.okWide Tryz.prog W .any base t v:=hval0;have hW':=hW;obtain⟨p,q,hA0,hV,rfl,hfz,hnd⟩:=hW;have hA:DataW.TrodAll enc Tryz.prog W 0 (fun _=>true) true Tryz.f10.params.toList args.toList ds p:=hA0;rw[Tryz.params10]at hA hval;obtain⟨v0,vs0,d0,ds0,p0,q0,hargs,rfl,rfl,h0,r0⟩:=trodAll_cons hA;obtain⟨v1,vs1,d1,ds1,p1,q1,rfl,rfl,rfl,h1,r1⟩:=trodAll_cons r0;obtain⟨v2,vs2,d2,ds2,p2,q2,rfl,rfl,rfl,h2,r2⟩:=trodAll_cons r1;obtain⟨rfl,rfl,rfl⟩:=trodAll_nil r2;obtain rfl:args=#[v0,v1,v2]:=by cases args;simp_all
  obtain⟨rfl,rfl⟩:=trodVars_none hV;have lt0:∀x∈p0,x.block<W.heap.size:=by obtain⟨m,hm⟩:=h0;exact DataW.trod_lt m _ _ _ hm
  have k0:=h0;obtain⟨sp,be,vL0,vG,LL,GG,rfl,wsp,wbe,wG,RL0,RG⟩:=QS (hval 0 25 v0 rfl rfl) h0;obtain⟨a1,len1,cap1,rfl⟩:=okWide_slice AP (hval 1 22 v1 rfl rfl);have lt1:∀x∈p1,x.block<W.heap.size:=by obtain⟨m,hm⟩:=h1;exact DataW.trod_lt m _ _ _ hm
  obtain⟨l1,R1,ok1⟩:∃l,RdL cI 1 (whole W) [] (.slice a1 len1 cap1) l/\∀a∈l,BS a:=by obtain⟨fuel,hf⟩:=h1;exact R8 hf
  obtain⟨x2,rfl,rfl,rfl,w2⟩:=open_int U5 (hval 2 5 v2 rfl rfl) h2;clear hA0 hval0;refine(N7 sp be x2 LL l1 GG vL0 vG _ (whole W) wsp wbe (bounds_u8 w2) wG RL0 RG R1 ok1 W (St.whole W)).mono fun e W' ⟨r,h',ms',he,hE,hr⟩=>?_;subst he;subst hr;have bel:=Abb hE.toExt;exact⟨_,rfl,_,_,_,[],_,[],hW',trodAll_mk1 (shut_bool U4 _),(trodAll_cons_mk (Below.trod Sj (by kernel_rfl) (of_decide_eq_true (by kernel_rfl)) k0 bel lt0) (trodAll_cons_mk (Below.trod Sj (by kernel_rfl) (of_decide_eq_true (by kernel_rfl)) h1 bel lt1) (trodAll_cons_mk (shut_int U5 w2) trodAll_mk0))),rfl,bel.frame _,fun h=>by cases h⟩

theorem L6:joinedFacts Tryz.prog 10 Tryz.f10 Rows.filterReducesSpec Rows.filterReducesRow=true:=by
  unfold joinedFacts;simp only[Bool.and_eq_true]
  repeat' apply And.intro
  all_goals first|with_reducible exact QQ|with_reducible exact Rm|with_reducible exact Rq|with_reducible exact RJ|kernel_rfl
theorem PH:Rows.FilterReducesSaid:=
  OpenClaim.holds_of_wide 10 Tryz.f10 rfl rfl rfl rfl rfl rfl rfl ⟨rfl,rfl,rfl,rfl,rfl⟩ rfl rfl rfl rfl rfl reduces_g2 Tryz.func10 L6
    (of_decide_eq_true (by kernel_rfl)) (by unfold Func.isWrapper;first|(rw[if_pos (by decide +kernel)];kernel_rfl)|(rw[if_neg (by decide +kernel)];exact⟨rfl,rfl⟩))
    (fun os started H enc _=>K9 os started H enc)
theorem reduces_holds:Rows.FilterReducesCardSaid:=
  Claim7.holds_tied_plain_at .later [] [.data,.pinned] true (true,"1e708c681872694a52748150097b492f671239d41ebc9dfa17f9289ca7ca9dab") false PH (fun _ h=>by cases h) (by kernel_rfl) (fun _ h=>by cases h) filterReduces_row_tie rfl ⟨rfl,rfl⟩ (by kernel_rfl) rfl
    (fun f fn hf hfn=>by
      obtain rfl:f=10:=Option.some.inj (reduces_g2.symm.trans hf) |>.symm;obtain rfl:fn=Tryz.f10:=(Option.some.inj (Tryz.func10.symm.trans hfn)).symm
      exact⟨RQ,fun j t ht=>by
        rw[Tryz.params10]at ht;have hm:t∈[25,22,5]:=by simpa using Array.mem_of_getElem? ht
        have hall:([25,22,5].all fun u=>!Tryz.prog.wantsStandIn u)=true:=by kernel_rfl
        exact(show Tryz.prog.wantsStandIn t=false by simpa using List.all_eq_true.1 hall t hm)⟩)
    RA
end Go.Proofs.YtodheebhahdepaaGreatDoor
