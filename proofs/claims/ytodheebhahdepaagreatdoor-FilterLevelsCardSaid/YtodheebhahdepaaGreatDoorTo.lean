/- Sublevel sets are those of the reference, right complexes, and parts of each other: the statement 'FilterLevels' (the tied card), for every input. -/
import Derived.Test.YtodheebhahdepaaGreatDoorUH
set_option linter.unusedSimpArgs false
set_option linter.unusedVariables false
set_option linter.unusedSimpArgs false
set_option linter.unusedVariables false
set_option maxRecDepth 100000
namespace Go.Proofs.YtodheebhahdepaaGreatDoor
open Go.Eng Go.ChangeShapes Go.WideShapes Go.ChangeAt Go.RowKit Go.Deep Go.Proofs.Q

theorem Ln(os:Os)(started:os.Started)(H:Type)(enc:TypeId×Value->H) :
    ReturnsInHanded {} Tryz.checked os 8 .any (fun w args=>(Rows.filterLevelsSpec.pre enc Tryz.prog Tryz.f8 Rows.filterLevelsRow.domain false w args/\laidMetH Tryz.prog Rows.filterLevelsRow.laid w)/\sizedMet enc Tryz.prog Tryz.f8 (OpenSpec.ofChange Rows.filterLevelsSpec) false w args)
      (Rows.filterLevelsSpec.post enc Tryz.prog Tryz.f8 false true false false):=by
  refine returnsInHanded_of_change_and (C:=Tryz.checked) (X:=fun w _=>laidMetH Tryz.prog Rows.filterLevelsRow.laid w) (fun _ _ _ hh h=>h.of_heap hh) own started (by kernel_rfl) Tryz.func8
    (ChangeSpec.witness_shaped (enc:=enc) (C:=Tryz.checked) (os:=os) (X:=fun w _=>laidMetH Tryz.prog Rows.filterLevelsRow.laid w) false (World.laidAll Tryz.prog os Rows.filterLevelsRow.laid) #[.agg #[.int .u8 0,.slice none 0 0,.slice none 0 0,.int .u8 0],.slice none 0 0,.agg #[.int .i64 0,.int .i64 0]] 8 (World.laidAll_os _ _ _)
      (World.shaped_of_ZipB (by kernel_rfl) (by kernel_rfl)) (by kernel_rfl) (by kernel_rfl) (by kernel_rfl)
      (by rw[MakeChecks.laidMetH_plain _ _ _ (by kernel_rfl)];exact laidMet_laidAll _ (by kernel_rfl) (by kernel_rfl))) ?_
  intro W base args ds gs before hval0 hW hcnd _ hL _;have hval:∀(j:Nat) t v,Tryz.f8.params[j]?=some t->args[j]?=some v->Value.okWide Tryz.prog W .any base t v:=hval0;have hW':=hW;obtain⟨p,q,hA0,hV,rfl,hfz,hnd⟩:=hW;have hA:DataW.TrodAll enc Tryz.prog W 0 (fun _=>true) true Tryz.f8.params.toList args.toList ds p:=hA0;rw[Tryz.params8]at hA hval;obtain⟨v0,vs0,d0,ds0,p0,q0,hargs,rfl,rfl,h0,r0⟩:=trodAll_cons hA;obtain⟨v1,vs1,d1,ds1,p1,q1,rfl,rfl,rfl,h1,r1⟩:=trodAll_cons r0;obtain⟨v2,vs2,d2,ds2,p2,q2,rfl,rfl,rfl,h2,r2⟩:=trodAll_cons r1;obtain⟨rfl,rfl,rfl⟩:=trodAll_nil r2;obtain rfl:args=#[v0,v1,v2]:=by cases args;simp_all
  obtain⟨rfl,rfl⟩:=trodVars_none hV;have lt0:∀x∈p0,x.block<W.heap.size:=by obtain⟨m,hm⟩:=h0;exact DataW.trod_lt m _ _ _ hm
  have k0:=h0;obtain⟨sp,be,vL0,vG,LL,GG,rfl,wsp,wbe,wG,RL0,RG⟩:=PE (hval 0 25 v0 rfl rfl) h0;obtain⟨a1,len1,cap1,rfl⟩:=okWide_slice A0 (hval 1 22 v1 rfl rfl);have lt1:∀x∈p1,x.block<W.heap.size:=by obtain⟨m,hm⟩:=h1;exact DataW.trod_lt m _ _ _ hm
  obtain⟨l1,R1,ok1⟩:∃l,RdL cI 1 (whole W) [] (.slice a1 len1 cap1) l/\∀a∈l,BP a:=by obtain⟨fuel,hf⟩:=h1;exact Ry hf
  have lt2:∀x∈p2,x.block<W.heap.size:=by obtain⟨m,hm⟩:=h2;exact DataW.trod_lt m _ _ _ hm
  have k2:=h2;obtain⟨a0,a1,rfl,w0,w1⟩:=Ys (hval 2 70 v2 rfl rfl) h2;clear hA0 hval0;refine(Py sp be a0 a1 LL l1 GG vL0 vG _ (whole W) wsp wbe w0 w1 wG RL0 RG R1 ok1 W (St.whole W)).mono fun e W' ⟨r,h',ms',he,hE,hr⟩=>?_;subst he;subst hr;have bel:=Z1 hE.toExt;exact⟨_,rfl,_,_,_,[],_,[],hW',trodAll_mk1 (shut_bool U4 _),(trodAll_cons_mk (Below.trod MQ (by kernel_rfl) (of_decide_eq_true (by kernel_rfl)) k0 bel lt0) (trodAll_cons_mk (Below.trod MQ (by kernel_rfl) (of_decide_eq_true (by kernel_rfl)) h1 bel lt1) (trodAll_cons_mk (Below.trod MQ (by kernel_rfl) (of_decide_eq_true (by kernel_rfl)) k2 bel lt2) trodAll_mk0))),rfl,bel.frame _,fun h=>by cases h⟩

theorem MN:joinedFacts Tryz.prog 8 Tryz.f8 Rows.filterLevelsSpec Rows.filterLevelsRow=true:=by
  unfold joinedFacts;simp only[Bool.and_eq_true]
  repeat' apply And.intro
  all_goals first|with_reducible exact R6|with_reducible exact Ty|with_reducible exact Ti|with_reducible exact SK|kernel_rfl
theorem P6:Rows.FilterLevelsSaid:=
  OpenClaim.holds_of_wide 8 Tryz.f8 rfl rfl rfl rfl rfl rfl rfl ⟨rfl,rfl,rfl,rfl,rfl⟩ rfl rfl rfl rfl rfl levels_g2 Tryz.func8 MN
    (of_decide_eq_true (by kernel_rfl)) (by unfold Func.isWrapper;first|(rw[if_pos (by decide +kernel)];kernel_rfl)|(rw[if_neg (by decide +kernel)];exact⟨rfl,rfl⟩))
    (fun os started H enc _=>Ln os started H enc)
theorem levels_holds:Rows.FilterLevelsCardSaid:=
  Claim7.holds_tied_plain_at .later [] [.data,.pinned] true (true,"1e708c681872694a52748150097b492f671239d41ebc9dfa17f9289ca7ca9dab") false P6 (fun _ h=>by cases h) (by kernel_rfl) (fun _ h=>by cases h) filterLevels_row_tie rfl ⟨rfl,rfl⟩ (by kernel_rfl) rfl
    (fun f fn hf hfn=>by
      obtain rfl:f=8:=Option.some.inj (levels_g2.symm.trans hf) |>.symm;obtain rfl:fn=Tryz.f8:=(Option.some.inj (Tryz.func8.symm.trans hfn)).symm
      exact⟨Sp,fun j t ht=>by
        rw[Tryz.params8]at ht;have hm:t∈[25,22,70]:=by simpa using Array.mem_of_getElem? ht
        have hall:([25,22,70].all fun u=>!Tryz.prog.wantsStandIn u)=true:=by kernel_rfl
        exact(show Tryz.prog.wantsStandIn t=false by simpa using List.all_eq_true.1 hall t hm)⟩)
    Tk
end Go.Proofs.YtodheebhahdepaaGreatDoor
