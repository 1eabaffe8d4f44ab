/- The functions do not change their arguments, and results share no memory with them: the statement 'AnswerKeeps' (the tied card), for every input. -/
import Derived.Test.YtmgaeedkcecckaaGreatDoorSJ
set_option linter.unusedSimpArgs false
set_option linter.unusedVariables false
set_option linter.unusedSimpArgs false
set_option linter.unusedVariables false
set_option maxRecDepth 100000
namespace Go.Proofs.YtmgaeedkcecckaaGreatDoor
open Go.Eng Go.ChangeShapes Go.WideShapes Go.ChangeAt Go.RowKit Go.Deep Go.Proofs.Q

theorem C8(os:Os)(started:os.Started)(H:Type)(enc:TypeId×Value->H) :
    ReturnsInHanded {} Tryz.checked os 11 .any (fun w args=>(Rows.answerKeepsSpec.pre enc Tryz.prog Tryz.f11 Rows.answerKeepsRow.domain false w args/\laidMetH Tryz.prog Rows.answerKeepsRow.laid w)/\sizedMet enc Tryz.prog Tryz.f11 (OpenSpec.ofChange Rows.answerKeepsSpec) false w args)
      (Rows.answerKeepsSpec.post enc Tryz.prog Tryz.f11 false true false false):=by
  refine returnsInHanded_of_change_and (C:=Tryz.checked) (X:=fun w _=>laidMetH Tryz.prog Rows.answerKeepsRow.laid w) (fun _ _ _ hh h=>h.of_heap hh) own started (by kernel_rfl) Tryz.func11
    (ChangeSpec.witness_shaped (enc:=enc) (C:=Tryz.checked) (os:=os) (X:=fun w _=>laidMetH Tryz.prog Rows.answerKeepsRow.laid w) false (World.laidAll Tryz.prog os Rows.answerKeepsRow.laid) #[.slice none 0 0,.agg #[.slice none 0 0,.slice none 0 0]] 8 (World.laidAll_os _ _ _)
      (World.shaped_of_ZipB (by kernel_rfl) (by kernel_rfl)) (by kernel_rfl) (by kernel_rfl) (by kernel_rfl)
      (by rw[MakeChecks.laidMetH_plain _ _ _ (by kernel_rfl)];exact laidMet_laidAll _ (by kernel_rfl) (by kernel_rfl))) ?_
  intro W base args ds gs before hval0 hW hcnd _ hL _;have hval:∀(j:Nat) t v,Tryz.f11.params[j]?=some t->args[j]?=some v->Value.okWide Tryz.prog W .any base t v:=hval0;have hW':=hW;obtain⟨p,q,hA0,hV,rfl,hfz,hnd⟩:=hW;have hA:DataW.TrodAll enc Tryz.prog W 0 (fun _=>true) true Tryz.f11.params.toList args.toList ds p:=hA0;rw[Tryz.params11]at hA hval;obtain⟨v0,vs0,d0,ds0,p0,q0,hargs,rfl,rfl,h0,r0⟩:=trodAll_cons hA;obtain⟨v1,vs1,d1,ds1,p1,q1,rfl,rfl,rfl,h1,r1⟩:=trodAll_cons r0;obtain⟨rfl,rfl,rfl⟩:=trodAll_nil r1;obtain rfl:args=#[v0,v1]:=by cases args;simp_all
  obtain⟨rfl,rfl⟩:=trodVars_none hV;obtain⟨a0,len0,cap0,rfl⟩:=okWide_slice Bb (hval 0 22 v0 rfl rfl);have lt0:∀x∈p0,x.block<W.heap.size:=by obtain⟨m,hm⟩:=h0;exact DataW.trod_lt m _ _ _ hm
  obtain⟨l0,R0,ok0⟩:∃l,RdL cI 1 (whole W) [] (.slice a0 len0 cap0) l/\∀a∈l,Cb a:=by obtain⟨fuel,hf⟩:=h0;exact Xw hf
  have lt1:∀x∈p1,x.block<W.heap.size:=by obtain⟨m,hm⟩:=h1;exact DataW.trod_lt m _ _ _ hm
  have k1:=h1;obtain⟨V1,V1l,V1r,V1c⟩:=AiK (hval 1 23 v1 rfl rfl) h1;clear hA0 hval0;refine(AiL l0 V1 _ _ (whole W) R0 V1l V1r V1c W (St.whole W)).mono fun e W' ⟨r,h',ms',he,hE,hr⟩=>?_;subst he;subst hr;have bel:=AgH hE.toExt;exact⟨_,rfl,_,_,_,[],_,[],hW',trodAll_mk1 (shut_bool U4 _),(trodAll_cons_mk (Below.trod Yd (by kernel_rfl) (of_decide_eq_true (by kernel_rfl)) h0 bel lt0) (trodAll_cons_mk (Below.trod Yd (by kernel_rfl) (of_decide_eq_true (by kernel_rfl)) k1 bel lt1) trodAll_mk0)),rfl,bel.frame _,fun h=>by cases h⟩

theorem Q5:joinedFacts Tryz.prog 11 Tryz.f11 Rows.answerKeepsSpec Rows.answerKeepsRow=true:=by
  unfold joinedFacts;simp only[Bool.and_eq_true]
  repeat' apply And.intro
  all_goals first|with_reducible exact AiN|with_reducible exact AiR|with_reducible exact AiT|with_reducible exact AiO|kernel_rfl
theorem AiJ:Rows.AnswerKeepsSaid:=
  OpenClaim.holds_of_wide 11 Tryz.f11 rfl rfl rfl rfl rfl rfl rfl ⟨rfl,rfl,rfl,rfl,rfl⟩ rfl rfl rfl rfl rfl keeps_g2 Tryz.func11 Q5
    (of_decide_eq_true (by kernel_rfl)) (by unfold Func.isWrapper;first|(rw[if_pos (by decide +kernel)];kernel_rfl)|(rw[if_neg (by decide +kernel)];exact⟨rfl,rfl⟩))
    (fun os started H enc _=>C8 os started H enc)
theorem keeps_holds:Rows.AnswerKeepsCardSaid:=
  Claim7.holds_tied_plain_at .later [] [.data,.pinned] true (true,"29e9f87f0d0d7f1cbce4f490d25a3a415d73aec5d29c1a034725e853cf462fc1") false AiJ (fun _ h=>by cases h) (by kernel_rfl) (fun _ h=>by cases h) answerKeeps_row_tie rfl ⟨rfl,rfl⟩ (by kernel_rfl) rfl
    (fun f fn hf hfn=>by
      obtain rfl:f=11:=Option.some.inj (keeps_g2.symm.trans hf) |>.symm;obtain rfl:fn=Tryz.f11:=(Option.some.inj (Tryz.func11.symm.trans hfn)).symm
      exact⟨AiQ,fun j t ht=>by
        rw[Tryz.params11]at ht;have hm:t∈[22,23]:=by simpa using Array.mem_of_getElem? ht
        have hall:([22,23].all fun u=>!Tryz.prog.wantsStandIn u)=true:=by kernel_rfl
        exact(show Tryz.prog.wantsStandIn t=false by simpa using List.all_eq_true.1 hall t hm)⟩)
    AiS
end Go.Proofs.YtmgaeedkcecckaaGreatDoor
