/- Proved here: Bind returns the specified variables, or the error, for every input of a bulk of at most 1048576 (the statement TemplateBindsUptoCardSaid). Conditions: none. The walks were written by a program of ours. -/
import Derived.Test.YtcohpegjnpcgcaaGreatDoorTemplateBindsLift
import Derived.Test.YtcohpegjnpcgcaaGreatDoorTemplateBindsFacts
import Derived.Test.YtcohpegjnpcgcaaGreatDoorTemplateBindsGoes
set_option linter.unusedVariables false
set_option linter.unusedSimpArgs false
set_option linter.unusedSectionVars false
namespace Go.Proofs.YtcohpegjnpcgcaaGreatDoor
open Go Go.Abs Go.Ft
namespace templateBinds
theorem over :Rows.templateBindsUptoRow.holds Tryz.pinned (Rows.OpenSpec.upto Rows.templateBindsSpec):=
 OpenClaim.holds_of_cond 3 Tryz.f3 rfl rfl rfl rfl rfl rfl rfl ⟨rfl,rfl,rfl,rfl,rfl⟩ rfl rfl rfl rfl rfl (by kernel_rfl) Tryz.func3 IL
  (of_decide_eq_true (by kernel_rfl)) (by unfold Func.isWrapper; first | (rw [if_pos (by decide +kernel)]; kernel_rfl) | (rw [if_neg (by decide +kernel)]; exact ⟨rfl,rfl⟩))
  (fun os started H enc _ F=>by rw [OpenClaim.pre_eq_preRow]; exact lifted os started H enc F)
/-- what the card asks of the parameters -/
theorem plain (f:FuncId) (fn:Func) (hf:Tryz.pinned.checked.prog.funcNamed "pipeline/pipelinelaw15.TemplateBinds" =some f) (hfn:Tryz.pinned.checked.prog.funcs[f]?=some fn):
  true=Tryz.pinned.checked.prog.looks []∧∀ (j:Nat) t,fn.params[j]?=some t→Tryz.pinned.checked.prog.wantsStandIn t=false:=by
 obtain rfl:f=3:=Option.some.inj ((show Tryz.prog.funcNamed "pipeline/pipelinelaw15.TemplateBinds" =some 3 by kernel_rfl).symm.trans hf) |>.symm
 obtain rfl:fn=Tryz.f3:=(Option.some.inj (Tryz.func3.symm.trans hfn)).symm
 refine ⟨by kernel_rfl,fun j t ht=>?_⟩
 rw [Tryz.params3] at ht
 have hm:t∈[22,23]:=by have:=Array.mem_of_getElem? ht; simpa using this
 simp only [List.mem_cons,List.not_mem_nil,or_false] at hm
 rcases hm with rfl | rfl
 · exact (show Tryz.prog.wantsStandIn 22=false by kernel_rfl)
 · exact (show Tryz.prog.wantsStandIn 23=false by kernel_rfl)
/-- THE STATEMENT -/
theorem proved :Rows.TemplateBindsUptoCardSaid:=
 Claim7.holds_tied_plain_at .later [] _ _ _ _ over (fun _ h=>by cases h) (by kernel_rfl) (fun _ h=>by cases h) templateBindsUpto_row_tie rfl ⟨rfl,rfl⟩ (by kernel_rfl) rfl plain goes
#print axioms proved
end templateBinds
end Go.Proofs.YtcohpegjnpcgcaaGreatDoor
