/- Proved here: an argument is inserted as a literal wherever its parameter occurs, for every input of a bulk of at most 1048576 (the statement TemplateValuesUptoCardSaid). Conditions: none. The walks were written by a program of ours. -/
import Derived.Test.YtcohpegjnpcgcaaGreatDoorTemplateValuesLift
import Derived.Test.YtcohpegjnpcgcaaGreatDoorTemplateValuesFacts
import Derived.Test.YtcohpegjnpcgcaaGreatDoorTemplateValuesGoes
set_option linter.unusedVariables false
set_option linter.unusedSimpArgs false
set_option linter.unusedSectionVars false
namespace Go.Proofs.YtcohpegjnpcgcaaGreatDoor
open Go Go.Abs Go.Ft
namespace templateValues
theorem over :Rows.templateValuesUptoRow.holds Tryz.pinned (Rows.OpenSpec.upto Rows.templateValuesSpec):=
 OpenClaim.holds_of_cond 5 Tryz.f5 rfl rfl rfl rfl rfl rfl rfl ⟨rfl,rfl,rfl,rfl,rfl⟩ rfl rfl rfl rfl rfl (by kernel_rfl) Tryz.func5 Ig
  (of_decide_eq_true (by kernel_rfl)) (by unfold Func.isWrapper; first | (rw [if_pos (by decide +kernel)]; kernel_rfl) | (rw [if_neg (by decide +kernel)]; exact ⟨rfl,rfl⟩))
  (fun os started H enc _ F=>by rw [OpenClaim.pre_eq_preRow]; exact lifted os started H enc F)
/-- what the card asks of the parameters -/
theorem plain (f:FuncId) (fn:Func) (hf:Tryz.pinned.checked.prog.funcNamed "pipeline/pipelinelaw15.TemplateValues" =some f) (hfn:Tryz.pinned.checked.prog.funcs[f]?=some fn):
  true=Tryz.pinned.checked.prog.looks []∧∀ (j:Nat) t,fn.params[j]?=some t→Tryz.pinned.checked.prog.wantsStandIn t=false:=by
 obtain rfl:f=5:=Option.some.inj ((show Tryz.prog.funcNamed "pipeline/pipelinelaw15.TemplateValues" =some 5 by kernel_rfl).symm.trans hf) |>.symm
 obtain rfl:fn=Tryz.f5:=(Option.some.inj (Tryz.func5.symm.trans hfn)).symm
 refine ⟨by kernel_rfl,fun j t ht=>?_⟩
 rw [Tryz.params5] at ht
 have hm:t∈[42,4]:=by have:=Array.mem_of_getElem? ht; simpa using this
 simp only [List.mem_cons,List.not_mem_nil,or_false] at hm
 rcases hm with rfl | rfl
 · exact (show Tryz.prog.wantsStandIn 42=false by kernel_rfl)
 · exact (show Tryz.prog.wantsStandIn 4=false by kernel_rfl)
/-- THE STATEMENT -/
theorem proved :Rows.TemplateValuesUptoCardSaid:=
 Claim7.holds_tied_plain_at .later [] _ _ _ _ over (fun _ h=>by cases h) (by kernel_rfl) (fun _ h=>by cases h) templateValuesUpto_row_tie rfl ⟨rfl,rfl⟩ (by kernel_rfl) rfl plain goes
#print axioms proved
end templateValues
end Go.Proofs.YtcohpegjnpcgcaaGreatDoor
