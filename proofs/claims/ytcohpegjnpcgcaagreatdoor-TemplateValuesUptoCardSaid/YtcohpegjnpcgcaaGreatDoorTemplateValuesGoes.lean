/- Proved here: what the card asks of the given code. -/
import Derived.Test.YtcohpegjnpcgcaaGreatDoorRows
import Derived.SevenTiedAt
import Derived.KernelRfl
set_option linter.unusedVariables false
set_option linter.unusedSimpArgs false
set_option linter.unusedSectionVars false
namespace Go.Proofs.YtcohpegjnpcgcaaGreatDoor
open Go
namespace templateValues
/-- where no text starts a goroutine,none that is looked at does -/
theorem Z_ {P:Program} (h:P.funcs.toList.any Func.goes=false) (c:OpenClaim):false=c.goesBy P:=by
 rw [List.any_eq_false] at h
 have hf:∀ g:Nat,(P.funcs[g]?).any Func.goes=false:=fun g=>by
  cases e:P.funcs[g]? with
  | none=>rfl
  | some fn=>simpa using h fn (Array.mem_toList_iff.2 (Array.mem_of_getElem? e))
 have ha:P.funcs.any Func.goes=false:=by rw [←Array.any_toList,List.any_eq_false]; exact h
 have hg:∀ f,P.goes f=false:=fun f=>by simp [Program.goes,hf,ha]
 have hF:P.goesFrom c.func=false:=by
  unfold Program.goesFrom
  cases P.funcNamed c.func with
  | none=>rfl
  | some f=>exact hg f
 have hI:P.inits.toList.any P.goes=false:=by rw [List.any_eq_false]; intro x _; simp [hg x]
 unfold OpenClaim.goesBy Program.goesAt
 rw [hF,hI]
 cases c.start <;> rfl
set_option maxHeartbeats 8000000 in
theorem goes :false=Rows.templateValuesUptoRow.goesBy Tryz.pinned.checked.prog:=Z_ (by kernel_rfl) _
end templateValues
end Go.Proofs.YtcohpegjnpcgcaaGreatDoor
