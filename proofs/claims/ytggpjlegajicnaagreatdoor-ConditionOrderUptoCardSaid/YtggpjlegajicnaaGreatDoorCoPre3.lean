/- Proved here: plain facts on the functional texts that the walks want. -/
import Derived.Test.YtggpjlegajicnaaGreatDoorCoPre1
import Derived.Test.YtggpjlegajicnaaGreatDoorCoPre2
import Derived.Test.YtggpjlegajicnaaGreatDoorCoFt1
import Derived.Test.YtggpjlegajicnaaGreatDoorCoFt2
import Derived.Test.YtggpjlegajicnaaGreatDoorCoFt3
import Derived.Test.YtggpjlegajicnaaGreatDoorCoFt4
import Derived.Test.YtggpjlegajicnaaGreatDoorCoFt6
set_option linter.unusedVariables false
set_option linter.unusedSimpArgs false
set_option linter.unusedSectionVars false
set_option maxHeartbeats 2000000
namespace Go.Ft
open Go
theorem V4 :∀ l m:List Nat,uY l m=-1∨uY l m=0∨uY l m=1
 | [],[]=>.inr (.inl rfl)
 | [],_ :: _=>.inl rfl
 | _ :: _,[]=>.inr (.inr rfl)
 | a :: l,b :: m=>by
  simp only [uY]
  by_cases h1:a < b
  · simp [h1]
  ·
   by_cases h2:b < a
   · simp [h1,h2]
   · simp only [h1,h2,if_false]; exact V4 l m
theorem Pq {a b:Str} (ha:a.length < 4611686018427387904) (hb:b.length < 4611686018427387904):qN a b=some (iF a b):=by
 obtain ⟨c,h1,h2⟩:=WE ha hb
 rw [Sg ha hb] at h1
 rw [h2,←h1]
end Go.Ft
