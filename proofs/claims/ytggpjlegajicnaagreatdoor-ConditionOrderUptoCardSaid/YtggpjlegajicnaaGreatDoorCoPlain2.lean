/- Proved here: plain facts on the functional texts. -/
import Derived.Test.YtggpjlegajicnaaGreatDoorCoPlain1
import Derived.Test.YtggpjlegajicnaaGreatDoorCoPre1
import Derived.Test.YtggpjlegajicnaaGreatDoorCoFt1
import Derived.Test.YtggpjlegajicnaaGreatDoorCoFt2
set_option linter.unusedVariables false
set_option linter.unusedSimpArgs false
set_option linter.unusedSectionVars false
set_option maxHeartbeats 2000000
namespace Go.Ft
open Go
attribute [local congr] dZ
theorem KO {α:Type} {f:α→Nat} {l:List α} {x:α} (h:x∈l):f x≤(l.map f).sum:=by
 induction l with
 | nil=>cases h
 | cons y l ih=>
  simp only [List.map_cons,List.sum_cons]
  rcases List.mem_cons.1 h with rfl | h
  · omega
  · have:=ih h; omega
theorem Oj {α:Type} {f:α→Nat} {l:List α} (h:∀ x,1≤f x):l.length≤(l.map f).sum:=by
 induction l with
 | nil=>simp
 | cons y l ih=>simp only [List.map_cons,List.sum_cons,List.length_cons]; have:=h y; omega
theorem ah.jY (v:ah):1≤v.bulk:=by rw [ah.jA]; omega
theorem aj.jY (v:aj):1≤v.bulk:=by rw [aj.jA]; omega
theorem ak.jY (v:ak):1≤v.bulk:=by rw [ak.jA]; omega
theorem vW (v:ah):v.aO.length < v.bulk:=by rw [ah.jA,ah.kE]; have:=Oj (l:=v.aO) ah.jY; omega
theorem iV {v x:ah} (h:x∈v.aO):x.bulk < v.bulk:=by rw [ah.jA v,ah.kE]; have:=KO (f:=ah.bulk) h; omega
theorem yB (v:ah):v.keys.length < v.bulk:=by rw [ah.jA]; have:=Oj (l:=v.keys) (f:=fun z:Str=>z.length + 1) (fun x=>by omega); omega
theorem uW :∃ n,BIG=n + 1∧9223372036854775807≤n:=⟨BIG - 1,by decide,by decide⟩
end Go.Ft
