/- Proved here: plain facts on the functional texts. -/
import Derived.Test.YtggpjlegajicnaaGreatDoorCoPlain1
import Derived.Test.YtggpjlegajicnaaGreatDoorCoPlain2
import Derived.Test.YtggpjlegajicnaaGreatDoorCoPlain4
import Derived.Test.YtggpjlegajicnaaGreatDoorCoPre1
import Derived.Test.YtggpjlegajicnaaGreatDoorCoFt1
import Derived.Test.YtggpjlegajicnaaGreatDoorCoFt2
import Derived.Test.YtggpjlegajicnaaGreatDoorCoFt4
set_option linter.unusedVariables false
set_option linter.unusedSimpArgs false
set_option linter.unusedSectionVars false
set_option maxHeartbeats 2000000
namespace Go.Ft
open Go
attribute [local congr] dZ
theorem CK {env:List aA} {N:Nat} (h:(env.map aA.bulk).sum≤N):env.length≤N∧∀ d∈env,d.name.length≤N∧d.value.bulk≤N:=by
 constructor
 ·
  have:=Oj (l:=env) (f:=aA.bulk) (fun x=>by unfold aA.bulk; omega)
  omega
 ·
  intro d hd
  have:=KO (f:=aA.bulk) hd
  have h2:d.name.length < d.bulk:=by unfold aA.bulk; omega
  have h3:d.value.bulk < d.bulk:=by unfold aA.bulk; omega
  omega
theorem ak7 {env:List aA} (hE:(env.map aA.bulk).sum≤1048576):env.length < 4611686018427387904∧∀ d∈env,d.name.length < 4611686018427387000∧d.value.bulk≤1048576:=by
 obtain ⟨s1,s2⟩:=CK hE
 exact ⟨by omega,fun d hd=>by have:=s2 d hd; omega⟩
end Go.Ft

namespace Go.Ft
open Go
attribute [local congr] dZ
theorem UQ {needs:List Int} {vars:List aA} (h:(vars.map aA.bulk).sum≤1048576):(Dr needs vars).length < 4611686018427387904∧∀ d∈Dr needs vars,d.name.length < 4611686018427387000∧d.value.bulk≤1048576:=by
 obtain ⟨s1,s2⟩:=ak7 h
 have five:∀ c f k s,∀ d∈OV c f k s,d.name.length < 4611686018427387000∧d.value.bulk≤1048576:=by
  intro c f k s d hd
  have hb:∀ (n:Str) (b:Bool),(tv n b).value.bulk=7:=fun n b=>by unfold tv ah.bulk ah.nZ; simp
  have hs:∀ m:Nat,m≤9→m < 4611686018427387000:=fun m h=>by omega
  simp only [OV,List.mem_cons,List.not_mem_nil,or_false] at hd
  rcases hd with rfl | rfl | rfl | rfl | rfl <;> exact ⟨hs _ (by first | exact (by decide:nAl.length≤9) | exact (by decide:nCa.length≤9) | exact (by decide:nFa.length≤9) | exact (by decide:nSk.length≤9) | exact (by decide:nSu.length≤9)),by rw [hb]; decide⟩
 have hvs:=CK h
 unfold Dr
 refine ⟨by simp [OV]; omega,fun d hd=>?_⟩
 rcases List.mem_append.1 hd with hd | hd
 · exact five _ _ _ _ d hd
 · exact s2 d hd
end Go.Ft
