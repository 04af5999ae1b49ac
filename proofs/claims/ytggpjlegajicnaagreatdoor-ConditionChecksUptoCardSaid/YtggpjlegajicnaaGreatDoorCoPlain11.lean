/- Proved here: plain facts on the functional texts. -/
import Derived.Test.YtggpjlegajicnaaGreatDoorCoPlain1
import Derived.Test.YtggpjlegajicnaaGreatDoorCoPlain2
import Derived.Test.YtggpjlegajicnaaGreatDoorCoPlain3
import Derived.Test.YtggpjlegajicnaaGreatDoorCoPlain5
import Derived.Test.YtggpjlegajicnaaGreatDoorCoPlain10
import Derived.Test.YtggpjlegajicnaaGreatDoorCoPre1
import Derived.Test.YtggpjlegajicnaaGreatDoorCoPre2
import Derived.Test.YtggpjlegajicnaaGreatDoorCoFt1
import Derived.Test.YtggpjlegajicnaaGreatDoorCoFt2
import Derived.Test.YtggpjlegajicnaaGreatDoorCoFt3
import Derived.Test.YtggpjlegajicnaaGreatDoorCoFt7
import Derived.Test.YtggpjlegajicnaaGreatDoorCoFt8
set_option linter.unusedVariables false
set_option linter.unusedSimpArgs false
set_option linter.unusedSectionVars false
set_option maxHeartbeats 2000000
namespace Go.Ft
open Go
attribute [local congr] dZ
theorem ahA {env:List aH} {N:Nat} (h:(env.map aH.bulk).sum≤N):env.length≤N∧∀ d∈env,d.name.length≤N:=by
 constructor
 ·
  have:=Oj (l:=env) (f:=aH.bulk) (fun x=>by unfold aH.bulk; omega)
  omega
 ·
  intro d hd
  have:=KO (f:=aH.bulk) hd
  have h2:d.name.length < d.bulk:=by unfold aH.bulk; omega
  omega
end Go.Ft

namespace Go.Ft
open Go
attribute [local congr] dZ
theorem Zc {e:aj} {vars:List aH} {t:ak} {c:Int} (hn:vars.length≤1048576) (hc:Bt e (Ew ++ vars)=some (t,c)):JD e vars=some (if c≠0 then c else Zl t):=by
 unfold JD
 rw [Zb hn,ay,hc,bU]
 unfold Zl
 by_cases h:c=0
 ·
  by_cases k2:t.kind=2
  · simp [h,k2]
  ·
   by_cases k0:t.kind=0
   · simp [h,k0]
   ·
    by_cases k7:t.kind=7
    · simp [h,k7]
    · simp [h,k2,k0,k7]
 · simp [h]
end Go.Ft

namespace Go.Ft
open Go
attribute [local congr] dZ
theorem OB (fD:aj) (bG:List aH) (h:aj.bulk fD + ((List.map (fun z:aH=>(aH.bulk z)) bG).sum + 1)≤1048576):uy fD bG=some true:=by
 have hE:(bG.map aH.bulk).sum≤1048576:=by
  have h':(List.map (fun z:aH=>(aH.bulk z)) bG).sum≤1048576:=by omega
  exact h'
 obtain ⟨e1,e2⟩:=ahA hE
 obtain ⟨f1,f2⟩:=ade e1 e2
 unfold uy yX
 rw [(count_eq (e:=fD) (by omega)).2,FM,ay,ay]
 split
 · rfl
 ·
  rcases WO (e:=fD) (env:=Ew ++ bG) (by omega) f1 f2 with ⟨c,c0,c1,c2⟩ | ⟨T,w,d,c1,c2,_⟩
  · rw [Oq e1 c1,Zc e1 c2]; simp
  · rw [Oq e1 c1,Zc e1 c2]; simp
end Go.Ft
