/- Proved here: plain facts on the functional texts. -/
import Derived.Test.YtggpjlegajicnaaGreatDoorCoPlain1
import Derived.Test.YtggpjlegajicnaaGreatDoorCoPlain2
import Derived.Test.YtggpjlegajicnaaGreatDoorCoPlain3
import Derived.Test.YtggpjlegajicnaaGreatDoorCoPlain4
import Derived.Test.YtggpjlegajicnaaGreatDoorCoPlain5
import Derived.Test.YtggpjlegajicnaaGreatDoorCoPlain6
import Derived.Test.YtggpjlegajicnaaGreatDoorCoPlain9
import Derived.Test.YtggpjlegajicnaaGreatDoorCoPre1
import Derived.Test.YtggpjlegajicnaaGreatDoorCoPre2
import Derived.Test.YtggpjlegajicnaaGreatDoorCoPre3
import Derived.Test.YtggpjlegajicnaaGreatDoorCoFt1
import Derived.Test.YtggpjlegajicnaaGreatDoorCoFt2
import Derived.Test.YtggpjlegajicnaaGreatDoorCoFt3
import Derived.Test.YtggpjlegajicnaaGreatDoorCoFt4
import Derived.Test.YtggpjlegajicnaaGreatDoorCoFt6
import Derived.Test.YtggpjlegajicnaaGreatDoorCoFt11
set_option linter.unusedVariables false
set_option linter.unusedSimpArgs false
set_option linter.unusedSectionVars false
set_option maxHeartbeats 2000000
namespace Go.Ft
open Go
attribute [local congr] dZ
theorem akb (needs:List Int) (vars:List aA):Dr (needs.reverse ++ needs) vars=Dr needs vars:=by
 unfold Dr
 simp only [List.any_append,List.any_reverse,List.all_append,List.all_reverse,Bool.or_self,Bool.and_self]
theorem Zf {e:aj} {needs:List Int} {vars:List aA} (h:e.bulk≤1048576) (hl:needs.length≤1048576) (hE:(vars.map aA.bulk).sum≤1048576):∀ (k i:Nat),i < k→i≤needs.length→mG e needs vars k (needs.drop i).reverse ((i:Int) - 1)=some true
 | 0,i,h,h'=>by omega
 | k + 1,i,hk,hi=>by
  have hL:wB=4294967296:=rfl
  rw [mG]
  cases i with
  | zero=>
   rw [if_neg (by simp),List.drop_zero,vN (by simp; omega),ay,RB (by omega) (by omega) hE,RB (by omega) (by simp; omega) hE,akb,Kc,Kc,FM]
   simp
  | succ i=>
   have e1:(((i + 1:Nat):Int) - 1)=(i:Int):=by omega
   rw [e1,if_pos (by simp),rW (by omega),ay,vN (by simp; omega),ay]
   have e2:(needs.drop (i + 1)).reverse ++ [needs[i]]=(needs.drop i).reverse:=by
    rw [List.drop_eq_getElem_cons (i:=i) (by omega),List.reverse_cons]
   have e3:bZ ((i:Int) - 1)=(i:Int) - 1:=aeg (by omega) (by omega)
   rw [e2,e3]
   exact Zf h hl hE k i (by omega) (by omega)
theorem PD (fD:aj) (bC:List Int) (bG:List aA) (h:aj.bulk fD + ((List.map (fun z:Int=>1) bC).sum + 1) + ((List.map (fun z:aA=>(aA.bulk z)) bG).sum + 1)≤1048576):vG fD bC bG=some true:=by
 obtain ⟨a,b,c⟩:=ael h
 unfold vG
 rw [aan (by omega),FM,ay]
 split
 · rfl
 ·
  have e1:bZ ((bC.length:Int) - 1)=(bC.length:Int) - 1:=aeg (by omega) (by omega)
  rw [e1]
  have:=Zf (e:=fD) (needs:=bC) (vars:=bG) a b c BIG bC.length (by have:=jq; omega) (Nat.le_refl _)
  simpa using this
end Go.Ft
