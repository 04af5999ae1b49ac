/- Proved here: plain facts on the functional texts. -/
import Derived.Test.YtggpjlegajicnaaGreatDoorCoPlain1
import Derived.Test.YtggpjlegajicnaaGreatDoorCoPlain2
import Derived.Test.YtggpjlegajicnaaGreatDoorCoPlain4
import Derived.Test.YtggpjlegajicnaaGreatDoorCoPlain6
import Derived.Test.YtggpjlegajicnaaGreatDoorCoPre1
import Derived.Test.YtggpjlegajicnaaGreatDoorCoFt1
import Derived.Test.YtggpjlegajicnaaGreatDoorCoFt2
import Derived.Test.YtggpjlegajicnaaGreatDoorCoFt4
import Derived.Test.YtggpjlegajicnaaGreatDoorCoFt5
set_option linter.unusedVariables false
set_option linter.unusedSimpArgs false
set_option linter.unusedSectionVars false
set_option maxHeartbeats 2000000
namespace Go.Ft
open Go
attribute [local congr] dZ
theorem afY (needs:List Int) (hl:needs.length < 4611686018427387904) (q:Int):∀ k i:Nat,needs.length < k + i→i≤needs.length→Aw needs q k (i:Int)=some ((needs.drop i).any (· == q))
 | 0,i,h,h'=>by omega
 | k + 1,i,h,h'=>by
  rw [Aw]
  by_cases hi:i < needs.length
  ·
   rw [if_pos (by simpa using hi),rW hi,List.drop_eq_getElem_cons hi,ay,List.any_cons]
   by_cases hq:needs[i]=q
   · simp [hq]
   ·
    have:(needs[i] == q)=false:=by simpa using hq
    rw [this,zy (by omega),afY needs hl q k (i + 1) (by omega) (by omega)]
    simp
  ·
   have:i=needs.length:=by omega
   subst this
   rw [if_neg (by simp)]
   simp
theorem all_eq (needs:List Int) (hl:needs.length < 4611686018427387904) (q:Int):∀ k i:Nat,needs.length < k + i→i≤needs.length→CW needs q k (i:Int)=some ((needs.drop i).all (· == q))
 | 0,i,h,h'=>by omega
 | k + 1,i,h,h'=>by
  rw [CW]
  by_cases hi:i < needs.length
  ·
   rw [if_pos (by simpa using hi),rW hi,List.drop_eq_getElem_cons hi,ay,List.all_cons]
   by_cases hq:needs[i]=q
   ·
    rw [if_neg (by simpa using hq),zy (by omega),all_eq needs hl q k (i + 1) (by omega) (by omega)]
    simp [hq]
   ·
    have:(needs[i] == q)=false:=by simpa using hq
    rw [if_pos (by simpa using hq),this]
    simp
  ·
   have:i=needs.length:=by omega
   subst this
   rw [if_neg (by simp)]
   simp
theorem aat {needs:List Int} {vars:List aA} (hl:needs.length < 4611686018427387904) (hn:vars.length≤1048576):Kr needs vars=some (Dr needs vars):=by
 have hL:wB=4294967296:=rfl
 have s:=fun q=>afY needs hl q BIG 0 (by have:=jq; omega) (by omega)
 have a:=all_eq needs hl 1 BIG 0 (by have:=jq; omega) (by omega)
 simp only [List.drop_zero,Int.natCast_zero] at s a
 unfold Kr JB UK jf
 simp only [ay,s,a]
 rw [vN (by simp; omega),ay,vN (by simp; omega),ay,vN (by simp; omega),ay,vN (by simp; omega),ay,vN (by simp; omega)]
 rfl
end Go.Ft
