/- Proved here: plain facts on the functional texts. -/
import Derived.Test.YtggpjlegajicnaaGreatDoorCoPlain1
import Derived.Test.YtggpjlegajicnaaGreatDoorCoPlain2
import Derived.Test.YtggpjlegajicnaaGreatDoorCoPlain4
import Derived.Test.YtggpjlegajicnaaGreatDoorCoPlain6
import Derived.Test.YtggpjlegajicnaaGreatDoorCoPlain7
import Derived.Test.YtggpjlegajicnaaGreatDoorCoPre1
import Derived.Test.YtggpjlegajicnaaGreatDoorCoFt1
import Derived.Test.YtggpjlegajicnaaGreatDoorCoFt2
import Derived.Test.YtggpjlegajicnaaGreatDoorCoFt4
import Derived.Test.YtggpjlegajicnaaGreatDoorCoFt5
import Derived.Test.YtggpjlegajicnaaGreatDoorCoFt9
set_option linter.unusedVariables false
set_option linter.unusedSimpArgs false
set_option linter.unusedSectionVars false
set_option maxHeartbeats 2000000
namespace Go.Ft
open Go
attribute [local congr] dZ
theorem ag6 {a:ah} (ha:a.keys.length < 4611686018427387904) (go:ah→ah→Option Bool):xC go a a BIG 0=pQ go a a BIG 0:=by
 rw [dH (F:=fun k (_:Unit) i=>xC go a a k i) (l:=a.keys) (body:=fun (i:Nat) e1 (_:Unit) r=>au (idx a.keys (i:Int)) fun e2=>if !(e1 == e2) then some false else r ()) (fin:=fun _=>pQ go a a BIG 0) ha (fun k s i=>rfl) ()]
 have key:∀ (t:List Str) (i:Nat),t=a.keys.drop i→dG (fun (i:Nat) e1 (_:Unit) r=>au (idx a.keys (i:Int)) fun e2=>if !(e1 == e2) then some false else r ()) (fun _=>pQ go a a BIG 0) i t ()=pQ go a a BIG 0:=by
  intro t
  induction t with
  | nil=>intro i _; rfl
  | cons d t ih=>
   intro i ht
   have hi:i < a.keys.length:=by
    rcases Nat.lt_or_ge i a.keys.length with h | h
    · exact h
    · rw [List.drop_eq_nil_of_le h] at ht; cases ht
   have hc:=List.drop_eq_getElem_cons hi
   rw [←ht] at hc
   have e1':=(List.cons.inj hc).1
   have e2':=(List.cons.inj hc).2
   rw [dG,rW hi,ay,←e1',if_neg (by simp)]
   exact ih (i + 1) e2'
 exact key _ 0 rfl
theorem aev {a:ah} (ha:a.aO.length < 4611686018427387904) {go:ah→ah→Option Bool} (h:∀ x∈a.aO,go x x=some true):pQ go a a BIG 0=some true:=by
 rw [dH (F:=fun k (_:Unit) i=>pQ go a a k i) (l:=a.aO) (body:=fun (i:Nat) e1 (_:Unit) r=>au (idx a.aO (i:Int)) fun e2=>au (go e1 e2) fun x1=>if !x1 then some false else r ()) (fin:=fun _=>some true) ha (fun k s i=>rfl) ()]
 have key:∀ (t:List ah) (i:Nat),t=a.aO.drop i→dG (fun (i:Nat) e1 (_:Unit) r=>au (idx a.aO (i:Int)) fun e2=>au (go e1 e2) fun x1=>if !x1 then some false else r ()) (fun _=>some true) i t ()=some true:=by
  intro t
  induction t with
  | nil=>intro i _; rfl
  | cons d t ih=>
   intro i ht
   have hi:i < a.aO.length:=by
    rcases Nat.lt_or_ge i a.aO.length with h | h
    · exact h
    · rw [List.drop_eq_nil_of_le h] at ht; cases ht
   have hc:=List.drop_eq_getElem_cons hi
   rw [←ht] at hc
   have e1':=(List.cons.inj hc).1
   have e2':=(List.cons.inj hc).2
   rw [dG,rW hi,ay,←e1',h d (by rw [e1']; exact List.getElem_mem hi),ay,if_neg (by simp)]
   exact ih (i + 1) e2'
 exact key _ 0 rfl
theorem af4 :∀ (n:Nat) (v:ah),v.bulk≤n→v.bulk < 4611686018427387904→xB (n + 1) v v=some true
 | 0,v,h,_=>by have:=v.jY; omega
 | n + 1,v,h,hb=>by
  have hl:=vW v
  have hk:=yB v
  rw [xB,Gx,if_neg (by simp),ag6 (by omega)]
  exact aev (by omega) fun x hx=>af4 n x (by have:=iV hx; omega) (by have:=iV hx; omega)
theorem apA {v:ah} (h:v.bulk < 4611686018427387904):Gy v v=some true:=by
 obtain ⟨n,hn,hn2⟩:=uW
 unfold Gy
 rw [hn]
 exact af4 n v (by omega) h
end Go.Ft

namespace Go.Ft
open Go
attribute [local congr] dZ
theorem af3 (l:List aA) (hl:l.length < 4611686018427387904) (hv:∀ x∈l,x.value.bulk < 4611686018427387904):∀ k i:Nat,l.length < k + i→i≤l.length→sH l l k (i:Int)=some true
 | 0,i,h,h'=>by omega
 | k + 1,i,h,h'=>by
  rw [sH]
  by_cases hi:i < l.length
  ·
   rw [if_pos (by simpa using hi),rW hi]
   simp only [ay,beq_self_eq_true,Bool.not_true,Bool.false_eq_true,if_false,apA (hv _ (List.getElem_mem hi))]
   rw [zy (by omega)]
   exact af3 l hl hv k (i + 1) (by omega) (by omega)
  · rw [if_neg (by simp; omega)]
theorem ag7 {l:List aA} (hl:l.length < 4611686018427387904) (hv:∀ x∈l,x.value.bulk < 4611686018427387904):BG l l=some true:=by
 unfold BG
 rw [if_neg (by simp)]
 exact af3 l hl hv BIG 0 (by have:=jq; omega) (by omega)
theorem Sk (bC:List Int) (bG:List aA) (h:((List.map (fun z:Int=>1) bC).sum + 1) + ((List.map (fun z:aA=>(aA.bulk z)) bG).sum + 1)≤1048576):yY bC bG=some true:=by
 have hE:(bG.map aA.bulk).sum≤1048576:=by
  have h':(List.map (fun z:aA=>(aA.bulk z)) bG).sum≤1048576:=by omega
  exact h'
 have hn:bC.length≤1048576:=by
  have:=QN bC
  omega
 obtain ⟨s1,s2⟩:=CK hE
 have hL:wB=4294967296:=rfl
 obtain ⟨c1,c2⟩:=UQ (needs:=bC) hE
 unfold yY
 rw [FM]
 split
 · rfl
 ·
  rw [UU (by omega) (fun x hx=>by have:=s2 x hx; omega) s1,aat (by omega) s1]
  simp only [ay]
  rw [ag7 c1 fun x hx=>by have:=c2 x hx; omega]
  rfl
end Go.Ft
