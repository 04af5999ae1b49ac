/- Proved here: plain facts on the functional texts. -/
import Derived.Test.YtggpjlegajicnaaGreatDoorCoPlain1
import Derived.Test.YtggpjlegajicnaaGreatDoorCoPlain3
import Derived.Test.YtggpjlegajicnaaGreatDoorCoPlain4
import Derived.Test.YtggpjlegajicnaaGreatDoorCoPre1
import Derived.Test.YtggpjlegajicnaaGreatDoorCoFt1
import Derived.Test.YtggpjlegajicnaaGreatDoorCoFt13
set_option linter.unusedVariables false
set_option linter.unusedSimpArgs false
set_option linter.unusedSectionVars false
set_option maxHeartbeats 2000000
namespace Go.Ft
open Go
attribute [local congr] dZ
def acK (o:Option (aj × Int × Int)) (g:Bool→Bool→Bool→Bool→Bool) (c f k s:Bool):Bool:=match o with
 | some (e,_,z)=>(z == 0) && (match Ba e (OV c f k s) with | some (v,y)=>(y == 0) && (v.kind == 1) && (v.dO == g c f k s) | none=>false)
 | none=>false
theorem okE {e:aj} {g:Bool→Bool→Bool→Bool→Bool} {needs:List Int} (hl:needs.length≤1048576) (h:∀ c f k s,(match Ba e (OV c f k s) with | some (v,y)=>(y == 0) && (v.kind == 1) && (v.dO == g c f k s) | none=>false)=true):
  jO e needs []=some (g (needs.any (· == 4)) (needs.any (· == 2)) (needs.any (· == 3)) (needs.all (· == 1)),0):=by
 have h:=h (needs.any (· == 4)) (needs.any (· == 2)) (needs.any (· == 3)) (needs.all (· == 1))
 unfold jO
 rw [UU (by omega) (fun x hx=>by cases hx) (by simp),ay,Dr,List.append_nil]
 split at h
 ·
  rename_i v y hv
  simp only [Bool.and_eq_true,beq_iff_eq] at h
  rw [hv,bU,if_neg (by simpa using h.1.1),if_neg (by simpa using h.1.2),h.2]
 · cases h
theorem okS {src:Str} {g:Bool→Bool→Bool→Bool→Bool} {needs:List Int} (hl:needs.length≤1048576) (h:∀ c f k s,acK (oW src) g c f k s=true):
  mW src needs=some (g (needs.any (· == 4)) (needs.any (· == 2)) (needs.any (· == 3)) (needs.all (· == 1)),0):=by
 unfold mW
 generalize oW src=o at h ⊢
 match o,h with
 | none,h=>have:=h true true true true; cases this
 | some (e,x,z),h=>
  have hz:z=0:=by
   have:=h true true true true
   simp only [acK,Bool.and_eq_true,beq_iff_eq] at this
   exact this.1
  rw [Xr,if_neg (by simpa using hz)]
  exact okE hl fun c f k s=>by
   have:=h c f k s
   simp only [acK,Bool.and_eq_true] at this
   exact this.2
theorem apx :∀ c f k s,acK (oW ([115,117,99,99,101,115,115,32,38,38,32,40,102,97,105,108,117,114,101,32,124,124,32,99,97,110,99,101,108,108,101,100,32,124,124,32,115,107,105,112,112,101,100,41]:Str)) (fun c f k s=>s && ((f || c) || k)) c f k s=true:=by decide +kernel
theorem apw :∀ c f k s,acK (oW ([115,117,99,99,101,115,115,32,124,124,32,102,97,105,108,117,114,101,32,124,124,32,99,97,110,99,101,108,108,101,100,32,124,124,32,115,107,105,112,112,101,100]:Str)) (fun c f k s=>((s || f) || c) || k) c f k s=true:=by decide +kernel
theorem apy :∀ c f k s,(match Ba (aj.mk 2 nSu (ah.mk 0 false 0 ([]:Str) [] []) [] []) (OV c f k s) with | some (v,y)=>(y == 0) && (v.kind == 1) && (v.dO == s) | none=>false)=true:=by decide +kernel
theorem aiJ :∀ l:List Int,(l.all (· == 1) && ((l.any (· == 2) || l.any (· == 4)) || l.any (· == 3)))=false∧(l.all (fun x=>decide (1≤x) && decide (x≤4))=true→(((l.all (· == 1) || l.any (· == 2)) || l.any (· == 4)) || l.any (· == 3))=true)
 | []=>by simp
 | x :: l=>by
  obtain ⟨i1,i2⟩:=aiJ l
  simp only [List.all_cons,List.any_cons]
  constructor
  ·
   by_cases h:x=1
   · subst h; simpa using i1
   ·
    have:(x == 1)=false:=by simpa using h
    rw [this]; rfl
  ·
   intro h
   simp only [Bool.and_eq_true,decide_eq_true_eq] at h
   have i3:=i2 h.2
   have hx:x=1∨x=2∨x=3∨x=4:=by omega
   rcases hx with rfl | rfl | rfl | rfl
   · simpa using i3
   · simp
   · simp
   · simp
theorem ab1 {needs:List Int} (hl:needs.length≤1048576):∀ (k i:Nat) (a b:Bool),needs.length < k + i→i≤needs.length→a=(needs.take i).all (· == 1)→b=(needs.take i).all (fun x=>decide (1≤x) && decide (x≤4))→jZ needs k a b (i:Int)=some true
 | 0,i,a,b,h,h',_,_=>by omega
 | k + 1,i,a,b,h,h',ha,hb=>by
  rw [jZ]
  by_cases hi:i < needs.length
  ·
   have e:List.take (i + 1) needs=List.take i needs ++ [needs[i]]:=by rw [List.take_add_one,List.getElem?_eq_getElem hi]; rfl
   rw [if_pos (by simpa using hi),rW hi]
   simp only [ay,yZ]
   rw [zy (by omega)]
   refine ab1 hl k (i + 1) _ _ (by omega) (by omega) ?_ ?_
   · rw [e,List.all_append,←ha]; simp
   · rw [e,List.all_append,←hb]; simp [Bool.and_assoc]
  ·
   have:i=needs.length:=by omega
   subst this
   rw [List.take_length] at ha hb
   rw [if_neg (by simp),agy,ay,okE hl (g:=fun c f k s=>s) apy,okS hl apx,okS hl apw,bU,bU,bU,FM]
   obtain ⟨s1,s2⟩:=aiJ needs
   refine if_pos ?_
   rw [s1,←ha]
   rw [←hb] at s2
   cases b with
   | false=>simp
   | true=>rw [←ha] at s2; simp [s2 rfl]
theorem KP (bC:List Int) (h:((List.map (fun z:Int=>1) bC).sum + 1)≤1048576):qI bC=some true:=by
 have:=QN bC
 unfold qI
 rw [FM]
 split
 · rfl
 · exact ab1 (by omega) BIG 0 true true (by have:=jq; omega) (by omega) rfl rfl
end Go.Ft
