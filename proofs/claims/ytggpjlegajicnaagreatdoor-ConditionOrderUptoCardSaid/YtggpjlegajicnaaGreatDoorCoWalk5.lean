/- Proved here: each function does what its functional text says (part 5). -/
import Derived.Test.YtggpjlegajicnaaGreatDoorCoWalk3
import Derived.Test.YtggpjlegajicnaaGreatDoorCoPre1
import Derived.Test.YtggpjlegajicnaaGreatDoorCoPre2
import Derived.Test.YtggpjlegajicnaaGreatDoorCoFt1
import Derived.Test.YtggpjlegajicnaaGreatDoorCoFt2
import Derived.Test.YtggpjlegajicnaaGreatDoorCoFt3
import Derived.Test.YtggpjlegajicnaaGreatDoorProg
import Derived.KernelRfl
set_option linter.unusedVariables false
set_option linter.unusedSimpArgs false
set_option linter.unusedSectionVars false
namespace Go.Proofs.YtggpjlegajicnaaGreatDoor
open Go Go.Abs Go.Ft
set_option maxRecDepth 20000
attribute [local irreducible] AO AR AW AC
variable [gX]
variable {τ : List bJ} {Q : eT → List bJ → Prop}

abbrev T_ (o8:aj→Option Int):Prop:=∀ (iY:aj) {aR:Int},o8 iY=some aR→∀ {τ:List bJ} {Q:eT→List bJ→Prop} (h:Q (.ret (iP aR)) τ),PC 33 [.agg (bA iY)] τ Q
theorem abM (o8) (X9:T_ o8) (e1:aj) {r0:Int} (hf:Iw o8 e1=some r0) (h:Q (.ret (iP r0)) τ):PC 33 [.agg (bA e1)] τ Q:=by
 unfold Iw at hf; refine BN 21 [.tmp 2] [0] Tryz.func33 Z Z Z Z Z (V 4 Z (Xy (fun n1 i1=>[(1,.ref (bA e1)),(3,iP n1),(4,iP i1)]) (fun n1 i1=>[]) (fun bT n1 i1=>Bw o8 e1 bT n1 i1=some r0) BIG 1 0 Z Z hf (fun _ _ hz=>bQ hz) ?_)); intro bT n1 i1 hf; rw [Bw] at hf; refine W 3 Z (AS Z (AO.aP (l:=e1.args) Z Z Z Z iT Z (aj.aB _) (J 1 Z (C hf Z (fun h1 hf=>?_) fun h1 hf=>?_))))
 · refine B1 hf fun e2 h2 hf=>W 4 Z (AS Z (AO.aI h2 Z Z (aj.aB _) Z iT (aj.aD _) Z ?_)); refine B1 hf fun x1 h3 hf=>U 1 Z (CL Z (X9 _ h3 ?_)); exact N 5 Z ⟨(bZ (n1 + x1)),(bZ (i1 + 1)),Z,Z,Z,hf⟩
 cases hf; exact M 2 Z (Y Z h)
theorem acQ :∀ k:Nat,(T_ (sQ k)):=by
 intro k
 induction k with
 | zero=>exact fun _ _ hz=>by first | cases hz | (unfold sQ at hz; cases hz)
 | succ k ih=>exact fun iY aR hz τ Q hq=>abM (sQ k) ih iY hz hq
theorem TL (iY:aj) {aR:Int} (hf:JJ iY=some aR) (h:Q (.ret (iP aR)) τ):PC 33 [.agg (bA iY)] τ Q:=
 ((acQ BIG)) iY hf h

theorem I7 (e1:aj) (n1:Int) {r0:Bool} (hf:yX e1 n1=some r0) (h:Q (.ret (.bool r0)) τ):PC 13 [.agg (bA e1),iP n1] τ Q:=by
 unfold yX at hf; refine BN 12 [.tmp 4] [0,1] Tryz.func13 Z Z Z Z Z ?_; refine B1 hf fun x1 h1 hf=>W 3 Z (CL Z (TL _ h1 (U 2 Z (An 3 8 11 [] (decide (n1≤300)) Z Z Z Z ?_)))); cases hf; exact N 1 Z (Y Z h)


end Go.Proofs.YtggpjlegajicnaaGreatDoor
