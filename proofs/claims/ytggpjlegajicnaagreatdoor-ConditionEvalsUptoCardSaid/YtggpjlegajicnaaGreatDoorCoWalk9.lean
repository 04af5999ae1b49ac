/- Proved here: each function does what its functional text says (part 9). -/
import Derived.Test.YtggpjlegajicnaaGreatDoorCoWalk3
import Derived.Test.YtggpjlegajicnaaGreatDoorCoWalk4
import Derived.Test.YtggpjlegajicnaaGreatDoorCoWalk5
import Derived.Test.YtggpjlegajicnaaGreatDoorCoWalk6
import Derived.Test.YtggpjlegajicnaaGreatDoorCoWalk7
import Derived.Test.YtggpjlegajicnaaGreatDoorCoPre1
import Derived.Test.YtggpjlegajicnaaGreatDoorCoPre2
import Derived.Test.YtggpjlegajicnaaGreatDoorCoPre3
import Derived.Test.YtggpjlegajicnaaGreatDoorCoFt1
import Derived.Test.YtggpjlegajicnaaGreatDoorCoFt2
import Derived.Test.YtggpjlegajicnaaGreatDoorCoFt3
import Derived.Test.YtggpjlegajicnaaGreatDoorCoFt4
import Derived.Test.YtggpjlegajicnaaGreatDoorCoFt5
import Derived.Test.YtggpjlegajicnaaGreatDoorCoFt6
import Derived.Test.YtggpjlegajicnaaGreatDoorProg
import Derived.KernelRfl
set_option linter.unusedVariables false
set_option linter.unusedSimpArgs false
set_option linter.unusedSectionVars false
namespace Go.Proofs.YtggpjlegajicnaaGreatDoor
open Go Go.Abs Go.Ft
set_option maxRecDepth 20000
attribute [local irreducible] AO AR AW AC
variable [gX]
variable {τ : List bJ} {Q : eT → List bJ → Prop}
theorem ZF (cB:List aA) {r0:Int} (hf:N_ cB=some r0) (h:Q (.ret (iP r0)) τ):PC 20 [.list (List.map aA.cells cB)] τ Q:=by
 unfold N_ at hf; refine BN 47 [.tmp 2] [0] Tryz.func20 Z Z Z Z Z (W 2 Z (AS Z (AO.aP (l:=cB) Z Z Z Z jN Z Z (J 1 Z (C hf Z (fun h1 hf=>?_) fun h1 hf=>?_)))))
 · cases hf; exact M 1 Z (Y Z h)
 refine V 1 Z (Gh (fun i1=>[(0,.list (List.map aA.cells cB)),(3,iP i1)]) (fun i1=>[]) (fun bT i1=>xk cB bT i1=some r0) BIG 0 Z Z hf (fun _ hz=>bQ hz) ?_); intro bT i1 hf; rw [xk] at hf; refine W 2 Z (AS Z (AO.aP (l:=cB) Z Z Z Z jN Z Z (J 1 Z (C hf Z (fun h2 hf=>?_) fun h2 hf=>?_))))
 ·
  refine B1 hf fun e1 h3 hf=>W 2 Z (AS Z (AO.aI h3 Z Z Z Z jN (aA.aD _) Z ?_)); refine B1 hf fun x1 h4 hf=>U 2 Z (CL Z (EH _ h4 (J 1 Z (C hf Z (fun h5 hf=>?_) fun h5 hf=>?_))))
  · cases hf; exact M 1 Z (Y Z h)
  refine B1 hf fun e2 h6 hf=>W 2 Z (AS Z (AO.aI h6 Z Z Z Z jN (aA.aD _) Z ?_)); refine B1 hf fun e3 h7 hf=>U 2 Z (CL Z (EI _ h7 (J 3 Z (C hf Z (fun h8 hf=>?_) fun h8 hf=>?_))))
  · cases hf; exact M 2 Z (Y Z h)
  refine V 1 Z (Gh (fun rV=>[(0,.list (List.map aA.cells cB)),(3,iP i1),(5,iP rV)]) (fun rV=>[]) (fun KQ rV=>C8 cB i1 (xk cB bT) KQ rV=some r0) BIG 0 Z Z hf (fun _ hz=>bQ hz) ?_); intro KQ rV hf; rw [C8] at hf; refine V 3 Z (C hf Z (fun h9 hf=>?_) fun h9 hf=>?_)
  ·
   refine V 0 Z (AW.draw 11 mixed (by kernel_rfl) Z ?_); refine Ev.cs aG 2 Z ?_; refine B1 hf fun e4 h10 hf=>Ev.cons Z Z Z (AO.aI h10 Z Z Z Z jN (aA.aD _) Z zg) (Ev.cs aG 4 Z ?_); refine B1 hf fun e5 h11 hf=>Ev.cons Z Z Z (AO.aI h11 Z Z Z Z jN (aA.aD _) Z zg) (Ev.cs aG 3 Z (Ev.nil ?_)); show AR _ _ _ _ _ _ _ _
   refine J 0 Z (C hf Z (fun h12 hf=>?_) fun h12 hf=>?_)
   · cases hf; exact M 1 Z (Y Z h)
   exact M 3 Z ⟨(bZ (rV + 1)),Z,Z,Z,hf⟩
  exact M 3 Z ⟨(bZ (i1 + 1)),Z,Z,Z,hf⟩
 cases hf; exact M 1 Z (Y Z h)


end Go.Proofs.YtggpjlegajicnaaGreatDoor
