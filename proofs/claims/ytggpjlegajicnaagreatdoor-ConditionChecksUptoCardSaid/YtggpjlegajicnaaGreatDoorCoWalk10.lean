/- Proved here: each function does what its functional text says (part 10). -/
import Derived.Test.YtggpjlegajicnaaGreatDoorCoWalk3
import Derived.Test.YtggpjlegajicnaaGreatDoorCoWalk4
import Derived.Test.YtggpjlegajicnaaGreatDoorCoWalk5
import Derived.Test.YtggpjlegajicnaaGreatDoorCoWalk6
import Derived.Test.YtggpjlegajicnaaGreatDoorCoWalk8
import Derived.Test.YtggpjlegajicnaaGreatDoorCoPre1
import Derived.Test.YtggpjlegajicnaaGreatDoorCoPre2
import Derived.Test.YtggpjlegajicnaaGreatDoorCoFt1
import Derived.Test.YtggpjlegajicnaaGreatDoorCoFt2
import Derived.Test.YtggpjlegajicnaaGreatDoorCoFt3
import Derived.Test.YtggpjlegajicnaaGreatDoorCoFt7
import Derived.Test.YtggpjlegajicnaaGreatDoorCoFt8
import Derived.Test.YtggpjlegajicnaaGreatDoorProg
import Derived.KernelRfl
set_option linter.unusedVariables false
set_option linter.unusedSimpArgs false
set_option linter.unusedSectionVars false
namespace Go.Proofs.YtggpjlegajicnaaGreatDoor
open Go Go.Abs Go.Ft
set_option maxRecDepth 20000
attribute [local irreducible] AO AR AW AC
variable [gX]
variable {τ : List bJ} {Q : eT → List bJ → Prop}
theorem ady (fD:aj) (bG:List aH) {r0:Int} (hf:JD fD bG=some r0) (h:Q (.ret (iP r0)) τ):PC 17 [.agg (bA fD),.list (List.map aH.cells bG)] τ Q:=by
 unfold JD at hf; refine BN 30 [.tmp 4] [0,1] Tryz.func17 Z Z Z Z Z (V 2 Z (AW.WC 0 7 9 [] [] mixed (by kernel_rfl) (by kernel_rfl) (by kernel_rfl) Z Z Z (List.Perm.refl _) ?_)); refine Ev.nil ?_; show Ev _ _ _ _ _ _ _
 refine Ev.cs aG 2 Z ?_; refine B1 hf fun x1 h1 hf=>Ev.cons Z Z Z (AO.call Z _ Z Z amL (TH _ h1 zg)) ?_; obtain ⟨x2,e1,h2,hf⟩:=aV hf; refine Ev.cons Z Z Z (AO.call Z _ Z Z apU (WX _ _ h2 zg)) (Ev.cs aG 3 Z (Ev.nil (TF.step Z Z Z (AO.aF Z jk (fun b5=>?_))))); refine TF.dh Z Z (AO.dW (i:=0) Z Z Z bI Z Z Z Z Z (TF.nil ?_)); show AR _ _ _ _ _ _ _ _
 refine J 3 Z (C hf Z (fun h3 hf=>?_) fun h3 hf=>?_)
 · cases hf; exact M 2 Z (Y Z h)
 refine Wr 4 [0] Z Z (AR.and 4 20 24 [5] (x:=(x2.kind != 0)) Z Z (fun h4=>?_) (fun h4=>?_) ?_)
 · refine Is 20 h4 Z (U 1 Z (GO Z (AO.aY (i:=0) Z Z Z EP Z Z ?_))); exact eG 2 Z (En [24,5] Z)
 · refine Is 20 h4 Z ?_; exact eG 4 Z (En [24,5] Z)
 refine U 1 Z (AR.and 4 25 29 [] (x:=(x2.kind != 7)) Z Z (fun h5=>?_) (fun h5=>?_) ?_)
 · refine Is 25 h5 Z (U 1 Z (GO Z (AO.aY (i:=0) Z Z Z EP Z Z ?_))); exact eG 2 Z (En [29] Z)
 · refine Is 25 h5 Z ?_; exact eG 4 Z (En [29] Z)
 refine J 0 Z (C hf Z (fun h6 hf=>?_) fun h6 hf=>?_)
 · cases hf; exact M 1 Z (Y Z h)
 cases hf; exact M 1 Z (Y Z h)

section
variable [FR]
theorem L_ (fD:aj) (bG:List aH) {r0:Bool} (hf:uy fD bG=some r0) (h:Q (.ret (.bool r0)) τ):PC 5 [.agg (bA fD),.list (List.map aH.cells bG)] τ Q:=by
 unfold uy at hf; refine BN 21 [.tmp 4] [0,1] Tryz.func5 Z Z Z Z Z (W 4 Z (AS Z (AO.aP (l:=bG) Z Z Z Z Bb Z Z ?_))); refine B1 hf fun x1 h1 hf=>CL Z (I7 _ _ h1 (J 1 Z (C hf Z (fun h2 hf=>?_) fun h2 hf=>?_)))
 · refine BR hf fun x2 h3 hf=>?_; refine W 0 Z (CL Z (m_  h3 ?_)); cases hf; exact N 1 Z (Y Z h)
 refine V 0 Z (AW.draw 11 mixed (by kernel_rfl) Z ?_); refine Ev.cs aG 2 Z ?_; refine B1 hf fun x3 h4 hf=>Ev.cons Z Z Z (AO.call Z _ Z Z ajm (tO _ _ h4 zg)) (Ev.cs aG 2 Z ?_); refine B1 hf fun x4 h5 hf=>Ev.cons Z Z Z (AO.call Z _ Z Z ap2 (ady _ _ h5 zg)) (Ev.cs aG 2 Z ?_); refine BR hf fun b1 h7 hf=>?_; refine Ev.dB hKA 2 18 20 true [] (.bool b1) Z Z (fun h6=>?_) (fun h6=>?_) ?_
 · replace h7:=cO h6 h7; refine Ev.is uq 18 h6 Z ?_; refine BR h7 fun x5 h8 h7=>?_; refine Ev.run Z Z Z Z Z Z Z (AO.call Z _ Z Z ahf (m_  h8 zg)) ?_; cases h7; refine Ev.cs aG 1 Z ?_; exact Ev.nil (Less.settle (ps:=[20]) Z)
 · replace h7:=cZ h6 h7; refine Ev.is uq 18 h6 Z ?_; cases h7; refine Ev.cs aG 2 Z ?_; exact Ev.nil (Less.settle (ps:=[20]) Z)
 refine Ev.cs aG 1 Z (Ev.nil ?_); show AR _ _ _ _ _ _ _ _
 cases hf; exact N 0 Z (Y Z h)
end


end Go.Proofs.YtggpjlegajicnaaGreatDoor
