/- Proved here: each function does what its functional text says (part 11). -/
import Derived.Test.YtggpjlegajicnaaGreatDoorCoWalk3
import Derived.Test.YtggpjlegajicnaaGreatDoorCoWalk4
import Derived.Test.YtggpjlegajicnaaGreatDoorCoWalk7
import Derived.Test.YtggpjlegajicnaaGreatDoorCoPre1
import Derived.Test.YtggpjlegajicnaaGreatDoorCoFt1
import Derived.Test.YtggpjlegajicnaaGreatDoorCoFt2
import Derived.Test.YtggpjlegajicnaaGreatDoorCoFt4
import Derived.Test.YtggpjlegajicnaaGreatDoorCoFt5
import Derived.Test.YtggpjlegajicnaaGreatDoorCoFt9
import Derived.Test.YtggpjlegajicnaaGreatDoorProg
import Derived.KernelRfl
set_option linter.unusedVariables false
set_option linter.unusedSimpArgs false
set_option linter.unusedSectionVars false
namespace Go.Proofs.YtggpjlegajicnaaGreatDoor
open Go Go.Abs Go.Ft
set_option maxRecDepth 20000
attribute [local irreducible] AO AR AW AC
variable [gX]
variable {τ : List bJ} {Q : eT → List bJ → Prop}
theorem WZ (a1:List aA) (b1:List aA) {r0:Bool} (hf:BG a1 b1=some r0) (h:Q (.ret (.bool r0)) τ):PC 10 [.list (List.map aA.cells a1),.list (List.map aA.cells b1)] τ Q:=by
 unfold BG at hf; refine BN 42 [.tmp 4] [0,1] Tryz.func10 Z Z Z Z Z (W 2 Z (AS Z (AO.aP (l:=a1) Z Z Z Z jN Z Z (U 1 Z (AS Z (AO.aP (l:=b1) Z Z Z Z jN Z Z (J 1 Z (C hf Z (fun h1 hf=>?_) fun h1 hf=>?_))))))))
 · cases hf; exact M 1 Z (Y Z h)
 refine V 1 Z (Gh (fun i1=>[(0,.list (List.map aA.cells a1)),(1,.list (List.map aA.cells b1)),(5,iP i1)]) (fun i1=>[]) (fun bT i1=>sH a1 b1 bT i1=some r0) BIG 0 Z Z hf (fun _ hz=>bQ hz) ?_); intro bT i1 hf; rw [sH] at hf; refine W 2 Z (AS Z (AO.aP (l:=a1) Z Z Z Z jN Z Z (J 1 Z (C hf Z (fun h2 hf=>?_) fun h2 hf=>?_))))
 ·
  refine V 0 Z (AW.draw 25 mixed (by kernel_rfl) Z ?_); refine Ev.cs aG 2 Z ?_; refine B1 hf fun e1 h3 hf=>Ev.cons Z Z Z (AO.aI h3 Z Z Z Z jN (aA.aD _) Z zg) (Ev.cs aG 4 Z ?_); refine B1 hf fun e2 h4 hf=>Ev.cons Z Z Z (AO.aI h4 Z Z Z Z jN (aA.aD _) Z zg) (Ev.cs aG 4 Z ?_); refine B1 hf fun b2 h6 hf=>Ev.dB hKA 13 28 41 false [0,1,5] (.bool b2) Z Z (fun h5=>?_) (fun h5=>?_) ?_
  ·
   replace h6:=cZ h5 h6; refine Ev.is uq 28 h5 Z (Ev.cs aG 2 Z ?_); refine B1 h6 fun e3 h7 h6=>Ev.run Z Z Z Z Z Z Z (AO.aI h7 Z Z Z Z jN (aA.aD _) Z zg) (Ev.cs aG 4 Z ?_); refine B1 h6 fun e4 h8 h6=>Ev.run Z Z Z Z Z Z Z (AO.aI h8 Z Z Z Z jN (aA.aD _) Z zg) (Ev.cs aG 2 Z ?_); refine B1 h6 fun x1 h9 h6=>Ev.run Z Z Z Z Z Z Z (AO.call Z _ Z Z ajb (W9 _ _ h9 zg)) (Ev.cs aG 1 Z ?_); cases h6; refine Ev.cs aG 1 Z ?_
   exact Ev.nil (Less.settle (ps:=[41,0,1,5]) Z)
  · replace h6:=cO h5 h6; refine Ev.is uq 28 h5 Z ?_; cases h6; refine Ev.cs aG 13 Z ?_; exact Ev.nil (Less.settle (ps:=[41,0,1,5]) Z)
  refine Ev.nil ?_; show AR _ _ _ _ _ _ _ _
  refine J 0 Z (C hf Z (fun h10 hf=>?_) fun h10 hf=>?_)
  · cases hf; exact M 1 Z (Y Z h)
  exact M 3 Z ⟨(bZ (i1 + 1)),Z,Z,Z,hf⟩
 cases hf; exact M 1 Z (Y Z h)

section
variable [FR]
theorem Qc (bC:List Int) (bG:List aA) {r0:Bool} (hf:yY bC bG=some r0) (h:Q (.ret (.bool r0)) τ):PC 3 [.list (List.map vT bC),.list (List.map aA.cells bG)] τ Q:=by
 unfold yY at hf; refine BN 22 [.tmp 4] [0,1] Tryz.func3 Z Z Z Z Z (W 2 Z (AS Z (AO.aP (l:=bC) Z Z Z Z xU Z Z (U 1 Z (AS Z (AO.aP (l:=bG) Z Z Z Z jN Z Z (J 2 Z (C hf Z (fun h1 hf=>?_) fun h1 hf=>?_))))))))
 · refine BR hf fun x1 h2 hf=>?_; refine W 0 Z (CL Z (m_  h2 ?_)); cases hf; exact N 1 Z (Y Z h)
 refine B1 hf fun x2 h3 hf=>W 2 Z (CL Z (E8 _ _ h3 ?_)); refine B1 hf fun x3 h4 hf=>U 2 Z (CL Z (SI _ _ h4 ?_)); refine B1 hf fun x4 h5 hf=>CL Z (WZ _ _ h5 ?_); refine BR hf fun b1 h7 hf=>?_; refine U 1 Z (AR.dB 2 19 21 true [] b1 Z Z (fun h6=>?_) (fun h6=>?_) ?_)
 · refine IT 19 h6 h7 Z fun h7=>?_; refine BR h7 fun x5 h8 h7=>?_; refine GO Z (AO.call Z _ Z Z ahf (m_  h8 ?_)); cases h7; exact eG 1 Z (En [21] Z)
 · refine IF 19 h6 h7 Z fun h7=>?_; cases h7; exact eG 2 Z (En [21] Z)
 cases hf; exact N 1 Z (Y Z h)
end


end Go.Proofs.YtggpjlegajicnaaGreatDoor
