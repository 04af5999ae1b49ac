/- Proved here: each function does what its functional text says (part 15). -/
import Derived.Test.YtggpjlegajicnaaGreatDoorCoWalk3
import Derived.Test.YtggpjlegajicnaaGreatDoorCoPre1
import Derived.Test.YtggpjlegajicnaaGreatDoorCoFt1
import Derived.Test.YtggpjlegajicnaaGreatDoorCoFt13
import Derived.Test.YtggpjlegajicnaaGreatDoorProg
import Derived.KernelRfl
set_option linter.unusedVariables false
set_option linter.unusedSimpArgs false
set_option linter.unusedSectionVars false
namespace Go.Proofs.YtggpjlegajicnaaGreatDoor
open Go Go.Abs Go.Ft
set_option maxRecDepth 20000
attribute [local irreducible] AO AR AW AC
variable [gX]
variable {τ : List bJ} {Q : eT → List bJ → Prop}
section
variable [FR]
theorem Jq (bC:List Int) {r0:Bool} (hf:qI bC=some r0) (h:Q (.ret (.bool r0)) τ):PC 7 [.list (List.map vT bC)] τ Q:=by
 unfold qI at hf; refine BN 90 [.tmp 2] [0] Tryz.func7 Z Z Z Z Z (W 2 Z (AS Z (AO.aP (l:=bC) Z Z Z Z xU Z Z (J 1 Z (C hf Z (fun h1 hf=>?_) fun h1 hf=>?_)))))
 · refine BR hf fun x1 h2 hf=>?_; refine W 0 Z (CL Z (m_  h2 ?_)); cases hf; exact N 1 Z (Y Z h)
 refine V 3 Z (ZU (fun KW known1 i1=>[(0,.list (List.map vT bC)),(3,.bool KW),(4,.bool known1),(5,iP i1)]) (fun KW known1 i1=>[]) (fun bT KW known1 i1=>jZ bC bT KW known1 i1=some r0) BIG true true 0 Z Z hf (fun _ _ _ hz=>bQ hz) ?_); intro bT KW known1 i1 hf; rw [jZ] at hf; refine W 2 Z (AS Z (AO.aP (l:=bC) Z Z Z Z xU Z Z (J 1 Z (C hf Z (fun h3 hf=>?_) fun h3 hf=>?_))))
 ·
  refine B1 hf fun b1 h5 hf=>W 2 Z (AR.dB 6 23 29 true [0,3,4,5] b1 Z Z (fun h4=>?_) (fun h4=>?_) ?_)
  · refine IT 23 h4 h5 Z fun h5=>?_; refine B1 h5 fun e1 h6 h5=>U 2 Z (GO Z (AO.aI h6 Z Z Z Z xU Z Z ?_)); cases h5; exact eG 3 Z (En [29,0,3,4,5] Z)
  · refine IF 23 h4 h5 Z fun h5=>?_; cases h5; exact eG 6 Z (En [29,0,3,4,5] Z)
  refine B1 hf fun b2 h8 hf=>U 3 Z (AR.dB 6 31 37 true [0,3,4,5] b2 Z Z (fun h7=>?_) (fun h7=>?_) ?_)
  · refine IT 31 h7 h8 Z fun h8=>?_; refine B1 h8 fun e2 h9 h8=>U 2 Z (GO Z (AO.aI h9 Z Z Z Z xU Z Z ?_)); cases h8; exact eG 3 Z (En [37,0,3,4,5] Z)
  · refine IF 31 h7 h8 Z fun h8=>?_; cases h8; exact eG 6 Z (En [37,0,3,4,5] Z)
  refine B1 hf fun b3 h11 hf=>U 1 Z (AR.dB 6 38 44 true [0,3,4,5] b3 Z Z (fun h10=>?_) (fun h10=>?_) ?_)
  · refine IT 38 h10 h11 Z fun h11=>?_; refine B1 h11 fun e3 h12 h11=>U 2 Z (GO Z (AO.aI h12 Z Z Z Z xU Z Z ?_)); cases h11; exact eG 3 Z (En [44,0,3,4,5] Z)
  · refine IF 38 h10 h11 Z fun h11=>?_; cases h11; exact eG 6 Z (En [44,0,3,4,5] Z)
  exact N 4 Z ⟨b1,b3,(bZ (i1 + 1)),Z,Z,Z,hf⟩
 refine B1 hf fun x2 jJ hf=>W 0 Z (CL Z (uD  jJ ?_)); obtain ⟨a1,e4,j5,hf⟩:=aV hf; refine U 1 Z (CL Z (qY _ _ _ j5 ?_)); obtain ⟨b4,f1,mo,hf⟩:=aV hf; refine U 6 Z (CL Z (zo _ _ mo ?_)); obtain ⟨c1,g1,h16,hf⟩:=aV hf
 refine U 6 Z (CL Z (zo _ _ h16 (U 8 Z (An 3 63 66 [3,4,6,8,10,11] (f1 == 0) Z Z Z Z (U 1 Z (An 3 67 70 [3,4,6,8,10] (g1 == 0) Z Z Z Z (U 1 Z (AR.and 4 71 75 [4,8,10] (x:=(a1 == KW)) Z Z (fun h19=>?_) (fun h19=>?_) ?_))))))))
 · refine Is 71 h19 Z (U 2 Z (GO Z (AO.J_ Z XQ Z Z ?_))); exact eG 1 Z (En [75,4,8,10] Z)
 · refine Is 71 h19 Z ?_; exact eG 4 Z (En [75,4,8,10] Z)
 refine U 1 Z (An 3 76 79 [4,10] (!b4) Z Z Z Z (U 1 Z (AR.and 6 80 86 [] (x:=((!known1) || c1)) Z Z (fun h21=>?_) (fun h21=>?_) ?_)))
 · refine Is 80 h21 Z (U 3 Z (On 2 83 85 [80] c1 Z Z Z Z ?_)); exact eG 1 Z (En [86] Z)
 · refine Is 80 h21 Z ?_; exact eG 6 Z (En [86] Z)
 refine BR hf fun b5 wT hf=>?_; refine U 1 Z (AR.dB 2 87 89 true [] b5 Z Z (fun h23=>?_) (fun h23=>?_) ?_)
 · refine IT 87 h23 wT Z fun wT=>?_; refine BR wT fun x3 Cv wT=>?_; refine GO Z (AO.call Z _ Z Z ahf (m_  Cv ?_)); cases wT; exact eG 1 Z (En [89] Z)
 · refine IF 87 h23 wT Z fun wT=>?_; cases wT; exact eG 2 Z (En [89] Z)
 cases hf; exact N 1 Z (Y Z h)
end


end Go.Proofs.YtggpjlegajicnaaGreatDoor
