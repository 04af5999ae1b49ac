/- Proved here: each function does what its functional text says (part 4). -/
import Derived.Test.YtggpjlegajicnaaGreatDoorCoWalk3
import Derived.Test.YtggpjlegajicnaaGreatDoorCoPre1
import Derived.Test.YtggpjlegajicnaaGreatDoorCoFt1
import Derived.Test.YtggpjlegajicnaaGreatDoorCoFt2
import Derived.Test.YtggpjlegajicnaaGreatDoorProg
import Derived.KernelRfl
set_option linter.unusedVariables false
set_option linter.unusedSimpArgs false
set_option linter.unusedSectionVars false
namespace Go.Proofs.YtggpjlegajicnaaGreatDoor
open Go Go.Abs Go.Ft
set_option maxRecDepth 20000
attribute [local irreducible] AO AR AW AC
variable [gX]
variable {τ : List bJ} {Q : eT → List bJ → Prop}

abbrev XC (mq:ah→ah→Option Bool):Prop:=∀ (sF:ah) (sD:ah) {aR:Bool},mq sF sD=some aR→∀ {τ:List bJ} {Q:eT→List bJ→Prop} (h:Q (.ret (.bool aR)) τ),PC 26 [.agg (aK sF),.agg (aK sD)] τ Q
theorem aef (mq) (aaX:XC mq) (a1:ah) (b1:ah) {r0:Bool} (hf:Gx mq a1 b1=some r0) (h:Q (.ret (.bool r0)) τ):PC 26 [.agg (aK a1),.agg (aK b1)] τ Q:=by
 unfold Gx at hf; refine BN 88 [.tmp 4] [0,1] Tryz.func26 Z Z Z Z Z (W 9 Z (AR.or 6 12 18 [2,3] (x:=(!(a1.dO == b1.dO))) Z Z (fun h1=>?_) (fun h1=>?_) ?_))
 · refine Is 12 h1 Z (U 4 Z (GO Z (AO.RD Z XQ Z Z ?_))); exact eG 1 Z (En [18,2,3] Z)
 · refine Is 12 h1 Z ?_; exact eG 6 Z (En [18,2,3] Z)
 refine U 1 Z (On 6 19 25 [2,3] (a1.dI != b1.dI) Z Z Z Z (U 1 Z (On 6 26 32 [2,3] (!(a1.bR == b1.bR)) Z Z Z Z (U 1 Z (AR.or 8 33 41 [2,3] (x:=((a1.aO.length:Int) != (b1.aO.length:Int))) Z Z (fun h4=>?_) (fun h4=>?_) ?_)))))
 · refine Is 33 h4 Z (U 2 Z (GO Z (AO.aP (l:=a1.aO) Z Z Z Z dX Z (ah.aB _) (U 2 Z (GO Z (AO.aP (l:=b1.aO) Z Z Z Z dX Z (ah.aB _) ?_)))))); exact eG 2 Z (En [41,2,3] Z)
 · refine Is 33 h4 Z ?_; exact eG 8 Z (En [41,2,3] Z)
 refine U 1 Z (AR.or 8 42 50 [2,3] (x:=((a1.keys.length:Int) != (b1.keys.length:Int))) Z Z (fun h5=>?_) (fun h5=>?_) ?_)
 · refine Is 42 h5 Z (U 2 Z (GO Z (AO.aP (l:=a1.keys) Z Z Z Z f_ Z Z (U 2 Z (GO Z (AO.aP (l:=b1.keys) Z Z Z Z f_ Z Z ?_)))))); exact eG 2 Z (En [50,2,3] Z)
 · refine Is 42 h5 Z ?_; exact eG 8 Z (En [50,2,3] Z)
 refine J 0 Z (C hf Z (fun h6 hf=>?_) fun h6 hf=>?_)
 · cases hf; exact M 1 Z (Y Z h)
 refine V 1 Z (Gh (fun i1=>[(2,.ref (aK a1)),(3,.ref (aK b1)),(5,iP i1)]) (fun i1=>[]) (fun bT i1=>xC mq a1 b1 bT i1=some r0) BIG 0 Z Z hf (fun _ hz=>bQ hz) ?_); intro bT i1 hf; rw [xC] at hf; refine W 3 Z (AS Z (AO.aP (l:=a1.keys) Z Z Z Z f_ Z Z (J 1 Z (C hf Z (fun h7 hf=>?_) fun h7 hf=>?_))))
 ·
  refine V 0 Z (AW.draw 11 mixed (by kernel_rfl) Z ?_); refine Ev.cs aG 3 Z ?_; refine B1 hf fun e1 h8 hf=>Ev.cons Z Z Z (AO.aI h8 Z Z Z Z f_ Z Z zg) (Ev.cs aG 4 Z ?_); refine B1 hf fun e2 h9 hf=>Ev.cons Z Z Z (AO.aI h9 Z Z Z Z f_ Z Z zg) (Ev.cs aG 2 Z (Ev.nil ?_)); show AR _ _ _ _ _ _ _ _
  refine J 0 Z (C hf Z (fun h10 hf=>?_) fun h10 hf=>?_)
  · cases hf; exact M 1 Z (Y Z h)
  exact M 3 Z ⟨(bZ (i1 + 1)),Z,Z,Z,hf⟩
 refine V 1 Z (Gh (fun i2=>[(2,.ref (aK a1)),(3,.ref (aK b1)),(6,iP i2)]) (fun i2=>[]) (fun KQ i2=>pQ mq a1 b1 KQ i2=some r0) BIG 0 Z Z hf (fun _ hz=>bQ hz) ?_); intro KQ i2 hf; rw [pQ] at hf; refine W 3 Z (AS Z (AO.aP (l:=a1.aO) Z Z Z Z dX Z (ah.aB _) (J 1 Z (C hf Z (fun h11 hf=>?_) fun h11 hf=>?_))))
 ·
  refine V 0 Z (AW.draw 12 mixed (by kernel_rfl) Z ?_); refine Ev.cs aG 3 Z ?_; refine B1 hf fun e3 h12 hf=>Ev.cons Z Z Z (AO.aI h12 Z Z (ah.aB _) Z dX (ah.aD _) Z zg) (Ev.cs aG 4 Z ?_); refine B1 hf fun e4 jJ hf=>Ev.cons Z Z Z (AO.aI jJ Z Z (ah.aB _) Z dX (ah.aD _) Z zg) (Ev.cs aG 1 Z ?_); refine B1 hf fun x1 j5 hf=>Ev.cons Z Z Z (AO.call Z _ Z Z ajb (aaX _ _ j5 zg)) (Ev.cs aG 1 Z (Ev.nil ?_)); show AR _ _ _ _ _ _ _ _
  refine J 0 Z (C hf Z (fun mo hf=>?_) fun mo hf=>?_)
  · cases hf; exact M 1 Z (Y Z h)
  exact M 3 Z ⟨(bZ (i2 + 1)),Z,Z,Z,hf⟩
 cases hf; exact M 1 Z (Y Z h)
theorem aeR :∀ k:Nat,(XC (xB k)):=by
 intro k
 induction k with
 | zero=>exact fun _ _ _ hz=>by first | cases hz | (unfold xB at hz; cases hz)
 | succ k ih=>exact fun sF sD aR hz τ Q hq=>aef (xB k) ih sF sD hz hq
theorem W9 (sF:ah) (sD:ah) {aR:Bool} (hf:Gy sF sD=some aR) (h:Q (.ret (.bool aR)) τ):PC 26 [.agg (aK sF),.agg (aK sD)] τ Q:=
 ((aeR BIG)) sF sD hf h


end Go.Proofs.YtggpjlegajicnaaGreatDoor
