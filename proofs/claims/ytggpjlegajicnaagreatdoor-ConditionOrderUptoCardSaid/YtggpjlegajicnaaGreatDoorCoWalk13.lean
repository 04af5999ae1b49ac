/- Proved here: each function does what its functional text says (part 13). -/
import Derived.Test.YtggpjlegajicnaaGreatDoorCoWalk3
import Derived.Test.YtggpjlegajicnaaGreatDoorCoWalk5
import Derived.Test.YtggpjlegajicnaaGreatDoorCoPre1
import Derived.Test.YtggpjlegajicnaaGreatDoorCoPre2
import Derived.Test.YtggpjlegajicnaaGreatDoorCoPre3
import Derived.Test.YtggpjlegajicnaaGreatDoorCoFt1
import Derived.Test.YtggpjlegajicnaaGreatDoorCoFt2
import Derived.Test.YtggpjlegajicnaaGreatDoorCoFt3
import Derived.Test.YtggpjlegajicnaaGreatDoorCoFt4
import Derived.Test.YtggpjlegajicnaaGreatDoorCoFt6
import Derived.Test.YtggpjlegajicnaaGreatDoorCoFt11
import Derived.Test.YtggpjlegajicnaaGreatDoorProg
import Derived.KernelRfl
set_option linter.unusedVariables false
set_option linter.unusedSimpArgs false
set_option linter.unusedSectionVars false
namespace Go.Proofs.YtggpjlegajicnaaGreatDoor
open Go Go.Abs Go.Ft
set_option maxRecDepth 20000
attribute [local irreducible] AO AR AW AC
variable [gX]
variable {τ : List bJ} {Q : eT → List bJ → Prop}
section
variable [FR]
theorem NJ (fD:aj) (bC:List Int) (bG:List aA) {r0:Bool} (hf:vG fD bC bG=some r0) (h:Q (.ret (.bool r0)) τ):PC 6 [.agg (bA fD),.list (List.map vT bC),.list (List.map aA.cells bG)] τ Q:=by
 unfold vG at hf; refine BN 65 [.tmp 6] [0,1,2] Tryz.func6 Z Z Z Z Z (W 4 Z (AS Z (AO.aP (l:=bC) Z Z Z Z xU Z Z (U 2 Z (AS Z (AO.aP (l:=bG) Z Z Z Z jN Z Z ?_)))))); refine B1 hf fun x1 h1 hf=>U 1 Z (CL Z (I7 _ _ h1 (J 1 Z (C hf Z (fun h2 hf=>?_) fun h2 hf=>?_))))
 · refine BR hf fun x2 h3 hf=>?_; refine W 0 Z (CL Z (m_  h3 ?_)); cases hf; exact N 1 Z (Y Z h)
 refine W 2 Z (AS Z (AO.aP (l:=bC) Z Z Z Z xU Z Z ?_)); refine J 2 Z (AW.row 1 3 (ZU (fun l1 v1 i1=>[(1,.list (List.map vT bC)),(2,.list (List.map aA.cells bG)),(3,.ref (bA fD)),(7,.own v1 (List.map vT l1)),(8,iP i1)]) (fun l1 v1 i1=>[.row v1 (List.map vT l1).length 1 3]) (fun bT l1 v1 i1=>mG fD bC bG bT l1 i1=some r0) BIG [] (.slice none 0 0) (bZ ((bC.length:Int) - 1)) Z Z hf (fun _ _ _ hz=>bQ hz) ?_)); intro bT l1 v1 i1 hf; rw [mG] at hf
 refine V 2 Z (C hf Z (fun h4 hf=>?_) fun h4 hf=>?_)
 · refine B1 hf fun e1 h5 hf=>W 3 Z (AS Z (AO.aI h5 Z Z Z Z xU Z Z (U 1 Z (AS Z (AO.aS (List.map vT ([e1]:List Int)) Z Y4 Z Z Z Z ?_))))); refine B1 hf fun l2 h6 hf=>AS Z (AO.fK (i:=0) (l:=l1) (m:=([e1]:List Int)) h6 Z Z Z Z Z Z Z Y4 xU Z Z Z (fun _=>Z) (fun _=>Z) (by decide) (fun v2 s1 hs1=>?_)); cases hs1; exact N 4 Z ⟨l2,v2,(bZ (i1 - 1)),Z,Z,Z,hf⟩
 refine B1 hf fun l3 h7 hf=>W 2 Z (AS Z (AO.fK (i:=0) (l:=l1) (m:=bC) h7 Z Z Z Z Z Z Z Y4 xU Z Z Z (fun _=>Z) (fun _=>Z) (by decide) (fun v3 s2 hs2=>?_))); cases hs2; obtain ⟨a1,e2,h8,hf⟩:=aV hf; refine U 4 Z (CL Z (qY _ _ _ h8 ?_)); obtain ⟨b1,f1,h9,hf⟩:=aV hf; refine U 8 Z (CL Z (qY _ _ _ h9 (U 7 Z (AS Z (AO.J_ Z XQ Z Z (U 1 Z (An 4 57 61 [] (e2 == f1) Z Z Z Z ?_))))))); refine BR hf fun b2 h12 hf=>?_
 refine U 1 Z (AR.dB 2 62 64 true [] b2 Z Z (fun h11=>?_) (fun h11=>?_) ?_)
 · refine IT 62 h11 h12 Z fun h12=>?_; refine BR h12 fun x3 jJ h12=>?_; refine GO Z (AO.call Z _ Z Z ahf (m_  jJ ?_)); cases h12; exact eG 1 Z (En [64] Z)
 · refine IF 62 h11 h12 Z fun h12=>?_; cases h12; exact eG 2 Z (En [64] Z)
 cases hf; exact N 1 Z (Y Z h)
end


end Go.Proofs.YtggpjlegajicnaaGreatDoor
