/- Proved here: each function does what its functional text says (part 7). -/
import Derived.Test.YtggpjlegajicnaaGreatDoorCoWalk3
import Derived.Test.YtggpjlegajicnaaGreatDoorCoWalk4
import Derived.Test.YtggpjlegajicnaaGreatDoorCoPre1
import Derived.Test.YtggpjlegajicnaaGreatDoorCoFt1
import Derived.Test.YtggpjlegajicnaaGreatDoorCoFt2
import Derived.Test.YtggpjlegajicnaaGreatDoorCoFt4
import Derived.Test.YtggpjlegajicnaaGreatDoorCoFt5
import Derived.Test.YtggpjlegajicnaaGreatDoorProg
import Derived.KernelRfl
set_option linter.unusedVariables false
set_option linter.unusedSimpArgs false
set_option linter.unusedSectionVars false
namespace Go.Proofs.YtggpjlegajicnaaGreatDoor
open Go Go.Abs Go.Ft
set_option maxRecDepth 20000
attribute [local irreducible] AO AR AW AC
variable [gX]
variable {τ : List bJ} {Q : eT → List bJ → Prop}
theorem lH (b1:Bool) {r0:ah} (hf:jf b1=some r0) (h:Q (.ret (.agg (aK r0))) τ):PC 30 [.bool b1] τ Q:=by
 unfold jf at hf; refine BN 5 [.cell 2 31] [0] Tryz.func30 Z Z Z Z Z (W 0 Z (AS Z (AO.aF Z gq (fun b2=>?_)))); cases hf; exact Rx 3 [0] Z Z (ZC [0] Z Z h)

theorem P9 (bC:List Int) (mR:Int) {r0:Bool} (hf:JB bC mR=some r0) (h:Q (.ret (.bool r0)) τ):PC 31 [.list (List.map vT bC),iP mR] τ Q:=by
 unfold JB at hf; refine BN 18 [.tmp 4] [0,1] Tryz.func31 Z Z Z Z Z (V 2 Z (Gh (fun i1=>[(0,.list (List.map vT bC)),(1,iP mR),(5,iP i1)]) (fun i1=>[]) (fun bT i1=>Aw bC mR bT i1=some r0) BIG 0 Z Z hf (fun _ hz=>bQ hz) ?_)); intro bT i1 hf; rw [Aw] at hf; refine W 2 Z (AS Z (AO.aP (l:=bC) Z Z Z Z xU Z Z (J 1 Z (C hf Z (fun h1 hf=>?_) fun h1 hf=>?_))))
 ·
  refine B1 hf fun e1 h2 hf=>W 2 Z (AS Z (AO.aI h2 Z Z Z Z xU Z Z (J 3 Z (C hf Z (fun h3 hf=>?_) fun h3 hf=>?_))))
  · cases hf; exact M 1 Z (Y Z h)
  exact M 3 Z ⟨(bZ (i1 + 1)),Z,Z,Z,hf⟩
 cases hf; exact M 1 Z (Y Z h)

theorem ahO (bC:List Int) (mR:Int) {r0:Bool} (hf:UK bC mR=some r0) (h:Q (.ret (.bool r0)) τ):PC 32 [.list (List.map vT bC),iP mR] τ Q:=by
 unfold UK at hf; refine BN 18 [.tmp 4] [0,1] Tryz.func32 Z Z Z Z Z (V 2 Z (Gh (fun i1=>[(0,.list (List.map vT bC)),(1,iP mR),(5,iP i1)]) (fun i1=>[]) (fun bT i1=>CW bC mR bT i1=some r0) BIG 0 Z Z hf (fun _ hz=>bQ hz) ?_)); intro bT i1 hf; rw [CW] at hf; refine W 2 Z (AS Z (AO.aP (l:=bC) Z Z Z Z xU Z Z (J 1 Z (C hf Z (fun h1 hf=>?_) fun h1 hf=>?_))))
 ·
  refine B1 hf fun e1 h2 hf=>W 2 Z (AS Z (AO.aI h2 Z Z Z Z xU Z Z (J 3 Z (C hf Z (fun h3 hf=>?_) fun h3 hf=>?_))))
  · cases hf; exact M 1 Z (Y Z h)
  exact M 3 Z ⟨(bZ (i1 + 1)),Z,Z,Z,hf⟩
 cases hf; exact M 1 Z (Y Z h)

theorem SI (bC:List Int) (bG:List aA) {r0:List aA} (hf:Kr bC bG=some r0) (h:Q (.ret (.list (List.map aA.cells r0))) τ):PC 12 [.list (List.map vT bC),.list (List.map aA.cells bG)] τ Q:=by
 unfold Kr at hf; refine BN 40 [.tmp 4] [0,1] Tryz.func12 Z Z Z Z Z (W 0 Z (AS Z (AO.mh Z Z ?_))); refine B1 hf fun x1 h1 hf=>U 0 rfl (CL rfl (lH _ h1 (U 1 rfl (AS rfl (AO.qo (List.map aA.cells [(aA.mk ([97,108,119,97,121,115]:Str) x1)]) rfl zK rfl rfl rfl rfl (by first | rfl | simp only [List.map,aA.aD]) (fun v1=>?_)))))); refine B1 hf fun x2 h2 hf=>U 3 Z (CL Z (P9 _ _ h2 ?_)); refine B1 hf fun x3 h3 hf=>CL rfl (lH _ h3 (U 1 rfl (AS rfl (AO.aS (List.map aA.cells [(aA.mk ([99,97,110,99,101,108,108,101,100]:Str) x3)]) rfl zK rfl rfl rfl (by first | rfl | simp only [List.map,aA.aD]) ?_))))
 refine B1 hf fun l1 h4 hf=>AS Z (AO.fK (i:=0) (l:=[(aA.mk ([97,108,119,97,121,115]:Str) x1)]) (m:=[(aA.mk ([99,97,110,99,101,108,108,101,100]:Str) x3)]) h4 Z Z Z Z Z Z Z zK jN Z Z Z (aA.dD) (aA.cells_one) (by decide) (fun v2 s1 hs1=>?_)); cases hs1; refine B1 hf fun x4 h5 hf=>U 3 Z (CL Z (P9 _ _ h5 ?_)); refine B1 hf fun x5 h6 hf=>CL rfl (lH _ h6 (U 1 rfl (AS rfl (AO.aS (List.map aA.cells [(aA.mk ([102,97,105,108,117,114,101]:Str) x5)]) rfl zK rfl rfl rfl (by first | rfl | simp only [List.map,aA.aD]) ?_))))
 refine B1 hf fun l2 h7 hf=>AS Z (AO.fK (i:=0) (l:=l1) (m:=[(aA.mk ([102,97,105,108,117,114,101]:Str) x5)]) h7 Z Z Z Z Z Z Z zK jN Z Z Z (aA.dD) (aA.cells_one) (by decide) (fun v3 s2 hs2=>?_)); cases hs2; refine B1 hf fun x6 h8 hf=>U 3 Z (CL Z (P9 _ _ h8 ?_)); refine B1 hf fun x7 h9 hf=>CL rfl (lH _ h9 (U 1 rfl (AS rfl (AO.aS (List.map aA.cells [(aA.mk ([115,107,105,112,112,101,100]:Str) x7)]) rfl zK rfl rfl rfl (by first | rfl | simp only [List.map,aA.aD]) ?_))))
 refine B1 hf fun l3 h10 hf=>AS Z (AO.fK (i:=0) (l:=l2) (m:=[(aA.mk ([115,107,105,112,112,101,100]:Str) x7)]) h10 Z Z Z Z Z Z Z zK jN Z Z Z (aA.dD) (aA.cells_one) (by decide) (fun v4 s3 hs3=>?_)); cases hs3; refine B1 hf fun x8 h11 hf=>U 3 Z (CL Z (ahO _ _ h11 ?_)); refine B1 hf fun x9 h12 hf=>CL rfl (lH _ h12 (U 1 rfl (AS rfl (AO.aS (List.map aA.cells [(aA.mk ([115,117,99,99,101,115,115]:Str) x9)]) rfl zK rfl rfl rfl (by first | rfl | simp only [List.map,aA.aD]) ?_))))
 refine B1 hf fun l4 jJ hf=>AS Z (AO.fK (i:=0) (l:=l3) (m:=[(aA.mk ([115,117,99,99,101,115,115]:Str) x9)]) jJ Z Z Z Z Z Z Z zK jN Z Z Z (aA.dD) (aA.cells_one) (by decide) (fun v5 s4 hs4=>?_)); cases hs4; refine BR hf fun wS j5 hf=>?_; refine U 3 Z (AS Z (AO.fK (i:=0) (l:=l4) (m:=bG) j5 Z Z Z Z Z Z Z zK jN Z Z Z (aA.dD) (aA.cells_one) (by decide) (fun v6 s5 hs5=>?_))); cases hs5; cases hf; exact N 1 Z (Y Z h)


end Go.Proofs.YtggpjlegajicnaaGreatDoor
