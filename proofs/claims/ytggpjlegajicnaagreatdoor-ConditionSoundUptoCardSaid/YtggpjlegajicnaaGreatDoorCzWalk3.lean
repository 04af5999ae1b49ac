/- Proved here: each function does what its functional text says (part 3). -/
import Derived.Test.YtggpjlegajicnaaGreatDoorCzWalk2
set_option linter.unusedVariables false
set_option linter.unusedSimpArgs false
set_option linter.unusedSectionVars false
namespace Go.Proofs.YtggpjlegajicnaaGreatDoor
open Go Go.Abs Go.Ft
set_option maxRecDepth 20000
attribute [local irreducible] AO AR AW AC
variable [gX]
variable {τ : List bJ} {Q : eT → List bJ → Prop}
theorem afq (a1:ak) (b1:ak) {r0:Bool} (hf:QJ a1 b1=some r0) (h:Q (.ret (.bool r0)) τ):PC 212 [.agg (aW a1),.agg (aW b1)] τ Q:=by
 unfold QJ at hf; refine BN 13 [.tmp 4] [0,1] Tryz.func212 Z Z Z Z Z ?_; refine B1 hf fun x1 h1 hf=>W 4 Z (CL Z (I5 _ h1 ?_)); refine BR hf fun b2 h3 hf=>?_; refine U 2 Z (AR.dB 4 8 12 true [] b2 Z Z (fun h2=>?_) (fun h2=>?_) ?_)
 · refine IT 8 h2 h3 Z fun h3=>?_; refine B1 h3 fun x2 h4 h3=>U 1 Z (GO Z (AO.call Z _ Z Z apG (I5 _ h4 ?_))); cases h3; exact eG 2 Z (En [12] Z)
 · refine IF 8 h2 h3 Z fun h3=>?_; cases h3; exact eG 4 Z (En [12] Z)
 cases hf; exact N 1 Z (Y Z h)

theorem Qa (a1:ak) (b1:ak) {r0:ak} (hf:BA a1 b1=some r0) (h:Q (.ret (.agg (aW r0))) τ):PC 157 [.agg (aW a1),.agg (aW b1)] τ Q:=by
 unfold BA at hf; refine BN 13 [.cell 4 54] [0,1] Tryz.func157 Z Z Z Z Z (W 2 Z (AS Z (AO.aF Z jk (fun b4=>?_)))); refine B1 hf fun x1 h1 hf=>U 2 Z (CL Z (afq _ _ h1 (J 1 Z (C hf Z (fun h2 hf=>?_) fun h2 hf=>?_))))
 · refine BR hf fun x2 h3 hf=>?_; refine W 0 Z (CL Z (qQ _ h3 ?_)); cases hf; exact Rx 1 [0] Z Z (ZC [0] Z Z h)
 refine BR hf fun x3 h4 hf=>?_; refine W 2 Z (CL Z (WY _ _ h4 ?_)); cases hf; exact Rx 1 [0] Z Z (ZC [0] Z Z h)

theorem ahR (a1:ak) (b1:ak) {r0:ak} {r1:Bool} (hf:Ir a1 b1=some (r0,r1)) (h:Q (.ret (.tuple [.agg (aW r0),.bool r1])) τ):PC 211 [.agg (aW a1),.agg (aW b1)] τ Q:=by
 unfold Ir at hf; refine BN 38 [.cell 4 54,.tmp 5] [0,1] Tryz.func211 Z Z Z Z Z (W 2 Z (AS Z (AO.aF Z jk (fun b4=>?_)))); refine B1 hf fun x1 h1 hf=>U 2 Z (CL Z (kM _ h1 ?_)); refine B1 hf fun b2 h3 hf=>U 1 Z (AR.dB 3 9 12 true [2,3,4] b2 Z Z (fun h2=>?_) (fun h2=>?_) ?_)
 · refine IT 9 h2 h3 Z fun h3=>?_; refine BR h3 fun x2 h4 h3=>?_; refine U 1 Z (GO Z (AO.call Z _ Z Z GD (kM _ h4 ?_))); cases h3; exact eG 1 Z (En [12,2,3,4] Z)
 · refine IF 9 h2 h3 Z fun h3=>?_; cases h3; exact eG 3 Z (En [12,2,3,4] Z)
 refine J 0 Z (C hf Z (fun h5 hf=>?_) fun h5 hf=>?_)
 ·
  refine V 3 Z (C hf Z (fun h6 hf=>?_) fun h6 hf=>?_)
  · cases hf; exact Wx 3 [0] Z Z (ZC [0] Z Z h)
  cases hf; exact Wx 3 [0] Z Z (ZC [0] Z Z h)
 refine B1 hf fun rV h7 hf=>W 2 Z (CL Z (Cr _ _ h7 (J 3 Z (C hf Z (fun h8 hf=>?_) fun h8 hf=>?_))))
 ·
  refine V 0 Z (AW.draw 7 mixed (by kernel_rfl) Z ?_); refine Ev.cs aG 2 Z ?_; refine B1 hf fun x3 h9 hf=>Ev.cons Z Z Z (AO.call Z _ Z Z ajc (O1 _ h9 zg)) (Ev.cs aG 1 Z ?_); refine B1 hf fun x4 h10 hf=>Ev.cons Z Z Z (AO.call Z _ Z Z ajc (O1 _ h10 zg)) ?_; refine B1 hf fun x5 h11 hf=>Ev.cons Z Z Z (AO.call Z _ Z Z aeF (Qa _ _ h11 zg)) ?_; refine B1 hf fun x6 h12 hf=>Ev.cons Z Z Z (AO.call Z _ Z Z acE (uj _ _ h12 zg)) (Ev.nil ?_)
  show AR _ _ _ _ _ _ _ _
  cases hf; exact Rx 2 [0] Z Z (ZC [0] Z Z h)
 refine B1 hf fun x7 jJ hf=>W 1 Z (CL Z (iU _ jJ (U 3 Z (On 3 34 37 [4,31] (rV == 4) Z Z Z Z ?_)))); cases hf; exact Rx 2 [0] Z Z (ZC [0] Z Z h)

theorem abn (op1:Str) (a1:ak) (b1:ak) {r0:ak} {r1:Bool} (hf:nJ op1 a1 b1=some (r0,r1)) (h:Q (.ret (.tuple [.agg (aW r0),.bool r1])) τ):PC 156 [.str op1,.agg (aW a1),.agg (aW b1)] τ Q:=by
 unfold nJ at hf; refine BN 61 [.cell 6 54,.tmp 7] [0,1,2] Tryz.func156 Z Z Z Z Z (W 2 Z (AS Z (AO.aF Z jk (fun b6=>(J 4 Z (C hf Z (fun h1 hf=>?_) fun h1 hf=>?_))))))
 ·
  refine V 0 Z (AW.cond Z (fun h2=>?_) (fun h2=>?_))
  ·
   refine V 0 Z (AW.Bc 4 7 8 0 mixed (by kernel_rfl) (by kernel_rfl) (by kernel_rfl) Z Z Z Z ?_); refine B1 hf fun x1 h3 hf=>Ev.cons Z Z Z (AO.call Z _ Z Z Aj (iU _ h3 zg)) (Ev.cs aG 1 Z ?_); refine B1 hf fun x2 h4 hf=>Ev.cons Z Z Z (AO.call Z _ Z Z pU (jW _ _ h4 zg)) (Ev.cs aG 1 Z (Ev.nil ?_)); show Ev _ _ _ _ _ _ _
   refine B1 hf fun b2 h6 hf=>Ev.dB UN 3 16 19 true [6,13] (.bool b2) Z Z (fun h5=>?_) (fun h5=>?_) ?_
   · replace h6:=cO h5 h6; refine Ev.is uq 16 h5 Z (Ev.cs aG 1 Z ?_); refine BR h6 fun x3 h7 h6=>?_; refine Ev.run Z Z Z Z Z Z Z (AO.call Z _ Z Z pU (jW _ _ h7 zg)) ?_; cases h6; refine Ev.cs aG 1 Z ?_; exact Ev.nil (Less.settle (ps:=[19,6,13]) Z)
   · replace h6:=cZ h5 h6; refine Ev.is uq 16 h5 Z ?_; cases h6; refine Ev.cs aG 3 Z ?_; exact Ev.nil (Less.settle (ps:=[19,6,13]) Z)
   refine Ev.nil (TF.dh Z Z (AO.dW (i:=0) Z Z Z bI Z Z Z Z Z (TF.nil ?_))); show AR _ _ _ _ _ _ _ _
   cases hf; exact N 1 Z (ZC [0] Z Z h)
  cases h1.symm.trans h2
 refine V 2 Z (C hf Z (fun h8 hf=>?_) fun h8 hf=>?_)
 ·
  refine V 0 Z (AW.Bc 4 7 8 0 mixed (by kernel_rfl) (by kernel_rfl) (by kernel_rfl) Z Z Z Z ?_); refine B1 hf fun x4 h9 hf=>Ev.cons Z Z Z (AO.call Z _ Z Z Aj (iU _ h9 zg)) (Ev.cs aG 1 Z ?_); refine B1 hf fun x5 h10 hf=>Ev.cons Z Z Z (AO.call Z _ Z Z pU (jW _ _ h10 zg)) (Ev.cs aG 1 Z (Ev.nil ?_)); show Ev _ _ _ _ _ _ _
  refine B1 hf fun b3 h12 hf=>Ev.dB UN 3 16 19 true [6,13] (.bool b3) Z Z (fun h11=>?_) (fun h11=>?_) ?_
  · replace h12:=cO h11 h12; refine Ev.is uq 16 h11 Z (Ev.cs aG 1 Z ?_); refine BR h12 fun x6 jJ h12=>?_; refine Ev.run Z Z Z Z Z Z Z (AO.call Z _ Z Z pU (jW _ _ jJ zg)) ?_; cases h12; refine Ev.cs aG 1 Z ?_; exact Ev.nil (Less.settle (ps:=[19,6,13]) Z)
  · replace h12:=cZ h11 h12; refine Ev.is uq 16 h11 Z ?_; cases h12; refine Ev.cs aG 3 Z ?_; exact Ev.nil (Less.settle (ps:=[19,6,13]) Z)
  refine Ev.nil (TF.dh Z Z (AO.dW (i:=0) Z Z Z bI Z Z Z Z Z (TF.nil ?_))); show AR _ _ _ _ _ _ _ _
  cases hf; exact N 1 Z (ZC [0] Z Z h)
 refine V 2 Z (C hf Z (fun j5 hf=>?_) fun j5 hf=>?_)
 ·
  refine V 0 Z (AW.cond Z (fun mo=>?_) (fun mo=>?_))
  · refine B1 hf fun x7 h16 hf=>W 0 Z (CL Z (iU _ h16 ?_)); cases hf; exact Rx 2 [0] Z Z (ZC [0] Z Z h)
  cases j5.symm.trans mo
 refine V 2 Z (C hf Z (fun qB hf=>?_) fun qB hf=>?_)
 · refine B1 hf fun x8 h18 hf=>W 0 Z (CL Z (iU _ h18 ?_)); cases hf; exact Rx 2 [0] Z Z (ZC [0] Z Z h)
 refine V 2 Z (C hf Z (fun h19 hf=>?_) fun h19 hf=>?_)
 ·
  refine V 0 Z (AW.cond Z (fun h20=>?_) (fun h20=>?_))
  ·
   refine B1 hf fun rV h21 hf=>W 2 Z (CL Z (Cr _ _ h21 (J 1 Z (AW.Bc 12 15 16 0 mixed (by kernel_rfl) (by kernel_rfl) (by kernel_rfl) Z Z Z Z ?_)))); refine B1 hf fun x9 h22 hf=>Ev.cons Z Z Z (AO.call Z _ Z Z Aj (iU _ h22 zg)) (Ev.cs aG 1 Z ?_); refine B1 hf fun wS h23 hf=>Ev.cons Z Z Z (AO.call Z _ Z Z GD (kM _ h23 zg)) (Ev.cs aG 1 Z ?_); refine B1 hf fun b4 Cv hf=>Ev.dB (hKE UN) 3 35 38 true [6,8,32] (.bool b4) Z Z (fun wT=>?_) (fun wT=>?_) ?_
   · replace Cv:=cO wT Cv; refine Ev.is uq 35 wT Z (Ev.cs aG 1 Z ?_); refine BR Cv fun H8 Ic Cv=>?_; refine Ev.run Z Z Z Z Z Z Z (AO.call Z _ Z Z GD (kM _ Ic zg)) ?_; cases Cv; refine Ev.cs aG 1 Z ?_; exact Ev.nil (Less.settle (ps:=[38,6,8,32]) Z)
   · replace Cv:=cZ wT Cv; refine Ev.is uq 35 wT Z ?_; cases Cv; refine Ev.cs aG 3 Z ?_; exact Ev.nil (Less.settle (ps:=[38,6,8,32]) Z)
   refine Ev.cs aG 1 Z (Ev.or1 (hKE UN) 3 39 42 [6,8,32] (rV == 3) Z Z (fun h27=>?_) (fun h27=>?_) ?_)
   · refine Ev.is uq 39 h27 Z (Ev.cs aG 3 Z ?_); exact Ev.nil (Less.settle (ps:=[42,6,8,32]) Z)
   · refine Ev.is uq 39 h27 Z (Ev.cs aG 3 Z ?_); exact Ev.nil (Less.settle (ps:=[42,6,8,32]) Z)
   refine Ev.cs aG 1 Z (Ev.nil ?_); show Ev _ _ _ _ _ _ _
   refine Ev.or1 UN 3 43 46 [6,32] (rV == 4) Z Z (fun RQ=>?_) (fun RQ=>?_) ?_
   · refine Ev.is uq 43 RQ Z (Ev.cs aG 3 Z ?_); exact Ev.nil (Less.settle (ps:=[46,6,32]) Z)
   · refine Ev.is uq 43 RQ Z (Ev.cs aG 3 Z ?_); exact Ev.nil (Less.settle (ps:=[46,6,32]) Z)
   refine Ev.nil (TF.dh Z Z (AO.dW (i:=0) Z Z Z bI Z Z Z Z Z (TF.nil ?_))); show AR _ _ _ _ _ _ _ _
   cases hf; exact N 1 Z (ZC [0] Z Z h)
  cases h19.symm.trans h20
 refine V 2 Z (C hf Z (fun Na hf=>?_) fun Na hf=>?_)
 ·
  refine V 0 Z (AW.cond Z (fun LY=>?_) (fun LY=>?_))
  ·
   refine B1 hf fun kx2 h31 hf=>W 2 Z (CL Z (Cr _ _ h31 (J 1 Z (AW.Bc 12 15 16 0 mixed (by kernel_rfl) (by kernel_rfl) (by kernel_rfl) Z Z Z Z ?_)))); refine B1 hf fun LQ h32 hf=>Ev.cons Z Z Z (AO.call Z _ Z Z Aj (iU _ h32 zg)) (Ev.cs aG 1 Z ?_); refine B1 hf fun Mg Js hf=>Ev.cons Z Z Z (AO.call Z _ Z Z GD (kM _ Js zg)) (Ev.cs aG 1 Z ?_); refine B1 hf fun b5 PK hf=>Ev.dB (hKE UN) 3 35 38 true [6,8,32] (.bool b5) Z Z (fun XE=>?_) (fun XE=>?_) ?_
   · replace PK:=cO XE PK; refine Ev.is uq 35 XE Z (Ev.cs aG 1 Z ?_); refine BR PK fun RP QZ PK=>?_; refine Ev.run Z Z Z Z Z Z Z (AO.call Z _ Z Z GD (kM _ QZ zg)) ?_; cases PK; refine Ev.cs aG 1 Z ?_; exact Ev.nil (Less.settle (ps:=[38,6,8,32]) Z)
   · replace PK:=cZ XE PK; refine Ev.is uq 35 XE Z ?_; cases PK; refine Ev.cs aG 3 Z ?_; exact Ev.nil (Less.settle (ps:=[38,6,8,32]) Z)
   refine Ev.cs aG 1 Z (Ev.or1 (hKE UN) 3 39 42 [6,8,32] (kx2 == 3) Z Z (fun h37=>?_) (fun h37=>?_) ?_)
   · refine Ev.is uq 39 h37 Z (Ev.cs aG 3 Z ?_); exact Ev.nil (Less.settle (ps:=[42,6,8,32]) Z)
   · refine Ev.is uq 39 h37 Z (Ev.cs aG 3 Z ?_); exact Ev.nil (Less.settle (ps:=[42,6,8,32]) Z)
   refine Ev.cs aG 1 Z (Ev.nil ?_); show Ev _ _ _ _ _ _ _
   refine Ev.or1 UN 3 43 46 [6,32] (kx2 == 4) Z Z (fun UO=>?_) (fun UO=>?_) ?_
   · refine Ev.is uq 43 UO Z (Ev.cs aG 3 Z ?_); exact Ev.nil (Less.settle (ps:=[46,6,32]) Z)
   · refine Ev.is uq 43 UO Z (Ev.cs aG 3 Z ?_); exact Ev.nil (Less.settle (ps:=[46,6,32]) Z)
   refine Ev.nil (TF.dh Z Z (AO.dW (i:=0) Z Z Z bI Z Z Z Z Z (TF.nil ?_))); show AR _ _ _ _ _ _ _ _
   cases hf; exact N 1 Z (ZC [0] Z Z h)
  cases Na.symm.trans LY
 refine V 2 Z (C hf Z (fun OC hf=>?_) fun OC hf=>?_)
 ·
  refine V 0 Z (AW.cond Z (fun h40=>?_) (fun h40=>?_))
  ·
   refine B1 hf fun kx3 h41 hf=>W 2 Z (CL Z (Cr _ _ h41 (J 1 Z (AW.Bc 12 15 16 0 mixed (by kernel_rfl) (by kernel_rfl) (by kernel_rfl) Z Z Z Z ?_)))); refine B1 hf fun RO h42 hf=>Ev.cons Z Z Z (AO.call Z _ Z Z Aj (iU _ h42 zg)) (Ev.cs aG 1 Z ?_); refine B1 hf fun LP h43 hf=>Ev.cons Z Z Z (AO.call Z _ Z Z GD (kM _ h43 zg)) (Ev.cs aG 1 Z ?_); refine B1 hf fun b6 h45 hf=>Ev.dB (hKE UN) 3 35 38 true [6,8,32] (.bool b6) Z Z (fun h44=>?_) (fun h44=>?_) ?_
   · replace h45:=cO h44 h45; refine Ev.is uq 35 h44 Z (Ev.cs aG 1 Z ?_); refine BR h45 fun XD h46 h45=>?_; refine Ev.run Z Z Z Z Z Z Z (AO.call Z _ Z Z GD (kM _ h46 zg)) ?_; cases h45; refine Ev.cs aG 1 Z ?_; exact Ev.nil (Less.settle (ps:=[38,6,8,32]) Z)
   · replace h45:=cZ h44 h45; refine Ev.is uq 35 h44 Z ?_; cases h45; refine Ev.cs aG 3 Z ?_; exact Ev.nil (Less.settle (ps:=[38,6,8,32]) Z)
   refine Ev.cs aG 1 Z (Ev.or1 (hKE UN) 3 39 42 [6,8,32] (kx3 == 3) Z Z (fun h47=>?_) (fun h47=>?_) ?_)
   · refine Ev.is uq 39 h47 Z (Ev.cs aG 3 Z ?_); exact Ev.nil (Less.settle (ps:=[42,6,8,32]) Z)
   · refine Ev.is uq 39 h47 Z (Ev.cs aG 3 Z ?_); exact Ev.nil (Less.settle (ps:=[42,6,8,32]) Z)
   refine Ev.cs aG 1 Z (Ev.nil ?_); show Ev _ _ _ _ _ _ _
   refine Ev.or1 UN 3 43 46 [6,32] (kx3 == 4) Z Z (fun h48=>?_) (fun h48=>?_) ?_
   · refine Ev.is uq 43 h48 Z (Ev.cs aG 3 Z ?_); exact Ev.nil (Less.settle (ps:=[46,6,32]) Z)
   · refine Ev.is uq 43 h48 Z (Ev.cs aG 3 Z ?_); exact Ev.nil (Less.settle (ps:=[46,6,32]) Z)
   refine Ev.nil (TF.dh Z Z (AO.dW (i:=0) Z Z Z bI Z Z Z Z Z (TF.nil ?_))); show AR _ _ _ _ _ _ _ _
   cases hf; exact N 1 Z (ZC [0] Z Z h)
  cases OC.symm.trans h40
 refine V 2 Z (C hf Z (fun h49 hf=>?_) fun h49 hf=>?_)
 ·
  refine B1 hf fun kx4 h50 hf=>W 2 Z (CL Z (Cr _ _ h50 (J 1 Z (AW.Bc 12 15 16 0 mixed (by kernel_rfl) (by kernel_rfl) (by kernel_rfl) Z Z Z Z ?_)))); refine B1 hf fun y8 h51 hf=>Ev.cons Z Z Z (AO.call Z _ Z Z Aj (iU _ h51 zg)) (Ev.cs aG 1 Z ?_); refine B1 hf fun y9 h52 hf=>Ev.cons Z Z Z (AO.call Z _ Z Z GD (kM _ h52 zg)) (Ev.cs aG 1 Z ?_); refine B1 hf fun b7 h54 hf=>Ev.dB (hKE UN) 3 35 38 true [6,8,32] (.bool b7) Z Z (fun Sr=>?_) (fun Sr=>?_) ?_
  · replace h54:=cO Sr h54; refine Ev.is uq 35 Sr Z (Ev.cs aG 1 Z ?_); refine BR h54 fun x20 h55 h54=>?_; refine Ev.run Z Z Z Z Z Z Z (AO.call Z _ Z Z GD (kM _ h55 zg)) ?_; cases h54; refine Ev.cs aG 1 Z ?_; exact Ev.nil (Less.settle (ps:=[38,6,8,32]) Z)
  · replace h54:=cZ Sr h54; refine Ev.is uq 35 Sr Z ?_; cases h54; refine Ev.cs aG 3 Z ?_; exact Ev.nil (Less.settle (ps:=[38,6,8,32]) Z)
  refine Ev.cs aG 1 Z (Ev.or1 (hKE UN) 3 39 42 [6,8,32] (kx4 == 3) Z Z (fun h56=>?_) (fun h56=>?_) ?_)
  · refine Ev.is uq 39 h56 Z (Ev.cs aG 3 Z ?_); exact Ev.nil (Less.settle (ps:=[42,6,8,32]) Z)
  · refine Ev.is uq 39 h56 Z (Ev.cs aG 3 Z ?_); exact Ev.nil (Less.settle (ps:=[42,6,8,32]) Z)
  refine Ev.cs aG 1 Z (Ev.nil ?_); show Ev _ _ _ _ _ _ _
  refine Ev.or1 UN 3 43 46 [6,32] (kx4 == 4) Z Z (fun h57=>?_) (fun h57=>?_) ?_
  · refine Ev.is uq 43 h57 Z (Ev.cs aG 3 Z ?_); exact Ev.nil (Less.settle (ps:=[46,6,32]) Z)
  · refine Ev.is uq 43 h57 Z (Ev.cs aG 3 Z ?_); exact Ev.nil (Less.settle (ps:=[46,6,32]) Z)
  refine Ev.nil (TF.dh Z Z (AO.dW (i:=0) Z Z Z bI Z Z Z Z Z (TF.nil ?_))); show AR _ _ _ _ _ _ _ _
  cases hf; exact N 1 Z (ZC [0] Z Z h)
 refine V 2 Z (C hf Z (fun h58 hf=>?_) fun h58 hf=>?_)
 · replace hf:=(eH _).trans hf; obtain ⟨x21,x22,h59,hf⟩:=aV hf; refine W 2 Z (CL Z (ahR _ _ h59 ?_)); cases hf; exact Rx 4 [0] Z Z (ZC [0] Z Z h)
 refine V 0 Z (AW.Bc 4 7 8 0 mixed (by kernel_rfl) (by kernel_rfl) (by kernel_rfl) Z Z Z Z ?_); refine B1 hf fun x23 h60 hf=>Ev.cons Z Z Z (AO.call Z _ Z Z Aj (iU _ h60 zg)) (Ev.cs aG 1 Z ?_); refine B1 hf fun x24 h61 hf=>Ev.cons Z Z Z (AO.call Z _ Z Z pU (jW _ _ h61 zg)) (Ev.cs aG 1 Z (Ev.nil ?_)); show Ev _ _ _ _ _ _ _
 refine B1 hf fun b8 h63 hf=>Ev.dB UN 3 57 60 true [6,54] (.bool b8) Z Z (fun CU=>?_) (fun CU=>?_) ?_
 · replace h63:=cO CU h63; refine Ev.is uq 57 CU Z (Ev.cs aG 1 Z ?_); refine BR h63 fun x25 h64 h63=>?_; refine Ev.run Z Z Z Z Z Z Z (AO.call Z _ Z Z pU (jW _ _ h64 zg)) ?_; cases h63; refine Ev.cs aG 1 Z ?_; exact Ev.nil (Less.settle (ps:=[60,6,54]) Z)
 · replace h63:=cZ CU h63; refine Ev.is uq 57 CU Z ?_; cases h63; refine Ev.cs aG 3 Z ?_; exact Ev.nil (Less.settle (ps:=[60,6,54]) Z)
 refine Ev.nil (TF.dh Z Z (AO.dW (i:=0) Z Z Z bI Z Z Z Z Z (TF.nil ?_))); show AR _ _ _ _ _ _ _ _
 cases hf; exact N 1 Z (ZC [0] Z Z h)

theorem afl (e1:aj) (l1:List ak) {r0:ak} {r1:Bool} (hf:gN e1 l1=some (r0,r1)) (h:Q (.ret (.tuple [.agg (aW r0),.bool r1])) τ):PC 99 [.agg (bA e1),.list (ak.aU l1)] τ Q:=by
 unfold gN at hf; refine BN 108 [.cell 4 54,.tmp 5] [0,1] Tryz.func99 Z Z Z Z Z (W 1 Z (AS Z (AO.aF Z jk (fun b4=>(J 5 Z (C hf Z (fun h1 hf=>?_) fun h1 hf=>?_))))))
 ·
  refine B1 hf fun e2 h2 hf=>W 1 Z (AS Z (AO.aI h2 Z Z (ak.aB _) Z fZ (ak.aD _) Z (J 3 Z (C hf Z (fun h3 hf=>?_) fun h3 hf=>?_))))
  · refine B1 hf fun e3 h4 hf=>W 1 Z (AS Z (AO.aI h4 Z Z (ak.aB _) Z fZ (ak.aD _) Z ?_)); refine B1 hf fun e4 h5 hf=>U 2 Z (AS Z (AO.aI h5 Z Z (ak.aB _) Z fZ (ak.aD _) Z ?_)); cases hf; exact Rx 3 [0] Z Z (ZC [0] Z Z h)
  refine V 0 Z (AW.draw 7 mixed (by kernel_rfl) Z ?_); refine Ev.cs aG 1 Z ?_; refine B1 hf fun e5 h6 hf=>Ev.cons Z Z Z (AO.aI h6 Z Z (ak.aB _) Z fZ (ak.aD _) Z zg) (Ev.cs aG 2 Z ?_); refine B1 hf fun e6 h7 hf=>Ev.cons Z Z Z (AO.aI h7 Z Z (ak.aB _) Z fZ (ak.aD _) Z zg) (Ev.cs aG 1 Z ?_); refine B1 hf fun x1 h8 hf=>Ev.cons Z Z Z (AO.call Z _ Z Z GD (kM _ h8 zg)) (Ev.nil ?_); show AR _ _ _ _ _ _ _ _
  cases hf; exact Rx 2 [0] Z Z (ZC [0] Z Z h)
 refine V 2 Z (C hf Z (fun h9 hf=>?_) fun h9 hf=>?_)
 ·
  refine V 0 Z (AW.draw 9 mixed (by kernel_rfl) Z ?_); refine Ev.cs aG 1 Z ?_; refine B1 hf fun e7 h10 hf=>Ev.cons Z Z Z (AO.aI h10 Z Z (ak.aB _) Z fZ (ak.aD _) Z zg) (Ev.cs aG 2 Z ?_); refine B1 hf fun e8 h11 hf=>Ev.cons Z Z Z (AO.aI h11 Z Z (ak.aB _) Z fZ (ak.aD _) Z zg) (Ev.cs aG 1 Z ?_); replace hf:=(eH _).trans hf; obtain ⟨x2,x3,h12,hf⟩:=aV hf
  refine Ev.cons Z Z Z (AO.call Z _ Z Z an6 (adA _ _ h12 zg)) (Ev.cs aG 2 Z (Ev.nil ?_)); show AR _ _ _ _ _ _ _ _
  cases hf; exact Rx 2 [0] Z Z (ZC [0] Z Z h)
 refine V 2 Z (C hf Z (fun jJ hf=>?_) fun jJ hf=>?_)
 · replace hf:=(eH _).trans hf; obtain ⟨x4,x5,j5,hf⟩:=aV hf; refine W 3 Z (CL Z (afo _ _ j5 ?_)); cases hf; exact Rx 4 [0] Z Z (ZC [0] Z Z h)
 refine V 2 Z (C hf Z (fun mo hf=>?_) fun mo hf=>?_)
 ·
  refine V 4 Z (C hf Z (fun h16 hf=>?_) fun h16 hf=>?_)
  ·
   refine V 1 Z (AW.draw 7 mixed (by kernel_rfl) Z ?_); refine Ev.cs aG 1 Z ?_; refine B1 hf fun x6 qB hf=>Ev.cons Z Z Z (AO.call Z _ Z Z Aj (iU _ qB zg)) (Ev.cs aG 1 Z ?_); refine B1 hf fun e9 h18 hf=>Ev.cons Z Z Z (AO.aI h18 Z Z (ak.aB _) Z fZ (ak.aD _) Z zg) (Ev.cs aG 2 Z ?_); refine B1 hf fun x7 h19 hf=>Ev.cons Z Z Z (AO.call Z _ Z Z pU (jW _ _ h19 zg)) (Ev.nil ?_); show AR _ _ _ _ _ _ _ _
   cases hf; exact Rx 2 [0] Z Z (ZC [0] Z Z h)
  refine V 0 Z (AW.draw 7 mixed (by kernel_rfl) Z ?_); refine Ev.cs aG 1 Z ?_; refine B1 hf fun x8 h20 hf=>Ev.cons Z Z Z (AO.call Z _ Z Z Aj (iU _ h20 zg)) (Ev.cs aG 1 Z ?_); refine B1 hf fun e10 h21 hf=>Ev.cons Z Z Z (AO.aI h21 Z Z (ak.aB _) Z fZ (ak.aD _) Z zg) (Ev.cs aG 2 Z ?_); refine B1 hf fun x9 h22 hf=>Ev.cons Z Z Z (AO.call Z _ Z Z pU (jW _ _ h22 zg)) (Ev.nil ?_); show AR _ _ _ _ _ _ _ _
  cases hf; exact Rx 2 [0] Z Z (ZC [0] Z Z h)
 refine V 2 Z (C hf Z (fun h23 hf=>?_) fun h23 hf=>?_)
 ·
  refine V 0 Z (AW.draw 11 mixed (by kernel_rfl) Z ?_); refine Ev.cs aG 3 Z ?_; refine B1 hf fun e11 wT hf=>Ev.cons Z Z Z (AO.aI wT Z Z (ak.aB _) Z fZ (ak.aD _) Z zg) (Ev.cs aG 2 Z ?_); refine B1 hf fun e12 Cv hf=>Ev.cons Z Z Z (AO.aI Cv Z Z (ak.aB _) Z fZ (ak.aD _) Z zg) (Ev.cs aG 1 Z ?_); replace hf:=(eH _).trans hf; obtain ⟨wS,H8,Ic,hf⟩:=aV hf
  refine Ev.cons Z Z Z (AO.call Z _ Z Z an5 (abn _ _ _ Ic zg)) (Ev.cs aG 2 Z (Ev.nil ?_)); show AR _ _ _ _ _ _ _ _
  cases hf; exact Rx 2 [0] Z Z (ZC [0] Z Z h)
 refine V 2 Z (C hf Z (fun h27 hf=>?_) fun h27 hf=>?_)
 ·
  refine V 0 Z (AW.draw 11 mixed (by kernel_rfl) Z ?_); refine Ev.cs aG 1 Z ?_; refine B1 hf fun e13 RQ hf=>Ev.cons Z Z Z (AO.aI RQ Z Z (ak.aB _) Z fZ (ak.aD _) Z zg) (Ev.cs aG 2 Z ?_); refine B1 hf fun e14 Na hf=>Ev.cons Z Z Z (AO.aI Na Z Z (ak.aB _) Z fZ (ak.aD _) Z zg) (Ev.cs aG 1 Z ?_); refine B1 hf fun LQ LY hf=>Ev.cons Z Z Z (AO.call Z _ Z Z aeF (Qa _ _ LY zg)) (Ev.cs aG 1 Z ?_); refine B1 hf fun e15 h31 hf=>Ev.cons Z Z Z (AO.aI h31 Z Z (ak.aB _) Z fZ (ak.aD _) Z zg) (Ev.cs aG 1 Z ?_)
  refine B1 hf fun Mg h32 hf=>Ev.cons Z Z Z (AO.call Z _ Z Z pU (jW _ _ h32 zg)) (Ev.nil ?_); show AR _ _ _ _ _ _ _ _
  cases hf; exact Rx 2 [0] Z Z (ZC [0] Z Z h)
 refine B1 hf fun RP Js hf=>W 0 Z (CL Z (iU _ Js (AS Z (AO.aF Z jk (fun b7=>?_))))); refine Rw 2 [0] Z Z (Xy (fun i1 t1=>[(1,.list (ak.aU l1)),(2,.ref (bA e1)),(4,pP b4),(7,pP b7),(8,iP i1)]) (fun i1 t1=>[.box b7 (aW t1),.box b4 [iP 0,.own (.slice none 0 0) []]]) (fun bT i1 t1=>Ei e1 l1 bT i1 t1=some (r0,r1)) BIG 0 RP Z Z hf (fun _ _ hz=>bQ hz) ?_); intro bT i1 t1 hf; rw [Ei] at hf
 refine W 2 Z (AS Z (AO.aP (l:=l1) Z Z Z Z fZ Z (ak.aB _) (J 1 Z (C hf Z (fun XE hf=>?_) fun XE hf=>?_))))
 ·
  refine V 0 Z (AW.draw 6 mixed (by kernel_rfl) Z ?_); refine Ev.cons Z Z Z (AO.aY (i:=0) Z Z Z bI Z Z zg) (Ev.cs aG 2 Z ?_); refine B1 hf fun e16 PK hf=>Ev.cons Z Z Z (AO.aI PK Z Z (ak.aB _) Z fZ (ak.aD _) Z zg) (Ev.cs aG 1 Z ?_); refine B1 hf fun RO QZ hf=>Ev.cons Z Z Z (AO.call Z _ Z Z aeF (Qa _ _ QZ zg)) (Ev.nil ?_); show AR _ _ _ _ _ _ _ _
  exact Rx 4 [0] Z Z ⟨(bZ (i1 + 1)),RO,Z,Z,Z,hf⟩
 refine V 3 Z (C hf Z (fun h37 hf=>?_) fun h37 hf=>?_)
 · refine B1 hf fun LP UO hf=>Wr 1 [0] Z Z (CL Z (uj _ _ UO ?_)); cases hf; exact Rx 2 [1] Z Z (ZC [1] Z Z h)
 refine B1 hf fun XD OC hf=>Wr 1 [0] Z Z (CL Z (uj _ _ OC ?_)); cases hf; exact Rx 2 [1] Z Z (ZC [1] Z Z h)


abbrev XA (qP:aj→List aH→Option (ak × Int)):Prop:=∀ (iY:aj) (eU:List aH) {aR:ak} {iW:Int},qP iY eU=some (aR,iW)→∀ {τ:List bJ} {Q:eT→List bJ→Prop} (h:Q (.ret (.tuple [.agg (aW aR),iP iW])) τ),PC 61 [.agg (bA iY),.list (List.map aH.cells eU)] τ Q
theorem aed (qP) (aaV:XA qP) (e1:aj) (cB:List aH) {r0:ak} {r1:Int} (hf:Ah qP e1 cB=some (r0,r1)) (h:Q (.ret (.tuple [.agg (aW r0),iP r1])) τ):PC 61 [.agg (bA e1),.list (List.map aH.cells cB)] τ Q:=by
 unfold Ah at hf; refine BN 87 [.cell 4 54,.tmp 5] [0,1] Tryz.func61 Z Z Z Z Z (W 1 Z (AS Z (AO.aF Z jk (fun b4=>(U 5 Z (On 4 15 19 [1,2,4] (e1.kind == 2) Z Z Z Z (J 0 Z (C hf Z (fun h2 hf=>?_) fun h2 hf=>?_))))))))
 · replace hf:=(eH _).trans hf; obtain ⟨x1,x2,h3,hf⟩:=aV hf; refine W 2 Z (CL Z (afm _ _ h3 ?_)); cases hf; exact Rx 4 [0] Z Z (ZC [0] Z Z h)
 refine B1 hf fun b1 h5 hf=>W 4 Z (AR.dB 5 28 33 true [1,2,4] b1 Z Z (fun h4=>?_) (fun h4=>?_) ?_)
 · refine IT 28 h4 h5 Z fun h5=>?_; refine B1 h5 fun x3 h6 h5=>U 2 Z (GO Z (AO.call Z _ Z Z af9 (K6 _ h6 ?_))); cases h5; exact eG 2 Z (En [33,1,2,4] Z)
 · refine IF 28 h4 h5 Z fun h5=>?_; cases h5; exact eG 5 Z (En [33,1,2,4] Z)
 refine J 0 Z (C hf Z (fun h7 hf=>?_) fun h7 hf=>?_)
 · cases hf; exact Wx 3 [0] Z Z (ZC [0] Z Z h)
 refine V 0 Z (AW.draw 12 mixed (by kernel_rfl) Z ?_); refine Ev.cs aG 4 Z ?_; refine B1 hf fun b2 h9 hf=>Ev.dB hKA 8 38 46 true [1,2,4] (.bool b2) Z Z (fun h8=>?_) (fun h8=>?_) ?_
 · replace h9:=cO h8 h9; refine Ev.is uq 38 h8 Z (Ev.cs aG 2 Z ?_); refine B1 h9 fun x4 h10 h9=>Ev.run Z Z Z Z Z Z Z (AO.call Z _ Z Z af9 (K6 _ h10 zg)) (Ev.cs aG 2 Z (Ev.run Z Z Z Z Z Z Z (AO.aP (l:=e1.args) Z Z Z Z iT Z (aj.aB _) zg) (Ev.cs aG 1 Z ?_))); cases h9; refine Ev.cs aG 1 Z ?_; exact Ev.nil (Less.settle (ps:=[46,1,2,4]) Z)
 · replace h9:=cZ h8 h9; refine Ev.is uq 38 h8 Z ?_; cases h9; refine Ev.cs aG 8 Z ?_; exact Ev.nil (Less.settle (ps:=[46,1,2,4]) Z)
 refine Ev.nil ?_; show AR _ _ _ _ _ _ _ _
 refine J 0 Z (C hf Z (fun h11 hf=>?_) fun h11 hf=>?_)
 · cases hf; exact Wx 3 [0] Z Z (ZC [0] Z Z h)
 refine V 2 Z (AW.row 2 54 (ZU (fun l1 v1 i1=>[(1,.list (List.map aH.cells cB)),(2,.ref (bA e1)),(4,pP b4),(6,.own v1 (ak.aU l1)),(7,iP i1)]) (fun l1 v1 i1=>[.row v1 (ak.aU l1).length 2 54,.box b4 [iP 0,.own (.slice none 0 0) []]]) (fun bT l1 v1 i1=>sM qP e1 cB bT l1 i1=some (r0,r1)) BIG [] (.slice none 0 0) 0 Z Z hf (fun _ _ _ hz=>bQ hz) ?_)); intro bT l1 v1 i1 hf; rw [sM] at hf
 refine W 3 Z (AS Z (AO.aP (l:=e1.args) Z Z Z Z iT Z (aj.aB _) (J 1 Z (C hf Z (fun h12 hf=>?_) fun h12 hf=>?_))))
 ·
  refine B1 hf fun e2 jJ hf=>W 3 Z (AS Z (AO.aI jJ Z Z (aj.aB _) Z iT (aj.aD _) Z ?_)); obtain ⟨x5,f1,j5,hf⟩:=aV hf; refine U 2 Z (CL Z (aaV _ _ j5 (U 3 Z (AS Z (AO.aF Z jk (fun b8=>(Rw 4 [0] Z Z (C hf Z (fun mo hf=>?_) fun mo hf=>?_))))))))
  · cases hf; exact Wx 4 [2] Z Z (ZC [2] Z Z h)
  refine Wr 2 [0] rfl rfl (AS rfl (AO.aS (ak.aU [x5]) rfl uZ rfl rfl rfl (by first | rfl | simp only [List.map,ak.aD,ak.aU]) ?_)); refine B1 hf fun l2 h16 hf=>AS Z (AO.fK (i:=1) (l:=l1) (m:=[x5]) h16 Z Z Z Z Z Z Z uZ fZ (ak.aB _) (ak.aB _) (ak.aB _).symm (ak.dD) (ak.cells_one) (by decide) (fun v2 s1 hs1=>?_)); cases hs1; refine eG 4 Z (AR.drop1 ?_); exact N 0 Z ⟨l2,v2,(bZ (i1 + 1)),Z,Z,Z,hf⟩
 obtain ⟨x6,ok1,qB,hf⟩:=aV hf; refine W 2 Z (CL Z (afl _ _ qB (U 3 Z (AS Z (AO.aF Z jk (fun b10=>(Rw 4 [0] Z Z (C hf Z (fun h18 hf=>?_) fun h18 hf=>?_))))))))
 · cases hf; exact Wx 3 [2] Z Z (ZC [2] Z Z h)
 refine B1 hf fun x7 h19 hf=>Wr 1 [0] Z Z (CL Z (I5 _ h19 (J 1 Z (C hf Z (fun h20 hf=>?_) fun h20 hf=>?_))))
 · cases hf; exact Wx 3 [2] Z Z (ZC [2] Z Z h)
 cases hf; exact Wx 3 [0,2] Z Z (ZC [2] Z Z h)
theorem aeP :∀ k:Nat,(XA (jM k)):=by
 intro k
 induction k with
 | zero=>exact fun _ _ _ _ hz=>by first | cases hz | (unfold jM at hz; cases hz)
 | succ k ih=>exact fun iY eU aR iW hz τ Q hq=>aed (jM k) ih iY eU hz hq
theorem WW (iY:aj) (eU:List aH) {aR:ak} {iW:Int} (hf:pK iY eU=some (aR,iW)) (h:Q (.ret (.tuple [.agg (aW aR),iP iW])) τ):PC 61 [.agg (bA iY),.list (List.map aH.cells eU)] τ Q:=
 ((aeP BIG)) iY eU hf h

theorem WX (e1:aj) (cB:List aH) {r0:ak} {r1:Int} (hf:Bt e1 cB=some (r0,r1)) (h:Q (.ret (.tuple [.agg (aW r0),iP r1])) τ):PC 37 [.agg (bA e1),.list (List.map aH.cells cB)] τ Q:=by
 unfold Bt at hf; refine BN 25 [.cell 4 54,.tmp 5] [0,1] Tryz.func37 Z Z Z Z Z (W 1 Z (AS Z (AO.aF Z jk (fun b4=>?_)))); refine B1 hf fun f1 h1 hf=>U 2 Z (CL Z (ahS _ h1 (J 3 Z (C hf Z (fun h2 hf=>?_) fun h2 hf=>?_))))
 · cases hf; exact Wx 4 [0] Z Z (ZC [0] Z Z h)
 refine B1 hf fun f2 h3 hf=>W 1 Z (CL Z (TK _ h3 (J 3 Z (C hf Z (fun h4 hf=>?_) fun h4 hf=>?_))))
 · cases hf; exact Wx 4 [0] Z Z (ZC [0] Z Z h)
 replace hf:=(eH _).trans hf; obtain ⟨x1,x2,h5,hf⟩:=aV hf; refine W 2 Z (CL Z (WW _ _ h5 ?_)); cases hf; exact Rx 4 [0] Z Z (ZC [0] Z Z h)


abbrev Xz (AZ:ak→Option Bool):Prop:=∀ (z_:ak) {aR:Bool},AZ z_=some aR→∀ {τ:List bJ} {Q:eT→List bJ→Prop} (h:Q (.ret (.bool aR)) τ),PC 66 [.agg (aW z_)] τ Q
theorem aec (AZ) (aaU:Xz AZ) (t1:ak) {r0:Bool} (hf:Gv AZ t1=some r0) (h:Q (.ret (.bool r0)) τ):PC 66 [.agg (aW t1)] τ Q:=by
 unfold Gv at hf; refine BN 19 [.tmp 2] [0] Tryz.func66 Z Z Z Z Z ?_; refine BR hf fun b1 h2 hf=>?_; refine W 6 Z (AR.dB 12 6 18 true [] b1 Z Z (fun h1=>?_) (fun h1=>?_) ?_)
 ·
  replace h2:=cO h1 h2; refine Is 6 h1 Z (U 2 Z (GO Z (AO.aP (l:=t1.elem) Z Z Z Z fZ Z (ak.aB _) ?_))); refine BR h2 fun b2 h4 h2=>?_; refine U 2 Z (AR.dB 6 11 17 false [6] b2 Z Z (fun h3=>?_) (fun h3=>?_) ?_)
  · refine IF 11 h3 h4 Z fun h4=>?_; refine B1 h4 fun e1 h5 h4=>U 2 Z (GO Z (AO.aI h5 Z Z (ak.aB _) Z fZ (ak.aD _) Z ?_)); refine BR h4 fun x1 h6 h4=>?_; refine U 1 Z (GO Z (AO.call Z _ Z Z amH (aaU _ h6 ?_))); cases h4; exact eG 1 Z (En [17,6] Z)
  · refine IT 11 h3 h4 Z fun h4=>?_; cases h4; exact eG 6 Z (En [17,6] Z)
  cases h2; exact eG 1 Z (En [18] Z)
 · refine IF 6 h1 h2 Z fun h2=>?_; cases h2; exact eG 12 Z (En [18] Z)
 cases hf; exact N 1 Z (Y Z h)
theorem aeO :∀ k:Nat,(Xz (xq k)):=by
 intro k
 induction k with
 | zero=>exact fun _ _ hz=>by first | cases hz | (unfold xq at hz; cases hz)
 | succ k ih=>exact fun z_ aR hz τ Q hq=>aec (xq k) ih z_ hz hq
theorem afn (z_:ak) {aR:Bool} (hf:QG z_=some aR) (h:Q (.ret (.bool aR)) τ):PC 66 [.agg (aW z_)] τ Q:=
 ((aeO BIG)) z_ hf h


abbrev RJ (nE:aj→List aH→Option Bool):Prop:=∀ (iY:aj) (eU:List aH) {aR:Bool},nE iY eU=some aR→∀ {τ:List bJ} {Q:eT→List bJ→Prop} (h:Q (.ret (.bool aR)) τ),PC 42 [.agg (bA iY),.list (List.map aH.cells eU)] τ Q
theorem Z9 (nE) (Wi:RJ nE) (e1:aj) (cB:List aH) {r0:Bool} (hf:Fe nE e1 cB=some r0) (h:Q (.ret (.bool r0)) τ):PC 42 [.agg (bA e1),.list (List.map aH.cells cB)] τ Q:=by
 unfold Fe at hf; refine BN 36 [.tmp 4] [0,1] Tryz.func42 Z Z Z Z Z ?_; obtain ⟨x1,f1,h1,hf⟩:=aV hf; refine W 4 Z (CL Z (WW _ _ h1 (U 3 Z (AS Z (AO.aF Z jk (fun b5=>?_)))))); refine B1 hf fun b1 h3 hf=>Rr 5 [0] Z Z (AR.dB 4 16 20 false [1,2] b1 Z Z (fun h2=>?_) (fun h2=>?_) ?_)
 · replace h3:=cZ h2 h3; refine Is 16 h2 Z (GO Z (AO.aY (i:=0) Z Z Z bI Z Z ?_)); refine B1 h3 fun x2 h4 h3=>GO Z (AO.call Z _ Z Z amH (afn _ h4 ?_)); cases h3; exact eG 2 Z (En [20,1,2] Z)
 · refine IT 16 h2 h3 Z fun h3=>?_; cases h3; exact eG 4 Z (En [20,1,2] Z)
 refine J 0 Z (C hf Z (fun h5 hf=>?_) fun h5 hf=>?_)
 · cases hf; exact M 1 Z (Y Z h)
 refine V 1 Z (Gh (fun i1=>[(1,.list (List.map aH.cells cB)),(2,.ref (bA e1)),(7,iP i1)]) (fun i1=>[.box b5 (aW x1)]) (fun bT i1=>zM nE e1 cB bT i1=some r0) BIG 0 Z Z hf (fun _ hz=>bQ hz) ?_); intro bT i1 hf; rw [zM] at hf; refine W 3 Z (AS Z (AO.aP (l:=e1.args) Z Z Z Z iT Z (aj.aB _) (J 1 Z (C hf Z (fun h6 hf=>?_) fun h6 hf=>?_))))
 ·
  refine B1 hf fun e2 h7 hf=>W 3 Z (AS Z (AO.aI h7 Z Z (aj.aB _) Z iT (aj.aD _) Z ?_)); refine B1 hf fun x3 h8 hf=>U 2 Z (CL Z (Wi _ _ h8 (J 1 Z (C hf Z (fun h9 hf=>?_) fun h9 hf=>?_))))
  · cases hf; exact M 1 Z (Y Z h)
  exact M 3 Z ⟨(bZ (i1 + 1)),Z,Z,Z,hf⟩
 cases hf; exact M 1 Z (Y Z h)
theorem aaF :∀ k:Nat,(RJ (qF k)):=by
 intro k
 induction k with
 | zero=>exact fun _ _ _ hz=>by first | cases hz | (unfold qF at hz; cases hz)
 | succ k ih=>exact fun iY eU aR hz τ Q hq=>Z9 (qF k) ih iY eU hz hq
theorem abm (iY:aj) (eU:List aH) {aR:Bool} (hf:Pj iY eU=some aR) (h:Q (.ret (.bool aR)) τ):PC 42 [.agg (bA iY),.list (List.map aH.cells eU)] τ Q:=
 ((aaF BIG)) iY eU hf h

theorem abo (e1:aj) (cB:List aH) {r0:Bool} (hf:C_ e1 cB=some r0) (h:Q (.ret (.bool r0)) τ):PC 22 [.agg (bA e1),.list (List.map aH.cells cB)] τ Q:=by
 unfold C_ at hf; refine BN 20 [.tmp 4] [0,1] Tryz.func22 Z Z Z Z Z ?_; obtain ⟨x1,f1,h1,hf⟩:=aV hf; refine W 4 Z (CL Z (WX _ _ h1 (U 3 Z (AS Z (AO.aF Z jk (fun b5=>?_)))))); refine BR hf fun b1 h3 hf=>?_; refine Rr 5 [0] Z Z (AR.dB 4 15 19 true [] b1 Z Z (fun h2=>?_) (fun h2=>?_) ?_)
 · refine IT 15 h2 h3 Z fun h3=>?_; refine BR h3 fun x2 h4 h3=>?_; refine U 2 Z (GO Z (AO.call Z _ Z Z apS (abm _ _ h4 ?_))); cases h3; exact eG 1 Z (En [19] Z)
 · refine IF 15 h2 h3 Z fun h3=>?_; cases h3; exact eG 4 Z (En [19] Z)
 cases hf; exact N 1 Z (Y Z h)

section
variable [FR]
theorem NI (fD:aj) (bC:List Int) (bG:List aA) {r0:Bool} (hf:vF fD bC bG=some r0) (h:Q (.ret (.bool r0)) τ):PC 8 [.agg (bA fD),.list (List.map vT bC),.list (List.map aA.cells bG)] τ Q:=by
 unfold vF at hf; refine BN 76 [.tmp 6] [0,1,2] Tryz.func8 Z Z Z Z Z (W 4 Z (AS Z (AO.aP (l:=bC) Z Z Z Z xU Z Z (U 1 Z (AS Z (AO.aP (l:=bG) Z Z Z Z jN Z Z ?_)))))); refine B1 hf fun x1 h1 hf=>U 1 Z (CL Z (I7 _ _ h1 ?_)); refine B1 hf fun b1 h3 hf=>U 2 Z (AR.dB 6 19 25 false [1,2,3] b1 Z Z (fun h2=>?_) (fun h2=>?_) ?_)
 · refine IF 19 h2 h3 Z fun h3=>?_; refine B1 h3 fun x2 h4 h3=>U 2 Z (GO Z (AO.call Z _ Z Z amN (SI _ _ h4 ?_))); refine B1 h3 fun x3 h5 h3=>GO Z (AO.call Z _ Z Z ap1 (ZF _ h5 ?_)); cases h3; exact eG 2 Z (En [25,1,2,3] Z)
 · refine IT 19 h2 h3 Z fun h3=>?_; cases h3; exact eG 6 Z (En [25,1,2,3] Z)
 refine J 0 Z (C hf Z (fun h6 hf=>?_) fun h6 hf=>?_)
 · refine BR hf fun x4 h7 hf=>?_; refine W 0 Z (CL Z (m_  h7 ?_)); cases hf; exact N 1 Z (Y Z h)
 refine V 2 Z (AW.row 3 57 (ZU (fun l1 v1 i1=>[(1,.list (List.map vT bC)),(2,.list (List.map aA.cells bG)),(3,.ref (bA fD)),(7,.own v1 (List.map aH.cells l1)),(8,iP i1)]) (fun l1 v1 i1=>[.row v1 (List.map aH.cells l1).length 3 57]) (fun bT l1 v1 i1=>ow fD bC bG bT l1 i1=some r0) BIG [] (.slice none 0 0) 0 Z Z hf (fun _ _ _ hz=>bQ hz) ?_)); intro bT l1 v1 i1 hf; rw [ow] at hf
 refine W 2 Z (AS Z (AO.aP (l:=bG) Z Z Z Z jN Z Z (J 1 Z (C hf Z (fun h8 hf=>?_) fun h8 hf=>?_))))
 ·
  refine V 0 Z (AW.draw 14 mixed (by kernel_rfl) Z ?_); refine Ev.cs aG 3 Z ?_; refine B1 hf fun e1 h9 hf=>Ev.cons Z Z Z (AO.aI h9 Z Z Z Z jN (aA.aD _) Z zg) (Ev.cs aG 4 Z ?_); refine B1 hf fun e2 h10 hf=>Ev.cons Z Z Z (AO.aI h10 Z Z Z Z jN (aA.aD _) Z zg) (Ev.cs aG 2 Z ?_); refine B1 hf fun x5 h11 hf=>Ev.cons rfl rfl rfl (AO.call rfl _ rfl rfl ap0 (adH _ h11 ⟨rfl,rfl⟩)) (Ev.cons rfl rfl rfl (AO.build rfl afF aiN rfl ⟨rfl,rfl⟩) (Ev.cons rfl rfl rfl (AO.aS (List.map aH.cells [(aH.mk e1.name x5)]) rfl Qy rfl rfl rfl (by first | rfl | simp only [List.map,aH.aD]) ⟨rfl,rfl⟩) ?_))
  refine Ev.nil ?_; show AR _ _ _ _ _ _ _ _
  refine B1 hf fun l2 h12 hf=>AS Z (AO.fK (i:=0) (l:=l1) (m:=[(aH.mk e1.name x5)]) h12 Z Z Z Z Z Z Z Qy Bb Z Z Z (aH.dD) (aH.cells_one) (by decide) (fun v2 s1 hs1=>?_)); cases hs1; exact N 4 Z ⟨l2,v2,(bZ (i1 + 1)),Z,Z,Z,hf⟩
 refine B1 hf fun x6 jJ hf=>W 2 Z (CL Z (tO _ _ jJ (J 1 Z (C hf Z (fun j5 hf=>?_) fun j5 hf=>?_))))
 · refine BR hf fun x7 mo hf=>?_; refine W 0 Z (CL Z (m_  mo ?_)); cases hf; exact N 1 Z (Y Z h)
 obtain ⟨x8,e3,h16,hf⟩:=aV hf; refine W 3 Z (CL Z (qY _ _ _ h16 (J 5 Z (AW.draw 17 mixed (by kernel_rfl) Z ?_)))); refine Ev.cs aG 3 Z ?_; refine B1 hf fun b2 h18 hf=>Ev.dB hKA 10 62 72 true [] (.bool b2) Z Z (fun qB=>?_) (fun qB=>?_) ?_
 ·
  replace h18:=cO qB h18; refine Ev.is uq 62 qB Z (Ev.cs aG 3 Z ?_); refine BR h18 fun b3 h20 h18=>?_; refine Ev.dB uq 6 65 71 false [62] (.bool b3) Z Z (fun h19=>?_) (fun h19=>?_) ?_
  · replace h20:=cZ h19 h20; refine Ev.is uq 65 h19 Z (Ev.cs aG 2 Z ?_); refine B1 h20 fun x9 h21 h20=>Ev.run Z Z Z Z Z Z Z (AO.call Z _ Z Z amL (TH _ h21 zg)) ?_; refine B1 h20 fun wS h22 h20=>Ev.run Z Z Z Z Z Z Z (AO.call Z _ Z Z apZ (abo _ _ h22 zg)) (Ev.cs aG 1 Z ?_); cases h20; refine Ev.cs aG 1 Z ?_; exact Ev.nil (Less.settle (ps:=[71,62]) Z)
  · replace h20:=cO h19 h20; refine Ev.is uq 65 h19 Z ?_; cases h20; refine Ev.cs aG 6 Z ?_; exact Ev.nil (Less.settle (ps:=[71,62]) Z)
  cases h18; refine Ev.cs aG 1 Z ?_; exact Ev.nil (Less.settle (ps:=[72]) Z)
 · replace h18:=cZ qB h18; refine Ev.is uq 62 qB Z ?_; cases h18; refine Ev.cs aG 10 Z ?_; exact Ev.nil (Less.settle (ps:=[72]) Z)
 refine Ev.cs aG 1 Z ?_; refine BR hf fun b4 wT hf=>?_; refine Ev.dB hKA 2 73 75 true [] (.bool b4) Z Z (fun h23=>?_) (fun h23=>?_) ?_
 · replace wT:=cO h23 wT; refine Ev.is uq 73 h23 Z ?_; refine BR wT fun H8 Cv wT=>?_; refine Ev.run Z Z Z Z Z Z Z (AO.call Z _ Z Z ahf (m_  Cv zg)) ?_; cases wT; refine Ev.cs aG 1 Z ?_; exact Ev.nil (Less.settle (ps:=[75]) Z)
 · replace wT:=cZ h23 wT; refine Ev.is uq 73 h23 Z ?_; cases wT; refine Ev.cs aG 2 Z ?_; exact Ev.nil (Less.settle (ps:=[75]) Z)
 refine Ev.cs aG 1 Z (Ev.nil ?_); show AR _ _ _ _ _ _ _ _
 cases hf; exact N 0 Z (Y Z h)
end


end Go.Proofs.YtggpjlegajicnaaGreatDoor
