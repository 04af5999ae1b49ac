/- Proved here: each function does what its functional text says (part 2). -/
import Derived.Test.YtdgljcpjcgldfaaGreatDoorAgWalk1
import Derived.Test.YtdgljcpjcgldfaaGreatDoorAgFt1
import Derived.Test.YtdgljcpjcgldfaaGreatDoorAgFt2
import Derived.Test.YtdgljcpjcgldfaaGreatDoorProg
import Derived.KernelRfl
set_option linter.unusedVariables false
set_option linter.unusedSimpArgs false
set_option linter.unusedSectionVars false
namespace Go.Proofs.YtdgljcpjcgldfaaGreatDoor
open Go Go.Abs Go.Ft
set_option maxRecDepth 20000
attribute [local irreducible] AO AR AW AC
variable [cZ]
variable {τ : List aM} {Q : lK → List aM → Prop}
theorem nJ (a1:aH) {r0:aH} (hf:jX a1=some r0) (h:Q (.ret (.agg (bY r0))) τ):PC 34 [.agg (bY a1)] τ Q:=by
 unfold jX at hf; refine BN 5 [.cell 2 29] [0] Tryz.func34 Z Z Z Z Z (W 0 Z (AS Z (AO.tJ Z Z (fun b1=>(AS Z (AO.bX Z tL (fun b2=>?_))))))); cases hf; exact Rx 4 [1,1,0] Z Z (ZC [0] Z Z h)
theorem qW (a1:aH) {r0:aH} (hf:lH a1=some r0) (h:Q (.ret (.agg (bY r0))) τ):PC 16 [.agg (bY a1)] τ Q:=by
 unfold lH at hf; refine BN 7 [.cell 2 29] [0] Tryz.func16 Z Z Z Z Z (W 0 Z (AS Z (AO.tJ Z Z (fun b1=>(AS Z (AO.bX Z tL (fun b2=>?_))))))); refine BR hf fun x1 h1 hf=>?_; refine Rr 5 [1,1,1] Z Z (CL Z (nJ _ h1 ?_)); cases hf; exact Rx 1 [0] Z Z (ZC [0] Z Z h)
theorem Dk (Fu:Bool) {r0:Int} (hf:tC Fu=some r0) (h:Q (.ret (iP r0)) τ):PC 68 [.bool Fu] τ Q:=by
 unfold tC at hf; refine BN 4 [.tmp 2] [0] Tryz.func68 Z Z Z Z Z (V 2 Z (C hf Z (fun h1 hf=>?_) fun h1 hf=>?_))
 · cases hf; exact M 1 Z (Y Z h)
 cases hf; exact M 1 Z (Y Z h)
theorem Dl (a1:Int) (b1:Int) {r0:Int} (hf:qK a1 b1=some r0) (h:Q (.ret (iP r0)) τ):PC 33 [iP a1,iP b1] τ Q:=by
 unfold qK at hf; refine BN 25 [.tmp 4] [0,1] Tryz.func33 Z Z Z Z Z (W 9 Z (AS Z (AO.oG Z DC Z Z (U 1 Z (AR.and 6 14 20 [0,5] (x:=(!((decide ((fU (a1 + b1)) < 0)) == (decide (a1 < 0))))) Z Z (fun h1=>?_) (fun h1=>?_) ?_)))))
 · refine Is 14 h1 Z (U 4 Z (GO Z (AO.AZ Z DC Z Z ?_))); exact eG 1 Z (En [20,0,5] Z)
 · refine Is 14 h1 Z ?_; exact eG 6 Z (En [20,0,5] Z)
 refine J 0 Z (C hf Z (fun h2 hf=>?_) fun h2 hf=>?_)
 · refine BR hf fun x1 h3 hf=>?_; refine W 2 Z (CL Z (Dk _ h3 ?_)); cases hf; exact N 1 Z (Y Z h)
 cases hf; exact M 2 Z (Y Z h)
theorem vO (a1:aH) (bM:Int) {r0:aH} (hf:jI a1 bM=some r0) (h:Q (.ret (.agg (bY r0))) τ):PC 14 [.agg (bY a1),iP bM] τ Q:=by
 unfold jI at hf; refine BN 31 [.cell 4 29] [0,1] Tryz.func14 Z Z Z Z Z (W 1 Z (AS Z (AO.bX Z tL (fun b4=>(J 4 Z (C hf Z (fun h1 hf=>?_) fun h1 hf=>?_))))))
 · cases hf; exact Wx 2 [0] Z Z (ZC [0] Z Z h)
 refine W 4 Z (An 5 14 19 [1,2,4] (decide (a1.bR≤bM)) Z Z Z Z (J 1 Z (C hf Z (fun h3 hf=>?_) fun h3 hf=>?_)))
 · refine BR hf fun x1 h4 hf=>?_; refine W 1 Z (CL Z (qW _ h4 ?_)); cases hf; exact Rx 1 [0] Z Z (ZC [0] Z Z h)
 refine B1 hf fun x2 h5 hf=>W 3 Z (CL Z (Dl _ _ h5 (J 2 Z (C hf Z (fun h6 hf=>?_) fun h6 hf=>?_))))
 · refine BR hf fun x3 h7 hf=>?_; refine W 1 Z (CL Z (nJ _ h7 ?_)); cases hf; exact Rx 1 [0] Z Z (ZC [0] Z Z h)
 cases hf; exact Wx 2 [0] Z Z (ZC [0] Z Z h)
theorem vK (a1:aH) {r0:aH} (hf:mD a1=some r0) (h:Q (.ret (.agg (bY r0))) τ):PC 17 [.agg (bY a1)] τ Q:=by
 unfold mD at hf; refine BN 9 [.cell 2 29] [0] Tryz.func17 Z Z Z Z Z (W 1 Z (AS Z (AO.bX Z tL (fun b2=>(U 1 Z (AS Z (AO.bX Z tL (fun b3=>?_)))))))); cases hf; exact Rx 9 [0,0,0,0,0,1] Z Z (ZC [1] Z Z h)
theorem Dj (a1:Int) (b1:Int) {r0:Int} (hf:mR a1 b1=some r0) (h:Q (.ret (iP r0)) τ):PC 35 [iP a1,iP b1] τ Q:=by
 unfold mR at hf; refine BN 24 [.tmp 4] [0,1] Tryz.func35 Z Z Z Z Z (W 4 Z (An 5 7 12 [0,1] (decide ((fU (9223372036854775807 - a1)) < b1)) Z Z Z Z (J 0 Z (C hf Z (fun h2 hf=>?_) fun h2 hf=>?_))))
 · cases hf; exact M 1 Z (Y Z h)
 refine W 3 Z (An 5 15 20 [0,1] (decide (b1 < (fU ((-9223372036854775808) - a1)))) Z Z Z Z (J 0 Z (C hf Z (fun h4 hf=>?_) fun h4 hf=>?_)))
 · cases hf; exact M 1 Z (Y Z h)
 cases hf; exact M 4 Z (Y Z h)
theorem yT (a1:aH) (bM:Int) {r0:aH} (hf:jd a1 bM=some r0) (h:Q (.ret (.agg (bY r0))) τ):PC 15 [.agg (bY a1),iP bM] τ Q:=by
 unfold jd at hf; refine BN 29 [.cell 4 29] [0,1] Tryz.func15 Z Z Z Z Z (W 1 Z (AS Z (AO.bX Z tL (fun b4=>(J 3 Z (C hf Z (fun h1 hf=>?_) fun h1 hf=>?_))))))
 · cases hf; exact Wx 2 [0] Z Z (ZC [0] Z Z h)
 refine W 4 Z (An 5 13 18 [1,2,4] (decide (a1.bR≤bM)) Z Z Z Z (J 0 Z (C hf Z (fun h3 hf=>?_) fun h3 hf=>?_)))
 · refine BR hf fun x1 h4 hf=>?_; refine W 1 Z (CL Z (vK _ h4 ?_)); cases hf; exact Rx 1 [0] Z Z (ZC [0] Z Z h)
 refine W 1 Z (AS Z (AO.bX Z tL (fun b5=>?_))); refine B1 hf fun x2 h5 hf=>Rr 4 [0] Z Z (CL Z (Dj _ _ h5 (J 1 Z (C hf Z (fun h6 hf=>?_) fun h6 hf=>?_))))
 · cases hf; exact Wx 4 [0,0,1] Z Z (ZC [1] Z Z h)
 cases hf; exact Wx 2 [0,1] Z Z (ZC [1] Z Z h)
theorem BK (a1:List ak) (b1:List ak) {r0:Bool} (hf:nY a1 b1=some r0) (h:Q (.ret (.bool r0)) τ):PC 142 [.list (List.map ak.cells a1),.list (List.map ak.cells b1)] τ Q:=by
 unfold nY at hf; refine BN 27 [.tmp 4] [0,1] Tryz.func142 Z Z Z Z Z (W 2 Z (AS Z (AO.aO (l:=a1) Z Z Z Z ow Z Z (U 1 Z (AS Z (AO.aO (l:=b1) Z Z Z Z ow Z Z (J 1 Z (C hf Z (fun h1 hf=>?_) fun h1 hf=>?_))))))))
 · cases hf; exact M 1 Z (Y Z h)
 refine V 1 Z (yZ (fun i1=>[(0,.list (List.map ak.cells a1)),(1,.list (List.map ak.cells b1)),(5,iP i1)]) (fun i1=>[]) (fun eY i1=>iq a1 b1 eY i1=some r0) BIG 0 Z Z hf (fun _ hz=>dN hz) ?_); intro eY i1 hf; rw [iq] at hf; refine W 2 Z (AS Z (AO.aO (l:=a1) Z Z Z Z ow Z Z (J 1 Z (C hf Z (fun h2 hf=>?_) fun h2 hf=>?_))))
 ·
  refine V 0 Z (AW.draw 10 mixed (by kernel_rfl) Z ?_); refine Ev.cs aZ 2 Z ?_; refine B1 hf fun e1 h3 hf=>Ev.cons Z Z Z (AO.bC h3 Z Z Z Z ow (ak.ay _) Z zg) (Ev.cs aZ 3 Z ?_); refine B1 hf fun e2 h4 hf=>Ev.cons Z Z Z (AO.bC h4 Z Z Z Z ow (ak.ay _) Z zg) (Ev.cs aZ 1 Z ?_); refine B1 hf fun x1 h5 hf=>Ev.cons Z Z Z (AO.call Z _ Z Z Gd (sM _ _ h5 zg)) (Ev.cs aZ 1 Z (Ev.nil ?_)); show AR _ _ _ _ _ _ _ _; refine J 0 Z (C hf Z (fun h6 hf=>?_) fun h6 hf=>?_)
  · cases hf; exact M 1 Z (Y Z h)
  exact M 3 Z ⟨(fU (i1 + 1)),Z,Z,Z,hf⟩
 cases hf; exact M 1 Z (Y Z h)
theorem pO (a1:List av) (b1:List av) {r0:Bool} (hf:jq a1 b1=some r0) (h:Q (.ret (.bool r0)) τ):PC 143 [.list (List.map av.cells a1),.list (List.map av.cells b1)] τ Q:=by
 unfold jq at hf; refine BN 26 [.tmp 4] [0,1] Tryz.func143 Z Z Z Z Z (W 2 Z (AS Z (AO.aO (l:=a1) Z Z Z Z lg Z Z (U 1 Z (AS Z (AO.aO (l:=b1) Z Z Z Z lg Z Z (J 1 Z (C hf Z (fun h1 hf=>?_) fun h1 hf=>?_))))))))
 · cases hf; exact M 1 Z (Y Z h)
 refine V 1 Z (yZ (fun i1=>[(0,.list (List.map av.cells a1)),(1,.list (List.map av.cells b1)),(5,iP i1)]) (fun i1=>[]) (fun eY i1=>fu a1 b1 eY i1=some r0) BIG 0 Z Z hf (fun _ hz=>dN hz) ?_); intro eY i1 hf; rw [fu] at hf; refine W 2 Z (AS Z (AO.aO (l:=a1) Z Z Z Z lg Z Z (J 1 Z (C hf Z (fun h2 hf=>?_) fun h2 hf=>?_))))
 ·
  refine V 0 Z (AW.draw 9 mixed (by kernel_rfl) Z ?_); refine Ev.cs aZ 2 Z ?_; refine B1 hf fun e1 h3 hf=>Ev.cons Z Z Z (AO.bC h3 Z Z Z Z lg (av.ay _) Z zg) (Ev.cs aZ 3 Z ?_); refine B1 hf fun e2 h4 hf=>Ev.cons Z Z Z (AO.bC h4 Z Z Z Z lg (av.ay _) Z zg) (Ev.cs aZ 1 Z (Ev.cons Z Z Z (AO.jG Z Gn Z Z (Er e1 e2) Z zg) (Ev.nil ?_))); show AR _ _ _ _ _ _ _ _; refine J 0 Z (C hf Z (fun h5 hf=>?_) fun h5 hf=>?_)
  · cases hf; exact M 1 Z (Y Z h)
  exact M 3 Z ⟨(fU (i1 + 1)),Z,Z,Z,hf⟩
 cases hf; exact M 1 Z (Y Z h)
theorem wD (a1:List aA) (b1:List aA) {r0:Bool} (hf:j6 a1 b1=some r0) (h:Q (.ret (.bool r0)) τ):PC 144 [.list (List.map aA.cells a1),.list (List.map aA.cells b1)] τ Q:=by
 unfold j6 at hf; refine BN 26 [.tmp 4] [0,1] Tryz.func144 Z Z Z Z Z (W 2 Z (AS Z (AO.aO (l:=a1) Z Z Z Z wT Z Z (U 1 Z (AS Z (AO.aO (l:=b1) Z Z Z Z wT Z Z (J 1 Z (C hf Z (fun h1 hf=>?_) fun h1 hf=>?_))))))))
 · cases hf; exact M 1 Z (Y Z h)
 refine V 1 Z (yZ (fun i1=>[(0,.list (List.map aA.cells a1)),(1,.list (List.map aA.cells b1)),(5,iP i1)]) (fun i1=>[]) (fun eY i1=>fA a1 b1 eY i1=some r0) BIG 0 Z Z hf (fun _ hz=>dN hz) ?_); intro eY i1 hf; rw [fA] at hf; refine W 2 Z (AS Z (AO.aO (l:=a1) Z Z Z Z wT Z Z (J 1 Z (C hf Z (fun h2 hf=>?_) fun h2 hf=>?_))))
 ·
  refine V 0 Z (AW.draw 9 mixed (by kernel_rfl) Z ?_); refine Ev.cs aZ 2 Z ?_; refine B1 hf fun e1 h3 hf=>Ev.cons Z Z Z (AO.bC h3 Z Z Z Z wT (aA.ay _) Z zg) (Ev.cs aZ 3 Z ?_); refine B1 hf fun e2 h4 hf=>Ev.cons Z Z Z (AO.bC h4 Z Z Z Z wT (aA.ay _) Z zg) (Ev.cs aZ 1 Z (Ev.cons Z Z Z (AO.jG Z Hq Z Z (FH e1 e2) Z zg) (Ev.nil ?_))); show AR _ _ _ _ _ _ _ _; refine J 0 Z (C hf Z (fun h5 hf=>?_) fun h5 hf=>?_)
  · cases hf; exact M 1 Z (Y Z h)
  exact M 3 Z ⟨(fU (i1 + 1)),Z,Z,Z,hf⟩
 cases hf; exact M 1 Z (Y Z h)
theorem BH (a1:aC) (b1:aC) {r0:Bool} (hf:nV a1 b1=some r0) (h:Q (.ret (.bool r0)) τ):PC 103 [.agg (iC a1),.agg (iC b1)] τ Q:=by
 unfold nV at hf; refine BN 79 [.tmp 4] [0,1] Tryz.func103 Z Z Z Z Z (W 7 Z (AS Z (AO.jG Z JW Z Z (Hg a1.bQ b1.bQ) Z (U 1 Z (An 8 10 18 [2,3] (a1.job.iD == b1.job.iD) Z Z Z Z (U 1 Z (AR.and 10 19 29 [2,3] (x:=((a1.job.steps.length:Int) == (b1.job.steps.length:Int))) Z Z (fun h2=>?_) (fun h2=>?_) ?_)))))))
 · refine Is 19 h2 Z (U 3 Z (GO Z (AO.aO (l:=a1.job.steps) Z Z Z Z wU Z Z (U 3 Z (GO Z (AO.aO (l:=b1.job.steps) Z Z Z Z wU Z Z ?_)))))); exact eG 2 Z (En [29,2,3] Z)
 · refine Is 19 h2 Z ?_; exact eG 10 Z (En [29,2,3] Z)
 refine U 1 Z (AR.and 6 30 36 [2,3] (x:=(aG.oC a1.origin b1.origin)) Z Z (fun h3=>?_) (fun h3=>?_) ?_)
 · refine Is 30 h3 Z (U 4 Z (GO Z (AO.jG Z Gp Z Z (Es a1.origin b1.origin) Z ?_))); exact eG 1 Z (En [36,2,3] Z)
 · refine Is 30 h3 Z ?_; exact eG 6 Z (En [36,2,3] Z)
 refine B1 hf fun b2 h5 hf=>U 1 Z (AR.dO 6 37 43 true [2,3] b2 Z Z (fun h4=>?_) (fun h4=>?_) ?_)
 · refine IT 37 h4 h5 Z fun h5=>?_; refine BR h5 fun x1 h6 h5=>?_; refine U 4 Z (GO Z (AO.call Z _ Z Z GD (BK _ _ h6 ?_))); cases h5; exact eG 1 Z (En [43,2,3] Z)
 · refine IF 37 h4 h5 Z fun h5=>?_; cases h5; exact eG 6 Z (En [43,2,3] Z)
 refine B1 hf fun b3 h8 hf=>U 1 Z (AR.dO 6 44 50 true [2,3] b3 Z Z (fun h7=>?_) (fun h7=>?_) ?_)
 · refine IT 44 h7 h8 Z fun h8=>?_; refine BR h8 fun x2 h9 h8=>?_; refine U 4 Z (GO Z (AO.call Z _ Z Z Bo (l8 _ _ h9 ?_))); cases h8; exact eG 1 Z (En [50,2,3] Z)
 · refine IF 44 h7 h8 Z fun h8=>?_; cases h8; exact eG 6 Z (En [50,2,3] Z)
 refine B1 hf fun b4 h11 hf=>U 1 Z (AR.dO 6 51 57 true [2,3] b4 Z Z (fun h10=>?_) (fun h10=>?_) ?_)
 · refine IT 51 h10 h11 Z fun h11=>?_; refine BR h11 fun x3 h12 h11=>?_; refine U 4 Z (GO Z (AO.call Z _ Z Z DV (pO _ _ h12 ?_))); cases h11; exact eG 1 Z (En [57,2,3] Z)
 · refine IF 51 h10 h11 Z fun h11=>?_; cases h11; exact eG 6 Z (En [57,2,3] Z)
 refine B1 hf fun b5 m_ hf=>U 1 Z (AR.dO 6 58 64 true [2,3] b5 Z Z (fun lJ=>?_) (fun lJ=>?_) ?_)
 · refine IT 58 lJ m_ Z fun m_=>?_; refine BR m_ fun x4 sI m_=>?_; refine U 4 Z (GO Z (AO.call Z _ Z Z xK (nA _ _ sI ?_))); cases m_; exact eG 1 Z (En [64,2,3] Z)
 · refine IF 58 lJ m_ Z fun m_=>?_; cases m_; exact eG 6 Z (En [64,2,3] Z)
 refine B1 hf fun b6 qo hf=>U 1 Z (AR.dO 6 65 71 true [2,3] b6 Z Z (fun h16=>?_) (fun h16=>?_) ?_)
 · refine IT 65 h16 qo Z fun qo=>?_; refine BR qo fun x5 h18 qo=>?_; refine U 4 Z (GO Z (AO.call Z _ Z Z GA (wD _ _ h18 ?_))); cases qo; exact eG 1 Z (En [71,2,3] Z)
 · refine IF 65 h16 qo Z fun qo=>?_; cases qo; exact eG 6 Z (En [71,2,3] Z)
 refine BR hf fun b7 h20 hf=>?_; refine U 1 Z (AR.dO 6 72 78 true [] b7 Z Z (fun h19=>?_) (fun h19=>?_) ?_)
 · refine IT 72 h19 h20 Z fun h20=>?_; refine BR h20 fun x6 h21 h20=>?_; refine U 4 Z (GO Z (AO.call Z _ Z Z xK (nA _ _ h21 ?_))); cases h20; exact eG 1 Z (En [78] Z)
 · refine IF 72 h19 h20 Z fun h20=>?_; cases h20; exact eG 6 Z (En [78] Z)
 cases hf; exact N 1 Z (Y Z h)
theorem BJ (a1:aU) (b1:aU) {r0:Bool} (hf:nX a1 b1=some r0) (h:Q (.ret (.bool r0)) τ):PC 104 [.agg (uQ a1),.agg (uQ b1)] τ Q:=by
 unfold nX at hf; refine BN 31 [.tmp 4] [0,1] Tryz.func104 Z Z Z Z Z (W 9 Z (An 6 10 16 [2,3] (a1.time == b1.time) Z Z Z Z ?_)); refine B1 hf fun b2 h3 hf=>U 1 Z (AR.dO 6 17 23 true [2,3] b2 Z Z (fun h2=>?_) (fun h2=>?_) ?_)
 · refine IT 17 h2 h3 Z fun h3=>?_; refine BR h3 fun x1 h4 h3=>?_; refine U 4 Z (GO Z (AO.call Z _ Z Z DV (pO _ _ h4 ?_))); cases h3; exact eG 1 Z (En [23,2,3] Z)
 · refine IF 17 h2 h3 Z fun h3=>?_; cases h3; exact eG 6 Z (En [23,2,3] Z)
 refine BR hf fun b3 h6 hf=>?_; refine U 1 Z (AR.dO 6 24 30 true [] b3 Z Z (fun h5=>?_) (fun h5=>?_) ?_)
 · refine IT 24 h5 h6 Z fun h6=>?_; refine BR h6 fun x2 h7 h6=>?_; refine U 4 Z (GO Z (AO.call Z _ Z Z Gc (pK _ _ h7 ?_))); cases h6; exact eG 1 Z (En [30] Z)
 · refine IF 24 h5 h6 Z fun h6=>?_; cases h6; exact eG 6 Z (En [30] Z)
 cases hf; exact N 1 Z (Y Z h)
theorem BI (a1:aF) (b1:aF) {r0:Bool} (hf:nW a1 b1=some r0) (h:Q (.ret (.bool r0)) τ):PC 62 [.agg (qM a1),.agg (qM b1)] τ Q:=by
 unfold nW at hf; refine BN 45 [.tmp 4] [0,1] Tryz.func62 Z Z Z Z Z ?_; refine B1 hf fun x1 h1 hf=>W 7 Z (CL Z (BH _ _ h1 (U 1 Z (An 6 10 16 [2,3] (a1.began == b1.began) Z Z Z Z (U 1 Z (An 6 17 23 [2,3] (a1.done == b1.done) Z Z Z Z (U 1 Z (An 6 24 30 [2,3] (a1.sent == b1.sent) Z Z Z Z ?_)))))))); refine U 1 Z (An 6 31 37 [2,3] (a1.saved == b1.saved) Z Z Z Z ?_); refine BR hf fun b2 h7 hf=>?_; refine U 1 Z (AR.dO 6 38 44 true [] b2 Z Z (fun h6=>?_) (fun h6=>?_) ?_)
 · refine IT 38 h6 h7 Z fun h7=>?_; refine BR h7 fun x2 h8 h7=>?_; refine U 4 Z (GO Z (AO.call Z _ Z Z GK (BJ _ _ h8 ?_))); cases h7; exact eG 1 Z (En [44] Z)
 · refine IF 38 h6 h7 Z fun h7=>?_; cases h7; exact eG 6 Z (En [44] Z)
 cases hf; exact N 1 Z (Y Z h)
theorem AP (a1:List aF) (b1:List aF) {r0:Bool} (hf:mq a1 b1=some r0) (h:Q (.ret (.bool r0)) τ):PC 27 [.list (List.map aF.cells a1),.list (List.map aF.cells b1)] τ Q:=by
 unfold mq at hf; refine BN 27 [.tmp 4] [0,1] Tryz.func27 Z Z Z Z Z (W 2 Z (AS Z (AO.aO (l:=a1) Z Z Z Z kr Z Z (U 1 Z (AS Z (AO.aO (l:=b1) Z Z Z Z kr Z Z (J 1 Z (C hf Z (fun h1 hf=>?_) fun h1 hf=>?_))))))))
 · cases hf; exact M 1 Z (Y Z h)
 refine V 1 Z (yZ (fun i1=>[(0,.list (List.map aF.cells a1)),(1,.list (List.map aF.cells b1)),(5,iP i1)]) (fun i1=>[]) (fun eY i1=>gB a1 b1 eY i1=some r0) BIG 0 Z Z hf (fun _ hz=>dN hz) ?_); intro eY i1 hf; rw [gB] at hf; refine W 2 Z (AS Z (AO.aO (l:=a1) Z Z Z Z kr Z Z (J 1 Z (C hf Z (fun h2 hf=>?_) fun h2 hf=>?_))))
 ·
  refine V 0 Z (AW.draw 10 mixed (by kernel_rfl) Z ?_); refine Ev.cs aZ 2 Z ?_; refine B1 hf fun e1 h3 hf=>Ev.cons Z Z Z (AO.bC h3 Z Z Z Z kr (aF.ay _) Z zg) (Ev.cs aZ 3 Z ?_); refine B1 hf fun e2 h4 hf=>Ev.cons Z Z Z (AO.bC h4 Z Z Z Z kr (aF.ay _) Z zg) (Ev.cs aZ 1 Z ?_); refine B1 hf fun x1 h5 hf=>Ev.cons Z Z Z (AO.call Z _ Z Z I7 (BI _ _ h5 zg)) (Ev.cs aZ 1 Z (Ev.nil ?_)); show AR _ _ _ _ _ _ _ _; refine J 0 Z (C hf Z (fun h6 hf=>?_) fun h6 hf=>?_)
  · cases hf; exact M 1 Z (Y Z h)
  exact M 3 Z ⟨(fU (i1 + 1)),Z,Z,Z,hf⟩
 cases hf; exact M 1 Z (Y Z h)
theorem vI (a1:aH) (b1:aH) {r0:Bool} (hf:j5 a1 b1=some r0) (h:Q (.ret (.bool r0)) τ):PC 9 [.agg (bY a1),.agg (bY b1)] τ Q:=by
 unfold j5 at hf; refine BN 52 [.tmp 4] [0,1] Tryz.func9 Z Z Z Z Z ?_; refine B1 hf fun x1 h1 hf=>W 7 Z (CL Z (vM _ _ h1 (U 1 Z (AR.and 6 10 16 [2,3] (x:=(a1.up == b1.up)) Z Z (fun h2=>?_) (fun h2=>?_) ?_))))
 · refine Is 10 h2 Z (U 4 Z (GO Z (AO.oG Z DC Z Z ?_))); exact eG 1 Z (En [16,2,3] Z)
 · refine Is 10 h2 Z ?_; exact eG 6 Z (En [16,2,3] Z)
 refine U 1 Z (AR.and 6 17 23 [2,3] (x:=(a1.joined == b1.joined)) Z Z (fun h3=>?_) (fun h3=>?_) ?_)
 · refine Is 17 h3 Z (U 4 Z (GO Z (AO.oG Z DC Z Z ?_))); exact eG 1 Z (En [23,2,3] Z)
 · refine Is 17 h3 Z ?_; exact eG 6 Z (En [23,2,3] Z)
 refine U 1 Z (An 6 24 30 [2,3] (a1.gu == b1.gu) Z Z Z Z (U 1 Z (An 6 31 37 [2,3] (a1.heard == b1.heard) Z Z Z Z (U 1 Z (An 6 38 44 [2,3] (a1.bR == b1.bR) Z Z Z Z ?_))))); refine BR hf fun b2 h8 hf=>?_; refine U 1 Z (AR.dO 6 45 51 true [] b2 Z Z (fun h7=>?_) (fun h7=>?_) ?_)
 · refine IT 45 h7 h8 Z fun h8=>?_; refine BR h8 fun x2 h9 h8=>?_; refine U 4 Z (GO Z (AO.call Z _ Z Z Jd (AP _ _ h9 ?_))); cases h8; exact eG 1 Z (En [51] Z)
 · refine IF 45 h7 h8 Z fun h8=>?_; cases h8; exact eG 6 Z (En [51] Z)
 cases hf; exact N 1 Z (Y Z h)
theorem qj (a1:aH) (bM:Int) {r0:Bool} (hf:iJ a1 bM=some r0) (h:Q (.ret (.bool r0)) τ):PC 5 [.agg (bY a1),iP bM] τ Q:=by
 unfold iJ at hf; refine BN 26 [.tmp 4] [0,1] Tryz.func5 Z Z Z Z Z ?_; refine B1 hf fun x1 h1 hf=>W 3 Z (CL Z (sJ _ h1 (J 1 Z (C hf Z (fun h2 hf=>?_) fun h2 hf=>?_))))
 · refine BR hf fun x2 h3 hf=>?_; refine W 0 Z (CL Z (lW  h3 ?_)); cases hf; exact N 1 Z (Y Z h)
 refine V 0 Z (AW.draw 18 mixed (by kernel_rfl) Z ?_); refine Ev.cs aZ 2 Z ?_; refine B1 hf fun x3 h4 hf=>Ev.cons Z Z Z (AO.call Z _ Z Z Jj (vO _ _ h4 zg)) (Ev.cs aZ 2 Z ?_); refine B1 hf fun x4 h5 hf=>Ev.cons Z Z Z (AO.call Z _ Z Z Ji (yT _ _ h5 zg)) ?_; refine B1 hf fun x5 h6 hf=>Ev.cons Z Z Z (AO.call Z _ Z Z I5 (vI _ _ h6 zg)) (Ev.cs aZ 1 Z ?_); refine B1 hf fun b1 h8 hf=>Ev.dO EZ 6 16 22 true [] (.bool b1) Z Z (fun h7=>?_) (fun h7=>?_) ?_
 · replace h8:=uU h7 h8; refine Ev.is uX 16 h7 Z (Ev.cs aZ 1 Z ?_); refine B1 h8 fun x6 h9 h8=>Ev.run Z Z Z Z Z Z Z (AO.call Z _ Z Z Jh (qW _ h9 zg)) (Ev.cs aZ 1 Z ?_); refine B1 h8 fun x7 h10 h8=>Ev.run Z Z Z Z Z Z Z (AO.call Z _ Z Z Jg (vK _ h10 zg)) ?_; refine BR h8 fun x8 h11 h8=>?_; refine Ev.run Z Z Z Z Z Z Z (AO.call Z _ Z Z I5 (vI _ _ h11 zg)) ?_; cases h8; refine Ev.cs aZ 1 Z ?_; exact Ev.nil (Less.settle (ps:=[22]) Z)
 · replace h8:=sH h7 h8; refine Ev.is uX 16 h7 Z ?_; cases h8; refine Ev.cs aZ 6 Z ?_; exact Ev.nil (Less.settle (ps:=[22]) Z)
 refine Ev.cs aZ 1 Z ?_; refine BR hf fun b2 lJ hf=>?_; refine Ev.dO EZ 2 23 25 true [] (.bool b2) Z Z (fun h12=>?_) (fun h12=>?_) ?_
 · replace lJ:=uU h12 lJ; refine Ev.is uX 23 h12 Z ?_; refine BR lJ fun x9 m_ lJ=>?_; refine Ev.run Z Z Z Z Z Z Z (AO.call Z _ Z Z I_ (lW  m_ zg)) ?_; cases lJ; refine Ev.cs aZ 1 Z ?_; exact Ev.nil (Less.settle (ps:=[25]) Z)
 · replace lJ:=sH h12 lJ; refine Ev.is uX 23 h12 Z ?_; cases lJ; refine Ev.cs aZ 2 Z ?_; exact Ev.nil (Less.settle (ps:=[25]) Z)
 refine Ev.cs aZ 1 Z (Ev.nil ?_); show AR _ _ _ _ _ _ _ _; cases hf; exact N 0 Z (Y Z h)
end Go.Proofs.YtdgljcpjcgldfaaGreatDoor
