/- Proved here: each function does what its functional text says (part 3). -/
import Derived.Test.YtcohpegjnpcgcaaGreatDoorTnWalk2
set_option linter.unusedVariables false
set_option linter.unusedSimpArgs false
set_option linter.unusedSectionVars false
namespace Go.Proofs.YtcohpegjnpcgcaaGreatDoor
open Go Go.Abs Go.Ft
set_option maxRecDepth 20000
attribute [local irreducible] AO AR AW AC
variable [iq]
variable {τ : List aV} {Q : cO → List aV → Prop}
theorem Ec (args1:List aM) {r0:bX} (hf:Da args1=some r0) (h:Q (.ret (.agg [.list (au.aK r0.blocks)])) τ):PC 17 [.list (List.map aM.cells args1)] τ Q:=by
 unfold Da at hf; refine BN 23 [.cell 2 34] [0] Tryz.func17 Z Z Z Z Z (W 0 Z (AS Z (AO.aC Z CS (fun b2=>?_)))); refine B1 hf fun x1 h1 hf=>U 0 rfl (CL rfl (Ot _ h1 (U 1 rfl (AS rfl (AO.bD (List.map aM.cells [(aM.mk ([116,121,112,101]:Str) x1)]) rfl xL rfl rfl rfl (by first | rfl | simp only [List.map,aM.aF]) ?_))))); refine U 1 Z (AS Z (AO.aC Z nK (fun b3=>(Rw 1 [0] Z Z (AW.Y8 7 38 [4] mixed (by kernel_rfl) Z nK Z (by kernel_rfl) (by decide) ?_)))))
 refine B1 hf fun x2 h2 hf=>Ev.cons Z Z Z (AO.call Z _ Z Z abS (Ou _ h2 zg)) ?_; refine B1 hf fun x3 h3 hf=>Ev.cons rfl rfl rfl (AO.call rfl _ rfl rfl abN (Vh _ h3 ⟨rfl,rfl⟩)) (Ev.cons rfl rfl rfl (AO.build rfl MJ Zj rfl ⟨rfl,rfl⟩) (Ev.cons rfl rfl rfl (AO.bD (List.map aM.cells [(aM.mk ([120]:Str) x3)]) rfl xL rfl rfl rfl (by first | rfl | simp only [List.map,aM.aF]) ⟨rfl,rfl⟩) ?_))
 refine Ev.cons rfl rfl rfl (AO.aR (i:=0) rfl rfl rfl mD rfl rfl ⟨rfl,rfl⟩) (Ev.cons rfl rfl rfl (AO.bD (au.aK [(au.mk ([112,97,114,97,109]:Str) ([110]:Str) [(aM.mk ([116,121,112,101]:Str) x1)] [])]) rfl oG rfl rfl rfl (by first | rfl | simp only [List.map,au.aF,au.aK]) ⟨rfl,rfl⟩) ?_); refine Ev.cons Z Z Z (AO.build Z nK KA Z zg) (Ev.nil ?_); intro b4; show AR _ _ _ _ _ _ _ _
 refine Rr 4 [0,0] rfl rfl (AS rfl (AO.bD (au.aK [(au.mk ([117,115,101]:Str) ([116]:Str) args1 [])]) rfl oG rfl rfl rfl (by first | rfl | simp only [List.map,au.aF,au.aK]) ?_))
 refine U 1 rfl (AS rfl (AO.bD (au.aK [(au.mk ([116,101,109,112,108,97,116,101]:Str) ([116]:Str) [(aM.mk ([120]:Str) x3)] [(au.mk ([112,97,114,97,109]:Str) ([110]:Str) [(aM.mk ([116,121,112,101]:Str) x1)] [])]),(au.mk ([106,111,98]:Str) ([]:Str) [] [(au.mk ([117,115,101]:Str) ([116]:Str) args1 [])])]) rfl oG rfl rfl rfl (by first | rfl | simp only [List.map,au.aF,au.aK]) ?_)); cases hf; exact Rx 2 [2] Z Z (ZC [2] Z Z h)
section
variable [xJ]
theorem Gj {r0:Bool} (hf:Ag=some r0) (h:Q (.ret (.bool r0)) τ):PC 6 [] τ Q:=by
 unfold Ag at hf; refine BN 118 [.tmp 0] [] Tryz.func6 Z Z Z Z Z ?_; refine B1 hf fun x1 h1 hf=>W 2 rfl (CL rfl (CQ _ h1 (AS rfl (AO.aC rfl iO (fun b1=>(Rr 3 [0,0] rfl rfl (AS rfl (AO.bD (List.map aM.cells [(aM.mk ([110]:Str) x1)]) rfl xL rfl rfl rfl (by first | rfl | simp only [List.map,aM.aF]) ?_)))))))); refine B1 hf fun x2 h2 hf=>CL Z (Ec _ h2 ?_); obtain ⟨x3,e1,h3,hf⟩:=bM hf; refine CL Z (xE _ _ h3 (U 3 Z (AS Z (AO.aC Z CS (fun b2=>?_)))))
 refine B1 hf fun x4 h4 hf=>Rr 2 [0] Z Z (CL Z (Ec _ h4 ?_)); obtain ⟨x5,g1,h5,hf⟩:=bM hf; refine CL Z (xE _ _ h5 (U 3 Z (AS Z (AO.aC Z CS (fun b4=>?_))))); refine B1 hf fun x6 h6 hf=>Rr 2 [0] rfl rfl (CL rfl (Ot _ h6 (U 1 rfl (AS rfl (AO.bD (List.map aM.cells [(aM.mk ([110]:Str) x6)]) rfl xL rfl rfl rfl (by first | rfl | simp only [List.map,aM.aF]) ?_))))); refine B1 hf fun x7 h7 hf=>CL Z (Ec _ h7 ?_); obtain ⟨x8,hx1,h8,hf⟩:=bM hf
 refine CL rfl (xE _ _ h8 (U 3 rfl (AS rfl (AO.aC rfl CS (fun b6=>(Rr 4 [0,3] rfl rfl (AS rfl (AO.bD (List.map aM.cells [(aM.mk ([109]:Str) x1)]) rfl xL rfl rfl rfl (by first | rfl | simp only [List.map,aM.aF]) ?_)))))))); refine B1 hf fun x9 h9 hf=>CL Z (Ec _ h9 ?_); obtain ⟨Kn,ER,h10,hf⟩:=bM hf
 refine CL Z (xE _ _ h10 (U 3 Z (AS Z (AO.aC Z CS (fun b8=>(Rr 5 [0] Z Z (AR.or 5 46 51 [2,5,7,9] (x:=((x3.blocks.length:Int) != 1)) Z Z (fun h11=>?_) (fun h11=>?_) ?_)))))))
 · refine Is 46 h11 Z (U 1 Z (GO Z (AO.aR (i:=3) Z Z Z xK Z Z (GO Z (AO.aT (l:=x3.blocks) Z Z Z Z kG Z (au.aA _) ?_))))); exact fZ 2 Z (En [51,2,5,7,9] Z)
 · refine Is 46 h11 Z ?_; exact fZ 5 Z (En [51,2,5,7,9] Z)
 refine B1 hf fun b1 l6 hf=>U 1 Z (AR.gI 8 52 60 false [2,5,7,9] b1 Z Z (fun h12=>?_) (fun h12=>?_) ?_)
 · replace l6:=jf h12 l6; refine Is 52 h12 Z (U 1 Z (GO Z (AO.aR (i:=3) Z Z Z xK Z Z ?_))); refine B1 l6 fun e2 lH l6=>GO Z (AO.aZ lH Z Z (au.aA _) Z kG (au.aF _) Z (U 2 Z (GO Z (AO.aT (l:=e2.attrs) Z Z Z Z qp Z Z ?_)))); cases l6; exact fZ 2 Z (En [60,2,5,7,9] Z)
 · refine IT 52 h12 l6 Z fun l6=>?_; cases l6; exact fZ 8 Z (En [60,2,5,7,9] Z)
 refine B1 hf fun b2 h16 hf=>U 1 Z (AR.gI 8 61 69 false [2,5,7,9] b2 Z Z (fun rO=>?_) (fun rO=>?_) ?_)
 · replace h16:=jf rO h16; refine Is 61 rO Z (U 1 Z (GO Z (AO.aR (i:=3) Z Z Z xK Z Z ?_))); refine B1 h16 fun e3 xM h16=>GO Z (AO.aZ xM Z Z (au.aA _) Z kG (au.aF _) Z (U 2 Z (GO Z (AO.aT (l:=e3.blocks) Z Z Z Z kG Z (au.aA _) ?_)))); cases h16; exact fZ 2 Z (En [69,2,5,7,9] Z)
 · refine IT 61 rO h16 Z fun h16=>?_; cases h16; exact fZ 8 Z (En [69,2,5,7,9] Z)
 refine U 1 Z (On 3 70 73 [2,7,9] (g1 != 8) Z Z Z Z (U 1 Z (On 3 74 77 [2,9] (hx1 != 9) Z Z Z Z (U 1 Z (On 3 78 81 [2] (ER != 10) Z Z Z Z (J 0 Z (C hf Z (fun h21 hf=>?_) fun h21 hf=>?_)))))))
 · cases hf; exact M 1 Z (Y Z h)
 refine W 3 rfl (AS rfl (AO.bD (List.map bN.cells [(bN.mk ([110]:Str) (aJ.mk 3 []) true (ah.mk 2 false 7 ([]:Str) [] []))]) rfl V6 rfl rfl rfl (by first | rfl | simp only [List.map,bN.aF]) ?_)); obtain ⟨l1,m1,h22,hf⟩:=bM hf; refine U 2 Z (CL Z (EC _ _ h22 ?_)); refine B1 hf fun e4 h23 hf=>Rr 7 [3] Z Z (AS Z (AO.aZ h23 Z Z (au.aA _) Z kG (au.aF _) Z ?_)); refine B1 hf fun e5 MG hf=>U 2 Z (AS Z (AO.aZ MG Z Z Z Z qp (aM.aF _) Z ?_))
 refine B1 hf fun Lb KL hf=>U 2 Z (CL Z (Ij _ KL (U 2 Z (An 3 101 104 [11] (m1 == 0) Z Z Z Z (U 1 Z (AR.and 4 105 109 [11] (x:=((l1.length:Int) == 1)) Z Z (fun h27=>?_) (fun h27=>?_) ?_))))))
 · refine Is 105 h27 Z (U 1 Z (GO Z (AO.aT (l:=l1) Z Z Z Z tF Z Z ?_))); exact fZ 2 Z (En [109,11] Z)
 · refine Is 105 h27 Z ?_; exact fZ 4 Z (En [109,11] Z)
 refine BR hf fun b3 Ko hf=>?_; refine U 1 Z (AR.gI 7 110 117 true [] b3 Z Z (fun KJ=>?_) (fun KJ=>?_) ?_)
 · refine IT 110 KJ Ko Z fun Ko=>?_; refine B1 Ko fun e6 Vv Ko=>U 1 Z (GO Z (AO.aZ Vv Z Z Z Z tF (aB.aF _) Z ?_)); cases Ko; exact fZ 5 Z (En [117] Z)
 · refine IF 110 KJ Ko Z fun Ko=>?_; cases Ko; exact fZ 7 Z (En [117] Z)
 cases hf; exact N 1 Z (Y Z h)
end
section
variable [xJ]
theorem HV (n1:UInt8) {r0:Bool} (hf:oL n1=some r0) (h:Q (.ret (.bool r0)) τ):PC 4 [.int .u8 (n1.toNat:Int)] τ Q:=by
 unfold oL at hf; refine BN 98 [.tmp 2] [0] Tryz.func4 Z Z Z Z Z (W 2 Z (AS Z (AO.aC Z CS (fun b3=>(Rw 2 [0] Z Z (AW.row 4 38 (Rj (fun i1 f1 v1=>[(0,.int .u8 (n1.toNat:Int)),(3,pP b3),(4,iP i1)]) (fun i1 f1 v1=>[.row v1 (au.aK f1.blocks).length 4 38,.box b3 [.own v1 (au.aK f1.blocks)]]) (fun b_ i1 f1 v1=>iE n1 b_ i1 f1=some r0) BIG 0 (bX.mk []) (.slice none 0 0) Z Z hf (fun _ _ _ hz=>bU hz) ?_))))))); intro b_ i1 f1 v1 hf; rw [iE] at hf; refine W 2 Z (AS Z (AO.wo Z Du EO Z Z (J 1 Z (C hf Z (fun h1 hf=>?_) fun h1 hf=>?_))))
 ·
  refine B1 hf fun x1 h2 hf=>W 1 Z (CL Z (Ih _ h2 ?_)); refine B1 hf fun x2 h3 hf=>AS Z (AO.mX h3 Z Z Z (U 1 Z (AS Z (AO.aC Z nK (fun b5=>(Rr 4 [0] Z Z (AS Z (AO.wo Z Du EO Z Z (J 1 Z (C hf Z (fun h4 hf=>?_) fun h4 hf=>?_))))))))))
  ·
   refine B1 hf fun x3 h5 hf=>W 2 Z (CL Z (Ih _ h5 ?_)); refine B1 hf fun x4 h6 hf=>AS rfl (AO.mX h6 rfl rfl rfl (U 1 rfl (AS rfl (AO.bD (au.aK [(au.mk ([117,115,101]:Str) x4 [] [])]) rfl oG rfl rfl rfl (by first | rfl | simp only [List.map,au.aF,au.aK]) ?_))))
   refine Rr 5 [0,2,0] rfl rfl (AS rfl (AO.bD (au.aK [(au.mk ([116,101,109,112,108,97,116,101]:Str) x2 [] [(au.mk ([117,115,101]:Str) x4 [] [])])]) rfl oG rfl rfl rfl (by first | rfl | simp only [List.map,au.aF,au.aK]) ?_)); refine B1 hf fun x5 h7 hf=>AS Z (AO.eB (i:=1) (l:=f1.blocks) (m:=[(au.mk ([116,101,109,112,108,97,116,101]:Str) x2 [] [(au.mk ([117,115,101]:Str) x4 [] [])])]) h7 Z Z Z Z Z Z Z oG kG (au.aA _) (au.aA _) (au.aA _).symm (au.bB) (au.cells_one) (by decide) (fun v2 s1 hs1=>?_))
   cases hs1; refine Rn 5 [2] Z Z (AR.drop1 ?_); exact N 0 Z ⟨(dG (i1 + 1)),(bX.mk x5),v2,Z,Z,Z,hf⟩
  refine B1 hf fun x6 h8 hf=>W 0 rfl (CL rfl (Ou _ h8 (U 1 rfl (AS rfl (AO.bD (List.map aM.cells [(aM.mk ([120]:Str) x6)]) rfl xL rfl rfl rfl (by first | rfl | simp only [List.map,aM.aF]) ?_))))); refine Rr 5 [0,2,0] rfl rfl (AS rfl (AO.bD (au.aK [(au.mk ([116,101,109,112,108,97,116,101]:Str) x2 [(aM.mk ([120]:Str) x6)] [])]) rfl oG rfl rfl rfl (by first | rfl | simp only [List.map,au.aF,au.aK]) ?_)); refine B1 hf fun x7 h9 hf=>?_
  refine AS Z (AO.eB (i:=1) (l:=f1.blocks) (m:=[(au.mk ([116,101,109,112,108,97,116,101]:Str) x2 [(aM.mk ([120]:Str) x6)] [])]) h9 Z Z Z Z Z Z Z oG kG (au.aA _) (au.aA _) (au.aA _).symm (au.bB) (au.cells_one) (by decide) (fun v3 s2 hs2=>?_)); cases hs2; refine Rn 5 [2] Z Z (AR.drop1 ?_); exact N 0 Z ⟨(dG (i1 + 1)),(bX.mk x7),v3,Z,Z,Z,hf⟩
 refine Wr 3 [1] rfl rfl (AS rfl (AO.bD (au.aK [(au.mk ([117,115,101]:Str) ([116,48]:Str) [] [])]) rfl oG rfl rfl rfl (by first | rfl | simp only [List.map,au.aF,au.aK]) ?_)); refine U 1 rfl (AS rfl (AO.bD (au.aK [(au.mk ([106,111,98]:Str) ([]:Str) [] [(au.mk ([117,115,101]:Str) ([116,48]:Str) [] [])])]) rfl oG rfl rfl rfl (by first | rfl | simp only [List.map,au.aF,au.aK]) ?_)); refine B1 hf fun x8 h10 hf=>?_
 refine AS Z (AO.eB (i:=0) (l:=f1.blocks) (m:=[(au.mk ([106,111,98]:Str) ([]:Str) [] [(au.mk ([117,115,101]:Str) ([116,48]:Str) [] [])])]) h10 Z Z Z Z Z Z Z oG kG (au.aA _) (au.aA _) (au.aA _).symm (au.bB) (au.cells_one) (by decide) (fun v4 s3 hs3=>?_)); cases hs3; obtain ⟨x9,e1,h11,hf⟩:=bM hf; refine Rr 3 [1,1] Z Z (CL Z (xE _ _ h11 (U 3 Z (AS Z (AO.aC Z CS (fun b6=>(Rw 4 [0] Z Z (C hf Z (fun h12 hf=>?_) fun h12 hf=>?_))))))))
 ·
  refine BR hf fun b1 lH hf=>?_; refine W 3 Z (AR.gI 2 58 60 true [] b1 Z Z (fun l6=>?_) (fun l6=>?_) ?_)
  · refine IT 58 l6 lH Z fun lH=>?_; refine BR lH fun Kn rO lH=>?_; refine GO Z (AO.call Z _ Z Z Zl (Gj  rO ?_)); cases lH; exact fZ 1 Z (En [60] Z)
  · refine IF 58 l6 lH Z fun lH=>?_; cases lH; exact fZ 2 Z (En [60] Z)
  cases hf; exact N 1 Z (Y Z h)
 refine W 1 Z (AS Z (AO.wo Z Du EO Z Z (J 1 Z (C hf Z (fun h16 hf=>?_) fun h16 hf=>?_))))
 ·
  refine BR hf fun b2 h18 hf=>?_; refine W 3 Z (AR.gI 2 66 68 true [] b2 Z Z (fun xM=>?_) (fun xM=>?_) ?_)
  · refine IT 66 xM h18 Z fun h18=>?_; refine BR h18 fun Lb h19 h18=>?_; refine GO Z (AO.call Z _ Z Z Zl (Gj  h19 ?_)); cases h18; exact fZ 1 Z (En [68] Z)
  · refine IF 66 xM h18 Z fun h18=>?_; cases h18; exact fZ 2 Z (En [68] Z)
  cases hf; exact N 1 Z (Y Z h)
 refine W 3 Z (AR.and 5 71 76 [6] (x:=((x9.blocks.length:Int) == 1)) Z Z (fun h20=>?_) (fun h20=>?_) ?_)
 · refine Is 71 h20 Z (U 1 Z (GO Z (AO.aR (i:=0) Z Z Z xK Z Z (GO Z (AO.aT (l:=x9.blocks) Z Z Z Z kG Z (au.aA _) ?_))))); exact fZ 2 Z (En [76,6] Z)
 · refine Is 71 h20 Z ?_; exact fZ 5 Z (En [76,6] Z)
 refine B1 hf fun b3 h22 hf=>U 1 Z (AR.gI 8 77 85 true [6] b3 Z Z (fun h21=>?_) (fun h21=>?_) ?_)
 · replace h22:=jC h21 h22; refine Is 77 h21 Z (U 1 Z (GO Z (AO.aR (i:=0) Z Z Z xK Z Z ?_))); refine B1 h22 fun e2 h23 h22=>GO Z (AO.aZ h23 Z Z (au.aA _) Z kG (au.aF _) Z (U 2 Z (GO Z (AO.aT (l:=e2.attrs) Z Z Z Z qp Z Z ?_)))); cases h22; exact fZ 2 Z (En [85,6] Z)
 · refine IF 77 h21 h22 Z fun h22=>?_; cases h22; exact fZ 8 Z (En [85,6] Z)
 refine B1 hf fun b4 KL hf=>U 1 Z (AR.gI 8 86 94 true [] b4 Z Z (fun MG=>?_) (fun MG=>?_) ?_)
 · replace KL:=jC MG KL; refine Is 86 MG Z (U 1 Z (GO Z (AO.aR (i:=0) Z Z Z xK Z Z ?_))); refine B1 KL fun e3 PX KL=>GO Z (AO.aZ PX Z Z (au.aA _) Z kG (au.aF _) Z (U 2 Z (GO Z (AO.aT (l:=e3.blocks) Z Z Z Z kG Z (au.aA _) ?_)))); cases KL; exact fZ 2 Z (En [94] Z)
 · refine IF 86 MG KL Z fun KL=>?_; cases KL; exact fZ 8 Z (En [94] Z)
 refine BR hf fun b5 KJ hf=>?_; refine U 1 Z (AR.gI 2 95 97 true [] b5 Z Z (fun h27=>?_) (fun h27=>?_) ?_)
 · refine IT 95 h27 KJ Z fun KJ=>?_; refine BR KJ fun Rl Ko KJ=>?_; refine GO Z (AO.call Z _ Z Z Zl (Gj  Ko ?_)); cases KJ; exact fZ 1 Z (En [97] Z)
 · refine IF 95 h27 KJ Z fun KJ=>?_; cases KJ; exact fZ 2 Z (En [97] Z)
 cases hf; exact N 1 Z (Y Z h)
end
end Go.Proofs.YtcohpegjnpcgcaaGreatDoor
