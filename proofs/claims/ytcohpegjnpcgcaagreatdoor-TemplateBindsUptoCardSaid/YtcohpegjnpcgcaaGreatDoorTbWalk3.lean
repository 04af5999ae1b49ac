/- Proved here: each function does what its functional text says (part 3). -/
import Derived.Test.YtcohpegjnpcgcaaGreatDoorTbWalk2
set_option linter.unusedVariables false
set_option linter.unusedSimpArgs false
set_option linter.unusedSectionVars false
namespace Go.Proofs.YtcohpegjnpcgcaaGreatDoor
open Go Go.Abs Go.Ft
set_option maxRecDepth 20000
attribute [local irreducible] AO AR AW AC
variable [iH]
variable {τ : List bn} {Q : cZ → List bn → Prop}
section
variable [zq]
theorem NN {r0:Bool} (hf:EU=some r0) (h:Q (.ret (.bool r0)) τ):PC 6 [] τ Q:=by
 unfold EU at hf; refine BN 118 [.tmp 0] [] Tryz.func6 Z Z Z Z Z ?_; refine B1 hf fun x1 h1 hf=>W 2 rfl (CL rfl (EB _ h1 (AS rfl (AO.aF rfl iX (fun b1=>(Rr 3 [0,0] rfl rfl (AS rfl (AO.bL (List.map aS.cells [(aS.mk ([110]:Str) x1)]) rfl Ah rfl rfl rfl (by first | rfl | simp only [List.map,aS.aG]) ?_)))))))); refine B1 hf fun x2 h2 hf=>CL Z (Gd _ h2 ?_); obtain ⟨x3,e1,h3,hf⟩:=bP hf; refine CL Z (BX _ _ h3 (U 3 Z (AS Z (AO.aF Z G7 (fun b2=>?_)))))
 refine B1 hf fun x4 h4 hf=>Rr 2 [0] Z Z (CL Z (Gd _ h4 ?_)); obtain ⟨x5,g1,h5,hf⟩:=bP hf; refine CL Z (BX _ _ h5 (U 3 Z (AS Z (AO.aF Z G7 (fun b4=>?_))))); refine B1 hf fun x6 h6 hf=>Rr 2 [0] rfl rfl (CL rfl (QN _ h6 (U 1 rfl (AS rfl (AO.bL (List.map aS.cells [(aS.mk ([110]:Str) x6)]) rfl Ah rfl rfl rfl (by first | rfl | simp only [List.map,aS.aG]) ?_))))); refine B1 hf fun x7 h7 hf=>CL Z (Gd _ h7 ?_); obtain ⟨x8,hx1,h8,hf⟩:=bP hf
 refine CL rfl (BX _ _ h8 (U 3 rfl (AS rfl (AO.aF rfl G7 (fun b6=>(Rr 4 [0,3] rfl rfl (AS rfl (AO.bL (List.map aS.cells [(aS.mk ([109]:Str) x1)]) rfl Ah rfl rfl rfl (by first | rfl | simp only [List.map,aS.aG]) ?_)))))))); refine B1 hf fun x9 h9 hf=>CL Z (Gd _ h9 ?_); obtain ⟨K3,zo,h10,hf⟩:=bP hf
 refine CL Z (BX _ _ h10 (U 3 Z (AS Z (AO.aF Z G7 (fun b8=>(Rr 5 [0] Z Z (AR.or 5 46 51 [2,5,7,9] (x:=((x3.blocks.length:Int) != 1)) Z Z (fun h11=>?_) (fun h11=>?_) ?_)))))))
 · refine Is 46 h11 Z (U 1 Z (GO Z (AO.aY (i:=3) Z Z Z Ct Z Z (GO Z (AO.aM (l:=x3.blocks) Z Z Z Z mM Z (au.aC _) ?_))))); exact fG 2 Z (En [51,2,5,7,9] Z)
 · refine Is 46 h11 Z ?_; exact fG 5 Z (En [51,2,5,7,9] Z)
 refine B1 hf fun b1 lH hf=>U 1 Z (AR.fV 8 52 60 false [2,5,7,9] b1 Z Z (fun h12=>?_) (fun h12=>?_) ?_)
 · replace lH:=iO h12 lH; refine Is 52 h12 Z (U 1 Z (GO Z (AO.aY (i:=3) Z Z Z Ct Z Z ?_))); refine B1 lH fun e2 lV lH=>GO Z (AO.aO lV Z Z (au.aC _) Z mM (au.aG _) Z (U 2 Z (GO Z (AO.aM (l:=e2.attrs) Z Z Z Z sF Z Z ?_)))); cases lH; exact fG 2 Z (En [60,2,5,7,9] Z)
 · refine IT 52 h12 lH Z fun lH=>?_; cases lH; exact fG 8 Z (En [60,2,5,7,9] Z)
 refine B1 hf fun b2 h16 hf=>U 1 Z (AR.fV 8 61 69 false [2,5,7,9] b2 Z Z (fun ru=>?_) (fun ru=>?_) ?_)
 · replace h16:=iO ru h16; refine Is 61 ru Z (U 1 Z (GO Z (AO.aY (i:=3) Z Z Z Ct Z Z ?_))); refine B1 h16 fun e3 xB h16=>GO Z (AO.aO xB Z Z (au.aC _) Z mM (au.aG _) Z (U 2 Z (GO Z (AO.aM (l:=e3.blocks) Z Z Z Z mM Z (au.aC _) ?_)))); cases h16; exact fG 2 Z (En [69,2,5,7,9] Z)
 · refine IT 61 ru h16 Z fun h16=>?_; cases h16; exact fG 8 Z (En [69,2,5,7,9] Z)
 refine U 1 Z (On 3 70 73 [2,7,9] (g1 != 8) Z Z Z Z (U 1 Z (On 3 74 77 [2,9] (hx1 != 9) Z Z Z Z (U 1 Z (On 3 78 81 [2] (zo != 10) Z Z Z Z (J 0 Z (C hf Z (fun h21 hf=>?_) fun h21 hf=>?_)))))))
 · cases hf; exact M 1 Z (Y Z h)
 refine W 3 rfl (AS rfl (AO.bL (List.map aQ.cells [(aQ.mk ([110]:Str) (aD.mk 3 []) true (ah.mk 2 false 7 ([]:Str) [] []))]) rfl ZQ rfl rfl rfl (by first | rfl | simp only [List.map,aQ.aG]) ?_)); obtain ⟨l1,m1,h22,hf⟩:=bP hf; refine U 2 Z (CL Z (Bo _ _ h22 ?_)); refine B1 hf fun e4 h23 hf=>Rr 7 [3] Z Z (AS Z (AO.aO h23 Z Z (au.aC _) Z mM (au.aG _) Z ?_)); refine B1 hf fun e5 Ry hf=>U 2 Z (AS Z (AO.aO Ry Z Z Z Z sF (aS.aG _) Z ?_))
 refine B1 hf fun Nq SC hf=>U 2 Z (CL Z (Ke _ SC (U 2 Z (An 3 101 104 [11] (m1 == 0) Z Z Z Z (U 1 Z (AR.and 4 105 109 [11] (x:=((l1.length:Int) == 1)) Z Z (fun h27=>?_) (fun h27=>?_) ?_))))))
 · refine Is 105 h27 Z (U 1 Z (GO Z (AO.aM (l:=l1) Z Z Z Z lu Z Z ?_))); exact fG 2 Z (En [109,11] Z)
 · refine Is 105 h27 Z ?_; exact fG 4 Z (En [109,11] Z)
 refine BR hf fun b3 ND hf=>?_; refine U 1 Z (AR.fV 7 110 117 true [] b3 Z Z (fun Ux=>?_) (fun Ux=>?_) ?_)
 · refine IT 110 Ux ND Z fun ND=>?_; refine B1 ND fun e6 Zf ND=>U 1 Z (GO Z (AO.aO Zf Z Z Z Z lu (aA.aG _) Z ?_)); cases ND; exact fG 5 Z (En [117] Z)
 · refine IF 110 Ux ND Z fun ND=>?_; cases ND; exact fG 7 Z (En [117] Z)
 cases hf; exact N 1 Z (Y Z h)
end
theorem Xe (ps1:List aQ) (name1:Str) {r0:Int} (hf:Lm ps1 name1=some r0) (h:Q (.ret (iP r0)) τ):PC 24 [.list (List.map aQ.cells ps1),.str name1] τ Q:=by
 unfold Lm at hf; refine BN 20 [.tmp 4] [0,1] Tryz.func24 Z Z Z Z Z (V 2 Z (Gm (fun i1=>[(0,.list (List.map aQ.cells ps1)),(1,.str name1),(5,iP i1)]) (fun i1=>[]) (fun bY i1=>xJ ps1 name1 bY i1=some r0) BIG 0 Z Z hf (fun _ hz=>bT hz) ?_)); intro bY i1 hf; rw [xJ] at hf; refine W 2 Z (AS Z (AO.aM (l:=ps1) Z Z Z Z Bv Z Z (J 1 Z (C hf Z (fun h1 hf=>?_) fun h1 hf=>?_))))
 ·
  refine B1 hf fun e1 h2 hf=>W 2 Z (AS Z (AO.aO h2 Z Z Z Z Bv (aQ.aG _) Z (J 4 Z (C hf Z (fun h3 hf=>?_) fun h3 hf=>?_))))
  · cases hf; exact M 2 Z (Y Z h)
  exact M 3 Z ⟨(dA (i1 + 1)),Z,Z,Z,hf⟩
 cases hf; exact M 1 Z (Y Z h)
theorem NK (args1:List aA) (name1:Str) {r0:ah} {r1:Bool} (hf:Ce args1 name1=some (r0,r1)) (h:Q (.ret (.tuple [.agg (aK r0),.bool r1])) τ):PC 25 [.list (List.map aA.cells args1),.str name1] τ Q:=by
 unfold Ce at hf; refine BN 26 [.cell 4 42,.tmp 5] [0,1] Tryz.func25 Z Z Z Z Z (W 0 Z (AS Z (AO.aF Z gF (fun b4=>(J 2 Z (Gm (fun i1=>[(0,.list (List.map aA.cells args1)),(1,.str name1),(4,pP b4),(6,iP i1)]) (fun i1=>[.box b4 [iP 0,.bool false,iP 0,.str ([]:Str),.own (.slice none 0 0) [],.own (.slice none 0 0) []]]) (fun bY i1=>vk args1 name1 bY i1=some (r0,r1)) BIG 0 Z Z hf (fun _ hz=>bT hz) ?_)))))); intro bY i1 hf; rw [vk] at hf; refine W 2 Z (AS Z (AO.aM (l:=args1) Z Z Z Z lu Z Z (J 1 Z (C hf Z (fun h1 hf=>?_) fun h1 hf=>?_))))
 ·
  refine B1 hf fun e1 h2 hf=>W 2 Z (AS Z (AO.aO h2 Z Z Z Z lu (aA.aG _) Z (J 4 Z (C hf Z (fun h3 hf=>?_) fun h3 hf=>?_))))
  · refine B1 hf fun e2 h4 hf=>W 2 Z (AS Z (AO.aO h4 Z Z Z Z lu (aA.aG _) Z ?_)); cases hf; exact Rx 4 [0] Z Z (ZC [0] Z Z h)
  exact M 3 Z ⟨(dA (i1 + 1)),Z,Z,Z,hf⟩
 cases hf; exact Wx 3 [0] Z Z (ZC [0] Z Z h)
theorem VH (v1:ah) {r0:Bool} (hf:EL v1=some r0) (h:Q (.ret (.bool r0)) τ):PC 56 [.agg (aK v1)] τ Q:=by
 unfold EL at hf; refine BN 53 [.tmp 2] [0] Tryz.func56 Z Z Z Z Z (W 5 Z (An 4 5 9 [1] (v1.kind != 1) Z Z Z Z (U 1 Z (AR.or 9 10 19 [1] (x:=((v1.iC != 0) && (v1.kind != 2))) Z Z (fun h2=>?_) (fun h2=>?_) ?_))))
 · refine Is 10 h2 Z (U 4 Z (An 4 14 18 [1,10] (v1.kind != 2) Z Z Z Z ?_)); exact fG 1 Z (En [19,1] Z)
 · refine Is 10 h2 Z ?_; exact fG 9 Z (En [19,1] Z)
 refine U 1 Z (AR.or 9 20 29 [1] (x:=((!(v1.gW == ([]:Str))) && (v1.kind != 3))) Z Z (fun h4=>?_) (fun h4=>?_) ?_)
 · refine Is 20 h4 Z (U 4 Z (An 4 24 28 [1,20] (v1.kind != 3) Z Z Z Z ?_)); exact fG 1 Z (En [29,1] Z)
 · refine Is 20 h4 Z ?_; exact fG 9 Z (En [29,1] Z)
 refine J 0 Z (C hf Z (fun h6 hf=>?_) fun h6 hf=>?_)
 · cases hf; exact M 1 Z (Y Z h)
 refine W 2 Z (AS Z (AO.aM (l:=v1.bH) Z Z Z Z gK Z (ah.aC _) (U 2 Z (An 4 34 38 [1] (v1.kind != 4) Z Z Z Z (U 1 Z (An 4 39 43 [1] (v1.kind != 5) Z Z Z Z (J 0 Z (C hf Z (fun h9 hf=>?_) fun h9 hf=>?_))))))))
 · cases hf; exact M 1 Z (Y Z h)
 refine W 2 Z (AS Z (AO.aM (l:=v1.keys) Z Z Z Z iY Z Z (U 2 Z (On 4 48 52 [] (v1.kind == 5) Z Z Z Z ?_)))); cases hf; exact N 1 Z (Y Z h)
theorem Y0 (s1:Str) {r0:Bool} (hf:Lv s1=some r0) (h:Q (.ret (.bool r0)) τ):PC 91 [.str s1] τ Q:=by
 unfold Lv at hf; refine BN 11 [.tmp 2] [0] Tryz.func91 Z Z Z Z Z (W 2 Z (AS Z (AO.cK Z Z Z Z dP Z (U 2 Z (AR.and 4 6 10 [] (x:=(decide ((s1.length:Int)≤64))) Z Z (fun h1=>?_) (fun h1=>?_) ?_)))))
 · refine Is 6 h1 Z (U 1 Z (GO Z (AO.cK Z Z Z Z dP Z ?_))); exact fG 2 Z (En [10] Z)
 · refine Is 6 h1 Z ?_; exact fG 4 Z (En [10] Z)
 cases hf; exact N 1 Z (Y Z h)
theorem AA (XY:Bool) (LY:Bool) {r0:Int} (hf:vv XY LY=some r0) (h:Q (.ret (iP r0)) τ):PC 123 [.bool XY,.bool LY] τ Q:=by
 unfold vv at hf; refine BN 7 [.tmp 4] [0,1] Tryz.func123 Z Z Z Z Z (V 2 Z (C hf Z (fun h1 hf=>?_) fun h1 hf=>?_))
 · cases hf; exact M 1 Z (Y Z h)
 refine V 1 Z (C hf Z (fun h2 hf=>?_) fun h2 hf=>?_)
 · cases hf; exact M 1 Z (Y Z h)
 cases hf; exact M 1 Z (Y Z h)
theorem I8 (c1:UInt8) {r0:Bool} (hf:Ci c1=some r0) (h:Q (.ret (.bool r0)) τ):PC 124 [.int .u8 (c1.toNat:Int)] τ Q:=by
 unfold Ci at hf; refine BN 9 [.tmp 2] [0] Tryz.func124 Z Z Z Z Z (W 4 Z (An 3 5 8 [] (decide ((c1.toNat:Int)≤57)) Z Z Z Z ?_)); cases hf; exact N 1 Z (Y Z h)
theorem SL (s1:Str) (jy:Int) {r0:Int} (hf:LA s1 jy=some r0) (h:Q (.ret (iP r0)) τ):PC 125 [.str s1,iP jy] τ Q:=by
 unfold LA at hf; refine BN 18 [.tmp 4] [0,1] Tryz.func125 Z Z Z Z Z (V 1 Z (Gm (fun at2=>[(0,.str s1),(1,iP at2)]) (fun at2=>[]) (fun bY at2=>Cz s1 bY at2=some r0) BIG jy Z Z hf (fun _ hz=>bT hz) ?_)); intro bY at2 hf; rw [Cz] at hf; refine W 2 Z (AS Z (AO.cK Z Z Z Z dP Z ?_)); refine B1 hf fun b1 h2 hf=>U 2 Z (AR.fV 5 9 14 true [0,1] b1 Z Z (fun h1=>?_) (fun h1=>?_) ?_)
 · refine IT 9 h1 h2 Z fun h2=>?_; refine B1 h2 fun x1 h3 h2=>U 2 Z (GO Z (AO.fP h3 Z dP Z Z ?_)); refine BR h2 fun x2 h4 h2=>?_; refine GO Z (AO.call Z _ Z Z aak (I8 _ h4 ?_)); cases h2; exact fG 1 Z (En [14,0,1] Z)
 · refine IF 9 h1 h2 Z fun h2=>?_; cases h2; exact fG 5 Z (En [14,0,1] Z)
 refine J 0 Z (C hf Z (fun h5 hf=>?_) fun h5 hf=>?_)
 · exact M 3 Z ⟨(dA (at2 + 1)),Z,Z,Z,hf⟩
 cases hf; exact M 2 Z (Y Z h)
theorem NM (s1:Str) {r0:Str} (hf:Ch s1=some r0) (h:Q (.ret (.str r0)) τ):PC 157 [.str s1] τ Q:=by
 unfold Ch at hf; refine BN 19 [.tmp 2] [0] Tryz.func157 Z Z Z Z Z (V 2 Z (Gm (fun i1=>[(0,.str s1),(3,iP i1)]) (fun i1=>[]) (fun bY i1=>vo s1 bY i1=some r0) BIG 0 Z Z hf (fun _ hz=>bT hz) ?_)); intro bY i1 hf; rw [vo] at hf; refine W 2 Z (AS Z (AO.cK Z Z Z Z dP Z ?_)); refine B1 hf fun b1 h2 hf=>U 2 Z (AR.fV 5 8 13 true [0,3] b1 Z Z (fun h1=>?_) (fun h1=>?_) ?_)
 · refine IT 8 h1 h2 Z fun h2=>?_; refine B1 h2 fun x1 h3 h2=>U 2 Z (GO Z (AO.fP h3 Z dP Z Z ?_)); cases h2; exact fG 2 Z (En [13,0,3] Z)
 · refine IF 8 h1 h2 Z fun h2=>?_; cases h2; exact fG 5 Z (En [13,0,3] Z)
 refine J 0 Z (C hf Z (fun h4 hf=>?_) fun h4 hf=>?_)
 · exact M 3 Z ⟨(dA (i1 + 1)),Z,Z,Z,hf⟩
 refine BR hf fun x2 h5 hf=>?_; refine W 2 Z (AS Z (AO.oM h5 Z dP Z ⟨_,Z⟩ Z ?_)); cases hf; exact N 1 Z (Y Z h)
theorem Xj (a1:Str) (b1:Str) {r0:Int} (hf:H_ a1 b1=some r0) (h:Q (.ret (iP r0)) τ):PC 126 [.str a1,.str b1] τ Q:=by
 unfold H_ at hf; refine BN 48 [.tmp 4] [0,1] Tryz.func126 Z Z Z Z Z ?_; refine B1 hf fun x1 h1 hf=>W 2 Z (CL Z (NM _ h1 ?_)); refine B1 hf fun y1 h2 hf=>U 1 Z (CL Z (NM _ h2 (U 3 Z (AS Z (AO.cK Z Z Z Z dP Z (U 1 Z (AS Z (AO.cK Z Z Z Z dP Z (J 1 Z (C hf Z (fun h3 hf=>?_) fun h3 hf=>?_))))))))))
 · refine W 1 Z (AS Z (AO.cK Z Z Z Z dP Z (U 1 Z (AS Z (AO.cK Z Z Z Z dP Z (U 2 Z (AS Z (AO.cK Z Z Z Z dP Z (U 1 Z (AS Z (AO.cK Z Z Z Z dP Z ?_))))))))))); refine BR hf fun x2 h4 hf=>?_; refine U 1 Z (CL Z (AA _ _ h4 ?_)); cases hf; exact N 1 Z (Y Z h)
 refine V 3 Z (C hf Z (fun h5 hf=>?_) fun h5 hf=>?_)
 · refine BR hf fun x3 h6 hf=>?_; refine W 6 Z (CL Z (AA _ _ h6 ?_)); cases hf; exact N 1 Z (Y Z h)
 refine W 1 Z (AS Z (AO.cK Z Z Z Z dP Z (U 1 Z (AS Z (AO.cK Z Z Z Z dP Z (U 2 Z (AS Z (AO.cK Z Z Z Z dP Z (U 1 Z (AS Z (AO.cK Z Z Z Z dP Z ?_))))))))))); refine BR hf fun x4 h7 hf=>?_; refine U 1 Z (CL Z (AA _ _ h7 ?_)); cases hf; exact N 1 Z (Y Z h)
theorem RO (a1:Str) (b1:Str) {r0:Int} (hf:uw a1 b1=some r0) (h:Q (.ret (iP r0)) τ):PC 92 [.str a1,.str b1] τ Q:=by
 unfold uw at hf; refine BN 78 [.tmp 4] [0,1] Tryz.func92 Z Z Z Z Z (V 3 Z (Xt (fun i1 zo=>[(0,.str a1),(1,.str b1),(5,iP i1),(6,iP zo)]) (fun i1 zo=>[]) (fun bY i1 zo=>mX a1 b1 bY i1 zo=some r0) BIG 0 0 Z Z hf (fun _ _ hz=>bT hz) ?_)); intro bY i1 zo hf; rw [mX] at hf; refine W 2 Z (AS Z (AO.cK Z Z Z Z dP Z (U 2 Z (AR.and 5 14 19 [0,1,5,6] (x:=(decide (zo < (b1.length:Int)))) Z Z (fun h1=>?_) (fun h1=>?_) ?_))))
 · refine Is 14 h1 Z (U 2 Z (GO Z (AO.cK Z Z Z Z dP Z ?_))); exact fG 2 Z (En [19,0,1,5,6] Z)
 · refine Is 14 h1 Z ?_; exact fG 5 Z (En [19,0,1,5,6] Z)
 refine J 0 Z (C hf Z (fun h2 hf=>?_) fun h2 hf=>?_)
 ·
  refine V 0 Z (AW.draw 16 mixed (by kernel_rfl) Z ?_); refine Ev.cs aX 2 Z ?_; refine B1 hf fun x1 h3 hf=>Ev.cons Z Z Z (AO.fP h3 Z dP Z Z zg) (Ev.cs aX 2 Z ?_); refine B1 hf fun x2 h4 hf=>Ev.cons Z Z Z (AO.fP h4 Z dP Z Z zg) (Ev.cs aX 3 Z ?_); refine B1 hf fun x3 h5 hf=>Ev.cons Z Z Z (AO.fP h5 Z dP Z Z zg) (Ev.cs aX 2 Z ?_); refine B1 hf fun x4 h6 hf=>Ev.cons Z Z Z (AO.fP h6 Z dP Z Z zg) (Ev.cs aX 1 Z ?_); refine B1 hf fun c1 h7 hf=>Ev.cons Z Z Z (AO.call Z _ Z Z adJ (AA _ _ h7 zg)) (Ev.cs aX 1 Z (Ev.nil ?_)); show AR _ _ _ _ _ _ _ _; refine B1 hf fun x5 h8 hf=>U 8 Z (AS Z (AO.fP h8 Z dP Z Z ?_)); refine B1 hf fun x6 h9 hf=>CL Z (I8 _ h9 ?_); refine B1 hf fun b2 h11 hf=>U 1 Z (AR.fV 5 43 48 true [0,1,5,6,7,8,9] b2 Z Z (fun h10=>?_) (fun h10=>?_) ?_)
  · refine IT 43 h10 h11 Z fun h11=>?_; refine B1 h11 fun x7 h12 h11=>U 2 Z (GO Z (AO.fP h12 Z dP Z Z ?_)); refine BR h11 fun x8 lH h11=>?_; refine GO Z (AO.call Z _ Z Z aak (I8 _ lH ?_)); cases h11; exact fG 1 Z (En [48,0,1,5,6,7,8,9] Z)
  · refine IF 43 h10 h11 Z fun h11=>?_; cases h11; exact fG 5 Z (En [48,0,1,5,6,7,8,9] Z)
  refine J 0 Z (C hf Z (fun lV hf=>?_) fun lV hf=>?_)
  ·
   refine B1 hf fun m1 ru hf=>W 2 Z (CL Z (SL _ _ ru ?_)); refine B1 hf fun n1 h16 hf=>U 2 Z (CL Z (SL _ _ h16 (J 2 Z (AW.draw 10 mixed (by kernel_rfl) Z ?_)))); refine Ev.cs aX 3 Z ?_; refine B1 hf fun x9 xB hf=>Ev.cons Z Z Z (AO.oM xB Z dP Z ⟨_,Z⟩ ⟨_,Z⟩ zg) (Ev.cs aX 3 Z ?_); refine B1 hf fun K3 h18 hf=>Ev.cons Z Z Z (AO.oM h18 Z dP Z ⟨_,Z⟩ ⟨_,Z⟩ zg) ?_; refine B1 hf fun c2 h19 hf=>Ev.cons Z Z Z (AO.call Z _ Z Z adI (Xj _ _ h19 zg)) (Ev.cs aX 1 Z (Ev.nil ?_)); show AR _ _ _ _ _ _ _ _; refine J 2 Z (C hf Z (fun h20 hf=>?_) fun h20 hf=>?_)
   · cases hf; exact M 2 Z (Y Z h)
   exact M 4 Z ⟨m1,n1,Z,Z,Z,hf⟩
  refine V 2 Z (C hf Z (fun h21 hf=>?_) fun h21 hf=>?_)
  · cases hf; exact M 2 Z (Y Z h)
  exact M 4 Z ⟨(dA (i1 + 1)),(dA (zo + 1)),Z,Z,Z,hf⟩
 refine W 2 Z (AS Z (AO.cK Z Z Z Z dP Z (U 3 Z (AS Z (AO.cK Z Z Z Z dP Z ?_))))); refine BR hf fun Nq h22 hf=>?_; refine U 1 Z (CL Z (AA _ _ h22 ?_)); cases hf; exact N 1 Z (Y Z h)
theorem OB (v1:ah) {r0:Bool} (hf:wB v1=some r0) (h:Q (.ret (.bool r0)) τ):PC 57 [.agg (aK v1)] τ Q:=by
 unfold wB at hf; refine BN 44 [.tmp 2] [0] Tryz.func57 Z Z Z Z Z (V 3 Z (Gm (fun i1=>[(1,.ref (aK v1)),(3,iP i1)]) (fun i1=>[]) (fun bY i1=>oF v1 bY i1=some r0) BIG 0 Z Z hf (fun _ hz=>bT hz) ?_)); intro bY i1 hf; rw [oF] at hf; refine W 3 Z (AS Z (AO.aM (l:=v1.keys) Z Z Z Z iY Z Z (J 1 Z (C hf Z (fun h1 hf=>?_) fun h1 hf=>?_))))
 ·
  refine V 0 Z (AW.draw 26 mixed (by kernel_rfl) Z ?_); refine Ev.cs aX 3 Z ?_; refine B1 hf fun e1 h2 hf=>Ev.cons Z Z Z (AO.aO h2 Z Z Z Z iY Z Z zg) (Ev.cs aX 1 Z ?_); refine B1 hf fun x1 h3 hf=>Ev.cons Z Z Z (AO.call Z _ Z Z ae9 (Y0 _ h3 zg)) (Ev.cs aX 2 Z ?_); refine B1 hf fun b1 h5 hf=>Ev.fV hKA 18 18 36 false [1,3] (.bool b1) Z Z (fun h4=>?_) (fun h4=>?_) ?_
  ·
   replace h5:=iO h4 h5; refine Ev.is Vo 18 h4 Z (Ev.cs aX 3 Z ?_); refine BR h5 fun b2 h7 h5=>?_; refine Ev.fV Vo 14 21 35 true [1,3,18] (.bool b2) Z Z (fun h6=>?_) (fun h6=>?_) ?_
   ·
    replace h7:=jm h6 h7; refine Ev.is Vo 21 h6 Z (Ev.cs aX 4 Z ?_); refine B1 h7 fun e2 h8 h7=>Ev.run Z Z Z Z Z Z Z (AO.aO h8 Z Z Z Z iY Z Z zg) (Ev.cs aX 4 Z ?_); refine B1 h7 fun e3 h9 h7=>Ev.run Z Z Z Z Z Z Z (AO.aO h9 Z Z Z Z iY Z Z zg) (Ev.cs aX 1 Z ?_); refine B1 h7 fun x2 h10 h7=>Ev.run Z Z Z Z Z Z Z (AO.call Z _ Z Z ae8 (RO _ _ h10 zg)) (Ev.cs aX 1 Z ?_); cases h7; refine Ev.cs aX 1 Z ?_; exact Ev.nil (Less.settle (ps:=[35,1,3,18]) Z)
   · replace h7:=iO h6 h7; refine Ev.is Vo 21 h6 Z ?_; cases h7; refine Ev.cs aX 14 Z ?_; exact Ev.nil (Less.settle (ps:=[35,1,3,18]) Z)
   cases h5; refine Ev.cs aX 1 Z ?_; exact Ev.nil (Less.settle (ps:=[36,1,3]) Z)
  · replace h5:=jm h4 h5; refine Ev.is Vo 18 h4 Z ?_; cases h5; refine Ev.cs aX 18 Z ?_; exact Ev.nil (Less.settle (ps:=[36,1,3]) Z)
  refine Ev.nil ?_; show AR _ _ _ _ _ _ _ _; refine J 0 Z (C hf Z (fun h11 hf=>?_) fun h11 hf=>?_)
  · cases hf; exact M 1 Z (Y Z h)
  exact M 3 Z ⟨(dA (i1 + 1)),Z,Z,Z,hf⟩
 refine W 2 Z (AS Z (AO.aM (l:=v1.keys) Z Z Z Z iY Z Z (U 2 Z (AS Z (AO.aM (l:=v1.bH) Z Z Z Z gK Z (ah.aC _) ?_))))); cases hf; exact N 2 Z (Y Z h)
abbrev NU (mR:ah→Int→Option Int):Prop:=∀ (pO:ah) (eZ:Int) {aP:Int},mR pO eZ=some aP→∀ {τ:List bn} {Q:cZ→List bn→Prop} (h:Q (.ret (iP aP)) τ),PC 30 [.agg (aK pO),iP eZ] τ Q
theorem UJ (mR) (RA:NU mR) (v1:ah) (bU:Int) {r0:Int} (hf:DK mR v1 bU=some r0) (h:Q (.ret (iP r0)) τ):PC 30 [.agg (aK v1),iP bU] τ Q:=by
 unfold DK at hf; refine BN 85 [.tmp 4] [0,1] Tryz.func30 Z Z Z Z Z (V 4 Z (C hf Z (fun h1 hf=>?_) fun h1 hf=>?_))
 · cases hf; exact M 1 Z (Y Z h)
 refine W 4 Z (On 4 12 16 [1,2] (decide (5 < v1.kind)) Z Z Z Z ?_); refine B1 hf fun b1 h4 hf=>U 1 Z (AR.fV 4 17 21 false [1,2] b1 Z Z (fun h3=>?_) (fun h3=>?_) ?_)
 · refine IF 17 h3 h4 Z fun h4=>?_; refine B1 h4 fun x1 h5 h4=>U 1 Z (GO Z (AO.call Z _ Z Z afm (VH _ h5 ?_))); cases h4; exact fG 2 Z (En [21,1,2] Z)
 · refine IT 17 h3 h4 Z fun h4=>?_; cases h4; exact fG 4 Z (En [21,1,2] Z)
 refine J 0 Z (C hf Z (fun h6 hf=>?_) fun h6 hf=>?_)
 · cases hf; exact M 1 Z (Y Z h)
 refine W 4 Z (On 4 25 29 [1,2] (decide (9007199254740992 < v1.iC)) Z Z Z Z (J 0 Z (C hf Z (fun h8 hf=>?_) fun h8 hf=>?_)))
 · cases hf; exact M 1 Z (Y Z h)
 refine W 2 Z (AS Z (AO.cK Z Z Z Z dP Z (U 2 Z (AR.or 5 34 39 [1,2] (x:=(decide (1024 < (v1.bH.length:Int)))) Z Z (fun h9=>?_) (fun h9=>?_) ?_))))
 · refine Is 34 h9 Z (U 2 Z (GO Z (AO.aM (l:=v1.bH) Z Z Z Z gK Z (ah.aC _) ?_))); exact fG 2 Z (En [39,1,2] Z)
 · refine Is 34 h9 Z ?_; exact fG 5 Z (En [39,1,2] Z)
 refine U 1 Z (AR.or 5 40 45 [1,2] (x:=(decide (1024 < (v1.keys.length:Int)))) Z Z (fun h10=>?_) (fun h10=>?_) ?_)
 · refine Is 40 h10 Z (U 2 Z (GO Z (AO.aM (l:=v1.keys) Z Z Z Z iY Z Z ?_))); exact fG 2 Z (En [45,1,2] Z)
 · refine Is 40 h10 Z ?_; exact fG 5 Z (En [45,1,2] Z)
 refine J 0 Z (C hf Z (fun h11 hf=>?_) fun h11 hf=>?_)
 · cases hf; exact M 1 Z (Y Z h)
 refine B1 hf fun b2 lH hf=>W 4 Z (AR.fV 4 49 53 true [1,2] b2 Z Z (fun h12=>?_) (fun h12=>?_) ?_)
 · refine IT 49 h12 lH Z fun lH=>?_; refine B1 lH fun x2 lV lH=>U 1 Z (GO Z (AO.call Z _ Z Z afl (OB _ lV ?_))); cases lH; exact fG 2 Z (En [53,1,2] Z)
 · refine IF 49 h12 lH Z fun lH=>?_; cases lH; exact fG 4 Z (En [53,1,2] Z)
 refine J 0 Z (C hf Z (fun ru hf=>?_) fun ru hf=>?_)
 · cases hf; exact M 1 Z (Y Z h)
 refine W 4 Z (AR.and 5 57 62 [1,2] (x:=((v1.bH.length:Int) == 0)) Z Z (fun h16=>?_) (fun h16=>?_) ?_)
 · refine Is 57 h16 Z (U 2 Z (GO Z (AO.aM (l:=v1.bH) Z Z Z Z gK Z (ah.aC _) ?_))); exact fG 2 Z (En [62,1,2] Z)
 · refine Is 57 h16 Z ?_; exact fG 5 Z (En [62,1,2] Z)
 refine U 1 Z (An 3 63 66 [1,2] (bU == 16) Z Z Z Z (J 0 Z (C hf Z (fun h18 hf=>?_) fun h18 hf=>?_)))
 · cases hf; exact M 1 Z (Y Z h)
 refine V 1 Z (Gm (fun i1=>[(1,iP bU),(2,.ref (aK v1)),(5,iP i1)]) (fun i1=>[]) (fun bY i1=>yx mR v1 bU bY i1=some r0) BIG 0 Z Z hf (fun _ hz=>bT hz) ?_); intro bY i1 hf; rw [yx] at hf; refine W 3 Z (AS Z (AO.aM (l:=v1.bH) Z Z Z Z gK Z (ah.aC _) (J 1 Z (C hf Z (fun h19 hf=>?_) fun h19 hf=>?_))))
 ·
  refine B1 hf fun e1 h20 hf=>W 3 Z (AS Z (AO.aO h20 Z Z (ah.aC _) Z gK (ah.aG _) Z ?_)); refine B1 hf fun e2 h21 hf=>U 3 Z (CL Z (RA _ _ h21 (J 3 Z (C hf Z (fun h22 hf=>?_) fun h22 hf=>?_))))
  · cases hf; exact M 2 Z (Y Z h)
  exact M 3 Z ⟨(dA (i1 + 1)),Z,Z,Z,hf⟩
 cases hf; exact M 1 Z (Y Z h)
theorem Vf :∀ k:Nat,(NU (qc k)):=by
 intro k
 induction k with
 | zero=>exact fun _ _ _ hz=>by first | cases hz | (unfold qc at hz; cases hz)
 | succ k ih=>exact fun pO eZ aP hz τ Q hq=>UJ (qc k) ih pO eZ hz hq
theorem VI (pO:ah) (eZ:Int) {aP:Int} (hf:MN pO eZ=some aP) (h:Q (.ret (iP aP)) τ):PC 30 [.agg (aK pO),iP eZ] τ Q:=
 ((Vf BIG)) pO eZ hf h
theorem VJ (v1:ah) {r0:Int} (hf:EM v1=some r0) (h:Q (.ret (iP r0)) τ):PC 13 [.agg (aK v1)] τ Q:=by
 unfold EM at hf; refine BN 5 [.tmp 2] [0] Tryz.func13 Z Z Z Z Z ?_; refine BR hf fun x1 h1 hf=>?_; refine W 3 Z (CL Z (VI _ _ h1 ?_)); cases hf; exact N 1 Z (Y Z h)
theorem I7 (iZ:Int) {r0:Bool} (hf:sM iZ=some r0) (h:Q (.ret (.bool r0)) τ):PC 73 [iP iZ] τ Q:=by
 unfold sM at hf; refine BN 9 [.tmp 2] [0] Tryz.func73 Z Z Z Z Z (W 4 Z (On 3 5 8 [] (iZ == 6) Z Z Z Z ?_)); cases hf; exact N 1 Z (Y Z h)
abbrev NT (vC:aD→Int→Option Int):Prop:=∀ (Oa:aD) (eZ:Int) {aP:Int},vC Oa eZ=some aP→∀ {τ:List bn} {Q:cZ→List bn→Prop} (h:Q (.ret (iP aP)) τ),PC 72 [.agg (cO Oa),iP eZ] τ Q
theorem UH (vC) (Rz:NT vC) (t1:aD) (bU:Int) {r0:Int} (hf:DJ vC t1 bU=some r0) (h:Q (.ret (iP r0)) τ):PC 72 [.agg (cO t1),iP bU] τ Q:=by
 unfold DJ at hf; refine BN 34 [.tmp 4] [0,1] Tryz.func72 Z Z Z Z Z (V 4 Z (C hf Z (fun h1 hf=>?_) fun h1 hf=>?_))
 · cases hf; exact M 1 Z (Y Z h)
 refine W 4 Z (On 4 10 14 [1,2] (decide (7 < t1.kind)) Z Z Z Z (J 0 Z (C hf Z (fun h3 hf=>?_) fun h3 hf=>?_)))
 · cases hf; exact M 1 Z (Y Z h)
 refine B1 hf fun x1 h4 hf=>W 2 Z (CL Z (I7 _ h4 (J 1 Z (C hf Z (fun h5 hf=>?_) fun h5 hf=>?_))))
 ·
  refine W 2 Z (AS Z (AO.aM (l:=t1.elem) Z Z Z Z CX Z (aD.aC _) (J 1 Z (C hf Z (fun h6 hf=>?_) fun h6 hf=>?_))))
  · cases hf; exact M 1 Z (Y Z h)
  cases hf; exact M 1 Z (Y Z h)
 refine W 2 Z (AS Z (AO.aM (l:=t1.elem) Z Z Z Z CX Z (aD.aC _) (J 1 Z (C hf Z (fun h7 hf=>?_) fun h7 hf=>?_))))
 · cases hf; exact M 1 Z (Y Z h)
 refine B1 hf fun e1 h8 hf=>W 2 Z (AS Z (AO.aO h8 Z Z (aD.aC _) Z CX (aD.aG _) Z ?_)); refine BR hf fun x2 h9 hf=>?_; refine U 3 Z (CL Z (Rz _ _ h9 ?_)); cases hf; exact N 1 Z (Y Z h)
theorem Ve :∀ k:Nat,(NT (uo k)):=by
 intro k
 induction k with
 | zero=>exact fun _ _ _ hz=>by first | cases hz | (unfold uo at hz; cases hz)
 | succ k ih=>exact fun Oa eZ aP hz τ Q hq=>UH (uo k) ih Oa eZ hz hq
theorem VF (Oa:aD) (eZ:Int) {aP:Int} (hf:Sq Oa eZ=some aP) (h:Q (.ret (iP aP)) τ):PC 72 [.agg (cO Oa),iP eZ] τ Q:=
 ((Ve BIG)) Oa eZ hf h
theorem VG (t1:aD) {r0:Int} (hf:Cg t1=some r0) (h:Q (.ret (iP r0)) τ):PC 44 [.agg (cO t1)] τ Q:=by
 unfold Cg at hf; refine BN 5 [.tmp 2] [0] Tryz.func44 Z Z Z Z Z ?_; refine BR hf fun x1 h1 hf=>?_; refine W 3 Z (CL Z (VF _ _ h1 ?_)); cases hf; exact N 1 Z (Y Z h)
theorem xS (iZ:Int) {r0:aD} (hf:oD iZ=some r0) (h:Q (.ret (.agg (cO r0))) τ):PC 74 [iP iZ] τ Q:=by
 unfold oD at hf; refine BN 5 [.cell 2 61] [0] Tryz.func74 Z Z Z Z Z (W 0 Z (AS Z (AO.aF Z Dx (fun b2=>?_)))); cases hf; exact Rx 3 [0] Z Z (ZC [0] Z Z h)
theorem KV (iZ:Int) (t1:aD) {r0:aD} (hf:uq iZ t1=some r0) (h:Q (.ret (.agg (cO r0))) τ):PC 76 [iP iZ,.agg (cO t1)] τ Q:=by
 unfold uq at hf; refine BN 9 [.cell 4 61] [0,1] Tryz.func76 rfl rfl rfl rfl rfl (W 1 rfl (AS rfl (AO.aF rfl Dx (fun b4=>(U 2 rfl (AS rfl (AO.bL (aD.aN [t1]) rfl acp rfl rfl rfl (by first | rfl | simp only [List.map,aD.aG,aD.aN]) ?_))))))); cases hf; exact Rx 2 [0] Z Z (ZC [0] Z Z h)
abbrev Q6 (xQ:aD→aD→Option aD):Prop:=∀ (pQ:aD) (l6:aD) {aP:aD},xQ pQ l6=some aP→∀ {τ:List bn} {Q:cZ→List bn→Prop} (h:Q (.ret (.agg (cO aP))) τ),PC 75 [.agg (cO pQ),.agg (cO l6)] τ Q
theorem Wd (xQ) (TR:Q6 xQ) (a1:aD) (b1:aD) {r0:aD} (hf:xu xQ a1 b1=some r0) (h:Q (.ret (.agg (cO r0))) τ):PC 75 [.agg (cO a1),.agg (cO b1)] τ Q:=by
 unfold xu at hf; refine BN 35 [.cell 4 61] [0,1] Tryz.func75 Z Z Z Z Z (W 2 Z (AS Z (AO.aF Z Dx (fun b4=>(J 3 Z (C hf Z (fun h1 hf=>?_) fun h1 hf=>?_))))))
 · cases hf; exact Wx 2 [0] Z Z (ZC [0] Z Z h)
 refine V 3 Z (C hf Z (fun h2 hf=>?_) fun h2 hf=>?_)
 · cases hf; exact Wx 2 [0] Z Z (ZC [0] Z Z h)
 refine V 5 Z (C hf Z (fun h3 hf=>?_) fun h3 hf=>?_)
 · refine BR hf fun x1 h4 hf=>?_; refine W 0 Z (CL Z (xS _ h4 ?_)); cases hf; exact Rx 1 [0] Z Z (ZC [0] Z Z h)
 refine B1 hf fun x2 h5 hf=>W 2 Z (CL Z (I7 _ h5 (J 0 Z (C hf Z (fun h6 hf=>?_) fun h6 hf=>?_))))
 ·
  refine V 0 Z (AW.draw 12 mixed (by kernel_rfl) Z ?_); refine Ev.cs aX 4 Z ?_; refine B1 hf fun e1 h7 hf=>Ev.cons Z Z Z (AO.aO h7 Z Z (aD.aC _) Z CX (aD.aG _) Z zg) (Ev.cs aX 3 Z ?_); refine B1 hf fun e2 h8 hf=>Ev.cons Z Z Z (AO.aO h8 Z Z (aD.aC _) Z CX (aD.aG _) Z zg) (Ev.cs aX 1 Z ?_); refine B1 hf fun x3 h9 hf=>Ev.cons Z Z Z (AO.call Z _ Z Z acv (TR _ _ h9 zg)) ?_; refine BR hf fun x4 h10 hf=>?_; refine Ev.cons Z Z Z (AO.call Z _ Z Z afg (KV _ _ h10 zg)) (Ev.nil ?_); show AR _ _ _ _ _ _ _ _; cases hf; exact Rx 1 [0] Z Z (ZC [0] Z Z h)
 cases hf; exact Wx 2 [0] Z Z (ZC [0] Z Z h)
theorem WQ :∀ k:Nat,(Q6 (qA k)):=by
 intro k
 induction k with
 | zero=>exact fun _ _ _ hz=>by first | cases hz | (unfold qA at hz; cases hz)
 | succ k ih=>exact fun pQ l6 aP hz τ Q hq=>Wd (qA k) ih pQ l6 hz hq
theorem Xg (pQ:aD) (l6:aD) {aP:aD} (hf:Lu pQ l6=some aP) (h:Q (.ret (.agg (cO aP))) τ):PC 75 [.agg (cO pQ),.agg (cO l6)] τ Q:=
 ((WQ BIG)) pQ l6 hf h
abbrev V3 (sN:ah→Option aD):Prop:=∀ (pO:ah) {aP:aD},sN pO=some aP→∀ {τ:List bn} {Q:cZ→List bn→Prop} (h:Q (.ret (.agg (cO aP))) τ),PC 46 [.agg (aK pO)] τ Q
theorem Zp (sN) (WZ:V3 sN) (v1:ah) {r0:aD} (hf:Ls sN v1=some r0) (h:Q (.ret (.agg (cO r0))) τ):PC 46 [.agg (aK v1)] τ Q:=by
 unfold Ls at hf; refine BN 42 [.cell 2 61] [0] Tryz.func46 Z Z Z Z Z (W 1 Z (AS Z (AO.aF Z Dx (fun b2=>(J 4 Z (C hf Z (fun h1 hf=>?_) fun h1 hf=>?_))))))
 · refine BR hf fun x1 h2 hf=>?_; refine W 0 Z (CL Z (xS _ h2 ?_)); cases hf; exact Rx 1 [0] Z Z (ZC [0] Z Z h)
 refine V 2 Z (C hf Z (fun h3 hf=>?_) fun h3 hf=>?_)
 · refine BR hf fun x2 h4 hf=>?_; refine W 0 Z (CL Z (xS _ h4 ?_)); cases hf; exact Rx 1 [0] Z Z (ZC [0] Z Z h)
 refine V 2 Z (C hf Z (fun h5 hf=>?_) fun h5 hf=>?_)
 · refine BR hf fun x3 h6 hf=>?_; refine W 0 Z (CL Z (xS _ h6 ?_)); cases hf; exact Rx 1 [0] Z Z (ZC [0] Z Z h)
 refine V 2 Z (C hf Z (fun h7 hf=>?_) fun h7 hf=>?_)
 · refine BR hf fun x4 h8 hf=>?_; refine W 0 Z (CL Z (xS _ h8 ?_)); cases hf; exact Rx 1 [0] Z Z (ZC [0] Z Z h)
 refine B1 hf fun x5 h9 hf=>W 0 Z (CL Z (xS _ h9 (AS Z (AO.aF Z Dx (fun b3=>(Rw 2 [0] Z Z (Xt (fun i1 t1=>[(1,.ref (aK v1)),(2,pP b2),(3,pP b3),(4,iP i1)]) (fun i1 t1=>[.box b3 (cO t1),.box b2 [iP 0,.own (.slice none 0 0) []]]) (fun bY i1 t1=>EK sN v1 bY i1 t1=some r0) BIG 0 x5 Z Z hf (fun _ _ hz=>bT hz) ?_))))))); intro bY i1 t1 hf; rw [EK] at hf; refine W 3 Z (AS Z (AO.aM (l:=v1.bH) Z Z Z Z gK Z (ah.aC _) (J 1 Z (C hf Z (fun h10 hf=>?_) fun h10 hf=>?_))))
 ·
  refine V 0 Z (AW.draw 8 mixed (by kernel_rfl) Z ?_); refine Ev.cons Z Z Z (AO.aY (i:=0) Z Z Z ZG Z Z zg) (Ev.cs aX 3 Z ?_); refine B1 hf fun e1 h11 hf=>Ev.cons Z Z Z (AO.aO h11 Z Z (ah.aC _) Z gK (ah.aG _) Z zg) (Ev.cs aX 1 Z ?_); refine B1 hf fun x6 h12 hf=>Ev.cons Z Z Z (AO.call Z _ Z Z acB (WZ _ h12 zg)) ?_; refine B1 hf fun x7 lH hf=>Ev.cons Z Z Z (AO.call Z _ Z Z acv (Xg _ _ lH zg)) (Ev.nil ?_); show AR _ _ _ _ _ _ _ _; exact Rx 4 [0] Z Z ⟨(dA (i1 + 1)),x7,Z,Z,Z,hf⟩
 refine V 3 Z (C hf Z (fun lV hf=>?_) fun lV hf=>?_)
 · refine BR hf fun x8 ru hf=>?_; refine Wr 1 [0] Z Z (CL Z (KV _ _ ru ?_)); cases hf; exact Rx 1 [1] Z Z (ZC [1] Z Z h)
 refine BR hf fun x9 h16 hf=>?_; refine Wr 1 [0] Z Z (CL Z (KV _ _ h16 ?_)); cases hf; exact Rx 1 [1] Z Z (ZC [1] Z Z h)
theorem aaw :∀ k:Nat,(V3 (yw k)):=by
 intro k
 induction k with
 | zero=>exact fun _ _ hz=>by first | cases hz | (unfold yw at hz; cases hz)
 | succ k ih=>exact fun pO aP hz τ Q hq=>Zp (yw k) ih pO hz hq
theorem aaS (pO:ah) {aP:aD} (hf:Wy pO=some aP) (h:Q (.ret (.agg (cO aP))) τ):PC 46 [.agg (aK pO)] τ Q:=
 ((aaw BIG)) pO hf h
abbrev GQ (oH:aD→aD→Option Bool):Prop:=∀ (pQ:aD) (l6:aD) {aP:Bool},oH pQ l6=some aP→∀ {τ:List bn} {Q:cZ→List bn→Prop} (h:Q (.ret (.bool aP)) τ),PC 45 [.agg (cO pQ),.agg (cO l6)] τ Q
theorem N8 (oH) (L6:GQ oH) (a1:aD) (b1:aD) {r0:Bool} (hf:nL oH a1 b1=some r0) (h:Q (.ret (.bool r0)) τ):PC 45 [.agg (cO a1),.agg (cO b1)] τ Q:=by
 unfold nL at hf; refine BN 33 [.tmp 4] [0,1] Tryz.func45 Z Z Z Z Z (W 7 Z (On 4 8 12 [2,3] (b1.kind == 0) Z Z Z Z (J 0 Z (C hf Z (fun h2 hf=>?_) fun h2 hf=>?_))))
 · cases hf; exact M 1 Z (Y Z h)
 refine V 5 Z (C hf Z (fun h3 hf=>?_) fun h3 hf=>?_)
 · cases hf; exact M 1 Z (Y Z h)
 refine V 0 Z (AW.draw 16 mixed (by kernel_rfl) Z ?_); refine Ev.cs aX 2 Z ?_; refine B1 hf fun x1 h4 hf=>Ev.cons Z Z Z (AO.call Z _ Z Z afh (I7 _ h4 zg)) (Ev.cs aX 2 Z ?_); refine BR hf fun b2 h6 hf=>?_; refine Ev.fV hKA 10 22 32 false [] (.bool b2) Z Z (fun h5=>?_) (fun h5=>?_) ?_
 ·
  replace h6:=iO h5 h6; refine Ev.is Vo 22 h5 Z (Ev.cs aX 2 Z ?_); refine B1 h6 fun e1 h7 h6=>Ev.run Z Z Z Z Z Z Z (AO.aO h7 Z Z (aD.aC _) Z CX (aD.aG _) Z zg) (Ev.cs aX 3 Z ?_); refine B1 h6 fun e2 h8 h6=>Ev.run Z Z Z Z Z Z Z (AO.aO h8 Z Z (aD.aC _) Z CX (aD.aG _) Z zg) (Ev.cs aX 1 Z ?_); refine BR h6 fun x2 h9 h6=>?_; refine Ev.run Z Z Z Z Z Z Z (AO.call Z _ Z Z acC (L6 _ _ h9 zg)) ?_; cases h6; refine Ev.cs aX 1 Z ?_; exact Ev.nil (Less.settle (ps:=[32]) Z)
 · replace h6:=jm h5 h6; refine Ev.is Vo 22 h5 Z ?_; cases h6; refine Ev.cs aX 10 Z ?_; exact Ev.nil (Less.settle (ps:=[32]) Z)
 refine Ev.cs aX 1 Z (Ev.nil ?_); show AR _ _ _ _ _ _ _ _; cases hf; exact N 0 Z (Y Z h)
theorem Oj :∀ k:Nat,(GQ (jV k)):=by
 intro k
 induction k with
 | zero=>exact fun _ _ _ hz=>by first | cases hz | (unfold jV at hz; cases hz)
 | succ k ih=>exact fun pQ l6 aP hz τ Q hq=>N8 (jV k) ih pQ l6 hz hq
theorem OA (pQ:aD) (l6:aD) {aP:Bool} (hf:Ee pQ l6=some aP) (h:Q (.ret (.bool aP)) τ):PC 45 [.agg (cO pQ),.agg (cO l6)] τ Q:=
 ((Oj BIG)) pQ l6 hf h
theorem Xh (v1:ah) (t1:aD) {r0:Bool} (hf:H9 v1 t1=some r0) (h:Q (.ret (.bool r0)) τ):PC 26 [.agg (aK v1),.agg (cO t1)] τ Q:=by
 unfold H9 at hf; refine BN 19 [.tmp 4] [0,1] Tryz.func26 Z Z Z Z Z (V 3 Z (AW.draw 15 mixed (by kernel_rfl) Z ?_)); refine Ev.cs aX 1 Z ?_; refine B1 hf fun x1 h1 hf=>Ev.cons Z Z Z (AO.call Z _ Z Z afB (VJ _ h1 zg)) (Ev.cs aX 2 Z ?_); refine B1 hf fun b1 h3 hf=>Ev.fV hKA 4 8 12 true [2,3] (.bool b1) Z Z (fun h2=>?_) (fun h2=>?_) ?_
 · replace h3:=jm h2 h3; refine Ev.is Vo 8 h2 Z (Ev.cs aX 1 Z ?_); refine B1 h3 fun x2 h4 h3=>Ev.run Z Z Z Z Z Z Z (AO.call Z _ Z Z afq (VG _ h4 zg)) (Ev.cs aX 1 Z ?_); cases h3; refine Ev.cs aX 1 Z ?_; exact Ev.nil (Less.settle (ps:=[12,2,3]) Z)
 · replace h3:=iO h2 h3; refine Ev.is Vo 8 h2 Z ?_; cases h3; refine Ev.cs aX 4 Z ?_; exact Ev.nil (Less.settle (ps:=[12,2,3]) Z)
 refine Ev.cs aX 1 Z ?_; refine BR hf fun b2 h6 hf=>?_; refine Ev.fV hKA 5 13 18 true [] (.bool b2) Z Z (fun h5=>?_) (fun h5=>?_) ?_
 · replace h6:=jm h5 h6; refine Ev.is Vo 13 h5 Z (Ev.cs aX 1 Z ?_); refine B1 h6 fun x3 h7 h6=>Ev.run Z Z Z Z Z Z Z (AO.call Z _ Z Z acB (aaS _ h7 zg)) (Ev.cs aX 1 Z ?_); refine BR h6 fun x4 h8 h6=>?_; refine Ev.run Z Z Z Z Z Z Z (AO.call Z _ Z Z acC (OA _ _ h8 zg)) ?_; cases h6; refine Ev.cs aX 1 Z ?_; exact Ev.nil (Less.settle (ps:=[18]) Z)
 · replace h6:=iO h5 h6; refine Ev.is Vo 13 h5 Z ?_; cases h6; refine Ev.cs aX 5 Z ?_; exact Ev.nil (Less.settle (ps:=[18]) Z)
 refine Ev.cs aX 1 Z (Ev.nil ?_); show AR _ _ _ _ _ _ _ _; cases hf; exact N 0 Z (Y Z h)
theorem Xf (ps1:List aQ) (args1:List aA) {r0:List aA} {r1:Int} (hf:Lp ps1 args1=some (r0,r1)) (h:Q (.ret (.tuple [.list (List.map aA.cells r0),iP r1])) τ):PC 8 [.list (List.map aQ.cells ps1),.list (List.map aA.cells args1)] τ Q:=by
 unfold Lp at hf; refine BN 98 [.tmp 4,.tmp 5] [0,1] Tryz.func8 Z Z Z Z Z (W 0 Z (AS Z (AO.dQ Z Z (J 2 Z (Gm (fun i1=>[(0,.list (List.map aQ.cells ps1)),(1,.list (List.map aA.cells args1)),(6,iP i1)]) (fun i1=>[]) (fun bY i1=>xK ps1 args1 bY i1=some (r0,r1)) BIG 0 Z Z hf (fun _ hz=>bT hz) ?_))))); intro bY i1 hf; rw [xK] at hf; refine W 2 Z (AS Z (AO.aM (l:=args1) Z Z Z Z lu Z Z (J 1 Z (C hf Z (fun h1 hf=>?_) fun h1 hf=>?_))))
 ·
  refine B1 hf fun e1 h2 hf=>W 3 Z (AS Z (AO.aO h2 Z Z Z Z lu (aA.aG _) Z ?_)); refine B1 hf fun zo h3 hf=>U 2 Z (CL Z (Xe _ _ h3 (J 3 Z (C hf Z (fun h4 hf=>?_) fun h4 hf=>?_))))
  · refine W 0 Z (AS Z (AO.dQ Z Z ?_)); cases hf; exact N 1 Z (Y Z h)
  refine V 0 Z (AW.SG 0 12 14 [] [] mixed (by kernel_rfl) (by kernel_rfl) (by kernel_rfl) Z Z Z (List.Perm.refl _) ?_); refine Ev.nil ?_; show Ev _ _ _ _ _ _ _; refine Ev.cs aX 2 Z ?_; refine B1 hf fun x1 h5 hf=>Ev.cons Z Z Z (AO.Tv h5 Z lu Z Z Z (aA.bE) Z ⟨_,Z⟩ zg) (Ev.cs aX 2 Z ?_); refine B1 hf fun e2 h6 hf=>Ev.cons Z Z Z (AO.aO h6 Z Z Z Z lu (aA.aG _) Z zg) (Ev.cs aX 2 Z ?_); obtain ⟨x2,ok1,h7,hf⟩:=bP hf; refine Ev.cons Z Z Z (AO.call Z _ Z Z afw (NK _ _ h7 zg)) (Ev.cs aX 3 Z (Ev.nil (TF.step Z Z Z (AO.aF Z gF (fun b8=>?_))))); refine TF.bF Z Z (AO.bR (i:=0) Z Z Z kZ Z Z Z Z Z (TF.nil ?_)); show AR _ _ _ _ _ _ _ _; refine J 2 Z (C hf Z (fun h8 hf=>?_) fun h8 hf=>?_)
  · refine W 0 Z (AS Z (AO.dQ Z Z ?_)); cases hf; exact N 1 Z (Y Z h)
  refine V 0 Z (AW.draw 12 mixed (by kernel_rfl) Z ?_); refine Ev.cs aX 2 Z ?_; refine B1 hf fun e3 h9 hf=>Ev.cons Z Z Z (AO.aO h9 Z Z Z Z lu (aA.aG _) Z zg) (Ev.cs aX 4 Z ?_); refine B1 hf fun e4 h10 hf=>Ev.cons Z Z Z (AO.aO h10 Z Z Z Z Bv (aQ.aG _) Z zg) (Ev.cs aX 2 Z ?_); refine B1 hf fun x3 h11 hf=>Ev.cons Z Z Z (AO.call Z _ Z Z afv (Xh _ _ h11 zg)) (Ev.cs aX 1 Z (Ev.nil ?_)); show AR _ _ _ _ _ _ _ _; refine J 0 Z (C hf Z (fun h12 hf=>?_) fun h12 hf=>?_)
  · refine W 0 Z (AS Z (AO.dQ Z Z ?_)); cases hf; exact N 1 Z (Y Z h)
  refine Wn0 3 Z (AR.drop1 ?_); exact N 0 Z ⟨(dA (i1 + 1)),Z,Z,Z,hf⟩
 refine V 2 Z (AW.row 7 54 (Uu (fun bg v1 i2=>[(0,.list (List.map aQ.cells ps1)),(1,.list (List.map aA.cells args1)),(10,.own v1 (List.map aA.cells bg)),(11,iP i2)]) (fun bg v1 i2=>[.row v1 (List.map aA.cells bg).length 7 54]) (fun ED bg v1 i2=>rE ps1 args1 ED bg i2=some (r0,r1)) BIG [] (.slice none 0 0) 0 Z Z hf (fun _ _ _ hz=>bT hz) ?_)); intro ED bg v1 i2 hf; rw [rE] at hf; refine W 2 Z (AS Z (AO.aM (l:=ps1) Z Z Z Z Bv Z Z (J 1 Z (C hf Z (fun lH hf=>?_) fun lH hf=>?_))))
 ·
  refine B1 hf fun e5 lV hf=>W 3 Z (AS Z (AO.aO lV Z Z Z Z Bv (aQ.aG _) Z ?_)); obtain ⟨x4,ok2,ru,hf⟩:=bP hf; refine U 2 Z (CL Z (NK _ _ ru (U 3 Z (AS Z (AO.aF Z gF (fun b12=>?_)))))); refine B1 hf fun b1 xB hf=>Rr 5 [0] Z Z (AR.fV 7 72 79 true [0,1,10,11,12,13] b1 Z Z (fun h16=>?_) (fun h16=>?_) ?_)
  · refine IT 72 h16 xB Z fun xB=>?_; refine B1 xB fun e6 h18 xB=>U 2 Z (GO Z (AO.aO h18 Z Z Z Z Bv (aQ.aG _) Z ?_)); cases xB; exact fG 4 Z (En [79,0,1,10,11,12,13] Z)
  · refine IF 72 h16 xB Z fun xB=>?_; cases xB; exact fG 7 Z (En [79,0,1,10,11,12,13] Z)
  refine J 0 Z (C hf Z (fun h19 hf=>?_) fun h19 hf=>?_)
  · refine W 0 Z (AS Z (AO.dQ Z Z ?_)); cases hf; exact N 1 Z (Y Z h)
  refine V 2 Z (C hf Z (fun h20 hf=>?_) fun h20 hf=>?_)
  ·
   refine B1 hf fun e7 h21 hf=>W 2 Z (AS Z (AO.aO h21 Z Z Z Z Bv (aQ.aG _) Z (Rw 3 [0] Z Z (AW.draw 9 mixed (by kernel_rfl) Z ?_)))); refine Ev.cs aX 3 Z ?_; refine B1 hf fun e8 h22 hf=>Ev.cons Z Z Z (AO.aO h22 Z Z Z Z Bv (aQ.aG _) Z zg) (Ev.cs aX 2 Z (Ev.cons Z Z Z (AO.aY (i:=0) Z Z Z kZ Z Z zg) (Ev.cons Z Z Z (AO.build Z K4 Tq Z zg) ?_))); refine Ev.cons rfl rfl rfl (AO.bL (List.map aA.cells [(aA.mk e8.name e7.default)]) rfl Ai rfl rfl rfl (by first | rfl | simp only [List.map,aA.aG]) ⟨rfl,rfl⟩) ?_; refine Ev.nil ?_; show AR _ _ _ _ _ _ _ _
   refine B1 hf fun jJ h23 hf=>AS Z (AO.eO (i:=1) (l:=bg) (m:=[(aA.mk e8.name e7.default)]) h23 Z Z Z Z Z Z Z Ai lu Z Z Z (aA.bE) (aA.cells_one) (by decide) (fun v2 s1 hs1=>?_)); cases hs1; refine fG 4 Z (AR.drop1 ?_); exact N 0 Z ⟨jJ,v2,(dA (i2 + 1)),Z,Z,Z,hf⟩
  refine V 0 Z (AW.draw 9 mixed (by kernel_rfl) Z ?_); refine Ev.cs aX 3 Z ?_; refine B1 hf fun e9 Ry hf=>Ev.cons Z Z Z (AO.aO Ry Z Z Z Z Bv (aQ.aG _) Z zg) (Ev.cs aX 2 Z (Ev.cons Z Z Z (AO.aY (i:=0) Z Z Z kZ Z Z zg) (Ev.cons Z Z Z (AO.build Z K4 Tq Z zg) ?_))); refine Ev.cons rfl rfl rfl (AO.bL (List.map aA.cells [(aA.mk e9.name x4)]) rfl Ai rfl rfl rfl (by first | rfl | simp only [List.map,aA.aG]) ⟨rfl,rfl⟩) ?_; refine Ev.nil ?_
  show AR _ _ _ _ _ _ _ _; refine B1 hf fun WH SC hf=>AS Z (AO.eO (i:=1) (l:=bg) (m:=[(aA.mk e9.name x4)]) SC Z Z Z Z Z Z Z Ai lu Z Z Z (aA.bE) (aA.cells_one) (by decide) (fun v3 s2 hs2=>?_)); cases hs2; refine fG 4 Z (AR.drop1 ?_); exact N 0 Z ⟨WH,v3,(dA (i2 + 1)),Z,Z,Z,hf⟩
 cases hf; exact M 3 Z (Y Z h)
abbrev Q7 (kE:ah→ah→Option Bool):Prop:=∀ (pQ:ah) (l6:ah) {aP:Bool},kE pQ l6=some aP→∀ {τ:List bn} {Q:cZ→List bn→Prop} (h:Q (.ret (.bool aP)) τ),PC 27 [.agg (aK pQ),.agg (aK l6)] τ Q
theorem Wh (kE) (TS:Q7 kE) (a1:ah) (b1:ah) {r0:Bool} (hf:Fy kE a1 b1=some r0) (h:Q (.ret (.bool r0)) τ):PC 27 [.agg (aK a1),.agg (aK b1)] τ Q:=by
 unfold Fy at hf; refine BN 88 [.tmp 4] [0,1] Tryz.func27 Z Z Z Z Z (W 9 Z (AR.or 6 12 18 [2,3] (x:=(!(a1.iD == b1.iD))) Z Z (fun h1=>?_) (fun h1=>?_) ?_))
 · refine Is 12 h1 Z (U 4 Z (GO Z (AO.VQ Z acX Z Z ?_))); exact fG 1 Z (En [18,2,3] Z)
 · refine Is 12 h1 Z ?_; exact fG 6 Z (En [18,2,3] Z)
 refine U 1 Z (On 6 19 25 [2,3] (a1.iC != b1.iC) Z Z Z Z (U 1 Z (On 6 26 32 [2,3] (!(a1.gW == b1.gW)) Z Z Z Z (U 1 Z (AR.or 8 33 41 [2,3] (x:=((a1.bH.length:Int) != (b1.bH.length:Int))) Z Z (fun h4=>?_) (fun h4=>?_) ?_)))))
 · refine Is 33 h4 Z (U 2 Z (GO Z (AO.aM (l:=a1.bH) Z Z Z Z gK Z (ah.aC _) (U 2 Z (GO Z (AO.aM (l:=b1.bH) Z Z Z Z gK Z (ah.aC _) ?_)))))); exact fG 2 Z (En [41,2,3] Z)
 · refine Is 33 h4 Z ?_; exact fG 8 Z (En [41,2,3] Z)
 refine U 1 Z (AR.or 8 42 50 [2,3] (x:=((a1.keys.length:Int) != (b1.keys.length:Int))) Z Z (fun h5=>?_) (fun h5=>?_) ?_)
 · refine Is 42 h5 Z (U 2 Z (GO Z (AO.aM (l:=a1.keys) Z Z Z Z iY Z Z (U 2 Z (GO Z (AO.aM (l:=b1.keys) Z Z Z Z iY Z Z ?_)))))); exact fG 2 Z (En [50,2,3] Z)
 · refine Is 42 h5 Z ?_; exact fG 8 Z (En [50,2,3] Z)
 refine J 0 Z (C hf Z (fun h6 hf=>?_) fun h6 hf=>?_)
 · cases hf; exact M 1 Z (Y Z h)
 refine V 1 Z (Gm (fun i1=>[(2,.ref (aK a1)),(3,.ref (aK b1)),(5,iP i1)]) (fun i1=>[]) (fun bY i1=>xL kE a1 b1 bY i1=some r0) BIG 0 Z Z hf (fun _ hz=>bT hz) ?_); intro bY i1 hf; rw [xL] at hf; refine W 3 Z (AS Z (AO.aM (l:=a1.keys) Z Z Z Z iY Z Z (J 1 Z (C hf Z (fun h7 hf=>?_) fun h7 hf=>?_))))
 ·
  refine V 0 Z (AW.draw 11 mixed (by kernel_rfl) Z ?_); refine Ev.cs aX 3 Z ?_; refine B1 hf fun e1 h8 hf=>Ev.cons Z Z Z (AO.aO h8 Z Z Z Z iY Z Z zg) (Ev.cs aX 4 Z ?_); refine B1 hf fun e2 h9 hf=>Ev.cons Z Z Z (AO.aO h9 Z Z Z Z iY Z Z zg) (Ev.cs aX 2 Z (Ev.nil ?_)); show AR _ _ _ _ _ _ _ _; refine J 0 Z (C hf Z (fun h10 hf=>?_) fun h10 hf=>?_)
  · cases hf; exact M 1 Z (Y Z h)
  exact M 3 Z ⟨(dA (i1 + 1)),Z,Z,Z,hf⟩
 refine V 1 Z (Gm (fun i2=>[(2,.ref (aK a1)),(3,.ref (aK b1)),(6,iP i2)]) (fun i2=>[]) (fun ED i2=>oh kE a1 b1 ED i2=some r0) BIG 0 Z Z hf (fun _ hz=>bT hz) ?_); intro ED i2 hf; rw [oh] at hf; refine W 3 Z (AS Z (AO.aM (l:=a1.bH) Z Z Z Z gK Z (ah.aC _) (J 1 Z (C hf Z (fun h11 hf=>?_) fun h11 hf=>?_))))
 ·
  refine V 0 Z (AW.draw 12 mixed (by kernel_rfl) Z ?_); refine Ev.cs aX 3 Z ?_; refine B1 hf fun e3 h12 hf=>Ev.cons Z Z Z (AO.aO h12 Z Z (ah.aC _) Z gK (ah.aG _) Z zg) (Ev.cs aX 4 Z ?_); refine B1 hf fun e4 lH hf=>Ev.cons Z Z Z (AO.aO lH Z Z (ah.aC _) Z gK (ah.aG _) Z zg) (Ev.cs aX 1 Z ?_); refine B1 hf fun x1 lV hf=>Ev.cons Z Z Z (AO.call Z _ Z Z acG (TS _ _ lV zg)) (Ev.cs aX 1 Z (Ev.nil ?_)); show AR _ _ _ _ _ _ _ _; refine J 0 Z (C hf Z (fun ru hf=>?_) fun ru hf=>?_)
  · cases hf; exact M 1 Z (Y Z h)
  exact M 3 Z ⟨(dA (i2 + 1)),Z,Z,Z,hf⟩
 cases hf; exact M 1 Z (Y Z h)
theorem WR :∀ k:Nat,(Q7 (xw k)):=by
 intro k
 induction k with
 | zero=>exact fun _ _ _ hz=>by first | cases hz | (unfold xw at hz; cases hz)
 | succ k ih=>exact fun pQ l6 aP hz τ Q hq=>Wh (xw k) ih pQ l6 hz hq
theorem Xi (pQ:ah) (l6:ah) {aP:Bool} (hf:Lx pQ l6=some aP) (h:Q (.ret (.bool aP)) τ):PC 27 [.agg (aK pQ),.agg (aK l6)] τ Q:=
 ((WR BIG)) pQ l6 hf h
theorem Qx (a1:List aA) (b1:List aA) {r0:Bool} (hf:yA a1 b1=some r0) (h:Q (.ret (.bool r0)) τ):PC 9 [.list (List.map aA.cells a1),.list (List.map aA.cells b1)] τ Q:=by
 unfold yA at hf; refine BN 42 [.tmp 4] [0,1] Tryz.func9 Z Z Z Z Z (W 2 Z (AS Z (AO.aM (l:=a1) Z Z Z Z lu Z Z (U 1 Z (AS Z (AO.aM (l:=b1) Z Z Z Z lu Z Z (J 1 Z (C hf Z (fun h1 hf=>?_) fun h1 hf=>?_))))))))
 · cases hf; exact M 1 Z (Y Z h)
 refine V 1 Z (Gm (fun i1=>[(0,.list (List.map aA.cells a1)),(1,.list (List.map aA.cells b1)),(5,iP i1)]) (fun i1=>[]) (fun bY i1=>pR a1 b1 bY i1=some r0) BIG 0 Z Z hf (fun _ hz=>bT hz) ?_); intro bY i1 hf; rw [pR] at hf; refine W 2 Z (AS Z (AO.aM (l:=a1) Z Z Z Z lu Z Z (J 1 Z (C hf Z (fun h2 hf=>?_) fun h2 hf=>?_))))
 ·
  refine V 0 Z (AW.draw 25 mixed (by kernel_rfl) Z ?_); refine Ev.cs aX 2 Z ?_; refine B1 hf fun e1 h3 hf=>Ev.cons Z Z Z (AO.aO h3 Z Z Z Z lu (aA.aG _) Z zg) (Ev.cs aX 4 Z ?_); refine B1 hf fun e2 h4 hf=>Ev.cons Z Z Z (AO.aO h4 Z Z Z Z lu (aA.aG _) Z zg) (Ev.cs aX 4 Z ?_); refine B1 hf fun b2 h6 hf=>Ev.fV hKA 13 28 41 false [0,1,5] (.bool b2) Z Z (fun h5=>?_) (fun h5=>?_) ?_
  ·
   replace h6:=iO h5 h6; refine Ev.is Vo 28 h5 Z (Ev.cs aX 2 Z ?_); refine B1 h6 fun e3 h7 h6=>Ev.run Z Z Z Z Z Z Z (AO.aO h7 Z Z Z Z lu (aA.aG _) Z zg) (Ev.cs aX 4 Z ?_); refine B1 h6 fun e4 h8 h6=>Ev.run Z Z Z Z Z Z Z (AO.aO h8 Z Z Z Z lu (aA.aG _) Z zg) (Ev.cs aX 2 Z ?_); refine B1 h6 fun x1 h9 h6=>Ev.run Z Z Z Z Z Z Z (AO.call Z _ Z Z acG (Xi _ _ h9 zg)) (Ev.cs aX 1 Z ?_); cases h6; refine Ev.cs aX 1 Z ?_; exact Ev.nil (Less.settle (ps:=[41,0,1,5]) Z)
  · replace h6:=jm h5 h6; refine Ev.is Vo 28 h5 Z ?_; cases h6; refine Ev.cs aX 13 Z ?_; exact Ev.nil (Less.settle (ps:=[41,0,1,5]) Z)
  refine Ev.nil ?_; show AR _ _ _ _ _ _ _ _; refine J 0 Z (C hf Z (fun h10 hf=>?_) fun h10 hf=>?_)
  · cases hf; exact M 1 Z (Y Z h)
  exact M 3 Z ⟨(dA (i1 + 1)),Z,Z,Z,hf⟩
 cases hf; exact M 1 Z (Y Z h)
section
variable [zq]
theorem JZ (ps1:List aQ) (args1:List aA) {r0:Bool} (hf:tF ps1 args1=some r0) (h:Q (.ret (.bool r0)) τ):PC 3 [.list (List.map aQ.cells ps1),.list (List.map aA.cells args1)] τ Q:=by
 unfold tF at hf; refine BN 39 [.tmp 4] [0,1] Tryz.func3 Z Z Z Z Z (W 2 Z (AS Z (AO.aM (l:=ps1) Z Z Z Z Bv Z Z (U 1 Z (AS Z (AO.aM (l:=args1) Z Z Z Z lu Z Z (J 2 Z (C hf Z (fun h1 hf=>?_) fun h1 hf=>?_))))))))
 · refine BR hf fun x1 h2 hf=>?_; refine W 0 Z (CL Z (NN  h2 ?_)); cases hf; exact N 1 Z (Y Z h)
 obtain ⟨l1,e1,h3,hf⟩:=bP hf; refine W 2 Z (CL Z (Bo _ _ h3 ?_)); obtain ⟨m1,f1,h4,hf⟩:=bP hf; refine U 7 Z (CL Z (Xf _ _ h4 ?_)); refine B1 hf fun x2 h5 hf=>U 7 Z (CL Z (Qx _ _ h5 (U 1 Z (An 4 31 35 [] (e1 == f1) Z Z Z Z ?_)))); refine BR hf fun b1 h8 hf=>?_; refine U 1 Z (AR.fV 2 36 38 true [] b1 Z Z (fun h7=>?_) (fun h7=>?_) ?_)
 · refine IT 36 h7 h8 Z fun h8=>?_; refine BR h8 fun x3 h9 h8=>?_; refine GO Z (AO.call Z _ Z Z agI (NN  h9 ?_)); cases h8; exact fG 1 Z (En [38] Z)
 · refine IF 36 h7 h8 Z fun h8=>?_; cases h8; exact fG 2 Z (En [38] Z)
 cases hf; exact N 1 Z (Y Z h)
end
end Go.Proofs.YtcohpegjnpcgcaaGreatDoor
