/- Proved here: each function does what its functional text says (part 2). -/
import Derived.Test.YtpbjbkhfpjckoaaGreatDoorIsWalk1
set_option linter.unusedVariables false
set_option linter.unusedSimpArgs false
set_option linter.unusedSectionVars false
namespace Go.Proofs.YtpbjbkhfpjckoaaGreatDoor
open Go Go.Abs Go.Ft
set_option maxRecDepth 20000
attribute [local irreducible] AO AR AW AC
variable [d9]
variable {τ : List aJ} {Q : cK → List aJ → Prop}
theorem vP (t1:ay) {r0:Int} (hf:jP t1=some r0) (h:Q (.ret (iP r0)) τ):PC 85 [.agg (bS t1)] τ Q:=by
 unfold jP at hf; refine BN 43 [.tmp 2] [0] Tryz.func85 Z Z Z Z Z (W 0 Z (AS Z (AO.P5 Z Z (fun b1=>(J 2 Z (KN (fun bf t2=>[(1,pP b1),(3,iP bf)]) (fun bf t2=>[.box b1 (bS t2)]) (fun bP bf t2=>iw bP bf t2=some r0) BIG 1 t1 Z Z hf (fun _ _ hz=>aU hz) ?_)))))); intro bP bf t2 hf; rw [iw] at hf; refine V 2 Z (C hf Z (fun h1 hf=>?_) fun h1 hf=>?_)
 · cases hf; exact M 1 Z (Y Z h)
 refine B1 hf fun x1 h2 hf=>Wr 2 [0] Z Z (CL Z (JM _ h2 ?_)); refine B1 hf fun b1 h4 hf=>U 2 Z (AR.dx 10 12 22 false [1,3] b1 Z Z (fun h3=>?_) (fun h3=>?_) ?_)
 ·
  replace h4:=jH h3 h4; refine Is 12 h3 Z (U 1 Z (GO Z (AO.bV (i:=0) Z Z Z Dh Z Z ?_))); refine B1 h4 fun x2 h5 h4=>GO Z (AO.call Z _ Z Z Sw (mK _ h5 (U 1 Z (AR.and 5 16 21 [1,3,12] (x:=((t2.elem.length:Int) != 1)) Z Z (fun h6=>?_) (fun h6=>?_) ?_))))
  · refine Is 16 h6 Z (U 1 Z (GO Z (AO.bV (i:=0) Z Z Z Vu Z Z (GO Z (AO.aM (l:=t2.elem) Z Z Z Z KE Z (ay.aC _) ?_))))); exact dB 2 Z (En [21,1,3,12] Z)
  · refine Is 16 h6 Z ?_; exact dB 5 Z (En [21,1,3,12] Z)
  cases h4; exact dB 1 Z (En [22,1,3] Z)
 · refine IT 12 h3 h4 Z fun h4=>?_; cases h4; exact dB 10 Z (En [22,1,3] Z)
 refine B1 hf fun b2 h8 hf=>U 1 Z (AR.dx 11 23 34 false [1,3] b2 Z Z (fun h7=>?_) (fun h7=>?_) ?_)
 ·
  replace h8:=jH h7 h8; refine Is 23 h7 Z (U 1 Z (GO Z (AO.bV (i:=0) Z Z Z Dh Z Z ?_))); refine B1 h8 fun x3 h9 h8=>GO Z (AO.call Z _ Z Z Sw (mK _ h9 (U 2 Z (AR.and 5 28 33 [1,3,23] (x:=((t2.elem.length:Int) != 0)) Z Z (fun h10=>?_) (fun h10=>?_) ?_))))
  · refine Is 28 h10 Z (U 1 Z (GO Z (AO.bV (i:=0) Z Z Z Vu Z Z (GO Z (AO.aM (l:=t2.elem) Z Z Z Z KE Z (ay.aC _) ?_))))); exact dB 2 Z (En [33,1,3,23] Z)
  · refine Is 28 h10 Z ?_; exact dB 5 Z (En [33,1,3,23] Z)
  cases h8; exact dB 1 Z (En [34,1,3] Z)
 · refine IT 23 h7 h8 Z fun h8=>?_; cases h8; exact dB 11 Z (En [34,1,3] Z)
 refine J 0 Z (C hf Z (fun h11 hf=>?_) fun h11 hf=>?_)
 · cases hf; exact M 1 Z (Y Z h)
 refine B1 hf fun x4 h12 hf=>Wr 2 [0] Z Z (CL Z (mK _ h12 (J 1 Z (C hf Z (fun m_ hf=>?_) fun m_ hf=>?_))))
 · cases hf; exact M 1 Z (Y Z h)
 refine B1 hf fun e1 lC hf=>Wr 2 [0] Z Z (AS Z (AO.aK lC Z Z (ay.aC _) Z KE (ay.aF _) Z ?_)); exact Rx 5 [0] Z Z ⟨(bQ (bf + 1)),e1,Z,Z,Z,hf⟩
theorem Fv (dK:List bF) {r0:Int} (hf:BF dK=some r0) (h:Q (.ret (iP r0)) τ):PC 50 [.list (List.map bF.cells dK)] τ Q:=by
 unfold BF at hf; refine BN 39 [.tmp 2] [0] Tryz.func50 Z Z Z Z Z (W 2 Z (AS Z (AO.aM (l:=dK) Z Z Z Z Nn Z Z (J 1 Z (C hf Z (fun h1 hf=>?_) fun h1 hf=>?_)))))
 · cases hf; exact M 1 Z (Y Z h)
 refine W 0 Z (AS Z (AO.Hz Z (fun m10=>(U 2 Z (AS Z (AO.aM (l:=dK) Z Z Z Z Nn Z Z (J 1 Z (KN (fun x1 y1=>[(3,.val (.map (some m10))),(11,.list (List.map bF.cells dK)),(12,iP (dK.length:Int)),(13,iP x1)]) (fun x1 y1=>[.obj m10 (oF y1)]) (fun bP x1 y1=>uJ dK bP x1 y1=some r0) BIG 0 [] Z Z hf (fun _ _ hz=>aU hz) ?_)))))))); intro bP x1 y1 hf; rw [uJ] at hf; refine V 1 Z (C hf Z (fun h2 hf=>?_) fun h2 hf=>?_)
 ·
  refine B1 hf fun e1 h3 hf=>W 0 Z (AS Z (AO.aK h3 Z Z Z Z Nn (bF.aF _) Z (U 1 Z (AS Z (AO.aH Z Vl (fun b5=>?_)))))); refine B1 hf fun x2 h4 hf=>Rr 4 [0,0] Z Z (CL Z (lQ _ h4 (J 1 Z (C hf Z (fun h5 hf=>?_) fun h5 hf=>?_))))
  · cases hf; exact M 1 Z (Y Z h)
  refine B1 hf fun e2 h6 hf=>Wr 2 [0] Z Z (CL Z (vP _ h6 (J 3 Z (C hf Z (fun h7 hf=>?_) fun h7 hf=>?_))))
  · cases hf; exact M 2 Z (Y Z h)
  refine Wr 3 [0] Z Z (AS Z (AO.Br (i:=1) (l:=y1) Z Z Z Z yK bN P9 (U 1 Z (AR.bD Z Z (AO.CO (i:=1) (l:=y1) Z Z Z Z Z yK bN (Rr 3 [0] Z Z (AS Z (AO.Br (i:=1) (l:=(oQ y1 e1.name (bQ ((nX y1 e1.name) + 1)))) Z Z Z Z yK bN P9 (J 1 Z (C hf Z (fun h8 hf=>?_) fun h8 hf=>?_))))))))))
  · cases hf; exact M 1 Z (Y Z h)
  refine Zg 2 Z (AR.drop1 ?_); exact N 0 Z ⟨(bQ (x1 + 1)),(oQ y1 e1.name (bQ ((nX y1 e1.name) + 1))),Z,Z,Z,hf⟩
 cases hf; exact M 1 Z (Y Z h)
theorem gu (gT:Int) {r0:ay} (hf:fU gT=some r0) (h:Q (.ret (.agg (bS r0))) τ):PC 156 [iP gT] τ Q:=by
 unfold fU at hf; refine BN 5 [.cell 2 63] [0] Tryz.func156 Z Z Z Z Z (W 0 Z (AS Z (AO.aH Z tX (fun b2=>?_)))); cases hf; exact Rx 3 [0] Z Z (ZC [0] Z Z h)
abbrev Bf (mI:ay→Option ay):Prop:=∀ (NV:ay) {aL:ay},mI NV=some aL→∀ {τ:List aJ} {Q:cK→List aJ→Prop} (h:Q (.ret (.agg (bS aL))) τ),PC 230 [.agg (bS NV)] τ Q
theorem GD (mI) (QM:Bf mI) (t1:ay) {r0:ay} (hf:u6 mI t1=some r0) (h:Q (.ret (.agg (bS r0))) τ):PC 230 [.agg (bS t1)] τ Q:=by
 unfold u6 at hf; refine BN 18 [.cell 2 63] [0] Tryz.func230 Z Z Z Z Z (W 1 Z (AS Z (AO.aH Z tX (fun b2=>?_)))); refine B1 hf fun x1 h1 hf=>U 2 Z (CL Z (mK _ h1 (J 1 Z (C hf Z (fun h2 hf=>?_) fun h2 hf=>?_))))
 · refine BR hf fun x2 h3 hf=>?_; refine W 2 Z (CL Z (gu _ h3 ?_)); cases hf; exact Rx 1 [0] Z Z (ZC [0] Z Z h)
 exact aU hf
theorem Hu :∀ k:Nat,(Bf (nD k)):=by
 intro k
 induction k with
 | zero=>exact fun _ _ hz=>by first | cases hz | (unfold nD at hz; cases hz)
 | succ k ih=>exact fun NV aL hz τ Q hq=>GD (nD k) ih NV hz hq
theorem AP (NV:ay) {aL:ay} (hf:yu NV=some aL) (h:Q (.ret (.agg (bS aL))) τ):PC 230 [.agg (bS NV)] τ Q:=
 ((Hu BIG)) NV hf h
abbrev Cm (nL:ay→ay→Option ay):Prop:=∀ (FL:ay) (FJ:ay) {aL:ay},nL FL FJ=some aL→∀ {τ:List aJ} {Q:cK→List aJ→Prop} (h:Q (.ret (.agg (bS aL))) τ),PC 157 [.agg (bS FL),.agg (bS FJ)] τ Q
theorem Jl (nL) (Rm:Cm nL) (a1:ay) (b1:ay) {r0:ay} (hf:wZ nL a1 b1=some r0) (h:Q (.ret (.agg (bS r0))) τ):PC 157 [.agg (bS a1),.agg (bS b1)] τ Q:=by
 unfold wZ at hf; refine BN 43 [.cell 4 63] [0,1] Tryz.func157 Z Z Z Z Z (W 2 Z (AS Z (AO.aH Z tX (fun b4=>(J 4 Z (C hf Z (fun h1 hf=>?_) fun h1 hf=>?_))))))
 · refine BR hf fun x1 h2 hf=>?_; refine W 1 Z (CL Z (AP _ h2 ?_)); cases hf; exact Rx 1 [0] Z Z (ZC [0] Z Z h)
 refine V 4 Z (C hf Z (fun h3 hf=>?_) fun h3 hf=>?_)
 · refine BR hf fun x2 h4 hf=>?_; refine W 1 Z (CL Z (AP _ h4 ?_)); cases hf; exact Rx 1 [0] Z Z (ZC [0] Z Z h)
 refine V 6 Z (C hf Z (fun h5 hf=>?_) fun h5 hf=>?_)
 · refine BR hf fun x3 h6 hf=>?_; refine W 0 Z (CL Z (gu _ h6 ?_)); cases hf; exact Rx 1 [0] Z Z (ZC [0] Z Z h)
 refine B1 hf fun x4 h7 hf=>W 2 Z (CL Z (mK _ h7 (J 1 Z (C hf Z (fun h8 hf=>?_) fun h8 hf=>?_))))
 · exact aU hf
 refine BR hf fun x5 h9 hf=>?_; refine W 2 Z (CL Z (gu _ h9 ?_)); cases hf; exact Rx 1 [0] Z Z (ZC [0] Z Z h)
theorem Jv :∀ k:Nat,(Cm (oK k)):=by
 intro k
 induction k with
 | zero=>exact fun _ _ _ hz=>by first | cases hz | (unfold oK at hz; cases hz)
 | succ k ih=>exact fun FL FJ aL hz τ Q hq=>Jl (oK k) ih FL FJ hz hq
theorem Ce (FL:ay) (FJ:ay) {aL:ay} (hf:zR FL FJ=some aL) (h:Q (.ret (.agg (bS aL))) τ):PC 157 [.agg (bS FL),.agg (bS FJ)] τ Q:=
 ((Jv BIG)) FL FJ hf h
abbrev Cn (h_:aj→Option ay):Prop:=∀ (o8:aj) {aL:ay},h_ o8=some aL→∀ {τ:List aJ} {Q:cK→List aJ→Prop} (h:Q (.ret (.agg (bS aL))) τ),PC 224 [.agg (aT o8)] τ Q
theorem Jm (h_) (FW:Cn h_) (v1:aj) {r0:ay} (hf:w9 h_ v1=some r0) (h:Q (.ret (.agg (bS r0))) τ):PC 224 [.agg (aT v1)] τ Q:=by
 unfold w9 at hf; refine BN 40 [.cell 2 63] [0] Tryz.func224 Z Z Z Z Z (W 1 Z (AS Z (AO.aH Z tX (fun b2=>(J 4 Z (C hf Z (fun h1 hf=>?_) fun h1 hf=>?_))))))
 · refine BR hf fun x1 h2 hf=>?_; refine W 0 Z (CL Z (gu _ h2 ?_)); cases hf; exact Rx 1 [0] Z Z (ZC [0] Z Z h)
 refine V 2 Z (C hf Z (fun h3 hf=>?_) fun h3 hf=>?_)
 · refine BR hf fun x2 h4 hf=>?_; refine W 0 Z (CL Z (gu _ h4 ?_)); cases hf; exact Rx 1 [0] Z Z (ZC [0] Z Z h)
 refine V 2 Z (C hf Z (fun h5 hf=>?_) fun h5 hf=>?_)
 · refine BR hf fun x3 h6 hf=>?_; refine W 0 Z (CL Z (gu _ h6 ?_)); cases hf; exact Rx 1 [0] Z Z (ZC [0] Z Z h)
 refine V 2 Z (C hf Z (fun h7 hf=>?_) fun h7 hf=>?_)
 · refine BR hf fun x4 h8 hf=>?_; refine W 0 Z (CL Z (gu _ h8 ?_)); cases hf; exact Rx 1 [0] Z Z (ZC [0] Z Z h)
 refine B1 hf fun x5 h9 hf=>W 0 Z (CL Z (gu _ h9 (AS Z (AO.aH Z tX (fun b3=>(Rr 3 [0] Z Z (AS Z (AO.aM (l:=v1.aW) Z Z Z Z jC Z (aj.aC _) ?_)))))))); refine J 1 Z (KN (fun x6 Io=>[(1,.ref (aT v1)),(2,pP b2),(3,pP b3),(22,.list (aj.bL v1.aW)),(23,iP (v1.aW.length:Int)),(24,iP x6)]) (fun x6 Io=>[.box b3 (bS Io),.box b2 [iP 0,.own (.slice none 0 0) []]]) (fun bP x6 Io=>qm h_ v1 bP x6 Io=some r0) BIG 0 x5 Z Z hf (fun _ _ hz=>aU hz) ?_); intro bP x6 Io hf; rw [qm] at hf; refine V 1 Z (C hf Z (fun h10 hf=>?_) fun h10 hf=>?_)
 ·
  refine B1 hf fun e1 h11 hf=>W 0 Z (AS Z (AO.aK h11 Z Z (aj.aC _) Z jC (aj.aF _) Z (U 1 Z (AS Z (AO.aH Z nA (fun b5=>(Rw 1 [0] Z Z (AW.draw 4 mixed (by kernel_rfl) Z ?_)))))))); refine Ev.cons Z Z Z (AO.bV (i:=1) Z Z Z RL Z Z zg) (Ev.cons Z Z Z (AO.bV (i:=0) Z Z Z xE Z Z zg) ?_); refine B1 hf fun x7 h12 hf=>Ev.cons Z Z Z (AO.call Z _ Z Z WB (FW _ h12 zg)) ?_; refine B1 hf fun x8 m_ hf=>Ev.cons Z Z Z (AO.call Z _ Z Z WS (Ce _ _ m_ zg)) (Ev.nil ?_); show AR _ _ _ _ _ _ _ _; refine Rn 3 [1] Z Z (AR.drop1 ?_); exact N 0 Z ⟨(bQ (x6 + 1)),x8,Z,Z,Z,hf⟩
 refine V 3 Z (C hf Z (fun lC hf=>?_) fun lC hf=>?_)
 · exact aU hf
 exact aU hf
theorem Jw :∀ k:Nat,(Cn (oL k)):=by
 intro k
 induction k with
 | zero=>exact fun _ _ hz=>by first | cases hz | (unfold oL at hz; cases hz)
 | succ k ih=>exact fun o8 aL hz τ Q hq=>Jm (oL k) ih o8 hz hq
theorem JN (o8:aj) {aL:ay} (hf:EZ o8=some aL) (h:Q (.ret (.agg (bS aL))) τ):PC 224 [.agg (aT o8)] τ Q:=
 ((Jw BIG)) o8 hf h
theorem Nw (v1:aj) {r0:ay} (hf:Eb v1=some r0) (h:Q (.ret (.agg (bS r0))) τ):PC 147 [.agg (aT v1)] τ Q:=by
 unfold Eb at hf; refine BN 9 [.cell 2 63] [0] Tryz.func147 Z Z Z Z Z (W 1 Z (AS Z (AO.aH Z tX (fun b2=>?_)))); refine B1 hf fun x1 h1 hf=>U 1 Z (CL Z (mQ _ h1 (J 1 Z (C hf Z (fun h2 hf=>?_) fun h2 hf=>?_))))
 · refine BR hf fun x2 h3 hf=>?_; refine W 0 Z (CL Z (gu _ h3 ?_)); cases hf; exact Rx 1 [0] Z Z (ZC [0] Z Z h)
 refine BR hf fun x3 h4 hf=>?_; refine W 1 Z (CL Z (JN _ h4 ?_)); cases hf; exact Rx 1 [0] Z Z (ZC [0] Z Z h)
theorem ET (dK:List bF) (name1:Str) {r0:ay} {r1:Int} (hf:vO dK name1=some (r0,r1)) (h:Q (.ret (.tuple [.agg (bS r0),iP r1])) τ):PC 148 [.list (List.map bF.cells dK),.str name1] τ Q:=by
 unfold vO at hf; refine BN 22 [.cell 4 63,.tmp 5] [0,1] Tryz.func148 Z Z Z Z Z (W 0 Z (AS Z (AO.aH Z tX (fun b4=>(U 2 Z (AS Z (AO.aM (l:=dK) Z Z Z Z Nn Z Z (J 1 Z (Jh (fun x1=>[(1,.str name1),(4,pP b4),(8,.list (List.map bF.cells dK)),(9,iP (dK.length:Int)),(10,iP x1)]) (fun x1=>[.box b4 [iP 0,.own (.slice none 0 0) []]]) (fun bP x1=>ni dK name1 bP x1=some (r0,r1)) BIG 0 Z Z hf (fun _ hz=>aU hz) ?_))))))))); intro bP x1 hf; rw [ni] at hf; refine V 1 Z (C hf Z (fun h1 hf=>?_) fun h1 hf=>?_)
 ·
  refine B1 hf fun e1 h2 hf=>W 0 Z (AS Z (AO.aK h2 Z Z Z Z Nn (bF.aF _) Z (U 1 Z (AS Z (AO.aH Z Vl (fun b7=>(Rw 5 [0,0] Z Z (C hf Z (fun h3 hf=>?_) fun h3 hf=>?_))))))))
  · cases hf; exact Wx 4 [0,1] Z Z (ZC [1] Z Z h)
  refine Zg 2 Z (AR.drop1 ?_); exact N 0 Z ⟨(bQ (x1 + 1)),Z,Z,Z,hf⟩
 cases hf; exact Wx 3 [0] Z Z (ZC [0] Z Z h)
theorem fQ (gT:Int) {r0:ay} (hf:iR gT=some r0) (h:Q (.ret (.agg (bS r0))) τ):PC 88 [iP gT] τ Q:=by
 unfold iR at hf; refine BN 5 [.cell 2 63] [0] Tryz.func88 Z Z Z Z Z (W 0 Z (AS Z (AO.aH Z tX (fun b2=>?_)))); cases hf; exact Rx 3 [0] Z Z (ZC [0] Z Z h)
theorem jX (gT:Int) (c1:ay) (c2:ay) {r0:Bool} (hf:jD gT c1 c2=some r0) (h:Q (.ret (.bool r0)) τ):PC 226 [iP gT,.ref (bS c1),.ref (bS c2)] τ Q:=by
 unfold jD at hf; refine BN 15 [.tmp 4] [0,1,2] Tryz.func226 Z Z Z Z Z ?_; exact aU hf
theorem gy (t1:ay) {r0:Bool} (hf:gV t1=some r0) (h:Q (.ret (.bool r0)) τ):PC 225 [.agg (bS t1)] τ Q:=by
 unfold gV at hf; refine BN 11 [.tmp 2] [0] Tryz.func225 Z Z Z Z Z (W 6 Z (On 4 6 10 [] (t1.kind == 7) Z Z Z Z ?_)); cases hf; exact N 1 Z (Y Z h)
theorem fT (a1:ay) (b1:ay) (gT:Int) {r0:Bool} (hf:gH a1 b1 gT=some r0) (h:Q (.ret (.bool r0)) τ):PC 227 [.agg (bS a1),.agg (bS b1),iP gT] τ Q:=by
 unfold gH at hf; refine BN 37 [.tmp 6] [0,1,2] Tryz.func227 Z Z Z Z Z ?_; refine B1 hf fun x1 h1 hf=>W 4 Z (CL Z (gy _ h1 (U 1 Z (On 5 9 14 [2,3,4] (a1.kind == gT) Z Z Z Z ?_)))); refine B1 hf fun b2 h4 hf=>U 1 Z (AR.dx 9 15 24 true [2,3,4] b2 Z Z (fun h3=>?_) (fun h3=>?_) ?_)
 · refine IT 15 h3 h4 Z fun h4=>?_; refine B1 h4 fun x2 h5 h4=>U 1 Z (GO Z (AO.call Z _ Z Z Ep (gy _ h5 (U 1 Z (On 5 18 23 [2,3,4,15] (b1.kind == gT) Z Z Z Z ?_))))); cases h4; exact dB 1 Z (En [24,2,3,4] Z)
 · refine IF 15 h3 h4 Z fun h4=>?_; cases h4; exact dB 9 Z (En [24,2,3,4] Z)
 refine U 1 Z (AR.and 11 25 36 [] (x:=((a1.kind == gT) || (b1.kind == gT))) Z Z (fun h7=>?_) (fun h7=>?_) ?_)
 · refine Is 25 h7 Z (U 5 Z (On 5 30 35 [25] (b1.kind == gT) Z Z Z Z ?_)); exact dB 1 Z (En [36] Z)
 · refine Is 25 h7 Z ?_; exact dB 11 Z (En [36] Z)
 cases hf; exact N 1 Z (Y Z h)
theorem JO (a1:ay) (b1:ay) {r0:Bool} (hf:zS a1 b1=some r0) (h:Q (.ret (.bool r0)) τ):PC 155 [.agg (bS a1),.agg (bS b1)] τ Q:=by
 unfold zS at hf; refine BN 13 [.tmp 4] [0,1] Tryz.func155 Z Z Z Z Z ?_; refine B1 hf fun x1 h1 hf=>W 4 Z (CL Z (vP _ h1 ?_)); refine BR hf fun b2 h3 hf=>?_; refine U 2 Z (AR.dx 4 8 12 true [] b2 Z Z (fun h2=>?_) (fun h2=>?_) ?_)
 · refine IT 8 h2 h3 Z fun h3=>?_; refine B1 h3 fun x2 h4 h3=>U 1 Z (GO Z (AO.call Z _ Z Z Yp (vP _ h4 ?_))); cases h3; exact dB 2 Z (En [12] Z)
 · refine IF 8 h2 h3 Z fun h3=>?_; cases h3; exact dB 4 Z (En [12] Z)
 cases hf; exact N 1 Z (Y Z h)
theorem JQ (a1:ay) (b1:ay) {r0:ay} (hf:zT a1 b1=some r0) (h:Q (.ret (.agg (bS r0))) τ):PC 87 [.agg (bS a1),.agg (bS b1)] τ Q:=by
 unfold zT at hf; refine BN 13 [.cell 4 63] [0,1] Tryz.func87 Z Z Z Z Z (W 2 Z (AS Z (AO.aH Z tX (fun b4=>?_)))); refine B1 hf fun x1 h1 hf=>U 2 Z (CL Z (JO _ _ h1 (J 1 Z (C hf Z (fun h2 hf=>?_) fun h2 hf=>?_))))
 · refine BR hf fun x2 h3 hf=>?_; refine W 0 Z (CL Z (gu _ h3 ?_)); cases hf; exact Rx 1 [0] Z Z (ZC [0] Z Z h)
 refine BR hf fun x3 h4 hf=>?_; refine W 2 Z (CL Z (Ce _ _ h4 ?_)); cases hf; exact Rx 1 [0] Z Z (ZC [0] Z Z h)
theorem NM (a1:ay) (b1:ay) {r0:ay} {r1:Int} (hf:EI a1 b1=some (r0,r1)) (h:Q (.ret (.tuple [.agg (bS r0),iP r1])) τ):PC 228 [.agg (bS a1),.agg (bS b1)] τ Q:=by
 unfold EI at hf; refine BN 44 [.cell 4 63,.tmp 5] [0,1] Tryz.func228 Z Z Z Z Z (W 2 Z (AS Z (AO.aH Z tX (fun b4=>?_)))); refine B1 hf fun x1 h1 hf=>U 2 Z (CL Z (gy _ h1 ?_)); refine B1 hf fun b2 h3 hf=>U 1 Z (AR.dx 3 9 12 true [2,3,4] b2 Z Z (fun h2=>?_) (fun h2=>?_) ?_)
 · refine IT 9 h2 h3 Z fun h3=>?_; refine BR h3 fun x2 h4 h3=>?_; refine U 1 Z (GO Z (AO.call Z _ Z Z Ep (gy _ h4 ?_))); cases h3; exact dB 1 Z (En [12,2,3,4] Z)
 · refine IF 9 h2 h3 Z fun h3=>?_; cases h3; exact dB 3 Z (En [12,2,3,4] Z)
 refine J 1 Z (C hf Z (fun h5 hf=>?_) fun h5 hf=>?_)
 ·
  refine W 4 Z (On 4 16 20 [4] (b1.kind == 0) Z Z Z Z (J 0 Z (C hf Z (fun h7 hf=>?_) fun h7 hf=>?_)))
  · refine B1 hf fun x3 h8 hf=>W 0 Z (CL Z (fQ _ h8 ?_)); cases hf; exact Rx 2 [0] Z Z (ZC [0] Z Z h)
  refine B1 hf fun x4 h9 hf=>W 0 Z (CL Z (fQ _ h9 ?_)); cases hf; exact Rx 2 [0] Z Z (ZC [0] Z Z h)
 refine B1 hf fun x5 h10 hf=>W 2 Z (CL Z (fT _ _ _ h10 (J 1 Z (C hf Z (fun h11 hf=>?_) fun h11 hf=>?_))))
 · refine B1 hf fun x6 h12 hf=>W 0 Z (CL Z (fQ _ h12 ?_)); cases hf; exact Rx 2 [0] Z Z (ZC [0] Z Z h)
 refine B1 hf fun x7 m_ hf=>W 2 Z (CL Z (fT _ _ _ m_ (J 1 Z (C hf Z (fun lC hf=>?_) fun lC hf=>?_))))
 · refine B1 hf fun x8 nR hf=>W 0 Z (CL Z (fQ _ nR ?_)); cases hf; exact Rx 2 [0] Z Z (ZC [0] Z Z h)
 refine B1 hf fun x9 h16 hf=>W 2 Z (CL Z (fT _ _ _ h16 (J 1 Z (C hf Z (fun wP hf=>?_) fun wP hf=>?_))))
 · exact aU hf
 cases hf; exact Wx 3 [0] Z Z (ZC [0] Z Z h)
theorem I_ (op1:Str) (a1:ay) (b1:ay) {r0:ay} {r1:Int} (hf:za op1 a1 b1=some (r0,r1)) (h:Q (.ret (.tuple [.agg (bS r0),iP r1])) τ):PC 152 [.str op1,.agg (bS a1),.agg (bS b1)] τ Q:=by
 unfold za at hf; refine BN 59 [.cell 6 63,.tmp 7] [0,1,2] Tryz.func152 Z Z Z Z Z (W 2 Z (AS Z (AO.aH Z tX (fun b6=>(J 6 Z (C hf Z (fun h1 hf=>?_) fun h1 hf=>?_))))))
 ·
  refine V 0 Z (AW.cond Z (fun h2=>?_) (fun h2=>?_))
  ·
   refine B1 hf fun x1 h3 hf=>W 1 Z (CL Z (jX _ _ _ h3 (J 0 Z (C hf Z (fun h4 hf=>?_) fun h4 hf=>?_))))
   · refine B1 hf fun x2 h5 hf=>W 0 Z (CL Z (fQ _ h5 ?_)); cases hf; exact Rx 2 [0] Z Z (ZC [0] Z Z h)
   cases hf; exact Wx 3 [0] Z Z (ZC [0] Z Z h)
  cases h1.symm.trans h2
 refine V 2 Z (C hf Z (fun h6 hf=>?_) fun h6 hf=>?_)
 ·
  refine B1 hf fun x3 h7 hf=>W 1 Z (CL Z (jX _ _ _ h7 (J 0 Z (C hf Z (fun h8 hf=>?_) fun h8 hf=>?_))))
  · refine B1 hf fun x4 h9 hf=>W 0 Z (CL Z (fQ _ h9 ?_)); cases hf; exact Rx 2 [0] Z Z (ZC [0] Z Z h)
  cases hf; exact Wx 3 [0] Z Z (ZC [0] Z Z h)
 refine V 2 Z (C hf Z (fun h10 hf=>?_) fun h10 hf=>?_)
 ·
  refine V 0 Z (AW.cond Z (fun h11=>?_) (fun h11=>?_))
  · refine B1 hf fun x5 h12 hf=>W 0 Z (CL Z (fQ _ h12 ?_)); cases hf; exact Rx 2 [0] Z Z (ZC [0] Z Z h)
  cases h10.symm.trans h11
 refine V 2 Z (C hf Z (fun m_ hf=>?_) fun m_ hf=>?_)
 · refine B1 hf fun x6 lC hf=>W 0 Z (CL Z (fQ _ lC ?_)); cases hf; exact Rx 2 [0] Z Z (ZC [0] Z Z h)
 refine V 2 Z (C hf Z (fun nR hf=>?_) fun nR hf=>?_)
 ·
  refine V 0 Z (AW.cond Z (fun h16=>?_) (fun h16=>?_))
  ·
   refine B1 hf fun x7 wP hf=>W 1 Z (CL Z (gy _ wP ?_)); refine B1 hf fun b2 h19 hf=>U 1 Z (AR.dx 3 28 31 true [4,5,6] b2 Z Z (fun h18=>?_) (fun h18=>?_) ?_)
   · refine IT 28 h18 h19 Z fun h19=>?_; refine BR h19 fun x8 h20 h19=>?_; refine U 1 Z (GO Z (AO.call Z _ Z Z Ep (gy _ h20 ?_))); cases h19; exact dB 1 Z (En [31,4,5,6] Z)
   · refine IF 28 h18 h19 Z fun h19=>?_; cases h19; exact dB 3 Z (En [31,4,5,6] Z)
   refine B1 hf fun b3 h22 hf=>U 1 Z (AR.dx 4 32 36 false [4,5,6] b3 Z Z (fun h21=>?_) (fun h21=>?_) ?_)
   · refine IF 32 h21 h22 Z fun h22=>?_; refine BR h22 fun x9 h23 h22=>?_; refine U 2 Z (GO Z (AO.call Z _ Z Z Ad (fT _ _ _ h23 ?_))); cases h22; exact dB 1 Z (En [36,4,5,6] Z)
   · refine IT 32 h21 h22 Z fun h22=>?_; cases h22; exact dB 4 Z (En [36,4,5,6] Z)
   refine B1 hf fun b4 FV hf=>U 1 Z (AR.dx 4 37 41 false [6] b4 Z Z (fun C_=>?_) (fun C_=>?_) ?_)
   · refine IF 37 C_ FV Z fun FV=>?_; refine BR FV fun NU PE FV=>?_; refine U 2 Z (GO Z (AO.call Z _ Z Z Ad (fT _ _ _ PE ?_))); cases FV; exact dB 1 Z (En [41,6] Z)
   · refine IT 37 C_ FV Z fun FV=>?_; cases FV; exact dB 4 Z (En [41,6] Z)
   refine J 0 Z (C hf Z (fun h27 hf=>?_) fun h27 hf=>?_)
   · refine B1 hf fun Cu Ic hf=>W 0 Z (CL Z (fQ _ Ic ?_)); cases hf; exact Rx 2 [0] Z Z (ZC [0] Z Z h)
   cases hf; exact Wx 3 [0] Z Z (ZC [0] Z Z h)
  cases nR.symm.trans h16
 refine V 2 Z (C hf Z (fun NZ hf=>?_) fun NZ hf=>?_)
 ·
  refine V 0 Z (AW.cond Z (fun OD=>?_) (fun OD=>?_))
  ·
   refine B1 hf fun Qa h31 hf=>W 1 Z (CL Z (gy _ h31 ?_)); refine B1 hf fun b5 Ib hf=>U 1 Z (AR.dx 3 28 31 true [4,5,6] b5 Z Z (fun h32=>?_) (fun h32=>?_) ?_)
   · refine IT 28 h32 Ib Z fun Ib=>?_; refine BR Ib fun N9 JE Ib=>?_; refine U 1 Z (GO Z (AO.call Z _ Z Z Ep (gy _ JE ?_))); cases Ib; exact dB 1 Z (En [31,4,5,6] Z)
   · refine IF 28 h32 Ib Z fun Ib=>?_; cases Ib; exact dB 3 Z (En [31,4,5,6] Z)
   refine B1 hf fun b6 Lj hf=>U 1 Z (AR.dx 4 32 36 false [4,5,6] b6 Z Z (fun NY=>?_) (fun NY=>?_) ?_)
   · refine IF 32 NY Lj Z fun Lj=>?_; refine BR Lj fun Mq h37 Lj=>?_; refine U 2 Z (GO Z (AO.call Z _ Z Z Ad (fT _ _ _ h37 ?_))); cases Lj; exact dB 1 Z (En [36,4,5,6] Z)
   · refine IT 32 NY Lj Z fun Lj=>?_; cases Lj; exact dB 4 Z (En [36,4,5,6] Z)
   refine B1 hf fun b7 Fe hf=>U 1 Z (AR.dx 4 37 41 false [6] b7 Z Z (fun NW=>?_) (fun NW=>?_) ?_)
   · refine IF 37 NW Fe Z fun Fe=>?_; refine BR Fe fun Rf Uj Fe=>?_; refine U 2 Z (GO Z (AO.call Z _ Z Z Ad (fT _ _ _ Uj ?_))); cases Fe; exact dB 1 Z (En [41,6] Z)
   · refine IT 37 NW Fe Z fun Fe=>?_; cases Fe; exact dB 4 Z (En [41,6] Z)
   refine J 0 Z (C hf Z (fun Rl hf=>?_) fun Rl hf=>?_)
   · refine B1 hf fun Kc Ni hf=>W 0 Z (CL Z (fQ _ Ni ?_)); cases hf; exact Rx 2 [0] Z Z (ZC [0] Z Z h)
   cases hf; exact Wx 3 [0] Z Z (ZC [0] Z Z h)
  cases NZ.symm.trans OD
 refine V 2 Z (C hf Z (fun h43 hf=>?_) fun h43 hf=>?_)
 ·
  refine V 0 Z (AW.cond Z (fun QL=>?_) (fun QL=>?_))
  ·
   refine B1 hf fun Mg h45 hf=>W 1 Z (CL Z (gy _ h45 ?_)); refine B1 hf fun b8 h47 hf=>U 1 Z (AR.dx 3 28 31 true [4,5,6] b8 Z Z (fun h46=>?_) (fun h46=>?_) ?_)
   · refine IT 28 h46 h47 Z fun h47=>?_; refine BR h47 fun V7 h48 h47=>?_; refine U 1 Z (GO Z (AO.call Z _ Z Z Ep (gy _ h48 ?_))); cases h47; exact dB 1 Z (En [31,4,5,6] Z)
   · refine IF 28 h46 h47 Z fun h47=>?_; cases h47; exact dB 3 Z (En [31,4,5,6] Z)
   refine B1 hf fun b9 h50 hf=>U 1 Z (AR.dx 4 32 36 false [4,5,6] b9 Z Z (fun Ui=>?_) (fun Ui=>?_) ?_)
   · refine IF 32 Ui h50 Z fun h50=>?_; refine BR h50 fun XW VT h50=>?_; refine U 2 Z (GO Z (AO.call Z _ Z Z Ad (fT _ _ _ VT ?_))); cases h50; exact dB 1 Z (En [36,4,5,6] Z)
   · refine IT 32 Ui h50 Z fun h50=>?_; cases h50; exact dB 4 Z (En [36,4,5,6] Z)
   refine B1 hf fun b10 PD hf=>U 1 Z (AR.dx 4 37 41 false [6] b10 Z Z (fun Uh=>?_) (fun Uh=>?_) ?_)
   · refine IF 37 Uh PD Z fun PD=>?_; refine BR PD fun XV Y3 PD=>?_; refine U 2 Z (GO Z (AO.call Z _ Z Z Ad (fT _ _ _ Y3 ?_))); cases PD; exact dB 1 Z (En [41,6] Z)
   · refine IT 37 Uh PD Z fun PD=>?_; cases PD; exact dB 4 Z (En [41,6] Z)
   refine J 0 Z (C hf Z (fun Y2 hf=>?_) fun Y2 hf=>?_)
   · refine B1 hf fun x21 Y1 hf=>W 0 Z (CL Z (fQ _ Y1 ?_)); cases hf; exact Rx 2 [0] Z Z (ZC [0] Z Z h)
   cases hf; exact Wx 3 [0] Z Z (ZC [0] Z Z h)
  cases h43.symm.trans QL
 refine V 2 Z (C hf Z (fun h57 hf=>?_) fun h57 hf=>?_)
 ·
  refine B1 hf fun Vq Y0 hf=>W 1 Z (CL Z (gy _ Y0 ?_)); refine B1 hf fun b11 Rk hf=>U 1 Z (AR.dx 3 28 31 true [4,5,6] b11 Z Z (fun Xq=>?_) (fun Xq=>?_) ?_)
  · refine IT 28 Xq Rk Z fun Rk=>?_; refine BR Rk fun x23 YZ Rk=>?_; refine U 1 Z (GO Z (AO.call Z _ Z Z Ep (gy _ YZ ?_))); cases Rk; exact dB 1 Z (En [31,4,5,6] Z)
  · refine IF 28 Xq Rk Z fun Rk=>?_; cases Rk; exact dB 3 Z (En [31,4,5,6] Z)
  refine B1 hf fun b12 h63 hf=>U 1 Z (AR.dx 4 32 36 false [4,5,6] b12 Z Z (fun Xp=>?_) (fun Xp=>?_) ?_)
  · refine IF 32 Xp h63 Z fun h63=>?_; refine BR h63 fun x24 h64 h63=>?_; refine U 2 Z (GO Z (AO.call Z _ Z Z Ad (fT _ _ _ h64 ?_))); cases h63; exact dB 1 Z (En [36,4,5,6] Z)
  · refine IT 32 Xp h63 Z fun h63=>?_; cases h63; exact dB 4 Z (En [36,4,5,6] Z)
  refine B1 hf fun b13 VR hf=>U 1 Z (AR.dx 4 37 41 false [6] b13 Z Z (fun Z7=>?_) (fun Z7=>?_) ?_)
  · refine IF 37 Z7 VR Z fun VR=>?_; refine BR VR fun x25 h67 VR=>?_; refine U 2 Z (GO Z (AO.call Z _ Z Z Ad (fT _ _ _ h67 ?_))); cases VR; exact dB 1 Z (En [41,6] Z)
  · refine IT 37 Z7 VR Z fun VR=>?_; cases VR; exact dB 4 Z (En [41,6] Z)
  refine J 0 Z (C hf Z (fun h68 hf=>?_) fun h68 hf=>?_)
  · refine B1 hf fun Vp h69 hf=>W 0 Z (CL Z (fQ _ h69 ?_)); cases hf; exact Rx 2 [0] Z Z (ZC [0] Z Z h)
  cases hf; exact Wx 3 [0] Z Z (ZC [0] Z Z h)
 refine V 2 Z (C hf Z (fun h70 hf=>?_) fun h70 hf=>?_)
 ·
  refine V 0 Z (AW.cond Z (fun h71=>?_) (fun h71=>?_))
  ·
   refine B1 hf fun x27 h72 hf=>W 1 Z (CL Z (jX _ _ _ h72 (J 0 Z (C hf Z (fun h73 hf=>?_) fun h73 hf=>?_))))
   · refine B1 hf fun x28 h74 hf=>W 0 Z (CL Z (fQ _ h74 ?_)); cases hf; exact Rx 2 [0] Z Z (ZC [0] Z Z h)
   cases hf; exact Wx 3 [0] Z Z (ZC [0] Z Z h)
  cases h70.symm.trans h71
 refine V 2 Z (C hf Z (fun h75 hf=>?_) fun h75 hf=>?_)
 ·
  refine V 0 Z (AW.cond Z (fun h76=>?_) (fun h76=>?_))
  ·
   refine B1 hf fun x29 h77 hf=>W 1 Z (CL Z (jX _ _ _ h77 (J 0 Z (C hf Z (fun h78 hf=>?_) fun h78 hf=>?_))))
   · refine B1 hf fun Vo h79 hf=>W 0 Z (CL Z (fQ _ h79 ?_)); cases hf; exact Rx 2 [0] Z Z (ZC [0] Z Z h)
   cases hf; exact Wx 3 [0] Z Z (ZC [0] Z Z h)
  cases h75.symm.trans h76
 refine V 2 Z (C hf Z (fun h80 hf=>?_) fun h80 hf=>?_)
 ·
  refine V 0 Z (AW.cond Z (fun h81=>?_) (fun h81=>?_))
  ·
   refine B1 hf fun x31 h82 hf=>W 1 Z (CL Z (jX _ _ _ h82 (J 0 Z (C hf Z (fun h83 hf=>?_) fun h83 hf=>?_))))
   · refine B1 hf fun x32 h84 hf=>W 0 Z (CL Z (fQ _ h84 ?_)); cases hf; exact Rx 2 [0] Z Z (ZC [0] Z Z h)
   cases hf; exact Wx 3 [0] Z Z (ZC [0] Z Z h)
  cases h80.symm.trans h81
 refine V 2 Z (C hf Z (fun h85 hf=>?_) fun h85 hf=>?_)
 ·
  refine B1 hf fun Vn h86 hf=>W 1 Z (CL Z (jX _ _ _ h86 (J 0 Z (C hf Z (fun h87 hf=>?_) fun h87 hf=>?_))))
  · refine B1 hf fun x34 h88 hf=>W 0 Z (CL Z (fQ _ h88 ?_)); cases hf; exact Rx 2 [0] Z Z (ZC [0] Z Z h)
  cases hf; exact Wx 3 [0] Z Z (ZC [0] Z Z h)
 refine V 2 Z (C hf Z (fun h89 hf=>?_) fun h89 hf=>?_)
 · replace hf:=(BJ _).trans hf; obtain ⟨XU,XT,h90,hf⟩:=cu hf; refine W 2 Z (CL Z (NM _ _ h90 ?_)); cases hf; exact Rx 4 [0] Z Z (ZC [0] Z Z h)
 cases hf; exact Wx 3 [0] Z Z (ZC [0] Z Z h)
abbrev zn (eP:ah→List bF→Option (ay × Int)):Prop:=∀ (eD:ah) (mD:List bF) {aL:ay} {rO:Int},eP eD mD=some (aL,rO)→∀ {τ:List aJ} {Q:cK→List aJ→Prop} (h:Q (.ret (.tuple [.agg (bS aL),iP rO])) τ),PC 86 [.agg (aQ eD),.list (List.map bF.cells mD)] τ Q
abbrev Bj (jo:List ah→List bF→Option (List ay × Int)):Prop:=∀ (Rh:List ah) (mD:List bF) {aL:List ay} {rO:Int},jo Rh mD=some (aL,rO)→∀ {τ:List aJ} {Q:cK→List aJ→Prop} (h:Q (.ret (.tuple [.list (ay.bL aL),iP rO])) τ),PC 146 [.list (ah.bL Rh),.list (List.map bF.cells mD)] τ Q
theorem KT (eP) (Ar:zn eP) (jo) (Cc:Bj jo) (e1:ah) (dK:List bF) {r0:ay} {r1:Int} (hf:yZ eP jo e1 dK=some (r0,r1)) (h:Q (.ret (.tuple [.agg (bS r0),iP r1])) τ):PC 86 [.agg (aQ e1),.list (List.map bF.cells dK)] τ Q:=by
 unfold yZ at hf; refine BN 110 [.cell 4 63,.tmp 5] [0,1] Tryz.func86 Z Z Z Z Z (W 1 Z (AS Z (AO.aH Z tX (fun b4=>(J 4 Z (C hf Z (fun h1 hf=>?_) fun h1 hf=>?_))))))
 · exact aU hf
 obtain ⟨Ec,f1,h2,hf⟩:=cu hf; refine W 3 Z (CL Z (Cc _ _ h2 (J 7 Z (C hf Z (fun h3 hf=>?_) fun h3 hf=>?_))))
 · cases hf; exact Wx 4 [0] Z Z (ZC [0] Z Z h)
 refine V 4 Z (C hf Z (fun h4 hf=>?_) fun h4 hf=>?_)
 · refine B1 hf fun x1 h5 hf=>W 2 Z (CL Z (Nw _ h5 ?_)); cases hf; exact Rx 2 [0] Z Z (ZC [0] Z Z h)
 refine V 2 Z (C hf Z (fun h6 hf=>?_) fun h6 hf=>?_)
 · replace hf:=(BJ _).trans hf; obtain ⟨x2,x3,h7,hf⟩:=cu hf; refine W 3 Z (CL Z (ET _ _ h7 ?_)); cases hf; exact Rx 4 [0] Z Z (ZC [0] Z Z h)
 refine V 2 Z (C hf Z (fun h8 hf=>?_) fun h8 hf=>?_)
 · exact aU hf
 refine V 2 Z (C hf Z (fun h9 hf=>?_) fun h9 hf=>?_)
 · exact aU hf
 refine V 2 Z (C hf Z (fun h10 hf=>?_) fun h10 hf=>?_)
 · exact aU hf
 refine V 2 Z (C hf Z (fun h11 hf=>?_) fun h11 hf=>?_)
 ·
  refine V 0 Z (AW.draw 11 mixed (by kernel_rfl) Z ?_); refine Ev.cs aR 3 Z ?_; refine B1 hf fun e2 h12 hf=>Ev.cons Z Z Z (AO.aK h12 Z Z (ay.aC _) Z KE (ay.aF _) Z zg) (Ev.cs aR 2 Z ?_); refine B1 hf fun e3 m_ hf=>Ev.cons Z Z Z (AO.aK m_ Z Z (ay.aC _) Z KE (ay.aF _) Z zg) (Ev.cs aR 1 Z ?_); replace hf:=(BJ _).trans hf; obtain ⟨x4,x5,lC,hf⟩:=cu hf; refine Ev.cons Z Z Z (AO.call Z _ Z Z WT (I_ _ _ _ lC zg)) (Ev.cs aR 2 Z (Ev.nil ?_)); show AR _ _ _ _ _ _ _ _; cases hf; exact Rx 2 [0] Z Z (ZC [0] Z Z h)
 refine V 2 Z (C hf Z (fun nR hf=>?_) fun nR hf=>?_)
 · exact aU hf
 refine V 2 Z (C hf Z (fun h16 hf=>?_) fun h16 hf=>?_)
 · exact aU hf
 exact aU hf
theorem Mv (eP) (Ar:zn eP) (jo) (Cc:Bj jo) (l1:List ah) (dK:List bF) {r0:List ay} {r1:Int} (hf:AJ eP jo l1 dK=some (r0,r1)) (h:Q (.ret (.tuple [.list (ay.bL r0),iP r1])) τ):PC 146 [.list (ah.bL l1),.list (List.map bF.cells dK)] τ Q:=by
 unfold AJ at hf; refine BN 32 [.tmp 4,.tmp 5] [0,1] Tryz.func146 Z Z Z Z Z (W 0 Z (AS Z (AO.jy Z Z (U 3 Z (AS Z (AO.aM (l:=l1) Z Z Z Z dQ Z (ah.aC _) (J 1 Z (AW.row 2 63 (V3 (fun dw v1 x1=>[(1,.list (List.map bF.cells dK)),(6,.own v1 (ay.bL dw)),(11,.list (ah.bL l1)),(12,iP (l1.length:Int)),(13,iP x1)]) (fun dw v1 x1=>[.row v1 (ay.bL dw).length 2 63]) (fun bP dw v1 x1=>uI eP l1 dK bP dw x1=some (r0,r1)) BIG [] (.slice none 0 0) 0 Z Z hf (fun _ _ _ hz=>aU hz) ?_))))))))); intro bP dw v1 x1 hf; rw [uI] at hf; refine V 1 Z (C hf Z (fun h1 hf=>?_) fun h1 hf=>?_)
 ·
  refine B1 hf fun e1 h2 hf=>W 0 Z (AS Z (AO.aK h2 Z Z (ah.aC _) Z dQ (ah.aF _) Z (U 1 Z (AS Z (AO.aH Z j_ (fun b8=>?_)))))); obtain ⟨x2,f1,h3,hf⟩:=cu hf; refine Rr 3 [0,0] Z Z (CL Z (Ar _ _ h3 (U 3 Z (AS Z (AO.aH Z tX (fun b9=>(Rw 4 [0] Z Z (C hf Z (fun h4 hf=>?_) fun h4 hf=>?_))))))))
  · refine W 1 Z (AS Z (AO.jy Z Z ?_)); cases hf; exact N 1 Z (Y Z h)
  refine Wr 2 [0] rfl rfl (AS rfl (AO.bn (ay.bL [x2]) rfl Vz rfl rfl rfl (by first | rfl | simp only [List.map,ay.aF,ay.bL]) ?_)); refine B1 hf fun yG h5 hf=>AS Z (AO.mg (i:=2) (l:=dw) (m:=[x2]) h5 Z Z Z Z Z Z Z Vz KE (ay.aC _) (ay.aC _) (ay.aC _).symm (ay.gI) (ay.cells_one) (by decide) (fun v2 s1 hs1=>?_)); cases hs1; refine dB 3 Z (AR.drop1 (AR.drop1 ?_)); exact N 0 Z ⟨yG,v2,(bQ (x1 + 1)),Z,Z,Z,hf⟩
 cases hf; exact M 3 Z (Y Z h)
theorem Dy :∀ k:Nat,(zn (l9 k))∧(Bj (nP k)):=by
 intro k
 induction k with
 | zero=>exact ⟨fun _ _ _ _ hz=>by first | cases hz | (unfold l9 at hz; cases hz),fun _ _ _ _ hz=>by first | cases hz | (unfold nP at hz; cases hz)⟩
 | succ k ih=>exact ⟨fun eD mD aL rO hz τ Q hq=>KT (l9 k) ih.1 (nP k) ih.2 eD mD hz hq,fun Rh mD aL rO hz τ Q hq=>Mv (l9 k) ih.1 (nP k) ih.2 Rh mD hz hq⟩
theorem L9 (eD:ah) (mD:List bF) {aL:ay} {rO:Int} (hf:Iw eD mD=some (aL,rO)) (h:Q (.ret (.tuple [.agg (bS aL),iP rO])) τ):PC 86 [.agg (aQ eD),.list (List.map bF.cells mD)] τ Q:=
 ((Dy BIG).1) eD mD hf h
theorem VZ (Rh:List ah) (mD:List bF) {aL:List ay} {rO:Int} (hf:Q0 Rh mD=some (aL,rO)) (h:Q (.ret (.tuple [.list (ay.bL aL),iP rO])) τ):PC 146 [.list (ah.bL Rh),.list (List.map bF.cells mD)] τ Q:=
 ((Dy BIG).2) Rh mD hf h
theorem L_ (e1:ah) (dK:List bF) {r0:ay} {r1:Int} (hf:CY e1 dK=some (r0,r1)) (h:Q (.ret (.tuple [.agg (bS r0),iP r1])) τ):PC 51 [.agg (aQ e1),.list (List.map bF.cells dK)] τ Q:=by
 unfold CY at hf; refine BN 35 [.cell 4 63,.tmp 5] [0,1] Tryz.func51 Z Z Z Z Z (W 1 Z (AS Z (AO.aH Z tX (fun b4=>?_)))); refine B1 hf fun f1 h1 hf=>U 2 Z (CL Z (Fv _ h1 (J 3 Z (C hf Z (fun h2 hf=>?_) fun h2 hf=>?_))))
 · cases hf; exact Wx 4 [0] Z Z (ZC [0] Z Z h)
 refine B1 hf fun f2 h3 hf=>W 1 Z (CL Z (lQ _ h3 (J 3 Z (C hf Z (fun h4 hf=>?_) fun h4 hf=>?_))))
 · cases hf; exact Wx 4 [0] Z Z (ZC [0] Z Z h)
 obtain ⟨x1,f3,h5,hf⟩:=cu hf; refine W 2 Z (CL Z (L9 _ _ h5 (U 3 Z (AS Z (AO.aH Z tX (fun b8=>(Rw 4 [0] Z Z (C hf Z (fun h6 hf=>?_) fun h6 hf=>?_))))))))
 · cases hf; exact Wx 4 [1] Z Z (ZC [1] Z Z h)
 refine V 0 Z (AW.draw 3 mixed (by kernel_rfl) Z ?_); refine Ev.cons Z Z Z (AO.bV (i:=0) Z Z Z RL Z Z zg) ?_; refine B1 hf fun x2 h7 hf=>Ev.cons Z Z Z (AO.call Z _ Z Z Yn (fQ _ h7 zg)) ?_; refine B1 hf fun x3 h8 hf=>Ev.cons Z Z Z (AO.call Z _ Z Z Yo (JQ _ _ h8 zg)) (Ev.nil ?_); show AR _ _ _ _ _ _ _ _; cases hf; exact Rx 2 [1] Z Z (ZC [1] Z Z h)
section
variable [zL]
theorem A_ (s1:Str) (dK:List bF) {r0:Int} (hf:uE s1 dK=some r0) (h:Q (.ret (iP r0)) τ):PC 21 [.str s1,.list (List.map bF.cells dK)] τ Q:=by
 unfold uE at hf; refine AC.none (AC.Ho 46 [.cell 4 24] [0,1] Tryz.func21 Z Z Z Z Z ?_); obtain ⟨ps1,ig,ko,h1,hf⟩:=jY hf; refine AW.sr (AR.step Z Z Z (AO.BI Z Z Z (AR.step Z Z Z (AO.aH Z O8 (fun b4=>(AR.nil [0,3,4] Z ?_)))))); refine AW.sr (cs 1 Z (AR.step Z Z Z (AO.call Z _ Z Z VL (nQ _ h1 (cs 7 Z ?_))))); refine AR.nil [3,4,5,7] Z (AW.seq (AW.sr (cs 2 Z ?_))); refine AR.nil [3,4,5,7,19] Z (AW.cond Z (fun h2=>?_) (fun h2=>?_))
 ·
  cases kg h2 hf; refine AW.sr (cs 1 Z (AR.bD Z Z (AO.bY (i:=0) Z Z Z nE Z Z Z Z Z (AR.nil [4] Z ?_)))); refine AW.ret ?_; exact .inl ⟨rfl,_,⟨_,_,rfl,⟨_,_,0,_,_,rfl,rfl,nE,rfl⟩,rfl⟩,[],List.nil_sublist _,h⟩
 replace hf:=jH h2 hf; refine B1 hf fun vM h3 hf=>?_; refine AW.skip (AW.seq (AW.sr (AR.step Z Z Z (AO.xS Z Z Vv Z ?_)))); refine AR.step Z Z Z (AO.call Z _ Z Z Yv (Fv _ h3 (cs 1 Z (AR.nil [3,4,5,8] Z (AW.sr ?_))))); refine cs 2 Z (AR.nil [3,4,5,8,24] Z (AW.cond Z (fun h4=>?_) (fun h4=>?_)))
 ·
  cases kg h4 hf; refine AW.sr (cs 1 Z (AR.bD Z Z (AO.bY (i:=0) Z Z Z nE Z Z Z Z Z (AR.nil [4] Z ?_)))); refine AW.ret ?_; exact .inl ⟨rfl,_,⟨_,_,rfl,⟨_,_,0,_,_,rfl,rfl,nE,rfl⟩,rfl⟩,[],List.nil_sublist _,h⟩
 replace hf:=jH h4 hf; refine B1 hf fun s2 h5 hf=>?_; cases hf; refine AW.skip (AW.seq (AW.sr (cs 1 Z ?_))); refine AR.step Z Z Z (AO.call Z _ Z Z VG (tq _ (AR.nil [3,4,27] Z (AW.block (AW.G8 (β:=Option Int) (X:=ah) Z VD (fun x1=>[.agg (aQ x1)]) (fun _=>Z) (by decide) (qR dK) (fun s τ=>τ=[.box b4 [iP (s.getD 0)]]) (fun s=>s.map fun _=>.ret) (s0:=none) (s1:=s2) Z Z ?_ ?_ ?_)))))
 ·
  intro l T' hy τ hT; refine rC l T' (qR dK) hy ps1 h5 hT fun τ' hT'=>?_; exact ⟨⟨_,Z⟩,hT'⟩
 ·
  rintro l s x1 b s3 _ hh rfl; unfold qR at hh; cases s with
  | some e=>cases hh
  | none=>
  refine ⟨Z,?_⟩; obtain ⟨t1,PS,h6,hh⟩:=cu hh; refine ny.region Z (AR.step Z Z Z (AO.aH Z j_ (fun b9=>(AR.bD Z Z (AO.bY (i:=0) Z Z Z jF Z Z Z Z Z (AR.nil [3,4,9] Z ?_)))))); refine ⟨Z,(ny.block (ny.seq (ny.region Z ?_)))⟩; refine AR.step Z Z Z (AO.bV (i:=0) Z Z Z jF Z Z (AR.step Z Z Z (AO.xS Z Z Vv Z (AR.step Z Z Z (AO.call Z _ Z Z Yu (L_ _ _ h6 (cs 3 Z ?_))))))); refine AR.step Z Z Z (AO.aH Z tX (fun b10=>(AR.bD Z Z (AO.bY (i:=0) Z Z Z RL Z Z Z Z Z (cs 1 Z (AR.nil [4,10,11] Z ?_)))))); refine ny.seq (ny.seq (ny.region Z (cs 2 Z ?_))); refine AR.nil [4,10,11,36] Z (ny.cond Z (fun h7=>?_) (fun h7=>?_))
  ·
   cases kg h7 hh; refine ny.seq (ny.region Z (cs 1 Z (AR.bD Z Z (AO.bY (i:=2) Z Z Z nE Z Z Z Z Z ?_)))); refine AR.nil [] Z (ny.ret ?_); exact ⟨Z,⟨_,.cons _ (.cons _ (List.Sublist.refl _)),Z⟩,Z,Z⟩
  replace hh:=jH h7 hh; refine ny.skip (ny.seq (ny.region Z (cs 1 Z ?_))); refine AR.step Z Z Z (AO.bV (i:=0) Z Z Z Dh Z Z (cs 2 Z (AR.or 4 41 45 [4,10] (x:=(t1.kind == 6)) Z Z (fun h8=>?_) (fun h8=>?_) ?_)))
  ·
   refine AR.is 41 h8 Z (cs 1 Z (AR.go Z Z Z Z Z Z (AO.bV (i:=0) Z Z Z Dh Z Z (cs 2 Z ?_)))); refine AR.nil [45,4,10] Z ?_; exact ⟨Z,Z,Z,Z⟩
  ·
   refine AR.is 41 h8 Z (cs 4 Z (AR.nil [45,4,10] Z ?_)); exact ⟨Z,Z,Z,Z⟩
  refine AR.nil [4,45] Z (ny.cond Z (fun h9=>?_) (fun h9=>?_))
  ·
   cases kg h9 hh; refine ny.seq (ny.region Z (AR.bD Z Z (AO.bY (i:=2) Z Z Z nE Z Z Z Z Z (AR.nil [] Z ?_)))); refine ny.ret ?_; exact ⟨Z,⟨_,.cons _ (.cons _ (List.Sublist.refl _)),Z⟩,Z,Z⟩
  ·
   cases jH h9 hh; refine ny.skip ?_; exact ⟨Z,⟨_,.cons _ (.cons _ (List.Sublist.refl _)),Z⟩,Z,Z⟩
 ·
  rintro D _ rfl; cases s2 with
  | some e=>exact .inr ⟨D,_,Z,Z,_,⟨_,_,Z,⟨_,_,0,_,_,Z,Z,nE,Z⟩,Z⟩,[],List.nil_sublist _,h⟩
  | none=>
   show AW _ _ _ _ _ _ _; refine AW.sr (AR.bD Z Z (AO.bY (i:=0) Z Z Z nE Z Z Z Z Z (AR.nil [4] Z (AW.ret ?_)))); exact .inr ⟨D,[_],Z,Z,_,⟨_,_,Z,⟨_,_,0,_,_,Z,Z,nE,Z⟩,Z⟩,[],List.nil_sublist _,h⟩
end
section
variable [zL]
theorem Fq {r0:Bool} (hf:xU=some r0) (h:Q (.ret (.bool r0)) τ):PC 10 [] τ Q:=by
 unfold xU at hf; refine BN 136 [.tmp 0] [] Tryz.func10 Z Z Z Z Z (W 1 Z (AS Z (AO.bn (List.map dL ([36]:List UInt8)) Z mY Z Z Z Z (AS Z (AO.gJ Z ql uj bN Z Z ?_))))); refine B1 hf fun x1 h1 hf=>U 2 Z (AS Z (AO.cB h1 Z Z Z ?_)); refine B1 hf fun x2 h2 hf=>U 1 Z (AS Z (AO.cB h2 Z Z Z ?_)); refine B1 hf fun x3 h3 hf=>AS Z (AO.cB h3 Z Z Z ?_); refine B1 hf fun x4 h4 hf=>CL Z (I4  h4 ?_); refine B1 hf fun x5 h5 hf=>AS Z (AO.cB h5 Z Z Z ?_); refine B1 hf fun s1 h6 hf=>AS rfl (AO.cB h6 rfl rfl rfl (U 3 rfl (AS rfl (AO.bn (List.map bO.cells [(bO.mk ([120]:Str) (aj.mk 2 false 2 ([]:Str) [] []))]) rfl Yi rfl rfl rfl (by first | rfl | simp only [List.map,bO.aF]) ?_)))); obtain ⟨l1,x6,e1,h7,hf⟩:=jY hf; refine U 2 Z (CL Z (nQ _ h7 ?_)); obtain ⟨t1,f1,h8,hf⟩:=cu hf; refine U 9 Z (CL Z (F8 _ _ h8 ?_)); obtain ⟨n1,g1,h9,hf⟩:=cu hf; refine U 6 Z (CL Z (I5 _ h9 ?_)); refine B1 hf fun x7 h10 hf=>U 5 Z (CL Z (I4  h10 ?_))
 refine B1 hf fun x8 h11 hf=>AS Z (AO.cB h11 Z Z Z ?_); refine B1 hf fun x9 h12 hf=>AS Z (AO.cB h12 Z Z Z ?_); obtain ⟨NU,ig,hx1,m_,hf⟩:=jY hf; refine CL Z (nQ _ m_ (U 10 Z (AR.or 4 55 59 [1,2,4,7,8,9,10,12,13] (x:=((l1.length:Int) != 3)) Z Z (fun lC=>?_) (fun lC=>?_) ?_)))
 · refine Is 55 lC Z (U 1 Z (GO Z (AO.aM (l:=l1) Z Z Z Z oo Z Z ?_))); exact dB 2 Z (En [59,1,2,4,7,8,9,10,12,13] Z)
 · refine Is 55 lC Z ?_; exact dB 4 Z (En [59,1,2,4,7,8,9,10,12,13] Z)
 refine B1 hf fun b1 h16 hf=>U 1 Z (AR.dx 9 60 69 false [1,2,4,7,8,9,10,12,13] b1 Z Z (fun nR=>?_) (fun nR=>?_) ?_)
 · refine IF 60 nR h16 Z fun h16=>?_; refine B1 h16 fun e2 wP h16=>U 1 Z (GO Z (AO.aK wP Z Z Z Z oo (aB.aF _) Z ?_)); refine B1 h16 fun Cu h18 h16=>U 3 Z (GO Z (AO.cB h18 Z Z Z ?_)); refine B1 h16 fun Qa h19 h16=>GO Z (AO.cB h19 Z Z Z ?_); cases h16; exact dB 2 Z (En [69,1,2,4,7,8,9,10,12,13] Z)
 · refine IT 60 nR h16 Z fun h16=>?_; cases h16; exact dB 9 Z (En [69,1,2,4,7,8,9,10,12,13] Z)
 refine B1 hf fun b2 h21 hf=>U 1 Z (AR.dx 6 70 76 false [1,2,4,7,8,9,10,12,13] b2 Z Z (fun h20=>?_) (fun h20=>?_) ?_)
 · refine IF 70 h20 h21 Z fun h21=>?_; refine B1 h21 fun e3 h22 h21=>U 1 Z (GO Z (AO.aK h22 Z Z Z Z oo (aB.aF _) Z ?_)); cases h21; exact dB 4 Z (En [76,1,2,4,7,8,9,10,12,13] Z)
 · refine IT 70 h20 h21 Z fun h21=>?_; cases h21; exact dB 6 Z (En [76,1,2,4,7,8,9,10,12,13] Z)
 refine B1 hf fun b3 C_ hf=>U 1 Z (AR.dx 6 77 83 false [1,2,4,7,8,9,10,12,13] b3 Z Z (fun h23=>?_) (fun h23=>?_) ?_)
 · refine IF 77 h23 C_ Z fun C_=>?_; refine B1 C_ fun e4 FV C_=>U 1 Z (GO Z (AO.aK FV Z Z Z Z oo (aB.aF _) Z ?_)); cases C_; exact dB 4 Z (En [83,1,2,4,7,8,9,10,12,13] Z)
 · refine IT 77 h23 C_ Z fun C_=>?_; cases C_; exact dB 6 Z (En [83,1,2,4,7,8,9,10,12,13] Z)
 refine U 1 Z (On 3 84 87 [1,2,4,7,9,10,12,13] (f1 != 0) Z Z Z Z ?_); refine B1 hf fun b4 Ic hf=>U 1 Z (AR.dx 6 88 94 false [2,4,9,10,12,13] b4 Z Z (fun h27=>?_) (fun h27=>?_) ?_)
 · refine IF 88 h27 Ic Z fun Ic=>?_; refine B1 Ic fun N9 NZ Ic=>U 2 Z (GO Z (AO.cB NZ Z Z Z ?_)); refine B1 Ic fun Mq OD Ic=>GO Z (AO.cB OD Z Z Z ?_); cases Ic; exact dB 2 Z (En [94,2,4,9,10,12,13] Z)
 · refine IT 88 h27 Ic Z fun Ic=>?_; cases Ic; exact dB 6 Z (En [94,2,4,9,10,12,13] Z)
 refine J 0 Z (C hf Z (fun h31 hf=>?_) fun h31 hf=>?_)
 · cases hf; exact M 1 Z (Y Z h)
 refine W 2 rfl (AS rfl (AO.bn (List.map bF.cells [(bF.mk ([120]:Str) (ay.mk 3 []))]) rfl Yh rfl rfl rfl (by first | rfl | simp only [List.map,bF.aF]) ?_)); refine U 4 Z (AR.and 4 100 104 [2,4,9,12,13,14] (x:=((n1.length:Int) == 1)) Z Z (fun h32=>?_) (fun h32=>?_) ?_)
 · refine Is 100 h32 Z (U 1 Z (GO Z (AO.aM (l:=n1) Z Z Z Z eO Z Z ?_))); exact dB 2 Z (En [104,2,4,9,12,13,14] Z)
 · refine Is 100 h32 Z ?_; exact dB 4 Z (En [104,2,4,9,12,13,14] Z)
 refine B1 hf fun b5 JE hf=>U 1 Z (AR.dx 5 105 110 true [2,4,12,13,14] b5 Z Z (fun Ib=>?_) (fun Ib=>?_) ?_)
 · refine IT 105 Ib JE Z fun JE=>?_; refine B1 JE fun e5 NY JE=>U 1 Z (GO Z (AO.aK NY Z Z Z Z eO Z Z ?_)); cases JE; exact dB 3 Z (En [110,2,4,12,13,14] Z)
 · refine IF 105 Ib JE Z fun JE=>?_; cases JE; exact dB 5 Z (En [110,2,4,12,13,14] Z)
 refine U 1 Z (An 3 111 114 [2,4,13,14] (ig == 6) Z Z Z Z (U 1 Z (An 3 115 118 [2,4,14] (hx1 == 4) Z Z Z Z ?_))); refine B1 hf fun b6 Fe hf=>U 1 Z (AR.dx 5 119 124 true [2,14] b6 Z Z (fun NW=>?_) (fun NW=>?_) ?_)
 · refine IT 119 NW Fe Z fun Fe=>?_; refine B1 Fe fun Rf Uj Fe=>U 1 Z (GO Z (AO.call Z _ Z Z YC (Ch _ Uj ?_))); cases Fe; exact dB 3 Z (En [124,2,14] Z)
 · refine IF 119 NW Fe Z fun Fe=>?_; cases Fe; exact dB 5 Z (En [124,2,14] Z)
 refine B1 hf fun b7 Ni hf=>U 1 Z (AR.dx 5 125 130 true [2] b7 Z Z (fun Rl=>?_) (fun Rl=>?_) ?_)
 · refine IT 125 Rl Ni Z fun Ni=>?_; refine B1 Ni fun Kc h43 Ni=>U 2 Z (GO Z (AO.call Z _ Z Z VK (A_ _ _ h43 ?_))); cases Ni; exact dB 2 Z (En [130,2] Z)
 · refine IF 125 Rl Ni Z fun Ni=>?_; cases Ni; exact dB 5 Z (En [130,2] Z)
 refine BR hf fun b8 h45 hf=>?_; refine U 1 Z (AR.dx 4 131 135 true [] b8 Z Z (fun QL=>?_) (fun QL=>?_) ?_)
 · refine IT 131 QL h45 Z fun h45=>?_; refine B1 h45 fun Mg h46 h45=>U 1 Z (GO Z (AO.call Z _ Z Z VK (A_ _ _ h46 ?_))); cases h45; exact dB 2 Z (En [135] Z)
 · refine IF 131 QL h45 Z fun h45=>?_; cases h45; exact dB 4 Z (En [135] Z)
 cases hf; exact N 1 Z (Y Z h)
end
theorem NC (e1:ah) {r0:Bool} (hf:xJ e1=some r0) (h:Q (.ret (.bool r0)) τ):PC 261 [.agg (aQ e1)] τ Q:=by
 unfold xJ at hf; refine BN 45 [.tmp 2] [0] Tryz.func261 Z Z Z Z Z (V 6 Z (C hf Z (fun h1 hf=>?_) fun h1 hf=>?_))
 ·
  refine V 0 Z (AW.cond Z (fun h2=>?_) (fun h2=>?_))
  · refine W 2 Z (AS Z (AO.aM (l:=e1.args) Z Z Z Z dQ Z (ah.aC _) ?_)); cases hf; exact N 2 Z (Y Z h)
  cases h1.symm.trans h2
 refine V 2 Z (C hf Z (fun h3 hf=>?_) fun h3 hf=>?_)
 · refine W 2 Z (AS Z (AO.aM (l:=e1.args) Z Z Z Z dQ Z (ah.aC _) ?_)); cases hf; exact N 2 Z (Y Z h)
 refine V 2 Z (C hf Z (fun h4 hf=>?_) fun h4 hf=>?_)
 ·
  refine V 0 Z (AW.cond Z (fun h5=>?_) (fun h5=>?_))
  · refine W 2 Z (AS Z (AO.aM (l:=e1.args) Z Z Z Z dQ Z (ah.aC _) ?_)); cases hf; exact N 2 Z (Y Z h)
  cases h4.symm.trans h5
 refine V 2 Z (C hf Z (fun h6 hf=>?_) fun h6 hf=>?_)
 · refine W 2 Z (AS Z (AO.aM (l:=e1.args) Z Z Z Z dQ Z (ah.aC _) ?_)); cases hf; exact N 2 Z (Y Z h)
 refine V 2 Z (C hf Z (fun h7 hf=>?_) fun h7 hf=>?_)
 ·
  refine V 0 Z (AW.cond Z (fun h8=>?_) (fun h8=>?_))
  · refine W 2 Z (AS Z (AO.aM (l:=e1.args) Z Z Z Z dQ Z (ah.aC _) ?_)); cases hf; exact N 2 Z (Y Z h)
  cases h7.symm.trans h8
 refine V 2 Z (C hf Z (fun h9 hf=>?_) fun h9 hf=>?_)
 · refine W 2 Z (AS Z (AO.aM (l:=e1.args) Z Z Z Z dQ Z (ah.aC _) ?_)); cases hf; exact N 2 Z (Y Z h)
 refine V 2 Z (C hf Z (fun h10 hf=>?_) fun h10 hf=>?_)
 · refine W 2 Z (AS Z (AO.aM (l:=e1.args) Z Z Z Z dQ Z (ah.aC _) ?_)); cases hf; exact N 2 Z (Y Z h)
 refine W 4 Z (On 4 35 39 [1] (e1.kind == 9) Z Z Z Z (U 1 Z (On 4 40 44 [] (e1.kind == 10) Z Z Z Z ?_))); cases hf; exact N 1 Z (Y Z h)
theorem LY (c1:UInt8) {r0:Bool} (hf:yA c1=some r0) (h:Q (.ret (.bool r0)) τ):PC 161 [.int .u8 (c1.toNat:Int)] τ Q:=by
 unfold yA at hf; refine BN 21 [.tmp 2] [0] Tryz.func161 Z Z Z Z Z (W 4 Z (An 3 5 8 [0] (decide ((c1.toNat:Int)≤122)) Z Z Z Z (U 1 Z (AR.or 7 9 16 [0] (x:=((decide (65≤(c1.toNat:Int))) && (decide ((c1.toNat:Int)≤90)))) Z Z (fun h2=>?_) (fun h2=>?_) ?_))))
 · refine Is 9 h2 Z (U 3 Z (An 3 12 15 [0,9] (decide ((c1.toNat:Int)≤90)) Z Z Z Z ?_)); exact dB 1 Z (En [16,0] Z)
 · refine Is 9 h2 Z ?_; exact dB 7 Z (En [16,0] Z)
 refine U 1 Z (On 3 17 20 [] ((c1.toNat:Int) == 95) Z Z Z Z ?_); cases hf; exact N 1 Z (Y Z h)
theorem NG (c1:UInt8) {r0:Bool} (hf:Bq c1=some r0) (h:Q (.ret (.bool r0)) τ):PC 162 [.int .u8 (c1.toNat:Int)] τ Q:=by
 unfold Bq at hf; refine BN 9 [.tmp 2] [0] Tryz.func162 Z Z Z Z Z (W 4 Z (An 3 5 8 [] (decide ((c1.toNat:Int)≤57)) Z Z Z Z ?_)); cases hf; exact N 1 Z (Y Z h)
theorem OT (s1:Str) {r0:Bool} (hf:z8 s1=some r0) (h:Q (.ret (.bool r0)) τ):PC 92 [.str s1] τ Q:=by
 unfold z8 at hf; refine BN 34 [.tmp 2] [0] Tryz.func92 Z Z Z Z Z (V 2 Z (Jh (fun i1=>[(0,.str s1),(3,iP i1)]) (fun i1=>[]) (fun bP i1=>sJ s1 bP i1=some r0) BIG 0 Z Z hf (fun _ hz=>aU hz) ?_)); intro bP i1 hf; rw [sJ] at hf; refine W 2 Z (AS Z (AO.bG Z Z Z Z bN Z (J 1 Z (C hf Z (fun h1 hf=>?_) fun h1 hf=>?_))))
 ·
  refine B1 hf fun x1 h2 hf=>W 2 Z (AS Z (AO.dH h2 Z bN Z Z ?_)); refine B1 hf fun x2 h3 hf=>CL Z (LY _ h3 ?_); refine B1 hf fun b1 h5 hf=>U 2 Z (AR.dx 10 15 25 true [0,3] b1 Z Z (fun h4=>?_) (fun h4=>?_) ?_)
  ·
   refine IT 15 h4 h5 Z fun h5=>?_; refine BR h5 fun b2 h7 h5=>?_; refine U 3 Z (AR.dx 6 18 24 false [0,3,15] b2 Z Z (fun h6=>?_) (fun h6=>?_) ?_)
   · refine IF 18 h6 h7 Z fun h7=>?_; refine B1 h7 fun x3 h8 h7=>U 2 Z (GO Z (AO.dH h8 Z bN Z Z ?_)); refine B1 h7 fun x4 h9 h7=>GO Z (AO.call Z _ Z Z WR (NG _ h9 ?_)); cases h7; exact dB 2 Z (En [24,0,3,15] Z)
   · refine IT 18 h6 h7 Z fun h7=>?_; cases h7; exact dB 6 Z (En [24,0,3,15] Z)
   cases h5; exact dB 1 Z (En [25,0,3] Z)
  · refine IF 15 h4 h5 Z fun h5=>?_; cases h5; exact dB 10 Z (En [25,0,3] Z)
  refine J 0 Z (C hf Z (fun h10 hf=>?_) fun h10 hf=>?_)
  · cases hf; exact M 1 Z (Y Z h)
  exact M 3 Z ⟨(bQ (i1 + 1)),Z,Z,Z,hf⟩
 refine W 1 Z (AS Z (AO.bG Z Z Z Z bN Z (U 2 Z (AR.and 4 29 33 [] (x:=(decide ((s1.length:Int)≤64))) Z Z (fun h11=>?_) (fun h11=>?_) ?_))))
 · refine Is 29 h11 Z (U 1 Z (GO Z (AO.bG Z Z Z Z bN Z ?_))); exact dB 2 Z (En [33] Z)
 · refine Is 29 h11 Z ?_; exact dB 4 Z (En [33] Z)
 cases hf; exact N 1 Z (Y Z h)
theorem AZ (s1:Str) {r0:Bool} (hf:rR s1=some r0) (h:Q (.ret (.bool r0)) τ):PC 55 [.str s1] τ Q:=by
 unfold rR at hf; refine BN 17 [.tmp 2] [0] Tryz.func55 Z Z Z Z Z ?_; refine B1 hf fun x1 h1 hf=>W 2 Z (CL Z (OT _ h1 (U 1 Z (An 3 5 8 [0] (!(s1 == ([116,114,117,101]:Str))) Z Z Z Z (U 1 Z (An 3 9 12 [0] (!(s1 == ([102,97,108,115,101]:Str))) Z Z Z Z (U 1 Z (An 3 13 16 [] (!(s1 == ([110,117,108,108]:Str))) Z Z Z Z ?_)))))))); cases hf; exact N 1 Z (Y Z h)
theorem vS (op1:Str) {r0:Int} (hf:nT op1=some r0) (h:Q (.ret (iP r0)) τ):PC 122 [.str op1] τ Q:=by
 unfold nT at hf; refine BN 22 [.tmp 2] [0] Tryz.func122 Z Z Z Z Z (V 4 Z (C hf Z (fun h1 hf=>?_) fun h1 hf=>?_))
 · cases hf; exact M 1 Z (Y Z h)
 refine V 2 Z (C hf Z (fun h2 hf=>?_) fun h2 hf=>?_)
 · cases hf; exact M 1 Z (Y Z h)
 refine V 2 Z (C hf Z (fun h3 hf=>?_) fun h3 hf=>?_)
 ·
  refine V 0 Z (AW.cond Z (fun h4=>?_) (fun h4=>?_))
  · cases hf; exact M 1 Z (Y Z h)
  cases h3.symm.trans h4
 refine V 2 Z (C hf Z (fun h5 hf=>?_) fun h5 hf=>?_)
 ·
  refine V 0 Z (AW.cond Z (fun h6=>?_) (fun h6=>?_))
  · cases hf; exact M 1 Z (Y Z h)
  cases h5.symm.trans h6
 refine V 2 Z (C hf Z (fun h7 hf=>?_) fun h7 hf=>?_)
 ·
  refine V 0 Z (AW.cond Z (fun h8=>?_) (fun h8=>?_))
  · cases hf; exact M 1 Z (Y Z h)
  cases h7.symm.trans h8
 refine V 2 Z (C hf Z (fun h9 hf=>?_) fun h9 hf=>?_)
 ·
  refine V 0 Z (AW.cond Z (fun h10=>?_) (fun h10=>?_))
  · cases hf; exact M 1 Z (Y Z h)
  cases h9.symm.trans h10
 refine V 2 Z (C hf Z (fun h11 hf=>?_) fun h11 hf=>?_)
 ·
  refine V 0 Z (AW.cond Z (fun h12=>?_) (fun h12=>?_))
  · cases hf; exact M 1 Z (Y Z h)
  cases h11.symm.trans h12
 refine V 2 Z (C hf Z (fun m_ hf=>?_) fun m_ hf=>?_)
 · cases hf; exact M 1 Z (Y Z h)
 refine V 2 Z (C hf Z (fun lC hf=>?_) fun lC hf=>?_)
 ·
  refine V 0 Z (AW.cond Z (fun nR=>?_) (fun nR=>?_))
  · cases hf; exact M 1 Z (Y Z h)
  cases lC.symm.trans nR
 refine V 2 Z (C hf Z (fun h16 hf=>?_) fun h16 hf=>?_)
 · cases hf; exact M 1 Z (Y Z h)
 refine V 2 Z (C hf Z (fun wP hf=>?_) fun wP hf=>?_)
 ·
  refine V 0 Z (AW.cond Z (fun h18=>?_) (fun h18=>?_))
  · cases hf; exact M 1 Z (Y Z h)
  cases wP.symm.trans h18
 refine V 2 Z (C hf Z (fun h19 hf=>?_) fun h19 hf=>?_)
 ·
  refine V 0 Z (AW.cond Z (fun h20=>?_) (fun h20=>?_))
  · cases hf; exact M 1 Z (Y Z h)
  cases h19.symm.trans h20
 refine V 2 Z (C hf Z (fun h21 hf=>?_) fun h21 hf=>?_)
 · cases hf; exact M 1 Z (Y Z h)
 cases hf; exact M 1 Z (Y Z h)
theorem Nz (e1:ah) {r0:Bool} (hf:xI e1=some r0) (h:Q (.ret (.bool r0)) τ):PC 262 [.agg (aQ e1)] τ Q:=by
 unfold xI at hf; refine BN 31 [.tmp 2] [0] Tryz.func262 Z Z Z Z Z (V 6 Z (C hf Z (fun h1 hf=>?_) fun h1 hf=>?_))
 ·
  refine V 0 Z (AW.cond Z (fun h2=>?_) (fun h2=>?_))
  · refine BR hf fun x1 h3 hf=>?_; refine W 2 Z (CL Z (AZ _ h3 ?_)); cases hf; exact N 1 Z (Y Z h)
  cases h1.symm.trans h2
 refine V 2 Z (C hf Z (fun h4 hf=>?_) fun h4 hf=>?_)
 ·
  refine V 0 Z (AW.cond Z (fun h5=>?_) (fun h5=>?_))
  · refine BR hf fun x2 h6 hf=>?_; refine W 2 Z (CL Z (AZ _ h6 ?_)); cases hf; exact N 1 Z (Y Z h)
  cases h4.symm.trans h5
 refine V 2 Z (C hf Z (fun h7 hf=>?_) fun h7 hf=>?_)
 · refine BR hf fun x3 h8 hf=>?_; refine W 2 Z (CL Z (AZ _ h8 ?_)); cases hf; exact N 1 Z (Y Z h)
 refine V 2 Z (C hf Z (fun h9 hf=>?_) fun h9 hf=>?_)
 · refine W 4 Z (On 4 17 21 [] (e1.name == ([45]:Str)) Z Z Z Z ?_); cases hf; exact N 1 Z (Y Z h)
 refine V 2 Z (C hf Z (fun h11 hf=>?_) fun h11 hf=>?_)
 · refine B1 hf fun x4 h12 hf=>W 2 Z (CL Z (vS _ h12 ?_)); cases hf; exact N 2 Z (Y Z h)
 cases hf; exact M 4 Z (Y Z h)
abbrev Ji (gU:aj→aj→Option Bool):Prop:=∀ (FL:aj) (FJ:aj) {aL:Bool},gU FL FJ=some aL→∀ {τ:List aJ} {Q:cK→List aJ→Prop} (h:Q (.ret (.bool aL)) τ),PC 263 [.agg (aT FL),.agg (aT FJ)] τ Q
theorem Oa (gU) (Lp:Ji gU) (a1:aj) (b1:aj) {r0:Bool} (hf:yB gU a1 b1=some r0) (h:Q (.ret (.bool r0)) τ):PC 263 [.agg (aT a1),.agg (aT b1)] τ Q:=by
 unfold yB at hf; refine BN 88 [.tmp 4] [0,1] Tryz.func263 Z Z Z Z Z (W 9 Z (AR.or 6 12 18 [2,3] (x:=(!(a1.jd == b1.jd))) Z Z (fun h1=>?_) (fun h1=>?_) ?_))
 · refine Is 12 h1 Z (U 4 Z (GO Z (AO.TK Z Zt Z Z ?_))); exact dB 1 Z (En [18,2,3] Z)
 · refine Is 12 h1 Z ?_; exact dB 6 Z (En [18,2,3] Z)
 refine U 1 Z (On 6 19 25 [2,3] (a1.iG != b1.iG) Z Z Z Z (U 1 Z (On 6 26 32 [2,3] (!(a1.jK == b1.jK)) Z Z Z Z (U 1 Z (AR.or 8 33 41 [2,3] (x:=((a1.aW.length:Int) != (b1.aW.length:Int))) Z Z (fun h4=>?_) (fun h4=>?_) ?_)))))
 · refine Is 33 h4 Z (U 2 Z (GO Z (AO.aM (l:=a1.aW) Z Z Z Z jC Z (aj.aC _) (U 2 Z (GO Z (AO.aM (l:=b1.aW) Z Z Z Z jC Z (aj.aC _) ?_)))))); exact dB 2 Z (En [41,2,3] Z)
 · refine Is 33 h4 Z ?_; exact dB 8 Z (En [41,2,3] Z)
 refine U 1 Z (AR.or 8 42 50 [2,3] (x:=((a1.keys.length:Int) != (b1.keys.length:Int))) Z Z (fun h5=>?_) (fun h5=>?_) ?_)
 · refine Is 42 h5 Z (U 2 Z (GO Z (AO.aM (l:=a1.keys) Z Z Z Z eO Z Z (U 2 Z (GO Z (AO.aM (l:=b1.keys) Z Z Z Z eO Z Z ?_)))))); exact dB 2 Z (En [50,2,3] Z)
 · refine Is 42 h5 Z ?_; exact dB 8 Z (En [50,2,3] Z)
 refine J 0 Z (C hf Z (fun h6 hf=>?_) fun h6 hf=>?_)
 · cases hf; exact M 1 Z (Y Z h)
 refine V 1 Z (Jh (fun i1=>[(2,.ref (aT a1)),(3,.ref (aT b1)),(5,iP i1)]) (fun i1=>[]) (fun bP i1=>sM gU a1 b1 bP i1=some r0) BIG 0 Z Z hf (fun _ hz=>aU hz) ?_); intro bP i1 hf; rw [sM] at hf; refine W 3 Z (AS Z (AO.aM (l:=a1.keys) Z Z Z Z eO Z Z (J 1 Z (C hf Z (fun h7 hf=>?_) fun h7 hf=>?_))))
 ·
  refine V 0 Z (AW.draw 11 mixed (by kernel_rfl) Z ?_); refine Ev.cs aR 3 Z ?_; refine B1 hf fun e1 h8 hf=>Ev.cons Z Z Z (AO.aK h8 Z Z Z Z eO Z Z zg) (Ev.cs aR 4 Z ?_); refine B1 hf fun e2 h9 hf=>Ev.cons Z Z Z (AO.aK h9 Z Z Z Z eO Z Z zg) (Ev.cs aR 2 Z (Ev.nil ?_)); show AR _ _ _ _ _ _ _ _; refine J 0 Z (C hf Z (fun h10 hf=>?_) fun h10 hf=>?_)
  · cases hf; exact M 1 Z (Y Z h)
  exact M 3 Z ⟨(bQ (i1 + 1)),Z,Z,Z,hf⟩
 refine V 1 Z (Jh (fun i2=>[(2,.ref (aT a1)),(3,.ref (aT b1)),(6,iP i2)]) (fun i2=>[]) (fun KA i2=>sK gU a1 b1 KA i2=some r0) BIG 0 Z Z hf (fun _ hz=>aU hz) ?_); intro KA i2 hf; rw [sK] at hf; refine W 3 Z (AS Z (AO.aM (l:=a1.aW) Z Z Z Z jC Z (aj.aC _) (J 1 Z (C hf Z (fun h11 hf=>?_) fun h11 hf=>?_))))
 ·
  refine V 0 Z (AW.draw 12 mixed (by kernel_rfl) Z ?_); refine Ev.cs aR 3 Z ?_; refine B1 hf fun e3 h12 hf=>Ev.cons Z Z Z (AO.aK h12 Z Z (aj.aC _) Z jC (aj.aF _) Z zg) (Ev.cs aR 4 Z ?_); refine B1 hf fun e4 m_ hf=>Ev.cons Z Z Z (AO.aK m_ Z Z (aj.aC _) Z jC (aj.aF _) Z zg) (Ev.cs aR 1 Z ?_); refine B1 hf fun x1 lC hf=>Ev.cons Z Z Z (AO.call Z _ Z Z Sl (Lp _ _ lC zg)) (Ev.cs aR 1 Z (Ev.nil ?_)); show AR _ _ _ _ _ _ _ _; refine J 0 Z (C hf Z (fun nR hf=>?_) fun nR hf=>?_)
  · cases hf; exact M 1 Z (Y Z h)
  exact M 3 Z ⟨(bQ (i2 + 1)),Z,Z,Z,hf⟩
 cases hf; exact M 1 Z (Y Z h)
theorem Ou :∀ k:Nat,(Ji (rT k)):=by
 intro k
 induction k with
 | zero=>exact fun _ _ _ hz=>by first | cases hz | (unfold rT at hz; cases hz)
 | succ k ih=>exact fun FL FJ aL hz τ Q hq=>Oa (rT k) ih FL FJ hz hq
theorem OV (FL:aj) (FJ:aj) {aL:Bool} (hf:Dr FL FJ=some aL) (h:Q (.ret (.bool aL)) τ):PC 263 [.agg (aT FL),.agg (aT FJ)] τ Q:=
 ((Ou BIG)) FL FJ hf h
theorem LX (e1:ah) {r0:Bool} (hf:vk e1=some r0) (h:Q (.ret (.bool r0)) τ):PC 193 [.agg (aQ e1)] τ Q:=by
 unfold vk at hf; refine BN 61 [.tmp 2] [0] Tryz.func193 Z Z Z Z Z ?_; refine B1 hf fun x1 h1 hf=>W 3 Z (CL Z (NC _ h1 ?_)); refine B1 hf fun b1 h3 hf=>U 2 Z (AR.dx 4 7 11 false [1] b1 Z Z (fun h2=>?_) (fun h2=>?_) ?_)
 · refine IF 7 h2 h3 Z fun h3=>?_; refine B1 h3 fun x2 h4 h3=>U 1 Z (GO Z (AO.call Z _ Z Z Ws (Nz _ h4 ?_))); cases h3; exact dB 2 Z (En [11,1] Z)
 · refine IT 7 h2 h3 Z fun h3=>?_; cases h3; exact dB 4 Z (En [11,1] Z)
 refine B1 hf fun b2 h6 hf=>U 1 Z (AR.dx 11 12 23 false [1] b2 Z Z (fun h5=>?_) (fun h5=>?_) ?_)
 ·
  refine IF 12 h5 h6 Z fun h6=>?_; refine BR h6 fun b3 h8 h6=>?_; refine U 4 Z (AR.dx 6 16 22 true [1,12] b3 Z Z (fun h7=>?_) (fun h7=>?_) ?_)
  · replace h8:=kg h7 h8; refine Is 16 h7 Z (U 2 Z (GO Z (AO.build Z nA RZ Z ?_))); refine B1 h8 fun x3 h9 h8=>GO Z (AO.call Z _ Z Z Sl (OV _ _ h9 ?_)); cases h8; exact dB 2 Z (En [22,1,12] Z)
  · refine IF 16 h7 h8 Z fun h8=>?_; cases h8; exact dB 6 Z (En [22,1,12] Z)
  cases h6; exact dB 1 Z (En [23,1] Z)
 · refine IT 12 h5 h6 Z fun h6=>?_; cases h6; exact dB 11 Z (En [23,1] Z)
 refine J 0 Z (C hf Z (fun h10 hf=>?_) fun h10 hf=>?_)
 · cases hf; exact M 1 Z (Y Z h)
 refine V 3 Z (C hf Z (fun h11 hf=>?_) fun h11 hf=>?_)
 · refine W 2 Z (AS Z (AO.aM (l:=e1.keys) Z Z Z Z eO Z Z ?_)); cases hf; exact N 2 Z (Y Z h)
 refine V 1 Z (Jh (fun i1=>[(1,.ref (aQ e1)),(3,iP i1)]) (fun i1=>[]) (fun bP i1=>mO e1 bP i1=some r0) BIG 0 Z Z hf (fun _ hz=>aU hz) ?_); intro bP i1 hf; rw [mO] at hf; refine W 3 Z (AS Z (AO.aM (l:=e1.keys) Z Z Z Z eO Z Z (J 1 Z (C hf Z (fun h12 hf=>?_) fun h12 hf=>?_))))
 ·
  refine B1 hf fun e2 m_ hf=>W 3 Z (AS Z (AO.aK m_ Z Z Z Z eO Z Z (U 1 Z (AS Z (AO.bG Z Z Z Z bN Z ?_))))); refine B1 hf fun b4 nR hf=>U 2 Z (AR.dx 8 45 53 false [1,3] b4 Z Z (fun lC=>?_) (fun lC=>?_) ?_)
  · refine IF 45 lC nR Z fun nR=>?_; refine B1 nR fun e3 h16 nR=>U 3 Z (GO Z (AO.aK h16 Z Z Z Z eO Z Z (U 1 Z (GO Z (AO.bG Z Z Z Z bN Z ?_))))); cases nR; exact dB 2 Z (En [53,1,3] Z)
  · refine IT 45 lC nR Z fun nR=>?_; cases nR; exact dB 8 Z (En [53,1,3] Z)
  refine J 0 Z (C hf Z (fun wP hf=>?_) fun wP hf=>?_)
  · cases hf; exact M 1 Z (Y Z h)
  exact M 3 Z ⟨(bQ (i1 + 1)),Z,Z,Z,hf⟩
 refine W 2 Z (AS Z (AO.aM (l:=e1.keys) Z Z Z Z eO Z Z (U 2 Z (AS Z (AO.aM (l:=e1.args) Z Z Z Z dQ Z (ah.aC _) ?_))))); cases hf; exact N 2 Z (Y Z h)
theorem NH (v1:aj) {r0:Bool} (hf:xO v1=some r0) (h:Q (.ret (.bool r0)) τ):PC 163 [.agg (aT v1)] τ Q:=by
 unfold xO at hf; refine BN 53 [.tmp 2] [0] Tryz.func163 Z Z Z Z Z (W 5 Z (An 4 5 9 [1] (v1.kind != 1) Z Z Z Z (U 1 Z (AR.or 9 10 19 [1] (x:=((v1.iG != 0) && (v1.kind != 2))) Z Z (fun h2=>?_) (fun h2=>?_) ?_))))
 · refine Is 10 h2 Z (U 4 Z (An 4 14 18 [1,10] (v1.kind != 2) Z Z Z Z ?_)); exact dB 1 Z (En [19,1] Z)
 · refine Is 10 h2 Z ?_; exact dB 9 Z (En [19,1] Z)
 refine U 1 Z (AR.or 9 20 29 [1] (x:=((!(v1.jK == ([]:Str))) && (v1.kind != 3))) Z Z (fun h4=>?_) (fun h4=>?_) ?_)
 · refine Is 20 h4 Z (U 4 Z (An 4 24 28 [1,20] (v1.kind != 3) Z Z Z Z ?_)); exact dB 1 Z (En [29,1] Z)
 · refine Is 20 h4 Z ?_; exact dB 9 Z (En [29,1] Z)
 refine J 0 Z (C hf Z (fun h6 hf=>?_) fun h6 hf=>?_)
 · cases hf; exact M 1 Z (Y Z h)
 refine W 2 Z (AS Z (AO.aM (l:=v1.aW) Z Z Z Z jC Z (aj.aC _) (U 2 Z (An 4 34 38 [1] (v1.kind != 4) Z Z Z Z (U 1 Z (An 4 39 43 [1] (v1.kind != 5) Z Z Z Z (J 0 Z (C hf Z (fun h9 hf=>?_) fun h9 hf=>?_))))))))
 · cases hf; exact M 1 Z (Y Z h)
 refine W 2 Z (AS Z (AO.aM (l:=v1.keys) Z Z Z Z eO Z Z (U 2 Z (On 4 48 52 [] (v1.kind == 5) Z Z Z Z ?_)))); cases hf; exact N 1 Z (Y Z h)
theorem Q7 (s1:Str) {r0:Bool} (hf:Dq s1=some r0) (h:Q (.ret (.bool r0)) τ):PC 239 [.str s1] τ Q:=by
 unfold Dq at hf; refine BN 11 [.tmp 2] [0] Tryz.func239 Z Z Z Z Z (W 2 Z (AS Z (AO.bG Z Z Z Z bN Z (U 2 Z (AR.and 4 6 10 [] (x:=(decide ((s1.length:Int)≤64))) Z Z (fun h1=>?_) (fun h1=>?_) ?_)))))
 · refine Is 6 h1 Z (U 1 Z (GO Z (AO.bG Z Z Z Z bN Z ?_))); exact dB 2 Z (En [10] Z)
 · refine Is 6 h1 Z ?_; exact dB 4 Z (En [10] Z)
 cases hf; exact N 1 Z (Y Z h)
theorem sW (Px:Bool) (DJ:Bool) {r0:Int} (hf:nW Px DJ=some r0) (h:Q (.ret (iP r0)) τ):PC 139 [.bool Px,.bool DJ] τ Q:=by
 unfold nW at hf; refine BN 7 [.tmp 4] [0,1] Tryz.func139 Z Z Z Z Z (V 2 Z (C hf Z (fun h1 hf=>?_) fun h1 hf=>?_))
 · cases hf; exact M 1 Z (Y Z h)
 refine V 1 Z (C hf Z (fun h2 hf=>?_) fun h2 hf=>?_)
 · cases hf; exact M 1 Z (Y Z h)
 cases hf; exact M 1 Z (Y Z h)
theorem A8 (c1:UInt8) {r0:Bool} (hf:uR c1=some r0) (h:Q (.ret (.bool r0)) τ):PC 140 [.int .u8 (c1.toNat:Int)] τ Q:=by
 unfold uR at hf; refine BN 9 [.tmp 2] [0] Tryz.func140 Z Z Z Z Z (W 4 Z (An 3 5 8 [] (decide ((c1.toNat:Int)≤57)) Z Z Z Z ?_)); cases hf; exact N 1 Z (Y Z h)
theorem KH (s1:Str) (ig:Int) {r0:Int} (hf:Dt s1 ig=some r0) (h:Q (.ret (iP r0)) τ):PC 141 [.str s1,iP ig] τ Q:=by
 unfold Dt at hf; refine BN 18 [.tmp 4] [0,1] Tryz.func141 Z Z Z Z Z (V 1 Z (Jh (fun at2=>[(0,.str s1),(1,iP at2)]) (fun at2=>[]) (fun bP at2=>vv s1 bP at2=some r0) BIG ig Z Z hf (fun _ hz=>aU hz) ?_)); intro bP at2 hf; rw [vv] at hf; refine W 2 Z (AS Z (AO.bG Z Z Z Z bN Z ?_)); refine B1 hf fun b1 h2 hf=>U 2 Z (AR.dx 5 9 14 true [0,1] b1 Z Z (fun h1=>?_) (fun h1=>?_) ?_)
 · refine IT 9 h1 h2 Z fun h2=>?_; refine B1 h2 fun x1 h3 h2=>U 2 Z (GO Z (AO.dH h3 Z bN Z Z ?_)); refine BR h2 fun x2 h4 h2=>?_; refine GO Z (AO.call Z _ Z Z Sy (A8 _ h4 ?_)); cases h2; exact dB 1 Z (En [14,0,1] Z)
 · refine IF 9 h1 h2 Z fun h2=>?_; cases h2; exact dB 5 Z (En [14,0,1] Z)
 refine J 0 Z (C hf Z (fun h5 hf=>?_) fun h5 hf=>?_)
 · exact M 3 Z ⟨(bQ (at2 + 1)),Z,Z,Z,hf⟩
 cases hf; exact M 2 Z (Y Z h)
theorem Fp (s1:Str) {r0:Str} (hf:uQ s1=some r0) (h:Q (.ret (.str r0)) τ):PC 221 [.str s1] τ Q:=by
 unfold uQ at hf; refine BN 19 [.tmp 2] [0] Tryz.func221 Z Z Z Z Z (V 2 Z (Jh (fun i1=>[(0,.str s1),(3,iP i1)]) (fun i1=>[]) (fun bP i1=>nV s1 bP i1=some r0) BIG 0 Z Z hf (fun _ hz=>aU hz) ?_)); intro bP i1 hf; rw [nV] at hf; refine W 2 Z (AS Z (AO.bG Z Z Z Z bN Z ?_)); refine B1 hf fun b1 h2 hf=>U 2 Z (AR.dx 5 8 13 true [0,3] b1 Z Z (fun h1=>?_) (fun h1=>?_) ?_)
 · refine IT 8 h1 h2 Z fun h2=>?_; refine B1 h2 fun x1 h3 h2=>U 2 Z (GO Z (AO.dH h3 Z bN Z Z ?_)); cases h2; exact dB 2 Z (En [13,0,3] Z)
 · refine IF 8 h1 h2 Z fun h2=>?_; cases h2; exact dB 5 Z (En [13,0,3] Z)
 refine J 0 Z (C hf Z (fun h4 hf=>?_) fun h4 hf=>?_)
 · exact M 3 Z ⟨(bQ (i1 + 1)),Z,Z,Z,hf⟩
 refine BR hf fun x2 h5 hf=>?_; refine W 2 Z (AS Z (AO.lW h5 Z bN Z ⟨_,Z⟩ Z ?_)); cases hf; exact N 1 Z (Y Z h)
theorem OW (a1:Str) (b1:Str) {r0:Int} (hf:Ab a1 b1=some r0) (h:Q (.ret (iP r0)) τ):PC 142 [.str a1,.str b1] τ Q:=by
 unfold Ab at hf; refine BN 48 [.tmp 4] [0,1] Tryz.func142 Z Z Z Z Z ?_; refine B1 hf fun x1 h1 hf=>W 2 Z (CL Z (Fp _ h1 ?_)); refine B1 hf fun y1 h2 hf=>U 1 Z (CL Z (Fp _ h2 (U 3 Z (AS Z (AO.bG Z Z Z Z bN Z (U 1 Z (AS Z (AO.bG Z Z Z Z bN Z (J 1 Z (C hf Z (fun h3 hf=>?_) fun h3 hf=>?_))))))))))
 · refine W 1 Z (AS Z (AO.bG Z Z Z Z bN Z (U 1 Z (AS Z (AO.bG Z Z Z Z bN Z (U 2 Z (AS Z (AO.bG Z Z Z Z bN Z (U 1 Z (AS Z (AO.bG Z Z Z Z bN Z ?_))))))))))); refine BR hf fun x2 h4 hf=>?_; refine U 1 Z (CL Z (sW _ _ h4 ?_)); cases hf; exact N 1 Z (Y Z h)
 refine V 3 Z (C hf Z (fun h5 hf=>?_) fun h5 hf=>?_)
 · refine BR hf fun x3 h6 hf=>?_; refine W 6 Z (CL Z (sW _ _ h6 ?_)); cases hf; exact N 1 Z (Y Z h)
 refine W 1 Z (AS Z (AO.bG Z Z Z Z bN Z (U 1 Z (AS Z (AO.bG Z Z Z Z bN Z (U 2 Z (AS Z (AO.bG Z Z Z Z bN Z (U 1 Z (AS Z (AO.bG Z Z Z Z bN Z ?_))))))))))); refine BR hf fun x4 h7 hf=>?_; refine U 1 Z (CL Z (sW _ _ h7 ?_)); cases hf; exact N 1 Z (Y Z h)
theorem JV (a1:Str) (b1:Str) {r0:Int} (hf:nI a1 b1=some r0) (h:Q (.ret (iP r0)) τ):PC 84 [.str a1,.str b1] τ Q:=by
 unfold nI at hf; refine BN 78 [.tmp 4] [0,1] Tryz.func84 Z Z Z Z Z (V 3 Z (KN (fun i1 qc=>[(0,.str a1),(1,.str b1),(5,iP i1),(6,iP qc)]) (fun i1 qc=>[]) (fun bP i1 qc=>jv a1 b1 bP i1 qc=some r0) BIG 0 0 Z Z hf (fun _ _ hz=>aU hz) ?_)); intro bP i1 qc hf; rw [jv] at hf; refine W 2 Z (AS Z (AO.bG Z Z Z Z bN Z (U 2 Z (AR.and 5 14 19 [0,1,5,6] (x:=(decide (qc < (b1.length:Int)))) Z Z (fun h1=>?_) (fun h1=>?_) ?_))))
 · refine Is 14 h1 Z (U 2 Z (GO Z (AO.bG Z Z Z Z bN Z ?_))); exact dB 2 Z (En [19,0,1,5,6] Z)
 · refine Is 14 h1 Z ?_; exact dB 5 Z (En [19,0,1,5,6] Z)
 refine J 0 Z (C hf Z (fun h2 hf=>?_) fun h2 hf=>?_)
 ·
  refine V 0 Z (AW.draw 16 mixed (by kernel_rfl) Z ?_); refine Ev.cs aR 2 Z ?_; refine B1 hf fun x1 h3 hf=>Ev.cons Z Z Z (AO.dH h3 Z bN Z Z zg) (Ev.cs aR 2 Z ?_); refine B1 hf fun x2 h4 hf=>Ev.cons Z Z Z (AO.dH h4 Z bN Z Z zg) (Ev.cs aR 3 Z ?_); refine B1 hf fun x3 h5 hf=>Ev.cons Z Z Z (AO.dH h5 Z bN Z Z zg) (Ev.cs aR 2 Z ?_); refine B1 hf fun x4 h6 hf=>Ev.cons Z Z Z (AO.dH h6 Z bN Z Z zg) (Ev.cs aR 1 Z ?_); refine B1 hf fun c1 h7 hf=>Ev.cons Z Z Z (AO.call Z _ Z Z WV (sW _ _ h7 zg)) (Ev.cs aR 1 Z (Ev.nil ?_)); show AR _ _ _ _ _ _ _ _; refine B1 hf fun x5 h8 hf=>U 8 Z (AS Z (AO.dH h8 Z bN Z Z ?_)); refine B1 hf fun x6 h9 hf=>CL Z (A8 _ h9 ?_); refine B1 hf fun b2 h11 hf=>U 1 Z (AR.dx 5 43 48 true [0,1,5,6,7,8,9] b2 Z Z (fun h10=>?_) (fun h10=>?_) ?_)
  · refine IT 43 h10 h11 Z fun h11=>?_; refine B1 h11 fun x7 h12 h11=>U 2 Z (GO Z (AO.dH h12 Z bN Z Z ?_)); refine BR h11 fun x8 m_ h11=>?_; refine GO Z (AO.call Z _ Z Z Sy (A8 _ m_ ?_)); cases h11; exact dB 1 Z (En [48,0,1,5,6,7,8,9] Z)
  · refine IF 43 h10 h11 Z fun h11=>?_; cases h11; exact dB 5 Z (En [48,0,1,5,6,7,8,9] Z)
  refine J 0 Z (C hf Z (fun lC hf=>?_) fun lC hf=>?_)
  ·
   refine B1 hf fun m1 nR hf=>W 2 Z (CL Z (KH _ _ nR ?_)); refine B1 hf fun n1 h16 hf=>U 2 Z (CL Z (KH _ _ h16 (J 2 Z (AW.draw 10 mixed (by kernel_rfl) Z ?_)))); refine Ev.cs aR 3 Z ?_; refine B1 hf fun x9 wP hf=>Ev.cons Z Z Z (AO.lW wP Z bN Z ⟨_,Z⟩ ⟨_,Z⟩ zg) (Ev.cs aR 3 Z ?_); refine B1 hf fun NU h18 hf=>Ev.cons Z Z Z (AO.lW h18 Z bN Z ⟨_,Z⟩ ⟨_,Z⟩ zg) ?_; refine B1 hf fun c2 h19 hf=>Ev.cons Z Z Z (AO.call Z _ Z Z WU (OW _ _ h19 zg)) (Ev.cs aR 1 Z (Ev.nil ?_)); show AR _ _ _ _ _ _ _ _; refine J 2 Z (C hf Z (fun h20 hf=>?_) fun h20 hf=>?_)
   · cases hf; exact M 2 Z (Y Z h)
   exact M 4 Z ⟨m1,n1,Z,Z,Z,hf⟩
  refine V 2 Z (C hf Z (fun h21 hf=>?_) fun h21 hf=>?_)
  · cases hf; exact M 2 Z (Y Z h)
  exact M 4 Z ⟨(bQ (i1 + 1)),(bQ (qc + 1)),Z,Z,Z,hf⟩
 refine W 2 Z (AS Z (AO.bG Z Z Z Z bN Z (U 3 Z (AS Z (AO.bG Z Z Z Z bN Z ?_))))); refine BR hf fun Cu h22 hf=>?_; refine U 1 Z (CL Z (sW _ _ h22 ?_)); cases hf; exact N 1 Z (Y Z h)
theorem F6 (v1:aj) {r0:Bool} (hf:oN v1=some r0) (h:Q (.ret (.bool r0)) τ):PC 164 [.agg (aT v1)] τ Q:=by
 unfold oN at hf; refine BN 44 [.tmp 2] [0] Tryz.func164 Z Z Z Z Z (V 3 Z (Jh (fun i1=>[(1,.ref (aT v1)),(3,iP i1)]) (fun i1=>[]) (fun bP i1=>jV v1 bP i1=some r0) BIG 0 Z Z hf (fun _ hz=>aU hz) ?_)); intro bP i1 hf; rw [jV] at hf; refine W 3 Z (AS Z (AO.aM (l:=v1.keys) Z Z Z Z eO Z Z (J 1 Z (C hf Z (fun h1 hf=>?_) fun h1 hf=>?_))))
 ·
  refine V 0 Z (AW.draw 26 mixed (by kernel_rfl) Z ?_); refine Ev.cs aR 3 Z ?_; refine B1 hf fun e1 h2 hf=>Ev.cons Z Z Z (AO.aK h2 Z Z Z Z eO Z Z zg) (Ev.cs aR 1 Z ?_); refine B1 hf fun x1 h3 hf=>Ev.cons Z Z Z (AO.call Z _ Z Z WA (Q7 _ h3 zg)) (Ev.cs aR 2 Z ?_); refine B1 hf fun b1 h5 hf=>Ev.dx hKA 18 18 36 false [1,3] (.bool b1) Z Z (fun h4=>?_) (fun h4=>?_) ?_
  ·
   replace h5:=jH h4 h5; refine Ev.is Xo 18 h4 Z (Ev.cs aR 3 Z ?_); refine BR h5 fun b2 h7 h5=>?_; refine Ev.dx Xo 14 21 35 true [1,3,18] (.bool b2) Z Z (fun h6=>?_) (fun h6=>?_) ?_
   ·
    replace h7:=kg h6 h7; refine Ev.is Xo 21 h6 Z (Ev.cs aR 4 Z ?_); refine B1 h7 fun e2 h8 h7=>Ev.run Z Z Z Z Z Z Z (AO.aK h8 Z Z Z Z eO Z Z zg) (Ev.cs aR 4 Z ?_); refine B1 h7 fun e3 h9 h7=>Ev.run Z Z Z Z Z Z Z (AO.aK h9 Z Z Z Z eO Z Z zg) (Ev.cs aR 1 Z ?_); refine B1 h7 fun x2 h10 h7=>Ev.run Z Z Z Z Z Z Z (AO.call Z _ Z Z Yq (JV _ _ h10 zg)) (Ev.cs aR 1 Z ?_); cases h7; refine Ev.cs aR 1 Z ?_; exact Ev.nil (Less.settle (ps:=[35,1,3,18]) Z)
   · replace h7:=jH h6 h7; refine Ev.is Xo 21 h6 Z ?_; cases h7; refine Ev.cs aR 14 Z ?_; exact Ev.nil (Less.settle (ps:=[35,1,3,18]) Z)
   cases h5; refine Ev.cs aR 1 Z ?_; exact Ev.nil (Less.settle (ps:=[36,1,3]) Z)
  · replace h5:=kg h4 h5; refine Ev.is Xo 18 h4 Z ?_; cases h5; refine Ev.cs aR 18 Z ?_; exact Ev.nil (Less.settle (ps:=[36,1,3]) Z)
  refine Ev.nil ?_; show AR _ _ _ _ _ _ _ _; refine J 0 Z (C hf Z (fun h11 hf=>?_) fun h11 hf=>?_)
  · cases hf; exact M 1 Z (Y Z h)
  exact M 3 Z ⟨(bQ (i1 + 1)),Z,Z,Z,hf⟩
 refine W 2 Z (AS Z (AO.aM (l:=v1.keys) Z Z Z Z eO Z Z (U 2 Z (AS Z (AO.aM (l:=v1.aW) Z Z Z Z jC Z (aj.aC _) ?_))))); cases hf; exact N 2 Z (Y Z h)
abbrev Fz (jm:aj→Int→Option Int):Prop:=∀ (o8:aj) (dA:Int) {aL:Int},jm o8 dA=some aL→∀ {τ:List aJ} {Q:cK→List aJ→Prop} (h:Q (.ret (iP aL)) τ),PC 93 [.agg (aT o8),iP dA] τ Q
theorem Mt (jm) (JH:Fz jm) (v1:aj) (bf:Int) {r0:Int} (hf:wI jm v1 bf=some r0) (h:Q (.ret (iP r0)) τ):PC 93 [.agg (aT v1),iP bf] τ Q:=by
 unfold wI at hf; refine BN 85 [.tmp 4] [0,1] Tryz.func93 Z Z Z Z Z (V 4 Z (C hf Z (fun h1 hf=>?_) fun h1 hf=>?_))
 · cases hf; exact M 1 Z (Y Z h)
 refine W 4 Z (On 4 12 16 [1,2] (decide (5 < v1.kind)) Z Z Z Z ?_); refine B1 hf fun b1 h4 hf=>U 1 Z (AR.dx 4 17 21 false [1,2] b1 Z Z (fun h3=>?_) (fun h3=>?_) ?_)
 · refine IF 17 h3 h4 Z fun h4=>?_; refine B1 h4 fun x1 h5 h4=>U 1 Z (GO Z (AO.call Z _ Z Z WQ (NH _ h5 ?_))); cases h4; exact dB 2 Z (En [21,1,2] Z)
 · refine IT 17 h3 h4 Z fun h4=>?_; cases h4; exact dB 4 Z (En [21,1,2] Z)
 refine J 0 Z (C hf Z (fun h6 hf=>?_) fun h6 hf=>?_)
 · cases hf; exact M 1 Z (Y Z h)
 refine W 4 Z (On 4 25 29 [1,2] (decide (9007199254740992 < v1.iG)) Z Z Z Z (J 0 Z (C hf Z (fun h8 hf=>?_) fun h8 hf=>?_)))
 · cases hf; exact M 1 Z (Y Z h)
 refine W 2 Z (AS Z (AO.bG Z Z Z Z bN Z (U 2 Z (AR.or 5 34 39 [1,2] (x:=(decide (1024 < (v1.aW.length:Int)))) Z Z (fun h9=>?_) (fun h9=>?_) ?_))))
 · refine Is 34 h9 Z (U 2 Z (GO Z (AO.aM (l:=v1.aW) Z Z Z Z jC Z (aj.aC _) ?_))); exact dB 2 Z (En [39,1,2] Z)
 · refine Is 34 h9 Z ?_; exact dB 5 Z (En [39,1,2] Z)
 refine U 1 Z (AR.or 5 40 45 [1,2] (x:=(decide (1024 < (v1.keys.length:Int)))) Z Z (fun h10=>?_) (fun h10=>?_) ?_)
 · refine Is 40 h10 Z (U 2 Z (GO Z (AO.aM (l:=v1.keys) Z Z Z Z eO Z Z ?_))); exact dB 2 Z (En [45,1,2] Z)
 · refine Is 40 h10 Z ?_; exact dB 5 Z (En [45,1,2] Z)
 refine J 0 Z (C hf Z (fun h11 hf=>?_) fun h11 hf=>?_)
 · cases hf; exact M 1 Z (Y Z h)
 refine B1 hf fun b2 m_ hf=>W 4 Z (AR.dx 4 49 53 true [1,2] b2 Z Z (fun h12=>?_) (fun h12=>?_) ?_)
 · refine IT 49 h12 m_ Z fun m_=>?_; refine B1 m_ fun x2 lC m_=>U 1 Z (GO Z (AO.call Z _ Z Z WO (F6 _ lC ?_))); cases m_; exact dB 2 Z (En [53,1,2] Z)
 · refine IF 49 h12 m_ Z fun m_=>?_; cases m_; exact dB 4 Z (En [53,1,2] Z)
 refine J 0 Z (C hf Z (fun nR hf=>?_) fun nR hf=>?_)
 · cases hf; exact M 1 Z (Y Z h)
 refine W 4 Z (AR.and 5 57 62 [1,2] (x:=((v1.aW.length:Int) == 0)) Z Z (fun h16=>?_) (fun h16=>?_) ?_)
 · refine Is 57 h16 Z (U 2 Z (GO Z (AO.aM (l:=v1.aW) Z Z Z Z jC Z (aj.aC _) ?_))); exact dB 2 Z (En [62,1,2] Z)
 · refine Is 57 h16 Z ?_; exact dB 5 Z (En [62,1,2] Z)
 refine U 1 Z (An 3 63 66 [1,2] (bf == 16) Z Z Z Z (J 0 Z (C hf Z (fun h18 hf=>?_) fun h18 hf=>?_)))
 · cases hf; exact M 1 Z (Y Z h)
 refine V 1 Z (Jh (fun i1=>[(1,iP bf),(2,.ref (aT v1)),(5,iP i1)]) (fun i1=>[]) (fun bP i1=>qA jm v1 bf bP i1=some r0) BIG 0 Z Z hf (fun _ hz=>aU hz) ?_); intro bP i1 hf; rw [qA] at hf; refine W 3 Z (AS Z (AO.aM (l:=v1.aW) Z Z Z Z jC Z (aj.aC _) (J 1 Z (C hf Z (fun h19 hf=>?_) fun h19 hf=>?_))))
 ·
  refine B1 hf fun e1 h20 hf=>W 3 Z (AS Z (AO.aK h20 Z Z (aj.aC _) Z jC (aj.aF _) Z ?_)); refine B1 hf fun e2 h21 hf=>U 3 Z (CL Z (JH _ _ h21 (J 3 Z (C hf Z (fun h22 hf=>?_) fun h22 hf=>?_))))
  · cases hf; exact M 2 Z (Y Z h)
  exact M 3 Z ⟨(bQ (i1 + 1)),Z,Z,Z,hf⟩
 cases hf; exact M 1 Z (Y Z h)
theorem M9 :∀ k:Nat,(Fz (kR k)):=by
 intro k
 induction k with
 | zero=>exact fun _ _ _ hz=>by first | cases hz | (unfold kR at hz; cases hz)
 | succ k ih=>exact fun o8 dA aL hz τ Q hq=>Mt (kR k) ih o8 dA hz hq
theorem NI (o8:aj) (dA:Int) {aL:Int} (hf:Em o8 dA=some aL) (h:Q (.ret (iP aL)) τ):PC 93 [.agg (aT o8),iP dA] τ Q:=
 ((M9 BIG)) o8 dA hf h
theorem Fj (v1:aj) {r0:Int} (hf:uP v1=some r0) (h:Q (.ret (iP r0)) τ):PC 56 [.agg (aT v1)] τ Q:=by
 unfold uP at hf; refine BN 5 [.tmp 2] [0] Tryz.func56 Z Z Z Z Z ?_; refine BR hf fun x1 h1 hf=>?_; refine W 3 Z (CL Z (NI _ _ h1 ?_)); cases hf; exact N 1 Z (Y Z h)
theorem Ny (rH:List Str) {r0:Bool} (hf:xH rH=some r0) (h:Q (.ret (.bool r0)) τ):PC 194 [sP rH] τ Q:=by
 unfold xH at hf; refine BN 25 [.tmp 2] [0] Tryz.func194 Z Z Z Z Z (V 2 Z (Jh (fun i1=>[(0,sP rH),(3,iP i1)]) (fun i1=>[]) (fun bP i1=>kN rH bP i1=some r0) BIG 0 Z Z hf (fun _ hz=>aU hz) ?_)); intro bP i1 hf; rw [kN] at hf; refine W 2 Z (AS Z (AO.aM (l:=rH) Z Z Z Z eO Z Z (J 1 Z (C hf Z (fun h1 hf=>?_) fun h1 hf=>?_))))
 ·
  refine V 1 Z (Jh (fun qc=>[(0,sP rH),(3,iP i1),(4,iP qc)]) (fun qc=>[]) (fun KA qc=>nS rH i1 (kN rH bP) KA qc=some r0) BIG 0 Z Z hf (fun _ hz=>aU hz) ?_); intro KA qc hf; rw [nS] at hf; refine V 3 Z (C hf Z (fun h2 hf=>?_) fun h2 hf=>?_)
  ·
   refine V 0 Z (AW.draw 9 mixed (by kernel_rfl) Z ?_); refine Ev.cs aR 2 Z ?_; refine B1 hf fun e1 h3 hf=>Ev.cons Z Z Z (AO.aK h3 Z Z Z Z eO Z Z zg) (Ev.cs aR 3 Z ?_); refine B1 hf fun e2 h4 hf=>Ev.cons Z Z Z (AO.aK h4 Z Z Z Z eO Z Z zg) (Ev.cs aR 2 Z (Ev.nil ?_)); show AR _ _ _ _ _ _ _ _; refine J 0 Z (C hf Z (fun h5 hf=>?_) fun h5 hf=>?_)
   · cases hf; exact M 1 Z (Y Z h)
   exact M 3 Z ⟨(bQ (qc + 1)),Z,Z,Z,hf⟩
  exact M 3 Z ⟨(bQ (i1 + 1)),Z,Z,Z,hf⟩
 cases hf; exact M 1 Z (Y Z h)
abbrev Fx (jk:ah→Int→Option Int):Prop:=∀ (eD:ah) (dA:Int) {aL:Int},jk eD dA=some aL→∀ {τ:List aJ} {Q:cK→List aJ→Prop} (h:Q (.ret (iP aL)) τ),PC 118 [.agg (aQ eD),iP dA] τ Q
theorem Mr (jk) (JF:Fx jk) (e1:ah) (bf:Int) {r0:Int} (hf:wF jk e1 bf=some r0) (h:Q (.ret (iP r0)) τ):PC 118 [.agg (aQ e1),iP bf] τ Q:=by
 unfold wF at hf; refine BN 49 [.tmp 4] [0,1] Tryz.func118 Z Z Z Z Z (V 4 Z (C hf Z (fun h1 hf=>?_) fun h1 hf=>?_))
 · cases hf; exact M 1 Z (Y Z h)
 refine B1 hf fun x1 h2 hf=>W 1 Z (CL Z (LX _ h2 (J 1 Z (C hf Z (fun h3 hf=>?_) fun h3 hf=>?_))))
 · cases hf; exact M 1 Z (Y Z h)
 refine B1 hf fun f1 h4 hf=>W 2 Z (CL Z (Fj _ h4 (U 5 Z (An 3 19 22 [1,2,5] (f1 != 0) Z Z Z Z (J 0 Z (C hf Z (fun h6 hf=>?_) fun h6 hf=>?_))))))
 · cases hf; exact M 2 Z (Y Z h)
 refine W 2 Z (AS Z (AO.aM (l:=e1.args) Z Z Z Z dQ Z (ah.aC _) (J 1 Z (C hf Z (fun h7 hf=>?_) fun h7 hf=>?_))))
 · cases hf; exact M 1 Z (Y Z h)
 refine B1 hf fun x2 h8 hf=>W 2 Z (CL Z (Ny _ h8 (J 0 Z (C hf Z (fun h9 hf=>?_) fun h9 hf=>?_))))
 · cases hf; exact M 1 Z (Y Z h)
 refine V 1 Z (Jh (fun i1=>[(1,iP bf),(2,.ref (aQ e1)),(6,iP i1)]) (fun i1=>[]) (fun bP i1=>qy jk e1 bf bP i1=some r0) BIG 0 Z Z hf (fun _ hz=>aU hz) ?_); intro bP i1 hf; rw [qy] at hf; refine W 3 Z (AS Z (AO.aM (l:=e1.args) Z Z Z Z dQ Z (ah.aC _) (J 1 Z (C hf Z (fun h10 hf=>?_) fun h10 hf=>?_))))
 ·
  refine B1 hf fun e2 h11 hf=>W 3 Z (AS Z (AO.aK h11 Z Z (ah.aC _) Z dQ (ah.aF _) Z ?_)); refine B1 hf fun f2 h12 hf=>U 3 Z (CL Z (JF _ _ h12 (J 3 Z (C hf Z (fun m_ hf=>?_) fun m_ hf=>?_))))
  · cases hf; exact M 2 Z (Y Z h)
  exact M 3 Z ⟨(bQ (i1 + 1)),Z,Z,Z,hf⟩
 cases hf; exact M 1 Z (Y Z h)
theorem M7 :∀ k:Nat,(Fx (kP k)):=by
 intro k
 induction k with
 | zero=>exact fun _ _ _ hz=>by first | cases hz | (unfold kP at hz; cases hz)
 | succ k ih=>exact fun eD dA aL hz τ Q hq=>Mr (kP k) ih eD dA hz hq
theorem NA (eD:ah) (dA:Int) {aL:Int} (hf:Ej eD dA=some aL) (h:Q (.ret (iP aL)) τ):PC 118 [.agg (aQ eD),iP dA] τ Q:=
 ((M7 BIG)) eD dA hf h
theorem ND (e1:ah) {r0:Int} (hf:xK e1=some r0) (h:Q (.ret (iP r0)) τ):PC 73 [.agg (aQ e1)] τ Q:=by
 unfold xK at hf; refine BN 8 [.tmp 2] [0] Tryz.func73 Z Z Z Z Z ?_; refine B1 hf fun x1 h1 hf=>W 3 Z (CL Z (Fh _ h1 (J 1 Z (C hf Z (fun h2 hf=>?_) fun h2 hf=>?_))))
 · cases hf; exact M 1 Z (Y Z h)
 refine BR hf fun x2 h3 hf=>?_; refine W 1 Z (CL Z (NA _ _ h3 ?_)); cases hf; exact N 1 Z (Y Z h)
abbrev Cq (j4:Int→Option Str):Prop:=∀ (FI:Int) {aL:Str},j4 FI=some aL→∀ {τ:List aJ} {Q:cK→List aJ→Prop} (h:Q (.ret (.str aL)) τ),PC 132 [iP FI] τ Q
theorem Jp (j4) (zw:Cq j4) (n1:Int) {r0:Str} (hf:mP j4 n1=some r0) (h:Q (.ret (.str r0)) τ):PC 132 [iP n1] τ Q:=by
 unfold mP at hf; refine BN 40 [.tmp 2] [0] Tryz.func132 Z Z Z Z Z (V 3 Z (C hf Z (fun h1 hf=>?_) fun h1 hf=>?_))
 ·
  refine V 2 Z (C hf Z (fun h2 hf=>?_) fun h2 hf=>?_)
  · refine W 2 Z (AS Z (AO.DW Z RF uj Z (AS Z (AO.bn (List.map dL ([(Ft.byteOf (bQ (48 - n1)))]:List UInt8)) Z mY Z Z Z Z (AS Z (AO.gJ Z ql uj bN Z Z ?_)))))); refine BR hf fun x1 h3 hf=>?_; refine AS Z (AO.cB h3 Z Z Z ?_); cases hf; exact N 1 Z (Y Z h)
  refine V 0 Z (AW.draw 11 mixed (by kernel_rfl) Z ?_); refine Ev.cs aR 1 Z (Ev.cons Z Z Z (AO.quo Z Z Z (by decide) zg) ?_); refine B1 hf fun x2 h4 hf=>Ev.cons Z Z Z (AO.call Z _ Z Z SA (zw _ h4 zg)) (Ev.cs aR 1 Z (Ev.cons Z Z Z (AO.rem Z Z Z (by decide) zg) ?_)); refine Ev.cs aR 1 Z (Ev.cons Z Z Z (AO.DW Z RF uj Z zg) (Ev.cons Z Z Z (AO.bn (List.map dL ([(Ft.byteOf (bQ (48 - ((n1:Int).tmod 10))))]:List UInt8)) Z mY Z Z Z Z zg) (Ev.cons Z Z Z (AO.gJ Z ql uj bN Z Z zg) ?_))); refine BR hf fun x3 h5 hf=>?_; refine Ev.cons Z Z Z (AO.cB h5 Z Z Z zg) (Ev.cs aR 1 Z (Ev.nil ?_)); show AR _ _ _ _ _ _ _ _; cases hf; exact N 0 Z (Y Z h)
 refine V 2 Z (C hf Z (fun h6 hf=>?_) fun h6 hf=>?_)
 · refine W 2 Z (AS Z (AO.DW Z RF uj Z (AS Z (AO.bn (List.map dL ([(Ft.byteOf (bQ (48 + n1)))]:List UInt8)) Z mY Z Z Z Z (AS Z (AO.gJ Z ql uj bN Z Z ?_)))))); cases hf; exact N 1 Z (Y Z h)
 refine V 0 Z (AW.draw 11 mixed (by kernel_rfl) Z ?_); refine Ev.cs aR 1 Z (Ev.cons Z Z Z (AO.quo Z Z Z (by decide) zg) ?_); refine B1 hf fun x4 h7 hf=>Ev.cons Z Z Z (AO.call Z _ Z Z SA (zw _ h7 zg)) (Ev.cs aR 1 Z (Ev.cons Z Z Z (AO.rem Z Z Z (by decide) zg) ?_)); refine Ev.cs aR 1 Z (Ev.cons Z Z Z (AO.DW Z RF uj Z zg) (Ev.cons Z Z Z (AO.bn (List.map dL ([(Ft.byteOf (bQ (48 + ((n1:Int).tmod 10))))]:List UInt8)) Z mY Z Z Z Z zg) (Ev.cons Z Z Z (AO.gJ Z ql uj bN Z Z zg) ?_))); refine BR hf fun x5 h8 hf=>?_; refine Ev.cons Z Z Z (AO.cB h8 Z Z Z zg) (Ev.cs aR 1 Z (Ev.nil ?_)); show AR _ _ _ _ _ _ _ _; cases hf; exact N 0 Z (Y Z h)
theorem Jz :∀ k:Nat,(Cq (fV k)):=by
 intro k
 induction k with
 | zero=>exact fun _ _ hz=>by first | cases hz | (unfold fV at hz; cases hz)
 | succ k ih=>exact fun FI aL hz τ Q hq=>Jp (fV k) ih FI hz hq
theorem JU (FI:Int) {aL:Str} (hf:wJ FI=some aL) (h:Q (.ret (.str aL)) τ):PC 132 [iP FI] τ Q:=
 ((Jz BIG)) FI hf h
theorem F5 (c1:UInt8) {r0:Str} (hf:oM c1=some r0) (h:Q (.ret (.str r0)) τ):PC 214 [.int .u8 (c1.toNat:Int)] τ Q:=by
 unfold oM at hf; refine BN 44 [.tmp 2] [0] Tryz.func214 Z Z Z Z Z (V 4 Z (C hf Z (fun h1 hf=>?_) fun h1 hf=>?_))
 · refine W 0 Z (AS Z (AO.bn (List.map dL ([92,34]:List UInt8)) Z mY Z Z Z Z (AS Z (AO.gJ Z ql uj bN Z Z ?_)))); cases hf; exact N 1 Z (Y Z h)
 refine V 3 Z (C hf Z (fun h2 hf=>?_) fun h2 hf=>?_)
 · refine W 0 Z (AS Z (AO.bn (List.map dL ([92,92]:List UInt8)) Z mY Z Z Z Z (AS Z (AO.gJ Z ql uj bN Z Z ?_)))); cases hf; exact N 1 Z (Y Z h)
 refine V 3 Z (C hf Z (fun h3 hf=>?_) fun h3 hf=>?_)
 · refine W 0 Z (AS Z (AO.bn (List.map dL ([92,110]:List UInt8)) Z mY Z Z Z Z (AS Z (AO.gJ Z ql uj bN Z Z ?_)))); cases hf; exact N 1 Z (Y Z h)
 refine V 3 Z (C hf Z (fun h4 hf=>?_) fun h4 hf=>?_)
 · refine W 0 Z (AS Z (AO.bn (List.map dL ([92,116]:List UInt8)) Z mY Z Z Z Z (AS Z (AO.gJ Z ql uj bN Z Z ?_)))); cases hf; exact N 1 Z (Y Z h)
 refine W 3 Z (An 3 27 30 [0] (decide ((c1.toNat:Int)≤126)) Z Z Z Z (J 1 Z (C hf Z (fun h6 hf=>?_) fun h6 hf=>?_)))
 · refine W 1 Z (AS Z (AO.bn (List.map dL ([c1]:List UInt8)) Z mY Z Z Z Z (AS Z (AO.gJ Z ql uj bN Z Z ?_)))); cases hf; exact N 1 Z (Y Z h)
 refine V 1 Z (AW.draw 11 mixed (by kernel_rfl) Z ?_); refine Ev.cs aR 2 Z (Ev.cons Z Z Z (AO.u8_quo c1 16 Z Z Z Z Z (by decide) zg) ?_); refine B1 hf fun x1 h7 hf=>Ev.cons Z Z Z (AO.dH h7 Z bN Z Z zg) (Ev.cs aR 2 Z (Ev.cons Z Z Z (AO.KW c1 16 Z Z Z Z Z (by decide) zg) ?_)); refine B1 hf fun x2 h8 hf=>Ev.cons Z Z Z (AO.dH h8 Z bN Z Z zg) (Ev.cons Z Z Z (AO.bn (List.map dL ([92,120,x1,x2]:List UInt8)) Z mY Z Z Z Z zg) (Ev.cons Z Z Z (AO.gJ Z ql uj bN Z Z zg) (Ev.cs aR 1 Z ?_))); refine Ev.nil ?_; show AR _ _ _ _ _ _ _ _; cases hf; exact N 0 Z (Y Z h)
theorem sV (s1:Str) {r0:Str} (hf:iD s1=some r0) (h:Q (.ret (.str r0)) τ):PC 133 [.str s1] τ Q:=by
 unfold iD at hf; refine BN 23 [.tmp 2] [0] Tryz.func133 Z Z Z Z Z (W 1 Z (AS Z (AO.bn (List.map dL ([34]:List UInt8)) Z mY Z Z Z Z (AS Z (AO.gJ Z ql uj bN Z Z (J 2 Z (KN (fun dw i1=>[(0,.str s1),(3,.str dw),(4,iP i1)]) (fun dw i1=>[]) (fun bP dw i1=>nU s1 bP dw i1=some r0) BIG ([34]:List UInt8) 0 Z Z hf (fun _ _ hz=>aU hz) ?_))))))); intro bP dw i1 hf; rw [nU] at hf; refine W 2 Z (AS Z (AO.bG Z Z Z Z bN Z (J 1 Z (C hf Z (fun h1 hf=>?_) fun h1 hf=>?_))))
 · refine B1 hf fun x1 h2 hf=>W 3 Z (AS Z (AO.dH h2 Z bN Z Z ?_)); refine B1 hf fun x2 h3 hf=>CL Z (F5 _ h3 ?_); refine B1 hf fun yG h4 hf=>AS Z (AO.cB h4 Z Z Z ?_); exact N 4 Z ⟨yG,(bQ (i1 + 1)),Z,Z,Z,hf⟩
 refine W 1 Z (AS Z (AO.bn (List.map dL ([34]:List UInt8)) Z mY Z Z Z Z (AS Z (AO.gJ Z ql uj bN Z Z ?_)))); refine BR hf fun x3 h5 hf=>?_; refine AS Z (AO.cB h5 Z Z Z ?_); cases hf; exact N 1 Z (Y Z h)
abbrev Co (dI:aj→Option Str):Prop:=∀ (o8:aj) {aL:Str},dI o8=some aL→∀ {τ:List aJ} {Q:cK→List aJ→Prop} (h:Q (.ret (.str aL)) τ),PC 79 [.agg (aT o8)] τ Q
theorem Jo (dI) (pq:Co dI) (v1:aj) {r0:Str} (hf:sw dI v1=some r0) (h:Q (.ret (.str r0)) τ):PC 79 [.agg (aT v1)] τ Q:=by
 unfold sw at hf; refine BN 63 [.tmp 2] [0] Tryz.func79 Z Z Z Z Z (V 6 Z (C hf Z (fun h1 hf=>?_) fun h1 hf=>?_))
 · cases hf; exact M 1 Z (Y Z h)
 refine V 2 Z (C hf Z (fun h2 hf=>?_) fun h2 hf=>?_)
 ·
  refine V 2 Z (C hf Z (fun h3 hf=>?_) fun h3 hf=>?_)
  · cases hf; exact M 1 Z (Y Z h)
  cases hf; exact M 1 Z (Y Z h)
 refine V 2 Z (C hf Z (fun h4 hf=>?_) fun h4 hf=>?_)
 · refine BR hf fun x1 h5 hf=>?_; refine W 2 Z (CL Z (JU _ h5 ?_)); cases hf; exact N 1 Z (Y Z h)
 refine V 2 Z (C hf Z (fun h6 hf=>?_) fun h6 hf=>?_)
 · refine BR hf fun x2 h7 hf=>?_; refine W 2 Z (CL Z (sV _ h7 ?_)); cases hf; exact N 1 Z (Y Z h)
 refine V 2 Z (KN (fun s1 i1=>[(1,.ref (aT v1)),(3,.str s1),(4,iP i1)]) (fun s1 i1=>[]) (fun bP s1 i1=>eH dI v1 bP s1 i1=some r0) BIG ([]:Str) 0 Z Z hf (fun _ _ hz=>aU hz) ?_); intro bP s1 i1 hf; rw [eH] at hf; refine W 3 Z (AS Z (AO.aM (l:=v1.aW) Z Z Z Z jC Z (aj.aC _) (J 1 Z (C hf Z (fun h8 hf=>?_) fun h8 hf=>?_))))
 ·
  refine V 2 Z (C hf Z (fun h9 hf=>?_) fun h9 hf=>?_)
  ·
   refine B1 hf fun s2 h10 hf=>W 1 Z (AS Z (AO.cB h10 Z Z Z (J 4 Z (C hf Z (fun h11 hf=>?_) fun h11 hf=>?_))))
   ·
    refine B1 hf fun e1 h12 hf=>W 4 Z (AS Z (AO.aK h12 Z Z Z Z eO Z Z ?_)); refine B1 hf fun x3 m_ hf=>U 1 Z (CL Z (sV _ m_ ?_)); refine B1 hf fun x4 lC hf=>AS Z (AO.cB lC Z Z Z ?_); refine B1 hf fun s3 nR hf=>AS Z (AO.cB nR Z Z Z ?_); refine B1 hf fun e2 h16 hf=>U 5 Z (AS Z (AO.aK h16 Z Z (aj.aC _) Z jC (aj.aF _) Z ?_)); refine B1 hf fun x5 wP hf=>U 1 Z (CL Z (pq _ wP ?_)); refine B1 hf fun s4 h18 hf=>AS Z (AO.cB h18 Z Z Z ?_); exact N 4 Z ⟨s4,(bQ (i1 + 1)),Z,Z,Z,hf⟩
   refine B1 hf fun e3 h19 hf=>W 4 Z (AS Z (AO.aK h19 Z Z (aj.aC _) Z jC (aj.aF _) Z ?_)); refine B1 hf fun x6 h20 hf=>U 1 Z (CL Z (pq _ h20 ?_)); refine B1 hf fun s5 h21 hf=>AS Z (AO.cB h21 Z Z Z ?_); exact N 4 Z ⟨s5,(bQ (i1 + 1)),Z,Z,Z,hf⟩
  refine V 3 Z (C hf Z (fun h22 hf=>?_) fun h22 hf=>?_)
  ·
   refine B1 hf fun e4 h23 hf=>W 4 Z (AS Z (AO.aK h23 Z Z Z Z eO Z Z ?_)); refine B1 hf fun x7 C_ hf=>U 1 Z (CL Z (sV _ C_ ?_)); refine B1 hf fun x8 FV hf=>AS Z (AO.cB FV Z Z Z ?_); refine B1 hf fun s6 PE hf=>AS Z (AO.cB PE Z Z Z ?_); refine B1 hf fun e5 h27 hf=>U 5 Z (AS Z (AO.aK h27 Z Z (aj.aC _) Z jC (aj.aF _) Z ?_)); refine B1 hf fun x9 Ic hf=>U 1 Z (CL Z (pq _ Ic ?_)); refine B1 hf fun s7 NZ hf=>AS Z (AO.cB NZ Z Z Z ?_); exact N 4 Z ⟨s7,(bQ (i1 + 1)),Z,Z,Z,hf⟩
  refine B1 hf fun e6 OD hf=>W 4 Z (AS Z (AO.aK OD Z Z (aj.aC _) Z jC (aj.aF _) Z ?_)); refine B1 hf fun NU h31 hf=>U 1 Z (CL Z (pq _ h31 ?_)); refine B1 hf fun s8 h32 hf=>AS Z (AO.cB h32 Z Z Z ?_); exact N 4 Z ⟨s8,(bQ (i1 + 1)),Z,Z,Z,hf⟩
 refine V 3 Z (C hf Z (fun Ib hf=>?_) fun Ib hf=>?_)
 · refine B1 hf fun Cu JE hf=>W 1 Z (AS Z (AO.cB JE Z Z Z ?_)); refine BR hf fun Qa NY hf=>?_; refine AS Z (AO.cB NY Z Z Z ?_); cases hf; exact N 1 Z (Y Z h)
 refine B1 hf fun N9 Lj hf=>W 1 Z (AS Z (AO.cB Lj Z Z Z ?_)); refine BR hf fun Mq h37 hf=>?_; refine AS Z (AO.cB h37 Z Z Z ?_); cases hf; exact N 1 Z (Y Z h)
theorem Jy :∀ k:Nat,(Co (dh k)):=by
 intro k
 induction k with
 | zero=>exact fun _ _ hz=>by first | cases hz | (unfold dh at hz; cases hz)
 | succ k ih=>exact fun o8 aL hz τ Q hq=>Jo (dh k) ih o8 hz hq
theorem JR (o8:aj) {aL:Str} (hf:z_ o8=some aL) (h:Q (.ret (.str aL)) τ):PC 79 [.agg (aT o8)] τ Q:=
 ((Jy BIG)) o8 hf h
theorem OU (v1:aj) {r0:Str} (hf:Aa v1=some r0) (h:Q (.ret (.str r0)) τ):PC 119 [.agg (aT v1)] τ Q:=by
 unfold Aa at hf; refine BN 8 [.tmp 2] [0] Tryz.func119 Z Z Z Z Z ?_; refine B1 hf fun x1 h1 hf=>W 3 Z (CL Z (Fj _ h1 (J 1 Z (C hf Z (fun h2 hf=>?_) fun h2 hf=>?_))))
 · cases hf; exact M 1 Z (Y Z h)
 refine BR hf fun x2 h3 hf=>?_; refine W 1 Z (CL Z (JR _ h3 ?_)); cases hf; exact N 1 Z (Y Z h)
theorem IG (e1:ah) {r0:Int} (hf:qx e1=some r0) (h:Q (.ret (iP r0)) τ):PC 195 [.agg (aQ e1)] τ Q:=by
 unfold qx at hf; refine BN 33 [.tmp 2] [0] Tryz.func195 Z Z Z Z Z (V 6 Z (C hf Z (fun h1 hf=>?_) fun h1 hf=>?_))
 · cases hf; exact M 1 Z (Y Z h)
 refine V 4 Z (C hf Z (fun h2 hf=>?_) fun h2 hf=>?_)
 · refine BR hf fun x1 h3 hf=>?_; refine W 2 Z (CL Z (vS _ h3 ?_)); cases hf; exact N 1 Z (Y Z h)
 refine V 4 Z (C hf Z (fun h4 hf=>?_) fun h4 hf=>?_)
 ·
  refine V 0 Z (AW.cond Z (fun h5=>?_) (fun h5=>?_))
  · cases hf; exact M 1 Z (Y Z h)
  cases h4.symm.trans h5
 refine W 4 Z (An 5 21 26 [1,14] (e1.value.kind == 2) Z Z Z Z (U 1 Z (An 5 27 32 [14] (decide (e1.value.iG < 0)) Z Z Z Z (J 1 Z (C hf Z (fun h8 hf=>?_) fun h8 hf=>?_)))))
 · cases hf; exact M 1 Z (Y Z h)
 cases hf; exact M 1 Z (Y Z h)
abbrev uL (bH:ah→Option Str):Prop:=∀ (eD:ah) {aL:Str},bH eD=some aL→∀ {τ:List aJ} {Q:cK→List aJ→Prop} (h:Q (.ret (.str aL)) τ),PC 74 [.agg (aQ eD)] τ Q
abbrev BM (eB:ah→Int→Option Str):Prop:=∀ (eD:ah) (tF:Int) {aL:Str},eB eD tF=some aL→∀ {τ:List aJ} {Q:cK→List aJ→Prop} (h:Q (.ret (.str aL)) τ),PC 120 [.agg (aQ eD),iP tF] τ Q
abbrev zm (fC:ah→Option Str):Prop:=∀ (eD:ah) {aL:Str},fC eD=some aL→∀ {τ:List aJ} {Q:cK→List aJ→Prop} (h:Q (.ret (.str aL)) τ),PC 121 [.agg (aQ eD)] τ Q
theorem KQ (bH) (fM:uL bH) (eB) (jS:BM eB) (fC) (qW:zm fC) (e1:ah) {r0:Str} (hf:fF bH eB fC e1=some r0) (h:Q (.ret (.str r0)) τ):PC 74 [.agg (aQ e1)] τ Q:=by
 unfold fF at hf; refine BN 119 [.tmp 2] [0] Tryz.func74 Z Z Z Z Z (V 6 Z (C hf Z (fun h1 hf=>?_) fun h1 hf=>?_))
 · refine BR hf fun x1 h2 hf=>?_; refine W 2 Z (CL Z (OU _ h2 ?_)); cases hf; exact N 1 Z (Y Z h)
 refine V 2 Z (C hf Z (fun h3 hf=>?_) fun h3 hf=>?_)
 · cases hf; exact M 3 Z (Y Z h)
 refine V 2 Z (C hf Z (fun h4 hf=>?_) fun h4 hf=>?_)
 ·
  refine V 0 Z (AW.draw 10 mixed (by kernel_rfl) Z ?_); refine Ev.cs aR 2 Z ?_; refine B1 hf fun e2 h5 hf=>Ev.cons Z Z Z (AO.aK h5 Z Z (ah.aC _) Z dQ (ah.aF _) Z zg) (Ev.cs aR 1 Z ?_); refine B1 hf fun x2 h6 hf=>Ev.cons Z Z Z (AO.call Z _ Z Z Ae (jS _ _ h6 zg)) ?_; refine B1 hf fun x3 h7 hf=>Ev.cons Z Z Z (AO.cB h7 Z Z Z zg) (Ev.cs aR 2 Z ?_); refine BR hf fun x4 h8 hf=>?_; refine Ev.cons Z Z Z (AO.cB h8 Z Z Z zg) (Ev.cs aR 1 Z (Ev.nil ?_)); show AR _ _ _ _ _ _ _ _; cases hf; exact N 0 Z (Y Z h)
 refine V 2 Z (C hf Z (fun h9 hf=>?_) fun h9 hf=>?_)
 ·
  refine V 0 Z (AW.draw 14 mixed (by kernel_rfl) Z ?_); refine Ev.cs aR 2 Z ?_; refine B1 hf fun e3 h10 hf=>Ev.cons Z Z Z (AO.aK h10 Z Z (ah.aC _) Z dQ (ah.aF _) Z zg) (Ev.cs aR 1 Z ?_); refine B1 hf fun x5 h11 hf=>Ev.cons Z Z Z (AO.call Z _ Z Z Ae (jS _ _ h11 zg)) ?_; refine B1 hf fun x6 h12 hf=>Ev.cons Z Z Z (AO.cB h12 Z Z Z zg) (Ev.cs aR 2 Z ?_); refine B1 hf fun e4 m_ hf=>Ev.cons Z Z Z (AO.aK m_ Z Z (ah.aC _) Z dQ (ah.aF _) Z zg) (Ev.cs aR 1 Z ?_); refine B1 hf fun x7 lC hf=>Ev.cons Z Z Z (AO.call Z _ Z Z Sj (fM _ lC zg)) ?_; refine B1 hf fun x8 nR hf=>Ev.cons Z Z Z (AO.cB nR Z Z Z zg) ?_; refine BR hf fun x9 h16 hf=>?_; refine Ev.cons Z Z Z (AO.cB h16 Z Z Z zg) (Ev.cs aR 1 Z (Ev.nil ?_)); show AR _ _ _ _ _ _ _ _; cases hf; exact N 0 Z (Y Z h)
 refine V 2 Z (C hf Z (fun wP hf=>?_) fun wP hf=>?_)
 ·
  refine V 0 Z (AW.draw 8 mixed (by kernel_rfl) Z ?_); refine Ev.cs aR 2 Z ?_; refine B1 hf fun NU h18 hf=>Ev.cons Z Z Z (AO.cB h18 Z Z Z zg) (Ev.cs aR 1 Z ?_); refine B1 hf fun Cu h19 hf=>Ev.cons Z Z Z (AO.call Z _ Z Z Xb (qW _ h19 zg)) ?_; refine B1 hf fun Qa h20 hf=>Ev.cons Z Z Z (AO.cB h20 Z Z Z zg) ?_; refine BR hf fun N9 h21 hf=>?_; refine Ev.cons Z Z Z (AO.cB h21 Z Z Z zg) (Ev.cs aR 1 Z (Ev.nil ?_)); show AR _ _ _ _ _ _ _ _; cases hf; exact N 0 Z (Y Z h)
 refine V 2 Z (C hf Z (fun h22 hf=>?_) fun h22 hf=>?_)
 ·
  refine V 0 Z (AW.draw 9 mixed (by kernel_rfl) Z ?_); refine Ev.cs aR 4 Z ?_; refine B1 hf fun e5 h23 hf=>Ev.cons Z Z Z (AO.aK h23 Z Z (ah.aC _) Z dQ (ah.aF _) Z zg) (Ev.cs aR 1 Z ?_); refine B1 hf fun Mq C_ hf=>Ev.cons Z Z Z (AO.call Z _ Z Z Ae (jS _ _ C_ zg)) ?_; refine BR hf fun Rf FV hf=>?_; refine Ev.cons Z Z Z (AO.cB FV Z Z Z zg) (Ev.cs aR 1 Z (Ev.nil ?_)); show AR _ _ _ _ _ _ _ _; cases hf; exact N 0 Z (Y Z h)
 refine V 2 Z (C hf Z (fun PE hf=>?_) fun PE hf=>?_)
 ·
  refine B1 hf fun n1 h27 hf=>W 2 Z (CL Z (vS _ h27 (J 5 Z (C hf Z (fun Ic hf=>?_) fun Ic hf=>?_))))
  ·
   refine V 1 Z (AW.draw 20 mixed (by kernel_rfl) Z ?_); refine Ev.cs aR 2 Z ?_; refine B1 hf fun e6 NZ hf=>Ev.cons Z Z Z (AO.aK NZ Z Z (ah.aC _) Z dQ (ah.aF _) Z zg) (Ev.cs aR 2 Z ?_); refine B1 hf fun Kc OD hf=>Ev.cons Z Z Z (AO.call Z _ Z Z Ae (jS _ _ OD zg)) ?_; refine B1 hf fun Mg h31 hf=>Ev.cons Z Z Z (AO.cB h31 Z Z Z zg) (Ev.cs aR 2 Z ?_); refine B1 hf fun V7 h32 hf=>Ev.cons Z Z Z (AO.cB h32 Z Z Z zg) ?_; refine B1 hf fun XW Ib hf=>Ev.cons Z Z Z (AO.cB Ib Z Z Z zg) (Ev.cs aR 2 Z ?_); refine B1 hf fun e7 JE hf=>Ev.cons Z Z Z (AO.aK JE Z Z (ah.aC _) Z dQ (ah.aF _) Z zg) (Ev.cs aR 3 Z ?_); refine B1 hf fun XV NY hf=>Ev.cons Z Z Z (AO.call Z _ Z Z Ae (jS _ _ NY zg)) ?_; refine BR hf fun x21 Lj hf=>?_; refine Ev.cons Z Z Z (AO.cB Lj Z Z Z zg) (Ev.cs aR 1 Z (Ev.nil ?_)); show AR _ _ _ _ _ _ _ _; cases hf; exact N 0 Z (Y Z h)
  refine V 0 Z (AW.draw 20 mixed (by kernel_rfl) Z ?_); refine Ev.cs aR 2 Z ?_; refine B1 hf fun e8 h37 hf=>Ev.cons Z Z Z (AO.aK h37 Z Z (ah.aC _) Z dQ (ah.aF _) Z zg) (Ev.cs aR 2 Z ?_); refine B1 hf fun Vq NW hf=>Ev.cons Z Z Z (AO.call Z _ Z Z Ae (jS _ _ NW zg)) ?_; refine B1 hf fun x23 Fe hf=>Ev.cons Z Z Z (AO.cB Fe Z Z Z zg) (Ev.cs aR 2 Z ?_); refine B1 hf fun x24 Uj hf=>Ev.cons Z Z Z (AO.cB Uj Z Z Z zg) ?_; refine B1 hf fun x25 Rl hf=>Ev.cons Z Z Z (AO.cB Rl Z Z Z zg) (Ev.cs aR 2 Z ?_); refine B1 hf fun e9 Ni hf=>Ev.cons Z Z Z (AO.aK Ni Z Z (ah.aC _) Z dQ (ah.aF _) Z zg) (Ev.cs aR 3 Z ?_); refine B1 hf fun Vp h43 hf=>Ev.cons Z Z Z (AO.call Z _ Z Z Ae (jS _ _ h43 zg)) ?_; refine BR hf fun x27 QL hf=>?_; refine Ev.cons Z Z Z (AO.cB QL Z Z Z zg) (Ev.cs aR 1 Z (Ev.nil ?_)); show AR _ _ _ _ _ _ _ _; cases hf; exact N 0 Z (Y Z h)
 refine V 2 Z (C hf Z (fun h45 hf=>?_) fun h45 hf=>?_)
 ·
  refine V 0 Z (AW.draw 20 mixed (by kernel_rfl) Z ?_); refine Ev.cs aR 2 Z ?_; refine B1 hf fun e10 h46 hf=>Ev.cons Z Z Z (AO.aK h46 Z Z (ah.aC _) Z dQ (ah.aF _) Z zg) (Ev.cs aR 1 Z ?_); refine B1 hf fun x28 h47 hf=>Ev.cons Z Z Z (AO.call Z _ Z Z Ae (jS _ _ h47 zg)) ?_; refine B1 hf fun x29 h48 hf=>Ev.cons Z Z Z (AO.cB h48 Z Z Z zg) (Ev.cs aR 2 Z ?_); refine B1 hf fun e11 Ui hf=>Ev.cons Z Z Z (AO.aK Ui Z Z (ah.aC _) Z dQ (ah.aF _) Z zg) (Ev.cs aR 1 Z ?_); refine B1 hf fun Vo h50 hf=>Ev.cons Z Z Z (AO.call Z _ Z Z Sj (fM _ h50 zg)) ?_; refine B1 hf fun x31 VT hf=>Ev.cons Z Z Z (AO.cB VT Z Z Z zg) ?_; refine B1 hf fun x32 Uh hf=>Ev.cons Z Z Z (AO.cB Uh Z Z Z zg) (Ev.cs aR 2 Z ?_); refine B1 hf fun e12 PD hf=>Ev.cons Z Z Z (AO.aK PD Z Z (ah.aC _) Z dQ (ah.aF _) Z zg) (Ev.cs aR 1 Z ?_); refine B1 hf fun Vn Y3 hf=>Ev.cons Z Z Z (AO.call Z _ Z Z Sj (fM _ Y3 zg)) ?_; refine BR hf fun x34 Y2 hf=>?_; refine Ev.cons Z Z Z (AO.cB Y2 Z Z Z zg) (Ev.cs aR 1 Z (Ev.nil ?_)); show AR _ _ _ _ _ _ _ _; cases hf; exact N 0 Z (Y Z h)
 refine V 2 Z (C hf Z (fun Y1 hf=>?_) fun Y1 hf=>?_)
 · refine B1 hf fun XU h57 hf=>W 1 Z (CL Z (qW _ h57 ?_)); refine B1 hf fun XT Y0 hf=>AS Z (AO.cB Y0 Z Z Z ?_); refine BR hf fun x37 Xq hf=>?_; refine AS Z (AO.cB Xq Z Z Z ?_); cases hf; exact N 1 Z (Y Z h)
 refine B1 hf fun x38 Rk hf=>W 1 Z (CL Z (qW _ Rk ?_)); refine B1 hf fun x39 YZ hf=>AS Z (AO.cB YZ Z Z Z ?_); refine BR hf fun x40 Xp hf=>?_; refine AS Z (AO.cB Xp Z Z Z ?_); cases hf; exact N 1 Z (Y Z h)
theorem Qc (bH) (fM:uL bH) (eB) (jS:BM eB) (fC) (qW:zm fC) (e1:ah) (Pt:Int) {r0:Str} (hf:Bp bH eB fC e1 Pt=some r0) (h:Q (.ret (.str r0)) τ):PC 120 [.agg (aQ e1),iP Pt] τ Q:=by
 unfold Bp at hf; refine BN 15 [.tmp 4] [0,1] Tryz.func120 Z Z Z Z Z ?_; refine B1 hf fun x1 h1 hf=>W 3 Z (CL Z (IG _ h1 (J 2 Z (C hf Z (fun h2 hf=>?_) fun h2 hf=>?_))))
 · refine B1 hf fun x2 h3 hf=>W 1 Z (CL Z (fM _ h3 ?_)); refine B1 hf fun x3 h4 hf=>AS Z (AO.cB h4 Z Z Z ?_); refine BR hf fun x4 h5 hf=>?_; refine AS Z (AO.cB h5 Z Z Z ?_); cases hf; exact N 1 Z (Y Z h)
 refine BR hf fun x5 h6 hf=>?_; refine W 1 Z (CL Z (fM _ h6 ?_)); cases hf; exact N 1 Z (Y Z h)
theorem N_ (bH) (fM:uL bH) (eB) (jS:BM eB) (fC) (qW:zm fC) (e1:ah) {r0:Str} (hf:vo bH eB fC e1=some r0) (h:Q (.ret (.str r0)) τ):PC 121 [.agg (aQ e1)] τ Q:=by
 unfold vo at hf; refine BN 37 [.tmp 2] [0] Tryz.func121 Z Z Z Z Z (V 4 Z (KN (fun s1 i1=>[(1,.ref (aQ e1)),(3,.str s1),(4,iP i1)]) (fun s1 i1=>[]) (fun bP s1 i1=>jr bH e1 bP s1 i1=some r0) BIG ([]:Str) 0 Z Z hf (fun _ _ hz=>aU hz) ?_)); intro bP s1 i1 hf; rw [jr] at hf; refine W 3 Z (AS Z (AO.aM (l:=e1.args) Z Z Z Z dQ Z (ah.aC _) (J 1 Z (C hf Z (fun h1 hf=>?_) fun h1 hf=>?_))))
 ·
  refine V 2 Z (C hf Z (fun h2 hf=>?_) fun h2 hf=>?_)
  ·
   refine B1 hf fun s2 h3 hf=>W 1 Z (AS Z (AO.cB h3 Z Z Z (J 4 Z (C hf Z (fun h4 hf=>?_) fun h4 hf=>?_))))
   ·
    refine B1 hf fun e2 h5 hf=>W 4 Z (AS Z (AO.aK h5 Z Z Z Z eO Z Z ?_)); refine B1 hf fun x1 h6 hf=>U 1 Z (CL Z (sV _ h6 ?_)); refine B1 hf fun x2 h7 hf=>AS Z (AO.cB h7 Z Z Z ?_); refine B1 hf fun s3 h8 hf=>AS Z (AO.cB h8 Z Z Z ?_); refine B1 hf fun e3 h9 hf=>U 5 Z (AS Z (AO.aK h9 Z Z (ah.aC _) Z dQ (ah.aF _) Z ?_)); refine B1 hf fun x3 h10 hf=>U 1 Z (CL Z (fM _ h10 ?_)); refine B1 hf fun s4 h11 hf=>AS Z (AO.cB h11 Z Z Z ?_); exact N 4 Z ⟨s4,(bQ (i1 + 1)),Z,Z,Z,hf⟩
   refine B1 hf fun e4 h12 hf=>W 4 Z (AS Z (AO.aK h12 Z Z (ah.aC _) Z dQ (ah.aF _) Z ?_)); refine B1 hf fun x4 m_ hf=>U 1 Z (CL Z (fM _ m_ ?_)); refine B1 hf fun s5 lC hf=>AS Z (AO.cB lC Z Z Z ?_); exact N 4 Z ⟨s5,(bQ (i1 + 1)),Z,Z,Z,hf⟩
  refine V 3 Z (C hf Z (fun nR hf=>?_) fun nR hf=>?_)
  ·
   refine B1 hf fun e5 h16 hf=>W 4 Z (AS Z (AO.aK h16 Z Z Z Z eO Z Z ?_)); refine B1 hf fun x5 wP hf=>U 1 Z (CL Z (sV _ wP ?_)); refine B1 hf fun x6 h18 hf=>AS Z (AO.cB h18 Z Z Z ?_); refine B1 hf fun s6 h19 hf=>AS Z (AO.cB h19 Z Z Z ?_); refine B1 hf fun e6 h20 hf=>U 5 Z (AS Z (AO.aK h20 Z Z (ah.aC _) Z dQ (ah.aF _) Z ?_)); refine B1 hf fun x7 h21 hf=>U 1 Z (CL Z (fM _ h21 ?_)); refine B1 hf fun s7 h22 hf=>AS Z (AO.cB h22 Z Z Z ?_); exact N 4 Z ⟨s7,(bQ (i1 + 1)),Z,Z,Z,hf⟩
  refine B1 hf fun e7 h23 hf=>W 4 Z (AS Z (AO.aK h23 Z Z (ah.aC _) Z dQ (ah.aF _) Z ?_)); refine B1 hf fun x8 C_ hf=>U 1 Z (CL Z (fM _ C_ ?_)); refine B1 hf fun s8 FV hf=>AS Z (AO.cB FV Z Z Z ?_); exact N 4 Z ⟨s8,(bQ (i1 + 1)),Z,Z,Z,hf⟩
 cases hf; exact M 2 Z (Y Z h)
theorem yJ :∀ k:Nat,(uL (bA k))∧(BM (kF k))∧(zm (jL k)):=by
 intro k
 induction k with
 | zero=>exact ⟨fun _ _ hz=>by first | cases hz | (unfold bA at hz; cases hz),fun _ _ _ hz=>by first | cases hz | (unfold kF at hz; cases hz),fun _ _ hz=>by first | cases hz | (unfold jL at hz; cases hz)⟩
 | succ k ih=>exact ⟨fun eD aL hz τ Q hq=>KQ (bA k) ih.1 (kF k) ih.2.1 (jL k) ih.2.2 eD hz hq,fun eD tF aL hz τ Q hq=>Qc (bA k) ih.1 (kF k) ih.2.1 (jL k) ih.2.2 eD tF hz hq,fun eD aL hz τ Q hq=>N_ (bA k) ih.1 (kF k) ih.2.1 (jL k) ih.2.2 eD hz hq⟩
theorem LW (eD:ah) {aL:Str} (hf:G9 eD=some aL) (h:Q (.ret (.str aL)) τ):PC 74 [.agg (aQ eD)] τ Q:=
 ((yJ BIG).1) eD hf h
theorem X0 (eD:ah) (tF:Int) {aL:Str} (hf:UD eD tF=some aL) (h:Q (.ret (.str aL)) τ):PC 120 [.agg (aQ eD),iP tF] τ Q:=
 ((yJ BIG).2.1) eD tF hf h
theorem XA (eD:ah) {aL:Str} (hf:Sd eD=some aL) (h:Q (.ret (.str aL)) τ):PC 121 [.agg (aQ eD)] τ Q:=
 ((yJ BIG).2.2) eD hf h
theorem OQ (e1:ah) {r0:Str} (hf:xL e1=some r0) (h:Q (.ret (.str r0)) τ):PC 40 [.agg (aQ e1)] τ Q:=by
 unfold xL at hf; refine BN 8 [.tmp 2] [0] Tryz.func40 Z Z Z Z Z ?_; refine B1 hf fun x1 h1 hf=>W 3 Z (CL Z (ND _ h1 (J 1 Z (C hf Z (fun h2 hf=>?_) fun h2 hf=>?_))))
 · cases hf; exact M 1 Z (Y Z h)
 refine BR hf fun x2 h3 hf=>?_; refine W 1 Z (CL Z (LW _ h3 ?_)); cases hf; exact N 1 Z (Y Z h)
theorem OP (ps1:List aB) {r0:Str} (hf:zZ ps1=some r0) (h:Q (.ret (.str r0)) τ):PC 16 [.list (List.map aB.cells ps1)] τ Q:=by
 unfold zZ at hf; refine BN 65 [.tmp 2] [0] Tryz.func16 Z Z Z Z Z (V 3 Z (KN (fun s1 i1=>[(0,.list (List.map aB.cells ps1)),(3,.str s1),(4,iP i1)]) (fun s1 i1=>[]) (fun bP s1 i1=>kM ps1 bP s1 i1=some r0) BIG ([]:Str) 0 Z Z hf (fun _ _ hz=>aU hz) ?_)); intro bP s1 i1 hf; rw [kM] at hf; refine W 2 Z (AS Z (AO.aM (l:=ps1) Z Z Z Z oo Z Z (J 1 Z (C hf Z (fun h1 hf=>?_) fun h1 hf=>?_))))
 ·
  refine B1 hf fun e1 h2 hf=>W 2 Z (AS Z (AO.aK h2 Z Z Z Z oo (aB.aF _) Z (J 2 Z (C hf Z (fun h3 hf=>?_) fun h3 hf=>?_))))
  ·
   refine V 0 Z (AW.draw 15 mixed (by kernel_rfl) Z ?_); refine Ev.cs aR 1 Z (Ev.cons Z Z Z (AO.bn (List.map dL ([36,123]:List UInt8)) Z mY Z Z Z Z zg) (Ev.cons Z Z Z (AO.gJ Z ql uj bN Z Z zg) ?_)); refine B1 hf fun x1 h4 hf=>Ev.cons Z Z Z (AO.cB h4 Z Z Z zg) (Ev.cs aR 2 Z ?_); refine B1 hf fun e2 h5 hf=>Ev.cons Z Z Z (AO.aK h5 Z Z Z Z oo (aB.aF _) Z zg) (Ev.cs aR 2 Z ?_); refine B1 hf fun x2 h6 hf=>Ev.cons Z Z Z (AO.call Z _ Z Z Yy (OQ _ h6 zg)) ?_; refine B1 hf fun x3 h7 hf=>Ev.cons Z Z Z (AO.cB h7 Z Z Z zg) (Ev.cons Z Z Z (AO.bn (List.map dL ([125]:List UInt8)) Z mY Z Z Z Z zg) (Ev.cons Z Z Z (AO.gJ Z ql uj bN Z Z zg) ?_)); refine B1 hf fun s2 h8 hf=>Ev.cons Z Z Z (AO.cB h8 Z Z Z zg) (Ev.cs aR 1 Z (Ev.nil ?_)); show AR _ _ _ _ _ _ _ _; exact N 3 Z ⟨s2,(bQ (i1 + 1)),Z,Z,Z,hf⟩
  refine V 1 Z (KN (fun s3 qc=>[(0,.list (List.map aB.cells ps1)),(3,.str s3),(4,iP i1),(5,iP qc)]) (fun s3 qc=>[]) (fun KA s3 qc=>nH ps1 i1 (kM ps1 bP) KA s3 qc=some r0) BIG s1 0 Z Z hf (fun _ _ hz=>aU hz) ?_); intro KA s3 qc hf; rw [nH] at hf; refine B1 hf fun e3 h9 hf=>W 3 Z (AS Z (AO.aK h9 Z Z Z Z oo (aB.aF _) Z (U 2 Z (AS Z (AO.bG Z Z Z Z bN Z (J 1 Z (C hf Z (fun h10 hf=>?_) fun h10 hf=>?_)))))))
  ·
   refine B1 hf fun e4 h11 hf=>W 2 Z (AS Z (AO.aK h11 Z Z Z Z oo (aB.aF _) Z ?_)); refine B1 hf fun x4 h12 hf=>U 3 Z (AS Z (AO.dH h12 Z bN Z Z (J 1 Z (C hf Z (fun m_ hf=>?_) fun m_ hf=>?_))))
   ·
    refine W 1 Z (AS Z (AO.bn (List.map dL ([36]:List UInt8)) Z mY Z Z Z Z (AS Z (AO.gJ Z ql uj bN Z Z ?_)))); refine B1 hf fun s4 lC hf=>AS Z (AO.cB lC Z Z Z ?_); refine B1 hf fun e5 nR hf=>U 4 Z (AS Z (AO.aK nR Z Z Z Z oo (aB.aF _) Z ?_)); refine B1 hf fun x5 h16 hf=>U 3 Z (AS Z (AO.dH h16 Z bN Z Z (AS Z (AO.bn (List.map dL ([x5]:List UInt8)) Z mY Z Z Z Z (AS Z (AO.gJ Z ql uj bN Z Z ?_)))))); refine B1 hf fun s5 wP hf=>AS Z (AO.cB wP Z Z Z ?_); exact N 4 Z ⟨s5,(bQ (qc + 1)),Z,Z,Z,hf⟩
   refine B1 hf fun e6 h18 hf=>W 3 Z (AS Z (AO.aK h18 Z Z Z Z oo (aB.aF _) Z ?_)); refine B1 hf fun x6 h19 hf=>U 3 Z (AS Z (AO.dH h19 Z bN Z Z (AS Z (AO.bn (List.map dL ([x6]:List UInt8)) Z mY Z Z Z Z (AS Z (AO.gJ Z ql uj bN Z Z ?_)))))); refine B1 hf fun s6 h20 hf=>AS Z (AO.cB h20 Z Z Z ?_); exact N 4 Z ⟨s6,(bQ (qc + 1)),Z,Z,Z,hf⟩
  exact M 3 Z ⟨s3,(bQ (i1 + 1)),Z,Z,Z,hf⟩
 cases hf; exact M 2 Z (Y Z h)
section
variable [zL]
theorem DZ (ps1:List aB) {r0:Bool} (hf:tJ ps1=some r0) (h:Q (.ret (.bool r0)) τ):PC 4 [.list (List.map aB.cells ps1)] τ Q:=by
 unfold tJ at hf; refine BN 42 [.tmp 2] [0] Tryz.func4 Z Z Z Z Z (V 3 Z (KN (fun n1 i1=>[(0,.list (List.map aB.cells ps1)),(3,iP n1),(4,iP i1)]) (fun n1 i1=>[]) (fun bP n1 i1=>jf ps1 bP n1 i1=some r0) BIG 0 0 Z Z hf (fun _ _ hz=>aU hz) ?_)); intro bP n1 i1 hf; rw [jf] at hf; refine W 2 Z (AS Z (AO.aM (l:=ps1) Z Z Z Z oo Z Z (U 2 Z (An 3 9 12 [0,3,4] (decide (n1≤5000)) Z Z Z Z (J 0 Z (C hf Z (fun h2 hf=>?_) fun h2 hf=>?_))))))
 ·
  refine V 0 Z (AW.draw 17 mixed (by kernel_rfl) Z ?_); refine Ev.cs aR 4 Z ?_; refine B1 hf fun e1 h3 hf=>Ev.cons Z Z Z (AO.aK h3 Z Z Z Z oo (aB.aF _) Z zg) (Ev.cs aR 2 Z (Ev.cons Z Z Z (AO.bG Z Z Z Z bN Z zg) (Ev.cs aR 3 Z ?_))); refine B1 hf fun e2 h4 hf=>Ev.cons Z Z Z (AO.aK h4 Z Z Z Z oo (aB.aF _) Z zg) (Ev.cs aR 2 Z ?_); refine B1 hf fun x1 h5 hf=>Ev.cons Z Z Z (AO.call Z _ Z Z YD (Fh _ h5 zg)) (Ev.cs aR 2 Z (Ev.nil ?_)); show AR _ _ _ _ _ _ _ _; exact N 3 Z ⟨(bQ ((bQ ((bQ (n1 + 1)) + (e1.text.length:Int))) + x1)),(bQ (i1 + 1)),Z,Z,Z,hf⟩
 refine V 2 Z (C hf Z (fun h6 hf=>?_) fun h6 hf=>?_)
 · refine BR hf fun x2 h7 hf=>?_; refine W 0 Z (CL Z (Fq  h7 ?_)); cases hf; exact N 1 Z (Y Z h)
 refine B1 hf fun x3 h8 hf=>W 1 Z (CL Z (Ch _ h8 ?_)); refine B1 hf fun x4 h9 hf=>U 1 Z (CL Z (OP _ h9 ?_)); refine BR hf fun b1 h11 hf=>?_; refine U 2 Z (AR.dx 2 39 41 true [] b1 Z Z (fun h10=>?_) (fun h10=>?_) ?_)
 · refine IT 39 h10 h11 Z fun h11=>?_; refine BR h11 fun x5 h12 h11=>?_; refine GO Z (AO.call Z _ Z Z YE (Fq  h12 ?_)); cases h11; exact dB 1 Z (En [41] Z)
 · refine IF 39 h10 h11 Z fun h11=>?_; cases h11; exact dB 2 Z (En [41] Z)
 cases hf; exact N 1 Z (Y Z h)
end
end Go.Proofs.YtpbjbkhfpjckoaaGreatDoor
