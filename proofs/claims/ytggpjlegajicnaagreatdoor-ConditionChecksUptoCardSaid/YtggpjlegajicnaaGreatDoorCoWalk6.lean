/- Proved here: each function does what its functional text says (part 6). -/
import Derived.Test.YtggpjlegajicnaaGreatDoorCoWalk3
import Derived.Test.YtggpjlegajicnaaGreatDoorCoWalk4
import Derived.Test.YtggpjlegajicnaaGreatDoorCoWalk5
import Derived.Test.YtggpjlegajicnaaGreatDoorCoPre1
import Derived.Test.YtggpjlegajicnaaGreatDoorCoPre2
import Derived.Test.YtggpjlegajicnaaGreatDoorCoFt1
import Derived.Test.YtggpjlegajicnaaGreatDoorCoFt2
import Derived.Test.YtggpjlegajicnaaGreatDoorCoFt3
import Derived.Test.YtggpjlegajicnaaGreatDoorProg
import Derived.KernelRfl
set_option linter.unusedVariables false
set_option linter.unusedSimpArgs false
set_option linter.unusedSectionVars false
namespace Go.Proofs.YtggpjlegajicnaaGreatDoor
open Go Go.Abs Go.Ft
set_option maxRecDepth 20000
attribute [local irreducible] AO AR AW AC
variable [gX]
variable {τ : List bJ} {Q : eT → List bJ → Prop}
theorem abq (c1:UInt8) {r0:Bool} (hf:Ku c1=some r0) (h:Q (.ret (.bool r0)) τ):PC 100 [.int .u8 (c1.toNat:Int)] τ Q:=by
 unfold Ku at hf; refine BN 21 [.tmp 2] [0] Tryz.func100 Z Z Z Z Z (W 4 Z (An 3 5 8 [0] (decide ((c1.toNat:Int)≤122)) Z Z Z Z (U 1 Z (AR.or 7 9 16 [0] (x:=((decide (65≤(c1.toNat:Int))) && (decide ((c1.toNat:Int)≤90)))) Z Z (fun h2=>?_) (fun h2=>?_) ?_))))
 · refine Is 9 h2 Z (U 3 Z (An 3 12 15 [0,9] (decide ((c1.toNat:Int)≤90)) Z Z Z Z ?_)); exact eG 1 Z (En [16,0] Z)
 · refine Is 9 h2 Z ?_; exact eG 7 Z (En [16,0] Z)
 refine U 1 Z (On 3 17 20 [] ((c1.toNat:Int) == 95) Z Z Z Z ?_); cases hf; exact N 1 Z (Y Z h)

theorem TM (c1:UInt8) {r0:Bool} (hf:Db c1=some r0) (h:Q (.ret (.bool r0)) τ):PC 101 [.int .u8 (c1.toNat:Int)] τ Q:=by
 unfold Db at hf; refine BN 9 [.tmp 2] [0] Tryz.func101 Z Z Z Z Z (W 4 Z (An 3 5 8 [] (decide ((c1.toNat:Int)≤57)) Z Z Z Z ?_)); cases hf; exact N 1 Z (Y Z h)

theorem afp (s1:Str) {r0:Bool} (hf:ML s1=some r0) (h:Q (.ret (.bool r0)) τ):PC 62 [.str s1] τ Q:=by
 unfold ML at hf; refine BN 34 [.tmp 2] [0] Tryz.func62 Z Z Z Z Z (V 2 Z (Gh (fun i1=>[(0,.str s1),(3,iP i1)]) (fun i1=>[]) (fun bT i1=>El s1 bT i1=some r0) BIG 0 Z Z hf (fun _ hz=>bQ hz) ?_)); intro bT i1 hf; rw [El] at hf; refine W 2 Z (AS Z (AO.b_ Z Z Z Z dM Z (J 1 Z (C hf Z (fun h1 hf=>?_) fun h1 hf=>?_))))
 ·
  refine B1 hf fun x1 h2 hf=>W 2 Z (AS Z (AO.gy h2 Z dM Z Z ?_)); refine B1 hf fun x2 h3 hf=>CL Z (abq _ h3 ?_); refine B1 hf fun b1 h5 hf=>U 2 Z (AR.dB 10 15 25 true [0,3] b1 Z Z (fun h4=>?_) (fun h4=>?_) ?_)
  ·
   refine IT 15 h4 h5 Z fun h5=>?_; refine BR h5 fun b2 h7 h5=>?_; refine U 3 Z (AR.dB 6 18 24 false [0,3,15] b2 Z Z (fun h6=>?_) (fun h6=>?_) ?_)
   · refine IF 18 h6 h7 Z fun h7=>?_; refine B1 h7 fun x3 h8 h7=>U 2 Z (GO Z (AO.gy h8 Z dM Z Z ?_)); refine B1 h7 fun x4 h9 h7=>GO Z (AO.call Z _ Z Z aoi (TM _ h9 ?_)); cases h7; exact eG 2 Z (En [24,0,3,15] Z)
   · refine IT 18 h6 h7 Z fun h7=>?_; cases h7; exact eG 6 Z (En [24,0,3,15] Z)
   cases h5; exact eG 1 Z (En [25,0,3] Z)
  · refine IF 15 h4 h5 Z fun h5=>?_; cases h5; exact eG 10 Z (En [25,0,3] Z)
  refine J 0 Z (C hf Z (fun h10 hf=>?_) fun h10 hf=>?_)
  · cases hf; exact M 1 Z (Y Z h)
  exact M 3 Z ⟨(bZ (i1 + 1)),Z,Z,Z,hf⟩
 refine W 1 Z (AS Z (AO.b_ Z Z Z Z dM Z (U 2 Z (AR.and 4 29 33 [] (x:=(decide ((s1.length:Int)≤64))) Z Z (fun h11=>?_) (fun h11=>?_) ?_))))
 · refine Is 29 h11 Z (U 1 Z (GO Z (AO.b_ Z Z Z Z dM Z ?_))); exact eG 2 Z (En [33] Z)
 · refine Is 29 h11 Z ?_; exact eG 4 Z (En [33] Z)
 cases hf; exact N 1 Z (Y Z h)

theorem EH (s1:Str) {r0:Bool} (hf:yK s1=some r0) (h:Q (.ret (.bool r0)) τ):PC 38 [.str s1] τ Q:=by
 unfold yK at hf; refine BN 17 [.tmp 2] [0] Tryz.func38 Z Z Z Z Z ?_; refine B1 hf fun x1 h1 hf=>W 2 Z (CL Z (afp _ h1 (U 1 Z (An 3 5 8 [0] (!(s1 == ([116,114,117,101]:Str))) Z Z Z Z (U 1 Z (An 3 9 12 [0] (!(s1 == ([102,97,108,115,101]:Str))) Z Z Z Z (U 1 Z (An 3 13 16 [] (!(s1 == ([110,117,108,108]:Str))) Z Z Z Z ?_)))))))); cases hf; exact N 1 Z (Y Z h)

theorem adI (v1:ah) {r0:Bool} (hf:JL v1=some r0) (h:Q (.ret (.bool r0)) τ):PC 102 [.agg (aK v1)] τ Q:=by
 unfold JL at hf; refine BN 53 [.tmp 2] [0] Tryz.func102 Z Z Z Z Z (W 5 Z (An 4 5 9 [1] (v1.kind != 1) Z Z Z Z (U 1 Z (AR.or 9 10 19 [1] (x:=((v1.dI != 0) && (v1.kind != 2))) Z Z (fun h2=>?_) (fun h2=>?_) ?_))))
 · refine Is 10 h2 Z (U 4 Z (An 4 14 18 [1,10] (v1.kind != 2) Z Z Z Z ?_)); exact eG 1 Z (En [19,1] Z)
 · refine Is 10 h2 Z ?_; exact eG 9 Z (En [19,1] Z)
 refine U 1 Z (AR.or 9 20 29 [1] (x:=((!(v1.bR == ([]:Str))) && (v1.kind != 3))) Z Z (fun h4=>?_) (fun h4=>?_) ?_)
 · refine Is 20 h4 Z (U 4 Z (An 4 24 28 [1,20] (v1.kind != 3) Z Z Z Z ?_)); exact eG 1 Z (En [29,1] Z)
 · refine Is 20 h4 Z ?_; exact eG 9 Z (En [29,1] Z)
 refine J 0 Z (C hf Z (fun h6 hf=>?_) fun h6 hf=>?_)
 · cases hf; exact M 1 Z (Y Z h)
 refine W 2 Z (AS Z (AO.aP (l:=v1.aO) Z Z Z Z dX Z (ah.aB _) (U 2 Z (An 4 34 38 [1] (v1.kind != 4) Z Z Z Z (U 1 Z (An 4 39 43 [1] (v1.kind != 5) Z Z Z Z (J 0 Z (C hf Z (fun h9 hf=>?_) fun h9 hf=>?_))))))))
 · cases hf; exact M 1 Z (Y Z h)
 refine W 2 Z (AS Z (AO.aP (l:=v1.keys) Z Z Z Z f_ Z Z (U 2 Z (On 4 48 52 [] (v1.kind == 5) Z Z Z Z ?_)))); cases hf; exact N 1 Z (Y Z h)

theorem ZH (s1:Str) {r0:Bool} (hf:Ob s1=some r0) (h:Q (.ret (.bool r0)) τ):PC 158 [.str s1] τ Q:=by
 unfold Ob at hf; refine BN 11 [.tmp 2] [0] Tryz.func158 Z Z Z Z Z (W 2 Z (AS Z (AO.b_ Z Z Z Z dM Z (U 2 Z (AR.and 4 6 10 [] (x:=(decide ((s1.length:Int)≤64))) Z Z (fun h1=>?_) (fun h1=>?_) ?_)))))
 · refine Is 6 h1 Z (U 1 Z (GO Z (AO.b_ Z Z Z Z dM Z ?_))); exact eG 2 Z (En [10] Z)
 · refine Is 6 h1 Z ?_; exact eG 4 Z (En [10] Z)
 cases hf; exact N 1 Z (Y Z h)

theorem Uw (v1:ah) {r0:Bool} (hf:zN v1=some r0) (h:Q (.ret (.bool r0)) τ):PC 103 [.agg (aK v1)] τ Q:=by
 unfold zN at hf; refine BN 44 [.tmp 2] [0] Tryz.func103 Z Z Z Z Z (V 3 Z (Gh (fun i1=>[(1,.ref (aK v1)),(3,iP i1)]) (fun i1=>[]) (fun bT i1=>qW v1 bT i1=some r0) BIG 0 Z Z hf (fun _ hz=>bQ hz) ?_)); intro bT i1 hf; rw [qW] at hf; refine W 3 Z (AS Z (AO.aP (l:=v1.keys) Z Z Z Z f_ Z Z (J 1 Z (C hf Z (fun h1 hf=>?_) fun h1 hf=>?_))))
 ·
  refine V 0 Z (AW.draw 26 mixed (by kernel_rfl) Z ?_); refine Ev.cs aG 3 Z ?_; refine B1 hf fun e1 h2 hf=>Ev.cons Z Z Z (AO.aI h2 Z Z Z Z f_ Z Z zg) (Ev.cs aG 1 Z ?_); refine B1 hf fun x1 h3 hf=>Ev.cons Z Z Z (AO.call Z _ Z Z an4 (ZH _ h3 zg)) (Ev.cs aG 2 Z ?_); refine B1 hf fun b1 h5 hf=>Ev.dB hKA 18 18 36 false [1,3] (.bool b1) Z Z (fun h4=>?_) (fun h4=>?_) ?_
  ·
   replace h5:=cZ h4 h5; refine Ev.is uq 18 h4 Z (Ev.cs aG 3 Z ?_); refine BR h5 fun b2 h7 h5=>?_; refine Ev.dB uq 14 21 35 true [1,3,18] (.bool b2) Z Z (fun h6=>?_) (fun h6=>?_) ?_
   ·
    replace h7:=cO h6 h7; refine Ev.is uq 21 h6 Z (Ev.cs aG 4 Z ?_); refine B1 h7 fun e2 h8 h7=>Ev.run Z Z Z Z Z Z Z (AO.aI h8 Z Z Z Z f_ Z Z zg) (Ev.cs aG 4 Z ?_); refine B1 h7 fun e3 h9 h7=>Ev.run Z Z Z Z Z Z Z (AO.aI h9 Z Z Z Z f_ Z Z zg) (Ev.cs aG 1 Z ?_); refine B1 h7 fun x2 h10 h7=>Ev.run Z Z Z Z Z Z Z (AO.call Z _ Z Z aeE (Jm _ _ h10 zg)) (Ev.cs aG 1 Z ?_); cases h7; refine Ev.cs aG 1 Z ?_
    exact Ev.nil (Less.settle (ps:=[35,1,3,18]) Z)
   · replace h7:=cZ h6 h7; refine Ev.is uq 21 h6 Z ?_; cases h7; refine Ev.cs aG 14 Z ?_; exact Ev.nil (Less.settle (ps:=[35,1,3,18]) Z)
   cases h5; refine Ev.cs aG 1 Z ?_; exact Ev.nil (Less.settle (ps:=[36,1,3]) Z)
  · replace h5:=cO h4 h5; refine Ev.is uq 18 h4 Z ?_; cases h5; refine Ev.cs aG 18 Z ?_; exact Ev.nil (Less.settle (ps:=[36,1,3]) Z)
  refine Ev.nil ?_; show AR _ _ _ _ _ _ _ _
  refine J 0 Z (C hf Z (fun h11 hf=>?_) fun h11 hf=>?_)
  · cases hf; exact M 1 Z (Y Z h)
  exact M 3 Z ⟨(bZ (i1 + 1)),Z,Z,Z,hf⟩
 refine W 2 Z (AS Z (AO.aP (l:=v1.keys) Z Z Z Z f_ Z Z (U 2 Z (AS Z (AO.aP (l:=v1.aO) Z Z Z Z dX Z (ah.aB _) ?_))))); cases hf; exact N 2 Z (Y Z h)


abbrev Ub (o9:ah→Int→Option Int):Prop:=∀ (qg:ah) (gu:Int) {aR:Int},o9 qg gu=some aR→∀ {τ:List bJ} {Q:eT→List bJ→Prop} (h:Q (.ret (iP aR)) τ),PC 63 [.agg (aK qg),iP gu] τ Q
theorem abP (o9) (Ya:Ub o9) (v1:ah) (bV:Int) {r0:Int} (hf:IB o9 v1 bV=some r0) (h:Q (.ret (iP r0)) τ):PC 63 [.agg (aK v1),iP bV] τ Q:=by
 unfold IB at hf; refine BN 85 [.tmp 4] [0,1] Tryz.func63 Z Z Z Z Z (V 4 Z (C hf Z (fun h1 hf=>?_) fun h1 hf=>?_))
 · cases hf; exact M 1 Z (Y Z h)
 refine W 4 Z (On 4 12 16 [1,2] (decide (5 < v1.kind)) Z Z Z Z ?_); refine B1 hf fun b1 h4 hf=>U 1 Z (AR.dB 4 17 21 false [1,2] b1 Z Z (fun h3=>?_) (fun h3=>?_) ?_)
 · refine IF 17 h3 h4 Z fun h4=>?_; refine B1 h4 fun x1 h5 h4=>U 1 Z (GO Z (AO.call Z _ Z Z aoh (adI _ h5 ?_))); cases h4; exact eG 2 Z (En [21,1,2] Z)
 · refine IT 17 h3 h4 Z fun h4=>?_; cases h4; exact eG 4 Z (En [21,1,2] Z)
 refine J 0 Z (C hf Z (fun h6 hf=>?_) fun h6 hf=>?_)
 · cases hf; exact M 1 Z (Y Z h)
 refine W 4 Z (On 4 25 29 [1,2] (decide (9007199254740992 < v1.dI)) Z Z Z Z (J 0 Z (C hf Z (fun h8 hf=>?_) fun h8 hf=>?_)))
 · cases hf; exact M 1 Z (Y Z h)
 refine W 2 Z (AS Z (AO.b_ Z Z Z Z dM Z (U 2 Z (AR.or 5 34 39 [1,2] (x:=(decide (1024 < (v1.aO.length:Int)))) Z Z (fun h9=>?_) (fun h9=>?_) ?_))))
 · refine Is 34 h9 Z (U 2 Z (GO Z (AO.aP (l:=v1.aO) Z Z Z Z dX Z (ah.aB _) ?_))); exact eG 2 Z (En [39,1,2] Z)
 · refine Is 34 h9 Z ?_; exact eG 5 Z (En [39,1,2] Z)
 refine U 1 Z (AR.or 5 40 45 [1,2] (x:=(decide (1024 < (v1.keys.length:Int)))) Z Z (fun h10=>?_) (fun h10=>?_) ?_)
 · refine Is 40 h10 Z (U 2 Z (GO Z (AO.aP (l:=v1.keys) Z Z Z Z f_ Z Z ?_))); exact eG 2 Z (En [45,1,2] Z)
 · refine Is 40 h10 Z ?_; exact eG 5 Z (En [45,1,2] Z)
 refine J 0 Z (C hf Z (fun h11 hf=>?_) fun h11 hf=>?_)
 · cases hf; exact M 1 Z (Y Z h)
 refine B1 hf fun b2 jJ hf=>W 4 Z (AR.dB 4 49 53 true [1,2] b2 Z Z (fun h12=>?_) (fun h12=>?_) ?_)
 · refine IT 49 h12 jJ Z fun jJ=>?_; refine B1 jJ fun x2 j5 jJ=>U 1 Z (GO Z (AO.call Z _ Z Z aog (Uw _ j5 ?_))); cases jJ; exact eG 2 Z (En [53,1,2] Z)
 · refine IF 49 h12 jJ Z fun jJ=>?_; cases jJ; exact eG 4 Z (En [53,1,2] Z)
 refine J 0 Z (C hf Z (fun mo hf=>?_) fun mo hf=>?_)
 · cases hf; exact M 1 Z (Y Z h)
 refine W 4 Z (AR.and 5 57 62 [1,2] (x:=((v1.aO.length:Int) == 0)) Z Z (fun h16=>?_) (fun h16=>?_) ?_)
 · refine Is 57 h16 Z (U 2 Z (GO Z (AO.aP (l:=v1.aO) Z Z Z Z dX Z (ah.aB _) ?_))); exact eG 2 Z (En [62,1,2] Z)
 · refine Is 57 h16 Z ?_; exact eG 5 Z (En [62,1,2] Z)
 refine U 1 Z (An 3 63 66 [1,2] (bV == 16) Z Z Z Z (J 0 Z (C hf Z (fun h18 hf=>?_) fun h18 hf=>?_)))
 · cases hf; exact M 1 Z (Y Z h)
 refine V 1 Z (Gh (fun i1=>[(1,iP bV),(2,.ref (aK v1)),(5,iP i1)]) (fun i1=>[]) (fun bT i1=>BF o9 v1 bV bT i1=some r0) BIG 0 Z Z hf (fun _ hz=>bQ hz) ?_); intro bT i1 hf; rw [BF] at hf; refine W 3 Z (AS Z (AO.aP (l:=v1.aO) Z Z Z Z dX Z (ah.aB _) (J 1 Z (C hf Z (fun h19 hf=>?_) fun h19 hf=>?_))))
 ·
  refine B1 hf fun e1 h20 hf=>W 3 Z (AS Z (AO.aI h20 Z Z (ah.aB _) Z dX (ah.aD _) Z ?_)); refine B1 hf fun e2 h21 hf=>U 3 Z (CL Z (Ya _ _ h21 (J 3 Z (C hf Z (fun h22 hf=>?_) fun h22 hf=>?_))))
  · cases hf; exact M 2 Z (Y Z h)
  exact M 3 Z ⟨(bZ (i1 + 1)),Z,Z,Z,hf⟩
 cases hf; exact M 1 Z (Y Z h)
theorem acS :∀ k:Nat,(Ub (sS k)):=by
 intro k
 induction k with
 | zero=>exact fun _ _ _ hz=>by first | cases hz | (unfold sS at hz; cases hz)
 | succ k ih=>exact fun qg gu aR hz τ Q hq=>abP (sS k) ih qg gu hz hq
theorem adK (qg:ah) (gu:Int) {aR:Int} (hf:R6 qg gu=some aR) (h:Q (.ret (iP aR)) τ):PC 63 [.agg (aK qg),iP gu] τ Q:=
 ((acS BIG)) qg gu hf h

theorem EI (v1:ah) {r0:Int} (hf:yO v1=some r0) (h:Q (.ret (iP r0)) τ):PC 39 [.agg (aK v1)] τ Q:=by
 unfold yO at hf; refine BN 5 [.tmp 2] [0] Tryz.func39 Z Z Z Z Z ?_; refine BR hf fun x1 h1 hf=>?_; refine W 3 Z (CL Z (adK _ _ h1 ?_)); cases hf; exact N 1 Z (Y Z h)

theorem adE (e1:aj) {r0:Bool} (hf:JI e1=some r0) (h:Q (.ret (.bool r0)) τ):PC 188 [.agg (bA e1)] τ Q:=by
 unfold JI at hf; refine BN 45 [.tmp 2] [0] Tryz.func188 Z Z Z Z Z (V 6 Z (C hf Z (fun h1 hf=>?_) fun h1 hf=>?_))
 ·
  refine V 0 Z (AW.cond Z (fun h2=>?_) (fun h2=>?_))
  · refine W 2 Z (AS Z (AO.aP (l:=e1.args) Z Z Z Z iT Z (aj.aB _) ?_)); cases hf; exact N 2 Z (Y Z h)
  cases h1.symm.trans h2
 refine V 2 Z (C hf Z (fun h3 hf=>?_) fun h3 hf=>?_)
 · refine W 2 Z (AS Z (AO.aP (l:=e1.args) Z Z Z Z iT Z (aj.aB _) ?_)); cases hf; exact N 2 Z (Y Z h)
 refine V 2 Z (C hf Z (fun h4 hf=>?_) fun h4 hf=>?_)
 ·
  refine V 0 Z (AW.cond Z (fun h5=>?_) (fun h5=>?_))
  · refine W 2 Z (AS Z (AO.aP (l:=e1.args) Z Z Z Z iT Z (aj.aB _) ?_)); cases hf; exact N 2 Z (Y Z h)
  cases h4.symm.trans h5
 refine V 2 Z (C hf Z (fun h6 hf=>?_) fun h6 hf=>?_)
 · refine W 2 Z (AS Z (AO.aP (l:=e1.args) Z Z Z Z iT Z (aj.aB _) ?_)); cases hf; exact N 2 Z (Y Z h)
 refine V 2 Z (C hf Z (fun h7 hf=>?_) fun h7 hf=>?_)
 ·
  refine V 0 Z (AW.cond Z (fun h8=>?_) (fun h8=>?_))
  · refine W 2 Z (AS Z (AO.aP (l:=e1.args) Z Z Z Z iT Z (aj.aB _) ?_)); cases hf; exact N 2 Z (Y Z h)
  cases h7.symm.trans h8
 refine V 2 Z (C hf Z (fun h9 hf=>?_) fun h9 hf=>?_)
 · refine W 2 Z (AS Z (AO.aP (l:=e1.args) Z Z Z Z iT Z (aj.aB _) ?_)); cases hf; exact N 2 Z (Y Z h)
 refine V 2 Z (C hf Z (fun h10 hf=>?_) fun h10 hf=>?_)
 · refine W 2 Z (AS Z (AO.aP (l:=e1.args) Z Z Z Z iT Z (aj.aB _) ?_)); cases hf; exact N 2 Z (Y Z h)
 refine W 4 Z (On 4 35 39 [1] (e1.kind == 9) Z Z Z Z (U 1 Z (On 4 40 44 [] (e1.kind == 10) Z Z Z Z ?_))); cases hf; exact N 1 Z (Y Z h)

theorem Ny (op1:Str) {r0:Int} (hf:Bv op1=some r0) (h:Q (.ret (iP r0)) τ):PC 197 [.str op1] τ Q:=by
 unfold Bv at hf; refine BN 22 [.tmp 2] [0] Tryz.func197 Z Z Z Z Z (V 4 Z (C hf Z (fun h1 hf=>?_) fun h1 hf=>?_))
 · cases hf; exact M 1 Z (Y Z h)
 refine V 2 Z (C hf Z (fun h2 hf=>?_) fun h2 hf=>?_)
 · cases hf; exact M 1 Z (Y Z h)
 refine V 2 Z (C hf Z (fun h3 hf=>?_) fun h3 hf=>?_)
 ·
  refine V 0 Z (AW.cond Z (fun h4=>?_) (fun h4=>?_))
  · cases hf; exact M 1 Z (Y Z h)
  cases h3.symm.trans h4
 refine V 2 Z (C hf Z (fun h5 hf=>?_) fun h5 hf=>?_)
 ·
  refine V 0 Z (AW.cond Z (fun h6=>?_) (fun h6=>?_))
  · cases hf; exact M 1 Z (Y Z h)
  cases h5.symm.trans h6
 refine V 2 Z (C hf Z (fun h7 hf=>?_) fun h7 hf=>?_)
 ·
  refine V 0 Z (AW.cond Z (fun h8=>?_) (fun h8=>?_))
  · cases hf; exact M 1 Z (Y Z h)
  cases h7.symm.trans h8
 refine V 2 Z (C hf Z (fun h9 hf=>?_) fun h9 hf=>?_)
 ·
  refine V 0 Z (AW.cond Z (fun h10=>?_) (fun h10=>?_))
  · cases hf; exact M 1 Z (Y Z h)
  cases h9.symm.trans h10
 refine V 2 Z (C hf Z (fun h11 hf=>?_) fun h11 hf=>?_)
 ·
  refine V 0 Z (AW.cond Z (fun h12=>?_) (fun h12=>?_))
  · cases hf; exact M 1 Z (Y Z h)
  cases h11.symm.trans h12
 refine V 2 Z (C hf Z (fun jJ hf=>?_) fun jJ hf=>?_)
 · cases hf; exact M 1 Z (Y Z h)
 refine V 2 Z (C hf Z (fun j5 hf=>?_) fun j5 hf=>?_)
 ·
  refine V 0 Z (AW.cond Z (fun mo=>?_) (fun mo=>?_))
  · cases hf; exact M 1 Z (Y Z h)
  cases j5.symm.trans mo
 refine V 2 Z (C hf Z (fun h16 hf=>?_) fun h16 hf=>?_)
 · cases hf; exact M 1 Z (Y Z h)
 refine V 2 Z (C hf Z (fun qB hf=>?_) fun qB hf=>?_)
 ·
  refine V 0 Z (AW.cond Z (fun h18=>?_) (fun h18=>?_))
  · cases hf; exact M 1 Z (Y Z h)
  cases qB.symm.trans h18
 refine V 2 Z (C hf Z (fun h19 hf=>?_) fun h19 hf=>?_)
 ·
  refine V 0 Z (AW.cond Z (fun h20=>?_) (fun h20=>?_))
  · cases hf; exact M 1 Z (Y Z h)
  cases h19.symm.trans h20
 refine V 2 Z (C hf Z (fun h21 hf=>?_) fun h21 hf=>?_)
 · cases hf; exact M 1 Z (Y Z h)
 cases hf; exact M 1 Z (Y Z h)

theorem adC (e1:aj) {r0:Bool} (hf:JH e1=some r0) (h:Q (.ret (.bool r0)) τ):PC 189 [.agg (bA e1)] τ Q:=by
 unfold JH at hf; refine BN 31 [.tmp 2] [0] Tryz.func189 Z Z Z Z Z (V 6 Z (C hf Z (fun h1 hf=>?_) fun h1 hf=>?_))
 ·
  refine V 0 Z (AW.cond Z (fun h2=>?_) (fun h2=>?_))
  · refine BR hf fun x1 h3 hf=>?_; refine W 2 Z (CL Z (EH _ h3 ?_)); cases hf; exact N 1 Z (Y Z h)
  cases h1.symm.trans h2
 refine V 2 Z (C hf Z (fun h4 hf=>?_) fun h4 hf=>?_)
 ·
  refine V 0 Z (AW.cond Z (fun h5=>?_) (fun h5=>?_))
  · refine BR hf fun x2 h6 hf=>?_; refine W 2 Z (CL Z (EH _ h6 ?_)); cases hf; exact N 1 Z (Y Z h)
  cases h4.symm.trans h5
 refine V 2 Z (C hf Z (fun h7 hf=>?_) fun h7 hf=>?_)
 · refine BR hf fun x3 h8 hf=>?_; refine W 2 Z (CL Z (EH _ h8 ?_)); cases hf; exact N 1 Z (Y Z h)
 refine V 2 Z (C hf Z (fun h9 hf=>?_) fun h9 hf=>?_)
 · refine W 4 Z (On 4 17 21 [] (e1.name == ([45]:Str)) Z Z Z Z ?_); cases hf; exact N 1 Z (Y Z h)
 refine V 2 Z (C hf Z (fun h11 hf=>?_) fun h11 hf=>?_)
 · refine B1 hf fun x4 h12 hf=>W 2 Z (CL Z (Ny _ h12 ?_)); cases hf; exact N 2 Z (Y Z h)
 cases hf; exact M 4 Z (Y Z h)

theorem abp (e1:aj) {r0:Bool} (hf:Gw e1=some r0) (h:Q (.ret (.bool r0)) τ):PC 127 [.agg (bA e1)] τ Q:=by
 unfold Gw at hf; refine BN 61 [.tmp 2] [0] Tryz.func127 Z Z Z Z Z ?_; refine B1 hf fun x1 h1 hf=>W 3 Z (CL Z (adE _ h1 ?_)); refine B1 hf fun b1 h3 hf=>U 2 Z (AR.dB 4 7 11 false [1] b1 Z Z (fun h2=>?_) (fun h2=>?_) ?_)
 · refine IF 7 h2 h3 Z fun h3=>?_; refine B1 h3 fun x2 h4 h3=>U 1 Z (GO Z (AO.call Z _ Z Z an0 (adC _ h4 ?_))); cases h3; exact eG 2 Z (En [11,1] Z)
 · refine IT 7 h2 h3 Z fun h3=>?_; cases h3; exact eG 4 Z (En [11,1] Z)
 refine B1 hf fun b2 h6 hf=>U 1 Z (AR.dB 11 12 23 false [1] b2 Z Z (fun h5=>?_) (fun h5=>?_) ?_)
 ·
  refine IF 12 h5 h6 Z fun h6=>?_; refine BR h6 fun b3 h8 h6=>?_; refine U 4 Z (AR.dB 6 16 22 true [1,12] b3 Z Z (fun h7=>?_) (fun h7=>?_) ?_)
  · replace h8:=cO h7 h8; refine Is 16 h7 Z (U 2 Z (GO Z (AO.build Z gq aep Z ?_))); refine B1 h8 fun x3 h9 h8=>GO Z (AO.call Z _ Z Z ajb (W9 _ _ h9 ?_)); cases h8; exact eG 2 Z (En [22,1,12] Z)
  · refine IF 16 h7 h8 Z fun h8=>?_; cases h8; exact eG 6 Z (En [22,1,12] Z)
  cases h6; exact eG 1 Z (En [23,1] Z)
 · refine IT 12 h5 h6 Z fun h6=>?_; cases h6; exact eG 11 Z (En [23,1] Z)
 refine J 0 Z (C hf Z (fun h10 hf=>?_) fun h10 hf=>?_)
 · cases hf; exact M 1 Z (Y Z h)
 refine V 3 Z (C hf Z (fun h11 hf=>?_) fun h11 hf=>?_)
 · refine W 2 Z (AS Z (AO.aP (l:=e1.keys) Z Z Z Z f_ Z Z ?_)); cases hf; exact N 2 Z (Y Z h)
 refine V 1 Z (Gh (fun i1=>[(1,.ref (bA e1)),(3,iP i1)]) (fun i1=>[]) (fun bT i1=>vZ e1 bT i1=some r0) BIG 0 Z Z hf (fun _ hz=>bQ hz) ?_); intro bT i1 hf; rw [vZ] at hf; refine W 3 Z (AS Z (AO.aP (l:=e1.keys) Z Z Z Z f_ Z Z (J 1 Z (C hf Z (fun h12 hf=>?_) fun h12 hf=>?_))))
 ·
  refine B1 hf fun e2 jJ hf=>W 3 Z (AS Z (AO.aI jJ Z Z Z Z f_ Z Z (U 1 Z (AS Z (AO.b_ Z Z Z Z dM Z ?_))))); refine B1 hf fun b4 mo hf=>U 2 Z (AR.dB 8 45 53 false [1,3] b4 Z Z (fun j5=>?_) (fun j5=>?_) ?_)
  · refine IF 45 j5 mo Z fun mo=>?_; refine B1 mo fun e3 h16 mo=>U 3 Z (GO Z (AO.aI h16 Z Z Z Z f_ Z Z (U 1 Z (GO Z (AO.b_ Z Z Z Z dM Z ?_))))); cases mo; exact eG 2 Z (En [53,1,3] Z)
  · refine IT 45 j5 mo Z fun mo=>?_; cases mo; exact eG 8 Z (En [53,1,3] Z)
  refine J 0 Z (C hf Z (fun qB hf=>?_) fun qB hf=>?_)
  · cases hf; exact M 1 Z (Y Z h)
  exact M 3 Z ⟨(bZ (i1 + 1)),Z,Z,Z,hf⟩
 refine W 2 Z (AS Z (AO.aP (l:=e1.keys) Z Z Z Z f_ Z Z (U 2 Z (AS Z (AO.aP (l:=e1.args) Z Z Z Z iT Z (aj.aB _) ?_))))); cases hf; exact N 2 Z (Y Z h)

theorem adB (Cy:List Str) {r0:Bool} (hf:JG Cy=some r0) (h:Q (.ret (.bool r0)) τ):PC 128 [sP Cy] τ Q:=by
 unfold JG at hf; refine BN 25 [.tmp 2] [0] Tryz.func128 Z Z Z Z Z (V 2 Z (Gh (fun i1=>[(0,sP Cy),(3,iP i1)]) (fun i1=>[]) (fun bT i1=>sN Cy bT i1=some r0) BIG 0 Z Z hf (fun _ hz=>bQ hz) ?_)); intro bT i1 hf; rw [sN] at hf; refine W 2 Z (AS Z (AO.aP (l:=Cy) Z Z Z Z f_ Z Z (J 1 Z (C hf Z (fun h1 hf=>?_) fun h1 hf=>?_))))
 ·
  refine V 1 Z (Gh (fun rV=>[(0,sP Cy),(3,iP i1),(4,iP rV)]) (fun rV=>[]) (fun KQ rV=>yJ Cy i1 (sN Cy bT) KQ rV=some r0) BIG 0 Z Z hf (fun _ hz=>bQ hz) ?_); intro KQ rV hf; rw [yJ] at hf; refine V 3 Z (C hf Z (fun h2 hf=>?_) fun h2 hf=>?_)
  ·
   refine V 0 Z (AW.draw 9 mixed (by kernel_rfl) Z ?_); refine Ev.cs aG 2 Z ?_; refine B1 hf fun e1 h3 hf=>Ev.cons Z Z Z (AO.aI h3 Z Z Z Z f_ Z Z zg) (Ev.cs aG 3 Z ?_); refine B1 hf fun e2 h4 hf=>Ev.cons Z Z Z (AO.aI h4 Z Z Z Z f_ Z Z zg) (Ev.cs aG 2 Z (Ev.nil ?_)); show AR _ _ _ _ _ _ _ _
   refine J 0 Z (C hf Z (fun h5 hf=>?_) fun h5 hf=>?_)
   · cases hf; exact M 1 Z (Y Z h)
   exact M 3 Z ⟨(bZ (rV + 1)),Z,Z,Z,hf⟩
  exact M 3 Z ⟨(bZ (i1 + 1)),Z,Z,Z,hf⟩
 cases hf; exact M 1 Z (Y Z h)


abbrev TY (o7:aj→Int→Option Int):Prop:=∀ (iY:aj) (gu:Int) {aR:Int},o7 iY gu=some aR→∀ {τ:List bJ} {Q:eT→List bJ→Prop} (h:Q (.ret (iP aR)) τ),PC 77 [.agg (bA iY),iP gu] τ Q
theorem abK (o7) (X7:TY o7) (e1:aj) (bV:Int) {r0:Int} (hf:Iu o7 e1 bV=some r0) (h:Q (.ret (iP r0)) τ):PC 77 [.agg (bA e1),iP bV] τ Q:=by
 unfold Iu at hf; refine BN 49 [.tmp 4] [0,1] Tryz.func77 Z Z Z Z Z (V 4 Z (C hf Z (fun h1 hf=>?_) fun h1 hf=>?_))
 · cases hf; exact M 1 Z (Y Z h)
 refine B1 hf fun x1 h2 hf=>W 1 Z (CL Z (abp _ h2 (J 1 Z (C hf Z (fun h3 hf=>?_) fun h3 hf=>?_))))
 · cases hf; exact M 1 Z (Y Z h)
 refine B1 hf fun f1 h4 hf=>W 2 Z (CL Z (EI _ h4 (U 5 Z (An 3 19 22 [1,2,5] (f1 != 0) Z Z Z Z (J 0 Z (C hf Z (fun h6 hf=>?_) fun h6 hf=>?_))))))
 · cases hf; exact M 2 Z (Y Z h)
 refine W 2 Z (AS Z (AO.aP (l:=e1.args) Z Z Z Z iT Z (aj.aB _) (J 1 Z (C hf Z (fun h7 hf=>?_) fun h7 hf=>?_))))
 · cases hf; exact M 1 Z (Y Z h)
 refine B1 hf fun x2 h8 hf=>W 2 Z (CL Z (adB _ h8 (J 0 Z (C hf Z (fun h9 hf=>?_) fun h9 hf=>?_))))
 · cases hf; exact M 1 Z (Y Z h)
 refine V 1 Z (Gh (fun i1=>[(1,iP bV),(2,.ref (bA e1)),(6,iP i1)]) (fun i1=>[]) (fun bT i1=>Bu o7 e1 bV bT i1=some r0) BIG 0 Z Z hf (fun _ hz=>bQ hz) ?_); intro bT i1 hf; rw [Bu] at hf; refine W 3 Z (AS Z (AO.aP (l:=e1.args) Z Z Z Z iT Z (aj.aB _) (J 1 Z (C hf Z (fun h10 hf=>?_) fun h10 hf=>?_))))
 ·
  refine B1 hf fun e2 h11 hf=>W 3 Z (AS Z (AO.aI h11 Z Z (aj.aB _) Z iT (aj.aD _) Z ?_)); refine B1 hf fun f2 h12 hf=>U 3 Z (CL Z (X7 _ _ h12 (J 3 Z (C hf Z (fun jJ hf=>?_) fun jJ hf=>?_))))
  · cases hf; exact M 2 Z (Y Z h)
  exact M 3 Z ⟨(bZ (i1 + 1)),Z,Z,Z,hf⟩
 cases hf; exact M 1 Z (Y Z h)
theorem acO :∀ k:Nat,(TY (sO k)):=by
 intro k
 induction k with
 | zero=>exact fun _ _ _ hz=>by first | cases hz | (unfold sO at hz; cases hz)
 | succ k ih=>exact fun iY gu aR hz τ Q hq=>abK (sO k) ih iY gu hz hq
theorem adD (iY:aj) (gu:Int) {aR:Int} (hf:R5 iY gu=some aR) (h:Q (.ret (iP aR)) τ):PC 77 [.agg (bA iY),iP gu] τ Q:=
 ((acO BIG)) iY gu hf h

theorem TK (e1:aj) {r0:Int} (hf:F6 e1=some r0) (h:Q (.ret (iP r0)) τ):PC 53 [.agg (bA e1)] τ Q:=by
 unfold F6 at hf; refine BN 8 [.tmp 2] [0] Tryz.func53 Z Z Z Z Z ?_; refine B1 hf fun x1 h1 hf=>W 3 Z (CL Z (TL _ h1 (J 1 Z (C hf Z (fun h2 hf=>?_) fun h2 hf=>?_))))
 · cases hf; exact M 1 Z (Y Z h)
 refine BR hf fun x2 h3 hf=>?_; refine W 1 Z (CL Z (adD _ _ h3 ?_)); cases hf; exact N 1 Z (Y Z h)

theorem K6 (name1:Str) {r0:Int} (hf:rE name1=some r0) (h:Q (.ret (iP r0)) τ):PC 79 [.str name1] τ Q:=by
 unfold rE at hf; refine BN 18 [.tmp 2] [0] Tryz.func79 Z Z Z Z Z (V 4 Z (C hf Z (fun h1 hf=>?_) fun h1 hf=>?_))
 ·
  refine V 0 Z (AW.cond Z (fun h2=>?_) (fun h2=>?_))
  · cases hf; exact M 1 Z (Y Z h)
  cases h1.symm.trans h2
 refine V 2 Z (C hf Z (fun h3 hf=>?_) fun h3 hf=>?_)
 ·
  refine V 0 Z (AW.cond Z (fun h4=>?_) (fun h4=>?_))
  · cases hf; exact M 1 Z (Y Z h)
  cases h3.symm.trans h4
 refine V 2 Z (C hf Z (fun h5 hf=>?_) fun h5 hf=>?_)
 ·
  refine V 0 Z (AW.cond Z (fun h6=>?_) (fun h6=>?_))
  · cases hf; exact M 1 Z (Y Z h)
  cases h5.symm.trans h6
 refine V 2 Z (C hf Z (fun h7 hf=>?_) fun h7 hf=>?_)
 ·
  refine V 0 Z (AW.cond Z (fun h8=>?_) (fun h8=>?_))
  · cases hf; exact M 1 Z (Y Z h)
  cases h7.symm.trans h8
 refine V 2 Z (C hf Z (fun h9 hf=>?_) fun h9 hf=>?_)
 ·
  refine V 0 Z (AW.cond Z (fun h10=>?_) (fun h10=>?_))
  · cases hf; exact M 1 Z (Y Z h)
  cases h9.symm.trans h10
 refine V 2 Z (C hf Z (fun h11 hf=>?_) fun h11 hf=>?_)
 · cases hf; exact M 1 Z (Y Z h)
 refine V 2 Z (C hf Z (fun h12 hf=>?_) fun h12 hf=>?_)
 ·
  refine V 0 Z (AW.cond Z (fun jJ=>?_) (fun jJ=>?_))
  · cases hf; exact M 1 Z (Y Z h)
  cases h12.symm.trans jJ
 refine V 2 Z (C hf Z (fun j5 hf=>?_) fun j5 hf=>?_)
 ·
  refine V 0 Z (AW.cond Z (fun mo=>?_) (fun mo=>?_))
  · cases hf; exact M 1 Z (Y Z h)
  cases j5.symm.trans mo
 refine V 2 Z (C hf Z (fun h16 hf=>?_) fun h16 hf=>?_)
 ·
  refine V 0 Z (AW.cond Z (fun qB=>?_) (fun qB=>?_))
  · cases hf; exact M 1 Z (Y Z h)
  cases h16.symm.trans qB
 refine V 2 Z (C hf Z (fun h18 hf=>?_) fun h18 hf=>?_)
 ·
  refine V 0 Z (AW.cond Z (fun h19=>?_) (fun h19=>?_))
  · cases hf; exact M 1 Z (Y Z h)
  cases h18.symm.trans h19
 refine V 2 Z (C hf Z (fun h20 hf=>?_) fun h20 hf=>?_)
 ·
  refine V 0 Z (AW.cond Z (fun h21=>?_) (fun h21=>?_))
  · cases hf; exact M 1 Z (Y Z h)
  cases h20.symm.trans h21
 refine V 2 Z (C hf Z (fun h22 hf=>?_) fun h22 hf=>?_)
 · cases hf; exact M 1 Z (Y Z h)
 cases hf; exact M 1 Z (Y Z h)


end Go.Proofs.YtggpjlegajicnaaGreatDoor
