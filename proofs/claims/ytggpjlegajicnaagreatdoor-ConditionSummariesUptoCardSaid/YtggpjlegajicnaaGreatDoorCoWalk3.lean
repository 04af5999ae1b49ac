/- Proved here: each function does what its functional text says (part 3). -/
import Derived.Test.YtggpjlegajicnaaGreatDoorCoWalk2
set_option linter.unusedVariables false
set_option linter.unusedSimpArgs false
set_option linter.unusedSectionVars false
namespace Go.Proofs.YtggpjlegajicnaaGreatDoor
open Go Go.Abs Go.Ft
set_option maxRecDepth 20000
attribute [local irreducible] AO AR AW AC
variable [gX]
variable {τ : List bJ} {Q : eT → List bJ → Prop}
theorem Ar (UY:Bool) {r0:Int} (hf:pO UY=some r0) (h:Q (.ret (iP r0)) τ):PC 170 [.bool UY] τ Q:=by
 unfold pO at hf; refine BN 4 [.tmp 2] [0] Tryz.func170 Z Z Z Z Z (V 2 Z (C hf Z (fun h1 hf=>?_) fun h1 hf=>?_))
 · cases hf; exact M 1 Z (Y Z h)
 cases hf; exact M 1 Z (Y Z h)

theorem EJ (OP:Bool) (Q0:Bool) {r0:Int} (hf:yR OP Q0=some r0) (h:Q (.ret (iP r0)) τ):PC 213 [.bool OP,.bool Q0] τ Q:=by
 unfold yR at hf; refine BN 7 [.tmp 4] [0,1] Tryz.func213 Z Z Z Z Z (V 2 Z (C hf Z (fun h1 hf=>?_) fun h1 hf=>?_))
 · cases hf; exact M 1 Z (Y Z h)
 refine V 1 Z (C hf Z (fun h2 hf=>?_) fun h2 hf=>?_)
 · cases hf; exact M 1 Z (Y Z h)
 cases hf; exact M 1 Z (Y Z h)

theorem NC (c1:UInt8) {r0:Bool} (hf:F8 c1=some r0) (h:Q (.ret (.bool r0)) τ):PC 214 [.int .u8 (c1.toNat:Int)] τ Q:=by
 unfold F8 at hf; refine BN 9 [.tmp 2] [0] Tryz.func214 Z Z Z Z Z (W 4 Z (An 3 5 8 [] (decide ((c1.toNat:Int)≤57)) Z Z Z Z ?_)); cases hf; exact N 1 Z (Y Z h)

theorem ZI (s1:Str) (mE:Int) {r0:Int} (hf:QK s1 mE=some r0) (h:Q (.ret (iP r0)) τ):PC 215 [.str s1,iP mE] τ Q:=by
 unfold QK at hf; refine BN 18 [.tmp 4] [0,1] Tryz.func215 Z Z Z Z Z (V 1 Z (Gh (fun at2=>[(0,.str s1),(1,iP at2)]) (fun at2=>[]) (fun bT at2=>GA s1 bT at2=some r0) BIG mE Z Z hf (fun _ hz=>bQ hz) ?_)); intro bT at2 hf; rw [GA] at hf; refine W 2 Z (AS Z (AO.b_ Z Z Z Z dM Z ?_)); refine B1 hf fun b1 h2 hf=>U 2 Z (AR.dB 5 9 14 true [0,1] b1 Z Z (fun h1=>?_) (fun h1=>?_) ?_)
 · refine IT 9 h1 h2 Z fun h2=>?_; refine B1 h2 fun x1 h3 h2=>U 2 Z (GO Z (AO.gy h3 Z dM Z Z ?_)); refine BR h2 fun x2 h4 h2=>?_; refine GO Z (AO.call Z _ Z Z aji (NC _ h4 ?_)); cases h2; exact eG 1 Z (En [14,0,1] Z)
 · refine IF 9 h1 h2 Z fun h2=>?_; cases h2; exact eG 5 Z (En [14,0,1] Z)
 refine J 0 Z (C hf Z (fun h5 hf=>?_) fun h5 hf=>?_)
 · exact M 3 Z ⟨(bZ (at2 + 1)),Z,Z,Z,hf⟩
 cases hf; exact M 2 Z (Y Z h)

theorem TP (s1:Str) {r0:Str} (hf:F7 s1=some r0) (h:Q (.ret (.str r0)) τ):PC 257 [.str s1] τ Q:=by
 unfold F7 at hf; refine BN 19 [.tmp 2] [0] Tryz.func257 Z Z Z Z Z (V 2 Z (Gh (fun i1=>[(0,.str s1),(3,iP i1)]) (fun i1=>[]) (fun bT i1=>yQ s1 bT i1=some r0) BIG 0 Z Z hf (fun _ hz=>bQ hz) ?_)); intro bT i1 hf; rw [yQ] at hf; refine W 2 Z (AS Z (AO.b_ Z Z Z Z dM Z ?_)); refine B1 hf fun b1 h2 hf=>U 2 Z (AR.dB 5 8 13 true [0,3] b1 Z Z (fun h1=>?_) (fun h1=>?_) ?_)
 · refine IT 8 h1 h2 Z fun h2=>?_; refine B1 h2 fun x1 h3 h2=>U 2 Z (GO Z (AO.gy h3 Z dM Z Z ?_)); cases h2; exact eG 2 Z (En [13,0,3] Z)
 · refine IF 8 h1 h2 Z fun h2=>?_; cases h2; exact eG 5 Z (En [13,0,3] Z)
 refine J 0 Z (C hf Z (fun h4 hf=>?_) fun h4 hf=>?_)
 · exact M 3 Z ⟨(bZ (i1 + 1)),Z,Z,Z,hf⟩
 refine BR hf fun x2 h5 hf=>?_; refine W 2 Z (AS Z (AO.r_ h5 Z dM Z ⟨_,Z⟩ Z ?_)); cases hf; exact N 1 Z (Y Z h)

theorem aft (a1:Str) (b1:Str) {r0:Int} (hf:MS a1 b1=some r0) (h:Q (.ret (iP r0)) τ):PC 216 [.str a1,.str b1] τ Q:=by
 unfold MS at hf; refine BN 48 [.tmp 4] [0,1] Tryz.func216 Z Z Z Z Z ?_; refine B1 hf fun x1 h1 hf=>W 2 Z (CL Z (TP _ h1 ?_)); refine B1 hf fun y1 h2 hf=>U 1 Z (CL Z (TP _ h2 (U 3 Z (AS Z (AO.b_ Z Z Z Z dM Z (U 1 Z (AS Z (AO.b_ Z Z Z Z dM Z (J 1 Z (C hf Z (fun h3 hf=>?_) fun h3 hf=>?_))))))))))
 · refine W 1 Z (AS Z (AO.b_ Z Z Z Z dM Z (U 1 Z (AS Z (AO.b_ Z Z Z Z dM Z (U 2 Z (AS Z (AO.b_ Z Z Z Z dM Z (U 1 Z (AS Z (AO.b_ Z Z Z Z dM Z ?_))))))))))); refine BR hf fun x2 h4 hf=>?_; refine U 1 Z (CL Z (EJ _ _ h4 ?_)); cases hf; exact N 1 Z (Y Z h)
 refine V 3 Z (C hf Z (fun h5 hf=>?_) fun h5 hf=>?_)
 · refine BR hf fun x3 h6 hf=>?_; refine W 6 Z (CL Z (EJ _ _ h6 ?_)); cases hf; exact N 1 Z (Y Z h)
 refine W 1 Z (AS Z (AO.b_ Z Z Z Z dM Z (U 1 Z (AS Z (AO.b_ Z Z Z Z dM Z (U 2 Z (AS Z (AO.b_ Z Z Z Z dM Z (U 1 Z (AS Z (AO.b_ Z Z Z Z dM Z ?_))))))))))); refine BR hf fun x4 h7 hf=>?_; refine U 1 Z (CL Z (EJ _ _ h7 ?_)); cases hf; exact N 1 Z (Y Z h)

theorem Jm (a1:Str) (b1:Str) {r0:Int} (hf:qN a1 b1=some r0) (h:Q (.ret (iP r0)) τ):PC 159 [.str a1,.str b1] τ Q:=by
 unfold qN at hf; refine BN 78 [.tmp 4] [0,1] Tryz.func159 Z Z Z Z Z (V 3 Z (Xy (fun i1 rV=>[(0,.str a1),(1,.str b1),(5,iP i1),(6,iP rV)]) (fun i1 rV=>[]) (fun bT i1 rV=>pR a1 b1 bT i1 rV=some r0) BIG 0 0 Z Z hf (fun _ _ hz=>bQ hz) ?_)); intro bT i1 rV hf; rw [pR] at hf; refine W 2 Z (AS Z (AO.b_ Z Z Z Z dM Z (U 2 Z (AR.and 5 14 19 [0,1,5,6] (x:=(decide (rV < (b1.length:Int)))) Z Z (fun h1=>?_) (fun h1=>?_) ?_))))
 · refine Is 14 h1 Z (U 2 Z (GO Z (AO.b_ Z Z Z Z dM Z ?_))); exact eG 2 Z (En [19,0,1,5,6] Z)
 · refine Is 14 h1 Z ?_; exact eG 5 Z (En [19,0,1,5,6] Z)
 refine J 0 Z (C hf Z (fun h2 hf=>?_) fun h2 hf=>?_)
 ·
  refine V 0 Z (AW.draw 16 mixed (by kernel_rfl) Z ?_); refine Ev.cs aG 2 Z ?_; refine B1 hf fun x1 h3 hf=>Ev.cons Z Z Z (AO.gy h3 Z dM Z Z zg) (Ev.cs aG 2 Z ?_); refine B1 hf fun x2 h4 hf=>Ev.cons Z Z Z (AO.gy h4 Z dM Z Z zg) (Ev.cs aG 3 Z ?_); refine B1 hf fun x3 h5 hf=>Ev.cons Z Z Z (AO.gy h5 Z dM Z Z zg) (Ev.cs aG 2 Z ?_); refine B1 hf fun x4 h6 hf=>Ev.cons Z Z Z (AO.gy h6 Z dM Z Z zg) (Ev.cs aG 1 Z ?_); refine B1 hf fun c1 h7 hf=>Ev.cons Z Z Z (AO.call Z _ Z Z anT (EJ _ _ h7 zg)) (Ev.cs aG 1 Z (Ev.nil ?_))
  show AR _ _ _ _ _ _ _ _
  refine B1 hf fun x5 h8 hf=>U 8 Z (AS Z (AO.gy h8 Z dM Z Z ?_)); refine B1 hf fun x6 h9 hf=>CL Z (NC _ h9 ?_); refine B1 hf fun b2 h11 hf=>U 1 Z (AR.dB 5 43 48 true [0,1,5,6,7,8,9] b2 Z Z (fun h10=>?_) (fun h10=>?_) ?_)
  · refine IT 43 h10 h11 Z fun h11=>?_; refine B1 h11 fun x7 h12 h11=>U 2 Z (GO Z (AO.gy h12 Z dM Z Z ?_)); refine BR h11 fun x8 jJ h11=>?_; refine GO Z (AO.call Z _ Z Z aji (NC _ jJ ?_)); cases h11; exact eG 1 Z (En [48,0,1,5,6,7,8,9] Z)
  · refine IF 43 h10 h11 Z fun h11=>?_; cases h11; exact eG 5 Z (En [48,0,1,5,6,7,8,9] Z)
  refine J 0 Z (C hf Z (fun j5 hf=>?_) fun j5 hf=>?_)
  ·
   refine B1 hf fun m1 mo hf=>W 2 Z (CL Z (ZI _ _ mo ?_)); refine B1 hf fun n1 h16 hf=>U 2 Z (CL Z (ZI _ _ h16 (J 2 Z (AW.draw 10 mixed (by kernel_rfl) Z ?_)))); refine Ev.cs aG 3 Z ?_; refine B1 hf fun x9 qB hf=>Ev.cons Z Z Z (AO.r_ qB Z dM Z ⟨_,Z⟩ ⟨_,Z⟩ zg) (Ev.cs aG 3 Z ?_); refine B1 hf fun wS h18 hf=>Ev.cons Z Z Z (AO.r_ h18 Z dM Z ⟨_,Z⟩ ⟨_,Z⟩ zg) ?_; refine B1 hf fun c2 h19 hf=>Ev.cons Z Z Z (AO.call Z _ Z Z anS (aft _ _ h19 zg)) (Ev.cs aG 1 Z (Ev.nil ?_))
   show AR _ _ _ _ _ _ _ _
   refine J 2 Z (C hf Z (fun h20 hf=>?_) fun h20 hf=>?_)
   · cases hf; exact M 2 Z (Y Z h)
   exact M 4 Z ⟨m1,n1,Z,Z,Z,hf⟩
  refine V 2 Z (C hf Z (fun h21 hf=>?_) fun h21 hf=>?_)
  · cases hf; exact M 2 Z (Y Z h)
  exact M 4 Z ⟨(bZ (i1 + 1)),(bZ (rV + 1)),Z,Z,Z,hf⟩
 refine W 2 Z (AS Z (AO.b_ Z Z Z Z dM Z (U 3 Z (AS Z (AO.b_ Z Z Z Z dM Z ?_))))); refine BR hf fun H8 h22 hf=>?_; refine U 1 Z (CL Z (EJ _ _ h22 ?_)); cases hf; exact N 1 Z (Y Z h)

theorem adJ (a1:List Str) (b1:List Str) {r0:Int} (hf:JM a1 b1=some r0) (h:Q (.ret (iP r0)) τ):PC 172 [sP a1,sP b1] τ Q:=by
 unfold JM at hf; refine BN 44 [.tmp 4] [0,1] Tryz.func172 Z Z Z Z Z (V 2 Z (Gh (fun i1=>[(0,sP a1),(1,sP b1),(5,iP i1)]) (fun i1=>[]) (fun bT i1=>yM a1 b1 bT i1=some r0) BIG 0 Z Z hf (fun _ hz=>bQ hz) ?_)); intro bT i1 hf; rw [yM] at hf; refine W 2 Z (AS Z (AO.aP (l:=a1) Z Z Z Z f_ Z Z (U 2 Z (AR.and 5 11 16 [0,1,5] (x:=(decide (i1 < (b1.length:Int)))) Z Z (fun h1=>?_) (fun h1=>?_) ?_))))
 · refine Is 11 h1 Z (U 2 Z (GO Z (AO.aP (l:=b1) Z Z Z Z f_ Z Z ?_))); exact eG 2 Z (En [16,0,1,5] Z)
 · refine Is 11 h1 Z ?_; exact eG 5 Z (En [16,0,1,5] Z)
 refine J 0 Z (C hf Z (fun h2 hf=>?_) fun h2 hf=>?_)
 ·
  refine V 0 Z (AW.draw 10 mixed (by kernel_rfl) Z ?_); refine Ev.cs aG 2 Z ?_; refine B1 hf fun e1 h3 hf=>Ev.cons Z Z Z (AO.aI h3 Z Z Z Z f_ Z Z zg) (Ev.cs aG 3 Z ?_); refine B1 hf fun e2 h4 hf=>Ev.cons Z Z Z (AO.aI h4 Z Z Z Z f_ Z Z zg) (Ev.cs aG 1 Z ?_); refine B1 hf fun c1 h5 hf=>Ev.cons Z Z Z (AO.call Z _ Z Z aeE (Jm _ _ h5 zg)) (Ev.cs aG 1 Z (Ev.nil ?_)); show AR _ _ _ _ _ _ _ _
  refine J 2 Z (C hf Z (fun h6 hf=>?_) fun h6 hf=>?_)
  · refine BR hf fun x1 h7 hf=>?_; refine W 2 Z (CL Z (Ar _ h7 ?_)); cases hf; exact N 1 Z (Y Z h)
  exact M 3 Z ⟨(bZ (i1 + 1)),Z,Z,Z,hf⟩
 refine W 1 Z (AS Z (AO.aP (l:=a1) Z Z Z Z f_ Z Z (U 1 Z (AS Z (AO.aP (l:=b1) Z Z Z Z f_ Z Z (J 1 Z (C hf Z (fun h8 hf=>?_) fun h8 hf=>?_)))))))
 · cases hf; exact M 1 Z (Y Z h)
 refine W 1 Z (AS Z (AO.aP (l:=a1) Z Z Z Z f_ Z Z (U 1 Z (AS Z (AO.aP (l:=b1) Z Z Z Z f_ Z Z ?_))))); refine BR hf fun x2 h9 hf=>?_; refine U 1 Z (CL Z (Ar _ h9 ?_)); cases hf; exact N 1 Z (Y Z h)


abbrev Jr (jv:ah→ah→Option Int):Prop:=∀ (sF:ah) (sD:ah) {aR:Int},jv sF sD=some aR→∀ {τ:List bJ} {Q:eT→List bJ→Prop} (h:Q (.ret (iP aR)) τ),PC 113 [.agg (aK sF),.agg (aK sD)] τ Q
abbrev NT (nN:List ah→List ah→Option Int):Prop:=∀ (sF:List ah) (sD:List ah) {aR:Int},nN sF sD=some aR→∀ {τ:List bJ} {Q:eT→List bJ→Prop} (h:Q (.ret (iP aR)) τ),PC 171 [.list (ah.aU sF),.list (ah.aU sD)] τ Q
theorem XP (jv) (Lu:Jr jv) (nN) (Ji:NT nN) (a1:ah) (b1:ah) {r0:Int} (hf:DL jv nN a1 b1=some r0) (h:Q (.ret (iP r0)) τ):PC 113 [.agg (aK a1),.agg (aK b1)] τ Q:=by
 unfold DL at hf; refine BN 77 [.tmp 4] [0,1] Tryz.func113 Z Z Z Z Z (V 8 Z (C hf Z (fun h1 hf=>?_) fun h1 hf=>?_))
 · refine BR hf fun x1 h2 hf=>?_; refine W 5 Z (CL Z (Ar _ h2 ?_)); cases hf; exact N 1 Z (Y Z h)
 refine V 4 Z (C hf Z (fun h3 hf=>?_) fun h3 hf=>?_)
 ·
  refine W 4 Z (AS Z (AO.RD Z XQ Z Z (J 0 Z (C hf Z (fun h4 hf=>?_) fun h4 hf=>?_))))
  · refine BR hf fun x2 h5 hf=>?_; refine W 2 Z (CL Z (Ar _ h5 ?_)); cases hf; exact N 1 Z (Y Z h)
  cases hf; exact M 1 Z (Y Z h)
 refine V 2 Z (C hf Z (fun h6 hf=>?_) fun h6 hf=>?_)
 ·
  refine V 5 Z (C hf Z (fun h7 hf=>?_) fun h7 hf=>?_)
  · refine BR hf fun x3 h8 hf=>?_; refine W 5 Z (CL Z (Ar _ h8 ?_)); cases hf; exact N 1 Z (Y Z h)
  cases hf; exact M 1 Z (Y Z h)
 refine V 2 Z (C hf Z (fun h9 hf=>?_) fun h9 hf=>?_)
 ·
  refine V 5 Z (C hf Z (fun h10 hf=>?_) fun h10 hf=>?_)
  · refine BR hf fun x4 h11 hf=>?_; refine W 5 Z (CL Z (Ar _ h11 ?_)); cases hf; exact N 1 Z (Y Z h)
  cases hf; exact M 1 Z (Y Z h)
 refine V 2 Z (C hf Z (fun h12 hf=>?_) fun h12 hf=>?_)
 · refine BR hf fun x5 jJ hf=>?_; refine W 4 Z (CL Z (Ji _ _ jJ ?_)); cases hf; exact N 1 Z (Y Z h)
 refine V 2 Z (C hf Z (fun j5 hf=>?_) fun j5 hf=>?_)
 ·
  refine B1 hf fun c1 mo hf=>W 4 Z (CL Z (adJ _ _ mo (J 3 Z (C hf Z (fun h16 hf=>?_) fun h16 hf=>?_))))
  · cases hf; exact M 2 Z (Y Z h)
  refine BR hf fun x6 qB hf=>?_; refine W 4 Z (CL Z (Ji _ _ qB ?_)); cases hf; exact N 1 Z (Y Z h)
 cases hf; exact M 1 Z (Y Z h)
theorem abO (jv) (Lu:Jr jv) (nN) (Ji:NT nN) (a1:List ah) (b1:List ah) {r0:Int} (hf:Iz jv nN a1 b1=some r0) (h:Q (.ret (iP r0)) τ):PC 171 [.list (ah.aU a1),.list (ah.aU b1)] τ Q:=by
 unfold Iz at hf; refine BN 42 [.tmp 4] [0,1] Tryz.func171 Z Z Z Z Z (V 2 Z (Gh (fun i1=>[(0,.list (ah.aU a1)),(1,.list (ah.aU b1)),(5,iP i1)]) (fun i1=>[]) (fun bT i1=>yN jv a1 b1 bT i1=some r0) BIG 0 Z Z hf (fun _ hz=>bQ hz) ?_)); intro bT i1 hf; rw [yN] at hf; refine W 2 Z (AS Z (AO.aP (l:=a1) Z Z Z Z dX Z (ah.aB _) (U 2 Z (AR.and 5 11 16 [0,1,5] (x:=(decide (i1 < (b1.length:Int)))) Z Z (fun h1=>?_) (fun h1=>?_) ?_))))
 · refine Is 11 h1 Z (U 2 Z (GO Z (AO.aP (l:=b1) Z Z Z Z dX Z (ah.aB _) ?_))); exact eG 2 Z (En [16,0,1,5] Z)
 · refine Is 11 h1 Z ?_; exact eG 5 Z (En [16,0,1,5] Z)
 refine J 0 Z (C hf Z (fun h2 hf=>?_) fun h2 hf=>?_)
 ·
  refine V 0 Z (AW.draw 10 mixed (by kernel_rfl) Z ?_); refine Ev.cs aG 2 Z ?_; refine B1 hf fun e1 h3 hf=>Ev.cons Z Z Z (AO.aI h3 Z Z (ah.aB _) Z dX (ah.aD _) Z zg) (Ev.cs aG 3 Z ?_); refine B1 hf fun e2 h4 hf=>Ev.cons Z Z Z (AO.aI h4 Z Z (ah.aB _) Z dX (ah.aD _) Z zg) (Ev.cs aG 1 Z ?_); refine B1 hf fun c1 h5 hf=>Ev.cons Z Z Z (AO.call Z _ Z Z aod (Lu _ _ h5 zg)) (Ev.cs aG 1 Z (Ev.nil ?_)); show AR _ _ _ _ _ _ _ _
  refine J 2 Z (C hf Z (fun h6 hf=>?_) fun h6 hf=>?_)
  · cases hf; exact M 2 Z (Y Z h)
  exact M 3 Z ⟨(bZ (i1 + 1)),Z,Z,Z,hf⟩
 refine W 1 Z (AS Z (AO.aP (l:=a1) Z Z Z Z dX Z (ah.aB _) (U 1 Z (AS Z (AO.aP (l:=b1) Z Z Z Z dX Z (ah.aB _) (J 1 Z (C hf Z (fun h7 hf=>?_) fun h7 hf=>?_)))))))
 · cases hf; exact M 1 Z (Y Z h)
 refine W 1 Z (AS Z (AO.aP (l:=a1) Z Z Z Z dX Z (ah.aB _) (U 1 Z (AS Z (AO.aP (l:=b1) Z Z Z Z dX Z (ah.aB _) ?_))))); refine BR hf fun x1 h8 hf=>?_; refine U 1 Z (CL Z (Ar _ h8 ?_)); cases hf; exact N 1 Z (Y Z h)
theorem OO :∀ k:Nat,(Jr (lN k))∧(NT (u_ k)):=by
 intro k
 induction k with
 | zero=>exact ⟨fun _ _ _ hz=>by first | cases hz | (unfold lN at hz; cases hz),fun _ _ _ hz=>by first | cases hz | (unfold u_ at hz; cases hz)⟩
 | succ k ih=>exact ⟨fun sF sD aR hz τ Q hq=>XP (lN k) ih.1 (u_ k) ih.2 sF sD hz hq,fun sF sD aR hz τ Q hq=>abO (lN k) ih.1 (u_ k) ih.2 sF sD hz hq⟩
theorem Yo (sF:ah) (sD:ah) {aR:Int} (hf:IE sF sD=some aR) (h:Q (.ret (iP aR)) τ):PC 113 [.agg (aK sF),.agg (aK sD)] τ Q:=
 ((OO BIG).1) sF sD hf h
theorem ana (sF:List ah) (sD:List ah) {aR:Int} (hf:ahe sF sD=some aR) (h:Q (.ret (iP aR)) τ):PC 171 [.list (ah.aU sF),.list (ah.aU sD)] τ Q:=
 ((OO BIG).2) sF sD hf h

theorem NA (a1:ah) (b1:ah) {r0:Bool} (hf:yP a1 b1=some r0) (h:Q (.ret (.bool r0)) τ):PC 73 [.agg (aK a1),.agg (aK b1)] τ Q:=by
 unfold yP at hf; refine BN 9 [.tmp 4] [0,1] Tryz.func73 Z Z Z Z Z ?_; refine B1 hf fun x1 h1 hf=>W 5 Z (CL Z (Yo _ _ h1 ?_)); cases hf; exact N 2 Z (Y Z h)


abbrev T9 (kS:aj→aj→Option Bool):Prop:=∀ (sF:aj) (sD:aj) {aR:Bool},kS sF sD=some aR→∀ {τ:List bJ} {Q:eT→List bJ→Prop} (h:Q (.ret (.bool aR)) τ),PC 46 [.agg (bA sF),.agg (bA sD)] τ Q
theorem abL (kS) (X8:T9 kS) (a1:aj) (b1:aj) {r0:Bool} (hf:MK kS a1 b1=some r0) (h:Q (.ret (.bool r0)) τ):PC 46 [.agg (bA a1),.agg (bA b1)] τ Q:=by
 unfold MK at hf; refine BN 82 [.tmp 4] [0,1] Tryz.func46 Z Z Z Z Z (W 9 Z (On 6 12 18 [2,3] (!(a1.name == b1.name)) Z Z Z Z (U 1 Z (AR.or 8 19 27 [2,3] (x:=((a1.keys.length:Int) != (b1.keys.length:Int))) Z Z (fun h2=>?_) (fun h2=>?_) ?_))))
 · refine Is 19 h2 Z (U 2 Z (GO Z (AO.aP (l:=a1.keys) Z Z Z Z f_ Z Z (U 2 Z (GO Z (AO.aP (l:=b1.keys) Z Z Z Z f_ Z Z ?_)))))); exact eG 2 Z (En [27,2,3] Z)
 · refine Is 19 h2 Z ?_; exact eG 8 Z (En [27,2,3] Z)
 refine U 1 Z (AR.or 8 28 36 [2,3] (x:=((a1.args.length:Int) != (b1.args.length:Int))) Z Z (fun h3=>?_) (fun h3=>?_) ?_)
 · refine Is 28 h3 Z (U 2 Z (GO Z (AO.aP (l:=a1.args) Z Z Z Z iT Z (aj.aB _) (U 2 Z (GO Z (AO.aP (l:=b1.args) Z Z Z Z iT Z (aj.aB _) ?_)))))); exact eG 2 Z (En [36,2,3] Z)
 · refine Is 28 h3 Z ?_; exact eG 8 Z (En [36,2,3] Z)
 refine B1 hf fun b2 h5 hf=>U 1 Z (AR.dB 7 37 44 false [2,3] b2 Z Z (fun h4=>?_) (fun h4=>?_) ?_)
 · refine IF 37 h4 h5 Z fun h5=>?_; refine B1 h5 fun x1 h6 h5=>U 4 Z (GO Z (AO.call Z _ Z Z amG (NA _ _ h6 ?_))); cases h5; exact eG 2 Z (En [44,2,3] Z)
 · refine IT 37 h4 h5 Z fun h5=>?_; cases h5; exact eG 7 Z (En [44,2,3] Z)
 refine J 0 Z (C hf Z (fun h7 hf=>?_) fun h7 hf=>?_)
 · cases hf; exact M 1 Z (Y Z h)
 refine V 1 Z (Gh (fun i1=>[(2,.ref (bA a1)),(3,.ref (bA b1)),(5,iP i1)]) (fun i1=>[]) (fun bT i1=>Fh kS a1 b1 bT i1=some r0) BIG 0 Z Z hf (fun _ hz=>bQ hz) ?_); intro bT i1 hf; rw [Fh] at hf; refine W 3 Z (AS Z (AO.aP (l:=a1.keys) Z Z Z Z f_ Z Z (J 1 Z (C hf Z (fun h8 hf=>?_) fun h8 hf=>?_))))
 ·
  refine V 0 Z (AW.draw 11 mixed (by kernel_rfl) Z ?_); refine Ev.cs aG 3 Z ?_; refine B1 hf fun e1 h9 hf=>Ev.cons Z Z Z (AO.aI h9 Z Z Z Z f_ Z Z zg) (Ev.cs aG 4 Z ?_); refine B1 hf fun e2 h10 hf=>Ev.cons Z Z Z (AO.aI h10 Z Z Z Z f_ Z Z zg) (Ev.cs aG 2 Z (Ev.nil ?_)); show AR _ _ _ _ _ _ _ _
  refine J 0 Z (C hf Z (fun h11 hf=>?_) fun h11 hf=>?_)
  · cases hf; exact M 1 Z (Y Z h)
  exact M 3 Z ⟨(bZ (i1 + 1)),Z,Z,Z,hf⟩
 refine V 1 Z (Gh (fun i2=>[(2,.ref (bA a1)),(3,.ref (bA b1)),(6,iP i2)]) (fun i2=>[]) (fun KQ i2=>Fg kS a1 b1 KQ i2=some r0) BIG 0 Z Z hf (fun _ hz=>bQ hz) ?_); intro KQ i2 hf; rw [Fg] at hf; refine W 3 Z (AS Z (AO.aP (l:=a1.args) Z Z Z Z iT Z (aj.aB _) (J 1 Z (C hf Z (fun h12 hf=>?_) fun h12 hf=>?_))))
 ·
  refine V 0 Z (AW.draw 12 mixed (by kernel_rfl) Z ?_); refine Ev.cs aG 3 Z ?_; refine B1 hf fun e3 jJ hf=>Ev.cons Z Z Z (AO.aI jJ Z Z (aj.aB _) Z iT (aj.aD _) Z zg) (Ev.cs aG 4 Z ?_); refine B1 hf fun e4 j5 hf=>Ev.cons Z Z Z (AO.aI j5 Z Z (aj.aB _) Z iT (aj.aD _) Z zg) (Ev.cs aG 1 Z ?_); refine B1 hf fun x2 mo hf=>Ev.cons Z Z Z (AO.call Z _ Z Z amJ (X8 _ _ mo zg)) (Ev.cs aG 1 Z (Ev.nil ?_)); show AR _ _ _ _ _ _ _ _
  refine J 0 Z (C hf Z (fun h16 hf=>?_) fun h16 hf=>?_)
  · cases hf; exact M 1 Z (Y Z h)
  exact M 3 Z ⟨(bZ (i2 + 1)),Z,Z,Z,hf⟩
 cases hf; exact M 1 Z (Y Z h)
theorem acP :∀ k:Nat,(T9 (Ej k)):=by
 intro k
 induction k with
 | zero=>exact fun _ _ _ hz=>by first | cases hz | (unfold Ej at hz; cases hz)
 | succ k ih=>exact fun sF sD aR hz τ Q hq=>abL (Ej k) ih sF sD hz hq
theorem adF (sF:aj) (sD:aj) {aR:Bool} (hf:Zd sF sD=some aR) (h:Q (.ret (.bool aR)) τ):PC 46 [.agg (bA sF),.agg (bA sD)] τ Q:=
 ((acP BIG)) sF sD hf h

theorem adx (e1:aj) {r0:Bool} (hf:JC e1=some r0) (h:Q (.ret (.bool r0)) τ):PC 25 [.agg (bA e1)] τ Q:=by
 unfold JC at hf; refine BN 6 [.tmp 2] [0] Tryz.func25 Z Z Z Z Z (V 2 Z (AW.draw 4 mixed (by kernel_rfl) Z ?_)); refine Ev.cs aG 1 Z ?_; refine B1 hf fun x1 h1 hf=>Ev.cons Z Z Z (AO.call Z _ Z Z apR (Yl  h1 zg)) ?_; refine BR hf fun x2 h2 hf=>?_; refine Ev.cons Z Z Z (AO.call Z _ Z Z amJ (adF _ _ h2 zg)) (Ev.cs aG 1 Z (Ev.nil ?_)); show AR _ _ _ _ _ _ _ _
 cases hf; exact N 0 Z (Y Z h)

section
variable [FR]
theorem m_ {r0:Bool} (hf:lZ=some r0) (h:Q (.ret (.bool r0)) τ):PC 9 [] τ Q:=by
 unfold lZ at hf; refine BN 86 [.tmp 0] [] Tryz.func9 Z Z Z Z Z (W 1 Z (AS Z (AO.aS (List.map vT ([1,2]:List Int)) Z Y4 Z Z Z Z ?_))); obtain ⟨a1,e1,h1,hf⟩:=aV hf; refine U 2 Z (CL Z (zo _ _ h1 ?_)); obtain ⟨b1,f1,h2,hf⟩:=aV hf; refine U 6 Z (CL Z (zo _ _ h2 ?_)); obtain ⟨c1,g1,h3,hf⟩:=aV hf; refine U 6 Z (CL Z (zo _ _ h3 ?_)); obtain ⟨x1,hx1,h4,hf⟩:=aV hf; refine U 5 Z (CL Z (zo _ _ h4 ?_)); obtain ⟨x2,x3,x4,h5,hf⟩:=wz hf
 refine U 5 Z (CL Z (NG _ h5 (U 4 Z (AS Z (AO.aF Z rC (fun b10=>?_)))))); refine B1 hf fun x5 h6 hf=>Rr 3 [0] rfl rfl (CL rfl (uD  h6 (U 2 rfl (AS rfl (AO.aS (List.map aH.cells [(aH.mk ([97,108,119,97,121,115]:Str) (ak.mk 2 []))]) rfl Qy rfl rfl rfl (by first | rfl | simp only [List.map,aH.aD]) ?_))))); refine B1 hf fun rV h7 hf=>CL Z (tO _ _ h7 (U 3 Z (An 3 45 48 [4,5,6,7,9,10,13] (e1 == 0) Z Z Z Z (U 1 Z (An 3 49 52 [5,6,7,9,10,13] (!b1) Z Z Z Z (U 1 Z (An 3 53 56 [6,7,9,10,13] (f1 == 0) Z Z Z Z ?_)))))))
 refine U 1 Z (An 2 57 59 [7,9,10,13] c1 Z Z Z Z (U 1 Z (An 3 60 63 [9,10,13] (g1 == 0) Z Z Z Z (U 1 Z (An 3 64 67 [10,13] (hx1 == 9) Z Z Z Z ?_))))); refine B1 hf fun b2 mo hf=>U 1 Z (AR.dB 4 68 72 true [13] b2 Z Z (fun j5=>?_) (fun j5=>?_) ?_)
 · replace mo:=cO j5 mo; refine Is 68 j5 Z (GO Z (AO.aY (i:=0) Z Z Z nX Z Z ?_)); refine B1 mo fun x6 h16 mo=>GO Z (AO.call Z _ Z Z ajm (tO _ _ h16 ?_)); cases mo; exact eG 2 Z (En [72,13] Z)
 · refine IF 68 j5 mo Z fun mo=>?_; cases mo; exact eG 4 Z (En [72,13] Z)
 refine U 1 Z (An 3 73 76 [] (rV == 7) Z Z Z Z ?_); refine B1 hf fun b3 h19 hf=>U 1 Z (AR.dB 3 77 80 true [] b3 Z Z (fun h18=>?_) (fun h18=>?_) ?_)
 · refine IT 77 h18 h19 Z fun h19=>?_; refine B1 h19 fun x7 h20 h19=>GO Z (AO.call Z _ Z Z amM (uD  h20 ?_)); refine BR h19 fun x8 h21 h19=>?_; refine GO Z (AO.call Z _ Z Z apY (adx _ h21 ?_)); cases h19; exact eG 1 Z (En [80] Z)
 · refine IF 77 h18 h19 Z fun h19=>?_; cases h19; exact eG 3 Z (En [80] Z)
 refine BR hf fun b4 h23 hf=>?_; refine U 1 Z (AR.dB 4 81 85 true [] b4 Z Z (fun h22=>?_) (fun h22=>?_) ?_)
 · refine IT 81 h22 h23 Z fun h23=>?_; refine B1 h23 fun x9 wT h23=>GO Z (AO.call Z _ Z Z amM (uD  wT ?_)); refine B1 h23 fun wS Cv h23=>GO Z (AO.call Z _ Z Z ajm (tO _ _ Cv ?_)); cases h23; exact eG 2 Z (En [85] Z)
 · refine IF 81 h22 h23 Z fun h23=>?_; cases h23; exact eG 4 Z (En [85] Z)
 cases hf; exact N 1 Z (Y Z h)
end


end Go.Proofs.YtggpjlegajicnaaGreatDoor
