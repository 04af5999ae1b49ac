/- Proved here: each function does what its functional text says (part 2). -/
import Derived.Test.YtggpjlegajicnaaGreatDoorCoWalk1
set_option linter.unusedVariables false
set_option linter.unusedSimpArgs false
set_option linter.unusedSectionVars false
namespace Go.Proofs.YtggpjlegajicnaaGreatDoor
open Go Go.Abs Go.Ft
set_option maxRecDepth 20000
attribute [local irreducible] AO AR AW AC
variable [gX]
variable {τ : List bJ} {Q : eT → List bJ → Prop}
@[reducible] def Qk :fO aM ah→eT
 | .ok r=>.ret (.agg (aK r))
 | .bad e=>.panic (.iface 111 (.agg [iP e.code]))

theorem I8 (s1:List aA) (name1:Str) {rX:fO aM ah} (hf:vU s1 name1=some rX) (h:Q (Qk rX) τ):PC 115 [.list (List.map aA.cells s1),.str name1] τ Q:=by
 unfold vU at hf; refine BN 22 [.cell 4 31] [0,1] Tryz.func115 Z Z Z Z Z (W 0 Z (AS Z (AO.aF Z gq (fun b4=>(U 1 Z (AS Z (AO.aP (l:=s1) Z Z Z Z am3 Z Z (J 1 Z (Gh (fun x1=>[(1,.str name1),(4,pP b4),(7,.list (List.map aA.cells s1)),(8,iP (s1.length:Int)),(9,iP x1)]) (fun x1=>[.box b4 [iP 0,.bool false,iP 0,.str ([]:Str),.own (.slice none 0 0) [],.own (.slice none 0 0) []]]) (fun bT x1=>rO s1 name1 bT x1=some rX) BIG 0 Z Z hf (fun _ hz=>bQ hz) ?_)))))))))
 intro bT x1 hf; rw [rO] at hf; refine V 1 Z (C hf Z (fun h1 hf=>?_) fun h1 hf=>?_)
 ·
  refine B1 hf fun e1 h2 hf=>W 0 Z (AS Z (AO.aI h2 Z Z Z Z am3 (aA.aD _) Z (U 1 Z (AS Z (AO.aF Z OH (fun b6=>(Rw 5 [0,0] Z Z (C hf Z (fun h3 hf=>?_) fun h3 hf=>?_))))))))
  · cases hf; exact Wx 3 [0,1] Z Z (ZC [1] Z Z h)
  refine Wn0 2 Z (AR.drop1 ?_); exact N 0 Z ⟨(bZ (x1 + 1)),Z,Z,Z,hf⟩
 rcases bS hf with ⟨e2,h4,hf⟩ | ⟨_,h4,hf⟩
 · refine W 0 Z (CL Z (I_ _ h4 ?_)); cases hf; exact ⟨Z,[],List.nil_sublist _,h⟩
 refine W 0 Z (CL Z (I_ _ h4 ?_)); cases hf; exact Rx 2 [0] Z Z (ZC [0] Z Z h)

theorem xZ (s1:Str) {r0:ah} (hf:oL s1=some r0) (h:Q (.ret (.agg (aK r0))) τ):PC 117 [.str s1] τ Q:=by
 unfold oL at hf; refine BN 5 [.cell 2 31] [0] Tryz.func117 Z Z Z Z Z (W 0 Z (AS Z (AO.aF Z gq (fun b2=>?_)))); cases hf; exact Rx 3 [0] Z Z (ZC [0] Z Z h)

theorem mI (v1:ah) (fE:Int) {r0:Bool} (hf:jU v1 fE=some r0) (h:Q (.ret (.bool r0)) τ):PC 176 [.agg (aK v1),iP fE] τ Q:=by
 unfold jU at hf; refine BN 9 [.tmp 4] [0,1] Tryz.func176 Z Z Z Z Z ?_; cases hf; exact M 7 Z (Y Z h)

@[reducible] def abI :fO aM Unit→eT
 | .ok r=>.ret (.tuple [])
 | .bad e=>.panic (.iface 111 (.agg [iP e.code]))

theorem bP (ok1:Bool) (e1:Int) {rX:fO aM Unit} (hf:fF ok1 e1=some rX) (h:Q (abI rX) τ):PC 125 [.bool ok1,iP e1] τ Q:=by
 unfold fF at hf; refine BN 8 [] [0,1] Tryz.func125 Z Z Z Z Z (V 2 Z (C hf Z (fun h1 hf=>?_) fun h1 hf=>?_))
 ·
  rcases bS hf with ⟨e2,h2,hf⟩ | ⟨_,h2,hf⟩
  · refine W 1 Z (CL Z (I_ _ h2 ?_)); cases hf; exact ⟨Z,[],List.nil_sublist _,h⟩
  refine W 1 Z (CL Z (I_ _ h2 ?_)); cases hf; exact N 0 Z (ZN Z h)
 cases hf; exact M 0 Z (ZN Z h)

theorem Dv (s1:List Str) (v1:Str) {r0:Int} (hf:ku s1 v1=some r0) (h:Q (.ret (iP r0)) τ):PC 229 [sP s1,.str v1] τ Q:=by
 unfold ku at hf; refine BN 19 [.tmp 4] [0,1] Tryz.func229 Z Z Z Z Z (W 2 Z (AS Z (AO.aP (l:=s1) Z Z Z Z f_ Z Z (J 1 Z (Gh (fun i1=>[(0,sP s1),(1,.str v1),(7,iP (s1.length:Int)),(8,iP i1)]) (fun i1=>[]) (fun bT i1=>jH s1 v1 bT i1=some r0) BIG 0 Z Z hf (fun _ hz=>bQ hz) ?_))))); intro bT i1 hf; rw [jH] at hf; refine V 1 Z (C hf Z (fun h1 hf=>?_) fun h1 hf=>?_)
 ·
  refine B1 hf fun e1 h2 hf=>W 5 Z (AS Z (AO.aI h2 Z Z Z Z f_ Z Z (J 2 Z (C hf Z (fun h3 hf=>?_) fun h3 hf=>?_))))
  · cases hf; exact M 2 Z (Y Z h)
  exact M 2 Z ⟨(bZ (i1 + 1)),Z,Z,Z,hf⟩
 cases hf; exact M 1 Z (Y Z h)


abbrev O7 (mO:ah→Option ah):Prop:=∀ (qg:ah) {aR:ah},mO qg=some aR→∀ {τ:List bJ} {Q:eT→List bJ→Prop} (h:Q (.ret (.agg (aK aR))) τ),PC 230 [.agg (aK qg)] τ Q
theorem XI (mO) (Un:O7 mO) (v1:ah) {r0:ah} (hf:Dx mO v1=some r0) (h:Q (.ret (.agg (aK r0))) τ):PC 230 [.agg (aK v1)] τ Q:=by
 unfold Dx at hf; refine BN 28 [.cell 2 31] [0] Tryz.func230 Z Z Z Z Z (W 1 Z (AS Z (AO.aF Z gq (fun b2=>(U 1 Z (AS Z (AO.aF Z gq (fun b3=>?_)))))))); refine B1 hf fun x1 h1 hf=>Rr 3 [0] Z Z (CL Z (uT _ h1 (Rr 6 [0,0] Z Z (AS Z (AO.aP (l:=v1.aO) Z Z Z Z dX Z (ah.aB _) ?_)))))
 refine J 1 Z (AW.row 6 31 (ZU (fun x2 bH v2=>[(2,pP b2),(3,pP b3),(13,.list (ah.aU v1.aO)),(14,iP (v1.aO.length:Int)),(15,iP x2)]) (fun x2 bH v2=>[.row v2 (ah.aU bH.aO).length 6 31,.box b3 [iP bH.kind,.bool bH.dO,iP bH.dI,.str bH.bR,.own v2 (ah.aU bH.aO),sP bH.keys],.box b2 [iP 0,.bool false,iP 0,.str ([]:Str),.own (.slice none 0 0) [],.own (.slice none 0 0) []]]) (fun bT x2 bH v2=>wZ mO v1 bT x2 bH=some r0) BIG 0 (ah.mk v1.kind v1.dO v1.dI v1.bR [] x1) (.slice none 0 0) Z Z hf (fun _ _ _ hz=>bQ hz) ?_))
 intro bT x2 bH v2 hf; rw [wZ] at hf; refine V 1 Z (C hf Z (fun h2 hf=>?_) fun h2 hf=>?_)
 ·
  refine B1 hf fun e1 h3 hf=>W 0 Z (AS Z (AO.aI h3 Z Z (ah.aB _) Z dX (ah.aD _) Z (U 1 Z (AS Z (AO.aF Z gq (fun b5=>(Rw 1 [0] Z Z (AW.draw 5 mixed (by kernel_rfl) Z ?_)))))))); refine Ev.cs aG 1 Z (Ev.cons Z Z Z (AO.aY (i:=2) Z Z Z Jy Z Z zg) (Ev.cons Z Z Z (AO.aY (i:=0) Z Z Z dF Z Z zg) ?_)); refine B1 hf fun x3 h4 hf=>Ev.cons rfl rfl rfl (AO.call rfl _ rfl rfl ajf (Un _ h4 ⟨rfl,rfl⟩)) (Ev.cons rfl rfl rfl (AO.aS (ah.aU [x3]) rfl qM rfl rfl rfl (by first | rfl | simp only [List.map,ah.aD,ah.aU]) ⟨rfl,rfl⟩) ?_)
  refine Ev.nil ?_; show AR _ _ _ _ _ _ _ _
  refine B1 hf fun x4 h5 hf=>AS Z (AO.fK (i:=1) (l:=bH.aO) (m:=[x3]) h5 Z Z Z Z Z Z Z qM dX (ah.aB _) (ah.aB _) (ah.aB _).symm (ah.dD) (ah.cells_one) (by decide) (fun v3 s1 hs1=>?_)); cases hs1; refine Rn 4 [2] Z Z (AR.drop1 ?_); exact N 0 Z ⟨(bZ (x2 + 1)),(ah.mk bH.kind bH.dO bH.dI bH.bR x4 bH.keys),v3,Z,Z,Z,hf⟩
 cases hf; exact Wx 2 [1,2] Z Z (ZC [2] Z Z h)
theorem XU :∀ k:Nat,(O7 (nC k)):=by
 intro k
 induction k with
 | zero=>exact fun _ _ hz=>by first | cases hz | (unfold nC at hz; cases hz)
 | succ k ih=>exact fun qg aR hz τ Q hq=>XI (nC k) ih qg hz hq
theorem OZ (qg:ah) {aR:ah} (hf:pG qg=some aR) (h:Q (.ret (.agg (aK aR))) τ):PC 230 [.agg (aK qg)] τ Q:=
 ((XU BIG)) qg hf h

theorem TG (v1:ah) (key1:Str) {r0:ah} {r1:Bool} (hf:CO v1 key1=some (r0,r1)) (h:Q (.ret (.tuple [.agg (aK r0),.bool r1])) τ):PC 177 [.agg (aK v1),.str key1] τ Q:=by
 unfold CO at hf; refine BN 32 [.cell 4 31,.tmp 5] [0,1] Tryz.func177 Z Z Z Z Z (W 1 Z (AS Z (AO.aF Z gq (fun b4=>?_)))); refine B1 hf fun i1 h1 hf=>U 4 Z (CL Z (Dv _ _ h1 (U 5 Z (On 3 14 17 [2,4,6] (decide (i1 < 0)) Z Z Z Z (U 1 Z (AR.or 6 18 24 [2,4,6] (x:=(decide ((v1.aO.length:Int)≤i1))) Z Z (fun h3=>?_) (fun h3=>?_) ?_))))))
 · refine Is 18 h3 Z (U 3 Z (GO Z (AO.aP (l:=v1.aO) Z Z Z Z dX Z (ah.aB _) ?_))); exact eG 2 Z (En [24,2,4,6] Z)
 · refine Is 18 h3 Z ?_; exact eG 6 Z (En [24,2,4,6] Z)
 refine J 0 Z (C hf Z (fun h4 hf=>?_) fun h4 hf=>?_)
 · cases hf; exact Wx 3 [0] Z Z (ZC [0] Z Z h)
 refine B1 hf fun e1 h5 hf=>W 3 Z (AS Z (AO.aI h5 Z Z (ah.aB _) Z dX (ah.aD _) Z ?_)); refine B1 hf fun x1 h6 hf=>U 1 Z (CL Z (OZ _ h6 ?_)); cases hf; exact Rx 2 [0] Z Z (ZC [0] Z Z h)

@[reducible] def Z5 :fO aM ah→eT
 | .ok r=>.ret (.agg (aK r))
 | .bad e=>.panic (.iface 111 (.agg [iP e.code]))

theorem FL (m1:ah) (key1:ah) {rX:fO aM ah} (hf:Am m1 key1=some rX) (h:Q (Z5 rX) τ):PC 116 [.agg (aK m1),.agg (aK key1)] τ Q:=by
 unfold Am at hf; refine BN 24 [.cell 4 31] [0,1] Tryz.func116 Z Z Z Z Z (W 2 Z (AS Z (AO.aF Z gq (fun b4=>?_)))); refine B1 hf fun x1 h1 hf=>U 1 Z (CL Z (mI _ _ h1 ?_)); refine B1 hf fun b1 h3 hf=>U 1 Z (AR.dB 3 9 12 true [2,3,4] b1 Z Z (fun h2=>?_) (fun h2=>?_) ?_)
 · refine IT 9 h2 h3 Z fun h3=>?_; refine BR h3 fun x2 h4 h3=>?_; refine U 1 Z (GO Z (AO.call Z _ Z Z R8 (mI _ _ h4 ?_))); cases h3; exact eG 1 Z (En [12,2,3,4] Z)
 · refine IF 9 h2 h3 Z fun h3=>?_; cases h3; exact eG 3 Z (En [12,2,3,4] Z)
 rcases bS hf with ⟨e1,h5,hf⟩ | ⟨_,h5,hf⟩
 · refine CL Z (bP _ _ h5 ?_); cases hf; exact ⟨Z,[],List.nil_sublist _,h⟩
 refine CL Z (bP _ _ h5 ?_); obtain ⟨x3,ok1,h6,hf⟩:=aV hf; refine U 3 Z (CL Z (TG _ _ h6 (U 3 Z (AS Z (AO.aF Z gq (fun b5=>?_)))))); rcases bS hf with ⟨e2,h7,hf⟩ | ⟨_,h7,hf⟩
 · refine Rr 3 [0] Z Z (CL Z (bP _ _ h7 ?_)); cases hf; exact ⟨Z,[],List.nil_sublist _,h⟩
 refine Rr 3 [0] Z Z (CL Z (bP _ _ h7 ?_)); cases hf; exact Rx 2 [0,1] Z Z (ZC [1] Z Z h)

@[reducible] def U4 :fO aM ah→eT
 | .ok r=>.ret (.agg (aK r))
 | .bad e=>.panic (.iface 111 (.agg [iP e.code]))

theorem NM (a1:ah) (i1:ah) {rX:fO aM ah} (hf:zi a1 i1=some rX) (h:Q (U4 rX) τ):PC 118 [.agg (aK a1),.agg (aK i1)] τ Q:=by
 unfold zi at hf; refine BN 32 [.cell 4 31] [0,1] Tryz.func118 Z Z Z Z Z (W 2 Z (AS Z (AO.aF Z gq (fun b4=>?_)))); refine B1 hf fun x1 h1 hf=>U 1 Z (CL Z (mI _ _ h1 ?_)); refine B1 hf fun b1 h3 hf=>U 1 Z (AR.dB 3 7 10 true [2,3,4] b1 Z Z (fun h2=>?_) (fun h2=>?_) ?_)
 · refine IT 7 h2 h3 Z fun h3=>?_; refine BR h3 fun x2 h4 h3=>?_; refine U 1 Z (GO Z (AO.call Z _ Z Z R8 (mI _ _ h4 ?_))); cases h3; exact eG 1 Z (En [10,2,3,4] Z)
 · refine IF 7 h2 h3 Z fun h3=>?_; cases h3; exact eG 3 Z (En [10,2,3,4] Z)
 refine J 0 Z (C hf Z (fun h5 hf=>?_) fun h5 hf=>?_)
 ·
  refine W 4 Z (AR.and 7 14 21 [2,3,4] (x:=(decide (i1.dI < (a1.aO.length:Int)))) Z Z (fun h6=>?_) (fun h6=>?_) ?_)
  · refine Is 14 h6 Z (U 4 Z (GO Z (AO.aP (l:=a1.aO) Z Z Z Z dX Z (ah.aB _) ?_))); exact eG 2 Z (En [21,2,3,4] Z)
  · refine Is 14 h6 Z ?_; exact eG 7 Z (En [21,2,3,4] Z)
  rcases bS hf with ⟨e1,h7,hf⟩ | ⟨_,h7,hf⟩
  · refine CL Z (bP _ _ h7 ?_); cases hf; exact ⟨Z,[],List.nil_sublist _,h⟩
  refine CL Z (bP _ _ h7 ?_); refine B1 hf fun e2 h8 hf=>U 4 Z (AS Z (AO.aI h8 Z Z (ah.aB _) Z dX (ah.aD _) Z ?_)); cases hf; exact Rx 2 [0] Z Z (ZC [0] Z Z h)
 rcases bS hf with ⟨e3,h9,hf⟩ | ⟨x3,h9,hf⟩
 · refine W 2 Z (CL Z (FL _ _ h9 ?_)); cases hf; exact ⟨Z,[],List.nil_sublist _,h⟩
 refine W 2 Z (CL Z (FL _ _ h9 ?_)); cases hf; exact Rx 1 [0] Z Z (ZC [0] Z Z h)

theorem abv (name1:Str) {r0:Int} (hf:Ao name1=some r0) (h:Q (.ret (iP r0)) τ):PC 178 [.str name1] τ Q:=by
 unfold Ao at hf; refine BN 18 [.tmp 2] [0] Tryz.func178 Z Z Z Z Z (V 4 Z (C hf Z (fun h1 hf=>?_) fun h1 hf=>?_))
 ·
  refine V 0 Z (AW.cond Z (fun h2=>?_) (fun h2=>?_))
  · cases hf; exact M 1 Z (Y Z h)
  cases h1.symm.trans h2
 refine V 2 Z (C hf Z (fun h3 hf=>?_) fun h3 hf=>?_)
 ·
  refine V 0 Z (AW.cond Z (fun h4=>?_) (fun h4=>?_))
  · cases hf; exact M 1 Z (Y Z h)
  cases h3.symm.trans h4
 refine V 2 Z (C hf Z (fun h5 hf=>?_) fun h5 hf=>?_)
 ·
  refine V 0 Z (AW.cond Z (fun h6=>?_) (fun h6=>?_))
  · cases hf; exact M 1 Z (Y Z h)
  cases h5.symm.trans h6
 refine V 2 Z (C hf Z (fun h7 hf=>?_) fun h7 hf=>?_)
 ·
  refine V 0 Z (AW.cond Z (fun h8=>?_) (fun h8=>?_))
  · cases hf; exact M 1 Z (Y Z h)
  cases h7.symm.trans h8
 refine V 2 Z (C hf Z (fun h9 hf=>?_) fun h9 hf=>?_)
 ·
  refine V 0 Z (AW.cond Z (fun h10=>?_) (fun h10=>?_))
  · cases hf; exact M 1 Z (Y Z h)
  cases h9.symm.trans h10
 refine V 2 Z (C hf Z (fun h11 hf=>?_) fun h11 hf=>?_)
 · cases hf; exact M 1 Z (Y Z h)
 refine V 2 Z (C hf Z (fun h12 hf=>?_) fun h12 hf=>?_)
 ·
  refine V 0 Z (AW.cond Z (fun jJ=>?_) (fun jJ=>?_))
  · cases hf; exact M 1 Z (Y Z h)
  cases h12.symm.trans jJ
 refine V 2 Z (C hf Z (fun j5 hf=>?_) fun j5 hf=>?_)
 ·
  refine V 0 Z (AW.cond Z (fun mo=>?_) (fun mo=>?_))
  · cases hf; exact M 1 Z (Y Z h)
  cases j5.symm.trans mo
 refine V 2 Z (C hf Z (fun h16 hf=>?_) fun h16 hf=>?_)
 ·
  refine V 0 Z (AW.cond Z (fun qB=>?_) (fun qB=>?_))
  · cases hf; exact M 1 Z (Y Z h)
  cases h16.symm.trans qB
 refine V 2 Z (C hf Z (fun h18 hf=>?_) fun h18 hf=>?_)
 ·
  refine V 0 Z (AW.cond Z (fun h19=>?_) (fun h19=>?_))
  · cases hf; exact M 1 Z (Y Z h)
  cases h18.symm.trans h19
 refine V 2 Z (C hf Z (fun h20 hf=>?_) fun h20 hf=>?_)
 ·
  refine V 0 Z (AW.cond Z (fun h21=>?_) (fun h21=>?_))
  · cases hf; exact M 1 Z (Y Z h)
  cases h20.symm.trans h21
 refine V 2 Z (C hf Z (fun h22 hf=>?_) fun h22 hf=>?_)
 · cases hf; exact M 1 Z (Y Z h)
 cases hf; exact M 1 Z (Y Z h)

theorem yc (n1:Int) {r0:ah} (hf:tu n1=some r0) (h:Q (.ret (.agg (aK r0))) τ):PC 182 [iP n1] τ Q:=by
 unfold tu at hf; refine BN 5 [.cell 2 31] [0] Tryz.func182 Z Z Z Z Z (W 0 Z (AS Z (AO.aF Z gq (fun b2=>?_)))); cases hf; exact Rx 3 [0] Z Z (ZC [0] Z Z h)

theorem RA (l1:List ah) {r0:ah} (hf:Hf l1=some r0) (h:Q (.ret (.agg (aK r0))) τ):PC 123 [.list (ah.aU l1)] τ Q:=by
 unfold Hf at hf; refine BN 5 [.cell 2 31] [0] Tryz.func123 Z Z Z Z Z (W 0 Z (AS Z (AO.aF Z gq (fun b2=>?_)))); cases hf; exact Rx 3 [0] Z Z (ZC [0] Z Z h)
theorem S9 (h:Q (.ret (.agg [iP 4,.bool false,iP 0,.str ([]:Str),.own (.slice none 0 0) [],.own (.slice none 0 0) []])) τ):PC 123 [.own (.slice none 0 0) []] τ Q:=by
 refine AC.none (AC.ajD 5 [.cell 2 31] [0] Tryz.func123 Z Z Z Z Z (AW.sr (AR.step Z Z Z (AO.aF Z gq (fun b2=>?_))))); refine AR.nil [0,2] Z (AW.sr (cs 1 Z (AR.step Z Z Z (AO.build Z gq aep Z ?_)))); refine AR.dh Z Z (AO.dW (i:=0) Z Z Z dF Z Z Z Z Z (AR.nil [2] Z (AW.ret ?_))); exact ⟨rfl,_,⟨_,_,rfl,⟨_,_,0,_,_,rfl,rfl,dF,rfl⟩,rfl⟩,[],List.nil_sublist _,h⟩

theorem TR (l1:List Str) {r0:ah} (hf:Dn l1=some r0) (h:Q (.ret (.agg (aK r0))) τ):PC 231 [sP l1] τ Q:=by
 unfold Dn at hf; refine BN 22 [.cell 2 31] [0] Tryz.func231 Z Z Z Z Z (W 0 Z (AS Z (AO.aF Z gq (fun b2=>(U 0 Z (AS Z (AO.aqJ Z _ Z Z aob (S9 (AS Z (AO.aF Z gq (fun b3=>?_))))))))))); refine Rr 2 [0] Z Z (AS Z (AO.aP (l:=l1) Z Z Z Z f_ Z Z ?_))
 refine J 1 Z (AW.row 6 31 (AW.settle [2,3,7,8,9] Z (AW.D6 1 [false,false,false,false,false,true] Z (ZU (fun x1 bH v1=>[(2,pP b2),(3,pP b3),(7,sP l1),(8,iP (l1.length:Int)),(9,iP x1)]) (fun x1 bH v1=>[.row v1 (ah.aU bH.aO).length 6 31,.box b3 [iP bH.kind,.bool bH.dO,iP bH.dI,.str bH.bR,.own v1 (ah.aU bH.aO),sP bH.keys],.box b2 [iP 0,.bool false,iP 0,.str ([]:Str),.own (.slice none 0 0) [],.own (.slice none 0 0) []]]) (fun bT x1 bH v1=>Ci l1 bT x1 bH=some r0) BIG 0 (ah.mk 4 false 0 ([]:Str) [] []) (.slice none 0 0) Z Z hf (fun _ _ _ hz=>bQ hz) ?_))))
 intro bT x1 bH v1 hf; rw [Ci] at hf; refine V 1 Z (C hf Z (fun h1 hf=>?_) fun h1 hf=>?_)
 ·
  refine B1 hf fun s1 h2 hf=>W 0 Z (AS Z (AO.aI h2 Z Z Z Z f_ Z Z (J 2 Z (AW.draw 5 mixed (by kernel_rfl) Z ?_)))); refine Ev.cs aG 1 Z (Ev.cons Z Z Z (AO.aY (i:=1) Z Z Z Jy Z Z zg) (Ev.cs aG 1 Z ?_)); refine B1 hf fun x2 h3 hf=>Ev.cons rfl rfl rfl (AO.call rfl _ rfl rfl ajs (xZ _ h3 ⟨rfl,rfl⟩)) (Ev.cons rfl rfl rfl (AO.aS (ah.aU [x2]) rfl qM rfl rfl rfl (by first | rfl | simp only [List.map,ah.aD,ah.aU]) ⟨rfl,rfl⟩) ?_); refine Ev.nil ?_
  show AR _ _ _ _ _ _ _ _
  refine B1 hf fun x3 h4 hf=>AS Z (AO.fK (i:=0) (l:=bH.aO) (m:=[x2]) h4 Z Z Z Z Z Z Z qM dX (ah.aB _) (ah.aB _) (ah.aB _).symm (ah.dD) (ah.cells_one) (by decide) (fun v2 s2 hs2=>?_)); cases hs2; exact Rx 4 [1] Z Z ⟨(bZ (x1 + 1)),(ah.mk bH.kind bH.dO bH.dI bH.bR x3 bH.keys),v2,Z,Z,Z,hf⟩
 cases hf; exact Wx 2 [1,2] Z Z (ZC [2] Z Z h)

theorem K7 (b1:Bool) {r0:Str} (hf:sZ b1=some r0) (h:Q (.ret (.str r0)) τ):PC 330 [.bool b1] τ Q:=by
 unfold sZ at hf; refine BN 4 [.tmp 2] [0] Tryz.func330 Z Z Z Z Z (V 2 Z (C hf Z (fun h1 hf=>?_) fun h1 hf=>?_))
 · cases hf; exact M 1 Z (Y Z h)
 cases hf; exact M 1 Z (Y Z h)

theorem Nw (b1:Bool) {r0:Str} (hf:strconv_FormatBool b1=some r0) (h:Q (.ret (.str r0)) τ):PC 294 [.bool b1] τ Q:=by
 unfold strconv_FormatBool at hf; refine BN 5 [.tmp 2] [0] Tryz.func294 Z Z Z Z Z ?_; refine BR hf fun x1 h1 hf=>?_; refine W 2 Z (CL Z (K7 _ h1 ?_)); cases hf; exact N 1 Z (Y Z h)

theorem Jk (s1:Str) {r0:Str} (hf:D8 s1=some r0) (h:Q (.ret (.str r0)) τ):PC 295 [.str s1] τ Q:=by
 unfold D8 at hf; refine BN 54 [.tmp 2] [0] Tryz.func295 Z Z Z Z Z (W 1 Z (AS Z (AO.Td (eu:=5) Z ad6 Z (fun b3=>?_)))); refine B1 hf fun b1 h1 hf=>U 0 Z (CL Z (AC.one 0 Z (kD h1 (fun v1=>⟨_,Z,(J 1 Z (ZU (fun i1 b2 v2=>[(0,.str s1),(3,pP b3),(4,iP i1)]) (fun i1 b2 v2=>[.RF b3 v2 170 5 b2]) (fun bT i1 b2 v2=>pF s1 bT i1 b2=some r0) BIG 0 b1 v1 Z Z hf (fun _ _ _ hz=>bQ hz) ?_))⟩)))); intro bT i1 b2 v2 hf; rw [pF] at hf
 refine W 2 Z (AS Z (AO.b_ Z Z Z Z dM Z (J 1 Z (C hf Z (fun h2 hf=>?_) fun h2 hf=>?_))))
 ·
  refine B1 hf fun c1 h3 hf=>W 2 Z (AS Z (AO.gy h3 Z dM Z Z (U 4 Z (On 3 28 31 [0,3,4,5] ((c1.toNat:Int) == 92) Z Z Z Z (J 1 Z (C hf Z (fun h5 hf=>?_) fun h5 hf=>?_))))))
  · refine B1 hf fun b3 h6 hf=>W 0 Z (CL Z (AC.one 0 Z (kD h6 (fun v3=>⟨_,Z,?_⟩)))); refine B1 hf fun b4 h7 hf=>U 1 Z (CL Z (AC.one 0 Z (kD h7 (fun v4=>⟨_,Z,?_⟩)))); exact N 3 Z ⟨(bZ (i1 + 1)),b4,v4,Z,Z,Z,hf⟩
  refine V 3 Z (C hf Z (fun h8 hf=>?_) fun h8 hf=>?_)
  · refine B1 hf fun b5 h9 hf=>W 0 Z (CL Z (AC.one 0 Z (Ct h9 (fun v5=>⟨_,Z,?_⟩)))); exact N 3 Z ⟨(bZ (i1 + 1)),b5,v5,Z,Z,Z,hf⟩
  refine V 3 Z (C hf Z (fun h10 hf=>?_) fun h10 hf=>?_)
  · refine B1 hf fun b6 h11 hf=>W 0 Z (CL Z (AC.one 0 Z (Ct h11 (fun v6=>⟨_,Z,?_⟩)))); exact N 3 Z ⟨(bZ (i1 + 1)),b6,v6,Z,Z,Z,hf⟩
  refine W 3 Z (An 3 46 49 [0,3,4,5] (decide ((c1.toNat:Int)≤126)) Z Z Z Z (J 1 Z (C hf Z (fun jJ hf=>?_) fun jJ hf=>?_)))
  · refine B1 hf fun b7 j5 hf=>W 1 Z (CL Z (AC.one 0 Z (kD j5 (fun v7=>⟨_,Z,?_⟩)))); exact N 3 Z ⟨(bZ (i1 + 1)),b7,v7,Z,Z,Z,hf⟩
  refine B1 hf fun b8 mo hf=>W 0 Z (CL Z (AC.one 0 Z (Ct mo (fun v8=>⟨_,Z,(U 1 Z (AS Z (AO.u8_quo c1 16 Z Z Z Z Z (by decide) ?_)))⟩)))); refine B1 hf fun x1 h16 hf=>AS Z (AO.gy h16 Z dM Z Z ?_); refine B1 hf fun b9 qB hf=>CL Z (AC.one 0 Z (kD qB (fun v9=>⟨_,Z,(U 1 Z (AS Z (AO.aiv c1 16 Z Z Z Z Z (by decide) ?_)))⟩))); refine B1 hf fun x2 h18 hf=>AS Z (AO.gy h18 Z dM Z Z ?_); refine B1 hf fun b10 h19 hf=>CL Z (AC.one 0 Z (kD h19 (fun v10=>⟨_,Z,?_⟩)))
  exact N 3 Z ⟨(bZ (i1 + 1)),b10,v10,Z,Z,Z,hf⟩
 refine BR hf fun b11 h20 hf=>?_; refine W 0 Z (CL Z (AC.one 0 Z (kD h20 (fun v11=>⟨_,Z,(U 0 Z (CL Z (AC.aaD 0 Z (K8 ?_))))⟩)))); cases hf; exact N 1 Z (Y Z h)

section
variable [FR]
def Zp :Go.Shelf.Ren:=⟨fun | 156=>265 | 165=>300 | 166=>301 | 169=>163 | 240=>218 | 241=>338 | 276=>258 | 277=>362 | n=>n,fun | 31=>29 | 9=>9 | 3=>3 | 4=>4 | 0=>0 | 20=>20 | 72=>170 | 76=>231 | 70=>167 | 37=>168 | 75=>177 | 127=>207 | 164=>228 | 5=>5 | 80=>172 | n=>n,fun | n=>n⟩
theorem joinL :Go.Proofs.Lays.n156 Tryz.prog Zp:={
 mixed:=by kernel_rfl
 f156:=Tryz.func265.trans (congrArg some (by kernel_rfl))
 f165:=Tryz.func300.trans (congrArg some (by kernel_rfl))
 f166:=Tryz.func301.trans (congrArg some (by kernel_rfl))
 f169:=Tryz.func163.trans (congrArg some (by kernel_rfl))
 f240:=Tryz.func218.trans (congrArg some (by kernel_rfl))
 f241:=Tryz.func338.trans (congrArg some (by kernel_rfl))
 f276:=Tryz.func258.trans (congrArg some (by kernel_rfl))
 f277:=Tryz.func362.trans (congrArg some (by kernel_rfl))
 t0:=Tryz.underlying0
 a0:=Tryz.isAgg0
 z0:=Tryz.sizeOf0
 v0:=Tryz.zeroValue0
 t3:=Tryz.underlying3
 a3:=Tryz.isAgg3
 z3:=Tryz.sizeOf3
 v3:=Tryz.zeroValue3
 t4:=Tryz.underlying4
 a4:=Tryz.isAgg4
 z4:=Tryz.sizeOf4
 v4:=Tryz.zeroValue4
 t9:=Tryz.underlying9
 a9:=Tryz.isAgg9
 z9:=Tryz.sizeOf9
 v9:=Tryz.zeroValue9
 t20:=Tryz.underlying20
 a20:=Tryz.isAgg20
 z20:=Tryz.sizeOf20
 v20:=Tryz.zeroValue20
 t31:=Tryz.underlying29
 a31:=Tryz.isAgg29
 z31:=Tryz.sizeOf29
 v31:=Tryz.zeroValue29
 t37:=Tryz.underlying168
 a37:=Tryz.isAgg168
 z37:=Tryz.sizeOf168
 v37:=Tryz.zeroValue168
 t70:=Tryz.underlying167
 a70:=Tryz.isAgg167
 z70:=Tryz.sizeOf167
 v70:=Tryz.zeroValue167
 t72:=Tryz.underlying170
 a72:=Tryz.isAgg170
 z72:=Tryz.sizeOf170
 v72:=Tryz.zeroValue170
 t75:=Tryz.underlying177
 a75:=Tryz.isAgg177
 z75:=Tryz.sizeOf177
 v75:=Tryz.zeroValue177
 t76:=Tryz.underlying231
 a76:=Tryz.isAgg231
 z76:=Tryz.sizeOf231
 v76:=Tryz.zeroValue231
 t127:=Tryz.underlying207
 a127:=Tryz.isAgg207
 z127:=Tryz.sizeOf207
 v127:=Tryz.zeroValue207
 t164:=Tryz.underlying228
 a164:=Tryz.isAgg228
 z164:=Tryz.sizeOf228
 v164:=Tryz.zeroValue228}

theorem aqc :Go.Proofs.Builder.Extra Tryz.prog Zp:={
 sizeBuilder:=by kernel_rfl
 liesBuilder:=by kernel_rfl
 t5:=Tryz.underlying5
 a5:=fun w=>by kernel_rfl
 z5:=fun w=>by kernel_rfl
 v5:=fun w=>by kernel_rfl
 infoByte:=by kernel_rfl
 cellsByte:=by kernel_rfl
 sizeByte:=by kernel_rfl
 neB5:=by decide}


theorem Hy (l1:List Str) (t1:Str) {r0:Str} (hf:strings_Join l1 t1=some r0) (h:Q (.ret (.str r0)) τ):PC 265 [sP l1,.str t1] τ Q:=by
 unfold strings_Join at hf
 split at hf
 case isFalse=>cases hf
 rename_i hg
 cases hf
 refine AC.none ?_
 exact AC.join FR.hD joinL aqc hg.1 hg.2 h
end

section
variable [FR]

abbrev LK (gD:ah→Option Str):Prop:=∀ (qg:ah) {aR:Str},gD qg=some aR→∀ {τ:List bJ} {Q:eT→List bJ→Prop} (h:Q (.ret (.str aR)) τ),PC 261 [.agg (aK qg)] τ Q
theorem Ud (gD) (Cc:LK gD) (v1:ah) {r0:Str} (hf:zZ gD v1=some r0) (h:Q (.ret (.str r0)) τ):PC 261 [.agg (aK v1)] τ Q:=by
 unfold zZ at hf; refine BN 68 [.tmp 2] [0] Tryz.func261 Z Z Z Z Z (V 6 Z (C hf Z (fun h1 hf=>?_) fun h1 hf=>?_))
 · refine BR hf fun x1 h2 hf=>?_; refine W 2 Z (CL Z (Nw _ h2 ?_)); cases hf; exact N 1 Z (Y Z h)
 refine V 2 Z (C hf Z (fun h3 hf=>?_) fun h3 hf=>?_)
 · refine BR hf fun x2 h4 hf=>?_; refine W 2 Z (CL Z (Nv _ h4 ?_)); cases hf; exact N 1 Z (Y Z h)
 refine V 2 Z (C hf Z (fun h5 hf=>?_) fun h5 hf=>?_)
 · refine BR hf fun x3 h6 hf=>?_; refine W 2 Z (CL Z (Jk _ h6 ?_)); cases hf; exact N 1 Z (Y Z h)
 refine V 2 Z (C hf Z (fun h7 hf=>?_) fun h7 hf=>?_)
 ·
  refine V 0 Z (AW.cond Z (fun h8=>?_) (fun h8=>?_))
  ·
   refine W 3 Z (AS Z (AO.aP (l:=v1.aO) Z Z Z Z dX Z (ah.aB _) (J 1 Z (AW.row 1 9 (ZU (fun ES v2 i1=>[(1,.ref (aK v1)),(3,.own v2 (List.map qC ES)),(28,.list (ah.aU v1.aO)),(29,iP (v1.aO.length:Int)),(30,iP i1)]) (fun ES v2 i1=>[.row v2 (List.map qC ES).length 1 9]) (fun bT ES v2 i1=>uF gD v1 bT ES i1=some r0) BIG [] (.slice none 0 0) 0 Z Z hf (fun _ _ _ hz=>bQ hz) ?_))))); intro bT ES v2 i1 hf; rw [uF] at hf
   refine V 1 Z (C hf Z (fun h9 hf=>?_) fun h9 hf=>?_)
   ·
    refine B1 hf fun e1 h10 hf=>W 1 Z (AS Z (AO.aI h10 Z Z (ah.aB _) Z dX (ah.aD _) Z (U 1 Z (AS Z (AO.aF Z gq (fun b5=>(Rw 5 [0] Z Z (C hf Z (fun h11 hf=>?_) fun h11 hf=>?_))))))))
    ·
     refine AW.draw 12 mixed (by kernel_rfl) Z ?_; refine Ev.cs aG 4 Z ?_; refine B1 hf fun e2 h12 hf=>Ev.cons Z Z Z (AO.aI h12 Z Z Z Z f_ Z Z zg) (Ev.cs aG 1 Z ?_); refine B1 hf fun x4 jJ hf=>Ev.cons Z Z Z (AO.call Z _ Z Z ai7 (Jk _ jJ zg)) ?_; refine B1 hf fun x5 j5 hf=>Ev.cons Z Z Z (AO.zF j5 Z Z Z zg) (Ev.cons Z Z Z (AO.aY (i:=0) Z Z Z dF Z Z zg) ?_); refine B1 hf fun x6 mo hf=>Ev.cons Z Z Z (AO.call Z _ Z Z aja (Cc _ mo zg)) ?_
     refine B1 hf fun x7 h16 hf=>Ev.cons Z Z Z (AO.zF h16 Z Z Z zg) (Ev.cons Z Z Z (AO.aS (List.map qC ([x7]:List Str)) Z u6 Z Z Z Z zg) (Ev.nil ?_)); show AR _ _ _ _ _ _ _ _
     refine B1 hf fun aeI qB hf=>AS Z (AO.fK (i:=1) (l:=ES) (m:=([x7]:List Str)) qB Z Z Z Z Z Z Z u6 f_ Z Z Z (fun _=>Z) (fun _=>Z) (by decide) (fun v3 s1 hs1=>?_)); cases hs1; refine eG 3 Z (AR.drop1 ?_); exact N 0 Z ⟨aeI,v3,(bZ (i1 + 1)),Z,Z,Z,hf⟩
    refine B1 hf fun x8 h18 hf=>Wr 2 [0] Z Z (CL Z (Cc _ h18 (AS Z (AO.aS (List.map qC ([x8]:List Str)) Z u6 Z Z Z Z ?_)))); refine B1 hf fun aeH h19 hf=>AS Z (AO.fK (i:=1) (l:=ES) (m:=([x8]:List Str)) h19 Z Z Z Z Z Z Z u6 f_ Z Z Z (fun _=>Z) (fun _=>Z) (by decide) (fun v4 s2 hs2=>?_)); cases hs2; refine eG 3 Z (AR.drop1 ?_); exact N 0 Z ⟨aeH,v4,(bZ (i1 + 1)),Z,Z,Z,hf⟩
   refine B1 hf fun s3 h20 hf=>W 1 Z (CL Z (Hy _ _ h20 (J 4 Z (C hf Z (fun h21 hf=>?_) fun h21 hf=>?_))))
   · refine B1 hf fun x9 h22 hf=>W 1 Z (AS Z (AO.zF h22 Z Z Z ?_)); refine BR hf fun wS h23 hf=>?_; refine AS Z (AO.zF h23 Z Z Z ?_); cases hf; exact N 1 Z (Y Z h)
   refine B1 hf fun H8 wT hf=>W 1 Z (AS Z (AO.zF wT Z Z Z ?_)); refine BR hf fun LQ Cv hf=>?_; refine AS Z (AO.zF Cv Z Z Z ?_); cases hf; exact N 1 Z (Y Z h)
  cases h7.symm.trans h8
 refine V 2 Z (C hf Z (fun Ic hf=>?_) fun Ic hf=>?_)
 ·
  refine W 3 Z (AS Z (AO.aP (l:=v1.aO) Z Z Z Z dX Z (ah.aB _) (J 1 Z (AW.row 1 9 (ZU (fun Jg v5 i2=>[(1,.ref (aK v1)),(3,.own v5 (List.map qC Jg)),(28,.list (ah.aU v1.aO)),(29,iP (v1.aO.length:Int)),(30,iP i2)]) (fun Jg v5 i2=>[.row v5 (List.map qC Jg).length 1 9]) (fun KQ Jg v5 i2=>yD gD v1 KQ Jg i2=some r0) BIG [] (.slice none 0 0) 0 Z Z hf (fun _ _ _ hz=>bQ hz) ?_))))); intro KQ Jg v5 i2 hf; rw [yD] at hf
  refine V 1 Z (C hf Z (fun h27 hf=>?_) fun h27 hf=>?_)
  ·
   refine B1 hf fun e3 RQ hf=>W 1 Z (AS Z (AO.aI RQ Z Z (ah.aB _) Z dX (ah.aD _) Z (U 1 Z (AS Z (AO.aF Z gq (fun as5=>(Rw 5 [0] Z Z (AW.cond Z (fun Na=>?_) (fun Na=>?_)))))))))
   ·
    refine AW.draw 12 mixed (by kernel_rfl) Z ?_; refine Ev.cs aG 4 Z ?_; refine B1 hf fun e4 LY hf=>Ev.cons Z Z Z (AO.aI LY Z Z Z Z f_ Z Z zg) (Ev.cs aG 1 Z ?_); refine B1 hf fun Mg h31 hf=>Ev.cons Z Z Z (AO.call Z _ Z Z ai7 (Jk _ h31 zg)) ?_; refine B1 hf fun RP h32 hf=>Ev.cons Z Z Z (AO.zF h32 Z Z Z zg) (Ev.cons Z Z Z (AO.aY (i:=0) Z Z Z dF Z Z zg) ?_); refine B1 hf fun RO Js hf=>Ev.cons Z Z Z (AO.call Z _ Z Z aja (Cc _ Js zg)) ?_
    refine B1 hf fun LP XE hf=>Ev.cons Z Z Z (AO.zF XE Z Z Z zg) (Ev.cons Z Z Z (AO.aS (List.map qC ([LP]:List Str)) Z u6 Z Z Z Z zg) (Ev.nil ?_)); show AR _ _ _ _ _ _ _ _
    refine B1 hf fun aeG PK hf=>AS Z (AO.fK (i:=1) (l:=Jg) (m:=([LP]:List Str)) PK Z Z Z Z Z Z Z u6 f_ Z Z Z (fun _=>Z) (fun _=>Z) (by decide) (fun v6 s4 hs4=>?_)); cases hs4; refine eG 3 Z (AR.drop1 ?_); exact N 0 Z ⟨aeG,v6,(bZ (i2 + 1)),Z,Z,Z,hf⟩
   cases Ic.symm.trans Na
  refine B1 hf fun s5 QZ hf=>W 1 Z (CL Z (Hy _ _ QZ (J 4 Z (AW.cond Z (fun h37=>?_) (fun h37=>?_)))))
  · refine B1 hf fun XD UO hf=>W 1 Z (AS Z (AO.zF UO Z Z Z ?_)); refine BR hf fun x18 OC hf=>?_; refine AS Z (AO.zF OC Z Z Z ?_); cases hf; exact N 1 Z (Y Z h)
  cases Ic.symm.trans h37
 cases hf; exact M 1 Z (Y Z h)
theorem Uk :∀ k:Nat,(LK (sw k)):=by
 intro k
 induction k with
 | zero=>exact fun _ _ hz=>by first | cases hz | (unfold sw at hz; cases hz)
 | succ k ih=>exact fun qg aR hz τ Q hq=>Ud (sw k) ih qg hz hq
theorem Us (qg:ah) {aR:Str} (hf:Je qg=some aR) (h:Q (.ret (.str aR)) τ):PC 261 [.agg (aK qg)] τ Q:=
 ((Uk BIG)) qg hf h
end

section
variable [FR]
theorem abj (v1:ah) {r0:Str} {r1:Int} (hf:Gp v1=some (r0,r1)) (h:Q (.ret (.tuple [.str r0,iP r1])) τ):PC 232 [.agg (aK v1)] τ Q:=by
 unfold Gp at hf; refine BN 28 [.tmp 2,.tmp 3] [0] Tryz.func232 Z Z Z Z Z (W 7 Z (On 4 8 12 [1] (v1.kind == 5) Z Z Z Z (J 0 Z (C hf Z (fun h2 hf=>?_) fun h2 hf=>?_))))
 · cases hf; exact M 2 Z (Y Z h)
 refine B1 hf fun e1 h3 hf=>W 1 Z (CL Z (uh _ h3 (J 3 Z (C hf Z (fun h4 hf=>?_) fun h4 hf=>?_))))
 · cases hf; exact M 3 Z (Y Z h)
 refine V 4 Z (C hf Z (fun h5 hf=>?_) fun h5 hf=>?_)
 · cases hf; exact M 2 Z (Y Z h)
 refine V 2 Z (C hf Z (fun h6 hf=>?_) fun h6 hf=>?_)
 · cases hf; exact M 4 Z (Y Z h)
 refine B1 hf fun x1 h7 hf=>W 1 Z (CL Z (Us _ h7 ?_)); cases hf; exact N 2 Z (Y Z h)
end

theorem O4 (s1:Str) (lo1:UInt8) (hi1:UInt8) (Cw:Int) {r0:Str} (hf:A_ s1 lo1 hi1 Cw=some r0) (h:Q (.ret (.str r0)) τ):PC 233 [.str s1,.int .u8 (lo1.toNat:Int),.int .u8 (hi1.toNat:Int),iP Cw] τ Q:=by
 unfold A_ at hf; refine BN 42 [.tmp 8] [0,1,2,3] Tryz.func233 Z Z Z Z Z (W 1 Z (AS Z (AO.Td (eu:=5) Z ad6 Z (fun b9=>(J 1 Z (ZU (fun i1 b1 v1=>[(0,.str s1),(1,.int .u8 (lo1.toNat:Int)),(2,.int .u8 (hi1.toNat:Int)),(3,iP Cw),(9,pP b9),(10,iP i1)]) (fun i1 b1 v1=>[.RF b9 v1 170 5 b1]) (fun bT i1 b1 v1=>uO s1 lo1 hi1 Cw bT i1 b1=some r0) BIG 0 [] (.slice none 0 0) Z Z hf (fun _ _ _ hz=>bQ hz) ?_)))))); intro bT i1 b1 v1 hf; rw [uO] at hf
 refine W 2 Z (AS Z (AO.b_ Z Z Z Z dM Z (J 1 Z (C hf Z (fun h1 hf=>?_) fun h1 hf=>?_))))
 ·
  refine B1 hf fun x1 h2 hf=>W 2 Z (AS Z (AO.gy h2 Z dM Z Z ?_)); refine B1 hf fun b2 h4 hf=>U 3 Z (AR.dB 6 22 28 true [0,1,2,3,9,10] b2 Z Z (fun h3=>?_) (fun h3=>?_) ?_)
  · refine IT 22 h3 h4 Z fun h4=>?_; refine B1 h4 fun x2 h5 h4=>U 2 Z (GO Z (AO.gy h5 Z dM Z Z ?_)); cases h4; exact eG 3 Z (En [28,0,1,2,3,9,10] Z)
  · refine IF 22 h3 h4 Z fun h4=>?_; cases h4; exact eG 6 Z (En [28,0,1,2,3,9,10] Z)
  refine J 0 Z (C hf Z (fun h6 hf=>?_) fun h6 hf=>?_)
  · refine B1 hf fun x3 h7 hf=>W 2 Z (AS Z (AO.gy h7 Z dM Z Z (AS Z (AO.Du Z CP Ib Z Z (U 2 Z (AS Z (AO.Hq Z Ib CP Z ?_))))))); refine B1 hf fun b3 h8 hf=>CL Z (AC.one 0 Z (kD h8 (fun v2=>⟨_,Z,?_⟩))); exact N 3 Z ⟨(bZ (i1 + 1)),b3,v2,Z,Z,Z,hf⟩
  refine B1 hf fun x4 h9 hf=>W 2 Z (AS Z (AO.gy h9 Z dM Z Z ?_)); refine B1 hf fun b4 h10 hf=>CL Z (AC.one 0 Z (kD h10 (fun v3=>⟨_,Z,?_⟩))); exact N 3 Z ⟨(bZ (i1 + 1)),b4,v3,Z,Z,Z,hf⟩
 refine W 0 Z (CL Z (AC.aaD 0 Z (K8 ?_))); cases hf; exact N 1 Z (Y Z h)

section
variable [FR]
theorem YB (s1:Str) {r0:Int} {r1:Bool} (hf:xR s1=some (r0,r1)) (h:Q (.ret (.tuple [iP r0,.bool r1])) τ):PC 234 [.str s1] τ Q:=by
 unfold xR at hf; refine BN 28 [.tmp 2,.tmp 3] [0] Tryz.func234 Z Z Z Z Z ?_; obtain ⟨n1,aj9,h1,hf⟩:=aV hf; refine W 3 Z (CL Z (Hz _ h1 (U 6 Z (AS Z (AO.eqNil Z ajT Z Z ?_))))); refine B1 hf fun b1 h3 hf=>U 1 Z (AR.dB 5 13 18 false [4] b1 Z Z (fun h2=>?_) (fun h2=>?_) ?_)
 · refine IF 13 h2 h3 Z fun h3=>?_; refine B1 h3 fun x1 h4 h3=>U 1 Z (GO Z (AO.call Z _ Z Z anI (Nv _ h4 ?_))); cases h3; exact eG 3 Z (En [18,4] Z)
 · refine IT 13 h2 h3 Z fun h3=>?_; cases h3; exact eG 5 Z (En [18,4] Z)
 refine U 1 Z (On 3 19 22 [4] (decide (n1 < (-9007199254740992))) Z Z Z Z (U 1 Z (On 3 23 26 [4] (decide (9007199254740992 < n1)) Z Z Z Z (J 0 Z (C hf Z (fun h7 hf=>?_) fun h7 hf=>?_)))))
 · cases hf; exact M 2 Z (Y Z h)
 cases hf; exact M 3 Z (Y Z h)
end

section
variable [FR]
@[reducible] def ad9 :fO aM ah→eT
 | .ok r=>.ret (.agg (aK r))
 | .bad e=>.panic (.iface 111 (.agg [iP e.code]))

theorem Xn (name1:Str) (v1:ah) {rX:fO aM ah} (hf:Nh name1 v1=some rX) (h:Q (ad9 rX) τ):PC 179 [.str name1,.agg (aK v1)] τ Q:=by
 unfold Nh at hf; refine BN 78 [.cell 4 31] [0,1] Tryz.func179 Z Z Z Z Z (W 1 Z (AS Z (AO.aF Z gq (fun b4=>(J 3 Z (C hf Z (fun h1 hf=>?_) fun h1 hf=>?_))))))
 ·
  refine B1 hf fun x1 h2 hf=>W 1 Z (CL Z (mI _ _ h2 ?_)); refine B1 hf fun b1 h4 hf=>U 1 Z (AR.dB 3 14 17 false [3,4] b1 Z Z (fun h3=>?_) (fun h3=>?_) ?_)
  · refine IF 14 h3 h4 Z fun h4=>?_; refine BR h4 fun x2 h5 h4=>?_; refine U 1 Z (GO Z (AO.call Z _ Z Z R8 (mI _ _ h5 ?_))); cases h4; exact eG 1 Z (En [17,3,4] Z)
  · refine IT 14 h3 h4 Z fun h4=>?_; cases h4; exact eG 3 Z (En [17,3,4] Z)
  refine B1 hf fun b2 h7 hf=>U 1 Z (AR.dB 3 18 21 false [3,4] b2 Z Z (fun h6=>?_) (fun h6=>?_) ?_)
  · refine IF 18 h6 h7 Z fun h7=>?_; refine BR h7 fun x3 h8 h7=>?_; refine U 1 Z (GO Z (AO.call Z _ Z Z R8 (mI _ _ h8 ?_))); cases h7; exact eG 1 Z (En [21,3,4] Z)
  · refine IT 18 h6 h7 Z fun h7=>?_; cases h7; exact eG 3 Z (En [21,3,4] Z)
  rcases bS hf with ⟨e1,h9,hf⟩ | ⟨_,h9,hf⟩
  · refine CL Z (bP _ _ h9 ?_); cases hf; exact ⟨Z,[],List.nil_sublist _,h⟩
  refine CL Z (bP _ _ h9 (U 2 Z (AS Z (AO.b_ Z Z Z Z dM Z (U 2 Z (AS Z (AO.aP (l:=v1.aO) Z Z Z Z dX Z (ah.aB _) ?_))))))); refine B1 hf fun x4 h10 hf=>U 1 Z (CL Z (yc _ h10 ?_)); cases hf; exact Rx 1 [0] Z Z (ZC [0] Z Z h)
 refine V 2 Z (C hf Z (fun h11 hf=>?_) fun h11 hf=>?_)
 ·
  refine B1 hf fun x5 h12 hf=>W 1 Z (CL Z (mI _ _ h12 ?_)); rcases bS hf with ⟨e2,jJ,hf⟩ | ⟨_,jJ,hf⟩
  · refine CL Z (bP _ _ jJ ?_); cases hf; exact ⟨Z,[],List.nil_sublist _,h⟩
  refine CL Z (bP _ _ jJ ?_); refine B1 hf fun x6 j5 hf=>U 2 Z (CL Z (TR _ j5 ?_)); cases hf; exact Rx 1 [0] Z Z (ZC [0] Z Z h)
 refine V 2 Z (C hf Z (fun mo hf=>?_) fun mo hf=>?_)
 ·
  obtain ⟨t1,e3,h16,hf⟩:=aV hf; refine W 1 Z (CL Z (abj _ h16 ?_)); rcases bS hf with ⟨e4,qB,hf⟩ | ⟨_,qB,hf⟩
  · refine U 8 Z (CL Z (bP _ _ qB ?_)); cases hf; exact ⟨Z,[],List.nil_sublist _,h⟩
  refine U 8 Z (CL Z (bP _ _ qB ?_)); refine B1 hf fun x7 h18 hf=>U 1 Z (CL Z (xZ _ h18 ?_)); cases hf; exact Rx 1 [0] Z Z (ZC [0] Z Z h)
 refine B1 hf fun x8 h19 hf=>W 1 Z (CL Z (mI _ _ h19 ?_)); rcases bS hf with ⟨e5,h20,hf⟩ | ⟨_,h20,hf⟩
 · refine CL Z (bP _ _ h20 ?_); cases hf; exact ⟨Z,[],List.nil_sublist _,h⟩
 refine CL Z (bP _ _ h20 (J 3 Z (C hf Z (fun h21 hf=>?_) fun h21 hf=>?_)))
 · refine B1 hf fun x9 h22 hf=>W 2 Z (CL Z (O4 _ _ _ _ h22 ?_)); refine B1 hf fun wS h23 hf=>CL Z (xZ _ h23 ?_); cases hf; exact Rx 1 [0] Z Z (ZC [0] Z Z h)
 refine V 2 Z (C hf Z (fun wT hf=>?_) fun wT hf=>?_)
 · refine B1 hf fun H8 Cv hf=>W 2 Z (CL Z (O4 _ _ _ _ Cv ?_)); refine B1 hf fun LQ Ic hf=>CL Z (xZ _ Ic ?_); cases hf; exact Rx 1 [0] Z Z (ZC [0] Z Z h)
 obtain ⟨n1,ok1,h27,hf⟩:=aV hf; refine W 2 Z (CL Z (YB _ h27 ?_)); rcases bS hf with ⟨e6,RQ,hf⟩ | ⟨_,RQ,hf⟩
 · refine U 6 Z (CL Z (bP _ _ RQ ?_)); cases hf; exact ⟨Z,[],List.nil_sublist _,h⟩
 refine U 6 Z (CL Z (bP _ _ RQ ?_)); refine B1 hf fun Mg Na hf=>U 1 Z (CL Z (yc _ Na ?_)); cases hf; exact Rx 1 [0] Z Z (ZC [0] Z Z h)
end

theorem OX (b1:Bool) {r0:Int} (hf:wY b1=some r0) (h:Q (.ret (iP r0)) τ):PC 270 [.bool b1] τ Q:=by
 unfold wY at hf; refine BN 4 [.tmp 2] [0] Tryz.func270 Z Z Z Z Z (V 2 Z (C hf Z (fun h1 hf=>?_) fun h1 hf=>?_))
 · cases hf; exact M 1 Z (Y Z h)
 cases hf; exact M 1 Z (Y Z h)

theorem jo (Af:List ah) (CS:List ah) (Nr:ah→ah→Option Int) (Rq:FuncId) (WL:List PV) (akl:bB Tryz.prog Rq=true) (akm:∀ a0 a1 b0,Nr a0 a1=some b0→∀ {τ:List bJ} {Q:eT→List bJ→Prop},Q (.ret (iP b0)) τ→PC Rq ([.agg (aK a0),.agg (aK a1)] ++ WL) τ Q) {r0:Int} (hf:dw Af CS Nr=some r0) (h:Q (.ret (iP r0)) τ):PC 272 [.list (ah.aU Af),.list (ah.aU CS),.fn Rq WL] τ Q:=by
 unfold dw at hf
 refine BN 39 [.tmp 6] [0,1,2] Tryz.func272 Z Z Z Z Z (W 2 Z (AS Z (AO.aP (l:=Af) Z Z Z Z dX Z (ah.aB _) (J 1 Z (Gh (fun i1=>[(0,.list (ah.aU Af)),(1,.list (ah.aU CS)),(2,.fn Rq WL),(11,.list (ah.aU Af)),(12,iP (Af.length:Int)),(13,iP i1)]) (fun i1=>[]) (fun bT i1=>dL Af CS Nr bT i1=some r0) BIG 0 Z Z hf (fun _ hz=>bQ hz) ?_))))); intro bT i1 hf
 rw [dL] at hf; refine V 1 Z (C hf Z (fun h1 hf=>?_) fun h1 hf=>?_)
 ·
  refine B1 hf fun e1 h2 hf=>W 1 Z (AS Z (AO.aI h2 Z Z (ah.aB _) Z dX (ah.aD _) Z (U 1 Z (AS Z (AO.aF Z gq (fun b8=>(Rr 4 [0] Z Z (AS Z (AO.aP (l:=CS) Z Z Z Z dX Z (ah.aB _) (J 1 Z (C hf Z (fun h3 hf=>?_) fun h3 hf=>?_)))))))))))
  · cases hf; exact M 1 Z (Y Z h)
  refine B1 hf fun e2 h4 hf=>W 2 Z (AS Z (AO.aI h4 Z Z (ah.aB _) Z dX (ah.aD _) Z (U 1 Z (AS Z (AO.aF Z gq (fun b9=>?_)))))); refine B1 hf fun c1 h5 hf=>Rr 4 [0,1,0] Z Z (AS Z (AO.call Z _ Z Z akl (akm _ _ _ h5 (J 3 Z (C hf Z (fun h6 hf=>?_) fun h6 hf=>?_)))))
  · cases hf; exact M 2 Z (Y Z h)
  refine Wn0 2 Z (AR.drop1 (AR.drop1 ?_)); exact N 0 Z ⟨(bZ (i1 + 1)),Z,Z,Z,hf⟩
 refine W 1 Z (AS Z (AO.aP (l:=Af) Z Z Z Z dX Z (ah.aB _) (U 1 Z (AS Z (AO.aP (l:=CS) Z Z Z Z dX Z (ah.aB _) (J 1 Z (C hf Z (fun h7 hf=>?_) fun h7 hf=>?_)))))))
 · cases hf; exact M 1 Z (Y Z h)
 cases hf; exact M 1 Z (Y Z h)

theorem qK (Af:List Str) (CS:List Str) (Nr:Str→Str→Option Int) (Rq:FuncId) (WL:List PV) (akl:bB Tryz.prog Rq=true) (akm:∀ a0 a1 b0,Nr a0 a1=some b0→∀ {τ:List bJ} {Q:eT→List bJ→Prop},Q (.ret (iP b0)) τ→PC Rq ([.str a0,.str a1] ++ WL) τ Q) {r0:Int} (hf:fI Af CS Nr=some r0) (h:Q (.ret (iP r0)) τ):PC 273 [sP Af,sP CS,.fn Rq WL] τ Q:=by
 unfold fI at hf; refine BN 39 [.tmp 6] [0,1,2] Tryz.func273 Z Z Z Z Z (W 2 Z (AS Z (AO.aP (l:=Af) Z Z Z Z f_ Z Z (J 1 Z (Gh (fun i1=>[(0,sP Af),(1,sP CS),(2,.fn Rq WL),(11,sP Af),(12,iP (Af.length:Int)),(13,iP i1)]) (fun i1=>[]) (fun bT i1=>fq Af CS Nr bT i1=some r0) BIG 0 Z Z hf (fun _ hz=>bQ hz) ?_))))); intro bT i1 hf; rw [fq] at hf
 refine V 1 Z (C hf Z (fun h1 hf=>?_) fun h1 hf=>?_)
 ·
  refine B1 hf fun aps h2 hf=>W 1 Z (AS Z (AO.aI h2 Z Z Z Z f_ Z Z (U 5 Z (AS Z (AO.aP (l:=CS) Z Z Z Z f_ Z Z (J 1 Z (C hf Z (fun h3 hf=>?_) fun h3 hf=>?_)))))))
  · cases hf; exact M 1 Z (Y Z h)
  refine B1 hf fun apr h4 hf=>W 2 Z (AS Z (AO.aI h4 Z Z Z Z f_ Z Z ?_)); refine B1 hf fun c1 h5 hf=>U 5 Z (AS Z (AO.call Z _ Z Z akl (akm _ _ _ h5 (J 3 Z (C hf Z (fun h6 hf=>?_) fun h6 hf=>?_)))))
  · cases hf; exact M 2 Z (Y Z h)
  exact M 2 Z ⟨(bZ (i1 + 1)),Z,Z,Z,hf⟩
 refine W 1 Z (AS Z (AO.aP (l:=Af) Z Z Z Z f_ Z Z (U 1 Z (AS Z (AO.aP (l:=CS) Z Z Z Z f_ Z Z (J 1 Z (C hf Z (fun h7 hf=>?_) fun h7 hf=>?_)))))))
 · cases hf; exact M 1 Z (Y Z h)
 cases hf; exact M 1 Z (Y Z h)


abbrev LM (l8:ah→ah→Option Int):Prop:=∀ (sF:ah) (sD:ah) {aR:Int},l8 sF sD=some aR→∀ {τ:List bJ} {Q:eT→List bJ→Prop} (h:Q (.ret (iP aR)) τ),PC 241 [.agg (aK sF),.agg (aK sD)] τ Q
theorem Ue (l8) (IL:LM l8) (a1:ah) (b1:ah) {r0:Int} (hf:z8 l8 a1 b1=some r0) (h:Q (.ret (iP r0)) τ):PC 241 [.agg (aK a1),.agg (aK b1)] τ Q:=by
 unfold z8 at hf; refine BN 62 [.tmp 4] [0,1] Tryz.func241 Z Z Z Z Z ?_; refine B1 hf fun c1 h1 hf=>W 7 Z (CL Z (p8 _ _ h1 (J 3 Z (C hf Z (fun h2 hf=>?_) fun h2 hf=>?_))))
 · cases hf; exact M 2 Z (Y Z h)
 refine V 4 Z (C hf Z (fun h3 hf=>?_) fun h3 hf=>?_)
 ·
  refine V 0 Z (AW.draw 8 mixed (by kernel_rfl) Z ?_); refine Ev.cs aG 2 Z ?_; refine B1 hf fun x1 h4 hf=>Ev.cons Z Z Z (AO.call Z _ Z Z ai_ (OX _ h4 zg)) (Ev.cs aG 2 Z ?_); refine B1 hf fun x2 h5 hf=>Ev.cons Z Z Z (AO.call Z _ Z Z ai_ (OX _ h5 zg)) ?_; refine BR hf fun x3 h6 hf=>?_; refine Ev.cons Z Z Z (AO.call Z _ Z Z anH (p8 _ _ h6 zg)) (Ev.cs aG 1 Z (Ev.nil ?_)); show AR _ _ _ _ _ _ _ _
  cases hf; exact N 0 Z (Y Z h)
 refine V 2 Z (C hf Z (fun h7 hf=>?_) fun h7 hf=>?_)
 · refine BR hf fun x4 h8 hf=>?_; refine W 4 Z (CL Z (p8 _ _ h8 ?_)); cases hf; exact N 1 Z (Y Z h)
 refine V 2 Z (C hf Z (fun h9 hf=>?_) fun h9 hf=>?_)
 · refine BR hf fun x5 h10 hf=>?_; refine W 4 Z (CL Z (EL _ _ h10 ?_)); cases hf; exact N 1 Z (Y Z h)
 refine V 2 Z (C hf Z (fun h11 hf=>?_) fun h11 hf=>?_)
 · refine BR hf fun x6 h12 hf=>?_; refine W 4 Z (CL Z (jo _ _ l8 241 [] aje (fun _ _ _ hz=>IL _ _  hz) h12 ?_)); cases hf; exact N 1 Z (Y Z h)
 refine V 2 Z (C hf Z (fun jJ hf=>?_) fun jJ hf=>?_)
 ·
  refine B1 hf fun c2 j5 hf=>W 4 Z (CL Z (qK _ _ kI 248 [] ajd (fun _ _ _ hz=>E5 _ _  hz) j5 (J 3 Z (C hf Z (fun mo hf=>?_) fun mo hf=>?_))))
  · cases hf; exact M 2 Z (Y Z h)
  refine BR hf fun x7 h16 hf=>?_; refine W 4 Z (CL Z (jo _ _ l8 241 [] aje (fun _ _ _ hz=>IL _ _  hz) h16 ?_)); cases hf; exact N 1 Z (Y Z h)
 cases hf; exact M 1 Z (Y Z h)
theorem Ul :∀ k:Nat,(LM (ko k)):=by
 intro k
 induction k with
 | zero=>exact fun _ _ _ hz=>by first | cases hz | (unfold ko at hz; cases hz)
 | succ k ih=>exact fun sF sD aR hz τ Q hq=>Ue (ko k) ih sF sD hz hq
theorem Lx (sF:ah) (sD:ah) {aR:Int} (hf:zJ sF sD=some aR) (h:Q (.ret (iP aR)) τ):PC 241 [.agg (aK sF),.agg (aK sD)] τ Q:=
 ((Ul BIG)) sF sD hf h

theorem Jl (a1:ah) (b1:ah) {r0:Bool} (hf:pI a1 b1=some r0) (h:Q (.ret (.bool r0)) τ):PC 183 [.agg (aK a1),.agg (aK b1)] τ Q:=by
 unfold pI at hf; refine BN 9 [.tmp 4] [0,1] Tryz.func183 Z Z Z Z Z ?_; refine B1 hf fun x1 h1 hf=>W 5 Z (CL Z (Lx _ _ h1 ?_)); cases hf; exact N 2 Z (Y Z h)

theorem vk (a1:ah) (b1:ah) (rV:Int) {r0:Bool} (hf:sJ a1 b1 rV=some r0) (h:Q (.ret (.bool r0)) τ):PC 237 [.agg (aK a1),.agg (aK b1),iP rV] τ Q:=by
 unfold sJ at hf; refine BN 17 [.tmp 6] [0,1,2] Tryz.func237 Z Z Z Z Z (W 8 Z (An 5 11 16 [] (b1.kind == rV) Z Z Z Z ?_)); cases hf; exact N 1 Z (Y Z h)

section
variable [FR]
def Yd :Go.Shelf.Ren:=⟨fun | 144=>264 | 143=>299 | 219=>337 | 217=>358 | 225=>359 | 224=>360 | 267=>361 | 266=>373 | 314=>374 | n=>n,fun | 9=>9 | 4=>4 | 3=>3 | 5=>5 | 46=>247 | 146=>320 | 51=>268 | n=>n,fun | 1=>2 | n=>n⟩
theorem ahE :Go.Proofs.Lays.n144 Tryz.prog Yd:={
 mixed:=by kernel_rfl
 f143:=Tryz.func299.trans (congrArg some (by kernel_rfl))
 f144:=Tryz.func264.trans (congrArg some (by kernel_rfl))
 f217:=Tryz.func358.trans (congrArg some (by kernel_rfl))
 f219:=Tryz.func337.trans (congrArg some (by kernel_rfl))
 f224:=Tryz.func360.trans (congrArg some (by kernel_rfl))
 f225:=Tryz.func359.trans (congrArg some (by kernel_rfl))
 f266:=Tryz.func373.trans (congrArg some (by kernel_rfl))
 f267:=Tryz.func361.trans (congrArg some (by kernel_rfl))
 f314:=Tryz.func374.trans (congrArg some (by kernel_rfl))
 t3:=Tryz.underlying3
 a3:=Tryz.isAgg3
 z3:=Tryz.sizeOf3
 v3:=Tryz.zeroValue3
 t4:=Tryz.underlying4
 a4:=Tryz.isAgg4
 z4:=Tryz.sizeOf4
 v4:=Tryz.zeroValue4
 t5:=Tryz.underlying5
 a5:=Tryz.isAgg5
 z5:=Tryz.sizeOf5
 v5:=Tryz.zeroValue5
 t9:=Tryz.underlying9
 a9:=Tryz.isAgg9
 z9:=Tryz.sizeOf9
 v9:=Tryz.zeroValue9
 t46:=Tryz.underlying247
 a46:=Tryz.isAgg247
 z46:=Tryz.sizeOf247
 v46:=Tryz.zeroValue247
 t51:=Tryz.underlying268
 a51:=Tryz.isAgg268
 z51:=Tryz.sizeOf268
 v51:=Tryz.zeroValue268
 t146:=Tryz.underlying320
 a146:=Tryz.isAgg320
 z146:=Tryz.sizeOf320
 v146:=Tryz.zeroValue320
 g1:=by kernel_rfl}


theorem P7 (s1:Str) (t1:Str) {r0:Bool} (hf:strings_Contains s1 t1=some r0) (h:Q (.ret (.bool r0)) τ):PC 264 [.str s1,.str t1] τ Q:=by
 unfold strings_Contains at hf
 split at hf
 case isFalse=>cases hf
 rename_i hg
 cases hf
 refine AC.none ?_
 exact AC.contains ahE hg FR.max h
end

section
variable [FR]
@[reducible] def Uc :fO aM Bool→eT
 | .ok r=>.ret (.bool r)
 | .bad e=>.panic (.iface 111 (.agg [iP e.code]))

theorem LB (a1:ah) (b1:ah) {rX:fO aM Bool} (hf:zW a1 b1=some rX) (h:Q (Uc rX) τ):PC 235 [.agg (aK a1),.agg (aK b1)] τ Q:=by
 unfold zW at hf; refine BN 47 [.tmp 4] [0,1] Tryz.func235 Z Z Z Z Z ?_; refine B1 hf fun x1 h1 hf=>W 4 Z (CL Z (mI _ _ h1 (J 1 Z (C hf Z (fun h2 hf=>?_) fun h2 hf=>?_))))
 ·
  refine W 2 Z (AS Z (AO.aP (l:=a1.aO) Z Z Z Z dX Z (ah.aB _) (J 1 Z (Gh (fun x2=>[(3,.ref (aK b1)),(13,.list (ah.aU a1.aO)),(14,iP (a1.aO.length:Int)),(15,iP x2)]) (fun x2=>[]) (fun bT x2=>qX a1 b1 bT x2=some rX) BIG 0 Z Z hf (fun _ hz=>bQ hz) ?_)))); intro bT x2 hf; rw [qX] at hf; refine V 1 Z (C hf Z (fun h3 hf=>?_) fun h3 hf=>?_)
  ·
   refine B1 hf fun e1 h4 hf=>W 0 Z (AS Z (AO.aI h4 Z Z (ah.aB _) Z dX (ah.aD _) Z (U 1 Z (AS Z (AO.aF Z gq (fun b6=>?_)))))); refine B1 hf fun x3 h5 hf=>Rr 3 [0,0] Z Z (CL Z (Jl _ _ h5 (J 0 Z (C hf Z (fun h6 hf=>?_) fun h6 hf=>?_))))
   · cases hf; exact M 1 Z (Y Z h)
   refine Wn0 2 Z (AR.drop1 ?_); exact N 0 Z ⟨(bZ (x2 + 1)),Z,Z,Z,hf⟩
  cases hf; exact M 1 Z (Y Z h)
 refine B1 hf fun x4 h7 hf=>W 2 Z (CL Z (vk _ _ _ h7 (J 1 Z (C hf Z (fun h8 hf=>?_) fun h8 hf=>?_))))
 · refine B1 hf fun x5 h9 hf=>W 4 Z (CL Z (P7 _ _ h9 ?_)); cases hf; exact N 1 Z (Y Z h)
 refine B1 hf fun x6 h10 hf=>W 1 Z (CL Z (mI _ _ h10 ?_)); refine B1 hf fun b2 h12 hf=>U 1 Z (AR.dB 3 34 37 true [2,3] b2 Z Z (fun h11=>?_) (fun h11=>?_) ?_)
 · refine IT 34 h11 h12 Z fun h12=>?_; refine BR h12 fun x7 jJ h12=>?_; refine U 1 Z (GO Z (AO.call Z _ Z Z R8 (mI _ _ jJ ?_))); cases h12; exact eG 1 Z (En [37,2,3] Z)
 · refine IF 34 h11 h12 Z fun h12=>?_; cases h12; exact eG 3 Z (En [37,2,3] Z)
 rcases bS hf with ⟨e2,j5,hf⟩ | ⟨_,j5,hf⟩
 · refine CL Z (bP _ _ j5 ?_); cases hf; exact ⟨Z,[],List.nil_sublist _,h⟩
 refine CL Z (bP _ _ j5 ?_); obtain ⟨x8,ok1,mo,hf⟩:=aV hf; refine U 3 Z (CL Z (TG _ _ mo (U 3 Z (AS Z (AO.aF Z gq (fun b7=>?_)))))); cases hf; exact Rx 4 [0] Z Z (Y Z h)
end

theorem lI (b1:Bool) {r0:ah} (hf:gK b1=some r0) (h:Q (.ret (.agg (aK r0))) τ):PC 181 [.bool b1] τ Q:=by
 unfold gK at hf; refine BN 5 [.cell 2 31] [0] Tryz.func181 Z Z Z Z Z (W 0 Z (AS Z (AO.aF Z gq (fun b2=>?_)))); cases hf; exact Rx 3 [0] Z Z (ZC [0] Z Z h)

section
variable [FR]
@[reducible] def XH :fO aM ah→eT
 | .ok r=>.ret (.agg (aK r))
 | .bad e=>.panic (.iface 111 (.agg [iP e.code]))

theorem O5 (a1:ah) (b1:ah) {rX:fO aM ah} (hf:EA a1 b1=some rX) (h:Q (XH rX) τ):PC 236 [.agg (aK a1),.agg (aK b1)] τ Q:=by
 unfold EA at hf; refine BN 54 [.cell 4 31] [0,1] Tryz.func236 Z Z Z Z Z (W 2 Z (AS Z (AO.aF Z gq (fun b4=>?_)))); refine B1 hf fun x1 h1 hf=>U 1 Z (CL Z (mI _ _ h1 ?_)); refine B1 hf fun b2 h3 hf=>U 1 Z (AR.dB 3 11 14 true [2,3,4] b2 Z Z (fun h2=>?_) (fun h2=>?_) ?_)
 · refine IT 11 h2 h3 Z fun h3=>?_; refine BR h3 fun x2 h4 h3=>?_; refine U 1 Z (GO Z (AO.call Z _ Z Z R8 (mI _ _ h4 ?_))); cases h3; exact eG 1 Z (En [14,2,3,4] Z)
 · refine IF 11 h2 h3 Z fun h3=>?_; cases h3; exact eG 3 Z (En [14,2,3,4] Z)
 rcases bS hf with ⟨e1,h5,hf⟩ | ⟨_,h5,hf⟩
 · refine CL Z (bP _ _ h5 ?_); cases hf; exact ⟨Z,[],List.nil_sublist _,h⟩
 refine CL Z (bP _ _ h5 (U 4 Z (AS Z (AO.aP (l:=a1.aO) Z Z Z Z dX Z (ah.aB _) ?_))))
 refine J 1 Z (AW.row 1 9 (LK4 (fun n1 l1 v1 x3=>[(3,.ref (aK b1)),(4,pP b4),(5,iP n1),(6,.own v1 (List.map qC l1)),(17,.list (ah.aU a1.aO)),(18,iP (a1.aO.length:Int)),(19,iP x3)]) (fun n1 l1 v1 x3=>[.row v1 (List.map qC l1).length 1 9,.box b4 [iP 0,.bool false,iP 0,.str ([]:Str),.own (.slice none 0 0) [],.own (.slice none 0 0) []]]) (fun bT n1 l1 v1 x3=>xS a1 b1 bT n1 l1 x3=some rX) BIG 0 [] (.slice none 0 0) 0 Z Z hf (fun _ _ _ _ hz=>bQ hz) ?_)); intro bT n1 l1 v1 x3 hf; rw [xS] at hf
 refine V 1 Z (C hf Z (fun h6 hf=>?_) fun h6 hf=>?_)
 ·
  refine B1 hf fun e2 h7 hf=>W 0 Z (AS Z (AO.aI h7 Z Z (ah.aB _) Z dX (ah.aD _) Z (U 1 Z (AS Z (AO.aF Z gq (fun b8=>?_)))))); refine B1 hf fun x4 h8 hf=>Rr 2 [0,0] Z Z (CL Z (mI _ _ h8 ?_)); rcases bS hf with ⟨e3,h9,hf⟩ | ⟨_,h9,hf⟩
  · refine CL Z (bP _ _ h9 ?_); cases hf; exact ⟨Z,[],List.nil_sublist _,h⟩
  refine CL Z (bP _ _ h9 (Rr 3 [0] Z Z (AS Z (AO.aS (List.map qC ([e2.bR]:List Str)) Z u6 Z Z Z Z ?_)))); refine B1 hf fun l2 h10 hf=>AS Z (AO.fK (i:=1) (l:=l1) (m:=([e2.bR]:List Str)) h10 Z Z Z Z Z Z Z u6 f_ Z Z Z (fun _=>Z) (fun _=>Z) (by decide) (fun v2 s1 hs1=>?_)); cases hs1; refine Rr 4 [0] Z Z (AS Z (AO.b_ Z Z Z Z dM Z (eG 4 Z (AR.drop1 ?_)))); exact N 0 Z ⟨(bZ (n1 + (e2.bR.length:Int))),l2,v2,(bZ (x3 + 1)),Z,Z,Z,hf⟩
 refine W 3 Z (AS Z (AO.b_ Z Z Z Z dM Z (U 1 Z (AS Z (AO.aP (l:=l1) Z Z Z Z f_ Z Z (U 1 Z (AS Z (AO.max2 Z Z Z Z Z ?_)))))))); rcases bS hf with ⟨e4,h11,hf⟩ | ⟨_,h11,hf⟩
 · refine U 3 Z (CL Z (bP _ _ h11 ?_)); cases hf; exact ⟨Z,[],List.nil_sublist _,h⟩
 refine U 3 Z (CL Z (bP _ _ h11 ?_)); refine B1 hf fun x5 h12 hf=>U 3 Z (CL Z (Hy _ _ h12 ?_)); refine B1 hf fun x6 jJ hf=>CL Z (xZ _ jJ ?_); cases hf; exact Rx 1 [1] Z Z (ZC [1] Z Z h)
end

theorem Ii (s1:Str) (BH:Str) {r0:Bool} (hf:uM s1 BH=some r0) (h:Q (.ret (.bool r0)) τ):PC 266 [.str s1,.str BH] τ Q:=by
 unfold uM at hf; refine BN 18 [.tmp 4] [0,1] Tryz.func266 Z Z Z Z Z (W 2 Z (AS Z (AO.b_ Z Z Z Z dM Z (U 1 Z (AS Z (AO.b_ Z Z Z Z dM Z ?_)))))); refine BR hf fun b1 h2 hf=>?_; refine U 2 Z (AR.dB 7 10 17 true [] b1 Z Z (fun h1=>?_) (fun h1=>?_) ?_)
 · replace h2:=cO h1 h2; refine Is 10 h1 Z (U 2 Z (GO Z (AO.b_ Z Z Z Z dM Z ?_))); refine B1 h2 fun x1 h3 h2=>GO Z (AO.r_ h3 Z dM Z Z ⟨_,Z⟩ ?_); cases h2; exact eG 3 Z (En [17] Z)
 · refine IF 10 h1 h2 Z fun h2=>?_; cases h2; exact eG 7 Z (En [17] Z)
 cases hf; exact N 1 Z (Y Z h)

theorem OG (s1:Str) (BH:Str) {r0:Bool} (hf:strings_HasPrefix s1 BH=some r0) (h:Q (.ret (.bool r0)) τ):PC 238 [.str s1,.str BH] τ Q:=by
 unfold strings_HasPrefix at hf; refine BN 8 [.tmp 4] [0,1] Tryz.func238 Z Z Z Z Z ?_; refine BR hf fun x1 h1 hf=>?_; refine W 3 Z (CL Z (Ii _ _ h1 ?_)); cases hf; exact N 1 Z (Y Z h)

theorem Ih (s1:Str) (Bj:Str) {r0:Bool} (hf:uL s1 Bj=some r0) (h:Q (.ret (.bool r0)) τ):PC 267 [.str s1,.str Bj] τ Q:=by
 unfold uL at hf; refine BN 21 [.tmp 4] [0,1] Tryz.func267 Z Z Z Z Z (W 2 Z (AS Z (AO.b_ Z Z Z Z dM Z (U 1 Z (AS Z (AO.b_ Z Z Z Z dM Z ?_)))))); refine BR hf fun b1 h2 hf=>?_; refine U 2 Z (AR.dB 10 10 20 true [] b1 Z Z (fun h1=>?_) (fun h1=>?_) ?_)
 · replace h2:=cO h1 h2; refine Is 10 h1 Z (U 2 Z (GO Z (AO.b_ Z Z Z Z dM Z (U 1 Z (GO Z (AO.b_ Z Z Z Z dM Z ?_)))))); refine B1 h2 fun x1 h3 h2=>U 1 Z (GO Z (AO.r_ h3 Z dM Z ⟨_,Z⟩ Z ?_)); cases h2; exact eG 3 Z (En [20] Z)
 · refine IF 10 h1 h2 Z fun h2=>?_; cases h2; exact eG 10 Z (En [20] Z)
 cases hf; exact N 1 Z (Y Z h)

theorem OE (s1:Str) (Bj:Str) {r0:Bool} (hf:strings_HasSuffix s1 Bj=some r0) (h:Q (.ret (.bool r0)) τ):PC 239 [.str s1,.str Bj] τ Q:=by
 unfold strings_HasSuffix at hf; refine BN 8 [.tmp 4] [0,1] Tryz.func239 Z Z Z Z Z ?_; refine BR hf fun x1 h1 hf=>?_; refine W 3 Z (CL Z (Ih _ _ h1 ?_)); cases hf; exact N 1 Z (Y Z h)

section
variable [FR]
def aen :Go.Shelf.Ren:=⟨fun | 146=>240 | 221=>268 | 268=>302 | 138=>303 | 143=>299 | 195=>339 | 197=>340 | 218=>341 | 219=>337 | 260=>363 | 217=>358 | 225=>359 | 224=>360 | 267=>361 | 266=>373 | 314=>374 | n=>n,fun | 9=>9 | 31=>29 | 3=>3 | 4=>4 | 0=>0 | 105=>283 | 21=>21 | 5=>5 | 46=>247 | 119=>322 | 139=>325 | 138=>324 | 146=>320 | 51=>268 | n=>n,fun | 1=>2 | 3=>4 | 4=>5 | n=>n⟩
theorem anu :Go.Proofs.Lays.n146 Tryz.prog aen:={
 mixed:=by kernel_rfl
 f138:=Tryz.func303.trans (congrArg some (by kernel_rfl))
 f143:=Tryz.func299.trans (congrArg some (by kernel_rfl))
 f146:=Tryz.func240.trans (congrArg some (by kernel_rfl))
 f195:=Tryz.func339.trans (congrArg some (by kernel_rfl))
 f197:=Tryz.func340.trans (congrArg some (by kernel_rfl))
 f217:=Tryz.func358.trans (congrArg some (by kernel_rfl))
 f218:=Tryz.func341.trans (congrArg some (by kernel_rfl))
 f219:=Tryz.func337.trans (congrArg some (by kernel_rfl))
 f221:=Tryz.func268.trans (congrArg some (by kernel_rfl))
 f224:=Tryz.func360.trans (congrArg some (by kernel_rfl))
 f225:=Tryz.func359.trans (congrArg some (by kernel_rfl))
 f260:=Tryz.func363.trans (congrArg some (by kernel_rfl))
 f266:=Tryz.func373.trans (congrArg some (by kernel_rfl))
 f267:=Tryz.func361.trans (congrArg some (by kernel_rfl))
 f268:=Tryz.func302.trans (congrArg some (by kernel_rfl))
 f314:=Tryz.func374.trans (congrArg some (by kernel_rfl))
 t0:=Tryz.underlying0
 a0:=Tryz.isAgg0
 z0:=Tryz.sizeOf0
 v0:=Tryz.zeroValue0
 t3:=Tryz.underlying3
 a3:=Tryz.isAgg3
 z3:=Tryz.sizeOf3
 v3:=Tryz.zeroValue3
 t4:=Tryz.underlying4
 a4:=Tryz.isAgg4
 z4:=Tryz.sizeOf4
 v4:=Tryz.zeroValue4
 t5:=Tryz.underlying5
 a5:=Tryz.isAgg5
 z5:=Tryz.sizeOf5
 v5:=Tryz.zeroValue5
 t9:=Tryz.underlying9
 a9:=Tryz.isAgg9
 z9:=Tryz.sizeOf9
 v9:=Tryz.zeroValue9
 t21:=Tryz.underlying21
 a21:=Tryz.isAgg21
 z21:=Tryz.sizeOf21
 v21:=Tryz.zeroValue21
 t31:=Tryz.underlying29
 a31:=Tryz.isAgg29
 z31:=Tryz.sizeOf29
 v31:=Tryz.zeroValue29
 t46:=Tryz.underlying247
 a46:=Tryz.isAgg247
 z46:=Tryz.sizeOf247
 v46:=Tryz.zeroValue247
 t51:=Tryz.underlying268
 a51:=Tryz.isAgg268
 z51:=Tryz.sizeOf268
 v51:=Tryz.zeroValue268
 t105:=Tryz.underlying283
 a105:=Tryz.isAgg283
 z105:=Tryz.sizeOf283
 v105:=Tryz.zeroValue283
 t119:=Tryz.underlying322
 a119:=Tryz.isAgg322
 z119:=Tryz.sizeOf322
 t138:=Tryz.underlying324
 a138:=Tryz.isAgg324
 z138:=Tryz.sizeOf324
 v138:=Tryz.zeroValue324
 t139:=Tryz.underlying325
 a139:=Tryz.isAgg325
 z139:=Tryz.sizeOf325
 v139:=Tryz.zeroValue325
 t146:=Tryz.underlying320
 a146:=Tryz.isAgg320
 z146:=Tryz.sizeOf320
 v146:=Tryz.zeroValue320
 g1:=by kernel_rfl
 g3:=by kernel_rfl
 g4:=by kernel_rfl}


theorem Uu (s1:Str) (t1:Str) {r0:List Str} (hf:strings_Split s1 t1=some r0) (h:Q (.ret (sP r0)) τ):PC 240 [.str s1,.str t1] τ Q:=by
 unfold strings_Split at hf
 split at hf
 case isFalse=>cases hf
 rename_i hg
 cases hf
 refine AC.none ?_
 exact AC.split anu (by kernel_rfl) hg.1 hg.2 FR.max h
end

section
variable [FR]
@[reducible] def ad7 :fO aM ah→eT
 | .ok r=>.ret (.agg (aK r))
 | .bad e=>.panic (.iface 111 (.agg [iP e.code]))

theorem Xl (name1:Str) (a1:ah) (b1:ah) {rX:fO aM ah} (hf:Ng name1 a1 b1=some rX) (h:Q (ad7 rX) τ):PC 180 [.str name1,.agg (aK a1),.agg (aK b1)] τ Q:=by
 unfold Ng at hf; refine BN 62 [.cell 6 31] [0,1,2] Tryz.func180 Z Z Z Z Z (W 2 Z (AS Z (AO.aF Z gq (fun b6=>(J 3 Z (C hf Z (fun h1 hf=>?_) fun h1 hf=>?_))))))
 ·
  refine B1 hf fun x1 h2 hf=>W 1 Z (CL Z (mI _ _ h2 (J 0 Z (C hf Z (fun h3 hf=>?_) fun h3 hf=>?_))))
  · cases hf; exact Wx 2 [0] Z Z (ZC [0] Z Z h)
  cases hf; exact Wx 2 [0] Z Z (ZC [0] Z Z h)
 refine V 2 Z (C hf Z (fun h4 hf=>?_) fun h4 hf=>?_)
 ·
  rcases bS hf with ⟨e1,h5,hf⟩ | ⟨x2,h5,hf⟩
  · refine W 2 Z (CL Z (LB _ _ h5 ?_)); cases hf; exact ⟨Z,[],List.nil_sublist _,h⟩
  refine W 2 Z (CL Z (LB _ _ h5 ?_)); refine B1 hf fun x3 h6 hf=>CL Z (lI _ h6 ?_); cases hf; exact Rx 1 [0] Z Z (ZC [0] Z Z h)
 refine V 2 Z (C hf Z (fun h7 hf=>?_) fun h7 hf=>?_)
 ·
  rcases bS hf with ⟨e2,h8,hf⟩ | ⟨x4,h8,hf⟩
  · refine W 2 Z (CL Z (O5 _ _ h8 ?_)); cases hf; exact ⟨Z,[],List.nil_sublist _,h⟩
  refine W 2 Z (CL Z (O5 _ _ h8 ?_)); cases hf; exact Rx 1 [0] Z Z (ZC [0] Z Z h)
 refine B1 hf fun x5 h9 hf=>W 2 Z (CL Z (vk _ _ _ h9 ?_)); rcases bS hf with ⟨e3,h10,hf⟩ | ⟨_,h10,hf⟩
 · refine CL Z (bP _ _ h10 ?_); cases hf; exact ⟨Z,[],List.nil_sublist _,h⟩
 refine CL Z (bP _ _ h10 (J 3 Z (C hf Z (fun h11 hf=>?_) fun h11 hf=>?_)))
 · refine B1 hf fun x6 h12 hf=>W 4 Z (CL Z (OG _ _ h12 ?_)); refine B1 hf fun x7 jJ hf=>CL Z (lI _ jJ ?_); cases hf; exact Rx 1 [0] Z Z (ZC [0] Z Z h)
 refine V 2 Z (C hf Z (fun j5 hf=>?_) fun j5 hf=>?_)
 · refine B1 hf fun x8 mo hf=>W 4 Z (CL Z (OE _ _ mo ?_)); refine B1 hf fun x9 h16 hf=>CL Z (lI _ h16 ?_); cases hf; exact Rx 1 [0] Z Z (ZC [0] Z Z h)
 rcases bS hf with ⟨e4,qB,hf⟩ | ⟨_,qB,hf⟩
 · refine W 3 Z (CL Z (bP _ _ qB ?_)); cases hf; exact ⟨Z,[],List.nil_sublist _,h⟩
 refine W 3 Z (CL Z (bP _ _ qB ?_)); refine B1 hf fun l1 h18 hf=>U 4 Z (CL Z (Uu _ _ h18 (U 2 Z (AS Z (AO.aP (l:=l1) Z Z Z Z f_ Z Z ?_))))); rcases bS hf with ⟨e5,h19,hf⟩ | ⟨_,h19,hf⟩
 · refine U 1 Z (CL Z (bP _ _ h19 ?_)); cases hf; exact ⟨Z,[],List.nil_sublist _,h⟩
 refine U 1 Z (CL Z (bP _ _ h19 ?_)); refine B1 hf fun wS h20 hf=>U 1 Z (CL Z (TR _ h20 ?_)); cases hf; exact Rx 1 [0] Z Z (ZC [0] Z Z h)
end

@[reducible] def Z0 :fO aM Bool→eT
 | .ok r=>.ret (.bool r)
 | .bad e=>.panic (.iface 111 (.agg [iP e.code]))

theorem tK (v1:ah) {rX:fO aM Bool} (hf:xQ v1=some rX) (h:Q (Z0 rX) τ):PC 122 [.agg (aK v1)] τ Q:=by
 unfold xQ at hf; refine BN 8 [.tmp 2] [0] Tryz.func122 Z Z Z Z Z ?_; refine B1 hf fun x1 h1 hf=>W 3 Z (CL Z (mI _ _ h1 ?_)); rcases bS hf with ⟨e1,h2,hf⟩ | ⟨_,h2,hf⟩
 · refine CL Z (bP _ _ h2 ?_); cases hf; exact ⟨Z,[],List.nil_sublist _,h⟩
 refine CL Z (bP _ _ h2 ?_); cases hf; exact N 3 Z (Y Z h)

@[reducible] def ZY :fO aM ah→eT
 | .ok r=>.ret (.agg (aK r))
 | .bad e=>.panic (.iface 111 (.agg [iP e.code]))

theorem Rz (op1:Str) (v1:ah) {rX:fO aM ah} (hf:He op1 v1=some rX) (h:Q (ZY rX) τ):PC 120 [.str op1,.agg (aK v1)] τ Q:=by
 unfold He at hf; refine BN 18 [.cell 4 31] [0,1] Tryz.func120 Z Z Z Z Z (W 1 Z (AS Z (AO.aF Z gq (fun b4=>(J 2 Z (C hf Z (fun h1 hf=>?_) fun h1 hf=>?_))))))
 ·
  rcases bS hf with ⟨e1,h2,hf⟩ | ⟨x1,h2,hf⟩
  · refine W 1 Z (CL Z (tK _ h2 ?_)); cases hf; exact ⟨Z,[],List.nil_sublist _,h⟩
  refine W 1 Z (CL Z (tK _ h2 ?_)); refine B1 hf fun x2 h3 hf=>U 1 Z (CL Z (lI _ h3 ?_)); cases hf; exact Rx 1 [0] Z Z (ZC [0] Z Z h)
 refine B1 hf fun x3 h4 hf=>W 1 Z (CL Z (mI _ _ h4 ?_)); rcases bS hf with ⟨e2,h5,hf⟩ | ⟨_,h5,hf⟩
 · refine CL Z (bP _ _ h5 ?_); cases hf; exact ⟨Z,[],List.nil_sublist _,h⟩
 refine CL Z (bP _ _ h5 ?_); refine B1 hf fun x4 h6 hf=>U 3 Z (CL Z (yc _ h6 ?_)); cases hf; exact Rx 1 [0] Z Z (ZC [0] Z Z h)

@[reducible] def Z4 :fO aM Int→eT
 | .ok r=>.ret (iP r)
 | .bad e=>.panic (.iface 111 (.agg [iP e.code]))

theorem tL (a1:ah) (b1:ah) {rX:fO aM Int} (hf:qm a1 b1=some rX) (h:Q (Z4 rX) τ):PC 184 [.agg (aK a1),.agg (aK b1)] τ Q:=by
 unfold qm at hf; refine BN 17 [.tmp 4] [0,1] Tryz.func184 Z Z Z Z Z ?_; refine B1 hf fun x1 h1 hf=>W 5 Z (CL Z (vk _ _ _ h1 ?_)); refine B1 hf fun b2 h3 hf=>U 1 Z (AR.dB 4 8 12 false [2,3] b2 Z Z (fun h2=>?_) (fun h2=>?_) ?_)
 · refine IF 8 h2 h3 Z fun h3=>?_; refine BR h3 fun x2 h4 h3=>?_; refine U 2 Z (GO Z (AO.call Z _ Z Z anN (vk _ _ _ h4 ?_))); cases h3; exact eG 1 Z (En [12,2,3] Z)
 · refine IT 8 h2 h3 Z fun h3=>?_; cases h3; exact eG 4 Z (En [12,2,3] Z)
 rcases bS hf with ⟨e1,h5,hf⟩ | ⟨_,h5,hf⟩
 · refine CL Z (bP _ _ h5 ?_); cases hf; exact ⟨Z,[],List.nil_sublist _,h⟩
 refine CL Z (bP _ _ h5 ?_); refine B1 hf fun x3 h6 hf=>U 2 Z (CL Z (Lx _ _ h6 ?_)); cases hf; exact N 1 Z (Y Z h)

@[reducible] def XG :fO aM ah→eT
 | .ok r=>.ret (.agg (aK r))
 | .bad e=>.panic (.iface 111 (.agg [iP e.code]))

theorem qR (n1:Int) {rX:fO aM ah} (hf:vg n1=some rX) (h:Q (XG rX) τ):PC 242 [iP n1] τ Q:=by
 unfold vg at hf; refine BN 12 [.cell 2 31] [0] Tryz.func242 Z Z Z Z Z (W 0 Z (AS Z (AO.aF Z gq (fun b2=>(U 3 Z (An 3 5 8 [0,2] (decide (n1≤9007199254740992)) Z Z Z Z ?_)))))); rcases bS hf with ⟨e1,h2,hf⟩ | ⟨_,h2,hf⟩
 · refine CL Z (bP _ _ h2 ?_); cases hf; exact ⟨Z,[],List.nil_sublist _,h⟩
 refine CL Z (bP _ _ h2 ?_); refine B1 hf fun x1 h3 hf=>U 1 Z (CL Z (yc _ h3 ?_)); cases hf; exact Rx 1 [0] Z Z (ZC [0] Z Z h)

@[reducible] def ad8 :fO aM ah→eT
 | .ok r=>.ret (.agg (aK r))
 | .bad e=>.panic (.iface 111 (.agg [iP e.code]))

theorem Xm (a1:ah) (b1:ah) {rX:fO aM ah} (hf:JZ a1 b1=some rX) (h:Q (ad8 rX) τ):PC 185 [.agg (aK a1),.agg (aK b1)] τ Q:=by
 unfold JZ at hf; refine BN 57 [.cell 4 31] [0,1] Tryz.func185 Z Z Z Z Z (W 2 Z (AS Z (AO.aF Z gq (fun b4=>?_)))); refine B1 hf fun x1 h1 hf=>U 2 Z (CL Z (vk _ _ _ h1 (J 1 Z (C hf Z (fun h2 hf=>?_) fun h2 hf=>?_))))
 ·
  rcases bS hf with ⟨e1,h3,hf⟩ | ⟨x2,h3,hf⟩
  · refine W 5 Z (CL Z (qR _ h3 ?_)); cases hf; exact ⟨Z,[],List.nil_sublist _,h⟩
  refine W 5 Z (CL Z (qR _ h3 ?_)); cases hf; exact Rx 1 [0] Z Z (ZC [0] Z Z h)
 refine B1 hf fun x3 h4 hf=>W 2 Z (CL Z (vk _ _ _ h4 (J 1 Z (C hf Z (fun h5 hf=>?_) fun h5 hf=>?_))))
 ·
  refine W 2 Z (AS Z (AO.b_ Z Z Z Z dM Z (U 2 Z (AS Z (AO.b_ Z Z Z Z dM Z ?_))))); rcases bS hf with ⟨e2,h6,hf⟩ | ⟨_,h6,hf⟩
  · refine U 2 Z (CL Z (bP _ _ h6 ?_)); cases hf; exact ⟨Z,[],List.nil_sublist _,h⟩
  refine U 2 Z (CL Z (bP _ _ h6 ?_)); refine B1 hf fun x4 h7 hf=>U 4 Z (AS Z (AO.zF h7 Z Z Z ?_)); refine B1 hf fun x5 h8 hf=>CL Z (xZ _ h8 ?_); cases hf; exact Rx 1 [0] Z Z (ZC [0] Z Z h)
 refine B1 hf fun x6 h9 hf=>W 2 Z (CL Z (vk _ _ _ h9 ?_)); rcases bS hf with ⟨e3,h10,hf⟩ | ⟨_,h10,hf⟩
 · refine CL Z (bP _ _ h10 ?_); cases hf; exact ⟨Z,[],List.nil_sublist _,h⟩
 refine CL Z (bP _ _ h10 (U 2 Z (AS Z (AO.aP (l:=a1.aO) Z Z Z Z dX Z (ah.aB _) (U 2 Z (AS Z (AO.aP (l:=b1.aO) Z Z Z Z dX Z (ah.aB _) ?_))))))); rcases bS hf with ⟨e4,h11,hf⟩ | ⟨_,h11,hf⟩
 · refine U 2 Z (CL Z (bP _ _ h11 ?_)); cases hf; exact ⟨Z,[],List.nil_sublist _,h⟩
 refine U 2 Z (CL Z (bP _ _ h11 (U 4 Z (AR.row 6 31 ?_)))); refine B1 hf fun l1 h12 hf=>AS Z (AO.fK (i:=0) (l:=[]) (m:=a1.aO) h12 Z Z Z Z Z Z Z qM dX (show ([]:List (List PV))=List.map ah.cells [] from Z) (ah.aB _) (ah.aB _).symm (ah.dD) (ah.cells_one) (by decide) (fun v1 s1 hs1=>?_)); cases hs1; refine B1 hf fun x7 jJ hf=>U 4 Z (AS Z (AO.fK (i:=0) (l:=l1) (m:=b1.aO) jJ Z Z Z Z Z Z Z qM dX (ah.aB _) (ah.aB _) (ah.aB _).symm (ah.dD) (ah.cells_one) (by decide) (fun v2 s2 hs2=>?_)))
 cases hs2; refine B1 hf fun x8 j5 hf=>CL Z (RA _ j5 ?_); cases hf; exact Rx 1 [1] Z Z (ZC [1] Z Z h)

theorem Xg (n1:Int) {r0:BitVec 64} (hf:M4 n1=some r0) (h:Q (.ret (.int .u64 (r0.toNat:Int))) τ):PC 306 [iP n1] τ Q:=by
 unfold M4 at hf; refine BN 10 [.tmp 2] [0] Tryz.func306 Z Z Z Z Z (V 3 Z (C hf Z (fun h1 hf=>?_) fun h1 hf=>?_))
 · refine W 1 Z (AS Z (AO.aah Z Ib Kl Z (AS Z (AO.u64_neg (BitVec.ofInt 64 n1) Z Z Z ?_)))); cases hf; exact N 1 Z (Y Z h)
 refine W 1 Z (AS Z (AO.aah Z Ib Kl Z ?_)); cases hf; exact N 1 Z (Y Z h)

theorem Xh (a1:Int) (b1:Int) {r0:j_} (hf:Fw a1 b1=some r0) (h:Q (.ret (.agg (TA r0))) τ):PC 274 [iP a1,iP b1] τ Q:=by
 unfold Fw at hf; refine BN 71 [.cell 4 240] [0,1] Tryz.func274 Z Z Z Z Z (W 0 Z (AS Z (AO.aF Z ad5 (fun b4=>?_)))); refine B1 hf fun x1 h1 hf=>U 1 Z (CL Z (Xg _ h1 ?_)); refine B1 hf fun y1 h2 hf=>U 1 Z (CL Z (Xg _ h2 (U 3 Z (AS Z (AO.Qr x1 32 Z Z Z Z Z (U 1 Z (AS Z (AO.u64_and x1 (4294967295:BitVec 64) Z Z Z Z Z (U 1 Z (AS Z (AO.Qr y1 32 Z Z Z Z Z ?_))))))))))); refine U 1 Z (AS Z (AO.u64_and y1 (4294967295:BitVec 64) Z Z Z Z Z ?_))
 refine B1 hf fun ET h3 hf=>U 6 Z (AS Z (AO.Eb (x1 &&& (4294967295:BitVec 64)) (y1 &&& (4294967295:BitVec 64)) h3 Z Z Z Z Z ?_)); refine B1 hf fun x2 h4 hf=>U 3 Z (AS Z (AO.Eb (x1 >>> 32) (y1 &&& (4294967295:BitVec 64)) h4 Z Z Z Z Z (U 1 Z (AS Z (AO.Qr ET 32 Z Z Z Z Z (AS Z (AO.Il x2 (ET >>> 32) Z Z Z Z Z ?_))))))); refine B1 hf fun x3 h5 hf=>U 3 Z (AS Z (AO.Eb (x1 &&& (4294967295:BitVec 64)) (y1 >>> 32) h5 Z Z Z Z Z ?_)); refine B1 hf fun x4 h6 hf=>?_
 refine U 1 Z (AS Z (AO.aiy (x2 + (ET >>> 32)) (4294967295:BitVec 64) h6 Z Z Z Z Z (AS Z (AO.Il x3 x4 Z Z Z Z Z (U 3 Z (AS Z (AO.afM (x1 >>> 32) (y1 >>> 32) Z Z Z Z Z (U 1 Z (AS Z (AO.Qr (x2 + (ET >>> 32)) 32 Z Z Z Z Z ?_)))))))))); refine B1 hf fun x5 h7 hf=>AS Z (AO.Vg ((x1 >>> 32) * (y1 >>> 32)) ((x2 + (ET >>> 32)) >>> 32) h7 Z Z Z Z Z (U 1 Z (AS Z (AO.Qr (x3 + x4) 32 Z Z Z Z Z (AS Z (AO.Il x5 ((x3 + x4) >>> 32) Z Z Z Z Z (U 1 Z (AS Z (AO.ak9 (x3 + x4) 32 Z Z Z Z Z ?_)))))))))
 refine U 1 Z (AS Z (AO.u64_and ET (4294967295:BitVec 64) Z Z Z Z Z ?_)); refine B1 hf fun x6 h8 hf=>AS Z (AO.ak_ ((x3 + x4) <<< 32) (ET &&& (4294967295:BitVec 64)) h8 Z Z Z Z Z (AS Z (AO.Ta Z aic Qg Z (U 1 Z (AS Z (AO.aF Z ad5 (fun b14=>(Rr 5 [0] Z Z (AS Z (AO.RD Z XQ Z Z ?_)))))))))); refine U 1 Z (AR.and 5 63 68 [4,14] (x:=(!decide (([((x5 + ((x3 + x4) >>> 32)).toNat:Int),(x6.toNat:Int)]:List Int)=([0,0]:List Int)))) Z Z (fun h9=>?_) (fun h9=>?_) ?_)
 · refine Is 63 h9 Z (U 1 Z (GO Z (AO.aY (i:=0) Z Z Z anq Z Z (GO Z (AO.Ta Z aic Qg Z (GO Z (AO.ajI ([((x5 + ((x3 + x4) >>> 32)).toNat:Int),(x6.toNat:Int)]:List Int) ([0,0]:List Int) Z anm Kl aoM aoL aoH Z Z Z Z Z Z (afH [(x5 + ((x3 + x4) >>> 32)),x6]) (afH [(0:BitVec 64),(0:BitVec 64)]) ?_))))))); exact eG 1 Z (En [68,4,14] Z)
 · refine Is 63 h9 Z ?_; exact eG 5 Z (En [68,4,14] Z)
 cases hf; exact Rx 4 [0,0,1] Z Z (ZC [1] Z Z h)

theorem NH (p1:j_) {r0:Int} {r1:Bool} (hf:vE p1=some (r0,r1)) (h:Q (.ret (.tuple [iP r0,.bool r1])) τ):PC 275 [.agg (TA p1)] τ Q:=by
 unfold vE at hf; refine BN 37 [.tmp 2,.tmp 3] [0] Tryz.func275 Z Z Z Z Z (W 4 Z (AS Z (AO.xM (sz:=1) 0 Z Qg Z Z (by decide) Z ?_))); refine J 3 Z (C hf Z (fun h1 hf=>?_) fun h1 hf=>?_)
 · cases hf; exact M 2 Z (Y Z h)
 refine W 3 Z (AR.and 5 12 17 [1] (x:=(decide (((p1.half.getD 1 0).toNat:Int)≤9223372036854775808))) Z Z (fun h2=>?_) (fun h2=>?_) ?_)
 · refine Is 12 h2 Z (U 1 Z (GO Z (AO.xM (sz:=1) 1 Z Qg Z Z (by decide) Z ?_))); exact eG 3 Z (En [17,1] Z)
 · refine Is 12 h2 Z ?_; exact eG 5 Z (En [17,1] Z)
 refine J 1 Z (C hf Z (fun h3 hf=>?_) fun h3 hf=>?_)
 · refine W 1 Z (AS Z (AO.xM (sz:=1) 1 Z Qg Z Z (by decide) Z ?_)); refine U 1 Z (AS Z (AO.u64_neg (p1.half.getD 1 0) Z Z Z (AS Z (AO.Hr Z Kl Ib Z ?_)))); cases hf; exact N 2 Z (Y Z h)
 refine W 4 Z (AR.and 5 27 32 [1] (x:=(decide (((p1.half.getD 1 0).toNat:Int)≤9223372036854775807))) Z Z (fun h4=>?_) (fun h4=>?_) ?_)
 · refine Is 27 h4 Z (U 1 Z (GO Z (AO.xM (sz:=1) 1 Z Qg Z Z (by decide) Z ?_))); exact eG 3 Z (En [32,1] Z)
 · refine Is 27 h4 Z ?_; exact eG 5 Z (En [32,1] Z)
 refine J 1 Z (C hf Z (fun h5 hf=>?_) fun h5 hf=>?_)
 · refine W 1 Z (AS Z (AO.xM (sz:=1) 1 Z Qg Z Z (by decide) Z ?_)); refine U 1 Z (AS Z (AO.Hr Z Kl Ib Z ?_)); cases hf; exact N 2 Z (Y Z h)
 cases hf; exact M 2 Z (Y Z h)

theorem ahV (alS:Bool) {r0:Int} (hf:aaE alS=some r0) (h:Q (.ret (iP r0)) τ):PC 276 [.bool alS] τ Q:=by
 unfold aaE at hf; refine BN 4 [.tmp 2] [0] Tryz.func276 Z Z Z Z Z (V 2 Z (C hf Z (fun h1 hf=>?_) fun h1 hf=>?_))
 · cases hf; exact M 1 Z (Y Z h)
 cases hf; exact M 1 Z (Y Z h)

theorem ahW (a1:Int) (b1:Int) {r0:Int} (hf:QS a1 b1=some r0) (h:Q (.ret (iP r0)) τ):PC 243 [iP a1,iP b1] τ Q:=by
 unfold QS at hf; refine BN 21 [.tmp 4] [0,1] Tryz.func243 Z Z Z Z Z ?_; refine B1 hf fun x1 h1 hf=>W 3 Z (CL Z (Xh _ _ h1 (AS Z (AO.aF Z ad5 (fun b5=>?_))))); obtain ⟨n1,ok1,h2,hf⟩:=aV hf; refine Rr 2 [0,0] Z Z (CL Z (NH _ h2 (J 6 Z (C hf Z (fun h3 hf=>?_) fun h3 hf=>?_))))
 · cases hf; exact M 2 Z (Y Z h)
 refine BR hf fun x2 h4 hf=>?_; refine Wr 2 [0] Z Z (CL Z (ahV _ h4 ?_)); cases hf; exact N 1 Z (Y Z h)

@[reducible] def Ql :fO aM ah→eT
 | .ok r=>.ret (.agg (aK r))
 | .bad e=>.panic (.iface 111 (.agg [iP e.code]))

theorem Ja (op1:Str) (a1:ah) (b1:ah) {rX:fO aM ah} (hf:sK op1 a1 b1=some rX) (h:Q (Ql rX) τ):PC 186 [.str op1,.agg (aK a1),.agg (aK b1)] τ Q:=by
 unfold sK at hf; refine BN 46 [.cell 6 31] [0,1,2] Tryz.func186 Z Z Z Z Z (W 2 Z (AS Z (AO.aF Z gq (fun b6=>?_)))); refine B1 hf fun x1 h1 hf=>U 2 Z (CL Z (vk _ _ _ h1 ?_)); rcases bS hf with ⟨e1,h2,hf⟩ | ⟨_,h2,hf⟩
 · refine CL Z (bP _ _ h2 ?_); cases hf; exact ⟨Z,[],List.nil_sublist _,h⟩
 refine CL Z (bP _ _ h2 (J 3 Z (C hf Z (fun h3 hf=>?_) fun h3 hf=>?_)))
 ·
  rcases bS hf with ⟨e2,h4,hf⟩ | ⟨x2,h4,hf⟩
  · refine W 5 Z (CL Z (qR _ h4 ?_)); cases hf; exact ⟨Z,[],List.nil_sublist _,h⟩
  refine W 5 Z (CL Z (qR _ h4 ?_)); cases hf; exact Rx 1 [0] Z Z (ZC [0] Z Z h)
 refine V 2 Z (C hf Z (fun h5 hf=>?_) fun h5 hf=>?_)
 ·
  refine B1 hf fun x3 h6 hf=>W 4 Z (CL Z (ahW _ _ h6 ?_)); rcases bS hf with ⟨e3,h7,hf⟩ | ⟨x4,h7,hf⟩
  · refine CL Z (qR _ h7 ?_); cases hf; exact ⟨Z,[],List.nil_sublist _,h⟩
  refine CL Z (qR _ h7 ?_); cases hf; exact Rx 1 [0] Z Z (ZC [0] Z Z h)
 rcases bS hf with ⟨e4,h8,hf⟩ | ⟨_,h8,hf⟩
 · refine W 3 Z (CL Z (bP _ _ h8 ?_)); cases hf; exact ⟨Z,[],List.nil_sublist _,h⟩
 refine W 3 Z (CL Z (bP _ _ h8 (J 2 Z (C hf Z (fun h9 hf=>?_) fun h9 hf=>?_))))
 ·
  refine B1 hf fun _ h10 hf=>W 4 Z (AS Z (AO.apD h10 Z Z Z ?_)); rcases bS hf with ⟨e5,h11,hf⟩ | ⟨x5,h11,hf⟩
  · refine CL Z (qR _ h11 ?_); cases hf; exact ⟨Z,[],List.nil_sublist _,h⟩
  refine CL Z (qR _ h11 ?_); cases hf; exact Rx 1 [0] Z Z (ZC [0] Z Z h)
 refine B1 hf fun _ h12 hf=>W 4 Z (AS Z (AO.apB h12 Z Z Z ?_)); refine B1 hf fun x6 jJ hf=>CL Z (yc _ jJ ?_); cases hf; exact Rx 1 [0] Z Z (ZC [0] Z Z h)

theorem WU (v1:ah) {r0:Int} (hf:Bh v1=some r0) (h:Q (.ret (iP r0)) τ):PC 277 [.agg (aK v1)] τ Q:=by
 unfold Bh at hf; refine AC.none (AC.OL 30 [.tmp 2] [0] Tryz.func277 Z Z Z Z Z ?_); obtain ⟨b1,s1,h1,hf⟩:=aV hf; cases hf; refine AW.sr (AR.step Z Z Z (AO.Ot Z Z Z (cs 1 Z (AR.nil [1] Z ?_)))); refine AW.sr (AR.step Z Z Z (AO.aF Z apf (fun b3=>(AR.dh Z Z (AO.dW (i:=0) Z Z Z EP Z Z Z Z Z (AR.nil [1,3] Z ?_)))))); refine AW.seq (AW.sr (cs 1 Z (AR.step Z Z Z (AO.call Z _ Z Z ajk (OY _ _ ?_)))))
 refine AR.nil [3,7] Z (AW.block (AW.rangeFunc (β:=Int) (X:=Int × ah) Z ajg (fun x=>[iP x.1,.agg (aK x.2)]) (fun _=>Z) (by decide) (fun s x=>jr s x.1 x.2) (fun s=>[.box b3 [iP s]]) (fun _=>none) (s0:=0) (s1:=r0) Z Z ?_ ?_ ?_))
 · intro l T' hy; refine Lv l T' jr (fun s1 bV v1 b s2 hh=>hy s1 (bV,v1) b s2 hh) 0 v1 1 h1 ⟨⟨_,Z⟩,Z⟩
 ·
  rintro l s ⟨bV,x1⟩ b s2 hh; unfold jr at hh; refine ⟨Z,?_⟩; cases hh; refine Cx.seq (Cx.region Z (cs 1 Z (AR.nil [3,4,9] Z ?_))); refine Cx.region Z (AR.step Z Z Z (AO.aF Z gq (fun b5=>(AR.dh Z Z (AO.dW (i:=0) Z Z Z dF Z Z Z Z Z (AR.nil [3,4,5] Z ?_)))))); refine ⟨Z,(Cx.block (Cx.seq (Cx.seq ?_)))⟩; refine Cx.region Z (cs 1 Z (AR.step Z Z Z (AO.aY (i:=0) Z Z Z EP Z Z (cs 2 Z ?_))))
  refine AR.or 4 13 17 [3,4,5] (x:=(x1.kind == 5)) Z Z (fun h2=>?_) (fun h2=>?_) ?_
  · refine AR.is 13 h2 Z (cs 1 Z (AR.go Z Z Z Z Z Z (AO.aY (i:=0) Z Z Z EP Z Z (cs 2 Z ?_)))); refine AR.nil [17,3,4,5] Z ?_; exact ⟨Z,Z,Z,Z⟩
  · refine AR.is 13 h2 Z (cs 4 Z (AR.nil [17,3,4,5] Z ?_)); exact ⟨Z,Z,Z,Z⟩
  refine cs 1 Z (AR.and 5 18 23 [3,4,5] (x:=((x1.aO.length:Int) == 0)) Z Z (fun h2=>?_) (fun h2=>?_) ?_)
  · refine AR.is 18 h2 Z (cs 1 Z (AR.go Z Z Z Z Z Z (AO.aY (i:=0) Z Z Z Jy Z Z (AR.go Z Z Z Z Z Z (AO.aP (l:=x1.aO) Z Z Z Z dX Z (ah.aB _) ?_))))); refine cs 2 Z (AR.nil [23,3,4,5] Z ?_); exact ⟨Z,Z,Z,Z⟩
  · refine AR.is 18 h2 Z (cs 5 Z (AR.nil [23,3,4,5] Z ?_)); exact ⟨Z,Z,Z,Z⟩
  refine AR.nil [3,4,23] Z (Cx.cond Z (fun h3=>?_) (fun h3=>?_))
  · rw [show vO bV x1=bZ (bV + 1) from if_pos h3]; refine Cx.region Z (cs 3 Z (AR.nil [3,4] Z (Cx.region Z ?_))); refine AR.step Z Z Z (AO.aY (i:=1) Z Z Z EP Z Z (cs 1 Z (AR.step Z Z Z (AO.max2 Z Z Z Z Z (AR.dh Z Z (AO.dW (i:=1) Z Z Z EP Z Z Z Z Z ?_)))))); refine AR.nil [] Z ?_; exact ⟨Z,.cons _ (List.Sublist.refl _),Z,Z⟩
  rw [show vO bV x1=bV from if_neg (by rw [h3]; simp)]; refine Cx.skip (Cx.region Z (AR.step Z Z Z (AO.aY (i:=1) Z Z Z EP Z Z (cs 1 Z ?_)))); refine AR.step Z Z Z (AO.max2 Z Z Z Z Z (AR.dh Z Z (AO.dW (i:=1) Z Z Z EP Z Z Z Z Z (AR.nil [] Z ?_)))); exact ⟨Z,.cons _ (List.Sublist.refl _),Z,Z⟩
 intro D; show AW _ _ _ _ _ _ _
 refine AW.sr (AR.step Z Z Z (AO.aY (i:=0) Z Z Z EP Z Z (cs 1 Z (AR.nil [2] Z ?_)))); refine AW.ret ?_; exact ⟨D,[_],Z,Z,_,⟨_,_,Z,Z,Z⟩,[],List.nil_sublist _,h⟩

theorem Ut (y1:aA) (c1:aA) {r0:Bool} (hf:oQ y1 c1=some r0) (h:Q (.ret (.bool r0)) τ):PC 279 [.agg (DT y1),.ref (DT c1)] τ Q:=by
 unfold oQ at hf; refine BN 9 [.tmp 3] [0,1] Tryz.func279 Z Z Z Z Z ?_; cases hf; exact M 8 Z (Y Z h)

theorem zG (s1:List aA) (f1:aA→Option Bool) (f1F:FuncId) (f1C:List PV) (f1P:bB Tryz.prog f1F=true) (f1H:∀ a0 b0,f1 a0=some b0→∀ {τ:List bJ} {Q:eT→List bJ→Prop},Q (.ret (.bool b0)) τ→PC f1F ([.agg (DT a0)] ++ f1C) τ Q) {r0:Int} (hf:j3 s1 f1=some r0) (h:Q (.ret (iP r0)) τ):PC 307 [.list (List.map aA.cells s1),.fn f1F f1C] τ Q:=by
 unfold j3 at hf; refine BN 19 [.tmp 4] [0,1] Tryz.func307 Z Z Z Z Z (W 2 Z (AS Z (AO.aP (l:=s1) Z Z Z Z jN Z Z (J 1 Z (Gh (fun i1=>[(0,.list (List.map aA.cells s1)),(1,.fn f1F f1C),(7,iP (s1.length:Int)),(8,iP i1)]) (fun i1=>[]) (fun bT i1=>iq s1 f1 bT i1=some r0) BIG 0 Z Z hf (fun _ hz=>bQ hz) ?_))))); intro bT i1 hf; rw [iq] at hf; refine V 1 Z (C hf Z (fun h1 hf=>?_) fun h1 hf=>?_)
 ·
  refine B1 hf fun e1 h2 hf=>W 5 Z (AS Z (AO.aI h2 Z Z Z Z jN (aA.aD _) Z ?_)); refine B1 hf fun x1 h3 hf=>U 1 Z (AS Z (AO.call Z _ Z Z f1P (f1H _ _ h3 (J 0 Z (C hf Z (fun h4 hf=>?_) fun h4 hf=>?_)))))
  · cases hf; exact M 2 Z (Y Z h)
  exact M 2 Z ⟨(bZ (i1 + 1)),Z,Z,Z,hf⟩
 cases hf; exact M 1 Z (Y Z h)

theorem wR (s1:List aA) (f1:aA→Option Bool) (f1F:FuncId) (f1C:List PV) (f1P:bB Tryz.prog f1F=true) (f1H:∀ a0 b0,f1 a0=some b0→∀ {τ:List bJ} {Q:eT→List bJ→Prop},Q (.ret (.bool b0)) τ→PC f1F ([.agg (DT a0)] ++ f1C) τ Q) {r0:Bool} (hf:iw s1 f1=some r0) (h:Q (.ret (.bool r0)) τ):PC 278 [.list (List.map aA.cells s1),.fn f1F f1C] τ Q:=by
 unfold iw at hf; refine BN 9 [.tmp 4] [0,1] Tryz.func278 Z Z Z Z Z ?_; refine B1 hf fun x1 h1 hf=>W 3 Z (CL Z (zG _ f1 f1F f1C f1P @f1H h1 ?_)); cases hf; exact N 2 Z (Y Z h)

theorem Yg (bG:List aA) (i1:Int) {r0:Int} (hf:D_ bG i1=some r0) (h:Q (.ret (iP r0)) τ):PC 244 [.list (List.map aA.cells bG),iP i1] τ Q:=by
 unfold D_ at hf; refine BN 36 [.tmp 4] [0,1] Tryz.func244 Z Z Z Z Z ?_; refine B1 hf fun e1 h1 hf=>W 3 Z (AS Z (AO.aI h1 Z Z Z Z jN (aA.aD _) Z (U 1 Z (AS Z (AO.aF Z OH (fun b5=>(Rr 3 [0,0] Z Z (AS Z (AO.b_ Z Z Z Z dM Z (U 2 Z (AR.or 5 15 20 [0,1,5] (x:=(decide (64 < (e1.name.length:Int)))) Z Z (fun h2=>?_) (fun h2=>?_) ?_)))))))))))
 · refine Is 15 h2 Z (U 1 Z (GO Z (AO.aY (i:=0) Z Z Z abZ Z Z (GO Z (AO.b_ Z Z Z Z dM Z ?_))))); exact eG 2 Z (En [20,0,1,5] Z)
 · refine Is 15 h2 Z ?_; exact eG 5 Z (En [20,0,1,5] Z)
 refine J 0 Z (C hf Z (fun h3 hf=>?_) fun h3 hf=>?_)
 · cases hf; exact M 1 Z (Y Z h)
 refine B1 hf fun e2 h4 hf=>Wr 2 [0] Z Z (CL Z (uh _ h4 (J 3 Z (C hf Z (fun h5 hf=>?_) fun h5 hf=>?_))))
 · cases hf; exact M 2 Z (Y Z h)
 refine B1 hf fun x1 h6 hf=>Wr 2 [0] Z Z (CL Z (WU _ h6 (J 1 Z (C hf Z (fun h7 hf=>?_) fun h7 hf=>?_))))
 · cases hf; exact M 1 Z (Y Z h)
 refine B1 hf fun x2 h8 hf=>W 2 Z (AS Z (AO.alA h8 Z jN Z Z Z (aA.dD) Z ⟨_,Z⟩ (AR.afO 5 0 Z Z Z Z ?_))); refine B1 hf fun x3 h9 hf=>U 1 Z (CL Z (wR _ (fun z0=>oQ z0 e1) 279 [.ref (DT e1)] anG (fun _ _ hz=>Ut _ _ hz) h9 (J 0 Z (C hf Z (fun h10 hf=>?_) fun h10 hf=>?_))))
 · cases hf; exact M 1 Z (Y Z h)
 cases hf; exact M 1 Z (Y Z h)

theorem Rs (s1:List aA) {r0:List aA} (hf:gW s1=some r0) (h:Q (.ret (.list (List.map aA.cells r0))) τ):PC 245 [.list (List.map aA.cells s1)] τ Q:=by
 unfold gW at hf; refine BN 8 [.tmp 2] [0] Tryz.func245 Z Z Z Z Z (W 0 Z (AS Z (AO.mh Z Z (U 1 Z (AS Z (AO.FC Z Z amA (fun b hb=>(J 0 Z (AW.cond Z (fun h1=>?_) (fun h1=>?_))))))))))
 · obtain rfl:s1=[]:=List.map_eq_nil_iff.1 (hb h1); obtain ⟨_,rfl⟩:=Ke hf; refine W 0 Z (AS Z (AO.mh Z Z ?_)); exact N 0 rfl ⟨rfl,_,⟨_,_,rfl,rfl,rfl⟩,_,List.Sublist.refl _,h⟩
 refine W 0 Z (AS Z (AO.qo [] Z zK Z Z Z Z Z (fun v1=>(U 1 Z (AS Z (AO.fK (i:=0) (l:=[]) (m:=s1) hf Z Z Z Z Z Z Z zK jN Z Z Z (aA.dD) (aA.cells_one) (by decide) (fun v2 s2 hs2=>?_))))))); cases hs2; exact N 1 Z (Y Z h)
theorem zH (s1:List aA) {r0:List aA} (hf:gW s1=some r0) {Q:eT→List bJ→Prop} (h:∀ v,Q (.ret (.val v)) [.buf v r0.length 7 51 (r0.flatMap aA.cells)]):PC 245 [.list (List.map aA.cells s1)] [] Q:=by
 unfold gW at hf; obtain ⟨hl,e0⟩:=Ke hf; rw [List.nil_append] at e0; subst e0; simp only [List.length_nil,Nat.zero_add] at hl; have hlen:∀ x:aA,(aA.cells x).length=7:=fun _=>Z; have hone:∀ x:aA,(aA.cells x).all PV.one=true:=fun _=>Z; refine AC.yU 8 [.tmp 2] [0] Tryz.func245 Z Z Z Z Z (AW.sr (AR.step Z Z Z (AO.mh Z Z (AR.nil [0] Z ?_)))); refine AW.seq (AW.sr (cs 1 Z (AR.step Z Z Z (AO.FC Z Z amA (fun b hb=>?_)))))
 refine AR.nil [0,4] Z (AW.cond Z (fun h1=>?_) (fun h1=>?_))
 · obtain rfl:r0=[]:=List.map_eq_nil_iff.1 (hb h1); refine AW.sr (AR.step Z Z Z (AO.af_ Z Z (AR.nil [2] Z (AW.aqK 7 51 ?_)))); refine AW.ret ?_; exact ⟨rfl,_,⟨_,_,rfl,rfl,rfl⟩,_,List.Sublist.refl _,h _⟩
 refine AW.skip (AW.sr (AR.step Z Z Z (AO.qo [] Z zK Z Z Z Z Z (fun v1=>(cs 1 Z ?_))))); refine AR.step Z Z Z (AO.Xu (i:=0) (l2:=List.map aA.cells r0) Z Z Z Z Z Z Z zK jN (fun y hy=>?_) (fun y hy=>?_) ?_ ?_ (fun v2 s1 hs1=>?_))
 · obtain ⟨s,_,rfl⟩:=List.mem_map.1 hy; exact hlen s
 · obtain ⟨s,_,rfl⟩:=List.mem_map.1 hy; exact hone s
 · rw [List.length_map]; unfold wB at hl; unfold maxLen; omega
 · rw [List.length_map]; unfold wB at hl; omega
 cases hs1; refine cs 1 Z (AR.nil [2] Z (AW.ret ?_)); have hv:=h v2; rw [List.flatMap_def,show r0.length=(List.map aA.cells r0).length from (List.length_map _).symm] at hv; exact ⟨rfl,_,⟨_,_,rfl,rfl,rfl⟩,_,List.Sublist.refl _,hv⟩

theorem Yh (a1:aA) (b1:aA) {r0:Int} (hf:Tk a1 b1=some r0) {τ:List bJ} {Q:eT→List bJ→Prop} (h:Q (.ret (iP r0)) τ):PC 247 [.agg (DT a1),.agg (DT b1)] τ Q:=by
 unfold Tk at hf; refine BN 10 [.tmp 4] [0,1] Tryz.func247 Z Z Z Z Z ?_; refine BR hf fun x1 h1 hf=>?_; refine W 7 Z (CL Z (E5 _ _ h1 ?_)); cases hf; exact N 1 Z (Y Z h)
def Mv :Go.Shelf.Ren:=⟨fun | 6=>246 | 15=>281 | 14=>280 | 28=>316 | 29=>317 | 20=>308 | 21=>309 | 22=>310 | 23=>311 | 24=>312 | 25=>313 | 26=>314 | 27=>315 | 46=>342 | 47=>343 | 48=>344 | 49=>345 | 50=>346 | 57=>364 | n=>n,fun | 22=>23 | 24=>51 | 25=>223 | 3=>3 | 39=>247 | 0=>0 | 53=>268 | 55=>237 | 4=>4 | 46=>262 | 45=>261 | 50=>198 | 5=>5 | 9=>9 | 66=>286 | 70=>290 | 76=>310 | 77=>311 | n=>n,fun | n=>n⟩
theorem R4 :Go.Proofs.SlLaysF0.n6 Tryz.prog Mv:={
 mixed:=by kernel_rfl
 f6:=⟨Tryz.f246.name,by decide,Tryz.func246.trans (congrArg some (by kernel_rfl))⟩
 f14:=⟨Tryz.f280.name,by decide,Tryz.func280.trans (congrArg some (by kernel_rfl))⟩
 f15:=Tryz.func281.trans (congrArg some (by kernel_rfl))
 f20:=⟨Tryz.f308.name,by decide,Tryz.func308.trans (congrArg some (by kernel_rfl))⟩
 f21:=⟨Tryz.f309.name,by decide,Tryz.func309.trans (congrArg some (by kernel_rfl))⟩
 f22:=⟨Tryz.f310.name,by decide,Tryz.func310.trans (congrArg some (by kernel_rfl))⟩
 f23:=⟨Tryz.f311.name,by decide,Tryz.func311.trans (congrArg some (by kernel_rfl))⟩
 f24:=⟨Tryz.f312.name,by decide,Tryz.func312.trans (congrArg some (by kernel_rfl))⟩
 f25:=⟨Tryz.f313.name,by decide,Tryz.func313.trans (congrArg some (by kernel_rfl))⟩
 f26:=⟨Tryz.f314.name,by decide,Tryz.func314.trans (congrArg some (by kernel_rfl))⟩
 f27:=⟨Tryz.f315.name,by decide,Tryz.func315.trans (congrArg some (by kernel_rfl))⟩
 f28:=Tryz.func316.trans (congrArg some (by kernel_rfl))
 f29:=Tryz.func317.trans (congrArg some (by kernel_rfl))
 f46:=⟨Tryz.f342.name,by decide,Tryz.func342.trans (congrArg some (by kernel_rfl))⟩
 f47:=Tryz.func343.trans (congrArg some (by kernel_rfl))
 f48:=Tryz.func344.trans (congrArg some (by kernel_rfl))
 f49:=⟨Tryz.f345.name,by decide,Tryz.func345.trans (congrArg some (by kernel_rfl))⟩
 f50:=⟨Tryz.f346.name,by decide,Tryz.func346.trans (congrArg some (by kernel_rfl))⟩
 f57:=⟨Tryz.f364.name,by decide,Tryz.func364.trans (congrArg some (by kernel_rfl))⟩
 t0:=Tryz.underlying0
 a0:=Tryz.isAgg0
 z0:=Tryz.sizeOf0
 v0:=Tryz.zeroValue0
 t3:=Tryz.underlying3
 a3:=Tryz.isAgg3
 z3:=Tryz.sizeOf3
 v3:=Tryz.zeroValue3
 t4:=Tryz.underlying4
 a4:=Tryz.isAgg4
 z4:=Tryz.sizeOf4
 v4:=Tryz.zeroValue4
 t5:=Tryz.underlying5
 a5:=Tryz.isAgg5
 z5:=Tryz.sizeOf5
 v5:=Tryz.zeroValue5
 t9:=Tryz.underlying9
 a9:=Tryz.isAgg9
 z9:=Tryz.sizeOf9
 v9:=Tryz.zeroValue9
 t22:=Tryz.underlying23
 a22:=Tryz.isAgg23
 z22:=Tryz.sizeOf23
 v22:=Tryz.zeroValue23
 t25:=Tryz.underlying223
 a25:=Tryz.isAgg223
 z25:=Tryz.sizeOf223
 v25:=Tryz.zeroValue223
 t39:=Tryz.underlying247
 a39:=Tryz.isAgg247
 z39:=Tryz.sizeOf247
 v39:=Tryz.zeroValue247
 t45:=Tryz.underlying261
 a45:=Tryz.isAgg261
 z45:=Tryz.sizeOf261
 v45:=Tryz.zeroValue261
 t46:=Tryz.underlying262
 a46:=Tryz.isAgg262
 z46:=Tryz.sizeOf262
 v46:=Tryz.zeroValue262
 t50:=Tryz.underlying198
 a50:=Tryz.isAgg198
 z50:=Tryz.sizeOf198
 v50:=Tryz.zeroValue198
 t53:=Tryz.underlying268
 a53:=Tryz.isAgg268
 z53:=Tryz.sizeOf268
 v53:=Tryz.zeroValue268
 t55:=Tryz.underlying237
 a55:=Tryz.isAgg237
 z55:=Tryz.sizeOf237
 v55:=Tryz.zeroValue237
 t66:=Tryz.underlying286
 a66:=Tryz.isAgg286
 z66:=Tryz.sizeOf286
 v66:=Tryz.zeroValue286
 t70:=Tryz.underlying290
 a70:=Tryz.isAgg290
 z70:=Tryz.sizeOf290
 v70:=Tryz.zeroValue290
 t76:=Tryz.underlying310
 a76:=Tryz.isAgg310
 z76:=Tryz.sizeOf310
 v76:=Tryz.zeroValue310
 t77:=Tryz.underlying311
 a77:=Tryz.isAgg311
 z77:=Tryz.sizeOf311
 v77:=Tryz.zeroValue311}


theorem P8 (s1:List aA) {r0:List aA} (hf:YX (fun x=>x.name) s1=some r0) {v:Value} {e:TypeId} {Q:eT→List bJ→Prop} (h:Q (.ret (.tuple [])) [.buf v (List.map aA.cells r0).length 7 e (r0.flatMap aA.cells)]):
  PC 246 [.val v,.fn 247 []] [.buf v s1.length 7 e (s1.flatMap aA.cells)] Q:=by
 unfold YX at hf
 split at hf
 case isFalse=>cases hf
 rename_i hg
 obtain ⟨h1,h2,h3⟩:=hg
 cases hf
 rw [List.length_map] at h
 exact AC.agZ R4 aA.cells (k:=7) (by decide) (fun _=>Z) (fun _=>Z) aqP apg anM (cf:=fun a b=>iF a.name b.name)
  (fun a b ha hb=>@Yh ac7 a b _ (Sg (h2 a ha) (h2 b hb)) _ _ Z) (fun x hx=>by rw [acM] at hx; omega) (fun x y z a b=>KG a b) (fun x y z a b=>OM a b)
  (by
   rw [List.Nodup,List.pairwise_map] at h3
   refine h3.imp fun {x y} hne=>?_
   rcases Int.lt_trichotomy (iF x.name y.name) 0 with h | h | h
   ·
    exact .inl h
   ·
    exact absurd (Es h) hne
   ·
    right; rw [xG]; omega)
  (by unfold wB at h1; omega) h

theorem adv (bG:List aA) {r0:ah} {r1:Int} (hf:FU bG=some (r0,r1)) (h:Q (.ret (.tuple [.agg (aK r0),iP r1])) τ):PC 187 [.list (List.map aA.cells bG)] τ Q:=by
 unfold FU at hf; refine BN 55 [.cell 2 31,.tmp 3] [0] Tryz.func187 Z Z Z Z Z (W 0 Z (AS Z (AO.aF Z gq (fun b2=>(U 2 Z (AS Z (AO.aP (l:=bG) Z Z Z Z jN Z Z (J 1 Z (C hf Z (fun h1 hf=>?_) fun h1 hf=>?_)))))))))
 · cases hf; exact Wx 3 [0] Z Z (ZC [0] Z Z h)
 refine W 1 Z (AS Z (AO.aP (l:=bG) Z Z Z Z jN Z Z (J 1 Z (Gh (fun i1=>[(0,.list (List.map aA.cells bG)),(2,pP b2),(15,iP (bG.length:Int)),(16,iP i1)]) (fun i1=>[.box b2 [iP 0,.bool false,iP 0,.str ([]:Str),.own (.slice none 0 0) [],.own (.slice none 0 0) []]]) (fun bT i1=>yF bG bT i1=some (r0,r1)) BIG 0 Z Z hf (fun _ hz=>bQ hz) ?_)))); intro bT i1 hf; rw [yF] at hf; refine V 1 Z (C hf Z (fun h2 hf=>?_) fun h2 hf=>?_)
 ·
  refine B1 hf fun e1 h3 hf=>W 4 Z (CL Z (Yg _ _ h3 (J 3 Z (C hf Z (fun h4 hf=>?_) fun h4 hf=>?_))))
  · cases hf; exact Wx 4 [0] Z Z (ZC [0] Z Z h)
  exact M 2 Z ⟨(bZ (i1 + 1)),Z,Z,Z,hf⟩
 refine B1 hf fun UG h5 hf=>W 1 Z (CL Z (AC.none (zH _ h5 (fun v1=>?_)))); refine B1 hf fun wI h6 hf=>U 2 rfl (CL rfl (AC.one 0 rfl (P8 _ h6 ⟨_,rfl,(AR.freeze 6 0 (List.map aA.cells wI) rfl rfl rfl (fun x hx=>by obtain ⟨s,_,rfl⟩:=List.mem_map.1 hx; rfl) Z ?_)⟩))); refine U 1 Z (AS Z (AO.aF Z gq (fun b7=>(Rr 2 [0] Z Z (AS Z (AO.aP (l:=wI) Z Z Z Z jN Z Z ?_))))))
 refine J 1 Z (AW.row 6 31 (AW.row 1 9 (LK4 (fun x1 bH v2 v3=>[(2,pP b2),(7,pP b7),(32,.own v1 (List.map aA.cells wI)),(33,iP (wI.length:Int)),(34,iP x1)]) (fun x1 bH v2 v3=>[.row v3 (List.map qC bH.keys).length 1 9,.row v2 (ah.aU bH.aO).length 6 31,.box b7 [iP bH.kind,.bool bH.dO,iP bH.dI,.str bH.bR,.own v2 (ah.aU bH.aO),.own v3 (List.map qC bH.keys)],.row v1 (List.map aA.cells wI).length 7 51,.box b2 [iP 0,.bool false,iP 0,.str ([]:Str),.own (.slice none 0 0) [],.own (.slice none 0 0) []]]) (fun KQ x1 bH v2 v3=>yE wI KQ x1 bH=some (r0,r1)) BIG 0 (ah.mk 5 false 0 ([]:Str) [] []) (.slice none 0 0) (.slice none 0 0) Z Z hf (fun _ _ _ _ hz=>bQ hz) ?_)))
 intro KQ x1 bH v2 v3 hf; rw [yE] at hf; refine V 1 Z (C hf Z (fun h7 hf=>?_) fun h7 hf=>?_)
 ·
  refine B1 hf fun e2 h8 hf=>W 0 Z (AS Z (AO.aI h8 Z Z Z Z jN (aA.aD _) Z (U 1 Z (AS Z (AO.aF Z OH (fun b9=>(Rr 5 [0,3,0] Z Z (AS Z (AO.aS (List.map qC ([e2.name]:List Str)) Z u6 Z Z Z Z ?_))))))))); refine B1 hf fun x2 h9 hf=>AS Z (AO.fK (i:=1) (l:=bH.keys) (m:=([e2.name]:List Str)) h9 Z Z Z Z Z Z Z u6 f_ Z Z Z (fun _=>Z) (fun _=>Z) (by decide) (fun v4 s1 hs1=>?_)); cases hs1; refine Rw 2 [3] Z Z (AW.draw 6 mixed (by kernel_rfl) Z ?_)
  refine Ev.cs aG 1 Z (Ev.cons Z Z Z (AO.aY (i:=3) Z Z Z Jy Z Z zg) (Ev.cs aG 1 Z (Ev.cons Z Z Z (AO.aY (i:=0) Z Z Z dF Z Z zg) ?_))); refine B1 hf fun x3 h10 hf=>Ev.cons rfl rfl rfl (AO.call rfl _ rfl rfl ajf (OZ _ h10 ⟨rfl,rfl⟩)) (Ev.cons rfl rfl rfl (AO.aS (ah.aU [x3]) rfl qM rfl rfl rfl (by first | rfl | simp only [List.map,ah.aD,ah.aU]) ⟨rfl,rfl⟩) ?_); refine Ev.nil ?_; show AR _ _ _ _ _ _ _ _
  refine B1 hf fun x4 h11 hf=>AS Z (AO.fK (i:=2) (l:=bH.aO) (m:=[x3]) h11 Z Z Z Z Z Z Z qM dX (ah.aB _) (ah.aB _) (ah.aB _).symm (ah.dD) (ah.cells_one) (by decide) (fun v5 s2 hs2=>?_)); cases hs2; refine Rn 4 [3] Z Z (AR.drop1 ?_); exact N 0 Z ⟨(bZ (x1 + 1)),(ah.mk bH.kind bH.dO bH.dI bH.bR x4 x2),v5,v4,Z,Z,Z,hf⟩
 cases hf; exact Wx 3 [2,4] Z Z (ZC [4] Z Z h)

section
variable [FR]
@[reducible] def Bf :fO aM ah→eT
 | .ok r=>.ret (.agg (aK r))
 | .bad e=>.panic (.iface 111 (.agg [iP e.code]))

@[reducible] def Bg :fO aM ah→eT
 | .ok r=>.ret (.agg (aK r))
 | .bad e=>.panic (.iface 111 (.agg [iP e.code]))

@[reducible] def CJ :fO aM (List ah)→eT
 | .ok r=>.ret (.list (ah.aU r))
 | .bad e=>.panic (.iface 111 (.agg [iP e.code]))

@[reducible] def zx :fO aM ah→eT
 | .ok r=>.ret (.agg (aK r))
 | .bad e=>.panic (.iface 111 (.agg [iP e.code]))

@[reducible] def wX :fO aM ah→eT
 | .ok r=>.ret (.agg (aK r))
 | .bad e=>.panic (.iface 111 (.agg [iP e.code]))

abbrev qc (bM:List aA→aj→Option (fO aM ah)):Prop:=∀ (vP:List aA) (iY:aj) {fP:fO aM ah},bM vP iY=some fP→∀ {τ:List bJ} {Q:eT→List bJ→Prop} (h:Q (Bf fP) τ),PC 76 [.list (List.map aA.cells vP),.agg (bA iY)] τ Q
abbrev qd (dP:List aA→aj→Option (fO aM ah)):Prop:=∀ (vP:List aA) (iY:aj) {fP:fO aM ah},dP vP iY=some fP→∀ {τ:List bJ} {Q:eT→List bJ→Prop} (h:Q (Bg fP) τ),PC 119 [.list (List.map aA.cells vP),.agg (bA iY)] τ Q
abbrev rA (dN:List aA→List aj→Option (fO aM (List ah))):Prop:=∀ (vP:List aA) (Uh:List aj) {fP:fO aM (List ah)},dN vP Uh=some fP→∀ {τ:List bJ} {Q:eT→List bJ→Prop} (h:Q (CJ fP) τ),PC 124 [.list (List.map aA.cells vP),.list (aj.aU Uh)] τ Q
abbrev nU (dA:List aA→aj→Option (fO aM ah)):Prop:=∀ (vP:List aA) (iY:aj) {fP:fO aM ah},dA vP iY=some fP→∀ {τ:List bJ} {Q:eT→List bJ→Prop} (h:Q (zx fP) τ),PC 121 [.list (List.map aA.cells vP),.agg (bA iY)] τ Q
abbrev nk (cK:List aA→aj→Option (fO aM ah)):Prop:=∀ (vP:List aA) (iY:aj) {fP:fO aM ah},cK vP iY=some fP→∀ {τ:List bJ} {Q:eT→List bJ→Prop} (h:Q (wX fP) τ),PC 126 [.list (List.map aA.cells vP),.agg (bA iY)] τ Q
theorem Qo (bM) (bY:qc bM) (dP) (nS:qd dP) (dN) (jF:rA dN) (dA) (mH:nU dA) (cK) (l9:nk cK) (s1:List aA) (e1:aj) {rX:fO aM ah} (hf:wN bM dP dN dA cK s1 e1=some rX) (h:Q (Bf rX) τ):PC 76 [.list (List.map aA.cells s1),.agg (bA e1)] τ Q:=by
 unfold wN at hf; refine BN 104 [.cell 4 31] [0,1] Tryz.func76 Z Z Z Z Z (W 1 Z (AS Z (AO.aF Z gq (fun b4=>(J 4 Z (C hf Z (fun h1 hf=>?_) fun h1 hf=>?_))))))
 · cases hf; exact Wx 3 [0] Z Z (ZC [0] Z Z h)
 refine V 2 Z (C hf Z (fun h2 hf=>?_) fun h2 hf=>?_)
 ·
  rcases bS hf with ⟨e2,h3,hf⟩ | ⟨x1,h3,hf⟩
  · refine W 3 Z (CL Z (I8 _ _ h3 ?_)); cases hf; exact ⟨Z,[],List.nil_sublist _,h⟩
  refine W 3 Z (CL Z (I8 _ _ h3 ?_)); cases hf; exact Rx 1 [0] Z Z (ZC [0] Z Z h)
 refine V 2 Z (C hf Z (fun h4 hf=>?_) fun h4 hf=>?_)
 ·
  refine B1 hf fun e3 h5 hf=>?_; rcases bS hf with ⟨e4,h6,hf⟩ | ⟨x2,h6,hf⟩
  ·
   refine V 0 Z (AW.agx 5 8 mixed (by kernel_rfl) Z Z ?_); refine Ev.cs aG 3 Z (Ev.cons Z Z Z (AO.aI h5 Z Z (aj.aB _) Z iT (aj.aD _) Z zg) (Ev.cs aG 1 Z (Ev.nil ?_))); refine ⟨_,_,Z,Z,Z,Z,AO.call Z _ Z Z Tx (bY _ _ h6 ?_),?_⟩
   · cases hf; exact ⟨Z,[],List.nil_sublist _,h⟩
   refine Ev.cs aG 2 Z (Ev.nil ?_); trivial
  refine V 0 Z (AW.draw 9 mixed (by kernel_rfl) Z ?_); refine Ev.cs aG 3 Z (Ev.cons Z Z Z (AO.aI h5 Z Z (aj.aB _) Z iT (aj.aD _) Z zg) (Ev.cs aG 1 Z (Ev.cons Z Z Z (AO.call Z _ Z Z Tx (bY _ _ h6 zg)) ?_))); refine Ev.cs aG 2 Z ?_; refine B1 hf fun x3 h7 hf=>Ev.cons Z Z Z (AO.call Z _ Z Z ajs (xZ _ h7 zg)) (Ev.nil ?_); show AR _ _ _ _ _ _ _ _
  rcases bS hf with ⟨e5,h8,hf⟩ | ⟨x4,h8,hf⟩
  · refine CL Z (FL _ _ h8 ?_); cases hf; exact ⟨Z,[],List.nil_sublist _,h⟩
  refine CL Z (FL _ _ h8 ?_); cases hf; exact Rx 1 [0] Z Z (ZC [0] Z Z h)
 refine V 2 Z (C hf Z (fun h9 hf=>?_) fun h9 hf=>?_)
 ·
  refine B1 hf fun e6 h10 hf=>W 3 Z (AS Z (AO.aI h10 Z Z (aj.aB _) Z iT (aj.aD _) Z ?_)); rcases bS hf with ⟨e7,h11,hf⟩ | ⟨x5,h11,hf⟩
  · refine U 1 Z (CL Z (bY _ _ h11 ?_)); cases hf; exact ⟨Z,[],List.nil_sublist _,h⟩
  refine U 1 Z (CL Z (bY _ _ h11 (AS Z (AO.aF Z gq (fun b5=>?_))))); refine B1 hf fun e8 h12 hf=>?_; rcases bS hf with ⟨e9,jJ,hf⟩ | ⟨x6,jJ,hf⟩
  ·
   refine Rw 1 [0] Z Z (AW.agx 6 7 mixed (by kernel_rfl) Z Z ?_); refine Ev.cons Z Z Z (AO.aY (i:=0) Z Z Z dF Z Z zg) (Ev.cs aG 3 Z (Ev.cons Z Z Z (AO.aI h12 Z Z (aj.aB _) Z iT (aj.aD _) Z zg) (Ev.cs aG 1 Z ?_))); refine Ev.nil (⟨_,_,Z,Z,Z,Z,AO.call Z _ Z Z Tx (bY _ _ jJ ?_),?_⟩)
   · cases hf; exact ⟨Z,[],List.nil_sublist _,h⟩
   refine Ev.nil ?_; trivial
  refine Rw 1 [0] Z Z (AW.draw 7 mixed (by kernel_rfl) Z ?_); refine Ev.cons Z Z Z (AO.aY (i:=0) Z Z Z dF Z Z zg) (Ev.cs aG 3 Z (Ev.cons Z Z Z (AO.aI h12 Z Z (aj.aB _) Z iT (aj.aD _) Z zg) (Ev.cs aG 1 Z ?_))); refine Ev.cons Z Z Z (AO.call Z _ Z Z Tx (bY _ _ jJ zg)) (Ev.nil ?_); show AR _ _ _ _ _ _ _ _
  rcases bS hf with ⟨e10,j5,hf⟩ | ⟨x7,j5,hf⟩
  · refine CL Z (NM _ _ j5 ?_); cases hf; exact ⟨Z,[],List.nil_sublist _,h⟩
  refine CL Z (NM _ _ j5 ?_); cases hf; exact Rx 1 [1] Z Z (ZC [1] Z Z h)
 refine V 2 Z (C hf Z (fun mo hf=>?_) fun mo hf=>?_)
 ·
  rcases bS hf with ⟨e11,h16,hf⟩ | ⟨x8,h16,hf⟩
  · refine W 2 Z (CL Z (nS _ _ h16 ?_)); cases hf; exact ⟨Z,[],List.nil_sublist _,h⟩
  refine W 2 Z (CL Z (nS _ _ h16 ?_)); cases hf; exact Rx 1 [0] Z Z (ZC [0] Z Z h)
 refine V 2 Z (C hf Z (fun qB hf=>?_) fun qB hf=>?_)
 ·
  refine B1 hf fun e12 h18 hf=>?_; rcases bS hf with ⟨e13,h19,hf⟩ | ⟨x9,h19,hf⟩
  ·
   refine V 0 Z (AW.agx 7 8 mixed (by kernel_rfl) Z Z ?_); refine Ev.cs aG 5 Z (Ev.cons Z Z Z (AO.aI h18 Z Z (aj.aB _) Z iT (aj.aD _) Z zg) (Ev.cs aG 1 Z (Ev.nil ?_))); refine ⟨_,_,Z,Z,Z,Z,AO.call Z _ Z Z Tx (bY _ _ h19 ?_),?_⟩
   · cases hf; exact ⟨Z,[],List.nil_sublist _,h⟩
   refine Ev.nil ?_; trivial
  refine V 0 Z (AW.draw 8 mixed (by kernel_rfl) Z ?_); refine Ev.cs aG 5 Z (Ev.cons Z Z Z (AO.aI h18 Z Z (aj.aB _) Z iT (aj.aD _) Z zg) (Ev.cs aG 1 Z (Ev.cons Z Z Z (AO.call Z _ Z Z Tx (bY _ _ h19 zg)) ?_))); refine Ev.nil ?_; show AR _ _ _ _ _ _ _ _
  rcases bS hf with ⟨e14,h20,hf⟩ | ⟨wS,h20,hf⟩
  · refine CL Z (Rz _ _ h20 ?_); cases hf; exact ⟨Z,[],List.nil_sublist _,h⟩
  refine CL Z (Rz _ _ h20 ?_); cases hf; exact Rx 1 [0] Z Z (ZC [0] Z Z h)
 refine V 2 Z (C hf Z (fun h21 hf=>?_) fun h21 hf=>?_)
 ·
  rcases bS hf with ⟨e15,h22,hf⟩ | ⟨H8,h22,hf⟩
  · refine W 2 Z (CL Z (mH _ _ h22 ?_)); cases hf; exact ⟨Z,[],List.nil_sublist _,h⟩
  refine W 2 Z (CL Z (mH _ _ h22 ?_)); cases hf; exact Rx 1 [0] Z Z (ZC [0] Z Z h)
 refine V 2 Z (C hf Z (fun h23 hf=>?_) fun h23 hf=>?_)
 ·
  refine B1 hf fun e16 wT hf=>W 3 Z (AS Z (AO.aI wT Z Z (aj.aB _) Z iT (aj.aD _) Z ?_)); rcases bS hf with ⟨e17,Cv,hf⟩ | ⟨LQ,Cv,hf⟩
  · refine U 1 Z (CL Z (bY _ _ Cv ?_)); cases hf; exact ⟨Z,[],List.nil_sublist _,h⟩
  refine U 1 Z (CL Z (bY _ _ Cv ?_)); rcases bS hf with ⟨e18,Ic,hf⟩ | ⟨Mg,Ic,hf⟩
  · refine CL Z (tK _ Ic ?_); cases hf; exact ⟨Z,[],List.nil_sublist _,h⟩
  refine CL Z (tK _ Ic (J 0 Z (C hf Z (fun h27 hf=>?_) fun h27 hf=>?_)))
  ·
   refine B1 hf fun e19 RQ hf=>W 3 Z (AS Z (AO.aI RQ Z Z (aj.aB _) Z iT (aj.aD _) Z ?_)); rcases bS hf with ⟨e20,Na,hf⟩ | ⟨RP,Na,hf⟩
   · refine U 1 Z (CL Z (bY _ _ Na ?_)); cases hf; exact ⟨Z,[],List.nil_sublist _,h⟩
   refine U 1 Z (CL Z (bY _ _ Na ?_)); cases hf; exact Rx 1 [0] Z Z (ZC [0] Z Z h)
  refine B1 hf fun e21 LY hf=>W 3 Z (AS Z (AO.aI LY Z Z (aj.aB _) Z iT (aj.aD _) Z ?_)); rcases bS hf with ⟨e22,h31,hf⟩ | ⟨RO,h31,hf⟩
  · refine U 1 Z (CL Z (bY _ _ h31 ?_)); cases hf; exact ⟨Z,[],List.nil_sublist _,h⟩
  refine U 1 Z (CL Z (bY _ _ h31 ?_)); cases hf; exact Rx 1 [0] Z Z (ZC [0] Z Z h)
 refine V 2 Z (C hf Z (fun h32 hf=>?_) fun h32 hf=>?_)
 ·
  rcases bS hf with ⟨e23,Js,hf⟩ | ⟨LP,Js,hf⟩
  · refine W 3 Z (CL Z (jF _ _ Js ?_)); cases hf; exact ⟨Z,[],List.nil_sublist _,h⟩
  refine W 3 Z (CL Z (jF _ _ Js ?_)); refine B1 hf fun XD XE hf=>CL Z (RA _ XE (AS Z (AO.aF Z gq (fun b6=>?_)))); refine B1 hf fun x18 PK hf=>Rr 2 [0,0] Z Z (CL Z (uh _ PK ?_)); rcases bS hf with ⟨e24,QZ,hf⟩ | ⟨_,QZ,hf⟩
  · refine U 1 Z (CL Z (bP _ _ QZ ?_)); cases hf; exact ⟨Z,[],List.nil_sublist _,h⟩
  refine U 1 Z (CL Z (bP _ _ QZ ?_)); cases hf; exact Rx 2 [0,1] Z Z (ZC [1] Z Z h)
 rcases bS hf with ⟨e25,h37,hf⟩ | ⟨x19,h37,hf⟩
 · refine W 2 Z (CL Z (l9 _ _ h37 ?_)); cases hf; exact ⟨Z,[],List.nil_sublist _,h⟩
 refine W 2 Z (CL Z (l9 _ _ h37 ?_)); cases hf; exact Rx 1 [0] Z Z (ZC [0] Z Z h)
theorem Qp (bM) (bY:qc bM) (dP) (nS:qd dP) (dN) (jF:rA dN) (dA) (mH:nU dA) (cK) (l9:nk cK) (s1:List aA) (e1:aj) {rX:fO aM ah} (hf:tq bM dP dN dA cK s1 e1=some rX) (h:Q (Bg rX) τ):PC 119 [.list (List.map aA.cells s1),.agg (bA e1)] τ Q:=by
 unfold tq at hf; refine BN 40 [.cell 4 31] [0,1] Tryz.func119 Z Z Z Z Z (W 1 Z (AS Z (AO.aF Z gq (fun b4=>?_)))); refine B1 hf fun n1 h1 hf=>U 2 Z (CL Z (abv _ h1 ?_)); rcases bS hf with ⟨e2,h2,hf⟩ | ⟨_,h2,hf⟩
 · refine U 3 Z (CL Z (bP _ _ h2 ?_)); cases hf; exact ⟨Z,[],List.nil_sublist _,h⟩
 refine U 3 Z (CL Z (bP _ _ h2 (U 2 Z (AS Z (AO.aP (l:=e1.args) Z Z Z Z iT Z (aj.aB _) ?_))))); rcases bS hf with ⟨e3,h3,hf⟩ | ⟨_,h3,hf⟩
 · refine U 2 Z (CL Z (bP _ _ h3 ?_)); cases hf; exact ⟨Z,[],List.nil_sublist _,h⟩
 refine U 2 Z (CL Z (bP _ _ h3 ?_)); rcases bS hf with ⟨e4,h4,hf⟩ | ⟨args1,h4,hf⟩
 · refine U 3 Z (CL Z (jF _ _ h4 ?_)); cases hf; exact ⟨Z,[],List.nil_sublist _,h⟩
 refine U 3 Z (CL Z (jF _ _ h4 (J 3 Z (C hf Z (fun h5 hf=>?_) fun h5 hf=>?_))))
 ·
  refine V 0 Z (AW.draw 5 mixed (by kernel_rfl) Z ?_); refine Ev.cs aG 3 Z ?_; refine B1 hf fun e5 h6 hf=>Ev.cons Z Z Z (AO.aI h6 Z Z (ah.aB _) Z dX (ah.aD _) Z zg) (Ev.cs aG 1 Z (Ev.nil ?_)); show AR _ _ _ _ _ _ _ _
  rcases bS hf with ⟨e6,h7,hf⟩ | ⟨x1,h7,hf⟩
  · refine CL Z (Xn _ _ h7 ?_); cases hf; exact ⟨Z,[],List.nil_sublist _,h⟩
  refine CL Z (Xn _ _ h7 ?_); cases hf; exact Rx 1 [0] Z Z (ZC [0] Z Z h)
 refine V 0 Z (AW.draw 8 mixed (by kernel_rfl) Z ?_); refine Ev.cs aG 3 Z ?_; refine B1 hf fun e7 h8 hf=>Ev.cons Z Z Z (AO.aI h8 Z Z (ah.aB _) Z dX (ah.aD _) Z zg) (Ev.cs aG 2 Z ?_); refine B1 hf fun e8 h9 hf=>Ev.cons Z Z Z (AO.aI h9 Z Z (ah.aB _) Z dX (ah.aD _) Z zg) (Ev.cs aG 1 Z (Ev.nil ?_)); show AR _ _ _ _ _ _ _ _
 rcases bS hf with ⟨e9,h10,hf⟩ | ⟨x2,h10,hf⟩
 · refine CL Z (Xl _ _ _ h10 ?_); cases hf; exact ⟨Z,[],List.nil_sublist _,h⟩
 refine CL Z (Xl _ _ _ h10 ?_); cases hf; exact Rx 1 [0] Z Z (ZC [0] Z Z h)
theorem RV (bM) (bY:qc bM) (dP) (nS:qd dP) (dN) (jF:rA dN) (dA) (mH:nU dA) (cK) (l9:nk cK) (s1:List aA) (l1:List aj) {rX:fO aM (List ah)} (hf:Dp bM dP dN dA cK s1 l1=some rX) (h:Q (CJ rX) τ):PC 124 [.list (List.map aA.cells s1),.list (aj.aU l1)] τ Q:=by
 unfold Dp at hf
 refine BN 22 [.tmp 4] [0,1] Tryz.func124 Z Z Z Z Z (W 0 Z (AS Z (AO.mh Z Z (U 2 Z (AS Z (AO.aP (l:=l1) Z Z Z Z iT Z (aj.aB _) (J 1 Z (AW.row 6 31 (ZU (fun bH v1 x1=>[(0,.list (List.map aA.cells s1)),(5,.own v1 (ah.aU bH)),(8,.list (aj.aU l1)),(9,iP (l1.length:Int)),(10,iP x1)]) (fun bH v1 x1=>[.row v1 (ah.aU bH).length 6 31]) (fun bT bH v1 x1=>pY bM s1 l1 bT bH x1=some rX) BIG [] (.slice none 0 0) 0 Z Z hf (fun _ _ _ hz=>bQ hz) ?_)))))))))
 intro bT bH v1 x1 hf; rw [pY] at hf; refine V 1 Z (C hf Z (fun h1 hf=>?_) fun h1 hf=>?_)
 ·
  refine B1 hf fun e1 h2 hf=>W 0 Z (AS Z (AO.aI h2 Z Z (aj.aB _) Z iT (aj.aD _) Z (U 1 Z (AS Z (AO.aF Z rC (fun b7=>?_)))))); rcases bS hf with ⟨e2,h3,hf⟩ | ⟨x2,h3,hf⟩
  · refine Rr 4 [0,0] Z Z (CL Z (bY _ _ h3 ?_)); cases hf; exact ⟨Z,[],List.nil_sublist _,h⟩
  refine Rr 4 [0,0] rfl rfl (CL rfl (bY _ _ h3 (AS rfl (AO.aS (ah.aU [x2]) rfl qM rfl rfl rfl (by first | rfl | simp only [List.map,ah.aD,ah.aU]) ?_)))); refine B1 hf fun yS h4 hf=>AS Z (AO.fK (i:=1) (l:=bH) (m:=[x2]) h4 Z Z Z Z Z Z Z qM dX (ah.aB _) (ah.aB _) (ah.aB _).symm (ah.dD) (ah.cells_one) (by decide) (fun v2 s2 hs2=>?_)); cases hs2; refine eG 3 Z (AR.drop1 ?_); exact N 0 Z ⟨yS,v2,(bZ (x1 + 1)),Z,Z,Z,hf⟩
 cases hf; exact M 2 Z (Y Z h)
theorem Oy (bM) (bY:qc bM) (dP) (nS:qd dP) (dN) (jF:rA dN) (dA) (mH:nU dA) (cK) (l9:nk cK) (s1:List aA) (e1:aj) {rX:fO aM ah} (hf:qz bM dP dN dA cK s1 e1=some rX) (h:Q (zx rX) τ):PC 121 [.list (List.map aA.cells s1),.agg (bA e1)] τ Q:=by
 unfold qz at hf; refine BN 95 [.cell 4 31] [0,1] Tryz.func121 Z Z Z Z Z (W 1 Z (AS Z (AO.aF Z gq (fun b4=>?_)))); refine B1 hf fun e2 h1 hf=>U 3 Z (AS Z (AO.aI h1 Z Z (aj.aB _) Z iT (aj.aD _) Z ?_)); rcases bS hf with ⟨e3,h2,hf⟩ | ⟨x1,h2,hf⟩
 · refine U 1 Z (CL Z (bY _ _ h2 ?_)); cases hf; exact ⟨Z,[],List.nil_sublist _,h⟩
 refine U 1 Z (CL Z (bY _ _ h2 (AS Z (AO.aF Z gq (fun b5=>(Rr 5 [0] Z Z (On 4 16 20 [0,3,4,5] (e1.name == ([124,124]:Str)) Z Z Z Z (J 0 Z (C hf Z (fun h4 hf=>?_) fun h4 hf=>?_)))))))))
 ·
  rcases bS hf with ⟨e4,h5,hf⟩ | ⟨x2,h5,hf⟩
  ·
   refine V 0 Z (AW.agx 1 5 mixed (by kernel_rfl) Z Z ?_); refine Ev.cons Z Z Z (AO.aY (i:=0) Z Z Z dF Z Z zg) (Ev.nil (⟨_,_,Z,Z,Z,Z,AO.call Z _ Z Z ajr (tK _ h5 ?_),?_⟩))
   · cases hf; exact ⟨Z,[],List.nil_sublist _,h⟩
   refine Ev.cs aG 3 Z (Ev.nil ?_); trivial
  refine V 0 Z (AW.draw 6 mixed (by kernel_rfl) Z ?_); refine Ev.cons Z Z Z (AO.aY (i:=0) Z Z Z dF Z Z zg) (Ev.cons Z Z Z (AO.call Z _ Z Z ajr (tK _ h5 zg)) (Ev.cs aG 3 Z (Ev.cons Z Z Z (AO.J_ Z XQ Z Z zg) ?_))); refine Ev.nil ?_; show AR _ _ _ _ _ _ _ _
  refine J 0 Z (C hf Z (fun h6 hf=>?_) fun h6 hf=>?_)
  · cases hf; exact Wx 2 [0,1] Z Z (ZC [1] Z Z h)
  refine B1 hf fun e5 h7 hf=>W 3 Z (AS Z (AO.aI h7 Z Z (aj.aB _) Z iT (aj.aD _) Z ?_)); rcases bS hf with ⟨e6,h8,hf⟩ | ⟨x3,h8,hf⟩
  · refine U 1 Z (CL Z (bY _ _ h8 ?_)); cases hf; exact ⟨Z,[],List.nil_sublist _,h⟩
  refine U 1 Z (CL Z (bY _ _ h8 ?_)); rcases bS hf with ⟨e7,h9,hf⟩ | ⟨x4,h9,hf⟩
  · refine CL Z (tK _ h9 ?_); cases hf; exact ⟨Z,[],List.nil_sublist _,h⟩
  refine CL Z (tK _ h9 ?_); refine B1 hf fun x5 h10 hf=>CL Z (lI _ h10 ?_); cases hf; exact Rx 1 [1] Z Z (ZC [1] Z Z h)
 refine B1 hf fun e8 h11 hf=>W 3 Z (AS Z (AO.aI h11 Z Z (aj.aB _) Z iT (aj.aD _) Z ?_)); rcases bS hf with ⟨e9,h12,hf⟩ | ⟨x6,h12,hf⟩
 · refine U 1 Z (CL Z (bY _ _ h12 ?_)); cases hf; exact ⟨Z,[],List.nil_sublist _,h⟩
 refine U 1 Z (CL Z (bY _ _ h12 (AS Z (AO.aF Z gq (fun b6=>(Rw 5 [0] Z Z (C hf Z (fun jJ hf=>?_) fun jJ hf=>?_)))))))
 · refine B1 hf fun x7 j5 hf=>Wr 2 [1,0] Z Z (CL Z (Jl _ _ j5 ?_)); refine B1 hf fun x8 mo hf=>CL Z (lI _ mo ?_); cases hf; exact Rx 1 [2] Z Z (ZC [2] Z Z h)
 refine V 2 Z (C hf Z (fun h16 hf=>?_) fun h16 hf=>?_)
 · refine B1 hf fun x9 qB hf=>Wr 2 [1,0] Z Z (CL Z (Jl _ _ qB ?_)); refine B1 hf fun wS h18 hf=>U 1 Z (CL Z (lI _ h18 ?_)); cases hf; exact Rx 1 [2] Z Z (ZC [2] Z Z h)
 refine V 2 Z (C hf Z (fun h19 hf=>?_) fun h19 hf=>?_)
 ·
  rcases bS hf with ⟨e10,h20,hf⟩ | ⟨H8,h20,hf⟩
  · refine Wr 2 [1,0] Z Z (CL Z (tL _ _ h20 ?_)); cases hf; exact ⟨Z,[],List.nil_sublist _,h⟩
  refine Wr 2 [1,0] Z Z (CL Z (tL _ _ h20 ?_)); refine B1 hf fun LQ h21 hf=>U 1 Z (CL Z (lI _ h21 ?_)); cases hf; exact Rx 1 [2] Z Z (ZC [2] Z Z h)
 refine V 2 Z (C hf Z (fun h22 hf=>?_) fun h22 hf=>?_)
 ·
  rcases bS hf with ⟨e11,h23,hf⟩ | ⟨Mg,h23,hf⟩
  · refine Wr 2 [1,0] Z Z (CL Z (tL _ _ h23 ?_)); cases hf; exact ⟨Z,[],List.nil_sublist _,h⟩
  refine Wr 2 [1,0] Z Z (CL Z (tL _ _ h23 ?_)); refine B1 hf fun RP wT hf=>U 1 Z (CL Z (lI _ wT ?_)); cases hf; exact Rx 1 [2] Z Z (ZC [2] Z Z h)
 refine V 2 Z (C hf Z (fun Cv hf=>?_) fun Cv hf=>?_)
 ·
  rcases bS hf with ⟨e12,Ic,hf⟩ | ⟨RO,Ic,hf⟩
  · refine Wr 2 [1,0] Z Z (CL Z (tL _ _ Ic ?_)); cases hf; exact ⟨Z,[],List.nil_sublist _,h⟩
  refine Wr 2 [1,0] Z Z (CL Z (tL _ _ Ic ?_)); refine B1 hf fun LP h27 hf=>U 1 Z (CL Z (lI _ h27 ?_)); cases hf; exact Rx 1 [2] Z Z (ZC [2] Z Z h)
 refine V 2 Z (C hf Z (fun RQ hf=>?_) fun RQ hf=>?_)
 ·
  rcases bS hf with ⟨e13,Na,hf⟩ | ⟨XD,Na,hf⟩
  · refine Wr 2 [1,0] Z Z (CL Z (tL _ _ Na ?_)); cases hf; exact ⟨Z,[],List.nil_sublist _,h⟩
  refine Wr 2 [1,0] Z Z (CL Z (tL _ _ Na ?_)); refine B1 hf fun x18 LY hf=>U 1 Z (CL Z (lI _ LY ?_)); cases hf; exact Rx 1 [2] Z Z (ZC [2] Z Z h)
 refine V 2 Z (C hf Z (fun h31 hf=>?_) fun h31 hf=>?_)
 ·
  rcases bS hf with ⟨e14,h32,hf⟩ | ⟨x19,h32,hf⟩
  · refine Wr 2 [1,0] Z Z (CL Z (Xm _ _ h32 ?_)); cases hf; exact ⟨Z,[],List.nil_sublist _,h⟩
  refine Wr 2 [1,0] Z Z (CL Z (Xm _ _ h32 ?_)); cases hf; exact Rx 1 [2] Z Z (ZC [2] Z Z h)
 rcases bS hf with ⟨e15,Js,hf⟩ | ⟨x20,Js,hf⟩
 · refine Wr 4 [1,0] Z Z (CL Z (Ja _ _ _ Js ?_)); cases hf; exact ⟨Z,[],List.nil_sublist _,h⟩
 refine Wr 4 [1,0] Z Z (CL Z (Ja _ _ _ Js ?_)); cases hf; exact Rx 1 [2] Z Z (ZC [2] Z Z h)
theorem Ml (bM) (bY:qc bM) (dP) (nS:qd dP) (dN) (jF:rA dN) (dA) (mH:nU dA) (cK) (l9:nk cK) (s1:List aA) (e1:aj) {rX:fO aM ah} (hf:pV bM dP dN dA cK s1 e1=some rX) (h:Q (wX rX) τ):PC 126 [.list (List.map aA.cells s1),.agg (bA e1)] τ Q:=by
 unfold pV at hf; refine BN 41 [.cell 4 31] [0,1] Tryz.func126 Z Z Z Z Z (W 1 Z (AS Z (AO.aF Z gq (fun b4=>?_)))); rcases bS hf with ⟨e2,h1,hf⟩ | ⟨x1,h1,hf⟩
 · refine U 4 Z (CL Z (jF _ _ h1 ?_)); cases hf; exact ⟨Z,[],List.nil_sublist _,h⟩
 refine U 4 Z (CL Z (jF _ _ h1 (AS Z (AO.aP (l:=x1) Z Z Z Z dX Z (ah.aB _) ?_))))
 refine J 1 Z (AW.row 7 51 (ZU (fun bG v1 i1=>[(3,.ref (bA e1)),(4,pP b4),(5,.own v1 (List.map aA.cells bG)),(13,.list (ah.aU x1)),(14,iP (x1.length:Int)),(15,iP i1)]) (fun bG v1 i1=>[.row v1 (List.map aA.cells bG).length 7 51,.box b4 [iP 0,.bool false,iP 0,.str ([]:Str),.own (.slice none 0 0) [],.own (.slice none 0 0) []]]) (fun bT bG v1 i1=>oD e1 x1 bT bG i1=some rX) BIG [] (.slice none 0 0) 0 Z Z hf (fun _ _ _ hz=>bQ hz) ?_)); intro bT bG v1 i1 hf; rw [oD] at hf
 refine V 1 Z (C hf Z (fun h2 hf=>?_) fun h2 hf=>?_)
 ·
  refine B1 hf fun e3 h3 hf=>W 1 Z (AS Z (AO.aI h3 Z Z (ah.aB _) Z dX (ah.aD _) Z (U 1 Z (AS Z (AO.aF Z gq (fun b7=>(Rw 2 [0] Z Z (AW.draw 9 mixed (by kernel_rfl) Z ?_)))))))); refine Ev.cs aG 4 Z ?_; refine B1 hf fun e4 h4 hf=>Ev.cons Z Z Z (AO.aI h4 Z Z Z Z f_ Z Z zg) (Ev.cs aG 1 Z (Ev.cons Z Z Z (AO.aY (i:=0) Z Z Z dF Z Z zg) (Ev.cons Z Z Z (AO.build Z OH aeo Z zg) ?_)))
  refine Ev.cons rfl rfl rfl (AO.aS (List.map aA.cells [(aA.mk e4 e3)]) rfl zK rfl rfl rfl (by first | rfl | simp only [List.map,aA.aD]) ⟨rfl,rfl⟩) ?_; refine Ev.nil ?_; show AR _ _ _ _ _ _ _ _
  refine B1 hf fun Gl h5 hf=>AS Z (AO.fK (i:=1) (l:=bG) (m:=[(aA.mk e4 e3)]) h5 Z Z Z Z Z Z Z zK jN Z Z Z (aA.dD) (aA.cells_one) (by decide) (fun v2 s2 hs2=>?_)); cases hs2; refine eG 3 Z (AR.drop1 ?_); exact N 0 Z ⟨Gl,v2,(bZ (i1 + 1)),Z,Z,Z,hf⟩
 obtain ⟨x2,IZ,h6,hf⟩:=aV hf; refine W 1 Z (CL Z (adv _ h6 (U 3 Z (AS Z (AO.aF Z gq (fun b8=>?_)))))); rcases bS hf with ⟨e5,h7,hf⟩ | ⟨_,h7,hf⟩
 · refine Rr 5 [0] Z Z (CL Z (bP _ _ h7 ?_)); cases hf; exact ⟨Z,[],List.nil_sublist _,h⟩
 refine Rr 5 [0] Z Z (CL Z (bP _ _ h7 ?_)); cases hf; exact Rx 2 [0,2] Z Z (ZC [2] Z Z h)
theorem sV :∀ k:Nat,(qc (dU k))∧(qd (fQ k))∧(rA (gG k))∧(nU (fB k))∧(nk (eO k)):=by
 intro k
 induction k with
 | zero=>exact ⟨fun _ _ _ hz=>by first | cases hz | (unfold dU at hz; cases hz),fun _ _ _ hz=>by first | cases hz | (unfold fQ at hz; cases hz),fun _ _ _ hz=>by first | cases hz | (unfold gG at hz; cases hz),fun _ _ _ hz=>by first | cases hz | (unfold fB at hz; cases hz),fun _ _ _ hz=>by first | cases hz | (unfold eO at hz; cases hz)⟩
 | succ k ih=>exact ⟨fun vP iY fP hz τ Q hq=>Qo (dU k) ih.1 (fQ k) ih.2.1 (gG k) ih.2.2.1 (fB k) ih.2.2.2.1 (eO k) ih.2.2.2.2 vP iY hz hq,fun vP iY fP hz τ Q hq=>Qp (dU k) ih.1 (fQ k) ih.2.1 (gG k) ih.2.2.1 (fB k) ih.2.2.2.1 (eO k) ih.2.2.2.2 vP iY hz hq,fun vP Uh fP hz τ Q hq=>RV (dU k) ih.1 (fQ k) ih.2.1 (gG k) ih.2.2.1 (fB k) ih.2.2.2.1 (eO k) ih.2.2.2.2 vP Uh hz hq,fun vP iY fP hz τ Q hq=>Oy (dU k) ih.1 (fQ k) ih.2.1 (gG k) ih.2.2.1 (fB k) ih.2.2.2.1 (eO k) ih.2.2.2.2 vP iY hz hq,fun vP iY fP hz τ Q hq=>Ml (dU k) ih.1 (fQ k) ih.2.1 (gG k) ih.2.2.1 (fB k) ih.2.2.2.1 (eO k) ih.2.2.2.2 vP iY hz hq⟩
theorem I9 (vP:List aA) (iY:aj) {fP:fO aM ah} (hf:EW vP iY=some fP) (h:Q (Bf fP) τ):PC 76 [.list (List.map aA.cells vP),.agg (bA iY)] τ Q:=
 ((sV BIG).1) vP iY hf h
theorem agD (vP:List aA) (iY:aj) {fP:fO aM ah} (hf:Ur vP iY=some fP) (h:Q (Bg fP) τ):PC 119 [.list (List.map aA.cells vP),.agg (bA iY)] τ Q:=
 ((sV BIG).2.1) vP iY hf h
theorem ahX (vP:List aA) (Uh:List aj) {fP:fO aM (List ah)} (hf:Wt vP Uh=some fP) (h:Q (CJ fP) τ):PC 124 [.list (List.map aA.cells vP),.list (aj.aU Uh)] τ Q:=
 ((sV BIG).2.2.1) vP Uh hf h
theorem ad3 (vP:List aA) (iY:aj) {fP:fO aM ah} (hf:Ri vP iY=some fP) (h:Q (zx fP) τ):PC 121 [.list (List.map aA.cells vP),.agg (bA iY)] τ Q:=
 ((sV BIG).2.2.2.1) vP iY hf h
theorem adO (vP:List aA) (iY:aj) {fP:fO aM ah} (hf:PU vP iY=some fP) (h:Q (wX fP) τ):PC 126 [.list (List.map aA.cells vP),.agg (bA iY)] τ Q:=
 ((sV BIG).2.2.2.2) vP iY hf h
end

section
variable [FR]
theorem SY (s1:List aA) (e1:aj) {r0:ah} {r1:Int} (hf:Cj s1 e1=some (r0,r1)) (h:Q (.ret (.tuple [.agg (aK r0),iP r1])) τ):PC 51 [.list (List.map aA.cells s1),.agg (bA e1)] τ Q:=by
 unfold Cj at hf; refine AC.none (AC.Tz 10 [.cell 4 31,.cell 5 36] [0,1] [0,1] Tryz.func51 Z Z Z Z Z Tryz.func75 Z Z Z Z Z Z Z apL (AW.sr (AR.step Z Z Z (AO.Ot Z Z Z ?_)))); refine AR.step Z Z Z (AO.aF Z gq (fun b4=>(AR.step Z Z Z (AO.aF Z aib (fun b5=>(AR.nil [0,3,4,5] Z (AW.sr ?_))))))); refine cs 1 Z (AR.defer (vs:=[.pointer (some ⟨b4,0,none⟩),.pointer (some ⟨b5,0,none⟩)]) Z Z Z Z Z Z (AR.nil [0,3,4,5] Z (AW.sr ?_))); refine cs 2 Z ?_
 rcases bS hf with ⟨f1,h1,hf⟩ | ⟨v1,h1,hf⟩
 ·
  refine AR.step Z Z Z (AO.call Z _ Z Z Tx (I9 _ _ h1 ?_)); cases hf; refine ⟨[.pointer (some ⟨b4,0,none⟩),.pointer (some ⟨b5,0,none⟩)],_,Z,Z,Z,(AR.step Z Z Z (AO.afS Z Z alf (cs 3 Z (AR.step Z Z Z (AO.aF Z aii (fun b6=>?_))))))⟩; refine AR.dh Z Z (AO.dW (i:=0) Z Z Z aiF Z Z Z Z Z (cs 1 Z (AR.nil [0,1,2,3] Z (AW.sr ?_)))); refine cs 1 Z (AR.nil [0,1,2,9] Z (AW.cond Z (fun _=>?_) (fun hh=>by cases hh)))
  refine AW.WC 1 3 4 [_] [_,_] mixed (by kernel_rfl) (by kernel_rfl) (by kernel_rfl) Z Z Z (List.Perm.refl _) ?_; refine Ev.cons Z Z Z (AO.build Z gq aep Z zg) (Ev.nil ?_); show Ev _ _ _ _ _ _ _
  refine Ev.cs aG 1 Z (Ev.cons Z Z Z (AO.aY (i:=0) Z Z Z Io Z Z zg) (Ev.nil (TF.dh Z Z (AO.dW (i:=1) Z Z Z dF Z Z Z Z Z ?_)))); refine TF.nil ?_; show AR _ _ _ _ _ _ _ _
  refine AR.dh Z Z (AO.dW (i:=1) Z Z Z Io Z Z Z Z Z (AR.nil [] Z ?_)); exact ⟨rfl,_,⟨_,_,rfl,⟨_,_,2,_,_,rfl,rfl,dF,rfl⟩,⟨_,_,rfl,⟨_,_,1,_,_,rfl,rfl,Io,rfl⟩,rfl⟩⟩,[],List.nil_sublist _,h⟩
 refine AR.step Z Z Z (AO.call Z _ Z Z Tx (I9 _ _ h1 ?_)); cases hf; refine AR.dh Z Z (AO.dW (i:=1) Z Z Z dF Z Z Z Z Z (AR.dh Z Z (AO.dW (i:=0) Z Z Z Io Z Z Z Z Z (AR.nil [4,5] Z (AW.ret ?_))))); refine ⟨[.pointer (some ⟨b4,0,none⟩),.pointer (some ⟨b5,0,none⟩)],_,Z,Z,Z,(AR.step Z Z Z (AO.ab0 (p:=.agg [iP 0]) Z Z alh (fun _ _=>by simp only [eZ]; exact ⟨[.int .i64 0],Z,bN.cons (by simp [eZ]) bN.nil⟩) ?_))⟩
 refine cs 3 Z (AR.step Z Z Z (AO.aF Z aii (fun b6=>(AR.dh Z Z (AO.dW (i:=0) Z Z Z aiF Z Z Z Z Z (cs 1 Z ?_)))))); refine AR.nil [3] Z (AW.sr (cs 1 Z (AR.nil [9] Z ?_))); refine AW.cond Z (fun hh=>by cases hh) (fun _=>?_); refine AW.skip ?_; exact ⟨rfl,_,⟨_,_,rfl,⟨_,_,2,_,_,rfl,rfl,dF,rfl⟩,⟨_,_,rfl,⟨_,_,1,_,_,rfl,rfl,Io,rfl⟩,rfl⟩⟩,[],List.nil_sublist _,h⟩
end


abbrev RN (nH:ah→Option ah):Prop:=∀ (qg:ah) {aR:ah},nH qg=some aR→∀ {τ:List bJ} {Q:eT→List bJ→Prop} (h:Q (.ret (.agg (aK aR))) τ),PC 52 [.agg (aK qg)] τ Q
theorem aac (nH) (Wm:RN nH) (v1:ah) {r0:ah} (hf:Fz nH v1=some r0) (h:Q (.ret (.agg (aK r0))) τ):PC 52 [.agg (aK v1)] τ Q:=by
 unfold Fz at hf; refine BN 31 [.cell 2 31] [0] Tryz.func52 Z Z Z Z Z (W 1 Z (AS Z (AO.aF Z gq (fun b2=>(U 1 Z (AS Z (AO.aF Z gq (fun b3=>(Rr 7 [0,0,0] Z Z (AS Z (AO.aP (l:=v1.aO) Z Z Z Z dX Z (ah.aB _) ?_)))))))))))
 refine J 1 Z (AW.row 6 31 (AW.row 1 9 (LK4 (fun x1 bH v2 v3=>[(1,.ref (aK v1)),(2,pP b2),(3,pP b3),(10,.list (ah.aU v1.aO)),(11,iP (v1.aO.length:Int)),(12,iP x1)]) (fun x1 bH v2 v3=>[.row v3 (List.map qC bH.keys).length 1 9,.row v2 (ah.aU bH.aO).length 6 31,.box b3 [iP bH.kind,.bool bH.dO,iP bH.dI,.str bH.bR,.own v2 (ah.aU bH.aO),.own v3 (List.map qC bH.keys)],.box b2 [iP 0,.bool false,iP 0,.str ([]:Str),.own (.slice none 0 0) [],.own (.slice none 0 0) []]]) (fun bT x1 bH v2 v3=>zX nH v1 bT x1 bH=some r0) BIG 0 (ah.mk v1.kind v1.dO v1.dI v1.bR [] []) (.slice none 0 0) (.slice none 0 0) Z Z hf (fun _ _ _ _ hz=>bQ hz) ?_)))
 intro bT x1 bH v2 v3 hf; rw [zX] at hf; refine V 1 Z (C hf Z (fun h1 hf=>?_) fun h1 hf=>?_)
 ·
  refine B1 hf fun e1 h2 hf=>W 0 Z (AS Z (AO.aI h2 Z Z (ah.aB _) Z dX (ah.aD _) Z (U 1 Z (AS Z (AO.aF Z gq (fun b5=>(Rw 1 [0] Z Z (AW.draw 5 mixed (by kernel_rfl) Z ?_)))))))); refine Ev.cs aG 1 Z (Ev.cons Z Z Z (AO.aY (i:=3) Z Z Z Jy Z Z zg) (Ev.cons Z Z Z (AO.aY (i:=0) Z Z Z dF Z Z zg) ?_)); refine B1 hf fun x2 h3 hf=>Ev.cons rfl rfl rfl (AO.call rfl _ rfl rfl apO (Wm _ h3 ⟨rfl,rfl⟩)) (Ev.cons rfl rfl rfl (AO.aS (ah.aU [x2]) rfl qM rfl rfl rfl (by first | rfl | simp only [List.map,ah.aD,ah.aU]) ⟨rfl,rfl⟩) ?_)
  refine Ev.nil ?_; show AR _ _ _ _ _ _ _ _
  refine B1 hf fun x3 h4 hf=>AS Z (AO.fK (i:=2) (l:=bH.aO) (m:=[x2]) h4 Z Z Z Z Z Z Z qM dX (ah.aB _) (ah.aB _) (ah.aB _).symm (ah.dD) (ah.cells_one) (by decide) (fun v4 s1 hs1=>?_)); cases hs1; refine Rn 4 [3] Z Z (AR.drop1 ?_); exact N 0 Z ⟨(bZ (x1 + 1)),(ah.mk bH.kind bH.dO bH.dI bH.bR x3 bH.keys),v4,v3,Z,Z,Z,hf⟩
 refine B1 hf fun x4 h5 hf=>Wr 4 [2] Z Z (AS Z (AO.fK (i:=0) (l:=bH.keys) (m:=v1.keys) h5 Z Z Z Z Z Z Z u6 f_ Z Z Z (fun _=>Z) (fun _=>Z) (by decide) (fun v5 s2 hs2=>?_))); cases hs2; cases hf; exact Rx 4 [2,2,3] Z Z (ZC [3] Z Z h)
theorem aaH :∀ k:Nat,(RN (o_ k)):=by
 intro k
 induction k with
 | zero=>exact fun _ _ hz=>by first | cases hz | (unfold o_ at hz; cases hz)
 | succ k ih=>exact fun qg aR hz τ Q hq=>aac (o_ k) ih qg hz hq
theorem abw (qg:ah) {aR:ah} (hf:Ap qg=some aR) (h:Q (.ret (.agg (aK aR))) τ):PC 52 [.agg (aK qg)] τ Q:=
 ((aaH BIG)) qg hf h

section
variable [FR]
theorem adP (e1:aj) (cB:List aA) {r0:ah} {r1:Int} (hf:Ba e1 cB=some (r0,r1)) (h:Q (.ret (.tuple [.agg (aK r0),iP r1])) τ):PC 34 [.agg (bA e1),.list (List.map aA.cells cB)] τ Q:=by
 unfold Ba at hf; refine BN 28 [.cell 4 31,.tmp 5] [0,1] Tryz.func34 Z Z Z Z Z (W 1 Z (AS Z (AO.aF Z gq (fun b4=>?_)))); obtain ⟨s1,f1,h1,hf⟩:=aV hf; refine U 3 Z (CL Z (YA _ _ h1 (J 7 Z (C hf Z (fun h2 hf=>?_) fun h2 hf=>?_))))
 · cases hf; exact Wx 4 [0] Z Z (ZC [0] Z Z h)
 obtain ⟨x1,f2,h3,hf⟩:=aV hf; refine W 2 Z (CL Z (SY _ _ h3 (U 3 Z (AS Z (AO.aF Z gq (fun b8=>?_)))))); refine B1 hf fun x2 h4 hf=>Rr 3 [0,0] Z Z (CL Z (abw _ h4 ?_)); cases hf; exact Rx 3 [1] Z Z (ZC [1] Z Z h)
end

section
variable [FR]
theorem qY (fD:aj) (bC:List Int) (bG:List aA) {r0:Bool} {r1:Int} (hf:jO fD bC bG=some (r0,r1)) (h:Q (.ret (.tuple [.bool r0,iP r1])) τ):PC 14 [.agg (bA fD),.list (List.map vT bC),.list (List.map aA.cells bG)] τ Q:=by
 unfold jO at hf; refine BN 28 [.tmp 6,.tmp 7] [0,1,2] Tryz.func14 Z Z Z Z Z (V 3 Z (AW.WC 0 8 10 [] [] mixed (by kernel_rfl) (by kernel_rfl) (by kernel_rfl) Z Z Z (List.Perm.refl _) ?_)); refine Ev.nil ?_; show Ev _ _ _ _ _ _ _
 refine Ev.cs aG 3 Z ?_; refine B1 hf fun x1 h1 hf=>Ev.cons Z Z Z (AO.call Z _ Z Z amO (E8 _ _ h1 zg)) ?_; obtain ⟨x2,e1,h2,hf⟩:=aV hf; refine Ev.cons Z Z Z (AO.call Z _ Z Z apX (adP _ _ h2 zg)) (Ev.cs aG 3 Z (Ev.nil (TF.step Z Z Z (AO.aF Z gq (fun b8=>?_))))); refine TF.dh Z Z (AO.dW (i:=0) Z Z Z dF Z Z Z Z Z (TF.nil ?_)); show AR _ _ _ _ _ _ _ _
 refine J 4 Z (C hf Z (fun h3 hf=>?_) fun h3 hf=>?_)
 · cases hf; exact M 3 Z (Y Z h)
 refine Ww 4 [0] Z Z (C hf Z (fun h4 hf=>?_) fun h4 hf=>?_)
 · cases hf; exact M 2 Z (Y Z h)
 cases hf; exact Wx 4 [0] Z Z (Y Z h)
end

section
variable [FR]
theorem zo (gM:Str) (bC:List Int) {r0:Bool} {r1:Int} (hf:mW gM bC=some (r0,r1)) (h:Q (.ret (.tuple [.bool r0,iP r1])) τ):PC 19 [.str gM,.list (List.map vT bC)] τ Q:=by
 unfold mW at hf; refine BN 23 [.tmp 4,.tmp 5] [0,1] Tryz.func19 Z Z Z Z Z ?_; obtain ⟨x1,x2,f1,h1,hf⟩:=wz hf; refine W 3 Z (CL Z (NG _ h1 (U 4 Z (AS Z (AO.aF Z rC (fun b6=>(Rw 5 [0] Z Z (C hf Z (fun h2 hf=>?_) fun h2 hf=>?_))))))))
 · cases hf; exact M 3 Z (Y Z h)
 replace hf:=(eH _).trans hf; obtain ⟨x3,x4,h3,hf⟩:=aV hf; refine Wr 2 [0] Z Z (CL Z (qY _ _ _ h3 ?_)); cases hf; exact N 4 Z (Y Z h)
end

theorem uD {r0:aj} (hf:nO=some r0) (h:Q (.ret (.agg (bA r0))) τ):PC 18 [] τ Q:=by
 unfold nO at hf; refine BN 2 [.cell 0 34] [] Tryz.func18 Z Z Z Z Z (W 0 Z (AS Z (AO.aF Z rC (fun b0=>?_)))); cases hf; exact Rx 2 [0] Z Z (ZC [0] Z Z h)

theorem Yi (fE:Int) {r0:Str} (hf:Av fE=some r0) (h:Q (.ret (.str r0)) τ):PC 137 [iP fE] τ Q:=by
 unfold Av at hf; refine BN 14 [.tmp 2] [0] Tryz.func137 Z Z Z Z Z (W 1 Z (AS Z (AO.Ta Z aie akC Z (AS Z (AO.aF Z aie (fun b3=>(Rr 4 [0] Z Z (On 3 7 10 [0,3] (decide (8≤fE)) Z Z Z Z ?_)))))))); refine J 0 Z (C hf Z (fun h2 hf=>?_) fun h2 hf=>?_)
 · cases hf; exact M 1 Z (Y Z h)
 refine BR hf fun e1 h3 hf=>?_; refine W 1 Z (AS Z (AO.Wd h3 Z akC Z Z Z (AS Z (AO.ahp (i:=0) (fun z:Str=>.str z) h3 Z Z Z abZ Z ?_)))); cases hf; exact N 1 Z (Y Z h)

theorem vV (fE:Int) {r0:Bool} (hf:jS fE=some r0) (h:Q (.ret (.bool r0)) τ):PC 138 [iP fE] τ Q:=by
 unfold jS at hf; refine BN 9 [.tmp 2] [0] Tryz.func138 Z Z Z Z Z (W 4 Z (On 3 5 8 [] (fE == 6) Z Z Z Z ?_)); cases hf; exact N 1 Z (Y Z h)

theorem Cq (t1:ak) {r0:Int} (hf:lW t1=some r0) (h:Q (.ret (iP r0)) τ):PC 81 [.agg (aW t1)] τ Q:=by
 unfold lW at hf; refine BN 43 [.tmp 2] [0] Tryz.func81 Z Z Z Z Z (W 0 Z (AS Z (AO.abA Z Z (fun b1=>(J 2 Z (Xy (fun bV t2=>[(1,pP b1),(3,iP bV)]) (fun bV t2=>[.box b1 (aW t2)]) (fun bT bV t2=>mQ bT bV t2=some r0) BIG 1 t1 Z Z hf (fun _ _ hz=>bQ hz) ?_)))))); intro bT bV t2 hf; rw [mQ] at hf; refine V 2 Z (C hf Z (fun h1 hf=>?_) fun h1 hf=>?_)
 · cases hf; exact M 1 Z (Y Z h)
 refine B1 hf fun x1 h2 hf=>Wr 2 [0] Z Z (CL Z (Yi _ h2 ?_)); refine B1 hf fun b1 h4 hf=>U 2 Z (AR.dB 10 12 22 false [1,3] b1 Z Z (fun h3=>?_) (fun h3=>?_) ?_)
 ·
  replace h4:=cZ h3 h4; refine Is 12 h3 Z (U 1 Z (GO Z (AO.aY (i:=0) Z Z Z EP Z Z ?_))); refine B1 h4 fun x2 h5 h4=>GO Z (AO.call Z _ Z Z ajo (vV _ h5 (U 1 Z (AR.and 5 16 21 [1,3,12] (x:=((t2.elem.length:Int) != 1)) Z Z (fun h6=>?_) (fun h6=>?_) ?_))))
  · refine Is 16 h6 Z (U 1 Z (GO Z (AO.aY (i:=0) Z Z Z amC Z Z (GO Z (AO.aP (l:=t2.elem) Z Z Z Z fZ Z (ak.aB _) ?_))))); exact eG 2 Z (En [21,1,3,12] Z)
  · refine Is 16 h6 Z ?_; exact eG 5 Z (En [21,1,3,12] Z)
  cases h4; exact eG 1 Z (En [22,1,3] Z)
 · refine IT 12 h3 h4 Z fun h4=>?_; cases h4; exact eG 10 Z (En [22,1,3] Z)
 refine B1 hf fun b2 h8 hf=>U 1 Z (AR.dB 11 23 34 false [1,3] b2 Z Z (fun h7=>?_) (fun h7=>?_) ?_)
 ·
  replace h8:=cZ h7 h8; refine Is 23 h7 Z (U 1 Z (GO Z (AO.aY (i:=0) Z Z Z EP Z Z ?_))); refine B1 h8 fun x3 h9 h8=>GO Z (AO.call Z _ Z Z ajo (vV _ h9 (U 2 Z (AR.and 5 28 33 [1,3,23] (x:=((t2.elem.length:Int) != 0)) Z Z (fun h10=>?_) (fun h10=>?_) ?_))))
  · refine Is 28 h10 Z (U 1 Z (GO Z (AO.aY (i:=0) Z Z Z amC Z Z (GO Z (AO.aP (l:=t2.elem) Z Z Z Z fZ Z (ak.aB _) ?_))))); exact eG 2 Z (En [33,1,3,23] Z)
  · refine Is 28 h10 Z ?_; exact eG 5 Z (En [33,1,3,23] Z)
  cases h8; exact eG 1 Z (En [34,1,3] Z)
 · refine IT 23 h7 h8 Z fun h8=>?_; cases h8; exact eG 11 Z (En [34,1,3] Z)
 refine J 0 Z (C hf Z (fun h11 hf=>?_) fun h11 hf=>?_)
 · cases hf; exact M 1 Z (Y Z h)
 refine B1 hf fun x4 h12 hf=>Wr 2 [0] Z Z (CL Z (vV _ h12 (J 1 Z (C hf Z (fun jJ hf=>?_) fun jJ hf=>?_))))
 · cases hf; exact M 1 Z (Y Z h)
 refine B1 hf fun e1 j5 hf=>Wr 2 [0] Z Z (AS Z (AO.aI j5 Z Z (ak.aB _) Z fZ (ak.aD _) Z ?_)); exact Rx 5 [0] Z Z ⟨(bZ (bV + 1)),e1,Z,Z,Z,hf⟩

theorem adR (cB:List aH) {r0:Int} (hf:J6 cB=some r0) (h:Q (.ret (iP r0)) τ):PC 55 [.list (List.map aH.cells cB)] τ Q:=by
 unfold J6 at hf; refine BN 39 [.tmp 2] [0] Tryz.func55 Z Z Z Z Z (W 2 Z (AS Z (AO.aP (l:=cB) Z Z Z Z Bb Z Z (J 1 Z (C hf Z (fun h1 hf=>?_) fun h1 hf=>?_)))))
 · cases hf; exact M 1 Z (Y Z h)
 refine W 0 Z (AS Z (AO.VY Z (fun m10=>(U 2 Z (AS Z (AO.aP (l:=cB) Z Z Z Z Bb Z Z (J 1 Z (Xy (fun x1 y1=>[(3,.val (.map (some m10))),(11,.list (List.map aH.cells cB)),(12,iP (cB.length:Int)),(13,iP x1)]) (fun x1 y1=>[.obj m10 (zC y1)]) (fun bT x1 y1=>Co cB bT x1 y1=some r0) BIG 0 [] Z Z hf (fun _ _ hz=>bQ hz) ?_)))))))); intro bT x1 y1 hf; rw [Co] at hf; refine V 1 Z (C hf Z (fun h2 hf=>?_) fun h2 hf=>?_)
 ·
  refine B1 hf fun e1 h3 hf=>W 0 Z (AS Z (AO.aI h3 Z Z Z Z Bb (aH.aD _) Z (U 1 Z (AS Z (AO.aF Z afF (fun b5=>?_)))))); refine B1 hf fun x2 h4 hf=>Rr 4 [0,0] Z Z (CL Z (xY _ h4 (J 1 Z (C hf Z (fun h5 hf=>?_) fun h5 hf=>?_))))
  · cases hf; exact M 1 Z (Y Z h)
  refine B1 hf fun e2 h6 hf=>Wr 2 [0] Z Z (CL Z (Cq _ h6 (J 3 Z (C hf Z (fun h7 hf=>?_) fun h7 hf=>?_))))
  · cases hf; exact M 2 Z (Y Z h)
  refine Wr 3 [0] Z Z (AS Z (AO.Oi (i:=1) (l:=y1) Z Z Z Z KJ dM agO (U 1 Z (AR.dh Z Z (AO.Pw (i:=1) (l:=y1) Z Z Z Z Z KJ dM (Rr 3 [0] Z Z (AS Z (AO.Oi (i:=1) (l:=(uX y1 e1.name (bZ ((qp y1 e1.name) + 1)))) Z Z Z Z KJ dM agO (J 1 Z (C hf Z (fun h8 hf=>?_) fun h8 hf=>?_))))))))))
  · cases hf; exact M 1 Z (Y Z h)
  refine Wn0 2 Z (AR.drop1 ?_); exact N 0 Z ⟨(bZ (x1 + 1)),(uX y1 e1.name (bZ ((qp y1 e1.name) + 1))),Z,Z,Z,hf⟩
 cases hf; exact M 1 Z (Y Z h)

theorem gH (fE:Int) {r0:ak} (hf:gB fE=some r0) (h:Q (.ret (.agg (aW r0))) τ):PC 59 [iP fE] τ Q:=by
 unfold gB at hf; refine BN 5 [.cell 2 54] [0] Tryz.func59 Z Z Z Z Z (W 0 Z (AS Z (AO.aF Z jk (fun b2=>?_)))); cases hf; exact Rx 3 [0] Z Z (ZC [0] Z Z h)

theorem yg (fE:Int) (kg:ak) {r0:ak} (hf:nQ fE kg=some r0) (h:Q (.ret (.agg (aW r0))) τ):PC 147 [iP fE,.agg (aW kg)] τ Q:=by
 unfold nQ at hf; refine BN 9 [.cell 4 54] [0,1] Tryz.func147 rfl rfl rfl rfl rfl (W 1 rfl (AS rfl (AO.aF rfl jk (fun b4=>(U 2 rfl (AS rfl (AO.aS (ak.aU [kg]) rfl uZ rfl rfl rfl (by first | rfl | simp only [List.map,ak.aD,ak.aU]) ?_))))))); cases hf; exact Rx 2 [0] Z Z (ZC [0] Z Z h)

theorem Qf (name1:Str) {r0:List (List ak)} {r1:ak} (hf:kJ name1=some (r0,r1)) (h:Q (.ret (.tuple [.list (List.map ak.uz r0),.agg (aW r1)])) τ):PC 140 [.str name1] τ Q:=by
 unfold kJ at hf; refine BN 106 [.tmp 2,.cell 3 54] [0] Tryz.func140 Z Z Z Z Z (W 0 Z (AS Z (AO.mh Z Z (AS Z (AO.aF Z jk (fun b3=>?_)))))); refine B1 hf fun x1 h1 hf=>U 0 Z (CL Z (gH _ h1 ?_)); refine B1 hf fun x2 h2 hf=>CL Z (gH _ h2 ?_); refine B1 hf fun x3 h3 hf=>CL Z (gH _ h3 ?_); refine B1 hf fun x4 h4 hf=>CL Z (gH _ h4 (AS Z (AO.aF Z jk (fun b4=>(AS Z (AO.aF Z jk (fun b5=>(AS Z (AO.aF Z jk (fun b6=>?_))))))))))
 refine AS Z (AO.aF Z jk (fun b7=>(Rw 4 [3,2,1,0] Z Z (AW.aqH 6 54 [8,9,10] mixed (by kernel_rfl) Z jk Z (by kernel_rfl) (by decide) ?_)))); refine Ev.cons Z Z Z (AO.aY (i:=3) Z Z Z bI Z Z zg) ?_; refine B1 hf fun x5 h5 hf=>Ev.cons Z Z Z (AO.call Z _ Z Z aaA (yg _ _ h5 zg)) (Ev.cons Z Z Z (AO.aY (i:=3) Z Z Z bI Z Z zg) ?_); refine B1 hf fun x6 h6 hf=>Ev.cons Z Z Z (AO.call Z _ Z Z aaA (yg _ _ h6 zg)) (Ev.cons Z Z Z (AO.aY (i:=1) Z Z Z bI Z Z zg) ?_)
 refine B1 hf fun x7 h7 hf=>Ev.cons Z Z Z (AO.call Z _ Z Z aaA (yg _ _ h7 zg)) (Ev.nil ?_); intro b8 b9 b10; show AR _ _ _ _ _ _ _ _
 refine Rw 6 [2,1,0] Z Z (C hf Z (fun h8 hf=>?_) fun h8 hf=>?_)
 ·
  refine V 0 Z (AW.draw 9 mixed (by kernel_rfl) Z ?_); refine Ev.cons rfl rfl rfl (AO.aY (i:=4) rfl rfl rfl bI rfl rfl ⟨rfl,rfl⟩) (Ev.cons rfl rfl rfl (AO.aS (ak.aU [x3]) rfl uZ rfl rfl rfl (by first | rfl | simp only [List.map,ak.aD,ak.aU]) ⟨rfl,rfl⟩) ?_); refine Ev.cons rfl rfl rfl (AO.aY (i:=2) rfl rfl rfl bI rfl rfl ⟨rfl,rfl⟩) (Ev.cons rfl rfl rfl (AO.aS (ak.aU [x5]) rfl uZ rfl rfl rfl (by first | rfl | simp only [List.map,ak.aD,ak.aU]) ⟨rfl,rfl⟩) ?_)
  refine Ev.cons rfl rfl rfl (AO.aY (i:=1) rfl rfl rfl bI rfl rfl ⟨rfl,rfl⟩) (Ev.cons rfl rfl rfl (AO.aS (ak.aU [x6]) rfl uZ rfl rfl rfl (by first | rfl | simp only [List.map,ak.aD,ak.aU]) ⟨rfl,rfl⟩) ?_); refine Ev.cons Z Z Z (AO.aS (List.map ak.uz [[x3],[x5],[x6]]) Z ER Z Z Z Z zg) (Ev.cons Z Z Z (AO.aY (i:=5) Z Z Z bI Z Z zg) (Ev.cs aG 1 Z (Ev.nil ?_))); show AR _ _ _ _ _ _ _ _
  cases hf; exact Rx 1 [7] Z Z (ZC [7] Z Z h)
 refine V 2 Z (C hf Z (fun h9 hf=>?_) fun h9 hf=>?_)
 ·
  refine V 0 Z (AW.draw 12 mixed (by kernel_rfl) Z ?_); refine Ev.cons rfl rfl rfl (AO.aY (i:=2) rfl rfl rfl bI rfl rfl ⟨rfl,rfl⟩) (Ev.cons rfl rfl rfl (AO.aY (i:=6) rfl rfl rfl bI rfl rfl ⟨rfl,rfl⟩) (Ev.cons rfl rfl rfl (AO.aS (ak.aU [x5,x1]) rfl uZ rfl rfl rfl (by first | rfl | simp only [List.map,ak.aD,ak.aU]) ⟨rfl,rfl⟩) ?_))
  refine Ev.cons rfl rfl rfl (AO.aY (i:=4) rfl rfl rfl bI rfl rfl ⟨rfl,rfl⟩) (Ev.cons rfl rfl rfl (AO.aY (i:=4) rfl rfl rfl bI rfl rfl ⟨rfl,rfl⟩) (Ev.cons rfl rfl rfl (AO.aS (ak.aU [x3,x3]) rfl uZ rfl rfl rfl (by first | rfl | simp only [List.map,ak.aD,ak.aU]) ⟨rfl,rfl⟩) ?_))
  refine Ev.cons rfl rfl rfl (AO.aY (i:=1) rfl rfl rfl bI rfl rfl ⟨rfl,rfl⟩) (Ev.cons rfl rfl rfl (AO.aY (i:=4) rfl rfl rfl bI rfl rfl ⟨rfl,rfl⟩) (Ev.cons rfl rfl rfl (AO.aS (ak.aU [x6,x3]) rfl uZ rfl rfl rfl (by first | rfl | simp only [List.map,ak.aD,ak.aU]) ⟨rfl,rfl⟩) ?_)); refine Ev.cons Z Z Z (AO.aS (List.map ak.uz [[x5,x1],[x3,x3],[x6,x3]]) Z ER Z Z Z Z zg) (Ev.cons Z Z Z (AO.aY (i:=3) Z Z Z bI Z Z zg) (Ev.cs aG 1 Z (Ev.nil ?_)))
  show AR _ _ _ _ _ _ _ _
  cases hf; exact Rx 1 [7] Z Z (ZC [7] Z Z h)
 refine V 2 Z (C hf Z (fun h10 hf=>?_) fun h10 hf=>?_)
 ·
  refine V 0 Z (AW.draw 6 mixed (by kernel_rfl) Z ?_); refine Ev.cons rfl rfl rfl (AO.aY (i:=0) rfl rfl rfl bI rfl rfl ⟨rfl,rfl⟩) (Ev.cons rfl rfl rfl (AO.aY (i:=4) rfl rfl rfl bI rfl rfl ⟨rfl,rfl⟩) (Ev.cons rfl rfl rfl (AO.aS (ak.aU [x7,x3]) rfl uZ rfl rfl rfl (by first | rfl | simp only [List.map,ak.aD,ak.aU]) ⟨rfl,rfl⟩) ?_))
  refine Ev.cons Z Z Z (AO.aS (List.map ak.uz [[x7,x3]]) Z ER Z Z Z Z zg) (Ev.cons Z Z Z (AO.aY (i:=4) Z Z Z bI Z Z zg) (Ev.cs aG 1 Z (Ev.nil ?_))); show AR _ _ _ _ _ _ _ _
  cases hf; exact Rx 1 [7] Z Z (ZC [7] Z Z h)
 refine V 2 Z (C hf Z (fun h11 hf=>?_) fun h11 hf=>?_)
 ·
  refine V 0 Z (AW.draw 11 mixed (by kernel_rfl) Z ?_); refine B1 hf fun x8 h12 hf=>Ev.cons rfl rfl rfl (AO.call rfl _ rfl rfl VD (gH _ h12 ⟨rfl,rfl⟩)) (Ev.cons rfl rfl rfl (AO.aS (ak.aU [x8]) rfl uZ rfl rfl rfl (by first | rfl | simp only [List.map,ak.aD,ak.aU]) ⟨rfl,rfl⟩) ?_); refine Ev.cons rfl rfl rfl (AO.aY (i:=3) rfl rfl rfl bI rfl rfl ⟨rfl,rfl⟩) (Ev.cons rfl rfl rfl (AO.aS (ak.aU [x4]) rfl uZ rfl rfl rfl (by first | rfl | simp only [List.map,ak.aD,ak.aU]) ⟨rfl,rfl⟩) ?_)
  refine Ev.cons rfl rfl rfl (AO.aY (i:=5) rfl rfl rfl bI rfl rfl ⟨rfl,rfl⟩) (Ev.cons rfl rfl rfl (AO.aS (ak.aU [x2]) rfl uZ rfl rfl rfl (by first | rfl | simp only [List.map,ak.aD,ak.aU]) ⟨rfl,rfl⟩) ?_); refine Ev.cons rfl rfl rfl (AO.aY (i:=4) rfl rfl rfl bI rfl rfl ⟨rfl,rfl⟩) (Ev.cons rfl rfl rfl (AO.aS (ak.aU [x3]) rfl uZ rfl rfl rfl (by first | rfl | simp only [List.map,ak.aD,ak.aU]) ⟨rfl,rfl⟩) ?_)
  refine Ev.cons Z Z Z (AO.aS (List.map ak.uz [[x8],[x4],[x2],[x3]]) Z ER Z Z Z Z zg) (Ev.cons Z Z Z (AO.aY (i:=4) Z Z Z bI Z Z zg) (Ev.cs aG 1 Z (Ev.nil ?_))); show AR _ _ _ _ _ _ _ _
  cases hf; exact Rx 1 [7] Z Z (ZC [7] Z Z h)
 refine V 2 Z (C hf Z (fun jJ hf=>?_) fun jJ hf=>?_)
 ·
  refine V 0 Z (AW.cond Z (fun j5=>?_) (fun j5=>?_))
  ·
   refine V 0 Z (AW.draw 5 mixed (by kernel_rfl) Z ?_); refine Ev.cons rfl rfl rfl (AO.aY (i:=4) rfl rfl rfl bI rfl rfl ⟨rfl,rfl⟩) (Ev.cons rfl rfl rfl (AO.aS (ak.aU [x3]) rfl uZ rfl rfl rfl (by first | rfl | simp only [List.map,ak.aD,ak.aU]) ⟨rfl,rfl⟩) ?_); refine Ev.cons Z Z Z (AO.aS (List.map ak.uz [[x3]]) Z ER Z Z Z Z zg) (Ev.cons Z Z Z (AO.aY (i:=4) Z Z Z bI Z Z zg) (Ev.cs aG 1 Z (Ev.nil ?_))); show AR _ _ _ _ _ _ _ _
   cases hf; exact Rx 1 [7] Z Z (ZC [7] Z Z h)
  cases jJ.symm.trans j5
 refine V 2 Z (C hf Z (fun mo hf=>?_) fun mo hf=>?_)
 ·
  refine V 0 Z (AW.draw 5 mixed (by kernel_rfl) Z ?_); refine Ev.cons rfl rfl rfl (AO.aY (i:=4) rfl rfl rfl bI rfl rfl ⟨rfl,rfl⟩) (Ev.cons rfl rfl rfl (AO.aS (ak.aU [x3]) rfl uZ rfl rfl rfl (by first | rfl | simp only [List.map,ak.aD,ak.aU]) ⟨rfl,rfl⟩) ?_); refine Ev.cons Z Z Z (AO.aS (List.map ak.uz [[x3]]) Z ER Z Z Z Z zg) (Ev.cons Z Z Z (AO.aY (i:=4) Z Z Z bI Z Z zg) (Ev.cs aG 1 Z (Ev.nil ?_))); show AR _ _ _ _ _ _ _ _
  cases hf; exact Rx 1 [7] Z Z (ZC [7] Z Z h)
 refine V 2 Z (C hf Z (fun h16 hf=>?_) fun h16 hf=>?_)
 ·
  refine V 0 Z (AW.draw 6 mixed (by kernel_rfl) Z ?_); refine Ev.cons rfl rfl rfl (AO.aY (i:=4) rfl rfl rfl bI rfl rfl ⟨rfl,rfl⟩) (Ev.cons rfl rfl rfl (AO.aY (i:=4) rfl rfl rfl bI rfl rfl ⟨rfl,rfl⟩) (Ev.cons rfl rfl rfl (AO.aS (ak.aU [x3,x3]) rfl uZ rfl rfl rfl (by first | rfl | simp only [List.map,ak.aD,ak.aU]) ⟨rfl,rfl⟩) ?_))
  refine Ev.cons Z Z Z (AO.aS (List.map ak.uz [[x3,x3]]) Z ER Z Z Z Z zg) (Ev.cons Z Z Z (AO.aY (i:=0) Z Z Z bI Z Z zg) (Ev.cs aG 1 Z (Ev.nil ?_))); show AR _ _ _ _ _ _ _ _
  cases hf; exact Rx 1 [7] Z Z (ZC [7] Z Z h)
 refine V 2 Z (C hf Z (fun qB hf=>?_) fun qB hf=>?_)
 ·
  refine V 0 Z (AW.cond Z (fun h18=>?_) (fun h18=>?_))
  ·
   refine V 0 Z (AW.draw 6 mixed (by kernel_rfl) Z ?_); refine Ev.cons rfl rfl rfl (AO.aY (i:=4) rfl rfl rfl bI rfl rfl ⟨rfl,rfl⟩) (Ev.cons rfl rfl rfl (AO.aY (i:=4) rfl rfl rfl bI rfl rfl ⟨rfl,rfl⟩) (Ev.cons rfl rfl rfl (AO.aS (ak.aU [x3,x3]) rfl uZ rfl rfl rfl (by first | rfl | simp only [List.map,ak.aD,ak.aU]) ⟨rfl,rfl⟩) ?_))
   refine Ev.cons Z Z Z (AO.aS (List.map ak.uz [[x3,x3]]) Z ER Z Z Z Z zg) (Ev.cons Z Z Z (AO.aY (i:=3) Z Z Z bI Z Z zg) (Ev.cs aG 1 Z (Ev.nil ?_))); show AR _ _ _ _ _ _ _ _
   cases hf; exact Rx 1 [7] Z Z (ZC [7] Z Z h)
  cases qB.symm.trans h18
 refine V 2 Z (C hf Z (fun h19 hf=>?_) fun h19 hf=>?_)
 ·
  refine V 0 Z (AW.draw 6 mixed (by kernel_rfl) Z ?_); refine Ev.cons rfl rfl rfl (AO.aY (i:=4) rfl rfl rfl bI rfl rfl ⟨rfl,rfl⟩) (Ev.cons rfl rfl rfl (AO.aY (i:=4) rfl rfl rfl bI rfl rfl ⟨rfl,rfl⟩) (Ev.cons rfl rfl rfl (AO.aS (ak.aU [x3,x3]) rfl uZ rfl rfl rfl (by first | rfl | simp only [List.map,ak.aD,ak.aU]) ⟨rfl,rfl⟩) ?_))
  refine Ev.cons Z Z Z (AO.aS (List.map ak.uz [[x3,x3]]) Z ER Z Z Z Z zg) (Ev.cons Z Z Z (AO.aY (i:=3) Z Z Z bI Z Z zg) (Ev.cs aG 1 Z (Ev.nil ?_))); show AR _ _ _ _ _ _ _ _
  cases hf; exact Rx 1 [7] Z Z (ZC [7] Z Z h)
 refine V 2 Z (C hf Z (fun h20 hf=>?_) fun h20 hf=>?_)
 ·
  refine V 0 Z (AW.draw 5 mixed (by kernel_rfl) Z ?_); refine Ev.cons rfl rfl rfl (AO.aY (i:=4) rfl rfl rfl bI rfl rfl ⟨rfl,rfl⟩) (Ev.cons rfl rfl rfl (AO.aS (ak.aU [x3]) rfl uZ rfl rfl rfl (by first | rfl | simp only [List.map,ak.aD,ak.aU]) ⟨rfl,rfl⟩) ?_); refine Ev.cons Z Z Z (AO.aS (List.map ak.uz [[x3]]) Z ER Z Z Z Z zg) (Ev.cons Z Z Z (AO.aY (i:=5) Z Z Z bI Z Z zg) (Ev.cs aG 1 Z (Ev.nil ?_))); show AR _ _ _ _ _ _ _ _
  cases hf; exact Rx 1 [7] Z Z (ZC [7] Z Z h)
 refine V 2 Z (C hf Z (fun h21 hf=>?_) fun h21 hf=>?_)
 ·
  refine V 0 Z (AW.draw 6 mixed (by kernel_rfl) Z ?_); refine Ev.cons rfl rfl rfl (AO.aY (i:=6) rfl rfl rfl bI rfl rfl ⟨rfl,rfl⟩) (Ev.cons rfl rfl rfl (AO.aY (i:=6) rfl rfl rfl bI rfl rfl ⟨rfl,rfl⟩) (Ev.cons rfl rfl rfl (AO.aS (ak.aU [x1,x1]) rfl uZ rfl rfl rfl (by first | rfl | simp only [List.map,ak.aD,ak.aU]) ⟨rfl,rfl⟩) ?_))
  refine Ev.cons Z Z Z (AO.aS (List.map ak.uz [[x1,x1]]) Z ER Z Z Z Z zg) (Ev.cons Z Z Z (AO.aY (i:=6) Z Z Z bI Z Z zg) (Ev.cs aG 1 Z (Ev.nil ?_))); show AR _ _ _ _ _ _ _ _
  cases hf; exact Rx 1 [7] Z Z (ZC [7] Z Z h)
 refine V 2 Z (C hf Z (fun h22 hf=>?_) fun h22 hf=>?_)
 ·
  refine V 0 Z (AW.draw 5 mixed (by kernel_rfl) Z ?_); refine Ev.cons rfl rfl rfl (AO.aY (i:=1) rfl rfl rfl bI rfl rfl ⟨rfl,rfl⟩) (Ev.cons rfl rfl rfl (AO.aS (ak.aU [x6]) rfl uZ rfl rfl rfl (by first | rfl | simp only [List.map,ak.aD,ak.aU]) ⟨rfl,rfl⟩) ?_); refine Ev.cons Z Z Z (AO.aS (List.map ak.uz [[x6]]) Z ER Z Z Z Z zg) (Ev.cons Z Z Z (AO.aY (i:=0) Z Z Z bI Z Z zg) (Ev.cs aG 1 Z (Ev.nil ?_))); show AR _ _ _ _ _ _ _ _
  cases hf; exact Rx 1 [7] Z Z (ZC [7] Z Z h)
 refine V 0 Z (AW.draw 2 mixed (by kernel_rfl) Z ?_); refine Ev.cons Z Z Z (AO.aY (i:=6) Z Z Z bI Z Z zg) (Ev.cons Z Z Z (AO.mh Z Z zg) (Ev.nil ?_)); show AR _ _ _ _ _ _ _ _
 cases hf; exact Rx 1 [7] Z Z (ZC [7] Z Z h)

theorem jm (t1:ak) {r0:Bool} (hf:gI t1=some r0) (h:Q (.ret (.bool r0)) τ):PC 143 [.agg (aW t1)] τ Q:=by
 unfold gI at hf; refine BN 11 [.tmp 2] [0] Tryz.func143 Z Z Z Z Z (W 6 Z (On 4 6 10 [] (t1.kind == 7) Z Z Z Z ?_)); cases hf; exact N 1 Z (Y Z h)


abbrev H7 (nT:ak→ak→Option Bool):Prop:=∀ (z_:ak) (Uf:ak) {aR:Bool},nT z_ Uf=some aR→∀ {τ:List bJ} {Q:eT→List bJ→Prop} (h:Q (.ret (.bool aR)) τ),PC 92 [.agg (aW z_),.agg (aW Uf)] τ Q
theorem Pf (nT) (Nb:H7 nT) (t1:ak) (u1:ak) {r0:Bool} (hf:mX nT t1 u1=some r0) (h:Q (.ret (.bool r0)) τ):PC 92 [.agg (aW t1),.agg (aW u1)] τ Q:=by
 unfold mX at hf; refine BN 39 [.tmp 4] [0,1] Tryz.func92 Z Z Z Z Z ?_; refine B1 hf fun x1 h1 hf=>W 4 Z (CL Z (jm _ h1 (U 1 Z (On 4 8 12 [2,3] (u1.kind == 0) Z Z Z Z (J 1 Z (C hf Z (fun h3 hf=>?_) fun h3 hf=>?_))))))
 · cases hf; exact M 1 Z (Y Z h)
 refine V 6 Z (C hf Z (fun h4 hf=>?_) fun h4 hf=>?_)
 · cases hf; exact M 1 Z (Y Z h)
 refine W 2 Z (AS Z (AO.aP (l:=t1.elem) Z Z Z Z fZ Z (ak.aB _) (U 2 Z (AR.and 5 24 29 [2,3] (x:=((u1.elem.length:Int) == 1)) Z Z (fun h5=>?_) (fun h5=>?_) ?_))))
 · refine Is 24 h5 Z (U 2 Z (GO Z (AO.aP (l:=u1.elem) Z Z Z Z fZ Z (ak.aB _) ?_))); exact eG 2 Z (En [29,2,3] Z)
 · refine Is 24 h5 Z ?_; exact eG 5 Z (En [29,2,3] Z)
 refine J 1 Z (C hf Z (fun h6 hf=>?_) fun h6 hf=>?_)
 ·
  refine V 0 Z (AW.draw 10 mixed (by kernel_rfl) Z ?_); refine Ev.cs aG 2 Z ?_; refine B1 hf fun e1 h7 hf=>Ev.cons Z Z Z (AO.aI h7 Z Z (ak.aB _) Z fZ (ak.aD _) Z zg) (Ev.cs aG 3 Z ?_); refine B1 hf fun e2 h8 hf=>Ev.cons Z Z Z (AO.aI h8 Z Z (ak.aB _) Z fZ (ak.aD _) Z zg) (Ev.cs aG 1 Z ?_); refine BR hf fun x2 h9 hf=>?_; refine Ev.cons Z Z Z (AO.call Z _ Z Z VB (Nb _ _ h9 zg)) (Ev.cs aG 1 Z (Ev.nil ?_))
  show AR _ _ _ _ _ _ _ _
  cases hf; exact N 0 Z (Y Z h)
 cases hf; exact M 1 Z (Y Z h)
theorem Pv :∀ k:Nat,(H7 (jG k)):=by
 intro k
 induction k with
 | zero=>exact fun _ _ _ hz=>by first | cases hz | (unfold jG at hz; cases hz)
 | succ k ih=>exact fun z_ Uf aR hz τ Q hq=>Pf (jG k) ih z_ Uf hz hq
theorem lJ (z_:ak) (Uf:ak) {aR:Bool} (hf:jP z_ Uf=some aR) (h:Q (.ret (.bool aR)) τ):PC 92 [.agg (aW z_),.agg (aW Uf)] τ Q:=
 ((Pv BIG)) z_ Uf hf h

theorem YD (yA:List ak) (D7:List ak) {r0:Bool} (hf:tC yA D7=some r0) (h:Q (.ret (.bool r0)) τ):PC 141 [.list (ak.aU yA),.list (ak.aU D7)] τ Q:=by
 unfold tC at hf; refine BN 22 [.tmp 4] [0,1] Tryz.func141 Z Z Z Z Z (W 2 Z (AS Z (AO.aP (l:=D7) Z Z Z Z fZ Z (ak.aB _) (J 1 Z (Gh (fun i1=>[(0,.list (ak.aU yA)),(1,.list (ak.aU D7)),(7,iP (D7.length:Int)),(8,iP i1)]) (fun i1=>[]) (fun bT i1=>uR yA D7 bT i1=some r0) BIG 0 Z Z hf (fun _ hz=>bQ hz) ?_))))); intro bT i1 hf; rw [uR] at hf; refine V 1 Z (C hf Z (fun h1 hf=>?_) fun h1 hf=>?_)
 ·
  refine V 2 Z (AW.draw 10 mixed (by kernel_rfl) Z ?_); refine Ev.cs aG 2 Z ?_; refine B1 hf fun e1 h2 hf=>Ev.cons Z Z Z (AO.aI h2 Z Z (ak.aB _) Z fZ (ak.aD _) Z zg) (Ev.cs aG 3 Z ?_); refine B1 hf fun e2 h3 hf=>Ev.cons Z Z Z (AO.aI h3 Z Z (ak.aB _) Z fZ (ak.aD _) Z zg) (Ev.cs aG 1 Z ?_); refine B1 hf fun x1 h4 hf=>Ev.cons Z Z Z (AO.call Z _ Z Z VB (lJ _ _ h4 zg)) (Ev.cs aG 1 Z (Ev.nil ?_)); show AR _ _ _ _ _ _ _ _
  refine J 0 Z (C hf Z (fun h5 hf=>?_) fun h5 hf=>?_)
  · cases hf; exact M 1 Z (Y Z h)
  exact M 2 Z ⟨(bZ (i1 + 1)),Z,Z,Z,hf⟩
 cases hf; exact M 1 Z (Y Z h)

theorem lU (fE:Int) {r0:ak} (hf:g_ fE=some r0) (h:Q (.ret (.agg (aW r0))) τ):PC 95 [iP fE] τ Q:=by
 unfold g_ at hf; refine BN 5 [.cell 2 54] [0] Tryz.func95 Z Z Z Z Z (W 0 Z (AS Z (AO.aF Z jk (fun b2=>?_)))); cases hf; exact Rx 3 [0] Z Z (ZC [0] Z Z h)

theorem I4 (fE:Int) (kg:ak) {r0:ak} (hf:qU fE kg=some r0) (h:Q (.ret (.agg (aW r0))) τ):PC 149 [iP fE,.agg (aW kg)] τ Q:=by
 unfold qU at hf; refine BN 9 [.cell 4 54] [0,1] Tryz.func149 rfl rfl rfl rfl rfl (W 1 rfl (AS rfl (AO.aF rfl jk (fun b4=>(U 2 rfl (AS rfl (AO.aS (ak.aU [kg]) rfl uZ rfl rfl rfl (by first | rfl | simp only [List.map,ak.aD,ak.aU]) ?_))))))); cases hf; exact Rx 2 [0] Z Z (ZC [0] Z Z h)


abbrev NS (sI:ak→Option ak):Prop:=∀ (z_:ak) {aR:ak},sI z_=some aR→∀ {τ:List bJ} {Q:eT→List bJ→Prop} (h:Q (.ret (.agg (aW aR))) τ),PC 148 [.agg (aW z_)] τ Q
theorem U_ (sI) (Sv:NS sI) (t1:ak) {r0:ak} (hf:w_ sI t1=some r0) (h:Q (.ret (.agg (aW r0))) τ):PC 148 [.agg (aW t1)] τ Q:=by
 unfold w_ at hf; refine BN 18 [.cell 2 54] [0] Tryz.func148 Z Z Z Z Z (W 1 Z (AS Z (AO.aF Z jk (fun b2=>?_)))); refine B1 hf fun x1 h1 hf=>U 2 Z (CL Z (vV _ h1 (J 1 Z (C hf Z (fun h2 hf=>?_) fun h2 hf=>?_))))
 · refine BR hf fun x2 h3 hf=>?_; refine W 2 Z (CL Z (lU _ h3 ?_)); cases hf; exact Rx 1 [0] Z Z (ZC [0] Z Z h)
 refine V 0 Z (AW.draw 8 mixed (by kernel_rfl) Z ?_); refine Ev.cs aG 4 Z ?_; refine B1 hf fun e1 h4 hf=>Ev.cons Z Z Z (AO.aI h4 Z Z (ak.aB _) Z fZ (ak.aD _) Z zg) (Ev.cs aG 1 Z ?_); refine B1 hf fun x3 h5 hf=>Ev.cons Z Z Z (AO.call Z _ Z Z an7 (Sv _ h5 zg)) ?_; refine BR hf fun x4 h6 hf=>?_; refine Ev.cons Z Z Z (AO.call Z _ Z Z ajn (I4 _ _ h6 zg)) (Ev.nil ?_); show AR _ _ _ _ _ _ _ _
 cases hf; exact Rx 1 [0] Z Z (ZC [0] Z Z h)
theorem VP :∀ k:Nat,(NS (pJ k)):=by
 intro k
 induction k with
 | zero=>exact fun _ _ hz=>by first | cases hz | (unfold pJ at hz; cases hz)
 | succ k ih=>exact fun z_ aR hz τ Q hq=>U_ (pJ k) ih z_ hz hq
theorem Nu (z_:ak) {aR:ak} (hf:Fb z_=some aR) (h:Q (.ret (.agg (aW aR))) τ):PC 148 [.agg (aW z_)] τ Q:=
 ((VP BIG)) z_ hf h


abbrev O8 (uN:ak→ak→Option ak):Prop:=∀ (sF:ak) (sD:ak) {aR:ak},uN sF sD=some aR→∀ {τ:List bJ} {Q:eT→List bJ→Prop} (h:Q (.ret (.agg (aW aR))) τ),PC 96 [.agg (aW sF),.agg (aW sD)] τ Q
theorem XJ (uN) (Uo:O8 uN) (a1:ak) (b1:ak) {r0:ak} (hf:tY uN a1 b1=some r0) (h:Q (.ret (.agg (aW r0))) τ):PC 96 [.agg (aW a1),.agg (aW b1)] τ Q:=by
 unfold tY at hf; refine BN 43 [.cell 4 54] [0,1] Tryz.func96 Z Z Z Z Z (W 2 Z (AS Z (AO.aF Z jk (fun b4=>(J 4 Z (C hf Z (fun h1 hf=>?_) fun h1 hf=>?_))))))
 · refine BR hf fun x1 h2 hf=>?_; refine W 1 Z (CL Z (Nu _ h2 ?_)); cases hf; exact Rx 1 [0] Z Z (ZC [0] Z Z h)
 refine V 4 Z (C hf Z (fun h3 hf=>?_) fun h3 hf=>?_)
 · refine BR hf fun x2 h4 hf=>?_; refine W 1 Z (CL Z (Nu _ h4 ?_)); cases hf; exact Rx 1 [0] Z Z (ZC [0] Z Z h)
 refine V 6 Z (C hf Z (fun h5 hf=>?_) fun h5 hf=>?_)
 · refine BR hf fun x3 h6 hf=>?_; refine W 0 Z (CL Z (lU _ h6 ?_)); cases hf; exact Rx 1 [0] Z Z (ZC [0] Z Z h)
 refine B1 hf fun x4 h7 hf=>W 2 Z (CL Z (vV _ h7 (J 1 Z (C hf Z (fun h8 hf=>?_) fun h8 hf=>?_))))
 ·
  refine V 0 Z (AW.draw 12 mixed (by kernel_rfl) Z ?_); refine Ev.cs aG 4 Z ?_; refine B1 hf fun e1 h9 hf=>Ev.cons Z Z Z (AO.aI h9 Z Z (ak.aB _) Z fZ (ak.aD _) Z zg) (Ev.cs aG 3 Z ?_); refine B1 hf fun e2 h10 hf=>Ev.cons Z Z Z (AO.aI h10 Z Z (ak.aB _) Z fZ (ak.aD _) Z zg) (Ev.cs aG 1 Z ?_); refine B1 hf fun x5 h11 hf=>Ev.cons Z Z Z (AO.call Z _ Z Z amF (Uo _ _ h11 zg)) ?_; refine BR hf fun x6 h12 hf=>?_
  refine Ev.cons Z Z Z (AO.call Z _ Z Z ajn (I4 _ _ h12 zg)) (Ev.nil ?_); show AR _ _ _ _ _ _ _ _
  cases hf; exact Rx 1 [0] Z Z (ZC [0] Z Z h)
 refine BR hf fun x7 jJ hf=>?_; refine W 2 Z (CL Z (lU _ jJ ?_)); cases hf; exact Rx 1 [0] Z Z (ZC [0] Z Z h)
theorem XV :∀ k:Nat,(O8 (nD k)):=by
 intro k
 induction k with
 | zero=>exact fun _ _ _ hz=>by first | cases hz | (unfold nD at hz; cases hz)
 | succ k ih=>exact fun sF sD aR hz τ Q hq=>XJ (nD k) ih sF sD hz hq
theorem O0 (sF:ak) (sD:ak) {aR:ak} (hf:Ec sF sD=some aR) (h:Q (.ret (.agg (aW aR))) τ):PC 96 [.agg (aW sF),.agg (aW sD)] τ Q:=
 ((XV BIG)) sF sD hf h


abbrev O9 (mP:ah→Option ak):Prop:=∀ (qg:ah) {aR:ak},mP qg=some aR→∀ {τ:List bJ} {Q:eT→List bJ→Prop} (h:Q (.ret (.agg (aW aR))) τ),PC 142 [.agg (aK qg)] τ Q
theorem XK (mP) (Uq:O9 mP) (v1:ah) {r0:ak} (hf:Dy mP v1=some r0) (h:Q (.ret (.agg (aW r0))) τ):PC 142 [.agg (aK v1)] τ Q:=by
 unfold Dy at hf; refine BN 40 [.cell 2 54] [0] Tryz.func142 Z Z Z Z Z (W 1 Z (AS Z (AO.aF Z jk (fun b2=>(J 4 Z (C hf Z (fun h1 hf=>?_) fun h1 hf=>?_))))))
 · refine BR hf fun x1 h2 hf=>?_; refine W 0 Z (CL Z (lU _ h2 ?_)); cases hf; exact Rx 1 [0] Z Z (ZC [0] Z Z h)
 refine V 2 Z (C hf Z (fun h3 hf=>?_) fun h3 hf=>?_)
 · refine BR hf fun x2 h4 hf=>?_; refine W 0 Z (CL Z (lU _ h4 ?_)); cases hf; exact Rx 1 [0] Z Z (ZC [0] Z Z h)
 refine V 2 Z (C hf Z (fun h5 hf=>?_) fun h5 hf=>?_)
 · refine BR hf fun x3 h6 hf=>?_; refine W 0 Z (CL Z (lU _ h6 ?_)); cases hf; exact Rx 1 [0] Z Z (ZC [0] Z Z h)
 refine V 2 Z (C hf Z (fun h7 hf=>?_) fun h7 hf=>?_)
 · refine BR hf fun x4 h8 hf=>?_; refine W 0 Z (CL Z (lU _ h8 ?_)); cases hf; exact Rx 1 [0] Z Z (ZC [0] Z Z h)
 refine B1 hf fun x5 h9 hf=>W 0 Z (CL Z (lU _ h9 (AS Z (AO.aF Z jk (fun b3=>(Rr 3 [0] Z Z (AS Z (AO.aP (l:=v1.aO) Z Z Z Z dX Z (ah.aB _) ?_))))))))
 refine J 1 Z (Xy (fun x6 kg=>[(1,.ref (aK v1)),(2,pP b2),(3,pP b3),(22,.list (ah.aU v1.aO)),(23,iP (v1.aO.length:Int)),(24,iP x6)]) (fun x6 kg=>[.box b3 (aW kg),.box b2 [iP 0,.own (.slice none 0 0) []]]) (fun bT x6 kg=>w9 mP v1 bT x6 kg=some r0) BIG 0 x5 Z Z hf (fun _ _ hz=>bQ hz) ?_); intro bT x6 kg hf; rw [w9] at hf; refine V 1 Z (C hf Z (fun h10 hf=>?_) fun h10 hf=>?_)
 ·
  refine B1 hf fun e1 h11 hf=>W 0 Z (AS Z (AO.aI h11 Z Z (ah.aB _) Z dX (ah.aD _) Z (U 1 Z (AS Z (AO.aF Z gq (fun b5=>(Rw 1 [0] Z Z (AW.draw 4 mixed (by kernel_rfl) Z ?_)))))))); refine Ev.cons Z Z Z (AO.aY (i:=1) Z Z Z bI Z Z zg) (Ev.cons Z Z Z (AO.aY (i:=0) Z Z Z dF Z Z zg) ?_); refine B1 hf fun x7 h12 hf=>Ev.cons Z Z Z (AO.call Z _ Z Z an8 (Uq _ h12 zg)) ?_; refine B1 hf fun x8 jJ hf=>Ev.cons Z Z Z (AO.call Z _ Z Z amF (O0 _ _ jJ zg)) (Ev.nil ?_)
  show AR _ _ _ _ _ _ _ _
  refine Rn 3 [1] Z Z (AR.drop1 ?_); exact N 0 Z ⟨(bZ (x6 + 1)),x8,Z,Z,Z,hf⟩
 refine V 3 Z (C hf Z (fun j5 hf=>?_) fun j5 hf=>?_)
 · refine BR hf fun x9 mo hf=>?_; refine Wr 1 [0] Z Z (CL Z (I4 _ _ mo ?_)); cases hf; exact Rx 1 [1] Z Z (ZC [1] Z Z h)
 refine BR hf fun wS h16 hf=>?_; refine Wr 1 [0] Z Z (CL Z (I4 _ _ h16 ?_)); cases hf; exact Rx 1 [1] Z Z (ZC [1] Z Z h)
theorem XW :∀ k:Nat,(O9 (oV k)):=by
 intro k
 induction k with
 | zero=>exact fun _ _ hz=>by first | cases hz | (unfold oV at hz; cases hz)
 | succ k ih=>exact fun qg aR hz τ Q hq=>XK (oV k) ih qg hz hq
theorem Yj (qg:ah) {aR:ak} (hf:Mq qg=some aR) (h:Q (.ret (.agg (aW aR))) τ):PC 142 [.agg (aK qg)] τ Q:=
 ((XW BIG)) qg hf h

theorem adw (v1:ah) {r0:ak} (hf:Jv v1=some r0) (h:Q (.ret (.agg (aW r0))) τ):PC 86 [.agg (aK v1)] τ Q:=by
 unfold Jv at hf; refine BN 9 [.cell 2 54] [0] Tryz.func86 Z Z Z Z Z (W 1 Z (AS Z (AO.aF Z jk (fun b2=>?_)))); refine B1 hf fun x1 h1 hf=>U 1 Z (CL Z (uh _ h1 (J 1 Z (C hf Z (fun h2 hf=>?_) fun h2 hf=>?_))))
 · refine BR hf fun x2 h3 hf=>?_; refine W 0 Z (CL Z (lU _ h3 ?_)); cases hf; exact Rx 1 [0] Z Z (ZC [0] Z Z h)
 refine BR hf fun x3 h4 hf=>?_; refine W 1 Z (CL Z (Yj _ h4 ?_)); cases hf; exact Rx 1 [0] Z Z (ZC [0] Z Z h)

theorem S_ (cB:List aH) (name1:Str) {r0:ak} {r1:Int} (hf:xW cB name1=some (r0,r1)) (h:Q (.ret (.tuple [.agg (aW r0),iP r1])) τ):PC 87 [.list (List.map aH.cells cB),.str name1] τ Q:=by
 unfold xW at hf; refine BN 22 [.cell 4 54,.tmp 5] [0,1] Tryz.func87 Z Z Z Z Z (W 0 Z (AS Z (AO.aF Z jk (fun b4=>(U 2 Z (AS Z (AO.aP (l:=cB) Z Z Z Z Bb Z Z (J 1 Z (Gh (fun x1=>[(1,.str name1),(4,pP b4),(8,.list (List.map aH.cells cB)),(9,iP (cB.length:Int)),(10,iP x1)]) (fun x1=>[.box b4 [iP 0,.own (.slice none 0 0) []]]) (fun bT x1=>tH cB name1 bT x1=some (r0,r1)) BIG 0 Z Z hf (fun _ hz=>bQ hz) ?_))))))))); intro bT x1 hf; rw [tH] at hf
 refine V 1 Z (C hf Z (fun h1 hf=>?_) fun h1 hf=>?_)
 ·
  refine B1 hf fun e1 h2 hf=>W 0 Z (AS Z (AO.aI h2 Z Z Z Z Bb (aH.aD _) Z (U 1 Z (AS Z (AO.aF Z afF (fun b7=>(Rw 5 [0,0] Z Z (C hf Z (fun h3 hf=>?_) fun h3 hf=>?_))))))))
  · cases hf; exact Wx 4 [0,1] Z Z (ZC [1] Z Z h)
  refine Wn0 2 Z (AR.drop1 ?_); exact N 0 Z ⟨(bZ (x1 + 1)),Z,Z,Z,hf⟩
 cases hf; exact Wx 3 [0] Z Z (ZC [0] Z Z h)

theorem Xo (t1:ak) {r0:ak} {r1:Int} (hf:Cm t1=some (r0,r1)) (h:Q (.ret (.tuple [.agg (aW r0),iP r1])) τ):PC 88 [.agg (aW t1)] τ Q:=by
 unfold Cm at hf; refine BN 17 [.cell 2 54,.tmp 3] [0] Tryz.func88 Z Z Z Z Z (W 1 Z (AS Z (AO.aF Z jk (fun b2=>?_)))); refine B1 hf fun x1 h1 hf=>U 2 Z (CL Z (jm _ h1 (J 1 Z (C hf Z (fun h2 hf=>?_) fun h2 hf=>?_))))
 · cases hf; exact Wx 3 [0] Z Z (ZC [0] Z Z h)
 refine V 4 Z (C hf Z (fun h3 hf=>?_) fun h3 hf=>?_)
 · refine B1 hf fun e1 h4 hf=>W 2 Z (AS Z (AO.aI h4 Z Z (ak.aB _) Z fZ (ak.aD _) Z ?_)); cases hf; exact Rx 3 [0] Z Z (ZC [0] Z Z h)
 cases hf; exact Wx 3 [0] Z Z (ZC [0] Z Z h)

theorem YE (t1:ak) (i1:ak) {r0:ak} {r1:Int} (hf:EF t1 i1=some (r0,r1)) (h:Q (.ret (.tuple [.agg (aW r0),iP r1])) τ):PC 89 [.agg (aW t1),.agg (aW i1)] τ Q:=by
 unfold EF at hf; refine BN 42 [.cell 4 54,.tmp 5] [0,1] Tryz.func89 Z Z Z Z Z (W 2 Z (AS Z (AO.aF Z jk (fun b4=>(J 1 Z (AW.draw 8 mixed (by kernel_rfl) Z ?_)))))); refine Ev.cs aG 1 Z ?_; refine B1 hf fun x1 h1 hf=>Ev.cons Z Z Z (AO.call Z _ Z Z VD (gH _ h1 zg)) ?_; refine B1 hf fun QO h2 hf=>Ev.cons Z Z Z (AO.call Z _ Z Z VB (lJ _ _ h2 zg)) (Ev.cs aG 1 Z ?_); refine B1 hf fun x2 h3 hf=>Ev.cons Z Z Z (AO.call Z _ Z Z VD (gH _ h3 zg)) ?_
 refine B1 hf fun text1 h4 hf=>Ev.cons Z Z Z (AO.call Z _ Z Z VB (lJ _ _ h4 zg)) (Ev.cs aG 2 Z (Ev.nil ?_)); show AR _ _ _ _ _ _ _ _
 refine U 4 Z (An 2 18 20 [2,4,6,7] QO Z Z Z Z (J 1 Z (C hf Z (fun h6 hf=>?_) fun h6 hf=>?_)))
 ·
  refine V 0 Z (AW.cond Z (fun h7=>?_) (fun h7=>?_))
  · refine B1 hf fun e1 h8 hf=>W 2 Z (AS Z (AO.aI h8 Z Z (ak.aB _) Z fZ (ak.aD _) Z ?_)); cases hf; exact Rx 3 [0] Z Z (ZC [0] Z Z h)
  cases h6.symm.trans h7
 refine W 4 Z (An 2 24 26 [2,4,6,7,14] text1 Z Z Z Z (J 1 Z (C hf Z (fun h10 hf=>?_) fun h10 hf=>?_)))
 · refine B1 hf fun e2 h11 hf=>W 2 Z (AS Z (AO.aI h11 Z Z (ak.aB _) Z fZ (ak.aD _) Z ?_)); cases hf; exact Rx 3 [0] Z Z (ZC [0] Z Z h)
 refine B1 hf fun x3 h12 hf=>W 1 Z (CL Z (jm _ h12 (U 1 Z (AR.and 5 34 39 [2,4] (x:=(QO || text1)) Z Z (fun jJ=>?_) (fun jJ=>?_) ?_))))
 · refine Is 34 jJ Z (U 2 Z (On 2 36 38 [2,4,34] text1 Z Z Z Z ?_)); exact eG 1 Z (En [39,2,4] Z)
 · refine Is 34 jJ Z ?_; exact eG 5 Z (En [39,2,4] Z)
 refine J 1 Z (C hf Z (fun mo hf=>?_) fun mo hf=>?_)
 · cases hf; exact Wx 3 [0] Z Z (ZC [0] Z Z h)
 cases hf; exact Wx 3 [0] Z Z (ZC [0] Z Z h)

theorem YC (op1:Str) (t1:ak) {r0:ak} {r1:Int} (hf:ED op1 t1=some (r0,r1)) (h:Q (.ret (.tuple [.agg (aW r0),iP r1])) τ):PC 90 [.str op1,.agg (aW t1)] τ Q:=by
 unfold ED at hf; refine BN 17 [.cell 4 54,.tmp 5] [0,1] Tryz.func90 Z Z Z Z Z (W 1 Z (AS Z (AO.aF Z jk (fun b4=>?_)))); refine B1 hf fun x1 h1 hf=>U 1 Z (CL Z (gH _ h1 (AS Z (AO.aF Z jk (fun b6=>(Rw 3 [0] Z Z (C hf Z (fun h2 hf=>?_) fun h2 hf=>?_)))))))
 ·
  refine B1 hf fun x2 h3 hf=>W 0 Z (CL Z (gH _ h3 ?_)); refine B1 hf fun x3 h4 hf=>Rr 3 [0,0] Z Z (CL Z (lJ _ _ h4 (J 1 Z (C hf Z (fun h5 hf=>?_) fun h5 hf=>?_))))
  · cases hf; exact Wx 3 [1] Z Z (ZC [1] Z Z h)
  cases hf; exact Wx 3 [0,1] Z Z (ZC [1] Z Z h)
 refine B1 hf fun x4 h6 hf=>Wr 2 [0] Z Z (CL Z (lJ _ _ h6 (J 1 Z (C hf Z (fun h7 hf=>?_) fun h7 hf=>?_))))
 · cases hf; exact Wx 3 [1] Z Z (ZC [1] Z Z h)
 cases hf; exact Wx 3 [0,1] Z Z (ZC [1] Z Z h)

theorem qZ (fE:Int) (c1:ak) (c2:ak) {r0:Bool} (hf:kC fE c1 c2=some r0) (h:Q (.ret (.bool r0)) τ):PC 144 [iP fE,.ref (aW c1),.ref (aW c2)] τ Q:=by
 unfold kC at hf; refine BN 15 [.tmp 4] [0,1,2] Tryz.func144 Z Z Z Z Z (V 1 Z (AW.draw 11 mixed (by kernel_rfl) Z ?_)); refine Ev.cs aG 2 Z ?_; refine B1 hf fun x1 h1 hf=>Ev.cons Z Z Z (AO.call Z _ Z Z VD (gH _ h1 zg)) ?_; refine B1 hf fun x2 h2 hf=>Ev.cons Z Z Z (AO.call Z _ Z Z VB (lJ _ _ h2 zg)) (Ev.cs aG 1 Z ?_); refine BR hf fun b1 h4 hf=>?_; refine Ev.dB hKA 5 9 14 true [] (.bool b1) Z Z (fun h3=>?_) (fun h3=>?_) ?_
 · replace h4:=cO h3 h4; refine Ev.is uq 9 h3 Z (Ev.cs aG 2 Z ?_); refine B1 h4 fun x3 h5 h4=>Ev.run Z Z Z Z Z Z Z (AO.call Z _ Z Z VD (gH _ h5 zg)) ?_; refine BR h4 fun x4 h6 h4=>?_; refine Ev.run Z Z Z Z Z Z Z (AO.call Z _ Z Z VB (lJ _ _ h6 zg)) ?_; cases h4; refine Ev.cs aG 1 Z ?_; exact Ev.nil (Less.settle (ps:=[14]) Z)
 · replace h4:=cZ h3 h4; refine Ev.is uq 9 h3 Z ?_; cases h4; refine Ev.cs aG 5 Z ?_; exact Ev.nil (Less.settle (ps:=[14]) Z)
 refine Ev.cs aG 1 Z (Ev.nil ?_); show AR _ _ _ _ _ _ _ _
 cases hf; exact N 0 Z (Y Z h)

theorem lK (a1:ak) (b1:ak) (fE:Int) {r0:Bool} (hf:jy a1 b1 fE=some r0) (h:Q (.ret (.bool r0)) τ):PC 145 [.agg (aW a1),.agg (aW b1),iP fE] τ Q:=by
 unfold jy at hf; refine BN 37 [.tmp 6] [0,1,2] Tryz.func145 Z Z Z Z Z ?_; refine B1 hf fun x1 h1 hf=>W 4 Z (CL Z (jm _ h1 (U 1 Z (On 5 9 14 [2,3,4] (a1.kind == fE) Z Z Z Z ?_)))); refine B1 hf fun b2 h4 hf=>U 1 Z (AR.dB 9 15 24 true [2,3,4] b2 Z Z (fun h3=>?_) (fun h3=>?_) ?_)
 · refine IT 15 h3 h4 Z fun h4=>?_; refine B1 h4 fun x2 h5 h4=>U 1 Z (GO Z (AO.call Z _ Z Z R9 (jm _ h5 (U 1 Z (On 5 18 23 [2,3,4,15] (b1.kind == fE) Z Z Z Z ?_))))); cases h4; exact eG 1 Z (En [24,2,3,4] Z)
 · refine IF 15 h3 h4 Z fun h4=>?_; cases h4; exact eG 9 Z (En [24,2,3,4] Z)
 refine U 1 Z (AR.and 11 25 36 [] (x:=((a1.kind == fE) || (b1.kind == fE))) Z Z (fun h7=>?_) (fun h7=>?_) ?_)
 · refine Is 25 h7 Z (U 5 Z (On 5 30 35 [25] (b1.kind == fE) Z Z Z Z ?_)); exact eG 1 Z (En [36] Z)
 · refine Is 25 h7 Z ?_; exact eG 11 Z (En [36] Z)
 cases hf; exact N 1 Z (Y Z h)

theorem LD (t1:ak) {r0:ak} (hf:wu t1=some r0) (h:Q (.ret (.agg (aW r0))) τ):PC 207 [.agg (aW t1)] τ Q:=by
 unfold wu at hf; refine BN 10 [.cell 2 54] [0] Tryz.func207 Z Z Z Z Z (W 1 Z (AS Z (AO.aF Z jk (fun b2=>?_)))); refine B1 hf fun x1 h1 hf=>U 1 Z (CL Z (jm _ h1 (J 0 Z (C hf Z (fun h2 hf=>?_) fun h2 hf=>?_))))
 · cases hf; exact Wx 2 [0] Z Z (ZC [0] Z Z h)
 refine BR hf fun e1 h3 hf=>?_; refine W 2 Z (AS Z (AO.aI h3 Z Z (ak.aB _) Z fZ (ak.aD _) Z ?_)); cases hf; exact Rx 2 [0] Z Z (ZC [0] Z Z h)

theorem Yk (a1:ak) (b1:ak) {r0:Bool} (hf:Im a1 b1=some r0) (h:Q (.ret (.bool r0)) τ):PC 94 [.agg (aW a1),.agg (aW b1)] τ Q:=by
 unfold Im at hf; refine BN 13 [.tmp 4] [0,1] Tryz.func94 Z Z Z Z Z ?_; refine B1 hf fun x1 h1 hf=>W 4 Z (CL Z (Cq _ h1 ?_)); refine BR hf fun b2 h3 hf=>?_; refine U 2 Z (AR.dB 4 8 12 true [] b2 Z Z (fun h2=>?_) (fun h2=>?_) ?_)
 · refine IT 8 h2 h3 Z fun h3=>?_; refine B1 h3 fun x2 h4 h3=>U 1 Z (GO Z (AO.call Z _ Z Z apK (Cq _ h4 ?_))); cases h3; exact eG 2 Z (En [12] Z)
 · refine IF 8 h2 h3 Z fun h3=>?_; cases h3; exact eG 4 Z (En [12] Z)
 cases hf; exact N 1 Z (Y Z h)

theorem DW (a1:ak) (b1:ak) {r0:ak} (hf:nW a1 b1=some r0) (h:Q (.ret (.agg (aW r0))) τ):PC 58 [.agg (aW a1),.agg (aW b1)] τ Q:=by
 unfold nW at hf; refine BN 13 [.cell 4 54] [0,1] Tryz.func58 Z Z Z Z Z (W 2 Z (AS Z (AO.aF Z jk (fun b4=>?_)))); refine B1 hf fun x1 h1 hf=>U 2 Z (CL Z (Yk _ _ h1 (J 1 Z (C hf Z (fun h2 hf=>?_) fun h2 hf=>?_))))
 · refine BR hf fun x2 h3 hf=>?_; refine W 0 Z (CL Z (lU _ h3 ?_)); cases hf; exact Rx 1 [0] Z Z (ZC [0] Z Z h)
 refine BR hf fun x3 h4 hf=>?_; refine W 2 Z (CL Z (O0 _ _ h4 ?_)); cases hf; exact Rx 1 [0] Z Z (ZC [0] Z Z h)

theorem adQ (a1:ak) (b1:ak) {r0:ak} {r1:Int} (hf:J5 a1 b1=some (r0,r1)) (h:Q (.ret (.tuple [.agg (aW r0),iP r1])) τ):PC 146 [.agg (aW a1),.agg (aW b1)] τ Q:=by
 unfold J5 at hf; refine BN 44 [.cell 4 54,.tmp 5] [0,1] Tryz.func146 Z Z Z Z Z (W 2 Z (AS Z (AO.aF Z jk (fun b4=>?_)))); refine B1 hf fun x1 h1 hf=>U 2 Z (CL Z (jm _ h1 ?_)); refine B1 hf fun b2 h3 hf=>U 1 Z (AR.dB 3 9 12 true [2,3,4] b2 Z Z (fun h2=>?_) (fun h2=>?_) ?_)
 · refine IT 9 h2 h3 Z fun h3=>?_; refine BR h3 fun x2 h4 h3=>?_; refine U 1 Z (GO Z (AO.call Z _ Z Z R9 (jm _ h4 ?_))); cases h3; exact eG 1 Z (En [12,2,3,4] Z)
 · refine IF 9 h2 h3 Z fun h3=>?_; cases h3; exact eG 3 Z (En [12,2,3,4] Z)
 refine J 1 Z (C hf Z (fun h5 hf=>?_) fun h5 hf=>?_)
 ·
  refine W 4 Z (On 4 16 20 [4] (b1.kind == 0) Z Z Z Z (J 0 Z (C hf Z (fun h7 hf=>?_) fun h7 hf=>?_)))
  · refine B1 hf fun x3 h8 hf=>W 0 Z (CL Z (gH _ h8 ?_)); cases hf; exact Rx 2 [0] Z Z (ZC [0] Z Z h)
  refine B1 hf fun x4 h9 hf=>W 0 Z (CL Z (gH _ h9 ?_)); cases hf; exact Rx 2 [0] Z Z (ZC [0] Z Z h)
 refine B1 hf fun x5 h10 hf=>W 2 Z (CL Z (lK _ _ _ h10 (J 1 Z (C hf Z (fun h11 hf=>?_) fun h11 hf=>?_))))
 · refine B1 hf fun x6 h12 hf=>W 0 Z (CL Z (gH _ h12 ?_)); cases hf; exact Rx 2 [0] Z Z (ZC [0] Z Z h)
 refine B1 hf fun x7 jJ hf=>W 2 Z (CL Z (lK _ _ _ jJ (J 1 Z (C hf Z (fun j5 hf=>?_) fun j5 hf=>?_))))
 · refine B1 hf fun x8 mo hf=>W 0 Z (CL Z (gH _ mo ?_)); cases hf; exact Rx 2 [0] Z Z (ZC [0] Z Z h)
 refine B1 hf fun x9 h16 hf=>W 2 Z (CL Z (lK _ _ _ h16 (J 1 Z (C hf Z (fun qB hf=>?_) fun qB hf=>?_))))
 ·
  refine V 0 Z (AW.draw 6 mixed (by kernel_rfl) Z ?_); refine Ev.cs aG 1 Z ?_; refine B1 hf fun wS h18 hf=>Ev.cons Z Z Z (AO.call Z _ Z Z ajj (LD _ h18 zg)) (Ev.cs aG 1 Z ?_); refine B1 hf fun H8 h19 hf=>Ev.cons Z Z Z (AO.call Z _ Z Z ajj (LD _ h19 zg)) ?_; refine B1 hf fun LQ h20 hf=>Ev.cons Z Z Z (AO.call Z _ Z Z ai6 (DW _ _ h20 zg)) ?_; refine B1 hf fun Mg h21 hf=>Ev.cons Z Z Z (AO.call Z _ Z Z aaA (yg _ _ h21 zg)) (Ev.nil ?_)
  show AR _ _ _ _ _ _ _ _
  cases hf; exact Rx 2 [0] Z Z (ZC [0] Z Z h)
 cases hf; exact Wx 3 [0] Z Z (ZC [0] Z Z h)

theorem Xp (op1:Str) (a1:ak) (b1:ak) {r0:ak} {r1:Int} (hf:FJ op1 a1 b1=some (r0,r1)) (h:Q (.ret (.tuple [.agg (aW r0),iP r1])) τ):PC 91 [.str op1,.agg (aW a1),.agg (aW b1)] τ Q:=by
 unfold FJ at hf; refine BN 59 [.cell 6 54,.tmp 7] [0,1,2] Tryz.func91 Z Z Z Z Z (W 2 Z (AS Z (AO.aF Z jk (fun b6=>(J 6 Z (C hf Z (fun h1 hf=>?_) fun h1 hf=>?_))))))
 ·
  refine V 0 Z (AW.cond Z (fun h2=>?_) (fun h2=>?_))
  ·
   refine B1 hf fun x1 h3 hf=>W 1 Z (CL Z (qZ _ _ _ h3 (J 0 Z (C hf Z (fun h4 hf=>?_) fun h4 hf=>?_))))
   · refine B1 hf fun x2 h5 hf=>W 0 Z (CL Z (gH _ h5 ?_)); cases hf; exact Rx 2 [0] Z Z (ZC [0] Z Z h)
   cases hf; exact Wx 3 [0] Z Z (ZC [0] Z Z h)
  cases h1.symm.trans h2
 refine V 2 Z (C hf Z (fun h6 hf=>?_) fun h6 hf=>?_)
 ·
  refine B1 hf fun x3 h7 hf=>W 1 Z (CL Z (qZ _ _ _ h7 (J 0 Z (C hf Z (fun h8 hf=>?_) fun h8 hf=>?_))))
  · refine B1 hf fun x4 h9 hf=>W 0 Z (CL Z (gH _ h9 ?_)); cases hf; exact Rx 2 [0] Z Z (ZC [0] Z Z h)
  cases hf; exact Wx 3 [0] Z Z (ZC [0] Z Z h)
 refine V 2 Z (C hf Z (fun h10 hf=>?_) fun h10 hf=>?_)
 ·
  refine V 0 Z (AW.cond Z (fun h11=>?_) (fun h11=>?_))
  · refine B1 hf fun x5 h12 hf=>W 0 Z (CL Z (gH _ h12 ?_)); cases hf; exact Rx 2 [0] Z Z (ZC [0] Z Z h)
  cases h10.symm.trans h11
 refine V 2 Z (C hf Z (fun jJ hf=>?_) fun jJ hf=>?_)
 · refine B1 hf fun x6 j5 hf=>W 0 Z (CL Z (gH _ j5 ?_)); cases hf; exact Rx 2 [0] Z Z (ZC [0] Z Z h)
 refine V 2 Z (C hf Z (fun mo hf=>?_) fun mo hf=>?_)
 ·
  refine V 0 Z (AW.cond Z (fun h16=>?_) (fun h16=>?_))
  ·
   refine B1 hf fun x7 qB hf=>W 1 Z (CL Z (jm _ qB ?_)); refine B1 hf fun b2 h19 hf=>U 1 Z (AR.dB 3 28 31 true [4,5,6] b2 Z Z (fun h18=>?_) (fun h18=>?_) ?_)
   · refine IT 28 h18 h19 Z fun h19=>?_; refine BR h19 fun x8 h20 h19=>?_; refine U 1 Z (GO Z (AO.call Z _ Z Z R9 (jm _ h20 ?_))); cases h19; exact eG 1 Z (En [31,4,5,6] Z)
   · refine IF 28 h18 h19 Z fun h19=>?_; cases h19; exact eG 3 Z (En [31,4,5,6] Z)
   refine B1 hf fun b3 h22 hf=>U 1 Z (AR.dB 4 32 36 false [4,5,6] b3 Z Z (fun h21=>?_) (fun h21=>?_) ?_)
   · refine IF 32 h21 h22 Z fun h22=>?_; refine BR h22 fun x9 h23 h22=>?_; refine U 2 Z (GO Z (AO.call Z _ Z Z MW (lK _ _ _ h23 ?_))); cases h22; exact eG 1 Z (En [36,4,5,6] Z)
   · refine IT 32 h21 h22 Z fun h22=>?_; cases h22; exact eG 4 Z (En [36,4,5,6] Z)
   refine B1 hf fun b4 Cv hf=>U 1 Z (AR.dB 4 37 41 false [6] b4 Z Z (fun wT=>?_) (fun wT=>?_) ?_)
   · refine IF 37 wT Cv Z fun Cv=>?_; refine BR Cv fun wS Ic Cv=>?_; refine U 2 Z (GO Z (AO.call Z _ Z Z MW (lK _ _ _ Ic ?_))); cases Cv; exact eG 1 Z (En [41,6] Z)
   · refine IT 37 wT Cv Z fun Cv=>?_; cases Cv; exact eG 4 Z (En [41,6] Z)
   refine J 0 Z (C hf Z (fun h27 hf=>?_) fun h27 hf=>?_)
   · refine B1 hf fun H8 RQ hf=>W 0 Z (CL Z (gH _ RQ ?_)); cases hf; exact Rx 2 [0] Z Z (ZC [0] Z Z h)
   cases hf; exact Wx 3 [0] Z Z (ZC [0] Z Z h)
  cases mo.symm.trans h16
 refine V 2 Z (C hf Z (fun Na hf=>?_) fun Na hf=>?_)
 ·
  refine V 0 Z (AW.cond Z (fun LY=>?_) (fun LY=>?_))
  ·
   refine B1 hf fun LQ h31 hf=>W 1 Z (CL Z (jm _ h31 ?_)); refine B1 hf fun b5 Js hf=>U 1 Z (AR.dB 3 28 31 true [4,5,6] b5 Z Z (fun h32=>?_) (fun h32=>?_) ?_)
   · refine IT 28 h32 Js Z fun Js=>?_; refine BR Js fun Mg XE Js=>?_; refine U 1 Z (GO Z (AO.call Z _ Z Z R9 (jm _ XE ?_))); cases Js; exact eG 1 Z (En [31,4,5,6] Z)
   · refine IF 28 h32 Js Z fun Js=>?_; cases Js; exact eG 3 Z (En [31,4,5,6] Z)
   refine B1 hf fun b6 QZ hf=>U 1 Z (AR.dB 4 32 36 false [4,5,6] b6 Z Z (fun PK=>?_) (fun PK=>?_) ?_)
   · refine IF 32 PK QZ Z fun QZ=>?_; refine BR QZ fun RP h37 QZ=>?_; refine U 2 Z (GO Z (AO.call Z _ Z Z MW (lK _ _ _ h37 ?_))); cases QZ; exact eG 1 Z (En [36,4,5,6] Z)
   · refine IT 32 PK QZ Z fun QZ=>?_; cases QZ; exact eG 4 Z (En [36,4,5,6] Z)
   refine B1 hf fun b7 OC hf=>U 1 Z (AR.dB 4 37 41 false [6] b7 Z Z (fun UO=>?_) (fun UO=>?_) ?_)
   · refine IF 37 UO OC Z fun OC=>?_; refine BR OC fun RO h40 OC=>?_; refine U 2 Z (GO Z (AO.call Z _ Z Z MW (lK _ _ _ h40 ?_))); cases OC; exact eG 1 Z (En [41,6] Z)
   · refine IT 37 UO OC Z fun OC=>?_; cases OC; exact eG 4 Z (En [41,6] Z)
   refine J 0 Z (C hf Z (fun h41 hf=>?_) fun h41 hf=>?_)
   · refine B1 hf fun LP h42 hf=>W 0 Z (CL Z (gH _ h42 ?_)); cases hf; exact Rx 2 [0] Z Z (ZC [0] Z Z h)
   cases hf; exact Wx 3 [0] Z Z (ZC [0] Z Z h)
  cases Na.symm.trans LY
 refine V 2 Z (C hf Z (fun h43 hf=>?_) fun h43 hf=>?_)
 ·
  refine V 0 Z (AW.cond Z (fun h44=>?_) (fun h44=>?_))
  ·
   refine B1 hf fun XD h45 hf=>W 1 Z (CL Z (jm _ h45 ?_)); refine B1 hf fun b8 h47 hf=>U 1 Z (AR.dB 3 28 31 true [4,5,6] b8 Z Z (fun h46=>?_) (fun h46=>?_) ?_)
   · refine IT 28 h46 h47 Z fun h47=>?_; refine BR h47 fun x18 h48 h47=>?_; refine U 1 Z (GO Z (AO.call Z _ Z Z R9 (jm _ h48 ?_))); cases h47; exact eG 1 Z (En [31,4,5,6] Z)
   · refine IF 28 h46 h47 Z fun h47=>?_; cases h47; exact eG 3 Z (En [31,4,5,6] Z)
   refine B1 hf fun b9 h50 hf=>U 1 Z (AR.dB 4 32 36 false [4,5,6] b9 Z Z (fun h49=>?_) (fun h49=>?_) ?_)
   · refine IF 32 h49 h50 Z fun h50=>?_; refine BR h50 fun x19 h51 h50=>?_; refine U 2 Z (GO Z (AO.call Z _ Z Z MW (lK _ _ _ h51 ?_))); cases h50; exact eG 1 Z (En [36,4,5,6] Z)
   · refine IT 32 h49 h50 Z fun h50=>?_; cases h50; exact eG 4 Z (En [36,4,5,6] Z)
   refine B1 hf fun b10 Sr hf=>U 1 Z (AR.dB 4 37 41 false [6] b10 Z Z (fun h52=>?_) (fun h52=>?_) ?_)
   · refine IF 37 h52 Sr Z fun Sr=>?_; refine BR Sr fun x20 h54 Sr=>?_; refine U 2 Z (GO Z (AO.call Z _ Z Z MW (lK _ _ _ h54 ?_))); cases Sr; exact eG 1 Z (En [41,6] Z)
   · refine IT 37 h52 Sr Z fun Sr=>?_; cases Sr; exact eG 4 Z (En [41,6] Z)
   refine J 0 Z (C hf Z (fun h55 hf=>?_) fun h55 hf=>?_)
   · refine B1 hf fun x21 h56 hf=>W 0 Z (CL Z (gH _ h56 ?_)); cases hf; exact Rx 2 [0] Z Z (ZC [0] Z Z h)
   cases hf; exact Wx 3 [0] Z Z (ZC [0] Z Z h)
  cases h43.symm.trans h44
 refine V 2 Z (C hf Z (fun h57 hf=>?_) fun h57 hf=>?_)
 ·
  refine B1 hf fun x22 h58 hf=>W 1 Z (CL Z (jm _ h58 ?_)); refine B1 hf fun b11 h60 hf=>U 1 Z (AR.dB 3 28 31 true [4,5,6] b11 Z Z (fun h59=>?_) (fun h59=>?_) ?_)
  · refine IT 28 h59 h60 Z fun h60=>?_; refine BR h60 fun x23 h61 h60=>?_; refine U 1 Z (GO Z (AO.call Z _ Z Z R9 (jm _ h61 ?_))); cases h60; exact eG 1 Z (En [31,4,5,6] Z)
  · refine IF 28 h59 h60 Z fun h60=>?_; cases h60; exact eG 3 Z (En [31,4,5,6] Z)
  refine B1 hf fun b12 h63 hf=>U 1 Z (AR.dB 4 32 36 false [4,5,6] b12 Z Z (fun h62=>?_) (fun h62=>?_) ?_)
  · refine IF 32 h62 h63 Z fun h63=>?_; refine BR h63 fun x24 h64 h63=>?_; refine U 2 Z (GO Z (AO.call Z _ Z Z MW (lK _ _ _ h64 ?_))); cases h63; exact eG 1 Z (En [36,4,5,6] Z)
  · refine IT 32 h62 h63 Z fun h63=>?_; cases h63; exact eG 4 Z (En [36,4,5,6] Z)
  refine B1 hf fun b13 h66 hf=>U 1 Z (AR.dB 4 37 41 false [6] b13 Z Z (fun h65=>?_) (fun h65=>?_) ?_)
  · refine IF 37 h65 h66 Z fun h66=>?_; refine BR h66 fun x25 h67 h66=>?_; refine U 2 Z (GO Z (AO.call Z _ Z Z MW (lK _ _ _ h67 ?_))); cases h66; exact eG 1 Z (En [41,6] Z)
  · refine IT 37 h65 h66 Z fun h66=>?_; cases h66; exact eG 4 Z (En [41,6] Z)
  refine J 0 Z (C hf Z (fun h68 hf=>?_) fun h68 hf=>?_)
  · refine B1 hf fun x26 h69 hf=>W 0 Z (CL Z (gH _ h69 ?_)); cases hf; exact Rx 2 [0] Z Z (ZC [0] Z Z h)
  cases hf; exact Wx 3 [0] Z Z (ZC [0] Z Z h)
 refine V 2 Z (C hf Z (fun h70 hf=>?_) fun h70 hf=>?_)
 ·
  refine V 0 Z (AW.cond Z (fun h71=>?_) (fun h71=>?_))
  ·
   refine B1 hf fun x27 h72 hf=>W 1 Z (CL Z (qZ _ _ _ h72 (J 0 Z (C hf Z (fun h73 hf=>?_) fun h73 hf=>?_))))
   · refine B1 hf fun x28 h74 hf=>W 0 Z (CL Z (gH _ h74 ?_)); cases hf; exact Rx 2 [0] Z Z (ZC [0] Z Z h)
   cases hf; exact Wx 3 [0] Z Z (ZC [0] Z Z h)
  cases h70.symm.trans h71
 refine V 2 Z (C hf Z (fun h75 hf=>?_) fun h75 hf=>?_)
 ·
  refine V 0 Z (AW.cond Z (fun h76=>?_) (fun h76=>?_))
  ·
   refine B1 hf fun x29 h77 hf=>W 1 Z (CL Z (qZ _ _ _ h77 (J 0 Z (C hf Z (fun h78 hf=>?_) fun h78 hf=>?_))))
   · refine B1 hf fun x30 h79 hf=>W 0 Z (CL Z (gH _ h79 ?_)); cases hf; exact Rx 2 [0] Z Z (ZC [0] Z Z h)
   cases hf; exact Wx 3 [0] Z Z (ZC [0] Z Z h)
  cases h75.symm.trans h76
 refine V 2 Z (C hf Z (fun h80 hf=>?_) fun h80 hf=>?_)
 ·
  refine V 0 Z (AW.cond Z (fun h81=>?_) (fun h81=>?_))
  ·
   refine B1 hf fun x31 h82 hf=>W 1 Z (CL Z (qZ _ _ _ h82 (J 0 Z (C hf Z (fun h83 hf=>?_) fun h83 hf=>?_))))
   · refine B1 hf fun x32 h84 hf=>W 0 Z (CL Z (gH _ h84 ?_)); cases hf; exact Rx 2 [0] Z Z (ZC [0] Z Z h)
   cases hf; exact Wx 3 [0] Z Z (ZC [0] Z Z h)
  cases h80.symm.trans h81
 refine V 2 Z (C hf Z (fun h85 hf=>?_) fun h85 hf=>?_)
 ·
  refine B1 hf fun x33 h86 hf=>W 1 Z (CL Z (qZ _ _ _ h86 (J 0 Z (C hf Z (fun h87 hf=>?_) fun h87 hf=>?_))))
  · refine B1 hf fun x34 h88 hf=>W 0 Z (CL Z (gH _ h88 ?_)); cases hf; exact Rx 2 [0] Z Z (ZC [0] Z Z h)
  cases hf; exact Wx 3 [0] Z Z (ZC [0] Z Z h)
 refine V 2 Z (C hf Z (fun h89 hf=>?_) fun h89 hf=>?_)
 · replace hf:=(eH _).trans hf; obtain ⟨x35,x36,h90,hf⟩:=aV hf; refine W 2 Z (CL Z (adQ _ _ h90 ?_)); cases hf; exact Rx 4 [0] Z Z (ZC [0] Z Z h)
 cases hf; exact Wx 3 [0] Z Z (ZC [0] Z Z h)

theorem J8 (fE:Int) (yA:List ak) {r0:ak} {r1:Int} (hf:uS fE yA=some (r0,r1)) (h:Q (.ret (.tuple [.agg (aW r0),iP r1])) τ):PC 93 [iP fE,.list (ak.aU yA)] τ Q:=by
 unfold uS at hf; refine BN 29 [.cell 4 54,.tmp 5] [0,1] Tryz.func93 Z Z Z Z Z (W 0 Z (AS Z (AO.aF Z jk (fun b4=>?_)))); refine B1 hf fun x1 h1 hf=>U 1 Z (CL Z (gH _ h1 (AS Z (AO.aF Z jk (fun b6=>(Rr 2 [0] Z Z (AS Z (AO.aP (l:=yA) Z Z Z Z fZ Z (ak.aB _) ?_))))))))
 refine J 1 Z (Xy (fun x2 kg=>[(0,iP fE),(4,pP b4),(6,pP b6),(11,.list (ak.aU yA)),(12,iP (yA.length:Int)),(13,iP x2)]) (fun x2 kg=>[.box b6 (aW kg),.box b4 [iP 0,.own (.slice none 0 0) []]]) (fun bT x2 kg=>tF fE yA bT x2 kg=some (r0,r1)) BIG 0 x1 Z Z hf (fun _ _ hz=>bQ hz) ?_); intro bT x2 kg hf; rw [tF] at hf; refine V 1 Z (C hf Z (fun h2 hf=>?_) fun h2 hf=>?_)
 · refine B1 hf fun e1 h3 hf=>W 0 Z (AS Z (AO.aI h3 Z Z (ak.aB _) Z fZ (ak.aD _) Z (U 1 Z (AS Z (AO.aF Z jk (fun b8=>?_)))))); refine B1 hf fun x3 h4 hf=>Rr 3 [0,1,0] Z Z (CL Z (DW _ _ h4 (Rn 3 [1] Z Z (AR.drop1 ?_)))); exact N 0 Z ⟨(bZ (x2 + 1)),x3,Z,Z,Z,hf⟩
 refine B1 hf fun x4 h5 hf=>Wr 2 [0] Z Z (CL Z (yg _ _ h5 (AS Z (AO.aF Z jk (fun b9=>?_))))); refine B1 hf fun x5 h6 hf=>Rr 2 [0,0] Z Z (CL Z (Cq _ h6 (J 1 Z (C hf Z (fun h7 hf=>?_) fun h7 hf=>?_))))
 · cases hf; exact Wx 3 [2] Z Z (ZC [2] Z Z h)
 cases hf; exact Wx 3 [0,2] Z Z (ZC [2] Z Z h)


abbrev FP (iD:aj→List aH→Option (ak × Int)):Prop:=∀ (iY:aj) (eU:List aH) {aR:ak} {iW:Int},iD iY eU=some (aR,iW)→∀ {τ:List bJ} {Q:eT→List bJ→Prop} (h:Q (.ret (.tuple [.agg (aW aR),iP iW])) τ),PC 57 [.agg (bA iY),.list (List.map aH.cells eU)] τ Q
abbrev FQ (jT:aj→List aH→Option (ak × Int)):Prop:=∀ (iY:aj) (eU:List aH) {aR:ak} {iW:Int},jT iY eU=some (aR,iW)→∀ {τ:List bJ} {Q:eT→List bJ→Prop} (h:Q (.ret (.tuple [.agg (aW aR),iP iW])) τ),PC 84 [.agg (bA iY),.list (List.map aH.cells eU)] τ Q
abbrev Jc (j6:List aj→List aH→Option (List ak × Int)):Prop:=∀ (Uh:List aj) (eU:List aH) {aR:List ak} {iW:Int},j6 Uh eU=some (aR,iW)→∀ {τ:List bJ} {Q:eT→List bJ→Prop} (h:Q (.ret (.tuple [.list (ak.aU aR),iP iW])) τ),PC 85 [.list (aj.aU Uh),.list (List.map aH.cells eU)] τ Q
theorem aad (iD) (G5:FP iD) (jT) (G6:FQ jT) (j6) (DU:Jc j6) (e1:aj) (cB:List aH) {r0:ak} {r1:Int} (hf:FI iD jT j6 e1 cB=some (r0,r1)) (h:Q (.ret (.tuple [.agg (aW r0),iP r1])) τ):PC 57 [.agg (bA e1),.list (List.map aH.cells cB)] τ Q:=by
 unfold FI at hf; refine BN 110 [.cell 4 54,.tmp 5] [0,1] Tryz.func57 Z Z Z Z Z (W 1 Z (AS Z (AO.aF Z jk (fun b4=>(J 4 Z (C hf Z (fun h1 hf=>?_) fun h1 hf=>?_))))))
 · replace hf:=(eH _).trans hf; obtain ⟨x1,x2,h2,hf⟩:=aV hf; refine W 2 Z (CL Z (G6 _ _ h2 ?_)); cases hf; exact Rx 4 [0] Z Z (ZC [0] Z Z h)
 obtain ⟨yA,f1,h3,hf⟩:=aV hf; refine W 3 Z (CL Z (DU _ _ h3 (J 7 Z (C hf Z (fun h4 hf=>?_) fun h4 hf=>?_))))
 · cases hf; exact Wx 4 [0] Z Z (ZC [0] Z Z h)
 refine V 4 Z (C hf Z (fun h5 hf=>?_) fun h5 hf=>?_)
 · refine B1 hf fun x3 h6 hf=>W 2 Z (CL Z (adw _ h6 ?_)); cases hf; exact Rx 2 [0] Z Z (ZC [0] Z Z h)
 refine V 2 Z (C hf Z (fun h7 hf=>?_) fun h7 hf=>?_)
 · replace hf:=(eH _).trans hf; obtain ⟨x4,x5,h8,hf⟩:=aV hf; refine W 3 Z (CL Z (S_ _ _ h8 ?_)); cases hf; exact Rx 4 [0] Z Z (ZC [0] Z Z h)
 refine V 2 Z (C hf Z (fun h9 hf=>?_) fun h9 hf=>?_)
 · refine B1 hf fun e2 h10 hf=>W 1 Z (AS Z (AO.aI h10 Z Z (ak.aB _) Z fZ (ak.aD _) Z ?_)); replace hf:=(eH _).trans hf; obtain ⟨x6,x7,h11,hf⟩:=aV hf; refine U 1 Z (CL Z (Xo _ h11 ?_)); cases hf; exact Rx 4 [0] Z Z (ZC [0] Z Z h)
 refine V 2 Z (C hf Z (fun h12 hf=>?_) fun h12 hf=>?_)
 ·
  refine V 0 Z (AW.draw 9 mixed (by kernel_rfl) Z ?_); refine Ev.cs aG 1 Z ?_; refine B1 hf fun e3 jJ hf=>Ev.cons Z Z Z (AO.aI jJ Z Z (ak.aB _) Z fZ (ak.aD _) Z zg) (Ev.cs aG 2 Z ?_); refine B1 hf fun e4 j5 hf=>Ev.cons Z Z Z (AO.aI j5 Z Z (ak.aB _) Z fZ (ak.aD _) Z zg) (Ev.cs aG 1 Z ?_); replace hf:=(eH _).trans hf; obtain ⟨x8,x9,mo,hf⟩:=aV hf
  refine Ev.cons Z Z Z (AO.call Z _ Z Z apJ (YE _ _ mo zg)) (Ev.cs aG 2 Z (Ev.nil ?_)); show AR _ _ _ _ _ _ _ _
  cases hf; exact Rx 2 [0] Z Z (ZC [0] Z Z h)
 refine V 2 Z (C hf Z (fun h16 hf=>?_) fun h16 hf=>?_)
 ·
  refine V 0 Z (AW.draw 8 mixed (by kernel_rfl) Z ?_); refine Ev.cs aG 3 Z ?_; refine B1 hf fun e5 qB hf=>Ev.cons Z Z Z (AO.aI qB Z Z (ak.aB _) Z fZ (ak.aD _) Z zg) (Ev.cs aG 1 Z ?_); replace hf:=(eH _).trans hf; obtain ⟨wS,H8,h18,hf⟩:=aV hf; refine Ev.cons Z Z Z (AO.call Z _ Z Z apI (YC _ _ h18 zg)) (Ev.cs aG 2 Z (Ev.nil ?_)); show AR _ _ _ _ _ _ _ _
  cases hf; exact Rx 2 [0] Z Z (ZC [0] Z Z h)
 refine V 2 Z (C hf Z (fun h19 hf=>?_) fun h19 hf=>?_)
 ·
  refine V 0 Z (AW.draw 11 mixed (by kernel_rfl) Z ?_); refine Ev.cs aG 3 Z ?_; refine B1 hf fun e6 h20 hf=>Ev.cons Z Z Z (AO.aI h20 Z Z (ak.aB _) Z fZ (ak.aD _) Z zg) (Ev.cs aG 2 Z ?_); refine B1 hf fun e7 h21 hf=>Ev.cons Z Z Z (AO.aI h21 Z Z (ak.aB _) Z fZ (ak.aD _) Z zg) (Ev.cs aG 1 Z ?_); replace hf:=(eH _).trans hf; obtain ⟨LQ,Mg,h22,hf⟩:=aV hf
  refine Ev.cons Z Z Z (AO.call Z _ Z Z apH (Xp _ _ _ h22 zg)) (Ev.cs aG 2 Z (Ev.nil ?_)); show AR _ _ _ _ _ _ _ _
  cases hf; exact Rx 2 [0] Z Z (ZC [0] Z Z h)
 refine V 2 Z (C hf Z (fun h23 hf=>?_) fun h23 hf=>?_)
 ·
  refine V 0 Z (AW.draw 6 mixed (by kernel_rfl) Z ?_); refine Ev.cs aG 1 Z ?_; refine B1 hf fun e8 wT hf=>Ev.cons Z Z Z (AO.aI wT Z Z (ak.aB _) Z fZ (ak.aD _) Z zg) (Ev.cs aG 1 Z ?_); refine B1 hf fun RP Cv hf=>Ev.cons Z Z Z (AO.call Z _ Z Z VD (gH _ Cv zg)) ?_; refine B1 hf fun RO Ic hf=>Ev.cons Z Z Z (AO.call Z _ Z Z VB (lJ _ _ Ic zg)) (Ev.cs aG 1 Z (Ev.nil ?_)); show AR _ _ _ _ _ _ _ _
  refine J 0 Z (C hf Z (fun h27 hf=>?_) fun h27 hf=>?_)
  · cases hf; exact Wx 3 [0] Z Z (ZC [0] Z Z h)
  refine V 0 Z (AW.draw 7 mixed (by kernel_rfl) Z ?_); refine Ev.cs aG 1 Z ?_; refine B1 hf fun e9 RQ hf=>Ev.cons Z Z Z (AO.aI RQ Z Z (ak.aB _) Z fZ (ak.aD _) Z zg) (Ev.cs aG 2 Z ?_); refine B1 hf fun e10 Na hf=>Ev.cons Z Z Z (AO.aI Na Z Z (ak.aB _) Z fZ (ak.aD _) Z zg) (Ev.cs aG 1 Z ?_); refine B1 hf fun LP LY hf=>Ev.cons Z Z Z (AO.call Z _ Z Z ai6 (DW _ _ LY zg)) (Ev.nil ?_); show AR _ _ _ _ _ _ _ _
  cases hf; exact Rx 2 [0] Z Z (ZC [0] Z Z h)
 refine V 2 Z (C hf Z (fun h31 hf=>?_) fun h31 hf=>?_)
 · replace hf:=(eH _).trans hf; obtain ⟨XD,x18,h32,hf⟩:=aV hf; refine W 1 Z (CL Z (J8 _ _ h32 ?_)); cases hf; exact Rx 4 [0] Z Z (ZC [0] Z Z h)
 replace hf:=(eH _).trans hf; obtain ⟨x19,x20,Js,hf⟩:=aV hf; refine W 1 Z (CL Z (J8 _ _ Js ?_)); cases hf; exact Rx 4 [0] Z Z (ZC [0] Z Z h)
theorem aae (iD) (G5:FP iD) (jT) (G6:FQ jT) (j6) (DU:Jc j6) (e1:aj) (cB:List aH) {r0:ak} {r1:Int} (hf:Cn iD jT j6 e1 cB=some (r0,r1)) (h:Q (.ret (.tuple [.agg (aW r0),iP r1])) τ):PC 84 [.agg (bA e1),.list (List.map aH.cells cB)] τ Q:=by
 unfold Cn at hf; refine BN 69 [.cell 4 54,.tmp 5] [0,1] Tryz.func84 Z Z Z Z Z (W 1 Z (AS Z (AO.aF Z jk (fun b4=>?_)))); obtain ⟨kK,x1,h1,hf⟩:=aV hf; refine U 3 Z (CL Z (Qf _ h1 (U 3 Z (AS Z (AO.aF Z jk (fun b7=>(Rr 3 [0] Z Z (AS Z (AO.aP (l:=kK) Z Z Z Z aa3 Z Z (J 1 Z (C hf Z (fun h2 hf=>?_) fun h2 hf=>?_)))))))))))
 · cases hf; exact Wx 3 [1] Z Z (ZC [1] Z Z h)
 refine V 0 Z (AW.draw 8 mixed (by kernel_rfl) Z ?_); refine Ev.cs aG 2 Z (Ev.cons Z Z Z (AO.aP (l:=e1.args) Z Z Z Z iT Z (aj.aB _) zg) (Ev.cs aG 1 Z ?_)); refine B1 hf fun e2 h3 hf=>Ev.cons Z Z Z (AO.aI h3 Z Z Z Z aa3 Z Z zg) (Ev.cs aG 1 Z (Ev.cons Z Z Z (AO.aP (l:=e2) Z Z Z Z fZ Z (ak.aB _) zg) (Ev.cs aG 1 Z ?_))); refine Ev.nil ?_; show AR _ _ _ _ _ _ _ _
 refine J 0 Z (C hf Z (fun h4 hf=>?_) fun h4 hf=>?_)
 · cases hf; exact Wx 3 [1] Z Z (ZC [1] Z Z h)
 obtain ⟨yA,f1,h5,hf⟩:=aV hf; refine W 3 Z (CL Z (DU _ _ h5 (J 7 Z (C hf Z (fun h6 hf=>?_) fun h6 hf=>?_))))
 · cases hf; exact Wx 4 [1] Z Z (ZC [1] Z Z h)
 refine W 1 Z (AS Z (AO.aP (l:=kK) Z Z Z Z aa3 Z Z ?_)); refine J 1 Z (Gh (fun x2=>[(2,.ref (bA e1)),(4,pP b4),(7,pP b7),(8,.list (ak.aU yA)),(42,.list (List.map ak.uz kK)),(43,iP (kK.length:Int)),(44,iP x2)]) (fun x2=>[.box b7 (aW x1),.box b4 [iP 0,.own (.slice none 0 0) []]]) (fun bT x2=>pq e1 kK x1 yA bT x2=some (r0,r1)) BIG 0 Z Z hf (fun _ hz=>bQ hz) ?_); intro bT x2 hf; rw [pq] at hf
 refine V 1 Z (C hf Z (fun h7 hf=>?_) fun h7 hf=>?_)
 ·
  refine B1 hf fun D7 h8 hf=>W 0 Z (AS Z (AO.aI h8 Z Z Z Z aa3 Z Z ?_)); refine B1 hf fun x3 h9 hf=>U 4 Z (CL Z (YD _ _ h9 (J 1 Z (C hf Z (fun h10 hf=>?_) fun h10 hf=>?_))))
  · exact M 2 Z ⟨(bZ (x2 + 1)),Z,Z,Z,hf⟩
  refine V 3 Z (C hf Z (fun h11 hf=>?_) fun h11 hf=>?_)
  · cases hf; exact Wx 3 [0,1] Z Z (ZC [1] Z Z h)
  refine B1 hf fun e3 h12 hf=>W 1 Z (AS Z (AO.aI h12 Z Z (ak.aB _) Z fZ (ak.aD _) Z (J 3 Z (C hf Z (fun jJ hf=>?_) fun jJ hf=>?_))))
  · refine B1 hf fun e4 j5 hf=>W 1 Z (AS Z (AO.aI j5 Z Z (ak.aB _) Z fZ (ak.aD _) Z ?_)); cases hf; exact Rx 3 [1] Z Z (ZC [1] Z Z h)
  refine B1 hf fun e5 mo hf=>W 1 Z (AS Z (AO.aI mo Z Z (ak.aB _) Z fZ (ak.aD _) Z ?_)); cases hf; exact Rx 3 [1] Z Z (ZC [1] Z Z h)
 cases hf; exact Wx 3 [1] Z Z (ZC [1] Z Z h)
theorem abQ (iD) (G5:FP iD) (jT) (G6:FQ jT) (j6) (DU:Jc j6) (l1:List aj) (cB:List aH) {r0:List ak} {r1:Int} (hf:Nt iD jT j6 l1 cB=some (r0,r1)) (h:Q (.ret (.tuple [.list (ak.aU r0),iP r1])) τ):PC 85 [.list (aj.aU l1),.list (List.map aH.cells cB)] τ Q:=by
 unfold Nt at hf
 refine BN 32 [.tmp 4,.tmp 5] [0,1] Tryz.func85 Z Z Z Z Z (W 0 Z (AS Z (AO.mh Z Z (U 3 Z (AS Z (AO.aP (l:=l1) Z Z Z Z iT Z (aj.aB _) (J 1 Z (AW.row 2 54 (ZU (fun bH v1 x1=>[(1,.list (List.map aH.cells cB)),(6,.own v1 (ak.aU bH)),(11,.list (aj.aU l1)),(12,iP (l1.length:Int)),(13,iP x1)]) (fun bH v1 x1=>[.row v1 (ak.aU bH).length 2 54]) (fun bT bH v1 x1=>qJ iD l1 cB bT bH x1=some (r0,r1)) BIG [] (.slice none 0 0) 0 Z Z hf (fun _ _ _ hz=>bQ hz) ?_)))))))))
 intro bT bH v1 x1 hf; rw [qJ] at hf; refine V 1 Z (C hf Z (fun h1 hf=>?_) fun h1 hf=>?_)
 ·
  refine B1 hf fun e1 h2 hf=>W 0 Z (AS Z (AO.aI h2 Z Z (aj.aB _) Z iT (aj.aD _) Z (U 1 Z (AS Z (AO.aF Z rC (fun b8=>?_)))))); obtain ⟨x2,f1,h3,hf⟩:=aV hf; refine Rr 3 [0,0] Z Z (CL Z (G5 _ _ h3 (U 3 Z (AS Z (AO.aF Z jk (fun b9=>(Rw 4 [0] Z Z (C hf Z (fun h4 hf=>?_) fun h4 hf=>?_))))))))
  · refine W 1 Z (AS Z (AO.mh Z Z ?_)); cases hf; exact N 1 Z (Y Z h)
  refine Wr 2 [0] rfl rfl (AS rfl (AO.aS (ak.aU [x2]) rfl uZ rfl rfl rfl (by first | rfl | simp only [List.map,ak.aD,ak.aU]) ?_)); refine B1 hf fun yS h5 hf=>AS Z (AO.fK (i:=2) (l:=bH) (m:=[x2]) h5 Z Z Z Z Z Z Z uZ fZ (ak.aB _) (ak.aB _) (ak.aB _).symm (ak.dD) (ak.cells_one) (by decide) (fun v2 s1 hs1=>?_)); cases hs1; refine eG 3 Z (AR.drop1 (AR.drop1 ?_)); exact N 0 Z ⟨yS,v2,(bZ (x1 + 1)),Z,Z,Z,hf⟩
 cases hf; exact M 3 Z (Y Z h)
theorem KI :∀ k:Nat,(FP (iN k))∧(FQ (nR k))∧(Jc (mD k)):=by
 intro k
 induction k with
 | zero=>exact ⟨fun _ _ _ _ hz=>by first | cases hz | (unfold iN at hz; cases hz),fun _ _ _ _ hz=>by first | cases hz | (unfold nR at hz; cases hz),fun _ _ _ _ hz=>by first | cases hz | (unfold mD at hz; cases hz)⟩
 | succ k ih=>exact ⟨fun iY eU aR iW hz τ Q hq=>aad (iN k) ih.1 (nR k) ih.2.1 (mD k) ih.2.2 iY eU hz hq,fun iY eU aR iW hz τ Q hq=>aae (iN k) ih.1 (nR k) ih.2.1 (mD k) ih.2.2 iY eU hz hq,fun Uh eU aR iW hz τ Q hq=>abQ (iN k) ih.1 (nR k) ih.2.1 (mD k) ih.2.2 Uh eU hz hq⟩
theorem aby (iY:aj) (eU:List aH) {aR:ak} {iW:Int} (hf:PZ iY eU=some (aR,iW)) (h:Q (.ret (.tuple [.agg (aW aR),iP iW])) τ):PC 57 [.agg (bA iY),.list (List.map aH.cells eU)] τ Q:=
 ((KI BIG).1) iY eU hf h
theorem amf (iY:aj) (eU:List aH) {aR:ak} {iW:Int} (hf:afb iY eU=some (aR,iW)) (h:Q (.ret (.tuple [.agg (aW aR),iP iW])) τ):PC 84 [.agg (bA iY),.list (List.map aH.cells eU)] τ Q:=
 ((KI BIG).2.1) iY eU hf h
theorem anb (Uh:List aj) (eU:List aH) {aR:List ak} {iW:Int} (hf:ahJ Uh eU=some (aR,iW)) (h:Q (.ret (.tuple [.list (ak.aU aR),iP iW])) τ):PC 85 [.list (aj.aU Uh),.list (List.map aH.cells eU)] τ Q:=
 ((KI BIG).2.2) Uh eU hf h

theorem abz (e1:aj) (cB:List aH) {r0:ak} {r1:Int} (hf:xX e1 cB=some (r0,r1)) (h:Q (.ret (.tuple [.agg (aW r0),iP r1])) τ):PC 36 [.agg (bA e1),.list (List.map aH.cells cB)] τ Q:=by
 unfold xX at hf; refine BN 35 [.cell 4 54,.tmp 5] [0,1] Tryz.func36 Z Z Z Z Z (W 1 Z (AS Z (AO.aF Z jk (fun b4=>?_)))); refine B1 hf fun f1 h1 hf=>U 2 Z (CL Z (adR _ h1 (J 3 Z (C hf Z (fun h2 hf=>?_) fun h2 hf=>?_))))
 · cases hf; exact Wx 4 [0] Z Z (ZC [0] Z Z h)
 refine B1 hf fun f2 h3 hf=>W 1 Z (CL Z (xY _ h3 (J 3 Z (C hf Z (fun h4 hf=>?_) fun h4 hf=>?_))))
 · cases hf; exact Wx 4 [0] Z Z (ZC [0] Z Z h)
 obtain ⟨x1,f3,h5,hf⟩:=aV hf; refine W 2 Z (CL Z (aby _ _ h5 (U 3 Z (AS Z (AO.aF Z jk (fun b8=>(Rw 4 [0] Z Z (C hf Z (fun h6 hf=>?_) fun h6 hf=>?_))))))))
 · cases hf; exact Wx 4 [1] Z Z (ZC [1] Z Z h)
 refine V 0 Z (AW.draw 3 mixed (by kernel_rfl) Z ?_); refine Ev.cons Z Z Z (AO.aY (i:=0) Z Z Z bI Z Z zg) ?_; refine B1 hf fun x2 h7 hf=>Ev.cons Z Z Z (AO.call Z _ Z Z VD (gH _ h7 zg)) ?_; refine B1 hf fun x3 h8 hf=>Ev.cons Z Z Z (AO.call Z _ Z Z ai6 (DW _ _ h8 zg)) (Ev.nil ?_); show AR _ _ _ _ _ _ _ _
 cases hf; exact Rx 2 [1] Z Z (ZC [1] Z Z h)

theorem tO (fD:aj) (bG:List aH) {r0:Int} (hf:je fD bG=some r0) (h:Q (.ret (iP r0)) τ):PC 16 [.agg (bA fD),.list (List.map aH.cells bG)] τ Q:=by
 unfold je at hf
 refine AC.none (AC.yU 41 [.tmp 4] [0,1] Tryz.func16 Z Z Z Z Z (AW.sr (AR.step Z Z Z (AO.Ot Z Z Z ?_))))
 refine cs 1 Z (AR.nil [1,2] Z (AW.sr (cs 1 Z ?_)))
 refine AR.nil [1,2,5] Z (AW.seq (AW.sr ?_))
 refine B1 hf fun x1 h1 hf=>?_
 refine AR.step Z Z Z (AO.call Z _ Z Z amO (E8 _ _ h1 (AR.step Z Z Z (AO.aP (l:=x1) Z Z Z Z jN Z Z (cs 1 Z (AR.nil [1,2,5,10,11,12] Z ?_))))))
 refine AW.block (AW.row 3 57 (AW.settle [1,2,5,10,11,12] Z ?_))
 refine AW.aop (fun decls1 v1 x2=>[(1,.list (List.map aH.cells bG)),(2,.ref (bA fD)),(5,.own v1 (List.map aH.cells decls1)),(10,.list (List.map aA.cells x1)),(11,iP (x1.length:Int)),(12,iP x2)]) (fun decls1 v1 x2=>[.row v1 (List.map aH.cells decls1).length 3 57]) (fun bT decls1 v1 x2=>rQ fD bG x1 bT decls1 x2=some r0) BIG [] (.slice none 0 0) 0 Z Z hf (fun _ _ _ hz=>bQ hz) ?_
 intro bT decls1 v1 x2 hf
 rw [rQ] at hf
 refine AW.sr (cs 1 Z (AR.nil [1,2,5,10,11,12,13] Z (AW.seq ?_)))
 refine AW.cond Z (fun h2=>?_) (fun h2=>?_)
 ·
  replace hf:=cO h2 hf
  refine AW.skip (AW.seq (AW.block (AW.sr ?_)))
  refine B1 hf fun e1 h3 hf=>?_
  refine AR.step Z Z Z (AO.aI h3 Z Z Z Z jN (aA.aD _) Z (cs 1 Z (AR.step Z Z Z (AO.aF Z OH (fun b7=>(AR.dh Z Z (AO.dW (i:=0) Z Z Z apv Z Z Z Z Z ?_)))))))
  refine AR.nil [1,2,5,7,10,11,12] Z (AW.region (cs 2 Z (AR.step Z Z Z (AO.aY (i:=0) Z Z Z abZ Z Z ?_))))
  refine AR.step rfl rfl rfl (AO.build rfl jk anv rfl (AR.step rfl rfl rfl (AO.build rfl afF aiN rfl (AR.step rfl rfl rfl (AO.aS (List.map aH.cells [(aH.mk e1.name (ak.mk 2 []))]) rfl Qy rfl rfl rfl (by first | rfl | simp only [List.map,aH.aD]) ?_)))))
  refine B1 hf fun decls2 h4 hf=>?_
  refine AR.step Z Z Z (AO.fK (i:=1) (l:=decls1) (m:=[(aH.mk e1.name (ak.mk 2 []))]) h4 Z Z Z Z Z Z Z Qy Bb Z Z Z (aH.dD) (aH.cells_one) (by decide) (fun v2 s1 hs1=>?_))
  cases hs1
  refine cs 1 Z (AR.nil [1,2,5,10,11,12] Z (AW.region (cs 2 Z ?_)))
  refine AR.drop1 (AR.nil [1,2,5,10,11,12] Z ?_)
  exact ⟨decls2,v2,(bZ (x2 + 1)),Z,Z,Z,hf⟩
 ·
  replace hf:=cZ h2 hf
  refine AW.exit (AW.seq ?_)
  refine B1 hf fun x3 h5 hf=>?_
  obtain ⟨x4,e2,h6,hf⟩:=aV hf
  refine AW.aqG 3 10 [] [.row v1 (List.map aH.cells decls1).length 3 57] (fun S e s=>∃ (v':Value) (b:Nat),e.get 25=.agg (bA fD)∧e.get 26=.own v1 (List.map aH.cells decls1)∧e.get 27=.list (List.map aH.cells bG)∧(S 3=true→e.get 28=.own v' (List.map aH.cells x3))∧(S 4=true→e.get 29=.tuple [.agg (aW x4),iP e2])∧(S 5=true→e.get 24=.tuple [.agg (aW x4),iP e2])∧(S 6=true→e.get 30=.agg (aW x4))∧(S 7=true→e.get 31=iP e2)∧(S 8=true→e.get 8=pP b)∧(S 9=true→S 8=true)∧s=(bif S 8 then [.box b (bif S 9 then (aW x4) else [iP 0,.own (.slice none 0 0) []])] else []) ++ [bif S 3 then .row v' (List.map aH.cells x3).length 3 57 else .row v1 (List.map aH.cells decls1).length 3 57]) mixed (by kernel_rfl) Z Z (List.Perm.refl _) ?_ ?_ ?_ ?_
  ·
   refine Ev.cs aG 3 Z (Ev.nil ?_)
   exact ⟨v1,0,Z,Z,Z,(fun h=>by cases h),(fun h=>by cases h),(fun h=>by cases h),(fun h=>by cases h),(fun h=>by cases h),(fun h=>by cases h),(fun h=>by cases h),Z⟩
  ·
   rintro S S' e s hS ⟨v',b,q1,q2,q3,q4,q5,q6,q7,q8,q9,qa,qb⟩
   have z:=fun i h1 h2=>(hS i h1 h2).symm
   refine ⟨v',b,q1,q2,q3,?_,?_,?_,?_,?_,?_,?_,?_⟩
   ·
    rw [z 3 (by decide) (by decide)]; exact q4
   ·
    rw [z 4 (by decide) (by decide)]; exact q5
   ·
    rw [z 5 (by decide) (by decide)]; exact q6
   ·
    rw [z 6 (by decide) (by decide)]; exact q7
   ·
    rw [z 7 (by decide) (by decide)]; exact q8
   ·
    rw [z 8 (by decide) (by decide)]; exact q9
   ·
    rw [z 9 (by decide) (by decide),z 8 (by decide) (by decide)]; exact qa
   ·
    rw [z 3 (by decide) (by decide),z 8 (by decide) (by decide),z 9 (by decide) (by decide)]; exact qb
  ·
   rintro S e s i o ⟨v',b,q1,q2,q3,q4,q5,q6,q7,q8,q9,qa,rfl⟩ hi1 hi2 hSi hp ho
   have hi:i=3∨i=4∨i=5∨i=6∨i=7∨i=8∨i=9:=by omega
   rcases hi with rfl | rfl | rfl | rfl | rfl | rfl | rfl
   ·
    cases ho
    refine ⟨Z,(fun t ht=>by cases ht; decide),AO.less (Less.add q2 (Less.add q3 Less.nil)) ?_⟩
    cases h8:S 8 with
    | false=>
     rw [hSi]
     refine AO.fK (i:=0) (l:=decls1) (m:=bG) h5 Z Z Z Z Z Z Z Qy Bb Z Z Z (aH.dD) (aH.cells_one) (by decide) (fun v3 s2 hs2=>?_)
     cases hs2
     exact ⟨v3,b,q1,q2,q3,(fun _=>Z),q5,q6,q7,q8,(fun h=>by rw [show S 8=true from h] at h8; cases h8),qa,by simp [h8]⟩
    | true=>
     rw [hSi]
     refine AO.fK (i:=1) (l:=decls1) (m:=bG) h5 Z Z Z Z Z Z Z Qy Bb Z Z Z (aH.dD) (aH.cells_one) (by decide) (fun v3 s2 hs2=>?_)
     cases hs2
     exact ⟨v3,b,q1,q2,q3,(fun _=>Z),q5,q6,q7,q8,q9,qa,by simp [h8]⟩
   ·
    cases ho
    have s3:=hp 3 (any_beq.1 Z) (by decide)
    refine ⟨Z,(fun t ht=>by cases ht; decide),AO.less (Less.add q1 (Less.add (q4 s3) Less.nil)) ?_⟩
    refine AO.call Z _ Z Z apV (abz _ _ h6 ?_)
    exact ⟨v',b,q1,q2,q3,q4,(fun _=>Z),q6,q7,q8,q9,qa,Z⟩
   ·
    cases ho
    have s4:=hp 4 (any_beq.1 Z) (by decide)
    refine ⟨Z,(fun t ht=>by cases ht; decide),AO.less (Less.add (q5 s4) Less.nil) (AO.calc' Z ?_)⟩
    exact ⟨v',b,q1,q2,q3,q4,q5,(fun _=>Z),q7,q8,q9,qa,Z⟩
   ·
    cases ho
    have s5:=hp 5 (any_beq.1 Z) (by decide)
    refine ⟨Z,(fun t ht=>by cases ht; decide),AO.less (Less.add (q6 s5) Less.nil) (AO.calc' Z ?_)⟩
    exact ⟨v',b,q1,q2,q3,q4,q5,q6,(fun _=>Z),q8,q9,qa,Z⟩
   ·
    cases ho
    have s5:=hp 5 (any_beq.1 Z) (by decide)
    refine ⟨Z,(fun t ht=>by cases ht; decide),AO.less (Less.add (q6 s5) Less.nil) (AO.calc' Z ?_)⟩
    exact ⟨v',b,q1,q2,q3,q4,q5,q6,q7,(fun _=>Z),q9,qa,Z⟩
   ·
    cases ho
    have h9:S 9=false:=Bool.eq_false_iff.2 fun h9=>by rw [qa h9] at hSi; cases hSi
    rw [hSi,h9]
    refine ⟨Z,(fun t ht=>by cases ht; decide),AO.aF Z jk (fun b8=>?_)⟩
    exact ⟨v',b8,q1,q2,q3,q4,q5,q6,q7,q8,(fun _=>Z),(fun _=>Z),by simp [h9]⟩
   ·
    cases ho
    have s8:=hp 8 (any_beq.1 Z) (by decide)
    have s6:=hp 6 (any_beq.1 Z) (by decide)
    rw [s8,hSi]
    refine ⟨Z,(fun t ht=>by cases ht),AO.less (Less.add (q9 s8) (Less.add (q7 s6) Less.nil)) ?_⟩
    refine AO.dW (i:=0) Z Z Z bI Z Z Z Z Z ?_
    exact ⟨v',b,q1,q2,q3,q4,q5,q6,q7,q8,q9,(fun _=>s8),by simp [s8]⟩
  rintro S e s hS ⟨v',b8,q1,q2,q3,q4,q5,q6,q7,q8,q9,qa,rfl⟩
  rw [hS 3 (by decide) (by decide),hS 8 (by decide) (by decide),hS 9 (by decide) (by decide)]
  refine AR.less (Less.add (q9 (hS 8 (by decide) (by decide))) (Less.add (q8 (hS 7 (by decide) (by decide))) Less.nil)) ?_
  refine cs 1 Z (AR.nil [8,9] Z (AW.seq (AW.sr ?_)))
  refine cs 2 Z (AR.nil [8,9,33] Z (AW.cond Z (fun h7=>?_) (fun h7=>?_)))
  ·
   replace hf:=cO h7 hf
   refine AW.sr (cs 2 Z (AR.nil [4] Z (AW.ret ?_)))
   cases hf
   exact ⟨rfl,_,⟨_,_,rfl,rfl,rfl⟩,[],List.nil_sublist _,h⟩
  ·
   replace hf:=cZ h7 hf
   refine AW.skip (AW.seq (AW.sr (cs 1 Z ?_)))
   refine AR.step Z Z Z (AO.aY (i:=0) Z Z Z EP Z Z (AR.nil [36] Z (AW.block (AW.seq ?_))))
   refine AW.sr (cs 2 Z (AR.nil [36,37] Z (AW.cond Z (fun h8=>?_) (fun h8=>?_))))
   ·
    replace hf:=cO h8 hf
    refine AW.skip (AW.cond Z (fun h9=>?_) (fun h9=>?_))
    ·
     refine AW.sr (cs 1 Z (AR.nil [4] Z (AW.ret ?_)))
     cases hf
     exact ⟨rfl,_,⟨_,_,rfl,rfl,rfl⟩,[],List.nil_sublist _,h⟩
    ·
     cases h8.symm.trans h9
   ·
    replace hf:=cZ h8 hf
    refine AW.sr (cs 2 Z (AR.nil [36,37] Z (AW.cond Z (fun h10=>?_) (fun h10=>?_))))
    ·
     replace hf:=cO h10 hf
     refine AW.skip (AW.cond Z (fun h11=>?_) (fun h11=>?_))
     ·
      refine AW.sr (cs 1 Z (AR.nil [4] Z (AW.ret ?_)))
      cases hf
      exact ⟨rfl,_,⟨_,_,rfl,rfl,rfl⟩,[],List.nil_sublist _,h⟩
     ·
      cases h10.symm.trans h11
    ·
     replace hf:=cZ h10 hf
     refine AW.region (cs 2 Z (AR.nil [37] Z (AW.cond Z (fun h12=>?_) (fun h12=>?_))))
     ·
      replace hf:=cO h12 hf
      refine AW.sr (cs 1 Z (AR.nil [4] Z (AW.ret ?_)))
      cases hf
      exact ⟨rfl,_,⟨_,_,rfl,rfl,rfl⟩,[],List.nil_sublist _,h⟩
     ·
      replace hf:=cZ h12 hf
      refine AW.skip (AW.sr (cs 1 Z (AR.nil [4] Z ?_)))
      refine AW.ret ?_
      cases hf
      exact ⟨rfl,_,⟨_,_,rfl,rfl,rfl⟩,[],List.nil_sublist _,h⟩

theorem Yl {r0:aj} (hf:MG=some r0) (h:Q (.ret (.agg (bA r0))) τ):PC 47 [] τ Q:=by
 unfold MG at hf; refine BN 2 [.cell 0 34] [] Tryz.func47 Z Z Z Z Z (W 0 Z (AS Z (AO.aF Z rC (fun b0=>?_)))); cases hf; exact Rx 2 [0] Z Z (ZC [0] Z Z h)


end Go.Proofs.YtggpjlegajicnaaGreatDoor
