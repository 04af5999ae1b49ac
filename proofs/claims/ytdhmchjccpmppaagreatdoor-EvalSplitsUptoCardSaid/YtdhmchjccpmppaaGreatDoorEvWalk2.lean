/- Proved here: each function does what its functional text says (part 2). -/
import Derived.Test.YtdhmchjccpmppaaGreatDoorEvWalk1
set_option linter.unusedVariables false
set_option linter.unusedSimpArgs false
set_option linter.unusedSectionVars false
namespace Go.Proofs.YtdhmchjccpmppaaGreatDoor
open Go Go.Abs Go.Ft
set_option maxRecDepth 20000
attribute [local irreducible] AO AR AW AC
variable [iw]
variable {τ : List bE} {Q : eZ → List bE → Prop}

abbrev KI (kK:ah→Option ah):Prop:=∀ (rZ:ah) {aU:ah},kK rZ=some aU→∀ {τ:List bE} {Q:eZ→List bE→Prop} (h:Q (.ret (.agg (aF aU))) τ),PC 244 [.agg (aF rZ)] τ Q
theorem SB (kK) (O_:KI kK) (v1:ah) {r0:ah} (hf:AA kK v1=some r0) (h:Q (.ret (.agg (aF r0))) τ):PC 244 [.agg (aF v1)] τ Q:=by
 unfold AA at hf; refine BN 28 [.cell 2 25] [0] Tryz.func244 Z Z Z Z Z (W 1 Z (AS Z (AO.aH Z eY (fun b2=>(U 1 Z (AS Z (AO.aH Z eY (fun b3=>?_)))))))); refine B1 hf fun x1 h1 hf=>Rr 3 [0] Z Z (CL Z (Au _ h1 (Rr 6 [0,0] Z Z (AS Z (AO.aL (l:=v1.aI) Z Z Z Z dN Z (ah.aB _) ?_)))))
 refine J 1 Z (AW.row 6 25 (Vf (fun x2 aT v2=>[(2,pP b2),(3,pP b3),(13,.list (ah.bn v1.aI)),(14,iP (v1.aI.length:Int)),(15,iP x2)]) (fun x2 aT v2=>[.row v2 (ah.bn aT.aI).length 6 25,.box b3 [iP aT.kind,.bool aT.dh,iP aT.bZ,.str aT.bI,.own v2 (ah.bn aT.aI),sP aT.keys],.box b2 [iP 0,.bool false,iP 0,.str ([]:Str),.own (.slice none 0 0) [],.own (.slice none 0 0) []]]) (fun bW x2 aT v2=>um kK v1 bW x2 aT=some r0) BIG 0 (ah.mk v1.kind v1.dh v1.bZ v1.bI [] x1) (.slice none 0 0) Z Z hf (fun _ _ _ hz=>bQ hz) ?_))
 intro bW x2 aT v2 hf; rw [um] at hf; refine V 1 Z (C hf Z (fun h2 hf=>?_) fun h2 hf=>?_)
 ·
  refine B1 hf fun e1 h3 hf=>W 0 Z (AS Z (AO.aM h3 Z Z (ah.aB _) Z dN (ah.aG _) Z (U 1 Z (AS Z (AO.aH Z eY (fun b5=>(Rw 1 [0] Z Z (AW.draw 5 mixed (by kernel_rfl) Z ?_)))))))); refine Ev.cs aP 1 Z (Ev.cons Z Z Z (AO.bV (i:=2) Z Z Z Oi Z Z zg) (Ev.cons Z Z Z (AO.bV (i:=0) Z Z Z bY Z Z zg) ?_)); refine B1 hf fun x3 h4 hf=>Ev.cons rfl rfl rfl (AO.call rfl _ rfl rfl adK (O_ _ h4 ⟨rfl,rfl⟩)) (Ev.cons rfl rfl rfl (AO.bq (ah.bn [x3]) rfl oW rfl rfl rfl (by first | rfl | simp only [List.map,ah.aG,ah.bn]) ⟨rfl,rfl⟩) ?_)
  refine Ev.nil ?_; show AR _ _ _ _ _ _ _ _
  refine B1 hf fun x4 h5 hf=>AS Z (AO.eP (i:=1) (l:=aT.aI) (m:=[x3]) h5 Z Z Z Z Z Z Z oW dN (ah.aB _) (ah.aB _) (ah.aB _).symm (ah.dV) (ah.cells_one) (by decide) (fun v3 s1 hs1=>?_)); cases hs1; refine Rn 4 [2] Z Z (AR.drop1 ?_); exact N 0 Z ⟨(bS (x2 + 1)),(ah.mk aT.kind aT.dh aT.bZ aT.bI x4 aT.keys),v3,Z,Z,Z,hf⟩
 cases hf; exact Wx 2 [1,2] Z Z (ZC [2] Z Z h)
theorem SS :∀ k:Nat,(KI (lu k)):=by
 intro k
 induction k with
 | zero=>exact fun _ _ hz=>by first | cases hz | (unfold lu at hz; cases hz)
 | succ k ih=>exact fun rZ aU hz τ Q hq=>SB (lu k) ih rZ hz hq
theorem KC (rZ:ah) {aU:ah} (hf:mU rZ=some aU) (h:Q (.ret (.agg (aF aU))) τ):PC 244 [.agg (aF rZ)] τ Q:=
 ((SS BIG)) rZ hf h

theorem Oy (v1:ah) (key1:Str) {r0:ah} {r1:Bool} (hf:zJ v1 key1=some (r0,r1)) (h:Q (.ret (.tuple [.agg (aF r0),.bool r1])) τ):PC 190 [.agg (aF v1),.str key1] τ Q:=by
 unfold zJ at hf; refine BN 32 [.cell 4 25,.tmp 5] [0,1] Tryz.func190 Z Z Z Z Z (W 1 Z (AS Z (AO.aH Z eY (fun b4=>?_)))); refine B1 hf fun i1 h1 hf=>U 4 Z (CL Z (Ar _ _ h1 (U 5 Z (On 3 14 17 [2,4,6] (decide (i1 < 0)) Z Z Z Z (U 1 Z (AR.or 6 18 24 [2,4,6] (x:=(decide ((v1.aI.length:Int)≤i1))) Z Z (fun h3=>?_) (fun h3=>?_) ?_))))))
 · refine Is 18 h3 Z (U 3 Z (GO Z (AO.aL (l:=v1.aI) Z Z Z Z dN Z (ah.aB _) ?_))); exact eU 2 Z (En [24,2,4,6] Z)
 · refine Is 18 h3 Z ?_; exact eU 6 Z (En [24,2,4,6] Z)
 refine J 0 Z (C hf Z (fun h4 hf=>?_) fun h4 hf=>?_)
 · cases hf; exact Wx 3 [0] rfl rfl ⟨rfl,_,⟨_,_,rfl,⟨_,_,0,_,_,rfl,rfl,bY,rfl⟩,_,_,rfl,rfl,rfl⟩,[],List.nil_sublist _,h⟩
 refine B1 hf fun e1 h5 hf=>W 3 Z (AS Z (AO.aM h5 Z Z (ah.aB _) Z dN (ah.aG _) Z ?_)); refine B1 hf fun x1 h6 hf=>U 1 Z (CL Z (KC _ h6 ?_)); cases hf; exact Rx 2 [0] rfl rfl ⟨rfl,_,⟨_,_,rfl,⟨_,_,0,_,_,rfl,rfl,bY,rfl⟩,_,_,rfl,rfl,rfl⟩,[],List.nil_sublist _,h⟩

@[reducible] def Vn :fq aD ah→eZ
 | .ok r=>.ret (.agg (aF r))
 | .bad e=>.panic (.iface 106 (.agg [iP e.code]))

theorem CB (m1:ah) (key1:ah) {rX:fq aD ah} (hf:xw m1 key1=some rX) (h:Q (Vn rX) τ):PC 121 [.agg (aF m1),.agg (aF key1)] τ Q:=by
 unfold xw at hf; refine BN 24 [.cell 4 25] [0,1] Tryz.func121 Z Z Z Z Z (W 2 Z (AS Z (AO.aH Z eY (fun b4=>?_)))); refine B1 hf fun x1 h1 hf=>U 1 Z (CL Z (kE _ _ h1 ?_)); refine B1 hf fun b1 h3 hf=>U 1 Z (AR.eX 3 9 12 true [2,3,4] b1 Z Z (fun h2=>?_) (fun h2=>?_) ?_)
 · replace h3:=eD h2 h3; refine Is 9 h2 Z ?_; replace h3:=(aJ _).trans h3; obtain ⟨x2,h4,h3⟩:=aN h3; refine U 1 Z (GO Z (AO.call Z _ Z Z Ni (kE _ _ h4 ?_))); obtain rfl:=Option.some.inj h3; exact eU 1 Z (En [12,2,3,4] Z)
 · replace h3:=eF h2 h3; refine Is 9 h2 Z ?_; obtain rfl:=Option.some.inj h3; exact eU 3 Z (En [12,2,3,4] Z)
 rcases bH hf with ⟨e1,h5,hf⟩ | ⟨_,h5,hf⟩
 · refine CL Z (bF _ _ h5 ?_); cases hf; exact ⟨Z,[],List.nil_sublist _,h⟩
 refine CL Z (bF _ _ h5 ?_); obtain ⟨x3,ok1,h6,hf⟩:=aY hf; refine U 3 Z (CL Z (Oy _ _ h6 (U 3 Z (AS Z (AO.aH Z eY (fun b5=>?_)))))); rcases bH hf with ⟨e2,h7,hf⟩ | ⟨_,h7,hf⟩
 · refine Rr 3 [0] Z Z (CL Z (bF _ _ h7 ?_)); cases hf; exact ⟨Z,[],List.nil_sublist _,h⟩
 refine Rr 3 [0] Z Z (CL Z (bF _ _ h7 ?_)); cases hf; exact Rx 2 [0,1] Z Z (ZC [1] Z Z h)

@[reducible] def PY :fq aD ah→eZ
 | .ok r=>.ret (.agg (aF r))
 | .bad e=>.panic (.iface 106 (.agg [iP e.code]))

theorem JD (a1:ah) (i1:ah) {rX:fq aD ah} (hf:vK a1 i1=some rX) (h:Q (PY rX) τ):PC 123 [.agg (aF a1),.agg (aF i1)] τ Q:=by
 unfold vK at hf; refine BN 32 [.cell 4 25] [0,1] Tryz.func123 Z Z Z Z Z (W 2 Z (AS Z (AO.aH Z eY (fun b4=>?_)))); refine B1 hf fun x1 h1 hf=>U 1 Z (CL Z (kE _ _ h1 ?_)); refine B1 hf fun b1 h3 hf=>U 1 Z (AR.eX 3 7 10 true [2,3,4] b1 Z Z (fun h2=>?_) (fun h2=>?_) ?_)
 · replace h3:=eD h2 h3; refine Is 7 h2 Z ?_; replace h3:=(aJ _).trans h3; obtain ⟨x2,h4,h3⟩:=aN h3; refine U 1 Z (GO Z (AO.call Z _ Z Z Ni (kE _ _ h4 ?_))); obtain rfl:=Option.some.inj h3; exact eU 1 Z (En [10,2,3,4] Z)
 · replace h3:=eF h2 h3; refine Is 7 h2 Z ?_; obtain rfl:=Option.some.inj h3; exact eU 3 Z (En [10,2,3,4] Z)
 refine J 0 Z (C hf Z (fun h5 hf=>?_) fun h5 hf=>?_)
 ·
  refine W 4 Z (AR.and 7 14 21 [2,3,4] (x:=(decide (i1.bZ < (a1.aI.length:Int)))) Z Z (fun h6=>?_) (fun h6=>?_) ?_)
  · refine Is 14 h6 Z (U 4 Z (GO Z (AO.aL (l:=a1.aI) Z Z Z Z dN Z (ah.aB _) ?_))); exact eU 2 Z (En [21,2,3,4] Z)
  · refine Is 14 h6 Z ?_; exact eU 7 Z (En [21,2,3,4] Z)
  rcases bH hf with ⟨e1,h7,hf⟩ | ⟨_,h7,hf⟩
  · refine CL Z (bF _ _ h7 ?_); cases hf; exact ⟨Z,[],List.nil_sublist _,h⟩
  refine CL Z (bF _ _ h7 ?_); refine B1 hf fun e2 h8 hf=>U 4 Z (AS Z (AO.aM h8 Z Z (ah.aB _) Z dN (ah.aG _) Z ?_)); cases hf; exact Rx 2 [0] Z Z (ZC [0] Z Z h)
 rcases bH hf with ⟨e3,h9,hf⟩ | ⟨x3,h9,hf⟩
 · refine W 2 Z (CL Z (CB _ _ h9 ?_)); cases hf; exact ⟨Z,[],List.nil_sublist _,h⟩
 refine W 2 Z (CL Z (CB _ _ h9 ?_)); cases hf; exact Rx 1 [0] Z Z (ZC [0] Z Z h)

theorem WZ (name1:Str) {r0:Int} (hf:Ai name1=some r0) (h:Q (.ret (iP r0)) τ):PC 191 [.str name1] τ Q:=by
 unfold Ai at hf; refine BN 18 [.tmp 2] [0] Tryz.func191 Z Z Z Z Z (V 4 Z (C hf Z (fun h1 hf=>?_) fun h1 hf=>?_))
 ·
  refine V 0 Z (AW.cond Z (fun h2=>?_) (fun h2=>?_))
  · cases hf; exact M 1 Z (Y Z h)
  cases h1.symm.trans h2
 refine V 2 Z (C hf Z (fun h3 hf=>?_) fun h3 hf=>?_)
 ·
  refine V 0 Z (AW.cond Z (fun h4=>?_) (fun h4=>?_))
  · cases hf; exact M 1 Z (Y Z h)
  cases h3.symm.trans h4
 refine V 2 Z (C hf Z (fun h5 hf=>?_) fun h5 hf=>?_)
 ·
  refine V 0 Z (AW.cond Z (fun h6=>?_) (fun h6=>?_))
  · cases hf; exact M 1 Z (Y Z h)
  cases h5.symm.trans h6
 refine V 2 Z (C hf Z (fun h7 hf=>?_) fun h7 hf=>?_)
 ·
  refine V 0 Z (AW.cond Z (fun h8=>?_) (fun h8=>?_))
  · cases hf; exact M 1 Z (Y Z h)
  cases h7.symm.trans h8
 refine V 2 Z (C hf Z (fun h9 hf=>?_) fun h9 hf=>?_)
 ·
  refine V 0 Z (AW.cond Z (fun h10=>?_) (fun h10=>?_))
  · cases hf; exact M 1 Z (Y Z h)
  cases h9.symm.trans h10
 refine V 2 Z (C hf Z (fun h11 hf=>?_) fun h11 hf=>?_)
 · cases hf; exact M 1 Z (Y Z h)
 refine V 2 Z (C hf Z (fun h12 hf=>?_) fun h12 hf=>?_)
 ·
  refine V 0 Z (AW.cond Z (fun jq=>?_) (fun jq=>?_))
  · cases hf; exact M 1 Z (Y Z h)
  cases h12.symm.trans jq
 refine V 2 Z (C hf Z (fun kg hf=>?_) fun kg hf=>?_)
 ·
  refine V 0 Z (AW.cond Z (fun kC=>?_) (fun kC=>?_))
  · cases hf; exact M 1 Z (Y Z h)
  cases kg.symm.trans kC
 refine V 2 Z (C hf Z (fun h16 hf=>?_) fun h16 hf=>?_)
 ·
  refine V 0 Z (AW.cond Z (fun mQ=>?_) (fun mQ=>?_))
  · cases hf; exact M 1 Z (Y Z h)
  cases h16.symm.trans mQ
 refine V 2 Z (C hf Z (fun h18 hf=>?_) fun h18 hf=>?_)
 ·
  refine V 0 Z (AW.cond Z (fun h19=>?_) (fun h19=>?_))
  · cases hf; exact M 1 Z (Y Z h)
  cases h18.symm.trans h19
 refine V 2 Z (C hf Z (fun h20 hf=>?_) fun h20 hf=>?_)
 ·
  refine V 0 Z (AW.cond Z (fun h21=>?_) (fun h21=>?_))
  · cases hf; exact M 1 Z (Y Z h)
  cases h20.symm.trans h21
 refine V 2 Z (C hf Z (fun h22 hf=>?_) fun h22 hf=>?_)
 · cases hf; exact M 1 Z (Y Z h)
 cases hf; exact M 1 Z (Y Z h)

theorem uV (n1:Int) {r0:ah} (hf:qg n1=some r0) (h:Q (.ret (.agg (aF r0))) τ):PC 195 [iP n1] τ Q:=by
 unfold qg at hf; refine BN 5 [.cell 2 25] [0] Tryz.func195 Z Z Z Z Z (W 0 Z (AS Z (AO.aH Z eY (fun b2=>?_)))); cases hf; exact Rx 3 [0] Z Z (ZC [0] Z Z h)

theorem MV (l1:List ah) {r0:ah} (hf:DK l1=some r0) (h:Q (.ret (.agg (aF r0))) τ):PC 128 [.list (ah.bn l1)] τ Q:=by
 unfold DK at hf; refine BN 5 [.cell 2 25] [0] Tryz.func128 Z Z Z Z Z (W 0 Z (AS Z (AO.aH Z eY (fun b2=>?_)))); cases hf; exact Rx 3 [0] Z Z (ZC [0] Z Z h)
theorem N8 (h:Q (.ret (.agg [iP 4,.bool false,iP 0,.str ([]:Str),.own (.slice none 0 0) [],.own (.slice none 0 0) []])) τ):PC 128 [.own (.slice none 0 0) []] τ Q:=by
 refine AC.none (AC.ad2 5 [.cell 2 25] [0] Tryz.func128 Z Z Z Z Z (AW.sr (AR.step Z Z Z (AO.aH Z eY (fun b2=>?_))))); refine AR.nil [0,2] Z (AW.sr (cs 1 Z (AR.step Z Z Z (AO.build Z eY ZE Z ?_)))); refine AR.fH Z Z (AO.ig (i:=0) Z Z Z bY Z Z Z Z Z (AR.nil [2] Z (AW.ret ?_))); exact ⟨rfl,_,⟨_,_,rfl,⟨_,_,0,_,_,rfl,rfl,bY,rfl⟩,rfl⟩,[],List.nil_sublist _,h⟩

theorem OG (l1:List Str) {r0:ah} (hf:Af l1=some r0) (h:Q (.ret (.agg (aF r0))) τ):PC 245 [sP l1] τ Q:=by
 unfold Af at hf; refine BN 22 [.cell 2 25] [0] Tryz.func245 Z Z Z Z Z (W 0 Z (AS Z (AO.aH Z eY (fun b2=>(U 0 Z (AS Z (AO.aj9 Z _ Z Z ahY (N8 (AS Z (AO.aH Z eY (fun b3=>?_))))))))))); refine Rr 2 [0] Z Z (AS Z (AO.aL (l:=l1) Z Z Z Z dO Z Z ?_))
 refine J 1 Z (AW.row 6 25 (AW.settle [2,3,7,8,9] Z (AW.Bh 1 [false,false,false,false,false,true] Z (Vf (fun x1 aT v1=>[(2,pP b2),(3,pP b3),(7,sP l1),(8,iP (l1.length:Int)),(9,iP x1)]) (fun x1 aT v1=>[.row v1 (ah.bn aT.aI).length 6 25,.box b3 [iP aT.kind,.bool aT.dh,iP aT.bZ,.str aT.bI,.own v1 (ah.bn aT.aI),sP aT.keys],.box b2 [iP 0,.bool false,iP 0,.str ([]:Str),.own (.slice none 0 0) [],.own (.slice none 0 0) []]]) (fun bW x1 aT v1=>zu l1 bW x1 aT=some r0) BIG 0 (ah.mk 4 false 0 ([]:Str) [] []) (.slice none 0 0) Z Z hf (fun _ _ _ hz=>bQ hz) ?_))))
 intro bW x1 aT v1 hf; rw [zu] at hf; refine V 1 Z (C hf Z (fun h1 hf=>?_) fun h1 hf=>?_)
 ·
  refine B1 hf fun s1 h2 hf=>W 0 Z (AS Z (AO.aM h2 Z Z Z Z dO Z Z (J 2 Z (AW.draw 5 mixed (by kernel_rfl) Z ?_)))); refine Ev.cs aP 1 Z (Ev.cons Z Z Z (AO.bV (i:=1) Z Z Z Oi Z Z zg) (Ev.cs aP 1 Z ?_)); refine B1 hf fun x2 h3 hf=>Ev.cons rfl rfl rfl (AO.call rfl _ rfl rfl adT (uU _ h3 ⟨rfl,rfl⟩)) (Ev.cons rfl rfl rfl (AO.bq (ah.bn [x2]) rfl oW rfl rfl rfl (by first | rfl | simp only [List.map,ah.aG,ah.bn]) ⟨rfl,rfl⟩) ?_); refine Ev.nil ?_
  show AR _ _ _ _ _ _ _ _
  refine B1 hf fun x3 h4 hf=>AS Z (AO.eP (i:=0) (l:=aT.aI) (m:=[x2]) h4 Z Z Z Z Z Z Z oW dN (ah.aB _) (ah.aB _) (ah.aB _).symm (ah.dV) (ah.cells_one) (by decide) (fun v2 s2 hs2=>?_)); cases hs2; exact Rx 4 [1] Z Z ⟨(bS (x1 + 1)),(ah.mk aT.kind aT.dh aT.bZ aT.bI x3 aT.keys),v2,Z,Z,Z,hf⟩
 cases hf; exact Wx 2 [1,2] Z Z (ZC [2] Z Z h)

theorem G8 (b1:Bool) {r0:Str} (hf:qb b1=some r0) (h:Q (.ret (.str r0)) τ):PC 222 [.bool b1] τ Q:=by
 unfold qb at hf; refine BN 4 [.tmp 2] [0] Tryz.func222 Z Z Z Z Z (V 2 Z (C hf Z (fun h1 hf=>?_) fun h1 hf=>?_))
 · cases hf; exact M 1 Z (Y Z h)
 cases hf; exact M 1 Z (Y Z h)

theorem Ju (b1:Bool) {r0:Str} (hf:strconv_FormatBool b1=some r0) (h:Q (.ret (.str r0)) τ):PC 158 [.bool b1] τ Q:=by
 unfold strconv_FormatBool at hf; refine BN 5 [.tmp 2] [0] Tryz.func158 Z Z Z Z Z ?_; replace hf:=(aJ _).trans hf; refine B1 hf fun x1 h1 hf=>W 2 Z (CL Z (G8 _ h1 ?_)); cases hf; exact N 1 Z (Y Z h)

theorem Fp (s1:Str) {r0:Str} (hf:Bj s1=some r0) (h:Q (.ret (.str r0)) τ):PC 160 [.str s1] τ Q:=by
 unfold Bj at hf; refine BN 54 [.tmp 2] [0] Tryz.func160 Z Z Z Z Z (W 1 Z (AS Z (AO.Ke (eu:=5) Z Vh Z (fun b3=>?_)))); refine B1 hf fun b1 h1 hf=>U 0 Z (CL Z (AC.one 0 Z (iy h1 (fun v1=>⟨_,Z,(J 1 Z (Vf (fun i1 b2 v2=>[(0,.str s1),(3,pP b3),(4,iP i1)]) (fun i1 b2 v2=>[.Lm b3 v2 197 5 b2]) (fun bW i1 b2 v2=>mR s1 bW i1 b2=some r0) BIG 0 b1 v1 Z Z hf (fun _ _ _ hz=>bQ hz) ?_))⟩)))); intro bW i1 b2 v2 hf; rw [mR] at hf
 refine W 2 Z (AS Z (AO.bJ Z Z Z Z cu Z (J 1 Z (C hf Z (fun h2 hf=>?_) fun h2 hf=>?_))))
 ·
  refine B1 hf fun c1 h3 hf=>W 2 Z (AS Z (AO.fD h3 Z cu Z Z (U 4 Z (On 3 28 31 [0,3,4,5] ((c1.toNat:Int) == 92) Z Z Z Z (J 1 Z (C hf Z (fun h5 hf=>?_) fun h5 hf=>?_))))))
  · refine B1 hf fun b3 h6 hf=>W 0 Z (CL Z (AC.one 0 Z (iy h6 (fun v3=>⟨_,Z,?_⟩)))); refine B1 hf fun b4 h7 hf=>U 1 Z (CL Z (AC.one 0 Z (iy h7 (fun v4=>⟨_,Z,?_⟩)))); exact N 3 Z ⟨(bS (i1 + 1)),b4,v4,Z,Z,Z,hf⟩
  refine V 3 Z (C hf Z (fun h8 hf=>?_) fun h8 hf=>?_)
  · refine B1 hf fun b5 h9 hf=>W 0 Z (CL Z (AC.one 0 Z (lN h9 (fun v5=>⟨_,Z,?_⟩)))); exact N 3 Z ⟨(bS (i1 + 1)),b5,v5,Z,Z,Z,hf⟩
  refine V 3 Z (C hf Z (fun h10 hf=>?_) fun h10 hf=>?_)
  · refine B1 hf fun b6 h11 hf=>W 0 Z (CL Z (AC.one 0 Z (lN h11 (fun v6=>⟨_,Z,?_⟩)))); exact N 3 Z ⟨(bS (i1 + 1)),b6,v6,Z,Z,Z,hf⟩
  refine W 3 Z (An 3 46 49 [0,3,4,5] (decide ((c1.toNat:Int)≤126)) Z Z Z Z (J 1 Z (C hf Z (fun jq hf=>?_) fun jq hf=>?_)))
  · refine B1 hf fun b7 kg hf=>W 1 Z (CL Z (AC.one 0 Z (iy kg (fun v7=>⟨_,Z,?_⟩)))); exact N 3 Z ⟨(bS (i1 + 1)),b7,v7,Z,Z,Z,hf⟩
  refine B1 hf fun b8 kC hf=>W 0 Z (CL Z (AC.one 0 Z (lN kC (fun v8=>⟨_,Z,(U 1 Z (AS Z (AO.u8_quo c1 16 Z Z Z Z Z (by decide) ?_)))⟩)))); refine B1 hf fun x1 h16 hf=>AS Z (AO.fD h16 Z cu Z Z ?_); refine B1 hf fun b9 mQ hf=>CL Z (AC.one 0 Z (iy mQ (fun v9=>⟨_,Z,(U 1 Z (AS Z (AO.Vw c1 16 Z Z Z Z Z (by decide) ?_)))⟩))); refine B1 hf fun x2 h18 hf=>AS Z (AO.fD h18 Z cu Z Z ?_); refine B1 hf fun b10 h19 hf=>CL Z (AC.one 0 Z (iy h19 (fun v10=>⟨_,Z,?_⟩)))
  exact N 3 Z ⟨(bS (i1 + 1)),b10,v10,Z,Z,Z,hf⟩
 replace hf:=(aJ _).trans hf; refine B1 hf fun b11 h20 hf=>W 0 Z (CL Z (AC.one 0 Z (iy h20 (fun v11=>⟨_,Z,(U 0 Z (CL Z (AC.Pv 0 Z (CG ?_))))⟩)))); cases hf; exact N 1 Z (Y Z h)

section
variable [Ay]
def UG :Go.Shelf.Ren:=⟨fun | 156=>161 | 165=>227 | 166=>225 | 169=>226 | 240=>276 | 241=>277 | 276=>320 | 277=>321 | n=>n,fun | 31=>23 | 9=>9 | 3=>3 | 4=>4 | 0=>0 | 20=>20 | 72=>197 | 76=>201 | 70=>195 | 37=>88 | 75=>199 | 127=>231 | 164=>265 | 5=>5 | 80=>203 | n=>n,fun | n=>n⟩
theorem joinL :Go.Proofs.Lays.n156 Tryz.prog UG:={
 mixed:=by kernel_rfl
 f156:=Tryz.func161.trans (congrArg some (by kernel_rfl))
 f165:=Tryz.func227.trans (congrArg some (by kernel_rfl))
 f166:=Tryz.func225.trans (congrArg some (by kernel_rfl))
 f169:=Tryz.func226.trans (congrArg some (by kernel_rfl))
 f240:=Tryz.func276.trans (congrArg some (by kernel_rfl))
 f241:=Tryz.func277.trans (congrArg some (by kernel_rfl))
 f276:=Tryz.func320.trans (congrArg some (by kernel_rfl))
 f277:=Tryz.func321.trans (congrArg some (by kernel_rfl))
 t0:=Tryz.underlying0
 a0:=Tryz.isAgg0
 z0:=Tryz.sizeOf0
 v0:=Tryz.zeroValue0
 t3:=Tryz.underlying3
 a3:=Tryz.isAgg3
 z3:=Tryz.sizeOf3
 v3:=Tryz.zeroValue3
 t4:=Tryz.underlying4
 a4:=Tryz.isAgg4
 z4:=Tryz.sizeOf4
 v4:=Tryz.zeroValue4
 t9:=Tryz.underlying9
 a9:=Tryz.isAgg9
 z9:=Tryz.sizeOf9
 v9:=Tryz.zeroValue9
 t20:=Tryz.underlying20
 a20:=Tryz.isAgg20
 z20:=Tryz.sizeOf20
 v20:=Tryz.zeroValue20
 t31:=Tryz.underlying23
 a31:=Tryz.isAgg23
 z31:=Tryz.sizeOf23
 v31:=Tryz.zeroValue23
 t37:=Tryz.underlying88
 a37:=Tryz.isAgg88
 z37:=Tryz.sizeOf88
 v37:=Tryz.zeroValue88
 t70:=Tryz.underlying195
 a70:=Tryz.isAgg195
 z70:=Tryz.sizeOf195
 v70:=Tryz.zeroValue195
 t72:=Tryz.underlying197
 a72:=Tryz.isAgg197
 z72:=Tryz.sizeOf197
 v72:=Tryz.zeroValue197
 t75:=Tryz.underlying199
 a75:=Tryz.isAgg199
 z75:=Tryz.sizeOf199
 v75:=Tryz.zeroValue199
 t76:=Tryz.underlying201
 a76:=Tryz.isAgg201
 z76:=Tryz.sizeOf201
 v76:=Tryz.zeroValue201
 t127:=Tryz.underlying231
 a127:=Tryz.isAgg231
 z127:=Tryz.sizeOf231
 v127:=Tryz.zeroValue231
 t164:=Tryz.underlying265
 a164:=Tryz.isAgg265
 z164:=Tryz.sizeOf265
 v164:=Tryz.zeroValue265}

theorem ajL :Go.Proofs.Builder.Extra Tryz.prog UG:={
 sizeBuilder:=by kernel_rfl
 liesBuilder:=by kernel_rfl
 t5:=Tryz.underlying5
 a5:=fun w=>by kernel_rfl
 z5:=fun w=>by kernel_rfl
 v5:=fun w=>by kernel_rfl
 infoByte:=by kernel_rfl
 cellsByte:=by kernel_rfl
 sizeByte:=by kernel_rfl
 neB5:=by decide}


theorem zy (l1:List Str) (t1:Str) {r0:Str} (hf:strings_Join l1 t1=some r0) (h:Q (.ret (.str r0)) τ):PC 161 [sP l1,.str t1] τ Q:=by
 unfold strings_Join at hf
 split at hf
 case isFalse=>cases hf
 rename_i hg
 cases hf
 refine AC.none ?_
 exact AC.join Ay.hD joinL ajL hg.1 hg.2 h
end

section
variable [Ay]

abbrev Ia (fI:ah→Option Str):Prop:=∀ (rZ:ah) {aU:Str},fI rZ=some aU→∀ {τ:List bE} {Q:eZ→List bE→Prop} (h:Q (.ret (.str aU)) τ),PC 83 [.agg (aF rZ)] τ Q
theorem OV (fI) (zn:Ia fI) (v1:ah) {r0:Str} (hf:wO fI v1=some r0) (h:Q (.ret (.str r0)) τ):PC 83 [.agg (aF v1)] τ Q:=by
 unfold wO at hf; refine BN 68 [.tmp 2] [0] Tryz.func83 Z Z Z Z Z (V 6 Z (C hf Z (fun h1 hf=>?_) fun h1 hf=>?_))
 · replace hf:=(aJ _).trans hf; refine B1 hf fun x1 h2 hf=>W 2 Z (CL Z (Ju _ h2 ?_)); cases hf; exact N 1 Z (Y Z h)
 refine V 2 Z (C hf Z (fun h3 hf=>?_) fun h3 hf=>?_)
 · replace hf:=(aJ _).trans hf; refine B1 hf fun x2 h4 hf=>W 2 Z (CL Z (Jt _ h4 ?_)); cases hf; exact N 1 Z (Y Z h)
 refine V 2 Z (C hf Z (fun h5 hf=>?_) fun h5 hf=>?_)
 · replace hf:=(aJ _).trans hf; refine B1 hf fun x3 h6 hf=>W 2 Z (CL Z (Fp _ h6 ?_)); cases hf; exact N 1 Z (Y Z h)
 refine V 2 Z (C hf Z (fun h7 hf=>?_) fun h7 hf=>?_)
 ·
  refine V 0 Z (AW.cond Z (fun h8=>?_) (fun h8=>?_))
  ·
   refine W 3 Z (AS Z (AO.aL (l:=v1.aI) Z Z Z Z dN Z (ah.aB _) (J 1 Z (AW.row 1 9 (Vf (fun nO v2 i1=>[(1,.ref (aF v1)),(3,.own v2 (List.map ko nO)),(28,.list (ah.bn v1.aI)),(29,iP (v1.aI.length:Int)),(30,iP i1)]) (fun nO v2 i1=>[.row v2 (List.map ko nO).length 1 9]) (fun bW nO v2 i1=>qI fI v1 bW nO i1=some r0) BIG [] (.slice none 0 0) 0 Z Z hf (fun _ _ _ hz=>bQ hz) ?_))))); intro bW nO v2 i1 hf; rw [qI] at hf
   refine V 1 Z (C hf Z (fun h9 hf=>?_) fun h9 hf=>?_)
   ·
    refine B1 hf fun e1 h10 hf=>W 1 Z (AS Z (AO.aM h10 Z Z (ah.aB _) Z dN (ah.aG _) Z (U 1 Z (AS Z (AO.aH Z eY (fun b5=>(Rw 5 [0] Z Z (C hf Z (fun h11 hf=>?_) fun h11 hf=>?_))))))))
    ·
     refine AW.draw 12 mixed (by kernel_rfl) Z ?_; refine Ev.cs aP 4 Z ?_; refine B1 hf fun e2 h12 hf=>Ev.cons Z Z Z (AO.aM h12 Z Z Z Z dO Z Z zg) (Ev.cs aP 1 Z ?_); refine B1 hf fun x4 jq hf=>Ev.cons Z Z Z (AO.call Z _ Z Z adN (Fp _ jq zg)) ?_; refine B1 hf fun x5 kg hf=>Ev.cons Z Z Z (AO.kN kg Z Z Z zg) (Ev.cons Z Z Z (AO.bV (i:=0) Z Z Z bY Z Z zg) ?_); refine B1 hf fun x6 kC hf=>Ev.cons Z Z Z (AO.call Z _ Z Z agK (zn _ kC zg)) ?_
     refine B1 hf fun x7 h16 hf=>Ev.cons Z Z Z (AO.kN h16 Z Z Z zg) (Ev.cons Z Z Z (AO.bq (List.map ko ([x7]:List Str)) Z kU Z Z Z Z zg) (Ev.nil ?_)); show AR _ _ _ _ _ _ _ _
     refine B1 hf fun KT mQ hf=>AS Z (AO.eP (i:=1) (l:=nO) (m:=([x7]:List Str)) mQ Z Z Z Z Z Z Z kU dO Z Z Z (fun _=>Z) (fun _=>Z) (by decide) (fun v3 s1 hs1=>?_)); cases hs1; refine eU 3 Z (AR.drop1 ?_); exact N 0 Z ⟨KT,v3,(bS (i1 + 1)),Z,Z,Z,hf⟩
    refine B1 hf fun x8 h18 hf=>Wr 2 [0] Z Z (CL Z (zn _ h18 (AS Z (AO.bq (List.map ko ([x8]:List Str)) Z kU Z Z Z Z ?_)))); refine B1 hf fun KS h19 hf=>AS Z (AO.eP (i:=1) (l:=nO) (m:=([x8]:List Str)) h19 Z Z Z Z Z Z Z kU dO Z Z Z (fun _=>Z) (fun _=>Z) (by decide) (fun v4 s2 hs2=>?_)); cases hs2; refine eU 3 Z (AR.drop1 ?_); exact N 0 Z ⟨KS,v4,(bS (i1 + 1)),Z,Z,Z,hf⟩
   refine B1 hf fun s3 h20 hf=>W 1 Z (CL Z (zy _ _ h20 (J 4 Z (C hf Z (fun h21 hf=>?_) fun h21 hf=>?_))))
   · refine B1 hf fun x9 h22 hf=>W 1 Z (AS Z (AO.kN h22 Z Z Z ?_)); replace hf:=(aJ _).trans hf; refine B1 hf fun CO h23 hf=>AS Z (AO.kN h23 Z Z Z ?_); cases hf; exact N 1 Z (Y Z h)
   refine B1 hf fun KP Ku hf=>W 1 Z (AS Z (AO.kN Ku Z Z Z ?_)); replace hf:=(aJ _).trans hf; refine B1 hf fun TU Sw hf=>AS Z (AO.kN Sw Z Z Z ?_); cases hf; exact N 1 Z (Y Z h)
  cases h7.symm.trans h8
 refine V 2 Z (C hf Z (fun PI hf=>?_) fun PI hf=>?_)
 ·
  refine W 3 Z (AS Z (AO.aL (l:=v1.aI) Z Z Z Z dN Z (ah.aB _) (J 1 Z (AW.row 1 9 (Vf (fun E9 v5 i2=>[(1,.ref (aF v1)),(3,.own v5 (List.map ko E9)),(28,.list (ah.bn v1.aI)),(29,iP (v1.aI.length:Int)),(30,iP i2)]) (fun E9 v5 i2=>[.row v5 (List.map ko E9).length 1 9]) (fun EB E9 v5 i2=>u_ fI v1 EB E9 i2=some r0) BIG [] (.slice none 0 0) 0 Z Z hf (fun _ _ _ hz=>bQ hz) ?_))))); intro EB E9 v5 i2 hf; rw [u_] at hf
  refine V 1 Z (C hf Z (fun h27 hf=>?_) fun h27 hf=>?_)
  ·
   refine B1 hf fun e3 Xb hf=>W 1 Z (AS Z (AO.aM Xb Z Z (ah.aB _) Z dN (ah.aG _) Z (U 1 Z (AS Z (AO.aH Z eY (fun al3=>(Rw 5 [0] Z Z (AW.cond Z (fun Te=>?_) (fun Te=>?_)))))))))
   ·
    refine AW.draw 12 mixed (by kernel_rfl) Z ?_; refine Ev.cs aP 4 Z ?_; refine B1 hf fun e4 h30 hf=>Ev.cons Z Z Z (AO.aM h30 Z Z Z Z dO Z Z zg) (Ev.cs aP 1 Z ?_); refine B1 hf fun Sv h31 hf=>Ev.cons Z Z Z (AO.call Z _ Z Z adN (Fp _ h31 zg)) ?_; refine B1 hf fun Vo h32 hf=>Ev.cons Z Z Z (AO.kN h32 Z Z Z zg) (Ev.cons Z Z Z (AO.bV (i:=0) Z Z Z bY Z Z zg) ?_); refine B1 hf fun x15 O9 hf=>Ev.cons Z Z Z (AO.call Z _ Z Z agK (zn _ O9 zg)) ?_
    refine B1 hf fun Xh h34 hf=>Ev.cons Z Z Z (AO.kN h34 Z Z Z zg) (Ev.cons Z Z Z (AO.bq (List.map ko ([Xh]:List Str)) Z kU Z Z Z Z zg) (Ev.nil ?_)); show AR _ _ _ _ _ _ _ _
    refine B1 hf fun ZQ h35 hf=>AS Z (AO.eP (i:=1) (l:=E9) (m:=([Xh]:List Str)) h35 Z Z Z Z Z Z Z kU dO Z Z Z (fun _=>Z) (fun _=>Z) (by decide) (fun v6 s4 hs4=>?_)); cases hs4; refine eU 3 Z (AR.drop1 ?_); exact N 0 Z ⟨ZQ,v6,(bS (i2 + 1)),Z,Z,Z,hf⟩
   cases PI.symm.trans Te
  refine B1 hf fun s5 h36 hf=>W 1 Z (CL Z (zy _ _ h36 (J 4 Z (AW.cond Z (fun h37=>?_) (fun h37=>?_)))))
  · refine B1 hf fun x17 h38 hf=>W 1 Z (AS Z (AO.kN h38 Z Z Z ?_)); replace hf:=(aJ _).trans hf; refine B1 hf fun x18 h39 hf=>AS Z (AO.kN h39 Z Z Z ?_); cases hf; exact N 1 Z (Y Z h)
  cases PI.symm.trans h37
 cases hf; exact M 1 Z (Y Z h)
theorem O4 :∀ k:Nat,(Ia (pz k)):=by
 intro k
 induction k with
 | zero=>exact fun _ _ hz=>by first | cases hz | (unfold pz at hz; cases hz)
 | succ k ih=>exact fun rZ aU hz τ Q hq=>OV (pz k) ih rZ hz hq
theorem HY (rZ:ah) {aU:Str} (hf:Az rZ=some aU) (h:Q (.ret (.str aU)) τ):PC 83 [.agg (aF rZ)] τ Q:=
 ((O4 BIG)) rZ hf h
end

section
variable [Ay]
theorem WQ (v1:ah) {r0:Str} {r1:Int} (hf:Df v1=some (r0,r1)) (h:Q (.ret (.tuple [.str r0,iP r1])) τ):PC 246 [.agg (aF v1)] τ Q:=by
 unfold Df at hf; refine BN 28 [.tmp 2,.tmp 3] [0] Tryz.func246 Z Z Z Z Z (W 7 Z (On 4 8 12 [1] (v1.kind == 5) Z Z Z Z (J 0 Z (C hf Z (fun h2 hf=>?_) fun h2 hf=>?_))))
 · cases hf; exact M 2 rfl ⟨rfl,_,⟨_,_,rfl,rfl,_,_,rfl,rfl,rfl⟩,[],List.nil_sublist _,h⟩
 refine B1 hf fun e1 h3 hf=>W 1 Z (CL Z (om _ h3 (J 3 Z (C hf Z (fun h4 hf=>?_) fun h4 hf=>?_))))
 · cases hf; exact M 3 rfl ⟨rfl,_,⟨_,_,rfl,rfl,_,_,rfl,rfl,rfl⟩,[],List.nil_sublist _,h⟩
 refine V 4 Z (C hf Z (fun h5 hf=>?_) fun h5 hf=>?_)
 · cases hf; exact M 2 rfl ⟨rfl,_,⟨_,_,rfl,rfl,_,_,rfl,rfl,rfl⟩,[],List.nil_sublist _,h⟩
 refine V 2 Z (C hf Z (fun h6 hf=>?_) fun h6 hf=>?_)
 · cases hf; exact M 4 rfl ⟨rfl,_,⟨_,_,rfl,rfl,_,_,rfl,rfl,rfl⟩,[],List.nil_sublist _,h⟩
 refine B1 hf fun x1 h7 hf=>W 1 Z (CL Z (HY _ h7 ?_)); cases hf; exact N 2 rfl ⟨rfl,_,⟨_,_,rfl,rfl,_,_,rfl,rfl,rfl⟩,[],List.nil_sublist _,h⟩
end

theorem KF (s1:Str) (lo1:UInt8) (hi1:UInt8) (pq:Int) {r0:Str} (hf:xR s1 lo1 hi1 pq=some r0) (h:Q (.ret (.str r0)) τ):PC 247 [.str s1,.int .u8 (lo1.toNat:Int),.int .u8 (hi1.toNat:Int),iP pq] τ Q:=by
 unfold xR at hf; refine BN 42 [.tmp 8] [0,1,2,3] Tryz.func247 Z Z Z Z Z (W 1 Z (AS Z (AO.Ke (eu:=5) Z Vh Z (fun b9=>(J 1 Z (Vf (fun i1 b1 v1=>[(0,.str s1),(1,.int .u8 (lo1.toNat:Int)),(2,.int .u8 (hi1.toNat:Int)),(3,iP pq),(9,pP b9),(10,iP i1)]) (fun i1 b1 v1=>[.Lm b9 v1 197 5 b1]) (fun bW i1 b1 v1=>qW s1 lo1 hi1 pq bW i1 b1=some r0) BIG 0 [] (.slice none 0 0) Z Z hf (fun _ _ _ hz=>bQ hz) ?_)))))); intro bW i1 b1 v1 hf; rw [qW] at hf
 refine W 2 Z (AS Z (AO.bJ Z Z Z Z cu Z (J 1 Z (C hf Z (fun h1 hf=>?_) fun h1 hf=>?_))))
 ·
  refine B1 hf fun x1 h2 hf=>W 2 Z (AS Z (AO.fD h2 Z cu Z Z ?_)); refine B1 hf fun b2 h4 hf=>U 3 Z (AR.eX 6 22 28 true [0,1,2,3,9,10] b2 Z Z (fun h3=>?_) (fun h3=>?_) ?_)
  · replace h4:=eD h3 h4; refine Is 22 h3 Z ?_; obtain ⟨x2,h5,h4⟩:=aN h4; refine U 2 Z (GO Z (AO.fD h5 Z cu Z Z ?_)); obtain rfl:=Option.some.inj h4; exact eU 3 Z (En [28,0,1,2,3,9,10] Z)
  · replace h4:=eF h3 h4; refine Is 22 h3 Z ?_; obtain rfl:=Option.some.inj h4; exact eU 6 Z (En [28,0,1,2,3,9,10] Z)
  refine J 0 Z (C hf Z (fun h6 hf=>?_) fun h6 hf=>?_)
  · refine B1 hf fun x3 h7 hf=>W 2 Z (AS Z (AO.fD h7 Z cu Z Z (AS Z (AO.Ao Z zK Ea Z Z (U 2 Z (AS Z (AO.DT Z Ea zK Z ?_))))))); refine B1 hf fun b3 h8 hf=>CL Z (AC.one 0 Z (iy h8 (fun v2=>⟨_,Z,?_⟩))); exact N 3 Z ⟨(bS (i1 + 1)),b3,v2,Z,Z,Z,hf⟩
  refine B1 hf fun x4 h9 hf=>W 2 Z (AS Z (AO.fD h9 Z cu Z Z ?_)); refine B1 hf fun b4 h10 hf=>CL Z (AC.one 0 Z (iy h10 (fun v3=>⟨_,Z,?_⟩))); exact N 3 Z ⟨(bS (i1 + 1)),b4,v3,Z,Z,Z,hf⟩
 refine W 0 Z (CL Z (AC.Pv 0 Z (CG ?_))); cases hf; exact N 1 Z (Y Z h)

section
variable [Ay]
theorem TP (s1:Str) {r0:Int} {r1:Bool} (hf:uQ s1=some (r0,r1)) (h:Q (.ret (.tuple [iP r0,.bool r1])) τ):PC 248 [.str s1] τ Q:=by
 unfold uQ at hf; refine BN 28 [.tmp 2,.tmp 3] [0] Tryz.func248 Z Z Z Z Z ?_; obtain ⟨n1,aeu,h1,hf⟩:=aY hf; refine W 3 Z (CL Z (DY _ h1 (U 6 Z (AS Z (AO.eqNil Z aei Z Z ?_))))); refine B1 hf fun b1 h3 hf=>U 1 Z (AR.eX 5 13 18 false [4] b1 Z Z (fun h2=>?_) (fun h2=>?_) ?_)
 · replace h3:=eF h2 h3; refine Is 13 h2 Z ?_; obtain ⟨x1,h4,h3⟩:=aN h3; refine U 1 Z (GO Z (AO.call Z _ Z Z ahL (Jt _ h4 ?_))); obtain rfl:=Option.some.inj h3; exact eU 3 Z (En [18,4] Z)
 · replace h3:=eD h2 h3; refine Is 13 h2 Z ?_; obtain rfl:=Option.some.inj h3; exact eU 5 Z (En [18,4] Z)
 refine U 1 Z (On 3 19 22 [4] (decide (n1 < (-9007199254740992))) Z Z Z Z (U 1 Z (On 3 23 26 [4] (decide (9007199254740992 < n1)) Z Z Z Z (J 0 Z (C hf Z (fun h7 hf=>?_) fun h7 hf=>?_)))))
 · cases hf; exact M 2 rfl ⟨rfl,_,⟨_,_,rfl,rfl,_,_,rfl,rfl,rfl⟩,[],List.nil_sublist _,h⟩
 cases hf; exact M 3 rfl ⟨rfl,_,⟨_,_,rfl,rfl,_,_,rfl,rfl,rfl⟩,[],List.nil_sublist _,h⟩
end

section
variable [Ay]
@[reducible] def Zl :fq aD ah→eZ
 | .ok r=>.ret (.agg (aF r))
 | .bad e=>.panic (.iface 106 (.agg [iP e.code]))

theorem Sc (name1:Str) (v1:ah) {rX:fq aD ah} (hf:Jj name1 v1=some rX) (h:Q (Zl rX) τ):PC 192 [.str name1,.agg (aF v1)] τ Q:=by
 unfold Jj at hf; refine BN 78 [.cell 4 25] [0,1] Tryz.func192 Z Z Z Z Z (W 1 Z (AS Z (AO.aH Z eY (fun b4=>(J 3 Z (C hf Z (fun h1 hf=>?_) fun h1 hf=>?_))))))
 ·
  refine B1 hf fun x1 h2 hf=>W 1 Z (CL Z (kE _ _ h2 ?_)); refine B1 hf fun b1 h4 hf=>U 1 Z (AR.eX 3 14 17 false [3,4] b1 Z Z (fun h3=>?_) (fun h3=>?_) ?_)
  · replace h4:=eF h3 h4; refine Is 14 h3 Z ?_; replace h4:=(aJ _).trans h4; obtain ⟨x2,h5,h4⟩:=aN h4; refine U 1 Z (GO Z (AO.call Z _ Z Z Ni (kE _ _ h5 ?_))); obtain rfl:=Option.some.inj h4; exact eU 1 Z (En [17,3,4] Z)
  · replace h4:=eD h3 h4; refine Is 14 h3 Z ?_; obtain rfl:=Option.some.inj h4; exact eU 3 Z (En [17,3,4] Z)
  refine B1 hf fun b2 h7 hf=>U 1 Z (AR.eX 3 18 21 false [3,4] b2 Z Z (fun h6=>?_) (fun h6=>?_) ?_)
  · replace h7:=eF h6 h7; refine Is 18 h6 Z ?_; replace h7:=(aJ _).trans h7; obtain ⟨x3,h8,h7⟩:=aN h7; refine U 1 Z (GO Z (AO.call Z _ Z Z Ni (kE _ _ h8 ?_))); obtain rfl:=Option.some.inj h7; exact eU 1 Z (En [21,3,4] Z)
  · replace h7:=eD h6 h7; refine Is 18 h6 Z ?_; obtain rfl:=Option.some.inj h7; exact eU 3 Z (En [21,3,4] Z)
  rcases bH hf with ⟨e1,h9,hf⟩ | ⟨_,h9,hf⟩
  · refine CL Z (bF _ _ h9 ?_); cases hf; exact ⟨Z,[],List.nil_sublist _,h⟩
  refine CL Z (bF _ _ h9 (U 2 Z (AS Z (AO.bJ Z Z Z Z cu Z (U 2 Z (AS Z (AO.aL (l:=v1.aI) Z Z Z Z dN Z (ah.aB _) ?_))))))); refine B1 hf fun x4 h10 hf=>U 1 Z (CL Z (uV _ h10 ?_)); cases hf; exact Rx 1 [0] Z Z (ZC [0] Z Z h)
 refine V 2 Z (C hf Z (fun h11 hf=>?_) fun h11 hf=>?_)
 ·
  refine B1 hf fun x5 h12 hf=>W 1 Z (CL Z (kE _ _ h12 ?_)); rcases bH hf with ⟨e2,jq,hf⟩ | ⟨_,jq,hf⟩
  · refine CL Z (bF _ _ jq ?_); cases hf; exact ⟨Z,[],List.nil_sublist _,h⟩
  refine CL Z (bF _ _ jq ?_); refine B1 hf fun x6 kg hf=>U 2 Z (CL Z (OG _ kg ?_)); cases hf; exact Rx 1 [0] Z Z (ZC [0] Z Z h)
 refine V 2 Z (C hf Z (fun kC hf=>?_) fun kC hf=>?_)
 ·
  obtain ⟨t1,e3,h16,hf⟩:=aY hf; refine W 1 Z (CL Z (WQ _ h16 ?_)); rcases bH hf with ⟨e4,mQ,hf⟩ | ⟨_,mQ,hf⟩
  · refine U 8 Z (CL Z (bF _ _ mQ ?_)); cases hf; exact ⟨Z,[],List.nil_sublist _,h⟩
  refine U 8 Z (CL Z (bF _ _ mQ ?_)); refine B1 hf fun x7 h18 hf=>U 1 Z (CL Z (uU _ h18 ?_)); cases hf; exact Rx 1 [0] Z Z (ZC [0] Z Z h)
 refine B1 hf fun x8 h19 hf=>W 1 Z (CL Z (kE _ _ h19 ?_)); rcases bH hf with ⟨e5,h20,hf⟩ | ⟨_,h20,hf⟩
 · refine CL Z (bF _ _ h20 ?_); cases hf; exact ⟨Z,[],List.nil_sublist _,h⟩
 refine CL Z (bF _ _ h20 (J 3 Z (C hf Z (fun h21 hf=>?_) fun h21 hf=>?_)))
 · refine B1 hf fun x9 h22 hf=>W 2 Z (CL Z (KF _ _ _ _ h22 ?_)); refine B1 hf fun CO h23 hf=>CL Z (uU _ h23 ?_); cases hf; exact Rx 1 [0] Z Z (ZC [0] Z Z h)
 refine V 2 Z (C hf Z (fun Ku hf=>?_) fun Ku hf=>?_)
 · refine B1 hf fun KP Sw hf=>W 2 Z (CL Z (KF _ _ _ _ Sw ?_)); refine B1 hf fun TU PI hf=>CL Z (uU _ PI ?_); cases hf; exact Rx 1 [0] Z Z (ZC [0] Z Z h)
 obtain ⟨n1,ok1,h27,hf⟩:=aY hf; refine W 2 Z (CL Z (TP _ h27 ?_)); rcases bH hf with ⟨e6,Xb,hf⟩ | ⟨_,Xb,hf⟩
 · refine U 6 Z (CL Z (bF _ _ Xb ?_)); cases hf; exact ⟨Z,[],List.nil_sublist _,h⟩
 refine U 6 Z (CL Z (bF _ _ Xb ?_)); refine B1 hf fun Sv Te hf=>U 1 Z (CL Z (uV _ Te ?_)); cases hf; exact Rx 1 [0] Z Z (ZC [0] Z Z h)
end

theorem Kz (b1:Bool) {r0:Int} (hf:uj b1=some r0) (h:Q (.ret (iP r0)) τ):PC 294 [.bool b1] τ Q:=by
 unfold uj at hf; refine BN 4 [.tmp 2] [0] Tryz.func294 Z Z Z Z Z (V 2 Z (C hf Z (fun h1 hf=>?_) fun h1 hf=>?_))
 · cases hf; exact M 1 Z (Y Z h)
 cases hf; exact M 1 Z (Y Z h)

theorem iG (w_:List ah) (zP:List ah) (Jr:ah→ah→Option Int) (MF:FuncId) (RG:List PV) (aeB:bG Tryz.prog MF=true) (aeC:∀ a0 a1 b0,Jr a0 a1=some b0→∀ {τ:List bE} {Q:eZ→List bE→Prop},Q (.ret (iP b0)) τ→PC MF ([.agg (aF a0),.agg (aF a1)] ++ RG) τ Q) {r0:Int} (hf:bT w_ zP Jr=some r0) (h:Q (.ret (iP r0)) τ):PC 295 [.list (ah.bn w_),.list (ah.bn zP),.fn MF RG] τ Q:=by
 unfold bT at hf
 refine BN 39 [.tmp 6] [0,1,2] Tryz.func295 Z Z Z Z Z (W 2 Z (AS Z (AO.aL (l:=w_) Z Z Z Z dN Z (ah.aB _) (J 1 Z (Gc (fun i1=>[(0,.list (ah.bn w_)),(1,.list (ah.bn zP)),(2,.fn MF RG),(11,.list (ah.bn w_)),(12,iP (w_.length:Int)),(13,iP i1)]) (fun i1=>[]) (fun bW i1=>cO w_ zP Jr bW i1=some r0) BIG 0 Z Z hf (fun _ hz=>bQ hz) ?_))))); intro bW i1 hf
 rw [cO] at hf; refine V 1 Z (C hf Z (fun h1 hf=>?_) fun h1 hf=>?_)
 ·
  refine B1 hf fun e1 h2 hf=>W 1 Z (AS Z (AO.aM h2 Z Z (ah.aB _) Z dN (ah.aG _) Z (U 1 Z (AS Z (AO.aH Z eY (fun b8=>(Rr 4 [0] Z Z (AS Z (AO.aL (l:=zP) Z Z Z Z dN Z (ah.aB _) (J 1 Z (C hf Z (fun h3 hf=>?_) fun h3 hf=>?_)))))))))))
  · cases hf; exact M 1 Z (Y Z h)
  refine B1 hf fun e2 h4 hf=>W 2 Z (AS Z (AO.aM h4 Z Z (ah.aB _) Z dN (ah.aG _) Z (U 1 Z (AS Z (AO.aH Z eY (fun b9=>?_)))))); refine B1 hf fun c1 h5 hf=>Rr 4 [0,1,0] Z Z (AS Z (AO.call Z _ Z Z aeB (aeC _ _ _ h5 (J 3 Z (C hf Z (fun h6 hf=>?_) fun h6 hf=>?_)))))
  · cases hf; exact M 2 Z (Y Z h)
  refine Wn0 2 Z (AR.drop1 (AR.drop1 ?_)); exact N 0 Z ⟨(bS (i1 + 1)),Z,Z,Z,hf⟩
 refine W 1 Z (AS Z (AO.aL (l:=w_) Z Z Z Z dN Z (ah.aB _) (U 1 Z (AS Z (AO.aL (l:=zP) Z Z Z Z dN Z (ah.aB _) (J 1 Z (C hf Z (fun h7 hf=>?_) fun h7 hf=>?_)))))))
 · cases hf; exact M 1 Z (Y Z h)
 cases hf; exact M 1 Z (Y Z h)

theorem nZ (w_:List Str) (zP:List Str) (Jr:Str→Str→Option Int) (MF:FuncId) (RG:List PV) (aeB:bG Tryz.prog MF=true) (aeC:∀ a0 a1 b0,Jr a0 a1=some b0→∀ {τ:List bE} {Q:eZ→List bE→Prop},Q (.ret (iP b0)) τ→PC MF ([.str a0,.str a1] ++ RG) τ Q) {r0:Int} (hf:eT w_ zP Jr=some r0) (h:Q (.ret (iP r0)) τ):PC 296 [sP w_,sP zP,.fn MF RG] τ Q:=by
 unfold eT at hf; refine BN 39 [.tmp 6] [0,1,2] Tryz.func296 Z Z Z Z Z (W 2 Z (AS Z (AO.aL (l:=w_) Z Z Z Z dO Z Z (J 1 Z (Gc (fun i1=>[(0,sP w_),(1,sP zP),(2,.fn MF RG),(11,sP w_),(12,iP (w_.length:Int)),(13,iP i1)]) (fun i1=>[]) (fun bW i1=>dY w_ zP Jr bW i1=some r0) BIG 0 Z Z hf (fun _ hz=>bQ hz) ?_))))); intro bW i1 hf; rw [dY] at hf
 refine V 1 Z (C hf Z (fun h1 hf=>?_) fun h1 hf=>?_)
 ·
  refine B1 hf fun ajh h2 hf=>W 1 Z (AS Z (AO.aM h2 Z Z Z Z dO Z Z (U 5 Z (AS Z (AO.aL (l:=zP) Z Z Z Z dO Z Z (J 1 Z (C hf Z (fun h3 hf=>?_) fun h3 hf=>?_)))))))
  · cases hf; exact M 1 Z (Y Z h)
  refine B1 hf fun ajg h4 hf=>W 2 Z (AS Z (AO.aM h4 Z Z Z Z dO Z Z ?_)); refine B1 hf fun c1 h5 hf=>U 5 Z (AS Z (AO.call Z _ Z Z aeB (aeC _ _ _ h5 (J 3 Z (C hf Z (fun h6 hf=>?_) fun h6 hf=>?_)))))
  · cases hf; exact M 2 Z (Y Z h)
  exact M 2 Z ⟨(bS (i1 + 1)),Z,Z,Z,hf⟩
 refine W 1 Z (AS Z (AO.aL (l:=w_) Z Z Z Z dO Z Z (U 1 Z (AS Z (AO.aL (l:=zP) Z Z Z Z dO Z Z (J 1 Z (C hf Z (fun h7 hf=>?_) fun h7 hf=>?_)))))))
 · cases hf; exact M 1 Z (Y Z h)
 cases hf; exact M 1 Z (Y Z h)


abbrev Ib (j4:ah→ah→Option Int):Prop:=∀ (wR:ah) (wQ:ah) {aU:Int},j4 wR wQ=some aU→∀ {τ:List bE} {Q:eZ→List bE→Prop} (h:Q (.ret (iP aU)) τ),PC 255 [.agg (aF wR),.agg (aF wQ)] τ Q
theorem OW (j4) (EH:Ib j4) (a1:ah) (b1:ah) {r0:Int} (hf:wP j4 a1 b1=some r0) (h:Q (.ret (iP r0)) τ):PC 255 [.agg (aF a1),.agg (aF b1)] τ Q:=by
 unfold wP at hf; refine BN 62 [.tmp 4] [0,1] Tryz.func255 Z Z Z Z Z ?_; refine B1 hf fun c1 h1 hf=>W 7 Z (CL Z (nE _ _ h1 (J 3 Z (C hf Z (fun h2 hf=>?_) fun h2 hf=>?_))))
 · cases hf; exact M 2 Z (Y Z h)
 refine V 4 Z (C hf Z (fun h3 hf=>?_) fun h3 hf=>?_)
 ·
  refine V 0 Z (AW.draw 8 mixed (by kernel_rfl) Z ?_); refine Ev.cs aP 2 Z ?_; refine B1 hf fun x1 h4 hf=>Ev.cons Z Z Z (AO.call Z _ Z Z adG (Kz _ h4 zg)) (Ev.cs aP 2 Z ?_); refine B1 hf fun x2 h5 hf=>Ev.cons Z Z Z (AO.call Z _ Z Z adG (Kz _ h5 zg)) ?_; replace hf:=(aJ _).trans hf; refine B1 hf fun x3 h6 hf=>Ev.cons Z Z Z (AO.call Z _ Z Z ahC (nE _ _ h6 zg)) (Ev.cs aP 1 Z (Ev.nil ?_)); show AR _ _ _ _ _ _ _ _
  cases hf; exact N 0 Z (Y Z h)
 refine V 2 Z (C hf Z (fun h7 hf=>?_) fun h7 hf=>?_)
 · replace hf:=(aJ _).trans hf; refine B1 hf fun x4 h8 hf=>W 4 Z (CL Z (nE _ _ h8 ?_)); cases hf; exact N 1 Z (Y Z h)
 refine V 2 Z (C hf Z (fun h9 hf=>?_) fun h9 hf=>?_)
 · replace hf:=(aJ _).trans hf; refine B1 hf fun x5 h10 hf=>W 4 Z (CL Z (BQ _ _ h10 ?_)); cases hf; exact N 1 Z (Y Z h)
 refine V 2 Z (C hf Z (fun h11 hf=>?_) fun h11 hf=>?_)
 · replace hf:=(aJ _).trans hf; refine B1 hf fun x6 h12 hf=>W 4 Z (CL Z (iG _ _ j4 255 [] adJ (fun _ _ _ hz=>EH _ _  hz) h12 ?_)); cases hf; exact N 1 Z (Y Z h)
 refine V 2 Z (C hf Z (fun jq hf=>?_) fun jq hf=>?_)
 ·
  refine B1 hf fun c2 kg hf=>W 4 Z (CL Z (nZ _ _ jD 145 [] adP (fun _ _ _ hz=>Cc _ _  hz) kg (J 3 Z (C hf Z (fun kC hf=>?_) fun kC hf=>?_))))
  · cases hf; exact M 2 Z (Y Z h)
  replace hf:=(aJ _).trans hf; refine B1 hf fun x7 h16 hf=>W 4 Z (CL Z (iG _ _ j4 255 [] adJ (fun _ _ _ hz=>EH _ _  hz) h16 ?_)); cases hf; exact N 1 Z (Y Z h)
 cases hf; exact M 1 Z (Y Z h)
theorem O5 :∀ k:Nat,(Ib (jr k)):=by
 intro k
 induction k with
 | zero=>exact fun _ _ _ hz=>by first | cases hz | (unfold jr at hz; cases hz)
 | succ k ih=>exact fun wR wQ aU hz τ Q hq=>OW (jr k) ih wR wQ hz hq
theorem HZ (wR:ah) (wQ:ah) {aU:Int} (hf:wu wR wQ=some aU) (h:Q (.ret (iP aU)) τ):PC 255 [.agg (aF wR),.agg (aF wQ)] τ Q:=
 ((O5 BIG)) wR wQ hf h

theorem Fq (a1:ah) (b1:ah) {r0:Bool} (hf:mV a1 b1=some r0) (h:Q (.ret (.bool r0)) τ):PC 196 [.agg (aF a1),.agg (aF b1)] τ Q:=by
 unfold mV at hf; refine BN 9 [.tmp 4] [0,1] Tryz.func196 Z Z Z Z Z ?_; refine B1 hf fun x1 h1 hf=>W 5 Z (CL Z (HZ _ _ h1 ?_)); cases hf; exact N 2 Z (Y Z h)

theorem rJ (a1:ah) (b1:ah) (xO:Int) {r0:Bool} (hf:pI a1 b1 xO=some r0) (h:Q (.ret (.bool r0)) τ):PC 251 [.agg (aF a1),.agg (aF b1),iP xO] τ Q:=by
 unfold pI at hf; refine BN 17 [.tmp 6] [0,1,2] Tryz.func251 Z Z Z Z Z (W 8 Z (An 5 11 16 [] (b1.kind == xO) Z Z Z Z ?_)); cases hf; exact N 1 Z (Y Z h)

section
variable [Ay]
def Tn :Go.Shelf.Ren:=⟨fun | 144=>290 | 143=>327 | 219=>358 | 217=>377 | 225=>378 | 224=>379 | 267=>380 | 266=>386 | 314=>387 | n=>n,fun | 9=>9 | 4=>4 | 3=>3 | 5=>5 | 46=>248 | 146=>324 | 51=>281 | n=>n,fun | 1=>1 | n=>n⟩
theorem acA :Go.Proofs.Lays.n144 Tryz.prog Tn:={
 mixed:=by kernel_rfl
 f143:=Tryz.func327.trans (congrArg some (by kernel_rfl))
 f144:=Tryz.func290.trans (congrArg some (by kernel_rfl))
 f217:=Tryz.func377.trans (congrArg some (by kernel_rfl))
 f219:=Tryz.func358.trans (congrArg some (by kernel_rfl))
 f224:=Tryz.func379.trans (congrArg some (by kernel_rfl))
 f225:=Tryz.func378.trans (congrArg some (by kernel_rfl))
 f266:=Tryz.func386.trans (congrArg some (by kernel_rfl))
 f267:=Tryz.func380.trans (congrArg some (by kernel_rfl))
 f314:=Tryz.func387.trans (congrArg some (by kernel_rfl))
 t3:=Tryz.underlying3
 a3:=Tryz.isAgg3
 z3:=Tryz.sizeOf3
 v3:=Tryz.zeroValue3
 t4:=Tryz.underlying4
 a4:=Tryz.isAgg4
 z4:=Tryz.sizeOf4
 v4:=Tryz.zeroValue4
 t5:=Tryz.underlying5
 a5:=Tryz.isAgg5
 z5:=Tryz.sizeOf5
 v5:=Tryz.zeroValue5
 t9:=Tryz.underlying9
 a9:=Tryz.isAgg9
 z9:=Tryz.sizeOf9
 v9:=Tryz.zeroValue9
 t46:=Tryz.underlying248
 a46:=Tryz.isAgg248
 z46:=Tryz.sizeOf248
 v46:=Tryz.zeroValue248
 t51:=Tryz.underlying281
 a51:=Tryz.isAgg281
 z51:=Tryz.sizeOf281
 v51:=Tryz.zeroValue281
 t146:=Tryz.underlying324
 a146:=Tryz.isAgg324
 z146:=Tryz.sizeOf324
 v146:=Tryz.zeroValue324
 g1:=by kernel_rfl}


theorem Ld (s1:Str) (t1:Str) {r0:Bool} (hf:strings_Contains s1 t1=some r0) (h:Q (.ret (.bool r0)) τ):PC 290 [.str s1,.str t1] τ Q:=by
 unfold strings_Contains at hf
 split at hf
 case isFalse=>cases hf
 rename_i hg
 cases hf
 refine AC.none ?_
 exact AC.contains acA hg Ay.max h
end

section
variable [Ay]
@[reducible] def OU :fq aD Bool→eZ
 | .ok r=>.ret (.bool r)
 | .bad e=>.panic (.iface 106 (.agg [iP e.code]))

theorem H7 (a1:ah) (b1:ah) {rX:fq aD Bool} (hf:wK a1 b1=some rX) (h:Q (OU rX) τ):PC 249 [.agg (aF a1),.agg (aF b1)] τ Q:=by
 unfold wK at hf; refine BN 47 [.tmp 4] [0,1] Tryz.func249 Z Z Z Z Z ?_; refine B1 hf fun x1 h1 hf=>W 4 Z (CL Z (kE _ _ h1 (J 1 Z (C hf Z (fun h2 hf=>?_) fun h2 hf=>?_))))
 ·
  refine W 2 Z (AS Z (AO.aL (l:=a1.aI) Z Z Z Z dN Z (ah.aB _) (J 1 Z (Gc (fun x2=>[(3,.ref (aF b1)),(13,.list (ah.bn a1.aI)),(14,iP (a1.aI.length:Int)),(15,iP x2)]) (fun x2=>[]) (fun bW x2=>oz a1 b1 bW x2=some rX) BIG 0 Z Z hf (fun _ hz=>bQ hz) ?_)))); intro bW x2 hf; rw [oz] at hf; refine V 1 Z (C hf Z (fun h3 hf=>?_) fun h3 hf=>?_)
  ·
   refine B1 hf fun e1 h4 hf=>W 0 Z (AS Z (AO.aM h4 Z Z (ah.aB _) Z dN (ah.aG _) Z (U 1 Z (AS Z (AO.aH Z eY (fun b6=>?_)))))); refine B1 hf fun x3 h5 hf=>Rr 3 [0,0] Z Z (CL Z (Fq _ _ h5 (J 0 Z (C hf Z (fun h6 hf=>?_) fun h6 hf=>?_))))
   · cases hf; exact M 1 Z (Y Z h)
   refine Wn0 2 Z (AR.drop1 ?_); exact N 0 Z ⟨(bS (x2 + 1)),Z,Z,Z,hf⟩
  cases hf; exact M 1 Z (Y Z h)
 refine B1 hf fun x4 h7 hf=>W 2 Z (CL Z (rJ _ _ _ h7 (J 1 Z (C hf Z (fun h8 hf=>?_) fun h8 hf=>?_))))
 · refine B1 hf fun x5 h9 hf=>W 4 Z (CL Z (Ld _ _ h9 ?_)); cases hf; exact N 1 Z (Y Z h)
 refine B1 hf fun x6 h10 hf=>W 1 Z (CL Z (kE _ _ h10 ?_)); refine B1 hf fun b2 h12 hf=>U 1 Z (AR.eX 3 34 37 true [2,3] b2 Z Z (fun h11=>?_) (fun h11=>?_) ?_)
 · replace h12:=eD h11 h12; refine Is 34 h11 Z ?_; replace h12:=(aJ _).trans h12; obtain ⟨x7,jq,h12⟩:=aN h12; refine U 1 Z (GO Z (AO.call Z _ Z Z Ni (kE _ _ jq ?_))); obtain rfl:=Option.some.inj h12; exact eU 1 Z (En [37,2,3] Z)
 · replace h12:=eF h11 h12; refine Is 34 h11 Z ?_; obtain rfl:=Option.some.inj h12; exact eU 3 Z (En [37,2,3] Z)
 rcases bH hf with ⟨e2,kg,hf⟩ | ⟨_,kg,hf⟩
 · refine CL Z (bF _ _ kg ?_); cases hf; exact ⟨Z,[],List.nil_sublist _,h⟩
 refine CL Z (bF _ _ kg ?_); obtain ⟨x8,ok1,kC,hf⟩:=aY hf; refine U 3 Z (CL Z (Oy _ _ kC (U 3 Z (AS Z (AO.aH Z eY (fun b7=>?_)))))); cases hf; exact Rx 4 [0] Z Z (Y Z h)
end

theorem jQ (b1:Bool) {r0:ah} (hf:fT b1=some r0) (h:Q (.ret (.agg (aF r0))) τ):PC 194 [.bool b1] τ Q:=by
 unfold fT at hf; refine BN 5 [.cell 2 25] [0] Tryz.func194 Z Z Z Z Z (W 0 Z (AS Z (AO.aH Z eY (fun b2=>?_)))); cases hf; exact Rx 3 [0] Z Z (ZC [0] Z Z h)

section
variable [Ay]
@[reducible] def SA :fq aD ah→eZ
 | .ok r=>.ret (.agg (aF r))
 | .bad e=>.panic (.iface 106 (.agg [iP e.code]))

theorem KG (a1:ah) (b1:ah) {rX:fq aD ah} (hf:BK a1 b1=some rX) (h:Q (SA rX) τ):PC 250 [.agg (aF a1),.agg (aF b1)] τ Q:=by
 unfold BK at hf; refine BN 54 [.cell 4 25] [0,1] Tryz.func250 Z Z Z Z Z (W 2 Z (AS Z (AO.aH Z eY (fun b4=>?_)))); refine B1 hf fun x1 h1 hf=>U 1 Z (CL Z (kE _ _ h1 ?_)); refine B1 hf fun b2 h3 hf=>U 1 Z (AR.eX 3 11 14 true [2,3,4] b2 Z Z (fun h2=>?_) (fun h2=>?_) ?_)
 · replace h3:=eD h2 h3; refine Is 11 h2 Z ?_; replace h3:=(aJ _).trans h3; obtain ⟨x2,h4,h3⟩:=aN h3; refine U 1 Z (GO Z (AO.call Z _ Z Z Ni (kE _ _ h4 ?_))); obtain rfl:=Option.some.inj h3; exact eU 1 Z (En [14,2,3,4] Z)
 · replace h3:=eF h2 h3; refine Is 11 h2 Z ?_; obtain rfl:=Option.some.inj h3; exact eU 3 Z (En [14,2,3,4] Z)
 rcases bH hf with ⟨e1,h5,hf⟩ | ⟨_,h5,hf⟩
 · refine CL Z (bF _ _ h5 ?_); cases hf; exact ⟨Z,[],List.nil_sublist _,h⟩
 refine CL Z (bF _ _ h5 (U 4 Z (AS Z (AO.aL (l:=a1.aI) Z Z Z Z dN Z (ah.aB _) ?_))))
 refine J 1 Z (AW.row 1 9 (LK4 (fun n1 l1 v1 x3=>[(3,.ref (aF b1)),(4,pP b4),(5,iP n1),(6,.own v1 (List.map ko l1)),(17,.list (ah.bn a1.aI)),(18,iP (a1.aI.length:Int)),(19,iP x3)]) (fun n1 l1 v1 x3=>[.row v1 (List.map ko l1).length 1 9,.box b4 [iP 0,.bool false,iP 0,.str ([]:Str),.own (.slice none 0 0) [],.own (.slice none 0 0) []]]) (fun bW n1 l1 v1 x3=>uR a1 b1 bW n1 l1 x3=some rX) BIG 0 [] (.slice none 0 0) 0 Z Z hf (fun _ _ _ _ hz=>bQ hz) ?_)); intro bW n1 l1 v1 x3 hf; rw [uR] at hf
 refine V 1 Z (C hf Z (fun h6 hf=>?_) fun h6 hf=>?_)
 ·
  refine B1 hf fun e2 h7 hf=>W 0 Z (AS Z (AO.aM h7 Z Z (ah.aB _) Z dN (ah.aG _) Z (U 1 Z (AS Z (AO.aH Z eY (fun b8=>?_)))))); refine B1 hf fun x4 h8 hf=>Rr 2 [0,0] Z Z (CL Z (kE _ _ h8 ?_)); rcases bH hf with ⟨e3,h9,hf⟩ | ⟨_,h9,hf⟩
  · refine CL Z (bF _ _ h9 ?_); cases hf; exact ⟨Z,[],List.nil_sublist _,h⟩
  refine CL Z (bF _ _ h9 (Rr 3 [0] Z Z (AS Z (AO.bq (List.map ko ([e2.bI]:List Str)) Z kU Z Z Z Z ?_)))); refine B1 hf fun l2 h10 hf=>AS Z (AO.eP (i:=1) (l:=l1) (m:=([e2.bI]:List Str)) h10 Z Z Z Z Z Z Z kU dO Z Z Z (fun _=>Z) (fun _=>Z) (by decide) (fun v2 s1 hs1=>?_)); cases hs1; refine Rr 4 [0] Z Z (AS Z (AO.bJ Z Z Z Z cu Z (eU 4 Z (AR.drop1 ?_)))); exact N 0 Z ⟨(bS (n1 + (e2.bI.length:Int))),l2,v2,(bS (x3 + 1)),Z,Z,Z,hf⟩
 refine W 3 Z (AS Z (AO.bJ Z Z Z Z cu Z (U 1 Z (AS Z (AO.aL (l:=l1) Z Z Z Z dO Z Z (U 1 Z (AS Z (AO.max2 Z Z Z Z Z ?_)))))))); rcases bH hf with ⟨e4,h11,hf⟩ | ⟨_,h11,hf⟩
 · refine U 3 Z (CL Z (bF _ _ h11 ?_)); cases hf; exact ⟨Z,[],List.nil_sublist _,h⟩
 refine U 3 Z (CL Z (bF _ _ h11 ?_)); refine B1 hf fun x5 h12 hf=>U 3 Z (CL Z (zy _ _ h12 ?_)); refine B1 hf fun x6 jq hf=>CL Z (uU _ jq ?_); cases hf; exact Rx 1 [1] Z Z (ZC [1] Z Z h)
end

theorem Ec (s1:Str) (yJ:Str) {r0:Bool} (hf:qV s1 yJ=some r0) (h:Q (.ret (.bool r0)) τ):PC 291 [.str s1,.str yJ] τ Q:=by
 unfold qV at hf; refine BN 18 [.tmp 4] [0,1] Tryz.func291 Z Z Z Z Z (W 2 Z (AS Z (AO.bJ Z Z Z Z cu Z (U 1 Z (AS Z (AO.bJ Z Z Z Z cu Z ?_)))))); replace hf:=(aJ _).trans hf; refine B1 hf fun b1 h2 hf=>U 2 Z (AR.eX 7 10 17 true [] b1 Z Z (fun h1=>?_) (fun h1=>?_) ?_)
 · replace h2:=eD h1 h2; refine Is 10 h1 Z (U 2 Z (GO Z (AO.bJ Z Z Z Z cu Z ?_))); obtain ⟨x1,h3,h2⟩:=aN h2; refine GO Z (AO.nL h3 Z cu Z Z ⟨_,Z⟩ ?_); obtain rfl:=Option.some.inj h2; exact eU 3 Z (En [17] Z)
 · replace h2:=eF h1 h2; refine Is 10 h1 Z ?_; obtain rfl:=Option.some.inj h2; exact eU 7 Z (En [17] Z)
 cases hf; exact N 1 Z (Y Z h)

theorem Kl (s1:Str) (yJ:Str) {r0:Bool} (hf:strings_HasPrefix s1 yJ=some r0) (h:Q (.ret (.bool r0)) τ):PC 252 [.str s1,.str yJ] τ Q:=by
 unfold strings_HasPrefix at hf; refine BN 8 [.tmp 4] [0,1] Tryz.func252 Z Z Z Z Z ?_; replace hf:=(aJ _).trans hf; refine B1 hf fun x1 h1 hf=>W 3 Z (CL Z (Ec _ _ h1 ?_)); cases hf; exact N 1 Z (Y Z h)

theorem Eb (s1:Str) (yu:Str) {r0:Bool} (hf:qU s1 yu=some r0) (h:Q (.ret (.bool r0)) τ):PC 292 [.str s1,.str yu] τ Q:=by
 unfold qU at hf; refine BN 21 [.tmp 4] [0,1] Tryz.func292 Z Z Z Z Z (W 2 Z (AS Z (AO.bJ Z Z Z Z cu Z (U 1 Z (AS Z (AO.bJ Z Z Z Z cu Z ?_)))))); replace hf:=(aJ _).trans hf; refine B1 hf fun b1 h2 hf=>U 2 Z (AR.eX 10 10 20 true [] b1 Z Z (fun h1=>?_) (fun h1=>?_) ?_)
 · replace h2:=eD h1 h2; refine Is 10 h1 Z (U 2 Z (GO Z (AO.bJ Z Z Z Z cu Z (U 1 Z (GO Z (AO.bJ Z Z Z Z cu Z ?_)))))); obtain ⟨x1,h3,h2⟩:=aN h2; refine U 1 Z (GO Z (AO.nL h3 Z cu Z ⟨_,Z⟩ Z ?_)); obtain rfl:=Option.some.inj h2; exact eU 3 Z (En [20] Z)
 · replace h2:=eF h1 h2; refine Is 10 h1 Z ?_; obtain rfl:=Option.some.inj h2; exact eU 10 Z (En [20] Z)
 cases hf; exact N 1 Z (Y Z h)

theorem Kk (s1:Str) (yu:Str) {r0:Bool} (hf:strings_HasSuffix s1 yu=some r0) (h:Q (.ret (.bool r0)) τ):PC 253 [.str s1,.str yu] τ Q:=by
 unfold strings_HasSuffix at hf; refine BN 8 [.tmp 4] [0,1] Tryz.func253 Z Z Z Z Z ?_; replace hf:=(aJ _).trans hf; refine B1 hf fun x1 h1 hf=>W 3 Z (CL Z (Eb _ _ h1 ?_)); cases hf; exact N 1 Z (Y Z h)

section
variable [Ay]
def ZB :Go.Shelf.Ren:=⟨fun | 146=>254 | 221=>293 | 268=>328 | 138=>329 | 143=>327 | 195=>359 | 197=>345 | 218=>360 | 219=>358 | 260=>366 | 217=>377 | 225=>378 | 224=>379 | 267=>380 | 266=>386 | 314=>387 | n=>n,fun | 9=>9 | 31=>23 | 3=>3 | 4=>4 | 0=>0 | 105=>283 | 21=>21 | 5=>5 | 46=>248 | 119=>314 | 139=>317 | 138=>316 | 146=>324 | 51=>281 | n=>n,fun | 1=>1 | 3=>4 | 4=>5 | n=>n⟩
theorem ahm :Go.Proofs.Lays.n146 Tryz.prog ZB:={
 mixed:=by kernel_rfl
 f138:=Tryz.func329.trans (congrArg some (by kernel_rfl))
 f143:=Tryz.func327.trans (congrArg some (by kernel_rfl))
 f146:=Tryz.func254.trans (congrArg some (by kernel_rfl))
 f195:=Tryz.func359.trans (congrArg some (by kernel_rfl))
 f197:=Tryz.func345.trans (congrArg some (by kernel_rfl))
 f217:=Tryz.func377.trans (congrArg some (by kernel_rfl))
 f218:=Tryz.func360.trans (congrArg some (by kernel_rfl))
 f219:=Tryz.func358.trans (congrArg some (by kernel_rfl))
 f221:=Tryz.func293.trans (congrArg some (by kernel_rfl))
 f224:=Tryz.func379.trans (congrArg some (by kernel_rfl))
 f225:=Tryz.func378.trans (congrArg some (by kernel_rfl))
 f260:=Tryz.func366.trans (congrArg some (by kernel_rfl))
 f266:=Tryz.func386.trans (congrArg some (by kernel_rfl))
 f267:=Tryz.func380.trans (congrArg some (by kernel_rfl))
 f268:=Tryz.func328.trans (congrArg some (by kernel_rfl))
 f314:=Tryz.func387.trans (congrArg some (by kernel_rfl))
 t0:=Tryz.underlying0
 a0:=Tryz.isAgg0
 z0:=Tryz.sizeOf0
 v0:=Tryz.zeroValue0
 t3:=Tryz.underlying3
 a3:=Tryz.isAgg3
 z3:=Tryz.sizeOf3
 v3:=Tryz.zeroValue3
 t4:=Tryz.underlying4
 a4:=Tryz.isAgg4
 z4:=Tryz.sizeOf4
 v4:=Tryz.zeroValue4
 t5:=Tryz.underlying5
 a5:=Tryz.isAgg5
 z5:=Tryz.sizeOf5
 v5:=Tryz.zeroValue5
 t9:=Tryz.underlying9
 a9:=Tryz.isAgg9
 z9:=Tryz.sizeOf9
 v9:=Tryz.zeroValue9
 t21:=Tryz.underlying21
 a21:=Tryz.isAgg21
 z21:=Tryz.sizeOf21
 v21:=Tryz.zeroValue21
 t31:=Tryz.underlying23
 a31:=Tryz.isAgg23
 z31:=Tryz.sizeOf23
 v31:=Tryz.zeroValue23
 t46:=Tryz.underlying248
 a46:=Tryz.isAgg248
 z46:=Tryz.sizeOf248
 v46:=Tryz.zeroValue248
 t51:=Tryz.underlying281
 a51:=Tryz.isAgg281
 z51:=Tryz.sizeOf281
 v51:=Tryz.zeroValue281
 t105:=Tryz.underlying283
 a105:=Tryz.isAgg283
 z105:=Tryz.sizeOf283
 v105:=Tryz.zeroValue283
 t119:=Tryz.underlying314
 a119:=Tryz.isAgg314
 z119:=Tryz.sizeOf314
 t138:=Tryz.underlying316
 a138:=Tryz.isAgg316
 z138:=Tryz.sizeOf316
 v138:=Tryz.zeroValue316
 t139:=Tryz.underlying317
 a139:=Tryz.isAgg317
 z139:=Tryz.sizeOf317
 v139:=Tryz.zeroValue317
 t146:=Tryz.underlying324
 a146:=Tryz.isAgg324
 z146:=Tryz.sizeOf324
 v146:=Tryz.zeroValue324
 g1:=by kernel_rfl
 g3:=by kernel_rfl
 g4:=by kernel_rfl}


theorem Pf (s1:Str) (t1:Str) {r0:List Str} (hf:strings_Split s1 t1=some r0) (h:Q (.ret (sP r0)) τ):PC 254 [.str s1,.str t1] τ Q:=by
 unfold strings_Split at hf
 split at hf
 case isFalse=>cases hf
 rename_i hg
 cases hf
 refine AC.none ?_
 exact AC.split ahm (by kernel_rfl) hg.1 hg.2 Ay.max h
end

section
variable [Ay]
@[reducible] def Zj :fq aD ah→eZ
 | .ok r=>.ret (.agg (aF r))
 | .bad e=>.panic (.iface 106 (.agg [iP e.code]))

theorem R_ (name1:Str) (a1:ah) (b1:ah) {rX:fq aD ah} (hf:Ji name1 a1 b1=some rX) (h:Q (Zj rX) τ):PC 193 [.str name1,.agg (aF a1),.agg (aF b1)] τ Q:=by
 unfold Ji at hf; refine BN 62 [.cell 6 25] [0,1,2] Tryz.func193 Z Z Z Z Z (W 2 Z (AS Z (AO.aH Z eY (fun b6=>(J 3 Z (C hf Z (fun h1 hf=>?_) fun h1 hf=>?_))))))
 ·
  refine B1 hf fun x1 h2 hf=>W 1 Z (CL Z (kE _ _ h2 (J 0 Z (C hf Z (fun h3 hf=>?_) fun h3 hf=>?_))))
  · cases hf; exact Wx 2 [0] Z Z (ZC [0] Z Z h)
  cases hf; exact Wx 2 [0] Z Z (ZC [0] Z Z h)
 refine V 2 Z (C hf Z (fun h4 hf=>?_) fun h4 hf=>?_)
 ·
  rcases bH hf with ⟨e1,h5,hf⟩ | ⟨x2,h5,hf⟩
  · refine W 2 Z (CL Z (H7 _ _ h5 ?_)); cases hf; exact ⟨Z,[],List.nil_sublist _,h⟩
  refine W 2 Z (CL Z (H7 _ _ h5 ?_)); refine B1 hf fun x3 h6 hf=>CL Z (jQ _ h6 ?_); cases hf; exact Rx 1 [0] Z Z (ZC [0] Z Z h)
 refine V 2 Z (C hf Z (fun h7 hf=>?_) fun h7 hf=>?_)
 ·
  rcases bH hf with ⟨e2,h8,hf⟩ | ⟨x4,h8,hf⟩
  · refine W 2 Z (CL Z (KG _ _ h8 ?_)); cases hf; exact ⟨Z,[],List.nil_sublist _,h⟩
  refine W 2 Z (CL Z (KG _ _ h8 ?_)); cases hf; exact Rx 1 [0] Z Z (ZC [0] Z Z h)
 refine B1 hf fun x5 h9 hf=>W 2 Z (CL Z (rJ _ _ _ h9 ?_)); rcases bH hf with ⟨e3,h10,hf⟩ | ⟨_,h10,hf⟩
 · refine CL Z (bF _ _ h10 ?_); cases hf; exact ⟨Z,[],List.nil_sublist _,h⟩
 refine CL Z (bF _ _ h10 (J 3 Z (C hf Z (fun h11 hf=>?_) fun h11 hf=>?_)))
 · refine B1 hf fun x6 h12 hf=>W 4 Z (CL Z (Kl _ _ h12 ?_)); refine B1 hf fun x7 jq hf=>CL Z (jQ _ jq ?_); cases hf; exact Rx 1 [0] Z Z (ZC [0] Z Z h)
 refine V 2 Z (C hf Z (fun kg hf=>?_) fun kg hf=>?_)
 · refine B1 hf fun x8 kC hf=>W 4 Z (CL Z (Kk _ _ kC ?_)); refine B1 hf fun x9 h16 hf=>CL Z (jQ _ h16 ?_); cases hf; exact Rx 1 [0] Z Z (ZC [0] Z Z h)
 rcases bH hf with ⟨e4,mQ,hf⟩ | ⟨_,mQ,hf⟩
 · refine W 3 Z (CL Z (bF _ _ mQ ?_)); cases hf; exact ⟨Z,[],List.nil_sublist _,h⟩
 refine W 3 Z (CL Z (bF _ _ mQ ?_)); refine B1 hf fun l1 h18 hf=>U 4 Z (CL Z (Pf _ _ h18 (U 2 Z (AS Z (AO.aL (l:=l1) Z Z Z Z dO Z Z ?_))))); rcases bH hf with ⟨e5,h19,hf⟩ | ⟨_,h19,hf⟩
 · refine U 1 Z (CL Z (bF _ _ h19 ?_)); cases hf; exact ⟨Z,[],List.nil_sublist _,h⟩
 refine U 1 Z (CL Z (bF _ _ h19 ?_)); refine B1 hf fun CO h20 hf=>U 1 Z (CL Z (OG _ h20 ?_)); cases hf; exact Rx 1 [0] Z Z (ZC [0] Z Z h)
end

@[reducible] def Vl :fq aD Bool→eZ
 | .ok r=>.ret (.bool r)
 | .bad e=>.panic (.iface 106 (.agg [iP e.code]))

theorem qj (v1:ah) {rX:fq aD Bool} (hf:uP v1=some rX) (h:Q (Vl rX) τ):PC 127 [.agg (aF v1)] τ Q:=by
 unfold uP at hf; refine BN 8 [.tmp 2] [0] Tryz.func127 Z Z Z Z Z ?_; refine B1 hf fun x1 h1 hf=>W 3 Z (CL Z (kE _ _ h1 ?_)); rcases bH hf with ⟨e1,h2,hf⟩ | ⟨_,h2,hf⟩
 · refine CL Z (bF _ _ h2 ?_); cases hf; exact ⟨Z,[],List.nil_sublist _,h⟩
 refine CL Z (bF _ _ h2 ?_); cases hf; exact N 3 Z (Y Z h)

@[reducible] def Vk :fq aD ah→eZ
 | .ok r=>.ret (.agg (aF r))
 | .bad e=>.panic (.iface 106 (.agg [iP e.code]))

theorem MS (op1:Str) (v1:ah) {rX:fq aD ah} (hf:DJ op1 v1=some rX) (h:Q (Vk rX) τ):PC 125 [.str op1,.agg (aF v1)] τ Q:=by
 unfold DJ at hf; refine BN 18 [.cell 4 25] [0,1] Tryz.func125 Z Z Z Z Z (W 1 Z (AS Z (AO.aH Z eY (fun b4=>(J 2 Z (C hf Z (fun h1 hf=>?_) fun h1 hf=>?_))))))
 ·
  rcases bH hf with ⟨e1,h2,hf⟩ | ⟨x1,h2,hf⟩
  · refine W 1 Z (CL Z (qj _ h2 ?_)); cases hf; exact ⟨Z,[],List.nil_sublist _,h⟩
  refine W 1 Z (CL Z (qj _ h2 ?_)); refine B1 hf fun x2 h3 hf=>U 1 Z (CL Z (jQ _ h3 ?_)); cases hf; exact Rx 1 [0] Z Z (ZC [0] Z Z h)
 refine B1 hf fun x3 h4 hf=>W 1 Z (CL Z (kE _ _ h4 ?_)); rcases bH hf with ⟨e2,h5,hf⟩ | ⟨_,h5,hf⟩
 · refine CL Z (bF _ _ h5 ?_); cases hf; exact ⟨Z,[],List.nil_sublist _,h⟩
 refine CL Z (bF _ _ h5 ?_); refine B1 hf fun x4 h6 hf=>U 3 Z (CL Z (uV _ h6 ?_)); cases hf; exact Rx 1 [0] Z Z (ZC [0] Z Z h)

@[reducible] def Vm :fq aD Int→eZ
 | .ok r=>.ret (iP r)
 | .bad e=>.panic (.iface 106 (.agg [iP e.code]))

theorem ql (a1:ah) (b1:ah) {rX:fq aD Int} (hf:nP a1 b1=some rX) (h:Q (Vm rX) τ):PC 197 [.agg (aF a1),.agg (aF b1)] τ Q:=by
 unfold nP at hf; refine BN 17 [.tmp 4] [0,1] Tryz.func197 Z Z Z Z Z ?_; refine B1 hf fun x1 h1 hf=>W 5 Z (CL Z (rJ _ _ _ h1 ?_)); refine B1 hf fun b2 h3 hf=>U 1 Z (AR.eX 4 8 12 false [2,3] b2 Z Z (fun h2=>?_) (fun h2=>?_) ?_)
 · replace h3:=eF h2 h3; refine Is 8 h2 Z ?_; replace h3:=(aJ _).trans h3; obtain ⟨x2,h4,h3⟩:=aN h3; refine U 2 Z (GO Z (AO.call Z _ Z Z ahx (rJ _ _ _ h4 ?_))); obtain rfl:=Option.some.inj h3; exact eU 1 Z (En [12,2,3] Z)
 · replace h3:=eD h2 h3; refine Is 8 h2 Z ?_; obtain rfl:=Option.some.inj h3; exact eU 4 Z (En [12,2,3] Z)
 rcases bH hf with ⟨e1,h5,hf⟩ | ⟨_,h5,hf⟩
 · refine CL Z (bF _ _ h5 ?_); cases hf; exact ⟨Z,[],List.nil_sublist _,h⟩
 refine CL Z (bF _ _ h5 ?_); refine B1 hf fun x3 h6 hf=>U 2 Z (CL Z (HZ _ _ h6 ?_)); cases hf; exact N 1 Z (Y Z h)

@[reducible] def Sz :fq aD ah→eZ
 | .ok r=>.ret (.agg (aF r))
 | .bad e=>.panic (.iface 106 (.agg [iP e.code]))

theorem oo (n1:Int) {rX:fq aD ah} (hf:rG n1=some rX) (h:Q (Sz rX) τ):PC 256 [iP n1] τ Q:=by
 unfold rG at hf; refine BN 12 [.cell 2 25] [0] Tryz.func256 Z Z Z Z Z (W 0 Z (AS Z (AO.aH Z eY (fun b2=>(U 3 Z (An 3 5 8 [0,2] (decide (n1≤9007199254740992)) Z Z Z Z ?_)))))); rcases bH hf with ⟨e1,h2,hf⟩ | ⟨_,h2,hf⟩
 · refine CL Z (bF _ _ h2 ?_); cases hf; exact ⟨Z,[],List.nil_sublist _,h⟩
 refine CL Z (bF _ _ h2 ?_); refine B1 hf fun x1 h3 hf=>U 1 Z (CL Z (uV _ h3 ?_)); cases hf; exact Rx 1 [0] Z Z (ZC [0] Z Z h)

@[reducible] def Zk :fq aD ah→eZ
 | .ok r=>.ret (.agg (aF r))
 | .bad e=>.panic (.iface 106 (.agg [iP e.code]))

theorem Sb (a1:ah) (b1:ah) {rX:fq aD ah} (hf:FZ a1 b1=some rX) (h:Q (Zk rX) τ):PC 198 [.agg (aF a1),.agg (aF b1)] τ Q:=by
 unfold FZ at hf; refine BN 57 [.cell 4 25] [0,1] Tryz.func198 Z Z Z Z Z (W 2 Z (AS Z (AO.aH Z eY (fun b4=>?_)))); refine B1 hf fun x1 h1 hf=>U 2 Z (CL Z (rJ _ _ _ h1 (J 1 Z (C hf Z (fun h2 hf=>?_) fun h2 hf=>?_))))
 ·
  rcases bH hf with ⟨e1,h3,hf⟩ | ⟨x2,h3,hf⟩
  · refine W 5 Z (CL Z (oo _ h3 ?_)); cases hf; exact ⟨Z,[],List.nil_sublist _,h⟩
  refine W 5 Z (CL Z (oo _ h3 ?_)); cases hf; exact Rx 1 [0] Z Z (ZC [0] Z Z h)
 refine B1 hf fun x3 h4 hf=>W 2 Z (CL Z (rJ _ _ _ h4 (J 1 Z (C hf Z (fun h5 hf=>?_) fun h5 hf=>?_))))
 ·
  refine W 2 Z (AS Z (AO.bJ Z Z Z Z cu Z (U 2 Z (AS Z (AO.bJ Z Z Z Z cu Z ?_))))); rcases bH hf with ⟨e2,h6,hf⟩ | ⟨_,h6,hf⟩
  · refine U 2 Z (CL Z (bF _ _ h6 ?_)); cases hf; exact ⟨Z,[],List.nil_sublist _,h⟩
  refine U 2 Z (CL Z (bF _ _ h6 ?_)); refine B1 hf fun x4 h7 hf=>U 4 Z (AS Z (AO.kN h7 Z Z Z ?_)); refine B1 hf fun x5 h8 hf=>CL Z (uU _ h8 ?_); cases hf; exact Rx 1 [0] Z Z (ZC [0] Z Z h)
 refine B1 hf fun x6 h9 hf=>W 2 Z (CL Z (rJ _ _ _ h9 ?_)); rcases bH hf with ⟨e3,h10,hf⟩ | ⟨_,h10,hf⟩
 · refine CL Z (bF _ _ h10 ?_); cases hf; exact ⟨Z,[],List.nil_sublist _,h⟩
 refine CL Z (bF _ _ h10 (U 2 Z (AS Z (AO.aL (l:=a1.aI) Z Z Z Z dN Z (ah.aB _) (U 2 Z (AS Z (AO.aL (l:=b1.aI) Z Z Z Z dN Z (ah.aB _) ?_))))))); rcases bH hf with ⟨e4,h11,hf⟩ | ⟨_,h11,hf⟩
 · refine U 2 Z (CL Z (bF _ _ h11 ?_)); cases hf; exact ⟨Z,[],List.nil_sublist _,h⟩
 refine U 2 Z (CL Z (bF _ _ h11 (U 4 Z (AR.row 6 25 ?_)))); refine B1 hf fun l1 h12 hf=>AS Z (AO.eP (i:=0) (l:=[]) (m:=a1.aI) h12 Z Z Z Z Z Z Z oW dN (show ([]:List (List PV))=List.map ah.cells [] from Z) (ah.aB _) (ah.aB _).symm (ah.dV) (ah.cells_one) (by decide) (fun v1 s1 hs1=>?_)); cases hs1; refine B1 hf fun x7 jq hf=>U 4 Z (AS Z (AO.eP (i:=0) (l:=l1) (m:=b1.aI) jq Z Z Z Z Z Z Z oW dN (ah.aB _) (ah.aB _) (ah.aB _).symm (ah.dV) (ah.cells_one) (by decide) (fun v2 s2 hs2=>?_)))
 cases hs2; refine B1 hf fun x8 kg hf=>CL Z (MV _ kg ?_); cases hf; exact Rx 1 [1] Z Z (ZC [1] Z Z h)

theorem R5 (n1:Int) {r0:BitVec 64} (hf:I8 n1=some r0) (h:Q (.ret (.int .u64 (r0.toNat:Int))) τ):PC 330 [iP n1] τ Q:=by
 unfold I8 at hf; refine BN 10 [.tmp 2] [0] Tryz.func330 Z Z Z Z Z (V 3 Z (C hf Z (fun h1 hf=>?_) fun h1 hf=>?_))
 · refine W 1 Z (AS Z (AO.Vy Z Ea Gh Z (AS Z (AO.u64_neg (BitVec.ofInt 64 n1) Z Z Z ?_)))); cases hf; exact N 1 Z (Y Z h)
 refine W 1 Z (AS Z (AO.Vy Z Ea Gh Z ?_)); cases hf; exact N 1 Z (Y Z h)

theorem R6 (a1:Int) (b1:Int) {r0:jo} (hf:Cr a1 b1=some r0) (h:Q (.ret (.agg (Ou r0))) τ):PC 297 [iP a1,iP b1] τ Q:=by
 unfold Cr at hf; refine BN 71 [.cell 4 241] [0,1] Tryz.func297 Z Z Z Z Z (W 0 Z (AS Z (AO.aH Z Zh (fun b4=>?_)))); refine B1 hf fun x1 h1 hf=>U 1 Z (CL Z (R5 _ h1 ?_)); refine B1 hf fun y1 h2 hf=>U 1 Z (CL Z (R5 _ h2 (U 3 Z (AS Z (AO.LH x1 32 Z Z Z Z Z (U 1 Z (AS Z (AO.u64_and x1 (4294967295:BitVec 64) Z Z Z Z Z (U 1 Z (AS Z (AO.LH y1 32 Z Z Z Z Z ?_))))))))))); refine U 1 Z (AS Z (AO.u64_and y1 (4294967295:BitVec 64) Z Z Z Z Z ?_))
 refine B1 hf fun BZ h3 hf=>U 6 Z (AS Z (AO.Bp (x1 &&& (4294967295:BitVec 64)) (y1 &&& (4294967295:BitVec 64)) h3 Z Z Z Z Z ?_)); refine B1 hf fun x2 h4 hf=>U 3 Z (AS Z (AO.Bp (x1 >>> 32) (y1 &&& (4294967295:BitVec 64)) h4 Z Z Z Z Z (U 1 Z (AS Z (AO.LH BZ 32 Z Z Z Z Z (AS Z (AO.Ee x2 (BZ >>> 32) Z Z Z Z Z ?_))))))); refine B1 hf fun x3 h5 hf=>U 3 Z (AS Z (AO.Bp (x1 &&& (4294967295:BitVec 64)) (y1 >>> 32) h5 Z Z Z Z Z ?_)); refine B1 hf fun x4 h6 hf=>?_
 refine U 1 Z (AS Z (AO.adf (x2 + (BZ >>> 32)) (4294967295:BitVec 64) h6 Z Z Z Z Z (AS Z (AO.Ee x3 x4 Z Z Z Z Z (U 3 Z (AS Z (AO.aaM (x1 >>> 32) (y1 >>> 32) Z Z Z Z Z (U 1 Z (AS Z (AO.LH (x2 + (BZ >>> 32)) 32 Z Z Z Z Z ?_)))))))))); refine B1 hf fun x5 h7 hf=>AS Z (AO.Qc ((x1 >>> 32) * (y1 >>> 32)) ((x2 + (BZ >>> 32)) >>> 32) h7 Z Z Z Z Z (U 1 Z (AS Z (AO.LH (x3 + x4) 32 Z Z Z Z Z (AS Z (AO.Ee x5 ((x3 + x4) >>> 32) Z Z Z Z Z (U 1 Z (AS Z (AO.afl (x3 + x4) 32 Z Z Z Z Z ?_)))))))))
 refine U 1 Z (AS Z (AO.u64_and BZ (4294967295:BitVec 64) Z Z Z Z Z ?_)); refine B1 hf fun x6 h8 hf=>AS Z (AO.afm ((x3 + x4) <<< 32) (BZ &&& (4294967295:BitVec 64)) h8 Z Z Z Z Z (AS Z (AO.U8 Z acZ Lj Z (U 1 Z (AS Z (AO.aH Z Zh (fun b14=>(Rr 5 [0] Z Z (AS Z (AO.MX Z Zv Z Z ?_)))))))))); refine U 1 Z (AR.and 5 63 68 [4,14] (x:=(!decide (([((x5 + ((x3 + x4) >>> 32)).toNat:Int),(x6.toNat:Int)]:List Int)=([0,0]:List Int)))) Z Z (fun h9=>?_) (fun h9=>?_) ?_)
 · refine Is 63 h9 Z (U 1 Z (GO Z (AO.bV (i:=0) Z Z Z ahl Z Z (GO Z (AO.U8 Z acZ Lj Z (GO Z (AO.ad7 ([((x5 + ((x3 + x4) >>> 32)).toNat:Int),(x6.toNat:Int)]:List Int) ([0,0]:List Int) Z ahi Gh aiz aiy aiv Z Z Z Z Z Z (aaH [(x5 + ((x3 + x4) >>> 32)),x6]) (aaH [(0:BitVec 64),(0:BitVec 64)]) ?_))))))); exact eU 1 Z (En [68,4,14] Z)
 · refine Is 63 h9 Z ?_; exact eU 5 Z (En [68,4,14] Z)
 cases hf; exact Rx 4 [0,0,1] Z Z (ZC [1] Z Z h)

theorem JC (p1:jo) {r0:Int} {r1:Bool} (hf:rP p1=some (r0,r1)) (h:Q (.ret (.tuple [iP r0,.bool r1])) τ):PC 298 [.agg (Ou p1)] τ Q:=by
 unfold rP at hf; refine BN 37 [.tmp 2,.tmp 3] [0] Tryz.func298 Z Z Z Z Z (W 4 Z (AS Z (AO.uN (sz:=1) 0 Z Lj Z Z (by decide) Z ?_))); refine J 3 Z (C hf Z (fun h1 hf=>?_) fun h1 hf=>?_)
 · cases hf; exact M 2 rfl ⟨rfl,_,⟨_,_,rfl,rfl,_,_,rfl,rfl,rfl⟩,[],List.nil_sublist _,h⟩
 refine W 3 Z (AR.and 5 12 17 [1] (x:=(decide (((p1.half.getD 1 0).toNat:Int)≤9223372036854775808))) Z Z (fun h2=>?_) (fun h2=>?_) ?_)
 · refine Is 12 h2 Z (U 1 Z (GO Z (AO.uN (sz:=1) 1 Z Lj Z Z (by decide) Z ?_))); exact eU 3 Z (En [17,1] Z)
 · refine Is 12 h2 Z ?_; exact eU 5 Z (En [17,1] Z)
 refine J 1 Z (C hf Z (fun h3 hf=>?_) fun h3 hf=>?_)
 · refine W 1 Z (AS Z (AO.uN (sz:=1) 1 Z Lj Z Z (by decide) Z ?_)); refine U 1 Z (AS Z (AO.u64_neg (p1.half.getD 1 0) Z Z Z (AS Z (AO.DU Z Gh Ea Z ?_)))); cases hf; exact N 2 rfl ⟨rfl,_,⟨_,_,rfl,rfl,_,_,rfl,rfl,rfl⟩,[],List.nil_sublist _,h⟩
 refine W 4 Z (AR.and 5 27 32 [1] (x:=(decide (((p1.half.getD 1 0).toNat:Int)≤9223372036854775807))) Z Z (fun h4=>?_) (fun h4=>?_) ?_)
 · refine Is 27 h4 Z (U 1 Z (GO Z (AO.uN (sz:=1) 1 Z Lj Z Z (by decide) Z ?_))); exact eU 3 Z (En [32,1] Z)
 · refine Is 27 h4 Z ?_; exact eU 5 Z (En [32,1] Z)
 refine J 1 Z (C hf Z (fun h5 hf=>?_) fun h5 hf=>?_)
 · refine W 1 Z (AS Z (AO.uN (sz:=1) 1 Z Lj Z Z (by decide) Z ?_)); refine U 1 Z (AS Z (AO.DU Z Gh Ea Z ?_)); cases hf; exact N 2 rfl ⟨rfl,_,⟨_,_,rfl,rfl,_,_,rfl,rfl,rfl⟩,[],List.nil_sublist _,h⟩
 cases hf; exact M 2 rfl ⟨rfl,_,⟨_,_,rfl,rfl,_,_,rfl,rfl,rfl⟩,[],List.nil_sublist _,h⟩

theorem acJ (afV:Bool) {r0:Int} (hf:VX afV=some r0) (h:Q (.ret (iP r0)) τ):PC 299 [.bool afV] τ Q:=by
 unfold VX at hf; refine BN 4 [.tmp 2] [0] Tryz.func299 Z Z Z Z Z (V 2 Z (C hf Z (fun h1 hf=>?_) fun h1 hf=>?_))
 · cases hf; exact M 1 Z (Y Z h)
 cases hf; exact M 1 Z (Y Z h)

theorem acK (a1:Int) (b1:Int) {r0:Int} (hf:Md a1 b1=some r0) (h:Q (.ret (iP r0)) τ):PC 257 [iP a1,iP b1] τ Q:=by
 unfold Md at hf; refine BN 21 [.tmp 4] [0,1] Tryz.func257 Z Z Z Z Z ?_; refine B1 hf fun x1 h1 hf=>W 3 Z (CL Z (R6 _ _ h1 (AS Z (AO.aH Z Zh (fun b5=>?_))))); obtain ⟨n1,ok1,h2,hf⟩:=aY hf; refine Rr 2 [0,0] Z Z (CL Z (JC _ h2 (J 6 Z (C hf Z (fun h3 hf=>?_) fun h3 hf=>?_))))
 · cases hf; exact M 2 Z (Y Z h)
 replace hf:=(aJ _).trans hf; refine B1 hf fun x2 h4 hf=>Wr 2 [0] Z Z (CL Z (acJ _ h4 ?_)); cases hf; exact N 1 Z (Y Z h)

@[reducible] def Ls :fq aD ah→eZ
 | .ok r=>.ret (.agg (aF r))
 | .bad e=>.panic (.iface 106 (.agg [iP e.code]))

theorem EW (op1:Str) (a1:ah) (b1:ah) {rX:fq aD ah} (hf:pJ op1 a1 b1=some rX) (h:Q (Ls rX) τ):PC 199 [.str op1,.agg (aF a1),.agg (aF b1)] τ Q:=by
 unfold pJ at hf; refine BN 46 [.cell 6 25] [0,1,2] Tryz.func199 Z Z Z Z Z (W 2 Z (AS Z (AO.aH Z eY (fun b6=>?_)))); refine B1 hf fun x1 h1 hf=>U 2 Z (CL Z (rJ _ _ _ h1 ?_)); rcases bH hf with ⟨e1,h2,hf⟩ | ⟨_,h2,hf⟩
 · refine CL Z (bF _ _ h2 ?_); cases hf; exact ⟨Z,[],List.nil_sublist _,h⟩
 refine CL Z (bF _ _ h2 (J 3 Z (C hf Z (fun h3 hf=>?_) fun h3 hf=>?_)))
 ·
  rcases bH hf with ⟨e2,h4,hf⟩ | ⟨x2,h4,hf⟩
  · refine W 5 Z (CL Z (oo _ h4 ?_)); cases hf; exact ⟨Z,[],List.nil_sublist _,h⟩
  refine W 5 Z (CL Z (oo _ h4 ?_)); cases hf; exact Rx 1 [0] Z Z (ZC [0] Z Z h)
 refine V 2 Z (C hf Z (fun h5 hf=>?_) fun h5 hf=>?_)
 ·
  refine B1 hf fun x3 h6 hf=>W 4 Z (CL Z (acK _ _ h6 ?_)); rcases bH hf with ⟨e3,h7,hf⟩ | ⟨x4,h7,hf⟩
  · refine CL Z (oo _ h7 ?_); cases hf; exact ⟨Z,[],List.nil_sublist _,h⟩
  refine CL Z (oo _ h7 ?_); cases hf; exact Rx 1 [0] Z Z (ZC [0] Z Z h)
 rcases bH hf with ⟨e4,h8,hf⟩ | ⟨_,h8,hf⟩
 · refine W 3 Z (CL Z (bF _ _ h8 ?_)); cases hf; exact ⟨Z,[],List.nil_sublist _,h⟩
 refine W 3 Z (CL Z (bF _ _ h8 (J 2 Z (C hf Z (fun h9 hf=>?_) fun h9 hf=>?_))))
 ·
  refine B1 hf fun _ h10 hf=>W 4 Z (AS Z (AO.ajn h10 Z Z Z ?_)); rcases bH hf with ⟨e5,h11,hf⟩ | ⟨x5,h11,hf⟩
  · refine CL Z (oo _ h11 ?_); cases hf; exact ⟨Z,[],List.nil_sublist _,h⟩
  refine CL Z (oo _ h11 ?_); cases hf; exact Rx 1 [0] Z Z (ZC [0] Z Z h)
 refine B1 hf fun _ h12 hf=>W 4 Z (AS Z (AO.ajl h12 Z Z Z ?_)); refine B1 hf fun x6 jq hf=>CL Z (uV _ jq ?_); cases hf; exact Rx 1 [0] Z Z (ZC [0] Z Z h)

theorem RN (v1:ah) {r0:Int} (hf:yj v1=some r0) (h:Q (.ret (iP r0)) τ):PC 300 [.agg (aF v1)] τ Q:=by
 unfold yj at hf; refine AC.none (AC.Kq 30 [.tmp 2] [0] Tryz.func300 Z Z Z Z Z ?_); obtain ⟨b1,s1,h1,hf⟩:=aY hf; cases hf; refine AW.sr (AR.step Z Z Z (AO.MW Z Z Z (cs 1 Z (AR.nil [1] Z ?_)))); refine AW.sr (AR.step Z Z Z (AO.aH Z ai7 (fun b3=>(AR.fH Z Z (AO.ig (i:=0) Z Z Z FE Z Z Z Z Z (AR.nil [1,3] Z ?_)))))); refine AW.seq (AW.sr (cs 1 Z (AR.step Z Z Z (AO.call Z _ Z Z agO (KA _ _ ?_)))))
 refine AR.nil [3,7] Z (AW.block (AW.rangeFunc (β:=Int) (X:=Int × ah) Z agL (fun x=>[iP x.1,.agg (aF x.2)]) (fun _=>Z) (by decide) (fun s x=>iK s x.1 x.2) (fun s=>[.box b3 [iP s]]) (fun _=>none) (s0:=0) (s1:=r0) Z Z ?_ ?_ ?_))
 · intro l T' hy; refine HV l T' iK (fun s1 bP v1 b s2 hh=>hy s1 (bP,v1) b s2 hh) 0 v1 1 h1 ⟨⟨_,Z⟩,Z⟩
 ·
  rintro l s ⟨bP,x1⟩ b s2 hh; unfold iK at hh; refine ⟨Z,?_⟩; cases hh; refine zC.seq (zC.region Z (cs 1 Z (AR.nil [3,4,9] Z ?_))); refine zC.region Z (AR.step Z Z Z (AO.aH Z eY (fun b5=>(AR.fH Z Z (AO.ig (i:=0) Z Z Z bY Z Z Z Z Z (AR.nil [3,4,5] Z ?_)))))); refine ⟨Z,(zC.block (zC.seq (zC.seq ?_)))⟩; refine zC.region Z (cs 1 Z (AR.step Z Z Z (AO.bV (i:=0) Z Z Z FE Z Z (cs 2 Z ?_))))
  refine AR.or 4 13 17 [3,4,5] (x:=(x1.kind == 5)) Z Z (fun h2=>?_) (fun h2=>?_) ?_
  · refine AR.is 13 h2 Z (cs 1 Z (AR.go Z Z Z Z Z Z (AO.bV (i:=0) Z Z Z FE Z Z (cs 2 Z ?_)))); refine AR.nil [17,3,4,5] Z ?_; exact ⟨Z,Z,Z,Z⟩
  · refine AR.is 13 h2 Z (cs 4 Z (AR.nil [17,3,4,5] Z ?_)); exact ⟨Z,Z,Z,Z⟩
  refine cs 1 Z (AR.and 5 18 23 [3,4,5] (x:=((x1.aI.length:Int) == 0)) Z Z (fun h2=>?_) (fun h2=>?_) ?_)
  · refine AR.is 18 h2 Z (cs 1 Z (AR.go Z Z Z Z Z Z (AO.bV (i:=0) Z Z Z Oi Z Z (AR.go Z Z Z Z Z Z (AO.aL (l:=x1.aI) Z Z Z Z dN Z (ah.aB _) ?_))))); refine cs 2 Z (AR.nil [23,3,4,5] Z ?_); exact ⟨Z,Z,Z,Z⟩
  · refine AR.is 18 h2 Z (cs 5 Z (AR.nil [23,3,4,5] Z ?_)); exact ⟨Z,Z,Z,Z⟩
  refine AR.nil [3,4,23] Z (zC.cond Z (fun h3=>?_) (fun h3=>?_))
  · rw [show rY bP x1=bS (bP + 1) from if_pos h3]; refine zC.region Z (cs 3 Z (AR.nil [3,4] Z (zC.region Z ?_))); refine AR.step Z Z Z (AO.bV (i:=1) Z Z Z FE Z Z (cs 1 Z (AR.step Z Z Z (AO.max2 Z Z Z Z Z (AR.fH Z Z (AO.ig (i:=1) Z Z Z FE Z Z Z Z Z ?_)))))); refine AR.nil [] Z ?_; exact ⟨Z,.cons _ (List.Sublist.refl _),Z,Z⟩
  rw [show rY bP x1=bP from if_neg (by rw [h3]; simp)]; refine zC.skip (zC.region Z (AR.step Z Z Z (AO.bV (i:=1) Z Z Z FE Z Z (cs 1 Z ?_)))); refine AR.step Z Z Z (AO.max2 Z Z Z Z Z (AR.fH Z Z (AO.ig (i:=1) Z Z Z FE Z Z Z Z Z (AR.nil [] Z ?_)))); exact ⟨Z,.cons _ (List.Sublist.refl _),Z,Z⟩
 intro D; show AW _ _ _ _ _ _ _
 refine AW.sr (AR.step Z Z Z (AO.bV (i:=0) Z Z Z FE Z Z (cs 1 Z (AR.nil [2] Z ?_)))); refine AW.ret ?_; exact ⟨D,[_],Z,Z,_,⟨_,_,Z,Z,Z⟩,[],List.nil_sublist _,h⟩

theorem Pe (y1:av) (c1:av) {r0:Bool} (hf:mF y1 c1=some r0) (h:Q (.ret (.bool r0)) τ):PC 302 [.agg (za y1),.ref (za c1)] τ Q:=by
 unfold mF at hf; refine BN 9 [.tmp 3] [0,1] Tryz.func302 Z Z Z Z Z ?_; cases hf; exact M 8 Z (Y Z h)

theorem vZ (s1:List av) (f1:av→Option Bool) (Wt:FuncId) (f1C:List PV) (f1P:bG Tryz.prog Wt=true) (f1H:∀ a0 b0,f1 a0=some b0→∀ {τ:List bE} {Q:eZ→List bE→Prop},Q (.ret (.bool b0)) τ→PC Wt ([.agg (za a0)] ++ f1C) τ Q) {r0:Int} (hf:jk s1 f1=some r0) (h:Q (.ret (iP r0)) τ):PC 331 [.list (List.map av.cells s1),.fn Wt f1C] τ Q:=by
 unfold jk at hf; refine BN 19 [.tmp 4] [0,1] Tryz.func331 Z Z Z Z Z (W 2 Z (AS Z (AO.aL (l:=s1) Z Z Z Z kW Z Z (J 1 Z (Gc (fun i1=>[(0,.list (List.map av.cells s1)),(1,.fn Wt f1C),(7,iP (s1.length:Int)),(8,iP i1)]) (fun i1=>[]) (fun bW i1=>gJ s1 f1 bW i1=some r0) BIG 0 Z Z hf (fun _ hz=>bQ hz) ?_))))); intro bW i1 hf; rw [gJ] at hf; refine V 1 Z (C hf Z (fun h1 hf=>?_) fun h1 hf=>?_)
 ·
  refine B1 hf fun e1 h2 hf=>W 5 Z (AS Z (AO.aM h2 Z Z Z Z kW (av.aG _) Z ?_)); refine B1 hf fun x1 h3 hf=>U 1 Z (AS Z (AO.call Z _ Z Z f1P (f1H _ _ h3 (J 0 Z (C hf Z (fun h4 hf=>?_) fun h4 hf=>?_)))))
  · cases hf; exact M 2 Z (Y Z h)
  exact M 2 Z ⟨(bS (i1 + 1)),Z,Z,Z,hf⟩
 cases hf; exact M 1 Z (Y Z h)

theorem tV (s1:List av) (f1:av→Option Bool) (Wt:FuncId) (f1C:List PV) (f1P:bG Tryz.prog Wt=true) (f1H:∀ a0 b0,f1 a0=some b0→∀ {τ:List bE} {Q:eZ→List bE→Prop},Q (.ret (.bool b0)) τ→PC Wt ([.agg (za a0)] ++ f1C) τ Q) {r0:Bool} (hf:gK s1 f1=some r0) (h:Q (.ret (.bool r0)) τ):PC 301 [.list (List.map av.cells s1),.fn Wt f1C] τ Q:=by
 unfold gK at hf; refine BN 9 [.tmp 4] [0,1] Tryz.func301 Z Z Z Z Z ?_; refine B1 hf fun x1 h1 hf=>W 3 Z (CL Z (vZ _ f1 Wt f1C f1P @f1H h1 ?_)); cases hf; exact N 2 Z (Y Z h)

theorem Tq (gY:List av) (i1:Int) {r0:Int} (hf:Bn gY i1=some r0) (h:Q (.ret (iP r0)) τ):PC 258 [.list (List.map av.cells gY),iP i1] τ Q:=by
 unfold Bn at hf; refine BN 36 [.tmp 4] [0,1] Tryz.func258 Z Z Z Z Z ?_; refine B1 hf fun e1 h1 hf=>W 3 Z (AS Z (AO.aM h1 Z Z Z Z kW (av.aG _) Z (U 1 Z (AS Z (AO.aH Z TS (fun b5=>(Rr 3 [0,0] Z Z (AS Z (AO.bJ Z Z Z Z cu Z (U 2 Z (AR.or 5 15 20 [0,1,5] (x:=(decide (64 < (e1.name.length:Int)))) Z Z (fun h2=>?_) (fun h2=>?_) ?_)))))))))))
 · refine Is 15 h2 Z (U 1 Z (GO Z (AO.bV (i:=0) Z Z Z adn Z Z (GO Z (AO.bJ Z Z Z Z cu Z ?_))))); exact eU 2 Z (En [20,0,1,5] Z)
 · refine Is 15 h2 Z ?_; exact eU 5 Z (En [20,0,1,5] Z)
 refine J 0 Z (C hf Z (fun h3 hf=>?_) fun h3 hf=>?_)
 · cases hf; exact M 1 Z (Y Z h)
 refine B1 hf fun e2 h4 hf=>Wr 2 [0] Z Z (CL Z (om _ h4 (J 3 Z (C hf Z (fun h5 hf=>?_) fun h5 hf=>?_))))
 · cases hf; exact M 2 Z (Y Z h)
 refine B1 hf fun x1 h6 hf=>Wr 2 [0] Z Z (CL Z (RN _ h6 (J 1 Z (C hf Z (fun h7 hf=>?_) fun h7 hf=>?_))))
 · cases hf; exact M 1 Z (Y Z h)
 refine B1 hf fun x2 h8 hf=>W 2 Z (AS Z (AO.VD h8 Z kW Z Z Z (av.dV) Z ⟨_,Z⟩ (AR.aaO 5 0 Z Z Z Z ?_))); refine B1 hf fun x3 h9 hf=>U 1 Z (CL Z (tV _ (fun z0=>mF z0 e1) 302 [.ref (za e1)] ahu (fun _ _ hz=>Pe _ _ hz) h9 (J 0 Z (C hf Z (fun h10 hf=>?_) fun h10 hf=>?_))))
 · cases hf; exact M 1 Z (Y Z h)
 cases hf; exact M 1 Z (Y Z h)

theorem MN (s1:List av) {r0:List av} (hf:gB s1=some r0) (h:Q (.ret (.list (List.map av.cells r0))) τ):PC 259 [.list (List.map av.cells s1)] τ Q:=by
 unfold gB at hf; refine BN 8 [.tmp 2] [0] Tryz.func259 Z Z Z Z Z (W 0 Z (AS Z (AO.nR Z Z (U 1 Z (AS Z (AO.GY Z Z agE (fun b hb=>(J 0 Z (AW.cond Z (fun h1=>?_) (fun h1=>?_))))))))))
 · obtain rfl:s1=[]:=List.map_eq_nil_iff.1 (hb h1); obtain ⟨_,rfl⟩:=F8 hf; refine W 0 Z (AS Z (AO.nR Z Z ?_)); exact N 0 rfl ⟨rfl,_,⟨_,_,rfl,rfl,rfl⟩,_,List.Sublist.refl _,h⟩
 refine W 0 Z (AS Z (AO.wY [] Z Cg Z Z Z Z Z (fun v1=>(U 1 Z (AS Z (AO.eP (i:=0) (l:=[]) (m:=s1) hf Z Z Z Z Z Z Z Cg kW Z Z Z (av.dV) (av.cells_one) (by decide) (fun v2 s2 hs2=>?_))))))); cases hs2; exact N 1 Z (Y Z h)
theorem wh (s1:List av) {r0:List av} (hf:gB s1=some r0) {Q:eZ→List bE→Prop} (h:∀ v,Q (.ret (.val v)) [.buf v r0.length 7 47 (r0.flatMap av.cells)]):PC 259 [.list (List.map av.cells s1)] [] Q:=by
 unfold gB at hf; obtain ⟨hl,e0⟩:=F8 hf; rw [List.nil_append] at e0; subst e0; simp only [List.length_nil,Nat.zero_add] at hl; have hlen:∀ x:av,(av.cells x).length=7:=fun _=>Z; have hone:∀ x:av,(av.cells x).all PV.one=true:=fun _=>Z; refine AC.AZ 8 [.tmp 2] [0] Tryz.func259 Z Z Z Z Z (AW.sr (AR.step Z Z Z (AO.nR Z Z (AR.nil [0] Z ?_)))); refine AW.seq (AW.sr (cs 1 Z (AR.step Z Z Z (AO.GY Z Z agE (fun b hb=>?_)))))
 refine AR.nil [0,4] Z (AW.cond Z (fun h1=>?_) (fun h1=>?_))
 · obtain rfl:r0=[]:=List.map_eq_nil_iff.1 (hb h1); refine AW.sr (AR.step Z Z Z (AO.afN Z Z (AR.nil [2] Z (AW.ak_ 7 47 ?_)))); refine AW.ret ?_; exact ⟨rfl,_,⟨_,_,rfl,rfl,rfl⟩,_,List.Sublist.refl _,h _⟩
 refine AW.skip (AW.sr (AR.step Z Z Z (AO.wY [] Z Cg Z Z Z Z Z (fun v1=>(cs 1 Z ?_))))); refine AR.step Z Z Z (AO.aaC (i:=0) (l2:=List.map av.cells r0) Z Z Z Z Z Z Z Cg kW (fun y hy=>?_) (fun y hy=>?_) ?_ ?_ (fun v2 s1 hs1=>?_))
 · obtain ⟨s,_,rfl⟩:=List.mem_map.1 hy; exact hlen s
 · obtain ⟨s,_,rfl⟩:=List.mem_map.1 hy; exact hone s
 · rw [List.length_map]; unfold rC at hl; unfold maxLen; omega
 · rw [List.length_map]; unfold rC at hl; omega
 cases hs1; refine cs 1 Z (AR.nil [2] Z (AW.ret ?_)); have hv:=h v2; rw [List.flatMap_def,show r0.length=(List.map av.cells r0).length from (List.length_map _).symm] at hv; exact ⟨rfl,_,⟨_,_,rfl,rfl,rfl⟩,_,List.Sublist.refl _,hv⟩

theorem Tt (a1:av) (b1:av) {r0:Int} (hf:Oe a1 b1=some r0) {τ:List bE} {Q:eZ→List bE→Prop} (h:Q (.ret (iP r0)) τ):PC 261 [.agg (za a1),.agg (za b1)] τ Q:=by
 unfold Oe at hf; refine BN 10 [.tmp 4] [0,1] Tryz.func261 Z Z Z Z Z ?_; replace hf:=(aJ _).trans hf; refine B1 hf fun x1 h1 hf=>W 7 Z (CL Z (Cc _ _ h1 ?_)); cases hf; exact N 1 Z (Y Z h)
def IB :Go.Shelf.Ren:=⟨fun | 6=>260 | 15=>304 | 14=>303 | 28=>340 | 29=>341 | 20=>332 | 21=>333 | 22=>334 | 23=>335 | 24=>336 | 25=>337 | 26=>338 | 27=>339 | 46=>361 | 47=>362 | 48=>363 | 49=>364 | 50=>365 | 57=>381 | n=>n,fun | 22=>29 | 24=>47 | 25=>225 | 3=>3 | 39=>248 | 0=>0 | 53=>281 | 55=>238 | 4=>4 | 46=>275 | 45=>274 | 50=>186 | 5=>5 | 9=>9 | 66=>296 | 70=>300 | 76=>311 | 77=>312 | n=>n,fun | n=>n⟩
theorem Nb :Go.Proofs.SlLaysF0.n6 Tryz.prog IB:={
 mixed:=by kernel_rfl
 f6:=⟨Tryz.f260.name,by decide,Tryz.func260.trans (congrArg some (by kernel_rfl))⟩
 f14:=⟨Tryz.f303.name,by decide,Tryz.func303.trans (congrArg some (by kernel_rfl))⟩
 f15:=Tryz.func304.trans (congrArg some (by kernel_rfl))
 f20:=⟨Tryz.f332.name,by decide,Tryz.func332.trans (congrArg some (by kernel_rfl))⟩
 f21:=⟨Tryz.f333.name,by decide,Tryz.func333.trans (congrArg some (by kernel_rfl))⟩
 f22:=⟨Tryz.f334.name,by decide,Tryz.func334.trans (congrArg some (by kernel_rfl))⟩
 f23:=⟨Tryz.f335.name,by decide,Tryz.func335.trans (congrArg some (by kernel_rfl))⟩
 f24:=⟨Tryz.f336.name,by decide,Tryz.func336.trans (congrArg some (by kernel_rfl))⟩
 f25:=⟨Tryz.f337.name,by decide,Tryz.func337.trans (congrArg some (by kernel_rfl))⟩
 f26:=⟨Tryz.f338.name,by decide,Tryz.func338.trans (congrArg some (by kernel_rfl))⟩
 f27:=⟨Tryz.f339.name,by decide,Tryz.func339.trans (congrArg some (by kernel_rfl))⟩
 f28:=Tryz.func340.trans (congrArg some (by kernel_rfl))
 f29:=Tryz.func341.trans (congrArg some (by kernel_rfl))
 f46:=⟨Tryz.f361.name,by decide,Tryz.func361.trans (congrArg some (by kernel_rfl))⟩
 f47:=Tryz.func362.trans (congrArg some (by kernel_rfl))
 f48:=Tryz.func363.trans (congrArg some (by kernel_rfl))
 f49:=⟨Tryz.f364.name,by decide,Tryz.func364.trans (congrArg some (by kernel_rfl))⟩
 f50:=⟨Tryz.f365.name,by decide,Tryz.func365.trans (congrArg some (by kernel_rfl))⟩
 f57:=⟨Tryz.f381.name,by decide,Tryz.func381.trans (congrArg some (by kernel_rfl))⟩
 t0:=Tryz.underlying0
 a0:=Tryz.isAgg0
 z0:=Tryz.sizeOf0
 v0:=Tryz.zeroValue0
 t3:=Tryz.underlying3
 a3:=Tryz.isAgg3
 z3:=Tryz.sizeOf3
 v3:=Tryz.zeroValue3
 t4:=Tryz.underlying4
 a4:=Tryz.isAgg4
 z4:=Tryz.sizeOf4
 v4:=Tryz.zeroValue4
 t5:=Tryz.underlying5
 a5:=Tryz.isAgg5
 z5:=Tryz.sizeOf5
 v5:=Tryz.zeroValue5
 t9:=Tryz.underlying9
 a9:=Tryz.isAgg9
 z9:=Tryz.sizeOf9
 v9:=Tryz.zeroValue9
 t22:=Tryz.underlying29
 a22:=Tryz.isAgg29
 z22:=Tryz.sizeOf29
 v22:=Tryz.zeroValue29
 t25:=Tryz.underlying225
 a25:=Tryz.isAgg225
 z25:=Tryz.sizeOf225
 v25:=Tryz.zeroValue225
 t39:=Tryz.underlying248
 a39:=Tryz.isAgg248
 z39:=Tryz.sizeOf248
 v39:=Tryz.zeroValue248
 t45:=Tryz.underlying274
 a45:=Tryz.isAgg274
 z45:=Tryz.sizeOf274
 v45:=Tryz.zeroValue274
 t46:=Tryz.underlying275
 a46:=Tryz.isAgg275
 z46:=Tryz.sizeOf275
 v46:=Tryz.zeroValue275
 t50:=Tryz.underlying186
 a50:=Tryz.isAgg186
 z50:=Tryz.sizeOf186
 v50:=Tryz.zeroValue186
 t53:=Tryz.underlying281
 a53:=Tryz.isAgg281
 z53:=Tryz.sizeOf281
 v53:=Tryz.zeroValue281
 t55:=Tryz.underlying238
 a55:=Tryz.isAgg238
 z55:=Tryz.sizeOf238
 v55:=Tryz.zeroValue238
 t66:=Tryz.underlying296
 a66:=Tryz.isAgg296
 z66:=Tryz.sizeOf296
 v66:=Tryz.zeroValue296
 t70:=Tryz.underlying300
 a70:=Tryz.isAgg300
 z70:=Tryz.sizeOf300
 v70:=Tryz.zeroValue300
 t76:=Tryz.underlying311
 a76:=Tryz.isAgg311
 z76:=Tryz.sizeOf311
 v76:=Tryz.zeroValue311
 t77:=Tryz.underlying312
 a77:=Tryz.isAgg312
 z77:=Tryz.sizeOf312
 v77:=Tryz.zeroValue312}


theorem Lf (s1:List av) {r0:List av} (hf:Uk (fun x=>x.name) s1=some r0) {v:Value} {e:TypeId} {Q:eZ→List bE→Prop} (h:Q (.ret (.tuple [])) [.buf v (List.map av.cells r0).length 7 e (r0.flatMap av.cells)]):
  PC 260 [.val v,.fn 261 []] [.buf v s1.length 7 e (s1.flatMap av.cells)] Q:=by
 unfold Uk at hf
 split at hf
 case isFalse=>cases hf
 rename_i hg
 obtain ⟨h1,h2,h3⟩:=hg
 cases hf
 rw [List.length_map] at h
 exact AC.abV Nb av.cells (k:=7) (by decide) (fun _=>Z) (fun _=>Z) ake ai8 ahw (cf:=fun a b=>fA a.name b.name)
  (fun a b ha hb=>@Tt Yu a b _ (Nn (h2 a ha) (h2 b hb)) _ _ Z) (fun x hx=>by rw [EA] at hx; omega) (fun x y z a b=>vG a b) (fun x y z a b=>Fa a b)
  (by
   rw [List.Nodup,List.pairwise_map] at h3
   refine h3.imp fun {x y} hne=>?_
   rcases Int.lt_trichotomy (fA x.name y.name) 0 with h | h | h
   ·
    exact .inl h
   ·
    exact absurd (rF h) hne
   ·
    right; rw [mh]; omega)
  (by unfold rC at h1; omega) h

theorem YR (gY:List av) {r0:ah} {r1:Int} (hf:CQ gY=some (r0,r1)) (h:Q (.ret (.tuple [.agg (aF r0),iP r1])) τ):PC 200 [.list (List.map av.cells gY)] τ Q:=by
 unfold CQ at hf; refine BN 55 [.cell 2 25,.tmp 3] [0] Tryz.func200 Z Z Z Z Z (W 0 Z (AS Z (AO.aH Z eY (fun b2=>(U 2 Z (AS Z (AO.aL (l:=gY) Z Z Z Z kW Z Z (J 1 Z (C hf Z (fun h1 hf=>?_) fun h1 hf=>?_)))))))))
 · cases hf; exact Wx 3 [0] rfl rfl ⟨rfl,_,⟨_,_,rfl,⟨_,_,0,_,_,rfl,rfl,bY,rfl⟩,_,_,rfl,rfl,rfl⟩,[],List.nil_sublist _,h⟩
 refine W 1 Z (AS Z (AO.aL (l:=gY) Z Z Z Z kW Z Z (J 1 Z (Gc (fun i1=>[(0,.list (List.map av.cells gY)),(2,pP b2),(15,iP (gY.length:Int)),(16,iP i1)]) (fun i1=>[.box b2 [iP 0,.bool false,iP 0,.str ([]:Str),.own (.slice none 0 0) [],.own (.slice none 0 0) []]]) (fun bW i1=>vk gY bW i1=some (r0,r1)) BIG 0 Z Z hf (fun _ hz=>bQ hz) ?_)))); intro bW i1 hf; rw [vk] at hf; refine V 1 Z (C hf Z (fun h2 hf=>?_) fun h2 hf=>?_)
 ·
  refine B1 hf fun e1 h3 hf=>W 4 Z (CL Z (Tq _ _ h3 (J 3 Z (C hf Z (fun h4 hf=>?_) fun h4 hf=>?_))))
  · cases hf; exact Wx 4 [0] rfl rfl ⟨rfl,_,⟨_,_,rfl,⟨_,_,0,_,_,rfl,rfl,bY,rfl⟩,_,_,rfl,rfl,rfl⟩,[],List.nil_sublist _,h⟩
  exact M 2 Z ⟨(bS (i1 + 1)),Z,Z,Z,hf⟩
 refine B1 hf fun Pq h5 hf=>W 1 Z (CL Z (AC.none (wh _ h5 (fun v1=>?_)))); refine B1 hf fun sZ h6 hf=>U 2 rfl (CL rfl (AC.one 0 rfl (Lf _ h6 ⟨_,rfl,(AR.freeze 6 0 (List.map av.cells sZ) rfl rfl rfl (fun x hx=>by obtain ⟨s,_,rfl⟩:=List.mem_map.1 hx; rfl) Z ?_)⟩))); refine U 1 Z (AS Z (AO.aH Z eY (fun b7=>(Rr 2 [0] Z Z (AS Z (AO.aL (l:=sZ) Z Z Z Z kW Z Z ?_))))))
 refine J 1 Z (AW.row 6 25 (AW.row 1 9 (LK4 (fun x1 aT v2 v3=>[(2,pP b2),(7,pP b7),(32,.own v1 (List.map av.cells sZ)),(33,iP (sZ.length:Int)),(34,iP x1)]) (fun x1 aT v2 v3=>[.row v3 (List.map ko aT.keys).length 1 9,.row v2 (ah.bn aT.aI).length 6 25,.box b7 [iP aT.kind,.bool aT.dh,iP aT.bZ,.str aT.bI,.own v2 (ah.bn aT.aI),.own v3 (List.map ko aT.keys)],.row v1 (List.map av.cells sZ).length 7 47,.box b2 [iP 0,.bool false,iP 0,.str ([]:Str),.own (.slice none 0 0) [],.own (.slice none 0 0) []]]) (fun EB x1 aT v2 v3=>vg sZ EB x1 aT=some (r0,r1)) BIG 0 (ah.mk 5 false 0 ([]:Str) [] []) (.slice none 0 0) (.slice none 0 0) Z Z hf (fun _ _ _ _ hz=>bQ hz) ?_)))
 intro EB x1 aT v2 v3 hf; rw [vg] at hf; refine V 1 Z (C hf Z (fun h7 hf=>?_) fun h7 hf=>?_)
 ·
  refine B1 hf fun e2 h8 hf=>W 0 Z (AS Z (AO.aM h8 Z Z Z Z kW (av.aG _) Z (U 1 Z (AS Z (AO.aH Z TS (fun b9=>(Rr 5 [0,3,0] Z Z (AS Z (AO.bq (List.map ko ([e2.name]:List Str)) Z kU Z Z Z Z ?_))))))))); refine B1 hf fun x2 h9 hf=>AS Z (AO.eP (i:=1) (l:=aT.keys) (m:=([e2.name]:List Str)) h9 Z Z Z Z Z Z Z kU dO Z Z Z (fun _=>Z) (fun _=>Z) (by decide) (fun v4 s1 hs1=>?_)); cases hs1; refine Rw 2 [3] Z Z (AW.draw 6 mixed (by kernel_rfl) Z ?_)
  refine Ev.cs aP 1 Z (Ev.cons Z Z Z (AO.bV (i:=3) Z Z Z Oi Z Z zg) (Ev.cs aP 1 Z (Ev.cons Z Z Z (AO.bV (i:=0) Z Z Z bY Z Z zg) ?_))); refine B1 hf fun x3 h10 hf=>Ev.cons rfl rfl rfl (AO.call rfl _ rfl rfl adK (KC _ h10 ⟨rfl,rfl⟩)) (Ev.cons rfl rfl rfl (AO.bq (ah.bn [x3]) rfl oW rfl rfl rfl (by first | rfl | simp only [List.map,ah.aG,ah.bn]) ⟨rfl,rfl⟩) ?_); refine Ev.nil ?_; show AR _ _ _ _ _ _ _ _
  refine B1 hf fun x4 h11 hf=>AS Z (AO.eP (i:=2) (l:=aT.aI) (m:=[x3]) h11 Z Z Z Z Z Z Z oW dN (ah.aB _) (ah.aB _) (ah.aB _).symm (ah.dV) (ah.cells_one) (by decide) (fun v5 s2 hs2=>?_)); cases hs2; refine Rn 4 [3] Z Z (AR.drop1 ?_); exact N 0 Z ⟨(bS (x1 + 1)),(ah.mk aT.kind aT.dh aT.bZ aT.bI x4 x2),v5,v4,Z,Z,Z,hf⟩
 cases hf; exact Wx 3 [2,4] rfl rfl ⟨rfl,_,⟨_,_,rfl,⟨_,_,4,_,_,rfl,rfl,bY,rfl⟩,_,_,rfl,rfl,rfl⟩,[],List.nil_sublist _,h⟩

section
variable [Ay]
@[reducible] def xZ :fq aD ah→eZ
 | .ok r=>.ret (.agg (aF r))
 | .bad e=>.panic (.iface 106 (.agg [iP e.code]))

@[reducible] def yc :fq aD ah→eZ
 | .ok r=>.ret (.agg (aF r))
 | .bad e=>.panic (.iface 106 (.agg [iP e.code]))

@[reducible] def zH :fq aD (List ah)→eZ
 | .ok r=>.ret (.list (ah.bn r))
 | .bad e=>.panic (.iface 106 (.agg [iP e.code]))

@[reducible] def vV :fq aD ah→eZ
 | .ok r=>.ret (.agg (aF r))
 | .bad e=>.panic (.iface 106 (.agg [iP e.code]))

@[reducible] def ug :fq aD ah→eZ
 | .ok r=>.ret (.agg (aF r))
 | .bad e=>.panic (.iface 106 (.agg [iP e.code]))

abbrev nH (bB:List av→aj→Option (fq aD ah)):Prop:=∀ (pE:List av) (fV:aj) {fu:fq aD ah},bB pE fV=some fu→∀ {τ:List bE} {Q:eZ→List bE→Prop} (h:Q (xZ fu) τ),PC 70 [.list (List.map av.cells pE),.agg (aS fV)] τ Q
abbrev nI (dx:List av→aj→Option (fq aD ah)):Prop:=∀ (pE:List av) (fV:aj) {fu:fq aD ah},dx pE fV=some fu→∀ {τ:List bE} {Q:eZ→List bE→Prop} (h:Q (yc fu) τ),PC 124 [.list (List.map av.cells pE),.agg (aS fV)] τ Q
abbrev oF (dw:List av→List aj→Option (fq aD (List ah))):Prop:=∀ (pE:List av) (ul1:List aj) {fu:fq aD (List ah)},dw pE ul1=some fu→∀ {τ:List bE} {Q:eZ→List bE→Prop} (h:Q (zH fu) τ),PC 129 [.list (List.map av.cells pE),.list (aj.bn ul1)] τ Q
abbrev lS (bX:List av→aj→Option (fq aD ah)):Prop:=∀ (pE:List av) (fV:aj) {fu:fq aD ah},bX pE fV=some fu→∀ {τ:List bE} {Q:eZ→List bE→Prop} (h:Q (vV fu) τ),PC 126 [.list (List.map av.cells pE),.agg (aS fV)] τ Q
abbrev kY (bR:List av→aj→Option (fq aD ah)):Prop:=∀ (pE:List av) (fV:aj) {fu:fq aD ah},bR pE fV=some fu→∀ {τ:List bE} {Q:eZ→List bE→Prop} (h:Q (ug fu) τ),PC 131 [.list (List.map av.cells pE),.agg (aS fV)] τ Q
theorem LA (bB) (bN:nH bB) (dx) (lQ:nI dx) (dw) (iV:oF dw) (bX) (kD:lS bX) (bR) (j5:kY bR) (s1:List av) (e1:aj) {rX:fq aD ah} (hf:tK bB dx dw bX bR s1 e1=some rX) (h:Q (xZ rX) τ):PC 70 [.list (List.map av.cells s1),.agg (aS e1)] τ Q:=by
 unfold tK at hf; refine BN 104 [.cell 4 25] [0,1] Tryz.func70 Z Z Z Z Z (W 1 Z (AS Z (AO.aH Z eY (fun b4=>(J 4 Z (C hf Z (fun h1 hf=>?_) fun h1 hf=>?_))))))
 · cases hf; exact Wx 3 [0] Z Z (ZC [0] Z Z h)
 refine V 2 Z (C hf Z (fun h2 hf=>?_) fun h2 hf=>?_)
 ·
  rcases bH hf with ⟨e2,h3,hf⟩ | ⟨x1,h3,hf⟩
  · refine W 3 Z (CL Z (ES _ _ h3 ?_)); cases hf; exact ⟨Z,[],List.nil_sublist _,h⟩
  refine W 3 Z (CL Z (ES _ _ h3 ?_)); cases hf; exact Rx 1 [0] Z Z (ZC [0] Z Z h)
 refine V 2 Z (C hf Z (fun h4 hf=>?_) fun h4 hf=>?_)
 ·
  refine B1 hf fun e3 h5 hf=>?_; rcases bH hf with ⟨e4,h6,hf⟩ | ⟨x2,h6,hf⟩
  ·
   refine V 0 Z (AW.abq 5 8 mixed (by kernel_rfl) Z Z ?_); refine Ev.cs aP 3 Z (Ev.cons Z Z Z (AO.aM h5 Z Z (aj.aB _) Z fM (aj.aG _) Z zg) (Ev.cs aP 1 Z (Ev.nil ?_))); refine ⟨_,_,Z,Z,Z,Z,AO.call Z _ Z Z Oq (bN _ _ h6 ?_),?_⟩
   · cases hf; exact ⟨Z,[],List.nil_sublist _,h⟩
   refine Ev.cs aP 2 Z (Ev.nil ?_); trivial
  refine V 0 Z (AW.draw 9 mixed (by kernel_rfl) Z ?_); refine Ev.cs aP 3 Z (Ev.cons Z Z Z (AO.aM h5 Z Z (aj.aB _) Z fM (aj.aG _) Z zg) (Ev.cs aP 1 Z (Ev.cons Z Z Z (AO.call Z _ Z Z Oq (bN _ _ h6 zg)) ?_))); refine Ev.cs aP 2 Z ?_; refine B1 hf fun x3 h7 hf=>Ev.cons Z Z Z (AO.call Z _ Z Z adT (uU _ h7 zg)) (Ev.nil ?_); show AR _ _ _ _ _ _ _ _
  rcases bH hf with ⟨e5,h8,hf⟩ | ⟨x4,h8,hf⟩
  · refine CL Z (CB _ _ h8 ?_); cases hf; exact ⟨Z,[],List.nil_sublist _,h⟩
  refine CL Z (CB _ _ h8 ?_); cases hf; exact Rx 1 [0] Z Z (ZC [0] Z Z h)
 refine V 2 Z (C hf Z (fun h9 hf=>?_) fun h9 hf=>?_)
 ·
  refine B1 hf fun e6 h10 hf=>W 3 Z (AS Z (AO.aM h10 Z Z (aj.aB _) Z fM (aj.aG _) Z ?_)); rcases bH hf with ⟨e7,h11,hf⟩ | ⟨x5,h11,hf⟩
  · refine U 1 Z (CL Z (bN _ _ h11 ?_)); cases hf; exact ⟨Z,[],List.nil_sublist _,h⟩
  refine U 1 Z (CL Z (bN _ _ h11 (AS Z (AO.aH Z eY (fun b5=>?_))))); refine B1 hf fun e8 h12 hf=>?_; rcases bH hf with ⟨e9,jq,hf⟩ | ⟨x6,jq,hf⟩
  ·
   refine Rw 1 [0] Z Z (AW.abq 6 7 mixed (by kernel_rfl) Z Z ?_); refine Ev.cons Z Z Z (AO.bV (i:=0) Z Z Z bY Z Z zg) (Ev.cs aP 3 Z (Ev.cons Z Z Z (AO.aM h12 Z Z (aj.aB _) Z fM (aj.aG _) Z zg) (Ev.cs aP 1 Z ?_))); refine Ev.nil (⟨_,_,Z,Z,Z,Z,AO.call Z _ Z Z Oq (bN _ _ jq ?_),?_⟩)
   · cases hf; exact ⟨Z,[],List.nil_sublist _,h⟩
   refine Ev.nil ?_; trivial
  refine Rw 1 [0] Z Z (AW.draw 7 mixed (by kernel_rfl) Z ?_); refine Ev.cons Z Z Z (AO.bV (i:=0) Z Z Z bY Z Z zg) (Ev.cs aP 3 Z (Ev.cons Z Z Z (AO.aM h12 Z Z (aj.aB _) Z fM (aj.aG _) Z zg) (Ev.cs aP 1 Z ?_))); refine Ev.cons Z Z Z (AO.call Z _ Z Z Oq (bN _ _ jq zg)) (Ev.nil ?_); show AR _ _ _ _ _ _ _ _
  rcases bH hf with ⟨e10,kg,hf⟩ | ⟨x7,kg,hf⟩
  · refine CL Z (JD _ _ kg ?_); cases hf; exact ⟨Z,[],List.nil_sublist _,h⟩
  refine CL Z (JD _ _ kg ?_); cases hf; exact Rx 1 [1] Z Z (ZC [1] Z Z h)
 refine V 2 Z (C hf Z (fun kC hf=>?_) fun kC hf=>?_)
 ·
  rcases bH hf with ⟨e11,h16,hf⟩ | ⟨x8,h16,hf⟩
  · refine W 2 Z (CL Z (lQ _ _ h16 ?_)); cases hf; exact ⟨Z,[],List.nil_sublist _,h⟩
  refine W 2 Z (CL Z (lQ _ _ h16 ?_)); cases hf; exact Rx 1 [0] Z Z (ZC [0] Z Z h)
 refine V 2 Z (C hf Z (fun mQ hf=>?_) fun mQ hf=>?_)
 ·
  refine B1 hf fun e12 h18 hf=>?_; rcases bH hf with ⟨e13,h19,hf⟩ | ⟨x9,h19,hf⟩
  ·
   refine V 0 Z (AW.abq 7 8 mixed (by kernel_rfl) Z Z ?_); refine Ev.cs aP 5 Z (Ev.cons Z Z Z (AO.aM h18 Z Z (aj.aB _) Z fM (aj.aG _) Z zg) (Ev.cs aP 1 Z (Ev.nil ?_))); refine ⟨_,_,Z,Z,Z,Z,AO.call Z _ Z Z Oq (bN _ _ h19 ?_),?_⟩
   · cases hf; exact ⟨Z,[],List.nil_sublist _,h⟩
   refine Ev.nil ?_; trivial
  refine V 0 Z (AW.draw 8 mixed (by kernel_rfl) Z ?_); refine Ev.cs aP 5 Z (Ev.cons Z Z Z (AO.aM h18 Z Z (aj.aB _) Z fM (aj.aG _) Z zg) (Ev.cs aP 1 Z (Ev.cons Z Z Z (AO.call Z _ Z Z Oq (bN _ _ h19 zg)) ?_))); refine Ev.nil ?_; show AR _ _ _ _ _ _ _ _
  rcases bH hf with ⟨e14,h20,hf⟩ | ⟨CO,h20,hf⟩
  · refine CL Z (MS _ _ h20 ?_); cases hf; exact ⟨Z,[],List.nil_sublist _,h⟩
  refine CL Z (MS _ _ h20 ?_); cases hf; exact Rx 1 [0] Z Z (ZC [0] Z Z h)
 refine V 2 Z (C hf Z (fun h21 hf=>?_) fun h21 hf=>?_)
 ·
  rcases bH hf with ⟨e15,h22,hf⟩ | ⟨KP,h22,hf⟩
  · refine W 2 Z (CL Z (kD _ _ h22 ?_)); cases hf; exact ⟨Z,[],List.nil_sublist _,h⟩
  refine W 2 Z (CL Z (kD _ _ h22 ?_)); cases hf; exact Rx 1 [0] Z Z (ZC [0] Z Z h)
 refine V 2 Z (C hf Z (fun h23 hf=>?_) fun h23 hf=>?_)
 ·
  refine B1 hf fun e16 Ku hf=>W 3 Z (AS Z (AO.aM Ku Z Z (aj.aB _) Z fM (aj.aG _) Z ?_)); rcases bH hf with ⟨e17,Sw,hf⟩ | ⟨TU,Sw,hf⟩
  · refine U 1 Z (CL Z (bN _ _ Sw ?_)); cases hf; exact ⟨Z,[],List.nil_sublist _,h⟩
  refine U 1 Z (CL Z (bN _ _ Sw ?_)); rcases bH hf with ⟨e18,PI,hf⟩ | ⟨Sv,PI,hf⟩
  · refine CL Z (qj _ PI ?_); cases hf; exact ⟨Z,[],List.nil_sublist _,h⟩
  refine CL Z (qj _ PI (J 0 Z (C hf Z (fun h27 hf=>?_) fun h27 hf=>?_)))
  ·
   refine B1 hf fun e19 Xb hf=>W 3 Z (AS Z (AO.aM Xb Z Z (aj.aB _) Z fM (aj.aG _) Z ?_)); rcases bH hf with ⟨e20,Te,hf⟩ | ⟨Vo,Te,hf⟩
   · refine U 1 Z (CL Z (bN _ _ Te ?_)); cases hf; exact ⟨Z,[],List.nil_sublist _,h⟩
   refine U 1 Z (CL Z (bN _ _ Te ?_)); cases hf; exact Rx 1 [0] Z Z (ZC [0] Z Z h)
  refine B1 hf fun e21 h30 hf=>W 3 Z (AS Z (AO.aM h30 Z Z (aj.aB _) Z fM (aj.aG _) Z ?_)); rcases bH hf with ⟨e22,h31,hf⟩ | ⟨x15,h31,hf⟩
  · refine U 1 Z (CL Z (bN _ _ h31 ?_)); cases hf; exact ⟨Z,[],List.nil_sublist _,h⟩
  refine U 1 Z (CL Z (bN _ _ h31 ?_)); cases hf; exact Rx 1 [0] Z Z (ZC [0] Z Z h)
 refine V 2 Z (C hf Z (fun h32 hf=>?_) fun h32 hf=>?_)
 ·
  rcases bH hf with ⟨e23,O9,hf⟩ | ⟨Xh,O9,hf⟩
  · refine W 3 Z (CL Z (iV _ _ O9 ?_)); cases hf; exact ⟨Z,[],List.nil_sublist _,h⟩
  refine W 3 Z (CL Z (iV _ _ O9 ?_)); refine B1 hf fun x17 h34 hf=>CL Z (MV _ h34 (AS Z (AO.aH Z eY (fun b6=>?_)))); refine B1 hf fun x18 h35 hf=>Rr 2 [0,0] Z Z (CL Z (om _ h35 ?_)); rcases bH hf with ⟨e24,h36,hf⟩ | ⟨_,h36,hf⟩
  · refine U 1 Z (CL Z (bF _ _ h36 ?_)); cases hf; exact ⟨Z,[],List.nil_sublist _,h⟩
  refine U 1 Z (CL Z (bF _ _ h36 ?_)); cases hf; exact Rx 2 [0,1] Z Z (ZC [1] Z Z h)
 rcases bH hf with ⟨e25,h37,hf⟩ | ⟨x19,h37,hf⟩
 · refine W 2 Z (CL Z (j5 _ _ h37 ?_)); cases hf; exact ⟨Z,[],List.nil_sublist _,h⟩
 refine W 2 Z (CL Z (j5 _ _ h37 ?_)); cases hf; exact Rx 1 [0] Z Z (ZC [0] Z Z h)
theorem LB (bB) (bN:nH bB) (dx) (lQ:nI dx) (dw) (iV:oF dw) (bX) (kD:lS bX) (bR) (j5:kY bR) (s1:List av) (e1:aj) {rX:fq aD ah} (hf:qd bB dx dw bX bR s1 e1=some rX) (h:Q (yc rX) τ):PC 124 [.list (List.map av.cells s1),.agg (aS e1)] τ Q:=by
 unfold qd at hf; refine BN 40 [.cell 4 25] [0,1] Tryz.func124 Z Z Z Z Z (W 1 Z (AS Z (AO.aH Z eY (fun b4=>?_)))); refine B1 hf fun n1 h1 hf=>U 2 Z (CL Z (WZ _ h1 ?_)); rcases bH hf with ⟨e2,h2,hf⟩ | ⟨_,h2,hf⟩
 · refine U 3 Z (CL Z (bF _ _ h2 ?_)); cases hf; exact ⟨Z,[],List.nil_sublist _,h⟩
 refine U 3 Z (CL Z (bF _ _ h2 (U 2 Z (AS Z (AO.aL (l:=e1.args) Z Z Z Z fM Z (aj.aB _) ?_))))); rcases bH hf with ⟨e3,h3,hf⟩ | ⟨_,h3,hf⟩
 · refine U 2 Z (CL Z (bF _ _ h3 ?_)); cases hf; exact ⟨Z,[],List.nil_sublist _,h⟩
 refine U 2 Z (CL Z (bF _ _ h3 ?_)); rcases bH hf with ⟨e4,h4,hf⟩ | ⟨args1,h4,hf⟩
 · refine U 3 Z (CL Z (iV _ _ h4 ?_)); cases hf; exact ⟨Z,[],List.nil_sublist _,h⟩
 refine U 3 Z (CL Z (iV _ _ h4 (J 3 Z (C hf Z (fun h5 hf=>?_) fun h5 hf=>?_))))
 ·
  refine V 0 Z (AW.draw 5 mixed (by kernel_rfl) Z ?_); refine Ev.cs aP 3 Z ?_; refine B1 hf fun e5 h6 hf=>Ev.cons Z Z Z (AO.aM h6 Z Z (ah.aB _) Z dN (ah.aG _) Z zg) (Ev.cs aP 1 Z (Ev.nil ?_)); show AR _ _ _ _ _ _ _ _
  rcases bH hf with ⟨e6,h7,hf⟩ | ⟨x1,h7,hf⟩
  · refine CL Z (Sc _ _ h7 ?_); cases hf; exact ⟨Z,[],List.nil_sublist _,h⟩
  refine CL Z (Sc _ _ h7 ?_); cases hf; exact Rx 1 [0] Z Z (ZC [0] Z Z h)
 refine V 0 Z (AW.draw 8 mixed (by kernel_rfl) Z ?_); refine Ev.cs aP 3 Z ?_; refine B1 hf fun e7 h8 hf=>Ev.cons Z Z Z (AO.aM h8 Z Z (ah.aB _) Z dN (ah.aG _) Z zg) (Ev.cs aP 2 Z ?_); refine B1 hf fun e8 h9 hf=>Ev.cons Z Z Z (AO.aM h9 Z Z (ah.aB _) Z dN (ah.aG _) Z zg) (Ev.cs aP 1 Z (Ev.nil ?_)); show AR _ _ _ _ _ _ _ _
 rcases bH hf with ⟨e9,h10,hf⟩ | ⟨x2,h10,hf⟩
 · refine CL Z (R_ _ _ _ h10 ?_); cases hf; exact ⟨Z,[],List.nil_sublist _,h⟩
 refine CL Z (R_ _ _ _ h10 ?_); cases hf; exact Rx 1 [0] Z Z (ZC [0] Z Z h)
theorem M9 (bB) (bN:nH bB) (dx) (lQ:nI dx) (dw) (iV:oF dw) (bX) (kD:lS bX) (bR) (j5:kY bR) (s1:List av) (l1:List aj) {rX:fq aD (List ah)} (hf:Ag bB dx dw bX bR s1 l1=some rX) (h:Q (zH rX) τ):PC 129 [.list (List.map av.cells s1),.list (aj.bn l1)] τ Q:=by
 unfold Ag at hf
 refine BN 22 [.tmp 4] [0,1] Tryz.func129 Z Z Z Z Z (W 0 Z (AS Z (AO.nR Z Z (U 2 Z (AS Z (AO.aL (l:=l1) Z Z Z Z fM Z (aj.aB _) (J 1 Z (AW.row 6 25 (Vf (fun aT v1 x1=>[(0,.list (List.map av.cells s1)),(5,.own v1 (ah.bn aT)),(8,.list (aj.bn l1)),(9,iP (l1.length:Int)),(10,iP x1)]) (fun aT v1 x1=>[.row v1 (ah.bn aT).length 6 25]) (fun bW aT v1 x1=>nC bB s1 l1 bW aT x1=some rX) BIG [] (.slice none 0 0) 0 Z Z hf (fun _ _ _ hz=>bQ hz) ?_)))))))))
 intro bW aT v1 x1 hf; rw [nC] at hf; refine V 1 Z (C hf Z (fun h1 hf=>?_) fun h1 hf=>?_)
 ·
  refine B1 hf fun e1 h2 hf=>W 0 Z (AS Z (AO.aM h2 Z Z (aj.aB _) Z fM (aj.aG _) Z (U 1 Z (AS Z (AO.aH Z kS (fun b7=>?_)))))); rcases bH hf with ⟨e2,h3,hf⟩ | ⟨x2,h3,hf⟩
  · refine Rr 4 [0,0] Z Z (CL Z (bN _ _ h3 ?_)); cases hf; exact ⟨Z,[],List.nil_sublist _,h⟩
  refine Rr 4 [0,0] rfl rfl (CL rfl (bN _ _ h3 (AS rfl (AO.bq (ah.bn [x2]) rfl oW rfl rfl rfl (by first | rfl | simp only [List.map,ah.aG,ah.bn]) ?_)))); refine B1 hf fun Cq h4 hf=>AS Z (AO.eP (i:=1) (l:=aT) (m:=[x2]) h4 Z Z Z Z Z Z Z oW dN (ah.aB _) (ah.aB _) (ah.aB _).symm (ah.dV) (ah.cells_one) (by decide) (fun v2 s2 hs2=>?_)); cases hs2; refine eU 3 Z (AR.drop1 ?_); exact N 0 Z ⟨Cq,v2,(bS (x1 + 1)),Z,Z,Z,hf⟩
 cases hf; exact M 2 Z (Y Z h)
theorem Kg (bB) (bN:nH bB) (dx) (lQ:nI dx) (dw) (iV:oF dw) (bX) (kD:lS bX) (bR) (j5:kY bR) (s1:List av) (e1:aj) {rX:fq aD ah} (hf:nS bB dx dw bX bR s1 e1=some rX) (h:Q (vV rX) τ):PC 126 [.list (List.map av.cells s1),.agg (aS e1)] τ Q:=by
 unfold nS at hf; refine BN 95 [.cell 4 25] [0,1] Tryz.func126 Z Z Z Z Z (W 1 Z (AS Z (AO.aH Z eY (fun b4=>?_)))); refine B1 hf fun e2 h1 hf=>U 3 Z (AS Z (AO.aM h1 Z Z (aj.aB _) Z fM (aj.aG _) Z ?_)); rcases bH hf with ⟨e3,h2,hf⟩ | ⟨x1,h2,hf⟩
 · refine U 1 Z (CL Z (bN _ _ h2 ?_)); cases hf; exact ⟨Z,[],List.nil_sublist _,h⟩
 refine U 1 Z (CL Z (bN _ _ h2 (AS Z (AO.aH Z eY (fun b5=>(Rr 5 [0] Z Z (On 4 16 20 [0,3,4,5] (e1.name == ([124,124]:Str)) Z Z Z Z (J 0 Z (C hf Z (fun h4 hf=>?_) fun h4 hf=>?_)))))))))
 ·
  rcases bH hf with ⟨e4,h5,hf⟩ | ⟨x2,h5,hf⟩
  ·
   refine V 0 Z (AW.abq 1 5 mixed (by kernel_rfl) Z Z ?_); refine Ev.cons Z Z Z (AO.bV (i:=0) Z Z Z bY Z Z zg) (Ev.nil (⟨_,_,Z,Z,Z,Z,AO.call Z _ Z Z adS (qj _ h5 ?_),?_⟩))
   · cases hf; exact ⟨Z,[],List.nil_sublist _,h⟩
   refine Ev.cs aP 3 Z (Ev.nil ?_); trivial
  refine V 0 Z (AW.draw 6 mixed (by kernel_rfl) Z ?_); refine Ev.cons Z Z Z (AO.bV (i:=0) Z Z Z bY Z Z zg) (Ev.cons Z Z Z (AO.call Z _ Z Z adS (qj _ h5 zg)) (Ev.cs aP 3 Z (Ev.cons Z Z Z (AO.Si Z Zv Z Z zg) ?_))); refine Ev.nil ?_; show AR _ _ _ _ _ _ _ _
  refine J 0 Z (C hf Z (fun h6 hf=>?_) fun h6 hf=>?_)
  · cases hf; exact Wx 2 [0,1] Z Z (ZC [1] Z Z h)
  refine B1 hf fun e5 h7 hf=>W 3 Z (AS Z (AO.aM h7 Z Z (aj.aB _) Z fM (aj.aG _) Z ?_)); rcases bH hf with ⟨e6,h8,hf⟩ | ⟨x3,h8,hf⟩
  · refine U 1 Z (CL Z (bN _ _ h8 ?_)); cases hf; exact ⟨Z,[],List.nil_sublist _,h⟩
  refine U 1 Z (CL Z (bN _ _ h8 ?_)); rcases bH hf with ⟨e7,h9,hf⟩ | ⟨x4,h9,hf⟩
  · refine CL Z (qj _ h9 ?_); cases hf; exact ⟨Z,[],List.nil_sublist _,h⟩
  refine CL Z (qj _ h9 ?_); refine B1 hf fun x5 h10 hf=>CL Z (jQ _ h10 ?_); cases hf; exact Rx 1 [1] Z Z (ZC [1] Z Z h)
 refine B1 hf fun e8 h11 hf=>W 3 Z (AS Z (AO.aM h11 Z Z (aj.aB _) Z fM (aj.aG _) Z ?_)); rcases bH hf with ⟨e9,h12,hf⟩ | ⟨x6,h12,hf⟩
 · refine U 1 Z (CL Z (bN _ _ h12 ?_)); cases hf; exact ⟨Z,[],List.nil_sublist _,h⟩
 refine U 1 Z (CL Z (bN _ _ h12 (AS Z (AO.aH Z eY (fun b6=>(Rw 5 [0] Z Z (C hf Z (fun jq hf=>?_) fun jq hf=>?_)))))))
 · refine B1 hf fun x7 kg hf=>Wr 2 [1,0] Z Z (CL Z (Fq _ _ kg ?_)); refine B1 hf fun x8 kC hf=>CL Z (jQ _ kC ?_); cases hf; exact Rx 1 [2] Z Z (ZC [2] Z Z h)
 refine V 2 Z (C hf Z (fun h16 hf=>?_) fun h16 hf=>?_)
 · refine B1 hf fun x9 mQ hf=>Wr 2 [1,0] Z Z (CL Z (Fq _ _ mQ ?_)); refine B1 hf fun CO h18 hf=>U 1 Z (CL Z (jQ _ h18 ?_)); cases hf; exact Rx 1 [2] Z Z (ZC [2] Z Z h)
 refine V 2 Z (C hf Z (fun h19 hf=>?_) fun h19 hf=>?_)
 ·
  rcases bH hf with ⟨e10,h20,hf⟩ | ⟨KP,h20,hf⟩
  · refine Wr 2 [1,0] Z Z (CL Z (ql _ _ h20 ?_)); cases hf; exact ⟨Z,[],List.nil_sublist _,h⟩
  refine Wr 2 [1,0] Z Z (CL Z (ql _ _ h20 ?_)); refine B1 hf fun TU h21 hf=>U 1 Z (CL Z (jQ _ h21 ?_)); cases hf; exact Rx 1 [2] Z Z (ZC [2] Z Z h)
 refine V 2 Z (C hf Z (fun h22 hf=>?_) fun h22 hf=>?_)
 ·
  rcases bH hf with ⟨e11,h23,hf⟩ | ⟨Sv,h23,hf⟩
  · refine Wr 2 [1,0] Z Z (CL Z (ql _ _ h23 ?_)); cases hf; exact ⟨Z,[],List.nil_sublist _,h⟩
  refine Wr 2 [1,0] Z Z (CL Z (ql _ _ h23 ?_)); refine B1 hf fun Vo Ku hf=>U 1 Z (CL Z (jQ _ Ku ?_)); cases hf; exact Rx 1 [2] Z Z (ZC [2] Z Z h)
 refine V 2 Z (C hf Z (fun Sw hf=>?_) fun Sw hf=>?_)
 ·
  rcases bH hf with ⟨e12,PI,hf⟩ | ⟨x15,PI,hf⟩
  · refine Wr 2 [1,0] Z Z (CL Z (ql _ _ PI ?_)); cases hf; exact ⟨Z,[],List.nil_sublist _,h⟩
  refine Wr 2 [1,0] Z Z (CL Z (ql _ _ PI ?_)); refine B1 hf fun Xh h27 hf=>U 1 Z (CL Z (jQ _ h27 ?_)); cases hf; exact Rx 1 [2] Z Z (ZC [2] Z Z h)
 refine V 2 Z (C hf Z (fun Xb hf=>?_) fun Xb hf=>?_)
 ·
  rcases bH hf with ⟨e13,Te,hf⟩ | ⟨x17,Te,hf⟩
  · refine Wr 2 [1,0] Z Z (CL Z (ql _ _ Te ?_)); cases hf; exact ⟨Z,[],List.nil_sublist _,h⟩
  refine Wr 2 [1,0] Z Z (CL Z (ql _ _ Te ?_)); refine B1 hf fun x18 h30 hf=>U 1 Z (CL Z (jQ _ h30 ?_)); cases hf; exact Rx 1 [2] Z Z (ZC [2] Z Z h)
 refine V 2 Z (C hf Z (fun h31 hf=>?_) fun h31 hf=>?_)
 ·
  rcases bH hf with ⟨e14,h32,hf⟩ | ⟨x19,h32,hf⟩
  · refine Wr 2 [1,0] Z Z (CL Z (Sb _ _ h32 ?_)); cases hf; exact ⟨Z,[],List.nil_sublist _,h⟩
  refine Wr 2 [1,0] Z Z (CL Z (Sb _ _ h32 ?_)); cases hf; exact Rx 1 [2] Z Z (ZC [2] Z Z h)
 rcases bH hf with ⟨e15,O9,hf⟩ | ⟨x20,O9,hf⟩
 · refine Wr 4 [1,0] Z Z (CL Z (EW _ _ _ O9 ?_)); cases hf; exact ⟨Z,[],List.nil_sublist _,h⟩
 refine Wr 4 [1,0] Z Z (CL Z (EW _ _ _ O9 ?_)); cases hf; exact Rx 1 [2] Z Z (ZC [2] Z Z h)
theorem Iw (bB) (bN:nH bB) (dx) (lQ:nI dx) (dw) (iV:oF dw) (bX) (kD:lS bX) (bR) (j5:kY bR) (s1:List av) (e1:aj) {rX:fq aD ah} (hf:nk bB dx dw bX bR s1 e1=some rX) (h:Q (ug rX) τ):PC 131 [.list (List.map av.cells s1),.agg (aS e1)] τ Q:=by
 unfold nk at hf; refine BN 41 [.cell 4 25] [0,1] Tryz.func131 Z Z Z Z Z (W 1 Z (AS Z (AO.aH Z eY (fun b4=>?_)))); rcases bH hf with ⟨e2,h1,hf⟩ | ⟨x1,h1,hf⟩
 · refine U 4 Z (CL Z (iV _ _ h1 ?_)); cases hf; exact ⟨Z,[],List.nil_sublist _,h⟩
 refine U 4 Z (CL Z (iV _ _ h1 (AS Z (AO.aL (l:=x1) Z Z Z Z dN Z (ah.aB _) ?_))))
 refine J 1 Z (AW.row 7 47 (Vf (fun gY v1 i1=>[(3,.ref (aS e1)),(4,pP b4),(5,.own v1 (List.map av.cells gY)),(13,.list (ah.bn x1)),(14,iP (x1.length:Int)),(15,iP i1)]) (fun gY v1 i1=>[.row v1 (List.map av.cells gY).length 7 47,.box b4 [iP 0,.bool false,iP 0,.str ([]:Str),.own (.slice none 0 0) [],.own (.slice none 0 0) []]]) (fun bW gY v1 i1=>lY e1 x1 bW gY i1=some rX) BIG [] (.slice none 0 0) 0 Z Z hf (fun _ _ _ hz=>bQ hz) ?_)); intro bW gY v1 i1 hf; rw [lY] at hf
 refine V 1 Z (C hf Z (fun h2 hf=>?_) fun h2 hf=>?_)
 ·
  refine B1 hf fun e3 h3 hf=>W 1 Z (AS Z (AO.aM h3 Z Z (ah.aB _) Z dN (ah.aG _) Z (U 1 Z (AS Z (AO.aH Z eY (fun b7=>(Rw 2 [0] Z Z (AW.draw 9 mixed (by kernel_rfl) Z ?_)))))))); refine Ev.cs aP 4 Z ?_; refine B1 hf fun e4 h4 hf=>Ev.cons Z Z Z (AO.aM h4 Z Z Z Z dO Z Z zg) (Ev.cs aP 1 Z (Ev.cons Z Z Z (AO.bV (i:=0) Z Z Z bY Z Z zg) (Ev.cons Z Z Z (AO.build Z TS adu Z zg) ?_)))
  refine Ev.cons rfl rfl rfl (AO.bq (List.map av.cells [(av.mk e4 e3)]) rfl Cg rfl rfl rfl (by first | rfl | simp only [List.map,av.aG]) ⟨rfl,rfl⟩) ?_; refine Ev.nil ?_; show AR _ _ _ _ _ _ _ _
  refine B1 hf fun Da h5 hf=>AS Z (AO.eP (i:=1) (l:=gY) (m:=[(av.mk e4 e3)]) h5 Z Z Z Z Z Z Z Cg kW Z Z Z (av.dV) (av.cells_one) (by decide) (fun v2 s2 hs2=>?_)); cases hs2; refine eU 3 Z (AR.drop1 ?_); exact N 0 Z ⟨Da,v2,(bS (i1 + 1)),Z,Z,Z,hf⟩
 obtain ⟨x2,EN,h6,hf⟩:=aY hf; refine W 1 Z (CL Z (YR _ h6 (U 3 Z (AS Z (AO.aH Z eY (fun b8=>?_)))))); rcases bH hf with ⟨e5,h7,hf⟩ | ⟨_,h7,hf⟩
 · refine Rr 5 [0] Z Z (CL Z (bF _ _ h7 ?_)); cases hf; exact ⟨Z,[],List.nil_sublist _,h⟩
 refine Rr 5 [0] Z Z (CL Z (bF _ _ h7 ?_)); cases hf; exact Rx 2 [0,2] Z Z (ZC [2] Z Z h)
theorem pY :∀ k:Nat,(nH (dF k))∧(nI (fB k))∧(oF (fK k))∧(lS (d9 k))∧(kY (dR k)):=by
 intro k
 induction k with
 | zero=>exact ⟨fun _ _ _ hz=>by first | cases hz | (unfold dF at hz; cases hz),fun _ _ _ hz=>by first | cases hz | (unfold fB at hz; cases hz),fun _ _ _ hz=>by first | cases hz | (unfold fK at hz; cases hz),fun _ _ _ hz=>by first | cases hz | (unfold d9 at hz; cases hz),fun _ _ _ hz=>by first | cases hz | (unfold dR at hz; cases hz)⟩
 | succ k ih=>exact ⟨fun pE fV fu hz τ Q hq=>LA (dF k) ih.1 (fB k) ih.2.1 (fK k) ih.2.2.1 (d9 k) ih.2.2.2.1 (dR k) ih.2.2.2.2 pE fV hz hq,fun pE fV fu hz τ Q hq=>LB (dF k) ih.1 (fB k) ih.2.1 (fK k) ih.2.2.1 (d9 k) ih.2.2.2.1 (dR k) ih.2.2.2.2 pE fV hz hq,fun pE ul1 fu hz τ Q hq=>M9 (dF k) ih.1 (fB k) ih.2.1 (fK k) ih.2.2.1 (d9 k) ih.2.2.2.1 (dR k) ih.2.2.2.2 pE ul1 hz hq,fun pE fV fu hz τ Q hq=>Kg (dF k) ih.1 (fB k) ih.2.1 (fK k) ih.2.2.1 (d9 k) ih.2.2.2.1 (dR k) ih.2.2.2.2 pE fV hz hq,fun pE fV fu hz τ Q hq=>Iw (dF k) ih.1 (fB k) ih.2.1 (fK k) ih.2.2.1 (d9 k) ih.2.2.2.1 (dR k) ih.2.2.2.2 pE fV hz hq⟩
theorem ET (pE:List av) (fV:aj) {fu:fq aD ah} (hf:wX pE fV=some fu) (h:Q (xZ fu) τ):PC 70 [.list (List.map av.cells pE),.agg (aS fV)] τ Q:=
 ((pY BIG).1) pE fV hf h
theorem abx (pE:List av) (fV:aj) {fu:fq aD ah} (hf:Pd pE fV=some fu) (h:Q (yc fu) τ):PC 124 [.list (List.map av.cells pE),.agg (aS fV)] τ Q:=
 ((pY BIG).2.1) pE fV hf h
theorem acL (pE:List av) (ul1:List aj) {fu:fq aD (List ah)} (hf:Rl pE ul1=some fu) (h:Q (zH fu) τ):PC 129 [.list (List.map av.cells pE),.list (aj.bn ul1)] τ Q:=
 ((pY BIG).2.2.1) pE ul1 hf h
theorem Ze (pE:List av) (fV:aj) {fu:fq aD ah} (hf:Mx pE fV=some fu) (h:Q (vV fu) τ):PC 126 [.list (List.map av.cells pE),.agg (aS fV)] τ Q:=
 ((pY BIG).2.2.2.1) pE fV hf h
theorem Y7 (pE:List av) (fV:aj) {fu:fq aD ah} (hf:K9 pE fV=some fu) (h:Q (ug fu) τ):PC 131 [.list (List.map av.cells pE),.agg (aS fV)] τ Q:=
 ((pY BIG).2.2.2.2) pE fV hf h
end

section
variable [Ay]
theorem F4 (s1:List av) (e1:aj) {r0:ah} {r1:Int} (hf:oL s1 e1=some (r0,r1)) (h:Q (.ret (.tuple [.agg (aF r0),iP r1])) τ):PC 36 [.list (List.map av.cells s1),.agg (aS e1)] τ Q:=by
 unfold oL at hf; refine AC.none (AC.Ot 10 [.cell 4 25,.cell 5 32] [0,1] [0,1] Tryz.func36 Z Z Z Z Z Tryz.func69 Z Z Z Z Z Z Z ajt (AW.sr (AR.step Z Z Z (AO.MW Z Z Z ?_)))); refine AR.step Z Z Z (AO.aH Z eY (fun b4=>(AR.step Z Z Z (AO.aH Z acY (fun b5=>(AR.nil [0,3,4,5] Z (AW.sr ?_))))))); refine cs 1 Z (AR.defer (vs:=[.pointer (some ⟨b4,0,none⟩),.pointer (some ⟨b5,0,none⟩)]) Z Z Z Z Z Z (AR.nil [0,3,4,5] Z (AW.sr ?_))); refine cs 2 Z ?_
 rcases bH hf with ⟨f1,h1,hf⟩ | ⟨v1,h1,hf⟩
 ·
  refine AR.step Z Z Z (AO.call Z _ Z Z Oq (ET _ _ h1 ?_)); cases hf; refine ⟨[.pointer (some ⟨b4,0,none⟩),.pointer (some ⟨b5,0,none⟩)],_,Z,Z,Z,(AR.step Z Z Z (AO.aaR Z Z aft (cs 3 Z (AR.step Z Z Z (AO.aH Z ac1 (fun b6=>?_))))))⟩; refine AR.fH Z Z (AO.ig (i:=0) Z Z Z adq Z Z Z Z Z (cs 1 Z (AR.nil [0,1,2,3] Z (AW.sr ?_)))); refine cs 1 Z (AR.nil [0,1,2,9] Z (AW.cond Z (fun _=>?_) (fun hh=>by cases hh)))
  refine AW.abr 1 3 4 [_] [_,_] mixed (by kernel_rfl) (by kernel_rfl) (by kernel_rfl) Z Z Z (List.Perm.refl _) ?_; refine Ev.cons Z Z Z (AO.build Z eY ZE Z zg) (Ev.nil ?_); show Ev _ _ _ _ _ _ _
  refine Ev.cs aP 1 Z (Ev.cons Z Z Z (AO.bV (i:=0) Z Z Z Eh Z Z zg) (Ev.nil (TF.fH Z Z (AO.ig (i:=1) Z Z Z bY Z Z Z Z Z ?_)))); refine TF.nil ?_; show AR _ _ _ _ _ _ _ _
  refine AR.fH Z Z (AO.ig (i:=1) Z Z Z Eh Z Z Z Z Z (AR.nil [] Z ?_)); exact ⟨rfl,_,⟨_,_,rfl,⟨_,_,2,_,_,rfl,rfl,bY,rfl⟩,⟨_,_,rfl,⟨_,_,1,_,_,rfl,rfl,Eh,rfl⟩,rfl⟩⟩,[],List.nil_sublist _,h⟩
 refine AR.step Z Z Z (AO.call Z _ Z Z Oq (ET _ _ h1 ?_)); cases hf; refine AR.fH Z Z (AO.ig (i:=1) Z Z Z bY Z Z Z Z Z (AR.fH Z Z (AO.ig (i:=0) Z Z Z Eh Z Z Z Z Z (AR.nil [4,5] Z (AW.ret ?_))))); refine ⟨[.pointer (some ⟨b4,0,none⟩),.pointer (some ⟨b5,0,none⟩)],_,Z,Z,Z,(AR.step Z Z Z (AO.Xy (p:=.agg [iP 0]) Z Z afv (fun _ _=>by simp only [eH]; exact ⟨[.int .i64 0],Z,bC.cons (by simp [eH]) bC.nil⟩) ?_))⟩
 refine cs 3 Z (AR.step Z Z Z (AO.aH Z ac1 (fun b6=>(AR.fH Z Z (AO.ig (i:=0) Z Z Z adq Z Z Z Z Z (cs 1 Z ?_)))))); refine AR.nil [3] Z (AW.sr (cs 1 Z (AR.nil [9] Z ?_))); refine AW.cond Z (fun hh=>by cases hh) (fun _=>?_); refine AW.skip ?_; exact ⟨rfl,_,⟨_,_,rfl,⟨_,_,2,_,_,rfl,rfl,bY,rfl⟩,⟨_,_,rfl,⟨_,_,1,_,_,rfl,rfl,Eh,rfl⟩,rfl⟩⟩,[],List.nil_sublist _,h⟩
end


abbrev M6 (lD:ah→Option ah):Prop:=∀ (rZ:ah) {aU:ah},lD rZ=some aU→∀ {τ:List bE} {Q:eZ→List bE→Prop} (h:Q (.ret (.agg (aF aU))) τ),PC 37 [.agg (aF rZ)] τ Q
theorem Vt (lD) (Ra:M6 lD) (v1:ah) {r0:ah} (hf:Cx lD v1=some r0) (h:Q (.ret (.agg (aF r0))) τ):PC 37 [.agg (aF v1)] τ Q:=by
 unfold Cx at hf; refine BN 31 [.cell 2 25] [0] Tryz.func37 Z Z Z Z Z (W 1 Z (AS Z (AO.aH Z eY (fun b2=>(U 1 Z (AS Z (AO.aH Z eY (fun b3=>(Rr 7 [0,0,0] Z Z (AS Z (AO.aL (l:=v1.aI) Z Z Z Z dN Z (ah.aB _) ?_)))))))))))
 refine J 1 Z (AW.row 6 25 (AW.row 1 9 (LK4 (fun x1 aT v2 v3=>[(1,.ref (aF v1)),(2,pP b2),(3,pP b3),(10,.list (ah.bn v1.aI)),(11,iP (v1.aI.length:Int)),(12,iP x1)]) (fun x1 aT v2 v3=>[.row v3 (List.map ko aT.keys).length 1 9,.row v2 (ah.bn aT.aI).length 6 25,.box b3 [iP aT.kind,.bool aT.dh,iP aT.bZ,.str aT.bI,.own v2 (ah.bn aT.aI),.own v3 (List.map ko aT.keys)],.box b2 [iP 0,.bool false,iP 0,.str ([]:Str),.own (.slice none 0 0) [],.own (.slice none 0 0) []]]) (fun bW x1 aT v2 v3=>wL lD v1 bW x1 aT=some r0) BIG 0 (ah.mk v1.kind v1.dh v1.bZ v1.bI [] []) (.slice none 0 0) (.slice none 0 0) Z Z hf (fun _ _ _ _ hz=>bQ hz) ?_)))
 intro bW x1 aT v2 v3 hf; rw [wL] at hf; refine V 1 Z (C hf Z (fun h1 hf=>?_) fun h1 hf=>?_)
 ·
  refine B1 hf fun e1 h2 hf=>W 0 Z (AS Z (AO.aM h2 Z Z (ah.aB _) Z dN (ah.aG _) Z (U 1 Z (AS Z (AO.aH Z eY (fun b5=>(Rw 1 [0] Z Z (AW.draw 5 mixed (by kernel_rfl) Z ?_)))))))); refine Ev.cs aP 1 Z (Ev.cons Z Z Z (AO.bV (i:=3) Z Z Z Oi Z Z zg) (Ev.cons Z Z Z (AO.bV (i:=0) Z Z Z bY Z Z zg) ?_)); refine B1 hf fun x2 h3 hf=>Ev.cons rfl rfl rfl (AO.call rfl _ rfl rfl ajx (Ra _ h3 ⟨rfl,rfl⟩)) (Ev.cons rfl rfl rfl (AO.bq (ah.bn [x2]) rfl oW rfl rfl rfl (by first | rfl | simp only [List.map,ah.aG,ah.bn]) ⟨rfl,rfl⟩) ?_)
  refine Ev.nil ?_; show AR _ _ _ _ _ _ _ _
  refine B1 hf fun x3 h4 hf=>AS Z (AO.eP (i:=2) (l:=aT.aI) (m:=[x2]) h4 Z Z Z Z Z Z Z oW dN (ah.aB _) (ah.aB _) (ah.aB _).symm (ah.dV) (ah.cells_one) (by decide) (fun v4 s1 hs1=>?_)); cases hs1; refine Rn 4 [3] Z Z (AR.drop1 ?_); exact N 0 Z ⟨(bS (x1 + 1)),(ah.mk aT.kind aT.dh aT.bZ aT.bI x3 aT.keys),v4,v3,Z,Z,Z,hf⟩
 refine B1 hf fun x4 h5 hf=>Wr 4 [2] Z Z (AS Z (AO.eP (i:=0) (l:=aT.keys) (m:=v1.keys) h5 Z Z Z Z Z Z Z kU dO Z Z Z (fun _=>Z) (fun _=>Z) (by decide) (fun v5 s2 hs2=>?_))); cases hs2; cases hf; exact Rx 4 [2,2,3] Z Z (ZC [3] Z Z h)
theorem V3 :∀ k:Nat,(M6 (mO k)):=by
 intro k
 induction k with
 | zero=>exact fun _ _ hz=>by first | cases hz | (unfold mO at hz; cases hz)
 | succ k ih=>exact fun rZ aU hz τ Q hq=>Vt (mO k) ih rZ hz hq
theorem G9 (rZ:ah) {aU:ah} (hf:rT rZ=some aU) (h:Q (.ret (.agg (aF aU))) τ):PC 37 [.agg (aF rZ)] τ Q:=
 ((V3 BIG)) rZ hf h

section
variable [Ay]
theorem rM (e1:aj) (bK:List av) {r0:ah} {r1:Int} (hf:nD e1 bK=some (r0,r1)) (h:Q (.ret (.tuple [.agg (aF r0),iP r1])) τ):PC 13 [.agg (aS e1),.list (List.map av.cells bK)] τ Q:=by
 unfold nD at hf; refine BN 28 [.cell 4 25,.tmp 5] [0,1] Tryz.func13 Z Z Z Z Z (W 1 Z (AS Z (AO.aH Z eY (fun b4=>?_)))); obtain ⟨s1,f1,h1,hf⟩:=aY hf; refine U 3 Z (CL Z (KE _ _ h1 (J 7 Z (C hf Z (fun h2 hf=>?_) fun h2 hf=>?_))))
 · cases hf; exact Wx 4 [0] rfl rfl ⟨rfl,_,⟨_,_,rfl,⟨_,_,0,_,_,rfl,rfl,bY,rfl⟩,_,_,rfl,rfl,rfl⟩,[],List.nil_sublist _,h⟩
 obtain ⟨x1,f2,h3,hf⟩:=aY hf; refine W 2 Z (CL Z (F4 _ _ h3 (U 3 Z (AS Z (AO.aH Z eY (fun b8=>?_)))))); refine B1 hf fun x2 h4 hf=>Rr 3 [0,0] Z Z (CL Z (G9 _ h4 ?_)); cases hf; exact Rx 3 [1] rfl rfl ⟨rfl,_,⟨_,_,rfl,⟨_,_,1,_,_,rfl,rfl,bY,rfl⟩,_,_,rfl,rfl,rfl⟩,[],List.nil_sublist _,h⟩
end

section
variable [Ay]
theorem ML (v1:ah) {r0:Str} (hf:zI v1=some r0) (h:Q (.ret (.str r0)) τ):PC 51 [.agg (aF v1)] τ Q:=by
 unfold zI at hf; refine BN 8 [.tmp 2] [0] Tryz.func51 Z Z Z Z Z ?_; refine B1 hf fun x1 h1 hf=>W 3 Z (CL Z (om _ h1 (J 1 Z (C hf Z (fun h2 hf=>?_) fun h2 hf=>?_))))
 · cases hf; exact M 1 Z (Y Z h)
 replace hf:=(aJ _).trans hf; refine B1 hf fun x2 h3 hf=>W 1 Z (CL Z (HY _ h3 ?_)); cases hf; exact N 1 Z (Y Z h)
end

section
variable [Ay]
theorem rH (fZ:Str) (bK:List av) {r0:Str} {r1:Int} (hf:pG fZ bK=some (r0,r1)) (h:Q (.ret (.tuple [.str r0,iP r1])) τ):PC 24 [.str fZ,.list (List.map av.cells bK)] τ Q:=by
 unfold pG at hf; refine BN 31 [.tmp 4,.tmp 5] [0,1] Tryz.func24 Z Z Z Z Z ?_; obtain ⟨x1,x2,f1,h1,hf⟩:=sN hf; refine W 3 Z (CL Z (JB _ h1 (U 4 Z (AS Z (AO.aH Z kS (fun b6=>(Rw 5 [0] Z Z (C hf Z (fun h2 hf=>?_) fun h2 hf=>?_))))))))
 · cases hf; exact M 3 rfl ⟨rfl,_,⟨_,_,rfl,rfl,_,_,rfl,rfl,rfl⟩,[],List.nil_sublist _,h⟩
 obtain ⟨x3,f2,h3,hf⟩:=aY hf; refine Wr 2 [0] Z Z (CL Z (rM _ _ h3 (U 3 Z (AS Z (AO.aH Z eY (fun b9=>(Rw 4 [0] Z Z (C hf Z (fun h4 hf=>?_) fun h4 hf=>?_))))))))
 · cases hf; exact M 3 rfl ⟨rfl,_,⟨_,_,rfl,rfl,_,_,rfl,rfl,rfl⟩,[],List.nil_sublist _,h⟩
 refine B1 hf fun x4 h5 hf=>Wr 1 [0] Z Z (CL Z (ML _ h5 ?_)); cases hf; exact N 3 rfl ⟨rfl,_,⟨_,_,rfl,rfl,_,_,rfl,rfl,rfl⟩,[],List.nil_sublist _,h⟩
end


abbrev KM (kL:aj→Option aj):Prop:=∀ (fV:aj) {aU:aj},kL fV=some aU→∀ {τ:List bE} {Q:eZ→List bE→Prop} (h:Q (.ret (.agg (aS aU))) τ),PC 44 [.agg (aS fV)] τ Q
theorem SK (kL) (Pb:KM kL) (e1:aj) {r0:aj} (hf:A_ kL e1=some r0) (h:Q (.ret (.agg (aS r0))) τ):PC 44 [.agg (aS e1)] τ Q:=by
 unfold A_ at hf; refine BN 32 [.cell 2 28] [0] Tryz.func44 Z Z Z Z Z (W 1 Z (AS Z (AO.aH Z kS (fun b2=>(U 1 Z (AS Z (AO.aH Z kS (fun b3=>?_)))))))); refine B1 hf fun x1 h1 hf=>Rr 3 [0] Z Z (CL Z (G9 _ h1 (Rr 4 [0] Z Z (AR.row 1 9 ?_)))); refine B1 hf fun x2 h2 hf=>AS Z (AO.eP (i:=0) (l:=[]) (m:=e1.keys) h2 Z Z Z Z Z Z Z kU dO Z Z Z (fun _=>Z) (fun _=>Z) (by decide) (fun v1 s1 hs1=>?_)); cases hs1
 refine Rr 6 [1,1] Z Z (AS Z (AO.aL (l:=e1.args) Z Z Z Z fM Z (aj.aB _) ?_))
 refine J 1 Z (AW.row 10 28 (LK4 (fun x3 aT v2 v3=>[(2,pP b2),(3,pP b3),(17,.list (aj.bn e1.args)),(18,iP (e1.args.length:Int)),(19,iP x3)]) (fun x3 aT v2 v3=>[.row v2 (aj.bn aT.args).length 10 28,.row v3 (List.map ko aT.keys).length 1 9,.box b3 [iP aT.kind,.str aT.name,iP aT.value.kind,.bool aT.value.dh,iP aT.value.bZ,.str aT.value.bI,.list (ah.bn aT.value.aI),sP aT.value.keys,.own v2 (aj.bn aT.args),.own v3 (List.map ko aT.keys)],.box b2 [iP 0,.str ([]:Str),iP 0,.bool false,iP 0,.str ([]:Str),.own (.slice none 0 0) [],.own (.slice none 0 0) [],.own (.slice none 0 0) [],.own (.slice none 0 0) []]]) (fun bW x3 aT v2 v3=>uS kL e1 bW x3 aT=some r0) BIG 0 (aj.mk e1.kind e1.name x1 [] x2) (.slice none 0 0) v1 Z Z hf (fun _ _ _ _ hz=>bQ hz) ?_))
 intro bW x3 aT v2 v3 hf; rw [uS] at hf; refine V 1 Z (C hf Z (fun h3 hf=>?_) fun h3 hf=>?_)
 ·
  refine B1 hf fun e2 h4 hf=>W 0 Z (AS Z (AO.aM h4 Z Z (aj.aB _) Z fM (aj.aG _) Z (U 1 Z (AS Z (AO.aH Z kS (fun b5=>(Rw 1 [0] Z Z (AW.draw 5 mixed (by kernel_rfl) Z ?_)))))))); refine Ev.cs aP 1 Z (Ev.cons Z Z Z (AO.bV (i:=3) Z Z Z aaQ Z Z zg) (Ev.cons Z Z Z (AO.bV (i:=0) Z Z Z kT Z Z zg) ?_)); refine B1 hf fun x4 h5 hf=>Ev.cons rfl rfl rfl (AO.call rfl _ rfl rfl ajv (Pb _ h5 ⟨rfl,rfl⟩)) (Ev.cons rfl rfl rfl (AO.bq (aj.bn [x4]) rfl uq rfl rfl rfl (by first | rfl | simp only [List.map,aj.aG,aj.bn]) ⟨rfl,rfl⟩) ?_)
  refine Ev.nil ?_; show AR _ _ _ _ _ _ _ _
  refine B1 hf fun x5 h6 hf=>AS Z (AO.eP (i:=1) (l:=aT.args) (m:=[x4]) h6 Z Z Z Z Z Z Z uq fM (aj.aB _) (aj.aB _) (aj.aB _).symm (aj.dV) (aj.cells_one) (by decide) (fun v4 s2 hs2=>?_)); cases hs2; refine Rn 4 [3] Z Z (AR.drop1 ?_); exact N 0 Z ⟨(bS (x3 + 1)),(aj.mk aT.kind aT.name aT.value x5 aT.keys),v4,v3,Z,Z,Z,hf⟩
 cases hf; exact Wx 2 [2,3] Z Z (ZC [3] Z Z h)
theorem SY :∀ k:Nat,(KM (lF k)):=by
 intro k
 induction k with
 | zero=>exact fun _ _ hz=>by first | cases hz | (unfold lF at hz; cases hz)
 | succ k ih=>exact fun fV aU hz τ Q hq=>SK (lF k) ih fV hz hq
theorem TQ (fV:aj) {aU:aj} (hf:EJ fV=some aU) (h:Q (.ret (.agg (aS aU))) τ):PC 44 [.agg (aS fV)] τ Q:=
 ((SY BIG)) fV hf h

section
variable [Ay]

abbrev EZ (iU:List av→aj→Option aj):Prop:=∀ (pE:List av) (fV:aj) {aU:aj},iU pE fV=some aU→∀ {τ:List bE} {Q:eZ→List bE→Prop} (h:Q (.ret (.agg (aS aU))) τ),PC 45 [.list (List.map av.cells pE),.agg (aS fV)] τ Q
theorem Lx (iU) (Kj:EZ iU) (s1:List av) (e1:aj) {r0:aj} (hf:tJ iU s1 e1=some r0) (h:Q (.ret (.agg (aS r0))) τ):PC 45 [.list (List.map av.cells s1),.agg (aS e1)] τ Q:=by
 unfold tJ at hf; refine BN 44 [.cell 4 28] [0,1] Tryz.func45 Z Z Z Z Z (W 1 Z (AS Z (AO.aH Z kS (fun b4=>?_)))); obtain ⟨x1,f1,h1,hf⟩:=aY hf; refine U 2 Z (CL Z (F4 _ _ h1 (U 3 Z (AS Z (AO.aH Z eY (fun b5=>(Rw 4 [0] Z Z (C hf Z (fun h2 hf=>?_) fun h2 hf=>?_))))))))
 · refine B1 hf fun x2 h3 hf=>Wr 1 [0] Z Z (CL Z (G9 _ h3 ?_)); cases hf; exact Rx 2 [1] Z Z (ZC [1] Z Z h)
 refine W 1 Z (AS Z (AO.aH Z kS (fun b7=>(Rr 3 [0] Z Z (AR.row 1 9 ?_))))); refine B1 hf fun x3 h4 hf=>AS Z (AO.eP (i:=0) (l:=[]) (m:=e1.keys) h4 Z Z Z Z Z Z Z kU dO Z Z Z (fun _=>Z) (fun _=>Z) (by decide) (fun v1 s2 hs2=>?_)); cases hs2; refine Rr 6 [1,1] Z Z (AS Z (AO.aL (l:=e1.args) Z Z Z Z fM Z (aj.aB _) ?_))
 refine J 1 Z (AW.row 10 28 (LK4 (fun x4 aT v2 v3=>[(0,.list (List.map av.cells s1)),(4,pP b4),(7,pP b7),(28,.list (aj.bn e1.args)),(29,iP (e1.args.length:Int)),(30,iP x4)]) (fun x4 aT v2 v3=>[.row v2 (aj.bn aT.args).length 10 28,.row v3 (List.map ko aT.keys).length 1 9,.box b7 [iP aT.kind,.str aT.name,iP aT.value.kind,.bool aT.value.dh,iP aT.value.bZ,.str aT.value.bI,.list (ah.bn aT.value.aI),sP aT.value.keys,.own v2 (aj.bn aT.args),.own v3 (List.map ko aT.keys)],.box b5 (aF x1),.box b4 [iP 0,.str ([]:Str),iP 0,.bool false,iP 0,.str ([]:Str),.own (.slice none 0 0) [],.own (.slice none 0 0) [],.own (.slice none 0 0) [],.own (.slice none 0 0) []]]) (fun bW x4 aT v2 v3=>oM iU s1 e1 bW x4 aT=some r0) BIG 0 (aj.mk e1.kind e1.name e1.value [] x3) (.slice none 0 0) v1 Z Z hf (fun _ _ _ _ hz=>bQ hz) ?_))
 intro bW x4 aT v2 v3 hf; rw [oM] at hf; refine V 1 Z (C hf Z (fun h5 hf=>?_) fun h5 hf=>?_)
 ·
  refine B1 hf fun e2 h6 hf=>W 0 Z (AS Z (AO.aM h6 Z Z (aj.aB _) Z fM (aj.aG _) Z (U 1 Z (AS Z (AO.aH Z kS (fun b9=>(Rw 1 [0] Z Z (AW.draw 6 mixed (by kernel_rfl) Z ?_)))))))); refine Ev.cs aP 1 Z (Ev.cons Z Z Z (AO.bV (i:=3) Z Z Z aaQ Z Z zg) (Ev.cs aP 1 Z (Ev.cons Z Z Z (AO.bV (i:=0) Z Z Z kT Z Z zg) ?_))); refine B1 hf fun x5 h7 hf=>Ev.cons rfl rfl rfl (AO.call rfl _ rfl rfl aju (Kj _ _ h7 ⟨rfl,rfl⟩)) (Ev.cons rfl rfl rfl (AO.bq (aj.bn [x5]) rfl uq rfl rfl rfl (by first | rfl | simp only [List.map,aj.aG,aj.bn]) ⟨rfl,rfl⟩) ?_)
  refine Ev.nil ?_; show AR _ _ _ _ _ _ _ _
  refine B1 hf fun x6 h8 hf=>AS Z (AO.eP (i:=1) (l:=aT.args) (m:=[x5]) h8 Z Z Z Z Z Z Z uq fM (aj.aB _) (aj.aB _) (aj.aB _).symm (aj.dV) (aj.cells_one) (by decide) (fun v4 s3 hs3=>?_)); cases hs3; refine Rn 4 [3] Z Z (AR.drop1 ?_); exact N 0 Z ⟨(bS (x4 + 1)),(aj.mk aT.kind aT.name aT.value x6 aT.keys),v4,v3,Z,Z,Z,hf⟩
 cases hf; exact Wx 2 [2,4] Z Z (ZC [4] Z Z h)
theorem Mg :∀ k:Nat,(EZ (jf k)):=by
 intro k
 induction k with
 | zero=>exact fun _ _ _ hz=>by first | cases hz | (unfold jf at hz; cases hz)
 | succ k ih=>exact fun pE fV aU hz τ Q hq=>Lx (jf k) ih pE fV hz hq
theorem MU (pE:List av) (fV:aj) {aU:aj} (hf:B_ pE fV=some aU) (h:Q (.ret (.agg (aS aU))) τ):PC 45 [.list (List.map av.cells pE),.agg (aS fV)] τ Q:=
 ((Mg BIG)) pE fV hf h
end

section
variable [Ay]
theorem JE (e1:aj) (bK:List av) {r0:aj} (hf:Aj e1 bK=some r0) (h:Q (.ret (.agg (aS r0))) τ):PC 20 [.agg (aS e1),.list (List.map av.cells bK)] τ Q:=by
 unfold Aj at hf; refine BN 20 [.cell 4 28] [0,1] Tryz.func20 Z Z Z Z Z (W 1 Z (AS Z (AO.aH Z kS (fun b4=>?_)))); obtain ⟨s1,f1,h1,hf⟩:=aY hf; refine U 2 Z (CL Z (KE _ _ h1 (J 7 Z (C hf Z (fun h2 hf=>?_) fun h2 hf=>?_))))
 · replace hf:=(aJ _).trans hf; refine B1 hf fun x1 h3 hf=>W 1 Z (CL Z (TQ _ h3 ?_)); cases hf; exact Rx 1 [0] Z Z (ZC [0] Z Z h)
 replace hf:=(aJ _).trans hf; refine B1 hf fun x2 h4 hf=>W 2 Z (CL Z (MU _ _ h4 ?_)); cases hf; exact Rx 1 [0] Z Z (ZC [0] Z Z h)
end

theorem RZ (e1:aj) {r0:Int} (hf:Gy e1=some r0) (h:Q (.ret (iP r0)) τ):PC 186 [.agg (aS e1)] τ Q:=by
 unfold Gy at hf; refine BN 33 [.tmp 2] [0] Tryz.func186 Z Z Z Z Z (V 6 Z (C hf Z (fun h1 hf=>?_) fun h1 hf=>?_))
 · cases hf; exact M 1 Z (Y Z h)
 refine V 4 Z (C hf Z (fun h2 hf=>?_) fun h2 hf=>?_)
 · replace hf:=(aJ _).trans hf; refine B1 hf fun x1 h3 hf=>W 2 Z (CL Z (tO _ h3 ?_)); cases hf; exact N 1 Z (Y Z h)
 refine V 4 Z (C hf Z (fun h4 hf=>?_) fun h4 hf=>?_)
 ·
  refine V 0 Z (AW.cond Z (fun h5=>?_) (fun h5=>?_))
  · cases hf; exact M 1 Z (Y Z h)
  cases h4.symm.trans h5
 refine W 4 Z (An 5 21 26 [1,14] (e1.value.kind == 2) Z Z Z Z (U 1 Z (An 5 27 32 [14] (decide (e1.value.bZ < 0)) Z Z Z Z (J 1 Z (C hf Z (fun h8 hf=>?_) fun h8 hf=>?_)))))
 · cases hf; exact M 1 Z (Y Z h)
 cases hf; exact M 1 Z (Y Z h)

theorem TM (s1:Str) {r0:Str} (hf:Je s1=some r0) (h:Q (.ret (.str r0)) τ):PC 187 [.str s1] τ Q:=by
 unfold Je at hf; refine BN 64 [.tmp 2] [0] Tryz.func187 Z Z Z Z Z (W 1 Z (AS Z (AO.Ke (eu:=5) Z Vh Z (fun b3=>?_)))); refine B1 hf fun b1 h1 hf=>U 0 Z (CL Z (AC.one 0 Z (iy h1 (fun v1=>⟨_,Z,(J 1 Z (Vf (fun i1 b2 v2=>[(0,.str s1),(3,pP b3),(4,iP i1)]) (fun i1 b2 v2=>[.Lm b3 v2 197 5 b2]) (fun bW i1 b2 v2=>ng s1 bW i1 b2=some r0) BIG 0 b1 v1 Z Z hf (fun _ _ _ hz=>bQ hz) ?_))⟩)))); intro bW i1 b2 v2 hf; rw [ng] at hf
 refine W 2 Z (AS Z (AO.bJ Z Z Z Z cu Z (J 1 Z (C hf Z (fun h2 hf=>?_) fun h2 hf=>?_))))
 ·
  refine B1 hf fun c1 h3 hf=>W 2 Z (AS Z (AO.fD h3 Z cu Z Z (U 4 Z (On 3 21 24 [0,3,4,5] ((c1.toNat:Int) == 92) Z Z Z Z (J 1 Z (C hf Z (fun h5 hf=>?_) fun h5 hf=>?_))))))
  · refine B1 hf fun x1 h6 hf=>W 4 Z (AS Z (AO.nL h6 Z cu Z ⟨_,Z⟩ ⟨_,Z⟩ ?_)); refine B1 hf fun x2 h7 hf=>AS Z (AO.kN h7 Z Z Z ?_); refine B1 hf fun b3 h8 hf=>CL Z (AC.one 0 Z (lN h8 (fun v3=>⟨_,Z,?_⟩))); exact N 3 Z ⟨(bS (i1 + 1)),b3,v3,Z,Z,Z,hf⟩
  refine V 3 Z (C hf Z (fun h9 hf=>?_) fun h9 hf=>?_)
  · refine B1 hf fun b4 h10 hf=>W 0 Z (CL Z (AC.one 0 Z (lN h10 (fun v4=>⟨_,Z,?_⟩)))); exact N 3 Z ⟨(bS (i1 + 1)),b4,v4,Z,Z,Z,hf⟩
  refine V 3 Z (C hf Z (fun h11 hf=>?_) fun h11 hf=>?_)
  · refine B1 hf fun b5 h12 hf=>W 0 Z (CL Z (AC.one 0 Z (lN h12 (fun v5=>⟨_,Z,?_⟩)))); exact N 3 Z ⟨(bS (i1 + 1)),b5,v5,Z,Z,Z,hf⟩
  refine W 3 Z (On 3 43 46 [0,3,4,5] (decide (126 < (c1.toNat:Int))) Z Z Z Z (J 1 Z (C hf Z (fun kg hf=>?_) fun kg hf=>?_)))
  ·
   refine AW.draw 14 mixed (by kernel_rfl) Z ?_; refine Ev.cs aP 1 Z (Ev.cons Z Z Z (AO.u8_quo c1 16 Z Z Z Z Z (by decide) zg) ?_); refine Ev.cs aP 1 Z (Ev.cons Z Z Z (AO.u8_quo c1 16 Z Z Z Z Z (by decide) zg) ?_); refine Ev.cons Z Z Z (AO.ada (c1 / 16) 1 Z Z Z Z Z zg) ?_; refine B1 hf fun x3 kC hf=>Ev.cons Z Z Z (AO.nL kC Z cu Z ⟨_,Z⟩ ⟨_,Z⟩ zg) ?_; refine B1 hf fun x4 h16 hf=>Ev.cons Z Z Z (AO.kN h16 Z Z Z zg) (Ev.cs aP 1 Z (Ev.cons Z Z Z (AO.Vw c1 16 Z Z Z Z Z (by decide) zg) ?_))
   refine Ev.cs aP 1 Z (Ev.cons Z Z Z (AO.Vw c1 16 Z Z Z Z Z (by decide) zg) ?_); refine Ev.cons Z Z Z (AO.ada (c1 % 16) 1 Z Z Z Z Z zg) ?_; refine B1 hf fun x5 mQ hf=>Ev.cons Z Z Z (AO.nL mQ Z cu Z ⟨_,Z⟩ ⟨_,Z⟩ zg) ?_; refine B1 hf fun x6 h18 hf=>Ev.cons Z Z Z (AO.kN h18 Z Z Z zg) (Ev.nil ?_); show AR _ _ _ _ _ _ _ _
   refine B1 hf fun b6 h19 hf=>CL Z (AC.one 0 Z (lN h19 (fun v6=>⟨_,Z,?_⟩))); exact N 3 Z ⟨(bS (i1 + 1)),b6,v6,Z,Z,Z,hf⟩
  refine B1 hf fun b7 h20 hf=>W 1 Z (CL Z (AC.one 0 Z (iy h20 (fun v7=>⟨_,Z,?_⟩)))); exact N 3 Z ⟨(bS (i1 + 1)),b7,v7,Z,Z,Z,hf⟩
 replace hf:=(aJ _).trans hf; refine B1 hf fun b8 h21 hf=>W 0 Z (CL Z (AC.one 0 Z (iy h21 (fun v8=>⟨_,Z,(U 0 Z (CL Z (AC.Pv 0 Z (CG ?_))))⟩)))); cases hf; exact N 1 Z (Y Z h)

section
variable [Ay]

abbrev wZ (gD:aj→Option Str):Prop:=∀ (fV:aj) {aU:Str},gD fV=some aU→∀ {τ:List bE} {Q:eZ→List bE→Prop} (h:Q (.ret (.str aU)) τ),PC 68 [.agg (aS fV)] τ Q
abbrev CK (dL:aj→Int→Option Str):Prop:=∀ (fV:aj) (nJ:Int) {aU:Str},dL fV nJ=some aU→∀ {τ:List bE} {Q:eZ→List bE→Prop} (h:Q (.ret (.str aU)) τ),PC 117 [.agg (aS fV),iP nJ] τ Q
abbrev Bg (gU:aj→Option Str):Prop:=∀ (fV:aj) {aU:Str},gU fV=some aU→∀ {τ:List bE} {Q:eZ→List bE→Prop} (h:Q (.ret (.str aU)) τ),PC 118 [.agg (aS fV)] τ Q
theorem OX (gD) (tH:wZ gD) (dL) (iM:CK dL) (gU) (sw:Bg gU) (e1:aj) {r0:Str} (hf:BU gD dL gU e1=some r0) (h:Q (.ret (.str r0)) τ):PC 68 [.agg (aS e1)] τ Q:=by
 unfold BU at hf; refine BN 121 [.tmp 2] [0] Tryz.func68 Z Z Z Z Z (V 6 Z (C hf Z (fun h1 hf=>?_) fun h1 hf=>?_))
 · replace hf:=(aJ _).trans hf; refine B1 hf fun x1 h2 hf=>W 2 Z (CL Z (ML _ h2 ?_)); cases hf; exact N 1 Z (Y Z h)
 refine V 2 Z (C hf Z (fun h3 hf=>?_) fun h3 hf=>?_)
 · cases hf; exact M 3 Z (Y Z h)
 refine V 2 Z (C hf Z (fun h4 hf=>?_) fun h4 hf=>?_)
 ·
  refine V 0 Z (AW.draw 10 mixed (by kernel_rfl) Z ?_); refine Ev.cs aP 2 Z ?_; refine B1 hf fun e2 h5 hf=>Ev.cons Z Z Z (AO.aM h5 Z Z (aj.aB _) Z fM (aj.aG _) Z zg) (Ev.cs aP 1 Z ?_); refine B1 hf fun x2 h6 hf=>Ev.cons Z Z Z (AO.call Z _ Z Z Dq (iM _ _ h6 zg)) ?_; refine B1 hf fun x3 h7 hf=>Ev.cons Z Z Z (AO.kN h7 Z Z Z zg) (Ev.cs aP 2 Z ?_); replace hf:=(aJ _).trans hf; refine B1 hf fun x4 h8 hf=>Ev.cons Z Z Z (AO.kN h8 Z Z Z zg) (Ev.cs aP 1 Z (Ev.nil ?_))
  show AR _ _ _ _ _ _ _ _
  cases hf; exact N 0 Z (Y Z h)
 refine V 2 Z (C hf Z (fun h9 hf=>?_) fun h9 hf=>?_)
 ·
  refine V 0 Z (AW.draw 14 mixed (by kernel_rfl) Z ?_); refine Ev.cs aP 2 Z ?_; refine B1 hf fun e3 h10 hf=>Ev.cons Z Z Z (AO.aM h10 Z Z (aj.aB _) Z fM (aj.aG _) Z zg) (Ev.cs aP 1 Z ?_); refine B1 hf fun x5 h11 hf=>Ev.cons Z Z Z (AO.call Z _ Z Z Dq (iM _ _ h11 zg)) ?_; refine B1 hf fun x6 h12 hf=>Ev.cons Z Z Z (AO.kN h12 Z Z Z zg) (Ev.cs aP 2 Z ?_); refine B1 hf fun e4 jq hf=>Ev.cons Z Z Z (AO.aM jq Z Z (aj.aB _) Z fM (aj.aG _) Z zg) (Ev.cs aP 1 Z ?_)
  refine B1 hf fun x7 kg hf=>Ev.cons Z Z Z (AO.call Z _ Z Z Dq (iM _ _ kg zg)) ?_; refine B1 hf fun x8 kC hf=>Ev.cons Z Z Z (AO.kN kC Z Z Z zg) ?_; replace hf:=(aJ _).trans hf; refine B1 hf fun x9 h16 hf=>Ev.cons Z Z Z (AO.kN h16 Z Z Z zg) (Ev.cs aP 1 Z (Ev.nil ?_)); show AR _ _ _ _ _ _ _ _
  cases hf; exact N 0 Z (Y Z h)
 refine V 2 Z (C hf Z (fun mQ hf=>?_) fun mQ hf=>?_)
 ·
  refine V 0 Z (AW.draw 8 mixed (by kernel_rfl) Z ?_); refine Ev.cs aP 2 Z ?_; refine B1 hf fun CO h18 hf=>Ev.cons Z Z Z (AO.kN h18 Z Z Z zg) (Ev.cs aP 1 Z ?_); refine B1 hf fun KP h19 hf=>Ev.cons Z Z Z (AO.call Z _ Z Z ah0 (sw _ h19 zg)) ?_; refine B1 hf fun TU h20 hf=>Ev.cons Z Z Z (AO.kN h20 Z Z Z zg) ?_; replace hf:=(aJ _).trans hf; refine B1 hf fun Sv h21 hf=>Ev.cons Z Z Z (AO.kN h21 Z Z Z zg) (Ev.cs aP 1 Z (Ev.nil ?_)); show AR _ _ _ _ _ _ _ _
  cases hf; exact N 0 Z (Y Z h)
 refine V 2 Z (C hf Z (fun h22 hf=>?_) fun h22 hf=>?_)
 ·
  refine V 0 Z (AW.draw 9 mixed (by kernel_rfl) Z ?_); refine Ev.cs aP 4 Z ?_; refine B1 hf fun e5 h23 hf=>Ev.cons Z Z Z (AO.aM h23 Z Z (aj.aB _) Z fM (aj.aG _) Z zg) (Ev.cs aP 1 Z ?_); refine B1 hf fun Vo Ku hf=>Ev.cons Z Z Z (AO.call Z _ Z Z Dq (iM _ _ Ku zg)) ?_; replace hf:=(aJ _).trans hf; refine B1 hf fun x15 Sw hf=>Ev.cons Z Z Z (AO.kN Sw Z Z Z zg) (Ev.cs aP 1 Z (Ev.nil ?_)); show AR _ _ _ _ _ _ _ _
  cases hf; exact N 0 Z (Y Z h)
 refine V 2 Z (C hf Z (fun PI hf=>?_) fun PI hf=>?_)
 ·
  refine B1 hf fun n1 h27 hf=>W 2 Z (CL Z (tO _ h27 (J 5 Z (C hf Z (fun Xb hf=>?_) fun Xb hf=>?_))))
  ·
   refine V 3 Z (AW.draw 20 mixed (by kernel_rfl) Z ?_); refine Ev.cs aP 2 Z ?_; refine B1 hf fun e6 Te hf=>Ev.cons Z Z Z (AO.aM Te Z Z (aj.aB _) Z fM (aj.aG _) Z zg) (Ev.cs aP 2 Z ?_); refine B1 hf fun Xh h30 hf=>Ev.cons Z Z Z (AO.call Z _ Z Z Dq (iM _ _ h30 zg)) ?_; refine B1 hf fun x17 h31 hf=>Ev.cons Z Z Z (AO.kN h31 Z Z Z zg) (Ev.cs aP 2 Z ?_); refine B1 hf fun x18 h32 hf=>Ev.cons Z Z Z (AO.kN h32 Z Z Z zg) ?_
   refine B1 hf fun x19 O9 hf=>Ev.cons Z Z Z (AO.kN O9 Z Z Z zg) (Ev.cs aP 2 Z ?_); refine B1 hf fun e7 h34 hf=>Ev.cons Z Z Z (AO.aM h34 Z Z (aj.aB _) Z fM (aj.aG _) Z zg) (Ev.cs aP 3 Z ?_); refine B1 hf fun x20 h35 hf=>Ev.cons Z Z Z (AO.call Z _ Z Z Dq (iM _ _ h35 zg)) ?_; replace hf:=(aJ _).trans hf; refine B1 hf fun x21 h36 hf=>Ev.cons Z Z Z (AO.kN h36 Z Z Z zg) (Ev.cs aP 1 Z (Ev.nil ?_)); show AR _ _ _ _ _ _ _ _
   cases hf; exact N 0 Z (Y Z h)
  refine V 0 Z (AW.draw 20 mixed (by kernel_rfl) Z ?_); refine Ev.cs aP 2 Z ?_; refine B1 hf fun e8 h37 hf=>Ev.cons Z Z Z (AO.aM h37 Z Z (aj.aB _) Z fM (aj.aG _) Z zg) (Ev.cs aP 2 Z ?_); refine B1 hf fun x22 h38 hf=>Ev.cons Z Z Z (AO.call Z _ Z Z Dq (iM _ _ h38 zg)) ?_; refine B1 hf fun x23 h39 hf=>Ev.cons Z Z Z (AO.kN h39 Z Z Z zg) (Ev.cs aP 2 Z ?_); refine B1 hf fun x24 h40 hf=>Ev.cons Z Z Z (AO.kN h40 Z Z Z zg) ?_
  refine B1 hf fun x25 h41 hf=>Ev.cons Z Z Z (AO.kN h41 Z Z Z zg) (Ev.cs aP 2 Z ?_); refine B1 hf fun e9 h42 hf=>Ev.cons Z Z Z (AO.aM h42 Z Z (aj.aB _) Z fM (aj.aG _) Z zg) (Ev.cs aP 3 Z ?_); refine B1 hf fun x26 h43 hf=>Ev.cons Z Z Z (AO.call Z _ Z Z Dq (iM _ _ h43 zg)) ?_; replace hf:=(aJ _).trans hf; refine B1 hf fun x27 h44 hf=>Ev.cons Z Z Z (AO.kN h44 Z Z Z zg) (Ev.cs aP 1 Z (Ev.nil ?_)); show AR _ _ _ _ _ _ _ _
  cases hf; exact N 0 Z (Y Z h)
 refine V 2 Z (C hf Z (fun h45 hf=>?_) fun h45 hf=>?_)
 ·
  refine V 0 Z (AW.draw 20 mixed (by kernel_rfl) Z ?_); refine Ev.cs aP 2 Z ?_; refine B1 hf fun e10 h46 hf=>Ev.cons Z Z Z (AO.aM h46 Z Z (aj.aB _) Z fM (aj.aG _) Z zg) (Ev.cs aP 1 Z ?_); refine B1 hf fun x28 h47 hf=>Ev.cons Z Z Z (AO.call Z _ Z Z Dq (iM _ _ h47 zg)) ?_; refine B1 hf fun x29 h48 hf=>Ev.cons Z Z Z (AO.kN h48 Z Z Z zg) (Ev.cs aP 2 Z ?_); refine B1 hf fun e11 h49 hf=>Ev.cons Z Z Z (AO.aM h49 Z Z (aj.aB _) Z fM (aj.aG _) Z zg) (Ev.cs aP 1 Z ?_)
  refine B1 hf fun x30 h50 hf=>Ev.cons Z Z Z (AO.call Z _ Z Z Dq (iM _ _ h50 zg)) ?_; refine B1 hf fun x31 h51 hf=>Ev.cons Z Z Z (AO.kN h51 Z Z Z zg) ?_; refine B1 hf fun x32 h52 hf=>Ev.cons Z Z Z (AO.kN h52 Z Z Z zg) (Ev.cs aP 2 Z ?_); refine B1 hf fun e12 h53 hf=>Ev.cons Z Z Z (AO.aM h53 Z Z (aj.aB _) Z fM (aj.aG _) Z zg) (Ev.cs aP 1 Z ?_); refine B1 hf fun x33 h54 hf=>Ev.cons Z Z Z (AO.call Z _ Z Z Dq (iM _ _ h54 zg)) ?_
  replace hf:=(aJ _).trans hf; refine B1 hf fun x34 h55 hf=>Ev.cons Z Z Z (AO.kN h55 Z Z Z zg) (Ev.cs aP 1 Z (Ev.nil ?_)); show AR _ _ _ _ _ _ _ _
  cases hf; exact N 0 Z (Y Z h)
 refine V 2 Z (C hf Z (fun h56 hf=>?_) fun h56 hf=>?_)
 · refine B1 hf fun x35 h57 hf=>W 1 Z (CL Z (sw _ h57 ?_)); refine B1 hf fun x36 h58 hf=>AS Z (AO.kN h58 Z Z Z ?_); replace hf:=(aJ _).trans hf; refine B1 hf fun x37 h59 hf=>AS Z (AO.kN h59 Z Z Z ?_); cases hf; exact N 1 Z (Y Z h)
 refine B1 hf fun x38 h60 hf=>W 1 Z (CL Z (sw _ h60 ?_)); refine B1 hf fun x39 h61 hf=>AS Z (AO.kN h61 Z Z Z ?_); replace hf:=(aJ _).trans hf; refine B1 hf fun x40 h62 hf=>AS Z (AO.kN h62 Z Z Z ?_); cases hf; exact N 1 Z (Y Z h)
theorem Vs (gD) (tH:wZ gD) (dL) (iM:CK dL) (gU) (sw:Bg gU) (e1:aj) (JY:Int) {r0:Str} (hf:Gz gD dL gU e1 JY=some r0) (h:Q (.ret (.str r0)) τ):PC 117 [.agg (aS e1),iP JY] τ Q:=by
 unfold Gz at hf; refine BN 15 [.tmp 4] [0,1] Tryz.func117 Z Z Z Z Z ?_; refine B1 hf fun x1 h1 hf=>W 3 Z (CL Z (RZ _ h1 (J 2 Z (C hf Z (fun h2 hf=>?_) fun h2 hf=>?_))))
 · refine B1 hf fun x2 h3 hf=>W 1 Z (CL Z (tH _ h3 ?_)); refine B1 hf fun x3 h4 hf=>AS Z (AO.kN h4 Z Z Z ?_); replace hf:=(aJ _).trans hf; refine B1 hf fun x4 h5 hf=>AS Z (AO.kN h5 Z Z Z ?_); cases hf; exact N 1 Z (Y Z h)
 replace hf:=(aJ _).trans hf; refine B1 hf fun x5 h6 hf=>W 1 Z (CL Z (tH _ h6 ?_)); cases hf; exact N 1 Z (Y Z h)
theorem SI (gD) (tH:wZ gD) (dL) (iM:CK dL) (gU) (sw:Bg gU) (e1:aj) {r0:Str} (hf:E_ gD dL gU e1=some r0) (h:Q (.ret (.str r0)) τ):PC 118 [.agg (aS e1)] τ Q:=by
 unfold E_ at hf; refine BN 36 [.tmp 2] [0] Tryz.func118 Z Z Z Z Z (W 5 Z (AS Z (AO.aL (l:=e1.args) Z Z Z Z fM Z (aj.aB _) ?_)))
 refine J 1 Z (AW.row 1 9 (Vf (fun nO v1 i1=>[(1,.ref (aS e1)),(3,.own v1 (List.map ko nO)),(8,.list (aj.bn e1.args)),(9,iP (e1.args.length:Int)),(10,iP i1)]) (fun nO v1 i1=>[.row v1 (List.map ko nO).length 1 9]) (fun bW nO v1 i1=>uI dL e1 bW nO i1=some r0) BIG [] (.slice none 0 0) 0 Z Z hf (fun _ _ _ hz=>bQ hz) ?_)); intro bW nO v1 i1 hf; rw [uI] at hf; refine V 1 Z (C hf Z (fun h1 hf=>?_) fun h1 hf=>?_)
 ·
  refine B1 hf fun e2 h2 hf=>W 1 Z (AS Z (AO.aM h2 Z Z (aj.aB _) Z fM (aj.aG _) Z (U 1 Z (AS Z (AO.aH Z kS (fun b5=>?_)))))); refine B1 hf fun s1 h3 hf=>Rr 3 [0,0] Z Z (CL Z (iM _ _ h3 (J 4 Z (C hf Z (fun h4 hf=>?_) fun h4 hf=>?_))))
  ·
   refine B1 hf fun e3 h5 hf=>W 3 Z (AS Z (AO.aM h5 Z Z Z Z dO Z Z ?_)); refine B1 hf fun x1 h6 hf=>U 1 Z (CL Z (TM _ h6 ?_)); refine B1 hf fun x2 h7 hf=>AS Z (AO.kN h7 Z Z Z ?_); refine B1 hf fun s2 h8 hf=>U 1 Z (AS Z (AO.kN h8 Z Z Z (U 3 Z (AS Z (AO.bq (List.map ko ([s2]:List Str)) Z kU Z Z Z Z ?_))))); refine B1 hf fun KT h9 hf=>AS Z (AO.eP (i:=1) (l:=nO) (m:=([s2]:List Str)) h9 Z Z Z Z Z Z Z kU dO Z Z Z (fun _=>Z) (fun _=>Z) (by decide) (fun v2 s3 hs3=>?_))
   cases hs3; refine eU 3 Z (AR.drop1 ?_); exact N 0 Z ⟨KT,v2,(bS (i1 + 1)),Z,Z,Z,hf⟩
  refine W 2 Z (AS Z (AO.bq (List.map ko ([s1]:List Str)) Z kU Z Z Z Z ?_)); refine B1 hf fun KS h10 hf=>AS Z (AO.eP (i:=1) (l:=nO) (m:=([s1]:List Str)) h10 Z Z Z Z Z Z Z kU dO Z Z Z (fun _=>Z) (fun _=>Z) (by decide) (fun v3 s4 hs4=>?_)); cases hs4; refine eU 3 Z (AR.drop1 ?_); exact N 0 Z ⟨KS,v3,(bS (i1 + 1)),Z,Z,Z,hf⟩
 replace hf:=(aJ _).trans hf; refine B1 hf fun x3 h11 hf=>W 1 Z (CL Z (zy _ _ h11 ?_)); cases hf; exact N 1 Z (Y Z h)
theorem BX :∀ k:Nat,(wZ (kQ k))∧(CK (nX k))∧(Bg (mH k)):=by
 intro k
 induction k with
 | zero=>exact ⟨fun _ _ hz=>by first | cases hz | (unfold kQ at hz; cases hz),fun _ _ _ hz=>by first | cases hz | (unfold nX at hz; cases hz),fun _ _ hz=>by first | cases hz | (unfold mH at hz; cases hz)⟩
 | succ k ih=>exact ⟨fun fV aU hz τ Q hq=>OX (kQ k) ih.1 (nX k) ih.2.1 (mH k) ih.2.2 fV hz hq,fun fV nJ aU hz τ Q hq=>Vs (kQ k) ih.1 (nX k) ih.2.1 (mH k) ih.2.2 fV nJ hz hq,fun fV aU hz τ Q hq=>SI (kQ k) ih.1 (nX k) ih.2.1 (mH k) ih.2.2 fV hz hq⟩
theorem Pj (fV:aj) {aU:Str} (hf:Ko fV=some aU) (h:Q (.ret (.str aU)) τ):PC 68 [.agg (aS fV)] τ Q:=
 ((BX BIG).1) fV hf h
theorem agj (fV:aj) (nJ:Int) {aU:Str} (hf:ZU fV nJ=some aU) (h:Q (.ret (.str aU)) τ):PC 117 [.agg (aS fV),iP nJ] τ Q:=
 ((BX BIG).2.1) fV nJ hf h
theorem afa (fV:aj) {aU:Str} (hf:X4 fV=some aU) (h:Q (.ret (.str aU)) τ):PC 118 [.agg (aS fV)] τ Q:=
 ((BX BIG).2.2) fV hf h
end

section
variable [Ay]
theorem TI (e1:aj) {r0:Str} (hf:I7 e1=some r0) (h:Q (.ret (.str r0)) τ):PC 34 [.agg (aS e1)] τ Q:=by
 unfold I7 at hf; refine BN 8 [.tmp 2] [0] Tryz.func34 Z Z Z Z Z ?_; refine B1 hf fun x1 h1 hf=>W 3 Z (CL Z (qY _ h1 (J 1 Z (C hf Z (fun h2 hf=>?_) fun h2 hf=>?_))))
 · cases hf; exact M 1 Z (Y Z h)
 replace hf:=(aJ _).trans hf; refine B1 hf fun x2 h3 hf=>W 1 Z (CL Z (Pj _ h3 ?_)); cases hf; exact N 1 Z (Y Z h)
end

section
variable [Ay]
theorem iF {r0:Bool} (hf:iI=some r0) (h:Q (.ret (.bool r0)) τ):PC 12 [] τ Q:=by
 unfold iI at hf; refine BN 94 [.tmp 0] [] Tryz.func12 rfl rfl rfl rfl rfl (W 3 rfl (AS rfl (AO.bq (List.map av.cells [(av.mk ([98]:Str) (ah.mk 2 false 3 ([]:Str) [] []))]) rfl Cg rfl rfl rfl (by first | rfl | simp only [List.map,av.aG]) ?_))); obtain ⟨s1,e1,h1,hf⟩:=aY hf; refine U 2 Z (CL Z (rH _ _ h1 ?_)); obtain ⟨t1,f1,h2,hf⟩:=aY hf; refine U 6 Z (CL Z (rH _ _ h2 ?_)); obtain ⟨u1,g1,h3,hf⟩:=aY hf; refine U 6 Z (CL Z (rH _ _ h3 ?_))
 obtain ⟨x1,hx1,h4,hf⟩:=aY hf; refine U 6 Z (CL Z (rH _ _ h4 ?_)); obtain ⟨x2,xO,h5,hf⟩:=aY hf; refine U 6 Z (CL Z (rH _ _ h5 ?_)); obtain ⟨x3,x4,m1,h6,hf⟩:=sN hf; refine U 5 Z (CL Z (JB _ h6 (U 4 Z (AS Z (AO.aH Z kS (fun b12=>(Rr 6 [0] Z Z (An 3 50 53 [1,4,5,6,7,9,11,12,14] (e1 == 0) Z Z Z Z (U 1 Z (An 3 54 57 [1,5,6,7,9,11,12,14] (t1 == ([91,45,51,44,32,45,49,93]:Str)) Z Z Z Z ?_))))))))))
 refine U 1 Z (An 3 58 61 [1,6,7,9,11,12,14] (f1 == 0) Z Z Z Z (U 1 Z (An 3 62 65 [1,7,9,11,12,14] (u1 == ([102,97,108,115,101]:Str)) Z Z Z Z (U 1 Z (An 3 66 69 [1,9,11,12,14] (g1 == 0) Z Z Z Z (U 1 Z (An 3 70 73 [1,11,12,14] (hx1 == 10) Z Z Z Z ?_))))))); refine U 1 Z (An 3 74 77 [1,12,14] (xO == 12) Z Z Z Z (U 1 Z (An 3 78 81 [1,12] (m1 == 0) Z Z Z Z ?_))); refine B1 hf fun b1 h16 hf=>U 1 Z (AR.eX 6 82 88 true [1] b1 Z Z (fun kC=>?_) (fun kC=>?_) ?_)
 · replace h16:=eD kC h16; refine Is 82 kC Z (GO Z (AO.bV (i:=0) Z Z Z kT Z Z ?_)); obtain ⟨x5,mQ,h16⟩:=aN h16; refine U 1 Z (GO Z (AO.call Z _ Z Z agQ (JE _ _ mQ ?_))); obtain ⟨x6,h18,h16⟩:=aN h16; refine GO Z (AO.call Z _ Z Z ajy (TI _ h18 ?_)); obtain rfl:=Option.some.inj h16; exact eU 2 Z (En [88,1] Z)
 · replace h16:=eF kC h16; refine Is 82 kC Z ?_; obtain rfl:=Option.some.inj h16; exact eU 6 Z (En [88,1] Z)
 replace hf:=(aJ _).trans hf; refine B1 hf fun b2 h20 hf=>U 1 Z (AR.eX 4 89 93 true [] b2 Z Z (fun h19=>?_) (fun h19=>?_) ?_)
 · replace h20:=eD h19 h20; refine Is 89 h19 Z ?_; obtain ⟨x7,h21,h20⟩:=aN h20; refine U 1 Z (GO Z (AO.call Z _ Z Z agT (Av _ h21 ?_))); obtain rfl:=Option.some.inj h20; exact eU 2 Z (En [93] Z)
 · replace h20:=eF h19 h20; refine Is 89 h19 Z ?_; obtain rfl:=Option.some.inj h20; exact eU 4 Z (En [93] Z)
 cases hf; exact N 1 Z (Y Z h)
end

theorem WU (c1:UInt8) {r0:Bool} (hf:Gs c1=some r0) (h:Q (.ret (.bool r0)) τ):PC 141 [.int .u8 (c1.toNat:Int)] τ Q:=by
 unfold Gs at hf; refine BN 21 [.tmp 2] [0] Tryz.func141 Z Z Z Z Z (W 4 Z (An 3 5 8 [0] (decide ((c1.toNat:Int)≤122)) Z Z Z Z (U 1 Z (AR.or 7 9 16 [0] (x:=((decide (65≤(c1.toNat:Int))) && (decide ((c1.toNat:Int)≤90)))) Z Z (fun h2=>?_) (fun h2=>?_) ?_))))
 · refine Is 9 h2 Z (U 3 Z (An 3 12 15 [0,9] (decide ((c1.toNat:Int)≤90)) Z Z Z Z ?_)); exact eU 1 Z (En [16,0] Z)
 · refine Is 9 h2 Z ?_; exact eU 7 Z (En [16,0] Z)
 refine U 1 Z (On 3 17 20 [] ((c1.toNat:Int) == 95) Z Z Z Z ?_); cases hf; exact N 1 Z (Y Z h)

theorem OC (c1:UInt8) {r0:Bool} (hf:zU c1=some r0) (h:Q (.ret (.bool r0)) τ):PC 142 [.int .u8 (c1.toNat:Int)] τ Q:=by
 unfold zU at hf; refine BN 9 [.tmp 2] [0] Tryz.func142 Z Z Z Z Z (W 4 Z (An 3 5 8 [] (decide ((c1.toNat:Int)≤57)) Z Z Z Z ?_)); cases hf; exact N 1 Z (Y Z h)

theorem aas (s1:Str) {r0:Bool} (hf:IU s1=some r0) (h:Q (.ret (.bool r0)) τ):PC 74 [.str s1] τ Q:=by
 unfold IU at hf; refine BN 34 [.tmp 2] [0] Tryz.func74 Z Z Z Z Z (V 2 Z (Gc (fun i1=>[(0,.str s1),(3,iP i1)]) (fun i1=>[]) (fun bW i1=>Bw s1 bW i1=some r0) BIG 0 Z Z hf (fun _ hz=>bQ hz) ?_)); intro bW i1 hf; rw [Bw] at hf; refine W 2 Z (AS Z (AO.bJ Z Z Z Z cu Z (J 1 Z (C hf Z (fun h1 hf=>?_) fun h1 hf=>?_))))
 ·
  refine B1 hf fun x1 h2 hf=>W 2 Z (AS Z (AO.fD h2 Z cu Z Z ?_)); refine B1 hf fun x2 h3 hf=>CL Z (WU _ h3 ?_); refine B1 hf fun b1 h5 hf=>U 2 Z (AR.eX 10 15 25 true [0,3] b1 Z Z (fun h4=>?_) (fun h4=>?_) ?_)
  ·
   replace h5:=eD h4 h5; refine Is 15 h4 Z ?_; replace h5:=(aJ _).trans h5; obtain ⟨b2,h7,h5⟩:=aN h5; refine U 3 Z (AR.eX 6 18 24 false [0,3,15] b2 Z Z (fun h6=>?_) (fun h6=>?_) ?_)
   · replace h7:=eF h6 h7; refine Is 18 h6 Z ?_; obtain ⟨x3,h8,h7⟩:=aN h7; refine U 2 Z (GO Z (AO.fD h8 Z cu Z Z ?_)); obtain ⟨x4,h9,h7⟩:=aN h7; refine GO Z (AO.call Z _ Z Z ahU (OC _ h9 ?_)); obtain rfl:=Option.some.inj h7; exact eU 2 Z (En [24,0,3,15] Z)
   · replace h7:=eD h6 h7; refine Is 18 h6 Z ?_; obtain rfl:=Option.some.inj h7; exact eU 6 Z (En [24,0,3,15] Z)
   obtain rfl:=Option.some.inj h5; exact eU 1 Z (En [25,0,3] Z)
  · replace h5:=eF h4 h5; refine Is 15 h4 Z ?_; obtain rfl:=Option.some.inj h5; exact eU 10 Z (En [25,0,3] Z)
  refine J 0 Z (C hf Z (fun h10 hf=>?_) fun h10 hf=>?_)
  · cases hf; exact M 1 Z (Y Z h)
  exact M 3 Z ⟨(bS (i1 + 1)),Z,Z,Z,hf⟩
 refine W 1 Z (AS Z (AO.bJ Z Z Z Z cu Z (U 2 Z (AR.and 4 29 33 [] (x:=(decide ((s1.length:Int)≤64))) Z Z (fun h11=>?_) (fun h11=>?_) ?_))))
 · refine Is 29 h11 Z (U 1 Z (GO Z (AO.bJ Z Z Z Z cu Z ?_))); exact eU 2 Z (En [33] Z)
 · refine Is 29 h11 Z ?_; exact eU 4 Z (En [33] Z)
 cases hf; exact N 1 Z (Y Z h)

theorem EP (s1:Str) {r0:Bool} (hf:xG s1=some r0) (h:Q (.ret (.bool r0)) τ):PC 39 [.str s1] τ Q:=by
 unfold xG at hf; refine BN 17 [.tmp 2] [0] Tryz.func39 Z Z Z Z Z ?_; refine B1 hf fun x1 h1 hf=>W 2 Z (CL Z (aas _ h1 (U 1 Z (An 3 5 8 [0] (!(s1 == ([116,114,117,101]:Str))) Z Z Z Z (U 1 Z (An 3 9 12 [0] (!(s1 == ([102,97,108,115,101]:Str))) Z Z Z Z (U 1 Z (An 3 13 16 [] (!(s1 == ([110,117,108,108]:Str))) Z Z Z Z ?_)))))))); cases hf; exact N 1 Z (Y Z h)

theorem Y1 (v1:ah) {r0:Bool} (hf:FR v1=some r0) (h:Q (.ret (.bool r0)) τ):PC 143 [.agg (aF v1)] τ Q:=by
 unfold FR at hf; refine BN 53 [.tmp 2] [0] Tryz.func143 Z Z Z Z Z (W 5 Z (An 4 5 9 [1] (v1.kind != 1) Z Z Z Z (U 1 Z (AR.or 9 10 19 [1] (x:=((v1.bZ != 0) && (v1.kind != 2))) Z Z (fun h2=>?_) (fun h2=>?_) ?_))))
 · refine Is 10 h2 Z (U 4 Z (An 4 14 18 [1,10] (v1.kind != 2) Z Z Z Z ?_)); exact eU 1 Z (En [19,1] Z)
 · refine Is 10 h2 Z ?_; exact eU 9 Z (En [19,1] Z)
 refine U 1 Z (AR.or 9 20 29 [1] (x:=((!(v1.bI == ([]:Str))) && (v1.kind != 3))) Z Z (fun h4=>?_) (fun h4=>?_) ?_)
 · refine Is 20 h4 Z (U 4 Z (An 4 24 28 [1,20] (v1.kind != 3) Z Z Z Z ?_)); exact eU 1 Z (En [29,1] Z)
 · refine Is 20 h4 Z ?_; exact eU 9 Z (En [29,1] Z)
 refine J 0 Z (C hf Z (fun h6 hf=>?_) fun h6 hf=>?_)
 · cases hf; exact M 1 Z (Y Z h)
 refine W 2 Z (AS Z (AO.aL (l:=v1.aI) Z Z Z Z dN Z (ah.aB _) (U 2 Z (An 4 34 38 [1] (v1.kind != 4) Z Z Z Z (U 1 Z (An 4 39 43 [1] (v1.kind != 5) Z Z Z Z (J 0 Z (C hf Z (fun h9 hf=>?_) fun h9 hf=>?_))))))))
 · cases hf; exact M 1 Z (Y Z h)
 refine W 2 Z (AS Z (AO.aL (l:=v1.keys) Z Z Z Z dO Z Z (U 2 Z (On 4 48 52 [] (v1.kind == 5) Z Z Z Z ?_)))); cases hf; exact N 1 Z (Y Z h)

theorem U5 (s1:Str) {r0:Bool} (hf:J3 s1=some r0) (h:Q (.ret (.bool r0)) τ):PC 212 [.str s1] τ Q:=by
 unfold J3 at hf; refine BN 11 [.tmp 2] [0] Tryz.func212 Z Z Z Z Z (W 2 Z (AS Z (AO.bJ Z Z Z Z cu Z (U 2 Z (AR.and 4 6 10 [] (x:=(decide ((s1.length:Int)≤64))) Z Z (fun h1=>?_) (fun h1=>?_) ?_)))))
 · refine Is 6 h1 Z (U 1 Z (GO Z (AO.bJ Z Z Z Z cu Z ?_))); exact eU 2 Z (En [10] Z)
 · refine Is 6 h1 Z ?_; exact eU 4 Z (En [10] Z)
 cases hf; exact N 1 Z (Y Z h)

theorem BO (Kt:Bool) (Mr:Bool) {r0:Int} (hf:vF Kt Mr=some r0) (h:Q (.ret (iP r0)) τ):PC 154 [.bool Kt,.bool Mr] τ Q:=by
 unfold vF at hf; refine BN 7 [.tmp 4] [0,1] Tryz.func154 Z Z Z Z Z (V 2 Z (C hf Z (fun h1 hf=>?_) fun h1 hf=>?_))
 · cases hf; exact M 1 Z (Y Z h)
 refine V 1 Z (C hf Z (fun h2 hf=>?_) fun h2 hf=>?_)
 · cases hf; exact M 1 Z (Y Z h)
 cases hf; exact M 1 Z (Y Z h)

theorem Jz (c1:UInt8) {r0:Bool} (hf:CY c1=some r0) (h:Q (.ret (.bool r0)) τ):PC 155 [.int .u8 (c1.toNat:Int)] τ Q:=by
 unfold CY at hf; refine BN 9 [.tmp 2] [0] Tryz.func155 Z Z Z Z Z (W 4 Z (An 3 5 8 [] (decide ((c1.toNat:Int)≤57)) Z Z Z Z ?_)); cases hf; exact N 1 Z (Y Z h)

theorem U6 (s1:Str) (jI:Int) {r0:Int} (hf:L9 s1 jI=some r0) (h:Q (.ret (iP r0)) τ):PC 156 [.str s1,iP jI] τ Q:=by
 unfold L9 at hf; refine BN 18 [.tmp 4] [0,1] Tryz.func156 Z Z Z Z Z (V 1 Z (Gc (fun at2=>[(0,.str s1),(1,iP at2)]) (fun at2=>[]) (fun bW at2=>Dn s1 bW at2=some r0) BIG jI Z Z hf (fun _ hz=>bQ hz) ?_)); intro bW at2 hf; rw [Dn] at hf; refine W 2 Z (AS Z (AO.bJ Z Z Z Z cu Z ?_)); refine B1 hf fun b1 h2 hf=>U 2 Z (AR.eX 5 9 14 true [0,1] b1 Z Z (fun h1=>?_) (fun h1=>?_) ?_)
 · replace h2:=eD h1 h2; refine Is 9 h1 Z ?_; obtain ⟨x1,h3,h2⟩:=aN h2; refine U 2 Z (GO Z (AO.fD h3 Z cu Z Z ?_)); replace h2:=(aJ _).trans h2; obtain ⟨x2,h4,h2⟩:=aN h2; refine GO Z (AO.call Z _ Z Z adO (Jz _ h4 ?_)); obtain rfl:=Option.some.inj h2; exact eU 1 Z (En [14,0,1] Z)
 · replace h2:=eF h1 h2; refine Is 9 h1 Z ?_; obtain rfl:=Option.some.inj h2; exact eU 5 Z (En [14,0,1] Z)
 refine J 0 Z (C hf Z (fun h5 hf=>?_) fun h5 hf=>?_)
 · exact M 3 Z ⟨(bS (at2 + 1)),Z,Z,Z,hf⟩
 cases hf; exact M 2 Z (Y Z h)

theorem OD (s1:Str) {r0:Str} (hf:CX s1=some r0) (h:Q (.ret (.str r0)) τ):PC 221 [.str s1] τ Q:=by
 unfold CX at hf; refine BN 19 [.tmp 2] [0] Tryz.func221 Z Z Z Z Z (V 2 Z (Gc (fun i1=>[(0,.str s1),(3,iP i1)]) (fun i1=>[]) (fun bW i1=>vE s1 bW i1=some r0) BIG 0 Z Z hf (fun _ hz=>bQ hz) ?_)); intro bW i1 hf; rw [vE] at hf; refine W 2 Z (AS Z (AO.bJ Z Z Z Z cu Z ?_)); refine B1 hf fun b1 h2 hf=>U 2 Z (AR.eX 5 8 13 true [0,3] b1 Z Z (fun h1=>?_) (fun h1=>?_) ?_)
 · replace h2:=eD h1 h2; refine Is 8 h1 Z ?_; obtain ⟨x1,h3,h2⟩:=aN h2; refine U 2 Z (GO Z (AO.fD h3 Z cu Z Z ?_)); obtain rfl:=Option.some.inj h2; exact eU 2 Z (En [13,0,3] Z)
 · replace h2:=eF h1 h2; refine Is 8 h1 Z ?_; obtain rfl:=Option.some.inj h2; exact eU 5 Z (En [13,0,3] Z)
 refine J 0 Z (C hf Z (fun h4 hf=>?_) fun h4 hf=>?_)
 · exact M 3 Z ⟨(bS (i1 + 1)),Z,Z,Z,hf⟩
 replace hf:=(aJ _).trans hf; refine B1 hf fun x2 h5 hf=>W 2 Z (AS Z (AO.nL h5 Z cu Z ⟨_,Z⟩ Z ?_)); cases hf; exact N 1 Z (Y Z h)

theorem aav (a1:Str) (b1:Str) {r0:Int} (hf:IY a1 b1=some r0) (h:Q (.ret (iP r0)) τ):PC 157 [.str a1,.str b1] τ Q:=by
 unfold IY at hf; refine BN 48 [.tmp 4] [0,1] Tryz.func157 Z Z Z Z Z ?_; refine B1 hf fun x1 h1 hf=>W 2 Z (CL Z (OD _ h1 ?_)); refine B1 hf fun y1 h2 hf=>U 1 Z (CL Z (OD _ h2 (U 3 Z (AS Z (AO.bJ Z Z Z Z cu Z (U 1 Z (AS Z (AO.bJ Z Z Z Z cu Z (J 1 Z (C hf Z (fun h3 hf=>?_) fun h3 hf=>?_))))))))))
 · refine W 1 Z (AS Z (AO.bJ Z Z Z Z cu Z (U 1 Z (AS Z (AO.bJ Z Z Z Z cu Z (U 2 Z (AS Z (AO.bJ Z Z Z Z cu Z (U 1 Z (AS Z (AO.bJ Z Z Z Z cu Z ?_))))))))))); replace hf:=(aJ _).trans hf; refine B1 hf fun x2 h4 hf=>U 1 Z (CL Z (BO _ _ h4 ?_)); cases hf; exact N 1 Z (Y Z h)
 refine V 3 Z (C hf Z (fun h5 hf=>?_) fun h5 hf=>?_)
 · replace hf:=(aJ _).trans hf; refine B1 hf fun x3 h6 hf=>W 6 Z (CL Z (BO _ _ h6 ?_)); cases hf; exact N 1 Z (Y Z h)
 refine W 1 Z (AS Z (AO.bJ Z Z Z Z cu Z (U 1 Z (AS Z (AO.bJ Z Z Z Z cu Z (U 2 Z (AS Z (AO.bJ Z Z Z Z cu Z (U 1 Z (AS Z (AO.bJ Z Z Z Z cu Z ?_))))))))))); replace hf:=(aJ _).trans hf; refine B1 hf fun x4 h7 hf=>U 1 Z (CL Z (BO _ _ h7 ?_)); cases hf; exact N 1 Z (Y Z h)

theorem Bc (a1:Str) (b1:Str) {r0:Int} (hf:m_ a1 b1=some r0) (h:Q (.ret (iP r0)) τ):PC 82 [.str a1,.str b1] τ Q:=by
 unfold m_ at hf; refine BN 78 [.tmp 4] [0,1] Tryz.func82 Z Z Z Z Z (V 3 Z (Zf (fun i1 xO=>[(0,.str a1),(1,.str b1),(5,iP i1),(6,iP xO)]) (fun i1 xO=>[]) (fun bW i1 xO=>mZ a1 b1 bW i1 xO=some r0) BIG 0 0 Z Z hf (fun _ _ hz=>bQ hz) ?_)); intro bW i1 xO hf; rw [mZ] at hf; refine W 2 Z (AS Z (AO.bJ Z Z Z Z cu Z (U 2 Z (AR.and 5 14 19 [0,1,5,6] (x:=(decide (xO < (b1.length:Int)))) Z Z (fun h1=>?_) (fun h1=>?_) ?_))))
 · refine Is 14 h1 Z (U 2 Z (GO Z (AO.bJ Z Z Z Z cu Z ?_))); exact eU 2 Z (En [19,0,1,5,6] Z)
 · refine Is 14 h1 Z ?_; exact eU 5 Z (En [19,0,1,5,6] Z)
 refine J 0 Z (C hf Z (fun h2 hf=>?_) fun h2 hf=>?_)
 ·
  refine V 0 Z (AW.draw 16 mixed (by kernel_rfl) Z ?_); refine Ev.cs aP 2 Z ?_; refine B1 hf fun x1 h3 hf=>Ev.cons Z Z Z (AO.fD h3 Z cu Z Z zg) (Ev.cs aP 2 Z ?_); refine B1 hf fun x2 h4 hf=>Ev.cons Z Z Z (AO.fD h4 Z cu Z Z zg) (Ev.cs aP 3 Z ?_); refine B1 hf fun x3 h5 hf=>Ev.cons Z Z Z (AO.fD h5 Z cu Z Z zg) (Ev.cs aP 2 Z ?_); refine B1 hf fun x4 h6 hf=>Ev.cons Z Z Z (AO.fD h6 Z cu Z Z zg) (Ev.cs aP 1 Z ?_); refine B1 hf fun c1 h7 hf=>Ev.cons Z Z Z (AO.call Z _ Z Z ahN (BO _ _ h7 zg)) (Ev.cs aP 1 Z (Ev.nil ?_))
  show AR _ _ _ _ _ _ _ _
  refine B1 hf fun x5 h8 hf=>U 8 Z (AS Z (AO.fD h8 Z cu Z Z ?_)); refine B1 hf fun x6 h9 hf=>CL Z (Jz _ h9 ?_); refine B1 hf fun b2 h11 hf=>U 1 Z (AR.eX 5 43 48 true [0,1,5,6,7,8,9] b2 Z Z (fun h10=>?_) (fun h10=>?_) ?_)
  · replace h11:=eD h10 h11; refine Is 43 h10 Z ?_; obtain ⟨x7,h12,h11⟩:=aN h11; refine U 2 Z (GO Z (AO.fD h12 Z cu Z Z ?_)); replace h11:=(aJ _).trans h11; obtain ⟨x8,jq,h11⟩:=aN h11; refine GO Z (AO.call Z _ Z Z adO (Jz _ jq ?_)); obtain rfl:=Option.some.inj h11; exact eU 1 Z (En [48,0,1,5,6,7,8,9] Z)
  · replace h11:=eF h10 h11; refine Is 43 h10 Z ?_; obtain rfl:=Option.some.inj h11; exact eU 5 Z (En [48,0,1,5,6,7,8,9] Z)
  refine J 0 Z (C hf Z (fun kg hf=>?_) fun kg hf=>?_)
  ·
   refine B1 hf fun m1 kC hf=>W 2 Z (CL Z (U6 _ _ kC ?_)); refine B1 hf fun n1 h16 hf=>U 2 Z (CL Z (U6 _ _ h16 (J 2 Z (AW.draw 10 mixed (by kernel_rfl) Z ?_)))); refine Ev.cs aP 3 Z ?_; refine B1 hf fun x9 mQ hf=>Ev.cons Z Z Z (AO.nL mQ Z cu Z ⟨_,Z⟩ ⟨_,Z⟩ zg) (Ev.cs aP 3 Z ?_); refine B1 hf fun CO h18 hf=>Ev.cons Z Z Z (AO.nL h18 Z cu Z ⟨_,Z⟩ ⟨_,Z⟩ zg) ?_; refine B1 hf fun c2 h19 hf=>Ev.cons Z Z Z (AO.call Z _ Z Z ahM (aav _ _ h19 zg)) (Ev.cs aP 1 Z (Ev.nil ?_))
   show AR _ _ _ _ _ _ _ _
   refine J 2 Z (C hf Z (fun h20 hf=>?_) fun h20 hf=>?_)
   · cases hf; exact M 2 Z (Y Z h)
   exact M 4 Z ⟨m1,n1,Z,Z,Z,hf⟩
  refine V 2 Z (C hf Z (fun h21 hf=>?_) fun h21 hf=>?_)
  · cases hf; exact M 2 Z (Y Z h)
  exact M 4 Z ⟨(bS (i1 + 1)),(bS (xO + 1)),Z,Z,Z,hf⟩
 refine W 2 Z (AS Z (AO.bJ Z Z Z Z cu Z (U 3 Z (AS Z (AO.bJ Z Z Z Z cu Z ?_))))); replace hf:=(aJ _).trans hf; refine B1 hf fun KP h22 hf=>U 1 Z (CL Z (BO _ _ h22 ?_)); cases hf; exact N 1 Z (Y Z h)

theorem Ph (v1:ah) {r0:Bool} (hf:wB v1=some r0) (h:Q (.ret (.bool r0)) τ):PC 144 [.agg (aF v1)] τ Q:=by
 unfold wB at hf; refine BN 44 [.tmp 2] [0] Tryz.func144 Z Z Z Z Z (V 3 Z (Gc (fun i1=>[(1,.ref (aF v1)),(3,iP i1)]) (fun i1=>[]) (fun bW i1=>ow v1 bW i1=some r0) BIG 0 Z Z hf (fun _ hz=>bQ hz) ?_)); intro bW i1 hf; rw [ow] at hf; refine W 3 Z (AS Z (AO.aL (l:=v1.keys) Z Z Z Z dO Z Z (J 1 Z (C hf Z (fun h1 hf=>?_) fun h1 hf=>?_))))
 ·
  refine V 0 Z (AW.draw 26 mixed (by kernel_rfl) Z ?_); refine Ev.cs aP 3 Z ?_; refine B1 hf fun e1 h2 hf=>Ev.cons Z Z Z (AO.aM h2 Z Z Z Z dO Z Z zg) (Ev.cs aP 1 Z ?_); refine B1 hf fun x1 h3 hf=>Ev.cons Z Z Z (AO.call Z _ Z Z ahG (U5 _ h3 zg)) (Ev.cs aP 2 Z ?_); refine B1 hf fun b1 h5 hf=>Ev.eX hKA 18 18 36 false [1,3] (.bool b1) Z Z (fun h4=>?_) (fun h4=>?_) ?_
  ·
   replace h5:=eF h4 h5; refine Ev.is Yt 18 h4 Z (Ev.cs aP 3 Z ?_); replace h5:=(aJ _).trans h5; obtain ⟨b2,h7,h5⟩:=aN h5; refine Ev.eX Yt 14 21 35 true [1,3,18] (.bool b2) Z Z (fun h6=>?_) (fun h6=>?_) ?_
   ·
    replace h7:=eD h6 h7; refine Ev.is Yt 21 h6 Z (Ev.cs aP 4 Z ?_); obtain ⟨e2,h8,h7⟩:=aN h7; refine Ev.run Z Z Z Z Z Z Z (AO.aM h8 Z Z Z Z dO Z Z zg) (Ev.cs aP 4 Z ?_); obtain ⟨e3,h9,h7⟩:=aN h7; refine Ev.run Z Z Z Z Z Z Z (AO.aM h9 Z Z Z Z dO Z Z zg) (Ev.cs aP 1 Z ?_); obtain ⟨x2,h10,h7⟩:=aN h7; refine Ev.run Z Z Z Z Z Z Z (AO.call Z _ Z Z aa3 (Bc _ _ h10 zg)) (Ev.cs aP 1 Z ?_); obtain rfl:=Option.some.inj h7
    refine Ev.cs aP 1 Z ?_; exact Ev.nil (Less.settle (ps:=[35,1,3,18]) Z)
   · replace h7:=eF h6 h7; refine Ev.is Yt 21 h6 Z ?_; obtain rfl:=Option.some.inj h7; refine Ev.cs aP 14 Z ?_; exact Ev.nil (Less.settle (ps:=[35,1,3,18]) Z)
   obtain rfl:=Option.some.inj h5; refine Ev.cs aP 1 Z ?_; exact Ev.nil (Less.settle (ps:=[36,1,3]) Z)
  · replace h5:=eD h4 h5; refine Ev.is Yt 18 h4 Z ?_; obtain rfl:=Option.some.inj h5; refine Ev.cs aP 18 Z ?_; exact Ev.nil (Less.settle (ps:=[36,1,3]) Z)
  refine Ev.nil ?_; show AR _ _ _ _ _ _ _ _
  refine J 0 Z (C hf Z (fun h11 hf=>?_) fun h11 hf=>?_)
  · cases hf; exact M 1 Z (Y Z h)
  exact M 3 Z ⟨(bS (i1 + 1)),Z,Z,Z,hf⟩
 refine W 2 Z (AS Z (AO.aL (l:=v1.keys) Z Z Z Z dO Z Z (U 2 Z (AS Z (AO.aL (l:=v1.aI) Z Z Z Z dN Z (ah.aB _) ?_))))); cases hf; exact N 2 Z (Y Z h)


abbrev OT (mK:ah→Int→Option Int):Prop:=∀ (rZ:ah) (gI:Int) {aU:Int},mK rZ gI=some aU→∀ {τ:List bE} {Q:eZ→List bE→Prop} (h:Q (.ret (iP aU)) τ),PC 75 [.agg (aF rZ),iP gI] τ Q
theorem Xn (mK) (Tj:OT mK) (v1:ah) (bP:Int) {r0:Int} (hf:Et mK v1 bP=some r0) (h:Q (.ret (iP r0)) τ):PC 75 [.agg (aF v1),iP bP] τ Q:=by
 unfold Et at hf; refine BN 85 [.tmp 4] [0,1] Tryz.func75 Z Z Z Z Z (V 4 Z (C hf Z (fun h1 hf=>?_) fun h1 hf=>?_))
 · cases hf; exact M 1 Z (Y Z h)
 refine W 4 Z (On 4 12 16 [1,2] (decide (5 < v1.kind)) Z Z Z Z ?_); refine B1 hf fun b1 h4 hf=>U 1 Z (AR.eX 4 17 21 false [1,2] b1 Z Z (fun h3=>?_) (fun h3=>?_) ?_)
 · replace h4:=eF h3 h4; refine Is 17 h3 Z ?_; obtain ⟨x1,h5,h4⟩:=aN h4; refine U 1 Z (GO Z (AO.call Z _ Z Z ahT (Y1 _ h5 ?_))); obtain rfl:=Option.some.inj h4; exact eU 2 Z (En [21,1,2] Z)
 · replace h4:=eD h3 h4; refine Is 17 h3 Z ?_; obtain rfl:=Option.some.inj h4; exact eU 4 Z (En [21,1,2] Z)
 refine J 0 Z (C hf Z (fun h6 hf=>?_) fun h6 hf=>?_)
 · cases hf; exact M 1 Z (Y Z h)
 refine W 4 Z (On 4 25 29 [1,2] (decide (9007199254740992 < v1.bZ)) Z Z Z Z (J 0 Z (C hf Z (fun h8 hf=>?_) fun h8 hf=>?_)))
 · cases hf; exact M 1 Z (Y Z h)
 refine W 2 Z (AS Z (AO.bJ Z Z Z Z cu Z (U 2 Z (AR.or 5 34 39 [1,2] (x:=(decide (1024 < (v1.aI.length:Int)))) Z Z (fun h9=>?_) (fun h9=>?_) ?_))))
 · refine Is 34 h9 Z (U 2 Z (GO Z (AO.aL (l:=v1.aI) Z Z Z Z dN Z (ah.aB _) ?_))); exact eU 2 Z (En [39,1,2] Z)
 · refine Is 34 h9 Z ?_; exact eU 5 Z (En [39,1,2] Z)
 refine U 1 Z (AR.or 5 40 45 [1,2] (x:=(decide (1024 < (v1.keys.length:Int)))) Z Z (fun h10=>?_) (fun h10=>?_) ?_)
 · refine Is 40 h10 Z (U 2 Z (GO Z (AO.aL (l:=v1.keys) Z Z Z Z dO Z Z ?_))); exact eU 2 Z (En [45,1,2] Z)
 · refine Is 40 h10 Z ?_; exact eU 5 Z (En [45,1,2] Z)
 refine J 0 Z (C hf Z (fun h11 hf=>?_) fun h11 hf=>?_)
 · cases hf; exact M 1 Z (Y Z h)
 refine B1 hf fun b2 jq hf=>W 4 Z (AR.eX 4 49 53 true [1,2] b2 Z Z (fun h12=>?_) (fun h12=>?_) ?_)
 · replace jq:=eD h12 jq; refine Is 49 h12 Z ?_; obtain ⟨x2,kg,jq⟩:=aN jq; refine U 1 Z (GO Z (AO.call Z _ Z Z ahS (Ph _ kg ?_))); obtain rfl:=Option.some.inj jq; exact eU 2 Z (En [53,1,2] Z)
 · replace jq:=eF h12 jq; refine Is 49 h12 Z ?_; obtain rfl:=Option.some.inj jq; exact eU 4 Z (En [53,1,2] Z)
 refine J 0 Z (C hf Z (fun kC hf=>?_) fun kC hf=>?_)
 · cases hf; exact M 1 Z (Y Z h)
 refine W 4 Z (AR.and 5 57 62 [1,2] (x:=((v1.aI.length:Int) == 0)) Z Z (fun h16=>?_) (fun h16=>?_) ?_)
 · refine Is 57 h16 Z (U 2 Z (GO Z (AO.aL (l:=v1.aI) Z Z Z Z dN Z (ah.aB _) ?_))); exact eU 2 Z (En [62,1,2] Z)
 · refine Is 57 h16 Z ?_; exact eU 5 Z (En [62,1,2] Z)
 refine U 1 Z (An 3 63 66 [1,2] (bP == 16) Z Z Z Z (J 0 Z (C hf Z (fun h18 hf=>?_) fun h18 hf=>?_)))
 · cases hf; exact M 1 Z (Y Z h)
 refine V 1 Z (Gc (fun i1=>[(1,iP bP),(2,.ref (aF v1)),(5,iP i1)]) (fun i1=>[]) (fun bW i1=>yI mK v1 bP bW i1=some r0) BIG 0 Z Z hf (fun _ hz=>bQ hz) ?_); intro bW i1 hf; rw [yI] at hf; refine W 3 Z (AS Z (AO.aL (l:=v1.aI) Z Z Z Z dN Z (ah.aB _) (J 1 Z (C hf Z (fun h19 hf=>?_) fun h19 hf=>?_))))
 ·
  refine B1 hf fun e1 h20 hf=>W 3 Z (AS Z (AO.aM h20 Z Z (ah.aB _) Z dN (ah.aG _) Z ?_)); refine B1 hf fun e2 h21 hf=>U 3 Z (CL Z (Tj _ _ h21 (J 3 Z (C hf Z (fun h22 hf=>?_) fun h22 hf=>?_))))
  · cases hf; exact M 2 Z (Y Z h)
  exact M 3 Z ⟨(bS (i1 + 1)),Z,Z,Z,hf⟩
 cases hf; exact M 1 Z (Y Z h)
theorem Yd :∀ k:Nat,(OT (pV k)):=by
 intro k
 induction k with
 | zero=>exact fun _ _ _ hz=>by first | cases hz | (unfold pV at hz; cases hz)
 | succ k ih=>exact fun rZ gI aU hz τ Q hq=>Xn (pV k) ih rZ gI hz hq
theorem Y3 (rZ:ah) (gI:Int) {aU:Int} (hf:Ng rZ gI=some aU) (h:Q (.ret (iP aU)) τ):PC 75 [.agg (aF rZ),iP gI] τ Q:=
 ((Yd BIG)) rZ gI hf h

theorem ER (v1:ah) {r0:Int} (hf:xH v1=some r0) (h:Q (.ret (iP r0)) τ):PC 40 [.agg (aF v1)] τ Q:=by
 unfold xH at hf; refine BN 5 [.tmp 2] [0] Tryz.func40 Z Z Z Z Z ?_; replace hf:=(aJ _).trans hf; refine B1 hf fun x1 h1 hf=>W 3 Z (CL Z (Y3 _ _ h1 ?_)); cases hf; exact N 1 Z (Y Z h)

theorem NM (bK:List av) {r0:Int} (hf:Gq bK=some r0) (h:Q (.ret (iP r0)) τ):PC 17 [.list (List.map av.cells bK)] τ Q:=by
 unfold Gq at hf; refine BN 47 [.tmp 2] [0] Tryz.func17 Z Z Z Z Z (W 2 Z (AS Z (AO.aL (l:=bK) Z Z Z Z kW Z Z (J 1 Z (C hf Z (fun h1 hf=>?_) fun h1 hf=>?_)))))
 · cases hf; exact M 1 Z (Y Z h)
 refine V 1 Z (Gc (fun i1=>[(0,.list (List.map av.cells bK)),(3,iP i1)]) (fun i1=>[]) (fun bW i1=>uy bK bW i1=some r0) BIG 0 Z Z hf (fun _ hz=>bQ hz) ?_); intro bW i1 hf; rw [uy] at hf; refine W 2 Z (AS Z (AO.aL (l:=bK) Z Z Z Z kW Z Z (J 1 Z (C hf Z (fun h2 hf=>?_) fun h2 hf=>?_))))
 ·
  refine B1 hf fun e1 h3 hf=>W 2 Z (AS Z (AO.aM h3 Z Z Z Z kW (av.aG _) Z ?_)); refine B1 hf fun x1 h4 hf=>U 2 Z (CL Z (EP _ h4 (J 1 Z (C hf Z (fun h5 hf=>?_) fun h5 hf=>?_))))
  · cases hf; exact M 1 Z (Y Z h)
  refine B1 hf fun e2 h6 hf=>W 2 Z (AS Z (AO.aM h6 Z Z Z Z kW (av.aG _) Z ?_)); refine B1 hf fun e3 h7 hf=>U 2 Z (CL Z (ER _ h7 (J 3 Z (C hf Z (fun h8 hf=>?_) fun h8 hf=>?_))))
  · cases hf; exact M 2 Z (Y Z h)
  refine V 1 Z (Gc (fun xO=>[(0,.list (List.map av.cells bK)),(3,iP i1),(5,iP xO)]) (fun xO=>[]) (fun EB xO=>zT bK i1 (uy bK bW) EB xO=some r0) BIG 0 Z Z hf (fun _ hz=>bQ hz) ?_); intro EB xO hf; rw [zT] at hf; refine V 3 Z (C hf Z (fun h9 hf=>?_) fun h9 hf=>?_)
  ·
   refine V 0 Z (AW.draw 11 mixed (by kernel_rfl) Z ?_); refine Ev.cs aP 2 Z ?_; refine B1 hf fun e4 h10 hf=>Ev.cons Z Z Z (AO.aM h10 Z Z Z Z kW (av.aG _) Z zg) (Ev.cs aP 4 Z ?_); refine B1 hf fun e5 h11 hf=>Ev.cons Z Z Z (AO.aM h11 Z Z Z Z kW (av.aG _) Z zg) (Ev.cs aP 3 Z (Ev.nil ?_)); show AR _ _ _ _ _ _ _ _
   refine J 0 Z (C hf Z (fun h12 hf=>?_) fun h12 hf=>?_)
   · cases hf; exact M 1 Z (Y Z h)
   exact M 3 Z ⟨(bS (xO + 1)),Z,Z,Z,hf⟩
  exact M 3 Z ⟨(bS (i1 + 1)),Z,Z,Z,hf⟩
 cases hf; exact M 1 Z (Y Z h)

theorem YZ (e1:aj) {r0:Bool} (hf:FP e1=some r0) (h:Q (.ret (.bool r0)) τ):PC 162 [.agg (aS e1)] τ Q:=by
 unfold FP at hf; refine BN 45 [.tmp 2] [0] Tryz.func162 Z Z Z Z Z (V 6 Z (C hf Z (fun h1 hf=>?_) fun h1 hf=>?_))
 ·
  refine V 0 Z (AW.cond Z (fun h2=>?_) (fun h2=>?_))
  · refine W 2 Z (AS Z (AO.aL (l:=e1.args) Z Z Z Z fM Z (aj.aB _) ?_)); cases hf; exact N 2 Z (Y Z h)
  cases h1.symm.trans h2
 refine V 2 Z (C hf Z (fun h3 hf=>?_) fun h3 hf=>?_)
 · refine W 2 Z (AS Z (AO.aL (l:=e1.args) Z Z Z Z fM Z (aj.aB _) ?_)); cases hf; exact N 2 Z (Y Z h)
 refine V 2 Z (C hf Z (fun h4 hf=>?_) fun h4 hf=>?_)
 ·
  refine V 0 Z (AW.cond Z (fun h5=>?_) (fun h5=>?_))
  · refine W 2 Z (AS Z (AO.aL (l:=e1.args) Z Z Z Z fM Z (aj.aB _) ?_)); cases hf; exact N 2 Z (Y Z h)
  cases h4.symm.trans h5
 refine V 2 Z (C hf Z (fun h6 hf=>?_) fun h6 hf=>?_)
 · refine W 2 Z (AS Z (AO.aL (l:=e1.args) Z Z Z Z fM Z (aj.aB _) ?_)); cases hf; exact N 2 Z (Y Z h)
 refine V 2 Z (C hf Z (fun h7 hf=>?_) fun h7 hf=>?_)
 ·
  refine V 0 Z (AW.cond Z (fun h8=>?_) (fun h8=>?_))
  · refine W 2 Z (AS Z (AO.aL (l:=e1.args) Z Z Z Z fM Z (aj.aB _) ?_)); cases hf; exact N 2 Z (Y Z h)
  cases h7.symm.trans h8
 refine V 2 Z (C hf Z (fun h9 hf=>?_) fun h9 hf=>?_)
 · refine W 2 Z (AS Z (AO.aL (l:=e1.args) Z Z Z Z fM Z (aj.aB _) ?_)); cases hf; exact N 2 Z (Y Z h)
 refine V 2 Z (C hf Z (fun h10 hf=>?_) fun h10 hf=>?_)
 · refine W 2 Z (AS Z (AO.aL (l:=e1.args) Z Z Z Z fM Z (aj.aB _) ?_)); cases hf; exact N 2 Z (Y Z h)
 refine W 4 Z (On 4 35 39 [1] (e1.kind == 9) Z Z Z Z (U 1 Z (On 4 40 44 [] (e1.kind == 10) Z Z Z Z ?_))); cases hf; exact N 1 Z (Y Z h)

theorem Jv (op1:Str) {r0:Int} (hf:yF op1=some r0) (h:Q (.ret (iP r0)) τ):PC 208 [.str op1] τ Q:=by
 unfold yF at hf; refine BN 22 [.tmp 2] [0] Tryz.func208 Z Z Z Z Z (V 4 Z (C hf Z (fun h1 hf=>?_) fun h1 hf=>?_))
 · cases hf; exact M 1 Z (Y Z h)
 refine V 2 Z (C hf Z (fun h2 hf=>?_) fun h2 hf=>?_)
 · cases hf; exact M 1 Z (Y Z h)
 refine V 2 Z (C hf Z (fun h3 hf=>?_) fun h3 hf=>?_)
 ·
  refine V 0 Z (AW.cond Z (fun h4=>?_) (fun h4=>?_))
  · cases hf; exact M 1 Z (Y Z h)
  cases h3.symm.trans h4
 refine V 2 Z (C hf Z (fun h5 hf=>?_) fun h5 hf=>?_)
 ·
  refine V 0 Z (AW.cond Z (fun h6=>?_) (fun h6=>?_))
  · cases hf; exact M 1 Z (Y Z h)
  cases h5.symm.trans h6
 refine V 2 Z (C hf Z (fun h7 hf=>?_) fun h7 hf=>?_)
 ·
  refine V 0 Z (AW.cond Z (fun h8=>?_) (fun h8=>?_))
  · cases hf; exact M 1 Z (Y Z h)
  cases h7.symm.trans h8
 refine V 2 Z (C hf Z (fun h9 hf=>?_) fun h9 hf=>?_)
 ·
  refine V 0 Z (AW.cond Z (fun h10=>?_) (fun h10=>?_))
  · cases hf; exact M 1 Z (Y Z h)
  cases h9.symm.trans h10
 refine V 2 Z (C hf Z (fun h11 hf=>?_) fun h11 hf=>?_)
 ·
  refine V 0 Z (AW.cond Z (fun h12=>?_) (fun h12=>?_))
  · cases hf; exact M 1 Z (Y Z h)
  cases h11.symm.trans h12
 refine V 2 Z (C hf Z (fun jq hf=>?_) fun jq hf=>?_)
 · cases hf; exact M 1 Z (Y Z h)
 refine V 2 Z (C hf Z (fun kg hf=>?_) fun kg hf=>?_)
 ·
  refine V 0 Z (AW.cond Z (fun kC=>?_) (fun kC=>?_))
  · cases hf; exact M 1 Z (Y Z h)
  cases kg.symm.trans kC
 refine V 2 Z (C hf Z (fun h16 hf=>?_) fun h16 hf=>?_)
 · cases hf; exact M 1 Z (Y Z h)
 refine V 2 Z (C hf Z (fun mQ hf=>?_) fun mQ hf=>?_)
 ·
  refine V 0 Z (AW.cond Z (fun h18=>?_) (fun h18=>?_))
  · cases hf; exact M 1 Z (Y Z h)
  cases mQ.symm.trans h18
 refine V 2 Z (C hf Z (fun h19 hf=>?_) fun h19 hf=>?_)
 ·
  refine V 0 Z (AW.cond Z (fun h20=>?_) (fun h20=>?_))
  · cases hf; exact M 1 Z (Y Z h)
  cases h19.symm.trans h20
 refine V 2 Z (C hf Z (fun h21 hf=>?_) fun h21 hf=>?_)
 · cases hf; exact M 1 Z (Y Z h)
 cases hf; exact M 1 Z (Y Z h)

theorem YW (e1:aj) {r0:Bool} (hf:FN e1=some r0) (h:Q (.ret (.bool r0)) τ):PC 163 [.agg (aS e1)] τ Q:=by
 unfold FN at hf; refine BN 31 [.tmp 2] [0] Tryz.func163 Z Z Z Z Z (V 6 Z (C hf Z (fun h1 hf=>?_) fun h1 hf=>?_))
 ·
  refine V 0 Z (AW.cond Z (fun h2=>?_) (fun h2=>?_))
  · replace hf:=(aJ _).trans hf; refine B1 hf fun x1 h3 hf=>W 2 Z (CL Z (EP _ h3 ?_)); cases hf; exact N 1 Z (Y Z h)
  cases h1.symm.trans h2
 refine V 2 Z (C hf Z (fun h4 hf=>?_) fun h4 hf=>?_)
 ·
  refine V 0 Z (AW.cond Z (fun h5=>?_) (fun h5=>?_))
  · replace hf:=(aJ _).trans hf; refine B1 hf fun x2 h6 hf=>W 2 Z (CL Z (EP _ h6 ?_)); cases hf; exact N 1 Z (Y Z h)
  cases h4.symm.trans h5
 refine V 2 Z (C hf Z (fun h7 hf=>?_) fun h7 hf=>?_)
 · replace hf:=(aJ _).trans hf; refine B1 hf fun x3 h8 hf=>W 2 Z (CL Z (EP _ h8 ?_)); cases hf; exact N 1 Z (Y Z h)
 refine V 2 Z (C hf Z (fun h9 hf=>?_) fun h9 hf=>?_)
 · refine W 4 Z (On 4 17 21 [] (e1.name == ([45]:Str)) Z Z Z Z ?_); cases hf; exact N 1 Z (Y Z h)
 refine V 2 Z (C hf Z (fun h11 hf=>?_) fun h11 hf=>?_)
 · refine B1 hf fun x4 h12 hf=>W 2 Z (CL Z (Jv _ h12 ?_)); cases hf; exact N 2 Z (Y Z h)
 cases hf; exact M 4 Z (Y Z h)


abbrev Sq (ku:ah→ah→Option Bool):Prop:=∀ (wR:ah) (wQ:ah) {aU:Bool},ku wR wQ=some aU→∀ {τ:List bE} {Q:eZ→List bE→Prop} (h:Q (.ret (.bool aU)) τ),PC 15 [.agg (aF wR),.agg (aF wQ)] τ Q
theorem Zp (ku) (Wo:Sq ku) (a1:ah) (b1:ah) {r0:Bool} (hf:Dl ku a1 b1=some r0) (h:Q (.ret (.bool r0)) τ):PC 15 [.agg (aF a1),.agg (aF b1)] τ Q:=by
 unfold Dl at hf; refine BN 88 [.tmp 4] [0,1] Tryz.func15 Z Z Z Z Z (W 9 Z (AR.or 6 12 18 [2,3] (x:=(!(a1.dh == b1.dh))) Z Z (fun h1=>?_) (fun h1=>?_) ?_))
 · refine Is 12 h1 Z (U 4 Z (GO Z (AO.MX Z Zv Z Z ?_))); exact eU 1 Z (En [18,2,3] Z)
 · refine Is 12 h1 Z ?_; exact eU 6 Z (En [18,2,3] Z)
 refine U 1 Z (On 6 19 25 [2,3] (a1.bZ != b1.bZ) Z Z Z Z (U 1 Z (On 6 26 32 [2,3] (!(a1.bI == b1.bI)) Z Z Z Z (U 1 Z (AR.or 8 33 41 [2,3] (x:=((a1.aI.length:Int) != (b1.aI.length:Int))) Z Z (fun h4=>?_) (fun h4=>?_) ?_)))))
 · refine Is 33 h4 Z (U 2 Z (GO Z (AO.aL (l:=a1.aI) Z Z Z Z dN Z (ah.aB _) (U 2 Z (GO Z (AO.aL (l:=b1.aI) Z Z Z Z dN Z (ah.aB _) ?_)))))); exact eU 2 Z (En [41,2,3] Z)
 · refine Is 33 h4 Z ?_; exact eU 8 Z (En [41,2,3] Z)
 refine U 1 Z (AR.or 8 42 50 [2,3] (x:=((a1.keys.length:Int) != (b1.keys.length:Int))) Z Z (fun h5=>?_) (fun h5=>?_) ?_)
 · refine Is 42 h5 Z (U 2 Z (GO Z (AO.aL (l:=a1.keys) Z Z Z Z dO Z Z (U 2 Z (GO Z (AO.aL (l:=b1.keys) Z Z Z Z dO Z Z ?_)))))); exact eU 2 Z (En [50,2,3] Z)
 · refine Is 42 h5 Z ?_; exact eU 8 Z (En [50,2,3] Z)
 refine J 0 Z (C hf Z (fun h6 hf=>?_) fun h6 hf=>?_)
 · cases hf; exact M 1 Z (Y Z h)
 refine V 1 Z (Gc (fun i1=>[(2,.ref (aF a1)),(3,.ref (aF b1)),(5,iP i1)]) (fun i1=>[]) (fun bW i1=>uE ku a1 b1 bW i1=some r0) BIG 0 Z Z hf (fun _ hz=>bQ hz) ?_); intro bW i1 hf; rw [uE] at hf; refine W 3 Z (AS Z (AO.aL (l:=a1.keys) Z Z Z Z dO Z Z (J 1 Z (C hf Z (fun h7 hf=>?_) fun h7 hf=>?_))))
 ·
  refine V 0 Z (AW.draw 11 mixed (by kernel_rfl) Z ?_); refine Ev.cs aP 3 Z ?_; refine B1 hf fun e1 h8 hf=>Ev.cons Z Z Z (AO.aM h8 Z Z Z Z dO Z Z zg) (Ev.cs aP 4 Z ?_); refine B1 hf fun e2 h9 hf=>Ev.cons Z Z Z (AO.aM h9 Z Z Z Z dO Z Z zg) (Ev.cs aP 2 Z (Ev.nil ?_)); show AR _ _ _ _ _ _ _ _
  refine J 0 Z (C hf Z (fun h10 hf=>?_) fun h10 hf=>?_)
  · cases hf; exact M 1 Z (Y Z h)
  exact M 3 Z ⟨(bS (i1 + 1)),Z,Z,Z,hf⟩
 refine V 1 Z (Gc (fun i2=>[(2,.ref (aF a1)),(3,.ref (aF b1)),(6,iP i2)]) (fun i2=>[]) (fun EB i2=>mY ku a1 b1 EB i2=some r0) BIG 0 Z Z hf (fun _ hz=>bQ hz) ?_); intro EB i2 hf; rw [mY] at hf; refine W 3 Z (AS Z (AO.aL (l:=a1.aI) Z Z Z Z dN Z (ah.aB _) (J 1 Z (C hf Z (fun h11 hf=>?_) fun h11 hf=>?_))))
 ·
  refine V 0 Z (AW.draw 12 mixed (by kernel_rfl) Z ?_); refine Ev.cs aP 3 Z ?_; refine B1 hf fun e3 h12 hf=>Ev.cons Z Z Z (AO.aM h12 Z Z (ah.aB _) Z dN (ah.aG _) Z zg) (Ev.cs aP 4 Z ?_); refine B1 hf fun e4 jq hf=>Ev.cons Z Z Z (AO.aM jq Z Z (ah.aB _) Z dN (ah.aG _) Z zg) (Ev.cs aP 1 Z ?_); refine B1 hf fun x1 kg hf=>Ev.cons Z Z Z (AO.call Z _ Z Z X0 (Wo _ _ kg zg)) (Ev.cs aP 1 Z (Ev.nil ?_)); show AR _ _ _ _ _ _ _ _
  refine J 0 Z (C hf Z (fun kC hf=>?_) fun kC hf=>?_)
  · cases hf; exact M 1 Z (Y Z h)
  exact M 3 Z ⟨(bS (i2 + 1)),Z,Z,Z,hf⟩
 cases hf; exact M 1 Z (Y Z h)
theorem Z6 :∀ k:Nat,(Sq (uD k)):=by
 intro k
 induction k with
 | zero=>exact fun _ _ _ hz=>by first | cases hz | (unfold uD at hz; cases hz)
 | succ k ih=>exact fun wR wQ aU hz τ Q hq=>Zp (uD k) ih wR wQ hz hq
theorem DZ (wR:ah) (wQ:ah) {aU:Bool} (hf:r9 wR wQ=some aU) (h:Q (.ret (.bool aU)) τ):PC 15 [.agg (aF wR),.agg (aF wQ)] τ Q:=
 ((Z6 BIG)) wR wQ hf h

theorem WT (e1:aj) {r0:Bool} (hf:Dk e1=some r0) (h:Q (.ret (.bool r0)) τ):PC 84 [.agg (aS e1)] τ Q:=by
 unfold Dk at hf; refine BN 61 [.tmp 2] [0] Tryz.func84 Z Z Z Z Z ?_; refine B1 hf fun x1 h1 hf=>W 3 Z (CL Z (YZ _ h1 ?_)); refine B1 hf fun b1 h3 hf=>U 2 Z (AR.eX 4 7 11 false [1] b1 Z Z (fun h2=>?_) (fun h2=>?_) ?_)
 · replace h3:=eF h2 h3; refine Is 7 h2 Z ?_; obtain ⟨x2,h4,h3⟩:=aN h3; refine U 1 Z (GO Z (AO.call Z _ Z Z ahK (YW _ h4 ?_))); obtain rfl:=Option.some.inj h3; exact eU 2 Z (En [11,1] Z)
 · replace h3:=eD h2 h3; refine Is 7 h2 Z ?_; obtain rfl:=Option.some.inj h3; exact eU 4 Z (En [11,1] Z)
 refine B1 hf fun b2 h6 hf=>U 1 Z (AR.eX 11 12 23 false [1] b2 Z Z (fun h5=>?_) (fun h5=>?_) ?_)
 ·
  replace h6:=eF h5 h6; refine Is 12 h5 Z ?_; replace h6:=(aJ _).trans h6; obtain ⟨b3,h8,h6⟩:=aN h6; refine U 4 Z (AR.eX 6 16 22 true [1,12] b3 Z Z (fun h7=>?_) (fun h7=>?_) ?_)
  · replace h8:=eD h7 h8; refine Is 16 h7 Z (U 2 Z (GO Z (AO.build Z eY ZE Z ?_))); obtain ⟨x3,h9,h8⟩:=aN h8; refine GO Z (AO.call Z _ Z Z X0 (DZ _ _ h9 ?_)); obtain rfl:=Option.some.inj h8; exact eU 2 Z (En [22,1,12] Z)
  · replace h8:=eF h7 h8; refine Is 16 h7 Z ?_; obtain rfl:=Option.some.inj h8; exact eU 6 Z (En [22,1,12] Z)
  obtain rfl:=Option.some.inj h6; exact eU 1 Z (En [23,1] Z)
 · replace h6:=eD h5 h6; refine Is 12 h5 Z ?_; obtain rfl:=Option.some.inj h6; exact eU 11 Z (En [23,1] Z)
 refine J 0 Z (C hf Z (fun h10 hf=>?_) fun h10 hf=>?_)
 · cases hf; exact M 1 Z (Y Z h)
 refine V 3 Z (C hf Z (fun h11 hf=>?_) fun h11 hf=>?_)
 · refine W 2 Z (AS Z (AO.aL (l:=e1.keys) Z Z Z Z dO Z Z ?_)); cases hf; exact N 2 Z (Y Z h)
 refine V 1 Z (Gc (fun i1=>[(1,.ref (aS e1)),(3,iP i1)]) (fun i1=>[]) (fun bW i1=>sH e1 bW i1=some r0) BIG 0 Z Z hf (fun _ hz=>bQ hz) ?_); intro bW i1 hf; rw [sH] at hf; refine W 3 Z (AS Z (AO.aL (l:=e1.keys) Z Z Z Z dO Z Z (J 1 Z (C hf Z (fun h12 hf=>?_) fun h12 hf=>?_))))
 ·
  refine B1 hf fun e2 jq hf=>W 3 Z (AS Z (AO.aM jq Z Z Z Z dO Z Z (U 1 Z (AS Z (AO.bJ Z Z Z Z cu Z ?_))))); refine B1 hf fun b4 kC hf=>U 2 Z (AR.eX 8 45 53 false [1,3] b4 Z Z (fun kg=>?_) (fun kg=>?_) ?_)
  · replace kC:=eF kg kC; refine Is 45 kg Z ?_; obtain ⟨e3,h16,kC⟩:=aN kC; refine U 3 Z (GO Z (AO.aM h16 Z Z Z Z dO Z Z (U 1 Z (GO Z (AO.bJ Z Z Z Z cu Z ?_))))); obtain rfl:=Option.some.inj kC; exact eU 2 Z (En [53,1,3] Z)
  · replace kC:=eD kg kC; refine Is 45 kg Z ?_; obtain rfl:=Option.some.inj kC; exact eU 8 Z (En [53,1,3] Z)
  refine J 0 Z (C hf Z (fun mQ hf=>?_) fun mQ hf=>?_)
  · cases hf; exact M 1 Z (Y Z h)
  exact M 3 Z ⟨(bS (i1 + 1)),Z,Z,Z,hf⟩
 refine W 2 Z (AS Z (AO.aL (l:=e1.keys) Z Z Z Z dO Z Z (U 2 Z (AS Z (AO.aL (l:=e1.args) Z Z Z Z fM Z (aj.aB _) ?_))))); cases hf; exact N 2 Z (Y Z h)

theorem YV (zD:List Str) {r0:Bool} (hf:FM zD=some r0) (h:Q (.ret (.bool r0)) τ):PC 85 [sP zD] τ Q:=by
 unfold FM at hf; refine BN 25 [.tmp 2] [0] Tryz.func85 Z Z Z Z Z (V 2 Z (Gc (fun i1=>[(0,sP zD),(3,iP i1)]) (fun i1=>[]) (fun bW i1=>pK zD bW i1=some r0) BIG 0 Z Z hf (fun _ hz=>bQ hz) ?_)); intro bW i1 hf; rw [pK] at hf; refine W 2 Z (AS Z (AO.aL (l:=zD) Z Z Z Z dO Z Z (J 1 Z (C hf Z (fun h1 hf=>?_) fun h1 hf=>?_))))
 ·
  refine V 1 Z (Gc (fun xO=>[(0,sP zD),(3,iP i1),(4,iP xO)]) (fun xO=>[]) (fun EB xO=>vB zD i1 (pK zD bW) EB xO=some r0) BIG 0 Z Z hf (fun _ hz=>bQ hz) ?_); intro EB xO hf; rw [vB] at hf; refine V 3 Z (C hf Z (fun h2 hf=>?_) fun h2 hf=>?_)
  ·
   refine V 0 Z (AW.draw 9 mixed (by kernel_rfl) Z ?_); refine Ev.cs aP 2 Z ?_; refine B1 hf fun e1 h3 hf=>Ev.cons Z Z Z (AO.aM h3 Z Z Z Z dO Z Z zg) (Ev.cs aP 3 Z ?_); refine B1 hf fun e2 h4 hf=>Ev.cons Z Z Z (AO.aM h4 Z Z Z Z dO Z Z zg) (Ev.cs aP 2 Z (Ev.nil ?_)); show AR _ _ _ _ _ _ _ _
   refine J 0 Z (C hf Z (fun h5 hf=>?_) fun h5 hf=>?_)
   · cases hf; exact M 1 Z (Y Z h)
   exact M 3 Z ⟨(bS (xO + 1)),Z,Z,Z,hf⟩
  exact M 3 Z ⟨(bS (i1 + 1)),Z,Z,Z,hf⟩
 cases hf; exact M 1 Z (Y Z h)


abbrev OO (mI:aj→Int→Option Int):Prop:=∀ (fV:aj) (gI:Int) {aU:Int},mI fV gI=some aU→∀ {τ:List bE} {Q:eZ→List bE→Prop} (h:Q (.ret (iP aU)) τ),PC 52 [.agg (aS fV),iP gI] τ Q
theorem Xj (mI) (Tf:OO mI) (e1:aj) (bP:Int) {r0:Int} (hf:Eo mI e1 bP=some r0) (h:Q (.ret (iP r0)) τ):PC 52 [.agg (aS e1),iP bP] τ Q:=by
 unfold Eo at hf; refine BN 49 [.tmp 4] [0,1] Tryz.func52 Z Z Z Z Z (V 4 Z (C hf Z (fun h1 hf=>?_) fun h1 hf=>?_))
 · cases hf; exact M 1 Z (Y Z h)
 refine B1 hf fun x1 h2 hf=>W 1 Z (CL Z (WT _ h2 (J 1 Z (C hf Z (fun h3 hf=>?_) fun h3 hf=>?_))))
 · cases hf; exact M 1 Z (Y Z h)
 refine B1 hf fun f1 h4 hf=>W 2 Z (CL Z (ER _ h4 (U 5 Z (An 3 19 22 [1,2,5] (f1 != 0) Z Z Z Z (J 0 Z (C hf Z (fun h6 hf=>?_) fun h6 hf=>?_))))))
 · cases hf; exact M 2 Z (Y Z h)
 refine W 2 Z (AS Z (AO.aL (l:=e1.args) Z Z Z Z fM Z (aj.aB _) (J 1 Z (C hf Z (fun h7 hf=>?_) fun h7 hf=>?_))))
 · cases hf; exact M 1 Z (Y Z h)
 refine B1 hf fun x2 h8 hf=>W 2 Z (CL Z (YV _ h8 (J 0 Z (C hf Z (fun h9 hf=>?_) fun h9 hf=>?_))))
 · cases hf; exact M 1 Z (Y Z h)
 refine V 1 Z (Gc (fun i1=>[(1,iP bP),(2,.ref (aS e1)),(6,iP i1)]) (fun i1=>[]) (fun bW i1=>yE mI e1 bP bW i1=some r0) BIG 0 Z Z hf (fun _ hz=>bQ hz) ?_); intro bW i1 hf; rw [yE] at hf; refine W 3 Z (AS Z (AO.aL (l:=e1.args) Z Z Z Z fM Z (aj.aB _) (J 1 Z (C hf Z (fun h10 hf=>?_) fun h10 hf=>?_))))
 ·
  refine B1 hf fun e2 h11 hf=>W 3 Z (AS Z (AO.aM h11 Z Z (aj.aB _) Z fM (aj.aG _) Z ?_)); refine B1 hf fun f2 h12 hf=>U 3 Z (CL Z (Tf _ _ h12 (J 3 Z (C hf Z (fun jq hf=>?_) fun jq hf=>?_))))
  · cases hf; exact M 2 Z (Y Z h)
  exact M 3 Z ⟨(bS (i1 + 1)),Z,Z,Z,hf⟩
 cases hf; exact M 1 Z (Y Z h)
theorem Ya :∀ k:Nat,(OO (pO k)):=by
 intro k
 induction k with
 | zero=>exact fun _ _ _ hz=>by first | cases hz | (unfold pO at hz; cases hz)
 | succ k ih=>exact fun fV gI aU hz τ Q hq=>Xj (pO k) ih fV gI hz hq
theorem YX (fV:aj) (gI:Int) {aU:Int} (hf:Nc fV gI=some aU) (h:Q (.ret (iP aU)) τ):PC 52 [.agg (aS fV),iP gI] τ Q:=
 ((Ya BIG)) fV gI hf h

theorem EO (e1:aj) {r0:Int} (hf:xF e1=some r0) (h:Q (.ret (iP r0)) τ):PC 25 [.agg (aS e1)] τ Q:=by
 unfold xF at hf; refine BN 8 [.tmp 2] [0] Tryz.func25 Z Z Z Z Z ?_; refine B1 hf fun x1 h1 hf=>W 3 Z (CL Z (OB _ h1 (J 1 Z (C hf Z (fun h2 hf=>?_) fun h2 hf=>?_))))
 · cases hf; exact M 1 Z (Y Z h)
 replace hf:=(aJ _).trans hf; refine B1 hf fun x2 h3 hf=>W 1 Z (CL Z (YX _ _ h3 ?_)); cases hf; exact N 1 Z (Y Z h)

theorem RQ (name1:Str) {r0:Int} (hf:FL name1=some r0) (h:Q (.ret (iP r0)) τ):PC 72 [.str name1] τ Q:=by
 unfold FL at hf; refine BN 18 [.tmp 2] [0] Tryz.func72 Z Z Z Z Z (V 4 Z (C hf Z (fun h1 hf=>?_) fun h1 hf=>?_))
 ·
  refine V 0 Z (AW.cond Z (fun h2=>?_) (fun h2=>?_))
  · cases hf; exact M 1 Z (Y Z h)
  cases h1.symm.trans h2
 refine V 2 Z (C hf Z (fun h3 hf=>?_) fun h3 hf=>?_)
 ·
  refine V 0 Z (AW.cond Z (fun h4=>?_) (fun h4=>?_))
  · cases hf; exact M 1 Z (Y Z h)
  cases h3.symm.trans h4
 refine V 2 Z (C hf Z (fun h5 hf=>?_) fun h5 hf=>?_)
 ·
  refine V 0 Z (AW.cond Z (fun h6=>?_) (fun h6=>?_))
  · cases hf; exact M 1 Z (Y Z h)
  cases h5.symm.trans h6
 refine V 2 Z (C hf Z (fun h7 hf=>?_) fun h7 hf=>?_)
 ·
  refine V 0 Z (AW.cond Z (fun h8=>?_) (fun h8=>?_))
  · cases hf; exact M 1 Z (Y Z h)
  cases h7.symm.trans h8
 refine V 2 Z (C hf Z (fun h9 hf=>?_) fun h9 hf=>?_)
 ·
  refine V 0 Z (AW.cond Z (fun h10=>?_) (fun h10=>?_))
  · cases hf; exact M 1 Z (Y Z h)
  cases h9.symm.trans h10
 refine V 2 Z (C hf Z (fun h11 hf=>?_) fun h11 hf=>?_)
 · cases hf; exact M 1 Z (Y Z h)
 refine V 2 Z (C hf Z (fun h12 hf=>?_) fun h12 hf=>?_)
 ·
  refine V 0 Z (AW.cond Z (fun jq=>?_) (fun jq=>?_))
  · cases hf; exact M 1 Z (Y Z h)
  cases h12.symm.trans jq
 refine V 2 Z (C hf Z (fun kg hf=>?_) fun kg hf=>?_)
 ·
  refine V 0 Z (AW.cond Z (fun kC=>?_) (fun kC=>?_))
  · cases hf; exact M 1 Z (Y Z h)
  cases kg.symm.trans kC
 refine V 2 Z (C hf Z (fun h16 hf=>?_) fun h16 hf=>?_)
 ·
  refine V 0 Z (AW.cond Z (fun mQ=>?_) (fun mQ=>?_))
  · cases hf; exact M 1 Z (Y Z h)
  cases h16.symm.trans mQ
 refine V 2 Z (C hf Z (fun h18 hf=>?_) fun h18 hf=>?_)
 ·
  refine V 0 Z (AW.cond Z (fun h19=>?_) (fun h19=>?_))
  · cases hf; exact M 1 Z (Y Z h)
  cases h18.symm.trans h19
 refine V 2 Z (C hf Z (fun h20 hf=>?_) fun h20 hf=>?_)
 ·
  refine V 0 Z (AW.cond Z (fun h21=>?_) (fun h21=>?_))
  · cases hf; exact M 1 Z (Y Z h)
  cases h20.symm.trans h21
 refine V 2 Z (C hf Z (fun h22 hf=>?_) fun h22 hf=>?_)
 · cases hf; exact M 1 Z (Y Z h)
 cases hf; exact M 1 Z (Y Z h)

theorem vN (s1:Str) {r0:ah} (hf:nU s1=some r0) (h:Q (.ret (.agg (aF r0))) τ):PC 134 [.str s1] τ Q:=by
 unfold nU at hf; refine BN 5 [.cell 2 25] [0] Tryz.func134 Z Z Z Z Z (W 0 Z (AS Z (AO.aH Z eY (fun b2=>?_)))); cases hf; exact Rx 3 [0] Z Z (ZC [0] Z Z h)

theorem NN (v1:ah) (key1:Str) {r0:ah} {r1:Bool} (hf:Gt v1 key1=some (r0,r1)) (h:Q (.ret (.tuple [.agg (aF r0),.bool r1])) τ):PC 201 [.agg (aF v1),.str key1] τ Q:=by
 unfold Gt at hf; refine BN 37 [.cell 4 25,.tmp 5] [0,1] Tryz.func201 Z Z Z Z Z (W 1 Z (AS Z (AO.aH Z eY (fun b4=>(J 4 Z (C hf Z (fun h1 hf=>?_) fun h1 hf=>?_))))))
 · cases hf; exact Wx 3 [0] rfl rfl ⟨rfl,_,⟨_,_,rfl,⟨_,_,0,_,_,rfl,rfl,bY,rfl⟩,_,_,rfl,rfl,rfl⟩,[],List.nil_sublist _,h⟩
 refine V 1 Z (Gc (fun i1=>[(1,.str key1),(2,.ref (aF v1)),(4,pP b4),(6,iP i1)]) (fun i1=>[.box b4 [iP 0,.bool false,iP 0,.str ([]:Str),.own (.slice none 0 0) [],.own (.slice none 0 0) []]]) (fun bW i1=>zX v1 key1 bW i1=some (r0,r1)) BIG 0 Z Z hf (fun _ hz=>bQ hz) ?_); intro bW i1 hf; rw [zX] at hf; refine W 3 Z (AS Z (AO.aL (l:=v1.keys) Z Z Z Z dO Z Z (J 1 Z (C hf Z (fun h2 hf=>?_) fun h2 hf=>?_))))
 ·
  refine B1 hf fun e1 h3 hf=>W 3 Z (AS Z (AO.aM h3 Z Z Z Z dO Z Z (J 3 Z (C hf Z (fun h4 hf=>?_) fun h4 hf=>?_))))
  ·
   refine W 3 Z (AS Z (AO.aL (l:=v1.aI) Z Z Z Z dN Z (ah.aB _) (J 1 Z (C hf Z (fun h5 hf=>?_) fun h5 hf=>?_))))
   · cases hf; exact Wx 3 [0] rfl rfl ⟨rfl,_,⟨_,_,rfl,⟨_,_,0,_,_,rfl,rfl,bY,rfl⟩,_,_,rfl,rfl,rfl⟩,[],List.nil_sublist _,h⟩
   refine B1 hf fun e2 h6 hf=>W 3 Z (AS Z (AO.aM h6 Z Z (ah.aB _) Z dN (ah.aG _) Z ?_)); cases hf; exact Rx 3 [0] rfl rfl ⟨rfl,_,⟨_,_,rfl,⟨_,_,0,_,_,rfl,rfl,bY,rfl⟩,_,_,rfl,rfl,rfl⟩,[],List.nil_sublist _,h⟩
  exact M 3 Z ⟨(bS (i1 + 1)),Z,Z,Z,hf⟩
 cases hf; exact Wx 3 [0] rfl rfl ⟨rfl,_,⟨_,_,rfl,⟨_,_,0,_,_,rfl,rfl,bY,rfl⟩,_,_,rfl,rfl,rfl⟩,[],List.nil_sublist _,h⟩

theorem Oz (a1:ah) (b1:ah) {r0:ah} {r1:Int} (hf:CS a1 b1=some (r0,r1)) (h:Q (.ret (.tuple [.agg (aF r0),iP r1])) τ):PC 133 [.agg (aF a1),.agg (aF b1)] τ Q:=by
 unfold CS at hf; refine BN 54 [.cell 4 25,.tmp 5] [0,1] Tryz.func133 Z Z Z Z Z (W 2 Z (AS Z (AO.aH Z eY (fun b4=>(U 5 Z (An 4 11 15 [2,3,4] (b1.kind == 2) Z Z Z Z (J 0 Z (C hf Z (fun h2 hf=>?_) fun h2 hf=>?_))))))))
 ·
  refine W 4 Z (AR.or 7 19 26 [2,3,4] (x:=(decide ((a1.aI.length:Int)≤b1.bZ))) Z Z (fun h3=>?_) (fun h3=>?_) ?_)
  · refine Is 19 h3 Z (U 4 Z (GO Z (AO.aL (l:=a1.aI) Z Z Z Z dN Z (ah.aB _) ?_))); exact eU 2 Z (En [26,2,3,4] Z)
  · refine Is 19 h3 Z ?_; exact eU 7 Z (En [26,2,3,4] Z)
  refine J 0 Z (C hf Z (fun h4 hf=>?_) fun h4 hf=>?_)
  · cases hf; exact Wx 3 [0] rfl rfl ⟨rfl,_,⟨_,_,rfl,⟨_,_,0,_,_,rfl,rfl,bY,rfl⟩,_,_,rfl,rfl,rfl⟩,[],List.nil_sublist _,h⟩
  refine B1 hf fun e1 h5 hf=>W 4 Z (AS Z (AO.aM h5 Z Z (ah.aB _) Z dN (ah.aG _) Z ?_)); cases hf; exact Rx 3 [0] rfl rfl ⟨rfl,_,⟨_,_,rfl,⟨_,_,0,_,_,rfl,rfl,bY,rfl⟩,_,_,rfl,rfl,rfl⟩,[],List.nil_sublist _,h⟩
 refine W 4 Z (On 4 37 41 [2,3,4] (b1.kind != 3) Z Z Z Z (J 0 Z (C hf Z (fun h7 hf=>?_) fun h7 hf=>?_)))
 · cases hf; exact Wx 3 [0] rfl rfl ⟨rfl,_,⟨_,_,rfl,⟨_,_,0,_,_,rfl,rfl,bY,rfl⟩,_,_,rfl,rfl,rfl⟩,[],List.nil_sublist _,h⟩
 obtain ⟨x1,ok1,h8,hf⟩:=aY hf; refine W 3 Z (CL Z (NN _ _ h8 (U 3 Z (AS Z (AO.aH Z eY (fun b6=>(Rw 4 [0] Z Z (C hf Z (fun h9 hf=>?_) fun h9 hf=>?_))))))))
 · cases hf; exact Wx 3 [1] rfl rfl ⟨rfl,_,⟨_,_,rfl,⟨_,_,1,_,_,rfl,rfl,bY,rfl⟩,_,_,rfl,rfl,rfl⟩,[],List.nil_sublist _,h⟩
 cases hf; exact Wx 3 [0,1] rfl rfl ⟨rfl,_,⟨_,_,rfl,⟨_,_,1,_,_,rfl,rfl,bY,rfl⟩,_,_,rfl,rfl,rfl⟩,[],List.nil_sublist _,h⟩


abbrev KL (oK:Int→Option Str):Prop:=∀ (OY:Int) {aU:Str},oK OY=some aU→∀ {τ:List bE} {Q:eZ→List bE→Prop} (h:Q (.ret (.str aU)) τ),PC 305 [iP OY] τ Q
theorem SG (oK) (Hy:KL oK) (n1:Int) {r0:Str} (hf:sK oK n1=some r0) (h:Q (.ret (.str r0)) τ):PC 305 [iP n1] τ Q:=by
 unfold sK at hf; refine BN 40 [.tmp 2] [0] Tryz.func305 Z Z Z Z Z (V 3 Z (C hf Z (fun h1 hf=>?_) fun h1 hf=>?_))
 ·
  refine V 2 Z (C hf Z (fun h2 hf=>?_) fun h2 hf=>?_)
  · refine W 2 Z (AS Z (AO.DT Z Ea zK Z (AS Z (AO.bq (List.map lg ([(Ft.byteOf (bS (48 - n1)))]:List UInt8)) Z yw Z Z Z Z (AS Z (AO.oC Z FD zK cu Z Z ?_)))))); replace hf:=(aJ _).trans hf; refine B1 hf fun x1 h3 hf=>AS Z (AO.kN h3 Z Z Z ?_); cases hf; exact N 1 Z (Y Z h)
  refine V 0 Z (AW.draw 11 mixed (by kernel_rfl) Z ?_); refine Ev.cs aP 1 Z (Ev.cons Z Z Z (AO.quo Z Z Z (by decide) zg) ?_); refine B1 hf fun x2 h4 hf=>Ev.cons Z Z Z (AO.call Z _ Z Z adF (Hy _ h4 zg)) (Ev.cs aP 1 Z (Ev.cons Z Z Z (AO.rem Z Z Z (by decide) zg) ?_))
  refine Ev.cs aP 1 Z (Ev.cons Z Z Z (AO.DT Z Ea zK Z zg) (Ev.cons Z Z Z (AO.bq (List.map lg ([(Ft.byteOf (bS (48 - ((n1:Int).tmod 10))))]:List UInt8)) Z yw Z Z Z Z zg) (Ev.cons Z Z Z (AO.oC Z FD zK cu Z Z zg) ?_))); replace hf:=(aJ _).trans hf; refine B1 hf fun x3 h5 hf=>Ev.cons Z Z Z (AO.kN h5 Z Z Z zg) (Ev.cs aP 1 Z (Ev.nil ?_)); show AR _ _ _ _ _ _ _ _
  cases hf; exact N 0 Z (Y Z h)
 refine V 2 Z (C hf Z (fun h6 hf=>?_) fun h6 hf=>?_)
 · refine W 2 Z (AS Z (AO.DT Z Ea zK Z (AS Z (AO.bq (List.map lg ([(Ft.byteOf (bS (48 + n1)))]:List UInt8)) Z yw Z Z Z Z (AS Z (AO.oC Z FD zK cu Z Z ?_)))))); cases hf; exact N 1 Z (Y Z h)
 refine V 0 Z (AW.draw 11 mixed (by kernel_rfl) Z ?_); refine Ev.cs aP 1 Z (Ev.cons Z Z Z (AO.quo Z Z Z (by decide) zg) ?_); refine B1 hf fun x4 h7 hf=>Ev.cons Z Z Z (AO.call Z _ Z Z adF (Hy _ h7 zg)) (Ev.cs aP 1 Z (Ev.cons Z Z Z (AO.rem Z Z Z (by decide) zg) ?_))
 refine Ev.cs aP 1 Z (Ev.cons Z Z Z (AO.DT Z Ea zK Z zg) (Ev.cons Z Z Z (AO.bq (List.map lg ([(Ft.byteOf (bS (48 + ((n1:Int).tmod 10))))]:List UInt8)) Z yw Z Z Z Z zg) (Ev.cons Z Z Z (AO.oC Z FD zK cu Z Z zg) ?_))); replace hf:=(aJ _).trans hf; refine B1 hf fun x5 h8 hf=>Ev.cons Z Z Z (AO.kN h8 Z Z Z zg) (Ev.cs aP 1 Z (Ev.nil ?_)); show AR _ _ _ _ _ _ _ _
 cases hf; exact N 0 Z (Y Z h)
theorem SX :∀ k:Nat,(KL (jR k)):=by
 intro k
 induction k with
 | zero=>exact fun _ _ hz=>by first | cases hz | (unfold jR at hz; cases hz)
 | succ k ih=>exact fun OY aU hz τ Q hq=>SG (jR k) ih OY hz hq
theorem Tw (OY:Int) {aU:Str} (hf:Eu OY=some aU) (h:Q (.ret (.str aU)) τ):PC 305 [iP OY] τ Q:=
 ((SX BIG)) OY hf h


end Go.Proofs.YtdhmchjccpmppaaGreatDoor
