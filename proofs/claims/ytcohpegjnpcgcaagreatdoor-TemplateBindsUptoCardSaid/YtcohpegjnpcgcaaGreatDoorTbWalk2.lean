/- Proved here: each function does what its functional text says (part 2). -/
import Derived.Test.YtcohpegjnpcgcaaGreatDoorTbWalk1
set_option linter.unusedVariables false
set_option linter.unusedSimpArgs false
set_option linter.unusedSectionVars false
namespace Go.Proofs.YtcohpegjnpcgcaaGreatDoor
open Go Go.Abs Go.Ft
set_option maxRecDepth 20000
attribute [local irreducible] AO AR AW AC
variable [iH]
variable {τ : List bn} {Q : cZ → List bn → Prop}
section
variable [zq]
@[reducible] def xV :eX aI ah→cZ
 | .ok r=>.ret (.agg (aK r))
 | .bad e=>.panic (.iface 181 (.agg [iP e.code]))
@[reducible] def xW :eX aI ah→cZ
 | .ok r=>.ret (.agg (aK r))
 | .bad e=>.panic (.iface 181 (.agg [iP e.code]))
@[reducible] def zw :eX aI (List ah)→cZ
 | .ok r=>.ret (.list (ah.aN r))
 | .bad e=>.panic (.iface 181 (.agg [iP e.code]))
@[reducible] def vS :eX aI ah→cZ
 | .ok r=>.ret (.agg (aK r))
 | .bad e=>.panic (.iface 181 (.agg [iP e.code]))
@[reducible] def ug :eX aI ah→cZ
 | .ok r=>.ret (.agg (aK r))
 | .bad e=>.panic (.iface 181 (.agg [iP e.code]))
abbrev nG (bJ:List aA→aj→Option (eX aI ah)):Prop:=∀ (rH:List aA) (jT:aj) {eP:eX aI ah},bJ rH jT=some eP→∀ {τ:List bn} {Q:cZ→List bn→Prop} (h:Q (xV eP) τ),PC 150 [.list (List.map aA.cells rH),.agg (bI jT)] τ Q
abbrev nH (dB:List aA→aj→Option (eX aI ah)):Prop:=∀ (rH:List aA) (jT:aj) {eP:eX aI ah},dB rH jT=some eP→∀ {τ:List bn} {Q:cZ→List bn→Prop} (h:Q (xW eP) τ),PC 175 [.list (List.map aA.cells rH),.agg (bI jT)] τ Q
abbrev oI (dw:List aA→List aj→Option (eX aI (List ah))):Prop:=∀ (rH:List aA) (Zb:List aj) {eP:eX aI (List ah)},dw rH Zb=some eP→∀ {τ:List bn} {Q:cZ→List bn→Prop} (h:Q (zw eP) τ),PC 180 [.list (List.map aA.cells rH),.list (aj.aN Zb)] τ Q
abbrev lZ (cB:List aA→aj→Option (eX aI ah)):Prop:=∀ (rH:List aA) (jT:aj) {eP:eX aI ah},cB rH jT=some eP→∀ {τ:List bn} {Q:cZ→List bn→Prop} (h:Q (vS eP) τ),PC 177 [.list (List.map aA.cells rH),.agg (bI jT)] τ Q
abbrev lC (b_:List aA→aj→Option (eX aI ah)):Prop:=∀ (rH:List aA) (jT:aj) {eP:eX aI ah},b_ rH jT=some eP→∀ {τ:List bn} {Q:cZ→List bn→Prop} (h:Q (ug eP) τ),PC 182 [.list (List.map aA.cells rH),.agg (bI jT)] τ Q
theorem K9 (bJ) (bX:nG bJ) (dB) (lY:nH dB) (dw) (iV:oI dw) (cB) (kI:lZ cB) (b_) (ko:lC b_) (s1:List aA) (e1:aj) {rX:eX aI ah} (hf:yR bJ dB dw cB b_ s1 e1=some rX) (h:Q (xV rX) τ):PC 150 [.list (List.map aA.cells s1),.agg (bI e1)] τ Q:=by
 unfold yR at hf; refine BN 104 [.cell 4 42] [0,1] Tryz.func150 Z Z Z Z Z (W 1 Z (AS Z (AO.aF Z gF (fun b4=>(J 4 Z (C hf Z (fun h1 hf=>?_) fun h1 hf=>?_))))))
 · cases hf; exact Wx 3 [0] Z Z (ZC [0] Z Z h)
 refine V 2 Z (C hf Z (fun h2 hf=>?_) fun h2 hf=>?_)
 ·
  rcases bS hf with ⟨e2,h3,hf⟩ | ⟨x1,h3,hf⟩
  · refine W 3 Z (CL Z (DY _ _ h3 ?_)); cases hf; exact ⟨Z,[],List.nil_sublist _,h⟩
  refine W 3 Z (CL Z (DY _ _ h3 ?_)); cases hf; exact Rx 1 [0] Z Z (ZC [0] Z Z h)
 refine V 2 Z (C hf Z (fun h4 hf=>?_) fun h4 hf=>?_)
 ·
  refine B1 hf fun e3 h5 hf=>?_; rcases bS hf with ⟨e4,h6,hf⟩ | ⟨x2,h6,hf⟩
  ·
   refine V 0 Z (AW.X6 5 8 mixed (by kernel_rfl) Z Z Z ?_); refine Ev.cs aX 3 Z (Ev.cons Z Z Z (AO.aO h5 Z Z (aj.aC _) Z je (aj.aG _) Z zg) (Ev.cs aX 1 Z (Ev.nil ?_))); refine ⟨_,_,Z,Z,Z,Z,AO.call Z _ Z Z Ie (bX _ _ h6 ?_),?_⟩
   · cases hf; exact ⟨Z,[],List.nil_sublist _,h⟩
   refine Ev.cs aX 2 Z (Ev.nil ?_); trivial
  refine V 0 Z (AW.draw 9 mixed (by kernel_rfl) Z ?_); refine Ev.cs aX 3 Z (Ev.cons Z Z Z (AO.aO h5 Z Z (aj.aC _) Z je (aj.aG _) Z zg) (Ev.cs aX 1 Z (Ev.cons Z Z Z (AO.call Z _ Z Z Ie (bX _ _ h6 zg)) ?_))); refine Ev.cs aX 2 Z ?_; refine B1 hf fun x3 h7 hf=>Ev.cons Z Z Z (AO.call Z _ Z Z aaf (uX _ h7 zg)) (Ev.nil ?_); show AR _ _ _ _ _ _ _ _; rcases bS hf with ⟨e5,h8,hf⟩ | ⟨x4,h8,hf⟩
  · refine CL Z (BZ _ _ h8 ?_); cases hf; exact ⟨Z,[],List.nil_sublist _,h⟩
  refine CL Z (BZ _ _ h8 ?_); cases hf; exact Rx 1 [0] Z Z (ZC [0] Z Z h)
 refine V 2 Z (C hf Z (fun h9 hf=>?_) fun h9 hf=>?_)
 ·
  refine B1 hf fun e6 h10 hf=>W 3 Z (AS Z (AO.aO h10 Z Z (aj.aC _) Z je (aj.aG _) Z ?_)); rcases bS hf with ⟨e7,h11,hf⟩ | ⟨x5,h11,hf⟩
  · refine U 1 Z (CL Z (bX _ _ h11 ?_)); cases hf; exact ⟨Z,[],List.nil_sublist _,h⟩
  refine U 1 Z (CL Z (bX _ _ h11 (AS Z (AO.aF Z gF (fun b5=>?_))))); refine B1 hf fun e8 h12 hf=>?_; rcases bS hf with ⟨e9,lH,hf⟩ | ⟨x6,lH,hf⟩
  ·
   refine Rw 1 [0] Z Z (AW.X6 6 7 mixed (by kernel_rfl) Z Z Z ?_); refine Ev.cons Z Z Z (AO.aY (i:=0) Z Z Z kZ Z Z zg) (Ev.cs aX 3 Z (Ev.cons Z Z Z (AO.aO h12 Z Z (aj.aC _) Z je (aj.aG _) Z zg) (Ev.cs aX 1 Z ?_))); refine Ev.nil (⟨_,_,Z,Z,Z,Z,AO.call Z _ Z Z Ie (bX _ _ lH ?_),?_⟩)
   · cases hf; exact ⟨Z,[],List.nil_sublist _,h⟩
   refine Ev.nil ?_; trivial
  refine Rw 1 [0] Z Z (AW.draw 7 mixed (by kernel_rfl) Z ?_); refine Ev.cons Z Z Z (AO.aY (i:=0) Z Z Z kZ Z Z zg) (Ev.cs aX 3 Z (Ev.cons Z Z Z (AO.aO h12 Z Z (aj.aC _) Z je (aj.aG _) Z zg) (Ev.cs aX 1 Z ?_))); refine Ev.cons Z Z Z (AO.call Z _ Z Z Ie (bX _ _ lH zg)) (Ev.nil ?_); show AR _ _ _ _ _ _ _ _; rcases bS hf with ⟨e10,lV,hf⟩ | ⟨x7,lV,hf⟩
  · refine CL Z (Jb _ _ lV ?_); cases hf; exact ⟨Z,[],List.nil_sublist _,h⟩
  refine CL Z (Jb _ _ lV ?_); cases hf; exact Rx 1 [1] Z Z (ZC [1] Z Z h)
 refine V 2 Z (C hf Z (fun ru hf=>?_) fun ru hf=>?_)
 ·
  rcases bS hf with ⟨e11,h16,hf⟩ | ⟨x8,h16,hf⟩
  · refine W 2 Z (CL Z (lY _ _ h16 ?_)); cases hf; exact ⟨Z,[],List.nil_sublist _,h⟩
  refine W 2 Z (CL Z (lY _ _ h16 ?_)); cases hf; exact Rx 1 [0] Z Z (ZC [0] Z Z h)
 refine V 2 Z (C hf Z (fun xB hf=>?_) fun xB hf=>?_)
 ·
  refine B1 hf fun e12 h18 hf=>?_; rcases bS hf with ⟨e13,h19,hf⟩ | ⟨x9,h19,hf⟩
  ·
   refine V 0 Z (AW.X6 7 8 mixed (by kernel_rfl) Z Z Z ?_); refine Ev.cs aX 5 Z (Ev.cons Z Z Z (AO.aO h18 Z Z (aj.aC _) Z je (aj.aG _) Z zg) (Ev.cs aX 1 Z (Ev.nil ?_))); refine ⟨_,_,Z,Z,Z,Z,AO.call Z _ Z Z Ie (bX _ _ h19 ?_),?_⟩
   · cases hf; exact ⟨Z,[],List.nil_sublist _,h⟩
   refine Ev.nil ?_; trivial
  refine V 0 Z (AW.draw 8 mixed (by kernel_rfl) Z ?_); refine Ev.cs aX 5 Z (Ev.cons Z Z Z (AO.aO h18 Z Z (aj.aC _) Z je (aj.aG _) Z zg) (Ev.cs aX 1 Z (Ev.cons Z Z Z (AO.call Z _ Z Z Ie (bX _ _ h19 zg)) ?_))); refine Ev.nil ?_; show AR _ _ _ _ _ _ _ _; rcases bS hf with ⟨e14,h20,hf⟩ | ⟨K3,h20,hf⟩
  · refine CL Z (Ms _ _ h20 ?_); cases hf; exact ⟨Z,[],List.nil_sublist _,h⟩
  refine CL Z (Ms _ _ h20 ?_); cases hf; exact Rx 1 [0] Z Z (ZC [0] Z Z h)
 refine V 2 Z (C hf Z (fun h21 hf=>?_) fun h21 hf=>?_)
 ·
  rcases bS hf with ⟨e15,h22,hf⟩ | ⟨Nq,h22,hf⟩
  · refine W 2 Z (CL Z (kI _ _ h22 ?_)); cases hf; exact ⟨Z,[],List.nil_sublist _,h⟩
  refine W 2 Z (CL Z (kI _ _ h22 ?_)); cases hf; exact Rx 1 [0] Z Z (ZC [0] Z Z h)
 refine V 2 Z (C hf Z (fun h23 hf=>?_) fun h23 hf=>?_)
 ·
  refine B1 hf fun e16 Ry hf=>W 3 Z (AS Z (AO.aO Ry Z Z (aj.aC _) Z je (aj.aG _) Z ?_)); rcases bS hf with ⟨e17,SC,hf⟩ | ⟨UE,SC,hf⟩
  · refine U 1 Z (CL Z (bX _ _ SC ?_)); cases hf; exact ⟨Z,[],List.nil_sublist _,h⟩
  refine U 1 Z (CL Z (bX _ _ SC ?_)); rcases bS hf with ⟨e18,Uy,hf⟩ | ⟨Yk,Uy,hf⟩
  · refine CL Z (qp _ Uy ?_); cases hf; exact ⟨Z,[],List.nil_sublist _,h⟩
  refine CL Z (qp _ Uy (J 0 Z (C hf Z (fun h27 hf=>?_) fun h27 hf=>?_)))
  ·
   refine B1 hf fun e19 Ux hf=>W 3 Z (AS Z (AO.aO Ux Z Z (aj.aC _) Z je (aj.aG _) Z ?_)); rcases bS hf with ⟨e20,ND,hf⟩ | ⟨Y_,ND,hf⟩
   · refine U 1 Z (CL Z (bX _ _ ND ?_)); cases hf; exact ⟨Z,[],List.nil_sublist _,h⟩
   refine U 1 Z (CL Z (bX _ _ ND ?_)); cases hf; exact Rx 1 [0] Z Z (ZC [0] Z Z h)
  refine B1 hf fun e21 Zf hf=>W 3 Z (AS Z (AO.aO Zf Z Z (aj.aC _) Z je (aj.aG _) Z ?_)); rcases bS hf with ⟨e22,h31,hf⟩ | ⟨x15,h31,hf⟩
  · refine U 1 Z (CL Z (bX _ _ h31 ?_)); cases hf; exact ⟨Z,[],List.nil_sublist _,h⟩
  refine U 1 Z (CL Z (bX _ _ h31 ?_)); cases hf; exact Rx 1 [0] Z Z (ZC [0] Z Z h)
 refine V 2 Z (C hf Z (fun h32 hf=>?_) fun h32 hf=>?_)
 ·
  rcases bS hf with ⟨e23,X3,hf⟩ | ⟨Yj,X3,hf⟩
  · refine W 3 Z (CL Z (iV _ _ X3 ?_)); cases hf; exact ⟨Z,[],List.nil_sublist _,h⟩
  refine W 3 Z (CL Z (iV _ _ X3 ?_)); refine B1 hf fun Y9 h34 hf=>CL Z (Mt _ h34 (AS Z (AO.aF Z gF (fun b6=>?_)))); refine B1 hf fun x18 h35 hf=>Rr 2 [0,0] Z Z (CL Z (om _ h35 ?_)); rcases bS hf with ⟨e24,h36,hf⟩ | ⟨_,h36,hf⟩
  · refine U 1 Z (CL Z (bQ _ _ h36 ?_)); cases hf; exact ⟨Z,[],List.nil_sublist _,h⟩
  refine U 1 Z (CL Z (bQ _ _ h36 ?_)); cases hf; exact Rx 2 [0,1] Z Z (ZC [1] Z Z h)
 rcases bS hf with ⟨e25,h37,hf⟩ | ⟨x19,h37,hf⟩
 · refine W 2 Z (CL Z (ko _ _ h37 ?_)); cases hf; exact ⟨Z,[],List.nil_sublist _,h⟩
 refine W 2 Z (CL Z (ko _ _ h37 ?_)); cases hf; exact Rx 1 [0] Z Z (ZC [0] Z Z h)
theorem K_ (bJ) (bX:nG bJ) (dB) (lY:nH dB) (dw) (iV:oI dw) (cB) (kI:lZ cB) (b_) (ko:lC b_) (s1:List aA) (e1:aj) {rX:eX aI ah} (hf:yS bJ dB dw cB b_ s1 e1=some rX) (h:Q (xW rX) τ):PC 175 [.list (List.map aA.cells s1),.agg (bI e1)] τ Q:=by
 unfold yS at hf; refine BN 40 [.cell 4 42] [0,1] Tryz.func175 Z Z Z Z Z (W 1 Z (AS Z (AO.aF Z gF (fun b4=>?_)))); refine B1 hf fun n1 h1 hf=>U 2 Z (CL Z (Um _ h1 ?_)); rcases bS hf with ⟨e2,h2,hf⟩ | ⟨_,h2,hf⟩
 · refine U 3 Z (CL Z (bQ _ _ h2 ?_)); cases hf; exact ⟨Z,[],List.nil_sublist _,h⟩
 refine U 3 Z (CL Z (bQ _ _ h2 (U 2 Z (AS Z (AO.aM (l:=e1.args) Z Z Z Z je Z (aj.aC _) ?_))))); rcases bS hf with ⟨e3,h3,hf⟩ | ⟨_,h3,hf⟩
 · refine U 2 Z (CL Z (bQ _ _ h3 ?_)); cases hf; exact ⟨Z,[],List.nil_sublist _,h⟩
 refine U 2 Z (CL Z (bQ _ _ h3 ?_)); rcases bS hf with ⟨e4,h4,hf⟩ | ⟨args1,h4,hf⟩
 · refine U 3 Z (CL Z (iV _ _ h4 ?_)); cases hf; exact ⟨Z,[],List.nil_sublist _,h⟩
 refine U 3 Z (CL Z (iV _ _ h4 (J 3 Z (C hf Z (fun h5 hf=>?_) fun h5 hf=>?_))))
 ·
  refine V 0 Z (AW.draw 5 mixed (by kernel_rfl) Z ?_); refine Ev.cs aX 3 Z ?_; refine B1 hf fun e5 h6 hf=>Ev.cons Z Z Z (AO.aO h6 Z Z (ah.aC _) Z gK (ah.aG _) Z zg) (Ev.cs aX 1 Z (Ev.nil ?_)); show AR _ _ _ _ _ _ _ _; rcases bS hf with ⟨e6,h7,hf⟩ | ⟨x1,h7,hf⟩
  · refine CL Z (QU _ _ h7 ?_); cases hf; exact ⟨Z,[],List.nil_sublist _,h⟩
  refine CL Z (QU _ _ h7 ?_); cases hf; exact Rx 1 [0] Z Z (ZC [0] Z Z h)
 refine V 0 Z (AW.draw 8 mixed (by kernel_rfl) Z ?_); refine Ev.cs aX 3 Z ?_; refine B1 hf fun e7 h8 hf=>Ev.cons Z Z Z (AO.aO h8 Z Z (ah.aC _) Z gK (ah.aG _) Z zg) (Ev.cs aX 2 Z ?_); refine B1 hf fun e8 h9 hf=>Ev.cons Z Z Z (AO.aO h9 Z Z (ah.aC _) Z gK (ah.aG _) Z zg) (Ev.cs aX 1 Z (Ev.nil ?_)); show AR _ _ _ _ _ _ _ _; rcases bS hf with ⟨e9,h10,hf⟩ | ⟨x2,h10,hf⟩
 · refine CL Z (QS _ _ _ h10 ?_); cases hf; exact ⟨Z,[],List.nil_sublist _,h⟩
 refine CL Z (QS _ _ _ h10 ?_); cases hf; exact Rx 1 [0] Z Z (ZC [0] Z Z h)
theorem MC (bJ) (bX:nG bJ) (dB) (lY:nH dB) (dw) (iV:oI dw) (cB) (kI:lZ cB) (b_) (ko:lC b_) (s1:List aA) (l1:List aj) {rX:eX aI (List ah)} (hf:zM bJ dB dw cB b_ s1 l1=some rX) (h:Q (zw rX) τ):PC 180 [.list (List.map aA.cells s1),.list (aj.aN l1)] τ Q:=by
 unfold zM at hf; refine BN 22 [.tmp 4] [0,1] Tryz.func180 Z Z Z Z Z (W 0 Z (AS Z (AO.dQ Z Z (U 2 Z (AS Z (AO.aM (l:=l1) Z Z Z Z je Z (aj.aC _) (J 1 Z (AW.row 6 42 (Uu (fun bg v1 x1=>[(0,.list (List.map aA.cells s1)),(5,.own v1 (ah.aN bg)),(8,.list (aj.aN l1)),(9,iP (l1.length:Int)),(10,iP x1)]) (fun bg v1 x1=>[.row v1 (ah.aN bg).length 6 42]) (fun bY bg v1 x1=>tK bJ s1 l1 bY bg x1=some rX) BIG [] (.slice none 0 0) 0 Z Z hf (fun _ _ _ hz=>bT hz) ?_))))))))); intro bY bg v1 x1 hf; rw [tK] at hf; refine V 1 Z (C hf Z (fun h1 hf=>?_) fun h1 hf=>?_)
 ·
  refine B1 hf fun e1 h2 hf=>W 0 Z (AS Z (AO.aO h2 Z Z (aj.aC _) Z je (aj.aG _) Z (U 1 Z (AS Z (AO.aF Z iX (fun b7=>?_)))))); rcases bS hf with ⟨e2,h3,hf⟩ | ⟨x2,h3,hf⟩
  · refine Rr 4 [0,0] Z Z (CL Z (bX _ _ h3 ?_)); cases hf; exact ⟨Z,[],List.nil_sublist _,h⟩
  refine Rr 4 [0,0] rfl rfl (CL rfl (bX _ _ h3 (AS rfl (AO.bL (ah.aN [x2]) rfl xI rfl rfl rfl (by first | rfl | simp only [List.map,ah.aG,ah.aN]) ?_)))); refine B1 hf fun jJ h4 hf=>AS Z (AO.eO (i:=1) (l:=bg) (m:=[x2]) h4 Z Z Z Z Z Z Z xI gK (ah.aC _) (ah.aC _) (ah.aC _).symm (ah.bE) (ah.cells_one) (by decide) (fun v2 s2 hs2=>?_)); cases hs2; refine fG 3 Z (AR.drop1 ?_); exact N 0 Z ⟨jJ,v2,(dA (x1 + 1)),Z,Z,Z,hf⟩
 cases hf; exact M 2 Z (Y Z h)
theorem JJ (bJ) (bX:nG bJ) (dB) (lY:nH dB) (dw) (iV:oI dw) (cB) (kI:lZ cB) (b_) (ko:lC b_) (s1:List aA) (e1:aj) {rX:eX aI ah} (hf:vV bJ dB dw cB b_ s1 e1=some rX) (h:Q (vS rX) τ):PC 177 [.list (List.map aA.cells s1),.agg (bI e1)] τ Q:=by
 unfold vV at hf; refine BN 95 [.cell 4 42] [0,1] Tryz.func177 Z Z Z Z Z (W 1 Z (AS Z (AO.aF Z gF (fun b4=>?_)))); refine B1 hf fun e2 h1 hf=>U 3 Z (AS Z (AO.aO h1 Z Z (aj.aC _) Z je (aj.aG _) Z ?_)); rcases bS hf with ⟨e3,h2,hf⟩ | ⟨x1,h2,hf⟩
 · refine U 1 Z (CL Z (bX _ _ h2 ?_)); cases hf; exact ⟨Z,[],List.nil_sublist _,h⟩
 refine U 1 Z (CL Z (bX _ _ h2 (AS Z (AO.aF Z gF (fun b5=>(Rr 5 [0] Z Z (On 4 16 20 [0,3,4,5] (e1.name == ([124,124]:Str)) Z Z Z Z (J 0 Z (C hf Z (fun h4 hf=>?_) fun h4 hf=>?_)))))))))
 ·
  rcases bS hf with ⟨e4,h5,hf⟩ | ⟨x2,h5,hf⟩
  ·
   refine V 0 Z (AW.X6 1 5 mixed (by kernel_rfl) Z Z Z ?_); refine Ev.cons Z Z Z (AO.aY (i:=0) Z Z Z kZ Z Z zg) (Ev.nil (⟨_,_,Z,Z,Z,Z,AO.call Z _ Z Z aae (qp _ h5 ?_),?_⟩))
   · cases hf; exact ⟨Z,[],List.nil_sublist _,h⟩
   refine Ev.cs aX 3 Z (Ev.nil ?_); trivial
  refine V 0 Z (AW.draw 6 mixed (by kernel_rfl) Z ?_); refine Ev.cons Z Z Z (AO.aY (i:=0) Z Z Z kZ Z Z zg) (Ev.cons Z Z Z (AO.call Z _ Z Z aae (qp _ h5 zg)) (Ev.cs aX 3 Z (Ev.cons Z Z Z (AO.aaW Z acX Z Z zg) ?_))); refine Ev.nil ?_; show AR _ _ _ _ _ _ _ _; refine J 0 Z (C hf Z (fun h6 hf=>?_) fun h6 hf=>?_)
  · cases hf; exact Wx 2 [0,1] Z Z (ZC [1] Z Z h)
  refine B1 hf fun e5 h7 hf=>W 3 Z (AS Z (AO.aO h7 Z Z (aj.aC _) Z je (aj.aG _) Z ?_)); rcases bS hf with ⟨e6,h8,hf⟩ | ⟨x3,h8,hf⟩
  · refine U 1 Z (CL Z (bX _ _ h8 ?_)); cases hf; exact ⟨Z,[],List.nil_sublist _,h⟩
  refine U 1 Z (CL Z (bX _ _ h8 ?_)); rcases bS hf with ⟨e7,h9,hf⟩ | ⟨x4,h9,hf⟩
  · refine CL Z (qp _ h9 ?_); cases hf; exact ⟨Z,[],List.nil_sublist _,h⟩
  refine CL Z (qp _ h9 ?_); refine B1 hf fun x5 h10 hf=>CL Z (jR _ h10 ?_); cases hf; exact Rx 1 [1] Z Z (ZC [1] Z Z h)
 refine B1 hf fun e8 h11 hf=>W 3 Z (AS Z (AO.aO h11 Z Z (aj.aC _) Z je (aj.aG _) Z ?_)); rcases bS hf with ⟨e9,h12,hf⟩ | ⟨x6,h12,hf⟩
 · refine U 1 Z (CL Z (bX _ _ h12 ?_)); cases hf; exact ⟨Z,[],List.nil_sublist _,h⟩
 refine U 1 Z (CL Z (bX _ _ h12 (AS Z (AO.aF Z gF (fun b6=>(Rw 5 [0] Z Z (C hf Z (fun lH hf=>?_) fun lH hf=>?_)))))))
 · refine B1 hf fun x7 lV hf=>Wr 2 [1,0] Z Z (CL Z (Ew _ _ lV ?_)); refine B1 hf fun x8 ru hf=>CL Z (jR _ ru ?_); cases hf; exact Rx 1 [2] Z Z (ZC [2] Z Z h)
 refine V 2 Z (C hf Z (fun h16 hf=>?_) fun h16 hf=>?_)
 · refine B1 hf fun x9 xB hf=>Wr 2 [1,0] Z Z (CL Z (Ew _ _ xB ?_)); refine B1 hf fun K3 h18 hf=>U 1 Z (CL Z (jR _ h18 ?_)); cases hf; exact Rx 1 [2] Z Z (ZC [2] Z Z h)
 refine V 2 Z (C hf Z (fun h19 hf=>?_) fun h19 hf=>?_)
 ·
  rcases bS hf with ⟨e10,h20,hf⟩ | ⟨Nq,h20,hf⟩
  · refine Wr 2 [1,0] Z Z (CL Z (qw _ _ h20 ?_)); cases hf; exact ⟨Z,[],List.nil_sublist _,h⟩
  refine Wr 2 [1,0] Z Z (CL Z (qw _ _ h20 ?_)); refine B1 hf fun UE h21 hf=>U 1 Z (CL Z (jR _ h21 ?_)); cases hf; exact Rx 1 [2] Z Z (ZC [2] Z Z h)
 refine V 2 Z (C hf Z (fun h22 hf=>?_) fun h22 hf=>?_)
 ·
  rcases bS hf with ⟨e11,h23,hf⟩ | ⟨Yk,h23,hf⟩
  · refine Wr 2 [1,0] Z Z (CL Z (qw _ _ h23 ?_)); cases hf; exact ⟨Z,[],List.nil_sublist _,h⟩
  refine Wr 2 [1,0] Z Z (CL Z (qw _ _ h23 ?_)); refine B1 hf fun Y_ Ry hf=>U 1 Z (CL Z (jR _ Ry ?_)); cases hf; exact Rx 1 [2] Z Z (ZC [2] Z Z h)
 refine V 2 Z (C hf Z (fun SC hf=>?_) fun SC hf=>?_)
 ·
  rcases bS hf with ⟨e12,Uy,hf⟩ | ⟨x15,Uy,hf⟩
  · refine Wr 2 [1,0] Z Z (CL Z (qw _ _ Uy ?_)); cases hf; exact ⟨Z,[],List.nil_sublist _,h⟩
  refine Wr 2 [1,0] Z Z (CL Z (qw _ _ Uy ?_)); refine B1 hf fun Yj h27 hf=>U 1 Z (CL Z (jR _ h27 ?_)); cases hf; exact Rx 1 [2] Z Z (ZC [2] Z Z h)
 refine V 2 Z (C hf Z (fun Ux hf=>?_) fun Ux hf=>?_)
 ·
  rcases bS hf with ⟨e13,ND,hf⟩ | ⟨Y9,ND,hf⟩
  · refine Wr 2 [1,0] Z Z (CL Z (qw _ _ ND ?_)); cases hf; exact ⟨Z,[],List.nil_sublist _,h⟩
  refine Wr 2 [1,0] Z Z (CL Z (qw _ _ ND ?_)); refine B1 hf fun x18 Zf hf=>U 1 Z (CL Z (jR _ Zf ?_)); cases hf; exact Rx 1 [2] Z Z (ZC [2] Z Z h)
 refine V 2 Z (C hf Z (fun h31 hf=>?_) fun h31 hf=>?_)
 ·
  rcases bS hf with ⟨e14,h32,hf⟩ | ⟨x19,h32,hf⟩
  · refine Wr 2 [1,0] Z Z (CL Z (QT _ _ h32 ?_)); cases hf; exact ⟨Z,[],List.nil_sublist _,h⟩
  refine Wr 2 [1,0] Z Z (CL Z (QT _ _ h32 ?_)); cases hf; exact Rx 1 [2] Z Z (ZC [2] Z Z h)
 rcases bS hf with ⟨e15,X3,hf⟩ | ⟨x20,X3,hf⟩
 · refine Wr 4 [1,0] Z Z (CL Z (D6 _ _ _ X3 ?_)); cases hf; exact ⟨Z,[],List.nil_sublist _,h⟩
 refine Wr 4 [1,0] Z Z (CL Z (D6 _ _ _ X3 ?_)); cases hf; exact Rx 1 [2] Z Z (ZC [2] Z Z h)
theorem Hr (bJ) (bX:nG bJ) (dB) (lY:nH dB) (dw) (iV:oI dw) (cB) (kI:lZ cB) (b_) (ko:lC b_) (s1:List aA) (e1:aj) {rX:eX aI ah} (hf:uP bJ dB dw cB b_ s1 e1=some rX) (h:Q (ug rX) τ):PC 182 [.list (List.map aA.cells s1),.agg (bI e1)] τ Q:=by
 unfold uP at hf; refine BN 41 [.cell 4 42] [0,1] Tryz.func182 Z Z Z Z Z (W 1 Z (AS Z (AO.aF Z gF (fun b4=>?_)))); rcases bS hf with ⟨e2,h1,hf⟩ | ⟨x1,h1,hf⟩
 · refine U 4 Z (CL Z (iV _ _ h1 ?_)); cases hf; exact ⟨Z,[],List.nil_sublist _,h⟩
 refine U 4 Z (CL Z (iV _ _ h1 (AS Z (AO.aM (l:=x1) Z Z Z Z gK Z (ah.aC _) ?_)))); refine J 1 Z (AW.row 7 54 (Uu (fun dK v1 i1=>[(3,.ref (bI e1)),(4,pP b4),(5,.own v1 (List.map aA.cells dK)),(13,.list (ah.aN x1)),(14,iP (x1.length:Int)),(15,iP i1)]) (fun dK v1 i1=>[.row v1 (List.map aA.cells dK).length 7 54,.box b4 [iP 0,.bool false,iP 0,.str ([]:Str),.own (.slice none 0 0) [],.own (.slice none 0 0) []]]) (fun bY dK v1 i1=>o8 e1 x1 bY dK i1=some rX) BIG [] (.slice none 0 0) 0 Z Z hf (fun _ _ _ hz=>bT hz) ?_)); intro bY dK v1 i1 hf; rw [o8] at hf; refine V 1 Z (C hf Z (fun h2 hf=>?_) fun h2 hf=>?_)
 ·
  refine B1 hf fun e3 h3 hf=>W 1 Z (AS Z (AO.aO h3 Z Z (ah.aC _) Z gK (ah.aG _) Z (U 1 Z (AS Z (AO.aF Z gF (fun b7=>(Rw 2 [0] Z Z (AW.draw 9 mixed (by kernel_rfl) Z ?_)))))))); refine Ev.cs aX 4 Z ?_; refine B1 hf fun e4 h4 hf=>Ev.cons Z Z Z (AO.aO h4 Z Z Z Z iY Z Z zg) (Ev.cs aX 1 Z (Ev.cons Z Z Z (AO.aY (i:=0) Z Z Z kZ Z Z zg) (Ev.cons Z Z Z (AO.build Z K4 Tq Z zg) ?_))); refine Ev.cons rfl rfl rfl (AO.bL (List.map aA.cells [(aA.mk e4 e3)]) rfl Ai rfl rfl rfl (by first | rfl | simp only [List.map,aA.aG]) ⟨rfl,rfl⟩) ?_; refine Ev.nil ?_; show AR _ _ _ _ _ _ _ _
  refine B1 hf fun Zq h5 hf=>AS Z (AO.eO (i:=1) (l:=dK) (m:=[(aA.mk e4 e3)]) h5 Z Z Z Z Z Z Z Ai lu Z Z Z (aA.bE) (aA.cells_one) (by decide) (fun v2 s2 hs2=>?_)); cases hs2; refine fG 3 Z (AR.drop1 ?_); exact N 0 Z ⟨Zq,v2,(dA (i1 + 1)),Z,Z,Z,hf⟩
 obtain ⟨x2,uT,h6,hf⟩:=bP hf; refine W 1 Z (CL Z (VE _ h6 (U 3 Z (AS Z (AO.aF Z gF (fun b8=>?_)))))); rcases bS hf with ⟨e5,h7,hf⟩ | ⟨_,h7,hf⟩
 · refine Rr 5 [0] Z Z (CL Z (bQ _ _ h7 ?_)); cases hf; exact ⟨Z,[],List.nil_sublist _,h⟩
 refine Rr 5 [0] Z Z (CL Z (bQ _ _ h7 ?_)); cases hf; exact Rx 2 [0,2] Z Z (ZC [2] Z Z h)
theorem qg :∀ k:Nat,(nG (gI k))∧(nH (gJ k))∧(oI (g_ k))∧(lZ (fK k))∧(lC (fC k)):=by
 intro k
 induction k with
 | zero=>exact ⟨fun _ _ _ hz=>by first | cases hz | (unfold gI at hz; cases hz),fun _ _ _ hz=>by first | cases hz | (unfold gJ at hz; cases hz),fun _ _ _ hz=>by first | cases hz | (unfold g_ at hz; cases hz),fun _ _ _ hz=>by first | cases hz | (unfold fK at hz; cases hz),fun _ _ _ hz=>by first | cases hz | (unfold fC at hz; cases hz)⟩
 | succ k ih=>exact ⟨fun rH jT eP hz τ Q hq=>K9 (gI k) ih.1 (gJ k) ih.2.1 (g_ k) ih.2.2.1 (fK k) ih.2.2.2.1 (fC k) ih.2.2.2.2 rH jT hz hq,fun rH jT eP hz τ Q hq=>K_ (gI k) ih.1 (gJ k) ih.2.1 (g_ k) ih.2.2.1 (fK k) ih.2.2.2.1 (fC k) ih.2.2.2.2 rH jT hz hq,fun rH Zb eP hz τ Q hq=>MC (gI k) ih.1 (gJ k) ih.2.1 (g_ k) ih.2.2.1 (fK k) ih.2.2.2.1 (fC k) ih.2.2.2.2 rH Zb hz hq,fun rH jT eP hz τ Q hq=>JJ (gI k) ih.1 (gJ k) ih.2.1 (g_ k) ih.2.2.1 (fK k) ih.2.2.2.1 (fC k) ih.2.2.2.2 rH jT hz hq,fun rH jT eP hz τ Q hq=>Hr (gI k) ih.1 (gJ k) ih.2.1 (g_ k) ih.2.2.1 (fK k) ih.2.2.2.1 (fC k) ih.2.2.2.2 rH jT hz hq⟩
theorem DZ (rH:List aA) (jT:aj) {eP:eX aI ah} (hf:Gw rH jT=some eP) (h:Q (xV eP) τ):PC 150 [.list (List.map aA.cells rH),.agg (bI jT)] τ Q:=
 ((qg BIG).1) rH jT hf h
theorem Yc (rH:List aA) (jT:aj) {eP:eX aI ah} (hf:Ot rH jT=some eP) (h:Q (xW eP) τ):PC 175 [.list (List.map aA.cells rH),.agg (bI jT)] τ Q:=
 ((qg BIG).2.1) rH jT hf h
theorem Y4 (rH:List aA) (Zb:List aj) {eP:eX aI (List ah)} (hf:Qi rH Zb=some eP) (h:Q (zw eP) τ):PC 180 [.list (List.map aA.cells rH),.list (aj.aN Zb)] τ Q:=
 ((qg BIG).2.2.1) rH Zb hf h
theorem V4 (rH:List aA) (jT:aj) {eP:eX aI ah} (hf:L_ rH jT=some eP) (h:Q (vS eP) τ):PC 177 [.list (List.map aA.cells rH),.agg (bI jT)] τ Q:=
 ((qg BIG).2.2.2.1) rH jT hf h
theorem VO (rH:List aA) (jT:aj) {eP:eX aI ah} (hf:KM rH jT=some eP) (h:Q (ug eP) τ):PC 182 [.list (List.map aA.cells rH),.agg (bI jT)] τ Q:=
 ((qg BIG).2.2.2.2) rH jT hf h
end
section
variable [zq]
theorem Ni (s1:List aA) (e1:aj) {r0:ah} {r1:Int} (hf:CW s1 e1=some (r0,r1)) (h:Q (.ret (.tuple [.agg (aK r0),iP r1])) τ):PC 119 [.list (List.map aA.cells s1),.agg (bI e1)] τ Q:=by
 unfold CW at hf; refine AC.none (AC.Nz 10 [.cell 4 42,.cell 5 25] [0,1] [0,1] Tryz.func119 Z Z Z Z Z Tryz.func149 Z Z Z Z Z Z Z adw (AW.sr (AR.step Z Z Z (AO.B_ Z Z Z ?_)))); refine AR.step Z Z Z (AO.aF Z gF (fun b4=>(AR.step Z Z Z (AO.aF Z Zl (fun b5=>(AR.nil [0,3,4,5] Z (AW.sr ?_))))))); refine cs 1 Z (AR.defer (vs:=[.pointer (some ⟨b4,0,none⟩),.pointer (some ⟨b5,0,none⟩)]) Z Z Z Z Z Z (AR.nil [0,3,4,5] Z (AW.sr ?_))); refine cs 2 Z ?_; rcases bS hf with ⟨f1,h1,hf⟩ | ⟨v1,h1,hf⟩
 ·
  refine AR.step Z Z Z (AO.call Z _ Z Z Ie (DZ _ _ h1 ?_)); cases hf; refine ⟨[.pointer (some ⟨b4,0,none⟩),.pointer (some ⟨b5,0,none⟩)],_,Z,Z,Z,(AR.step Z Z Z (AO.XF Z Z abC (cs 3 Z (AR.step Z Z Z (AO.aF Z Zn (fun b6=>?_))))))⟩; refine AR.bF Z Z (AO.bR (i:=0) Z Z Z ZJ Z Z Z Z Z (cs 1 Z (AR.nil [0,1,2,3] Z (AW.sr ?_)))); refine cs 1 Z (AR.nil [0,1,2,9] Z (AW.cond Z (fun _=>?_) (fun hh=>by cases hh))); refine AW.SG 1 3 4 [_] [_,_] mixed (by kernel_rfl) (by kernel_rfl) (by kernel_rfl) Z Z Z (List.Perm.refl _) ?_; refine Ev.cons Z Z Z (AO.build Z gF Tt Z zg) (Ev.nil ?_); show Ev _ _ _ _ _ _ _; refine Ev.cs aX 1 Z (Ev.cons Z Z Z (AO.aY (i:=0) Z Z Z DF Z Z zg) (Ev.nil (TF.bF Z Z (AO.bR (i:=1) Z Z Z kZ Z Z Z Z Z ?_)))); refine TF.nil ?_; show AR _ _ _ _ _ _ _ _; refine AR.bF Z Z (AO.bR (i:=1) Z Z Z DF Z Z Z Z Z (AR.nil [] Z ?_)); exact ⟨rfl,_,⟨_,_,rfl,⟨_,_,2,_,_,rfl,rfl,kZ,rfl⟩,⟨_,_,rfl,⟨_,_,1,_,_,rfl,rfl,DF,rfl⟩,rfl⟩⟩,[],List.nil_sublist _,h⟩
 refine AR.step Z Z Z (AO.call Z _ Z Z Ie (DZ _ _ h1 ?_)); cases hf; refine AR.bF Z Z (AO.bR (i:=1) Z Z Z kZ Z Z Z Z Z (AR.bF Z Z (AO.bR (i:=0) Z Z Z DF Z Z Z Z Z (AR.nil [4,5] Z (AW.ret ?_))))); refine ⟨[.pointer (some ⟨b4,0,none⟩),.pointer (some ⟨b5,0,none⟩)],_,Z,Z,Z,(AR.step Z Z Z (AO.UO (p:=.agg [iP 0]) Z Z abE (fun _ _=>by simp only [dJ]; exact ⟨[.int .i64 0],Z,bD.cons (by simp [dJ]) bD.nil⟩) ?_))⟩; refine cs 3 Z (AR.step Z Z Z (AO.aF Z Zn (fun b6=>(AR.bF Z Z (AO.bR (i:=0) Z Z Z ZJ Z Z Z Z Z (cs 1 Z ?_)))))); refine AR.nil [3] Z (AW.sr (cs 1 Z (AR.nil [9] Z ?_))); refine AW.cond Z (fun hh=>by cases hh) (fun _=>?_); refine AW.skip ?_; exact ⟨rfl,_,⟨_,_,rfl,⟨_,_,2,_,_,rfl,rfl,kZ,rfl⟩,⟨_,_,rfl,⟨_,_,1,_,_,rfl,rfl,DF,rfl⟩,rfl⟩⟩,[],List.nil_sublist _,h⟩
end
abbrev Mw (lN:ah→Option ah):Prop:=∀ (pO:ah) {aP:ah},lN pO=some aP→∀ {τ:List bn} {Q:cZ→List bn→Prop} (h:Q (.ret (.agg (aK aP))) τ),PC 120 [.agg (aK pO)] τ Q
theorem Tg (lN) (Qb:Mw lN) (v1:ah) {r0:ah} (hf:F6 lN v1=some r0) (h:Q (.ret (.agg (aK r0))) τ):PC 120 [.agg (aK v1)] τ Q:=by
 unfold F6 at hf; refine BN 31 [.cell 2 42] [0] Tryz.func120 Z Z Z Z Z (W 1 Z (AS Z (AO.aF Z gF (fun b2=>(U 1 Z (AS Z (AO.aF Z gF (fun b3=>(Rr 7 [0,0,0] Z Z (AS Z (AO.aM (l:=v1.bH) Z Z Z Z gK Z (ah.aC _) ?_))))))))))); refine J 1 Z (AW.row 6 42 (AW.row 1 9 (LK4 (fun x1 bg v2 v3=>[(1,.ref (aK v1)),(2,pP b2),(3,pP b3),(10,.list (ah.aN v1.bH)),(11,iP (v1.bH.length:Int)),(12,iP x1)]) (fun x1 bg v2 v3=>[.row v3 (List.map mo bg.keys).length 1 9,.row v2 (ah.aN bg.bH).length 6 42,.box b3 [iP bg.kind,.bool bg.iD,iP bg.iC,.str bg.gW,.own v2 (ah.aN bg.bH),.own v3 (List.map mo bg.keys)],.box b2 [iP 0,.bool false,iP 0,.str ([]:Str),.own (.slice none 0 0) [],.own (.slice none 0 0) []]]) (fun bY x1 bg v2 v3=>zY lN v1 bY x1 bg=some r0) BIG 0 (ah.mk v1.kind v1.iD v1.iC v1.gW [] []) (.slice none 0 0) (.slice none 0 0) Z Z hf (fun _ _ _ _ hz=>bT hz) ?_))); intro bY x1 bg v2 v3 hf; rw [zY] at hf; refine V 1 Z (C hf Z (fun h1 hf=>?_) fun h1 hf=>?_)
 ·
  refine B1 hf fun e1 h2 hf=>W 0 Z (AS Z (AO.aO h2 Z Z (ah.aC _) Z gK (ah.aG _) Z (U 1 Z (AS Z (AO.aF Z gF (fun b5=>(Rw 1 [0] Z Z (AW.draw 5 mixed (by kernel_rfl) Z ?_)))))))); refine Ev.cs aX 1 Z (Ev.cons Z Z Z (AO.aY (i:=3) Z Z Z HV Z Z zg) (Ev.cons Z Z Z (AO.aY (i:=0) Z Z Z kZ Z Z zg) ?_)); refine B1 hf fun x2 h3 hf=>Ev.cons rfl rfl rfl (AO.call rfl _ rfl rfl adK (Qb _ h3 ⟨rfl,rfl⟩)) (Ev.cons rfl rfl rfl (AO.bL (ah.aN [x2]) rfl xI rfl rfl rfl (by first | rfl | simp only [List.map,ah.aG,ah.aN]) ⟨rfl,rfl⟩) ?_)
  refine Ev.nil ?_; show AR _ _ _ _ _ _ _ _; refine B1 hf fun x3 h4 hf=>AS Z (AO.eO (i:=2) (l:=bg.bH) (m:=[x2]) h4 Z Z Z Z Z Z Z xI gK (ah.aC _) (ah.aC _) (ah.aC _).symm (ah.bE) (ah.cells_one) (by decide) (fun v4 s1 hs1=>?_)); cases hs1; refine Rn 4 [3] Z Z (AR.drop1 ?_); exact N 0 Z ⟨(dA (x1 + 1)),(ah.mk bg.kind bg.iD bg.iC bg.gW x3 bg.keys),v4,v3,Z,Z,Z,hf⟩
 refine B1 hf fun x4 h5 hf=>Wr 4 [2] Z Z (AS Z (AO.eO (i:=0) (l:=bg.keys) (m:=v1.keys) h5 Z Z Z Z Z Z Z rD iY Z Z Z (fun _=>Z) (fun _=>Z) (by decide) (fun v5 s2 hs2=>?_))); cases hs2; cases hf; exact Rx 4 [2,2,3] Z Z (ZC [3] Z Z h)
theorem TN :∀ k:Nat,(Mw (yU k)):=by
 intro k
 induction k with
 | zero=>exact fun _ _ hz=>by first | cases hz | (unfold yU at hz; cases hz)
 | succ k ih=>exact fun pO aP hz τ Q hq=>Tg (yU k) ih pO hz hq
theorem Un (pO:ah) {aP:ah} (hf:Qk pO=some aP) (h:Q (.ret (.agg (aK aP))) τ):PC 120 [.agg (aK pO)] τ Q:=
 ((TN BIG)) pO hf h
section
variable [zq]
theorem Jc (e1:aj) (mZ:List aA) {r0:ah} {r1:Int} (hf:EX e1 mZ=some (r0,r1)) (h:Q (.ret (.tuple [.agg (aK r0),iP r1])) τ):PC 89 [.agg (bI e1),.list (List.map aA.cells mZ)] τ Q:=by
 unfold EX at hf; refine BN 28 [.cell 4 42,.tmp 5] [0,1] Tryz.func89 Z Z Z Z Z (W 1 Z (AS Z (AO.aF Z gF (fun b4=>?_)))); obtain ⟨s1,f1,h1,hf⟩:=bP hf; refine U 3 Z (CL Z (R5 _ _ h1 (J 7 Z (C hf Z (fun h2 hf=>?_) fun h2 hf=>?_))))
 · cases hf; exact Wx 4 [0] Z Z (ZC [0] Z Z h)
 obtain ⟨x1,f2,h3,hf⟩:=bP hf; refine W 2 Z (CL Z (Ni _ _ h3 (U 3 Z (AS Z (AO.aF Z gF (fun b8=>?_)))))); refine B1 hf fun x2 h4 hf=>Rr 3 [0,0] Z Z (CL Z (Un _ h4 ?_)); cases hf; exact Rx 3 [1] Z Z (ZC [1] Z Z h)
end
abbrev Ji (pW:aD→Option aD):Prop:=∀ (Oa:aD) {aP:aD},pW Oa=some aP→∀ {τ:List bn} {Q:cZ→List bn→Prop} (h:Q (.ret (.agg (cO aP))) τ),PC 110 [.agg (cO Oa)] τ Q
theorem O4 (pW) (MV:Ji pW) (t1:aD) {r0:aD} (hf:uj pW t1=some r0) (h:Q (.ret (.agg (cO r0))) τ):PC 110 [.agg (cO t1)] τ Q:=by
 unfold uj at hf; refine BN 18 [.cell 2 61] [0] Tryz.func110 Z Z Z Z Z (W 1 Z (AS Z (AO.aF Z Dx (fun b2=>?_)))); refine B1 hf fun x1 h1 hf=>U 2 Z (CL Z (nP _ h1 (J 1 Z (C hf Z (fun h2 hf=>?_) fun h2 hf=>?_))))
 · refine BR hf fun x2 h3 hf=>?_; refine W 2 Z (CL Z (kY _ h3 ?_)); cases hf; exact Rx 1 [0] Z Z (ZC [0] Z Z h)
 refine V 0 Z (AW.draw 8 mixed (by kernel_rfl) Z ?_); refine Ev.cs aX 4 Z ?_; refine B1 hf fun e1 h4 hf=>Ev.cons Z Z Z (AO.aO h4 Z Z (aD.aC _) Z CX (aD.aG _) Z zg) (Ev.cs aX 1 Z ?_); refine B1 hf fun x3 h5 hf=>Ev.cons Z Z Z (AO.call Z _ Z Z adO (MV _ h5 zg)) ?_; refine BR hf fun x4 h6 hf=>?_; refine Ev.cons Z Z Z (AO.call Z _ Z Z Z0 (Av _ _ h6 zg)) (Ev.nil ?_); show AR _ _ _ _ _ _ _ _; cases hf; exact Rx 1 [0] Z Z (ZC [0] Z Z h)
theorem PL :∀ k:Nat,(Ji (mV k)):=by
 intro k
 induction k with
 | zero=>exact fun _ _ hz=>by first | cases hz | (unfold mV at hz; cases hz)
 | succ k ih=>exact fun Oa aP hz τ Q hq=>O4 (mV k) ih Oa hz hq
theorem IU (Oa:aD) {aP:aD} (hf:BI Oa=some aP) (h:Q (.ret (.agg (cO aP))) τ):PC 110 [.agg (cO Oa)] τ Q:=
 ((PL BIG)) Oa hf h
abbrev Kn (qQ:aD→aD→Option aD):Prop:=∀ (pQ:aD) (l6:aD) {aP:aD},qQ pQ l6=some aP→∀ {τ:List bn} {Q:cZ→List bn→Prop} (h:Q (.ret (.agg (cO aP))) τ),PC 70 [.agg (cO pQ),.agg (cO l6)] τ Q
theorem Rc (qQ) (Om:Kn qQ) (a1:aD) (b1:aD) {r0:aD} (hf:qz qQ a1 b1=some r0) (h:Q (.ret (.agg (cO r0))) τ):PC 70 [.agg (cO a1),.agg (cO b1)] τ Q:=by
 unfold qz at hf; refine BN 43 [.cell 4 61] [0,1] Tryz.func70 Z Z Z Z Z (W 2 Z (AS Z (AO.aF Z Dx (fun b4=>(J 4 Z (C hf Z (fun h1 hf=>?_) fun h1 hf=>?_))))))
 · refine BR hf fun x1 h2 hf=>?_; refine W 1 Z (CL Z (IU _ h2 ?_)); cases hf; exact Rx 1 [0] Z Z (ZC [0] Z Z h)
 refine V 4 Z (C hf Z (fun h3 hf=>?_) fun h3 hf=>?_)
 · refine BR hf fun x2 h4 hf=>?_; refine W 1 Z (CL Z (IU _ h4 ?_)); cases hf; exact Rx 1 [0] Z Z (ZC [0] Z Z h)
 refine V 6 Z (C hf Z (fun h5 hf=>?_) fun h5 hf=>?_)
 · refine BR hf fun x3 h6 hf=>?_; refine W 0 Z (CL Z (kY _ h6 ?_)); cases hf; exact Rx 1 [0] Z Z (ZC [0] Z Z h)
 refine B1 hf fun x4 h7 hf=>W 2 Z (CL Z (nP _ h7 (J 1 Z (C hf Z (fun h8 hf=>?_) fun h8 hf=>?_))))
 ·
  refine V 0 Z (AW.draw 12 mixed (by kernel_rfl) Z ?_); refine Ev.cs aX 4 Z ?_; refine B1 hf fun e1 h9 hf=>Ev.cons Z Z Z (AO.aO h9 Z Z (aD.aC _) Z CX (aD.aG _) Z zg) (Ev.cs aX 3 Z ?_); refine B1 hf fun e2 h10 hf=>Ev.cons Z Z Z (AO.aO h10 Z Z (aD.aC _) Z CX (aD.aG _) Z zg) (Ev.cs aX 1 Z ?_); refine B1 hf fun x5 h11 hf=>Ev.cons Z Z Z (AO.call Z _ Z Z acw (Om _ _ h11 zg)) ?_; refine BR hf fun x6 h12 hf=>?_; refine Ev.cons Z Z Z (AO.call Z _ Z Z Z0 (Av _ _ h12 zg)) (Ev.nil ?_); show AR _ _ _ _ _ _ _ _; cases hf; exact Rx 1 [0] Z Z (ZC [0] Z Z h)
 refine BR hf fun x7 lH hf=>?_; refine W 2 Z (CL Z (kY _ lH ?_)); cases hf; exact Rx 1 [0] Z Z (ZC [0] Z Z h)
theorem Rp :∀ k:Nat,(Kn (lJ k)):=by
 intro k
 induction k with
 | zero=>exact fun _ _ _ hz=>by first | cases hz | (unfold lJ at hz; cases hz)
 | succ k ih=>exact fun pQ l6 aP hz τ Q hq=>Rc (lJ k) ih pQ l6 hz hq
theorem RJ (pQ:aD) (l6:aD) {aP:aD} (hf:Dz pQ l6=some aP) (h:Q (.ret (.agg (cO aP))) τ):PC 70 [.agg (cO pQ),.agg (cO l6)] τ Q:=
 ((Rp BIG)) pQ l6 hf h
abbrev Ko (kN:ah→Option aD):Prop:=∀ (pO:ah) {aP:aD},kN pO=some aP→∀ {τ:List bn} {Q:cZ→List bn→Prop} (h:Q (.ret (.agg (cO aP))) τ),PC 41 [.agg (aK pO)] τ Q
theorem Rf (kN) (Oo:Ko kN) (v1:ah) {r0:aD} (hf:zU kN v1=some r0) (h:Q (.ret (.agg (cO r0))) τ):PC 41 [.agg (aK v1)] τ Q:=by
 unfold zU at hf; refine BN 40 [.cell 2 61] [0] Tryz.func41 Z Z Z Z Z (W 1 Z (AS Z (AO.aF Z Dx (fun b2=>(J 4 Z (C hf Z (fun h1 hf=>?_) fun h1 hf=>?_))))))
 · refine BR hf fun x1 h2 hf=>?_; refine W 0 Z (CL Z (kY _ h2 ?_)); cases hf; exact Rx 1 [0] Z Z (ZC [0] Z Z h)
 refine V 2 Z (C hf Z (fun h3 hf=>?_) fun h3 hf=>?_)
 · refine BR hf fun x2 h4 hf=>?_; refine W 0 Z (CL Z (kY _ h4 ?_)); cases hf; exact Rx 1 [0] Z Z (ZC [0] Z Z h)
 refine V 2 Z (C hf Z (fun h5 hf=>?_) fun h5 hf=>?_)
 · refine BR hf fun x3 h6 hf=>?_; refine W 0 Z (CL Z (kY _ h6 ?_)); cases hf; exact Rx 1 [0] Z Z (ZC [0] Z Z h)
 refine V 2 Z (C hf Z (fun h7 hf=>?_) fun h7 hf=>?_)
 · refine BR hf fun x4 h8 hf=>?_; refine W 0 Z (CL Z (kY _ h8 ?_)); cases hf; exact Rx 1 [0] Z Z (ZC [0] Z Z h)
 refine B1 hf fun x5 h9 hf=>W 0 Z (CL Z (kY _ h9 (AS Z (AO.aF Z Dx (fun b3=>(Rr 3 [0] Z Z (AS Z (AO.aM (l:=v1.bH) Z Z Z Z gK Z (ah.aC _) ?_)))))))); refine J 1 Z (Xt (fun x6 pF=>[(1,.ref (aK v1)),(2,pP b2),(3,pP b3),(22,.list (ah.aN v1.bH)),(23,iP (v1.bH.length:Int)),(24,iP x6)]) (fun x6 pF=>[.box b3 (cO pF),.box b2 [iP 0,.own (.slice none 0 0) []]]) (fun bY x6 pF=>uh kN v1 bY x6 pF=some r0) BIG 0 x5 Z Z hf (fun _ _ hz=>bT hz) ?_); intro bY x6 pF hf; rw [uh] at hf; refine V 1 Z (C hf Z (fun h10 hf=>?_) fun h10 hf=>?_)
 ·
  refine B1 hf fun e1 h11 hf=>W 0 Z (AS Z (AO.aO h11 Z Z (ah.aC _) Z gK (ah.aG _) Z (U 1 Z (AS Z (AO.aF Z gF (fun b5=>(Rw 1 [0] Z Z (AW.draw 4 mixed (by kernel_rfl) Z ?_)))))))); refine Ev.cons Z Z Z (AO.aY (i:=1) Z Z Z ZG Z Z zg) (Ev.cons Z Z Z (AO.aY (i:=0) Z Z Z kZ Z Z zg) ?_); refine B1 hf fun x7 h12 hf=>Ev.cons Z Z Z (AO.call Z _ Z Z acE (Oo _ h12 zg)) ?_; refine B1 hf fun x8 lH hf=>Ev.cons Z Z Z (AO.call Z _ Z Z acw (RJ _ _ lH zg)) (Ev.nil ?_); show AR _ _ _ _ _ _ _ _; refine Rn 3 [1] Z Z (AR.drop1 ?_); exact N 0 Z ⟨(dA (x6 + 1)),x8,Z,Z,Z,hf⟩
 refine V 3 Z (C hf Z (fun lV hf=>?_) fun lV hf=>?_)
 · refine BR hf fun x9 ru hf=>?_; refine Wr 1 [0] Z Z (CL Z (Av _ _ ru ?_)); cases hf; exact Rx 1 [1] Z Z (ZC [1] Z Z h)
 refine BR hf fun K3 h16 hf=>?_; refine Wr 1 [0] Z Z (CL Z (Av _ _ h16 ?_)); cases hf; exact Rx 1 [1] Z Z (ZC [1] Z Z h)
theorem Rq :∀ k:Nat,(Ko (mP k)):=by
 intro k
 induction k with
 | zero=>exact fun _ _ hz=>by first | cases hz | (unfold mP at hz; cases hz)
 | succ k ih=>exact fun pO aP hz τ Q hq=>Rf (mP k) ih pO hz hq
theorem RL (pO:ah) {aP:aD} (hf:Hz pO=some aP) (h:Q (.ret (.agg (cO aP))) τ):PC 41 [.agg (aK pO)] τ Q:=
 ((Rq BIG)) pO hf h
theorem IV (t1:aD) {r0:Int} (hf:pY t1=some r0) (h:Q (.ret (iP r0)) τ):PC 108 [.agg (cO t1)] τ Q:=by
 unfold pY at hf; refine BN 43 [.tmp 2] [0] Tryz.func108 Z Z Z Z Z (W 0 Z (AS Z (AO.JE Z Z (fun b1=>(J 2 Z (Xt (fun bU t2=>[(1,pP b1),(3,iP bU)]) (fun bU t2=>[.box b1 (cO t2)]) (fun bY bU t2=>kT bY bU t2=some r0) BIG 1 t1 Z Z hf (fun _ _ hz=>bT hz) ?_)))))); intro bY bU t2 hf; rw [kT] at hf; refine V 2 Z (C hf Z (fun h1 hf=>?_) fun h1 hf=>?_)
 · cases hf; exact M 1 Z (Y Z h)
 refine B1 hf fun x1 h2 hf=>Wr 2 [0] Z Z (CL Z (Ey _ h2 ?_)); refine B1 hf fun b1 h4 hf=>U 2 Z (AR.fV 10 12 22 false [1,3] b1 Z Z (fun h3=>?_) (fun h3=>?_) ?_)
 ·
  replace h4:=iO h3 h4; refine Is 12 h3 Z (U 1 Z (GO Z (AO.aY (i:=0) Z Z Z Dr Z Z ?_))); refine B1 h4 fun x2 h5 h4=>GO Z (AO.call Z _ Z Z aal (nP _ h5 (U 1 Z (AR.and 5 16 21 [1,3,12] (x:=((t2.elem.length:Int) != 1)) Z Z (fun h6=>?_) (fun h6=>?_) ?_))))
  · refine Is 16 h6 Z (U 1 Z (GO Z (AO.aY (i:=0) Z Z Z aci Z Z (GO Z (AO.aM (l:=t2.elem) Z Z Z Z CX Z (aD.aC _) ?_))))); exact fG 2 Z (En [21,1,3,12] Z)
  · refine Is 16 h6 Z ?_; exact fG 5 Z (En [21,1,3,12] Z)
  cases h4; exact fG 1 Z (En [22,1,3] Z)
 · refine IT 12 h3 h4 Z fun h4=>?_; cases h4; exact fG 10 Z (En [22,1,3] Z)
 refine B1 hf fun b2 h8 hf=>U 1 Z (AR.fV 11 23 34 false [1,3] b2 Z Z (fun h7=>?_) (fun h7=>?_) ?_)
 ·
  replace h8:=iO h7 h8; refine Is 23 h7 Z (U 1 Z (GO Z (AO.aY (i:=0) Z Z Z Dr Z Z ?_))); refine B1 h8 fun x3 h9 h8=>GO Z (AO.call Z _ Z Z aal (nP _ h9 (U 2 Z (AR.and 5 28 33 [1,3,23] (x:=((t2.elem.length:Int) != 0)) Z Z (fun h10=>?_) (fun h10=>?_) ?_))))
  · refine Is 28 h10 Z (U 1 Z (GO Z (AO.aY (i:=0) Z Z Z aci Z Z (GO Z (AO.aM (l:=t2.elem) Z Z Z Z CX Z (aD.aC _) ?_))))); exact fG 2 Z (En [33,1,3,23] Z)
  · refine Is 28 h10 Z ?_; exact fG 5 Z (En [33,1,3,23] Z)
  cases h8; exact fG 1 Z (En [34,1,3] Z)
 · refine IT 23 h7 h8 Z fun h8=>?_; cases h8; exact fG 11 Z (En [34,1,3] Z)
 refine J 0 Z (C hf Z (fun h11 hf=>?_) fun h11 hf=>?_)
 · cases hf; exact M 1 Z (Y Z h)
 refine B1 hf fun x4 h12 hf=>Wr 2 [0] Z Z (CL Z (nP _ h12 (J 1 Z (C hf Z (fun lH hf=>?_) fun lH hf=>?_))))
 · cases hf; exact M 1 Z (Y Z h)
 refine B1 hf fun e1 lV hf=>Wr 2 [0] Z Z (AS Z (AO.aO lV Z Z (aD.aC _) Z CX (aD.aG _) Z ?_)); exact Rx 5 [0] Z Z ⟨(dA (bU + 1)),e1,Z,Z,Z,hf⟩
theorem RN (a1:aD) (b1:aD) {r0:Bool} (hf:DC a1 b1=some r0) (h:Q (.ret (.bool r0)) τ):PC 67 [.agg (cO a1),.agg (cO b1)] τ Q:=by
 unfold DC at hf; refine BN 13 [.tmp 4] [0,1] Tryz.func67 Z Z Z Z Z ?_; refine B1 hf fun x1 h1 hf=>W 4 Z (CL Z (IV _ h1 ?_)); refine BR hf fun b2 h3 hf=>?_; refine U 2 Z (AR.fV 4 8 12 true [] b2 Z Z (fun h2=>?_) (fun h2=>?_) ?_)
 · refine IT 8 h2 h3 Z fun h3=>?_; refine B1 h3 fun x2 h4 h3=>U 1 Z (GO Z (AO.call Z _ Z Z adP (IV _ h4 ?_))); cases h3; exact fG 2 Z (En [12] Z)
 · refine IF 8 h2 h3 Z fun h3=>?_; cases h3; exact fG 4 Z (En [12] Z)
 cases hf; exact N 1 Z (Y Z h)
abbrev GN (oG:aD→aD→Option Bool):Prop:=∀ (pQ:aD) (l6:aD) {aP:Bool},oG pQ l6=some aP→∀ {τ:List bn} {Q:cZ→List bn→Prop} (h:Q (.ret (.bool aP)) τ),PC 68 [.agg (cO pQ),.agg (cO l6)] τ Q
theorem NZ (oG) (LZ:GN oG) (a1:aD) (b1:aD) {r0:Bool} (hf:nJ oG a1 b1=some r0) (h:Q (.ret (.bool r0)) τ):PC 68 [.agg (cO a1),.agg (cO b1)] τ Q:=by
 unfold nJ at hf; refine BN 33 [.tmp 4] [0,1] Tryz.func68 Z Z Z Z Z (W 7 Z (On 4 9 13 [2,3] (b1.kind == 0) Z Z Z Z (J 1 Z (C hf Z (fun h2 hf=>?_) fun h2 hf=>?_))))
 · cases hf; exact M 1 Z (Y Z h)
 refine V 6 Z (C hf Z (fun h3 hf=>?_) fun h3 hf=>?_)
 · cases hf; exact M 1 Z (Y Z h)
 refine B1 hf fun x1 h4 hf=>W 2 Z (CL Z (nP _ h4 (J 1 Z (C hf Z (fun h5 hf=>?_) fun h5 hf=>?_))))
 ·
  refine V 0 Z (AW.draw 10 mixed (by kernel_rfl) Z ?_); refine Ev.cs aX 2 Z ?_; refine B1 hf fun e1 h6 hf=>Ev.cons Z Z Z (AO.aO h6 Z Z (aD.aC _) Z CX (aD.aG _) Z zg) (Ev.cs aX 3 Z ?_); refine B1 hf fun e2 h7 hf=>Ev.cons Z Z Z (AO.aO h7 Z Z (aD.aC _) Z CX (aD.aG _) Z zg) (Ev.cs aX 1 Z ?_); refine BR hf fun x2 h8 hf=>?_; refine Ev.cons Z Z Z (AO.call Z _ Z Z acy (LZ _ _ h8 zg)) (Ev.cs aX 1 Z (Ev.nil ?_)); show AR _ _ _ _ _ _ _ _; cases hf; exact N 0 Z (Y Z h)
 cases hf; exact M 1 Z (Y Z h)
theorem Oi :∀ k:Nat,(GN (jU k)):=by
 intro k
 induction k with
 | zero=>exact fun _ _ _ hz=>by first | cases hz | (unfold jU at hz; cases hz)
 | succ k ih=>exact fun pQ l6 aP hz τ Q hq=>NZ (jU k) ih pQ l6 hz hq
theorem Ow (pQ:aD) (l6:aD) {aP:Bool} (hf:Eb pQ l6=some aP) (h:Q (.ret (.bool aP)) τ):PC 68 [.agg (cO pQ),.agg (cO l6)] τ Q:=
 ((Oi BIG)) pQ l6 hf h
theorem Ui (a1:aD) (b1:aD) {r0:Bool} (hf:Fu a1 b1=some r0) (h:Q (.ret (.bool r0)) τ):PC 40 [.agg (cO a1),.agg (cO b1)] τ Q:=by
 unfold Fu at hf; refine BN 13 [.tmp 4] [0,1] Tryz.func40 Z Z Z Z Z ?_; refine B1 hf fun x1 h1 hf=>W 5 Z (CL Z (RN _ _ h1 ?_)); refine BR hf fun b2 h3 hf=>?_; refine U 1 Z (AR.fV 4 8 12 true [] b2 Z Z (fun h2=>?_) (fun h2=>?_) ?_)
 · refine IT 8 h2 h3 Z fun h3=>?_; refine BR h3 fun x2 h4 h3=>?_; refine U 2 Z (GO Z (AO.call Z _ Z Z acy (Ow _ _ h4 ?_))); cases h3; exact fG 1 Z (En [12] Z)
 · refine IF 8 h2 h3 Z fun h3=>?_; cases h3; exact fG 4 Z (En [12] Z)
 cases hf; exact N 1 Z (Y Z h)
theorem Ka (v1:ah) (t1:aD) {r0:Bool} (hf:xH v1 t1=some r0) (h:Q (.ret (.bool r0)) τ):PC 22 [.agg (aK v1),.agg (cO t1)] τ Q:=by
 unfold xH at hf; refine BN 14 [.tmp 4] [0,1] Tryz.func22 Z Z Z Z Z (V 3 Z (AW.draw 10 mixed (by kernel_rfl) Z ?_)); refine Ev.cs aX 1 Z ?_; refine B1 hf fun x1 h1 hf=>Ev.cons Z Z Z (AO.call Z _ Z Z acF (om _ h1 zg)) (Ev.cs aX 2 Z ?_); refine BR hf fun b1 h3 hf=>?_; refine Ev.fV hKA 5 8 13 true [] (.bool b1) Z Z (fun h2=>?_) (fun h2=>?_) ?_
 · replace h3:=jm h2 h3; refine Ev.is Vo 8 h2 Z (Ev.cs aX 1 Z ?_); refine B1 h3 fun x2 h4 h3=>Ev.run Z Z Z Z Z Z Z (AO.call Z _ Z Z acE (RL _ h4 zg)) (Ev.cs aX 1 Z ?_); refine BR h3 fun x3 h5 h3=>?_; refine Ev.run Z Z Z Z Z Z Z (AO.call Z _ Z Z afs (Ui _ _ h5 zg)) ?_; cases h3; refine Ev.cs aX 1 Z ?_; exact Ev.nil (Less.settle (ps:=[13]) Z)
 · replace h3:=iO h2 h3; refine Ev.is Vo 8 h2 Z ?_; cases h3; refine Ev.cs aX 5 Z ?_; exact Ev.nil (Less.settle (ps:=[13]) Z)
 refine Ev.cs aX 1 Z (Ev.nil ?_); show AR _ _ _ _ _ _ _ _; cases hf; exact N 0 Z (Y Z h)
section
variable [zq]
theorem M9 (b1:au) {r0:aQ} {r1:Int} (hf:Cv b1=some (r0,r1)) (h:Q (.ret (.tuple [.agg (xP r0),iP r1])) τ):PC 83 [.agg (dW b1)] τ Q:=by
 unfold Cv at hf; refine BN 101 [.cell 2 63,.tmp 3] [0] Tryz.func83 Z Z Z Z Z (W 1 Z (AS Z (AO.aF Z Xv (fun b2=>?_)))); refine B1 hf fun x1 h1 hf=>U 3 Z (CL Z (M8 _ h1 (U 2 Z (AR.or 5 16 21 [1,2] (x:=(decide (0 < (b1.blocks.length:Int)))) Z Z (fun h2=>?_) (fun h2=>?_) ?_))))
 · refine Is 16 h2 Z (U 2 Z (GO Z (AO.aM (l:=b1.blocks) Z Z Z Z mM Z (au.aC _) ?_))); exact fG 2 Z (En [21,1,2] Z)
 · refine Is 16 h2 Z ?_; exact fG 5 Z (En [21,1,2] Z)
 refine J 0 Z (C hf Z (fun h3 hf=>?_) fun h3 hf=>?_)
 · cases hf; exact Wx 3 [0] Z Z (ZC [0] Z Z h)
 refine W 2 Z (AS Z (AO.aM (l:=b1.attrs) Z Z Z Z sF Z Z ?_)); refine J 1 Z (Gm (fun x2=>[(1,.ref (dW b1)),(2,pP b2),(24,.list (List.map aS.cells b1.attrs)),(25,iP (b1.attrs.length:Int)),(26,iP x2)]) (fun x2=>[.box b2 [.str ([]:Str),iP 0,.own (.slice none 0 0) [],.bool false,iP 0,.bool false,iP 0,.str ([]:Str),.own (.slice none 0 0) [],.own (.slice none 0 0) []]]) (fun bY x2=>tq b1 bY x2=some (r0,r1)) BIG 0 Z Z hf (fun _ hz=>bT hz) ?_); intro bY x2 hf; rw [tq] at hf; refine V 1 Z (C hf Z (fun h4 hf=>?_) fun h4 hf=>?_)
 ·
  refine B1 hf fun e1 h5 hf=>W 0 Z (AS Z (AO.aO h5 Z Z Z Z sF (aS.aG _) Z (U 1 Z (AS Z (AO.aF Z OV (fun b5=>(Rr 5 [0,0] Z Z (AR.and 4 33 37 [1,2,24,25,26] (x:=(!(e1.name == ([100,101,102,97,117,108,116]:Str)))) Z Z (fun h6=>?_) (fun h6=>?_) ?_))))))))
  · refine Is 33 h6 Z (U 1 Z (GO Z (AO.aY (i:=0) Z Z Z Pf Z Z ?_))); exact fG 2 Z (En [37,1,2,24,25,26] Z)
  · refine Is 33 h6 Z ?_; exact fG 4 Z (En [37,1,2,24,25,26] Z)
  refine J 0 Z (C hf Z (fun h7 hf=>?_) fun h7 hf=>?_)
  · cases hf; exact Wx 3 [1] Z Z (ZC [1] Z Z h)
  refine Wn0 2 Z (AR.drop1 ?_); exact N 0 Z ⟨(dA (x2 + 1)),Z,Z,Z,hf⟩
 obtain ⟨x3,is1,h8,hf⟩:=bP hf; refine W 1 Z (CL Z (EC _ _ h8 (U 3 Z (AS Z (AO.aF Z iX (fun b6=>(Rw 5 [0] Z Z (C hf Z (fun h9 hf=>?_) fun h9 hf=>?_))))))))
 · cases hf; exact Wx 3 [1] Z Z (ZC [1] Z Z h)
 refine Wr 4 [0] Z Z (AR.or 5 53 58 [1,2,6] (x:=(x3.value.kind != 3)) Z Z (fun h10=>?_) (fun h10=>?_) ?_)
 · refine Is 53 h10 Z (U 2 Z (GO Z (AO.aY (i:=0) Z Z Z Dr Z Z ?_))); exact fG 2 Z (En [58,1,2,6] Z)
 · refine Is 53 h10 Z ?_; exact fG 5 Z (En [58,1,2,6] Z)
 refine J 1 Z (C hf Z (fun h11 hf=>?_) fun h11 hf=>?_)
 · cases hf; exact Wx 3 [1] Z Z (ZC [1] Z Z h)
 obtain ⟨x4,e2,h12,hf⟩:=bP hf; refine Wr 3 [0] Z Z (CL Z (Qw _ h12 (U 3 Z (AS Z (AO.aF Z Dx (fun b8=>(Rw 4 [0] Z Z (C hf Z (fun lH hf=>?_) fun lH hf=>?_))))))))
 · cases hf; exact Wx 4 [2] Z Z (ZC [2] Z Z h)
 refine Wr 4 [0] Z Z (AS Z (AO.aF Z Xv (fun b10=>?_))); obtain ⟨x5,is2,lV,hf⟩:=bP hf; refine Rr 2 [0] Z Z (CL Z (EC _ _ lV (U 3 Z (AS Z (AO.aF Z iX (fun b11=>(Rw 4 [0] Z Z (C hf Z (fun ru hf=>?_) fun ru hf=>?_))))))))
 · cases hf; exact Wx 3 [1,4] Z Z (ZC [4] Z Z h)
 obtain ⟨x6,e3,h16,hf⟩:=bP hf; refine Wr 3 [1,0] Z Z (CL Z (Jc _ _ h16 (Rw 8 [1] Z Z (C hf Z (fun xB hf=>?_) fun xB hf=>?_))))
 · cases hf; exact Wx 4 [4] Z Z (ZC [4] Z Z h)
 refine B1 hf fun x7 h18 hf=>Wr 3 [1,2] Z Z (CL Z (Ka _ _ h18 (J 1 Z (C hf Z (fun h19 hf=>?_) fun h19 hf=>?_))))
 · cases hf; exact Wx 3 [4] Z Z (ZC [4] Z Z h)
 cases hf; exact Wx 3 [1,4] Z Z (ZC [4] Z Z h)
end
theorem JQ (q1:aQ) (c1:aQ) {r0:Bool} (hf:tu q1 c1=some r0) (h:Q (.ret (.bool r0)) τ):PC 85 [.agg (xP q1),.ref (xP c1)] τ Q:=by
 unfold tu at hf; refine BN 9 [.tmp 3] [0,1] Tryz.func85 Z Z Z Z Z ?_; cases hf; exact M 8 Z (Y Z h)
theorem mq (s1:List aQ) (f1:aQ→Option Bool) (yQ:FuncId) (CV:List PV) (Qe:aV Tryz.prog yQ=true) (Qf:∀ a0 b0,f1 a0=some b0→∀ {τ:List bn} {Q:cZ→List bn→Prop},Q (.ret (.bool b0)) τ→PC yQ ([.agg (xP a0)] ++ CV) τ Q) {r0:Int} (hf:gD s1 f1=some r0) (h:Q (.ret (iP r0)) τ):PC 19 [.list (List.map aQ.cells s1),.fn yQ CV] τ Q:=by
 unfold gD at hf; refine BN 19 [.tmp 4] [0,1] Tryz.func19 Z Z Z Z Z (W 2 Z (AS Z (AO.aM (l:=s1) Z Z Z Z Bv Z Z (J 1 Z (Gm (fun i1=>[(0,.list (List.map aQ.cells s1)),(1,.fn yQ CV),(7,iP (s1.length:Int)),(8,iP i1)]) (fun i1=>[]) (fun bY i1=>eT s1 f1 bY i1=some r0) BIG 0 Z Z hf (fun _ hz=>bT hz) ?_))))); intro bY i1 hf; rw [eT] at hf; refine V 1 Z (C hf Z (fun h1 hf=>?_) fun h1 hf=>?_)
 ·
  refine B1 hf fun e1 h2 hf=>W 5 Z (AS Z (AO.aO h2 Z Z Z Z Bv (aQ.aG _) Z ?_)); refine B1 hf fun x1 h3 hf=>U 1 Z (AS Z (AO.call Z _ Z Z Qe (Qf _ _ h3 (J 0 Z (C hf Z (fun h4 hf=>?_) fun h4 hf=>?_)))))
  · cases hf; exact M 2 Z (Y Z h)
  exact M 2 Z ⟨(dA (i1 + 1)),Z,Z,Z,hf⟩
 cases hf; exact M 1 Z (Y Z h)
theorem rA (s1:List aQ) (f1:aQ→Option Bool) (yQ:FuncId) (CV:List PV) (Qe:aV Tryz.prog yQ=true) (Qf:∀ a0 b0,f1 a0=some b0→∀ {τ:List bn} {Q:cZ→List bn→Prop},Q (.ret (.bool b0)) τ→PC yQ ([.agg (xP a0)] ++ CV) τ Q) {r0:Bool} (hf:jG s1 f1=some r0) (h:Q (.ret (.bool r0)) τ):PC 84 [.list (List.map aQ.cells s1),.fn yQ CV] τ Q:=by
 unfold jG at hf; refine BN 9 [.tmp 4] [0,1] Tryz.func84 Z Z Z Z Z ?_; refine B1 hf fun x1 h1 hf=>W 3 Z (CL Z (mq _ f1 yQ CV Qe @Qf h1 ?_)); cases hf; exact N 2 Z (Y Z h)
section
variable [zq]
theorem Mi (b1:au) {r0:List aQ} {r1:au} {r2:Int} (hf:A9 b1=some (r0,r1,r2)) (h:Q (.ret (.tuple [.list (List.map aQ.cells r0),.agg (dW r1),iP r2])) τ):PC 50 [.agg (dW b1)] τ Q:=by
 unfold A9 at hf; refine BN 56 [.tmp 2,.cell 3 38,.tmp 4] [0] Tryz.func50 Z Z Z Z Z (W 1 Z (AS Z (AO.dQ Z Z (AS Z (AO.aF Z pE (fun b3=>(J 2 Z (AW.acO 8 38 [6] mixed (by kernel_rfl) Z pE Z (by kernel_rfl) (by decide) ?_)))))))); refine Ev.cs aX 6 Z ?_; refine B1 hf fun x1 h1 hf=>Ev.cons Z Z Z (AO.call Z _ Z Z ZY (Az _ h1 zg)) (Ev.cons Z Z Z (AO.build Z pE MJ Z zg) (Ev.nil ?_)); intro b6; show AR _ _ _ _ _ _ _ _; refine Rr 3 [0] Z Z (AS Z (AO.aM (l:=b1.blocks) Z Z Z Z mM Z (au.aC _) ?_)); refine J 1 Z (AW.row 10 63 (AW.row 4 38 (LK5 (fun ps1 v1 x2 jq v2=>[(3,pP b3),(5,.own v1 (List.map aQ.cells ps1)),(6,pP b6),(20,.list (au.aN b1.blocks)),(21,iP (b1.blocks.length:Int)),(22,iP x2)]) (fun ps1 v1 x2 jq v2=>[.row v2 (au.aN jq.blocks).length 4 38,.row v1 (List.map aQ.cells ps1).length 10 63,.box b6 [.str jq.kind,.str jq.name,.list (List.map aS.cells jq.attrs),.own v2 (au.aN jq.blocks)],.box b3 [.str ([]:Str),.str ([]:Str),.own (.slice none 0 0) [],.own (.slice none 0 0) []]]) (fun bY ps1 v1 x2 jq v2=>oK b1 bY ps1 x2 jq=some (r0,r1,r2)) BIG [] (.slice none 0 0) 0 (au.mk b1.kind b1.name x1 []) (.slice none 0 0) Z Z hf (fun _ _ _ _ _ hz=>bT hz) ?_))); intro bY ps1 v1 x2 jq v2 hf; rw [oK] at hf; refine V 1 Z (C hf Z (fun h2 hf=>?_) fun h2 hf=>?_)
 ·
  refine B1 hf fun e1 h3 hf=>W 0 Z (AS Z (AO.aO h3 Z Z (au.aC _) Z mM (au.aG _) Z (U 1 Z (AS Z (AO.aF Z pE (fun b8=>(Rw 4 [0,0] Z Z (C hf Z (fun h4 hf=>?_) fun h4 hf=>?_))))))))
  ·
   refine V 0 Z (AW.draw 5 mixed (by kernel_rfl) Z ?_); refine Ev.cs aX 1 Z (Ev.cons Z Z Z (AO.aY (i:=3) Z Z Z Ct Z Z zg) (Ev.cons Z Z Z (AO.aY (i:=0) Z Z Z ng Z Z zg) ?_)); refine B1 hf fun x3 h5 hf=>Ev.cons rfl rfl rfl (AO.call rfl _ rfl rfl Z4 (Ay _ h5 ⟨rfl,rfl⟩)) (Ev.cons rfl rfl rfl (AO.bL (au.aN [x3]) rfl wz rfl rfl rfl (by first | rfl | simp only [List.map,au.aG,au.aN]) ⟨rfl,rfl⟩) ?_); refine Ev.nil ?_; show AR _ _ _ _ _ _ _ _
   refine B1 hf fun x4 h6 hf=>AS Z (AO.eO (i:=1) (l:=jq.blocks) (m:=[x3]) h6 Z Z Z Z Z Z Z wz mM (au.aC _) (au.aC _) (au.aC _).symm (au.bE) (au.cells_one) (by decide) (fun v3 s1 hs1=>?_)); cases hs1; refine Rn 4 [3] Z Z (AR.drop1 ?_); exact N 0 Z ⟨ps1,v1,(dA (x2 + 1)),(au.mk jq.kind jq.name jq.attrs x4),v3,Z,Z,Z,hf⟩
  obtain ⟨x5,e2,h7,hf⟩:=bP hf; refine Wr 1 [0] Z Z (CL Z (M9 _ h7 (U 3 Z (AS Z (AO.aF Z Xv (fun b9=>(Rw 4 [0] Z Z (C hf Z (fun h8 hf=>?_) fun h8 hf=>?_))))))))
  · refine W 2 Z (AS Z (AO.dQ Z Z ?_)); cases hf; exact Rx 2 [5] Z Z (ZC [5] Z Z h)
  refine W 1 Z (AR.Ns 9 0 Z Z Z Z ?_); refine B1 hf fun x6 h9 hf=>U 1 Z (CL Z (rA _ (fun z0=>tu z0 x5) 85 [.ref (xP x5)] afc (fun _ _ hz=>JQ _ _ hz) h9 (J 0 Z (C hf Z (fun h10 hf=>?_) fun h10 hf=>?_))))
  · refine W 1 Z (AS Z (AO.dQ Z Z ?_)); cases hf; exact Rx 2 [4] Z Z (ZC [4] Z Z h)
  refine W 2 rfl (AS rfl (AO.bL (List.map aQ.cells [x5]) rfl ZQ rfl rfl rfl (by first | rfl | simp only [List.map,aQ.aG]) ?_)); refine B1 hf fun ps2 h11 hf=>AS Z (AO.eO (i:=2) (l:=ps1) (m:=[x5]) h11 Z Z Z Z Z Z Z ZQ Bv Z Z Z (aQ.bE) (aQ.cells_one) (by decide) (fun v4 s2 hs2=>?_)); cases hs2; refine fG 3 Z (AR.drop1 ?_); exact N 0 Z ⟨ps2,v4,(dA (x2 + 1)),jq,v2,Z,Z,Z,hf⟩
 refine V 0 Z (AW.draw 3 mixed (by kernel_rfl) Z ?_); refine Ev.cs aX 1 Z (Ev.cons Z Z Z (AO.aY (i:=2) Z Z Z ng Z Z zg) (Ev.cs aX 1 Z (Ev.nil ?_))); show AR _ _ _ _ _ _ _ _; cases hf; exact Rx 2 [3] Z Z (ZC [3] Z Z h)
end
theorem IW (t1:bK) (c1:au) {r0:Bool} (hf:rO t1 c1=some r0) (h:Q (.ret (.bool r0)) τ):PC 52 [.agg (BM t1),.ref (dW c1)] τ Q:=by
 unfold rO at hf; refine BN 9 [.tmp 3] [0,1] Tryz.func52 Z Z Z Z Z ?_; cases hf; exact M 8 Z (Y Z h)
theorem kR (s1:List bK) (f1:bK→Option Bool) (yQ:FuncId) (CV:List PV) (Qe:aV Tryz.prog yQ=true) (Qf:∀ a0 b0,f1 a0=some b0→∀ {τ:List bn} {Q:cZ→List bn→Prop},Q (.ret (.bool b0)) τ→PC yQ ([.agg (BM a0)] ++ CV) τ Q) {r0:Int} (hf:gG s1 f1=some r0) (h:Q (.ret (iP r0)) τ):PC 86 [.list (List.map bK.cells s1),.fn yQ CV] τ Q:=by
 unfold gG at hf; refine BN 19 [.tmp 4] [0,1] Tryz.func86 Z Z Z Z Z (W 2 Z (AS Z (AO.aM (l:=s1) Z Z Z Z Vv Z Z (J 1 Z (Gm (fun i1=>[(0,.list (List.map bK.cells s1)),(1,.fn yQ CV),(7,iP (s1.length:Int)),(8,iP i1)]) (fun i1=>[]) (fun bY i1=>fZ s1 f1 bY i1=some r0) BIG 0 Z Z hf (fun _ hz=>bT hz) ?_))))); intro bY i1 hf; rw [fZ] at hf; refine V 1 Z (C hf Z (fun h1 hf=>?_) fun h1 hf=>?_)
 ·
  refine B1 hf fun e1 h2 hf=>W 5 Z (AS Z (AO.aO h2 Z Z Z Z Vv (bK.aG _) Z ?_)); refine B1 hf fun x1 h3 hf=>U 1 Z (AS Z (AO.call Z _ Z Z Qe (Qf _ _ h3 (J 0 Z (C hf Z (fun h4 hf=>?_) fun h4 hf=>?_)))))
  · cases hf; exact M 2 Z (Y Z h)
  exact M 2 Z ⟨(dA (i1 + 1)),Z,Z,Z,hf⟩
 cases hf; exact M 1 Z (Y Z h)
theorem pz (s1:List bK) (f1:bK→Option Bool) (yQ:FuncId) (CV:List PV) (Qe:aV Tryz.prog yQ=true) (Qf:∀ a0 b0,f1 a0=some b0→∀ {τ:List bn} {Q:cZ→List bn→Prop},Q (.ret (.bool b0)) τ→PC yQ ([.agg (BM a0)] ++ CV) τ Q) {r0:Bool} (hf:iN s1 f1=some r0) (h:Q (.ret (.bool r0)) τ):PC 51 [.list (List.map bK.cells s1),.fn yQ CV] τ Q:=by
 unfold iN at hf; refine BN 9 [.tmp 4] [0,1] Tryz.func51 Z Z Z Z Z ?_; refine B1 hf fun x1 h1 hf=>W 3 Z (CL Z (kR _ f1 yQ CV Qe @Qf h1 ?_)); cases hf; exact N 2 Z (Y Z h)
section
variable [zq]
theorem KP (f1:dY) {r0:List bK} {r1:dY} {r2:Int} (hf:zy f1=some (r0,r1,r2)) (h:Q (.ret (.tuple [.list (List.map bK.cells r0),.agg [.list (au.aN r1.blocks)],iP r2])) τ):PC 28 [.agg [.list (au.aN f1.blocks)]] τ Q:=by
 unfold zy at hf; refine BN 68 [.tmp 2,.cell 3 34,.tmp 4] [0] Tryz.func28 Z Z Z Z Z (W 1 Z (AS Z (AO.dQ Z Z (AS Z (AO.aF Z G7 (fun b3=>?_)))))); refine B1 hf fun e1 h1 hf=>U 2 Z (CL Z (Di _ h1 (J 3 Z (C hf Z (fun h2 hf=>?_) fun h2 hf=>?_))))
 · refine W 2 Z (AS Z (AO.dQ Z Z ?_)); cases hf; exact Rx 2 [0] Z Z (ZC [0] Z Z h)
 refine W 1 Z (AS Z (AO.aF Z G7 (fun b7=>(U 2 Z (AS Z (AO.aM (l:=f1.blocks) Z Z Z Z mM Z (au.aC _) ?_)))))); refine J 1 Z (AW.row 6 98 (AW.row 4 38 (LK5 (fun Dm v1 x1 jq v2=>[(3,pP b3),(6,.own v1 (List.map bK.cells Dm)),(7,pP b7),(20,.list (au.aN f1.blocks)),(21,iP (f1.blocks.length:Int)),(22,iP x1)]) (fun Dm v1 x1 jq v2=>[.row v2 (au.aN jq.blocks).length 4 38,.row v1 (List.map bK.cells Dm).length 6 98,.box b7 [.own v2 (au.aN jq.blocks)],.box b3 [.own (.slice none 0 0) []]]) (fun bY Dm v1 x1 jq v2=>nQ f1 bY Dm x1 jq=some (r0,r1,r2)) BIG [] (.slice none 0 0) 0 (dY.mk []) (.slice none 0 0) Z Z hf (fun _ _ _ _ _ hz=>bT hz) ?_))); intro bY Dm v1 x1 jq v2 hf; rw [nQ] at hf; refine V 1 Z (C hf Z (fun h3 hf=>?_) fun h3 hf=>?_)
 ·
  refine B1 hf fun e2 h4 hf=>W 0 Z (AS Z (AO.aO h4 Z Z (au.aC _) Z mM (au.aG _) Z (U 1 Z (AS Z (AO.aF Z pE (fun b9=>(Rw 4 [0,0] Z Z (C hf Z (fun h5 hf=>?_) fun h5 hf=>?_))))))))
  ·
   refine V 0 Z (AW.draw 5 mixed (by kernel_rfl) Z ?_); refine Ev.cs aX 1 Z (Ev.cons Z Z Z (AO.aY (i:=3) Z Z Z Ct Z Z zg) (Ev.cons Z Z Z (AO.aY (i:=0) Z Z Z ng Z Z zg) ?_)); refine B1 hf fun x2 h6 hf=>Ev.cons rfl rfl rfl (AO.call rfl _ rfl rfl Z4 (Ay _ h6 ⟨rfl,rfl⟩)) (Ev.cons rfl rfl rfl (AO.bL (au.aN [x2]) rfl wz rfl rfl rfl (by first | rfl | simp only [List.map,au.aG,au.aN]) ⟨rfl,rfl⟩) ?_); refine Ev.nil ?_; show AR _ _ _ _ _ _ _ _
   refine B1 hf fun x3 h7 hf=>AS Z (AO.eO (i:=1) (l:=jq.blocks) (m:=[x2]) h7 Z Z Z Z Z Z Z wz mM (au.aC _) (au.aC _) (au.aC _).symm (au.bE) (au.cells_one) (by decide) (fun v3 s1 hs1=>?_)); cases hs1; refine Rn 4 [3] Z Z (AR.drop1 ?_); exact N 0 Z ⟨Dm,v1,(dA (x1 + 1)),(dY.mk x3),v3,Z,Z,Z,hf⟩
  refine B1 hf fun x4 h8 hf=>Wr 2 [0] Z Z (CL Z (Ul _ h8 (J 1 Z (C hf Z (fun h9 hf=>?_) fun h9 hf=>?_))))
  · refine W 1 Z (AS Z (AO.dQ Z Z ?_)); cases hf; exact Rx 2 [4] Z Z (ZC [4] Z Z h)
  obtain ⟨ps1,x5,e3,h10,hf⟩:=jM hf; refine Wr 1 [0] Z Z (CL Z (Mi _ h10 (U 4 Z (AS Z (AO.aF Z pE (fun b11=>(Rw 5 [0] Z Z (C hf Z (fun h11 hf=>?_) fun h11 hf=>?_))))))))
  · refine W 2 Z (AS Z (AO.dQ Z Z ?_)); cases hf; exact Rx 2 [5] Z Z (ZC [5] Z Z h)
  refine W 1 Z (AR.Ns 9 1 Z Z Z Z ?_); refine B1 hf fun x6 h12 hf=>U 1 Z (CL Z (pz _ (fun z0=>rO z0 e2) 52 [.ref (dW e2)] afp (fun _ _ hz=>IW _ _ hz) h12 (J 0 Z (C hf Z (fun lH hf=>?_) fun lH hf=>?_))))
  · refine W 1 Z (AS Z (AO.dQ Z Z ?_)); cases hf; exact Rx 2 [4] Z Z (ZC [4] Z Z h)
  refine Wr 10 [0,0,0] rfl rfl (AS rfl (AO.bL (List.map bK.cells [(bK.mk e2.name ps1 (au.mk ([]:Str) ([]:Str) x5.attrs x5.blocks))]) rfl aco rfl rfl rfl (by first | rfl | simp only [List.map,bK.aG]) ?_)); refine B1 hf fun ts2 lV hf=>AS Z (AO.eO (i:=2) (l:=Dm) (m:=[(bK.mk e2.name ps1 (au.mk ([]:Str) ([]:Str) x5.attrs x5.blocks))]) lV Z Z Z Z Z Z Z aco Vv Z Z Z (bK.bE) (bK.cells_one) (by decide) (fun v4 s2 hs2=>?_)); cases hs2
  refine fG 3 Z (AR.drop1 ?_); exact N 0 Z ⟨ts2,v4,(dA (x1 + 1)),jq,v2,Z,Z,Z,hf⟩
 refine V 0 Z (AW.draw 3 mixed (by kernel_rfl) Z ?_); refine Ev.cs aX 1 Z (Ev.cons Z Z Z (AO.aY (i:=2) Z Z Z ae2 Z Z zg) (Ev.cs aX 1 Z (Ev.nil ?_))); show AR _ _ _ _ _ _ _ _; cases hf; exact Rx 2 [3] Z Z (ZC [3] Z Z h)
end
theorem Aw (t1:bK) (c1:au) {r0:Bool} (hf:lD t1 c1=some r0) (h:Q (.ret (.bool r0)) τ):PC 88 [.agg (BM t1),.ref (dW c1)] τ Q:=by
 unfold lD at hf; refine BN 9 [.tmp 3] [0,1] Tryz.func88 Z Z Z Z Z ?_; cases hf; exact M 8 Z (Y Z h)
theorem Mk (p1:aQ) (c1:aA) {r0:Bool} (hf:sj p1 c1=some r0) (h:Q (.ret (.bool r0)) τ):PC 20 [.agg (xP p1),.ref (zX c1)] τ Q:=by
 unfold sj at hf; refine BN 9 [.tmp 3] [0,1] Tryz.func20 Z Z Z Z Z ?_; cases hf; exact M 8 Z (Y Z h)
theorem Mh (v1:aA) (c1:Str) {r0:Bool} (hf:r_ v1 c1=some r0) (h:Q (.ret (.bool r0)) τ):PC 38 [.agg (zX v1),.ref [.str c1]] τ Q:=by
 unfold r_ at hf; refine BN 8 [.tmp 3] [0,1] Tryz.func38 Z Z Z Z Z ?_; cases hf; exact M 7 Z (Y Z h)
theorem wY (dK:List aA) (name1:Str) {r0:ah} {r1:Bool} (hf:n_ dK name1=some (r0,r1)) (h:Q (.ret (.tuple [.agg (aK r0),.bool r1])) τ):PC 21 [.list (List.map aA.cells dK),.str name1] τ Q:=by
 unfold n_ at hf; refine BN 18 [.cell 4 42,.tmp 5] [0,1] Tryz.func21 Z Z Z Z Z (W 1 Z (AS Z (AO.aF Z gF (fun b4=>?_)))); refine B1 hf fun i1 h1 hf=>U 3 Z (CL Z (nS _ (fun z0=>r_ z0 name1) 38 [.ref [.str name1]] aft (fun _ _ hz=>Mh _ _ hz) h1 (J 3 Z (C hf Z (fun h2 hf=>?_) fun h2 hf=>?_))))
 · cases hf; exact Wx 3 [0] Z Z (ZC [0] Z Z h)
 refine B1 hf fun e1 h3 hf=>W 2 Z (AS Z (AO.aO h3 Z Z Z Z lu (aA.aG _) Z ?_)); cases hf; exact Rx 4 [0] Z Z (ZC [0] Z Z h)
theorem Bo (ps1:List aQ) (args1:List aA) {r0:List aA} {r1:Int} (hf:sK ps1 args1=some (r0,r1)) (h:Q (.ret (.tuple [.list (List.map aA.cells r0),iP r1])) τ):PC 7 [.list (List.map aQ.cells ps1),.list (List.map aA.cells args1)] τ Q:=by
 unfold sK at hf; refine AC.none (AC.jH 87 [.tmp 4,.tmp 5] [0,1] Tryz.func7 Z Z Z Z Z (AW.sr (AR.step Z Z Z (AO.dQ Z Z ?_)))); refine cs 1 Z (AR.nil [0,1] Z (AW.seq (AW.sr ?_))); refine cs 1 Z (AR.step Z Z Z (AO.aM (l:=args1) Z Z Z Z lu Z Z (cs 1 Z (AR.nil [0,1,16,17,18] Z ?_)))); refine AW.block (AW.settle [0,1,16,17,18] Z (AW.ad6 (fun i1=>[(0,.list (List.map aQ.cells ps1)),(1,.list (List.map aA.cells args1)),(16,.list (List.map aA.cells args1)),(17,iP (args1.length:Int)),(18,iP i1)]) (fun i1=>[]) (fun bY i1=>ou ps1 args1 bY i1=some (r0,r1)) BIG 0 Z Z hf (fun _ hz=>bT hz) ?_)); intro bY i1 hf; rw [ou] at hf; refine AW.sr (cs 1 Z (AR.nil [0,1,16,17,18,19] Z (AW.seq ?_))); refine AW.cond Z (fun h1=>?_) (fun h1=>?_)
 ·
  replace hf:=jm h1 hf; refine AW.skip (AW.seq (AW.block (AW.sr ?_))); refine cs 1 Z ?_; refine B1 hf fun e1 h2 hf=>AR.step Z Z Z (AO.aO h2 Z Z Z Z lu (aA.aG _) Z (cs 1 Z (AR.step Z Z Z (AO.aF Z K4 (fun b7=>(cs 1 Z ?_)))))); refine AR.bF Z Z (AO.bR (i:=0) Z Z Z ae0 Z Z Z Z Z (AR.nil [0,1,6,7,16,17,18] Z (AW.sr (cs 1 Z ?_)))); refine AR.Ns 7 0 Z Z Z Z (cs 1 Z ?_); refine B1 hf fun zo h3 hf=>AR.step Z Z Z (AO.call Z _ Z Z afz (mq _ (fun z0=>sj z0 e1) 20 [.ref (zX e1)] afy (fun _ _ hz=>Mk _ _ hz) h3 (cs 1 Z (AR.nil [0,1,6,7,8,16,17,18] Z (AW.seq ?_))))); refine AW.SG 0 9 11 [] [] mixed (by kernel_rfl) (by kernel_rfl) (by kernel_rfl) Z Z Z (List.Perm.refl _) ?_; refine Ev.nil ?_; show Ev _ _ _ _ _ _ _; refine Ev.cs aX 2 Z ?_; refine B1 hf fun x1 h4 hf=>Ev.cons Z Z Z (AO.Tv h4 Z lu Z Z Z (aA.bE) Z ⟨_,Z⟩ zg) (Ev.cs aX 2 Z ?_); obtain ⟨x2,Pe,h5,hf⟩:=bP hf; refine Ev.cons Z Z Z (AO.call Z _ Z Z Z9 (wY _ _ h5 zg)) (Ev.cs aX 3 Z (Ev.nil (TF.step Z Z Z (AO.aF Z gF (fun b9=>?_))))); refine TF.bF Z Z (AO.bR (i:=0) Z Z Z kZ Z Z Z Z Z (TF.nil ?_)); show AR _ _ _ _ _ _ _ _; refine cs 1 Z (AR.nil [0,1,7,8,10,16,17,18] Z (AW.block (AW.sr ?_))); refine cs 3 Z (AR.nil [0,1,7,8,10,16,17,18,35] Z (AW.cond Z (fun h6=>?_) (fun h6=>?_)))
  · replace hf:=jm h6 hf; refine AW.sr (AR.step Z Z Z (AO.dQ Z Z (cs 1 Z (AR.nil [4,5] Z ?_)))); refine AW.ret ?_; cases hf; exact ⟨rfl,_,⟨_,_,rfl,rfl,_,_,rfl,rfl,rfl⟩,[],List.nil_sublist _,h⟩
  replace hf:=iO h6 hf; refine AW.sr (cs 2 Z (AR.nil [0,1,7,8,16,17,18,38] Z (AW.cond Z (fun h7=>?_) (fun h7=>?_))))
  · replace hf:=jm h7 hf; refine AW.sr (AR.step Z Z Z (AO.dQ Z Z (cs 1 Z (AR.nil [4,5] Z ?_)))); refine AW.ret ?_; cases hf; exact ⟨rfl,_,⟨_,_,rfl,rfl,_,_,rfl,rfl,rfl⟩,[],List.nil_sublist _,h⟩
  replace hf:=iO h7 hf; refine AW.seq (AW.draw 10 mixed (by kernel_rfl) Z ?_); refine Ev.cs aX 4 Z ?_; refine B1 hf fun e2 h8 hf=>Ev.cons Z Z Z (AO.aO h8 Z Z Z Z Bv (aQ.aG _) Z zg) (Ev.cs aX 2 Z ?_); refine B1 hf fun x3 h9 hf=>Ev.cons Z Z Z (AO.call Z _ Z Z afx (Ka _ _ h9 zg)) (Ev.cs aX 2 Z (Ev.nil ?_)); show AR _ _ _ _ _ _ _ _; refine AR.nil [0,1,16,17,18,40] Z (AW.cond Z (fun h10=>?_) (fun h10=>?_))
  · replace hf:=jm h10 hf; refine AW.sr (AR.step Z Z Z (AO.dQ Z Z (cs 1 Z (AR.nil [4,5] Z ?_)))); refine AW.ret ?_; cases hf; exact ⟨rfl,_,⟨_,_,rfl,rfl,_,_,rfl,rfl,rfl⟩,[],List.nil_sublist _,h⟩
  replace hf:=iO h10 hf; refine AW.skip (AW.region (cs 2 Z (AR.drop1 ?_))); refine AR.nil [0,1,16,17,18] Z ?_; exact ⟨(dA (i1 + 1)),Z,Z,Z,hf⟩
 replace hf:=iO h1 hf; refine AW.exit (AW.sr (cs 1 Z (AR.nil [0,1,11] Z ?_))); refine AW.seq (AW.sr (cs 1 Z (AR.step Z Z Z (AO.aM (l:=ps1) Z Z Z Z Bv Z Z ?_)))); refine cs 1 Z (AR.nil [1,11,51,52,53] Z (AW.block (AW.row 7 54 ?_))); refine AW.settle [1,11,51,52,53] Z (AW.ad5 (fun bg v1 x4=>[(1,.list (List.map aA.cells args1)),(11,.own v1 (List.map aA.cells bg)),(51,.list (List.map aQ.cells ps1)),(52,iP (ps1.length:Int)),(53,iP x4)]) (fun bg v1 x4=>[.row v1 (List.map aA.cells bg).length 7 54]) (fun ED bg v1 x4=>j3 ps1 args1 ED bg x4=some (r0,r1)) BIG [] (.slice none 0 0) 0 Z Z hf (fun _ _ _ hz=>bT hz) ?_); intro ED bg v1 x4 hf; rw [j3] at hf; refine AW.sr (cs 1 Z (AR.nil [1,11,51,52,53,54] Z (AW.seq ?_))); refine AW.cond Z (fun h11=>?_) (fun h11=>?_)
 ·
  replace hf:=jm h11 hf; refine AW.skip (AW.seq (AW.block (AW.sr ?_))); refine B1 hf fun e3 h12 hf=>AR.step Z Z Z (AO.aO h12 Z Z Z Z Bv (aQ.aG _) Z (cs 1 Z (AR.step Z Z Z (AO.aF Z Xv (fun b13=>(AR.bF Z Z (AO.bR (i:=0) Z Z Z aeZ Z Z Z Z Z ?_))))))); refine AR.nil [1,11,13,51,52,53] Z (AW.sr (cs 2 Z (AR.step Z Z Z (AO.aY (i:=0) Z Z Z Pf Z Z ?_)))); obtain ⟨x5,is1,lH,hf⟩:=bP hf; refine AR.step Z Z Z (AO.call Z _ Z Z Z9 (wY _ _ lH (cs 3 Z (AR.step Z Z Z (AO.aF Z gF (fun b14=>(AR.bF Z Z (AO.bR (i:=0) Z Z Z kZ Z Z Z Z Z ?_)))))))); refine cs 1 Z (AR.nil [1,11,13,14,15,51,52,53] Z (AW.seq ?_)); refine AW.aga (fun v2=>[(1,.list (List.map aA.cells args1)),(11,.own v1 (List.map aA.cells bg)),(13,pP b13),(14,pP b14),(51,.list (List.map aQ.cells ps1)),(52,iP (ps1.length:Int)),(53,iP x4)]) (fun v2=>[.box b14 (aK v2),.box b13 (xP e3),.row v1 (List.map aA.cells bg).length 7 54]) (fun v2=>ow bg x4 e3 (j3 ps1 args1 ED) v2=some (r0,r1)) ?_ ?_
  ·
   refine AW.block (AW.sr (cs 3 Z (AR.and 4 67 71 [1,11,13,14,15,51,52,53] (x:=(!e3.has)) Z Z (fun lV=>?_) (fun lV=>?_) ?_)))
   · refine AR.is 67 lV Z (cs 1 Z (AR.go Z Z Z Z Z Z (AO.aY (i:=1) Z Z Z ae1 Z Z (cs 2 Z ?_)))); refine AR.nil [71,1,11,13,14,15,51,52,53] Z ?_; exact ⟨Z,Z,Z,Z⟩
   · refine AR.is 67 lV Z (cs 4 Z (AR.nil [71,1,11,13,14,15,51,52,53] Z ?_)); exact ⟨Z,Z,Z,Z⟩
   refine cs 1 Z (AR.nil [1,11,13,14,15,51,52,53,64] Z (AW.cond Z (fun ru=>?_) (fun ru=>?_)))
   · replace hf:=jm ru hf; refine AW.sr (AR.step Z Z Z (AO.dQ Z Z (cs 1 Z (AR.nil [4,5] Z ?_)))); refine AW.ret ?_; cases hf; exact ⟨rfl,_,⟨_,_,rfl,rfl,_,_,rfl,rfl,rfl⟩,[],List.nil_sublist _,h⟩
   replace hf:=iO ru hf; refine AW.sr (cs 3 Z (AR.nil [1,11,13,14,51,52,53,72] Z (AW.cond Z (fun h16=>?_) (fun h16=>?_))))
   · replace hf:=jm h16 hf; refine AW.region (cs 1 Z (AR.step Z Z Z (AO.aY (i:=1) Z Z Z kZ Z Z (AR.bF Z Z (AO.bR (i:=0) Z Z Z kZ Z Z Z Z Z ?_))))); refine AR.nil [1,11,13,14,51,52,53] Z ?_; exact ⟨e3.default,Z,Z,Z,hf⟩
   replace hf:=iO h16 hf; refine AW.settle [1,11,13,14,51,52,53] Z (AW.skip ?_); exact ⟨x5,Z,Z,Z,hf⟩
  intro v2 hf; unfold ow at hf; refine AW.draw 7 mixed (by kernel_rfl) Z ?_; refine Ev.cs aX 2 Z (Ev.cons Z Z Z (AO.aY (i:=1) Z Z Z Pf Z Z zg) (Ev.cons Z Z Z (AO.aY (i:=0) Z Z Z kZ Z Z zg) ?_)); refine B1 hf fun x6 xB hf=>Ev.cons rfl rfl rfl (AO.call rfl _ rfl rfl XT (uV _ xB ⟨rfl,rfl⟩)) (Ev.cons rfl rfl rfl (AO.build rfl K4 Tq rfl ⟨rfl,rfl⟩) (Ev.cons rfl rfl rfl (AO.bL (List.map aA.cells [(aA.mk e3.name x6)]) rfl Ai rfl rfl rfl (by first | rfl | simp only [List.map,aA.aG]) ⟨rfl,rfl⟩) ?_))
  refine Ev.nil ?_; show AR _ _ _ _ _ _ _ _; refine B1 hf fun jJ h18 hf=>AR.step Z Z Z (AO.eO (i:=2) (l:=bg) (m:=[(aA.mk e3.name x6)]) h18 Z Z Z Z Z Z Z Ai lu Z Z Z (aA.bE) (aA.cells_one) (by decide) (fun v3 s1 hs1=>?_)); cases hs1; refine cs 1 Z (AR.nil [1,11,51,52,53] Z (AW.region (cs 2 Z ?_))); refine AR.drop1 (AR.drop1 (AR.nil [1,11,51,52,53] Z ?_)); exact ⟨jJ,v3,(dA (x4 + 1)),Z,Z,Z,hf⟩
 replace hf:=iO h11 hf; refine AW.exit (AW.sr (cs 3 Z (AR.nil [4,5] Z ?_))); refine AW.ret ?_; cases hf; exact ⟨rfl,_,⟨_,_,rfl,rfl,_,_,rfl,rfl,rfl⟩,[],List.nil_sublist _,h⟩
theorem OE (s1:Str) (jy:Int) {r0:Int} (hf:Em s1 jy=some r0) (h:Q (.ret (iP r0)) τ):PC 217 [.str s1,iP jy] τ Q:=by
 unfold Em at hf; refine BN 27 [.tmp 4] [0,1] Tryz.func217 Z Z Z Z Z (V 4 Z (Gm (fun i1=>[(0,.str s1),(5,iP i1)]) (fun i1=>[]) (fun bY i1=>qN s1 bY i1=some r0) BIG (dA (jy + 1)) Z Z hf (fun _ hz=>bT hz) ?_)); intro bY i1 hf; rw [qN] at hf; refine W 2 Z (AS Z (AO.cK Z Z Z Z dP Z (J 1 Z (C hf Z (fun h1 hf=>?_) fun h1 hf=>?_))))
 ·
  refine B1 hf fun x1 h2 hf=>W 2 Z (AS Z (AO.fP h2 Z dP Z Z (J 2 Z (C hf Z (fun h3 hf=>?_) fun h3 hf=>?_))))
  · exact M 6 Z ⟨(dA ((dA (i1 + 1)) + 1)),Z,Z,Z,hf⟩
  refine V 2 Z (C hf Z (fun h4 hf=>?_) fun h4 hf=>?_)
  · cases hf; exact M 3 Z (Y Z h)
  exact M 3 Z ⟨(dA (i1 + 1)),Z,Z,Z,hf⟩
 refine W 1 Z (AS Z (AO.cK Z Z Z Z dP Z ?_)); cases hf; exact N 1 Z (Y Z h)
theorem Nh (s1:Str) (jy:Int) {r0:Int} (hf:CS s1 jy=some r0) (h:Q (.ret (iP r0)) τ):PC 184 [.str s1,iP jy] τ Q:=by
 unfold CS at hf; refine BN 31 [.tmp 4] [0,1] Tryz.func184 Z Z Z Z Z (V 2 Z (Xt (fun at2 ku=>[(0,.str s1),(1,iP at2),(5,iP ku)]) (fun at2 ku=>[]) (fun bY at2 ku=>lU s1 bY at2 ku=some r0) BIG jy 0 Z Z hf (fun _ _ hz=>bT hz) ?_)); intro bY at2 ku hf; rw [lU] at hf; refine W 2 Z (AS Z (AO.cK Z Z Z Z dP Z (J 1 Z (C hf Z (fun h1 hf=>?_) fun h1 hf=>?_))))
 ·
  refine B1 hf fun x1 h2 hf=>W 2 Z (AS Z (AO.fP h2 Z dP Z Z (J 2 Z (C hf Z (fun h3 hf=>?_) fun h3 hf=>?_))))
  · refine B1 hf fun at3 h4 hf=>W 2 Z (CL Z (OE _ _ h4 ?_)); exact N 1 Z ⟨at3,ku,Z,Z,Z,hf⟩
  refine V 2 Z (C hf Z (fun h5 hf=>?_) fun h5 hf=>?_)
  · exact M 6 Z ⟨(dA (at2 + 1)),(dA (ku + 1)),Z,Z,Z,hf⟩
  refine V 2 Z (C hf Z (fun h6 hf=>?_) fun h6 hf=>?_)
  ·
   refine V 2 Z (C hf Z (fun h7 hf=>?_) fun h7 hf=>?_)
   · cases hf; exact M 2 Z (Y Z h)
   exact M 6 Z ⟨(dA (at2 + 1)),(dA (ku - 1)),Z,Z,Z,hf⟩
  exact M 3 Z ⟨(dA (at2 + 1)),ku,Z,Z,Z,hf⟩
 cases hf; exact M 1 Z (Y Z h)
theorem Ng (o_:Int) {r0:Bool} (hf:CR o_=some r0) (h:Q (.ret (.bool r0)) τ):PC 252 [.int .i32 o_] τ Q:=by
 unfold CR at hf; refine BN 9 [.tmp 2] [0] Tryz.func252 Z Z Z Z Z (W 4 Z (On 3 5 8 [] (o_ == 9) Z Z Z Z ?_)); cases hf; exact N 1 Z (Y Z h)
theorem EA (s1:Str) (jy:Int) (IQ:UInt8→Option Bool) (OT:FuncId) (Uc:List PV) (ab1:aV Tryz.prog OT=true) (ab2:∀ a0 b0,IQ a0=some b0→∀ {τ:List bn} {Q:cZ→List bn→Prop},Q (.ret (.bool b0)) τ→PC OT ([.int .u8 (a0.toNat:Int)] ++ Uc) τ Q) {r0:Int} (hf:Ao s1 jy IQ=some r0) (h:Q (.ret (iP r0)) τ):PC 253 [.str s1,iP jy,.fn OT Uc] τ Q:=by
 unfold Ao at hf; refine BN 21 [.tmp 6] [0,1,2] Tryz.func253 Z Z Z Z Z (V 1 Z (Gm (fun at2=>[(0,.str s1),(1,iP at2),(2,.fn OT Uc)]) (fun at2=>[]) (fun bY at2=>yI s1 IQ bY at2=some r0) BIG jy Z Z hf (fun _ hz=>bT hz) ?_)); intro bY at2 hf; rw [yI] at hf; refine W 2 Z (AS Z (AO.cK Z Z Z Z dP Z ?_)); refine B1 hf fun b1 h2 hf=>U 2 Z (AR.fV 6 11 17 true [0,1,2] b1 Z Z (fun h1=>?_) (fun h1=>?_) ?_)
 · refine IT 11 h1 h2 Z fun h2=>?_; refine B1 h2 fun x1 h3 h2=>U 3 Z (GO Z (AO.fP h3 Z dP Z Z ?_)); refine BR h2 fun x2 h4 h2=>?_; refine GO Z (AO.call Z _ Z Z ab1 (ab2 _ _ h4 ?_)); cases h2; exact fG 1 Z (En [17,0,1,2] Z)
 · refine IF 11 h1 h2 Z fun h2=>?_; cases h2; exact fG 6 Z (En [17,0,1,2] Z)
 refine J 0 Z (C hf Z (fun h5 hf=>?_) fun h5 hf=>?_)
 · exact M 3 Z ⟨(dA (at2 + 1)),Z,Z,Z,hf⟩
 cases hf; exact M 2 Z (Y Z h)
theorem Nf (c1:UInt8) {r0:Bool} (hf:yL c1=some r0) (h:Q (.ret (.bool r0)) τ):PC 254 [.int .u8 (c1.toNat:Int)] τ Q:=by
 unfold yL at hf; refine BN 5 [.tmp 2] [0] Tryz.func254 Z Z Z Z Z ?_; cases hf; exact M 4 Z (Y Z h)
theorem Dh (c1:UInt8) {r0:Bool} (hf:yJ c1=some r0) (h:Q (.ret (.bool r0)) τ):PC 279 [.int .u8 (c1.toNat:Int)] τ Q:=by
 unfold yJ at hf; refine BN 21 [.tmp 2] [0] Tryz.func279 Z Z Z Z Z (W 4 Z (An 3 5 8 [0] (decide ((c1.toNat:Int)≤122)) Z Z Z Z (U 1 Z (AR.or 7 9 16 [0] (x:=((decide (65≤(c1.toNat:Int))) && (decide ((c1.toNat:Int)≤90)))) Z Z (fun h2=>?_) (fun h2=>?_) ?_))))
 · refine Is 9 h2 Z (U 3 Z (An 3 12 15 [0,9] (decide ((c1.toNat:Int)≤90)) Z Z Z Z ?_)); exact fG 1 Z (En [16,0] Z)
 · refine Is 9 h2 Z ?_; exact fG 7 Z (En [16,0] Z)
 refine U 1 Z (On 3 17 20 [] ((c1.toNat:Int) == 95) Z Z Z Z ?_); cases hf; exact N 1 Z (Y Z h)
theorem z8 (c1:UInt8) {r0:Bool} (hf:uI c1=some r0) (h:Q (.ret (.bool r0)) τ):PC 281 [.int .u8 (c1.toNat:Int)] τ Q:=by
 unfold uI at hf; refine BN 9 [.tmp 2] [0] Tryz.func281 Z Z Z Z Z (W 4 Z (An 3 5 8 [] (decide ((c1.toNat:Int)≤57)) Z Z Z Z ?_)); cases hf; exact N 1 Z (Y Z h)
theorem QL (c1:UInt8) {r0:Bool} (hf:BL c1=some r0) (h:Q (.ret (.bool r0)) τ):PC 309 [.int .u8 (c1.toNat:Int)] τ Q:=by
 unfold BL at hf; refine BN 9 [.tmp 2] [0] Tryz.func309 Z Z Z Z Z ?_; refine B1 hf fun x1 h1 hf=>W 2 Z (CL Z (Dh _ h1 ?_)); refine BR hf fun b1 h3 hf=>?_; refine U 1 Z (AR.fV 3 5 8 false [] b1 Z Z (fun h2=>?_) (fun h2=>?_) ?_)
 · refine IF 5 h2 h3 Z fun h3=>?_; refine BR h3 fun x2 h4 h3=>?_; refine U 1 Z (GO Z (AO.call Z _ Z Z Z6 (z8 _ h4 ?_))); cases h3; exact fG 1 Z (En [8] Z)
 · refine IT 5 h2 h3 Z fun h3=>?_; cases h3; exact fG 3 Z (En [8] Z)
 cases hf; exact N 1 Z (Y Z h)
theorem Uk (gq:Str) (jy:Int) {r0:aZ} {r1:Int} {r2:Int} (hf:KF gq jy=some (r0,r1,r2)) (h:Q (.ret (.tuple [.agg (xO r0),iP r1,iP r2])) τ):PC 280 [.str gq,iP jy] τ Q:=by
 unfold KF at hf; refine BN 23 [.cell 4 243,.tmp 5,.tmp 6] [0,1] Tryz.func280 Z Z Z Z Z (W 0 Z (AS Z (AO.aF Z w9 (fun b4=>?_)))); refine B1 hf fun vW h1 hf=>U 4 Z (CL Z (EA _ _ BL 309 [] ac8 (fun _ _ hz=>QL _  hz) h1 (J 5 Z (C hf Z (fun h2 hf=>?_) fun h2 hf=>?_))))
 · cases hf; exact Wx 4 [0] Z Z (ZC [0] Z Z h)
 refine B1 hf fun x1 h3 hf=>W 3 Z (AS Z (AO.oM h3 Z dP Z ⟨_,Z⟩ ⟨_,Z⟩ ?_)); cases hf; exact Rx 6 [0] Z Z (ZC [0] Z Z h)
theorem RZ (zZ:Str) {r0:Bool} (hf:Ir zZ=some r0) (h:Q (.ret (.bool r0)) τ):PC 310 [.str zZ] τ Q:=by
 unfold Ir at hf; refine BN 25 [.tmp 2] [0] Tryz.func310 Z Z Z Z Z (V 3 Z (Xt (fun n1 i1=>[(0,.str zZ),(3,iP n1),(4,iP i1)]) (fun n1 i1=>[]) (fun bY n1 i1=>yK zZ bY n1 i1=some r0) BIG 0 0 Z Z hf (fun _ _ hz=>bT hz) ?_)); intro bY n1 i1 hf; rw [yK] at hf; refine W 2 Z (AS Z (AO.cK Z Z Z Z dP Z (U 2 Z (An 3 9 12 [0,3,4] (decide (n1≤9007199254740992)) Z Z Z Z (J 0 Z (C hf Z (fun h2 hf=>?_) fun h2 hf=>?_))))))
 · refine B1 hf fun x1 h3 hf=>W 4 Z (AS Z (AO.fP h3 Z dP Z Z (AS Z (AO.Tk x1 48 Z Z Z Z Z (AS Z (AO.EZ Z UK O_ Z Z ?_)))))); exact N 5 Z ⟨(dA ((dA (10 * n1)) + ((x1 - 48).toNat:Int))),(dA (i1 + 1)),Z,Z,Z,hf⟩
 cases hf; exact M 3 Z (Y Z h)
theorem QK (gq:Str) (jy:Int) {r0:aZ} {r1:Int} {r2:Int} (hf:FR gq jy=some (r0,r1,r2)) (h:Q (.ret (.tuple [.agg (xO r0),iP r1,iP r2])) τ):PC 282 [.str gq,iP jy] τ Q:=by
 unfold FR at hf; refine BN 44 [.cell 4 243,.tmp 5,.tmp 6] [0,1] Tryz.func282 Z Z Z Z Z (W 0 Z (AS Z (AO.aF Z w9 (fun b4=>?_)))); refine B1 hf fun vW h1 hf=>U 4 Z (CL Z (EA _ _ uI 281 [] Z6 (fun _ _ hz=>z8 _  hz) h1 ?_)); refine B1 hf fun text1 h2 hf=>U 4 Z (AS Z (AO.oM h2 Z dP Z ⟨_,Z⟩ ⟨_,Z⟩ (U 2 Z (AS Z (AO.cK Z Z Z Z dP Z ?_))))); refine B1 hf fun b1 h4 hf=>U 2 Z (AR.fV 4 19 23 true [0,1,4,7,8] b1 Z Z (fun h3=>?_) (fun h3=>?_) ?_)
 · refine IT 19 h3 h4 Z fun h4=>?_; refine B1 h4 fun x1 h5 h4=>U 1 Z (GO Z (AO.fP h5 Z dP Z Z ?_)); cases h4; exact fG 2 Z (En [23,0,1,4,7,8] Z)
 · refine IF 19 h3 h4 Z fun h4=>?_; cases h4; exact fG 4 Z (En [23,0,1,4,7,8] Z)
 refine B1 hf fun b2 h7 hf=>U 1 Z (AR.fV 11 24 35 false [1,4,7,8] b2 Z Z (fun h6=>?_) (fun h6=>?_) ?_)
 ·
  replace h7:=iO h6 h7; refine Is 24 h6 Z (U 2 Z (GO Z (AO.cK Z Z Z Z dP Z ?_))); refine BR h7 fun b3 h9 h7=>?_; refine U 2 Z (AR.fV 5 29 34 true [1,4,7,8,24] b3 Z Z (fun h8=>?_) (fun h8=>?_) ?_)
  · refine IT 29 h8 h9 Z fun h9=>?_; refine B1 h9 fun x2 h10 h9=>U 2 Z (GO Z (AO.fP h10 Z dP Z Z ?_)); refine BR h9 fun x3 h11 h9=>?_; refine GO Z (AO.call Z _ Z Z ac_ (Dh _ h11 ?_)); cases h9; exact fG 1 Z (En [34,1,4,7,8,24] Z)
  · refine IF 29 h8 h9 Z fun h9=>?_; cases h9; exact fG 5 Z (En [34,1,4,7,8,24] Z)
  cases h7; exact fG 1 Z (En [35,1,4,7,8] Z)
 · refine IT 24 h6 h7 Z fun h7=>?_; cases h7; exact fG 11 Z (En [35,1,4,7,8] Z)
 refine J 0 Z (C hf Z (fun h12 hf=>?_) fun h12 hf=>?_)
 · cases hf; exact Wx 4 [0] Z Z (ZC [0] Z Z h)
 refine B1 hf fun x4 lH hf=>W 1 Z (CL Z (RZ _ lH (J 0 Z (C hf Z (fun lV hf=>?_) fun lV hf=>?_))))
 · cases hf; exact Wx 4 [0] Z Z (ZC [0] Z Z h)
 cases hf; exact Wx 7 [0] Z Z (ZC [0] Z Z h)
theorem AB (c1:UInt8) {r0:Int} (hf:zH c1=some r0) (h:Q (.ret (iP r0)) τ):PC 328 [.int .u8 (c1.toNat:Int)] τ Q:=by
 unfold zH at hf; refine BN 31 [.tmp 2] [0] Tryz.func328 Z Z Z Z Z ?_; refine B1 hf fun x1 h1 hf=>W 2 Z (CL Z (z8 _ h1 (J 1 Z (C hf Z (fun h2 hf=>?_) fun h2 hf=>?_))))
 · refine W 1 Z (AS Z (AO.Tk c1 48 Z Z Z Z Z (AS Z (AO.EZ Z UK O_ Z Z ?_)))); cases hf; exact N 1 Z (Y Z h)
 refine W 3 Z (An 3 12 15 [0] (decide ((c1.toNat:Int)≤102)) Z Z Z Z (J 1 Z (C hf Z (fun h4 hf=>?_) fun h4 hf=>?_)))
 · refine W 1 Z (AS Z (AO.Tk c1 97 Z Z Z Z Z (AS Z (AO.EZ Z UK O_ Z Z ?_)))); cases hf; exact N 2 Z (Y Z h)
 refine W 3 Z (An 3 23 26 [0] (decide ((c1.toNat:Int)≤70)) Z Z Z Z (J 1 Z (C hf Z (fun h6 hf=>?_) fun h6 hf=>?_)))
 · refine W 1 Z (AS Z (AO.Tk c1 65 Z Z Z Z Z (AS Z (AO.EZ Z UK O_ Z Z ?_)))); cases hf; exact N 2 Z (Y Z h)
 cases hf; exact M 1 Z (Y Z h)
theorem OD (gq:Str) (jy:Int) {r0:UInt8} {r1:Int} (hf:El gq jy=some (r0,r1)) (h:Q (.ret (.tuple [.int .u8 (r0.toNat:Int),iP r1])) τ):PC 311 [.str gq,iP jy] τ Q:=by
 unfold El at hf; refine BN 61 [.tmp 4,.tmp 5] [0,1] Tryz.func311 Z Z Z Z Z (W 5 Z (AS Z (AO.cK Z Z Z Z dP Z (J 1 Z (C hf Z (fun h1 hf=>?_) fun h1 hf=>?_)))))
 · cases hf; exact M 2 Z (Y Z h)
 refine B1 hf fun c1 h2 hf=>W 3 Z (AS Z (AO.fP h2 Z dP Z Z (J 4 Z (C hf Z (fun h3 hf=>?_) fun h3 hf=>?_))))
 ·
  refine V 0 Z (AW.cond Z (fun h4=>?_) (fun h4=>?_))
  · cases hf; exact M 3 Z (Y Z h)
  cases h3.symm.trans h4
 refine V 2 Z (C hf Z (fun h5 hf=>?_) fun h5 hf=>?_)
 · cases hf; exact M 3 Z (Y Z h)
 refine V 2 Z (C hf Z (fun h6 hf=>?_) fun h6 hf=>?_)
 · cases hf; exact M 2 Z (Y Z h)
 refine V 2 Z (C hf Z (fun h7 hf=>?_) fun h7 hf=>?_)
 · cases hf; exact M 2 Z (Y Z h)
 refine V 2 Z (C hf Z (fun h8 hf=>?_) fun h8 hf=>?_)
 ·
  refine W 3 Z (AS Z (AO.cK Z Z Z Z dP Z ?_)); refine B1 hf fun b1 h10 hf=>U 2 Z (AR.fV 7 32 39 true [0,1] b1 Z Z (fun h9=>?_) (fun h9=>?_) ?_)
  · refine IT 32 h9 h10 Z fun h10=>?_; refine B1 h10 fun x1 h11 h10=>U 3 Z (GO Z (AO.fP h11 Z dP Z Z ?_)); refine B1 h10 fun x2 h12 h10=>GO Z (AO.call Z _ Z Z Pv (AB _ h12 ?_)); cases h10; exact fG 2 Z (En [39,0,1] Z)
  · refine IF 32 h9 h10 Z fun h10=>?_; cases h10; exact fG 7 Z (En [39,0,1] Z)
  refine B1 hf fun b2 lV hf=>U 1 Z (AR.fV 7 40 47 true [0,1] b2 Z Z (fun lH=>?_) (fun lH=>?_) ?_)
  · refine IT 40 lH lV Z fun lV=>?_; refine B1 lV fun x3 ru lV=>U 3 Z (GO Z (AO.fP ru Z dP Z Z ?_)); refine B1 lV fun x4 h16 lV=>GO Z (AO.call Z _ Z Z Pv (AB _ h16 ?_)); cases lV; exact fG 2 Z (En [47,0,1] Z)
  · refine IF 40 lH lV Z fun lV=>?_; cases lV; exact fG 7 Z (En [47,0,1] Z)
  refine J 0 Z (C hf Z (fun xB hf=>?_) fun xB hf=>?_)
  ·
   refine V 0 Z (AW.draw 15 mixed (by kernel_rfl) Z ?_); refine Ev.cs aX 3 Z ?_; refine B1 hf fun x5 h18 hf=>Ev.cons Z Z Z (AO.fP h18 Z dP Z Z zg) ?_; refine B1 hf fun x6 h19 hf=>Ev.cons Z Z Z (AO.call Z _ Z Z Pv (AB _ h19 zg)) (Ev.cs aX 4 Z ?_); refine B1 hf fun x7 h20 hf=>Ev.cons Z Z Z (AO.fP h20 Z dP Z Z zg) ?_; refine B1 hf fun x8 h21 hf=>Ev.cons Z Z Z (AO.call Z _ Z Z Pv (AB _ h21 zg)) (Ev.cs aX 1 Z (Ev.cons Z Z Z (AO.Vy Z O_ UK Z zg) (Ev.cs aX 2 Z ?_))); refine Ev.nil ?_; show AR _ _ _ _ _ _ _ _; cases hf; exact N 0 Z (Y Z h)
  cases hf; exact M 2 Z (Y Z h)
 cases hf; exact M 2 Z (Y Z h)
theorem RY (gq:Str) (jy:Int) {r0:Bool} (hf:Iq gq jy=some r0) (h:Q (.ret (.bool r0)) τ):PC 312 [.str gq,iP jy] τ Q:=by
 unfold Iq at hf; refine BN 32 [.tmp 4] [0,1] Tryz.func312 Z Z Z Z Z ?_; refine B1 hf fun jq h1 hf=>W 4 Z (AS Z (AO.oM h1 Z dP Z ⟨_,Z⟩ Z (U 4 Z (On 3 12 15 [5] (jq == ([120]:Str)) Z Z Z Z ?_)))); refine BR hf fun b1 h4 hf=>?_; refine U 1 Z (AR.fV 15 16 31 false [] b1 Z Z (fun h3=>?_) (fun h3=>?_) ?_)
 ·
  replace h4:=iO h3 h4; refine Is 16 h3 Z (U 1 Z (GO Z (AO.cK Z Z Z Z dP Z ?_))); refine B1 h4 fun b2 h6 h4=>U 2 Z (AR.fV 4 20 24 true [5,16] b2 Z Z (fun h5=>?_) (fun h5=>?_) ?_)
  · refine IT 20 h5 h6 Z fun h6=>?_; refine B1 h6 fun x1 h7 h6=>U 1 Z (GO Z (AO.fP h7 Z dP Z Z ?_)); cases h6; exact fG 2 Z (En [24,5,16] Z)
  · refine IF 20 h5 h6 Z fun h6=>?_; cases h6; exact fG 4 Z (En [24,5,16] Z)
  refine BR h4 fun b3 h9 h4=>?_; refine U 1 Z (AR.fV 5 25 30 true [16] b3 Z Z (fun h8=>?_) (fun h8=>?_) ?_)
  · refine IT 25 h8 h9 Z fun h9=>?_; refine B1 h9 fun x2 h10 h9=>U 1 Z (GO Z (AO.fP h10 Z dP Z Z ?_)); refine B1 h9 fun x3 h11 h9=>GO Z (AO.call Z _ Z Z Pv (AB _ h11 ?_)); cases h9; exact fG 2 Z (En [30,16] Z)
  · refine IF 25 h8 h9 Z fun h9=>?_; cases h9; exact fG 5 Z (En [30,16] Z)
  cases h4; exact fG 1 Z (En [31] Z)
 · refine IT 16 h3 h4 Z fun h4=>?_; cases h4; exact fG 15 Z (En [31] Z)
 cases hf; exact N 1 Z (Y Z h)
theorem Uj (gq:Str) (jy:Int) {r0:aZ} {r1:Int} {r2:Int} (hf:KE gq jy=some (r0,r1,r2)) (h:Q (.ret (.tuple [.agg (xO r0),iP r1,iP r2])) τ):PC 283 [.str gq,iP jy] τ Q:=by
 unfold KE at hf; refine BN 68 [.cell 4 243,.tmp 5,.tmp 6] [0,1] Tryz.func283 Z Z Z Z Z (W 0 Z (AS Z (AO.aF Z w9 (fun b4=>(U 2 Z (AS Z (AO.Cn (eu:=5) Z Mx Z (fun b7=>(J 3 Z (Uu (fun i1 b1 v1=>[(0,.str gq),(1,iP jy),(4,pP b4),(7,pP b7),(8,iP i1)]) (fun i1 b1 v1=>[.Kj b7 v1 167 5 b1,.box b4 [iP 0,.str ([]:Str),iP 0]]) (fun bY i1 b1 v1=>wF gq jy bY i1 b1=some (r0,r1,r2)) BIG (dA (jy + 1)) [] (.slice none 0 0) Z Z hf (fun _ _ _ hz=>bT hz) ?_)))))))))); intro bY i1 b1 v1 hf; rw [wF] at hf; refine W 2 Z (AS Z (AO.cK Z Z Z Z dP Z (J 1 Z (C hf Z (fun h1 hf=>?_) fun h1 hf=>?_))))
 ·
  refine B1 hf fun c1 h2 hf=>W 2 Z (AS Z (AO.fP h2 Z dP Z Z (J 4 Z (C hf Z (fun h3 hf=>?_) fun h3 hf=>?_))))
  ·
   refine W 0 Z (CL Z (AC.one 0 Z (SQ ⟨_,Z,(J 1 Z (C hf Z (fun h4 hf=>?_) fun h4 hf=>?_))⟩)))
   · cases hf; exact Wx 4 [1] Z Z (ZC [1] Z Z h)
   refine W 0 Z (CL Z (AC.Ju 0 Z (vK ?_))); cases hf; exact Rx 7 [0] Z Z (ZC [0] Z Z h)
  refine V 3 Z (C hf Z (fun h5 hf=>?_) fun h5 hf=>?_)
  · cases hf; exact Wx 4 [1] Z Z (ZC [1] Z Z h)
  refine V 3 Z (C hf Z (fun h6 hf=>?_) fun h6 hf=>?_)
  ·
   obtain ⟨x1,n1,h7,hf⟩:=bP hf; refine W 2 Z (CL Z (OD _ _ h7 ?_)); refine B1 hf fun b2 h9 hf=>U 8 Z (AR.fV 4 52 56 true [0,1,4,7,8,10,11] b2 Z Z (fun h8=>?_) (fun h8=>?_) ?_)
   · refine IT 52 h8 h9 Z fun h9=>?_; refine BR h9 fun x2 h10 h9=>?_; refine U 2 Z (GO Z (AO.call Z _ Z Z ac7 (RY _ _ h10 ?_))); cases h9; exact fG 1 Z (En [56,0,1,4,7,8,10,11] Z)
   · refine IF 52 h8 h9 Z fun h9=>?_; cases h9; exact fG 4 Z (En [56,0,1,4,7,8,10,11] Z)
   refine J 1 Z (C hf Z (fun h11 hf=>?_) fun h11 hf=>?_)
   · cases hf; exact Wx 4 [1] Z Z (ZC [1] Z Z h)
   refine V 3 Z (C hf Z (fun h12 hf=>?_) fun h12 hf=>?_)
   · cases hf; exact Wx 4 [1] Z Z (ZC [1] Z Z h)
   refine B1 hf fun b3 lH hf=>W 1 Z (CL Z (AC.one 0 Z (ig lH (fun v2=>⟨_,Z,?_⟩)))); exact N 4 Z ⟨(dA (i1 + n1)),b3,v2,Z,Z,Z,hf⟩
  refine B1 hf fun b4 lV hf=>W 1 Z (CL Z (AC.one 0 Z (ig lV (fun v3=>⟨_,Z,?_⟩)))); exact N 3 Z ⟨(dA (i1 + 1)),b4,v3,Z,Z,Z,hf⟩
 cases hf; exact Wx 4 [1] Z Z (ZC [1] Z Z h)
theorem Nb (gq:Str) (jy:Int) {r0:aZ} {r1:Int} {r2:Int} (hf:CP gq jy=some (r0,r1,r2)) (h:Q (.ret (.tuple [.agg (xO r0),iP r1,iP r2])) τ):PC 284 [.str gq,iP jy] τ Q:=by
 unfold CP at hf; refine BN 63 [.cell 4 243,.tmp 5,.tmp 6] [0,1] Tryz.func284 Z Z Z Z Z (W 0 Z (AS Z (AO.aF Z w9 (fun b4=>(U 2 Z (AS Z (AO.bL (List.map LW ([2,1]:List Int)) Z Pk Z Z Z Z (AS Z (AO.aM (l:=([2,1]:List Int)) Z Z Z Z Es Z Z ?_))))))))); refine J 1 Z (Gm (fun x1=>[(0,.str gq),(1,iP jy),(4,pP b4),(10,.list (List.map LW ([2,1]:List Int))),(11,iP (([2,1]:List Int).length:Int)),(12,iP x1)]) (fun x1=>[.box b4 [iP 0,.str ([]:Str),iP 0]]) (fun bY x1=>qh gq jy bY x1=some (r0,r1,r2)) BIG 0 Z Z hf (fun _ hz=>bT hz) ?_); intro bY x1 hf; rw [qh] at hf; refine V 1 Z (C hf Z (fun h1 hf=>?_) fun h1 hf=>?_)
 ·
  refine B1 hf fun n1 h2 hf=>W 0 Z (AS Z (AO.aO h2 Z Z Z Z Es Z Z (U 6 Z (AS Z (AO.cK Z Z Z Z dP Z (J 1 Z (C hf Z (fun h3 hf=>?_) fun h3 hf=>?_)))))))
  · exact M 2 Z ⟨(dA (x1 + 1)),Z,Z,Z,hf⟩
  refine B1 hf fun s1 h4 hf=>W 5 Z (AS Z (AO.oM h4 Z dP Z ⟨_,Z⟩ ⟨_,Z⟩ (J 4 Z (C hf Z (fun h5 hf=>?_) fun h5 hf=>?_))))
  ·
   refine V 0 Z (AW.cond Z (fun h6=>?_) (fun h6=>?_))
   · cases hf; exact Wx 9 [0] Z Z (ZC [0] Z Z h)
   cases h5.symm.trans h6
  refine V 2 Z (C hf Z (fun h7 hf=>?_) fun h7 hf=>?_)
  ·
   refine V 0 Z (AW.cond Z (fun h8=>?_) (fun h8=>?_))
   · cases hf; exact Wx 9 [0] Z Z (ZC [0] Z Z h)
   cases h7.symm.trans h8
  refine V 2 Z (C hf Z (fun h9 hf=>?_) fun h9 hf=>?_)
  ·
   refine V 0 Z (AW.cond Z (fun h10=>?_) (fun h10=>?_))
   · cases hf; exact Wx 9 [0] Z Z (ZC [0] Z Z h)
   cases h9.symm.trans h10
  refine V 2 Z (C hf Z (fun h11 hf=>?_) fun h11 hf=>?_)
  ·
   refine V 0 Z (AW.cond Z (fun h12=>?_) (fun h12=>?_))
   · cases hf; exact Wx 9 [0] Z Z (ZC [0] Z Z h)
   cases h11.symm.trans h12
  refine V 2 Z (C hf Z (fun lH hf=>?_) fun lH hf=>?_)
  ·
   refine V 0 Z (AW.cond Z (fun lV=>?_) (fun lV=>?_))
   · cases hf; exact Wx 9 [0] Z Z (ZC [0] Z Z h)
   cases lH.symm.trans lV
  refine V 2 Z (C hf Z (fun ru hf=>?_) fun ru hf=>?_)
  ·
   refine V 0 Z (AW.cond Z (fun h16=>?_) (fun h16=>?_))
   · cases hf; exact Wx 9 [0] Z Z (ZC [0] Z Z h)
   cases ru.symm.trans h16
  refine V 2 Z (C hf Z (fun xB hf=>?_) fun xB hf=>?_)
  ·
   refine V 0 Z (AW.cond Z (fun h18=>?_) (fun h18=>?_))
   · cases hf; exact Wx 9 [0] Z Z (ZC [0] Z Z h)
   cases xB.symm.trans h18
  refine V 2 Z (C hf Z (fun h19 hf=>?_) fun h19 hf=>?_)
  ·
   refine V 0 Z (AW.cond Z (fun h20=>?_) (fun h20=>?_))
   · cases hf; exact Wx 9 [0] Z Z (ZC [0] Z Z h)
   cases h19.symm.trans h20
  refine V 2 Z (C hf Z (fun h21 hf=>?_) fun h21 hf=>?_)
  ·
   refine V 0 Z (AW.cond Z (fun h22=>?_) (fun h22=>?_))
   · cases hf; exact Wx 9 [0] Z Z (ZC [0] Z Z h)
   cases h21.symm.trans h22
  refine V 2 Z (C hf Z (fun h23 hf=>?_) fun h23 hf=>?_)
  ·
   refine V 0 Z (AW.cond Z (fun Ry=>?_) (fun Ry=>?_))
   · cases hf; exact Wx 9 [0] Z Z (ZC [0] Z Z h)
   cases h23.symm.trans Ry
  refine V 2 Z (C hf Z (fun SC hf=>?_) fun SC hf=>?_)
  ·
   refine V 0 Z (AW.cond Z (fun Uy=>?_) (fun Uy=>?_))
   · cases hf; exact Wx 9 [0] Z Z (ZC [0] Z Z h)
   cases SC.symm.trans Uy
  refine V 2 Z (C hf Z (fun h27 hf=>?_) fun h27 hf=>?_)
  ·
   refine V 0 Z (AW.cond Z (fun Ux=>?_) (fun Ux=>?_))
   · cases hf; exact Wx 9 [0] Z Z (ZC [0] Z Z h)
   cases h27.symm.trans Ux
  refine V 2 Z (C hf Z (fun ND hf=>?_) fun ND hf=>?_)
  ·
   refine V 0 Z (AW.cond Z (fun Zf=>?_) (fun Zf=>?_))
   · cases hf; exact Wx 9 [0] Z Z (ZC [0] Z Z h)
   cases ND.symm.trans Zf
  refine V 2 Z (C hf Z (fun h31 hf=>?_) fun h31 hf=>?_)
  ·
   refine V 0 Z (AW.cond Z (fun h32=>?_) (fun h32=>?_))
   · cases hf; exact Wx 9 [0] Z Z (ZC [0] Z Z h)
   cases h31.symm.trans h32
  refine V 2 Z (C hf Z (fun X3 hf=>?_) fun X3 hf=>?_)
  ·
   refine V 0 Z (AW.cond Z (fun h34=>?_) (fun h34=>?_))
   · cases hf; exact Wx 9 [0] Z Z (ZC [0] Z Z h)
   cases X3.symm.trans h34
  refine V 2 Z (C hf Z (fun h35 hf=>?_) fun h35 hf=>?_)
  ·
   refine V 0 Z (AW.cond Z (fun h36=>?_) (fun h36=>?_))
   · cases hf; exact Wx 9 [0] Z Z (ZC [0] Z Z h)
   cases h35.symm.trans h36
  refine V 2 Z (C hf Z (fun h37 hf=>?_) fun h37 hf=>?_)
  ·
   refine V 0 Z (AW.cond Z (fun h38=>?_) (fun h38=>?_))
   · cases hf; exact Wx 9 [0] Z Z (ZC [0] Z Z h)
   cases h37.symm.trans h38
  refine V 2 Z (C hf Z (fun h39 hf=>?_) fun h39 hf=>?_)
  ·
   refine V 0 Z (AW.cond Z (fun h40=>?_) (fun h40=>?_))
   · cases hf; exact Wx 9 [0] Z Z (ZC [0] Z Z h)
   cases h39.symm.trans h40
  refine V 2 Z (C hf Z (fun h41 hf=>?_) fun h41 hf=>?_)
  ·
   refine V 0 Z (AW.cond Z (fun h42=>?_) (fun h42=>?_))
   · cases hf; exact Wx 9 [0] Z Z (ZC [0] Z Z h)
   cases h41.symm.trans h42
  refine V 2 Z (C hf Z (fun h43 hf=>?_) fun h43 hf=>?_)
  ·
   refine V 0 Z (AW.cond Z (fun h44=>?_) (fun h44=>?_))
   · cases hf; exact Wx 9 [0] Z Z (ZC [0] Z Z h)
   cases h43.symm.trans h44
  refine V 2 Z (C hf Z (fun h45 hf=>?_) fun h45 hf=>?_)
  ·
   refine V 0 Z (AW.cond Z (fun h46=>?_) (fun h46=>?_))
   · cases hf; exact Wx 9 [0] Z Z (ZC [0] Z Z h)
   cases h45.symm.trans h46
  refine V 2 Z (C hf Z (fun h47 hf=>?_) fun h47 hf=>?_)
  ·
   refine V 0 Z (AW.cond Z (fun h48=>?_) (fun h48=>?_))
   · cases hf; exact Wx 9 [0] Z Z (ZC [0] Z Z h)
   cases h47.symm.trans h48
  refine V 2 Z (C hf Z (fun h49 hf=>?_) fun h49 hf=>?_)
  ·
   refine V 0 Z (AW.cond Z (fun h50=>?_) (fun h50=>?_))
   · cases hf; exact Wx 9 [0] Z Z (ZC [0] Z Z h)
   cases h49.symm.trans h50
  refine V 2 Z (C hf Z (fun h51 hf=>?_) fun h51 hf=>?_)
  ·
   refine V 0 Z (AW.cond Z (fun h52=>?_) (fun h52=>?_))
   · cases hf; exact Wx 9 [0] Z Z (ZC [0] Z Z h)
   cases h51.symm.trans h52
  refine V 2 Z (C hf Z (fun h53 hf=>?_) fun h53 hf=>?_)
  · cases hf; exact Wx 9 [0] Z Z (ZC [0] Z Z h)
  exact M 2 Z ⟨(dA (x1 + 1)),Z,Z,Z,hf⟩
 cases hf; exact Wx 4 [0] Z Z (ZC [0] Z Z h)
theorem RX (gq:Str) (jy:Int) {r0:aZ} {r1:Int} {r2:Int} (hf:Ip gq jy=some (r0,r1,r2)) (h:Q (.ret (.tuple [.agg (xO r0),iP r1,iP r2])) τ):PC 255 [.str gq,iP jy] τ Q:=by
 unfold Ip at hf; refine BN 44 [.cell 4 243,.tmp 5,.tmp 6] [0,1] Tryz.func255 Z Z Z Z Z (W 0 Z (AS Z (AO.aF Z w9 (fun b4=>?_)))); refine B1 hf fun c1 h1 hf=>U 4 Z (AS Z (AO.fP h1 Z dP Z Z ?_)); refine B1 hf fun x1 h2 hf=>U 2 Z (CL Z (Dh _ h2 (J 1 Z (C hf Z (fun h3 hf=>?_) fun h3 hf=>?_))))
 · replace hf:=(Fa _).trans hf; obtain ⟨x2,x3,x4,h4,hf⟩:=jM hf; refine W 2 Z (CL Z (Uk _ _ h4 ?_)); cases hf; exact Rx 6 [0] Z Z (ZC [0] Z Z h)
 refine B1 hf fun x5 h5 hf=>W 1 Z (CL Z (z8 _ h5 (J 1 Z (C hf Z (fun h6 hf=>?_) fun h6 hf=>?_))))
 · replace hf:=(Fa _).trans hf; obtain ⟨x6,x7,x8,h7,hf⟩:=jM hf; refine W 2 Z (CL Z (QK _ _ h7 ?_)); cases hf; exact Rx 6 [0] Z Z (ZC [0] Z Z h)
 refine V 3 Z (C hf Z (fun h8 hf=>?_) fun h8 hf=>?_)
 · replace hf:=(Fa _).trans hf; obtain ⟨x9,K3,Nq,h9,hf⟩:=jM hf; refine W 2 Z (CL Z (Uj _ _ h9 ?_)); cases hf; exact Rx 6 [0] Z Z (ZC [0] Z Z h)
 replace hf:=(Fa _).trans hf; obtain ⟨UE,Yk,Y_,h10,hf⟩:=jM hf; refine W 2 Z (CL Z (Nb _ _ h10 ?_)); cases hf; exact Rx 6 [0] Z Z (ZC [0] Z Z h)
theorem Nc (op1:Str) (ku:Int) {r0:Int} (hf:CQ op1 ku=some r0) (h:Q (.ret (iP r0)) τ):PC 256 [.str op1,iP ku] τ Q:=by
 unfold CQ at hf; refine BN 18 [.tmp 4] [0,1] Tryz.func256 Z Z Z Z Z (V 4 Z (C hf Z (fun h1 hf=>?_) fun h1 hf=>?_))
 ·
  refine V 0 Z (AW.cond Z (fun h2=>?_) (fun h2=>?_))
  · cases hf; exact M 3 Z (Y Z h)
  cases h1.symm.trans h2
 refine V 2 Z (C hf Z (fun h3 hf=>?_) fun h3 hf=>?_)
 · cases hf; exact M 3 Z (Y Z h)
 refine V 2 Z (C hf Z (fun h4 hf=>?_) fun h4 hf=>?_)
 ·
  refine V 0 Z (AW.cond Z (fun h5=>?_) (fun h5=>?_))
  · refine W 2 Z (AS Z (AO.max2 Z Z Z Z Z ?_)); cases hf; exact N 1 Z (Y Z h)
  cases h4.symm.trans h5
 refine V 2 Z (C hf Z (fun h6 hf=>?_) fun h6 hf=>?_)
 · refine W 2 Z (AS Z (AO.max2 Z Z Z Z Z ?_)); cases hf; exact N 1 Z (Y Z h)
 cases hf; exact M 2 Z (Y Z h)
theorem QM (gq:Str) {r0:List aZ} {r1:Int} {r2:Int} (hf:FT gq=some (r0,r1,r2)) (h:Q (.ret (.tuple [.list (List.map aZ.cells r0),iP r1,iP r2])) τ):PC 218 [.str gq] τ Q:=by
 unfold FT at hf; refine BN 84 [.tmp 2,.tmp 3,.tmp 4] [0] Tryz.func218 Z Z Z Z Z (W 0 Z (AS Z (AO.dQ Z Z (U 3 Z (AS Z (AO.cK Z Z Z Z dP Z (J 1 Z (C hf Z (fun h1 hf=>?_) fun h1 hf=>?_))))))))
 · refine W 0 Z (AS Z (AO.dQ Z Z ?_)); cases hf; exact N 2 Z (Y Z h)
 refine W 5 Z (AS Z (AO.Yz Z dP Z (fun afL=>(J 0 Z (AW.row 3 243 (LK5 (fun bg v1 EP ku pos1=>[(0,.str gq),(5,.own v1 (List.map aZ.cells bg)),(6,.fn 252 []),(7,iP EP),(8,iP ku),(18,pP afL)]) (fun bg v1 EP ku pos1=>[.row v1 (List.map aZ.cells bg).length 3 243,.obj afL (.stringIter ⟨List.toArray gq⟩ pos1)]) (fun bY bg v1 EP ku pos1=>kW gq bY bg EP ku pos1=some (r0,r1,r2)) BIG [] (.slice none 0 0) 0 0 0 Z Z hf (fun _ _ _ _ _ hz=>bT hz) ?_)))))); intro bY bg v1 EP ku pos1 hf; rw [kW] at hf; rcases Bool.eq_false_or_eq_true (decide (pos1 < gq.length)) with h2 | h2
 ·
  replace hf:=jm h2 hf; refine W 0 Z (AS Z (AO.aas (i:=1) Z Z Z h2 (J 1 Z (AW.cond Z (fun h3=>?_) (fun h3=>?_)))))
  ·
   refine B1 hf fun b1 h5 hf=>W 8 Z (AR.fV 4 26 30 false [0,5,6,7,8,9,10,18] b1 Z Z (fun h4=>?_) (fun h4=>?_) ?_)
   · refine IF 26 h4 h5 Z fun h5=>?_; refine BR h5 fun x1 h6 h5=>?_; refine U 2 Z (GO Z (AO.call Z _ Z Z ade (Ng _ h6 ?_))); cases h5; exact fG 1 Z (En [30,0,5,6,7,8,9,10,18] Z)
   · refine IT 26 h4 h5 Z fun h5=>?_; cases h5; exact fG 4 Z (En [30,0,5,6,7,8,9,10,18] Z)
   refine J 0 Z (C hf Z (fun h7 hf=>?_) fun h7 hf=>?_)
   · exact M 0 Z ⟨bg,v1,EP,ku,(pos1 + (dec gq pos1).2),Z,Z,Z,hf⟩
   refine V 2 Z (C hf Z (fun h8 hf=>?_) fun h8 hf=>?_)
   · refine B1 hf fun aat h9 hf=>W 2 Z (CL Z (EA _ _ yL 254 [] adb (fun _ _ hz=>Nf _  hz) h9 ?_)); exact N 1 Z ⟨bg,v1,aat,ku,(pos1 + (dec gq pos1).2),Z,Z,Z,hf⟩
   refine V 2 Z (C hf Z (fun h10 hf=>?_) fun h10 hf=>?_)
   ·
    refine B1 hf fun b2 h12 hf=>W 3 Z (AR.fV 14 40 54 true [0,5,6,7,8,9,18] b2 Z Z (fun h11=>?_) (fun h11=>?_) ?_)
    ·
     replace h12:=jm h11 h12; refine Is 40 h11 Z (U 1 Z (GO Z (AO.aM (l:=bg) Z Z Z Z yV Z Z ?_))); refine BR h12 fun b3 lV h12=>?_; refine U 2 Z (AR.fV 9 44 53 false [0,5,6,7,8,9,18,40] b3 Z Z (fun lH=>?_) (fun lH=>?_) ?_)
     · replace lV:=iO lH lV; refine Is 44 lH Z (U 2 Z (GO Z (AO.aM (l:=bg) Z Z Z Z yV Z Z ?_))); refine B1 lV fun e1 ru lV=>U 1 Z (GO Z (AO.aO ru Z Z Z Z yV (aZ.aG _) Z ?_)); cases lV; exact fG 4 Z (En [53,0,5,6,7,8,9,18,40] Z)
     · refine IT 44 lH lV Z fun lV=>?_; cases lV; exact fG 9 Z (En [53,0,5,6,7,8,9,18,40] Z)
     cases h12; exact fG 1 Z (En [54,0,5,6,7,8,9,18] Z)
    · refine IF 40 h11 h12 Z fun h12=>?_; cases h12; exact fG 14 Z (En [54,0,5,6,7,8,9,18] Z)
    refine J 0 Z (C hf Z (fun h16 hf=>?_) fun h16 hf=>?_)
    · refine W 3 rfl (AS rfl (AO.bL (List.map aZ.cells [(aZ.mk 5 ([]:Str) (pos1:Int))]) rfl ML rfl rfl rfl (by first | rfl | simp only [List.map,aZ.aG]) ?_)); refine B1 hf fun jJ xB hf=>AS Z (AO.eO (i:=0) (l:=bg) (m:=[(aZ.mk 5 ([]:Str) (pos1:Int))]) xB Z Z Z Z Z Z Z ML yV Z Z Z (aZ.bE) (aZ.cells_one) (by decide) (fun v2 s1 hs1=>?_)); cases hs1; exact N 1 Z ⟨jJ,v2,EP,ku,(pos1 + (dec gq pos1).2),Z,Z,Z,hf⟩
    exact M 0 Z ⟨bg,v1,EP,ku,(pos1 + (dec gq pos1).2),Z,Z,Z,hf⟩
   obtain ⟨x2,vW,e2,h18,hf⟩:=jM hf; refine W 2 Z (CL Z (RX _ _ h18 (U 4 Z (AS Z (AO.aF Z w9 (fun b11=>(Rw 5 [0] Z Z (C hf Z (fun h19 hf=>?_) fun h19 hf=>?_))))))))
   · refine W 2 Z (AS Z (AO.dQ Z Z ?_)); cases hf; exact N 2 Z (Y Z h)
   refine Ww 3 [0] Z Z (C hf Z (fun h20 hf=>?_) fun h20 hf=>?_)
   · refine B1 hf fun aar h21 hf=>Wr 3 [0] rfl rfl (CL rfl (Nc _ _ h21 (Rr 3 [0] rfl rfl (AS rfl (AO.bL (List.map aZ.cells [x2]) rfl ML rfl rfl rfl (by first | rfl | simp only [List.map,aZ.aG]) ?_))))); refine B1 hf fun WH h22 hf=>AS Z (AO.eO (i:=1) (l:=bg) (m:=[x2]) h22 Z Z Z Z Z Z Z ML yV Z Z Z (aZ.bE) (aZ.cells_one) (by decide) (fun v3 s2 hs2=>?_)); cases hs2; refine fG 3 Z (AR.drop1 ?_); exact N 0 Z ⟨WH,v3,vW,aar,(pos1 + (dec gq pos1).2),Z,Z,Z,hf⟩
   refine Wr 2 [0] rfl rfl (AS rfl (AO.bL (List.map aZ.cells [x2]) rfl ML rfl rfl rfl (by first | rfl | simp only [List.map,aZ.aG]) ?_)); refine B1 hf fun adW h23 hf=>AS Z (AO.eO (i:=1) (l:=bg) (m:=[x2]) h23 Z Z Z Z Z Z Z ML yV Z Z Z (aZ.bE) (aZ.cells_one) (by decide) (fun v4 s3 hs3=>?_)); cases hs3; refine fG 3 Z (AR.drop1 ?_); exact N 0 Z ⟨adW,v4,vW,ku,(pos1 + (dec gq pos1).2),Z,Z,Z,hf⟩
  cases h3
 replace hf:=iO h2 hf; refine W 0 Z (AS Z (AO.YG (i:=1) Z Z Z h2 (J 1 Z (AW.cond Z (fun Ry=>?_) (fun Ry=>?_)))))
 · cases Ry
 cases hf; exact M 4 Z (Y Z h)
section
variable [zq]
theorem Na (s1:Str) {r0:Bool} (hf:CJ s1=some r0) (h:Q (.ret (.bool r0)) τ):PC 345 [.str s1] τ Q:=by
 unfold CJ at hf; refine BN 40 [.tmp 2] [0] Tryz.func345 Z Z Z Z Z ?_; refine B1 hf fun b1 h2 hf=>W 4 Z (AR.fV 9 8 17 false [0] b1 Z Z (fun h1=>?_) (fun h1=>?_) ?_)
 ·
  replace h2:=iO h1 h2; refine Is 8 h1 Z (U 1 Z (GO Z (AO.cK Z Z Z Z dP Z ?_))); refine BR h2 fun b2 h4 h2=>?_; refine U 2 Z (AR.fV 4 12 16 true [0,8] b2 Z Z (fun h3=>?_) (fun h3=>?_) ?_)
  · refine IT 12 h3 h4 Z fun h4=>?_; refine B1 h4 fun x1 h5 h4=>U 1 Z (GO Z (AO.fP h5 Z dP Z Z ?_)); cases h4; exact fG 2 Z (En [16,0,8] Z)
  · refine IF 12 h3 h4 Z fun h4=>?_; cases h4; exact fG 4 Z (En [16,0,8] Z)
  cases h2; exact fG 1 Z (En [17,0] Z)
 · refine IT 8 h1 h2 Z fun h2=>?_; cases h2; exact fG 9 Z (En [17,0] Z)
 refine J 0 Z (C hf Z (fun h6 hf=>?_) fun h6 hf=>?_)
 · cases hf; exact M 1 Z (Y Z h)
 refine V 1 Z (Gm (fun i1=>[(0,.str s1),(3,iP i1)]) (fun i1=>[]) (fun bY i1=>tC s1 bY i1=some r0) BIG 0 Z Z hf (fun _ hz=>bT hz) ?_); intro bY i1 hf; rw [tC] at hf; refine W 2 Z (AS Z (AO.cK Z Z Z Z dP Z (J 1 Z (C hf Z (fun h7 hf=>?_) fun h7 hf=>?_))))
 ·
  refine B1 hf fun x2 h8 hf=>W 2 Z (AS Z (AO.fP h8 Z dP Z Z ?_)); refine B1 hf fun x3 h9 hf=>CL Z (I9 _ h9 (J 1 Z (C hf Z (fun h10 hf=>?_) fun h10 hf=>?_)))
  · cases hf; exact M 1 Z (Y Z h)
  exact M 3 Z ⟨(dA (i1 + 1)),Z,Z,Z,hf⟩
 obtain ⟨n1,Dt,h11,hf⟩:=bP hf; refine W 1 Z (CL Z (Df _ h11 (U 6 Z (AS Z (AO.eqNil Z aaB Z Z (U 1 Z (An 3 36 39 [] (decide (n1≤9007199254740992)) Z Z Z Z ?_))))))); cases hf; exact N 1 Z (Y Z h)
end
section
variable [zq]
theorem RQ (t1:aZ) {r0:Bool} (hf:Ih t1=some r0) (h:Q (.ret (.bool r0)) τ):PC 341 [.agg (xO t1)] τ Q:=by
 unfold Ih at hf; refine BN 23 [.tmp 2] [0] Tryz.func341 Z Z Z Z Z (V 6 Z (C hf Z (fun h1 hf=>?_) fun h1 hf=>?_))
 · refine BR hf fun x1 h2 hf=>?_; refine W 2 Z (CL Z (Kc _ h2 ?_)); cases hf; exact N 1 Z (Y Z h)
 refine V 2 Z (C hf Z (fun h3 hf=>?_) fun h3 hf=>?_)
 · refine BR hf fun x2 h4 hf=>?_; refine W 2 Z (CL Z (Na _ h4 ?_)); cases hf; exact N 1 Z (Y Z h)
 refine V 2 Z (C hf Z (fun h5 hf=>?_) fun h5 hf=>?_)
 · refine W 2 Z (AS Z (AO.cK Z Z Z Z dP Z ?_)); cases hf; exact N 2 Z (Y Z h)
 refine V 2 Z (C hf Z (fun h6 hf=>?_) fun h6 hf=>?_)
 · cases hf; exact M 1 Z (Y Z h)
 cases hf; exact M 1 Z (Y Z h)
end
section
variable [zq]
theorem qo (p1:Nat) (o_:ak) {r0:aZ} {o9:ak} (hf:mF o_=some (r0,o9)) {Q:cZ→List bn→Prop} (h:Q (.ret (.agg (xO r0))) [.box p1 (aW o9)]):PC 330 [pP p1] [.box p1 (aW o_)] Q:=by
 unfold mF at hf; refine BD 37 [.cell 2 243] [0] Tryz.func330 Z Z Z Z Z (W 0 Z (AS Z (AO.aF Z w9 (fun b2=>(J 0 Z (AW.draw 23 mixed (by kernel_rfl) Z ?_)))))); refine Ev.cs aX 3 Z (Ev.cons Z Z Z (AO.aY (i:=1) Z Z Z Dr Z Z zg) (Ev.cs aX 3 Z (Ev.cons Z Z Z (AO.aY (i:=1) Z Z Z Tn Z Z zg) ?_))); refine Ev.cons Z Z Z (AO.aM (l:=o_.ts) Z Z Z Z yV Z Z zg) (Ev.cs aX 2 Z ?_); refine B1 hf fun b1 h2 hf=>Ev.fV hKA 12 13 25 true [0,2] (.bool b1) Z Z (fun h1=>?_) (fun h1=>?_) ?_
 ·
  replace h2:=jm h1 h2; refine Ev.is Vo 13 h1 Z (Ev.cs aX 3 Z (Ev.run Z Z Z Z Z Z Z (AO.aY (i:=1) Z Z Z Tn Z Z zg) (Ev.cs aX 3 Z ?_))); refine Ev.run Z Z Z Z Z Z Z (AO.aY (i:=1) Z Z Z Dr Z Z zg) ?_; refine B1 h2 fun e1 h3 h2=>Ev.run Z Z Z Z Z Z Z (AO.aO h3 Z Z Z Z yV (aZ.aG _) Z zg) (Ev.cs aX 1 Z ?_); refine BR h2 fun x1 h4 h2=>?_; refine Ev.run Z Z Z Z Z Z Z (AO.call Z _ Z Z ac6 (RQ _ h4 zg)) ?_; cases h2; refine Ev.cs aX 1 Z ?_; exact Ev.nil (Less.settle (ps:=[25,0,2]) Z)
 · replace h2:=iO h1 h2; refine Ev.is Vo 13 h1 Z ?_; cases h2; refine Ev.cs aX 12 Z ?_; exact Ev.nil (Less.settle (ps:=[25,0,2]) Z)
 refine Ev.nil ?_; show AR _ _ _ _ _ _ _ _; refine J 0 Z (C hf Z (fun h5 hf=>?_) fun h5 hf=>?_)
 ·
  refine V 0 Z (AW.draw 10 mixed (by kernel_rfl) Z ?_); refine Ev.cs aX 3 Z (Ev.cons Z Z Z (AO.aY (i:=1) Z Z Z Tn Z Z zg) (Ev.cs aX 3 Z (Ev.cons Z Z Z (AO.aY (i:=1) Z Z Z Dr Z Z zg) ?_))); refine B1 hf fun e2 h6 hf=>Ev.cons Z Z Z (AO.aO h6 Z Z Z Z yV (aZ.aG _) Z zg) (Ev.cs aX 1 Z (Ev.nil ?_)); show AR _ _ _ _ _ _ _ _; cases hf; exact Rx 1 [0] rfl rfl ⟨rfl,_,⟨_,_,rfl,⟨_,_,0,_,_,rfl,rfl,MG,rfl⟩,rfl⟩,_,(.cons _ (.cons_cons _ (List.nil_sublist _))),h⟩
 cases hf; exact Wx 2 [0] rfl rfl ⟨rfl,_,⟨_,_,rfl,⟨_,_,0,_,_,rfl,rfl,MG,rfl⟩,rfl⟩,_,(.cons _ (.cons_cons _ (List.nil_sublist _))),h⟩
end
section
variable [zq]
theorem KW (p1:Nat) (o_:ak) (op1:Str) {r0:Bool} {o9:ak} (hf:zF o_ op1=some (r0,o9)) {Q:cZ→List bn→Prop} (h:Q (.ret (.bool r0)) [.box p1 (aW o9)]):PC 331 [pP p1,.str op1] [.box p1 (aW o_)] Q:=by
 unfold zF at hf; refine BD 17 [.tmp 4] [0,1] Tryz.func331 Z Z Z Z Z ?_; obtain ⟨x1,y1,h1,hf⟩:=bP hf; refine W 2 Z (CL Z (AC.one 0 Z (qo _ _ h1 ⟨_,Z,(AS Z (AO.aF Z w9 (fun b5=>(Rr 5 [0,0] Z Z (AR.and 5 11 16 [] (x:=(x1.text == op1)) Z Z (fun h2=>?_) (fun h2=>?_) ?_)))))⟩)))
 · refine Is 11 h2 Z (U 1 Z (GO Z (AO.aY (i:=0) Z Z Z Pf Z Z ?_))); exact fG 3 Z (En [16] Z)
 · refine Is 11 h2 Z ?_; exact fG 5 Z (En [16] Z)
 cases hf; exact N 1 rfl ⟨rfl,_,⟨_,_,rfl,rfl,rfl⟩,_,(.cons _ (.cons_cons _ (List.nil_sublist _))),h⟩
end
section
variable [zq]
theorem eD (p1:Nat) (o_:ak) (op1:Str) {r0:Bool} {o9:ak} (hf:dX o_ op1=some (r0,o9)) {Q:cZ→List bn→Prop} (h:Q (.ret (.bool r0)) [.box p1 (aW o9)]):PC 314 [pP p1,.str op1] [.box p1 (aW o_)] Q:=by
 unfold dX at hf; refine BD 16 [.tmp 4] [0,1] Tryz.func314 Z Z Z Z Z ?_; obtain ⟨x1,y1,h1,hf⟩:=bP hf; refine W 3 Z (CL Z (AC.one 0 Z (KW _ _ _ h1 ⟨_,Z,(J 1 Z (C hf Z (fun h2 hf=>?_) fun h2 hf=>?_))⟩)))
 · cases hf; exact M 1 rfl ⟨rfl,_,⟨_,_,rfl,rfl,rfl⟩,_,(.cons_cons _ (List.nil_sublist _)),h⟩
 cases hf; exact Wx 9 [0,0] rfl rfl ⟨rfl,_,⟨_,_,rfl,rfl,rfl⟩,_,(.cons_cons _ (List.nil_sublist _)),h⟩
end
@[reducible] def G_ :eX aB Unit→cZ
 | .ok r=>.ret (.tuple [])
 | .bad e=>.panic (.iface 292 (.agg (jQ e)))
theorem eU (p1:Nat) (o_:ak) (e1:Int) {rX:eX aB Unit} {o9:ak} (hf:jB o_ e1=some (rX,o9)) {Q:cZ→List bn→Prop} (h:Q (G_ rX) [.box p1 (aW o9)]):PC 333 [pP p1,iP e1] [.box p1 (aW o_)] Q:=by
 unfold jB at hf; refine BD 11 [] [0,1] Tryz.func333 Z Z Z Z Z (Wr 6 [0] Z Z (AS Z (AO.XW Z adZ Z (AR.bF Z Z (AO.aap Z Z ?_))))); cases hf; exact ⟨rfl,_,(.cons_cons _ (List.nil_sublist _)),h⟩
section
variable [zq]
@[reducible] def G9 :eX aB aZ→cZ
 | .ok r=>.ret (.agg (xO r))
 | .bad e=>.panic (.iface 292 (.agg (jQ e)))
theorem jr (p1:Nat) (o_:ak) {rX:eX aB aZ} {o9:ak} (hf:mG o_=some (rX,o9)) {Q:cZ→List bn→Prop} (h:Q (G9 rX) [.box p1 (aW o9)]):PC 332 [pP p1] [.box p1 (aW o_)] Q:=by
 unfold mG at hf; refine BD 24 [.cell 2 243] [0] Tryz.func332 Z Z Z Z Z (W 0 Z (AS Z (AO.aF Z w9 (fun b2=>(J 0 Z (AW.draw 10 mixed (by kernel_rfl) Z ?_)))))); refine Ev.cs aX 3 Z (Ev.cons Z Z Z (AO.aY (i:=1) Z Z Z Dr Z Z zg) (Ev.cs aX 3 Z (Ev.cons Z Z Z (AO.aY (i:=1) Z Z Z Tn Z Z zg) ?_))); refine Ev.cons Z Z Z (AO.aM (l:=o_.ts) Z Z Z Z yV Z Z zg) (Ev.cs aX 1 Z (Ev.nil ?_)); show AR _ _ _ _ _ _ _ _; refine J 0 Z (C hf Z (fun h1 hf=>?_) fun h1 hf=>?_)
 ·
  rcases dV hf with ⟨e1,y2,h2,hf⟩ | ⟨_,y1,h2,hf⟩
  · refine W 1 Z (CL Z (AC.one 1 Z (eU _ _ _ h2 ⟨_,Z,?_⟩))); cases hf; exact ⟨rfl,_,(.cons _ (.cons_cons _ (List.nil_sublist _))),h⟩
  refine W 1 Z (CL Z (AC.one 1 Z (eU _ _ _ h2 ⟨_,Z,?_⟩))); obtain ⟨x1,y3,h3,hf⟩:=bP hf; refine U 1 Z (CL Z (AC.one 1 Z (qo _ _ h3 ⟨_,Z,(AS Z (AO.aF Z w9 (fun b3=>(Rw 4 [0,0] Z Z (C hf Z (fun h4 hf=>?_) fun h4 hf=>?_)))))⟩)))
  ·
   rcases dV hf with ⟨e2,y5,h5,hf⟩ | ⟨_,y4,h5,hf⟩
   · refine W 1 Z (CL Z (AC.one 2 Z (eU _ _ _ h5 ⟨_,Z,?_⟩))); cases hf; exact ⟨rfl,_,(.cons _ (.cons _ (.cons_cons _ (List.nil_sublist _)))),h⟩
   refine W 1 Z (CL Z (AC.one 2 Z (eU _ _ _ h5 ⟨_,Z,?_⟩))); cases hf; exact Rx 2 [0,1] rfl rfl ⟨rfl,_,⟨_,_,rfl,⟨_,_,1,_,_,rfl,rfl,MG,rfl⟩,rfl⟩,_,(.cons _ (.cons _ (.cons_cons _ (List.nil_sublist _)))),h⟩
  cases hf; exact Wx 2 [0,1] rfl rfl ⟨rfl,_,⟨_,_,rfl,⟨_,_,1,_,_,rfl,rfl,MG,rfl⟩,rfl⟩,_,(.cons _ (.cons _ (.cons_cons _ (List.nil_sublist _)))),h⟩
 obtain ⟨x2,y6,h6,hf⟩:=bP hf; refine W 1 Z (CL Z (AC.one 1 Z (qo _ _ h6 ⟨_,Z,(AS Z (AO.aF Z w9 (fun ahU=>(Rw 4 [0,0] Z Z (C hf Z (fun h7 hf=>?_) fun h7 hf=>?_)))))⟩)))
 ·
  rcases dV hf with ⟨e3,y8,h8,hf⟩ | ⟨_,y7,h8,hf⟩
  · refine W 1 Z (CL Z (AC.one 2 Z (eU _ _ _ h8 ⟨_,Z,?_⟩))); cases hf; exact ⟨rfl,_,(.cons _ (.cons _ (.cons_cons _ (List.nil_sublist _)))),h⟩
  refine W 1 Z (CL Z (AC.one 2 Z (eU _ _ _ h8 ⟨_,Z,?_⟩))); cases hf; exact Rx 2 [0,1] rfl rfl ⟨rfl,_,⟨_,_,rfl,⟨_,_,1,_,_,rfl,rfl,MG,rfl⟩,rfl⟩,_,(.cons _ (.cons _ (.cons_cons _ (List.nil_sublist _)))),h⟩
 cases hf; exact Wx 2 [0,1] rfl rfl ⟨rfl,_,⟨_,_,rfl,⟨_,_,1,_,_,rfl,rfl,MG,rfl⟩,rfl⟩,_,(.cons _ (.cons _ (.cons_cons _ (List.nil_sublist _)))),h⟩
end
theorem vJ (v1:ah) {r0:aj} (hf:qM v1=some r0) (h:Q (.ret (.agg (bI r0))) τ):PC 346 [.agg (aK v1)] τ Q:=by
 unfold qM at hf; refine BN 5 [.cell 2 45] [0] Tryz.func346 Z Z Z Z Z (W 1 Z (AS Z (AO.aF Z iX (fun b2=>?_)))); cases hf; exact Rx 3 [0] Z Z (ZC [0] Z Z h)
section
variable [zq]
@[reducible] def Fg :eX aB Unit→cZ
 | .ok r=>.ret (.tuple [])
 | .bad e=>.panic (.iface 292 (.agg (jQ e)))
theorem dN (p1:Nat) (o_:ak) (op1:Str) {rX:eX aB Unit} {o9:ak} (hf:gZ o_ op1=some (rX,o9)) {Q:cZ→List bn→Prop} (h:Q (Fg rX) [.box p1 (aW o9)]):PC 315 [pP p1,.str op1] [.box p1 (aW o_)] Q:=by
 unfold gZ at hf; refine BD 12 [] [0,1] Tryz.func315 Z Z Z Z Z ?_; rcases dV hf with ⟨e1,y2,h1,hf⟩ | ⟨x1,y1,h1,hf⟩
 · refine W 1 Z (CL Z (AC.one 0 Z (jr _ _ h1 ⟨_,Z,?_⟩))); cases hf; exact ⟨rfl,_,(.cons_cons _ (List.nil_sublist _)),h⟩
 refine W 1 Z (CL Z (AC.one 0 Z (jr _ _ h1 ⟨_,Z,?_⟩))); obtain ⟨x2,y3,h2,hf⟩:=bP hf; refine U 2 Z (CL Z (AC.one 0 Z (eD _ _ _ h2 ⟨_,Z,(J 1 Z (C hf Z (fun h3 hf=>?_) fun h3 hf=>?_))⟩)))
 ·
  rcases dV hf with ⟨e2,y5,h4,hf⟩ | ⟨_,y4,h4,hf⟩
  · refine W 1 Z (CL Z (AC.one 0 Z (eU _ _ _ h4 ⟨_,Z,?_⟩))); cases hf; exact ⟨rfl,_,(.cons_cons _ (List.nil_sublist _)),h⟩
  refine W 1 Z (CL Z (AC.one 0 Z (eU _ _ _ h4 ⟨_,Z,?_⟩))); cases hf; exact N 0 rfl ⟨rfl,_,rfl,_,(.cons_cons _ (List.nil_sublist _)),h⟩
 cases hf; exact M 0 rfl ⟨rfl,_,rfl,_,(.cons_cons _ (List.nil_sublist _)),h⟩
end
section
variable [zq]
@[reducible] def pI :eX aB aj→cZ
 | .ok r=>.ret (.agg (bI r))
 | .bad e=>.panic (.iface 292 (.agg (jQ e)))
@[reducible] def pG :eX aB aj→cZ
 | .ok r=>.ret (.agg (bI r))
 | .bad e=>.panic (.iface 292 (.agg (jQ e)))
@[reducible] def sQ :eX aB aj→cZ
 | .ok r=>.ret (.agg (bI r))
 | .bad e=>.panic (.iface 292 (.agg (jQ e)))
@[reducible] def sS :eX aB aj→cZ
 | .ok r=>.ret (.agg (bI r))
 | .bad e=>.panic (.iface 292 (.agg (jQ e)))
@[reducible] def t_ :eX aB aj→cZ
 | .ok r=>.ret (.agg (bI r))
 | .bad e=>.panic (.iface 292 (.agg (jQ e)))
@[reducible] def tZ :eX aB aj→cZ
 | .ok r=>.ret (.agg (bI r))
 | .bad e=>.panic (.iface 292 (.agg (jQ e)))
@[reducible] def uf :eX aB (List aj)→cZ
 | .ok r=>.ret (.list (aj.aN r))
 | .bad e=>.panic (.iface 292 (.agg (jQ e)))
@[reducible] def qG :eX aB aj→cZ
 | .ok r=>.ret (.agg (bI r))
 | .bad e=>.panic (.iface 292 (.agg (jQ e)))
abbrev fU (aH:ak→Option (eX aB aj × ak)):Prop:=∀ (lI:Nat) (gP:ak) {eP:eX aB aj} {jf:ak},aH gP=some (eP,jf)→∀ {Q:cZ→List bn→Prop} (h:Q (pI eP) [.box lI (aW jf)]),PC 286 [pP lI] [.box lI (aW gP)] Q
abbrev fT (aL:ak→Int→Option (eX aB aj × ak)):Prop:=∀ (lI:Nat) (gP:ak) (Za:Int) {eP:eX aB aj} {jf:ak},aL gP Za=some (eP,jf)→∀ {Q:cZ→List bn→Prop} (h:Q (pG eP) [.box lI (aW jf)]),PC 313 [pP lI,iP Za] [.box lI (aW gP)] Q
abbrev iF (aR:ak→Option (eX aB aj × ak)):Prop:=∀ (lI:Nat) (gP:ak) {eP:eX aB aj} {jf:ak},aR gP=some (eP,jf)→∀ {Q:cZ→List bn→Prop} (h:Q (sQ eP) [.box lI (aW jf)]),PC 329 [pP lI] [.box lI (aW gP)] Q
abbrev iG (aT:ak→Option (eX aB aj × ak)):Prop:=∀ (lI:Nat) (gP:ak) {eP:eX aB aj} {jf:ak},aT gP=some (eP,jf)→∀ {Q:cZ→List bn→Prop} (h:Q (sS eP) [.box lI (aW jf)]),PC 340 [pP lI] [.box lI (aW gP)] Q
abbrev iT (bC:ak→Option (eX aB aj × ak)):Prop:=∀ (lI:Nat) (gP:ak) {eP:eX aB aj} {jf:ak},bC gP=some (eP,jf)→∀ {Q:cZ→List bn→Prop} (h:Q (t_ eP) [.box lI (aW jf)]),PC 344 [pP lI] [.box lI (aW gP)] Q
abbrev iR (bB:ak→Str→Option (eX aB aj × ak)):Prop:=∀ (lI:Nat) (gP:ak) (rH:Str) {eP:eX aB aj} {jf:ak},bB gP rH=some (eP,jf)→∀ {Q:cZ→List bn→Prop} (h:Q (tZ eP) [.box lI (aW jf)]),PC 347 [pP lI,.str rH] [.box lI (aW gP)] Q
abbrev iU (bq:ak→Str→Option (eX aB (List aj) × ak)):Prop:=∀ (lI:Nat) (gP:ak) (Gq:Str) {eP:eX aB (List aj)} {jf:ak},bq gP Gq=some (eP,jf)→∀ {Q:cZ→List bn→Prop} (h:Q (uf eP) [.box lI (aW jf)]),PC 348 [pP lI,.str Gq] [.box lI (aW gP)] Q
abbrev gL (aU:ak→Option (eX aB aj × ak)):Prop:=∀ (lI:Nat) (gP:ak) {eP:eX aB aj} {jf:ak},aU gP=some (eP,jf)→∀ {Q:cZ→List bn→Prop} (h:Q (qG eP) [.box lI (aW jf)]),PC 349 [pP lI] [.box lI (aW gP)] Q
theorem Dq (aH) (bN:fU aH) (aL) (dI:fT aL) (aR) (fB:iF aR) (aT) (gH:iG aT) (bC) (gY:iT bC) (bB) (gX:iR bB) (bq) (fI:iU bq) (aU) (fQ:gL aU) (p1:Nat) (o_:ak) {rX:eX aB aj} {o9:ak} (hf:pK aH aL aR aT bC bB bq aU o_=some (rX,o9)) {Q:cZ→List bn→Prop} (h:Q (pI rX) [.box p1 (aW o9)]):PC 286 [pP p1] [.box p1 (aW o_)] Q:=by
 unfold pK at hf; refine BD 23 [.cell 2 45] [0] Tryz.func286 Z Z Z Z Z (W 0 Z (AS Z (AO.aF Z iX (fun b2=>?_)))); rcases dV hf with ⟨e1,y2,h1,hf⟩ | ⟨x1,y1,h1,hf⟩
 · refine U 1 Z (CL Z (AC.one 1 Z (dI _ _ _ h1 ⟨_,Z,?_⟩))); cases hf; exact ⟨rfl,_,(.cons _ (.cons_cons _ (List.nil_sublist _))),h⟩
 refine U 1 Z (CL Z (AC.one 1 Z (dI _ _ _ h1 ⟨_,Z,(AS Z (AO.aF Z iX (fun b3=>?_)))⟩))); obtain ⟨x2,y3,h2,hf⟩:=bP hf; refine Rr 2 [0] Z Z (CL Z (AC.one 2 Z (eD _ _ _ h2 ⟨_,Z,(J 1 Z (C hf Z (fun h3 hf=>?_) fun h3 hf=>?_))⟩)))
 · cases hf; exact Wx 2 [0,1] rfl rfl ⟨rfl,_,⟨_,_,rfl,⟨_,_,1,_,_,rfl,rfl,gT,rfl⟩,rfl⟩,_,(.cons _ (.cons _ (.cons_cons _ (List.nil_sublist _)))),h⟩
 rcases dV hf with ⟨e2,y5,h4,hf⟩ | ⟨x3,y4,h4,hf⟩
 · refine W 1 Z (CL Z (AC.one 2 Z (bN _ _ h4 ⟨_,Z,?_⟩))); cases hf; exact ⟨rfl,_,(.cons _ (.cons _ (.cons_cons _ (List.nil_sublist _)))),h⟩
 refine W 1 Z (CL Z (AC.one 2 Z (bN _ _ h4 ⟨_,Z,(AS Z (AO.aF Z iX (fun b4=>?_)))⟩))); rcases dV hf with ⟨e3,y7,h5,hf⟩ | ⟨_,y6,h5,hf⟩
 · refine Rr 2 [0] Z Z (CL Z (AC.one 3 Z (dN _ _ _ h5 ⟨_,Z,?_⟩))); cases hf; exact ⟨rfl,_,(.cons _ (.cons _ (.cons _ (.cons_cons _ (List.nil_sublist _))))),h⟩
 refine Rr 2 [0] Z Z (CL Z (AC.one 3 Z (dN _ _ _ h5 ⟨_,Z,?_⟩))); rcases dV hf with ⟨e4,y9,h6,hf⟩ | ⟨x4,y8,h6,hf⟩
 · refine U 1 Z (CL Z (AC.one 3 Z (bN _ _ h6 ⟨_,Z,?_⟩))); cases hf; exact ⟨rfl,_,(.cons _ (.cons _ (.cons _ (.cons_cons _ (List.nil_sublist _))))),h⟩
 refine U 1 rfl (CL rfl (AC.one 3 rfl (bN _ _ h6 ⟨_,rfl,(AS rfl (AO.aF rfl iX (fun b5=>(Rr 4 [0,2,1,0] rfl rfl (AS rfl (AO.bL (aj.aN [x1,x3,x4]) rfl wu rfl rfl rfl (by first | rfl | simp only [List.map,aj.aG,aj.aN]) ?_))))))⟩))); cases hf; exact Rx 2 [3] rfl rfl ⟨rfl,_,⟨_,_,rfl,⟨_,_,3,_,_,rfl,rfl,gT,rfl⟩,rfl⟩,_,(.cons _ (.cons _ (.cons _ (.cons _ (.cons_cons _ (List.nil_sublist _)))))),h⟩
theorem Dp (aH) (bN:fU aH) (aL) (dI:fT aL) (aR) (fB:iF aR) (aT) (gH:iG aT) (bC) (gY:iT bC) (bB) (gX:iR bB) (bq) (fI:iU bq) (aU) (fQ:gL aU) (p1:Nat) (o_:ak) (n1:Int) {rX:eX aB aj} {o9:ak} (hf:pJ aH aL aR aT bC bB bq aU o_ n1=some (rX,o9)) {Q:cZ→List bn→Prop} (h:Q (pG rX) [.box p1 (aW o9)]):PC 313 [pP p1,iP n1] [.box p1 (aW o_)] Q:=by
 unfold pJ at hf; refine BD 47 [.cell 4 45] [0,1] Tryz.func313 Z Z Z Z Z (W 0 Z (AS Z (AO.aF Z iX (fun b4=>(J 2 Z (C hf Z (fun h1 hf=>?_) fun h1 hf=>?_))))))
 ·
  rcases dV hf with ⟨e1,y2,h2,hf⟩ | ⟨x1,y1,h2,hf⟩
  · refine W 1 Z (CL Z (AC.one 1 Z (fB _ _ h2 ⟨_,Z,?_⟩))); cases hf; exact ⟨rfl,_,(.cons _ (.cons_cons _ (List.nil_sublist _))),h⟩
  refine W 1 Z (CL Z (AC.one 1 Z (fB _ _ h2 ⟨_,Z,?_⟩))); cases hf; exact Rx 1 [0] rfl rfl ⟨rfl,_,⟨_,_,rfl,⟨_,_,0,_,_,rfl,rfl,gT,rfl⟩,rfl⟩,_,(.cons _ (.cons_cons _ (List.nil_sublist _))),h⟩
 rcases dV hf with ⟨e2,y4,h3,hf⟩ | ⟨x2,y3,h3,hf⟩
 · refine W 3 Z (CL Z (AC.one 1 Z (dI _ _ _ h3 ⟨_,Z,?_⟩))); cases hf; exact ⟨rfl,_,(.cons _ (.cons_cons _ (List.nil_sublist _))),h⟩
 refine W 3 Z (CL Z (AC.one 1 Z (dI _ _ _ h3 ⟨_,Z,(AS Z (AO.aF Z iX (fun b5=>?_)))⟩))); refine Rw 1 [0] Z Z (Xt (fun e3 y5=>[(0,pP p1),(1,iP n1),(4,pP b4),(5,pP b5)]) (fun e3 y5=>[.box b5 (bI e3),.box b4 [iP 0,.str ([]:Str),iP 0,.bool false,iP 0,.str ([]:Str),.own (.slice none 0 0) [],.own (.slice none 0 0) [],.own (.slice none 0 0) [],.own (.slice none 0 0) []],.box p1 (aW y5)]) (fun bY e3 y5=>lT aL n1 bY e3 y5=some (rX,o9)) BIG x2 y3 Z Z hf (fun _ _ hz=>bT hz) ?_); intro bY e3 y5 hf; rw [lT] at hf; obtain ⟨x3,y6,h4,hf⟩:=bP hf; refine W 1 Z (CL Z (AC.one 2 Z (qo _ _ h4 ⟨_,Z,(AS Z (AO.aF Z w9 (fun b6=>?_)))⟩))); refine B1 hf fun b1 h6 hf=>Rr 5 [0,0] Z Z (AR.fV 6 20 26 false [0,1,4,5,6] b1 Z Z (fun h5=>?_) (fun h5=>?_) ?_)
 · replace h6:=iO h5 h6; refine Is 20 h5 Z (U 1 Z (GO Z (AO.aY (i:=0) Z Z Z Pf Z Z ?_))); refine B1 h6 fun x4 h7 h6=>GO Z (AO.call Z _ Z Z afj (tL _ h7 ?_)); cases h6; exact fG 3 Z (En [26,0,1,4,5,6] Z)
 · refine IT 20 h5 h6 Z fun h6=>?_; cases h6; exact fG 6 Z (En [26,0,1,4,5,6] Z)
 refine J 0 Z (C hf Z (fun h8 hf=>?_) fun h8 hf=>?_)
 · cases hf; exact Wx 2 [1,2] rfl rfl ⟨rfl,_,⟨_,_,rfl,⟨_,_,2,_,_,rfl,rfl,gT,rfl⟩,rfl⟩,_,(.cons _ (.cons _ (.cons _ (.cons_cons _ (List.nil_sublist _))))),h⟩
 refine Ww 8 [3,3] Z Z (AW.Vx 0 6 8 3 mixed (by kernel_rfl) (by kernel_rfl) (by kernel_rfl) Z Z Z Z ?_); refine Ev.nil ?_; show Ev _ _ _ _ _ _ _; refine Ev.cs aX 1 Z (Ev.cons Z Z Z (AO.aY (i:=0) Z Z Z Pf Z Z zg) (Ev.cons Z Z Z (AO.aY (i:=1) Z Z Z gT Z Z zg) (Ev.cs aX 3 Z ?_))); refine Ev.nil ?_; rcases dV hf with ⟨e4,y8,h9,hf⟩ | ⟨x5,y7,h9,hf⟩
 · refine TF.step Z Z Z (AO.call Z _ Z Z Z5 (AC.one 0 Z (dI _ _ _ h9 ⟨_,Z,?_⟩))); cases hf; exact ⟨rfl,_,(.cons _ (.cons _ (.cons _ (.cons_cons _ (List.nil_sublist _))))),h⟩
 refine TF.step rfl rfl rfl (AO.call rfl _ rfl rfl Z5 (AC.one 0 rfl (dI _ _ _ h9 ⟨_,rfl,(TF.step rfl rfl rfl (AO.bL (aj.aN [e3,x5]) rfl wu rfl rfl rfl (by first | rfl | simp only [List.map,aj.aG,aj.aN]) ?_))⟩))); refine TF.nil ?_; show AR _ _ _ _ _ _ _ _
 refine Rw 4 [1] Z Z (C hf Z (fun h10 hf=>?_) fun h10 hf=>?_)
 · cases hf; exact Wx 2 [1,2] rfl rfl ⟨rfl,_,⟨_,_,rfl,⟨_,_,2,_,_,rfl,rfl,gT,rfl⟩,rfl⟩,_,(.cons _ (.cons _ (.cons _ (.cons_cons _ (List.nil_sublist _))))),h⟩
 refine AW.drop1 (AW.UG 0 Z ?_); exact M 0 Z ⟨(aj.mk 7 x3.text (ah.mk 0 false 0 ([]:Str) [] []) [e3,x5] []),y7,Z,Z,Z,hf⟩
theorem GR (aH) (bN:fU aH) (aL) (dI:fT aL) (aR) (fB:iF aR) (aT) (gH:iG aT) (bC) (gY:iT bC) (bB) (gX:iR bB) (bq) (fI:iU bq) (aU) (fQ:gL aU) (p1:Nat) (o_:ak) {rX:eX aB aj} {o9:ak} (hf:sU aH aL aR aT bC bB bq aU o_=some (rX,o9)) {Q:cZ→List bn→Prop} (h:Q (sQ rX) [.box p1 (aW o9)]):PC 329 [pP p1] [.box p1 (aW o_)] Q:=by
 unfold sU at hf; refine BD 22 [.cell 2 45] [0] Tryz.func329 Z Z Z Z Z (W 0 Z (AS Z (AO.aF Z iX (fun b2=>(U 0 Z (AS Z (AO.bL (List.map mo ([([33]:Str),([45]:Str)]:List Str)) Z rD Z Z Z Z (AS Z (AO.aM (l:=([([33]:Str),([45]:Str)]:List Str)) Z Z Z Z iY Z Z ?_))))))))); refine J 1 Z (Xt (fun x1 y1=>[(0,pP p1),(2,pP b2),(5,sP (([([33]:Str),([45]:Str)]:List Str))),(6,iP (([([33]:Str),([45]:Str)]:List Str).length:Int)),(7,iP x1)]) (fun x1 y1=>[.box b2 [iP 0,.str ([]:Str),iP 0,.bool false,iP 0,.str ([]:Str),.own (.slice none 0 0) [],.own (.slice none 0 0) [],.own (.slice none 0 0) [],.own (.slice none 0 0) []],.box p1 (aW y1)]) (fun bY x1 y1=>nV aR aT bY x1 y1=some (rX,o9)) BIG 0 o_ Z Z hf (fun _ _ hz=>bT hz) ?_); intro bY x1 y1 hf; rw [nV] at hf; refine V 1 Z (C hf Z (fun h1 hf=>?_) fun h1 hf=>?_)
 ·
  refine B1 hf fun op1 h2 hf=>W 0 Z (AS Z (AO.aO h2 Z Z Z Z iY Z Z ?_)); obtain ⟨x2,y2,h3,hf⟩:=bP hf; refine U 4 Z (CL Z (AC.one 1 Z (eD _ _ _ h3 ⟨_,Z,(J 0 Z (C hf Z (fun h4 hf=>?_) fun h4 hf=>?_))⟩)))
  ·
   rcases dV hf with ⟨e1,y4,h5,hf⟩ | ⟨x3,y3,h5,hf⟩
   · refine W 2 Z (CL Z (AC.one 1 Z (fB _ _ h5 ⟨_,Z,?_⟩))); cases hf; exact ⟨rfl,_,(.cons _ (.cons_cons _ (List.nil_sublist _))),h⟩
   refine W 2 rfl (CL rfl (AC.one 1 rfl (fB _ _ h5 ⟨_,rfl,(AS rfl (AO.bL (aj.aN [x3]) rfl wu rfl rfl rfl (by first | rfl | simp only [List.map,aj.aG,aj.aN]) ?_))⟩))); cases hf; exact Rx 2 [0] rfl rfl ⟨rfl,_,⟨_,_,rfl,⟨_,_,0,_,_,rfl,rfl,gT,rfl⟩,rfl⟩,_,(.cons _ (.cons_cons _ (List.nil_sublist _))),h⟩
  exact M 2 Z ⟨(dA (x1 + 1)),y2,Z,Z,Z,hf⟩
 rcases dV hf with ⟨e2,y6,h6,hf⟩ | ⟨x4,y5,h6,hf⟩
 · refine W 1 Z (CL Z (AC.one 1 Z (gH _ _ h6 ⟨_,Z,?_⟩))); cases hf; exact ⟨rfl,_,(.cons _ (.cons_cons _ (List.nil_sublist _))),h⟩
 refine W 1 Z (CL Z (AC.one 1 Z (gH _ _ h6 ⟨_,Z,?_⟩))); cases hf; exact Rx 1 [0] rfl rfl ⟨rfl,_,⟨_,_,rfl,⟨_,_,0,_,_,rfl,rfl,gT,rfl⟩,rfl⟩,_,(.cons _ (.cons_cons _ (List.nil_sublist _))),h⟩
theorem GU (aH) (bN:fU aH) (aL) (dI:fT aL) (aR) (fB:iF aR) (aT) (gH:iG aT) (bC) (gY:iT bC) (bB) (gX:iR bB) (bq) (fI:iU bq) (aU) (fQ:gL aU) (p1:Nat) (o_:ak) {rX:eX aB aj} {o9:ak} (hf:sV aH aL aR aT bC bB bq aU o_=some (rX,o9)) {Q:cZ→List bn→Prop} (h:Q (sS rX) [.box p1 (aW o9)]):PC 340 [pP p1] [.box p1 (aW o_)] Q:=by
 unfold sV at hf; refine BD 47 [.cell 2 45] [0] Tryz.func340 Z Z Z Z Z (W 0 Z (AS Z (AO.aF Z iX (fun b2=>?_)))); rcases dV hf with ⟨e1,y2,h1,hf⟩ | ⟨x1,y1,h1,hf⟩
 · refine U 1 Z (CL Z (AC.one 1 Z (gY _ _ h1 ⟨_,Z,?_⟩))); cases hf; exact ⟨rfl,_,(.cons _ (.cons_cons _ (List.nil_sublist _))),h⟩
 refine U 1 Z (CL Z (AC.one 1 Z (gY _ _ h1 ⟨_,Z,(AS Z (AO.aF Z iX (fun b3=>?_)))⟩))); refine Rw 1 [0] Z Z (Xt (fun e2 y3=>[(0,pP p1),(2,pP b2),(3,pP b3)]) (fun e2 y3=>[.box b3 (bI e2),.box b2 [iP 0,.str ([]:Str),iP 0,.bool false,iP 0,.str ([]:Str),.own (.slice none 0 0) [],.own (.slice none 0 0) [],.own (.slice none 0 0) [],.own (.slice none 0 0) []],.box p1 (aW y3)]) (fun bY e2 y3=>j5 aH bY e2 y3=some (rX,o9)) BIG x1 y1 Z Z hf (fun _ _ hz=>bT hz) ?_); intro bY e2 y3 hf; rw [j5] at hf; obtain ⟨x2,y4,h2,hf⟩:=bP hf; refine W 1 Z (CL Z (AC.one 2 Z (eD _ _ _ h2 ⟨_,Z,(J 1 Z (C hf Z (fun h3 hf=>?_) fun h3 hf=>?_))⟩)))
 ·
  rcases dV hf with ⟨e3,y6,h4,hf⟩ | ⟨x3,y5,h4,hf⟩
  · refine W 1 Z (CL Z (AC.one 2 Z (jr _ _ h4 ⟨_,Z,?_⟩))); cases hf; exact ⟨rfl,_,(.cons _ (.cons _ (.cons_cons _ (List.nil_sublist _)))),h⟩
  refine W 1 Z (CL Z (AC.one 2 Z (jr _ _ h4 ⟨_,Z,(AS Z (AO.aF Z w9 (fun b4=>?_)))⟩))); refine B1 hf fun b1 h6 hf=>Rr 5 [0,0] Z Z (AR.fV 4 17 21 false [0,2,3,4] b1 Z Z (fun h5=>?_) (fun h5=>?_) ?_)
  · replace h6:=iO h5 h6; refine Is 17 h5 Z (U 1 Z (GO Z (AO.aY (i:=0) Z Z Z Pf Z Z ?_))); refine BR h6 fun x4 h7 h6=>?_; refine GO Z (AO.call Z _ Z Z Z_ (Ez _ h7 ?_)); cases h6; exact fG 1 Z (En [21,0,2,3,4] Z)
  · refine IT 17 h5 h6 Z fun h6=>?_; cases h6; exact fG 4 Z (En [21,0,2,3,4] Z)
  refine J 0 Z (C hf Z (fun h8 hf=>?_) fun h8 hf=>?_)
  ·
   rcases dV hf with ⟨e4,y8,h9,hf⟩ | ⟨_,y7,h9,hf⟩
   · refine W 1 Z (CL Z (AC.one 3 Z (eU _ _ _ h9 ⟨_,Z,?_⟩))); cases hf; exact ⟨rfl,_,(.cons _ (.cons _ (.cons _ (.cons_cons _ (List.nil_sublist _))))),h⟩
   refine W 1 rfl (CL rfl (AC.one 3 rfl (eU _ _ _ h9 ⟨_,rfl,(Rr 11 [3,3,0,1] rfl rfl (AS rfl (AO.bL (aj.aN [e2]) rfl wu rfl rfl rfl (by first | rfl | simp only [List.map,aj.aG,aj.aN]) ?_)))⟩))); refine Rn 2 [1] Z Z (AR.drop1 (AR.UG 0 Z ?_)); exact N 0 Z ⟨(aj.mk 3 x3.text (ah.mk 0 false 0 ([]:Str) [] []) [e2] []),(ak.mk y7.ts (dA (y7.at_ + 1))),Z,Z,Z,hf⟩
  refine Wr 11 [3,3,0,1] rfl rfl (AS rfl (AO.bL (aj.aN [e2]) rfl wu rfl rfl rfl (by first | rfl | simp only [List.map,aj.aG,aj.aN]) ?_)); refine Rn 2 [1] Z Z (AR.drop1 (AR.UG 0 Z ?_)); exact N 0 Z ⟨(aj.mk 3 x3.text (ah.mk 0 false 0 ([]:Str) [] []) [e2] []),(ak.mk y5.ts (dA (y5.at_ + 1))),Z,Z,Z,hf⟩
 obtain ⟨x5,y9,h10,hf⟩:=bP hf; refine W 1 Z (CL Z (AC.one 2 Z (eD _ _ _ h10 ⟨_,Z,(J 1 Z (C hf Z (fun h11 hf=>?_) fun h11 hf=>?_))⟩)))
 ·
  rcases dV hf with ⟨e5,y11,h12,hf⟩ | ⟨x6,y10,h12,hf⟩
  · refine W 1 Z (CL Z (AC.one 2 Z (bN _ _ h12 ⟨_,Z,?_⟩))); cases hf; exact ⟨rfl,_,(.cons _ (.cons _ (.cons_cons _ (List.nil_sublist _)))),h⟩
  refine W 1 Z (CL Z (AC.one 2 Z (bN _ _ h12 ⟨_,Z,(AS Z (AO.aF Z iX (fun b5=>?_)))⟩))); rcases dV hf with ⟨e6,y13,lH,hf⟩ | ⟨_,y12,lH,hf⟩
  · refine Rr 2 [0] Z Z (CL Z (AC.one 3 Z (dN _ _ _ lH ⟨_,Z,?_⟩))); cases hf; exact ⟨rfl,_,(.cons _ (.cons _ (.cons _ (.cons_cons _ (List.nil_sublist _))))),h⟩
  refine Rr 2 [0] rfl rfl (CL rfl (AC.one 3 rfl (dN _ _ _ lH ⟨_,rfl,(Rr 2 [1,0] rfl rfl (AS rfl (AO.bL (aj.aN [e2,x6]) rfl wu rfl rfl rfl (by first | rfl | simp only [List.map,aj.aG,aj.aN]) ?_)))⟩))); refine Rn 2 [1] Z Z (AR.drop1 (AR.UG 0 Z ?_)); exact N 0 Z ⟨(aj.mk 4 ([]:Str) (ah.mk 0 false 0 ([]:Str) [] []) [e2,x6] []),y12,Z,Z,Z,hf⟩
 cases hf; exact Wx 2 [0,1] rfl rfl ⟨rfl,_,⟨_,_,rfl,⟨_,_,1,_,_,rfl,rfl,gT,rfl⟩,rfl⟩,_,(.cons _ (.cons _ (.cons_cons _ (List.nil_sublist _)))),h⟩
theorem Ho (aH) (bN:fU aH) (aL) (dI:fT aL) (aR) (fB:iF aR) (aT) (gH:iG aT) (bC) (gY:iT bC) (bB) (gX:iR bB) (bq) (fI:iU bq) (aU) (fQ:gL aU) (p1:Nat) (o_:ak) {rX:eX aB aj} {o9:ak} (hf:uD aH aL aR aT bC bB bq aU o_=some (rX,o9)) {Q:cZ→List bn→Prop} (h:Q (t_ rX) [.box p1 (aW o9)]):PC 344 [pP p1] [.box p1 (aW o_)] Q:=by
 unfold uD at hf; refine BD 77 [.cell 2 45] [0] Tryz.func344 Z Z Z Z Z (W 0 Z (AS Z (AO.aF Z iX (fun b2=>?_)))); rcases dV hf with ⟨e1,y2,h1,hf⟩ | ⟨x1,y1,h1,hf⟩
 · refine U 1 Z (CL Z (AC.one 1 Z (jr _ _ h1 ⟨_,Z,?_⟩))); cases hf; exact ⟨rfl,_,(.cons _ (.cons_cons _ (List.nil_sublist _))),h⟩
 refine U 1 Z (CL Z (AC.one 1 Z (jr _ _ h1 ⟨_,Z,(AS Z (AO.aF Z w9 (fun b3=>(Rw 5 [0,0] Z Z (C hf Z (fun h2 hf=>?_) fun h2 hf=>?_)))))⟩)))
 · obtain ⟨n1,x2,h3,hf⟩:=bP hf; refine Wr 10 [2,2,0] Z Z (CL Z (Df _ h3 ?_)); refine B1 hf fun x3 h4 hf=>U 7 Z (CL Z (vJ _ h4 ?_)); cases hf; exact Rx 1 [1] rfl rfl ⟨rfl,_,⟨_,_,rfl,⟨_,_,1,_,_,rfl,rfl,gT,rfl⟩,rfl⟩,_,(.cons _ (.cons _ (.cons_cons _ (List.nil_sublist _)))),h⟩
 refine V 2 Z (C hf Z (fun h5 hf=>?_) fun h5 hf=>?_)
 · refine B1 hf fun x4 h6 hf=>Wr 11 [2,2,0] Z Z (CL Z (vJ _ h6 ?_)); cases hf; exact Rx 1 [1] rfl rfl ⟨rfl,_,⟨_,_,rfl,⟨_,_,1,_,_,rfl,rfl,gT,rfl⟩,rfl⟩,_,(.cons _ (.cons _ (.cons_cons _ (List.nil_sublist _)))),h⟩
 refine V 2 Z (C hf Z (fun h7 hf=>?_) fun h7 hf=>?_)
 ·
  rcases dV hf with ⟨e2,y4,h8,hf⟩ | ⟨x5,y3,h8,hf⟩
  · refine Wr 11 [2,2,0] Z Z (CL Z (AC.one 2 Z (gX _ _ _ h8 ⟨_,Z,?_⟩))); cases hf; exact ⟨rfl,_,(.cons _ (.cons _ (.cons_cons _ (List.nil_sublist _)))),h⟩
  refine Wr 11 [2,2,0] Z Z (CL Z (AC.one 2 Z (gX _ _ _ h8 ⟨_,Z,?_⟩))); cases hf; exact Rx 1 [1] rfl rfl ⟨rfl,_,⟨_,_,rfl,⟨_,_,1,_,_,rfl,rfl,gT,rfl⟩,rfl⟩,_,(.cons _ (.cons _ (.cons_cons _ (List.nil_sublist _)))),h⟩
 obtain ⟨x6,y5,h9,hf⟩:=bP hf; refine W 1 Z (CL Z (AC.one 2 Z (eD _ _ _ h9 ⟨_,Z,(J 1 Z (C hf Z (fun h10 hf=>?_) fun h10 hf=>?_))⟩)))
 ·
  rcases dV hf with ⟨e3,y7,h11,hf⟩ | ⟨x7,y6,h11,hf⟩
  · refine W 1 Z (CL Z (AC.one 2 Z (bN _ _ h11 ⟨_,Z,?_⟩))); cases hf; exact ⟨rfl,_,(.cons _ (.cons _ (.cons_cons _ (List.nil_sublist _)))),h⟩
  refine W 1 Z (CL Z (AC.one 2 Z (bN _ _ h11 ⟨_,Z,(AS Z (AO.aF Z iX (fun b6=>?_)))⟩))); rcases dV hf with ⟨e4,y9,h12,hf⟩ | ⟨_,y8,h12,hf⟩
  · refine Rr 2 [0] Z Z (CL Z (AC.one 3 Z (dN _ _ _ h12 ⟨_,Z,?_⟩))); cases hf; exact ⟨rfl,_,(.cons _ (.cons _ (.cons _ (.cons_cons _ (List.nil_sublist _))))),h⟩
  refine Rr 2 [0] Z Z (CL Z (AC.one 3 Z (dN _ _ _ h12 ⟨_,Z,?_⟩))); cases hf; exact Rx 2 [0,2] rfl rfl ⟨rfl,_,⟨_,_,rfl,⟨_,_,2,_,_,rfl,rfl,gT,rfl⟩,rfl⟩,_,(.cons _ (.cons _ (.cons _ (.cons_cons _ (List.nil_sublist _))))),h⟩
 obtain ⟨x8,y10,lH,hf⟩:=bP hf; refine W 1 Z (CL Z (AC.one 2 Z (eD _ _ _ lH ⟨_,Z,(J 1 Z (C hf Z (fun lV hf=>?_) fun lV hf=>?_))⟩)))
 ·
  rcases dV hf with ⟨e5,y12,ru,hf⟩ | ⟨x9,y11,ru,hf⟩
  · refine W 1 Z (CL Z (AC.one 2 Z (fI _ _ _ ru ⟨_,Z,?_⟩))); cases hf; exact ⟨rfl,_,(.cons _ (.cons _ (.cons_cons _ (List.nil_sublist _)))),h⟩
  refine W 1 Z (CL Z (AC.one 2 Z (fI _ _ _ ru ⟨_,Z,?_⟩))); cases hf; exact Rx 2 [1] rfl rfl ⟨rfl,_,⟨_,_,rfl,⟨_,_,1,_,_,rfl,rfl,gT,rfl⟩,rfl⟩,_,(.cons _ (.cons _ (.cons_cons _ (List.nil_sublist _)))),h⟩
 obtain ⟨K3,y13,h16,hf⟩:=bP hf; refine W 1 Z (CL Z (AC.one 2 Z (eD _ _ _ h16 ⟨_,Z,(J 1 Z (C hf Z (fun xB hf=>?_) fun xB hf=>?_))⟩)))
 ·
  rcases dV hf with ⟨e6,y15,h18,hf⟩ | ⟨Nq,y14,h18,hf⟩
  · refine W 1 Z (CL Z (AC.one 2 Z (fQ _ _ h18 ⟨_,Z,?_⟩))); cases hf; exact ⟨rfl,_,(.cons _ (.cons _ (.cons_cons _ (List.nil_sublist _)))),h⟩
  refine W 1 Z (CL Z (AC.one 2 Z (fQ _ _ h18 ⟨_,Z,?_⟩))); cases hf; exact Rx 1 [1] rfl rfl ⟨rfl,_,⟨_,_,rfl,⟨_,_,1,_,_,rfl,rfl,gT,rfl⟩,rfl⟩,_,(.cons _ (.cons _ (.cons_cons _ (List.nil_sublist _)))),h⟩
 rcases dV hf with ⟨e7,y17,h19,hf⟩ | ⟨_,y16,h19,hf⟩
 · refine W 1 Z (CL Z (AC.one 2 Z (eU _ _ _ h19 ⟨_,Z,?_⟩))); cases hf; exact ⟨rfl,_,(.cons _ (.cons _ (.cons_cons _ (List.nil_sublist _)))),h⟩
 refine W 1 Z (CL Z (AC.one 2 Z (eU _ _ _ h19 ⟨_,Z,?_⟩))); cases hf; exact Rx 2 [1] rfl rfl ⟨rfl,_,⟨_,_,rfl,⟨_,_,1,_,_,rfl,rfl,gT,rfl⟩,rfl⟩,_,(.cons _ (.cons _ (.cons_cons _ (List.nil_sublist _)))),h⟩
theorem Hl (aH) (bN:fU aH) (aL) (dI:fT aL) (aR) (fB:iF aR) (aT) (gH:iG aT) (bC) (gY:iT bC) (bB) (gX:iR bB) (bq) (fI:iU bq) (aU) (fQ:gL aU) (p1:Nat) (o_:ak) (s1:Str) {rX:eX aB aj} {o9:ak} (hf:uz aH aL aR aT bC bB bq aU o_ s1=some (rX,o9)) {Q:cZ→List bn→Prop} (h:Q (tZ rX) [.box p1 (aW o9)]):PC 347 [pP p1,.str s1] [.box p1 (aW o_)] Q:=by
 unfold uz at hf; refine BD 26 [.cell 4 45] [0,1] Tryz.func347 Z Z Z Z Z (W 0 Z (AS Z (AO.aF Z iX (fun b4=>(J 3 Z (C hf Z (fun h1 hf=>?_) fun h1 hf=>?_))))))
 · refine B1 hf fun x1 h2 hf=>W 1 Z (CL Z (vJ _ h2 ?_)); cases hf; exact Rx 1 [0] rfl rfl ⟨rfl,_,⟨_,_,rfl,⟨_,_,0,_,_,rfl,rfl,gT,rfl⟩,rfl⟩,_,(.cons _ (.cons_cons _ (List.nil_sublist _))),h⟩
 refine B1 hf fun x2 h3 hf=>W 1 Z (CL Z (Ez _ h3 (J 1 Z (C hf Z (fun h4 hf=>?_) fun h4 hf=>?_))))
 · refine B1 hf fun x3 h5 hf=>W 3 Z (CL Z (vJ _ h5 ?_)); cases hf; exact Rx 1 [0] rfl rfl ⟨rfl,_,⟨_,_,rfl,⟨_,_,0,_,_,rfl,rfl,gT,rfl⟩,rfl⟩,_,(.cons _ (.cons_cons _ (List.nil_sublist _))),h⟩
 obtain ⟨x4,y1,h6,hf⟩:=bP hf; refine W 1 Z (CL Z (AC.one 1 Z (eD _ _ _ h6 ⟨_,Z,(J 1 Z (C hf Z (fun h7 hf=>?_) fun h7 hf=>?_))⟩)))
 ·
  rcases dV hf with ⟨e1,y3,h8,hf⟩ | ⟨x5,y2,h8,hf⟩
  · refine W 2 Z (CL Z (AC.one 1 Z (fI _ _ _ h8 ⟨_,Z,?_⟩))); cases hf; exact ⟨rfl,_,(.cons _ (.cons_cons _ (List.nil_sublist _))),h⟩
  refine W 2 Z (CL Z (AC.one 1 Z (fI _ _ _ h8 ⟨_,Z,?_⟩))); cases hf; exact Rx 2 [0] rfl rfl ⟨rfl,_,⟨_,_,rfl,⟨_,_,0,_,_,rfl,rfl,gT,rfl⟩,rfl⟩,_,(.cons _ (.cons_cons _ (List.nil_sublist _))),h⟩
 cases hf; exact Wx 3 [0] rfl rfl ⟨rfl,_,⟨_,_,rfl,⟨_,_,0,_,_,rfl,rfl,gT,rfl⟩,rfl⟩,_,(.cons _ (.cons_cons _ (List.nil_sublist _))),h⟩
theorem Hq (aH) (bN:fU aH) (aL) (dI:fT aL) (aR) (fB:iF aR) (aT) (gH:iG aT) (bC) (gY:iT bC) (bB) (gX:iR bB) (bq) (fI:iU bq) (aU) (fQ:gL aU) (p1:Nat) (o_:ak) (vW:Str) {rX:eX aB (List aj)} {o9:ak} (hf:uE aH aL aR aT bC bB bq aU o_ vW=some (rX,o9)) {Q:cZ→List bn→Prop} (h:Q (uf rX) [.box p1 (aW o9)]):PC 348 [pP p1,.str vW] [.box p1 (aW o_)] Q:=by
 unfold uE at hf; refine BD 21 [.tmp 4] [0,1] Tryz.func348 Z Z Z Z Z (W 0 Z (AS Z (AO.dQ Z Z ?_))); obtain ⟨x1,y1,h1,hf⟩:=bP hf; refine U 2 Z (CL Z (AC.one 0 Z (eD _ _ _ h1 ⟨_,Z,(J 0 Z (C hf Z (fun h2 hf=>?_) fun h2 hf=>?_))⟩)))
 · refine W 0 Z (AS Z (AO.dQ Z Z ?_)); cases hf; exact N 0 rfl ⟨rfl,_,⟨_,_,rfl,rfl,rfl⟩,_,(.cons_cons _ (List.nil_sublist _)),h⟩
 refine V 1 Z (AW.row 10 45 (Uu (fun bg v1 y2=>[(0,pP p1),(1,.str vW),(5,.own v1 (aj.aN bg))]) (fun bg v1 y2=>[.row v1 (aj.aN bg).length 10 45,.box p1 (aW y2)]) (fun bY bg v1 y2=>o7 aH vW bY bg y2=some (rX,o9)) BIG [] (.slice none 0 0) y1 Z Z hf (fun _ _ _ hz=>bT hz) ?_)); intro bY bg v1 y2 hf; rw [o7] at hf; rcases dV hf with ⟨e1,y4,h3,hf⟩ | ⟨x2,y3,h3,hf⟩
 · refine W 2 Z (CL Z (AC.one 1 Z (bN _ _ h3 ⟨_,Z,?_⟩))); cases hf; exact ⟨rfl,_,(.cons _ (.cons_cons _ (List.nil_sublist _))),h⟩
 refine W 2 rfl (CL rfl (AC.one 1 rfl (bN _ _ h3 ⟨_,rfl,(AS rfl (AO.bL (aj.aN [x2]) rfl wu rfl rfl rfl (by first | rfl | simp only [List.map,aj.aG,aj.aN]) ?_))⟩))); refine B1 hf fun jJ h4 hf=>AS Z (AO.eO (i:=0) (l:=bg) (m:=[x2]) h4 Z Z Z Z Z Z Z wu je (aj.aC _) (aj.aC _) (aj.aC _).symm (aj.bE) (aj.cells_one) (by decide) (fun v2 s1 hs1=>?_)); cases hs1; obtain ⟨x3,y5,h5,hf⟩:=bP hf
 refine U 2 Z (CL Z (AC.one 1 Z (eD _ _ _ h5 ⟨_,Z,(J 1 Z (C hf Z (fun h6 hf=>?_) fun h6 hf=>?_))⟩)))
 ·
  rcases dV hf with ⟨e2,y7,h7,hf⟩ | ⟨_,y6,h7,hf⟩
  · refine W 2 Z (CL Z (AC.one 1 Z (dN _ _ _ h7 ⟨_,Z,?_⟩))); cases hf; exact ⟨rfl,_,(.cons _ (.cons_cons _ (List.nil_sublist _))),h⟩
  refine W 2 Z (CL Z (AC.one 1 Z (dN _ _ _ h7 ⟨_,Z,?_⟩))); cases hf; exact N 2 rfl ⟨rfl,_,⟨_,_,rfl,rfl,rfl⟩,_,(.cons _ (.cons_cons _ (List.nil_sublist _))),h⟩
 exact M 0 Z ⟨jJ,v2,y5,Z,Z,Z,hf⟩
theorem EF (aH) (bN:fU aH) (aL) (dI:fT aL) (aR) (fB:iF aR) (aT) (gH:iG aT) (bC) (gY:iT bC) (bB) (gX:iR bB) (bq) (fI:iU bq) (aU) (fQ:gL aU) (p1:Nat) (o_:ak) {rX:eX aB aj} {o9:ak} (hf:qL aH aL aR aT bC bB bq aU o_=some (rX,o9)) {Q:cZ→List bn→Prop} (h:Q (qG rX) [.box p1 (aW o9)]):PC 349 [pP p1] [.box p1 (aW o_)] Q:=by
 unfold qL at hf; refine BD 50 [.cell 2 45] [0] Tryz.func349 Z Z Z Z Z (W 0 Z (AS Z (AO.aF Z iX (fun b2=>(U 1 Z (AS Z (AO.aF Z iX (fun b3=>?_)))))))); obtain ⟨x1,y1,h1,hf⟩:=bP hf; refine Rr 2 [0] Z Z (CL Z (AC.one 2 Z (eD _ _ _ h1 ⟨_,Z,(J 0 Z (C hf Z (fun h2 hf=>?_) fun h2 hf=>?_))⟩)))
 · cases hf; exact Wx 2 [0,1] rfl rfl ⟨rfl,_,⟨_,_,rfl,⟨_,_,1,_,_,rfl,rfl,gT,rfl⟩,rfl⟩,_,(.cons _ (.cons _ (.cons_cons _ (List.nil_sublist _)))),h⟩
 refine V 0 Z (AW.row 10 45 (AW.row 1 9 (AW.settle [0,2,3] Z (AW.Bt 2 [false,false,false,false,false,false,true,true] Z (LK4 (fun bg v1 v2 y2=>[(0,pP p1),(2,pP b2),(3,pP b3)]) (fun bg v1 v2 y2=>[.row v2 (List.map mo bg.keys).length 1 9,.row v1 (aj.aN bg.args).length 10 45,.box b3 [iP bg.kind,.str bg.name,iP bg.value.kind,.bool bg.value.iD,iP bg.value.iC,.str bg.value.gW,.list (ah.aN bg.value.bH),sP bg.value.keys,.own v1 (aj.aN bg.args),.own v2 (List.map mo bg.keys)],.box b2 [iP 0,.str ([]:Str),iP 0,.bool false,iP 0,.str ([]:Str),.own (.slice none 0 0) [],.own (.slice none 0 0) [],.own (.slice none 0 0) [],.own (.slice none 0 0) []],.box p1 (aW y2)]) (fun bY bg v1 v2 y2=>kL aH bY bg y2=some (rX,o9)) BIG (aj.mk 10 ([]:Str) (ah.mk 0 false 0 ([]:Str) [] []) [] []) (.slice none 0 0) (.slice none 0 0) y1 Z Z hf (fun _ _ _ _ hz=>bT hz) ?_))))); intro bY bg v1 v2 y2 hf; rw [kL] at hf; rcases dV hf with ⟨e1,y4,h3,hf⟩ | ⟨x2,y3,h3,hf⟩
 · refine W 1 Z (CL Z (AC.one 4 Z (jr _ _ h3 ⟨_,Z,?_⟩))); cases hf; exact ⟨rfl,_,(.cons _ (.cons _ (.cons _ (.cons _ (.cons_cons _ (List.nil_sublist _)))))),h⟩
 refine W 1 Z (CL Z (AC.one 4 Z (jr _ _ h3 ⟨_,Z,(AS Z (AO.aF Z w9 (fun b4=>(Rr 5 [0,0] Z Z (AR.and 4 14 18 [0,2,3,4] (x:=(x2.kind != 3)) Z Z (fun h4=>?_) (fun h4=>?_) ?_)))))⟩)))
 · refine Is 14 h4 Z (U 1 Z (GO Z (AO.aY (i:=0) Z Z Z Dr Z Z ?_))); exact fG 2 Z (En [18,0,2,3,4] Z)
 · refine Is 14 h4 Z ?_; exact fG 4 Z (En [18,0,2,3,4] Z)
 refine J 0 Z (C hf Z (fun h5 hf=>?_) fun h5 hf=>?_)
 ·
  rcases dV hf with ⟨e2,y6,h6,hf⟩ | ⟨_,y5,h6,hf⟩
  · refine W 1 Z (CL Z (AC.one 5 Z (eU _ _ _ h6 ⟨_,Z,?_⟩))); cases hf; exact ⟨rfl,_,(.cons _ (.cons _ (.cons _ (.cons _ (.cons _ (.cons_cons _ (List.nil_sublist _))))))),h⟩
  refine W 1 Z (CL Z (AC.one 5 Z (eU _ _ _ h6 ⟨_,Z,?_⟩))); rcases dV hf with ⟨e3,y8,h7,hf⟩ | ⟨_,y7,h7,hf⟩
  · refine Rr 9 [5,5] Z Z (CL Z (AC.one 5 Z (dN _ _ _ h7 ⟨_,Z,?_⟩))); cases hf; exact ⟨rfl,_,(.cons _ (.cons _ (.cons _ (.cons _ (.cons _ (.cons_cons _ (List.nil_sublist _))))))),h⟩
  refine Rr 9 [5,5] Z Z (CL Z (AC.one 5 Z (dN _ _ _ h7 ⟨_,Z,(Rr 4 [3,0] Z Z (AS Z (AO.bL (List.map mo ([x2.text]:List Str)) Z rD Z Z Z Z ?_)))⟩))); refine B1 hf fun x3 h8 hf=>AS Z (AO.eO (i:=1) (l:=bg.keys) (m:=([x2.text]:List Str)) h8 Z Z Z Z Z Z Z rD iY Z Z Z (fun _=>Z) (fun _=>Z) (by decide) (fun v3 s1 hs1=>?_)); cases hs1; refine Rw 2 [3] Z Z (AW.Vx 0 3 5 5 mixed (by kernel_rfl) (by kernel_rfl) (by kernel_rfl) Z Z Z Z ?_); refine Ev.nil ?_; show Ev _ _ _ _ _ _ _; refine Ev.cs aX 1 Z (Ev.cons Z Z Z (AO.aY (i:=3) Z Z Z Nt Z Z zg) (Ev.cs aX 1 Z (Ev.nil ?_))); rcases dV hf with ⟨e4,y10,h9,hf⟩ | ⟨x4,y9,h9,hf⟩
  · refine TF.step Z Z Z (AO.call Z _ Z Z MP (AC.one 0 Z (bN _ _ h9 ⟨_,Z,?_⟩))); cases hf; exact ⟨rfl,_,(.cons _ (.cons _ (.cons _ (.cons _ (.cons _ (.cons_cons _ (List.nil_sublist _))))))),h⟩
  refine TF.step rfl rfl rfl (AO.call rfl _ rfl rfl MP (AC.one 0 rfl (bN _ _ h9 ⟨_,rfl,(TF.step rfl rfl rfl (AO.bL (aj.aN [x4]) rfl wu rfl rfl rfl (by first | rfl | simp only [List.map,aj.aG,aj.aN]) ?_))⟩))); refine TF.nil ?_; show AR _ _ _ _ _ _ _ _
  refine B1 hf fun x5 h10 hf=>AS Z (AO.eO (i:=2) (l:=bg.args) (m:=[x4]) h10 Z Z Z Z Z Z Z wu je (aj.aC _) (aj.aC _) (aj.aC _).symm (aj.bE) (aj.cells_one) (by decide) (fun v4 s2 hs2=>?_)); cases hs2; obtain ⟨x6,y11,h11,hf⟩:=bP hf; refine Rr 3 [3] Z Z (CL Z (AC.one 5 Z (eD _ _ _ h11 ⟨_,Z,(J 1 Z (C hf Z (fun h12 hf=>?_) fun h12 hf=>?_))⟩)))
  ·
   rcases dV hf with ⟨e5,y13,lH,hf⟩ | ⟨_,y12,lH,hf⟩
   · refine W 1 Z (CL Z (AC.one 5 Z (dN _ _ _ lH ⟨_,Z,?_⟩))); cases hf; exact ⟨rfl,_,(.cons _ (.cons _ (.cons _ (.cons _ (.cons _ (.cons_cons _ (List.nil_sublist _))))))),h⟩
   refine W 1 Z (CL Z (AC.one 5 Z (dN _ _ _ lH ⟨_,Z,?_⟩))); cases hf; exact Rx 2 [3,4] rfl rfl ⟨rfl,_,⟨_,_,rfl,⟨_,_,4,_,_,rfl,rfl,gT,rfl⟩,rfl⟩,_,(.cons _ (.cons _ (.cons _ (.cons _ (.cons _ (.cons_cons _ (List.nil_sublist _))))))),h⟩
  refine AW.drop1 ?_; exact M 0 Z ⟨(aj.mk bg.kind bg.name bg.value x5 x3),v4,v3,y11,Z,Z,Z,hf⟩
 rcases dV hf with ⟨e6,y15,lV,hf⟩ | ⟨_,y14,lV,hf⟩
 · refine Wr 9 [5,5] Z Z (CL Z (AC.one 5 Z (dN _ _ _ lV ⟨_,Z,?_⟩))); cases hf; exact ⟨rfl,_,(.cons _ (.cons _ (.cons _ (.cons _ (.cons _ (.cons_cons _ (List.nil_sublist _))))))),h⟩
 refine Wr 9 [5,5] Z Z (CL Z (AC.one 5 Z (dN _ _ _ lV ⟨_,Z,(Rr 4 [3,0] Z Z (AS Z (AO.bL (List.map mo ([x2.text]:List Str)) Z rD Z Z Z Z ?_)))⟩))); refine B1 hf fun x7 ru hf=>AS Z (AO.eO (i:=1) (l:=bg.keys) (m:=([x2.text]:List Str)) ru Z Z Z Z Z Z Z rD iY Z Z Z (fun _=>Z) (fun _=>Z) (by decide) (fun v5 s3 hs3=>?_)); cases hs3; refine Rw 2 [3] Z Z (AW.Vx 0 3 5 5 mixed (by kernel_rfl) (by kernel_rfl) (by kernel_rfl) Z Z Z Z ?_); refine Ev.nil ?_; show Ev _ _ _ _ _ _ _; refine Ev.cs aX 1 Z (Ev.cons Z Z Z (AO.aY (i:=3) Z Z Z Nt Z Z zg) (Ev.cs aX 1 Z (Ev.nil ?_))); rcases dV hf with ⟨e7,y17,h16,hf⟩ | ⟨x8,y16,h16,hf⟩
 · refine TF.step Z Z Z (AO.call Z _ Z Z MP (AC.one 0 Z (bN _ _ h16 ⟨_,Z,?_⟩))); cases hf; exact ⟨rfl,_,(.cons _ (.cons _ (.cons _ (.cons _ (.cons _ (.cons_cons _ (List.nil_sublist _))))))),h⟩
 refine TF.step rfl rfl rfl (AO.call rfl _ rfl rfl MP (AC.one 0 rfl (bN _ _ h16 ⟨_,rfl,(TF.step rfl rfl rfl (AO.bL (aj.aN [x8]) rfl wu rfl rfl rfl (by first | rfl | simp only [List.map,aj.aG,aj.aN]) ?_))⟩))); refine TF.nil ?_; show AR _ _ _ _ _ _ _ _
 refine B1 hf fun x9 xB hf=>AS Z (AO.eO (i:=2) (l:=bg.args) (m:=[x8]) xB Z Z Z Z Z Z Z wu je (aj.aC _) (aj.aC _) (aj.aC _).symm (aj.bE) (aj.cells_one) (by decide) (fun v6 s4 hs4=>?_)); cases hs4; obtain ⟨K3,y18,h18,hf⟩:=bP hf; refine Rr 3 [3] Z Z (CL Z (AC.one 5 Z (eD _ _ _ h18 ⟨_,Z,(J 1 Z (C hf Z (fun h19 hf=>?_) fun h19 hf=>?_))⟩)))
 ·
  rcases dV hf with ⟨e8,y20,h20,hf⟩ | ⟨_,y19,h20,hf⟩
  · refine W 1 Z (CL Z (AC.one 5 Z (dN _ _ _ h20 ⟨_,Z,?_⟩))); cases hf; exact ⟨rfl,_,(.cons _ (.cons _ (.cons _ (.cons _ (.cons _ (.cons_cons _ (List.nil_sublist _))))))),h⟩
  refine W 1 Z (CL Z (AC.one 5 Z (dN _ _ _ h20 ⟨_,Z,?_⟩))); cases hf; exact Rx 2 [3,4] rfl rfl ⟨rfl,_,⟨_,_,rfl,⟨_,_,4,_,_,rfl,rfl,gT,rfl⟩,rfl⟩,_,(.cons _ (.cons _ (.cons _ (.cons _ (.cons _ (.cons_cons _ (List.nil_sublist _))))))),h⟩
 refine AW.drop1 ?_; exact M 0 Z ⟨(aj.mk bg.kind bg.name bg.value x9 x7),v6,v5,y18,Z,Z,Z,hf⟩
theorem gQ :∀ k:Nat,(fU (bW k))∧(fT (bV k))∧(iF (dh k))∧(iG (dn k))∧(iT (dF k))∧(iR (dD k))∧(iU (dG k))∧(gL (cu k)):=by
 intro k
 induction k with
 | zero=>exact ⟨fun _ _ _ _ hz=>by first | cases hz | (unfold bW at hz; cases hz),fun _ _ _ _ _ hz=>by first | cases hz | (unfold bV at hz; cases hz),fun _ _ _ _ hz=>by first | cases hz | (unfold dh at hz; cases hz),fun _ _ _ _ hz=>by first | cases hz | (unfold dn at hz; cases hz),fun _ _ _ _ hz=>by first | cases hz | (unfold dF at hz; cases hz),fun _ _ _ _ _ hz=>by first | cases hz | (unfold dD at hz; cases hz),fun _ _ _ _ _ hz=>by first | cases hz | (unfold dG at hz; cases hz),fun _ _ _ _ hz=>by first | cases hz | (unfold cu at hz; cases hz)⟩
 | succ k ih=>exact ⟨fun lI gP eP jf hz  Q hq=>Dq (bW k) ih.1 (bV k) ih.2.1 (dh k) ih.2.2.1 (dn k) ih.2.2.2.1 (dF k) ih.2.2.2.2.1 (dD k) ih.2.2.2.2.2.1 (dG k) ih.2.2.2.2.2.2.1 (cu k) ih.2.2.2.2.2.2.2 lI gP hz hq,fun lI gP Za eP jf hz  Q hq=>Dp (bW k) ih.1 (bV k) ih.2.1 (dh k) ih.2.2.1 (dn k) ih.2.2.2.1 (dF k) ih.2.2.2.2.1 (dD k) ih.2.2.2.2.2.1 (dG k) ih.2.2.2.2.2.2.1 (cu k) ih.2.2.2.2.2.2.2 lI gP Za hz hq,fun lI gP eP jf hz  Q hq=>GR (bW k) ih.1 (bV k) ih.2.1 (dh k) ih.2.2.1 (dn k) ih.2.2.2.1 (dF k) ih.2.2.2.2.1 (dD k) ih.2.2.2.2.2.1 (dG k) ih.2.2.2.2.2.2.1 (cu k) ih.2.2.2.2.2.2.2 lI gP hz hq,fun lI gP eP jf hz  Q hq=>GU (bW k) ih.1 (bV k) ih.2.1 (dh k) ih.2.2.1 (dn k) ih.2.2.2.1 (dF k) ih.2.2.2.2.1 (dD k) ih.2.2.2.2.2.1 (dG k) ih.2.2.2.2.2.2.1 (cu k) ih.2.2.2.2.2.2.2 lI gP hz hq,fun lI gP eP jf hz  Q hq=>Ho (bW k) ih.1 (bV k) ih.2.1 (dh k) ih.2.2.1 (dn k) ih.2.2.2.1 (dF k) ih.2.2.2.2.1 (dD k) ih.2.2.2.2.2.1 (dG k) ih.2.2.2.2.2.2.1 (cu k) ih.2.2.2.2.2.2.2 lI gP hz hq,fun lI gP rH eP jf hz  Q hq=>Hl (bW k) ih.1 (bV k) ih.2.1 (dh k) ih.2.2.1 (dn k) ih.2.2.2.1 (dF k) ih.2.2.2.2.1 (dD k) ih.2.2.2.2.2.1 (dG k) ih.2.2.2.2.2.2.1 (cu k) ih.2.2.2.2.2.2.2 lI gP rH hz hq,fun lI gP Gq eP jf hz  Q hq=>Hq (bW k) ih.1 (bV k) ih.2.1 (dh k) ih.2.2.1 (dn k) ih.2.2.2.1 (dF k) ih.2.2.2.2.1 (dD k) ih.2.2.2.2.2.1 (dG k) ih.2.2.2.2.2.2.1 (cu k) ih.2.2.2.2.2.2.2 lI gP Gq hz hq,fun lI gP eP jf hz  Q hq=>EF (bW k) ih.1 (bV k) ih.2.1 (dh k) ih.2.2.1 (dn k) ih.2.2.2.1 (dF k) ih.2.2.2.2.1 (dD k) ih.2.2.2.2.2.1 (dG k) ih.2.2.2.2.2.2.1 (cu k) ih.2.2.2.2.2.2.2 lI gP hz hq⟩
theorem vO (lI:Nat) (gP:ak) {eP:eX aB aj} {jf:ak} (hf:xM gP=some (eP,jf)) {Q:cZ→List bn→Prop} (h:Q (pI eP) [.box lI (aW jf)]):PC 286 [pP lI] [.box lI (aW gP)] Q:=
 ((gQ BIG).1) lI gP hf h
theorem Q9 (lI:Nat) (gP:ak) (Za:Int) {eP:eX aB aj} {jf:ak} (hf:EN gP Za=some (eP,jf)) {Q:cZ→List bn→Prop} (h:Q (pG eP) [.box lI (aW jf)]):PC 313 [pP lI,iP Za] [.box lI (aW gP)] Q:=
 ((gQ BIG).2.1) lI gP Za hf h
theorem Uz (lI:Nat) (gP:ak) {eP:eX aB aj} {jf:ak} (hf:JK gP=some (eP,jf)) {Q:cZ→List bn→Prop} (h:Q (sQ eP) [.box lI (aW jf)]):PC 329 [pP lI] [.box lI (aW gP)] Q:=
 ((gQ BIG).2.2.1) lI gP hf h
theorem UA (lI:Nat) (gP:ak) {eP:eX aB aj} {jf:ak} (hf:JL gP=some (eP,jf)) {Q:cZ→List bn→Prop} (h:Q (sS eP) [.box lI (aW jf)]):PC 340 [pP lI] [.box lI (aW gP)] Q:=
 ((gQ BIG).2.2.2.1) lI gP hf h
theorem VL (lI:Nat) (gP:ak) {eP:eX aB aj} {jf:ak} (hf:KA gP=some (eP,jf)) {Q:cZ→List bn→Prop} (h:Q (t_ eP) [.box lI (aW jf)]):PC 344 [pP lI] [.box lI (aW gP)] Q:=
 ((gQ BIG).2.2.2.2.1) lI gP hf h
theorem VK (lI:Nat) (gP:ak) (rH:Str) {eP:eX aB aj} {jf:ak} (hf:Kz gP rH=some (eP,jf)) {Q:cZ→List bn→Prop} (h:Q (tZ eP) [.box lI (aW jf)]):PC 347 [pP lI,.str rH] [.box lI (aW gP)] Q:=
 ((gQ BIG).2.2.2.2.2.1) lI gP rH hf h
theorem VN (lI:Nat) (gP:ak) (Gq:Str) {eP:eX aB (List aj)} {jf:ak} (hf:KC gP Gq=some (eP,jf)) {Q:cZ→List bn→Prop} (h:Q (uf eP) [.box lI (aW jf)]):PC 348 [pP lI,.str Gq] [.box lI (aW gP)] Q:=
 ((gQ BIG).2.2.2.2.2.2.1) lI gP Gq hf h
theorem SN (lI:Nat) (gP:ak) {eP:eX aB aj} {jf:ak} (hf:GY gP=some (eP,jf)) {Q:cZ→List bn→Prop} (h:Q (qG eP) [.box lI (aW jf)]):PC 349 [pP lI] [.box lI (aW gP)] Q:=
 ((gQ BIG).2.2.2.2.2.2.2) lI gP hf h
end
section
variable [zq]
theorem RS (Dm:List aZ) {r0:aj} {r1 r2:Int} (hf:Ii Dm=some (r0,r1,r2)) (h:Q (.ret (.tuple [.agg (bI r0),iP r1,iP r2])) τ):PC 257 [.list (List.map aZ.cells Dm)] τ Q:=by
 unfold Ii at hf; refine AC.none (AC.Nz 17 [.cell 2 45,.cell 3 3,.cell 4 25] [0] [0,1,2] Tryz.func257 Z Z Z Z Z Tryz.func285 Z Z Z Z Z Z Z ac9 (AW.sr (AR.step Z Z Z (AO.aF Z iX (fun b2=>?_))))); refine AR.step Z Z Z (AO.aF Z aeN (fun b3=>(AR.step Z Z Z (AO.aF Z Zl (fun b4=>(AR.nil [0,2,3,4] Z (AW.sr ?_))))))); refine cs 1 Z (AR.step Z Z Z (AO.build Z acR abG Z (AR.step Z Z Z (AO.JE Z Z (fun b8=>(cs 1 Z ?_)))))); refine AR.nil [2,3,4,5] Z (AW.sr (cs 1 Z (AR.defer (vs:=[.pointer (some ⟨b2,0,none⟩),.pointer (some ⟨b3,0,none⟩),.pointer (some ⟨b4,0,none⟩)]) Z Z Z Z Z Z ?_))); refine AR.nil [2,3,4,5] Z (AW.sr (cs 1 Z ?_)); rcases dV hf with ⟨f1,s1,h1,hf⟩ | ⟨e1,s1,h1,hf⟩
 ·
  refine AR.step Z Z Z (AO.call Z _ Z Z MP (AC.one 0 Z (vO _ _ h1 ⟨_,Z,?_⟩))); cases hf; refine ⟨[.pointer (some ⟨b2,0,none⟩),.pointer (some ⟨b3,0,none⟩),.pointer (some ⟨b4,0,none⟩)],_,Z,Z,Z,(AR.step Z Z Z (AO.XF Z Z abB (cs 3 Z (AR.step Z Z Z (AO.aF Z Zj (fun b5=>?_))))))⟩; refine AR.bF Z Z (AO.bR (i:=0) Z Z Z ZH Z Z Z Z Z (cs 1 Z (AR.nil [0,1,2,3,4] Z (AW.sr ?_)))); refine cs 1 Z (AR.nil [0,1,2,3,10] Z (AW.cond Z (fun _=>?_) (fun hh=>by cases hh))); refine AW.SG 1 5 7 [_] [_,_,_,_] mixed (by kernel_rfl) (by kernel_rfl) (by kernel_rfl) Z Z Z (List.Perm.refl _) ?_; refine Ev.cons Z Z Z (AO.build Z iX Ed Z zg) (Ev.nil ?_); show Ev _ _ _ _ _ _ _; refine Ev.cs aX 1 Z (Ev.cons Z Z Z (AO.aY (i:=0) Z Z Z Dr Z Z zg) (Ev.cs aX 1 Z (Ev.cons Z Z Z (AO.aY (i:=0) Z Z Z DF Z Z zg) ?_))); refine Ev.nil (TF.bF Z Z (AO.bR (i:=3) Z Z Z gT Z Z Z Z Z (TF.bF Z Z (AO.bR (i:=2) Z Z Z Dr Z Z Z Z Z (TF.nil ?_))))); show AR _ _ _ _ _ _ _ _; refine AR.bF Z Z (AO.bR (i:=2) Z Z Z DF Z Z Z Z Z (AR.nil [] Z ?_)); exact ⟨rfl,_,⟨_,_,rfl,⟨_,_,4,_,_,rfl,rfl,gT,rfl⟩,⟨_,_,rfl,⟨_,_,3,_,_,rfl,rfl,Dr,rfl⟩,⟨_,_,rfl,⟨_,_,2,_,_,rfl,rfl,DF,rfl⟩,rfl⟩⟩⟩,[],List.nil_sublist _,h⟩
 refine AR.step Z Z Z (AO.call Z _ Z Z MP (AC.one 0 Z (vO _ _ h1 ⟨_,Z,?_⟩))); cases hf; refine AR.bF Z Z (AO.bR (i:=3) Z Z Z gT Z Z Z Z Z (AR.nil [2,3,4,5] Z (AW.seq (AW.Vx 1 5 6 3 mixed (by kernel_rfl) (by kernel_rfl) (by kernel_rfl) Z Z Z Z ?_)))); refine Ev.cons Z Z Z (AO.aY (i:=3) Z Z Z gT Z Z zg) (Ev.nil ?_); show Ev _ _ _ _ _ _ _; refine Ev.cs aX 3 Z (Ev.cons Z Z Z (AO.aY (i:=0) Z Z Z Dr Z Z zg) (Ev.nil (TF.bF Z Z (AO.bR (i:=0) Z Z Z gT Z Z Z Z Z ?_)))); refine TF.nil ?_; show AR _ _ _ _ _ _ _ _; refine AR.bF Z Z (AO.bR (i:=2) Z Z Z Dr Z Z Z Z Z (AR.bF Z Z (AO.bR (i:=1) Z Z Z DF Z Z Z Z Z (AR.nil [2,3,4] Z (AW.ret ?_))))); refine ⟨[.pointer (some ⟨b2,0,none⟩),.pointer (some ⟨b3,0,none⟩),.pointer (some ⟨b4,0,none⟩)],_,Z,Z,Z,(AR.step Z Z Z (AO.UO (p:=.agg [iP 0,iP 0]) Z Z abD (fun _ _=>by simp only [dJ]; exact ⟨[.int .i64 0,.int .i64 0],Z,bD.cons (by simp [dJ]) (bD.cons (by simp [dJ]) bD.nil)⟩) ?_))⟩; refine cs 3 Z (AR.step Z Z Z (AO.aF Z Zj (fun b5=>(AR.bF Z Z (AO.bR (i:=0) Z Z Z ZH Z Z Z Z Z (cs 1 Z ?_)))))); refine AR.nil [4] Z (AW.sr (cs 1 Z (AR.nil [10] Z ?_))); refine AW.cond Z (fun hh=>by cases hh) (fun _=>?_); refine AW.skip ?_; exact ⟨rfl,_,⟨_,_,rfl,⟨_,_,4,_,_,rfl,rfl,gT,rfl⟩,⟨_,_,rfl,⟨_,_,3,_,_,rfl,rfl,Dr,rfl⟩,⟨_,_,rfl,⟨_,_,2,_,_,rfl,rfl,DF,rfl⟩,rfl⟩⟩⟩,[],List.nil_sublist _,h⟩
end
section
variable [zq]
theorem RV (Dm:List aZ) {r0:aj} {r1:Int} {r2:Int} (hf:Ik Dm=some (r0,r1,r2)) (h:Q (.ret (.tuple [.agg (bI r0),iP r1,iP r2])) τ):PC 219 [.list (List.map aZ.cells Dm)] τ Q:=by
 unfold Ik at hf; refine BN 27 [.cell 2 45,.tmp 3,.tmp 4] [0] Tryz.func219 Z Z Z Z Z (W 0 Z (AS Z (AO.aF Z iX (fun b2=>?_)))); obtain ⟨x1,n1,uT,h1,hf⟩:=jM hf; refine U 3 Z (CL Z (RS _ h1 (U 4 Z (AS Z (AO.aF Z iX (fun b5=>(Rw 5 [0] Z Z (C hf Z (fun h2 hf=>?_) fun h2 hf=>?_))))))))
 · cases hf; exact Wx 6 [1] Z Z (ZC [1] Z Z h)
 refine B1 hf fun II h3 hf=>Wr 1 [0] Z Z (CL Z (qY _ h3 (J 3 Z (C hf Z (fun h4 hf=>?_) fun h4 hf=>?_))))
 · cases hf; exact Wx 5 [1] Z Z (ZC [1] Z Z h)
 cases hf; exact Wx 5 [0,1] Z Z (ZC [1] Z Z h)
end
theorem Qz (Dm:List aZ) (n1:Int) (gq:Str) {r0:Int} (hf:FC Dm n1 gq=some r0) (h:Q (.ret (iP r0)) τ):PC 220 [.list (List.map aZ.cells Dm),iP n1,.str gq] τ Q:=by
 unfold FC at hf; refine BN 18 [.tmp 6] [0,1,2] Tryz.func220 Z Z Z Z Z (W 3 Z (AS Z (AO.aM (l:=Dm) Z Z Z Z yV Z Z (J 1 Z (C hf Z (fun h1 hf=>?_) fun h1 hf=>?_)))))
 · refine B1 hf fun e1 h2 hf=>W 2 Z (AS Z (AO.aO h2 Z Z Z Z yV (aZ.aG _) Z ?_)); cases hf; exact N 3 Z (Y Z h)
 refine W 1 Z (AS Z (AO.cK Z Z Z Z dP Z ?_)); cases hf; exact N 1 Z (Y Z h)
section
variable [zq]
theorem QG (gq:Str) {r0:aj} {r1:Int} {r2:Int} (hf:FL gq=some (r0,r1,r2)) (h:Q (.ret (.tuple [.agg (bI r0),iP r1,iP r2])) τ):PC 185 [.str gq] τ Q:=by
 unfold FL at hf; refine BN 46 [.cell 2 45,.tmp 3,.tmp 4] [0] Tryz.func185 Z Z Z Z Z (W 0 Z (AS Z (AO.aF Z iX (fun b2=>?_)))); obtain ⟨Dm,jy,uT,h1,hf⟩:=jM hf; refine U 3 Z (CL Z (QM _ h1 (J 9 Z (C hf Z (fun h2 hf=>?_) fun h2 hf=>?_))))
 · cases hf; exact Wx 6 [0] Z Z (ZC [0] Z Z h)
 obtain ⟨x1,n1,II,h3,hf⟩:=jM hf; refine W 1 Z (CL Z (RV _ h3 (U 4 Z (AS Z (AO.aF Z iX (fun b8=>(Rw 5 [0] Z Z (C hf Z (fun h4 hf=>?_) fun h4 hf=>?_))))))))
 · refine B1 hf fun x2 h5 hf=>W 4 Z (CL Z (Qz _ _ _ h5 ?_)); cases hf; exact Rx 4 [1] Z Z (ZC [1] Z Z h)
 refine W 2 Z (AS Z (AO.aM (l:=Dm) Z Z Z Z yV Z Z (J 1 Z (C hf Z (fun h6 hf=>?_) fun h6 hf=>?_))))
 ·
  refine V 0 Z (AW.Vx 1 6 7 1 mixed (by kernel_rfl) (by kernel_rfl) (by kernel_rfl) Z Z Z Z ?_); refine Ev.cons Z Z Z (AO.build Z iX Ed Z zg) (Ev.nil ?_); show Ev _ _ _ _ _ _ _; refine Ev.cs aX 2 Z ?_; refine B1 hf fun e1 h7 hf=>Ev.cons Z Z Z (AO.aO h7 Z Z Z Z yV (aZ.aG _) Z zg) (Ev.cs aX 2 Z (Ev.nil (TF.bF Z Z (AO.bR (i:=0) Z Z Z gT Z Z Z Z Z ?_)))); refine TF.nil ?_; show AR _ _ _ _ _ _ _ _; cases hf; exact N 2 Z (ZC [1] Z Z h)
 cases hf; exact Wx 4 [0,1] Z Z (ZC [1] Z Z h)
end
section
variable [zq]
theorem zk {b:Nat} {vp v p:Value} {lG r0:List bf} {text1:Str} (hf:qj lG text1=some r0) (hroom:roomy v=true) {R:cZ→List bn→Prop} (h:∀ vp',R (.ret (.tuple [])) [.kC b 209 [.val vp',.val (.pointer none),.own (.slice none 0 0) (List.map jv [])],.buf vp' r0.length 12 189 (r0.flatMap bf.cells)]):PC 186 [pP b] [.row v (List.length text1) 1 5,.kC b 209 [.val vp,.val p,.own v (List.map jv text1)],.buf vp lG.length 12 189 (lG.flatMap bf.cells)] R:=by
 unfold qj at hf; refine AC.jH 25 [] [0] Tryz.func186 Z Z Z Z Z (AW.seq (AW.sr (AR.step Z Z Z (AO.calc' Z ?_)))); refine AR.step Z Z Z (AO.nilCheck Z Z (AR.step Z Z Z (AO.dx Z Z EW (AR.step Z Z Z (AO.call Z _ Z Z adt (AC.frame (σ:=[_,_]) (τ:=[_]) (aaT (AR.step Z Z Z (AO.calc' Z ?_))))))))); refine AR.nil [0,6] Z (AW.cond Z (fun h1=>?_) (fun h1=>?_))
 ·
  replace hf:=jm h1 hf; refine AW.X7 4 12 [] [.row v (List.length text1) 1 5,.kC b 209 [.val vp,.val p,.own v (List.map jv text1)],.buf vp lG.length 12 189 (lG.flatMap bf.cells)] (fun S e s=>∃ v2:Value,e.get 0=pP b∧e.get 7=pP b∧e.get 10=pP b∧(S 4=true→e.get 11=.val vp)∧(S 5=true→e.get 12=pP b)∧(S 6=true→e.get 13=pP b)∧(S 7=true→e.get 14=.val (.pointer (some ⟨b,1,none⟩)))∧(S 8=true→e.get 15=.str text1)∧(S 9=true→e.get 16=.agg [.str text1,.bool false,iP 0,.str ([]:Str),iP 0,.bool false,iP 0,.str ([]:Str),.own (.slice none 0 0) [],.own (.slice none 0 0) [],.own (.slice none 0 0) [],.own (.slice none 0 0) []])∧(S 10=true→e.get 17=.list ((List.map bf.cells [(bf.mk text1 false (aj.mk 0 ([]:Str) (ah.mk 0 false 0 ([]:Str) [] []) [] []))])))∧(S 11=true→e.get 18=.val v2)∧s=(bif S 8 then [] else [.row v (List.length text1) 1 5]) ++ [.kC b 209 [.val vp,.val p,.own v (List.map jv text1)],bif S 11 then .buf v2 r0.length 12 189 (r0.flatMap bf.cells) else .buf vp lG.length 12 189 (lG.flatMap bf.cells)]) mixed (by kernel_rfl) Z Z (List.Perm.refl _) ?_ ?_ ?_ ?_
  ·
   refine Ev.cs aX 4 Z (Ev.nil ?_); exact ⟨.nilIface,Z,Z,Z,(fun h=>by cases h),(fun h=>by cases h),(fun h=>by cases h),(fun h=>by cases h),(fun h=>by cases h),(fun h=>by cases h),(fun h=>by cases h),(fun h=>by cases h),Z⟩
  ·
   rintro S S' e s hS ⟨v2,p0,p7,YE,q4,q5,q6,q7,q8,q9,Zd,Zc,qs⟩; have z:=fun i h1 h2=>(hS i h1 h2).symm; refine ⟨v2,p0,p7,YE,?_,?_,?_,?_,?_,?_,?_,?_,?_⟩
   ·
    rw [z 4 (by decide) (by decide)]; exact q4
   ·
    rw [z 5 (by decide) (by decide)]; exact q5
   ·
    rw [z 6 (by decide) (by decide)]; exact q6
   ·
    rw [z 7 (by decide) (by decide)]; exact q7
   ·
    rw [z 8 (by decide) (by decide)]; exact q8
   ·
    rw [z 9 (by decide) (by decide)]; exact q9
   ·
    rw [z 10 (by decide) (by decide)]; exact Zd
   ·
    rw [z 11 (by decide) (by decide)]; exact Zc
   ·
    rw [z 8 (by decide) (by decide),z 11 (by decide) (by decide)]; exact qs
  ·
   rintro S e s i o ⟨v2,p0,p7,YE,q4,q5,q6,q7,q8,q9,Zd,Zc,rfl⟩ hi1 hi2 WY hp' ho; have hi:i=4∨i=5∨i=6∨i=7∨i=8∨i=9∨i=10∨i=11:=by omega
   rcases hi with rfl | rfl | rfl | rfl | rfl | rfl | rfl | rfl
   ·
    cases ho; refine ⟨Z,(fun t ht=>by cases ht; decide),AO.less (Less.add YE Less.nil) ?_⟩; cases h8:S 8 with
    | false=>
     refine AO.j6 (i:=1) Z Z Z MH Z Z ?_; exact ⟨v2,p0,p7,YE,(fun _=>Z),q5,q6,q7,(fun h=>by rw [show S 8=true from h] at h8; cases h8),q9,Zd,Zc,by simp [h8]⟩
    | true=>
     refine AO.j6 (i:=0) Z Z Z MH Z Z ?_; exact ⟨v2,p0,p7,YE,(fun _=>Z),q5,q6,q7,q8,q9,Zd,Zc,by simp [h8]⟩
   ·
    cases ho; refine ⟨Z,(fun t ht=>by cases ht; decide),AO.less (Less.add p0 Less.nil) (AO.calc' Z ?_)⟩; exact ⟨v2,p0,p7,YE,q4,(fun _=>Z),q6,q7,q8,q9,Zd,Zc,Z⟩
   ·
    cases ho; have s5:=hp' 5 (any_beq.1 Z) (by decide); refine ⟨Z,(fun t ht=>by cases ht; decide),AO.less (Less.add (q5 s5) Less.nil) (AO.nilCheck Z Z ?_)⟩; exact ⟨v2,p0,p7,YE,q4,q5,(fun _=>Z),q7,q8,q9,Zd,Zc,Z⟩
   ·
    cases ho; have s6:=hp' 6 (any_beq.1 Z) (by decide); refine ⟨Z,(fun t ht=>by cases ht; decide),AO.less (Less.add (q6 s6) Less.nil) (AO.dx Z Z EW ?_)⟩; exact ⟨v2,p0,p7,YE,q4,q5,q6,(fun _=>Z),q8,q9,Zd,Zc,Z⟩
   ·
    cases ho; have s7:=hp' 7 (any_beq.1 Z) (by decide); rw [WY]; refine ⟨Z,(fun t ht=>by cases ht; decide),AO.less (Less.add (q7 s7) Less.nil) ?_⟩; refine AO.call Z _ Z Z adA (AC.frame (σ:=[_,_]) (τ:=[_]) (VP hroom ?_)); exact ⟨v2,p0,p7,YE,q4,q5,q6,q7,(fun _=>Z),q9,Zd,Zc,Z⟩
   ·
    cases ho; have s8:=hp' 8 (any_beq.1 Z) (by decide); refine ⟨Z,(fun t ht=>by cases ht; decide),AO.less (Less.add (q8 s8) Less.nil) (AO.build Z OW XH Z ?_)⟩; exact ⟨v2,p0,p7,YE,q4,q5,q6,q7,q8,(fun _=>Z),Zd,Zc,Z⟩
   ·
    cases ho; have s9:=hp' 9 (any_beq.1 Z) (by decide); refine ⟨Z,(fun t ht=>by cases ht; decide),AO.less (Less.add (q9 s9) Less.nil) (AO.bL ((List.map bf.cells [(bf.mk text1 false (aj.mk 0 ([]:Str) (ah.mk 0 false 0 ([]:Str) [] []) [] []))])) rfl Tw rfl rfl rfl (by first | rfl | simp only [List.map,bf.aG]) ?_)⟩
    exact ⟨v2,p0,p7,YE,q4,q5,q6,q7,q8,q9,(fun _=>Z),Zc,Z⟩
   ·
    cases ho; have s4:=hp' 4 (any_beq.1 Z) (by decide); have s8:=hp' 8 (any_beq.1 Z) (by decide); have s10:=hp' 10 (any_beq.1 Z) (by decide); rw [WY,s8]; refine ⟨Z,(fun t ht=>by cases ht; decide),AO.less (Less.add (q4 s4) (Less.add (Zd s10) Less.nil)) ?_⟩; refine AO.VY (i:=1) hf Z Z Z Z Z Z Z Tw CY bf.bE bf.cells_one (by decide) (fun v3 s2 hs2=>?_); cases hs2; exact ⟨v3,p0,p7,YE,q4,q5,q6,q7,q8,q9,Zd,(fun _=>Z),by simp [s8]⟩
  rintro S e s hS ⟨v2,p0,p7,YE,q4,q5,q6,q7,q8,q9,Zd,Zc,rfl⟩; rw [hS 8 (by decide) (by decide),hS 11 (by decide) (by decide)]; refine AR.less (Less.add p0 (Less.add p7 (Less.add (Zc (hS 11 (by decide) (by decide))) Less.nil))) ?_; refine AR.step Z Z Z (AO.nilCheck Z Z (AR.step Z Z Z (AO.dx Z Z L9 (AR.JD 1 Z (fun hv1 hv2=>?_))))); refine AR.bF Z Z (AO.rP (i:=0) Z Z Z MH hv1 hv2 Z Z Z ?_); refine AR.nil [0] Z (AW.region (AR.step Z Z Z (AO.calc' Z (AR.step Z Z Z (AO.nilCheck Z Z ?_))))); refine AR.step Z Z Z (AO.dx Z Z EW (AR.step Z Z Z (AO.call Z _ Z Z Z8 (AC.frame (σ:=[_]) (τ:=[_]) (QY (AR.nil [] Z ?_)))))); exact ⟨Z,[],Z,_,List.Sublist.refl _,h v2⟩
 ·
  obtain rfl:=Option.some.inj (iO h1 hf); refine AW.skip (AW.drop1 (AW.region (AR.step Z Z Z (AO.calc' Z ?_)))); refine AR.step Z Z Z (AO.nilCheck Z Z (AR.step Z Z Z (AO.dx Z Z EW (AR.step Z Z Z (AO.call Z _ Z Z Z8 (AC.frame (σ:=[_]) (τ:=[_]) (QY (AR.nil [] Z ?_)))))))); exact ⟨Z,[],Z,_,List.Sublist.refl _,h vp⟩
theorem DX (s1:Str) {r0:List bf} {r1:Int} {r2:Int} (hf:vw s1=some (r0,r1,r2)) {Q:cZ→List bn→Prop} (h:∀ v,Q (.ret (.tuple [.val v,iP r1,iP r2])) [.buf v r0.length 12 189 (r0.flatMap bf.cells)]):PC 152 [.str s1] [] Q:=by
 unfold vw at hf; refine AC.jH 76 [.tmp 2,.tmp 3,.tmp 4] [0] Tryz.func152 Z Z Z Z Z (AW.sr (AR.step Z Z Z (AO.dQ Z Z (cs 2 Z ?_)))); refine AR.nil [0] Z (AW.seq (AW.sr (cs 1 Z ?_))); refine AR.step Z Z Z (AO.cK Z Z Z Z dP Z (cs 1 Z (AR.nil [0,14] Z (AW.cond Z (fun h1=>?_) (fun h1=>?_)))))
 · replace hf:=jm h1 hf; refine AW.sr (AR.step Z Z Z (AO.yF Z Z (cs 2 Z (AR.nil [2,3,4] Z ?_)))); refine AW.R8 12 189 (AW.ret ?_); cases hf; exact ⟨rfl,_,⟨_,_,rfl,rfl,_,_,rfl,rfl,_,_,rfl,rfl,rfl⟩,_,(List.nil_sublist _).cons_cons _,h _⟩
 replace hf:=iO h1 hf; refine AW.skip (AW.R8 12 189 (AW.sr ?_)); refine AR.step Z Z Z (AO.Xn Z acS (fun b=>?_)); refine AR.nil [0,5] Z (AW.TI 0 0 Z Z (AW.row 1 5 (AW.seq ?_))); refine AW.sr (cs 1 Z (AR.nil [0,5,6] Z (AW.block ?_))); refine AW.settle [0,5,6] Z ?_; refine AW.ad2 (fun jy lG vp text1 vt p=>[(0,.str s1),(5,pP b),(6,iP jy)]) (fun jy lG vp text1 vt p=>[.row vt (List.length text1) 1 5,.kC b 209 [.val vp,.val p,.own vt (List.map jv text1)],.buf vp lG.length 12 189 (lG.flatMap bf.cells)]) (fun bY jy lG vp text1 vt p=>pV s1 bY jy lG text1=some (r0,r1,r2)∧(p=Value.pointer none∨p=.pointer (some ⟨b,1,none⟩))∧roomy vt=true) BIG 0 [] (.slice none 0 0) [] (.slice none 0 0) (.pointer none) Z Z ⟨hf,.inl Z,Z⟩ (fun _ _ _ _ _ _ hz=>bT hz.1) ?_; intro bY jy lG vp text1 vt p hfI; obtain ⟨hf,hp,hroom⟩:=hfI; rw [pV] at hf; refine AW.seq (AW.sr (cs 2 Z (AR.step Z Z Z (AO.cK Z Z Z Z dP Z ?_)))); refine cs 1 Z (AR.nil [0,5,6,18] Z (AW.cond Z (fun h2=>?_) (fun h2=>?_)))
 ·
  replace hf:=jm h2 hf; refine AW.skip (AW.block (AW.sr (cs 2 Z ?_))); refine B1 hf fun jq h3 hf=>AR.step Z Z Z (AO.oM h3 Z dP Z ⟨_,Z⟩ Z (cs 1 Z (AR.nil [0,5,6,7] Z (AW.block ?_)))); refine AW.sr (cs 1 Z ?_); refine B1 hf fun b1 h4 hf=>AR.step Z Z Z (AO.call Z _ Z Z aad (vX _ _ h4 (cs 1 Z (AR.nil [0,5,6,7,29] Z (AW.cond Z (fun h5=>?_) (fun h5=>?_))))))
  · replace hf:=jm h5 hf; refine B1 hf fun ZL h6 hf=>AW.sr (AR.step Z Z Z (AO.dx Z Z EW (AR.step Z Z Z (AO.call Z _ Z Z aai (AC.frame (σ:=[_,_]) (τ:=[_]) (Je hp hroom h6 (fun v2 hr2=>(AR.nil [0,5,6] Z ?_)))))))); refine AW.region (cs 3 Z (AR.nil [0,5,6] Z ?_)); exact ⟨(dA (jy + 2)),lG,vp,ZL,v2,_,Z,Z,Z,hf,.inr Z,hr2⟩
  replace hf:=iO h5 hf; refine B1 hf fun b2 h6 hf=>AW.sr (cs 1 Z (AR.step Z Z Z (AO.call Z _ Z Z aad (vX _ _ h6 (cs 1 Z ?_))))); refine AR.nil [0,5,6,36] Z (AW.cond Z (fun h7=>?_) (fun h7=>?_))
  ·
   replace hf:=jm h7 hf; refine AW.sr (cs 3 Z ?_); refine B1 hf fun vW h8 hf=>AR.step Z Z Z (AO.call Z _ Z Z ado (Nh _ _ h8 (cs 1 Z (AR.nil [0,5,6,8] Z (AW.seq ?_))))); refine AW.sr (cs 2 Z (AR.nil [0,5,6,8,44] Z (AW.cond Z (fun h9=>?_) (fun h9=>?_))))
   · replace hf:=jm h9 hf; refine AW.sr (cs 1 Z (AR.step Z Z Z (AO.yF Z Z (cs 2 Z ?_)))); refine AR.nil [2,3,4] Z (AW.R8 12 189 (AW.ret ?_)); cases hf; exact ⟨rfl,_,⟨_,_,rfl,rfl,_,_,rfl,rfl,_,_,rfl,rfl,rfl⟩,_,(List.nil_sublist _).cons_cons _,h _⟩
   replace hf:=iO h9 hf; refine AW.skip (AW.sr (cs 4 Z ?_)); refine B1 hf fun x1 h10 hf=>AR.step Z Z Z (AO.oM h10 Z dP Z ⟨_,Z⟩ ⟨_,Z⟩ ?_); obtain ⟨e1,n1,uT,h11,hf⟩:=jM hf; refine AR.step Z Z Z (AO.call Z _ Z Z adn (QG _ h11 (cs 4 Z (AR.step Z Z Z (AO.aF Z iX (fun b9=>(AR.bF Z Z (AO.bR (i:=0) Z Z Z gT Z Z Z Z Z ?_)))))))); refine cs 2 Z (AR.nil [0,5,6,8,9,10,11] Z (AW.seq (AW.sr ?_))); refine cs 2 Z (AR.nil [0,5,6,8,9,10,11,57] Z (AW.cond Z (fun h12=>?_) (fun h12=>?_)))
   · replace hf:=jm h12 hf; refine AW.sr (cs 5 Z (AR.step Z Z Z (AO.yF Z Z (cs 2 Z ?_)))); refine AR.nil [2,3,4] Z (AW.R8 12 189 (AW.ret ?_)); cases hf; exact ⟨rfl,_,⟨_,_,rfl,rfl,_,_,rfl,rfl,_,_,rfl,rfl,rfl⟩,_,(List.nil_sublist _).cons_cons _,h _⟩
   replace hf:=iO h12 hf; refine B1 hf fun XR lH hf=>B1 hf fun TG lV hf=>AW.skip (AW.sr (AR.step Z Z Z (AO.call Z _ Z Z aac (AC.perm (YD _ _ _ _) (AC.frame (σ:=[_,_,_]) (τ:=[_]) (zk lH hroom (fun vp2=>(AR.nil [0,5,8,9] Z ?_)))))))); refine AW.row 1 5 (AW.sr (AR.step Z Z Z (AO.dx Z Z L9 ?_))); refine AR.step Z Z Z (AO.j6 (i:=1) Z Z Z MH Z Z ?_); refine AR.step rfl rfl rfl (AO.aY (i:=3) rfl rfl rfl gT rfl rfl (AR.step rfl rfl rfl (AO.build rfl OW XH rfl (AR.step rfl rfl rfl (AO.bL ((List.map bf.cells [(bf.mk ([]:Str) true e1)])) rfl Tw rfl rfl rfl (by first | rfl | simp only [List.map,bf.aG]) ?_))))); refine AR.step Z Z Z (AO.VY (i:=2) lV Z Z Z Z Z Z Z Tw CY bf.bE bf.cells_one (by decide) (fun vp3 s2 hs2=>?_)); cases hs2; refine AR.step Z Z Z (AO.dx Z Z L9 (AR.JD 2 Z (fun hv1 hv2=>?_)))
   refine AR.bF Z Z (AO.rP (i:=1) Z Z Z MH hv1 hv2 Z Z Z ?_); refine AR.nil [0,5,8] Z (AW.F9 3 Z (AW.region (cs 3 Z ?_))); refine AR.nil [0,5,6] Z ?_; exact ⟨(dA (vW + 1)),TG,vp3,[],.slice none 0 0,_,Z,Z,Z,hf,.inl Z,Z⟩
  replace hf:=iO h7 hf; refine B1 hf fun c1 h8 hf=>B1 hf fun ZK h9 hf=>AW.sr (AR.step Z Z Z (AO.dx Z Z EW (cs 2 Z (AR.step Z Z Z (AO.fP h8 Z dP Z Z ?_))))); refine AR.step Z Z Z (AO.call Z _ Z Z aai (AC.frame (σ:=[_,_]) (τ:=[_]) (Je hp hroom h9 (fun v2 hr2=>(AR.nil [0,5,6] Z (AW.region (cs 3 Z ?_))))))); refine AR.nil [0,5,6] Z ?_; exact ⟨(dA (jy + 1)),lG,vp,ZK,v2,_,Z,Z,Z,hf,.inr Z,hr2⟩
 replace hf:=iO h2 hf; refine B1 hf fun XQ h3 hf=>AW.exit (AW.sr (AR.step Z Z Z (AO.call Z _ Z Z aac (zk h3 hroom (fun vp2=>(AR.nil [5] Z ?_)))))); refine AW.sr (AR.step Z Z Z (AO.dx Z Z L9 ?_)); refine AR.step Z Z Z (AO.j6 (i:=0) Z Z Z MH Z Z ?_); refine cs 3 Z (AR.nil [2,3,4] Z (AW.ret ?_)); cases hf; exact ⟨rfl,_,⟨_,_,rfl,rfl,_,_,rfl,rfl,_,_,rfl,rfl,rfl⟩,_,List.sublist_cons_self _ _,h _⟩
theorem Ja (s1:Str) {r0:List bf} {r1:Int} {r2:Int} (hf:vw s1=some (r0,r1,r2)) (h:Q (.ret (.tuple [.list (List.map bf.cells r0),iP r1,iP r2])) τ):PC 152 [.str s1] τ Q:=by
 exact AC.none (AC.frozen (List.flatMap_def ..).symm (fun x hx=>by obtain ⟨s,_,rfl⟩:=List.mem_map.1 hx; exact bf.bE s) (by rw [List.length_map]) (DX s1 hf fun v=>⟨v,Z,Z⟩) h)
end
theorem uW (s1:List aj) (f1:aj→Option Bool) (yQ:FuncId) (CV:List PV) (Qe:aV Tryz.prog yQ=true) (Qf:∀ a0 b0,f1 a0=some b0→∀ {τ:List bn} {Q:cZ→List bn→Prop},Q (.ret (.bool b0)) τ→PC yQ ([.agg (bI a0)] ++ CV) τ Q) {r0:Int} (hf:kD s1 f1=some r0) (h:Q (.ret (iP r0)) τ):PC 258 [.list (aj.aN s1),.fn yQ CV] τ Q:=by
 unfold kD at hf; refine BN 19 [.tmp 4] [0,1] Tryz.func258 Z Z Z Z Z (W 2 Z (AS Z (AO.aM (l:=s1) Z Z Z Z je Z (aj.aC _) (J 1 Z (Gm (fun i1=>[(0,.list (aj.aN s1)),(1,.fn yQ CV),(7,iP (s1.length:Int)),(8,iP i1)]) (fun i1=>[]) (fun bY i1=>iK s1 f1 bY i1=some r0) BIG 0 Z Z hf (fun _ hz=>bT hz) ?_))))); intro bY i1 hf; rw [iK] at hf; refine V 1 Z (C hf Z (fun h1 hf=>?_) fun h1 hf=>?_)
 ·
  refine B1 hf fun e1 h2 hf=>W 5 Z (AS Z (AO.aO h2 Z Z (aj.aC _) Z je (aj.aG _) Z ?_)); refine B1 hf fun x1 h3 hf=>U 1 Z (AS Z (AO.call Z _ Z Z Qe (Qf _ _ h3 (J 0 Z (C hf Z (fun h4 hf=>?_) fun h4 hf=>?_)))))
  · cases hf; exact M 2 Z (Y Z h)
  exact M 2 Z ⟨(dA (i1 + 1)),Z,Z,Z,hf⟩
 cases hf; exact M 1 Z (Y Z h)
theorem sH (s1:List aj) (f1:aj→Option Bool) (yQ:FuncId) (CV:List PV) (Qe:aV Tryz.prog yQ=true) (Qf:∀ a0 b0,f1 a0=some b0→∀ {τ:List bn} {Q:cZ→List bn→Prop},Q (.ret (.bool b0)) τ→PC yQ ([.agg (bI a0)] ++ CV) τ Q) {r0:Bool} (hf:jK s1 f1=some r0) (h:Q (.ret (.bool r0)) τ):PC 223 [.list (aj.aN s1),.fn yQ CV] τ Q:=by
 unfold jK at hf; refine BN 9 [.tmp 4] [0,1] Tryz.func223 Z Z Z Z Z ?_; refine B1 hf fun x1 h1 hf=>W 3 Z (CL Z (uW _ f1 yQ CV Qe @Qf h1 ?_)); cases hf; exact N 2 Z (Y Z h)
theorem sW (s1:List bf) (f1:bf→Option Bool) (yQ:FuncId) (CV:List PV) (Qe:aV Tryz.prog yQ=true) (Qf:∀ a0 b0,f1 a0=some b0→∀ {τ:List bn} {Q:cZ→List bn→Prop},Q (.ret (.bool b0)) τ→PC yQ ([.agg (Cj a0)] ++ CV) τ Q) {r0:Int} (hf:jP s1 f1=some r0) (h:Q (.ret (iP r0)) τ):PC 222 [.list (List.map bf.cells s1),.fn yQ CV] τ Q:=by
 unfold jP at hf; refine BN 19 [.tmp 4] [0,1] Tryz.func222 Z Z Z Z Z (W 2 Z (AS Z (AO.aM (l:=s1) Z Z Z Z CY Z Z (J 1 Z (Gm (fun i1=>[(0,.list (List.map bf.cells s1)),(1,.fn yQ CV),(7,iP (s1.length:Int)),(8,iP i1)]) (fun i1=>[]) (fun bY i1=>h_ s1 f1 bY i1=some r0) BIG 0 Z Z hf (fun _ hz=>bT hz) ?_))))); intro bY i1 hf; rw [h_] at hf; refine V 1 Z (C hf Z (fun h1 hf=>?_) fun h1 hf=>?_)
 ·
  refine B1 hf fun e1 h2 hf=>W 5 Z (AS Z (AO.aO h2 Z Z Z Z CY (bf.aG _) Z ?_)); refine B1 hf fun x1 h3 hf=>U 1 Z (AS Z (AO.call Z _ Z Z Qe (Qf _ _ h3 (J 0 Z (C hf Z (fun h4 hf=>?_) fun h4 hf=>?_)))))
  · cases hf; exact M 2 Z (Y Z h)
  exact M 2 Z ⟨(dA (i1 + 1)),Z,Z,Z,hf⟩
 cases hf; exact M 1 Z (Y Z h)
theorem rz (s1:List bf) (f1:bf→Option Bool) (yQ:FuncId) (CV:List PV) (Qe:aV Tryz.prog yQ=true) (Qf:∀ a0 b0,f1 a0=some b0→∀ {τ:List bn} {Q:cZ→List bn→Prop},Q (.ret (.bool b0)) τ→PC yQ ([.agg (Cj a0)] ++ CV) τ Q) {r0:Bool} (hf:jF s1 f1=some r0) (h:Q (.ret (.bool r0)) τ):PC 187 [.list (List.map bf.cells s1),.fn yQ CV] τ Q:=by
 unfold jF at hf; refine BN 9 [.tmp 4] [0,1] Tryz.func187 Z Z Z Z Z ?_; refine B1 hf fun x1 h1 hf=>W 3 Z (CL Z (sW _ f1 yQ CV Qe @Qf h1 ?_)); cases hf; exact N 2 Z (Y Z h)
section
variable [zq]
abbrev sI (eY:List bf→List aA→Option Bool):Prop:=∀ (Ob:List bf) (jD:List aA) {aP:Bool},eY Ob jD=some aP→∀ {τ:List bn} {Q:cZ→List bn→Prop} (h:Q (.ret (.bool aP)) τ),PC 153 [.list (List.map bf.cells Ob),.list (List.map aA.cells jD)] τ Q
abbrev qy (dR:bf→List aA→Option Bool):Prop:=∀ (lI:bf) (Oc:List aA) {aP:Bool},dR lI Oc=some aP→∀ {τ:List bn} {Q:cZ→List bn→Prop} (h:Q (.ret (.bool aP)) τ),PC 188 [.agg (Cj lI),.ref [.list (List.map aA.cells Oc)]] τ Q
abbrev qZ (eB:aj→List aA→Option Bool):Prop:=∀ (jT:aj) (jD:List aA) {aP:Bool},eB jT jD=some aP→∀ {τ:List bn} {Q:cZ→List bn→Prop} (h:Q (.ret (.bool aP)) τ),PC 189 [.agg (bI jT),.list (List.map aA.cells jD)] τ Q
abbrev oU (dM:aj→List aA→Option Bool):Prop:=∀ (pQ:aj) (Oc:List aA) {aP:Bool},dM pQ Oc=some aP→∀ {τ:List bn} {Q:cZ→List bn→Prop} (h:Q (.ret (.bool aP)) τ),PC 224 [.agg (bI pQ),.ref [.list (List.map aA.cells Oc)]] τ Q
theorem N7 (eY) (tH:sI eY) (dR) (qF:qy dR) (eB) (oN:qZ eB) (dM) (ql:oU dM) (ps1:List bf) (dK:List aA) {r0:Bool} (hf:AZ eY dR eB dM ps1 dK=some r0) (h:Q (.ret (.bool r0)) τ):PC 153 [.list (List.map bf.cells ps1),.list (List.map aA.cells dK)] τ Q:=by
 unfold AZ at hf; refine BN 8 [.tmp 4] [0,1] Tryz.func153 Z Z Z Z Z ?_; refine BR hf fun x1 h1 hf=>?_; refine W 4 Z (CL Z (rz _ (fun z0=>dR z0 dK) 188 [.ref [.list (List.map aA.cells dK)]] adl (fun _ _ hz=>qF _ _ hz) h1 ?_)); cases hf; exact N 1 Z (Y Z h)
theorem K8 (eY) (tH:sI eY) (dR) (qF:qy dR) (eB) (oN:qZ eB) (dM) (ql:oU dM) (p1:bf) (c1:List aA) {r0:Bool} (hf:xZ eY dR eB dM p1 c1=some r0) (h:Q (.ret (.bool r0)) τ):PC 188 [.agg (Cj p1),.ref [.list (List.map aA.cells c1)]] τ Q:=by
 unfold xZ at hf; refine BN 12 [.tmp 3] [0,1] Tryz.func188 Z Z Z Z Z ?_; refine BR hf fun b1 h2 hf=>?_; refine W 5 Z (AR.fV 5 6 11 true [] b1 Z Z (fun h1=>?_) (fun h1=>?_) ?_)
 · refine IT 6 h1 h2 Z fun h2=>?_; refine BR h2 fun x1 h3 h2=>?_; refine U 3 Z (GO Z (AO.call Z _ Z Z adk (oN _ _ h3 ?_))); cases h2; exact fG 1 Z (En [11] Z)
 · refine IF 6 h1 h2 Z fun h2=>?_; cases h2; exact fG 5 Z (En [11] Z)
 cases hf; exact N 1 Z (Y Z h)
theorem MB (eY) (tH:sI eY) (dR) (qF:qy dR) (eB) (oN:qZ eB) (dM) (ql:oU dM) (e1:aj) (dK:List aA) {r0:Bool} (hf:zx eY dR eB dM e1 dK=some r0) (h:Q (.ret (.bool r0)) τ):PC 189 [.agg (bI e1),.list (List.map aA.cells dK)] τ Q:=by
 unfold zx at hf; refine BN 51 [.tmp 4] [0,1] Tryz.func189 Z Z Z Z Z (V 7 Z (C hf Z (fun h1 hf=>?_) fun h1 hf=>?_))
 · obtain ⟨x1,is1,h2,hf⟩:=bP hf; refine W 3 Z (CL Z (wY _ _ h2 (U 3 Z (AS Z (AO.aF Z gF (fun b5=>?_)))))); cases hf; exact Rx 4 [0] Z Z (Y Z h)
 refine W 4 Z (An 5 26 31 [2,3] (e1.value.kind == 3) Z Z Z Z (J 1 Z (C hf Z (fun h4 hf=>?_) fun h4 hf=>?_)))
 ·
  obtain ⟨ps1,x2,Dt,h5,hf⟩:=jM hf; refine W 3 Z (CL Z (Ja _ h5 ?_)); refine BR hf fun b1 h7 hf=>?_; refine U 10 Z (AR.fV 4 42 46 true [] b1 Z Z (fun h6=>?_) (fun h6=>?_) ?_)
  · refine IT 42 h6 h7 Z fun h7=>?_; refine BR h7 fun x3 h8 h7=>?_; refine U 2 Z (GO Z (AO.call Z _ Z Z aag (tH _ _ h8 ?_))); cases h7; exact fG 1 Z (En [46] Z)
  · refine IF 42 h6 h7 Z fun h7=>?_; cases h7; exact fG 4 Z (En [46] Z)
  cases hf; exact N 1 Z (Y Z h)
 refine BR hf fun x4 h9 hf=>?_; refine W 3 Z (CL Z (sH _ (fun z0=>dM z0 dK) 224 [.ref [.list (List.map aA.cells dK)]] adj (fun _ _ hz=>ql _ _ hz) h9 ?_)); cases hf; exact N 1 Z (Y Z h)
theorem Kt (eY) (tH:sI eY) (dR) (qF:qy dR) (eB) (oN:qZ eB) (dM) (ql:oU dM) (a1:aj) (c1:List aA) {r0:Bool} (hf:xg eY dR eB dM a1 c1=some r0) (h:Q (.ret (.bool r0)) τ):PC 224 [.agg (bI a1),.ref [.list (List.map aA.cells c1)]] τ Q:=by
 unfold xg at hf; refine BN 7 [.tmp 3] [0,1] Tryz.func224 Z Z Z Z Z ?_; refine BR hf fun x1 h1 hf=>?_; refine W 4 Z (CL Z (oN _ _ h1 ?_)); cases hf; exact N 1 Z (Y Z h)
theorem wT :∀ k:Nat,(sI (jE k))∧(qy (iM k))∧(qZ (jg k))∧(oU (iw k)):=by
 intro k
 induction k with
 | zero=>exact ⟨fun _ _ _ hz=>by first | cases hz | (unfold jE at hz; cases hz),fun _ _ _ hz=>by first | cases hz | (unfold iM at hz; cases hz),fun _ _ _ hz=>by first | cases hz | (unfold jg at hz; cases hz),fun _ _ _ hz=>by first | cases hz | (unfold iw at hz; cases hz)⟩
 | succ k ih=>exact ⟨fun Ob jD aP hz τ Q hq=>N7 (jE k) ih.1 (iM k) ih.2.1 (jg k) ih.2.2.1 (iw k) ih.2.2.2 Ob jD hz hq,fun lI Oc aP hz τ Q hq=>K8 (jE k) ih.1 (iM k) ih.2.1 (jg k) ih.2.2.1 (iw k) ih.2.2.2 lI Oc hz hq,fun jT jD aP hz τ Q hq=>MB (jE k) ih.1 (iM k) ih.2.1 (jg k) ih.2.2.1 (iw k) ih.2.2.2 jT jD hz hq,fun pQ Oc aP hz τ Q hq=>Kt (jE k) ih.1 (iM k) ih.2.1 (jg k) ih.2.2.1 (iw k) ih.2.2.2 pQ Oc hz hq⟩
theorem Oy (Ob:List bf) (jD:List aA) {aP:Bool} (hf:J4 Ob jD=some aP) (h:Q (.ret (.bool aP)) τ):PC 153 [.list (List.map bf.cells Ob),.list (List.map aA.cells jD)] τ Q:=
 ((wT BIG).1) Ob jD hf h
theorem Yb (lI:bf) (Oc:List aA) {aP:Bool} (hf:Od lI Oc=some aP) (h:Q (.ret (.bool aP)) τ):PC 188 [.agg (Cj lI),.ref [.list (List.map aA.cells Oc)]] τ Q:=
 ((wT BIG).2.1) lI Oc hf h
theorem YZ (jT:aj) (jD:List aA) {aP:Bool} (hf:Pg jT jD=some aP) (h:Q (.ret (.bool aP)) τ):PC 189 [.agg (bI jT),.list (List.map aA.cells jD)] τ Q:=
 ((wT BIG).2.2.1) jT jD hf h
theorem Xd (pQ:aj) (Oc:List aA) {aP:Bool} (hf:MI pQ Oc=some aP) (h:Q (.ret (.bool aP)) τ):PC 224 [.agg (bI pQ),.ref [.list (List.map aA.cells Oc)]] τ Q:=
 ((wT BIG).2.2.2) pQ Oc hf h
end
section
variable [zq]
theorem Uh (v1:ah) {r0:Str} (hf:Kv v1=some r0) (h:Q (.ret (.str r0)) τ):PC 61 [.agg (aK v1)] τ Q:=by
 unfold Kv at hf; refine BN 8 [.tmp 2] [0] Tryz.func61 Z Z Z Z Z ?_; refine B1 hf fun x1 h1 hf=>W 3 Z (CL Z (om _ h1 (J 1 Z (C hf Z (fun h2 hf=>?_) fun h2 hf=>?_))))
 · cases hf; exact M 1 Z (Y Z h)
 refine BR hf fun x2 h3 hf=>?_; refine W 1 Z (CL Z (Gy _ h3 ?_)); cases hf; exact N 1 Z (Y Z h)
end
theorem QE (e1:aj) {r0:Int} (hf:FH e1=some r0) (h:Q (.ret (iP r0)) τ):PC 101 [.agg (bI e1)] τ Q:=by
 unfold FH at hf; refine BN 33 [.tmp 2] [0] Tryz.func101 Z Z Z Z Z (V 6 Z (C hf Z (fun h1 hf=>?_) fun h1 hf=>?_))
 · cases hf; exact M 1 Z (Y Z h)
 refine V 4 Z (C hf Z (fun h2 hf=>?_) fun h2 hf=>?_)
 · refine BR hf fun x1 h3 hf=>?_; refine W 2 Z (CL Z (tL _ h3 ?_)); cases hf; exact N 1 Z (Y Z h)
 refine V 4 Z (C hf Z (fun h4 hf=>?_) fun h4 hf=>?_)
 ·
  refine V 0 Z (AW.cond Z (fun h5=>?_) (fun h5=>?_))
  · cases hf; exact M 1 Z (Y Z h)
  cases h4.symm.trans h5
 refine W 4 Z (An 5 21 26 [1,14] (e1.value.kind == 2) Z Z Z Z (U 1 Z (An 5 27 32 [14] (decide (e1.value.iC < 0)) Z Z Z Z (J 1 Z (C hf Z (fun h8 hf=>?_) fun h8 hf=>?_)))))
 · cases hf; exact M 1 Z (Y Z h)
 cases hf; exact M 1 Z (Y Z h)
theorem R3 (s1:Str) {r0:Str} (hf:Iu s1=some r0) (h:Q (.ret (.str r0)) τ):PC 102 [.str s1] τ Q:=by
 unfold Iu at hf; refine BN 64 [.tmp 2] [0] Tryz.func102 Z Z Z Z Z (W 1 Z (AS Z (AO.Cn (eu:=5) Z Mx Z (fun b3=>?_)))); refine B1 hf fun b1 h1 hf=>U 0 Z (CL Z (AC.one 0 Z (ig h1 (fun v1=>⟨_,Z,(J 1 Z (Uu (fun i1 b2 v2=>[(0,.str s1),(3,pP b3),(4,iP i1)]) (fun i1 b2 v2=>[.Kj b3 v2 167 5 b2]) (fun bY i1 b2 v2=>mY s1 bY i1 b2=some r0) BIG 0 b1 v1 Z Z hf (fun _ _ _ hz=>bT hz) ?_))⟩)))); intro bY i1 b2 v2 hf; rw [mY] at hf; refine W 2 Z (AS Z (AO.cK Z Z Z Z dP Z (J 1 Z (C hf Z (fun h2 hf=>?_) fun h2 hf=>?_))))
 ·
  refine B1 hf fun c1 h3 hf=>W 2 Z (AS Z (AO.fP h3 Z dP Z Z (U 4 Z (On 3 21 24 [0,3,4,5] ((c1.toNat:Int) == 92) Z Z Z Z (J 1 Z (C hf Z (fun h5 hf=>?_) fun h5 hf=>?_))))))
  · refine B1 hf fun x1 h6 hf=>W 4 Z (AS Z (AO.oM h6 Z dP Z ⟨_,Z⟩ ⟨_,Z⟩ ?_)); refine B1 hf fun x2 h7 hf=>AS Z (AO.pq h7 Z Z Z ?_); refine B1 hf fun b3 h8 hf=>CL Z (AC.one 0 Z (jo h8 (fun v3=>⟨_,Z,?_⟩))); exact N 3 Z ⟨(dA (i1 + 1)),b3,v3,Z,Z,Z,hf⟩
  refine V 3 Z (C hf Z (fun h9 hf=>?_) fun h9 hf=>?_)
  · refine B1 hf fun b4 h10 hf=>W 0 Z (CL Z (AC.one 0 Z (jo h10 (fun v4=>⟨_,Z,?_⟩)))); exact N 3 Z ⟨(dA (i1 + 1)),b4,v4,Z,Z,Z,hf⟩
  refine V 3 Z (C hf Z (fun h11 hf=>?_) fun h11 hf=>?_)
  · refine B1 hf fun b5 h12 hf=>W 0 Z (CL Z (AC.one 0 Z (jo h12 (fun v5=>⟨_,Z,?_⟩)))); exact N 3 Z ⟨(dA (i1 + 1)),b5,v5,Z,Z,Z,hf⟩
  refine W 3 Z (On 3 43 46 [0,3,4,5] (decide (126 < (c1.toNat:Int))) Z Z Z Z (J 1 Z (C hf Z (fun lV hf=>?_) fun lV hf=>?_)))
  ·
   refine AW.draw 14 mixed (by kernel_rfl) Z ?_; refine Ev.cs aX 1 Z (Ev.cons Z Z Z (AO.u8_quo c1 16 Z Z Z Z Z (by decide) zg) ?_); refine Ev.cs aX 1 Z (Ev.cons Z Z Z (AO.u8_quo c1 16 Z Z Z Z Z (by decide) zg) ?_); refine Ev.cons Z Z Z (AO.Zz (c1 / 16) 1 Z Z Z Z Z zg) ?_; refine B1 hf fun x3 ru hf=>Ev.cons Z Z Z (AO.oM ru Z dP Z ⟨_,Z⟩ ⟨_,Z⟩ zg) ?_; refine B1 hf fun x4 h16 hf=>Ev.cons Z Z Z (AO.pq h16 Z Z Z zg) (Ev.cs aX 1 Z (Ev.cons Z Z Z (AO.Wj c1 16 Z Z Z Z Z (by decide) zg) ?_)); refine Ev.cs aX 1 Z (Ev.cons Z Z Z (AO.Wj c1 16 Z Z Z Z Z (by decide) zg) ?_); refine Ev.cons Z Z Z (AO.Zz (c1 % 16) 1 Z Z Z Z Z zg) ?_; refine B1 hf fun x5 xB hf=>Ev.cons Z Z Z (AO.oM xB Z dP Z ⟨_,Z⟩ ⟨_,Z⟩ zg) ?_; refine B1 hf fun x6 h18 hf=>Ev.cons Z Z Z (AO.pq h18 Z Z Z zg) (Ev.nil ?_); show AR _ _ _ _ _ _ _ _; refine B1 hf fun b6 h19 hf=>CL Z (AC.one 0 Z (jo h19 (fun v6=>⟨_,Z,?_⟩))); exact N 3 Z ⟨(dA (i1 + 1)),b6,v6,Z,Z,Z,hf⟩
  refine B1 hf fun b7 h20 hf=>W 1 Z (CL Z (AC.one 0 Z (ig h20 (fun v7=>⟨_,Z,?_⟩)))); exact N 3 Z ⟨(dA (i1 + 1)),b7,v7,Z,Z,Z,hf⟩
 refine BR hf fun b8 h21 hf=>?_; refine W 0 Z (CL Z (AC.one 0 Z (ig h21 (fun v8=>⟨_,Z,(U 0 Z (CL Z (AC.Ju 0 Z (vK ?_))))⟩)))); cases hf; exact N 1 Z (Y Z h)
section
variable [zq]
abbrev wZ (gy:aj→Option Str):Prop:=∀ (jT:aj) {aP:Str},gy jT=some aP→∀ {τ:List bn} {Q:cZ→List bn→Prop} (h:Q (.ret (.str aP)) τ),PC 36 [.agg (bI jT)] τ Q
abbrev Ca (dL:aj→Int→Option Str):Prop:=∀ (jT:aj) (nI:Int) {aP:Str},dL jT nI=some aP→∀ {τ:List bn} {Q:cZ→List bn→Prop} (h:Q (.ret (.str aP)) τ),PC 62 [.agg (bI jT),iP nI] τ Q
abbrev Ab (gU:aj→Option Str):Prop:=∀ (jT:aj) {aP:Str},gU jT=some aP→∀ {τ:List bn} {Q:cZ→List bn→Prop} (h:Q (.ret (.str aP)) τ),PC 63 [.agg (bI jT)] τ Q
theorem N9 (gy) (tJ:wZ gy) (dL) (iQ:Ca dL) (gU) (sw:Ab gU) (e1:aj) {r0:Str} (hf:Bb gy dL gU e1=some r0) (h:Q (.ret (.str r0)) τ):PC 36 [.agg (bI e1)] τ Q:=by
 unfold Bb at hf; refine BN 121 [.tmp 2] [0] Tryz.func36 Z Z Z Z Z (V 6 Z (C hf Z (fun h1 hf=>?_) fun h1 hf=>?_))
 · refine BR hf fun x1 h2 hf=>?_; refine W 2 Z (CL Z (Uh _ h2 ?_)); cases hf; exact N 1 Z (Y Z h)
 refine V 2 Z (C hf Z (fun h3 hf=>?_) fun h3 hf=>?_)
 · cases hf; exact M 3 Z (Y Z h)
 refine V 2 Z (C hf Z (fun h4 hf=>?_) fun h4 hf=>?_)
 ·
  refine V 0 Z (AW.draw 10 mixed (by kernel_rfl) Z ?_); refine Ev.cs aX 2 Z ?_; refine B1 hf fun e2 h5 hf=>Ev.cons Z Z Z (AO.aO h5 Z Z (aj.aC _) Z je (aj.aG _) Z zg) (Ev.cs aX 1 Z ?_); refine B1 hf fun x2 h6 hf=>Ev.cons Z Z Z (AO.call Z _ Z Z Ic (iQ _ _ h6 zg)) ?_; refine B1 hf fun x3 h7 hf=>Ev.cons Z Z Z (AO.pq h7 Z Z Z zg) (Ev.cs aX 2 Z ?_); refine BR hf fun x4 h8 hf=>?_; refine Ev.cons Z Z Z (AO.pq h8 Z Z Z zg) (Ev.cs aX 1 Z (Ev.nil ?_)); show AR _ _ _ _ _ _ _ _; cases hf; exact N 0 Z (Y Z h)
 refine V 2 Z (C hf Z (fun h9 hf=>?_) fun h9 hf=>?_)
 ·
  refine V 0 Z (AW.draw 14 mixed (by kernel_rfl) Z ?_); refine Ev.cs aX 2 Z ?_; refine B1 hf fun e3 h10 hf=>Ev.cons Z Z Z (AO.aO h10 Z Z (aj.aC _) Z je (aj.aG _) Z zg) (Ev.cs aX 1 Z ?_); refine B1 hf fun x5 h11 hf=>Ev.cons Z Z Z (AO.call Z _ Z Z Ic (iQ _ _ h11 zg)) ?_; refine B1 hf fun x6 h12 hf=>Ev.cons Z Z Z (AO.pq h12 Z Z Z zg) (Ev.cs aX 2 Z ?_); refine B1 hf fun e4 lH hf=>Ev.cons Z Z Z (AO.aO lH Z Z (aj.aC _) Z je (aj.aG _) Z zg) (Ev.cs aX 1 Z ?_); refine B1 hf fun x7 lV hf=>Ev.cons Z Z Z (AO.call Z _ Z Z Ic (iQ _ _ lV zg)) ?_; refine B1 hf fun x8 ru hf=>Ev.cons Z Z Z (AO.pq ru Z Z Z zg) ?_; refine BR hf fun x9 h16 hf=>?_; refine Ev.cons Z Z Z (AO.pq h16 Z Z Z zg) (Ev.cs aX 1 Z (Ev.nil ?_)); show AR _ _ _ _ _ _ _ _; cases hf; exact N 0 Z (Y Z h)
 refine V 2 Z (C hf Z (fun xB hf=>?_) fun xB hf=>?_)
 ·
  refine V 0 Z (AW.draw 8 mixed (by kernel_rfl) Z ?_); refine Ev.cs aX 2 Z ?_; refine B1 hf fun K3 h18 hf=>Ev.cons Z Z Z (AO.pq h18 Z Z Z zg) (Ev.cs aX 1 Z ?_); refine B1 hf fun Nq h19 hf=>Ev.cons Z Z Z (AO.call Z _ Z Z afk (sw _ h19 zg)) ?_; refine B1 hf fun UE h20 hf=>Ev.cons Z Z Z (AO.pq h20 Z Z Z zg) ?_; refine BR hf fun Yk h21 hf=>?_; refine Ev.cons Z Z Z (AO.pq h21 Z Z Z zg) (Ev.cs aX 1 Z (Ev.nil ?_)); show AR _ _ _ _ _ _ _ _; cases hf; exact N 0 Z (Y Z h)
 refine V 2 Z (C hf Z (fun h22 hf=>?_) fun h22 hf=>?_)
 ·
  refine V 0 Z (AW.draw 9 mixed (by kernel_rfl) Z ?_); refine Ev.cs aX 4 Z ?_; refine B1 hf fun e5 h23 hf=>Ev.cons Z Z Z (AO.aO h23 Z Z (aj.aC _) Z je (aj.aG _) Z zg) (Ev.cs aX 1 Z ?_); refine B1 hf fun Y_ Ry hf=>Ev.cons Z Z Z (AO.call Z _ Z Z Ic (iQ _ _ Ry zg)) ?_; refine BR hf fun x15 SC hf=>?_; refine Ev.cons Z Z Z (AO.pq SC Z Z Z zg) (Ev.cs aX 1 Z (Ev.nil ?_)); show AR _ _ _ _ _ _ _ _; cases hf; exact N 0 Z (Y Z h)
 refine V 2 Z (C hf Z (fun Uy hf=>?_) fun Uy hf=>?_)
 ·
  refine B1 hf fun n1 h27 hf=>W 2 Z (CL Z (tL _ h27 (J 5 Z (C hf Z (fun Ux hf=>?_) fun Ux hf=>?_))))
  ·
   refine V 3 Z (AW.draw 20 mixed (by kernel_rfl) Z ?_); refine Ev.cs aX 2 Z ?_; refine B1 hf fun e6 ND hf=>Ev.cons Z Z Z (AO.aO ND Z Z (aj.aC _) Z je (aj.aG _) Z zg) (Ev.cs aX 2 Z ?_); refine B1 hf fun Yj Zf hf=>Ev.cons Z Z Z (AO.call Z _ Z Z Ic (iQ _ _ Zf zg)) ?_; refine B1 hf fun Y9 h31 hf=>Ev.cons Z Z Z (AO.pq h31 Z Z Z zg) (Ev.cs aX 2 Z ?_); refine B1 hf fun x18 h32 hf=>Ev.cons Z Z Z (AO.pq h32 Z Z Z zg) ?_; refine B1 hf fun x19 X3 hf=>Ev.cons Z Z Z (AO.pq X3 Z Z Z zg) (Ev.cs aX 2 Z ?_); refine B1 hf fun e7 h34 hf=>Ev.cons Z Z Z (AO.aO h34 Z Z (aj.aC _) Z je (aj.aG _) Z zg) (Ev.cs aX 3 Z ?_); refine B1 hf fun x20 h35 hf=>Ev.cons Z Z Z (AO.call Z _ Z Z Ic (iQ _ _ h35 zg)) ?_; refine BR hf fun x21 h36 hf=>?_; refine Ev.cons Z Z Z (AO.pq h36 Z Z Z zg) (Ev.cs aX 1 Z (Ev.nil ?_)); show AR _ _ _ _ _ _ _ _; cases hf; exact N 0 Z (Y Z h)
  refine V 0 Z (AW.draw 20 mixed (by kernel_rfl) Z ?_); refine Ev.cs aX 2 Z ?_; refine B1 hf fun e8 h37 hf=>Ev.cons Z Z Z (AO.aO h37 Z Z (aj.aC _) Z je (aj.aG _) Z zg) (Ev.cs aX 2 Z ?_); refine B1 hf fun x22 h38 hf=>Ev.cons Z Z Z (AO.call Z _ Z Z Ic (iQ _ _ h38 zg)) ?_; refine B1 hf fun x23 h39 hf=>Ev.cons Z Z Z (AO.pq h39 Z Z Z zg) (Ev.cs aX 2 Z ?_); refine B1 hf fun x24 h40 hf=>Ev.cons Z Z Z (AO.pq h40 Z Z Z zg) ?_; refine B1 hf fun x25 h41 hf=>Ev.cons Z Z Z (AO.pq h41 Z Z Z zg) (Ev.cs aX 2 Z ?_); refine B1 hf fun e9 h42 hf=>Ev.cons Z Z Z (AO.aO h42 Z Z (aj.aC _) Z je (aj.aG _) Z zg) (Ev.cs aX 3 Z ?_); refine B1 hf fun x26 h43 hf=>Ev.cons Z Z Z (AO.call Z _ Z Z Ic (iQ _ _ h43 zg)) ?_; refine BR hf fun x27 h44 hf=>?_; refine Ev.cons Z Z Z (AO.pq h44 Z Z Z zg) (Ev.cs aX 1 Z (Ev.nil ?_)); show AR _ _ _ _ _ _ _ _; cases hf; exact N 0 Z (Y Z h)
 refine V 2 Z (C hf Z (fun h45 hf=>?_) fun h45 hf=>?_)
 ·
  refine V 0 Z (AW.draw 20 mixed (by kernel_rfl) Z ?_); refine Ev.cs aX 2 Z ?_; refine B1 hf fun e10 h46 hf=>Ev.cons Z Z Z (AO.aO h46 Z Z (aj.aC _) Z je (aj.aG _) Z zg) (Ev.cs aX 1 Z ?_); refine B1 hf fun x28 h47 hf=>Ev.cons Z Z Z (AO.call Z _ Z Z Ic (iQ _ _ h47 zg)) ?_; refine B1 hf fun x29 h48 hf=>Ev.cons Z Z Z (AO.pq h48 Z Z Z zg) (Ev.cs aX 2 Z ?_); refine B1 hf fun e11 h49 hf=>Ev.cons Z Z Z (AO.aO h49 Z Z (aj.aC _) Z je (aj.aG _) Z zg) (Ev.cs aX 1 Z ?_); refine B1 hf fun x30 h50 hf=>Ev.cons Z Z Z (AO.call Z _ Z Z Ic (iQ _ _ h50 zg)) ?_; refine B1 hf fun x31 h51 hf=>Ev.cons Z Z Z (AO.pq h51 Z Z Z zg) ?_; refine B1 hf fun x32 h52 hf=>Ev.cons Z Z Z (AO.pq h52 Z Z Z zg) (Ev.cs aX 2 Z ?_); refine B1 hf fun e12 h53 hf=>Ev.cons Z Z Z (AO.aO h53 Z Z (aj.aC _) Z je (aj.aG _) Z zg) (Ev.cs aX 1 Z ?_); refine B1 hf fun x33 h54 hf=>Ev.cons Z Z Z (AO.call Z _ Z Z Ic (iQ _ _ h54 zg)) ?_; refine BR hf fun x34 h55 hf=>?_; refine Ev.cons Z Z Z (AO.pq h55 Z Z Z zg) (Ev.cs aX 1 Z (Ev.nil ?_)); show AR _ _ _ _ _ _ _ _; cases hf; exact N 0 Z (Y Z h)
 refine V 2 Z (C hf Z (fun h56 hf=>?_) fun h56 hf=>?_)
 · refine B1 hf fun x35 h57 hf=>W 1 Z (CL Z (sw _ h57 ?_)); refine B1 hf fun x36 h58 hf=>AS Z (AO.pq h58 Z Z Z ?_); refine BR hf fun x37 h59 hf=>?_; refine AS Z (AO.pq h59 Z Z Z ?_); cases hf; exact N 1 Z (Y Z h)
 refine B1 hf fun x38 h60 hf=>W 1 Z (CL Z (sw _ h60 ?_)); refine B1 hf fun x39 h61 hf=>AS Z (AO.pq h61 Z Z Z ?_); refine BR hf fun x40 h62 hf=>?_; refine AS Z (AO.pq h62 Z Z Z ?_); cases hf; exact N 1 Z (Y Z h)
theorem Tf (gy) (tJ:wZ gy) (dL) (iQ:Ca dL) (gU) (sw:Ab gU) (e1:aj) (Jt:Int) {r0:Str} (hf:FJ gy dL gU e1 Jt=some r0) (h:Q (.ret (.str r0)) τ):PC 62 [.agg (bI e1),iP Jt] τ Q:=by
 unfold FJ at hf; refine BN 15 [.tmp 4] [0,1] Tryz.func62 Z Z Z Z Z ?_; refine B1 hf fun x1 h1 hf=>W 3 Z (CL Z (QE _ h1 (J 2 Z (C hf Z (fun h2 hf=>?_) fun h2 hf=>?_))))
 · refine B1 hf fun x2 h3 hf=>W 1 Z (CL Z (tJ _ h3 ?_)); refine B1 hf fun x3 h4 hf=>AS Z (AO.pq h4 Z Z Z ?_); refine BR hf fun x4 h5 hf=>?_; refine AS Z (AO.pq h5 Z Z Z ?_); cases hf; exact N 1 Z (Y Z h)
 refine BR hf fun x5 h6 hf=>?_; refine W 1 Z (CL Z (tJ _ h6 ?_)); cases hf; exact N 1 Z (Y Z h)
theorem Rh (gy) (tJ:wZ gy) (dL) (iQ:Ca dL) (gU) (sw:Ab gU) (e1:aj) {r0:Str} (hf:Eh gy dL gU e1=some r0) (h:Q (.ret (.str r0)) τ):PC 63 [.agg (bI e1)] τ Q:=by
 unfold Eh at hf; refine BN 36 [.tmp 2] [0] Tryz.func63 Z Z Z Z Z (W 5 Z (AS Z (AO.aM (l:=e1.args) Z Z Z Z je Z (aj.aC _) ?_))); refine J 1 Z (AW.row 1 9 (Uu (fun nM v1 i1=>[(1,.ref (bI e1)),(3,.own v1 (List.map mo nM)),(8,.list (aj.aN e1.args)),(9,iP (e1.args.length:Int)),(10,iP i1)]) (fun nM v1 i1=>[.row v1 (List.map mo nM).length 1 9]) (fun bY nM v1 i1=>uF dL e1 bY nM i1=some r0) BIG [] (.slice none 0 0) 0 Z Z hf (fun _ _ _ hz=>bT hz) ?_)); intro bY nM v1 i1 hf; rw [uF] at hf; refine V 1 Z (C hf Z (fun h1 hf=>?_) fun h1 hf=>?_)
 ·
  refine B1 hf fun e2 h2 hf=>W 1 Z (AS Z (AO.aO h2 Z Z (aj.aC _) Z je (aj.aG _) Z (U 1 Z (AS Z (AO.aF Z iX (fun b5=>?_)))))); refine B1 hf fun s1 h3 hf=>Rr 3 [0,0] Z Z (CL Z (iQ _ _ h3 (J 4 Z (C hf Z (fun h4 hf=>?_) fun h4 hf=>?_))))
  ·
   refine B1 hf fun e3 h5 hf=>W 3 Z (AS Z (AO.aO h5 Z Z Z Z iY Z Z ?_)); refine B1 hf fun x1 h6 hf=>U 1 Z (CL Z (R3 _ h6 ?_)); refine B1 hf fun x2 h7 hf=>AS Z (AO.pq h7 Z Z Z ?_); refine B1 hf fun s2 h8 hf=>U 1 Z (AS Z (AO.pq h8 Z Z Z (U 3 Z (AS Z (AO.bL (List.map mo ([s2]:List Str)) Z rD Z Z Z Z ?_))))); refine B1 hf fun Ky h9 hf=>AS Z (AO.eO (i:=1) (l:=nM) (m:=([s2]:List Str)) h9 Z Z Z Z Z Z Z rD iY Z Z Z (fun _=>Z) (fun _=>Z) (by decide) (fun v2 s3 hs3=>?_)); cases hs3; refine fG 3 Z (AR.drop1 ?_); exact N 0 Z ⟨Ky,v2,(dA (i1 + 1)),Z,Z,Z,hf⟩
  refine W 2 Z (AS Z (AO.bL (List.map mo ([s1]:List Str)) Z rD Z Z Z Z ?_)); refine B1 hf fun Kw h10 hf=>AS Z (AO.eO (i:=1) (l:=nM) (m:=([s1]:List Str)) h10 Z Z Z Z Z Z Z rD iY Z Z Z (fun _=>Z) (fun _=>Z) (by decide) (fun v3 s4 hs4=>?_)); cases hs4; refine fG 3 Z (AR.drop1 ?_); exact N 0 Z ⟨Kw,v3,(dA (i1 + 1)),Z,Z,Z,hf⟩
 refine BR hf fun x3 h11 hf=>?_; refine W 1 Z (CL Z (zi _ _ h11 ?_)); cases hf; exact N 1 Z (Y Z h)
theorem Bd :∀ k:Nat,(wZ (kV k))∧(Ca (nW k))∧(Ab (mQ k)):=by
 intro k
 induction k with
 | zero=>exact ⟨fun _ _ hz=>by first | cases hz | (unfold kV at hz; cases hz),fun _ _ _ hz=>by first | cases hz | (unfold nW at hz; cases hz),fun _ _ hz=>by first | cases hz | (unfold mQ at hz; cases hz)⟩
 | succ k ih=>exact ⟨fun jT aP hz τ Q hq=>N9 (kV k) ih.1 (nW k) ih.2.1 (mQ k) ih.2.2 jT hz hq,fun jT nI aP hz τ Q hq=>Tf (kV k) ih.1 (nW k) ih.2.1 (mQ k) ih.2.2 jT nI hz hq,fun jT aP hz τ Q hq=>Rh (kV k) ih.1 (nW k) ih.2.1 (mQ k) ih.2.2 jT hz hq⟩
theorem OC (jT:aj) {aP:Str} (hf:J6 jT=some aP) (h:Q (.ret (.str aP)) τ):PC 36 [.agg (bI jT)] τ Q:=
 ((Bd BIG).1) jT hf h
theorem ab3 (jT:aj) (nI:Int) {aP:Str} (hf:WE jT nI=some aP) (h:Q (.ret (.str aP)) τ):PC 62 [.agg (bI jT),iP nI] τ Q:=
 ((Bd BIG).2.1) jT nI hf h
theorem abp (jT:aj) {aP:Str} (hf:U8 jT=some aP) (h:Q (.ret (.str aP)) τ):PC 63 [.agg (bI jT)] τ Q:=
 ((Bd BIG).2.2) jT hf h
end
section
variable [zq]
theorem Ke (e1:aj) {r0:Str} (hf:DN e1=some r0) (h:Q (.ret (.str r0)) τ):PC 18 [.agg (bI e1)] τ Q:=by
 unfold DN at hf; refine BN 8 [.tmp 2] [0] Tryz.func18 Z Z Z Z Z ?_; refine B1 hf fun x1 h1 hf=>W 3 Z (CL Z (qY _ h1 (J 1 Z (C hf Z (fun h2 hf=>?_) fun h2 hf=>?_))))
 · cases hf; exact M 1 Z (Y Z h)
 refine BR hf fun x2 h3 hf=>?_; refine W 1 Z (CL Z (OC _ h3 ?_)); cases hf; exact N 1 Z (Y Z h)
end
section
variable [zq]
def Lh :Go.Shelf.Ren:=⟨fun | 155=>190 | 154=>225 | 138=>259 | 165=>143 | 143=>260 | 166=>141 | 197=>227 | 169=>142 | 195=>287 | 218=>288 | 240=>166 | 241=>167 | 219=>289 | 260=>261 | 276=>200 | 277=>201 | 217=>316 | 225=>293 | 224=>292 | 267=>317 | 266=>334 | 314=>335 | n=>n,fun | 9=>9 | 3=>3 | 4=>4 | 72=>167 | 0=>0 | 76=>171 | 105=>248 | 21=>21 | 5=>5 | 70=>165 | 20=>20 | 37=>73 | 75=>169 | 127=>196 | 164=>227 | 46=>278 | 119=>296 | 139=>299 | 138=>298 | 146=>332 | 51=>276 | 80=>173 | n=>n,fun | 1=>0 | 3=>2 | 4=>3 | n=>n⟩
theorem ZV :Go.Proofs.Lays.n155 Tryz.prog Lh:=by repeat' first | (intros; kernel_rfl) | constructor | decide
theorem ZU :Go.Proofs.Builder.Extra Tryz.prog Lh:=by repeat' first | (intros; kernel_rfl) | constructor | decide
theorem IX (s1:Str) (abQ:Str) (new1:Str) {r0:Str} (hf:strings_ReplaceAll s1 abQ new1=some r0) (h:Q (.ret (.str r0)) τ):PC 190 [.str s1,.str abQ,.str new1] τ Q:=by
 unfold strings_ReplaceAll at hf; split at hf
 case isFalse=>cases hf
 rename_i hg; obtain ⟨hg,rfl,rfl⟩:=hg; rw [←Pn (by decide)] at hf; cases hf; refine AC.none ?_; exact AC.replaceAll zq.hD ZV ZU hg (by decide) zq.max (by rw [Lib.count_one]; have:=List.count_le_length (a:=(36:UInt8)) (l:=s1); simp only [List.length_cons,List.length_nil]; omega) h
end
section
variable [zq]
theorem R4 (ps1:List bf) {r0:Str} (hf:Iw ps1=some r0) (h:Q (.ret (.str r0)) τ):PC 154 [.list (List.map bf.cells ps1)] τ Q:=by
 unfold Iw at hf; refine BN 26 [.tmp 2] [0] Tryz.func154 Z Z Z Z Z (W 1 Z (AS Z (AO.Cn (eu:=5) Z Mx Z (fun b3=>(U 1 Z (AS Z (AO.aM (l:=ps1) Z Z Z Z CY Z Z (J 1 Z (Uu (fun x1 b1 v1=>[(3,pP b3),(6,.list (List.map bf.cells ps1)),(7,iP (ps1.length:Int)),(8,iP x1)]) (fun x1 b1 v1=>[.Kj b3 v1 167 5 b1]) (fun bY x1 b1 v1=>uJ ps1 bY x1 b1=some r0) BIG 0 [] (.slice none 0 0) Z Z hf (fun _ _ _ hz=>bT hz) ?_))))))))); intro bY x1 b1 v1 hf; rw [uJ] at hf; refine V 1 Z (C hf Z (fun h1 hf=>?_) fun h1 hf=>?_)
 ·
  refine B1 hf fun e1 h2 hf=>W 0 Z (AS Z (AO.aO h2 Z Z Z Z CY (bf.aG _) Z (U 1 Z (AS Z (AO.aF Z OW (fun b5=>(Rw 3 [0,0] Z Z (C hf Z (fun h3 hf=>?_) fun h3 hf=>?_))))))))
  · refine B1 hf fun x2 h4 hf=>Wr 2 [0] Z Z (CL Z (Ke _ h4 ?_)); refine B1 hf fun x3 h5 hf=>AS Z (AO.pq h5 Z Z Z ?_); refine B1 hf fun x4 h6 hf=>AS Z (AO.pq h6 Z Z Z ?_); refine B1 hf fun b2 h7 hf=>CL Z (AC.one 1 Z (jo h7 (fun v2=>⟨_,Z,(fG 2 Z (AR.drop1 ?_))⟩))); exact N 0 Z ⟨(dA (x1 + 1)),b2,v2,Z,Z,Z,hf⟩
  refine B1 hf fun x5 h8 hf=>Wr 2 [0] Z Z (CL Z (IX _ _ _ h8 ?_)); refine B1 hf fun b3 h9 hf=>CL Z (AC.one 1 Z (jo h9 (fun v3=>⟨_,Z,(fG 2 Z (AR.drop1 ?_))⟩))); exact N 0 Z ⟨(dA (x1 + 1)),b3,v3,Z,Z,Z,hf⟩
 refine W 0 Z (CL Z (AC.Ju 0 Z (vK ?_))); cases hf; exact N 1 Z (Y Z h)
end
section
variable [zq]
theorem JI (go:aj→List aA→Option (aj × Bool × Int)) (dK:List aA) (D:PV) (goH:∀ (a0:aj) (r0:aj) (r1:Bool) (r2:Int),go a0 dK=some (r0,r1,r2)→∀ {τ:List bn} {Q:cZ→List bn→Prop},Q (.ret (.tuple [.agg (bI r0),.bool r1,iP r2])) τ→PC 151 ([.agg (bI a0)] ++ [.ref [.list (List.map aA.cells dK)],D]) τ Q) (e1:aj) {r0:aj} {r1:Bool} {r2:Int} (hf:vT go e1 dK=some (r0,r1,r2)) (h:Q (.ret (.tuple [.agg (bI r0),.bool r1,iP r2])) τ):PC 151 [.agg (bI e1),.ref [.list (List.map aA.cells dK)],.ref [.fn 151 [.ref [.list (List.map aA.cells dK)],D]]] τ Q:=by
 unfold vT at hf; refine AC.none (AC.jH 93 [.cell 4 45,.tmp 5,.tmp 6] [0,1,2] Tryz.func151 Z Z Z Z Z (AW.sr (AR.step Z Z Z (AO.B_ Z Z Z ?_)))); refine AR.step Z Z Z (AO.aF Z iX (fun b4=>(cs 2 Z (AR.nil [1,2,3,4] Z (AW.seq ?_))))); refine AW.sr (cs 3 Z ?_); obtain ⟨v1,is1,h1,hf⟩:=bP hf; refine AR.step Z Z Z (AO.call Z _ Z Z Z9 (wY _ _ h1 (cs 3 Z (AR.step Z Z Z (AO.aF Z gF (fun b7=>(AR.bF Z Z (AO.bR (i:=0) Z Z Z kZ Z Z Z Z Z ?_)))))))); refine cs 1 Z (AR.nil [1,2,3,4,7,8] Z (AW.sr (cs 2 Z ?_))); refine AR.and 4 23 27 [1,2,3,4,7] (x:=(e1.kind == 2)) Z Z (fun h2=>?_) (fun h2=>?_) ?_
 · refine AR.is 23 h2 Z (cs 4 Z (AR.nil [27,1,2,3,4,7] Z ?_)); exact ⟨Z,Z,Z,Z⟩
 · refine AR.is 23 h2 Z (cs 4 Z (AR.nil [27,1,2,3,4,7] Z ?_)); exact ⟨Z,Z,Z,Z⟩
 refine AR.nil [1,2,3,4,7,27] Z (AW.cond Z (fun h3=>?_) (fun h3=>?_))
 · replace hf:=jm h3 hf; refine B1 hf fun x1 hx1 hf=>AW.sr (AR.step Z Z Z (AO.aY (i:=0) Z Z Z kZ Z Z (AR.step Z Z Z (AO.call Z _ Z Z XT (uV _ hx1 (AR.step Z Z Z (AO.build Z iX Ed Z ?_))))))); refine AR.bF Z Z (AO.bR (i:=1) Z Z Z gT Z Z Z Z Z (cs 2 Z (AR.nil [4,5,6] Z (AW.ret ?_)))); cases hf; exact ⟨rfl,_,⟨_,_,rfl,⟨_,_,1,_,_,rfl,rfl,gT,rfl⟩,_,_,rfl,rfl,_,_,rfl,rfl,rfl⟩,[],List.nil_sublist _,h⟩
 replace hf:=iO h3 hf; refine AW.skip (AW.F9 0 Z (AW.seq (AW.sr ?_))); refine cs 4 Z (AR.or 5 34 39 [1,2,3,4] (x:=(e1.value.kind != 3)) Z Z (fun h4=>?_) (fun h4=>?_) ?_)
 · refine AR.is 34 h4 Z (cs 5 Z (AR.nil [39,1,2,3,4] Z ?_)); exact ⟨Z,Z,Z,Z⟩
 · refine AR.is 34 h4 Z (cs 5 Z (AR.nil [39,1,2,3,4] Z ?_)); exact ⟨Z,Z,Z,Z⟩
 refine AR.nil [1,2,3,4,39] Z (AW.cond Z (fun h5=>?_) (fun h5=>?_))
 · replace hf:=jm h5 hf; refine AW.sr (AR.step Z Z Z (AO.build Z iX Ed Z (AR.bF Z Z (AO.bR (i:=0) Z Z Z gT Z Z Z Z Z (cs 2 Z ?_))))); refine AR.nil [4,5,6] Z (AW.ret ?_); cases hf; exact ⟨rfl,_,⟨_,_,rfl,⟨_,_,0,_,_,rfl,rfl,gT,rfl⟩,_,_,rfl,rfl,_,_,rfl,rfl,rfl⟩,[],List.nil_sublist _,h⟩
 replace hf:=iO h5 hf; refine AW.skip (AW.sr (cs 3 Z ?_)); obtain ⟨ps1,x2,Dt,h6,hf⟩:=jM hf; refine AR.step Z Z Z (AO.call Z _ Z Z adv (AC.none (DX _ h6 (fun v9=>(cs 7 Z (AR.nil [1,2,4,9,11] Z (AW.seq ?_))))))); refine AW.sr (cs 3 Z ?_); refine B1 hf fun b1 h7 hf=>AR.fV 5 51 56 false [1,2,4,9] b1 Z Z (fun h8=>?_) (fun h8=>?_) ?_
 · replace h7:=iO h8 h7; refine B1 h7 fun u1 h9 h7=>AR.is 51 h8 rfl (cs 2 rfl (AR.go rfl rfl rfl rfl rfl rfl (AO.call rfl _ rfl rfl aag (AC.frame (σ:=[_]) (τ:=[_]) (AC.borrow (l:=List.map bf.cells ps1) (List.flatMap_def ..).symm (fun x hx=>by obtain ⟨s,_,rfl⟩:=List.mem_map.1 hx; exact bf.bE s) (by rw [List.length_map]) (Oy _ _ h9 zg) ?_))))); cases h7; refine cs 2 Z (AR.nil [56,1,2,4,9] Z ?_); exact ⟨Z,Z,Z,Z⟩
 · replace h7:=jm h8 h7; cases h7; refine AR.is 51 h8 Z (cs 5 Z (AR.nil [56,1,2,4,9] Z ?_)); exact ⟨Z,Z,Z,Z⟩
 refine AR.nil [1,2,4,9,56] Z (AW.cond Z (fun h10=>?_) (fun h10=>?_))
 · replace hf:=jm h10 hf; refine AW.sr (AR.step Z Z Z (AO.build Z iX Ed Z (AR.bF Z Z (AO.bR (i:=1) Z Z Z gT Z Z Z Z Z (cs 2 Z ?_))))); refine AR.nil [4,5,6] Z (AW.ret ?_); cases hf; exact ⟨rfl,_,⟨_,_,rfl,⟨_,_,1,_,_,rfl,rfl,gT,rfl⟩,_,_,rfl,rfl,_,_,rfl,rfl,rfl⟩,[],List.nil_sublist _,h⟩
 replace hf:=iO h10 hf; obtain ⟨ps2,TY,hl,hf⟩:=bP hf; refine AW.skip (AW.seq (AW.sr (cs 1 Z ?_))); refine AR.step Z Z Z (AO.LP (i:=0) Z Z Z Z CY Z Z (cs 1 Z (AR.nil [1,2,4,9,58,59,60] Z (AW.block ?_)))); refine AW.settle [1,2,4,9,58,59,60] Z ?_; refine AW.MR (fun (l:List bf) (i:Int)=>[(1,.ref [.list (List.map aA.cells dK)]),(2,.ref [.fn 151 [.ref [.list (List.map aA.cells dK)],D]]),(4,pP b4),(9,.val v9),(58,.val v9),(59,iP (ps1.length:Int)),(60,iP i)]) (fun (l:List bf) (i:Int)=>[.buf v9 ps1.length 12 189 (l.flatMap bf.cells),.box b4 [iP 0,.str ([]:Str),iP 0,.bool false,iP 0,.str ([]:Str),.own (.slice none 0 0) [],.own (.slice none 0 0) [],.own (.slice none 0 0) [],.own (.slice none 0 0) []]]) (fun kk l i=>l.length=ps1.length∧mW go dK (ps1.length:Int) kk l i=some (ps2,TY)) BIG ps1 0 Z Z ⟨Z,hl⟩ (fun _ _ hz=>bT hz.2) ?_; rintro kk l i ⟨hlen,hg⟩; rw [mW] at hg; refine AW.sr (cs 1 Z (AR.nil [1,2,4,9,58,59,60,61] Z (AW.seq ?_))); refine AW.cond Z (fun h11=>?_) (fun h11=>?_)
 ·
  replace hg:=jm h11 hg; obtain ⟨p1,hp1,hg⟩:=JG hg; obtain ⟨hi0,hp1⟩:=uL hp1; obtain ⟨hlt,hp1⟩:=List.getElem?_eq_some_iff.1 hp1; refine AW.skip (AW.seq (AW.block (AW.sr ?_))); refine cs 1 Z (AR.step Z Z Z (AO.lK (i:=0) (sz:=12) Z Z Z Z CY hi0 (by omega) ?_)); refine AR.step Z Z Z (AO.ER (i:=0) Z Z Z ZI (by rw [qV bf.bE]; omega) (by rw [zK bf.bE l i.toNat hlt,hp1,bf.aG]; rfl) ?_); refine AR.step Z Z Z (AO.aF Z OW (fun b13=>(cs 1 Z (AR.bF Z Z (AO.bR (i:=0) Z Z Z ZI Z Z Z Z Z (AR.nil [1,2,4,9,12,13,58,59,60] Z ?_)))))); refine AW.seq (AW.sr (cs 1 Z (AR.step Z Z Z (AO.aY (i:=0) Z Z Z ae1 Z Z ?_)))); refine cs 1 Z (AR.nil [1,2,4,9,12,13,58,59,60,67] Z (AW.cond Z (fun h12=>?_) (fun h12=>?_)))
  · replace hg:=jm h12 hg; refine AW.exit (AW.F9 0 Z (AW.region (cs 2 Z ?_))); refine AR.nil [1,2,4,9,58,59,60] Z ?_; exact ⟨_,_,Z,Z,Z,hlen,hg⟩
  replace hg:=iO h12 hg; obtain ⟨x3,ag4,hx3,hg⟩:=bP hg; refine AW.skip (AW.sr (cs 3 Z (AR.step Z Z Z (AO.aY (i:=0) Z Z Z gT Z Z ?_)))); refine cs 1 Z (AR.step Z Z Z (AO.call Z _ Z Z WB (xD _ (fun z0=>go z0 dK) 151 [.ref [.list (List.map aA.cells dK)],D] aah goH hx3 (cs 3 Z (AR.step Z Z Z (AO.lK (i:=1) (sz:=12) Z Z Z Z CY hi0 (by omega) ?_)))))); refine cs 1 Z (AR.bF Z Z (AO.Cw (i:=1) (cs':=(l.set i.toNat (bf.mk p1.text p1.is_ x3)).flatMap bf.cells) Z Z Z gT Z Z Z (Nat.succ_pos _) (by rw [qV bf.bE]; simp only [List.length_cons,List.length_nil]; omega) (Qc bf.bE l _ 2 hlt _ (bf.mk p1.text p1.is_ x3) (by rw [hp1,bf.aG,bf.aG]; rfl) (by simp only [List.length_cons,List.length_nil]; omega)) Z ?_)); refine cs 1 Z (AR.nil [1,2,4,9,11,58,59,60] Z (AW.F9 0 Z (AW.sr ?_))); refine cs 2 Z (AR.nil [1,2,4,9,11,58,59,60,80] Z (AW.cond Z (fun lH=>?_) (fun lH=>?_)))
  · cases jm lH hg; replace hf:=jm lH hf; refine AW.sr (AR.step Z Z Z (AO.build Z iX Ed Z (cs 1 Z (AR.bF Z Z (AO.bR (i:=1) Z Z Z gT Z Z Z Z Z ?_))))); refine cs 2 Z (AR.nil [4,5,6] Z (AW.ret ?_)); cases hf; exact ⟨rfl,_,⟨_,_,rfl,⟨_,_,1,_,_,rfl,rfl,gT,rfl⟩,_,_,rfl,rfl,_,_,rfl,rfl,rfl⟩,[],List.nil_sublist _,h⟩
  replace hg:=iO lH hg; refine AW.skip (AW.region (cs 2 Z (AR.nil [1,2,4,9,58,59,60] Z ?_))); exact ⟨_,_,Z,Z,Z,(List.length_set ..).trans hlen,hg⟩
 cases iO h11 hg; obtain ⟨s1,hs1,hf⟩:=JG (show ay _ _=_ from hf); refine AW.exit (AW.freeze 9 0 (List.map bf.cells ps2) rfl rfl (List.flatMap_def ..).symm (fun x hx=>by obtain ⟨s,_,rfl⟩:=List.mem_map.1 hx; exact bf.bE s) (by rw [List.length_map,hlen]) ?_); refine AW.settle [4,9] Z (AW.drop1 (AW.sr (cs 1 Z ?_))); refine AR.step Z Z Z (AO.call Z _ Z Z adu (R4 _ hs1 (cs 1 Z (AR.nil [4,14] Z (AW.seq ?_))))); refine AW.sr (cs 1 Z (AR.step Z Z Z (AO.cK Z Z Z Z dP Z (cs 1 Z ?_)))); refine AR.nil [4,14,88] Z (AW.cond Z (fun lV=>?_) (fun lV=>?_))
 · replace hf:=jm lV hf; refine AW.sr (AR.step Z Z Z (AO.build Z iX Ed Z (AR.bF Z Z (AO.bR (i:=0) Z Z Z gT Z Z Z Z Z (cs 2 Z ?_))))); refine AR.nil [4,5,6] Z (AW.ret ?_); cases hf; exact ⟨rfl,_,⟨_,_,rfl,⟨_,_,0,_,_,rfl,rfl,gT,rfl⟩,_,_,rfl,rfl,_,_,rfl,rfl,rfl⟩,[],List.nil_sublist _,h⟩
 replace hf:=iO lV hf; refine AW.skip (AW.sr (cs 1 Z (AR.step Z Z Z (AO.build Z gF Tt Z ?_)))); refine AR.step Z Z Z (AO.build Z iX Ed Z (AR.bF Z Z (AO.bR (i:=0) Z Z Z gT Z Z Z Z Z (cs 2 Z (AR.nil [4,5,6] Z ?_))))); refine AW.ret ?_; cases hf; exact ⟨rfl,_,⟨_,_,rfl,⟨_,_,0,_,_,rfl,rfl,gT,rfl⟩,_,_,rfl,rfl,_,_,rfl,rfl,rfl⟩,[],List.nil_sublist _,h⟩
theorem Bu (dK:List aA) (b:Nat):∀ (k:Nat) (a0:aj) (r0:aj) (r1:Bool) (r2:Int),lX k a0 dK=some (r0,r1,r2)→∀ {τ:List bn} {Q:cZ→List bn→Prop},Q (.ret (.tuple [.agg (bI r0),.bool r1,iP r2])) τ→PC 151 ([.agg (bI a0)] ++ [.ref [.list (List.map aA.cells dK)],Rk 151 (.ref [.list (List.map aA.cells dK)]) b k]) τ Q
 | 0,_,_,_,_,hz,_,_,_=>bT hz
 | k + 1,x,_,_,_,hz,_,_,hq=>JI (lX k) dK (Rk 151 (.ref [.list (List.map aA.cells dK)]) b k) (Bu dK b k) x hz hq
end
section
variable [zq]
theorem Mg (e1:aj) (dK:List aA) {r0:aj} {r1:Int} (hf:A8 e1 dK=some (r0,r1)) (h:Q (.ret (.tuple [.agg (bI r0),iP r1])) τ):PC 121 [.agg (bI e1),.list (List.map aA.cells dK)] τ Q:=by
 unfold A8 at hf; refine AC.none (AC.jH 13 [.cell 4 45,.tmp 5] [0,1] Tryz.func121 Z Z Z Z Z (AW.sr (AR.step Z Z Z (AO.B_ Z Z Z ?_)))); refine AR.step Z Z Z (AO.B_ Z Z Z (AR.step Z Z Z (AO.aF Z iX (fun b4=>(cs 1 Z (AR.nil [2,3,4] Z ?_)))))); refine AW.sr (AR.step Z Z Z (AO.aF Z acT (fun b6=>(AR.nil [2,3,4,6] Z (AW.sr ?_))))); refine cs 1 Z (AR.bF Z Z (AO.bR (i:=0) Z Z Z ac1 Z Z Z Z Z (AR.nil [2,4,6] Z (AW.tie 6 0 (BIG + 1) Z Z Z ?_)))); rw [Yp]; refine AW.settle [2,4,6] Z (AW.sr (cs 2 Z (AR.step Z Z Z (AO.call Z _ Z Z WB (xD _ (fun z0=>lX BIG z0 dK) 151 [.ref [.list (List.map aA.cells dK)],Rk 151 (.ref [.list (List.map aA.cells dK)]) b6 BIG] aah (Bu dK b6 BIG) hf ?_))))); refine cs 2 Z (AR.bF Z Z (AO.bR (i:=0) Z Z Z gT Z Z Z Z Z (cs 1 Z (AR.nil [4,5] Z ?_)))); refine AW.ret ?_; exact ⟨rfl,_,⟨_,_,rfl,⟨_,_,0,_,_,rfl,rfl,gT,rfl⟩,_,_,rfl,rfl,rfl⟩,[],List.nil_sublist _,h⟩
end
section
variable [zq]
theorem Mr (p1:bf) (mZ:List aA) {r0:Str} {r1:Int} (hf:Bg p1 mZ=some (r0,r1)) (h:Q (.ret (.tuple [.str r0,iP r1])) τ):PC 155 [.agg (Cj p1),.list (List.map aA.cells mZ)] τ Q:=by
 unfold Bg at hf; refine BN 27 [.tmp 4,.tmp 5] [0,1] Tryz.func155 Z Z Z Z Z (V 6 Z (C hf Z (fun h1 hf=>?_) fun h1 hf=>?_))
 · cases hf; exact M 4 Z (Y Z h)
 obtain ⟨x1,uT,h2,hf⟩:=bP hf; refine W 3 Z (CL Z (Jc _ _ h2 (U 3 Z (AS Z (AO.aF Z gF (fun b6=>(Rw 4 [0] Z Z (C hf Z (fun h3 hf=>?_) fun h3 hf=>?_))))))))
 · cases hf; exact M 3 Z (Y Z h)
 replace hf:=(JF _).trans hf; obtain ⟨x2,x3,h4,hf⟩:=bP hf; refine Wr 1 [0] Z Z (CL Z (Mf _ h4 ?_)); cases hf; exact N 4 Z (Y Z h)
end
section
variable [zq]
theorem OG (s1:Str) (mZ:List aA) {r0:Str} {r1:Int} (hf:Eo s1 mZ=some (r0,r1)) (h:Q (.ret (.tuple [.str r0,iP r1])) τ):PC 122 [.str s1,.list (List.map aA.cells mZ)] τ Q:=by
 unfold Eo at hf; refine BN 50 [.tmp 4,.tmp 5] [0,1] Tryz.func122 Z Z Z Z Z ?_; obtain ⟨ps1,x1,uT,h1,hf⟩:=jM hf; refine W 3 Z (CL Z (Ja _ h1 (J 9 Z (C hf Z (fun h2 hf=>?_) fun h2 hf=>?_))))
 · cases hf; exact M 3 Z (Y Z h)
 refine B1 hf fun II h3 hf=>W 1 Z (CL Z (Gg _ h3 (J 3 Z (C hf Z (fun h4 hf=>?_) fun h4 hf=>?_))))
 · cases hf; exact M 3 Z (Y Z h)
 refine W 0 Z (AS Z (AO.Cn (eu:=5) Z Mx Z (fun b10=>(U 1 Z (AS Z (AO.aM (l:=ps1) Z Z Z Z CY Z Z (J 1 Z (Uu (fun x2 b1 v1=>[(1,.list (List.map aA.cells mZ)),(10,pP b10),(29,.list (List.map bf.cells ps1)),(30,iP (ps1.length:Int)),(31,iP x2)]) (fun x2 b1 v1=>[.Kj b10 v1 167 5 b1]) (fun bY x2 b1 v1=>vB mZ ps1 bY x2 b1=some (r0,r1)) BIG 0 [] (.slice none 0 0) Z Z hf (fun _ _ _ hz=>bT hz) ?_)))))))); intro bY x2 b1 v1 hf; rw [vB] at hf; refine V 1 Z (C hf Z (fun h5 hf=>?_) fun h5 hf=>?_)
 ·
  refine B1 hf fun e1 h6 hf=>W 0 Z (AS Z (AO.aO h6 Z Z Z Z CY (bf.aG _) Z (U 1 Z (AS Z (AO.aF Z OW (fun b12=>?_)))))); obtain ⟨t1,aaN,h7,hf⟩:=bP hf; refine Rr 3 [0,0] Z Z (CL Z (Mr _ _ h7 (J 7 Z (C hf Z (fun h8 hf=>?_) fun h8 hf=>?_))))
  · cases hf; exact M 3 Z (Y Z h)
  refine B1 hf fun b2 h9 hf=>W 1 Z (CL Z (AC.one 1 Z (jo h9 (fun v2=>⟨_,Z,(fG 2 Z (AR.drop1 ?_))⟩)))); exact N 0 Z ⟨(dA (x2 + 1)),b2,v2,Z,Z,Z,hf⟩
 refine W 0 Z (CL Z (AC.one 0 Z (SQ ⟨_,Z,(J 1 Z (C hf Z (fun h10 hf=>?_) fun h10 hf=>?_))⟩)))
 · cases hf; exact M 2 Z (Y Z h)
 refine W 0 Z (CL Z (AC.Ju 0 Z (vK ?_))); cases hf; exact N 2 Z (Y Z h)
end
section
variable [zq]
abbrev zm (dU:au→List aA→Option (au × Int)):Prop:=∀ (l6:au) (jD:List aA) {aP:au} {qJ:Int},dU l6 jD=some (aP,qJ)→∀ {τ:List bn} {Q:cZ→List bn→Prop} (h:Q (.ret (.tuple [.agg (dW aP),iP qJ])) τ),PC 90 [.agg (dW l6),.list (List.map aA.cells jD)] τ Q
theorem Fh (dU) (Ep:zm dU) (b1:au) (dK:List aA) {r0:au} {r1:Int} (hf:rM dU b1 dK=some (r0,r1)) (h:Q (.ret (.tuple [.agg (dW r0),iP r1])) τ):PC 90 [.agg (dW b1),.list (List.map aA.cells dK)] τ Q:=by
 unfold rM at hf; refine BN 87 [.cell 4 38,.tmp 5] [0,1] Tryz.func90 Z Z Z Z Z (W 1 Z (AS Z (AO.aF Z pE (fun b4=>(U 6 Z (AS Z (AO.aF Z pE (fun b6=>(Rr 3 [0] Z Z (AS Z (AO.aM (l:=b1.attrs) Z Z Z Z sF Z Z ?_))))))))))); refine J 1 Z (AW.row 11 48 (AW.row 4 38 (LK4 (fun x1 bg v1 v2=>[(1,.list (List.map aA.cells dK)),(2,.ref (dW b1)),(4,pP b4),(6,pP b6),(22,.list (List.map aS.cells b1.attrs)),(23,iP (b1.attrs.length:Int)),(24,iP x1)]) (fun x1 bg v1 v2=>[.row v2 (au.aN bg.blocks).length 4 38,.row v1 (List.map aS.cells bg.attrs).length 11 48,.box b6 [.str bg.kind,.str bg.name,.own v1 (List.map aS.cells bg.attrs),.own v2 (au.aN bg.blocks)],.box b4 [.str ([]:Str),.str ([]:Str),.own (.slice none 0 0) [],.own (.slice none 0 0) []]]) (fun bY x1 bg v1 v2=>nk dU b1 dK bY x1 bg=some (r0,r1)) BIG 0 (au.mk b1.kind b1.name [] []) (.slice none 0 0) (.slice none 0 0) Z Z hf (fun _ _ _ _ hz=>bT hz) ?_))); intro bY x1 bg v1 v2 hf; rw [nk] at hf; refine V 1 Z (C hf Z (fun h1 hf=>?_) fun h1 hf=>?_)
 ·
  refine B1 hf fun e1 h2 hf=>W 0 Z (AS Z (AO.aO h2 Z Z Z Z sF (aS.aG _) Z (U 1 Z (AS Z (AO.aF Z OV (fun b8=>?_)))))); obtain ⟨x2,e2,h3,hf⟩:=bP hf; refine Rr 4 [0,0] Z Z (CL Z (Mg _ _ h3 (U 3 Z (AS Z (AO.aF Z iX (fun b9=>(Rw 4 [0] Z Z (C hf Z (fun h4 hf=>?_) fun h4 hf=>?_))))))))
  · cases hf; exact Wx 4 [5] Z Z (ZC [5] Z Z h)
  refine Wr 6 [4,1,0] rfl rfl (AS rfl (AO.bL (List.map aS.cells [(aS.mk e1.name x2)]) rfl Ah rfl rfl rfl (by first | rfl | simp only [List.map,aS.aG]) ?_)); refine B1 hf fun x3 h5 hf=>AS Z (AO.eO (i:=3) (l:=bg.attrs) (m:=[(aS.mk e1.name x2)]) h5 Z Z Z Z Z Z Z Ah sF Z Z Z (aS.bE) (aS.cells_one) (by decide) (fun v3 s1 hs1=>?_)); cases hs1; refine Rn 4 [4] Z Z (AR.drop1 (AR.drop1 ?_)); exact N 0 Z ⟨(dA (x1 + 1)),(au.mk bg.kind bg.name x3 bg.blocks),v3,v2,Z,Z,Z,hf⟩
 refine W 2 Z (AS Z (AO.aM (l:=b1.blocks) Z Z Z Z mM Z (au.aC _) ?_)); refine J 1 Z (LK4 (fun x4 jJ v4 v5=>[(1,.list (List.map aA.cells dK)),(4,pP b4),(6,pP b6),(50,.list (au.aN b1.blocks)),(51,iP (b1.blocks.length:Int)),(52,iP x4)]) (fun x4 jJ v4 v5=>[.row v5 (au.aN jJ.blocks).length 4 38,.row v4 (List.map aS.cells jJ.attrs).length 11 48,.box b6 [.str jJ.kind,.str jJ.name,.own v4 (List.map aS.cells jJ.attrs),.own v5 (au.aN jJ.blocks)],.box b4 [.str ([]:Str),.str ([]:Str),.own (.slice none 0 0) [],.own (.slice none 0 0) []]]) (fun ED x4 jJ v4 v5=>ni dU b1 dK ED x4 jJ=some (r0,r1)) BIG 0 bg v1 v2 Z Z hf (fun _ _ _ _ hz=>bT hz) ?_); intro ED x4 jJ v4 v5 hf; rw [ni] at hf; refine V 1 Z (C hf Z (fun h6 hf=>?_) fun h6 hf=>?_)
 ·
  refine B1 hf fun e3 h7 hf=>W 0 Z (AS Z (AO.aO h7 Z Z (au.aC _) Z mM (au.aG _) Z (U 1 Z (AS Z (AO.aF Z pE (fun b12=>?_)))))); obtain ⟨name1,e4,h8,hf⟩:=bP hf; refine Rr 4 [0,0] Z Z (CL Z (OG _ _ h8 (J 7 Z (C hf Z (fun h9 hf=>?_) fun h9 hf=>?_))))
  · cases hf; exact Wx 4 [4] Z Z (ZC [4] Z Z h)
  obtain ⟨x5,e5,h10,hf⟩:=bP hf; refine Wr 5 [0,0] Z Z (CL Z (Ep _ _ h10 (U 3 Z (AS Z (AO.aF Z pE (fun b15=>(Rw 4 [0] Z Z (C hf Z (fun h11 hf=>?_) fun h11 hf=>?_))))))))
  · cases hf; exact Wx 4 [5] Z Z (ZC [5] Z Z h)
  refine Wr 3 [4,0] rfl rfl (AS rfl (AO.bL (au.aN [x5]) rfl wz rfl rfl rfl (by first | rfl | simp only [List.map,au.aG,au.aN]) ?_)); refine B1 hf fun x6 h12 hf=>AS Z (AO.eO (i:=2) (l:=jJ.blocks) (m:=[x5]) h12 Z Z Z Z Z Z Z wz mM (au.aC _) (au.aC _) (au.aC _).symm (au.bE) (au.cells_one) (by decide) (fun v6 s2 hs2=>?_)); cases hs2; refine Rn 4 [4] Z Z (AR.drop1 (AR.drop1 ?_))
  exact N 0 Z ⟨(dA (x4 + 1)),(au.mk jJ.kind jJ.name jJ.attrs x6),v4,v6,Z,Z,Z,hf⟩
 cases hf; exact Wx 3 [2,3] Z Z (ZC [3] Z Z h)
theorem FP :∀ k:Nat,(zm (lQ k)):=by
 intro k
 induction k with
 | zero=>exact fun _ _ _ _ hz=>by first | cases hz | (unfold lQ at hz; cases hz)
 | succ k ih=>exact fun l6 jD aP qJ hz τ Q hq=>Fh (lQ k) ih l6 jD hz hq
theorem Gb (l6:au) (jD:List aA) {aP:au} {qJ:Int} (hf:Af l6 jD=some (aP,qJ)) (h:Q (.ret (.tuple [.agg (dW aP),iP qJ])) τ):PC 90 [.agg (dW l6),.list (List.map aA.cells jD)] τ Q:=
 ((FP BIG)) l6 jD hf h
end
section
variable [zq]
abbrev oV (bM:aJ→au→Int→Option (au × Int × aJ)):Prop:=∀ (lI:Nat) (N_:aJ) (l6:au) (kS:Int) {aP:au} {qJ:Int} {MF:aJ},bM N_ l6 kS=some (aP,qJ,MF)→∀ {Q:cZ→List bn→Prop} (h:Q (.ret (.tuple [.agg (dW aP),iP qJ])) [.box lI (eH MF)]),PC 54 [pP lI,.agg (dW l6),iP kS] [.box lI (eH N_)] Q
abbrev nZ (bZ:aJ→au→Int→Option (au × Int × aJ)):Prop:=∀ (lI:Nat) (N_:aJ) (Gp:au) (kS:Int) {aP:au} {qJ:Int} {MF:aJ},bZ N_ Gp kS=some (aP,qJ,MF)→∀ {Q:cZ→List bn→Prop} (h:Q (.ret (.tuple [.agg (dW aP),iP qJ])) [.box lI (eH MF)]),PC 55 [pP lI,.agg (dW Gp),iP kS] [.box lI (eH N_)] Q
theorem Co (bM) (nN:oV bM) (bZ) (rF:nZ bZ) (p1:Nat) (x1:aJ) (b1:au) (nO:Int) {r0:au} {r1:Int} {x1s:aJ} (hf:oJ bM bZ x1 b1 nO=some (r0,r1,x1s)) {Q:cZ→List bn→Prop} (h:Q (.ret (.tuple [.agg (dW r0),iP r1])) [.box p1 (eH x1s)]):PC 54 [pP p1,.agg (dW b1),iP nO] [.box p1 (eH x1)] Q:=by
 unfold oJ at hf; refine AC.jH 96 [.cell 6 38,.tmp 7] [0,1,2] Tryz.func54 Z Z Z Z Z (AW.sr (AR.step Z Z Z (AO.B_ Z Z Z (AR.step Z Z Z (AO.aF Z pE (fun b6=>?_)))))); refine cs 1 Z (AR.nil [0,2,4,6] Z (AW.seq ?_)); refine B1 hf fun x2 h1 hf=>?_
 refine AW.X7 6 9 [] [.box b6 [.str ([]:Str),.str ([]:Str),.own (.slice none 0 0) [],.own (.slice none 0 0) []],.box p1 (eH x1)] (fun S e s=>∃ (v1:Value) (b8:Nat),(S 7=true→S 6=true)∧e.get 0=pP p1∧e.get 2=iP nO∧e.get 4=.ref (dW b1)∧e.get 6=pP b6∧e.get 20=.str b1.kind∧e.get 22=.str b1.name∧e.get 24=.list (List.map aS.cells b1.attrs)∧
  (S 6=true→e.get 25=.own v1 (List.map aS.cells x2))∧(S 7=true→e.get 26=.agg [.str b1.kind,.str b1.name,.own v1 (List.map aS.cells x2),.own (.slice none 0 0) []])∧(S 8=true→e.get 8=pP b8)∧
  s.Perm ((bif S 8 then [.box b8 [.str ([]:Str),.str ([]:Str),.own (.slice none 0 0) [],.own (.slice none 0 0) []]] else []) ++ ((bif S 6 then [.row v1 (List.map aS.cells x2).length 11 48] else []) ++ [.box b6 [.str ([]:Str),.str ([]:Str),.own (.slice none 0 0) [],.own (.slice none 0 0) []],.box p1 (eH x1)]))) mixed (by kernel_rfl) Z Z (List.Perm.refl _) ?_ ?_ ?_ ?_
 ·
  refine Ev.cs aX 6 Z (Ev.nil ?_); exact ⟨.nilIface,0,(fun h=>by cases h),Z,Z,Z,Z,Z,Z,Z,(fun h=>by cases h),(fun h=>by cases h),(fun h=>by cases h),List.Perm.refl _⟩
 ·
  rintro S S' e s hS ⟨v1,b8,w7,p0,p2,p4,p6,p20,p22,p24,q6,q7,q8,qs⟩; have z:=fun i h1 h2=>(hS i h1 h2).symm; refine ⟨v1,b8,?_,p0,p2,p4,p6,p20,p22,p24,?_,?_,?_,?_⟩
  ·
   rw [z 6 (by decide) (by decide),z 7 (by decide) (by decide)]; exact w7
  ·
   rw [z 6 (by decide) (by decide)]; exact q6
  ·
   rw [z 7 (by decide) (by decide)]; exact q7
  ·
   rw [z 8 (by decide) (by decide)]; exact q8
  ·
   rw [z 6 (by decide) (by decide),z 8 (by decide) (by decide)]; exact qs
 ·
  rintro S e s i o ⟨v1,b8,w7,p0,p2,p4,p6,p20,p22,p24,q6,q7,q8,qs⟩ hi1 hi2 WY hp' ho; have hi:i=6∨i=7∨i=8:=by omega
  rcases hi with rfl | rfl | rfl
  ·
   cases ho; rw [WY] at qs; have q7':S 7=true→False:=fun h7=>by have:=w7 h7; rw [WY] at this; cases this
   refine ⟨Z,(fun t ht=>by cases ht; decide),AO.less (Less.add p24 Less.nil) (AO.acP Z _ Z Z ZY (AC.none (wK _ h1 (fun v2=>?_))))⟩; refine ⟨v2,b8,(fun _=>Z),p0,p2,p4,p6,p20,p22,p24,(fun _=>Z),(fun h7=>(q7' h7).elim),q8,?_⟩; cases h8:S 8 with
   | false=>
    rw [h8] at qs; simp only [h8,cond_false,cond_true,List.nil_append,if_true] at qs ⊢; exact qs.cons _
   | true=>
    rw [h8] at qs; simp only [h8,cond_false,cond_true,List.nil_append,if_true,List.cons_append,ite_self] at qs ⊢; exact (qs.cons _).trans (List.Perm.swap _ _ _)
  ·
   cases ho; have s6:=hp' 6 (any_beq.1 Z) (by decide); refine ⟨Z,(fun t ht=>by cases ht; decide),AO.less (Less.add p20 (Less.add p22 (Less.add (q6 s6) Less.nil))) (AO.build Z pE MJ Z ?_)⟩; exact ⟨v1,b8,(fun _=>s6),p0,p2,p4,p6,p20,p22,p24,q6,(fun _=>Z),q8,qs⟩
  ·
   cases ho; rw [WY] at qs; refine ⟨Z,(fun t ht=>by cases ht; decide),AO.aF Z pE (fun b9=>?_)⟩; exact ⟨v1,b9,w7,p0,p2,p4,p6,p20,p22,p24,q6,q7,(fun _=>Z),qs.cons _⟩
 rintro S e s hS ⟨v1,b8,w7,p0,p2,p4,p6,p20,p22,p24,q6,q7,q8,qs⟩; rw [hS 6 (by decide) (by decide),hS 8 (by decide) (by decide)] at qs; refine AR.afD qs (AR.less (Less.add p0 (Less.add p2 (Less.add p4 (Less.add p6 (Less.add (q7 (hS 7 (by decide) (by decide))) (Less.add (q8 (hS 8 (by decide) (by decide))) Less.nil)))))) ?_); show AR _ _ _ _ _ _ _ _; refine AR.bF Z Z (AO.bR (i:=0) Z Z Z ng Z Z Z Z Z (AR.nil [0,2,4,6,8] Z (AW.seq (AW.sr ?_)))); refine cs 2 Z (AR.step Z Z Z (AO.aM (l:=b1.blocks) Z Z Z Z mM Z (au.aC _) (cs 1 Z (AR.nil [0,2,6,8,28,29,30] Z ?_)))); refine AW.block (AW.row 4 38 (AW.settle [0,2,6,8,28,29,30] Z ?_)); refine AW.ad3 (fun x3 bg v2 v3 y1=>[(0,pP p1),(2,iP nO),(6,pP b6),(8,pP b8),(28,.list (au.aN b1.blocks)),(29,iP (b1.blocks.length:Int)),(30,iP x3)]) (fun x3 bg v2 v3 y1=>[.row v3 (au.aN bg.blocks).length 4 38,.box b8 [.str bg.kind,.str bg.name,.own v2 (List.map aS.cells bg.attrs),.own v3 (au.aN bg.blocks)],.row v2 (List.map aS.cells bg.attrs).length 11 48,.box b6 [.str ([]:Str),.str ([]:Str),.own (.slice none 0 0) [],.own (.slice none 0 0) []],.box p1 (eH y1)]) (fun bY x3 bg v2 v3 y1=>iW bM bZ b1 nO bY x3 bg y1=some (r0,r1,x1s)) BIG 0 (au.mk b1.kind b1.name x2 []) v1 (.slice none 0 0) x1 Z Z hf (fun _ _ _ _ _ hz=>bT hz) ?_; intro bY x3 bg v2 v3 y1 hf; rw [iW] at hf; refine AW.sr (cs 1 Z (AR.nil [0,2,6,8,28,29,30,31] Z (AW.seq ?_))); refine AW.cond Z (fun h2=>?_) (fun h2=>?_)
 ·
  replace hf:=jm h2 hf; refine AW.skip (AW.seq (AW.block (AW.sr ?_))); refine B1 hf fun e1 h3 hf=>?_; refine AR.step Z Z Z (AO.aO h3 Z Z (au.aC _) Z mM (au.aG _) Z (cs 1 Z (AR.step Z Z Z (AO.aF Z pE (fun b10=>(AR.bF Z Z (AO.bR (i:=0) Z Z Z ng Z Z Z Z Z ?_))))))); refine AR.nil [0,2,6,8,10,28,29,30] Z (AW.seq (AW.sr (cs 1 Z ?_))); refine AR.step Z Z Z (AO.aY (i:=0) Z Z Z Pf Z Z (cs 1 Z (AR.nil [0,2,6,8,10,28,29,30,36] Z (AW.cond Z (fun h4=>?_) (fun h4=>?_)))))
  ·
   replace hf:=jm h4 hf; refine AW.sr (cs 1 Z (AR.step Z Z Z (AO.aY (i:=0) Z Z Z ng Z Z (cs 1 Z ?_)))); obtain ⟨x4,x5,y2,h5,hf⟩:=jM hf; refine AR.step Z Z Z (AO.call Z _ Z Z afo (AC.one 5 Z (nN _ _ _ _ h5 ⟨_,Z,(cs 3 Z (AR.step Z Z Z (AO.aF Z pE (fun b11=>(AR.bF Z Z (AO.bR (i:=0) Z Z Z ng Z Z Z Z Z ?_))))))⟩))); refine cs 1 Z (AR.nil [0,2,6,8,11,12,28,29,30] Z (AW.seq (AW.sr ?_))); refine cs 2 Z (AR.nil [0,2,6,8,11,12,28,29,30,45] Z (AW.cond Z (fun h6=>?_) (fun h6=>?_)))
   ·
    replace hf:=jm h6 hf; refine AW.sr (AR.step Z Z Z (AO.build Z pE MJ Z (cs 1 Z (AR.bF Z Z (AO.bR (i:=5) Z Z Z ng Z Z Z Z Z ?_))))); refine cs 1 Z (AR.nil [6,7] Z (AW.ret ?_)); cases hf; exact ⟨rfl,_,⟨_,_,rfl,⟨_,_,5,_,_,rfl,rfl,ng,rfl⟩,_,_,rfl,rfl,rfl⟩,_,(.cons _ (.cons _ (.cons _ (.cons _ (.cons _ (.cons _ (.cons_cons _ (List.nil_sublist _)))))))),h⟩
   ·
    replace hf:=iO h6 hf; refine AW.skip (AW.sr (cs 1 Z (AR.step Z Z Z (AO.aY (i:=3) Z Z Z Ct Z Z ?_)))); refine AR.step rfl rfl rfl (AO.aY (i:=0) rfl rfl rfl ng rfl rfl (AR.step rfl rfl rfl (AO.bL (au.aN [x4]) rfl wz rfl rfl rfl (by first | rfl | simp only [List.map,au.aG,au.aN]) ?_)))
    refine B1 hf fun x6 h7 hf=>?_; refine AR.step Z Z Z (AO.eO (i:=2) (l:=bg.blocks) (m:=[x4]) h7 Z Z Z Z Z Z Z wz mM (au.aC _) (au.aC _) (au.aC _).symm (au.bE) (au.cells_one) (by decide) (fun v4 s1 hs1=>?_)); cases hs1; refine cs 1 Z (AR.bF Z Z (AO.bR (i:=3) Z Z Z Ct Z Z Z Z Z (AR.nil [0,2,6,8,28,29,30] Z (AW.exit ?_)))); refine AW.region (cs 2 Z (AR.drop1 (AR.drop1 ?_))); refine AR.nil [0,2,6,8,28,29,30] Z ?_; exact ⟨(dA (x3 + 1)),(au.mk bg.kind bg.name bg.attrs x6),v2,v4,y2,Z,Z,Z,hf⟩
  ·
   replace hf:=iO h4 hf; refine AW.skip (AW.sr (cs 1 Z (AR.step Z Z Z (AO.aY (i:=0) Z Z Z ng Z Z ?_)))); refine cs 1 Z ?_; obtain ⟨x7,x8,y3,h8,hf⟩:=jM hf; refine AR.step Z Z Z (AO.call Z _ Z Z afn (AC.one 5 Z (rF _ _ _ _ h8 ⟨_,Z,(cs 3 Z (AR.step Z Z Z (AO.aF Z pE (fun b13=>(AR.bF Z Z (AO.bR (i:=0) Z Z Z ng Z Z Z Z Z ?_))))))⟩))); refine cs 1 Z (AR.nil [0,2,6,8,13,14,28,29,30] Z (AW.seq (AW.sr ?_))); refine cs 2 Z (AR.nil [0,2,6,8,13,14,28,29,30,62] Z (AW.cond Z (fun h9=>?_) (fun h9=>?_)))
   ·
    replace hf:=jm h9 hf; refine AW.sr (AR.step Z Z Z (AO.build Z pE MJ Z (cs 1 Z (AR.bF Z Z (AO.bR (i:=5) Z Z Z ng Z Z Z Z Z ?_))))); refine cs 1 Z (AR.nil [6,7] Z (AW.ret ?_)); cases hf; exact ⟨rfl,_,⟨_,_,rfl,⟨_,_,5,_,_,rfl,rfl,ng,rfl⟩,_,_,rfl,rfl,rfl⟩,_,(.cons _ (.cons _ (.cons _ (.cons _ (.cons _ (.cons _ (.cons_cons _ (List.nil_sublist _)))))))),h⟩
   ·
    replace hf:=iO h9 hf; refine AW.skip (AW.seq (AW.sr (cs 1 Z ?_))); refine AR.step Z Z Z (AO.aY (i:=0) Z Z Z UN Z Z (AR.step Z Z Z (AO.aM (l:=x7.attrs) Z Z Z Z sF Z Z (cs 1 Z (AR.nil [0,2,6,8,13,28,29,30,66,67,68] Z ?_))))); refine AW.block (AW.settle [0,2,6,8,13,28,29,30,66,67,68] Z ?_); refine AW.ad4 (fun x9 jJ v5 v6=>[(0,pP p1),(2,iP nO),(6,pP b6),(8,pP b8),(13,pP b13),(28,.list (au.aN b1.blocks)),(29,iP (b1.blocks.length:Int)),(30,iP x3),(66,.list (List.map aS.cells x7.attrs)),(67,iP (x7.attrs.length:Int)),(68,iP x9)]) (fun x9 jJ v5 v6=>[.box b13 (dW x7),.box b10 (dW e1),.row v6 (au.aN jJ.blocks).length 4 38,.box b8 [.str jJ.kind,.str jJ.name,.own v5 (List.map aS.cells jJ.attrs),.own v6 (au.aN jJ.blocks)],.row v5 (List.map aS.cells jJ.attrs).length 11 48,.box b6 [.str ([]:Str),.str ([]:Str),.own (.slice none 0 0) [],.own (.slice none 0 0) []],.box p1 (eH y3)]) (fun ED x9 jJ v5 v6=>lF x3 x7 y3 (iW bM bZ b1 nO bY) ED x9 jJ=some (r0,r1,x1s)) BIG 0 bg v2 v3 Z Z hf (fun _ _ _ _ hz=>bT hz) ?_; intro ED x9 jJ v5 v6 hf; rw [lF] at hf; refine AW.sr (cs 1 Z (AR.nil [0,2,6,8,13,28,29,30,66,67,68,69] Z (AW.seq ?_))); refine AW.cond Z (fun h10=>?_) (fun h10=>?_)
    ·
     replace hf:=jm h10 hf; refine AW.skip (AW.seq (AW.block (AW.sr ?_))); refine B1 hf fun e2 h11 hf=>?_; refine AR.step Z Z Z (AO.aO h11 Z Z Z Z sF (aS.aG _) Z (cs 1 Z (AR.step Z Z Z (AO.aF Z OV (fun b16=>(AR.bF Z Z (AO.bR (i:=0) Z Z Z acj Z Z Z Z Z ?_))))))); refine AR.nil [0,2,6,8,13,16,28,29,30,66,67,68] Z (AW.seq (AW.sr (AR.step Z Z Z (AO.aY (i:=4) Z Z Z ng Z Z ?_)))); refine cs 1 Z (AR.step Z Z Z (AO.aY (i:=0) Z Z Z Pf Z Z ?_)); obtain ⟨K3,Pe,h12,hf⟩:=bP hf; refine AR.step Z Z Z (AO.call Z _ Z Z afb (EC _ _ h12 (cs 3 Z (AR.step Z Z Z (AO.aF Z iX (fun b17=>(AR.bF Z Z (AO.bR (i:=0) Z Z Z gT Z Z Z Z Z ?_)))))))); refine cs 1 Z (AR.nil [0,2,6,8,13,16,18,28,29,30,66,67,68] Z (AW.sr (cs 1 Z ?_))); refine AR.nil [0,2,6,8,13,16,28,29,30,66,67,68,79] Z (AW.cond Z (fun lH=>?_) (fun lH=>?_))
     ·
      replace hf:=jm lH hf; refine AW.sr (AR.step Z Z Z (AO.build Z pE MJ Z (AR.bF Z Z (AO.bR (i:=7) Z Z Z ng Z Z Z Z Z (cs 1 Z ?_))))); refine AR.nil [6,7] Z (AW.ret ?_); cases hf; exact ⟨rfl,_,⟨_,_,rfl,⟨_,_,7,_,_,rfl,rfl,ng,rfl⟩,_,_,rfl,rfl,rfl⟩,_,(.cons _ (.cons _ (.cons _ (.cons _ (.cons _ (.cons _ (.cons _ (.cons _ (.cons_cons _ (List.nil_sublist _)))))))))),h⟩
     ·
      replace hf:=iO lH hf; refine AW.skip (AW.region (cs 1 Z (AR.step Z Z Z (AO.aY (i:=5) Z Z Z UN Z Z ?_)))); refine AR.step rfl rfl rfl (AO.aY (i:=1) rfl rfl rfl acj rfl rfl (AR.step rfl rfl rfl (AO.bL (List.map aS.cells [e2]) rfl Ah rfl rfl rfl (by first | rfl | simp only [List.map,aS.aG]) ?_)))
      refine B1 hf fun Nq lV hf=>?_; refine AR.step Z Z Z (AO.eO (i:=6) (l:=jJ.attrs) (m:=[e2]) lV Z Z Z Z Z Z Z Ah sF Z Z Z (aS.bE) (aS.cells_one) (by decide) (fun v7 s2 hs2=>?_)); cases hs2; refine cs 1 Z (AR.bF Z Z (AO.bR (i:=5) Z Z Z UN Z Z Z Z Z (AR.nil [0,2,6,8,13,28,29,30,66,67,68] Z (AW.region ?_)))); refine cs 2 Z (AR.drop1 (AR.drop1 (AR.nil [0,2,6,8,13,28,29,30,66,67,68] Z ?_))); exact ⟨(dA (x9 + 1)),(au.mk jJ.kind jJ.name Nq jJ.blocks),v7,v6,Z,Z,Z,hf⟩
    ·
     replace hf:=iO h10 hf; refine AW.exit (AW.region (cs 1 Z (AR.step Z Z Z (AO.aY (i:=3) Z Z Z Ct Z Z ?_)))); refine cs 1 Z (AR.step Z Z Z (AO.aY (i:=0) Z Z Z Ct Z Z ?_)); refine B1 hf fun UE ru hf=>?_; refine AR.step Z Z Z (AO.eO (i:=2) (l:=jJ.blocks) (m:=x7.blocks) ru Z Z Z Z Z Z Z wz mM (au.aC _) (au.aC _) (au.aC _).symm (au.bE) (au.cells_one) (by decide) (fun v8 s3 hs3=>?_)); cases hs3; refine cs 1 Z (AR.bF Z Z (AO.bR (i:=3) Z Z Z Ct Z Z Z Z Z (AR.nil [0,2,6,8,28,29,30] Z (AW.region ?_)))); refine cs 2 Z (AR.drop1 (AR.drop1 (AR.nil [0,2,6,8,28,29,30] Z ?_))); exact ⟨(dA (x3 + 1)),(au.mk jJ.kind jJ.name jJ.attrs UE),v5,v8,y3,Z,Z,Z,hf⟩
 ·
  replace hf:=iO h2 hf; refine AW.exit (AW.sr (AR.step Z Z Z (AO.aY (i:=1) Z Z Z ng Z Z (AR.bF Z Z (AO.bR (i:=3) Z Z Z ng Z Z Z Z Z ?_))))); refine cs 1 Z (AR.nil [6,7] Z (AW.ret ?_)); cases hf; exact ⟨rfl,_,⟨_,_,rfl,⟨_,_,3,_,_,rfl,rfl,ng,rfl⟩,_,_,rfl,rfl,rfl⟩,_,(.cons _ (.cons _ (.cons _ (.cons _ (.cons_cons _ (List.nil_sublist _)))))),h⟩
theorem Bz (bM) (nN:oV bM) (bZ) (rF:nZ bZ) (p1:Nat) (x1:aJ) (Hy:au) (nO:Int) {r0:au} {r1:Int} {x1s:aJ} (hf:nU bM bZ x1 Hy nO=some (r0,r1,x1s)) {Q:cZ→List bn→Prop} (h:Q (.ret (.tuple [.agg (dW r0),iP r1])) [.box p1 (eH x1s)]):PC 55 [pP p1,.agg (dW Hy),iP nO] [.box p1 (eH x1)] Q:=by
 unfold nU at hf; refine BD 123 [.cell 6 38,.tmp 7] [0,1,2] Tryz.func55 Z Z Z Z Z (W 1 Z (AS Z (AO.aF Z pE (fun b6=>?_)))); refine B1 hf fun zo h1 hf=>Rr 19 [1,1,1,1] Z Z (CL Z (kR _ (fun z0=>lD z0 Hy) 88 [.ref (dW Hy)] afa (fun _ _ hz=>Aw _ _ hz) h1 (U 3 Z (AS Z (AO.aM (l:=Hy.blocks) Z Z Z Z mM Z (au.aC _) (J 2 Z (C hf Z (fun h2 hf=>?_) fun h2 hf=>?_)))))))
 · cases hf; exact Wx 3 [0] rfl rfl ⟨rfl,_,⟨_,_,rfl,⟨_,_,0,_,_,rfl,rfl,ng,rfl⟩,_,_,rfl,rfl,rfl⟩,_,(.cons _ (.cons_cons _ (List.nil_sublist _))),h⟩
 refine V 3 Z (C hf Z (fun h3 hf=>?_) fun h3 hf=>?_)
 · cases hf; exact Wx 3 [0] rfl rfl ⟨rfl,_,⟨_,_,rfl,⟨_,_,0,_,_,rfl,rfl,ng,rfl⟩,_,_,rfl,rfl,rfl⟩,_,(.cons _ (.cons_cons _ (List.nil_sublist _))),h⟩
 refine V 3 Z (C hf Z (fun h4 hf=>?_) fun h4 hf=>?_)
 · cases hf; exact Wx 3 [0] rfl rfl ⟨rfl,_,⟨_,_,rfl,⟨_,_,0,_,_,rfl,rfl,ng,rfl⟩,_,_,rfl,rfl,rfl⟩,_,(.cons _ (.cons_cons _ (List.nil_sublist _))),h⟩
 refine V 3 Z (C hf Z (fun h5 hf=>?_) fun h5 hf=>?_)
 · cases hf; exact Wx 3 [0] rfl rfl ⟨rfl,_,⟨_,_,rfl,⟨_,_,0,_,_,rfl,rfl,ng,rfl⟩,_,_,rfl,rfl,rfl⟩,_,(.cons _ (.cons_cons _ (List.nil_sublist _))),h⟩
 refine W 3 Z (AS Z (AO.aM (l:=Hy.attrs) Z Z Z Z sF Z Z ?_)); refine J 1 Z (AW.row 7 54 (Uu (fun args1 v1 x2=>[(0,pP p1),(2,iP nO),(6,pP b6),(9,iP zo),(10,.own v1 (List.map aA.cells args1)),(54,.list (List.map aS.cells Hy.attrs)),(55,iP (Hy.attrs.length:Int)),(56,iP x2)]) (fun args1 v1 x2=>[.row v1 (List.map aA.cells args1).length 7 54,.box b6 [.str ([]:Str),.str ([]:Str),.own (.slice none 0 0) [],.own (.slice none 0 0) []],.box p1 [.list (List.map bK.cells x1.templates),.list (List.map aA.cells x1.env),iP (dA (x1.uses + 1))]]) (fun bY args1 v1 x2=>kU bM x1 Hy nO zo bY args1 x2=some (r0,r1,x1s)) BIG [] (.slice none 0 0) 0 Z Z hf (fun _ _ _ hz=>bT hz) ?_)); intro bY args1 v1 x2 hf; rw [kU] at hf; refine V 1 Z (C hf Z (fun h6 hf=>?_) fun h6 hf=>?_)
 ·
  refine B1 hf fun e1 h7 hf=>W 0 Z (AS Z (AO.aO h7 Z Z Z Z sF (aS.aG _) Z (U 1 Z (AS Z (AO.aF Z OV (fun b12=>(Rw 1 [0] Z Z (AW.SG 0 10 12 [_,_,_,_] [] mixed (by kernel_rfl) (by kernel_rfl) (by kernel_rfl) Z Z Z (List.Perm.refl _) ?_)))))))); refine Ev.nil ?_; show Ev _ _ _ _ _ _ _; refine Ev.cs aX 1 Z (Ev.cons Z Z Z (AO.aY (i:=0) Z Z Z gT Z Z zg) (Ev.cs aX 3 Z (Ev.cons Z Z Z (AO.aY (i:=3) Z Z Z ae3 Z Z zg) ?_))); obtain ⟨x3,e2,h8,hf⟩:=bP hf; refine Ev.cons Z Z Z (AO.call Z _ Z Z ae_ (Jc _ _ h8 zg)) (Ev.cs aX 3 Z (Ev.nil (TF.step Z Z Z (AO.aF Z gF (fun b13=>?_))))); refine TF.bF Z Z (AO.bR (i:=0) Z Z Z kZ Z Z Z Z Z (TF.nil ?_)); show AR _ _ _ _ _ _ _ _; refine J 3 Z (C hf Z (fun h9 hf=>?_) fun h9 hf=>?_)
  · cases hf; exact Wx 4 [2] rfl rfl ⟨rfl,_,⟨_,_,rfl,⟨_,_,2,_,_,rfl,rfl,ng,rfl⟩,_,_,rfl,rfl,rfl⟩,_,(.cons _ (.cons _ (.cons _ (.cons_cons _ (List.nil_sublist _))))),h⟩
  refine Wr 5 [0,4] rfl rfl (AS rfl (AO.bL (List.map aA.cells [(aA.mk e1.name x3)]) rfl Ai rfl rfl rfl (by first | rfl | simp only [List.map,aA.aG]) ?_)); refine B1 hf fun args2 h10 hf=>AS Z (AO.eO (i:=1) (l:=args1) (m:=[(aA.mk e1.name x3)]) h10 Z Z Z Z Z Z Z Ai lu Z Z Z (aA.bE) (aA.cells_one) (by decide) (fun v2 s1 hs1=>?_)); cases hs1; refine fG 3 Z (AR.F9 4 Z (AR.F9 0 Z ?_)); exact N 0 Z ⟨args2,v2,(dA (x2 + 1)),Z,Z,Z,hf⟩
 refine B1 hf fun e3 h11 hf=>Wr 5 [2] Z Z (AS Z (AO.aO h11 Z Z Z Z Vv (bK.aG _) Z ?_)); obtain ⟨dK,e4,h12,hf⟩:=bP hf; refine U 3 Z (CL Z (Bo _ _ h12 (J 7 Z (C hf Z (fun lH hf=>?_) fun lH hf=>?_))))
 · cases hf; exact Wx 4 [1] rfl rfl ⟨rfl,_,⟨_,_,rfl,⟨_,_,1,_,_,rfl,rfl,ng,rfl⟩,_,_,rfl,rfl,rfl⟩,_,(.cons _ (.cons _ (.cons_cons _ (List.nil_sublist _)))),h⟩
 refine B1 hf fun e5 lV hf=>Wr 5 [2] Z Z (AS Z (AO.aO lV Z Z Z Z Vv (bK.aG _) Z ?_)); obtain ⟨x4,e6,ru,hf⟩:=bP hf; refine U 3 Z (CL Z (Gb _ _ ru (U 3 Z (AS Z (AO.aF Z pE (fun b17=>(Rw 4 [0] Z Z (C hf Z (fun h16 hf=>?_) fun h16 hf=>?_))))))))
 · cases hf; exact Wx 4 [2] rfl rfl ⟨rfl,_,⟨_,_,rfl,⟨_,_,2,_,_,rfl,rfl,ng,rfl⟩,_,_,rfl,rfl,rfl⟩,_,(.cons _ (.cons _ (.cons _ (.cons_cons _ (List.nil_sublist _))))),h⟩
 replace hf:=(Fa _).trans hf; obtain ⟨x5,x6,y1,xB,hf⟩:=jM hf; refine Wr 4 [0] Z Z (CL Z (AC.one 3 Z (nN _ _ _ _ xB ⟨_,Z,?_⟩))); cases hf; exact Rx 4 [2] rfl rfl ⟨rfl,_,⟨_,_,rfl,⟨_,_,2,_,_,rfl,rfl,ng,rfl⟩,_,_,rfl,rfl,rfl⟩,_,(.cons _ (.cons _ (.cons _ (.cons_cons _ (List.nil_sublist _))))),h⟩
theorem uH :∀ k:Nat,(oV (iy k))∧(nZ (gV k)):=by
 intro k
 induction k with
 | zero=>exact ⟨fun _ _ _ _ _ _ _ hz=>by first | cases hz | (unfold iy at hz; cases hz),fun _ _ _ _ _ _ _ hz=>by first | cases hz | (unfold gV at hz; cases hz)⟩
 | succ k ih=>exact ⟨fun lI N_ l6 kS aP qJ MF hz  Q hq=>Co (iy k) ih.1 (gV k) ih.2 lI N_ l6 kS hz hq,fun lI N_ Gp kS aP qJ MF hz  Q hq=>Bz (iy k) ih.1 (gV k) ih.2 lI N_ Gp kS hz hq⟩
theorem Db (lI:Nat) (N_:aJ) (l6:au) (kS:Int) {aP:au} {qJ:Int} {MF:aJ} (hf:wm N_ l6 kS=some (aP,qJ,MF)) {Q:cZ→List bn→Prop} (h:Q (.ret (.tuple [.agg (dW aP),iP qJ])) [.box lI (eH MF)]):PC 54 [pP lI,.agg (dW l6),iP kS] [.box lI (eH N_)] Q:=
 ((uH BIG).1) lI N_ l6 kS hf h
theorem BU (lI:Nat) (N_:aJ) (Gp:au) (kS:Int) {aP:au} {qJ:Int} {MF:aJ} (hf:vM N_ Gp kS=some (aP,qJ,MF)) {Q:cZ→List bn→Prop} (h:Q (.ret (.tuple [.agg (dW aP),iP qJ])) [.box lI (eH MF)]):PC 55 [pP lI,.agg (dW Gp),iP kS] [.box lI (eH N_)] Q:=
 ((uH BIG).2) lI N_ Gp kS hf h
end
section
variable [zq]
theorem Mj (f1:dY) (Dm:List bK) (mZ:List aA) {r0:dY} {r1:Int} (hf:A_ f1 Dm mZ=some (r0,r1)) (h:Q (.ret (.tuple [.agg [.list (au.aN r0.blocks)],iP r1])) τ):PC 29 [.agg [.list (au.aN f1.blocks)],.list (List.map bK.cells Dm),.list (List.map aA.cells mZ)] τ Q:=by
 unfold A_ at hf; refine BN 92 [.cell 6 34,.tmp 7] [0,1,2] Tryz.func29 Z Z Z Z Z (W 1 Z (AS Z (AO.aF Z G7 (fun b6=>?_)))); refine B1 hf fun e1 h1 hf=>U 2 Z (CL Z (Di _ h1 (J 3 Z (C hf Z (fun h2 hf=>?_) fun h2 hf=>?_))))
 · cases hf; exact Wx 4 [0] Z Z (ZC [0] Z Z h)
 refine B1 hf fun e2 h3 hf=>W 1 Z (CL Z (Gg _ h3 (J 3 Z (C hf Z (fun h4 hf=>?_) fun h4 hf=>?_))))
 · cases hf; exact Wx 4 [0] Z Z (ZC [0] Z Z h)
 refine W 3 Z (AS Z (AO.JE Z Z (fun b34=>(U 1 Z (AS Z (AO.aF Z G7 (fun b11=>(U 2 Z (AS Z (AO.aM (l:=f1.blocks) Z Z Z Z mM Z (au.aC _) ?_)))))))))); refine J 1 Z (AW.row 4 38 (LK4 (fun x1 bg v1 y1=>[(6,pP b6),(10,pP b34),(11,pP b11),(36,.list (au.aN f1.blocks)),(37,iP (f1.blocks.length:Int)),(38,iP x1)]) (fun x1 bg v1 y1=>[.row v1 (au.aN bg.blocks).length 4 38,.box b11 [.own v1 (au.aN bg.blocks)],.box b34 (eH y1),.box b6 [.own (.slice none 0 0) []]]) (fun bY x1 bg v1 y1=>oL f1 bY x1 bg y1=some (r0,r1)) BIG 0 (dY.mk []) (.slice none 0 0) (aJ.mk Dm mZ 0) Z Z hf (fun _ _ _ _ hz=>bT hz) ?_)); intro bY x1 bg v1 y1 hf; rw [oL] at hf; refine V 1 Z (C hf Z (fun h5 hf=>?_) fun h5 hf=>?_)
 ·
  refine B1 hf fun e3 h6 hf=>W 0 Z (AS Z (AO.aO h6 Z Z (au.aC _) Z mM (au.aG _) Z (U 1 Z (AS Z (AO.aF Z pE (fun b13=>(Rw 4 [0,0] Z Z (C hf Z (fun h7 hf=>?_) fun h7 hf=>?_))))))))
  ·
   obtain ⟨x2,x3,y2,h8,hf⟩:=jM hf; refine Wr 2 [0] Z Z (CL Z (AC.one 3 Z (Db _ _ _ _ h8 ⟨_,Z,(U 3 Z (AS Z (AO.aF Z pE (fun b14=>(Rw 4 [0] Z Z (C hf Z (fun h9 hf=>?_) fun h9 hf=>?_))))))⟩)))
   · cases hf; exact Wx 4 [5] Z Z (ZC [5] Z Z h)
   refine Wr 3 [3,0] rfl rfl (AS rfl (AO.bL (au.aN [x2]) rfl wz rfl rfl rfl (by first | rfl | simp only [List.map,au.aG,au.aN]) ?_)); refine B1 hf fun x4 h10 hf=>AS Z (AO.eO (i:=2) (l:=bg.blocks) (m:=[x2]) h10 Z Z Z Z Z Z Z wz mM (au.aC _) (au.aC _) (au.aC _).symm (au.bE) (au.cells_one) (by decide) (fun v2 s1 hs1=>?_)); cases hs1; refine Rn 4 [3] Z Z (AR.drop1 (AR.drop1 ?_)); exact N 0 Z ⟨(dA (x1 + 1)),(dY.mk x4),v2,y2,Z,Z,Z,hf⟩
  obtain ⟨x5,x6,y3,h11,hf⟩:=jM hf; refine Wr 2 [0] Z Z (CL Z (AC.one 3 Z (BU _ _ _ _ h11 ⟨_,Z,(U 3 Z (AS Z (AO.aF Z pE (fun b16=>(Rw 5 [0] Z Z (C hf Z (fun h12 hf=>?_) fun h12 hf=>?_))))))⟩)))
  · cases hf; exact Wx 4 [5] Z Z (ZC [5] Z Z h)
  refine Wr 2 [0] Z Z (AS Z (AO.aM (l:=x5.attrs) Z Z Z Z sF Z Z (J 2 Z (C hf Z (fun lH hf=>?_) fun lH hf=>?_))))
  · cases hf; exact Wx 3 [5] Z Z (ZC [5] Z Z h)
  refine B1 hf fun x7 lV hf=>Wr 4 [3,0] Z Z (AS Z (AO.eO (i:=2) (l:=bg.blocks) (m:=x5.blocks) lV Z Z Z Z Z Z Z wz mM (au.aC _) (au.aC _) (au.aC _).symm (au.bE) (au.cells_one) (by decide) (fun v3 s2 hs2=>?_))); cases hs2; refine Rn 4 [3] Z Z (AR.drop1 (AR.drop1 ?_)); exact N 0 Z ⟨(dA (x1 + 1)),(dY.mk x7),v3,y3,Z,Z,Z,hf⟩
 refine B1 hf fun e4 ru hf=>Wr 1 [1] Z Z (CL Z (Di _ ru (J 3 Z (C hf Z (fun h16 hf=>?_) fun h16 hf=>?_))))
 · cases hf; exact Wx 4 [3] Z Z (ZC [3] Z Z h)
 cases hf; exact Wx 3 [1,3] Z Z (ZC [3] Z Z h)
end
section
variable [zq]
theorem BX (f1:dY) (mZ:List aA) {r0:dY} {r1:Int} (hf:zI f1 mZ=some (r0,r1)) (h:Q (.ret (.tuple [.agg [.list (au.aN r0.blocks)],iP r1])) τ):PC 12 [.agg [.list (au.aN f1.blocks)],.list (List.map aA.cells mZ)] τ Q:=by
 unfold zI at hf; refine BN 25 [.cell 4 34,.tmp 5] [0,1] Tryz.func12 Z Z Z Z Z (W 1 Z (AS Z (AO.aF Z G7 (fun b4=>?_)))); obtain ⟨Dm,x1,e1,h1,hf⟩:=jM hf; refine U 2 Z (CL Z (KP _ h1 (U 4 Z (AS Z (AO.aF Z G7 (fun b7=>(Rw 5 [0] Z Z (C hf Z (fun h2 hf=>?_) fun h2 hf=>?_))))))))
 · cases hf; exact Wx 4 [1] Z Z (ZC [1] Z Z h)
 replace hf:=(JF _).trans hf; obtain ⟨x2,x3,h3,hf⟩:=bP hf; refine Wr 3 [0] Z Z (CL Z (Mj _ _ _ h3 ?_)); cases hf; exact Rx 4 [1] Z Z (ZC [1] Z Z h)
end
end Go.Proofs.YtcohpegjnpcgcaaGreatDoor
