/- Proved here: each function does what its functional text says (part 2). -/
import Derived.Test.YtcohpegjnpcgcaaGreatDoorTnWalk1
set_option linter.unusedVariables false
set_option linter.unusedSimpArgs false
set_option linter.unusedSectionVars false
namespace Go.Proofs.YtcohpegjnpcgcaaGreatDoor
open Go Go.Abs Go.Ft
set_option maxRecDepth 20000
attribute [local irreducible] AO AR AW AC
variable [iq]
variable {τ : List aV} {Q : cO → List aV → Prop}
section
variable [xJ]
@[reducible] def wz :eP aH ah→cO
 | .ok r=>.ret (.agg (aL r))
 | .bad e=>.panic (.iface 181 (.agg [iP e.code]))
@[reducible] def wB :eP aH ah→cO
 | .ok r=>.ret (.agg (aL r))
 | .bad e=>.panic (.iface 181 (.agg [iP e.code]))
@[reducible] def xP :eP aH (List ah)→cO
 | .ok r=>.ret (.list (ah.aK r))
 | .bad e=>.panic (.iface 181 (.agg [iP e.code]))
@[reducible] def uJ :eP aH ah→cO
 | .ok r=>.ret (.agg (aL r))
 | .bad e=>.panic (.iface 181 (.agg [iP e.code]))
@[reducible] def sj :eP aH ah→cO
 | .ok r=>.ret (.agg (aL r))
 | .bad e=>.panic (.iface 181 (.agg [iP e.code]))
abbrev mO (bF:List aB→aj→Option (eP aH ah)):Prop:=∀ (qx:List aB) (jN:aj) {eG:eP aH ah},bF qx jN=some eG→∀ {τ:List aV} {Q:cO→List aV→Prop} (h:Q (wz eG) τ),PC 150 [.list (List.map aB.cells qx),.agg (bE jN)] τ Q
abbrev mP (dn:List aB→aj→Option (eP aH ah)):Prop:=∀ (qx:List aB) (jN:aj) {eG:eP aH ah},dn qx jN=some eG→∀ {τ:List aV} {Q:cO→List aV→Prop} (h:Q (wB eG) τ),PC 175 [.list (List.map aB.cells qx),.agg (bE jN)] τ Q
abbrev nJ (cZ:List aB→List aj→Option (eP aH (List ah))):Prop:=∀ (qx:List aB) (Vr:List aj) {eG:eP aH (List ah)},cZ qx Vr=some eG→∀ {τ:List aV} {Q:cO→List aV→Prop} (h:Q (xP eG) τ),PC 180 [.list (List.map aB.cells qx),.list (aj.aK Vr)] τ Q
abbrev lJ (bY:List aB→aj→Option (eP aH ah)):Prop:=∀ (qx:List aB) (jN:aj) {eG:eP aH ah},bY qx jN=some eG→∀ {τ:List aV} {Q:cO→List aV→Prop} (h:Q (uJ eG) τ),PC 177 [.list (List.map aB.cells qx),.agg (bE jN)] τ Q
abbrev kS (bV:List aB→aj→Option (eP aH ah)):Prop:=∀ (qx:List aB) (jN:aj) {eG:eP aH ah},bV qx jN=some eG→∀ {τ:List aV} {Q:cO→List aV→Prop} (h:Q (sj eG) τ),PC 182 [.list (List.map aB.cells qx),.agg (bE jN)] τ Q
theorem Jt (bF) (bS:mO bF) (dn) (lI:mP dn) (cZ) (iL:nJ cZ) (bY) (kg:lJ bY) (bV) (jW:kS bV) (s1:List aB) (e1:aj) {rX:eP aH ah} (hf:wZ bF dn cZ bY bV s1 e1=some rX) (h:Q (wz rX) τ):PC 150 [.list (List.map aB.cells s1),.agg (bE e1)] τ Q:=by
 unfold wZ at hf; refine BN 104 [.cell 4 42] [0,1] Tryz.func150 Z Z Z Z Z (W 1 Z (AS Z (AO.aC Z gK (fun b4=>(J 4 Z (C hf Z (fun h1 hf=>?_) fun h1 hf=>?_))))))
 · cases hf; exact Wx 3 [0] Z Z (ZC [0] Z Z h)
 refine V 2 Z (C hf Z (fun h2 hf=>?_) fun h2 hf=>?_)
 ·
  rcases bL hf with ⟨e2,h3,hf⟩ | ⟨x1,h3,hf⟩
  · refine W 3 Z (CL Z (BS _ _ h3 ?_)); cases hf; exact ⟨Z,[],List.nil_sublist _,h⟩
  refine W 3 Z (CL Z (BS _ _ h3 ?_)); cases hf; exact Rx 1 [0] Z Z (ZC [0] Z Z h)
 refine V 2 Z (C hf Z (fun h4 hf=>?_) fun h4 hf=>?_)
 ·
  refine B1 hf fun e3 h5 hf=>?_; rcases bL hf with ⟨e4,h6,hf⟩ | ⟨x2,h6,hf⟩
  ·
   refine V 0 Z (AW.Ut 5 8 mixed (by kernel_rfl) Z Z Z ?_); refine Ev.cs bJ 3 Z (Ev.cons Z Z Z (AO.aZ h5 Z Z (aj.aA _) Z iQ (aj.aF _) Z zg) (Ev.cs bJ 1 Z (Ev.nil ?_))); refine ⟨_,_,Z,Z,Z,Z,AO.call Z _ Z Z Fz (bS _ _ h6 ?_),?_⟩
   · cases hf; exact ⟨Z,[],List.nil_sublist _,h⟩
   refine Ev.cs bJ 2 Z (Ev.nil ?_); trivial
  refine V 0 Z (AW.draw 9 mixed (by kernel_rfl) Z ?_); refine Ev.cs bJ 3 Z (Ev.cons Z Z Z (AO.aZ h5 Z Z (aj.aA _) Z iQ (aj.aF _) Z zg) (Ev.cs bJ 1 Z (Ev.cons Z Z Z (AO.call Z _ Z Z Fz (bS _ _ h6 zg)) ?_))); refine Ev.cs bJ 2 Z ?_; refine B1 hf fun x3 h7 hf=>Ev.cons Z Z Z (AO.call Z _ Z Z Wu (tO _ h7 zg)) (Ev.nil ?_); show AR _ _ _ _ _ _ _ _; rcases bL hf with ⟨e5,h8,hf⟩ | ⟨x4,h8,hf⟩
  · refine CL Z (Aa _ _ h8 ?_); cases hf; exact ⟨Z,[],List.nil_sublist _,h⟩
  refine CL Z (Aa _ _ h8 ?_); cases hf; exact Rx 1 [0] Z Z (ZC [0] Z Z h)
 refine V 2 Z (C hf Z (fun h9 hf=>?_) fun h9 hf=>?_)
 ·
  refine B1 hf fun e6 h10 hf=>W 3 Z (AS Z (AO.aZ h10 Z Z (aj.aA _) Z iQ (aj.aF _) Z ?_)); rcases bL hf with ⟨e7,h11,hf⟩ | ⟨x5,h11,hf⟩
  · refine U 1 Z (CL Z (bS _ _ h11 ?_)); cases hf; exact ⟨Z,[],List.nil_sublist _,h⟩
  refine U 1 Z (CL Z (bS _ _ h11 (AS Z (AO.aC Z gK (fun b5=>?_))))); refine B1 hf fun e8 h12 hf=>?_; rcases bL hf with ⟨e9,l6,hf⟩ | ⟨x6,l6,hf⟩
  ·
   refine Rw 1 [0] Z Z (AW.Ut 6 7 mixed (by kernel_rfl) Z Z Z ?_); refine Ev.cons Z Z Z (AO.aR (i:=0) Z Z Z kY Z Z zg) (Ev.cs bJ 3 Z (Ev.cons Z Z Z (AO.aZ h12 Z Z (aj.aA _) Z iQ (aj.aF _) Z zg) (Ev.cs bJ 1 Z ?_))); refine Ev.nil (⟨_,_,Z,Z,Z,Z,AO.call Z _ Z Z Fz (bS _ _ l6 ?_),?_⟩)
   · cases hf; exact ⟨Z,[],List.nil_sublist _,h⟩
   refine Ev.nil ?_; trivial
  refine Rw 1 [0] Z Z (AW.draw 7 mixed (by kernel_rfl) Z ?_); refine Ev.cons Z Z Z (AO.aR (i:=0) Z Z Z kY Z Z zg) (Ev.cs bJ 3 Z (Ev.cons Z Z Z (AO.aZ h12 Z Z (aj.aA _) Z iQ (aj.aF _) Z zg) (Ev.cs bJ 1 Z ?_))); refine Ev.cons Z Z Z (AO.call Z _ Z Z Fz (bS _ _ l6 zg)) (Ev.nil ?_); show AR _ _ _ _ _ _ _ _; rcases bL hf with ⟨e10,lH,hf⟩ | ⟨x7,lH,hf⟩
  · refine CL Z (Gm _ _ lH ?_); cases hf; exact ⟨Z,[],List.nil_sublist _,h⟩
  refine CL Z (Gm _ _ lH ?_); cases hf; exact Rx 1 [1] Z Z (ZC [1] Z Z h)
 refine V 2 Z (C hf Z (fun rO hf=>?_) fun rO hf=>?_)
 ·
  rcases bL hf with ⟨e11,h16,hf⟩ | ⟨x8,h16,hf⟩
  · refine W 2 Z (CL Z (lI _ _ h16 ?_)); cases hf; exact ⟨Z,[],List.nil_sublist _,h⟩
  refine W 2 Z (CL Z (lI _ _ h16 ?_)); cases hf; exact Rx 1 [0] Z Z (ZC [0] Z Z h)
 refine V 2 Z (C hf Z (fun xM hf=>?_) fun xM hf=>?_)
 ·
  refine B1 hf fun e12 h18 hf=>?_; rcases bL hf with ⟨e13,h19,hf⟩ | ⟨x9,h19,hf⟩
  ·
   refine V 0 Z (AW.Ut 7 8 mixed (by kernel_rfl) Z Z Z ?_); refine Ev.cs bJ 5 Z (Ev.cons Z Z Z (AO.aZ h18 Z Z (aj.aA _) Z iQ (aj.aF _) Z zg) (Ev.cs bJ 1 Z (Ev.nil ?_))); refine ⟨_,_,Z,Z,Z,Z,AO.call Z _ Z Z Fz (bS _ _ h19 ?_),?_⟩
   · cases hf; exact ⟨Z,[],List.nil_sublist _,h⟩
   refine Ev.nil ?_; trivial
  refine V 0 Z (AW.draw 8 mixed (by kernel_rfl) Z ?_); refine Ev.cs bJ 5 Z (Ev.cons Z Z Z (AO.aZ h18 Z Z (aj.aA _) Z iQ (aj.aF _) Z zg) (Ev.cs bJ 1 Z (Ev.cons Z Z Z (AO.call Z _ Z Z Fz (bS _ _ h19 zg)) ?_))); refine Ev.nil ?_; show AR _ _ _ _ _ _ _ _; rcases bL hf with ⟨e14,h20,hf⟩ | ⟨Kn,h20,hf⟩
  · refine CL Z (Kh _ _ h20 ?_); cases hf; exact ⟨Z,[],List.nil_sublist _,h⟩
  refine CL Z (Kh _ _ h20 ?_); cases hf; exact Rx 1 [0] Z Z (ZC [0] Z Z h)
 refine V 2 Z (C hf Z (fun h21 hf=>?_) fun h21 hf=>?_)
 ·
  rcases bL hf with ⟨e15,h22,hf⟩ | ⟨Lb,h22,hf⟩
  · refine W 2 Z (CL Z (kg _ _ h22 ?_)); cases hf; exact ⟨Z,[],List.nil_sublist _,h⟩
  refine W 2 Z (CL Z (kg _ _ h22 ?_)); cases hf; exact Rx 1 [0] Z Z (ZC [0] Z Z h)
 refine V 2 Z (C hf Z (fun h23 hf=>?_) fun h23 hf=>?_)
 ·
  refine B1 hf fun e16 MG hf=>W 3 Z (AS Z (AO.aZ MG Z Z (aj.aA _) Z iQ (aj.aF _) Z ?_)); rcases bL hf with ⟨e17,KL,hf⟩ | ⟨Rl,KL,hf⟩
  · refine U 1 Z (CL Z (bS _ _ KL ?_)); cases hf; exact ⟨Z,[],List.nil_sublist _,h⟩
  refine U 1 Z (CL Z (bS _ _ KL ?_)); rcases bL hf with ⟨e18,PX,hf⟩ | ⟨UD,PX,hf⟩
  · refine CL Z (oV _ PX ?_); cases hf; exact ⟨Z,[],List.nil_sublist _,h⟩
  refine CL Z (oV _ PX (J 0 Z (C hf Z (fun h27 hf=>?_) fun h27 hf=>?_)))
  ·
   refine B1 hf fun e19 KJ hf=>W 3 Z (AS Z (AO.aZ KJ Z Z (aj.aA _) Z iQ (aj.aF _) Z ?_)); rcases bL hf with ⟨e20,Ko,hf⟩ | ⟨Vp,Ko,hf⟩
   · refine U 1 Z (CL Z (bS _ _ Ko ?_)); cases hf; exact ⟨Z,[],List.nil_sublist _,h⟩
   refine U 1 Z (CL Z (bS _ _ Ko ?_)); cases hf; exact Rx 1 [0] Z Z (ZC [0] Z Z h)
  refine B1 hf fun e21 Vv hf=>W 3 Z (AS Z (AO.aZ Vv Z Z (aj.aA _) Z iQ (aj.aF _) Z ?_)); rcases bL hf with ⟨e22,h31,hf⟩ | ⟨X4,h31,hf⟩
  · refine U 1 Z (CL Z (bS _ _ h31 ?_)); cases hf; exact ⟨Z,[],List.nil_sublist _,h⟩
  refine U 1 Z (CL Z (bS _ _ h31 ?_)); cases hf; exact Rx 1 [0] Z Z (ZC [0] Z Z h)
 refine V 2 Z (C hf Z (fun h32 hf=>?_) fun h32 hf=>?_)
 ·
  rcases bL hf with ⟨e23,Uq,hf⟩ | ⟨UC,Uq,hf⟩
  · refine W 3 Z (CL Z (iL _ _ Uq ?_)); cases hf; exact ⟨Z,[],List.nil_sublist _,h⟩
  refine W 3 Z (CL Z (iL _ _ Uq ?_)); refine B1 hf fun Vo Y7 hf=>CL Z (Ki _ Y7 (AS Z (AO.aC Z gK (fun b6=>?_)))); refine B1 hf fun X3 Y6 hf=>Rr 2 [0,0] Z Z (CL Z (nD _ Y6 ?_)); rcases bL hf with ⟨e24,XT,hf⟩ | ⟨_,XT,hf⟩
  · refine U 1 Z (CL Z (bK _ _ XT ?_)); cases hf; exact ⟨Z,[],List.nil_sublist _,h⟩
  refine U 1 Z (CL Z (bK _ _ XT ?_)); cases hf; exact Rx 2 [0,1] Z Z (ZC [1] Z Z h)
 rcases bL hf with ⟨e25,h37,hf⟩ | ⟨YG,h37,hf⟩
 · refine W 2 Z (CL Z (jW _ _ h37 ?_)); cases hf; exact ⟨Z,[],List.nil_sublist _,h⟩
 refine W 2 Z (CL Z (jW _ _ h37 ?_)); cases hf; exact Rx 1 [0] Z Z (ZC [0] Z Z h)
theorem Ju (bF) (bS:mO bF) (dn) (lI:mP dn) (cZ) (iL:nJ cZ) (bY) (kg:lJ bY) (bV) (jW:kS bV) (s1:List aB) (e1:aj) {rX:eP aH ah} (hf:w9 bF dn cZ bY bV s1 e1=some rX) (h:Q (wB rX) τ):PC 175 [.list (List.map aB.cells s1),.agg (bE e1)] τ Q:=by
 unfold w9 at hf; refine BN 40 [.cell 4 42] [0,1] Tryz.func175 Z Z Z Z Z (W 1 Z (AS Z (AO.aC Z gK (fun b4=>?_)))); refine B1 hf fun n1 h1 hf=>U 2 Z (CL Z (Q8 _ h1 ?_)); rcases bL hf with ⟨e2,h2,hf⟩ | ⟨_,h2,hf⟩
 · refine U 3 Z (CL Z (bK _ _ h2 ?_)); cases hf; exact ⟨Z,[],List.nil_sublist _,h⟩
 refine U 3 Z (CL Z (bK _ _ h2 (U 2 Z (AS Z (AO.aT (l:=e1.args) Z Z Z Z iQ Z (aj.aA _) ?_))))); rcases bL hf with ⟨e3,h3,hf⟩ | ⟨_,h3,hf⟩
 · refine U 2 Z (CL Z (bK _ _ h3 ?_)); cases hf; exact ⟨Z,[],List.nil_sublist _,h⟩
 refine U 2 Z (CL Z (bK _ _ h3 ?_)); rcases bL hf with ⟨e4,h4,hf⟩ | ⟨args1,h4,hf⟩
 · refine U 3 Z (CL Z (iL _ _ h4 ?_)); cases hf; exact ⟨Z,[],List.nil_sublist _,h⟩
 refine U 3 Z (CL Z (iL _ _ h4 (J 3 Z (C hf Z (fun h5 hf=>?_) fun h5 hf=>?_))))
 ·
  refine V 0 Z (AW.draw 5 mixed (by kernel_rfl) Z ?_); refine Ev.cs bJ 3 Z ?_; refine B1 hf fun e5 h6 hf=>Ev.cons Z Z Z (AO.aZ h6 Z Z (ah.aA _) Z iR (ah.aF _) Z zg) (Ev.cs bJ 1 Z (Ev.nil ?_)); show AR _ _ _ _ _ _ _ _; rcases bL hf with ⟨e6,h7,hf⟩ | ⟨x1,h7,hf⟩
  · refine CL Z (Oy _ _ h7 ?_); cases hf; exact ⟨Z,[],List.nil_sublist _,h⟩
  refine CL Z (Oy _ _ h7 ?_); cases hf; exact Rx 1 [0] Z Z (ZC [0] Z Z h)
 refine V 0 Z (AW.draw 8 mixed (by kernel_rfl) Z ?_); refine Ev.cs bJ 3 Z ?_; refine B1 hf fun e7 h8 hf=>Ev.cons Z Z Z (AO.aZ h8 Z Z (ah.aA _) Z iR (ah.aF _) Z zg) (Ev.cs bJ 2 Z ?_); refine B1 hf fun e8 h9 hf=>Ev.cons Z Z Z (AO.aZ h9 Z Z (ah.aA _) Z iR (ah.aF _) Z zg) (Ev.cs bJ 1 Z (Ev.nil ?_)); show AR _ _ _ _ _ _ _ _; rcases bL hf with ⟨e9,h10,hf⟩ | ⟨x2,h10,hf⟩
 · refine CL Z (Ow _ _ _ h10 ?_); cases hf; exact ⟨Z,[],List.nil_sublist _,h⟩
 refine CL Z (Ow _ _ _ h10 ?_); cases hf; exact Rx 1 [0] Z Z (ZC [0] Z Z h)
theorem Kt (bF) (bS:mO bF) (dn) (lI:mP dn) (cZ) (iL:nJ cZ) (bY) (kg:lJ bY) (bV) (jW:kS bV) (s1:List aB) (l1:List aj) {rX:eP aH (List ah)} (hf:yc bF dn cZ bY bV s1 l1=some rX) (h:Q (xP rX) τ):PC 180 [.list (List.map aB.cells s1),.list (aj.aK l1)] τ Q:=by
 unfold yc at hf; refine BN 22 [.tmp 4] [0,1] Tryz.func180 Z Z Z Z Z (W 0 Z (AS Z (AO.d9 Z Z (U 2 Z (AS Z (AO.aT (l:=l1) Z Z Z Z iQ Z (aj.aA _) (J 1 Z (AW.row 6 42 (Rj (fun aY v1 x1=>[(0,.list (List.map aB.cells s1)),(5,.own v1 (ah.aK aY)),(8,.list (aj.aK l1)),(9,iP (l1.length:Int)),(10,iP x1)]) (fun aY v1 x1=>[.row v1 (ah.aK aY).length 6 42]) (fun b_ aY v1 x1=>rR bF s1 l1 b_ aY x1=some rX) BIG [] (.slice none 0 0) 0 Z Z hf (fun _ _ _ hz=>bU hz) ?_))))))))); intro b_ aY v1 x1 hf; rw [rR] at hf; refine V 1 Z (C hf Z (fun h1 hf=>?_) fun h1 hf=>?_)
 ·
  refine B1 hf fun e1 h2 hf=>W 0 Z (AS Z (AO.aZ h2 Z Z (aj.aA _) Z iQ (aj.aF _) Z (U 1 Z (AS Z (AO.aC Z iO (fun b7=>?_)))))); rcases bL hf with ⟨e2,h3,hf⟩ | ⟨x2,h3,hf⟩
  · refine Rr 4 [0,0] Z Z (CL Z (bS _ _ h3 ?_)); cases hf; exact ⟨Z,[],List.nil_sublist _,h⟩
  refine Rr 4 [0,0] rfl rfl (CL rfl (bS _ _ h3 (AS rfl (AO.bD (ah.aK [x2]) rfl vW rfl rfl rfl (by first | rfl | simp only [List.map,ah.aF,ah.aK]) ?_)))); refine B1 hf fun j6 h4 hf=>AS Z (AO.eB (i:=1) (l:=aY) (m:=[x2]) h4 Z Z Z Z Z Z Z vW iR (ah.aA _) (ah.aA _) (ah.aA _).symm (ah.bB) (ah.cells_one) (by decide) (fun v2 s2 hs2=>?_)); cases hs2; refine fZ 3 Z (AR.drop1 ?_); exact N 0 Z ⟨j6,v2,(dG (x1 + 1)),Z,Z,Z,hf⟩
 cases hf; exact M 2 Z (Y Z h)
theorem G_ (bF) (bS:mO bF) (dn) (lI:mP dn) (cZ) (iL:nJ cZ) (bY) (kg:lJ bY) (bV) (jW:kS bV) (s1:List aB) (e1:aj) {rX:eP aH ah} (hf:uM bF dn cZ bY bV s1 e1=some rX) (h:Q (uJ rX) τ):PC 177 [.list (List.map aB.cells s1),.agg (bE e1)] τ Q:=by
 unfold uM at hf; refine BN 95 [.cell 4 42] [0,1] Tryz.func177 Z Z Z Z Z (W 1 Z (AS Z (AO.aC Z gK (fun b4=>?_)))); refine B1 hf fun e2 h1 hf=>U 3 Z (AS Z (AO.aZ h1 Z Z (aj.aA _) Z iQ (aj.aF _) Z ?_)); rcases bL hf with ⟨e3,h2,hf⟩ | ⟨x1,h2,hf⟩
 · refine U 1 Z (CL Z (bS _ _ h2 ?_)); cases hf; exact ⟨Z,[],List.nil_sublist _,h⟩
 refine U 1 Z (CL Z (bS _ _ h2 (AS Z (AO.aC Z gK (fun b5=>(Rr 5 [0] Z Z (On 4 16 20 [0,3,4,5] (e1.name == ([124,124]:Str)) Z Z Z Z (J 0 Z (C hf Z (fun h4 hf=>?_) fun h4 hf=>?_)))))))))
 ·
  rcases bL hf with ⟨e4,h5,hf⟩ | ⟨x2,h5,hf⟩
  ·
   refine V 0 Z (AW.Ut 1 5 mixed (by kernel_rfl) Z Z Z ?_); refine Ev.cons Z Z Z (AO.aR (i:=0) Z Z Z kY Z Z zg) (Ev.nil (⟨_,_,Z,Z,Z,Z,AO.call Z _ Z Z Wt (oV _ h5 ?_),?_⟩))
   · cases hf; exact ⟨Z,[],List.nil_sublist _,h⟩
   refine Ev.cs bJ 3 Z (Ev.nil ?_); trivial
  refine V 0 Z (AW.draw 6 mixed (by kernel_rfl) Z ?_); refine Ev.cons Z Z Z (AO.aR (i:=0) Z Z Z kY Z Z zg) (Ev.cons Z Z Z (AO.call Z _ Z Z Wt (oV _ h5 zg)) (Ev.cs bJ 3 Z (Ev.cons Z Z Z (AO.Xn Z abn Z Z zg) ?_))); refine Ev.nil ?_; show AR _ _ _ _ _ _ _ _; refine J 0 Z (C hf Z (fun h6 hf=>?_) fun h6 hf=>?_)
  · cases hf; exact Wx 2 [0,1] Z Z (ZC [1] Z Z h)
  refine B1 hf fun e5 h7 hf=>W 3 Z (AS Z (AO.aZ h7 Z Z (aj.aA _) Z iQ (aj.aF _) Z ?_)); rcases bL hf with ⟨e6,h8,hf⟩ | ⟨x3,h8,hf⟩
  · refine U 1 Z (CL Z (bS _ _ h8 ?_)); cases hf; exact ⟨Z,[],List.nil_sublist _,h⟩
  refine U 1 Z (CL Z (bS _ _ h8 ?_)); rcases bL hf with ⟨e7,h9,hf⟩ | ⟨x4,h9,hf⟩
  · refine CL Z (oV _ h9 ?_); cases hf; exact ⟨Z,[],List.nil_sublist _,h⟩
  refine CL Z (oV _ h9 ?_); refine B1 hf fun x5 h10 hf=>CL Z (jL _ h10 ?_); cases hf; exact Rx 1 [1] Z Z (ZC [1] Z Z h)
 refine B1 hf fun e8 h11 hf=>W 3 Z (AS Z (AO.aZ h11 Z Z (aj.aA _) Z iQ (aj.aF _) Z ?_)); rcases bL hf with ⟨e9,h12,hf⟩ | ⟨x6,h12,hf⟩
 · refine U 1 Z (CL Z (bS _ _ h12 ?_)); cases hf; exact ⟨Z,[],List.nil_sublist _,h⟩
 refine U 1 Z (CL Z (bS _ _ h12 (AS Z (AO.aC Z gK (fun b6=>(Rw 5 [0] Z Z (C hf Z (fun l6 hf=>?_) fun l6 hf=>?_)))))))
 · refine B1 hf fun x7 lH hf=>Wr 2 [1,0] Z Z (CL Z (CJ _ _ lH ?_)); refine B1 hf fun x8 rO hf=>CL Z (jL _ rO ?_); cases hf; exact Rx 1 [2] Z Z (ZC [2] Z Z h)
 refine V 2 Z (C hf Z (fun h16 hf=>?_) fun h16 hf=>?_)
 · refine B1 hf fun x9 xM hf=>Wr 2 [1,0] Z Z (CL Z (CJ _ _ xM ?_)); refine B1 hf fun Kn h18 hf=>U 1 Z (CL Z (jL _ h18 ?_)); cases hf; exact Rx 1 [2] Z Z (ZC [2] Z Z h)
 refine V 2 Z (C hf Z (fun h19 hf=>?_) fun h19 hf=>?_)
 ·
  rcases bL hf with ⟨e10,h20,hf⟩ | ⟨Lb,h20,hf⟩
  · refine Wr 2 [1,0] Z Z (CL Z (oW _ _ h20 ?_)); cases hf; exact ⟨Z,[],List.nil_sublist _,h⟩
  refine Wr 2 [1,0] Z Z (CL Z (oW _ _ h20 ?_)); refine B1 hf fun Rl h21 hf=>U 1 Z (CL Z (jL _ h21 ?_)); cases hf; exact Rx 1 [2] Z Z (ZC [2] Z Z h)
 refine V 2 Z (C hf Z (fun h22 hf=>?_) fun h22 hf=>?_)
 ·
  rcases bL hf with ⟨e11,h23,hf⟩ | ⟨UD,h23,hf⟩
  · refine Wr 2 [1,0] Z Z (CL Z (oW _ _ h23 ?_)); cases hf; exact ⟨Z,[],List.nil_sublist _,h⟩
  refine Wr 2 [1,0] Z Z (CL Z (oW _ _ h23 ?_)); refine B1 hf fun Vp MG hf=>U 1 Z (CL Z (jL _ MG ?_)); cases hf; exact Rx 1 [2] Z Z (ZC [2] Z Z h)
 refine V 2 Z (C hf Z (fun KL hf=>?_) fun KL hf=>?_)
 ·
  rcases bL hf with ⟨e12,PX,hf⟩ | ⟨X4,PX,hf⟩
  · refine Wr 2 [1,0] Z Z (CL Z (oW _ _ PX ?_)); cases hf; exact ⟨Z,[],List.nil_sublist _,h⟩
  refine Wr 2 [1,0] Z Z (CL Z (oW _ _ PX ?_)); refine B1 hf fun UC h27 hf=>U 1 Z (CL Z (jL _ h27 ?_)); cases hf; exact Rx 1 [2] Z Z (ZC [2] Z Z h)
 refine V 2 Z (C hf Z (fun KJ hf=>?_) fun KJ hf=>?_)
 ·
  rcases bL hf with ⟨e13,Ko,hf⟩ | ⟨Vo,Ko,hf⟩
  · refine Wr 2 [1,0] Z Z (CL Z (oW _ _ Ko ?_)); cases hf; exact ⟨Z,[],List.nil_sublist _,h⟩
  refine Wr 2 [1,0] Z Z (CL Z (oW _ _ Ko ?_)); refine B1 hf fun X3 Vv hf=>U 1 Z (CL Z (jL _ Vv ?_)); cases hf; exact Rx 1 [2] Z Z (ZC [2] Z Z h)
 refine V 2 Z (C hf Z (fun h31 hf=>?_) fun h31 hf=>?_)
 ·
  rcases bL hf with ⟨e14,h32,hf⟩ | ⟨YG,h32,hf⟩
  · refine Wr 2 [1,0] Z Z (CL Z (Ox _ _ h32 ?_)); cases hf; exact ⟨Z,[],List.nil_sublist _,h⟩
  refine Wr 2 [1,0] Z Z (CL Z (Ox _ _ h32 ?_)); cases hf; exact Rx 1 [2] Z Z (ZC [2] Z Z h)
 rcases bL hf with ⟨e15,Uq,hf⟩ | ⟨x20,Uq,hf⟩
 · refine Wr 4 [1,0] Z Z (CL Z (BZ _ _ _ Uq ?_)); cases hf; exact ⟨Z,[],List.nil_sublist _,h⟩
 refine Wr 4 [1,0] Z Z (CL Z (BZ _ _ _ Uq ?_)); cases hf; exact Rx 1 [2] Z Z (ZC [2] Z Z h)
theorem Fb (bF) (bS:mO bF) (dn) (lI:mP dn) (cZ) (iL:nJ cZ) (bY) (kg:lJ bY) (bV) (jW:kS bV) (s1:List aB) (e1:aj) {rX:eP aH ah} (hf:tu bF dn cZ bY bV s1 e1=some rX) (h:Q (sj rX) τ):PC 182 [.list (List.map aB.cells s1),.agg (bE e1)] τ Q:=by
 unfold tu at hf; refine BN 41 [.cell 4 42] [0,1] Tryz.func182 Z Z Z Z Z (W 1 Z (AS Z (AO.aC Z gK (fun b4=>?_)))); rcases bL hf with ⟨e2,h1,hf⟩ | ⟨x1,h1,hf⟩
 · refine U 4 Z (CL Z (iL _ _ h1 ?_)); cases hf; exact ⟨Z,[],List.nil_sublist _,h⟩
 refine U 4 Z (CL Z (iL _ _ h1 (AS Z (AO.aT (l:=x1) Z Z Z Z iR Z (ah.aA _) ?_)))); refine J 1 Z (AW.row 7 54 (Rj (fun dH v1 i1=>[(3,.ref (bE e1)),(4,pP b4),(5,.own v1 (List.map aB.cells dH)),(13,.list (ah.aK x1)),(14,iP (x1.length:Int)),(15,iP i1)]) (fun dH v1 i1=>[.row v1 (List.map aB.cells dH).length 7 54,.box b4 [iP 0,.bool false,iP 0,.str ([]:Str),.own (.slice none 0 0) [],.own (.slice none 0 0) []]]) (fun b_ dH v1 i1=>nW e1 x1 b_ dH i1=some rX) BIG [] (.slice none 0 0) 0 Z Z hf (fun _ _ _ hz=>bU hz) ?_)); intro b_ dH v1 i1 hf; rw [nW] at hf; refine V 1 Z (C hf Z (fun h2 hf=>?_) fun h2 hf=>?_)
 ·
  refine B1 hf fun e3 h3 hf=>W 1 Z (AS Z (AO.aZ h3 Z Z (ah.aA _) Z iR (ah.aF _) Z (U 1 Z (AS Z (AO.aC Z gK (fun b7=>(Rw 2 [0] Z Z (AW.draw 9 mixed (by kernel_rfl) Z ?_)))))))); refine Ev.cs bJ 4 Z ?_; refine B1 hf fun e4 h4 hf=>Ev.cons Z Z Z (AO.aZ h4 Z Z Z Z jZ Z Z zg) (Ev.cs bJ 1 Z (Ev.cons Z Z Z (AO.aR (i:=0) Z Z Z kY Z Z zg) (Ev.cons Z Z Z (AO.build Z MI V3 Z zg) ?_))); refine Ev.cons rfl rfl rfl (AO.bD (List.map aB.cells [(aB.mk e4 e3)]) rfl CW rfl rfl rfl (by first | rfl | simp only [List.map,aB.aF]) ⟨rfl,rfl⟩) ?_; refine Ev.nil ?_; show AR _ _ _ _ _ _ _ _
  refine B1 hf fun VE h5 hf=>AS Z (AO.eB (i:=1) (l:=dH) (m:=[(aB.mk e4 e3)]) h5 Z Z Z Z Z Z Z CW tF Z Z Z (aB.bB) (aB.cells_one) (by decide) (fun v2 s2 hs2=>?_)); cases hs2; refine fZ 3 Z (AR.drop1 ?_); exact N 0 Z ⟨VE,v2,(dG (i1 + 1)),Z,Z,Z,hf⟩
 obtain ⟨x2,tK,h6,hf⟩:=bM hf; refine W 1 Z (CL Z (Sk _ h6 (U 3 Z (AS Z (AO.aC Z gK (fun b8=>?_)))))); rcases bL hf with ⟨e5,h7,hf⟩ | ⟨_,h7,hf⟩
 · refine Rr 5 [0] Z Z (CL Z (bK _ _ h7 ?_)); cases hf; exact ⟨Z,[],List.nil_sublist _,h⟩
 refine Rr 5 [0] Z Z (CL Z (bK _ _ h7 ?_)); cases hf; exact Rx 2 [0,2] Z Z (ZC [2] Z Z h)
theorem oJ :∀ k:Nat,(mO (gu k))∧(mP (gy k))∧(nJ (gQ k))∧(lJ (fG k))∧(kS (fB k)):=by
 intro k
 induction k with
 | zero=>exact ⟨fun _ _ _ hz=>by first | cases hz | (unfold gu at hz; cases hz),fun _ _ _ hz=>by first | cases hz | (unfold gy at hz; cases hz),fun _ _ _ hz=>by first | cases hz | (unfold gQ at hz; cases hz),fun _ _ _ hz=>by first | cases hz | (unfold fG at hz; cases hz),fun _ _ _ hz=>by first | cases hz | (unfold fB at hz; cases hz)⟩
 | succ k ih=>exact ⟨fun qx jN eG hz τ Q hq=>Jt (gu k) ih.1 (gy k) ih.2.1 (gQ k) ih.2.2.1 (fG k) ih.2.2.2.1 (fB k) ih.2.2.2.2 qx jN hz hq,fun qx jN eG hz τ Q hq=>Ju (gu k) ih.1 (gy k) ih.2.1 (gQ k) ih.2.2.1 (fG k) ih.2.2.2.1 (fB k) ih.2.2.2.2 qx jN hz hq,fun qx Vr eG hz τ Q hq=>Kt (gu k) ih.1 (gy k) ih.2.1 (gQ k) ih.2.2.1 (fG k) ih.2.2.2.1 (fB k) ih.2.2.2.2 qx Vr hz hq,fun qx jN eG hz τ Q hq=>G_ (gu k) ih.1 (gy k) ih.2.1 (gQ k) ih.2.2.1 (fG k) ih.2.2.2.1 (fB k) ih.2.2.2.2 qx jN hz hq,fun qx jN eG hz τ Q hq=>Fb (gu k) ih.1 (gy k) ih.2.1 (gQ k) ih.2.2.1 (fG k) ih.2.2.2.1 (fB k) ih.2.2.2.2 qx jN hz hq⟩
theorem BU (qx:List aB) (jN:aj) {eG:eP aH ah} (hf:Ey qx jN=some eG) (h:Q (wz eG) τ):PC 150 [.list (List.map aB.cells qx),.agg (bE jN)] τ Q:=
 ((oJ BIG).1) qx jN hf h
theorem Ux (qx:List aB) (jN:aj) {eG:eP aH ah} (hf:Mi qx jN=some eG) (h:Q (wB eG) τ):PC 175 [.list (List.map aB.cells qx),.agg (bE jN)] τ Q:=
 ((oJ BIG).2.1) qx jN hf h
theorem Vi (qx:List aB) (Vr:List aj) {eG:eP aH (List ah)} (hf:NQ qx Vr=some eG) (h:Q (xP eG) τ):PC 180 [.list (List.map aB.cells qx),.list (aj.aK Vr)] τ Q:=
 ((oJ BIG).2.2.1) qx Vr hf h
theorem SC (qx:List aB) (jN:aj) {eG:eP aH ah} (hf:JZ qx jN=some eG) (h:Q (uJ eG) τ):PC 177 [.list (List.map aB.cells qx),.agg (bE jN)] τ Q:=
 ((oJ BIG).2.2.2.1) qx jN hf h
theorem Sq (qx:List aB) (jN:aj) {eG:eP aH ah} (hf:I8 qx jN=some eG) (h:Q (sj eG) τ):PC 182 [.list (List.map aB.cells qx),.agg (bE jN)] τ Q:=
 ((oJ BIG).2.2.2.2) qx jN hf h
end
section
variable [xJ]
theorem K6 (s1:List aB) (e1:aj) {r0:ah} {r1:Int} (hf:AU s1 e1=some (r0,r1)) (h:Q (.ret (.tuple [.agg (aL r0),iP r1])) τ):PC 119 [.list (List.map aB.cells s1),.agg (bE e1)] τ Q:=by
 unfold AU at hf; refine AC.none (AC.Lp 10 [.cell 4 42,.cell 5 25] [0,1] [0,1] Tryz.func119 Z Z Z Z Z Tryz.func149 Z Z Z Z Z Z Z ZO (AW.sr (AR.step Z Z Z (AO.Ab Z Z Z ?_)))); refine AR.step Z Z Z (AO.aC Z gK (fun b4=>(AR.step Z Z Z (AO.aC Z VA (fun b5=>(AR.nil [0,3,4,5] Z (AW.sr ?_))))))); refine cs 1 Z (AR.defer (vs:=[.pointer (some ⟨b4,0,none⟩),.pointer (some ⟨b5,0,none⟩)]) Z Z Z Z Z Z (AR.nil [0,3,4,5] Z (AW.sr ?_))); refine cs 2 Z ?_; rcases bL hf with ⟨f1,h1,hf⟩ | ⟨v1,h1,hf⟩
 ·
  refine AR.step Z Z Z (AO.call Z _ Z Z Fz (BU _ _ h1 ?_)); cases hf; refine ⟨[.pointer (some ⟨b4,0,none⟩),.pointer (some ⟨b5,0,none⟩)],_,Z,Z,Z,(AR.step Z Z Z (AO.T9 Z Z X_ (cs 3 Z (AR.step Z Z Z (AO.aC Z VD (fun b6=>?_))))))⟩; refine AR.bC Z Z (AO.bO (i:=0) Z Z Z VW Z Z Z Z Z (cs 1 Z (AR.nil [0,1,2,3] Z (AW.sr ?_)))); refine cs 1 Z (AR.nil [0,1,2,9] Z (AW.cond Z (fun _=>?_) (fun hh=>by cases hh))); refine AW.R9 1 3 4 [_] [_,_] mixed (by kernel_rfl) (by kernel_rfl) (by kernel_rfl) Z Z Z (List.Perm.refl _) ?_; refine Ev.cons Z Z Z (AO.build Z gK Qr Z zg) (Ev.nil ?_); show Ev _ _ _ _ _ _ _; refine Ev.cs bJ 1 Z (Ev.cons Z Z Z (AO.aR (i:=0) Z Z Z BF Z Z zg) (Ev.nil (TF.bC Z Z (AO.bO (i:=1) Z Z Z kY Z Z Z Z Z ?_)))); refine TF.nil ?_; show AR _ _ _ _ _ _ _ _; refine AR.bC Z Z (AO.bO (i:=1) Z Z Z BF Z Z Z Z Z (AR.nil [] Z ?_)); exact ⟨rfl,_,⟨_,_,rfl,⟨_,_,2,_,_,rfl,rfl,kY,rfl⟩,⟨_,_,rfl,⟨_,_,1,_,_,rfl,rfl,BF,rfl⟩,rfl⟩⟩,[],List.nil_sublist _,h⟩
 refine AR.step Z Z Z (AO.call Z _ Z Z Fz (BU _ _ h1 ?_)); cases hf; refine AR.bC Z Z (AO.bO (i:=1) Z Z Z kY Z Z Z Z Z (AR.bC Z Z (AO.bO (i:=0) Z Z Z BF Z Z Z Z Z (AR.nil [4,5] Z (AW.ret ?_))))); refine ⟨[.pointer (some ⟨b4,0,none⟩),.pointer (some ⟨b5,0,none⟩)],_,Z,Z,Z,(AR.step Z Z Z (AO.Rz (p:=.agg [iP 0]) Z Z Yb (fun _ _=>by simp only [dF]; exact ⟨[.int .i64 0],Z,bA.cons (by simp [dF]) bA.nil⟩) ?_))⟩; refine cs 3 Z (AR.step Z Z Z (AO.aC Z VD (fun b6=>(AR.bC Z Z (AO.bO (i:=0) Z Z Z VW Z Z Z Z Z (cs 1 Z ?_)))))); refine AR.nil [3] Z (AW.sr (cs 1 Z (AR.nil [9] Z ?_))); refine AW.cond Z (fun hh=>by cases hh) (fun _=>?_); refine AW.skip ?_; exact ⟨rfl,_,⟨_,_,rfl,⟨_,_,2,_,_,rfl,rfl,kY,rfl⟩,⟨_,_,rfl,⟨_,_,1,_,_,rfl,rfl,BF,rfl⟩,rfl⟩⟩,[],List.nil_sublist _,h⟩
end
abbrev Km (kX:ah→Option ah):Prop:=∀ (vg:ah) {bf:ah},kX vg=some bf→∀ {τ:List aV} {Q:cO→List aV→Prop} (h:Q (.ret (.agg (aL bf))) τ),PC 120 [.agg (aL vg)] τ Q
theorem Qm (kX) (NG:Km kX) (v1:ah) {r0:ah} (hf:D6 kX v1=some r0) (h:Q (.ret (.agg (aL r0))) τ):PC 120 [.agg (aL v1)] τ Q:=by
 unfold D6 at hf; refine BN 31 [.cell 2 42] [0] Tryz.func120 Z Z Z Z Z (W 1 Z (AS Z (AO.aC Z gK (fun b2=>(U 1 Z (AS Z (AO.aC Z gK (fun b3=>(Rr 7 [0,0,0] Z Z (AS Z (AO.aT (l:=v1.cu) Z Z Z Z iR Z (ah.aA _) ?_))))))))))); refine J 1 Z (AW.row 6 42 (AW.row 1 9 (LK4 (fun x1 aY v2 v3=>[(1,.ref (aL v1)),(2,pP b2),(3,pP b3),(10,.list (ah.aK v1.cu)),(11,iP (v1.cu.length:Int)),(12,iP x1)]) (fun x1 aY v2 v3=>[.row v3 (List.map l8 aY.keys).length 1 9,.row v2 (ah.aK aY.cu).length 6 42,.box b3 [iP aY.kind,.bool aY.je,iP aY.jm,.str aY.iK,.own v2 (ah.aK aY.cu),.own v3 (List.map l8 aY.keys)],.box b2 [iP 0,.bool false,iP 0,.str ([]:Str),.own (.slice none 0 0) [],.own (.slice none 0 0) []]]) (fun b_ x1 aY v2 v3=>yJ kX v1 b_ x1 aY=some r0) BIG 0 (ah.mk v1.kind v1.je v1.jm v1.iK [] []) (.slice none 0 0) (.slice none 0 0) Z Z hf (fun _ _ _ _ hz=>bU hz) ?_))); intro b_ x1 aY v2 v3 hf; rw [yJ] at hf; refine V 1 Z (C hf Z (fun h1 hf=>?_) fun h1 hf=>?_)
 ·
  refine B1 hf fun e1 h2 hf=>W 0 Z (AS Z (AO.aZ h2 Z Z (ah.aA _) Z iR (ah.aF _) Z (U 1 Z (AS Z (AO.aC Z gK (fun b5=>(Rw 1 [0] Z Z (AW.draw 5 mixed (by kernel_rfl) Z ?_)))))))); refine Ev.cs bJ 1 Z (Ev.cons Z Z Z (AO.aR (i:=3) Z Z Z Fq Z Z zg) (Ev.cons Z Z Z (AO.aR (i:=0) Z Z Z kY Z Z zg) ?_)); refine B1 hf fun x2 h3 hf=>Ev.cons rfl rfl rfl (AO.call rfl _ rfl rfl Z6 (NG _ h3 ⟨rfl,rfl⟩)) (Ev.cons rfl rfl rfl (AO.bD (ah.aK [x2]) rfl vW rfl rfl rfl (by first | rfl | simp only [List.map,ah.aF,ah.aK]) ⟨rfl,rfl⟩) ?_)
  refine Ev.nil ?_; show AR _ _ _ _ _ _ _ _; refine B1 hf fun x3 h4 hf=>AS Z (AO.eB (i:=2) (l:=aY.cu) (m:=[x2]) h4 Z Z Z Z Z Z Z vW iR (ah.aA _) (ah.aA _) (ah.aA _).symm (ah.bB) (ah.cells_one) (by decide) (fun v4 s1 hs1=>?_)); cases hs1; refine Rn 4 [3] Z Z (AR.drop1 ?_); exact N 0 Z ⟨(dG (x1 + 1)),(ah.mk aY.kind aY.je aY.jm aY.iK x3 aY.keys),v4,v3,Z,Z,Z,hf⟩
 refine B1 hf fun x4 h5 hf=>Wr 4 [2] Z Z (AS Z (AO.eB (i:=0) (l:=aY.keys) (m:=v1.keys) h5 Z Z Z Z Z Z Z qm jZ Z Z Z (fun _=>Z) (fun _=>Z) (by decide) (fun v5 s2 hs2=>?_))); cases hs2; cases hf; exact Rx 4 [2,2,3] Z Z (ZC [3] Z Z h)
theorem QF :∀ k:Nat,(Km (xg k)):=by
 intro k
 induction k with
 | zero=>exact fun _ _ hz=>by first | cases hz | (unfold xg at hz; cases hz)
 | succ k ih=>exact fun vg bf hz τ Q hq=>Qm (xg k) ih vg hz hq
theorem Q9 (vg:ah) {bf:ah} (hf:NS vg=some bf) (h:Q (.ret (.agg (aL bf))) τ):PC 120 [.agg (aL vg)] τ Q:=
 ((QF BIG)) vg hf h
section
variable [xJ]
theorem Gn (e1:aj) (mq:List aB) {r0:ah} {r1:Int} (hf:Dc e1 mq=some (r0,r1)) (h:Q (.ret (.tuple [.agg (aL r0),iP r1])) τ):PC 89 [.agg (bE e1),.list (List.map aB.cells mq)] τ Q:=by
 unfold Dc at hf; refine BN 28 [.cell 4 42,.tmp 5] [0,1] Tryz.func89 Z Z Z Z Z (W 1 Z (AS Z (AO.aC Z gK (fun b4=>?_)))); obtain ⟨s1,f1,h1,hf⟩:=bM hf; refine U 3 Z (CL Z (Px _ _ h1 (J 7 Z (C hf Z (fun h2 hf=>?_) fun h2 hf=>?_))))
 · cases hf; exact Wx 4 [0] Z Z (ZC [0] Z Z h)
 obtain ⟨x1,f2,h3,hf⟩:=bM hf; refine W 2 Z (CL Z (K6 _ _ h3 (U 3 Z (AS Z (AO.aC Z gK (fun b8=>?_)))))); refine B1 hf fun x2 h4 hf=>Rr 3 [0,0] Z Z (CL Z (Q9 _ h4 ?_)); cases hf; exact Rx 3 [1] Z Z (ZC [1] Z Z h)
end
abbrev Gu (oC:aJ→Option aJ):Prop:=∀ (Vq:aJ) {bf:aJ},oC Vq=some bf→∀ {τ:List aV} {Q:cO→List aV→Prop} (h:Q (.ret (.agg (fK bf))) τ),PC 110 [.agg (fK Vq)] τ Q
theorem MR (oC) (KM:Gu oC) (t1:aJ) {r0:aJ} (hf:Ak oC t1=some r0) (h:Q (.ret (.agg (fK r0))) τ):PC 110 [.agg (fK t1)] τ Q:=by
 unfold Ak at hf; refine BN 18 [.cell 2 61] [0] Tryz.func110 Z Z Z Z Z (W 1 Z (AS Z (AO.aC Z Jo (fun b2=>?_)))); refine B1 hf fun x1 h1 hf=>U 2 Z (CL Z (mY _ h1 (J 1 Z (C hf Z (fun h2 hf=>?_) fun h2 hf=>?_))))
 · refine BR hf fun x2 h3 hf=>?_; refine W 2 Z (CL Z (kP _ h3 ?_)); cases hf; exact Rx 1 [0] Z Z (ZC [0] Z Z h)
 refine V 0 Z (AW.draw 8 mixed (by kernel_rfl) Z ?_); refine Ev.cs bJ 4 Z ?_; refine B1 hf fun e1 h4 hf=>Ev.cons Z Z Z (AO.aZ h4 Z Z (aJ.aA _) Z LA (aJ.aF _) Z zg) (Ev.cs bJ 1 Z ?_); refine B1 hf fun x3 h5 hf=>Ev.cons Z Z Z (AO.call Z _ Z Z Z_ (KM _ h5 zg)) ?_; refine BR hf fun x4 h6 hf=>?_; refine Ev.cons Z Z Z (AO.call Z _ Z Z Wd (za _ _ h6 zg)) (Ev.nil ?_); show AR _ _ _ _ _ _ _ _; cases hf; exact Rx 1 [0] Z Z (ZC [0] Z Z h)
theorem Nr :∀ k:Nat,(Gu (su k)):=by
 intro k
 induction k with
 | zero=>exact fun _ _ hz=>by first | cases hz | (unfold su at hz; cases hz)
 | succ k ih=>exact fun Vq bf hz τ Q hq=>MR (su k) ih Vq hz hq
theorem F6 (Vq:aJ) {bf:aJ} (hf:Dv Vq=some bf) (h:Q (.ret (.agg (fK bf))) τ):PC 110 [.agg (fK Vq)] τ Q:=
 ((Nr BIG)) Vq hf h
abbrev Iu (p8:aJ→aJ→Option aJ):Prop:=∀ (zq:aJ) (qN:aJ) {bf:aJ},p8 zq qN=some bf→∀ {τ:List aV} {Q:cO→List aV→Prop} (h:Q (.ret (.agg (fK bf))) τ),PC 70 [.agg (fK zq),.agg (fK qN)] τ Q
theorem OO (p8) (Mf:Iu p8) (a1:aJ) (b1:aJ) {r0:aJ} (hf:Ci p8 a1 b1=some r0) (h:Q (.ret (.agg (fK r0))) τ):PC 70 [.agg (fK a1),.agg (fK b1)] τ Q:=by
 unfold Ci at hf; refine BN 43 [.cell 4 61] [0,1] Tryz.func70 Z Z Z Z Z (W 2 Z (AS Z (AO.aC Z Jo (fun b4=>(J 4 Z (C hf Z (fun h1 hf=>?_) fun h1 hf=>?_))))))
 · refine BR hf fun x1 h2 hf=>?_; refine W 1 Z (CL Z (F6 _ h2 ?_)); cases hf; exact Rx 1 [0] Z Z (ZC [0] Z Z h)
 refine V 4 Z (C hf Z (fun h3 hf=>?_) fun h3 hf=>?_)
 · refine BR hf fun x2 h4 hf=>?_; refine W 1 Z (CL Z (F6 _ h4 ?_)); cases hf; exact Rx 1 [0] Z Z (ZC [0] Z Z h)
 refine V 6 Z (C hf Z (fun h5 hf=>?_) fun h5 hf=>?_)
 · refine BR hf fun x3 h6 hf=>?_; refine W 0 Z (CL Z (kP _ h6 ?_)); cases hf; exact Rx 1 [0] Z Z (ZC [0] Z Z h)
 refine B1 hf fun x4 h7 hf=>W 2 Z (CL Z (mY _ h7 (J 1 Z (C hf Z (fun h8 hf=>?_) fun h8 hf=>?_))))
 ·
  refine V 0 Z (AW.draw 12 mixed (by kernel_rfl) Z ?_); refine Ev.cs bJ 4 Z ?_; refine B1 hf fun e1 h9 hf=>Ev.cons Z Z Z (AO.aZ h9 Z Z (aJ.aA _) Z LA (aJ.aF _) Z zg) (Ev.cs bJ 3 Z ?_); refine B1 hf fun e2 h10 hf=>Ev.cons Z Z Z (AO.aZ h10 Z Z (aJ.aA _) Z LA (aJ.aF _) Z zg) (Ev.cs bJ 1 Z ?_); refine B1 hf fun x5 h11 hf=>Ev.cons Z Z Z (AO.call Z _ Z Z YQ (Mf _ _ h11 zg)) ?_; refine BR hf fun x6 h12 hf=>?_; refine Ev.cons Z Z Z (AO.call Z _ Z Z Wd (za _ _ h12 zg)) (Ev.nil ?_); show AR _ _ _ _ _ _ _ _; cases hf; exact Rx 1 [0] Z Z (ZC [0] Z Z h)
 refine BR hf fun x7 l6 hf=>?_; refine W 2 Z (CL Z (kP _ l6 ?_)); cases hf; exact Rx 1 [0] Z Z (ZC [0] Z Z h)
theorem OZ :∀ k:Nat,(Iu (uR k)):=by
 intro k
 induction k with
 | zero=>exact fun _ _ _ hz=>by first | cases hz | (unfold uR at hz; cases hz)
 | succ k ih=>exact fun zq qN bf hz τ Q hq=>OO (uR k) ih zq qN hz hq
theorem Pf (zq:aJ) (qN:aJ) {bf:aJ} (hf:Ld zq qN=some bf) (h:Q (.ret (.agg (fK bf))) τ):PC 70 [.agg (fK zq),.agg (fK qN)] τ Q:=
 ((OZ BIG)) zq qN hf h
abbrev Iw (kE:ah→Option aJ):Prop:=∀ (vg:ah) {bf:aJ},kE vg=some bf→∀ {τ:List aV} {Q:cO→List aV→Prop} (h:Q (.ret (.agg (fK bf))) τ),PC 41 [.agg (aL vg)] τ Q
theorem OP (kE) (Mg:Iw kE) (v1:ah) {r0:aJ} (hf:Cj kE v1=some r0) (h:Q (.ret (.agg (fK r0))) τ):PC 41 [.agg (aL v1)] τ Q:=by
 unfold Cj at hf; refine BN 40 [.cell 2 61] [0] Tryz.func41 Z Z Z Z Z (W 1 Z (AS Z (AO.aC Z Jo (fun b2=>(J 4 Z (C hf Z (fun h1 hf=>?_) fun h1 hf=>?_))))))
 · refine BR hf fun x1 h2 hf=>?_; refine W 0 Z (CL Z (kP _ h2 ?_)); cases hf; exact Rx 1 [0] Z Z (ZC [0] Z Z h)
 refine V 2 Z (C hf Z (fun h3 hf=>?_) fun h3 hf=>?_)
 · refine BR hf fun x2 h4 hf=>?_; refine W 0 Z (CL Z (kP _ h4 ?_)); cases hf; exact Rx 1 [0] Z Z (ZC [0] Z Z h)
 refine V 2 Z (C hf Z (fun h5 hf=>?_) fun h5 hf=>?_)
 · refine BR hf fun x3 h6 hf=>?_; refine W 0 Z (CL Z (kP _ h6 ?_)); cases hf; exact Rx 1 [0] Z Z (ZC [0] Z Z h)
 refine V 2 Z (C hf Z (fun h7 hf=>?_) fun h7 hf=>?_)
 · refine BR hf fun x4 h8 hf=>?_; refine W 0 Z (CL Z (kP _ h8 ?_)); cases hf; exact Rx 1 [0] Z Z (ZC [0] Z Z h)
 refine B1 hf fun x5 h9 hf=>W 0 Z (CL Z (kP _ h9 (AS Z (AO.aC Z Jo (fun b3=>(Rr 3 [0] Z Z (AS Z (AO.aT (l:=v1.cu) Z Z Z Z iR Z (ah.aA _) ?_)))))))); refine J 1 Z (Vn (fun x6 xO=>[(1,.ref (aL v1)),(2,pP b2),(3,pP b3),(22,.list (ah.aK v1.cu)),(23,iP (v1.cu.length:Int)),(24,iP x6)]) (fun x6 xO=>[.box b3 (fK xO),.box b2 [iP 0,.own (.slice none 0 0) []]]) (fun b_ x6 xO=>wF kE v1 b_ x6 xO=some r0) BIG 0 x5 Z Z hf (fun _ _ hz=>bU hz) ?_); intro b_ x6 xO hf; rw [wF] at hf; refine V 1 Z (C hf Z (fun h10 hf=>?_) fun h10 hf=>?_)
 ·
  refine B1 hf fun e1 h11 hf=>W 0 Z (AS Z (AO.aZ h11 Z Z (ah.aA _) Z iR (ah.aF _) Z (U 1 Z (AS Z (AO.aC Z gK (fun b5=>(Rw 1 [0] Z Z (AW.draw 4 mixed (by kernel_rfl) Z ?_)))))))); refine Ev.cons Z Z Z (AO.aR (i:=1) Z Z Z YI Z Z zg) (Ev.cons Z Z Z (AO.aR (i:=0) Z Z Z kY Z Z zg) ?_); refine B1 hf fun x7 h12 hf=>Ev.cons Z Z Z (AO.call Z _ Z Z YV (Mg _ h12 zg)) ?_; refine B1 hf fun x8 l6 hf=>Ev.cons Z Z Z (AO.call Z _ Z Z YQ (Pf _ _ l6 zg)) (Ev.nil ?_); show AR _ _ _ _ _ _ _ _; refine Rn 3 [1] Z Z (AR.drop1 ?_); exact N 0 Z ⟨(dG (x6 + 1)),x8,Z,Z,Z,hf⟩
 refine V 3 Z (C hf Z (fun lH hf=>?_) fun lH hf=>?_)
 · refine BR hf fun x9 rO hf=>?_; refine Wr 1 [0] Z Z (CL Z (za _ _ rO ?_)); cases hf; exact Rx 1 [1] Z Z (ZC [1] Z Z h)
 refine BR hf fun Kn h16 hf=>?_; refine Wr 1 [0] Z Z (CL Z (za _ _ h16 ?_)); cases hf; exact Rx 1 [1] Z Z (ZC [1] Z Z h)
theorem O0 :∀ k:Nat,(Iw (uS k)):=by
 intro k
 induction k with
 | zero=>exact fun _ _ hz=>by first | cases hz | (unfold uS at hz; cases hz)
 | succ k ih=>exact fun vg bf hz τ Q hq=>OP (uS k) ih vg hz hq
theorem Pg (vg:ah) {bf:aJ} (hf:Lf vg=some bf) (h:Q (.ret (.agg (fK bf))) τ):PC 41 [.agg (aL vg)] τ Q:=
 ((O0 BIG)) vg hf h
theorem F7 (t1:aJ) {r0:Int} (hf:zT t1=some r0) (h:Q (.ret (iP r0)) τ):PC 108 [.agg (fK t1)] τ Q:=by
 unfold zT at hf; refine BN 43 [.tmp 2] [0] Tryz.func108 Z Z Z Z Z (W 0 Z (AS Z (AO.G5 Z Z (fun b1=>(J 2 Z (Vn (fun bZ t2=>[(1,pP b1),(3,iP bZ)]) (fun bZ t2=>[.box b1 (fK t2)]) (fun b_ bZ t2=>vk b_ bZ t2=some r0) BIG 1 t1 Z Z hf (fun _ _ hz=>bU hz) ?_)))))); intro b_ bZ t2 hf; rw [vk] at hf; refine V 2 Z (C hf Z (fun h1 hf=>?_) fun h1 hf=>?_)
 · cases hf; exact M 1 Z (Y Z h)
 refine B1 hf fun x1 h2 hf=>Wr 2 [0] Z Z (CL Z (CK _ h2 ?_)); refine B1 hf fun b1 h4 hf=>U 2 Z (AR.gI 10 12 22 false [1,3] b1 Z Z (fun h3=>?_) (fun h3=>?_) ?_)
 ·
  replace h4:=jf h3 h4; refine Is 12 h3 Z (U 1 Z (GO Z (AO.aR (i:=0) Z Z Z Br Z Z ?_))); refine B1 h4 fun x2 h5 h4=>GO Z (AO.call Z _ Z Z WB (mY _ h5 (U 1 Z (AR.and 5 16 21 [1,3,12] (x:=((t2.elem.length:Int) != 1)) Z Z (fun h6=>?_) (fun h6=>?_) ?_))))
  · refine Is 16 h6 Z (U 1 Z (GO Z (AO.aR (i:=0) Z Z Z YJ Z Z (GO Z (AO.aT (l:=t2.elem) Z Z Z Z LA Z (aJ.aA _) ?_))))); exact fZ 2 Z (En [21,1,3,12] Z)
  · refine Is 16 h6 Z ?_; exact fZ 5 Z (En [21,1,3,12] Z)
  cases h4; exact fZ 1 Z (En [22,1,3] Z)
 · refine IT 12 h3 h4 Z fun h4=>?_; cases h4; exact fZ 10 Z (En [22,1,3] Z)
 refine B1 hf fun b2 h8 hf=>U 1 Z (AR.gI 11 23 34 false [1,3] b2 Z Z (fun h7=>?_) (fun h7=>?_) ?_)
 ·
  replace h8:=jf h7 h8; refine Is 23 h7 Z (U 1 Z (GO Z (AO.aR (i:=0) Z Z Z Br Z Z ?_))); refine B1 h8 fun x3 h9 h8=>GO Z (AO.call Z _ Z Z WB (mY _ h9 (U 2 Z (AR.and 5 28 33 [1,3,23] (x:=((t2.elem.length:Int) != 0)) Z Z (fun h10=>?_) (fun h10=>?_) ?_))))
  · refine Is 28 h10 Z (U 1 Z (GO Z (AO.aR (i:=0) Z Z Z YJ Z Z (GO Z (AO.aT (l:=t2.elem) Z Z Z Z LA Z (aJ.aA _) ?_))))); exact fZ 2 Z (En [33,1,3,23] Z)
  · refine Is 28 h10 Z ?_; exact fZ 5 Z (En [33,1,3,23] Z)
  cases h8; exact fZ 1 Z (En [34,1,3] Z)
 · refine IT 23 h7 h8 Z fun h8=>?_; cases h8; exact fZ 11 Z (En [34,1,3] Z)
 refine J 0 Z (C hf Z (fun h11 hf=>?_) fun h11 hf=>?_)
 · cases hf; exact M 1 Z (Y Z h)
 refine B1 hf fun x4 h12 hf=>Wr 2 [0] Z Z (CL Z (mY _ h12 (J 1 Z (C hf Z (fun l6 hf=>?_) fun l6 hf=>?_))))
 · cases hf; exact M 1 Z (Y Z h)
 refine B1 hf fun e1 lH hf=>Wr 2 [0] Z Z (AS Z (AO.aZ lH Z Z (aJ.aA _) Z LA (aJ.aF _) Z ?_)); exact Rx 5 [0] Z Z ⟨(dG (bZ + 1)),e1,Z,Z,Z,hf⟩
theorem Ph (a1:aJ) (b1:aJ) {r0:Bool} (hf:Fp a1 b1=some r0) (h:Q (.ret (.bool r0)) τ):PC 67 [.agg (fK a1),.agg (fK b1)] τ Q:=by
 unfold Fp at hf; refine BN 13 [.tmp 4] [0,1] Tryz.func67 Z Z Z Z Z ?_; refine B1 hf fun x1 h1 hf=>W 4 Z (CL Z (F7 _ h1 ?_)); refine BR hf fun b2 h3 hf=>?_; refine U 2 Z (AR.gI 4 8 12 true [] b2 Z Z (fun h2=>?_) (fun h2=>?_) ?_)
 · refine IT 8 h2 h3 Z fun h3=>?_; refine B1 h3 fun x2 h4 h3=>U 1 Z (GO Z (AO.call Z _ Z Z aac (F7 _ h4 ?_))); cases h3; exact fZ 2 Z (En [12] Z)
 · refine IF 8 h2 h3 Z fun h3=>?_; cases h3; exact fZ 4 Z (En [12] Z)
 cases hf; exact N 1 Z (Y Z h)
abbrev EL (nI:aJ→aJ→Option Bool):Prop:=∀ (zq:aJ) (qN:aJ) {bf:Bool},nI zq qN=some bf→∀ {τ:List aV} {Q:cO→List aV→Prop} (h:Q (.ret (.bool bf)) τ),PC 68 [.agg (fK zq),.agg (fK qN)] τ Q
theorem LU (nI) (JW:EL nI) (a1:aJ) (b1:aJ) {r0:Bool} (hf:zu nI a1 b1=some r0) (h:Q (.ret (.bool r0)) τ):PC 68 [.agg (fK a1),.agg (fK b1)] τ Q:=by
 unfold zu at hf; refine BN 33 [.tmp 4] [0,1] Tryz.func68 Z Z Z Z Z (W 7 Z (On 4 9 13 [2,3] (b1.kind == 0) Z Z Z Z (J 1 Z (C hf Z (fun h2 hf=>?_) fun h2 hf=>?_))))
 · cases hf; exact M 1 Z (Y Z h)
 refine V 6 Z (C hf Z (fun h3 hf=>?_) fun h3 hf=>?_)
 · cases hf; exact M 1 Z (Y Z h)
 refine B1 hf fun x1 h4 hf=>W 2 Z (CL Z (mY _ h4 (J 1 Z (C hf Z (fun h5 hf=>?_) fun h5 hf=>?_))))
 ·
  refine V 0 Z (AW.draw 10 mixed (by kernel_rfl) Z ?_); refine Ev.cs bJ 2 Z ?_; refine B1 hf fun e1 h6 hf=>Ev.cons Z Z Z (AO.aZ h6 Z Z (aJ.aA _) Z LA (aJ.aF _) Z zg) (Ev.cs bJ 3 Z ?_); refine B1 hf fun e2 h7 hf=>Ev.cons Z Z Z (AO.aZ h7 Z Z (aJ.aA _) Z LA (aJ.aF _) Z zg) (Ev.cs bJ 1 Z ?_); refine BR hf fun x2 h8 hf=>?_; refine Ev.cons Z Z Z (AO.call Z _ Z Z YR (JW _ _ h8 zg)) (Ev.cs bJ 1 Z (Ev.nil ?_)); show AR _ _ _ _ _ _ _ _; cases hf; exact N 0 Z (Y Z h)
 cases hf; exact M 1 Z (Y Z h)
theorem Md :∀ k:Nat,(EL (qO k)):=by
 intro k
 induction k with
 | zero=>exact fun _ _ _ hz=>by first | cases hz | (unfold qO at hz; cases hz)
 | succ k ih=>exact fun zq qN bf hz τ Q hq=>LU (qO k) ih zq qN hz hq
theorem Mk (zq:aJ) (qN:aJ) {bf:Bool} (hf:H6 zq qN=some bf) (h:Q (.ret (.bool bf)) τ):PC 68 [.agg (fK zq),.agg (fK qN)] τ Q:=
 ((Md BIG)) zq qN hf h
theorem Q0 (a1:aJ) (b1:aJ) {r0:Bool} (hf:IJ a1 b1=some r0) (h:Q (.ret (.bool r0)) τ):PC 40 [.agg (fK a1),.agg (fK b1)] τ Q:=by
 unfold IJ at hf; refine BN 13 [.tmp 4] [0,1] Tryz.func40 Z Z Z Z Z ?_; refine B1 hf fun x1 h1 hf=>W 5 Z (CL Z (Ph _ _ h1 ?_)); refine BR hf fun b2 h3 hf=>?_; refine U 1 Z (AR.gI 4 8 12 true [] b2 Z Z (fun h2=>?_) (fun h2=>?_) ?_)
 · refine IT 8 h2 h3 Z fun h3=>?_; refine BR h3 fun x2 h4 h3=>?_; refine U 2 Z (GO Z (AO.call Z _ Z Z YR (Mk _ _ h4 ?_))); cases h3; exact fZ 1 Z (En [12] Z)
 · refine IF 8 h2 h3 Z fun h3=>?_; cases h3; exact fZ 4 Z (En [12] Z)
 cases hf; exact N 1 Z (Y Z h)
theorem Ig (v1:ah) (t1:aJ) {r0:Bool} (hf:BA v1 t1=some r0) (h:Q (.ret (.bool r0)) τ):PC 22 [.agg (aL v1),.agg (fK t1)] τ Q:=by
 unfold BA at hf; refine BN 14 [.tmp 4] [0,1] Tryz.func22 Z Z Z Z Z (V 3 Z (AW.draw 10 mixed (by kernel_rfl) Z ?_)); refine Ev.cs bJ 1 Z ?_; refine B1 hf fun x1 h1 hf=>Ev.cons Z Z Z (AO.call Z _ Z Z YW (nD _ h1 zg)) (Ev.cs bJ 2 Z ?_); refine BR hf fun b1 h3 hf=>?_; refine Ev.gI hKA 5 8 13 true [] (.bool b1) Z Z (fun h2=>?_) (fun h2=>?_) ?_
 · replace h3:=jC h2 h3; refine Ev.is hKL 8 h2 Z (Ev.cs bJ 1 Z ?_); refine B1 h3 fun x2 h4 h3=>Ev.run Z Z Z Z Z Z Z (AO.call Z _ Z Z YV (Pg _ h4 zg)) (Ev.cs bJ 1 Z ?_); refine BR h3 fun x3 h5 h3=>?_; refine Ev.run Z Z Z Z Z Z Z (AO.call Z _ Z Z abL (Q0 _ _ h5 zg)) ?_; cases h3; refine Ev.cs bJ 1 Z ?_; exact Ev.nil (Less.settle (ps:=[13]) Z)
 · replace h3:=jf h2 h3; refine Ev.is hKL 8 h2 Z ?_; cases h3; refine Ev.cs bJ 5 Z ?_; exact Ev.nil (Less.settle (ps:=[13]) Z)
 refine Ev.cs bJ 1 Z (Ev.nil ?_); show AR _ _ _ _ _ _ _ _; cases hf; exact N 0 Z (Y Z h)
section
variable [xJ]
theorem KV (b1:au) {r0:bN} {r1:Int} (hf:Am b1=some (r0,r1)) (h:Q (.ret (.tuple [.agg (wh r0),iP r1])) τ):PC 83 [.agg (dR b1)] τ Q:=by
 unfold Am at hf; refine BN 101 [.cell 2 63,.tmp 3] [0] Tryz.func83 Z Z Z Z Z (W 1 Z (AS Z (AO.aC Z TP (fun b2=>?_)))); refine B1 hf fun x1 h1 hf=>U 3 Z (CL Z (KU _ h1 (U 2 Z (AR.or 5 16 21 [1,2] (x:=(decide (0 < (b1.blocks.length:Int)))) Z Z (fun h2=>?_) (fun h2=>?_) ?_))))
 · refine Is 16 h2 Z (U 2 Z (GO Z (AO.aT (l:=b1.blocks) Z Z Z Z kG Z (au.aA _) ?_))); exact fZ 2 Z (En [21,1,2] Z)
 · refine Is 16 h2 Z ?_; exact fZ 5 Z (En [21,1,2] Z)
 refine J 0 Z (C hf Z (fun h3 hf=>?_) fun h3 hf=>?_)
 · cases hf; exact Wx 3 [0] Z Z (ZC [0] Z Z h)
 refine W 2 Z (AS Z (AO.aT (l:=b1.attrs) Z Z Z Z qp Z Z ?_)); refine J 1 Z (Kl (fun x2=>[(1,.ref (dR b1)),(2,pP b2),(24,.list (List.map aM.cells b1.attrs)),(25,iP (b1.attrs.length:Int)),(26,iP x2)]) (fun x2=>[.box b2 [.str ([]:Str),iP 0,.own (.slice none 0 0) [],.bool false,iP 0,.bool false,iP 0,.str ([]:Str),.own (.slice none 0 0) [],.own (.slice none 0 0) []]]) (fun b_ x2=>rH b1 b_ x2=some (r0,r1)) BIG 0 Z Z hf (fun _ hz=>bU hz) ?_); intro b_ x2 hf; rw [rH] at hf; refine V 1 Z (C hf Z (fun h4 hf=>?_) fun h4 hf=>?_)
 ·
  refine B1 hf fun e1 h5 hf=>W 0 Z (AS Z (AO.aZ h5 Z Z Z Z qp (aM.aF _) Z (U 1 Z (AS Z (AO.aC Z MJ (fun b5=>(Rr 5 [0,0] Z Z (AR.and 4 33 37 [1,2,24,25,26] (x:=(!(e1.name == ([100,101,102,97,117,108,116]:Str)))) Z Z (fun h6=>?_) (fun h6=>?_) ?_))))))))
  · refine Is 33 h6 Z (U 1 Z (GO Z (AO.aR (i:=0) Z Z Z M4 Z Z ?_))); exact fZ 2 Z (En [37,1,2,24,25,26] Z)
  · refine Is 33 h6 Z ?_; exact fZ 4 Z (En [37,1,2,24,25,26] Z)
  refine J 0 Z (C hf Z (fun h7 hf=>?_) fun h7 hf=>?_)
  · cases hf; exact Wx 3 [1] Z Z (ZC [1] Z Z h)
  refine XY 2 Z (AR.drop1 ?_); exact N 0 Z ⟨(dG (x2 + 1)),Z,Z,Z,hf⟩
 obtain ⟨x3,is1,h8,hf⟩:=bM hf; refine W 1 Z (CL Z (CR _ _ h8 (U 3 Z (AS Z (AO.aC Z iO (fun b6=>(Rw 5 [0] Z Z (C hf Z (fun h9 hf=>?_) fun h9 hf=>?_))))))))
 · cases hf; exact Wx 3 [1] Z Z (ZC [1] Z Z h)
 refine Wr 4 [0] Z Z (AR.or 5 53 58 [1,2,6] (x:=(x3.value.kind != 3)) Z Z (fun h10=>?_) (fun h10=>?_) ?_)
 · refine Is 53 h10 Z (U 2 Z (GO Z (AO.aR (i:=0) Z Z Z Br Z Z ?_))); exact fZ 2 Z (En [58,1,2,6] Z)
 · refine Is 53 h10 Z ?_; exact fZ 5 Z (En [58,1,2,6] Z)
 refine J 1 Z (C hf Z (fun h11 hf=>?_) fun h11 hf=>?_)
 · cases hf; exact Wx 3 [1] Z Z (ZC [1] Z Z h)
 obtain ⟨x4,e2,h12,hf⟩:=bM hf; refine Wr 3 [0] Z Z (CL Z (N_ _ h12 (U 3 Z (AS Z (AO.aC Z Jo (fun b8=>(Rw 4 [0] Z Z (C hf Z (fun l6 hf=>?_) fun l6 hf=>?_))))))))
 · cases hf; exact Wx 4 [2] Z Z (ZC [2] Z Z h)
 refine Wr 4 [0] Z Z (AS Z (AO.aC Z TP (fun b10=>?_))); obtain ⟨x5,is2,lH,hf⟩:=bM hf; refine Rr 2 [0] Z Z (CL Z (CR _ _ lH (U 3 Z (AS Z (AO.aC Z iO (fun b11=>(Rw 4 [0] Z Z (C hf Z (fun rO hf=>?_) fun rO hf=>?_))))))))
 · cases hf; exact Wx 3 [1,4] Z Z (ZC [4] Z Z h)
 obtain ⟨x6,e3,h16,hf⟩:=bM hf; refine Wr 3 [1,0] Z Z (CL Z (Gn _ _ h16 (Rw 8 [1] Z Z (C hf Z (fun xM hf=>?_) fun xM hf=>?_))))
 · cases hf; exact Wx 4 [4] Z Z (ZC [4] Z Z h)
 refine B1 hf fun x7 h18 hf=>Wr 3 [1,2] Z Z (CL Z (Ig _ _ h18 (J 1 Z (C hf Z (fun h19 hf=>?_) fun h19 hf=>?_))))
 · cases hf; exact Wx 3 [4] Z Z (ZC [4] Z Z h)
 cases hf; exact Wx 3 [1,4] Z Z (ZC [4] Z Z h)
end
theorem Hq (q1:bN) (c1:bN) {r0:Bool} (hf:rJ q1 c1=some r0) (h:Q (.ret (.bool r0)) τ):PC 85 [.agg (wh q1),.ref (wh c1)] τ Q:=by
 unfold rJ at hf; refine BN 9 [.tmp 3] [0,1] Tryz.func85 Z Z Z Z Z ?_; cases hf; exact M 8 Z (Y Z h)
theorem lT (s1:List bN) (f1:bN→Option Bool) (wY:FuncId) (AQ:List PV) (NK:aX Tryz.prog wY=true) (NM:∀ a0 b0,f1 a0=some b0→∀ {τ:List aV} {Q:cO→List aV→Prop},Q (.ret (.bool b0)) τ→PC wY ([.agg (wh a0)] ++ AQ) τ Q) {r0:Int} (hf:iD s1 f1=some r0) (h:Q (.ret (iP r0)) τ):PC 19 [.list (List.map bN.cells s1),.fn wY AQ] τ Q:=by
 unfold iD at hf; refine BN 19 [.tmp 4] [0,1] Tryz.func19 Z Z Z Z Z (W 2 Z (AS Z (AO.aT (l:=s1) Z Z Z Z PZ Z Z (J 1 Z (Kl (fun i1=>[(0,.list (List.map bN.cells s1)),(1,.fn wY AQ),(7,iP (s1.length:Int)),(8,iP i1)]) (fun i1=>[]) (fun b_ i1=>gU s1 f1 b_ i1=some r0) BIG 0 Z Z hf (fun _ hz=>bU hz) ?_))))); intro b_ i1 hf; rw [gU] at hf; refine V 1 Z (C hf Z (fun h1 hf=>?_) fun h1 hf=>?_)
 ·
  refine B1 hf fun e1 h2 hf=>W 5 Z (AS Z (AO.aZ h2 Z Z Z Z PZ (bN.aF _) Z ?_)); refine B1 hf fun x1 h3 hf=>U 1 Z (AS Z (AO.call Z _ Z Z NK (NM _ _ h3 (J 0 Z (C hf Z (fun h4 hf=>?_) fun h4 hf=>?_)))))
  · cases hf; exact M 2 Z (Y Z h)
  exact M 2 Z ⟨(dG (i1 + 1)),Z,Z,Z,hf⟩
 cases hf; exact M 1 Z (Y Z h)
theorem ql (s1:List bN) (f1:bN→Option Bool) (wY:FuncId) (AQ:List PV) (NK:aX Tryz.prog wY=true) (NM:∀ a0 b0,f1 a0=some b0→∀ {τ:List aV} {Q:cO→List aV→Prop},Q (.ret (.bool b0)) τ→PC wY ([.agg (wh a0)] ++ AQ) τ Q) {r0:Bool} (hf:jy s1 f1=some r0) (h:Q (.ret (.bool r0)) τ):PC 84 [.list (List.map bN.cells s1),.fn wY AQ] τ Q:=by
 unfold jy at hf; refine BN 9 [.tmp 4] [0,1] Tryz.func84 Z Z Z Z Z ?_; refine B1 hf fun x1 h1 hf=>W 3 Z (CL Z (lT _ f1 wY AQ NK @NM h1 ?_)); cases hf; exact N 2 Z (Y Z h)
section
variable [xJ]
theorem J9 (b1:au) {r0:List bN} {r1:au} {r2:Int} (hf:ou b1=some (r0,r1,r2)) (h:Q (.ret (.tuple [.list (List.map bN.cells r0),.agg (dR r1),iP r2])) τ):PC 50 [.agg (dR b1)] τ Q:=by
 unfold ou at hf; refine BN 56 [.tmp 2,.cell 3 38,.tmp 4] [0] Tryz.func50 Z Z Z Z Z (W 1 Z (AS Z (AO.d9 Z Z (AS Z (AO.aC Z nK (fun b3=>(J 2 Z (AW.Y8 8 38 [6] mixed (by kernel_rfl) Z nK Z (by kernel_rfl) (by decide) ?_)))))))); refine Ev.cs bJ 6 Z ?_; refine B1 hf fun x1 h1 hf=>Ev.cons Z Z Z (AO.call Z _ Z Z V_ (F8 _ h1 zg)) (Ev.cons Z Z Z (AO.build Z nK KA Z zg) (Ev.nil ?_)); intro b6; show AR _ _ _ _ _ _ _ _; refine Rr 3 [0] Z Z (AS Z (AO.aT (l:=b1.blocks) Z Z Z Z kG Z (au.aA _) ?_)); refine J 1 Z (AW.row 10 63 (AW.row 4 38 (LK5 (fun ps1 v1 x2 iZ v2=>[(3,pP b3),(5,.own v1 (List.map bN.cells ps1)),(6,pP b6),(20,.list (au.aK b1.blocks)),(21,iP (b1.blocks.length:Int)),(22,iP x2)]) (fun ps1 v1 x2 iZ v2=>[.row v2 (au.aK iZ.blocks).length 4 38,.row v1 (List.map bN.cells ps1).length 10 63,.box b6 [.str iZ.kind,.str iZ.name,.list (List.map aM.cells iZ.attrs),.own v2 (au.aK iZ.blocks)],.box b3 [.str ([]:Str),.str ([]:Str),.own (.slice none 0 0) [],.own (.slice none 0 0) []]]) (fun b_ ps1 v1 x2 iZ v2=>nL b1 b_ ps1 x2 iZ=some (r0,r1,r2)) BIG [] (.slice none 0 0) 0 (au.mk b1.kind b1.name x1 []) (.slice none 0 0) Z Z hf (fun _ _ _ _ _ hz=>bU hz) ?_))); intro b_ ps1 v1 x2 iZ v2 hf; rw [nL] at hf; refine V 1 Z (C hf Z (fun h2 hf=>?_) fun h2 hf=>?_)
 ·
  refine B1 hf fun e1 h3 hf=>W 0 Z (AS Z (AO.aZ h3 Z Z (au.aA _) Z kG (au.aF _) Z (U 1 Z (AS Z (AO.aC Z nK (fun b8=>(Rw 4 [0,0] Z Z (C hf Z (fun h4 hf=>?_) fun h4 hf=>?_))))))))
  ·
   refine V 0 Z (AW.draw 5 mixed (by kernel_rfl) Z ?_); refine Ev.cs bJ 1 Z (Ev.cons Z Z Z (AO.aR (i:=3) Z Z Z xK Z Z zg) (Ev.cons Z Z Z (AO.aR (i:=0) Z Z Z mD Z Z zg) ?_)); refine B1 hf fun x3 h5 hf=>Ev.cons rfl rfl rfl (AO.call rfl _ rfl rfl Wh (zh _ h5 ⟨rfl,rfl⟩)) (Ev.cons rfl rfl rfl (AO.bD (au.aK [x3]) rfl oG rfl rfl rfl (by first | rfl | simp only [List.map,au.aF,au.aK]) ⟨rfl,rfl⟩) ?_); refine Ev.nil ?_; show AR _ _ _ _ _ _ _ _
   refine B1 hf fun x4 h6 hf=>AS Z (AO.eB (i:=1) (l:=iZ.blocks) (m:=[x3]) h6 Z Z Z Z Z Z Z oG kG (au.aA _) (au.aA _) (au.aA _).symm (au.bB) (au.cells_one) (by decide) (fun v3 s1 hs1=>?_)); cases hs1; refine Rn 4 [3] Z Z (AR.drop1 ?_); exact N 0 Z ⟨ps1,v1,(dG (x2 + 1)),(au.mk iZ.kind iZ.name iZ.attrs x4),v3,Z,Z,Z,hf⟩
  obtain ⟨x5,e2,h7,hf⟩:=bM hf; refine Wr 1 [0] Z Z (CL Z (KV _ h7 (U 3 Z (AS Z (AO.aC Z TP (fun b9=>(Rw 4 [0] Z Z (C hf Z (fun h8 hf=>?_) fun h8 hf=>?_))))))))
  · refine W 2 Z (AS Z (AO.d9 Z Z ?_)); cases hf; exact Rx 2 [5] Z Z (ZC [5] Z Z h)
  refine W 1 Z (AR.Lg 9 0 Z Z Z Z ?_); refine B1 hf fun x6 h9 hf=>U 1 Z (CL Z (ql _ (fun z0=>rJ z0 x5) 85 [.ref (wh x5)] abA (fun _ _ hz=>Hq _ _ hz) h9 (J 0 Z (C hf Z (fun h10 hf=>?_) fun h10 hf=>?_))))
  · refine W 1 Z (AS Z (AO.d9 Z Z ?_)); cases hf; exact Rx 2 [4] Z Z (ZC [4] Z Z h)
  refine W 2 rfl (AS rfl (AO.bD (List.map bN.cells [x5]) rfl V6 rfl rfl rfl (by first | rfl | simp only [List.map,bN.aF]) ?_)); refine B1 hf fun ps2 h11 hf=>AS Z (AO.eB (i:=2) (l:=ps1) (m:=[x5]) h11 Z Z Z Z Z Z Z V6 PZ Z Z Z (bN.bB) (bN.cells_one) (by decide) (fun v4 s2 hs2=>?_)); cases hs2; refine fZ 3 Z (AR.drop1 ?_); exact N 0 Z ⟨ps2,v4,(dG (x2 + 1)),iZ,v2,Z,Z,Z,hf⟩
 refine V 0 Z (AW.draw 3 mixed (by kernel_rfl) Z ?_); refine Ev.cs bJ 1 Z (Ev.cons Z Z Z (AO.aR (i:=2) Z Z Z mD Z Z zg) (Ev.cs bJ 1 Z (Ev.nil ?_))); show AR _ _ _ _ _ _ _ _; cases hf; exact Rx 2 [3] Z Z (ZC [3] Z Z h)
end
theorem F9 (t1:bq) (c1:au) {r0:Bool} (hf:lV t1 c1=some r0) (h:Q (.ret (.bool r0)) τ):PC 52 [.agg (zW t1),.ref (dR c1)] τ Q:=by
 unfold lV at hf; refine BN 9 [.tmp 3] [0,1] Tryz.func52 Z Z Z Z Z ?_; cases hf; exact M 8 Z (Y Z h)
theorem kI (s1:List bq) (f1:bq→Option Bool) (wY:FuncId) (AQ:List PV) (NK:aX Tryz.prog wY=true) (NM:∀ a0 b0,f1 a0=some b0→∀ {τ:List aV} {Q:cO→List aV→Prop},Q (.ret (.bool b0)) τ→PC wY ([.agg (zW a0)] ++ AQ) τ Q) {r0:Int} (hf:dZ s1 f1=some r0) (h:Q (.ret (iP r0)) τ):PC 86 [.list (List.map bq.cells s1),.fn wY AQ] τ Q:=by
 unfold dZ at hf; refine BN 19 [.tmp 4] [0,1] Tryz.func86 Z Z Z Z Z (W 2 Z (AS Z (AO.aT (l:=s1) Z Z Z Z R8 Z Z (J 1 Z (Kl (fun i1=>[(0,.list (List.map bq.cells s1)),(1,.fn wY AQ),(7,iP (s1.length:Int)),(8,iP i1)]) (fun i1=>[]) (fun b_ i1=>dw s1 f1 b_ i1=some r0) BIG 0 Z Z hf (fun _ hz=>bU hz) ?_))))); intro b_ i1 hf; rw [dw] at hf; refine V 1 Z (C hf Z (fun h1 hf=>?_) fun h1 hf=>?_)
 ·
  refine B1 hf fun e1 h2 hf=>W 5 Z (AS Z (AO.aZ h2 Z Z Z Z R8 (bq.aF _) Z ?_)); refine B1 hf fun x1 h3 hf=>U 1 Z (AS Z (AO.call Z _ Z Z NK (NM _ _ h3 (J 0 Z (C hf Z (fun h4 hf=>?_) fun h4 hf=>?_)))))
  · cases hf; exact M 2 Z (Y Z h)
  exact M 2 Z ⟨(dG (i1 + 1)),Z,Z,Z,hf⟩
 cases hf; exact M 1 Z (Y Z h)
theorem nZ (s1:List bq) (f1:bq→Option Bool) (wY:FuncId) (AQ:List PV) (NK:aX Tryz.prog wY=true) (NM:∀ a0 b0,f1 a0=some b0→∀ {τ:List aV} {Q:cO→List aV→Prop},Q (.ret (.bool b0)) τ→PC wY ([.agg (zW a0)] ++ AQ) τ Q) {r0:Bool} (hf:fM s1 f1=some r0) (h:Q (.ret (.bool r0)) τ):PC 51 [.list (List.map bq.cells s1),.fn wY AQ] τ Q:=by
 unfold fM at hf; refine BN 9 [.tmp 4] [0,1] Tryz.func51 Z Z Z Z Z ?_; refine B1 hf fun x1 h1 hf=>W 3 Z (CL Z (kI _ f1 wY AQ NK @NM h1 ?_)); cases hf; exact N 2 Z (Y Z h)
section
variable [xJ]
theorem Jb (f1:bX) {r0:List bq} {r1:bX} {r2:Int} (hf:pO f1=some (r0,r1,r2)) (h:Q (.ret (.tuple [.list (List.map bq.cells r0),.agg [.list (au.aK r1.blocks)],iP r2])) τ):PC 28 [.agg [.list (au.aK f1.blocks)]] τ Q:=by
 unfold pO at hf; refine BN 68 [.tmp 2,.cell 3 34,.tmp 4] [0] Tryz.func28 Z Z Z Z Z (W 1 Z (AS Z (AO.d9 Z Z (AS Z (AO.aC Z CS (fun b3=>?_)))))); refine B1 hf fun e1 h1 hf=>U 2 Z (CL Z (Bh _ h1 (J 3 Z (C hf Z (fun h2 hf=>?_) fun h2 hf=>?_))))
 · refine W 2 Z (AS Z (AO.d9 Z Z ?_)); cases hf; exact Rx 2 [0] Z Z (ZC [0] Z Z h)
 refine W 1 Z (AS Z (AO.aC Z CS (fun b7=>(U 2 Z (AS Z (AO.aT (l:=f1.blocks) Z Z Z Z kG Z (au.aA _) ?_)))))); refine J 1 Z (AW.row 6 98 (AW.row 4 38 (LK5 (fun Bo v1 x1 iZ v2=>[(3,pP b3),(6,.own v1 (List.map bq.cells Bo)),(7,pP b7),(20,.list (au.aK f1.blocks)),(21,iP (f1.blocks.length:Int)),(22,iP x1)]) (fun Bo v1 x1 iZ v2=>[.row v2 (au.aK iZ.blocks).length 4 38,.row v1 (List.map bq.cells Bo).length 6 98,.box b7 [.own v2 (au.aK iZ.blocks)],.box b3 [.own (.slice none 0 0) []]]) (fun b_ Bo v1 x1 iZ v2=>iT f1 b_ Bo x1 iZ=some (r0,r1,r2)) BIG [] (.slice none 0 0) 0 (bX.mk []) (.slice none 0 0) Z Z hf (fun _ _ _ _ _ hz=>bU hz) ?_))); intro b_ Bo v1 x1 iZ v2 hf; rw [iT] at hf; refine V 1 Z (C hf Z (fun h3 hf=>?_) fun h3 hf=>?_)
 ·
  refine B1 hf fun e2 h4 hf=>W 0 Z (AS Z (AO.aZ h4 Z Z (au.aA _) Z kG (au.aF _) Z (U 1 Z (AS Z (AO.aC Z nK (fun b9=>(Rw 4 [0,0] Z Z (C hf Z (fun h5 hf=>?_) fun h5 hf=>?_))))))))
  ·
   refine V 0 Z (AW.draw 5 mixed (by kernel_rfl) Z ?_); refine Ev.cs bJ 1 Z (Ev.cons Z Z Z (AO.aR (i:=3) Z Z Z xK Z Z zg) (Ev.cons Z Z Z (AO.aR (i:=0) Z Z Z mD Z Z zg) ?_)); refine B1 hf fun x2 h6 hf=>Ev.cons rfl rfl rfl (AO.call rfl _ rfl rfl Wh (zh _ h6 ⟨rfl,rfl⟩)) (Ev.cons rfl rfl rfl (AO.bD (au.aK [x2]) rfl oG rfl rfl rfl (by first | rfl | simp only [List.map,au.aF,au.aK]) ⟨rfl,rfl⟩) ?_); refine Ev.nil ?_; show AR _ _ _ _ _ _ _ _
   refine B1 hf fun x3 h7 hf=>AS Z (AO.eB (i:=1) (l:=iZ.blocks) (m:=[x2]) h7 Z Z Z Z Z Z Z oG kG (au.aA _) (au.aA _) (au.aA _).symm (au.bB) (au.cells_one) (by decide) (fun v3 s1 hs1=>?_)); cases hs1; refine Rn 4 [3] Z Z (AR.drop1 ?_); exact N 0 Z ⟨Bo,v1,(dG (x1 + 1)),(bX.mk x3),v3,Z,Z,Z,hf⟩
  refine B1 hf fun x4 h8 hf=>Wr 2 [0] Z Z (CL Z (Q7 _ h8 (J 1 Z (C hf Z (fun h9 hf=>?_) fun h9 hf=>?_))))
  · refine W 1 Z (AS Z (AO.d9 Z Z ?_)); cases hf; exact Rx 2 [4] Z Z (ZC [4] Z Z h)
  obtain ⟨ps1,x5,e3,h10,hf⟩:=jG hf; refine Wr 1 [0] Z Z (CL Z (J9 _ h10 (U 4 Z (AS Z (AO.aC Z nK (fun b11=>(Rw 5 [0] Z Z (C hf Z (fun h11 hf=>?_) fun h11 hf=>?_))))))))
  · refine W 2 Z (AS Z (AO.d9 Z Z ?_)); cases hf; exact Rx 2 [5] Z Z (ZC [5] Z Z h)
  refine W 1 Z (AR.Lg 9 1 Z Z Z Z ?_); refine B1 hf fun x6 h12 hf=>U 1 Z (CL Z (nZ _ (fun z0=>lV z0 e2) 52 [.ref (dR e2)] abJ (fun _ _ hz=>F9 _ _ hz) h12 (J 0 Z (C hf Z (fun l6 hf=>?_) fun l6 hf=>?_))))
  · refine W 1 Z (AS Z (AO.d9 Z Z ?_)); cases hf; exact Rx 2 [4] Z Z (ZC [4] Z Z h)
  refine Wr 10 [0,0,0] rfl rfl (AS rfl (AO.bD (List.map bq.cells [(bq.mk e2.name ps1 (au.mk ([]:Str) ([]:Str) x5.attrs x5.blocks))]) rfl YM rfl rfl rfl (by first | rfl | simp only [List.map,bq.aF]) ?_)); refine B1 hf fun ts2 lH hf=>AS Z (AO.eB (i:=2) (l:=Bo) (m:=[(bq.mk e2.name ps1 (au.mk ([]:Str) ([]:Str) x5.attrs x5.blocks))]) lH Z Z Z Z Z Z Z YM R8 Z Z Z (bq.bB) (bq.cells_one) (by decide) (fun v4 s2 hs2=>?_)); cases hs2
  refine fZ 3 Z (AR.drop1 ?_); exact N 0 Z ⟨ts2,v4,(dG (x1 + 1)),iZ,v2,Z,Z,Z,hf⟩
 refine V 0 Z (AW.draw 3 mixed (by kernel_rfl) Z ?_); refine Ev.cs bJ 1 Z (Ev.cons Z Z Z (AO.aR (i:=2) Z Z Z abr Z Z zg) (Ev.cs bJ 1 Z (Ev.nil ?_))); show AR _ _ _ _ _ _ _ _; cases hf; exact Rx 2 [3] Z Z (ZC [3] Z Z h)
end
theorem ze (t1:bq) (c1:au) {r0:Bool} (hf:iM t1 c1=some r0) (h:Q (.ret (.bool r0)) τ):PC 88 [.agg (zW t1),.ref (dR c1)] τ Q:=by
 unfold iM at hf; refine BN 9 [.tmp 3] [0,1] Tryz.func88 Z Z Z Z Z ?_; cases hf; exact M 8 Z (Y Z h)
theorem Ka (p1:bN) (c1:aB) {r0:Bool} (hf:vC p1 c1=some r0) (h:Q (.ret (.bool r0)) τ):PC 20 [.agg (wh p1),.ref (yI c1)] τ Q:=by
 unfold vC at hf; refine BN 9 [.tmp 3] [0,1] Tryz.func20 Z Z Z Z Z ?_; cases hf; exact M 8 Z (Y Z h)
theorem J8 (v1:aB) (c1:Str) {r0:Bool} (hf:vB v1 c1=some r0) (h:Q (.ret (.bool r0)) τ):PC 38 [.agg (yI v1),.ref [.str c1]] τ Q:=by
 unfold vB at hf; refine BN 8 [.tmp 3] [0,1] Tryz.func38 Z Z Z Z Z ?_; cases hf; exact M 7 Z (Y Z h)
theorem vJ (dH:List aB) (name1:Str) {r0:ah} {r1:Bool} (hf:qY dH name1=some (r0,r1)) (h:Q (.ret (.tuple [.agg (aL r0),.bool r1])) τ):PC 21 [.list (List.map aB.cells dH),.str name1] τ Q:=by
 unfold qY at hf; refine BN 18 [.cell 4 42,.tmp 5] [0,1] Tryz.func21 Z Z Z Z Z (W 1 Z (AS Z (AO.aC Z gK (fun b4=>?_)))); refine B1 hf fun i1 h1 hf=>U 3 Z (CL Z (m_ _ (fun z0=>vB z0 name1) 38 [.ref [.str name1]] abM (fun _ _ hz=>J8 _ _ hz) h1 (J 3 Z (C hf Z (fun h2 hf=>?_) fun h2 hf=>?_))))
 · cases hf; exact Wx 3 [0] Z Z (ZC [0] Z Z h)
 refine B1 hf fun e1 h3 hf=>W 2 Z (AS Z (AO.aZ h3 Z Z Z Z tF (aB.aF _) Z ?_)); cases hf; exact Rx 4 [0] Z Z (ZC [0] Z Z h)
theorem EC (ps1:List bN) (args1:List aB) {r0:List aB} {r1:Int} (hf:qZ ps1 args1=some (r0,r1)) (h:Q (.ret (.tuple [.list (List.map aB.cells r0),iP r1])) τ):PC 7 [.list (List.map bN.cells ps1),.list (List.map aB.cells args1)] τ Q:=by
 unfold qZ at hf; refine AC.none (AC.jA 87 [.tmp 4,.tmp 5] [0,1] Tryz.func7 Z Z Z Z Z (AW.sr (AR.step Z Z Z (AO.d9 Z Z ?_)))); refine cs 1 Z (AR.nil [0,1] Z (AW.seq (AW.sr ?_))); refine cs 1 Z (AR.step Z Z Z (AO.aT (l:=args1) Z Z Z Z tF Z Z (cs 1 Z (AR.nil [0,1,16,17,18] Z ?_)))); refine AW.block (AW.settle [0,1,16,17,18] Z (AW.aaw (fun i1=>[(0,.list (List.map bN.cells ps1)),(1,.list (List.map aB.cells args1)),(16,.list (List.map aB.cells args1)),(17,iP (args1.length:Int)),(18,iP i1)]) (fun i1=>[]) (fun b_ i1=>tZ ps1 args1 b_ i1=some (r0,r1)) BIG 0 Z Z hf (fun _ hz=>bU hz) ?_)); intro b_ i1 hf; rw [tZ] at hf; refine AW.sr (cs 1 Z (AR.nil [0,1,16,17,18,19] Z (AW.seq ?_))); refine AW.cond Z (fun h1=>?_) (fun h1=>?_)
 ·
  replace hf:=jC h1 hf; refine AW.skip (AW.seq (AW.block (AW.sr ?_))); refine cs 1 Z ?_; refine B1 hf fun e1 h2 hf=>AR.step Z Z Z (AO.aZ h2 Z Z Z Z tF (aB.aF _) Z (cs 1 Z (AR.step Z Z Z (AO.aC Z MI (fun b7=>(cs 1 Z ?_)))))); refine AR.bC Z Z (AO.bO (i:=0) Z Z Z abp Z Z Z Z Z (AR.nil [0,1,6,7,16,17,18] Z (AW.sr (cs 1 Z ?_)))); refine AR.Lg 7 0 Z Z Z Z (cs 1 Z ?_); refine B1 hf fun ER h3 hf=>AR.step Z Z Z (AO.call Z _ Z Z abQ (lT _ (fun z0=>vC z0 e1) 20 [.ref (yI e1)] abP (fun _ _ hz=>Ka _ _ hz) h3 (cs 1 Z (AR.nil [0,1,6,7,8,16,17,18] Z (AW.seq ?_))))); refine AW.R9 0 9 11 [] [] mixed (by kernel_rfl) (by kernel_rfl) (by kernel_rfl) Z Z Z (List.Perm.refl _) ?_; refine Ev.nil ?_; show Ev _ _ _ _ _ _ _; refine Ev.cs bJ 2 Z ?_; refine B1 hf fun x1 h4 hf=>Ev.cons Z Z Z (AO.Ue h4 Z tF Z Z Z (aB.bB) Z ⟨_,Z⟩ zg) (Ev.cs bJ 2 Z ?_); obtain ⟨x2,M0,h5,hf⟩:=bM hf; refine Ev.cons Z Z Z (AO.call Z _ Z Z Wo (vJ _ _ h5 zg)) (Ev.cs bJ 3 Z (Ev.nil (TF.step Z Z Z (AO.aC Z gK (fun b9=>?_))))); refine TF.bC Z Z (AO.bO (i:=0) Z Z Z kY Z Z Z Z Z (TF.nil ?_)); show AR _ _ _ _ _ _ _ _; refine cs 1 Z (AR.nil [0,1,7,8,10,16,17,18] Z (AW.block (AW.sr ?_))); refine cs 3 Z (AR.nil [0,1,7,8,10,16,17,18,35] Z (AW.cond Z (fun h6=>?_) (fun h6=>?_)))
  · replace hf:=jC h6 hf; refine AW.sr (AR.step Z Z Z (AO.d9 Z Z (cs 1 Z (AR.nil [4,5] Z ?_)))); refine AW.ret ?_; cases hf; exact ⟨rfl,_,⟨_,_,rfl,rfl,_,_,rfl,rfl,rfl⟩,[],List.nil_sublist _,h⟩
  replace hf:=jf h6 hf; refine AW.sr (cs 2 Z (AR.nil [0,1,7,8,16,17,18,38] Z (AW.cond Z (fun h7=>?_) (fun h7=>?_))))
  · replace hf:=jC h7 hf; refine AW.sr (AR.step Z Z Z (AO.d9 Z Z (cs 1 Z (AR.nil [4,5] Z ?_)))); refine AW.ret ?_; cases hf; exact ⟨rfl,_,⟨_,_,rfl,rfl,_,_,rfl,rfl,rfl⟩,[],List.nil_sublist _,h⟩
  replace hf:=jf h7 hf; refine AW.seq (AW.draw 10 mixed (by kernel_rfl) Z ?_); refine Ev.cs bJ 4 Z ?_; refine B1 hf fun e2 h8 hf=>Ev.cons Z Z Z (AO.aZ h8 Z Z Z Z PZ (bN.aF _) Z zg) (Ev.cs bJ 2 Z ?_); refine B1 hf fun x3 h9 hf=>Ev.cons Z Z Z (AO.call Z _ Z Z abO (Ig _ _ h9 zg)) (Ev.cs bJ 2 Z (Ev.nil ?_)); show AR _ _ _ _ _ _ _ _; refine AR.nil [0,1,16,17,18,40] Z (AW.cond Z (fun h10=>?_) (fun h10=>?_))
  · replace hf:=jC h10 hf; refine AW.sr (AR.step Z Z Z (AO.d9 Z Z (cs 1 Z (AR.nil [4,5] Z ?_)))); refine AW.ret ?_; cases hf; exact ⟨rfl,_,⟨_,_,rfl,rfl,_,_,rfl,rfl,rfl⟩,[],List.nil_sublist _,h⟩
  replace hf:=jf h10 hf; refine AW.skip (AW.region (cs 2 Z (AR.drop1 ?_))); refine AR.nil [0,1,16,17,18] Z ?_; exact ⟨(dG (i1 + 1)),Z,Z,Z,hf⟩
 replace hf:=jf h1 hf; refine AW.exit (AW.sr (cs 1 Z (AR.nil [0,1,11] Z ?_))); refine AW.seq (AW.sr (cs 1 Z (AR.step Z Z Z (AO.aT (l:=ps1) Z Z Z Z PZ Z Z ?_)))); refine cs 1 Z (AR.nil [1,11,51,52,53] Z (AW.block (AW.row 7 54 ?_))); refine AW.settle [1,11,51,52,53] Z (AW.aav (fun aY v1 x4=>[(1,.list (List.map aB.cells args1)),(11,.own v1 (List.map aB.cells aY)),(51,.list (List.map bN.cells ps1)),(52,iP (ps1.length:Int)),(53,iP x4)]) (fun aY v1 x4=>[.row v1 (List.map aB.cells aY).length 7 54]) (fun IZ aY v1 x4=>nG ps1 args1 IZ aY x4=some (r0,r1)) BIG [] (.slice none 0 0) 0 Z Z hf (fun _ _ _ hz=>bU hz) ?_); intro IZ aY v1 x4 hf; rw [nG] at hf; refine AW.sr (cs 1 Z (AR.nil [1,11,51,52,53,54] Z (AW.seq ?_))); refine AW.cond Z (fun h11=>?_) (fun h11=>?_)
 ·
  replace hf:=jC h11 hf; refine AW.skip (AW.seq (AW.block (AW.sr ?_))); refine B1 hf fun e3 h12 hf=>AR.step Z Z Z (AO.aZ h12 Z Z Z Z PZ (bN.aF _) Z (cs 1 Z (AR.step Z Z Z (AO.aC Z TP (fun b13=>(AR.bC Z Z (AO.bO (i:=0) Z Z Z abo Z Z Z Z Z ?_))))))); refine AR.nil [1,11,13,51,52,53] Z (AW.sr (cs 2 Z (AR.step Z Z Z (AO.aR (i:=0) Z Z Z M4 Z Z ?_)))); obtain ⟨x5,is1,l6,hf⟩:=bM hf; refine AR.step Z Z Z (AO.call Z _ Z Z Wo (vJ _ _ l6 (cs 3 Z (AR.step Z Z Z (AO.aC Z gK (fun b14=>(AR.bC Z Z (AO.bO (i:=0) Z Z Z kY Z Z Z Z Z ?_)))))))); refine cs 1 Z (AR.nil [1,11,13,14,15,51,52,53] Z (AW.seq ?_)); refine AW.acs (fun v2=>[(1,.list (List.map aB.cells args1)),(11,.own v1 (List.map aB.cells aY)),(13,pP b13),(14,pP b14),(51,.list (List.map bN.cells ps1)),(52,iP (ps1.length:Int)),(53,iP x4)]) (fun v2=>[.box b14 (aL v2),.box b13 (wh e3),.row v1 (List.map aB.cells aY).length 7 54]) (fun v2=>t_ aY x4 e3 (nG ps1 args1 IZ) v2=some (r0,r1)) ?_ ?_
  ·
   refine AW.block (AW.sr (cs 3 Z (AR.and 4 67 71 [1,11,13,14,15,51,52,53] (x:=(!e3.has)) Z Z (fun lH=>?_) (fun lH=>?_) ?_)))
   · refine AR.is 67 lH Z (cs 1 Z (AR.go Z Z Z Z Z Z (AO.aR (i:=1) Z Z Z abq Z Z (cs 2 Z ?_)))); refine AR.nil [71,1,11,13,14,15,51,52,53] Z ?_; exact ⟨Z,Z,Z,Z⟩
   · refine AR.is 67 lH Z (cs 4 Z (AR.nil [71,1,11,13,14,15,51,52,53] Z ?_)); exact ⟨Z,Z,Z,Z⟩
   refine cs 1 Z (AR.nil [1,11,13,14,15,51,52,53,64] Z (AW.cond Z (fun rO=>?_) (fun rO=>?_)))
   · replace hf:=jC rO hf; refine AW.sr (AR.step Z Z Z (AO.d9 Z Z (cs 1 Z (AR.nil [4,5] Z ?_)))); refine AW.ret ?_; cases hf; exact ⟨rfl,_,⟨_,_,rfl,rfl,_,_,rfl,rfl,rfl⟩,[],List.nil_sublist _,h⟩
   replace hf:=jf rO hf; refine AW.sr (cs 3 Z (AR.nil [1,11,13,14,51,52,53,72] Z (AW.cond Z (fun h16=>?_) (fun h16=>?_))))
   · replace hf:=jC h16 hf; refine AW.region (cs 1 Z (AR.step Z Z Z (AO.aR (i:=1) Z Z Z kY Z Z (AR.bC Z Z (AO.bO (i:=0) Z Z Z kY Z Z Z Z Z ?_))))); refine AR.nil [1,11,13,14,51,52,53] Z ?_; exact ⟨e3.default,Z,Z,Z,hf⟩
   replace hf:=jf h16 hf; refine AW.settle [1,11,13,14,51,52,53] Z (AW.skip ?_); exact ⟨x5,Z,Z,Z,hf⟩
  intro v2 hf; unfold t_ at hf; refine AW.draw 7 mixed (by kernel_rfl) Z ?_; refine Ev.cs bJ 2 Z (Ev.cons Z Z Z (AO.aR (i:=1) Z Z Z M4 Z Z zg) (Ev.cons Z Z Z (AO.aR (i:=0) Z Z Z kY Z Z zg) ?_)); refine B1 hf fun x6 xM hf=>Ev.cons rfl rfl rfl (AO.call rfl _ rfl rfl Uj (tL _ xM ⟨rfl,rfl⟩)) (Ev.cons rfl rfl rfl (AO.build rfl MI V3 rfl ⟨rfl,rfl⟩) (Ev.cons rfl rfl rfl (AO.bD (List.map aB.cells [(aB.mk e3.name x6)]) rfl CW rfl rfl rfl (by first | rfl | simp only [List.map,aB.aF]) ⟨rfl,rfl⟩) ?_))
  refine Ev.nil ?_; show AR _ _ _ _ _ _ _ _; refine B1 hf fun j6 h18 hf=>AR.step Z Z Z (AO.eB (i:=2) (l:=aY) (m:=[(aB.mk e3.name x6)]) h18 Z Z Z Z Z Z Z CW tF Z Z Z (aB.bB) (aB.cells_one) (by decide) (fun v3 s1 hs1=>?_)); cases hs1; refine cs 1 Z (AR.nil [1,11,51,52,53] Z (AW.region (cs 2 Z ?_))); refine AR.drop1 (AR.drop1 (AR.nil [1,11,51,52,53] Z ?_)); exact ⟨j6,v3,(dG (x4 + 1)),Z,Z,Z,hf⟩
 replace hf:=jf h11 hf; refine AW.exit (AW.sr (cs 3 Z (AR.nil [4,5] Z ?_))); refine AW.ret ?_; cases hf; exact ⟨rfl,_,⟨_,_,rfl,rfl,_,_,rfl,rfl,rfl⟩,[],List.nil_sublist _,h⟩
theorem Mv (s1:Str) (jB:Int) {r0:Int} (hf:Cu s1 jB=some r0) (h:Q (.ret (iP r0)) τ):PC 217 [.str s1,iP jB] τ Q:=by
 unfold Cu at hf; refine BN 27 [.tmp 4] [0,1] Tryz.func217 Z Z Z Z Z (V 4 Z (Kl (fun i1=>[(0,.str s1),(5,iP i1)]) (fun i1=>[]) (fun b_ i1=>pV s1 b_ i1=some r0) BIG (dG (jB + 1)) Z Z hf (fun _ hz=>bU hz) ?_)); intro b_ i1 hf; rw [pV] at hf; refine W 2 Z (AS Z (AO.dO Z Z Z Z eH Z (J 1 Z (C hf Z (fun h1 hf=>?_) fun h1 hf=>?_))))
 ·
  refine B1 hf fun x1 h2 hf=>W 2 Z (AS Z (AO.gZ h2 Z eH Z Z (J 2 Z (C hf Z (fun h3 hf=>?_) fun h3 hf=>?_))))
  · exact M 6 Z ⟨(dG ((dG (i1 + 1)) + 1)),Z,Z,Z,hf⟩
  refine V 2 Z (C hf Z (fun h4 hf=>?_) fun h4 hf=>?_)
  · cases hf; exact M 3 Z (Y Z h)
  exact M 3 Z ⟨(dG (i1 + 1)),Z,Z,Z,hf⟩
 refine W 1 Z (AS Z (AO.dO Z Z Z Z eH Z ?_)); cases hf; exact N 1 Z (Y Z h)
theorem K5 (s1:Str) (jB:Int) {r0:Int} (hf:AJ s1 jB=some r0) (h:Q (.ret (iP r0)) τ):PC 184 [.str s1,iP jB] τ Q:=by
 unfold AJ at hf; refine BN 31 [.tmp 4] [0,1] Tryz.func184 Z Z Z Z Z (V 2 Z (Vn (fun at2 jY=>[(0,.str s1),(1,iP at2),(5,iP jY)]) (fun at2 jY=>[]) (fun b_ at2 jY=>lD s1 b_ at2 jY=some r0) BIG jB 0 Z Z hf (fun _ _ hz=>bU hz) ?_)); intro b_ at2 jY hf; rw [lD] at hf; refine W 2 Z (AS Z (AO.dO Z Z Z Z eH Z (J 1 Z (C hf Z (fun h1 hf=>?_) fun h1 hf=>?_))))
 ·
  refine B1 hf fun x1 h2 hf=>W 2 Z (AS Z (AO.gZ h2 Z eH Z Z (J 2 Z (C hf Z (fun h3 hf=>?_) fun h3 hf=>?_))))
  · refine B1 hf fun at3 h4 hf=>W 2 Z (CL Z (Mv _ _ h4 ?_)); exact N 1 Z ⟨at3,jY,Z,Z,Z,hf⟩
  refine V 2 Z (C hf Z (fun h5 hf=>?_) fun h5 hf=>?_)
  · exact M 6 Z ⟨(dG (at2 + 1)),(dG (jY + 1)),Z,Z,Z,hf⟩
  refine V 2 Z (C hf Z (fun h6 hf=>?_) fun h6 hf=>?_)
  ·
   refine V 2 Z (C hf Z (fun h7 hf=>?_) fun h7 hf=>?_)
   · cases hf; exact M 2 Z (Y Z h)
   exact M 6 Z ⟨(dG (at2 + 1)),(dG (jY - 1)),Z,Z,Z,hf⟩
  exact M 3 Z ⟨(dG (at2 + 1)),jY,Z,Z,Z,hf⟩
 cases hf; exact M 1 Z (Y Z h)
theorem K4 (nY:Int) {r0:Bool} (hf:AB nY=some r0) (h:Q (.ret (.bool r0)) τ):PC 252 [.int .i32 nY] τ Q:=by
 unfold AB at hf; refine BN 9 [.tmp 2] [0] Tryz.func252 Z Z Z Z Z (W 4 Z (On 3 5 8 [] (nY == 9) Z Z Z Z ?_)); cases hf; exact N 1 Z (Y Z h)
theorem CP (s1:Str) (jB:Int) (F5:UInt8→Option Bool) (MH:FuncId) (QU:List PV) (Yq:aX Tryz.prog MH=true) (Yr:∀ a0 b0,F5 a0=some b0→∀ {τ:List aV} {Q:cO→List aV→Prop},Q (.ret (.bool b0)) τ→PC MH ([.int .u8 (a0.toNat:Int)] ++ QU) τ Q) {r0:Int} (hf:yX s1 jB F5=some r0) (h:Q (.ret (iP r0)) τ):PC 253 [.str s1,iP jB,.fn MH QU] τ Q:=by
 unfold yX at hf; refine BN 21 [.tmp 6] [0,1,2] Tryz.func253 Z Z Z Z Z (V 1 Z (Kl (fun at2=>[(0,.str s1),(1,iP at2),(2,.fn MH QU)]) (fun at2=>[]) (fun b_ at2=>wR s1 F5 b_ at2=some r0) BIG jB Z Z hf (fun _ hz=>bU hz) ?_)); intro b_ at2 hf; rw [wR] at hf; refine W 2 Z (AS Z (AO.dO Z Z Z Z eH Z ?_)); refine B1 hf fun b1 h2 hf=>U 2 Z (AR.gI 6 11 17 true [0,1,2] b1 Z Z (fun h1=>?_) (fun h1=>?_) ?_)
 · refine IT 11 h1 h2 Z fun h2=>?_; refine B1 h2 fun x1 h3 h2=>U 3 Z (GO Z (AO.gZ h3 Z eH Z Z ?_)); refine BR h2 fun x2 h4 h2=>?_; refine GO Z (AO.call Z _ Z Z Yq (Yr _ _ h4 ?_)); cases h2; exact fZ 1 Z (En [17,0,1,2] Z)
 · refine IF 11 h1 h2 Z fun h2=>?_; cases h2; exact fZ 6 Z (En [17,0,1,2] Z)
 refine J 0 Z (C hf Z (fun h5 hf=>?_) fun h5 hf=>?_)
 · exact M 3 Z ⟨(dG (at2 + 1)),Z,Z,Z,hf⟩
 cases hf; exact M 2 Z (Y Z h)
theorem K3 (c1:UInt8) {r0:Bool} (hf:wU c1=some r0) (h:Q (.ret (.bool r0)) τ):PC 254 [.int .u8 (c1.toNat:Int)] τ Q:=by
 unfold wU at hf; refine BN 5 [.tmp 2] [0] Tryz.func254 Z Z Z Z Z ?_; cases hf; exact M 4 Z (Y Z h)
theorem Bg (c1:UInt8) {r0:Bool} (hf:wS c1=some r0) (h:Q (.ret (.bool r0)) τ):PC 279 [.int .u8 (c1.toNat:Int)] τ Q:=by
 unfold wS at hf; refine BN 21 [.tmp 2] [0] Tryz.func279 Z Z Z Z Z (W 4 Z (An 3 5 8 [0] (decide ((c1.toNat:Int)≤122)) Z Z Z Z (U 1 Z (AR.or 7 9 16 [0] (x:=((decide (65≤(c1.toNat:Int))) && (decide ((c1.toNat:Int)≤90)))) Z Z (fun h2=>?_) (fun h2=>?_) ?_))))
 · refine Is 9 h2 Z (U 3 Z (An 3 12 15 [0,9] (decide ((c1.toNat:Int)≤90)) Z Z Z Z ?_)); exact fZ 1 Z (En [16,0] Z)
 · refine Is 9 h2 Z ?_; exact fZ 7 Z (En [16,0] Z)
 refine U 1 Z (On 3 17 20 [] ((c1.toNat:Int) == 95) Z Z Z Z ?_); cases hf; exact N 1 Z (Y Z h)
theorem yM (c1:UInt8) {r0:Bool} (hf:sO c1=some r0) (h:Q (.ret (.bool r0)) τ):PC 281 [.int .u8 (c1.toNat:Int)] τ Q:=by
 unfold sO at hf; refine BN 9 [.tmp 2] [0] Tryz.func281 Z Z Z Z Z (W 4 Z (An 3 5 8 [] (decide ((c1.toNat:Int)≤57)) Z Z Z Z ?_)); cases hf; exact N 1 Z (Y Z h)
theorem Oo (c1:UInt8) {r0:Bool} (hf:zV c1=some r0) (h:Q (.ret (.bool r0)) τ):PC 309 [.int .u8 (c1.toNat:Int)] τ Q:=by
 unfold zV at hf; refine BN 9 [.tmp 2] [0] Tryz.func309 Z Z Z Z Z ?_; refine B1 hf fun x1 h1 hf=>W 2 Z (CL Z (Bg _ h1 ?_)); refine BR hf fun b1 h3 hf=>?_; refine U 1 Z (AR.gI 3 5 8 false [] b1 Z Z (fun h2=>?_) (fun h2=>?_) ?_)
 · refine IF 5 h2 h3 Z fun h3=>?_; refine BR h3 fun x2 h4 h3=>?_; refine U 1 Z (GO Z (AO.call Z _ Z Z Wj (yM _ h4 ?_))); cases h3; exact fZ 1 Z (En [8] Z)
 · refine IT 5 h2 h3 Z fun h3=>?_; cases h3; exact fZ 3 Z (En [8] Z)
 cases hf; exact N 1 Z (Y Z h)
theorem Q6 (fP:Str) (jB:Int) {r0:aS} {r1:Int} {r2:Int} (hf:IY fP jB=some (r0,r1,r2)) (h:Q (.ret (.tuple [.agg (vZ r0),iP r1,iP r2])) τ):PC 280 [.str fP,iP jB] τ Q:=by
 unfold IY at hf; refine BN 23 [.cell 4 243,.tmp 5,.tmp 6] [0,1] Tryz.func280 Z Z Z Z Z (W 0 Z (AS Z (AO.aC Z vL (fun b4=>?_)))); refine B1 hf fun uN h1 hf=>U 4 Z (CL Z (CP _ _ zV 309 [] Zo (fun _ _ hz=>Oo _  hz) h1 (J 5 Z (C hf Z (fun h2 hf=>?_) fun h2 hf=>?_))))
 · cases hf; exact Wx 4 [0] Z Z (ZC [0] Z Z h)
 refine B1 hf fun x1 h3 hf=>W 3 Z (AS Z (AO.pQ h3 Z eH Z ⟨_,Z⟩ ⟨_,Z⟩ ?_)); cases hf; exact Rx 6 [0] Z Z (ZC [0] Z Z h)
theorem Pt (yK:Str) {r0:Bool} (hf:FN yK=some r0) (h:Q (.ret (.bool r0)) τ):PC 310 [.str yK] τ Q:=by
 unfold FN at hf; refine BN 25 [.tmp 2] [0] Tryz.func310 Z Z Z Z Z (V 3 Z (Vn (fun n1 i1=>[(0,.str yK),(3,iP n1),(4,iP i1)]) (fun n1 i1=>[]) (fun b_ n1 i1=>wT yK b_ n1 i1=some r0) BIG 0 0 Z Z hf (fun _ _ hz=>bU hz) ?_)); intro b_ n1 i1 hf; rw [wT] at hf; refine W 2 Z (AS Z (AO.dO Z Z Z Z eH Z (U 2 Z (An 3 9 12 [0,3,4] (decide (n1≤9007199254740992)) Z Z Z Z (J 0 Z (C hf Z (fun h2 hf=>?_) fun h2 hf=>?_))))))
 · refine B1 hf fun x1 h3 hf=>W 4 Z (AS Z (AO.gZ h3 Z eH Z Z (AS Z (AO.Qo x1 48 Z Z Z Z Z (AS Z (AO.wo Z Du EO Z Z ?_)))))); exact N 5 Z ⟨(dG ((dG (10 * n1)) + ((x1 - 48).toNat:Int))),(dG (i1 + 1)),Z,Z,Z,hf⟩
 cases hf; exact M 3 Z (Y Z h)
theorem Om (fP:Str) (jB:Int) {r0:aS} {r1:Int} {r2:Int} (hf:DV fP jB=some (r0,r1,r2)) (h:Q (.ret (.tuple [.agg (vZ r0),iP r1,iP r2])) τ):PC 282 [.str fP,iP jB] τ Q:=by
 unfold DV at hf; refine BN 44 [.cell 4 243,.tmp 5,.tmp 6] [0,1] Tryz.func282 Z Z Z Z Z (W 0 Z (AS Z (AO.aC Z vL (fun b4=>?_)))); refine B1 hf fun uN h1 hf=>U 4 Z (CL Z (CP _ _ sO 281 [] Wj (fun _ _ hz=>yM _  hz) h1 ?_)); refine B1 hf fun text1 h2 hf=>U 4 Z (AS Z (AO.pQ h2 Z eH Z ⟨_,Z⟩ ⟨_,Z⟩ (U 2 Z (AS Z (AO.dO Z Z Z Z eH Z ?_))))); refine B1 hf fun b1 h4 hf=>U 2 Z (AR.gI 4 19 23 true [0,1,4,7,8] b1 Z Z (fun h3=>?_) (fun h3=>?_) ?_)
 · refine IT 19 h3 h4 Z fun h4=>?_; refine B1 h4 fun x1 h5 h4=>U 1 Z (GO Z (AO.gZ h5 Z eH Z Z ?_)); cases h4; exact fZ 2 Z (En [23,0,1,4,7,8] Z)
 · refine IF 19 h3 h4 Z fun h4=>?_; cases h4; exact fZ 4 Z (En [23,0,1,4,7,8] Z)
 refine B1 hf fun b2 h7 hf=>U 1 Z (AR.gI 11 24 35 false [1,4,7,8] b2 Z Z (fun h6=>?_) (fun h6=>?_) ?_)
 ·
  replace h7:=jf h6 h7; refine Is 24 h6 Z (U 2 Z (GO Z (AO.dO Z Z Z Z eH Z ?_))); refine BR h7 fun b3 h9 h7=>?_; refine U 2 Z (AR.gI 5 29 34 true [1,4,7,8,24] b3 Z Z (fun h8=>?_) (fun h8=>?_) ?_)
  · refine IT 29 h8 h9 Z fun h9=>?_; refine B1 h9 fun x2 h10 h9=>U 2 Z (GO Z (AO.gZ h10 Z eH Z Z ?_)); refine BR h9 fun x3 h11 h9=>?_; refine GO Z (AO.call Z _ Z Z Zq (Bg _ h11 ?_)); cases h9; exact fZ 1 Z (En [34,1,4,7,8,24] Z)
  · refine IF 29 h8 h9 Z fun h9=>?_; cases h9; exact fZ 5 Z (En [34,1,4,7,8,24] Z)
  cases h7; exact fZ 1 Z (En [35,1,4,7,8] Z)
 · refine IT 24 h6 h7 Z fun h7=>?_; cases h7; exact fZ 11 Z (En [35,1,4,7,8] Z)
 refine J 0 Z (C hf Z (fun h12 hf=>?_) fun h12 hf=>?_)
 · cases hf; exact Wx 4 [0] Z Z (ZC [0] Z Z h)
 refine B1 hf fun x4 l6 hf=>W 1 Z (CL Z (Pt _ l6 (J 0 Z (C hf Z (fun lH hf=>?_) fun lH hf=>?_))))
 · cases hf; exact Wx 4 [0] Z Z (ZC [0] Z Z h)
 cases hf; exact Wx 7 [0] Z Z (ZC [0] Z Z h)
theorem zi (c1:UInt8) {r0:Int} (hf:xW c1=some r0) (h:Q (.ret (iP r0)) τ):PC 328 [.int .u8 (c1.toNat:Int)] τ Q:=by
 unfold xW at hf; refine BN 31 [.tmp 2] [0] Tryz.func328 Z Z Z Z Z ?_; refine B1 hf fun x1 h1 hf=>W 2 Z (CL Z (yM _ h1 (J 1 Z (C hf Z (fun h2 hf=>?_) fun h2 hf=>?_))))
 · refine W 1 Z (AS Z (AO.Qo c1 48 Z Z Z Z Z (AS Z (AO.wo Z Du EO Z Z ?_)))); cases hf; exact N 1 Z (Y Z h)
 refine W 3 Z (An 3 12 15 [0] (decide ((c1.toNat:Int)≤102)) Z Z Z Z (J 1 Z (C hf Z (fun h4 hf=>?_) fun h4 hf=>?_)))
 · refine W 1 Z (AS Z (AO.Qo c1 97 Z Z Z Z Z (AS Z (AO.wo Z Du EO Z Z ?_)))); cases hf; exact N 2 Z (Y Z h)
 refine W 3 Z (An 3 23 26 [0] (decide ((c1.toNat:Int)≤70)) Z Z Z Z (J 1 Z (C hf Z (fun h6 hf=>?_) fun h6 hf=>?_)))
 · refine W 1 Z (AS Z (AO.Qo c1 65 Z Z Z Z Z (AS Z (AO.wo Z Du EO Z Z ?_)))); cases hf; exact N 2 Z (Y Z h)
 cases hf; exact M 1 Z (Y Z h)
theorem Mt (fP:Str) (jB:Int) {r0:UInt8} {r1:Int} (hf:Ct fP jB=some (r0,r1)) (h:Q (.ret (.tuple [.int .u8 (r0.toNat:Int),iP r1])) τ):PC 311 [.str fP,iP jB] τ Q:=by
 unfold Ct at hf; refine BN 61 [.tmp 4,.tmp 5] [0,1] Tryz.func311 Z Z Z Z Z (W 5 Z (AS Z (AO.dO Z Z Z Z eH Z (J 1 Z (C hf Z (fun h1 hf=>?_) fun h1 hf=>?_)))))
 · cases hf; exact M 2 Z (Y Z h)
 refine B1 hf fun c1 h2 hf=>W 3 Z (AS Z (AO.gZ h2 Z eH Z Z (J 4 Z (C hf Z (fun h3 hf=>?_) fun h3 hf=>?_))))
 ·
  refine V 0 Z (AW.cond Z (fun h4=>?_) (fun h4=>?_))
  · cases hf; exact M 3 Z (Y Z h)
  cases h3.symm.trans h4
 refine V 2 Z (C hf Z (fun h5 hf=>?_) fun h5 hf=>?_)
 · cases hf; exact M 3 Z (Y Z h)
 refine V 2 Z (C hf Z (fun h6 hf=>?_) fun h6 hf=>?_)
 · cases hf; exact M 2 Z (Y Z h)
 refine V 2 Z (C hf Z (fun h7 hf=>?_) fun h7 hf=>?_)
 · cases hf; exact M 2 Z (Y Z h)
 refine V 2 Z (C hf Z (fun h8 hf=>?_) fun h8 hf=>?_)
 ·
  refine W 3 Z (AS Z (AO.dO Z Z Z Z eH Z ?_)); refine B1 hf fun b1 h10 hf=>U 2 Z (AR.gI 7 32 39 true [0,1] b1 Z Z (fun h9=>?_) (fun h9=>?_) ?_)
  · refine IT 32 h9 h10 Z fun h10=>?_; refine B1 h10 fun x1 h11 h10=>U 3 Z (GO Z (AO.gZ h11 Z eH Z Z ?_)); refine B1 h10 fun x2 h12 h10=>GO Z (AO.call Z _ Z Z Ng (zi _ h12 ?_)); cases h10; exact fZ 2 Z (En [39,0,1] Z)
  · refine IF 32 h9 h10 Z fun h10=>?_; cases h10; exact fZ 7 Z (En [39,0,1] Z)
  refine B1 hf fun b2 lH hf=>U 1 Z (AR.gI 7 40 47 true [0,1] b2 Z Z (fun l6=>?_) (fun l6=>?_) ?_)
  · refine IT 40 l6 lH Z fun lH=>?_; refine B1 lH fun x3 rO lH=>U 3 Z (GO Z (AO.gZ rO Z eH Z Z ?_)); refine B1 lH fun x4 h16 lH=>GO Z (AO.call Z _ Z Z Ng (zi _ h16 ?_)); cases lH; exact fZ 2 Z (En [47,0,1] Z)
  · refine IF 40 l6 lH Z fun lH=>?_; cases lH; exact fZ 7 Z (En [47,0,1] Z)
  refine J 0 Z (C hf Z (fun xM hf=>?_) fun xM hf=>?_)
  ·
   refine V 0 Z (AW.draw 15 mixed (by kernel_rfl) Z ?_); refine Ev.cs bJ 3 Z ?_; refine B1 hf fun x5 h18 hf=>Ev.cons Z Z Z (AO.gZ h18 Z eH Z Z zg) ?_; refine B1 hf fun x6 h19 hf=>Ev.cons Z Z Z (AO.call Z _ Z Z Ng (zi _ h19 zg)) (Ev.cs bJ 4 Z ?_); refine B1 hf fun x7 h20 hf=>Ev.cons Z Z Z (AO.gZ h20 Z eH Z Z zg) ?_; refine B1 hf fun x8 h21 hf=>Ev.cons Z Z Z (AO.call Z _ Z Z Ng (zi _ h21 zg)) (Ev.cs bJ 1 Z (Ev.cons Z Z Z (AO.Df Z EO Du Z zg) (Ev.cs bJ 2 Z ?_))); refine Ev.nil ?_; show AR _ _ _ _ _ _ _ _; cases hf; exact N 0 Z (Y Z h)
  cases hf; exact M 2 Z (Y Z h)
 cases hf; exact M 2 Z (Y Z h)
theorem Pq (fP:Str) (jB:Int) {r0:Bool} (hf:FM fP jB=some r0) (h:Q (.ret (.bool r0)) τ):PC 312 [.str fP,iP jB] τ Q:=by
 unfold FM at hf; refine BN 32 [.tmp 4] [0,1] Tryz.func312 Z Z Z Z Z ?_; refine B1 hf fun iZ h1 hf=>W 4 Z (AS Z (AO.pQ h1 Z eH Z ⟨_,Z⟩ Z (U 4 Z (On 3 12 15 [5] (iZ == ([120]:Str)) Z Z Z Z ?_)))); refine BR hf fun b1 h4 hf=>?_; refine U 1 Z (AR.gI 15 16 31 false [] b1 Z Z (fun h3=>?_) (fun h3=>?_) ?_)
 ·
  replace h4:=jf h3 h4; refine Is 16 h3 Z (U 1 Z (GO Z (AO.dO Z Z Z Z eH Z ?_))); refine B1 h4 fun b2 h6 h4=>U 2 Z (AR.gI 4 20 24 true [5,16] b2 Z Z (fun h5=>?_) (fun h5=>?_) ?_)
  · refine IT 20 h5 h6 Z fun h6=>?_; refine B1 h6 fun x1 h7 h6=>U 1 Z (GO Z (AO.gZ h7 Z eH Z Z ?_)); cases h6; exact fZ 2 Z (En [24,5,16] Z)
  · refine IF 20 h5 h6 Z fun h6=>?_; cases h6; exact fZ 4 Z (En [24,5,16] Z)
  refine BR h4 fun b3 h9 h4=>?_; refine U 1 Z (AR.gI 5 25 30 true [16] b3 Z Z (fun h8=>?_) (fun h8=>?_) ?_)
  · refine IT 25 h8 h9 Z fun h9=>?_; refine B1 h9 fun x2 h10 h9=>U 1 Z (GO Z (AO.gZ h10 Z eH Z Z ?_)); refine B1 h9 fun x3 h11 h9=>GO Z (AO.call Z _ Z Z Ng (zi _ h11 ?_)); cases h9; exact fZ 2 Z (En [30,16] Z)
  · refine IF 25 h8 h9 Z fun h9=>?_; cases h9; exact fZ 5 Z (En [30,16] Z)
  cases h4; exact fZ 1 Z (En [31] Z)
 · refine IT 16 h3 h4 Z fun h4=>?_; cases h4; exact fZ 15 Z (En [31] Z)
 cases hf; exact N 1 Z (Y Z h)
theorem Q5 (fP:Str) (jB:Int) {r0:aS} {r1:Int} {r2:Int} (hf:IX fP jB=some (r0,r1,r2)) (h:Q (.ret (.tuple [.agg (vZ r0),iP r1,iP r2])) τ):PC 283 [.str fP,iP jB] τ Q:=by
 unfold IX at hf; refine BN 68 [.cell 4 243,.tmp 5,.tmp 6] [0,1] Tryz.func283 Z Z Z Z Z (W 0 Z (AS Z (AO.aC Z vL (fun b4=>(U 2 Z (AS Z (AO.Ai (eu:=5) Z Kq Z (fun b7=>(J 3 Z (Rj (fun i1 b1 v1=>[(0,.str fP),(1,iP jB),(4,pP b4),(7,pP b7),(8,iP i1)]) (fun i1 b1 v1=>[.Io b7 v1 167 5 b1,.box b4 [iP 0,.str ([]:Str),iP 0]]) (fun b_ i1 b1 v1=>uY fP jB b_ i1 b1=some (r0,r1,r2)) BIG (dG (jB + 1)) [] (.slice none 0 0) Z Z hf (fun _ _ _ hz=>bU hz) ?_)))))))))); intro b_ i1 b1 v1 hf; rw [uY] at hf; refine W 2 Z (AS Z (AO.dO Z Z Z Z eH Z (J 1 Z (C hf Z (fun h1 hf=>?_) fun h1 hf=>?_))))
 ·
  refine B1 hf fun c1 h2 hf=>W 2 Z (AS Z (AO.gZ h2 Z eH Z Z (J 4 Z (C hf Z (fun h3 hf=>?_) fun h3 hf=>?_))))
  ·
   refine W 0 Z (CL Z (AC.one 0 Z (P_ ⟨_,Z,(J 1 Z (C hf Z (fun h4 hf=>?_) fun h4 hf=>?_))⟩)))
   · cases hf; exact Wx 4 [1] Z Z (ZC [1] Z Z h)
   refine W 0 Z (CL Z (AC.GH 0 Z (uz ?_))); cases hf; exact Rx 7 [0] Z Z (ZC [0] Z Z h)
  refine V 3 Z (C hf Z (fun h5 hf=>?_) fun h5 hf=>?_)
  · cases hf; exact Wx 4 [1] Z Z (ZC [1] Z Z h)
  refine V 3 Z (C hf Z (fun h6 hf=>?_) fun h6 hf=>?_)
  ·
   obtain ⟨x1,n1,h7,hf⟩:=bM hf; refine W 2 Z (CL Z (Mt _ _ h7 ?_)); refine B1 hf fun b2 h9 hf=>U 8 Z (AR.gI 4 52 56 true [0,1,4,7,8,10,11] b2 Z Z (fun h8=>?_) (fun h8=>?_) ?_)
   · refine IT 52 h8 h9 Z fun h9=>?_; refine BR h9 fun x2 h10 h9=>?_; refine U 2 Z (GO Z (AO.call Z _ Z Z Zn (Pq _ _ h10 ?_))); cases h9; exact fZ 1 Z (En [56,0,1,4,7,8,10,11] Z)
   · refine IF 52 h8 h9 Z fun h9=>?_; cases h9; exact fZ 4 Z (En [56,0,1,4,7,8,10,11] Z)
   refine J 1 Z (C hf Z (fun h11 hf=>?_) fun h11 hf=>?_)
   · cases hf; exact Wx 4 [1] Z Z (ZC [1] Z Z h)
   refine V 3 Z (C hf Z (fun h12 hf=>?_) fun h12 hf=>?_)
   · cases hf; exact Wx 4 [1] Z Z (ZC [1] Z Z h)
   refine B1 hf fun b3 l6 hf=>W 1 Z (CL Z (AC.one 0 Z (gV l6 (fun v2=>⟨_,Z,?_⟩)))); exact N 4 Z ⟨(dG (i1 + n1)),b3,v2,Z,Z,Z,hf⟩
  refine B1 hf fun b4 lH hf=>W 1 Z (CL Z (AC.one 0 Z (gV lH (fun v3=>⟨_,Z,?_⟩)))); exact N 3 Z ⟨(dG (i1 + 1)),b4,v3,Z,Z,Z,hf⟩
 cases hf; exact Wx 4 [1] Z Z (ZC [1] Z Z h)
theorem KY (fP:Str) (jB:Int) {r0:aS} {r1:Int} {r2:Int} (hf:Az fP jB=some (r0,r1,r2)) (h:Q (.ret (.tuple [.agg (vZ r0),iP r1,iP r2])) τ):PC 284 [.str fP,iP jB] τ Q:=by
 unfold Az at hf; refine BN 63 [.cell 4 243,.tmp 5,.tmp 6] [0,1] Tryz.func284 Z Z Z Z Z (W 0 Z (AS Z (AO.aC Z vL (fun b4=>(U 2 Z (AS Z (AO.bD (List.map JU ([2,1]:List Int)) Z M9 Z Z Z Z (AS Z (AO.aT (l:=([2,1]:List Int)) Z Z Z Z Cz Z Z ?_))))))))); refine J 1 Z (Kl (fun x1=>[(0,.str fP),(1,iP jB),(4,pP b4),(10,.list (List.map JU ([2,1]:List Int))),(11,iP (([2,1]:List Int).length:Int)),(12,iP x1)]) (fun x1=>[.box b4 [iP 0,.str ([]:Str),iP 0]]) (fun b_ x1=>oK fP jB b_ x1=some (r0,r1,r2)) BIG 0 Z Z hf (fun _ hz=>bU hz) ?_); intro b_ x1 hf; rw [oK] at hf; refine V 1 Z (C hf Z (fun h1 hf=>?_) fun h1 hf=>?_)
 ·
  refine B1 hf fun n1 h2 hf=>W 0 Z (AS Z (AO.aZ h2 Z Z Z Z Cz Z Z (U 6 Z (AS Z (AO.dO Z Z Z Z eH Z (J 1 Z (C hf Z (fun h3 hf=>?_) fun h3 hf=>?_)))))))
  · exact M 2 Z ⟨(dG (x1 + 1)),Z,Z,Z,hf⟩
  refine B1 hf fun s1 h4 hf=>W 5 Z (AS Z (AO.pQ h4 Z eH Z ⟨_,Z⟩ ⟨_,Z⟩ (J 4 Z (C hf Z (fun h5 hf=>?_) fun h5 hf=>?_))))
  ·
   refine V 0 Z (AW.cond Z (fun h6=>?_) (fun h6=>?_))
   · cases hf; exact Wx 9 [0] Z Z (ZC [0] Z Z h)
   cases h5.symm.trans h6
  refine V 2 Z (C hf Z (fun h7 hf=>?_) fun h7 hf=>?_)
  ·
   refine V 0 Z (AW.cond Z (fun h8=>?_) (fun h8=>?_))
   · cases hf; exact Wx 9 [0] Z Z (ZC [0] Z Z h)
   cases h7.symm.trans h8
  refine V 2 Z (C hf Z (fun h9 hf=>?_) fun h9 hf=>?_)
  ·
   refine V 0 Z (AW.cond Z (fun h10=>?_) (fun h10=>?_))
   · cases hf; exact Wx 9 [0] Z Z (ZC [0] Z Z h)
   cases h9.symm.trans h10
  refine V 2 Z (C hf Z (fun h11 hf=>?_) fun h11 hf=>?_)
  ·
   refine V 0 Z (AW.cond Z (fun h12=>?_) (fun h12=>?_))
   · cases hf; exact Wx 9 [0] Z Z (ZC [0] Z Z h)
   cases h11.symm.trans h12
  refine V 2 Z (C hf Z (fun l6 hf=>?_) fun l6 hf=>?_)
  ·
   refine V 0 Z (AW.cond Z (fun lH=>?_) (fun lH=>?_))
   · cases hf; exact Wx 9 [0] Z Z (ZC [0] Z Z h)
   cases l6.symm.trans lH
  refine V 2 Z (C hf Z (fun rO hf=>?_) fun rO hf=>?_)
  ·
   refine V 0 Z (AW.cond Z (fun h16=>?_) (fun h16=>?_))
   · cases hf; exact Wx 9 [0] Z Z (ZC [0] Z Z h)
   cases rO.symm.trans h16
  refine V 2 Z (C hf Z (fun xM hf=>?_) fun xM hf=>?_)
  ·
   refine V 0 Z (AW.cond Z (fun h18=>?_) (fun h18=>?_))
   · cases hf; exact Wx 9 [0] Z Z (ZC [0] Z Z h)
   cases xM.symm.trans h18
  refine V 2 Z (C hf Z (fun h19 hf=>?_) fun h19 hf=>?_)
  ·
   refine V 0 Z (AW.cond Z (fun h20=>?_) (fun h20=>?_))
   · cases hf; exact Wx 9 [0] Z Z (ZC [0] Z Z h)
   cases h19.symm.trans h20
  refine V 2 Z (C hf Z (fun h21 hf=>?_) fun h21 hf=>?_)
  ·
   refine V 0 Z (AW.cond Z (fun h22=>?_) (fun h22=>?_))
   · cases hf; exact Wx 9 [0] Z Z (ZC [0] Z Z h)
   cases h21.symm.trans h22
  refine V 2 Z (C hf Z (fun h23 hf=>?_) fun h23 hf=>?_)
  ·
   refine V 0 Z (AW.cond Z (fun MG=>?_) (fun MG=>?_))
   · cases hf; exact Wx 9 [0] Z Z (ZC [0] Z Z h)
   cases h23.symm.trans MG
  refine V 2 Z (C hf Z (fun KL hf=>?_) fun KL hf=>?_)
  ·
   refine V 0 Z (AW.cond Z (fun PX=>?_) (fun PX=>?_))
   · cases hf; exact Wx 9 [0] Z Z (ZC [0] Z Z h)
   cases KL.symm.trans PX
  refine V 2 Z (C hf Z (fun h27 hf=>?_) fun h27 hf=>?_)
  ·
   refine V 0 Z (AW.cond Z (fun KJ=>?_) (fun KJ=>?_))
   · cases hf; exact Wx 9 [0] Z Z (ZC [0] Z Z h)
   cases h27.symm.trans KJ
  refine V 2 Z (C hf Z (fun Ko hf=>?_) fun Ko hf=>?_)
  ·
   refine V 0 Z (AW.cond Z (fun Vv=>?_) (fun Vv=>?_))
   · cases hf; exact Wx 9 [0] Z Z (ZC [0] Z Z h)
   cases Ko.symm.trans Vv
  refine V 2 Z (C hf Z (fun h31 hf=>?_) fun h31 hf=>?_)
  ·
   refine V 0 Z (AW.cond Z (fun h32=>?_) (fun h32=>?_))
   · cases hf; exact Wx 9 [0] Z Z (ZC [0] Z Z h)
   cases h31.symm.trans h32
  refine V 2 Z (C hf Z (fun Uq hf=>?_) fun Uq hf=>?_)
  ·
   refine V 0 Z (AW.cond Z (fun Y7=>?_) (fun Y7=>?_))
   · cases hf; exact Wx 9 [0] Z Z (ZC [0] Z Z h)
   cases Uq.symm.trans Y7
  refine V 2 Z (C hf Z (fun Y6 hf=>?_) fun Y6 hf=>?_)
  ·
   refine V 0 Z (AW.cond Z (fun XT=>?_) (fun XT=>?_))
   · cases hf; exact Wx 9 [0] Z Z (ZC [0] Z Z h)
   cases Y6.symm.trans XT
  refine V 2 Z (C hf Z (fun h37 hf=>?_) fun h37 hf=>?_)
  ·
   refine V 0 Z (AW.cond Z (fun h38=>?_) (fun h38=>?_))
   · cases hf; exact Wx 9 [0] Z Z (ZC [0] Z Z h)
   cases h37.symm.trans h38
  refine V 2 Z (C hf Z (fun h39 hf=>?_) fun h39 hf=>?_)
  ·
   refine V 0 Z (AW.cond Z (fun h40=>?_) (fun h40=>?_))
   · cases hf; exact Wx 9 [0] Z Z (ZC [0] Z Z h)
   cases h39.symm.trans h40
  refine V 2 Z (C hf Z (fun h41 hf=>?_) fun h41 hf=>?_)
  ·
   refine V 0 Z (AW.cond Z (fun h42=>?_) (fun h42=>?_))
   · cases hf; exact Wx 9 [0] Z Z (ZC [0] Z Z h)
   cases h41.symm.trans h42
  refine V 2 Z (C hf Z (fun h43 hf=>?_) fun h43 hf=>?_)
  ·
   refine V 0 Z (AW.cond Z (fun h44=>?_) (fun h44=>?_))
   · cases hf; exact Wx 9 [0] Z Z (ZC [0] Z Z h)
   cases h43.symm.trans h44
  refine V 2 Z (C hf Z (fun h45 hf=>?_) fun h45 hf=>?_)
  ·
   refine V 0 Z (AW.cond Z (fun h46=>?_) (fun h46=>?_))
   · cases hf; exact Wx 9 [0] Z Z (ZC [0] Z Z h)
   cases h45.symm.trans h46
  refine V 2 Z (C hf Z (fun h47 hf=>?_) fun h47 hf=>?_)
  ·
   refine V 0 Z (AW.cond Z (fun h48=>?_) (fun h48=>?_))
   · cases hf; exact Wx 9 [0] Z Z (ZC [0] Z Z h)
   cases h47.symm.trans h48
  refine V 2 Z (C hf Z (fun h49 hf=>?_) fun h49 hf=>?_)
  ·
   refine V 0 Z (AW.cond Z (fun h50=>?_) (fun h50=>?_))
   · cases hf; exact Wx 9 [0] Z Z (ZC [0] Z Z h)
   cases h49.symm.trans h50
  refine V 2 Z (C hf Z (fun h51 hf=>?_) fun h51 hf=>?_)
  ·
   refine V 0 Z (AW.cond Z (fun h52=>?_) (fun h52=>?_))
   · cases hf; exact Wx 9 [0] Z Z (ZC [0] Z Z h)
   cases h51.symm.trans h52
  refine V 2 Z (C hf Z (fun h53 hf=>?_) fun h53 hf=>?_)
  · cases hf; exact Wx 9 [0] Z Z (ZC [0] Z Z h)
  exact M 2 Z ⟨(dG (x1 + 1)),Z,Z,Z,hf⟩
 cases hf; exact Wx 4 [0] Z Z (ZC [0] Z Z h)
theorem Pp (fP:Str) (jB:Int) {r0:aS} {r1:Int} {r2:Int} (hf:FL fP jB=some (r0,r1,r2)) (h:Q (.ret (.tuple [.agg (vZ r0),iP r1,iP r2])) τ):PC 255 [.str fP,iP jB] τ Q:=by
 unfold FL at hf; refine BN 44 [.cell 4 243,.tmp 5,.tmp 6] [0,1] Tryz.func255 Z Z Z Z Z (W 0 Z (AS Z (AO.aC Z vL (fun b4=>?_)))); refine B1 hf fun c1 h1 hf=>U 4 Z (AS Z (AO.gZ h1 Z eH Z Z ?_)); refine B1 hf fun x1 h2 hf=>U 2 Z (CL Z (Bg _ h2 (J 1 Z (C hf Z (fun h3 hf=>?_) fun h3 hf=>?_))))
 · replace hf:=(Dj _).trans hf; obtain ⟨x2,x3,x4,h4,hf⟩:=jG hf; refine W 2 Z (CL Z (Q6 _ _ h4 ?_)); cases hf; exact Rx 6 [0] Z Z (ZC [0] Z Z h)
 refine B1 hf fun x5 h5 hf=>W 1 Z (CL Z (yM _ h5 (J 1 Z (C hf Z (fun h6 hf=>?_) fun h6 hf=>?_))))
 · replace hf:=(Dj _).trans hf; obtain ⟨x6,x7,x8,h7,hf⟩:=jG hf; refine W 2 Z (CL Z (Om _ _ h7 ?_)); cases hf; exact Rx 6 [0] Z Z (ZC [0] Z Z h)
 refine V 3 Z (C hf Z (fun h8 hf=>?_) fun h8 hf=>?_)
 · replace hf:=(Dj _).trans hf; obtain ⟨x9,Kn,Lb,h9,hf⟩:=jG hf; refine W 2 Z (CL Z (Q5 _ _ h9 ?_)); cases hf; exact Rx 6 [0] Z Z (ZC [0] Z Z h)
 replace hf:=(Dj _).trans hf; obtain ⟨Rl,UD,Vp,h10,hf⟩:=jG hf; refine W 2 Z (CL Z (KY _ _ h10 ?_)); cases hf; exact Rx 6 [0] Z Z (ZC [0] Z Z h)
theorem KZ (op1:Str) (jY:Int) {r0:Int} (hf:AA op1 jY=some r0) (h:Q (.ret (iP r0)) τ):PC 256 [.str op1,iP jY] τ Q:=by
 unfold AA at hf; refine BN 18 [.tmp 4] [0,1] Tryz.func256 Z Z Z Z Z (V 4 Z (C hf Z (fun h1 hf=>?_) fun h1 hf=>?_))
 ·
  refine V 0 Z (AW.cond Z (fun h2=>?_) (fun h2=>?_))
  · cases hf; exact M 3 Z (Y Z h)
  cases h1.symm.trans h2
 refine V 2 Z (C hf Z (fun h3 hf=>?_) fun h3 hf=>?_)
 · cases hf; exact M 3 Z (Y Z h)
 refine V 2 Z (C hf Z (fun h4 hf=>?_) fun h4 hf=>?_)
 ·
  refine V 0 Z (AW.cond Z (fun h5=>?_) (fun h5=>?_))
  · refine W 2 Z (AS Z (AO.max2 Z Z Z Z Z ?_)); cases hf; exact N 1 Z (Y Z h)
  cases h4.symm.trans h5
 refine V 2 Z (C hf Z (fun h6 hf=>?_) fun h6 hf=>?_)
 · refine W 2 Z (AS Z (AO.max2 Z Z Z Z Z ?_)); cases hf; exact N 1 Z (Y Z h)
 cases hf; exact M 2 Z (Y Z h)
theorem Oq (fP:Str) {r0:List aS} {r1:Int} {r2:Int} (hf:DW fP=some (r0,r1,r2)) (h:Q (.ret (.tuple [.list (List.map aS.cells r0),iP r1,iP r2])) τ):PC 218 [.str fP] τ Q:=by
 unfold DW at hf; refine BN 84 [.tmp 2,.tmp 3,.tmp 4] [0] Tryz.func218 Z Z Z Z Z (W 0 Z (AS Z (AO.d9 Z Z (U 3 Z (AS Z (AO.dO Z Z Z Z eH Z (J 1 Z (C hf Z (fun h1 hf=>?_) fun h1 hf=>?_))))))))
 · refine W 0 Z (AS Z (AO.d9 Z Z ?_)); cases hf; exact N 2 Z (Y Z h)
 refine W 5 Z (AS Z (AO.UO Z eH Z (fun ab1=>(J 0 Z (AW.row 3 243 (LK5 (fun aY v1 C9 jY pos1=>[(0,.str fP),(5,.own v1 (List.map aS.cells aY)),(6,.fn 252 []),(7,iP C9),(8,iP jY),(18,pP ab1)]) (fun aY v1 C9 jY pos1=>[.row v1 (List.map aS.cells aY).length 3 243,.obj ab1 (.stringIter ⟨List.toArray fP⟩ pos1)]) (fun b_ aY v1 C9 jY pos1=>kM fP b_ aY C9 jY pos1=some (r0,r1,r2)) BIG [] (.slice none 0 0) 0 0 0 Z Z hf (fun _ _ _ _ _ hz=>bU hz) ?_)))))); intro b_ aY v1 C9 jY pos1 hf; rw [kM] at hf; rcases Bool.eq_false_or_eq_true (decide (pos1 < fP.length)) with h2 | h2
 ·
  replace hf:=jC h2 hf; refine W 0 Z (AS Z (AO.WL (i:=1) Z Z Z h2 (J 1 Z (AW.cond Z (fun h3=>?_) (fun h3=>?_)))))
  ·
   refine B1 hf fun b1 h5 hf=>W 8 Z (AR.gI 4 26 30 false [0,5,6,7,8,9,10,18] b1 Z Z (fun h4=>?_) (fun h4=>?_) ?_)
   · refine IF 26 h4 h5 Z fun h5=>?_; refine BR h5 fun x1 h6 h5=>?_; refine U 2 Z (GO Z (AO.call Z _ Z Z Zu (K4 _ h6 ?_))); cases h5; exact fZ 1 Z (En [30,0,5,6,7,8,9,10,18] Z)
   · refine IT 26 h4 h5 Z fun h5=>?_; cases h5; exact fZ 4 Z (En [30,0,5,6,7,8,9,10,18] Z)
   refine J 0 Z (C hf Z (fun h7 hf=>?_) fun h7 hf=>?_)
   · exact M 0 Z ⟨aY,v1,C9,jY,(pos1 + (dec fP pos1).2),Z,Z,Z,hf⟩
   refine V 2 Z (C hf Z (fun h8 hf=>?_) fun h8 hf=>?_)
   · refine B1 hf fun WM h9 hf=>W 2 Z (CL Z (CP _ _ wU 254 [] Zt (fun _ _ hz=>K3 _  hz) h9 ?_)); exact N 1 Z ⟨aY,v1,WM,jY,(pos1 + (dec fP pos1).2),Z,Z,Z,hf⟩
   refine V 2 Z (C hf Z (fun h10 hf=>?_) fun h10 hf=>?_)
   ·
    refine B1 hf fun b2 h12 hf=>W 3 Z (AR.gI 14 40 54 true [0,5,6,7,8,9,18] b2 Z Z (fun h11=>?_) (fun h11=>?_) ?_)
    ·
     replace h12:=jC h11 h12; refine Is 40 h11 Z (U 1 Z (GO Z (AO.aT (l:=aY) Z Z Z Z xk Z Z ?_))); refine BR h12 fun b3 lH h12=>?_; refine U 2 Z (AR.gI 9 44 53 false [0,5,6,7,8,9,18,40] b3 Z Z (fun l6=>?_) (fun l6=>?_) ?_)
     · replace lH:=jf l6 lH; refine Is 44 l6 Z (U 2 Z (GO Z (AO.aT (l:=aY) Z Z Z Z xk Z Z ?_))); refine B1 lH fun e1 rO lH=>U 1 Z (GO Z (AO.aZ rO Z Z Z Z xk (aS.aF _) Z ?_)); cases lH; exact fZ 4 Z (En [53,0,5,6,7,8,9,18,40] Z)
     · refine IT 44 l6 lH Z fun lH=>?_; cases lH; exact fZ 9 Z (En [53,0,5,6,7,8,9,18,40] Z)
     cases h12; exact fZ 1 Z (En [54,0,5,6,7,8,9,18] Z)
    · refine IF 40 h11 h12 Z fun h12=>?_; cases h12; exact fZ 14 Z (En [54,0,5,6,7,8,9,18] Z)
    refine J 0 Z (C hf Z (fun h16 hf=>?_) fun h16 hf=>?_)
    · refine W 3 rfl (AS rfl (AO.bD (List.map aS.cells [(aS.mk 5 ([]:Str) (pos1:Int))]) rfl KD rfl rfl rfl (by first | rfl | simp only [List.map,aS.aF]) ?_)); refine B1 hf fun j6 xM hf=>AS Z (AO.eB (i:=0) (l:=aY) (m:=[(aS.mk 5 ([]:Str) (pos1:Int))]) xM Z Z Z Z Z Z Z KD xk Z Z Z (aS.bB) (aS.cells_one) (by decide) (fun v2 s1 hs1=>?_)); cases hs1; exact N 1 Z ⟨j6,v2,C9,jY,(pos1 + (dec fP pos1).2),Z,Z,Z,hf⟩
    exact M 0 Z ⟨aY,v1,C9,jY,(pos1 + (dec fP pos1).2),Z,Z,Z,hf⟩
   obtain ⟨x2,uN,e2,h18,hf⟩:=jG hf; refine W 2 Z (CL Z (Pp _ _ h18 (U 4 Z (AS Z (AO.aC Z vL (fun b11=>(Rw 5 [0] Z Z (C hf Z (fun h19 hf=>?_) fun h19 hf=>?_))))))))
   · refine W 2 Z (AS Z (AO.d9 Z Z ?_)); cases hf; exact N 2 Z (Y Z h)
   refine Ww 3 [0] Z Z (C hf Z (fun h20 hf=>?_) fun h20 hf=>?_)
   · refine B1 hf fun WI h21 hf=>Wr 3 [0] rfl rfl (CL rfl (KZ _ _ h21 (Rr 3 [0] rfl rfl (AS rfl (AO.bD (List.map aS.cells [x2]) rfl KD rfl rfl rfl (by first | rfl | simp only [List.map,aS.aF]) ?_))))); refine B1 hf fun aak h22 hf=>AS Z (AO.eB (i:=1) (l:=aY) (m:=[x2]) h22 Z Z Z Z Z Z Z KD xk Z Z Z (aS.bB) (aS.cells_one) (by decide) (fun v3 s2 hs2=>?_)); cases hs2; refine fZ 3 Z (AR.drop1 ?_); exact N 0 Z ⟨aak,v3,uN,WI,(pos1 + (dec fP pos1).2),Z,Z,Z,hf⟩
   refine Wr 2 [0] rfl rfl (AS rfl (AO.bD (List.map aS.cells [x2]) rfl KD rfl rfl rfl (by first | rfl | simp only [List.map,aS.aF]) ?_)); refine B1 hf fun aaj h23 hf=>AS Z (AO.eB (i:=1) (l:=aY) (m:=[x2]) h23 Z Z Z Z Z Z Z KD xk Z Z Z (aS.bB) (aS.cells_one) (by decide) (fun v4 s3 hs3=>?_)); cases hs3; refine fZ 3 Z (AR.drop1 ?_); exact N 0 Z ⟨aaj,v4,uN,jY,(pos1 + (dec fP pos1).2),Z,Z,Z,hf⟩
  cases h3
 replace hf:=jf h2 hf; refine W 0 Z (AS Z (AO.UZ (i:=1) Z Z Z h2 (J 1 Z (AW.cond Z (fun MG=>?_) (fun MG=>?_)))))
 · cases MG
 cases hf; exact M 4 Z (Y Z h)
section
variable [xJ]
theorem KX (s1:Str) {r0:Bool} (hf:Av s1=some r0) (h:Q (.ret (.bool r0)) τ):PC 345 [.str s1] τ Q:=by
 unfold Av at hf; refine BN 40 [.tmp 2] [0] Tryz.func345 Z Z Z Z Z ?_; refine B1 hf fun b1 h2 hf=>W 4 Z (AR.gI 9 8 17 false [0] b1 Z Z (fun h1=>?_) (fun h1=>?_) ?_)
 ·
  replace h2:=jf h1 h2; refine Is 8 h1 Z (U 1 Z (GO Z (AO.dO Z Z Z Z eH Z ?_))); refine BR h2 fun b2 h4 h2=>?_; refine U 2 Z (AR.gI 4 12 16 true [0,8] b2 Z Z (fun h3=>?_) (fun h3=>?_) ?_)
  · refine IT 12 h3 h4 Z fun h4=>?_; refine B1 h4 fun x1 h5 h4=>U 1 Z (GO Z (AO.gZ h5 Z eH Z Z ?_)); cases h4; exact fZ 2 Z (En [16,0,8] Z)
  · refine IF 12 h3 h4 Z fun h4=>?_; cases h4; exact fZ 4 Z (En [16,0,8] Z)
  cases h2; exact fZ 1 Z (En [17,0] Z)
 · refine IT 8 h1 h2 Z fun h2=>?_; cases h2; exact fZ 9 Z (En [17,0] Z)
 refine J 0 Z (C hf Z (fun h6 hf=>?_) fun h6 hf=>?_)
 · cases hf; exact M 1 Z (Y Z h)
 refine V 1 Z (Kl (fun i1=>[(0,.str s1),(3,iP i1)]) (fun i1=>[]) (fun b_ i1=>rM s1 b_ i1=some r0) BIG 0 Z Z hf (fun _ hz=>bU hz) ?_); intro b_ i1 hf; rw [rM] at hf; refine W 2 Z (AS Z (AO.dO Z Z Z Z eH Z (J 1 Z (C hf Z (fun h7 hf=>?_) fun h7 hf=>?_))))
 ·
  refine B1 hf fun x2 h8 hf=>W 2 Z (AS Z (AO.gZ h8 Z eH Z Z ?_)); refine B1 hf fun x3 h9 hf=>CL Z (Gh _ h9 (J 1 Z (C hf Z (fun h10 hf=>?_) fun h10 hf=>?_)))
  · cases hf; exact M 1 Z (Y Z h)
  exact M 3 Z ⟨(dG (i1 + 1)),Z,Z,Z,hf⟩
 obtain ⟨n1,Bt,h11,hf⟩:=bM hf; refine W 1 Z (CL Z (Bd _ h11 (U 6 Z (AS Z (AO.eqNil Z WU Z Z (U 1 Z (An 3 36 39 [] (decide (n1≤9007199254740992)) Z Z Z Z ?_))))))); cases hf; exact N 1 Z (Y Z h)
end
section
variable [xJ]
theorem Pk (t1:aS) {r0:Bool} (hf:FD t1=some r0) (h:Q (.ret (.bool r0)) τ):PC 341 [.agg (vZ t1)] τ Q:=by
 unfold FD at hf; refine BN 23 [.tmp 2] [0] Tryz.func341 Z Z Z Z Z (V 6 Z (C hf Z (fun h1 hf=>?_) fun h1 hf=>?_))
 · refine BR hf fun x1 h2 hf=>?_; refine W 2 Z (CL Z (Ii _ h2 ?_)); cases hf; exact N 1 Z (Y Z h)
 refine V 2 Z (C hf Z (fun h3 hf=>?_) fun h3 hf=>?_)
 · refine BR hf fun x2 h4 hf=>?_; refine W 2 Z (CL Z (KX _ h4 ?_)); cases hf; exact N 1 Z (Y Z h)
 refine V 2 Z (C hf Z (fun h5 hf=>?_) fun h5 hf=>?_)
 · refine W 2 Z (AS Z (AO.dO Z Z Z Z eH Z ?_)); cases hf; exact N 2 Z (Y Z h)
 refine V 2 Z (C hf Z (fun h6 hf=>?_) fun h6 hf=>?_)
 · cases hf; exact M 1 Z (Y Z h)
 cases hf; exact M 1 Z (Y Z h)
end
section
variable [xJ]
theorem oU (p1:Nat) (nY:ak) {r0:aS} {nX:ak} (hf:lW nY=some (r0,nX)) {Q:cO→List aV→Prop} (h:Q (.ret (.agg (vZ r0))) [.box p1 (aQ nX)]):PC 330 [pP p1] [.box p1 (aQ nY)] Q:=by
 unfold lW at hf; refine BD 37 [.cell 2 243] [0] Tryz.func330 Z Z Z Z Z (W 0 Z (AS Z (AO.aC Z vL (fun b2=>(J 0 Z (AW.draw 23 mixed (by kernel_rfl) Z ?_)))))); refine Ev.cs bJ 3 Z (Ev.cons Z Z Z (AO.aR (i:=1) Z Z Z Br Z Z zg) (Ev.cs bJ 3 Z (Ev.cons Z Z Z (AO.aR (i:=1) Z Z Z Qp Z Z zg) ?_))); refine Ev.cons Z Z Z (AO.aT (l:=nY.ts) Z Z Z Z xk Z Z zg) (Ev.cs bJ 2 Z ?_); refine B1 hf fun b1 h2 hf=>Ev.gI hKA 12 13 25 true [0,2] (.bool b1) Z Z (fun h1=>?_) (fun h1=>?_) ?_
 ·
  replace h2:=jC h1 h2; refine Ev.is hKL 13 h1 Z (Ev.cs bJ 3 Z (Ev.run Z Z Z Z Z Z Z (AO.aR (i:=1) Z Z Z Qp Z Z zg) (Ev.cs bJ 3 Z ?_))); refine Ev.run Z Z Z Z Z Z Z (AO.aR (i:=1) Z Z Z Br Z Z zg) ?_; refine B1 h2 fun e1 h3 h2=>Ev.run Z Z Z Z Z Z Z (AO.aZ h3 Z Z Z Z xk (aS.aF _) Z zg) (Ev.cs bJ 1 Z ?_); refine BR h2 fun x1 h4 h2=>?_; refine Ev.run Z Z Z Z Z Z Z (AO.call Z _ Z Z Zm (Pk _ h4 zg)) ?_; cases h2; refine Ev.cs bJ 1 Z ?_; exact Ev.nil (Less.settle (ps:=[25,0,2]) Z)
 · replace h2:=jf h1 h2; refine Ev.is hKL 13 h1 Z ?_; cases h2; refine Ev.cs bJ 12 Z ?_; exact Ev.nil (Less.settle (ps:=[25,0,2]) Z)
 refine Ev.nil ?_; show AR _ _ _ _ _ _ _ _; refine J 0 Z (C hf Z (fun h5 hf=>?_) fun h5 hf=>?_)
 ·
  refine V 0 Z (AW.draw 10 mixed (by kernel_rfl) Z ?_); refine Ev.cs bJ 3 Z (Ev.cons Z Z Z (AO.aR (i:=1) Z Z Z Qp Z Z zg) (Ev.cs bJ 3 Z (Ev.cons Z Z Z (AO.aR (i:=1) Z Z Z Br Z Z zg) ?_))); refine B1 hf fun e2 h6 hf=>Ev.cons Z Z Z (AO.aZ h6 Z Z Z Z xk (aS.aF _) Z zg) (Ev.cs bJ 1 Z (Ev.nil ?_)); show AR _ _ _ _ _ _ _ _; cases hf; exact Rx 1 [0] rfl rfl ⟨rfl,_,⟨_,_,rfl,⟨_,_,0,_,_,rfl,rfl,Kw,rfl⟩,rfl⟩,_,(.cons _ (.cons_cons _ (List.nil_sublist _))),h⟩
 cases hf; exact Wx 2 [0] rfl rfl ⟨rfl,_,⟨_,_,rfl,⟨_,_,0,_,_,rfl,rfl,Kw,rfl⟩,rfl⟩,_,(.cons _ (.cons_cons _ (List.nil_sublist _))),h⟩
end
section
variable [xJ]
theorem Jh (p1:Nat) (nY:ak) (op1:Str) {r0:Bool} {nX:ak} (hf:xU nY op1=some (r0,nX)) {Q:cO→List aV→Prop} (h:Q (.ret (.bool r0)) [.box p1 (aQ nX)]):PC 331 [pP p1,.str op1] [.box p1 (aQ nY)] Q:=by
 unfold xU at hf; refine BD 17 [.tmp 4] [0,1] Tryz.func331 Z Z Z Z Z ?_; obtain ⟨x1,y1,h1,hf⟩:=bM hf; refine W 2 Z (CL Z (AC.one 0 Z (oU _ _ h1 ⟨_,Z,(AS Z (AO.aC Z vL (fun b5=>(Rr 5 [0,0] Z Z (AR.and 5 11 16 [] (x:=(x1.text == op1)) Z Z (fun h2=>?_) (fun h2=>?_) ?_)))))⟩)))
 · refine Is 11 h2 Z (U 1 Z (GO Z (AO.aR (i:=0) Z Z Z M4 Z Z ?_))); exact fZ 3 Z (En [16] Z)
 · refine Is 11 h2 Z ?_; exact fZ 5 Z (En [16] Z)
 cases hf; exact N 1 rfl ⟨rfl,_,⟨_,_,rfl,rfl,rfl⟩,_,(.cons _ (.cons_cons _ (List.nil_sublist _))),h⟩
end
section
variable [xJ]
theorem dY (p1:Nat) (nY:ak) (op1:Str) {r0:Bool} {nX:ak} (hf:dS nY op1=some (r0,nX)) {Q:cO→List aV→Prop} (h:Q (.ret (.bool r0)) [.box p1 (aQ nX)]):PC 314 [pP p1,.str op1] [.box p1 (aQ nY)] Q:=by
 unfold dS at hf; refine BD 16 [.tmp 4] [0,1] Tryz.func314 Z Z Z Z Z ?_; obtain ⟨x1,y1,h1,hf⟩:=bM hf; refine W 3 Z (CL Z (AC.one 0 Z (Jh _ _ _ h1 ⟨_,Z,(J 1 Z (C hf Z (fun h2 hf=>?_) fun h2 hf=>?_))⟩)))
 · cases hf; exact M 1 rfl ⟨rfl,_,⟨_,_,rfl,rfl,rfl⟩,_,(.cons_cons _ (List.nil_sublist _)),h⟩
 cases hf; exact Wx 9 [0,0] rfl rfl ⟨rfl,_,⟨_,_,rfl,rfl,rfl⟩,_,(.cons_cons _ (List.nil_sublist _)),h⟩
end
@[reducible] def EY :eP ay Unit→cO
 | .ok r=>.ret (.tuple [])
 | .bad e=>.panic (.iface 292 (.agg (jK e)))
theorem eO (p1:Nat) (nY:ak) (e1:Int) {rX:eP ay Unit} {nX:ak} (hf:jk nY e1=some (rX,nX)) {Q:cO→List aV→Prop} (h:Q (EY rX) [.box p1 (aQ nX)]):PC 333 [pP p1,iP e1] [.box p1 (aQ nY)] Q:=by
 unfold jk at hf; refine BD 11 [] [0,1] Tryz.func333 Z Z Z Z Z (Wr 6 [0] Z Z (AS Z (AO.Ul Z aao Z (AR.bC Z Z (AO.WH Z Z ?_))))); cases hf; exact ⟨rfl,_,(.cons_cons _ (List.nil_sublist _)),h⟩
section
variable [xJ]
@[reducible] def EX :eP ay aS→cO
 | .ok r=>.ret (.agg (vZ r))
 | .bad e=>.panic (.iface 292 (.agg (jK e)))
theorem jg (p1:Nat) (nY:ak) {rX:eP ay aS} {nX:ak} (hf:lX nY=some (rX,nX)) {Q:cO→List aV→Prop} (h:Q (EX rX) [.box p1 (aQ nX)]):PC 332 [pP p1] [.box p1 (aQ nY)] Q:=by
 unfold lX at hf; refine BD 24 [.cell 2 243] [0] Tryz.func332 Z Z Z Z Z (W 0 Z (AS Z (AO.aC Z vL (fun b2=>(J 0 Z (AW.draw 10 mixed (by kernel_rfl) Z ?_)))))); refine Ev.cs bJ 3 Z (Ev.cons Z Z Z (AO.aR (i:=1) Z Z Z Br Z Z zg) (Ev.cs bJ 3 Z (Ev.cons Z Z Z (AO.aR (i:=1) Z Z Z Qp Z Z zg) ?_))); refine Ev.cons Z Z Z (AO.aT (l:=nY.ts) Z Z Z Z xk Z Z zg) (Ev.cs bJ 1 Z (Ev.nil ?_)); show AR _ _ _ _ _ _ _ _; refine J 0 Z (C hf Z (fun h1 hf=>?_) fun h1 hf=>?_)
 ·
  rcases dQ hf with ⟨e1,y2,h2,hf⟩ | ⟨_,y1,h2,hf⟩
  · refine W 1 Z (CL Z (AC.one 1 Z (eO _ _ _ h2 ⟨_,Z,?_⟩))); cases hf; exact ⟨rfl,_,(.cons _ (.cons_cons _ (List.nil_sublist _))),h⟩
  refine W 1 Z (CL Z (AC.one 1 Z (eO _ _ _ h2 ⟨_,Z,?_⟩))); obtain ⟨x1,y3,h3,hf⟩:=bM hf; refine U 1 Z (CL Z (AC.one 1 Z (oU _ _ h3 ⟨_,Z,(AS Z (AO.aC Z vL (fun b3=>(Rw 4 [0,0] Z Z (C hf Z (fun h4 hf=>?_) fun h4 hf=>?_)))))⟩)))
  ·
   rcases dQ hf with ⟨e2,y5,h5,hf⟩ | ⟨_,y4,h5,hf⟩
   · refine W 1 Z (CL Z (AC.one 2 Z (eO _ _ _ h5 ⟨_,Z,?_⟩))); cases hf; exact ⟨rfl,_,(.cons _ (.cons _ (.cons_cons _ (List.nil_sublist _)))),h⟩
   refine W 1 Z (CL Z (AC.one 2 Z (eO _ _ _ h5 ⟨_,Z,?_⟩))); cases hf; exact Rx 2 [0,1] rfl rfl ⟨rfl,_,⟨_,_,rfl,⟨_,_,1,_,_,rfl,rfl,Kw,rfl⟩,rfl⟩,_,(.cons _ (.cons _ (.cons_cons _ (List.nil_sublist _)))),h⟩
  cases hf; exact Wx 2 [0,1] rfl rfl ⟨rfl,_,⟨_,_,rfl,⟨_,_,1,_,_,rfl,rfl,Kw,rfl⟩,rfl⟩,_,(.cons _ (.cons _ (.cons_cons _ (List.nil_sublist _)))),h⟩
 obtain ⟨x2,y6,h6,hf⟩:=bM hf; refine W 1 Z (CL Z (AC.one 1 Z (oU _ _ h6 ⟨_,Z,(AS Z (AO.aC Z vL (fun ad9=>(Rw 4 [0,0] Z Z (C hf Z (fun h7 hf=>?_) fun h7 hf=>?_)))))⟩)))
 ·
  rcases dQ hf with ⟨e3,y8,h8,hf⟩ | ⟨_,y7,h8,hf⟩
  · refine W 1 Z (CL Z (AC.one 2 Z (eO _ _ _ h8 ⟨_,Z,?_⟩))); cases hf; exact ⟨rfl,_,(.cons _ (.cons _ (.cons_cons _ (List.nil_sublist _)))),h⟩
  refine W 1 Z (CL Z (AC.one 2 Z (eO _ _ _ h8 ⟨_,Z,?_⟩))); cases hf; exact Rx 2 [0,1] rfl rfl ⟨rfl,_,⟨_,_,rfl,⟨_,_,1,_,_,rfl,rfl,Kw,rfl⟩,rfl⟩,_,(.cons _ (.cons _ (.cons_cons _ (List.nil_sublist _)))),h⟩
 cases hf; exact Wx 2 [0,1] rfl rfl ⟨rfl,_,⟨_,_,rfl,⟨_,_,1,_,_,rfl,rfl,Kw,rfl⟩,rfl⟩,_,(.cons _ (.cons _ (.cons_cons _ (List.nil_sublist _)))),h⟩
end
theorem uy (v1:ah) {r0:aj} (hf:pU v1=some r0) (h:Q (.ret (.agg (bE r0))) τ):PC 346 [.agg (aL v1)] τ Q:=by
 unfold pU at hf; refine BN 5 [.cell 2 45] [0] Tryz.func346 Z Z Z Z Z (W 1 Z (AS Z (AO.aC Z iO (fun b2=>?_)))); cases hf; exact Rx 3 [0] Z Z (ZC [0] Z Z h)
section
variable [xJ]
@[reducible] def Dm :eP ay Unit→cO
 | .ok r=>.ret (.tuple [])
 | .bad e=>.panic (.iface 292 (.agg (jK e)))
theorem dK (p1:Nat) (nY:ak) (op1:Str) {rX:eP ay Unit} {nX:ak} (hf:gP nY op1=some (rX,nX)) {Q:cO→List aV→Prop} (h:Q (Dm rX) [.box p1 (aQ nX)]):PC 315 [pP p1,.str op1] [.box p1 (aQ nY)] Q:=by
 unfold gP at hf; refine BD 12 [] [0,1] Tryz.func315 Z Z Z Z Z ?_; rcases dQ hf with ⟨e1,y2,h1,hf⟩ | ⟨x1,y1,h1,hf⟩
 · refine W 1 Z (CL Z (AC.one 0 Z (jg _ _ h1 ⟨_,Z,?_⟩))); cases hf; exact ⟨rfl,_,(.cons_cons _ (List.nil_sublist _)),h⟩
 refine W 1 Z (CL Z (AC.one 0 Z (jg _ _ h1 ⟨_,Z,?_⟩))); obtain ⟨x2,y3,h2,hf⟩:=bM hf; refine U 2 Z (CL Z (AC.one 0 Z (dY _ _ _ h2 ⟨_,Z,(J 1 Z (C hf Z (fun h3 hf=>?_) fun h3 hf=>?_))⟩)))
 ·
  rcases dQ hf with ⟨e2,y5,h4,hf⟩ | ⟨_,y4,h4,hf⟩
  · refine W 1 Z (CL Z (AC.one 0 Z (eO _ _ _ h4 ⟨_,Z,?_⟩))); cases hf; exact ⟨rfl,_,(.cons_cons _ (List.nil_sublist _)),h⟩
  refine W 1 Z (CL Z (AC.one 0 Z (eO _ _ _ h4 ⟨_,Z,?_⟩))); cases hf; exact N 0 rfl ⟨rfl,_,rfl,_,(.cons_cons _ (List.nil_sublist _)),h⟩
 cases hf; exact M 0 rfl ⟨rfl,_,rfl,_,(.cons_cons _ (List.nil_sublist _)),h⟩
end
section
variable [xJ]
@[reducible] def oh :eP ay aj→cO
 | .ok r=>.ret (.agg (bE r))
 | .bad e=>.panic (.iface 292 (.agg (jK e)))
@[reducible] def n_ :eP ay aj→cO
 | .ok r=>.ret (.agg (bE r))
 | .bad e=>.panic (.iface 292 (.agg (jK e)))
@[reducible] def rA :eP ay aj→cO
 | .ok r=>.ret (.agg (bE r))
 | .bad e=>.panic (.iface 292 (.agg (jK e)))
@[reducible] def rC :eP ay aj→cO
 | .ok r=>.ret (.agg (bE r))
 | .bad e=>.panic (.iface 292 (.agg (jK e)))
@[reducible] def r9 :eP ay aj→cO
 | .ok r=>.ret (.agg (bE r))
 | .bad e=>.panic (.iface 292 (.agg (jK e)))
@[reducible] def rZ :eP ay aj→cO
 | .ok r=>.ret (.agg (bE r))
 | .bad e=>.panic (.iface 292 (.agg (jK e)))
@[reducible] def r_ :eP ay (List aj)→cO
 | .ok r=>.ret (.list (aj.aK r))
 | .bad e=>.panic (.iface 292 (.agg (jK e)))
@[reducible] def pG :eP ay aj→cO
 | .ok r=>.ret (.agg (bE r))
 | .bad e=>.panic (.iface 292 (.agg (jK e)))
abbrev fJ (aD:ak→Option (eP ay aj × ak)):Prop:=∀ (kV:Nat) (gD:ak) {eG:eP ay aj} {iU:ak},aD gD=some (eG,iU)→∀ {Q:cO→List aV→Prop} (h:Q (oh eG) [.box kV (aQ iU)]),PC 286 [pP kV] [.box kV (aQ gD)] Q
abbrev fI (aI:ak→Int→Option (eP ay aj × ak)):Prop:=∀ (kV:Nat) (gD:ak) (L6:Int) {eG:eP ay aj} {iU:ak},aI gD L6=some (eG,iU)→∀ {Q:cO→List aV→Prop} (h:Q (n_ eG) [.box kV (aQ iU)]),PC 313 [pP kV,iP L6] [.box kV (aQ gD)] Q
abbrev h_ (aN:ak→Option (eP ay aj × ak)):Prop:=∀ (kV:Nat) (gD:ak) {eG:eP ay aj} {iU:ak},aN gD=some (eG,iU)→∀ {Q:cO→List aV→Prop} (h:Q (rA eG) [.box kV (aQ iU)]),PC 329 [pP kV] [.box kV (aQ gD)] Q
abbrev ig (aO:ak→Option (eP ay aj × ak)):Prop:=∀ (kV:Nat) (gD:ak) {eG:eP ay aj} {iU:ak},aO gD=some (eG,iU)→∀ {Q:cO→List aV→Prop} (h:Q (rC eG) [.box kV (aQ iU)]),PC 340 [pP kV] [.box kV (aQ gD)] Q
abbrev iH (bn:ak→Option (eP ay aj × ak)):Prop:=∀ (kV:Nat) (gD:ak) {eG:eP ay aj} {iU:ak},bn gD=some (eG,iU)→∀ {Q:cO→List aV→Prop} (h:Q (r9 eG) [.box kV (aQ iU)]),PC 344 [pP kV] [.box kV (aQ gD)] Q
abbrev iG (bg:ak→Str→Option (eP ay aj × ak)):Prop:=∀ (kV:Nat) (gD:ak) (qx:Str) {eG:eP ay aj} {iU:ak},bg gD qx=some (eG,iU)→∀ {Q:cO→List aV→Prop} (h:Q (rZ eG) [.box kV (aQ iU)]),PC 347 [pP kV,.str qx] [.box kV (aQ gD)] Q
abbrev iI (aW:ak→Str→Option (eP ay (List aj) × ak)):Prop:=∀ (kV:Nat) (gD:ak) (Er:Str) {eG:eP ay (List aj)} {iU:ak},aW gD Er=some (eG,iU)→∀ {Q:cO→List aV→Prop} (h:Q (r_ eG) [.box kV (aQ iU)]),PC 348 [pP kV,.str Er] [.box kV (aQ gD)] Q
abbrev gB (aP:ak→Option (eP ay aj × ak)):Prop:=∀ (kV:Nat) (gD:ak) {eG:eP ay aj} {iU:ak},aP gD=some (eG,iU)→∀ {Q:cO→List aV→Prop} (h:Q (pG eG) [.box kV (aQ iU)]),PC 349 [pP kV] [.box kV (aQ gD)] Q
theorem Bq (aD) (bI:fJ aD) (aI) (dD:fI aI) (aN) (fA:h_ aN) (aO) (gq:ig aO) (bn) (gN:iH bn) (bg) (gM:iG bg) (aW) (fF:iI aW) (aP) (fH:gB aP) (p1:Nat) (nY:ak) {rX:eP ay aj} {nX:ak} (hf:oo aD aI aN aO bn bg aW aP nY=some (rX,nX)) {Q:cO→List aV→Prop} (h:Q (oh rX) [.box p1 (aQ nX)]):PC 286 [pP p1] [.box p1 (aQ nY)] Q:=by
 unfold oo at hf; refine BD 23 [.cell 2 45] [0] Tryz.func286 Z Z Z Z Z (W 0 Z (AS Z (AO.aC Z iO (fun b2=>?_)))); rcases dQ hf with ⟨e1,y2,h1,hf⟩ | ⟨x1,y1,h1,hf⟩
 · refine U 1 Z (CL Z (AC.one 1 Z (dD _ _ _ h1 ⟨_,Z,?_⟩))); cases hf; exact ⟨rfl,_,(.cons _ (.cons_cons _ (List.nil_sublist _))),h⟩
 refine U 1 Z (CL Z (AC.one 1 Z (dD _ _ _ h1 ⟨_,Z,(AS Z (AO.aC Z iO (fun b3=>?_)))⟩))); obtain ⟨x2,y3,h2,hf⟩:=bM hf; refine Rr 2 [0] Z Z (CL Z (AC.one 2 Z (dY _ _ _ h2 ⟨_,Z,(J 1 Z (C hf Z (fun h3 hf=>?_) fun h3 hf=>?_))⟩)))
 · cases hf; exact Wx 2 [0,1] rfl rfl ⟨rfl,_,⟨_,_,rfl,⟨_,_,1,_,_,rfl,rfl,gH,rfl⟩,rfl⟩,_,(.cons _ (.cons _ (.cons_cons _ (List.nil_sublist _)))),h⟩
 rcases dQ hf with ⟨e2,y5,h4,hf⟩ | ⟨x3,y4,h4,hf⟩
 · refine W 1 Z (CL Z (AC.one 2 Z (bI _ _ h4 ⟨_,Z,?_⟩))); cases hf; exact ⟨rfl,_,(.cons _ (.cons _ (.cons_cons _ (List.nil_sublist _)))),h⟩
 refine W 1 Z (CL Z (AC.one 2 Z (bI _ _ h4 ⟨_,Z,(AS Z (AO.aC Z iO (fun b4=>?_)))⟩))); rcases dQ hf with ⟨e3,y7,h5,hf⟩ | ⟨_,y6,h5,hf⟩
 · refine Rr 2 [0] Z Z (CL Z (AC.one 3 Z (dK _ _ _ h5 ⟨_,Z,?_⟩))); cases hf; exact ⟨rfl,_,(.cons _ (.cons _ (.cons _ (.cons_cons _ (List.nil_sublist _))))),h⟩
 refine Rr 2 [0] Z Z (CL Z (AC.one 3 Z (dK _ _ _ h5 ⟨_,Z,?_⟩))); rcases dQ hf with ⟨e4,y9,h6,hf⟩ | ⟨x4,y8,h6,hf⟩
 · refine U 1 Z (CL Z (AC.one 3 Z (bI _ _ h6 ⟨_,Z,?_⟩))); cases hf; exact ⟨rfl,_,(.cons _ (.cons _ (.cons _ (.cons_cons _ (List.nil_sublist _))))),h⟩
 refine U 1 rfl (CL rfl (AC.one 3 rfl (bI _ _ h6 ⟨_,rfl,(AS rfl (AO.aC rfl iO (fun b5=>(Rr 4 [0,2,1,0] rfl rfl (AS rfl (AO.bD (aj.aK [x1,x3,x4]) rfl uU rfl rfl rfl (by first | rfl | simp only [List.map,aj.aF,aj.aK]) ?_))))))⟩))); cases hf; exact Rx 2 [3] rfl rfl ⟨rfl,_,⟨_,_,rfl,⟨_,_,3,_,_,rfl,rfl,gH,rfl⟩,rfl⟩,_,(.cons _ (.cons _ (.cons _ (.cons _ (.cons_cons _ (List.nil_sublist _)))))),h⟩
theorem Bp (aD) (bI:fJ aD) (aI) (dD:fI aI) (aN) (fA:h_ aN) (aO) (gq:ig aO) (bn) (gN:iH bn) (bg) (gM:iG bg) (aW) (fF:iI aW) (aP) (fH:gB aP) (p1:Nat) (nY:ak) (n1:Int) {rX:eP ay aj} {nX:ak} (hf:om aD aI aN aO bn bg aW aP nY n1=some (rX,nX)) {Q:cO→List aV→Prop} (h:Q (n_ rX) [.box p1 (aQ nX)]):PC 313 [pP p1,iP n1] [.box p1 (aQ nY)] Q:=by
 unfold om at hf; refine BD 47 [.cell 4 45] [0,1] Tryz.func313 Z Z Z Z Z (W 0 Z (AS Z (AO.aC Z iO (fun b4=>(J 2 Z (C hf Z (fun h1 hf=>?_) fun h1 hf=>?_))))))
 ·
  rcases dQ hf with ⟨e1,y2,h2,hf⟩ | ⟨x1,y1,h2,hf⟩
  · refine W 1 Z (CL Z (AC.one 1 Z (fA _ _ h2 ⟨_,Z,?_⟩))); cases hf; exact ⟨rfl,_,(.cons _ (.cons_cons _ (List.nil_sublist _))),h⟩
  refine W 1 Z (CL Z (AC.one 1 Z (fA _ _ h2 ⟨_,Z,?_⟩))); cases hf; exact Rx 1 [0] rfl rfl ⟨rfl,_,⟨_,_,rfl,⟨_,_,0,_,_,rfl,rfl,gH,rfl⟩,rfl⟩,_,(.cons _ (.cons_cons _ (List.nil_sublist _))),h⟩
 rcases dQ hf with ⟨e2,y4,h3,hf⟩ | ⟨x2,y3,h3,hf⟩
 · refine W 3 Z (CL Z (AC.one 1 Z (dD _ _ _ h3 ⟨_,Z,?_⟩))); cases hf; exact ⟨rfl,_,(.cons _ (.cons_cons _ (List.nil_sublist _))),h⟩
 refine W 3 Z (CL Z (AC.one 1 Z (dD _ _ _ h3 ⟨_,Z,(AS Z (AO.aC Z iO (fun b5=>?_)))⟩))); refine Rw 1 [0] Z Z (Vn (fun e3 y5=>[(0,pP p1),(1,iP n1),(4,pP b4),(5,pP b5)]) (fun e3 y5=>[.box b5 (bE e3),.box b4 [iP 0,.str ([]:Str),iP 0,.bool false,iP 0,.str ([]:Str),.own (.slice none 0 0) [],.own (.slice none 0 0) [],.own (.slice none 0 0) [],.own (.slice none 0 0) []],.box p1 (aQ y5)]) (fun b_ e3 y5=>lu aI n1 b_ e3 y5=some (rX,nX)) BIG x2 y3 Z Z hf (fun _ _ hz=>bU hz) ?_); intro b_ e3 y5 hf; rw [lu] at hf; obtain ⟨x3,y6,h4,hf⟩:=bM hf; refine W 1 Z (CL Z (AC.one 2 Z (oU _ _ h4 ⟨_,Z,(AS Z (AO.aC Z vL (fun b6=>?_)))⟩))); refine B1 hf fun b1 h6 hf=>Rr 5 [0,0] Z Z (AR.gI 6 20 26 false [0,1,4,5,6] b1 Z Z (fun h5=>?_) (fun h5=>?_) ?_)
 · replace h6:=jf h5 h6; refine Is 20 h5 Z (U 1 Z (GO Z (AO.aR (i:=0) Z Z Z M4 Z Z ?_))); refine B1 h6 fun x4 h7 h6=>GO Z (AO.call Z _ Z Z abF (rT _ h7 ?_)); cases h6; exact fZ 3 Z (En [26,0,1,4,5,6] Z)
 · refine IT 20 h5 h6 Z fun h6=>?_; cases h6; exact fZ 6 Z (En [26,0,1,4,5,6] Z)
 refine J 0 Z (C hf Z (fun h8 hf=>?_) fun h8 hf=>?_)
 · cases hf; exact Wx 2 [1,2] rfl rfl ⟨rfl,_,⟨_,_,rfl,⟨_,_,2,_,_,rfl,rfl,gH,rfl⟩,rfl⟩,_,(.cons _ (.cons _ (.cons _ (.cons_cons _ (List.nil_sublist _))))),h⟩
 refine Ww 8 [3,3] Z Z (AW.Sb 0 6 8 3 mixed (by kernel_rfl) (by kernel_rfl) (by kernel_rfl) Z Z Z Z ?_); refine Ev.nil ?_; show Ev _ _ _ _ _ _ _; refine Ev.cs bJ 1 Z (Ev.cons Z Z Z (AO.aR (i:=0) Z Z Z M4 Z Z zg) (Ev.cons Z Z Z (AO.aR (i:=1) Z Z Z gH Z Z zg) (Ev.cs bJ 3 Z ?_))); refine Ev.nil ?_; rcases dQ hf with ⟨e4,y8,h9,hf⟩ | ⟨x5,y7,h9,hf⟩
 · refine TF.step Z Z Z (AO.call Z _ Z Z Wi (AC.one 0 Z (dD _ _ _ h9 ⟨_,Z,?_⟩))); cases hf; exact ⟨rfl,_,(.cons _ (.cons _ (.cons _ (.cons_cons _ (List.nil_sublist _))))),h⟩
 refine TF.step rfl rfl rfl (AO.call rfl _ rfl rfl Wi (AC.one 0 rfl (dD _ _ _ h9 ⟨_,rfl,(TF.step rfl rfl rfl (AO.bD (aj.aK [e3,x5]) rfl uU rfl rfl rfl (by first | rfl | simp only [List.map,aj.aF,aj.aK]) ?_))⟩))); refine TF.nil ?_; show AR _ _ _ _ _ _ _ _
 refine Rw 4 [1] Z Z (C hf Z (fun h10 hf=>?_) fun h10 hf=>?_)
 · cases hf; exact Wx 2 [1,2] rfl rfl ⟨rfl,_,⟨_,_,rfl,⟨_,_,2,_,_,rfl,rfl,gH,rfl⟩,rfl⟩,_,(.cons _ (.cons _ (.cons _ (.cons_cons _ (List.nil_sublist _))))),h⟩
 refine AW.drop1 (AW.Rt 0 Z ?_); exact M 0 Z ⟨(aj.mk 7 x3.text (ah.mk 0 false 0 ([]:Str) [] []) [e3,x5] []),y7,Z,Z,Z,hf⟩
theorem EM (aD) (bI:fJ aD) (aI) (dD:fI aI) (aN) (fA:h_ aN) (aO) (gq:ig aO) (bn) (gN:iH bn) (bg) (gM:iG bg) (aW) (fF:iI aW) (aP) (fH:gB aP) (p1:Nat) (nY:ak) {rX:eP ay aj} {nX:ak} (hf:rD aD aI aN aO bn bg aW aP nY=some (rX,nX)) {Q:cO→List aV→Prop} (h:Q (rA rX) [.box p1 (aQ nX)]):PC 329 [pP p1] [.box p1 (aQ nY)] Q:=by
 unfold rD at hf; refine BD 22 [.cell 2 45] [0] Tryz.func329 Z Z Z Z Z (W 0 Z (AS Z (AO.aC Z iO (fun b2=>(U 0 Z (AS Z (AO.bD (List.map l8 ([([33]:Str),([45]:Str)]:List Str)) Z qm Z Z Z Z (AS Z (AO.aT (l:=([([33]:Str),([45]:Str)]:List Str)) Z Z Z Z jZ Z Z ?_))))))))); refine J 1 Z (Vn (fun x1 y1=>[(0,pP p1),(2,pP b2),(5,sP (([([33]:Str),([45]:Str)]:List Str))),(6,iP (([([33]:Str),([45]:Str)]:List Str).length:Int)),(7,iP x1)]) (fun x1 y1=>[.box b2 [iP 0,.str ([]:Str),iP 0,.bool false,iP 0,.str ([]:Str),.own (.slice none 0 0) [],.own (.slice none 0 0) [],.own (.slice none 0 0) [],.own (.slice none 0 0) []],.box p1 (aQ y1)]) (fun b_ x1 y1=>ni aN aO b_ x1 y1=some (rX,nX)) BIG 0 nY Z Z hf (fun _ _ hz=>bU hz) ?_); intro b_ x1 y1 hf; rw [ni] at hf; refine V 1 Z (C hf Z (fun h1 hf=>?_) fun h1 hf=>?_)
 ·
  refine B1 hf fun op1 h2 hf=>W 0 Z (AS Z (AO.aZ h2 Z Z Z Z jZ Z Z ?_)); obtain ⟨x2,y2,h3,hf⟩:=bM hf; refine U 4 Z (CL Z (AC.one 1 Z (dY _ _ _ h3 ⟨_,Z,(J 0 Z (C hf Z (fun h4 hf=>?_) fun h4 hf=>?_))⟩)))
  ·
   rcases dQ hf with ⟨e1,y4,h5,hf⟩ | ⟨x3,y3,h5,hf⟩
   · refine W 2 Z (CL Z (AC.one 1 Z (fA _ _ h5 ⟨_,Z,?_⟩))); cases hf; exact ⟨rfl,_,(.cons _ (.cons_cons _ (List.nil_sublist _))),h⟩
   refine W 2 rfl (CL rfl (AC.one 1 rfl (fA _ _ h5 ⟨_,rfl,(AS rfl (AO.bD (aj.aK [x3]) rfl uU rfl rfl rfl (by first | rfl | simp only [List.map,aj.aF,aj.aK]) ?_))⟩))); cases hf; exact Rx 2 [0] rfl rfl ⟨rfl,_,⟨_,_,rfl,⟨_,_,0,_,_,rfl,rfl,gH,rfl⟩,rfl⟩,_,(.cons _ (.cons_cons _ (List.nil_sublist _))),h⟩
  exact M 2 Z ⟨(dG (x1 + 1)),y2,Z,Z,Z,hf⟩
 rcases dQ hf with ⟨e2,y6,h6,hf⟩ | ⟨x4,y5,h6,hf⟩
 · refine W 1 Z (CL Z (AC.one 1 Z (gq _ _ h6 ⟨_,Z,?_⟩))); cases hf; exact ⟨rfl,_,(.cons _ (.cons_cons _ (List.nil_sublist _))),h⟩
 refine W 1 Z (CL Z (AC.one 1 Z (gq _ _ h6 ⟨_,Z,?_⟩))); cases hf; exact Rx 1 [0] rfl rfl ⟨rfl,_,⟨_,_,rfl,⟨_,_,0,_,_,rfl,rfl,gH,rfl⟩,rfl⟩,_,(.cons _ (.cons_cons _ (List.nil_sublist _))),h⟩
theorem EN (aD) (bI:fJ aD) (aI) (dD:fI aI) (aN) (fA:h_ aN) (aO) (gq:ig aO) (bn) (gN:iH bn) (bg) (gM:iG bg) (aW) (fF:iI aW) (aP) (fH:gB aP) (p1:Nat) (nY:ak) {rX:eP ay aj} {nX:ak} (hf:rE aD aI aN aO bn bg aW aP nY=some (rX,nX)) {Q:cO→List aV→Prop} (h:Q (rC rX) [.box p1 (aQ nX)]):PC 340 [pP p1] [.box p1 (aQ nY)] Q:=by
 unfold rE at hf; refine BD 47 [.cell 2 45] [0] Tryz.func340 Z Z Z Z Z (W 0 Z (AS Z (AO.aC Z iO (fun b2=>?_)))); rcases dQ hf with ⟨e1,y2,h1,hf⟩ | ⟨x1,y1,h1,hf⟩
 · refine U 1 Z (CL Z (AC.one 1 Z (gN _ _ h1 ⟨_,Z,?_⟩))); cases hf; exact ⟨rfl,_,(.cons _ (.cons_cons _ (List.nil_sublist _))),h⟩
 refine U 1 Z (CL Z (AC.one 1 Z (gN _ _ h1 ⟨_,Z,(AS Z (AO.aC Z iO (fun b3=>?_)))⟩))); refine Rw 1 [0] Z Z (Vn (fun e2 y3=>[(0,pP p1),(2,pP b2),(3,pP b3)]) (fun e2 y3=>[.box b3 (bE e2),.box b2 [iP 0,.str ([]:Str),iP 0,.bool false,iP 0,.str ([]:Str),.own (.slice none 0 0) [],.own (.slice none 0 0) [],.own (.slice none 0 0) [],.own (.slice none 0 0) []],.box p1 (aQ y3)]) (fun b_ e2 y3=>jT aD b_ e2 y3=some (rX,nX)) BIG x1 y1 Z Z hf (fun _ _ hz=>bU hz) ?_); intro b_ e2 y3 hf; rw [jT] at hf; obtain ⟨x2,y4,h2,hf⟩:=bM hf; refine W 1 Z (CL Z (AC.one 2 Z (dY _ _ _ h2 ⟨_,Z,(J 1 Z (C hf Z (fun h3 hf=>?_) fun h3 hf=>?_))⟩)))
 ·
  rcases dQ hf with ⟨e3,y6,h4,hf⟩ | ⟨x3,y5,h4,hf⟩
  · refine W 1 Z (CL Z (AC.one 2 Z (jg _ _ h4 ⟨_,Z,?_⟩))); cases hf; exact ⟨rfl,_,(.cons _ (.cons _ (.cons_cons _ (List.nil_sublist _)))),h⟩
  refine W 1 Z (CL Z (AC.one 2 Z (jg _ _ h4 ⟨_,Z,(AS Z (AO.aC Z vL (fun b4=>?_)))⟩))); refine B1 hf fun b1 h6 hf=>Rr 5 [0,0] Z Z (AR.gI 4 17 21 false [0,2,3,4] b1 Z Z (fun h5=>?_) (fun h5=>?_) ?_)
  · replace h6:=jf h5 h6; refine Is 17 h5 Z (U 1 Z (GO Z (AO.aR (i:=0) Z Z Z M4 Z Z ?_))); refine BR h6 fun x4 h7 h6=>?_; refine GO Z (AO.call Z _ Z Z Wp (CO _ h7 ?_)); cases h6; exact fZ 1 Z (En [21,0,2,3,4] Z)
  · refine IT 17 h5 h6 Z fun h6=>?_; cases h6; exact fZ 4 Z (En [21,0,2,3,4] Z)
  refine J 0 Z (C hf Z (fun h8 hf=>?_) fun h8 hf=>?_)
  ·
   rcases dQ hf with ⟨e4,y8,h9,hf⟩ | ⟨_,y7,h9,hf⟩
   · refine W 1 Z (CL Z (AC.one 3 Z (eO _ _ _ h9 ⟨_,Z,?_⟩))); cases hf; exact ⟨rfl,_,(.cons _ (.cons _ (.cons _ (.cons_cons _ (List.nil_sublist _))))),h⟩
   refine W 1 rfl (CL rfl (AC.one 3 rfl (eO _ _ _ h9 ⟨_,rfl,(Rr 11 [3,3,0,1] rfl rfl (AS rfl (AO.bD (aj.aK [e2]) rfl uU rfl rfl rfl (by first | rfl | simp only [List.map,aj.aF,aj.aK]) ?_)))⟩))); refine Rn 2 [1] Z Z (AR.drop1 (AR.Rt 0 Z ?_)); exact N 0 Z ⟨(aj.mk 3 x3.text (ah.mk 0 false 0 ([]:Str) [] []) [e2] []),(ak.mk y7.ts (dG (y7.at_ + 1))),Z,Z,Z,hf⟩
  refine Wr 11 [3,3,0,1] rfl rfl (AS rfl (AO.bD (aj.aK [e2]) rfl uU rfl rfl rfl (by first | rfl | simp only [List.map,aj.aF,aj.aK]) ?_)); refine Rn 2 [1] Z Z (AR.drop1 (AR.Rt 0 Z ?_)); exact N 0 Z ⟨(aj.mk 3 x3.text (ah.mk 0 false 0 ([]:Str) [] []) [e2] []),(ak.mk y5.ts (dG (y5.at_ + 1))),Z,Z,Z,hf⟩
 obtain ⟨x5,y9,h10,hf⟩:=bM hf; refine W 1 Z (CL Z (AC.one 2 Z (dY _ _ _ h10 ⟨_,Z,(J 1 Z (C hf Z (fun h11 hf=>?_) fun h11 hf=>?_))⟩)))
 ·
  rcases dQ hf with ⟨e5,XQ,h12,hf⟩ | ⟨x6,X0,h12,hf⟩
  · refine W 1 Z (CL Z (AC.one 2 Z (bI _ _ h12 ⟨_,Z,?_⟩))); cases hf; exact ⟨rfl,_,(.cons _ (.cons _ (.cons_cons _ (List.nil_sublist _)))),h⟩
  refine W 1 Z (CL Z (AC.one 2 Z (bI _ _ h12 ⟨_,Z,(AS Z (AO.aC Z iO (fun b5=>?_)))⟩))); rcases dQ hf with ⟨e6,y13,l6,hf⟩ | ⟨_,XZ,l6,hf⟩
  · refine Rr 2 [0] Z Z (CL Z (AC.one 3 Z (dK _ _ _ l6 ⟨_,Z,?_⟩))); cases hf; exact ⟨rfl,_,(.cons _ (.cons _ (.cons _ (.cons_cons _ (List.nil_sublist _))))),h⟩
  refine Rr 2 [0] rfl rfl (CL rfl (AC.one 3 rfl (dK _ _ _ l6 ⟨_,rfl,(Rr 2 [1,0] rfl rfl (AS rfl (AO.bD (aj.aK [e2,x6]) rfl uU rfl rfl rfl (by first | rfl | simp only [List.map,aj.aF,aj.aK]) ?_)))⟩))); refine Rn 2 [1] Z Z (AR.drop1 (AR.Rt 0 Z ?_)); exact N 0 Z ⟨(aj.mk 4 ([]:Str) (ah.mk 0 false 0 ([]:Str) [] []) [e2,x6] []),XZ,Z,Z,Z,hf⟩
 cases hf; exact Wx 2 [0,1] rfl rfl ⟨rfl,_,⟨_,_,rfl,⟨_,_,1,_,_,rfl,rfl,gH,rfl⟩,rfl⟩,_,(.cons _ (.cons _ (.cons_cons _ (List.nil_sublist _)))),h⟩
theorem E_ (aD) (bI:fJ aD) (aI) (dD:fI aI) (aN) (fA:h_ aN) (aO) (gq:ig aO) (bn) (gN:iH bn) (bg) (gM:iG bg) (aW) (fF:iI aW) (aP) (fH:gB aP) (p1:Nat) (nY:ak) {rX:eP ay aj} {nX:ak} (hf:sI aD aI aN aO bn bg aW aP nY=some (rX,nX)) {Q:cO→List aV→Prop} (h:Q (r9 rX) [.box p1 (aQ nX)]):PC 344 [pP p1] [.box p1 (aQ nY)] Q:=by
 unfold sI at hf; refine BD 77 [.cell 2 45] [0] Tryz.func344 Z Z Z Z Z (W 0 Z (AS Z (AO.aC Z iO (fun b2=>?_)))); rcases dQ hf with ⟨e1,y2,h1,hf⟩ | ⟨x1,y1,h1,hf⟩
 · refine U 1 Z (CL Z (AC.one 1 Z (jg _ _ h1 ⟨_,Z,?_⟩))); cases hf; exact ⟨rfl,_,(.cons _ (.cons_cons _ (List.nil_sublist _))),h⟩
 refine U 1 Z (CL Z (AC.one 1 Z (jg _ _ h1 ⟨_,Z,(AS Z (AO.aC Z vL (fun b3=>(Rw 5 [0,0] Z Z (C hf Z (fun h2 hf=>?_) fun h2 hf=>?_)))))⟩)))
 · obtain ⟨n1,x2,h3,hf⟩:=bM hf; refine Wr 10 [2,2,0] Z Z (CL Z (Bd _ h3 ?_)); refine B1 hf fun x3 h4 hf=>U 7 Z (CL Z (uy _ h4 ?_)); cases hf; exact Rx 1 [1] rfl rfl ⟨rfl,_,⟨_,_,rfl,⟨_,_,1,_,_,rfl,rfl,gH,rfl⟩,rfl⟩,_,(.cons _ (.cons _ (.cons_cons _ (List.nil_sublist _)))),h⟩
 refine V 2 Z (C hf Z (fun h5 hf=>?_) fun h5 hf=>?_)
 · refine B1 hf fun x4 h6 hf=>Wr 11 [2,2,0] Z Z (CL Z (uy _ h6 ?_)); cases hf; exact Rx 1 [1] rfl rfl ⟨rfl,_,⟨_,_,rfl,⟨_,_,1,_,_,rfl,rfl,gH,rfl⟩,rfl⟩,_,(.cons _ (.cons _ (.cons_cons _ (List.nil_sublist _)))),h⟩
 refine V 2 Z (C hf Z (fun h7 hf=>?_) fun h7 hf=>?_)
 ·
  rcases dQ hf with ⟨e2,y4,h8,hf⟩ | ⟨x5,y3,h8,hf⟩
  · refine Wr 11 [2,2,0] Z Z (CL Z (AC.one 2 Z (gM _ _ _ h8 ⟨_,Z,?_⟩))); cases hf; exact ⟨rfl,_,(.cons _ (.cons _ (.cons_cons _ (List.nil_sublist _)))),h⟩
  refine Wr 11 [2,2,0] Z Z (CL Z (AC.one 2 Z (gM _ _ _ h8 ⟨_,Z,?_⟩))); cases hf; exact Rx 1 [1] rfl rfl ⟨rfl,_,⟨_,_,rfl,⟨_,_,1,_,_,rfl,rfl,gH,rfl⟩,rfl⟩,_,(.cons _ (.cons _ (.cons_cons _ (List.nil_sublist _)))),h⟩
 obtain ⟨x6,y5,h9,hf⟩:=bM hf; refine W 1 Z (CL Z (AC.one 2 Z (dY _ _ _ h9 ⟨_,Z,(J 1 Z (C hf Z (fun h10 hf=>?_) fun h10 hf=>?_))⟩)))
 ·
  rcases dQ hf with ⟨e3,y7,h11,hf⟩ | ⟨x7,y6,h11,hf⟩
  · refine W 1 Z (CL Z (AC.one 2 Z (bI _ _ h11 ⟨_,Z,?_⟩))); cases hf; exact ⟨rfl,_,(.cons _ (.cons _ (.cons_cons _ (List.nil_sublist _)))),h⟩
  refine W 1 Z (CL Z (AC.one 2 Z (bI _ _ h11 ⟨_,Z,(AS Z (AO.aC Z iO (fun b6=>?_)))⟩))); rcases dQ hf with ⟨e4,y9,h12,hf⟩ | ⟨_,y8,h12,hf⟩
  · refine Rr 2 [0] Z Z (CL Z (AC.one 3 Z (dK _ _ _ h12 ⟨_,Z,?_⟩))); cases hf; exact ⟨rfl,_,(.cons _ (.cons _ (.cons _ (.cons_cons _ (List.nil_sublist _))))),h⟩
  refine Rr 2 [0] Z Z (CL Z (AC.one 3 Z (dK _ _ _ h12 ⟨_,Z,?_⟩))); cases hf; exact Rx 2 [0,2] rfl rfl ⟨rfl,_,⟨_,_,rfl,⟨_,_,2,_,_,rfl,rfl,gH,rfl⟩,rfl⟩,_,(.cons _ (.cons _ (.cons _ (.cons_cons _ (List.nil_sublist _))))),h⟩
 obtain ⟨x8,X0,l6,hf⟩:=bM hf; refine W 1 Z (CL Z (AC.one 2 Z (dY _ _ _ l6 ⟨_,Z,(J 1 Z (C hf Z (fun lH hf=>?_) fun lH hf=>?_))⟩)))
 ·
  rcases dQ hf with ⟨e5,XZ,rO,hf⟩ | ⟨x9,XQ,rO,hf⟩
  · refine W 1 Z (CL Z (AC.one 2 Z (fF _ _ _ rO ⟨_,Z,?_⟩))); cases hf; exact ⟨rfl,_,(.cons _ (.cons _ (.cons_cons _ (List.nil_sublist _)))),h⟩
  refine W 1 Z (CL Z (AC.one 2 Z (fF _ _ _ rO ⟨_,Z,?_⟩))); cases hf; exact Rx 2 [1] rfl rfl ⟨rfl,_,⟨_,_,rfl,⟨_,_,1,_,_,rfl,rfl,gH,rfl⟩,rfl⟩,_,(.cons _ (.cons _ (.cons_cons _ (List.nil_sublist _)))),h⟩
 obtain ⟨Kn,y13,h16,hf⟩:=bM hf; refine W 1 Z (CL Z (AC.one 2 Z (dY _ _ _ h16 ⟨_,Z,(J 1 Z (C hf Z (fun xM hf=>?_) fun xM hf=>?_))⟩)))
 ·
  rcases dQ hf with ⟨e6,y15,h18,hf⟩ | ⟨Lb,y14,h18,hf⟩
  · refine W 1 Z (CL Z (AC.one 2 Z (fH _ _ h18 ⟨_,Z,?_⟩))); cases hf; exact ⟨rfl,_,(.cons _ (.cons _ (.cons_cons _ (List.nil_sublist _)))),h⟩
  refine W 1 Z (CL Z (AC.one 2 Z (fH _ _ h18 ⟨_,Z,?_⟩))); cases hf; exact Rx 1 [1] rfl rfl ⟨rfl,_,⟨_,_,rfl,⟨_,_,1,_,_,rfl,rfl,gH,rfl⟩,rfl⟩,_,(.cons _ (.cons _ (.cons_cons _ (List.nil_sublist _)))),h⟩
 rcases dQ hf with ⟨e7,y17,h19,hf⟩ | ⟨_,y16,h19,hf⟩
 · refine W 1 Z (CL Z (AC.one 2 Z (eO _ _ _ h19 ⟨_,Z,?_⟩))); cases hf; exact ⟨rfl,_,(.cons _ (.cons _ (.cons_cons _ (List.nil_sublist _)))),h⟩
 refine W 1 Z (CL Z (AC.one 2 Z (eO _ _ _ h19 ⟨_,Z,?_⟩))); cases hf; exact Rx 2 [1] rfl rfl ⟨rfl,_,⟨_,_,rfl,⟨_,_,1,_,_,rfl,rfl,gH,rfl⟩,rfl⟩,_,(.cons _ (.cons _ (.cons_cons _ (List.nil_sublist _)))),h⟩
theorem E9 (aD) (bI:fJ aD) (aI) (dD:fI aI) (aN) (fA:h_ aN) (aO) (gq:ig aO) (bn) (gN:iH bn) (bg) (gM:iG bg) (aW) (fF:iI aW) (aP) (fH:gB aP) (p1:Nat) (nY:ak) (s1:Str) {rX:eP ay aj} {nX:ak} (hf:sH aD aI aN aO bn bg aW aP nY s1=some (rX,nX)) {Q:cO→List aV→Prop} (h:Q (rZ rX) [.box p1 (aQ nX)]):PC 347 [pP p1,.str s1] [.box p1 (aQ nY)] Q:=by
 unfold sH at hf; refine BD 26 [.cell 4 45] [0,1] Tryz.func347 Z Z Z Z Z (W 0 Z (AS Z (AO.aC Z iO (fun b4=>(J 3 Z (C hf Z (fun h1 hf=>?_) fun h1 hf=>?_))))))
 · refine B1 hf fun x1 h2 hf=>W 1 Z (CL Z (uy _ h2 ?_)); cases hf; exact Rx 1 [0] rfl rfl ⟨rfl,_,⟨_,_,rfl,⟨_,_,0,_,_,rfl,rfl,gH,rfl⟩,rfl⟩,_,(.cons _ (.cons_cons _ (List.nil_sublist _))),h⟩
 refine B1 hf fun x2 h3 hf=>W 1 Z (CL Z (CO _ h3 (J 1 Z (C hf Z (fun h4 hf=>?_) fun h4 hf=>?_))))
 · refine B1 hf fun x3 h5 hf=>W 3 Z (CL Z (uy _ h5 ?_)); cases hf; exact Rx 1 [0] rfl rfl ⟨rfl,_,⟨_,_,rfl,⟨_,_,0,_,_,rfl,rfl,gH,rfl⟩,rfl⟩,_,(.cons _ (.cons_cons _ (List.nil_sublist _))),h⟩
 obtain ⟨x4,y1,h6,hf⟩:=bM hf; refine W 1 Z (CL Z (AC.one 1 Z (dY _ _ _ h6 ⟨_,Z,(J 1 Z (C hf Z (fun h7 hf=>?_) fun h7 hf=>?_))⟩)))
 ·
  rcases dQ hf with ⟨e1,y3,h8,hf⟩ | ⟨x5,y2,h8,hf⟩
  · refine W 2 Z (CL Z (AC.one 1 Z (fF _ _ _ h8 ⟨_,Z,?_⟩))); cases hf; exact ⟨rfl,_,(.cons _ (.cons_cons _ (List.nil_sublist _))),h⟩
  refine W 2 Z (CL Z (AC.one 1 Z (fF _ _ _ h8 ⟨_,Z,?_⟩))); cases hf; exact Rx 2 [0] rfl rfl ⟨rfl,_,⟨_,_,rfl,⟨_,_,0,_,_,rfl,rfl,gH,rfl⟩,rfl⟩,_,(.cons _ (.cons_cons _ (List.nil_sublist _))),h⟩
 cases hf; exact Wx 3 [0] rfl rfl ⟨rfl,_,⟨_,_,rfl,⟨_,_,0,_,_,rfl,rfl,gH,rfl⟩,rfl⟩,_,(.cons _ (.cons_cons _ (List.nil_sublist _))),h⟩
theorem Fa (aD) (bI:fJ aD) (aI) (dD:fI aI) (aN) (fA:h_ aN) (aO) (gq:ig aO) (bn) (gN:iH bn) (bg) (gM:iG bg) (aW) (fF:iI aW) (aP) (fH:gB aP) (p1:Nat) (nY:ak) (uN:Str) {rX:eP ay (List aj)} {nX:ak} (hf:sJ aD aI aN aO bn bg aW aP nY uN=some (rX,nX)) {Q:cO→List aV→Prop} (h:Q (r_ rX) [.box p1 (aQ nX)]):PC 348 [pP p1,.str uN] [.box p1 (aQ nY)] Q:=by
 unfold sJ at hf; refine BD 21 [.tmp 4] [0,1] Tryz.func348 Z Z Z Z Z (W 0 Z (AS Z (AO.d9 Z Z ?_))); obtain ⟨x1,y1,h1,hf⟩:=bM hf; refine U 2 Z (CL Z (AC.one 0 Z (dY _ _ _ h1 ⟨_,Z,(J 0 Z (C hf Z (fun h2 hf=>?_) fun h2 hf=>?_))⟩)))
 · refine W 0 Z (AS Z (AO.d9 Z Z ?_)); cases hf; exact N 0 rfl ⟨rfl,_,⟨_,_,rfl,rfl,rfl⟩,_,(.cons_cons _ (List.nil_sublist _)),h⟩
 refine V 1 Z (AW.row 10 45 (Rj (fun aY v1 y2=>[(0,pP p1),(1,.str uN),(5,.own v1 (aj.aK aY))]) (fun aY v1 y2=>[.row v1 (aj.aK aY).length 10 45,.box p1 (aQ y2)]) (fun b_ aY v1 y2=>nV aD uN b_ aY y2=some (rX,nX)) BIG [] (.slice none 0 0) y1 Z Z hf (fun _ _ _ hz=>bU hz) ?_)); intro b_ aY v1 y2 hf; rw [nV] at hf; rcases dQ hf with ⟨e1,y4,h3,hf⟩ | ⟨x2,y3,h3,hf⟩
 · refine W 2 Z (CL Z (AC.one 1 Z (bI _ _ h3 ⟨_,Z,?_⟩))); cases hf; exact ⟨rfl,_,(.cons _ (.cons_cons _ (List.nil_sublist _))),h⟩
 refine W 2 rfl (CL rfl (AC.one 1 rfl (bI _ _ h3 ⟨_,rfl,(AS rfl (AO.bD (aj.aK [x2]) rfl uU rfl rfl rfl (by first | rfl | simp only [List.map,aj.aF,aj.aK]) ?_))⟩))); refine B1 hf fun j6 h4 hf=>AS Z (AO.eB (i:=0) (l:=aY) (m:=[x2]) h4 Z Z Z Z Z Z Z uU iQ (aj.aA _) (aj.aA _) (aj.aA _).symm (aj.bB) (aj.cells_one) (by decide) (fun v2 s1 hs1=>?_)); cases hs1; obtain ⟨x3,y5,h5,hf⟩:=bM hf
 refine U 2 Z (CL Z (AC.one 1 Z (dY _ _ _ h5 ⟨_,Z,(J 1 Z (C hf Z (fun h6 hf=>?_) fun h6 hf=>?_))⟩)))
 ·
  rcases dQ hf with ⟨e2,y7,h7,hf⟩ | ⟨_,y6,h7,hf⟩
  · refine W 2 Z (CL Z (AC.one 1 Z (dK _ _ _ h7 ⟨_,Z,?_⟩))); cases hf; exact ⟨rfl,_,(.cons _ (.cons_cons _ (List.nil_sublist _))),h⟩
  refine W 2 Z (CL Z (AC.one 1 Z (dK _ _ _ h7 ⟨_,Z,?_⟩))); cases hf; exact N 2 rfl ⟨rfl,_,⟨_,_,rfl,rfl,rfl⟩,_,(.cons _ (.cons_cons _ (List.nil_sublist _))),h⟩
 exact M 0 Z ⟨j6,v2,y5,Z,Z,Z,hf⟩
theorem CU (aD) (bI:fJ aD) (aI) (dD:fI aI) (aN) (fA:h_ aN) (aO) (gq:ig aO) (bn) (gN:iH bn) (bg) (gM:iG bg) (aW) (fF:iI aW) (aP) (fH:gB aP) (p1:Nat) (nY:ak) {rX:eP ay aj} {nX:ak} (hf:pR aD aI aN aO bn bg aW aP nY=some (rX,nX)) {Q:cO→List aV→Prop} (h:Q (pG rX) [.box p1 (aQ nX)]):PC 349 [pP p1] [.box p1 (aQ nY)] Q:=by
 unfold pR at hf; refine BD 50 [.cell 2 45] [0] Tryz.func349 Z Z Z Z Z (W 0 Z (AS Z (AO.aC Z iO (fun b2=>(U 1 Z (AS Z (AO.aC Z iO (fun b3=>?_)))))))); obtain ⟨x1,y1,h1,hf⟩:=bM hf; refine Rr 2 [0] Z Z (CL Z (AC.one 2 Z (dY _ _ _ h1 ⟨_,Z,(J 0 Z (C hf Z (fun h2 hf=>?_) fun h2 hf=>?_))⟩)))
 · cases hf; exact Wx 2 [0,1] rfl rfl ⟨rfl,_,⟨_,_,rfl,⟨_,_,1,_,_,rfl,rfl,gH,rfl⟩,rfl⟩,_,(.cons _ (.cons _ (.cons_cons _ (List.nil_sublist _)))),h⟩
 refine V 0 Z (AW.row 10 45 (AW.row 1 9 (AW.settle [0,2,3] Z (AW.zM 2 [false,false,false,false,false,false,true,true] Z (LK4 (fun aY v1 v2 y2=>[(0,pP p1),(2,pP b2),(3,pP b3)]) (fun aY v1 v2 y2=>[.row v2 (List.map l8 aY.keys).length 1 9,.row v1 (aj.aK aY.args).length 10 45,.box b3 [iP aY.kind,.str aY.name,iP aY.value.kind,.bool aY.value.je,iP aY.value.jm,.str aY.value.iK,.list (ah.aK aY.value.cu),sP aY.value.keys,.own v1 (aj.aK aY.args),.own v2 (List.map l8 aY.keys)],.box b2 [iP 0,.str ([]:Str),iP 0,.bool false,iP 0,.str ([]:Str),.own (.slice none 0 0) [],.own (.slice none 0 0) [],.own (.slice none 0 0) [],.own (.slice none 0 0) []],.box p1 (aQ y2)]) (fun b_ aY v1 v2 y2=>kC aD b_ aY y2=some (rX,nX)) BIG (aj.mk 10 ([]:Str) (ah.mk 0 false 0 ([]:Str) [] []) [] []) (.slice none 0 0) (.slice none 0 0) y1 Z Z hf (fun _ _ _ _ hz=>bU hz) ?_))))); intro b_ aY v1 v2 y2 hf; rw [kC] at hf; rcases dQ hf with ⟨e1,y4,h3,hf⟩ | ⟨x2,y3,h3,hf⟩
 · refine W 1 Z (CL Z (AC.one 4 Z (jg _ _ h3 ⟨_,Z,?_⟩))); cases hf; exact ⟨rfl,_,(.cons _ (.cons _ (.cons _ (.cons _ (.cons_cons _ (List.nil_sublist _)))))),h⟩
 refine W 1 Z (CL Z (AC.one 4 Z (jg _ _ h3 ⟨_,Z,(AS Z (AO.aC Z vL (fun b4=>(Rr 5 [0,0] Z Z (AR.and 4 14 18 [0,2,3,4] (x:=(x2.kind != 3)) Z Z (fun h4=>?_) (fun h4=>?_) ?_)))))⟩)))
 · refine Is 14 h4 Z (U 1 Z (GO Z (AO.aR (i:=0) Z Z Z Br Z Z ?_))); exact fZ 2 Z (En [18,0,2,3,4] Z)
 · refine Is 14 h4 Z ?_; exact fZ 4 Z (En [18,0,2,3,4] Z)
 refine J 0 Z (C hf Z (fun h5 hf=>?_) fun h5 hf=>?_)
 ·
  rcases dQ hf with ⟨e2,y6,h6,hf⟩ | ⟨_,y5,h6,hf⟩
  · refine W 1 Z (CL Z (AC.one 5 Z (eO _ _ _ h6 ⟨_,Z,?_⟩))); cases hf; exact ⟨rfl,_,(.cons _ (.cons _ (.cons _ (.cons _ (.cons _ (.cons_cons _ (List.nil_sublist _))))))),h⟩
  refine W 1 Z (CL Z (AC.one 5 Z (eO _ _ _ h6 ⟨_,Z,?_⟩))); rcases dQ hf with ⟨e3,y8,h7,hf⟩ | ⟨_,y7,h7,hf⟩
  · refine Rr 9 [5,5] Z Z (CL Z (AC.one 5 Z (dK _ _ _ h7 ⟨_,Z,?_⟩))); cases hf; exact ⟨rfl,_,(.cons _ (.cons _ (.cons _ (.cons _ (.cons _ (.cons_cons _ (List.nil_sublist _))))))),h⟩
  refine Rr 9 [5,5] Z Z (CL Z (AC.one 5 Z (dK _ _ _ h7 ⟨_,Z,(Rr 4 [3,0] Z Z (AS Z (AO.bD (List.map l8 ([x2.text]:List Str)) Z qm Z Z Z Z ?_)))⟩))); refine B1 hf fun x3 h8 hf=>AS Z (AO.eB (i:=1) (l:=aY.keys) (m:=([x2.text]:List Str)) h8 Z Z Z Z Z Z Z qm jZ Z Z Z (fun _=>Z) (fun _=>Z) (by decide) (fun v3 s1 hs1=>?_)); cases hs1; refine Rw 2 [3] Z Z (AW.Sb 0 3 5 5 mixed (by kernel_rfl) (by kernel_rfl) (by kernel_rfl) Z Z Z Z ?_); refine Ev.nil ?_; show Ev _ _ _ _ _ _ _; refine Ev.cs bJ 1 Z (Ev.cons Z Z Z (AO.aR (i:=3) Z Z Z Lh Z Z zg) (Ev.cs bJ 1 Z (Ev.nil ?_))); rcases dQ hf with ⟨e4,X0,h9,hf⟩ | ⟨x4,y9,h9,hf⟩
  · refine TF.step Z Z Z (AO.call Z _ Z Z KF (AC.one 0 Z (bI _ _ h9 ⟨_,Z,?_⟩))); cases hf; exact ⟨rfl,_,(.cons _ (.cons _ (.cons _ (.cons _ (.cons _ (.cons_cons _ (List.nil_sublist _))))))),h⟩
  refine TF.step rfl rfl rfl (AO.call rfl _ rfl rfl KF (AC.one 0 rfl (bI _ _ h9 ⟨_,rfl,(TF.step rfl rfl rfl (AO.bD (aj.aK [x4]) rfl uU rfl rfl rfl (by first | rfl | simp only [List.map,aj.aF,aj.aK]) ?_))⟩))); refine TF.nil ?_; show AR _ _ _ _ _ _ _ _
  refine B1 hf fun x5 h10 hf=>AS Z (AO.eB (i:=2) (l:=aY.args) (m:=[x4]) h10 Z Z Z Z Z Z Z uU iQ (aj.aA _) (aj.aA _) (aj.aA _).symm (aj.bB) (aj.cells_one) (by decide) (fun v4 s2 hs2=>?_)); cases hs2; obtain ⟨x6,XQ,h11,hf⟩:=bM hf; refine Rr 3 [3] Z Z (CL Z (AC.one 5 Z (dY _ _ _ h11 ⟨_,Z,(J 1 Z (C hf Z (fun h12 hf=>?_) fun h12 hf=>?_))⟩)))
  ·
   rcases dQ hf with ⟨e5,y13,l6,hf⟩ | ⟨_,XZ,l6,hf⟩
   · refine W 1 Z (CL Z (AC.one 5 Z (dK _ _ _ l6 ⟨_,Z,?_⟩))); cases hf; exact ⟨rfl,_,(.cons _ (.cons _ (.cons _ (.cons _ (.cons _ (.cons_cons _ (List.nil_sublist _))))))),h⟩
   refine W 1 Z (CL Z (AC.one 5 Z (dK _ _ _ l6 ⟨_,Z,?_⟩))); cases hf; exact Rx 2 [3,4] rfl rfl ⟨rfl,_,⟨_,_,rfl,⟨_,_,4,_,_,rfl,rfl,gH,rfl⟩,rfl⟩,_,(.cons _ (.cons _ (.cons _ (.cons _ (.cons _ (.cons_cons _ (List.nil_sublist _))))))),h⟩
  refine AW.drop1 ?_; exact M 0 Z ⟨(aj.mk aY.kind aY.name aY.value x5 x3),v4,v3,XQ,Z,Z,Z,hf⟩
 rcases dQ hf with ⟨e6,y15,lH,hf⟩ | ⟨_,y14,lH,hf⟩
 · refine Wr 9 [5,5] Z Z (CL Z (AC.one 5 Z (dK _ _ _ lH ⟨_,Z,?_⟩))); cases hf; exact ⟨rfl,_,(.cons _ (.cons _ (.cons _ (.cons _ (.cons _ (.cons_cons _ (List.nil_sublist _))))))),h⟩
 refine Wr 9 [5,5] Z Z (CL Z (AC.one 5 Z (dK _ _ _ lH ⟨_,Z,(Rr 4 [3,0] Z Z (AS Z (AO.bD (List.map l8 ([x2.text]:List Str)) Z qm Z Z Z Z ?_)))⟩))); refine B1 hf fun x7 rO hf=>AS Z (AO.eB (i:=1) (l:=aY.keys) (m:=([x2.text]:List Str)) rO Z Z Z Z Z Z Z qm jZ Z Z Z (fun _=>Z) (fun _=>Z) (by decide) (fun v5 s3 hs3=>?_)); cases hs3; refine Rw 2 [3] Z Z (AW.Sb 0 3 5 5 mixed (by kernel_rfl) (by kernel_rfl) (by kernel_rfl) Z Z Z Z ?_); refine Ev.nil ?_; show Ev _ _ _ _ _ _ _; refine Ev.cs bJ 1 Z (Ev.cons Z Z Z (AO.aR (i:=3) Z Z Z Lh Z Z zg) (Ev.cs bJ 1 Z (Ev.nil ?_))); rcases dQ hf with ⟨e7,y17,h16,hf⟩ | ⟨x8,y16,h16,hf⟩
 · refine TF.step Z Z Z (AO.call Z _ Z Z KF (AC.one 0 Z (bI _ _ h16 ⟨_,Z,?_⟩))); cases hf; exact ⟨rfl,_,(.cons _ (.cons _ (.cons _ (.cons _ (.cons _ (.cons_cons _ (List.nil_sublist _))))))),h⟩
 refine TF.step rfl rfl rfl (AO.call rfl _ rfl rfl KF (AC.one 0 rfl (bI _ _ h16 ⟨_,rfl,(TF.step rfl rfl rfl (AO.bD (aj.aK [x8]) rfl uU rfl rfl rfl (by first | rfl | simp only [List.map,aj.aF,aj.aK]) ?_))⟩))); refine TF.nil ?_; show AR _ _ _ _ _ _ _ _
 refine B1 hf fun x9 xM hf=>AS Z (AO.eB (i:=2) (l:=aY.args) (m:=[x8]) xM Z Z Z Z Z Z Z uU iQ (aj.aA _) (aj.aA _) (aj.aA _).symm (aj.bB) (aj.cells_one) (by decide) (fun v6 s4 hs4=>?_)); cases hs4; obtain ⟨Kn,y18,h18,hf⟩:=bM hf; refine Rr 3 [3] Z Z (CL Z (AC.one 5 Z (dY _ _ _ h18 ⟨_,Z,(J 1 Z (C hf Z (fun h19 hf=>?_) fun h19 hf=>?_))⟩)))
 ·
  rcases dQ hf with ⟨e8,y20,h20,hf⟩ | ⟨_,y19,h20,hf⟩
  · refine W 1 Z (CL Z (AC.one 5 Z (dK _ _ _ h20 ⟨_,Z,?_⟩))); cases hf; exact ⟨rfl,_,(.cons _ (.cons _ (.cons _ (.cons _ (.cons _ (.cons_cons _ (List.nil_sublist _))))))),h⟩
  refine W 1 Z (CL Z (AC.one 5 Z (dK _ _ _ h20 ⟨_,Z,?_⟩))); cases hf; exact Rx 2 [3,4] rfl rfl ⟨rfl,_,⟨_,_,rfl,⟨_,_,4,_,_,rfl,rfl,gH,rfl⟩,rfl⟩,_,(.cons _ (.cons _ (.cons _ (.cons _ (.cons _ (.cons_cons _ (List.nil_sublist _))))))),h⟩
 refine AW.drop1 ?_; exact M 0 Z ⟨(aj.mk aY.kind aY.name aY.value x9 x7),v6,v5,y18,Z,Z,Z,hf⟩
theorem gG :∀ k:Nat,(fJ (bR k))∧(fI (bQ k))∧(h_ (cB k))∧(ig (cK k))∧(iH (dA k))∧(iG (dx k))∧(iI (dB k))∧(gB (bW k)):=by
 intro k
 induction k with
 | zero=>exact ⟨fun _ _ _ _ hz=>by first | cases hz | (unfold bR at hz; cases hz),fun _ _ _ _ _ hz=>by first | cases hz | (unfold bQ at hz; cases hz),fun _ _ _ _ hz=>by first | cases hz | (unfold cB at hz; cases hz),fun _ _ _ _ hz=>by first | cases hz | (unfold cK at hz; cases hz),fun _ _ _ _ hz=>by first | cases hz | (unfold dA at hz; cases hz),fun _ _ _ _ _ hz=>by first | cases hz | (unfold dx at hz; cases hz),fun _ _ _ _ _ hz=>by first | cases hz | (unfold dB at hz; cases hz),fun _ _ _ _ hz=>by first | cases hz | (unfold bW at hz; cases hz)⟩
 | succ k ih=>exact ⟨fun kV gD eG iU hz  Q hq=>Bq (bR k) ih.1 (bQ k) ih.2.1 (cB k) ih.2.2.1 (cK k) ih.2.2.2.1 (dA k) ih.2.2.2.2.1 (dx k) ih.2.2.2.2.2.1 (dB k) ih.2.2.2.2.2.2.1 (bW k) ih.2.2.2.2.2.2.2 kV gD hz hq,fun kV gD L6 eG iU hz  Q hq=>Bp (bR k) ih.1 (bQ k) ih.2.1 (cB k) ih.2.2.1 (cK k) ih.2.2.2.1 (dA k) ih.2.2.2.2.1 (dx k) ih.2.2.2.2.2.1 (dB k) ih.2.2.2.2.2.2.1 (bW k) ih.2.2.2.2.2.2.2 kV gD L6 hz hq,fun kV gD eG iU hz  Q hq=>EM (bR k) ih.1 (bQ k) ih.2.1 (cB k) ih.2.2.1 (cK k) ih.2.2.2.1 (dA k) ih.2.2.2.2.1 (dx k) ih.2.2.2.2.2.1 (dB k) ih.2.2.2.2.2.2.1 (bW k) ih.2.2.2.2.2.2.2 kV gD hz hq,fun kV gD eG iU hz  Q hq=>EN (bR k) ih.1 (bQ k) ih.2.1 (cB k) ih.2.2.1 (cK k) ih.2.2.2.1 (dA k) ih.2.2.2.2.1 (dx k) ih.2.2.2.2.2.1 (dB k) ih.2.2.2.2.2.2.1 (bW k) ih.2.2.2.2.2.2.2 kV gD hz hq,fun kV gD eG iU hz  Q hq=>E_ (bR k) ih.1 (bQ k) ih.2.1 (cB k) ih.2.2.1 (cK k) ih.2.2.2.1 (dA k) ih.2.2.2.2.1 (dx k) ih.2.2.2.2.2.1 (dB k) ih.2.2.2.2.2.2.1 (bW k) ih.2.2.2.2.2.2.2 kV gD hz hq,fun kV gD qx eG iU hz  Q hq=>E9 (bR k) ih.1 (bQ k) ih.2.1 (cB k) ih.2.2.1 (cK k) ih.2.2.2.1 (dA k) ih.2.2.2.2.1 (dx k) ih.2.2.2.2.2.1 (dB k) ih.2.2.2.2.2.2.1 (bW k) ih.2.2.2.2.2.2.2 kV gD qx hz hq,fun kV gD Er eG iU hz  Q hq=>Fa (bR k) ih.1 (bQ k) ih.2.1 (cB k) ih.2.2.1 (cK k) ih.2.2.2.1 (dA k) ih.2.2.2.2.1 (dx k) ih.2.2.2.2.2.1 (dB k) ih.2.2.2.2.2.2.1 (bW k) ih.2.2.2.2.2.2.2 kV gD Er hz hq,fun kV gD eG iU hz  Q hq=>CU (bR k) ih.1 (bQ k) ih.2.1 (cB k) ih.2.2.1 (cK k) ih.2.2.2.1 (dA k) ih.2.2.2.2.1 (dx k) ih.2.2.2.2.2.1 (dB k) ih.2.2.2.2.2.2.1 (bW k) ih.2.2.2.2.2.2.2 kV gD hz hq⟩
theorem uF (kV:Nat) (gD:ak) {eG:eP ay aj} {iU:ak} (hf:vY gD=some (eG,iU)) {Q:cO→List aV→Prop} (h:Q (oh eG) [.box kV (aQ iU)]):PC 286 [pP kV] [.box kV (aQ gD)] Q:=
 ((gG BIG).1) kV gD hf h
theorem OI (kV:Nat) (gD:ak) (L6:Int) {eG:eP ay aj} {iU:ak} (hf:CZ gD L6=some (eG,iU)) {Q:cO→List aV→Prop} (h:Q (n_ eG) [.box kV (aQ iU)]):PC 313 [pP kV,iP L6] [.box kV (aQ gD)] Q:=
 ((gG BIG).2.1) kV gD L6 hf h
theorem Ro (kV:Nat) (gD:ak) {eG:eP ay aj} {iU:ak} (hf:He gD=some (eG,iU)) {Q:cO→List aV→Prop} (h:Q (rA eG) [.box kV (aQ iU)]):PC 329 [pP kV] [.box kV (aQ gD)] Q:=
 ((gG BIG).2.2.1) kV gD hf h
theorem Rp (kV:Nat) (gD:ak) {eG:eP ay aj} {iU:ak} (hf:Hf gD=some (eG,iU)) {Q:cO→List aV→Prop} (h:Q (rC eG) [.box kV (aQ iU)]):PC 340 [pP kV] [.box kV (aQ gD)] Q:=
 ((gG BIG).2.2.2.1) kV gD hf h
theorem Sm (kV:Nat) (gD:ak) {eG:eP ay aj} {iU:ak} (hf:IU gD=some (eG,iU)) {Q:cO→List aV→Prop} (h:Q (r9 eG) [.box kV (aQ iU)]):PC 344 [pP kV] [.box kV (aQ gD)] Q:=
 ((gG BIG).2.2.2.2.1) kV gD hf h
theorem Sl (kV:Nat) (gD:ak) (qx:Str) {eG:eP ay aj} {iU:ak} (hf:IQ gD qx=some (eG,iU)) {Q:cO→List aV→Prop} (h:Q (rZ eG) [.box kV (aQ iU)]):PC 347 [pP kV,.str qx] [.box kV (aQ gD)] Q:=
 ((gG BIG).2.2.2.2.2.1) kV gD qx hf h
theorem Sn (kV:Nat) (gD:ak) (Er:Str) {eG:eP ay (List aj)} {iU:ak} (hf:IV gD Er=some (eG,iU)) {Q:cO→List aV→Prop} (h:Q (r_ eG) [.box kV (aQ iU)]):PC 348 [pP kV,.str Er] [.box kV (aQ gD)] Q:=
 ((gG BIG).2.2.2.2.2.2.1) kV gD Er hf h
theorem P9 (kV:Nat) (gD:ak) {eG:eP ay aj} {iU:ak} (hf:EP gD=some (eG,iU)) {Q:cO→List aV→Prop} (h:Q (pG eG) [.box kV (aQ iU)]):PC 349 [pP kV] [.box kV (aQ gD)] Q:=
 ((gG BIG).2.2.2.2.2.2.2) kV gD hf h
end
section
variable [xJ]
theorem Pm (Bo:List aS) {r0:aj} {r1 r2:Int} (hf:FE Bo=some (r0,r1,r2)) (h:Q (.ret (.tuple [.agg (bE r0),iP r1,iP r2])) τ):PC 257 [.list (List.map aS.cells Bo)] τ Q:=by
 unfold FE at hf; refine AC.none (AC.Lp 17 [.cell 2 45,.cell 3 3,.cell 4 25] [0] [0,1,2] Tryz.func257 Z Z Z Z Z Tryz.func285 Z Z Z Z Z Z Z Zp (AW.sr (AR.step Z Z Z (AO.aC Z iO (fun b2=>?_))))); refine AR.step Z Z Z (AO.aC Z abb (fun b3=>(AR.step Z Z Z (AO.aC Z VA (fun b4=>(AR.nil [0,2,3,4] Z (AW.sr ?_))))))); refine cs 1 Z (AR.step Z Z Z (AO.build Z Y_ Yc Z (AR.step Z Z Z (AO.G5 Z Z (fun b8=>(cs 1 Z ?_)))))); refine AR.nil [2,3,4,5] Z (AW.sr (cs 1 Z (AR.defer (vs:=[.pointer (some ⟨b2,0,none⟩),.pointer (some ⟨b3,0,none⟩),.pointer (some ⟨b4,0,none⟩)]) Z Z Z Z Z Z ?_))); refine AR.nil [2,3,4,5] Z (AW.sr (cs 1 Z ?_)); rcases dQ hf with ⟨f1,s1,h1,hf⟩ | ⟨e1,s1,h1,hf⟩
 ·
  refine AR.step Z Z Z (AO.call Z _ Z Z KF (AC.one 0 Z (uF _ _ h1 ⟨_,Z,?_⟩))); cases hf; refine ⟨[.pointer (some ⟨b2,0,none⟩),.pointer (some ⟨b3,0,none⟩),.pointer (some ⟨b4,0,none⟩)],_,Z,Z,Z,(AR.step Z Z Z (AO.T9 Z Z X9 (cs 3 Z (AR.step Z Z Z (AO.aC Z Vy (fun b5=>?_))))))⟩; refine AR.bC Z Z (AO.bO (i:=0) Z Z Z VT Z Z Z Z Z (cs 1 Z (AR.nil [0,1,2,3,4] Z (AW.sr ?_)))); refine cs 1 Z (AR.nil [0,1,2,3,10] Z (AW.cond Z (fun _=>?_) (fun hh=>by cases hh))); refine AW.R9 1 5 7 [_] [_,_,_,_] mixed (by kernel_rfl) (by kernel_rfl) (by kernel_rfl) Z Z Z (List.Perm.refl _) ?_; refine Ev.cons Z Z Z (AO.build Z iO Ck Z zg) (Ev.nil ?_); show Ev _ _ _ _ _ _ _; refine Ev.cs bJ 1 Z (Ev.cons Z Z Z (AO.aR (i:=0) Z Z Z Br Z Z zg) (Ev.cs bJ 1 Z (Ev.cons Z Z Z (AO.aR (i:=0) Z Z Z BF Z Z zg) ?_))); refine Ev.nil (TF.bC Z Z (AO.bO (i:=3) Z Z Z gH Z Z Z Z Z (TF.bC Z Z (AO.bO (i:=2) Z Z Z Br Z Z Z Z Z (TF.nil ?_))))); show AR _ _ _ _ _ _ _ _; refine AR.bC Z Z (AO.bO (i:=2) Z Z Z BF Z Z Z Z Z (AR.nil [] Z ?_)); exact ⟨rfl,_,⟨_,_,rfl,⟨_,_,4,_,_,rfl,rfl,gH,rfl⟩,⟨_,_,rfl,⟨_,_,3,_,_,rfl,rfl,Br,rfl⟩,⟨_,_,rfl,⟨_,_,2,_,_,rfl,rfl,BF,rfl⟩,rfl⟩⟩⟩,[],List.nil_sublist _,h⟩
 refine AR.step Z Z Z (AO.call Z _ Z Z KF (AC.one 0 Z (uF _ _ h1 ⟨_,Z,?_⟩))); cases hf; refine AR.bC Z Z (AO.bO (i:=3) Z Z Z gH Z Z Z Z Z (AR.nil [2,3,4,5] Z (AW.seq (AW.Sb 1 5 6 3 mixed (by kernel_rfl) (by kernel_rfl) (by kernel_rfl) Z Z Z Z ?_)))); refine Ev.cons Z Z Z (AO.aR (i:=3) Z Z Z gH Z Z zg) (Ev.nil ?_); show Ev _ _ _ _ _ _ _; refine Ev.cs bJ 3 Z (Ev.cons Z Z Z (AO.aR (i:=0) Z Z Z Br Z Z zg) (Ev.nil (TF.bC Z Z (AO.bO (i:=0) Z Z Z gH Z Z Z Z Z ?_)))); refine TF.nil ?_; show AR _ _ _ _ _ _ _ _; refine AR.bC Z Z (AO.bO (i:=2) Z Z Z Br Z Z Z Z Z (AR.bC Z Z (AO.bO (i:=1) Z Z Z BF Z Z Z Z Z (AR.nil [2,3,4] Z (AW.ret ?_))))); refine ⟨[.pointer (some ⟨b2,0,none⟩),.pointer (some ⟨b3,0,none⟩),.pointer (some ⟨b4,0,none⟩)],_,Z,Z,Z,(AR.step Z Z Z (AO.Rz (p:=.agg [iP 0,iP 0]) Z Z Ya (fun _ _=>by simp only [dF]; exact ⟨[.int .i64 0,.int .i64 0],Z,bA.cons (by simp [dF]) (bA.cons (by simp [dF]) bA.nil)⟩) ?_))⟩; refine cs 3 Z (AR.step Z Z Z (AO.aC Z Vy (fun b5=>(AR.bC Z Z (AO.bO (i:=0) Z Z Z VT Z Z Z Z Z (cs 1 Z ?_)))))); refine AR.nil [4] Z (AW.sr (cs 1 Z (AR.nil [10] Z ?_))); refine AW.cond Z (fun hh=>by cases hh) (fun _=>?_); refine AW.skip ?_; exact ⟨rfl,_,⟨_,_,rfl,⟨_,_,4,_,_,rfl,rfl,gH,rfl⟩,⟨_,_,rfl,⟨_,_,3,_,_,rfl,rfl,Br,rfl⟩,⟨_,_,rfl,⟨_,_,2,_,_,rfl,rfl,BF,rfl⟩,rfl⟩⟩⟩,[],List.nil_sublist _,h⟩
end
section
variable [xJ]
theorem Po (Bo:List aS) {r0:aj} {r1:Int} {r2:Int} (hf:FI Bo=some (r0,r1,r2)) (h:Q (.ret (.tuple [.agg (bE r0),iP r1,iP r2])) τ):PC 219 [.list (List.map aS.cells Bo)] τ Q:=by
 unfold FI at hf; refine BN 27 [.cell 2 45,.tmp 3,.tmp 4] [0] Tryz.func219 Z Z Z Z Z (W 0 Z (AS Z (AO.aC Z iO (fun b2=>?_)))); obtain ⟨x1,n1,tK,h1,hf⟩:=jG hf; refine U 3 Z (CL Z (Pm _ h1 (U 4 Z (AS Z (AO.aC Z iO (fun b5=>(Rw 5 [0] Z Z (C hf Z (fun h2 hf=>?_) fun h2 hf=>?_))))))))
 · cases hf; exact Wx 6 [1] Z Z (ZC [1] Z Z h)
 refine B1 hf fun FZ h3 hf=>Wr 1 [0] Z Z (CL Z (qg _ h3 (J 3 Z (C hf Z (fun h4 hf=>?_) fun h4 hf=>?_))))
 · cases hf; exact Wx 5 [1] Z Z (ZC [1] Z Z h)
 cases hf; exact Wx 5 [0,1] Z Z (ZC [1] Z Z h)
end
theorem Ob (Bo:List aS) (n1:Int) (fP:Str) {r0:Int} (hf:DC Bo n1 fP=some r0) (h:Q (.ret (iP r0)) τ):PC 220 [.list (List.map aS.cells Bo),iP n1,.str fP] τ Q:=by
 unfold DC at hf; refine BN 18 [.tmp 6] [0,1,2] Tryz.func220 Z Z Z Z Z (W 3 Z (AS Z (AO.aT (l:=Bo) Z Z Z Z xk Z Z (J 1 Z (C hf Z (fun h1 hf=>?_) fun h1 hf=>?_)))))
 · refine B1 hf fun e1 h2 hf=>W 2 Z (AS Z (AO.aZ h2 Z Z Z Z xk (aS.aF _) Z ?_)); cases hf; exact N 3 Z (Y Z h)
 refine W 1 Z (AS Z (AO.dO Z Z Z Z eH Z ?_)); cases hf; exact N 1 Z (Y Z h)
section
variable [xJ]
theorem Oh (fP:Str) {r0:aj} {r1:Int} {r2:Int} (hf:DN fP=some (r0,r1,r2)) (h:Q (.ret (.tuple [.agg (bE r0),iP r1,iP r2])) τ):PC 185 [.str fP] τ Q:=by
 unfold DN at hf; refine BN 46 [.cell 2 45,.tmp 3,.tmp 4] [0] Tryz.func185 Z Z Z Z Z (W 0 Z (AS Z (AO.aC Z iO (fun b2=>?_)))); obtain ⟨Bo,jB,tK,h1,hf⟩:=jG hf; refine U 3 Z (CL Z (Oq _ h1 (J 9 Z (C hf Z (fun h2 hf=>?_) fun h2 hf=>?_))))
 · cases hf; exact Wx 6 [0] Z Z (ZC [0] Z Z h)
 obtain ⟨x1,n1,FZ,h3,hf⟩:=jG hf; refine W 1 Z (CL Z (Po _ h3 (U 4 Z (AS Z (AO.aC Z iO (fun b8=>(Rw 5 [0] Z Z (C hf Z (fun h4 hf=>?_) fun h4 hf=>?_))))))))
 · refine B1 hf fun x2 h5 hf=>W 4 Z (CL Z (Ob _ _ _ h5 ?_)); cases hf; exact Rx 4 [1] Z Z (ZC [1] Z Z h)
 refine W 2 Z (AS Z (AO.aT (l:=Bo) Z Z Z Z xk Z Z (J 1 Z (C hf Z (fun h6 hf=>?_) fun h6 hf=>?_))))
 ·
  refine V 0 Z (AW.Sb 1 6 7 1 mixed (by kernel_rfl) (by kernel_rfl) (by kernel_rfl) Z Z Z Z ?_); refine Ev.cons Z Z Z (AO.build Z iO Ck Z zg) (Ev.nil ?_); show Ev _ _ _ _ _ _ _; refine Ev.cs bJ 2 Z ?_; refine B1 hf fun e1 h7 hf=>Ev.cons Z Z Z (AO.aZ h7 Z Z Z Z xk (aS.aF _) Z zg) (Ev.cs bJ 2 Z (Ev.nil (TF.bC Z Z (AO.bO (i:=0) Z Z Z gH Z Z Z Z Z ?_)))); refine TF.nil ?_; show AR _ _ _ _ _ _ _ _; cases hf; exact N 2 Z (ZC [1] Z Z h)
 cases hf; exact Wx 4 [0,1] Z Z (ZC [1] Z Z h)
end
section
variable [xJ]
theorem xF {b:Nat} {vp v p:Value} {kU r0:List aU} {text1:Str} (hf:oM kU text1=some r0) (hroom:roomy v=true) {R:cO→List aV→Prop} (h:∀ vp',R (.ret (.tuple [])) [.j3 b 209 [.val vp',.val (.pointer none),.own (.slice none 0 0) (List.map iJ [])],.buf vp' r0.length 12 189 (r0.flatMap aU.cells)]):PC 186 [pP b] [.row v (List.length text1) 1 5,.j3 b 209 [.val vp,.val p,.own v (List.map iJ text1)],.buf vp kU.length 12 189 (kU.flatMap aU.cells)] R:=by
 unfold oM at hf; refine AC.jA 25 [] [0] Tryz.func186 Z Z Z Z Z (AW.seq (AW.sr (AR.step Z Z Z (AO.calc' Z ?_)))); refine AR.step Z Z Z (AO.nilCheck Z Z (AR.step Z Z Z (AO.dh Z Z Db (AR.step Z Z Z (AO.call Z _ Z Z ZK (AC.frame (σ:=[_,_]) (τ:=[_]) (Xj (AR.step Z Z Z (AO.calc' Z ?_))))))))); refine AR.nil [0,6] Z (AW.cond Z (fun h1=>?_) (fun h1=>?_))
 ·
  replace hf:=jC h1 hf; refine AW.Uu 4 12 [] [.row v (List.length text1) 1 5,.j3 b 209 [.val vp,.val p,.own v (List.map iJ text1)],.buf vp kU.length 12 189 (kU.flatMap aU.cells)] (fun S e s=>∃ v2:Value,e.get 0=pP b∧e.get 7=pP b∧e.get 10=pP b∧(S 4=true→e.get 11=.val vp)∧(S 5=true→e.get 12=pP b)∧(S 6=true→e.get 13=pP b)∧(S 7=true→e.get 14=.val (.pointer (some ⟨b,1,none⟩)))∧(S 8=true→e.get 15=.str text1)∧(S 9=true→e.get 16=.agg [.str text1,.bool false,iP 0,.str ([]:Str),iP 0,.bool false,iP 0,.str ([]:Str),.own (.slice none 0 0) [],.own (.slice none 0 0) [],.own (.slice none 0 0) [],.own (.slice none 0 0) []])∧(S 10=true→e.get 17=.list ((List.map aU.cells [(aU.mk text1 false (aj.mk 0 ([]:Str) (ah.mk 0 false 0 ([]:Str) [] []) [] []))])))∧(S 11=true→e.get 18=.val v2)∧s=(bif S 8 then [] else [.row v (List.length text1) 1 5]) ++ [.j3 b 209 [.val vp,.val p,.own v (List.map iJ text1)],bif S 11 then .buf v2 r0.length 12 189 (r0.flatMap aU.cells) else .buf vp kU.length 12 189 (kU.flatMap aU.cells)]) mixed (by kernel_rfl) Z Z (List.Perm.refl _) ?_ ?_ ?_ ?_
  ·
   refine Ev.cs bJ 4 Z (Ev.nil ?_); exact ⟨.nilIface,Z,Z,Z,(fun h=>by cases h),(fun h=>by cases h),(fun h=>by cases h),(fun h=>by cases h),(fun h=>by cases h),(fun h=>by cases h),(fun h=>by cases h),(fun h=>by cases h),Z⟩
  ·
   rintro S S' e s hS ⟨v2,p0,p7,UW,q4,q5,q6,q7,q8,q9,Vt,Vs,qs⟩; have z:=fun i h1 h2=>(hS i h1 h2).symm; refine ⟨v2,p0,p7,UW,?_,?_,?_,?_,?_,?_,?_,?_,?_⟩
   ·
    rw [z 4 (by decide) (by decide)]; exact q4
   ·
    rw [z 5 (by decide) (by decide)]; exact q5
   ·
    rw [z 6 (by decide) (by decide)]; exact q6
   ·
    rw [z 7 (by decide) (by decide)]; exact q7
   ·
    rw [z 8 (by decide) (by decide)]; exact q8
   ·
    rw [z 9 (by decide) (by decide)]; exact q9
   ·
    rw [z 10 (by decide) (by decide)]; exact Vt
   ·
    rw [z 11 (by decide) (by decide)]; exact Vs
   ·
    rw [z 8 (by decide) (by decide),z 11 (by decide) (by decide)]; exact qs
  ·
   rintro S e s i o ⟨v2,p0,p7,UW,q4,q5,q6,q7,q8,q9,Vt,Vs,rfl⟩ hi1 hi2 Tz hp' ho; have hi:i=4∨i=5∨i=6∨i=7∨i=8∨i=9∨i=10∨i=11:=by omega
   rcases hi with rfl | rfl | rfl | rfl | rfl | rfl | rfl | rfl
   ·
    cases ho; refine ⟨Z,(fun t ht=>by cases ht; decide),AO.less (Less.add UW Less.nil) ?_⟩; cases h8:S 8 with
    | false=>
     refine AO.jU (i:=1) Z Z Z Ky Z Z ?_; exact ⟨v2,p0,p7,UW,(fun _=>Z),q5,q6,q7,(fun h=>by rw [show S 8=true from h] at h8; cases h8),q9,Vt,Vs,by simp [h8]⟩
    | true=>
     refine AO.jU (i:=0) Z Z Z Ky Z Z ?_; exact ⟨v2,p0,p7,UW,(fun _=>Z),q5,q6,q7,q8,q9,Vt,Vs,by simp [h8]⟩
   ·
    cases ho; refine ⟨Z,(fun t ht=>by cases ht; decide),AO.less (Less.add p0 Less.nil) (AO.calc' Z ?_)⟩; exact ⟨v2,p0,p7,UW,q4,(fun _=>Z),q6,q7,q8,q9,Vt,Vs,Z⟩
   ·
    cases ho; have s5:=hp' 5 (any_beq.1 Z) (by decide); refine ⟨Z,(fun t ht=>by cases ht; decide),AO.less (Less.add (q5 s5) Less.nil) (AO.nilCheck Z Z ?_)⟩; exact ⟨v2,p0,p7,UW,q4,q5,(fun _=>Z),q7,q8,q9,Vt,Vs,Z⟩
   ·
    cases ho; have s6:=hp' 6 (any_beq.1 Z) (by decide); refine ⟨Z,(fun t ht=>by cases ht; decide),AO.less (Less.add (q6 s6) Less.nil) (AO.dh Z Z Db ?_)⟩; exact ⟨v2,p0,p7,UW,q4,q5,q6,(fun _=>Z),q8,q9,Vt,Vs,Z⟩
   ·
    cases ho; have s7:=hp' 7 (any_beq.1 Z) (by decide); rw [Tz]; refine ⟨Z,(fun t ht=>by cases ht; decide),AO.less (Less.add (q7 s7) Less.nil) ?_⟩; refine AO.call Z _ Z Z ZU (AC.frame (σ:=[_,_]) (τ:=[_]) (Sr hroom ?_)); exact ⟨v2,p0,p7,UW,q4,q5,q6,q7,(fun _=>Z),q9,Vt,Vs,Z⟩
   ·
    cases ho; have s8:=hp' 8 (any_beq.1 Z) (by decide); refine ⟨Z,(fun t ht=>by cases ht; decide),AO.less (Less.add (q8 s8) Less.nil) (AO.build Z MK Ua Z ?_)⟩; exact ⟨v2,p0,p7,UW,q4,q5,q6,q7,q8,(fun _=>Z),Vt,Vs,Z⟩
   ·
    cases ho; have s9:=hp' 9 (any_beq.1 Z) (by decide); refine ⟨Z,(fun t ht=>by cases ht; decide),AO.less (Less.add (q9 s9) Less.nil) (AO.bD ((List.map aU.cells [(aU.mk text1 false (aj.mk 0 ([]:Str) (ah.mk 0 false 0 ([]:Str) [] []) [] []))])) rfl Qs rfl rfl rfl (by first | rfl | simp only [List.map,aU.aF]) ?_)⟩
    exact ⟨v2,p0,p7,UW,q4,q5,q6,q7,q8,q9,(fun _=>Z),Vs,Z⟩
   ·
    cases ho; have s4:=hp' 4 (any_beq.1 Z) (by decide); have s8:=hp' 8 (any_beq.1 Z) (by decide); have s10:=hp' 10 (any_beq.1 Z) (by decide); rw [Tz,s8]; refine ⟨Z,(fun t ht=>by cases ht; decide),AO.less (Less.add (q4 s4) (Less.add (Vt s10) Less.nil)) ?_⟩; refine AO.SA (i:=1) hf Z Z Z Z Z Z Z Qs AZ aU.bB aU.cells_one (by decide) (fun v3 s2 hs2=>?_); cases hs2; exact ⟨v3,p0,p7,UW,q4,q5,q6,q7,q8,q9,Vt,(fun _=>Z),by simp [s8]⟩
  rintro S e s hS ⟨v2,p0,p7,UW,q4,q5,q6,q7,q8,q9,Vt,Vs,rfl⟩; rw [hS 8 (by decide) (by decide),hS 11 (by decide) (by decide)]; refine AR.less (Less.add p0 (Less.add p7 (Less.add (Vs (hS 11 (by decide) (by decide))) Less.nil))) ?_; refine AR.step Z Z Z (AO.nilCheck Z Z (AR.step Z Z Z (AO.dh Z Z JY (AR.GZ 1 Z (fun hv1 hv2=>?_))))); refine AR.bC Z Z (AO.qC (i:=0) Z Z Z Ky hv1 hv2 Z Z Z ?_); refine AR.nil [0] Z (AW.region (AR.step Z Z Z (AO.calc' Z (AR.step Z Z Z (AO.nilCheck Z Z ?_))))); refine AR.step Z Z Z (AO.dh Z Z Db (AR.step Z Z Z (AO.call Z _ Z Z Wn (AC.frame (σ:=[_]) (τ:=[_]) (OC (AR.nil [] Z ?_)))))); exact ⟨Z,[],Z,_,List.Sublist.refl _,h v2⟩
 ·
  obtain rfl:=Option.some.inj (jf h1 hf); refine AW.skip (AW.drop1 (AW.region (AR.step Z Z Z (AO.calc' Z ?_)))); refine AR.step Z Z Z (AO.nilCheck Z Z (AR.step Z Z Z (AO.dh Z Z Db (AR.step Z Z Z (AO.call Z _ Z Z Wn (AC.frame (σ:=[_]) (τ:=[_]) (OC (AR.nil [] Z ?_)))))))); exact ⟨Z,[],Z,_,List.Sublist.refl _,h vp⟩
theorem BQ (s1:Str) {r0:List aU} {r1:Int} {r2:Int} (hf:ug s1=some (r0,r1,r2)) {Q:cO→List aV→Prop} (h:∀ v,Q (.ret (.tuple [.val v,iP r1,iP r2])) [.buf v r0.length 12 189 (r0.flatMap aU.cells)]):PC 152 [.str s1] [] Q:=by
 unfold ug at hf; refine AC.jA 76 [.tmp 2,.tmp 3,.tmp 4] [0] Tryz.func152 Z Z Z Z Z (AW.sr (AR.step Z Z Z (AO.d9 Z Z (cs 2 Z ?_)))); refine AR.nil [0] Z (AW.seq (AW.sr (cs 1 Z ?_))); refine AR.step Z Z Z (AO.dO Z Z Z Z eH Z (cs 1 Z (AR.nil [0,14] Z (AW.cond Z (fun h1=>?_) (fun h1=>?_)))))
 · replace hf:=jC h1 hf; refine AW.sr (AR.step Z Z Z (AO.wO Z Z (cs 2 Z (AR.nil [2,3,4] Z ?_)))); refine AW.PD 12 189 (AW.ret ?_); cases hf; exact ⟨rfl,_,⟨_,_,rfl,rfl,_,_,rfl,rfl,_,_,rfl,rfl,rfl⟩,_,(List.nil_sublist _).cons_cons _,h _⟩
 replace hf:=jf h1 hf; refine AW.skip (AW.PD 12 189 (AW.sr ?_)); refine AR.step Z Z Z (AO.TI Z Za (fun b=>?_)); refine AR.nil [0,5] Z (AW.Qz 0 0 Z Z (AW.row 1 5 (AW.seq ?_))); refine AW.sr (cs 1 Z (AR.nil [0,5,6] Z (AW.block ?_))); refine AW.settle [0,5,6] Z ?_; refine AW.aas (fun jB kU vp text1 vt p=>[(0,.str s1),(5,pP b),(6,iP jB)]) (fun jB kU vp text1 vt p=>[.row vt (List.length text1) 1 5,.j3 b 209 [.val vp,.val p,.own vt (List.map iJ text1)],.buf vp kU.length 12 189 (kU.flatMap aU.cells)]) (fun b_ jB kU vp text1 vt p=>oz s1 b_ jB kU text1=some (r0,r1,r2)∧(p=Value.pointer none∨p=.pointer (some ⟨b,1,none⟩))∧roomy vt=true) BIG 0 [] (.slice none 0 0) [] (.slice none 0 0) (.pointer none) Z Z ⟨hf,.inl Z,Z⟩ (fun _ _ _ _ _ _ hz=>bU hz.1) ?_; intro b_ jB kU vp text1 vt p hfI; obtain ⟨hf,hp,hroom⟩:=hfI; rw [oz] at hf; refine AW.seq (AW.sr (cs 2 Z (AR.step Z Z Z (AO.dO Z Z Z Z eH Z ?_)))); refine cs 1 Z (AR.nil [0,5,6,18] Z (AW.cond Z (fun h2=>?_) (fun h2=>?_)))
 ·
  replace hf:=jC h2 hf; refine AW.skip (AW.block (AW.sr (cs 2 Z ?_))); refine B1 hf fun iZ h3 hf=>AR.step Z Z Z (AO.pQ h3 Z eH Z ⟨_,Z⟩ Z (cs 1 Z (AR.nil [0,5,6,7] Z (AW.block ?_)))); refine AW.sr (cs 1 Z ?_); refine B1 hf fun b1 h4 hf=>AR.step Z Z Z (AO.call Z _ Z Z Ws (uO _ _ h4 (cs 1 Z (AR.nil [0,5,6,7,29] Z (AW.cond Z (fun h5=>?_) (fun h5=>?_))))))
  · replace hf:=jC h5 hf; refine B1 hf fun VY h6 hf=>AW.sr (AR.step Z Z Z (AO.dh Z Z Db (AR.step Z Z Z (AO.call Z _ Z Z Wz (AC.frame (σ:=[_,_]) (τ:=[_]) (Gq hp hroom h6 (fun v2 hr2=>(AR.nil [0,5,6] Z ?_)))))))); refine AW.region (cs 3 Z (AR.nil [0,5,6] Z ?_)); exact ⟨(dG (jB + 2)),kU,vp,VY,v2,_,Z,Z,Z,hf,.inr Z,hr2⟩
  replace hf:=jf h5 hf; refine B1 hf fun b2 h6 hf=>AW.sr (cs 1 Z (AR.step Z Z Z (AO.call Z _ Z Z Ws (uO _ _ h6 (cs 1 Z ?_))))); refine AR.nil [0,5,6,36] Z (AW.cond Z (fun h7=>?_) (fun h7=>?_))
  ·
   replace hf:=jC h7 hf; refine AW.sr (cs 3 Z ?_); refine B1 hf fun uN h8 hf=>AR.step Z Z Z (AO.call Z _ Z Z ZF (K5 _ _ h8 (cs 1 Z (AR.nil [0,5,6,8] Z (AW.seq ?_))))); refine AW.sr (cs 2 Z (AR.nil [0,5,6,8,44] Z (AW.cond Z (fun h9=>?_) (fun h9=>?_))))
   · replace hf:=jC h9 hf; refine AW.sr (cs 1 Z (AR.step Z Z Z (AO.wO Z Z (cs 2 Z ?_)))); refine AR.nil [2,3,4] Z (AW.PD 12 189 (AW.ret ?_)); cases hf; exact ⟨rfl,_,⟨_,_,rfl,rfl,_,_,rfl,rfl,_,_,rfl,rfl,rfl⟩,_,(List.nil_sublist _).cons_cons _,h _⟩
   replace hf:=jf h9 hf; refine AW.skip (AW.sr (cs 4 Z ?_)); refine B1 hf fun x1 h10 hf=>AR.step Z Z Z (AO.pQ h10 Z eH Z ⟨_,Z⟩ ⟨_,Z⟩ ?_); obtain ⟨e1,n1,tK,h11,hf⟩:=jG hf; refine AR.step Z Z Z (AO.call Z _ Z Z ZE (Oh _ h11 (cs 4 Z (AR.step Z Z Z (AO.aC Z iO (fun b9=>(AR.bC Z Z (AO.bO (i:=0) Z Z Z gH Z Z Z Z Z ?_)))))))); refine cs 2 Z (AR.nil [0,5,6,8,9,10,11] Z (AW.seq (AW.sr ?_))); refine cs 2 Z (AR.nil [0,5,6,8,9,10,11,57] Z (AW.cond Z (fun h12=>?_) (fun h12=>?_)))
   · replace hf:=jC h12 hf; refine AW.sr (cs 5 Z (AR.step Z Z Z (AO.wO Z Z (cs 2 Z ?_)))); refine AR.nil [2,3,4] Z (AW.PD 12 189 (AW.ret ?_)); cases hf; exact ⟨rfl,_,⟨_,_,rfl,rfl,_,_,rfl,rfl,_,_,rfl,rfl,rfl⟩,_,(List.nil_sublist _).cons_cons _,h _⟩
   replace hf:=jf h12 hf; refine B1 hf fun Ui l6 hf=>B1 hf fun Qx lH hf=>AW.skip (AW.sr (AR.step Z Z Z (AO.call Z _ Z Z Wq (AC.perm (UU _ _ _ _) (AC.frame (σ:=[_,_,_]) (τ:=[_]) (xF l6 hroom (fun vp2=>(AR.nil [0,5,8,9] Z ?_)))))))); refine AW.row 1 5 (AW.sr (AR.step Z Z Z (AO.dh Z Z JY ?_))); refine AR.step Z Z Z (AO.jU (i:=1) Z Z Z Ky Z Z ?_); refine AR.step rfl rfl rfl (AO.aR (i:=3) rfl rfl rfl gH rfl rfl (AR.step rfl rfl rfl (AO.build rfl MK Ua rfl (AR.step rfl rfl rfl (AO.bD ((List.map aU.cells [(aU.mk ([]:Str) true e1)])) rfl Qs rfl rfl rfl (by first | rfl | simp only [List.map,aU.aF]) ?_))))); refine AR.step Z Z Z (AO.SA (i:=2) lH Z Z Z Z Z Z Z Qs AZ aU.bB aU.cells_one (by decide) (fun vp3 s2 hs2=>?_)); cases hs2; refine AR.step Z Z Z (AO.dh Z Z JY (AR.GZ 2 Z (fun hv1 hv2=>?_)))
   refine AR.bC Z Z (AO.qC (i:=1) Z Z Z Ky hv1 hv2 Z Z Z ?_); refine AR.nil [0,5,8] Z (AW.D9 3 Z (AW.region (cs 3 Z ?_))); refine AR.nil [0,5,6] Z ?_; exact ⟨(dG (uN + 1)),Qx,vp3,[],.slice none 0 0,_,Z,Z,Z,hf,.inl Z,Z⟩
  replace hf:=jf h7 hf; refine B1 hf fun c1 h8 hf=>B1 hf fun VX h9 hf=>AW.sr (AR.step Z Z Z (AO.dh Z Z Db (cs 2 Z (AR.step Z Z Z (AO.gZ h8 Z eH Z Z ?_))))); refine AR.step Z Z Z (AO.call Z _ Z Z Wz (AC.frame (σ:=[_,_]) (τ:=[_]) (Gq hp hroom h9 (fun v2 hr2=>(AR.nil [0,5,6] Z (AW.region (cs 3 Z ?_))))))); refine AR.nil [0,5,6] Z ?_; exact ⟨(dG (jB + 1)),kU,vp,VX,v2,_,Z,Z,Z,hf,.inr Z,hr2⟩
 replace hf:=jf h2 hf; refine B1 hf fun Uh h3 hf=>AW.exit (AW.sr (AR.step Z Z Z (AO.call Z _ Z Z Wq (xF h3 hroom (fun vp2=>(AR.nil [5] Z ?_)))))); refine AW.sr (AR.step Z Z Z (AO.dh Z Z JY ?_)); refine AR.step Z Z Z (AO.jU (i:=0) Z Z Z Ky Z Z ?_); refine cs 3 Z (AR.nil [2,3,4] Z (AW.ret ?_)); cases hf; exact ⟨rfl,_,⟨_,_,rfl,rfl,_,_,rfl,rfl,_,_,rfl,rfl,rfl⟩,_,List.sublist_cons_self _ _,h _⟩
theorem Gl (s1:Str) {r0:List aU} {r1:Int} {r2:Int} (hf:ug s1=some (r0,r1,r2)) (h:Q (.ret (.tuple [.list (List.map aU.cells r0),iP r1,iP r2])) τ):PC 152 [.str s1] τ Q:=by
 exact AC.none (AC.frozen (List.flatMap_def ..).symm (fun x hx=>by obtain ⟨s,_,rfl⟩:=List.mem_map.1 hx; exact aU.bB s) (by rw [List.length_map]) (BQ s1 hf fun v=>⟨v,Z,Z⟩) h)
end
theorem tN (s1:List aj) (f1:aj→Option Bool) (wY:FuncId) (AQ:List PV) (NK:aX Tryz.prog wY=true) (NM:∀ a0 b0,f1 a0=some b0→∀ {τ:List aV} {Q:cO→List aV→Prop},Q (.ret (.bool b0)) τ→PC wY ([.agg (bE a0)] ++ AQ) τ Q) {r0:Int} (hf:j4 s1 f1=some r0) (h:Q (.ret (iP r0)) τ):PC 258 [.list (aj.aK s1),.fn wY AQ] τ Q:=by
 unfold j4 at hf; refine BN 19 [.tmp 4] [0,1] Tryz.func258 Z Z Z Z Z (W 2 Z (AS Z (AO.aT (l:=s1) Z Z Z Z iQ Z (aj.aA _) (J 1 Z (Kl (fun i1=>[(0,.list (aj.aK s1)),(1,.fn wY AQ),(7,iP (s1.length:Int)),(8,iP i1)]) (fun i1=>[]) (fun b_ i1=>iA s1 f1 b_ i1=some r0) BIG 0 Z Z hf (fun _ hz=>bU hz) ?_))))); intro b_ i1 hf; rw [iA] at hf; refine V 1 Z (C hf Z (fun h1 hf=>?_) fun h1 hf=>?_)
 ·
  refine B1 hf fun e1 h2 hf=>W 5 Z (AS Z (AO.aZ h2 Z Z (aj.aA _) Z iQ (aj.aF _) Z ?_)); refine B1 hf fun x1 h3 hf=>U 1 Z (AS Z (AO.call Z _ Z Z NK (NM _ _ h3 (J 0 Z (C hf Z (fun h4 hf=>?_) fun h4 hf=>?_)))))
  · cases hf; exact M 2 Z (Y Z h)
  exact M 2 Z ⟨(dG (i1 + 1)),Z,Z,Z,hf⟩
 cases hf; exact M 1 Z (Y Z h)
theorem qW (s1:List aj) (f1:aj→Option Bool) (wY:FuncId) (AQ:List PV) (NK:aX Tryz.prog wY=true) (NM:∀ a0 b0,f1 a0=some b0→∀ {τ:List aV} {Q:cO→List aV→Prop},Q (.ret (.bool b0)) τ→PC wY ([.agg (bE a0)] ++ AQ) τ Q) {r0:Bool} (hf:jF s1 f1=some r0) (h:Q (.ret (.bool r0)) τ):PC 223 [.list (aj.aK s1),.fn wY AQ] τ Q:=by
 unfold jF at hf; refine BN 9 [.tmp 4] [0,1] Tryz.func223 Z Z Z Z Z ?_; refine B1 hf fun x1 h1 hf=>W 3 Z (CL Z (tN _ f1 wY AQ NK @NM h1 ?_)); cases hf; exact N 2 Z (Y Z h)
theorem rF (s1:List aU) (f1:aU→Option Bool) (wY:FuncId) (AQ:List PV) (NK:aX Tryz.prog wY=true) (NM:∀ a0 b0,f1 a0=some b0→∀ {τ:List aV} {Q:cO→List aV→Prop},Q (.ret (.bool b0)) τ→PC wY ([.agg (Af a0)] ++ AQ) τ Q) {r0:Int} (hf:jJ s1 f1=some r0) (h:Q (.ret (iP r0)) τ):PC 222 [.list (List.map aU.cells s1),.fn wY AQ] τ Q:=by
 unfold jJ at hf; refine BN 19 [.tmp 4] [0,1] Tryz.func222 Z Z Z Z Z (W 2 Z (AS Z (AO.aT (l:=s1) Z Z Z Z AZ Z Z (J 1 Z (Kl (fun i1=>[(0,.list (List.map aU.cells s1)),(1,.fn wY AQ),(7,iP (s1.length:Int)),(8,iP i1)]) (fun i1=>[]) (fun b_ i1=>gT s1 f1 b_ i1=some r0) BIG 0 Z Z hf (fun _ hz=>bU hz) ?_))))); intro b_ i1 hf; rw [gT] at hf; refine V 1 Z (C hf Z (fun h1 hf=>?_) fun h1 hf=>?_)
 ·
  refine B1 hf fun e1 h2 hf=>W 5 Z (AS Z (AO.aZ h2 Z Z Z Z AZ (aU.aF _) Z ?_)); refine B1 hf fun x1 h3 hf=>U 1 Z (AS Z (AO.call Z _ Z Z NK (NM _ _ h3 (J 0 Z (C hf Z (fun h4 hf=>?_) fun h4 hf=>?_)))))
  · cases hf; exact M 2 Z (Y Z h)
  exact M 2 Z ⟨(dG (i1 + 1)),Z,Z,Z,hf⟩
 cases hf; exact M 1 Z (Y Z h)
theorem qj (s1:List aU) (f1:aU→Option Bool) (wY:FuncId) (AQ:List PV) (NK:aX Tryz.prog wY=true) (NM:∀ a0 b0,f1 a0=some b0→∀ {τ:List aV} {Q:cO→List aV→Prop},Q (.ret (.bool b0)) τ→PC wY ([.agg (Af a0)] ++ AQ) τ Q) {r0:Bool} (hf:jv s1 f1=some r0) (h:Q (.ret (.bool r0)) τ):PC 187 [.list (List.map aU.cells s1),.fn wY AQ] τ Q:=by
 unfold jv at hf; refine BN 9 [.tmp 4] [0,1] Tryz.func187 Z Z Z Z Z ?_; refine B1 hf fun x1 h1 hf=>W 3 Z (CL Z (rF _ f1 wY AQ NK @NM h1 ?_)); cases hf; exact N 2 Z (Y Z h)
section
variable [xJ]
abbrev qX (eT:List aU→List aB→Option Bool):Prop:=∀ (LZ:List aU) (jo:List aB) {bf:Bool},eT LZ jo=some bf→∀ {τ:List aV} {Q:cO→List aV→Prop} (h:Q (.ret (.bool bf)) τ),PC 153 [.list (List.map aU.cells LZ),.list (List.map aB.cells jo)] τ Q
abbrev o8 (dM:aU→List aB→Option Bool):Prop:=∀ (kV:aU) (L8:List aB) {bf:Bool},dM kV L8=some bf→∀ {τ:List aV} {Q:cO→List aV→Prop} (h:Q (.ret (.bool bf)) τ),PC 188 [.agg (Af kV),.ref [.list (List.map aB.cells L8)]] τ Q
abbrev qh (dX:aj→List aB→Option Bool):Prop:=∀ (jN:aj) (jo:List aB) {bf:Bool},dX jN jo=some bf→∀ {τ:List aV} {Q:cO→List aV→Prop} (h:Q (.ret (.bool bf)) τ),PC 189 [.agg (bE jN),.list (List.map aB.cells jo)] τ Q
abbrev nQ (dJ:aj→List aB→Option Bool):Prop:=∀ (zq:aj) (L8:List aB) {bf:Bool},dJ zq L8=some bf→∀ {τ:List aV} {Q:cO→List aV→Prop} (h:Q (.ret (.bool bf)) τ),PC 224 [.agg (bE zq),.ref [.list (List.map aB.cells L8)]] τ Q
theorem LV (eT) (rP:qX eT) (dM) (pF:o8 dM) (dX) (nM:qh dX) (dJ) (oN:nQ dJ) (ps1:List aU) (dH:List aB) {r0:Bool} (hf:zw eT dM dX dJ ps1 dH=some r0) (h:Q (.ret (.bool r0)) τ):PC 153 [.list (List.map aU.cells ps1),.list (List.map aB.cells dH)] τ Q:=by
 unfold zw at hf; refine BN 8 [.tmp 4] [0,1] Tryz.func153 Z Z Z Z Z ?_; refine BR hf fun x1 h1 hf=>?_; refine W 4 Z (CL Z (qj _ (fun z0=>dM z0 dH) 188 [.ref [.list (List.map aB.cells dH)]] ZB (fun _ _ hz=>pF _ _ hz) h1 ?_)); cases hf; exact N 1 Z (Y Z h)
theorem Js (eT) (rP:qX eT) (dM) (pF:o8 dM) (dX) (nM:qh dX) (dJ) (oN:nQ dJ) (p1:aU) (c1:List aB) {r0:Bool} (hf:wG eT dM dX dJ p1 c1=some r0) (h:Q (.ret (.bool r0)) τ):PC 188 [.agg (Af p1),.ref [.list (List.map aB.cells c1)]] τ Q:=by
 unfold wG at hf; refine BN 12 [.tmp 3] [0,1] Tryz.func188 Z Z Z Z Z ?_; refine BR hf fun b1 h2 hf=>?_; refine W 5 Z (AR.gI 5 6 11 true [] b1 Z Z (fun h1=>?_) (fun h1=>?_) ?_)
 · refine IT 6 h1 h2 Z fun h2=>?_; refine BR h2 fun x1 h3 h2=>?_; refine U 3 Z (GO Z (AO.call Z _ Z Z ZA (nM _ _ h3 ?_))); cases h2; exact fZ 1 Z (En [11] Z)
 · refine IF 6 h1 h2 Z fun h2=>?_; cases h2; exact fZ 5 Z (En [11] Z)
 cases hf; exact N 1 Z (Y Z h)
theorem Kr (eT) (rP:qX eT) (dM) (pF:o8 dM) (dX) (nM:qh dX) (dJ) (oN:nQ dJ) (e1:aj) (dH:List aB) {r0:Bool} (hf:xR eT dM dX dJ e1 dH=some r0) (h:Q (.ret (.bool r0)) τ):PC 189 [.agg (bE e1),.list (List.map aB.cells dH)] τ Q:=by
 unfold xR at hf; refine BN 51 [.tmp 4] [0,1] Tryz.func189 Z Z Z Z Z (V 7 Z (C hf Z (fun h1 hf=>?_) fun h1 hf=>?_))
 · obtain ⟨x1,is1,h2,hf⟩:=bM hf; refine W 3 Z (CL Z (vJ _ _ h2 (U 3 Z (AS Z (AO.aC Z gK (fun b5=>?_)))))); cases hf; exact Rx 4 [0] Z Z (Y Z h)
 refine W 4 Z (An 5 26 31 [2,3] (e1.value.kind == 3) Z Z Z Z (J 1 Z (C hf Z (fun h4 hf=>?_) fun h4 hf=>?_)))
 ·
  obtain ⟨ps1,x2,Bt,h5,hf⟩:=jG hf; refine W 3 Z (CL Z (Gl _ h5 ?_)); refine BR hf fun b1 h7 hf=>?_; refine U 10 Z (AR.gI 4 42 46 true [] b1 Z Z (fun h6=>?_) (fun h6=>?_) ?_)
  · refine IT 42 h6 h7 Z fun h7=>?_; refine BR h7 fun x3 h8 h7=>?_; refine U 2 Z (GO Z (AO.call Z _ Z Z Wv (rP _ _ h8 ?_))); cases h7; exact fZ 1 Z (En [46] Z)
  · refine IF 42 h6 h7 Z fun h7=>?_; cases h7; exact fZ 4 Z (En [46] Z)
  cases hf; exact N 1 Z (Y Z h)
 refine BR hf fun x4 h9 hf=>?_; refine W 3 Z (CL Z (qW _ (fun z0=>dJ z0 dH) 224 [.ref [.list (List.map aB.cells dH)]] Zz (fun _ _ hz=>oN _ _ hz) h9 ?_)); cases hf; exact N 1 Z (Y Z h)
theorem IC (eT) (rP:qX eT) (dM) (pF:o8 dM) (dX) (nM:qh dX) (dJ) (oN:nQ dJ) (a1:aj) (c1:List aB) {r0:Bool} (hf:vN eT dM dX dJ a1 c1=some r0) (h:Q (.ret (.bool r0)) τ):PC 224 [.agg (bE a1),.ref [.list (List.map aB.cells c1)]] τ Q:=by
 unfold vN at hf; refine BN 7 [.tmp 3] [0,1] Tryz.func224 Z Z Z Z Z ?_; refine BR hf fun x1 h1 hf=>?_; refine W 4 Z (CL Z (nM _ _ h1 ?_)); cases hf; exact N 1 Z (Y Z h)
theorem vG :∀ k:Nat,(qX (jq k))∧(o8 (iC k))∧(qh (iV k))∧(nQ (gX k)):=by
 intro k
 induction k with
 | zero=>exact ⟨fun _ _ _ hz=>by first | cases hz | (unfold jq at hz; cases hz),fun _ _ _ hz=>by first | cases hz | (unfold iC at hz; cases hz),fun _ _ _ hz=>by first | cases hz | (unfold iV at hz; cases hz),fun _ _ _ hz=>by first | cases hz | (unfold gX at hz; cases hz)⟩
 | succ k ih=>exact ⟨fun LZ jo bf hz τ Q hq=>LV (jq k) ih.1 (iC k) ih.2.1 (iV k) ih.2.2.1 (gX k) ih.2.2.2 LZ jo hz hq,fun kV L8 bf hz τ Q hq=>Js (jq k) ih.1 (iC k) ih.2.1 (iV k) ih.2.2.1 (gX k) ih.2.2.2 kV L8 hz hq,fun jN jo bf hz τ Q hq=>Kr (jq k) ih.1 (iC k) ih.2.1 (iV k) ih.2.2.1 (gX k) ih.2.2.2 jN jo hz hq,fun zq L8 bf hz τ Q hq=>IC (jq k) ih.1 (iC k) ih.2.1 (iV k) ih.2.2.1 (gX k) ih.2.2.2 zq L8 hz hq⟩
theorem Mq (LZ:List aU) (jo:List aB) {bf:Bool} (hf:H8 LZ jo=some bf) (h:Q (.ret (.bool bf)) τ):PC 153 [.list (List.map aU.cells LZ),.list (List.map aB.cells jo)] τ Q:=
 ((vG BIG).1) LZ jo hf h
theorem Uw (kV:aU) (L8:List aB) {bf:Bool} (hf:L9 kV L8=some bf) (h:Q (.ret (.bool bf)) τ):PC 188 [.agg (Af kV),.ref [.list (List.map aB.cells L8)]] τ Q:=
 ((vG BIG).2.1) kV L8 hf h
theorem Ve (jN:aj) (jo:List aB) {bf:Bool} (hf:M5 jN jo=some bf) (h:Q (.ret (.bool bf)) τ):PC 189 [.agg (bE jN),.list (List.map aB.cells jo)] τ Q:=
 ((vG BIG).2.2.1) jN jo hf h
theorem TG (zq:aj) (L8:List aB) {bf:Bool} (hf:Kz zq L8=some bf) (h:Q (.ret (.bool bf)) τ):PC 224 [.agg (bE zq),.ref [.list (List.map aB.cells L8)]] τ Q:=
 ((vG BIG).2.2.2) zq L8 hf h
end
section
variable [xJ]
theorem QZ (v1:ah) {r0:Str} (hf:II v1=some r0) (h:Q (.ret (.str r0)) τ):PC 61 [.agg (aL v1)] τ Q:=by
 unfold II at hf; refine BN 8 [.tmp 2] [0] Tryz.func61 Z Z Z Z Z ?_; refine B1 hf fun x1 h1 hf=>W 3 Z (CL Z (nD _ h1 (J 1 Z (C hf Z (fun h2 hf=>?_) fun h2 hf=>?_))))
 · cases hf; exact M 1 Z (Y Z h)
 refine BR hf fun x2 h3 hf=>?_; refine W 1 Z (CL Z (EA _ h3 ?_)); cases hf; exact N 1 Z (Y Z h)
end
theorem Oe (e1:aj) {r0:Int} (hf:DJ e1=some r0) (h:Q (.ret (iP r0)) τ):PC 101 [.agg (bE e1)] τ Q:=by
 unfold DJ at hf; refine BN 33 [.tmp 2] [0] Tryz.func101 Z Z Z Z Z (V 6 Z (C hf Z (fun h1 hf=>?_) fun h1 hf=>?_))
 · cases hf; exact M 1 Z (Y Z h)
 refine V 4 Z (C hf Z (fun h2 hf=>?_) fun h2 hf=>?_)
 · refine BR hf fun x1 h3 hf=>?_; refine W 2 Z (CL Z (rT _ h3 ?_)); cases hf; exact N 1 Z (Y Z h)
 refine V 4 Z (C hf Z (fun h4 hf=>?_) fun h4 hf=>?_)
 ·
  refine V 0 Z (AW.cond Z (fun h5=>?_) (fun h5=>?_))
  · cases hf; exact M 1 Z (Y Z h)
  cases h4.symm.trans h5
 refine W 4 Z (An 5 21 26 [1,14] (e1.value.kind == 2) Z Z Z Z (U 1 Z (An 5 27 32 [14] (decide (e1.value.jm < 0)) Z Z Z Z (J 1 Z (C hf Z (fun h8 hf=>?_) fun h8 hf=>?_)))))
 · cases hf; exact M 1 Z (Y Z h)
 cases hf; exact M 1 Z (Y Z h)
theorem Pv (s1:Str) {r0:Str} (hf:FP s1=some r0) (h:Q (.ret (.str r0)) τ):PC 102 [.str s1] τ Q:=by
 unfold FP at hf; refine BN 64 [.tmp 2] [0] Tryz.func102 Z Z Z Z Z (W 1 Z (AS Z (AO.Ai (eu:=5) Z Kq Z (fun b3=>?_)))); refine B1 hf fun b1 h1 hf=>U 0 Z (CL Z (AC.one 0 Z (gV h1 (fun v1=>⟨_,Z,(J 1 Z (Rj (fun i1 b2 v2=>[(0,.str s1),(3,pP b3),(4,iP i1)]) (fun i1 b2 v2=>[.Io b3 v2 167 5 b2]) (fun b_ i1 b2 v2=>mo s1 b_ i1 b2=some r0) BIG 0 b1 v1 Z Z hf (fun _ _ _ hz=>bU hz) ?_))⟩)))); intro b_ i1 b2 v2 hf; rw [mo] at hf; refine W 2 Z (AS Z (AO.dO Z Z Z Z eH Z (J 1 Z (C hf Z (fun h2 hf=>?_) fun h2 hf=>?_))))
 ·
  refine B1 hf fun c1 h3 hf=>W 2 Z (AS Z (AO.gZ h3 Z eH Z Z (U 4 Z (On 3 21 24 [0,3,4,5] ((c1.toNat:Int) == 92) Z Z Z Z (J 1 Z (C hf Z (fun h5 hf=>?_) fun h5 hf=>?_))))))
  · refine B1 hf fun x1 h6 hf=>W 4 Z (AS Z (AO.pQ h6 Z eH Z ⟨_,Z⟩ ⟨_,Z⟩ ?_)); refine B1 hf fun x2 h7 hf=>AS Z (AO.mX h7 Z Z Z ?_); refine B1 hf fun b3 h8 hf=>CL Z (AC.one 0 Z (jd h8 (fun v3=>⟨_,Z,?_⟩))); exact N 3 Z ⟨(dG (i1 + 1)),b3,v3,Z,Z,Z,hf⟩
  refine V 3 Z (C hf Z (fun h9 hf=>?_) fun h9 hf=>?_)
  · refine B1 hf fun b4 h10 hf=>W 0 Z (CL Z (AC.one 0 Z (jd h10 (fun v4=>⟨_,Z,?_⟩)))); exact N 3 Z ⟨(dG (i1 + 1)),b4,v4,Z,Z,Z,hf⟩
  refine V 3 Z (C hf Z (fun h11 hf=>?_) fun h11 hf=>?_)
  · refine B1 hf fun b5 h12 hf=>W 0 Z (CL Z (AC.one 0 Z (jd h12 (fun v5=>⟨_,Z,?_⟩)))); exact N 3 Z ⟨(dG (i1 + 1)),b5,v5,Z,Z,Z,hf⟩
  refine W 3 Z (On 3 43 46 [0,3,4,5] (decide (126 < (c1.toNat:Int))) Z Z Z Z (J 1 Z (C hf Z (fun lH hf=>?_) fun lH hf=>?_)))
  ·
   refine AW.draw 14 mixed (by kernel_rfl) Z ?_; refine Ev.cs bJ 1 Z (Ev.cons Z Z Z (AO.u8_quo c1 16 Z Z Z Z Z (by decide) zg) ?_); refine Ev.cs bJ 1 Z (Ev.cons Z Z Z (AO.u8_quo c1 16 Z Z Z Z Z (by decide) zg) ?_); refine Ev.cons Z Z Z (AO.VO (c1 / 16) 1 Z Z Z Z Z zg) ?_; refine B1 hf fun x3 rO hf=>Ev.cons Z Z Z (AO.pQ rO Z eH Z ⟨_,Z⟩ ⟨_,Z⟩ zg) ?_; refine B1 hf fun x4 h16 hf=>Ev.cons Z Z Z (AO.mX h16 Z Z Z zg) (Ev.cs bJ 1 Z (Ev.cons Z Z Z (AO.SQ c1 16 Z Z Z Z Z (by decide) zg) ?_)); refine Ev.cs bJ 1 Z (Ev.cons Z Z Z (AO.SQ c1 16 Z Z Z Z Z (by decide) zg) ?_); refine Ev.cons Z Z Z (AO.VO (c1 % 16) 1 Z Z Z Z Z zg) ?_; refine B1 hf fun x5 xM hf=>Ev.cons Z Z Z (AO.pQ xM Z eH Z ⟨_,Z⟩ ⟨_,Z⟩ zg) ?_; refine B1 hf fun x6 h18 hf=>Ev.cons Z Z Z (AO.mX h18 Z Z Z zg) (Ev.nil ?_); show AR _ _ _ _ _ _ _ _; refine B1 hf fun b6 h19 hf=>CL Z (AC.one 0 Z (jd h19 (fun v6=>⟨_,Z,?_⟩))); exact N 3 Z ⟨(dG (i1 + 1)),b6,v6,Z,Z,Z,hf⟩
  refine B1 hf fun b7 h20 hf=>W 1 Z (CL Z (AC.one 0 Z (gV h20 (fun v7=>⟨_,Z,?_⟩)))); exact N 3 Z ⟨(dG (i1 + 1)),b7,v7,Z,Z,Z,hf⟩
 refine BR hf fun b8 h21 hf=>?_; refine W 0 Z (CL Z (AC.one 0 Z (gV h21 (fun v8=>⟨_,Z,(U 0 Z (CL Z (AC.GH 0 Z (uz ?_))))⟩)))); cases hf; exact N 1 Z (Y Z h)
section
variable [xJ]
abbrev vK (fT:aj→Option Str):Prop:=∀ (jN:aj) {bf:Str},fT jN=some bf→∀ {τ:List aV} {Q:cO→List aV→Prop} (h:Q (.ret (.str bf)) τ),PC 36 [.agg (bE jN)] τ Q
abbrev Ac (dI:aj→Int→Option Str):Prop:=∀ (jN:aj) (mQ:Int) {bf:Str},dI jN mQ=some bf→∀ {τ:List aV} {Q:cO→List aV→Prop} (h:Q (.ret (.str bf)) τ),PC 62 [.agg (bE jN),iP mQ] τ Q
abbrev yO (gJ:aj→Option Str):Prop:=∀ (jN:aj) {bf:Str},gJ jN=some bf→∀ {τ:List aV} {Q:cO→List aV→Prop} (h:Q (.ret (.str bf)) τ),PC 63 [.agg (bE jN)] τ Q
theorem LW (fT) (rQ:vK fT) (dI) (iF:Ac dI) (gJ) (qR:yO gJ) (e1:aj) {r0:Str} (hf:zA fT dI gJ e1=some r0) (h:Q (.ret (.str r0)) τ):PC 36 [.agg (bE e1)] τ Q:=by
 unfold zA at hf; refine BN 121 [.tmp 2] [0] Tryz.func36 Z Z Z Z Z (V 6 Z (C hf Z (fun h1 hf=>?_) fun h1 hf=>?_))
 · refine BR hf fun x1 h2 hf=>?_; refine W 2 Z (CL Z (QZ _ h2 ?_)); cases hf; exact N 1 Z (Y Z h)
 refine V 2 Z (C hf Z (fun h3 hf=>?_) fun h3 hf=>?_)
 · cases hf; exact M 3 Z (Y Z h)
 refine V 2 Z (C hf Z (fun h4 hf=>?_) fun h4 hf=>?_)
 ·
  refine V 0 Z (AW.draw 10 mixed (by kernel_rfl) Z ?_); refine Ev.cs bJ 2 Z ?_; refine B1 hf fun e2 h5 hf=>Ev.cons Z Z Z (AO.aZ h5 Z Z (aj.aA _) Z iQ (aj.aF _) Z zg) (Ev.cs bJ 1 Z ?_); refine B1 hf fun x2 h6 hf=>Ev.cons Z Z Z (AO.call Z _ Z Z Fy (iF _ _ h6 zg)) ?_; refine B1 hf fun x3 h7 hf=>Ev.cons Z Z Z (AO.mX h7 Z Z Z zg) (Ev.cs bJ 2 Z ?_); refine BR hf fun x4 h8 hf=>?_; refine Ev.cons Z Z Z (AO.mX h8 Z Z Z zg) (Ev.cs bJ 1 Z (Ev.nil ?_)); show AR _ _ _ _ _ _ _ _; cases hf; exact N 0 Z (Y Z h)
 refine V 2 Z (C hf Z (fun h9 hf=>?_) fun h9 hf=>?_)
 ·
  refine V 0 Z (AW.draw 14 mixed (by kernel_rfl) Z ?_); refine Ev.cs bJ 2 Z ?_; refine B1 hf fun e3 h10 hf=>Ev.cons Z Z Z (AO.aZ h10 Z Z (aj.aA _) Z iQ (aj.aF _) Z zg) (Ev.cs bJ 1 Z ?_); refine B1 hf fun x5 h11 hf=>Ev.cons Z Z Z (AO.call Z _ Z Z Fy (iF _ _ h11 zg)) ?_; refine B1 hf fun x6 h12 hf=>Ev.cons Z Z Z (AO.mX h12 Z Z Z zg) (Ev.cs bJ 2 Z ?_); refine B1 hf fun e4 l6 hf=>Ev.cons Z Z Z (AO.aZ l6 Z Z (aj.aA _) Z iQ (aj.aF _) Z zg) (Ev.cs bJ 1 Z ?_); refine B1 hf fun x7 lH hf=>Ev.cons Z Z Z (AO.call Z _ Z Z Fy (iF _ _ lH zg)) ?_; refine B1 hf fun x8 rO hf=>Ev.cons Z Z Z (AO.mX rO Z Z Z zg) ?_; refine BR hf fun x9 h16 hf=>?_; refine Ev.cons Z Z Z (AO.mX h16 Z Z Z zg) (Ev.cs bJ 1 Z (Ev.nil ?_)); show AR _ _ _ _ _ _ _ _; cases hf; exact N 0 Z (Y Z h)
 refine V 2 Z (C hf Z (fun xM hf=>?_) fun xM hf=>?_)
 ·
  refine V 0 Z (AW.draw 8 mixed (by kernel_rfl) Z ?_); refine Ev.cs bJ 2 Z ?_; refine B1 hf fun Kn h18 hf=>Ev.cons Z Z Z (AO.mX h18 Z Z Z zg) (Ev.cs bJ 1 Z ?_); refine B1 hf fun Lb h19 hf=>Ev.cons Z Z Z (AO.call Z _ Z Z abG (qR _ h19 zg)) ?_; refine B1 hf fun Rl h20 hf=>Ev.cons Z Z Z (AO.mX h20 Z Z Z zg) ?_; refine BR hf fun UD h21 hf=>?_; refine Ev.cons Z Z Z (AO.mX h21 Z Z Z zg) (Ev.cs bJ 1 Z (Ev.nil ?_)); show AR _ _ _ _ _ _ _ _; cases hf; exact N 0 Z (Y Z h)
 refine V 2 Z (C hf Z (fun h22 hf=>?_) fun h22 hf=>?_)
 ·
  refine V 0 Z (AW.draw 9 mixed (by kernel_rfl) Z ?_); refine Ev.cs bJ 4 Z ?_; refine B1 hf fun e5 h23 hf=>Ev.cons Z Z Z (AO.aZ h23 Z Z (aj.aA _) Z iQ (aj.aF _) Z zg) (Ev.cs bJ 1 Z ?_); refine B1 hf fun Vp MG hf=>Ev.cons Z Z Z (AO.call Z _ Z Z Fy (iF _ _ MG zg)) ?_; refine BR hf fun X4 KL hf=>?_; refine Ev.cons Z Z Z (AO.mX KL Z Z Z zg) (Ev.cs bJ 1 Z (Ev.nil ?_)); show AR _ _ _ _ _ _ _ _; cases hf; exact N 0 Z (Y Z h)
 refine V 2 Z (C hf Z (fun PX hf=>?_) fun PX hf=>?_)
 ·
  refine B1 hf fun n1 h27 hf=>W 2 Z (CL Z (rT _ h27 (J 5 Z (C hf Z (fun KJ hf=>?_) fun KJ hf=>?_))))
  ·
   refine V 3 Z (AW.draw 20 mixed (by kernel_rfl) Z ?_); refine Ev.cs bJ 2 Z ?_; refine B1 hf fun e6 Ko hf=>Ev.cons Z Z Z (AO.aZ Ko Z Z (aj.aA _) Z iQ (aj.aF _) Z zg) (Ev.cs bJ 2 Z ?_); refine B1 hf fun UC Vv hf=>Ev.cons Z Z Z (AO.call Z _ Z Z Fy (iF _ _ Vv zg)) ?_; refine B1 hf fun Vo h31 hf=>Ev.cons Z Z Z (AO.mX h31 Z Z Z zg) (Ev.cs bJ 2 Z ?_); refine B1 hf fun X3 h32 hf=>Ev.cons Z Z Z (AO.mX h32 Z Z Z zg) ?_; refine B1 hf fun YG Uq hf=>Ev.cons Z Z Z (AO.mX Uq Z Z Z zg) (Ev.cs bJ 2 Z ?_); refine B1 hf fun e7 Y7 hf=>Ev.cons Z Z Z (AO.aZ Y7 Z Z (aj.aA _) Z iQ (aj.aF _) Z zg) (Ev.cs bJ 3 Z ?_); refine B1 hf fun x20 Y6 hf=>Ev.cons Z Z Z (AO.call Z _ Z Z Fy (iF _ _ Y6 zg)) ?_; refine BR hf fun x21 XT hf=>?_; refine Ev.cons Z Z Z (AO.mX XT Z Z Z zg) (Ev.cs bJ 1 Z (Ev.nil ?_)); show AR _ _ _ _ _ _ _ _; cases hf; exact N 0 Z (Y Z h)
  refine V 0 Z (AW.draw 20 mixed (by kernel_rfl) Z ?_); refine Ev.cs bJ 2 Z ?_; refine B1 hf fun e8 h37 hf=>Ev.cons Z Z Z (AO.aZ h37 Z Z (aj.aA _) Z iQ (aj.aF _) Z zg) (Ev.cs bJ 2 Z ?_); refine B1 hf fun x22 h38 hf=>Ev.cons Z Z Z (AO.call Z _ Z Z Fy (iF _ _ h38 zg)) ?_; refine B1 hf fun x23 h39 hf=>Ev.cons Z Z Z (AO.mX h39 Z Z Z zg) (Ev.cs bJ 2 Z ?_); refine B1 hf fun x24 h40 hf=>Ev.cons Z Z Z (AO.mX h40 Z Z Z zg) ?_; refine B1 hf fun x25 h41 hf=>Ev.cons Z Z Z (AO.mX h41 Z Z Z zg) (Ev.cs bJ 2 Z ?_); refine B1 hf fun e9 h42 hf=>Ev.cons Z Z Z (AO.aZ h42 Z Z (aj.aA _) Z iQ (aj.aF _) Z zg) (Ev.cs bJ 3 Z ?_); refine B1 hf fun x26 h43 hf=>Ev.cons Z Z Z (AO.call Z _ Z Z Fy (iF _ _ h43 zg)) ?_; refine BR hf fun x27 h44 hf=>?_; refine Ev.cons Z Z Z (AO.mX h44 Z Z Z zg) (Ev.cs bJ 1 Z (Ev.nil ?_)); show AR _ _ _ _ _ _ _ _; cases hf; exact N 0 Z (Y Z h)
 refine V 2 Z (C hf Z (fun h45 hf=>?_) fun h45 hf=>?_)
 ·
  refine V 0 Z (AW.draw 20 mixed (by kernel_rfl) Z ?_); refine Ev.cs bJ 2 Z ?_; refine B1 hf fun e10 h46 hf=>Ev.cons Z Z Z (AO.aZ h46 Z Z (aj.aA _) Z iQ (aj.aF _) Z zg) (Ev.cs bJ 1 Z ?_); refine B1 hf fun x28 h47 hf=>Ev.cons Z Z Z (AO.call Z _ Z Z Fy (iF _ _ h47 zg)) ?_; refine B1 hf fun x29 h48 hf=>Ev.cons Z Z Z (AO.mX h48 Z Z Z zg) (Ev.cs bJ 2 Z ?_); refine B1 hf fun e11 h49 hf=>Ev.cons Z Z Z (AO.aZ h49 Z Z (aj.aA _) Z iQ (aj.aF _) Z zg) (Ev.cs bJ 1 Z ?_); refine B1 hf fun x30 h50 hf=>Ev.cons Z Z Z (AO.call Z _ Z Z Fy (iF _ _ h50 zg)) ?_; refine B1 hf fun x31 h51 hf=>Ev.cons Z Z Z (AO.mX h51 Z Z Z zg) ?_; refine B1 hf fun x32 h52 hf=>Ev.cons Z Z Z (AO.mX h52 Z Z Z zg) (Ev.cs bJ 2 Z ?_); refine B1 hf fun e12 h53 hf=>Ev.cons Z Z Z (AO.aZ h53 Z Z (aj.aA _) Z iQ (aj.aF _) Z zg) (Ev.cs bJ 1 Z ?_); refine B1 hf fun x33 h54 hf=>Ev.cons Z Z Z (AO.call Z _ Z Z Fy (iF _ _ h54 zg)) ?_; refine BR hf fun x34 h55 hf=>?_; refine Ev.cons Z Z Z (AO.mX h55 Z Z Z zg) (Ev.cs bJ 1 Z (Ev.nil ?_)); show AR _ _ _ _ _ _ _ _; cases hf; exact N 0 Z (Y Z h)
 refine V 2 Z (C hf Z (fun h56 hf=>?_) fun h56 hf=>?_)
 · refine B1 hf fun x35 h57 hf=>W 1 Z (CL Z (qR _ h57 ?_)); refine B1 hf fun x36 h58 hf=>AS Z (AO.mX h58 Z Z Z ?_); refine BR hf fun x37 h59 hf=>?_; refine AS Z (AO.mX h59 Z Z Z ?_); cases hf; exact N 1 Z (Y Z h)
 refine B1 hf fun x38 h60 hf=>W 1 Z (CL Z (qR _ h60 ?_)); refine B1 hf fun x39 h61 hf=>AS Z (AO.mX h61 Z Z Z ?_); refine BR hf fun x40 h62 hf=>?_; refine AS Z (AO.mX h62 Z Z Z ?_); cases hf; exact N 1 Z (Y Z h)
theorem Ql (fT) (rQ:vK fT) (dI) (iF:Ac dI) (gJ) (qR:yO gJ) (e1:aj) (GD:Int) {r0:Str} (hf:DL fT dI gJ e1 GD=some r0) (h:Q (.ret (.str r0)) τ):PC 62 [.agg (bE e1),iP GD] τ Q:=by
 unfold DL at hf; refine BN 15 [.tmp 4] [0,1] Tryz.func62 Z Z Z Z Z ?_; refine B1 hf fun x1 h1 hf=>W 3 Z (CL Z (Oe _ h1 (J 2 Z (C hf Z (fun h2 hf=>?_) fun h2 hf=>?_))))
 · refine B1 hf fun x2 h3 hf=>W 1 Z (CL Z (rQ _ h3 ?_)); refine B1 hf fun x3 h4 hf=>AS Z (AO.mX h4 Z Z Z ?_); refine BR hf fun x4 h5 hf=>?_; refine AS Z (AO.mX h5 Z Z Z ?_); cases hf; exact N 1 Z (Y Z h)
 refine BR hf fun x5 h6 hf=>?_; refine W 1 Z (CL Z (rQ _ h6 ?_)); cases hf; exact N 1 Z (Y Z h)
theorem OT (fT) (rQ:vK fT) (dI) (iF:Ac dI) (gJ) (qR:yO gJ) (e1:aj) {r0:Str} (hf:Co fT dI gJ e1=some r0) (h:Q (.ret (.str r0)) τ):PC 63 [.agg (bE e1)] τ Q:=by
 unfold Co at hf; refine BN 36 [.tmp 2] [0] Tryz.func63 Z Z Z Z Z (W 5 Z (AS Z (AO.aT (l:=e1.args) Z Z Z Z iQ Z (aj.aA _) ?_))); refine J 1 Z (AW.row 1 9 (Rj (fun mU v1 i1=>[(1,.ref (bE e1)),(3,.own v1 (List.map l8 mU)),(8,.list (aj.aK e1.args)),(9,iP (e1.args.length:Int)),(10,iP i1)]) (fun mU v1 i1=>[.row v1 (List.map l8 mU).length 1 9]) (fun b_ mU v1 i1=>sK dI e1 b_ mU i1=some r0) BIG [] (.slice none 0 0) 0 Z Z hf (fun _ _ _ hz=>bU hz) ?_)); intro b_ mU v1 i1 hf; rw [sK] at hf; refine V 1 Z (C hf Z (fun h1 hf=>?_) fun h1 hf=>?_)
 ·
  refine B1 hf fun e2 h2 hf=>W 1 Z (AS Z (AO.aZ h2 Z Z (aj.aA _) Z iQ (aj.aF _) Z (U 1 Z (AS Z (AO.aC Z iO (fun b5=>?_)))))); refine B1 hf fun s1 h3 hf=>Rr 3 [0,0] Z Z (CL Z (iF _ _ h3 (J 4 Z (C hf Z (fun h4 hf=>?_) fun h4 hf=>?_))))
  ·
   refine B1 hf fun e3 h5 hf=>W 3 Z (AS Z (AO.aZ h5 Z Z Z Z jZ Z Z ?_)); refine B1 hf fun x1 h6 hf=>U 1 Z (CL Z (Pv _ h6 ?_)); refine B1 hf fun x2 h7 hf=>AS Z (AO.mX h7 Z Z Z ?_); refine B1 hf fun s2 h8 hf=>U 1 Z (AS Z (AO.mX h8 Z Z Z (U 3 Z (AS Z (AO.bD (List.map l8 ([s2]:List Str)) Z qm Z Z Z Z ?_))))); refine B1 hf fun IL h9 hf=>AS Z (AO.eB (i:=1) (l:=mU) (m:=([s2]:List Str)) h9 Z Z Z Z Z Z Z qm jZ Z Z Z (fun _=>Z) (fun _=>Z) (by decide) (fun v2 s3 hs3=>?_)); cases hs3; refine fZ 3 Z (AR.drop1 ?_); exact N 0 Z ⟨IL,v2,(dG (i1 + 1)),Z,Z,Z,hf⟩
  refine W 2 Z (AS Z (AO.bD (List.map l8 ([s1]:List Str)) Z qm Z Z Z Z ?_)); refine B1 hf fun IK h10 hf=>AS Z (AO.eB (i:=1) (l:=mU) (m:=([s1]:List Str)) h10 Z Z Z Z Z Z Z qm jZ Z Z Z (fun _=>Z) (fun _=>Z) (by decide) (fun v3 s4 hs4=>?_)); cases hs4; refine fZ 3 Z (AR.drop1 ?_); exact N 0 Z ⟨IK,v3,(dG (i1 + 1)),Z,Z,Z,hf⟩
 refine BR hf fun x3 h11 hf=>?_; refine W 1 Z (CL Z (xD _ _ h11 ?_)); cases hf; exact N 1 Z (Y Z h)
theorem zD :∀ k:Nat,(vK (kL k))∧(Ac (nk k))∧(yO (l9 k)):=by
 intro k
 induction k with
 | zero=>exact ⟨fun _ _ hz=>by first | cases hz | (unfold kL at hz; cases hz),fun _ _ _ hz=>by first | cases hz | (unfold nk at hz; cases hz),fun _ _ hz=>by first | cases hz | (unfold l9 at hz; cases hz)⟩
 | succ k ih=>exact ⟨fun jN bf hz τ Q hq=>LW (kL k) ih.1 (nk k) ih.2.1 (l9 k) ih.2.2 jN hz hq,fun jN mQ bf hz τ Q hq=>Ql (kL k) ih.1 (nk k) ih.2.1 (l9 k) ih.2.2 jN mQ hz hq,fun jN bf hz τ Q hq=>OT (kL k) ih.1 (nk k) ih.2.1 (l9 k) ih.2.2 jN hz hq⟩
theorem Ms (jN:aj) {bf:Str} (hf:H_ jN=some bf) (h:Q (.ret (.str bf)) τ):PC 36 [.agg (bE jN)] τ Q:=
 ((zD BIG).1) jN hf h
theorem Yu (jN:aj) (mQ:Int) {bf:Str} (hf:Tg jN mQ=some bf) (h:Q (.ret (.str bf)) τ):PC 62 [.agg (bE jN),iP mQ] τ Q:=
 ((zD BIG).2.1) jN mQ hf h
theorem XU (jN:aj) {bf:Str} (hf:RO jN=some bf) (h:Q (.ret (.str bf)) τ):PC 63 [.agg (bE jN)] τ Q:=
 ((zD BIG).2.2) jN hf h
end
section
variable [xJ]
theorem Ij (e1:aj) {r0:Str} (hf:BI e1=some r0) (h:Q (.ret (.str r0)) τ):PC 18 [.agg (bE e1)] τ Q:=by
 unfold BI at hf; refine BN 8 [.tmp 2] [0] Tryz.func18 Z Z Z Z Z ?_; refine B1 hf fun x1 h1 hf=>W 3 Z (CL Z (qg _ h1 (J 1 Z (C hf Z (fun h2 hf=>?_) fun h2 hf=>?_))))
 · cases hf; exact M 1 Z (Y Z h)
 refine BR hf fun x2 h3 hf=>?_; refine W 1 Z (CL Z (Ms _ h3 ?_)); cases hf; exact N 1 Z (Y Z h)
end
section
variable [xJ]
def JB :Go.Shelf.Ren:=⟨fun | 155=>190 | 154=>225 | 138=>259 | 165=>143 | 143=>260 | 166=>141 | 197=>227 | 169=>142 | 195=>287 | 218=>288 | 240=>166 | 241=>167 | 219=>289 | 260=>261 | 276=>200 | 277=>201 | 217=>316 | 225=>293 | 224=>292 | 267=>317 | 266=>334 | 314=>335 | n=>n,fun | 9=>9 | 3=>3 | 4=>4 | 72=>167 | 0=>0 | 76=>171 | 105=>248 | 21=>21 | 5=>5 | 70=>165 | 20=>20 | 37=>73 | 75=>169 | 127=>196 | 164=>227 | 46=>278 | 119=>296 | 139=>299 | 138=>298 | 146=>332 | 51=>276 | 80=>173 | n=>n,fun | 1=>0 | 3=>2 | 4=>3 | n=>n⟩
theorem V8 :Go.Proofs.Lays.n155 Tryz.prog JB:=by repeat' first | (intros; kernel_rfl) | constructor | decide
theorem V7 :Go.Proofs.Builder.Extra Tryz.prog JB:=by repeat' first | (intros; kernel_rfl) | constructor | decide
theorem Ga (s1:Str) (Yh:Str) (new1:Str) {r0:Str} (hf:strings_ReplaceAll s1 Yh new1=some r0) (h:Q (.ret (.str r0)) τ):PC 190 [.str s1,.str Yh,.str new1] τ Q:=by
 unfold strings_ReplaceAll at hf; split at hf
 case isFalse=>cases hf
 rename_i hg; obtain ⟨hg,rfl,rfl⟩:=hg; rw [←Na (by decide)] at hf; cases hf; refine AC.none ?_; exact AC.replaceAll xJ.hD V8 V7 hg (by decide) xJ.max (by rw [Lib.count_one]; have:=List.count_le_length (a:=(36:UInt8)) (l:=s1); simp only [List.length_cons,List.length_nil]; omega) h
end
section
variable [xJ]
theorem Pw (ps1:List aU) {r0:Str} (hf:FQ ps1=some r0) (h:Q (.ret (.str r0)) τ):PC 154 [.list (List.map aU.cells ps1)] τ Q:=by
 unfold FQ at hf; refine BN 26 [.tmp 2] [0] Tryz.func154 Z Z Z Z Z (W 1 Z (AS Z (AO.Ai (eu:=5) Z Kq Z (fun b3=>(U 1 Z (AS Z (AO.aT (l:=ps1) Z Z Z Z AZ Z Z (J 1 Z (Rj (fun x1 b1 v1=>[(3,pP b3),(6,.list (List.map aU.cells ps1)),(7,iP (ps1.length:Int)),(8,iP x1)]) (fun x1 b1 v1=>[.Io b3 v1 167 5 b1]) (fun b_ x1 b1 v1=>sS ps1 b_ x1 b1=some r0) BIG 0 [] (.slice none 0 0) Z Z hf (fun _ _ _ hz=>bU hz) ?_))))))))); intro b_ x1 b1 v1 hf; rw [sS] at hf; refine V 1 Z (C hf Z (fun h1 hf=>?_) fun h1 hf=>?_)
 ·
  refine B1 hf fun e1 h2 hf=>W 0 Z (AS Z (AO.aZ h2 Z Z Z Z AZ (aU.aF _) Z (U 1 Z (AS Z (AO.aC Z MK (fun b5=>(Rw 3 [0,0] Z Z (C hf Z (fun h3 hf=>?_) fun h3 hf=>?_))))))))
  · refine B1 hf fun x2 h4 hf=>Wr 2 [0] Z Z (CL Z (Ij _ h4 ?_)); refine B1 hf fun x3 h5 hf=>AS Z (AO.mX h5 Z Z Z ?_); refine B1 hf fun x4 h6 hf=>AS Z (AO.mX h6 Z Z Z ?_); refine B1 hf fun b2 h7 hf=>CL Z (AC.one 1 Z (jd h7 (fun v2=>⟨_,Z,(fZ 2 Z (AR.drop1 ?_))⟩))); exact N 0 Z ⟨(dG (x1 + 1)),b2,v2,Z,Z,Z,hf⟩
  refine B1 hf fun x5 h8 hf=>Wr 2 [0] Z Z (CL Z (Ga _ _ _ h8 ?_)); refine B1 hf fun b3 h9 hf=>CL Z (AC.one 1 Z (jd h9 (fun v3=>⟨_,Z,(fZ 2 Z (AR.drop1 ?_))⟩))); exact N 0 Z ⟨(dG (x1 + 1)),b3,v3,Z,Z,Z,hf⟩
 refine W 0 Z (CL Z (AC.GH 0 Z (uz ?_))); cases hf; exact N 1 Z (Y Z h)
end
section
variable [xJ]
theorem G9 (go:aj→List aB→Option (aj × Bool × Int)) (dH:List aB) (D:PV) (Yn:∀ (a0:aj) (r0:aj) (r1:Bool) (r2:Int),go a0 dH=some (r0,r1,r2)→∀ {τ:List aV} {Q:cO→List aV→Prop},Q (.ret (.tuple [.agg (bE r0),.bool r1,iP r2])) τ→PC 151 ([.agg (bE a0)] ++ [.ref [.list (List.map aB.cells dH)],D]) τ Q) (e1:aj) {r0:aj} {r1:Bool} {r2:Int} (hf:uK go e1 dH=some (r0,r1,r2)) (h:Q (.ret (.tuple [.agg (bE r0),.bool r1,iP r2])) τ):PC 151 [.agg (bE e1),.ref [.list (List.map aB.cells dH)],.ref [.fn 151 [.ref [.list (List.map aB.cells dH)],D]]] τ Q:=by
 unfold uK at hf; refine AC.none (AC.jA 93 [.cell 4 45,.tmp 5,.tmp 6] [0,1,2] Tryz.func151 Z Z Z Z Z (AW.sr (AR.step Z Z Z (AO.Ab Z Z Z ?_)))); refine AR.step Z Z Z (AO.aC Z iO (fun b4=>(cs 2 Z (AR.nil [1,2,3,4] Z (AW.seq ?_))))); refine AW.sr (cs 3 Z ?_); obtain ⟨v1,is1,h1,hf⟩:=bM hf; refine AR.step Z Z Z (AO.call Z _ Z Z Wo (vJ _ _ h1 (cs 3 Z (AR.step Z Z Z (AO.aC Z gK (fun b7=>(AR.bC Z Z (AO.bO (i:=0) Z Z Z kY Z Z Z Z Z ?_)))))))); refine cs 1 Z (AR.nil [1,2,3,4,7,8] Z (AW.sr (cs 2 Z ?_))); refine AR.and 4 23 27 [1,2,3,4,7] (x:=(e1.kind == 2)) Z Z (fun h2=>?_) (fun h2=>?_) ?_
 · refine AR.is 23 h2 Z (cs 4 Z (AR.nil [27,1,2,3,4,7] Z ?_)); exact ⟨Z,Z,Z,Z⟩
 · refine AR.is 23 h2 Z (cs 4 Z (AR.nil [27,1,2,3,4,7] Z ?_)); exact ⟨Z,Z,Z,Z⟩
 refine AR.nil [1,2,3,4,7,27] Z (AW.cond Z (fun h3=>?_) (fun h3=>?_))
 · replace hf:=jC h3 hf; refine B1 hf fun x1 hx1 hf=>AW.sr (AR.step Z Z Z (AO.aR (i:=0) Z Z Z kY Z Z (AR.step Z Z Z (AO.call Z _ Z Z Uj (tL _ hx1 (AR.step Z Z Z (AO.build Z iO Ck Z ?_))))))); refine AR.bC Z Z (AO.bO (i:=1) Z Z Z gH Z Z Z Z Z (cs 2 Z (AR.nil [4,5,6] Z (AW.ret ?_)))); cases hf; exact ⟨rfl,_,⟨_,_,rfl,⟨_,_,1,_,_,rfl,rfl,gH,rfl⟩,_,_,rfl,rfl,_,_,rfl,rfl,rfl⟩,[],List.nil_sublist _,h⟩
 replace hf:=jf h3 hf; refine AW.skip (AW.D9 0 Z (AW.seq (AW.sr ?_))); refine cs 4 Z (AR.or 5 34 39 [1,2,3,4] (x:=(e1.value.kind != 3)) Z Z (fun h4=>?_) (fun h4=>?_) ?_)
 · refine AR.is 34 h4 Z (cs 5 Z (AR.nil [39,1,2,3,4] Z ?_)); exact ⟨Z,Z,Z,Z⟩
 · refine AR.is 34 h4 Z (cs 5 Z (AR.nil [39,1,2,3,4] Z ?_)); exact ⟨Z,Z,Z,Z⟩
 refine AR.nil [1,2,3,4,39] Z (AW.cond Z (fun h5=>?_) (fun h5=>?_))
 · replace hf:=jC h5 hf; refine AW.sr (AR.step Z Z Z (AO.build Z iO Ck Z (AR.bC Z Z (AO.bO (i:=0) Z Z Z gH Z Z Z Z Z (cs 2 Z ?_))))); refine AR.nil [4,5,6] Z (AW.ret ?_); cases hf; exact ⟨rfl,_,⟨_,_,rfl,⟨_,_,0,_,_,rfl,rfl,gH,rfl⟩,_,_,rfl,rfl,_,_,rfl,rfl,rfl⟩,[],List.nil_sublist _,h⟩
 replace hf:=jf h5 hf; refine AW.skip (AW.sr (cs 3 Z ?_)); obtain ⟨ps1,x2,Bt,h6,hf⟩:=jG hf; refine AR.step Z Z Z (AO.call Z _ Z Z ZM (AC.none (BQ _ h6 (fun v9=>(cs 7 Z (AR.nil [1,2,4,9,11] Z (AW.seq ?_))))))); refine AW.sr (cs 3 Z ?_); refine B1 hf fun b1 h7 hf=>AR.gI 5 51 56 false [1,2,4,9] b1 Z Z (fun h8=>?_) (fun h8=>?_) ?_
 · replace h7:=jf h8 h7; refine B1 h7 fun u1 h9 h7=>AR.is 51 h8 rfl (cs 2 rfl (AR.go rfl rfl rfl rfl rfl rfl (AO.call rfl _ rfl rfl Wv (AC.frame (σ:=[_]) (τ:=[_]) (AC.borrow (l:=List.map aU.cells ps1) (List.flatMap_def ..).symm (fun x hx=>by obtain ⟨s,_,rfl⟩:=List.mem_map.1 hx; exact aU.bB s) (by rw [List.length_map]) (Mq _ _ h9 zg) ?_))))); cases h7; refine cs 2 Z (AR.nil [56,1,2,4,9] Z ?_); exact ⟨Z,Z,Z,Z⟩
 · replace h7:=jC h8 h7; cases h7; refine AR.is 51 h8 Z (cs 5 Z (AR.nil [56,1,2,4,9] Z ?_)); exact ⟨Z,Z,Z,Z⟩
 refine AR.nil [1,2,4,9,56] Z (AW.cond Z (fun h10=>?_) (fun h10=>?_))
 · replace hf:=jC h10 hf; refine AW.sr (AR.step Z Z Z (AO.build Z iO Ck Z (AR.bC Z Z (AO.bO (i:=1) Z Z Z gH Z Z Z Z Z (cs 2 Z ?_))))); refine AR.nil [4,5,6] Z (AW.ret ?_); cases hf; exact ⟨rfl,_,⟨_,_,rfl,⟨_,_,1,_,_,rfl,rfl,gH,rfl⟩,_,_,rfl,rfl,_,_,rfl,rfl,rfl⟩,[],List.nil_sublist _,h⟩
 replace hf:=jf h10 hf; obtain ⟨ps2,QN,hl,hf⟩:=bM hf; refine AW.skip (AW.seq (AW.sr (cs 1 Z ?_))); refine AR.step Z Z Z (AO.JL (i:=0) Z Z Z Z AZ Z Z (cs 1 Z (AR.nil [1,2,4,9,58,59,60] Z (AW.block ?_)))); refine AW.settle [1,2,4,9,58,59,60] Z ?_; refine AW.KH (fun (l:List aU) (i:Int)=>[(1,.ref [.list (List.map aB.cells dH)]),(2,.ref [.fn 151 [.ref [.list (List.map aB.cells dH)],D]]),(4,pP b4),(9,.val v9),(58,.val v9),(59,iP (ps1.length:Int)),(60,iP i)]) (fun (l:List aU) (i:Int)=>[.buf v9 ps1.length 12 189 (l.flatMap aU.cells),.box b4 [iP 0,.str ([]:Str),iP 0,.bool false,iP 0,.str ([]:Str),.own (.slice none 0 0) [],.own (.slice none 0 0) [],.own (.slice none 0 0) [],.own (.slice none 0 0) []]]) (fun kk l i=>l.length=ps1.length∧mh go dH (ps1.length:Int) kk l i=some (ps2,QN)) BIG ps1 0 Z Z ⟨Z,hl⟩ (fun _ _ hz=>bU hz.2) ?_; rintro kk l i ⟨hlen,hg⟩; rw [mh] at hg; refine AW.sr (cs 1 Z (AR.nil [1,2,4,9,58,59,60,61] Z (AW.seq ?_))); refine AW.cond Z (fun h11=>?_) (fun h11=>?_)
 ·
  replace hg:=jC h11 hg; obtain ⟨p1,hp1,hg⟩:=G7 hg; obtain ⟨hi0,hp1⟩:=sV hp1; obtain ⟨hlt,hp1⟩:=List.getElem?_eq_some_iff.1 hp1; refine AW.skip (AW.seq (AW.block (AW.sr ?_))); refine cs 1 Z (AR.step Z Z Z (AO.kW (i:=0) (sz:=12) Z Z Z Z AZ hi0 (by omega) ?_)); refine AR.step Z Z Z (AO.C_ (i:=0) Z Z Z VU (by rw [qc aU.bB]; omega) (by rw [xY aU.bB l i.toNat hlt,hp1,aU.aF]; rfl) ?_); refine AR.step Z Z Z (AO.aC Z MK (fun b13=>(cs 1 Z (AR.bC Z Z (AO.bO (i:=0) Z Z Z VU Z Z Z Z Z (AR.nil [1,2,4,9,12,13,58,59,60] Z ?_)))))); refine AW.seq (AW.sr (cs 1 Z (AR.step Z Z Z (AO.aR (i:=0) Z Z Z abq Z Z ?_)))); refine cs 1 Z (AR.nil [1,2,4,9,12,13,58,59,60,67] Z (AW.cond Z (fun h12=>?_) (fun h12=>?_)))
  · replace hg:=jC h12 hg; refine AW.exit (AW.D9 0 Z (AW.region (cs 2 Z ?_))); refine AR.nil [1,2,4,9,58,59,60] Z ?_; exact ⟨_,_,Z,Z,Z,hlen,hg⟩
  replace hg:=jf h12 hg; obtain ⟨x3,adb,hx3,hg⟩:=bM hg; refine AW.skip (AW.sr (cs 3 Z (AR.step Z Z Z (AO.aR (i:=0) Z Z Z gH Z Z ?_)))); refine cs 1 Z (AR.step Z Z Z (AO.call Z _ Z Z Te (vS _ (fun z0=>go z0 dH) 151 [.ref [.list (List.map aB.cells dH)],D] Wy Yn hx3 (cs 3 Z (AR.step Z Z Z (AO.kW (i:=1) (sz:=12) Z Z Z Z AZ hi0 (by omega) ?_)))))); refine cs 1 Z (AR.bC Z Z (AO.Ao (i:=1) (cs':=(l.set i.toNat (aU.mk p1.text p1.WT x3)).flatMap aU.cells) Z Z Z gH Z Z Z (Nat.succ_pos _) (by rw [qc aU.bB]; simp only [List.length_cons,List.length_nil]; omega) (NH aU.bB l _ 2 hlt _ (aU.mk p1.text p1.WT x3) (by rw [hp1,aU.aF,aU.aF]; rfl) (by simp only [List.length_cons,List.length_nil]; omega)) Z ?_)); refine cs 1 Z (AR.nil [1,2,4,9,11,58,59,60] Z (AW.D9 0 Z (AW.sr ?_))); refine cs 2 Z (AR.nil [1,2,4,9,11,58,59,60,80] Z (AW.cond Z (fun l6=>?_) (fun l6=>?_)))
  · cases jC l6 hg; replace hf:=jC l6 hf; refine AW.sr (AR.step Z Z Z (AO.build Z iO Ck Z (cs 1 Z (AR.bC Z Z (AO.bO (i:=1) Z Z Z gH Z Z Z Z Z ?_))))); refine cs 2 Z (AR.nil [4,5,6] Z (AW.ret ?_)); cases hf; exact ⟨rfl,_,⟨_,_,rfl,⟨_,_,1,_,_,rfl,rfl,gH,rfl⟩,_,_,rfl,rfl,_,_,rfl,rfl,rfl⟩,[],List.nil_sublist _,h⟩
  replace hg:=jf l6 hg; refine AW.skip (AW.region (cs 2 Z (AR.nil [1,2,4,9,58,59,60] Z ?_))); exact ⟨_,_,Z,Z,Z,(List.length_set ..).trans hlen,hg⟩
 cases jf h11 hg; obtain ⟨s1,hs1,hf⟩:=G7 (show av _ _=_ from hf); refine AW.exit (AW.freeze 9 0 (List.map aU.cells ps2) rfl rfl (List.flatMap_def ..).symm (fun x hx=>by obtain ⟨s,_,rfl⟩:=List.mem_map.1 hx; exact aU.bB s) (by rw [List.length_map,hlen]) ?_); refine AW.settle [4,9] Z (AW.drop1 (AW.sr (cs 1 Z ?_))); refine AR.step Z Z Z (AO.call Z _ Z Z ZL (Pw _ hs1 (cs 1 Z (AR.nil [4,14] Z (AW.seq ?_))))); refine AW.sr (cs 1 Z (AR.step Z Z Z (AO.dO Z Z Z Z eH Z (cs 1 Z ?_)))); refine AR.nil [4,14,88] Z (AW.cond Z (fun lH=>?_) (fun lH=>?_))
 · replace hf:=jC lH hf; refine AW.sr (AR.step Z Z Z (AO.build Z iO Ck Z (AR.bC Z Z (AO.bO (i:=0) Z Z Z gH Z Z Z Z Z (cs 2 Z ?_))))); refine AR.nil [4,5,6] Z (AW.ret ?_); cases hf; exact ⟨rfl,_,⟨_,_,rfl,⟨_,_,0,_,_,rfl,rfl,gH,rfl⟩,_,_,rfl,rfl,_,_,rfl,rfl,rfl⟩,[],List.nil_sublist _,h⟩
 replace hf:=jf lH hf; refine AW.skip (AW.sr (cs 1 Z (AR.step Z Z Z (AO.build Z gK Qr Z ?_)))); refine AR.step Z Z Z (AO.build Z iO Ck Z (AR.bC Z Z (AO.bO (i:=0) Z Z Z gH Z Z Z Z Z (cs 2 Z (AR.nil [4,5,6] Z ?_))))); refine AW.ret ?_; cases hf; exact ⟨rfl,_,⟨_,_,rfl,⟨_,_,0,_,_,rfl,rfl,gH,rfl⟩,_,_,rfl,rfl,_,_,rfl,rfl,rfl⟩,[],List.nil_sublist _,h⟩
theorem zN (dH:List aB) (b:Nat):∀ (k:Nat) (a0:aj) (r0:aj) (r1:Bool) (r2:Int),lG k a0 dH=some (r0,r1,r2)→∀ {τ:List aV} {Q:cO→List aV→Prop},Q (.ret (.tuple [.agg (bE r0),.bool r1,iP r2])) τ→PC 151 ([.agg (bE a0)] ++ [.ref [.list (List.map aB.cells dH)],OW 151 (.ref [.list (List.map aB.cells dH)]) b k]) τ Q
 | 0,_,_,_,_,hz,_,_,_=>bU hz
 | k + 1,x,_,_,_,hz,_,_,hq=>G9 (lG k) dH (OW 151 (.ref [.list (List.map aB.cells dH)]) b k) (zN dH b k) x hz hq
end
section
variable [xJ]
theorem J7 (e1:aj) (dH:List aB) {r0:aj} {r1:Int} (hf:zx e1 dH=some (r0,r1)) (h:Q (.ret (.tuple [.agg (bE r0),iP r1])) τ):PC 121 [.agg (bE e1),.list (List.map aB.cells dH)] τ Q:=by
 unfold zx at hf; refine AC.none (AC.jA 13 [.cell 4 45,.tmp 5] [0,1] Tryz.func121 Z Z Z Z Z (AW.sr (AR.step Z Z Z (AO.Ab Z Z Z ?_)))); refine AR.step Z Z Z (AO.Ab Z Z Z (AR.step Z Z Z (AO.aC Z iO (fun b4=>(cs 1 Z (AR.nil [2,3,4] Z ?_)))))); refine AW.sr (AR.step Z Z Z (AO.aC Z Zb (fun b6=>(AR.nil [2,3,4,6] Z (AW.sr ?_))))); refine cs 1 Z (AR.bC Z Z (AO.bO (i:=0) Z Z Z Zh Z Z Z Z Z (AR.nil [2,4,6] Z (AW.tie 6 0 (BIG + 1) Z Z Z ?_)))); rw [UG]; refine AW.settle [2,4,6] Z (AW.sr (cs 2 Z (AR.step Z Z Z (AO.call Z _ Z Z Te (vS _ (fun z0=>lG BIG z0 dH) 151 [.ref [.list (List.map aB.cells dH)],OW 151 (.ref [.list (List.map aB.cells dH)]) b6 BIG] Wy (zN dH b6 BIG) hf ?_))))); refine cs 2 Z (AR.bC Z Z (AO.bO (i:=0) Z Z Z gH Z Z Z Z Z (cs 1 Z (AR.nil [4,5] Z ?_)))); refine AW.ret ?_; exact ⟨rfl,_,⟨_,_,rfl,⟨_,_,0,_,_,rfl,rfl,gH,rfl⟩,_,_,rfl,rfl,rfl⟩,[],List.nil_sublist _,h⟩
end
section
variable [xJ]
theorem Kg (p1:aU) (mq:List aB) {r0:Str} {r1:Int} (hf:zG p1 mq=some (r0,r1)) (h:Q (.ret (.tuple [.str r0,iP r1])) τ):PC 155 [.agg (Af p1),.list (List.map aB.cells mq)] τ Q:=by
 unfold zG at hf; refine BN 27 [.tmp 4,.tmp 5] [0,1] Tryz.func155 Z Z Z Z Z (V 6 Z (C hf Z (fun h1 hf=>?_) fun h1 hf=>?_))
 · cases hf; exact M 4 Z (Y Z h)
 obtain ⟨x1,tK,h2,hf⟩:=bM hf; refine W 3 Z (CL Z (Gn _ _ h2 (U 3 Z (AS Z (AO.aC Z gK (fun b6=>(Rw 4 [0] Z Z (C hf Z (fun h3 hf=>?_) fun h3 hf=>?_))))))))
 · cases hf; exact M 3 Z (Y Z h)
 replace hf:=(G6 _).trans hf; obtain ⟨x2,x3,h4,hf⟩:=bM hf; refine Wr 1 [0] Z Z (CL Z (J6 _ h4 ?_)); cases hf; exact N 4 Z (Y Z h)
end
section
variable [xJ]
theorem Mw (s1:Str) (mq:List aB) {r0:Str} {r1:Int} (hf:Cv s1 mq=some (r0,r1)) (h:Q (.ret (.tuple [.str r0,iP r1])) τ):PC 122 [.str s1,.list (List.map aB.cells mq)] τ Q:=by
 unfold Cv at hf; refine BN 50 [.tmp 4,.tmp 5] [0,1] Tryz.func122 Z Z Z Z Z ?_; obtain ⟨ps1,x1,tK,h1,hf⟩:=jG hf; refine W 3 Z (CL Z (Gl _ h1 (J 9 Z (C hf Z (fun h2 hf=>?_) fun h2 hf=>?_))))
 · cases hf; exact M 3 Z (Y Z h)
 refine B1 hf fun FZ h3 hf=>W 1 Z (CL Z (Ee _ h3 (J 3 Z (C hf Z (fun h4 hf=>?_) fun h4 hf=>?_))))
 · cases hf; exact M 3 Z (Y Z h)
 refine W 0 Z (AS Z (AO.Ai (eu:=5) Z Kq Z (fun b10=>(U 1 Z (AS Z (AO.aT (l:=ps1) Z Z Z Z AZ Z Z (J 1 Z (Rj (fun x2 b1 v1=>[(1,.list (List.map aB.cells mq)),(10,pP b10),(29,.list (List.map aU.cells ps1)),(30,iP (ps1.length:Int)),(31,iP x2)]) (fun x2 b1 v1=>[.Io b10 v1 167 5 b1]) (fun b_ x2 b1 v1=>uh mq ps1 b_ x2 b1=some (r0,r1)) BIG 0 [] (.slice none 0 0) Z Z hf (fun _ _ _ hz=>bU hz) ?_)))))))); intro b_ x2 b1 v1 hf; rw [uh] at hf; refine V 1 Z (C hf Z (fun h5 hf=>?_) fun h5 hf=>?_)
 ·
  refine B1 hf fun e1 h6 hf=>W 0 Z (AS Z (AO.aZ h6 Z Z Z Z AZ (aU.aF _) Z (U 1 Z (AS Z (AO.aC Z MK (fun b12=>?_)))))); obtain ⟨t1,Xe,h7,hf⟩:=bM hf; refine Rr 3 [0,0] Z Z (CL Z (Kg _ _ h7 (J 7 Z (C hf Z (fun h8 hf=>?_) fun h8 hf=>?_))))
  · cases hf; exact M 3 Z (Y Z h)
  refine B1 hf fun b2 h9 hf=>W 1 Z (CL Z (AC.one 1 Z (jd h9 (fun v2=>⟨_,Z,(fZ 2 Z (AR.drop1 ?_))⟩)))); exact N 0 Z ⟨(dG (x2 + 1)),b2,v2,Z,Z,Z,hf⟩
 refine W 0 Z (CL Z (AC.one 0 Z (P_ ⟨_,Z,(J 1 Z (C hf Z (fun h10 hf=>?_) fun h10 hf=>?_))⟩)))
 · cases hf; exact M 2 Z (Y Z h)
 refine W 0 Z (CL Z (AC.GH 0 Z (uz ?_))); cases hf; exact N 2 Z (Y Z h)
end
section
variable [xJ]
abbrev xH (dP:au→List aB→Option (au × Int)):Prop:=∀ (qN:au) (jo:List aB) {bf:au} {pJ:Int},dP qN jo=some (bf,pJ)→∀ {τ:List aV} {Q:cO→List aV→Prop} (h:Q (.ret (.tuple [.agg (dR bf),iP pJ])) τ),PC 90 [.agg (dR qN),.list (List.map aB.cells jo)] τ Q
theorem Dn (dP) (Cx:xH dP) (b1:au) (dH:List aB) {r0:au} {r1:Int} (hf:qz dP b1 dH=some (r0,r1)) (h:Q (.ret (.tuple [.agg (dR r0),iP r1])) τ):PC 90 [.agg (dR b1),.list (List.map aB.cells dH)] τ Q:=by
 unfold qz at hf; refine BN 87 [.cell 4 38,.tmp 5] [0,1] Tryz.func90 Z Z Z Z Z (W 1 Z (AS Z (AO.aC Z nK (fun b4=>(U 6 Z (AS Z (AO.aC Z nK (fun b6=>(Rr 3 [0] Z Z (AS Z (AO.aT (l:=b1.attrs) Z Z Z Z qp Z Z ?_))))))))))); refine J 1 Z (AW.row 11 48 (AW.row 4 38 (LK4 (fun x1 aY v1 v2=>[(1,.list (List.map aB.cells dH)),(2,.ref (dR b1)),(4,pP b4),(6,pP b6),(22,.list (List.map aM.cells b1.attrs)),(23,iP (b1.attrs.length:Int)),(24,iP x1)]) (fun x1 aY v1 v2=>[.row v2 (au.aK aY.blocks).length 4 38,.row v1 (List.map aM.cells aY.attrs).length 11 48,.box b6 [.str aY.kind,.str aY.name,.own v1 (List.map aM.cells aY.attrs),.own v2 (au.aK aY.blocks)],.box b4 [.str ([]:Str),.str ([]:Str),.own (.slice none 0 0) [],.own (.slice none 0 0) []]]) (fun b_ x1 aY v1 v2=>mF dP b1 dH b_ x1 aY=some (r0,r1)) BIG 0 (au.mk b1.kind b1.name [] []) (.slice none 0 0) (.slice none 0 0) Z Z hf (fun _ _ _ _ hz=>bU hz) ?_))); intro b_ x1 aY v1 v2 hf; rw [mF] at hf; refine V 1 Z (C hf Z (fun h1 hf=>?_) fun h1 hf=>?_)
 ·
  refine B1 hf fun e1 h2 hf=>W 0 Z (AS Z (AO.aZ h2 Z Z Z Z qp (aM.aF _) Z (U 1 Z (AS Z (AO.aC Z MJ (fun b8=>?_)))))); obtain ⟨x2,e2,h3,hf⟩:=bM hf; refine Rr 4 [0,0] Z Z (CL Z (J7 _ _ h3 (U 3 Z (AS Z (AO.aC Z iO (fun b9=>(Rw 4 [0] Z Z (C hf Z (fun h4 hf=>?_) fun h4 hf=>?_))))))))
  · cases hf; exact Wx 4 [5] Z Z (ZC [5] Z Z h)
  refine Wr 6 [4,1,0] rfl rfl (AS rfl (AO.bD (List.map aM.cells [(aM.mk e1.name x2)]) rfl xL rfl rfl rfl (by first | rfl | simp only [List.map,aM.aF]) ?_)); refine B1 hf fun x3 h5 hf=>AS Z (AO.eB (i:=3) (l:=aY.attrs) (m:=[(aM.mk e1.name x2)]) h5 Z Z Z Z Z Z Z xL qp Z Z Z (aM.bB) (aM.cells_one) (by decide) (fun v3 s1 hs1=>?_)); cases hs1; refine Rn 4 [4] Z Z (AR.drop1 (AR.drop1 ?_)); exact N 0 Z ⟨(dG (x1 + 1)),(au.mk aY.kind aY.name x3 aY.blocks),v3,v2,Z,Z,Z,hf⟩
 refine W 2 Z (AS Z (AO.aT (l:=b1.blocks) Z Z Z Z kG Z (au.aA _) ?_)); refine J 1 Z (LK4 (fun x4 j6 v4 v5=>[(1,.list (List.map aB.cells dH)),(4,pP b4),(6,pP b6),(50,.list (au.aK b1.blocks)),(51,iP (b1.blocks.length:Int)),(52,iP x4)]) (fun x4 j6 v4 v5=>[.row v5 (au.aK j6.blocks).length 4 38,.row v4 (List.map aM.cells j6.attrs).length 11 48,.box b6 [.str j6.kind,.str j6.name,.own v4 (List.map aM.cells j6.attrs),.own v5 (au.aK j6.blocks)],.box b4 [.str ([]:Str),.str ([]:Str),.own (.slice none 0 0) [],.own (.slice none 0 0) []]]) (fun IZ x4 j6 v4 v5=>mE dP b1 dH IZ x4 j6=some (r0,r1)) BIG 0 aY v1 v2 Z Z hf (fun _ _ _ _ hz=>bU hz) ?_); intro IZ x4 j6 v4 v5 hf; rw [mE] at hf; refine V 1 Z (C hf Z (fun h6 hf=>?_) fun h6 hf=>?_)
 ·
  refine B1 hf fun e3 h7 hf=>W 0 Z (AS Z (AO.aZ h7 Z Z (au.aA _) Z kG (au.aF _) Z (U 1 Z (AS Z (AO.aC Z nK (fun b12=>?_)))))); obtain ⟨name1,e4,h8,hf⟩:=bM hf; refine Rr 4 [0,0] Z Z (CL Z (Mw _ _ h8 (J 7 Z (C hf Z (fun h9 hf=>?_) fun h9 hf=>?_))))
  · cases hf; exact Wx 4 [4] Z Z (ZC [4] Z Z h)
  obtain ⟨x5,e5,h10,hf⟩:=bM hf; refine Wr 5 [0,0] Z Z (CL Z (Cx _ _ h10 (U 3 Z (AS Z (AO.aC Z nK (fun b15=>(Rw 4 [0] Z Z (C hf Z (fun h11 hf=>?_) fun h11 hf=>?_))))))))
  · cases hf; exact Wx 4 [5] Z Z (ZC [5] Z Z h)
  refine Wr 3 [4,0] rfl rfl (AS rfl (AO.bD (au.aK [x5]) rfl oG rfl rfl rfl (by first | rfl | simp only [List.map,au.aF,au.aK]) ?_)); refine B1 hf fun x6 h12 hf=>AS Z (AO.eB (i:=2) (l:=j6.blocks) (m:=[x5]) h12 Z Z Z Z Z Z Z oG kG (au.aA _) (au.aA _) (au.aA _).symm (au.bB) (au.cells_one) (by decide) (fun v6 s2 hs2=>?_)); cases hs2; refine Rn 4 [4] Z Z (AR.drop1 (AR.drop1 ?_))
  exact N 0 Z ⟨(dG (x4 + 1)),(au.mk j6.kind j6.name j6.attrs x6),v4,v6,Z,Z,Z,hf⟩
 cases hf; exact Wx 3 [2,3] Z Z (ZC [3] Z Z h)
theorem DT :∀ k:Nat,(xH (kZ k)):=by
 intro k
 induction k with
 | zero=>exact fun _ _ _ _ hz=>by first | cases hz | (unfold kZ at hz; cases hz)
 | succ k ih=>exact fun qN jo bf pJ hz τ Q hq=>Dn (kZ k) ih qN jo hz hq
theorem Ea (qN:au) (jo:List aB) {bf:au} {pJ:Int} (hf:sw qN jo=some (bf,pJ)) (h:Q (.ret (.tuple [.agg (dR bf),iP pJ])) τ):PC 90 [.agg (dR qN),.list (List.map aB.cells jo)] τ Q:=
 ((DT BIG)) qN jo hf h
end
section
variable [xJ]
abbrev nR (bH:aG→au→Int→Option (au × Int × aG)):Prop:=∀ (kV:Nat) (LX:aG) (qN:au) (kK:Int) {bf:au} {pJ:Int} {Kv:aG},bH LX qN kK=some (bf,pJ,Kv)→∀ {Q:cO→List aV→Prop} (h:Q (.ret (.tuple [.agg (dR bf),iP pJ])) [.box kV (eD Kv)]),PC 54 [pP kV,.agg (dR qN),iP kK] [.box kV (eD LX)] Q
abbrev nA (bT:aG→au→Int→Option (au × Int × aG)):Prop:=∀ (kV:Nat) (LX:aG) (Ep:au) (kK:Int) {bf:au} {pJ:Int} {Kv:aG},bT LX Ep kK=some (bf,pJ,Kv)→∀ {Q:cO→List aV→Prop} (h:Q (.ret (.tuple [.agg (dR bf),iP pJ])) [.box kV (eD Kv)]),PC 55 [pP kV,.agg (dR Ep),iP kK] [.box kV (eD LX)] Q
theorem Aj (bH) (mV:nR bH) (bT) (qo:nA bT) (p1:Nat) (x1:aG) (b1:au) (mW:Int) {r0:au} {r1:Int} {YF:aG} (hf:lg bH bT x1 b1 mW=some (r0,r1,YF)) {Q:cO→List aV→Prop} (h:Q (.ret (.tuple [.agg (dR r0),iP r1])) [.box p1 (eD YF)]):PC 54 [pP p1,.agg (dR b1),iP mW] [.box p1 (eD x1)] Q:=by
 unfold lg at hf; refine AC.jA 96 [.cell 6 38,.tmp 7] [0,1,2] Tryz.func54 Z Z Z Z Z (AW.sr (AR.step Z Z Z (AO.Ab Z Z Z (AR.step Z Z Z (AO.aC Z nK (fun b6=>?_)))))); refine cs 1 Z (AR.nil [0,2,4,6] Z (AW.seq ?_)); refine B1 hf fun x2 h1 hf=>?_
 refine AW.Uu 6 9 [] [.box b6 [.str ([]:Str),.str ([]:Str),.own (.slice none 0 0) [],.own (.slice none 0 0) []],.box p1 (eD x1)] (fun S e s=>∃ (v1:Value) (b8:Nat),(S 7=true→S 6=true)∧e.get 0=pP p1∧e.get 2=iP mW∧e.get 4=.ref (dR b1)∧e.get 6=pP b6∧e.get 20=.str b1.kind∧e.get 22=.str b1.name∧e.get 24=.list (List.map aM.cells b1.attrs)∧
  (S 6=true→e.get 25=.own v1 (List.map aM.cells x2))∧(S 7=true→e.get 26=.agg [.str b1.kind,.str b1.name,.own v1 (List.map aM.cells x2),.own (.slice none 0 0) []])∧(S 8=true→e.get 8=pP b8)∧
  s.Perm ((bif S 8 then [.box b8 [.str ([]:Str),.str ([]:Str),.own (.slice none 0 0) [],.own (.slice none 0 0) []]] else []) ++ ((bif S 6 then [.row v1 (List.map aM.cells x2).length 11 48] else []) ++ [.box b6 [.str ([]:Str),.str ([]:Str),.own (.slice none 0 0) [],.own (.slice none 0 0) []],.box p1 (eD x1)]))) mixed (by kernel_rfl) Z Z (List.Perm.refl _) ?_ ?_ ?_ ?_
 ·
  refine Ev.cs bJ 6 Z (Ev.nil ?_); exact ⟨.nilIface,0,(fun h=>by cases h),Z,Z,Z,Z,Z,Z,Z,(fun h=>by cases h),(fun h=>by cases h),(fun h=>by cases h),List.Perm.refl _⟩
 ·
  rintro S S' e s hS ⟨v1,b8,w7,p0,p2,p4,p6,p20,p22,p24,q6,q7,q8,qs⟩; have z:=fun i h1 h2=>(hS i h1 h2).symm; refine ⟨v1,b8,?_,p0,p2,p4,p6,p20,p22,p24,?_,?_,?_,?_⟩
  ·
   rw [z 6 (by decide) (by decide),z 7 (by decide) (by decide)]; exact w7
  ·
   rw [z 6 (by decide) (by decide)]; exact q6
  ·
   rw [z 7 (by decide) (by decide)]; exact q7
  ·
   rw [z 8 (by decide) (by decide)]; exact q8
  ·
   rw [z 6 (by decide) (by decide),z 8 (by decide) (by decide)]; exact qs
 ·
  rintro S e s i o ⟨v1,b8,w7,p0,p2,p4,p6,p20,p22,p24,q6,q7,q8,qs⟩ hi1 hi2 Tz hp' ho; have hi:i=6∨i=7∨i=8:=by omega
  rcases hi with rfl | rfl | rfl
  ·
   cases ho; rw [Tz] at qs; have q7':S 7=true→False:=fun h7=>by have:=w7 h7; rw [Tz] at this; cases this
   refine ⟨Z,(fun t ht=>by cases ht; decide),AO.less (Less.add p24 Less.nil) (AO.Xi Z _ Z Z V_ (AC.none (o_ _ h1 (fun v2=>?_))))⟩; refine ⟨v2,b8,(fun _=>Z),p0,p2,p4,p6,p20,p22,p24,(fun _=>Z),(fun h7=>(q7' h7).elim),q8,?_⟩; cases h8:S 8 with
   | false=>
    rw [h8] at qs; simp only [h8,cond_false,cond_true,List.nil_append,if_true] at qs ⊢; exact qs.cons _
   | true=>
    rw [h8] at qs; simp only [h8,cond_false,cond_true,List.nil_append,if_true,List.cons_append,ite_self] at qs ⊢; exact (qs.cons _).trans (List.Perm.swap _ _ _)
  ·
   cases ho; have s6:=hp' 6 (any_beq.1 Z) (by decide); refine ⟨Z,(fun t ht=>by cases ht; decide),AO.less (Less.add p20 (Less.add p22 (Less.add (q6 s6) Less.nil))) (AO.build Z nK KA Z ?_)⟩; exact ⟨v1,b8,(fun _=>s6),p0,p2,p4,p6,p20,p22,p24,q6,(fun _=>Z),q8,qs⟩
  ·
   cases ho; rw [Tz] at qs; refine ⟨Z,(fun t ht=>by cases ht; decide),AO.aC Z nK (fun b9=>?_)⟩; exact ⟨v1,b9,w7,p0,p2,p4,p6,p20,p22,p24,q6,q7,(fun _=>Z),qs.cons _⟩
 rintro S e s hS ⟨v1,b8,w7,p0,p2,p4,p6,p20,p22,p24,q6,q7,q8,qs⟩; rw [hS 6 (by decide) (by decide),hS 8 (by decide) (by decide)] at qs; refine AR.abT qs (AR.less (Less.add p0 (Less.add p2 (Less.add p4 (Less.add p6 (Less.add (q7 (hS 7 (by decide) (by decide))) (Less.add (q8 (hS 8 (by decide) (by decide))) Less.nil)))))) ?_); show AR _ _ _ _ _ _ _ _; refine AR.bC Z Z (AO.bO (i:=0) Z Z Z mD Z Z Z Z Z (AR.nil [0,2,4,6,8] Z (AW.seq (AW.sr ?_)))); refine cs 2 Z (AR.step Z Z Z (AO.aT (l:=b1.blocks) Z Z Z Z kG Z (au.aA _) (cs 1 Z (AR.nil [0,2,6,8,28,29,30] Z ?_)))); refine AW.block (AW.row 4 38 (AW.settle [0,2,6,8,28,29,30] Z ?_)); refine AW.aat (fun x3 aY v2 v3 y1=>[(0,pP p1),(2,iP mW),(6,pP b6),(8,pP b8),(28,.list (au.aK b1.blocks)),(29,iP (b1.blocks.length:Int)),(30,iP x3)]) (fun x3 aY v2 v3 y1=>[.row v3 (au.aK aY.blocks).length 4 38,.box b8 [.str aY.kind,.str aY.name,.own v2 (List.map aM.cells aY.attrs),.own v3 (au.aK aY.blocks)],.row v2 (List.map aM.cells aY.attrs).length 11 48,.box b6 [.str ([]:Str),.str ([]:Str),.own (.slice none 0 0) [],.own (.slice none 0 0) []],.box p1 (eD y1)]) (fun b_ x3 aY v2 v3 y1=>gL bH bT b1 mW b_ x3 aY y1=some (r0,r1,YF)) BIG 0 (au.mk b1.kind b1.name x2 []) v1 (.slice none 0 0) x1 Z Z hf (fun _ _ _ _ _ hz=>bU hz) ?_; intro b_ x3 aY v2 v3 y1 hf; rw [gL] at hf; refine AW.sr (cs 1 Z (AR.nil [0,2,6,8,28,29,30,31] Z (AW.seq ?_))); refine AW.cond Z (fun h2=>?_) (fun h2=>?_)
 ·
  replace hf:=jC h2 hf; refine AW.skip (AW.seq (AW.block (AW.sr ?_))); refine B1 hf fun e1 h3 hf=>?_; refine AR.step Z Z Z (AO.aZ h3 Z Z (au.aA _) Z kG (au.aF _) Z (cs 1 Z (AR.step Z Z Z (AO.aC Z nK (fun b10=>(AR.bC Z Z (AO.bO (i:=0) Z Z Z mD Z Z Z Z Z ?_))))))); refine AR.nil [0,2,6,8,10,28,29,30] Z (AW.seq (AW.sr (cs 1 Z ?_))); refine AR.step Z Z Z (AO.aR (i:=0) Z Z Z M4 Z Z (cs 1 Z (AR.nil [0,2,6,8,10,28,29,30,36] Z (AW.cond Z (fun h4=>?_) (fun h4=>?_)))))
  ·
   replace hf:=jC h4 hf; refine AW.sr (cs 1 Z (AR.step Z Z Z (AO.aR (i:=0) Z Z Z mD Z Z (cs 1 Z ?_)))); obtain ⟨x4,x5,y2,h5,hf⟩:=jG hf; refine AR.step Z Z Z (AO.call Z _ Z Z abI (AC.one 5 Z (mV _ _ _ _ h5 ⟨_,Z,(cs 3 Z (AR.step Z Z Z (AO.aC Z nK (fun b11=>(AR.bC Z Z (AO.bO (i:=0) Z Z Z mD Z Z Z Z Z ?_))))))⟩))); refine cs 1 Z (AR.nil [0,2,6,8,11,12,28,29,30] Z (AW.seq (AW.sr ?_))); refine cs 2 Z (AR.nil [0,2,6,8,11,12,28,29,30,45] Z (AW.cond Z (fun h6=>?_) (fun h6=>?_)))
   ·
    replace hf:=jC h6 hf; refine AW.sr (AR.step Z Z Z (AO.build Z nK KA Z (cs 1 Z (AR.bC Z Z (AO.bO (i:=5) Z Z Z mD Z Z Z Z Z ?_))))); refine cs 1 Z (AR.nil [6,7] Z (AW.ret ?_)); cases hf; exact ⟨rfl,_,⟨_,_,rfl,⟨_,_,5,_,_,rfl,rfl,mD,rfl⟩,_,_,rfl,rfl,rfl⟩,_,(.cons _ (.cons _ (.cons _ (.cons _ (.cons _ (.cons _ (.cons_cons _ (List.nil_sublist _)))))))),h⟩
   ·
    replace hf:=jf h6 hf; refine AW.skip (AW.sr (cs 1 Z (AR.step Z Z Z (AO.aR (i:=3) Z Z Z xK Z Z ?_)))); refine AR.step rfl rfl rfl (AO.aR (i:=0) rfl rfl rfl mD rfl rfl (AR.step rfl rfl rfl (AO.bD (au.aK [x4]) rfl oG rfl rfl rfl (by first | rfl | simp only [List.map,au.aF,au.aK]) ?_)))
    refine B1 hf fun x6 h7 hf=>?_; refine AR.step Z Z Z (AO.eB (i:=2) (l:=aY.blocks) (m:=[x4]) h7 Z Z Z Z Z Z Z oG kG (au.aA _) (au.aA _) (au.aA _).symm (au.bB) (au.cells_one) (by decide) (fun v4 s1 hs1=>?_)); cases hs1; refine cs 1 Z (AR.bC Z Z (AO.bO (i:=3) Z Z Z xK Z Z Z Z Z (AR.nil [0,2,6,8,28,29,30] Z (AW.exit ?_)))); refine AW.region (cs 2 Z (AR.drop1 (AR.drop1 ?_))); refine AR.nil [0,2,6,8,28,29,30] Z ?_; exact ⟨(dG (x3 + 1)),(au.mk aY.kind aY.name aY.attrs x6),v2,v4,y2,Z,Z,Z,hf⟩
  ·
   replace hf:=jf h4 hf; refine AW.skip (AW.sr (cs 1 Z (AR.step Z Z Z (AO.aR (i:=0) Z Z Z mD Z Z ?_)))); refine cs 1 Z ?_; obtain ⟨x7,x8,y3,h8,hf⟩:=jG hf; refine AR.step Z Z Z (AO.call Z _ Z Z abH (AC.one 5 Z (qo _ _ _ _ h8 ⟨_,Z,(cs 3 Z (AR.step Z Z Z (AO.aC Z nK (fun b13=>(AR.bC Z Z (AO.bO (i:=0) Z Z Z mD Z Z Z Z Z ?_))))))⟩))); refine cs 1 Z (AR.nil [0,2,6,8,13,14,28,29,30] Z (AW.seq (AW.sr ?_))); refine cs 2 Z (AR.nil [0,2,6,8,13,14,28,29,30,62] Z (AW.cond Z (fun h9=>?_) (fun h9=>?_)))
   ·
    replace hf:=jC h9 hf; refine AW.sr (AR.step Z Z Z (AO.build Z nK KA Z (cs 1 Z (AR.bC Z Z (AO.bO (i:=5) Z Z Z mD Z Z Z Z Z ?_))))); refine cs 1 Z (AR.nil [6,7] Z (AW.ret ?_)); cases hf; exact ⟨rfl,_,⟨_,_,rfl,⟨_,_,5,_,_,rfl,rfl,mD,rfl⟩,_,_,rfl,rfl,rfl⟩,_,(.cons _ (.cons _ (.cons _ (.cons _ (.cons _ (.cons _ (.cons_cons _ (List.nil_sublist _)))))))),h⟩
   ·
    replace hf:=jf h9 hf; refine AW.skip (AW.seq (AW.sr (cs 1 Z ?_))); refine AR.step Z Z Z (AO.aR (i:=0) Z Z Z Ry Z Z (AR.step Z Z Z (AO.aT (l:=x7.attrs) Z Z Z Z qp Z Z (cs 1 Z (AR.nil [0,2,6,8,13,28,29,30,66,67,68] Z ?_))))); refine AW.block (AW.settle [0,2,6,8,13,28,29,30,66,67,68] Z ?_); refine AW.aau (fun x9 j6 v5 v6=>[(0,pP p1),(2,iP mW),(6,pP b6),(8,pP b8),(13,pP b13),(28,.list (au.aK b1.blocks)),(29,iP (b1.blocks.length:Int)),(30,iP x3),(66,.list (List.map aM.cells x7.attrs)),(67,iP (x7.attrs.length:Int)),(68,iP x9)]) (fun x9 j6 v5 v6=>[.box b13 (dR x7),.box b10 (dR e1),.row v6 (au.aK j6.blocks).length 4 38,.box b8 [.str j6.kind,.str j6.name,.own v5 (List.map aM.cells j6.attrs),.own v6 (au.aK j6.blocks)],.row v5 (List.map aM.cells j6.attrs).length 11 48,.box b6 [.str ([]:Str),.str ([]:Str),.own (.slice none 0 0) [],.own (.slice none 0 0) []],.box p1 (eD y3)]) (fun IZ x9 j6 v5 v6=>kT x3 x7 y3 (gL bH bT b1 mW b_) IZ x9 j6=some (r0,r1,YF)) BIG 0 aY v2 v3 Z Z hf (fun _ _ _ _ hz=>bU hz) ?_; intro IZ x9 j6 v5 v6 hf; rw [kT] at hf; refine AW.sr (cs 1 Z (AR.nil [0,2,6,8,13,28,29,30,66,67,68,69] Z (AW.seq ?_))); refine AW.cond Z (fun h10=>?_) (fun h10=>?_)
    ·
     replace hf:=jC h10 hf; refine AW.skip (AW.seq (AW.block (AW.sr ?_))); refine B1 hf fun e2 h11 hf=>?_; refine AR.step Z Z Z (AO.aZ h11 Z Z Z Z qp (aM.aF _) Z (cs 1 Z (AR.step Z Z Z (AO.aC Z MJ (fun b16=>(AR.bC Z Z (AO.bO (i:=0) Z Z Z YK Z Z Z Z Z ?_))))))); refine AR.nil [0,2,6,8,13,16,28,29,30,66,67,68] Z (AW.seq (AW.sr (AR.step Z Z Z (AO.aR (i:=4) Z Z Z mD Z Z ?_)))); refine cs 1 Z (AR.step Z Z Z (AO.aR (i:=0) Z Z Z M4 Z Z ?_)); obtain ⟨Kn,M0,h12,hf⟩:=bM hf; refine AR.step Z Z Z (AO.call Z _ Z Z abz (CR _ _ h12 (cs 3 Z (AR.step Z Z Z (AO.aC Z iO (fun b17=>(AR.bC Z Z (AO.bO (i:=0) Z Z Z gH Z Z Z Z Z ?_)))))))); refine cs 1 Z (AR.nil [0,2,6,8,13,16,18,28,29,30,66,67,68] Z (AW.sr (cs 1 Z ?_))); refine AR.nil [0,2,6,8,13,16,28,29,30,66,67,68,79] Z (AW.cond Z (fun l6=>?_) (fun l6=>?_))
     ·
      replace hf:=jC l6 hf; refine AW.sr (AR.step Z Z Z (AO.build Z nK KA Z (AR.bC Z Z (AO.bO (i:=7) Z Z Z mD Z Z Z Z Z (cs 1 Z ?_))))); refine AR.nil [6,7] Z (AW.ret ?_); cases hf; exact ⟨rfl,_,⟨_,_,rfl,⟨_,_,7,_,_,rfl,rfl,mD,rfl⟩,_,_,rfl,rfl,rfl⟩,_,(.cons _ (.cons _ (.cons _ (.cons _ (.cons _ (.cons _ (.cons _ (.cons _ (.cons_cons _ (List.nil_sublist _)))))))))),h⟩
     ·
      replace hf:=jf l6 hf; refine AW.skip (AW.region (cs 1 Z (AR.step Z Z Z (AO.aR (i:=5) Z Z Z Ry Z Z ?_)))); refine AR.step rfl rfl rfl (AO.aR (i:=1) rfl rfl rfl YK rfl rfl (AR.step rfl rfl rfl (AO.bD (List.map aM.cells [e2]) rfl xL rfl rfl rfl (by first | rfl | simp only [List.map,aM.aF]) ?_)))
      refine B1 hf fun Lb lH hf=>?_; refine AR.step Z Z Z (AO.eB (i:=6) (l:=j6.attrs) (m:=[e2]) lH Z Z Z Z Z Z Z xL qp Z Z Z (aM.bB) (aM.cells_one) (by decide) (fun v7 s2 hs2=>?_)); cases hs2; refine cs 1 Z (AR.bC Z Z (AO.bO (i:=5) Z Z Z Ry Z Z Z Z Z (AR.nil [0,2,6,8,13,28,29,30,66,67,68] Z (AW.region ?_)))); refine cs 2 Z (AR.drop1 (AR.drop1 (AR.nil [0,2,6,8,13,28,29,30,66,67,68] Z ?_))); exact ⟨(dG (x9 + 1)),(au.mk j6.kind j6.name Lb j6.blocks),v7,v6,Z,Z,Z,hf⟩
    ·
     replace hf:=jf h10 hf; refine AW.exit (AW.region (cs 1 Z (AR.step Z Z Z (AO.aR (i:=3) Z Z Z xK Z Z ?_)))); refine cs 1 Z (AR.step Z Z Z (AO.aR (i:=0) Z Z Z xK Z Z ?_)); refine B1 hf fun Rl rO hf=>?_; refine AR.step Z Z Z (AO.eB (i:=2) (l:=j6.blocks) (m:=x7.blocks) rO Z Z Z Z Z Z Z oG kG (au.aA _) (au.aA _) (au.aA _).symm (au.bB) (au.cells_one) (by decide) (fun v8 s3 hs3=>?_)); cases hs3; refine cs 1 Z (AR.bC Z Z (AO.bO (i:=3) Z Z Z xK Z Z Z Z Z (AR.nil [0,2,6,8,28,29,30] Z (AW.region ?_)))); refine cs 2 Z (AR.drop1 (AR.drop1 (AR.nil [0,2,6,8,28,29,30] Z ?_))); exact ⟨(dG (x3 + 1)),(au.mk j6.kind j6.name j6.attrs Rl),v5,v8,y3,Z,Z,Z,hf⟩
 ·
  replace hf:=jf h2 hf; refine AW.exit (AW.sr (AR.step Z Z Z (AO.aR (i:=1) Z Z Z mD Z Z (AR.bC Z Z (AO.bO (i:=3) Z Z Z mD Z Z Z Z Z ?_))))); refine cs 1 Z (AR.nil [6,7] Z (AW.ret ?_)); cases hf; exact ⟨rfl,_,⟨_,_,rfl,⟨_,_,3,_,_,rfl,rfl,mD,rfl⟩,_,_,rfl,rfl,rfl⟩,_,(.cons _ (.cons _ (.cons _ (.cons _ (.cons_cons _ (List.nil_sublist _)))))),h⟩
theorem zP (bH) (mV:nR bH) (bT) (qo:nA bT) (p1:Nat) (x1:aG) (Fj:au) (mW:Int) {r0:au} {r1:Int} {YF:aG} (hf:jE bH bT x1 Fj mW=some (r0,r1,YF)) {Q:cO→List aV→Prop} (h:Q (.ret (.tuple [.agg (dR r0),iP r1])) [.box p1 (eD YF)]):PC 55 [pP p1,.agg (dR Fj),iP mW] [.box p1 (eD x1)] Q:=by
 unfold jE at hf; refine BD 123 [.cell 6 38,.tmp 7] [0,1,2] Tryz.func55 Z Z Z Z Z (W 1 Z (AS Z (AO.aC Z nK (fun b6=>?_)))); refine B1 hf fun ER h1 hf=>Rr 19 [1,1,1,1] Z Z (CL Z (kI _ (fun z0=>iM z0 Fj) 88 [.ref (dR Fj)] aby (fun _ _ hz=>ze _ _ hz) h1 (U 3 Z (AS Z (AO.aT (l:=Fj.blocks) Z Z Z Z kG Z (au.aA _) (J 2 Z (C hf Z (fun h2 hf=>?_) fun h2 hf=>?_)))))))
 · cases hf; exact Wx 3 [0] rfl rfl ⟨rfl,_,⟨_,_,rfl,⟨_,_,0,_,_,rfl,rfl,mD,rfl⟩,_,_,rfl,rfl,rfl⟩,_,(.cons _ (.cons_cons _ (List.nil_sublist _))),h⟩
 refine V 3 Z (C hf Z (fun h3 hf=>?_) fun h3 hf=>?_)
 · cases hf; exact Wx 3 [0] rfl rfl ⟨rfl,_,⟨_,_,rfl,⟨_,_,0,_,_,rfl,rfl,mD,rfl⟩,_,_,rfl,rfl,rfl⟩,_,(.cons _ (.cons_cons _ (List.nil_sublist _))),h⟩
 refine V 3 Z (C hf Z (fun h4 hf=>?_) fun h4 hf=>?_)
 · cases hf; exact Wx 3 [0] rfl rfl ⟨rfl,_,⟨_,_,rfl,⟨_,_,0,_,_,rfl,rfl,mD,rfl⟩,_,_,rfl,rfl,rfl⟩,_,(.cons _ (.cons_cons _ (List.nil_sublist _))),h⟩
 refine V 3 Z (C hf Z (fun h5 hf=>?_) fun h5 hf=>?_)
 · cases hf; exact Wx 3 [0] rfl rfl ⟨rfl,_,⟨_,_,rfl,⟨_,_,0,_,_,rfl,rfl,mD,rfl⟩,_,_,rfl,rfl,rfl⟩,_,(.cons _ (.cons_cons _ (List.nil_sublist _))),h⟩
 refine W 3 Z (AS Z (AO.aT (l:=Fj.attrs) Z Z Z Z qp Z Z ?_)); refine J 1 Z (AW.row 7 54 (Rj (fun args1 v1 x2=>[(0,pP p1),(2,iP mW),(6,pP b6),(9,iP ER),(10,.own v1 (List.map aB.cells args1)),(54,.list (List.map aM.cells Fj.attrs)),(55,iP (Fj.attrs.length:Int)),(56,iP x2)]) (fun args1 v1 x2=>[.row v1 (List.map aB.cells args1).length 7 54,.box b6 [.str ([]:Str),.str ([]:Str),.own (.slice none 0 0) [],.own (.slice none 0 0) []],.box p1 [.list (List.map bq.cells x1.templates),.list (List.map aB.cells x1.env),iP (dG (x1.uses + 1))]]) (fun b_ args1 v1 x2=>jr bH x1 Fj mW ER b_ args1 x2=some (r0,r1,YF)) BIG [] (.slice none 0 0) 0 Z Z hf (fun _ _ _ hz=>bU hz) ?_)); intro b_ args1 v1 x2 hf; rw [jr] at hf; refine V 1 Z (C hf Z (fun h6 hf=>?_) fun h6 hf=>?_)
 ·
  refine B1 hf fun e1 h7 hf=>W 0 Z (AS Z (AO.aZ h7 Z Z Z Z qp (aM.aF _) Z (U 1 Z (AS Z (AO.aC Z MJ (fun b12=>(Rw 1 [0] Z Z (AW.R9 0 10 12 [_,_,_,_] [] mixed (by kernel_rfl) (by kernel_rfl) (by kernel_rfl) Z Z Z (List.Perm.refl _) ?_)))))))); refine Ev.nil ?_; show Ev _ _ _ _ _ _ _; refine Ev.cs bJ 1 Z (Ev.cons Z Z Z (AO.aR (i:=0) Z Z Z gH Z Z zg) (Ev.cs bJ 3 Z (Ev.cons Z Z Z (AO.aR (i:=3) Z Z Z abt Z Z zg) ?_))); obtain ⟨x3,e2,h8,hf⟩:=bM hf; refine Ev.cons Z Z Z (AO.call Z _ Z Z abx (Gn _ _ h8 zg)) (Ev.cs bJ 3 Z (Ev.nil (TF.step Z Z Z (AO.aC Z gK (fun b13=>?_))))); refine TF.bC Z Z (AO.bO (i:=0) Z Z Z kY Z Z Z Z Z (TF.nil ?_)); show AR _ _ _ _ _ _ _ _; refine J 3 Z (C hf Z (fun h9 hf=>?_) fun h9 hf=>?_)
  · cases hf; exact Wx 4 [2] rfl rfl ⟨rfl,_,⟨_,_,rfl,⟨_,_,2,_,_,rfl,rfl,mD,rfl⟩,_,_,rfl,rfl,rfl⟩,_,(.cons _ (.cons _ (.cons _ (.cons_cons _ (List.nil_sublist _))))),h⟩
  refine Wr 5 [0,4] rfl rfl (AS rfl (AO.bD (List.map aB.cells [(aB.mk e1.name x3)]) rfl CW rfl rfl rfl (by first | rfl | simp only [List.map,aB.aF]) ?_)); refine B1 hf fun args2 h10 hf=>AS Z (AO.eB (i:=1) (l:=args1) (m:=[(aB.mk e1.name x3)]) h10 Z Z Z Z Z Z Z CW tF Z Z Z (aB.bB) (aB.cells_one) (by decide) (fun v2 s1 hs1=>?_)); cases hs1; refine fZ 3 Z (AR.D9 4 Z (AR.D9 0 Z ?_)); exact N 0 Z ⟨args2,v2,(dG (x2 + 1)),Z,Z,Z,hf⟩
 refine B1 hf fun e3 h11 hf=>Wr 5 [2] Z Z (AS Z (AO.aZ h11 Z Z Z Z R8 (bq.aF _) Z ?_)); obtain ⟨dH,e4,h12,hf⟩:=bM hf; refine U 3 Z (CL Z (EC _ _ h12 (J 7 Z (C hf Z (fun l6 hf=>?_) fun l6 hf=>?_))))
 · cases hf; exact Wx 4 [1] rfl rfl ⟨rfl,_,⟨_,_,rfl,⟨_,_,1,_,_,rfl,rfl,mD,rfl⟩,_,_,rfl,rfl,rfl⟩,_,(.cons _ (.cons _ (.cons_cons _ (List.nil_sublist _)))),h⟩
 refine B1 hf fun e5 lH hf=>Wr 5 [2] Z Z (AS Z (AO.aZ lH Z Z Z Z R8 (bq.aF _) Z ?_)); obtain ⟨x4,e6,rO,hf⟩:=bM hf; refine U 3 Z (CL Z (Ea _ _ rO (U 3 Z (AS Z (AO.aC Z nK (fun b17=>(Rw 4 [0] Z Z (C hf Z (fun h16 hf=>?_) fun h16 hf=>?_))))))))
 · cases hf; exact Wx 4 [2] rfl rfl ⟨rfl,_,⟨_,_,rfl,⟨_,_,2,_,_,rfl,rfl,mD,rfl⟩,_,_,rfl,rfl,rfl⟩,_,(.cons _ (.cons _ (.cons _ (.cons_cons _ (List.nil_sublist _))))),h⟩
 replace hf:=(Dj _).trans hf; obtain ⟨x5,x6,y1,xM,hf⟩:=jG hf; refine Wr 4 [0] Z Z (CL Z (AC.one 3 Z (mV _ _ _ _ xM ⟨_,Z,?_⟩))); cases hf; exact Rx 4 [2] rfl rfl ⟨rfl,_,⟨_,_,rfl,⟨_,_,2,_,_,rfl,rfl,mD,rfl⟩,_,_,rfl,rfl,rfl⟩,_,(.cons _ (.cons _ (.cons _ (.cons_cons _ (List.nil_sublist _))))),h⟩
theorem sN :∀ k:Nat,(nR (eU k))∧(nA (dU k)):=by
 intro k
 induction k with
 | zero=>exact ⟨fun _ _ _ _ _ _ _ hz=>by first | cases hz | (unfold eU at hz; cases hz),fun _ _ _ _ _ _ _ hz=>by first | cases hz | (unfold dU at hz; cases hz)⟩
 | succ k ih=>exact ⟨fun kV LX qN kK bf pJ Kv hz  Q hq=>Aj (eU k) ih.1 (dU k) ih.2 kV LX qN kK hz hq,fun kV LX Ep kK bf pJ Kv hz  Q hq=>zP (eU k) ih.1 (dU k) ih.2 kV LX Ep kK hz hq⟩
theorem Bb (kV:Nat) (LX:aG) (qN:au) (kK:Int) {bf:au} {pJ:Int} {Kv:aG} (hf:o9 LX qN kK=some (bf,pJ,Kv)) {Q:cO→List aV→Prop} (h:Q (.ret (.tuple [.agg (dR bf),iP pJ])) [.box kV (eD Kv)]):PC 54 [pP kV,.agg (dR qN),iP kK] [.box kV (eD LX)] Q:=
 ((sN BIG).1) kV LX qN kK hf h
theorem z_ (kV:Nat) (LX:aG) (Ep:au) (kK:Int) {bf:au} {pJ:Int} {Kv:aG} (hf:uE LX Ep kK=some (bf,pJ,Kv)) {Q:cO→List aV→Prop} (h:Q (.ret (.tuple [.agg (dR bf),iP pJ])) [.box kV (eD Kv)]):PC 55 [pP kV,.agg (dR Ep),iP kK] [.box kV (eD LX)] Q:=
 ((sN BIG).2) kV LX Ep kK hf h
end
section
variable [xJ]
theorem J_ (f1:bX) (Bo:List bq) (mq:List aB) {r0:bX} {r1:Int} (hf:qP f1 Bo mq=some (r0,r1)) (h:Q (.ret (.tuple [.agg [.list (au.aK r0.blocks)],iP r1])) τ):PC 29 [.agg [.list (au.aK f1.blocks)],.list (List.map bq.cells Bo),.list (List.map aB.cells mq)] τ Q:=by
 unfold qP at hf; refine BN 92 [.cell 6 34,.tmp 7] [0,1,2] Tryz.func29 Z Z Z Z Z (W 1 Z (AS Z (AO.aC Z CS (fun b6=>?_)))); refine B1 hf fun e1 h1 hf=>U 2 Z (CL Z (Bh _ h1 (J 3 Z (C hf Z (fun h2 hf=>?_) fun h2 hf=>?_))))
 · cases hf; exact Wx 4 [0] Z Z (ZC [0] Z Z h)
 refine B1 hf fun e2 h3 hf=>W 1 Z (CL Z (Ee _ h3 (J 3 Z (C hf Z (fun h4 hf=>?_) fun h4 hf=>?_))))
 · cases hf; exact Wx 4 [0] Z Z (ZC [0] Z Z h)
 refine W 3 Z (AS Z (AO.G5 Z Z (fun b34=>(U 1 Z (AS Z (AO.aC Z CS (fun b11=>(U 2 Z (AS Z (AO.aT (l:=f1.blocks) Z Z Z Z kG Z (au.aA _) ?_)))))))))); refine J 1 Z (AW.row 4 38 (LK4 (fun x1 aY v1 y1=>[(6,pP b6),(10,pP b34),(11,pP b11),(36,.list (au.aK f1.blocks)),(37,iP (f1.blocks.length:Int)),(38,iP x1)]) (fun x1 aY v1 y1=>[.row v1 (au.aK aY.blocks).length 4 38,.box b11 [.own v1 (au.aK aY.blocks)],.box b34 (eD y1),.box b6 [.own (.slice none 0 0) []]]) (fun b_ x1 aY v1 y1=>lU f1 b_ x1 aY y1=some (r0,r1)) BIG 0 (bX.mk []) (.slice none 0 0) (aG.mk Bo mq 0) Z Z hf (fun _ _ _ _ hz=>bU hz) ?_)); intro b_ x1 aY v1 y1 hf; rw [lU] at hf; refine V 1 Z (C hf Z (fun h5 hf=>?_) fun h5 hf=>?_)
 ·
  refine B1 hf fun e3 h6 hf=>W 0 Z (AS Z (AO.aZ h6 Z Z (au.aA _) Z kG (au.aF _) Z (U 1 Z (AS Z (AO.aC Z nK (fun b13=>(Rw 4 [0,0] Z Z (C hf Z (fun h7 hf=>?_) fun h7 hf=>?_))))))))
  ·
   obtain ⟨x2,x3,y2,h8,hf⟩:=jG hf; refine Wr 2 [0] Z Z (CL Z (AC.one 3 Z (Bb _ _ _ _ h8 ⟨_,Z,(U 3 Z (AS Z (AO.aC Z nK (fun b14=>(Rw 4 [0] Z Z (C hf Z (fun h9 hf=>?_) fun h9 hf=>?_))))))⟩)))
   · cases hf; exact Wx 4 [5] Z Z (ZC [5] Z Z h)
   refine Wr 3 [3,0] rfl rfl (AS rfl (AO.bD (au.aK [x2]) rfl oG rfl rfl rfl (by first | rfl | simp only [List.map,au.aF,au.aK]) ?_)); refine B1 hf fun x4 h10 hf=>AS Z (AO.eB (i:=2) (l:=aY.blocks) (m:=[x2]) h10 Z Z Z Z Z Z Z oG kG (au.aA _) (au.aA _) (au.aA _).symm (au.bB) (au.cells_one) (by decide) (fun v2 s1 hs1=>?_)); cases hs1; refine Rn 4 [3] Z Z (AR.drop1 (AR.drop1 ?_)); exact N 0 Z ⟨(dG (x1 + 1)),(bX.mk x4),v2,y2,Z,Z,Z,hf⟩
  obtain ⟨x5,x6,y3,h11,hf⟩:=jG hf; refine Wr 2 [0] Z Z (CL Z (AC.one 3 Z (z_ _ _ _ _ h11 ⟨_,Z,(U 3 Z (AS Z (AO.aC Z nK (fun b16=>(Rw 5 [0] Z Z (C hf Z (fun h12 hf=>?_) fun h12 hf=>?_))))))⟩)))
  · cases hf; exact Wx 4 [5] Z Z (ZC [5] Z Z h)
  refine Wr 2 [0] Z Z (AS Z (AO.aT (l:=x5.attrs) Z Z Z Z qp Z Z (J 2 Z (C hf Z (fun l6 hf=>?_) fun l6 hf=>?_))))
  · cases hf; exact Wx 3 [5] Z Z (ZC [5] Z Z h)
  refine B1 hf fun x7 lH hf=>Wr 4 [3,0] Z Z (AS Z (AO.eB (i:=2) (l:=aY.blocks) (m:=x5.blocks) lH Z Z Z Z Z Z Z oG kG (au.aA _) (au.aA _) (au.aA _).symm (au.bB) (au.cells_one) (by decide) (fun v3 s2 hs2=>?_))); cases hs2; refine Rn 4 [3] Z Z (AR.drop1 (AR.drop1 ?_)); exact N 0 Z ⟨(dG (x1 + 1)),(bX.mk x7),v3,y3,Z,Z,Z,hf⟩
 refine B1 hf fun e4 rO hf=>Wr 1 [1] Z Z (CL Z (Bh _ rO (J 3 Z (C hf Z (fun h16 hf=>?_) fun h16 hf=>?_))))
 · cases hf; exact Wx 4 [3] Z Z (ZC [3] Z Z h)
 cases hf; exact Wx 3 [1,3] Z Z (ZC [3] Z Z h)
end
section
variable [xJ]
theorem xE (f1:bX) (mq:List aB) {r0:bX} {r1:Int} (hf:sQ f1 mq=some (r0,r1)) (h:Q (.ret (.tuple [.agg [.list (au.aK r0.blocks)],iP r1])) τ):PC 12 [.agg [.list (au.aK f1.blocks)],.list (List.map aB.cells mq)] τ Q:=by
 unfold sQ at hf; refine BN 25 [.cell 4 34,.tmp 5] [0,1] Tryz.func12 Z Z Z Z Z (W 1 Z (AS Z (AO.aC Z CS (fun b4=>?_)))); obtain ⟨Bo,x1,e1,h1,hf⟩:=jG hf; refine U 2 Z (CL Z (Jb _ h1 (U 4 Z (AS Z (AO.aC Z CS (fun b7=>(Rw 5 [0] Z Z (C hf Z (fun h2 hf=>?_) fun h2 hf=>?_))))))))
 · cases hf; exact Wx 4 [1] Z Z (ZC [1] Z Z h)
 replace hf:=(G6 _).trans hf; obtain ⟨x2,x3,h3,hf⟩:=bM hf; refine Wr 3 [0] Z Z (CL Z (J_ _ _ _ h3 ?_)); cases hf; exact Rx 4 [1] Z Z (ZC [1] Z Z h)
end
theorem CQ (v1:ah) {r0:aj} (hf:yY v1=some r0) (h:Q (.ret (.agg (bE r0))) τ):PC 15 [.agg (aL v1)] τ Q:=by
 unfold yY at hf; refine BN 5 [.cell 2 45] [0] Tryz.func15 Z Z Z Z Z (W 1 Z (AS Z (AO.aC Z iO (fun b2=>?_)))); cases hf; exact Rx 3 [0] Z Z (ZC [0] Z Z h)
theorem Ot (s1:Str) {r0:aj} (hf:JN s1=some r0) (h:Q (.ret (.agg (bE r0))) τ):PC 14 [.str s1] τ Q:=by
 unfold JN at hf; refine BN 6 [.cell 2 45] [0] Tryz.func14 Z Z Z Z Z (W 0 Z (AS Z (AO.aC Z iO (fun b2=>?_)))); refine BR hf fun x1 h1 hf=>?_; refine U 2 Z (CL Z (CQ _ h1 ?_)); cases hf; exact Rx 1 [0] Z Z (ZC [0] Z Z h)
theorem Vh (e1:aj) {r0:aj} (hf:QG e1=some r0) (h:Q (.ret (.agg (bE r0))) τ):PC 34 [.agg (bE e1)] τ Q:=by
 unfold QG at hf; refine BN 8 [.cell 2 45] [0] Tryz.func34 Z Z Z Z Z (W 1 Z (AS Z (AO.aC Z iO (fun b2=>(J 0 Z (AW.draw 5 mixed (by kernel_rfl) Z ?_)))))); refine Ev.cs bJ 1 Z (Ev.cons Z Z Z (AO.build Z gK Qr Z zg) ?_); refine B1 hf fun x1 h1 hf=>Ev.cons rfl rfl rfl (AO.call rfl _ rfl rfl abR (CQ _ h1 ⟨rfl,rfl⟩)) (Ev.cons rfl rfl rfl (AO.bD (aj.aK [e1,x1]) rfl uU rfl rfl rfl (by first | rfl | simp only [List.map,aj.aF,aj.aK]) ⟨rfl,rfl⟩) ?_)
 refine Ev.cons Z Z Z (AO.build Z iO Ck Z zg) (Ev.nil ?_); show AR _ _ _ _ _ _ _ _; cases hf; exact Rx 1 [0] Z Z (ZC [0] Z Z h)
end Go.Proofs.YtcohpegjnpcgcaaGreatDoor
