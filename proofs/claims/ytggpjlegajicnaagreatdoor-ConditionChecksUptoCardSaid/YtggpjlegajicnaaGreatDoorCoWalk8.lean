/- Proved here: each function does what its functional text says (part 8). -/
import Derived.Test.YtggpjlegajicnaaGreatDoorCoWalk3
import Derived.Test.YtggpjlegajicnaaGreatDoorCoWalk4
import Derived.Test.YtggpjlegajicnaaGreatDoorCoWalk5
import Derived.Test.YtggpjlegajicnaaGreatDoorCoWalk6
import Derived.Test.YtggpjlegajicnaaGreatDoorCoPre1
import Derived.Test.YtggpjlegajicnaaGreatDoorCoPre2
import Derived.Test.YtggpjlegajicnaaGreatDoorCoFt1
import Derived.Test.YtggpjlegajicnaaGreatDoorCoFt2
import Derived.Test.YtggpjlegajicnaaGreatDoorCoFt3
import Derived.Test.YtggpjlegajicnaaGreatDoorCoFt7
import Derived.Test.YtggpjlegajicnaaGreatDoorProg
import Derived.KernelRfl
set_option linter.unusedVariables false
set_option linter.unusedSimpArgs false
set_option linter.unusedSectionVars false
namespace Go.Proofs.YtggpjlegajicnaaGreatDoor
open Go Go.Abs Go.Ft
set_option maxRecDepth 20000
attribute [local irreducible] AO AR AW AC
variable [gX]
variable {τ : List bJ} {Q : eT → List bJ → Prop}
theorem qQ (fE:Int) {r0:ak} (hf:kH fE=some r0) (h:Q (.ret (.agg (aW r0))) τ):PC 40 [iP fE] τ Q:=by
 unfold kH at hf; refine BN 5 [.cell 2 54] [0] Tryz.func40 Z Z Z Z Z (W 0 Z (AS Z (AO.aF Z jk (fun b2=>?_)))); cases hf; exact Rx 3 [0] Z Z (ZC [0] Z Z h)

theorem TH (bG:List aH) {r0:List aH} (hf:CX bG=some r0) (h:Q (.ret (.list (List.map aH.cells r0))) τ):PC 23 [.list (List.map aH.cells bG)] τ Q:=by
 unfold CX at hf; refine BN 20 [.tmp 2] [0] Tryz.func23 Z Z Z Z Z (W 0 Z (AS Z (AO.mh Z Z ?_))); refine B1 hf fun x1 h1 hf=>U 0 rfl (CL rfl (qQ _ h1 (AS rfl (AO.aF rfl jk (fun b3=>(Rr 11 [0,0,0,0,0,0] rfl rfl (AS rfl (AO.qo (List.map aH.cells [(aH.mk ([97,108,119,97,121,115]:Str) x1),(aH.mk ([99,97,110,99,101,108,108,101,100]:Str) x1),(aH.mk ([102,97,105,108,117,114,101]:Str) x1),(aH.mk ([115,107,105,112,112,101,100]:Str) x1),(aH.mk ([115,117,99,99,101,115,115]:Str) x1)]) rfl Qy rfl rfl rfl rfl (by first | rfl | simp only [List.map,aH.aD]) (fun v1=>?_)))))))))
 refine BR hf fun x2 h2 hf=>?_; refine U 3 Z (AS Z (AO.fK (i:=0) (l:=[(aH.mk ([97,108,119,97,121,115]:Str) x1),(aH.mk ([99,97,110,99,101,108,108,101,100]:Str) x1),(aH.mk ([102,97,105,108,117,114,101]:Str) x1),(aH.mk ([115,107,105,112,112,101,100]:Str) x1),(aH.mk ([115,117,99,99,101,115,115]:Str) x1)]) (m:=bG) h2 Z Z Z Z Z Z Z Qy Bb Z Z Z (aH.dD) (aH.cells_one) (by decide) (fun v2 s1 hs1=>?_))); cases hs1; cases hf; exact N 1 Z (Y Z h)

theorem TN (fE:Int) {r0:Bool} (hf:Df fE=some r0) (h:Q (.ret (.bool r0)) τ):PC 104 [iP fE] τ Q:=by
 unfold Df at hf; refine BN 9 [.tmp 2] [0] Tryz.func104 Z Z Z Z Z (W 4 Z (On 3 5 8 [] (fE == 6) Z Z Z Z ?_)); cases hf; exact N 1 Z (Y Z h)


abbrev Ua (zh:ak→Int→Option Int):Prop:=∀ (z_:ak) (gu:Int) {aR:Int},zh z_ gu=some aR→∀ {τ:List bJ} {Q:eT→List bJ→Prop} (h:Q (.ret (iP aR)) τ),PC 150 [.agg (aW z_),iP gu] τ Q
theorem abN (zh) (X_:Ua zh) (t1:ak) (bV:Int) {r0:Int} (hf:Iy zh t1 bV=some r0) (h:Q (.ret (iP r0)) τ):PC 150 [.agg (aW t1),iP bV] τ Q:=by
 unfold Iy at hf; refine BN 34 [.tmp 4] [0,1] Tryz.func150 Z Z Z Z Z (V 4 Z (C hf Z (fun h1 hf=>?_) fun h1 hf=>?_))
 · cases hf; exact M 1 Z (Y Z h)
 refine W 4 Z (On 4 10 14 [1,2] (decide (7 < t1.kind)) Z Z Z Z (J 0 Z (C hf Z (fun h3 hf=>?_) fun h3 hf=>?_)))
 · cases hf; exact M 1 Z (Y Z h)
 refine B1 hf fun x1 h4 hf=>W 2 Z (CL Z (TN _ h4 (J 1 Z (C hf Z (fun h5 hf=>?_) fun h5 hf=>?_))))
 ·
  refine W 2 Z (AS Z (AO.aP (l:=t1.elem) Z Z Z Z fZ Z (ak.aB _) (J 1 Z (C hf Z (fun h6 hf=>?_) fun h6 hf=>?_))))
  · cases hf; exact M 1 Z (Y Z h)
  cases hf; exact M 1 Z (Y Z h)
 refine W 2 Z (AS Z (AO.aP (l:=t1.elem) Z Z Z Z fZ Z (ak.aB _) (J 1 Z (C hf Z (fun h7 hf=>?_) fun h7 hf=>?_))))
 · cases hf; exact M 1 Z (Y Z h)
 refine B1 hf fun e1 h8 hf=>W 2 Z (AS Z (AO.aI h8 Z Z (ak.aB _) Z fZ (ak.aD _) Z ?_)); refine BR hf fun x2 h9 hf=>?_; refine U 3 Z (CL Z (X_ _ _ h9 ?_)); cases hf; exact N 1 Z (Y Z h)
theorem acR :∀ k:Nat,(Ua (xw k)):=by
 intro k
 induction k with
 | zero=>exact fun _ _ _ hz=>by first | cases hz | (unfold xw at hz; cases hz)
 | succ k ih=>exact fun z_ gu aR hz τ Q hq=>abN (xw k) ih z_ gu hz hq
theorem adG (z_:ak) (gu:Int) {aR:Int} (hf:Ze z_ gu=some aR) (h:Q (.ret (iP aR)) τ):PC 150 [.agg (aW z_),iP gu] τ Q:=
 ((acR BIG)) z_ gu hf h

theorem I5 (t1:ak) {r0:Int} (hf:yL t1=some r0) (h:Q (.ret (iP r0)) τ):PC 97 [.agg (aW t1)] τ Q:=by
 unfold yL at hf; refine BN 5 [.tmp 2] [0] Tryz.func97 Z Z Z Z Z ?_; refine BR hf fun x1 h1 hf=>?_; refine W 3 Z (CL Z (adG _ _ h1 ?_)); cases hf; exact N 1 Z (Y Z h)

theorem ahS (cB:List aH) {r0:Int} (hf:QH cB=some r0) (h:Q (.ret (iP r0)) τ):PC 60 [.list (List.map aH.cells cB)] τ Q:=by
 unfold QH at hf; refine BN 47 [.tmp 2] [0] Tryz.func60 Z Z Z Z Z (W 2 Z (AS Z (AO.aP (l:=cB) Z Z Z Z Bb Z Z (J 1 Z (C hf Z (fun h1 hf=>?_) fun h1 hf=>?_)))))
 · cases hf; exact M 1 Z (Y Z h)
 refine V 1 Z (Gh (fun i1=>[(0,.list (List.map aH.cells cB)),(3,iP i1)]) (fun i1=>[]) (fun bT i1=>xu cB bT i1=some r0) BIG 0 Z Z hf (fun _ hz=>bQ hz) ?_); intro bT i1 hf; rw [xu] at hf; refine W 2 Z (AS Z (AO.aP (l:=cB) Z Z Z Z Bb Z Z (J 1 Z (C hf Z (fun h2 hf=>?_) fun h2 hf=>?_))))
 ·
  refine B1 hf fun e1 h3 hf=>W 2 Z (AS Z (AO.aI h3 Z Z Z Z Bb (aH.aD _) Z ?_)); refine B1 hf fun x1 h4 hf=>U 2 Z (CL Z (EH _ h4 (J 1 Z (C hf Z (fun h5 hf=>?_) fun h5 hf=>?_))))
  · cases hf; exact M 1 Z (Y Z h)
  refine B1 hf fun e2 h6 hf=>W 2 Z (AS Z (AO.aI h6 Z Z Z Z Bb (aH.aD _) Z ?_)); refine B1 hf fun e3 h7 hf=>U 2 Z (CL Z (I5 _ h7 (J 3 Z (C hf Z (fun h8 hf=>?_) fun h8 hf=>?_))))
  · cases hf; exact M 2 Z (Y Z h)
  refine V 1 Z (Gh (fun rV=>[(0,.list (List.map aH.cells cB)),(3,iP i1),(5,iP rV)]) (fun rV=>[]) (fun KQ rV=>Da cB i1 (xu cB bT) KQ rV=some r0) BIG 0 Z Z hf (fun _ hz=>bQ hz) ?_); intro KQ rV hf; rw [Da] at hf; refine V 3 Z (C hf Z (fun h9 hf=>?_) fun h9 hf=>?_)
  ·
   refine V 0 Z (AW.draw 11 mixed (by kernel_rfl) Z ?_); refine Ev.cs aG 2 Z ?_; refine B1 hf fun e4 h10 hf=>Ev.cons Z Z Z (AO.aI h10 Z Z Z Z Bb (aH.aD _) Z zg) (Ev.cs aG 4 Z ?_); refine B1 hf fun e5 h11 hf=>Ev.cons Z Z Z (AO.aI h11 Z Z Z Z Bb (aH.aD _) Z zg) (Ev.cs aG 3 Z (Ev.nil ?_)); show AR _ _ _ _ _ _ _ _
   refine J 0 Z (C hf Z (fun h12 hf=>?_) fun h12 hf=>?_)
   · cases hf; exact M 1 Z (Y Z h)
   exact M 3 Z ⟨(bZ (rV + 1)),Z,Z,Z,hf⟩
  exact M 3 Z ⟨(bZ (i1 + 1)),Z,Z,Z,hf⟩
 cases hf; exact M 1 Z (Y Z h)

theorem uj (fE:Int) (t1:ak) {r0:ak} (hf:kP fE t1=some r0) (h:Q (.ret (.agg (aW r0))) τ):PC 65 [iP fE,.agg (aW t1)] τ Q:=by
 unfold kP at hf; refine BN 9 [.cell 4 54] [0,1] Tryz.func65 rfl rfl rfl rfl rfl (W 1 rfl (AS rfl (AO.aF rfl jk (fun b4=>(U 2 rfl (AS rfl (AO.aS (ak.aU [t1]) rfl uZ rfl rfl rfl (by first | rfl | simp only [List.map,ak.aD,ak.aU]) ?_))))))); cases hf; exact Rx 2 [0] Z Z (ZC [0] Z Z h)


abbrev XB (A8:ak→ak→Option ak):Prop:=∀ (sF:ak) (sD:ak) {aR:ak},A8 sF sD=some aR→∀ {τ:List bJ} {Q:eT→List bJ→Prop} (h:Q (.ret (.agg (aW aR))) τ),PC 64 [.agg (aW sF),.agg (aW sD)] τ Q
theorem aee (A8) (aaW:XB A8) (a1:ak) (b1:ak) {r0:ak} (hf:Ai A8 a1 b1=some r0) (h:Q (.ret (.agg (aW r0))) τ):PC 64 [.agg (aW a1),.agg (aW b1)] τ Q:=by
 unfold Ai at hf; refine BN 35 [.cell 4 54] [0,1] Tryz.func64 Z Z Z Z Z (W 2 Z (AS Z (AO.aF Z jk (fun b4=>(J 3 Z (C hf Z (fun h1 hf=>?_) fun h1 hf=>?_))))))
 · cases hf; exact Wx 2 [0] Z Z (ZC [0] Z Z h)
 refine V 3 Z (C hf Z (fun h2 hf=>?_) fun h2 hf=>?_)
 · cases hf; exact Wx 2 [0] Z Z (ZC [0] Z Z h)
 refine V 5 Z (C hf Z (fun h3 hf=>?_) fun h3 hf=>?_)
 · refine BR hf fun x1 h4 hf=>?_; refine W 0 Z (CL Z (qQ _ h4 ?_)); cases hf; exact Rx 1 [0] Z Z (ZC [0] Z Z h)
 refine B1 hf fun x2 h5 hf=>W 2 Z (CL Z (TN _ h5 (J 0 Z (C hf Z (fun h6 hf=>?_) fun h6 hf=>?_))))
 ·
  refine V 0 Z (AW.draw 12 mixed (by kernel_rfl) Z ?_); refine Ev.cs aG 4 Z ?_; refine B1 hf fun e1 h7 hf=>Ev.cons Z Z Z (AO.aI h7 Z Z (ak.aB _) Z fZ (ak.aD _) Z zg) (Ev.cs aG 3 Z ?_); refine B1 hf fun e2 h8 hf=>Ev.cons Z Z Z (AO.aI h8 Z Z (ak.aB _) Z fZ (ak.aD _) Z zg) (Ev.cs aG 1 Z ?_); refine B1 hf fun x3 h9 hf=>Ev.cons Z Z Z (AO.call Z _ Z Z amI (aaW _ _ h9 zg)) ?_; refine BR hf fun x4 h10 hf=>?_
  refine Ev.cons Z Z Z (AO.call Z _ Z Z acE (uj _ _ h10 zg)) (Ev.nil ?_); show AR _ _ _ _ _ _ _ _
  cases hf; exact Rx 1 [0] Z Z (ZC [0] Z Z h)
 cases hf; exact Wx 2 [0] Z Z (ZC [0] Z Z h)
theorem aeQ :∀ k:Nat,(XB (tZ k)):=by
 intro k
 induction k with
 | zero=>exact fun _ _ _ hz=>by first | cases hz | (unfold tZ at hz; cases hz)
 | succ k ih=>exact fun sF sD aR hz τ Q hq=>aee (tZ k) ih sF sD hz hq
theorem WY (sF:ak) (sD:ak) {aR:ak} (hf:MN sF sD=some aR) (h:Q (.ret (.agg (aW aR))) τ):PC 64 [.agg (aW sF),.agg (aW sD)] τ Q:=
 ((aeQ BIG)) sF sD hf h


abbrev adZ (wo:ah→Option ak):Prop:=∀ (qg:ah) {aR:ak},wo qg=some aR→∀ {τ:List bJ} {Q:eT→List bJ→Prop} (h:Q (.ret (.agg (aW aR))) τ),PC 41 [.agg (aK qg)] τ Q
theorem ail (wo) (ae2:adZ wo) (v1:ah) {r0:ak} (hf:QI wo v1=some r0) (h:Q (.ret (.agg (aW r0))) τ):PC 41 [.agg (aK v1)] τ Q:=by
 unfold QI at hf; refine BN 42 [.cell 2 54] [0] Tryz.func41 Z Z Z Z Z (W 1 Z (AS Z (AO.aF Z jk (fun b2=>(J 4 Z (C hf Z (fun h1 hf=>?_) fun h1 hf=>?_))))))
 · refine BR hf fun x1 h2 hf=>?_; refine W 0 Z (CL Z (qQ _ h2 ?_)); cases hf; exact Rx 1 [0] Z Z (ZC [0] Z Z h)
 refine V 2 Z (C hf Z (fun h3 hf=>?_) fun h3 hf=>?_)
 · refine BR hf fun x2 h4 hf=>?_; refine W 0 Z (CL Z (qQ _ h4 ?_)); cases hf; exact Rx 1 [0] Z Z (ZC [0] Z Z h)
 refine V 2 Z (C hf Z (fun h5 hf=>?_) fun h5 hf=>?_)
 · refine BR hf fun x3 h6 hf=>?_; refine W 0 Z (CL Z (qQ _ h6 ?_)); cases hf; exact Rx 1 [0] Z Z (ZC [0] Z Z h)
 refine V 2 Z (C hf Z (fun h7 hf=>?_) fun h7 hf=>?_)
 · refine BR hf fun x4 h8 hf=>?_; refine W 0 Z (CL Z (qQ _ h8 ?_)); cases hf; exact Rx 1 [0] Z Z (ZC [0] Z Z h)
 refine B1 hf fun x5 h9 hf=>W 0 Z (CL Z (qQ _ h9 (AS Z (AO.aF Z jk (fun b3=>(Rw 2 [0] Z Z (Xy (fun i1 t1=>[(1,.ref (aK v1)),(2,pP b2),(3,pP b3),(4,iP i1)]) (fun i1 t1=>[.box b3 (aW t1),.box b2 [iP 0,.own (.slice none 0 0) []]]) (fun bT i1 t1=>JK wo v1 bT i1 t1=some r0) BIG 0 x5 Z Z hf (fun _ _ hz=>bQ hz) ?_))))))); intro bT i1 t1 hf; rw [JK] at hf
 refine W 3 Z (AS Z (AO.aP (l:=v1.aO) Z Z Z Z dX Z (ah.aB _) (J 1 Z (C hf Z (fun h10 hf=>?_) fun h10 hf=>?_))))
 ·
  refine V 0 Z (AW.draw 8 mixed (by kernel_rfl) Z ?_); refine Ev.cons Z Z Z (AO.aY (i:=0) Z Z Z bI Z Z zg) (Ev.cs aG 3 Z ?_); refine B1 hf fun e1 h11 hf=>Ev.cons Z Z Z (AO.aI h11 Z Z (ah.aB _) Z dX (ah.aD _) Z zg) (Ev.cs aG 1 Z ?_); refine B1 hf fun x6 h12 hf=>Ev.cons Z Z Z (AO.call Z _ Z Z apT (ae2 _ h12 zg)) ?_; refine B1 hf fun x7 jJ hf=>Ev.cons Z Z Z (AO.call Z _ Z Z amI (WY _ _ jJ zg)) (Ev.nil ?_); show AR _ _ _ _ _ _ _ _
  exact Rx 4 [0] Z Z ⟨(bZ (i1 + 1)),x7,Z,Z,Z,hf⟩
 refine V 3 Z (C hf Z (fun j5 hf=>?_) fun j5 hf=>?_)
 · refine BR hf fun x8 mo hf=>?_; refine Wr 1 [0] Z Z (CL Z (uj _ _ mo ?_)); cases hf; exact Rx 1 [1] Z Z (ZC [1] Z Z h)
 refine BR hf fun x9 h16 hf=>?_; refine Wr 1 [0] Z Z (CL Z (uj _ _ h16 ?_)); cases hf; exact Rx 1 [1] Z Z (ZC [1] Z Z h)
theorem ajK :∀ k:Nat,(adZ (Bz k)):=by
 intro k
 induction k with
 | zero=>exact fun _ _ hz=>by first | cases hz | (unfold Bz at hz; cases hz)
 | succ k ih=>exact fun qg aR hz τ Q hq=>ail (Bz k) ih qg hz hq
theorem akr (qg:ah) {aR:ak} (hf:aeB qg=some aR) (h:Q (.ret (.agg (aW aR))) τ):PC 41 [.agg (aK qg)] τ Q:=
 ((ajK BIG)) qg hf h

theorem adH (v1:ah) {r0:ak} (hf:MO v1=some r0) (h:Q (.ret (.agg (aW r0))) τ):PC 21 [.agg (aK v1)] τ Q:=by
 unfold MO at hf; refine BN 9 [.cell 2 54] [0] Tryz.func21 Z Z Z Z Z (W 1 Z (AS Z (AO.aF Z jk (fun b2=>?_)))); refine B1 hf fun x1 h1 hf=>U 1 Z (CL Z (EI _ h1 (J 1 Z (C hf Z (fun h2 hf=>?_) fun h2 hf=>?_))))
 · refine BR hf fun x2 h3 hf=>?_; refine W 0 Z (CL Z (qQ _ h3 ?_)); cases hf; exact Rx 1 [0] Z Z (ZC [0] Z Z h)
 refine BR hf fun x3 h4 hf=>?_; refine W 1 Z (CL Z (akr _ h4 ?_)); cases hf; exact Rx 1 [0] Z Z (ZC [0] Z Z h)

theorem afm (e1:aj) (cB:List aH) {r0:ak} {r1:Int} (hf:Br e1 cB=some (r0,r1)) (h:Q (.ret (.tuple [.agg (aW r0),iP r1])) τ):PC 98 [.agg (bA e1),.list (List.map aH.cells cB)] τ Q:=by
 unfold Br at hf; refine BN 33 [.cell 4 54,.tmp 5] [0,1] Tryz.func98 Z Z Z Z Z (W 1 Z (AS Z (AO.aF Z jk (fun b4=>(J 4 Z (C hf Z (fun h1 hf=>?_) fun h1 hf=>?_))))))
 · refine B1 hf fun x1 h2 hf=>W 2 Z (CL Z (adH _ h2 ?_)); cases hf; exact Rx 2 [0] Z Z (ZC [0] Z Z h)
 refine V 1 Z (Gh (fun i1=>[(1,.list (List.map aH.cells cB)),(2,.ref (bA e1)),(4,pP b4),(6,iP i1)]) (fun i1=>[.box b4 [iP 0,.own (.slice none 0 0) []]]) (fun bT i1=>AB e1 cB bT i1=some (r0,r1)) BIG 0 Z Z hf (fun _ hz=>bQ hz) ?_); intro bT i1 hf; rw [AB] at hf; refine W 2 Z (AS Z (AO.aP (l:=cB) Z Z Z Z Bb Z Z (J 1 Z (C hf Z (fun h3 hf=>?_) fun h3 hf=>?_))))
 ·
  refine V 0 Z (AW.draw 8 mixed (by kernel_rfl) Z ?_); refine Ev.cs aG 2 Z ?_; refine B1 hf fun e2 h4 hf=>Ev.cons Z Z Z (AO.aI h4 Z Z Z Z Bb (aH.aD _) Z zg) (Ev.cs aG 5 Z (Ev.nil ?_)); show AR _ _ _ _ _ _ _ _
  refine J 0 Z (C hf Z (fun h5 hf=>?_) fun h5 hf=>?_)
  · refine B1 hf fun e3 h6 hf=>W 2 Z (AS Z (AO.aI h6 Z Z Z Z Bb (aH.aD _) Z ?_)); cases hf; exact Rx 4 [0] Z Z (ZC [0] Z Z h)
  exact M 3 Z ⟨(bZ (i1 + 1)),Z,Z,Z,hf⟩
 cases hf; exact Wx 3 [0] Z Z (ZC [0] Z Z h)

theorem kM (t1:ak) {r0:Bool} (hf:iI t1=some r0) (h:Q (.ret (.bool r0)) τ):PC 151 [.agg (aW t1)] τ Q:=by
 unfold iI at hf; refine BN 11 [.tmp 2] [0] Tryz.func151 Z Z Z Z Z (W 6 Z (On 4 6 10 [] (t1.kind == 7) Z Z Z Z ?_)); cases hf; exact N 1 Z (Y Z h)

theorem iU (fE:Int) {r0:ak} (hf:gL fE=some r0) (h:Q (.ret (.agg (aW r0))) τ):PC 154 [iP fE] τ Q:=by
 unfold gL at hf; refine BN 5 [.cell 2 54] [0] Tryz.func154 Z Z Z Z Z (W 0 Z (AS Z (AO.aF Z jk (fun b2=>?_)))); refine BR hf fun x1 h1 hf=>?_; refine U 1 Z (CL Z (qQ _ h1 ?_)); cases hf; exact Rx 1 [0] Z Z (ZC [0] Z Z h)


abbrev Ki (pX:ak→ak→Option Bool):Prop:=∀ (z_:ak) (Uf:ak) {aR:Bool},pX z_ Uf=some aR→∀ {τ:List bJ} {Q:eT→List bJ→Prop} (h:Q (.ret (.bool aR)) τ),PC 208 [.agg (aW z_),.agg (aW Uf)] τ Q
theorem RU (pX) (PL:Ki pX) (t1:ak) (u1:ak) {r0:Bool} (hf:oH pX t1 u1=some r0) (h:Q (.ret (.bool r0)) τ):PC 208 [.agg (aW t1),.agg (aW u1)] τ Q:=by
 unfold oH at hf; refine BN 32 [.tmp 4] [0,1] Tryz.func208 Z Z Z Z Z ?_; refine B1 hf fun x1 h1 hf=>W 4 Z (CL Z (kM _ h1 (U 1 Z (On 4 7 11 [2,3] (u1.kind == 0) Z Z Z Z (J 0 Z (C hf Z (fun h3 hf=>?_) fun h3 hf=>?_))))))
 · cases hf; exact M 1 Z (Y Z h)
 refine V 5 Z (C hf Z (fun h4 hf=>?_) fun h4 hf=>?_)
 · cases hf; exact M 1 Z (Y Z h)
 refine V 0 Z (AW.draw 16 mixed (by kernel_rfl) Z ?_); refine Ev.cs aG 2 Z (Ev.cons Z Z Z (AO.aP (l:=t1.elem) Z Z Z Z fZ Z (ak.aB _) zg) (Ev.cs aG 2 Z ?_)); refine BR hf fun b1 h6 hf=>?_; refine Ev.dB hKA 10 21 31 false [] (.bool b1) Z Z (fun h5=>?_) (fun h5=>?_) ?_
 ·
  replace h6:=cZ h5 h6; refine Ev.is uq 21 h5 Z (Ev.cs aG 2 Z ?_); refine B1 h6 fun e1 h7 h6=>Ev.run Z Z Z Z Z Z Z (AO.aI h7 Z Z (ak.aB _) Z fZ (ak.aD _) Z zg) (Ev.cs aG 3 Z ?_); refine B1 h6 fun e2 h8 h6=>Ev.run Z Z Z Z Z Z Z (AO.aI h8 Z Z (ak.aB _) Z fZ (ak.aD _) Z zg) (Ev.cs aG 1 Z ?_); refine BR h6 fun x2 h9 h6=>?_; refine Ev.run Z Z Z Z Z Z Z (AO.call Z _ Z Z MV (PL _ _ h9 zg)) ?_; cases h6
  refine Ev.cs aG 1 Z ?_; exact Ev.nil (Less.settle (ps:=[31]) Z)
 · replace h6:=cO h5 h6; refine Ev.is uq 21 h5 Z ?_; cases h6; refine Ev.cs aG 10 Z ?_; exact Ev.nil (Less.settle (ps:=[31]) Z)
 refine Ev.cs aG 1 Z (Ev.nil ?_); show AR _ _ _ _ _ _ _ _
 cases hf; exact N 0 Z (Y Z h)
theorem Si :∀ k:Nat,(Ki (kG k)):=by
 intro k
 induction k with
 | zero=>exact fun _ _ _ hz=>by first | cases hz | (unfold kG at hz; cases hz)
 | succ k ih=>exact fun z_ Uf aR hz τ Q hq=>RU (kG k) ih z_ Uf hz hq
theorem oO (z_:ak) (Uf:ak) {aR:Bool} (hf:fV z_ Uf=some aR) (h:Q (.ret (.bool aR)) τ):PC 208 [.agg (aW z_),.agg (aW Uf)] τ Q:=
 ((Si BIG)) z_ Uf hf h

theorem jW (t1:ak) (fE:Int) {r0:Bool} (hf:ig t1 fE=some r0) (h:Q (.ret (.bool r0)) τ):PC 155 [.agg (aW t1),iP fE] τ Q:=by
 unfold ig at hf; refine BN 9 [.tmp 4] [0,1] Tryz.func155 Z Z Z Z Z (V 2 Z (AW.draw 5 mixed (by kernel_rfl) Z ?_)); refine Ev.cs aG 2 Z ?_; refine B1 hf fun x1 h1 hf=>Ev.cons Z Z Z (AO.call Z _ Z Z Aj (iU _ h1 zg)) ?_; refine BR hf fun x2 h2 hf=>?_; refine Ev.cons Z Z Z (AO.call Z _ Z Z MV (oO _ _ h2 zg)) (Ev.cs aG 1 Z (Ev.nil ?_)); show AR _ _ _ _ _ _ _ _
 cases hf; exact N 0 Z (Y Z h)

theorem adA (a1:ak) (b1:ak) {r0:ak} {r1:Bool} (hf:JF a1 b1=some (r0,r1)) (h:Q (.ret (.tuple [.agg (aW r0),.bool r1])) τ):PC 152 [.agg (aW a1),.agg (aW b1)] τ Q:=by
 unfold JF at hf; refine BN 37 [.cell 4 54,.tmp 5] [0,1] Tryz.func152 Z Z Z Z Z (W 2 Z (AS Z (AO.aF Z jk (fun b4=>(J 5 Z (C hf Z (fun h1 hf=>?_) fun h1 hf=>?_))))))
 ·
  refine V 0 Z (AW.draw 6 mixed (by kernel_rfl) Z ?_); refine Ev.cs aG 2 Z ?_; refine B1 hf fun e1 h2 hf=>Ev.cons Z Z Z (AO.aI h2 Z Z (ak.aB _) Z fZ (ak.aD _) Z zg) (Ev.cs aG 2 Z ?_); refine B1 hf fun x1 h3 hf=>Ev.cons Z Z Z (AO.call Z _ Z Z pU (jW _ _ h3 zg)) (Ev.nil ?_); show AR _ _ _ _ _ _ _ _
  cases hf; exact Rx 2 [0] Z Z (ZC [0] Z Z h)
 refine V 4 Z (C hf Z (fun h4 hf=>?_) fun h4 hf=>?_)
 ·
  refine V 0 Z (AW.draw 6 mixed (by kernel_rfl) Z ?_); refine Ev.cs aG 2 Z ?_; refine B1 hf fun e2 h5 hf=>Ev.cons Z Z Z (AO.aI h5 Z Z (ak.aB _) Z fZ (ak.aD _) Z zg) (Ev.cs aG 2 Z ?_); refine B1 hf fun x2 h6 hf=>Ev.cons Z Z Z (AO.call Z _ Z Z pU (jW _ _ h6 zg)) (Ev.nil ?_); show AR _ _ _ _ _ _ _ _
  cases hf; exact Rx 2 [0] Z Z (ZC [0] Z Z h)
 refine V 0 Z (AW.Bc 4 11 12 0 mixed (by kernel_rfl) (by kernel_rfl) (by kernel_rfl) Z Z Z Z ?_); refine Ev.cs aG 2 Z ?_; refine B1 hf fun x3 h7 hf=>Ev.cons Z Z Z (AO.call Z _ Z Z GD (kM _ h7 zg)) (Ev.cs aG 1 Z (Ev.nil ?_)); show Ev _ _ _ _ _ _ _
 refine B1 hf fun b2 h9 hf=>Ev.dB UN 7 29 36 true [4,26] (.bool b2) Z Z (fun h8=>?_) (fun h8=>?_) ?_
 ·
  replace h9:=cO h8 h9; refine Ev.is uq 29 h8 Z (Ev.cs aG 1 Z ?_); refine B1 h9 fun x4 h10 h9=>Ev.run Z Z Z Z Z Z Z (AO.call Z _ Z Z pU (jW _ _ h10 zg)) (Ev.cs aG 1 Z ?_); refine BR h9 fun b3 h12 h9=>?_; refine Ev.dB uq 3 32 35 false [4,26,29] (.bool b3) Z Z (fun h11=>?_) (fun h11=>?_) ?_
  · replace h12:=cZ h11 h12; refine Ev.is uq 32 h11 Z (Ev.cs aG 1 Z ?_); refine BR h12 fun x5 jJ h12=>?_; refine Ev.run Z Z Z Z Z Z Z (AO.call Z _ Z Z pU (jW _ _ jJ zg)) ?_; cases h12; refine Ev.cs aG 1 Z ?_; exact Ev.nil (Less.settle (ps:=[35,4,26,29]) Z)
  · replace h12:=cO h11 h12; refine Ev.is uq 32 h11 Z ?_; cases h12; refine Ev.cs aG 3 Z ?_; exact Ev.nil (Less.settle (ps:=[35,4,26,29]) Z)
  cases h9; refine Ev.cs aG 1 Z ?_; exact Ev.nil (Less.settle (ps:=[36,4,26]) Z)
 · replace h9:=cZ h8 h9; refine Ev.is uq 29 h8 Z ?_; cases h9; refine Ev.cs aG 7 Z ?_; exact Ev.nil (Less.settle (ps:=[36,4,26]) Z)
 refine Ev.nil (TF.dh Z Z (AO.dW (i:=0) Z Z Z bI Z Z Z Z Z (TF.nil ?_))); show AR _ _ _ _ _ _ _ _
 cases hf; exact N 1 Z (ZC [0] Z Z h)

theorem EG (fE:Int) {r0:ak} (hf:C9 fE=some r0) (h:Q (.ret (.agg (aW r0))) τ):PC 209 [iP fE] τ Q:=by
 unfold C9 at hf; refine BN 6 [.cell 2 54] [0] Tryz.func209 Z Z Z Z Z (W 0 Z (AS Z (AO.aF Z jk (fun b2=>?_)))); refine B1 hf fun x1 h1 hf=>U 1 Z (CL Z (iU _ h1 ?_)); refine BR hf fun x2 h2 hf=>?_; refine CL Z (uj _ _ h2 ?_); cases hf; exact Rx 1 [0] Z Z (ZC [0] Z Z h)

theorem afo (name1:Str) (l1:List ak) {r0:ak} {r1:Bool} (hf:gY name1 l1=some (r0,r1)) (h:Q (.ret (.tuple [.agg (aW r0),.bool r1])) τ):PC 153 [.str name1,.list (ak.aU l1)] τ Q:=by
 unfold gY at hf; refine BN 150 [.cell 4 54,.tmp 5] [0,1] Tryz.func153 Z Z Z Z Z (W 0 Z (AS Z (AO.aF Z jk (fun b4=>?_)))); refine B1 hf fun x1 h1 hf=>U 1 Z (CL Z (iU _ h1 (AS Z (AO.aF Z jk (fun b6=>(Rw 4 [0] Z Z (C hf Z (fun h2 hf=>?_) fun h2 hf=>?_)))))))
 ·
  refine V 0 Z (AW.Bc 13 19 20 1 mixed (by kernel_rfl) (by kernel_rfl) (by kernel_rfl) Z Z Z Z ?_); refine B1 hf fun x2 h3 hf=>Ev.cons Z Z Z (AO.call Z _ Z Z Aj (iU _ h3 zg)) (Ev.cs aG 1 Z ?_); refine B1 hf fun e1 h4 hf=>Ev.cons Z Z Z (AO.aI h4 Z Z (ak.aB _) Z fZ (ak.aD _) Z zg) (Ev.cs aG 1 Z ?_); refine B1 hf fun x3 h5 hf=>Ev.cons Z Z Z (AO.call Z _ Z Z pU (jW _ _ h5 zg)) (Ev.cs aG 1 Z ?_); refine B1 hf fun b1 h7 hf=>Ev.dB (hKE UN) 6 16 22 false [1,4,11] (.bool b1) Z Z (fun h6=>?_) (fun h6=>?_) ?_
  ·
   replace h7:=cZ h6 h7; refine Ev.is uq 16 h6 Z (Ev.cs aG 1 Z ?_); refine B1 h7 fun e2 h8 h7=>Ev.run Z Z Z Z Z Z Z (AO.aI h8 Z Z (ak.aB _) Z fZ (ak.aD _) Z zg) (Ev.cs aG 1 Z ?_); refine B1 h7 fun x4 h9 h7=>Ev.run Z Z Z Z Z Z Z (AO.call Z _ Z Z VF (EG _ h9 zg)) ?_; refine BR h7 fun x5 h10 h7=>?_; refine Ev.run Z Z Z Z Z Z Z (AO.call Z _ Z Z MV (oO _ _ h10 zg)) ?_; cases h7; refine Ev.cs aG 1 Z ?_
   exact Ev.nil (Less.settle (ps:=[22,1,4,11]) Z)
  · replace h7:=cO h6 h7; refine Ev.is uq 16 h6 Z ?_; cases h7; refine Ev.cs aG 6 Z ?_; exact Ev.nil (Less.settle (ps:=[22,1,4,11]) Z)
  refine Ev.cs aG 1 Z (Ev.nil ?_); show Ev _ _ _ _ _ _ _
  refine B1 hf fun b2 h12 hf=>Ev.dB UN 6 23 29 false [4,11] (.bool b2) Z Z (fun h11=>?_) (fun h11=>?_) ?_
  ·
   replace h12:=cZ h11 h12; refine Ev.is uq 23 h11 Z (Ev.cs aG 1 Z ?_); refine B1 h12 fun e3 jJ h12=>Ev.run Z Z Z Z Z Z Z (AO.aI jJ Z Z (ak.aB _) Z fZ (ak.aD _) Z zg) (Ev.cs aG 1 Z ?_); refine B1 h12 fun x6 j5 h12=>Ev.run Z Z Z Z Z Z Z (AO.call Z _ Z Z VF (EG _ j5 zg)) ?_; refine BR h12 fun x7 mo h12=>?_; refine Ev.run Z Z Z Z Z Z Z (AO.call Z _ Z Z MV (oO _ _ mo zg)) ?_; cases h12; refine Ev.cs aG 1 Z ?_
   exact Ev.nil (Less.settle (ps:=[29,4,11]) Z)
  · replace h12:=cO h11 h12; refine Ev.is uq 23 h11 Z ?_; cases h12; refine Ev.cs aG 6 Z ?_; exact Ev.nil (Less.settle (ps:=[29,4,11]) Z)
  refine Ev.nil (TF.dh Z Z (AO.dW (i:=0) Z Z Z bI Z Z Z Z Z (TF.nil ?_))); show AR _ _ _ _ _ _ _ _
  cases hf; exact N 1 Z (ZC [1] Z Z h)
 refine V 2 Z (C hf Z (fun h16 hf=>?_) fun h16 hf=>?_)
 ·
  refine V 0 Z (AW.Bc 7 25 26 1 mixed (by kernel_rfl) (by kernel_rfl) (by kernel_rfl) Z Z Z Z ?_); refine B1 hf fun x8 qB hf=>Ev.cons Z Z Z (AO.call Z _ Z Z Aj (iU _ qB zg)) (Ev.cs aG 1 Z ?_); refine B1 hf fun e4 h18 hf=>Ev.cons Z Z Z (AO.aI h18 Z Z (ak.aB _) Z fZ (ak.aD _) Z zg) (Ev.cs aG 1 Z ?_); refine B1 hf fun x9 h19 hf=>Ev.cons Z Z Z (AO.call Z _ Z Z VF (EG _ h19 zg)) ?_; refine B1 hf fun wS h20 hf=>Ev.cons Z Z Z (AO.call Z _ Z Z MV (oO _ _ h20 zg)) (Ev.cs aG 1 Z (Ev.nil ?_))
  show Ev _ _ _ _ _ _ _
  refine B1 hf fun b3 h22 hf=>Ev.dB UN 18 38 56 false [4,32] (.bool b3) Z Z (fun h21=>?_) (fun h21=>?_) ?_
  ·
   replace h22:=cZ h21 h22; refine Ev.is uq 38 h21 Z (Ev.cs aG 1 Z ?_); refine B1 h22 fun e5 h23 h22=>Ev.run Z Z Z Z Z Z Z (AO.aI h23 Z Z (ak.aB _) Z fZ (ak.aD _) Z zg) (Ev.cs aG 1 Z ?_); refine B1 h22 fun H8 wT h22=>Ev.run Z Z Z Z Z Z Z (AO.call Z _ Z Z pU (jW _ _ wT zg)) (Ev.cs aG 1 Z ?_); refine BR h22 fun b4 Ic h22=>?_; refine Ev.dB uq 12 43 55 true [4,32,38] (.bool b4) Z Z (fun Cv=>?_) (fun Cv=>?_) ?_
   ·
    replace Ic:=cO Cv Ic; refine Ev.is uq 43 Cv Z (Ev.cs aG 1 Z ?_); refine B1 Ic fun e6 h27 Ic=>Ev.run Z Z Z Z Z Z Z (AO.aI h27 Z Z (ak.aB _) Z fZ (ak.aD _) Z zg) (Ev.cs aG 1 Z ?_); refine B1 Ic fun LQ RQ Ic=>Ev.run Z Z Z Z Z Z Z (AO.call Z _ Z Z pU (jW _ _ RQ zg)) (Ev.cs aG 1 Z ?_); refine BR Ic fun b5 LY Ic=>?_; refine Ev.dB uq 6 48 54 false [4,32,38,43] (.bool b5) Z Z (fun Na=>?_) (fun Na=>?_) ?_
    ·
     replace LY:=cZ Na LY; refine Ev.is uq 48 Na Z (Ev.cs aG 1 Z ?_); refine B1 LY fun e7 h31 LY=>Ev.run Z Z Z Z Z Z Z (AO.aI h31 Z Z (ak.aB _) Z fZ (ak.aD _) Z zg) (Ev.cs aG 1 Z ?_); refine B1 LY fun Mg h32 LY=>Ev.run Z Z Z Z Z Z Z (AO.call Z _ Z Z VF (EG _ h32 zg)) ?_; refine BR LY fun RP Js LY=>?_; refine Ev.run Z Z Z Z Z Z Z (AO.call Z _ Z Z MV (oO _ _ Js zg)) ?_; cases LY; refine Ev.cs aG 1 Z ?_
     exact Ev.nil (Less.settle (ps:=[54,4,32,38,43]) Z)
    · replace LY:=cO Na LY; refine Ev.is uq 48 Na Z ?_; cases LY; refine Ev.cs aG 6 Z ?_; exact Ev.nil (Less.settle (ps:=[54,4,32,38,43]) Z)
    cases Ic; refine Ev.cs aG 1 Z ?_; exact Ev.nil (Less.settle (ps:=[55,4,32,38]) Z)
   · replace Ic:=cZ Cv Ic; refine Ev.is uq 43 Cv Z ?_; cases Ic; refine Ev.cs aG 12 Z ?_; exact Ev.nil (Less.settle (ps:=[55,4,32,38]) Z)
   cases h22; refine Ev.cs aG 1 Z ?_; exact Ev.nil (Less.settle (ps:=[56,4,32]) Z)
  · replace h22:=cO h21 h22; refine Ev.is uq 38 h21 Z ?_; cases h22; refine Ev.cs aG 18 Z ?_; exact Ev.nil (Less.settle (ps:=[56,4,32]) Z)
  refine Ev.nil (TF.dh Z Z (AO.dW (i:=0) Z Z Z bI Z Z Z Z Z (TF.nil ?_))); show AR _ _ _ _ _ _ _ _
  cases hf; exact N 1 Z (ZC [1] Z Z h)
 refine V 2 Z (C hf Z (fun XE hf=>?_) fun XE hf=>?_)
 ·
  refine V 0 Z (AW.Bc 8 13 14 1 mixed (by kernel_rfl) (by kernel_rfl) (by kernel_rfl) Z Z Z Z ?_); refine Ev.cons Z Z Z (AO.aY (i:=0) Z Z Z bI Z Z zg) (Ev.cs aG 1 Z ?_); refine B1 hf fun e8 PK hf=>Ev.cons Z Z Z (AO.aI PK Z Z (ak.aB _) Z fZ (ak.aD _) Z zg) (Ev.cs aG 1 Z (Ev.cons Z Z Z (AO.aY (i:=0) Z Z Z bI Z Z zg) ?_)); refine B1 hf fun RO QZ hf=>Ev.cons Z Z Z (AO.call Z _ Z Z acE (uj _ _ QZ zg)) ?_
  refine B1 hf fun LP h37 hf=>Ev.cons Z Z Z (AO.call Z _ Z Z MV (oO _ _ h37 zg)) (Ev.cs aG 1 Z (Ev.nil ?_)); show Ev _ _ _ _ _ _ _
  refine B1 hf fun b6 OC hf=>Ev.dB UN 5 66 71 true [4,59] (.bool b6) Z Z (fun UO=>?_) (fun UO=>?_) ?_
  · replace OC:=cO UO OC; refine Ev.is uq 66 UO Z (Ev.cs aG 1 Z ?_); refine B1 OC fun e9 h40 OC=>Ev.run Z Z Z Z Z Z Z (AO.aI h40 Z Z (ak.aB _) Z fZ (ak.aD _) Z zg) (Ev.cs aG 1 Z ?_); refine BR OC fun XD h41 OC=>?_; refine Ev.run Z Z Z Z Z Z Z (AO.call Z _ Z Z pU (jW _ _ h41 zg)) ?_; cases OC; refine Ev.cs aG 1 Z ?_; exact Ev.nil (Less.settle (ps:=[71,4,59]) Z)
  · replace OC:=cZ UO OC; refine Ev.is uq 66 UO Z ?_; cases OC; refine Ev.cs aG 5 Z ?_; exact Ev.nil (Less.settle (ps:=[71,4,59]) Z)
  refine Ev.nil (TF.dh Z Z (AO.dW (i:=0) Z Z Z bI Z Z Z Z Z (TF.nil ?_))); show AR _ _ _ _ _ _ _ _
  cases hf; exact N 1 Z (ZC [1] Z Z h)
 refine V 2 Z (C hf Z (fun h42 hf=>?_) fun h42 hf=>?_)
 ·
  refine V 0 Z (AW.Bc 7 12 13 1 mixed (by kernel_rfl) (by kernel_rfl) (by kernel_rfl) Z Z Z Z ?_); refine Ev.cons Z Z Z (AO.aY (i:=0) Z Z Z bI Z Z zg) ?_; refine B1 hf fun x18 h43 hf=>Ev.cons Z Z Z (AO.call Z _ Z Z acE (uj _ _ h43 zg)) (Ev.cs aG 1 Z ?_); refine B1 hf fun e10 h44 hf=>Ev.cons Z Z Z (AO.aI h44 Z Z (ak.aB _) Z fZ (ak.aD _) Z zg) (Ev.cs aG 1 Z ?_); refine B1 hf fun x19 h45 hf=>Ev.cons Z Z Z (AO.call Z _ Z Z pU (jW _ _ h45 zg)) (Ev.cs aG 1 Z (Ev.nil ?_))
  show Ev _ _ _ _ _ _ _
  refine B1 hf fun b7 h47 hf=>Ev.dB UN 5 80 85 true [4,75] (.bool b7) Z Z (fun h46=>?_) (fun h46=>?_) ?_
  · replace h47:=cO h46 h47; refine Ev.is uq 80 h46 Z (Ev.cs aG 1 Z ?_); refine B1 h47 fun e11 h48 h47=>Ev.run Z Z Z Z Z Z Z (AO.aI h48 Z Z (ak.aB _) Z fZ (ak.aD _) Z zg) (Ev.cs aG 1 Z ?_); refine BR h47 fun x20 h49 h47=>?_; refine Ev.run Z Z Z Z Z Z Z (AO.call Z _ Z Z pU (jW _ _ h49 zg)) ?_; cases h47; refine Ev.cs aG 1 Z ?_; exact Ev.nil (Less.settle (ps:=[85,4,75]) Z)
  · replace h47:=cZ h46 h47; refine Ev.is uq 80 h46 Z ?_; cases h47; refine Ev.cs aG 5 Z ?_; exact Ev.nil (Less.settle (ps:=[85,4,75]) Z)
  refine Ev.nil (TF.dh Z Z (AO.dW (i:=0) Z Z Z bI Z Z Z Z Z (TF.nil ?_))); show AR _ _ _ _ _ _ _ _
  cases hf; exact N 1 Z (ZC [1] Z Z h)
 refine V 2 Z (C hf Z (fun h50 hf=>?_) fun h50 hf=>?_)
 ·
  refine V 0 Z (AW.cond Z (fun h51=>?_) (fun h51=>?_))
  ·
   refine V 0 Z (AW.draw 5 mixed (by kernel_rfl) Z ?_); refine Ev.cons Z Z Z (AO.aY (i:=0) Z Z Z bI Z Z zg) (Ev.cs aG 1 Z ?_); refine B1 hf fun e12 h52 hf=>Ev.cons Z Z Z (AO.aI h52 Z Z (ak.aB _) Z fZ (ak.aD _) Z zg) (Ev.cs aG 1 Z ?_); refine B1 hf fun x21 Sr hf=>Ev.cons Z Z Z (AO.call Z _ Z Z pU (jW _ _ Sr zg)) (Ev.nil ?_); show AR _ _ _ _ _ _ _ _
   cases hf; exact Rx 2 [1] Z Z (ZC [1] Z Z h)
  cases h50.symm.trans h51
 refine V 2 Z (C hf Z (fun h54 hf=>?_) fun h54 hf=>?_)
 ·
  refine V 0 Z (AW.draw 5 mixed (by kernel_rfl) Z ?_); refine Ev.cons Z Z Z (AO.aY (i:=0) Z Z Z bI Z Z zg) (Ev.cs aG 1 Z ?_); refine B1 hf fun e13 h55 hf=>Ev.cons Z Z Z (AO.aI h55 Z Z (ak.aB _) Z fZ (ak.aD _) Z zg) (Ev.cs aG 1 Z ?_); refine B1 hf fun x22 h56 hf=>Ev.cons Z Z Z (AO.call Z _ Z Z pU (jW _ _ h56 zg)) (Ev.nil ?_); show AR _ _ _ _ _ _ _ _
  cases hf; exact Rx 2 [1] Z Z (ZC [1] Z Z h)
 refine V 2 Z (C hf Z (fun h57 hf=>?_) fun h57 hf=>?_)
 ·
  refine V 0 Z (AW.cond Z (fun h58=>?_) (fun h58=>?_))
  ·
   refine V 0 Z (AW.Bc 6 11 12 1 mixed (by kernel_rfl) (by kernel_rfl) (by kernel_rfl) Z Z Z Z ?_); refine B1 hf fun x23 h59 hf=>Ev.cons Z Z Z (AO.call Z _ Z Z Aj (iU _ h59 zg)) (Ev.cs aG 1 Z ?_); refine B1 hf fun e14 h60 hf=>Ev.cons Z Z Z (AO.aI h60 Z Z (ak.aB _) Z fZ (ak.aD _) Z zg) (Ev.cs aG 1 Z ?_); refine B1 hf fun x24 h61 hf=>Ev.cons Z Z Z (AO.call Z _ Z Z pU (jW _ _ h61 zg)) (Ev.cs aG 1 Z (Ev.nil ?_)); show Ev _ _ _ _ _ _ _
   refine B1 hf fun b8 h63 hf=>Ev.dB UN 5 102 107 true [4,97] (.bool b8) Z Z (fun h62=>?_) (fun h62=>?_) ?_
   · replace h63:=cO h62 h63; refine Ev.is uq 102 h62 Z (Ev.cs aG 1 Z ?_); refine B1 h63 fun e15 h64 h63=>Ev.run Z Z Z Z Z Z Z (AO.aI h64 Z Z (ak.aB _) Z fZ (ak.aD _) Z zg) (Ev.cs aG 1 Z ?_); refine BR h63 fun x25 h65 h63=>?_; refine Ev.run Z Z Z Z Z Z Z (AO.call Z _ Z Z pU (jW _ _ h65 zg)) ?_; cases h63; refine Ev.cs aG 1 Z ?_; exact Ev.nil (Less.settle (ps:=[107,4,97]) Z)
   · replace h63:=cZ h62 h63; refine Ev.is uq 102 h62 Z ?_; cases h63; refine Ev.cs aG 5 Z ?_; exact Ev.nil (Less.settle (ps:=[107,4,97]) Z)
   refine Ev.nil (TF.dh Z Z (AO.dW (i:=0) Z Z Z bI Z Z Z Z Z (TF.nil ?_))); show AR _ _ _ _ _ _ _ _
   cases hf; exact N 1 Z (ZC [1] Z Z h)
  cases h57.symm.trans h58
 refine V 2 Z (C hf Z (fun h66 hf=>?_) fun h66 hf=>?_)
 ·
  refine V 0 Z (AW.Bc 6 11 12 1 mixed (by kernel_rfl) (by kernel_rfl) (by kernel_rfl) Z Z Z Z ?_); refine B1 hf fun x26 h67 hf=>Ev.cons Z Z Z (AO.call Z _ Z Z Aj (iU _ h67 zg)) (Ev.cs aG 1 Z ?_); refine B1 hf fun e16 h68 hf=>Ev.cons Z Z Z (AO.aI h68 Z Z (ak.aB _) Z fZ (ak.aD _) Z zg) (Ev.cs aG 1 Z ?_); refine B1 hf fun x27 h69 hf=>Ev.cons Z Z Z (AO.call Z _ Z Z pU (jW _ _ h69 zg)) (Ev.cs aG 1 Z (Ev.nil ?_)); show Ev _ _ _ _ _ _ _
  refine B1 hf fun b9 h71 hf=>Ev.dB UN 5 102 107 true [4,97] (.bool b9) Z Z (fun h70=>?_) (fun h70=>?_) ?_
  · replace h71:=cO h70 h71; refine Ev.is uq 102 h70 Z (Ev.cs aG 1 Z ?_); refine B1 h71 fun e17 h72 h71=>Ev.run Z Z Z Z Z Z Z (AO.aI h72 Z Z (ak.aB _) Z fZ (ak.aD _) Z zg) (Ev.cs aG 1 Z ?_); refine BR h71 fun x28 h73 h71=>?_; refine Ev.run Z Z Z Z Z Z Z (AO.call Z _ Z Z pU (jW _ _ h73 zg)) ?_; cases h71; refine Ev.cs aG 1 Z ?_; exact Ev.nil (Less.settle (ps:=[107,4,97]) Z)
  · replace h71:=cZ h70 h71; refine Ev.is uq 102 h70 Z ?_; cases h71; refine Ev.cs aG 5 Z ?_; exact Ev.nil (Less.settle (ps:=[107,4,97]) Z)
  refine Ev.nil (TF.dh Z Z (AO.dW (i:=0) Z Z Z bI Z Z Z Z Z (TF.nil ?_))); show AR _ _ _ _ _ _ _ _
  cases hf; exact N 1 Z (ZC [1] Z Z h)
 refine V 2 Z (C hf Z (fun h74 hf=>?_) fun h74 hf=>?_)
 ·
  refine V 0 Z (AW.Bc 7 13 14 1 mixed (by kernel_rfl) (by kernel_rfl) (by kernel_rfl) Z Z Z Z ?_); refine Ev.cons Z Z Z (AO.aY (i:=0) Z Z Z bI Z Z zg) (Ev.cs aG 1 Z ?_); refine B1 hf fun e18 h75 hf=>Ev.cons Z Z Z (AO.aI h75 Z Z (ak.aB _) Z fZ (ak.aD _) Z zg) (Ev.cs aG 4 Z (Ev.nil ?_)); show Ev _ _ _ _ _ _ _
  refine B1 hf fun b10 h77 hf=>Ev.dB UN 6 116 122 true [4,110] (.bool b10) Z Z (fun h76=>?_) (fun h76=>?_) ?_
  · replace h77:=cO h76 h77; refine Ev.is uq 116 h76 Z (Ev.cs aG 1 Z ?_); refine B1 h77 fun e19 h78 h77=>Ev.run Z Z Z Z Z Z Z (AO.aI h78 Z Z (ak.aB _) Z fZ (ak.aD _) Z zg) (Ev.cs aG 3 Z ?_); cases h77; refine Ev.cs aG 1 Z ?_; exact Ev.nil (Less.settle (ps:=[122,4,110]) Z)
  · replace h77:=cZ h76 h77; refine Ev.is uq 116 h76 Z ?_; cases h77; refine Ev.cs aG 6 Z ?_; exact Ev.nil (Less.settle (ps:=[122,4,110]) Z)
  refine Ev.nil (TF.dh Z Z (AO.dW (i:=0) Z Z Z bI Z Z Z Z Z (TF.nil ?_))); show AR _ _ _ _ _ _ _ _
  cases hf; exact N 1 Z (ZC [1] Z Z h)
 refine V 2 Z (C hf Z (fun h79 hf=>?_) fun h79 hf=>?_)
 ·
  refine V 0 Z (AW.draw 5 mixed (by kernel_rfl) Z ?_); refine B1 hf fun x29 h80 hf=>Ev.cons Z Z Z (AO.call Z _ Z Z Aj (iU _ h80 zg)) (Ev.cs aG 1 Z ?_); refine B1 hf fun e20 h81 hf=>Ev.cons Z Z Z (AO.aI h81 Z Z (ak.aB _) Z fZ (ak.aD _) Z zg) (Ev.cs aG 1 Z ?_); refine B1 hf fun x30 h82 hf=>Ev.cons Z Z Z (AO.call Z _ Z Z pU (jW _ _ h82 zg)) (Ev.nil ?_); show AR _ _ _ _ _ _ _ _
  cases hf; exact Rx 2 [1] Z Z (ZC [1] Z Z h)
 refine V 2 Z (C hf Z (fun h83 hf=>?_) fun h83 hf=>?_)
 ·
  refine V 0 Z (AW.draw 7 mixed (by kernel_rfl) Z ?_); refine Ev.cons Z Z Z (AO.aY (i:=0) Z Z Z bI Z Z zg) ?_; refine B1 hf fun x31 h84 hf=>Ev.cons Z Z Z (AO.call Z _ Z Z acE (uj _ _ h84 zg)) (Ev.cs aG 1 Z ?_); refine B1 hf fun e21 h85 hf=>Ev.cons Z Z Z (AO.aI h85 Z Z (ak.aB _) Z fZ (ak.aD _) Z zg) (Ev.cs aG 1 Z ?_); refine B1 hf fun x32 h86 hf=>Ev.cons Z Z Z (AO.call Z _ Z Z VF (EG _ h86 zg)) ?_
  refine B1 hf fun x33 h87 hf=>Ev.cons Z Z Z (AO.call Z _ Z Z MV (oO _ _ h87 zg)) (Ev.nil ?_); show AR _ _ _ _ _ _ _ _
  cases hf; exact Rx 2 [1] Z Z (ZC [1] Z Z h)
 refine B1 hf fun e22 h88 hf=>W 1 Z (AS Z (AO.aI h88 Z Z (ak.aB _) Z fZ (ak.aD _) Z (J 3 Z (C hf Z (fun h89 hf=>?_) fun h89 hf=>?_))))
 · refine B1 hf fun e23 h90 hf=>W 1 Z (AS Z (AO.aI h90 Z Z (ak.aB _) Z fZ (ak.aD _) Z ?_)); cases hf; exact Rx 3 [1] Z Z (ZC [1] Z Z h)
 refine B1 hf fun e24 h91 hf=>W 1 Z (AS Z (AO.aI h91 Z Z (ak.aB _) Z fZ (ak.aD _) Z ?_)); cases hf; exact Rx 3 [1] Z Z (ZC [1] Z Z h)

theorem Cr (a1:ak) (b1:ak) {r0:Int} (hf:rD a1 b1=some r0) (h:Q (.ret (iP r0)) τ):PC 210 [.agg (aW a1),.agg (aW b1)] τ Q:=by
 unfold rD at hf; refine BN 20 [.tmp 4] [0,1] Tryz.func210 Z Z Z Z Z ?_; refine B1 hf fun x1 h1 hf=>W 4 Z (CL Z (kM _ h1 (J 0 Z (C hf Z (fun h2 hf=>?_) fun h2 hf=>?_))))
 · cases hf; exact M 3 Z (Y Z h)
 refine B1 hf fun x2 h3 hf=>W 1 Z (CL Z (kM _ h3 (U 1 Z (On 6 11 17 [2] (a1.kind == b1.kind) Z Z Z Z (J 0 Z (C hf Z (fun h5 hf=>?_) fun h5 hf=>?_))))))
 · cases hf; exact M 3 Z (Y Z h)
 cases hf; exact M 1 Z (Y Z h)

theorem O1 (t1:ak) {r0:ak} (hf:AJ t1=some r0) (h:Q (.ret (.agg (aW r0))) τ):PC 256 [.agg (aW t1)] τ Q:=by
 unfold AJ at hf; refine BN 10 [.cell 2 54] [0] Tryz.func256 Z Z Z Z Z (W 1 Z (AS Z (AO.aF Z jk (fun b2=>?_)))); refine B1 hf fun x1 h1 hf=>U 1 Z (CL Z (kM _ h1 (J 0 Z (C hf Z (fun h2 hf=>?_) fun h2 hf=>?_))))
 · cases hf; exact Wx 2 [0] Z Z (ZC [0] Z Z h)
 refine BR hf fun e1 h3 hf=>?_; refine W 2 Z (AS Z (AO.aI h3 Z Z (ak.aB _) Z fZ (ak.aD _) Z ?_)); cases hf; exact Rx 2 [0] Z Z (ZC [0] Z Z h)

theorem afq (a1:ak) (b1:ak) {r0:Bool} (hf:QJ a1 b1=some r0) (h:Q (.ret (.bool r0)) τ):PC 212 [.agg (aW a1),.agg (aW b1)] τ Q:=by
 unfold QJ at hf; refine BN 13 [.tmp 4] [0,1] Tryz.func212 Z Z Z Z Z ?_; refine B1 hf fun x1 h1 hf=>W 4 Z (CL Z (I5 _ h1 ?_)); refine BR hf fun b2 h3 hf=>?_; refine U 2 Z (AR.dB 4 8 12 true [] b2 Z Z (fun h2=>?_) (fun h2=>?_) ?_)
 · refine IT 8 h2 h3 Z fun h3=>?_; refine B1 h3 fun x2 h4 h3=>U 1 Z (GO Z (AO.call Z _ Z Z apG (I5 _ h4 ?_))); cases h3; exact eG 2 Z (En [12] Z)
 · refine IF 8 h2 h3 Z fun h3=>?_; cases h3; exact eG 4 Z (En [12] Z)
 cases hf; exact N 1 Z (Y Z h)

theorem Qa (a1:ak) (b1:ak) {r0:ak} (hf:BA a1 b1=some r0) (h:Q (.ret (.agg (aW r0))) τ):PC 157 [.agg (aW a1),.agg (aW b1)] τ Q:=by
 unfold BA at hf; refine BN 13 [.cell 4 54] [0,1] Tryz.func157 Z Z Z Z Z (W 2 Z (AS Z (AO.aF Z jk (fun b4=>?_)))); refine B1 hf fun x1 h1 hf=>U 2 Z (CL Z (afq _ _ h1 (J 1 Z (C hf Z (fun h2 hf=>?_) fun h2 hf=>?_))))
 · refine BR hf fun x2 h3 hf=>?_; refine W 0 Z (CL Z (qQ _ h3 ?_)); cases hf; exact Rx 1 [0] Z Z (ZC [0] Z Z h)
 refine BR hf fun x3 h4 hf=>?_; refine W 2 Z (CL Z (WY _ _ h4 ?_)); cases hf; exact Rx 1 [0] Z Z (ZC [0] Z Z h)

theorem ahR (a1:ak) (b1:ak) {r0:ak} {r1:Bool} (hf:Ir a1 b1=some (r0,r1)) (h:Q (.ret (.tuple [.agg (aW r0),.bool r1])) τ):PC 211 [.agg (aW a1),.agg (aW b1)] τ Q:=by
 unfold Ir at hf; refine BN 38 [.cell 4 54,.tmp 5] [0,1] Tryz.func211 Z Z Z Z Z (W 2 Z (AS Z (AO.aF Z jk (fun b4=>?_)))); refine B1 hf fun x1 h1 hf=>U 2 Z (CL Z (kM _ h1 ?_)); refine B1 hf fun b2 h3 hf=>U 1 Z (AR.dB 3 9 12 true [2,3,4] b2 Z Z (fun h2=>?_) (fun h2=>?_) ?_)
 · refine IT 9 h2 h3 Z fun h3=>?_; refine BR h3 fun x2 h4 h3=>?_; refine U 1 Z (GO Z (AO.call Z _ Z Z GD (kM _ h4 ?_))); cases h3; exact eG 1 Z (En [12,2,3,4] Z)
 · refine IF 9 h2 h3 Z fun h3=>?_; cases h3; exact eG 3 Z (En [12,2,3,4] Z)
 refine J 0 Z (C hf Z (fun h5 hf=>?_) fun h5 hf=>?_)
 ·
  refine V 3 Z (C hf Z (fun h6 hf=>?_) fun h6 hf=>?_)
  · cases hf; exact Wx 3 [0] Z Z (ZC [0] Z Z h)
  cases hf; exact Wx 3 [0] Z Z (ZC [0] Z Z h)
 refine B1 hf fun rV h7 hf=>W 2 Z (CL Z (Cr _ _ h7 (J 3 Z (C hf Z (fun h8 hf=>?_) fun h8 hf=>?_))))
 ·
  refine V 0 Z (AW.draw 7 mixed (by kernel_rfl) Z ?_); refine Ev.cs aG 2 Z ?_; refine B1 hf fun x3 h9 hf=>Ev.cons Z Z Z (AO.call Z _ Z Z ajc (O1 _ h9 zg)) (Ev.cs aG 1 Z ?_); refine B1 hf fun x4 h10 hf=>Ev.cons Z Z Z (AO.call Z _ Z Z ajc (O1 _ h10 zg)) ?_; refine B1 hf fun x5 h11 hf=>Ev.cons Z Z Z (AO.call Z _ Z Z aeF (Qa _ _ h11 zg)) ?_; refine B1 hf fun x6 h12 hf=>Ev.cons Z Z Z (AO.call Z _ Z Z acE (uj _ _ h12 zg)) (Ev.nil ?_)
  show AR _ _ _ _ _ _ _ _
  cases hf; exact Rx 2 [0] Z Z (ZC [0] Z Z h)
 refine B1 hf fun x7 jJ hf=>W 1 Z (CL Z (iU _ jJ (U 3 Z (On 3 34 37 [4,31] (rV == 4) Z Z Z Z ?_)))); cases hf; exact Rx 2 [0] Z Z (ZC [0] Z Z h)

theorem abn (op1:Str) (a1:ak) (b1:ak) {r0:ak} {r1:Bool} (hf:nJ op1 a1 b1=some (r0,r1)) (h:Q (.ret (.tuple [.agg (aW r0),.bool r1])) τ):PC 156 [.str op1,.agg (aW a1),.agg (aW b1)] τ Q:=by
 unfold nJ at hf; refine BN 61 [.cell 6 54,.tmp 7] [0,1,2] Tryz.func156 Z Z Z Z Z (W 2 Z (AS Z (AO.aF Z jk (fun b6=>(J 4 Z (C hf Z (fun h1 hf=>?_) fun h1 hf=>?_))))))
 ·
  refine V 0 Z (AW.cond Z (fun h2=>?_) (fun h2=>?_))
  ·
   refine V 0 Z (AW.Bc 4 7 8 0 mixed (by kernel_rfl) (by kernel_rfl) (by kernel_rfl) Z Z Z Z ?_); refine B1 hf fun x1 h3 hf=>Ev.cons Z Z Z (AO.call Z _ Z Z Aj (iU _ h3 zg)) (Ev.cs aG 1 Z ?_); refine B1 hf fun x2 h4 hf=>Ev.cons Z Z Z (AO.call Z _ Z Z pU (jW _ _ h4 zg)) (Ev.cs aG 1 Z (Ev.nil ?_)); show Ev _ _ _ _ _ _ _
   refine B1 hf fun b2 h6 hf=>Ev.dB UN 3 16 19 true [6,13] (.bool b2) Z Z (fun h5=>?_) (fun h5=>?_) ?_
   · replace h6:=cO h5 h6; refine Ev.is uq 16 h5 Z (Ev.cs aG 1 Z ?_); refine BR h6 fun x3 h7 h6=>?_; refine Ev.run Z Z Z Z Z Z Z (AO.call Z _ Z Z pU (jW _ _ h7 zg)) ?_; cases h6; refine Ev.cs aG 1 Z ?_; exact Ev.nil (Less.settle (ps:=[19,6,13]) Z)
   · replace h6:=cZ h5 h6; refine Ev.is uq 16 h5 Z ?_; cases h6; refine Ev.cs aG 3 Z ?_; exact Ev.nil (Less.settle (ps:=[19,6,13]) Z)
   refine Ev.nil (TF.dh Z Z (AO.dW (i:=0) Z Z Z bI Z Z Z Z Z (TF.nil ?_))); show AR _ _ _ _ _ _ _ _
   cases hf; exact N 1 Z (ZC [0] Z Z h)
  cases h1.symm.trans h2
 refine V 2 Z (C hf Z (fun h8 hf=>?_) fun h8 hf=>?_)
 ·
  refine V 0 Z (AW.Bc 4 7 8 0 mixed (by kernel_rfl) (by kernel_rfl) (by kernel_rfl) Z Z Z Z ?_); refine B1 hf fun x4 h9 hf=>Ev.cons Z Z Z (AO.call Z _ Z Z Aj (iU _ h9 zg)) (Ev.cs aG 1 Z ?_); refine B1 hf fun x5 h10 hf=>Ev.cons Z Z Z (AO.call Z _ Z Z pU (jW _ _ h10 zg)) (Ev.cs aG 1 Z (Ev.nil ?_)); show Ev _ _ _ _ _ _ _
  refine B1 hf fun b3 h12 hf=>Ev.dB UN 3 16 19 true [6,13] (.bool b3) Z Z (fun h11=>?_) (fun h11=>?_) ?_
  · replace h12:=cO h11 h12; refine Ev.is uq 16 h11 Z (Ev.cs aG 1 Z ?_); refine BR h12 fun x6 jJ h12=>?_; refine Ev.run Z Z Z Z Z Z Z (AO.call Z _ Z Z pU (jW _ _ jJ zg)) ?_; cases h12; refine Ev.cs aG 1 Z ?_; exact Ev.nil (Less.settle (ps:=[19,6,13]) Z)
  · replace h12:=cZ h11 h12; refine Ev.is uq 16 h11 Z ?_; cases h12; refine Ev.cs aG 3 Z ?_; exact Ev.nil (Less.settle (ps:=[19,6,13]) Z)
  refine Ev.nil (TF.dh Z Z (AO.dW (i:=0) Z Z Z bI Z Z Z Z Z (TF.nil ?_))); show AR _ _ _ _ _ _ _ _
  cases hf; exact N 1 Z (ZC [0] Z Z h)
 refine V 2 Z (C hf Z (fun j5 hf=>?_) fun j5 hf=>?_)
 ·
  refine V 0 Z (AW.cond Z (fun mo=>?_) (fun mo=>?_))
  · refine B1 hf fun x7 h16 hf=>W 0 Z (CL Z (iU _ h16 ?_)); cases hf; exact Rx 2 [0] Z Z (ZC [0] Z Z h)
  cases j5.symm.trans mo
 refine V 2 Z (C hf Z (fun qB hf=>?_) fun qB hf=>?_)
 · refine B1 hf fun x8 h18 hf=>W 0 Z (CL Z (iU _ h18 ?_)); cases hf; exact Rx 2 [0] Z Z (ZC [0] Z Z h)
 refine V 2 Z (C hf Z (fun h19 hf=>?_) fun h19 hf=>?_)
 ·
  refine V 0 Z (AW.cond Z (fun h20=>?_) (fun h20=>?_))
  ·
   refine B1 hf fun rV h21 hf=>W 2 Z (CL Z (Cr _ _ h21 (J 1 Z (AW.Bc 12 15 16 0 mixed (by kernel_rfl) (by kernel_rfl) (by kernel_rfl) Z Z Z Z ?_)))); refine B1 hf fun x9 h22 hf=>Ev.cons Z Z Z (AO.call Z _ Z Z Aj (iU _ h22 zg)) (Ev.cs aG 1 Z ?_); refine B1 hf fun wS h23 hf=>Ev.cons Z Z Z (AO.call Z _ Z Z GD (kM _ h23 zg)) (Ev.cs aG 1 Z ?_); refine B1 hf fun b4 Cv hf=>Ev.dB (hKE UN) 3 35 38 true [6,8,32] (.bool b4) Z Z (fun wT=>?_) (fun wT=>?_) ?_
   · replace Cv:=cO wT Cv; refine Ev.is uq 35 wT Z (Ev.cs aG 1 Z ?_); refine BR Cv fun H8 Ic Cv=>?_; refine Ev.run Z Z Z Z Z Z Z (AO.call Z _ Z Z GD (kM _ Ic zg)) ?_; cases Cv; refine Ev.cs aG 1 Z ?_; exact Ev.nil (Less.settle (ps:=[38,6,8,32]) Z)
   · replace Cv:=cZ wT Cv; refine Ev.is uq 35 wT Z ?_; cases Cv; refine Ev.cs aG 3 Z ?_; exact Ev.nil (Less.settle (ps:=[38,6,8,32]) Z)
   refine Ev.cs aG 1 Z (Ev.or1 (hKE UN) 3 39 42 [6,8,32] (rV == 3) Z Z (fun h27=>?_) (fun h27=>?_) ?_)
   · refine Ev.is uq 39 h27 Z (Ev.cs aG 3 Z ?_); exact Ev.nil (Less.settle (ps:=[42,6,8,32]) Z)
   · refine Ev.is uq 39 h27 Z (Ev.cs aG 3 Z ?_); exact Ev.nil (Less.settle (ps:=[42,6,8,32]) Z)
   refine Ev.cs aG 1 Z (Ev.nil ?_); show Ev _ _ _ _ _ _ _
   refine Ev.or1 UN 3 43 46 [6,32] (rV == 4) Z Z (fun RQ=>?_) (fun RQ=>?_) ?_
   · refine Ev.is uq 43 RQ Z (Ev.cs aG 3 Z ?_); exact Ev.nil (Less.settle (ps:=[46,6,32]) Z)
   · refine Ev.is uq 43 RQ Z (Ev.cs aG 3 Z ?_); exact Ev.nil (Less.settle (ps:=[46,6,32]) Z)
   refine Ev.nil (TF.dh Z Z (AO.dW (i:=0) Z Z Z bI Z Z Z Z Z (TF.nil ?_))); show AR _ _ _ _ _ _ _ _
   cases hf; exact N 1 Z (ZC [0] Z Z h)
  cases h19.symm.trans h20
 refine V 2 Z (C hf Z (fun Na hf=>?_) fun Na hf=>?_)
 ·
  refine V 0 Z (AW.cond Z (fun LY=>?_) (fun LY=>?_))
  ·
   refine B1 hf fun kx2 h31 hf=>W 2 Z (CL Z (Cr _ _ h31 (J 1 Z (AW.Bc 12 15 16 0 mixed (by kernel_rfl) (by kernel_rfl) (by kernel_rfl) Z Z Z Z ?_)))); refine B1 hf fun LQ h32 hf=>Ev.cons Z Z Z (AO.call Z _ Z Z Aj (iU _ h32 zg)) (Ev.cs aG 1 Z ?_); refine B1 hf fun Mg Js hf=>Ev.cons Z Z Z (AO.call Z _ Z Z GD (kM _ Js zg)) (Ev.cs aG 1 Z ?_); refine B1 hf fun b5 PK hf=>Ev.dB (hKE UN) 3 35 38 true [6,8,32] (.bool b5) Z Z (fun XE=>?_) (fun XE=>?_) ?_
   · replace PK:=cO XE PK; refine Ev.is uq 35 XE Z (Ev.cs aG 1 Z ?_); refine BR PK fun RP QZ PK=>?_; refine Ev.run Z Z Z Z Z Z Z (AO.call Z _ Z Z GD (kM _ QZ zg)) ?_; cases PK; refine Ev.cs aG 1 Z ?_; exact Ev.nil (Less.settle (ps:=[38,6,8,32]) Z)
   · replace PK:=cZ XE PK; refine Ev.is uq 35 XE Z ?_; cases PK; refine Ev.cs aG 3 Z ?_; exact Ev.nil (Less.settle (ps:=[38,6,8,32]) Z)
   refine Ev.cs aG 1 Z (Ev.or1 (hKE UN) 3 39 42 [6,8,32] (kx2 == 3) Z Z (fun h37=>?_) (fun h37=>?_) ?_)
   · refine Ev.is uq 39 h37 Z (Ev.cs aG 3 Z ?_); exact Ev.nil (Less.settle (ps:=[42,6,8,32]) Z)
   · refine Ev.is uq 39 h37 Z (Ev.cs aG 3 Z ?_); exact Ev.nil (Less.settle (ps:=[42,6,8,32]) Z)
   refine Ev.cs aG 1 Z (Ev.nil ?_); show Ev _ _ _ _ _ _ _
   refine Ev.or1 UN 3 43 46 [6,32] (kx2 == 4) Z Z (fun UO=>?_) (fun UO=>?_) ?_
   · refine Ev.is uq 43 UO Z (Ev.cs aG 3 Z ?_); exact Ev.nil (Less.settle (ps:=[46,6,32]) Z)
   · refine Ev.is uq 43 UO Z (Ev.cs aG 3 Z ?_); exact Ev.nil (Less.settle (ps:=[46,6,32]) Z)
   refine Ev.nil (TF.dh Z Z (AO.dW (i:=0) Z Z Z bI Z Z Z Z Z (TF.nil ?_))); show AR _ _ _ _ _ _ _ _
   cases hf; exact N 1 Z (ZC [0] Z Z h)
  cases Na.symm.trans LY
 refine V 2 Z (C hf Z (fun OC hf=>?_) fun OC hf=>?_)
 ·
  refine V 0 Z (AW.cond Z (fun h40=>?_) (fun h40=>?_))
  ·
   refine B1 hf fun kx3 h41 hf=>W 2 Z (CL Z (Cr _ _ h41 (J 1 Z (AW.Bc 12 15 16 0 mixed (by kernel_rfl) (by kernel_rfl) (by kernel_rfl) Z Z Z Z ?_)))); refine B1 hf fun RO h42 hf=>Ev.cons Z Z Z (AO.call Z _ Z Z Aj (iU _ h42 zg)) (Ev.cs aG 1 Z ?_); refine B1 hf fun LP h43 hf=>Ev.cons Z Z Z (AO.call Z _ Z Z GD (kM _ h43 zg)) (Ev.cs aG 1 Z ?_); refine B1 hf fun b6 h45 hf=>Ev.dB (hKE UN) 3 35 38 true [6,8,32] (.bool b6) Z Z (fun h44=>?_) (fun h44=>?_) ?_
   · replace h45:=cO h44 h45; refine Ev.is uq 35 h44 Z (Ev.cs aG 1 Z ?_); refine BR h45 fun XD h46 h45=>?_; refine Ev.run Z Z Z Z Z Z Z (AO.call Z _ Z Z GD (kM _ h46 zg)) ?_; cases h45; refine Ev.cs aG 1 Z ?_; exact Ev.nil (Less.settle (ps:=[38,6,8,32]) Z)
   · replace h45:=cZ h44 h45; refine Ev.is uq 35 h44 Z ?_; cases h45; refine Ev.cs aG 3 Z ?_; exact Ev.nil (Less.settle (ps:=[38,6,8,32]) Z)
   refine Ev.cs aG 1 Z (Ev.or1 (hKE UN) 3 39 42 [6,8,32] (kx3 == 3) Z Z (fun h47=>?_) (fun h47=>?_) ?_)
   · refine Ev.is uq 39 h47 Z (Ev.cs aG 3 Z ?_); exact Ev.nil (Less.settle (ps:=[42,6,8,32]) Z)
   · refine Ev.is uq 39 h47 Z (Ev.cs aG 3 Z ?_); exact Ev.nil (Less.settle (ps:=[42,6,8,32]) Z)
   refine Ev.cs aG 1 Z (Ev.nil ?_); show Ev _ _ _ _ _ _ _
   refine Ev.or1 UN 3 43 46 [6,32] (kx3 == 4) Z Z (fun h48=>?_) (fun h48=>?_) ?_
   · refine Ev.is uq 43 h48 Z (Ev.cs aG 3 Z ?_); exact Ev.nil (Less.settle (ps:=[46,6,32]) Z)
   · refine Ev.is uq 43 h48 Z (Ev.cs aG 3 Z ?_); exact Ev.nil (Less.settle (ps:=[46,6,32]) Z)
   refine Ev.nil (TF.dh Z Z (AO.dW (i:=0) Z Z Z bI Z Z Z Z Z (TF.nil ?_))); show AR _ _ _ _ _ _ _ _
   cases hf; exact N 1 Z (ZC [0] Z Z h)
  cases OC.symm.trans h40
 refine V 2 Z (C hf Z (fun h49 hf=>?_) fun h49 hf=>?_)
 ·
  refine B1 hf fun kx4 h50 hf=>W 2 Z (CL Z (Cr _ _ h50 (J 1 Z (AW.Bc 12 15 16 0 mixed (by kernel_rfl) (by kernel_rfl) (by kernel_rfl) Z Z Z Z ?_)))); refine B1 hf fun x18 h51 hf=>Ev.cons Z Z Z (AO.call Z _ Z Z Aj (iU _ h51 zg)) (Ev.cs aG 1 Z ?_); refine B1 hf fun x19 h52 hf=>Ev.cons Z Z Z (AO.call Z _ Z Z GD (kM _ h52 zg)) (Ev.cs aG 1 Z ?_); refine B1 hf fun b7 h54 hf=>Ev.dB (hKE UN) 3 35 38 true [6,8,32] (.bool b7) Z Z (fun Sr=>?_) (fun Sr=>?_) ?_
  · replace h54:=cO Sr h54; refine Ev.is uq 35 Sr Z (Ev.cs aG 1 Z ?_); refine BR h54 fun x20 h55 h54=>?_; refine Ev.run Z Z Z Z Z Z Z (AO.call Z _ Z Z GD (kM _ h55 zg)) ?_; cases h54; refine Ev.cs aG 1 Z ?_; exact Ev.nil (Less.settle (ps:=[38,6,8,32]) Z)
  · replace h54:=cZ Sr h54; refine Ev.is uq 35 Sr Z ?_; cases h54; refine Ev.cs aG 3 Z ?_; exact Ev.nil (Less.settle (ps:=[38,6,8,32]) Z)
  refine Ev.cs aG 1 Z (Ev.or1 (hKE UN) 3 39 42 [6,8,32] (kx4 == 3) Z Z (fun h56=>?_) (fun h56=>?_) ?_)
  · refine Ev.is uq 39 h56 Z (Ev.cs aG 3 Z ?_); exact Ev.nil (Less.settle (ps:=[42,6,8,32]) Z)
  · refine Ev.is uq 39 h56 Z (Ev.cs aG 3 Z ?_); exact Ev.nil (Less.settle (ps:=[42,6,8,32]) Z)
  refine Ev.cs aG 1 Z (Ev.nil ?_); show Ev _ _ _ _ _ _ _
  refine Ev.or1 UN 3 43 46 [6,32] (kx4 == 4) Z Z (fun h57=>?_) (fun h57=>?_) ?_
  · refine Ev.is uq 43 h57 Z (Ev.cs aG 3 Z ?_); exact Ev.nil (Less.settle (ps:=[46,6,32]) Z)
  · refine Ev.is uq 43 h57 Z (Ev.cs aG 3 Z ?_); exact Ev.nil (Less.settle (ps:=[46,6,32]) Z)
  refine Ev.nil (TF.dh Z Z (AO.dW (i:=0) Z Z Z bI Z Z Z Z Z (TF.nil ?_))); show AR _ _ _ _ _ _ _ _
  cases hf; exact N 1 Z (ZC [0] Z Z h)
 refine V 2 Z (C hf Z (fun h58 hf=>?_) fun h58 hf=>?_)
 · replace hf:=(eH _).trans hf; obtain ⟨x21,x22,h59,hf⟩:=aV hf; refine W 2 Z (CL Z (ahR _ _ h59 ?_)); cases hf; exact Rx 4 [0] Z Z (ZC [0] Z Z h)
 refine V 0 Z (AW.Bc 4 7 8 0 mixed (by kernel_rfl) (by kernel_rfl) (by kernel_rfl) Z Z Z Z ?_); refine B1 hf fun x23 h60 hf=>Ev.cons Z Z Z (AO.call Z _ Z Z Aj (iU _ h60 zg)) (Ev.cs aG 1 Z ?_); refine B1 hf fun x24 h61 hf=>Ev.cons Z Z Z (AO.call Z _ Z Z pU (jW _ _ h61 zg)) (Ev.cs aG 1 Z (Ev.nil ?_)); show Ev _ _ _ _ _ _ _
 refine B1 hf fun b8 h63 hf=>Ev.dB UN 3 57 60 true [6,54] (.bool b8) Z Z (fun h62=>?_) (fun h62=>?_) ?_
 · replace h63:=cO h62 h63; refine Ev.is uq 57 h62 Z (Ev.cs aG 1 Z ?_); refine BR h63 fun x25 h64 h63=>?_; refine Ev.run Z Z Z Z Z Z Z (AO.call Z _ Z Z pU (jW _ _ h64 zg)) ?_; cases h63; refine Ev.cs aG 1 Z ?_; exact Ev.nil (Less.settle (ps:=[60,6,54]) Z)
 · replace h63:=cZ h62 h63; refine Ev.is uq 57 h62 Z ?_; cases h63; refine Ev.cs aG 3 Z ?_; exact Ev.nil (Less.settle (ps:=[60,6,54]) Z)
 refine Ev.nil (TF.dh Z Z (AO.dW (i:=0) Z Z Z bI Z Z Z Z Z (TF.nil ?_))); show AR _ _ _ _ _ _ _ _
 cases hf; exact N 1 Z (ZC [0] Z Z h)

theorem afl (e1:aj) (l1:List ak) {r0:ak} {r1:Bool} (hf:gN e1 l1=some (r0,r1)) (h:Q (.ret (.tuple [.agg (aW r0),.bool r1])) τ):PC 99 [.agg (bA e1),.list (ak.aU l1)] τ Q:=by
 unfold gN at hf; refine BN 108 [.cell 4 54,.tmp 5] [0,1] Tryz.func99 Z Z Z Z Z (W 1 Z (AS Z (AO.aF Z jk (fun b4=>(J 5 Z (C hf Z (fun h1 hf=>?_) fun h1 hf=>?_))))))
 ·
  refine B1 hf fun e2 h2 hf=>W 1 Z (AS Z (AO.aI h2 Z Z (ak.aB _) Z fZ (ak.aD _) Z (J 3 Z (C hf Z (fun h3 hf=>?_) fun h3 hf=>?_))))
  · refine B1 hf fun e3 h4 hf=>W 1 Z (AS Z (AO.aI h4 Z Z (ak.aB _) Z fZ (ak.aD _) Z ?_)); refine B1 hf fun e4 h5 hf=>U 2 Z (AS Z (AO.aI h5 Z Z (ak.aB _) Z fZ (ak.aD _) Z ?_)); cases hf; exact Rx 3 [0] Z Z (ZC [0] Z Z h)
  refine V 0 Z (AW.draw 7 mixed (by kernel_rfl) Z ?_); refine Ev.cs aG 1 Z ?_; refine B1 hf fun e5 h6 hf=>Ev.cons Z Z Z (AO.aI h6 Z Z (ak.aB _) Z fZ (ak.aD _) Z zg) (Ev.cs aG 2 Z ?_); refine B1 hf fun e6 h7 hf=>Ev.cons Z Z Z (AO.aI h7 Z Z (ak.aB _) Z fZ (ak.aD _) Z zg) (Ev.cs aG 1 Z ?_); refine B1 hf fun x1 h8 hf=>Ev.cons Z Z Z (AO.call Z _ Z Z GD (kM _ h8 zg)) (Ev.nil ?_); show AR _ _ _ _ _ _ _ _
  cases hf; exact Rx 2 [0] Z Z (ZC [0] Z Z h)
 refine V 2 Z (C hf Z (fun h9 hf=>?_) fun h9 hf=>?_)
 ·
  refine V 0 Z (AW.draw 9 mixed (by kernel_rfl) Z ?_); refine Ev.cs aG 1 Z ?_; refine B1 hf fun e7 h10 hf=>Ev.cons Z Z Z (AO.aI h10 Z Z (ak.aB _) Z fZ (ak.aD _) Z zg) (Ev.cs aG 2 Z ?_); refine B1 hf fun e8 h11 hf=>Ev.cons Z Z Z (AO.aI h11 Z Z (ak.aB _) Z fZ (ak.aD _) Z zg) (Ev.cs aG 1 Z ?_); replace hf:=(eH _).trans hf; obtain ⟨x2,x3,h12,hf⟩:=aV hf
  refine Ev.cons Z Z Z (AO.call Z _ Z Z an6 (adA _ _ h12 zg)) (Ev.cs aG 2 Z (Ev.nil ?_)); show AR _ _ _ _ _ _ _ _
  cases hf; exact Rx 2 [0] Z Z (ZC [0] Z Z h)
 refine V 2 Z (C hf Z (fun jJ hf=>?_) fun jJ hf=>?_)
 · replace hf:=(eH _).trans hf; obtain ⟨x4,x5,j5,hf⟩:=aV hf; refine W 3 Z (CL Z (afo _ _ j5 ?_)); cases hf; exact Rx 4 [0] Z Z (ZC [0] Z Z h)
 refine V 2 Z (C hf Z (fun mo hf=>?_) fun mo hf=>?_)
 ·
  refine V 4 Z (C hf Z (fun h16 hf=>?_) fun h16 hf=>?_)
  ·
   refine V 1 Z (AW.draw 7 mixed (by kernel_rfl) Z ?_); refine Ev.cs aG 1 Z ?_; refine B1 hf fun x6 qB hf=>Ev.cons Z Z Z (AO.call Z _ Z Z Aj (iU _ qB zg)) (Ev.cs aG 1 Z ?_); refine B1 hf fun e9 h18 hf=>Ev.cons Z Z Z (AO.aI h18 Z Z (ak.aB _) Z fZ (ak.aD _) Z zg) (Ev.cs aG 2 Z ?_); refine B1 hf fun x7 h19 hf=>Ev.cons Z Z Z (AO.call Z _ Z Z pU (jW _ _ h19 zg)) (Ev.nil ?_); show AR _ _ _ _ _ _ _ _
   cases hf; exact Rx 2 [0] Z Z (ZC [0] Z Z h)
  refine V 0 Z (AW.draw 7 mixed (by kernel_rfl) Z ?_); refine Ev.cs aG 1 Z ?_; refine B1 hf fun x8 h20 hf=>Ev.cons Z Z Z (AO.call Z _ Z Z Aj (iU _ h20 zg)) (Ev.cs aG 1 Z ?_); refine B1 hf fun e10 h21 hf=>Ev.cons Z Z Z (AO.aI h21 Z Z (ak.aB _) Z fZ (ak.aD _) Z zg) (Ev.cs aG 2 Z ?_); refine B1 hf fun x9 h22 hf=>Ev.cons Z Z Z (AO.call Z _ Z Z pU (jW _ _ h22 zg)) (Ev.nil ?_); show AR _ _ _ _ _ _ _ _
  cases hf; exact Rx 2 [0] Z Z (ZC [0] Z Z h)
 refine V 2 Z (C hf Z (fun h23 hf=>?_) fun h23 hf=>?_)
 ·
  refine V 0 Z (AW.draw 11 mixed (by kernel_rfl) Z ?_); refine Ev.cs aG 3 Z ?_; refine B1 hf fun e11 wT hf=>Ev.cons Z Z Z (AO.aI wT Z Z (ak.aB _) Z fZ (ak.aD _) Z zg) (Ev.cs aG 2 Z ?_); refine B1 hf fun e12 Cv hf=>Ev.cons Z Z Z (AO.aI Cv Z Z (ak.aB _) Z fZ (ak.aD _) Z zg) (Ev.cs aG 1 Z ?_); replace hf:=(eH _).trans hf; obtain ⟨wS,H8,Ic,hf⟩:=aV hf
  refine Ev.cons Z Z Z (AO.call Z _ Z Z an5 (abn _ _ _ Ic zg)) (Ev.cs aG 2 Z (Ev.nil ?_)); show AR _ _ _ _ _ _ _ _
  cases hf; exact Rx 2 [0] Z Z (ZC [0] Z Z h)
 refine V 2 Z (C hf Z (fun h27 hf=>?_) fun h27 hf=>?_)
 ·
  refine V 0 Z (AW.draw 11 mixed (by kernel_rfl) Z ?_); refine Ev.cs aG 1 Z ?_; refine B1 hf fun e13 RQ hf=>Ev.cons Z Z Z (AO.aI RQ Z Z (ak.aB _) Z fZ (ak.aD _) Z zg) (Ev.cs aG 2 Z ?_); refine B1 hf fun e14 Na hf=>Ev.cons Z Z Z (AO.aI Na Z Z (ak.aB _) Z fZ (ak.aD _) Z zg) (Ev.cs aG 1 Z ?_); refine B1 hf fun LQ LY hf=>Ev.cons Z Z Z (AO.call Z _ Z Z aeF (Qa _ _ LY zg)) (Ev.cs aG 1 Z ?_); refine B1 hf fun e15 h31 hf=>Ev.cons Z Z Z (AO.aI h31 Z Z (ak.aB _) Z fZ (ak.aD _) Z zg) (Ev.cs aG 1 Z ?_)
  refine B1 hf fun Mg h32 hf=>Ev.cons Z Z Z (AO.call Z _ Z Z pU (jW _ _ h32 zg)) (Ev.nil ?_); show AR _ _ _ _ _ _ _ _
  cases hf; exact Rx 2 [0] Z Z (ZC [0] Z Z h)
 refine B1 hf fun RP Js hf=>W 0 Z (CL Z (iU _ Js (AS Z (AO.aF Z jk (fun b7=>?_))))); refine Rw 2 [0] Z Z (Xy (fun i1 t1=>[(1,.list (ak.aU l1)),(2,.ref (bA e1)),(4,pP b4),(7,pP b7),(8,iP i1)]) (fun i1 t1=>[.box b7 (aW t1),.box b4 [iP 0,.own (.slice none 0 0) []]]) (fun bT i1 t1=>Ei e1 l1 bT i1 t1=some (r0,r1)) BIG 0 RP Z Z hf (fun _ _ hz=>bQ hz) ?_); intro bT i1 t1 hf; rw [Ei] at hf
 refine W 2 Z (AS Z (AO.aP (l:=l1) Z Z Z Z fZ Z (ak.aB _) (J 1 Z (C hf Z (fun XE hf=>?_) fun XE hf=>?_))))
 ·
  refine V 0 Z (AW.draw 6 mixed (by kernel_rfl) Z ?_); refine Ev.cons Z Z Z (AO.aY (i:=0) Z Z Z bI Z Z zg) (Ev.cs aG 2 Z ?_); refine B1 hf fun e16 PK hf=>Ev.cons Z Z Z (AO.aI PK Z Z (ak.aB _) Z fZ (ak.aD _) Z zg) (Ev.cs aG 1 Z ?_); refine B1 hf fun RO QZ hf=>Ev.cons Z Z Z (AO.call Z _ Z Z aeF (Qa _ _ QZ zg)) (Ev.nil ?_); show AR _ _ _ _ _ _ _ _
  exact Rx 4 [0] Z Z ⟨(bZ (i1 + 1)),RO,Z,Z,Z,hf⟩
 refine V 3 Z (C hf Z (fun h37 hf=>?_) fun h37 hf=>?_)
 · refine B1 hf fun LP UO hf=>Wr 1 [0] Z Z (CL Z (uj _ _ UO ?_)); cases hf; exact Rx 2 [1] Z Z (ZC [1] Z Z h)
 refine B1 hf fun XD OC hf=>Wr 1 [0] Z Z (CL Z (uj _ _ OC ?_)); cases hf; exact Rx 2 [1] Z Z (ZC [1] Z Z h)


abbrev XA (qP:aj→List aH→Option (ak × Int)):Prop:=∀ (iY:aj) (eU:List aH) {aR:ak} {iW:Int},qP iY eU=some (aR,iW)→∀ {τ:List bJ} {Q:eT→List bJ→Prop} (h:Q (.ret (.tuple [.agg (aW aR),iP iW])) τ),PC 61 [.agg (bA iY),.list (List.map aH.cells eU)] τ Q
theorem aed (qP) (aaV:XA qP) (e1:aj) (cB:List aH) {r0:ak} {r1:Int} (hf:Ah qP e1 cB=some (r0,r1)) (h:Q (.ret (.tuple [.agg (aW r0),iP r1])) τ):PC 61 [.agg (bA e1),.list (List.map aH.cells cB)] τ Q:=by
 unfold Ah at hf; refine BN 87 [.cell 4 54,.tmp 5] [0,1] Tryz.func61 Z Z Z Z Z (W 1 Z (AS Z (AO.aF Z jk (fun b4=>(U 5 Z (On 4 15 19 [1,2,4] (e1.kind == 2) Z Z Z Z (J 0 Z (C hf Z (fun h2 hf=>?_) fun h2 hf=>?_))))))))
 · replace hf:=(eH _).trans hf; obtain ⟨x1,x2,h3,hf⟩:=aV hf; refine W 2 Z (CL Z (afm _ _ h3 ?_)); cases hf; exact Rx 4 [0] Z Z (ZC [0] Z Z h)
 refine B1 hf fun b1 h5 hf=>W 4 Z (AR.dB 5 28 33 true [1,2,4] b1 Z Z (fun h4=>?_) (fun h4=>?_) ?_)
 · refine IT 28 h4 h5 Z fun h5=>?_; refine B1 h5 fun x3 h6 h5=>U 2 Z (GO Z (AO.call Z _ Z Z af9 (K6 _ h6 ?_))); cases h5; exact eG 2 Z (En [33,1,2,4] Z)
 · refine IF 28 h4 h5 Z fun h5=>?_; cases h5; exact eG 5 Z (En [33,1,2,4] Z)
 refine J 0 Z (C hf Z (fun h7 hf=>?_) fun h7 hf=>?_)
 · cases hf; exact Wx 3 [0] Z Z (ZC [0] Z Z h)
 refine V 0 Z (AW.draw 12 mixed (by kernel_rfl) Z ?_); refine Ev.cs aG 4 Z ?_; refine B1 hf fun b2 h9 hf=>Ev.dB hKA 8 38 46 true [1,2,4] (.bool b2) Z Z (fun h8=>?_) (fun h8=>?_) ?_
 · replace h9:=cO h8 h9; refine Ev.is uq 38 h8 Z (Ev.cs aG 2 Z ?_); refine B1 h9 fun x4 h10 h9=>Ev.run Z Z Z Z Z Z Z (AO.call Z _ Z Z af9 (K6 _ h10 zg)) (Ev.cs aG 2 Z (Ev.run Z Z Z Z Z Z Z (AO.aP (l:=e1.args) Z Z Z Z iT Z (aj.aB _) zg) (Ev.cs aG 1 Z ?_))); cases h9; refine Ev.cs aG 1 Z ?_; exact Ev.nil (Less.settle (ps:=[46,1,2,4]) Z)
 · replace h9:=cZ h8 h9; refine Ev.is uq 38 h8 Z ?_; cases h9; refine Ev.cs aG 8 Z ?_; exact Ev.nil (Less.settle (ps:=[46,1,2,4]) Z)
 refine Ev.nil ?_; show AR _ _ _ _ _ _ _ _
 refine J 0 Z (C hf Z (fun h11 hf=>?_) fun h11 hf=>?_)
 · cases hf; exact Wx 3 [0] Z Z (ZC [0] Z Z h)
 refine V 2 Z (AW.row 2 54 (ZU (fun l1 v1 i1=>[(1,.list (List.map aH.cells cB)),(2,.ref (bA e1)),(4,pP b4),(6,.own v1 (ak.aU l1)),(7,iP i1)]) (fun l1 v1 i1=>[.row v1 (ak.aU l1).length 2 54,.box b4 [iP 0,.own (.slice none 0 0) []]]) (fun bT l1 v1 i1=>sM qP e1 cB bT l1 i1=some (r0,r1)) BIG [] (.slice none 0 0) 0 Z Z hf (fun _ _ _ hz=>bQ hz) ?_)); intro bT l1 v1 i1 hf; rw [sM] at hf
 refine W 3 Z (AS Z (AO.aP (l:=e1.args) Z Z Z Z iT Z (aj.aB _) (J 1 Z (C hf Z (fun h12 hf=>?_) fun h12 hf=>?_))))
 ·
  refine B1 hf fun e2 jJ hf=>W 3 Z (AS Z (AO.aI jJ Z Z (aj.aB _) Z iT (aj.aD _) Z ?_)); obtain ⟨x5,f1,j5,hf⟩:=aV hf; refine U 2 Z (CL Z (aaV _ _ j5 (U 3 Z (AS Z (AO.aF Z jk (fun b8=>(Rw 4 [0] Z Z (C hf Z (fun mo hf=>?_) fun mo hf=>?_))))))))
  · cases hf; exact Wx 4 [2] Z Z (ZC [2] Z Z h)
  refine Wr 2 [0] rfl rfl (AS rfl (AO.aS (ak.aU [x5]) rfl uZ rfl rfl rfl (by first | rfl | simp only [List.map,ak.aD,ak.aU]) ?_)); refine B1 hf fun l2 h16 hf=>AS Z (AO.fK (i:=1) (l:=l1) (m:=[x5]) h16 Z Z Z Z Z Z Z uZ fZ (ak.aB _) (ak.aB _) (ak.aB _).symm (ak.dD) (ak.cells_one) (by decide) (fun v2 s1 hs1=>?_)); cases hs1; refine eG 4 Z (AR.drop1 ?_); exact N 0 Z ⟨l2,v2,(bZ (i1 + 1)),Z,Z,Z,hf⟩
 obtain ⟨x6,ok1,qB,hf⟩:=aV hf; refine W 2 Z (CL Z (afl _ _ qB (U 3 Z (AS Z (AO.aF Z jk (fun b10=>(Rw 4 [0] Z Z (C hf Z (fun h18 hf=>?_) fun h18 hf=>?_))))))))
 · cases hf; exact Wx 3 [2] Z Z (ZC [2] Z Z h)
 refine B1 hf fun x7 h19 hf=>Wr 1 [0] Z Z (CL Z (I5 _ h19 (J 1 Z (C hf Z (fun h20 hf=>?_) fun h20 hf=>?_))))
 · cases hf; exact Wx 3 [2] Z Z (ZC [2] Z Z h)
 cases hf; exact Wx 3 [0,2] Z Z (ZC [2] Z Z h)
theorem aeP :∀ k:Nat,(XA (jM k)):=by
 intro k
 induction k with
 | zero=>exact fun _ _ _ _ hz=>by first | cases hz | (unfold jM at hz; cases hz)
 | succ k ih=>exact fun iY eU aR iW hz τ Q hq=>aed (jM k) ih iY eU hz hq
theorem WW (iY:aj) (eU:List aH) {aR:ak} {iW:Int} (hf:pK iY eU=some (aR,iW)) (h:Q (.ret (.tuple [.agg (aW aR),iP iW])) τ):PC 61 [.agg (bA iY),.list (List.map aH.cells eU)] τ Q:=
 ((aeP BIG)) iY eU hf h

theorem WX (e1:aj) (cB:List aH) {r0:ak} {r1:Int} (hf:Bt e1 cB=some (r0,r1)) (h:Q (.ret (.tuple [.agg (aW r0),iP r1])) τ):PC 37 [.agg (bA e1),.list (List.map aH.cells cB)] τ Q:=by
 unfold Bt at hf; refine BN 25 [.cell 4 54,.tmp 5] [0,1] Tryz.func37 Z Z Z Z Z (W 1 Z (AS Z (AO.aF Z jk (fun b4=>?_)))); refine B1 hf fun f1 h1 hf=>U 2 Z (CL Z (ahS _ h1 (J 3 Z (C hf Z (fun h2 hf=>?_) fun h2 hf=>?_))))
 · cases hf; exact Wx 4 [0] Z Z (ZC [0] Z Z h)
 refine B1 hf fun f2 h3 hf=>W 1 Z (CL Z (TK _ h3 (J 3 Z (C hf Z (fun h4 hf=>?_) fun h4 hf=>?_))))
 · cases hf; exact Wx 4 [0] Z Z (ZC [0] Z Z h)
 replace hf:=(eH _).trans hf; obtain ⟨x1,x2,h5,hf⟩:=aV hf; refine W 2 Z (CL Z (WW _ _ h5 ?_)); cases hf; exact Rx 4 [0] Z Z (ZC [0] Z Z h)


end Go.Proofs.YtggpjlegajicnaaGreatDoor
