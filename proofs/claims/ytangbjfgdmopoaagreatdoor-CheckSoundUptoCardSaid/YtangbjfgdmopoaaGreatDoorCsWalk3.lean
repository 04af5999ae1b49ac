/- Proved here: each function does what its functional text says (part 3). -/
import Derived.Test.YtangbjfgdmopoaaGreatDoorCsWalk2
set_option linter.unusedVariables false
set_option linter.unusedSimpArgs false
set_option linter.unusedSectionVars false
namespace Go.Proofs.YtangbjfgdmopoaaGreatDoor
open Go Go.Abs Go.Ft
set_option maxRecDepth 20000
attribute [local irreducible] AO AR AW AC
variable [iw]
variable {τ : List bE} {Q : eZ → List bE → Prop}
theorem Tt (a1:av) (b1:av) {r0:Int} (hf:Oe a1 b1=some r0) {τ:List bE} {Q:eZ→List bE→Prop} (h:Q (.ret (iP r0)) τ):PC 178 [.agg (za a1),.agg (za b1)] τ Q:=by
 unfold Oe at hf; refine BN 10 [.tmp 4] [0,1] Tryz.func178 Z Z Z Z Z ?_; replace hf:=(aJ _).trans hf; refine B1 hf fun x1 h1 hf=>W 7 Z (CL Z (Cc _ _ h1 ?_)); cases hf; exact N 1 Z (Y Z h)
def IB :Go.Shelf.Ren:=⟨fun | 6=>177 | 15=>224 | 14=>223 | 28=>262 | 29=>263 | 20=>254 | 21=>255 | 22=>256 | 23=>257 | 24=>258 | 25=>259 | 26=>260 | 27=>261 | 46=>283 | 47=>284 | 48=>285 | 49=>286 | 50=>287 | 57=>305 | n=>n,fun | 22=>29 | 24=>49 | 25=>173 | 3=>3 | 39=>211 | 0=>0 | 53=>231 | 55=>201 | 4=>4 | 46=>225 | 45=>224 | 50=>164 | 5=>5 | 9=>9 | 66=>253 | 70=>257 | 76=>271 | 77=>272 | n=>n,fun | n=>n⟩
theorem Nb :Go.Proofs.SlLaysF0.n6 Tryz.prog IB:={
 mixed:=by kernel_rfl
 f6:=⟨Tryz.f177.name,by decide,Tryz.func177.trans (congrArg some (by kernel_rfl))⟩
 f14:=⟨Tryz.f223.name,by decide,Tryz.func223.trans (congrArg some (by kernel_rfl))⟩
 f15:=Tryz.func224.trans (congrArg some (by kernel_rfl))
 f20:=⟨Tryz.f254.name,by decide,Tryz.func254.trans (congrArg some (by kernel_rfl))⟩
 f21:=⟨Tryz.f255.name,by decide,Tryz.func255.trans (congrArg some (by kernel_rfl))⟩
 f22:=⟨Tryz.f256.name,by decide,Tryz.func256.trans (congrArg some (by kernel_rfl))⟩
 f23:=⟨Tryz.f257.name,by decide,Tryz.func257.trans (congrArg some (by kernel_rfl))⟩
 f24:=⟨Tryz.f258.name,by decide,Tryz.func258.trans (congrArg some (by kernel_rfl))⟩
 f25:=⟨Tryz.f259.name,by decide,Tryz.func259.trans (congrArg some (by kernel_rfl))⟩
 f26:=⟨Tryz.f260.name,by decide,Tryz.func260.trans (congrArg some (by kernel_rfl))⟩
 f27:=⟨Tryz.f261.name,by decide,Tryz.func261.trans (congrArg some (by kernel_rfl))⟩
 f28:=Tryz.func262.trans (congrArg some (by kernel_rfl))
 f29:=Tryz.func263.trans (congrArg some (by kernel_rfl))
 f46:=⟨Tryz.f283.name,by decide,Tryz.func283.trans (congrArg some (by kernel_rfl))⟩
 f47:=Tryz.func284.trans (congrArg some (by kernel_rfl))
 f48:=Tryz.func285.trans (congrArg some (by kernel_rfl))
 f49:=⟨Tryz.f286.name,by decide,Tryz.func286.trans (congrArg some (by kernel_rfl))⟩
 f50:=⟨Tryz.f287.name,by decide,Tryz.func287.trans (congrArg some (by kernel_rfl))⟩
 f57:=⟨Tryz.f305.name,by decide,Tryz.func305.trans (congrArg some (by kernel_rfl))⟩
 t0:=Tryz.underlying0
 a0:=Tryz.isAgg0
 z0:=Tryz.sizeOf0
 v0:=Tryz.zeroValue0
 t3:=Tryz.underlying3
 a3:=Tryz.isAgg3
 z3:=Tryz.sizeOf3
 v3:=Tryz.zeroValue3
 t4:=Tryz.underlying4
 a4:=Tryz.isAgg4
 z4:=Tryz.sizeOf4
 v4:=Tryz.zeroValue4
 t5:=Tryz.underlying5
 a5:=Tryz.isAgg5
 z5:=Tryz.sizeOf5
 v5:=Tryz.zeroValue5
 t9:=Tryz.underlying9
 a9:=Tryz.isAgg9
 z9:=Tryz.sizeOf9
 v9:=Tryz.zeroValue9
 t22:=Tryz.underlying29
 a22:=Tryz.isAgg29
 z22:=Tryz.sizeOf29
 v22:=Tryz.zeroValue29
 t25:=Tryz.underlying173
 a25:=Tryz.isAgg173
 z25:=Tryz.sizeOf173
 v25:=Tryz.zeroValue173
 t39:=Tryz.underlying211
 a39:=Tryz.isAgg211
 z39:=Tryz.sizeOf211
 v39:=Tryz.zeroValue211
 t45:=Tryz.underlying224
 a45:=Tryz.isAgg224
 z45:=Tryz.sizeOf224
 v45:=Tryz.zeroValue224
 t46:=Tryz.underlying225
 a46:=Tryz.isAgg225
 z46:=Tryz.sizeOf225
 v46:=Tryz.zeroValue225
 t50:=Tryz.underlying164
 a50:=Tryz.isAgg164
 z50:=Tryz.sizeOf164
 v50:=Tryz.zeroValue164
 t53:=Tryz.underlying231
 a53:=Tryz.isAgg231
 z53:=Tryz.sizeOf231
 v53:=Tryz.zeroValue231
 t55:=Tryz.underlying201
 a55:=Tryz.isAgg201
 z55:=Tryz.sizeOf201
 v55:=Tryz.zeroValue201
 t66:=Tryz.underlying253
 a66:=Tryz.isAgg253
 z66:=Tryz.sizeOf253
 v66:=Tryz.zeroValue253
 t70:=Tryz.underlying257
 a70:=Tryz.isAgg257
 z70:=Tryz.sizeOf257
 v70:=Tryz.zeroValue257
 t76:=Tryz.underlying271
 a76:=Tryz.isAgg271
 z76:=Tryz.sizeOf271
 v76:=Tryz.zeroValue271
 t77:=Tryz.underlying272
 a77:=Tryz.isAgg272
 z77:=Tryz.sizeOf272
 v77:=Tryz.zeroValue272}


theorem Lf (s1:List av) {r0:List av} (hf:Uk (fun x=>x.name) s1=some r0) {v:Value} {e:TypeId} {Q:eZ→List bE→Prop} (h:Q (.ret (.tuple [])) [.buf v (List.map av.cells r0).length 7 e (r0.flatMap av.cells)]):
  PC 177 [.val v,.fn 178 []] [.buf v s1.length 7 e (s1.flatMap av.cells)] Q:=by
 unfold Uk at hf
 split at hf
 case isFalse=>cases hf
 rename_i hg
 obtain ⟨h1,h2,h3⟩:=hg
 cases hf
 rw [List.length_map] at h
 exact AC.abV Nb av.cells (k:=7) (by decide) (fun _=>Z) (fun _=>Z) au9 auv ahJ (cf:=fun a b=>fA a.name b.name)
  (fun a b ha hb=>@Tt Yu a b _ (Nn (h2 a ha) (h2 b hb)) _ _ Z) (fun x hx=>by rw [EA] at hx; omega) (fun x y z a b=>vG a b) (fun x y z a b=>Fa a b)
  (by
   rw [List.Nodup,List.pairwise_map] at h3
   refine h3.imp fun {x y} hne=>?_
   rcases Int.lt_trichotomy (fA x.name y.name) 0 with h | h | h
   ·
    exact .inl h
   ·
    exact absurd (rF h) hne
   ·
    right; rw [mh]; omega)
  (by unfold rC at h1; omega) h

theorem YR (gY:List av) {r0:ah} {r1:Int} (hf:CQ gY=some (r0,r1)) (h:Q (.ret (.tuple [.agg (aF r0),iP r1])) τ):PC 134 [.list (List.map av.cells gY)] τ Q:=by
 unfold CQ at hf; refine BN 55 [.cell 2 25,.tmp 3] [0] Tryz.func134 Z Z Z Z Z (W 0 Z (AS Z (AO.aH Z eY (fun b2=>(U 2 Z (AS Z (AO.aL (l:=gY) Z Z Z Z kW Z Z (J 1 Z (C hf Z (fun h1 hf=>?_) fun h1 hf=>?_)))))))))
 · cases hf; exact Wx 3 [0] rfl rfl ⟨rfl,_,⟨_,_,rfl,⟨_,_,0,_,_,rfl,rfl,bY,rfl⟩,_,_,rfl,rfl,rfl⟩,[],List.nil_sublist _,h⟩
 refine W 1 Z (AS Z (AO.aL (l:=gY) Z Z Z Z kW Z Z (J 1 Z (Gc (fun i1=>[(0,.list (List.map av.cells gY)),(2,pP b2),(15,iP (gY.length:Int)),(16,iP i1)]) (fun i1=>[.box b2 [iP 0,.bool false,iP 0,.str ([]:Str),.own (.slice none 0 0) [],.own (.slice none 0 0) []]]) (fun bW i1=>vk gY bW i1=some (r0,r1)) BIG 0 Z Z hf (fun _ hz=>bQ hz) ?_)))); intro bW i1 hf; rw [vk] at hf; refine V 1 Z (C hf Z (fun h2 hf=>?_) fun h2 hf=>?_)
 ·
  refine B1 hf fun e1 h3 hf=>W 4 Z (CL Z (Tq _ _ h3 (J 3 Z (C hf Z (fun h4 hf=>?_) fun h4 hf=>?_))))
  · cases hf; exact Wx 4 [0] rfl rfl ⟨rfl,_,⟨_,_,rfl,⟨_,_,0,_,_,rfl,rfl,bY,rfl⟩,_,_,rfl,rfl,rfl⟩,[],List.nil_sublist _,h⟩
  exact M 2 Z ⟨(bS (i1 + 1)),Z,Z,Z,hf⟩
 refine B1 hf fun Pq h5 hf=>W 1 Z (CL Z (AC.none (wh _ h5 (fun v1=>?_)))); refine B1 hf fun sZ h6 hf=>U 2 rfl (CL rfl (AC.one 0 rfl (Lf _ h6 ⟨_,rfl,(AR.freeze 6 0 (List.map av.cells sZ) rfl rfl rfl (fun x hx=>by obtain ⟨s,_,rfl⟩:=List.mem_map.1 hx; rfl) Z ?_)⟩))); refine U 1 Z (AS Z (AO.aH Z eY (fun b7=>(Rr 2 [0] Z Z (AS Z (AO.aL (l:=sZ) Z Z Z Z kW Z Z ?_))))))
 refine J 1 Z (AW.row 6 25 (AW.row 1 9 (LK4 (fun x1 aT v2 v3=>[(2,pP b2),(7,pP b7),(32,.own v1 (List.map av.cells sZ)),(33,iP (sZ.length:Int)),(34,iP x1)]) (fun x1 aT v2 v3=>[.row v3 (List.map ko aT.keys).length 1 9,.row v2 (ah.bn aT.aI).length 6 25,.box b7 [iP aT.kind,.bool aT.dh,iP aT.bZ,.str aT.bI,.own v2 (ah.bn aT.aI),.own v3 (List.map ko aT.keys)],.row v1 (List.map av.cells sZ).length 7 49,.box b2 [iP 0,.bool false,iP 0,.str ([]:Str),.own (.slice none 0 0) [],.own (.slice none 0 0) []]]) (fun EB x1 aT v2 v3=>vg sZ EB x1 aT=some (r0,r1)) BIG 0 (ah.mk 5 false 0 ([]:Str) [] []) (.slice none 0 0) (.slice none 0 0) Z Z hf (fun _ _ _ _ hz=>bQ hz) ?_)))
 intro EB x1 aT v2 v3 hf; rw [vg] at hf; refine V 1 Z (C hf Z (fun h7 hf=>?_) fun h7 hf=>?_)
 ·
  refine B1 hf fun e2 h8 hf=>W 0 Z (AS Z (AO.aM h8 Z Z Z Z kW (av.aG _) Z (U 1 Z (AS Z (AO.aH Z apA (fun b9=>(Rr 5 [0,3,0] Z Z (AS Z (AO.bq (List.map ko ([e2.name]:List Str)) Z kU Z Z Z Z ?_))))))))); refine B1 hf fun x2 h9 hf=>AS Z (AO.eP (i:=1) (l:=aT.keys) (m:=([e2.name]:List Str)) h9 Z Z Z Z Z Z Z kU dO Z Z Z (fun _=>Z) (fun _=>Z) (by decide) (fun v4 s1 hs1=>?_)); cases hs1; refine Rw 2 [3] Z Z (AW.draw 6 mixed (by kernel_rfl) Z ?_)
  refine Ev.cs aP 1 Z (Ev.cons Z Z Z (AO.bV (i:=3) Z Z Z Oi Z Z zg) (Ev.cs aP 1 Z (Ev.cons Z Z Z (AO.bV (i:=0) Z Z Z bY Z Z zg) ?_))); refine B1 hf fun x3 h10 hf=>Ev.cons rfl rfl rfl (AO.call rfl _ rfl rfl arT (KC _ h10 ⟨rfl,rfl⟩)) (Ev.cons rfl rfl rfl (AO.bq (ah.bn [x3]) rfl oW rfl rfl rfl (by first | rfl | simp only [List.map,ah.aG,ah.bn]) ⟨rfl,rfl⟩) ?_); refine Ev.nil ?_; show AR _ _ _ _ _ _ _ _
  refine B1 hf fun x4 h11 hf=>AS Z (AO.eP (i:=2) (l:=aT.aI) (m:=[x3]) h11 Z Z Z Z Z Z Z oW dN (ah.aB _) (ah.aB _) (ah.aB _).symm (ah.dV) (ah.cells_one) (by decide) (fun v5 s2 hs2=>?_)); cases hs2; refine Rn 4 [3] Z Z (AR.drop1 ?_); exact N 0 Z ⟨(bS (x1 + 1)),(ah.mk aT.kind aT.dh aT.bZ aT.bI x4 x2),v5,v4,Z,Z,Z,hf⟩
 cases hf; exact Wx 3 [2,4] rfl rfl ⟨rfl,_,⟨_,_,rfl,⟨_,_,4,_,_,rfl,rfl,bY,rfl⟩,_,_,rfl,rfl,rfl⟩,[],List.nil_sublist _,h⟩

section
variable [Ay]
@[reducible] def xZ :fq aD ah→eZ
 | .ok r=>.ret (.agg (aF r))
 | .bad e=>.panic (.iface 89 (.agg [iP e.code]))

@[reducible] def yc :fq aD ah→eZ
 | .ok r=>.ret (.agg (aF r))
 | .bad e=>.panic (.iface 89 (.agg [iP e.code]))

@[reducible] def zH :fq aD (List ah)→eZ
 | .ok r=>.ret (.list (ah.bn r))
 | .bad e=>.panic (.iface 89 (.agg [iP e.code]))

@[reducible] def vV :fq aD ah→eZ
 | .ok r=>.ret (.agg (aF r))
 | .bad e=>.panic (.iface 89 (.agg [iP e.code]))

@[reducible] def ug :fq aD ah→eZ
 | .ok r=>.ret (.agg (aF r))
 | .bad e=>.panic (.iface 89 (.agg [iP e.code]))

abbrev nH (bB:List av→aj→Option (fq aD ah)):Prop:=∀ (pE:List av) (fV:aj) {fu:fq aD ah},bB pE fV=some fu→∀ {τ:List bE} {Q:eZ→List bE→Prop} (h:Q (xZ fu) τ),PC 59 [.list (List.map av.cells pE),.agg (aS fV)] τ Q
abbrev nI (dx:List av→aj→Option (fq aD ah)):Prop:=∀ (pE:List av) (fV:aj) {fu:fq aD ah},dx pE fV=some fu→∀ {τ:List bE} {Q:eZ→List bE→Prop} (h:Q (yc fu) τ),PC 92 [.list (List.map av.cells pE),.agg (aS fV)] τ Q
abbrev oF (dw:List av→List aj→Option (fq aD (List ah))):Prop:=∀ (pE:List av) (ul1:List aj) {fu:fq aD (List ah)},dw pE ul1=some fu→∀ {τ:List bE} {Q:eZ→List bE→Prop} (h:Q (zH fu) τ),PC 97 [.list (List.map av.cells pE),.list (aj.bn ul1)] τ Q
abbrev lS (bX:List av→aj→Option (fq aD ah)):Prop:=∀ (pE:List av) (fV:aj) {fu:fq aD ah},bX pE fV=some fu→∀ {τ:List bE} {Q:eZ→List bE→Prop} (h:Q (vV fu) τ),PC 94 [.list (List.map av.cells pE),.agg (aS fV)] τ Q
abbrev kY (bR:List av→aj→Option (fq aD ah)):Prop:=∀ (pE:List av) (fV:aj) {fu:fq aD ah},bR pE fV=some fu→∀ {τ:List bE} {Q:eZ→List bE→Prop} (h:Q (ug fu) τ),PC 99 [.list (List.map av.cells pE),.agg (aS fV)] τ Q
theorem LA (bB) (bN:nH bB) (dx) (lQ:nI dx) (dw) (iV:oF dw) (bX) (kD:lS bX) (bR) (j5:kY bR) (s1:List av) (e1:aj) {rX:fq aD ah} (hf:tK bB dx dw bX bR s1 e1=some rX) (h:Q (xZ rX) τ):PC 59 [.list (List.map av.cells s1),.agg (aS e1)] τ Q:=by
 unfold tK at hf; refine BN 104 [.cell 4 25] [0,1] Tryz.func59 Z Z Z Z Z (W 1 Z (AS Z (AO.aH Z eY (fun b4=>(J 4 Z (C hf Z (fun h1 hf=>?_) fun h1 hf=>?_))))))
 · cases hf; exact Wx 3 [0] Z Z (ZC [0] Z Z h)
 refine V 2 Z (C hf Z (fun h2 hf=>?_) fun h2 hf=>?_)
 ·
  rcases bH hf with ⟨e2,h3,hf⟩ | ⟨x1,h3,hf⟩
  · refine W 3 Z (CL Z (ES _ _ h3 ?_)); cases hf; exact ⟨Z,[],List.nil_sublist _,h⟩
  refine W 3 Z (CL Z (ES _ _ h3 ?_)); cases hf; exact Rx 1 [0] Z Z (ZC [0] Z Z h)
 refine V 2 Z (C hf Z (fun h4 hf=>?_) fun h4 hf=>?_)
 ·
  refine B1 hf fun e3 h5 hf=>?_; rcases bH hf with ⟨e4,h6,hf⟩ | ⟨x2,h6,hf⟩
  ·
   refine V 0 Z (AW.abq 5 8 mixed (by kernel_rfl) Z Z ?_); refine Ev.cs aP 3 Z (Ev.cons Z Z Z (AO.aM h5 Z Z (aj.aB _) Z fM (aj.aG _) Z zg) (Ev.cs aP 1 Z (Ev.nil ?_))); refine ⟨_,_,Z,Z,Z,Z,AO.call Z _ Z Z an5 (bN _ _ h6 ?_),?_⟩
   · cases hf; exact ⟨Z,[],List.nil_sublist _,h⟩
   refine Ev.cs aP 2 Z (Ev.nil ?_); trivial
  refine V 0 Z (AW.draw 9 mixed (by kernel_rfl) Z ?_); refine Ev.cs aP 3 Z (Ev.cons Z Z Z (AO.aM h5 Z Z (aj.aB _) Z fM (aj.aG _) Z zg) (Ev.cs aP 1 Z (Ev.cons Z Z Z (AO.call Z _ Z Z an5 (bN _ _ h6 zg)) ?_))); refine Ev.cs aP 2 Z ?_; refine B1 hf fun x3 h7 hf=>Ev.cons Z Z Z (AO.call Z _ Z Z as9 (uU _ h7 zg)) (Ev.nil ?_); show AR _ _ _ _ _ _ _ _
  rcases bH hf with ⟨e5,h8,hf⟩ | ⟨x4,h8,hf⟩
  · refine CL Z (CB _ _ h8 ?_); cases hf; exact ⟨Z,[],List.nil_sublist _,h⟩
  refine CL Z (CB _ _ h8 ?_); cases hf; exact Rx 1 [0] Z Z (ZC [0] Z Z h)
 refine V 2 Z (C hf Z (fun h9 hf=>?_) fun h9 hf=>?_)
 ·
  refine B1 hf fun e6 h10 hf=>W 3 Z (AS Z (AO.aM h10 Z Z (aj.aB _) Z fM (aj.aG _) Z ?_)); rcases bH hf with ⟨e7,h11,hf⟩ | ⟨x5,h11,hf⟩
  · refine U 1 Z (CL Z (bN _ _ h11 ?_)); cases hf; exact ⟨Z,[],List.nil_sublist _,h⟩
  refine U 1 Z (CL Z (bN _ _ h11 (AS Z (AO.aH Z eY (fun b5=>?_))))); refine B1 hf fun e8 h12 hf=>?_; rcases bH hf with ⟨e9,jq,hf⟩ | ⟨x6,jq,hf⟩
  ·
   refine Rw 1 [0] Z Z (AW.abq 6 7 mixed (by kernel_rfl) Z Z ?_); refine Ev.cons Z Z Z (AO.bV (i:=0) Z Z Z bY Z Z zg) (Ev.cs aP 3 Z (Ev.cons Z Z Z (AO.aM h12 Z Z (aj.aB _) Z fM (aj.aG _) Z zg) (Ev.cs aP 1 Z ?_))); refine Ev.nil (⟨_,_,Z,Z,Z,Z,AO.call Z _ Z Z an5 (bN _ _ jq ?_),?_⟩)
   · cases hf; exact ⟨Z,[],List.nil_sublist _,h⟩
   refine Ev.nil ?_; trivial
  refine Rw 1 [0] Z Z (AW.draw 7 mixed (by kernel_rfl) Z ?_); refine Ev.cons Z Z Z (AO.bV (i:=0) Z Z Z bY Z Z zg) (Ev.cs aP 3 Z (Ev.cons Z Z Z (AO.aM h12 Z Z (aj.aB _) Z fM (aj.aG _) Z zg) (Ev.cs aP 1 Z ?_))); refine Ev.cons Z Z Z (AO.call Z _ Z Z an5 (bN _ _ jq zg)) (Ev.nil ?_); show AR _ _ _ _ _ _ _ _
  rcases bH hf with ⟨e10,kg,hf⟩ | ⟨x7,kg,hf⟩
  · refine CL Z (JD _ _ kg ?_); cases hf; exact ⟨Z,[],List.nil_sublist _,h⟩
  refine CL Z (JD _ _ kg ?_); cases hf; exact Rx 1 [1] Z Z (ZC [1] Z Z h)
 refine V 2 Z (C hf Z (fun kC hf=>?_) fun kC hf=>?_)
 ·
  rcases bH hf with ⟨e11,h16,hf⟩ | ⟨x8,h16,hf⟩
  · refine W 2 Z (CL Z (lQ _ _ h16 ?_)); cases hf; exact ⟨Z,[],List.nil_sublist _,h⟩
  refine W 2 Z (CL Z (lQ _ _ h16 ?_)); cases hf; exact Rx 1 [0] Z Z (ZC [0] Z Z h)
 refine V 2 Z (C hf Z (fun mQ hf=>?_) fun mQ hf=>?_)
 ·
  refine B1 hf fun e12 h18 hf=>?_; rcases bH hf with ⟨e13,h19,hf⟩ | ⟨x9,h19,hf⟩
  ·
   refine V 0 Z (AW.abq 7 8 mixed (by kernel_rfl) Z Z ?_); refine Ev.cs aP 5 Z (Ev.cons Z Z Z (AO.aM h18 Z Z (aj.aB _) Z fM (aj.aG _) Z zg) (Ev.cs aP 1 Z (Ev.nil ?_))); refine ⟨_,_,Z,Z,Z,Z,AO.call Z _ Z Z an5 (bN _ _ h19 ?_),?_⟩
   · cases hf; exact ⟨Z,[],List.nil_sublist _,h⟩
   refine Ev.nil ?_; trivial
  refine V 0 Z (AW.draw 8 mixed (by kernel_rfl) Z ?_); refine Ev.cs aP 5 Z (Ev.cons Z Z Z (AO.aM h18 Z Z (aj.aB _) Z fM (aj.aG _) Z zg) (Ev.cs aP 1 Z (Ev.cons Z Z Z (AO.call Z _ Z Z an5 (bN _ _ h19 zg)) ?_))); refine Ev.nil ?_; show AR _ _ _ _ _ _ _ _
  rcases bH hf with ⟨e14,h20,hf⟩ | ⟨CO,h20,hf⟩
  · refine CL Z (MS _ _ h20 ?_); cases hf; exact ⟨Z,[],List.nil_sublist _,h⟩
  refine CL Z (MS _ _ h20 ?_); cases hf; exact Rx 1 [0] Z Z (ZC [0] Z Z h)
 refine V 2 Z (C hf Z (fun h21 hf=>?_) fun h21 hf=>?_)
 ·
  rcases bH hf with ⟨e15,h22,hf⟩ | ⟨KP,h22,hf⟩
  · refine W 2 Z (CL Z (kD _ _ h22 ?_)); cases hf; exact ⟨Z,[],List.nil_sublist _,h⟩
  refine W 2 Z (CL Z (kD _ _ h22 ?_)); cases hf; exact Rx 1 [0] Z Z (ZC [0] Z Z h)
 refine V 2 Z (C hf Z (fun h23 hf=>?_) fun h23 hf=>?_)
 ·
  refine B1 hf fun e16 Ku hf=>W 3 Z (AS Z (AO.aM Ku Z Z (aj.aB _) Z fM (aj.aG _) Z ?_)); rcases bH hf with ⟨e17,Sw,hf⟩ | ⟨TU,Sw,hf⟩
  · refine U 1 Z (CL Z (bN _ _ Sw ?_)); cases hf; exact ⟨Z,[],List.nil_sublist _,h⟩
  refine U 1 Z (CL Z (bN _ _ Sw ?_)); rcases bH hf with ⟨e18,PI,hf⟩ | ⟨Sv,PI,hf⟩
  · refine CL Z (qj _ PI ?_); cases hf; exact ⟨Z,[],List.nil_sublist _,h⟩
  refine CL Z (qj _ PI (J 0 Z (C hf Z (fun h27 hf=>?_) fun h27 hf=>?_)))
  ·
   refine B1 hf fun e19 Xb hf=>W 3 Z (AS Z (AO.aM Xb Z Z (aj.aB _) Z fM (aj.aG _) Z ?_)); rcases bH hf with ⟨e20,Te,hf⟩ | ⟨Vo,Te,hf⟩
   · refine U 1 Z (CL Z (bN _ _ Te ?_)); cases hf; exact ⟨Z,[],List.nil_sublist _,h⟩
   refine U 1 Z (CL Z (bN _ _ Te ?_)); cases hf; exact Rx 1 [0] Z Z (ZC [0] Z Z h)
  refine B1 hf fun e21 h30 hf=>W 3 Z (AS Z (AO.aM h30 Z Z (aj.aB _) Z fM (aj.aG _) Z ?_)); rcases bH hf with ⟨e22,h31,hf⟩ | ⟨x15,h31,hf⟩
  · refine U 1 Z (CL Z (bN _ _ h31 ?_)); cases hf; exact ⟨Z,[],List.nil_sublist _,h⟩
  refine U 1 Z (CL Z (bN _ _ h31 ?_)); cases hf; exact Rx 1 [0] Z Z (ZC [0] Z Z h)
 refine V 2 Z (C hf Z (fun h32 hf=>?_) fun h32 hf=>?_)
 ·
  rcases bH hf with ⟨e23,O9,hf⟩ | ⟨Xh,O9,hf⟩
  · refine W 3 Z (CL Z (iV _ _ O9 ?_)); cases hf; exact ⟨Z,[],List.nil_sublist _,h⟩
  refine W 3 Z (CL Z (iV _ _ O9 ?_)); refine B1 hf fun x17 h34 hf=>CL Z (MV _ h34 (AS Z (AO.aH Z eY (fun b6=>?_)))); refine B1 hf fun x18 h35 hf=>Rr 2 [0,0] Z Z (CL Z (om _ h35 ?_)); rcases bH hf with ⟨e24,h36,hf⟩ | ⟨_,h36,hf⟩
  · refine U 1 Z (CL Z (bF _ _ h36 ?_)); cases hf; exact ⟨Z,[],List.nil_sublist _,h⟩
  refine U 1 Z (CL Z (bF _ _ h36 ?_)); cases hf; exact Rx 2 [0,1] Z Z (ZC [1] Z Z h)
 rcases bH hf with ⟨e25,h37,hf⟩ | ⟨x19,h37,hf⟩
 · refine W 2 Z (CL Z (j5 _ _ h37 ?_)); cases hf; exact ⟨Z,[],List.nil_sublist _,h⟩
 refine W 2 Z (CL Z (j5 _ _ h37 ?_)); cases hf; exact Rx 1 [0] Z Z (ZC [0] Z Z h)
theorem LB (bB) (bN:nH bB) (dx) (lQ:nI dx) (dw) (iV:oF dw) (bX) (kD:lS bX) (bR) (j5:kY bR) (s1:List av) (e1:aj) {rX:fq aD ah} (hf:qd bB dx dw bX bR s1 e1=some rX) (h:Q (yc rX) τ):PC 92 [.list (List.map av.cells s1),.agg (aS e1)] τ Q:=by
 unfold qd at hf; refine BN 40 [.cell 4 25] [0,1] Tryz.func92 Z Z Z Z Z (W 1 Z (AS Z (AO.aH Z eY (fun b4=>?_)))); refine B1 hf fun n1 h1 hf=>U 2 Z (CL Z (WZ _ h1 ?_)); rcases bH hf with ⟨e2,h2,hf⟩ | ⟨_,h2,hf⟩
 · refine U 3 Z (CL Z (bF _ _ h2 ?_)); cases hf; exact ⟨Z,[],List.nil_sublist _,h⟩
 refine U 3 Z (CL Z (bF _ _ h2 (U 2 Z (AS Z (AO.aL (l:=e1.args) Z Z Z Z fM Z (aj.aB _) ?_))))); rcases bH hf with ⟨e3,h3,hf⟩ | ⟨_,h3,hf⟩
 · refine U 2 Z (CL Z (bF _ _ h3 ?_)); cases hf; exact ⟨Z,[],List.nil_sublist _,h⟩
 refine U 2 Z (CL Z (bF _ _ h3 ?_)); rcases bH hf with ⟨e4,h4,hf⟩ | ⟨args1,h4,hf⟩
 · refine U 3 Z (CL Z (iV _ _ h4 ?_)); cases hf; exact ⟨Z,[],List.nil_sublist _,h⟩
 refine U 3 Z (CL Z (iV _ _ h4 (J 3 Z (C hf Z (fun h5 hf=>?_) fun h5 hf=>?_))))
 ·
  refine V 0 Z (AW.draw 5 mixed (by kernel_rfl) Z ?_); refine Ev.cs aP 3 Z ?_; refine B1 hf fun e5 h6 hf=>Ev.cons Z Z Z (AO.aM h6 Z Z (ah.aB _) Z dN (ah.aG _) Z zg) (Ev.cs aP 1 Z (Ev.nil ?_)); show AR _ _ _ _ _ _ _ _
  rcases bH hf with ⟨e6,h7,hf⟩ | ⟨x1,h7,hf⟩
  · refine CL Z (Sc _ _ h7 ?_); cases hf; exact ⟨Z,[],List.nil_sublist _,h⟩
  refine CL Z (Sc _ _ h7 ?_); cases hf; exact Rx 1 [0] Z Z (ZC [0] Z Z h)
 refine V 0 Z (AW.draw 8 mixed (by kernel_rfl) Z ?_); refine Ev.cs aP 3 Z ?_; refine B1 hf fun e7 h8 hf=>Ev.cons Z Z Z (AO.aM h8 Z Z (ah.aB _) Z dN (ah.aG _) Z zg) (Ev.cs aP 2 Z ?_); refine B1 hf fun e8 h9 hf=>Ev.cons Z Z Z (AO.aM h9 Z Z (ah.aB _) Z dN (ah.aG _) Z zg) (Ev.cs aP 1 Z (Ev.nil ?_)); show AR _ _ _ _ _ _ _ _
 rcases bH hf with ⟨e9,h10,hf⟩ | ⟨x2,h10,hf⟩
 · refine CL Z (R_ _ _ _ h10 ?_); cases hf; exact ⟨Z,[],List.nil_sublist _,h⟩
 refine CL Z (R_ _ _ _ h10 ?_); cases hf; exact Rx 1 [0] Z Z (ZC [0] Z Z h)
theorem M9 (bB) (bN:nH bB) (dx) (lQ:nI dx) (dw) (iV:oF dw) (bX) (kD:lS bX) (bR) (j5:kY bR) (s1:List av) (l1:List aj) {rX:fq aD (List ah)} (hf:Ag bB dx dw bX bR s1 l1=some rX) (h:Q (zH rX) τ):PC 97 [.list (List.map av.cells s1),.list (aj.bn l1)] τ Q:=by
 unfold Ag at hf
 refine BN 22 [.tmp 4] [0,1] Tryz.func97 Z Z Z Z Z (W 0 Z (AS Z (AO.nR Z Z (U 2 Z (AS Z (AO.aL (l:=l1) Z Z Z Z fM Z (aj.aB _) (J 1 Z (AW.row 6 25 (Vf (fun aT v1 x1=>[(0,.list (List.map av.cells s1)),(5,.own v1 (ah.bn aT)),(8,.list (aj.bn l1)),(9,iP (l1.length:Int)),(10,iP x1)]) (fun aT v1 x1=>[.row v1 (ah.bn aT).length 6 25]) (fun bW aT v1 x1=>nC bB s1 l1 bW aT x1=some rX) BIG [] (.slice none 0 0) 0 Z Z hf (fun _ _ _ hz=>bQ hz) ?_)))))))))
 intro bW aT v1 x1 hf; rw [nC] at hf; refine V 1 Z (C hf Z (fun h1 hf=>?_) fun h1 hf=>?_)
 ·
  refine B1 hf fun e1 h2 hf=>W 0 Z (AS Z (AO.aM h2 Z Z (aj.aB _) Z fM (aj.aG _) Z (U 1 Z (AS Z (AO.aH Z kS (fun b7=>?_)))))); rcases bH hf with ⟨e2,h3,hf⟩ | ⟨x2,h3,hf⟩
  · refine Rr 4 [0,0] Z Z (CL Z (bN _ _ h3 ?_)); cases hf; exact ⟨Z,[],List.nil_sublist _,h⟩
  refine Rr 4 [0,0] rfl rfl (CL rfl (bN _ _ h3 (AS rfl (AO.bq (ah.bn [x2]) rfl oW rfl rfl rfl (by first | rfl | simp only [List.map,ah.aG,ah.bn]) ?_)))); refine B1 hf fun Cq h4 hf=>AS Z (AO.eP (i:=1) (l:=aT) (m:=[x2]) h4 Z Z Z Z Z Z Z oW dN (ah.aB _) (ah.aB _) (ah.aB _).symm (ah.dV) (ah.cells_one) (by decide) (fun v2 s2 hs2=>?_)); cases hs2; refine eU 3 Z (AR.drop1 ?_); exact N 0 Z ⟨Cq,v2,(bS (x1 + 1)),Z,Z,Z,hf⟩
 cases hf; exact M 2 Z (Y Z h)
theorem Kg (bB) (bN:nH bB) (dx) (lQ:nI dx) (dw) (iV:oF dw) (bX) (kD:lS bX) (bR) (j5:kY bR) (s1:List av) (e1:aj) {rX:fq aD ah} (hf:nS bB dx dw bX bR s1 e1=some rX) (h:Q (vV rX) τ):PC 94 [.list (List.map av.cells s1),.agg (aS e1)] τ Q:=by
 unfold nS at hf; refine BN 95 [.cell 4 25] [0,1] Tryz.func94 Z Z Z Z Z (W 1 Z (AS Z (AO.aH Z eY (fun b4=>?_)))); refine B1 hf fun e2 h1 hf=>U 3 Z (AS Z (AO.aM h1 Z Z (aj.aB _) Z fM (aj.aG _) Z ?_)); rcases bH hf with ⟨e3,h2,hf⟩ | ⟨x1,h2,hf⟩
 · refine U 1 Z (CL Z (bN _ _ h2 ?_)); cases hf; exact ⟨Z,[],List.nil_sublist _,h⟩
 refine U 1 Z (CL Z (bN _ _ h2 (AS Z (AO.aH Z eY (fun b5=>(Rr 5 [0] Z Z (On 4 16 20 [0,3,4,5] (e1.name == ([124,124]:Str)) Z Z Z Z (J 0 Z (C hf Z (fun h4 hf=>?_) fun h4 hf=>?_)))))))))
 ·
  rcases bH hf with ⟨e4,h5,hf⟩ | ⟨x2,h5,hf⟩
  ·
   refine V 0 Z (AW.abq 1 5 mixed (by kernel_rfl) Z Z ?_); refine Ev.cons Z Z Z (AO.bV (i:=0) Z Z Z bY Z Z zg) (Ev.nil (⟨_,_,Z,Z,Z,Z,AO.call Z _ Z Z as8 (qj _ h5 ?_),?_⟩))
   · cases hf; exact ⟨Z,[],List.nil_sublist _,h⟩
   refine Ev.cs aP 3 Z (Ev.nil ?_); trivial
  refine V 0 Z (AW.draw 6 mixed (by kernel_rfl) Z ?_); refine Ev.cons Z Z Z (AO.bV (i:=0) Z Z Z bY Z Z zg) (Ev.cons Z Z Z (AO.call Z _ Z Z as8 (qj _ h5 zg)) (Ev.cs aP 3 Z (Ev.cons Z Z Z (AO.Si Z Zv Z Z zg) ?_))); refine Ev.nil ?_; show AR _ _ _ _ _ _ _ _
  refine J 0 Z (C hf Z (fun h6 hf=>?_) fun h6 hf=>?_)
  · cases hf; exact Wx 2 [0,1] Z Z (ZC [1] Z Z h)
  refine B1 hf fun e5 h7 hf=>W 3 Z (AS Z (AO.aM h7 Z Z (aj.aB _) Z fM (aj.aG _) Z ?_)); rcases bH hf with ⟨e6,h8,hf⟩ | ⟨x3,h8,hf⟩
  · refine U 1 Z (CL Z (bN _ _ h8 ?_)); cases hf; exact ⟨Z,[],List.nil_sublist _,h⟩
  refine U 1 Z (CL Z (bN _ _ h8 ?_)); rcases bH hf with ⟨e7,h9,hf⟩ | ⟨x4,h9,hf⟩
  · refine CL Z (qj _ h9 ?_); cases hf; exact ⟨Z,[],List.nil_sublist _,h⟩
  refine CL Z (qj _ h9 ?_); refine B1 hf fun x5 h10 hf=>CL Z (jQ _ h10 ?_); cases hf; exact Rx 1 [1] Z Z (ZC [1] Z Z h)
 refine B1 hf fun e8 h11 hf=>W 3 Z (AS Z (AO.aM h11 Z Z (aj.aB _) Z fM (aj.aG _) Z ?_)); rcases bH hf with ⟨e9,h12,hf⟩ | ⟨x6,h12,hf⟩
 · refine U 1 Z (CL Z (bN _ _ h12 ?_)); cases hf; exact ⟨Z,[],List.nil_sublist _,h⟩
 refine U 1 Z (CL Z (bN _ _ h12 (AS Z (AO.aH Z eY (fun b6=>(Rw 5 [0] Z Z (C hf Z (fun jq hf=>?_) fun jq hf=>?_)))))))
 · refine B1 hf fun x7 kg hf=>Wr 2 [1,0] Z Z (CL Z (Fq _ _ kg ?_)); refine B1 hf fun x8 kC hf=>CL Z (jQ _ kC ?_); cases hf; exact Rx 1 [2] Z Z (ZC [2] Z Z h)
 refine V 2 Z (C hf Z (fun h16 hf=>?_) fun h16 hf=>?_)
 · refine B1 hf fun x9 mQ hf=>Wr 2 [1,0] Z Z (CL Z (Fq _ _ mQ ?_)); refine B1 hf fun CO h18 hf=>U 1 Z (CL Z (jQ _ h18 ?_)); cases hf; exact Rx 1 [2] Z Z (ZC [2] Z Z h)
 refine V 2 Z (C hf Z (fun h19 hf=>?_) fun h19 hf=>?_)
 ·
  rcases bH hf with ⟨e10,h20,hf⟩ | ⟨KP,h20,hf⟩
  · refine Wr 2 [1,0] Z Z (CL Z (ql _ _ h20 ?_)); cases hf; exact ⟨Z,[],List.nil_sublist _,h⟩
  refine Wr 2 [1,0] Z Z (CL Z (ql _ _ h20 ?_)); refine B1 hf fun TU h21 hf=>U 1 Z (CL Z (jQ _ h21 ?_)); cases hf; exact Rx 1 [2] Z Z (ZC [2] Z Z h)
 refine V 2 Z (C hf Z (fun h22 hf=>?_) fun h22 hf=>?_)
 ·
  rcases bH hf with ⟨e11,h23,hf⟩ | ⟨Sv,h23,hf⟩
  · refine Wr 2 [1,0] Z Z (CL Z (ql _ _ h23 ?_)); cases hf; exact ⟨Z,[],List.nil_sublist _,h⟩
  refine Wr 2 [1,0] Z Z (CL Z (ql _ _ h23 ?_)); refine B1 hf fun Vo Ku hf=>U 1 Z (CL Z (jQ _ Ku ?_)); cases hf; exact Rx 1 [2] Z Z (ZC [2] Z Z h)
 refine V 2 Z (C hf Z (fun Sw hf=>?_) fun Sw hf=>?_)
 ·
  rcases bH hf with ⟨e12,PI,hf⟩ | ⟨x15,PI,hf⟩
  · refine Wr 2 [1,0] Z Z (CL Z (ql _ _ PI ?_)); cases hf; exact ⟨Z,[],List.nil_sublist _,h⟩
  refine Wr 2 [1,0] Z Z (CL Z (ql _ _ PI ?_)); refine B1 hf fun Xh h27 hf=>U 1 Z (CL Z (jQ _ h27 ?_)); cases hf; exact Rx 1 [2] Z Z (ZC [2] Z Z h)
 refine V 2 Z (C hf Z (fun Xb hf=>?_) fun Xb hf=>?_)
 ·
  rcases bH hf with ⟨e13,Te,hf⟩ | ⟨x17,Te,hf⟩
  · refine Wr 2 [1,0] Z Z (CL Z (ql _ _ Te ?_)); cases hf; exact ⟨Z,[],List.nil_sublist _,h⟩
  refine Wr 2 [1,0] Z Z (CL Z (ql _ _ Te ?_)); refine B1 hf fun x18 h30 hf=>U 1 Z (CL Z (jQ _ h30 ?_)); cases hf; exact Rx 1 [2] Z Z (ZC [2] Z Z h)
 refine V 2 Z (C hf Z (fun h31 hf=>?_) fun h31 hf=>?_)
 ·
  rcases bH hf with ⟨e14,h32,hf⟩ | ⟨x19,h32,hf⟩
  · refine Wr 2 [1,0] Z Z (CL Z (Sb _ _ h32 ?_)); cases hf; exact ⟨Z,[],List.nil_sublist _,h⟩
  refine Wr 2 [1,0] Z Z (CL Z (Sb _ _ h32 ?_)); cases hf; exact Rx 1 [2] Z Z (ZC [2] Z Z h)
 rcases bH hf with ⟨e15,O9,hf⟩ | ⟨x20,O9,hf⟩
 · refine Wr 4 [1,0] Z Z (CL Z (EW _ _ _ O9 ?_)); cases hf; exact ⟨Z,[],List.nil_sublist _,h⟩
 refine Wr 4 [1,0] Z Z (CL Z (EW _ _ _ O9 ?_)); cases hf; exact Rx 1 [2] Z Z (ZC [2] Z Z h)
theorem Iw (bB) (bN:nH bB) (dx) (lQ:nI dx) (dw) (iV:oF dw) (bX) (kD:lS bX) (bR) (j5:kY bR) (s1:List av) (e1:aj) {rX:fq aD ah} (hf:nk bB dx dw bX bR s1 e1=some rX) (h:Q (ug rX) τ):PC 99 [.list (List.map av.cells s1),.agg (aS e1)] τ Q:=by
 unfold nk at hf; refine BN 41 [.cell 4 25] [0,1] Tryz.func99 Z Z Z Z Z (W 1 Z (AS Z (AO.aH Z eY (fun b4=>?_)))); rcases bH hf with ⟨e2,h1,hf⟩ | ⟨x1,h1,hf⟩
 · refine U 4 Z (CL Z (iV _ _ h1 ?_)); cases hf; exact ⟨Z,[],List.nil_sublist _,h⟩
 refine U 4 Z (CL Z (iV _ _ h1 (AS Z (AO.aL (l:=x1) Z Z Z Z dN Z (ah.aB _) ?_))))
 refine J 1 Z (AW.row 7 49 (Vf (fun gY v1 i1=>[(3,.ref (aS e1)),(4,pP b4),(5,.own v1 (List.map av.cells gY)),(13,.list (ah.bn x1)),(14,iP (x1.length:Int)),(15,iP i1)]) (fun gY v1 i1=>[.row v1 (List.map av.cells gY).length 7 49,.box b4 [iP 0,.bool false,iP 0,.str ([]:Str),.own (.slice none 0 0) [],.own (.slice none 0 0) []]]) (fun bW gY v1 i1=>lY e1 x1 bW gY i1=some rX) BIG [] (.slice none 0 0) 0 Z Z hf (fun _ _ _ hz=>bQ hz) ?_)); intro bW gY v1 i1 hf; rw [lY] at hf
 refine V 1 Z (C hf Z (fun h2 hf=>?_) fun h2 hf=>?_)
 ·
  refine B1 hf fun e3 h3 hf=>W 1 Z (AS Z (AO.aM h3 Z Z (ah.aB _) Z dN (ah.aG _) Z (U 1 Z (AS Z (AO.aH Z eY (fun b7=>(Rw 2 [0] Z Z (AW.draw 9 mixed (by kernel_rfl) Z ?_)))))))); refine Ev.cs aP 4 Z ?_; refine B1 hf fun e4 h4 hf=>Ev.cons Z Z Z (AO.aM h4 Z Z Z Z dO Z Z zg) (Ev.cs aP 1 Z (Ev.cons Z Z Z (AO.bV (i:=0) Z Z Z bY Z Z zg) (Ev.cons Z Z Z (AO.build Z apA atB Z zg) ?_)))
  refine Ev.cons rfl rfl rfl (AO.bq (List.map av.cells [(av.mk e4 e3)]) rfl Cg rfl rfl rfl (by first | rfl | simp only [List.map,av.aG]) ⟨rfl,rfl⟩) ?_; refine Ev.nil ?_; show AR _ _ _ _ _ _ _ _
  refine B1 hf fun Da h5 hf=>AS Z (AO.eP (i:=1) (l:=gY) (m:=[(av.mk e4 e3)]) h5 Z Z Z Z Z Z Z Cg kW Z Z Z (av.dV) (av.cells_one) (by decide) (fun v2 s2 hs2=>?_)); cases hs2; refine eU 3 Z (AR.drop1 ?_); exact N 0 Z ⟨Da,v2,(bS (i1 + 1)),Z,Z,Z,hf⟩
 obtain ⟨x2,EN,h6,hf⟩:=aY hf; refine W 1 Z (CL Z (YR _ h6 (U 3 Z (AS Z (AO.aH Z eY (fun b8=>?_)))))); rcases bH hf with ⟨e5,h7,hf⟩ | ⟨_,h7,hf⟩
 · refine Rr 5 [0] Z Z (CL Z (bF _ _ h7 ?_)); cases hf; exact ⟨Z,[],List.nil_sublist _,h⟩
 refine Rr 5 [0] Z Z (CL Z (bF _ _ h7 ?_)); cases hf; exact Rx 2 [0,2] Z Z (ZC [2] Z Z h)
theorem pY :∀ k:Nat,(nH (dF k))∧(nI (fB k))∧(oF (fK k))∧(lS (d9 k))∧(kY (dR k)):=by
 intro k
 induction k with
 | zero=>exact ⟨fun _ _ _ hz=>by first | cases hz | (unfold dF at hz; cases hz),fun _ _ _ hz=>by first | cases hz | (unfold fB at hz; cases hz),fun _ _ _ hz=>by first | cases hz | (unfold fK at hz; cases hz),fun _ _ _ hz=>by first | cases hz | (unfold d9 at hz; cases hz),fun _ _ _ hz=>by first | cases hz | (unfold dR at hz; cases hz)⟩
 | succ k ih=>exact ⟨fun pE fV fu hz τ Q hq=>LA (dF k) ih.1 (fB k) ih.2.1 (fK k) ih.2.2.1 (d9 k) ih.2.2.2.1 (dR k) ih.2.2.2.2 pE fV hz hq,fun pE fV fu hz τ Q hq=>LB (dF k) ih.1 (fB k) ih.2.1 (fK k) ih.2.2.1 (d9 k) ih.2.2.2.1 (dR k) ih.2.2.2.2 pE fV hz hq,fun pE ul1 fu hz τ Q hq=>M9 (dF k) ih.1 (fB k) ih.2.1 (fK k) ih.2.2.1 (d9 k) ih.2.2.2.1 (dR k) ih.2.2.2.2 pE ul1 hz hq,fun pE fV fu hz τ Q hq=>Kg (dF k) ih.1 (fB k) ih.2.1 (fK k) ih.2.2.1 (d9 k) ih.2.2.2.1 (dR k) ih.2.2.2.2 pE fV hz hq,fun pE fV fu hz τ Q hq=>Iw (dF k) ih.1 (fB k) ih.2.1 (fK k) ih.2.2.1 (d9 k) ih.2.2.2.1 (dR k) ih.2.2.2.2 pE fV hz hq⟩
theorem ET (pE:List av) (fV:aj) {fu:fq aD ah} (hf:wX pE fV=some fu) (h:Q (xZ fu) τ):PC 59 [.list (List.map av.cells pE),.agg (aS fV)] τ Q:=
 ((pY BIG).1) pE fV hf h
theorem abx (pE:List av) (fV:aj) {fu:fq aD ah} (hf:Pd pE fV=some fu) (h:Q (yc fu) τ):PC 92 [.list (List.map av.cells pE),.agg (aS fV)] τ Q:=
 ((pY BIG).2.1) pE fV hf h
theorem acL (pE:List av) (ul1:List aj) {fu:fq aD (List ah)} (hf:Rl pE ul1=some fu) (h:Q (zH fu) τ):PC 97 [.list (List.map av.cells pE),.list (aj.bn ul1)] τ Q:=
 ((pY BIG).2.2.1) pE ul1 hf h
theorem Ze (pE:List av) (fV:aj) {fu:fq aD ah} (hf:Mx pE fV=some fu) (h:Q (vV fu) τ):PC 94 [.list (List.map av.cells pE),.agg (aS fV)] τ Q:=
 ((pY BIG).2.2.2.1) pE fV hf h
theorem Y7 (pE:List av) (fV:aj) {fu:fq aD ah} (hf:K9 pE fV=some fu) (h:Q (ug fu) τ):PC 99 [.list (List.map av.cells pE),.agg (aS fV)] τ Q:=
 ((pY BIG).2.2.2.2) pE fV hf h
end

section
variable [Ay]
theorem F4 (s1:List av) (e1:aj) {r0:ah} {r1:Int} (hf:oL s1 e1=some (r0,r1)) (h:Q (.ret (.tuple [.agg (aF r0),iP r1])) τ):PC 25 [.list (List.map av.cells s1),.agg (aS e1)] τ Q:=by
 unfold oL at hf; refine AC.none (AC.Ot 10 [.cell 4 25,.cell 5 38] [0,1] [0,1] Tryz.func25 Z Z Z Z Z Tryz.func58 Z Z Z Z Z Z Z auJ (AW.sr (AR.step Z Z Z (AO.MW Z Z Z ?_)))); refine AR.step Z Z Z (AO.aH Z eY (fun b4=>(AR.step Z Z Z (AO.aH Z arl (fun b5=>(AR.nil [0,3,4,5] Z (AW.sr ?_))))))); refine cs 1 Z (AR.defer (vs:=[.pointer (some ⟨b4,0,none⟩),.pointer (some ⟨b5,0,none⟩)]) Z Z Z Z Z Z (AR.nil [0,3,4,5] Z (AW.sr ?_))); refine cs 2 Z ?_
 rcases bH hf with ⟨f1,h1,hf⟩ | ⟨v1,h1,hf⟩
 ·
  refine AR.step Z Z Z (AO.call Z _ Z Z an5 (ET _ _ h1 ?_)); cases hf; refine ⟨[.pointer (some ⟨b4,0,none⟩),.pointer (some ⟨b5,0,none⟩)],_,Z,Z,Z,(AR.step Z Z Z (AO.aaR Z Z aty (cs 3 Z (AR.step Z Z Z (AO.aH Z as5 (fun b6=>?_))))))⟩; refine AR.fH Z Z (AO.ig (i:=0) Z Z Z as7 Z Z Z Z Z (cs 1 Z (AR.nil [0,1,2,3] Z (AW.sr ?_)))); refine cs 1 Z (AR.nil [0,1,2,9] Z (AW.cond Z (fun _=>?_) (fun hh=>by cases hh)))
  refine AW.abr 1 3 4 [_] [_,_] mixed (by kernel_rfl) (by kernel_rfl) (by kernel_rfl) Z Z Z (List.Perm.refl _) ?_; refine Ev.cons Z Z Z (AO.build Z eY ZE Z zg) (Ev.nil ?_); show Ev _ _ _ _ _ _ _
  refine Ev.cs aP 1 Z (Ev.cons Z Z Z (AO.bV (i:=0) Z Z Z amx Z Z zg) (Ev.nil (TF.fH Z Z (AO.ig (i:=1) Z Z Z bY Z Z Z Z Z ?_)))); refine TF.nil ?_; show AR _ _ _ _ _ _ _ _
  refine AR.fH Z Z (AO.ig (i:=1) Z Z Z amx Z Z Z Z Z (AR.nil [] Z ?_)); exact ⟨rfl,_,⟨_,_,rfl,⟨_,_,2,_,_,rfl,rfl,bY,rfl⟩,⟨_,_,rfl,⟨_,_,1,_,_,rfl,rfl,amx,rfl⟩,rfl⟩⟩,[],List.nil_sublist _,h⟩
 refine AR.step Z Z Z (AO.call Z _ Z Z an5 (ET _ _ h1 ?_)); cases hf; refine AR.fH Z Z (AO.ig (i:=1) Z Z Z bY Z Z Z Z Z (AR.fH Z Z (AO.ig (i:=0) Z Z Z amx Z Z Z Z Z (AR.nil [4,5] Z (AW.ret ?_))))); refine ⟨[.pointer (some ⟨b4,0,none⟩),.pointer (some ⟨b5,0,none⟩)],_,Z,Z,Z,(AR.step Z Z Z (AO.Xy (p:=.agg [iP 0]) Z Z atz (fun _ _=>by simp only [eH]; exact ⟨[.int .i64 0],Z,bC.cons (by simp [eH]) bC.nil⟩) ?_))⟩
 refine cs 3 Z (AR.step Z Z Z (AO.aH Z as5 (fun b6=>(AR.fH Z Z (AO.ig (i:=0) Z Z Z as7 Z Z Z Z Z (cs 1 Z ?_)))))); refine AR.nil [3] Z (AW.sr (cs 1 Z (AR.nil [9] Z ?_))); refine AW.cond Z (fun hh=>by cases hh) (fun _=>?_); refine AW.skip ?_; exact ⟨rfl,_,⟨_,_,rfl,⟨_,_,2,_,_,rfl,rfl,bY,rfl⟩,⟨_,_,rfl,⟨_,_,1,_,_,rfl,rfl,amx,rfl⟩,rfl⟩⟩,[],List.nil_sublist _,h⟩
end


abbrev M6 (lD:ah→Option ah):Prop:=∀ (rZ:ah) {aU:ah},lD rZ=some aU→∀ {τ:List bE} {Q:eZ→List bE→Prop} (h:Q (.ret (.agg (aF aU))) τ),PC 26 [.agg (aF rZ)] τ Q
theorem Vt (lD) (Ra:M6 lD) (v1:ah) {r0:ah} (hf:Cx lD v1=some r0) (h:Q (.ret (.agg (aF r0))) τ):PC 26 [.agg (aF v1)] τ Q:=by
 unfold Cx at hf; refine BN 31 [.cell 2 25] [0] Tryz.func26 Z Z Z Z Z (W 1 Z (AS Z (AO.aH Z eY (fun b2=>(U 1 Z (AS Z (AO.aH Z eY (fun b3=>(Rr 7 [0,0,0] Z Z (AS Z (AO.aL (l:=v1.aI) Z Z Z Z dN Z (ah.aB _) ?_)))))))))))
 refine J 1 Z (AW.row 6 25 (AW.row 1 9 (LK4 (fun x1 aT v2 v3=>[(1,.ref (aF v1)),(2,pP b2),(3,pP b3),(10,.list (ah.bn v1.aI)),(11,iP (v1.aI.length:Int)),(12,iP x1)]) (fun x1 aT v2 v3=>[.row v3 (List.map ko aT.keys).length 1 9,.row v2 (ah.bn aT.aI).length 6 25,.box b3 [iP aT.kind,.bool aT.dh,iP aT.bZ,.str aT.bI,.own v2 (ah.bn aT.aI),.own v3 (List.map ko aT.keys)],.box b2 [iP 0,.bool false,iP 0,.str ([]:Str),.own (.slice none 0 0) [],.own (.slice none 0 0) []]]) (fun bW x1 aT v2 v3=>wL lD v1 bW x1 aT=some r0) BIG 0 (ah.mk v1.kind v1.dh v1.bZ v1.bI [] []) (.slice none 0 0) (.slice none 0 0) Z Z hf (fun _ _ _ _ hz=>bQ hz) ?_)))
 intro bW x1 aT v2 v3 hf; rw [wL] at hf; refine V 1 Z (C hf Z (fun h1 hf=>?_) fun h1 hf=>?_)
 ·
  refine B1 hf fun e1 h2 hf=>W 0 Z (AS Z (AO.aM h2 Z Z (ah.aB _) Z dN (ah.aG _) Z (U 1 Z (AS Z (AO.aH Z eY (fun b5=>(Rw 1 [0] Z Z (AW.draw 5 mixed (by kernel_rfl) Z ?_)))))))); refine Ev.cs aP 1 Z (Ev.cons Z Z Z (AO.bV (i:=3) Z Z Z Oi Z Z zg) (Ev.cons Z Z Z (AO.bV (i:=0) Z Z Z bY Z Z zg) ?_)); refine B1 hf fun x2 h3 hf=>Ev.cons rfl rfl rfl (AO.call rfl _ rfl rfl auR (Ra _ h3 ⟨rfl,rfl⟩)) (Ev.cons rfl rfl rfl (AO.bq (ah.bn [x2]) rfl oW rfl rfl rfl (by first | rfl | simp only [List.map,ah.aG,ah.bn]) ⟨rfl,rfl⟩) ?_)
  refine Ev.nil ?_; show AR _ _ _ _ _ _ _ _
  refine B1 hf fun x3 h4 hf=>AS Z (AO.eP (i:=2) (l:=aT.aI) (m:=[x2]) h4 Z Z Z Z Z Z Z oW dN (ah.aB _) (ah.aB _) (ah.aB _).symm (ah.dV) (ah.cells_one) (by decide) (fun v4 s1 hs1=>?_)); cases hs1; refine Rn 4 [3] Z Z (AR.drop1 ?_); exact N 0 Z ⟨(bS (x1 + 1)),(ah.mk aT.kind aT.dh aT.bZ aT.bI x3 aT.keys),v4,v3,Z,Z,Z,hf⟩
 refine B1 hf fun x4 h5 hf=>Wr 4 [2] Z Z (AS Z (AO.eP (i:=0) (l:=aT.keys) (m:=v1.keys) h5 Z Z Z Z Z Z Z kU dO Z Z Z (fun _=>Z) (fun _=>Z) (by decide) (fun v5 s2 hs2=>?_))); cases hs2; cases hf; exact Rx 4 [2,2,3] Z Z (ZC [3] Z Z h)
theorem V3 :∀ k:Nat,(M6 (mO k)):=by
 intro k
 induction k with
 | zero=>exact fun _ _ hz=>by first | cases hz | (unfold mO at hz; cases hz)
 | succ k ih=>exact fun rZ aU hz τ Q hq=>Vt (mO k) ih rZ hz hq
theorem G9 (rZ:ah) {aU:ah} (hf:rT rZ=some aU) (h:Q (.ret (.agg (aF aU))) τ):PC 26 [.agg (aF rZ)] τ Q:=
 ((V3 BIG)) rZ hf h

section
variable [Ay]
theorem rM (e1:aj) (bK:List av) {r0:ah} {r1:Int} (hf:nD e1 bK=some (r0,r1)) (h:Q (.ret (.tuple [.agg (aF r0),iP r1])) τ):PC 9 [.agg (aS e1),.list (List.map av.cells bK)] τ Q:=by
 unfold nD at hf; refine BN 28 [.cell 4 25,.tmp 5] [0,1] Tryz.func9 Z Z Z Z Z (W 1 Z (AS Z (AO.aH Z eY (fun b4=>?_)))); obtain ⟨s1,f1,h1,hf⟩:=aY hf; refine U 3 Z (CL Z (KE _ _ h1 (J 7 Z (C hf Z (fun h2 hf=>?_) fun h2 hf=>?_))))
 · cases hf; exact Wx 4 [0] rfl rfl ⟨rfl,_,⟨_,_,rfl,⟨_,_,0,_,_,rfl,rfl,bY,rfl⟩,_,_,rfl,rfl,rfl⟩,[],List.nil_sublist _,h⟩
 obtain ⟨x1,f2,h3,hf⟩:=aY hf; refine W 2 Z (CL Z (F4 _ _ h3 (U 3 Z (AS Z (AO.aH Z eY (fun b8=>?_)))))); refine B1 hf fun x2 h4 hf=>Rr 3 [0,0] Z Z (CL Z (G9 _ h4 ?_)); cases hf; exact Rx 3 [1] rfl rfl ⟨rfl,_,⟨_,_,rfl,⟨_,_,1,_,_,rfl,rfl,bY,rfl⟩,_,_,rfl,rfl,rfl⟩,[],List.nil_sublist _,h⟩
end


abbrev amW (aks:b_→b_→Option Bool):Prop:=∀ (wR:b_) (wQ:b_) {aU:Bool},aks wR wQ=some aU→∀ {τ:List bE} {Q:eZ→List bE→Prop} (h:Q (.ret (.bool aU)) τ),PC 62 [.agg (ajJ wR),.agg (ajJ wQ)] τ Q
theorem aoa (aks) (anF:amW aks) (a1:b_) (b1:b_) {r0:Bool} (hf:akf aks a1 b1=some r0) (h:Q (.ret (.bool r0)) τ):PC 62 [.agg (ajJ a1),.agg (ajJ b1)] τ Q:=by
 unfold akf at hf; refine BN 33 [.tmp 4] [0,1] Tryz.func62 Z Z Z Z Z (W 7 Z (On 4 9 13 [2,3] (b1.kind == 0) Z Z Z Z (J 1 Z (C hf Z (fun h2 hf=>?_) fun h2 hf=>?_))))
 · cases hf; exact M 1 Z (Y Z h)
 refine V 6 Z (C hf Z (fun h3 hf=>?_) fun h3 hf=>?_)
 · cases hf; exact M 1 Z (Y Z h)
 refine B1 hf fun x1 h4 hf=>W 2 Z (CL Z (akh _ h4 (J 1 Z (C hf Z (fun h5 hf=>?_) fun h5 hf=>?_))))
 ·
  refine V 0 Z (AW.draw 10 mixed (by kernel_rfl) Z ?_); refine Ev.cs aP 2 Z ?_; refine B1 hf fun e1 h6 hf=>Ev.cons Z Z Z (AO.aM h6 Z Z (b_.aB _) Z yX (b_.aG _) Z zg) (Ev.cs aP 3 Z ?_); refine B1 hf fun e2 h7 hf=>Ev.cons Z Z Z (AO.aM h7 Z Z (b_.aB _) Z yX (b_.aG _) Z zg) (Ev.cs aP 1 Z ?_); replace hf:=(aJ _).trans hf; refine B1 hf fun x2 h8 hf=>Ev.cons Z Z Z (AO.call Z _ Z Z atc (anF _ _ h8 zg)) (Ev.cs aP 1 Z (Ev.nil ?_))
  show AR _ _ _ _ _ _ _ _
  cases hf; exact N 0 Z (Y Z h)
 cases hf; exact M 1 Z (Y Z h)
theorem aod :∀ k:Nat,(amW (ahc k)):=by
 intro k
 induction k with
 | zero=>exact fun _ _ _ hz=>by first | cases hz | (unfold ahc at hz; cases hz)
 | succ k ih=>exact fun wR wQ aU hz τ Q hq=>aoa (ahc k) ih wR wQ hz hq
theorem aog (wR:b_) (wQ:b_) {aU:Bool} (hf:amC wR wQ=some aU) (h:Q (.ret (.bool aU)) τ):PC 62 [.agg (ajJ wR),.agg (ajJ wQ)] τ Q:=
 ((aod BIG)) wR wQ hf h

theorem apu (a1:b_) (b1:b_) {r0:Bool} (hf:amP a1 b1=some r0) (h:Q (.ret (.bool r0)) τ):PC 28 [.agg (ajJ a1),.agg (ajJ b1)] τ Q:=by
 unfold amP at hf; refine BN 13 [.tmp 4] [0,1] Tryz.func28 Z Z Z Z Z ?_; refine B1 hf fun x1 h1 hf=>W 5 Z (CL Z (anb _ _ h1 ?_)); replace hf:=(aJ _).trans hf; refine B1 hf fun b2 h3 hf=>U 1 Z (AR.eX 4 8 12 true [] b2 Z Z (fun h2=>?_) (fun h2=>?_) ?_)
 · replace h3:=eD h2 h3; refine Is 8 h2 Z ?_; replace h3:=(aJ _).trans h3; obtain ⟨x2,h4,h3⟩:=aN h3; refine U 2 Z (GO Z (AO.call Z _ Z Z atc (aog _ _ h4 ?_))); obtain rfl:=Option.some.inj h3; exact eU 1 Z (En [12] Z)
 · replace h3:=eF h2 h3; refine Is 8 h2 Z ?_; obtain rfl:=Option.some.inj h3; exact eU 4 Z (En [12] Z)
 cases hf; exact N 1 Z (Y Z h)

theorem aoX (v1:ah) (t1:b_) {r0:Bool} (hf:al4 v1 t1=some r0) (h:Q (.ret (.bool r0)) τ):PC 10 [.agg (aF v1),.agg (ajJ t1)] τ Q:=by
 unfold al4 at hf; refine BN 14 [.tmp 4] [0,1] Tryz.func10 Z Z Z Z Z (V 3 Z (AW.draw 10 mixed (by kernel_rfl) Z ?_)); refine Ev.cs aP 1 Z ?_; refine B1 hf fun x1 h1 hf=>Ev.cons Z Z Z (AO.call Z _ Z Z atg (om _ h1 zg)) (Ev.cs aP 2 Z ?_); replace hf:=(aJ _).trans hf; refine B1 hf fun b1 h3 hf=>Ev.eX hKA 5 8 13 true [] (.bool b1) Z Z (fun h2=>?_) (fun h2=>?_) ?_
 · replace h3:=eD h2 h3; refine Ev.is Yt 8 h2 Z (Ev.cs aP 1 Z ?_); obtain ⟨x2,h4,h3⟩:=aN h3; refine Ev.run Z Z Z Z Z Z Z (AO.call Z _ Z Z atf (ana _ h4 zg)) (Ev.cs aP 1 Z ?_); replace h3:=(aJ _).trans h3; obtain ⟨x3,h5,h3⟩:=aN h3; refine Ev.run Z Z Z Z Z Z Z (AO.call Z _ Z Z auQ (apu _ _ h5 zg)) ?_; obtain rfl:=Option.some.inj h3; refine Ev.cs aP 1 Z ?_; exact Ev.nil (Less.settle (ps:=[13]) Z)
 · replace h3:=eF h2 h3; refine Ev.is Yt 8 h2 Z ?_; obtain rfl:=Option.some.inj h3; refine Ev.cs aP 5 Z ?_; exact Ev.nil (Less.settle (ps:=[13]) Z)
 refine Ev.cs aP 1 Z (Ev.nil ?_); show AR _ _ _ _ _ _ _ _
 cases hf; exact N 0 Z (Y Z h)

theorem arb (bK:List qE) {r0:Int} (hf:anz bK=some r0) (h:Q (.ret (iP r0)) τ):PC 64 [.list (List.map qE.cells bK)] τ Q:=by
 unfold anz at hf; refine BN 47 [.tmp 2] [0] Tryz.func64 Z Z Z Z Z (W 2 Z (AS Z (AO.aL (l:=bK) Z Z Z Z amf Z Z (J 1 Z (C hf Z (fun h1 hf=>?_) fun h1 hf=>?_)))))
 · cases hf; exact M 1 Z (Y Z h)
 refine V 1 Z (Gc (fun i1=>[(0,.list (List.map qE.cells bK)),(3,iP i1)]) (fun i1=>[]) (fun bW i1=>alg bK bW i1=some r0) BIG 0 Z Z hf (fun _ hz=>bQ hz) ?_); intro bW i1 hf; rw [alg] at hf; refine W 2 Z (AS Z (AO.aL (l:=bK) Z Z Z Z amf Z Z (J 1 Z (C hf Z (fun h2 hf=>?_) fun h2 hf=>?_))))
 ·
  refine B1 hf fun e1 h3 hf=>W 2 Z (AS Z (AO.aM h3 Z Z Z Z amf (qE.aG _) Z ?_)); refine B1 hf fun x1 h4 hf=>U 2 Z (CL Z (EP _ h4 (J 1 Z (C hf Z (fun h5 hf=>?_) fun h5 hf=>?_))))
  · cases hf; exact M 1 Z (Y Z h)
  refine B1 hf fun e2 h6 hf=>W 2 Z (AS Z (AO.aM h6 Z Z Z Z amf (qE.aG _) Z ?_)); refine B1 hf fun e3 h7 hf=>U 2 Z (CL Z (amd _ h7 (J 3 Z (C hf Z (fun h8 hf=>?_) fun h8 hf=>?_))))
  · cases hf; exact M 2 Z (Y Z h)
  refine V 1 Z (Gc (fun xO=>[(0,.list (List.map qE.cells bK)),(3,iP i1),(5,iP xO)]) (fun xO=>[]) (fun EB xO=>alU bK i1 (alg bK bW) EB xO=some r0) BIG 0 Z Z hf (fun _ hz=>bQ hz) ?_); intro EB xO hf; rw [alU] at hf; refine V 3 Z (C hf Z (fun h9 hf=>?_) fun h9 hf=>?_)
  ·
   refine V 0 Z (AW.draw 11 mixed (by kernel_rfl) Z ?_); refine Ev.cs aP 2 Z ?_; refine B1 hf fun e4 h10 hf=>Ev.cons Z Z Z (AO.aM h10 Z Z Z Z amf (qE.aG _) Z zg) (Ev.cs aP 4 Z ?_); refine B1 hf fun e5 h11 hf=>Ev.cons Z Z Z (AO.aM h11 Z Z Z Z amf (qE.aG _) Z zg) (Ev.cs aP 3 Z (Ev.nil ?_)); show AR _ _ _ _ _ _ _ _
   refine J 0 Z (C hf Z (fun h12 hf=>?_) fun h12 hf=>?_)
   · cases hf; exact M 1 Z (Y Z h)
   exact M 3 Z ⟨(bS (xO + 1)),Z,Z,Z,hf⟩
  exact M 3 Z ⟨(bS (i1 + 1)),Z,Z,Z,hf⟩
 cases hf; exact M 1 Z (Y Z h)

theorem YZ (e1:aj) {r0:Bool} (hf:FP e1=some r0) (h:Q (.ret (.bool r0)) τ):PC 183 [.agg (aS e1)] τ Q:=by
 unfold FP at hf; refine BN 45 [.tmp 2] [0] Tryz.func183 Z Z Z Z Z (V 6 Z (C hf Z (fun h1 hf=>?_) fun h1 hf=>?_))
 ·
  refine V 0 Z (AW.cond Z (fun h2=>?_) (fun h2=>?_))
  · refine W 2 Z (AS Z (AO.aL (l:=e1.args) Z Z Z Z fM Z (aj.aB _) ?_)); cases hf; exact N 2 Z (Y Z h)
  cases h1.symm.trans h2
 refine V 2 Z (C hf Z (fun h3 hf=>?_) fun h3 hf=>?_)
 · refine W 2 Z (AS Z (AO.aL (l:=e1.args) Z Z Z Z fM Z (aj.aB _) ?_)); cases hf; exact N 2 Z (Y Z h)
 refine V 2 Z (C hf Z (fun h4 hf=>?_) fun h4 hf=>?_)
 ·
  refine V 0 Z (AW.cond Z (fun h5=>?_) (fun h5=>?_))
  · refine W 2 Z (AS Z (AO.aL (l:=e1.args) Z Z Z Z fM Z (aj.aB _) ?_)); cases hf; exact N 2 Z (Y Z h)
  cases h4.symm.trans h5
 refine V 2 Z (C hf Z (fun h6 hf=>?_) fun h6 hf=>?_)
 · refine W 2 Z (AS Z (AO.aL (l:=e1.args) Z Z Z Z fM Z (aj.aB _) ?_)); cases hf; exact N 2 Z (Y Z h)
 refine V 2 Z (C hf Z (fun h7 hf=>?_) fun h7 hf=>?_)
 ·
  refine V 0 Z (AW.cond Z (fun h8=>?_) (fun h8=>?_))
  · refine W 2 Z (AS Z (AO.aL (l:=e1.args) Z Z Z Z fM Z (aj.aB _) ?_)); cases hf; exact N 2 Z (Y Z h)
  cases h7.symm.trans h8
 refine V 2 Z (C hf Z (fun h9 hf=>?_) fun h9 hf=>?_)
 · refine W 2 Z (AS Z (AO.aL (l:=e1.args) Z Z Z Z fM Z (aj.aB _) ?_)); cases hf; exact N 2 Z (Y Z h)
 refine V 2 Z (C hf Z (fun h10 hf=>?_) fun h10 hf=>?_)
 · refine W 2 Z (AS Z (AO.aL (l:=e1.args) Z Z Z Z fM Z (aj.aB _) ?_)); cases hf; exact N 2 Z (Y Z h)
 refine W 4 Z (On 4 35 39 [1] (e1.kind == 9) Z Z Z Z (U 1 Z (On 4 40 44 [] (e1.kind == 10) Z Z Z Z ?_))); cases hf; exact N 1 Z (Y Z h)

theorem Jv (op1:Str) {r0:Int} (hf:yF op1=some r0) (h:Q (.ret (iP r0)) τ):PC 230 [.str op1] τ Q:=by
 unfold yF at hf; refine BN 22 [.tmp 2] [0] Tryz.func230 Z Z Z Z Z (V 4 Z (C hf Z (fun h1 hf=>?_) fun h1 hf=>?_))
 · cases hf; exact M 1 Z (Y Z h)
 refine V 2 Z (C hf Z (fun h2 hf=>?_) fun h2 hf=>?_)
 · cases hf; exact M 1 Z (Y Z h)
 refine V 2 Z (C hf Z (fun h3 hf=>?_) fun h3 hf=>?_)
 ·
  refine V 0 Z (AW.cond Z (fun h4=>?_) (fun h4=>?_))
  · cases hf; exact M 1 Z (Y Z h)
  cases h3.symm.trans h4
 refine V 2 Z (C hf Z (fun h5 hf=>?_) fun h5 hf=>?_)
 ·
  refine V 0 Z (AW.cond Z (fun h6=>?_) (fun h6=>?_))
  · cases hf; exact M 1 Z (Y Z h)
  cases h5.symm.trans h6
 refine V 2 Z (C hf Z (fun h7 hf=>?_) fun h7 hf=>?_)
 ·
  refine V 0 Z (AW.cond Z (fun h8=>?_) (fun h8=>?_))
  · cases hf; exact M 1 Z (Y Z h)
  cases h7.symm.trans h8
 refine V 2 Z (C hf Z (fun h9 hf=>?_) fun h9 hf=>?_)
 ·
  refine V 0 Z (AW.cond Z (fun h10=>?_) (fun h10=>?_))
  · cases hf; exact M 1 Z (Y Z h)
  cases h9.symm.trans h10
 refine V 2 Z (C hf Z (fun h11 hf=>?_) fun h11 hf=>?_)
 ·
  refine V 0 Z (AW.cond Z (fun h12=>?_) (fun h12=>?_))
  · cases hf; exact M 1 Z (Y Z h)
  cases h11.symm.trans h12
 refine V 2 Z (C hf Z (fun jq hf=>?_) fun jq hf=>?_)
 · cases hf; exact M 1 Z (Y Z h)
 refine V 2 Z (C hf Z (fun kg hf=>?_) fun kg hf=>?_)
 ·
  refine V 0 Z (AW.cond Z (fun kC=>?_) (fun kC=>?_))
  · cases hf; exact M 1 Z (Y Z h)
  cases kg.symm.trans kC
 refine V 2 Z (C hf Z (fun h16 hf=>?_) fun h16 hf=>?_)
 · cases hf; exact M 1 Z (Y Z h)
 refine V 2 Z (C hf Z (fun mQ hf=>?_) fun mQ hf=>?_)
 ·
  refine V 0 Z (AW.cond Z (fun h18=>?_) (fun h18=>?_))
  · cases hf; exact M 1 Z (Y Z h)
  cases mQ.symm.trans h18
 refine V 2 Z (C hf Z (fun h19 hf=>?_) fun h19 hf=>?_)
 ·
  refine V 0 Z (AW.cond Z (fun h20=>?_) (fun h20=>?_))
  · cases hf; exact M 1 Z (Y Z h)
  cases h19.symm.trans h20
 refine V 2 Z (C hf Z (fun h21 hf=>?_) fun h21 hf=>?_)
 · cases hf; exact M 1 Z (Y Z h)
 cases hf; exact M 1 Z (Y Z h)

theorem YW (e1:aj) {r0:Bool} (hf:FN e1=some r0) (h:Q (.ret (.bool r0)) τ):PC 184 [.agg (aS e1)] τ Q:=by
 unfold FN at hf; refine BN 31 [.tmp 2] [0] Tryz.func184 Z Z Z Z Z (V 6 Z (C hf Z (fun h1 hf=>?_) fun h1 hf=>?_))
 ·
  refine V 0 Z (AW.cond Z (fun h2=>?_) (fun h2=>?_))
  · replace hf:=(aJ _).trans hf; refine B1 hf fun x1 h3 hf=>W 2 Z (CL Z (EP _ h3 ?_)); cases hf; exact N 1 Z (Y Z h)
  cases h1.symm.trans h2
 refine V 2 Z (C hf Z (fun h4 hf=>?_) fun h4 hf=>?_)
 ·
  refine V 0 Z (AW.cond Z (fun h5=>?_) (fun h5=>?_))
  · replace hf:=(aJ _).trans hf; refine B1 hf fun x2 h6 hf=>W 2 Z (CL Z (EP _ h6 ?_)); cases hf; exact N 1 Z (Y Z h)
  cases h4.symm.trans h5
 refine V 2 Z (C hf Z (fun h7 hf=>?_) fun h7 hf=>?_)
 · replace hf:=(aJ _).trans hf; refine B1 hf fun x3 h8 hf=>W 2 Z (CL Z (EP _ h8 ?_)); cases hf; exact N 1 Z (Y Z h)
 refine V 2 Z (C hf Z (fun h9 hf=>?_) fun h9 hf=>?_)
 · refine W 4 Z (On 4 17 21 [] (e1.name == ([45]:Str)) Z Z Z Z ?_); cases hf; exact N 1 Z (Y Z h)
 refine V 2 Z (C hf Z (fun h11 hf=>?_) fun h11 hf=>?_)
 · refine B1 hf fun x4 h12 hf=>W 2 Z (CL Z (Jv _ h12 ?_)); cases hf; exact N 2 Z (Y Z h)
 cases hf; exact M 4 Z (Y Z h)


abbrev Sq (ku:ah→ah→Option Bool):Prop:=∀ (wR:ah) (wQ:ah) {aU:Bool},ku wR wQ=some aU→∀ {τ:List bE} {Q:eZ→List bE→Prop} (h:Q (.ret (.bool aU)) τ),PC 185 [.agg (aF wR),.agg (aF wQ)] τ Q
theorem Zp (ku) (Wo:Sq ku) (a1:ah) (b1:ah) {r0:Bool} (hf:Dl ku a1 b1=some r0) (h:Q (.ret (.bool r0)) τ):PC 185 [.agg (aF a1),.agg (aF b1)] τ Q:=by
 unfold Dl at hf; refine BN 88 [.tmp 4] [0,1] Tryz.func185 Z Z Z Z Z (W 9 Z (AR.or 6 12 18 [2,3] (x:=(!(a1.dh == b1.dh))) Z Z (fun h1=>?_) (fun h1=>?_) ?_))
 · refine Is 12 h1 Z (U 4 Z (GO Z (AO.MX Z Zv Z Z ?_))); exact eU 1 Z (En [18,2,3] Z)
 · refine Is 12 h1 Z ?_; exact eU 6 Z (En [18,2,3] Z)
 refine U 1 Z (On 6 19 25 [2,3] (a1.bZ != b1.bZ) Z Z Z Z (U 1 Z (On 6 26 32 [2,3] (!(a1.bI == b1.bI)) Z Z Z Z (U 1 Z (AR.or 8 33 41 [2,3] (x:=((a1.aI.length:Int) != (b1.aI.length:Int))) Z Z (fun h4=>?_) (fun h4=>?_) ?_)))))
 · refine Is 33 h4 Z (U 2 Z (GO Z (AO.aL (l:=a1.aI) Z Z Z Z dN Z (ah.aB _) (U 2 Z (GO Z (AO.aL (l:=b1.aI) Z Z Z Z dN Z (ah.aB _) ?_)))))); exact eU 2 Z (En [41,2,3] Z)
 · refine Is 33 h4 Z ?_; exact eU 8 Z (En [41,2,3] Z)
 refine U 1 Z (AR.or 8 42 50 [2,3] (x:=((a1.keys.length:Int) != (b1.keys.length:Int))) Z Z (fun h5=>?_) (fun h5=>?_) ?_)
 · refine Is 42 h5 Z (U 2 Z (GO Z (AO.aL (l:=a1.keys) Z Z Z Z dO Z Z (U 2 Z (GO Z (AO.aL (l:=b1.keys) Z Z Z Z dO Z Z ?_)))))); exact eU 2 Z (En [50,2,3] Z)
 · refine Is 42 h5 Z ?_; exact eU 8 Z (En [50,2,3] Z)
 refine J 0 Z (C hf Z (fun h6 hf=>?_) fun h6 hf=>?_)
 · cases hf; exact M 1 Z (Y Z h)
 refine V 1 Z (Gc (fun i1=>[(2,.ref (aF a1)),(3,.ref (aF b1)),(5,iP i1)]) (fun i1=>[]) (fun bW i1=>uE ku a1 b1 bW i1=some r0) BIG 0 Z Z hf (fun _ hz=>bQ hz) ?_); intro bW i1 hf; rw [uE] at hf; refine W 3 Z (AS Z (AO.aL (l:=a1.keys) Z Z Z Z dO Z Z (J 1 Z (C hf Z (fun h7 hf=>?_) fun h7 hf=>?_))))
 ·
  refine V 0 Z (AW.draw 11 mixed (by kernel_rfl) Z ?_); refine Ev.cs aP 3 Z ?_; refine B1 hf fun e1 h8 hf=>Ev.cons Z Z Z (AO.aM h8 Z Z Z Z dO Z Z zg) (Ev.cs aP 4 Z ?_); refine B1 hf fun e2 h9 hf=>Ev.cons Z Z Z (AO.aM h9 Z Z Z Z dO Z Z zg) (Ev.cs aP 2 Z (Ev.nil ?_)); show AR _ _ _ _ _ _ _ _
  refine J 0 Z (C hf Z (fun h10 hf=>?_) fun h10 hf=>?_)
  · cases hf; exact M 1 Z (Y Z h)
  exact M 3 Z ⟨(bS (i1 + 1)),Z,Z,Z,hf⟩
 refine V 1 Z (Gc (fun i2=>[(2,.ref (aF a1)),(3,.ref (aF b1)),(6,iP i2)]) (fun i2=>[]) (fun EB i2=>mY ku a1 b1 EB i2=some r0) BIG 0 Z Z hf (fun _ hz=>bQ hz) ?_); intro EB i2 hf; rw [mY] at hf; refine W 3 Z (AS Z (AO.aL (l:=a1.aI) Z Z Z Z dN Z (ah.aB _) (J 1 Z (C hf Z (fun h11 hf=>?_) fun h11 hf=>?_))))
 ·
  refine V 0 Z (AW.draw 12 mixed (by kernel_rfl) Z ?_); refine Ev.cs aP 3 Z ?_; refine B1 hf fun e3 h12 hf=>Ev.cons Z Z Z (AO.aM h12 Z Z (ah.aB _) Z dN (ah.aG _) Z zg) (Ev.cs aP 4 Z ?_); refine B1 hf fun e4 jq hf=>Ev.cons Z Z Z (AO.aM jq Z Z (ah.aB _) Z dN (ah.aG _) Z zg) (Ev.cs aP 1 Z ?_); refine B1 hf fun x1 kg hf=>Ev.cons Z Z Z (AO.call Z _ Z Z Nj (Wo _ _ kg zg)) (Ev.cs aP 1 Z (Ev.nil ?_)); show AR _ _ _ _ _ _ _ _
  refine J 0 Z (C hf Z (fun kC hf=>?_) fun kC hf=>?_)
  · cases hf; exact M 1 Z (Y Z h)
  exact M 3 Z ⟨(bS (i2 + 1)),Z,Z,Z,hf⟩
 cases hf; exact M 1 Z (Y Z h)
theorem Z6 :∀ k:Nat,(Sq (uD k)):=by
 intro k
 induction k with
 | zero=>exact fun _ _ _ hz=>by first | cases hz | (unfold uD at hz; cases hz)
 | succ k ih=>exact fun wR wQ aU hz τ Q hq=>Zp (uD k) ih wR wQ hz hq
theorem DZ (wR:ah) (wQ:ah) {aU:Bool} (hf:r9 wR wQ=some aU) (h:Q (.ret (.bool aU)) τ):PC 185 [.agg (aF wR),.agg (aF wQ)] τ Q:=
 ((Z6 BIG)) wR wQ hf h

theorem WT (e1:aj) {r0:Bool} (hf:Dk e1=some r0) (h:Q (.ret (.bool r0)) τ):PC 136 [.agg (aS e1)] τ Q:=by
 unfold Dk at hf; refine BN 61 [.tmp 2] [0] Tryz.func136 Z Z Z Z Z ?_; refine B1 hf fun x1 h1 hf=>W 3 Z (CL Z (YZ _ h1 ?_)); refine B1 hf fun b1 h3 hf=>U 2 Z (AR.eX 4 7 11 false [1] b1 Z Z (fun h2=>?_) (fun h2=>?_) ?_)
 · replace h3:=eF h2 h3; refine Is 7 h2 Z ?_; obtain ⟨x2,h4,h3⟩:=aN h3; refine U 1 Z (GO Z (AO.call Z _ Z Z ahI (YW _ h4 ?_))); obtain rfl:=Option.some.inj h3; exact eU 2 Z (En [11,1] Z)
 · replace h3:=eD h2 h3; refine Is 7 h2 Z ?_; obtain rfl:=Option.some.inj h3; exact eU 4 Z (En [11,1] Z)
 refine B1 hf fun b2 h6 hf=>U 1 Z (AR.eX 11 12 23 false [1] b2 Z Z (fun h5=>?_) (fun h5=>?_) ?_)
 ·
  replace h6:=eF h5 h6; refine Is 12 h5 Z ?_; replace h6:=(aJ _).trans h6; obtain ⟨b3,h8,h6⟩:=aN h6; refine U 4 Z (AR.eX 6 16 22 true [1,12] b3 Z Z (fun h7=>?_) (fun h7=>?_) ?_)
  · replace h8:=eD h7 h8; refine Is 16 h7 Z (U 2 Z (GO Z (AO.build Z eY ZE Z ?_))); obtain ⟨x3,h9,h8⟩:=aN h8; refine GO Z (AO.call Z _ Z Z Nj (DZ _ _ h9 ?_)); obtain rfl:=Option.some.inj h8; exact eU 2 Z (En [22,1,12] Z)
  · replace h8:=eF h7 h8; refine Is 16 h7 Z ?_; obtain rfl:=Option.some.inj h8; exact eU 6 Z (En [22,1,12] Z)
  obtain rfl:=Option.some.inj h6; exact eU 1 Z (En [23,1] Z)
 · replace h6:=eD h5 h6; refine Is 12 h5 Z ?_; obtain rfl:=Option.some.inj h6; exact eU 11 Z (En [23,1] Z)
 refine J 0 Z (C hf Z (fun h10 hf=>?_) fun h10 hf=>?_)
 · cases hf; exact M 1 Z (Y Z h)
 refine V 3 Z (C hf Z (fun h11 hf=>?_) fun h11 hf=>?_)
 · refine W 2 Z (AS Z (AO.aL (l:=e1.keys) Z Z Z Z dO Z Z ?_)); cases hf; exact N 2 Z (Y Z h)
 refine V 1 Z (Gc (fun i1=>[(1,.ref (aS e1)),(3,iP i1)]) (fun i1=>[]) (fun bW i1=>sH e1 bW i1=some r0) BIG 0 Z Z hf (fun _ hz=>bQ hz) ?_); intro bW i1 hf; rw [sH] at hf; refine W 3 Z (AS Z (AO.aL (l:=e1.keys) Z Z Z Z dO Z Z (J 1 Z (C hf Z (fun h12 hf=>?_) fun h12 hf=>?_))))
 ·
  refine B1 hf fun e2 jq hf=>W 3 Z (AS Z (AO.aM jq Z Z Z Z dO Z Z (U 1 Z (AS Z (AO.bJ Z Z Z Z cu Z ?_))))); refine B1 hf fun b4 kC hf=>U 2 Z (AR.eX 8 45 53 false [1,3] b4 Z Z (fun kg=>?_) (fun kg=>?_) ?_)
  · replace kC:=eF kg kC; refine Is 45 kg Z ?_; obtain ⟨e3,h16,kC⟩:=aN kC; refine U 3 Z (GO Z (AO.aM h16 Z Z Z Z dO Z Z (U 1 Z (GO Z (AO.bJ Z Z Z Z cu Z ?_))))); obtain rfl:=Option.some.inj kC; exact eU 2 Z (En [53,1,3] Z)
  · replace kC:=eD kg kC; refine Is 45 kg Z ?_; obtain rfl:=Option.some.inj kC; exact eU 8 Z (En [53,1,3] Z)
  refine J 0 Z (C hf Z (fun mQ hf=>?_) fun mQ hf=>?_)
  · cases hf; exact M 1 Z (Y Z h)
  exact M 3 Z ⟨(bS (i1 + 1)),Z,Z,Z,hf⟩
 refine W 2 Z (AS Z (AO.aL (l:=e1.keys) Z Z Z Z dO Z Z (U 2 Z (AS Z (AO.aL (l:=e1.args) Z Z Z Z fM Z (aj.aB _) ?_))))); cases hf; exact N 2 Z (Y Z h)

theorem YV (zD:List Str) {r0:Bool} (hf:FM zD=some r0) (h:Q (.ret (.bool r0)) τ):PC 137 [sP zD] τ Q:=by
 unfold FM at hf; refine BN 25 [.tmp 2] [0] Tryz.func137 Z Z Z Z Z (V 2 Z (Gc (fun i1=>[(0,sP zD),(3,iP i1)]) (fun i1=>[]) (fun bW i1=>pK zD bW i1=some r0) BIG 0 Z Z hf (fun _ hz=>bQ hz) ?_)); intro bW i1 hf; rw [pK] at hf; refine W 2 Z (AS Z (AO.aL (l:=zD) Z Z Z Z dO Z Z (J 1 Z (C hf Z (fun h1 hf=>?_) fun h1 hf=>?_))))
 ·
  refine V 1 Z (Gc (fun xO=>[(0,sP zD),(3,iP i1),(4,iP xO)]) (fun xO=>[]) (fun EB xO=>vB zD i1 (pK zD bW) EB xO=some r0) BIG 0 Z Z hf (fun _ hz=>bQ hz) ?_); intro EB xO hf; rw [vB] at hf; refine V 3 Z (C hf Z (fun h2 hf=>?_) fun h2 hf=>?_)
  ·
   refine V 0 Z (AW.draw 9 mixed (by kernel_rfl) Z ?_); refine Ev.cs aP 2 Z ?_; refine B1 hf fun e1 h3 hf=>Ev.cons Z Z Z (AO.aM h3 Z Z Z Z dO Z Z zg) (Ev.cs aP 3 Z ?_); refine B1 hf fun e2 h4 hf=>Ev.cons Z Z Z (AO.aM h4 Z Z Z Z dO Z Z zg) (Ev.cs aP 2 Z (Ev.nil ?_)); show AR _ _ _ _ _ _ _ _
   refine J 0 Z (C hf Z (fun h5 hf=>?_) fun h5 hf=>?_)
   · cases hf; exact M 1 Z (Y Z h)
   exact M 3 Z ⟨(bS (xO + 1)),Z,Z,Z,hf⟩
  exact M 3 Z ⟨(bS (i1 + 1)),Z,Z,Z,hf⟩
 cases hf; exact M 1 Z (Y Z h)


abbrev OO (mI:aj→Int→Option Int):Prop:=∀ (fV:aj) (gI:Int) {aU:Int},mI fV gI=some aU→∀ {τ:List bE} {Q:eZ→List bE→Prop} (h:Q (.ret (iP aU)) τ),PC 104 [.agg (aS fV),iP gI] τ Q
theorem Xj (mI) (Tf:OO mI) (e1:aj) (bP:Int) {r0:Int} (hf:Eo mI e1 bP=some r0) (h:Q (.ret (iP r0)) τ):PC 104 [.agg (aS e1),iP bP] τ Q:=by
 unfold Eo at hf; refine BN 49 [.tmp 4] [0,1] Tryz.func104 Z Z Z Z Z (V 4 Z (C hf Z (fun h1 hf=>?_) fun h1 hf=>?_))
 · cases hf; exact M 1 Z (Y Z h)
 refine B1 hf fun x1 h2 hf=>W 1 Z (CL Z (WT _ h2 (J 1 Z (C hf Z (fun h3 hf=>?_) fun h3 hf=>?_))))
 · cases hf; exact M 1 Z (Y Z h)
 refine B1 hf fun f1 h4 hf=>W 2 Z (CL Z (ER _ h4 (U 5 Z (An 3 19 22 [1,2,5] (f1 != 0) Z Z Z Z (J 0 Z (C hf Z (fun h6 hf=>?_) fun h6 hf=>?_))))))
 · cases hf; exact M 2 Z (Y Z h)
 refine W 2 Z (AS Z (AO.aL (l:=e1.args) Z Z Z Z fM Z (aj.aB _) (J 1 Z (C hf Z (fun h7 hf=>?_) fun h7 hf=>?_))))
 · cases hf; exact M 1 Z (Y Z h)
 refine B1 hf fun x2 h8 hf=>W 2 Z (CL Z (YV _ h8 (J 0 Z (C hf Z (fun h9 hf=>?_) fun h9 hf=>?_))))
 · cases hf; exact M 1 Z (Y Z h)
 refine V 1 Z (Gc (fun i1=>[(1,iP bP),(2,.ref (aS e1)),(6,iP i1)]) (fun i1=>[]) (fun bW i1=>yE mI e1 bP bW i1=some r0) BIG 0 Z Z hf (fun _ hz=>bQ hz) ?_); intro bW i1 hf; rw [yE] at hf; refine W 3 Z (AS Z (AO.aL (l:=e1.args) Z Z Z Z fM Z (aj.aB _) (J 1 Z (C hf Z (fun h10 hf=>?_) fun h10 hf=>?_))))
 ·
  refine B1 hf fun e2 h11 hf=>W 3 Z (AS Z (AO.aM h11 Z Z (aj.aB _) Z fM (aj.aG _) Z ?_)); refine B1 hf fun f2 h12 hf=>U 3 Z (CL Z (Tf _ _ h12 (J 3 Z (C hf Z (fun jq hf=>?_) fun jq hf=>?_))))
  · cases hf; exact M 2 Z (Y Z h)
  exact M 3 Z ⟨(bS (i1 + 1)),Z,Z,Z,hf⟩
 cases hf; exact M 1 Z (Y Z h)
theorem Ya :∀ k:Nat,(OO (pO k)):=by
 intro k
 induction k with
 | zero=>exact fun _ _ _ hz=>by first | cases hz | (unfold pO at hz; cases hz)
 | succ k ih=>exact fun fV gI aU hz τ Q hq=>Xj (pO k) ih fV gI hz hq
theorem YX (fV:aj) (gI:Int) {aU:Int} (hf:Nc fV gI=some aU) (h:Q (.ret (iP aU)) τ):PC 104 [.agg (aS fV),iP gI] τ Q:=
 ((Ya BIG)) fV gI hf h

theorem EO (e1:aj) {r0:Int} (hf:xF e1=some r0) (h:Q (.ret (iP r0)) τ):PC 65 [.agg (aS e1)] τ Q:=by
 unfold xF at hf; refine BN 8 [.tmp 2] [0] Tryz.func65 Z Z Z Z Z ?_; refine B1 hf fun x1 h1 hf=>W 3 Z (CL Z (OB _ h1 (J 1 Z (C hf Z (fun h2 hf=>?_) fun h2 hf=>?_))))
 · cases hf; exact M 1 Z (Y Z h)
 replace hf:=(aJ _).trans hf; refine B1 hf fun x2 h3 hf=>W 1 Z (CL Z (YX _ _ h3 ?_)); cases hf; exact N 1 Z (Y Z h)

theorem aqx (e1:aj) (bK:List qE) {r0:b_} {r1:Int} (hf:alJ e1 bK=some (r0,r1)) (h:Q (.ret (.tuple [.agg (ajJ r0),iP r1])) τ):PC 105 [.agg (aS e1),.list (List.map qE.cells bK)] τ Q:=by
 unfold alJ at hf; refine BN 33 [.cell 4 37,.tmp 5] [0,1] Tryz.func105 Z Z Z Z Z (W 1 Z (AS Z (AO.aH Z acT (fun b4=>(J 4 Z (C hf Z (fun h1 hf=>?_) fun h1 hf=>?_))))))
 · refine B1 hf fun x1 h2 hf=>W 2 Z (CL Z (apW _ h2 ?_)); cases hf; exact Rx 2 [0] rfl rfl ⟨rfl,_,⟨_,_,rfl,⟨_,_,0,_,_,rfl,rfl,mX,rfl⟩,_,_,rfl,rfl,rfl⟩,[],List.nil_sublist _,h⟩
 refine V 1 Z (Gc (fun i1=>[(1,.list (List.map qE.cells bK)),(2,.ref (aS e1)),(4,pP b4),(6,iP i1)]) (fun i1=>[.box b4 [iP 0,.own (.slice none 0 0) []]]) (fun bW i1=>alC e1 bK bW i1=some (r0,r1)) BIG 0 Z Z hf (fun _ hz=>bQ hz) ?_); intro bW i1 hf; rw [alC] at hf; refine W 2 Z (AS Z (AO.aL (l:=bK) Z Z Z Z amf Z Z (J 1 Z (C hf Z (fun h3 hf=>?_) fun h3 hf=>?_))))
 ·
  refine V 0 Z (AW.draw 8 mixed (by kernel_rfl) Z ?_); refine Ev.cs aP 2 Z ?_; refine B1 hf fun e2 h4 hf=>Ev.cons Z Z Z (AO.aM h4 Z Z Z Z amf (qE.aG _) Z zg) (Ev.cs aP 5 Z (Ev.nil ?_)); show AR _ _ _ _ _ _ _ _
  refine J 0 Z (C hf Z (fun h5 hf=>?_) fun h5 hf=>?_)
  · refine B1 hf fun e3 h6 hf=>W 2 Z (AS Z (AO.aM h6 Z Z Z Z amf (qE.aG _) Z ?_)); cases hf; exact Rx 4 [0] rfl rfl ⟨rfl,_,⟨_,_,rfl,⟨_,_,0,_,_,rfl,rfl,mX,rfl⟩,_,_,rfl,rfl,rfl⟩,[],List.nil_sublist _,h⟩
  exact M 3 Z ⟨(bS (i1 + 1)),Z,Z,Z,hf⟩
 cases hf; exact Wx 3 [0] rfl rfl ⟨rfl,_,⟨_,_,rfl,⟨_,_,0,_,_,rfl,rfl,mX,rfl⟩,_,_,rfl,rfl,rfl⟩,[],List.nil_sublist _,h⟩

theorem RQ (name1:Str) {r0:Int} (hf:FL name1=some r0) (h:Q (.ret (iP r0)) τ):PC 106 [.str name1] τ Q:=by
 unfold FL at hf; refine BN 18 [.tmp 2] [0] Tryz.func106 Z Z Z Z Z (V 4 Z (C hf Z (fun h1 hf=>?_) fun h1 hf=>?_))
 ·
  refine V 0 Z (AW.cond Z (fun h2=>?_) (fun h2=>?_))
  · cases hf; exact M 1 Z (Y Z h)
  cases h1.symm.trans h2
 refine V 2 Z (C hf Z (fun h3 hf=>?_) fun h3 hf=>?_)
 ·
  refine V 0 Z (AW.cond Z (fun h4=>?_) (fun h4=>?_))
  · cases hf; exact M 1 Z (Y Z h)
  cases h3.symm.trans h4
 refine V 2 Z (C hf Z (fun h5 hf=>?_) fun h5 hf=>?_)
 ·
  refine V 0 Z (AW.cond Z (fun h6=>?_) (fun h6=>?_))
  · cases hf; exact M 1 Z (Y Z h)
  cases h5.symm.trans h6
 refine V 2 Z (C hf Z (fun h7 hf=>?_) fun h7 hf=>?_)
 ·
  refine V 0 Z (AW.cond Z (fun h8=>?_) (fun h8=>?_))
  · cases hf; exact M 1 Z (Y Z h)
  cases h7.symm.trans h8
 refine V 2 Z (C hf Z (fun h9 hf=>?_) fun h9 hf=>?_)
 ·
  refine V 0 Z (AW.cond Z (fun h10=>?_) (fun h10=>?_))
  · cases hf; exact M 1 Z (Y Z h)
  cases h9.symm.trans h10
 refine V 2 Z (C hf Z (fun h11 hf=>?_) fun h11 hf=>?_)
 · cases hf; exact M 1 Z (Y Z h)
 refine V 2 Z (C hf Z (fun h12 hf=>?_) fun h12 hf=>?_)
 ·
  refine V 0 Z (AW.cond Z (fun jq=>?_) (fun jq=>?_))
  · cases hf; exact M 1 Z (Y Z h)
  cases h12.symm.trans jq
 refine V 2 Z (C hf Z (fun kg hf=>?_) fun kg hf=>?_)
 ·
  refine V 0 Z (AW.cond Z (fun kC=>?_) (fun kC=>?_))
  · cases hf; exact M 1 Z (Y Z h)
  cases kg.symm.trans kC
 refine V 2 Z (C hf Z (fun h16 hf=>?_) fun h16 hf=>?_)
 ·
  refine V 0 Z (AW.cond Z (fun mQ=>?_) (fun mQ=>?_))
  · cases hf; exact M 1 Z (Y Z h)
  cases h16.symm.trans mQ
 refine V 2 Z (C hf Z (fun h18 hf=>?_) fun h18 hf=>?_)
 ·
  refine V 0 Z (AW.cond Z (fun h19=>?_) (fun h19=>?_))
  · cases hf; exact M 1 Z (Y Z h)
  cases h18.symm.trans h19
 refine V 2 Z (C hf Z (fun h20 hf=>?_) fun h20 hf=>?_)
 ·
  refine V 0 Z (AW.cond Z (fun h21=>?_) (fun h21=>?_))
  · cases hf; exact M 1 Z (Y Z h)
  cases h20.symm.trans h21
 refine V 2 Z (C hf Z (fun h22 hf=>?_) fun h22 hf=>?_)
 · cases hf; exact M 1 Z (Y Z h)
 cases hf; exact M 1 Z (Y Z h)

theorem afk (t1:b_) {r0:Bool} (hf:abJ t1=some r0) (h:Q (.ret (.bool r0)) τ):PC 138 [.agg (ajJ t1)] τ Q:=by
 unfold abJ at hf; refine BN 11 [.tmp 2] [0] Tryz.func138 Z Z Z Z Z (W 6 Z (On 4 6 10 [] (t1.kind == 7) Z Z Z Z ?_)); cases hf; exact N 1 Z (Y Z h)

theorem ach (EC:Int) {r0:b_} (hf:aaA EC=some r0) (h:Q (.ret (.agg (ajJ r0))) τ):PC 141 [iP EC] τ Q:=by
 unfold aaA at hf; refine BN 5 [.cell 2 37] [0] Tryz.func141 Z Z Z Z Z (W 0 Z (AS Z (AO.aH Z acT (fun b2=>?_)))); replace hf:=(aJ _).trans hf; refine B1 hf fun x1 h1 hf=>U 1 Z (CL Z (akA _ h1 ?_)); cases hf; exact Rx 1 [0] Z Z (ZC [0] Z Z h)


abbrev amO (ajW:b_→b_→Option Bool):Prop:=∀ (ut1:b_) (uu1:b_) {aU:Bool},ajW ut1 uu1=some aU→∀ {τ:List bE} {Q:eZ→List bE→Prop} (h:Q (.ret (.bool aU)) τ),PC 186 [.agg (ajJ ut1),.agg (ajJ uu1)] τ Q
theorem anR (ajW) (anl:amO ajW) (t1:b_) (u1:b_) {r0:Bool} (hf:ai5 ajW t1 u1=some r0) (h:Q (.ret (.bool r0)) τ):PC 186 [.agg (ajJ t1),.agg (ajJ u1)] τ Q:=by
 unfold ai5 at hf; refine BN 32 [.tmp 4] [0,1] Tryz.func186 Z Z Z Z Z ?_; refine B1 hf fun x1 h1 hf=>W 4 Z (CL Z (afk _ h1 (U 1 Z (On 4 7 11 [2,3] (u1.kind == 0) Z Z Z Z (J 0 Z (C hf Z (fun h3 hf=>?_) fun h3 hf=>?_))))))
 · cases hf; exact M 1 Z (Y Z h)
 refine V 5 Z (C hf Z (fun h4 hf=>?_) fun h4 hf=>?_)
 · cases hf; exact M 1 Z (Y Z h)
 refine V 0 Z (AW.draw 16 mixed (by kernel_rfl) Z ?_); refine Ev.cs aP 2 Z (Ev.cons Z Z Z (AO.aL (l:=t1.elem) Z Z Z Z yX Z (b_.aB _) zg) (Ev.cs aP 2 Z ?_)); replace hf:=(aJ _).trans hf; refine B1 hf fun b1 h6 hf=>Ev.eX hKA 10 21 31 false [] (.bool b1) Z Z (fun h5=>?_) (fun h5=>?_) ?_
 ·
  replace h6:=eF h5 h6; refine Ev.is Yt 21 h5 Z (Ev.cs aP 2 Z ?_); obtain ⟨e1,h7,h6⟩:=aN h6; refine Ev.run Z Z Z Z Z Z Z (AO.aM h7 Z Z (b_.aB _) Z yX (b_.aG _) Z zg) (Ev.cs aP 3 Z ?_); obtain ⟨e2,h8,h6⟩:=aN h6; refine Ev.run Z Z Z Z Z Z Z (AO.aM h8 Z Z (b_.aB _) Z yX (b_.aG _) Z zg) (Ev.cs aP 1 Z ?_); replace h6:=(aJ _).trans h6; obtain ⟨x2,h9,h6⟩:=aN h6
  refine Ev.run Z Z Z Z Z Z Z (AO.call Z _ Z Z am1 (anl _ _ h9 zg)) ?_; obtain rfl:=Option.some.inj h6; refine Ev.cs aP 1 Z ?_; exact Ev.nil (Less.settle (ps:=[31]) Z)
 · replace h6:=eD h5 h6; refine Ev.is Yt 21 h5 Z ?_; obtain rfl:=Option.some.inj h6; refine Ev.cs aP 10 Z ?_; exact Ev.nil (Less.settle (ps:=[31]) Z)
 refine Ev.cs aP 1 Z (Ev.nil ?_); show AR _ _ _ _ _ _ _ _
 cases hf; exact N 0 Z (Y Z h)
theorem anV :∀ k:Nat,(amO (afb k)):=by
 intro k
 induction k with
 | zero=>exact fun _ _ _ hz=>by first | cases hz | (unfold afb at hz; cases hz)
 | succ k ih=>exact fun ut1 uu1 aU hz τ Q hq=>anR (afb k) ih ut1 uu1 hz hq
theorem ai9 (ut1:b_) (uu1:b_) {aU:Bool} (hf:CU ut1 uu1=some aU) (h:Q (.ret (.bool aU)) τ):PC 186 [.agg (ajJ ut1),.agg (ajJ uu1)] τ Q:=
 ((anV BIG)) ut1 uu1 hf h

theorem ae6 (t1:b_) (EC:Int) {r0:Bool} (hf:abH t1 EC=some r0) (h:Q (.ret (.bool r0)) τ):PC 142 [.agg (ajJ t1),iP EC] τ Q:=by
 unfold abH at hf; refine BN 9 [.tmp 4] [0,1] Tryz.func142 Z Z Z Z Z (V 2 Z (AW.draw 5 mixed (by kernel_rfl) Z ?_)); refine Ev.cs aP 2 Z ?_; refine B1 hf fun x1 h1 hf=>Ev.cons Z Z Z (AO.call Z _ Z Z aly (ach _ h1 zg)) ?_; replace hf:=(aJ _).trans hf; refine B1 hf fun x2 h2 hf=>Ev.cons Z Z Z (AO.call Z _ Z Z am1 (ai9 _ _ h2 zg)) (Ev.cs aP 1 Z (Ev.nil ?_)); show AR _ _ _ _ _ _ _ _
 cases hf; exact N 0 Z (Y Z h)

theorem apU (a1:b_) (b1:b_) {r0:b_} {r1:Bool} (hf:amF a1 b1=some (r0,r1)) (h:Q (.ret (.tuple [.agg (ajJ r0),.bool r1])) τ):PC 139 [.agg (ajJ a1),.agg (ajJ b1)] τ Q:=by
 unfold amF at hf; refine BN 37 [.cell 4 37,.tmp 5] [0,1] Tryz.func139 Z Z Z Z Z (W 2 Z (AS Z (AO.aH Z acT (fun b4=>(J 5 Z (C hf Z (fun h1 hf=>?_) fun h1 hf=>?_))))))
 ·
  refine V 0 Z (AW.draw 6 mixed (by kernel_rfl) Z ?_); refine Ev.cs aP 2 Z ?_; refine B1 hf fun e1 h2 hf=>Ev.cons Z Z Z (AO.aM h2 Z Z (b_.aB _) Z yX (b_.aG _) Z zg) (Ev.cs aP 2 Z ?_); refine B1 hf fun x1 h3 hf=>Ev.cons Z Z Z (AO.call Z _ Z Z ahU (ae6 _ _ h3 zg)) (Ev.nil ?_); show AR _ _ _ _ _ _ _ _
  cases hf; exact Rx 2 [0] rfl rfl ⟨rfl,_,⟨_,_,rfl,⟨_,_,0,_,_,rfl,rfl,mX,rfl⟩,_,_,rfl,rfl,rfl⟩,[],List.nil_sublist _,h⟩
 refine V 4 Z (C hf Z (fun h4 hf=>?_) fun h4 hf=>?_)
 ·
  refine V 0 Z (AW.draw 6 mixed (by kernel_rfl) Z ?_); refine Ev.cs aP 2 Z ?_; refine B1 hf fun e2 h5 hf=>Ev.cons Z Z Z (AO.aM h5 Z Z (b_.aB _) Z yX (b_.aG _) Z zg) (Ev.cs aP 2 Z ?_); refine B1 hf fun x2 h6 hf=>Ev.cons Z Z Z (AO.call Z _ Z Z ahU (ae6 _ _ h6 zg)) (Ev.nil ?_); show AR _ _ _ _ _ _ _ _
  cases hf; exact Rx 2 [0] rfl rfl ⟨rfl,_,⟨_,_,rfl,⟨_,_,0,_,_,rfl,rfl,mX,rfl⟩,_,_,rfl,rfl,rfl⟩,[],List.nil_sublist _,h⟩
 refine V 0 Z (AW.YJ 4 11 12 0 mixed (by kernel_rfl) (by kernel_rfl) (by kernel_rfl) Z Z Z Z ?_); refine Ev.cs aP 2 Z ?_; refine B1 hf fun x3 h7 hf=>Ev.cons Z Z Z (AO.call Z _ Z Z ahV (afk _ h7 zg)) (Ev.cs aP 1 Z (Ev.nil ?_)); show Ev _ _ _ _ _ _ _
 refine B1 hf fun b2 h9 hf=>Ev.eX hKT 7 29 36 true [4,26] (.bool b2) Z Z (fun h8=>?_) (fun h8=>?_) ?_
 ·
  replace h9:=eD h8 h9; refine Ev.is Yt 29 h8 Z (Ev.cs aP 1 Z ?_); obtain ⟨x4,h10,h9⟩:=aN h9; refine Ev.run Z Z Z Z Z Z Z (AO.call Z _ Z Z ahU (ae6 _ _ h10 zg)) (Ev.cs aP 1 Z ?_); replace h9:=(aJ _).trans h9; obtain ⟨b3,h12,h9⟩:=aN h9; refine Ev.eX Yt 3 32 35 false [4,26,29] (.bool b3) Z Z (fun h11=>?_) (fun h11=>?_) ?_
  · replace h12:=eF h11 h12; refine Ev.is Yt 32 h11 Z (Ev.cs aP 1 Z ?_); replace h12:=(aJ _).trans h12; obtain ⟨x5,jq,h12⟩:=aN h12; refine Ev.run Z Z Z Z Z Z Z (AO.call Z _ Z Z ahU (ae6 _ _ jq zg)) ?_; obtain rfl:=Option.some.inj h12; refine Ev.cs aP 1 Z ?_; exact Ev.nil (Less.settle (ps:=[35,4,26,29]) Z)
  · replace h12:=eD h11 h12; refine Ev.is Yt 32 h11 Z ?_; obtain rfl:=Option.some.inj h12; refine Ev.cs aP 3 Z ?_; exact Ev.nil (Less.settle (ps:=[35,4,26,29]) Z)
  obtain rfl:=Option.some.inj h9; refine Ev.cs aP 1 Z ?_; exact Ev.nil (Less.settle (ps:=[36,4,26]) Z)
 · replace h9:=eF h8 h9; refine Ev.is Yt 29 h8 Z ?_; obtain rfl:=Option.some.inj h9; refine Ev.cs aP 7 Z ?_; exact Ev.nil (Less.settle (ps:=[36,4,26]) Z)
 refine Ev.nil (TF.fH Z Z (AO.ig (i:=0) Z Z Z mX Z Z Z Z Z (TF.nil ?_))); show AR _ _ _ _ _ _ _ _
 cases hf; exact N 1 rfl ⟨rfl,_,⟨_,_,rfl,⟨_,_,0,_,_,rfl,rfl,mX,rfl⟩,_,_,rfl,rfl,rfl⟩,[],List.nil_sublist _,h⟩

theorem amc (EC:Int) {r0:b_} (hf:alT EC=some r0) (h:Q (.ret (.agg (ajJ r0))) τ):PC 187 [iP EC] τ Q:=by
 unfold alT at hf; refine BN 6 [.cell 2 37] [0] Tryz.func187 Z Z Z Z Z (W 0 Z (AS Z (AO.aH Z acT (fun b2=>?_)))); refine B1 hf fun x1 h1 hf=>U 1 Z (CL Z (ach _ h1 ?_)); replace hf:=(aJ _).trans hf; refine B1 hf fun x2 h2 hf=>CL Z (akH _ _ h2 ?_); cases hf; exact Rx 1 [0] Z Z (ZC [0] Z Z h)

theorem aqz (name1:Str) (l1:List b_) {r0:b_} {r1:Bool} (hf:abb name1 l1=some (r0,r1)) (h:Q (.ret (.tuple [.agg (ajJ r0),.bool r1])) τ):PC 140 [.str name1,.list (b_.bn l1)] τ Q:=by
 unfold abb at hf; refine BN 150 [.cell 4 37,.tmp 5] [0,1] Tryz.func140 Z Z Z Z Z (W 0 Z (AS Z (AO.aH Z acT (fun b4=>?_)))); refine B1 hf fun x1 h1 hf=>U 1 Z (CL Z (ach _ h1 (AS Z (AO.aH Z acT (fun b6=>(Rw 4 [0] Z Z (C hf Z (fun h2 hf=>?_) fun h2 hf=>?_)))))))
 ·
  refine V 0 Z (AW.YJ 13 19 20 1 mixed (by kernel_rfl) (by kernel_rfl) (by kernel_rfl) Z Z Z Z ?_); refine B1 hf fun x2 h3 hf=>Ev.cons Z Z Z (AO.call Z _ Z Z aly (ach _ h3 zg)) (Ev.cs aP 1 Z ?_); refine B1 hf fun e1 h4 hf=>Ev.cons Z Z Z (AO.aM h4 Z Z (b_.aB _) Z yX (b_.aG _) Z zg) (Ev.cs aP 1 Z ?_); refine B1 hf fun x3 h5 hf=>Ev.cons Z Z Z (AO.call Z _ Z Z ahU (ae6 _ _ h5 zg)) (Ev.cs aP 1 Z ?_); refine B1 hf fun b1 h7 hf=>Ev.eX (hKE hKT) 6 16 22 false [1,4,11] (.bool b1) Z Z (fun h6=>?_) (fun h6=>?_) ?_
  ·
   replace h7:=eF h6 h7; refine Ev.is Yt 16 h6 Z (Ev.cs aP 1 Z ?_); obtain ⟨e2,h8,h7⟩:=aN h7; refine Ev.run Z Z Z Z Z Z Z (AO.aM h8 Z Z (b_.aB _) Z yX (b_.aG _) Z zg) (Ev.cs aP 1 Z ?_); obtain ⟨x4,h9,h7⟩:=aN h7; refine Ev.run Z Z Z Z Z Z Z (AO.call Z _ Z Z aou (amc _ h9 zg)) ?_; replace h7:=(aJ _).trans h7; obtain ⟨x5,h10,h7⟩:=aN h7
   refine Ev.run Z Z Z Z Z Z Z (AO.call Z _ Z Z am1 (ai9 _ _ h10 zg)) ?_; obtain rfl:=Option.some.inj h7; refine Ev.cs aP 1 Z ?_; exact Ev.nil (Less.settle (ps:=[22,1,4,11]) Z)
  · replace h7:=eD h6 h7; refine Ev.is Yt 16 h6 Z ?_; obtain rfl:=Option.some.inj h7; refine Ev.cs aP 6 Z ?_; exact Ev.nil (Less.settle (ps:=[22,1,4,11]) Z)
  refine Ev.cs aP 1 Z (Ev.nil ?_); show Ev _ _ _ _ _ _ _
  refine B1 hf fun b2 h12 hf=>Ev.eX hKT 6 23 29 false [4,11] (.bool b2) Z Z (fun h11=>?_) (fun h11=>?_) ?_
  ·
   replace h12:=eF h11 h12; refine Ev.is Yt 23 h11 Z (Ev.cs aP 1 Z ?_); obtain ⟨e3,jq,h12⟩:=aN h12; refine Ev.run Z Z Z Z Z Z Z (AO.aM jq Z Z (b_.aB _) Z yX (b_.aG _) Z zg) (Ev.cs aP 1 Z ?_); obtain ⟨x6,kg,h12⟩:=aN h12; refine Ev.run Z Z Z Z Z Z Z (AO.call Z _ Z Z aou (amc _ kg zg)) ?_; replace h12:=(aJ _).trans h12; obtain ⟨x7,kC,h12⟩:=aN h12
   refine Ev.run Z Z Z Z Z Z Z (AO.call Z _ Z Z am1 (ai9 _ _ kC zg)) ?_; obtain rfl:=Option.some.inj h12; refine Ev.cs aP 1 Z ?_; exact Ev.nil (Less.settle (ps:=[29,4,11]) Z)
  · replace h12:=eD h11 h12; refine Ev.is Yt 23 h11 Z ?_; obtain rfl:=Option.some.inj h12; refine Ev.cs aP 6 Z ?_; exact Ev.nil (Less.settle (ps:=[29,4,11]) Z)
  refine Ev.nil (TF.fH Z Z (AO.ig (i:=0) Z Z Z mX Z Z Z Z Z (TF.nil ?_))); show AR _ _ _ _ _ _ _ _
  cases hf; exact N 1 rfl ⟨rfl,_,⟨_,_,rfl,⟨_,_,1,_,_,rfl,rfl,mX,rfl⟩,_,_,rfl,rfl,rfl⟩,[],List.nil_sublist _,h⟩
 refine V 2 Z (C hf Z (fun h16 hf=>?_) fun h16 hf=>?_)
 ·
  refine V 0 Z (AW.YJ 7 25 26 1 mixed (by kernel_rfl) (by kernel_rfl) (by kernel_rfl) Z Z Z Z ?_); refine B1 hf fun x8 mQ hf=>Ev.cons Z Z Z (AO.call Z _ Z Z aly (ach _ mQ zg)) (Ev.cs aP 1 Z ?_); refine B1 hf fun e4 h18 hf=>Ev.cons Z Z Z (AO.aM h18 Z Z (b_.aB _) Z yX (b_.aG _) Z zg) (Ev.cs aP 1 Z ?_); refine B1 hf fun x9 h19 hf=>Ev.cons Z Z Z (AO.call Z _ Z Z aou (amc _ h19 zg)) ?_; refine B1 hf fun CO h20 hf=>Ev.cons Z Z Z (AO.call Z _ Z Z am1 (ai9 _ _ h20 zg)) (Ev.cs aP 1 Z (Ev.nil ?_))
  show Ev _ _ _ _ _ _ _
  refine B1 hf fun b3 h22 hf=>Ev.eX hKT 18 38 56 false [4,32] (.bool b3) Z Z (fun h21=>?_) (fun h21=>?_) ?_
  ·
   replace h22:=eF h21 h22; refine Ev.is Yt 38 h21 Z (Ev.cs aP 1 Z ?_); obtain ⟨e5,h23,h22⟩:=aN h22; refine Ev.run Z Z Z Z Z Z Z (AO.aM h23 Z Z (b_.aB _) Z yX (b_.aG _) Z zg) (Ev.cs aP 1 Z ?_); obtain ⟨KP,Ku,h22⟩:=aN h22; refine Ev.run Z Z Z Z Z Z Z (AO.call Z _ Z Z ahU (ae6 _ _ Ku zg)) (Ev.cs aP 1 Z ?_); replace h22:=(aJ _).trans h22; obtain ⟨b4,PI,h22⟩:=aN h22
   refine Ev.eX Yt 12 43 55 true [4,32,38] (.bool b4) Z Z (fun Sw=>?_) (fun Sw=>?_) ?_
   ·
    replace PI:=eD Sw PI; refine Ev.is Yt 43 Sw Z (Ev.cs aP 1 Z ?_); obtain ⟨e6,h27,PI⟩:=aN PI; refine Ev.run Z Z Z Z Z Z Z (AO.aM h27 Z Z (b_.aB _) Z yX (b_.aG _) Z zg) (Ev.cs aP 1 Z ?_); obtain ⟨TU,Xb,PI⟩:=aN PI; refine Ev.run Z Z Z Z Z Z Z (AO.call Z _ Z Z ahU (ae6 _ _ Xb zg)) (Ev.cs aP 1 Z ?_); replace PI:=(aJ _).trans PI; obtain ⟨b5,h30,PI⟩:=aN PI
    refine Ev.eX Yt 6 48 54 false [4,32,38,43] (.bool b5) Z Z (fun Te=>?_) (fun Te=>?_) ?_
    ·
     replace h30:=eF Te h30; refine Ev.is Yt 48 Te Z (Ev.cs aP 1 Z ?_); obtain ⟨e7,h31,h30⟩:=aN h30; refine Ev.run Z Z Z Z Z Z Z (AO.aM h31 Z Z (b_.aB _) Z yX (b_.aG _) Z zg) (Ev.cs aP 1 Z ?_); obtain ⟨Sv,h32,h30⟩:=aN h30; refine Ev.run Z Z Z Z Z Z Z (AO.call Z _ Z Z aou (amc _ h32 zg)) ?_; replace h30:=(aJ _).trans h30; obtain ⟨Vo,O9,h30⟩:=aN h30
     refine Ev.run Z Z Z Z Z Z Z (AO.call Z _ Z Z am1 (ai9 _ _ O9 zg)) ?_; obtain rfl:=Option.some.inj h30; refine Ev.cs aP 1 Z ?_; exact Ev.nil (Less.settle (ps:=[54,4,32,38,43]) Z)
    · replace h30:=eD Te h30; refine Ev.is Yt 48 Te Z ?_; obtain rfl:=Option.some.inj h30; refine Ev.cs aP 6 Z ?_; exact Ev.nil (Less.settle (ps:=[54,4,32,38,43]) Z)
    obtain rfl:=Option.some.inj PI; refine Ev.cs aP 1 Z ?_; exact Ev.nil (Less.settle (ps:=[55,4,32,38]) Z)
   · replace PI:=eF Sw PI; refine Ev.is Yt 43 Sw Z ?_; obtain rfl:=Option.some.inj PI; refine Ev.cs aP 12 Z ?_; exact Ev.nil (Less.settle (ps:=[55,4,32,38]) Z)
   obtain rfl:=Option.some.inj h22; refine Ev.cs aP 1 Z ?_; exact Ev.nil (Less.settle (ps:=[56,4,32]) Z)
  · replace h22:=eD h21 h22; refine Ev.is Yt 38 h21 Z ?_; obtain rfl:=Option.some.inj h22; refine Ev.cs aP 18 Z ?_; exact Ev.nil (Less.settle (ps:=[56,4,32]) Z)
  refine Ev.nil (TF.fH Z Z (AO.ig (i:=0) Z Z Z mX Z Z Z Z Z (TF.nil ?_))); show AR _ _ _ _ _ _ _ _
  cases hf; exact N 1 rfl ⟨rfl,_,⟨_,_,rfl,⟨_,_,1,_,_,rfl,rfl,mX,rfl⟩,_,_,rfl,rfl,rfl⟩,[],List.nil_sublist _,h⟩
 refine V 2 Z (C hf Z (fun h34 hf=>?_) fun h34 hf=>?_)
 ·
  refine V 0 Z (AW.YJ 8 13 14 1 mixed (by kernel_rfl) (by kernel_rfl) (by kernel_rfl) Z Z Z Z ?_); refine Ev.cons Z Z Z (AO.bV (i:=0) Z Z Z mX Z Z zg) (Ev.cs aP 1 Z ?_); refine B1 hf fun e8 h35 hf=>Ev.cons Z Z Z (AO.aM h35 Z Z (b_.aB _) Z yX (b_.aG _) Z zg) (Ev.cs aP 1 Z (Ev.cons Z Z Z (AO.bV (i:=0) Z Z Z mX Z Z zg) ?_)); refine B1 hf fun x15 h36 hf=>Ev.cons Z Z Z (AO.call Z _ Z Z ajs (akH _ _ h36 zg)) ?_
  refine B1 hf fun Xh h37 hf=>Ev.cons Z Z Z (AO.call Z _ Z Z am1 (ai9 _ _ h37 zg)) (Ev.cs aP 1 Z (Ev.nil ?_)); show Ev _ _ _ _ _ _ _
  refine B1 hf fun b6 h39 hf=>Ev.eX hKT 5 66 71 true [4,59] (.bool b6) Z Z (fun h38=>?_) (fun h38=>?_) ?_
  · replace h39:=eD h38 h39; refine Ev.is Yt 66 h38 Z (Ev.cs aP 1 Z ?_); obtain ⟨e9,h40,h39⟩:=aN h39; refine Ev.run Z Z Z Z Z Z Z (AO.aM h40 Z Z (b_.aB _) Z yX (b_.aG _) Z zg) (Ev.cs aP 1 Z ?_); replace h39:=(aJ _).trans h39; obtain ⟨x17,h41,h39⟩:=aN h39; refine Ev.run Z Z Z Z Z Z Z (AO.call Z _ Z Z ahU (ae6 _ _ h41 zg)) ?_; obtain rfl:=Option.some.inj h39; refine Ev.cs aP 1 Z ?_; exact Ev.nil (Less.settle (ps:=[71,4,59]) Z)
  · replace h39:=eF h38 h39; refine Ev.is Yt 66 h38 Z ?_; obtain rfl:=Option.some.inj h39; refine Ev.cs aP 5 Z ?_; exact Ev.nil (Less.settle (ps:=[71,4,59]) Z)
  refine Ev.nil (TF.fH Z Z (AO.ig (i:=0) Z Z Z mX Z Z Z Z Z (TF.nil ?_))); show AR _ _ _ _ _ _ _ _
  cases hf; exact N 1 rfl ⟨rfl,_,⟨_,_,rfl,⟨_,_,1,_,_,rfl,rfl,mX,rfl⟩,_,_,rfl,rfl,rfl⟩,[],List.nil_sublist _,h⟩
 refine V 2 Z (C hf Z (fun h42 hf=>?_) fun h42 hf=>?_)
 ·
  refine V 0 Z (AW.YJ 7 12 13 1 mixed (by kernel_rfl) (by kernel_rfl) (by kernel_rfl) Z Z Z Z ?_); refine Ev.cons Z Z Z (AO.bV (i:=0) Z Z Z mX Z Z zg) ?_; refine B1 hf fun x18 h43 hf=>Ev.cons Z Z Z (AO.call Z _ Z Z ajs (akH _ _ h43 zg)) (Ev.cs aP 1 Z ?_); refine B1 hf fun e10 h44 hf=>Ev.cons Z Z Z (AO.aM h44 Z Z (b_.aB _) Z yX (b_.aG _) Z zg) (Ev.cs aP 1 Z ?_); refine B1 hf fun x19 h45 hf=>Ev.cons Z Z Z (AO.call Z _ Z Z ahU (ae6 _ _ h45 zg)) (Ev.cs aP 1 Z (Ev.nil ?_))
  show Ev _ _ _ _ _ _ _
  refine B1 hf fun b7 h47 hf=>Ev.eX hKT 5 80 85 true [4,75] (.bool b7) Z Z (fun h46=>?_) (fun h46=>?_) ?_
  · replace h47:=eD h46 h47; refine Ev.is Yt 80 h46 Z (Ev.cs aP 1 Z ?_); obtain ⟨e11,h48,h47⟩:=aN h47; refine Ev.run Z Z Z Z Z Z Z (AO.aM h48 Z Z (b_.aB _) Z yX (b_.aG _) Z zg) (Ev.cs aP 1 Z ?_); replace h47:=(aJ _).trans h47; obtain ⟨x20,h49,h47⟩:=aN h47; refine Ev.run Z Z Z Z Z Z Z (AO.call Z _ Z Z ahU (ae6 _ _ h49 zg)) ?_; obtain rfl:=Option.some.inj h47; refine Ev.cs aP 1 Z ?_; exact Ev.nil (Less.settle (ps:=[85,4,75]) Z)
  · replace h47:=eF h46 h47; refine Ev.is Yt 80 h46 Z ?_; obtain rfl:=Option.some.inj h47; refine Ev.cs aP 5 Z ?_; exact Ev.nil (Less.settle (ps:=[85,4,75]) Z)
  refine Ev.nil (TF.fH Z Z (AO.ig (i:=0) Z Z Z mX Z Z Z Z Z (TF.nil ?_))); show AR _ _ _ _ _ _ _ _
  cases hf; exact N 1 rfl ⟨rfl,_,⟨_,_,rfl,⟨_,_,1,_,_,rfl,rfl,mX,rfl⟩,_,_,rfl,rfl,rfl⟩,[],List.nil_sublist _,h⟩
 refine V 2 Z (C hf Z (fun h50 hf=>?_) fun h50 hf=>?_)
 ·
  refine V 0 Z (AW.cond Z (fun h51=>?_) (fun h51=>?_))
  ·
   refine V 0 Z (AW.draw 5 mixed (by kernel_rfl) Z ?_); refine Ev.cons Z Z Z (AO.bV (i:=0) Z Z Z mX Z Z zg) (Ev.cs aP 1 Z ?_); refine B1 hf fun e12 h52 hf=>Ev.cons Z Z Z (AO.aM h52 Z Z (b_.aB _) Z yX (b_.aG _) Z zg) (Ev.cs aP 1 Z ?_); refine B1 hf fun x21 h53 hf=>Ev.cons Z Z Z (AO.call Z _ Z Z ahU (ae6 _ _ h53 zg)) (Ev.nil ?_); show AR _ _ _ _ _ _ _ _
   cases hf; exact Rx 2 [1] rfl rfl ⟨rfl,_,⟨_,_,rfl,⟨_,_,1,_,_,rfl,rfl,mX,rfl⟩,_,_,rfl,rfl,rfl⟩,[],List.nil_sublist _,h⟩
  cases h50.symm.trans h51
 refine V 2 Z (C hf Z (fun h54 hf=>?_) fun h54 hf=>?_)
 ·
  refine V 0 Z (AW.draw 5 mixed (by kernel_rfl) Z ?_); refine Ev.cons Z Z Z (AO.bV (i:=0) Z Z Z mX Z Z zg) (Ev.cs aP 1 Z ?_); refine B1 hf fun e13 h55 hf=>Ev.cons Z Z Z (AO.aM h55 Z Z (b_.aB _) Z yX (b_.aG _) Z zg) (Ev.cs aP 1 Z ?_); refine B1 hf fun x22 h56 hf=>Ev.cons Z Z Z (AO.call Z _ Z Z ahU (ae6 _ _ h56 zg)) (Ev.nil ?_); show AR _ _ _ _ _ _ _ _
  cases hf; exact Rx 2 [1] rfl rfl ⟨rfl,_,⟨_,_,rfl,⟨_,_,1,_,_,rfl,rfl,mX,rfl⟩,_,_,rfl,rfl,rfl⟩,[],List.nil_sublist _,h⟩
 refine V 2 Z (C hf Z (fun h57 hf=>?_) fun h57 hf=>?_)
 ·
  refine V 0 Z (AW.cond Z (fun h58=>?_) (fun h58=>?_))
  ·
   refine V 0 Z (AW.YJ 6 11 12 1 mixed (by kernel_rfl) (by kernel_rfl) (by kernel_rfl) Z Z Z Z ?_); refine B1 hf fun x23 h59 hf=>Ev.cons Z Z Z (AO.call Z _ Z Z aly (ach _ h59 zg)) (Ev.cs aP 1 Z ?_); refine B1 hf fun e14 h60 hf=>Ev.cons Z Z Z (AO.aM h60 Z Z (b_.aB _) Z yX (b_.aG _) Z zg) (Ev.cs aP 1 Z ?_); refine B1 hf fun x24 h61 hf=>Ev.cons Z Z Z (AO.call Z _ Z Z ahU (ae6 _ _ h61 zg)) (Ev.cs aP 1 Z (Ev.nil ?_)); show Ev _ _ _ _ _ _ _
   refine B1 hf fun b8 h63 hf=>Ev.eX hKT 5 102 107 true [4,97] (.bool b8) Z Z (fun h62=>?_) (fun h62=>?_) ?_
   · replace h63:=eD h62 h63; refine Ev.is Yt 102 h62 Z (Ev.cs aP 1 Z ?_); obtain ⟨e15,h64,h63⟩:=aN h63; refine Ev.run Z Z Z Z Z Z Z (AO.aM h64 Z Z (b_.aB _) Z yX (b_.aG _) Z zg) (Ev.cs aP 1 Z ?_); replace h63:=(aJ _).trans h63; obtain ⟨x25,h65,h63⟩:=aN h63; refine Ev.run Z Z Z Z Z Z Z (AO.call Z _ Z Z ahU (ae6 _ _ h65 zg)) ?_; obtain rfl:=Option.some.inj h63; refine Ev.cs aP 1 Z ?_; exact Ev.nil (Less.settle (ps:=[107,4,97]) Z)
   · replace h63:=eF h62 h63; refine Ev.is Yt 102 h62 Z ?_; obtain rfl:=Option.some.inj h63; refine Ev.cs aP 5 Z ?_; exact Ev.nil (Less.settle (ps:=[107,4,97]) Z)
   refine Ev.nil (TF.fH Z Z (AO.ig (i:=0) Z Z Z mX Z Z Z Z Z (TF.nil ?_))); show AR _ _ _ _ _ _ _ _
   cases hf; exact N 1 rfl ⟨rfl,_,⟨_,_,rfl,⟨_,_,1,_,_,rfl,rfl,mX,rfl⟩,_,_,rfl,rfl,rfl⟩,[],List.nil_sublist _,h⟩
  cases h57.symm.trans h58
 refine V 2 Z (C hf Z (fun h66 hf=>?_) fun h66 hf=>?_)
 ·
  refine V 0 Z (AW.YJ 6 11 12 1 mixed (by kernel_rfl) (by kernel_rfl) (by kernel_rfl) Z Z Z Z ?_); refine B1 hf fun x26 h67 hf=>Ev.cons Z Z Z (AO.call Z _ Z Z aly (ach _ h67 zg)) (Ev.cs aP 1 Z ?_); refine B1 hf fun e16 h68 hf=>Ev.cons Z Z Z (AO.aM h68 Z Z (b_.aB _) Z yX (b_.aG _) Z zg) (Ev.cs aP 1 Z ?_); refine B1 hf fun x27 h69 hf=>Ev.cons Z Z Z (AO.call Z _ Z Z ahU (ae6 _ _ h69 zg)) (Ev.cs aP 1 Z (Ev.nil ?_)); show Ev _ _ _ _ _ _ _
  refine B1 hf fun b9 h71 hf=>Ev.eX hKT 5 102 107 true [4,97] (.bool b9) Z Z (fun h70=>?_) (fun h70=>?_) ?_
  · replace h71:=eD h70 h71; refine Ev.is Yt 102 h70 Z (Ev.cs aP 1 Z ?_); obtain ⟨e17,h72,h71⟩:=aN h71; refine Ev.run Z Z Z Z Z Z Z (AO.aM h72 Z Z (b_.aB _) Z yX (b_.aG _) Z zg) (Ev.cs aP 1 Z ?_); replace h71:=(aJ _).trans h71; obtain ⟨x28,h73,h71⟩:=aN h71; refine Ev.run Z Z Z Z Z Z Z (AO.call Z _ Z Z ahU (ae6 _ _ h73 zg)) ?_; obtain rfl:=Option.some.inj h71; refine Ev.cs aP 1 Z ?_; exact Ev.nil (Less.settle (ps:=[107,4,97]) Z)
  · replace h71:=eF h70 h71; refine Ev.is Yt 102 h70 Z ?_; obtain rfl:=Option.some.inj h71; refine Ev.cs aP 5 Z ?_; exact Ev.nil (Less.settle (ps:=[107,4,97]) Z)
  refine Ev.nil (TF.fH Z Z (AO.ig (i:=0) Z Z Z mX Z Z Z Z Z (TF.nil ?_))); show AR _ _ _ _ _ _ _ _
  cases hf; exact N 1 rfl ⟨rfl,_,⟨_,_,rfl,⟨_,_,1,_,_,rfl,rfl,mX,rfl⟩,_,_,rfl,rfl,rfl⟩,[],List.nil_sublist _,h⟩
 refine V 2 Z (C hf Z (fun h74 hf=>?_) fun h74 hf=>?_)
 ·
  refine V 0 Z (AW.YJ 7 13 14 1 mixed (by kernel_rfl) (by kernel_rfl) (by kernel_rfl) Z Z Z Z ?_); refine Ev.cons Z Z Z (AO.bV (i:=0) Z Z Z mX Z Z zg) (Ev.cs aP 1 Z ?_); refine B1 hf fun e18 h75 hf=>Ev.cons Z Z Z (AO.aM h75 Z Z (b_.aB _) Z yX (b_.aG _) Z zg) (Ev.cs aP 4 Z (Ev.nil ?_)); show Ev _ _ _ _ _ _ _
  refine B1 hf fun b10 h77 hf=>Ev.eX hKT 6 116 122 true [4,110] (.bool b10) Z Z (fun h76=>?_) (fun h76=>?_) ?_
  · replace h77:=eD h76 h77; refine Ev.is Yt 116 h76 Z (Ev.cs aP 1 Z ?_); obtain ⟨e19,h78,h77⟩:=aN h77; refine Ev.run Z Z Z Z Z Z Z (AO.aM h78 Z Z (b_.aB _) Z yX (b_.aG _) Z zg) (Ev.cs aP 3 Z ?_); obtain rfl:=Option.some.inj h77; refine Ev.cs aP 1 Z ?_; exact Ev.nil (Less.settle (ps:=[122,4,110]) Z)
  · replace h77:=eF h76 h77; refine Ev.is Yt 116 h76 Z ?_; obtain rfl:=Option.some.inj h77; refine Ev.cs aP 6 Z ?_; exact Ev.nil (Less.settle (ps:=[122,4,110]) Z)
  refine Ev.nil (TF.fH Z Z (AO.ig (i:=0) Z Z Z mX Z Z Z Z Z (TF.nil ?_))); show AR _ _ _ _ _ _ _ _
  cases hf; exact N 1 rfl ⟨rfl,_,⟨_,_,rfl,⟨_,_,1,_,_,rfl,rfl,mX,rfl⟩,_,_,rfl,rfl,rfl⟩,[],List.nil_sublist _,h⟩
 refine V 2 Z (C hf Z (fun h79 hf=>?_) fun h79 hf=>?_)
 ·
  refine V 0 Z (AW.draw 5 mixed (by kernel_rfl) Z ?_); refine B1 hf fun x29 h80 hf=>Ev.cons Z Z Z (AO.call Z _ Z Z aly (ach _ h80 zg)) (Ev.cs aP 1 Z ?_); refine B1 hf fun e20 h81 hf=>Ev.cons Z Z Z (AO.aM h81 Z Z (b_.aB _) Z yX (b_.aG _) Z zg) (Ev.cs aP 1 Z ?_); refine B1 hf fun x30 h82 hf=>Ev.cons Z Z Z (AO.call Z _ Z Z ahU (ae6 _ _ h82 zg)) (Ev.nil ?_); show AR _ _ _ _ _ _ _ _
  cases hf; exact Rx 2 [1] rfl rfl ⟨rfl,_,⟨_,_,rfl,⟨_,_,1,_,_,rfl,rfl,mX,rfl⟩,_,_,rfl,rfl,rfl⟩,[],List.nil_sublist _,h⟩
 refine V 2 Z (C hf Z (fun h83 hf=>?_) fun h83 hf=>?_)
 ·
  refine V 0 Z (AW.draw 7 mixed (by kernel_rfl) Z ?_); refine Ev.cons Z Z Z (AO.bV (i:=0) Z Z Z mX Z Z zg) ?_; refine B1 hf fun x31 h84 hf=>Ev.cons Z Z Z (AO.call Z _ Z Z ajs (akH _ _ h84 zg)) (Ev.cs aP 1 Z ?_); refine B1 hf fun e21 h85 hf=>Ev.cons Z Z Z (AO.aM h85 Z Z (b_.aB _) Z yX (b_.aG _) Z zg) (Ev.cs aP 1 Z ?_); refine B1 hf fun x32 h86 hf=>Ev.cons Z Z Z (AO.call Z _ Z Z aou (amc _ h86 zg)) ?_
  refine B1 hf fun x33 h87 hf=>Ev.cons Z Z Z (AO.call Z _ Z Z am1 (ai9 _ _ h87 zg)) (Ev.nil ?_); show AR _ _ _ _ _ _ _ _
  cases hf; exact Rx 2 [1] rfl rfl ⟨rfl,_,⟨_,_,rfl,⟨_,_,1,_,_,rfl,rfl,mX,rfl⟩,_,_,rfl,rfl,rfl⟩,[],List.nil_sublist _,h⟩
 refine B1 hf fun e22 h88 hf=>W 1 Z (AS Z (AO.aM h88 Z Z (b_.aB _) Z yX (b_.aG _) Z (J 3 Z (C hf Z (fun h89 hf=>?_) fun h89 hf=>?_))))
 · refine B1 hf fun e23 h90 hf=>W 1 Z (AS Z (AO.aM h90 Z Z (b_.aB _) Z yX (b_.aG _) Z ?_)); cases hf; exact Rx 3 [1] rfl rfl ⟨rfl,_,⟨_,_,rfl,⟨_,_,1,_,_,rfl,rfl,mX,rfl⟩,_,_,rfl,rfl,rfl⟩,[],List.nil_sublist _,h⟩
 refine B1 hf fun e24 h91 hf=>W 1 Z (AS Z (AO.aM h91 Z Z (b_.aB _) Z yX (b_.aG _) Z ?_)); cases hf; exact Rx 3 [1] rfl rfl ⟨rfl,_,⟨_,_,rfl,⟨_,_,1,_,_,rfl,rfl,mX,rfl⟩,_,_,rfl,rfl,rfl⟩,[],List.nil_sublist _,h⟩

theorem alS (a1:b_) (b1:b_) {r0:Int} (hf:aku a1 b1=some r0) (h:Q (.ret (iP r0)) τ):PC 188 [.agg (ajJ a1),.agg (ajJ b1)] τ Q:=by
 unfold aku at hf; refine BN 20 [.tmp 4] [0,1] Tryz.func188 Z Z Z Z Z ?_; refine B1 hf fun x1 h1 hf=>W 4 Z (CL Z (afk _ h1 (J 0 Z (C hf Z (fun h2 hf=>?_) fun h2 hf=>?_))))
 · cases hf; exact M 3 Z (Y Z h)
 refine B1 hf fun x2 h3 hf=>W 1 Z (CL Z (afk _ h3 (U 1 Z (On 6 11 17 [2] (a1.kind == b1.kind) Z Z Z Z (J 0 Z (C hf Z (fun h5 hf=>?_) fun h5 hf=>?_))))))
 · cases hf; exact M 3 Z (Y Z h)
 cases hf; exact M 1 Z (Y Z h)

theorem anc (t1:b_) {r0:b_} (hf:alD t1=some r0) (h:Q (.ret (.agg (ajJ r0))) τ):PC 231 [.agg (ajJ t1)] τ Q:=by
 unfold alD at hf; refine BN 10 [.cell 2 37] [0] Tryz.func231 Z Z Z Z Z (W 1 Z (AS Z (AO.aH Z acT (fun b2=>?_)))); refine B1 hf fun x1 h1 hf=>U 1 Z (CL Z (afk _ h1 (J 0 Z (C hf Z (fun h2 hf=>?_) fun h2 hf=>?_))))
 · cases hf; exact Wx 2 [0] Z Z (ZC [0] Z Z h)
 replace hf:=(aJ _).trans hf; refine B1 hf fun e1 h3 hf=>W 2 Z (AS Z (AO.aM h3 Z Z (b_.aB _) Z yX (b_.aG _) Z ?_)); cases hf; exact Rx 2 [0] Z Z (ZC [0] Z Z h)

theorem ara (a1:b_) (b1:b_) {r0:b_} {r1:Bool} (hf:amy a1 b1=some (r0,r1)) (h:Q (.ret (.tuple [.agg (ajJ r0),.bool r1])) τ):PC 189 [.agg (ajJ a1),.agg (ajJ b1)] τ Q:=by
 unfold amy at hf; refine BN 38 [.cell 4 37,.tmp 5] [0,1] Tryz.func189 Z Z Z Z Z (W 2 Z (AS Z (AO.aH Z acT (fun b4=>?_)))); refine B1 hf fun x1 h1 hf=>U 2 Z (CL Z (afk _ h1 ?_)); refine B1 hf fun b2 h3 hf=>U 1 Z (AR.eX 3 9 12 true [2,3,4] b2 Z Z (fun h2=>?_) (fun h2=>?_) ?_)
 · replace h3:=eD h2 h3; refine Is 9 h2 Z ?_; replace h3:=(aJ _).trans h3; obtain ⟨x2,h4,h3⟩:=aN h3; refine U 1 Z (GO Z (AO.call Z _ Z Z ahV (afk _ h4 ?_))); obtain rfl:=Option.some.inj h3; exact eU 1 Z (En [12,2,3,4] Z)
 · replace h3:=eF h2 h3; refine Is 9 h2 Z ?_; obtain rfl:=Option.some.inj h3; exact eU 3 Z (En [12,2,3,4] Z)
 refine J 0 Z (C hf Z (fun h5 hf=>?_) fun h5 hf=>?_)
 ·
  refine V 3 Z (C hf Z (fun h6 hf=>?_) fun h6 hf=>?_)
  · cases hf; exact Wx 3 [0] rfl rfl ⟨rfl,_,⟨_,_,rfl,⟨_,_,0,_,_,rfl,rfl,mX,rfl⟩,_,_,rfl,rfl,rfl⟩,[],List.nil_sublist _,h⟩
  cases hf; exact Wx 3 [0] rfl rfl ⟨rfl,_,⟨_,_,rfl,⟨_,_,0,_,_,rfl,rfl,mX,rfl⟩,_,_,rfl,rfl,rfl⟩,[],List.nil_sublist _,h⟩
 refine B1 hf fun xO h7 hf=>W 2 Z (CL Z (alS _ _ h7 (J 3 Z (C hf Z (fun h8 hf=>?_) fun h8 hf=>?_))))
 ·
  refine V 0 Z (AW.draw 7 mixed (by kernel_rfl) Z ?_); refine Ev.cs aP 2 Z ?_; refine B1 hf fun x3 h9 hf=>Ev.cons Z Z Z (AO.call Z _ Z Z arO (anc _ h9 zg)) (Ev.cs aP 1 Z ?_); refine B1 hf fun x4 h10 hf=>Ev.cons Z Z Z (AO.call Z _ Z Z arO (anc _ h10 zg)) ?_; refine B1 hf fun x5 h11 hf=>Ev.cons Z Z Z (AO.call Z _ Z Z agR (amU _ _ h11 zg)) ?_; refine B1 hf fun x6 h12 hf=>Ev.cons Z Z Z (AO.call Z _ Z Z ajs (akH _ _ h12 zg)) (Ev.nil ?_)
  show AR _ _ _ _ _ _ _ _
  cases hf; exact Rx 2 [0] rfl rfl ⟨rfl,_,⟨_,_,rfl,⟨_,_,0,_,_,rfl,rfl,mX,rfl⟩,_,_,rfl,rfl,rfl⟩,[],List.nil_sublist _,h⟩
 refine B1 hf fun x7 jq hf=>W 1 Z (CL Z (ach _ jq (U 3 Z (On 3 34 37 [4,31] (xO == 4) Z Z Z Z ?_)))); cases hf; exact Rx 2 [0] rfl rfl ⟨rfl,_,⟨_,_,rfl,⟨_,_,0,_,_,rfl,rfl,mX,rfl⟩,_,_,rfl,rfl,rfl⟩,[],List.nil_sublist _,h⟩

theorem apw (op1:Str) (a1:b_) (b1:b_) {r0:b_} {r1:Bool} (hf:aiV op1 a1 b1=some (r0,r1)) (h:Q (.ret (.tuple [.agg (ajJ r0),.bool r1])) τ):PC 143 [.str op1,.agg (ajJ a1),.agg (ajJ b1)] τ Q:=by
 unfold aiV at hf; refine BN 61 [.cell 6 37,.tmp 7] [0,1,2] Tryz.func143 Z Z Z Z Z (W 2 Z (AS Z (AO.aH Z acT (fun b6=>(J 4 Z (C hf Z (fun h1 hf=>?_) fun h1 hf=>?_))))))
 ·
  refine V 0 Z (AW.cond Z (fun h2=>?_) (fun h2=>?_))
  ·
   refine V 0 Z (AW.YJ 4 7 8 0 mixed (by kernel_rfl) (by kernel_rfl) (by kernel_rfl) Z Z Z Z ?_); refine B1 hf fun x1 h3 hf=>Ev.cons Z Z Z (AO.call Z _ Z Z aly (ach _ h3 zg)) (Ev.cs aP 1 Z ?_); refine B1 hf fun x2 h4 hf=>Ev.cons Z Z Z (AO.call Z _ Z Z ahU (ae6 _ _ h4 zg)) (Ev.cs aP 1 Z (Ev.nil ?_)); show Ev _ _ _ _ _ _ _
   refine B1 hf fun b2 h6 hf=>Ev.eX hKT 3 16 19 true [6,13] (.bool b2) Z Z (fun h5=>?_) (fun h5=>?_) ?_
   · replace h6:=eD h5 h6; refine Ev.is Yt 16 h5 Z (Ev.cs aP 1 Z ?_); replace h6:=(aJ _).trans h6; obtain ⟨x3,h7,h6⟩:=aN h6; refine Ev.run Z Z Z Z Z Z Z (AO.call Z _ Z Z ahU (ae6 _ _ h7 zg)) ?_; obtain rfl:=Option.some.inj h6; refine Ev.cs aP 1 Z ?_; exact Ev.nil (Less.settle (ps:=[19,6,13]) Z)
   · replace h6:=eF h5 h6; refine Ev.is Yt 16 h5 Z ?_; obtain rfl:=Option.some.inj h6; refine Ev.cs aP 3 Z ?_; exact Ev.nil (Less.settle (ps:=[19,6,13]) Z)
   refine Ev.nil (TF.fH Z Z (AO.ig (i:=0) Z Z Z mX Z Z Z Z Z (TF.nil ?_))); show AR _ _ _ _ _ _ _ _
   cases hf; exact N 1 rfl ⟨rfl,_,⟨_,_,rfl,⟨_,_,0,_,_,rfl,rfl,mX,rfl⟩,_,_,rfl,rfl,rfl⟩,[],List.nil_sublist _,h⟩
  cases h1.symm.trans h2
 refine V 2 Z (C hf Z (fun h8 hf=>?_) fun h8 hf=>?_)
 ·
  refine V 0 Z (AW.YJ 4 7 8 0 mixed (by kernel_rfl) (by kernel_rfl) (by kernel_rfl) Z Z Z Z ?_); refine B1 hf fun x4 h9 hf=>Ev.cons Z Z Z (AO.call Z _ Z Z aly (ach _ h9 zg)) (Ev.cs aP 1 Z ?_); refine B1 hf fun x5 h10 hf=>Ev.cons Z Z Z (AO.call Z _ Z Z ahU (ae6 _ _ h10 zg)) (Ev.cs aP 1 Z (Ev.nil ?_)); show Ev _ _ _ _ _ _ _
  refine B1 hf fun b3 h12 hf=>Ev.eX hKT 3 16 19 true [6,13] (.bool b3) Z Z (fun h11=>?_) (fun h11=>?_) ?_
  · replace h12:=eD h11 h12; refine Ev.is Yt 16 h11 Z (Ev.cs aP 1 Z ?_); replace h12:=(aJ _).trans h12; obtain ⟨x6,jq,h12⟩:=aN h12; refine Ev.run Z Z Z Z Z Z Z (AO.call Z _ Z Z ahU (ae6 _ _ jq zg)) ?_; obtain rfl:=Option.some.inj h12; refine Ev.cs aP 1 Z ?_; exact Ev.nil (Less.settle (ps:=[19,6,13]) Z)
  · replace h12:=eF h11 h12; refine Ev.is Yt 16 h11 Z ?_; obtain rfl:=Option.some.inj h12; refine Ev.cs aP 3 Z ?_; exact Ev.nil (Less.settle (ps:=[19,6,13]) Z)
  refine Ev.nil (TF.fH Z Z (AO.ig (i:=0) Z Z Z mX Z Z Z Z Z (TF.nil ?_))); show AR _ _ _ _ _ _ _ _
  cases hf; exact N 1 rfl ⟨rfl,_,⟨_,_,rfl,⟨_,_,0,_,_,rfl,rfl,mX,rfl⟩,_,_,rfl,rfl,rfl⟩,[],List.nil_sublist _,h⟩
 refine V 2 Z (C hf Z (fun kg hf=>?_) fun kg hf=>?_)
 ·
  refine V 0 Z (AW.cond Z (fun kC=>?_) (fun kC=>?_))
  · refine B1 hf fun x7 h16 hf=>W 0 Z (CL Z (ach _ h16 ?_)); cases hf; exact Rx 2 [0] rfl rfl ⟨rfl,_,⟨_,_,rfl,⟨_,_,0,_,_,rfl,rfl,mX,rfl⟩,_,_,rfl,rfl,rfl⟩,[],List.nil_sublist _,h⟩
  cases kg.symm.trans kC
 refine V 2 Z (C hf Z (fun mQ hf=>?_) fun mQ hf=>?_)
 · refine B1 hf fun x8 h18 hf=>W 0 Z (CL Z (ach _ h18 ?_)); cases hf; exact Rx 2 [0] rfl rfl ⟨rfl,_,⟨_,_,rfl,⟨_,_,0,_,_,rfl,rfl,mX,rfl⟩,_,_,rfl,rfl,rfl⟩,[],List.nil_sublist _,h⟩
 refine V 2 Z (C hf Z (fun h19 hf=>?_) fun h19 hf=>?_)
 ·
  refine V 0 Z (AW.cond Z (fun h20=>?_) (fun h20=>?_))
  ·
   refine B1 hf fun xO h21 hf=>W 2 Z (CL Z (alS _ _ h21 (J 1 Z (AW.YJ 12 15 16 0 mixed (by kernel_rfl) (by kernel_rfl) (by kernel_rfl) Z Z Z Z ?_)))); refine B1 hf fun x9 h22 hf=>Ev.cons Z Z Z (AO.call Z _ Z Z aly (ach _ h22 zg)) (Ev.cs aP 1 Z ?_); refine B1 hf fun CO h23 hf=>Ev.cons Z Z Z (AO.call Z _ Z Z ahV (afk _ h23 zg)) (Ev.cs aP 1 Z ?_); refine B1 hf fun b4 Sw hf=>Ev.eX (hKE hKT) 3 35 38 true [6,8,32] (.bool b4) Z Z (fun Ku=>?_) (fun Ku=>?_) ?_
   · replace Sw:=eD Ku Sw; refine Ev.is Yt 35 Ku Z (Ev.cs aP 1 Z ?_); replace Sw:=(aJ _).trans Sw; obtain ⟨KP,PI,Sw⟩:=aN Sw; refine Ev.run Z Z Z Z Z Z Z (AO.call Z _ Z Z ahV (afk _ PI zg)) ?_; obtain rfl:=Option.some.inj Sw; refine Ev.cs aP 1 Z ?_; exact Ev.nil (Less.settle (ps:=[38,6,8,32]) Z)
   · replace Sw:=eF Ku Sw; refine Ev.is Yt 35 Ku Z ?_; obtain rfl:=Option.some.inj Sw; refine Ev.cs aP 3 Z ?_; exact Ev.nil (Less.settle (ps:=[38,6,8,32]) Z)
   refine Ev.cs aP 1 Z (Ev.or1 (hKE hKT) 3 39 42 [6,8,32] (xO == 3) Z Z (fun h27=>?_) (fun h27=>?_) ?_)
   · refine Ev.is Yt 39 h27 Z (Ev.cs aP 3 Z ?_); exact Ev.nil (Less.settle (ps:=[42,6,8,32]) Z)
   · refine Ev.is Yt 39 h27 Z (Ev.cs aP 3 Z ?_); exact Ev.nil (Less.settle (ps:=[42,6,8,32]) Z)
   refine Ev.cs aP 1 Z (Ev.nil ?_); show Ev _ _ _ _ _ _ _
   refine Ev.or1 hKT 3 43 46 [6,32] (xO == 4) Z Z (fun Xb=>?_) (fun Xb=>?_) ?_
   · refine Ev.is Yt 43 Xb Z (Ev.cs aP 3 Z ?_); exact Ev.nil (Less.settle (ps:=[46,6,32]) Z)
   · refine Ev.is Yt 43 Xb Z (Ev.cs aP 3 Z ?_); exact Ev.nil (Less.settle (ps:=[46,6,32]) Z)
   refine Ev.nil (TF.fH Z Z (AO.ig (i:=0) Z Z Z mX Z Z Z Z Z (TF.nil ?_))); show AR _ _ _ _ _ _ _ _
   cases hf; exact N 1 rfl ⟨rfl,_,⟨_,_,rfl,⟨_,_,0,_,_,rfl,rfl,mX,rfl⟩,_,_,rfl,rfl,rfl⟩,[],List.nil_sublist _,h⟩
  cases h19.symm.trans h20
 refine V 2 Z (C hf Z (fun Te hf=>?_) fun Te hf=>?_)
 ·
  refine V 0 Z (AW.cond Z (fun h30=>?_) (fun h30=>?_))
  ·
   refine B1 hf fun kx2 h31 hf=>W 2 Z (CL Z (alS _ _ h31 (J 1 Z (AW.YJ 12 15 16 0 mixed (by kernel_rfl) (by kernel_rfl) (by kernel_rfl) Z Z Z Z ?_)))); refine B1 hf fun TU h32 hf=>Ev.cons Z Z Z (AO.call Z _ Z Z aly (ach _ h32 zg)) (Ev.cs aP 1 Z ?_); refine B1 hf fun Sv O9 hf=>Ev.cons Z Z Z (AO.call Z _ Z Z ahV (afk _ O9 zg)) (Ev.cs aP 1 Z ?_); refine B1 hf fun b5 h35 hf=>Ev.eX (hKE hKT) 3 35 38 true [6,8,32] (.bool b5) Z Z (fun h34=>?_) (fun h34=>?_) ?_
   · replace h35:=eD h34 h35; refine Ev.is Yt 35 h34 Z (Ev.cs aP 1 Z ?_); replace h35:=(aJ _).trans h35; obtain ⟨Vo,h36,h35⟩:=aN h35; refine Ev.run Z Z Z Z Z Z Z (AO.call Z _ Z Z ahV (afk _ h36 zg)) ?_; obtain rfl:=Option.some.inj h35; refine Ev.cs aP 1 Z ?_; exact Ev.nil (Less.settle (ps:=[38,6,8,32]) Z)
   · replace h35:=eF h34 h35; refine Ev.is Yt 35 h34 Z ?_; obtain rfl:=Option.some.inj h35; refine Ev.cs aP 3 Z ?_; exact Ev.nil (Less.settle (ps:=[38,6,8,32]) Z)
   refine Ev.cs aP 1 Z (Ev.or1 (hKE hKT) 3 39 42 [6,8,32] (kx2 == 3) Z Z (fun h37=>?_) (fun h37=>?_) ?_)
   · refine Ev.is Yt 39 h37 Z (Ev.cs aP 3 Z ?_); exact Ev.nil (Less.settle (ps:=[42,6,8,32]) Z)
   · refine Ev.is Yt 39 h37 Z (Ev.cs aP 3 Z ?_); exact Ev.nil (Less.settle (ps:=[42,6,8,32]) Z)
   refine Ev.cs aP 1 Z (Ev.nil ?_); show Ev _ _ _ _ _ _ _
   refine Ev.or1 hKT 3 43 46 [6,32] (kx2 == 4) Z Z (fun h38=>?_) (fun h38=>?_) ?_
   · refine Ev.is Yt 43 h38 Z (Ev.cs aP 3 Z ?_); exact Ev.nil (Less.settle (ps:=[46,6,32]) Z)
   · refine Ev.is Yt 43 h38 Z (Ev.cs aP 3 Z ?_); exact Ev.nil (Less.settle (ps:=[46,6,32]) Z)
   refine Ev.nil (TF.fH Z Z (AO.ig (i:=0) Z Z Z mX Z Z Z Z Z (TF.nil ?_))); show AR _ _ _ _ _ _ _ _
   cases hf; exact N 1 rfl ⟨rfl,_,⟨_,_,rfl,⟨_,_,0,_,_,rfl,rfl,mX,rfl⟩,_,_,rfl,rfl,rfl⟩,[],List.nil_sublist _,h⟩
  cases Te.symm.trans h30
 refine V 2 Z (C hf Z (fun h39 hf=>?_) fun h39 hf=>?_)
 ·
  refine V 0 Z (AW.cond Z (fun h40=>?_) (fun h40=>?_))
  ·
   refine B1 hf fun kx3 h41 hf=>W 2 Z (CL Z (alS _ _ h41 (J 1 Z (AW.YJ 12 15 16 0 mixed (by kernel_rfl) (by kernel_rfl) (by kernel_rfl) Z Z Z Z ?_)))); refine B1 hf fun x15 h42 hf=>Ev.cons Z Z Z (AO.call Z _ Z Z aly (ach _ h42 zg)) (Ev.cs aP 1 Z ?_); refine B1 hf fun Xh h43 hf=>Ev.cons Z Z Z (AO.call Z _ Z Z ahV (afk _ h43 zg)) (Ev.cs aP 1 Z ?_); refine B1 hf fun b6 h45 hf=>Ev.eX (hKE hKT) 3 35 38 true [6,8,32] (.bool b6) Z Z (fun h44=>?_) (fun h44=>?_) ?_
   · replace h45:=eD h44 h45; refine Ev.is Yt 35 h44 Z (Ev.cs aP 1 Z ?_); replace h45:=(aJ _).trans h45; obtain ⟨x17,h46,h45⟩:=aN h45; refine Ev.run Z Z Z Z Z Z Z (AO.call Z _ Z Z ahV (afk _ h46 zg)) ?_; obtain rfl:=Option.some.inj h45; refine Ev.cs aP 1 Z ?_; exact Ev.nil (Less.settle (ps:=[38,6,8,32]) Z)
   · replace h45:=eF h44 h45; refine Ev.is Yt 35 h44 Z ?_; obtain rfl:=Option.some.inj h45; refine Ev.cs aP 3 Z ?_; exact Ev.nil (Less.settle (ps:=[38,6,8,32]) Z)
   refine Ev.cs aP 1 Z (Ev.or1 (hKE hKT) 3 39 42 [6,8,32] (kx3 == 3) Z Z (fun h47=>?_) (fun h47=>?_) ?_)
   · refine Ev.is Yt 39 h47 Z (Ev.cs aP 3 Z ?_); exact Ev.nil (Less.settle (ps:=[42,6,8,32]) Z)
   · refine Ev.is Yt 39 h47 Z (Ev.cs aP 3 Z ?_); exact Ev.nil (Less.settle (ps:=[42,6,8,32]) Z)
   refine Ev.cs aP 1 Z (Ev.nil ?_); show Ev _ _ _ _ _ _ _
   refine Ev.or1 hKT 3 43 46 [6,32] (kx3 == 4) Z Z (fun h48=>?_) (fun h48=>?_) ?_
   · refine Ev.is Yt 43 h48 Z (Ev.cs aP 3 Z ?_); exact Ev.nil (Less.settle (ps:=[46,6,32]) Z)
   · refine Ev.is Yt 43 h48 Z (Ev.cs aP 3 Z ?_); exact Ev.nil (Less.settle (ps:=[46,6,32]) Z)
   refine Ev.nil (TF.fH Z Z (AO.ig (i:=0) Z Z Z mX Z Z Z Z Z (TF.nil ?_))); show AR _ _ _ _ _ _ _ _
   cases hf; exact N 1 rfl ⟨rfl,_,⟨_,_,rfl,⟨_,_,0,_,_,rfl,rfl,mX,rfl⟩,_,_,rfl,rfl,rfl⟩,[],List.nil_sublist _,h⟩
  cases h39.symm.trans h40
 refine V 2 Z (C hf Z (fun h49 hf=>?_) fun h49 hf=>?_)
 ·
  refine B1 hf fun kx4 h50 hf=>W 2 Z (CL Z (alS _ _ h50 (J 1 Z (AW.YJ 12 15 16 0 mixed (by kernel_rfl) (by kernel_rfl) (by kernel_rfl) Z Z Z Z ?_)))); refine B1 hf fun x18 h51 hf=>Ev.cons Z Z Z (AO.call Z _ Z Z aly (ach _ h51 zg)) (Ev.cs aP 1 Z ?_); refine B1 hf fun x19 h52 hf=>Ev.cons Z Z Z (AO.call Z _ Z Z ahV (afk _ h52 zg)) (Ev.cs aP 1 Z ?_); refine B1 hf fun b7 h54 hf=>Ev.eX (hKE hKT) 3 35 38 true [6,8,32] (.bool b7) Z Z (fun h53=>?_) (fun h53=>?_) ?_
  · replace h54:=eD h53 h54; refine Ev.is Yt 35 h53 Z (Ev.cs aP 1 Z ?_); replace h54:=(aJ _).trans h54; obtain ⟨x20,h55,h54⟩:=aN h54; refine Ev.run Z Z Z Z Z Z Z (AO.call Z _ Z Z ahV (afk _ h55 zg)) ?_; obtain rfl:=Option.some.inj h54; refine Ev.cs aP 1 Z ?_; exact Ev.nil (Less.settle (ps:=[38,6,8,32]) Z)
  · replace h54:=eF h53 h54; refine Ev.is Yt 35 h53 Z ?_; obtain rfl:=Option.some.inj h54; refine Ev.cs aP 3 Z ?_; exact Ev.nil (Less.settle (ps:=[38,6,8,32]) Z)
  refine Ev.cs aP 1 Z (Ev.or1 (hKE hKT) 3 39 42 [6,8,32] (kx4 == 3) Z Z (fun h56=>?_) (fun h56=>?_) ?_)
  · refine Ev.is Yt 39 h56 Z (Ev.cs aP 3 Z ?_); exact Ev.nil (Less.settle (ps:=[42,6,8,32]) Z)
  · refine Ev.is Yt 39 h56 Z (Ev.cs aP 3 Z ?_); exact Ev.nil (Less.settle (ps:=[42,6,8,32]) Z)
  refine Ev.cs aP 1 Z (Ev.nil ?_); show Ev _ _ _ _ _ _ _
  refine Ev.or1 hKT 3 43 46 [6,32] (kx4 == 4) Z Z (fun h57=>?_) (fun h57=>?_) ?_
  · refine Ev.is Yt 43 h57 Z (Ev.cs aP 3 Z ?_); exact Ev.nil (Less.settle (ps:=[46,6,32]) Z)
  · refine Ev.is Yt 43 h57 Z (Ev.cs aP 3 Z ?_); exact Ev.nil (Less.settle (ps:=[46,6,32]) Z)
  refine Ev.nil (TF.fH Z Z (AO.ig (i:=0) Z Z Z mX Z Z Z Z Z (TF.nil ?_))); show AR _ _ _ _ _ _ _ _
  cases hf; exact N 1 rfl ⟨rfl,_,⟨_,_,rfl,⟨_,_,0,_,_,rfl,rfl,mX,rfl⟩,_,_,rfl,rfl,rfl⟩,[],List.nil_sublist _,h⟩
 refine V 2 Z (C hf Z (fun h58 hf=>?_) fun h58 hf=>?_)
 · replace hf:=(gH _).trans hf; obtain ⟨x21,x22,h59,hf⟩:=aY hf; refine W 2 Z (CL Z (ara _ _ h59 ?_)); cases hf; exact Rx 4 [0] rfl rfl ⟨rfl,_,⟨_,_,rfl,⟨_,_,0,_,_,rfl,rfl,mX,rfl⟩,_,_,rfl,rfl,rfl⟩,[],List.nil_sublist _,h⟩
 refine V 0 Z (AW.YJ 4 7 8 0 mixed (by kernel_rfl) (by kernel_rfl) (by kernel_rfl) Z Z Z Z ?_); refine B1 hf fun x23 h60 hf=>Ev.cons Z Z Z (AO.call Z _ Z Z aly (ach _ h60 zg)) (Ev.cs aP 1 Z ?_); refine B1 hf fun x24 h61 hf=>Ev.cons Z Z Z (AO.call Z _ Z Z ahU (ae6 _ _ h61 zg)) (Ev.cs aP 1 Z (Ev.nil ?_)); show Ev _ _ _ _ _ _ _
 refine B1 hf fun b8 h63 hf=>Ev.eX hKT 3 57 60 true [6,54] (.bool b8) Z Z (fun h62=>?_) (fun h62=>?_) ?_
 · replace h63:=eD h62 h63; refine Ev.is Yt 57 h62 Z (Ev.cs aP 1 Z ?_); replace h63:=(aJ _).trans h63; obtain ⟨x25,h64,h63⟩:=aN h63; refine Ev.run Z Z Z Z Z Z Z (AO.call Z _ Z Z ahU (ae6 _ _ h64 zg)) ?_; obtain rfl:=Option.some.inj h63; refine Ev.cs aP 1 Z ?_; exact Ev.nil (Less.settle (ps:=[60,6,54]) Z)
 · replace h63:=eF h62 h63; refine Ev.is Yt 57 h62 Z ?_; obtain rfl:=Option.some.inj h63; refine Ev.cs aP 3 Z ?_; exact Ev.nil (Less.settle (ps:=[60,6,54]) Z)
 refine Ev.nil (TF.fH Z Z (AO.ig (i:=0) Z Z Z mX Z Z Z Z Z (TF.nil ?_))); show AR _ _ _ _ _ _ _ _
 cases hf; exact N 1 rfl ⟨rfl,_,⟨_,_,rfl,⟨_,_,0,_,_,rfl,rfl,mX,rfl⟩,_,_,rfl,rfl,rfl⟩,[],List.nil_sublist _,h⟩

theorem aqw (e1:aj) (l1:List b_) {r0:b_} {r1:Bool} (hf:aaG e1 l1=some (r0,r1)) (h:Q (.ret (.tuple [.agg (ajJ r0),.bool r1])) τ):PC 107 [.agg (aS e1),.list (b_.bn l1)] τ Q:=by
 unfold aaG at hf; refine BN 108 [.cell 4 37,.tmp 5] [0,1] Tryz.func107 Z Z Z Z Z (W 1 Z (AS Z (AO.aH Z acT (fun b4=>(J 5 Z (C hf Z (fun h1 hf=>?_) fun h1 hf=>?_))))))
 ·
  refine B1 hf fun e2 h2 hf=>W 1 Z (AS Z (AO.aM h2 Z Z (b_.aB _) Z yX (b_.aG _) Z (J 3 Z (C hf Z (fun h3 hf=>?_) fun h3 hf=>?_))))
  · refine B1 hf fun e3 h4 hf=>W 1 Z (AS Z (AO.aM h4 Z Z (b_.aB _) Z yX (b_.aG _) Z ?_)); refine B1 hf fun e4 h5 hf=>U 2 Z (AS Z (AO.aM h5 Z Z (b_.aB _) Z yX (b_.aG _) Z ?_)); cases hf; exact Rx 3 [0] rfl rfl ⟨rfl,_,⟨_,_,rfl,⟨_,_,0,_,_,rfl,rfl,mX,rfl⟩,_,_,rfl,rfl,rfl⟩,[],List.nil_sublist _,h⟩
  refine V 0 Z (AW.draw 7 mixed (by kernel_rfl) Z ?_); refine Ev.cs aP 1 Z ?_; refine B1 hf fun e5 h6 hf=>Ev.cons Z Z Z (AO.aM h6 Z Z (b_.aB _) Z yX (b_.aG _) Z zg) (Ev.cs aP 2 Z ?_); refine B1 hf fun e6 h7 hf=>Ev.cons Z Z Z (AO.aM h7 Z Z (b_.aB _) Z yX (b_.aG _) Z zg) (Ev.cs aP 1 Z ?_); refine B1 hf fun x1 h8 hf=>Ev.cons Z Z Z (AO.call Z _ Z Z ahV (afk _ h8 zg)) (Ev.nil ?_); show AR _ _ _ _ _ _ _ _
  cases hf; exact Rx 2 [0] rfl rfl ⟨rfl,_,⟨_,_,rfl,⟨_,_,0,_,_,rfl,rfl,mX,rfl⟩,_,_,rfl,rfl,rfl⟩,[],List.nil_sublist _,h⟩
 refine V 2 Z (C hf Z (fun h9 hf=>?_) fun h9 hf=>?_)
 ·
  refine V 0 Z (AW.draw 9 mixed (by kernel_rfl) Z ?_); refine Ev.cs aP 1 Z ?_; refine B1 hf fun e7 h10 hf=>Ev.cons Z Z Z (AO.aM h10 Z Z (b_.aB _) Z yX (b_.aG _) Z zg) (Ev.cs aP 2 Z ?_); refine B1 hf fun e8 h11 hf=>Ev.cons Z Z Z (AO.aM h11 Z Z (b_.aB _) Z yX (b_.aG _) Z zg) (Ev.cs aP 1 Z ?_); replace hf:=(gH _).trans hf; obtain ⟨x2,x3,h12,hf⟩:=aY hf
  refine Ev.cons Z Z Z (AO.call Z _ Z Z atQ (apU _ _ h12 zg)) (Ev.cs aP 2 Z (Ev.nil ?_)); show AR _ _ _ _ _ _ _ _
  cases hf; exact Rx 2 [0] rfl rfl ⟨rfl,_,⟨_,_,rfl,⟨_,_,0,_,_,rfl,rfl,mX,rfl⟩,_,_,rfl,rfl,rfl⟩,[],List.nil_sublist _,h⟩
 refine V 2 Z (C hf Z (fun jq hf=>?_) fun jq hf=>?_)
 · replace hf:=(gH _).trans hf; obtain ⟨x4,x5,kg,hf⟩:=aY hf; refine W 3 Z (CL Z (aqz _ _ kg ?_)); cases hf; exact Rx 4 [0] rfl rfl ⟨rfl,_,⟨_,_,rfl,⟨_,_,0,_,_,rfl,rfl,mX,rfl⟩,_,_,rfl,rfl,rfl⟩,[],List.nil_sublist _,h⟩
 refine V 2 Z (C hf Z (fun kC hf=>?_) fun kC hf=>?_)
 ·
  refine V 4 Z (C hf Z (fun h16 hf=>?_) fun h16 hf=>?_)
  ·
   refine V 1 Z (AW.draw 7 mixed (by kernel_rfl) Z ?_); refine Ev.cs aP 1 Z ?_; refine B1 hf fun x6 mQ hf=>Ev.cons Z Z Z (AO.call Z _ Z Z aly (ach _ mQ zg)) (Ev.cs aP 1 Z ?_); refine B1 hf fun e9 h18 hf=>Ev.cons Z Z Z (AO.aM h18 Z Z (b_.aB _) Z yX (b_.aG _) Z zg) (Ev.cs aP 2 Z ?_); refine B1 hf fun x7 h19 hf=>Ev.cons Z Z Z (AO.call Z _ Z Z ahU (ae6 _ _ h19 zg)) (Ev.nil ?_); show AR _ _ _ _ _ _ _ _
   cases hf; exact Rx 2 [0] rfl rfl ⟨rfl,_,⟨_,_,rfl,⟨_,_,0,_,_,rfl,rfl,mX,rfl⟩,_,_,rfl,rfl,rfl⟩,[],List.nil_sublist _,h⟩
  refine V 0 Z (AW.draw 7 mixed (by kernel_rfl) Z ?_); refine Ev.cs aP 1 Z ?_; refine B1 hf fun x8 h20 hf=>Ev.cons Z Z Z (AO.call Z _ Z Z aly (ach _ h20 zg)) (Ev.cs aP 1 Z ?_); refine B1 hf fun e10 h21 hf=>Ev.cons Z Z Z (AO.aM h21 Z Z (b_.aB _) Z yX (b_.aG _) Z zg) (Ev.cs aP 2 Z ?_); refine B1 hf fun x9 h22 hf=>Ev.cons Z Z Z (AO.call Z _ Z Z ahU (ae6 _ _ h22 zg)) (Ev.nil ?_); show AR _ _ _ _ _ _ _ _
  cases hf; exact Rx 2 [0] rfl rfl ⟨rfl,_,⟨_,_,rfl,⟨_,_,0,_,_,rfl,rfl,mX,rfl⟩,_,_,rfl,rfl,rfl⟩,[],List.nil_sublist _,h⟩
 refine V 2 Z (C hf Z (fun h23 hf=>?_) fun h23 hf=>?_)
 ·
  refine V 0 Z (AW.draw 11 mixed (by kernel_rfl) Z ?_); refine Ev.cs aP 3 Z ?_; refine B1 hf fun e11 Ku hf=>Ev.cons Z Z Z (AO.aM Ku Z Z (b_.aB _) Z yX (b_.aG _) Z zg) (Ev.cs aP 2 Z ?_); refine B1 hf fun e12 Sw hf=>Ev.cons Z Z Z (AO.aM Sw Z Z (b_.aB _) Z yX (b_.aG _) Z zg) (Ev.cs aP 1 Z ?_); replace hf:=(gH _).trans hf; obtain ⟨CO,KP,PI,hf⟩:=aY hf
  refine Ev.cons Z Z Z (AO.call Z _ Z Z ahT (apw _ _ _ PI zg)) (Ev.cs aP 2 Z (Ev.nil ?_)); show AR _ _ _ _ _ _ _ _
  cases hf; exact Rx 2 [0] rfl rfl ⟨rfl,_,⟨_,_,rfl,⟨_,_,0,_,_,rfl,rfl,mX,rfl⟩,_,_,rfl,rfl,rfl⟩,[],List.nil_sublist _,h⟩
 refine V 2 Z (C hf Z (fun h27 hf=>?_) fun h27 hf=>?_)
 ·
  refine V 0 Z (AW.draw 11 mixed (by kernel_rfl) Z ?_); refine Ev.cs aP 1 Z ?_; refine B1 hf fun e13 Xb hf=>Ev.cons Z Z Z (AO.aM Xb Z Z (b_.aB _) Z yX (b_.aG _) Z zg) (Ev.cs aP 2 Z ?_); refine B1 hf fun e14 Te hf=>Ev.cons Z Z Z (AO.aM Te Z Z (b_.aB _) Z yX (b_.aG _) Z zg) (Ev.cs aP 1 Z ?_); refine B1 hf fun TU h30 hf=>Ev.cons Z Z Z (AO.call Z _ Z Z agR (amU _ _ h30 zg)) (Ev.cs aP 1 Z ?_); refine B1 hf fun e15 h31 hf=>Ev.cons Z Z Z (AO.aM h31 Z Z (b_.aB _) Z yX (b_.aG _) Z zg) (Ev.cs aP 1 Z ?_)
  refine B1 hf fun Sv h32 hf=>Ev.cons Z Z Z (AO.call Z _ Z Z ahU (ae6 _ _ h32 zg)) (Ev.nil ?_); show AR _ _ _ _ _ _ _ _
  cases hf; exact Rx 2 [0] rfl rfl ⟨rfl,_,⟨_,_,rfl,⟨_,_,0,_,_,rfl,rfl,mX,rfl⟩,_,_,rfl,rfl,rfl⟩,[],List.nil_sublist _,h⟩
 refine B1 hf fun Vo O9 hf=>W 0 Z (CL Z (ach _ O9 (AS Z (AO.aH Z acT (fun b7=>?_))))); refine Rw 2 [0] Z Z (Zf (fun i1 t1=>[(1,.list (b_.bn l1)),(2,.ref (aS e1)),(4,pP b4),(7,pP b7),(8,iP i1)]) (fun i1 t1=>[.box b7 (ajJ t1),.box b4 [iP 0,.own (.slice none 0 0) []]]) (fun bW i1 t1=>al8 e1 l1 bW i1 t1=some (r0,r1)) BIG 0 Vo Z Z hf (fun _ _ hz=>bQ hz) ?_); intro bW i1 t1 hf; rw [al8] at hf
 refine W 2 Z (AS Z (AO.aL (l:=l1) Z Z Z Z yX Z (b_.aB _) (J 1 Z (C hf Z (fun h34 hf=>?_) fun h34 hf=>?_))))
 ·
  refine V 0 Z (AW.draw 6 mixed (by kernel_rfl) Z ?_); refine Ev.cons Z Z Z (AO.bV (i:=0) Z Z Z mX Z Z zg) (Ev.cs aP 2 Z ?_); refine B1 hf fun e16 h35 hf=>Ev.cons Z Z Z (AO.aM h35 Z Z (b_.aB _) Z yX (b_.aG _) Z zg) (Ev.cs aP 1 Z ?_); refine B1 hf fun x15 h36 hf=>Ev.cons Z Z Z (AO.call Z _ Z Z agR (amU _ _ h36 zg)) (Ev.nil ?_); show AR _ _ _ _ _ _ _ _
  exact Rx 4 [0] Z Z ⟨(bS (i1 + 1)),x15,Z,Z,Z,hf⟩
 refine V 3 Z (C hf Z (fun h37 hf=>?_) fun h37 hf=>?_)
 · refine B1 hf fun Xh h38 hf=>Wr 1 [0] Z Z (CL Z (akH _ _ h38 ?_)); cases hf; exact Rx 2 [1] rfl rfl ⟨rfl,_,⟨_,_,rfl,⟨_,_,1,_,_,rfl,rfl,mX,rfl⟩,_,_,rfl,rfl,rfl⟩,[],List.nil_sublist _,h⟩
 refine B1 hf fun x17 h39 hf=>Wr 1 [0] Z Z (CL Z (akH _ _ h39 ?_)); cases hf; exact Rx 2 [1] rfl rfl ⟨rfl,_,⟨_,_,rfl,⟨_,_,1,_,_,rfl,rfl,mX,rfl⟩,_,_,rfl,rfl,rfl⟩,[],List.nil_sublist _,h⟩


abbrev aoL (ako:aj→List qE→Option (b_ × Int)):Prop:=∀ (fV:aj) (jv:List qE) {aU:b_} {qK:Int},ako fV jv=some (aU,qK)→∀ {τ:List bE} {Q:eZ→List bE→Prop} (h:Q (.ret (.tuple [.agg (ajJ aU),iP qK])) τ),PC 66 [.agg (aS fV),.list (List.map qE.cells jv)] τ Q
theorem ap8 (ako) (apl:aoL ako) (e1:aj) (bK:List qE) {r0:b_} {r1:Int} (hf:alv ako e1 bK=some (r0,r1)) (h:Q (.ret (.tuple [.agg (ajJ r0),iP r1])) τ):PC 66 [.agg (aS e1),.list (List.map qE.cells bK)] τ Q:=by
 unfold alv at hf; refine BN 87 [.cell 4 37,.tmp 5] [0,1] Tryz.func66 Z Z Z Z Z (W 1 Z (AS Z (AO.aH Z acT (fun b4=>(U 5 Z (On 4 15 19 [1,2,4] (e1.kind == 2) Z Z Z Z (J 0 Z (C hf Z (fun h2 hf=>?_) fun h2 hf=>?_))))))))
 · replace hf:=(gH _).trans hf; obtain ⟨x1,x2,h3,hf⟩:=aY hf; refine W 2 Z (CL Z (aqx _ _ h3 ?_)); cases hf; exact Rx 4 [0] rfl rfl ⟨rfl,_,⟨_,_,rfl,⟨_,_,0,_,_,rfl,rfl,mX,rfl⟩,_,_,rfl,rfl,rfl⟩,[],List.nil_sublist _,h⟩
 refine B1 hf fun b1 h5 hf=>W 4 Z (AR.eX 5 28 33 true [1,2,4] b1 Z Z (fun h4=>?_) (fun h4=>?_) ?_)
 · replace h5:=eD h4 h5; refine Is 28 h4 Z ?_; obtain ⟨x3,h6,h5⟩:=aN h5; refine U 2 Z (GO Z (AO.call Z _ Z Z arV (RQ _ h6 ?_))); obtain rfl:=Option.some.inj h5; exact eU 2 Z (En [33,1,2,4] Z)
 · replace h5:=eF h4 h5; refine Is 28 h4 Z ?_; obtain rfl:=Option.some.inj h5; exact eU 5 Z (En [33,1,2,4] Z)
 refine J 0 Z (C hf Z (fun h7 hf=>?_) fun h7 hf=>?_)
 · cases hf; exact Wx 3 [0] rfl rfl ⟨rfl,_,⟨_,_,rfl,⟨_,_,0,_,_,rfl,rfl,mX,rfl⟩,_,_,rfl,rfl,rfl⟩,[],List.nil_sublist _,h⟩
 refine V 0 Z (AW.draw 12 mixed (by kernel_rfl) Z ?_); refine Ev.cs aP 4 Z ?_; refine B1 hf fun b2 h9 hf=>Ev.eX hKA 8 38 46 true [1,2,4] (.bool b2) Z Z (fun h8=>?_) (fun h8=>?_) ?_
 · replace h9:=eD h8 h9; refine Ev.is Yt 38 h8 Z (Ev.cs aP 2 Z ?_); obtain ⟨x4,h10,h9⟩:=aN h9; refine Ev.run Z Z Z Z Z Z Z (AO.call Z _ Z Z arV (RQ _ h10 zg)) (Ev.cs aP 2 Z (Ev.run Z Z Z Z Z Z Z (AO.aL (l:=e1.args) Z Z Z Z fM Z (aj.aB _) zg) (Ev.cs aP 1 Z ?_))); obtain rfl:=Option.some.inj h9; refine Ev.cs aP 1 Z ?_; exact Ev.nil (Less.settle (ps:=[46,1,2,4]) Z)
 · replace h9:=eF h8 h9; refine Ev.is Yt 38 h8 Z ?_; obtain rfl:=Option.some.inj h9; refine Ev.cs aP 8 Z ?_; exact Ev.nil (Less.settle (ps:=[46,1,2,4]) Z)
 refine Ev.nil ?_; show AR _ _ _ _ _ _ _ _
 refine J 0 Z (C hf Z (fun h11 hf=>?_) fun h11 hf=>?_)
 · cases hf; exact Wx 3 [0] rfl rfl ⟨rfl,_,⟨_,_,rfl,⟨_,_,0,_,_,rfl,rfl,mX,rfl⟩,_,_,rfl,rfl,rfl⟩,[],List.nil_sublist _,h⟩
 refine V 2 Z (AW.row 2 37 (Vf (fun l1 v1 i1=>[(1,.list (List.map qE.cells bK)),(2,.ref (aS e1)),(4,pP b4),(6,.own v1 (b_.bn l1)),(7,iP i1)]) (fun l1 v1 i1=>[.row v1 (b_.bn l1).length 2 37,.box b4 [iP 0,.own (.slice none 0 0) []]]) (fun bW l1 v1 i1=>akw ako e1 bK bW l1 i1=some (r0,r1)) BIG [] (.slice none 0 0) 0 Z Z hf (fun _ _ _ hz=>bQ hz) ?_)); intro bW l1 v1 i1 hf; rw [akw] at hf
 refine W 3 Z (AS Z (AO.aL (l:=e1.args) Z Z Z Z fM Z (aj.aB _) (J 1 Z (C hf Z (fun h12 hf=>?_) fun h12 hf=>?_))))
 ·
  refine B1 hf fun e2 jq hf=>W 3 Z (AS Z (AO.aM jq Z Z (aj.aB _) Z fM (aj.aG _) Z ?_)); obtain ⟨x5,f1,kg,hf⟩:=aY hf; refine U 2 Z (CL Z (apl _ _ kg (U 3 Z (AS Z (AO.aH Z acT (fun b8=>(Rw 4 [0] Z Z (C hf Z (fun kC hf=>?_) fun kC hf=>?_))))))))
  · cases hf; exact Wx 4 [2] rfl rfl ⟨rfl,_,⟨_,_,rfl,⟨_,_,2,_,_,rfl,rfl,mX,rfl⟩,_,_,rfl,rfl,rfl⟩,[],List.nil_sublist _,h⟩
  refine Wr 2 [0] rfl rfl (AS rfl (AO.bq (b_.bn [x5]) rfl akN rfl rfl rfl (by first | rfl | simp only [List.map,b_.aG,b_.bn]) ?_)); refine B1 hf fun l2 h16 hf=>AS Z (AO.eP (i:=1) (l:=l1) (m:=[x5]) h16 Z Z Z Z Z Z Z akN yX (b_.aB _) (b_.aB _) (b_.aB _).symm (b_.dV) (b_.cells_one) (by decide) (fun v2 s1 hs1=>?_)); cases hs1; refine eU 4 Z (AR.drop1 ?_); exact N 0 Z ⟨l2,v2,(bS (i1 + 1)),Z,Z,Z,hf⟩
 obtain ⟨x6,ok1,mQ,hf⟩:=aY hf; refine W 2 Z (CL Z (aqw _ _ mQ (U 3 Z (AS Z (AO.aH Z acT (fun b10=>(Rw 4 [0] Z Z (C hf Z (fun h18 hf=>?_) fun h18 hf=>?_))))))))
 · cases hf; exact Wx 3 [2] rfl rfl ⟨rfl,_,⟨_,_,rfl,⟨_,_,2,_,_,rfl,rfl,mX,rfl⟩,_,_,rfl,rfl,rfl⟩,[],List.nil_sublist _,h⟩
 refine B1 hf fun x7 h19 hf=>Wr 1 [0] Z Z (CL Z (amd _ h19 (J 1 Z (C hf Z (fun h20 hf=>?_) fun h20 hf=>?_))))
 · cases hf; exact Wx 3 [2] rfl rfl ⟨rfl,_,⟨_,_,rfl,⟨_,_,2,_,_,rfl,rfl,mX,rfl⟩,_,_,rfl,rfl,rfl⟩,[],List.nil_sublist _,h⟩
 cases hf; exact Wx 3 [0,2] rfl rfl ⟨rfl,_,⟨_,_,rfl,⟨_,_,2,_,_,rfl,rfl,mX,rfl⟩,_,_,rfl,rfl,rfl⟩,[],List.nil_sublist _,h⟩
theorem aqf :∀ k:Nat,(aoL (adX k)):=by
 intro k
 induction k with
 | zero=>exact fun _ _ _ _ hz=>by first | cases hz | (unfold adX at hz; cases hz)
 | succ k ih=>exact fun fV jv aU qK hz τ Q hq=>ap8 (adX k) ih fV jv hz hq
theorem aoE (fV:aj) (jv:List qE) {aU:b_} {qK:Int} (hf:ajd fV jv=some (aU,qK)) (h:Q (.ret (.tuple [.agg (ajJ aU),iP qK])) τ):PC 66 [.agg (aS fV),.list (List.map qE.cells jv)] τ Q:=
 ((aqf BIG)) fV jv hf h

theorem aqA (e1:aj) (bK:List qE) {r0:b_} {r1:Int} (hf:amq e1 bK=some (r0,r1)) (h:Q (.ret (.tuple [.agg (ajJ r0),iP r1])) τ):PC 30 [.agg (aS e1),.list (List.map qE.cells bK)] τ Q:=by
 unfold amq at hf; refine BN 25 [.cell 4 37,.tmp 5] [0,1] Tryz.func30 Z Z Z Z Z (W 1 Z (AS Z (AO.aH Z acT (fun b4=>?_)))); refine B1 hf fun f1 h1 hf=>U 2 Z (CL Z (arb _ h1 (J 3 Z (C hf Z (fun h2 hf=>?_) fun h2 hf=>?_))))
 · cases hf; exact Wx 4 [0] rfl rfl ⟨rfl,_,⟨_,_,rfl,⟨_,_,0,_,_,rfl,rfl,mX,rfl⟩,_,_,rfl,rfl,rfl⟩,[],List.nil_sublist _,h⟩
 refine B1 hf fun f2 h3 hf=>W 1 Z (CL Z (EO _ h3 (J 3 Z (C hf Z (fun h4 hf=>?_) fun h4 hf=>?_))))
 · cases hf; exact Wx 4 [0] rfl rfl ⟨rfl,_,⟨_,_,rfl,⟨_,_,0,_,_,rfl,rfl,mX,rfl⟩,_,_,rfl,rfl,rfl⟩,[],List.nil_sublist _,h⟩
 replace hf:=(gH _).trans hf; obtain ⟨x1,x2,h5,hf⟩:=aY hf; refine W 2 Z (CL Z (aoE _ _ h5 ?_)); cases hf; exact Rx 4 [0] rfl rfl ⟨rfl,_,⟨_,_,rfl,⟨_,_,0,_,_,rfl,rfl,mX,rfl⟩,_,_,rfl,rfl,rfl⟩,[],List.nil_sublist _,h⟩


abbrev aoK (alF:b_→Option Bool):Prop:=∀ (ut1:b_) {aU:Bool},alF ut1=some aU→∀ {τ:List bE} {Q:eZ→List bE→Prop} (h:Q (.ret (.bool aU)) τ),PC 67 [.agg (ajJ ut1)] τ Q
theorem ap7 (alF) (apk:aoK alF) (t1:b_) {r0:Bool} (hf:amn alF t1=some r0) (h:Q (.ret (.bool r0)) τ):PC 67 [.agg (ajJ t1)] τ Q:=by
 unfold amn at hf; refine BN 19 [.tmp 2] [0] Tryz.func67 Z Z Z Z Z ?_; replace hf:=(aJ _).trans hf; refine B1 hf fun b1 h2 hf=>W 6 Z (AR.eX 12 6 18 true [] b1 Z Z (fun h1=>?_) (fun h1=>?_) ?_)
 ·
  replace h2:=eD h1 h2; refine Is 6 h1 Z (U 2 Z (GO Z (AO.aL (l:=t1.elem) Z Z Z Z yX Z (b_.aB _) ?_))); replace h2:=(aJ _).trans h2; obtain ⟨b2,h4,h2⟩:=aN h2; refine U 2 Z (AR.eX 6 11 17 false [6] b2 Z Z (fun h3=>?_) (fun h3=>?_) ?_)
  · replace h4:=eF h3 h4; refine Is 11 h3 Z ?_; obtain ⟨e1,h5,h4⟩:=aN h4; refine U 2 Z (GO Z (AO.aM h5 Z Z (b_.aB _) Z yX (b_.aG _) Z ?_)); replace h4:=(aJ _).trans h4; obtain ⟨x1,h6,h4⟩:=aN h4; refine U 1 Z (GO Z (AO.call Z _ Z Z ata (apk _ h6 ?_))); obtain rfl:=Option.some.inj h4; exact eU 1 Z (En [17,6] Z)
  · replace h4:=eD h3 h4; refine Is 11 h3 Z ?_; obtain rfl:=Option.some.inj h4; exact eU 6 Z (En [17,6] Z)
  obtain rfl:=Option.some.inj h2; exact eU 1 Z (En [18] Z)
 · replace h2:=eF h1 h2; refine Is 6 h1 Z ?_; obtain rfl:=Option.some.inj h2; exact eU 12 Z (En [18] Z)
 cases hf; exact N 1 Z (Y Z h)
theorem aqe :∀ k:Nat,(aoK (alf k)):=by
 intro k
 induction k with
 | zero=>exact fun _ _ hz=>by first | cases hz | (unfold alf at hz; cases hz)
 | succ k ih=>exact fun ut1 aU hz τ Q hq=>ap7 (alf k) ih ut1 hz hq
theorem aqy (ut1:b_) {aU:Bool} (hf:anx ut1=some aU) (h:Q (.ret (.bool aU)) τ):PC 67 [.agg (ajJ ut1)] τ Q:=
 ((aqe BIG)) ut1 hf h


abbrev anQ (aiU:aj→List qE→Option Bool):Prop:=∀ (fV:aj) (jv:List qE) {aU:Bool},aiU fV jv=some aU→∀ {τ:List bE} {Q:eZ→List bE→Prop} (h:Q (.ret (.bool aU)) τ),PC 31 [.agg (aS fV),.list (List.map qE.cells jv)] τ Q
theorem ao_ (aiU) (aoB:anQ aiU) (e1:aj) (bK:List qE) {r0:Bool} (hf:amh aiU e1 bK=some r0) (h:Q (.ret (.bool r0)) τ):PC 31 [.agg (aS e1),.list (List.map qE.cells bK)] τ Q:=by
 unfold amh at hf; refine BN 36 [.tmp 4] [0,1] Tryz.func31 Z Z Z Z Z ?_; obtain ⟨x1,f1,h1,hf⟩:=aY hf; refine W 4 Z (CL Z (aoE _ _ h1 (U 3 Z (AS Z (AO.aH Z acT (fun b5=>?_)))))); refine B1 hf fun b1 h3 hf=>Rr 5 [0] Z Z (AR.eX 4 16 20 false [1,2] b1 Z Z (fun h2=>?_) (fun h2=>?_) ?_)
 · replace h3:=eF h2 h3; refine Is 16 h2 Z (GO Z (AO.bV (i:=0) Z Z Z mX Z Z ?_)); obtain ⟨x2,h4,h3⟩:=aN h3; refine GO Z (AO.call Z _ Z Z ata (aqy _ h4 ?_)); obtain rfl:=Option.some.inj h3; exact eU 2 Z (En [20,1,2] Z)
 · replace h3:=eD h2 h3; refine Is 16 h2 Z ?_; obtain rfl:=Option.some.inj h3; exact eU 4 Z (En [20,1,2] Z)
 refine J 0 Z (C hf Z (fun h5 hf=>?_) fun h5 hf=>?_)
 · cases hf; exact M 1 Z (Y Z h)
 refine V 1 Z (Gc (fun i1=>[(1,.list (List.map qE.cells bK)),(2,.ref (aS e1)),(7,iP i1)]) (fun i1=>[.box b5 (ajJ x1)]) (fun bW i1=>alm aiU e1 bK bW i1=some r0) BIG 0 Z Z hf (fun _ hz=>bQ hz) ?_); intro bW i1 hf; rw [alm] at hf; refine W 3 Z (AS Z (AO.aL (l:=e1.args) Z Z Z Z fM Z (aj.aB _) (J 1 Z (C hf Z (fun h6 hf=>?_) fun h6 hf=>?_))))
 ·
  refine B1 hf fun e2 h7 hf=>W 3 Z (AS Z (AO.aM h7 Z Z (aj.aB _) Z fM (aj.aG _) Z ?_)); refine B1 hf fun x3 h8 hf=>U 2 Z (CL Z (aoB _ _ h8 (J 1 Z (C hf Z (fun h9 hf=>?_) fun h9 hf=>?_))))
  · cases hf; exact M 1 Z (Y Z h)
  exact M 3 Z ⟨(bS (i1 + 1)),Z,Z,Z,hf⟩
 cases hf; exact M 1 Z (Y Z h)
theorem aph :∀ k:Nat,(anQ (akj k)):=by
 intro k
 induction k with
 | zero=>exact fun _ _ _ hz=>by first | cases hz | (unfold akj at hz; cases hz)
 | succ k ih=>exact fun fV jv aU hz τ Q hq=>ao_ (akj k) ih fV jv hz hq
theorem apv (fV:aj) (jv:List qE) {aU:Bool} (hf:anh fV jv=some aU) (h:Q (.ret (.bool aU)) τ):PC 31 [.agg (aS fV),.list (List.map qE.cells jv)] τ Q:=
 ((aph BIG)) fV jv hf h

theorem apx (e1:aj) (bK:List qE) {r0:Bool} (hf:amo e1 bK=some r0) (h:Q (.ret (.bool r0)) τ):PC 11 [.agg (aS e1),.list (List.map qE.cells bK)] τ Q:=by
 unfold amo at hf; refine BN 20 [.tmp 4] [0,1] Tryz.func11 Z Z Z Z Z ?_; obtain ⟨x1,f1,h1,hf⟩:=aY hf; refine W 4 Z (CL Z (aqA _ _ h1 (U 3 Z (AS Z (AO.aH Z acT (fun b5=>?_)))))); replace hf:=(aJ _).trans hf; refine B1 hf fun b1 h3 hf=>Rr 5 [0] Z Z (AR.eX 4 15 19 true [] b1 Z Z (fun h2=>?_) (fun h2=>?_) ?_)
 · replace h3:=eD h2 h3; refine Is 15 h2 Z ?_; replace h3:=(aJ _).trans h3; obtain ⟨x2,h4,h3⟩:=aN h3; refine U 2 Z (GO Z (AO.call Z _ Z Z auP (apv _ _ h4 ?_))); obtain rfl:=Option.some.inj h3; exact eU 1 Z (En [19] Z)
 · replace h3:=eF h2 h3; refine Is 15 h2 Z ?_; obtain rfl:=Option.some.inj h3; exact eU 4 Z (En [19] Z)
 cases hf; exact N 1 Z (Y Z h)

section
variable [Ay]
theorem an1 (e1:aj) (gY:List av) (ajY:List b_) {r0:Bool} (hf:alN e1 gY ajY=some r0) (h:Q (.ret (.bool r0)) τ):PC 3 [.agg (aS e1),.list (List.map av.cells gY),.list (b_.bn ajY)] τ Q:=by
 unfold alN at hf; refine BN 80 [.tmp 6] [0,1,2] Tryz.func3 Z Z Z Z Z (W 4 Z (AS Z (AO.aL (l:=gY) Z Z Z Z kW Z Z ?_))); refine B1 hf fun x1 h1 hf=>CL Z (apX _ _ h1 ?_); refine B1 hf fun b1 h3 hf=>U 2 Z (AR.eX 4 17 21 false [1,2,3] b1 Z Z (fun h2=>?_) (fun h2=>?_) ?_)
 · replace h3:=eF h2 h3; refine Is 17 h2 Z ?_; obtain ⟨x2,h4,h3⟩:=aN h3; refine U 1 Z (GO Z (AO.call Z _ Z Z avp (NM _ h4 ?_))); obtain rfl:=Option.some.inj h3; exact eU 2 Z (En [21,1,2,3] Z)
 · replace h3:=eD h2 h3; refine Is 17 h2 Z ?_; obtain rfl:=Option.some.inj h3; exact eU 4 Z (En [21,1,2,3] Z)
 refine J 0 Z (C hf Z (fun h5 hf=>?_) fun h5 hf=>?_)
 · replace hf:=(aJ _).trans hf; refine B1 hf fun x3 h6 hf=>W 0 Z (CL Z (akp  h6 ?_)); cases hf; exact N 1 Z (Y Z h)
 refine B1 hf fun bK h7 hf=>W 2 Z (CL Z (aoG _ _ h7 ?_)); obtain ⟨x4,f1,h8,hf⟩:=aY hf; refine U 3 Z (CL Z (anP _ _ h8 (U 3 Z (AS Z (AO.aH Z acT (fun b8=>(Rw 4 [0] Z Z (C hf Z (fun h9 hf=>?_) fun h9 hf=>?_))))))))
 ·
  refine Wr 4 [0] Z Z (AR.and 5 37 42 [] (x:=((x4.elem.length:Int) == 0)) Z Z (fun h10=>?_) (fun h10=>?_) ?_)
  · refine Is 37 h10 Z (U 1 Z (GO Z (AO.bV (i:=0) Z Z Z arv Z Z (GO Z (AO.aL (l:=x4.elem) Z Z Z Z yX Z (b_.aB _) ?_))))); exact eU 2 Z (En [42] Z)
  · refine Is 37 h10 Z ?_; exact eU 5 Z (En [42] Z)
  replace hf:=(aJ _).trans hf; refine B1 hf fun b2 h12 hf=>U 1 Z (AR.eX 2 43 45 true [] b2 Z Z (fun h11=>?_) (fun h11=>?_) ?_)
  · replace h12:=eD h11 h12; refine Is 43 h11 Z ?_; replace h12:=(aJ _).trans h12; obtain ⟨x5,jq,h12⟩:=aN h12; refine GO Z (AO.call Z _ Z Z atD (akp  jq ?_)); obtain rfl:=Option.some.inj h12; exact eU 1 Z (En [45] Z)
  · replace h12:=eF h11 h12; refine Is 43 h11 Z ?_; obtain rfl:=Option.some.inj h12; exact eU 2 Z (En [45] Z)
  cases hf; exact N 1 Z (Y Z h)
 obtain ⟨x6,g1,kg,hf⟩:=aY hf; refine W 2 Z (CL Z (rM _ _ kg (U 3 Z (AS Z (AO.aH Z eY (fun b10=>(Rw 5 [0] Z Z (C hf Z (fun kC hf=>?_) fun kC hf=>?_))))))))
 ·
  refine B1 hf fun x7 h16 hf=>Wr 2 [0,1] Z Z (CL Z (aoX _ _ h16 ?_)); replace hf:=(aJ _).trans hf; refine B1 hf fun b3 h18 hf=>U 1 Z (AR.eX 2 58 60 true [] b3 Z Z (fun mQ=>?_) (fun mQ=>?_) ?_)
  · replace h18:=eD mQ h18; refine Is 58 mQ Z ?_; replace h18:=(aJ _).trans h18; obtain ⟨x8,h19,h18⟩:=aN h18; refine GO Z (AO.call Z _ Z Z atD (akp  h19 ?_)); obtain rfl:=Option.some.inj h18; exact eU 1 Z (En [60] Z)
  · replace h18:=eF mQ h18; refine Is 58 mQ Z ?_; obtain rfl:=Option.some.inj h18; exact eU 2 Z (En [60] Z)
  cases hf; exact N 1 Z (Y Z h)
 refine V 2 Z (C hf Z (fun h20 hf=>?_) fun h20 hf=>?_)
 ·
  refine V 0 Z (AW.cond Z (fun h21=>?_) (fun h21=>?_))
  · replace hf:=(aJ _).trans hf; refine B1 hf fun x9 h22 hf=>W 0 Z (CL Z (akp  h22 ?_)); cases hf; exact N 1 Z (Y Z h)
  cases h20.symm.trans h21
 refine V 2 Z (C hf Z (fun h23 hf=>?_) fun h23 hf=>?_)
 ·
  refine V 0 Z (AW.cond Z (fun Ku=>?_) (fun Ku=>?_))
  · replace hf:=(aJ _).trans hf; refine B1 hf fun CO Sw hf=>W 0 Z (CL Z (akp  Sw ?_)); cases hf; exact N 1 Z (Y Z h)
  cases h23.symm.trans Ku
 refine V 2 Z (C hf Z (fun PI hf=>?_) fun PI hf=>?_)
 ·
  refine V 0 Z (AW.cond Z (fun h27=>?_) (fun h27=>?_))
  · replace hf:=(aJ _).trans hf; refine B1 hf fun KP Xb hf=>W 0 Z (CL Z (akp  Xb ?_)); cases hf; exact N 1 Z (Y Z h)
  cases PI.symm.trans h27
 refine V 2 Z (C hf Z (fun Te hf=>?_) fun Te hf=>?_)
 ·
  refine V 0 Z (AW.cond Z (fun h30=>?_) (fun h30=>?_))
  · replace hf:=(aJ _).trans hf; refine B1 hf fun TU h31 hf=>W 0 Z (CL Z (akp  h31 ?_)); cases hf; exact N 1 Z (Y Z h)
  cases Te.symm.trans h30
 refine V 2 Z (C hf Z (fun h32 hf=>?_) fun h32 hf=>?_)
 ·
  refine V 0 Z (AW.cond Z (fun O9=>?_) (fun O9=>?_))
  · replace hf:=(aJ _).trans hf; refine B1 hf fun Sv h34 hf=>W 0 Z (CL Z (akp  h34 ?_)); cases hf; exact N 1 Z (Y Z h)
  cases h32.symm.trans O9
 refine V 2 Z (C hf Z (fun h35 hf=>?_) fun h35 hf=>?_)
 · replace hf:=(aJ _).trans hf; refine B1 hf fun Vo h36 hf=>W 0 Z (CL Z (akp  h36 ?_)); cases hf; exact N 1 Z (Y Z h)
 refine B1 hf fun b4 h38 hf=>W 3 Z (AR.eX 5 71 76 true [] b4 Z Z (fun h37=>?_) (fun h37=>?_) ?_)
 · replace h38:=eD h37 h38; refine Is 71 h37 Z ?_; obtain ⟨x15,h39,h38⟩:=aN h38; refine U 2 Z (GO Z (AO.call Z _ Z Z ajC (apx _ _ h39 ?_))); obtain rfl:=Option.some.inj h38; exact eU 2 Z (En [76] Z)
 · replace h38:=eF h37 h38; refine Is 71 h37 Z ?_; obtain rfl:=Option.some.inj h38; exact eU 5 Z (En [76] Z)
 replace hf:=(aJ _).trans hf; refine B1 hf fun b5 h41 hf=>U 1 Z (AR.eX 2 77 79 true [] b5 Z Z (fun h40=>?_) (fun h40=>?_) ?_)
 · replace h41:=eD h40 h41; refine Is 77 h40 Z ?_; replace h41:=(aJ _).trans h41; obtain ⟨Xh,h42,h41⟩:=aN h41; refine GO Z (AO.call Z _ Z Z atD (akp  h42 ?_)); obtain rfl:=Option.some.inj h41; exact eU 1 Z (En [79] Z)
 · replace h41:=eF h40 h41; refine Is 77 h40 Z ?_; obtain rfl:=Option.some.inj h41; exact eU 2 Z (En [79] Z)
 cases hf; exact N 1 Z (Y Z h)
end


end Go.Proofs.YtangbjfgdmopoaaGreatDoor
