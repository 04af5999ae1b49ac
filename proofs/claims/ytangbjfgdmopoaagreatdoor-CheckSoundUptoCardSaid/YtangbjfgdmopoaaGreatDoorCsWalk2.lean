/- Proved here: each function does what its functional text says (part 2). -/
import Derived.Test.YtangbjfgdmopoaaGreatDoorCsWalk1
set_option linter.unusedVariables false
set_option linter.unusedSimpArgs false
set_option linter.unusedSectionVars false
namespace Go.Proofs.YtangbjfgdmopoaaGreatDoor
open Go Go.Abs Go.Ft
set_option maxRecDepth 20000
attribute [local irreducible] AO AR AW AC
variable [iw]
variable {τ : List bE} {Q : eZ → List bE → Prop}
theorem om (v1:ah) {r0:Int} (hf:kr v1=some r0) (h:Q (.ret (iP r0)) τ):PC 27 [.agg (aF v1)] τ Q:=by
 unfold kr at hf
 refine AC.none (AC.Kq 16 [.cell 2 38] [0] Tryz.func27 Z Z Z Z Z ?_)
 obtain ⟨b1,s1,h1,hf⟩:=aY hf
 cases hf
 refine AW.sr (AR.step Z Z Z (AO.MW Z Z Z (AR.step Z Z Z (AO.aH Z arl (fun b2=>(AR.nil [1,2] Z ?_))))))
 refine AW.seq (AW.sr (cs 1 Z (AR.step Z Z Z (AO.call Z _ Z Z atd (KA _ _ ?_)))))
 refine AR.nil [2,7] Z (AW.block (AW.rangeFunc (β:=Option Int) (X:=Int × ah) Z arW (fun x=>[iP x.1,.agg (aF x.2)]) (fun _=>Z) (by decide) (fun s x=>mG s x.1 x.2) (fun s=>[.box b2 [iP (s.getD 0)]]) (fun s=>s.map fun _=>.ret) (s0:=none) (s1:=s1) Z Z ?_ ?_ ?_))
 ·
  intro l T' hy
  refine HV l T' mG (fun s1 bP v1 b s2 hh=>hy s1 (bP,v1) b s2 hh) none v1 1 h1 ⟨⟨_,Z⟩,Z⟩
 ·
  rintro l s ⟨bP,x1⟩ b s2 hh
  unfold mG at hh
  cases s with
  | some e=>cases hh
  | none=>
  refine ⟨Z,?_⟩
  obtain ⟨e1,h2,hh⟩:=aN hh
  refine zC.seq (zC.region Z (cs 1 Z (AR.nil [2,3,9] Z ?_)))
  refine zC.region Z (AR.step Z Z Z (AO.aH Z eY (fun b4=>(AR.fH Z Z (AO.ig (i:=0) Z Z Z bY Z Z Z Z Z (AR.nil [2,3,4] Z ?_))))))
  refine ⟨Z,(zC.block (zC.seq (zC.region Z ?_)))⟩
  refine AR.step Z Z Z (AO.bV (i:=0) Z Z Z bY Z Z (cs 1 Z (AR.step Z Z Z (AO.call Z _ Z Z auI (WO _ _ h2 (cs 1 Z ?_))))))
  refine AR.nil [2,5] Z (zC.seq (zC.region Z (cs 2 Z ?_)))
  refine AR.nil [2,5,14] Z (zC.cond Z (fun h3=>?_) (fun h3=>?_))
  ·
   replace hh:=eD h3 hh
   cases hh
   refine zC.seq (zC.region Z (cs 1 Z (AR.fH Z Z (AO.ig (i:=1) Z Z Z amx Z Z Z Z Z ?_))))
   refine AR.nil [] Z (zC.ret ?_)
   exact ⟨Z,.cons _ (List.Sublist.refl _),Z,Z⟩
  ·
   replace hh:=eF h3 hh
   cases hh
   refine zC.skip ?_
   exact ⟨Z,.cons _ (List.Sublist.refl _),Z,Z⟩
 ·
  intro D
  cases s1 with
  | some e=>exact ⟨D,_,Z,Z,_,⟨_,_,Z,⟨_,_,0,_,_,Z,Z,amx,Z⟩,Z⟩,[],List.nil_sublist _,h⟩
  | none=>
   show AW _ _ _ _ _ _ _
   refine AW.sr (AR.fH Z Z (AO.ig (i:=0) Z Z Z amx Z Z Z Z Z (AR.nil [2] Z (AW.ret ?_))))
   exact ⟨D,[_],Z,Z,_,⟨_,_,Z,⟨_,_,0,_,_,Z,Z,amx,Z⟩,Z⟩,[],List.nil_sublist _,h⟩

theorem MQ (l1:List Str) {r0:Bool} (hf:sj l1=some r0) (h:Q (.ret (.bool r0)) τ):PC 120 [sP l1] τ Q:=by
 unfold sj at hf; refine BN 22 [.tmp 2] [0] Tryz.func120 Z Z Z Z Z (W 1 Z (AS Z (AO.Yh Z (fun m6=>(U 2 Z (AS Z (AO.aL (l:=l1) Z Z Z Z dO Z Z (J 1 Z (Zf (fun x1 y1=>[(3,.val (.map (some m6))),(7,sP l1),(8,iP (l1.length:Int)),(9,iP x1)]) (fun x1 y1=>[.obj m6 (xk y1)]) (fun bW x1 y1=>oI l1 bW x1 y1=some r0) BIG 0 [] Z Z hf (fun _ _ hz=>bQ hz) ?_))))))))); intro bW x1 y1 hf; rw [oI] at hf; refine V 1 Z (C hf Z (fun h1 hf=>?_) fun h1 hf=>?_)
 ·
  refine B1 hf fun s1 h2 hf=>W 0 Z (AS Z (AO.aM h2 Z Z Z Z dO Z Z (U 4 Z (AS Z (AO.Py (i:=0) (l:=y1) Z Z Z Z anD cu afc (U 1 Z (AR.fH Z Z (AO.QS (i:=0) (l:=y1) Z Z Z Z Z anD cu (U 2 Z (AS Z (AO.Py (i:=0) (l:=(wE y1 s1 (bS ((sV y1 s1) + 1)))) Z Z Z Z anD cu afc ?_))))))))))); refine J 1 Z (C hf Z (fun h3 hf=>?_) fun h3 hf=>?_)
  · cases hf; exact M 1 Z (Y Z h)
  exact M 2 Z ⟨(bS (x1 + 1)),(wE y1 s1 (bS ((sV y1 s1) + 1))),Z,Z,Z,hf⟩
 cases hf; exact M 1 Z (Y Z h)

theorem TG (e1:aj) (bP:Int) {r0:Int} (hf:BF e1 bP=some r0) (h:Q (.ret (iP r0)) τ):PC 79 [.agg (aS e1),iP bP] τ Q:=by
 unfold BF at hf; refine BN 65 [.tmp 4] [0,1] Tryz.func79 Z Z Z Z Z (V 5 Z (C hf Z (fun h1 hf=>?_) fun h1 hf=>?_))
 · cases hf; exact M 1 Z (Y Z h)
 refine W 4 Z (On 4 12 16 [2] (decide (10 < e1.kind)) Z Z Z Z ?_); refine B1 hf fun b1 h4 hf=>U 1 Z (AR.eX 10 17 27 false [2] b1 Z Z (fun h3=>?_) (fun h3=>?_) ?_)
 ·
  replace h4:=eF h3 h4; refine Is 17 h3 Z ?_; replace h4:=(aJ _).trans h4; obtain ⟨b2,h6,h4⟩:=aN h4; refine U 4 Z (AR.eX 5 21 26 true [2,17] b2 Z Z (fun h5=>?_) (fun h5=>?_) ?_)
  · replace h6:=eD h5 h6; refine Is 21 h5 Z ?_; obtain ⟨x1,h7,h6⟩:=aN h6; refine U 2 Z (GO Z (AO.call Z _ Z Z atS (TA _ h7 ?_))); obtain rfl:=Option.some.inj h6; exact eU 2 Z (En [26,2,17] Z)
  · replace h6:=eF h5 h6; refine Is 21 h5 Z ?_; obtain rfl:=Option.some.inj h6; exact eU 5 Z (En [26,2,17] Z)
  obtain rfl:=Option.some.inj h4; exact eU 1 Z (En [27,2] Z)
 · replace h4:=eD h3 h4; refine Is 17 h3 Z ?_; obtain rfl:=Option.some.inj h4; exact eU 10 Z (En [27,2] Z)
 refine B1 hf fun b3 h9 hf=>U 1 Z (AR.eX 4 28 32 false [2] b3 Z Z (fun h8=>?_) (fun h8=>?_) ?_)
 · replace h9:=eF h8 h9; refine Is 28 h8 Z ?_; obtain ⟨x2,h10,h9⟩:=aN h9; refine U 1 Z (GO Z (AO.call Z _ Z Z Dq (RX _ h10 ?_))); obtain rfl:=Option.some.inj h9; exact eU 2 Z (En [32,2] Z)
 · replace h9:=eD h8 h9; refine Is 28 h8 Z ?_; obtain rfl:=Option.some.inj h9; exact eU 4 Z (En [32,2] Z)
 refine B1 hf fun b4 h12 hf=>U 1 Z (AR.eX 4 33 37 false [2] b4 Z Z (fun h11=>?_) (fun h11=>?_) ?_)
 · replace h12:=eF h11 h12; refine Is 33 h11 Z ?_; obtain ⟨x3,jq,h12⟩:=aN h12; refine U 1 Z (GO Z (AO.call Z _ Z Z ah0 (R3 _ jq ?_))); obtain rfl:=Option.some.inj h12; exact eU 2 Z (En [37,2] Z)
 · replace h12:=eD h11 h12; refine Is 33 h11 Z ?_; obtain rfl:=Option.some.inj h12; exact eU 4 Z (En [37,2] Z)
 refine B1 hf fun b5 kC hf=>U 1 Z (AR.eX 4 38 42 false [2] b5 Z Z (fun kg=>?_) (fun kg=>?_) ?_)
 · replace kC:=eF kg kC; refine Is 38 kg Z ?_; obtain ⟨x4,h16,kC⟩:=aN kC; refine U 1 Z (GO Z (AO.call Z _ Z Z ahZ (RY _ h16 ?_))); obtain rfl:=Option.some.inj kC; exact eU 2 Z (En [42,2] Z)
 · replace kC:=eD kg kC; refine Is 38 kg Z ?_; obtain rfl:=Option.some.inj kC; exact eU 4 Z (En [42,2] Z)
 refine J 1 Z (C hf Z (fun mQ hf=>?_) fun mQ hf=>?_)
 · cases hf; exact M 1 Z (Y Z h)
 refine B1 hf fun b6 h19 hf=>W 4 Z (AR.eX 5 47 52 true [2] b6 Z Z (fun h18=>?_) (fun h18=>?_) ?_)
 · replace h19:=eD h18 h19; refine Is 47 h18 Z ?_; obtain ⟨x5,h20,h19⟩:=aN h19; refine U 2 Z (GO Z (AO.call Z _ Z Z atg (om _ h20 ?_))); obtain rfl:=Option.some.inj h19; exact eU 2 Z (En [52,2] Z)
 · replace h19:=eF h18 h19; refine Is 47 h18 Z ?_; obtain rfl:=Option.some.inj h19; exact eU 5 Z (En [52,2] Z)
 refine J 1 Z (C hf Z (fun h21 hf=>?_) fun h21 hf=>?_)
 · replace hf:=(aJ _).trans hf; refine B1 hf fun x6 h22 hf=>W 2 Z (CL Z (om _ h22 ?_)); cases hf; exact N 1 Z (Y Z h)
 refine W 2 Z (AS Z (AO.aL (l:=e1.args) Z Z Z Z fM Z (aj.aB _) (J 2 Z (C hf Z (fun h23 hf=>?_) fun h23 hf=>?_))))
 · cases hf; exact M 1 Z (Y Z h)
 refine B1 hf fun x7 Ku hf=>W 2 Z (CL Z (MQ _ Ku (J 1 Z (C hf Z (fun Sw hf=>?_) fun Sw hf=>?_))))
 · cases hf; exact M 1 Z (Y Z h)
 cases hf; exact M 1 Z (Y Z h)


abbrev JK (jT:aj→Int→Option Int):Prop:=∀ (fV:aj) (gI:Int) {aU:Int},jT fV gI=some aU→∀ {τ:List bE} {Q:eZ→List bE→Prop} (h:Q (.ret (iP aU)) τ),PC 43 [.agg (aS fV),iP gI] τ Q
theorem P9 (jT) (Nv:JK jT) (e1:aj) (bP:Int) {r0:Int} (hf:yK jT e1 bP=some r0) (h:Q (.ret (iP r0)) τ):PC 43 [.agg (aS e1),iP bP] τ Q:=by
 unfold yK at hf; refine BN 30 [.tmp 4] [0,1] Tryz.func43 Z Z Z Z Z ?_; refine B1 hf fun f1 h1 hf=>W 4 Z (CL Z (TG _ _ h1 (J 3 Z (C hf Z (fun h2 hf=>?_) fun h2 hf=>?_))))
 · cases hf; exact M 2 Z (Y Z h)
 refine W 2 Z (AS Z (AO.aL (l:=e1.args) Z Z Z Z fM Z (aj.aB _) (J 1 Z (Gc (fun x1=>[(1,iP bP),(16,.list (aj.bn e1.args)),(17,iP (e1.args.length:Int)),(18,iP x1)]) (fun x1=>[]) (fun bW x1=>r_ jT e1 bP bW x1=some r0) BIG 0 Z Z hf (fun _ hz=>bQ hz) ?_)))); intro bW x1 hf; rw [r_] at hf; refine V 1 Z (C hf Z (fun h3 hf=>?_) fun h3 hf=>?_)
 ·
  refine B1 hf fun e2 h4 hf=>W 0 Z (AS Z (AO.aM h4 Z Z (aj.aB _) Z fM (aj.aG _) Z (U 1 Z (AS Z (AO.aH Z kS (fun b7=>?_)))))); refine B1 hf fun f2 h5 hf=>Rr 4 [0,0] Z Z (CL Z (Nv _ _ h5 (J 3 Z (C hf Z (fun h6 hf=>?_) fun h6 hf=>?_))))
  · cases hf; exact M 2 Z (Y Z h)
  refine Wn0 2 Z (AR.drop1 ?_); exact N 0 Z ⟨(bS (x1 + 1)),Z,Z,Z,hf⟩
 cases hf; exact M 1 Z (Y Z h)
theorem QK :∀ k:Nat,(JK (lH k)):=by
 intro k
 induction k with
 | zero=>exact fun _ _ _ hz=>by first | cases hz | (unfold lH at hz; cases hz)
 | succ k ih=>exact fun fV gI aU hz τ Q hq=>P9 (lH k) ih fV gI hz hq
theorem RU (fV:aj) (gI:Int) {aU:Int} (hf:Gw fV gI=some aU) (h:Q (.ret (iP aU)) τ):PC 43 [.agg (aS fV),iP gI] τ Q:=
 ((QK BIG)) fV gI hf h

theorem qY (e1:aj) {r0:Int} (hf:jY e1=some r0) (h:Q (.ret (iP r0)) τ):PC 20 [.agg (aS e1)] τ Q:=by
 unfold jY at hf; refine BN 8 [.tmp 2] [0] Tryz.func20 Z Z Z Z Z ?_; refine B1 hf fun x1 h1 hf=>W 3 Z (CL Z (R4 _ h1 (J 1 Z (C hf Z (fun h2 hf=>?_) fun h2 hf=>?_))))
 · cases hf; exact M 1 Z (Y Z h)
 replace hf:=(aJ _).trans hf; refine B1 hf fun x2 h3 hf=>W 1 Z (CL Z (RU _ _ h3 ?_)); cases hf; exact N 1 Z (Y Z h)

section
variable [Ay]
theorem TH (Qd:List aX) {r0:aj} {r1:Int} {r2:Int} (hf:I6 Qd=some (r0,r1,r2)) (h:Q (.ret (.tuple [.agg (aS r0),iP r1,iP r2])) τ):PC 73 [.list (List.map aX.cells Qd)] τ Q:=by
 unfold I6 at hf; refine BN 27 [.cell 2 28,.tmp 3,.tmp 4] [0] Tryz.func73 Z Z Z Z Z (W 0 Z (AS Z (AO.aH Z kS (fun b2=>?_)))); obtain ⟨x1,n1,EN,h1,hf⟩:=sN hf; refine U 3 Z (CL Z (TD _ h1 (U 4 Z (AS Z (AO.aH Z kS (fun b5=>(Rw 5 [0] Z Z (C hf Z (fun h2 hf=>?_) fun h2 hf=>?_))))))))
 · cases hf; exact Wx 6 [1] rfl rfl ⟨rfl,_,⟨_,_,rfl,⟨_,_,1,_,_,rfl,rfl,kT,rfl⟩,_,_,rfl,rfl,_,_,rfl,rfl,rfl⟩,[],List.nil_sublist _,h⟩
 refine B1 hf fun RA h3 hf=>Wr 1 [0] Z Z (CL Z (qY _ h3 (J 3 Z (C hf Z (fun h4 hf=>?_) fun h4 hf=>?_))))
 · cases hf; exact Wx 5 [1] rfl rfl ⟨rfl,_,⟨_,_,rfl,⟨_,_,1,_,_,rfl,rfl,kT,rfl⟩,_,_,rfl,rfl,_,_,rfl,rfl,rfl⟩,[],List.nil_sublist _,h⟩
 cases hf; exact Wx 5 [0,1] rfl rfl ⟨rfl,_,⟨_,_,rfl,⟨_,_,1,_,_,rfl,rfl,kT,rfl⟩,_,_,rfl,rfl,_,_,rfl,rfl,rfl⟩,[],List.nil_sublist _,h⟩
end

theorem RV (Qd:List aX) (n1:Int) (fZ:Str) {r0:Int} (hf:Gx Qd n1 fZ=some r0) (h:Q (.ret (iP r0)) τ):PC 74 [.list (List.map aX.cells Qd),iP n1,.str fZ] τ Q:=by
 unfold Gx at hf; refine BN 18 [.tmp 6] [0,1,2] Tryz.func74 Z Z Z Z Z (W 3 Z (AS Z (AO.aL (l:=Qd) Z Z Z Z alO Z Z (J 1 Z (C hf Z (fun h1 hf=>?_) fun h1 hf=>?_)))))
 · refine B1 hf fun e1 h2 hf=>W 2 Z (AS Z (AO.aM h2 Z Z Z Z alO (aX.aG _) Z ?_)); cases hf; exact N 3 Z (Y Z h)
 refine W 1 Z (AS Z (AO.bJ Z Z Z Z cu Z ?_)); cases hf; exact N 1 Z (Y Z h)

section
variable [Ay]
theorem JB (fZ:Str) {r0:aj} {r1:Int} {r2:Int} (hf:pW fZ=some (r0,r1,r2)) (h:Q (.ret (.tuple [.agg (aS r0),iP r1,iP r2])) τ):PC 34 [.str fZ] τ Q:=by
 unfold pW at hf; refine BN 46 [.cell 2 28,.tmp 3,.tmp 4] [0] Tryz.func34 Z Z Z Z Z (W 0 Z (AS Z (AO.aH Z kS (fun b2=>?_)))); obtain ⟨Qd,jI,EN,h1,hf⟩:=sN hf; refine U 3 Z (CL Z (R9 _ h1 (J 9 Z (C hf Z (fun h2 hf=>?_) fun h2 hf=>?_))))
 · cases hf; exact Wx 6 [0] rfl rfl ⟨rfl,_,⟨_,_,rfl,⟨_,_,0,_,_,rfl,rfl,kT,rfl⟩,_,_,rfl,rfl,_,_,rfl,rfl,rfl⟩,[],List.nil_sublist _,h⟩
 obtain ⟨x1,n1,RA,h3,hf⟩:=sN hf; refine W 1 Z (CL Z (TH _ h3 (U 4 Z (AS Z (AO.aH Z kS (fun b8=>(Rw 5 [0] Z Z (C hf Z (fun h4 hf=>?_) fun h4 hf=>?_))))))))
 · refine B1 hf fun x2 h5 hf=>W 4 Z (CL Z (RV _ _ _ h5 ?_)); cases hf; exact Rx 4 [1] rfl rfl ⟨rfl,_,⟨_,_,rfl,⟨_,_,1,_,_,rfl,rfl,kT,rfl⟩,_,_,rfl,rfl,_,_,rfl,rfl,rfl⟩,[],List.nil_sublist _,h⟩
 refine W 2 Z (AS Z (AO.aL (l:=Qd) Z Z Z Z alO Z Z (J 1 Z (C hf Z (fun h6 hf=>?_) fun h6 hf=>?_))))
 ·
  refine V 0 Z (AW.YJ 1 6 7 1 mixed (by kernel_rfl) (by kernel_rfl) (by kernel_rfl) Z Z Z Z ?_); refine Ev.cons Z Z Z (AO.build Z kS adv Z zg) (Ev.nil ?_); show Ev _ _ _ _ _ _ _
  refine Ev.cs aP 2 Z ?_; refine B1 hf fun e1 h7 hf=>Ev.cons Z Z Z (AO.aM h7 Z Z Z Z alO (aX.aG _) Z zg) (Ev.cs aP 2 Z (Ev.nil (TF.fH Z Z (AO.ig (i:=0) Z Z Z kT Z Z Z Z Z ?_)))); refine TF.nil ?_; show AR _ _ _ _ _ _ _ _
  cases hf; exact N 2 rfl ⟨rfl,_,⟨_,_,rfl,⟨_,_,1,_,_,rfl,rfl,kT,rfl⟩,_,_,rfl,rfl,_,_,rfl,rfl,rfl⟩,[],List.nil_sublist _,h⟩
 cases hf; exact Wx 4 [0,1] rfl rfl ⟨rfl,_,⟨_,_,rfl,⟨_,_,1,_,_,rfl,rfl,kT,rfl⟩,_,_,rfl,rfl,_,_,rfl,rfl,rfl⟩,[],List.nil_sublist _,h⟩
end

theorem amD (EC:Int) {r0:Str} (hf:Ef EC=some r0) (h:Q (.ret (.str r0)) τ):PC 76 [iP EC] τ Q:=by
 unfold Ef at hf; refine BN 14 [.tmp 2] [0] Tryz.func76 Z Z Z Z Z (W 1 Z (AS Z (AO.U8 Z arp asg Z (AS Z (AO.aH Z arp (fun b3=>(Rr 4 [0] Z Z (On 3 7 10 [0,3] (decide (8≤EC)) Z Z Z Z ?_)))))))); refine J 0 Z (C hf Z (fun h2 hf=>?_) fun h2 hf=>?_)
 · cases hf; exact M 1 Z (Y Z h)
 replace hf:=(aJ _).trans hf; refine B1 hf fun e1 h3 hf=>W 1 Z (AS Z (AO.aoz h3 Z asg Z Z Z (AS Z (AO.aq4 (i:=0) (fun z:Str=>.str z) h3 Z Z Z adn Z ?_)))); cases hf; exact N 1 Z (Y Z h)

theorem akh (EC:Int) {r0:Bool} (hf:sG EC=some r0) (h:Q (.ret (.bool r0)) τ):PC 75 [iP EC] τ Q:=by
 unfold sG at hf; refine BN 9 [.tmp 2] [0] Tryz.func75 Z Z Z Z Z (W 4 Z (On 3 5 8 [] (EC == 6) Z Z Z Z ?_)); cases hf; exact N 1 Z (Y Z h)

theorem ali (t1:b_) {r0:Int} (hf:Ci t1=some r0) (h:Q (.ret (iP r0)) τ):PC 36 [.agg (ajJ t1)] τ Q:=by
 unfold Ci at hf; refine BN 43 [.tmp 2] [0] Tryz.func36 Z Z Z Z Z (W 0 Z (AS Z (AO.abz Z Z (fun b1=>(J 2 Z (Zf (fun bP t2=>[(1,pP b1),(3,iP bP)]) (fun bP t2=>[.box b1 (ajJ t2)]) (fun bW bP t2=>nK bW bP t2=some r0) BIG 1 t1 Z Z hf (fun _ _ hz=>bQ hz) ?_)))))); intro bW bP t2 hf; rw [nK] at hf; refine V 2 Z (C hf Z (fun h1 hf=>?_) fun h1 hf=>?_)
 · cases hf; exact M 1 Z (Y Z h)
 refine B1 hf fun x1 h2 hf=>Wr 2 [0] Z Z (CL Z (amD _ h2 ?_)); refine B1 hf fun b1 h4 hf=>U 2 Z (AR.eX 10 12 22 false [1,3] b1 Z Z (fun h3=>?_) (fun h3=>?_) ?_)
 ·
  replace h4:=eF h3 h4; refine Is 12 h3 Z (U 1 Z (GO Z (AO.bV (i:=0) Z Z Z FE Z Z ?_))); obtain ⟨x2,h5,h4⟩:=aN h4; refine GO Z (AO.call Z _ Z Z as_ (akh _ h5 (U 1 Z (AR.and 5 16 21 [1,3,12] (x:=((t2.elem.length:Int) != 1)) Z Z (fun h6=>?_) (fun h6=>?_) ?_))))
  · refine Is 16 h6 Z (U 1 Z (GO Z (AO.bV (i:=0) Z Z Z arv Z Z (GO Z (AO.aL (l:=t2.elem) Z Z Z Z yX Z (b_.aB _) ?_))))); exact eU 2 Z (En [21,1,3,12] Z)
  · refine Is 16 h6 Z ?_; exact eU 5 Z (En [21,1,3,12] Z)
  obtain rfl:=Option.some.inj h4; exact eU 1 Z (En [22,1,3] Z)
 · replace h4:=eD h3 h4; refine Is 12 h3 Z ?_; obtain rfl:=Option.some.inj h4; exact eU 10 Z (En [22,1,3] Z)
 refine B1 hf fun b2 h8 hf=>U 1 Z (AR.eX 11 23 34 false [1,3] b2 Z Z (fun h7=>?_) (fun h7=>?_) ?_)
 ·
  replace h8:=eF h7 h8; refine Is 23 h7 Z (U 1 Z (GO Z (AO.bV (i:=0) Z Z Z FE Z Z ?_))); obtain ⟨x3,h9,h8⟩:=aN h8; refine GO Z (AO.call Z _ Z Z as_ (akh _ h9 (U 2 Z (AR.and 5 28 33 [1,3,23] (x:=((t2.elem.length:Int) != 0)) Z Z (fun h10=>?_) (fun h10=>?_) ?_))))
  · refine Is 28 h10 Z (U 1 Z (GO Z (AO.bV (i:=0) Z Z Z arv Z Z (GO Z (AO.aL (l:=t2.elem) Z Z Z Z yX Z (b_.aB _) ?_))))); exact eU 2 Z (En [33,1,3,23] Z)
  · refine Is 28 h10 Z ?_; exact eU 5 Z (En [33,1,3,23] Z)
  obtain rfl:=Option.some.inj h8; exact eU 1 Z (En [34,1,3] Z)
 · replace h8:=eD h7 h8; refine Is 23 h7 Z ?_; obtain rfl:=Option.some.inj h8; exact eU 11 Z (En [34,1,3] Z)
 refine J 0 Z (C hf Z (fun h11 hf=>?_) fun h11 hf=>?_)
 · cases hf; exact M 1 Z (Y Z h)
 refine B1 hf fun x4 h12 hf=>Wr 2 [0] Z Z (CL Z (akh _ h12 (J 1 Z (C hf Z (fun jq hf=>?_) fun jq hf=>?_))))
 · cases hf; exact M 1 Z (Y Z h)
 refine B1 hf fun e1 kg hf=>Wr 2 [0] Z Z (AS Z (AO.aM kg Z Z (b_.aB _) Z yX (b_.aG _) Z ?_)); exact Rx 5 [0] Z Z ⟨(bS (bP + 1)),e1,Z,Z,Z,hf⟩

theorem an8 (bK:List qE) {r0:Int} (hf:amm bK=some r0) (h:Q (.ret (iP r0)) τ):PC 16 [.list (List.map qE.cells bK)] τ Q:=by
 unfold amm at hf; refine BN 39 [.tmp 2] [0] Tryz.func16 Z Z Z Z Z (W 2 Z (AS Z (AO.aL (l:=bK) Z Z Z Z amf Z Z (J 1 Z (C hf Z (fun h1 hf=>?_) fun h1 hf=>?_)))))
 · cases hf; exact M 1 Z (Y Z h)
 refine W 0 Z (AS Z (AO.Yh Z (fun m10=>(U 2 Z (AS Z (AO.aL (l:=bK) Z Z Z Z amf Z Z (J 1 Z (Zf (fun x1 y1=>[(3,.val (.map (some m10))),(11,.list (List.map qE.cells bK)),(12,iP (bK.length:Int)),(13,iP x1)]) (fun x1 y1=>[.obj m10 (xk y1)]) (fun bW x1 y1=>alR bK bW x1 y1=some r0) BIG 0 [] Z Z hf (fun _ _ hz=>bQ hz) ?_)))))))); intro bW x1 y1 hf; rw [alR] at hf; refine V 1 Z (C hf Z (fun h2 hf=>?_) fun h2 hf=>?_)
 ·
  refine B1 hf fun e1 h3 hf=>W 0 Z (AS Z (AO.aM h3 Z Z Z Z amf (qE.aG _) Z (U 1 Z (AS Z (AO.aH Z aqE (fun b5=>?_)))))); refine B1 hf fun x2 h4 hf=>Rr 4 [0,0] Z Z (CL Z (qY _ h4 (J 1 Z (C hf Z (fun h5 hf=>?_) fun h5 hf=>?_))))
  · cases hf; exact M 1 Z (Y Z h)
  refine B1 hf fun e2 h6 hf=>Wr 2 [0] Z Z (CL Z (ali _ h6 (J 3 Z (C hf Z (fun h7 hf=>?_) fun h7 hf=>?_))))
  · cases hf; exact M 2 Z (Y Z h)
  refine Wr 3 [0] Z Z (AS Z (AO.Py (i:=1) (l:=y1) Z Z Z Z anD cu afc (U 1 Z (AR.fH Z Z (AO.QS (i:=1) (l:=y1) Z Z Z Z Z anD cu (Rr 3 [0] Z Z (AS Z (AO.Py (i:=1) (l:=(wE y1 e1.name (bS ((sV y1 e1.name) + 1)))) Z Z Z Z anD cu afc (J 1 Z (C hf Z (fun h8 hf=>?_) fun h8 hf=>?_))))))))))
  · cases hf; exact M 1 Z (Y Z h)
  refine Wn0 2 Z (AR.drop1 ?_); exact N 0 Z ⟨(bS (x1 + 1)),(wE y1 e1.name (bS ((sV y1 e1.name) + 1))),Z,Z,Z,hf⟩
 cases hf; exact M 1 Z (Y Z h)

theorem Xw (EC:Int) {r0:b_} (hf:Rv EC=some r0) (h:Q (.ret (.agg (ajJ r0))) τ):PC 23 [iP EC] τ Q:=by
 unfold Rv at hf; refine BN 5 [.cell 2 37] [0] Tryz.func23 Z Z Z Z Z (W 0 Z (AS Z (AO.aH Z acT (fun b2=>?_)))); cases hf; exact Rx 3 [0] Z Z (ZC [0] Z Z h)

theorem alj (EC:Int) (ae8:b_) {r0:b_} (hf:aiX EC ae8=some r0) (h:Q (.ret (.agg (ajJ r0))) τ):PC 86 [iP EC,.agg (ajJ ae8)] τ Q:=by
 unfold aiX at hf; refine BN 9 [.cell 4 37] [0,1] Tryz.func86 rfl rfl rfl rfl rfl (W 1 rfl (AS rfl (AO.aH rfl acT (fun b4=>(U 2 rfl (AS rfl (AO.bq (b_.bn [ae8]) rfl akN rfl rfl rfl (by first | rfl | simp only [List.map,b_.aG,b_.bn]) ?_))))))); cases hf; exact Rx 2 [0] Z Z (ZC [0] Z Z h)

theorem anr (name1:Str) {r0:List (List b_)} {r1:b_} (hf:afd name1=some (r0,r1)) (h:Q (.ret (.tuple [.list (List.map b_.abw r0),.agg (ajJ r1)])) τ):PC 80 [.str name1] τ Q:=by
 unfold afd at hf; refine BN 106 [.tmp 2,.cell 3 37] [0] Tryz.func80 Z Z Z Z Z (W 0 Z (AS Z (AO.nR Z Z (AS Z (AO.aH Z acT (fun b3=>?_)))))); refine B1 hf fun x1 h1 hf=>U 0 Z (CL Z (Xw _ h1 ?_)); refine B1 hf fun x2 h2 hf=>CL Z (Xw _ h2 ?_); refine B1 hf fun x3 h3 hf=>CL Z (Xw _ h3 ?_); refine B1 hf fun x4 h4 hf=>CL Z (Xw _ h4 (AS Z (AO.aH Z acT (fun b4=>(AS Z (AO.aH Z acT (fun b5=>(AS Z (AO.aH Z acT (fun b6=>?_))))))))))
 refine AS Z (AO.aH Z acT (fun b7=>(Rw 4 [3,2,1,0] Z Z (AW.au7 6 37 [8,9,10] mixed (by kernel_rfl) Z acT Z (by kernel_rfl) (by decide) ?_)))); refine Ev.cons Z Z Z (AO.bV (i:=3) Z Z Z mX Z Z zg) ?_; refine B1 hf fun x5 h5 hf=>Ev.cons Z Z Z (AO.call Z _ Z Z aqJ (alj _ _ h5 zg)) (Ev.cons Z Z Z (AO.bV (i:=3) Z Z Z mX Z Z zg) ?_); refine B1 hf fun x6 h6 hf=>Ev.cons Z Z Z (AO.call Z _ Z Z aqJ (alj _ _ h6 zg)) (Ev.cons Z Z Z (AO.bV (i:=1) Z Z Z mX Z Z zg) ?_)
 refine B1 hf fun x7 h7 hf=>Ev.cons Z Z Z (AO.call Z _ Z Z aqJ (alj _ _ h7 zg)) (Ev.nil ?_); intro b8 b9 b10; show AR _ _ _ _ _ _ _ _
 refine Rw 6 [2,1,0] Z Z (C hf Z (fun h8 hf=>?_) fun h8 hf=>?_)
 ·
  refine V 0 Z (AW.draw 9 mixed (by kernel_rfl) Z ?_); refine Ev.cons rfl rfl rfl (AO.bV (i:=4) rfl rfl rfl mX rfl rfl ⟨rfl,rfl⟩) (Ev.cons rfl rfl rfl (AO.bq (b_.bn [x3]) rfl akN rfl rfl rfl (by first | rfl | simp only [List.map,b_.aG,b_.bn]) ⟨rfl,rfl⟩) ?_); refine Ev.cons rfl rfl rfl (AO.bV (i:=2) rfl rfl rfl mX rfl rfl ⟨rfl,rfl⟩) (Ev.cons rfl rfl rfl (AO.bq (b_.bn [x5]) rfl akN rfl rfl rfl (by first | rfl | simp only [List.map,b_.aG,b_.bn]) ⟨rfl,rfl⟩) ?_)
  refine Ev.cons rfl rfl rfl (AO.bV (i:=1) rfl rfl rfl mX rfl rfl ⟨rfl,rfl⟩) (Ev.cons rfl rfl rfl (AO.bq (b_.bn [x6]) rfl akN rfl rfl rfl (by first | rfl | simp only [List.map,b_.aG,b_.bn]) ⟨rfl,rfl⟩) ?_); refine Ev.cons Z Z Z (AO.bq (List.map b_.abw [[x3],[x5],[x6]]) Z ame Z Z Z Z zg) (Ev.cons Z Z Z (AO.bV (i:=5) Z Z Z mX Z Z zg) (Ev.cs aP 1 Z (Ev.nil ?_))); show AR _ _ _ _ _ _ _ _
  cases hf; exact Rx 1 [7] rfl rfl ⟨rfl,_,⟨_,_,rfl,rfl,_,_,rfl,⟨_,_,7,_,_,rfl,rfl,mX,rfl⟩,rfl⟩,[],List.nil_sublist _,h⟩
 refine V 2 Z (C hf Z (fun h9 hf=>?_) fun h9 hf=>?_)
 ·
  refine V 0 Z (AW.draw 12 mixed (by kernel_rfl) Z ?_); refine Ev.cons rfl rfl rfl (AO.bV (i:=2) rfl rfl rfl mX rfl rfl ⟨rfl,rfl⟩) (Ev.cons rfl rfl rfl (AO.bV (i:=6) rfl rfl rfl mX rfl rfl ⟨rfl,rfl⟩) (Ev.cons rfl rfl rfl (AO.bq (b_.bn [x5,x1]) rfl akN rfl rfl rfl (by first | rfl | simp only [List.map,b_.aG,b_.bn]) ⟨rfl,rfl⟩) ?_))
  refine Ev.cons rfl rfl rfl (AO.bV (i:=4) rfl rfl rfl mX rfl rfl ⟨rfl,rfl⟩) (Ev.cons rfl rfl rfl (AO.bV (i:=4) rfl rfl rfl mX rfl rfl ⟨rfl,rfl⟩) (Ev.cons rfl rfl rfl (AO.bq (b_.bn [x3,x3]) rfl akN rfl rfl rfl (by first | rfl | simp only [List.map,b_.aG,b_.bn]) ⟨rfl,rfl⟩) ?_))
  refine Ev.cons rfl rfl rfl (AO.bV (i:=1) rfl rfl rfl mX rfl rfl ⟨rfl,rfl⟩) (Ev.cons rfl rfl rfl (AO.bV (i:=4) rfl rfl rfl mX rfl rfl ⟨rfl,rfl⟩) (Ev.cons rfl rfl rfl (AO.bq (b_.bn [x6,x3]) rfl akN rfl rfl rfl (by first | rfl | simp only [List.map,b_.aG,b_.bn]) ⟨rfl,rfl⟩) ?_)); refine Ev.cons Z Z Z (AO.bq (List.map b_.abw [[x5,x1],[x3,x3],[x6,x3]]) Z ame Z Z Z Z zg) (Ev.cons Z Z Z (AO.bV (i:=3) Z Z Z mX Z Z zg) (Ev.cs aP 1 Z (Ev.nil ?_)))
  show AR _ _ _ _ _ _ _ _
  cases hf; exact Rx 1 [7] rfl rfl ⟨rfl,_,⟨_,_,rfl,rfl,_,_,rfl,⟨_,_,7,_,_,rfl,rfl,mX,rfl⟩,rfl⟩,[],List.nil_sublist _,h⟩
 refine V 2 Z (C hf Z (fun h10 hf=>?_) fun h10 hf=>?_)
 ·
  refine V 0 Z (AW.draw 6 mixed (by kernel_rfl) Z ?_); refine Ev.cons rfl rfl rfl (AO.bV (i:=0) rfl rfl rfl mX rfl rfl ⟨rfl,rfl⟩) (Ev.cons rfl rfl rfl (AO.bV (i:=4) rfl rfl rfl mX rfl rfl ⟨rfl,rfl⟩) (Ev.cons rfl rfl rfl (AO.bq (b_.bn [x7,x3]) rfl akN rfl rfl rfl (by first | rfl | simp only [List.map,b_.aG,b_.bn]) ⟨rfl,rfl⟩) ?_))
  refine Ev.cons Z Z Z (AO.bq (List.map b_.abw [[x7,x3]]) Z ame Z Z Z Z zg) (Ev.cons Z Z Z (AO.bV (i:=4) Z Z Z mX Z Z zg) (Ev.cs aP 1 Z (Ev.nil ?_))); show AR _ _ _ _ _ _ _ _
  cases hf; exact Rx 1 [7] rfl rfl ⟨rfl,_,⟨_,_,rfl,rfl,_,_,rfl,⟨_,_,7,_,_,rfl,rfl,mX,rfl⟩,rfl⟩,[],List.nil_sublist _,h⟩
 refine V 2 Z (C hf Z (fun h11 hf=>?_) fun h11 hf=>?_)
 ·
  refine V 0 Z (AW.draw 11 mixed (by kernel_rfl) Z ?_); refine B1 hf fun x8 h12 hf=>Ev.cons rfl rfl rfl (AO.call rfl _ rfl rfl aot (Xw _ h12 ⟨rfl,rfl⟩)) (Ev.cons rfl rfl rfl (AO.bq (b_.bn [x8]) rfl akN rfl rfl rfl (by first | rfl | simp only [List.map,b_.aG,b_.bn]) ⟨rfl,rfl⟩) ?_); refine Ev.cons rfl rfl rfl (AO.bV (i:=3) rfl rfl rfl mX rfl rfl ⟨rfl,rfl⟩) (Ev.cons rfl rfl rfl (AO.bq (b_.bn [x4]) rfl akN rfl rfl rfl (by first | rfl | simp only [List.map,b_.aG,b_.bn]) ⟨rfl,rfl⟩) ?_)
  refine Ev.cons rfl rfl rfl (AO.bV (i:=5) rfl rfl rfl mX rfl rfl ⟨rfl,rfl⟩) (Ev.cons rfl rfl rfl (AO.bq (b_.bn [x2]) rfl akN rfl rfl rfl (by first | rfl | simp only [List.map,b_.aG,b_.bn]) ⟨rfl,rfl⟩) ?_); refine Ev.cons rfl rfl rfl (AO.bV (i:=4) rfl rfl rfl mX rfl rfl ⟨rfl,rfl⟩) (Ev.cons rfl rfl rfl (AO.bq (b_.bn [x3]) rfl akN rfl rfl rfl (by first | rfl | simp only [List.map,b_.aG,b_.bn]) ⟨rfl,rfl⟩) ?_)
  refine Ev.cons Z Z Z (AO.bq (List.map b_.abw [[x8],[x4],[x2],[x3]]) Z ame Z Z Z Z zg) (Ev.cons Z Z Z (AO.bV (i:=4) Z Z Z mX Z Z zg) (Ev.cs aP 1 Z (Ev.nil ?_))); show AR _ _ _ _ _ _ _ _
  cases hf; exact Rx 1 [7] rfl rfl ⟨rfl,_,⟨_,_,rfl,rfl,_,_,rfl,⟨_,_,7,_,_,rfl,rfl,mX,rfl⟩,rfl⟩,[],List.nil_sublist _,h⟩
 refine V 2 Z (C hf Z (fun jq hf=>?_) fun jq hf=>?_)
 ·
  refine V 0 Z (AW.cond Z (fun kg=>?_) (fun kg=>?_))
  ·
   refine V 0 Z (AW.draw 5 mixed (by kernel_rfl) Z ?_); refine Ev.cons rfl rfl rfl (AO.bV (i:=4) rfl rfl rfl mX rfl rfl ⟨rfl,rfl⟩) (Ev.cons rfl rfl rfl (AO.bq (b_.bn [x3]) rfl akN rfl rfl rfl (by first | rfl | simp only [List.map,b_.aG,b_.bn]) ⟨rfl,rfl⟩) ?_); refine Ev.cons Z Z Z (AO.bq (List.map b_.abw [[x3]]) Z ame Z Z Z Z zg) (Ev.cons Z Z Z (AO.bV (i:=4) Z Z Z mX Z Z zg) (Ev.cs aP 1 Z (Ev.nil ?_))); show AR _ _ _ _ _ _ _ _
   cases hf; exact Rx 1 [7] rfl rfl ⟨rfl,_,⟨_,_,rfl,rfl,_,_,rfl,⟨_,_,7,_,_,rfl,rfl,mX,rfl⟩,rfl⟩,[],List.nil_sublist _,h⟩
  cases jq.symm.trans kg
 refine V 2 Z (C hf Z (fun kC hf=>?_) fun kC hf=>?_)
 ·
  refine V 0 Z (AW.draw 5 mixed (by kernel_rfl) Z ?_); refine Ev.cons rfl rfl rfl (AO.bV (i:=4) rfl rfl rfl mX rfl rfl ⟨rfl,rfl⟩) (Ev.cons rfl rfl rfl (AO.bq (b_.bn [x3]) rfl akN rfl rfl rfl (by first | rfl | simp only [List.map,b_.aG,b_.bn]) ⟨rfl,rfl⟩) ?_); refine Ev.cons Z Z Z (AO.bq (List.map b_.abw [[x3]]) Z ame Z Z Z Z zg) (Ev.cons Z Z Z (AO.bV (i:=4) Z Z Z mX Z Z zg) (Ev.cs aP 1 Z (Ev.nil ?_))); show AR _ _ _ _ _ _ _ _
  cases hf; exact Rx 1 [7] rfl rfl ⟨rfl,_,⟨_,_,rfl,rfl,_,_,rfl,⟨_,_,7,_,_,rfl,rfl,mX,rfl⟩,rfl⟩,[],List.nil_sublist _,h⟩
 refine V 2 Z (C hf Z (fun h16 hf=>?_) fun h16 hf=>?_)
 ·
  refine V 0 Z (AW.draw 6 mixed (by kernel_rfl) Z ?_); refine Ev.cons rfl rfl rfl (AO.bV (i:=4) rfl rfl rfl mX rfl rfl ⟨rfl,rfl⟩) (Ev.cons rfl rfl rfl (AO.bV (i:=4) rfl rfl rfl mX rfl rfl ⟨rfl,rfl⟩) (Ev.cons rfl rfl rfl (AO.bq (b_.bn [x3,x3]) rfl akN rfl rfl rfl (by first | rfl | simp only [List.map,b_.aG,b_.bn]) ⟨rfl,rfl⟩) ?_))
  refine Ev.cons Z Z Z (AO.bq (List.map b_.abw [[x3,x3]]) Z ame Z Z Z Z zg) (Ev.cons Z Z Z (AO.bV (i:=0) Z Z Z mX Z Z zg) (Ev.cs aP 1 Z (Ev.nil ?_))); show AR _ _ _ _ _ _ _ _
  cases hf; exact Rx 1 [7] rfl rfl ⟨rfl,_,⟨_,_,rfl,rfl,_,_,rfl,⟨_,_,7,_,_,rfl,rfl,mX,rfl⟩,rfl⟩,[],List.nil_sublist _,h⟩
 refine V 2 Z (C hf Z (fun mQ hf=>?_) fun mQ hf=>?_)
 ·
  refine V 0 Z (AW.cond Z (fun h18=>?_) (fun h18=>?_))
  ·
   refine V 0 Z (AW.draw 6 mixed (by kernel_rfl) Z ?_); refine Ev.cons rfl rfl rfl (AO.bV (i:=4) rfl rfl rfl mX rfl rfl ⟨rfl,rfl⟩) (Ev.cons rfl rfl rfl (AO.bV (i:=4) rfl rfl rfl mX rfl rfl ⟨rfl,rfl⟩) (Ev.cons rfl rfl rfl (AO.bq (b_.bn [x3,x3]) rfl akN rfl rfl rfl (by first | rfl | simp only [List.map,b_.aG,b_.bn]) ⟨rfl,rfl⟩) ?_))
   refine Ev.cons Z Z Z (AO.bq (List.map b_.abw [[x3,x3]]) Z ame Z Z Z Z zg) (Ev.cons Z Z Z (AO.bV (i:=3) Z Z Z mX Z Z zg) (Ev.cs aP 1 Z (Ev.nil ?_))); show AR _ _ _ _ _ _ _ _
   cases hf; exact Rx 1 [7] rfl rfl ⟨rfl,_,⟨_,_,rfl,rfl,_,_,rfl,⟨_,_,7,_,_,rfl,rfl,mX,rfl⟩,rfl⟩,[],List.nil_sublist _,h⟩
  cases mQ.symm.trans h18
 refine V 2 Z (C hf Z (fun h19 hf=>?_) fun h19 hf=>?_)
 ·
  refine V 0 Z (AW.draw 6 mixed (by kernel_rfl) Z ?_); refine Ev.cons rfl rfl rfl (AO.bV (i:=4) rfl rfl rfl mX rfl rfl ⟨rfl,rfl⟩) (Ev.cons rfl rfl rfl (AO.bV (i:=4) rfl rfl rfl mX rfl rfl ⟨rfl,rfl⟩) (Ev.cons rfl rfl rfl (AO.bq (b_.bn [x3,x3]) rfl akN rfl rfl rfl (by first | rfl | simp only [List.map,b_.aG,b_.bn]) ⟨rfl,rfl⟩) ?_))
  refine Ev.cons Z Z Z (AO.bq (List.map b_.abw [[x3,x3]]) Z ame Z Z Z Z zg) (Ev.cons Z Z Z (AO.bV (i:=3) Z Z Z mX Z Z zg) (Ev.cs aP 1 Z (Ev.nil ?_))); show AR _ _ _ _ _ _ _ _
  cases hf; exact Rx 1 [7] rfl rfl ⟨rfl,_,⟨_,_,rfl,rfl,_,_,rfl,⟨_,_,7,_,_,rfl,rfl,mX,rfl⟩,rfl⟩,[],List.nil_sublist _,h⟩
 refine V 2 Z (C hf Z (fun h20 hf=>?_) fun h20 hf=>?_)
 ·
  refine V 0 Z (AW.draw 5 mixed (by kernel_rfl) Z ?_); refine Ev.cons rfl rfl rfl (AO.bV (i:=4) rfl rfl rfl mX rfl rfl ⟨rfl,rfl⟩) (Ev.cons rfl rfl rfl (AO.bq (b_.bn [x3]) rfl akN rfl rfl rfl (by first | rfl | simp only [List.map,b_.aG,b_.bn]) ⟨rfl,rfl⟩) ?_); refine Ev.cons Z Z Z (AO.bq (List.map b_.abw [[x3]]) Z ame Z Z Z Z zg) (Ev.cons Z Z Z (AO.bV (i:=5) Z Z Z mX Z Z zg) (Ev.cs aP 1 Z (Ev.nil ?_))); show AR _ _ _ _ _ _ _ _
  cases hf; exact Rx 1 [7] rfl rfl ⟨rfl,_,⟨_,_,rfl,rfl,_,_,rfl,⟨_,_,7,_,_,rfl,rfl,mX,rfl⟩,rfl⟩,[],List.nil_sublist _,h⟩
 refine V 2 Z (C hf Z (fun h21 hf=>?_) fun h21 hf=>?_)
 ·
  refine V 0 Z (AW.draw 6 mixed (by kernel_rfl) Z ?_); refine Ev.cons rfl rfl rfl (AO.bV (i:=6) rfl rfl rfl mX rfl rfl ⟨rfl,rfl⟩) (Ev.cons rfl rfl rfl (AO.bV (i:=6) rfl rfl rfl mX rfl rfl ⟨rfl,rfl⟩) (Ev.cons rfl rfl rfl (AO.bq (b_.bn [x1,x1]) rfl akN rfl rfl rfl (by first | rfl | simp only [List.map,b_.aG,b_.bn]) ⟨rfl,rfl⟩) ?_))
  refine Ev.cons Z Z Z (AO.bq (List.map b_.abw [[x1,x1]]) Z ame Z Z Z Z zg) (Ev.cons Z Z Z (AO.bV (i:=6) Z Z Z mX Z Z zg) (Ev.cs aP 1 Z (Ev.nil ?_))); show AR _ _ _ _ _ _ _ _
  cases hf; exact Rx 1 [7] rfl rfl ⟨rfl,_,⟨_,_,rfl,rfl,_,_,rfl,⟨_,_,7,_,_,rfl,rfl,mX,rfl⟩,rfl⟩,[],List.nil_sublist _,h⟩
 refine V 2 Z (C hf Z (fun h22 hf=>?_) fun h22 hf=>?_)
 ·
  refine V 0 Z (AW.draw 5 mixed (by kernel_rfl) Z ?_); refine Ev.cons rfl rfl rfl (AO.bV (i:=1) rfl rfl rfl mX rfl rfl ⟨rfl,rfl⟩) (Ev.cons rfl rfl rfl (AO.bq (b_.bn [x6]) rfl akN rfl rfl rfl (by first | rfl | simp only [List.map,b_.aG,b_.bn]) ⟨rfl,rfl⟩) ?_); refine Ev.cons Z Z Z (AO.bq (List.map b_.abw [[x6]]) Z ame Z Z Z Z zg) (Ev.cons Z Z Z (AO.bV (i:=0) Z Z Z mX Z Z zg) (Ev.cs aP 1 Z (Ev.nil ?_))); show AR _ _ _ _ _ _ _ _
  cases hf; exact Rx 1 [7] rfl rfl ⟨rfl,_,⟨_,_,rfl,rfl,_,_,rfl,⟨_,_,7,_,_,rfl,rfl,mX,rfl⟩,rfl⟩,[],List.nil_sublist _,h⟩
 refine V 0 Z (AW.draw 2 mixed (by kernel_rfl) Z ?_); refine Ev.cons Z Z Z (AO.bV (i:=6) Z Z Z mX Z Z zg) (Ev.cons Z Z Z (AO.nR Z Z zg) (Ev.nil ?_)); show AR _ _ _ _ _ _ _ _
 cases hf; exact Rx 1 [7] rfl rfl ⟨rfl,_,⟨_,_,rfl,rfl,_,_,rfl,⟨_,_,7,_,_,rfl,rfl,mX,rfl⟩,rfl⟩,[],List.nil_sublist _,h⟩

theorem acS (t1:b_) {r0:Bool} (hf:aad t1=some r0) (h:Q (.ret (.bool r0)) τ):PC 82 [.agg (ajJ t1)] τ Q:=by
 unfold aad at hf; refine BN 11 [.tmp 2] [0] Tryz.func82 Z Z Z Z Z (W 6 Z (On 4 6 10 [] (t1.kind == 7) Z Z Z Z ?_)); cases hf; exact N 1 Z (Y Z h)


abbrev amw (aiZ:b_→b_→Option Bool):Prop:=∀ (ut1:b_) (uu1:b_) {aU:Bool},aiZ ut1 uu1=some aU→∀ {τ:List bE} {Q:eZ→List bE→Prop} (h:Q (.ret (.bool aU)) τ),PC 52 [.agg (ajJ ut1),.agg (ajJ uu1)] τ Q
theorem ang (aiZ) (am3:amw aiZ) (t1:b_) (u1:b_) {r0:Bool} (hf:air aiZ t1 u1=some r0) (h:Q (.ret (.bool r0)) τ):PC 52 [.agg (ajJ t1),.agg (ajJ u1)] τ Q:=by
 unfold air at hf; refine BN 39 [.tmp 4] [0,1] Tryz.func52 Z Z Z Z Z ?_; refine B1 hf fun x1 h1 hf=>W 4 Z (CL Z (acS _ h1 (U 1 Z (On 4 8 12 [2,3] (u1.kind == 0) Z Z Z Z (J 1 Z (C hf Z (fun h3 hf=>?_) fun h3 hf=>?_))))))
 · cases hf; exact M 1 Z (Y Z h)
 refine V 6 Z (C hf Z (fun h4 hf=>?_) fun h4 hf=>?_)
 · cases hf; exact M 1 Z (Y Z h)
 refine W 2 Z (AS Z (AO.aL (l:=t1.elem) Z Z Z Z yX Z (b_.aB _) (U 2 Z (AR.and 5 24 29 [2,3] (x:=((u1.elem.length:Int) == 1)) Z Z (fun h5=>?_) (fun h5=>?_) ?_))))
 · refine Is 24 h5 Z (U 2 Z (GO Z (AO.aL (l:=u1.elem) Z Z Z Z yX Z (b_.aB _) ?_))); exact eU 2 Z (En [29,2,3] Z)
 · refine Is 24 h5 Z ?_; exact eU 5 Z (En [29,2,3] Z)
 refine J 1 Z (C hf Z (fun h6 hf=>?_) fun h6 hf=>?_)
 ·
  refine V 0 Z (AW.draw 10 mixed (by kernel_rfl) Z ?_); refine Ev.cs aP 2 Z ?_; refine B1 hf fun e1 h7 hf=>Ev.cons Z Z Z (AO.aM h7 Z Z (b_.aB _) Z yX (b_.aG _) Z zg) (Ev.cs aP 3 Z ?_); refine B1 hf fun e2 h8 hf=>Ev.cons Z Z Z (AO.aM h8 Z Z (b_.aB _) Z yX (b_.aG _) Z zg) (Ev.cs aP 1 Z ?_); replace hf:=(aJ _).trans hf; refine B1 hf fun x2 h9 hf=>Ev.cons Z Z Z (AO.call Z _ Z Z aor (am3 _ _ h9 zg)) (Ev.cs aP 1 Z (Ev.nil ?_))
  show AR _ _ _ _ _ _ _ _
  cases hf; exact N 0 Z (Y Z h)
 cases hf; exact M 1 Z (Y Z h)
theorem ani :∀ k:Nat,(amw (acV k)):=by
 intro k
 induction k with
 | zero=>exact fun _ _ _ hz=>by first | cases hz | (unfold acV at hz; cases hz)
 | succ k ih=>exact fun ut1 uu1 aU hz τ Q hq=>ang (acV k) ih ut1 uu1 hz hq
theorem ag1 (ut1:b_) (uu1:b_) {aU:Bool} (hf:ae4 ut1 uu1=some aU) (h:Q (.ret (.bool aU)) τ):PC 52 [.agg (ajJ ut1),.agg (ajJ uu1)] τ Q:=
 ((ani BIG)) ut1 uu1 hf h

theorem aoZ (Qd:List b_) (al0:List b_) {r0:Bool} (hf:akx Qd al0=some r0) (h:Q (.ret (.bool r0)) τ):PC 81 [.list (b_.bn Qd),.list (b_.bn al0)] τ Q:=by
 unfold akx at hf; refine BN 22 [.tmp 4] [0,1] Tryz.func81 Z Z Z Z Z (W 2 Z (AS Z (AO.aL (l:=al0) Z Z Z Z yX Z (b_.aB _) (J 1 Z (Gc (fun i1=>[(0,.list (b_.bn Qd)),(1,.list (b_.bn al0)),(7,iP (al0.length:Int)),(8,iP i1)]) (fun i1=>[]) (fun bW i1=>akJ Qd al0 bW i1=some r0) BIG 0 Z Z hf (fun _ hz=>bQ hz) ?_))))); intro bW i1 hf; rw [akJ] at hf; refine V 1 Z (C hf Z (fun h1 hf=>?_) fun h1 hf=>?_)
 ·
  refine V 2 Z (AW.draw 10 mixed (by kernel_rfl) Z ?_); refine Ev.cs aP 2 Z ?_; refine B1 hf fun e1 h2 hf=>Ev.cons Z Z Z (AO.aM h2 Z Z (b_.aB _) Z yX (b_.aG _) Z zg) (Ev.cs aP 3 Z ?_); refine B1 hf fun e2 h3 hf=>Ev.cons Z Z Z (AO.aM h3 Z Z (b_.aB _) Z yX (b_.aG _) Z zg) (Ev.cs aP 1 Z ?_); refine B1 hf fun x1 h4 hf=>Ev.cons Z Z Z (AO.call Z _ Z Z aor (ag1 _ _ h4 zg)) (Ev.cs aP 1 Z (Ev.nil ?_)); show AR _ _ _ _ _ _ _ _
  refine J 0 Z (C hf Z (fun h5 hf=>?_) fun h5 hf=>?_)
  · cases hf; exact M 1 Z (Y Z h)
  exact M 2 Z ⟨(bS (i1 + 1)),Z,Z,Z,hf⟩
 cases hf; exact M 1 Z (Y Z h)

theorem ahe (EC:Int) {r0:b_} (hf:abd EC=some r0) (h:Q (.ret (.agg (ajJ r0))) τ):PC 55 [iP EC] τ Q:=by
 unfold abd at hf; refine BN 5 [.cell 2 37] [0] Tryz.func55 Z Z Z Z Z (W 0 Z (AS Z (AO.aH Z acT (fun b2=>?_)))); cases hf; exact Rx 3 [0] Z Z (ZC [0] Z Z h)

theorem amz (EC:Int) (ae8:b_) {r0:b_} (hf:akq EC ae8=some r0) (h:Q (.ret (.agg (ajJ r0))) τ):PC 63 [iP EC,.agg (ajJ ae8)] τ Q:=by
 unfold akq at hf; refine BN 9 [.cell 4 37] [0,1] Tryz.func63 rfl rfl rfl rfl rfl (W 1 rfl (AS rfl (AO.aH rfl acT (fun b4=>(U 2 rfl (AS rfl (AO.bq (b_.bn [ae8]) rfl akN rfl rfl rfl (by first | rfl | simp only [List.map,b_.aG,b_.bn]) ?_))))))); cases hf; exact Rx 2 [0] Z Z (ZC [0] Z Z h)


abbrev am6 (akv:b_→Option b_):Prop:=∀ (ut1:b_) {aU:b_},akv ut1=some aU→∀ {τ:List bE} {Q:eZ→List bE→Prop} (h:Q (.ret (.agg (ajJ aU))) τ),PC 87 [.agg (ajJ ut1)] τ Q
theorem aok (akv) (anZ:am6 akv) (t1:b_) {r0:b_} (hf:ale akv t1=some r0) (h:Q (.ret (.agg (ajJ r0))) τ):PC 87 [.agg (ajJ t1)] τ Q:=by
 unfold ale at hf; refine BN 18 [.cell 2 37] [0] Tryz.func87 Z Z Z Z Z (W 1 Z (AS Z (AO.aH Z acT (fun b2=>?_)))); refine B1 hf fun x1 h1 hf=>U 2 Z (CL Z (akh _ h1 (J 1 Z (C hf Z (fun h2 hf=>?_) fun h2 hf=>?_))))
 · replace hf:=(aJ _).trans hf; refine B1 hf fun x2 h3 hf=>W 2 Z (CL Z (ahe _ h3 ?_)); cases hf; exact Rx 1 [0] Z Z (ZC [0] Z Z h)
 refine V 0 Z (AW.draw 8 mixed (by kernel_rfl) Z ?_); refine Ev.cs aP 4 Z ?_; refine B1 hf fun e1 h4 hf=>Ev.cons Z Z Z (AO.aM h4 Z Z (b_.aB _) Z yX (b_.aG _) Z zg) (Ev.cs aP 1 Z ?_); refine B1 hf fun x3 h5 hf=>Ev.cons Z Z Z (AO.call Z _ Z Z auG (anZ _ h5 zg)) ?_; replace hf:=(aJ _).trans hf; refine B1 hf fun x4 h6 hf=>Ev.cons Z Z Z (AO.call Z _ Z Z atb (amz _ _ h6 zg)) (Ev.nil ?_); show AR _ _ _ _ _ _ _ _
 cases hf; exact Rx 1 [0] Z Z (ZC [0] Z Z h)
theorem aov :∀ k:Nat,(am6 (ajb k)):=by
 intro k
 induction k with
 | zero=>exact fun _ _ hz=>by first | cases hz | (unfold ajb at hz; cases hz)
 | succ k ih=>exact fun ut1 aU hz τ Q hq=>aok (ajb k) ih ut1 hz hq
theorem am5 (ut1:b_) {aU:b_} (hf:amg ut1=some aU) (h:Q (.ret (.agg (ajJ aU))) τ):PC 87 [.agg (ajJ ut1)] τ Q:=
 ((aov BIG)) ut1 hf h


abbrev ane (akI:b_→b_→Option b_):Prop:=∀ (wR:b_) (wQ:b_) {aU:b_},akI wR wQ=some aU→∀ {τ:List bE} {Q:eZ→List bE→Prop} (h:Q (.ret (.agg (ajJ aU))) τ),PC 56 [.agg (ajJ wR),.agg (ajJ wQ)] τ Q
theorem aoO (akI) (aoe:ane akI) (a1:b_) (b1:b_) {r0:b_} (hf:akB akI a1 b1=some r0) (h:Q (.ret (.agg (ajJ r0))) τ):PC 56 [.agg (ajJ a1),.agg (ajJ b1)] τ Q:=by
 unfold akB at hf; refine BN 43 [.cell 4 37] [0,1] Tryz.func56 Z Z Z Z Z (W 2 Z (AS Z (AO.aH Z acT (fun b4=>(J 4 Z (C hf Z (fun h1 hf=>?_) fun h1 hf=>?_))))))
 · replace hf:=(aJ _).trans hf; refine B1 hf fun x1 h2 hf=>W 1 Z (CL Z (am5 _ h2 ?_)); cases hf; exact Rx 1 [0] Z Z (ZC [0] Z Z h)
 refine V 4 Z (C hf Z (fun h3 hf=>?_) fun h3 hf=>?_)
 · replace hf:=(aJ _).trans hf; refine B1 hf fun x2 h4 hf=>W 1 Z (CL Z (am5 _ h4 ?_)); cases hf; exact Rx 1 [0] Z Z (ZC [0] Z Z h)
 refine V 6 Z (C hf Z (fun h5 hf=>?_) fun h5 hf=>?_)
 · replace hf:=(aJ _).trans hf; refine B1 hf fun x3 h6 hf=>W 0 Z (CL Z (ahe _ h6 ?_)); cases hf; exact Rx 1 [0] Z Z (ZC [0] Z Z h)
 refine B1 hf fun x4 h7 hf=>W 2 Z (CL Z (akh _ h7 (J 1 Z (C hf Z (fun h8 hf=>?_) fun h8 hf=>?_))))
 ·
  refine V 0 Z (AW.draw 12 mixed (by kernel_rfl) Z ?_); refine Ev.cs aP 4 Z ?_; refine B1 hf fun e1 h9 hf=>Ev.cons Z Z Z (AO.aM h9 Z Z (b_.aB _) Z yX (b_.aG _) Z zg) (Ev.cs aP 3 Z ?_); refine B1 hf fun e2 h10 hf=>Ev.cons Z Z Z (AO.aM h10 Z Z (b_.aB _) Z yX (b_.aG _) Z zg) (Ev.cs aP 1 Z ?_); refine B1 hf fun x5 h11 hf=>Ev.cons Z Z Z (AO.call Z _ Z Z ate (aoe _ _ h11 zg)) ?_; replace hf:=(aJ _).trans hf
  refine B1 hf fun x6 h12 hf=>Ev.cons Z Z Z (AO.call Z _ Z Z atb (amz _ _ h12 zg)) (Ev.nil ?_); show AR _ _ _ _ _ _ _ _
  cases hf; exact Rx 1 [0] Z Z (ZC [0] Z Z h)
 replace hf:=(aJ _).trans hf; refine B1 hf fun x7 jq hf=>W 2 Z (CL Z (ahe _ jq ?_)); cases hf; exact Rx 1 [0] Z Z (ZC [0] Z Z h)
theorem aoQ :∀ k:Nat,(ane (aiT k)):=by
 intro k
 induction k with
 | zero=>exact fun _ _ _ hz=>by first | cases hz | (unfold aiT at hz; cases hz)
 | succ k ih=>exact fun wR wQ aU hz τ Q hq=>aoO (aiT k) ih wR wQ hz hq
theorem am_ (wR:b_) (wQ:b_) {aU:b_} (hf:al1 wR wQ=some aU) (h:Q (.ret (.agg (ajJ aU))) τ):PC 56 [.agg (ajJ wR),.agg (ajJ wQ)] τ Q:=
 ((aoQ BIG)) wR wQ hf h


abbrev anf (aiq:ah→Option b_):Prop:=∀ (rZ:ah) {aU:b_},aiq rZ=some aU→∀ {τ:List bE} {Q:eZ→List bE→Prop} (h:Q (.ret (.agg (ajJ aU))) τ),PC 29 [.agg (aF rZ)] τ Q
theorem aoP (aiq) (aof:anf aiq) (v1:ah) {r0:b_} (hf:alX aiq v1=some r0) (h:Q (.ret (.agg (ajJ r0))) τ):PC 29 [.agg (aF v1)] τ Q:=by
 unfold alX at hf; refine BN 40 [.cell 2 37] [0] Tryz.func29 Z Z Z Z Z (W 1 Z (AS Z (AO.aH Z acT (fun b2=>(J 4 Z (C hf Z (fun h1 hf=>?_) fun h1 hf=>?_))))))
 · replace hf:=(aJ _).trans hf; refine B1 hf fun x1 h2 hf=>W 0 Z (CL Z (ahe _ h2 ?_)); cases hf; exact Rx 1 [0] Z Z (ZC [0] Z Z h)
 refine V 2 Z (C hf Z (fun h3 hf=>?_) fun h3 hf=>?_)
 · replace hf:=(aJ _).trans hf; refine B1 hf fun x2 h4 hf=>W 0 Z (CL Z (ahe _ h4 ?_)); cases hf; exact Rx 1 [0] Z Z (ZC [0] Z Z h)
 refine V 2 Z (C hf Z (fun h5 hf=>?_) fun h5 hf=>?_)
 · replace hf:=(aJ _).trans hf; refine B1 hf fun x3 h6 hf=>W 0 Z (CL Z (ahe _ h6 ?_)); cases hf; exact Rx 1 [0] Z Z (ZC [0] Z Z h)
 refine V 2 Z (C hf Z (fun h7 hf=>?_) fun h7 hf=>?_)
 · replace hf:=(aJ _).trans hf; refine B1 hf fun x4 h8 hf=>W 0 Z (CL Z (ahe _ h8 ?_)); cases hf; exact Rx 1 [0] Z Z (ZC [0] Z Z h)
 refine B1 hf fun x5 h9 hf=>W 0 Z (CL Z (ahe _ h9 (AS Z (AO.aH Z acT (fun b3=>(Rr 3 [0] Z Z (AS Z (AO.aL (l:=v1.aI) Z Z Z Z dN Z (ah.aB _) ?_))))))))
 refine J 1 Z (Zf (fun x6 ae8=>[(1,.ref (aF v1)),(2,pP b2),(3,pP b3),(22,.list (ah.bn v1.aI)),(23,iP (v1.aI.length:Int)),(24,iP x6)]) (fun x6 ae8=>[.box b3 (ajJ ae8),.box b2 [iP 0,.own (.slice none 0 0) []]]) (fun bW x6 ae8=>ald aiq v1 bW x6 ae8=some r0) BIG 0 x5 Z Z hf (fun _ _ hz=>bQ hz) ?_); intro bW x6 ae8 hf; rw [ald] at hf; refine V 1 Z (C hf Z (fun h10 hf=>?_) fun h10 hf=>?_)
 ·
  refine B1 hf fun e1 h11 hf=>W 0 Z (AS Z (AO.aM h11 Z Z (ah.aB _) Z dN (ah.aG _) Z (U 1 Z (AS Z (AO.aH Z eY (fun b5=>(Rw 1 [0] Z Z (AW.draw 4 mixed (by kernel_rfl) Z ?_)))))))); refine Ev.cons Z Z Z (AO.bV (i:=1) Z Z Z mX Z Z zg) (Ev.cons Z Z Z (AO.bV (i:=0) Z Z Z bY Z Z zg) ?_); refine B1 hf fun x7 h12 hf=>Ev.cons Z Z Z (AO.call Z _ Z Z atf (aof _ h12 zg)) ?_; refine B1 hf fun x8 jq hf=>Ev.cons Z Z Z (AO.call Z _ Z Z ate (am_ _ _ jq zg)) (Ev.nil ?_)
  show AR _ _ _ _ _ _ _ _
  refine Rn 3 [1] Z Z (AR.drop1 ?_); exact N 0 Z ⟨(bS (x6 + 1)),x8,Z,Z,Z,hf⟩
 refine V 3 Z (C hf Z (fun kg hf=>?_) fun kg hf=>?_)
 · replace hf:=(aJ _).trans hf; refine B1 hf fun x9 kC hf=>Wr 1 [0] Z Z (CL Z (amz _ _ kC ?_)); cases hf; exact Rx 1 [1] Z Z (ZC [1] Z Z h)
 replace hf:=(aJ _).trans hf; refine B1 hf fun CO h16 hf=>Wr 1 [0] Z Z (CL Z (amz _ _ h16 ?_)); cases hf; exact Rx 1 [1] Z Z (ZC [1] Z Z h)
theorem aoR :∀ k:Nat,(anf (ai_ k)):=by
 intro k
 induction k with
 | zero=>exact fun _ _ hz=>by first | cases hz | (unfold ai_ at hz; cases hz)
 | succ k ih=>exact fun rZ aU hz τ Q hq=>aoP (ai_ k) ih rZ hz hq
theorem ana (rZ:ah) {aU:b_} (hf:al2 rZ=some aU) (h:Q (.ret (.agg (ajJ aU))) τ):PC 29 [.agg (aF rZ)] τ Q:=
 ((aoR BIG)) rZ hf h

theorem apT (v1:ah) {r0:b_} (hf:amE v1=some r0) (h:Q (.ret (.agg (ajJ r0))) τ):PC 46 [.agg (aF v1)] τ Q:=by
 unfold amE at hf; refine BN 9 [.cell 2 37] [0] Tryz.func46 Z Z Z Z Z (W 1 Z (AS Z (AO.aH Z acT (fun b2=>?_)))); refine B1 hf fun x1 h1 hf=>U 1 Z (CL Z (om _ h1 (J 1 Z (C hf Z (fun h2 hf=>?_) fun h2 hf=>?_))))
 · replace hf:=(aJ _).trans hf; refine B1 hf fun x2 h3 hf=>W 0 Z (CL Z (ahe _ h3 ?_)); cases hf; exact Rx 1 [0] Z Z (ZC [0] Z Z h)
 replace hf:=(aJ _).trans hf; refine B1 hf fun x3 h4 hf=>W 1 Z (CL Z (ana _ h4 ?_)); cases hf; exact Rx 1 [0] Z Z (ZC [0] Z Z h)

theorem an2 (bK:List qE) (name1:Str) {r0:b_} {r1:Int} (hf:alh bK name1=some (r0,r1)) (h:Q (.ret (.tuple [.agg (ajJ r0),iP r1])) τ):PC 47 [.list (List.map qE.cells bK),.str name1] τ Q:=by
 unfold alh at hf; refine BN 22 [.cell 4 37,.tmp 5] [0,1] Tryz.func47 Z Z Z Z Z (W 0 Z (AS Z (AO.aH Z acT (fun b4=>(U 2 Z (AS Z (AO.aL (l:=bK) Z Z Z Z amf Z Z (J 1 Z (Gc (fun x1=>[(1,.str name1),(4,pP b4),(8,.list (List.map qE.cells bK)),(9,iP (bK.length:Int)),(10,iP x1)]) (fun x1=>[.box b4 [iP 0,.own (.slice none 0 0) []]]) (fun bW x1=>akz bK name1 bW x1=some (r0,r1)) BIG 0 Z Z hf (fun _ hz=>bQ hz) ?_))))))))); intro bW x1 hf; rw [akz] at hf
 refine V 1 Z (C hf Z (fun h1 hf=>?_) fun h1 hf=>?_)
 ·
  refine B1 hf fun e1 h2 hf=>W 0 Z (AS Z (AO.aM h2 Z Z Z Z amf (qE.aG _) Z (U 1 Z (AS Z (AO.aH Z aqE (fun b7=>(Rw 5 [0,0] Z Z (C hf Z (fun h3 hf=>?_) fun h3 hf=>?_))))))))
  · cases hf; exact Wx 4 [0,1] rfl rfl ⟨rfl,_,⟨_,_,rfl,⟨_,_,1,_,_,rfl,rfl,mX,rfl⟩,_,_,rfl,rfl,rfl⟩,[],List.nil_sublist _,h⟩
  refine Wn0 2 Z (AR.drop1 ?_); exact N 0 Z ⟨(bS (x1 + 1)),Z,Z,Z,hf⟩
 cases hf; exact Wx 3 [0] rfl rfl ⟨rfl,_,⟨_,_,rfl,⟨_,_,0,_,_,rfl,rfl,mX,rfl⟩,_,_,rfl,rfl,rfl⟩,[],List.nil_sublist _,h⟩

theorem aoH (t1:b_) {r0:b_} {r1:Int} (hf:alP t1=some (r0,r1)) (h:Q (.ret (.tuple [.agg (ajJ r0),iP r1])) τ):PC 48 [.agg (ajJ t1)] τ Q:=by
 unfold alP at hf; refine BN 17 [.cell 2 37,.tmp 3] [0] Tryz.func48 Z Z Z Z Z (W 1 Z (AS Z (AO.aH Z acT (fun b2=>?_)))); refine B1 hf fun x1 h1 hf=>U 2 Z (CL Z (acS _ h1 (J 1 Z (C hf Z (fun h2 hf=>?_) fun h2 hf=>?_))))
 · cases hf; exact Wx 3 [0] rfl rfl ⟨rfl,_,⟨_,_,rfl,⟨_,_,0,_,_,rfl,rfl,mX,rfl⟩,_,_,rfl,rfl,rfl⟩,[],List.nil_sublist _,h⟩
 refine V 4 Z (C hf Z (fun h3 hf=>?_) fun h3 hf=>?_)
 · refine B1 hf fun e1 h4 hf=>W 2 Z (AS Z (AO.aM h4 Z Z (b_.aB _) Z yX (b_.aG _) Z ?_)); cases hf; exact Rx 3 [0] rfl rfl ⟨rfl,_,⟨_,_,rfl,⟨_,_,0,_,_,rfl,rfl,mX,rfl⟩,_,_,rfl,rfl,rfl⟩,[],List.nil_sublist _,h⟩
 cases hf; exact Wx 3 [0] rfl rfl ⟨rfl,_,⟨_,_,rfl,⟨_,_,0,_,_,rfl,rfl,mX,rfl⟩,_,_,rfl,rfl,rfl⟩,[],List.nil_sublist _,h⟩

theorem ao0 (t1:b_) (i1:b_) {r0:b_} {r1:Int} (hf:amb t1 i1=some (r0,r1)) (h:Q (.ret (.tuple [.agg (ajJ r0),iP r1])) τ):PC 49 [.agg (ajJ t1),.agg (ajJ i1)] τ Q:=by
 unfold amb at hf; refine BN 42 [.cell 4 37,.tmp 5] [0,1] Tryz.func49 Z Z Z Z Z (W 2 Z (AS Z (AO.aH Z acT (fun b4=>(J 1 Z (AW.draw 8 mixed (by kernel_rfl) Z ?_)))))); refine Ev.cs aP 1 Z ?_; refine B1 hf fun x1 h1 hf=>Ev.cons Z Z Z (AO.call Z _ Z Z aot (Xw _ h1 zg)) ?_; refine B1 hf fun anC h2 hf=>Ev.cons Z Z Z (AO.call Z _ Z Z aor (ag1 _ _ h2 zg)) (Ev.cs aP 1 Z ?_); refine B1 hf fun x2 h3 hf=>Ev.cons Z Z Z (AO.call Z _ Z Z aot (Xw _ h3 zg)) ?_
 refine B1 hf fun text1 h4 hf=>Ev.cons Z Z Z (AO.call Z _ Z Z aor (ag1 _ _ h4 zg)) (Ev.cs aP 2 Z (Ev.nil ?_)); show AR _ _ _ _ _ _ _ _
 refine U 4 Z (An 2 18 20 [2,4,6,7] anC Z Z Z Z (J 1 Z (C hf Z (fun h6 hf=>?_) fun h6 hf=>?_)))
 ·
  refine V 0 Z (AW.cond Z (fun h7=>?_) (fun h7=>?_))
  · refine B1 hf fun e1 h8 hf=>W 2 Z (AS Z (AO.aM h8 Z Z (b_.aB _) Z yX (b_.aG _) Z ?_)); cases hf; exact Rx 3 [0] rfl rfl ⟨rfl,_,⟨_,_,rfl,⟨_,_,0,_,_,rfl,rfl,mX,rfl⟩,_,_,rfl,rfl,rfl⟩,[],List.nil_sublist _,h⟩
  cases h6.symm.trans h7
 refine W 4 Z (An 2 24 26 [2,4,6,7,14] text1 Z Z Z Z (J 1 Z (C hf Z (fun h10 hf=>?_) fun h10 hf=>?_)))
 · refine B1 hf fun e2 h11 hf=>W 2 Z (AS Z (AO.aM h11 Z Z (b_.aB _) Z yX (b_.aG _) Z ?_)); cases hf; exact Rx 3 [0] rfl rfl ⟨rfl,_,⟨_,_,rfl,⟨_,_,0,_,_,rfl,rfl,mX,rfl⟩,_,_,rfl,rfl,rfl⟩,[],List.nil_sublist _,h⟩
 refine B1 hf fun x3 h12 hf=>W 1 Z (CL Z (acS _ h12 (U 1 Z (AR.and 5 34 39 [2,4] (x:=(anC || text1)) Z Z (fun jq=>?_) (fun jq=>?_) ?_))))
 · refine Is 34 jq Z (U 2 Z (On 2 36 38 [2,4,34] text1 Z Z Z Z ?_)); exact eU 1 Z (En [39,2,4] Z)
 · refine Is 34 jq Z ?_; exact eU 5 Z (En [39,2,4] Z)
 refine J 1 Z (C hf Z (fun kC hf=>?_) fun kC hf=>?_)
 · cases hf; exact Wx 3 [0] rfl rfl ⟨rfl,_,⟨_,_,rfl,⟨_,_,0,_,_,rfl,rfl,mX,rfl⟩,_,_,rfl,rfl,rfl⟩,[],List.nil_sublist _,h⟩
 cases hf; exact Wx 3 [0] rfl rfl ⟨rfl,_,⟨_,_,rfl,⟨_,_,0,_,_,rfl,rfl,mX,rfl⟩,_,_,rfl,rfl,rfl⟩,[],List.nil_sublist _,h⟩

theorem aoY (op1:Str) (t1:b_) {r0:b_} {r1:Int} (hf:ama op1 t1=some (r0,r1)) (h:Q (.ret (.tuple [.agg (ajJ r0),iP r1])) τ):PC 50 [.str op1,.agg (ajJ t1)] τ Q:=by
 unfold ama at hf; refine BN 17 [.cell 4 37,.tmp 5] [0,1] Tryz.func50 Z Z Z Z Z (W 1 Z (AS Z (AO.aH Z acT (fun b4=>?_)))); refine B1 hf fun x1 h1 hf=>U 1 Z (CL Z (Xw _ h1 (AS Z (AO.aH Z acT (fun b6=>(Rw 3 [0] Z Z (C hf Z (fun h2 hf=>?_) fun h2 hf=>?_)))))))
 ·
  refine B1 hf fun x2 h3 hf=>W 0 Z (CL Z (Xw _ h3 ?_)); refine B1 hf fun x3 h4 hf=>Rr 3 [0,0] Z Z (CL Z (ag1 _ _ h4 (J 1 Z (C hf Z (fun h5 hf=>?_) fun h5 hf=>?_))))
  · cases hf; exact Wx 3 [1] rfl rfl ⟨rfl,_,⟨_,_,rfl,⟨_,_,1,_,_,rfl,rfl,mX,rfl⟩,_,_,rfl,rfl,rfl⟩,[],List.nil_sublist _,h⟩
  cases hf; exact Wx 3 [0,1] rfl rfl ⟨rfl,_,⟨_,_,rfl,⟨_,_,1,_,_,rfl,rfl,mX,rfl⟩,_,_,rfl,rfl,rfl⟩,[],List.nil_sublist _,h⟩
 refine B1 hf fun x4 h6 hf=>Wr 2 [0] Z Z (CL Z (ag1 _ _ h6 (J 1 Z (C hf Z (fun h7 hf=>?_) fun h7 hf=>?_))))
 · cases hf; exact Wx 3 [1] rfl rfl ⟨rfl,_,⟨_,_,rfl,⟨_,_,1,_,_,rfl,rfl,mX,rfl⟩,_,_,rfl,rfl,rfl⟩,[],List.nil_sublist _,h⟩
 cases hf; exact Wx 3 [0,1] rfl rfl ⟨rfl,_,⟨_,_,rfl,⟨_,_,1,_,_,rfl,rfl,mX,rfl⟩,_,_,rfl,rfl,rfl⟩,[],List.nil_sublist _,h⟩

theorem akt (EC:Int) (c1:b_) (c2:b_) {r0:Bool} (hf:ae9 EC c1 c2=some r0) (h:Q (.ret (.bool r0)) τ):PC 83 [iP EC,.ref (ajJ c1),.ref (ajJ c2)] τ Q:=by
 unfold ae9 at hf; refine BN 15 [.tmp 4] [0,1,2] Tryz.func83 Z Z Z Z Z (V 1 Z (AW.draw 11 mixed (by kernel_rfl) Z ?_)); refine Ev.cs aP 2 Z ?_; refine B1 hf fun x1 h1 hf=>Ev.cons Z Z Z (AO.call Z _ Z Z aot (Xw _ h1 zg)) ?_; refine B1 hf fun x2 h2 hf=>Ev.cons Z Z Z (AO.call Z _ Z Z aor (ag1 _ _ h2 zg)) (Ev.cs aP 1 Z ?_); replace hf:=(aJ _).trans hf; refine B1 hf fun b1 h4 hf=>Ev.eX hKA 5 9 14 true [] (.bool b1) Z Z (fun h3=>?_) (fun h3=>?_) ?_
 · replace h4:=eD h3 h4; refine Ev.is Yt 9 h3 Z (Ev.cs aP 2 Z ?_); obtain ⟨x3,h5,h4⟩:=aN h4; refine Ev.run Z Z Z Z Z Z Z (AO.call Z _ Z Z aot (Xw _ h5 zg)) ?_; replace h4:=(aJ _).trans h4; obtain ⟨x4,h6,h4⟩:=aN h4; refine Ev.run Z Z Z Z Z Z Z (AO.call Z _ Z Z aor (ag1 _ _ h6 zg)) ?_; obtain rfl:=Option.some.inj h4; refine Ev.cs aP 1 Z ?_; exact Ev.nil (Less.settle (ps:=[14]) Z)
 · replace h4:=eF h3 h4; refine Ev.is Yt 9 h3 Z ?_; obtain rfl:=Option.some.inj h4; refine Ev.cs aP 5 Z ?_; exact Ev.nil (Less.settle (ps:=[14]) Z)
 refine Ev.cs aP 1 Z (Ev.nil ?_); show AR _ _ _ _ _ _ _ _
 cases hf; exact N 0 Z (Y Z h)

theorem ag3 (a1:b_) (b1:b_) (EC:Int) {r0:Bool} (hf:acU a1 b1 EC=some r0) (h:Q (.ret (.bool r0)) τ):PC 84 [.agg (ajJ a1),.agg (ajJ b1),iP EC] τ Q:=by
 unfold acU at hf; refine BN 37 [.tmp 6] [0,1,2] Tryz.func84 Z Z Z Z Z ?_; refine B1 hf fun x1 h1 hf=>W 4 Z (CL Z (acS _ h1 (U 1 Z (On 5 9 14 [2,3,4] (a1.kind == EC) Z Z Z Z ?_)))); refine B1 hf fun b2 h4 hf=>U 1 Z (AR.eX 9 15 24 true [2,3,4] b2 Z Z (fun h3=>?_) (fun h3=>?_) ?_)
 · replace h4:=eD h3 h4; refine Is 15 h3 Z ?_; obtain ⟨x2,h5,h4⟩:=aN h4; refine U 1 Z (GO Z (AO.call Z _ Z Z aa3 (acS _ h5 (U 1 Z (On 5 18 23 [2,3,4,15] (b1.kind == EC) Z Z Z Z ?_))))); obtain rfl:=Option.some.inj h4; exact eU 1 Z (En [24,2,3,4] Z)
 · replace h4:=eF h3 h4; refine Is 15 h3 Z ?_; obtain rfl:=Option.some.inj h4; exact eU 9 Z (En [24,2,3,4] Z)
 refine U 1 Z (AR.and 11 25 36 [] (x:=((a1.kind == EC) || (b1.kind == EC))) Z Z (fun h7=>?_) (fun h7=>?_) ?_)
 · refine Is 25 h7 Z (U 5 Z (On 5 30 35 [25] (b1.kind == EC) Z Z Z Z ?_)); exact eU 1 Z (En [36] Z)
 · refine Is 25 h7 Z ?_; exact eU 11 Z (En [36] Z)
 cases hf; exact N 1 Z (Y Z h)

theorem amV (t1:b_) {r0:b_} (hf:ak1 t1=some r0) (h:Q (.ret (.agg (ajJ r0))) τ):PC 121 [.agg (ajJ t1)] τ Q:=by
 unfold ak1 at hf; refine BN 10 [.cell 2 37] [0] Tryz.func121 Z Z Z Z Z (W 1 Z (AS Z (AO.aH Z acT (fun b2=>?_)))); refine B1 hf fun x1 h1 hf=>U 1 Z (CL Z (acS _ h1 (J 0 Z (C hf Z (fun h2 hf=>?_) fun h2 hf=>?_))))
 · cases hf; exact Wx 2 [0] Z Z (ZC [0] Z Z h)
 replace hf:=(aJ _).trans hf; refine B1 hf fun e1 h3 hf=>W 2 Z (AS Z (AO.aM h3 Z Z (b_.aB _) Z yX (b_.aG _) Z ?_)); cases hf; exact Rx 2 [0] Z Z (ZC [0] Z Z h)

theorem anb (a1:b_) (b1:b_) {r0:Bool} (hf:alB a1 b1=some r0) (h:Q (.ret (.bool r0)) τ):PC 54 [.agg (ajJ a1),.agg (ajJ b1)] τ Q:=by
 unfold alB at hf; refine BN 13 [.tmp 4] [0,1] Tryz.func54 Z Z Z Z Z ?_; refine B1 hf fun x1 h1 hf=>W 4 Z (CL Z (ali _ h1 ?_)); replace hf:=(aJ _).trans hf; refine B1 hf fun b2 h3 hf=>U 2 Z (AR.eX 4 8 12 true [] b2 Z Z (fun h2=>?_) (fun h2=>?_) ?_)
 · replace h3:=eD h2 h3; refine Is 8 h2 Z ?_; obtain ⟨x2,h4,h3⟩:=aN h3; refine U 1 Z (GO Z (AO.call Z _ Z Z auO (ali _ h4 ?_))); obtain rfl:=Option.some.inj h3; exact eU 2 Z (En [12] Z)
 · replace h3:=eF h2 h3; refine Is 8 h2 Z ?_; obtain rfl:=Option.some.inj h3; exact eU 4 Z (En [12] Z)
 cases hf; exact N 1 Z (Y Z h)

theorem alZ (a1:b_) (b1:b_) {r0:b_} (hf:ai0 a1 b1=some r0) (h:Q (.ret (.agg (ajJ r0))) τ):PC 22 [.agg (ajJ a1),.agg (ajJ b1)] τ Q:=by
 unfold ai0 at hf; refine BN 13 [.cell 4 37] [0,1] Tryz.func22 Z Z Z Z Z (W 2 Z (AS Z (AO.aH Z acT (fun b4=>?_)))); refine B1 hf fun x1 h1 hf=>U 2 Z (CL Z (anb _ _ h1 (J 1 Z (C hf Z (fun h2 hf=>?_) fun h2 hf=>?_))))
 · replace hf:=(aJ _).trans hf; refine B1 hf fun x2 h3 hf=>W 0 Z (CL Z (ahe _ h3 ?_)); cases hf; exact Rx 1 [0] Z Z (ZC [0] Z Z h)
 replace hf:=(aJ _).trans hf; refine B1 hf fun x3 h4 hf=>W 2 Z (CL Z (am_ _ _ h4 ?_)); cases hf; exact Rx 1 [0] Z Z (ZC [0] Z Z h)

theorem apY (a1:b_) (b1:b_) {r0:b_} {r1:Int} (hf:amM a1 b1=some (r0,r1)) (h:Q (.ret (.tuple [.agg (ajJ r0),iP r1])) τ):PC 85 [.agg (ajJ a1),.agg (ajJ b1)] τ Q:=by
 unfold amM at hf; refine BN 44 [.cell 4 37,.tmp 5] [0,1] Tryz.func85 Z Z Z Z Z (W 2 Z (AS Z (AO.aH Z acT (fun b4=>?_)))); refine B1 hf fun x1 h1 hf=>U 2 Z (CL Z (acS _ h1 ?_)); refine B1 hf fun b2 h3 hf=>U 1 Z (AR.eX 3 9 12 true [2,3,4] b2 Z Z (fun h2=>?_) (fun h2=>?_) ?_)
 · replace h3:=eD h2 h3; refine Is 9 h2 Z ?_; replace h3:=(aJ _).trans h3; obtain ⟨x2,h4,h3⟩:=aN h3; refine U 1 Z (GO Z (AO.call Z _ Z Z aa3 (acS _ h4 ?_))); obtain rfl:=Option.some.inj h3; exact eU 1 Z (En [12,2,3,4] Z)
 · replace h3:=eF h2 h3; refine Is 9 h2 Z ?_; obtain rfl:=Option.some.inj h3; exact eU 3 Z (En [12,2,3,4] Z)
 refine J 1 Z (C hf Z (fun h5 hf=>?_) fun h5 hf=>?_)
 ·
  refine W 4 Z (On 4 16 20 [4] (b1.kind == 0) Z Z Z Z (J 0 Z (C hf Z (fun h7 hf=>?_) fun h7 hf=>?_)))
  · refine B1 hf fun x3 h8 hf=>W 0 Z (CL Z (Xw _ h8 ?_)); cases hf; exact Rx 2 [0] rfl rfl ⟨rfl,_,⟨_,_,rfl,⟨_,_,0,_,_,rfl,rfl,mX,rfl⟩,_,_,rfl,rfl,rfl⟩,[],List.nil_sublist _,h⟩
  refine B1 hf fun x4 h9 hf=>W 0 Z (CL Z (Xw _ h9 ?_)); cases hf; exact Rx 2 [0] rfl rfl ⟨rfl,_,⟨_,_,rfl,⟨_,_,0,_,_,rfl,rfl,mX,rfl⟩,_,_,rfl,rfl,rfl⟩,[],List.nil_sublist _,h⟩
 refine B1 hf fun x5 h10 hf=>W 2 Z (CL Z (ag3 _ _ _ h10 (J 1 Z (C hf Z (fun h11 hf=>?_) fun h11 hf=>?_))))
 · refine B1 hf fun x6 h12 hf=>W 0 Z (CL Z (Xw _ h12 ?_)); cases hf; exact Rx 2 [0] rfl rfl ⟨rfl,_,⟨_,_,rfl,⟨_,_,0,_,_,rfl,rfl,mX,rfl⟩,_,_,rfl,rfl,rfl⟩,[],List.nil_sublist _,h⟩
 refine B1 hf fun x7 jq hf=>W 2 Z (CL Z (ag3 _ _ _ jq (J 1 Z (C hf Z (fun kg hf=>?_) fun kg hf=>?_))))
 · refine B1 hf fun x8 kC hf=>W 0 Z (CL Z (Xw _ kC ?_)); cases hf; exact Rx 2 [0] rfl rfl ⟨rfl,_,⟨_,_,rfl,⟨_,_,0,_,_,rfl,rfl,mX,rfl⟩,_,_,rfl,rfl,rfl⟩,[],List.nil_sublist _,h⟩
 refine B1 hf fun x9 h16 hf=>W 2 Z (CL Z (ag3 _ _ _ h16 (J 1 Z (C hf Z (fun mQ hf=>?_) fun mQ hf=>?_))))
 ·
  refine V 0 Z (AW.draw 6 mixed (by kernel_rfl) Z ?_); refine Ev.cs aP 1 Z ?_; refine B1 hf fun CO h18 hf=>Ev.cons Z Z Z (AO.call Z _ Z Z arU (amV _ h18 zg)) (Ev.cs aP 1 Z ?_); refine B1 hf fun KP h19 hf=>Ev.cons Z Z Z (AO.call Z _ Z Z arU (amV _ h19 zg)) ?_; refine B1 hf fun TU h20 hf=>Ev.cons Z Z Z (AO.call Z _ Z Z ajz (alZ _ _ h20 zg)) ?_; refine B1 hf fun Sv h21 hf=>Ev.cons Z Z Z (AO.call Z _ Z Z aqJ (alj _ _ h21 zg)) (Ev.nil ?_)
  show AR _ _ _ _ _ _ _ _
  cases hf; exact Rx 2 [0] rfl rfl ⟨rfl,_,⟨_,_,rfl,⟨_,_,0,_,_,rfl,rfl,mX,rfl⟩,_,_,rfl,rfl,rfl⟩,[],List.nil_sublist _,h⟩
 cases hf; exact Wx 3 [0] rfl rfl ⟨rfl,_,⟨_,_,rfl,⟨_,_,0,_,_,rfl,rfl,mX,rfl⟩,_,_,rfl,rfl,rfl⟩,[],List.nil_sublist _,h⟩

theorem aoI (op1:Str) (a1:b_) (b1:b_) {r0:b_} {r1:Int} (hf:amj op1 a1 b1=some (r0,r1)) (h:Q (.ret (.tuple [.agg (ajJ r0),iP r1])) τ):PC 51 [.str op1,.agg (ajJ a1),.agg (ajJ b1)] τ Q:=by
 unfold amj at hf; refine BN 59 [.cell 6 37,.tmp 7] [0,1,2] Tryz.func51 Z Z Z Z Z (W 2 Z (AS Z (AO.aH Z acT (fun b6=>(J 6 Z (C hf Z (fun h1 hf=>?_) fun h1 hf=>?_))))))
 ·
  refine V 0 Z (AW.cond Z (fun h2=>?_) (fun h2=>?_))
  ·
   refine B1 hf fun x1 h3 hf=>W 1 Z (CL Z (akt _ _ _ h3 (J 0 Z (C hf Z (fun h4 hf=>?_) fun h4 hf=>?_))))
   · refine B1 hf fun x2 h5 hf=>W 0 Z (CL Z (Xw _ h5 ?_)); cases hf; exact Rx 2 [0] rfl rfl ⟨rfl,_,⟨_,_,rfl,⟨_,_,0,_,_,rfl,rfl,mX,rfl⟩,_,_,rfl,rfl,rfl⟩,[],List.nil_sublist _,h⟩
   cases hf; exact Wx 3 [0] rfl rfl ⟨rfl,_,⟨_,_,rfl,⟨_,_,0,_,_,rfl,rfl,mX,rfl⟩,_,_,rfl,rfl,rfl⟩,[],List.nil_sublist _,h⟩
  cases h1.symm.trans h2
 refine V 2 Z (C hf Z (fun h6 hf=>?_) fun h6 hf=>?_)
 ·
  refine B1 hf fun x3 h7 hf=>W 1 Z (CL Z (akt _ _ _ h7 (J 0 Z (C hf Z (fun h8 hf=>?_) fun h8 hf=>?_))))
  · refine B1 hf fun x4 h9 hf=>W 0 Z (CL Z (Xw _ h9 ?_)); cases hf; exact Rx 2 [0] rfl rfl ⟨rfl,_,⟨_,_,rfl,⟨_,_,0,_,_,rfl,rfl,mX,rfl⟩,_,_,rfl,rfl,rfl⟩,[],List.nil_sublist _,h⟩
  cases hf; exact Wx 3 [0] rfl rfl ⟨rfl,_,⟨_,_,rfl,⟨_,_,0,_,_,rfl,rfl,mX,rfl⟩,_,_,rfl,rfl,rfl⟩,[],List.nil_sublist _,h⟩
 refine V 2 Z (C hf Z (fun h10 hf=>?_) fun h10 hf=>?_)
 ·
  refine V 0 Z (AW.cond Z (fun h11=>?_) (fun h11=>?_))
  · refine B1 hf fun x5 h12 hf=>W 0 Z (CL Z (Xw _ h12 ?_)); cases hf; exact Rx 2 [0] rfl rfl ⟨rfl,_,⟨_,_,rfl,⟨_,_,0,_,_,rfl,rfl,mX,rfl⟩,_,_,rfl,rfl,rfl⟩,[],List.nil_sublist _,h⟩
  cases h10.symm.trans h11
 refine V 2 Z (C hf Z (fun jq hf=>?_) fun jq hf=>?_)
 · refine B1 hf fun x6 kg hf=>W 0 Z (CL Z (Xw _ kg ?_)); cases hf; exact Rx 2 [0] rfl rfl ⟨rfl,_,⟨_,_,rfl,⟨_,_,0,_,_,rfl,rfl,mX,rfl⟩,_,_,rfl,rfl,rfl⟩,[],List.nil_sublist _,h⟩
 refine V 2 Z (C hf Z (fun kC hf=>?_) fun kC hf=>?_)
 ·
  refine V 0 Z (AW.cond Z (fun h16=>?_) (fun h16=>?_))
  ·
   refine B1 hf fun x7 mQ hf=>W 1 Z (CL Z (acS _ mQ ?_)); refine B1 hf fun b2 h19 hf=>U 1 Z (AR.eX 3 28 31 true [4,5,6] b2 Z Z (fun h18=>?_) (fun h18=>?_) ?_)
   · replace h19:=eD h18 h19; refine Is 28 h18 Z ?_; replace h19:=(aJ _).trans h19; obtain ⟨x8,h20,h19⟩:=aN h19; refine U 1 Z (GO Z (AO.call Z _ Z Z aa3 (acS _ h20 ?_))); obtain rfl:=Option.some.inj h19; exact eU 1 Z (En [31,4,5,6] Z)
   · replace h19:=eF h18 h19; refine Is 28 h18 Z ?_; obtain rfl:=Option.some.inj h19; exact eU 3 Z (En [31,4,5,6] Z)
   refine B1 hf fun b3 h22 hf=>U 1 Z (AR.eX 4 32 36 false [4,5,6] b3 Z Z (fun h21=>?_) (fun h21=>?_) ?_)
   · replace h22:=eF h21 h22; refine Is 32 h21 Z ?_; replace h22:=(aJ _).trans h22; obtain ⟨x9,h23,h22⟩:=aN h22; refine U 2 Z (GO Z (AO.call Z _ Z Z an4 (ag3 _ _ _ h23 ?_))); obtain rfl:=Option.some.inj h22; exact eU 1 Z (En [36,4,5,6] Z)
   · replace h22:=eD h21 h22; refine Is 32 h21 Z ?_; obtain rfl:=Option.some.inj h22; exact eU 4 Z (En [36,4,5,6] Z)
   refine B1 hf fun b4 Sw hf=>U 1 Z (AR.eX 4 37 41 false [6] b4 Z Z (fun Ku=>?_) (fun Ku=>?_) ?_)
   · replace Sw:=eF Ku Sw; refine Is 37 Ku Z ?_; replace Sw:=(aJ _).trans Sw; obtain ⟨CO,PI,Sw⟩:=aN Sw; refine U 2 Z (GO Z (AO.call Z _ Z Z an4 (ag3 _ _ _ PI ?_))); obtain rfl:=Option.some.inj Sw; exact eU 1 Z (En [41,6] Z)
   · replace Sw:=eD Ku Sw; refine Is 37 Ku Z ?_; obtain rfl:=Option.some.inj Sw; exact eU 4 Z (En [41,6] Z)
   refine J 0 Z (C hf Z (fun h27 hf=>?_) fun h27 hf=>?_)
   · refine B1 hf fun KP Xb hf=>W 0 Z (CL Z (Xw _ Xb ?_)); cases hf; exact Rx 2 [0] rfl rfl ⟨rfl,_,⟨_,_,rfl,⟨_,_,0,_,_,rfl,rfl,mX,rfl⟩,_,_,rfl,rfl,rfl⟩,[],List.nil_sublist _,h⟩
   cases hf; exact Wx 3 [0] rfl rfl ⟨rfl,_,⟨_,_,rfl,⟨_,_,0,_,_,rfl,rfl,mX,rfl⟩,_,_,rfl,rfl,rfl⟩,[],List.nil_sublist _,h⟩
  cases kC.symm.trans h16
 refine V 2 Z (C hf Z (fun Te hf=>?_) fun Te hf=>?_)
 ·
  refine V 0 Z (AW.cond Z (fun h30=>?_) (fun h30=>?_))
  ·
   refine B1 hf fun TU h31 hf=>W 1 Z (CL Z (acS _ h31 ?_)); refine B1 hf fun b5 O9 hf=>U 1 Z (AR.eX 3 28 31 true [4,5,6] b5 Z Z (fun h32=>?_) (fun h32=>?_) ?_)
   · replace O9:=eD h32 O9; refine Is 28 h32 Z ?_; replace O9:=(aJ _).trans O9; obtain ⟨Sv,h34,O9⟩:=aN O9; refine U 1 Z (GO Z (AO.call Z _ Z Z aa3 (acS _ h34 ?_))); obtain rfl:=Option.some.inj O9; exact eU 1 Z (En [31,4,5,6] Z)
   · replace O9:=eF h32 O9; refine Is 28 h32 Z ?_; obtain rfl:=Option.some.inj O9; exact eU 3 Z (En [31,4,5,6] Z)
   refine B1 hf fun b6 h36 hf=>U 1 Z (AR.eX 4 32 36 false [4,5,6] b6 Z Z (fun h35=>?_) (fun h35=>?_) ?_)
   · replace h36:=eF h35 h36; refine Is 32 h35 Z ?_; replace h36:=(aJ _).trans h36; obtain ⟨Vo,h37,h36⟩:=aN h36; refine U 2 Z (GO Z (AO.call Z _ Z Z an4 (ag3 _ _ _ h37 ?_))); obtain rfl:=Option.some.inj h36; exact eU 1 Z (En [36,4,5,6] Z)
   · replace h36:=eD h35 h36; refine Is 32 h35 Z ?_; obtain rfl:=Option.some.inj h36; exact eU 4 Z (En [36,4,5,6] Z)
   refine B1 hf fun b7 h39 hf=>U 1 Z (AR.eX 4 37 41 false [6] b7 Z Z (fun h38=>?_) (fun h38=>?_) ?_)
   · replace h39:=eF h38 h39; refine Is 37 h38 Z ?_; replace h39:=(aJ _).trans h39; obtain ⟨x15,h40,h39⟩:=aN h39; refine U 2 Z (GO Z (AO.call Z _ Z Z an4 (ag3 _ _ _ h40 ?_))); obtain rfl:=Option.some.inj h39; exact eU 1 Z (En [41,6] Z)
   · replace h39:=eD h38 h39; refine Is 37 h38 Z ?_; obtain rfl:=Option.some.inj h39; exact eU 4 Z (En [41,6] Z)
   refine J 0 Z (C hf Z (fun h41 hf=>?_) fun h41 hf=>?_)
   · refine B1 hf fun Xh h42 hf=>W 0 Z (CL Z (Xw _ h42 ?_)); cases hf; exact Rx 2 [0] rfl rfl ⟨rfl,_,⟨_,_,rfl,⟨_,_,0,_,_,rfl,rfl,mX,rfl⟩,_,_,rfl,rfl,rfl⟩,[],List.nil_sublist _,h⟩
   cases hf; exact Wx 3 [0] rfl rfl ⟨rfl,_,⟨_,_,rfl,⟨_,_,0,_,_,rfl,rfl,mX,rfl⟩,_,_,rfl,rfl,rfl⟩,[],List.nil_sublist _,h⟩
  cases Te.symm.trans h30
 refine V 2 Z (C hf Z (fun h43 hf=>?_) fun h43 hf=>?_)
 ·
  refine V 0 Z (AW.cond Z (fun h44=>?_) (fun h44=>?_))
  ·
   refine B1 hf fun x17 h45 hf=>W 1 Z (CL Z (acS _ h45 ?_)); refine B1 hf fun b8 h47 hf=>U 1 Z (AR.eX 3 28 31 true [4,5,6] b8 Z Z (fun h46=>?_) (fun h46=>?_) ?_)
   · replace h47:=eD h46 h47; refine Is 28 h46 Z ?_; replace h47:=(aJ _).trans h47; obtain ⟨x18,h48,h47⟩:=aN h47; refine U 1 Z (GO Z (AO.call Z _ Z Z aa3 (acS _ h48 ?_))); obtain rfl:=Option.some.inj h47; exact eU 1 Z (En [31,4,5,6] Z)
   · replace h47:=eF h46 h47; refine Is 28 h46 Z ?_; obtain rfl:=Option.some.inj h47; exact eU 3 Z (En [31,4,5,6] Z)
   refine B1 hf fun b9 h50 hf=>U 1 Z (AR.eX 4 32 36 false [4,5,6] b9 Z Z (fun h49=>?_) (fun h49=>?_) ?_)
   · replace h50:=eF h49 h50; refine Is 32 h49 Z ?_; replace h50:=(aJ _).trans h50; obtain ⟨x19,h51,h50⟩:=aN h50; refine U 2 Z (GO Z (AO.call Z _ Z Z an4 (ag3 _ _ _ h51 ?_))); obtain rfl:=Option.some.inj h50; exact eU 1 Z (En [36,4,5,6] Z)
   · replace h50:=eD h49 h50; refine Is 32 h49 Z ?_; obtain rfl:=Option.some.inj h50; exact eU 4 Z (En [36,4,5,6] Z)
   refine B1 hf fun b10 h53 hf=>U 1 Z (AR.eX 4 37 41 false [6] b10 Z Z (fun h52=>?_) (fun h52=>?_) ?_)
   · replace h53:=eF h52 h53; refine Is 37 h52 Z ?_; replace h53:=(aJ _).trans h53; obtain ⟨x20,h54,h53⟩:=aN h53; refine U 2 Z (GO Z (AO.call Z _ Z Z an4 (ag3 _ _ _ h54 ?_))); obtain rfl:=Option.some.inj h53; exact eU 1 Z (En [41,6] Z)
   · replace h53:=eD h52 h53; refine Is 37 h52 Z ?_; obtain rfl:=Option.some.inj h53; exact eU 4 Z (En [41,6] Z)
   refine J 0 Z (C hf Z (fun h55 hf=>?_) fun h55 hf=>?_)
   · refine B1 hf fun x21 h56 hf=>W 0 Z (CL Z (Xw _ h56 ?_)); cases hf; exact Rx 2 [0] rfl rfl ⟨rfl,_,⟨_,_,rfl,⟨_,_,0,_,_,rfl,rfl,mX,rfl⟩,_,_,rfl,rfl,rfl⟩,[],List.nil_sublist _,h⟩
   cases hf; exact Wx 3 [0] rfl rfl ⟨rfl,_,⟨_,_,rfl,⟨_,_,0,_,_,rfl,rfl,mX,rfl⟩,_,_,rfl,rfl,rfl⟩,[],List.nil_sublist _,h⟩
  cases h43.symm.trans h44
 refine V 2 Z (C hf Z (fun h57 hf=>?_) fun h57 hf=>?_)
 ·
  refine B1 hf fun x22 h58 hf=>W 1 Z (CL Z (acS _ h58 ?_)); refine B1 hf fun b11 h60 hf=>U 1 Z (AR.eX 3 28 31 true [4,5,6] b11 Z Z (fun h59=>?_) (fun h59=>?_) ?_)
  · replace h60:=eD h59 h60; refine Is 28 h59 Z ?_; replace h60:=(aJ _).trans h60; obtain ⟨x23,h61,h60⟩:=aN h60; refine U 1 Z (GO Z (AO.call Z _ Z Z aa3 (acS _ h61 ?_))); obtain rfl:=Option.some.inj h60; exact eU 1 Z (En [31,4,5,6] Z)
  · replace h60:=eF h59 h60; refine Is 28 h59 Z ?_; obtain rfl:=Option.some.inj h60; exact eU 3 Z (En [31,4,5,6] Z)
  refine B1 hf fun b12 h63 hf=>U 1 Z (AR.eX 4 32 36 false [4,5,6] b12 Z Z (fun h62=>?_) (fun h62=>?_) ?_)
  · replace h63:=eF h62 h63; refine Is 32 h62 Z ?_; replace h63:=(aJ _).trans h63; obtain ⟨x24,h64,h63⟩:=aN h63; refine U 2 Z (GO Z (AO.call Z _ Z Z an4 (ag3 _ _ _ h64 ?_))); obtain rfl:=Option.some.inj h63; exact eU 1 Z (En [36,4,5,6] Z)
  · replace h63:=eD h62 h63; refine Is 32 h62 Z ?_; obtain rfl:=Option.some.inj h63; exact eU 4 Z (En [36,4,5,6] Z)
  refine B1 hf fun b13 h66 hf=>U 1 Z (AR.eX 4 37 41 false [6] b13 Z Z (fun h65=>?_) (fun h65=>?_) ?_)
  · replace h66:=eF h65 h66; refine Is 37 h65 Z ?_; replace h66:=(aJ _).trans h66; obtain ⟨x25,h67,h66⟩:=aN h66; refine U 2 Z (GO Z (AO.call Z _ Z Z an4 (ag3 _ _ _ h67 ?_))); obtain rfl:=Option.some.inj h66; exact eU 1 Z (En [41,6] Z)
  · replace h66:=eD h65 h66; refine Is 37 h65 Z ?_; obtain rfl:=Option.some.inj h66; exact eU 4 Z (En [41,6] Z)
  refine J 0 Z (C hf Z (fun h68 hf=>?_) fun h68 hf=>?_)
  · refine B1 hf fun x26 h69 hf=>W 0 Z (CL Z (Xw _ h69 ?_)); cases hf; exact Rx 2 [0] rfl rfl ⟨rfl,_,⟨_,_,rfl,⟨_,_,0,_,_,rfl,rfl,mX,rfl⟩,_,_,rfl,rfl,rfl⟩,[],List.nil_sublist _,h⟩
  cases hf; exact Wx 3 [0] rfl rfl ⟨rfl,_,⟨_,_,rfl,⟨_,_,0,_,_,rfl,rfl,mX,rfl⟩,_,_,rfl,rfl,rfl⟩,[],List.nil_sublist _,h⟩
 refine V 2 Z (C hf Z (fun h70 hf=>?_) fun h70 hf=>?_)
 ·
  refine V 0 Z (AW.cond Z (fun h71=>?_) (fun h71=>?_))
  ·
   refine B1 hf fun x27 h72 hf=>W 1 Z (CL Z (akt _ _ _ h72 (J 0 Z (C hf Z (fun h73 hf=>?_) fun h73 hf=>?_))))
   · refine B1 hf fun x28 h74 hf=>W 0 Z (CL Z (Xw _ h74 ?_)); cases hf; exact Rx 2 [0] rfl rfl ⟨rfl,_,⟨_,_,rfl,⟨_,_,0,_,_,rfl,rfl,mX,rfl⟩,_,_,rfl,rfl,rfl⟩,[],List.nil_sublist _,h⟩
   cases hf; exact Wx 3 [0] rfl rfl ⟨rfl,_,⟨_,_,rfl,⟨_,_,0,_,_,rfl,rfl,mX,rfl⟩,_,_,rfl,rfl,rfl⟩,[],List.nil_sublist _,h⟩
  cases h70.symm.trans h71
 refine V 2 Z (C hf Z (fun h75 hf=>?_) fun h75 hf=>?_)
 ·
  refine V 0 Z (AW.cond Z (fun h76=>?_) (fun h76=>?_))
  ·
   refine B1 hf fun x29 h77 hf=>W 1 Z (CL Z (akt _ _ _ h77 (J 0 Z (C hf Z (fun h78 hf=>?_) fun h78 hf=>?_))))
   · refine B1 hf fun x30 h79 hf=>W 0 Z (CL Z (Xw _ h79 ?_)); cases hf; exact Rx 2 [0] rfl rfl ⟨rfl,_,⟨_,_,rfl,⟨_,_,0,_,_,rfl,rfl,mX,rfl⟩,_,_,rfl,rfl,rfl⟩,[],List.nil_sublist _,h⟩
   cases hf; exact Wx 3 [0] rfl rfl ⟨rfl,_,⟨_,_,rfl,⟨_,_,0,_,_,rfl,rfl,mX,rfl⟩,_,_,rfl,rfl,rfl⟩,[],List.nil_sublist _,h⟩
  cases h75.symm.trans h76
 refine V 2 Z (C hf Z (fun h80 hf=>?_) fun h80 hf=>?_)
 ·
  refine V 0 Z (AW.cond Z (fun h81=>?_) (fun h81=>?_))
  ·
   refine B1 hf fun x31 h82 hf=>W 1 Z (CL Z (akt _ _ _ h82 (J 0 Z (C hf Z (fun h83 hf=>?_) fun h83 hf=>?_))))
   · refine B1 hf fun x32 h84 hf=>W 0 Z (CL Z (Xw _ h84 ?_)); cases hf; exact Rx 2 [0] rfl rfl ⟨rfl,_,⟨_,_,rfl,⟨_,_,0,_,_,rfl,rfl,mX,rfl⟩,_,_,rfl,rfl,rfl⟩,[],List.nil_sublist _,h⟩
   cases hf; exact Wx 3 [0] rfl rfl ⟨rfl,_,⟨_,_,rfl,⟨_,_,0,_,_,rfl,rfl,mX,rfl⟩,_,_,rfl,rfl,rfl⟩,[],List.nil_sublist _,h⟩
  cases h80.symm.trans h81
 refine V 2 Z (C hf Z (fun h85 hf=>?_) fun h85 hf=>?_)
 ·
  refine B1 hf fun x33 h86 hf=>W 1 Z (CL Z (akt _ _ _ h86 (J 0 Z (C hf Z (fun h87 hf=>?_) fun h87 hf=>?_))))
  · refine B1 hf fun x34 h88 hf=>W 0 Z (CL Z (Xw _ h88 ?_)); cases hf; exact Rx 2 [0] rfl rfl ⟨rfl,_,⟨_,_,rfl,⟨_,_,0,_,_,rfl,rfl,mX,rfl⟩,_,_,rfl,rfl,rfl⟩,[],List.nil_sublist _,h⟩
  cases hf; exact Wx 3 [0] rfl rfl ⟨rfl,_,⟨_,_,rfl,⟨_,_,0,_,_,rfl,rfl,mX,rfl⟩,_,_,rfl,rfl,rfl⟩,[],List.nil_sublist _,h⟩
 refine V 2 Z (C hf Z (fun h89 hf=>?_) fun h89 hf=>?_)
 · replace hf:=(gH _).trans hf; obtain ⟨x35,x36,h90,hf⟩:=aY hf; refine W 2 Z (CL Z (apY _ _ h90 ?_)); cases hf; exact Rx 4 [0] rfl rfl ⟨rfl,_,⟨_,_,rfl,⟨_,_,0,_,_,rfl,rfl,mX,rfl⟩,_,_,rfl,rfl,rfl⟩,[],List.nil_sublist _,h⟩
 cases hf; exact Wx 3 [0] rfl rfl ⟨rfl,_,⟨_,_,rfl,⟨_,_,0,_,_,rfl,rfl,mX,rfl⟩,_,_,rfl,rfl,rfl⟩,[],List.nil_sublist _,h⟩

theorem amN (EC:Int) (Qd:List b_) {r0:b_} {r1:Int} (hf:akK EC Qd=some (r0,r1)) (h:Q (.ret (.tuple [.agg (ajJ r0),iP r1])) τ):PC 53 [iP EC,.list (b_.bn Qd)] τ Q:=by
 unfold akK at hf; refine BN 29 [.cell 4 37,.tmp 5] [0,1] Tryz.func53 Z Z Z Z Z (W 0 Z (AS Z (AO.aH Z acT (fun b4=>?_)))); refine B1 hf fun x1 h1 hf=>U 1 Z (CL Z (Xw _ h1 (AS Z (AO.aH Z acT (fun b6=>(Rr 2 [0] Z Z (AS Z (AO.aL (l:=Qd) Z Z Z Z yX Z (b_.aB _) ?_))))))))
 refine J 1 Z (Zf (fun x2 ae8=>[(0,iP EC),(4,pP b4),(6,pP b6),(11,.list (b_.bn Qd)),(12,iP (Qd.length:Int)),(13,iP x2)]) (fun x2 ae8=>[.box b6 (ajJ ae8),.box b4 [iP 0,.own (.slice none 0 0) []]]) (fun bW x2 ae8=>aky EC Qd bW x2 ae8=some (r0,r1)) BIG 0 x1 Z Z hf (fun _ _ hz=>bQ hz) ?_); intro bW x2 ae8 hf; rw [aky] at hf; refine V 1 Z (C hf Z (fun h2 hf=>?_) fun h2 hf=>?_)
 · refine B1 hf fun e1 h3 hf=>W 0 Z (AS Z (AO.aM h3 Z Z (b_.aB _) Z yX (b_.aG _) Z (U 1 Z (AS Z (AO.aH Z acT (fun b8=>?_)))))); refine B1 hf fun x3 h4 hf=>Rr 3 [0,1,0] Z Z (CL Z (alZ _ _ h4 (Rn 3 [1] Z Z (AR.drop1 ?_)))); exact N 0 Z ⟨(bS (x2 + 1)),x3,Z,Z,Z,hf⟩
 refine B1 hf fun x4 h5 hf=>Wr 2 [0] Z Z (CL Z (alj _ _ h5 (AS Z (AO.aH Z acT (fun b9=>?_))))); refine B1 hf fun x5 h6 hf=>Rr 2 [0,0] Z Z (CL Z (ali _ h6 (J 1 Z (C hf Z (fun h7 hf=>?_) fun h7 hf=>?_))))
 · cases hf; exact Wx 3 [2] rfl rfl ⟨rfl,_,⟨_,_,rfl,⟨_,_,2,_,_,rfl,rfl,mX,rfl⟩,_,_,rfl,rfl,rfl⟩,[],List.nil_sublist _,h⟩
 cases hf; exact Wx 3 [0,2] rfl rfl ⟨rfl,_,⟨_,_,rfl,⟨_,_,2,_,_,rfl,rfl,mX,rfl⟩,_,_,rfl,rfl,rfl⟩,[],List.nil_sublist _,h⟩


abbrev amk (abI:aj→List qE→Option (b_ × Int)):Prop:=∀ (fV:aj) (jv:List qE) {aU:b_} {qK:Int},abI fV jv=some (aU,qK)→∀ {τ:List bE} {Q:eZ→List bE→Prop} (h:Q (.ret (.tuple [.agg (ajJ aU),iP qK])) τ),PC 21 [.agg (aS fV),.list (List.map qE.cells jv)] τ Q
abbrev aml (ae5:aj→List qE→Option (b_ × Int)):Prop:=∀ (fV:aj) (jv:List qE) {aU:b_} {qK:Int},ae5 fV jv=some (aU,qK)→∀ {τ:List bE} {Q:eZ→List bE→Prop} (h:Q (.ret (.tuple [.agg (ajJ aU),iP qK])) τ),PC 44 [.agg (aS fV),.list (List.map qE.cells jv)] τ Q
abbrev amA (ae7:List aj→List qE→Option (List b_ × Int)):Prop:=∀ (ul1:List aj) (jv:List qE) {aU:List b_} {qK:Int},ae7 ul1 jv=some (aU,qK)→∀ {τ:List bE} {Q:eZ→List bE→Prop} (h:Q (.ret (.tuple [.list (b_.bn aU),iP qK])) τ),PC 45 [.list (aj.bn ul1),.list (List.map qE.cells jv)] τ Q
theorem apa (abI) (ams:amk abI) (ae5) (amt:aml ae5) (ae7) (alY:amA ae7) (e1:aj) (bK:List qE) {r0:b_} {r1:Int} (hf:ami abI ae5 ae7 e1 bK=some (r0,r1)) (h:Q (.ret (.tuple [.agg (ajJ r0),iP r1])) τ):PC 21 [.agg (aS e1),.list (List.map qE.cells bK)] τ Q:=by
 unfold ami at hf; refine BN 110 [.cell 4 37,.tmp 5] [0,1] Tryz.func21 Z Z Z Z Z (W 1 Z (AS Z (AO.aH Z acT (fun b4=>(J 4 Z (C hf Z (fun h1 hf=>?_) fun h1 hf=>?_))))))
 · replace hf:=(gH _).trans hf; obtain ⟨x1,x2,h2,hf⟩:=aY hf; refine W 2 Z (CL Z (amt _ _ h2 ?_)); cases hf; exact Rx 4 [0] rfl rfl ⟨rfl,_,⟨_,_,rfl,⟨_,_,0,_,_,rfl,rfl,mX,rfl⟩,_,_,rfl,rfl,rfl⟩,[],List.nil_sublist _,h⟩
 obtain ⟨Qd,f1,h3,hf⟩:=aY hf; refine W 3 Z (CL Z (alY _ _ h3 (J 7 Z (C hf Z (fun h4 hf=>?_) fun h4 hf=>?_))))
 · cases hf; exact Wx 4 [0] rfl rfl ⟨rfl,_,⟨_,_,rfl,⟨_,_,0,_,_,rfl,rfl,mX,rfl⟩,_,_,rfl,rfl,rfl⟩,[],List.nil_sublist _,h⟩
 refine V 4 Z (C hf Z (fun h5 hf=>?_) fun h5 hf=>?_)
 · refine B1 hf fun x3 h6 hf=>W 2 Z (CL Z (apT _ h6 ?_)); cases hf; exact Rx 2 [0] rfl rfl ⟨rfl,_,⟨_,_,rfl,⟨_,_,0,_,_,rfl,rfl,mX,rfl⟩,_,_,rfl,rfl,rfl⟩,[],List.nil_sublist _,h⟩
 refine V 2 Z (C hf Z (fun h7 hf=>?_) fun h7 hf=>?_)
 · replace hf:=(gH _).trans hf; obtain ⟨x4,x5,h8,hf⟩:=aY hf; refine W 3 Z (CL Z (an2 _ _ h8 ?_)); cases hf; exact Rx 4 [0] rfl rfl ⟨rfl,_,⟨_,_,rfl,⟨_,_,0,_,_,rfl,rfl,mX,rfl⟩,_,_,rfl,rfl,rfl⟩,[],List.nil_sublist _,h⟩
 refine V 2 Z (C hf Z (fun h9 hf=>?_) fun h9 hf=>?_)
 · refine B1 hf fun e2 h10 hf=>W 1 Z (AS Z (AO.aM h10 Z Z (b_.aB _) Z yX (b_.aG _) Z ?_)); replace hf:=(gH _).trans hf; obtain ⟨x6,x7,h11,hf⟩:=aY hf; refine U 1 Z (CL Z (aoH _ h11 ?_)); cases hf; exact Rx 4 [0] rfl rfl ⟨rfl,_,⟨_,_,rfl,⟨_,_,0,_,_,rfl,rfl,mX,rfl⟩,_,_,rfl,rfl,rfl⟩,[],List.nil_sublist _,h⟩
 refine V 2 Z (C hf Z (fun h12 hf=>?_) fun h12 hf=>?_)
 ·
  refine V 0 Z (AW.draw 9 mixed (by kernel_rfl) Z ?_); refine Ev.cs aP 1 Z ?_; refine B1 hf fun e3 jq hf=>Ev.cons Z Z Z (AO.aM jq Z Z (b_.aB _) Z yX (b_.aG _) Z zg) (Ev.cs aP 2 Z ?_); refine B1 hf fun e4 kg hf=>Ev.cons Z Z Z (AO.aM kg Z Z (b_.aB _) Z yX (b_.aG _) Z zg) (Ev.cs aP 1 Z ?_); replace hf:=(gH _).trans hf; obtain ⟨x8,x9,kC,hf⟩:=aY hf
  refine Ev.cons Z Z Z (AO.call Z _ Z Z auM (ao0 _ _ kC zg)) (Ev.cs aP 2 Z (Ev.nil ?_)); show AR _ _ _ _ _ _ _ _
  cases hf; exact Rx 2 [0] rfl rfl ⟨rfl,_,⟨_,_,rfl,⟨_,_,0,_,_,rfl,rfl,mX,rfl⟩,_,_,rfl,rfl,rfl⟩,[],List.nil_sublist _,h⟩
 refine V 2 Z (C hf Z (fun h16 hf=>?_) fun h16 hf=>?_)
 ·
  refine V 0 Z (AW.draw 8 mixed (by kernel_rfl) Z ?_); refine Ev.cs aP 3 Z ?_; refine B1 hf fun e5 mQ hf=>Ev.cons Z Z Z (AO.aM mQ Z Z (b_.aB _) Z yX (b_.aG _) Z zg) (Ev.cs aP 1 Z ?_); replace hf:=(gH _).trans hf; obtain ⟨CO,KP,h18,hf⟩:=aY hf; refine Ev.cons Z Z Z (AO.call Z _ Z Z auL (aoY _ _ h18 zg)) (Ev.cs aP 2 Z (Ev.nil ?_)); show AR _ _ _ _ _ _ _ _
  cases hf; exact Rx 2 [0] rfl rfl ⟨rfl,_,⟨_,_,rfl,⟨_,_,0,_,_,rfl,rfl,mX,rfl⟩,_,_,rfl,rfl,rfl⟩,[],List.nil_sublist _,h⟩
 refine V 2 Z (C hf Z (fun h19 hf=>?_) fun h19 hf=>?_)
 ·
  refine V 0 Z (AW.draw 11 mixed (by kernel_rfl) Z ?_); refine Ev.cs aP 3 Z ?_; refine B1 hf fun e6 h20 hf=>Ev.cons Z Z Z (AO.aM h20 Z Z (b_.aB _) Z yX (b_.aG _) Z zg) (Ev.cs aP 2 Z ?_); refine B1 hf fun e7 h21 hf=>Ev.cons Z Z Z (AO.aM h21 Z Z (b_.aB _) Z yX (b_.aG _) Z zg) (Ev.cs aP 1 Z ?_); replace hf:=(gH _).trans hf; obtain ⟨TU,Sv,h22,hf⟩:=aY hf
  refine Ev.cons Z Z Z (AO.call Z _ Z Z auK (aoI _ _ _ h22 zg)) (Ev.cs aP 2 Z (Ev.nil ?_)); show AR _ _ _ _ _ _ _ _
  cases hf; exact Rx 2 [0] rfl rfl ⟨rfl,_,⟨_,_,rfl,⟨_,_,0,_,_,rfl,rfl,mX,rfl⟩,_,_,rfl,rfl,rfl⟩,[],List.nil_sublist _,h⟩
 refine V 2 Z (C hf Z (fun h23 hf=>?_) fun h23 hf=>?_)
 ·
  refine V 0 Z (AW.draw 6 mixed (by kernel_rfl) Z ?_); refine Ev.cs aP 1 Z ?_; refine B1 hf fun e8 Ku hf=>Ev.cons Z Z Z (AO.aM Ku Z Z (b_.aB _) Z yX (b_.aG _) Z zg) (Ev.cs aP 1 Z ?_); refine B1 hf fun Vo Sw hf=>Ev.cons Z Z Z (AO.call Z _ Z Z aot (Xw _ Sw zg)) ?_; refine B1 hf fun x15 PI hf=>Ev.cons Z Z Z (AO.call Z _ Z Z aor (ag1 _ _ PI zg)) (Ev.cs aP 1 Z (Ev.nil ?_)); show AR _ _ _ _ _ _ _ _
  refine J 0 Z (C hf Z (fun h27 hf=>?_) fun h27 hf=>?_)
  · cases hf; exact Wx 3 [0] rfl rfl ⟨rfl,_,⟨_,_,rfl,⟨_,_,0,_,_,rfl,rfl,mX,rfl⟩,_,_,rfl,rfl,rfl⟩,[],List.nil_sublist _,h⟩
  refine V 0 Z (AW.draw 7 mixed (by kernel_rfl) Z ?_); refine Ev.cs aP 1 Z ?_; refine B1 hf fun e9 Xb hf=>Ev.cons Z Z Z (AO.aM Xb Z Z (b_.aB _) Z yX (b_.aG _) Z zg) (Ev.cs aP 2 Z ?_); refine B1 hf fun e10 Te hf=>Ev.cons Z Z Z (AO.aM Te Z Z (b_.aB _) Z yX (b_.aG _) Z zg) (Ev.cs aP 1 Z ?_); refine B1 hf fun Xh h30 hf=>Ev.cons Z Z Z (AO.call Z _ Z Z ajz (alZ _ _ h30 zg)) (Ev.nil ?_); show AR _ _ _ _ _ _ _ _
  cases hf; exact Rx 2 [0] rfl rfl ⟨rfl,_,⟨_,_,rfl,⟨_,_,0,_,_,rfl,rfl,mX,rfl⟩,_,_,rfl,rfl,rfl⟩,[],List.nil_sublist _,h⟩
 refine V 2 Z (C hf Z (fun h31 hf=>?_) fun h31 hf=>?_)
 · replace hf:=(gH _).trans hf; obtain ⟨x17,x18,h32,hf⟩:=aY hf; refine W 1 Z (CL Z (amN _ _ h32 ?_)); cases hf; exact Rx 4 [0] rfl rfl ⟨rfl,_,⟨_,_,rfl,⟨_,_,0,_,_,rfl,rfl,mX,rfl⟩,_,_,rfl,rfl,rfl⟩,[],List.nil_sublist _,h⟩
 replace hf:=(gH _).trans hf; obtain ⟨x19,x20,O9,hf⟩:=aY hf; refine W 1 Z (CL Z (amN _ _ O9 ?_)); cases hf; exact Rx 4 [0] rfl rfl ⟨rfl,_,⟨_,_,rfl,⟨_,_,0,_,_,rfl,rfl,mX,rfl⟩,_,_,rfl,rfl,rfl⟩,[],List.nil_sublist _,h⟩
theorem apb (abI) (ams:amk abI) (ae5) (amt:aml ae5) (ae7) (alY:amA ae7) (e1:aj) (bK:List qE) {r0:b_} {r1:Int} (hf:alQ abI ae5 ae7 e1 bK=some (r0,r1)) (h:Q (.ret (.tuple [.agg (ajJ r0),iP r1])) τ):PC 44 [.agg (aS e1),.list (List.map qE.cells bK)] τ Q:=by
 unfold alQ at hf; refine BN 69 [.cell 4 37,.tmp 5] [0,1] Tryz.func44 Z Z Z Z Z (W 1 Z (AS Z (AO.aH Z acT (fun b4=>?_)))); obtain ⟨afe,x1,h1,hf⟩:=aY hf; refine U 3 Z (CL Z (anr _ h1 (U 3 Z (AS Z (AO.aH Z acT (fun b7=>(Rr 3 [0] Z Z (AS Z (AO.aL (l:=afe) Z Z Z Z apq Z Z (J 1 Z (C hf Z (fun h2 hf=>?_) fun h2 hf=>?_)))))))))))
 · cases hf; exact Wx 3 [1] rfl rfl ⟨rfl,_,⟨_,_,rfl,⟨_,_,1,_,_,rfl,rfl,mX,rfl⟩,_,_,rfl,rfl,rfl⟩,[],List.nil_sublist _,h⟩
 refine V 0 Z (AW.draw 8 mixed (by kernel_rfl) Z ?_); refine Ev.cs aP 2 Z (Ev.cons Z Z Z (AO.aL (l:=e1.args) Z Z Z Z fM Z (aj.aB _) zg) (Ev.cs aP 1 Z ?_)); refine B1 hf fun e2 h3 hf=>Ev.cons Z Z Z (AO.aM h3 Z Z Z Z apq Z Z zg) (Ev.cs aP 1 Z (Ev.cons Z Z Z (AO.aL (l:=e2) Z Z Z Z yX Z (b_.aB _) zg) (Ev.cs aP 1 Z ?_))); refine Ev.nil ?_; show AR _ _ _ _ _ _ _ _
 refine J 0 Z (C hf Z (fun h4 hf=>?_) fun h4 hf=>?_)
 · cases hf; exact Wx 3 [1] rfl rfl ⟨rfl,_,⟨_,_,rfl,⟨_,_,1,_,_,rfl,rfl,mX,rfl⟩,_,_,rfl,rfl,rfl⟩,[],List.nil_sublist _,h⟩
 obtain ⟨Qd,f1,h5,hf⟩:=aY hf; refine W 3 Z (CL Z (alY _ _ h5 (J 7 Z (C hf Z (fun h6 hf=>?_) fun h6 hf=>?_))))
 · cases hf; exact Wx 4 [1] rfl rfl ⟨rfl,_,⟨_,_,rfl,⟨_,_,1,_,_,rfl,rfl,mX,rfl⟩,_,_,rfl,rfl,rfl⟩,[],List.nil_sublist _,h⟩
 refine W 1 Z (AS Z (AO.aL (l:=afe) Z Z Z Z apq Z Z ?_)); refine J 1 Z (Gc (fun x2=>[(2,.ref (aS e1)),(4,pP b4),(7,pP b7),(8,.list (b_.bn Qd)),(42,.list (List.map b_.abw afe)),(43,iP (afe.length:Int)),(44,iP x2)]) (fun x2=>[.box b7 (ajJ x1),.box b4 [iP 0,.own (.slice none 0 0) []]]) (fun bW x2=>aja e1 afe x1 Qd bW x2=some (r0,r1)) BIG 0 Z Z hf (fun _ hz=>bQ hz) ?_); intro bW x2 hf; rw [aja] at hf
 refine V 1 Z (C hf Z (fun h7 hf=>?_) fun h7 hf=>?_)
 ·
  refine B1 hf fun al0 h8 hf=>W 0 Z (AS Z (AO.aM h8 Z Z Z Z apq Z Z ?_)); refine B1 hf fun x3 h9 hf=>U 4 Z (CL Z (aoZ _ _ h9 (J 1 Z (C hf Z (fun h10 hf=>?_) fun h10 hf=>?_))))
  · exact M 2 Z ⟨(bS (x2 + 1)),Z,Z,Z,hf⟩
  refine V 3 Z (C hf Z (fun h11 hf=>?_) fun h11 hf=>?_)
  · cases hf; exact Wx 3 [0,1] rfl rfl ⟨rfl,_,⟨_,_,rfl,⟨_,_,1,_,_,rfl,rfl,mX,rfl⟩,_,_,rfl,rfl,rfl⟩,[],List.nil_sublist _,h⟩
  refine B1 hf fun e3 h12 hf=>W 1 Z (AS Z (AO.aM h12 Z Z (b_.aB _) Z yX (b_.aG _) Z (J 3 Z (C hf Z (fun jq hf=>?_) fun jq hf=>?_))))
  · refine B1 hf fun e4 kg hf=>W 1 Z (AS Z (AO.aM kg Z Z (b_.aB _) Z yX (b_.aG _) Z ?_)); cases hf; exact Rx 3 [1] rfl rfl ⟨rfl,_,⟨_,_,rfl,⟨_,_,1,_,_,rfl,rfl,mX,rfl⟩,_,_,rfl,rfl,rfl⟩,[],List.nil_sublist _,h⟩
  refine B1 hf fun e5 kC hf=>W 1 Z (AS Z (AO.aM kC Z Z (b_.aB _) Z yX (b_.aG _) Z ?_)); cases hf; exact Rx 3 [1] rfl rfl ⟨rfl,_,⟨_,_,rfl,⟨_,_,1,_,_,rfl,rfl,mX,rfl⟩,_,_,rfl,rfl,rfl⟩,[],List.nil_sublist _,h⟩
 cases hf; exact Wx 3 [1] rfl rfl ⟨rfl,_,⟨_,_,rfl,⟨_,_,1,_,_,rfl,rfl,mX,rfl⟩,_,_,rfl,rfl,rfl⟩,[],List.nil_sublist _,h⟩
theorem apD (abI) (ams:amk abI) (ae5) (amt:aml ae5) (ae7) (alY:amA ae7) (l1:List aj) (bK:List qE) {r0:List b_} {r1:Int} (hf:am4 abI ae5 ae7 l1 bK=some (r0,r1)) (h:Q (.ret (.tuple [.list (b_.bn r0),iP r1])) τ):PC 45 [.list (aj.bn l1),.list (List.map qE.cells bK)] τ Q:=by
 unfold am4 at hf
 refine BN 32 [.tmp 4,.tmp 5] [0,1] Tryz.func45 Z Z Z Z Z (W 0 Z (AS Z (AO.nR Z Z (U 3 Z (AS Z (AO.aL (l:=l1) Z Z Z Z fM Z (aj.aB _) (J 1 Z (AW.row 2 37 (Vf (fun aT v1 x1=>[(1,.list (List.map qE.cells bK)),(6,.own v1 (b_.bn aT)),(11,.list (aj.bn l1)),(12,iP (l1.length:Int)),(13,iP x1)]) (fun aT v1 x1=>[.row v1 (b_.bn aT).length 2 37]) (fun bW aT v1 x1=>akl abI l1 bK bW aT x1=some (r0,r1)) BIG [] (.slice none 0 0) 0 Z Z hf (fun _ _ _ hz=>bQ hz) ?_)))))))))
 intro bW aT v1 x1 hf; rw [akl] at hf; refine V 1 Z (C hf Z (fun h1 hf=>?_) fun h1 hf=>?_)
 ·
  refine B1 hf fun e1 h2 hf=>W 0 Z (AS Z (AO.aM h2 Z Z (aj.aB _) Z fM (aj.aG _) Z (U 1 Z (AS Z (AO.aH Z kS (fun b8=>?_)))))); obtain ⟨x2,f1,h3,hf⟩:=aY hf; refine Rr 3 [0,0] Z Z (CL Z (ams _ _ h3 (U 3 Z (AS Z (AO.aH Z acT (fun b9=>(Rw 4 [0] Z Z (C hf Z (fun h4 hf=>?_) fun h4 hf=>?_))))))))
  · refine W 1 Z (AS Z (AO.nR Z Z ?_)); cases hf; exact N 1 rfl ⟨rfl,_,⟨_,_,rfl,rfl,_,_,rfl,rfl,rfl⟩,[],List.nil_sublist _,h⟩
  refine Wr 2 [0] rfl rfl (AS rfl (AO.bq (b_.bn [x2]) rfl akN rfl rfl rfl (by first | rfl | simp only [List.map,b_.aG,b_.bn]) ?_)); refine B1 hf fun Cq h5 hf=>AS Z (AO.eP (i:=2) (l:=aT) (m:=[x2]) h5 Z Z Z Z Z Z Z akN yX (b_.aB _) (b_.aB _) (b_.aB _).symm (b_.dV) (b_.cells_one) (by decide) (fun v2 s1 hs1=>?_)); cases hs1; refine eU 3 Z (AR.drop1 (AR.drop1 ?_)); exact N 0 Z ⟨Cq,v2,(bS (x1 + 1)),Z,Z,Z,hf⟩
 cases hf; exact M 3 rfl ⟨rfl,_,⟨_,_,rfl,rfl,_,_,rfl,rfl,rfl⟩,[],List.nil_sublist _,h⟩
theorem amR :∀ k:Nat,(amk (abL k))∧(aml (aiY k))∧(amA (ail k)):=by
 intro k
 induction k with
 | zero=>exact ⟨fun _ _ _ _ hz=>by first | cases hz | (unfold abL at hz; cases hz),fun _ _ _ _ hz=>by first | cases hz | (unfold aiY at hz; cases hz),fun _ _ _ _ hz=>by first | cases hz | (unfold ail at hz; cases hz)⟩
 | succ k ih=>exact ⟨fun fV jv aU qK hz τ Q hq=>apa (abL k) ih.1 (aiY k) ih.2.1 (ail k) ih.2.2 fV jv hz hq,fun fV jv aU qK hz τ Q hq=>apb (abL k) ih.1 (aiY k) ih.2.1 (ail k) ih.2.2 fV jv hz hq,fun ul1 jv aU qK hz τ Q hq=>apD (abL k) ih.1 (aiY k) ih.2.1 (ail k) ih.2.2 ul1 jv hz hq⟩
theorem apy (fV:aj) (jv:List qE) {aU:b_} {qK:Int} (hf:ano fV jv=some (aU,qK)) (h:Q (.ret (.tuple [.agg (ajJ aU),iP qK])) τ):PC 21 [.agg (aS fV),.list (List.map qE.cells jv)] τ Q:=
 ((amR BIG).1) fV jv hf h
theorem asY (fV:aj) (jv:List qE) {aU:b_} {qK:Int} (hf:aqs fV jv=some (aU,qK)) (h:Q (.ret (.tuple [.agg (ajJ aU),iP qK])) τ):PC 44 [.agg (aS fV),.list (List.map qE.cells jv)] τ Q:=
 ((amR BIG).2.1) fV jv hf h
theorem atp (ul1:List aj) (jv:List qE) {aU:List b_} {qK:Int} (hf:aq7 ul1 jv=some (aU,qK)) (h:Q (.ret (.tuple [.list (b_.bn aU),iP qK])) τ):PC 45 [.list (aj.bn ul1),.list (List.map qE.cells jv)] τ Q:=
 ((amR BIG).2.2) ul1 jv hf h

theorem anP (e1:aj) (bK:List qE) {r0:b_} {r1:Int} (hf:alA e1 bK=some (r0,r1)) (h:Q (.ret (.tuple [.agg (ajJ r0),iP r1])) τ):PC 8 [.agg (aS e1),.list (List.map qE.cells bK)] τ Q:=by
 unfold alA at hf; refine BN 35 [.cell 4 37,.tmp 5] [0,1] Tryz.func8 Z Z Z Z Z (W 1 Z (AS Z (AO.aH Z acT (fun b4=>?_)))); refine B1 hf fun f1 h1 hf=>U 2 Z (CL Z (an8 _ h1 (J 3 Z (C hf Z (fun h2 hf=>?_) fun h2 hf=>?_))))
 · cases hf; exact Wx 4 [0] rfl rfl ⟨rfl,_,⟨_,_,rfl,⟨_,_,0,_,_,rfl,rfl,mX,rfl⟩,_,_,rfl,rfl,rfl⟩,[],List.nil_sublist _,h⟩
 refine B1 hf fun f2 h3 hf=>W 1 Z (CL Z (qY _ h3 (J 3 Z (C hf Z (fun h4 hf=>?_) fun h4 hf=>?_))))
 · cases hf; exact Wx 4 [0] rfl rfl ⟨rfl,_,⟨_,_,rfl,⟨_,_,0,_,_,rfl,rfl,mX,rfl⟩,_,_,rfl,rfl,rfl⟩,[],List.nil_sublist _,h⟩
 obtain ⟨x1,f3,h5,hf⟩:=aY hf; refine W 2 Z (CL Z (apy _ _ h5 (U 3 Z (AS Z (AO.aH Z acT (fun b8=>(Rw 4 [0] Z Z (C hf Z (fun h6 hf=>?_) fun h6 hf=>?_))))))))
 · cases hf; exact Wx 4 [1] rfl rfl ⟨rfl,_,⟨_,_,rfl,⟨_,_,1,_,_,rfl,rfl,mX,rfl⟩,_,_,rfl,rfl,rfl⟩,[],List.nil_sublist _,h⟩
 refine V 0 Z (AW.draw 3 mixed (by kernel_rfl) Z ?_); refine Ev.cons Z Z Z (AO.bV (i:=0) Z Z Z mX Z Z zg) ?_; refine B1 hf fun x2 h7 hf=>Ev.cons Z Z Z (AO.call Z _ Z Z aot (Xw _ h7 zg)) ?_; refine B1 hf fun x3 h8 hf=>Ev.cons Z Z Z (AO.call Z _ Z Z ajz (alZ _ _ h8 zg)) (Ev.nil ?_); show AR _ _ _ _ _ _ _ _
 cases hf; exact Rx 2 [1] rfl rfl ⟨rfl,_,⟨_,_,rfl,⟨_,_,1,_,_,rfl,rfl,mX,rfl⟩,_,_,rfl,rfl,rfl⟩,[],List.nil_sublist _,h⟩

theorem aoW (t1:b_) {r0:Str} (hf:amY t1=some r0) (h:Q (.ret (.str r0)) τ):PC 35 [.agg (ajJ t1)] τ Q:=by
 unfold amY at hf; refine BN 30 [.tmp 2] [0] Tryz.func35 Z Z Z Z Z (W 0 Z (AS Z (AO.abz Z Z (fun b1=>?_)))); refine B1 hf fun x1 h1 hf=>Rr 2 [0] Z Z (CL Z (ali _ h1 (J 1 Z (C hf Z (fun h2 hf=>?_) fun h2 hf=>?_))))
 · cases hf; exact M 1 Z (Y Z h)
 refine V 2 Z (Vf (fun s1 Ak t2=>[(1,pP b1),(3,.str s1),(4,.str Ak)]) (fun s1 Ak t2=>[.box b1 (ajJ t2)]) (fun bW s1 Ak t2=>alI bW s1 Ak t2=some r0) BIG ([]:Str) ([]:Str) t1 Z Z hf (fun _ _ _ hz=>bQ hz) ?_); intro bW s1 Ak t2 hf; rw [alI] at hf; refine B1 hf fun x2 h3 hf=>Wr 2 [0] Z Z (CL Z (akh _ h3 (J 0 Z (C hf Z (fun h4 hf=>?_) fun h4 hf=>?_))))
 · refine B1 hf fun x3 h5 hf=>Wr 3 [0] Z Z (CL Z (amD _ h5 ?_)); refine B1 hf fun x4 h6 hf=>AS Z (AO.kN h6 Z Z Z ?_); refine B1 hf fun s2 h7 hf=>AS Z (AO.kN h7 Z Z Z ?_); refine B1 hf fun aug h8 hf=>U 2 Z (AS Z (AO.kN h8 Z Z Z ?_)); refine B1 hf fun e1 h9 hf=>Rr 3 [0] Z Z (AS Z (AO.aM h9 Z Z (b_.aB _) Z yX (b_.aG _) Z ?_)); exact Rx 2 [0] Z Z ⟨s2,aug,e1,Z,Z,Z,hf⟩
 refine B1 hf fun x5 h10 hf=>Wr 3 [0] Z Z (CL Z (amD _ h10 ?_)); refine B1 hf fun x6 h11 hf=>AS Z (AO.kN h11 Z Z Z ?_); replace hf:=(aJ _).trans hf; refine B1 hf fun x7 h12 hf=>U 1 Z (AS Z (AO.kN h12 Z Z Z ?_)); cases hf; exact N 1 Z (Y Z h)

section
variable [Ay]
theorem alW (fZ:Str) (bK:List qE) {r0:Str} {r1:Int} (hf:al9 fZ bK=some (r0,r1)) (h:Q (.ret (.tuple [.str r0,iP r1])) τ):PC 15 [.str fZ,.list (List.map qE.cells bK)] τ Q:=by
 unfold al9 at hf; refine BN 31 [.tmp 4,.tmp 5] [0,1] Tryz.func15 Z Z Z Z Z ?_; obtain ⟨x1,x2,f1,h1,hf⟩:=sN hf; refine W 3 Z (CL Z (JB _ h1 (U 4 Z (AS Z (AO.aH Z kS (fun b6=>(Rw 5 [0] Z Z (C hf Z (fun h2 hf=>?_) fun h2 hf=>?_))))))))
 · cases hf; exact M 3 rfl ⟨rfl,_,⟨_,_,rfl,rfl,_,_,rfl,rfl,rfl⟩,[],List.nil_sublist _,h⟩
 obtain ⟨x3,f2,h3,hf⟩:=aY hf; refine Wr 2 [0] Z Z (CL Z (anP _ _ h3 (U 3 Z (AS Z (AO.aH Z acT (fun b9=>(Rw 4 [0] Z Z (C hf Z (fun h4 hf=>?_) fun h4 hf=>?_))))))))
 · cases hf; exact M 3 rfl ⟨rfl,_,⟨_,_,rfl,rfl,_,_,rfl,rfl,rfl⟩,[],List.nil_sublist _,h⟩
 refine B1 hf fun x4 h5 hf=>Wr 1 [0] Z Z (CL Z (aoW _ h5 ?_)); cases hf; exact N 3 rfl ⟨rfl,_,⟨_,_,rfl,rfl,_,_,rfl,rfl,rfl⟩,[],List.nil_sublist _,h⟩
end

section
variable [Ay]
theorem akp {r0:Bool} (hf:akr=some r0) (h:Q (.ret (.bool r0)) τ):PC 6 [] τ Q:=by
 unfold akr at hf; refine BN 113 [.tmp 0] [] Tryz.func6 rfl rfl rfl rfl rfl (W 5 rfl (AS rfl (AO.bq (List.map qE.cells [(qE.mk ([110]:Str) (b_.mk 3 [])),(qE.mk ([120]:Str) (b_.mk 2 []))]) rfl apJ rfl rfl rfl (by first | rfl | simp only [List.map,qE.aG]) ?_))); refine U 1 Z (AS Z (AO.bq (List.map lg ([34]:List UInt8)) Z aqI Z Z Z Z (AS Z (AO.oC Z auE zK cu Z Z ?_)))); refine B1 hf fun x1 h1 hf=>U 2 Z (AS Z (AO.kN h1 Z Z Z ?_)); refine B1 hf fun a1 h2 hf=>U 1 Z (AS Z (AO.kN h2 Z Z Z ?_))
 refine B1 hf fun x2 h3 hf=>U 2 Z (AS Z (AO.kN h3 Z Z Z ?_)); refine B1 hf fun x3 h4 hf=>AS Z (AO.kN h4 Z Z Z ?_); obtain ⟨s1,e1,h5,hf⟩:=aY hf; refine U 1 Z (CL Z (alW _ _ h5 ?_)); refine B1 hf fun x4 h6 hf=>U 6 Z (AS Z (AO.kN h6 Z Z Z ?_)); refine B1 hf fun x5 h7 hf=>AS Z (AO.kN h7 Z Z Z ?_); obtain ⟨t1,f1,h8,hf⟩:=aY hf; refine U 1 Z (CL Z (alW _ _ h8 ?_)); refine B1 hf fun x6 h9 hf=>U 6 Z (AS Z (AO.kN h9 Z Z Z ?_)); refine B1 hf fun x7 h10 hf=>AS Z (AO.kN h10 Z Z Z ?_)
 obtain ⟨u1,g1,h11,hf⟩:=aY hf; refine U 1 Z (CL Z (alW _ _ h11 ?_)); refine B1 hf fun x8 h12 hf=>U 6 Z (AS Z (AO.kN h12 Z Z Z ?_)); obtain ⟨x9,hx1,jq,hf⟩:=aY hf; refine U 1 Z (CL Z (alW _ _ jq ?_)); obtain ⟨CO,xO,kg,hf⟩:=aY hf; refine U 6 Z (CL Z (alW _ _ kg ?_)); refine B1 hf fun KP kC hf=>U 6 Z (AS Z (AO.kN kC Z Z Z ?_)); obtain ⟨v1,m1,h16,hf⟩:=aY hf
 refine U 1 Z (CL Z (alW _ _ h16 (U 8 Z (An 3 72 75 [1,6,7,8,9,11,13,14,15] (e1 == 0) Z Z Z Z (U 1 Z (An 3 76 79 [1,7,8,9,11,13,14,15] (t1 == ([108,105,115,116,40,97,110,121,41]:Str)) Z Z Z Z (U 1 Z (An 3 80 83 [1,8,9,11,13,14,15] (f1 == 0) Z Z Z Z ?_))))))))
 refine U 1 Z (An 3 84 87 [1,9,11,13,14,15] (u1 == ([105,110,116]:Str)) Z Z Z Z (U 1 Z (An 3 88 91 [1,11,13,14,15] (g1 == 0) Z Z Z Z (U 1 Z (An 3 92 95 [1,13,14,15] (hx1 == 9) Z Z Z Z (U 1 Z (An 3 96 99 [1,14,15] (xO == 10) Z Z Z Z ?_))))))); refine U 1 Z (An 3 100 103 [1,15] (v1 == ([97,110,121]:Str)) Z Z Z Z (U 1 Z (An 3 104 107 [1] (m1 == 0) Z Z Z Z ?_))); replace hf:=(aJ _).trans hf; refine B1 hf fun b1 h27 hf=>U 1 Z (AR.eX 4 108 112 true [] b1 Z Z (fun PI=>?_) (fun PI=>?_) ?_)
 · replace h27:=eD PI h27; refine Is 108 PI Z ?_; obtain ⟨TU,Xb,h27⟩:=aN h27; refine U 1 Z (GO Z (AO.call Z _ Z Z agT (an8 _ Xb ?_))); obtain rfl:=Option.some.inj h27; exact eU 2 Z (En [112] Z)
 · replace h27:=eF PI h27; refine Is 108 PI Z ?_; obtain rfl:=Option.some.inj h27; exact eU 4 Z (En [112] Z)
 cases hf; exact N 1 Z (Y Z h)
end

theorem akA (EC:Int) {r0:b_} (hf:aij EC=some r0) (h:Q (.ret (.agg (ajJ r0))) τ):PC 37 [iP EC] τ Q:=by
 unfold aij at hf; refine BN 5 [.cell 2 37] [0] Tryz.func37 Z Z Z Z Z (W 0 Z (AS Z (AO.aH Z acT (fun b2=>?_)))); cases hf; exact Rx 3 [0] Z Z (ZC [0] Z Z h)

theorem an7 (EC:Int) {r0:Bool} (hf:Uv EC=some r0) (h:Q (.ret (.bool r0)) τ):PC 78 [iP EC] τ Q:=by
 unfold Uv at hf; refine BN 9 [.tmp 2] [0] Tryz.func78 Z Z Z Z Z (W 4 Z (On 3 5 8 [] (EC == 6) Z Z Z Z ?_)); cases hf; exact N 1 Z (Y Z h)

theorem akH (EC:Int) (t1:b_) {r0:b_} (hf:af3 EC t1=some r0) (h:Q (.ret (.agg (ajJ r0))) τ):PC 77 [iP EC,.agg (ajJ t1)] τ Q:=by
 unfold af3 at hf; refine BN 9 [.cell 4 37] [0,1] Tryz.func77 rfl rfl rfl rfl rfl (W 1 rfl (AS rfl (AO.aH rfl acT (fun b4=>(U 2 rfl (AS rfl (AO.bq (b_.bn [t1]) rfl akN rfl rfl rfl (by first | rfl | simp only [List.map,b_.aG,b_.bn]) ?_))))))); cases hf; exact Rx 2 [0] Z Z (ZC [0] Z Z h)


abbrev aoM (alG:b_→b_→Option b_):Prop:=∀ (wR:b_) (wQ:b_) {aU:b_},alG wR wQ=some aU→∀ {τ:List bE} {Q:eZ→List bE→Prop} (h:Q (.ret (.agg (ajJ aU))) τ),PC 41 [.agg (ajJ wR),.agg (ajJ wQ)] τ Q
theorem ap9 (alG) (apm:aoM alG) (a1:b_) (b1:b_) {r0:b_} (hf:alx alG a1 b1=some r0) (h:Q (.ret (.agg (ajJ r0))) τ):PC 41 [.agg (ajJ a1),.agg (ajJ b1)] τ Q:=by
 unfold alx at hf; refine BN 35 [.cell 4 37] [0,1] Tryz.func41 Z Z Z Z Z (W 2 Z (AS Z (AO.aH Z acT (fun b4=>(J 3 Z (C hf Z (fun h1 hf=>?_) fun h1 hf=>?_))))))
 · cases hf; exact Wx 2 [0] Z Z (ZC [0] Z Z h)
 refine V 3 Z (C hf Z (fun h2 hf=>?_) fun h2 hf=>?_)
 · cases hf; exact Wx 2 [0] Z Z (ZC [0] Z Z h)
 refine V 5 Z (C hf Z (fun h3 hf=>?_) fun h3 hf=>?_)
 · replace hf:=(aJ _).trans hf; refine B1 hf fun x1 h4 hf=>W 0 Z (CL Z (akA _ h4 ?_)); cases hf; exact Rx 1 [0] Z Z (ZC [0] Z Z h)
 refine B1 hf fun x2 h5 hf=>W 2 Z (CL Z (an7 _ h5 (J 0 Z (C hf Z (fun h6 hf=>?_) fun h6 hf=>?_))))
 ·
  refine V 0 Z (AW.draw 12 mixed (by kernel_rfl) Z ?_); refine Ev.cs aP 4 Z ?_; refine B1 hf fun e1 h7 hf=>Ev.cons Z Z Z (AO.aM h7 Z Z (b_.aB _) Z yX (b_.aG _) Z zg) (Ev.cs aP 3 Z ?_); refine B1 hf fun e2 h8 hf=>Ev.cons Z Z Z (AO.aM h8 Z Z (b_.aB _) Z yX (b_.aG _) Z zg) (Ev.cs aP 1 Z ?_); refine B1 hf fun x3 h9 hf=>Ev.cons Z Z Z (AO.call Z _ Z Z agO (apm _ _ h9 zg)) ?_; replace hf:=(aJ _).trans hf
  refine B1 hf fun x4 h10 hf=>Ev.cons Z Z Z (AO.call Z _ Z Z ajs (akH _ _ h10 zg)) (Ev.nil ?_); show AR _ _ _ _ _ _ _ _
  cases hf; exact Rx 1 [0] Z Z (ZC [0] Z Z h)
 cases hf; exact Wx 2 [0] Z Z (ZC [0] Z Z h)
theorem aqg :∀ k:Nat,(aoM (akE k)):=by
 intro k
 induction k with
 | zero=>exact fun _ _ _ hz=>by first | cases hz | (unfold akE at hz; cases hz)
 | succ k ih=>exact fun wR wQ aU hz τ Q hq=>ap9 (akE k) ih wR wQ hz hq
theorem aoF (wR:b_) (wQ:b_) {aU:b_} (hf:am0 wR wQ=some aU) (h:Q (.ret (.agg (ajJ aU))) τ):PC 41 [.agg (ajJ wR),.agg (ajJ wQ)] τ Q:=
 ((aqg BIG)) wR wQ hf h


abbrev ap2 (akZ:ah→Option b_):Prop:=∀ (rZ:ah) {aU:b_},akZ rZ=some aU→∀ {τ:List bE} {Q:eZ→List bE→Prop} (h:Q (.ret (.agg (ajJ aU))) τ),PC 38 [.agg (aF rZ)] τ Q
theorem arq (akZ) (aqn:ap2 akZ) (v1:ah) {r0:b_} (hf:anA akZ v1=some r0) (h:Q (.ret (.agg (ajJ r0))) τ):PC 38 [.agg (aF v1)] τ Q:=by
 unfold anA at hf; refine BN 42 [.cell 2 37] [0] Tryz.func38 Z Z Z Z Z (W 1 Z (AS Z (AO.aH Z acT (fun b2=>(J 4 Z (C hf Z (fun h1 hf=>?_) fun h1 hf=>?_))))))
 · replace hf:=(aJ _).trans hf; refine B1 hf fun x1 h2 hf=>W 0 Z (CL Z (akA _ h2 ?_)); cases hf; exact Rx 1 [0] Z Z (ZC [0] Z Z h)
 refine V 2 Z (C hf Z (fun h3 hf=>?_) fun h3 hf=>?_)
 · replace hf:=(aJ _).trans hf; refine B1 hf fun x2 h4 hf=>W 0 Z (CL Z (akA _ h4 ?_)); cases hf; exact Rx 1 [0] Z Z (ZC [0] Z Z h)
 refine V 2 Z (C hf Z (fun h5 hf=>?_) fun h5 hf=>?_)
 · replace hf:=(aJ _).trans hf; refine B1 hf fun x3 h6 hf=>W 0 Z (CL Z (akA _ h6 ?_)); cases hf; exact Rx 1 [0] Z Z (ZC [0] Z Z h)
 refine V 2 Z (C hf Z (fun h7 hf=>?_) fun h7 hf=>?_)
 · replace hf:=(aJ _).trans hf; refine B1 hf fun x4 h8 hf=>W 0 Z (CL Z (akA _ h8 ?_)); cases hf; exact Rx 1 [0] Z Z (ZC [0] Z Z h)
 refine B1 hf fun x5 h9 hf=>W 0 Z (CL Z (akA _ h9 (AS Z (AO.aH Z acT (fun b3=>(Rw 2 [0] Z Z (Zf (fun i1 t1=>[(1,.ref (aF v1)),(2,pP b2),(3,pP b3),(4,iP i1)]) (fun i1 t1=>[.box b3 (ajJ t1),.box b2 [iP 0,.own (.slice none 0 0) []]]) (fun bW i1 t1=>amG akZ v1 bW i1 t1=some r0) BIG 0 x5 Z Z hf (fun _ _ hz=>bQ hz) ?_))))))); intro bW i1 t1 hf; rw [amG] at hf
 refine W 3 Z (AS Z (AO.aL (l:=v1.aI) Z Z Z Z dN Z (ah.aB _) (J 1 Z (C hf Z (fun h10 hf=>?_) fun h10 hf=>?_))))
 ·
  refine V 0 Z (AW.draw 8 mixed (by kernel_rfl) Z ?_); refine Ev.cons Z Z Z (AO.bV (i:=0) Z Z Z mX Z Z zg) (Ev.cs aP 3 Z ?_); refine B1 hf fun e1 h11 hf=>Ev.cons Z Z Z (AO.aM h11 Z Z (ah.aB _) Z dN (ah.aG _) Z zg) (Ev.cs aP 1 Z ?_); refine B1 hf fun x6 h12 hf=>Ev.cons Z Z Z (AO.call Z _ Z Z auN (aqn _ h12 zg)) ?_; refine B1 hf fun x7 jq hf=>Ev.cons Z Z Z (AO.call Z _ Z Z agO (aoF _ _ jq zg)) (Ev.nil ?_); show AR _ _ _ _ _ _ _ _
  exact Rx 4 [0] Z Z ⟨(bS (i1 + 1)),x7,Z,Z,Z,hf⟩
 refine V 3 Z (C hf Z (fun kg hf=>?_) fun kg hf=>?_)
 · replace hf:=(aJ _).trans hf; refine B1 hf fun x8 kC hf=>Wr 1 [0] Z Z (CL Z (akH _ _ kC ?_)); cases hf; exact Rx 1 [1] Z Z (ZC [1] Z Z h)
 replace hf:=(aJ _).trans hf; refine B1 hf fun x9 h16 hf=>Wr 1 [0] Z Z (CL Z (akH _ _ h16 ?_)); cases hf; exact Rx 1 [1] Z Z (ZC [1] Z Z h)
theorem arZ :∀ k:Nat,(ap2 (alK k)):=by
 intro k
 induction k with
 | zero=>exact fun _ _ hz=>by first | cases hz | (unfold alK at hz; cases hz)
 | succ k ih=>exact fun rZ aU hz τ Q hq=>arq (alK k) ih rZ hz hq
theorem ase (rZ:ah) {aU:b_} (hf:aqc rZ=some aU) (h:Q (.ret (.agg (ajJ aU))) τ):PC 38 [.agg (aF rZ)] τ Q:=
 ((arZ BIG)) rZ hf h

theorem apW (v1:ah) {r0:b_} (hf:anT v1=some r0) (h:Q (.ret (.agg (ajJ r0))) τ):PC 17 [.agg (aF v1)] τ Q:=by
 unfold anT at hf; refine BN 9 [.cell 2 37] [0] Tryz.func17 Z Z Z Z Z (W 1 Z (AS Z (AO.aH Z acT (fun b2=>?_)))); refine B1 hf fun x1 h1 hf=>U 1 Z (CL Z (ER _ h1 (J 1 Z (C hf Z (fun h2 hf=>?_) fun h2 hf=>?_))))
 · replace hf:=(aJ _).trans hf; refine B1 hf fun x2 h3 hf=>W 0 Z (CL Z (akA _ h3 ?_)); cases hf; exact Rx 1 [0] Z Z (ZC [0] Z Z h)
 replace hf:=(aJ _).trans hf; refine B1 hf fun x3 h4 hf=>W 1 Z (CL Z (ase _ h4 ?_)); cases hf; exact Rx 1 [0] Z Z (ZC [0] Z Z h)


abbrev an_ (Wn:b_→Int→Option Int):Prop:=∀ (ut1:b_) (gI:Int) {aU:Int},Wn ut1 gI=some aU→∀ {τ:List bE} {Q:eZ→List bE→Prop} (h:Q (.ret (iP aU)) τ),PC 39 [.agg (ajJ ut1),iP gI] τ Q
theorem apC (Wn) (aoT:an_ Wn) (t1:b_) (bP:Int) {r0:Int} (hf:Oo Wn t1 bP=some r0) (h:Q (.ret (iP r0)) τ):PC 39 [.agg (ajJ t1),iP bP] τ Q:=by
 unfold Oo at hf; refine BN 34 [.tmp 4] [0,1] Tryz.func39 Z Z Z Z Z (V 4 Z (C hf Z (fun h1 hf=>?_) fun h1 hf=>?_))
 · cases hf; exact M 1 Z (Y Z h)
 refine W 4 Z (On 4 10 14 [1,2] (decide (7 < t1.kind)) Z Z Z Z (J 0 Z (C hf Z (fun h3 hf=>?_) fun h3 hf=>?_)))
 · cases hf; exact M 1 Z (Y Z h)
 refine B1 hf fun x1 h4 hf=>W 2 Z (CL Z (an7 _ h4 (J 1 Z (C hf Z (fun h5 hf=>?_) fun h5 hf=>?_))))
 ·
  refine W 2 Z (AS Z (AO.aL (l:=t1.elem) Z Z Z Z yX Z (b_.aB _) (J 1 Z (C hf Z (fun h6 hf=>?_) fun h6 hf=>?_))))
  · cases hf; exact M 1 Z (Y Z h)
  cases hf; exact M 1 Z (Y Z h)
 refine W 2 Z (AS Z (AO.aL (l:=t1.elem) Z Z Z Z yX Z (b_.aB _) (J 1 Z (C hf Z (fun h7 hf=>?_) fun h7 hf=>?_))))
 · cases hf; exact M 1 Z (Y Z h)
 refine B1 hf fun e1 h8 hf=>W 2 Z (AS Z (AO.aM h8 Z Z (b_.aB _) Z yX (b_.aG _) Z ?_)); replace hf:=(aJ _).trans hf; refine B1 hf fun x2 h9 hf=>U 3 Z (CL Z (aoT _ _ h9 ?_)); cases hf; exact N 1 Z (Y Z h)
theorem apM :∀ k:Nat,(an_ (Er k)):=by
 intro k
 induction k with
 | zero=>exact fun _ _ _ hz=>by first | cases hz | (unfold Er at hz; cases hz)
 | succ k ih=>exact fun ut1 gI aU hz τ Q hq=>apC (Er k) ih ut1 gI hz hq
theorem apV (ut1:b_) (gI:Int) {aU:Int} (hf:ab7 ut1 gI=some aU) (h:Q (.ret (iP aU)) τ):PC 39 [.agg (ajJ ut1),iP gI] τ Q:=
 ((apM BIG)) ut1 gI hf h

theorem amd (t1:b_) {r0:Int} (hf:Nf t1=some r0) (h:Q (.ret (iP r0)) τ):PC 18 [.agg (ajJ t1)] τ Q:=by
 unfold Nf at hf; refine BN 5 [.tmp 2] [0] Tryz.func18 Z Z Z Z Z ?_; replace hf:=(aJ _).trans hf; refine B1 hf fun x1 h1 hf=>W 3 Z (CL Z (apV _ _ h1 ?_)); cases hf; exact N 1 Z (Y Z h)

theorem aqB (a1:b_) (b1:b_) {r0:Bool} (hf:anB a1 b1=some r0) (h:Q (.ret (.bool r0)) τ):PC 40 [.agg (ajJ a1),.agg (ajJ b1)] τ Q:=by
 unfold anB at hf; refine BN 13 [.tmp 4] [0,1] Tryz.func40 Z Z Z Z Z ?_; refine B1 hf fun x1 h1 hf=>W 4 Z (CL Z (amd _ h1 ?_)); replace hf:=(aJ _).trans hf; refine B1 hf fun b2 h3 hf=>U 2 Z (AR.eX 4 8 12 true [] b2 Z Z (fun h2=>?_) (fun h2=>?_) ?_)
 · replace h3:=eD h2 h3; refine Is 8 h2 Z ?_; obtain ⟨x2,h4,h3⟩:=aN h3; refine U 1 Z (GO Z (AO.call Z _ Z Z agS (amd _ h4 ?_))); obtain rfl:=Option.some.inj h3; exact eU 2 Z (En [12] Z)
 · replace h3:=eF h2 h3; refine Is 8 h2 Z ?_; obtain rfl:=Option.some.inj h3; exact eU 4 Z (En [12] Z)
 cases hf; exact N 1 Z (Y Z h)

theorem amU (a1:b_) (b1:b_) {r0:b_} (hf:alo a1 b1=some r0) (h:Q (.ret (.agg (ajJ r0))) τ):PC 19 [.agg (ajJ a1),.agg (ajJ b1)] τ Q:=by
 unfold alo at hf; refine BN 13 [.cell 4 37] [0,1] Tryz.func19 Z Z Z Z Z (W 2 Z (AS Z (AO.aH Z acT (fun b4=>?_)))); refine B1 hf fun x1 h1 hf=>U 2 Z (CL Z (aqB _ _ h1 (J 1 Z (C hf Z (fun h2 hf=>?_) fun h2 hf=>?_))))
 · replace hf:=(aJ _).trans hf; refine B1 hf fun x2 h3 hf=>W 0 Z (CL Z (akA _ h3 ?_)); cases hf; exact Rx 1 [0] Z Z (ZC [0] Z Z h)
 replace hf:=(aJ _).trans hf; refine B1 hf fun x3 h4 hf=>W 2 Z (CL Z (aoF _ _ h4 ?_)); cases hf; exact Rx 1 [0] Z Z (ZC [0] Z Z h)

theorem aoG (gY:List av) (ajY:List b_) {r0:List qE} (hf:alL gY ajY=some r0) (h:Q (.ret (.list (List.map qE.cells r0))) τ):PC 7 [.list (List.map av.cells gY),.list (b_.bn ajY)] τ Q:=by
 unfold alL at hf; refine BN 49 [.tmp 4] [0,1] Tryz.func7 Z Z Z Z Z (W 0 Z (AS Z (AO.nR Z Z (J 2 Z (AW.row 3 52 (Vf (fun l1 v1 i1=>[(0,.list (List.map av.cells gY)),(1,.list (b_.bn ajY)),(5,.own v1 (List.map qE.cells l1)),(6,iP i1)]) (fun l1 v1 i1=>[.row v1 (List.map qE.cells l1).length 3 52]) (fun bW l1 v1 i1=>ai1 gY ajY bW l1 i1=some r0) BIG [] (.slice none 0 0) 0 Z Z hf (fun _ _ _ hz=>bQ hz) ?_)))))); intro bW l1 v1 i1 hf; rw [ai1] at hf
 refine W 2 Z (AS Z (AO.aL (l:=gY) Z Z Z Z kW Z Z (J 1 Z (C hf Z (fun h1 hf=>?_) fun h1 hf=>?_))))
 ·
  refine B1 hf fun e1 h2 hf=>W 2 Z (AS Z (AO.aM h2 Z Z Z Z kW (av.aG _) Z ?_)); refine B1 hf fun x1 h3 hf=>U 2 Z (CL Z (apW _ h3 (AS Z (AO.aH Z acT (fun b7=>(Rr 3 [0] Z Z (AS Z (AO.aL (l:=ajY) Z Z Z Z yX Z (b_.aB _) ?_)))))))); refine B1 hf fun b1 h5 hf=>U 2 Z (AR.eX 7 24 31 true [0,1,5,6,7] b1 Z Z (fun h4=>?_) (fun h4=>?_) ?_)
  · replace h5:=eD h4 h5; refine Is 24 h4 Z ?_; obtain ⟨e2,h6,h5⟩:=aN h5; refine U 2 Z (GO Z (AO.aM h6 Z Z (b_.aB _) Z yX (b_.aG _) Z ?_)); obtain ⟨x2,h7,h5⟩:=aN h5; refine U 1 Z (GO Z (AO.call Z _ Z Z agS (amd _ h7 ?_))); obtain rfl:=Option.some.inj h5; exact eU 2 Z (En [31,0,1,5,6,7] Z)
  · replace h5:=eF h4 h5; refine Is 24 h4 Z ?_; obtain rfl:=Option.some.inj h5; exact eU 7 Z (En [31,0,1,5,6,7] Z)
  refine J 0 Z (C hf Z (fun h8 hf=>?_) fun h8 hf=>?_)
  ·
   refine AW.draw 6 mixed (by kernel_rfl) Z ?_; refine Ev.cons Z Z Z (AO.bV (i:=0) Z Z Z mX Z Z zg) (Ev.cs aP 2 Z ?_); refine B1 hf fun e3 h9 hf=>Ev.cons Z Z Z (AO.aM h9 Z Z (b_.aB _) Z yX (b_.aG _) Z zg) (Ev.cs aP 1 Z ?_); refine B1 hf fun x3 h10 hf=>Ev.cons Z Z Z (AO.call Z _ Z Z agR (amU _ _ h10 zg)) (Ev.nil ?_); show AR _ _ _ _ _ _ _ _
   refine Rw 1 [0] Z Z (AW.draw 9 mixed (by kernel_rfl) Z ?_); refine Ev.cs aP 3 Z ?_; refine B1 hf fun e4 h11 hf=>Ev.cons Z Z Z (AO.aM h11 Z Z Z Z kW (av.aG _) Z zg) (Ev.cs aP 2 Z (Ev.cons Z Z Z (AO.bV (i:=0) Z Z Z mX Z Z zg) (Ev.cons Z Z Z (AO.build Z aqE arA Z zg) ?_))); refine Ev.cons rfl rfl rfl (AO.bq (List.map qE.cells [(qE.mk e4.name x3)]) rfl apJ rfl rfl rfl (by first | rfl | simp only [List.map,qE.aG]) ⟨rfl,rfl⟩) ?_; refine Ev.nil ?_
   show AR _ _ _ _ _ _ _ _
   refine B1 hf fun l2 h12 hf=>AS Z (AO.eP (i:=1) (l:=l1) (m:=[(qE.mk e4.name x3)]) h12 Z Z Z Z Z Z Z apJ amf Z Z Z (qE.dV) (qE.cells_one) (by decide) (fun v2 s1 hs1=>?_)); cases hs1; refine eU 4 Z (AR.drop1 ?_); exact N 0 Z ⟨l2,v2,(bS (i1 + 1)),Z,Z,Z,hf⟩
  refine V 0 Z (AW.draw 9 mixed (by kernel_rfl) Z ?_); refine Ev.cs aP 3 Z ?_; refine B1 hf fun e5 jq hf=>Ev.cons Z Z Z (AO.aM jq Z Z Z Z kW (av.aG _) Z zg) (Ev.cs aP 2 Z (Ev.cons Z Z Z (AO.bV (i:=0) Z Z Z mX Z Z zg) (Ev.cons Z Z Z (AO.build Z aqE arA Z zg) ?_))); refine Ev.cons rfl rfl rfl (AO.bq (List.map qE.cells [(qE.mk e5.name x1)]) rfl apJ rfl rfl rfl (by first | rfl | simp only [List.map,qE.aG]) ⟨rfl,rfl⟩) ?_; refine Ev.nil ?_
  show AR _ _ _ _ _ _ _ _
  refine B1 hf fun l3 kg hf=>AS Z (AO.eP (i:=1) (l:=l1) (m:=[(qE.mk e5.name x1)]) kg Z Z Z Z Z Z Z apJ amf Z Z Z (qE.dV) (qE.cells_one) (by decide) (fun v3 s2 hs2=>?_)); cases hs2; refine eU 4 Z (AR.drop1 ?_); exact N 0 Z ⟨l3,v3,(bS (i1 + 1)),Z,Z,Z,hf⟩
 cases hf; exact M 2 Z (Y Z h)

theorem Av (bK:List av) {r0:Int} (hf:wM bK=some r0) (h:Q (.ret (iP r0)) τ):PC 57 [.list (List.map av.cells bK)] τ Q:=by
 unfold wM at hf; refine BN 39 [.tmp 2] [0] Tryz.func57 Z Z Z Z Z (W 2 Z (AS Z (AO.aL (l:=bK) Z Z Z Z kW Z Z (J 1 Z (C hf Z (fun h1 hf=>?_) fun h1 hf=>?_)))))
 · cases hf; exact M 1 Z (Y Z h)
 refine W 0 Z (AS Z (AO.Yh Z (fun m10=>(U 2 Z (AS Z (AO.aL (l:=bK) Z Z Z Z kW Z Z (J 1 Z (Zf (fun x1 y1=>[(3,.val (.map (some m10))),(11,.list (List.map av.cells bK)),(12,iP (bK.length:Int)),(13,iP x1)]) (fun x1 y1=>[.obj m10 (xk y1)]) (fun bW x1 y1=>BL bK bW x1 y1=some r0) BIG 0 [] Z Z hf (fun _ _ hz=>bQ hz) ?_)))))))); intro bW x1 y1 hf; rw [BL] at hf; refine V 1 Z (C hf Z (fun h2 hf=>?_) fun h2 hf=>?_)
 ·
  refine B1 hf fun e1 h3 hf=>W 0 Z (AS Z (AO.aM h3 Z Z Z Z kW (av.aG _) Z (U 1 Z (AS Z (AO.aH Z apA (fun b5=>?_)))))); refine B1 hf fun x2 h4 hf=>Rr 4 [0,0] Z Z (CL Z (qY _ h4 (J 1 Z (C hf Z (fun h5 hf=>?_) fun h5 hf=>?_))))
  · cases hf; exact M 1 Z (Y Z h)
  refine B1 hf fun e2 h6 hf=>Wr 2 [0] Z Z (CL Z (om _ h6 (J 3 Z (C hf Z (fun h7 hf=>?_) fun h7 hf=>?_))))
  · cases hf; exact M 2 Z (Y Z h)
  refine Wr 3 [0] Z Z (AS Z (AO.Py (i:=1) (l:=y1) Z Z Z Z anD cu afc (U 1 Z (AR.fH Z Z (AO.QS (i:=1) (l:=y1) Z Z Z Z Z anD cu (Rr 3 [0] Z Z (AS Z (AO.Py (i:=1) (l:=(wE y1 e1.name (bS ((sV y1 e1.name) + 1)))) Z Z Z Z anD cu afc (J 1 Z (C hf Z (fun h8 hf=>?_) fun h8 hf=>?_))))))))))
  · cases hf; exact M 1 Z (Y Z h)
  refine Wn0 2 Z (AR.drop1 ?_); exact N 0 Z ⟨(bS (x1 + 1)),(wE y1 e1.name (bS ((sV y1 e1.name) + 1))),Z,Z,Z,hf⟩
 cases hf; exact M 1 Z (Y Z h)

theorem KE (e1:aj) (bK:List av) {r0:List av} {r1:Int} (hf:xQ e1 bK=some (r0,r1)) (h:Q (.ret (.tuple [.list (List.map av.cells r0),iP r1])) τ):PC 24 [.agg (aS e1),.list (List.map av.cells bK)] τ Q:=by
 unfold xQ at hf; refine BN 19 [.tmp 4,.tmp 5] [0,1] Tryz.func24 Z Z Z Z Z (W 1 Z (AS Z (AO.nR Z Z ?_))); refine B1 hf fun f1 h1 hf=>U 2 Z (CL Z (Av _ h1 (J 3 Z (C hf Z (fun h2 hf=>?_) fun h2 hf=>?_))))
 · refine W 1 Z (AS Z (AO.nR Z Z ?_)); cases hf; exact N 1 rfl ⟨rfl,_,⟨_,_,rfl,rfl,_,_,rfl,rfl,rfl⟩,[],List.nil_sublist _,h⟩
 refine B1 hf fun f2 h3 hf=>W 1 Z (CL Z (qY _ h3 (J 3 Z (C hf Z (fun h4 hf=>?_) fun h4 hf=>?_))))
 · refine W 1 Z (AS Z (AO.nR Z Z ?_)); cases hf; exact N 1 rfl ⟨rfl,_,⟨_,_,rfl,rfl,_,_,rfl,rfl,rfl⟩,[],List.nil_sublist _,h⟩
 cases hf; exact M 3 rfl ⟨rfl,_,⟨_,_,rfl,rfl,_,_,rfl,rfl,rfl⟩,[],List.nil_sublist _,h⟩

@[reducible] def Xg :fq aD Unit→eZ
 | .ok r=>.ret (.tuple [])
 | .bad e=>.panic (.iface 89 (.agg [iP e.code]))

theorem EU (e1:Int) {rX:fq aD Unit} (hf:Ah e1=some rX) (h:Q (Xg rX) τ):PC 122 [iP e1] τ Q:=by
 unfold Ah at hf; refine BN 5 [] [0] Tryz.func122 Z Z Z Z Z (W 2 Z (AS Z (AO.aa7 Z auU Z (AR.fH Z Z (AO.adW Z Z ?_))))); cases hf; exact ⟨Z,[],List.nil_sublist _,h⟩

@[reducible] def Lp :fq aD ah→eZ
 | .ok r=>.ret (.agg (aF r))
 | .bad e=>.panic (.iface 89 (.agg [iP e.code]))

theorem ES (s1:List av) (name1:Str) {rX:fq aD ah} (hf:sD s1 name1=some rX) (h:Q (Lp rX) τ):PC 88 [.list (List.map av.cells s1),.str name1] τ Q:=by
 unfold sD at hf; refine BN 22 [.cell 4 25] [0,1] Tryz.func88 Z Z Z Z Z (W 0 Z (AS Z (AO.aH Z eY (fun b4=>(U 1 Z (AS Z (AO.aL (l:=s1) Z Z Z Z atm Z Z (J 1 Z (Gc (fun x1=>[(1,.str name1),(4,pP b4),(7,.list (List.map av.cells s1)),(8,iP (s1.length:Int)),(9,iP x1)]) (fun x1=>[.box b4 [iP 0,.bool false,iP 0,.str ([]:Str),.own (.slice none 0 0) [],.own (.slice none 0 0) []]]) (fun bW x1=>oN s1 name1 bW x1=some rX) BIG 0 Z Z hf (fun _ hz=>bQ hz) ?_)))))))))
 intro bW x1 hf; rw [oN] at hf; refine V 1 Z (C hf Z (fun h1 hf=>?_) fun h1 hf=>?_)
 ·
  refine B1 hf fun e1 h2 hf=>W 0 Z (AS Z (AO.aM h2 Z Z Z Z atm (av.aG _) Z (U 1 Z (AS Z (AO.aH Z apA (fun b6=>(Rw 5 [0,0] Z Z (C hf Z (fun h3 hf=>?_) fun h3 hf=>?_))))))))
  · cases hf; exact Wx 3 [0,1] Z Z (ZC [1] Z Z h)
  refine Wn0 2 Z (AR.drop1 ?_); exact N 0 Z ⟨(bS (x1 + 1)),Z,Z,Z,hf⟩
 rcases bH hf with ⟨e2,h4,hf⟩ | ⟨_,h4,hf⟩
 · refine W 0 Z (CL Z (EU _ h4 ?_)); cases hf; exact ⟨Z,[],List.nil_sublist _,h⟩
 refine W 0 Z (CL Z (EU _ h4 ?_)); cases hf; exact Rx 2 [0] Z Z (ZC [0] Z Z h)

theorem uU (s1:Str) {r0:ah} (hf:mo s1=some r0) (h:Q (.ret (.agg (aF r0))) τ):PC 90 [.str s1] τ Q:=by
 unfold mo at hf; refine BN 5 [.cell 2 25] [0] Tryz.func90 Z Z Z Z Z (W 0 Z (AS Z (AO.aH Z eY (fun b2=>?_)))); cases hf; exact Rx 3 [0] Z Z (ZC [0] Z Z h)

theorem kE (v1:ah) (EC:Int) {r0:Bool} (hf:jg v1 EC=some r0) (h:Q (.ret (.bool r0)) τ):PC 123 [.agg (aF v1),iP EC] τ Q:=by
 unfold jg at hf; refine BN 9 [.tmp 4] [0,1] Tryz.func123 Z Z Z Z Z ?_; cases hf; exact M 7 Z (Y Z h)

@[reducible] def Xf :fq aD Unit→eZ
 | .ok r=>.ret (.tuple [])
 | .bad e=>.panic (.iface 89 (.agg [iP e.code]))

theorem bF (ok1:Bool) (e1:Int) {rX:fq aD Unit} (hf:eB ok1 e1=some rX) (h:Q (Xf rX) τ):PC 98 [.bool ok1,iP e1] τ Q:=by
 unfold eB at hf; refine BN 8 [] [0,1] Tryz.func98 Z Z Z Z Z (V 2 Z (C hf Z (fun h1 hf=>?_) fun h1 hf=>?_))
 ·
  rcases bH hf with ⟨e2,h2,hf⟩ | ⟨_,h2,hf⟩
  · refine W 1 Z (CL Z (EU _ h2 ?_)); cases hf; exact ⟨Z,[],List.nil_sublist _,h⟩
  refine W 1 Z (CL Z (EU _ h2 ?_)); cases hf; exact N 0 Z (ZN Z h)
 cases hf; exact M 0 Z (ZN Z h)

theorem Ar (s1:List Str) (v1:Str) {r0:Int} (hf:jy s1 v1=some r0) (h:Q (.ret (iP r0)) τ):PC 160 [sP s1,.str v1] τ Q:=by
 unfold jy at hf; refine BN 19 [.tmp 4] [0,1] Tryz.func160 Z Z Z Z Z (W 2 Z (AS Z (AO.aL (l:=s1) Z Z Z Z dO Z Z (J 1 Z (Gc (fun i1=>[(0,sP s1),(1,.str v1),(7,iP (s1.length:Int)),(8,iP i1)]) (fun i1=>[]) (fun bW i1=>iW s1 v1 bW i1=some r0) BIG 0 Z Z hf (fun _ hz=>bQ hz) ?_))))); intro bW i1 hf; rw [iW] at hf; refine V 1 Z (C hf Z (fun h1 hf=>?_) fun h1 hf=>?_)
 ·
  refine B1 hf fun e1 h2 hf=>W 5 Z (AS Z (AO.aM h2 Z Z Z Z dO Z Z (J 2 Z (C hf Z (fun h3 hf=>?_) fun h3 hf=>?_))))
  · cases hf; exact M 2 Z (Y Z h)
  exact M 2 Z ⟨(bS (i1 + 1)),Z,Z,Z,hf⟩
 cases hf; exact M 1 Z (Y Z h)

theorem Au (s1:List Str) {r0:List Str} (hf:kP s1=some r0) (h:Q (.ret (sP r0)) τ):PC 204 [sP s1] τ Q:=by
 unfold kP at hf; refine BN 8 [.tmp 2] [0] Tryz.func204 Z Z Z Z Z (W 0 Z (AS Z (AO.nR Z Z (U 1 Z (AS Z (AO.GY Z Z aji (fun b hb=>(J 0 Z (AW.cond Z (fun h1=>?_) (fun h1=>?_))))))))))
 · obtain rfl:s1=[]:=List.map_eq_nil_iff.1 (hb h1); obtain ⟨_,rfl⟩:=F8 hf; refine W 0 Z (AS Z (AO.nR Z Z ?_)); exact N 0 rfl ⟨rfl,_,⟨_,_,rfl,rfl,rfl⟩,_,List.Sublist.refl _,h⟩
 refine W 0 Z (AS Z (AO.wY [] Z kU Z Z Z Z Z (fun v1=>(U 1 Z (AS Z (AO.eP (i:=0) (l:=[]) (m:=s1) hf Z Z Z Z Z Z Z kU dO Z Z Z (fun _=>Z) (fun _=>Z) (by decide) (fun v2 s2 hs2=>?_))))))); cases hs2; exact N 1 Z (Y Z h)


abbrev KI (kK:ah→Option ah):Prop:=∀ (rZ:ah) {aU:ah},kK rZ=some aU→∀ {τ:List bE} {Q:eZ→List bE→Prop} (h:Q (.ret (.agg (aF aU))) τ),PC 161 [.agg (aF rZ)] τ Q
theorem SB (kK) (O_:KI kK) (v1:ah) {r0:ah} (hf:AA kK v1=some r0) (h:Q (.ret (.agg (aF r0))) τ):PC 161 [.agg (aF v1)] τ Q:=by
 unfold AA at hf; refine BN 28 [.cell 2 25] [0] Tryz.func161 Z Z Z Z Z (W 1 Z (AS Z (AO.aH Z eY (fun b2=>(U 1 Z (AS Z (AO.aH Z eY (fun b3=>?_)))))))); refine B1 hf fun x1 h1 hf=>Rr 3 [0] Z Z (CL Z (Au _ h1 (Rr 6 [0,0] Z Z (AS Z (AO.aL (l:=v1.aI) Z Z Z Z dN Z (ah.aB _) ?_)))))
 refine J 1 Z (AW.row 6 25 (Vf (fun x2 aT v2=>[(2,pP b2),(3,pP b3),(13,.list (ah.bn v1.aI)),(14,iP (v1.aI.length:Int)),(15,iP x2)]) (fun x2 aT v2=>[.row v2 (ah.bn aT.aI).length 6 25,.box b3 [iP aT.kind,.bool aT.dh,iP aT.bZ,.str aT.bI,.own v2 (ah.bn aT.aI),sP aT.keys],.box b2 [iP 0,.bool false,iP 0,.str ([]:Str),.own (.slice none 0 0) [],.own (.slice none 0 0) []]]) (fun bW x2 aT v2=>um kK v1 bW x2 aT=some r0) BIG 0 (ah.mk v1.kind v1.dh v1.bZ v1.bI [] x1) (.slice none 0 0) Z Z hf (fun _ _ _ hz=>bQ hz) ?_))
 intro bW x2 aT v2 hf; rw [um] at hf; refine V 1 Z (C hf Z (fun h2 hf=>?_) fun h2 hf=>?_)
 ·
  refine B1 hf fun e1 h3 hf=>W 0 Z (AS Z (AO.aM h3 Z Z (ah.aB _) Z dN (ah.aG _) Z (U 1 Z (AS Z (AO.aH Z eY (fun b5=>(Rw 1 [0] Z Z (AW.draw 5 mixed (by kernel_rfl) Z ?_)))))))); refine Ev.cs aP 1 Z (Ev.cons Z Z Z (AO.bV (i:=2) Z Z Z Oi Z Z zg) (Ev.cons Z Z Z (AO.bV (i:=0) Z Z Z bY Z Z zg) ?_)); refine B1 hf fun x3 h4 hf=>Ev.cons rfl rfl rfl (AO.call rfl _ rfl rfl arT (O_ _ h4 ⟨rfl,rfl⟩)) (Ev.cons rfl rfl rfl (AO.bq (ah.bn [x3]) rfl oW rfl rfl rfl (by first | rfl | simp only [List.map,ah.aG,ah.bn]) ⟨rfl,rfl⟩) ?_)
  refine Ev.nil ?_; show AR _ _ _ _ _ _ _ _
  refine B1 hf fun x4 h5 hf=>AS Z (AO.eP (i:=1) (l:=aT.aI) (m:=[x3]) h5 Z Z Z Z Z Z Z oW dN (ah.aB _) (ah.aB _) (ah.aB _).symm (ah.dV) (ah.cells_one) (by decide) (fun v3 s1 hs1=>?_)); cases hs1; refine Rn 4 [2] Z Z (AR.drop1 ?_); exact N 0 Z ⟨(bS (x2 + 1)),(ah.mk aT.kind aT.dh aT.bZ aT.bI x4 aT.keys),v3,Z,Z,Z,hf⟩
 cases hf; exact Wx 2 [1,2] Z Z (ZC [2] Z Z h)
theorem SS :∀ k:Nat,(KI (lu k)):=by
 intro k
 induction k with
 | zero=>exact fun _ _ hz=>by first | cases hz | (unfold lu at hz; cases hz)
 | succ k ih=>exact fun rZ aU hz τ Q hq=>SB (lu k) ih rZ hz hq
theorem KC (rZ:ah) {aU:ah} (hf:mU rZ=some aU) (h:Q (.ret (.agg (aF aU))) τ):PC 161 [.agg (aF rZ)] τ Q:=
 ((SS BIG)) rZ hf h

theorem Oy (v1:ah) (key1:Str) {r0:ah} {r1:Bool} (hf:zJ v1 key1=some (r0,r1)) (h:Q (.ret (.tuple [.agg (aF r0),.bool r1])) τ):PC 124 [.agg (aF v1),.str key1] τ Q:=by
 unfold zJ at hf; refine BN 32 [.cell 4 25,.tmp 5] [0,1] Tryz.func124 Z Z Z Z Z (W 1 Z (AS Z (AO.aH Z eY (fun b4=>?_)))); refine B1 hf fun i1 h1 hf=>U 4 Z (CL Z (Ar _ _ h1 (U 5 Z (On 3 14 17 [2,4,6] (decide (i1 < 0)) Z Z Z Z (U 1 Z (AR.or 6 18 24 [2,4,6] (x:=(decide ((v1.aI.length:Int)≤i1))) Z Z (fun h3=>?_) (fun h3=>?_) ?_))))))
 · refine Is 18 h3 Z (U 3 Z (GO Z (AO.aL (l:=v1.aI) Z Z Z Z dN Z (ah.aB _) ?_))); exact eU 2 Z (En [24,2,4,6] Z)
 · refine Is 18 h3 Z ?_; exact eU 6 Z (En [24,2,4,6] Z)
 refine J 0 Z (C hf Z (fun h4 hf=>?_) fun h4 hf=>?_)
 · cases hf; exact Wx 3 [0] rfl rfl ⟨rfl,_,⟨_,_,rfl,⟨_,_,0,_,_,rfl,rfl,bY,rfl⟩,_,_,rfl,rfl,rfl⟩,[],List.nil_sublist _,h⟩
 refine B1 hf fun e1 h5 hf=>W 3 Z (AS Z (AO.aM h5 Z Z (ah.aB _) Z dN (ah.aG _) Z ?_)); refine B1 hf fun x1 h6 hf=>U 1 Z (CL Z (KC _ h6 ?_)); cases hf; exact Rx 2 [0] rfl rfl ⟨rfl,_,⟨_,_,rfl,⟨_,_,0,_,_,rfl,rfl,bY,rfl⟩,_,_,rfl,rfl,rfl⟩,[],List.nil_sublist _,h⟩

@[reducible] def Vn :fq aD ah→eZ
 | .ok r=>.ret (.agg (aF r))
 | .bad e=>.panic (.iface 89 (.agg [iP e.code]))

theorem CB (m1:ah) (key1:ah) {rX:fq aD ah} (hf:xw m1 key1=some rX) (h:Q (Vn rX) τ):PC 89 [.agg (aF m1),.agg (aF key1)] τ Q:=by
 unfold xw at hf; refine BN 24 [.cell 4 25] [0,1] Tryz.func89 Z Z Z Z Z (W 2 Z (AS Z (AO.aH Z eY (fun b4=>?_)))); refine B1 hf fun x1 h1 hf=>U 1 Z (CL Z (kE _ _ h1 ?_)); refine B1 hf fun b1 h3 hf=>U 1 Z (AR.eX 3 9 12 true [2,3,4] b1 Z Z (fun h2=>?_) (fun h2=>?_) ?_)
 · replace h3:=eD h2 h3; refine Is 9 h2 Z ?_; replace h3:=(aJ _).trans h3; obtain ⟨x2,h4,h3⟩:=aN h3; refine U 1 Z (GO Z (AO.call Z _ Z Z anU (kE _ _ h4 ?_))); obtain rfl:=Option.some.inj h3; exact eU 1 Z (En [12,2,3,4] Z)
 · replace h3:=eF h2 h3; refine Is 9 h2 Z ?_; obtain rfl:=Option.some.inj h3; exact eU 3 Z (En [12,2,3,4] Z)
 rcases bH hf with ⟨e1,h5,hf⟩ | ⟨_,h5,hf⟩
 · refine CL Z (bF _ _ h5 ?_); cases hf; exact ⟨Z,[],List.nil_sublist _,h⟩
 refine CL Z (bF _ _ h5 ?_); obtain ⟨x3,ok1,h6,hf⟩:=aY hf; refine U 3 Z (CL Z (Oy _ _ h6 (U 3 Z (AS Z (AO.aH Z eY (fun b5=>?_)))))); rcases bH hf with ⟨e2,h7,hf⟩ | ⟨_,h7,hf⟩
 · refine Rr 3 [0] Z Z (CL Z (bF _ _ h7 ?_)); cases hf; exact ⟨Z,[],List.nil_sublist _,h⟩
 refine Rr 3 [0] Z Z (CL Z (bF _ _ h7 ?_)); cases hf; exact Rx 2 [0,1] Z Z (ZC [1] Z Z h)

@[reducible] def PY :fq aD ah→eZ
 | .ok r=>.ret (.agg (aF r))
 | .bad e=>.panic (.iface 89 (.agg [iP e.code]))

theorem JD (a1:ah) (i1:ah) {rX:fq aD ah} (hf:vK a1 i1=some rX) (h:Q (PY rX) τ):PC 91 [.agg (aF a1),.agg (aF i1)] τ Q:=by
 unfold vK at hf; refine BN 32 [.cell 4 25] [0,1] Tryz.func91 Z Z Z Z Z (W 2 Z (AS Z (AO.aH Z eY (fun b4=>?_)))); refine B1 hf fun x1 h1 hf=>U 1 Z (CL Z (kE _ _ h1 ?_)); refine B1 hf fun b1 h3 hf=>U 1 Z (AR.eX 3 7 10 true [2,3,4] b1 Z Z (fun h2=>?_) (fun h2=>?_) ?_)
 · replace h3:=eD h2 h3; refine Is 7 h2 Z ?_; replace h3:=(aJ _).trans h3; obtain ⟨x2,h4,h3⟩:=aN h3; refine U 1 Z (GO Z (AO.call Z _ Z Z anU (kE _ _ h4 ?_))); obtain rfl:=Option.some.inj h3; exact eU 1 Z (En [10,2,3,4] Z)
 · replace h3:=eF h2 h3; refine Is 7 h2 Z ?_; obtain rfl:=Option.some.inj h3; exact eU 3 Z (En [10,2,3,4] Z)
 refine J 0 Z (C hf Z (fun h5 hf=>?_) fun h5 hf=>?_)
 ·
  refine W 4 Z (AR.and 7 14 21 [2,3,4] (x:=(decide (i1.bZ < (a1.aI.length:Int)))) Z Z (fun h6=>?_) (fun h6=>?_) ?_)
  · refine Is 14 h6 Z (U 4 Z (GO Z (AO.aL (l:=a1.aI) Z Z Z Z dN Z (ah.aB _) ?_))); exact eU 2 Z (En [21,2,3,4] Z)
  · refine Is 14 h6 Z ?_; exact eU 7 Z (En [21,2,3,4] Z)
  rcases bH hf with ⟨e1,h7,hf⟩ | ⟨_,h7,hf⟩
  · refine CL Z (bF _ _ h7 ?_); cases hf; exact ⟨Z,[],List.nil_sublist _,h⟩
  refine CL Z (bF _ _ h7 ?_); refine B1 hf fun e2 h8 hf=>U 4 Z (AS Z (AO.aM h8 Z Z (ah.aB _) Z dN (ah.aG _) Z ?_)); cases hf; exact Rx 2 [0] Z Z (ZC [0] Z Z h)
 rcases bH hf with ⟨e3,h9,hf⟩ | ⟨x3,h9,hf⟩
 · refine W 2 Z (CL Z (CB _ _ h9 ?_)); cases hf; exact ⟨Z,[],List.nil_sublist _,h⟩
 refine W 2 Z (CL Z (CB _ _ h9 ?_)); cases hf; exact Rx 1 [0] Z Z (ZC [0] Z Z h)

theorem WZ (name1:Str) {r0:Int} (hf:Ai name1=some r0) (h:Q (.ret (iP r0)) τ):PC 125 [.str name1] τ Q:=by
 unfold Ai at hf; refine BN 18 [.tmp 2] [0] Tryz.func125 Z Z Z Z Z (V 4 Z (C hf Z (fun h1 hf=>?_) fun h1 hf=>?_))
 ·
  refine V 0 Z (AW.cond Z (fun h2=>?_) (fun h2=>?_))
  · cases hf; exact M 1 Z (Y Z h)
  cases h1.symm.trans h2
 refine V 2 Z (C hf Z (fun h3 hf=>?_) fun h3 hf=>?_)
 ·
  refine V 0 Z (AW.cond Z (fun h4=>?_) (fun h4=>?_))
  · cases hf; exact M 1 Z (Y Z h)
  cases h3.symm.trans h4
 refine V 2 Z (C hf Z (fun h5 hf=>?_) fun h5 hf=>?_)
 ·
  refine V 0 Z (AW.cond Z (fun h6=>?_) (fun h6=>?_))
  · cases hf; exact M 1 Z (Y Z h)
  cases h5.symm.trans h6
 refine V 2 Z (C hf Z (fun h7 hf=>?_) fun h7 hf=>?_)
 ·
  refine V 0 Z (AW.cond Z (fun h8=>?_) (fun h8=>?_))
  · cases hf; exact M 1 Z (Y Z h)
  cases h7.symm.trans h8
 refine V 2 Z (C hf Z (fun h9 hf=>?_) fun h9 hf=>?_)
 ·
  refine V 0 Z (AW.cond Z (fun h10=>?_) (fun h10=>?_))
  · cases hf; exact M 1 Z (Y Z h)
  cases h9.symm.trans h10
 refine V 2 Z (C hf Z (fun h11 hf=>?_) fun h11 hf=>?_)
 · cases hf; exact M 1 Z (Y Z h)
 refine V 2 Z (C hf Z (fun h12 hf=>?_) fun h12 hf=>?_)
 ·
  refine V 0 Z (AW.cond Z (fun jq=>?_) (fun jq=>?_))
  · cases hf; exact M 1 Z (Y Z h)
  cases h12.symm.trans jq
 refine V 2 Z (C hf Z (fun kg hf=>?_) fun kg hf=>?_)
 ·
  refine V 0 Z (AW.cond Z (fun kC=>?_) (fun kC=>?_))
  · cases hf; exact M 1 Z (Y Z h)
  cases kg.symm.trans kC
 refine V 2 Z (C hf Z (fun h16 hf=>?_) fun h16 hf=>?_)
 ·
  refine V 0 Z (AW.cond Z (fun mQ=>?_) (fun mQ=>?_))
  · cases hf; exact M 1 Z (Y Z h)
  cases h16.symm.trans mQ
 refine V 2 Z (C hf Z (fun h18 hf=>?_) fun h18 hf=>?_)
 ·
  refine V 0 Z (AW.cond Z (fun h19=>?_) (fun h19=>?_))
  · cases hf; exact M 1 Z (Y Z h)
  cases h18.symm.trans h19
 refine V 2 Z (C hf Z (fun h20 hf=>?_) fun h20 hf=>?_)
 ·
  refine V 0 Z (AW.cond Z (fun h21=>?_) (fun h21=>?_))
  · cases hf; exact M 1 Z (Y Z h)
  cases h20.symm.trans h21
 refine V 2 Z (C hf Z (fun h22 hf=>?_) fun h22 hf=>?_)
 · cases hf; exact M 1 Z (Y Z h)
 cases hf; exact M 1 Z (Y Z h)

theorem uV (n1:Int) {r0:ah} (hf:qg n1=some r0) (h:Q (.ret (.agg (aF r0))) τ):PC 129 [iP n1] τ Q:=by
 unfold qg at hf; refine BN 5 [.cell 2 25] [0] Tryz.func129 Z Z Z Z Z (W 0 Z (AS Z (AO.aH Z eY (fun b2=>?_)))); cases hf; exact Rx 3 [0] Z Z (ZC [0] Z Z h)

theorem MV (l1:List ah) {r0:ah} (hf:DK l1=some r0) (h:Q (.ret (.agg (aF r0))) τ):PC 96 [.list (ah.bn l1)] τ Q:=by
 unfold DK at hf; refine BN 5 [.cell 2 25] [0] Tryz.func96 Z Z Z Z Z (W 0 Z (AS Z (AO.aH Z eY (fun b2=>?_)))); cases hf; exact Rx 3 [0] Z Z (ZC [0] Z Z h)
theorem N8 (h:Q (.ret (.agg [iP 4,.bool false,iP 0,.str ([]:Str),.own (.slice none 0 0) [],.own (.slice none 0 0) []])) τ):PC 96 [.own (.slice none 0 0) []] τ Q:=by
 refine AC.none (AC.ad2 5 [.cell 2 25] [0] Tryz.func96 Z Z Z Z Z (AW.sr (AR.step Z Z Z (AO.aH Z eY (fun b2=>?_))))); refine AR.nil [0,2] Z (AW.sr (cs 1 Z (AR.step Z Z Z (AO.build Z eY ZE Z ?_)))); refine AR.fH Z Z (AO.ig (i:=0) Z Z Z bY Z Z Z Z Z (AR.nil [2] Z (AW.ret ?_))); exact ⟨rfl,_,⟨_,_,rfl,⟨_,_,0,_,_,rfl,rfl,bY,rfl⟩,rfl⟩,[],List.nil_sublist _,h⟩

theorem OG (l1:List Str) {r0:ah} (hf:Af l1=some r0) (h:Q (.ret (.agg (aF r0))) τ):PC 162 [sP l1] τ Q:=by
 unfold Af at hf; refine BN 22 [.cell 2 25] [0] Tryz.func162 Z Z Z Z Z (W 0 Z (AS Z (AO.aH Z eY (fun b2=>(U 0 Z (AS Z (AO.aj9 Z _ Z Z auF (N8 (AS Z (AO.aH Z eY (fun b3=>?_))))))))))); refine Rr 2 [0] Z Z (AS Z (AO.aL (l:=l1) Z Z Z Z dO Z Z ?_))
 refine J 1 Z (AW.row 6 25 (AW.settle [2,3,7,8,9] Z (AW.Bh 1 [false,false,false,false,false,true] Z (Vf (fun x1 aT v1=>[(2,pP b2),(3,pP b3),(7,sP l1),(8,iP (l1.length:Int)),(9,iP x1)]) (fun x1 aT v1=>[.row v1 (ah.bn aT.aI).length 6 25,.box b3 [iP aT.kind,.bool aT.dh,iP aT.bZ,.str aT.bI,.own v1 (ah.bn aT.aI),sP aT.keys],.box b2 [iP 0,.bool false,iP 0,.str ([]:Str),.own (.slice none 0 0) [],.own (.slice none 0 0) []]]) (fun bW x1 aT v1=>zu l1 bW x1 aT=some r0) BIG 0 (ah.mk 4 false 0 ([]:Str) [] []) (.slice none 0 0) Z Z hf (fun _ _ _ hz=>bQ hz) ?_))))
 intro bW x1 aT v1 hf; rw [zu] at hf; refine V 1 Z (C hf Z (fun h1 hf=>?_) fun h1 hf=>?_)
 ·
  refine B1 hf fun s1 h2 hf=>W 0 Z (AS Z (AO.aM h2 Z Z Z Z dO Z Z (J 2 Z (AW.draw 5 mixed (by kernel_rfl) Z ?_)))); refine Ev.cs aP 1 Z (Ev.cons Z Z Z (AO.bV (i:=1) Z Z Z Oi Z Z zg) (Ev.cs aP 1 Z ?_)); refine B1 hf fun x2 h3 hf=>Ev.cons rfl rfl rfl (AO.call rfl _ rfl rfl as9 (uU _ h3 ⟨rfl,rfl⟩)) (Ev.cons rfl rfl rfl (AO.bq (ah.bn [x2]) rfl oW rfl rfl rfl (by first | rfl | simp only [List.map,ah.aG,ah.bn]) ⟨rfl,rfl⟩) ?_); refine Ev.nil ?_
  show AR _ _ _ _ _ _ _ _
  refine B1 hf fun x3 h4 hf=>AS Z (AO.eP (i:=0) (l:=aT.aI) (m:=[x2]) h4 Z Z Z Z Z Z Z oW dN (ah.aB _) (ah.aB _) (ah.aB _).symm (ah.dV) (ah.cells_one) (by decide) (fun v2 s2 hs2=>?_)); cases hs2; exact Rx 4 [1] Z Z ⟨(bS (x1 + 1)),(ah.mk aT.kind aT.dh aT.bZ aT.bI x3 aT.keys),v2,Z,Z,Z,hf⟩
 cases hf; exact Wx 2 [1,2] Z Z (ZC [2] Z Z h)

theorem G8 (b1:Bool) {r0:Str} (hf:qb b1=some r0) (h:Q (.ret (.str r0)) τ):PC 271 [.bool b1] τ Q:=by
 unfold qb at hf; refine BN 4 [.tmp 2] [0] Tryz.func271 Z Z Z Z Z (V 2 Z (C hf Z (fun h1 hf=>?_) fun h1 hf=>?_))
 · cases hf; exact M 1 Z (Y Z h)
 cases hf; exact M 1 Z (Y Z h)

theorem Ju (b1:Bool) {r0:Str} (hf:strconv_FormatBool b1=some r0) (h:Q (.ret (.str r0)) τ):PC 241 [.bool b1] τ Q:=by
 unfold strconv_FormatBool at hf; refine BN 5 [.tmp 2] [0] Tryz.func241 Z Z Z Z Z ?_; replace hf:=(aJ _).trans hf; refine B1 hf fun x1 h1 hf=>W 2 Z (CL Z (G8 _ h1 ?_)); cases hf; exact N 1 Z (Y Z h)

theorem Fp (s1:Str) {r0:Str} (hf:Bj s1=some r0) (h:Q (.ret (.str r0)) τ):PC 242 [.str s1] τ Q:=by
 unfold Bj at hf; refine BN 54 [.tmp 2] [0] Tryz.func242 Z Z Z Z Z (W 1 Z (AS Z (AO.Ke (eu:=5) Z ap5 Z (fun b3=>?_)))); refine B1 hf fun b1 h1 hf=>U 0 Z (CL Z (AC.one 0 Z (iy h1 (fun v1=>⟨_,Z,(J 1 Z (Vf (fun i1 b2 v2=>[(0,.str s1),(3,pP b3),(4,iP i1)]) (fun i1 b2 v2=>[.Lm b3 v2 179 5 b2]) (fun bW i1 b2 v2=>mR s1 bW i1 b2=some r0) BIG 0 b1 v1 Z Z hf (fun _ _ _ hz=>bQ hz) ?_))⟩)))); intro bW i1 b2 v2 hf; rw [mR] at hf
 refine W 2 Z (AS Z (AO.bJ Z Z Z Z cu Z (J 1 Z (C hf Z (fun h2 hf=>?_) fun h2 hf=>?_))))
 ·
  refine B1 hf fun c1 h3 hf=>W 2 Z (AS Z (AO.fD h3 Z cu Z Z (U 4 Z (On 3 28 31 [0,3,4,5] ((c1.toNat:Int) == 92) Z Z Z Z (J 1 Z (C hf Z (fun h5 hf=>?_) fun h5 hf=>?_))))))
  · refine B1 hf fun b3 h6 hf=>W 0 Z (CL Z (AC.one 0 Z (iy h6 (fun v3=>⟨_,Z,?_⟩)))); refine B1 hf fun b4 h7 hf=>U 1 Z (CL Z (AC.one 0 Z (iy h7 (fun v4=>⟨_,Z,?_⟩)))); exact N 3 Z ⟨(bS (i1 + 1)),b4,v4,Z,Z,Z,hf⟩
  refine V 3 Z (C hf Z (fun h8 hf=>?_) fun h8 hf=>?_)
  · refine B1 hf fun b5 h9 hf=>W 0 Z (CL Z (AC.one 0 Z (lN h9 (fun v5=>⟨_,Z,?_⟩)))); exact N 3 Z ⟨(bS (i1 + 1)),b5,v5,Z,Z,Z,hf⟩
  refine V 3 Z (C hf Z (fun h10 hf=>?_) fun h10 hf=>?_)
  · refine B1 hf fun b6 h11 hf=>W 0 Z (CL Z (AC.one 0 Z (lN h11 (fun v6=>⟨_,Z,?_⟩)))); exact N 3 Z ⟨(bS (i1 + 1)),b6,v6,Z,Z,Z,hf⟩
  refine W 3 Z (An 3 46 49 [0,3,4,5] (decide ((c1.toNat:Int)≤126)) Z Z Z Z (J 1 Z (C hf Z (fun jq hf=>?_) fun jq hf=>?_)))
  · refine B1 hf fun b7 kg hf=>W 1 Z (CL Z (AC.one 0 Z (iy kg (fun v7=>⟨_,Z,?_⟩)))); exact N 3 Z ⟨(bS (i1 + 1)),b7,v7,Z,Z,Z,hf⟩
  refine B1 hf fun b8 kC hf=>W 0 Z (CL Z (AC.one 0 Z (lN kC (fun v8=>⟨_,Z,(U 1 Z (AS Z (AO.u8_quo c1 16 Z Z Z Z Z (by decide) ?_)))⟩)))); refine B1 hf fun x1 h16 hf=>AS Z (AO.fD h16 Z cu Z Z ?_); refine B1 hf fun b9 mQ hf=>CL Z (AC.one 0 Z (iy mQ (fun v9=>⟨_,Z,(U 1 Z (AS Z (AO.Vw c1 16 Z Z Z Z Z (by decide) ?_)))⟩))); refine B1 hf fun x2 h18 hf=>AS Z (AO.fD h18 Z cu Z Z ?_); refine B1 hf fun b10 h19 hf=>CL Z (AC.one 0 Z (iy h19 (fun v10=>⟨_,Z,?_⟩)))
  exact N 3 Z ⟨(bS (i1 + 1)),b10,v10,Z,Z,Z,hf⟩
 replace hf:=(aJ _).trans hf; refine B1 hf fun b11 h20 hf=>W 0 Z (CL Z (AC.one 0 Z (iy h20 (fun v11=>⟨_,Z,(U 0 Z (CL Z (AC.Pv 0 Z (CG ?_))))⟩)))); cases hf; exact N 1 Z (Y Z h)

section
variable [Ay]
def UG :Go.Shelf.Ren:=⟨fun | 156=>209 | 165=>247 | 166=>248 | 169=>194 | 240=>233 | 241=>279 | 276=>268 | 277=>303 | n=>n,fun | 31=>23 | 9=>9 | 3=>3 | 4=>4 | 0=>0 | 20=>20 | 72=>179 | 76=>194 | 70=>177 | 37=>53 | 75=>186 | 127=>214 | 164=>240 | 5=>5 | 80=>181 | n=>n,fun | n=>n⟩
theorem joinL :Go.Proofs.Lays.n156 Tryz.prog UG:={
 mixed:=by kernel_rfl
 f156:=Tryz.func209.trans (congrArg some (by kernel_rfl))
 f165:=Tryz.func247.trans (congrArg some (by kernel_rfl))
 f166:=Tryz.func248.trans (congrArg some (by kernel_rfl))
 f169:=Tryz.func194.trans (congrArg some (by kernel_rfl))
 f240:=Tryz.func233.trans (congrArg some (by kernel_rfl))
 f241:=Tryz.func279.trans (congrArg some (by kernel_rfl))
 f276:=Tryz.func268.trans (congrArg some (by kernel_rfl))
 f277:=Tryz.func303.trans (congrArg some (by kernel_rfl))
 t0:=Tryz.underlying0
 a0:=Tryz.isAgg0
 z0:=Tryz.sizeOf0
 v0:=Tryz.zeroValue0
 t3:=Tryz.underlying3
 a3:=Tryz.isAgg3
 z3:=Tryz.sizeOf3
 v3:=Tryz.zeroValue3
 t4:=Tryz.underlying4
 a4:=Tryz.isAgg4
 z4:=Tryz.sizeOf4
 v4:=Tryz.zeroValue4
 t9:=Tryz.underlying9
 a9:=Tryz.isAgg9
 z9:=Tryz.sizeOf9
 v9:=Tryz.zeroValue9
 t20:=Tryz.underlying20
 a20:=Tryz.isAgg20
 z20:=Tryz.sizeOf20
 v20:=Tryz.zeroValue20
 t31:=Tryz.underlying23
 a31:=Tryz.isAgg23
 z31:=Tryz.sizeOf23
 v31:=Tryz.zeroValue23
 t37:=Tryz.underlying53
 a37:=Tryz.isAgg53
 z37:=Tryz.sizeOf53
 v37:=Tryz.zeroValue53
 t70:=Tryz.underlying177
 a70:=Tryz.isAgg177
 z70:=Tryz.sizeOf177
 v70:=Tryz.zeroValue177
 t72:=Tryz.underlying179
 a72:=Tryz.isAgg179
 z72:=Tryz.sizeOf179
 v72:=Tryz.zeroValue179
 t75:=Tryz.underlying186
 a75:=Tryz.isAgg186
 z75:=Tryz.sizeOf186
 v75:=Tryz.zeroValue186
 t76:=Tryz.underlying194
 a76:=Tryz.isAgg194
 z76:=Tryz.sizeOf194
 v76:=Tryz.zeroValue194
 t127:=Tryz.underlying214
 a127:=Tryz.isAgg214
 z127:=Tryz.sizeOf214
 v127:=Tryz.zeroValue214
 t164:=Tryz.underlying240
 a164:=Tryz.isAgg240
 z164:=Tryz.sizeOf240
 v164:=Tryz.zeroValue240}

theorem ajL :Go.Proofs.Builder.Extra Tryz.prog UG:={
 sizeBuilder:=by kernel_rfl
 liesBuilder:=by kernel_rfl
 t5:=Tryz.underlying5
 a5:=fun w=>by kernel_rfl
 z5:=fun w=>by kernel_rfl
 v5:=fun w=>by kernel_rfl
 infoByte:=by kernel_rfl
 cellsByte:=by kernel_rfl
 sizeByte:=by kernel_rfl
 neB5:=by decide}


theorem zy (l1:List Str) (t1:Str) {r0:Str} (hf:strings_Join l1 t1=some r0) (h:Q (.ret (.str r0)) τ):PC 209 [sP l1,.str t1] τ Q:=by
 unfold strings_Join at hf
 split at hf
 case isFalse=>cases hf
 rename_i hg
 cases hf
 refine AC.none ?_
 exact AC.join Ay.hD joinL ajL hg.1 hg.2 h
end

section
variable [Ay]

abbrev Ia (fI:ah→Option Str):Prop:=∀ (rZ:ah) {aU:Str},fI rZ=some aU→∀ {τ:List bE} {Q:eZ→List bE→Prop} (h:Q (.ret (.str aU)) τ),PC 205 [.agg (aF rZ)] τ Q
theorem OV (fI) (zn:Ia fI) (v1:ah) {r0:Str} (hf:wO fI v1=some r0) (h:Q (.ret (.str r0)) τ):PC 205 [.agg (aF v1)] τ Q:=by
 unfold wO at hf; refine BN 68 [.tmp 2] [0] Tryz.func205 Z Z Z Z Z (V 6 Z (C hf Z (fun h1 hf=>?_) fun h1 hf=>?_))
 · replace hf:=(aJ _).trans hf; refine B1 hf fun x1 h2 hf=>W 2 Z (CL Z (Ju _ h2 ?_)); cases hf; exact N 1 Z (Y Z h)
 refine V 2 Z (C hf Z (fun h3 hf=>?_) fun h3 hf=>?_)
 · replace hf:=(aJ _).trans hf; refine B1 hf fun x2 h4 hf=>W 2 Z (CL Z (Jt _ h4 ?_)); cases hf; exact N 1 Z (Y Z h)
 refine V 2 Z (C hf Z (fun h5 hf=>?_) fun h5 hf=>?_)
 · replace hf:=(aJ _).trans hf; refine B1 hf fun x3 h6 hf=>W 2 Z (CL Z (Fp _ h6 ?_)); cases hf; exact N 1 Z (Y Z h)
 refine V 2 Z (C hf Z (fun h7 hf=>?_) fun h7 hf=>?_)
 ·
  refine V 0 Z (AW.cond Z (fun h8=>?_) (fun h8=>?_))
  ·
   refine W 3 Z (AS Z (AO.aL (l:=v1.aI) Z Z Z Z dN Z (ah.aB _) (J 1 Z (AW.row 1 9 (Vf (fun nO v2 i1=>[(1,.ref (aF v1)),(3,.own v2 (List.map ko nO)),(28,.list (ah.bn v1.aI)),(29,iP (v1.aI.length:Int)),(30,iP i1)]) (fun nO v2 i1=>[.row v2 (List.map ko nO).length 1 9]) (fun bW nO v2 i1=>qI fI v1 bW nO i1=some r0) BIG [] (.slice none 0 0) 0 Z Z hf (fun _ _ _ hz=>bQ hz) ?_))))); intro bW nO v2 i1 hf; rw [qI] at hf
   refine V 1 Z (C hf Z (fun h9 hf=>?_) fun h9 hf=>?_)
   ·
    refine B1 hf fun e1 h10 hf=>W 1 Z (AS Z (AO.aM h10 Z Z (ah.aB _) Z dN (ah.aG _) Z (U 1 Z (AS Z (AO.aH Z eY (fun b5=>(Rw 5 [0] Z Z (C hf Z (fun h11 hf=>?_) fun h11 hf=>?_))))))))
    ·
     refine AW.draw 12 mixed (by kernel_rfl) Z ?_; refine Ev.cs aP 4 Z ?_; refine B1 hf fun e2 h12 hf=>Ev.cons Z Z Z (AO.aM h12 Z Z Z Z dO Z Z zg) (Ev.cs aP 1 Z ?_); refine B1 hf fun x4 jq hf=>Ev.cons Z Z Z (AO.call Z _ Z Z arM (Fp _ jq zg)) ?_; refine B1 hf fun x5 kg hf=>Ev.cons Z Z Z (AO.kN kg Z Z Z zg) (Ev.cons Z Z Z (AO.bV (i:=0) Z Z Z bY Z Z zg) ?_); refine B1 hf fun x6 kC hf=>Ev.cons Z Z Z (AO.call Z _ Z Z arP (zn _ kC zg)) ?_
     refine B1 hf fun x7 h16 hf=>Ev.cons Z Z Z (AO.kN h16 Z Z Z zg) (Ev.cons Z Z Z (AO.bq (List.map ko ([x7]:List Str)) Z kU Z Z Z Z zg) (Ev.nil ?_)); show AR _ _ _ _ _ _ _ _
     refine B1 hf fun KT mQ hf=>AS Z (AO.eP (i:=1) (l:=nO) (m:=([x7]:List Str)) mQ Z Z Z Z Z Z Z kU dO Z Z Z (fun _=>Z) (fun _=>Z) (by decide) (fun v3 s1 hs1=>?_)); cases hs1; refine eU 3 Z (AR.drop1 ?_); exact N 0 Z ⟨KT,v3,(bS (i1 + 1)),Z,Z,Z,hf⟩
    refine B1 hf fun x8 h18 hf=>Wr 2 [0] Z Z (CL Z (zn _ h18 (AS Z (AO.bq (List.map ko ([x8]:List Str)) Z kU Z Z Z Z ?_)))); refine B1 hf fun KS h19 hf=>AS Z (AO.eP (i:=1) (l:=nO) (m:=([x8]:List Str)) h19 Z Z Z Z Z Z Z kU dO Z Z Z (fun _=>Z) (fun _=>Z) (by decide) (fun v4 s2 hs2=>?_)); cases hs2; refine eU 3 Z (AR.drop1 ?_); exact N 0 Z ⟨KS,v4,(bS (i1 + 1)),Z,Z,Z,hf⟩
   refine B1 hf fun s3 h20 hf=>W 1 Z (CL Z (zy _ _ h20 (J 4 Z (C hf Z (fun h21 hf=>?_) fun h21 hf=>?_))))
   · refine B1 hf fun x9 h22 hf=>W 1 Z (AS Z (AO.kN h22 Z Z Z ?_)); replace hf:=(aJ _).trans hf; refine B1 hf fun CO h23 hf=>AS Z (AO.kN h23 Z Z Z ?_); cases hf; exact N 1 Z (Y Z h)
   refine B1 hf fun KP Ku hf=>W 1 Z (AS Z (AO.kN Ku Z Z Z ?_)); replace hf:=(aJ _).trans hf; refine B1 hf fun TU Sw hf=>AS Z (AO.kN Sw Z Z Z ?_); cases hf; exact N 1 Z (Y Z h)
  cases h7.symm.trans h8
 refine V 2 Z (C hf Z (fun PI hf=>?_) fun PI hf=>?_)
 ·
  refine W 3 Z (AS Z (AO.aL (l:=v1.aI) Z Z Z Z dN Z (ah.aB _) (J 1 Z (AW.row 1 9 (Vf (fun E9 v5 i2=>[(1,.ref (aF v1)),(3,.own v5 (List.map ko E9)),(28,.list (ah.bn v1.aI)),(29,iP (v1.aI.length:Int)),(30,iP i2)]) (fun E9 v5 i2=>[.row v5 (List.map ko E9).length 1 9]) (fun EB E9 v5 i2=>u_ fI v1 EB E9 i2=some r0) BIG [] (.slice none 0 0) 0 Z Z hf (fun _ _ _ hz=>bQ hz) ?_))))); intro EB E9 v5 i2 hf; rw [u_] at hf
  refine V 1 Z (C hf Z (fun h27 hf=>?_) fun h27 hf=>?_)
  ·
   refine B1 hf fun e3 Xb hf=>W 1 Z (AS Z (AO.aM Xb Z Z (ah.aB _) Z dN (ah.aG _) Z (U 1 Z (AS Z (AO.aH Z eY (fun al3=>(Rw 5 [0] Z Z (AW.cond Z (fun Te=>?_) (fun Te=>?_)))))))))
   ·
    refine AW.draw 12 mixed (by kernel_rfl) Z ?_; refine Ev.cs aP 4 Z ?_; refine B1 hf fun e4 h30 hf=>Ev.cons Z Z Z (AO.aM h30 Z Z Z Z dO Z Z zg) (Ev.cs aP 1 Z ?_); refine B1 hf fun Sv h31 hf=>Ev.cons Z Z Z (AO.call Z _ Z Z arM (Fp _ h31 zg)) ?_; refine B1 hf fun Vo h32 hf=>Ev.cons Z Z Z (AO.kN h32 Z Z Z zg) (Ev.cons Z Z Z (AO.bV (i:=0) Z Z Z bY Z Z zg) ?_); refine B1 hf fun x15 O9 hf=>Ev.cons Z Z Z (AO.call Z _ Z Z arP (zn _ O9 zg)) ?_
    refine B1 hf fun Xh h34 hf=>Ev.cons Z Z Z (AO.kN h34 Z Z Z zg) (Ev.cons Z Z Z (AO.bq (List.map ko ([Xh]:List Str)) Z kU Z Z Z Z zg) (Ev.nil ?_)); show AR _ _ _ _ _ _ _ _
    refine B1 hf fun ZQ h35 hf=>AS Z (AO.eP (i:=1) (l:=E9) (m:=([Xh]:List Str)) h35 Z Z Z Z Z Z Z kU dO Z Z Z (fun _=>Z) (fun _=>Z) (by decide) (fun v6 s4 hs4=>?_)); cases hs4; refine eU 3 Z (AR.drop1 ?_); exact N 0 Z ⟨ZQ,v6,(bS (i2 + 1)),Z,Z,Z,hf⟩
   cases PI.symm.trans Te
  refine B1 hf fun s5 h36 hf=>W 1 Z (CL Z (zy _ _ h36 (J 4 Z (AW.cond Z (fun h37=>?_) (fun h37=>?_)))))
  · refine B1 hf fun x17 h38 hf=>W 1 Z (AS Z (AO.kN h38 Z Z Z ?_)); replace hf:=(aJ _).trans hf; refine B1 hf fun x18 h39 hf=>AS Z (AO.kN h39 Z Z Z ?_); cases hf; exact N 1 Z (Y Z h)
  cases PI.symm.trans h37
 cases hf; exact M 1 Z (Y Z h)
theorem O4 :∀ k:Nat,(Ia (pz k)):=by
 intro k
 induction k with
 | zero=>exact fun _ _ hz=>by first | cases hz | (unfold pz at hz; cases hz)
 | succ k ih=>exact fun rZ aU hz τ Q hq=>OV (pz k) ih rZ hz hq
theorem HY (rZ:ah) {aU:Str} (hf:Az rZ=some aU) (h:Q (.ret (.str aU)) τ):PC 205 [.agg (aF rZ)] τ Q:=
 ((O4 BIG)) rZ hf h
end

section
variable [Ay]
theorem WQ (v1:ah) {r0:Str} {r1:Int} (hf:Df v1=some (r0,r1)) (h:Q (.ret (.tuple [.str r0,iP r1])) τ):PC 163 [.agg (aF v1)] τ Q:=by
 unfold Df at hf; refine BN 28 [.tmp 2,.tmp 3] [0] Tryz.func163 Z Z Z Z Z (W 7 Z (On 4 8 12 [1] (v1.kind == 5) Z Z Z Z (J 0 Z (C hf Z (fun h2 hf=>?_) fun h2 hf=>?_))))
 · cases hf; exact M 2 rfl ⟨rfl,_,⟨_,_,rfl,rfl,_,_,rfl,rfl,rfl⟩,[],List.nil_sublist _,h⟩
 refine B1 hf fun e1 h3 hf=>W 1 Z (CL Z (om _ h3 (J 3 Z (C hf Z (fun h4 hf=>?_) fun h4 hf=>?_))))
 · cases hf; exact M 3 rfl ⟨rfl,_,⟨_,_,rfl,rfl,_,_,rfl,rfl,rfl⟩,[],List.nil_sublist _,h⟩
 refine V 4 Z (C hf Z (fun h5 hf=>?_) fun h5 hf=>?_)
 · cases hf; exact M 2 rfl ⟨rfl,_,⟨_,_,rfl,rfl,_,_,rfl,rfl,rfl⟩,[],List.nil_sublist _,h⟩
 refine V 2 Z (C hf Z (fun h6 hf=>?_) fun h6 hf=>?_)
 · cases hf; exact M 4 rfl ⟨rfl,_,⟨_,_,rfl,rfl,_,_,rfl,rfl,rfl⟩,[],List.nil_sublist _,h⟩
 refine B1 hf fun x1 h7 hf=>W 1 Z (CL Z (HY _ h7 ?_)); cases hf; exact N 2 rfl ⟨rfl,_,⟨_,_,rfl,rfl,_,_,rfl,rfl,rfl⟩,[],List.nil_sublist _,h⟩
end

theorem KF (s1:Str) (lo1:UInt8) (hi1:UInt8) (pq:Int) {r0:Str} (hf:xR s1 lo1 hi1 pq=some r0) (h:Q (.ret (.str r0)) τ):PC 164 [.str s1,.int .u8 (lo1.toNat:Int),.int .u8 (hi1.toNat:Int),iP pq] τ Q:=by
 unfold xR at hf; refine BN 42 [.tmp 8] [0,1,2,3] Tryz.func164 Z Z Z Z Z (W 1 Z (AS Z (AO.Ke (eu:=5) Z ap5 Z (fun b9=>(J 1 Z (Vf (fun i1 b1 v1=>[(0,.str s1),(1,.int .u8 (lo1.toNat:Int)),(2,.int .u8 (hi1.toNat:Int)),(3,iP pq),(9,pP b9),(10,iP i1)]) (fun i1 b1 v1=>[.Lm b9 v1 179 5 b1]) (fun bW i1 b1 v1=>qW s1 lo1 hi1 pq bW i1 b1=some r0) BIG 0 [] (.slice none 0 0) Z Z hf (fun _ _ _ hz=>bQ hz) ?_)))))); intro bW i1 b1 v1 hf; rw [qW] at hf
 refine W 2 Z (AS Z (AO.bJ Z Z Z Z cu Z (J 1 Z (C hf Z (fun h1 hf=>?_) fun h1 hf=>?_))))
 ·
  refine B1 hf fun x1 h2 hf=>W 2 Z (AS Z (AO.fD h2 Z cu Z Z ?_)); refine B1 hf fun b2 h4 hf=>U 3 Z (AR.eX 6 22 28 true [0,1,2,3,9,10] b2 Z Z (fun h3=>?_) (fun h3=>?_) ?_)
  · replace h4:=eD h3 h4; refine Is 22 h3 Z ?_; obtain ⟨x2,h5,h4⟩:=aN h4; refine U 2 Z (GO Z (AO.fD h5 Z cu Z Z ?_)); obtain rfl:=Option.some.inj h4; exact eU 3 Z (En [28,0,1,2,3,9,10] Z)
  · replace h4:=eF h3 h4; refine Is 22 h3 Z ?_; obtain rfl:=Option.some.inj h4; exact eU 6 Z (En [28,0,1,2,3,9,10] Z)
  refine J 0 Z (C hf Z (fun h6 hf=>?_) fun h6 hf=>?_)
  · refine B1 hf fun x3 h7 hf=>W 2 Z (AS Z (AO.fD h7 Z cu Z Z (AS Z (AO.Ao Z zK Ea Z Z (U 2 Z (AS Z (AO.DT Z Ea zK Z ?_))))))); refine B1 hf fun b3 h8 hf=>CL Z (AC.one 0 Z (iy h8 (fun v2=>⟨_,Z,?_⟩))); exact N 3 Z ⟨(bS (i1 + 1)),b3,v2,Z,Z,Z,hf⟩
  refine B1 hf fun x4 h9 hf=>W 2 Z (AS Z (AO.fD h9 Z cu Z Z ?_)); refine B1 hf fun b4 h10 hf=>CL Z (AC.one 0 Z (iy h10 (fun v3=>⟨_,Z,?_⟩))); exact N 3 Z ⟨(bS (i1 + 1)),b4,v3,Z,Z,Z,hf⟩
 refine W 0 Z (CL Z (AC.Pv 0 Z (CG ?_))); cases hf; exact N 1 Z (Y Z h)

section
variable [Ay]
theorem TP (s1:Str) {r0:Int} {r1:Bool} (hf:uQ s1=some (r0,r1)) (h:Q (.ret (.tuple [iP r0,.bool r1])) τ):PC 165 [.str s1] τ Q:=by
 unfold uQ at hf; refine BN 28 [.tmp 2,.tmp 3] [0] Tryz.func165 Z Z Z Z Z ?_; obtain ⟨n1,aeu,h1,hf⟩:=aY hf; refine W 3 Z (CL Z (DY _ h1 (U 6 Z (AS Z (AO.eqNil Z ar1 Z Z ?_))))); refine B1 hf fun b1 h3 hf=>U 1 Z (AR.eX 5 13 18 false [4] b1 Z Z (fun h2=>?_) (fun h2=>?_) ?_)
 · replace h3:=eF h2 h3; refine Is 13 h2 Z ?_; obtain ⟨x1,h4,h3⟩:=aN h3; refine U 1 Z (GO Z (AO.call Z _ Z Z atH (Jt _ h4 ?_))); obtain rfl:=Option.some.inj h3; exact eU 3 Z (En [18,4] Z)
 · replace h3:=eD h2 h3; refine Is 13 h2 Z ?_; obtain rfl:=Option.some.inj h3; exact eU 5 Z (En [18,4] Z)
 refine U 1 Z (On 3 19 22 [4] (decide (n1 < (-9007199254740992))) Z Z Z Z (U 1 Z (On 3 23 26 [4] (decide (9007199254740992 < n1)) Z Z Z Z (J 0 Z (C hf Z (fun h7 hf=>?_) fun h7 hf=>?_)))))
 · cases hf; exact M 2 rfl ⟨rfl,_,⟨_,_,rfl,rfl,_,_,rfl,rfl,rfl⟩,[],List.nil_sublist _,h⟩
 cases hf; exact M 3 rfl ⟨rfl,_,⟨_,_,rfl,rfl,_,_,rfl,rfl,rfl⟩,[],List.nil_sublist _,h⟩
end

section
variable [Ay]
@[reducible] def Zl :fq aD ah→eZ
 | .ok r=>.ret (.agg (aF r))
 | .bad e=>.panic (.iface 89 (.agg [iP e.code]))

theorem Sc (name1:Str) (v1:ah) {rX:fq aD ah} (hf:Jj name1 v1=some rX) (h:Q (Zl rX) τ):PC 126 [.str name1,.agg (aF v1)] τ Q:=by
 unfold Jj at hf; refine BN 78 [.cell 4 25] [0,1] Tryz.func126 Z Z Z Z Z (W 1 Z (AS Z (AO.aH Z eY (fun b4=>(J 3 Z (C hf Z (fun h1 hf=>?_) fun h1 hf=>?_))))))
 ·
  refine B1 hf fun x1 h2 hf=>W 1 Z (CL Z (kE _ _ h2 ?_)); refine B1 hf fun b1 h4 hf=>U 1 Z (AR.eX 3 14 17 false [3,4] b1 Z Z (fun h3=>?_) (fun h3=>?_) ?_)
  · replace h4:=eF h3 h4; refine Is 14 h3 Z ?_; replace h4:=(aJ _).trans h4; obtain ⟨x2,h5,h4⟩:=aN h4; refine U 1 Z (GO Z (AO.call Z _ Z Z anU (kE _ _ h5 ?_))); obtain rfl:=Option.some.inj h4; exact eU 1 Z (En [17,3,4] Z)
  · replace h4:=eD h3 h4; refine Is 14 h3 Z ?_; obtain rfl:=Option.some.inj h4; exact eU 3 Z (En [17,3,4] Z)
  refine B1 hf fun b2 h7 hf=>U 1 Z (AR.eX 3 18 21 false [3,4] b2 Z Z (fun h6=>?_) (fun h6=>?_) ?_)
  · replace h7:=eF h6 h7; refine Is 18 h6 Z ?_; replace h7:=(aJ _).trans h7; obtain ⟨x3,h8,h7⟩:=aN h7; refine U 1 Z (GO Z (AO.call Z _ Z Z anU (kE _ _ h8 ?_))); obtain rfl:=Option.some.inj h7; exact eU 1 Z (En [21,3,4] Z)
  · replace h7:=eD h6 h7; refine Is 18 h6 Z ?_; obtain rfl:=Option.some.inj h7; exact eU 3 Z (En [21,3,4] Z)
  rcases bH hf with ⟨e1,h9,hf⟩ | ⟨_,h9,hf⟩
  · refine CL Z (bF _ _ h9 ?_); cases hf; exact ⟨Z,[],List.nil_sublist _,h⟩
  refine CL Z (bF _ _ h9 (U 2 Z (AS Z (AO.bJ Z Z Z Z cu Z (U 2 Z (AS Z (AO.aL (l:=v1.aI) Z Z Z Z dN Z (ah.aB _) ?_))))))); refine B1 hf fun x4 h10 hf=>U 1 Z (CL Z (uV _ h10 ?_)); cases hf; exact Rx 1 [0] Z Z (ZC [0] Z Z h)
 refine V 2 Z (C hf Z (fun h11 hf=>?_) fun h11 hf=>?_)
 ·
  refine B1 hf fun x5 h12 hf=>W 1 Z (CL Z (kE _ _ h12 ?_)); rcases bH hf with ⟨e2,jq,hf⟩ | ⟨_,jq,hf⟩
  · refine CL Z (bF _ _ jq ?_); cases hf; exact ⟨Z,[],List.nil_sublist _,h⟩
  refine CL Z (bF _ _ jq ?_); refine B1 hf fun x6 kg hf=>U 2 Z (CL Z (OG _ kg ?_)); cases hf; exact Rx 1 [0] Z Z (ZC [0] Z Z h)
 refine V 2 Z (C hf Z (fun kC hf=>?_) fun kC hf=>?_)
 ·
  obtain ⟨t1,e3,h16,hf⟩:=aY hf; refine W 1 Z (CL Z (WQ _ h16 ?_)); rcases bH hf with ⟨e4,mQ,hf⟩ | ⟨_,mQ,hf⟩
  · refine U 8 Z (CL Z (bF _ _ mQ ?_)); cases hf; exact ⟨Z,[],List.nil_sublist _,h⟩
  refine U 8 Z (CL Z (bF _ _ mQ ?_)); refine B1 hf fun x7 h18 hf=>U 1 Z (CL Z (uU _ h18 ?_)); cases hf; exact Rx 1 [0] Z Z (ZC [0] Z Z h)
 refine B1 hf fun x8 h19 hf=>W 1 Z (CL Z (kE _ _ h19 ?_)); rcases bH hf with ⟨e5,h20,hf⟩ | ⟨_,h20,hf⟩
 · refine CL Z (bF _ _ h20 ?_); cases hf; exact ⟨Z,[],List.nil_sublist _,h⟩
 refine CL Z (bF _ _ h20 (J 3 Z (C hf Z (fun h21 hf=>?_) fun h21 hf=>?_)))
 · refine B1 hf fun x9 h22 hf=>W 2 Z (CL Z (KF _ _ _ _ h22 ?_)); refine B1 hf fun CO h23 hf=>CL Z (uU _ h23 ?_); cases hf; exact Rx 1 [0] Z Z (ZC [0] Z Z h)
 refine V 2 Z (C hf Z (fun Ku hf=>?_) fun Ku hf=>?_)
 · refine B1 hf fun KP Sw hf=>W 2 Z (CL Z (KF _ _ _ _ Sw ?_)); refine B1 hf fun TU PI hf=>CL Z (uU _ PI ?_); cases hf; exact Rx 1 [0] Z Z (ZC [0] Z Z h)
 obtain ⟨n1,ok1,h27,hf⟩:=aY hf; refine W 2 Z (CL Z (TP _ h27 ?_)); rcases bH hf with ⟨e6,Xb,hf⟩ | ⟨_,Xb,hf⟩
 · refine U 6 Z (CL Z (bF _ _ Xb ?_)); cases hf; exact ⟨Z,[],List.nil_sublist _,h⟩
 refine U 6 Z (CL Z (bF _ _ Xb ?_)); refine B1 hf fun Sv Te hf=>U 1 Z (CL Z (uV _ Te ?_)); cases hf; exact Rx 1 [0] Z Z (ZC [0] Z Z h)
end

theorem Kz (b1:Bool) {r0:Int} (hf:uj b1=some r0) (h:Q (.ret (iP r0)) τ):PC 213 [.bool b1] τ Q:=by
 unfold uj at hf; refine BN 4 [.tmp 2] [0] Tryz.func213 Z Z Z Z Z (V 2 Z (C hf Z (fun h1 hf=>?_) fun h1 hf=>?_))
 · cases hf; exact M 1 Z (Y Z h)
 cases hf; exact M 1 Z (Y Z h)

theorem iG (w_:List ah) (zP:List ah) (Jr:ah→ah→Option Int) (MF:FuncId) (RG:List PV) (aeB:bG Tryz.prog MF=true) (aeC:∀ a0 a1 b0,Jr a0 a1=some b0→∀ {τ:List bE} {Q:eZ→List bE→Prop},Q (.ret (iP b0)) τ→PC MF ([.agg (aF a0),.agg (aF a1)] ++ RG) τ Q) {r0:Int} (hf:bT w_ zP Jr=some r0) (h:Q (.ret (iP r0)) τ):PC 215 [.list (ah.bn w_),.list (ah.bn zP),.fn MF RG] τ Q:=by
 unfold bT at hf
 refine BN 39 [.tmp 6] [0,1,2] Tryz.func215 Z Z Z Z Z (W 2 Z (AS Z (AO.aL (l:=w_) Z Z Z Z dN Z (ah.aB _) (J 1 Z (Gc (fun i1=>[(0,.list (ah.bn w_)),(1,.list (ah.bn zP)),(2,.fn MF RG),(11,.list (ah.bn w_)),(12,iP (w_.length:Int)),(13,iP i1)]) (fun i1=>[]) (fun bW i1=>cO w_ zP Jr bW i1=some r0) BIG 0 Z Z hf (fun _ hz=>bQ hz) ?_))))); intro bW i1 hf
 rw [cO] at hf; refine V 1 Z (C hf Z (fun h1 hf=>?_) fun h1 hf=>?_)
 ·
  refine B1 hf fun e1 h2 hf=>W 1 Z (AS Z (AO.aM h2 Z Z (ah.aB _) Z dN (ah.aG _) Z (U 1 Z (AS Z (AO.aH Z eY (fun b8=>(Rr 4 [0] Z Z (AS Z (AO.aL (l:=zP) Z Z Z Z dN Z (ah.aB _) (J 1 Z (C hf Z (fun h3 hf=>?_) fun h3 hf=>?_)))))))))))
  · cases hf; exact M 1 Z (Y Z h)
  refine B1 hf fun e2 h4 hf=>W 2 Z (AS Z (AO.aM h4 Z Z (ah.aB _) Z dN (ah.aG _) Z (U 1 Z (AS Z (AO.aH Z eY (fun b9=>?_)))))); refine B1 hf fun c1 h5 hf=>Rr 4 [0,1,0] Z Z (AS Z (AO.call Z _ Z Z aeB (aeC _ _ _ h5 (J 3 Z (C hf Z (fun h6 hf=>?_) fun h6 hf=>?_)))))
  · cases hf; exact M 2 Z (Y Z h)
  refine Wn0 2 Z (AR.drop1 (AR.drop1 ?_)); exact N 0 Z ⟨(bS (i1 + 1)),Z,Z,Z,hf⟩
 refine W 1 Z (AS Z (AO.aL (l:=w_) Z Z Z Z dN Z (ah.aB _) (U 1 Z (AS Z (AO.aL (l:=zP) Z Z Z Z dN Z (ah.aB _) (J 1 Z (C hf Z (fun h7 hf=>?_) fun h7 hf=>?_)))))))
 · cases hf; exact M 1 Z (Y Z h)
 cases hf; exact M 1 Z (Y Z h)

theorem nZ (w_:List Str) (zP:List Str) (Jr:Str→Str→Option Int) (MF:FuncId) (RG:List PV) (aeB:bG Tryz.prog MF=true) (aeC:∀ a0 a1 b0,Jr a0 a1=some b0→∀ {τ:List bE} {Q:eZ→List bE→Prop},Q (.ret (iP b0)) τ→PC MF ([.str a0,.str a1] ++ RG) τ Q) {r0:Int} (hf:eT w_ zP Jr=some r0) (h:Q (.ret (iP r0)) τ):PC 216 [sP w_,sP zP,.fn MF RG] τ Q:=by
 unfold eT at hf; refine BN 39 [.tmp 6] [0,1,2] Tryz.func216 Z Z Z Z Z (W 2 Z (AS Z (AO.aL (l:=w_) Z Z Z Z dO Z Z (J 1 Z (Gc (fun i1=>[(0,sP w_),(1,sP zP),(2,.fn MF RG),(11,sP w_),(12,iP (w_.length:Int)),(13,iP i1)]) (fun i1=>[]) (fun bW i1=>dY w_ zP Jr bW i1=some r0) BIG 0 Z Z hf (fun _ hz=>bQ hz) ?_))))); intro bW i1 hf; rw [dY] at hf
 refine V 1 Z (C hf Z (fun h1 hf=>?_) fun h1 hf=>?_)
 ·
  refine B1 hf fun ajh h2 hf=>W 1 Z (AS Z (AO.aM h2 Z Z Z Z dO Z Z (U 5 Z (AS Z (AO.aL (l:=zP) Z Z Z Z dO Z Z (J 1 Z (C hf Z (fun h3 hf=>?_) fun h3 hf=>?_)))))))
  · cases hf; exact M 1 Z (Y Z h)
  refine B1 hf fun ajg h4 hf=>W 2 Z (AS Z (AO.aM h4 Z Z Z Z dO Z Z ?_)); refine B1 hf fun c1 h5 hf=>U 5 Z (AS Z (AO.call Z _ Z Z aeB (aeC _ _ _ h5 (J 3 Z (C hf Z (fun h6 hf=>?_) fun h6 hf=>?_)))))
  · cases hf; exact M 2 Z (Y Z h)
  exact M 2 Z ⟨(bS (i1 + 1)),Z,Z,Z,hf⟩
 refine W 1 Z (AS Z (AO.aL (l:=w_) Z Z Z Z dO Z Z (U 1 Z (AS Z (AO.aL (l:=zP) Z Z Z Z dO Z Z (J 1 Z (C hf Z (fun h7 hf=>?_) fun h7 hf=>?_)))))))
 · cases hf; exact M 1 Z (Y Z h)
 cases hf; exact M 1 Z (Y Z h)


abbrev Ib (j4:ah→ah→Option Int):Prop:=∀ (wR:ah) (wQ:ah) {aU:Int},j4 wR wQ=some aU→∀ {τ:List bE} {Q:eZ→List bE→Prop} (h:Q (.ret (iP aU)) τ),PC 172 [.agg (aF wR),.agg (aF wQ)] τ Q
theorem OW (j4) (EH:Ib j4) (a1:ah) (b1:ah) {r0:Int} (hf:wP j4 a1 b1=some r0) (h:Q (.ret (iP r0)) τ):PC 172 [.agg (aF a1),.agg (aF b1)] τ Q:=by
 unfold wP at hf; refine BN 62 [.tmp 4] [0,1] Tryz.func172 Z Z Z Z Z ?_; refine B1 hf fun c1 h1 hf=>W 7 Z (CL Z (nE _ _ h1 (J 3 Z (C hf Z (fun h2 hf=>?_) fun h2 hf=>?_))))
 · cases hf; exact M 2 Z (Y Z h)
 refine V 4 Z (C hf Z (fun h3 hf=>?_) fun h3 hf=>?_)
 ·
  refine V 0 Z (AW.draw 8 mixed (by kernel_rfl) Z ?_); refine Ev.cs aP 2 Z ?_; refine B1 hf fun x1 h4 hf=>Ev.cons Z Z Z (AO.call Z _ Z Z ahF (Kz _ h4 zg)) (Ev.cs aP 2 Z ?_); refine B1 hf fun x2 h5 hf=>Ev.cons Z Z Z (AO.call Z _ Z Z ahF (Kz _ h5 zg)) ?_; replace hf:=(aJ _).trans hf; refine B1 hf fun x3 h6 hf=>Ev.cons Z Z Z (AO.call Z _ Z Z atK (nE _ _ h6 zg)) (Ev.cs aP 1 Z (Ev.nil ?_)); show AR _ _ _ _ _ _ _ _
  cases hf; exact N 0 Z (Y Z h)
 refine V 2 Z (C hf Z (fun h7 hf=>?_) fun h7 hf=>?_)
 · replace hf:=(aJ _).trans hf; refine B1 hf fun x4 h8 hf=>W 4 Z (CL Z (nE _ _ h8 ?_)); cases hf; exact N 1 Z (Y Z h)
 refine V 2 Z (C hf Z (fun h9 hf=>?_) fun h9 hf=>?_)
 · replace hf:=(aJ _).trans hf; refine B1 hf fun x5 h10 hf=>W 4 Z (CL Z (BQ _ _ h10 ?_)); cases hf; exact N 1 Z (Y Z h)
 refine V 2 Z (C hf Z (fun h11 hf=>?_) fun h11 hf=>?_)
 · replace hf:=(aJ _).trans hf; refine B1 hf fun x6 h12 hf=>W 4 Z (CL Z (iG _ _ j4 172 [] arS (fun _ _ _ hz=>EH _ _  hz) h12 ?_)); cases hf; exact N 1 Z (Y Z h)
 refine V 2 Z (C hf Z (fun jq hf=>?_) fun jq hf=>?_)
 ·
  refine B1 hf fun c2 kg hf=>W 4 Z (CL Z (nZ _ _ jD 135 [] ahX (fun _ _ _ hz=>Cc _ _  hz) kg (J 3 Z (C hf Z (fun kC hf=>?_) fun kC hf=>?_))))
  · cases hf; exact M 2 Z (Y Z h)
  replace hf:=(aJ _).trans hf; refine B1 hf fun x7 h16 hf=>W 4 Z (CL Z (iG _ _ j4 172 [] arS (fun _ _ _ hz=>EH _ _  hz) h16 ?_)); cases hf; exact N 1 Z (Y Z h)
 cases hf; exact M 1 Z (Y Z h)
theorem O5 :∀ k:Nat,(Ib (jr k)):=by
 intro k
 induction k with
 | zero=>exact fun _ _ _ hz=>by first | cases hz | (unfold jr at hz; cases hz)
 | succ k ih=>exact fun wR wQ aU hz τ Q hq=>OW (jr k) ih wR wQ hz hq
theorem HZ (wR:ah) (wQ:ah) {aU:Int} (hf:wu wR wQ=some aU) (h:Q (.ret (iP aU)) τ):PC 172 [.agg (aF wR),.agg (aF wQ)] τ Q:=
 ((O5 BIG)) wR wQ hf h

theorem Fq (a1:ah) (b1:ah) {r0:Bool} (hf:mV a1 b1=some r0) (h:Q (.ret (.bool r0)) τ):PC 130 [.agg (aF a1),.agg (aF b1)] τ Q:=by
 unfold mV at hf; refine BN 9 [.tmp 4] [0,1] Tryz.func130 Z Z Z Z Z ?_; refine B1 hf fun x1 h1 hf=>W 5 Z (CL Z (HZ _ _ h1 ?_)); cases hf; exact N 2 Z (Y Z h)

theorem rJ (a1:ah) (b1:ah) (xO:Int) {r0:Bool} (hf:pI a1 b1 xO=some r0) (h:Q (.ret (.bool r0)) τ):PC 168 [.agg (aF a1),.agg (aF b1),iP xO] τ Q:=by
 unfold pI at hf; refine BN 17 [.tmp 6] [0,1,2] Tryz.func168 Z Z Z Z Z (W 8 Z (An 5 11 16 [] (b1.kind == xO) Z Z Z Z ?_)); cases hf; exact N 1 Z (Y Z h)

section
variable [Ay]
def Tn :Go.Shelf.Ren:=⟨fun | 144=>208 | 143=>246 | 219=>278 | 217=>299 | 225=>300 | 224=>301 | 267=>302 | 266=>317 | 314=>318 | n=>n,fun | 9=>9 | 4=>4 | 3=>3 | 5=>5 | 46=>211 | 146=>284 | 51=>231 | n=>n,fun | 1=>2 | n=>n⟩
theorem acA :Go.Proofs.Lays.n144 Tryz.prog Tn:={
 mixed:=by kernel_rfl
 f143:=Tryz.func246.trans (congrArg some (by kernel_rfl))
 f144:=Tryz.func208.trans (congrArg some (by kernel_rfl))
 f217:=Tryz.func299.trans (congrArg some (by kernel_rfl))
 f219:=Tryz.func278.trans (congrArg some (by kernel_rfl))
 f224:=Tryz.func301.trans (congrArg some (by kernel_rfl))
 f225:=Tryz.func300.trans (congrArg some (by kernel_rfl))
 f266:=Tryz.func317.trans (congrArg some (by kernel_rfl))
 f267:=Tryz.func302.trans (congrArg some (by kernel_rfl))
 f314:=Tryz.func318.trans (congrArg some (by kernel_rfl))
 t3:=Tryz.underlying3
 a3:=Tryz.isAgg3
 z3:=Tryz.sizeOf3
 v3:=Tryz.zeroValue3
 t4:=Tryz.underlying4
 a4:=Tryz.isAgg4
 z4:=Tryz.sizeOf4
 v4:=Tryz.zeroValue4
 t5:=Tryz.underlying5
 a5:=Tryz.isAgg5
 z5:=Tryz.sizeOf5
 v5:=Tryz.zeroValue5
 t9:=Tryz.underlying9
 a9:=Tryz.isAgg9
 z9:=Tryz.sizeOf9
 v9:=Tryz.zeroValue9
 t46:=Tryz.underlying211
 a46:=Tryz.isAgg211
 z46:=Tryz.sizeOf211
 v46:=Tryz.zeroValue211
 t51:=Tryz.underlying231
 a51:=Tryz.isAgg231
 z51:=Tryz.sizeOf231
 v51:=Tryz.zeroValue231
 t146:=Tryz.underlying284
 a146:=Tryz.isAgg284
 z146:=Tryz.sizeOf284
 v146:=Tryz.zeroValue284
 g1:=by kernel_rfl}


theorem Ld (s1:Str) (t1:Str) {r0:Bool} (hf:strings_Contains s1 t1=some r0) (h:Q (.ret (.bool r0)) τ):PC 208 [.str s1,.str t1] τ Q:=by
 unfold strings_Contains at hf
 split at hf
 case isFalse=>cases hf
 rename_i hg
 cases hf
 refine AC.none ?_
 exact AC.contains acA hg Ay.max h
end

section
variable [Ay]
@[reducible] def OU :fq aD Bool→eZ
 | .ok r=>.ret (.bool r)
 | .bad e=>.panic (.iface 89 (.agg [iP e.code]))

theorem H7 (a1:ah) (b1:ah) {rX:fq aD Bool} (hf:wK a1 b1=some rX) (h:Q (OU rX) τ):PC 166 [.agg (aF a1),.agg (aF b1)] τ Q:=by
 unfold wK at hf; refine BN 47 [.tmp 4] [0,1] Tryz.func166 Z Z Z Z Z ?_; refine B1 hf fun x1 h1 hf=>W 4 Z (CL Z (kE _ _ h1 (J 1 Z (C hf Z (fun h2 hf=>?_) fun h2 hf=>?_))))
 ·
  refine W 2 Z (AS Z (AO.aL (l:=a1.aI) Z Z Z Z dN Z (ah.aB _) (J 1 Z (Gc (fun x2=>[(3,.ref (aF b1)),(13,.list (ah.bn a1.aI)),(14,iP (a1.aI.length:Int)),(15,iP x2)]) (fun x2=>[]) (fun bW x2=>oz a1 b1 bW x2=some rX) BIG 0 Z Z hf (fun _ hz=>bQ hz) ?_)))); intro bW x2 hf; rw [oz] at hf; refine V 1 Z (C hf Z (fun h3 hf=>?_) fun h3 hf=>?_)
  ·
   refine B1 hf fun e1 h4 hf=>W 0 Z (AS Z (AO.aM h4 Z Z (ah.aB _) Z dN (ah.aG _) Z (U 1 Z (AS Z (AO.aH Z eY (fun b6=>?_)))))); refine B1 hf fun x3 h5 hf=>Rr 3 [0,0] Z Z (CL Z (Fq _ _ h5 (J 0 Z (C hf Z (fun h6 hf=>?_) fun h6 hf=>?_))))
   · cases hf; exact M 1 Z (Y Z h)
   refine Wn0 2 Z (AR.drop1 ?_); exact N 0 Z ⟨(bS (x2 + 1)),Z,Z,Z,hf⟩
  cases hf; exact M 1 Z (Y Z h)
 refine B1 hf fun x4 h7 hf=>W 2 Z (CL Z (rJ _ _ _ h7 (J 1 Z (C hf Z (fun h8 hf=>?_) fun h8 hf=>?_))))
 · refine B1 hf fun x5 h9 hf=>W 4 Z (CL Z (Ld _ _ h9 ?_)); cases hf; exact N 1 Z (Y Z h)
 refine B1 hf fun x6 h10 hf=>W 1 Z (CL Z (kE _ _ h10 ?_)); refine B1 hf fun b2 h12 hf=>U 1 Z (AR.eX 3 34 37 true [2,3] b2 Z Z (fun h11=>?_) (fun h11=>?_) ?_)
 · replace h12:=eD h11 h12; refine Is 34 h11 Z ?_; replace h12:=(aJ _).trans h12; obtain ⟨x7,jq,h12⟩:=aN h12; refine U 1 Z (GO Z (AO.call Z _ Z Z anU (kE _ _ jq ?_))); obtain rfl:=Option.some.inj h12; exact eU 1 Z (En [37,2,3] Z)
 · replace h12:=eF h11 h12; refine Is 34 h11 Z ?_; obtain rfl:=Option.some.inj h12; exact eU 3 Z (En [37,2,3] Z)
 rcases bH hf with ⟨e2,kg,hf⟩ | ⟨_,kg,hf⟩
 · refine CL Z (bF _ _ kg ?_); cases hf; exact ⟨Z,[],List.nil_sublist _,h⟩
 refine CL Z (bF _ _ kg ?_); obtain ⟨x8,ok1,kC,hf⟩:=aY hf; refine U 3 Z (CL Z (Oy _ _ kC (U 3 Z (AS Z (AO.aH Z eY (fun b7=>?_)))))); cases hf; exact Rx 4 [0] Z Z (Y Z h)
end

theorem jQ (b1:Bool) {r0:ah} (hf:fT b1=some r0) (h:Q (.ret (.agg (aF r0))) τ):PC 128 [.bool b1] τ Q:=by
 unfold fT at hf; refine BN 5 [.cell 2 25] [0] Tryz.func128 Z Z Z Z Z (W 0 Z (AS Z (AO.aH Z eY (fun b2=>?_)))); cases hf; exact Rx 3 [0] Z Z (ZC [0] Z Z h)

section
variable [Ay]
@[reducible] def SA :fq aD ah→eZ
 | .ok r=>.ret (.agg (aF r))
 | .bad e=>.panic (.iface 89 (.agg [iP e.code]))

theorem KG (a1:ah) (b1:ah) {rX:fq aD ah} (hf:BK a1 b1=some rX) (h:Q (SA rX) τ):PC 167 [.agg (aF a1),.agg (aF b1)] τ Q:=by
 unfold BK at hf; refine BN 54 [.cell 4 25] [0,1] Tryz.func167 Z Z Z Z Z (W 2 Z (AS Z (AO.aH Z eY (fun b4=>?_)))); refine B1 hf fun x1 h1 hf=>U 1 Z (CL Z (kE _ _ h1 ?_)); refine B1 hf fun b2 h3 hf=>U 1 Z (AR.eX 3 11 14 true [2,3,4] b2 Z Z (fun h2=>?_) (fun h2=>?_) ?_)
 · replace h3:=eD h2 h3; refine Is 11 h2 Z ?_; replace h3:=(aJ _).trans h3; obtain ⟨x2,h4,h3⟩:=aN h3; refine U 1 Z (GO Z (AO.call Z _ Z Z anU (kE _ _ h4 ?_))); obtain rfl:=Option.some.inj h3; exact eU 1 Z (En [14,2,3,4] Z)
 · replace h3:=eF h2 h3; refine Is 11 h2 Z ?_; obtain rfl:=Option.some.inj h3; exact eU 3 Z (En [14,2,3,4] Z)
 rcases bH hf with ⟨e1,h5,hf⟩ | ⟨_,h5,hf⟩
 · refine CL Z (bF _ _ h5 ?_); cases hf; exact ⟨Z,[],List.nil_sublist _,h⟩
 refine CL Z (bF _ _ h5 (U 4 Z (AS Z (AO.aL (l:=a1.aI) Z Z Z Z dN Z (ah.aB _) ?_))))
 refine J 1 Z (AW.row 1 9 (LK4 (fun n1 l1 v1 x3=>[(3,.ref (aF b1)),(4,pP b4),(5,iP n1),(6,.own v1 (List.map ko l1)),(17,.list (ah.bn a1.aI)),(18,iP (a1.aI.length:Int)),(19,iP x3)]) (fun n1 l1 v1 x3=>[.row v1 (List.map ko l1).length 1 9,.box b4 [iP 0,.bool false,iP 0,.str ([]:Str),.own (.slice none 0 0) [],.own (.slice none 0 0) []]]) (fun bW n1 l1 v1 x3=>uR a1 b1 bW n1 l1 x3=some rX) BIG 0 [] (.slice none 0 0) 0 Z Z hf (fun _ _ _ _ hz=>bQ hz) ?_)); intro bW n1 l1 v1 x3 hf; rw [uR] at hf
 refine V 1 Z (C hf Z (fun h6 hf=>?_) fun h6 hf=>?_)
 ·
  refine B1 hf fun e2 h7 hf=>W 0 Z (AS Z (AO.aM h7 Z Z (ah.aB _) Z dN (ah.aG _) Z (U 1 Z (AS Z (AO.aH Z eY (fun b8=>?_)))))); refine B1 hf fun x4 h8 hf=>Rr 2 [0,0] Z Z (CL Z (kE _ _ h8 ?_)); rcases bH hf with ⟨e3,h9,hf⟩ | ⟨_,h9,hf⟩
  · refine CL Z (bF _ _ h9 ?_); cases hf; exact ⟨Z,[],List.nil_sublist _,h⟩
  refine CL Z (bF _ _ h9 (Rr 3 [0] Z Z (AS Z (AO.bq (List.map ko ([e2.bI]:List Str)) Z kU Z Z Z Z ?_)))); refine B1 hf fun l2 h10 hf=>AS Z (AO.eP (i:=1) (l:=l1) (m:=([e2.bI]:List Str)) h10 Z Z Z Z Z Z Z kU dO Z Z Z (fun _=>Z) (fun _=>Z) (by decide) (fun v2 s1 hs1=>?_)); cases hs1; refine Rr 4 [0] Z Z (AS Z (AO.bJ Z Z Z Z cu Z (eU 4 Z (AR.drop1 ?_)))); exact N 0 Z ⟨(bS (n1 + (e2.bI.length:Int))),l2,v2,(bS (x3 + 1)),Z,Z,Z,hf⟩
 refine W 3 Z (AS Z (AO.bJ Z Z Z Z cu Z (U 1 Z (AS Z (AO.aL (l:=l1) Z Z Z Z dO Z Z (U 1 Z (AS Z (AO.max2 Z Z Z Z Z ?_)))))))); rcases bH hf with ⟨e4,h11,hf⟩ | ⟨_,h11,hf⟩
 · refine U 3 Z (CL Z (bF _ _ h11 ?_)); cases hf; exact ⟨Z,[],List.nil_sublist _,h⟩
 refine U 3 Z (CL Z (bF _ _ h11 ?_)); refine B1 hf fun x5 h12 hf=>U 3 Z (CL Z (zy _ _ h12 ?_)); refine B1 hf fun x6 jq hf=>CL Z (uU _ jq ?_); cases hf; exact Rx 1 [1] Z Z (ZC [1] Z Z h)
end

theorem Ec (s1:Str) (yJ:Str) {r0:Bool} (hf:qV s1 yJ=some r0) (h:Q (.ret (.bool r0)) τ):PC 210 [.str s1,.str yJ] τ Q:=by
 unfold qV at hf; refine BN 18 [.tmp 4] [0,1] Tryz.func210 Z Z Z Z Z (W 2 Z (AS Z (AO.bJ Z Z Z Z cu Z (U 1 Z (AS Z (AO.bJ Z Z Z Z cu Z ?_)))))); replace hf:=(aJ _).trans hf; refine B1 hf fun b1 h2 hf=>U 2 Z (AR.eX 7 10 17 true [] b1 Z Z (fun h1=>?_) (fun h1=>?_) ?_)
 · replace h2:=eD h1 h2; refine Is 10 h1 Z (U 2 Z (GO Z (AO.bJ Z Z Z Z cu Z ?_))); obtain ⟨x1,h3,h2⟩:=aN h2; refine GO Z (AO.nL h3 Z cu Z Z ⟨_,Z⟩ ?_); obtain rfl:=Option.some.inj h2; exact eU 3 Z (En [17] Z)
 · replace h2:=eF h1 h2; refine Is 10 h1 Z ?_; obtain rfl:=Option.some.inj h2; exact eU 7 Z (En [17] Z)
 cases hf; exact N 1 Z (Y Z h)

theorem Kl (s1:Str) (yJ:Str) {r0:Bool} (hf:strings_HasPrefix s1 yJ=some r0) (h:Q (.ret (.bool r0)) τ):PC 169 [.str s1,.str yJ] τ Q:=by
 unfold strings_HasPrefix at hf; refine BN 8 [.tmp 4] [0,1] Tryz.func169 Z Z Z Z Z ?_; replace hf:=(aJ _).trans hf; refine B1 hf fun x1 h1 hf=>W 3 Z (CL Z (Ec _ _ h1 ?_)); cases hf; exact N 1 Z (Y Z h)

theorem Eb (s1:Str) (yu:Str) {r0:Bool} (hf:qU s1 yu=some r0) (h:Q (.ret (.bool r0)) τ):PC 211 [.str s1,.str yu] τ Q:=by
 unfold qU at hf; refine BN 21 [.tmp 4] [0,1] Tryz.func211 Z Z Z Z Z (W 2 Z (AS Z (AO.bJ Z Z Z Z cu Z (U 1 Z (AS Z (AO.bJ Z Z Z Z cu Z ?_)))))); replace hf:=(aJ _).trans hf; refine B1 hf fun b1 h2 hf=>U 2 Z (AR.eX 10 10 20 true [] b1 Z Z (fun h1=>?_) (fun h1=>?_) ?_)
 · replace h2:=eD h1 h2; refine Is 10 h1 Z (U 2 Z (GO Z (AO.bJ Z Z Z Z cu Z (U 1 Z (GO Z (AO.bJ Z Z Z Z cu Z ?_)))))); obtain ⟨x1,h3,h2⟩:=aN h2; refine U 1 Z (GO Z (AO.nL h3 Z cu Z ⟨_,Z⟩ Z ?_)); obtain rfl:=Option.some.inj h2; exact eU 3 Z (En [20] Z)
 · replace h2:=eF h1 h2; refine Is 10 h1 Z ?_; obtain rfl:=Option.some.inj h2; exact eU 10 Z (En [20] Z)
 cases hf; exact N 1 Z (Y Z h)

theorem Kk (s1:Str) (yu:Str) {r0:Bool} (hf:strings_HasSuffix s1 yu=some r0) (h:Q (.ret (.bool r0)) τ):PC 170 [.str s1,.str yu] τ Q:=by
 unfold strings_HasSuffix at hf; refine BN 8 [.tmp 4] [0,1] Tryz.func170 Z Z Z Z Z ?_; replace hf:=(aJ _).trans hf; refine B1 hf fun x1 h1 hf=>W 3 Z (CL Z (Eb _ _ h1 ?_)); cases hf; exact N 1 Z (Y Z h)

section
variable [Ay]
def ZB :Go.Shelf.Ren:=⟨fun | 146=>171 | 221=>212 | 268=>249 | 138=>250 | 143=>246 | 195=>280 | 197=>281 | 218=>282 | 219=>278 | 260=>304 | 217=>299 | 225=>300 | 224=>301 | 267=>302 | 266=>317 | 314=>318 | n=>n,fun | 9=>9 | 31=>23 | 3=>3 | 4=>4 | 0=>0 | 105=>250 | 21=>21 | 5=>5 | 46=>211 | 119=>286 | 139=>289 | 138=>288 | 146=>284 | 51=>231 | n=>n,fun | 1=>2 | 3=>4 | 4=>5 | n=>n⟩
theorem ahm :Go.Proofs.Lays.n146 Tryz.prog ZB:={
 mixed:=by kernel_rfl
 f138:=Tryz.func250.trans (congrArg some (by kernel_rfl))
 f143:=Tryz.func246.trans (congrArg some (by kernel_rfl))
 f146:=Tryz.func171.trans (congrArg some (by kernel_rfl))
 f195:=Tryz.func280.trans (congrArg some (by kernel_rfl))
 f197:=Tryz.func281.trans (congrArg some (by kernel_rfl))
 f217:=Tryz.func299.trans (congrArg some (by kernel_rfl))
 f218:=Tryz.func282.trans (congrArg some (by kernel_rfl))
 f219:=Tryz.func278.trans (congrArg some (by kernel_rfl))
 f221:=Tryz.func212.trans (congrArg some (by kernel_rfl))
 f224:=Tryz.func301.trans (congrArg some (by kernel_rfl))
 f225:=Tryz.func300.trans (congrArg some (by kernel_rfl))
 f260:=Tryz.func304.trans (congrArg some (by kernel_rfl))
 f266:=Tryz.func317.trans (congrArg some (by kernel_rfl))
 f267:=Tryz.func302.trans (congrArg some (by kernel_rfl))
 f268:=Tryz.func249.trans (congrArg some (by kernel_rfl))
 f314:=Tryz.func318.trans (congrArg some (by kernel_rfl))
 t0:=Tryz.underlying0
 a0:=Tryz.isAgg0
 z0:=Tryz.sizeOf0
 v0:=Tryz.zeroValue0
 t3:=Tryz.underlying3
 a3:=Tryz.isAgg3
 z3:=Tryz.sizeOf3
 v3:=Tryz.zeroValue3
 t4:=Tryz.underlying4
 a4:=Tryz.isAgg4
 z4:=Tryz.sizeOf4
 v4:=Tryz.zeroValue4
 t5:=Tryz.underlying5
 a5:=Tryz.isAgg5
 z5:=Tryz.sizeOf5
 v5:=Tryz.zeroValue5
 t9:=Tryz.underlying9
 a9:=Tryz.isAgg9
 z9:=Tryz.sizeOf9
 v9:=Tryz.zeroValue9
 t21:=Tryz.underlying21
 a21:=Tryz.isAgg21
 z21:=Tryz.sizeOf21
 v21:=Tryz.zeroValue21
 t31:=Tryz.underlying23
 a31:=Tryz.isAgg23
 z31:=Tryz.sizeOf23
 v31:=Tryz.zeroValue23
 t46:=Tryz.underlying211
 a46:=Tryz.isAgg211
 z46:=Tryz.sizeOf211
 v46:=Tryz.zeroValue211
 t51:=Tryz.underlying231
 a51:=Tryz.isAgg231
 z51:=Tryz.sizeOf231
 v51:=Tryz.zeroValue231
 t105:=Tryz.underlying250
 a105:=Tryz.isAgg250
 z105:=Tryz.sizeOf250
 v105:=Tryz.zeroValue250
 t119:=Tryz.underlying286
 a119:=Tryz.isAgg286
 z119:=Tryz.sizeOf286
 t138:=Tryz.underlying288
 a138:=Tryz.isAgg288
 z138:=Tryz.sizeOf288
 v138:=Tryz.zeroValue288
 t139:=Tryz.underlying289
 a139:=Tryz.isAgg289
 z139:=Tryz.sizeOf289
 v139:=Tryz.zeroValue289
 t146:=Tryz.underlying284
 a146:=Tryz.isAgg284
 z146:=Tryz.sizeOf284
 v146:=Tryz.zeroValue284
 g1:=by kernel_rfl
 g3:=by kernel_rfl
 g4:=by kernel_rfl}


theorem Pf (s1:Str) (t1:Str) {r0:List Str} (hf:strings_Split s1 t1=some r0) (h:Q (.ret (sP r0)) τ):PC 171 [.str s1,.str t1] τ Q:=by
 unfold strings_Split at hf
 split at hf
 case isFalse=>cases hf
 rename_i hg
 cases hf
 refine AC.none ?_
 exact AC.split ahm (by kernel_rfl) hg.1 hg.2 Ay.max h
end

section
variable [Ay]
@[reducible] def Zj :fq aD ah→eZ
 | .ok r=>.ret (.agg (aF r))
 | .bad e=>.panic (.iface 89 (.agg [iP e.code]))

theorem R_ (name1:Str) (a1:ah) (b1:ah) {rX:fq aD ah} (hf:Ji name1 a1 b1=some rX) (h:Q (Zj rX) τ):PC 127 [.str name1,.agg (aF a1),.agg (aF b1)] τ Q:=by
 unfold Ji at hf; refine BN 62 [.cell 6 25] [0,1,2] Tryz.func127 Z Z Z Z Z (W 2 Z (AS Z (AO.aH Z eY (fun b6=>(J 3 Z (C hf Z (fun h1 hf=>?_) fun h1 hf=>?_))))))
 ·
  refine B1 hf fun x1 h2 hf=>W 1 Z (CL Z (kE _ _ h2 (J 0 Z (C hf Z (fun h3 hf=>?_) fun h3 hf=>?_))))
  · cases hf; exact Wx 2 [0] Z Z (ZC [0] Z Z h)
  cases hf; exact Wx 2 [0] Z Z (ZC [0] Z Z h)
 refine V 2 Z (C hf Z (fun h4 hf=>?_) fun h4 hf=>?_)
 ·
  rcases bH hf with ⟨e1,h5,hf⟩ | ⟨x2,h5,hf⟩
  · refine W 2 Z (CL Z (H7 _ _ h5 ?_)); cases hf; exact ⟨Z,[],List.nil_sublist _,h⟩
  refine W 2 Z (CL Z (H7 _ _ h5 ?_)); refine B1 hf fun x3 h6 hf=>CL Z (jQ _ h6 ?_); cases hf; exact Rx 1 [0] Z Z (ZC [0] Z Z h)
 refine V 2 Z (C hf Z (fun h7 hf=>?_) fun h7 hf=>?_)
 ·
  rcases bH hf with ⟨e2,h8,hf⟩ | ⟨x4,h8,hf⟩
  · refine W 2 Z (CL Z (KG _ _ h8 ?_)); cases hf; exact ⟨Z,[],List.nil_sublist _,h⟩
  refine W 2 Z (CL Z (KG _ _ h8 ?_)); cases hf; exact Rx 1 [0] Z Z (ZC [0] Z Z h)
 refine B1 hf fun x5 h9 hf=>W 2 Z (CL Z (rJ _ _ _ h9 ?_)); rcases bH hf with ⟨e3,h10,hf⟩ | ⟨_,h10,hf⟩
 · refine CL Z (bF _ _ h10 ?_); cases hf; exact ⟨Z,[],List.nil_sublist _,h⟩
 refine CL Z (bF _ _ h10 (J 3 Z (C hf Z (fun h11 hf=>?_) fun h11 hf=>?_)))
 · refine B1 hf fun x6 h12 hf=>W 4 Z (CL Z (Kl _ _ h12 ?_)); refine B1 hf fun x7 jq hf=>CL Z (jQ _ jq ?_); cases hf; exact Rx 1 [0] Z Z (ZC [0] Z Z h)
 refine V 2 Z (C hf Z (fun kg hf=>?_) fun kg hf=>?_)
 · refine B1 hf fun x8 kC hf=>W 4 Z (CL Z (Kk _ _ kC ?_)); refine B1 hf fun x9 h16 hf=>CL Z (jQ _ h16 ?_); cases hf; exact Rx 1 [0] Z Z (ZC [0] Z Z h)
 rcases bH hf with ⟨e4,mQ,hf⟩ | ⟨_,mQ,hf⟩
 · refine W 3 Z (CL Z (bF _ _ mQ ?_)); cases hf; exact ⟨Z,[],List.nil_sublist _,h⟩
 refine W 3 Z (CL Z (bF _ _ mQ ?_)); refine B1 hf fun l1 h18 hf=>U 4 Z (CL Z (Pf _ _ h18 (U 2 Z (AS Z (AO.aL (l:=l1) Z Z Z Z dO Z Z ?_))))); rcases bH hf with ⟨e5,h19,hf⟩ | ⟨_,h19,hf⟩
 · refine U 1 Z (CL Z (bF _ _ h19 ?_)); cases hf; exact ⟨Z,[],List.nil_sublist _,h⟩
 refine U 1 Z (CL Z (bF _ _ h19 ?_)); refine B1 hf fun CO h20 hf=>U 1 Z (CL Z (OG _ h20 ?_)); cases hf; exact Rx 1 [0] Z Z (ZC [0] Z Z h)
end

@[reducible] def Vl :fq aD Bool→eZ
 | .ok r=>.ret (.bool r)
 | .bad e=>.panic (.iface 89 (.agg [iP e.code]))

theorem qj (v1:ah) {rX:fq aD Bool} (hf:uP v1=some rX) (h:Q (Vl rX) τ):PC 95 [.agg (aF v1)] τ Q:=by
 unfold uP at hf; refine BN 8 [.tmp 2] [0] Tryz.func95 Z Z Z Z Z ?_; refine B1 hf fun x1 h1 hf=>W 3 Z (CL Z (kE _ _ h1 ?_)); rcases bH hf with ⟨e1,h2,hf⟩ | ⟨_,h2,hf⟩
 · refine CL Z (bF _ _ h2 ?_); cases hf; exact ⟨Z,[],List.nil_sublist _,h⟩
 refine CL Z (bF _ _ h2 ?_); cases hf; exact N 3 Z (Y Z h)

@[reducible] def Vk :fq aD ah→eZ
 | .ok r=>.ret (.agg (aF r))
 | .bad e=>.panic (.iface 89 (.agg [iP e.code]))

theorem MS (op1:Str) (v1:ah) {rX:fq aD ah} (hf:DJ op1 v1=some rX) (h:Q (Vk rX) τ):PC 93 [.str op1,.agg (aF v1)] τ Q:=by
 unfold DJ at hf; refine BN 18 [.cell 4 25] [0,1] Tryz.func93 Z Z Z Z Z (W 1 Z (AS Z (AO.aH Z eY (fun b4=>(J 2 Z (C hf Z (fun h1 hf=>?_) fun h1 hf=>?_))))))
 ·
  rcases bH hf with ⟨e1,h2,hf⟩ | ⟨x1,h2,hf⟩
  · refine W 1 Z (CL Z (qj _ h2 ?_)); cases hf; exact ⟨Z,[],List.nil_sublist _,h⟩
  refine W 1 Z (CL Z (qj _ h2 ?_)); refine B1 hf fun x2 h3 hf=>U 1 Z (CL Z (jQ _ h3 ?_)); cases hf; exact Rx 1 [0] Z Z (ZC [0] Z Z h)
 refine B1 hf fun x3 h4 hf=>W 1 Z (CL Z (kE _ _ h4 ?_)); rcases bH hf with ⟨e2,h5,hf⟩ | ⟨_,h5,hf⟩
 · refine CL Z (bF _ _ h5 ?_); cases hf; exact ⟨Z,[],List.nil_sublist _,h⟩
 refine CL Z (bF _ _ h5 ?_); refine B1 hf fun x4 h6 hf=>U 3 Z (CL Z (uV _ h6 ?_)); cases hf; exact Rx 1 [0] Z Z (ZC [0] Z Z h)

@[reducible] def Vm :fq aD Int→eZ
 | .ok r=>.ret (iP r)
 | .bad e=>.panic (.iface 89 (.agg [iP e.code]))

theorem ql (a1:ah) (b1:ah) {rX:fq aD Int} (hf:nP a1 b1=some rX) (h:Q (Vm rX) τ):PC 131 [.agg (aF a1),.agg (aF b1)] τ Q:=by
 unfold nP at hf; refine BN 17 [.tmp 4] [0,1] Tryz.func131 Z Z Z Z Z ?_; refine B1 hf fun x1 h1 hf=>W 5 Z (CL Z (rJ _ _ _ h1 ?_)); refine B1 hf fun b2 h3 hf=>U 1 Z (AR.eX 4 8 12 false [2,3] b2 Z Z (fun h2=>?_) (fun h2=>?_) ?_)
 · replace h3:=eF h2 h3; refine Is 8 h2 Z ?_; replace h3:=(aJ _).trans h3; obtain ⟨x2,h4,h3⟩:=aN h3; refine U 2 Z (GO Z (AO.call Z _ Z Z atM (rJ _ _ _ h4 ?_))); obtain rfl:=Option.some.inj h3; exact eU 1 Z (En [12,2,3] Z)
 · replace h3:=eD h2 h3; refine Is 8 h2 Z ?_; obtain rfl:=Option.some.inj h3; exact eU 4 Z (En [12,2,3] Z)
 rcases bH hf with ⟨e1,h5,hf⟩ | ⟨_,h5,hf⟩
 · refine CL Z (bF _ _ h5 ?_); cases hf; exact ⟨Z,[],List.nil_sublist _,h⟩
 refine CL Z (bF _ _ h5 ?_); refine B1 hf fun x3 h6 hf=>U 2 Z (CL Z (HZ _ _ h6 ?_)); cases hf; exact N 1 Z (Y Z h)

@[reducible] def Sz :fq aD ah→eZ
 | .ok r=>.ret (.agg (aF r))
 | .bad e=>.panic (.iface 89 (.agg [iP e.code]))

theorem oo (n1:Int) {rX:fq aD ah} (hf:rG n1=some rX) (h:Q (Sz rX) τ):PC 173 [iP n1] τ Q:=by
 unfold rG at hf; refine BN 12 [.cell 2 25] [0] Tryz.func173 Z Z Z Z Z (W 0 Z (AS Z (AO.aH Z eY (fun b2=>(U 3 Z (An 3 5 8 [0,2] (decide (n1≤9007199254740992)) Z Z Z Z ?_)))))); rcases bH hf with ⟨e1,h2,hf⟩ | ⟨_,h2,hf⟩
 · refine CL Z (bF _ _ h2 ?_); cases hf; exact ⟨Z,[],List.nil_sublist _,h⟩
 refine CL Z (bF _ _ h2 ?_); refine B1 hf fun x1 h3 hf=>U 1 Z (CL Z (uV _ h3 ?_)); cases hf; exact Rx 1 [0] Z Z (ZC [0] Z Z h)

@[reducible] def Zk :fq aD ah→eZ
 | .ok r=>.ret (.agg (aF r))
 | .bad e=>.panic (.iface 89 (.agg [iP e.code]))

theorem Sb (a1:ah) (b1:ah) {rX:fq aD ah} (hf:FZ a1 b1=some rX) (h:Q (Zk rX) τ):PC 132 [.agg (aF a1),.agg (aF b1)] τ Q:=by
 unfold FZ at hf; refine BN 57 [.cell 4 25] [0,1] Tryz.func132 Z Z Z Z Z (W 2 Z (AS Z (AO.aH Z eY (fun b4=>?_)))); refine B1 hf fun x1 h1 hf=>U 2 Z (CL Z (rJ _ _ _ h1 (J 1 Z (C hf Z (fun h2 hf=>?_) fun h2 hf=>?_))))
 ·
  rcases bH hf with ⟨e1,h3,hf⟩ | ⟨x2,h3,hf⟩
  · refine W 5 Z (CL Z (oo _ h3 ?_)); cases hf; exact ⟨Z,[],List.nil_sublist _,h⟩
  refine W 5 Z (CL Z (oo _ h3 ?_)); cases hf; exact Rx 1 [0] Z Z (ZC [0] Z Z h)
 refine B1 hf fun x3 h4 hf=>W 2 Z (CL Z (rJ _ _ _ h4 (J 1 Z (C hf Z (fun h5 hf=>?_) fun h5 hf=>?_))))
 ·
  refine W 2 Z (AS Z (AO.bJ Z Z Z Z cu Z (U 2 Z (AS Z (AO.bJ Z Z Z Z cu Z ?_))))); rcases bH hf with ⟨e2,h6,hf⟩ | ⟨_,h6,hf⟩
  · refine U 2 Z (CL Z (bF _ _ h6 ?_)); cases hf; exact ⟨Z,[],List.nil_sublist _,h⟩
  refine U 2 Z (CL Z (bF _ _ h6 ?_)); refine B1 hf fun x4 h7 hf=>U 4 Z (AS Z (AO.kN h7 Z Z Z ?_)); refine B1 hf fun x5 h8 hf=>CL Z (uU _ h8 ?_); cases hf; exact Rx 1 [0] Z Z (ZC [0] Z Z h)
 refine B1 hf fun x6 h9 hf=>W 2 Z (CL Z (rJ _ _ _ h9 ?_)); rcases bH hf with ⟨e3,h10,hf⟩ | ⟨_,h10,hf⟩
 · refine CL Z (bF _ _ h10 ?_); cases hf; exact ⟨Z,[],List.nil_sublist _,h⟩
 refine CL Z (bF _ _ h10 (U 2 Z (AS Z (AO.aL (l:=a1.aI) Z Z Z Z dN Z (ah.aB _) (U 2 Z (AS Z (AO.aL (l:=b1.aI) Z Z Z Z dN Z (ah.aB _) ?_))))))); rcases bH hf with ⟨e4,h11,hf⟩ | ⟨_,h11,hf⟩
 · refine U 2 Z (CL Z (bF _ _ h11 ?_)); cases hf; exact ⟨Z,[],List.nil_sublist _,h⟩
 refine U 2 Z (CL Z (bF _ _ h11 (U 4 Z (AR.row 6 25 ?_)))); refine B1 hf fun l1 h12 hf=>AS Z (AO.eP (i:=0) (l:=[]) (m:=a1.aI) h12 Z Z Z Z Z Z Z oW dN (show ([]:List (List PV))=List.map ah.cells [] from Z) (ah.aB _) (ah.aB _).symm (ah.dV) (ah.cells_one) (by decide) (fun v1 s1 hs1=>?_)); cases hs1; refine B1 hf fun x7 jq hf=>U 4 Z (AS Z (AO.eP (i:=0) (l:=l1) (m:=b1.aI) jq Z Z Z Z Z Z Z oW dN (ah.aB _) (ah.aB _) (ah.aB _).symm (ah.dV) (ah.cells_one) (by decide) (fun v2 s2 hs2=>?_)))
 cases hs2; refine B1 hf fun x8 kg hf=>CL Z (MV _ kg ?_); cases hf; exact Rx 1 [1] Z Z (ZC [1] Z Z h)

theorem R5 (n1:Int) {r0:BitVec 64} (hf:I8 n1=some r0) (h:Q (.ret (.int .u64 (r0.toNat:Int))) τ):PC 252 [iP n1] τ Q:=by
 unfold I8 at hf; refine BN 10 [.tmp 2] [0] Tryz.func252 Z Z Z Z Z (V 3 Z (C hf Z (fun h1 hf=>?_) fun h1 hf=>?_))
 · refine W 1 Z (AS Z (AO.Vy Z Ea aom Z (AS Z (AO.u64_neg (BitVec.ofInt 64 n1) Z Z Z ?_)))); cases hf; exact N 1 Z (Y Z h)
 refine W 1 Z (AS Z (AO.Vy Z Ea aom Z ?_)); cases hf; exact N 1 Z (Y Z h)

theorem R6 (a1:Int) (b1:Int) {r0:jo} (hf:Cr a1 b1=some r0) (h:Q (.ret (.agg (Ou r0))) τ):PC 217 [iP a1,iP b1] τ Q:=by
 unfold Cr at hf; refine BN 71 [.cell 4 204] [0,1] Tryz.func217 Z Z Z Z Z (W 0 Z (AS Z (AO.aH Z ap4 (fun b4=>?_)))); refine B1 hf fun x1 h1 hf=>U 1 Z (CL Z (R5 _ h1 ?_)); refine B1 hf fun y1 h2 hf=>U 1 Z (CL Z (R5 _ h2 (U 3 Z (AS Z (AO.LH x1 32 Z Z Z Z Z (U 1 Z (AS Z (AO.u64_and x1 (4294967295:BitVec 64) Z Z Z Z Z (U 1 Z (AS Z (AO.LH y1 32 Z Z Z Z Z ?_))))))))))); refine U 1 Z (AS Z (AO.u64_and y1 (4294967295:BitVec 64) Z Z Z Z Z ?_))
 refine B1 hf fun BZ h3 hf=>U 6 Z (AS Z (AO.Bp (x1 &&& (4294967295:BitVec 64)) (y1 &&& (4294967295:BitVec 64)) h3 Z Z Z Z Z ?_)); refine B1 hf fun x2 h4 hf=>U 3 Z (AS Z (AO.Bp (x1 >>> 32) (y1 &&& (4294967295:BitVec 64)) h4 Z Z Z Z Z (U 1 Z (AS Z (AO.LH BZ 32 Z Z Z Z Z (AS Z (AO.Ee x2 (BZ >>> 32) Z Z Z Z Z ?_))))))); refine B1 hf fun x3 h5 hf=>U 3 Z (AS Z (AO.Bp (x1 &&& (4294967295:BitVec 64)) (y1 >>> 32) h5 Z Z Z Z Z ?_)); refine B1 hf fun x4 h6 hf=>?_
 refine U 1 Z (AS Z (AO.adf (x2 + (BZ >>> 32)) (4294967295:BitVec 64) h6 Z Z Z Z Z (AS Z (AO.Ee x3 x4 Z Z Z Z Z (U 3 Z (AS Z (AO.aaM (x1 >>> 32) (y1 >>> 32) Z Z Z Z Z (U 1 Z (AS Z (AO.LH (x2 + (BZ >>> 32)) 32 Z Z Z Z Z ?_)))))))))); refine B1 hf fun x5 h7 hf=>AS Z (AO.Qc ((x1 >>> 32) * (y1 >>> 32)) ((x2 + (BZ >>> 32)) >>> 32) h7 Z Z Z Z Z (U 1 Z (AS Z (AO.LH (x3 + x4) 32 Z Z Z Z Z (AS Z (AO.Ee x5 ((x3 + x4) >>> 32) Z Z Z Z Z (U 1 Z (AS Z (AO.afl (x3 + x4) 32 Z Z Z Z Z ?_)))))))))
 refine U 1 Z (AS Z (AO.u64_and BZ (4294967295:BitVec 64) Z Z Z Z Z ?_)); refine B1 hf fun x6 h8 hf=>AS Z (AO.afm ((x3 + x4) <<< 32) (BZ &&& (4294967295:BitVec 64)) h8 Z Z Z Z Z (AS Z (AO.U8 Z arn ant Z (U 1 Z (AS Z (AO.aH Z ap4 (fun b14=>(Rr 5 [0] Z Z (AS Z (AO.MX Z Zv Z Z ?_)))))))))); refine U 1 Z (AR.and 5 63 68 [4,14] (x:=(!decide (([((x5 + ((x3 + x4) >>> 32)).toNat:Int),(x6.toNat:Int)]:List Int)=([0,0]:List Int)))) Z Z (fun h9=>?_) (fun h9=>?_) ?_)
 · refine Is 63 h9 Z (U 1 Z (GO Z (AO.bV (i:=0) Z Z Z atx Z Z (GO Z (AO.U8 Z arn ant Z (GO Z (AO.ad7 ([((x5 + ((x3 + x4) >>> 32)).toNat:Int),(x6.toNat:Int)]:List Int) ([0,0]:List Int) Z atw aom auj aui auh Z Z Z Z Z Z (aaH [(x5 + ((x3 + x4) >>> 32)),x6]) (aaH [(0:BitVec 64),(0:BitVec 64)]) ?_))))))); exact eU 1 Z (En [68,4,14] Z)
 · refine Is 63 h9 Z ?_; exact eU 5 Z (En [68,4,14] Z)
 cases hf; exact Rx 4 [0,0,1] Z Z (ZC [1] Z Z h)

theorem JC (p1:jo) {r0:Int} {r1:Bool} (hf:rP p1=some (r0,r1)) (h:Q (.ret (.tuple [iP r0,.bool r1])) τ):PC 218 [.agg (Ou p1)] τ Q:=by
 unfold rP at hf; refine BN 37 [.tmp 2,.tmp 3] [0] Tryz.func218 Z Z Z Z Z (W 4 Z (AS Z (AO.uN (sz:=1) 0 Z ant Z Z (by decide) Z ?_))); refine J 3 Z (C hf Z (fun h1 hf=>?_) fun h1 hf=>?_)
 · cases hf; exact M 2 rfl ⟨rfl,_,⟨_,_,rfl,rfl,_,_,rfl,rfl,rfl⟩,[],List.nil_sublist _,h⟩
 refine W 3 Z (AR.and 5 12 17 [1] (x:=(decide (((p1.half.getD 1 0).toNat:Int)≤9223372036854775808))) Z Z (fun h2=>?_) (fun h2=>?_) ?_)
 · refine Is 12 h2 Z (U 1 Z (GO Z (AO.uN (sz:=1) 1 Z ant Z Z (by decide) Z ?_))); exact eU 3 Z (En [17,1] Z)
 · refine Is 12 h2 Z ?_; exact eU 5 Z (En [17,1] Z)
 refine J 1 Z (C hf Z (fun h3 hf=>?_) fun h3 hf=>?_)
 · refine W 1 Z (AS Z (AO.uN (sz:=1) 1 Z ant Z Z (by decide) Z ?_)); refine U 1 Z (AS Z (AO.u64_neg (p1.half.getD 1 0) Z Z Z (AS Z (AO.DU Z aom Ea Z ?_)))); cases hf; exact N 2 rfl ⟨rfl,_,⟨_,_,rfl,rfl,_,_,rfl,rfl,rfl⟩,[],List.nil_sublist _,h⟩
 refine W 4 Z (AR.and 5 27 32 [1] (x:=(decide (((p1.half.getD 1 0).toNat:Int)≤9223372036854775807))) Z Z (fun h4=>?_) (fun h4=>?_) ?_)
 · refine Is 27 h4 Z (U 1 Z (GO Z (AO.uN (sz:=1) 1 Z ant Z Z (by decide) Z ?_))); exact eU 3 Z (En [32,1] Z)
 · refine Is 27 h4 Z ?_; exact eU 5 Z (En [32,1] Z)
 refine J 1 Z (C hf Z (fun h5 hf=>?_) fun h5 hf=>?_)
 · refine W 1 Z (AS Z (AO.uN (sz:=1) 1 Z ant Z Z (by decide) Z ?_)); refine U 1 Z (AS Z (AO.DU Z aom Ea Z ?_)); cases hf; exact N 2 rfl ⟨rfl,_,⟨_,_,rfl,rfl,_,_,rfl,rfl,rfl⟩,[],List.nil_sublist _,h⟩
 cases hf; exact M 2 rfl ⟨rfl,_,⟨_,_,rfl,rfl,_,_,rfl,rfl,rfl⟩,[],List.nil_sublist _,h⟩

theorem acJ (afV:Bool) {r0:Int} (hf:VX afV=some r0) (h:Q (.ret (iP r0)) τ):PC 219 [.bool afV] τ Q:=by
 unfold VX at hf; refine BN 4 [.tmp 2] [0] Tryz.func219 Z Z Z Z Z (V 2 Z (C hf Z (fun h1 hf=>?_) fun h1 hf=>?_))
 · cases hf; exact M 1 Z (Y Z h)
 cases hf; exact M 1 Z (Y Z h)

theorem acK (a1:Int) (b1:Int) {r0:Int} (hf:Md a1 b1=some r0) (h:Q (.ret (iP r0)) τ):PC 174 [iP a1,iP b1] τ Q:=by
 unfold Md at hf; refine BN 21 [.tmp 4] [0,1] Tryz.func174 Z Z Z Z Z ?_; refine B1 hf fun x1 h1 hf=>W 3 Z (CL Z (R6 _ _ h1 (AS Z (AO.aH Z ap4 (fun b5=>?_))))); obtain ⟨n1,ok1,h2,hf⟩:=aY hf; refine Rr 2 [0,0] Z Z (CL Z (JC _ h2 (J 6 Z (C hf Z (fun h3 hf=>?_) fun h3 hf=>?_))))
 · cases hf; exact M 2 Z (Y Z h)
 replace hf:=(aJ _).trans hf; refine B1 hf fun x2 h4 hf=>Wr 2 [0] Z Z (CL Z (acJ _ h4 ?_)); cases hf; exact N 1 Z (Y Z h)

@[reducible] def Ls :fq aD ah→eZ
 | .ok r=>.ret (.agg (aF r))
 | .bad e=>.panic (.iface 89 (.agg [iP e.code]))

theorem EW (op1:Str) (a1:ah) (b1:ah) {rX:fq aD ah} (hf:pJ op1 a1 b1=some rX) (h:Q (Ls rX) τ):PC 133 [.str op1,.agg (aF a1),.agg (aF b1)] τ Q:=by
 unfold pJ at hf; refine BN 46 [.cell 6 25] [0,1,2] Tryz.func133 Z Z Z Z Z (W 2 Z (AS Z (AO.aH Z eY (fun b6=>?_)))); refine B1 hf fun x1 h1 hf=>U 2 Z (CL Z (rJ _ _ _ h1 ?_)); rcases bH hf with ⟨e1,h2,hf⟩ | ⟨_,h2,hf⟩
 · refine CL Z (bF _ _ h2 ?_); cases hf; exact ⟨Z,[],List.nil_sublist _,h⟩
 refine CL Z (bF _ _ h2 (J 3 Z (C hf Z (fun h3 hf=>?_) fun h3 hf=>?_)))
 ·
  rcases bH hf with ⟨e2,h4,hf⟩ | ⟨x2,h4,hf⟩
  · refine W 5 Z (CL Z (oo _ h4 ?_)); cases hf; exact ⟨Z,[],List.nil_sublist _,h⟩
  refine W 5 Z (CL Z (oo _ h4 ?_)); cases hf; exact Rx 1 [0] Z Z (ZC [0] Z Z h)
 refine V 2 Z (C hf Z (fun h5 hf=>?_) fun h5 hf=>?_)
 ·
  refine B1 hf fun x3 h6 hf=>W 4 Z (CL Z (acK _ _ h6 ?_)); rcases bH hf with ⟨e3,h7,hf⟩ | ⟨x4,h7,hf⟩
  · refine CL Z (oo _ h7 ?_); cases hf; exact ⟨Z,[],List.nil_sublist _,h⟩
  refine CL Z (oo _ h7 ?_); cases hf; exact Rx 1 [0] Z Z (ZC [0] Z Z h)
 rcases bH hf with ⟨e4,h8,hf⟩ | ⟨_,h8,hf⟩
 · refine W 3 Z (CL Z (bF _ _ h8 ?_)); cases hf; exact ⟨Z,[],List.nil_sublist _,h⟩
 refine W 3 Z (CL Z (bF _ _ h8 (J 2 Z (C hf Z (fun h9 hf=>?_) fun h9 hf=>?_))))
 ·
  refine B1 hf fun _ h10 hf=>W 4 Z (AS Z (AO.ajn h10 Z Z Z ?_)); rcases bH hf with ⟨e5,h11,hf⟩ | ⟨x5,h11,hf⟩
  · refine CL Z (oo _ h11 ?_); cases hf; exact ⟨Z,[],List.nil_sublist _,h⟩
  refine CL Z (oo _ h11 ?_); cases hf; exact Rx 1 [0] Z Z (ZC [0] Z Z h)
 refine B1 hf fun _ h12 hf=>W 4 Z (AS Z (AO.ajl h12 Z Z Z ?_)); refine B1 hf fun x6 jq hf=>CL Z (uV _ jq ?_); cases hf; exact Rx 1 [0] Z Z (ZC [0] Z Z h)

theorem RN (v1:ah) {r0:Int} (hf:yj v1=some r0) (h:Q (.ret (iP r0)) τ):PC 220 [.agg (aF v1)] τ Q:=by
 unfold yj at hf; refine AC.none (AC.Kq 30 [.tmp 2] [0] Tryz.func220 Z Z Z Z Z ?_); obtain ⟨b1,s1,h1,hf⟩:=aY hf; cases hf; refine AW.sr (AR.step Z Z Z (AO.MW Z Z Z (cs 1 Z (AR.nil [1] Z ?_)))); refine AW.sr (AR.step Z Z Z (AO.aH Z ai7 (fun b3=>(AR.fH Z Z (AO.ig (i:=0) Z Z Z FE Z Z Z Z Z (AR.nil [1,3] Z ?_)))))); refine AW.seq (AW.sr (cs 1 Z (AR.step Z Z Z (AO.call Z _ Z Z atd (KA _ _ ?_)))))
 refine AR.nil [3,7] Z (AW.block (AW.rangeFunc (β:=Int) (X:=Int × ah) Z arW (fun x=>[iP x.1,.agg (aF x.2)]) (fun _=>Z) (by decide) (fun s x=>iK s x.1 x.2) (fun s=>[.box b3 [iP s]]) (fun _=>none) (s0:=0) (s1:=r0) Z Z ?_ ?_ ?_))
 · intro l T' hy; refine HV l T' iK (fun s1 bP v1 b s2 hh=>hy s1 (bP,v1) b s2 hh) 0 v1 1 h1 ⟨⟨_,Z⟩,Z⟩
 ·
  rintro l s ⟨bP,x1⟩ b s2 hh; unfold iK at hh; refine ⟨Z,?_⟩; cases hh; refine zC.seq (zC.region Z (cs 1 Z (AR.nil [3,4,9] Z ?_))); refine zC.region Z (AR.step Z Z Z (AO.aH Z eY (fun b5=>(AR.fH Z Z (AO.ig (i:=0) Z Z Z bY Z Z Z Z Z (AR.nil [3,4,5] Z ?_)))))); refine ⟨Z,(zC.block (zC.seq (zC.seq ?_)))⟩; refine zC.region Z (cs 1 Z (AR.step Z Z Z (AO.bV (i:=0) Z Z Z FE Z Z (cs 2 Z ?_))))
  refine AR.or 4 13 17 [3,4,5] (x:=(x1.kind == 5)) Z Z (fun h2=>?_) (fun h2=>?_) ?_
  · refine AR.is 13 h2 Z (cs 1 Z (AR.go Z Z Z Z Z Z (AO.bV (i:=0) Z Z Z FE Z Z (cs 2 Z ?_)))); refine AR.nil [17,3,4,5] Z ?_; exact ⟨Z,Z,Z,Z⟩
  · refine AR.is 13 h2 Z (cs 4 Z (AR.nil [17,3,4,5] Z ?_)); exact ⟨Z,Z,Z,Z⟩
  refine cs 1 Z (AR.and 5 18 23 [3,4,5] (x:=((x1.aI.length:Int) == 0)) Z Z (fun h2=>?_) (fun h2=>?_) ?_)
  · refine AR.is 18 h2 Z (cs 1 Z (AR.go Z Z Z Z Z Z (AO.bV (i:=0) Z Z Z Oi Z Z (AR.go Z Z Z Z Z Z (AO.aL (l:=x1.aI) Z Z Z Z dN Z (ah.aB _) ?_))))); refine cs 2 Z (AR.nil [23,3,4,5] Z ?_); exact ⟨Z,Z,Z,Z⟩
  · refine AR.is 18 h2 Z (cs 5 Z (AR.nil [23,3,4,5] Z ?_)); exact ⟨Z,Z,Z,Z⟩
  refine AR.nil [3,4,23] Z (zC.cond Z (fun h3=>?_) (fun h3=>?_))
  · rw [show rY bP x1=bS (bP + 1) from if_pos h3]; refine zC.region Z (cs 3 Z (AR.nil [3,4] Z (zC.region Z ?_))); refine AR.step Z Z Z (AO.bV (i:=1) Z Z Z FE Z Z (cs 1 Z (AR.step Z Z Z (AO.max2 Z Z Z Z Z (AR.fH Z Z (AO.ig (i:=1) Z Z Z FE Z Z Z Z Z ?_)))))); refine AR.nil [] Z ?_; exact ⟨Z,.cons _ (List.Sublist.refl _),Z,Z⟩
  rw [show rY bP x1=bP from if_neg (by rw [h3]; simp)]; refine zC.skip (zC.region Z (AR.step Z Z Z (AO.bV (i:=1) Z Z Z FE Z Z (cs 1 Z ?_)))); refine AR.step Z Z Z (AO.max2 Z Z Z Z Z (AR.fH Z Z (AO.ig (i:=1) Z Z Z FE Z Z Z Z Z (AR.nil [] Z ?_)))); exact ⟨Z,.cons _ (List.Sublist.refl _),Z,Z⟩
 intro D; show AW _ _ _ _ _ _ _
 refine AW.sr (AR.step Z Z Z (AO.bV (i:=0) Z Z Z FE Z Z (cs 1 Z (AR.nil [2] Z ?_)))); refine AW.ret ?_; exact ⟨D,[_],Z,Z,_,⟨_,_,Z,Z,Z⟩,[],List.nil_sublist _,h⟩

theorem Pe (y1:av) (c1:av) {r0:Bool} (hf:mF y1 c1=some r0) (h:Q (.ret (.bool r0)) τ):PC 222 [.agg (za y1),.ref (za c1)] τ Q:=by
 unfold mF at hf; refine BN 9 [.tmp 3] [0,1] Tryz.func222 Z Z Z Z Z ?_; cases hf; exact M 8 Z (Y Z h)

theorem vZ (s1:List av) (f1:av→Option Bool) (Wt:FuncId) (f1C:List PV) (f1P:bG Tryz.prog Wt=true) (f1H:∀ a0 b0,f1 a0=some b0→∀ {τ:List bE} {Q:eZ→List bE→Prop},Q (.ret (.bool b0)) τ→PC Wt ([.agg (za a0)] ++ f1C) τ Q) {r0:Int} (hf:jk s1 f1=some r0) (h:Q (.ret (iP r0)) τ):PC 253 [.list (List.map av.cells s1),.fn Wt f1C] τ Q:=by
 unfold jk at hf; refine BN 19 [.tmp 4] [0,1] Tryz.func253 Z Z Z Z Z (W 2 Z (AS Z (AO.aL (l:=s1) Z Z Z Z kW Z Z (J 1 Z (Gc (fun i1=>[(0,.list (List.map av.cells s1)),(1,.fn Wt f1C),(7,iP (s1.length:Int)),(8,iP i1)]) (fun i1=>[]) (fun bW i1=>gJ s1 f1 bW i1=some r0) BIG 0 Z Z hf (fun _ hz=>bQ hz) ?_))))); intro bW i1 hf; rw [gJ] at hf; refine V 1 Z (C hf Z (fun h1 hf=>?_) fun h1 hf=>?_)
 ·
  refine B1 hf fun e1 h2 hf=>W 5 Z (AS Z (AO.aM h2 Z Z Z Z kW (av.aG _) Z ?_)); refine B1 hf fun x1 h3 hf=>U 1 Z (AS Z (AO.call Z _ Z Z f1P (f1H _ _ h3 (J 0 Z (C hf Z (fun h4 hf=>?_) fun h4 hf=>?_)))))
  · cases hf; exact M 2 Z (Y Z h)
  exact M 2 Z ⟨(bS (i1 + 1)),Z,Z,Z,hf⟩
 cases hf; exact M 1 Z (Y Z h)

theorem tV (s1:List av) (f1:av→Option Bool) (Wt:FuncId) (f1C:List PV) (f1P:bG Tryz.prog Wt=true) (f1H:∀ a0 b0,f1 a0=some b0→∀ {τ:List bE} {Q:eZ→List bE→Prop},Q (.ret (.bool b0)) τ→PC Wt ([.agg (za a0)] ++ f1C) τ Q) {r0:Bool} (hf:gK s1 f1=some r0) (h:Q (.ret (.bool r0)) τ):PC 221 [.list (List.map av.cells s1),.fn Wt f1C] τ Q:=by
 unfold gK at hf; refine BN 9 [.tmp 4] [0,1] Tryz.func221 Z Z Z Z Z ?_; refine B1 hf fun x1 h1 hf=>W 3 Z (CL Z (vZ _ f1 Wt f1C f1P @f1H h1 ?_)); cases hf; exact N 2 Z (Y Z h)

theorem Tq (gY:List av) (i1:Int) {r0:Int} (hf:Bn gY i1=some r0) (h:Q (.ret (iP r0)) τ):PC 175 [.list (List.map av.cells gY),iP i1] τ Q:=by
 unfold Bn at hf; refine BN 36 [.tmp 4] [0,1] Tryz.func175 Z Z Z Z Z ?_; refine B1 hf fun e1 h1 hf=>W 3 Z (AS Z (AO.aM h1 Z Z Z Z kW (av.aG _) Z (U 1 Z (AS Z (AO.aH Z apA (fun b5=>(Rr 3 [0,0] Z Z (AS Z (AO.bJ Z Z Z Z cu Z (U 2 Z (AR.or 5 15 20 [0,1,5] (x:=(decide (64 < (e1.name.length:Int)))) Z Z (fun h2=>?_) (fun h2=>?_) ?_)))))))))))
 · refine Is 15 h2 Z (U 1 Z (GO Z (AO.bV (i:=0) Z Z Z adn Z Z (GO Z (AO.bJ Z Z Z Z cu Z ?_))))); exact eU 2 Z (En [20,0,1,5] Z)
 · refine Is 15 h2 Z ?_; exact eU 5 Z (En [20,0,1,5] Z)
 refine J 0 Z (C hf Z (fun h3 hf=>?_) fun h3 hf=>?_)
 · cases hf; exact M 1 Z (Y Z h)
 refine B1 hf fun e2 h4 hf=>Wr 2 [0] Z Z (CL Z (om _ h4 (J 3 Z (C hf Z (fun h5 hf=>?_) fun h5 hf=>?_))))
 · cases hf; exact M 2 Z (Y Z h)
 refine B1 hf fun x1 h6 hf=>Wr 2 [0] Z Z (CL Z (RN _ h6 (J 1 Z (C hf Z (fun h7 hf=>?_) fun h7 hf=>?_))))
 · cases hf; exact M 1 Z (Y Z h)
 refine B1 hf fun x2 h8 hf=>W 2 Z (AS Z (AO.VD h8 Z kW Z Z Z (av.dV) Z ⟨_,Z⟩ (AR.aaO 5 0 Z Z Z Z ?_))); refine B1 hf fun x3 h9 hf=>U 1 Z (CL Z (tV _ (fun z0=>mF z0 e1) 222 [.ref (za e1)] atG (fun _ _ hz=>Pe _ _ hz) h9 (J 0 Z (C hf Z (fun h10 hf=>?_) fun h10 hf=>?_))))
 · cases hf; exact M 1 Z (Y Z h)
 cases hf; exact M 1 Z (Y Z h)

theorem MN (s1:List av) {r0:List av} (hf:gB s1=some r0) (h:Q (.ret (.list (List.map av.cells r0))) τ):PC 176 [.list (List.map av.cells s1)] τ Q:=by
 unfold gB at hf; refine BN 8 [.tmp 2] [0] Tryz.func176 Z Z Z Z Z (W 0 Z (AS Z (AO.nR Z Z (U 1 Z (AS Z (AO.GY Z Z agE (fun b hb=>(J 0 Z (AW.cond Z (fun h1=>?_) (fun h1=>?_))))))))))
 · obtain rfl:s1=[]:=List.map_eq_nil_iff.1 (hb h1); obtain ⟨_,rfl⟩:=F8 hf; refine W 0 Z (AS Z (AO.nR Z Z ?_)); exact N 0 rfl ⟨rfl,_,⟨_,_,rfl,rfl,rfl⟩,_,List.Sublist.refl _,h⟩
 refine W 0 Z (AS Z (AO.wY [] Z Cg Z Z Z Z Z (fun v1=>(U 1 Z (AS Z (AO.eP (i:=0) (l:=[]) (m:=s1) hf Z Z Z Z Z Z Z Cg kW Z Z Z (av.dV) (av.cells_one) (by decide) (fun v2 s2 hs2=>?_))))))); cases hs2; exact N 1 Z (Y Z h)
theorem wh (s1:List av) {r0:List av} (hf:gB s1=some r0) {Q:eZ→List bE→Prop} (h:∀ v,Q (.ret (.val v)) [.buf v r0.length 7 49 (r0.flatMap av.cells)]):PC 176 [.list (List.map av.cells s1)] [] Q:=by
 unfold gB at hf; obtain ⟨hl,e0⟩:=F8 hf; rw [List.nil_append] at e0; subst e0; simp only [List.length_nil,Nat.zero_add] at hl; have hlen:∀ x:av,(av.cells x).length=7:=fun _=>Z; have hone:∀ x:av,(av.cells x).all PV.one=true:=fun _=>Z; refine AC.AZ 8 [.tmp 2] [0] Tryz.func176 Z Z Z Z Z (AW.sr (AR.step Z Z Z (AO.nR Z Z (AR.nil [0] Z ?_)))); refine AW.seq (AW.sr (cs 1 Z (AR.step Z Z Z (AO.GY Z Z agE (fun b hb=>?_)))))
 refine AR.nil [0,4] Z (AW.cond Z (fun h1=>?_) (fun h1=>?_))
 · obtain rfl:r0=[]:=List.map_eq_nil_iff.1 (hb h1); refine AW.sr (AR.step Z Z Z (AO.afN Z Z (AR.nil [2] Z (AW.ak_ 7 49 ?_)))); refine AW.ret ?_; exact ⟨rfl,_,⟨_,_,rfl,rfl,rfl⟩,_,List.Sublist.refl _,h _⟩
 refine AW.skip (AW.sr (AR.step Z Z Z (AO.wY [] Z Cg Z Z Z Z Z (fun v1=>(cs 1 Z ?_))))); refine AR.step Z Z Z (AO.aaC (i:=0) (l2:=List.map av.cells r0) Z Z Z Z Z Z Z Cg kW (fun y hy=>?_) (fun y hy=>?_) ?_ ?_ (fun v2 s1 hs1=>?_))
 · obtain ⟨s,_,rfl⟩:=List.mem_map.1 hy; exact hlen s
 · obtain ⟨s,_,rfl⟩:=List.mem_map.1 hy; exact hone s
 · rw [List.length_map]; unfold rC at hl; unfold maxLen; omega
 · rw [List.length_map]; unfold rC at hl; omega
 cases hs1; refine cs 1 Z (AR.nil [2] Z (AW.ret ?_)); have hv:=h v2; rw [List.flatMap_def,show r0.length=(List.map av.cells r0).length from (List.length_map _).symm] at hv; exact ⟨rfl,_,⟨_,_,rfl,rfl,rfl⟩,_,List.Sublist.refl _,hv⟩


end Go.Proofs.YtangbjfgdmopoaaGreatDoor
