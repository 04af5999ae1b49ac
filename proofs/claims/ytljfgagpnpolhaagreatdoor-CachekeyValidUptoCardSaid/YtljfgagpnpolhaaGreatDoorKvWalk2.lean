/- Proved here: each function does what its functional text says (part 2). -/
import Derived.Test.YtljfgagpnpolhaaGreatDoorKvWalk1
set_option linter.unusedVariables false
set_option linter.unusedSimpArgs false
set_option linter.unusedSectionVars false
namespace Go.Proofs.YtljfgagpnpolhaaGreatDoor
open Go Go.Abs Go.Ft
set_option maxRecDepth 20000
attribute [local irreducible] AO AR AW AC
variable [iF]
variable {τ : List bn} {Q : fq → List bn → Prop}
theorem Pg (bJ:Str) {r0:List au} {r1:Int} {r2:Int} (hf:qJ bJ=some (r0,r1,r2)) (h:Q (.ret (.tuple [.list (List.map au.cells r0),iP r1,iP r2])) τ):PC 92 [.str bJ] τ Q:=by
 unfold qJ at hf; refine BN 77 [.tmp 2,.tmp 3,.tmp 4] [0] Tryz.func92 Z Z Z Z Z (W 0 Z (AS Z (AO.eF Z Z (U 3 Z (AS Z (AO.bC Z Z Z Z bL Z (J 1 Z (C hf Z (fun h1 hf=>?_) fun h1 hf=>?_))))))))
 · refine W 0 Z (AS Z (AO.eF Z Z ?_)); cases hf; exact N 2 Z (Y Z h)
 refine B1 hf fun bO h2 hf=>W 3 Z (CL Z (sQ _ _ h2 (J 1 Z (AW.row 3 146 (LK4 (fun cK v1 eU at2=>[(0,.str bJ),(5,.own v1 (List.map au.cells cK)),(6,iP eU),(7,iP at2)]) (fun cK v1 eU at2=>[.row v1 (List.map au.cells cK).length 3 146]) (fun dw cK v1 eU at2=>jW bJ dw cK eU at2=some (r0,r1,r2)) BIG [] (.slice none 0 0) 0 bO Z Z hf (fun _ _ _ _ hz=>bQ hz) ?_))))); intro dw cK v1 eU at2 hf; rw [jW] at hf; refine W 2 Z (AS Z (AO.bC Z Z Z Z bL Z (J 1 Z (C hf Z (fun h3 hf=>?_) fun h3 hf=>?_))))
 ·
  refine W 1 Z (AS Z (AO.aQ Z nZ (fun b8=>?_))); refine B1 hf fun x1 h4 hf=>Rr 4 [0] Z Z (AS Z (AO.bP h4 Z bL Z Z (J 1 Z (C hf Z (fun h5 hf=>?_) fun h5 hf=>?_))))
  ·
   obtain ⟨x2,wm,e1,h6,hf⟩:=eH hf; refine W 2 Z (CL Z (Ry _ _ h6 (U 4 Z (AS Z (AO.aQ Z nZ (fun b10=>(Rw 5 [0] Z Z (C hf Z (fun h7 hf=>?_) fun h7 hf=>?_))))))))
   · refine W 2 Z (AS Z (AO.eF Z Z ?_)); cases hf; exact N 2 Z (Y Z h)
   refine B1 hf fun b1 h9 hf=>Wr 11 [0,1,1,1] Z Z (AR.dS 18 45 63 false [0,5,6,7,8,9] b1 Z Z (fun h8=>?_) (fun h8=>?_) ?_)
   ·
    refine IF 45 h8 h9 Z fun h9=>?_; refine BR h9 fun b2 h11 h9=>?_; refine U 3 Z (AR.dS 14 48 62 true [0,5,6,7,8,9,45] b2 Z Z (fun h10=>?_) (fun h10=>?_) ?_)
    ·
     replace h11:=j_ h10 h11; refine Is 48 h10 Z (U 1 Z (GO Z (AO.aV (l:=cK) Z Z Z Z gN Z Z ?_))); refine BR h11 fun b3 kY h11=>?_; refine U 2 Z (AR.dS 9 52 61 false [0,5,6,7,8,9,45,48] b3 Z Z (fun h12=>?_) (fun h12=>?_) ?_)
     · replace kY:=jG h12 kY; refine Is 52 h12 Z (U 2 Z (GO Z (AO.aV (l:=cK) Z Z Z Z gN Z Z ?_))); refine B1 kY fun e2 lu kY=>U 1 Z (GO Z (AO.cZ lu Z Z Z Z gN (au.aT _) Z ?_)); cases kY; exact eD 4 Z (En [61,0,5,6,7,8,9,45,48] Z)
     · refine IT 52 h12 kY Z fun kY=>?_; cases kY; exact eD 9 Z (En [61,0,5,6,7,8,9,45,48] Z)
     cases h11; exact eD 1 Z (En [62,0,5,6,7,8,9,45] Z)
    · refine IF 48 h10 h11 Z fun h11=>?_; cases h11; exact eD 14 Z (En [62,0,5,6,7,8,9,45] Z)
    cases h9; exact eD 1 Z (En [63,0,5,6,7,8,9] Z)
   · refine IT 45 h8 h9 Z fun h9=>?_; cases h9; exact eD 18 Z (En [63,0,5,6,7,8,9] Z)
   refine J 0 Z (C hf Z (fun pK hf=>?_) fun pK hf=>?_)
   ·
    refine Wr 2 [1] rfl rfl (AS rfl (AO.bS (List.map au.cells [(au.mk x2.kind x2.text at2)]) rfl Ad rfl rfl rfl (by first | rfl | simp only [List.map,au.aT]) ?_)); refine B1 hf fun qc h16 hf=>AS Z (AO.iJ (i:=2) (l:=cK) (m:=[(au.mk x2.kind x2.text at2)]) h16 Z Z Z Z Z Z Z Ad gN Z Z Z (au.dU) (au.cells_one) (by decide) (fun v2 s1 hs1=>?_)); cases hs1; refine B1 hf fun KJ wV hf=>Rr 3 [1] Z Z (CL Z (yg _ _ wV ?_)); refine B1 hf fun at3 h18 hf=>U 5 Z (CL Z (sQ _ _ h18 (eD 1 Z (AR.drop1 (AR.drop1 ?_)))))
    exact N 0 Z ⟨qc,v2,KJ,at3,Z,Z,Z,hf⟩
   refine B1 hf fun Xr h19 hf=>Wr 2 [1] Z Z (CL Z (yg _ _ h19 ?_)); refine B1 hf fun at4 h20 hf=>U 5 Z (CL Z (sQ _ _ h20 (eD 1 Z (AR.drop1 (AR.drop1 ?_))))); exact N 0 Z ⟨cK,v1,Xr,at4,Z,Z,Z,hf⟩
  refine B1 hf fun b4 h22 hf=>Wr 7 [0,0] Z Z (AR.dS 18 45 63 false [0,5,6,7,8,9] b4 Z Z (fun h21=>?_) (fun h21=>?_) ?_)
  ·
   refine IF 45 h21 h22 Z fun h22=>?_; refine BR h22 fun b5 Mi h22=>?_; refine U 3 Z (AR.dS 14 48 62 true [0,5,6,7,8,9,45] b5 Z Z (fun h23=>?_) (fun h23=>?_) ?_)
   ·
    replace Mi:=j_ h23 Mi; refine Is 48 h23 Z (U 1 Z (GO Z (AO.aV (l:=cK) Z Z Z Z gN Z Z ?_))); refine BR Mi fun b6 Tf Mi=>?_; refine U 2 Z (AR.dS 9 52 61 false [0,5,6,7,8,9,45,48] b6 Z Z (fun R8=>?_) (fun R8=>?_) ?_)
    · replace Tf:=jG R8 Tf; refine Is 52 R8 Z (U 2 Z (GO Z (AO.aV (l:=cK) Z Z Z Z gN Z Z ?_))); refine B1 Tf fun e3 h27 Tf=>U 1 Z (GO Z (AO.cZ h27 Z Z Z Z gN (au.aT _) Z ?_)); cases Tf; exact eD 4 Z (En [61,0,5,6,7,8,9,45,48] Z)
    · refine IT 52 R8 Tf Z fun Tf=>?_; cases Tf; exact eD 9 Z (En [61,0,5,6,7,8,9,45,48] Z)
    cases Mi; exact eD 1 Z (En [62,0,5,6,7,8,9,45] Z)
   · refine IF 48 h23 Mi Z fun Mi=>?_; cases Mi; exact eD 14 Z (En [62,0,5,6,7,8,9,45] Z)
   cases h22; exact eD 1 Z (En [63,0,5,6,7,8,9] Z)
  · refine IT 45 h21 h22 Z fun h22=>?_; cases h22; exact eD 18 Z (En [63,0,5,6,7,8,9] Z)
  refine J 0 Z (C hf Z (fun h28 hf=>?_) fun h28 hf=>?_)
  ·
   refine Wr 2 [0] rfl rfl (AS rfl (AO.bS (List.map au.cells [(au.mk 5 ([]:Str) at2)]) rfl Ad rfl rfl rfl (by first | rfl | simp only [List.map,au.aT]) ?_)); refine B1 hf fun rY h29 hf=>AS Z (AO.iJ (i:=1) (l:=cK) (m:=[(au.mk 5 ([]:Str) at2)]) h29 Z Z Z Z Z Z Z Ad gN Z Z Z (au.dU) (au.cells_one) (by decide) (fun v3 s2 hs2=>?_)); cases hs2; refine B1 hf fun Xq h30 hf=>Rr 3 [0] Z Z (CL Z (yg _ _ h30 ?_)); refine B1 hf fun at5 h31 hf=>U 5 Z (CL Z (sQ _ _ h31 (eD 1 Z (AR.drop1 ?_))))
   exact N 0 Z ⟨rY,v3,Xq,at5,Z,Z,Z,hf⟩
  refine B1 hf fun Xp h32 hf=>Wr 2 [0] Z Z (CL Z (yg _ _ h32 ?_)); refine B1 hf fun at6 h33 hf=>U 5 Z (CL Z (sQ _ _ h33 (eD 1 Z (AR.drop1 ?_)))); exact N 0 Z ⟨cK,v1,Xp,at6,Z,Z,Z,hf⟩
 cases hf; exact M 4 Z (Y Z h)
theorem lS (iO:List au) (bO:Int) (s1:Str) {r0:Bool} (hf:oH iO bO s1=some r0) (h:Q (.ret (.bool r0)) τ):PC 152 [.list (List.map au.cells iO),iP bO,.str s1] τ Q:=by
 unfold oH at hf; refine BN 28 [.tmp 6] [0,1,2] Tryz.func152 Z Z Z Z Z (W 3 Z (AS Z (AO.aV (l:=iO) Z Z Z Z gN Z Z ?_))); refine B1 hf fun b1 h2 hf=>U 2 Z (AR.dS 7 11 18 true [0,1,2] b1 Z Z (fun h1=>?_) (fun h1=>?_) ?_)
 · refine IT 11 h1 h2 Z fun h2=>?_; refine B1 h2 fun e1 h3 h2=>U 2 Z (GO Z (AO.cZ h3 Z Z Z Z gN (au.aT _) Z ?_)); cases h2; exact eD 4 Z (En [18,0,1,2] Z)
 · refine IF 11 h1 h2 Z fun h2=>?_; cases h2; exact eD 7 Z (En [18,0,1,2] Z)
 refine BR hf fun b2 h5 hf=>?_; refine U 1 Z (AR.dS 8 19 27 true [] b2 Z Z (fun h4=>?_) (fun h4=>?_) ?_)
 · refine IT 19 h4 h5 Z fun h5=>?_; refine B1 h5 fun e2 h6 h5=>U 2 Z (GO Z (AO.cZ h6 Z Z Z Z gN (au.aT _) Z ?_)); cases h5; exact eD 5 Z (En [27] Z)
 · refine IF 19 h4 h5 Z fun h5=>?_; cases h5; exact eD 8 Z (En [27] Z)
 cases hf; exact N 1 Z (Y Z h)
theorem sO (v1:av) {r0:aj} (hf:qI v1=some r0) (h:Q (.ret (.agg (cB r0))) τ):PC 309 [.agg (dB v1)] τ Q:=by
 unfold qI at hf; refine BN 5 [.cell 2 111] [0] Tryz.func309 Z Z Z Z Z (W 1 Z (AS Z (AO.aQ Z fF (fun b2=>?_)))); cases hf; exact Rx 3 [0] Z Z (ZC [0] Z Z h)
theorem LJ (s1:Str) {r0:Bool} (hf:AZ s1=some r0) (h:Q (.ret (.bool r0)) τ):PC 129 [.str s1] τ Q:=by
 unfold AZ at hf; refine BN 34 [.tmp 2] [0] Tryz.func129 Z Z Z Z Z (V 2 Z (CK (fun i1=>[(0,.str s1),(3,iP i1)]) (fun i1=>[]) (fun dw i1=>wL s1 dw i1=some r0) BIG 0 Z Z hf (fun _ hz=>bQ hz) ?_)); intro dw i1 hf; rw [wL] at hf; refine W 2 Z (AS Z (AO.bC Z Z Z Z bL Z (J 1 Z (C hf Z (fun h1 hf=>?_) fun h1 hf=>?_))))
 ·
  refine B1 hf fun x1 h2 hf=>W 2 Z (AS Z (AO.bP h2 Z bL Z Z ?_)); refine B1 hf fun x2 h3 hf=>CL Z (Gv _ h3 ?_); refine B1 hf fun b1 h5 hf=>U 2 Z (AR.dS 10 15 25 true [0,3] b1 Z Z (fun h4=>?_) (fun h4=>?_) ?_)
  ·
   refine IT 15 h4 h5 Z fun h5=>?_; refine BR h5 fun b2 h7 h5=>?_; refine U 3 Z (AR.dS 6 18 24 false [0,3,15] b2 Z Z (fun h6=>?_) (fun h6=>?_) ?_)
   · refine IF 18 h6 h7 Z fun h7=>?_; refine B1 h7 fun x3 h8 h7=>U 2 Z (GO Z (AO.bP h8 Z bL Z Z ?_)); refine B1 h7 fun x4 h9 h7=>GO Z (AO.call Z _ Z Z SF (uh _ h9 ?_)); cases h7; exact eD 2 Z (En [24,0,3,15] Z)
   · refine IT 18 h6 h7 Z fun h7=>?_; cases h7; exact eD 6 Z (En [24,0,3,15] Z)
   cases h5; exact eD 1 Z (En [25,0,3] Z)
  · refine IF 15 h4 h5 Z fun h5=>?_; cases h5; exact eD 10 Z (En [25,0,3] Z)
  refine J 0 Z (C hf Z (fun h10 hf=>?_) fun h10 hf=>?_)
  · cases hf; exact M 1 Z (Y Z h)
  exact M 3 Z ⟨(bI (i1 + 1)),Z,Z,Z,hf⟩
 refine W 1 Z (AS Z (AO.bC Z Z Z Z bL Z (U 2 Z (AR.and 4 29 33 [] (x:=(decide ((s1.length:Int)≤64))) Z Z (fun h11=>?_) (fun h11=>?_) ?_))))
 · refine Is 29 h11 Z (U 1 Z (GO Z (AO.bC Z Z Z Z bL Z ?_))); exact eD 2 Z (En [33] Z)
 · refine Is 29 h11 Z ?_; exact eD 4 Z (En [33] Z)
 cases hf; exact N 1 Z (Y Z h)
theorem wZ (s1:Str) {r0:Bool} (hf:ql s1=some r0) (h:Q (.ret (.bool r0)) τ):PC 101 [.str s1] τ Q:=by
 unfold ql at hf; refine BN 17 [.tmp 2] [0] Tryz.func101 Z Z Z Z Z ?_; refine B1 hf fun x1 h1 hf=>W 2 Z (CL Z (LJ _ h1 (U 1 Z (An 3 5 8 [0] (!(s1 == ([116,114,117,101]:Str))) Z Z Z Z (U 1 Z (An 3 9 12 [0] (!(s1 == ([102,97,108,115,101]:Str))) Z Z Z Z (U 1 Z (An 3 13 16 [] (!(s1 == ([110,117,108,108]:Str))) Z Z Z Z ?_)))))))); cases hf; exact N 1 Z (Y Z h)
theorem VQ (t1:au) {r0:Bool} (hf:FU t1=some r0) (h:Q (.ret (.bool r0)) τ):PC 365 [.agg (mF t1)] τ Q:=by
 unfold FU at hf; refine BN 22 [.tmp 2] [0] Tryz.func365 Z Z Z Z Z ?_; refine B1 hf fun b1 h2 hf=>W 6 Z (AR.dS 4 6 10 true [1] b1 Z Z (fun h1=>?_) (fun h1=>?_) ?_)
 · refine IT 6 h1 h2 Z fun h2=>?_; refine BR h2 fun x1 h3 h2=>?_; refine U 2 Z (GO Z (AO.call Z _ Z Z aa6 (LJ _ h3 ?_))); cases h2; exact eD 1 Z (En [10,1] Z)
 · refine IF 6 h1 h2 Z fun h2=>?_; cases h2; exact eD 4 Z (En [10,1] Z)
 refine U 1 Z (AR.or 10 11 21 [] (x:=((t1.kind == 3) && (decide ((t1.text.length:Int)≤4096)))) Z Z (fun h4=>?_) (fun h4=>?_) ?_)
 ·
  refine Is 11 h4 Z (U 4 Z (AR.and 5 15 20 [11] (x:=(decide ((t1.text.length:Int)≤4096))) Z Z (fun h5=>?_) (fun h5=>?_) ?_))
  · refine Is 15 h5 Z (U 2 Z (GO Z (AO.bC Z Z Z Z bL Z ?_))); exact eD 2 Z (En [20,11] Z)
  · refine Is 15 h5 Z ?_; exact eD 5 Z (En [20,11] Z)
  exact eD 1 Z (En [21] Z)
 · refine Is 11 h4 Z ?_; exact eD 10 Z (En [21] Z)
 cases hf; exact N 1 Z (Y Z h)
theorem mh (iO:List au) (bO:Int) {r0:Int} (hf:kD iO bO=some r0) (h:Q (.ret (iP r0)) τ):PC 153 [.list (List.map au.cells iO),iP bO] τ Q:=by
 unfold kD at hf; refine BN 9 [.tmp 4] [0,1] Tryz.func153 Z Z Z Z Z (W 3 Z (AS Z (AO.aV (l:=iO) Z Z Z Z gN Z Z (J 1 Z (C hf Z (fun h1 hf=>?_) fun h1 hf=>?_)))))
 · cases hf; exact M 1 Z (Y Z h)
 cases hf; exact M 1 Z (Y Z h)
theorem DL (op1:Str) {r0:Int} (hf:rA op1=some r0) (h:Q (.ret (iP r0)) τ):PC 191 [.str op1] τ Q:=by
 unfold rA at hf; refine BN 22 [.tmp 2] [0] Tryz.func191 Z Z Z Z Z (V 4 Z (C hf Z (fun h1 hf=>?_) fun h1 hf=>?_))
 · cases hf; exact M 1 Z (Y Z h)
 refine V 2 Z (C hf Z (fun h2 hf=>?_) fun h2 hf=>?_)
 · cases hf; exact M 1 Z (Y Z h)
 refine V 2 Z (C hf Z (fun h3 hf=>?_) fun h3 hf=>?_)
 ·
  refine V 0 Z (AW.cond Z (fun h4=>?_) (fun h4=>?_))
  · cases hf; exact M 1 Z (Y Z h)
  cases h3.symm.trans h4
 refine V 2 Z (C hf Z (fun h5 hf=>?_) fun h5 hf=>?_)
 ·
  refine V 0 Z (AW.cond Z (fun h6=>?_) (fun h6=>?_))
  · cases hf; exact M 1 Z (Y Z h)
  cases h5.symm.trans h6
 refine V 2 Z (C hf Z (fun h7 hf=>?_) fun h7 hf=>?_)
 ·
  refine V 0 Z (AW.cond Z (fun h8=>?_) (fun h8=>?_))
  · cases hf; exact M 1 Z (Y Z h)
  cases h7.symm.trans h8
 refine V 2 Z (C hf Z (fun h9 hf=>?_) fun h9 hf=>?_)
 ·
  refine V 0 Z (AW.cond Z (fun h10=>?_) (fun h10=>?_))
  · cases hf; exact M 1 Z (Y Z h)
  cases h9.symm.trans h10
 refine V 2 Z (C hf Z (fun h11 hf=>?_) fun h11 hf=>?_)
 ·
  refine V 0 Z (AW.cond Z (fun h12=>?_) (fun h12=>?_))
  · cases hf; exact M 1 Z (Y Z h)
  cases h11.symm.trans h12
 refine V 2 Z (C hf Z (fun kY hf=>?_) fun kY hf=>?_)
 · cases hf; exact M 1 Z (Y Z h)
 refine V 2 Z (C hf Z (fun lu hf=>?_) fun lu hf=>?_)
 ·
  refine V 0 Z (AW.cond Z (fun pK=>?_) (fun pK=>?_))
  · cases hf; exact M 1 Z (Y Z h)
  cases lu.symm.trans pK
 refine V 2 Z (C hf Z (fun h16 hf=>?_) fun h16 hf=>?_)
 · cases hf; exact M 1 Z (Y Z h)
 refine V 2 Z (C hf Z (fun wV hf=>?_) fun wV hf=>?_)
 ·
  refine V 0 Z (AW.cond Z (fun h18=>?_) (fun h18=>?_))
  · cases hf; exact M 1 Z (Y Z h)
  cases wV.symm.trans h18
 refine V 2 Z (C hf Z (fun h19 hf=>?_) fun h19 hf=>?_)
 ·
  refine V 0 Z (AW.cond Z (fun h20=>?_) (fun h20=>?_))
  · cases hf; exact M 1 Z (Y Z h)
  cases h19.symm.trans h20
 refine V 2 Z (C hf Z (fun h21 hf=>?_) fun h21 hf=>?_)
 · cases hf; exact M 1 Z (Y Z h)
 cases hf; exact M 1 Z (Y Z h)
abbrev jO (aW:List au→Int→Option (aj × Int × Int)):Prop:=∀ (fV:List au) (f_:Int) {bY:aj} {fH:Int} {fG:Int},aW fV f_=some (bY,fH,fG)→∀ {τ:List bn} {Q:fq→List bn→Prop} (h:Q (.ret (.tuple [.agg (cB bY),iP fH,iP fG])) τ),PC 119 [.list (List.map au.cells fV),iP f_] τ Q
abbrev jN (bB:List au→Int→Int→Option (aj × Int × Int)):Prop:=∀ (fV:List au) (f_:Int) (lM:Int) {bY:aj} {fH:Int} {fG:Int},bB fV f_ lM=some (bY,fH,fG)→∀ {τ:List bn} {Q:fq→List bn→Prop} (h:Q (.ret (.tuple [.agg (cB bY),iP fH,iP fG])) τ),PC 151 [.list (List.map au.cells fV),iP f_,iP lM] τ Q
abbrev nX (dG:List au→Int→Option (aj × Int × Int)):Prop:=∀ (fV:List au) (f_:Int) {bY:aj} {fH:Int} {fG:Int},dG fV f_=some (bY,fH,fG)→∀ {τ:List bn} {Q:fq→List bn→Prop} (h:Q (.ret (.tuple [.agg (cB bY),iP fH,iP fG])) τ),PC 190 [.list (List.map au.cells fV),iP f_] τ Q
abbrev nY (dH:List au→Int→Option (aj × Int × Int)):Prop:=∀ (fV:List au) (f_:Int) {bY:aj} {fH:Int} {fG:Int},dH fV f_=some (bY,fH,fG)→∀ {τ:List bn} {Q:fq→List bn→Prop} (h:Q (.ret (.tuple [.agg (cB bY),iP fH,iP fG])) τ),PC 237 [.list (List.map au.cells fV),iP f_] τ Q
abbrev pX (dQ:List au→Int→Option (aj × Int × Int)):Prop:=∀ (fV:List au) (f_:Int) {bY:aj} {fH:Int} {fG:Int},dQ fV f_=some (bY,fH,fG)→∀ {τ:List bn} {Q:fq→List bn→Prop} (h:Q (.ret (.tuple [.agg (cB bY),iP fH,iP fG])) τ),PC 270 [.list (List.map au.cells fV),iP f_] τ Q
abbrev pV (dP:List au→Int→Option (aj × Int × Int)):Prop:=∀ (fV:List au) (f_:Int) {bY:aj} {fH:Int} {fG:Int},dP fV f_=some (bY,fH,fG)→∀ {τ:List bn} {Q:fq→List bn→Prop} (h:Q (.ret (.tuple [.agg (cB bY),iP fH,iP fG])) τ),PC 310 [.list (List.map au.cells fV),iP f_] τ Q
abbrev pW (dM:List au→Int→Str→Bool→Option (List aj × List Str × Int × Int)):Prop:=∀ (fV:List au) (f_:Int) (mY:Str) (mX:Bool) {bY:List aj} {fH:List Str} {fG:Int} {GY:Int},dM fV f_ mY mX=some (bY,fH,fG,GY)→∀ {τ:List bn} {Q:fq→List bn→Prop} (h:Q (.ret (.tuple [.list (aj.dV bY),sP fH,iP fG,iP GY])) τ),PC 344 [.list (List.map au.cells fV),iP f_,.str mY,.bool mX] τ Q
abbrev kg (bV:List au→Int→Option (aj × Int × Int)):Prop:=∀ (fV:List au) (f_:Int) {bY:aj} {fH:Int} {fG:Int},bV fV f_=some (bY,fH,fG)→∀ {τ:List bn} {Q:fq→List bn→Prop} (h:Q (.ret (.tuple [.agg (cB bY),iP fH,iP fG])) τ),PC 311 [.list (List.map au.cells fV),iP f_] τ Q
theorem Jg (aW) (fQ:jO aW) (bB) (iQ:jN bB) (dG) (kT:nX dG) (dH) (l9:nY dH) (dQ) (nQ:pX dQ) (dP) (nP:pV dP) (dM) (kU:pW dM) (bV) (jS:kg bV) (iO:List au) (bO:Int) {r0:aj} {r1:Int} {r2:Int} (hf:sV aW bB dG dH dQ dP dM bV iO bO=some (r0,r1,r2)) (h:Q (.ret (.tuple [.agg (cB r0),iP r1,iP r2])) τ):PC 119 [.list (List.map au.cells iO),iP bO] τ Q:=by
 unfold sV at hf; refine BN 66 [.cell 4 111,.tmp 5,.tmp 6] [0,1] Tryz.func119 Z Z Z Z Z (W 0 Z (AS Z (AO.aQ Z fF (fun b4=>?_)))); obtain ⟨x1,at2,e1,h1,hf⟩:=eH hf; refine U 4 Z (CL Z (iQ _ _ _ h1 (U 4 Z (AS Z (AO.aQ Z fF (fun b7=>?_)))))); refine B1 hf fun b1 h3 hf=>Rr 6 [0] Z Z (AR.dS 5 20 25 false [0,1,4,7,8] b1 Z Z (fun h2=>?_) (fun h2=>?_) ?_)
 · refine IF 20 h2 h3 Z fun h3=>?_; refine B1 h3 fun x2 h4 h3=>U 2 Z (GO Z (AO.call Z _ Z Z KD (lS _ _ _ h4 ?_))); cases h3; exact eD 2 Z (En [25,0,1,4,7,8] Z)
 · refine IT 20 h2 h3 Z fun h3=>?_; cases h3; exact eD 5 Z (En [25,0,1,4,7,8] Z)
 refine J 0 Z (C hf Z (fun h5 hf=>?_) fun h5 hf=>?_)
 · cases hf; exact Wx 6 [0,1] Z Z (ZC [1] Z Z h)
 obtain ⟨x3,at3,e2,h6,hf⟩:=eH hf; refine W 3 Z (CL Z (fQ _ _ h6 (U 4 Z (AS Z (AO.aQ Z fF (fun b9=>(Rw 5 [0] Z Z (C hf Z (fun h7 hf=>?_) fun h7 hf=>?_))))))))
 · cases hf; exact Wx 6 [2] Z Z (ZC [2] Z Z h)
 refine B1 hf fun x4 h8 hf=>W 2 Z (CL Z (lS _ _ _ h8 (J 1 Z (C hf Z (fun h9 hf=>?_) fun h9 hf=>?_))))
 · refine B1 hf fun x5 h10 hf=>W 4 Z (CL Z (mh _ _ h10 ?_)); cases hf; exact Rx 3 [2] Z Z (ZC [2] Z Z h)
 obtain ⟨x6,at4,e3,h11,hf⟩:=eH hf; refine W 3 rfl (CL rfl (fQ _ _ h11 (U 4 rfl (AS rfl (AO.aQ rfl fF (fun b10=>(Rr 6 [0,2,1,0] rfl rfl (AS rfl (AO.bS (aj.dV [x1,x3,x6]) rfl om rfl rfl rfl (by first | rfl | simp only [List.map,aj.aT,aj.dV]) ?_))))))))); cases hf; exact Rx 6 [3] Z Z (ZC [3] Z Z h)
theorem Jf (aW) (fQ:jO aW) (bB) (iQ:jN bB) (dG) (kT:nX dG) (dH) (l9:nY dH) (dQ) (nQ:pX dQ) (dP) (nP:pV dP) (dM) (kU:pW dM) (bV) (jS:kg bV) (iO:List au) (bO:Int) (kM:Int) {r0:aj} {r1:Int} {r2:Int} (hf:pY aW bB dG dH dQ dP dM bV iO bO kM=some (r0,r1,r2)) (h:Q (.ret (.tuple [.agg (cB r0),iP r1,iP r2])) τ):PC 151 [.list (List.map au.cells iO),iP bO,iP kM] τ Q:=by
 unfold pY at hf; refine BN 92 [.cell 6 111,.tmp 7,.tmp 8] [0,1,2] Tryz.func151 Z Z Z Z Z (W 0 Z (AS Z (AO.aQ Z fF (fun b6=>(J 4 Z (C hf Z (fun h1 hf=>?_) fun h1 hf=>?_))))))
 · replace hf:=(oW _).trans hf; obtain ⟨x1,x2,x3,h2,hf⟩:=eH hf; refine W 2 Z (CL Z (kT _ _ h2 ?_)); cases hf; exact Rx 6 [0] Z Z (ZC [0] Z Z h)
 obtain ⟨x4,at2,e1,h3,hf⟩:=eH hf; refine W 4 Z (CL Z (iQ _ _ _ h3 (U 4 Z (AS Z (AO.aQ Z fF (fun b9=>?_)))))); refine Rw 4 [0] Z Z (LK4 (fun at3 e2 n1 xD=>[(0,.list (List.map au.cells iO)),(1,iP at3),(2,iP kM),(6,pP b6),(9,pP b9),(10,iP e2),(11,iP n1)]) (fun at3 e2 n1 xD=>[.box b9 (cB xD),.box b6 [iP 0,.str ([]:Str),iP 0,.bool false,iP 0,.str ([]:Str),.own (.slice none 0 0) [],.own (.slice none 0 0) [],.own (.slice none 0 0) [],.own (.slice none 0 0) []]]) (fun dw at3 e2 n1 xD=>jB bB iO kM dw at3 e2 n1 xD=some (r0,r1,r2)) BIG at2 e1 0 x4 Z Z hf (fun _ _ _ _ hz=>bQ hz) ?_); intro dw at3 e2 n1 xD hf; rw [jB] at hf; refine W 3 Z (AR.and 5 34 39 [0,1,2,6,9,10,11] (x:=(decide (at3 < (iO.length:Int)))) Z Z (fun h4=>?_) (fun h4=>?_) ?_)
 · refine Is 34 h4 Z (U 2 Z (GO Z (AO.aV (l:=iO) Z Z Z Z gN Z Z ?_))); exact eD 2 Z (En [39,0,1,2,6,9,10,11] Z)
 · refine Is 34 h4 Z ?_; exact eD 5 Z (En [39,0,1,2,6,9,10,11] Z)
 refine B1 hf fun b1 h6 hf=>U 1 Z (AR.dS 7 40 47 true [0,1,2,6,9,10,11] b1 Z Z (fun h5=>?_) (fun h5=>?_) ?_)
 · refine IT 40 h5 h6 Z fun h6=>?_; refine B1 h6 fun e3 h7 h6=>U 2 Z (GO Z (AO.cZ h7 Z Z Z Z gN (au.aT _) Z ?_)); cases h6; exact eD 4 Z (En [47,0,1,2,6,9,10,11] Z)
 · refine IF 40 h5 h6 Z fun h6=>?_; cases h6; exact eD 7 Z (En [47,0,1,2,6,9,10,11] Z)
 refine B1 hf fun b2 h9 hf=>U 1 Z (AR.dS 9 48 57 true [0,1,2,6,9,10,11] b2 Z Z (fun h8=>?_) (fun h8=>?_) ?_)
 · refine IT 48 h8 h9 Z fun h9=>?_; refine B1 h9 fun e4 h10 h9=>U 2 Z (GO Z (AO.cZ h10 Z Z Z Z gN (au.aT _) Z ?_)); refine B1 h9 fun x5 h11 h9=>U 2 Z (GO Z (AO.call Z _ Z Z aaT (DL _ h11 ?_))); cases h9; exact eD 3 Z (En [57,0,1,2,6,9,10,11] Z)
 · refine IF 48 h8 h9 Z fun h9=>?_; cases h9; exact eD 9 Z (En [57,0,1,2,6,9,10,11] Z)
 refine U 1 Z (AR.and 7 58 65 [0,1,2,6,9,10,11] (x:=((n1 == 0) || (kM != 4))) Z Z (fun h12=>?_) (fun h12=>?_) ?_)
 · refine Is 58 h12 Z (U 3 Z (On 3 61 64 [0,1,2,6,9,10,11,58] (kM != 4) Z Z Z Z ?_)); exact eD 1 Z (En [65,0,1,2,6,9,10,11] Z)
 · refine Is 58 h12 Z ?_; exact eD 7 Z (En [65,0,1,2,6,9,10,11] Z)
 refine J 0 Z (C hf Z (fun lu hf=>?_) fun lu hf=>?_)
 ·
  obtain ⟨x6,g_,f1,pK,hf⟩:=eH hf; refine W 5 Z (CL Z (iQ _ _ _ pK (U 4 Z (AS Z (AO.aQ Z fF (fun b12=>(Rw 3 [0] Z Z (AW.draw 9 mixed (by kernel_rfl) Z ?_)))))))); refine Ev.cs dh 2 Z ?_; refine B1 hf fun e5 h16 hf=>Ev.cons Z Z Z (AO.cZ h16 Z Z Z Z gN (au.aT _) Z zg) (Ev.cs dh 2 Z (Ev.cons Z Z Z (AO.eP (i:=1) Z Z Z iL Z Z zg) (Ev.cons Z Z Z (AO.eP (i:=0) Z Z Z iL Z Z zg) ?_))); refine Ev.cons rfl rfl rfl (AO.bS (aj.dV [xD,x6]) rfl om rfl rfl rfl (by first | rfl | simp only [List.map,aj.aT,aj.dV]) ⟨rfl,rfl⟩) ?_; refine Ev.cons Z Z Z (AO.build Z fF BG Z zg) (Ev.nil ?_); show AR _ _ _ _ _ _ _ _
  refine Rn 8 [1] Z Z (AR.drop1 (AR.Iy 0 Z ?_)); exact N 0 Z ⟨g_,f1,(bI (n1 + 1)),(aj.mk 7 e5.text (av.mk 0 false 0 ([]:Str) [] []) [xD,x6] []),Z,Z,Z,hf⟩
 cases hf; exact Wx 6 [0,1] Z Z (ZC [1] Z Z h)
theorem PN (aW) (fQ:jO aW) (bB) (iQ:jN bB) (dG) (kT:nX dG) (dH) (l9:nY dH) (dQ) (nQ:pX dQ) (dP) (nP:pV dP) (dM) (kU:pW dM) (bV) (jS:kg bV) (iO:List au) (bO:Int) {r0:aj} {r1:Int} {r2:Int} (hf:zF aW bB dG dH dQ dP dM bV iO bO=some (r0,r1,r2)) (h:Q (.ret (.tuple [.agg (cB r0),iP r1,iP r2])) τ):PC 190 [.list (List.map au.cells iO),iP bO] τ Q:=by
 unfold zF at hf; refine BN 44 [.cell 4 111,.tmp 5,.tmp 6] [0,1] Tryz.func190 Z Z Z Z Z (W 0 Z (AS Z (AO.aQ Z fF (fun b4=>?_)))); refine B1 hf fun x1 h1 hf=>U 4 Z (CL Z (lS _ _ _ h1 ?_)); refine B1 hf fun b1 h3 hf=>U 2 Z (AR.dS 5 14 19 true [0,1,4] b1 Z Z (fun h2=>?_) (fun h2=>?_) ?_)
 · refine IT 14 h2 h3 Z fun h3=>?_; refine B1 h3 fun x2 h4 h3=>U 2 Z (GO Z (AO.call Z _ Z Z KD (lS _ _ _ h4 ?_))); cases h3; exact eD 2 Z (En [19,0,1,4] Z)
 · refine IF 14 h2 h3 Z fun h3=>?_; cases h3; exact eD 5 Z (En [19,0,1,4] Z)
 refine J 0 Z (C hf Z (fun h5 hf=>?_) fun h5 hf=>?_)
 · replace hf:=(oW _).trans hf; obtain ⟨x3,x4,x5,h6,hf⟩:=eH hf; refine W 2 Z (CL Z (l9 _ _ h6 ?_)); cases hf; exact Rx 6 [0] Z Z (ZC [0] Z Z h)
 obtain ⟨x6,g_,e1,h7,hf⟩:=eH hf; refine W 3 Z (CL Z (kT _ _ h7 (U 4 Z (AS Z (AO.aQ Z fF (fun b7=>(Rw 3 [0] Z Z (AW.Gp 8 10 12 1 mixed (by kernel_rfl) (by kernel_rfl) (by kernel_rfl) Z Z Z Z ?_)))))))); refine Ev.cs dh 2 Z ?_; refine B1 hf fun e2 h8 hf=>Ev.cons rfl rfl rfl (AO.cZ h8 rfl rfl rfl rfl gN (au.aT _) rfl ⟨rfl,rfl⟩) (Ev.cs dh 2 rfl (Ev.cons rfl rfl rfl (AO.eP (i:=0) rfl rfl rfl iL rfl rfl ⟨rfl,rfl⟩) (Ev.cons rfl rfl rfl (AO.bS (aj.dV [x6]) rfl om rfl rfl rfl (by first | rfl | simp only [List.map,aj.aT,aj.dV]) ⟨rfl,rfl⟩) ?_)))
 refine Ev.cons Z Z Z (AO.build Z fF BG Z zg) (Ev.nil ?_); show Ev _ _ _ _ _ _ _; refine Ev.cs dh 2 Z (Ev.nil (TF.dF Z Z (AO.fB (i:=0) Z Z Z iL Z Z Z Z Z (TF.step Z Z Z (AO.calc' Z ?_))))); refine TF.nil ?_; show AR _ _ _ _ _ _ _ _; cases hf; exact N 1 Z (ZC [1] Z Z h)
theorem PS (aW) (fQ:jO aW) (bB) (iQ:jN bB) (dG) (kT:nX dG) (dH) (l9:nY dH) (dQ) (nQ:pX dQ) (dP) (nP:pV dP) (dM) (kU:pW dM) (bV) (jS:kg bV) (iO:List au) (bO:Int) {r0:aj} {r1:Int} {r2:Int} (hf:zH aW bB dG dH dQ dP dM bV iO bO=some (r0,r1,r2)) (h:Q (.ret (.tuple [.agg (cB r0),iP r1,iP r2])) τ):PC 237 [.list (List.map au.cells iO),iP bO] τ Q:=by
 unfold zH at hf; refine BN 103 [.cell 4 111,.tmp 5,.tmp 6] [0,1] Tryz.func237 Z Z Z Z Z (W 0 Z (AS Z (AO.aQ Z fF (fun b4=>?_)))); obtain ⟨x1,at2,e1,h1,hf⟩:=eH hf; refine U 4 Z (CL Z (nQ _ _ h1 (U 4 Z (AS Z (AO.aQ Z fF (fun b7=>?_)))))); refine Rw 3 [0] Z Z (JQ (fun at3 x2=>[(0,.list (List.map au.cells iO)),(1,iP at3),(4,pP b4),(7,pP b7),(8,iP e1)]) (fun at3 x2=>[.box b7 (cB x2),.box b4 [iP 0,.str ([]:Str),iP 0,.bool false,iP 0,.str ([]:Str),.own (.slice none 0 0) [],.own (.slice none 0 0) [],.own (.slice none 0 0) [],.own (.slice none 0 0) []]]) (fun dw at3 x2=>lV aW iO e1 dw at3 x2=some (r0,r1,r2)) BIG at2 x1 Z Z hf (fun _ _ hz=>bQ hz) ?_); intro dw at3 x2 hf; rw [lV] at hf; refine B1 hf fun b1 h3 hf=>W 3 Z (AR.dS 9 21 30 true [0,1,4,7,8] b1 Z Z (fun h2=>?_) (fun h2=>?_) ?_)
 ·
  refine IT 21 h2 h3 Z fun h3=>?_; refine B1 h3 fun x3 h4 h3=>U 2 Z (GO Z (AO.call Z _ Z Z KD (lS _ _ _ h4 ?_))); refine BR h3 fun b2 h6 h3=>?_; refine U 1 Z (AR.dS 4 25 29 false [0,1,4,7,8,21] b2 Z Z (fun h5=>?_) (fun h5=>?_) ?_)
  · refine IF 25 h5 h6 Z fun h6=>?_; refine BR h6 fun x4 h7 h6=>?_; refine U 2 Z (GO Z (AO.call Z _ Z Z KD (lS _ _ _ h7 ?_))); cases h6; exact eD 1 Z (En [29,0,1,4,7,8,21] Z)
  · refine IT 25 h5 h6 Z fun h6=>?_; cases h6; exact eD 4 Z (En [29,0,1,4,7,8,21] Z)
  cases h3; exact eD 1 Z (En [30,0,1,4,7,8] Z)
 · refine IF 21 h2 h3 Z fun h3=>?_; cases h3; exact eD 9 Z (En [30,0,1,4,7,8] Z)
 refine J 0 Z (C hf Z (fun h8 hf=>?_) fun h8 hf=>?_)
 ·
  refine B1 hf fun x5 h9 hf=>W 2 Z (CL Z (lS _ _ _ h9 (J 0 Z (C hf Z (fun h10 hf=>?_) fun h10 hf=>?_))))
  ·
   refine W 5 Z (AS Z (AO.aV (l:=iO) Z Z Z Z gN Z Z ?_)); refine B1 hf fun b3 h12 hf=>U 2 Z (AR.dS 7 40 47 false [0,1,4,7,8] b3 Z Z (fun h11=>?_) (fun h11=>?_) ?_)
   · refine IF 40 h11 h12 Z fun h12=>?_; refine B1 h12 fun e2 kY h12=>U 2 Z (GO Z (AO.cZ kY Z Z Z Z gN (au.aT _) Z ?_)); cases h12; exact eD 4 Z (En [47,0,1,4,7,8] Z)
   · refine IT 40 h11 h12 Z fun h12=>?_; cases h12; exact eD 7 Z (En [47,0,1,4,7,8] Z)
   refine B1 hf fun b4 pK hf=>U 1 Z (AR.dS 8 48 56 false [0,1,4,7,8] b4 Z Z (fun lu=>?_) (fun lu=>?_) ?_)
   · refine IF 48 lu pK Z fun pK=>?_; refine B1 pK fun e3 h16 pK=>U 2 Z (GO Z (AO.cZ h16 Z Z Z Z gN (au.aT _) Z ?_)); refine B1 pK fun x6 wV pK=>U 2 Z (GO Z (AO.call Z _ Z Z abd (wZ _ wV ?_))); cases pK; exact eD 2 Z (En [56,0,1,4,7,8] Z)
   · refine IT 48 lu pK Z fun pK=>?_; cases pK; exact eD 8 Z (En [56,0,1,4,7,8] Z)
   refine J 0 Z (C hf Z (fun h18 hf=>?_) fun h18 hf=>?_)
   · refine B1 hf fun x7 h19 hf=>W 4 Z (CL Z (mh _ _ h19 ?_)); cases hf; exact Rx 3 [1] Z Z (ZC [1] Z Z h)
   refine V 0 Z (AW.draw 8 mixed (by kernel_rfl) Z ?_); refine Ev.cs dh 2 Z ?_; refine B1 hf fun e4 h20 hf=>Ev.cons rfl rfl rfl (AO.cZ h20 rfl rfl rfl rfl gN (au.aT _) rfl ⟨rfl,rfl⟩) (Ev.cs dh 2 rfl (Ev.cons rfl rfl rfl (AO.eP (i:=0) rfl rfl rfl iL rfl rfl ⟨rfl,rfl⟩) (Ev.cons rfl rfl rfl (AO.bS (aj.dV [x2]) rfl om rfl rfl rfl (by first | rfl | simp only [List.map,aj.aT,aj.dV]) ⟨rfl,rfl⟩) ?_))); refine Ev.cons Z Z Z (AO.build Z fF BG Z zg) (Ev.nil ?_); show AR _ _ _ _ _ _ _ _
   refine Rv 4 [0] Z Z (AW.Iy 0 Z ?_); exact M 0 Z ⟨(bI ((bI (at3 + 1)) + 1)),(aj.mk 3 e4.text (av.mk 0 false 0 ([]:Str) [] []) [x2] []),Z,Z,Z,hf⟩
  obtain ⟨x8,g_,f1,h21,hf⟩:=eH hf; refine W 3 Z (CL Z (fQ _ _ h21 (U 4 Z (AS Z (AO.aQ Z fF (fun b9=>(Rw 5 [0] Z Z (C hf Z (fun h22 hf=>?_) fun h22 hf=>?_))))))))
  · cases hf; exact Wx 6 [2] Z Z (ZC [2] Z Z h)
  refine B1 hf fun x9 h23 hf=>W 2 Z (CL Z (lS _ _ _ h23 (J 1 Z (C hf Z (fun Mi hf=>?_) fun Mi hf=>?_))))
  · refine B1 hf fun JX R8 hf=>W 4 Z (CL Z (mh _ _ R8 ?_)); cases hf; exact Rx 3 [2] Z Z (ZC [2] Z Z h)
  refine Wr 2 [1,0] rfl rfl (AS rfl (AO.bS (aj.dV [x2,x8]) rfl om rfl rfl rfl (by first | rfl | simp only [List.map,aj.aT,aj.dV]) ?_)); refine Rn 5 [1] Z Z (AR.drop1 (AR.Iy 0 Z ?_)); exact N 0 Z ⟨(bI (g_ + 1)),(aj.mk 4 ([]:Str) (av.mk 0 false 0 ([]:Str) [] []) [x2,x8] []),Z,Z,Z,hf⟩
 cases hf; exact Wx 6 [0,1] Z Z (ZC [1] Z Z h)
theorem Sb (aW) (fQ:jO aW) (bB) (iQ:jN bB) (dG) (kT:nX dG) (dH) (l9:nY dH) (dQ) (nQ:pX dQ) (dP) (nP:pV dP) (dM) (kU:pW dM) (bV) (jS:kg bV) (iO:List au) (bO:Int) {r0:aj} {r1:Int} {r2:Int} (hf:BI aW bB dG dH dQ dP dM bV iO bO=some (r0,r1,r2)) (h:Q (.ret (.tuple [.agg (cB r0),iP r1,iP r2])) τ):PC 270 [.list (List.map au.cells iO),iP bO] τ Q:=by
 unfold BI at hf; refine BN 66 [.cell 4 111,.tmp 5,.tmp 6] [0,1] Tryz.func270 Z Z Z Z Z (W 0 Z (AS Z (AO.aQ Z fF (fun b4=>(U 4 Z (AS Z (AO.aV (l:=iO) Z Z Z Z gN Z Z (J 1 Z (C hf Z (fun h1 hf=>?_) fun h1 hf=>?_)))))))))
 · cases hf; exact Wx 5 [0] Z Z (ZC [0] Z Z h)
 refine B1 hf fun e1 h2 hf=>W 2 Z (AS Z (AO.cZ h2 Z Z Z Z gN (au.aT _) Z (U 1 Z (AS Z (AO.aQ Z nZ (fun b7=>(Rw 5 [0,0] Z Z (C hf Z (fun h3 hf=>?_) fun h3 hf=>?_))))))))
 ·
  obtain ⟨n1,ok1,h4,hf⟩:=dN hf; refine Wr 2 [0] Z Z (CL Z (NS _ h4 (J 6 Z (C hf Z (fun h5 hf=>?_) fun h5 hf=>?_))))
  · refine B1 hf fun x1 h6 hf=>W 2 Z (CL Z (sO _ h6 ?_)); cases hf; exact Rx 5 [1] Z Z (ZC [1] Z Z h)
  cases hf; exact Wx 5 [1] Z Z (ZC [1] Z Z h)
 refine V 2 Z (C hf Z (fun h7 hf=>?_) fun h7 hf=>?_)
 ·
  refine Wr 2 [0] Z Z (AS Z (AO.bC Z Z Z Z bL Z (J 1 Z (C hf Z (fun h8 hf=>?_) fun h8 hf=>?_))))
  · refine B1 hf fun x2 h9 hf=>Wr 3 [0] Z Z (CL Z (sO _ h9 ?_)); cases hf; exact Rx 5 [1] Z Z (ZC [1] Z Z h)
  cases hf; exact Wx 5 [1] Z Z (ZC [1] Z Z h)
 refine V 2 Z (C hf Z (fun h10 hf=>?_) fun h10 hf=>?_)
 · replace hf:=(oW _).trans hf; obtain ⟨x3,x4,x5,h11,hf⟩:=eH hf; refine W 2 Z (CL Z (nP _ _ h11 ?_)); cases hf; exact Rx 6 [1] Z Z (ZC [1] Z Z h)
 refine V 2 Z (C hf Z (fun h12 hf=>?_) fun h12 hf=>?_)
 · replace hf:=(oW _).trans hf; obtain ⟨x6,x7,x8,kY,hf⟩:=eH hf; refine W 2 Z (CL Z (jS _ _ kY ?_)); cases hf; exact Rx 6 [1] Z Z (ZC [1] Z Z h)
 cases hf; exact Wx 5 [1] Z Z (ZC [1] Z Z h)
theorem R9 (aW) (fQ:jO aW) (bB) (iQ:jN bB) (dG) (kT:nX dG) (dH) (l9:nY dH) (dQ) (nQ:pX dQ) (dP) (nP:pV dP) (dM) (kU:pW dM) (bV) (jS:kg bV) (iO:List au) (bO:Int) {r0:aj} {r1:Int} {r2:Int} (hf:yJ aW bB dG dH dQ dP dM bV iO bO=some (r0,r1,r2)) (h:Q (.ret (.tuple [.agg (cB r0),iP r1,iP r2])) τ):PC 310 [.list (List.map au.cells iO),iP bO] τ Q:=by
 unfold yJ at hf; refine BN 61 [.cell 4 111,.tmp 5,.tmp 6] [0,1] Tryz.func310 Z Z Z Z Z (W 0 Z (AS Z (AO.aQ Z fF (fun b4=>?_)))); refine B1 hf fun e1 h1 hf=>U 4 Z (AS Z (AO.cZ h1 Z Z Z Z gN (au.aT _) Z (J 6 Z (C hf Z (fun h2 hf=>?_) fun h2 hf=>?_))))
 · refine B1 hf fun x1 h3 hf=>W 1 Z (CL Z (sO _ h3 ?_)); cases hf; exact Rx 5 [0] Z Z (ZC [0] Z Z h)
 refine V 2 Z (C hf Z (fun h4 hf=>?_) fun h4 hf=>?_)
 ·
  refine V 0 Z (AW.cond Z (fun h5=>?_) (fun h5=>?_))
  · refine B1 hf fun x2 h6 hf=>W 3 Z (CL Z (sO _ h6 ?_)); cases hf; exact Rx 5 [0] Z Z (ZC [0] Z Z h)
  cases h4.symm.trans h5
 refine V 2 Z (C hf Z (fun h7 hf=>?_) fun h7 hf=>?_)
 · refine B1 hf fun x3 h8 hf=>W 3 Z (CL Z (sO _ h8 ?_)); cases hf; exact Rx 5 [0] Z Z (ZC [0] Z Z h)
 refine B1 hf fun x4 h9 hf=>W 1 Z (CL Z (wZ _ h9 (J 1 Z (C hf Z (fun h10 hf=>?_) fun h10 hf=>?_))))
 · cases hf; exact Wx 5 [0] Z Z (ZC [0] Z Z h)
 refine B1 hf fun x5 h11 hf=>W 3 Z (CL Z (lS _ _ _ h11 (J 1 Z (C hf Z (fun h12 hf=>?_) fun h12 hf=>?_))))
 · cases hf; exact Wx 7 [0] Z Z (ZC [0] Z Z h)
 obtain ⟨l1,x6,g_,e2,kY,hf⟩:=Iq hf; refine W 3 Z (CL Z (kU _ _ _ _ kY ?_)); cases hf; exact Rx 17 [0] Z Z (ZC [0] Z Z h)
theorem R_ (aW) (fQ:jO aW) (bB) (iQ:jN bB) (dG) (kT:nX dG) (dH) (l9:nY dH) (dQ) (nQ:pX dQ) (dP) (nP:pV dP) (dM) (kU:pW dM) (bV) (jS:kg bV) (iO:List au) (bO:Int) (qg:Str) (sJ:Bool) {r0:List aj} {r1:List Str} {r2:Int} {r3:Int} (hf:yK aW bB dG dH dQ dP dM bV iO bO qg sJ=some (r0,r1,r2,r3)) (h:Q (.ret (.tuple [.list (aj.dV r0),sP r1,iP r2,iP r3])) τ):PC 344 [.list (List.map au.cells iO),iP bO,.str qg,.bool sJ] τ Q:=by
 unfold yK at hf; refine BN 95 [.tmp 8,.tmp 9,.tmp 10,.tmp 11] [0,1,2,3] Tryz.func344 Z Z Z Z Z (W 0 Z (AS Z (AO.eF Z Z (AS Z (AO.eF Z Z ?_))))); refine B1 hf fun x1 h1 hf=>U 7 Z (CL Z (lS _ _ _ h1 (J 0 Z (C hf Z (fun h2 hf=>?_) fun h2 hf=>?_))))
 · cases hf; exact M 8 Z (Y Z h)
 refine V 0 Z (AW.row 10 111 (AW.row 1 9 (LK5 (fun at2 l1 v1 lG v2=>[(0,.list (List.map au.cells iO)),(1,iP at2),(2,.str qg),(3,.bool sJ),(12,.own v1 (aj.dV l1)),(13,.own v2 (List.map oh lG))]) (fun at2 l1 v1 lG v2=>[.row v2 (List.map oh lG).length 1 9,.row v1 (aj.dV l1).length 10 111]) (fun dw at2 l1 v1 lG v2=>nC aW iO qg sJ dw at2 l1 lG=some (r0,r1,r2,r3)) BIG bO [] (.slice none 0 0) [] (.slice none 0 0) Z Z hf (fun _ _ _ _ _ hz=>bQ hz) ?_))); intro dw at2 l1 v1 lG v2 hf; rw [nC] at hf; refine V 1 Z (C hf Z (fun h3 hf=>?_) fun h3 hf=>?_)
 ·
  refine W 2 Z (AS Z (AO.aV (l:=iO) Z Z Z Z gN Z Z ?_)); refine B1 hf fun b1 h5 hf=>U 2 Z (AR.dS 7 30 37 false [0,1,2,3,12,13] b1 Z Z (fun h4=>?_) (fun h4=>?_) ?_)
  · refine IF 30 h4 h5 Z fun h5=>?_; refine B1 h5 fun e1 h6 h5=>U 2 Z (GO Z (AO.cZ h6 Z Z Z Z gN (au.aT _) Z ?_)); refine B1 h5 fun x2 h7 h5=>U 1 Z (GO Z (AO.call Z _ Z Z aaz (VQ _ h7 ?_))); cases h5; exact eD 2 Z (En [37,0,1,2,3,12,13] Z)
  · refine IT 30 h4 h5 Z fun h5=>?_; cases h5; exact eD 7 Z (En [37,0,1,2,3,12,13] Z)
  refine J 0 Z (C hf Z (fun h8 hf=>?_) fun h8 hf=>?_)
  · refine B1 hf fun x3 h9 hf=>W 3 Z (CL Z (mh _ _ h9 (AS Z (AO.eF Z Z (AS Z (AO.eF Z Z ?_)))))); cases hf; exact N 2 Z (Y Z h)
  refine B1 hf fun e2 h10 hf=>W 3 Z (AS Z (AO.cZ h10 Z Z Z Z gN (au.aT _) Z (U 2 Z (AS Z (AO.bS (List.map oh ([e2.text]:List Str)) Z IJ Z Z Z Z ?_))))); refine B1 hf fun Ux h11 hf=>AS Z (AO.iJ (i:=0) (l:=lG) (m:=([e2.text]:List Str)) h11 Z Z Z Z Z Z Z IJ gX Z Z Z (fun _=>Z) (fun _=>Z) (by decide) (fun v3 s1 hs1=>?_)); cases hs1; refine B1 hf fun x4 h12 hf=>U 6 Z (CL Z (lS _ _ _ h12 (J 1 Z (C hf Z (fun kY hf=>?_) fun kY hf=>?_))))
  · refine B1 hf fun x5 lu hf=>W 3 Z (CL Z (mh _ _ lu (AS Z (AO.eF Z Z (AS Z (AO.eF Z Z ?_)))))); cases hf; exact N 2 Z (Y Z h)
  obtain ⟨x6,g_,e3,pK,hf⟩:=eH hf; refine W 5 Z (CL Z (fQ _ _ pK (U 4 Z (AS Z (AO.aQ Z fF (fun b14=>(Rw 5 [0] Z Z (C hf Z (fun h16 hf=>?_) fun h16 hf=>?_))))))))
  · refine W 2 Z (AS Z (AO.eF Z Z (AS Z (AO.eF Z Z ?_)))); cases hf; exact N 2 Z (Y Z h)
  refine Wr 2 [0] rfl rfl (AS rfl (AO.bS (aj.dV [x6]) rfl om rfl rfl rfl (by first | rfl | simp only [List.map,aj.aT,aj.dV]) ?_)); refine B1 hf fun l2 wV hf=>AS Z (AO.iJ (i:=2) (l:=l1) (m:=[x6]) wV Z Z Z Z Z Z Z om jL (aj.bM _) (aj.bM _) (aj.bM _).symm (aj.dU) (aj.cells_one) (by decide) (fun v4 s2 hs2=>?_)); cases hs2; refine B1 hf fun x7 h18 hf=>U 4 Z (CL Z (lS _ _ _ h18 (J 0 Z (C hf Z (fun h19 hf=>?_) fun h19 hf=>?_))))
  · cases hf; exact M 8 Z (Y Z h)
  refine B1 hf fun x8 h20 hf=>W 2 Z (CL Z (lS _ _ _ h20 (J 1 Z (C hf Z (fun h21 hf=>?_) fun h21 hf=>?_))))
  · refine B1 hf fun x9 h22 hf=>W 3 Z (CL Z (mh _ _ h22 (AS Z (AO.eF Z Z (AS Z (AO.eF Z Z ?_)))))); cases hf; exact N 2 Z (Y Z h)
  refine Wn0 3 Z (AR.drop1 ?_); exact N 0 Z ⟨(bI (g_ + 1)),l2,v4,Ux,v3,Z,Z,Z,hf⟩
 obtain ⟨JX,t_,e4,h23,hf⟩:=eH hf; refine W 2 Z (CL Z (fQ _ _ h23 (U 4 Z (AS Z (AO.aQ Z fF (fun ae3=>(Rw 5 [0] Z Z (C hf Z (fun Mi hf=>?_) fun Mi hf=>?_))))))))
 · refine W 2 Z (AS Z (AO.eF Z Z (AS Z (AO.eF Z Z ?_)))); cases hf; exact N 2 Z (Y Z h)
 refine Wr 2 [0] rfl rfl (AS rfl (AO.bS (aj.dV [JX]) rfl om rfl rfl rfl (by first | rfl | simp only [List.map,aj.aT,aj.dV]) ?_)); refine B1 hf fun l3 R8 hf=>AS Z (AO.iJ (i:=2) (l:=l1) (m:=[JX]) R8 Z Z Z Z Z Z Z om jL (aj.bM _) (aj.bM _) (aj.bM _).symm (aj.dU) (aj.cells_one) (by decide) (fun v5 s3 hs3=>?_)); cases hs3; refine B1 hf fun YA Tf hf=>U 4 Z (CL Z (lS _ _ _ Tf (J 0 Z (C hf Z (fun h27 hf=>?_) fun h27 hf=>?_))))
 · cases hf; exact M 8 Z (Y Z h)
 refine B1 hf fun x12 h28 hf=>W 2 Z (CL Z (lS _ _ _ h28 (J 1 Z (C hf Z (fun h29 hf=>?_) fun h29 hf=>?_))))
 · refine B1 hf fun x13 h30 hf=>W 3 Z (CL Z (mh _ _ h30 (AS Z (AO.eF Z Z (AS Z (AO.eF Z Z ?_)))))); cases hf; exact N 2 Z (Y Z h)
 refine Wn0 3 Z (AR.drop1 ?_); exact N 0 Z ⟨(bI (t_ + 1)),l3,v5,lG,v2,Z,Z,Z,hf⟩
theorem J9 (aW) (fQ:jO aW) (bB) (iQ:jN bB) (dG) (kT:nX dG) (dH) (l9:nY dH) (dQ) (nQ:pX dQ) (dP) (nP:pV dP) (dM) (kU:pW dM) (bV) (jS:kg bV) (iO:List au) (bO:Int) {r0:aj} {r1:Int} {r2:Int} (hf:uy aW bB dG dH dQ dP dM bV iO bO=some (r0,r1,r2)) (h:Q (.ret (.tuple [.agg (cB r0),iP r1,iP r2])) τ):PC 311 [.list (List.map au.cells iO),iP bO] τ Q:=by
 unfold uy at hf; refine BN 85 [.cell 4 111,.tmp 5,.tmp 6] [0,1] Tryz.func311 Z Z Z Z Z (W 0 Z (AS Z (AO.aQ Z fF (fun b4=>?_)))); refine B1 hf fun e1 h1 hf=>U 4 Z (AS Z (AO.cZ h1 Z Z Z Z gN (au.aT _) Z (J 4 Z (C hf Z (fun h2 hf=>?_) fun h2 hf=>?_))))
 ·
  obtain ⟨x1,g_,e2,h3,hf⟩:=eH hf; refine W 3 Z (CL Z (fQ _ _ h3 (U 4 Z (AS Z (AO.aQ Z fF (fun b7=>?_)))))); refine B1 hf fun b1 h5 hf=>Rr 6 [0] Z Z (AR.dS 5 35 40 true [0,4,7,8,9] b1 Z Z (fun h4=>?_) (fun h4=>?_) ?_)
  · refine IT 35 h4 h5 Z fun h5=>?_; refine B1 h5 fun x2 h6 h5=>U 2 Z (GO Z (AO.call Z _ Z Z KD (lS _ _ _ h6 ?_))); cases h5; exact eD 2 Z (En [40,0,4,7,8,9] Z)
  · refine IF 35 h4 h5 Z fun h5=>?_; cases h5; exact eD 5 Z (En [40,0,4,7,8,9] Z)
  refine J 0 Z (C hf Z (fun h7 hf=>?_) fun h7 hf=>?_)
  ·
   refine B1 hf fun e3 h8 hf=>W 2 Z (CL Z (mh _ _ h8 (J 3 Z (C hf Z (fun h9 hf=>?_) fun h9 hf=>?_))))
   · cases hf; exact Wx 6 [1] Z Z (ZC [1] Z Z h)
   cases hf; exact Wx 6 [0,1] Z Z (ZC [1] Z Z h)
  refine V 2 Z (C hf Z (fun h10 hf=>?_) fun h10 hf=>?_)
  · cases hf; exact Wx 6 [1] Z Z (ZC [1] Z Z h)
  cases hf; exact Wx 6 [0,1] Z Z (ZC [1] Z Z h)
 refine V 2 Z (C hf Z (fun h11 hf=>?_) fun h11 hf=>?_)
 · obtain ⟨l1,x3,t_,e4,h12,hf⟩:=Iq hf; refine W 3 Z (CL Z (kU _ _ _ _ h12 ?_)); cases hf; exact Rx 16 [0] Z Z (ZC [0] Z Z h)
 refine V 2 Z (C hf Z (fun kY hf=>?_) fun kY hf=>?_)
 · obtain ⟨l2,lG,ZY,e5,lu,hf⟩:=Iq hf; refine W 3 Z (CL Z (kU _ _ _ _ lu ?_)); cases hf; exact Rx 17 [0] Z Z (ZC [0] Z Z h)
 cases hf; exact Wx 5 [0] Z Z (ZC [0] Z Z h)
theorem kE :∀ k:Nat,(jO (bZ k))∧(jN (dn k))∧(nX (fu k))∧(nY (fK k))∧(pX (gL k))∧(pV (h_ k))∧(pW (eY k))∧(kg (eT k)):=by
 intro k
 induction k with
 | zero=>exact ⟨fun _ _ _ _ _ hz=>by first | cases hz | (unfold bZ at hz; cases hz),fun _ _ _ _ _ _ hz=>by first | cases hz | (unfold dn at hz; cases hz),fun _ _ _ _ _ hz=>by first | cases hz | (unfold fu at hz; cases hz),fun _ _ _ _ _ hz=>by first | cases hz | (unfold fK at hz; cases hz),fun _ _ _ _ _ hz=>by first | cases hz | (unfold gL at hz; cases hz),fun _ _ _ _ _ hz=>by first | cases hz | (unfold h_ at hz; cases hz),fun _ _ _ _ _ _ _ _ hz=>by first | cases hz | (unfold eY at hz; cases hz),fun _ _ _ _ _ hz=>by first | cases hz | (unfold eT at hz; cases hz)⟩
 | succ k ih=>exact ⟨fun fV f_ bY fH fG hz τ Q hq=>Jg (bZ k) ih.1 (dn k) ih.2.1 (fu k) ih.2.2.1 (fK k) ih.2.2.2.1 (gL k) ih.2.2.2.2.1 (h_ k) ih.2.2.2.2.2.1 (eY k) ih.2.2.2.2.2.2.1 (eT k) ih.2.2.2.2.2.2.2 fV f_ hz hq,fun fV f_ lM bY fH fG hz τ Q hq=>Jf (bZ k) ih.1 (dn k) ih.2.1 (fu k) ih.2.2.1 (fK k) ih.2.2.2.1 (gL k) ih.2.2.2.2.1 (h_ k) ih.2.2.2.2.2.1 (eY k) ih.2.2.2.2.2.2.1 (eT k) ih.2.2.2.2.2.2.2 fV f_ lM hz hq,fun fV f_ bY fH fG hz τ Q hq=>PN (bZ k) ih.1 (dn k) ih.2.1 (fu k) ih.2.2.1 (fK k) ih.2.2.2.1 (gL k) ih.2.2.2.2.1 (h_ k) ih.2.2.2.2.2.1 (eY k) ih.2.2.2.2.2.2.1 (eT k) ih.2.2.2.2.2.2.2 fV f_ hz hq,fun fV f_ bY fH fG hz τ Q hq=>PS (bZ k) ih.1 (dn k) ih.2.1 (fu k) ih.2.2.1 (fK k) ih.2.2.2.1 (gL k) ih.2.2.2.2.1 (h_ k) ih.2.2.2.2.2.1 (eY k) ih.2.2.2.2.2.2.1 (eT k) ih.2.2.2.2.2.2.2 fV f_ hz hq,fun fV f_ bY fH fG hz τ Q hq=>Sb (bZ k) ih.1 (dn k) ih.2.1 (fu k) ih.2.2.1 (fK k) ih.2.2.2.1 (gL k) ih.2.2.2.2.1 (h_ k) ih.2.2.2.2.2.1 (eY k) ih.2.2.2.2.2.2.1 (eT k) ih.2.2.2.2.2.2.2 fV f_ hz hq,fun fV f_ bY fH fG hz τ Q hq=>R9 (bZ k) ih.1 (dn k) ih.2.1 (fu k) ih.2.2.1 (fK k) ih.2.2.2.1 (gL k) ih.2.2.2.2.1 (h_ k) ih.2.2.2.2.2.1 (eY k) ih.2.2.2.2.2.2.1 (eT k) ih.2.2.2.2.2.2.2 fV f_ hz hq,fun fV f_ mY mX bY fH fG GY hz τ Q hq=>R_ (bZ k) ih.1 (dn k) ih.2.1 (fu k) ih.2.2.1 (fK k) ih.2.2.2.1 (gL k) ih.2.2.2.2.1 (h_ k) ih.2.2.2.2.2.1 (eY k) ih.2.2.2.2.2.2.1 (eT k) ih.2.2.2.2.2.2.2 fV f_ mY mX hz hq,fun fV f_ bY fH fG hz τ Q hq=>J9 (bZ k) ih.1 (dn k) ih.2.1 (fu k) ih.2.2.1 (fK k) ih.2.2.2.1 (gL k) ih.2.2.2.2.1 (h_ k) ih.2.2.2.2.2.1 (eY k) ih.2.2.2.2.2.2.1 (eT k) ih.2.2.2.2.2.2.2 fV f_ hz hq⟩
theorem Jo (fV:List au) (f_:Int) {bY:aj} {fH:Int} {fG:Int} (hf:Ae fV f_=some (bY,fH,fG)) (h:Q (.ret (.tuple [.agg (cB bY),iP fH,iP fG])) τ):PC 119 [.list (List.map au.cells fV),iP f_] τ Q:=
 ((kE BIG).1) fV f_ hf h
theorem Wd (fV:List au) (f_:Int) (lM:Int) {bY:aj} {fH:Int} {fG:Int} (hf:Ms fV f_ lM=some (bY,fH,fG)) (h:Q (.ret (.tuple [.agg (cB bY),iP fH,iP fG])) τ):PC 151 [.list (List.map au.cells fV),iP f_,iP lM] τ Q:=
 ((kE BIG).2.1) fV f_ lM hf h
theorem aag (fV:List au) (f_:Int) {bY:aj} {fH:Int} {fG:Int} (hf:U9 fV f_=some (bY,fH,fG)) (h:Q (.ret (.tuple [.agg (cB bY),iP fH,iP fG])) τ):PC 190 [.list (List.map au.cells fV),iP f_] τ Q:=
 ((kE BIG).2.2.1) fV f_ hf h
theorem aah (fV:List au) (f_:Int) {bY:aj} {fH:Int} {fG:Int} (hf:U_ fV f_=some (bY,fH,fG)) (h:Q (.ret (.tuple [.agg (cB bY),iP fH,iP fG])) τ):PC 237 [.list (List.map au.cells fV),iP f_] τ Q:=
 ((kE BIG).2.2.2.1) fV f_ hf h
theorem abH (fV:List au) (f_:Int) {bY:aj} {fH:Int} {fG:Int} (hf:Xc fV f_=some (bY,fH,fG)) (h:Q (.ret (.tuple [.agg (cB bY),iP fH,iP fG])) τ):PC 270 [.list (List.map au.cells fV),iP f_] τ Q:=
 ((kE BIG).2.2.2.2.1) fV f_ hf h
theorem abF (fV:List au) (f_:Int) {bY:aj} {fH:Int} {fG:Int} (hf:Xa fV f_=some (bY,fH,fG)) (h:Q (.ret (.tuple [.agg (cB bY),iP fH,iP fG])) τ):PC 310 [.list (List.map au.cells fV),iP f_] τ Q:=
 ((kE BIG).2.2.2.2.2.1) fV f_ hf h
theorem abG (fV:List au) (f_:Int) (mY:Str) (mX:Bool) {bY:List aj} {fH:List Str} {fG:Int} {GY:Int} (hf:Xb fV f_ mY mX=some (bY,fH,fG,GY)) (h:Q (.ret (.tuple [.list (aj.dV bY),sP fH,iP fG,iP GY])) τ):PC 344 [.list (List.map au.cells fV),iP f_,.str mY,.bool mX] τ Q:=
 ((kE BIG).2.2.2.2.2.2.1) fV f_ mY mX hf h
theorem X_ (fV:List au) (f_:Int) {bY:aj} {fH:Int} {fG:Int} (hf:Oy fV f_=some (bY,fH,fG)) (h:Q (.ret (.tuple [.agg (cB bY),iP fH,iP fG])) τ):PC 311 [.list (List.map au.cells fV),iP f_] τ Q:=
 ((kE BIG).2.2.2.2.2.2.2) fV f_ hf h
abbrev Jc (kW:aj→Option Int):Prop:=∀ (sU:aj) {bY:Int},kW sU=some bY→∀ {τ:List bn} {Q:fq→List bn→Prop} (h:Q (.ret (iP bY)) τ),PC 131 [.agg (cB sU)] τ Q
theorem PU (kW) (ME:Jc kW) (e1:aj) {r0:Int} (hf:zI kW e1=some r0) (h:Q (.ret (iP r0)) τ):PC 131 [.agg (cB e1)] τ Q:=by
 unfold zI at hf; refine BN 21 [.tmp 2] [0] Tryz.func131 Z Z Z Z Z (V 4 Z (JQ (fun n1 i1=>[(1,.ref (cB e1)),(3,iP n1),(4,iP i1)]) (fun n1 i1=>[]) (fun dw n1 i1=>uD kW e1 dw n1 i1=some r0) BIG 1 0 Z Z hf (fun _ _ hz=>bQ hz) ?_)); intro dw n1 i1 hf; rw [uD] at hf; refine W 3 Z (AS Z (AO.aV (l:=e1.args) Z Z Z Z jL Z (aj.bM _) (J 1 Z (C hf Z (fun h1 hf=>?_) fun h1 hf=>?_))))
 · refine B1 hf fun e2 h2 hf=>W 4 Z (AS Z (AO.cZ h2 Z Z (aj.bM _) Z jL (aj.aT _) Z ?_)); refine B1 hf fun x1 h3 hf=>U 1 Z (CL Z (ME _ h3 ?_)); exact N 5 Z ⟨(bI (n1 + x1)),(bI (i1 + 1)),Z,Z,Z,hf⟩
 cases hf; exact M 2 Z (Y Z h)
theorem QH :∀ k:Nat,(Jc (nE k)):=by
 intro k
 induction k with
 | zero=>exact fun _ _ hz=>by first | cases hz | (unfold nE at hz; cases hz)
 | succ k ih=>exact fun sU bY hz τ Q hq=>PU (nE k) ih sU hz hq
theorem Ru (sU:aj) {bY:Int} (hf:Eb sU=some bY) (h:Q (.ret (iP bY)) τ):PC 131 [.agg (cB sU)] τ Q:=
 ((QH BIG)) sU hf h
theorem Rq (e1:aj) {r0:Bool} (hf:AL e1=some r0) (h:Q (.ret (.bool r0)) τ):PC 215 [.agg (cB e1)] τ Q:=by
 unfold AL at hf; refine BN 45 [.tmp 2] [0] Tryz.func215 Z Z Z Z Z (V 6 Z (C hf Z (fun h1 hf=>?_) fun h1 hf=>?_))
 ·
  refine V 0 Z (AW.cond Z (fun h2=>?_) (fun h2=>?_))
  · refine W 2 Z (AS Z (AO.aV (l:=e1.args) Z Z Z Z jL Z (aj.bM _) ?_)); cases hf; exact N 2 Z (Y Z h)
  cases h1.symm.trans h2
 refine V 2 Z (C hf Z (fun h3 hf=>?_) fun h3 hf=>?_)
 · refine W 2 Z (AS Z (AO.aV (l:=e1.args) Z Z Z Z jL Z (aj.bM _) ?_)); cases hf; exact N 2 Z (Y Z h)
 refine V 2 Z (C hf Z (fun h4 hf=>?_) fun h4 hf=>?_)
 ·
  refine V 0 Z (AW.cond Z (fun h5=>?_) (fun h5=>?_))
  · refine W 2 Z (AS Z (AO.aV (l:=e1.args) Z Z Z Z jL Z (aj.bM _) ?_)); cases hf; exact N 2 Z (Y Z h)
  cases h4.symm.trans h5
 refine V 2 Z (C hf Z (fun h6 hf=>?_) fun h6 hf=>?_)
 · refine W 2 Z (AS Z (AO.aV (l:=e1.args) Z Z Z Z jL Z (aj.bM _) ?_)); cases hf; exact N 2 Z (Y Z h)
 refine V 2 Z (C hf Z (fun h7 hf=>?_) fun h7 hf=>?_)
 ·
  refine V 0 Z (AW.cond Z (fun h8=>?_) (fun h8=>?_))
  · refine W 2 Z (AS Z (AO.aV (l:=e1.args) Z Z Z Z jL Z (aj.bM _) ?_)); cases hf; exact N 2 Z (Y Z h)
  cases h7.symm.trans h8
 refine V 2 Z (C hf Z (fun h9 hf=>?_) fun h9 hf=>?_)
 · refine W 2 Z (AS Z (AO.aV (l:=e1.args) Z Z Z Z jL Z (aj.bM _) ?_)); cases hf; exact N 2 Z (Y Z h)
 refine V 2 Z (C hf Z (fun h10 hf=>?_) fun h10 hf=>?_)
 · refine W 2 Z (AS Z (AO.aV (l:=e1.args) Z Z Z Z jL Z (aj.bM _) ?_)); cases hf; exact N 2 Z (Y Z h)
 refine W 4 Z (On 4 35 39 [1] (e1.kind == 9) Z Z Z Z (U 1 Z (On 4 40 44 [] (e1.kind == 10) Z Z Z Z ?_))); cases hf; exact N 1 Z (Y Z h)
theorem Ro (e1:aj) {r0:Bool} (hf:AJ e1=some r0) (h:Q (.ret (.bool r0)) τ):PC 216 [.agg (cB e1)] τ Q:=by
 unfold AJ at hf; refine BN 31 [.tmp 2] [0] Tryz.func216 Z Z Z Z Z (V 6 Z (C hf Z (fun h1 hf=>?_) fun h1 hf=>?_))
 ·
  refine V 0 Z (AW.cond Z (fun h2=>?_) (fun h2=>?_))
  · refine BR hf fun x1 h3 hf=>?_; refine W 2 Z (CL Z (wZ _ h3 ?_)); cases hf; exact N 1 Z (Y Z h)
  cases h1.symm.trans h2
 refine V 2 Z (C hf Z (fun h4 hf=>?_) fun h4 hf=>?_)
 ·
  refine V 0 Z (AW.cond Z (fun h5=>?_) (fun h5=>?_))
  · refine BR hf fun x2 h6 hf=>?_; refine W 2 Z (CL Z (wZ _ h6 ?_)); cases hf; exact N 1 Z (Y Z h)
  cases h4.symm.trans h5
 refine V 2 Z (C hf Z (fun h7 hf=>?_) fun h7 hf=>?_)
 · refine BR hf fun x3 h8 hf=>?_; refine W 2 Z (CL Z (wZ _ h8 ?_)); cases hf; exact N 1 Z (Y Z h)
 refine V 2 Z (C hf Z (fun h9 hf=>?_) fun h9 hf=>?_)
 · refine W 4 Z (On 4 17 21 [] (e1.name == ([45]:Str)) Z Z Z Z ?_); cases hf; exact N 1 Z (Y Z h)
 refine V 2 Z (C hf Z (fun h11 hf=>?_) fun h11 hf=>?_)
 · refine B1 hf fun x4 h12 hf=>W 2 Z (CL Z (DL _ h12 ?_)); cases hf; exact N 2 Z (Y Z h)
 cases hf; exact M 4 Z (Y Z h)
abbrev Mg (jH:av→av→Option Bool):Prop:=∀ (V6:av) (V5:av) {bY:Bool},jH V6 V5=some bY→∀ {τ:List bn} {Q:fq→List bn→Prop} (h:Q (.ret (.bool bY)) τ),PC 217 [.agg (dB V6),.agg (dB V5)] τ Q
theorem Sc (jH) (OW:Mg jH) (a1:av) (b1:av) {r0:Bool} (hf:BJ jH a1 b1=some r0) (h:Q (.ret (.bool r0)) τ):PC 217 [.agg (dB a1),.agg (dB b1)] τ Q:=by
 unfold BJ at hf; refine BN 88 [.tmp 4] [0,1] Tryz.func217 Z Z Z Z Z (W 9 Z (AR.or 6 12 18 [2,3] (x:=(!(a1.lJ == b1.lJ))) Z Z (fun h1=>?_) (fun h1=>?_) ?_))
 · refine Is 12 h1 Z (U 4 Z (GO Z (AO.Yc Z adQ Z Z ?_))); exact eD 1 Z (En [18,2,3] Z)
 · refine Is 12 h1 Z ?_; exact eD 6 Z (En [18,2,3] Z)
 refine U 1 Z (On 6 19 25 [2,3] (a1.mG != b1.mG) Z Z Z Z (U 1 Z (On 6 26 32 [2,3] (!(a1.nu == b1.nu)) Z Z Z Z (U 1 Z (AR.or 8 33 41 [2,3] (x:=((a1.dW.length:Int) != (b1.dW.length:Int))) Z Z (fun h4=>?_) (fun h4=>?_) ?_)))))
 · refine Is 33 h4 Z (U 2 Z (GO Z (AO.aV (l:=a1.dW) Z Z Z Z qV Z (av.bM _) (U 2 Z (GO Z (AO.aV (l:=b1.dW) Z Z Z Z qV Z (av.bM _) ?_)))))); exact eD 2 Z (En [41,2,3] Z)
 · refine Is 33 h4 Z ?_; exact eD 8 Z (En [41,2,3] Z)
 refine U 1 Z (AR.or 8 42 50 [2,3] (x:=((a1.keys.length:Int) != (b1.keys.length:Int))) Z Z (fun h5=>?_) (fun h5=>?_) ?_)
 · refine Is 42 h5 Z (U 2 Z (GO Z (AO.aV (l:=a1.keys) Z Z Z Z gX Z Z (U 2 Z (GO Z (AO.aV (l:=b1.keys) Z Z Z Z gX Z Z ?_)))))); exact eD 2 Z (En [50,2,3] Z)
 · refine Is 42 h5 Z ?_; exact eD 8 Z (En [50,2,3] Z)
 refine J 0 Z (C hf Z (fun h6 hf=>?_) fun h6 hf=>?_)
 · cases hf; exact M 1 Z (Y Z h)
 refine V 1 Z (CK (fun i1=>[(2,.ref (dB a1)),(3,.ref (dB b1)),(5,iP i1)]) (fun i1=>[]) (fun dw i1=>wN jH a1 b1 dw i1=some r0) BIG 0 Z Z hf (fun _ hz=>bQ hz) ?_); intro dw i1 hf; rw [wN] at hf; refine W 3 Z (AS Z (AO.aV (l:=a1.keys) Z Z Z Z gX Z Z (J 1 Z (C hf Z (fun h7 hf=>?_) fun h7 hf=>?_))))
 ·
  refine V 0 Z (AW.draw 11 mixed (by kernel_rfl) Z ?_); refine Ev.cs dh 3 Z ?_; refine B1 hf fun e1 h8 hf=>Ev.cons Z Z Z (AO.cZ h8 Z Z Z Z gX Z Z zg) (Ev.cs dh 4 Z ?_); refine B1 hf fun e2 h9 hf=>Ev.cons Z Z Z (AO.cZ h9 Z Z Z Z gX Z Z zg) (Ev.cs dh 2 Z (Ev.nil ?_)); show AR _ _ _ _ _ _ _ _; refine J 0 Z (C hf Z (fun h10 hf=>?_) fun h10 hf=>?_)
  · cases hf; exact M 1 Z (Y Z h)
  exact M 3 Z ⟨(bI (i1 + 1)),Z,Z,Z,hf⟩
 refine V 1 Z (CK (fun i2=>[(2,.ref (dB a1)),(3,.ref (dB b1)),(6,iP i2)]) (fun i2=>[]) (fun xW i2=>wM jH a1 b1 xW i2=some r0) BIG 0 Z Z hf (fun _ hz=>bQ hz) ?_); intro xW i2 hf; rw [wM] at hf; refine W 3 Z (AS Z (AO.aV (l:=a1.dW) Z Z Z Z qV Z (av.bM _) (J 1 Z (C hf Z (fun h11 hf=>?_) fun h11 hf=>?_))))
 ·
  refine V 0 Z (AW.draw 12 mixed (by kernel_rfl) Z ?_); refine Ev.cs dh 3 Z ?_; refine B1 hf fun e3 h12 hf=>Ev.cons Z Z Z (AO.cZ h12 Z Z (av.bM _) Z qV (av.aT _) Z zg) (Ev.cs dh 4 Z ?_); refine B1 hf fun e4 kY hf=>Ev.cons Z Z Z (AO.cZ kY Z Z (av.bM _) Z qV (av.aT _) Z zg) (Ev.cs dh 1 Z ?_); refine B1 hf fun x1 lu hf=>Ev.cons Z Z Z (AO.call Z _ Z Z Xh (OW _ _ lu zg)) (Ev.cs dh 1 Z (Ev.nil ?_)); show AR _ _ _ _ _ _ _ _; refine J 0 Z (C hf Z (fun pK hf=>?_) fun pK hf=>?_)
  · cases hf; exact M 1 Z (Y Z h)
  exact M 3 Z ⟨(bI (i2 + 1)),Z,Z,Z,hf⟩
 cases hf; exact M 1 Z (Y Z h)
theorem SS :∀ k:Nat,(Mg (vO k)):=by
 intro k
 induction k with
 | zero=>exact fun _ _ _ hz=>by first | cases hz | (unfold vO at hz; cases hz)
 | succ k ih=>exact fun V6 V5 bY hz τ Q hq=>Sc (vO k) ih V6 V5 hz hq
theorem TD (V6:av) (V5:av) {bY:Bool} (hf:FW V6 V5=some bY) (h:Q (.ret (.bool bY)) τ):PC 217 [.agg (dB V6),.agg (dB V5)] τ Q:=
 ((SS BIG)) V6 V5 hf h
theorem Pd (e1:aj) {r0:Bool} (hf:yL e1=some r0) (h:Q (.ret (.bool r0)) τ):PC 168 [.agg (cB e1)] τ Q:=by
 unfold yL at hf; refine BN 61 [.tmp 2] [0] Tryz.func168 Z Z Z Z Z ?_; refine B1 hf fun x1 h1 hf=>W 3 Z (CL Z (Rq _ h1 ?_)); refine B1 hf fun b1 h3 hf=>U 2 Z (AR.dS 4 7 11 false [1] b1 Z Z (fun h2=>?_) (fun h2=>?_) ?_)
 · refine IF 7 h2 h3 Z fun h3=>?_; refine B1 h3 fun x2 h4 h3=>U 1 Z (GO Z (AO.call Z _ Z Z aaL (Ro _ h4 ?_))); cases h3; exact eD 2 Z (En [11,1] Z)
 · refine IT 7 h2 h3 Z fun h3=>?_; cases h3; exact eD 4 Z (En [11,1] Z)
 refine B1 hf fun b2 h6 hf=>U 1 Z (AR.dS 11 12 23 false [1] b2 Z Z (fun h5=>?_) (fun h5=>?_) ?_)
 ·
  refine IF 12 h5 h6 Z fun h6=>?_; refine BR h6 fun b3 h8 h6=>?_; refine U 4 Z (AR.dS 6 16 22 true [1,12] b3 Z Z (fun h7=>?_) (fun h7=>?_) ?_)
  · replace h8:=j_ h7 h8; refine Is 16 h7 Z (U 2 Z (GO Z (AO.build Z xC Sw Z ?_))); refine B1 h8 fun x3 h9 h8=>GO Z (AO.call Z _ Z Z Xh (TD _ _ h9 ?_)); cases h8; exact eD 2 Z (En [22,1,12] Z)
  · refine IF 16 h7 h8 Z fun h8=>?_; cases h8; exact eD 6 Z (En [22,1,12] Z)
  cases h6; exact eD 1 Z (En [23,1] Z)
 · refine IT 12 h5 h6 Z fun h6=>?_; cases h6; exact eD 11 Z (En [23,1] Z)
 refine J 0 Z (C hf Z (fun h10 hf=>?_) fun h10 hf=>?_)
 · cases hf; exact M 1 Z (Y Z h)
 refine V 3 Z (C hf Z (fun h11 hf=>?_) fun h11 hf=>?_)
 · refine W 2 Z (AS Z (AO.aV (l:=e1.keys) Z Z Z Z gX Z Z ?_)); cases hf; exact N 2 Z (Y Z h)
 refine V 1 Z (CK (fun i1=>[(1,.ref (cB e1)),(3,iP i1)]) (fun i1=>[]) (fun dw i1=>qj e1 dw i1=some r0) BIG 0 Z Z hf (fun _ hz=>bQ hz) ?_); intro dw i1 hf; rw [qj] at hf; refine W 3 Z (AS Z (AO.aV (l:=e1.keys) Z Z Z Z gX Z Z (J 1 Z (C hf Z (fun h12 hf=>?_) fun h12 hf=>?_))))
 ·
  refine B1 hf fun e2 kY hf=>W 3 Z (AS Z (AO.cZ kY Z Z Z Z gX Z Z (U 1 Z (AS Z (AO.bC Z Z Z Z bL Z ?_))))); refine B1 hf fun b4 pK hf=>U 2 Z (AR.dS 8 45 53 false [1,3] b4 Z Z (fun lu=>?_) (fun lu=>?_) ?_)
  · refine IF 45 lu pK Z fun pK=>?_; refine B1 pK fun e3 h16 pK=>U 3 Z (GO Z (AO.cZ h16 Z Z Z Z gX Z Z (U 1 Z (GO Z (AO.bC Z Z Z Z bL Z ?_))))); cases pK; exact eD 2 Z (En [53,1,3] Z)
  · refine IT 45 lu pK Z fun pK=>?_; cases pK; exact eD 8 Z (En [53,1,3] Z)
  refine J 0 Z (C hf Z (fun wV hf=>?_) fun wV hf=>?_)
  · cases hf; exact M 1 Z (Y Z h)
  exact M 3 Z ⟨(bI (i1 + 1)),Z,Z,Z,hf⟩
 refine W 2 Z (AS Z (AO.aV (l:=e1.keys) Z Z Z Z gX Z Z (U 2 Z (AS Z (AO.aV (l:=e1.args) Z Z Z Z jL Z (aj.bM _) ?_))))); cases hf; exact N 2 Z (Y Z h)
theorem Rz (v1:av) {r0:Bool} (hf:A8 v1=some r0) (h:Q (.ret (.bool r0)) τ):PC 166 [.agg (dB v1)] τ Q:=by
 unfold A8 at hf; refine BN 53 [.tmp 2] [0] Tryz.func166 Z Z Z Z Z (W 5 Z (An 4 5 9 [1] (v1.kind != 1) Z Z Z Z (U 1 Z (AR.or 9 10 19 [1] (x:=((v1.mG != 0) && (v1.kind != 2))) Z Z (fun h2=>?_) (fun h2=>?_) ?_))))
 · refine Is 10 h2 Z (U 4 Z (An 4 14 18 [1,10] (v1.kind != 2) Z Z Z Z ?_)); exact eD 1 Z (En [19,1] Z)
 · refine Is 10 h2 Z ?_; exact eD 9 Z (En [19,1] Z)
 refine U 1 Z (AR.or 9 20 29 [1] (x:=((!(v1.nu == ([]:Str))) && (v1.kind != 3))) Z Z (fun h4=>?_) (fun h4=>?_) ?_)
 · refine Is 20 h4 Z (U 4 Z (An 4 24 28 [1,20] (v1.kind != 3) Z Z Z Z ?_)); exact eD 1 Z (En [29,1] Z)
 · refine Is 20 h4 Z ?_; exact eD 9 Z (En [29,1] Z)
 refine J 0 Z (C hf Z (fun h6 hf=>?_) fun h6 hf=>?_)
 · cases hf; exact M 1 Z (Y Z h)
 refine W 2 Z (AS Z (AO.aV (l:=v1.dW) Z Z Z Z qV Z (av.bM _) (U 2 Z (An 4 34 38 [1] (v1.kind != 4) Z Z Z Z (U 1 Z (An 4 39 43 [1] (v1.kind != 5) Z Z Z Z (J 0 Z (C hf Z (fun h9 hf=>?_) fun h9 hf=>?_))))))))
 · cases hf; exact M 1 Z (Y Z h)
 refine W 2 Z (AS Z (AO.aV (l:=v1.keys) Z Z Z Z gX Z Z (U 2 Z (On 4 48 52 [] (v1.kind == 5) Z Z Z Z ?_)))); cases hf; exact N 1 Z (Y Z h)
theorem VR (s1:Str) {r0:Bool} (hf:FV s1=some r0) (h:Q (.ret (.bool r0)) τ):PC 213 [.str s1] τ Q:=by
 unfold FV at hf; refine BN 11 [.tmp 2] [0] Tryz.func213 Z Z Z Z Z (W 2 Z (AS Z (AO.bC Z Z Z Z bL Z (U 2 Z (AR.and 4 6 10 [] (x:=(decide ((s1.length:Int)≤64))) Z Z (fun h1=>?_) (fun h1=>?_) ?_)))))
 · refine Is 6 h1 Z (U 1 Z (GO Z (AO.bC Z Z Z Z bL Z ?_))); exact eD 2 Z (En [10] Z)
 · refine Is 6 h1 Z ?_; exact eD 4 Z (En [10] Z)
 cases hf; exact N 1 Z (Y Z h)
theorem w9 (Uw:Bool) (Gh:Bool) {r0:Int} (hf:rD Uw Gh=some r0) (h:Q (.ret (iP r0)) τ):PC 260 [.bool Uw,.bool Gh] τ Q:=by
 unfold rD at hf; refine BN 7 [.tmp 4] [0,1] Tryz.func260 Z Z Z Z Z (V 2 Z (C hf Z (fun h1 hf=>?_) fun h1 hf=>?_))
 · cases hf; exact M 1 Z (Y Z h)
 refine V 1 Z (C hf Z (fun h2 hf=>?_) fun h2 hf=>?_)
 · cases hf; exact M 1 Z (Y Z h)
 cases hf; exact M 1 Z (Y Z h)
theorem DN (c1:UInt8) {r0:Bool} (hf:yw c1=some r0) (h:Q (.ret (.bool r0)) τ):PC 261 [.int .u8 (c1.toNat:Int)] τ Q:=by
 unfold yw at hf; refine BN 9 [.tmp 2] [0] Tryz.func261 Z Z Z Z Z (W 4 Z (An 3 5 8 [] (decide ((c1.toNat:Int)≤57)) Z Z Z Z ?_)); cases hf; exact N 1 Z (Y Z h)
theorem NT (s1:Str) (bO:Int) {r0:Int} (hf:FZ s1 bO=some r0) (h:Q (.ret (iP r0)) τ):PC 262 [.str s1,iP bO] τ Q:=by
 unfold FZ at hf; refine BN 18 [.tmp 4] [0,1] Tryz.func262 Z Z Z Z Z (V 1 Z (CK (fun at2=>[(0,.str s1),(1,iP at2)]) (fun at2=>[]) (fun dw at2=>yO s1 dw at2=some r0) BIG bO Z Z hf (fun _ hz=>bQ hz) ?_)); intro dw at2 hf; rw [yO] at hf; refine W 2 Z (AS Z (AO.bC Z Z Z Z bL Z ?_)); refine B1 hf fun b1 h2 hf=>U 2 Z (AR.dS 5 9 14 true [0,1] b1 Z Z (fun h1=>?_) (fun h1=>?_) ?_)
 · refine IT 9 h1 h2 Z fun h2=>?_; refine B1 h2 fun x1 h3 h2=>U 2 Z (GO Z (AO.bP h3 Z bL Z Z ?_)); refine BR h2 fun x2 h4 h2=>?_; refine GO Z (AO.call Z _ Z Z Xg (DN _ h4 ?_)); cases h2; exact eD 1 Z (En [14,0,1] Z)
 · refine IF 9 h1 h2 Z fun h2=>?_; cases h2; exact eD 5 Z (En [14,0,1] Z)
 refine J 0 Z (C hf Z (fun h5 hf=>?_) fun h5 hf=>?_)
 · exact M 3 Z ⟨(bI (at2 + 1)),Z,Z,Z,hf⟩
 cases hf; exact M 2 Z (Y Z h)
theorem I6 (s1:Str) {r0:Str} (hf:yu s1=some r0) (h:Q (.ret (.str r0)) τ):PC 301 [.str s1] τ Q:=by
 unfold yu at hf; refine BN 19 [.tmp 2] [0] Tryz.func301 Z Z Z Z Z (V 2 Z (CK (fun i1=>[(0,.str s1),(3,iP i1)]) (fun i1=>[]) (fun dw i1=>rC s1 dw i1=some r0) BIG 0 Z Z hf (fun _ hz=>bQ hz) ?_)); intro dw i1 hf; rw [rC] at hf; refine W 2 Z (AS Z (AO.bC Z Z Z Z bL Z ?_)); refine B1 hf fun b1 h2 hf=>U 2 Z (AR.dS 5 8 13 true [0,3] b1 Z Z (fun h1=>?_) (fun h1=>?_) ?_)
 · refine IT 8 h1 h2 Z fun h2=>?_; refine B1 h2 fun x1 h3 h2=>U 2 Z (GO Z (AO.bP h3 Z bL Z Z ?_)); cases h2; exact eD 2 Z (En [13,0,3] Z)
 · refine IF 8 h1 h2 Z fun h2=>?_; cases h2; exact eD 5 Z (En [13,0,3] Z)
 refine J 0 Z (C hf Z (fun h4 hf=>?_) fun h4 hf=>?_)
 · exact M 3 Z ⟨(bI (i1 + 1)),Z,Z,Z,hf⟩
 refine BR hf fun x2 h5 hf=>?_; refine W 2 Z (AS Z (AO.jT h5 Z bL Z ⟨_,Z⟩ Z ?_)); cases hf; exact N 1 Z (Y Z h)
theorem TG (a1:Str) (b1:Str) {r0:Int} (hf:Di a1 b1=some r0) (h:Q (.ret (iP r0)) τ):PC 263 [.str a1,.str b1] τ Q:=by
 unfold Di at hf; refine BN 48 [.tmp 4] [0,1] Tryz.func263 Z Z Z Z Z ?_; refine B1 hf fun x1 h1 hf=>W 2 Z (CL Z (I6 _ h1 ?_)); refine B1 hf fun y1 h2 hf=>U 1 Z (CL Z (I6 _ h2 (U 3 Z (AS Z (AO.bC Z Z Z Z bL Z (U 1 Z (AS Z (AO.bC Z Z Z Z bL Z (J 1 Z (C hf Z (fun h3 hf=>?_) fun h3 hf=>?_))))))))))
 · refine W 1 Z (AS Z (AO.bC Z Z Z Z bL Z (U 1 Z (AS Z (AO.bC Z Z Z Z bL Z (U 2 Z (AS Z (AO.bC Z Z Z Z bL Z (U 1 Z (AS Z (AO.bC Z Z Z Z bL Z ?_))))))))))); refine BR hf fun x2 h4 hf=>?_; refine U 1 Z (CL Z (w9 _ _ h4 ?_)); cases hf; exact N 1 Z (Y Z h)
 refine V 3 Z (C hf Z (fun h5 hf=>?_) fun h5 hf=>?_)
 · refine BR hf fun x3 h6 hf=>?_; refine W 6 Z (CL Z (w9 _ _ h6 ?_)); cases hf; exact N 1 Z (Y Z h)
 refine W 1 Z (AS Z (AO.bC Z Z Z Z bL Z (U 1 Z (AS Z (AO.bC Z Z Z Z bL Z (U 2 Z (AS Z (AO.bC Z Z Z Z bL Z (U 1 Z (AS Z (AO.bC Z Z Z Z bL Z ?_))))))))))); refine BR hf fun x4 h7 hf=>?_; refine U 1 Z (CL Z (w9 _ _ h7 ?_)); cases hf; exact N 1 Z (Y Z h)
theorem MP (a1:Str) (b1:Str) {r0:Int} (hf:qL a1 b1=some r0) (h:Q (.ret (iP r0)) τ):PC 214 [.str a1,.str b1] τ Q:=by
 unfold qL at hf; refine BN 78 [.tmp 4] [0,1] Tryz.func214 Z Z Z Z Z (V 3 Z (JQ (fun i1 wm=>[(0,.str a1),(1,.str b1),(5,iP i1),(6,iP wm)]) (fun i1 wm=>[]) (fun dw i1 wm=>kZ a1 b1 dw i1 wm=some r0) BIG 0 0 Z Z hf (fun _ _ hz=>bQ hz) ?_)); intro dw i1 wm hf; rw [kZ] at hf; refine W 2 Z (AS Z (AO.bC Z Z Z Z bL Z (U 2 Z (AR.and 5 14 19 [0,1,5,6] (x:=(decide (wm < (b1.length:Int)))) Z Z (fun h1=>?_) (fun h1=>?_) ?_))))
 · refine Is 14 h1 Z (U 2 Z (GO Z (AO.bC Z Z Z Z bL Z ?_))); exact eD 2 Z (En [19,0,1,5,6] Z)
 · refine Is 14 h1 Z ?_; exact eD 5 Z (En [19,0,1,5,6] Z)
 refine J 0 Z (C hf Z (fun h2 hf=>?_) fun h2 hf=>?_)
 ·
  refine V 0 Z (AW.draw 16 mixed (by kernel_rfl) Z ?_); refine Ev.cs dh 2 Z ?_; refine B1 hf fun x1 h3 hf=>Ev.cons Z Z Z (AO.bP h3 Z bL Z Z zg) (Ev.cs dh 2 Z ?_); refine B1 hf fun x2 h4 hf=>Ev.cons Z Z Z (AO.bP h4 Z bL Z Z zg) (Ev.cs dh 3 Z ?_); refine B1 hf fun x3 h5 hf=>Ev.cons Z Z Z (AO.bP h5 Z bL Z Z zg) (Ev.cs dh 2 Z ?_); refine B1 hf fun x4 h6 hf=>Ev.cons Z Z Z (AO.bP h6 Z bL Z Z zg) (Ev.cs dh 1 Z ?_); refine B1 hf fun c1 h7 hf=>Ev.cons Z Z Z (AO.call Z _ Z Z aaF (w9 _ _ h7 zg)) (Ev.cs dh 1 Z (Ev.nil ?_)); show AR _ _ _ _ _ _ _ _; refine B1 hf fun x5 h8 hf=>U 8 Z (AS Z (AO.bP h8 Z bL Z Z ?_)); refine B1 hf fun x6 h9 hf=>CL Z (DN _ h9 ?_); refine B1 hf fun b2 h11 hf=>U 1 Z (AR.dS 5 43 48 true [0,1,5,6,7,8,9] b2 Z Z (fun h10=>?_) (fun h10=>?_) ?_)
  · refine IT 43 h10 h11 Z fun h11=>?_; refine B1 h11 fun x7 h12 h11=>U 2 Z (GO Z (AO.bP h12 Z bL Z Z ?_)); refine BR h11 fun x8 kY h11=>?_; refine GO Z (AO.call Z _ Z Z Xg (DN _ kY ?_)); cases h11; exact eD 1 Z (En [48,0,1,5,6,7,8,9] Z)
  · refine IF 43 h10 h11 Z fun h11=>?_; cases h11; exact eD 5 Z (En [48,0,1,5,6,7,8,9] Z)
  refine J 0 Z (C hf Z (fun lu hf=>?_) fun lu hf=>?_)
  ·
   refine B1 hf fun m1 pK hf=>W 2 Z (CL Z (NT _ _ pK ?_)); refine B1 hf fun n1 h16 hf=>U 2 Z (CL Z (NT _ _ h16 (J 2 Z (AW.draw 10 mixed (by kernel_rfl) Z ?_)))); refine Ev.cs dh 3 Z ?_; refine B1 hf fun x9 wV hf=>Ev.cons Z Z Z (AO.jT wV Z bL Z ⟨_,Z⟩ ⟨_,Z⟩ zg) (Ev.cs dh 3 Z ?_); refine B1 hf fun JX h18 hf=>Ev.cons Z Z Z (AO.jT h18 Z bL Z ⟨_,Z⟩ ⟨_,Z⟩ zg) ?_; refine B1 hf fun c2 h19 hf=>Ev.cons Z Z Z (AO.call Z _ Z Z aaE (TG _ _ h19 zg)) (Ev.cs dh 1 Z (Ev.nil ?_)); show AR _ _ _ _ _ _ _ _; refine J 2 Z (C hf Z (fun h20 hf=>?_) fun h20 hf=>?_)
   · cases hf; exact M 2 Z (Y Z h)
   exact M 4 Z ⟨m1,n1,Z,Z,Z,hf⟩
  refine V 2 Z (C hf Z (fun h21 hf=>?_) fun h21 hf=>?_)
  · cases hf; exact M 2 Z (Y Z h)
  exact M 4 Z ⟨(bI (i1 + 1)),(bI (wm + 1)),Z,Z,Z,hf⟩
 refine W 2 Z (AS Z (AO.bC Z Z Z Z bL Z (U 3 Z (AS Z (AO.bC Z Z Z Z bL Z ?_))))); refine BR hf fun YA h22 hf=>?_; refine U 1 Z (CL Z (w9 _ _ h22 ?_)); cases hf; exact N 1 Z (Y Z h)
theorem Jq (v1:av) {r0:Bool} (hf:sD v1=some r0) (h:Q (.ret (.bool r0)) τ):PC 167 [.agg (dB v1)] τ Q:=by
 unfold sD at hf; refine BN 44 [.tmp 2] [0] Tryz.func167 Z Z Z Z Z (V 3 Z (CK (fun i1=>[(1,.ref (dB v1)),(3,iP i1)]) (fun i1=>[]) (fun dw i1=>mE v1 dw i1=some r0) BIG 0 Z Z hf (fun _ hz=>bQ hz) ?_)); intro dw i1 hf; rw [mE] at hf; refine W 3 Z (AS Z (AO.aV (l:=v1.keys) Z Z Z Z gX Z Z (J 1 Z (C hf Z (fun h1 hf=>?_) fun h1 hf=>?_))))
 ·
  refine V 0 Z (AW.draw 26 mixed (by kernel_rfl) Z ?_); refine Ev.cs dh 3 Z ?_; refine B1 hf fun e1 h2 hf=>Ev.cons Z Z Z (AO.cZ h2 Z Z Z Z gX Z Z zg) (Ev.cs dh 1 Z ?_); refine B1 hf fun x1 h3 hf=>Ev.cons Z Z Z (AO.call Z _ Z Z aaN (VR _ h3 zg)) (Ev.cs dh 2 Z ?_); refine B1 hf fun b1 h5 hf=>Ev.dS hKA 18 18 36 false [1,3] (.bool b1) Z Z (fun h4=>?_) (fun h4=>?_) ?_
  ·
   replace h5:=jG h4 h5; refine Ev.is Vw 18 h4 Z (Ev.cs dh 3 Z ?_); refine BR h5 fun b2 h7 h5=>?_; refine Ev.dS Vw 14 21 35 true [1,3,18] (.bool b2) Z Z (fun h6=>?_) (fun h6=>?_) ?_
   ·
    replace h7:=j_ h6 h7; refine Ev.is Vw 21 h6 Z (Ev.cs dh 4 Z ?_); refine B1 h7 fun e2 h8 h7=>Ev.run Z Z Z Z Z Z Z (AO.cZ h8 Z Z Z Z gX Z Z zg) (Ev.cs dh 4 Z ?_); refine B1 h7 fun e3 h9 h7=>Ev.run Z Z Z Z Z Z Z (AO.cZ h9 Z Z Z Z gX Z Z zg) (Ev.cs dh 1 Z ?_); refine B1 h7 fun x2 h10 h7=>Ev.run Z Z Z Z Z Z Z (AO.call Z _ Z Z aaM (MP _ _ h10 zg)) (Ev.cs dh 1 Z ?_); cases h7; refine Ev.cs dh 1 Z ?_; exact Ev.nil (Less.settle (ps:=[35,1,3,18]) Z)
   · replace h7:=jG h6 h7; refine Ev.is Vw 21 h6 Z ?_; cases h7; refine Ev.cs dh 14 Z ?_; exact Ev.nil (Less.settle (ps:=[35,1,3,18]) Z)
   cases h5; refine Ev.cs dh 1 Z ?_; exact Ev.nil (Less.settle (ps:=[36,1,3]) Z)
  · replace h5:=j_ h4 h5; refine Ev.is Vw 18 h4 Z ?_; cases h5; refine Ev.cs dh 18 Z ?_; exact Ev.nil (Less.settle (ps:=[36,1,3]) Z)
  refine Ev.nil ?_; show AR _ _ _ _ _ _ _ _; refine J 0 Z (C hf Z (fun h11 hf=>?_) fun h11 hf=>?_)
  · cases hf; exact M 1 Z (Y Z h)
  exact M 3 Z ⟨(bI (i1 + 1)),Z,Z,Z,hf⟩
 refine W 2 Z (AS Z (AO.aV (l:=v1.keys) Z Z Z Z gX Z Z (U 2 Z (AS Z (AO.aV (l:=v1.dW) Z Z Z Z qV Z (av.bM _) ?_))))); cases hf; exact N 2 Z (Y Z h)
abbrev Jd (kX:av→Int→Option Int):Prop:=∀ (Cq:av) (fM:Int) {bY:Int},kX Cq fM=some bY→∀ {τ:List bn} {Q:fq→List bn→Prop} (h:Q (.ret (iP bY)) τ),PC 130 [.agg (dB Cq),iP fM] τ Q
theorem PW (kX) (MF:Jd kX) (v1:av) (dx:Int) {r0:Int} (hf:zK kX v1 dx=some r0) (h:Q (.ret (iP r0)) τ):PC 130 [.agg (dB v1),iP dx] τ Q:=by
 unfold zK at hf; refine BN 85 [.tmp 4] [0,1] Tryz.func130 Z Z Z Z Z (V 4 Z (C hf Z (fun h1 hf=>?_) fun h1 hf=>?_))
 · cases hf; exact M 1 Z (Y Z h)
 refine W 4 Z (On 4 12 16 [1,2] (decide (5 < v1.kind)) Z Z Z Z ?_); refine B1 hf fun b1 h4 hf=>U 1 Z (AR.dS 4 17 21 false [1,2] b1 Z Z (fun h3=>?_) (fun h3=>?_) ?_)
 · refine IF 17 h3 h4 Z fun h4=>?_; refine B1 h4 fun x1 h5 h4=>U 1 Z (GO Z (AO.call Z _ Z Z aaX (Rz _ h5 ?_))); cases h4; exact eD 2 Z (En [21,1,2] Z)
 · refine IT 17 h3 h4 Z fun h4=>?_; cases h4; exact eD 4 Z (En [21,1,2] Z)
 refine J 0 Z (C hf Z (fun h6 hf=>?_) fun h6 hf=>?_)
 · cases hf; exact M 1 Z (Y Z h)
 refine W 4 Z (On 4 25 29 [1,2] (decide (9007199254740992 < v1.mG)) Z Z Z Z (J 0 Z (C hf Z (fun h8 hf=>?_) fun h8 hf=>?_)))
 · cases hf; exact M 1 Z (Y Z h)
 refine W 2 Z (AS Z (AO.bC Z Z Z Z bL Z (U 2 Z (AR.or 5 34 39 [1,2] (x:=(decide (1024 < (v1.dW.length:Int)))) Z Z (fun h9=>?_) (fun h9=>?_) ?_))))
 · refine Is 34 h9 Z (U 2 Z (GO Z (AO.aV (l:=v1.dW) Z Z Z Z qV Z (av.bM _) ?_))); exact eD 2 Z (En [39,1,2] Z)
 · refine Is 34 h9 Z ?_; exact eD 5 Z (En [39,1,2] Z)
 refine U 1 Z (AR.or 5 40 45 [1,2] (x:=(decide (1024 < (v1.keys.length:Int)))) Z Z (fun h10=>?_) (fun h10=>?_) ?_)
 · refine Is 40 h10 Z (U 2 Z (GO Z (AO.aV (l:=v1.keys) Z Z Z Z gX Z Z ?_))); exact eD 2 Z (En [45,1,2] Z)
 · refine Is 40 h10 Z ?_; exact eD 5 Z (En [45,1,2] Z)
 refine J 0 Z (C hf Z (fun h11 hf=>?_) fun h11 hf=>?_)
 · cases hf; exact M 1 Z (Y Z h)
 refine B1 hf fun b2 kY hf=>W 4 Z (AR.dS 4 49 53 true [1,2] b2 Z Z (fun h12=>?_) (fun h12=>?_) ?_)
 · refine IT 49 h12 kY Z fun kY=>?_; refine B1 kY fun x2 lu kY=>U 1 Z (GO Z (AO.call Z _ Z Z aaW (Jq _ lu ?_))); cases kY; exact eD 2 Z (En [53,1,2] Z)
 · refine IF 49 h12 kY Z fun kY=>?_; cases kY; exact eD 4 Z (En [53,1,2] Z)
 refine J 0 Z (C hf Z (fun pK hf=>?_) fun pK hf=>?_)
 · cases hf; exact M 1 Z (Y Z h)
 refine W 4 Z (AR.and 5 57 62 [1,2] (x:=((v1.dW.length:Int) == 0)) Z Z (fun h16=>?_) (fun h16=>?_) ?_)
 · refine Is 57 h16 Z (U 2 Z (GO Z (AO.aV (l:=v1.dW) Z Z Z Z qV Z (av.bM _) ?_))); exact eD 2 Z (En [62,1,2] Z)
 · refine Is 57 h16 Z ?_; exact eD 5 Z (En [62,1,2] Z)
 refine U 1 Z (An 3 63 66 [1,2] (dx == 16) Z Z Z Z (J 0 Z (C hf Z (fun h18 hf=>?_) fun h18 hf=>?_)))
 · cases hf; exact M 1 Z (Y Z h)
 refine V 1 Z (CK (fun i1=>[(1,iP dx),(2,.ref (dB v1)),(5,iP i1)]) (fun i1=>[]) (fun dw i1=>uF kX v1 dx dw i1=some r0) BIG 0 Z Z hf (fun _ hz=>bQ hz) ?_); intro dw i1 hf; rw [uF] at hf; refine W 3 Z (AS Z (AO.aV (l:=v1.dW) Z Z Z Z qV Z (av.bM _) (J 1 Z (C hf Z (fun h19 hf=>?_) fun h19 hf=>?_))))
 ·
  refine B1 hf fun e1 h20 hf=>W 3 Z (AS Z (AO.cZ h20 Z Z (av.bM _) Z qV (av.aT _) Z ?_)); refine B1 hf fun e2 h21 hf=>U 3 Z (CL Z (MF _ _ h21 (J 3 Z (C hf Z (fun h22 hf=>?_) fun h22 hf=>?_))))
  · cases hf; exact M 2 Z (Y Z h)
  exact M 3 Z ⟨(bI (i1 + 1)),Z,Z,Z,hf⟩
 cases hf; exact M 1 Z (Y Z h)
theorem QI :∀ k:Nat,(Jd (nH k)):=by
 intro k
 induction k with
 | zero=>exact fun _ _ _ hz=>by first | cases hz | (unfold nH at hz; cases hz)
 | succ k ih=>exact fun Cq fM bY hz τ Q hq=>PW (nH k) ih Cq fM hz hq
theorem RA (Cq:av) (fM:Int) {bY:Int} (hf:Hl Cq fM=some bY) (h:Q (.ret (iP bY)) τ):PC 130 [.agg (dB Cq),iP fM] τ Q:=
 ((QI BIG)) Cq fM hf h
theorem RB (v1:av) {r0:Int} (hf:A9 v1=some r0) (h:Q (.ret (iP r0)) τ):PC 102 [.agg (dB v1)] τ Q:=by
 unfold A9 at hf; refine BN 5 [.tmp 2] [0] Tryz.func102 Z Z Z Z Z ?_; refine BR hf fun x1 h1 hf=>?_; refine W 3 Z (CL Z (RA _ _ h1 ?_)); cases hf; exact N 1 Z (Y Z h)
theorem Rm (lG:List Str) {r0:Bool} (hf:AB lG=some r0) (h:Q (.ret (.bool r0)) τ):PC 169 [sP lG] τ Q:=by
 unfold AB at hf; refine BN 25 [.tmp 2] [0] Tryz.func169 Z Z Z Z Z (V 2 Z (CK (fun i1=>[(0,sP lG),(3,iP i1)]) (fun i1=>[]) (fun dw i1=>nA lG dw i1=some r0) BIG 0 Z Z hf (fun _ hz=>bQ hz) ?_)); intro dw i1 hf; rw [nA] at hf; refine W 2 Z (AS Z (AO.aV (l:=lG) Z Z Z Z gX Z Z (J 1 Z (C hf Z (fun h1 hf=>?_) fun h1 hf=>?_))))
 ·
  refine V 1 Z (CK (fun wm=>[(0,sP lG),(3,iP i1),(4,iP wm)]) (fun wm=>[]) (fun xW wm=>rz lG i1 (nA lG dw) xW wm=some r0) BIG 0 Z Z hf (fun _ hz=>bQ hz) ?_); intro xW wm hf; rw [rz] at hf; refine V 3 Z (C hf Z (fun h2 hf=>?_) fun h2 hf=>?_)
  ·
   refine V 0 Z (AW.draw 9 mixed (by kernel_rfl) Z ?_); refine Ev.cs dh 2 Z ?_; refine B1 hf fun e1 h3 hf=>Ev.cons Z Z Z (AO.cZ h3 Z Z Z Z gX Z Z zg) (Ev.cs dh 3 Z ?_); refine B1 hf fun e2 h4 hf=>Ev.cons Z Z Z (AO.cZ h4 Z Z Z Z gX Z Z zg) (Ev.cs dh 2 Z (Ev.nil ?_)); show AR _ _ _ _ _ _ _ _; refine J 0 Z (C hf Z (fun h5 hf=>?_) fun h5 hf=>?_)
   · cases hf; exact M 1 Z (Y Z h)
   exact M 3 Z ⟨(bI (wm + 1)),Z,Z,Z,hf⟩
  exact M 3 Z ⟨(bI (i1 + 1)),Z,Z,Z,hf⟩
 cases hf; exact M 1 Z (Y Z h)
abbrev Jb (kV:aj→Int→Option Int):Prop:=∀ (sU:aj) (fM:Int) {bY:Int},kV sU fM=some bY→∀ {τ:List bn} {Q:fq→List bn→Prop} (h:Q (.ret (iP bY)) τ),PC 132 [.agg (cB sU),iP fM] τ Q
theorem PO (kV) (MC:Jb kV) (e1:aj) (dx:Int) {r0:Int} (hf:zG kV e1 dx=some r0) (h:Q (.ret (iP r0)) τ):PC 132 [.agg (cB e1),iP dx] τ Q:=by
 unfold zG at hf; refine BN 49 [.tmp 4] [0,1] Tryz.func132 Z Z Z Z Z (V 4 Z (C hf Z (fun h1 hf=>?_) fun h1 hf=>?_))
 · cases hf; exact M 1 Z (Y Z h)
 refine B1 hf fun x1 h2 hf=>W 1 Z (CL Z (Pd _ h2 (J 1 Z (C hf Z (fun h3 hf=>?_) fun h3 hf=>?_))))
 · cases hf; exact M 1 Z (Y Z h)
 refine B1 hf fun f1 h4 hf=>W 2 Z (CL Z (RB _ h4 (U 5 Z (An 3 19 22 [1,2,5] (f1 != 0) Z Z Z Z (J 0 Z (C hf Z (fun h6 hf=>?_) fun h6 hf=>?_))))))
 · cases hf; exact M 2 Z (Y Z h)
 refine W 2 Z (AS Z (AO.aV (l:=e1.args) Z Z Z Z jL Z (aj.bM _) (J 1 Z (C hf Z (fun h7 hf=>?_) fun h7 hf=>?_))))
 · cases hf; exact M 1 Z (Y Z h)
 refine B1 hf fun x2 h8 hf=>W 2 Z (CL Z (Rm _ h8 (J 0 Z (C hf Z (fun h9 hf=>?_) fun h9 hf=>?_))))
 · cases hf; exact M 1 Z (Y Z h)
 refine V 1 Z (CK (fun i1=>[(1,iP dx),(2,.ref (cB e1)),(6,iP i1)]) (fun i1=>[]) (fun dw i1=>uz kV e1 dx dw i1=some r0) BIG 0 Z Z hf (fun _ hz=>bQ hz) ?_); intro dw i1 hf; rw [uz] at hf; refine W 3 Z (AS Z (AO.aV (l:=e1.args) Z Z Z Z jL Z (aj.bM _) (J 1 Z (C hf Z (fun h10 hf=>?_) fun h10 hf=>?_))))
 ·
  refine B1 hf fun e2 h11 hf=>W 3 Z (AS Z (AO.cZ h11 Z Z (aj.bM _) Z jL (aj.aT _) Z ?_)); refine B1 hf fun f2 h12 hf=>U 3 Z (CL Z (MC _ _ h12 (J 3 Z (C hf Z (fun kY hf=>?_) fun kY hf=>?_))))
  · cases hf; exact M 2 Z (Y Z h)
  exact M 3 Z ⟨(bI (i1 + 1)),Z,Z,Z,hf⟩
 cases hf; exact M 1 Z (Y Z h)
theorem QG :∀ k:Nat,(Jb (nD k)):=by
 intro k
 induction k with
 | zero=>exact fun _ _ _ hz=>by first | cases hz | (unfold nD at hz; cases hz)
 | succ k ih=>exact fun sU fM bY hz τ Q hq=>PO (nD k) ih sU fM hz hq
theorem Rp (sU:aj) (fM:Int) {bY:Int} (hf:Hf sU fM=some bY) (h:Q (.ret (iP bY)) τ):PC 132 [.agg (cB sU),iP fM] τ Q:=
 ((QG BIG)) sU fM hf h
theorem Rs (e1:aj) {r0:Int} (hf:AP e1=some r0) (h:Q (.ret (iP r0)) τ):PC 103 [.agg (cB e1)] τ Q:=by
 unfold AP at hf; refine BN 8 [.tmp 2] [0] Tryz.func103 Z Z Z Z Z ?_; refine B1 hf fun x1 h1 hf=>W 3 Z (CL Z (Ru _ h1 (J 1 Z (C hf Z (fun h2 hf=>?_) fun h2 hf=>?_))))
 · cases hf; exact M 1 Z (Y Z h)
 refine BR hf fun x2 h3 hf=>?_; refine W 1 Z (CL Z (Rp _ _ h3 ?_)); cases hf; exact N 1 Z (Y Z h)
theorem TA (iO:List au) {r0:aj} {r1:Int} {r2:Int} (hf:Dg iO=some (r0,r1,r2)) (h:Q (.ret (.tuple [.agg (cB r0),iP r1,iP r2])) τ):PC 93 [.list (List.map au.cells iO)] τ Q:=by
 unfold Dg at hf; refine BN 28 [.cell 2 111,.tmp 3,.tmp 4] [0] Tryz.func93 Z Z Z Z Z (W 0 Z (AS Z (AO.aQ Z fF (fun b2=>?_)))); obtain ⟨x1,bO,e1,h1,hf⟩:=eH hf; refine U 3 Z (CL Z (Jo _ _ h1 (U 4 Z (AS Z (AO.aQ Z fF (fun b5=>(Rw 5 [0] Z Z (C hf Z (fun h2 hf=>?_) fun h2 hf=>?_))))))))
 · cases hf; exact Wx 6 [1] Z Z (ZC [1] Z Z h)
 refine B1 hf fun f1 h3 hf=>Wr 1 [0] Z Z (CL Z (Rs _ h3 (J 3 Z (C hf Z (fun h4 hf=>?_) fun h4 hf=>?_))))
 · cases hf; exact Wx 5 [1] Z Z (ZC [1] Z Z h)
 cases hf; exact Wx 5 [0,1] Z Z (ZC [1] Z Z h)
theorem Rt (bJ:Str) {r0:aj} {r1:Int} {r2:Int} (hf:AQ bJ=some (r0,r1,r2)) (h:Q (.ret (.tuple [.agg (cB r0),iP r1,iP r2])) τ):PC 68 [.str bJ] τ Q:=by
 unfold AQ at hf; refine BN 53 [.cell 2 111,.tmp 3,.tmp 4] [0] Tryz.func68 Z Z Z Z Z (W 0 Z (AS Z (AO.aQ Z fF (fun b2=>?_)))); obtain ⟨iO,bO,e1,h1,hf⟩:=eH hf; refine U 3 Z (CL Z (Pg _ h1 (J 9 Z (C hf Z (fun h2 hf=>?_) fun h2 hf=>?_))))
 · cases hf; exact Wx 6 [0] Z Z (ZC [0] Z Z h)
 obtain ⟨x1,n1,e2,h3,hf⟩:=eH hf; refine W 1 Z (CL Z (TA _ h3 (U 4 Z (AS Z (AO.aQ Z fF (fun b8=>(Rr 6 [0] Z Z (AR.and 5 29 34 [0,2,5,7,8,9] (x:=(n1 == (iO.length:Int))) Z Z (fun h4=>?_) (fun h4=>?_) ?_))))))))
 · refine Is 29 h4 Z (U 2 Z (GO Z (AO.aV (l:=iO) Z Z Z Z gN Z Z ?_))); exact eD 2 Z (En [34,0,2,5,7,8,9] Z)
 · refine Is 29 h4 Z ?_; exact eD 5 Z (En [34,0,2,5,7,8,9] Z)
 refine J 0 Z (C hf Z (fun h5 hf=>?_) fun h5 hf=>?_)
 · cases hf; exact Wx 4 [0,1] Z Z (ZC [1] Z Z h)
 refine V 2 Z (C hf Z (fun h6 hf=>?_) fun h6 hf=>?_)
 ·
  refine W 3 Z (AS Z (AO.aV (l:=iO) Z Z Z Z gN Z Z (J 1 Z (C hf Z (fun h7 hf=>?_) fun h7 hf=>?_))))
  ·
   refine V 0 Z (AW.Gp 1 7 9 1 mixed (by kernel_rfl) (by kernel_rfl) (by kernel_rfl) Z Z Z Z ?_); refine Ev.cons Z Z Z (AO.build Z fF BG Z zg) (Ev.nil ?_); show Ev _ _ _ _ _ _ _; refine Ev.cs dh 2 Z ?_; refine B1 hf fun e3 h8 hf=>Ev.cons Z Z Z (AO.cZ h8 Z Z Z Z gN (au.aT _) Z zg) (Ev.cs dh 3 Z (Ev.nil (TF.dF Z Z (AO.fB (i:=0) Z Z Z iL Z Z Z Z Z ?_)))); refine TF.step Z Z Z (AO.calc' Z (TF.nil ?_)); show AR _ _ _ _ _ _ _ _; cases hf; exact N 1 Z (ZC [1] Z Z h)
  refine W 2 Z (AS Z (AO.bC Z Z Z Z bL Z ?_)); cases hf; exact Rx 4 [1] Z Z (ZC [1] Z Z h)
 refine W 2 Z (AS Z (AO.aV (l:=iO) Z Z Z Z gN Z Z (J 1 Z (C hf Z (fun h9 hf=>?_) fun h9 hf=>?_))))
 ·
  refine V 0 Z (AW.Gp 1 7 9 1 mixed (by kernel_rfl) (by kernel_rfl) (by kernel_rfl) Z Z Z Z ?_); refine Ev.cons Z Z Z (AO.build Z fF BG Z zg) (Ev.nil ?_); show Ev _ _ _ _ _ _ _; refine Ev.cs dh 2 Z ?_; refine B1 hf fun e4 h10 hf=>Ev.cons Z Z Z (AO.cZ h10 Z Z Z Z gN (au.aT _) Z zg) (Ev.cs dh 3 Z (Ev.nil (TF.dF Z Z (AO.fB (i:=0) Z Z Z iL Z Z Z Z Z ?_)))); refine TF.step Z Z Z (AO.calc' Z (TF.nil ?_)); show AR _ _ _ _ _ _ _ _; cases hf; exact N 1 Z (ZC [1] Z Z h)
 refine W 2 Z (AS Z (AO.bC Z Z Z Z bL Z ?_)); cases hf; exact Rx 4 [1] Z Z (ZC [1] Z Z h)
theorem Rl (s1:Str) {r0:List aR} {r1:Int} {r2:Int} (hf:AA s1=some (r0,r1,r2)) (h:Q (.ret (.tuple [.list (List.map aR.cells r0),iP r1,iP r2])) τ):PC 43 [.str s1] τ Q:=by
 unfold AA at hf; refine AC.none (AC.kH 91 [.tmp 2,.tmp 3,.tmp 4] [0] Tryz.func43 Z Z Z Z Z (AW.sr (AR.step Z Z Z (AO.eF Z Z ?_)))); refine cs 2 Z (AR.nil [0] Z (AW.seq (AW.sr ?_))); refine cs 1 Z (AR.step Z Z Z (AO.bC Z Z Z Z bL Z (cs 1 Z (AR.nil [0,13] Z ?_)))); refine AW.cond Z (fun h1=>?_) (fun h1=>?_)
 · replace hf:=j_ h1 hf; refine AW.sr (AR.step Z Z Z (AO.eF Z Z (cs 2 Z (AR.nil [2,3,4] Z ?_)))); refine AW.ret ?_; cases hf; exact ⟨rfl,_,⟨_,_,rfl,rfl,_,_,rfl,rfl,_,_,rfl,rfl,rfl⟩,[],List.nil_sublist _,h⟩
 replace hf:=jG h1 hf; refine AW.skip (AW.sr (AR.step Z Z Z (AO.JG Z Z (AR.nil [0,5] Z ?_)))); refine AW.sr (cs 1 Z (AR.nil [0,5,6] Z (AW.seq ?_))); refine AW.block (AW.adu 12 115 (AW.settle [0,5,6] Z (AW.XD (fun l1 v1 bO=>[(0,.str s1),(5,.val v1),(6,iP bO)]) (fun l1 v1 bO=>[.buf v1 l1.length 12 115 (List.flatMap aR.cells l1)]) (fun dw l1 v1 bO=>lU s1 dw l1 bO=some (r0,r1,r2)) BIG [] (.slice none 0 0) 0 Z Z hf (fun _ _ _ hz=>bQ hz) ?_))); intro dw l1 v1 bO hf; rw [lU] at hf; refine AW.seq (AW.sr (cs 2 Z (AR.step Z Z Z (AO.bC Z Z Z Z bL Z ?_)))); refine cs 1 Z (AR.nil [0,5,6,17] Z (AW.cond Z (fun h2=>?_) (fun h2=>?_)))
 ·
  replace hf:=j_ h2 hf; refine AW.skip (AW.block (AW.seq (AW.sr ?_))); refine cs 2 Z ?_; refine B1 hf fun x1 h3 hf=>AR.step Z Z Z (AO.bP h3 Z bL Z Z (cs 2 Z (AR.or 6 22 28 [0,5,6] (x:=(decide ((s1.length:Int)≤(bI (bO + 1))))) Z Z (fun h4=>?_) (fun h4=>?_) ?_)))
  · refine AR.is 22 h4 Z (cs 3 Z (AR.go Z Z Z Z Z Z (AO.bC Z Z Z Z bL Z (cs 2 Z ?_)))); refine AR.nil [28,0,5,6] Z ?_; exact ⟨Z,Z,Z,Z⟩
  · refine AR.is 22 h4 Z (cs 6 Z (AR.nil [28,0,5,6] Z ?_)); exact ⟨Z,Z,Z,Z⟩
  refine cs 1 Z ?_; refine B1 hf fun b1 h6 hf=>AR.dS 13 29 42 false [0,5,6] b1 Z Z (fun h5=>?_) (fun h5=>?_) ?_
  ·
   replace h6:=jG h5 h6; refine AR.is 29 h5 Z (cs 3 Z ?_); refine B1 h6 fun x2 h7 h6=>AR.go Z Z Z Z Z Z (AO.bP h7 Z bL Z Z (cs 2 Z ?_)); refine BR h6 fun b2 h9 h6=>?_; refine AR.dS 6 35 41 true [0,5,6,29] b2 Z Z (fun h8=>?_) (fun h8=>?_) ?_
   · replace h9:=j_ h8 h9; refine AR.is 35 h8 Z (cs 3 Z ?_); refine B1 h9 fun x3 h10 h9=>AR.go Z Z Z Z Z Z (AO.bP h10 Z bL Z Z (cs 1 Z ?_)); cases h9; refine cs 1 Z (AR.nil [41,0,5,6,29] Z ?_); exact ⟨Z,Z,Z,Z⟩
   · replace h9:=jG h8 h9; refine AR.is 35 h8 Z ?_; cases h9; refine cs 6 Z (AR.nil [41,0,5,6,29] Z ?_); exact ⟨Z,Z,Z,Z⟩
   cases h6; refine cs 1 Z (AR.nil [42,0,5,6] Z ?_); exact ⟨Z,Z,Z,Z⟩
  · replace h6:=j_ h5 h6; refine AR.is 29 h5 Z ?_; cases h6; refine cs 13 Z (AR.nil [42,0,5,6] Z ?_); exact ⟨Z,Z,Z,Z⟩
  refine AR.nil [0,5,6,42] Z (AW.cond Z (fun h11=>?_) (fun h11=>?_))
  · replace hf:=j_ h11 hf; refine B1 hf fun c1 hw1 hf=>B1 hf fun l2 hw2 hf=>AW.sr (cs 3 Z (AR.step Z Z Z (AO.bP hw1 Z bL Z Z (AR.step Z Z Z (AO.call Z _ Z Z ZQ (LD _ _ hw2 (fun v2=>?_))))))); refine cs 1 Z (AR.nil [0,5,6] Z (AW.sr (cs 3 Z ?_))); refine AR.nil [0,5,6] Z (AW.exit ?_); exact ⟨l2,v2,(bI (bO + 1)),Z,Z,Z,hf⟩
  replace hf:=jG h11 hf; refine AW.skip (AW.seq (AW.sr (cs 3 Z ?_))); refine B1 hf fun x4 h12 hf=>AR.step Z Z Z (AO.bP h12 Z bL Z Z (cs 1 Z (AR.nil [0,5,6,54] Z (AW.cond Z (fun kY=>?_) (fun kY=>?_)))))
  · replace hf:=j_ kY hf; refine B1 hf fun l2 hw2 hf=>AW.sr (cs 1 Z (AR.step Z Z Z (AO.call Z _ Z Z ZQ (LD _ _ hw2 (fun v2=>(cs 1 Z ?_)))))); refine AR.nil [0,5,6] Z (AW.sr (cs 3 Z (AR.nil [0,5,6] Z ?_))); refine AW.exit ?_; exact ⟨l2,v2,(bI (bO + 2)),Z,Z,Z,hf⟩
  replace hf:=jG kY hf; refine AW.skip (AW.sr (cs 3 Z ?_)); refine B1 hf fun pR lu hf=>AR.step Z Z Z (AO.call Z _ Z Z acE (MN _ _ lu (cs 1 Z (AR.nil [0,5,6,7] Z (AW.seq ?_))))); refine AW.sr (cs 2 Z (AR.nil [0,5,6,7,64] Z (AW.cond Z (fun pK=>?_) (fun pK=>?_))))
  · replace hf:=j_ pK hf; refine AW.sr (cs 1 Z (AR.step Z Z Z (AO.eF Z Z (cs 2 Z ?_)))); refine AR.nil [2,3,4] Z (AW.ret ?_); cases hf; exact ⟨rfl,_,⟨_,_,rfl,rfl,_,_,rfl,rfl,_,_,rfl,rfl,rfl⟩,[],List.nil_sublist _,h⟩
  replace hf:=jG pK hf; refine AW.skip (AW.sr (cs 4 Z ?_)); refine B1 hf fun x5 h16 hf=>AR.step Z Z Z (AO.jT h16 Z bL Z ⟨_,Z⟩ ⟨_,Z⟩ ?_); obtain ⟨x6,wm,e1,wV,hf⟩:=eH hf; refine AR.step Z Z Z (AO.call Z _ Z Z acD (Rt _ wV (cs 4 Z (AR.step Z Z Z (AO.aQ Z fF (fun b8=>(AR.dF Z Z (AO.fB (i:=0) Z Z Z iL Z Z Z Z Z ?_)))))))); refine cs 2 Z (AR.nil [0,5,6,7,8,9,10] Z (AW.seq (AW.sr ?_))); refine cs 2 Z (AR.nil [0,5,6,7,8,9,10,77] Z (AW.cond Z (fun h18=>?_) (fun h18=>?_)))
  · replace hf:=j_ h18 hf; refine AW.sr (cs 5 Z (AR.step Z Z Z (AO.eF Z Z (cs 2 Z ?_)))); refine AR.nil [2,3,4] Z (AW.ret ?_); cases hf; exact ⟨rfl,_,⟨_,_,rfl,rfl,_,_,rfl,rfl,_,_,rfl,rfl,rfl⟩,[],List.nil_sublist _,h⟩
  replace hf:=jG h18 hf; refine AW.skip (AW.sr (cs 1 Z (AR.step Z Z Z (AO.eP (i:=0) Z Z Z iL Z Z ?_)))); refine AR.step rfl rfl rfl (AO.build rfl JU JD rfl (AR.step rfl rfl rfl (AO.bS (List.map aR.cells [(aR.mk ([]:Str) true x6)]) rfl II rfl rfl rfl (by first | rfl | simp only [List.map,aR.aT]) ?_))); refine B1 hf fun l2 h19 hf=>?_; obtain ⟨OT,rfl⟩:=vI h19
  refine AR.step Z Z Z (AO.R4 (i:=1) (l2:=List.map aR.cells [(aR.mk ([]:Str) true x6)]) Z Z Z Z Z Z Z II Bj (by intro y hy; cases List.mem_singleton.1 hy; exact aR.dU _) (by intro y hy; cases List.mem_singleton.1 hy; exact aR.cells_one _) (by simp only [List.map_cons,List.map_nil,List.length_singleton] at OT ⊢; unfold Fy at OT; unfold maxLen; omega) (by simp only [List.map_cons,List.map_nil,List.length_singleton] at OT ⊢; unfold Fy at OT; omega) (fun v2 s2 hs2=>?_)); cases hs2; refine cs 1 Z (AR.nil [0,5,7] Z (AW.region (cs 3 Z ?_))); refine AR.drop1 (AR.nil [0,5,6] Z ?_); exact ⟨l1 ++ [(aR.mk ([]:Str) true x6)],v2,(bI (pR + 1)),Z,by simp [List.flatMap_append],Z,hf⟩
 replace hf:=jG h2 hf; refine AW.exit (AW.freeze 5 0 (List.map aR.cells l1) Z Z (by rw [List.flatMap_def]) (by intro x hx; obtain ⟨y,_,rfl⟩:=List.mem_map.1 hx; exact aR.dU y) (by rw [List.length_map]) ?_); refine AW.sr (cs 4 Z (AR.nil [2,3,4] Z (AW.ret ?_))); cases hf; exact ⟨rfl,_,⟨_,_,rfl,rfl,_,_,rfl,rfl,_,_,rfl,rfl,rfl⟩,[],List.nil_sublist _,h⟩
theorem Gu (s1:Str) {r0:Int} (hf:oo s1=some r0) (h:Q (.ret (iP r0)) τ):PC 27 [.str s1] τ Q:=by
 unfold oo at hf; refine BN 15 [.tmp 2] [0] Tryz.func27 Z Z Z Z Z (V 3 Z (C hf Z (fun h1 hf=>?_) fun h1 hf=>?_))
 · cases hf; exact M 1 Z (Y Z h)
 obtain ⟨x1,x2,e1,h2,hf⟩:=eH hf; refine W 1 Z (CL Z (Rl _ h2 ?_)); cases hf; exact N 9 Z (Y Z h)
theorem vV (p1:Str) (bO:Int) {r0:UInt8} (hf:nI p1 bO=some r0) (h:Q (.ret (.int .u8 (r0.toNat:Int))) τ):PC 47 [.str p1,iP bO] τ Q:=by
 unfold nI at hf; refine BN 12 [.tmp 4] [0,1] Tryz.func47 Z Z Z Z Z (W 3 Z (AS Z (AO.bC Z Z Z Z bL Z (J 1 Z (C hf Z (fun h1 hf=>?_) fun h1 hf=>?_)))))
 · refine BR hf fun x1 h2 hf=>?_; refine W 2 Z (AS Z (AO.bP h2 Z bL Z Z ?_)); cases hf; exact N 1 Z (Y Z h)
 cases hf; exact M 1 Z (Y Z h)
theorem Gw (p1:Str) (bO:Int) {r0:UInt8} {r1:Int} {r2:Bool} (hf:tC p1 bO=some (r0,r1,r2)) (h:Q (.ret (.tuple [.int .u8 (r0.toNat:Int),iP r1,.bool r2])) τ):PC 120 [.str p1,iP bO] τ Q:=by
 unfold tC at hf; refine BN 50 [.tmp 4,.tmp 5,.tmp 6] [0,1] Tryz.func120 Z Z Z Z Z (W 5 Z (AS Z (AO.bC Z Z Z Z bL Z ?_))); refine B1 hf fun b1 h2 hf=>U 2 Z (AR.dS 5 11 16 true [0,1] b1 Z Z (fun h1=>?_) (fun h1=>?_) ?_)
 · refine IT 11 h1 h2 Z fun h2=>?_; refine B1 h2 fun x1 h3 h2=>U 2 Z (GO Z (AO.bP h3 Z bL Z Z ?_)); cases h2; exact eD 2 Z (En [16,0,1] Z)
 · refine IF 11 h1 h2 Z fun h2=>?_; cases h2; exact eD 5 Z (En [16,0,1] Z)
 refine J 0 Z (C hf Z (fun h4 hf=>?_) fun h4 hf=>?_)
 · refine B1 hf fun x2 h5 hf=>W 5 Z (CL Z (vV _ _ h5 (U 4 Z (AS Z (AO.bC Z Z Z Z bL Z ?_))))); cases hf; exact N 4 Z (Y Z h)
 refine W 2 Z (AS Z (AO.bC Z Z Z Z bL Z ?_)); refine B1 hf fun b2 h7 hf=>U 2 Z (AR.dS 5 32 37 false [0,1] b2 Z Z (fun h6=>?_) (fun h6=>?_) ?_)
 · refine IF 32 h6 h7 Z fun h7=>?_; refine B1 h7 fun x3 h8 h7=>U 2 Z (GO Z (AO.bP h8 Z bL Z Z ?_)); cases h7; exact eD 2 Z (En [37,0,1] Z)
 · refine IT 32 h6 h7 Z fun h7=>?_; cases h7; exact eD 5 Z (En [37,0,1] Z)
 refine B1 hf fun b3 h10 hf=>U 1 Z (AR.dS 5 38 43 false [0,1] b3 Z Z (fun h9=>?_) (fun h9=>?_) ?_)
 · refine IF 38 h9 h10 Z fun h10=>?_; refine B1 h10 fun x4 h11 h10=>U 2 Z (GO Z (AO.bP h11 Z bL Z Z ?_)); cases h10; exact eD 2 Z (En [43,0,1] Z)
 · refine IT 38 h9 h10 Z fun h10=>?_; cases h10; exact eD 5 Z (En [43,0,1] Z)
 refine J 0 Z (C hf Z (fun h12 hf=>?_) fun h12 hf=>?_)
 · cases hf; exact M 4 Z (Y Z h)
 refine B1 hf fun x5 kY hf=>W 2 Z (AS Z (AO.bP kY Z bL Z Z ?_)); cases hf; exact N 5 Z (Y Z h)
theorem RD (p1:Str) (bO:Int) {r0:aF} {r1:Int} {r2:Bool} (hf:Ed p1 bO=some (r0,r1,r2)) (h:Q (.ret (.tuple [.agg (E_ r0),iP r1,.bool r2])) τ):PC 94 [.str p1,iP bO] τ Q:=by
 unfold Ed at hf; refine BN 72 [.cell 4 158,.tmp 5,.tmp 6] [0,1] Tryz.func94 Z Z Z Z Z (W 0 Z (AS Z (AO.aQ Z Ob (fun b4=>(U 3 Z (AS Z (AO.aQ Z Ob (fun b7=>?_)))))))); refine Rw 1 [0] Z Z (AW.row 2 155 (YD (fun at2 e1 v1=>[(0,.str p1),(1,iP at2),(4,pP b4),(7,pP b7)]) (fun at2 e1 v1=>[.row v1 (List.map ZI e1.items).length 2 155,.box b7 [iP e1.kind,.own v1 (List.map ZI e1.items)],.box b4 [iP 0,.own (.slice none 0 0) []]]) (fun dw at2 e1 v1=>pz p1 dw at2 e1=some (r0,r1,r2)) BIG bO (aF.mk 4 []) (.slice none 0 0) Z Z hf (fun _ _ _ hz=>bQ hz) ?_)); intro dw at2 e1 v1 hf; rw [pz] at hf; refine B1 hf fun x1 h1 hf=>W 2 Z (CL Z (vV _ _ h1 (U 2 Z (AR.or 5 17 22 [0,1,4,7] (x:=(decide ((p1.length:Int)≤at2))) Z Z (fun h2=>?_) (fun h2=>?_) ?_))))
 · refine Is 17 h2 Z (U 2 Z (GO Z (AO.bC Z Z Z Z bL Z ?_))); exact eD 2 Z (En [22,0,1,4,7] Z)
 · refine Is 17 h2 Z ?_; exact eD 5 Z (En [22,0,1,4,7] Z)
 refine J 0 Z (C hf Z (fun h3 hf=>?_) fun h3 hf=>?_)
 ·
  obtain ⟨lo1,g_,ok1,h4,hf⟩:=eH hf; refine W 2 Z (CL Z (Gw _ _ h4 (J 9 Z (C hf Z (fun h5 hf=>?_) fun h5 hf=>?_))))
  · cases hf; exact Wx 5 [1,2] Z Z (ZC [2] Z Z h)
  refine B1 hf fun x2 h6 hf=>W 4 Z (CL Z (vV _ _ h6 (J 1 Z (C hf Z (fun h7 hf=>?_) fun h7 hf=>?_))))
  ·
   obtain ⟨hi1,t_,ok2,h8,hf⟩:=eH hf; refine W 3 Z (CL Z (Gw _ _ h8 (U 10 Z (On 4 49 53 [0,1,4,7,8,9,11] (decide ((hi1.toNat:Int) < (lo1.toNat:Int))) Z Z Z Z (J 0 Z (C hf Z (fun h10 hf=>?_) fun h10 hf=>?_))))))
   · cases hf; exact Wx 5 [1,2] Z Z (ZC [2] Z Z h)
   refine Wr 4 [1] Z Z (AS Z (AO.Br Z Oc Pw Z (AS Z (AO.bS (List.map ZI [([lo1,hi1]:List UInt8)]) Z G_ Z Z Z Z ?_)))); refine B1 hf fun x3 h11 hf=>AS Z (AO.iJ (i:=0) (l:=e1.items) (m:=[([lo1,hi1]:List UInt8)]) h11 Z Z Z Z Z Z Z G_ Tj Z Z Z (fun _=>Z) (fun _=>Z) (by decide) (fun v2 s1 hs1=>?_)); cases hs1; exact Rx 4 [1] Z Z ⟨t_,(aF.mk e1.kind x3),v2,Z,Z,Z,hf⟩
  refine Wr 4 [1] Z Z (AS Z (AO.Br Z Oc Pw Z (AS Z (AO.bS (List.map ZI [([lo1,lo1]:List UInt8)]) Z G_ Z Z Z Z ?_)))); refine B1 hf fun x4 h12 hf=>AS Z (AO.iJ (i:=0) (l:=e1.items) (m:=[([lo1,lo1]:List UInt8)]) h12 Z Z Z Z Z Z Z G_ Tj Z Z Z (fun _=>Z) (fun _=>Z) (by decide) (fun v3 s2 hs2=>?_)); cases hs2; exact Rx 4 [1] Z Z ⟨g_,(aF.mk e1.kind x4),v3,Z,Z,Z,hf⟩
 refine V 0 Z (AW.Gp 1 7 9 2 mixed (by kernel_rfl) (by kernel_rfl) (by kernel_rfl) Z Z Z Z ?_); refine Ev.cons Z Z Z (AO.eP (i:=1) Z Z Z Sn Z Z zg) (Ev.nil ?_); show Ev _ _ _ _ _ _ _; refine Ev.cs dh 3 Z (Ev.cons Z Z Z (AO.eP (i:=1) Z Z Z aas Z Z zg) (Ev.cons Z Z Z (AO.aV (l:=e1.items) Z Z Z Z Tj Z Z zg) (Ev.cs dh 1 Z ?_))); refine Ev.nil (TF.dF Z Z (AO.fB (i:=0) Z Z Z Sn Z Z Z Z Z (TF.step Z Z Z (AO.calc' Z (TF.nil ?_))))); show AR _ _ _ _ _ _ _ _; cases hf; exact N 1 Z (ZC [2] Z Z h)
theorem RF (p1:Str) {r0:List aF} {r1:Bool} (hf:Ee p1=some (r0,r1)) (h:Q (.ret (.tuple [.list (List.map aF.cells r0),.bool r1])) τ):PC 69 [.str p1] τ Q:=by
 unfold Ee at hf; refine BN 82 [.tmp 2,.tmp 3] [0] Tryz.func69 Z Z Z Z Z (W 0 Z (AS Z (AO.eF Z Z (U 3 Z (AS Z (AO.bC Z Z Z Z bL Z (J 1 Z (C hf Z (fun h1 hf=>?_) fun h1 hf=>?_))))))))
 · refine W 0 Z (AS Z (AO.eF Z Z ?_)); cases hf; exact N 1 Z (Y Z h)
 refine V 1 Z (AW.row 2 158 (YD (fun cK v1 bO=>[(0,.str p1),(4,.own v1 (List.map aF.cells cK)),(5,iP bO)]) (fun cK v1 bO=>[.row v1 (List.map aF.cells cK).length 2 158]) (fun dw cK v1 bO=>iI p1 dw cK bO=some (r0,r1)) BIG [] (.slice none 0 0) 0 Z Z hf (fun _ _ _ hz=>bQ hz) ?_)); intro dw cK v1 bO hf; rw [iI] at hf; refine W 2 Z (AS Z (AO.bC Z Z Z Z bL Z (J 1 Z (C hf Z (fun h2 hf=>?_) fun h2 hf=>?_))))
 ·
  refine V 0 Z (AW.UA 0 11 13 [_] [] mixed (by kernel_rfl) (by kernel_rfl) (by kernel_rfl) Z Z Z (List.Perm.refl _) ?_); refine Ev.nil ?_; show Ev _ _ _ _ _ _ _; refine Ev.cs dh 2 Z ?_; refine B1 hf fun x1 h3 hf=>Ev.cons Z Z Z (AO.bP h3 Z bL Z Z zg) (Ev.cs dh 2 Z ?_); refine B1 hf fun x2 h4 hf=>Ev.cons Z Z Z (AO.bP h4 Z bL Z Z zg) (Ev.cons Z Z Z (AO.Br Z Oc Pw Z zg) (Ev.cons Z Z Z (AO.bS (List.map ZI [([x1,x2]:List UInt8)]) Z G_ Z Z Z Z zg) (Ev.cons Z Z Z (AO.build Z Ob YZ Z zg) ?_))); refine Ev.cs dh 2 Z (Ev.nil (TF.step Z Z Z (AO.aQ Z Ob (fun b6=>(TF.dF Z Z (AO.fB (i:=0) Z Z Z Sn Z Z Z Z Z ?_)))))); refine TF.nil ?_; show AR _ _ _ _ _ _ _ _; refine B1 hf fun x3 h5 hf=>U 4 Z (AS Z (AO.bP h5 Z bL Z Z (J 2 Z (C hf Z (fun h6 hf=>?_) fun h6 hf=>?_))))
  ·
   refine B1 hf fun x4 h7 hf=>Wr 5 [1] Z Z (CL Z (vV _ _ h7 (J 1 Z (C hf Z (fun h8 hf=>?_) fun h8 hf=>?_))))
   ·
    refine Ww 7 [1] Z Z (AW.cond Z (fun h9=>?_) (fun h9=>?_))
    · cases h9
    refine Wr 2 [1] rfl rfl (AS rfl (AO.bS (List.map aF.cells [(aF.mk 1 [])]) rfl xq rfl rfl rfl (by first | rfl | simp only [List.map,aF.aT]) ?_)); refine B1 hf fun qc h10 hf=>AS Z (AO.iJ (i:=0) (l:=cK) (m:=[(aF.mk 1 [])]) h10 Z Z Z Z Z Z Z xq H7 Z Z Z (aF.dU) (aF.cells_one) (by decide) (fun v2 s1 hs1=>?_)); cases hs1; refine eD 3 Z (AR.Dy 1 Z ?_); exact N 0 Z ⟨qc,v2,(bI (bO + 2)),Z,Z,Z,hf⟩
   refine V 2 Z (AW.cond Z (fun h11=>?_) (fun h11=>?_))
   · cases h11
   refine Wr 2 [1] rfl rfl (AS rfl (AO.bS (List.map aF.cells [(aF.mk 2 [])]) rfl xq rfl rfl rfl (by first | rfl | simp only [List.map,aF.aT]) ?_)); refine B1 hf fun rY h12 hf=>AS Z (AO.iJ (i:=0) (l:=cK) (m:=[(aF.mk 2 [])]) h12 Z Z Z Z Z Z Z xq H7 Z Z Z (aF.dU) (aF.cells_one) (by decide) (fun v3 s2 hs2=>?_)); cases hs2; refine eD 3 Z (AR.Dy 1 Z ?_); exact N 0 Z ⟨rY,v3,(bI (bO + 1)),Z,Z,Z,hf⟩
  refine V 2 Z (C hf Z (fun kY hf=>?_) fun kY hf=>?_)
  ·
   refine Ww 4 [1] Z Z (AW.cond Z (fun lu=>?_) (fun lu=>?_))
   · cases lu
   refine Wr 2 [1] rfl rfl (AS rfl (AO.bS (List.map aF.cells [(aF.mk 3 [])]) rfl xq rfl rfl rfl (by first | rfl | simp only [List.map,aF.aT]) ?_)); refine B1 hf fun SG pK hf=>AS Z (AO.iJ (i:=0) (l:=cK) (m:=[(aF.mk 3 [])]) pK Z Z Z Z Z Z Z xq H7 Z Z Z (aF.dU) (aF.cells_one) (by decide) (fun v4 s3 hs3=>?_)); cases hs3; refine eD 3 Z (AR.Dy 1 Z ?_); exact N 0 Z ⟨SG,v4,(bI (bO + 1)),Z,Z,Z,hf⟩
  refine V 2 Z (C hf Z (fun h16 hf=>?_) fun h16 hf=>?_)
  ·
   obtain ⟨x5,g_,ok1,wV,hf⟩:=eH hf; refine W 3 Z (CL Z (RD _ _ wV (Rw 9 [1] Z Z (C hf Z (fun h18 hf=>?_) fun h18 hf=>?_))))
   · refine W 0 Z (AS Z (AO.eF Z Z ?_)); cases hf; exact N 1 Z (Y Z h)
   refine Wr 2 [1] rfl rfl (AS rfl (AO.bS (List.map aF.cells [x5]) rfl xq rfl rfl rfl (by first | rfl | simp only [List.map,aF.aT]) ?_)); refine B1 hf fun abg h19 hf=>AS Z (AO.iJ (i:=0) (l:=cK) (m:=[x5]) h19 Z Z Z Z Z Z Z xq H7 Z Z Z (aF.dU) (aF.cells_one) (by decide) (fun v5 s4 hs4=>?_)); cases hs4; refine eD 3 Z (AR.Dy 1 Z ?_); exact N 0 Z ⟨abg,v5,g_,Z,Z,Z,hf⟩
  refine V 2 Z (C hf Z (fun h20 hf=>?_) fun h20 hf=>?_)
  ·
   refine B1 hf fun x6 h21 hf=>W 3 Z (CL Z (vV _ _ h21 ?_)); refine B1 hf fun x7 h22 hf=>U 3 Z (CL Z (vV _ _ h22 (AS Z (AO.Br Z Oc Pw Z (AS Z (AO.bS (List.map ZI [([x6,x7]:List UInt8)]) Z G_ Z Z Z Z (Rr 8 [1] Z Z (AS Z (AO.bC Z Z Z Z bL Z ?_))))))))); refine J 4 Z (C hf Z (fun h23 hf=>?_) fun h23 hf=>?_)
   · refine W 0 Z (AS Z (AO.eF Z Z ?_)); cases hf; exact N 1 Z (Y Z h)
   refine Wr 2 [1] rfl rfl (AS rfl (AO.bS (List.map aF.cells [(aF.mk 5 [([x6,x7]:List UInt8)])]) rfl xq rfl rfl rfl (by first | rfl | simp only [List.map,aF.aT]) ?_)); refine B1 hf fun abf Mi hf=>AS Z (AO.iJ (i:=0) (l:=cK) (m:=[(aF.mk 5 [([x6,x7]:List UInt8)])]) Mi Z Z Z Z Z Z Z xq H7 Z Z Z (aF.dU) (aF.cells_one) (by decide) (fun v6 s5 hs5=>?_)); cases hs5; refine eD 3 Z (AR.Dy 1 Z ?_)
   exact N 0 Z ⟨abf,v6,(bI (bO + 2)),Z,Z,Z,hf⟩
  refine V 2 Z (AW.cond Z (fun R8=>?_) (fun R8=>?_))
  · cases R8
  refine Wr 2 [1] rfl rfl (AS rfl (AO.bS (List.map aF.cells [(aF.mk 5 [([x1,x2]:List UInt8)])]) rfl xq rfl rfl rfl (by first | rfl | simp only [List.map,aF.aT]) ?_)); refine B1 hf fun abe Tf hf=>AS Z (AO.iJ (i:=0) (l:=cK) (m:=[(aF.mk 5 [([x1,x2]:List UInt8)])]) Tf Z Z Z Z Z Z Z xq H7 Z Z Z (aF.dU) (aF.cells_one) (by decide) (fun v7 s6 hs6=>?_)); cases hs6; refine eD 3 Z (AR.Dy 1 Z ?_)
  exact N 0 Z ⟨abe,v7,(bI (bO + 1)),Z,Z,Z,hf⟩
 cases hf; exact M 3 Z (Y Z h)
theorem I5 (p1:Str) {r0:Int} (hf:yj p1=some r0) (h:Q (.ret (iP r0)) τ):PC 44 [.str p1] τ Q:=by
 unfold yj at hf; refine BN 15 [.tmp 2] [0] Tryz.func44 Z Z Z Z Z (W 2 Z (AS Z (AO.bC Z Z Z Z bL Z (J 1 Z (C hf Z (fun h1 hf=>?_) fun h1 hf=>?_)))))
 · cases hf; exact M 1 Z (Y Z h)
 obtain ⟨x1,ok1,h2,hf⟩:=dN hf; refine W 1 Z (CL Z (RF _ h2 (J 7 Z (C hf Z (fun h3 hf=>?_) fun h3 hf=>?_))))
 · cases hf; exact M 1 Z (Y Z h)
 cases hf; exact M 1 Z (Y Z h)
theorem ML (s1:Str) {r0:Int} (hf:wJ s1=some r0) (h:Q (.ret (iP r0)) τ):PC 28 [.str s1] τ Q:=by
 unfold wJ at hf; refine BN 15 [.tmp 2] [0] Tryz.func28 Z Z Z Z Z (W 2 Z (AS Z (AO.bC Z Z Z Z bL Z ?_))); refine B1 hf fun b1 h2 hf=>U 2 Z (AR.dS 4 6 10 true [0] b1 Z Z (fun h1=>?_) (fun h1=>?_) ?_)
 · refine IT 6 h1 h2 Z fun h2=>?_; refine B1 h2 fun x1 h3 h2=>U 1 Z (GO Z (AO.bP h3 Z bL Z Z ?_)); cases h2; exact eD 2 Z (En [10,0] Z)
 · refine IF 6 h1 h2 Z fun h2=>?_; cases h2; exact eD 4 Z (En [10,0] Z)
 refine J 0 Z (C hf Z (fun h4 hf=>?_) fun h4 hf=>?_)
 · refine B1 hf fun s2 h5 hf=>W 1 Z (AS Z (AO.jT h5 Z bL Z ⟨_,Z⟩ Z ?_)); refine BR hf fun x2 h6 hf=>?_; refine U 2 Z (CL Z (I5 _ h6 ?_)); cases hf; exact N 1 Z (Y Z h)
 refine BR hf fun x3 h7 hf=>?_; refine W 1 Z (CL Z (I5 _ h7 ?_)); cases hf; exact N 1 Z (Y Z h)
theorem Rk (c1:bF) {r0:Int} (hf:Az c1=some r0) (h:Q (.ret (iP r0)) τ):PC 10 [.agg (l8 c1)] τ Q:=by
 unfold Az at hf; refine BN 56 [.tmp 2] [0] Tryz.func10 Z Z Z Z Z ?_; refine B1 hf fun e1 h1 hf=>W 4 Z (CL Z (Gu _ h1 (J 3 Z (C hf Z (fun h2 hf=>?_) fun h2 hf=>?_))))
 · cases hf; exact M 2 Z (Y Z h)
 refine W 2 Z (AS Z (AO.aV (l:=c1.restore) Z Z Z Z gX Z Z (U 2 Z (AR.or 5 18 23 [1] (x:=(decide (1024 < (c1.files.length:Int)))) Z Z (fun h3=>?_) (fun h3=>?_) ?_))))
 · refine Is 18 h3 Z (U 2 Z (GO Z (AO.aV (l:=c1.files) Z Z Z Z gX Z Z ?_))); exact eD 2 Z (En [23,1] Z)
 · refine Is 18 h3 Z ?_; exact eD 5 Z (En [23,1] Z)
 refine J 0 Z (C hf Z (fun h4 hf=>?_) fun h4 hf=>?_)
 · cases hf; exact M 1 Z (Y Z h)
 refine V 1 Z (CK (fun i1=>[(1,.ref (l8 c1)),(4,iP i1)]) (fun i1=>[]) (fun dw i1=>ru c1 dw i1=some r0) BIG 0 Z Z hf (fun _ hz=>bQ hz) ?_); intro dw i1 hf; rw [ru] at hf; refine W 3 Z (AS Z (AO.aV (l:=c1.restore) Z Z Z Z gX Z Z (J 1 Z (C hf Z (fun h5 hf=>?_) fun h5 hf=>?_))))
 ·
  refine B1 hf fun e2 h6 hf=>W 3 Z (AS Z (AO.cZ h6 Z Z Z Z gX Z Z ?_)); refine B1 hf fun e3 h7 hf=>U 1 Z (CL Z (Gu _ h7 (J 3 Z (C hf Z (fun h8 hf=>?_) fun h8 hf=>?_))))
  · cases hf; exact M 2 Z (Y Z h)
  exact M 3 Z ⟨(bI (i1 + 1)),Z,Z,Z,hf⟩
 refine V 1 Z (CK (fun i2=>[(1,.ref (l8 c1)),(6,iP i2)]) (fun i2=>[]) (fun xW i2=>qZ c1 xW i2=some r0) BIG 0 Z Z hf (fun _ hz=>bQ hz) ?_); intro xW i2 hf; rw [qZ] at hf; refine W 3 Z (AS Z (AO.aV (l:=c1.files) Z Z Z Z gX Z Z (J 1 Z (C hf Z (fun h9 hf=>?_) fun h9 hf=>?_))))
 ·
  refine B1 hf fun e4 h10 hf=>W 3 Z (AS Z (AO.cZ h10 Z Z Z Z gX Z Z ?_)); refine B1 hf fun e5 h11 hf=>U 1 Z (CL Z (ML _ h11 (J 3 Z (C hf Z (fun h12 hf=>?_) fun h12 hf=>?_))))
  · cases hf; exact M 2 Z (Y Z h)
  exact M 3 Z ⟨(bI (i2 + 1)),Z,Z,Z,hf⟩
 cases hf; exact M 1 Z (Y Z h)
theorem r9 (s1:List bE) (f1:bE→Option Bool) (O0:FuncId) (Ti:List PV) (f1P:bT Tryz.prog O0=true) (f1H:∀ a0 b0,f1 a0=some b0→∀ {τ:List bn} {Q:fq→List bn→Prop},Q (.ret (.bool b0)) τ→PC O0 ([.agg (OO a0)] ++ Ti) τ Q) {r0:Int} (hf:jP s1 f1=some r0) (h:Q (.ret (iP r0)) τ):PC 73 [.list (List.map bE.cells s1),.fn O0 Ti] τ Q:=by
 unfold jP at hf; refine BN 19 [.tmp 4] [0,1] Tryz.func73 Z Z Z Z Z (W 2 Z (AS Z (AO.aV (l:=s1) Z Z Z Z Bl Z Z (J 1 Z (CK (fun i1=>[(0,.list (List.map bE.cells s1)),(1,.fn O0 Ti),(7,iP (s1.length:Int)),(8,iP i1)]) (fun i1=>[]) (fun dw i1=>iC s1 f1 dw i1=some r0) BIG 0 Z Z hf (fun _ hz=>bQ hz) ?_))))); intro dw i1 hf; rw [iC] at hf; refine V 1 Z (C hf Z (fun h1 hf=>?_) fun h1 hf=>?_)
 ·
  refine B1 hf fun e1 h2 hf=>W 5 Z (AS Z (AO.cZ h2 Z Z Z Z Bl (bE.aT _) Z ?_)); refine B1 hf fun x1 h3 hf=>U 1 Z (AS Z (AO.call Z _ Z Z f1P (f1H _ _ h3 (J 0 Z (C hf Z (fun h4 hf=>?_) fun h4 hf=>?_)))))
  · cases hf; exact M 2 Z (Y Z h)
  exact M 2 Z ⟨(bI (i1 + 1)),Z,Z,Z,hf⟩
 cases hf; exact M 1 Z (Y Z h)
theorem qD (s1:List bE) (f1:bE→Option Bool) (O0:FuncId) (Ti:List PV) (f1P:bT Tryz.prog O0=true) (f1H:∀ a0 b0,f1 a0=some b0→∀ {τ:List bn} {Q:fq→List bn→Prop},Q (.ret (.bool b0)) τ→PC O0 ([.agg (OO a0)] ++ Ti) τ Q) {r0:Bool} (hf:jA s1 f1=some r0) (h:Q (.ret (.bool r0)) τ):PC 53 [.list (List.map bE.cells s1),.fn O0 Ti] τ Q:=by
 unfold jA at hf; refine BN 9 [.tmp 4] [0,1] Tryz.func53 Z Z Z Z Z ?_; refine B1 hf fun x1 h1 hf=>W 3 Z (CL Z (r9 _ f1 O0 Ti f1P @f1H h1 ?_)); cases hf; exact N 2 Z (Y Z h)
theorem Am (x1:bE) {r0:Bool} (hf:l6 x1=some r0) (h:Q (.ret (.bool r0)) τ):PC 54 [.agg (OO x1)] τ Q:=by
 unfold l6 at hf; refine BN 6 [.tmp 2] [0] Tryz.func54 Z Z Z Z Z ?_; cases hf; exact M 6 Z (Y Z h)
theorem TH (jQ:List Str) (s1:Str) {r0:Bool} (hf:K9 jQ s1=some r0) (h:Q (.ret (.bool r0)) τ):PC 16 [sP jQ,.str s1] τ Q:=by
 unfold K9 at hf; refine BN 34 [.tmp 4] [0,1] Tryz.func16 Z Z Z Z Z (W 2 Z (AS Z (AO.aV (l:=jQ) Z Z Z Z gX Z Z (J 2 Z (CK (fun i1=>[(0,sP jQ),(1,.str s1),(5,iP i1)]) (fun i1=>[]) (fun dw i1=>Du jQ dw i1=some r0) BIG (bI ((jQ.length:Int) - 1)) Z Z hf (fun _ hz=>bQ hz) ?_))))); intro dw i1 hf; rw [Du] at hf; refine V 2 Z (C hf Z (fun h1 hf=>?_) fun h1 hf=>?_)
 ·
  refine B1 hf fun p1 h2 hf=>W 2 Z (AS Z (AO.cZ h2 Z Z Z Z gX Z Z ?_)); refine B1 hf fun b1 h4 hf=>U 5 Z (AR.dS 4 21 25 true [0,1,5,6] b1 Z Z (fun h3=>?_) (fun h3=>?_) ?_)
  · refine IT 21 h3 h4 Z fun h4=>?_; refine B1 h4 fun x1 h5 h4=>U 1 Z (GO Z (AO.bP h5 Z bL Z Z ?_)); cases h4; exact eD 2 Z (En [25,0,1,5,6] Z)
  · refine IF 21 h3 h4 Z fun h4=>?_; cases h4; exact eD 4 Z (En [25,0,1,5,6] Z)
  refine J 2 Z (C hf Z (fun h6 hf=>?_) fun h6 hf=>?_)
  · refine B1 hf fun p2 h7 hf=>W 1 Z (AS Z (AO.jT h7 Z bL Z ⟨_,Z⟩ Z ?_)); exact bQ hf
  exact bQ hf
 cases hf; exact M 1 Z (Y Z h)
theorem CR {β:Type} (l:Nat) (T:β→List bn→Prop) (y:β→b_→Option (Bool × β)) (hy:∀ s x1 b s2 τ,y s x1=some (b,s2)→T s τ→AY Tryz.prog l [.agg (IV x1)] τ (fun out σ'=>out=.ret (.bool b)∧T s2 σ'))
  (fs1:List b_) (ps1:List Str) {s1 s2:β} (hf:vv y s1 fs1 ps1=some s2) {τ:List bn} (hT:T s1 τ) {Q:fq→List bn→Prop} (h:∀ τ',T s2 τ'→Q (.ret (.tuple [])) τ'):
  PC 45 [.val (.func (.yield l) #[] #[]),.ref [.list (List.map b_.cells fs1)],.ref [sP ps1]] τ Q:=by
 unfold vv at hf; refine AC.kH 23 [] [0,1,2] Tryz.func45 Z Z Z Z Z (AW.sr (AR.step Z Z Z (AO.Dm Z Z aco Z (AR.step Z Z Z (AO.aV (l:=fs1) Z Z Z Z NM Z Z ?_))))); refine cs 1 Z (AR.nil [0,2,6,7,8] Z (AW.block (AW.XD (fun (s:β) (τ0:List bn) (i1:Int)=>[(0,.val (.func (.yield l) #[] #[])),(2,.ref [sP ps1]),(6,.list (List.map b_.cells fs1)),(7,iP (fs1.length:Int)),(8,iP i1)]) (fun s τ0 i1=>τ0) (fun dw s τ0 i1=>lg y fs1 ps1 dw s i1=some s2∧T s τ0) BIG s1 τ 0 Z Z ⟨hf,hT⟩ (fun _ _ _ hz=>bQ hz.1) ?_))); intro dw s3 τ3 i1 hfI; obtain ⟨hf,hT⟩:=hfI; rw [lg] at hf; refine AW.sr (cs 1 Z (AR.nil [0,2,6,7,8,9] Z (AW.seq ?_))); refine AW.cond Z (fun h1=>?_) (fun h1=>?_)
 ·
  replace hf:=j_ h1 hf; refine AW.skip (AW.seq (AW.block (AW.sr ?_))); refine B1 hf fun p1 h2 hf=>?_; refine AR.step Z Z Z (AO.cZ h2 Z Z Z Z NM (b_.aT _) Z (cs 1 Z (AR.step Z Z Z (AO.aQ Z ZJ (fun b5=>(AR.dF Z Z (AO.fB (i:=0) Z Z Z WL Z Z Z Z Z ?_))))))); refine AR.nil [0,2,5,6,7,8] Z ?_; refine B1 hf fun b1 h3 hf=>?_; refine AW.seq (AW.Ul (Bw.step Z Z Z Z (AO.Dm Z Z acp Z (Bw.step Z Z Z Z (AO.dA Z Z Zh ?_))))); refine Bw.step Z Z Z Z (AO.eP (i:=0) Z Z Z Qc Z Z (Bw.step Z Z Z Z (AO.call Z _ Z Z acQ (TH _ _ h3 (Bw.step Z Z Z Z (AO.calc' Z ?_)))))); cases b1 with
  | false=>
   replace hf:=jG Z hf; refine Bw.of Z (cs 5 Z (AR.drop1 (AR.nil [0,2,6,7,8,21] Z ?_))); refine AW.cond Z (fun hh=>by cases hh) (fun _=>?_); refine AW.skip (AW.region (cs 2 Z (AR.nil [0,2,6,7,8] Z ?_))); exact ⟨s3,τ3,(bI (i1 + 1)),Z,Z,Z,hf,hT⟩
  | true=>
   replace hf:=j_ Z hf; obtain ⟨b2,s4,h4,hf⟩:=dN hf; refine Bw.run Z Z Z Z (Bw.step Z Z Z Z (AO.calc' Z (Bw.run Z Z Z Z (Bw.step Z Z Z Z (AO.eP (i:=0) Z Z Z WL Z Z ?_))))); refine Bw.drop1 (Bw.run Z Z Z Z (Bw.aan Z Z Z Z Z _ Z Z (hy _ _ _ _ _ h4 hT) fun τ4 hT4=>(Bw.of Z ?_))); refine cs 2 Z (AR.nil [0,2,6,7,8,21] Z (AW.cond Z (fun h5=>?_) (fun h5=>?_)))
   ·
    cases j_ h5 hf; refine AW.ret ?_; exact ⟨rfl,_,rfl,_,List.Sublist.refl _,h _ hT4⟩
   ·
    replace hf:=jG h5 hf; refine AW.skip (AW.region (cs 2 Z (AR.nil [0,2,6,7,8] Z ?_))); exact ⟨s4,τ4,(bI (i1 + 1)),Z,Z,Z,hf,hT4⟩
 ·
  cases jG h1 hf; refine AW.exit ?_; exact ⟨rfl,_,rfl,_,List.Sublist.refl _,h _ hT⟩
theorem Ez (fs1:List b_) (ps1:List Str) (h:Q (.ret (.fn 45 [.ref [.list (List.map b_.cells fs1)],.ref [sP ps1]])) τ):PC 30 [.list (List.map b_.cells fs1),sP ps1] τ Q:=by
 refine BN 6 [.tmp 4] [0,1] Tryz.func30 Z Z Z Z Z ?_; exact M 5 Z (Y Z h)
theorem DX (kC:BitVec 32) (wm:BitVec 32) (i1:BitVec 32) {r0:BitVec 32} (hf:xZ kC wm i1=some r0) (h:Q (.ret (.int .u32 (r0.toNat:Int))) τ):PC 70 [.int .u32 (kC.toNat:Int),.int .u32 (wm.toNat:Int),.int .u32 (i1.toNat:Int)] τ Q:=by
 unfold xZ at hf; refine BN 18 [.tmp 6] [0,1,2] Tryz.func70 Z Z Z Z Z (W 3 Z (AS Z (AO.u32_xor kC wm Z Z Z Z Z ?_))); refine B1 hf fun x1 h1 hf=>AS Z (AO.WE (kC ^^^ wm) (2654435761:BitVec 32) h1 Z Z Z Z Z (U 1 Z (AS Z (AO.YM x1 i1 Z Z Z Z Z (U 3 Z (AS Z (AO.YK (x1 + i1) 16 Z Z Z Z Z (AS Z (AO.u32_xor (x1 + i1) ((x1 + i1) >>> 16) Z Z Z Z Z ?_))))))))); cases hf; exact N 1 Z (Y Z h)
theorem GD (key1:BitVec 64) (x1:BitVec 64) {r0:BitVec 64} (hf:Cg key1 x1=some r0) (h:Q (.ret (.int .u64 (r0.toNat:Int))) τ):PC 46 [.int .u64 (key1.toNat:Int),.int .u64 (x1.toNat:Int)] τ Q:=by
 unfold Cg at hf; refine BN 41 [.tmp 4] [0,1] Tryz.func46 Z Z Z Z Z (W 2 Z (AS Z (AO.Jz x1 32 Z Z Z Z Z (AS Z (AO.JB (x1 >>> 32) Z IC C9 Z Z (U 1 Z (AS Z (AO.JB x1 Z IC C9 Z Z ?_)))))))); refine J 3 Z (YD (fun l1 kC i1=>[(0,.int .u64 (key1.toNat:Int)),(5,.int .u32 (l1.toNat:Int)),(6,.int .u32 (kC.toNat:Int)),(14,iP i1)]) (fun l1 kC i1=>[]) (fun dw l1 kC i1=>sM key1 dw l1 kC i1=some r0) BIG (BitVec.setWidth 32 (x1 >>> 32)) (BitVec.setWidth 32 x1) 0 Z Z hf (fun _ _ _ hz=>bQ hz) ?_); intro dw l1 kC i1 hf; rw [sM] at hf; refine V 1 Z (C hf Z (fun h1 hf=>?_) fun h1 hf=>?_)
 ·
  refine W 3 Z (AS Z (AO.JB key1 Z IC C9 Z Z (U 2 Z (AS Z (AO.rem Z Z Z (by decide) ?_))))); refine J 1 Z (C hf Z (fun h2 hf=>?_) fun h2 hf=>?_)
  · refine W 1 Z (AS Z (AO.Jz key1 32 Z Z Z Z Z (AS Z (AO.JB (key1 >>> 32) Z IC C9 Z Z (U 7 Z (AS Z (AO.WI Z BA C9 Z ?_))))))); refine B1 hf fun x2 h3 hf=>CL Z (DX _ _ _ h3 (AS Z (AO.u32_xor l1 x2 Z Z Z Z Z ?_))); exact N 4 Z ⟨kC,(l1 ^^^ x2),(bI (i1 + 1)),Z,Z,Z,hf⟩
  refine W 6 Z (AS Z (AO.WI Z BA C9 Z ?_)); refine B1 hf fun x3 h4 hf=>CL Z (DX _ _ _ h4 (AS Z (AO.u32_xor l1 x3 Z Z Z Z Z ?_))); exact N 4 Z ⟨kC,(l1 ^^^ x3),(bI (i1 + 1)),Z,Z,Z,hf⟩
 refine W 1 Z (AS Z (AO.Oj l1 Z C9 IC Z Z (AS Z (AO.FE (BitVec.setWidth 64 l1) 32 Z Z Z Z Z (U 1 Z (AS Z (AO.Oj kC Z C9 IC Z Z ?_))))))); refine BR hf fun x4 h5 hf=>?_; refine AS Z (AO.JA ((BitVec.setWidth 64 l1) <<< 32) (BitVec.setWidth 64 kC) h5 Z Z Z Z Z ?_); cases hf; exact N 1 Z (Y Z h)
theorem GA (b1:List UInt8) {r0:BitVec 64} (hf:Ce b1=some r0) (h:Q (.ret (.int .u64 (r0.toNat:Int))) τ):PC 31 [.list (List.map fO b1)] τ Q:=by
 unfold Ce at hf; refine BN 44 [.tmp 2] [0] Tryz.func31 Z Z Z Z Z (W 2 Z (AS Z (AO.aV (l:=b1) Z Z Z Z wW Z Z (AS Z (AO.aar Z BA IC Z ?_))))); refine B1 hf fun x1 h1 hf=>CL Z (GD _ _ h1 (J 1 Z (JQ (fun b2 x2=>[(0,.list (List.map fO b2)),(3,.int .u64 (x2.toNat:Int))]) (fun b2 x2=>[]) (fun dw b2 x2=>sK dw b2 x2=some r0) BIG b1 x1 Z Z hf (fun _ _ hz=>bQ hz) ?_))); intro dw b2 x2 hf; rw [sK] at hf; refine W 1 Z (AS Z (AO.aV (l:=b2) Z Z Z Z wW Z Z (J 1 Z (C hf Z (fun h2 hf=>?_) fun h2 hf=>?_))))
 ·
  refine W 1 Z (AS Z (AO.aV (l:=b2) Z Z Z Z wW Z Z (AS Z (AO.min2 Z Z Z Z Z ?_)))); refine B1 hf fun x3 h3 hf=>U 4 Z (AS Z (AO.Ud h3 Z wW Z Z Z (fun _=>Z) Z ⟨_,Z⟩ (AS Z (AO.aV (l:=x3) Z Z Z Z wW Z Z (J 1 Z (JQ (fun g1 i1=>[(0,.list (List.map fO b2)),(3,.int .u64 (x2.toNat:Int)),(4,iP (if (b2.length:Int) < 8 then (b2.length:Int) else 8)),(5,.int .u64 (g1.toNat:Int)),(20,.list (List.map fO x3)),(21,iP (x3.length:Int)),(22,iP i1)]) (fun g1 i1=>[]) (fun xW g1 i1=>wB b2 x2 x3 (sK dw) xW g1 i1=some r0) BIG 0 0 Z Z hf (fun _ _ hz=>bQ hz) ?_)))))); intro xW g1 i1 hf; rw [wB] at hf; refine V 1 Z (C hf Z (fun h4 hf=>?_) fun h4 hf=>?_)
  ·
   refine B1 hf fun c1 h5 hf=>W 1 Z (AS Z (AO.cZ h5 Z Z Z Z wW Z Z (U 5 Z (AS Z (AO.Oj c1.toBitVec Z xJ IC Z Z ?_))))); refine B1 hf fun _ h6 hf=>U 2 Z (AS Z (AO.FE (BitVec.setWidth 64 c1.toBitVec) (Int.toNat (bI (8 * i1))) Z Z Z Z (by have:=Lv h6; simp only [decide_eq_true_eq] at this; exact (Int.toNat_of_nonneg this).symm) ?_)); refine B1 hf fun g2 h7 hf=>AS Z (AO.JA g1 ((BitVec.setWidth 64 c1.toBitVec) <<< (Int.toNat (bI (8 * i1)))) h7 Z Z Z Z Z ?_); exact N 3 Z ⟨g2,(bI (i1 + 1)),Z,Z,Z,hf⟩
  refine B1 hf fun x4 h8 hf=>W 2 Z (CL Z (GD _ _ h8 (U 1 Z (AS Z (AO.u64_xor x4 g1 Z Z Z Z Z ?_))))); refine B1 hf fun b3 h9 hf=>U 3 Z (AS Z (AO.Ud h9 Z wW Z Z Z (fun _=>Z) ⟨_,Z⟩ Z ?_)); exact N 1 Z ⟨b3,(x4 ^^^ g1),Z,Z,Z,hf⟩
 cases hf; exact M 2 Z (Y Z h)
theorem I_ (OM:Str) (pE:List (BitVec 64)) {r0:BitVec 64} (hf:Ej OM pE=some r0) (h:Q (.ret (.int .u64 (r0.toNat:Int))) τ):PC 29 [.str OM,.list (List.map UR pE)] τ Q:=by
 unfold Ej at hf; refine BN 34 [.tmp 4] [0,1] Tryz.func29 Z Z Z Z Z ?_; refine B1 hf fun x1 h1 hf=>W 2 Z (AS Z (AO.Kk h1 Z bL Nc xJ Z (fun v1=>(AS Z (AO.bS (List.map fO ([0]:List UInt8)) Z Au Z Z Z Z ?_))))); refine B1 hf fun b1 h2 hf=>AS Z (AO.iJ (i:=0) (l:=x1) (m:=([0]:List UInt8)) h2 Z Z Z Z Z Z Z Au wW Z Z Z (fun _=>Z) (fun _=>Z) (by decide) (fun v2 s1 hs1=>?_)); cases hs1; refine U 2 Z (AS Z (AO.aV (l:=pE) Z Z Z Z XY Z Z (J 1 Z (YD (fun b2 v3 x2=>[(5,.own v3 (List.map fO b2)),(13,.list (List.map UR pE)),(14,iP (pE.length:Int)),(15,iP x2)]) (fun b2 v3 x2=>[.row v3 (List.map fO b2).length 1 5]) (fun dw b2 v3 x2=>vk pE dw b2 x2=some r0) BIG b1 v2 0 Z Z hf (fun _ _ _ hz=>bQ hz) ?_)))); intro dw b2 v3 x2 hf; rw [vk] at hf; refine V 1 Z (C hf Z (fun h3 hf=>?_) fun h3 hf=>?_)
 ·
  refine B1 hf fun d1 h4 hf=>W 0 Z (AS Z (AO.cZ h4 Z Z Z Z XY Z Z (J 3 Z (YD (fun b3 v4 i1=>[(5,.own v4 (List.map fO b3)),(7,.int .u64 (d1.toNat:Int)),(13,.list (List.map UR pE)),(14,iP (pE.length:Int)),(15,iP x2),(19,iP i1)]) (fun b3 v4 i1=>[.row v4 (List.map fO b3).length 1 5]) (fun xW b3 v4 i1=>yc x2 d1 (vk pE dw) xW b3 i1=some r0) BIG b2 v3 0 Z Z hf (fun _ _ _ hz=>bQ hz) ?_)))); intro xW b3 v4 i1 hf; rw [yc] at hf; refine V 1 Z (C hf Z (fun h5 hf=>?_) fun h5 hf=>?_)
  ·
   refine B1 hf fun _ h6 hf=>W 6 Z (AS Z (AO.Jz d1 (Int.toNat (bI (8 * i1))) Z Z Z Z (by have:=Lv h6; simp only [decide_eq_true_eq] at this; exact (Int.toNat_of_nonneg this).symm) ?_)); refine AS Z (AO.aaq (d1 >>> (Int.toNat (bI (8 * i1)))) Z aci xJ Z Z (AS Z (AO.bS (List.map fO ([(UInt8.ofBitVec (BitVec.setWidth 8 (d1 >>> (Int.toNat (bI (8 * i1))))))]:List UInt8)) Z Au Z Z Z Z ?_))); refine B1 hf fun b4 h7 hf=>AS Z (AO.iJ (i:=0) (l:=b3) (m:=([(UInt8.ofBitVec (BitVec.setWidth 8 (d1 >>> (Int.toNat (bI (8 * i1))))))]:List UInt8)) h7 Z Z Z Z Z Z Z Au wW Z Z Z (fun _=>Z) (fun _=>Z) (by decide) (fun v5 s2 hs2=>?_)); cases hs2; exact N 3 Z ⟨b4,v5,(bI (i1 + 1)),Z,Z,Z,hf⟩
  exact M 2 Z ⟨b3,v4,(bI (x2 + 1)),Z,Z,Z,hf⟩
 refine BR hf fun x3 h8 hf=>?_; refine W 1 Z (CL Z (GA _ h8 ?_)); cases hf; exact N 1 Z (Y Z h)
theorem Jw (tH:List b_) (jQ:List Str) {r0:BitVec 64} (hf:Aj tH jQ=some r0) (h:Q (.ret (.int .u64 (r0.toNat:Int))) τ):PC 14 [.list (List.map b_.cells tH),sP jQ] τ Q:=by
 unfold Aj at hf; refine B1 hf fun pE h1 hf=>AC.none (AC.SK 22 [.tmp 4] [0,1] Tryz.func14 Z Z Z Z Z (AW.sr (cs 1 Z ?_))); refine AR.nil [0,1] Z (AW.sr (AR.step Z Z Z (AO.aQ Z ab7 (fun b5=>(AR.nil [0,1,5] Z ?_))))); refine AW.row 1 38 (AW.seq (AW.sr (cs 2 Z ?_))); refine AR.step Z Z Z (AO.call Z _ Z Z acM (Ez _ _ (AR.nil [5,9] Z (AW.block (AW.SC (β:=List (BitVec 64)) (X:=b_) Z acK (fun x1=>[.agg (IV x1)]) (fun _=>Z) (by decide) sW (fun l τ=>∃ v,τ=[.row v (List.map UR l).length 1 38,.box b5 [.own v (List.map UR l)]]) (fun _=>none) (s0:=[]) (s1:=pE) ⟨.slice none 0 0,Z⟩ Z ?_ ?_ ?_)))))
 · intro l T' hy τ hT; refine CR l T' sW hy tH jQ h1 hT fun τ' hT'=>?_; exact ⟨⟨_,Z⟩,hT'⟩
 ·
  rintro l s x1 b s2 _ hh ⟨v0,rfl⟩; unfold sW at hh; obtain ⟨b1,h2,hh⟩:=Ep hh; obtain ⟨d1,h3,hh⟩:=Ep hh; obtain ⟨s3,h4,hh⟩:=Ep hh; cases hh; refine ⟨Z,(wE.region Z (AR.step Z Z Z (AO.aQ Z ZJ (fun b6=>(AR.dF Z Z (AO.fB (i:=0) Z Z Z WL Z Z Z Z Z ?_))))))⟩; refine AR.nil [5,6] Z (⟨Z,(wE.block (wE.drawn mixed Z ?_))⟩); refine AD.draw 8 (by kernel_rfl) Z ?_; refine Ev.cons Z Z Z (AO.eP (i:=2) Z Z Z WK Z Z zg) (Ev.cs dh 1 Z (Ev.cons Z Z Z (AO.eP (i:=0) Z Z Z Qc Z Z zg) (Ev.cons Z Z Z (AO.Sq h2 Z bL Nc xJ Z zg) ?_))); refine Ev.cons Z Z Z (AO.call Z _ Z Z acL (GA _ h3 zg)) (Ev.cs dh 1 Z (Ev.cons Z Z Z (AO.eP (i:=0) Z Z Z acn Z Z zg) (Ev.cons Z Z Z (AO.bS (List.map UR ([d1,x1.digest]:List (BitVec 64))) Z ZN Z Z Z Z zg) ?_))); refine Ev.nil ?_; show AR _ _ _ _ _ _ _ _; refine AR.step Z Z Z (AO.iJ (i:=1) (l:=s) (m:=([d1,x1.digest]:List (BitVec 64))) h4 Z Z Z Z Z Z Z ZN XY Z Z Z (fun _=>Z) (fun _=>Z) (by decide) (fun v2 s1 hs1=>?_)); cases hs1; refine AR.dF Z Z (AO.fB (i:=2) Z Z Z WK Z Z Z Z Z (AR.nil [] Z ?_)); exact ⟨Z,⟨_,.cons _ (List.Sublist.refl _),v2,Z⟩,Z,Z⟩
 rintro D _ ⟨v0,rfl⟩; show AW _ _ _ _ _ _ _; refine AW.sr (AR.step Z Z Z (AO.eP (i:=1) Z Z Z WK Z Z (AR.step Z Z Z (AO.call Z _ Z Z acN (I_ _ _ hf (cs 1 Z ?_)))))); refine AR.nil [4] Z (AW.ret ?_); exact .inr ⟨D,[_,_],Z,Z,_,⟨_,_,Z,Z,Z⟩,[],List.nil_sublist _,h⟩
theorem EK (d1:BitVec 64) {r0:Str} (hf:zT d1=some r0) (h:Q (.ret (.str r0)) τ):PC 22 [.int .u64 (d1.toNat:Int)] τ Q:=by
 unfold zT at hf; refine BN 20 [.tmp 2] [0] Tryz.func22 Z Z Z Z Z (W 1 Z (AS Z (AO.aQ Z ab6 (fun b3=>?_)))); refine J 1 Z (JQ (fun i1 b1=>[(0,.int .u64 (d1.toNat:Int)),(3,pP b3),(5,iP i1)]) (fun i1 b1=>[.box b3 [.int .u8 ((b1.getD 0 0).toNat:Int),.int .u8 ((b1.getD 1 0).toNat:Int),.int .u8 ((b1.getD 2 0).toNat:Int),.int .u8 ((b1.getD 3 0).toNat:Int),.int .u8 ((b1.getD 4 0).toNat:Int),.int .u8 ((b1.getD 5 0).toNat:Int),.int .u8 ((b1.getD 6 0).toNat:Int),.int .u8 ((b1.getD 7 0).toNat:Int),.int .u8 ((b1.getD 8 0).toNat:Int),.int .u8 ((b1.getD 9 0).toNat:Int),.int .u8 ((b1.getD 10 0).toNat:Int),.int .u8 ((b1.getD 11 0).toNat:Int),.int .u8 ((b1.getD 12 0).toNat:Int),.int .u8 ((b1.getD 13 0).toNat:Int),.int .u8 ((b1.getD 14 0).toNat:Int),.int .u8 ((b1.getD 15 0).toNat:Int)]]) (fun dw i1 b1=>vg d1 dw i1 b1=some r0) BIG 0 ([0,0,0,0,0,0,0,0,0,0,0,0,0,0,0,0]:List UInt8) Z Z hf (fun _ _ hz=>bQ hz) ?_); intro dw i1 b1 hf; rw [vg] at hf; refine V 1 Z (C hf Z (fun h1 hf=>?_) fun h1 hf=>?_)
 ·
  refine B1 hf fun _ h2 hf=>W 7 Z (AS Z (AO.Jz d1 (Int.toNat (bI (60 - (bI (4 * i1))))) Z Z Z Z (by have:=Lv h2; simp only [decide_eq_true_eq] at this; exact (Int.toNat_of_nonneg this).symm) ?_)); refine B1 hf fun x1 h3 hf=>AS Z (AO.WB (d1 >>> (Int.toNat (bI (60 - (bI (4 * i1)))))) (15:BitVec 64) h3 Z Z Z Z Z ?_); refine B1 hf fun x2 h4 hf=>AS Z (AO.bP h4 Z bL Z Z ?_); refine B1 hf fun e1 h5 hf=>AS Z (AO.KZ h5 Z aak Z Z Z ?_); refine B1 hf fun b2 h6 hf=>AR.dF Z Z (AO.ET (i:=0) (fun z:UInt8=>.int .u8 (z.toNat:Int)) 0 h5 h6 Z Z Z adT Z Z Z Z Z Z ?_); exact N 2 Z ⟨(bI (i1 + 1)),([(b2.getD 0 0),(b2.getD 1 0),(b2.getD 2 0),(b2.getD 3 0),(b2.getD 4 0),(b2.getD 5 0),(b2.getD 6 0),(b2.getD 7 0),(b2.getD 8 0),(b2.getD 9 0),(b2.getD 10 0),(b2.getD 11 0),(b2.getD 12 0),(b2.getD 13 0),(b2.getD 14 0),(b2.getD 15 0)]:List UInt8),Z,Z,Z,hf⟩
 refine W 0 Z (AS Z (AO.U1 Z aak Z (AS Z (AO.M5 (i:=0) (s:=([(b1.getD 0 0),(b1.getD 1 0),(b1.getD 2 0),(b1.getD 3 0),(b1.getD 4 0),(b1.getD 5 0),(b1.getD 6 0),(b1.getD 7 0),(b1.getD 8 0),(b1.getD 9 0),(b1.getD 10 0),(b1.getD 11 0),(b1.getD 12 0),(b1.getD 13 0),(b1.getD 14 0),(b1.getD 15 0)]:List UInt8)) Z Nc xJ bL Z Z Z Z ?_)))); cases hf; exact N 1 Z (Y Z h)
theorem Gt (s1:List bE) {r0:List bE} (hf:fI s1=some r0) (h:Q (.ret (.list (List.map bE.cells r0))) τ):PC 55 [.list (List.map bE.cells s1)] τ Q:=by
 unfold fI at hf; refine BN 8 [.tmp 2] [0] Tryz.func55 Z Z Z Z Z (W 0 Z (AS Z (AO.eF Z Z (U 1 Z (AS Z (AO.Ca Z Z WA (fun b hb=>(J 0 Z (AW.cond Z (fun h1=>?_) (fun h1=>?_))))))))))
 · obtain rfl:s1=[]:=List.map_eq_nil_iff.1 (hb h1); obtain ⟨_,rfl⟩:=vI hf; refine W 0 Z (AS Z (AO.eF Z Z ?_)); exact N 0 rfl ⟨rfl,_,⟨_,_,rfl,rfl,rfl⟩,_,List.Sublist.refl _,h⟩
 refine W 0 Z (AS Z (AO.xB [] Z FL Z Z Z Z Z (fun v1=>(U 1 Z (AS Z (AO.iJ (i:=0) (l:=[]) (m:=s1) hf Z Z Z Z Z Z Z FL Bl Z Z Z (bE.dU) (bE.cells_one) (by decide) (fun v2 s2 hs2=>?_))))))); cases hs2; exact N 1 Z (Y Z h)
theorem Ew (s1:List bE) {r0:List bE} (hf:fI s1=some r0) {Q:fq→List bn→Prop} (h:∀ v,Q (.ret (.val v)) [.buf v r0.length 7 57 (r0.flatMap bE.cells)]):PC 55 [.list (List.map bE.cells s1)] [] Q:=by
 unfold fI at hf; obtain ⟨hl,e0⟩:=vI hf; rw [List.nil_append] at e0; subst e0; simp only [List.length_nil,Nat.zero_add] at hl; have hlen:∀ x:bE,(bE.cells x).length=7:=fun _=>Z; have hone:∀ x:bE,(bE.cells x).all PV.one=true:=fun _=>Z; refine AC.kH 8 [.tmp 2] [0] Tryz.func55 Z Z Z Z Z (AW.sr (AR.step Z Z Z (AO.eF Z Z (AR.nil [0] Z ?_)))); refine AW.seq (AW.sr (cs 1 Z (AR.step Z Z Z (AO.Ca Z Z WA (fun b hb=>?_))))); refine AR.nil [0,4] Z (AW.cond Z (fun h1=>?_) (fun h1=>?_))
 · obtain rfl:r0=[]:=List.map_eq_nil_iff.1 (hb h1); refine AW.sr (AR.step Z Z Z (AO.JG Z Z (AR.nil [2] Z (AW.adu 7 57 ?_)))); refine AW.ret ?_; exact ⟨rfl,_,⟨_,_,rfl,rfl,rfl⟩,_,List.Sublist.refl _,h _⟩
 refine AW.skip (AW.sr (AR.step Z Z Z (AO.xB [] Z FL Z Z Z Z Z (fun v1=>(cs 1 Z ?_))))); refine AR.step Z Z Z (AO.TK (i:=0) (l2:=List.map bE.cells r0) Z Z Z Z Z Z Z FL Bl (fun y hy=>?_) (fun y hy=>?_) ?_ ?_ (fun v2 s1 hs1=>?_))
 · obtain ⟨s,_,rfl⟩:=List.mem_map.1 hy; exact hlen s
 · obtain ⟨s,_,rfl⟩:=List.mem_map.1 hy; exact hone s
 · rw [List.length_map]; unfold Fy at hl; unfold maxLen; omega
 · rw [List.length_map]; unfold Fy at hl; omega
 cases hs1; refine cs 1 Z (AR.nil [2] Z (AW.ret ?_)); have hv:=h v2; rw [List.flatMap_def,show r0.length=(List.map bE.cells r0).length from (List.length_map _).symm] at hv; exact ⟨rfl,_,⟨_,_,rfl,rfl,rfl⟩,_,List.Sublist.refl _,hv⟩
theorem r_ (s1:List bE) {r0:List bE} (hf:fI s1=some r0) {Q:fq→List bn→Prop} (h:∀ v,Q (.ret (.own v (List.map bE.cells r0))) [.row v (List.map bE.cells r0).length 7 57]):PC 55 [.list (List.map bE.cells s1)] [] Q:=by
 unfold fI at hf; refine AC.Xv 8 [.tmp 2] [0] Tryz.func55 Z Z Z Z Z (AW.sr (AR.step Z Z Z (AO.eF Z Z (AR.nil [0] Z ?_)))); refine AW.seq (AW.sr (cs 1 Z (AR.step Z Z Z (AO.Ca Z Z WA (fun b hb=>?_))))); refine AR.nil [0,4] Z (AW.cond Z (fun h1=>?_) (fun h1=>?_))
 · obtain rfl:s1=[]:=List.map_eq_nil_iff.1 (hb h1); obtain ⟨_,rfl⟩:=vI hf; refine AW.sr (cs 1 Z (AR.nil [2] Z (AW.row 7 57 ?_))); refine AW.ret ?_; exact ⟨rfl,_,⟨_,_,rfl,rfl,rfl⟩,_,List.Sublist.refl _,h _⟩
 refine AW.skip (AW.sr (AR.step Z Z Z (AO.xB [] Z FL Z Z Z Z Z (fun v1=>(cs 1 Z ?_))))); refine AR.step Z Z Z (AO.iJ (i:=0) (l:=[]) (m:=s1) hf Z Z Z Z Z Z Z FL Bl Z Z Z (bE.dU) (bE.cells_one) (by decide) (fun v2 s2 hs2=>?_)); cases hs2; refine cs 1 Z (AR.nil [2] Z (AW.ret ?_)); exact ⟨rfl,_,⟨_,_,rfl,rfl,rfl⟩,_,List.Sublist.refl _,h v2⟩
section
variable [Jy]
theorem Cj (c1:bF) (C8:List bE) (tH:List b_) {r0:List bE} {r1:Int} (hf:qX c1 C8 tH=some (r0,r1)) (h:Q (.ret (.tuple [.list (List.map bE.cells r0),iP r1])) τ):PC 36 [.agg (l8 c1),.list (List.map bE.cells C8),.list (List.map b_.cells tH)] τ Q:=by
 unfold qX at hf; refine AC.none (AC.kH 29 [.tmp 6,.tmp 7] [0,1,2] Tryz.func36 Z Z Z Z Z (AW.sr (AR.step Z Z Z (AO.GJ Z Z Z ?_)))); refine AR.step Z Z Z (AO.eF Z Z (cs 1 Z (AR.nil [1,2,3] Z (AW.seq ?_)))); refine AW.sr (cs 1 Z ?_); refine B1 hf fun e1 h1 hf=>?_; refine AR.step Z Z Z (AO.call Z _ Z Z acA (Bp _ h1 (cs 1 Z (AR.nil [1,2,3,8] Z (AW.sr ?_))))); refine cs 2 Z (AR.nil [1,2,3,8,13] Z (AW.cond Z (fun h2=>?_) (fun h2=>?_)))
 ·
  replace hf:=j_ h2 hf; refine AW.sr (cs 1 Z (AR.step Z Z Z (AO.eF Z Z (cs 1 Z ?_)))); refine AR.nil [6,7] Z (AW.ret ?_); cases hf; exact ⟨rfl,_,⟨_,_,rfl,rfl,_,_,rfl,rfl,rfl⟩,[],List.nil_sublist _,h⟩
 ·
  replace hf:=jG h2 hf; refine AW.skip (AW.seq (AW.sr (cs 1 Z ?_))); refine B1 hf fun x1 h3 hf=>?_; refine AR.step Z Z Z (AO.call Z _ Z Z acJ (qD _ l6 54 [] acI (fun _ _ hz=>Am _  hz) h3 (AR.nil [1,2,3,16] Z (AW.cond Z (fun h4=>?_) (fun h4=>?_)))))
  ·
   replace hf:=j_ h4 hf; refine AW.sr (AR.step Z Z Z (AO.eF Z Z (cs 1 Z (AR.nil [6,7] Z ?_)))); refine AW.ret ?_; cases hf; exact ⟨rfl,_,⟨_,_,rfl,rfl,_,_,rfl,rfl,rfl⟩,[],List.nil_sublist _,h⟩
  ·
   replace hf:=jG h4 hf; refine AW.skip (AW.sr (cs 3 Z ?_)); refine B1 hf fun x2 h5 hf=>?_; refine AR.step Z Z Z (AO.call Z _ Z Z acR (Jw _ _ h5 ?_)); refine B1 hf fun x3 h6 hf=>?_; refine AR.step Z Z Z (AO.call Z _ Z Z acP (EK _ h6 (AR.step Z Z Z (AO.build Z xC Sw Z (AR.step Z Z Z (AO.aQ Z xC (fun b9=>(AR.dF Z Z (AO.fB (i:=0) Z Z Z Ar Z Z Z Z Z ?_))))))))); refine AR.nil [1,9] Z (AW.seq ?_); refine B1 hf fun x4 h7 hf=>?_; refine AW.UC 1 5 [] [.box b9 [iP 3,.bool false,iP 0,.str x3,.own (.slice none 0 0) [],.own (.slice none 0 0) []]] (fun S e s=>∃ v':Value,e.get 23=.list (List.map bE.cells C8)∧e.get 9=pP b9∧(S 1=true→e.get 24=.own v' (List.map bE.cells x4))∧(S 2=true→e.get 25=.agg [iP 3,.bool false,iP 0,.str x3,.own (.slice none 0 0) [],.own (.slice none 0 0) []])∧(S 3=true→e.get 26=.agg [.str ([102,105,108,101,115]:Str),iP 3,.bool false,iP 0,.str x3,.own (.slice none 0 0) [],.own (.slice none 0 0) []])∧(S 4=true→e.get 27=.list (List.map bE.cells [(bE.mk ([102,105,108,101,115]:Str) (av.mk 3 false 0 x3 [] []))]))∧s=(bif S 1 then [.row v' (List.map bE.cells x4).length 7 57] else []) ++ [.box b9 [iP 3,.bool false,iP 0,.str x3,.own (.slice none 0 0) [],.own (.slice none 0 0) []]]) mixed (by kernel_rfl) Z Z (List.Perm.refl _) ?_ ?_ ?_ ?_
   ·
    refine Ev.cs dh 1 Z (Ev.nil ?_); exact ⟨.nilIface,Z,Z,(fun h=>by cases h),(fun h=>by cases h),(fun h=>by cases h),(fun h=>by cases h),Z⟩
   ·
    rintro S S' e s hS ⟨v',q1,q2,q3,q4,q5,q6,qs⟩; have z:=fun i h1 h2=>(hS i h1 h2).symm; refine ⟨v',q1,q2,?_,?_,?_,?_,?_⟩
    ·
     rw [z 1 (by decide) (by decide)]; exact q3
    ·
     rw [z 2 (by decide) (by decide)]; exact q4
    ·
     rw [z 3 (by decide) (by decide)]; exact q5
    ·
     rw [z 4 (by decide) (by decide)]; exact q6
    ·
     rw [z 1 (by decide) (by decide)]; exact qs
   ·
    rintro S e s i o ⟨v',q1,q2,q3,q4,q5,q6,rfl⟩ hi1 hi2 hSi hp ho; have hi:i=1∨i=2∨i=3∨i=4:=by omega
    rcases hi with rfl | rfl | rfl | rfl
    ·
     cases ho; refine ⟨Z,(fun t ht=>by cases ht; decide),AO.less (Less.add q1 Less.nil) ?_⟩; rw [hSi]; refine AO.adr Z _ Z Z acH (AC.none (r_ _ h7 (fun v3=>?_))); exact ⟨v3,q1,q2,(fun _=>Z),q4,q5,q6,Z⟩
    ·
     cases ho; refine ⟨Z,(fun t ht=>by cases ht; decide),AO.less (Less.add q2 Less.nil) ?_⟩; cases h8:S 1 with
     | false=>
      refine AO.eP (i:=0) Z Z Z Ar Z Z ?_; exact ⟨v',q1,q2,q3,(fun _=>Z),q5,q6,by simp [h8]⟩
     | true=>
      refine AO.eP (i:=1) Z Z Z Ar Z Z ?_; exact ⟨v',q1,q2,q3,(fun _=>Z),q5,q6,by simp [h8]⟩
    ·
     cases ho; have s2:=hp 2 (any_beq.1 Z) (by decide); refine ⟨Z,(fun t ht=>by cases ht; decide),AO.less (Less.add (q4 s2) Less.nil) (AO.build Z Wi aat Z ?_)⟩; exact ⟨v',q1,q2,q3,q4,(fun _=>Z),q6,Z⟩
    ·
     cases ho; have s3:=hp 3 (any_beq.1 Z) (by decide); refine ⟨Z,(fun t ht=>by cases ht; decide),AO.less (Less.add (q5 s3) Less.nil) (AO.bS (List.map bE.cells [(bE.mk ([102,105,108,101,115]:Str) (av.mk 3 false 0 x3 [] []))]) rfl FL rfl rfl rfl (by first | rfl | simp only [List.map,bE.aT]) ?_)⟩
     exact ⟨v',q1,q2,q3,q4,q5,(fun _=>Z),Z⟩
   rintro S e s hS ⟨v1,q1,q2,q3,q4,q5,q6,rfl⟩; rw [hS 1 (by decide) (by decide)]; refine AR.less (Less.add (q3 (hS 1 (by decide) (by decide))) (Less.add (q6 (hS 4 (by decide) (by decide))) Less.nil)) ?_; refine B1 hf fun x5 h8 hf=>?_; refine AR.step Z Z Z (AO.iJ (i:=0) (l:=x4) (m:=[(bE.mk ([102,105,108,101,115]:Str) (av.mk 3 false 0 x3 [] []))]) h8 Z Z Z Z Z Z Z FL Bl Z Z Z (bE.dU) (bE.cells_one) (by decide) (fun v2 s1 hs1=>?_)); cases hs1; refine cs 2 Z (AR.nil [6,7] Z (AW.ret ?_)); cases hf; exact ⟨rfl,_,⟨_,_,rfl,rfl,_,_,rfl,rfl,rfl⟩,[],List.nil_sublist _,h⟩
end
theorem L8 (l5:List bE) {r0:Int} (hf:Gm l5=some r0) (h:Q (.ret (iP r0)) τ):PC 74 [.list (List.map bE.cells l5)] τ Q:=by
 unfold Gm at hf; refine BN 39 [.tmp 2] [0] Tryz.func74 Z Z Z Z Z (W 2 Z (AS Z (AO.aV (l:=l5) Z Z Z Z Bl Z Z (J 1 Z (C hf Z (fun h1 hf=>?_) fun h1 hf=>?_)))))
 · cases hf; exact M 1 Z (Y Z h)
 refine W 0 Z (AS Z (AO.QL Z (fun m10=>(U 2 Z (AS Z (AO.aV (l:=l5) Z Z Z Z Bl Z Z (J 1 Z (JQ (fun x1 y1=>[(3,.val (.map (some m10))),(11,.list (List.map bE.cells l5)),(12,iP (l5.length:Int)),(13,iP x1)]) (fun x1 y1=>[.obj m10 (tF y1)]) (fun dw x1 y1=>zR l5 dw x1 y1=some r0) BIG 0 [] Z Z hf (fun _ _ hz=>bQ hz) ?_)))))))); intro dw x1 y1 hf; rw [zR] at hf; refine V 1 Z (C hf Z (fun h2 hf=>?_) fun h2 hf=>?_)
 ·
  refine B1 hf fun e1 h3 hf=>W 0 Z (AS Z (AO.cZ h3 Z Z Z Z Bl (bE.aT _) Z (U 1 Z (AS Z (AO.aQ Z Wi (fun b5=>?_)))))); refine B1 hf fun x2 h4 hf=>Rr 4 [0,0] Z Z (CL Z (yZ _ h4 (J 1 Z (C hf Z (fun h5 hf=>?_) fun h5 hf=>?_))))
  · cases hf; exact M 1 Z (Y Z h)
  refine B1 hf fun e2 h6 hf=>Wr 2 [0] Z Z (CL Z (wC _ h6 (J 3 Z (C hf Z (fun h7 hf=>?_) fun h7 hf=>?_))))
  · cases hf; exact M 2 Z (Y Z h)
  refine Wr 3 [0] Z Z (AS Z (AO.JI (i:=1) (l:=y1) Z Z Z Z Hu bL YE (U 1 Z (AR.dF Z Z (AO.KR (i:=1) (l:=y1) Z Z Z Z Z Hu bL (Rr 3 [0] Z Z (AS Z (AO.JI (i:=1) (l:=(vJ y1 e1.name (bI ((uO y1 e1.name) + 1)))) Z Z Z Z Hu bL YE (J 1 Z (C hf Z (fun h8 hf=>?_) fun h8 hf=>?_))))))))))
  · cases hf; exact M 1 Z (Y Z h)
  refine Wn0 2 Z (AR.drop1 ?_); exact N 0 Z ⟨(bI (x1 + 1)),(vJ y1 e1.name (bI ((uO y1 e1.name) + 1))),Z,Z,Z,hf⟩
 cases hf; exact M 1 Z (Y Z h)
theorem M4 (e1:aj) (l5:List bE) {r0:List bE} {r1:Int} (hf:Dx e1 l5=some (r0,r1)) (h:Q (.ret (.tuple [.list (List.map bE.cells r0),iP r1])) τ):PC 125 [.agg (cB e1),.list (List.map bE.cells l5)] τ Q:=by
 unfold Dx at hf; refine BN 19 [.tmp 4,.tmp 5] [0,1] Tryz.func125 Z Z Z Z Z (W 1 Z (AS Z (AO.eF Z Z ?_))); refine B1 hf fun f1 h1 hf=>U 2 Z (CL Z (L8 _ h1 (J 3 Z (C hf Z (fun h2 hf=>?_) fun h2 hf=>?_))))
 · refine W 1 Z (AS Z (AO.eF Z Z ?_)); cases hf; exact N 1 Z (Y Z h)
 refine B1 hf fun f2 h3 hf=>W 1 Z (CL Z (yZ _ h3 (J 3 Z (C hf Z (fun h4 hf=>?_) fun h4 hf=>?_))))
 · refine W 1 Z (AS Z (AO.eF Z Z ?_)); cases hf; exact N 1 Z (Y Z h)
 cases hf; exact M 3 Z (Y Z h)
@[reducible] def PK :iG dX Unit→fq
 | .ok r=>.ret (.tuple [])
 | .bad e=>.panic (.iface 218 (.agg [iP e.code]))
theorem I9 (e1:Int) {rX:iG dX Unit} (hf:HZ e1=some rX) (h:Q (PK rX) τ):PC 245 [iP e1] τ Q:=by
 unfold HZ at hf; refine BN 5 [] [0] Tryz.func245 Z Z Z Z Z (W 2 Z (AS Z (AO.Uu Z abl Z (AR.dF Z Z (AO.Xn Z Z ?_))))); cases hf; exact ⟨Z,[],List.nil_sublist _,h⟩
@[reducible] def Fz :iG dX av→fq
 | .ok r=>.ret (.agg (dB r))
 | .bad e=>.panic (.iface 218 (.agg [iP e.code]))
theorem zW (s1:List bE) (name1:Str) {rX:iG dX av} (hf:xA s1 name1=some rX) (h:Q (Fz rX) τ):PC 198 [.list (List.map bE.cells s1),.str name1] τ Q:=by
 unfold xA at hf; refine BN 22 [.cell 4 55] [0,1] Tryz.func198 Z Z Z Z Z (W 0 Z (AS Z (AO.aQ Z xC (fun b4=>(U 1 Z (AS Z (AO.aV (l:=s1) Z Z Z Z XZ Z Z (J 1 Z (CK (fun x1=>[(1,.str name1),(4,pP b4),(7,.list (List.map bE.cells s1)),(8,iP (s1.length:Int)),(9,iP x1)]) (fun x1=>[.box b4 [iP 0,.bool false,iP 0,.str ([]:Str),.own (.slice none 0 0) [],.own (.slice none 0 0) []]]) (fun dw x1=>pQ s1 name1 dw x1=some rX) BIG 0 Z Z hf (fun _ hz=>bQ hz) ?_))))))))); intro dw x1 hf; rw [pQ] at hf; refine V 1 Z (C hf Z (fun h1 hf=>?_) fun h1 hf=>?_)
 ·
  refine B1 hf fun e1 h2 hf=>W 0 Z (AS Z (AO.cZ h2 Z Z Z Z XZ (bE.aT _) Z (U 1 Z (AS Z (AO.aQ Z Wi (fun b6=>(Rw 5 [0,0] Z Z (C hf Z (fun h3 hf=>?_) fun h3 hf=>?_))))))))
  · cases hf; exact Wx 3 [0,1] Z Z (ZC [1] Z Z h)
  refine Wn0 2 Z (AR.drop1 ?_); exact N 0 Z ⟨(bI (x1 + 1)),Z,Z,Z,hf⟩
 rcases Eo hf with ⟨e2,h4,hf⟩ | ⟨_,h4,hf⟩
 · refine W 0 Z (CL Z (I9 _ h4 ?_)); cases hf; exact ⟨Z,[],List.nil_sublist _,h⟩
 refine W 0 Z (CL Z (I9 _ h4 ?_)); cases hf; exact Rx 2 [0] Z Z (ZC [0] Z Z h)
@[reducible] def uj :iG dX av→fq
 | .ok r=>.ret (.agg (dB r))
 | .bad e=>.panic (.iface 218 (.agg [iP e.code]))
abbrev Aa (kQ:List bE→aj→Option (iG dX av)):Prop:=∀ (Jh:List bE) (sU:aj) {gU:iG dX av},kQ Jh sU=some gU→∀ {τ:List bn} {Q:fq→List bn→Prop} (h:Q (uj gU) τ),PC 160 [.list (List.map bE.cells Jh),.agg (cB sU)] τ Q
theorem FC (kQ) (xE:Aa kQ) (s1:List bE) (e1:aj) {rX:iG dX av} (hf:u7 kQ s1 e1=some rX) (h:Q (uj rX) τ):PC 160 [.list (List.map bE.cells s1),.agg (cB e1)] τ Q:=by
 unfold u7 at hf; refine BN 104 [.cell 4 55] [0,1] Tryz.func160 Z Z Z Z Z (W 1 Z (AS Z (AO.aQ Z xC (fun b4=>(J 4 Z (C hf Z (fun h1 hf=>?_) fun h1 hf=>?_))))))
 · cases hf; exact Wx 3 [0] Z Z (ZC [0] Z Z h)
 refine V 2 Z (C hf Z (fun h2 hf=>?_) fun h2 hf=>?_)
 ·
  rcases Eo hf with ⟨e2,h3,hf⟩ | ⟨x1,h3,hf⟩
  · refine W 3 Z (CL Z (zW _ _ h3 ?_)); cases hf; exact ⟨Z,[],List.nil_sublist _,h⟩
  refine W 3 Z (CL Z (zW _ _ h3 ?_)); cases hf; exact Rx 1 [0] Z Z (ZC [0] Z Z h)
 refine V 2 Z (C hf Z (fun h4 hf=>?_) fun h4 hf=>?_)
 · exact bQ hf
 refine V 2 Z (C hf Z (fun h5 hf=>?_) fun h5 hf=>?_)
 ·
  refine B1 hf fun e3 h6 hf=>W 3 Z (AS Z (AO.cZ h6 Z Z (aj.bM _) Z jL (aj.aT _) Z ?_)); rcases Eo hf with ⟨e4,h7,hf⟩ | ⟨x2,h7,hf⟩
  · refine U 1 Z (CL Z (xE _ _ h7 ?_)); cases hf; exact ⟨Z,[],List.nil_sublist _,h⟩
  refine U 1 Z (CL Z (xE _ _ h7 (AS Z (AO.aQ Z xC (fun b5=>?_))))); exact bQ hf
 refine V 2 Z (C hf Z (fun h8 hf=>?_) fun h8 hf=>?_)
 · exact bQ hf
 refine V 2 Z (C hf Z (fun h9 hf=>?_) fun h9 hf=>?_)
 · exact bQ hf
 refine V 2 Z (C hf Z (fun h10 hf=>?_) fun h10 hf=>?_)
 · exact bQ hf
 refine V 2 Z (C hf Z (fun h11 hf=>?_) fun h11 hf=>?_)
 · exact bQ hf
 refine V 2 Z (C hf Z (fun h12 hf=>?_) fun h12 hf=>?_)
 · exact bQ hf
 exact bQ hf
theorem F8 :∀ k:Nat,(Aa (nR k)):=by
 intro k
 induction k with
 | zero=>exact fun _ _ _ hz=>by first | cases hz | (unfold nR at hz; cases hz)
 | succ k ih=>exact fun Jh sU gU hz τ Q hq=>FC (nR k) ih Jh sU hz hq
theorem zX (Jh:List bE) (sU:aj) {gU:iG dX av} (hf:Cw Jh sU=some gU) (h:Q (uj gU) τ):PC 160 [.list (List.map bE.cells Jh),.agg (cB sU)] τ Q:=
 ((F8 BIG)) Jh sU hf h
theorem Im (s1:List bE) (e1:aj) {r0:av} {r1:Int} (hf:yU s1 e1=some (r0,r1)) (h:Q (.ret (.tuple [.agg (dB r0),iP r1])) τ):PC 126 [.list (List.map bE.cells s1),.agg (cB e1)] τ Q:=by
 unfold yU at hf; refine AC.none (AC.IU 10 [.cell 4 55,.cell 5 30] [0,1] [0,1] Tryz.func126 Z Z Z Z Z Tryz.func159 Z Z Z Z Z Z Z aaZ (AW.sr (AR.step Z Z Z (AO.GJ Z Z Z ?_)))); refine AR.step Z Z Z (AO.aQ Z xC (fun b4=>(AR.step Z Z Z (AO.aQ Z Wj (fun b5=>(AR.nil [0,3,4,5] Z (AW.sr ?_))))))); refine cs 1 Z (AR.defer (vs:=[.pointer (some ⟨b4,0,none⟩),.pointer (some ⟨b5,0,none⟩)]) Z Z Z Z Z Z (AR.nil [0,3,4,5] Z (AW.sr ?_))); refine cs 2 Z ?_; rcases Eo hf with ⟨f1,h1,hf⟩ | ⟨v1,h1,hf⟩
 ·
  refine AR.step Z Z Z (AO.call Z _ Z Z Xj (zX _ _ h1 ?_)); cases hf; refine ⟨[.pointer (some ⟨b4,0,none⟩),.pointer (some ⟨b5,0,none⟩)],_,Z,Z,Z,(AR.step Z Z Z (AO.T_ Z Z YS (cs 3 Z (AR.step Z Z Z (AO.aQ Z Wm (fun b6=>?_))))))⟩; refine AR.dF Z Z (AO.fB (i:=0) Z Z Z WM Z Z Z Z Z (cs 1 Z (AR.nil [0,1,2,3] Z (AW.sr ?_)))); refine cs 1 Z (AR.nil [0,1,2,9] Z (AW.cond Z (fun _=>?_) (fun hh=>by cases hh))); refine AW.UA 1 3 4 [_] [_,_] mixed (by kernel_rfl) (by kernel_rfl) (by kernel_rfl) Z Z Z (List.Perm.refl _) ?_; refine Ev.cons Z Z Z (AO.build Z xC Sw Z zg) (Ev.nil ?_); show Ev _ _ _ _ _ _ _; refine Ev.cs dh 1 Z (Ev.cons Z Z Z (AO.eP (i:=0) Z Z Z zA Z Z zg) (Ev.nil (TF.dF Z Z (AO.fB (i:=1) Z Z Z Ar Z Z Z Z Z ?_)))); refine TF.nil ?_; show AR _ _ _ _ _ _ _ _; refine AR.dF Z Z (AO.fB (i:=1) Z Z Z zA Z Z Z Z Z (AR.nil [] Z ?_)); exact ⟨rfl,_,⟨_,_,rfl,⟨_,_,2,_,_,rfl,rfl,Ar,rfl⟩,⟨_,_,rfl,⟨_,_,1,_,_,rfl,rfl,zA,rfl⟩,rfl⟩⟩,[],List.nil_sublist _,h⟩
 refine AR.step Z Z Z (AO.call Z _ Z Z Xj (zX _ _ h1 ?_)); cases hf; refine AR.dF Z Z (AO.fB (i:=1) Z Z Z Ar Z Z Z Z Z (AR.dF Z Z (AO.fB (i:=0) Z Z Z zA Z Z Z Z Z (AR.nil [4,5] Z (AW.ret ?_))))); refine ⟨[.pointer (some ⟨b4,0,none⟩),.pointer (some ⟨b5,0,none⟩)],_,Z,Z,Z,(AR.step Z Z Z (AO.Qe (p:=.agg [iP 0]) Z Z YU (fun _ _=>by simp only [dO]; exact ⟨[.int .i64 0],Z,bD.cons (by simp [dO]) bD.nil⟩) ?_))⟩; refine cs 3 Z (AR.step Z Z Z (AO.aQ Z Wm (fun b6=>(AR.dF Z Z (AO.fB (i:=0) Z Z Z WM Z Z Z Z Z (cs 1 Z ?_)))))); refine AR.nil [3] Z (AW.sr (cs 1 Z (AR.nil [9] Z ?_))); refine AW.cond Z (fun hh=>by cases hh) (fun _=>?_); refine AW.skip ?_; exact ⟨rfl,_,⟨_,_,rfl,⟨_,_,2,_,_,rfl,rfl,Ar,rfl⟩,⟨_,_,rfl,⟨_,_,1,_,_,rfl,rfl,zA,rfl⟩,rfl⟩⟩,[],List.nil_sublist _,h⟩
abbrev GN (jX:av→Option av):Prop:=∀ (Cq:av) {bY:av},jX Cq=some bY→∀ {τ:List bn} {Q:fq→List bn→Prop} (h:Q (.ret (.agg (dB bY))) τ),PC 127 [.agg (dB Cq)] τ Q
theorem Og (jX) (K8:GN jX) (v1:av) {r0:av} (hf:BZ jX v1=some r0) (h:Q (.ret (.agg (dB r0))) τ):PC 127 [.agg (dB v1)] τ Q:=by
 unfold BZ at hf; refine BN 31 [.cell 2 55] [0] Tryz.func127 Z Z Z Z Z (W 1 Z (AS Z (AO.aQ Z xC (fun b2=>(U 1 Z (AS Z (AO.aQ Z xC (fun b3=>(Rr 7 [0,0,0] Z Z (AS Z (AO.aV (l:=v1.dW) Z Z Z Z qV Z (av.bM _) ?_))))))))))); refine J 1 Z (AW.row 6 55 (AW.row 1 9 (LK4 (fun x1 cK v2 v3=>[(1,.ref (dB v1)),(2,pP b2),(3,pP b3),(10,.list (av.dV v1.dW)),(11,iP (v1.dW.length:Int)),(12,iP x1)]) (fun x1 cK v2 v3=>[.row v3 (List.map oh cK.keys).length 1 9,.row v2 (av.dV cK.dW).length 6 55,.box b3 [iP cK.kind,.bool cK.lJ,iP cK.mG,.str cK.nu,.own v2 (av.dV cK.dW),.own v3 (List.map oh cK.keys)],.box b2 [iP 0,.bool false,iP 0,.str ([]:Str),.own (.slice none 0 0) [],.own (.slice none 0 0) []]]) (fun dw x1 cK v2 v3=>wu jX v1 dw x1 cK=some r0) BIG 0 (av.mk v1.kind v1.lJ v1.mG v1.nu [] []) (.slice none 0 0) (.slice none 0 0) Z Z hf (fun _ _ _ _ hz=>bQ hz) ?_))); intro dw x1 cK v2 v3 hf; rw [wu] at hf; refine V 1 Z (C hf Z (fun h1 hf=>?_) fun h1 hf=>?_)
 ·
  refine B1 hf fun e1 h2 hf=>W 0 Z (AS Z (AO.cZ h2 Z Z (av.bM _) Z qV (av.aT _) Z (U 1 Z (AS Z (AO.aQ Z xC (fun b5=>(Rw 1 [0] Z Z (AW.draw 5 mixed (by kernel_rfl) Z ?_)))))))); refine Ev.cs dh 1 Z (Ev.cons Z Z Z (AO.eP (i:=3) Z Z Z acj Z Z zg) (Ev.cons Z Z Z (AO.eP (i:=0) Z Z Z Ar Z Z zg) ?_)); refine B1 hf fun x2 h3 hf=>Ev.cons rfl rfl rfl (AO.call rfl _ rfl rfl aa7 (K8 _ h3 ⟨rfl,rfl⟩)) (Ev.cons rfl rfl rfl (AO.bS (av.dV [x2]) rfl ZO rfl rfl rfl (by first | rfl | simp only [List.map,av.aT,av.dV]) ⟨rfl,rfl⟩) ?_)
  refine Ev.nil ?_; show AR _ _ _ _ _ _ _ _; refine B1 hf fun x3 h4 hf=>AS Z (AO.iJ (i:=2) (l:=cK.dW) (m:=[x2]) h4 Z Z Z Z Z Z Z ZO qV (av.bM _) (av.bM _) (av.bM _).symm (av.dU) (av.cells_one) (by decide) (fun v4 s1 hs1=>?_)); cases hs1; refine Rn 4 [3] Z Z (AR.drop1 ?_); exact N 0 Z ⟨(bI (x1 + 1)),(av.mk cK.kind cK.lJ cK.mG cK.nu x3 cK.keys),v4,v3,Z,Z,Z,hf⟩
 refine B1 hf fun x4 h5 hf=>Wr 4 [2] Z Z (AS Z (AO.iJ (i:=0) (l:=cK.keys) (m:=v1.keys) h5 Z Z Z Z Z Z Z IJ gX Z Z Z (fun _=>Z) (fun _=>Z) (by decide) (fun v5 s2 hs2=>?_))); cases hs2; cases hf; exact Rx 4 [2,2,3] Z Z (ZC [3] Z Z h)
theorem OJ :∀ k:Nat,(GN (u_ k)):=by
 intro k
 induction k with
 | zero=>exact fun _ _ hz=>by first | cases hz | (unfold u_ at hz; cases hz)
 | succ k ih=>exact fun Cq bY hz τ Q hq=>Og (u_ k) ih Cq hz hq
theorem Pp (Cq:av) {bY:av} (hf:Lg Cq=some bY) (h:Q (.ret (.agg (dB bY))) τ):PC 127 [.agg (dB Cq)] τ Q:=
 ((OJ BIG)) Cq hf h
theorem RQ (e1:aj) (l5:List bE) {r0:av} {r1:Int} (hf:H6 e1 l5=some (r0,r1)) (h:Q (.ret (.tuple [.agg (dB r0),iP r1])) τ):PC 99 [.agg (cB e1),.list (List.map bE.cells l5)] τ Q:=by
 unfold H6 at hf; refine BN 28 [.cell 4 55,.tmp 5] [0,1] Tryz.func99 Z Z Z Z Z (W 1 Z (AS Z (AO.aQ Z xC (fun b4=>?_)))); obtain ⟨s1,f1,h1,hf⟩:=dN hf; refine U 3 Z (CL Z (M4 _ _ h1 (J 7 Z (C hf Z (fun h2 hf=>?_) fun h2 hf=>?_))))
 · cases hf; exact Wx 4 [0] Z Z (ZC [0] Z Z h)
 obtain ⟨x1,f2,h3,hf⟩:=dN hf; refine W 2 Z (CL Z (Im _ _ h3 (U 3 Z (AS Z (AO.aQ Z xC (fun b8=>?_)))))); refine B1 hf fun x2 h4 hf=>Rr 3 [0,0] Z Z (CL Z (Pp _ h4 ?_)); cases hf; exact Rx 3 [1] Z Z (ZC [1] Z Z h)
theorem O_ (v1:av) {r0:Str} {r1:Int} (hf:ER v1=some (r0,r1)) (h:Q (.ret (.tuple [.str r0,iP r1])) τ):PC 100 [.agg (dB v1)] τ Q:=by
 unfold ER at hf; refine BN 28 [.tmp 2,.tmp 3] [0] Tryz.func100 Z Z Z Z Z (W 7 Z (On 4 8 12 [1] (v1.kind == 5) Z Z Z Z (J 0 Z (C hf Z (fun h2 hf=>?_) fun h2 hf=>?_))))
 · cases hf; exact M 2 Z (Y Z h)
 refine B1 hf fun e1 h3 hf=>W 1 Z (CL Z (wC _ h3 (J 3 Z (C hf Z (fun h4 hf=>?_) fun h4 hf=>?_))))
 · cases hf; exact M 3 Z (Y Z h)
 refine V 4 Z (C hf Z (fun h5 hf=>?_) fun h5 hf=>?_)
 · cases hf; exact M 2 Z (Y Z h)
 refine V 2 Z (C hf Z (fun h6 hf=>?_) fun h6 hf=>?_)
 · cases hf; exact M 4 Z (Y Z h)
 exact bQ hf
theorem Gy (p1:aR) (l5:List bE) {r0:Str} {r1:Int} (hf:xw p1 l5=some (r0,r1)) (h:Q (.ret (.tuple [.str r0,iP r1])) τ):PC 75 [.agg (Vu p1),.list (List.map bE.cells l5)] τ Q:=by
 unfold xw at hf; refine BN 27 [.tmp 4,.tmp 5] [0,1] Tryz.func75 Z Z Z Z Z (V 6 Z (C hf Z (fun h1 hf=>?_) fun h1 hf=>?_))
 · cases hf; exact M 4 Z (Y Z h)
 obtain ⟨x1,vo,h2,hf⟩:=dN hf; refine W 3 Z (CL Z (RQ _ _ h2 (U 3 Z (AS Z (AO.aQ Z xC (fun b6=>(Rw 4 [0] Z Z (C hf Z (fun h3 hf=>?_) fun h3 hf=>?_))))))))
 · cases hf; exact M 3 Z (Y Z h)
 replace hf:=(N7 _).trans hf; obtain ⟨x2,x3,h4,hf⟩:=dN hf; refine Wr 1 [0] Z Z (CL Z (O_ _ h4 ?_)); cases hf; exact N 4 Z (Y Z h)
section
variable [Jy]
theorem Jt (s1:Str) (l5:List bE) {r0:Str} {r1:Int} (hf:Ag s1 l5=some (r0,r1)) (h:Q (.ret (.tuple [.str r0,iP r1])) τ):PC 56 [.str s1,.list (List.map bE.cells l5)] τ Q:=by
 unfold Ag at hf; refine BN 50 [.tmp 4,.tmp 5] [0,1] Tryz.func56 Z Z Z Z Z ?_; obtain ⟨ps1,x1,vo,h1,hf⟩:=eH hf; refine W 3 Z (CL Z (DT _ h1 (J 9 Z (C hf Z (fun h2 hf=>?_) fun h2 hf=>?_))))
 · cases hf; exact M 3 Z (Y Z h)
 refine B1 hf fun DC h3 hf=>W 1 Z (CL Z (L8 _ h3 (J 3 Z (C hf Z (fun h4 hf=>?_) fun h4 hf=>?_))))
 · cases hf; exact M 3 Z (Y Z h)
 refine W 0 Z (AS Z (AO.N_ (eu:=5) Z Wo Z (fun b10=>(U 1 Z (AS Z (AO.aV (l:=ps1) Z Z Z Z Bj Z Z (J 1 Z (YD (fun x2 b1 v1=>[(1,.list (List.map bE.cells l5)),(10,pP b10),(29,.list (List.map aR.cells ps1)),(30,iP (ps1.length:Int)),(31,iP x2)]) (fun x2 b1 v1=>[.GQ b10 v1 102 5 b1]) (fun dw x2 b1 v1=>rJ l5 ps1 dw x2 b1=some (r0,r1)) BIG 0 [] (.slice none 0 0) Z Z hf (fun _ _ _ hz=>bQ hz) ?_)))))))); intro dw x2 b1 v1 hf; rw [rJ] at hf; refine V 1 Z (C hf Z (fun h5 hf=>?_) fun h5 hf=>?_)
 ·
  refine B1 hf fun e1 h6 hf=>W 0 Z (AS Z (AO.cZ h6 Z Z Z Z Bj (aR.aT _) Z (U 1 Z (AS Z (AO.aQ Z JU (fun b12=>?_)))))); obtain ⟨t1,X6,h7,hf⟩:=dN hf; refine Rr 3 [0,0] Z Z (CL Z (Gy _ _ h7 (J 7 Z (C hf Z (fun h8 hf=>?_) fun h8 hf=>?_))))
  · cases hf; exact M 3 Z (Y Z h)
  refine B1 hf fun b2 h9 hf=>W 1 Z (CL Z (AC.one 1 Z (GH h9 (fun v2=>⟨_,Z,(eD 2 Z (AR.drop1 ?_))⟩)))); exact N 0 Z ⟨(bI (x2 + 1)),b2,v2,Z,Z,Z,hf⟩
 refine W 0 Z (CL Z (AC.one 0 Z (NV ⟨_,Z,(J 1 Z (C hf Z (fun h10 hf=>?_) fun h10 hf=>?_))⟩)))
 · cases hf; exact M 2 Z (Y Z h)
 refine W 0 Z (CL Z (AC.Us 0 Z (GI ?_))); cases hf; exact N 2 Z (Y Z h)
end
section
variable [Jy]
theorem EA (s1:Str) (l5:List bE) {r0:Str} {r1:Int} (hf:vw s1 l5=some (r0,r1)) (h:Q (.ret (.tuple [.str r0,iP r1])) τ):PC 37 [.str s1,.list (List.map bE.cells l5)] τ Q:=by
 unfold vw at hf; refine BN 26 [.tmp 4,.tmp 5] [0,1] Tryz.func37 Z Z Z Z Z ?_; obtain ⟨cK,e1,h1,hf⟩:=dN hf; refine W 4 Z (CL Z (Jt _ _ h1 (J 8 Z (C hf Z (fun h2 hf=>?_) fun h2 hf=>?_))))
 · cases hf; exact M 3 Z (Y Z h)
 refine V 3 Z (C hf Z (fun h3 hf=>?_) fun h3 hf=>?_)
 · cases hf; exact M 2 Z (Y Z h)
 refine W 1 Z (AS Z (AO.bC Z Z Z Z bL Z (J 2 Z (C hf Z (fun h4 hf=>?_) fun h4 hf=>?_))))
 · cases hf; exact M 2 Z (Y Z h)
 cases hf; exact M 3 Z (Y Z h)
end
section
variable [Jy]
theorem zi (c1:bF) (C8:List bE) (tH:List b_) {r0:Str} {r1:Int} (hf:vB c1 C8 tH=some (r0,r1)) (h:Q (.ret (.tuple [.str r0,iP r1])) τ):PC 17 [.agg (l8 c1),.list (List.map bE.cells C8),.list (List.map b_.cells tH)] τ Q:=by
 unfold vB at hf; refine BN 26 [.tmp 6,.tmp 7] [0,1,2] Tryz.func17 Z Z Z Z Z ?_; obtain ⟨l5,e1,h1,hf⟩:=dN hf; refine W 6 Z (CL Z (Cj _ _ _ h1 (J 7 Z (C hf Z (fun h2 hf=>?_) fun h2 hf=>?_))))
 · cases hf; exact M 3 Z (Y Z h)
 replace hf:=(N7 _).trans hf; obtain ⟨x1,x2,h3,hf⟩:=dN hf; refine W 3 Z (CL Z (EA _ _ h3 ?_)); cases hf; exact N 4 Z (Y Z h)
end
section
variable [Jy]
theorem RP {r0:Bool} (hf:Bc=some r0) (h:Q (.ret (.bool r0)) τ):PC 11 [] τ Q:=by
 unfold Bc at hf; refine BN 46 [.tmp 0] [] Tryz.func11 Z Z Z Z Z ?_; obtain ⟨a1,e1,h1,hf⟩:=dN hf; refine W 2 rfl (CL rfl (zi _ _ _ h1 (U 8 rfl (AS rfl (AO.bS (List.map bE.cells [(bE.mk ([111,115]:Str) (av.mk 3 false 0 ([108,105,110,117,120]:Str) [] []))]) rfl FL rfl rfl rfl (by first | rfl | simp only [List.map,bE.aT]) ?_))))); obtain ⟨b1,f1,h2,hf⟩:=dN hf; refine CL Z (zi _ _ _ h2 ?_); obtain ⟨x1,g1,h3,hf⟩:=dN hf; refine U 6 Z (CL Z (zi _ _ _ h3 ?_))
 refine B1 hf fun x2 h4 hf=>U 6 Z (CL Z (I_ _ _ h4 ?_)); refine B1 hf fun x3 h5 hf=>CL Z (EK _ h5 ?_); refine B1 hf fun x4 h6 hf=>AS Z (AO.adq h6 Z Z Z (U 2 Z (An 3 30 33 [3,4,6] (e1 == 0) Z Z Z Z (U 1 Z (An 3 34 37 [4,6] (b1 == ([108,105,110,117,120,47,49]:Str)) Z Z Z Z (U 1 Z (An 3 38 41 [6] (f1 == 0) Z Z Z Z ?_))))))); refine U 1 Z (An 3 42 45 [] (g1 != 0) Z Z Z Z ?_); cases hf; exact N 1 Z (Y Z h)
end
section
variable [Jy]
theorem Ey (c1:bF) {r0:Bool} (hf:nN c1=some r0) (h:Q (.ret (.bool r0)) τ):PC 3 [.agg (l8 c1)] τ Q:=by
 unfold nN at hf; refine BN 17 [.tmp 2] [0] Tryz.func3 Z Z Z Z Z (V 2 Z (AW.draw 15 mixed (by kernel_rfl) Z ?_)); refine Ev.cs dh 1 Z (Ev.cons Z Z Z (AO.build Z ab8 aau Z zg) ?_); refine B1 hf fun x1 h1 hf=>Ev.cons Z Z Z (AO.call Z _ Z Z adY (VT _ h1 zg)) (Ev.cs dh 2 Z ?_); refine B1 hf fun b1 h3 hf=>Ev.dS hKA 6 7 13 false [] (.bool b1) Z Z (fun h2=>?_) (fun h2=>?_) ?_
 · replace h3:=jG h2 h3; refine Ev.is Vw 7 h2 Z (Ev.cs dh 1 Z ?_); refine B1 h3 fun x2 h4 h3=>Ev.run Z Z Z Z Z Z Z (AO.call Z _ Z Z acA (Bp _ h4 zg)) (Ev.cs dh 1 Z ?_); refine B1 h3 fun x3 h5 h3=>Ev.run Z Z Z Z Z Z Z (AO.call Z _ Z Z acU (Rk _ h5 zg)) (Ev.cs dh 1 Z ?_); cases h3; refine Ev.cs dh 1 Z ?_; exact Ev.nil (Less.settle (ps:=[13]) Z)
 · replace h3:=j_ h2 h3; refine Ev.is Vw 7 h2 Z ?_; cases h3; refine Ev.cs dh 6 Z ?_; exact Ev.nil (Less.settle (ps:=[13]) Z)
 refine Ev.cs dh 1 Z ?_; refine BR hf fun b2 h7 hf=>?_; refine Ev.dS hKA 2 14 16 true [] (.bool b2) Z Z (fun h6=>?_) (fun h6=>?_) ?_
 · replace h7:=j_ h6 h7; refine Ev.is Vw 14 h6 Z ?_; refine BR h7 fun x4 h8 h7=>?_; refine Ev.run Z Z Z Z Z Z Z (AO.call Z _ Z Z acT (RP  h8 zg)) ?_; cases h7; refine Ev.cs dh 1 Z ?_; exact Ev.nil (Less.settle (ps:=[16]) Z)
 · replace h7:=jG h6 h7; refine Ev.is Vw 14 h6 Z ?_; cases h7; refine Ev.cs dh 2 Z ?_; exact Ev.nil (Less.settle (ps:=[16]) Z)
 refine Ev.cs dh 1 Z (Ev.nil ?_); show AR _ _ _ _ _ _ _ _; cases hf; exact N 0 Z (Y Z h)
end
end Go.Proofs.YtljfgagpnpolhaaGreatDoor
