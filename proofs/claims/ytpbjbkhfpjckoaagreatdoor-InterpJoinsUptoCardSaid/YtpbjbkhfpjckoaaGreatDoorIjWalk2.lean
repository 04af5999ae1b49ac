/- Proved here: each function does what its functional text says (part 2). -/
import Derived.Test.YtpbjbkhfpjckoaaGreatDoorIjWalk1
set_option linter.unusedVariables false
set_option linter.unusedSimpArgs false
set_option linter.defProp false
set_option linter.unusedSectionVars false
namespace Go.Proofs.YtpbjbkhfpjckoaaGreatDoor
open Go Go.Abs Go.Ft
set_option maxRecDepth 20000
attribute [local irreducible] AO AR AW AC
variable [iD]
variable {τ : List bC} {Q : eP → List bC → Prop}
@[reducible] def Z8:eX aF ah→eP
 | .ok r=>.ret (.agg (aX r))
 | .bad e=>.panic (.iface 204 (.agg [iP e.code]))
theorem Tq(a1 b1:ah){rX:eX aF ah}(hf:ET a1 b1=some rX)(h:Q (Z8 rX) τ):PC 333 [.agg (aX a1),.agg (aX b1)] τ Q:=by
 unfold ET at hf;refine BN 57 [.cell 4 34] [0,1] Tryz.func333 Z Z Z Z Z (W 2 Z (AS Z (AO.aP Z iX (fun b4=>?_))));refine B1 hf fun x1 h1 hf=>U 2 Z (CL Z (rz _ _ _ h1 (J 1 Z (C hf Z (fun h2 hf=>?_) fun h2 hf=>?_))))
 ·rcases bM hf with⟨e1,h3,hf⟩|⟨x2,h3,hf⟩
  ·refine W 5 Z (CL Z (oD _ h3 ?_));cases hf;exact⟨Z,[],apZ _,h⟩
  refine W 5 Z (CL Z (oD _ h3 ?_));cases hf;exact Rx 1 [0] Z Z (ZC [0] Z Z h)
 refine B1 hf fun x3 h4 hf=>W 2 Z (CL Z (rz _ _ _ h4 (J 1 Z (C hf Z (fun h5 hf=>?_) fun h5 hf=>?_))))
 ·refine W 2 Z (AS Z (AO.eG Z Z Z Z fD Z (U 2 Z (AS Z (AO.eG Z Z Z Z fD Z ?_)))));rcases bM hf with⟨e2,h6,hf⟩|⟨_,h6,hf⟩
  ·refine U 2 Z (CL Z (bK _ _ h6 ?_));cases hf;exact⟨Z,[],apZ _,h⟩
  refine U 2 Z (CL Z (bK _ _ h6 ?_));refine B1 hf fun x4 h7 hf=>U 4 Z (AS Z (AO.o_ h7 Z Z Z ?_));refine B1 hf fun x5 h8 hf=>CL Z (uK _ h8 ?_);cases hf;exact Rx 1 [0] Z Z (ZC [0] Z Z h)
 refine B1 hf fun x6 h9 hf=>W 2 Z (CL Z (rz _ _ _ h9 ?_));rcases bM hf with⟨e3,h10,hf⟩|⟨_,h10,hf⟩
 ·refine CL Z (bK _ _ h10 ?_);cases hf;exact⟨Z,[],apZ _,h⟩
 refine CL Z (bK _ _ h10 (U 2 Z (AS Z (AO.bI (l:=a1.aN) Z Z Z Z jV Z (ah.aQ _) (U 2 Z (AS Z (AO.bI (l:=b1.aN) Z Z Z Z jV Z (ah.aQ _) ?_)))))));rcases bM hf with⟨e4,h11,hf⟩|⟨_,h11,hf⟩
 ·refine U 2 Z (CL Z (bK _ _ h11 ?_));cases hf;exact⟨Z,[],apZ _,h⟩
 refine U 2 Z (CL Z (bK _ _ h11 (U 4 Z (AR.row 6 34 ?_))));refine B1 hf fun l1 h12 hf=>AS Z (AO.jO (i:=0) (l:=[]) (m:=a1.aN) h12 Z Z Z Z Z Z Z Gl jV (show ([]:List (List PV))=List.map ah.cells []from Z) (ah.aQ _) (ah.aQ _).symm (ah.gG) (ah.cells_one) (by decide) (fun v1 s1 hs1=>?_));cases hs1;refine B1 hf fun x7 qp hf=>U 4 Z (AS Z (AO.jO (i:=0) (l:=l1) (m:=b1.aN) qp Z Z Z Z Z Z Z Gl jV (ah.aQ _) (ah.aQ _) (ah.aQ _).symm (ah.gG) (ah.cells_one) (by decide) (fun v2 s2 hs2=>?_)));cases hs2;refine B1 hf fun x8 oI hf=>CL Z (MI _ oI ?_);cases hf;exact Rx 1 [1] Z Z (ZC [1] Z Z h)
theorem Td(n1:Int){r0:BitVec 64}(hf:Il n1=some r0)(h:Q (.ret (.int .u64 (r0.toNat:Int))) τ):PC 418 [iP n1] τ Q:=by
 unfold Il at hf;refine BN 10 [.tmp 2] [0] Tryz.func418 Z Z Z Z Z (V 3 Z (C hf Z (fun h1 hf=>?_) fun h1 hf=>?_))
 ·refine W 1 Z (AS Z (AO.aeN Z Qq Qr Z (AS Z (AO.u64_neg (BitVec.ofInt 64 n1) Z Z Z ?_))));cases hf;exact N 1 Z (Y Z h)
 refine W 1 Z (AS Z (AO.aeN Z Qq Qr Z ?_));cases hf;exact N 1 Z (Y Z h)
theorem Te(a1 b1:Int){r0:jo}(hf:Bu a1 b1=some r0)(h:Q (.ret (.agg (OJ r0))) τ):PC 397 [iP a1,iP b1] τ Q:=by
 unfold Bu at hf;refine BN 71 [.cell 4 328] [0,1] Tryz.func397 Z Z Z Z Z (W 0 Z (AS Z (AO.aP Z Z5 (fun b4=>?_))));refine B1 hf fun x1 h1 hf=>U 1 Z (CL Z (Td _ h1 ?_));refine B1 hf fun y1 h2 hf=>U 1 Z (CL Z (Td _ h2 (U 3 Z (AS Z (AO.Lp x1 32 Z Z Z Z Z (U 1 Z (AS Z (AO.u64_and x1 (4294967295:BitVec 64) Z Z Z Z Z (U 1 Z (AS Z (AO.Lp y1 32 Z Z Z Z Z ?_)))))))))));refine U 1 Z (AS Z (AO.u64_and y1 (4294967295:BitVec 64) Z Z Z Z Z ?_));refine B1 hf fun JX h3 hf=>U 6 Z (AS Z (AO.Qs (x1 &&& (4294967295:BitVec 64)) (y1 &&& (4294967295:BitVec 64)) h3 Z Z Z Z Z ?_));refine B1 hf fun x2 h4 hf=>U 3 Z (AS Z (AO.Qs (x1 >>> 32) (y1 &&& (4294967295:BitVec 64)) h4 Z Z Z Z Z (U 1 Z (AS Z (AO.Lp JX 32 Z Z Z Z Z (AS Z (AO.Py x2 (JX >>> 32) Z Z Z Z Z ?_)))))));refine B1 hf fun x3 h5 hf=>U 3 Z (AS Z (AO.Qs (x1 &&& (4294967295:BitVec 64)) (y1 >>> 32) h5 Z Z Z Z Z ?_));refine B1 hf fun x4 h6 hf=>?_;refine U 1 Z (AS Z (AO.aeI (x2+(JX >>> 32)) (4294967295:BitVec 64) h6 Z Z Z Z Z (AS Z (AO.Py x3 x4 Z Z Z Z Z (U 3 Z (AS Z (AO.abK (x1 >>> 32) (y1 >>> 32) Z Z Z Z Z (U 1 Z (AS Z (AO.Lp (x2+(JX >>> 32)) 32 Z Z Z Z Z ?_))))))))));refine B1 hf fun x5 h7 hf=>AS Z (AO.aeJ ((x1 >>> 32)*(y1 >>> 32)) ((x2+(JX >>> 32)) >>> 32) h7 Z Z Z Z Z (U 1 Z (AS Z (AO.Lp (x3+x4) 32 Z Z Z Z Z (AS Z (AO.Py x5 ((x3+x4) >>> 32) Z Z Z Z Z (U 1 Z (AS Z (AO.ahs (x3+x4) 32 Z Z Z Z Z ?_)))))))));refine U 1 Z (AS Z (AO.u64_and JX (4294967295:BitVec 64) Z Z Z Z Z ?_));refine B1 hf fun x6 h8 hf=>AS Z (AO.aht ((x3+x4) <<< 32) (JX &&& (4294967295:BitVec 64)) h8 Z Z Z Z Z (AS Z (AO.Ob Z aeo K9 Z (U 1 Z (AS Z (AO.aP Z Z5 (fun b14=>(Rr 5 [0] Z Z (AS Z (AO.agP Z alx Z Z ?_))))))))));refine U 1 Z (AR.and 5 63 68 [4,14] (x:=(!decide (([((x5+((x3+x4) >>> 32)).toNat:Int),(x6.toNat:Int)]:List Int)=([0,0]:List Int)))) Z Z (fun h9=>?_) (fun h9=>?_) ?_)
 ·refine Is 63 h9 Z (U 1 Z (GO Z (AO.dh (i:=0) Z Z Z ajN Z Z (GO Z (AO.Ob Z aeo K9 Z (GO Z (AO.afN ([((x5+((x3+x4) >>> 32)).toNat:Int),(x6.toNat:Int)]:List Int) ([0,0]:List Int) Z ajJ Qr akW akV akR Z Z Z Z Z Z (abF [(x5+((x3+x4) >>> 32)),x6]) (abF [(0:BitVec 64),(0:BitVec 64)]) ?_)))))));exact gy 1 Z (En [68,4,14] Z)
 ·refine Is 63 h9 Z ?_;exact gy 5 Z (En [68,4,14] Z)
 cases hf;exact Rx 4 [0,0,1] Z Z (ZC [1] Z Z h)
theorem Jc(p1:jo){r0:Int}{r1:Bool}(hf:rH p1=some (r0,r1))(h:Q (.ret (.tuple [iP r0,.bool r1])) τ):PC 398 [.agg (OJ p1)] τ Q:=by
 unfold rH at hf;refine BN 37 [.tmp 2,.tmp 3] [0] Tryz.func398 Z Z Z Z Z (W 4 Z (AS Z (AO.uq (sz:=1) 0 Z K9 Z Z (by decide) Z ?_)));refine J 3 Z (C hf Z (fun h1 hf=>?_) fun h1 hf=>?_)
 ·cases hf;exact M 2 Z (Y Z h)
 refine W 3 Z (AR.and 5 12 17 [1] (x:=(decide (((p1.half.getD 1 0).toNat:Int)≤9223372036854775808))) Z Z (fun h2=>?_) (fun h2=>?_) ?_)
 ·refine Is 12 h2 Z (U 1 Z (GO Z (AO.uq (sz:=1) 1 Z K9 Z Z (by decide) Z ?_)));exact gy 3 Z (En [17,1] Z)
 ·refine Is 12 h2 Z ?_;exact gy 5 Z (En [17,1] Z)
 refine J 1 Z (C hf Z (fun h3 hf=>?_) fun h3 hf=>?_)
 ·refine W 1 Z (AS Z (AO.uq (sz:=1) 1 Z K9 Z Z (by decide) Z ?_));refine U 1 Z (AS Z (AO.u64_neg (p1.half.getD 1 0) Z Z Z (AS Z (AO.IX Z Qr Qq Z ?_))));cases hf;exact N 2 Z (Y Z h)
 refine W 4 Z (AR.and 5 27 32 [1] (x:=(decide (((p1.half.getD 1 0).toNat:Int)≤9223372036854775807))) Z Z (fun h4=>?_) (fun h4=>?_) ?_)
 ·refine Is 27 h4 Z (U 1 Z (GO Z (AO.uq (sz:=1) 1 Z K9 Z Z (by decide) Z ?_)));exact gy 3 Z (En [32,1] Z)
 ·refine Is 27 h4 Z ?_;exact gy 5 Z (En [32,1] Z)
 refine J 1 Z (C hf Z (fun h5 hf=>?_) fun h5 hf=>?_)
 ·refine W 1 Z (AS Z (AO.uq (sz:=1) 1 Z K9 Z Z (by decide) Z ?_));refine U 1 Z (AS Z (AO.IX Z Qr Qq Z ?_));cases hf;exact N 2 Z (Y Z h)
 cases hf;exact M 2 Z (Y Z h)
theorem ad8(aib:Bool){r0:Int}(hf:WW aib=some r0)(h:Q (.ret (iP r0)) τ):PC 399 [.bool aib] τ Q:=by
 unfold WW at hf;refine BN 4 [.tmp 2] [0] Tryz.func399 Z Z Z Z Z (V 2 Z (C hf Z (fun h1 hf=>?_) fun h1 hf=>?_))
 ·cases hf;exact M 1 Z (Y Z h)
 cases hf;exact M 1 Z (Y Z h)
theorem ad9(a1 b1:Int){r0:Int}(hf:L8 a1 b1=some r0)(h:Q (.ret (iP r0)) τ):PC 369 [iP a1,iP b1] τ Q:=by
 unfold L8 at hf;refine BN 21 [.tmp 4] [0,1] Tryz.func369 Z Z Z Z Z ?_;refine B1 hf fun x1 h1 hf=>W 3 Z (CL Z (Te _ _ h1 (AS Z (AO.aP Z Z5 (fun b5=>?_)))));obtain⟨n1,ok1,h2,hf⟩:=dD hf;refine Rr 2 [0,0] Z Z (CL Z (Jc _ h2 (J 6 Z (C hf Z (fun h3 hf=>?_) fun h3 hf=>?_))))
 ·cases hf;exact M 2 Z (Y Z h)
 refine BR hf fun x2 h4 hf=>?_;refine Wr 2 [0] Z Z (CL Z (ad8 _ h4 ?_));cases hf;exact N 1 Z (Y Z h)
@[reducible] def Lf:eX aF ah→eP
 | .ok r=>.ret (.agg (aX r))
 | .bad e=>.panic (.iface 204 (.agg [iP e.code]))
theorem D_(op1:Str)(a1 b1:ah){rX:eX aF ah}(hf:pI op1 a1 b1=some rX)(h:Q (Lf rX) τ):PC 334 [.str op1,.agg (aX a1),.agg (aX b1)] τ Q:=by
 unfold pI at hf;refine BN 46 [.cell 6 34] [0,1,2] Tryz.func334 Z Z Z Z Z (W 2 Z (AS Z (AO.aP Z iX (fun b6=>?_))));refine B1 hf fun x1 h1 hf=>U 2 Z (CL Z (rz _ _ _ h1 ?_));rcases bM hf with⟨e1,h2,hf⟩|⟨_,h2,hf⟩
 ·refine CL Z (bK _ _ h2 ?_);cases hf;exact⟨Z,[],apZ _,h⟩
 refine CL Z (bK _ _ h2 (J 3 Z (C hf Z (fun h3 hf=>?_) fun h3 hf=>?_)))
 ·rcases bM hf with⟨e2,h4,hf⟩|⟨x2,h4,hf⟩
  ·refine W 5 Z (CL Z (oD _ h4 ?_));cases hf;exact⟨Z,[],apZ _,h⟩
  refine W 5 Z (CL Z (oD _ h4 ?_));cases hf;exact Rx 1 [0] Z Z (ZC [0] Z Z h)
 refine V 2 Z (C hf Z (fun h5 hf=>?_) fun h5 hf=>?_)
 ·refine B1 hf fun x3 h6 hf=>W 4 Z (CL Z (ad9 _ _ h6 ?_));rcases bM hf with⟨e3,h7,hf⟩|⟨x4,h7,hf⟩
  ·refine CL Z (oD _ h7 ?_);cases hf;exact⟨Z,[],apZ _,h⟩
  refine CL Z (oD _ h7 ?_);cases hf;exact Rx 1 [0] Z Z (ZC [0] Z Z h)
 rcases bM hf with⟨e4,h8,hf⟩|⟨_,h8,hf⟩
 ·refine W 3 Z (CL Z (bK _ _ h8 ?_));cases hf;exact⟨Z,[],apZ _,h⟩
 refine W 3 Z (CL Z (bK _ _ h8 (J 2 Z (C hf Z (fun h9 hf=>?_) fun h9 hf=>?_))))
 ·refine B1 hf fun _ h10 hf=>W 4 Z (AS Z (AO.amZ h10 Z Z Z ?_));rcases bM hf with⟨e5,h11,hf⟩|⟨x5,h11,hf⟩
  ·refine CL Z (oD _ h11 ?_);cases hf;exact⟨Z,[],apZ _,h⟩
  refine CL Z (oD _ h11 ?_);cases hf;exact Rx 1 [0] Z Z (ZC [0] Z Z h)
 refine B1 hf fun _ h12 hf=>W 4 Z (AS Z (AO.amY h12 Z Z Z ?_));refine B1 hf fun x6 qp hf=>CL Z (uL _ qp ?_);cases hf;exact Rx 1 [0] Z Z (ZC [0] Z Z h)
theorem SQ(v1:ah){r0:Int}(hf:xM v1=some r0)(h:Q (.ret (iP r0)) τ):PC 400 [.agg (aX v1)] τ Q:=by
 unfold xM at hf;refine AC.none (AC.J9 30 [.tmp 2] [0] Tryz.func400 Z Z Z Z Z ?_);obtain⟨b1,s1,h1,hf⟩:=dD hf;cases hf;refine AW.sr (AR.step Z Z Z (AO.Gc Z Z Z (cs 1 Z (AR.nil [1] Z ?_))));refine AW.sr (AR.step Z Z Z (AO.aP Z alj (fun b3=>(AR.dx Z Z (AO.eU (i:=0) Z Z Z Cv Z Z Z Z Z (AR.nil [1,3] Z ?_))))));refine AW.seq (AW.sr (cs 1 Z (AR.step Z Z Z (AO.call Z _ Z Z afv (Kg _ _ ?_)))));refine AR.nil [3,7] Z (AW.block (AW.rangeFunc (β:=Int) (X:=Int × ah) Z afr (fun x=>[iP x.1,.agg (aX x.2)]) (fun _=>Z) (by decide) (fun s x=>iH s x.1 x.2) (fun s=>[.box b3 [iP s]]) (fun _=>none) (s0:=0) (s1:=r0) Z Z ?_ ?_ ?_))
 ·intro l T' hy;refine Gv l T' iH (fun s1 b_ v1 b s2 hh=>hy s1 (b_,v1) b s2 hh) 0 v1 1 h1 ⟨⟨_,Z⟩,Z⟩
 ·rintro l s ⟨b_,x1⟩ b s2 hh;unfold iH at hh;refine⟨Z,?_⟩;cases hh;refine qA.seq (qA.region Z (cs 1 Z (AR.nil [3,4,9] Z ?_)));refine qA.region Z (AR.step Z Z Z (AO.aP Z iX (fun b5=>(AR.dx Z Z (AO.eU (i:=0) Z Z Z tQ Z Z Z Z Z (AR.nil [3,4,5] Z ?_))))));refine⟨Z,(qA.block (qA.seq (qA.seq ?_)))⟩;refine qA.region Z (cs 1 Z (AR.step Z Z Z (AO.dh (i:=0) Z Z Z Cv Z Z (cs 2 Z ?_))));refine AR.or 4 13 17 [3,4,5] (x:=(x1.kind==5)) Z Z (fun h2=>?_) (fun h2=>?_) ?_
  ·refine AR.is 13 h2 Z (cs 1 Z (AR.go Z Z Z Z Z Z (AO.dh (i:=0) Z Z Z Cv Z Z (cs 2 Z ?_))));refine AR.nil [17,3,4,5] Z ?_;exact⟨Z,Z,Z,Z⟩
  ·refine AR.is 13 h2 Z (cs 4 Z (AR.nil [17,3,4,5] Z ?_));exact⟨Z,Z,Z,Z⟩
  refine cs 1 Z (AR.and 5 18 23 [3,4,5] (x:=((x1.aN.length:Int)==0)) Z Z (fun h2=>?_) (fun h2=>?_) ?_)
  ·refine AR.is 18 h2 Z (cs 1 Z (AR.go Z Z Z Z Z Z (AO.dh (i:=0) Z Z Z Ye Z Z (AR.go Z Z Z Z Z Z (AO.bI (l:=x1.aN) Z Z Z Z jV Z (ah.aQ _) ?_)))));refine cs 2 Z (AR.nil [23,3,4,5] Z ?_);exact⟨Z,Z,Z,Z⟩
  ·refine AR.is 18 h2 Z (cs 5 Z (AR.nil [23,3,4,5] Z ?_));exact⟨Z,Z,Z,Z⟩
  refine AR.nil [3,4,23] Z (qA.cond Z (fun h3=>?_) (fun h3=>?_))
  ·rw[show rY b_ x1=bV (b_+1)from if_pos h3];refine qA.region Z (cs 3 Z (AR.nil [3,4] Z (qA.region Z ?_)));refine AR.step Z Z Z (AO.dh (i:=1) Z Z Z Cv Z Z (cs 1 Z (AR.step Z Z Z (AO.max2 Z Z Z Z Z (AR.dx Z Z (AO.eU (i:=1) Z Z Z Cv Z Z Z Z Z ?_))))));refine AR.nil [] Z ?_;exact⟨Z,.cons _ (List.Sublist.refl _),Z,Z⟩
  rw[show rY b_ x1=b_ from if_neg (by rw[h3];simp)];refine qA.skip (qA.region Z (AR.step Z Z Z (AO.dh (i:=1) Z Z Z Cv Z Z (cs 1 Z ?_))));refine AR.step Z Z Z (AO.max2 Z Z Z Z Z (AR.dx Z Z (AO.eU (i:=1) Z Z Z Cv Z Z Z Z Z (AR.nil [] Z ?_))));exact⟨Z,.cons _ (List.Sublist.refl _),Z,Z⟩
 intro D;show AW _ _ _ _ _ _ _;refine AW.sr (AR.step Z Z Z (AO.dh (i:=0) Z Z Z Cv Z Z (cs 1 Z (AR.nil [2] Z ?_))));refine AW.ret ?_;exact⟨D,[_],Z,Z,_,⟨_,_,Z,Z,Z⟩,[],apZ _,h⟩
theorem Pj(y1 c1:aB){r0:Bool}(hf:mO y1 c1=some r0)(h:Q (.ret (.bool r0)) τ):PC 402 [.agg (FQ y1),.ref (FQ c1)] τ Q:=by
 unfold mO at hf;refine BN 9 [.tmp 3] [0,1] Tryz.func402 Z Z Z Z Z ?_;cases hf;exact M 8 Z (Y Z h)
theorem vK(s1:List aB)(f1:aB→Option Bool)(Xk:FuncId)(f1C:List PV)(f1P:bN Tryz.prog Xk=true)(f1H:∀a0 b0,f1 a0=some b0→∀ {τ:List bC} {Q:eP→List bC→Prop},Q (.ret (.bool b0)) τ→PC Xk ([.agg (FQ a0)]++f1C) τ Q){r0:Int}(hf:jl s1 f1=some r0)(h:Q (.ret (iP r0)) τ):PC 419 [.list (List.map aB.cells s1),.fn Xk f1C] τ Q:=by
 unfold jl at hf;refine BN 19 [.tmp 4] [0,1] Tryz.func419 Z Z Z Z Z (W 2 Z (AS Z (AO.bI (l:=s1) Z Z Z Z C8 Z Z (J 1 Z (XK (fun i1=>[(0,.list (List.map aB.cells s1)),(1,.fn Xk f1C),(7,iP (s1.length:Int)),(8,iP i1)]) (fun i1=>[]) (fun dL i1=>gL s1 f1 dL i1=some r0) BIG 0 Z Z hf (fun _ hz=>dH hz) ?_)))));intro dL i1 hf;rw[gL]at hf;refine V 1 Z (C hf Z (fun h1 hf=>?_) fun h1 hf=>?_)
 ·refine B1 hf fun e1 h2 hf=>W 5 Z (AS Z (AO.bQ h2 Z Z Z Z C8 (aB.aV _) Z ?_));refine B1 hf fun x1 h3 hf=>U 1 Z (AS Z (AO.call Z _ Z Z f1P (f1H _ _ h3 (J 0 Z (C hf Z (fun h4 hf=>?_) fun h4 hf=>?_)))))
  ·cases hf;exact M 2 Z (Y Z h)
  exact M 2 Z ⟨(bV (i1+1)),Z,Z,Z,hf⟩
 cases hf;exact M 1 Z (Y Z h)
theorem tu(s1:List aB)(f1:aB→Option Bool)(Xk:FuncId)(f1C:List PV)(f1P:bN Tryz.prog Xk=true)(f1H:∀a0 b0,f1 a0=some b0→∀ {τ:List bC} {Q:eP→List bC→Prop},Q (.ret (.bool b0)) τ→PC Xk ([.agg (FQ a0)]++f1C) τ Q){r0:Bool}(hf:gM s1 f1=some r0)(h:Q (.ret (.bool r0)) τ):PC 401 [.list (List.map aB.cells s1),.fn Xk f1C] τ Q:=by
 unfold gM at hf;refine BN 9 [.tmp 4] [0,1] Tryz.func401 Z Z Z Z Z ?_;refine B1 hf fun x1 h1 hf=>W 3 Z (CL Z (vK _ f1 Xk f1C f1P @f1H h1 ?_));cases hf;exact N 2 Z (Y Z h)
theorem Ur(gu:List aB)(i1:Int){r0:Int}(hf:zZ gu i1=some r0)(h:Q (.ret (iP r0)) τ):PC 370 [.list (List.map aB.cells gu),iP i1] τ Q:=by
 unfold zZ at hf;refine BN 36 [.tmp 4] [0,1] Tryz.func370 Z Z Z Z Z ?_;refine B1 hf fun e1 h1 hf=>W 3 Z (AS Z (AO.bQ h1 Z Z Z Z C8 (aB.aV _) Z (U 1 Z (AS Z (AO.aP Z XR (fun b5=>(Rr 3 [0,0] Z Z (AS Z (AO.eG Z Z Z Z fD Z (U 2 Z (AR.or 5 15 20 [0,1,5] (x:=(decide (64<(e1.name.length:Int)))) Z Z (fun h2=>?_) (fun h2=>?_) ?_)))))))))))
 ·refine Is 15 h2 Z (U 1 Z (GO Z (AO.dh (i:=0) Z Z Z ac0 Z Z (GO Z (AO.eG Z Z Z Z fD Z ?_)))));exact gy 2 Z (En [20,0,1,5] Z)
 ·refine Is 15 h2 Z ?_;exact gy 5 Z (En [20,0,1,5] Z)
 refine J 0 Z (C hf Z (fun h3 hf=>?_) fun h3 hf=>?_)
 ·cases hf;exact M 1 Z (Y Z h)
 refine B1 hf fun e2 h4 hf=>Wr 2 [0] Z Z (CL Z (oC _ h4 (J 3 Z (C hf Z (fun h5 hf=>?_) fun h5 hf=>?_))))
 ·cases hf;exact M 2 Z (Y Z h)
 refine B1 hf fun x1 h6 hf=>Wr 2 [0] Z Z (CL Z (SQ _ h6 (J 1 Z (C hf Z (fun h7 hf=>?_) fun h7 hf=>?_))))
 ·cases hf;exact M 1 Z (Y Z h)
 refine B1 hf fun x2 h8 hf=>W 2 Z (AS Z (AO.ahK h8 Z C8 Z Z Z (aB.gG) Z ⟨_,Z⟩ (AR.abM 5 0 Z Z Z Z ?_)));refine B1 hf fun x3 h9 hf=>U 1 Z (CL Z (tu _ (fun z0=>mO z0 e1) 402 [.ref (FQ e1)] ajX (fun _ _ hz=>Pj _ _ hz) h9 (J 0 Z (C hf Z (fun h10 hf=>?_) fun h10 hf=>?_))))
 ·cases hf;exact M 1 Z (Y Z h)
 cases hf;exact M 1 Z (Y Z h)
theorem MC(s1:List aB){r0:List aB}(hf:gD s1=some r0)(h:Q (.ret (.list (List.map aB.cells r0))) τ):PC 371 [.list (List.map aB.cells s1)] τ Q:=by
 unfold gD at hf;refine BN 8 [.tmp 2] [0] Tryz.func371 Z Z Z Z Z (W 0 Z (AS Z (AO.jv Z Z (U 1 Z (AS Z (AO.BL Z Z aiV (fun b hb=>(J 0 Z (AW.cond Z (fun h1=>?_) (fun h1=>?_))))))))))
 ·obtain rfl:s1=[]:=ap3.1 (hb h1);obtain⟨_,rfl⟩:=qW hf;refine W 0 Z (AS Z (AO.jv Z Z ?_));exact N 0 rfl ⟨rfl,_,⟨_,_,rfl,rfl,rfl⟩,_,List.Sublist.refl _,h⟩
 refine W 0 Z (AS Z (AO.wL [] Z QG Z Z Z Z Z (fun v1=>(U 1 Z (AS Z (AO.jO (i:=0) (l:=[]) (m:=s1) hf Z Z Z Z Z Z Z QG C8 Z Z Z (aB.gG) (aB.cells_one) (by decide) (fun v2 s2 hs2=>?_)))))));cases hs2;exact N 1 Z (Y Z h)
theorem vL(s1:List aB){r0:List aB}(hf:gD s1=some r0){Q:eP→List bC→Prop}(h:∀v,Q (.ret (.val v)) [.buf v r0.length 7 60 (r0.flatMap aB.cells)]):PC 371 [.list (List.map aB.cells s1)] [] Q:=by
 unfold gD at hf;obtain⟨hl,e0⟩:=qW hf;rw[List.nil_append]at e0;subst e0;simp only[List.length_nil,Nat.zero_add]at hl;have hlen:∀x:aB,(aB.cells x).length=7:=fun _=>Z;have hone:∀x:aB,(aB.cells x).all PV.one=true:=fun _=>Z;refine AC.mD 8 [.tmp 2] [0] Tryz.func371 Z Z Z Z Z (AW.sr (AR.step Z Z Z (AO.jv Z Z (AR.nil [0] Z ?_))));refine AW.seq (AW.sr (cs 1 Z (AR.step Z Z Z (AO.BL Z Z aiV (fun b hb=>?_)))));refine AR.nil [0,4] Z (AW.cond Z (fun h1=>?_) (fun h1=>?_))
 ·obtain rfl:r0=[]:=ap3.1 (hb h1);refine AW.sr (AR.step Z Z Z (AO.LZ Z Z (AR.nil [2] Z (AW.akX 7 60 ?_))));refine AW.ret ?_;exact⟨rfl,_,⟨_,_,rfl,rfl,rfl⟩,_,List.Sublist.refl _,h _⟩
 refine AW.skip (AW.sr (AR.step Z Z Z (AO.wL [] Z QG Z Z Z Z Z (fun v1=>(cs 1 Z ?_)))));refine AR.step Z Z Z (AO.TH (i:=0) (l2:=List.map aB.cells r0) Z Z Z Z Z Z Z QG C8 (fun y hy=>?_) (fun y hy=>?_) ?_ ?_ (fun v2 s1 hs1=>?_))
 ·obtain⟨s,_,rfl⟩:=ao4.1 hy;exact hlen s
 ·obtain⟨s,_,rfl⟩:=ao4.1 hy;exact hone s
 ·rw[ap1];unfold sI at hl;unfold maxLen;omega
 ·rw[ap1];unfold sI at hl;omega
 cases hs1;refine cs 1 Z (AR.nil [2] Z (AW.ret ?_));have hv:=h v2;rw[List.flatMap_def,show r0.length=(List.map aB.cells r0).length from (ap1 _).symm]at hv;exact⟨rfl,_,⟨_,_,rfl,rfl,rfl⟩,_,List.Sublist.refl _,hv⟩
theorem Us(a1 b1:aB){r0:Int}(hf:Oo a1 b1=some r0){τ:List bC}{Q:eP→List bC→Prop}(h:Q (.ret (iP r0)) τ):PC 373 [.agg (FQ a1),.agg (FQ b1)] τ Q:=by
 unfold Oo at hf;refine BN 10 [.tmp 4] [0,1] Tryz.func373 Z Z Z Z Z ?_;refine BR hf fun x1 h1 hf=>?_;refine W 7 Z (CL Z (wK _ _ h1 ?_));cases hf;exact N 1 Z (Y Z h)
def Hw:Go.Shelf.Ren:=⟨fun|6=>372|15=>216|14=>403|28=>296|29=>297|20=>420|21=>421|22=>422|23=>423|24=>424|25=>425|26=>426|27=>427|46=>438|47=>340|48=>341|49=>439|50=>440|57=>444|n=>n,fun|22=>43|24=>60|25=>309|3=>3|39=>218|0=>0|53=>269|55=>271|4=>4|46=>263|45=>262|50=>239|5=>5|9=>9|66=>287|70=>291|76=>318|77=>319|n=>n,fun|n=>n⟩
theorem M5:Go.Proofs.SlLaysF0.n6 Tryz.prog Hw:={
 mixed:=by kernel_rfl
 f6:=⟨Tryz.f372.name,by decide,Tryz.func372.trans (ap0 some (by kernel_rfl))⟩
 f14:=⟨Tryz.f403.name,by decide,Tryz.func403.trans (ap0 some (by kernel_rfl))⟩
 f15:=Tryz.func216.trans (ap0 some (by kernel_rfl))
 f20:=⟨Tryz.f420.name,by decide,Tryz.func420.trans (ap0 some (by kernel_rfl))⟩
 f21:=⟨Tryz.f421.name,by decide,Tryz.func421.trans (ap0 some (by kernel_rfl))⟩
 f22:=⟨Tryz.f422.name,by decide,Tryz.func422.trans (ap0 some (by kernel_rfl))⟩
 f23:=⟨Tryz.f423.name,by decide,Tryz.func423.trans (ap0 some (by kernel_rfl))⟩
 f24:=⟨Tryz.f424.name,by decide,Tryz.func424.trans (ap0 some (by kernel_rfl))⟩
 f25:=⟨Tryz.f425.name,by decide,Tryz.func425.trans (ap0 some (by kernel_rfl))⟩
 f26:=⟨Tryz.f426.name,by decide,Tryz.func426.trans (ap0 some (by kernel_rfl))⟩
 f27:=⟨Tryz.f427.name,by decide,Tryz.func427.trans (ap0 some (by kernel_rfl))⟩
 f28:=Tryz.func296.trans (ap0 some (by kernel_rfl))
 f29:=Tryz.func297.trans (ap0 some (by kernel_rfl))
 f46:=⟨Tryz.f438.name,by decide,Tryz.func438.trans (ap0 some (by kernel_rfl))⟩
 f47:=Tryz.func340.trans (ap0 some (by kernel_rfl))
 f48:=Tryz.func341.trans (ap0 some (by kernel_rfl))
 f49:=⟨Tryz.f439.name,by decide,Tryz.func439.trans (ap0 some (by kernel_rfl))⟩
 f50:=⟨Tryz.f440.name,by decide,Tryz.func440.trans (ap0 some (by kernel_rfl))⟩
 f57:=⟨Tryz.f444.name,by decide,Tryz.func444.trans (ap0 some (by kernel_rfl))⟩
 t0:=Tryz.underlying0
 a0:=Tryz.isAgg0
 z0:=Tryz.sizeOf0
 v0:=Tryz.zeroValue0
 t3:=Tryz.underlying3
 a3:=Tryz.isAgg3
 z3:=Tryz.sizeOf3
 v3:=Tryz.zeroValue3
 t4:=Tryz.underlying4
 a4:=Tryz.isAgg4
 z4:=Tryz.sizeOf4
 v4:=Tryz.zeroValue4
 t5:=Tryz.underlying5
 a5:=Tryz.isAgg5
 z5:=Tryz.sizeOf5
 v5:=Tryz.zeroValue5
 t9:=Tryz.underlying9
 a9:=Tryz.isAgg9
 z9:=Tryz.sizeOf9
 v9:=Tryz.zeroValue9
 t22:=Tryz.underlying43
 a22:=Tryz.isAgg43
 z22:=Tryz.sizeOf43
 v22:=Tryz.zeroValue43
 t25:=Tryz.underlying309
 a25:=Tryz.isAgg309
 z25:=Tryz.sizeOf309
 v25:=Tryz.zeroValue309
 t39:=Tryz.underlying218
 a39:=Tryz.isAgg218
 z39:=Tryz.sizeOf218
 v39:=Tryz.zeroValue218
 t45:=Tryz.underlying262
 a45:=Tryz.isAgg262
 z45:=Tryz.sizeOf262
 v45:=Tryz.zeroValue262
 t46:=Tryz.underlying263
 a46:=Tryz.isAgg263
 z46:=Tryz.sizeOf263
 v46:=Tryz.zeroValue263
 t50:=Tryz.underlying239
 a50:=Tryz.isAgg239
 z50:=Tryz.sizeOf239
 v50:=Tryz.zeroValue239
 t53:=Tryz.underlying269
 a53:=Tryz.isAgg269
 z53:=Tryz.sizeOf269
 v53:=Tryz.zeroValue269
 t55:=Tryz.underlying271
 a55:=Tryz.isAgg271
 z55:=Tryz.sizeOf271
 v55:=Tryz.zeroValue271
 t66:=Tryz.underlying287
 a66:=Tryz.isAgg287
 z66:=Tryz.sizeOf287
 v66:=Tryz.zeroValue287
 t70:=Tryz.underlying291
 a70:=Tryz.isAgg291
 z70:=Tryz.sizeOf291
 v70:=Tryz.zeroValue291
 t76:=Tryz.underlying318
 a76:=Tryz.isAgg318
 z76:=Tryz.sizeOf318
 v76:=Tryz.zeroValue318
 t77:=Tryz.underlying319
 a77:=Tryz.isAgg319
 z77:=Tryz.sizeOf319
 v77:=Tryz.zeroValue319}
theorem K5(s1:List aB){r0:List aB}(hf:U8 (fun x=>x.name) s1=some r0){v:Value}{e:TypeId}{Q:eP→List bC→Prop}(h:Q (.ret (.tuple [])) [.buf v (List.map aB.cells r0).length 7 e (r0.flatMap aB.cells)]):
  PC 372 [.val v,.fn 373 []] [.buf v s1.length 7 e (s1.flatMap aB.cells)] Q:=by
 unfold U8 at hf;split at hf
 case isFalse=>cases hf
 rename_i hg;obtain⟨h1,h2,h3⟩:=hg;cases hf;rw[ap1]at h
 exact AC.ac4 M5 aB.cells (k:=7) (by decide) (fun _=>Z) (fun _=>Z) amC alk aj0 (cf:=fun a b=>gI a.name b.name)
  (fun a b ha hb=>@Us Mk a b _ (JC (h2 a ha) (h2 b hb)) _ _ Z) (fun x hx=>by rw[OI]at hx;omega) (fun x y z a b=>Bv a b) (fun x y z a b=>Es a b)
  (by
   rw[List.Nodup,List.pairwise_map]at h3;refine h3.imp fun {x y} hne=>?_;rcases Int.lt_trichotomy (gI x.name y.name) 0 with h|h|h
   ·exact .inl h
   ·exact absurd (xB h) hne
   ·right;rw[rJ];omega)
  (by unfold sI at h1;omega) h
theorem Zw(gu:List aB){r0:ah}{r1:Int}(hf:B_ gu=some (r0,r1))(h:Q (.ret (.tuple [.agg (aX r0),iP r1])) τ):PC 335 [.list (List.map aB.cells gu)] τ Q:=by
 unfold B_ at hf;refine BN 55 [.cell 2 34,.tmp 3] [0] Tryz.func335 Z Z Z Z Z (W 0 Z (AS Z (AO.aP Z iX (fun b2=>(U 2 Z (AS Z (AO.bI (l:=gu) Z Z Z Z C8 Z Z (J 1 Z (C hf Z (fun h1 hf=>?_) fun h1 hf=>?_)))))))))
 ·cases hf;exact Wx 3 [0] Z Z (ZC [0] Z Z h)
 refine W 1 Z (AS Z (AO.bI (l:=gu) Z Z Z Z C8 Z Z (J 1 Z (XK (fun i1=>[(0,.list (List.map aB.cells gu)),(2,pP b2),(15,iP (gu.length:Int)),(16,iP i1)]) (fun i1=>[.box b2 [iP 0,.bool false,iP 0,.str ([]:Str),.own (.slice none 0 0) [],.own (.slice none 0 0) []]]) (fun dL i1=>uS gu dL i1=some (r0,r1)) BIG 0 Z Z hf (fun _ hz=>dH hz) ?_))));intro dL i1 hf;rw[uS]at hf;refine V 1 Z (C hf Z (fun h2 hf=>?_) fun h2 hf=>?_)
 ·refine B1 hf fun e1 h3 hf=>W 4 Z (CL Z (Ur _ _ h3 (J 3 Z (C hf Z (fun h4 hf=>?_) fun h4 hf=>?_))))
  ·cases hf;exact Wx 4 [0] Z Z (ZC [0] Z Z h)
  exact M 2 Z ⟨(bV (i1+1)),Z,Z,Z,hf⟩
 refine B1 hf fun PE h5 hf=>W 1 Z (CL Z (AC.none (vL _ h5 (fun v1=>?_))));refine B1 hf fun sO h6 hf=>U 2 rfl (CL rfl (AC.one 0 rfl (K5 _ h6 ⟨_,rfl,(AR.freeze 6 0 (List.map aB.cells sO) rfl rfl rfl (fun x hx=>by obtain⟨s,_,rfl⟩:=ao4.1 hx;rfl) Z ?_)⟩)));refine U 1 Z (AS Z (AO.aP Z iX (fun b7=>(Rr 2 [0] Z Z (AS Z (AO.bI (l:=sO) Z Z Z Z C8 Z Z ?_))))));refine J 1 Z (AW.row 6 34 (AW.row 1 9 (LK4 (fun x1 bD v2 v3=>[(2,pP b2),(7,pP b7),(32,.own v1 (List.map aB.cells sO)),(33,iP (sO.length:Int)),(34,iP x1)]) (fun x1 bD v2 v3=>[.row v3 (List.map lH bD.keys).length 1 9,.row v2 (ah.bO bD.aN).length 6 34,.box b7 [iP bD.kind,.bool bD.dR,iP bD.dA,.str bD.bR,.own v2 (ah.bO bD.aN),.own v3 (List.map lH bD.keys)],.row v1 (List.map aB.cells sO).length 7 60,.box b2 [iP 0,.bool false,iP 0,.str ([]:Str),.own (.slice none 0 0) [],.own (.slice none 0 0) []]]) (fun Y0 x1 bD v2 v3=>uR sO Y0 x1 bD=some (r0,r1)) BIG 0 (ah.mk 5 false 0 ([]:Str) [] []) (.slice none 0 0) (.slice none 0 0) Z Z hf (fun _ _ _ _ hz=>dH hz) ?_)));intro Y0 x1 bD v2 v3 hf;rw[uR]at hf;refine V 1 Z (C hf Z (fun h7 hf=>?_) fun h7 hf=>?_)
 ·refine B1 hf fun e2 h8 hf=>W 0 Z (AS Z (AO.bQ h8 Z Z Z Z C8 (aB.aV _) Z (U 1 Z (AS Z (AO.aP Z XR (fun b9=>(Rr 5 [0,3,0] Z Z (AS Z (AO.dO (List.map lH ([e2.name]:List Str)) Z vw Z Z Z Z ?_)))))))));refine B1 hf fun x2 h9 hf=>AS Z (AO.jO (i:=1) (l:=bD.keys) (m:=([e2.name]:List Str)) h9 Z Z Z Z Z Z Z vw ku Z Z Z (fun _=>Z) (fun _=>Z) (by decide) (fun v4 s1 hs1=>?_));cases hs1;refine Rw 2 [3] Z Z (AW.draw 6 mixed (by kernel_rfl) Z ?_);refine Ev.cs dK 1 Z (Ev.cons Z Z Z (AO.dh (i:=3) Z Z Z Ye Z Z zg) (Ev.cs dK 1 Z (Ev.cons Z Z Z (AO.dh (i:=0) Z Z Z tQ Z Z zg) ?_)));refine B1 hf fun x3 h10 hf=>Ev.cons rfl rfl rfl (AO.call rfl _ rfl rfl afl (Kh _ h10 ⟨rfl,rfl⟩)) (Ev.cons rfl rfl rfl (AO.dO (ah.bO [x3]) rfl Gl rfl rfl rfl (by first|rfl|simp only[ah.aV,ah.bO]) ⟨rfl,rfl⟩) ?_);refine Ev.nil ?_;show AR _ _ _ _ _ _ _ _
  refine B1 hf fun x4 h11 hf=>AS Z (AO.jO (i:=2) (l:=bD.aN) (m:=[x3]) h11 Z Z Z Z Z Z Z Gl jV (ah.aQ _) (ah.aQ _) (ah.aQ _).symm (ah.gG) (ah.cells_one) (by decide) (fun v5 s2 hs2=>?_));cases hs2;refine Rn 4 [3] Z Z (AR.drop1 ?_);exact N 0 Z ⟨(bV (x1+1)),(ah.mk bD.kind bD.dR bD.dA bD.bR x4 x2),v5,v4,Z,Z,Z,hf⟩
 cases hf;exact Wx 3 [2,4] Z Z (ZC [4] Z Z h)
section
variable [BZ]
@[reducible] def xJ:eX aF ah→eP
 | .ok r=>.ret (.agg (aX r))
 | .bad e=>.panic (.iface 204 (.agg [iP e.code]))
@[reducible] def xK:eX aF ah→eP
 | .ok r=>.ret (.agg (aX r))
 | .bad e=>.panic (.iface 204 (.agg [iP e.code]))
@[reducible] def yV:eX aF (List ah)→eP
 | .ok r=>.ret (.list (ah.bO r))
 | .bad e=>.panic (.iface 204 (.agg [iP e.code]))
@[reducible] def vE:eX aF ah→eP
 | .ok r=>.ret (.agg (aX r))
 | .bad e=>.panic (.iface 204 (.agg [iP e.code]))
@[reducible] def tK:eX aF ah→eP
 | .ok r=>.ret (.agg (aX r))
 | .bad e=>.panic (.iface 204 (.agg [iP e.code]))
abbrev nK(bE:List aB→ak→Option (eX aF ah)):Prop:=∀(rZ:List aB) (kS:ak) {fq:eX aF ah},bE rZ kS=some fq→∀ {τ:List bC} {Q:eP→List bC→Prop} (h:Q (xJ fq) τ),PC 201 [.list (List.map aB.cells rZ),.agg (cZ kS)] τ Q
abbrev nL(dG:List aB→ak→Option (eX aF ah)):Prop:=∀(rZ:List aB) (kS:ak) {fq:eX aF ah},dG rZ kS=some fq→∀ {τ:List bC} {Q:eP→List bC→Prop} (h:Q (xK fq) τ),PC 268 [.list (List.map aB.cells rZ),.agg (cZ kS)] τ Q
abbrev oN(dF:List aB→List ak→Option (eX aF (List ah))):Prop:=∀(rZ:List aB) (O4:List ak) {fq:eX aF (List ah)},dF rZ O4=some fq→∀ {τ:List bC} {Q:eP→List bC→Prop} (h:Q (yV fq) τ),PC 273 [.list (List.map aB.cells rZ),.list (ak.bO O4)] τ Q
abbrev l7(cO:List aB→ak→Option (eX aF ah)):Prop:=∀(rZ:List aB) (kS:ak) {fq:eX aF ah},cO rZ kS=some fq→∀ {τ:List bC} {Q:eP→List bC→Prop} (h:Q (vE fq) τ),PC 270 [.list (List.map aB.cells rZ),.agg (cZ kS)] τ Q
abbrev lN(bY:List aB→ak→Option (eX aF ah)):Prop:=∀(rZ:List aB) (kS:ak) {fq:eX aF ah},bY rZ kS=some fq→∀ {τ:List bC} {Q:eP→List bC→Prop} (h:Q (tK fq) τ),PC 275 [.list (List.map aB.cells rZ),.agg (cZ kS)] τ Q
theorem Li(bE)(bU:nK bE)(dG)(l6:nL dG)(dF)(iN:oN dF)(cO)(kU:l7 cO)(bY)(kI:lN bY)(s1:List aB)(e1:ak){rX:eX aF ah}(hf:sS bE dG dF cO bY s1 e1=some rX)(h:Q (xJ rX) τ):PC 201 [.list (List.map aB.cells s1),.agg (cZ e1)] τ Q:=by
 unfold sS at hf;refine BN 104 [.cell 4 34] [0,1] Tryz.func201 Z Z Z Z Z (W 1 Z (AS Z (AO.aP Z iX (fun b4=>(J 4 Z (C hf Z (fun h1 hf=>?_) fun h1 hf=>?_))))))
 ·cases hf;exact Wx 3 [0] Z Z (ZC [0] Z Z h)
 refine V 2 Z (C hf Z (fun h2 hf=>?_) fun h2 hf=>?_)
 ·rcases bM hf with⟨e2,h3,hf⟩|⟨x1,h3,hf⟩
  ·refine W 3 Z (CL Z (D7 _ _ h3 ?_));cases hf;exact⟨Z,[],apZ _,h⟩
  refine W 3 Z (CL Z (D7 _ _ h3 ?_));cases hf;exact Rx 1 [0] Z Z (ZC [0] Z Z h)
 refine V 2 Z (C hf Z (fun h4 hf=>?_) fun h4 hf=>?_)
 ·refine B1 hf fun e3 h5 hf=>?_;rcases bM hf with⟨e4,h6,hf⟩|⟨x2,h6,hf⟩
  ·refine V 0 Z (AW.acu 5 8 mixed (by kernel_rfl) Z Z ?_);refine Ev.cs dK 3 Z (Ev.cons Z Z Z (AO.bQ h5 Z Z (ak.aQ _) Z jD (ak.aV _) Z zg) (Ev.cs dK 1 Z (Ev.nil ?_)));refine⟨_,_,Z,Z,Z,Z,AO.call Z _ Z Z Ii (bU _ _ h6 ?_),?_⟩
   ·cases hf;exact⟨Z,[],apZ _,h⟩
   refine Ev.cs dK 2 Z (Ev.nil ?_);trivial
  refine V 0 Z (AW.draw 9 mixed (by kernel_rfl) Z ?_);refine Ev.cs dK 3 Z (Ev.cons Z Z Z (AO.bQ h5 Z Z (ak.aQ _) Z jD (ak.aV _) Z zg) (Ev.cs dK 1 Z (Ev.cons Z Z Z (AO.call Z _ Z Z Ii (bU _ _ h6 zg)) ?_)));refine Ev.cs dK 2 Z ?_;refine B1 hf fun x3 h7 hf=>Ev.cons Z Z Z (AO.call Z _ Z Z afo (uK _ h7 zg)) (Ev.nil ?_);show AR _ _ _ _ _ _ _ _;rcases bM hf with⟨e5,h8,hf⟩|⟨x4,h8,hf⟩
  ·refine CL Z (BU _ _ h8 ?_);cases hf;exact⟨Z,[],apZ _,h⟩
  refine CL Z (BU _ _ h8 ?_);cases hf;exact Rx 1 [0] Z Z (ZC [0] Z Z h)
 refine V 2 Z (C hf Z (fun h9 hf=>?_) fun h9 hf=>?_)
 ·refine B1 hf fun e6 h10 hf=>W 3 Z (AS Z (AO.bQ h10 Z Z (ak.aQ _) Z jD (ak.aV _) Z ?_));rcases bM hf with⟨e7,h11,hf⟩|⟨x5,h11,hf⟩
  ·refine U 1 Z (CL Z (bU _ _ h11 ?_));cases hf;exact⟨Z,[],apZ _,h⟩
  refine U 1 Z (CL Z (bU _ _ h11 (AS Z (AO.aP Z iX (fun b5=>?_)))));refine B1 hf fun e8 h12 hf=>?_;rcases bM hf with⟨e9,qp,hf⟩|⟨x6,qp,hf⟩
  ·refine Rw 1 [0] Z Z (AW.acu 6 7 mixed (by kernel_rfl) Z Z ?_);refine Ev.cons Z Z Z (AO.dh (i:=0) Z Z Z tQ Z Z zg) (Ev.cs dK 3 Z (Ev.cons Z Z Z (AO.bQ h12 Z Z (ak.aQ _) Z jD (ak.aV _) Z zg) (Ev.cs dK 1 Z ?_)));refine Ev.nil (⟨_,_,Z,Z,Z,Z,AO.call Z _ Z Z Ii (bU _ _ qp ?_),?_⟩)
   ·cases hf;exact⟨Z,[],apZ _,h⟩
   refine Ev.nil ?_;trivial
  refine Rw 1 [0] Z Z (AW.draw 7 mixed (by kernel_rfl) Z ?_);refine Ev.cons Z Z Z (AO.dh (i:=0) Z Z Z tQ Z Z zg) (Ev.cs dK 3 Z (Ev.cons Z Z Z (AO.bQ h12 Z Z (ak.aQ _) Z jD (ak.aV _) Z zg) (Ev.cs dK 1 Z ?_)));refine Ev.cons Z Z Z (AO.call Z _ Z Z Ii (bU _ _ qp zg)) (Ev.nil ?_);show AR _ _ _ _ _ _ _ _;rcases bM hf with⟨e10,oI,hf⟩|⟨x7,oI,hf⟩
  ·refine CL Z (Jf _ _ oI ?_);cases hf;exact⟨Z,[],apZ _,h⟩
  refine CL Z (Jf _ _ oI ?_);cases hf;exact Rx 1 [1] Z Z (ZC [1] Z Z h)
 refine V 2 Z (C hf Z (fun vY hf=>?_) fun vY hf=>?_)
 ·rcases bM hf with⟨e11,h16,hf⟩|⟨x8,h16,hf⟩
  ·refine W 2 Z (CL Z (l6 _ _ h16 ?_));cases hf;exact⟨Z,[],apZ _,h⟩
  refine W 2 Z (CL Z (l6 _ _ h16 ?_));cases hf;exact Rx 1 [0] Z Z (ZC [0] Z Z h)
 refine V 2 Z (C hf Z (fun AZ hf=>?_) fun AZ hf=>?_)
 ·refine B1 hf fun e12 h18 hf=>?_;rcases bM hf with⟨e13,h19,hf⟩|⟨x9,h19,hf⟩
  ·refine V 0 Z (AW.acu 7 8 mixed (by kernel_rfl) Z Z ?_);refine Ev.cs dK 5 Z (Ev.cons Z Z Z (AO.bQ h18 Z Z (ak.aQ _) Z jD (ak.aV _) Z zg) (Ev.cs dK 1 Z (Ev.nil ?_)));refine⟨_,_,Z,Z,Z,Z,AO.call Z _ Z Z Ii (bU _ _ h19 ?_),?_⟩
   ·cases hf;exact⟨Z,[],apZ _,h⟩
   refine Ev.nil ?_;trivial
  refine V 0 Z (AW.draw 8 mixed (by kernel_rfl) Z ?_);refine Ev.cs dK 5 Z (Ev.cons Z Z Z (AO.bQ h18 Z Z (ak.aQ _) Z jD (ak.aV _) Z zg) (Ev.cs dK 1 Z (Ev.cons Z Z Z (AO.call Z _ Z Z Ii (bU _ _ h19 zg)) ?_)));refine Ev.nil ?_;show AR _ _ _ _ _ _ _ _;rcases bM hf with⟨e14,h20,hf⟩|⟨EB,h20,hf⟩
  ·refine CL Z (MH _ _ h20 ?_);cases hf;exact⟨Z,[],apZ _,h⟩
  refine CL Z (MH _ _ h20 ?_);cases hf;exact Rx 1 [0] Z Z (ZC [0] Z Z h)
 refine V 2 Z (C hf Z (fun h21 hf=>?_) fun h21 hf=>?_)
 ·rcases bM hf with⟨e15,h22,hf⟩|⟨La,h22,hf⟩
  ·refine W 2 Z (CL Z (kU _ _ h22 ?_));cases hf;exact⟨Z,[],apZ _,h⟩
  refine W 2 Z (CL Z (kU _ _ h22 ?_));cases hf;exact Rx 1 [0] Z Z (ZC [0] Z Z h)
 refine V 2 Z (C hf Z (fun h23 hf=>?_) fun h23 hf=>?_)
 ·refine B1 hf fun e16 J_ hf=>W 3 Z (AS Z (AO.bQ J_ Z Z (ak.aQ _) Z jD (ak.aV _) Z ?_));rcases bM hf with⟨e17,KS,hf⟩|⟨Qf,KS,hf⟩
  ·refine U 1 Z (CL Z (bU _ _ KS ?_));cases hf;exact⟨Z,[],apZ _,h⟩
  refine U 1 Z (CL Z (bU _ _ KS ?_));rcases bM hf with⟨e18,Mj,hf⟩|⟨OY,Mj,hf⟩
  ·refine CL Z (qc _ Mj ?_);cases hf;exact⟨Z,[],apZ _,h⟩
  refine CL Z (qc _ Mj (J 0 Z (C hf Z (fun h27 hf=>?_) fun h27 hf=>?_)))
  ·refine B1 hf fun e19 NA hf=>W 3 Z (AS Z (AO.bQ NA Z Z (ak.aQ _) Z jD (ak.aV _) Z ?_));rcases bM hf with⟨e20,TL,hf⟩|⟨UQ,TL,hf⟩
   ·refine U 1 Z (CL Z (bU _ _ TL ?_));cases hf;exact⟨Z,[],apZ _,h⟩
   refine U 1 Z (CL Z (bU _ _ TL ?_));cases hf;exact Rx 1 [0] Z Z (ZC [0] Z Z h)
  refine B1 hf fun e21 h30 hf=>W 3 Z (AS Z (AO.bQ h30 Z Z (ak.aQ _) Z jD (ak.aV _) Z ?_));rcases bM hf with⟨e22,h31,hf⟩|⟨XY,h31,hf⟩
  ·refine U 1 Z (CL Z (bU _ _ h31 ?_));cases hf;exact⟨Z,[],apZ _,h⟩
  refine U 1 Z (CL Z (bU _ _ h31 ?_));cases hf;exact Rx 1 [0] Z Z (ZC [0] Z Z h)
 refine V 2 Z (C hf Z (fun h32 hf=>?_) fun h32 hf=>?_)
 ·rcases bM hf with⟨e23,JI,hf⟩|⟨TQ,JI,hf⟩
  ·refine W 3 Z (CL Z (iN _ _ JI ?_));cases hf;exact⟨Z,[],apZ _,h⟩
  refine W 3 Z (CL Z (iN _ _ JI ?_));refine B1 hf fun XL GQ hf=>CL Z (MI _ GQ (AS Z (AO.aP Z iX (fun b6=>?_))));refine B1 hf fun x18 P5 hf=>Rr 2 [0,0] Z Z (CL Z (oC _ P5 ?_));rcases bM hf with⟨e24,Sd,hf⟩|⟨_,Sd,hf⟩
  ·refine U 1 Z (CL Z (bK _ _ Sd ?_));cases hf;exact⟨Z,[],apZ _,h⟩
  refine U 1 Z (CL Z (bK _ _ Sd ?_));cases hf;exact Rx 2 [0,1] Z Z (ZC [1] Z Z h)
 rcases bM hf with⟨e25,h37,hf⟩|⟨x19,h37,hf⟩
 ·refine W 2 Z (CL Z (kI _ _ h37 ?_));cases hf;exact⟨Z,[],apZ _,h⟩
 refine W 2 Z (CL Z (kI _ _ h37 ?_));cases hf;exact Rx 1 [0] Z Z (ZC [0] Z Z h)
theorem Lj(bE)(bU:nK bE)(dG)(l6:nL dG)(dF)(iN:oN dF)(cO)(kU:l7 cO)(bY)(kI:lN bY)(s1:List aB)(e1:ak){rX:eX aF ah}(hf:pY bE dG dF cO bY s1 e1=some rX)(h:Q (xK rX) τ):PC 268 [.list (List.map aB.cells s1),.agg (cZ e1)] τ Q:=by
 unfold pY at hf;refine BN 40 [.cell 4 34] [0,1] Tryz.func268 Z Z Z Z Z (W 1 Z (AS Z (AO.aP Z iX (fun b4=>?_))));refine B1 hf fun n1 h1 hf=>U 2 Z (CL Z (XB _ h1 ?_));rcases bM hf with⟨e2,h2,hf⟩|⟨_,h2,hf⟩
 ·refine U 3 Z (CL Z (bK _ _ h2 ?_));cases hf;exact⟨Z,[],apZ _,h⟩
 refine U 3 Z (CL Z (bK _ _ h2 (U 2 Z (AS Z (AO.bI (l:=e1.args) Z Z Z Z jD Z (ak.aQ _) ?_)))));rcases bM hf with⟨e3,h3,hf⟩|⟨_,h3,hf⟩
 ·refine U 2 Z (CL Z (bK _ _ h3 ?_));cases hf;exact⟨Z,[],apZ _,h⟩
 refine U 2 Z (CL Z (bK _ _ h3 ?_));rcases bM hf with⟨e4,h4,hf⟩|⟨args1,h4,hf⟩
 ·refine U 3 Z (CL Z (iN _ _ h4 ?_));cases hf;exact⟨Z,[],apZ _,h⟩
 refine U 3 Z (CL Z (iN _ _ h4 (J 3 Z (C hf Z (fun h5 hf=>?_) fun h5 hf=>?_))))
 ·refine V 0 Z (AW.draw 5 mixed (by kernel_rfl) Z ?_);refine Ev.cs dK 3 Z ?_;refine B1 hf fun e5 h6 hf=>Ev.cons Z Z Z (AO.bQ h6 Z Z (ah.aQ _) Z jV (ah.aV _) Z zg) (Ev.cs dK 1 Z (Ev.nil ?_));show AR _ _ _ _ _ _ _ _;rcases bM hf with⟨e6,h7,hf⟩|⟨x1,h7,hf⟩
  ·refine CL Z (Tt _ _ h7 ?_);cases hf;exact⟨Z,[],apZ _,h⟩
  refine CL Z (Tt _ _ h7 ?_);cases hf;exact Rx 1 [0] Z Z (ZC [0] Z Z h)
 refine V 0 Z (AW.draw 8 mixed (by kernel_rfl) Z ?_);refine Ev.cs dK 3 Z ?_;refine B1 hf fun e7 h8 hf=>Ev.cons Z Z Z (AO.bQ h8 Z Z (ah.aQ _) Z jV (ah.aV _) Z zg) (Ev.cs dK 2 Z ?_);refine B1 hf fun e8 h9 hf=>Ev.cons Z Z Z (AO.bQ h9 Z Z (ah.aQ _) Z jV (ah.aV _) Z zg) (Ev.cs dK 1 Z (Ev.nil ?_));show AR _ _ _ _ _ _ _ _;rcases bM hf with⟨e9,h10,hf⟩|⟨x2,h10,hf⟩
 ·refine CL Z (Tp _ _ _ h10 ?_);cases hf;exact⟨Z,[],apZ _,h⟩
 refine CL Z (Tp _ _ _ h10 ?_);cases hf;exact Rx 1 [0] Z Z (ZC [0] Z Z h)
theorem MO(bE)(bU:nK bE)(dG)(l6:nL dG)(dF)(iN:oN dF)(cO)(kU:l7 cO)(bY)(kI:lN bY)(s1:List aB)(l1:List ak){rX:eX aF (List ah)}(hf:zA bE dG dF cO bY s1 l1=some rX)(h:Q (yV rX) τ):PC 273 [.list (List.map aB.cells s1),.list (ak.bO l1)] τ Q:=by
 unfold zA at hf;refine BN 22 [.tmp 4] [0,1] Tryz.func273 Z Z Z Z Z (W 0 Z (AS Z (AO.jv Z Z (U 2 Z (AS Z (AO.bI (l:=l1) Z Z Z Z jD Z (ak.aQ _) (J 1 Z (AW.row 6 34 (LK3 (fun bD v1 x1=>[(0,.list (List.map aB.cells s1)),(5,.own v1 (ah.bO bD)),(8,.list (ak.bO l1)),(9,iP (l1.length:Int)),(10,iP x1)]) (fun bD v1 x1=>[.row v1 (ah.bO bD).length 6 34]) (fun dL bD v1 x1=>nC bE s1 l1 dL bD x1=some rX) BIG [] (.slice none 0 0) 0 Z Z hf (fun _ _ _ hz=>dH hz) ?_)))))))));intro dL bD v1 x1 hf;rw[nC]at hf;refine V 1 Z (C hf Z (fun h1 hf=>?_) fun h1 hf=>?_)
 ·refine B1 hf fun e1 h2 hf=>W 0 Z (AS Z (AO.bQ h2 Z Z (ak.aQ _) Z jD (ak.aV _) Z (U 1 Z (AS Z (AO.aP Z nR (fun b7=>?_))))));rcases bM hf with⟨e2,h3,hf⟩|⟨x2,h3,hf⟩
  ·refine Rr 4 [0,0] Z Z (CL Z (bU _ _ h3 ?_));cases hf;exact⟨Z,[],apZ _,h⟩
  refine Rr 4 [0,0] rfl rfl (CL rfl (bU _ _ h3 (AS rfl (AO.dO (ah.bO [x2]) rfl Gl rfl rfl rfl (by first|rfl|simp only[ah.aV,ah.bO]) ?_))));refine B1 hf fun xI h4 hf=>AS Z (AO.jO (i:=1) (l:=bD) (m:=[x2]) h4 Z Z Z Z Z Z Z Gl jV (ah.aQ _) (ah.aQ _) (ah.aQ _).symm (ah.gG) (ah.cells_one) (by decide) (fun v2 s2 hs2=>?_));cases hs2;refine gy 3 Z (AR.drop1 ?_);exact N 0 Z ⟨xI,v2,(bV (x1+1)),Z,Z,Z,hf⟩
 cases hf;exact M 2 Z (Y Z h)
theorem JU(bE)(bU:nK bE)(dG)(l6:nL dG)(dF)(iN:oN dF)(cO)(kU:l7 cO)(bY)(kI:lN bY)(s1:List aB)(e1:ak){rX:eX aF ah}(hf:nV bE dG dF cO bY s1 e1=some rX)(h:Q (vE rX) τ):PC 270 [.list (List.map aB.cells s1),.agg (cZ e1)] τ Q:=by
 unfold nV at hf;refine BN 95 [.cell 4 34] [0,1] Tryz.func270 Z Z Z Z Z (W 1 Z (AS Z (AO.aP Z iX (fun b4=>?_))));refine B1 hf fun e2 h1 hf=>U 3 Z (AS Z (AO.bQ h1 Z Z (ak.aQ _) Z jD (ak.aV _) Z ?_));rcases bM hf with⟨e3,h2,hf⟩|⟨x1,h2,hf⟩
 ·refine U 1 Z (CL Z (bU _ _ h2 ?_));cases hf;exact⟨Z,[],apZ _,h⟩
 refine U 1 Z (CL Z (bU _ _ h2 (AS Z (AO.aP Z iX (fun b5=>(Rr 5 [0] Z Z (On 4 16 20 [0,3,4,5] (e1.name==([124,124]:Str)) Z Z Z Z (J 0 Z (C hf Z (fun h4 hf=>?_) fun h4 hf=>?_)))))))))
 ·rcases bM hf with⟨e4,h5,hf⟩|⟨x2,h5,hf⟩
  ·refine V 0 Z (AW.acu 1 5 mixed (by kernel_rfl) Z Z ?_);refine Ev.cons Z Z Z (AO.dh (i:=0) Z Z Z tQ Z Z zg) (Ev.nil (⟨_,_,Z,Z,Z,Z,AO.call Z _ Z Z afn (qc _ h5 ?_),?_⟩))
   ·cases hf;exact⟨Z,[],apZ _,h⟩
   refine Ev.cs dK 3 Z (Ev.nil ?_);trivial
  refine V 0 Z (AW.draw 6 mixed (by kernel_rfl) Z ?_);refine Ev.cons Z Z Z (AO.dh (i:=0) Z Z Z tQ Z Z zg) (Ev.cons Z Z Z (AO.call Z _ Z Z afn (qc _ h5 zg)) (Ev.cs dK 3 Z (Ev.cons Z Z Z (AO.agQ Z alx Z Z zg) ?_)));refine Ev.nil ?_;show AR _ _ _ _ _ _ _ _;refine J 0 Z (C hf Z (fun h6 hf=>?_) fun h6 hf=>?_)
  ·cases hf;exact Wx 2 [0,1] Z Z (ZC [1] Z Z h)
  refine B1 hf fun e5 h7 hf=>W 3 Z (AS Z (AO.bQ h7 Z Z (ak.aQ _) Z jD (ak.aV _) Z ?_));rcases bM hf with⟨e6,h8,hf⟩|⟨x3,h8,hf⟩
  ·refine U 1 Z (CL Z (bU _ _ h8 ?_));cases hf;exact⟨Z,[],apZ _,h⟩
  refine U 1 Z (CL Z (bU _ _ h8 ?_));rcases bM hf with⟨e7,h9,hf⟩|⟨x4,h9,hf⟩
  ·refine CL Z (qc _ h9 ?_);cases hf;exact⟨Z,[],apZ _,h⟩
  refine CL Z (qc _ h9 ?_);refine B1 hf fun x5 h10 hf=>CL Z (jW _ h10 ?_);cases hf;exact Rx 1 [1] Z Z (ZC [1] Z Z h)
 refine B1 hf fun e8 h11 hf=>W 3 Z (AS Z (AO.bQ h11 Z Z (ak.aQ _) Z jD (ak.aV _) Z ?_));rcases bM hf with⟨e9,h12,hf⟩|⟨x6,h12,hf⟩
 ·refine U 1 Z (CL Z (bU _ _ h12 ?_));cases hf;exact⟨Z,[],apZ _,h⟩
 refine U 1 Z (CL Z (bU _ _ h12 (AS Z (AO.aP Z iX (fun b6=>(Rw 5 [0] Z Z (C hf Z (fun qp hf=>?_) fun qp hf=>?_)))))))
 ·refine B1 hf fun x7 oI hf=>Wr 2 [1,0] Z Z (CL Z (Eu _ _ oI ?_));refine B1 hf fun x8 vY hf=>CL Z (jW _ vY ?_);cases hf;exact Rx 1 [2] Z Z (ZC [2] Z Z h)
 refine V 2 Z (C hf Z (fun h16 hf=>?_) fun h16 hf=>?_)
 ·refine B1 hf fun x9 AZ hf=>Wr 2 [1,0] Z Z (CL Z (Eu _ _ AZ ?_));refine B1 hf fun EB h18 hf=>U 1 Z (CL Z (jW _ h18 ?_));cases hf;exact Rx 1 [2] Z Z (ZC [2] Z Z h)
 refine V 2 Z (C hf Z (fun h19 hf=>?_) fun h19 hf=>?_)
 ·rcases bM hf with⟨e10,h20,hf⟩|⟨La,h20,hf⟩
  ·refine Wr 2 [1,0] Z Z (CL Z (qd _ _ h20 ?_));cases hf;exact⟨Z,[],apZ _,h⟩
  refine Wr 2 [1,0] Z Z (CL Z (qd _ _ h20 ?_));refine B1 hf fun Qf h21 hf=>U 1 Z (CL Z (jW _ h21 ?_));cases hf;exact Rx 1 [2] Z Z (ZC [2] Z Z h)
 refine V 2 Z (C hf Z (fun h22 hf=>?_) fun h22 hf=>?_)
 ·rcases bM hf with⟨e11,h23,hf⟩|⟨OY,h23,hf⟩
  ·refine Wr 2 [1,0] Z Z (CL Z (qd _ _ h23 ?_));cases hf;exact⟨Z,[],apZ _,h⟩
  refine Wr 2 [1,0] Z Z (CL Z (qd _ _ h23 ?_));refine B1 hf fun UQ J_ hf=>U 1 Z (CL Z (jW _ J_ ?_));cases hf;exact Rx 1 [2] Z Z (ZC [2] Z Z h)
 refine V 2 Z (C hf Z (fun KS hf=>?_) fun KS hf=>?_)
 ·rcases bM hf with⟨e12,Mj,hf⟩|⟨XY,Mj,hf⟩
  ·refine Wr 2 [1,0] Z Z (CL Z (qd _ _ Mj ?_));cases hf;exact⟨Z,[],apZ _,h⟩
  refine Wr 2 [1,0] Z Z (CL Z (qd _ _ Mj ?_));refine B1 hf fun TQ h27 hf=>U 1 Z (CL Z (jW _ h27 ?_));cases hf;exact Rx 1 [2] Z Z (ZC [2] Z Z h)
 refine V 2 Z (C hf Z (fun NA hf=>?_) fun NA hf=>?_)
 ·rcases bM hf with⟨e13,TL,hf⟩|⟨XL,TL,hf⟩
  ·refine Wr 2 [1,0] Z Z (CL Z (qd _ _ TL ?_));cases hf;exact⟨Z,[],apZ _,h⟩
  refine Wr 2 [1,0] Z Z (CL Z (qd _ _ TL ?_));refine B1 hf fun x18 h30 hf=>U 1 Z (CL Z (jW _ h30 ?_));cases hf;exact Rx 1 [2] Z Z (ZC [2] Z Z h)
 refine V 2 Z (C hf Z (fun h31 hf=>?_) fun h31 hf=>?_)
 ·rcases bM hf with⟨e14,h32,hf⟩|⟨x19,h32,hf⟩
  ·refine Wr 2 [1,0] Z Z (CL Z (Tq _ _ h32 ?_));cases hf;exact⟨Z,[],apZ _,h⟩
  refine Wr 2 [1,0] Z Z (CL Z (Tq _ _ h32 ?_));cases hf;exact Rx 1 [2] Z Z (ZC [2] Z Z h)
 rcases bM hf with⟨e15,JI,hf⟩|⟨x20,JI,hf⟩
 ·refine Wr 4 [1,0] Z Z (CL Z (D_ _ _ _ JI ?_));cases hf;exact⟨Z,[],apZ _,h⟩
 refine Wr 4 [1,0] Z Z (CL Z (D_ _ _ _ JI ?_));cases hf;exact Rx 1 [2] Z Z (ZC [2] Z Z h)
theorem He(bE)(bU:nK bE)(dG)(l6:nL dG)(dF)(iN:oN dF)(cO)(kU:l7 cO)(bY)(kI:lN bY)(s1:List aB)(e1:ak){rX:eX aF ah}(hf:m_ bE dG dF cO bY s1 e1=some rX)(h:Q (tK rX) τ):PC 275 [.list (List.map aB.cells s1),.agg (cZ e1)] τ Q:=by
 unfold m_ at hf;refine BN 41 [.cell 4 34] [0,1] Tryz.func275 Z Z Z Z Z (W 1 Z (AS Z (AO.aP Z iX (fun b4=>?_))));rcases bM hf with⟨e2,h1,hf⟩|⟨x1,h1,hf⟩
 ·refine U 4 Z (CL Z (iN _ _ h1 ?_));cases hf;exact⟨Z,[],apZ _,h⟩
 refine U 4 Z (CL Z (iN _ _ h1 (AS Z (AO.bI (l:=x1) Z Z Z Z jV Z (ah.aQ _) ?_))));refine J 1 Z (AW.row 7 60 (LK3 (fun gu v1 i1=>[(3,.ref (cZ e1)),(4,pP b4),(5,.own v1 (List.map aB.cells gu)),(13,.list (ah.bO x1)),(14,iP (x1.length:Int)),(15,iP i1)]) (fun gu v1 i1=>[.row v1 (List.map aB.cells gu).length 7 60,.box b4 [iP 0,.bool false,iP 0,.str ([]:Str),.own (.slice none 0 0) [],.own (.slice none 0 0) []]]) (fun dL gu v1 i1=>mG e1 x1 dL gu i1=some rX) BIG [] (.slice none 0 0) 0 Z Z hf (fun _ _ _ hz=>dH hz) ?_));intro dL gu v1 i1 hf;rw[mG]at hf;refine V 1 Z (C hf Z (fun h2 hf=>?_) fun h2 hf=>?_)
 ·refine B1 hf fun e3 h3 hf=>W 1 Z (AS Z (AO.bQ h3 Z Z (ah.aQ _) Z jV (ah.aV _) Z (U 1 Z (AS Z (AO.aP Z iX (fun b7=>(Rw 2 [0] Z Z (AW.draw 9 mixed (by kernel_rfl) Z ?_))))))));refine Ev.cs dK 4 Z ?_;refine B1 hf fun e4 h4 hf=>Ev.cons Z Z Z (AO.bQ h4 Z Z Z Z ku Z Z zg) (Ev.cs dK 1 Z (Ev.cons Z Z Z (AO.dh (i:=0) Z Z Z tQ Z Z zg) (Ev.cons Z Z Z (AO.build Z XR ajQ Z zg) ?_)));refine Ev.cons rfl rfl rfl (AO.dO (List.map aB.cells [(aB.mk e4 e3)]) rfl QG rfl rfl rfl (by first|rfl|simp only[List.map,aB.aV]) ⟨rfl,rfl⟩) ?_;refine Ev.nil ?_;show AR _ _ _ _ _ _ _ _
  refine B1 hf fun EF h5 hf=>AS Z (AO.jO (i:=1) (l:=gu) (m:=[(aB.mk e4 e3)]) h5 Z Z Z Z Z Z Z QG C8 Z Z Z (aB.gG) (aB.cells_one) (by decide) (fun v2 s2 hs2=>?_));cases hs2;refine gy 3 Z (AR.drop1 ?_);exact N 0 Z ⟨EF,v2,(bV (i1+1)),Z,Z,Z,hf⟩
 obtain⟨x2,mI,h6,hf⟩:=dD hf;refine W 1 Z (CL Z (Zw _ h6 (U 3 Z (AS Z (AO.aP Z iX (fun b8=>?_))))));rcases bM hf with⟨e5,h7,hf⟩|⟨_,h7,hf⟩
 ·refine Rr 5 [0] Z Z (CL Z (bK _ _ h7 ?_));cases hf;exact⟨Z,[],apZ _,h⟩
 refine Rr 5 [0] Z Z (CL Z (bK _ _ h7 ?_));cases hf;exact Rx 2 [0,2] Z Z (ZC [2] Z Z h)
theorem pU:∀k:Nat,(nK (dJ k))∧(nL (fA k))∧(oN (fG k))∧(l7 (eD k))∧(lN (dX k)):=by
 intro k
 induction k with
 | zero=>exact⟨fun _ _ _ hz=>by first|cases hz|(unfold dJ at hz;cases hz),fun _ _ _ hz=>by first|cases hz|(unfold fA at hz;cases hz),fun _ _ _ hz=>by first|cases hz|(unfold fG at hz;cases hz),fun _ _ _ hz=>by first|cases hz|(unfold eD at hz;cases hz),fun _ _ _ hz=>by first|cases hz|(unfold dX at hz;cases hz)⟩
 | succ k ih=>exact⟨fun rZ kS fq hz τ Q hq=>Li (dJ k) ih.1 (fA k) ih.2.1 (fG k) ih.2.2.1 (eD k) ih.2.2.2.1 (dX k) ih.2.2.2.2 rZ kS hz hq,fun rZ kS fq hz τ Q hq=>Lj (dJ k) ih.1 (fA k) ih.2.1 (fG k) ih.2.2.1 (eD k) ih.2.2.2.1 (dX k) ih.2.2.2.2 rZ kS hz hq,fun rZ O4 fq hz τ Q hq=>MO (dJ k) ih.1 (fA k) ih.2.1 (fG k) ih.2.2.1 (eD k) ih.2.2.2.1 (dX k) ih.2.2.2.2 rZ O4 hz hq,fun rZ kS fq hz τ Q hq=>JU (dJ k) ih.1 (fA k) ih.2.1 (fG k) ih.2.2.1 (eD k) ih.2.2.2.1 (dX k) ih.2.2.2.2 rZ kS hz hq,fun rZ kS fq hz τ Q hq=>He (dJ k) ih.1 (fA k) ih.2.1 (fG k) ih.2.2.1 (eD k) ih.2.2.2.1 (dX k) ih.2.2.2.2 rZ kS hz hq⟩
theorem D8(rZ:List aB)(kS:ak){fq:eX aF ah}(hf:AA rZ kS=some fq)(h:Q (xJ fq) τ):PC 201 [.list (List.map aB.cells rZ),.agg (cZ kS)] τ Q:=
 ((pU BIG).1) rZ kS hf h
theorem acG(rZ:List aB)(kS:ak){fq:eX aF ah}(hf:Ph rZ kS=some fq)(h:Q (xK fq) τ):PC 268 [.list (List.map aB.cells rZ),.agg (cZ kS)] τ Q:=
 ((pU BIG).2.1) rZ kS hf h
theorem ad_(rZ:List aB)(O4:List ak){fq:eX aF (List ah)}(hf:Sn rZ O4=some fq)(h:Q (yV fq) τ):PC 273 [.list (List.map aB.cells rZ),.list (ak.bO O4)] τ Q:=
 ((pU BIG).2.2.1) rZ O4 hf h
theorem Z4(rZ:List aB)(kS:ak){fq:eX aF ah}(hf:Mr rZ kS=some fq)(h:Q (vE fq) τ):PC 270 [.list (List.map aB.cells rZ),.agg (cZ kS)] τ Q:=
 ((pU BIG).2.2.2.1) rZ kS hf h
theorem ZB(rZ:List aB)(kS:ak){fq:eX aF ah}(hf:KV rZ kS=some fq)(h:Q (tK fq) τ):PC 275 [.list (List.map aB.cells rZ),.agg (cZ kS)] τ Q:=
 ((pU BIG).2.2.2.2) rZ kS hf h
end
section
variable [BZ]
theorem N8(s1:List aB)(e1:ak){r0:ah}{r1:Int}(hf:yM s1 e1=some (r0,r1))(h:Q (.ret (.tuple [.agg (aX r0),iP r1])) τ):PC 126 [.list (List.map aB.cells s1),.agg (cZ e1)] τ Q:=by
 unfold yM at hf;refine AC.none (AC.OH 10 [.cell 4 34,.cell 5 24] [0,1] [0,1] Tryz.func126 Z Z Z Z Z Tryz.func200 Z Z Z Z Z Z Z aki (AW.sr (AR.step Z Z Z (AO.Gc Z Z Z ?_))));refine AR.step Z Z Z (AO.aP Z iX (fun b4=>(AR.step Z Z Z (AO.aP Z abA (fun b5=>(AR.nil [0,3,4,5] Z (AW.sr ?_)))))));refine cs 1 Z (AR.defer (vs:=[.pointer (some ⟨b4,0,none⟩),.pointer (some ⟨b5,0,none⟩)]) Z Z Z Z Z Z (AR.nil [0,3,4,5] Z (AW.sr ?_)));refine cs 2 Z ?_;rcases bM hf with⟨f1,h1,hf⟩|⟨v1,h1,hf⟩
 ·refine AR.step Z Z Z (AO.call Z _ Z Z Ii (D8 _ _ h1 ?_));cases hf;refine⟨[.pointer (some ⟨b4,0,none⟩),.pointer (some ⟨b5,0,none⟩)],_,Z,Z,Z,(AR.step Z Z Z (AO.abP Z Z ahB (cs 3 Z (AR.step Z Z Z (AO.aP Z aer (fun b6=>?_))))))⟩;refine AR.dx Z Z (AO.eU (i:=0) Z Z Z aeQ Z Z Z Z Z (cs 1 Z (AR.nil [0,1,2,3] Z (AW.sr ?_))));refine cs 1 Z (AR.nil [0,1,2,9] Z (AW.cond Z (fun _=>?_) (fun hh=>by cases hh)));refine AW.agt 1 3 4 [_] [_,_] mixed (by kernel_rfl) (by kernel_rfl) (by kernel_rfl) Z Z Z (List.Perm.refl _) ?_;refine Ev.cons Z Z Z (AO.build Z iX aeX Z zg) (Ev.nil ?_);show Ev _ _ _ _ _ _ _;refine Ev.cs dK 1 Z (Ev.cons Z Z Z (AO.dh (i:=0) Z Z Z tV Z Z zg) (Ev.nil (TF.dx Z Z (AO.eU (i:=1) Z Z Z tQ Z Z Z Z Z ?_))));refine TF.nil ?_;show AR _ _ _ _ _ _ _ _;refine AR.dx Z Z (AO.eU (i:=1) Z Z Z tV Z Z Z Z Z (AR.nil [] Z ?_));exact⟨rfl,_,⟨_,_,rfl,⟨_,_,2,_,_,rfl,rfl,tQ,rfl⟩,⟨_,_,rfl,⟨_,_,1,_,_,rfl,rfl,tV,rfl⟩,rfl⟩⟩,[],apZ _,h⟩
 refine AR.step Z Z Z (AO.call Z _ Z Z Ii (D8 _ _ h1 ?_));cases hf;refine AR.dx Z Z (AO.eU (i:=1) Z Z Z tQ Z Z Z Z Z (AR.dx Z Z (AO.eU (i:=0) Z Z Z tV Z Z Z Z Z (AR.nil [4,5] Z (AW.ret ?_)))));refine⟨[.pointer (some ⟨b4,0,none⟩),.pointer (some ⟨b5,0,none⟩)],_,Z,Z,Z,(AR.step Z Z Z (AO.Yf (p:=.agg [iP 0]) Z Z ahD (fun _ _=>by simp only[dP];exact⟨[.int .i64 0],Z,bA.cons (by simp[dP]) bA.nil⟩) ?_))⟩;refine cs 3 Z (AR.step Z Z Z (AO.aP Z aer (fun b6=>(AR.dx Z Z (AO.eU (i:=0) Z Z Z aeQ Z Z Z Z Z (cs 1 Z ?_))))));refine AR.nil [3] Z (AW.sr (cs 1 Z (AR.nil [9] Z ?_)));refine AW.cond Z (fun hh=>by cases hh) (fun _=>?_);refine AW.skip ?_;exact⟨rfl,_,⟨_,_,rfl,⟨_,_,2,_,_,rfl,rfl,tQ,rfl⟩,⟨_,_,rfl,⟨_,_,1,_,_,rfl,rfl,tV,rfl⟩,rfl⟩⟩,[],apZ _,h⟩
end
abbrev ML(lV:ah→Option ah):Prop:=∀(wP:ah) {dI:ah},lV wP=some dI→∀ {τ:List bC} {Q:eP→List bC→Prop} (h:Q (.ret (.agg (aX dI))) τ),PC 127 [.agg (aX wP)] τ Q
theorem V8(lV)(Sg:ML lV)(v1:ah){r0:ah}(hf:BK lV v1=some r0)(h:Q (.ret (.agg (aX r0))) τ):PC 127 [.agg (aX v1)] τ Q:=by
 unfold BK at hf;refine BN 31 [.cell 2 34] [0] Tryz.func127 Z Z Z Z Z (W 1 Z (AS Z (AO.aP Z iX (fun b2=>(U 1 Z (AS Z (AO.aP Z iX (fun b3=>(Rr 7 [0,0,0] Z Z (AS Z (AO.bI (l:=v1.aN) Z Z Z Z jV Z (ah.aQ _) ?_)))))))))));refine J 1 Z (AW.row 6 34 (AW.row 1 9 (LK4 (fun x1 bD v2 v3=>[(1,.ref (aX v1)),(2,pP b2),(3,pP b3),(10,.list (ah.bO v1.aN)),(11,iP (v1.aN.length:Int)),(12,iP x1)]) (fun x1 bD v2 v3=>[.row v3 (List.map lH bD.keys).length 1 9,.row v2 (ah.bO bD.aN).length 6 34,.box b3 [iP bD.kind,.bool bD.dR,iP bD.dA,.str bD.bR,.own v2 (ah.bO bD.aN),.own v3 (List.map lH bD.keys)],.box b2 [iP 0,.bool false,iP 0,.str ([]:Str),.own (.slice none 0 0) [],.own (.slice none 0 0) []]]) (fun dL x1 bD v2 v3=>wo lV v1 dL x1 bD=some r0) BIG 0 (ah.mk v1.kind v1.dR v1.dA v1.bR [] []) (.slice none 0 0) (.slice none 0 0) Z Z hf (fun _ _ _ _ hz=>dH hz) ?_)));intro dL x1 bD v2 v3 hf;rw[wo]at hf;refine V 1 Z (C hf Z (fun h1 hf=>?_) fun h1 hf=>?_)
 ·refine B1 hf fun e1 h2 hf=>W 0 Z (AS Z (AO.bQ h2 Z Z (ah.aQ _) Z jV (ah.aV _) Z (U 1 Z (AS Z (AO.aP Z iX (fun b5=>(Rw 1 [0] Z Z (AW.draw 5 mixed (by kernel_rfl) Z ?_))))))));refine Ev.cs dK 1 Z (Ev.cons Z Z Z (AO.dh (i:=3) Z Z Z Ye Z Z zg) (Ev.cons Z Z Z (AO.dh (i:=0) Z Z Z tQ Z Z zg) ?_));refine B1 hf fun x2 h3 hf=>Ev.cons rfl rfl rfl (AO.call rfl _ rfl rfl aku (Sg _ h3 ⟨rfl,rfl⟩)) (Ev.cons rfl rfl rfl (AO.dO (ah.bO [x2]) rfl Gl rfl rfl rfl (by first|rfl|simp only[ah.aV,ah.bO]) ⟨rfl,rfl⟩) ?_)
  refine Ev.nil ?_;show AR _ _ _ _ _ _ _ _;refine B1 hf fun x3 h4 hf=>AS Z (AO.jO (i:=2) (l:=bD.aN) (m:=[x2]) h4 Z Z Z Z Z Z Z Gl jV (ah.aQ _) (ah.aQ _) (ah.aQ _).symm (ah.gG) (ah.cells_one) (by decide) (fun v4 s1 hs1=>?_));cases hs1;refine Rn 4 [3] Z Z (AR.drop1 ?_);exact N 0 Z ⟨(bV (x1+1)),(ah.mk bD.kind bD.dR bD.dA bD.bR x3 bD.keys),v4,v3,Z,Z,Z,hf⟩
 refine B1 hf fun x4 h5 hf=>Wr 4 [2] Z Z (AS Z (AO.jO (i:=0) (l:=bD.keys) (m:=v1.keys) h5 Z Z Z Z Z Z Z vw ku Z Z Z (fun _=>Z) (fun _=>Z) (by decide) (fun v5 s2 hs2=>?_)));cases hs2;cases hf;exact Rx 4 [2,2,3] Z Z (ZC [3] Z Z h)
theorem WY:∀k:Nat,(ML (mU k)):=by
 intro k
 induction k with
 | zero=>exact fun _ _ hz=>by first|cases hz|(unfold mU at hz;cases hz)
 | succ k ih=>exact fun wP dI hz τ Q hq=>V8 (mU k) ih wP hz hq
theorem XC(wP:ah){dI:ah}(hf:wU wP=some dI)(h:Q (.ret (.agg (aX dI))) τ):PC 127 [.agg (aX wP)] τ Q:=
 ((WY BIG)) wP hf h
section
variable [BZ]
theorem ZE(e1:ak)(eY:List aB){r0:ah}{r1:Int}(hf:Cj e1 eY=some (r0,r1))(h:Q (.ret (.tuple [.agg (aX r0),iP r1])) τ):PC 76 [.agg (cZ e1),.list (List.map aB.cells eY)] τ Q:=by
 unfold Cj at hf;refine BN 28 [.cell 4 34,.tmp 5] [0,1] Tryz.func76 Z Z Z Z Z (W 1 Z (AS Z (AO.aP Z iX (fun b4=>?_))));obtain⟨s1,f1,h1,hf⟩:=dD hf;refine U 3 Z (CL Z (UK _ _ h1 (J 7 Z (C hf Z (fun h2 hf=>?_) fun h2 hf=>?_))))
 ·cases hf;exact Wx 4 [0] Z Z (ZC [0] Z Z h)
 obtain⟨x1,f2,h3,hf⟩:=dD hf;refine W 2 Z (CL Z (N8 _ _ h3 (U 3 Z (AS Z (AO.aP Z iX (fun b8=>?_))))));refine B1 hf fun x2 h4 hf=>Rr 3 [0,0] Z Z (CL Z (XC _ h4 ?_));cases hf;exact Rx 3 [1] Z Z (ZC [1] Z Z h)
end
section
variable [BZ]
theorem MG(p1:aY)(eY:List aB){r0:Str}{r1:Int}(hf:pF p1 eY=some (r0,r1))(h:Q (.ret (.tuple [.str r0,iP r1])) τ):PC 42 [.agg (adF p1),.list (List.map aB.cells eY)] τ Q:=by
 unfold pF at hf;refine BN 27 [.tmp 4,.tmp 5] [0,1] Tryz.func42 Z Z Z Z Z (V 6 Z (C hf Z (fun h1 hf=>?_) fun h1 hf=>?_))
 ·cases hf;exact M 4 Z (Y Z h)
 obtain⟨x1,mI,h2,hf⟩:=dD hf;refine W 3 Z (CL Z (ZE _ _ h2 (U 3 Z (AS Z (AO.aP Z iX (fun b6=>(Rw 4 [0] Z Z (C hf Z (fun h3 hf=>?_) fun h3 hf=>?_))))))))
 ·cases hf;exact M 3 Z (Y Z h)
 replace hf:=(JR _).trans hf;obtain⟨x2,x3,h4,hf⟩:=dD hf;refine Wr 1 [0] Z Z (CL Z (MB _ h4 ?_));cases hf;exact N 4 Z (Y Z h)
end
section
variable [BZ]
theorem wJ(s1:Str)(eY:List aB){r0:Str}{r1:Int}(hf:fU s1 eY=some (r0,r1))(h:Q (.ret (.tuple [.str r0,iP r1])) τ):PC 17 [.str s1,.list (List.map aB.cells eY)] τ Q:=by
 unfold fU at hf;refine BN 50 [.tmp 4,.tmp 5] [0,1] Tryz.func17 Z Z Z Z Z ?_;obtain⟨ps1,x1,mI,h1,hf⟩:=nH hf;refine W 3 Z (CL Z (uJ _ h1 (J 9 Z (C hf Z (fun h2 hf=>?_) fun h2 hf=>?_))))
 ·cases hf;exact M 3 Z (Y Z h)
 refine B1 hf fun Db h3 hf=>W 1 Z (CL Z (Tv _ h3 (J 3 Z (C hf Z (fun h4 hf=>?_) fun h4 hf=>?_))))
 ·cases hf;exact M 3 Z (Y Z h)
 refine W 0 Z (AS Z (AO.E8 (eu:=5) Z XQ Z (fun b10=>(U 1 Z (AS Z (AO.bI (l:=ps1) Z Z Z Z Gt Z Z (J 1 Z (LK3 (fun x2 b1 v1=>[(1,.list (List.map aB.cells eY)),(10,pP b10),(29,.list (List.map aY.cells ps1)),(30,iP (ps1.length:Int)),(31,iP x2)]) (fun x2 b1 v1=>[.K8 b10 v1 72 5 b1]) (fun dL x2 b1 v1=>iG eY ps1 dL x2 b1=some (r0,r1)) BIG 0 [] (.slice none 0 0) Z Z hf (fun _ _ _ hz=>dH hz) ?_))))))));intro dL x2 b1 v1 hf;rw[iG]at hf;refine V 1 Z (C hf Z (fun h5 hf=>?_) fun h5 hf=>?_)
 ·refine B1 hf fun e1 h6 hf=>W 0 Z (AS Z (AO.bQ h6 Z Z Z Z Gt (aY.aV _) Z (U 1 Z (AS Z (AO.aP Z XT (fun b12=>?_))))));obtain⟨t1,acA,h7,hf⟩:=dD hf;refine Rr 3 [0,0] Z Z (CL Z (MG _ _ h7 (J 7 Z (C hf Z (fun h8 hf=>?_) fun h8 hf=>?_))))
  ·cases hf;exact M 3 Z (Y Z h)
  refine B1 hf fun b2 h9 hf=>W 1 Z (CL Z (AC.one 1 Z (nE h9 (fun v2=>⟨_,Z,(gy 2 Z (AR.drop1 ?_))⟩))));exact N 0 Z ⟨(bV (x2+1)),b2,v2,Z,Z,Z,hf⟩
 refine W 0 Z (CL Z (AC.one 0 Z (VN ⟨_,Z,(J 1 Z (C hf Z (fun h10 hf=>?_) fun h10 hf=>?_))⟩)))
 ·cases hf;exact M 2 Z (Y Z h)
 refine W 0 Z (CL Z (AC.L6 0 Z (yT ?_)));cases hf;exact N 2 Z (Y Z h)
end
theorem yR{β:Type}(l:Nat)(T:β→List bC→Prop)(y:β→ak→Option (Bool × β))(hy:∀s x1 b s2 τ,y s x1=some (b,s2)→T s τ→AY Tryz.prog l [.agg (cZ x1)] τ (fun out σ'=>out=.ret (.bool b)∧T s2 σ'))
  (ps1:List aY) {s1 s2:β} (hf:rO y s1 ps1=some s2) {τ:List bC} (hT:T s1 τ) {Q:eP→List bC→Prop} (h:∀τ',T s2 τ'→Q (.ret (.tuple [])) τ'):
  PC 80 [.val (.func (.yield l) #[] #[]),.ref [.list (List.map aY.cells ps1)]] τ Q:=by
 unfold rO at hf;refine AC.mD 21 [] [0,1] Tryz.func80 Z Z Z Z Z (AW.sr (AR.step Z Z Z (AO.EO Z Z Qv Z (AR.step Z Z Z (AO.bI (l:=ps1) Z Z Z Z Gt Z Z ?_)))));refine cs 1 Z (AR.nil [0,5,6,7] Z (AW.block (AW.afW (fun(s:β) (τ0:List bC) (i1:Int)=>[(0,.val (.func (.yield l) #[] #[])),(5,.list (List.map aY.cells ps1)),(6,iP (ps1.length:Int)),(7,iP i1)]) (fun s τ0 i1=>τ0) (fun dL s τ0 i1=>mF y ps1 dL s i1=some s2∧T s τ0) BIG s1 τ 0 Z Z ⟨hf,hT⟩ (fun _ _ _ hz=>dH hz.1) ?_)));intro dL s3 τ3 i1 hfI;obtain⟨hf,hT⟩:=hfI;rw[mF]at hf;refine AW.sr (cs 1 Z (AR.nil [0,5,6,7,8] Z (AW.seq ?_)));refine AW.cond Z (fun h1=>?_) (fun h1=>?_)
 ·replace hf:=pV h1 hf;refine AW.skip (AW.seq (AW.block (AW.sr ?_)));refine B1 hf fun p1 h2 hf=>?_;refine AR.step Z Z Z (AO.bQ h2 Z Z Z Z Gt (aY.aV _) Z (cs 1 Z (AR.step Z Z Z (AO.aP Z XT (fun b4=>(AR.dx Z Z (AO.eU (i:=0) Z Z Z alz Z Z Z Z Z ?_)))))));refine AR.nil [0,4,5,6,7] Z (AW.seq (AW.abZ (E9.step Z Z Z Z (AO.cB Z Z air ?_))));refine E9.step Z Z Z Z (AO.dh (i:=0) Z Z Z amT Z Z (E9.step Z Z Z Z (AO.calc' Z ?_)));cases hp:p1.Z0 with
  | false=>
   replace hf:=nU hp hf;refine E9.of Z (cs 6 Z (AR.drop1 (AR.nil [0,5,6,7,19] Z ?_)));refine AW.cond Z (fun hh=>by cases hh) (fun _=>?_);refine AW.skip (AW.region (cs 2 Z (AR.nil [0,5,6,7] Z ?_)));exact⟨s3,τ3,(bV (i1+1)),Z,Z,Z,hf,hT⟩
  | true=>
   replace hf:=pV hp hf;obtain⟨b1,s4,h3,hf⟩:=dD hf;refine E9.run Z Z Z Z (E9.step Z Z Z Z (AO.calc' Z (E9.run Z Z Z Z (E9.step Z Z Z Z (AO.cB Z Z aiq ?_)))));refine E9.run Z Z Z Z (E9.step Z Z Z Z (AO.dh (i:=0) Z Z Z lG Z Z (E9.drop1 (E9.run Z Z Z Z ?_))));refine E9.ajG Z Z Z Z Z _ Z Z (hy _ _ _ _ _ h3 hT) fun τ4 hT4=>(E9.of Z (cs 2 Z (AR.nil [0,5,6,7,19] Z ?_)));refine AW.cond Z (fun h5=>?_) (fun h5=>?_)
   ·cases pV h5 hf;refine AW.ret ?_;exact⟨rfl,_,rfl,_,List.Sublist.refl _,h _ hT4⟩
   ·replace hf:=nU h5 hf;refine AW.skip (AW.region (cs 2 Z (AR.nil [0,5,6,7] Z ?_)));exact⟨s4,τ4,(bV (i1+1)),Z,Z,Z,hf,hT4⟩
 ·cases nU h1 hf;refine AW.exit ?_;exact⟨rfl,_,rfl,_,List.Sublist.refl _,h _ hT⟩
theorem Ap(ps1:List aY)(h:Q (.ret (.fn 80 [.ref [.list (List.map aY.cells ps1)]])) τ):PC 46 [.list (List.map aY.cells ps1)] τ Q:=by
 refine BN 4 [.tmp 2] [0] Tryz.func46 Z Z Z Z Z ?_;exact M 4 Z (Y Z h)
def ac3:Go.Shelf.Ren:=⟨fun|6=>135|15=>216|14=>215|28=>296|29=>297|20=>288|21=>289|22=>290|23=>291|24=>292|25=>293|26=>294|27=>295|46=>339|47=>340|48=>341|49=>342|50=>343|57=>380|n=>n,fun|22=>32|24=>9|25=>132|3=>3|39=>218|0=>0|53=>269|55=>271|4=>4|46=>263|45=>262|50=>239|5=>5|9=>9|66=>287|70=>291|76=>318|77=>319|n=>n,fun|n=>n⟩
theorem alB:Go.Proofs.SlLaysF.n6 Tryz.prog ac3:={
 mixed:=by kernel_rfl
 f6:=⟨Tryz.f135.name,by decide,Tryz.func135.trans (ap0 some (by kernel_rfl))⟩
 f14:=⟨Tryz.f215.name,by decide,Tryz.func215.trans (ap0 some (by kernel_rfl))⟩
 f15:=Tryz.func216.trans (ap0 some (by kernel_rfl))
 f20:=⟨Tryz.f288.name,by decide,Tryz.func288.trans (ap0 some (by kernel_rfl))⟩
 f21:=⟨Tryz.f289.name,by decide,Tryz.func289.trans (ap0 some (by kernel_rfl))⟩
 f22:=⟨Tryz.f290.name,by decide,Tryz.func290.trans (ap0 some (by kernel_rfl))⟩
 f23:=⟨Tryz.f291.name,by decide,Tryz.func291.trans (ap0 some (by kernel_rfl))⟩
 f24:=⟨Tryz.f292.name,by decide,Tryz.func292.trans (ap0 some (by kernel_rfl))⟩
 f25:=⟨Tryz.f293.name,by decide,Tryz.func293.trans (ap0 some (by kernel_rfl))⟩
 f26:=⟨Tryz.f294.name,by decide,Tryz.func294.trans (ap0 some (by kernel_rfl))⟩
 f27:=⟨Tryz.f295.name,by decide,Tryz.func295.trans (ap0 some (by kernel_rfl))⟩
 f28:=Tryz.func296.trans (ap0 some (by kernel_rfl))
 f29:=Tryz.func297.trans (ap0 some (by kernel_rfl))
 f46:=⟨Tryz.f339.name,by decide,Tryz.func339.trans (ap0 some (by kernel_rfl))⟩
 f47:=Tryz.func340.trans (ap0 some (by kernel_rfl))
 f48:=Tryz.func341.trans (ap0 some (by kernel_rfl))
 f49:=⟨Tryz.f342.name,by decide,Tryz.func342.trans (ap0 some (by kernel_rfl))⟩
 f50:=⟨Tryz.f343.name,by decide,Tryz.func343.trans (ap0 some (by kernel_rfl))⟩
 f57:=⟨Tryz.f380.name,by decide,Tryz.func380.trans (ap0 some (by kernel_rfl))⟩
 t0:=Tryz.underlying0
 a0:=Tryz.isAgg0
 z0:=Tryz.sizeOf0
 v0:=Tryz.zeroValue0
 t3:=Tryz.underlying3
 a3:=Tryz.isAgg3
 z3:=Tryz.sizeOf3
 v3:=Tryz.zeroValue3
 t4:=Tryz.underlying4
 a4:=Tryz.isAgg4
 z4:=Tryz.sizeOf4
 v4:=Tryz.zeroValue4
 t5:=Tryz.underlying5
 a5:=Tryz.isAgg5
 z5:=Tryz.sizeOf5
 v5:=Tryz.zeroValue5
 t9:=Tryz.underlying9
 a9:=Tryz.isAgg9
 z9:=Tryz.sizeOf9
 v9:=Tryz.zeroValue9
 t22:=Tryz.underlying32
 a22:=Tryz.isAgg32
 z22:=Tryz.sizeOf32
 v22:=Tryz.zeroValue32
 a24:=Tryz.isAgg9
 z24:=Tryz.sizeOf9
 t25:=Tryz.underlying132
 a25:=Tryz.isAgg132
 z25:=Tryz.sizeOf132
 v25:=Tryz.zeroValue132
 t39:=Tryz.underlying218
 a39:=Tryz.isAgg218
 z39:=Tryz.sizeOf218
 v39:=Tryz.zeroValue218
 t45:=Tryz.underlying262
 a45:=Tryz.isAgg262
 z45:=Tryz.sizeOf262
 v45:=Tryz.zeroValue262
 t46:=Tryz.underlying263
 a46:=Tryz.isAgg263
 z46:=Tryz.sizeOf263
 v46:=Tryz.zeroValue263
 t50:=Tryz.underlying239
 a50:=Tryz.isAgg239
 z50:=Tryz.sizeOf239
 v50:=Tryz.zeroValue239
 t53:=Tryz.underlying269
 a53:=Tryz.isAgg269
 z53:=Tryz.sizeOf269
 v53:=Tryz.zeroValue269
 t55:=Tryz.underlying271
 a55:=Tryz.isAgg271
 z55:=Tryz.sizeOf271
 v55:=Tryz.zeroValue271
 t66:=Tryz.underlying287
 a66:=Tryz.isAgg287
 z66:=Tryz.sizeOf287
 v66:=Tryz.zeroValue287
 t70:=Tryz.underlying291
 a70:=Tryz.isAgg291
 z70:=Tryz.sizeOf291
 v70:=Tryz.zeroValue291
 t76:=Tryz.underlying318
 a76:=Tryz.isAgg318
 z76:=Tryz.sizeOf318
 v76:=Tryz.zeroValue318
 t77:=Tryz.underlying319
 a77:=Tryz.isAgg319
 z77:=Tryz.sizeOf319
 v77:=Tryz.zeroValue319}
def Xt:Go.Shelf.Ren:=⟨fun|194=>138|n=>n,fun|31=>32|9=>9|3=>3|4=>4|0=>0|n=>n,fun|n=>n⟩
theorem agE:Go.Proofs.Lays.n194 Tryz.prog Xt:=by repeat' first|(intros;kernel_rfl)|constructor|decide
theorem MZ:∀l:List Str,(List.map lH l).flatten=l.map PV.str
 | []=>Z
 | s::l=>ap0 (PV.str s::·) (MZ l)
theorem NS(l:List Str)(hl:l.length≤sI){Q:eP→List bC→Prop}(h:∀v,Q (.ret (.val v)) [.buf v l.length 1 9 (l.map PV.str)]):PC 134 [sP l] [] Q:=by
 refine AC.mD 8 [.tmp 2] [0] Tryz.func134 Z Z Z Z Z (AW.sr (AR.step Z Z Z (AO.jv Z Z (AR.nil [0] Z ?_))));refine AW.seq (AW.sr (cs 1 Z (AR.step Z Z Z (AO.BL Z Z aiW (fun b hb=>?_)))));refine AR.nil [0,4] Z (AW.cond Z (fun h1=>?_) (fun h1=>?_))
 ·obtain rfl:l=[]:=ap3.1 (hb h1);refine AW.sr (AR.step Z Z Z (AO.LZ Z Z (AR.nil [2] Z (AW.akX 1 9 ?_))));refine AW.ret ?_;exact⟨rfl,_,⟨_,_,rfl,rfl,rfl⟩,_,List.Sublist.refl _,h _⟩
 refine AW.skip (AW.sr (AR.step Z Z Z (AO.wL [] Z vw Z Z Z Z Z (fun v1=>(cs 1 Z ?_)))));refine AR.step Z Z Z (AO.TH (i:=0) (l2:=List.map lH l) Z Z Z Z Z Z Z vw ku (fun y hy=>?_) (fun y hy=>?_) ?_ ?_ (fun v2 s1 hs1=>?_))
 ·obtain⟨s,_,rfl⟩:=ao4.1 hy;rfl
 ·obtain⟨s,_,rfl⟩:=ao4.1 hy;rfl
 ·rw[ap1];unfold sI at hl;unfold maxLen;omega
 ·rw[ap1];unfold sI at hl;omega
 cases hs1;refine cs 1 Z (AR.nil [2] Z (AW.ret ?_));have hv:=h v2;rw[←MZ,show l.length=(List.map lH l).length from (ap1 _).symm]at hv;exact⟨rfl,_,⟨_,_,rfl,rfl,rfl⟩,_,List.Sublist.refl _,hv⟩
theorem Pm(l:List Str){Q:eP→List bC→Prop}(h:Q (.ret (sP l)) []):PC 137 [sP l] [] Q:=by
 refine BD 9 [.tmp 2] [0] Tryz.func137 Z Z Z Z Z (W 0 Z (AS Z (AO.jv Z Z (U 2 Z (AS Z (AO.bI (l:=l) Z Z Z Z ku Z Z (U 1 Z (AS Z (AO.bI (l:=l) Z Z Z Z ku Z Z ?_)))))))));refine AS Z (AO.clip (l:=List.map lH l) Z ku Z (by rw[ap1];rfl) (by rw[ap1];rfl) ?_);exact N 1 rfl ⟨rfl,_,⟨_,_,rfl,rfl,rfl⟩,_,List.Sublist.refl _,h⟩
theorem afP:Go.Sort.SWO (Go.Proofs.ltOf fun a b:rD=>gI a.1 b.1) where
 irrefl:=fun x=>by simp[Go.Proofs.ltOf,OI]
 trans:=fun x y z h1 h2=>by
  simp only[Go.Proofs.ltOf,decide_eq_true_eq]at *;exact Bv h1 h2
 ntrans:=fun x y z h1 h2=>by
  simp only[Go.Proofs.ltOf,decide_eq_false_iff_not]at *;exact Es h1 h2
theorem Tn(Ip:List Str){r0:List Str}(hf:FV Ip=some r0)(h:Q (.ret (sP r0)) τ):PC 82 [sP Ip] τ Q:=by
 unfold FV at hf;split at hf
 case isFalse=>cases hf
 rename_i hg;simp only[Bool.and_eq_true,List.all_eq_true,decide_eq_true_eq]at hg;obtain⟨hg1,hg2⟩:=hg;cases hf;refine AC.none (AC.mD 11 [.tmp 2] [0] Tryz.func82 Z Z Z Z Z (AW.sr (AR.step Z Z Z (AO.jv Z Z ?_))));refine AR.nil [0] Z (AW.sr (cs 1 Z (AR.step Z Z Z (AO.call Z _ Z Z akt (NS Ip hg2 fun v=>?_)))));refine cs 1 Z (AR.nil [3] Z (AW.sr (cs 1 Z ?_)));refine AR.step Z Z Z (AO.call Z _ Z Z aks (AC.aeZ alB aaF (cf:=gI) (fun a b ha hb=>by letI:iD:=Mk;exact wK a b (JC ha hb) Z) afP (fun x y h1 h2=>xB (by have:=rJ x.1 y.1;omega)) hg1 (by unfold sI at hg2;omega) ?_));refine AR.nil [3] Z (AW.sr (cs 1 Z (AR.step Z Z Z (AO.call Z _ Z Z akq (AC.agD agE (by rw[List.length_mergeSort];unfold sI at hg2;omega) fun v2=>?_)))));refine AR.freeze 9 0 (List.map lH (afO Ip)) rfl rfl (MZ _) (fun x hx=>by obtain⟨s,_,rfl⟩:=ao4.1 hx;rfl) (ap1 _) ?_;refine AR.step Z Z Z (AO.call Z _ Z Z akr (AC.none (Pm _ (cs 1 Z (AR.nil [2] Z (AW.ret ?_))))));exact⟨rfl,_,⟨_,_,rfl,rfl,rfl⟩,[],apZ _,h⟩
theorem O3(bo bv:Nat)(go:ak→List Str→Option (List Str))(hgo:∀(e1:ak) (bD:List Str) {r0:List Str},go e1 bD=some r0→∀ {v1:Value} {Q:eP→List bC→Prop},(∀vr,Q (.ret (.tuple [])) [.row vr (List.map lH r0).length 1 9,.box bo [.own vr (List.map lH r0)],.box bv [.fn 81 [pP bo,pP bv]]])→PC 81 [.agg (cZ e1),pP bo,pP bv] [.row v1 (List.map lH bD).length 1 9,.box bo [.own v1 (List.map lH bD)],.box bv [.fn 81 [pP bo,pP bv]]] Q)
  (e1:ak) (bD:List Str) {r0:List Str} (hf:AJ go e1 bD=some r0) {v1:Value} {Q:eP→List bC→Prop} (h:∀vr,Q (.ret (.tuple [])) [.row vr (List.map lH r0).length 1 9,.box bo [.own vr (List.map lH r0)],.box bv [.fn 81 [pP bo,pP bv]]]):PC 81 [.agg (cZ e1),pP bo,pP bv] [.row v1 (List.map lH bD).length 1 9,.box bo [.own v1 (List.map lH bD)],.box bv [.fn 81 [pP bo,pP bv]]] Q:=by
 unfold AJ at hf;refine AC.mD 25 [] [0,1,2] Tryz.func81 Z Z Z Z Z (AW.sr (AR.step Z Z Z (AO.Gc Z Z Z (AR.nil [1,2,3] Z ?_))));refine AW.seq (AW.ams (fun(l:List Str) (v:Value)=>[(1,pP bo),(2,pP bv),(3,.ref (cZ e1))]) (fun l v=>[.row v (List.map lH l).length 1 9,.box bo [.own v (List.map lH l)],.box bv [.fn 81 [pP bo,pP bv]]]) (fun l v=>oK go e1 BIG l 0=some r0) ?_ ?_)
 ·refine AW.sr (cs 3 Z (AR.nil [1,2,3,8] Z (AW.cond Z (fun h1=>?_) (fun h1=>?_))))
  ·replace hf:=pV h1 hf;refine AW.region (AR.step Z Z Z (AO.dh (i:=1) Z Z Z ai0 Z Z (cs 2 Z (AR.step Z Z Z (AO.dO (List.map lH ([e1.name]:List Str)) Z vw Z Z Z Z ?_)))));refine B1 hf fun xI h2 hf=>AR.step Z Z Z (AO.jO (i:=0) (l:=bD) (m:=[e1.name]) h2 Z Z Z Z Z Z Z vw ku Z Z Z (fun _=>Z) (fun _=>Z) (by decide) (fun v2 s1 hs1=>?_));cases hs1;refine AR.dx Z Z (AO.eU (i:=1) Z Z Z ai0 Z Z Z Z Z (AR.nil [1,2,3] Z ?_));exact⟨xI,v2,Z,Z,Z,hf⟩
  replace hf:=nU h1 hf;refine AW.settle [1,2,3] Z (AW.skip ?_);exact⟨bD,v1,Z,Z,Z,hf⟩
 intro xI v2 hf;refine AW.sr (cs 2 Z (AR.step Z Z Z (AO.bI (l:=e1.args) Z Z Z Z jD Z (ak.aQ _) (cs 1 Z ?_))));refine AR.nil [1,2,15,16,17] Z (AW.block (AW.settle [1,2,15,16,17] Z (AW.afW (fun(l:List Str) (v:Value) (i1:Int)=>[(1,pP bo),(2,pP bv),(15,.list (ak.bO e1.args)),(16,iP (e1.args.length:Int)),(17,iP i1)]) (fun l v i1=>[.row v (List.map lH l).length 1 9,.box bo [.own v (List.map lH l)],.box bv [.fn 81 [pP bo,pP bv]]]) (fun dL l v i1=>oK go e1 dL l i1=some r0) BIG xI v2 0 Z Z hf (fun _ _ _ hz=>dH hz) ?_)));intro dL ah3 v3 i1 hf;rw[oK]at hf;refine AW.sr (cs 1 Z (AR.nil [1,2,15,16,17,18] Z (AW.seq ?_)));refine AW.cond Z (fun h1=>?_) (fun h1=>?_)
 ·replace hf:=pV h1 hf;refine AW.skip (AW.seq (AW.block (AW.sr ?_)));refine B1 hf fun a1 h2 hf=>AR.step Z Z Z (AO.bQ h2 Z Z (ak.aQ _) Z jD (ak.aV _) Z (cs 1 Z (AR.step Z Z Z (AO.aP Z nR (fun b5=>(AR.dx Z Z (AO.eU (i:=0) Z Z Z lG Z Z Z Z Z ?_)))))));refine AR.nil [1,2,5,15,16,17] Z (AW.region (AR.step Z Z Z (AO.dh (i:=3) Z Z Z ajO Z Z (AR.step Z Z Z (AO.dh (i:=0) Z Z Z lG Z Z ?_)))));refine AR.drop1 ?_;refine B1 hf fun afB h3 hf=>AR.step Z Z Z (AO.call Z _ Z Z alO (hgo _ _ h3 fun v4=>(AR.nil [1,2,15,16,17] Z (AW.region (cs 2 Z ?_)))));refine AR.nil [1,2,15,16,17] Z ?_;exact⟨afB,v4,(bV (i1+1)),Z,Z,Z,hf⟩
 replace hf:=nU h1 hf;refine AW.exit ?_;cases hf;exact⟨rfl,_,rfl,_,List.Sublist.refl _,h v3⟩
theorem Gq(bo bv:Nat):∀(k:Nat) (e1:ak) (bD:List Str) {r0:List Str},wI k e1 bD=some r0→∀ {v1:Value} {Q:eP→List bC→Prop},(∀vr,Q (.ret (.tuple [])) [.row vr (List.map lH r0).length 1 9,.box bo [.own vr (List.map lH r0)],.box bv [.fn 81 [pP bo,pP bv]]])→PC 81 [.agg (cZ e1),pP bo,pP bv] [.row v1 (List.map lH bD).length 1 9,.box bo [.own v1 (List.map lH bD)],.box bv [.fn 81 [pP bo,pP bv]]] Q
 | 0,_,_,_,hz=>dH hz
 | k+1,e1,bD,r0,hz=>by
  intro h;exact O3 bo bv (wI k) (fun e1 bD r0 hz=>Gq bo bv k e1 bD hz) e1 bD hz h
theorem UM(e1:ak){r0:List Str}(hf:I7 e1=some r0)(h:Q (.ret (sP r0)) τ):PC 47 [.agg (cZ e1)] τ Q:=by
 unfold I7 at hf;refine BN 11 [.tmp 2] [0] Tryz.func47 Z Z Z Z Z (W 1 Z (AS Z (AO.jv Z Z (U 0 Z (AR.row 1 9 (AS Z (AO.aP Z ali (fun bo=>(U 0 Z (AS Z (AO.aP Z ajF (fun bv=>?_))))))))))));refine B1 hf fun bD h1 hf=>Rr 4 [0,0] Z Z (CL Z (AC.perm ((List.Perm.swap _ _ _).trans ((List.Perm.cons _ (List.Perm.swap _ _ _)).trans (List.Perm.swap _ _ _))) (Gq bo bv BIG e1 [] h1 fun v1=>(Rr 1 [1] Z Z (CL Z (Tn _ hf ?_))))));exact N 1 Z (Y Z h)
section
variable [BZ]
theorem Tk(s1:Str){r0:List Str}{r1:Int}(hf:FU s1=some (r0,r1))(h:Q (.ret (.tuple [sP r0,iP r1])) τ):PC 19 [.str s1] τ Q:=by
 unfold FU at hf;refine AC.none (AC.Ru 32 [.tmp 2,.tmp 3] [0] Tryz.func19 Z Z Z Z Z (AW.sr (cs 2 Z ?_)));refine AR.nil [0] Z (AW.sr (cs 1 Z ?_));obtain⟨ps1,jd,mI,h1,hf⟩:=nH hf;refine AR.step Z Z Z (AO.call Z _ Z Z ajc (uJ _ h1 (cs 7 Z (AR.nil [0,4,6] Z (AW.seq ?_)))));refine AW.sr (cs 2 Z (AR.nil [0,4,6,16] Z (AW.cond Z (fun h2=>?_) (fun h2=>?_))))
 ·cases pV h2 hf;refine AW.sr (cs 1 Z (AR.step Z Z Z (AO.jv Z Z (cs 1 Z ?_))));refine AR.nil [2,3] Z (AW.ret ?_);exact .inl ⟨rfl,_,⟨_,_,rfl,rfl,_,_,rfl,rfl,rfl⟩,[],apZ _,h⟩
 replace hf:=nU h2 hf;refine B1 hf fun a1 h3 hf=>?_;refine B1 hf fun x1 h4 hf=>?_;cases hf;refine AW.skip (AW.sr (AR.step Z Z Z (AO.build Z nR aar Z (AR.step Z Z Z (AO.aP Z nR (fun b7=>?_))))));refine AR.dx Z Z (AO.eU (i:=0) Z Z Z lG Z Z Z Z Z (AR.nil [4,7] Z (AW.akU 0 [iP 9,.str ([]:Str),iP 0,.bool false,iP 0,.str ([]:Str),.own (.slice none 0 0) [],.own (.slice none 0 0) [],.val (.slice none 0 0),.own (.slice none 0 0) []] Z (fun w m vs hv=>bA.LZ 8 _ vs Z hv) (AW.akX 10 37 ?_))));refine AW.seq (AW.sr (cs 1 Z (AR.step Z Z Z (AO.call Z _ Z Z ai8 (Ap _ ?_)))));refine AR.nil [7,20] Z (AW.block ?_);refine AW.QV (β:=List ak) (X:=ak) Z ai6 (fun x1=>[.agg (cZ x1)]) (fun _=>Z) (by decide) yD (fun l τ=>∃v,τ=[.buf v l.length 10 37 (List.flatMap ak.cells l),.box b7 [iP 9,.str ([]:Str),iP 0,.bool false,iP 0,.str ([]:Str),.own (.slice none 0 0) [],.own (.slice none 0 0) [],.val v,.own (.slice none 0 0) []]]) (fun _=>none) (s0:=[]) (s1:=a1) ⟨_,Z⟩ Z ?_ ?_ ?_
 ·intro l T' hy τ hT;refine yR l T' yD hy ps1 h3 hT fun τ' hT'=>?_;exact⟨⟨_,Z⟩,hT'⟩
 ·rintro l s x1 b s2 _ hh ⟨v0,rfl⟩;unfold yD at hh;obtain⟨a2,h5,hh⟩:=EY hh;cases hh;obtain⟨Sc,rfl⟩:=qW h5;refine⟨Z,(qA.region Z (AR.step Z Z Z (AO.aP Z nR (fun b8=>(AR.dx Z Z (AO.eU (i:=0) Z Z Z lG Z Z Z Z Z ?_))))))⟩;refine AR.nil [7,8] Z (⟨Z,(qA.block (qA.drawn mixed Z ?_))⟩)
  refine AD.acv 0 10 [] [.box b8 (cZ x1),.buf v0 s.length 10 37 (List.flatMap ak.cells s),.box b7 [iP 9,.str ([]:Str),iP 0,.bool false,iP 0,.str ([]:Str),.own (.slice none 0 0) [],.own (.slice none 0 0) [],.val v0,.own (.slice none 0 0) []]] (fun S e σ=>∃v2:Value,e.get 7=pP b7∧e.get 8=pP b8∧(S 0=true→e.get 22=.val (.pointer (some ⟨b7,8,none⟩)))∧(S 1=true→e.get 23=.val v0)∧(S 2=true→e.get 24=.agg (cZ x1))∧(S 3=true→e.get 25=iP (s.length:Int))∧(S 4=true→e.get 26=.list [[iP 0,.str ([]:Str),iP 0,.bool false,iP 0,.str ([]:Str),.list (ah.bO []),sP ([]),.list (ak.bO []),sP ([])]])
    ∧(S 5=true→e.get 27=.val v2)∧(S 6=true→e.get 28=.val (.pointer (some ⟨v2.blk,s.length*10,none⟩)))∧(S 8=true→e.get 29=.val (.pointer (some ⟨b7,8,none⟩)))∧(S 6=true→S 5=true)∧(S 9=true→S 5=true)∧(S 7=true→S 5=true)∧(S 5=true→S 1=true∧S 3=true)
    ∧σ=[.box b8 (cZ x1),bif S 5 then .buf v2 (s.length+1) 10 37 (List.flatMap ak.cells s++bif S 7 then (cZ x1)else [iP 0,.str ([]:Str),iP 0,.bool false,iP 0,.str ([]:Str),.list (ah.bO []),sP ([]),.list (ak.bO []),sP ([])])else .buf v0 s.length 10 37 (List.flatMap ak.cells s),.box b7 (bif S 9 then [iP 9,.str ([]:Str),iP 0,.bool false,iP 0,.str ([]:Str),.own (.slice none 0 0) [],.own (.slice none 0 0) [],.val v2,.own (.slice none 0 0) []]else [iP 9,.str ([]:Str),iP 0,.bool false,iP 0,.str ([]:Str),.own (.slice none 0 0) [],.own (.slice none 0 0) [],.val v0,.own (.slice none 0 0) []])]) (by kernel_rfl) Z Z (List.Perm.refl _) ?_ ?_ ?_ ?_
  ·refine Ev.nil ?_;exact⟨.nilIface,Z,Z,(fun h=>by cases h),(fun h=>by cases h),(fun h=>by cases h),(fun h=>by cases h),(fun h=>by cases h),(fun h=>by cases h),(fun h=>by cases h),(fun h=>by cases h),(fun h=>by cases h),(fun h=>by cases h),(fun h=>by cases h),(fun h=>by cases h),Z⟩
  ·rintro S S' e σ hS ⟨v2,p7,p8,q0,q1,q2,q3,q4,q5,q6,q8,g6,g9,g7,g5,qs⟩;have z:=fun i h1 h2=>(hS i h1 h2).symm;refine⟨v2,p7,p8,?_,?_,?_,?_,?_,?_,?_,?_,?_,?_,?_,?_,?_⟩
   ·rw[z 0 (by decide) (by decide)];exact q0
   ·rw[z 1 (by decide) (by decide)];exact q1
   ·rw[z 2 (by decide) (by decide)];exact q2
   ·rw[z 3 (by decide) (by decide)];exact q3
   ·rw[z 4 (by decide) (by decide)];exact q4
   ·rw[z 5 (by decide) (by decide)];exact q5
   ·rw[z 6 (by decide) (by decide)];exact q6
   ·rw[z 8 (by decide) (by decide)];exact q8
   ·rw[z 6 (by decide) (by decide),z 5 (by decide) (by decide)];exact g6
   ·rw[z 9 (by decide) (by decide),z 5 (by decide) (by decide)];exact g9
   ·rw[z 7 (by decide) (by decide),z 5 (by decide) (by decide)];exact g7
   ·rw[z 5 (by decide) (by decide),z 1 (by decide) (by decide),z 3 (by decide) (by decide)];exact g5
   ·rw[z 5 (by decide) (by decide),z 7 (by decide) (by decide),z 9 (by decide) (by decide)];exact qs
  ·rintro S e σ i o ⟨v2,p7,p8,q0,q1,q2,q3,q4,q5,q6,q8,g6,g9,g7,g5,rfl⟩ hi1 hi2 XM hp ho;have hi:i=0∨i=1∨i=2∨i=3∨i=4∨i=5∨i=6∨i=7∨i=8∨i=9:=by omega
   rcases hi with rfl|rfl|rfl|rfl|rfl|rfl|rfl|rfl|rfl|rfl
   ·cases ho;refine⟨Z,(fun t ht=>by cases ht;decide),AO.less (Less.add p7 Less.nil) (AO.cB Z Z acj ?_)⟩;exact⟨v2,p7,p8,(fun _=>Z),q1,q2,q3,q4,q5,q6,q8,g6,g9,g7,g5,Z⟩
   ·cases ho;have s0:=hp 0 (any_beq.1 Z) (by decide);have n5:S 5=false:=ap2.2 fun h=>by rw[(g5 h).1]at XM;cases XM
    have n9:S 9=false:=ap2.2 fun h=>by rw[g9 h]at n5;cases n5
    rw[n9,n5];refine⟨Z,(fun t ht=>by cases ht;decide),AO.less (Less.add (q0 s0) Less.nil) ?_⟩;refine AO.dh (i:=2) Z Z Z abO Z Z ?_;exact⟨v2,p7,p8,q0,(fun _=>Z),q2,q3,q4,q5,q6,q8,g6,g9,g7,(fun h=>by rw[show S 5=true from h]at n5;cases n5),by simp[n9,n5]⟩
   ·cases ho;refine⟨Z,(fun t ht=>by cases ht;decide),AO.less (Less.add p8 Less.nil) (AO.dh (i:=0) Z Z Z lG Z Z ?_)⟩;exact⟨v2,p7,p8,q0,q1,(fun _=>Z),q3,q4,q5,q6,q8,g6,g9,g7,g5,Z⟩
   ·cases ho;have s1:=hp 1 (any_beq.1 Z) (by decide);have n5:S 5=false:=ap2.2 fun h=>by rw[(g5 h).2]at XM;cases XM
    rw[n5];refine⟨Z,(fun t ht=>by cases ht;decide),AO.less (Less.add (q1 s1) Less.nil) ?_⟩;refine AO.ail (i:=1) Z Z Z Z jD Z Z ?_;exact⟨v2,p7,p8,q0,q1,q2,(fun _=>Z),q4,q5,q6,q8,g6,g9,g7,(fun h=>by rw[show S 5=true from h]at n5;cases n5),by simp[n5]⟩
   ·cases ho;refine⟨Z,(fun t ht=>by cases ht;decide),AO.less Less.nil (AO.dO [[iP 0,.str ([]:Str),iP 0,.bool false,iP 0,.str ([]:Str),.list (ah.bO []),sP ([]),.list (ak.bO []),sP ([])]] Z DC Z Z Z Z ?_)⟩;exact⟨v2,p7,p8,q0,q1,q2,q3,(fun _=>Z),q5,q6,q8,g6,g9,g7,g5,Z⟩
   ·cases ho;have s1:=hp 1 (any_beq.1 Z) (by decide);have s3:=hp 3 (any_beq.1 Z) (by decide);have s4:=hp 4 (any_beq.1 Z) (by decide);have n6:S 6=false:=ap2.2 fun h=>by rw[g6 h]at XM;cases XM
    have n7:S 7=false:=ap2.2 fun h=>by rw[g7 h]at XM;cases XM
    have n9:S 9=false:=ap2.2 fun h=>by rw[g9 h]at XM;cases XM
    rw[XM,n9];refine⟨Z,(fun t ht=>by cases ht;decide),AO.less (Less.add (q1 s1) (Less.add (q4 s4) Less.nil)) ?_⟩;refine AO.agW (i:=1) (l2:=[[iP 0,.str ([]:Str),iP 0,.bool false,iP 0,.str ([]:Str),.list (ah.bO []),sP ([]),.list (ak.bO []),sP ([])]]) Z Z Z Z Z Z Z DC jD (by intro y hy;cases List.mem_singleton.1 hy;rfl) (by intro y hy;cases List.mem_singleton.1 hy;rfl) (by simp only[List.length_singleton]at Sc⊢;unfold sI at Sc;unfold maxLen;omega) (by simp only[List.length_singleton]at Sc⊢;unfold sI at Sc;omega) (fun v3 s2 hs2=>?_);cases hs2;exact⟨v3,p7,p8,q0,q1,q2,q3,q4,(fun _=>Z),(fun h=>by rw[show S 6=true from h]at n6;cases n6),q8,(fun h=>by rw[show S 6=true from h]at n6;cases n6),(fun h=>by rw[show S 9=true from h]at n9;cases n9),(fun h=>by rw[show S 7=true from h]at n7;cases n7),(fun _=>⟨s1,s3⟩),by simp[n7,n9]⟩
   ·cases ho;have s3:=hp 3 (any_beq.1 Z) (by decide);have s5:=hp 5 (any_beq.1 Z) (by decide);rw[s5];refine⟨Z,(fun t ht=>by cases ht;decide),AO.less (Less.add (q5 s5) (Less.add (q3 s3) Less.nil)) ?_⟩;refine AO.Ul (i:=1) (sz:=10) Z Z Z Z jD (by omega) (by simp) ?_;exact⟨v2,p7,p8,q0,q1,q2,q3,q4,q5,(fun _=>by simp[O6,Env.get]),q8,(fun _=>s5),g9,g7,g5,by simp[s5]⟩
   ·cases ho;have s2:=hp 2 (any_beq.1 Z) (by decide);have s6:=hp 6 (any_beq.1 Z) (by decide);have s5:=g6 s6;rw[s5,XM];refine⟨Z,(fun t ht=>by cases ht),AO.less (Less.add (q6 s6) (Less.add (q2 s2) Less.nil)) ?_⟩;have hFl:(List.flatMap ak.cells s).length=s.length*10:=Zd ak.gG s;refine AO.aap (i:=1) (new:=(cZ x1)) (cs':=List.flatMap ak.cells s++(cZ x1)) Z Z Z lG Z Z Z (by simp) (by simp[hFl]) ?_ Z ?_
    ·unfold putCells;rw[List.take_append_of_le_length (by omega),List.take_of_length_le (by omega),List.drop_of_length_le (by simp[hFl]),List.append_nil]
    exact⟨v2,p7,p8,q0,q1,q2,q3,q4,q5,q6,q8,g6,g9,(fun _=>s5),g5,by simp[s5]⟩
   ·cases ho;refine⟨Z,(fun t ht=>by cases ht;decide),AO.less (Less.add p7 Less.nil) (AO.cB Z Z acj ?_)⟩;exact⟨v2,p7,p8,q0,q1,q2,q3,q4,q5,q6,(fun _=>Z),g6,g9,g7,g5,Z⟩
   ·cases ho;have s8:=hp 8 (any_beq.1 Z) (by decide);have s5:=hp 5 (any_beq.1 Z) (by decide);rw[s5,XM];refine⟨Z,(fun t ht=>by cases ht),AO.less (Less.add (q8 s8) (Less.add (q5 s5) Less.nil)) ?_⟩;simp only[cond_true,cond_false];refine AO.acJ 1 Z fun hv1 hv2=>(AO.eU (i:=2) Z Z Z abO hv1 hv2 Z Z Z ?_);exact⟨v2,p7,p8,q0,q1,q2,q3,q4,q5,q6,q8,g6,(fun _=>s5),g7,g5,by simp[s5]⟩
  rintro S e σ hS ⟨v2,p7,p8,q0,q1,q2,q3,q4,q5,q6,q8,g6,g9,g7,g5,rfl⟩;rw[hS 5 (by decide) (by decide),hS 7 (by decide) (by decide),hS 9 (by decide) (by decide)];refine AR.nil [] Z (⟨Z,⟨_,.cons _ (List.Sublist.refl _),v2,?_⟩,Z,Z⟩);simp[ak.aV]
 ·rintro D _ ⟨v0,rfl⟩;show AW _ _ _ _ _ _ _;refine AW.aio 0 1 (ak.bO a1) Z Z (q:=8) Z (by rw[ak.aQ,List.flatMap_def]) (by rw[ak.aQ];intro x hx;obtain⟨y,_,rfl⟩:=ao4.1 hx;exact ak.gG y) (by rw[ak.aQ,ap1]) ?_;refine AW.sr (AR.step Z Z Z (AO.dh (i:=1) Z Z Z lG Z Z (AR.step Z Z Z (AO.call Z _ Z Z alS (UM _ h4 (cs 2 Z ?_))))));refine AR.nil [2,3] Z (AW.ret ?_);exact .inr ⟨D,[_,_],Z,Z,_,⟨_,_,Z,Z,_,_,Z,Z,Z⟩,[],apZ _,h⟩
end
section
variable [BZ]
theorem Xy(v1:ah){r0:Str}(hf:Kz v1=some r0)(h:Q (.ret (.str r0)) τ):PC 110 [.agg (aX v1)] τ Q:=by
 unfold Kz at hf;refine BN 8 [.tmp 2] [0] Tryz.func110 Z Z Z Z Z ?_;refine B1 hf fun x1 h1 hf=>W 3 Z (CL Z (oC _ h1 (J 1 Z (C hf Z (fun h2 hf=>?_) fun h2 hf=>?_))))
 ·cases hf;exact M 1 Z (Y Z h)
 refine BR hf fun x2 h3 hf=>?_;refine W 1 Z (CL Z (Gw _ h3 ?_));cases hf;exact N 1 Z (Y Z h)
end
theorem S9(e1:ak){r0:Int}(hf:FI e1=some r0)(h:Q (.ret (iP r0)) τ):PC 185 [.agg (cZ e1)] τ Q:=by
 unfold FI at hf;refine BN 33 [.tmp 2] [0] Tryz.func185 Z Z Z Z Z (V 6 Z (C hf Z (fun h1 hf=>?_) fun h1 hf=>?_))
 ·cases hf;exact M 1 Z (Y Z h)
 refine V 4 Z (C hf Z (fun h2 hf=>?_) fun h2 hf=>?_)
 ·refine BR hf fun x1 h3 hf=>?_;refine W 2 Z (CL Z (sW _ h3 ?_));cases hf;exact N 1 Z (Y Z h)
 refine V 4 Z (C hf Z (fun h4 hf=>?_) fun h4 hf=>?_)
 ·refine V 0 Z (AW.cond Z (fun h5=>?_) (fun h5=>?_))
  ·cases hf;exact M 1 Z (Y Z h)
  cases h4.symm.trans h5
 refine W 4 Z (An 5 21 26 [1,14] (e1.value.kind==2) Z Z Z Z (U 1 Z (An 5 27 32 [14] (decide (e1.value.dA<0)) Z Z Z Z (J 1 Z (C hf Z (fun h8 hf=>?_) fun h8 hf=>?_)))))
 ·cases hf;exact M 1 Z (Y Z h)
 cases hf;exact M 1 Z (Y Z h)
section
variable [BZ]
abbrev AQ(iU:ak→Option Str):Prop:=∀(kS:ak) {dI:Str},iU kS=some dI→∀ {τ:List bC} {Q:eP→List bC→Prop} (h:Q (.ret (.str dI)) τ),PC 71 [.agg (cZ kS)] τ Q
abbrev Gg(fV:ak→Int→Option Str):Prop:=∀(kS:ak) (nM:Int) {dI:Str},fV kS nM=some dI→∀ {τ:List bC} {Q:eP→List bC→Prop} (h:Q (.ret (.str dI)) τ),PC 111 [.agg (cZ kS),iP nM] τ Q
theorem O1(iU)(yJ:AQ iU)(fV)(jA:Gg fV)(e1:ak){r0:Str}(hf:Az iU fV e1=some r0)(h:Q (.ret (.str r0)) τ):PC 71 [.agg (cZ e1)] τ Q:=by
 unfold Az at hf;refine BN 121 [.tmp 2] [0] Tryz.func71 Z Z Z Z Z (V 6 Z (C hf Z (fun h1 hf=>?_) fun h1 hf=>?_))
 ·refine BR hf fun x1 h2 hf=>?_;refine W 2 Z (CL Z (Xy _ h2 ?_));cases hf;exact N 1 Z (Y Z h)
 refine V 2 Z (C hf Z (fun h3 hf=>?_) fun h3 hf=>?_)
 ·cases hf;exact M 3 Z (Y Z h)
 refine V 2 Z (C hf Z (fun h4 hf=>?_) fun h4 hf=>?_)
 ·refine V 0 Z (AW.draw 10 mixed (by kernel_rfl) Z ?_);refine Ev.cs dK 2 Z ?_;refine B1 hf fun e2 h5 hf=>Ev.cons Z Z Z (AO.bQ h5 Z Z (ak.aQ _) Z jD (ak.aV _) Z zg) (Ev.cs dK 1 Z ?_);refine B1 hf fun x2 h6 hf=>Ev.cons Z Z Z (AO.call Z _ Z Z CJ (jA _ _ h6 zg)) ?_;refine B1 hf fun x3 h7 hf=>Ev.cons Z Z Z (AO.o_ h7 Z Z Z zg) (Ev.cs dK 2 Z ?_);refine BR hf fun x4 h8 hf=>?_;refine Ev.cons Z Z Z (AO.o_ h8 Z Z Z zg) (Ev.cs dK 1 Z (Ev.nil ?_));show AR _ _ _ _ _ _ _ _;cases hf;exact N 0 Z (Y Z h)
 refine V 2 Z (C hf Z (fun h9 hf=>?_) fun h9 hf=>?_)
 ·refine V 0 Z (AW.draw 14 mixed (by kernel_rfl) Z ?_);refine Ev.cs dK 2 Z ?_;refine B1 hf fun e3 h10 hf=>Ev.cons Z Z Z (AO.bQ h10 Z Z (ak.aQ _) Z jD (ak.aV _) Z zg) (Ev.cs dK 1 Z ?_);refine B1 hf fun x5 h11 hf=>Ev.cons Z Z Z (AO.call Z _ Z Z CJ (jA _ _ h11 zg)) ?_;refine B1 hf fun x6 h12 hf=>Ev.cons Z Z Z (AO.o_ h12 Z Z Z zg) (Ev.cs dK 2 Z ?_);refine B1 hf fun e4 qp hf=>Ev.cons Z Z Z (AO.bQ qp Z Z (ak.aQ _) Z jD (ak.aV _) Z zg) (Ev.cs dK 1 Z ?_);refine B1 hf fun x7 oI hf=>Ev.cons Z Z Z (AO.call Z _ Z Z CJ (jA _ _ oI zg)) ?_;refine B1 hf fun x8 vY hf=>Ev.cons Z Z Z (AO.o_ vY Z Z Z zg) ?_;refine BR hf fun x9 h16 hf=>?_;refine Ev.cons Z Z Z (AO.o_ h16 Z Z Z zg) (Ev.cs dK 1 Z (Ev.nil ?_));show AR _ _ _ _ _ _ _ _;cases hf;exact N 0 Z (Y Z h)
 refine V 2 Z (C hf Z (fun AZ hf=>?_) fun AZ hf=>?_)
 ·exact dH hf
 refine V 2 Z (C hf Z (fun h18 hf=>?_) fun h18 hf=>?_)
 ·refine V 0 Z (AW.draw 9 mixed (by kernel_rfl) Z ?_);refine Ev.cs dK 4 Z ?_;refine B1 hf fun e5 h19 hf=>Ev.cons Z Z Z (AO.bQ h19 Z Z (ak.aQ _) Z jD (ak.aV _) Z zg) (Ev.cs dK 1 Z ?_);refine B1 hf fun EB h20 hf=>Ev.cons Z Z Z (AO.call Z _ Z Z CJ (jA _ _ h20 zg)) ?_;refine BR hf fun La h21 hf=>?_;refine Ev.cons Z Z Z (AO.o_ h21 Z Z Z zg) (Ev.cs dK 1 Z (Ev.nil ?_));show AR _ _ _ _ _ _ _ _;cases hf;exact N 0 Z (Y Z h)
 refine V 2 Z (C hf Z (fun h22 hf=>?_) fun h22 hf=>?_)
 ·refine B1 hf fun n1 h23 hf=>W 2 Z (CL Z (sW _ h23 (J 5 Z (C hf Z (fun J_ hf=>?_) fun J_ hf=>?_))))
  ·refine V 3 Z (AW.draw 20 mixed (by kernel_rfl) Z ?_);refine Ev.cs dK 2 Z ?_;refine B1 hf fun e6 KS hf=>Ev.cons Z Z Z (AO.bQ KS Z Z (ak.aQ _) Z jD (ak.aV _) Z zg) (Ev.cs dK 2 Z ?_);refine B1 hf fun Qf Mj hf=>Ev.cons Z Z Z (AO.call Z _ Z Z CJ (jA _ _ Mj zg)) ?_;refine B1 hf fun OY h27 hf=>Ev.cons Z Z Z (AO.o_ h27 Z Z Z zg) (Ev.cs dK 2 Z ?_);refine B1 hf fun UQ NA hf=>Ev.cons Z Z Z (AO.o_ NA Z Z Z zg) ?_;refine B1 hf fun XY TL hf=>Ev.cons Z Z Z (AO.o_ TL Z Z Z zg) (Ev.cs dK 2 Z ?_);refine B1 hf fun e7 h30 hf=>Ev.cons Z Z Z (AO.bQ h30 Z Z (ak.aQ _) Z jD (ak.aV _) Z zg) (Ev.cs dK 3 Z ?_);refine B1 hf fun TQ h31 hf=>Ev.cons Z Z Z (AO.call Z _ Z Z CJ (jA _ _ h31 zg)) ?_;refine BR hf fun XL h32 hf=>?_;refine Ev.cons Z Z Z (AO.o_ h32 Z Z Z zg) (Ev.cs dK 1 Z (Ev.nil ?_));show AR _ _ _ _ _ _ _ _;cases hf;exact N 0 Z (Y Z h)
  refine V 0 Z (AW.draw 20 mixed (by kernel_rfl) Z ?_);refine Ev.cs dK 2 Z ?_;refine B1 hf fun e8 JI hf=>Ev.cons Z Z Z (AO.bQ JI Z Z (ak.aQ _) Z jD (ak.aV _) Z zg) (Ev.cs dK 2 Z ?_);refine B1 hf fun x18 GQ hf=>Ev.cons Z Z Z (AO.call Z _ Z Z CJ (jA _ _ GQ zg)) ?_;refine B1 hf fun x19 P5 hf=>Ev.cons Z Z Z (AO.o_ P5 Z Z Z zg) (Ev.cs dK 2 Z ?_);refine B1 hf fun x20 Sd hf=>Ev.cons Z Z Z (AO.o_ Sd Z Z Z zg) ?_;refine B1 hf fun x21 h37 hf=>Ev.cons Z Z Z (AO.o_ h37 Z Z Z zg) (Ev.cs dK 2 Z ?_);refine B1 hf fun e9 h38 hf=>Ev.cons Z Z Z (AO.bQ h38 Z Z (ak.aQ _) Z jD (ak.aV _) Z zg) (Ev.cs dK 3 Z ?_);refine B1 hf fun x22 PZ hf=>Ev.cons Z Z Z (AO.call Z _ Z Z CJ (jA _ _ PZ zg)) ?_;refine BR hf fun x23 h40 hf=>?_;refine Ev.cons Z Z Z (AO.o_ h40 Z Z Z zg) (Ev.cs dK 1 Z (Ev.nil ?_));show AR _ _ _ _ _ _ _ _;cases hf;exact N 0 Z (Y Z h)
 refine V 2 Z (C hf Z (fun h41 hf=>?_) fun h41 hf=>?_)
 ·refine V 0 Z (AW.draw 20 mixed (by kernel_rfl) Z ?_);refine Ev.cs dK 2 Z ?_;refine B1 hf fun e10 h42 hf=>Ev.cons Z Z Z (AO.bQ h42 Z Z (ak.aQ _) Z jD (ak.aV _) Z zg) (Ev.cs dK 1 Z ?_);refine B1 hf fun x24 h43 hf=>Ev.cons Z Z Z (AO.call Z _ Z Z CJ (jA _ _ h43 zg)) ?_;refine B1 hf fun x25 h44 hf=>Ev.cons Z Z Z (AO.o_ h44 Z Z Z zg) (Ev.cs dK 2 Z ?_);refine B1 hf fun e11 h45 hf=>Ev.cons Z Z Z (AO.bQ h45 Z Z (ak.aQ _) Z jD (ak.aV _) Z zg) (Ev.cs dK 1 Z ?_);refine B1 hf fun x26 h46 hf=>Ev.cons Z Z Z (AO.call Z _ Z Z CJ (jA _ _ h46 zg)) ?_;refine B1 hf fun x27 h47 hf=>Ev.cons Z Z Z (AO.o_ h47 Z Z Z zg) ?_;refine B1 hf fun x28 h48 hf=>Ev.cons Z Z Z (AO.o_ h48 Z Z Z zg) (Ev.cs dK 2 Z ?_);refine B1 hf fun e12 h49 hf=>Ev.cons Z Z Z (AO.bQ h49 Z Z (ak.aQ _) Z jD (ak.aV _) Z zg) (Ev.cs dK 1 Z ?_);refine B1 hf fun x29 h50 hf=>Ev.cons Z Z Z (AO.call Z _ Z Z CJ (jA _ _ h50 zg)) ?_;refine BR hf fun x30 h51 hf=>?_;refine Ev.cons Z Z Z (AO.o_ h51 Z Z Z zg) (Ev.cs dK 1 Z (Ev.nil ?_));show AR _ _ _ _ _ _ _ _;cases hf;exact N 0 Z (Y Z h)
 refine V 2 Z (C hf Z (fun h52 hf=>?_) fun h52 hf=>?_)
 ·exact dH hf
 exact dH hf
theorem V7(iU)(yJ:AQ iU)(fV)(jA:Gg fV)(e1:ak)(Jw:Int){r0:Str}(hf:FJ iU fV e1 Jw=some r0)(h:Q (.ret (.str r0)) τ):PC 111 [.agg (cZ e1),iP Jw] τ Q:=by
 unfold FJ at hf;refine BN 15 [.tmp 4] [0,1] Tryz.func111 Z Z Z Z Z ?_;refine B1 hf fun x1 h1 hf=>W 3 Z (CL Z (S9 _ h1 (J 2 Z (C hf Z (fun h2 hf=>?_) fun h2 hf=>?_))))
 ·refine B1 hf fun x2 h3 hf=>W 1 Z (CL Z (yJ _ h3 ?_));refine B1 hf fun x3 h4 hf=>AS Z (AO.o_ h4 Z Z Z ?_);refine BR hf fun x4 h5 hf=>?_;refine AS Z (AO.o_ h5 Z Z Z ?_);cases hf;exact N 1 Z (Y Z h)
 refine BR hf fun x5 h6 hf=>?_;refine W 1 Z (CL Z (yJ _ h6 ?_));cases hf;exact N 1 Z (Y Z h)
theorem Gp:∀k:Nat,(AQ (nO k))∧(Gg (rG k)):=by
 intro k
 induction k with
 | zero=>exact⟨fun _ _ hz=>by first|cases hz|(unfold nO at hz;cases hz),fun _ _ _ hz=>by first|cases hz|(unfold rG at hz;cases hz)⟩
 | succ k ih=>exact⟨fun kS dI hz τ Q hq=>O1 (nO k) ih.1 (rG k) ih.2 kS hz hq,fun kS nM dI hz τ Q hq=>V7 (nO k) ih.1 (rG k) ih.2 kS nM hz hq⟩
theorem Pn(kS:ak){dI:Str}(hf:J8 kS=some dI)(h:Q (.ret (.str dI)) τ):PC 71 [.agg (cZ kS)] τ Q:=
 ((Gp BIG).1) kS hf h
theorem aiB(kS:ak)(nM:Int){dI:Str}(hf:aaJ kS nM=some dI)(h:Q (.ret (.str dI)) τ):PC 111 [.agg (cZ kS),iP nM] τ Q:=
 ((Gp BIG).2) kS nM hf h
end
section
variable [BZ]
theorem UD(e1:ak){r0:Str}(hf:Ij e1=some r0)(h:Q (.ret (.str r0)) τ):PC 37 [.agg (cZ e1)] τ Q:=by
 unfold Ij at hf;refine BN 8 [.tmp 2] [0] Tryz.func37 Z Z Z Z Z ?_;refine B1 hf fun x1 h1 hf=>W 3 Z (CL Z (qV _ h1 (J 1 Z (C hf Z (fun h2 hf=>?_) fun h2 hf=>?_))))
 ·cases hf;exact M 1 Z (Y Z h)
 refine BR hf fun x2 h3 hf=>?_;refine W 1 Z (CL Z (Pn _ h3 ?_));cases hf;exact N 1 Z (Y Z h)
end
section
variable [BZ]
def LC:Go.Shelf.Ren:=⟨fun|155=>38|154=>72|138=>114|165=>115|143=>116|166=>36|197=>117|169=>39|195=>188|218=>189|240=>60|241=>190|219=>191|260=>192|276=>96|277=>256|217=>257|225=>258|224=>259|267=>260|266=>321|314=>322|n=>n,fun|9=>9|3=>3|4=>4|72=>72|0=>0|76=>86|105=>154|21=>21|5=>5|70=>70|20=>20|37=>68|75=>77|127=>124|164=>138|46=>218|119=>245|139=>248|138=>247|146=>279|51=>269|80=>69|n=>n,fun|1=>0|3=>1|4=>2|n=>n⟩
theorem ae5:Go.Proofs.Lays.n155 Tryz.prog LC:=by repeat' first|(intros;kernel_rfl)|constructor|decide
theorem ae4:Go.Proofs.Builder.Extra Tryz.prog LC:=by repeat' first|(intros;kernel_rfl)|constructor|decide
theorem I9(s1 ah_ new1:Str){r0:Str}(hf:strings_ReplaceAll s1 ah_ new1=some r0)(h:Q (.ret (.str r0)) τ):PC 38 [.str s1,.str ah_,.str new1] τ Q:=by
 unfold strings_ReplaceAll at hf;split at hf
 case isFalse=>cases hf
 rename_i hg;obtain⟨hg,rfl,rfl⟩:=hg;rw[←QN (by decide)]at hf;cases hf;refine AC.none ?_;exact AC.replaceAll BZ.hD ae5 ae4 hg (by decide) BZ.max (by rw[Lib.count_one];have:=List.count_le_length (a:=(36:UInt8)) (l:=s1);simp only[List.length_cons,List.length_nil];omega) h
end
section
variable [BZ]
theorem UH(ps1:List aY){r0:Str}(hf:Iu ps1=some r0)(h:Q (.ret (.str r0)) τ):PC 15 [.list (List.map aY.cells ps1)] τ Q:=by
 unfold Iu at hf;refine BN 26 [.tmp 2] [0] Tryz.func15 Z Z Z Z Z (W 1 Z (AS Z (AO.E8 (eu:=5) Z XQ Z (fun b3=>(U 1 Z (AS Z (AO.bI (l:=ps1) Z Z Z Z Gt Z Z (J 1 Z (LK3 (fun x1 b1 v1=>[(3,pP b3),(6,.list (List.map aY.cells ps1)),(7,iP (ps1.length:Int)),(8,iP x1)]) (fun x1 b1 v1=>[.K8 b3 v1 72 5 b1]) (fun dL x1 b1 v1=>uo ps1 dL x1 b1=some r0) BIG 0 [] (.slice none 0 0) Z Z hf (fun _ _ _ hz=>dH hz) ?_)))))))));intro dL x1 b1 v1 hf;rw[uo]at hf;refine V 1 Z (C hf Z (fun h1 hf=>?_) fun h1 hf=>?_)
 ·refine B1 hf fun e1 h2 hf=>W 0 Z (AS Z (AO.bQ h2 Z Z Z Z Gt (aY.aV _) Z (U 1 Z (AS Z (AO.aP Z XT (fun b5=>(Rw 3 [0,0] Z Z (C hf Z (fun h3 hf=>?_) fun h3 hf=>?_))))))))
  ·refine B1 hf fun x2 h4 hf=>Wr 2 [0] Z Z (CL Z (UD _ h4 ?_));refine B1 hf fun x3 h5 hf=>AS Z (AO.o_ h5 Z Z Z ?_);refine B1 hf fun x4 h6 hf=>AS Z (AO.o_ h6 Z Z Z ?_);refine B1 hf fun b2 h7 hf=>CL Z (AC.one 1 Z (nE h7 (fun v2=>⟨_,Z,(gy 2 Z (AR.drop1 ?_))⟩)));exact N 0 Z ⟨(bV (x1+1)),b2,v2,Z,Z,Z,hf⟩
  refine B1 hf fun x5 h8 hf=>Wr 2 [0] Z Z (CL Z (I9 _ _ _ h8 ?_));refine B1 hf fun b3 h9 hf=>CL Z (AC.one 1 Z (nE h9 (fun v3=>⟨_,Z,(gy 2 Z (AR.drop1 ?_))⟩)));exact N 0 Z ⟨(bV (x1+1)),b3,v3,Z,Z,Z,hf⟩
 refine W 0 Z (CL Z (AC.L6 0 Z (yT ?_)));cases hf;exact N 1 Z (Y Z h)
end
theorem Ut(jJ:Int){r0:Str}(hf:w_ jJ=some r0)(h:Q (.ret (.str r0)) τ):PC 143 [iP jJ] τ Q:=by
 unfold w_ at hf;refine BN 14 [.tmp 2] [0] Tryz.func143 Z Z Z Z Z (W 1 Z (AS Z (AO.Ob Z aep agY Z (AS Z (AO.aP Z aep (fun b3=>(Rr 4 [0] Z Z (On 3 7 10 [0,3] (decide (8≤jJ)) Z Z Z Z ?_))))))));refine J 0 Z (C hf Z (fun h2 hf=>?_) fun h2 hf=>?_)
 ·cases hf;exact M 1 Z (Y Z h)
 refine BR hf fun e1 h3 hf=>?_;refine W 1 Z (AS Z (AO.R7 h3 Z agY Z Z Z (AS Z (AO.adC (i:=0) (fun z:Str=>.str z) h3 Z Z Z ac0 Z ?_))));cases hf;exact N 1 Z (Y Z h)
theorem sH(jJ:Int){r0:Bool}(hf:lU jJ=some r0)(h:Q (.ret (.bool r0)) τ):PC 144 [iP jJ] τ Q:=by
 unfold lU at hf;refine BN 9 [.tmp 2] [0] Tryz.func144 Z Z Z Z Z (W 4 Z (On 3 5 8 [] (jJ==6) Z Z Z Z ?_));cases hf;exact N 1 Z (Y Z h)
theorem Di(t1:aI){r0:Int}(hf:nY t1=some r0)(h:Q (.ret (iP r0)) τ):PC 85 [.agg (eZ t1)] τ Q:=by
 unfold nY at hf;refine BN 43 [.tmp 2] [0] Tryz.func85 Z Z Z Z Z (W 0 Z (AS Z (AO.acK Z Z (fun b1=>(J 2 Z (LK2 (fun b_ t2=>[(1,pP b1),(3,iP b_)]) (fun b_ t2=>[.box b1 (eZ t2)]) (fun dL b_ t2=>lu dL b_ t2=some r0) BIG 1 t1 Z Z hf (fun _ _ hz=>dH hz) ?_))))));intro dL b_ t2 hf;rw[lu]at hf;refine V 2 Z (C hf Z (fun h1 hf=>?_) fun h1 hf=>?_)
 ·cases hf;exact M 1 Z (Y Z h)
 refine B1 hf fun x1 h2 hf=>Wr 2 [0] Z Z (CL Z (Ut _ h2 ?_));refine B1 hf fun b1 h4 hf=>U 2 Z (AR.fT 10 12 22 false [1,3] b1 Z Z (fun h3=>?_) (fun h3=>?_) ?_)
 ·replace h4:=nU h3 h4;refine Is 12 h3 Z (U 1 Z (GO Z (AO.dh (i:=0) Z Z Z Cv Z Z ?_)));refine B1 h4 fun x2 h5 h4=>GO Z (AO.call Z _ Z Z aft (sH _ h5 (U 1 Z (AR.and 5 16 21 [1,3,12] (x:=((t2.elem.length:Int) !=1)) Z Z (fun h6=>?_) (fun h6=>?_) ?_))))
  ·refine Is 16 h6 Z (U 1 Z (GO Z (AO.dh (i:=0) Z Z Z aiY Z Z (GO Z (AO.bI (l:=t2.elem) Z Z Z Z VA Z (aI.aQ _) ?_)))));exact gy 2 Z (En [21,1,3,12] Z)
  ·refine Is 16 h6 Z ?_;exact gy 5 Z (En [21,1,3,12] Z)
  cases h4;exact gy 1 Z (En [22,1,3] Z)
 ·refine IT 12 h3 h4 Z fun h4=>?_;cases h4;exact gy 10 Z (En [22,1,3] Z)
 refine B1 hf fun b2 h8 hf=>U 1 Z (AR.fT 11 23 34 false [1,3] b2 Z Z (fun h7=>?_) (fun h7=>?_) ?_)
 ·replace h8:=nU h7 h8;refine Is 23 h7 Z (U 1 Z (GO Z (AO.dh (i:=0) Z Z Z Cv Z Z ?_)));refine B1 h8 fun x3 h9 h8=>GO Z (AO.call Z _ Z Z aft (sH _ h9 (U 2 Z (AR.and 5 28 33 [1,3,23] (x:=((t2.elem.length:Int) !=0)) Z Z (fun h10=>?_) (fun h10=>?_) ?_))))
  ·refine Is 28 h10 Z (U 1 Z (GO Z (AO.dh (i:=0) Z Z Z aiY Z Z (GO Z (AO.bI (l:=t2.elem) Z Z Z Z VA Z (aI.aQ _) ?_)))));exact gy 2 Z (En [33,1,3,23] Z)
  ·refine Is 28 h10 Z ?_;exact gy 5 Z (En [33,1,3,23] Z)
  cases h8;exact gy 1 Z (En [34,1,3] Z)
 ·refine IT 23 h7 h8 Z fun h8=>?_;cases h8;exact gy 11 Z (En [34,1,3] Z)
 refine J 0 Z (C hf Z (fun h11 hf=>?_) fun h11 hf=>?_)
 ·cases hf;exact M 1 Z (Y Z h)
 refine B1 hf fun x4 h12 hf=>Wr 2 [0] Z Z (CL Z (sH _ h12 (J 1 Z (C hf Z (fun qp hf=>?_) fun qp hf=>?_))))
 ·cases hf;exact M 1 Z (Y Z h)
 refine B1 hf fun e1 oI hf=>Wr 2 [0] Z Z (AS Z (AO.bQ oI Z Z (aI.aQ _) Z VA (aI.aV _) Z ?_));exact Rx 5 [0] Z Z ⟨(bV (b_+1)),e1,Z,Z,Z,hf⟩
theorem OT(eY:List dS){r0:Int}(hf:JN eY=some r0)(h:Q (.ret (iP r0)) τ):PC 50 [.list (List.map dS.cells eY)] τ Q:=by
 unfold JN at hf;refine BN 39 [.tmp 2] [0] Tryz.func50 Z Z Z Z Z (W 2 Z (AS Z (AO.bI (l:=eY) Z Z Z Z Zi Z Z (J 1 Z (C hf Z (fun h1 hf=>?_) fun h1 hf=>?_)))))
 ·cases hf;exact M 1 Z (Y Z h)
 refine W 0 Z (AS Z (AO.RO Z (fun m10=>(U 2 Z (AS Z (AO.bI (l:=eY) Z Z Z Z Zi Z Z (J 1 Z (LK2 (fun x1 y1=>[(3,.val (.map (some m10))),(11,.list (List.map dS.cells eY)),(12,iP (eY.length:Int)),(13,iP x1)]) (fun x1 y1=>[.obj m10 (vG y1)]) (fun dL x1 y1=>BS eY dL x1 y1=some r0) BIG 0 [] Z Z hf (fun _ _ hz=>dH hz) ?_))))))));intro dL x1 y1 hf;rw[BS]at hf;refine V 1 Z (C hf Z (fun h2 hf=>?_) fun h2 hf=>?_)
 ·refine B1 hf fun e1 h3 hf=>W 0 Z (AS Z (AO.bQ h3 Z Z Z Z Zi (dS.aV _) Z (U 1 Z (AS Z (AO.aP Z aiR (fun b5=>?_))))));refine B1 hf fun x2 h4 hf=>Rr 4 [0,0] Z Z (CL Z (qV _ h4 (J 1 Z (C hf Z (fun h5 hf=>?_) fun h5 hf=>?_))))
  ·cases hf;exact M 1 Z (Y Z h)
  refine B1 hf fun e2 h6 hf=>Wr 2 [0] Z Z (CL Z (Di _ h6 (J 3 Z (C hf Z (fun h7 hf=>?_) fun h7 hf=>?_))))
  ·cases hf;exact M 2 Z (Y Z h)
  refine Wr 3 [0] Z Z (AS Z (AO.JF (i:=1) (l:=y1) Z Z Z Z FN fD acQ (U 1 Z (AR.dx Z Z (AO.KP (i:=1) (l:=y1) Z Z Z Z Z FN fD (Rr 3 [0] Z Z (AS Z (AO.JF (i:=1) (l:=(sZ y1 e1.name (bV ((qz y1 e1.name)+1)))) Z Z Z Z FN fD acQ (J 1 Z (C hf Z (fun h8 hf=>?_) fun h8 hf=>?_))))))))))
  ·cases hf;exact M 1 Z (Y Z h)
  refine Wn0 2 Z (AR.drop1 ?_);exact N 0 Z ⟨(bV (x1+1)),(sZ y1 e1.name (bV ((qz y1 e1.name)+1))),Z,Z,Z,hf⟩
 cases hf;exact M 1 Z (Y Z h)
theorem kg(jJ:Int){r0:aI}(hf:jZ jJ=some r0)(h:Q (.ret (.agg (eZ r0))) τ):PC 156 [iP jJ] τ Q:=by
 unfold jZ at hf;refine BN 5 [.cell 2 63] [0] Tryz.func156 Z Z Z Z Z (W 0 Z (AS Z (AO.aP Z AU (fun b2=>?_))));cases hf;exact Rx 3 [0] Z Z (ZC [0] Z Z h)
abbrev Jl(sD:aI→Option aI):Prop:=∀(ZU:aI) {dI:aI},sD ZU=some dI→∀ {τ:List bC} {Q:eP→List bC→Prop} (h:Q (.ret (.agg (eZ dI))) τ),PC 230 [.agg (eZ ZU)] τ Q
theorem Qm(sD)(adM:Jl sD)(t1:aI){r0:aI}(hf:Cu sD t1=some r0)(h:Q (.ret (.agg (eZ r0))) τ):PC 230 [.agg (eZ t1)] τ Q:=by
 unfold Cu at hf;refine BN 18 [.cell 2 63] [0] Tryz.func230 Z Z Z Z Z (W 1 Z (AS Z (AO.aP Z AU (fun b2=>?_))));refine B1 hf fun x1 h1 hf=>U 2 Z (CL Z (sH _ h1 (J 1 Z (C hf Z (fun h2 hf=>?_) fun h2 hf=>?_))))
 ·refine BR hf fun x2 h3 hf=>?_;refine W 2 Z (CL Z (kg _ h3 ?_));cases hf;exact Rx 1 [0] Z Z (ZC [0] Z Z h)
 exact dH hf
theorem RF:∀k:Nat,(Jl (tO k)):=by
 intro k
 induction k with
 | zero=>exact fun _ _ hz=>by first|cases hz|(unfold tO at hz;cases hz)
 | succ k ih=>exact fun ZU dI hz τ Q hq=>Qm (tO k) ih ZU hz hq
theorem I8(ZU:aI){dI:aI}(hf:Fb ZU=some dI)(h:Q (.ret (.agg (eZ dI))) τ):PC 230 [.agg (eZ ZU)] τ Q:=
 ((RF BIG)) ZU hf h
abbrev Kr(uw:aI→aI→Option aI):Prop:=∀(Hg:aI) (Hf:aI) {dI:aI},uw Hg Hf=some dI→∀ {τ:List bC} {Q:eP→List bC→Prop} (h:Q (.ret (.agg (eZ dI))) τ),PC 157 [.agg (eZ Hg),.agg (eZ Hf)] τ Q
theorem TS(uw)(ael:Kr uw)(a1 b1:aI){r0:aI}(hf:Ei uw a1 b1=some r0)(h:Q (.ret (.agg (eZ r0))) τ):PC 157 [.agg (eZ a1),.agg (eZ b1)] τ Q:=by
 unfold Ei at hf;refine BN 43 [.cell 4 63] [0,1] Tryz.func157 Z Z Z Z Z (W 2 Z (AS Z (AO.aP Z AU (fun b4=>(J 4 Z (C hf Z (fun h1 hf=>?_) fun h1 hf=>?_))))))
 ·refine BR hf fun x1 h2 hf=>?_;refine W 1 Z (CL Z (I8 _ h2 ?_));cases hf;exact Rx 1 [0] Z Z (ZC [0] Z Z h)
 refine V 4 Z (C hf Z (fun h3 hf=>?_) fun h3 hf=>?_)
 ·refine BR hf fun x2 h4 hf=>?_;refine W 1 Z (CL Z (I8 _ h4 ?_));cases hf;exact Rx 1 [0] Z Z (ZC [0] Z Z h)
 refine V 6 Z (C hf Z (fun h5 hf=>?_) fun h5 hf=>?_)
 ·refine BR hf fun x3 h6 hf=>?_;refine W 0 Z (CL Z (kg _ h6 ?_));cases hf;exact Rx 1 [0] Z Z (ZC [0] Z Z h)
 refine B1 hf fun x4 h7 hf=>W 2 Z (CL Z (sH _ h7 (J 1 Z (C hf Z (fun h8 hf=>?_) fun h8 hf=>?_))))
 ·exact dH hf
 refine BR hf fun x5 h9 hf=>?_;refine W 2 Z (CL Z (kg _ h9 ?_));cases hf;exact Rx 1 [0] Z Z (ZC [0] Z Z h)
theorem Ue:∀k:Nat,(Kr (vQ k)):=by
 intro k
 induction k with
 | zero=>exact fun _ _ _ hz=>by first|cases hz|(unfold vQ at hz;cases hz)
 | succ k ih=>exact fun Hg Hf dI hz τ Q hq=>TS (vQ k) ih Hg Hf hz hq
theorem Ki(Hg Hf:aI){dI:aI}(hf:Hl Hg Hf=some dI)(h:Q (.ret (.agg (eZ dI))) τ):PC 157 [.agg (eZ Hg),.agg (eZ Hf)] τ Q:=
 ((Ue BIG)) Hg Hf hf h
abbrev Kt(kZ:ah→Option aI):Prop:=∀(wP:ah) {dI:aI},kZ wP=some dI→∀ {τ:List bC} {Q:eP→List bC→Prop} (h:Q (.ret (.agg (eZ dI))) τ),PC 224 [.agg (aX wP)] τ Q
theorem TT(kZ)(Pg:Kt kZ)(v1:ah){r0:aI}(hf:Ej kZ v1=some r0)(h:Q (.ret (.agg (eZ r0))) τ):PC 224 [.agg (aX v1)] τ Q:=by
 unfold Ej at hf;refine BN 40 [.cell 2 63] [0] Tryz.func224 Z Z Z Z Z (W 1 Z (AS Z (AO.aP Z AU (fun b2=>(J 4 Z (C hf Z (fun h1 hf=>?_) fun h1 hf=>?_))))))
 ·refine BR hf fun x1 h2 hf=>?_;refine W 0 Z (CL Z (kg _ h2 ?_));cases hf;exact Rx 1 [0] Z Z (ZC [0] Z Z h)
 refine V 2 Z (C hf Z (fun h3 hf=>?_) fun h3 hf=>?_)
 ·refine BR hf fun x2 h4 hf=>?_;refine W 0 Z (CL Z (kg _ h4 ?_));cases hf;exact Rx 1 [0] Z Z (ZC [0] Z Z h)
 refine V 2 Z (C hf Z (fun h5 hf=>?_) fun h5 hf=>?_)
 ·refine BR hf fun x3 h6 hf=>?_;refine W 0 Z (CL Z (kg _ h6 ?_));cases hf;exact Rx 1 [0] Z Z (ZC [0] Z Z h)
 refine V 2 Z (C hf Z (fun h7 hf=>?_) fun h7 hf=>?_)
 ·refine BR hf fun x4 h8 hf=>?_;refine W 0 Z (CL Z (kg _ h8 ?_));cases hf;exact Rx 1 [0] Z Z (ZC [0] Z Z h)
 refine B1 hf fun x5 h9 hf=>W 0 Z (CL Z (kg _ h9 (AS Z (AO.aP Z AU (fun b3=>(Rr 3 [0] Z Z (AS Z (AO.bI (l:=v1.aN) Z Z Z Z jV Z (ah.aQ _) ?_))))))));refine J 1 Z (LK2 (fun x6 Sw=>[(1,.ref (aX v1)),(2,pP b2),(3,pP b3),(22,.list (ah.bO v1.aN)),(23,iP (v1.aN.length:Int)),(24,iP x6)]) (fun x6 Sw=>[.box b3 (eZ Sw),.box b2 [iP 0,.own (.slice none 0 0) []]]) (fun dL x6 Sw=>xO kZ v1 dL x6 Sw=some r0) BIG 0 x5 Z Z hf (fun _ _ hz=>dH hz) ?_);intro dL x6 Sw hf;rw[xO]at hf;refine V 1 Z (C hf Z (fun h10 hf=>?_) fun h10 hf=>?_)
 ·refine B1 hf fun e1 h11 hf=>W 0 Z (AS Z (AO.bQ h11 Z Z (ah.aQ _) Z jV (ah.aV _) Z (U 1 Z (AS Z (AO.aP Z iX (fun b5=>(Rw 1 [0] Z Z (AW.draw 4 mixed (by kernel_rfl) Z ?_))))))));refine Ev.cons Z Z Z (AO.dh (i:=1) Z Z Z aeP Z Z zg) (Ev.cons Z Z Z (AO.dh (i:=0) Z Z Z tQ Z Z zg) ?_);refine B1 hf fun x7 h12 hf=>Ev.cons Z Z Z (AO.call Z _ Z Z akd (Pg _ h12 zg)) ?_;refine B1 hf fun x8 qp hf=>Ev.cons Z Z Z (AO.call Z _ Z Z ako (Ki _ _ qp zg)) (Ev.nil ?_);show AR _ _ _ _ _ _ _ _;refine Rn 3 [1] Z Z (AR.drop1 ?_);exact N 0 Z ⟨(bV (x6+1)),x8,Z,Z,Z,hf⟩
 refine V 3 Z (C hf Z (fun oI hf=>?_) fun oI hf=>?_)
 ·exact dH hf
 exact dH hf
theorem Uf:∀k:Nat,(Kt (vR k)):=by
 intro k
 induction k with
 | zero=>exact fun _ _ hz=>by first|cases hz|(unfold vR at hz;cases hz)
 | succ k ih=>exact fun wP dI hz τ Q hq=>TT (vR k) ih wP hz hq
theorem Uu(wP:ah){dI:aI}(hf:Ou wP=some dI)(h:Q (.ret (.agg (eZ dI))) τ):PC 224 [.agg (aX wP)] τ Q:=
 ((Uf BIG)) wP hf h
theorem Zx(v1:ah){r0:aI}(hf:MS v1=some r0)(h:Q (.ret (.agg (eZ r0))) τ):PC 147 [.agg (aX v1)] τ Q:=by
 unfold MS at hf;refine BN 9 [.cell 2 63] [0] Tryz.func147 Z Z Z Z Z (W 1 Z (AS Z (AO.aP Z AU (fun b2=>?_))));refine B1 hf fun x1 h1 hf=>U 1 Z (CL Z (oC _ h1 (J 1 Z (C hf Z (fun h2 hf=>?_) fun h2 hf=>?_))))
 ·refine BR hf fun x2 h3 hf=>?_;refine W 0 Z (CL Z (kg _ h3 ?_));cases hf;exact Rx 1 [0] Z Z (ZC [0] Z Z h)
 refine BR hf fun x3 h4 hf=>?_;refine W 1 Z (CL Z (Uu _ h4 ?_));cases hf;exact Rx 1 [0] Z Z (ZC [0] Z Z h)
theorem N_(eY:List dS)(name1:Str){r0:aI}{r1:Int}(hf:Dg eY name1=some (r0,r1))(h:Q (.ret (.tuple [.agg (eZ r0),iP r1])) τ):PC 148 [.list (List.map dS.cells eY),.str name1] τ Q:=by
 unfold Dg at hf;refine BN 22 [.cell 4 63,.tmp 5] [0,1] Tryz.func148 Z Z Z Z Z (W 0 Z (AS Z (AO.aP Z AU (fun b4=>(U 2 Z (AS Z (AO.bI (l:=eY) Z Z Z Z Zi Z Z (J 1 Z (XK (fun x1=>[(1,.str name1),(4,pP b4),(8,.list (List.map dS.cells eY)),(9,iP (eY.length:Int)),(10,iP x1)]) (fun x1=>[.box b4 [iP 0,.own (.slice none 0 0) []]]) (fun dL x1=>sV eY name1 dL x1=some (r0,r1)) BIG 0 Z Z hf (fun _ hz=>dH hz) ?_)))))))));intro dL x1 hf;rw[sV]at hf;refine V 1 Z (C hf Z (fun h1 hf=>?_) fun h1 hf=>?_)
 ·refine B1 hf fun e1 h2 hf=>W 0 Z (AS Z (AO.bQ h2 Z Z Z Z Zi (dS.aV _) Z (U 1 Z (AS Z (AO.aP Z aiR (fun b7=>(Rw 5 [0,0] Z Z (C hf Z (fun h3 hf=>?_) fun h3 hf=>?_))))))))
  ·cases hf;exact Wx 4 [0,1] Z Z (ZC [1] Z Z h)
  refine Wn0 2 Z (AR.drop1 ?_);exact N 0 Z ⟨(bV (x1+1)),Z,Z,Z,hf⟩
 cases hf;exact Wx 3 [0] Z Z (ZC [0] Z Z h)
theorem jX(jJ:Int){r0:aI}(hf:lZ jJ=some r0)(h:Q (.ret (.agg (eZ r0))) τ):PC 88 [iP jJ] τ Q:=by
 unfold lZ at hf;refine BN 5 [.cell 2 63] [0] Tryz.func88 Z Z Z Z Z (W 0 Z (AS Z (AO.aP Z AU (fun b2=>?_))));cases hf;exact Rx 3 [0] Z Z (ZC [0] Z Z h)
theorem oL(jJ:Int)(c1 c2:aI){r0:Bool}(hf:ng jJ c1 c2=some r0)(h:Q (.ret (.bool r0)) τ):PC 226 [iP jJ,.ref (eZ c1),.ref (eZ c2)] τ Q:=by
 unfold ng at hf;refine BN 15 [.tmp 4] [0,1,2] Tryz.func226 Z Z Z Z Z ?_;exact dH hf
theorem ko(t1:aI){r0:Bool}(hf:kQ t1=some r0)(h:Q (.ret (.bool r0)) τ):PC 225 [.agg (eZ t1)] τ Q:=by
 unfold kQ at hf;refine BN 11 [.tmp 2] [0] Tryz.func225 Z Z Z Z Z (W 6 Z (On 4 6 10 [] (t1.kind==7) Z Z Z Z ?_));cases hf;exact N 1 Z (Y Z h)
theorem jY(a1 b1:aI)(jJ:Int){r0:Bool}(hf:kJ a1 b1 jJ=some r0)(h:Q (.ret (.bool r0)) τ):PC 227 [.agg (eZ a1),.agg (eZ b1),iP jJ] τ Q:=by
 unfold kJ at hf;refine BN 37 [.tmp 6] [0,1,2] Tryz.func227 Z Z Z Z Z ?_;refine B1 hf fun x1 h1 hf=>W 4 Z (CL Z (ko _ h1 (U 1 Z (On 5 9 14 [2,3,4] (a1.kind==jJ) Z Z Z Z ?_))));refine B1 hf fun b2 h4 hf=>U 1 Z (AR.fT 9 15 24 true [2,3,4] b2 Z Z (fun h3=>?_) (fun h3=>?_) ?_)
 ·refine IT 15 h3 h4 Z fun h4=>?_;refine B1 h4 fun x2 h5 h4=>U 1 Z (GO Z (AO.call Z _ Z Z Nn (ko _ h5 (U 1 Z (On 5 18 23 [2,3,4,15] (b1.kind==jJ) Z Z Z Z ?_)))));cases h4;exact gy 1 Z (En [24,2,3,4] Z)
 ·refine IF 15 h3 h4 Z fun h4=>?_;cases h4;exact gy 9 Z (En [24,2,3,4] Z)
 refine U 1 Z (AR.and 11 25 36 [] (x:=((a1.kind==jJ)||(b1.kind==jJ))) Z Z (fun h7=>?_) (fun h7=>?_) ?_)
 ·refine Is 25 h7 Z (U 5 Z (On 5 30 35 [25] (b1.kind==jJ) Z Z Z Z ?_));exact gy 1 Z (En [36] Z)
 ·refine Is 25 h7 Z ?_;exact gy 11 Z (En [36] Z)
 cases hf;exact N 1 Z (Y Z h)
theorem Uv(a1 b1:aI){r0:Bool}(hf:Ho a1 b1=some r0)(h:Q (.ret (.bool r0)) τ):PC 155 [.agg (eZ a1),.agg (eZ b1)] τ Q:=by
 unfold Ho at hf;refine BN 13 [.tmp 4] [0,1] Tryz.func155 Z Z Z Z Z ?_;refine B1 hf fun x1 h1 hf=>W 4 Z (CL Z (Di _ h1 ?_));refine BR hf fun b2 h3 hf=>?_;refine U 2 Z (AR.fT 4 8 12 true [] b2 Z Z (fun h2=>?_) (fun h2=>?_) ?_)
 ·refine IT 8 h2 h3 Z fun h3=>?_;refine B1 h3 fun x2 h4 h3=>U 1 Z (GO Z (AO.call Z _ Z Z alN (Di _ h4 ?_)));cases h3;exact gy 2 Z (En [12] Z)
 ·refine IF 8 h2 h3 Z fun h3=>?_;cases h3;exact gy 4 Z (En [12] Z)
 cases hf;exact N 1 Z (Y Z h)
theorem Uw(a1 b1:aI){r0:aI}(hf:Hq a1 b1=some r0)(h:Q (.ret (.agg (eZ r0))) τ):PC 87 [.agg (eZ a1),.agg (eZ b1)] τ Q:=by
 unfold Hq at hf;refine BN 13 [.cell 4 63] [0,1] Tryz.func87 Z Z Z Z Z (W 2 Z (AS Z (AO.aP Z AU (fun b4=>?_))));refine B1 hf fun x1 h1 hf=>U 2 Z (CL Z (Uv _ _ h1 (J 1 Z (C hf Z (fun h2 hf=>?_) fun h2 hf=>?_))))
 ·refine BR hf fun x2 h3 hf=>?_;refine W 0 Z (CL Z (kg _ h3 ?_));cases hf;exact Rx 1 [0] Z Z (ZC [0] Z Z h)
 refine BR hf fun x3 h4 hf=>?_;refine W 2 Z (CL Z (Ki _ _ h4 ?_));cases hf;exact Rx 1 [0] Z Z (ZC [0] Z Z h)
theorem ZF(a1 b1:aI){r0:aI}{r1:Int}(hf:NQ a1 b1=some (r0,r1))(h:Q (.ret (.tuple [.agg (eZ r0),iP r1])) τ):PC 228 [.agg (eZ a1),.agg (eZ b1)] τ Q:=by
 unfold NQ at hf;refine BN 44 [.cell 4 63,.tmp 5] [0,1] Tryz.func228 Z Z Z Z Z (W 2 Z (AS Z (AO.aP Z AU (fun b4=>?_))));refine B1 hf fun x1 h1 hf=>U 2 Z (CL Z (ko _ h1 ?_));refine B1 hf fun b2 h3 hf=>U 1 Z (AR.fT 3 9 12 true [2,3,4] b2 Z Z (fun h2=>?_) (fun h2=>?_) ?_)
 ·refine IT 9 h2 h3 Z fun h3=>?_;refine BR h3 fun x2 h4 h3=>?_;refine U 1 Z (GO Z (AO.call Z _ Z Z Nn (ko _ h4 ?_)));cases h3;exact gy 1 Z (En [12,2,3,4] Z)
 ·refine IF 9 h2 h3 Z fun h3=>?_;cases h3;exact gy 3 Z (En [12,2,3,4] Z)
 refine J 1 Z (C hf Z (fun h5 hf=>?_) fun h5 hf=>?_)
 ·refine W 4 Z (On 4 16 20 [4] (b1.kind==0) Z Z Z Z (J 0 Z (C hf Z (fun h7 hf=>?_) fun h7 hf=>?_)))
  ·refine B1 hf fun x3 h8 hf=>W 0 Z (CL Z (jX _ h8 ?_));cases hf;exact Rx 2 [0] Z Z (ZC [0] Z Z h)
  refine B1 hf fun x4 h9 hf=>W 0 Z (CL Z (jX _ h9 ?_));cases hf;exact Rx 2 [0] Z Z (ZC [0] Z Z h)
 refine B1 hf fun x5 h10 hf=>W 2 Z (CL Z (jY _ _ _ h10 (J 1 Z (C hf Z (fun h11 hf=>?_) fun h11 hf=>?_))))
 ·refine B1 hf fun x6 h12 hf=>W 0 Z (CL Z (jX _ h12 ?_));cases hf;exact Rx 2 [0] Z Z (ZC [0] Z Z h)
 refine B1 hf fun x7 qp hf=>W 2 Z (CL Z (jY _ _ _ qp (J 1 Z (C hf Z (fun oI hf=>?_) fun oI hf=>?_))))
 ·refine B1 hf fun x8 vY hf=>W 0 Z (CL Z (jX _ vY ?_));cases hf;exact Rx 2 [0] Z Z (ZC [0] Z Z h)
 refine B1 hf fun x9 h16 hf=>W 2 Z (CL Z (jY _ _ _ h16 (J 1 Z (C hf Z (fun AZ hf=>?_) fun AZ hf=>?_))))
 ·exact dH hf
 cases hf;exact Wx 3 [0] Z Z (ZC [0] Z Z h)
theorem Tw(op1:Str)(a1 b1:aI){r0:aI}{r1:Int}(hf:F9 op1 a1 b1=some (r0,r1))(h:Q (.ret (.tuple [.agg (eZ r0),iP r1])) τ):PC 152 [.str op1,.agg (eZ a1),.agg (eZ b1)] τ Q:=by
 unfold F9 at hf;refine BN 59 [.cell 6 63,.tmp 7] [0,1,2] Tryz.func152 Z Z Z Z Z (W 2 Z (AS Z (AO.aP Z AU (fun b6=>(J 6 Z (C hf Z (fun h1 hf=>?_) fun h1 hf=>?_))))))
 ·refine V 0 Z (AW.cond Z (fun h2=>?_) (fun h2=>?_))
  ·refine B1 hf fun x1 h3 hf=>W 1 Z (CL Z (oL _ _ _ h3 (J 0 Z (C hf Z (fun h4 hf=>?_) fun h4 hf=>?_))))
   ·refine B1 hf fun x2 h5 hf=>W 0 Z (CL Z (jX _ h5 ?_));cases hf;exact Rx 2 [0] Z Z (ZC [0] Z Z h)
   cases hf;exact Wx 3 [0] Z Z (ZC [0] Z Z h)
  cases h1.symm.trans h2
 refine V 2 Z (C hf Z (fun h6 hf=>?_) fun h6 hf=>?_)
 ·refine B1 hf fun x3 h7 hf=>W 1 Z (CL Z (oL _ _ _ h7 (J 0 Z (C hf Z (fun h8 hf=>?_) fun h8 hf=>?_))))
  ·refine B1 hf fun x4 h9 hf=>W 0 Z (CL Z (jX _ h9 ?_));cases hf;exact Rx 2 [0] Z Z (ZC [0] Z Z h)
  cases hf;exact Wx 3 [0] Z Z (ZC [0] Z Z h)
 refine V 2 Z (C hf Z (fun h10 hf=>?_) fun h10 hf=>?_)
 ·refine V 0 Z (AW.cond Z (fun h11=>?_) (fun h11=>?_))
  ·refine B1 hf fun x5 h12 hf=>W 0 Z (CL Z (jX _ h12 ?_));cases hf;exact Rx 2 [0] Z Z (ZC [0] Z Z h)
  cases h10.symm.trans h11
 refine V 2 Z (C hf Z (fun qp hf=>?_) fun qp hf=>?_)
 ·refine B1 hf fun x6 oI hf=>W 0 Z (CL Z (jX _ oI ?_));cases hf;exact Rx 2 [0] Z Z (ZC [0] Z Z h)
 refine V 2 Z (C hf Z (fun vY hf=>?_) fun vY hf=>?_)
 ·refine V 0 Z (AW.cond Z (fun h16=>?_) (fun h16=>?_))
  ·refine B1 hf fun x7 AZ hf=>W 1 Z (CL Z (ko _ AZ ?_));refine B1 hf fun b2 h19 hf=>U 1 Z (AR.fT 3 28 31 true [4,5,6] b2 Z Z (fun h18=>?_) (fun h18=>?_) ?_)
   ·refine IT 28 h18 h19 Z fun h19=>?_;refine BR h19 fun x8 h20 h19=>?_;refine U 1 Z (GO Z (AO.call Z _ Z Z Nn (ko _ h20 ?_)));cases h19;exact gy 1 Z (En [31,4,5,6] Z)
   ·refine IF 28 h18 h19 Z fun h19=>?_;cases h19;exact gy 3 Z (En [31,4,5,6] Z)
   refine B1 hf fun b3 h22 hf=>U 1 Z (AR.fT 4 32 36 false [4,5,6] b3 Z Z (fun h21=>?_) (fun h21=>?_) ?_)
   ·refine IF 32 h21 h22 Z fun h22=>?_;refine BR h22 fun x9 h23 h22=>?_;refine U 2 Z (GO Z (AO.call Z _ Z Z Ih (jY _ _ _ h23 ?_)));cases h22;exact gy 1 Z (En [36,4,5,6] Z)
   ·refine IT 32 h21 h22 Z fun h22=>?_;cases h22;exact gy 4 Z (En [36,4,5,6] Z)
   refine B1 hf fun b4 KS hf=>U 1 Z (AR.fT 4 37 41 false [6] b4 Z Z (fun J_=>?_) (fun J_=>?_) ?_)
   ·refine IF 37 J_ KS Z fun KS=>?_;refine BR KS fun EB Mj KS=>?_;refine U 2 Z (GO Z (AO.call Z _ Z Z Ih (jY _ _ _ Mj ?_)));cases KS;exact gy 1 Z (En [41,6] Z)
   ·refine IT 37 J_ KS Z fun KS=>?_;cases KS;exact gy 4 Z (En [41,6] Z)
   refine J 0 Z (C hf Z (fun h27 hf=>?_) fun h27 hf=>?_)
   ·refine B1 hf fun La NA hf=>W 0 Z (CL Z (jX _ NA ?_));cases hf;exact Rx 2 [0] Z Z (ZC [0] Z Z h)
   cases hf;exact Wx 3 [0] Z Z (ZC [0] Z Z h)
  cases vY.symm.trans h16
 refine V 2 Z (C hf Z (fun TL hf=>?_) fun TL hf=>?_)
 ·refine V 0 Z (AW.cond Z (fun h30=>?_) (fun h30=>?_))
  ·refine B1 hf fun Qf h31 hf=>W 1 Z (CL Z (ko _ h31 ?_));refine B1 hf fun b5 JI hf=>U 1 Z (AR.fT 3 28 31 true [4,5,6] b5 Z Z (fun h32=>?_) (fun h32=>?_) ?_)
   ·refine IT 28 h32 JI Z fun JI=>?_;refine BR JI fun OY GQ JI=>?_;refine U 1 Z (GO Z (AO.call Z _ Z Z Nn (ko _ GQ ?_)));cases JI;exact gy 1 Z (En [31,4,5,6] Z)
   ·refine IF 28 h32 JI Z fun JI=>?_;cases JI;exact gy 3 Z (En [31,4,5,6] Z)
   refine B1 hf fun b6 Sd hf=>U 1 Z (AR.fT 4 32 36 false [4,5,6] b6 Z Z (fun P5=>?_) (fun P5=>?_) ?_)
   ·refine IF 32 P5 Sd Z fun Sd=>?_;refine BR Sd fun UQ h37 Sd=>?_;refine U 2 Z (GO Z (AO.call Z _ Z Z Ih (jY _ _ _ h37 ?_)));cases Sd;exact gy 1 Z (En [36,4,5,6] Z)
   ·refine IT 32 P5 Sd Z fun Sd=>?_;cases Sd;exact gy 4 Z (En [36,4,5,6] Z)
   refine B1 hf fun b7 PZ hf=>U 1 Z (AR.fT 4 37 41 false [6] b7 Z Z (fun h38=>?_) (fun h38=>?_) ?_)
   ·refine IF 37 h38 PZ Z fun PZ=>?_;refine BR PZ fun XY h40 PZ=>?_;refine U 2 Z (GO Z (AO.call Z _ Z Z Ih (jY _ _ _ h40 ?_)));cases PZ;exact gy 1 Z (En [41,6] Z)
   ·refine IT 37 h38 PZ Z fun PZ=>?_;cases PZ;exact gy 4 Z (En [41,6] Z)
   refine J 0 Z (C hf Z (fun h41 hf=>?_) fun h41 hf=>?_)
   ·refine B1 hf fun TQ h42 hf=>W 0 Z (CL Z (jX _ h42 ?_));cases hf;exact Rx 2 [0] Z Z (ZC [0] Z Z h)
   cases hf;exact Wx 3 [0] Z Z (ZC [0] Z Z h)
  cases TL.symm.trans h30
 refine V 2 Z (C hf Z (fun h43 hf=>?_) fun h43 hf=>?_)
 ·refine V 0 Z (AW.cond Z (fun h44=>?_) (fun h44=>?_))
  ·refine B1 hf fun XL h45 hf=>W 1 Z (CL Z (ko _ h45 ?_));refine B1 hf fun b8 h47 hf=>U 1 Z (AR.fT 3 28 31 true [4,5,6] b8 Z Z (fun h46=>?_) (fun h46=>?_) ?_)
   ·refine IT 28 h46 h47 Z fun h47=>?_;refine BR h47 fun x18 h48 h47=>?_;refine U 1 Z (GO Z (AO.call Z _ Z Z Nn (ko _ h48 ?_)));cases h47;exact gy 1 Z (En [31,4,5,6] Z)
   ·refine IF 28 h46 h47 Z fun h47=>?_;cases h47;exact gy 3 Z (En [31,4,5,6] Z)
   refine B1 hf fun b9 h50 hf=>U 1 Z (AR.fT 4 32 36 false [4,5,6] b9 Z Z (fun h49=>?_) (fun h49=>?_) ?_)
   ·refine IF 32 h49 h50 Z fun h50=>?_;refine BR h50 fun x19 h51 h50=>?_;refine U 2 Z (GO Z (AO.call Z _ Z Z Ih (jY _ _ _ h51 ?_)));cases h50;exact gy 1 Z (En [36,4,5,6] Z)
   ·refine IT 32 h49 h50 Z fun h50=>?_;cases h50;exact gy 4 Z (En [36,4,5,6] Z)
   refine B1 hf fun b10 Y8 hf=>U 1 Z (AR.fT 4 37 41 false [6] b10 Z Z (fun h52=>?_) (fun h52=>?_) ?_)
   ·refine IF 37 h52 Y8 Z fun Y8=>?_;refine BR Y8 fun x20 h54 Y8=>?_;refine U 2 Z (GO Z (AO.call Z _ Z Z Ih (jY _ _ _ h54 ?_)));cases Y8;exact gy 1 Z (En [41,6] Z)
   ·refine IT 37 h52 Y8 Z fun Y8=>?_;cases Y8;exact gy 4 Z (En [41,6] Z)
   refine J 0 Z (C hf Z (fun h55 hf=>?_) fun h55 hf=>?_)
   ·refine B1 hf fun x21 h56 hf=>W 0 Z (CL Z (jX _ h56 ?_));cases hf;exact Rx 2 [0] Z Z (ZC [0] Z Z h)
   cases hf;exact Wx 3 [0] Z Z (ZC [0] Z Z h)
  cases h43.symm.trans h44
 refine V 2 Z (C hf Z (fun h57 hf=>?_) fun h57 hf=>?_)
 ·refine B1 hf fun x22 h58 hf=>W 1 Z (CL Z (ko _ h58 ?_));refine B1 hf fun b11 h60 hf=>U 1 Z (AR.fT 3 28 31 true [4,5,6] b11 Z Z (fun h59=>?_) (fun h59=>?_) ?_)
  ·refine IT 28 h59 h60 Z fun h60=>?_;refine BR h60 fun x23 h61 h60=>?_;refine U 1 Z (GO Z (AO.call Z _ Z Z Nn (ko _ h61 ?_)));cases h60;exact gy 1 Z (En [31,4,5,6] Z)
  ·refine IF 28 h59 h60 Z fun h60=>?_;cases h60;exact gy 3 Z (En [31,4,5,6] Z)
  refine B1 hf fun b12 h63 hf=>U 1 Z (AR.fT 4 32 36 false [4,5,6] b12 Z Z (fun h62=>?_) (fun h62=>?_) ?_)
  ·refine IF 32 h62 h63 Z fun h63=>?_;refine BR h63 fun x24 h64 h63=>?_;refine U 2 Z (GO Z (AO.call Z _ Z Z Ih (jY _ _ _ h64 ?_)));cases h63;exact gy 1 Z (En [36,4,5,6] Z)
  ·refine IT 32 h62 h63 Z fun h63=>?_;cases h63;exact gy 4 Z (En [36,4,5,6] Z)
  refine B1 hf fun b13 h66 hf=>U 1 Z (AR.fT 4 37 41 false [6] b13 Z Z (fun h65=>?_) (fun h65=>?_) ?_)
  ·refine IF 37 h65 h66 Z fun h66=>?_;refine BR h66 fun x25 h67 h66=>?_;refine U 2 Z (GO Z (AO.call Z _ Z Z Ih (jY _ _ _ h67 ?_)));cases h66;exact gy 1 Z (En [41,6] Z)
  ·refine IT 37 h65 h66 Z fun h66=>?_;cases h66;exact gy 4 Z (En [41,6] Z)
  refine J 0 Z (C hf Z (fun h68 hf=>?_) fun h68 hf=>?_)
  ·refine B1 hf fun x26 h69 hf=>W 0 Z (CL Z (jX _ h69 ?_));cases hf;exact Rx 2 [0] Z Z (ZC [0] Z Z h)
  cases hf;exact Wx 3 [0] Z Z (ZC [0] Z Z h)
 refine V 2 Z (C hf Z (fun h70 hf=>?_) fun h70 hf=>?_)
 ·refine V 0 Z (AW.cond Z (fun h71=>?_) (fun h71=>?_))
  ·refine B1 hf fun x27 h72 hf=>W 1 Z (CL Z (oL _ _ _ h72 (J 0 Z (C hf Z (fun h73 hf=>?_) fun h73 hf=>?_))))
   ·refine B1 hf fun x28 h74 hf=>W 0 Z (CL Z (jX _ h74 ?_));cases hf;exact Rx 2 [0] Z Z (ZC [0] Z Z h)
   cases hf;exact Wx 3 [0] Z Z (ZC [0] Z Z h)
  cases h70.symm.trans h71
 refine V 2 Z (C hf Z (fun h75 hf=>?_) fun h75 hf=>?_)
 ·refine V 0 Z (AW.cond Z (fun h76=>?_) (fun h76=>?_))
  ·refine B1 hf fun x29 h77 hf=>W 1 Z (CL Z (oL _ _ _ h77 (J 0 Z (C hf Z (fun h78 hf=>?_) fun h78 hf=>?_))))
   ·refine B1 hf fun x30 h79 hf=>W 0 Z (CL Z (jX _ h79 ?_));cases hf;exact Rx 2 [0] Z Z (ZC [0] Z Z h)
   cases hf;exact Wx 3 [0] Z Z (ZC [0] Z Z h)
  cases h75.symm.trans h76
 refine V 2 Z (C hf Z (fun h80 hf=>?_) fun h80 hf=>?_)
 ·refine V 0 Z (AW.cond Z (fun h81=>?_) (fun h81=>?_))
  ·refine B1 hf fun x31 h82 hf=>W 1 Z (CL Z (oL _ _ _ h82 (J 0 Z (C hf Z (fun h83 hf=>?_) fun h83 hf=>?_))))
   ·refine B1 hf fun x32 h84 hf=>W 0 Z (CL Z (jX _ h84 ?_));cases hf;exact Rx 2 [0] Z Z (ZC [0] Z Z h)
   cases hf;exact Wx 3 [0] Z Z (ZC [0] Z Z h)
  cases h80.symm.trans h81
 refine V 2 Z (C hf Z (fun h85 hf=>?_) fun h85 hf=>?_)
 ·refine B1 hf fun x33 h86 hf=>W 1 Z (CL Z (oL _ _ _ h86 (J 0 Z (C hf Z (fun h87 hf=>?_) fun h87 hf=>?_))))
  ·refine B1 hf fun x34 h88 hf=>W 0 Z (CL Z (jX _ h88 ?_));cases hf;exact Rx 2 [0] Z Z (ZC [0] Z Z h)
  cases hf;exact Wx 3 [0] Z Z (ZC [0] Z Z h)
 refine V 2 Z (C hf Z (fun h89 hf=>?_) fun h89 hf=>?_)
 ·replace hf:=(JR _).trans hf;obtain⟨x35,x36,h90,hf⟩:=dD hf;refine W 2 Z (CL Z (ZF _ _ h90 ?_));cases hf;exact Rx 4 [0] Z Z (ZC [0] Z Z h)
 cases hf;exact Wx 3 [0] Z Z (ZC [0] Z Z h)
abbrev Gh(iY:ak→List dS→Option (aI × Int)):Prop:=∀(kS:ak) (nS:List dS) {dI:aI} {yZ:Int},iY kS nS=some (dI,yZ)→∀ {τ:List bC} {Q:eP→List bC→Prop} (h:Q (.ret (.tuple [.agg (eZ dI),iP yZ])) τ),PC 86 [.agg (cZ kS),.list (List.map dS.cells nS)] τ Q
abbrev Jp(mR:List ak→List dS→Option (List aI × Int)):Prop:=∀(O4:List ak) (nS:List dS) {dI:List aI} {yZ:Int},mR O4 nS=some (dI,yZ)→∀ {τ:List bC} {Q:eP→List bC→Prop} (h:Q (.ret (.tuple [.list (aI.bO dI),iP yZ])) τ),PC 146 [.list (ak.bO O4),.list (List.map dS.cells nS)] τ Q
theorem V9(iY)(IB:Gh iY)(mR)(Kc:Jp mR)(e1:ak)(eY:List dS){r0:aI}{r1:Int}(hf:F8 iY mR e1 eY=some (r0,r1))(h:Q (.ret (.tuple [.agg (eZ r0),iP r1])) τ):PC 86 [.agg (cZ e1),.list (List.map dS.cells eY)] τ Q:=by
 unfold F8 at hf;refine BN 110 [.cell 4 63,.tmp 5] [0,1] Tryz.func86 Z Z Z Z Z (W 1 Z (AS Z (AO.aP Z AU (fun b4=>(J 4 Z (C hf Z (fun h1 hf=>?_) fun h1 hf=>?_))))))
 ·exact dH hf
 obtain⟨MU,f1,h2,hf⟩:=dD hf;refine W 3 Z (CL Z (Kc _ _ h2 (J 7 Z (C hf Z (fun h3 hf=>?_) fun h3 hf=>?_))))
 ·cases hf;exact Wx 4 [0] Z Z (ZC [0] Z Z h)
 refine V 4 Z (C hf Z (fun h4 hf=>?_) fun h4 hf=>?_)
 ·refine B1 hf fun x1 h5 hf=>W 2 Z (CL Z (Zx _ h5 ?_));cases hf;exact Rx 2 [0] Z Z (ZC [0] Z Z h)
 refine V 2 Z (C hf Z (fun h6 hf=>?_) fun h6 hf=>?_)
 ·replace hf:=(JR _).trans hf;obtain⟨x2,x3,h7,hf⟩:=dD hf;refine W 3 Z (CL Z (N_ _ _ h7 ?_));cases hf;exact Rx 4 [0] Z Z (ZC [0] Z Z h)
 refine V 2 Z (C hf Z (fun h8 hf=>?_) fun h8 hf=>?_)
 ·exact dH hf
 refine V 2 Z (C hf Z (fun h9 hf=>?_) fun h9 hf=>?_)
 ·exact dH hf
 refine V 2 Z (C hf Z (fun h10 hf=>?_) fun h10 hf=>?_)
 ·exact dH hf
 refine V 2 Z (C hf Z (fun h11 hf=>?_) fun h11 hf=>?_)
 ·refine V 0 Z (AW.draw 11 mixed (by kernel_rfl) Z ?_);refine Ev.cs dK 3 Z ?_;refine B1 hf fun e2 h12 hf=>Ev.cons Z Z Z (AO.bQ h12 Z Z (aI.aQ _) Z VA (aI.aV _) Z zg) (Ev.cs dK 2 Z ?_);refine B1 hf fun e3 qp hf=>Ev.cons Z Z Z (AO.bQ qp Z Z (aI.aQ _) Z VA (aI.aV _) Z zg) (Ev.cs dK 1 Z ?_);replace hf:=(JR _).trans hf;obtain⟨x4,x5,oI,hf⟩:=dD hf;refine Ev.cons Z Z Z (AO.call Z _ Z Z akp (Tw _ _ _ oI zg)) (Ev.cs dK 2 Z (Ev.nil ?_));show AR _ _ _ _ _ _ _ _;cases hf;exact Rx 2 [0] Z Z (ZC [0] Z Z h)
 refine V 2 Z (C hf Z (fun vY hf=>?_) fun vY hf=>?_)
 ·exact dH hf
 refine V 2 Z (C hf Z (fun h16 hf=>?_) fun h16 hf=>?_)
 ·exact dH hf
 exact dH hf
theorem X3(iY)(IB:Gh iY)(mR)(Kc:Jp mR)(l1:List ak)(eY:List dS){r0:List aI}{r1:Int}(hf:I6 iY mR l1 eY=some (r0,r1))(h:Q (.ret (.tuple [.list (aI.bO r0),iP r1])) τ):PC 146 [.list (ak.bO l1),.list (List.map dS.cells eY)] τ Q:=by
 unfold I6 at hf;refine BN 32 [.tmp 4,.tmp 5] [0,1] Tryz.func146 Z Z Z Z Z (W 0 Z (AS Z (AO.jv Z Z (U 3 Z (AS Z (AO.bI (l:=l1) Z Z Z Z jD Z (ak.aQ _) (J 1 Z (AW.row 2 63 (LK3 (fun bD v1 x1=>[(1,.list (List.map dS.cells eY)),(6,.own v1 (aI.bO bD)),(11,.list (ak.bO l1)),(12,iP (l1.length:Int)),(13,iP x1)]) (fun bD v1 x1=>[.row v1 (aI.bO bD).length 2 63]) (fun dL bD v1 x1=>BQ iY l1 eY dL bD x1=some (r0,r1)) BIG [] (.slice none 0 0) 0 Z Z hf (fun _ _ _ hz=>dH hz) ?_)))))))));intro dL bD v1 x1 hf;rw[BQ]at hf;refine V 1 Z (C hf Z (fun h1 hf=>?_) fun h1 hf=>?_)
 ·refine B1 hf fun e1 h2 hf=>W 0 Z (AS Z (AO.bQ h2 Z Z (ak.aQ _) Z jD (ak.aV _) Z (U 1 Z (AS Z (AO.aP Z nR (fun b8=>?_))))));obtain⟨x2,f1,h3,hf⟩:=dD hf;refine Rr 3 [0,0] Z Z (CL Z (IB _ _ h3 (U 3 Z (AS Z (AO.aP Z AU (fun b9=>(Rw 4 [0] Z Z (C hf Z (fun h4 hf=>?_) fun h4 hf=>?_))))))))
  ·refine W 1 Z (AS Z (AO.jv Z Z ?_));cases hf;exact N 1 Z (Y Z h)
  refine Wr 2 [0] rfl rfl (AS rfl (AO.dO (aI.bO [x2]) rfl ai1 rfl rfl rfl (by first|rfl|simp only[aI.aV,aI.bO]) ?_));refine B1 hf fun xI h5 hf=>AS Z (AO.jO (i:=2) (l:=bD) (m:=[x2]) h5 Z Z Z Z Z Z Z ai1 VA (aI.aQ _) (aI.aQ _) (aI.aQ _).symm (aI.gG) (aI.cells_one) (by decide) (fun v2 s1 hs1=>?_));cases hs1;refine gy 3 Z (AR.drop1 (AR.drop1 ?_));exact N 0 Z ⟨xI,v2,(bV (x1+1)),Z,Z,Z,hf⟩
 cases hf;exact M 3 Z (Y Z h)
theorem Ma:∀k:Nat,(Gh (rU k))∧(Jp (uI k)):=by
 intro k
 induction k with
 | zero=>exact⟨fun _ _ _ _ hz=>by first|cases hz|(unfold rU at hz;cases hz),fun _ _ _ _ hz=>by first|cases hz|(unfold uI at hz;cases hz)⟩
 | succ k ih=>exact⟨fun kS nS dI yZ hz τ Q hq=>V9 (rU k) ih.1 (uI k) ih.2 kS nS hz hq,fun O4 nS dI yZ hz τ Q hq=>X3 (rU k) ih.1 (uI k) ih.2 O4 nS hz hq⟩
theorem XE(kS:ak)(nS:List dS){dI:aI}{yZ:Int}(hf:SH kS nS=some (dI,yZ))(h:Q (.ret (.tuple [.agg (eZ dI),iP yZ])) τ):PC 86 [.agg (cZ kS),.list (List.map dS.cells nS)] τ Q:=
 ((Ma BIG).1) kS nS hf h
theorem ajz(O4:List ak)(nS:List dS){dI:List aI}{yZ:Int}(hf:ad4 O4 nS=some (dI,yZ))(h:Q (.ret (.tuple [.list (aI.bO dI),iP yZ])) τ):PC 146 [.list (ak.bO O4),.list (List.map dS.cells nS)] τ Q:=
 ((Ma BIG).2) O4 nS hf h
theorem XF(e1:ak)(eY:List dS){r0:aI}{r1:Int}(hf:KZ e1 eY=some (r0,r1))(h:Q (.ret (.tuple [.agg (eZ r0),iP r1])) τ):PC 51 [.agg (cZ e1),.list (List.map dS.cells eY)] τ Q:=by
 unfold KZ at hf;refine BN 35 [.cell 4 63,.tmp 5] [0,1] Tryz.func51 Z Z Z Z Z (W 1 Z (AS Z (AO.aP Z AU (fun b4=>?_))));refine B1 hf fun f1 h1 hf=>U 2 Z (CL Z (OT _ h1 (J 3 Z (C hf Z (fun h2 hf=>?_) fun h2 hf=>?_))))
 ·cases hf;exact Wx 4 [0] Z Z (ZC [0] Z Z h)
 refine B1 hf fun f2 h3 hf=>W 1 Z (CL Z (qV _ h3 (J 3 Z (C hf Z (fun h4 hf=>?_) fun h4 hf=>?_))))
 ·cases hf;exact Wx 4 [0] Z Z (ZC [0] Z Z h)
 obtain⟨x1,f3,h5,hf⟩:=dD hf;refine W 2 Z (CL Z (XE _ _ h5 (U 3 Z (AS Z (AO.aP Z AU (fun b8=>(Rw 4 [0] Z Z (C hf Z (fun h6 hf=>?_) fun h6 hf=>?_))))))))
 ·cases hf;exact Wx 4 [1] Z Z (ZC [1] Z Z h)
 refine V 0 Z (AW.draw 3 mixed (by kernel_rfl) Z ?_);refine Ev.cons Z Z Z (AO.dh (i:=0) Z Z Z aeP Z Z zg) ?_;refine B1 hf fun x2 h7 hf=>Ev.cons Z Z Z (AO.call Z _ Z Z alL (jX _ h7 zg)) ?_;refine B1 hf fun x3 h8 hf=>Ev.cons Z Z Z (AO.call Z _ Z Z alM (Uw _ _ h8 zg)) (Ev.nil ?_);show AR _ _ _ _ _ _ _ _;cases hf;exact Rx 2 [1] Z Z (ZC [1] Z Z h)
section
variable [BZ]
theorem Je(s1:Str)(eY:List dS){r0:Int}(hf:BA s1 eY=some r0)(h:Q (.ret (iP r0)) τ):PC 21 [.str s1,.list (List.map dS.cells eY)] τ Q:=by
 unfold BA at hf;refine AC.none (AC.Ru 46 [.cell 4 24] [0,1] Tryz.func21 Z Z Z Z Z ?_);obtain⟨ps1,jd,mI,h1,hf⟩:=nH hf;refine AW.sr (AR.step Z Z Z (AO.Gc Z Z Z (AR.step Z Z Z (AO.aP Z abA (fun b4=>(AR.nil [0,3,4] Z ?_))))));refine AW.sr (cs 1 Z (AR.step Z Z Z (AO.call Z _ Z Z ajc (uJ _ h1 (cs 7 Z ?_)))));refine AR.nil [3,4,5,7] Z (AW.seq (AW.sr (cs 2 Z ?_)));refine AR.nil [3,4,5,7,19] Z (AW.cond Z (fun h2=>?_) (fun h2=>?_))
 ·cases pV h2 hf;refine AW.sr (cs 1 Z (AR.dx Z Z (AO.eU (i:=0) Z Z Z tV Z Z Z Z Z (AR.nil [4] Z ?_))));refine AW.ret ?_;exact .inl ⟨rfl,_,⟨_,_,rfl,⟨_,_,0,_,_,rfl,rfl,tV,rfl⟩,rfl⟩,[],apZ _,h⟩
 replace hf:=nU h2 hf;refine B1 hf fun Db h3 hf=>?_;refine AW.skip (AW.seq (AW.sr (AR.step Z Z Z (AO.EO Z Z aiZ Z ?_))));refine AR.step Z Z Z (AO.call Z _ Z Z alR (OT _ h3 (cs 1 Z (AR.nil [3,4,5,8] Z (AW.sr ?_)))));refine cs 2 Z (AR.nil [3,4,5,8,24] Z (AW.cond Z (fun h4=>?_) (fun h4=>?_)))
 ·cases pV h4 hf;refine AW.sr (cs 1 Z (AR.dx Z Z (AO.eU (i:=0) Z Z Z tV Z Z Z Z Z (AR.nil [4] Z ?_))));refine AW.ret ?_;exact .inl ⟨rfl,_,⟨_,_,rfl,⟨_,_,0,_,_,rfl,rfl,tV,rfl⟩,rfl⟩,[],apZ _,h⟩
 replace hf:=nU h4 hf;refine B1 hf fun s2 h5 hf=>?_;cases hf;refine AW.skip (AW.seq (AW.sr (cs 1 Z ?_)));refine AR.step Z Z Z (AO.call Z _ Z Z ai8 (Ap _ (AR.nil [3,4,27] Z (AW.block (AW.QV (β:=Option Int) (X:=ak) Z ai6 (fun x1=>[.agg (cZ x1)]) (fun _=>Z) (by decide) (yE eY) (fun s τ=>τ=[.box b4 [iP (s.getD 0)]]) (fun s=>s.map fun _=>.ret) (s0:=none) (s1:=s2) Z Z ?_ ?_ ?_)))))
 ·intro l T' hy τ hT;refine yR l T' (yE eY) hy ps1 h5 hT fun τ' hT'=>?_;exact⟨⟨_,Z⟩,hT'⟩
 ·rintro l s x1 b s3 _ hh rfl;unfold yE at hh;cases s with
  | some e=>cases hh
  | none=>
  refine⟨Z,?_⟩;obtain⟨t1,acA,h6,hh⟩:=dD hh;refine qA.region Z (AR.step Z Z Z (AO.aP Z nR (fun b9=>(AR.dx Z Z (AO.eU (i:=0) Z Z Z lG Z Z Z Z Z (AR.nil [3,4,9] Z ?_))))));refine⟨Z,(qA.block (qA.seq (qA.region Z ?_)))⟩;refine AR.step Z Z Z (AO.dh (i:=0) Z Z Z lG Z Z (AR.step Z Z Z (AO.EO Z Z aiZ Z (AR.step Z Z Z (AO.call Z _ Z Z alQ (XF _ _ h6 (cs 3 Z ?_)))))));refine AR.step Z Z Z (AO.aP Z AU (fun b10=>(AR.dx Z Z (AO.eU (i:=0) Z Z Z aeP Z Z Z Z Z (cs 1 Z (AR.nil [4,10,11] Z ?_))))));refine qA.seq (qA.seq (qA.region Z (cs 2 Z ?_)));refine AR.nil [4,10,11,36] Z (qA.cond Z (fun h7=>?_) (fun h7=>?_))
  ·cases pV h7 hh;refine qA.seq (qA.region Z (cs 1 Z (AR.dx Z Z (AO.eU (i:=2) Z Z Z tV Z Z Z Z Z ?_))));refine AR.nil [] Z (qA.ret ?_);exact⟨Z,⟨_,.cons _ (.cons _ (List.Sublist.refl _)),Z⟩,Z,Z⟩
  replace hh:=nU h7 hh;refine qA.skip (qA.seq (qA.region Z (cs 1 Z ?_)));refine AR.step Z Z Z (AO.dh (i:=0) Z Z Z Cv Z Z (cs 2 Z (AR.or 4 41 45 [4,10] (x:=(t1.kind==6)) Z Z (fun h8=>?_) (fun h8=>?_) ?_)))
  ·refine AR.is 41 h8 Z (cs 1 Z (AR.go Z Z Z Z Z Z (AO.dh (i:=0) Z Z Z Cv Z Z (cs 2 Z ?_))));refine AR.nil [45,4,10] Z ?_;exact⟨Z,Z,Z,Z⟩
  ·refine AR.is 41 h8 Z (cs 4 Z (AR.nil [45,4,10] Z ?_));exact⟨Z,Z,Z,Z⟩
  refine AR.nil [4,45] Z (qA.cond Z (fun h9=>?_) (fun h9=>?_))
  ·cases pV h9 hh;refine qA.seq (qA.region Z (AR.dx Z Z (AO.eU (i:=2) Z Z Z tV Z Z Z Z Z (AR.nil [] Z ?_))));refine qA.ret ?_;exact⟨Z,⟨_,.cons _ (.cons _ (List.Sublist.refl _)),Z⟩,Z,Z⟩
  ·cases nU h9 hh;refine qA.skip ?_;exact⟨Z,⟨_,.cons _ (.cons _ (List.Sublist.refl _)),Z⟩,Z,Z⟩
 ·rintro D _ rfl;cases s2 with
  | some e=>exact .inr ⟨D,_,Z,Z,_,⟨_,_,Z,⟨_,_,0,_,_,Z,Z,tV,Z⟩,Z⟩,[],apZ _,h⟩
  | none=>
   show AW _ _ _ _ _ _ _;refine AW.sr (AR.dx Z Z (AO.eU (i:=0) Z Z Z tV Z Z Z Z Z (AR.nil [4] Z (AW.ret ?_))));exact .inr ⟨D,[_],Z,Z,_,⟨_,_,Z,⟨_,_,0,_,_,Z,Z,tV,Z⟩,Z⟩,[],apZ _,h⟩
end
section
variable [BZ]
theorem Jd{r0:Bool}(hf:zu=some r0)(h:Q (.ret (.bool r0)) τ):PC 10 [] τ Q:=by
 unfold zu at hf;refine BN 136 [.tmp 0] [] Tryz.func10 Z Z Z Z Z (W 1 Z (AS Z (AO.dO (List.map jE ([36]:List UInt8)) Z QF Z Z Z Z (AS Z (AO.VO Z aiU Wh fD Z Z ?_)))));refine B1 hf fun x1 h1 hf=>U 2 Z (AS Z (AO.o_ h1 Z Z Z ?_));refine B1 hf fun x2 h2 hf=>U 1 Z (AS Z (AO.o_ h2 Z Z Z ?_));refine B1 hf fun x3 h3 hf=>AS Z (AO.o_ h3 Z Z Z ?_);refine B1 hf fun x4 h4 hf=>CL Z (Tj  h4 ?_);refine B1 hf fun x5 h5 hf=>AS Z (AO.o_ h5 Z Z Z ?_);refine B1 hf fun s1 h6 hf=>AS rfl (AO.o_ h6 rfl rfl rfl (U 3 rfl (AS rfl (AO.dO (List.map aB.cells [(aB.mk ([120]:Str) (ah.mk 2 false 2 ([]:Str) [] []))]) rfl QG rfl rfl rfl (by first|rfl|simp only[List.map,aB.aV]) ?_))));obtain⟨l1,x6,e1,h7,hf⟩:=nH hf;refine U 2 Z (CL Z (uJ _ h7 ?_));obtain⟨t1,f1,h8,hf⟩:=dD hf;refine U 9 Z (CL Z (wJ _ _ h8 ?_));obtain⟨n1,g1,h9,hf⟩:=dD hf;refine U 6 Z (CL Z (Tk _ h9 ?_));refine B1 hf fun x7 h10 hf=>U 5 Z (CL Z (Tj  h10 ?_))
 refine B1 hf fun x8 h11 hf=>AS Z (AO.o_ h11 Z Z Z ?_);refine B1 hf fun x9 h12 hf=>AS Z (AO.o_ h12 Z Z Z ?_);obtain⟨EB,jd,hx1,qp,hf⟩:=nH hf;refine CL Z (uJ _ qp (U 10 Z (AR.or 4 55 59 [1,2,4,7,8,9,10,12,13] (x:=((l1.length:Int) !=3)) Z Z (fun oI=>?_) (fun oI=>?_) ?_)))
 ·refine Is 55 oI Z (U 1 Z (GO Z (AO.bI (l:=l1) Z Z Z Z Gt Z Z ?_)));exact gy 2 Z (En [59,1,2,4,7,8,9,10,12,13] Z)
 ·refine Is 55 oI Z ?_;exact gy 4 Z (En [59,1,2,4,7,8,9,10,12,13] Z)
 refine B1 hf fun b1 h16 hf=>U 1 Z (AR.fT 9 60 69 false [1,2,4,7,8,9,10,12,13] b1 Z Z (fun vY=>?_) (fun vY=>?_) ?_)
 ·refine IF 60 vY h16 Z fun h16=>?_;refine B1 h16 fun e2 AZ h16=>U 1 Z (GO Z (AO.bQ AZ Z Z Z Z Gt (aY.aV _) Z ?_));refine B1 h16 fun La h18 h16=>U 3 Z (GO Z (AO.o_ h18 Z Z Z ?_));refine B1 h16 fun Qf h19 h16=>GO Z (AO.o_ h19 Z Z Z ?_);cases h16;exact gy 2 Z (En [69,1,2,4,7,8,9,10,12,13] Z)
 ·refine IT 60 vY h16 Z fun h16=>?_;cases h16;exact gy 9 Z (En [69,1,2,4,7,8,9,10,12,13] Z)
 refine B1 hf fun b2 h21 hf=>U 1 Z (AR.fT 6 70 76 false [1,2,4,7,8,9,10,12,13] b2 Z Z (fun h20=>?_) (fun h20=>?_) ?_)
 ·refine IF 70 h20 h21 Z fun h21=>?_;refine B1 h21 fun e3 h22 h21=>U 1 Z (GO Z (AO.bQ h22 Z Z Z Z Gt (aY.aV _) Z ?_));cases h21;exact gy 4 Z (En [76,1,2,4,7,8,9,10,12,13] Z)
 ·refine IT 70 h20 h21 Z fun h21=>?_;cases h21;exact gy 6 Z (En [76,1,2,4,7,8,9,10,12,13] Z)
 refine B1 hf fun b3 J_ hf=>U 1 Z (AR.fT 6 77 83 false [1,2,4,7,8,9,10,12,13] b3 Z Z (fun h23=>?_) (fun h23=>?_) ?_)
 ·refine IF 77 h23 J_ Z fun J_=>?_;refine B1 J_ fun e4 KS J_=>U 1 Z (GO Z (AO.bQ KS Z Z Z Z Gt (aY.aV _) Z ?_));cases J_;exact gy 4 Z (En [83,1,2,4,7,8,9,10,12,13] Z)
 ·refine IT 77 h23 J_ Z fun J_=>?_;cases J_;exact gy 6 Z (En [83,1,2,4,7,8,9,10,12,13] Z)
 refine U 1 Z (On 3 84 87 [1,2,4,7,9,10,12,13] (f1 !=0) Z Z Z Z ?_);refine B1 hf fun b4 NA hf=>U 1 Z (AR.fT 6 88 94 false [2,4,9,10,12,13] b4 Z Z (fun h27=>?_) (fun h27=>?_) ?_)
 ·refine IF 88 h27 NA Z fun NA=>?_;refine B1 NA fun OY TL NA=>U 2 Z (GO Z (AO.o_ TL Z Z Z ?_));refine B1 NA fun UQ h30 NA=>GO Z (AO.o_ h30 Z Z Z ?_);cases NA;exact gy 2 Z (En [94,2,4,9,10,12,13] Z)
 ·refine IT 88 h27 NA Z fun NA=>?_;cases NA;exact gy 6 Z (En [94,2,4,9,10,12,13] Z)
 refine J 0 Z (C hf Z (fun h31 hf=>?_) fun h31 hf=>?_)
 ·cases hf;exact M 1 Z (Y Z h)
 refine W 2 rfl (AS rfl (AO.dO (List.map dS.cells [(dS.mk ([120]:Str) (aI.mk 3 []))]) rfl alC rfl rfl rfl (by first|rfl|simp only[List.map,dS.aV]) ?_));refine U 4 Z (AR.and 4 100 104 [2,4,9,12,13,14] (x:=((n1.length:Int)==1)) Z Z (fun h32=>?_) (fun h32=>?_) ?_)
 ·refine Is 100 h32 Z (U 1 Z (GO Z (AO.bI (l:=n1) Z Z Z Z ku Z Z ?_)));exact gy 2 Z (En [104,2,4,9,12,13,14] Z)
 ·refine Is 100 h32 Z ?_;exact gy 4 Z (En [104,2,4,9,12,13,14] Z)
 refine B1 hf fun b5 GQ hf=>U 1 Z (AR.fT 5 105 110 true [2,4,12,13,14] b5 Z Z (fun JI=>?_) (fun JI=>?_) ?_)
 ·refine IT 105 JI GQ Z fun GQ=>?_;refine B1 GQ fun e5 P5 GQ=>U 1 Z (GO Z (AO.bQ P5 Z Z Z Z ku Z Z ?_));cases GQ;exact gy 3 Z (En [110,2,4,12,13,14] Z)
 ·refine IF 105 JI GQ Z fun GQ=>?_;cases GQ;exact gy 5 Z (En [110,2,4,12,13,14] Z)
 refine U 1 Z (An 3 111 114 [2,4,13,14] (jd==6) Z Z Z Z (U 1 Z (An 3 115 118 [2,4,14] (hx1==4) Z Z Z Z ?_)));refine B1 hf fun b6 PZ hf=>U 1 Z (AR.fT 5 119 124 true [2,14] b6 Z Z (fun h38=>?_) (fun h38=>?_) ?_)
 ·refine IT 119 h38 PZ Z fun PZ=>?_;refine B1 PZ fun XY h40 PZ=>U 1 Z (GO Z (AO.call Z _ Z Z alX (UH _ h40 ?_)));cases PZ;exact gy 3 Z (En [124,2,14] Z)
 ·refine IF 119 h38 PZ Z fun PZ=>?_;cases PZ;exact gy 5 Z (En [124,2,14] Z)
 refine B1 hf fun b7 h42 hf=>U 1 Z (AR.fT 5 125 130 true [2] b7 Z Z (fun h41=>?_) (fun h41=>?_) ?_)
 ·refine IT 125 h41 h42 Z fun h42=>?_;refine B1 h42 fun TQ h43 h42=>U 2 Z (GO Z (AO.call Z _ Z Z ajb (Je _ _ h43 ?_)));cases h42;exact gy 2 Z (En [130,2] Z)
 ·refine IF 125 h41 h42 Z fun h42=>?_;cases h42;exact gy 5 Z (En [130,2] Z)
 refine BR hf fun b8 h45 hf=>?_;refine U 1 Z (AR.fT 4 131 135 true [] b8 Z Z (fun h44=>?_) (fun h44=>?_) ?_)
 ·refine IT 131 h44 h45 Z fun h45=>?_;refine B1 h45 fun XL h46 h45=>U 1 Z (GO Z (AO.call Z _ Z Z ajb (Je _ _ h46 ?_)));cases h45;exact gy 2 Z (En [135] Z)
 ·refine IF 131 h44 h45 Z fun h45=>?_;cases h45;exact gy 4 Z (En [135] Z)
 cases hf;exact N 1 Z (Y Z h)
end
section
variable [BZ]
theorem MF(s1 t1:Str)(gu:List aB){r0:Bool}(hf:wF s1 t1 gu=some r0)(h:Q (.ret (.bool r0)) τ):PC 9 [.str s1,.str t1,.list (List.map aB.cells gu)] τ Q:=by
 unfold wF at hf;refine BN 105 [.tmp 6] [0,1,2] Tryz.func9 Z Z Z Z Z (W 2 Z (AS Z (AO.eG Z Z Z Z fD Z (U 1 Z (AS Z (AO.eG Z Z Z Z fD Z (U 3 Z (AR.or 4 21 25 [0,1,2] (x:=(decide (300<(gu.length:Int)))) Z Z (fun h1=>?_) (fun h1=>?_) ?_))))))))
 ·refine Is 21 h1 Z (U 1 Z (GO Z (AO.bI (l:=gu) Z Z Z Z C8 Z Z ?_)));exact gy 2 Z (En [25,0,1,2] Z)
 ·refine Is 21 h1 Z ?_;exact gy 4 Z (En [25,0,1,2] Z)
 refine B1 hf fun b1 h3 hf=>U 1 Z (AR.fT 11 26 37 false [0,1,2] b1 Z Z (fun h2=>?_) (fun h2=>?_) ?_)
 ·refine IF 26 h2 h3 Z fun h3=>?_;refine BR h3 fun b2 h5 h3=>?_;refine U 3 Z (AR.fT 7 29 36 true [0,1,2,26] b2 Z Z (fun h4=>?_) (fun h4=>?_) ?_)
  ·replace h5:=pV h4 h5;refine Is 29 h4 Z (U 2 Z (GO Z (AO.eG Z Z Z Z fD Z ?_)));refine B1 h5 fun x1 h6 h5=>U 1 Z (GO Z (AO.ig h6 Z fD Z Z ?_));cases h5;exact gy 2 Z (En [36,0,1,2,26] Z)
  ·refine IF 29 h4 h5 Z fun h5=>?_;cases h5;exact gy 7 Z (En [36,0,1,2,26] Z)
  cases h3;exact gy 1 Z (En [37,0,1,2] Z)
 ·refine IT 26 h2 h3 Z fun h3=>?_;cases h3;exact gy 11 Z (En [37,0,1,2] Z)
 refine J 0 Z (C hf Z (fun h7 hf=>?_) fun h7 hf=>?_)
 ·refine BR hf fun x2 h8 hf=>?_;refine W 0 Z (CL Z (Jd  h8 ?_));cases hf;exact N 1 Z (Y Z h)
 obtain⟨a1,e1,h9,hf⟩:=dD hf;refine W 2 Z (CL Z (wJ _ _ h9 ?_));obtain⟨b3,f1,h10,hf⟩:=dD hf;refine U 7 Z (CL Z (wJ _ _ h10 (U 8 Z (On 3 53 56 [0,1,2,7,9] (f1 !=0) Z Z Z Z (U 1 Z (AR.or 7 57 64 [0,1,2,7,9] (x:=(decide (4096<(bV ((a1.length:Int)+(b3.length:Int)))))) Z Z (fun h12=>?_) (fun h12=>?_) ?_))))))
 ·refine Is 57 h12 Z (U 1 Z (GO Z (AO.eG Z Z Z Z fD Z (U 1 Z (GO Z (AO.eG Z Z Z Z fD Z ?_))))));exact gy 3 Z (En [64,0,1,2,7,9] Z)
 ·refine Is 57 h12 Z ?_;exact gy 7 Z (En [64,0,1,2,7,9] Z)
 refine J 0 Z (C hf Z (fun qp hf=>?_) fun qp hf=>?_)
 ·refine BR hf fun x3 oI hf=>?_;refine W 0 Z (CL Z (Jd  oI ?_));cases hf;exact N 1 Z (Y Z h)
 refine V 2 Z (LK2 (fun uG i1=>[(0,.str s1),(1,.str t1),(2,.list (List.map aB.cells gu)),(7,.str a1),(9,.str b3),(11,iP uG),(12,iP i1)]) (fun uG i1=>[]) (fun dL uG i1=>jU s1 t1 gu a1 b3 dL uG i1=some r0) BIG 0 0 Z Z hf (fun _ _ hz=>dH hz) ?_);intro dL uG i1 hf;rw[jU]at hf;refine W 2 Z (AS Z (AO.eG Z Z Z Z fD Z (J 1 Z (C hf Z (fun vY hf=>?_) fun vY hf=>?_))))
 ·refine B1 hf fun x4 h16 hf=>W 2 Z (AS Z (AO.ig h16 Z fD Z Z (J 1 Z (C hf Z (fun AZ hf=>?_) fun AZ hf=>?_))))
  ·exact M 6 Z ⟨(bV (uG+1)),(bV (i1+1)),Z,Z,Z,hf⟩
  exact M 3 Z ⟨uG,(bV (i1+1)),Z,Z,Z,hf⟩
 refine W 3 Z (An 4 80 84 [0,1,2,7,9] (!(a1==s1)) Z Z Z Z (J 0 Z (C hf Z (fun h19 hf=>?_) fun h19 hf=>?_)))
 ·cases hf;exact M 1 Z (Y Z h)
 refine B1 hf fun x5 h20 hf=>W 2 Z (AS Z (AO.o_ h20 Z Z Z ?_));obtain⟨c1,g1,h21,hf⟩:=dD hf;refine U 1 Z (CL Z (wJ _ _ h21 ?_));refine B1 hf fun b4 h23 hf=>U 8 Z (AR.fT 6 95 101 true [] b4 Z Z (fun h22=>?_) (fun h22=>?_) ?_)
 ·refine IT 95 h22 h23 Z fun h23=>?_;refine B1 h23 fun x6 J_ h23=>U 3 Z (GO Z (AO.o_ J_ Z Z Z ?_));cases h23;exact gy 2 Z (En [101] Z)
 ·refine IF 95 h22 h23 Z fun h23=>?_;cases h23;exact gy 6 Z (En [101] Z)
 refine BR hf fun b5 Mj hf=>?_;refine U 1 Z (AR.fT 2 102 104 true [] b5 Z Z (fun KS=>?_) (fun KS=>?_) ?_)
 ·refine IT 102 KS Mj Z fun Mj=>?_;refine BR Mj fun x7 h27 Mj=>?_;refine GO Z (AO.call Z _ Z Z alY (Jd  h27 ?_));cases Mj;exact gy 1 Z (En [104] Z)
 ·refine IF 102 KS Mj Z fun Mj=>?_;cases Mj;exact gy 2 Z (En [104] Z)
 cases hf;exact N 1 Z (Y Z h)
end
end Go.Proofs.YtpbjbkhfpjckoaaGreatDoor
