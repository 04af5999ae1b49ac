/- Proved here: each function does what its functional text says (part 2). -/
import Derived.Test.YtdomnihfjnbnjaaGreatDoorSdWalk1
set_option linter.unusedVariables false
set_option linter.unusedSimpArgs false
set_option linter.defProp false
set_option linter.unusedSectionVars false
namespace Go.Proofs.YtdomnihfjnbnjaaGreatDoor
open Go Go.Abs Go.Ft
set_option maxRecDepth 20000
set_option maxHeartbeats 8000000
attribute [local irreducible] AO AR AW AC au fD mq dU fZ idx sl app
variable [gQ]
variable {τ : List aR} {Q : dN → List aR → Prop}
instance Wh(t1:ay)(i1:ay):CT Tryz.prog (Cx t1 i1) (fun r=>.ret (.tuple [.agg (aY r.1),iP r.2])) 71 [.agg (aY t1),.agg (aY i1)]:=by
  unfold Cx;exact Z1 ⟨42,[],[]⟩ Z Tryz.func71 Z Z Z Z
instance V_(op1:Str)(t1:ay):CT Tryz.prog (Cw op1 t1) (fun r=>.ret (.tuple [.agg (aY r.1),iP r.2])) 72 [.str op1,.agg (aY t1)]:=by
  unfold Cw;exact Z1 ⟨17,[],[]⟩ Z Tryz.func72 Z Z Z Z
instance agD(eP:Int)(c1:ay)(c2:ay):CT Tryz.prog (jk eP c1 c2) (fun r=>.ret (.bool r)) 112 [iP eP,.ref (aY c1),.ref (aY c2)]:=by
  unfold jk;exact Z1 ⟨15,[],[]⟩ Z Tryz.func112 Z Z Z Z
instance ajT(a1:ay)(b1:ay)(eP:Int):CT Tryz.prog (iC a1 b1 eP) (fun r=>.ret (.bool r)) 113 [.agg (aY a1),.agg (aY b1),iP eP]:=by
  unfold iC;exact Z1 ⟨37,[],[]⟩ Z Tryz.func113 Z Z Z Z
instance agX(t1:ay):CT Tryz.prog (uy t1) (fun r=>.ret (.agg (aY r))) 158 [.agg (aY t1)]:=by
  unfold uy;exact Z1 ⟨10,[],[]⟩ Z Tryz.func158 Z Z Z Z
instance akj(a1:ay)(b1:ay):CT Tryz.prog (Fx a1 b1) (fun r=>.ret (.bool r)) 76 [.agg (aY a1),.agg (aY b1)]:=by
  unfold Fx;exact Z1 ⟨13,[],[]⟩ Z Tryz.func76 Z Z Z Z
instance V3(a1:ay)(b1:ay):CT Tryz.prog (l7 a1 b1) (fun r=>.ret (.agg (aY r))) 41 [.agg (aY a1),.agg (aY b1)]:=by
  unfold l7;exact Z1 ⟨13,[],[]⟩ Z Tryz.func41 Z Z Z Z
instance anD(a1:ay)(b1:ay):CT Tryz.prog (Ho a1 b1) (fun r=>.ret (.tuple [.agg (aY r.1),iP r.2])) 114 [.agg (aY a1),.agg (aY b1)]:=by
  unfold Ho;exact Z1 ⟨44,[],[]⟩ Z Tryz.func114 Z Z Z Z
instance Vj(op1:Str)(a1:ay)(b1:ay):CT Tryz.prog (DU op1 a1 b1) (fun r=>.ret (.tuple [.agg (aY r.1),iP r.2])) 73 [.str op1,.agg (aY a1),.agg (aY b1)]:=by
  unfold DU;exact Z1 ⟨59,[],[]⟩ Z Tryz.func73 Z Z Z Z
instance (eP :Int) (iX:List ay) (n_ ku Ao):LE (qR eP iX n_ ku Ao) (fun j p=>qR eP iX j p.1 p.2) n_ (ku,Ao) [] [] [] [0,4,6,11,12] (fun v w p=>[(13,iP p.1)]) (fun v w p s=>AZ 0 (aY p.2) (s)):=⟨Z⟩
instance Hz(eP:Int)(iX:List ay):CT Tryz.prog (sI eP iX) (fun r=>.ret (.tuple [.agg (aY r.1),iP r.2])) 75 [iP eP,.list (ay.bq iX)]:=by
  unfold sI;exact Z1 ⟨29,[],[]⟩ Z Tryz.func75 Z Z Z Z
abbrev D6(gD:ak→List aT→Option (ay × Int)):Prop:=∀(jo:ak) (kU:List aT) {yc:ay} {Ew:Int},gD jo kU=some (yc,Ew)→∀ {τ:List aR} {Q:dN→List aR→Prop} (h:Q (.ret (.tuple [.agg (aY yc),iP Ew])) τ),PC 40 [.agg (bJ jo),.list (List.map aT.cells kU)] τ Q
abbrev D7(iT:ak→List aT→Option (ay × Int)):Prop:=∀(jo:ak) (kU:List aT) {yc:ay} {Ew:Int},iT jo kU=some (yc,Ew)→∀ {τ:List aR} {Q:dN→List aR→Prop} (h:Q (.ret (.tuple [.agg (aY yc),iP Ew])) τ),PC 66 [.agg (bJ jo),.list (List.map aT.cells kU)] τ Q
abbrev Gb(jf:List ak→List aT→Option (List ay × Int)):Prop:=∀(Rs:List ak) (kU:List aT) {yc:List ay} {Ew:Int},jf Rs kU=some (yc,Ew)→∀ {τ:List aR} {Q:dN→List aR→Prop} (h:Q (.ret (.tuple [.list (ay.bq yc),iP Ew])) τ),PC 67 [.list (ak.bq Rs),.list (List.map aT.cells kU)] τ Q
theorem XW(gD)(ET:D6 gD)(iT)(EU:D7 iT)(jf)(BH:Gb jf)(e1:ak)(dJ:List aT){r0:ay}{r1:Int}(hf:DT gD iT jf e1 dJ=some (r0,r1))(h:Q (.ret (.tuple [.agg (aY r0),iP r1])) τ):PC 40 [.agg (bJ e1),.list (List.map aT.cells dJ)] τ Q:=by
 unfold DT at hf;refine BN 110 [.cell 4 34,.tmp 5] [0,1] Tryz.func40 Z Z Z Z Z (W 1 Z (AS Z (AO.bL Z Jt (fun b4=>(J 4 Z (C hf Z (fun h1 hf=>?_) fun h1 hf=>?_))))))
 ·replace hf:=(zh _).trans hf;obtain⟨x1,x2,h2,hf⟩:=gy hf;refine W 2 Z (CL Z (EU _ _ h2 ?_));cases hf;exact Rx 4 [0] Z Z (ZC [0] Z Z h)
 obtain⟨iX,f1,h3,hf⟩:=gy hf;refine W 3 Z (CL Z (BH _ _ h3 (J 7 Z (C hf Z (fun h4 hf=>?_) fun h4 hf=>?_))))
 ·cases hf;exact Wx 4 [0] Z Z (ZC [0] Z Z h)
 refine V 4 Z (C hf Z (fun h5 hf=>?_) fun h5 hf=>?_)
 ·refine B1 hf fun x3 h6 hf=>W 2 Z (CL Z ((abr _).h h6 ?_));cases hf;exact Rx 2 [0] Z Z (ZC [0] Z Z h)
 refine V 2 Z (C hf Z (fun h7 hf=>?_) fun h7 hf=>?_)
 ·replace hf:=(zh _).trans hf;obtain⟨x4,x5,h8,hf⟩:=gy hf;refine W 3 Z (CL Z ((QA _ _).h h8 ?_));cases hf;exact Rx 4 [0] Z Z (ZC [0] Z Z h)
 refine V 2 Z (C hf Z (fun h9 hf=>?_) fun h9 hf=>?_)
 ·refine B1 hf fun e2 h10 hf=>W 1 Z (AS Z (AO.dK h10 Z Z (ay.bA _) Z Cr (ay.aQ _) Z ?_));replace hf:=(zh _).trans hf;obtain⟨x6,x7,h11,hf⟩:=gy hf;refine U 1 Z (CL Z ((Vi _).h h11 ?_));cases hf;exact Rx 4 [0] Z Z (ZC [0] Z Z h)
 refine V 2 Z (C hf Z (fun h12 hf=>?_) fun h12 hf=>?_)
 ·refine V 0 Z (AW.draw 9 mixed (by kernel_rfl) Z ?_);refine Ev.cs gB 1 Z ?_;refine B1 hf fun e3 L_ hf=>Ev.cons Z Z Z (AO.dK L_ Z Z (ay.bA _) Z Cr (ay.aQ _) Z zg) (Ev.cs gB 2 Z ?_);refine B1 hf fun e4 Kk hf=>Ev.cons Z Z Z (AO.dK Kk Z Z (ay.bA _) Z Cr (ay.aQ _) Z zg) (Ev.cs gB 1 Z ?_);replace hf:=(zh _).trans hf;obtain⟨x8,x9,Vn,hf⟩:=gy hf;refine Ev.cons Z Z Z (AO.call Z _ Z Z apX ((Wh _ _).h Vn zg)) (Ev.cs gB 2 Z (Ev.nil ?_));show AR _ _ _ _ _ _ _ _;cases hf;exact Rx 2 [0] Z Z (ZC [0] Z Z h)
 refine V 2 Z (C hf Z (fun h16 hf=>?_) fun h16 hf=>?_)
 ·refine V 0 Z (AW.draw 8 mixed (by kernel_rfl) Z ?_);refine Ev.cs gB 3 Z ?_;refine B1 hf fun e5 h17 hf=>Ev.cons Z Z Z (AO.dK h17 Z Z (ay.bA _) Z Cr (ay.aQ _) Z zg) (Ev.cs gB 1 Z ?_);replace hf:=(zh _).trans hf;obtain⟨Fh,Jj,h18,hf⟩:=gy hf;refine Ev.cons Z Z Z (AO.call Z _ Z Z apW ((V_ _ _).h h18 zg)) (Ev.cs gB 2 Z (Ev.nil ?_));show AR _ _ _ _ _ _ _ _;cases hf;exact Rx 2 [0] Z Z (ZC [0] Z Z h)
 refine V 2 Z (C hf Z (fun h19 hf=>?_) fun h19 hf=>?_)
 ·refine V 0 Z (AW.draw 11 mixed (by kernel_rfl) Z ?_);refine Ev.cs gB 3 Z ?_;refine B1 hf fun e6 h20 hf=>Ev.cons Z Z Z (AO.dK h20 Z Z (ay.bA _) Z Cr (ay.aQ _) Z zg) (Ev.cs gB 2 Z ?_);refine B1 hf fun e7 h21 hf=>Ev.cons Z Z Z (AO.dK h21 Z Z (ay.bA _) Z Cr (ay.aQ _) Z zg) (Ev.cs gB 1 Z ?_);replace hf:=(zh _).trans hf;obtain⟨LA,Ml,h22,hf⟩:=gy hf;refine Ev.cons Z Z Z (AO.call Z _ Z Z apV ((Vj _ _ _).h h22 zg)) (Ev.cs gB 2 Z (Ev.nil ?_));show AR _ _ _ _ _ _ _ _;cases hf;exact Rx 2 [0] Z Z (ZC [0] Z Z h)
 refine V 2 Z (C hf Z (fun h23 hf=>?_) fun h23 hf=>?_)
 ·refine V 0 Z (AW.draw 6 mixed (by kernel_rfl) Z ?_);refine Ev.cs gB 1 Z ?_;refine B1 hf fun e8 h24 hf=>Ev.cons Z Z Z (AO.dK h24 Z Z (ay.bA _) Z Cr (ay.aQ _) Z zg) (Ev.cs gB 1 Z ?_);refine B1 hf fun Vu h25 hf=>Ev.cons Z Z Z (AO.call Z _ Z Z amG ((Bh _).h h25 zg)) ?_;refine B1 hf fun Ro h26 hf=>Ev.cons Z Z Z (AO.call Z _ Z Z apU ((Nk _ _).h h26 zg)) (Ev.cs gB 1 Z (Ev.nil ?_));show AR _ _ _ _ _ _ _ _;refine J 0 Z (C hf Z (fun h27 hf=>?_) fun h27 hf=>?_)
  ·cases hf;exact Wx 3 [0] Z Z (ZC [0] Z Z h)
  refine V 0 Z (AW.draw 7 mixed (by kernel_rfl) Z ?_);refine Ev.cs gB 1 Z ?_;refine B1 hf fun e9 h28 hf=>Ev.cons Z Z Z (AO.dK h28 Z Z (ay.bA _) Z Cr (ay.aQ _) Z zg) (Ev.cs gB 2 Z ?_);refine B1 hf fun e10 h29 hf=>Ev.cons Z Z Z (AO.dK h29 Z Z (ay.bA _) Z Cr (ay.aQ _) Z zg) (Ev.cs gB 1 Z ?_);refine B1 hf fun Lx h30 hf=>Ev.cons Z Z Z (AO.call Z _ Z Z ap0 ((V3 _ _).h h30 zg)) (Ev.nil ?_);show AR _ _ _ _ _ _ _ _;cases hf;exact Rx 2 [0] Z Z (ZC [0] Z Z h)
 refine V 2 Z (C hf Z (fun h31 hf=>?_) fun h31 hf=>?_)
 ·replace hf:=(zh _).trans hf;obtain⟨Wo,x18,h32,hf⟩:=gy hf;refine W 1 Z (CL Z ((Hz _ _).h h32 ?_));cases hf;exact Rx 4 [0] Z Z (ZC [0] Z Z h)
 replace hf:=(zh _).trans hf;obtain⟨x19,x20,Xm,hf⟩:=gy hf;refine W 1 Z (CL Z ((Hz _ _).h Xm ?_));cases hf;exact Rx 4 [0] Z Z (ZC [0] Z Z h)
theorem XY(gD)(ET:D6 gD)(iT)(EU:D7 iT)(jf)(BH:Gb jf)(e1:ak)(dJ:List aT){r0:ay}{r1:Int}(hf:Ad gD iT jf e1 dJ=some (r0,r1))(h:Q (.ret (.tuple [.agg (aY r0),iP r1])) τ):PC 66 [.agg (bJ e1),.list (List.map aT.cells dJ)] τ Q:=by
 unfold Ad at hf;refine BN 69 [.cell 4 34,.tmp 5] [0,1] Tryz.func66 Z Z Z Z Z (W 1 Z (AS Z (AO.bL Z Jt (fun b4=>?_))));obtain⟨jv,x1,h1,hf⟩:=gy hf;refine U 3 Z (CL Z ((Nj _).h h1 (U 3 Z (AS Z (AO.bL Z Jt (fun b7=>(Rr 3 [0] Z Z (AS Z (AO.fU (l:=jv) Z Z Z Z YQ Z Z (J 1 Z (C hf Z (fun h2 hf=>?_) fun h2 hf=>?_)))))))))))
 ·cases hf;exact Wx 3 [1] Z Z (ZC [1] Z Z h)
 refine V 0 Z (AW.draw 8 mixed (by kernel_rfl) Z ?_);refine Ev.cs gB 2 Z (Ev.cons Z Z Z (AO.fU (l:=e1.args) Z Z Z Z uM Z (ak.bA _) zg) (Ev.cs gB 1 Z ?_));refine B1 hf fun e2 h3 hf=>Ev.cons Z Z Z (AO.dK h3 Z Z Z Z YQ Z Z zg) (Ev.cs gB 1 Z (Ev.cons Z Z Z (AO.fU (l:=e2) Z Z Z Z Cr Z (ay.bA _) zg) (Ev.cs gB 1 Z ?_)));refine Ev.nil ?_;show AR _ _ _ _ _ _ _ _;refine J 0 Z (C hf Z (fun h4 hf=>?_) fun h4 hf=>?_)
 ·cases hf;exact Wx 3 [1] Z Z (ZC [1] Z Z h)
 obtain⟨iX,f1,h5,hf⟩:=gy hf;refine W 3 Z (CL Z (BH _ _ h5 (J 7 Z (C hf Z (fun h6 hf=>?_) fun h6 hf=>?_))))
 ·cases hf;exact Wx 4 [1] Z Z (ZC [1] Z Z h)
 refine W 1 Z (AS Z (AO.fU (l:=jv) Z Z Z Z YQ Z Z ?_));refine J 1 Z (LK1 (fun x2=>[(2,.ref (bJ e1)),(4,pP b4),(7,pP b7),(8,.list (ay.bq iX)),(42,.list (List.map ay.rH jv)),(43,iP (jv.length:Int)),(44,iP x2)]) (fun x2=>[.box b7 (aY x1),.box b4 [iP 0,.own (.slice none 0 0) []]]) (fun dW x2=>ng e1 jv x1 iX dW x2=some (r0,r1)) BIG 0 Z Z hf (fun _ hz=>lM hz) ?_);intro dW x2 hf;rw[ng]at hf;refine V 1 Z (C hf Z (fun h7 hf=>?_) fun h7 hf=>?_)
 ·refine B1 hf fun C9 h8 hf=>W 0 Z (AS Z (AO.dK h8 Z Z Z Z YQ Z Z ?_));refine B1 hf fun x3 h9 hf=>U 4 Z (CL Z ((Wd _ _).h h9 (J 1 Z (C hf Z (fun h10 hf=>?_) fun h10 hf=>?_))))
  ·exact M 2 Z ⟨(bF (x2+1)),Z,Z,Z,hf⟩
  refine V 3 Z (C hf Z (fun h11 hf=>?_) fun h11 hf=>?_)
  ·cases hf;exact Wx 3 [0,1] Z Z (ZC [1] Z Z h)
  refine B1 hf fun e3 h12 hf=>W 1 Z (AS Z (AO.dK h12 Z Z (ay.bA _) Z Cr (ay.aQ _) Z (J 3 Z (C hf Z (fun L_ hf=>?_) fun L_ hf=>?_))))
  ·refine B1 hf fun e4 Kk hf=>W 1 Z (AS Z (AO.dK Kk Z Z (ay.bA _) Z Cr (ay.aQ _) Z ?_));cases hf;exact Rx 3 [1] Z Z (ZC [1] Z Z h)
  refine B1 hf fun e5 Vn hf=>W 1 Z (AS Z (AO.dK Vn Z Z (ay.bA _) Z Cr (ay.aQ _) Z ?_));cases hf;exact Rx 3 [1] Z Z (ZC [1] Z Z h)
 cases hf;exact Wx 3 [1] Z Z (ZC [1] Z Z h)
theorem Zr(gD)(ET:D6 gD)(iT)(EU:D7 iT)(jf)(BH:Gb jf)(l1:List ak)(dJ:List aT){r0:List ay}{r1:Int}(hf:KF gD iT jf l1 dJ=some (r0,r1))(h:Q (.ret (.tuple [.list (ay.bq r0),iP r1])) τ):PC 67 [.list (ak.bq l1),.list (List.map aT.cells dJ)] τ Q:=by
 unfold KF at hf;refine BN 32 [.tmp 4,.tmp 5] [0,1] Tryz.func67 Z Z Z Z Z (W 0 Z (AS Z (AO.kr Z Z (U 3 Z (AS Z (AO.fU (l:=l1) Z Z Z Z uM Z (ak.bA _) (J 1 Z (AW.row 2 34 (LK3 (fun bP v1 x1=>[(1,.list (List.map aT.cells dJ)),(6,.own v1 (ay.bq bP)),(11,.list (ak.bq l1)),(12,iP (l1.length:Int)),(13,iP x1)]) (fun bP v1 x1=>[.row v1 (ay.bq bP).length 2 34]) (fun dW bP v1 x1=>oI gD l1 dJ dW bP x1=some (r0,r1)) BIG [] (.slice none 0 0) 0 Z Z hf (fun _ _ _ hz=>lM hz) ?_)))))))));intro dW bP v1 x1 hf;rw[oI]at hf;refine V 1 Z (C hf Z (fun h1 hf=>?_) fun h1 hf=>?_)
 ·refine B1 hf fun e1 h2 hf=>W 0 Z (AS Z (AO.dK h2 Z Z (ak.bA _) Z uM (ak.aQ _) Z (U 1 Z (AS Z (AO.bL Z LK (fun b8=>?_))))));obtain⟨x2,f1,h3,hf⟩:=gy hf;refine Rr 3 [0,0] Z Z (CL Z (ET _ _ h3 (U 3 Z (AS Z (AO.bL Z Jt (fun b9=>(Rw 4 [0] Z Z (C hf Z (fun h4 hf=>?_) fun h4 hf=>?_))))))))
  ·refine W 1 Z (AS Z (AO.kr Z Z ?_));cases hf;exact N 1 Z (Y Z h)
  refine Wr 2 [0] rfl rfl (AS rfl (AO.bN (ay.bq [x2]) rfl wZ rfl rfl rfl (by first|rfl|simp only[ay.aQ,ay.bq]) ?_));refine B1 hf fun xk h5 hf=>AS Z (AO.tQ (i:=2) (l:=bP) (m:=[x2]) h5 Z Z Z Z Z Z Z wZ Cr (ay.bA _) (ay.bA _) (ay.bA _).symm (ay.fA) (ay.cells_one) (by decide) (fun v2 s1 hs1=>?_));cases hs1;refine zm 3 Z (AR.drop1 (AR.drop1 ?_));exact N 0 Z ⟨xk,v2,(bF (x1+1)),Z,Z,Z,hf⟩
 cases hf;exact M 3 Z (Y Z h)
theorem Ip:∀k:Nat,(D6 (gK k))∧(D7 (lV k))∧(Gb (kG k)):=by
 intro k
 induction k with
 | zero=>exact⟨fun _ _ _ _ hz=>by first|cases hz|(unfold gK at hz;cases hz),fun _ _ _ _ hz=>by first|cases hz|(unfold lV at hz;cases hz),fun _ _ _ _ hz=>by first|cases hz|(unfold kG at hz;cases hz)⟩
 | succ k ih=>exact⟨fun jo kU yc Ew hz τ Q hq=>XW (gK k) ih.1 (lV k) ih.2.1 (kG k) ih.2.2 jo kU hz hq,fun jo kU yc Ew hz τ Q hq=>XY (gK k) ih.1 (lV k) ih.2.1 (kG k) ih.2.2 jo kU hz hq,fun Rs kU yc Ew hz τ Q hq=>Zr (gK k) ih.1 (lV k) ih.2.1 (kG k) ih.2.2 Rs kU hz hq⟩
instance amm(jo:ak)(kU:List aT):CT Tryz.prog (M_ jo kU) (fun r=>.ret (.tuple [.agg (aY r.1),iP r.2])) 40 [.agg (bJ jo),.list (List.map aT.cells kU)]:=⟨zP rfl,fun {r} hf {τ Q} h=>((Ip BIG).1) jo kU hf h⟩
instance amn(jo:ak)(kU:List aT):CT Tryz.prog (acX jo kU) (fun r=>.ret (.tuple [.agg (aY r.1),iP r.2])) 66 [.agg (bJ jo),.list (List.map aT.cells kU)]:=⟨zP rfl,fun {r} hf {τ Q} h=>((Ip BIG).2.1) jo kU hf h⟩
instance anE(Rs:List ak)(kU:List aT):CT Tryz.prog (agi Rs kU) (fun r=>.ret (.tuple [.list (ay.bq r.1),iP r.2])) 67 [.list (ak.bq Rs),.list (List.map aT.cells kU)]:=⟨zP rfl,fun {r} hf {τ Q} h=>((Ip BIG).2.2) Rs kU hf h⟩
instance Zb(e1:ak)(dJ:List aT):CT Tryz.prog (Bf e1 dJ) (fun r=>.ret (.tuple [.agg (aY r.1),iP r.2])) 19 [.agg (bJ e1),.list (List.map aT.cells dJ)]:=by
  unfold Bf;exact Z1 ⟨35,[],[]⟩ Z Tryz.func19 Z Z Z Z
section
variable [D8]
instance KO(s1:Str)(dJ:List aT):CT Tryz.prog (tL s1 dJ) (fun r=>.ret (iP r)) 7 [.str s1,.list (List.map aT.cells dJ)]:=⟨zP rfl,fun {r0} hf {τ Q} h=>by
 unfold tL at hf;refine AC.none (AC.TI 46 [.cell 4 38] [0,1] Tryz.func7 Z Z Z Z Z ?_);obtain⟨ps1,dP,nL,h1,hf⟩:=wK hf;refine AW.sr (AR.step Z Z Z (AO.IQ Z Z Z (AR.step Z Z Z (AO.bL Z adn (fun b4=>(AR.nil [0,3,4] Z ?_))))));refine AW.sr (cs 1 Z (AR.step Z Z Z (AO.call Z _ Z Z amM ((vT _).h h1 (cs 7 Z ?_)))));refine AR.nil [3,4,5,7] Z (AW.seq (AW.sr (cs 2 Z ?_)));refine AR.nil [3,4,5,7,19] Z (AW.cond Z (fun h2=>?_) (fun h2=>?_))
 ·cases ql h2 hf;refine AW.sr (cs 1 Z (AR.bZ Z Z (AO.dX (i:=0) Z Z Z uX Z Z Z Z Z (AR.nil [4] Z ?_))));refine AW.ret ?_;exact .inl ⟨rfl,_,⟨_,_,rfl,⟨_,_,0,_,_,rfl,rfl,uX,rfl⟩,rfl⟩,[],aup _,h⟩
 replace hf:=nZ h2 hf;refine B1 hf fun Hf h3 hf=>?_;refine AW.skip (AW.seq (AW.sr (AR.step Z Z Z (AO.GL Z Z amA Z ?_))));refine AR.step Z Z Z (AO.call Z _ Z Z ap7 ((abC _).h h3 (cs 1 Z (AR.nil [3,4,5,8] Z (AW.sr ?_)))));refine cs 2 Z (AR.nil [3,4,5,8,24] Z (AW.cond Z (fun h4=>?_) (fun h4=>?_)))
 ·cases ql h4 hf;refine AW.sr (cs 1 Z (AR.bZ Z Z (AO.dX (i:=0) Z Z Z uX Z Z Z Z Z (AR.nil [4] Z ?_))));refine AW.ret ?_;exact .inl ⟨rfl,_,⟨_,_,rfl,⟨_,_,0,_,_,rfl,rfl,uX,rfl⟩,rfl⟩,[],aup _,h⟩
 replace hf:=nZ h4 hf;refine B1 hf fun s2 h5 hf=>?_;cases hf;refine AW.skip (AW.seq (AW.sr (cs 1 Z ?_)));refine AR.step Z Z Z (AO.call Z _ Z Z amL (Cy _ (AR.nil [3,4,27] Z (AW.block (AW.Tk (β:=Option Int) (X:=ak) Z amH (fun x1=>[.agg (bJ x1)]) (fun _=>Z) (by decide) (pU dJ) (fun s τ=>τ=[.box b4 [iP (s.getD 0)]]) (fun s=>s.map fun _=>.ret) (s0:=none) (s1:=s2) Z Z ?_ ?_ ?_)))))
 ·intro l T' hy τ hT;refine Af l T' (pU dJ) hy ps1 h5 hT fun τ' hT'=>?_;exact⟨⟨_,Z⟩,hT'⟩
 ·rintro l s x1 b s3 _ hh rfl;unfold pU at hh;cases s with
  | some e=>cases hh
  | none=>
  refine⟨Z,?_⟩;obtain⟨t1,aez,h6,hh⟩:=gy hh;refine rE.region Z (AR.step Z Z Z (AO.bL Z LK (fun b9=>(AR.bZ Z Z (AO.dX (i:=0) Z Z Z Ap Z Z Z Z Z (AR.nil [3,4,9] Z ?_))))));refine⟨Z,(rE.block (rE.seq (rE.region Z ?_)))⟩;refine AR.step Z Z Z (AO.bC (i:=0) Z Z Z Ap Z Z (AR.step Z Z Z (AO.GL Z Z amA Z (AR.step Z Z Z (AO.call Z _ Z Z ap6 ((Zb _ _).h h6 (cs 3 Z ?_)))))));refine AR.step Z Z Z (AO.bL Z Jt (fun b10=>(AR.bZ Z Z (AO.dX (i:=0) Z Z Z kK Z Z Z Z Z (cs 1 Z (AR.nil [4,10,11] Z ?_))))));refine rE.seq (rE.seq (rE.region Z (cs 2 Z ?_)));refine AR.nil [4,10,11,36] Z (rE.cond Z (fun h7=>?_) (fun h7=>?_))
  ·cases ql h7 hh;refine rE.seq (rE.region Z (cs 1 Z (AR.bZ Z Z (AO.dX (i:=2) Z Z Z uX Z Z Z Z Z ?_))));refine AR.nil [] Z (rE.ret ?_);exact⟨Z,⟨_,.cons _ (.cons _ (List.Sublist.refl _)),Z⟩,Z,Z⟩
  replace hh:=nZ h7 hh;refine rE.skip (rE.seq (rE.region Z (cs 1 Z ?_)));refine AR.step Z Z Z (AO.bC (i:=0) Z Z Z Jl Z Z (cs 2 Z (AR.or 4 41 45 [4,10] (x:=(t1.kind==6)) Z Z (fun h8=>?_) (fun h8=>?_) ?_)))
  ·refine AR.is 41 h8 Z (cs 1 Z (AR.go Z Z Z Z Z Z (AO.bC (i:=0) Z Z Z Jl Z Z (cs 2 Z ?_))));refine AR.nil [45,4,10] Z ?_;exact⟨Z,Z,Z,Z⟩
  ·refine AR.is 41 h8 Z (cs 4 Z (AR.nil [45,4,10] Z ?_));exact⟨Z,Z,Z,Z⟩
  refine AR.nil [4,45] Z (rE.cond Z (fun h9=>?_) (fun h9=>?_))
  ·cases ql h9 hh;refine rE.seq (rE.region Z (AR.bZ Z Z (AO.dX (i:=2) Z Z Z uX Z Z Z Z Z (AR.nil [] Z ?_))));refine rE.ret ?_;exact⟨Z,⟨_,.cons _ (.cons _ (List.Sublist.refl _)),Z⟩,Z,Z⟩
  ·cases nZ h9 hh;refine rE.skip ?_;exact⟨Z,⟨_,.cons _ (.cons _ (List.Sublist.refl _)),Z⟩,Z,Z⟩
 ·rintro D _ rfl;cases s2 with
  | some e=>exact .inr ⟨D,_,Z,Z,_,⟨_,_,Z,⟨_,_,0,_,_,Z,Z,uX,Z⟩,Z⟩,[],aup _,h⟩
  | none=>
   show AW _ _ _ _ _ _ _;refine AW.sr (AR.bZ Z Z (AO.dX (i:=0) Z Z Z uX Z Z Z Z Z (AR.nil [4] Z (AW.ret ?_))))
   exact .inr ⟨D,[_],Z,Z,_,⟨_,_,Z,⟨_,_,0,_,_,Z,Z,uX,Z⟩,Z⟩,[],aup _,h⟩⟩
end
section
variable [D8]
instance anw:CT Tryz.prog (yY) (fun r=>.ret (.bool r)) 5 []:=⟨zP rfl,fun {r0} hf {τ Q} h=>by
 unfold yY at hf;refine BN 136 [.tmp 0] [] Tryz.func5 Z Z Z Z Z (W 1 Z (AS Z (AO.bN (List.map iE ([36]:List UInt8)) Z WT Z Z Z Z (AS Z (AO.XF Z apx anM uN Z Z ?_)))));refine B1 hf fun x1 h1 hf=>U 2 Z (AS Z (AO.OV h1 Z Z Z ?_));refine B1 hf fun x2 h2 hf=>U 1 Z (AS Z (AO.OV h2 Z Z Z ?_));refine B1 hf fun x3 h3 hf=>AS Z (AO.OV h3 Z Z Z ?_);refine B1 hf fun x4 h4 hf=>CL Z ((Va).h h4 ?_);refine B1 hf fun x5 h5 hf=>AS Z (AO.OV h5 Z Z Z ?_);refine B1 hf fun s1 h6 hf=>AS rfl (AO.OV h6 rfl rfl rfl (U 3 rfl (AS rfl (AO.bN (List.map aF.cells [(aF.mk ([120]:Str) (ah.mk 2 false 2 ([]:Str) [] []))]) rfl SS rfl rfl rfl (by first|rfl|simp only[List.map,aF.aQ]) ?_))));obtain⟨l1,x6,e1,h7,hf⟩:=wK hf;refine U 2 Z (CL Z ((vT _).h h7 ?_));obtain⟨t1,f1,h8,hf⟩:=gy hf;refine U 9 Z (CL Z ((RJ _ _).h h8 ?_));obtain⟨n1,g1,h9,hf⟩:=gy hf;refine U 6 Z (CL Z ((Vb _).h h9 ?_));refine B1 hf fun x7 h10 hf=>U 5 Z (CL Z ((Va).h h10 ?_))
 refine B1 hf fun x8 h11 hf=>AS Z (AO.OV h11 Z Z Z ?_);refine B1 hf fun x9 h12 hf=>AS Z (AO.OV h12 Z Z Z ?_);obtain⟨Fh,dP,hx1,L_,hf⟩:=wK hf;refine CL Z ((vT _).h L_ (U 10 Z (AR.or 4 55 59 [1,2,4,7,8,9,10,12,13] (x:=((l1.length:Int) !=3)) Z Z (fun Kk=>?_) (fun Kk=>?_) ?_)))
 ·refine Is 55 Kk Z (U 1 Z (GO Z (AO.fU (l:=l1) Z Z Z Z Jb Z Z ?_)));exact zm 2 Z (En [59,1,2,4,7,8,9,10,12,13] Z)
 ·refine Is 55 Kk Z ?_;exact zm 4 Z (En [59,1,2,4,7,8,9,10,12,13] Z)
 refine B1 hf fun b1 h16 hf=>U 1 Z (AR.xA 9 60 69 false [1,2,4,7,8,9,10,12,13] b1 Z Z (fun Vn=>?_) (fun Vn=>?_) ?_)
 ·refine IF 60 Vn h16 Z fun h16=>?_;refine B1 h16 fun e2 h17 h16=>U 1 Z (GO Z (AO.dK h17 Z Z Z Z Jb (aS.aQ _) Z ?_));refine B1 h16 fun Jj h18 h16=>U 3 Z (GO Z (AO.OV h18 Z Z Z ?_));refine B1 h16 fun LA h19 h16=>GO Z (AO.OV h19 Z Z Z ?_);cases h16;exact zm 2 Z (En [69,1,2,4,7,8,9,10,12,13] Z)
 ·refine IT 60 Vn h16 Z fun h16=>?_;cases h16;exact zm 9 Z (En [69,1,2,4,7,8,9,10,12,13] Z)
 refine B1 hf fun b2 h21 hf=>U 1 Z (AR.xA 6 70 76 false [1,2,4,7,8,9,10,12,13] b2 Z Z (fun h20=>?_) (fun h20=>?_) ?_)
 ·refine IF 70 h20 h21 Z fun h21=>?_;refine B1 h21 fun e3 h22 h21=>U 1 Z (GO Z (AO.dK h22 Z Z Z Z Jb (aS.aQ _) Z ?_));cases h21;exact zm 4 Z (En [76,1,2,4,7,8,9,10,12,13] Z)
 ·refine IT 70 h20 h21 Z fun h21=>?_;cases h21;exact zm 6 Z (En [76,1,2,4,7,8,9,10,12,13] Z)
 refine B1 hf fun b3 h24 hf=>U 1 Z (AR.xA 6 77 83 false [1,2,4,7,8,9,10,12,13] b3 Z Z (fun h23=>?_) (fun h23=>?_) ?_)
 ·refine IF 77 h23 h24 Z fun h24=>?_;refine B1 h24 fun e4 h25 h24=>U 1 Z (GO Z (AO.dK h25 Z Z Z Z Jb (aS.aQ _) Z ?_));cases h24;exact zm 4 Z (En [83,1,2,4,7,8,9,10,12,13] Z)
 ·refine IT 77 h23 h24 Z fun h24=>?_;cases h24;exact zm 6 Z (En [83,1,2,4,7,8,9,10,12,13] Z)
 refine U 1 Z (On 3 84 87 [1,2,4,7,9,10,12,13] (f1 !=0) Z Z Z Z ?_);refine B1 hf fun b4 h28 hf=>U 1 Z (AR.xA 6 88 94 false [2,4,9,10,12,13] b4 Z Z (fun h27=>?_) (fun h27=>?_) ?_)
 ·refine IF 88 h27 h28 Z fun h28=>?_;refine B1 h28 fun Ml h29 h28=>U 2 Z (GO Z (AO.OV h29 Z Z Z ?_));refine B1 h28 fun Vu h30 h28=>GO Z (AO.OV h30 Z Z Z ?_);cases h28;exact zm 2 Z (En [94,2,4,9,10,12,13] Z)
 ·refine IT 88 h27 h28 Z fun h28=>?_;cases h28;exact zm 6 Z (En [94,2,4,9,10,12,13] Z)
 refine J 0 Z (C hf Z (fun h31 hf=>?_) fun h31 hf=>?_)
 ·cases hf;exact M 1 Z (Y Z h)
 refine W 2 rfl (AS rfl (AO.bN (List.map aT.cells [(aT.mk ([120]:Str) (ay.mk 3 []))]) rfl apF rfl rfl rfl (by first|rfl|simp only[List.map,aT.aQ]) ?_));refine U 4 Z (AR.and 4 100 104 [2,4,9,12,13,14] (x:=((n1.length:Int)==1)) Z Z (fun h32=>?_) (fun h32=>?_) ?_)
 ·refine Is 100 h32 Z (U 1 Z (GO Z (AO.fU (l:=n1) Z Z Z Z FW Z Z ?_)));exact zm 2 Z (En [104,2,4,9,12,13,14] Z)
 ·refine Is 100 h32 Z ?_;exact zm 4 Z (En [104,2,4,9,12,13,14] Z)
 refine B1 hf fun b5 O6 hf=>U 1 Z (AR.xA 5 105 110 true [2,4,12,13,14] b5 Z Z (fun Xm=>?_) (fun Xm=>?_) ?_)
 ·refine IT 105 Xm O6 Z fun O6=>?_;refine B1 O6 fun e5 h35 O6=>U 1 Z (GO Z (AO.dK h35 Z Z Z Z FW Z Z ?_));cases O6;exact zm 3 Z (En [110,2,4,12,13,14] Z)
 ·refine IF 105 Xm O6 Z fun O6=>?_;cases O6;exact zm 5 Z (En [110,2,4,12,13,14] Z)
 refine U 1 Z (An 3 111 114 [2,4,13,14] (dP==6) Z Z Z Z (U 1 Z (An 3 115 118 [2,4,14] (hx1==4) Z Z Z Z ?_)));refine B1 hf fun b6 h39 hf=>U 1 Z (AR.xA 5 119 124 true [2,14] b6 Z Z (fun h38=>?_) (fun h38=>?_) ?_)
 ·refine IT 119 h38 h39 Z fun h39=>?_;refine B1 h39 fun Ro h40 h39=>U 1 Z (GO Z (AO.call Z _ Z Z ap8 ((V9 _).h h40 ?_)));cases h39;exact zm 3 Z (En [124,2,14] Z)
 ·refine IF 119 h38 h39 Z fun h39=>?_;cases h39;exact zm 5 Z (En [124,2,14] Z)
 refine B1 hf fun b7 h42 hf=>U 1 Z (AR.xA 5 125 130 true [2] b7 Z Z (fun h41=>?_) (fun h41=>?_) ?_)
 ·refine IT 125 h41 h42 Z fun h42=>?_;refine B1 h42 fun Lx h43 h42=>U 2 Z (GO Z (AO.call Z _ Z Z apY ((KO _ _).h h43 ?_)));cases h42;exact zm 2 Z (En [130,2] Z)
 ·refine IF 125 h41 h42 Z fun h42=>?_;cases h42;exact zm 5 Z (En [130,2] Z)
 refine BR hf fun b8 h45 hf=>?_;refine U 1 Z (AR.xA 4 131 135 true [] b8 Z Z (fun h44=>?_) (fun h44=>?_) ?_)
 ·refine IT 131 h44 h45 Z fun h45=>?_;refine B1 h45 fun Wo h46 h45=>U 1 Z (GO Z (AO.call Z _ Z Z apY ((KO _ _).h h46 ?_)));cases h45;exact zm 2 Z (En [135] Z)
 ·refine IF 131 h44 h45 Z fun h45=>?_;cases h45;exact zm 4 Z (En [135] Z)
 cases hf;exact N 1 Z (Y Z h)⟩
end
instance anm(eP:Int):CT Tryz.prog (jY eP) (fun r=>.ret (.agg (aY r))) 15 [iP eP]:=by
  unfold jY;exact Z1 ⟨5,[],[]⟩ Z Tryz.func15 Z Z Z Z
instance anl(eP:Int):CT Tryz.prog (AU eP) (fun r=>.ret (.bool r)) 61 [iP eP]:=by
  unfold AU;exact Z1 ⟨9,[],[]⟩ Z Tryz.func61 Z Z Z Z
instance aoV(eP:Int)(t1:ay):CT Tryz.prog (jG eP t1) (fun r=>.ret (.agg (aY r))) 36 [iP eP,.agg (aY t1)]:=by
  unfold jG;exact Z1 ⟨9,[],[]⟩ Z Tryz.func36 Z Z Z Z
section
variable (FU : ay → ay → Option ay) [alL : ∀(Bo : ay) (Bn : ay), CT Tryz.prog (FU Bo Bn) (fun r => .ret (.agg (aY r))) 35 [.agg (aY Bo), .agg (aY Bn)]]
instance Y6(a1:ay)(b1:ay):CT Tryz.prog (yx FU a1 b1) (fun r=>.ret (.agg (aY r))) 35 [.agg (aY a1),.agg (aY b1)]:=by
  unfold yx;exact Z1 ⟨35,[],[]⟩ Z Tryz.func35 Z Z Z Z
end
theorem TR:∀k:Nat,(∀(Bo:ay) (Bn:ay),CT Tryz.prog (vg k Bo Bn) (fun r=>.ret (.agg (aY r))) 35 [.agg (aY Bo),.agg (aY Bn)])
  | 0=>fun _ _=>CT.none Z
  | k+1=>by
    obtain (i0):=TR k;exact fun Bo Bn=>Y6 _ Bo Bn
instance aoU(Bo:ay)(Bn:ay):CT Tryz.prog (JQ Bo Bn) (fun r=>.ret (.agg (aY r))) 35 [.agg (aY Bo),.agg (aY Bn)]:=(TR BIG) Bo Bn
section
variable (wG : ah → Option ay) [aoy : ∀(nS : ah), CT Tryz.prog (wG nS) (fun r => .ret (.agg (aY r))) 16 [.agg (aP nS)]]
instance (v1 :ah) (n_ ku Ao):LE (Gz wG v1 n_ ku Ao) (fun j p=>Gz wG v1 j p.1 p.2) n_ (ku,Ao) [] [] [] [1,2,3] (fun v w p=>[(4,iP p.1)]) (fun v w p s=>AZ 0 (aY p.2) (s)):=⟨Z⟩
instance ac9(v1:ah):CT Tryz.prog (NU wG v1) (fun r=>.ret (.agg (aY r))) 16 [.agg (aP v1)]:=by
  unfold NU;exact Z1 ⟨42,[],[]⟩ Z Tryz.func16 Z Z Z Z
end
theorem aas:∀k:Nat,(∀(nS:ah),CT Tryz.prog (EI k nS) (fun r=>.ret (.agg (aY r))) 16 [.agg (aP nS)])
  | 0=>fun _=>CT.none Z
  | k+1=>by
    obtain (i0):=aas k;exact fun nS=>ac9 _ nS
instance aq8(nS:ah):CT Tryz.prog (ab8 nS) (fun r=>.ret (.agg (aY r))) 16 [.agg (aP nS)]:=(aas BIG) nS
instance aq9(v1:ah):CT Tryz.prog (PE v1) (fun r=>.ret (.agg (aY r))) 6 [.agg (aP v1)]:=by
  unfold PE;exact Z1 ⟨9,[],[]⟩ Z Tryz.func6 Z Z Z Z
section
variable [D8]
instance (s1 :Str) (gZ:List aF) (n_ ku Ao):LE (mR s1 gZ n_ ku Ao) (fun j p=>mR s1 gZ j p.1 p.2) n_ (ku,Ao) [5] [] [(5,3,37)] [0,1] (fun v w p=>[(5,.own v (List.map aT.cells p.1)),(6,iP p.2)]) (fun v w p s=>putRow 0 v ((List.map aT.cells p.1).length) (s)):=⟨Z⟩
instance aeQ(s1:Str)(gZ:List aF):CT Tryz.prog (ug s1 gZ) (fun r=>.ret (.bool r)) 3 [.str s1,.list (List.map aF.cells gZ)]:=by
  unfold ug;exact Z1 ⟨76,[],[]⟩ Z Tryz.func3 Z Z Z Z
theorem OW(s1:Str)(gZ:List aF){r0:Bool}(hf:ug s1 gZ=some r0){τ:List aR}{Q:dN→List aR→Prop}(h:Q (.ret (.bool r0)) τ):AC Tryz.prog 3 [.str s1,.list (List.map aF.cells gZ)] τ Q:=CT.h hf h
end
end Go.Proofs.YtdomnihfjnbnjaaGreatDoor
