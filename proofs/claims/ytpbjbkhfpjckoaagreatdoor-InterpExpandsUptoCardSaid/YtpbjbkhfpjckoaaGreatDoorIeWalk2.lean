/- Proved here: each function does what its functional text says (part 2). -/
import Derived.Test.YtpbjbkhfpjckoaaGreatDoorIeWalk1
set_option linter.unusedVariables false
set_option linter.unusedSimpArgs false
set_option linter.defProp false
set_option linter.unusedSectionVars false
namespace Go.Proofs.YtpbjbkhfpjckoaaGreatDoor
open Go Go.Abs Go.Ft
set_option maxRecDepth 20000
set_option maxHeartbeats 8000000
attribute [local irreducible] AO AR AW AC av eO lN dR fU idx sl app
variable [gN]
variable {τ : List aS} {Q : dN → List aS → Prop}
theorem Tg(l1:List aO)(c1:UInt8){r0:List aO}(hf:D5 l1 c1=some r0){v:Value}{Q:dN→List aS→Prop}(h:∀v',Q (.ret (.val v')) [.buf v' r0.length 12 39 (List.flatMap aO.cells r0)]):
  PC 32 [.val v,.int .u8 (c1.toNat:Int)] [.buf v l1.length 12 39 (List.flatMap aO.cells l1)] Q:=by
 unfold D5 at hf
 have hL:l1.length≤rM:=by
  by_cases hL:l1.length≤rM
  ·exact hL
  ·rw[if_neg hL]at hf;cases hf
 rw[if_pos hL]at hf;unfold rM at hL;refine AC.jZ 42 [.tmp 4] [0,1] Tryz.func32 Z Z Z Z Z (AW.sr (cs 1 Z (AR.nil [0,1] Z ?_)));refine AW.seq (AW.sr (cs 1 Z (AR.step Z Z Z (AO.Ng (i:=0) Z Z Z Z xg Z Z ?_))));refine cs 2 Z (AR.or 8 8 16 [0,1] (x:=xS l1) Z Z (fun h1=>?_) (fun h1=>?_) ?_)
 ·refine AR.is 8 h1 Z ?_;rcases List.eq_nil_or_concat l1 with rfl|⟨l0,p1,rfl⟩
  ·simp at h1
  rw[List.concat_eq_append]at *
  have hj:bq (((l0++[p1]).length:Int)-1)=(l0.length:Int):=by
   rw[asj,as0]at hL⊢;rw[aW (by omega) (by omega)];omega
  have hFl:(List.flatMap aO.cells l0).length=l0.length*12:=Nr aO.dL l0;refine cs 2 Z (AR.go Z Z Z Z Z Z (AO.Ng (i:=0) Z Z Z Z xg Z Z (cs 1 Z (AR.go Z Z Z Z Z Z (AO.Bc (i:=0) (sz:=12) (j:=bq (((l0++[p1]).length:Int)-1)) Z Z Z Z xg (by rw[hj];omega) (by rw[hj];simp) ?_)))));refine cs 1 Z (AR.go Z Z Z Z Z Z (AO.Vw (i:=0) (p:=.bool p1.QE) Z Z Z aor ?_ ?_ ?_))
  ·rw[hj,aq0,as2,asj,hFl,as6,List.flatMap_nil,as8,aO.dL];omega
  ·rw[hj,aq0,as2,List.drop_append,as5 (by omega),hFl,asA,as6,aO.aT];rfl
  refine cs 1 Z (AR.nil [16,0,1] Z ?_);rw[show xS (l0++[p1])=p1.QE from by simp[xS]];exact⟨Z,Z,Z,Z⟩
 ·refine AR.is 8 h1 Z (cs 8 Z (AR.nil [16,0,1] Z ?_));exact⟨Z,Z,Z,Z⟩
 refine AR.nil [0,1,16] Z (AW.cond Z (fun h2=>?_) (fun h2=>?_))
 ·obtain⟨FP,rfl⟩:=Ab (kX h2 hf);refine AW.sr (cs 2 Z (AR.step Z Z Z (AO.fu (List.map f_ ([c1]:List UInt8)) Z EL Z Z Z Z (AR.step Z Z Z (AO.t_ Z MC Q8 mq Z Z ?_)))));refine AR.step rfl rfl rfl (AO.build rfl QO Wz rfl (AR.step rfl rfl rfl (AO.fu (List.map aO.cells [(aO.mk [c1] false (aj.mk 0 ([]:Str) (ah.mk 0 false 0 ([]:Str) [] []) [] []))]) rfl Pt rfl rfl rfl (by first|rfl|simp only[List.map,aO.aT]) ?_)))
  refine AR.step Z Z Z (AO.TB (i:=0) (l2:=List.map aO.cells [(aO.mk [c1] false (aj.mk 0 ([]:Str) (ah.mk 0 false 0 ([]:Str) [] []) [] []))]) Z Z Z Z Z Z Z Pt xg (by intro y hy;cases asa.1 hy;exact aO.dL _) (by intro y hy;cases asa.1 hy;exact aO.cells_one _) (by simp only[arq,List.map_nil,as0]at FP⊢;unfold rM at FP;unfold maxLen;omega) (by simp only[arq,List.map_nil,as0]at FP⊢;unfold rM at FP;omega) (fun v2 s2 hs2=>?_));cases hs2;refine cs 1 Z (AR.nil [4] Z (AW.ret ?_));have hv:=h v2;rw[as2,asj]at hv;exact⟨rfl,_,⟨_,_,rfl,rfl,rfl⟩,_,List.Sublist.refl _,show Q (.ret (.val v2)) _ by simpa using hv⟩
 ·replace hf:=kE h2 hf;refine B1 hf fun t1 h3 hf=>?_;rcases List.eq_nil_or_concat l1 with rfl|⟨l0,p1,rfl⟩
  ·simp at h2
  rw[List.concat_eq_append]at *
  have hj:bq (((l0++[p1]).length:Int)-1)=(l0.length:Int):=by
   rw[asj,as0]at hL⊢;rw[aW (by omega) (by omega)];omega
  have hFl:(List.flatMap aO.cells l0).length=l0.length*12:=Nr aO.dL l0;rw[show zh (l0++[p1])=p1.text from by simp[zh]]at h3;rw[show EN (l0++[p1]) t1=l0++[aO.mk t1 p1.QE p1.expr]from by simp[EN]]at hf;cases hf;refine AW.skip (AW.seq (AW.draw 15 mixed (by kernel_rfl) Z ?_));refine Ev.cs iy 2 Z (Ev.cons Z Z Z (AO.Ng (i:=0) Z Z Z Z xg Z Z zg) (Ev.cs iy 3 Z (Ev.cons Z Z Z (AO.Ng (i:=0) Z Z Z Z xg Z Z zg) ?_)));refine Ev.cs iy 1 Z (Ev.cons Z Z Z (AO.Bc (i:=0) (sz:=12) (j:=bq (((l0++[p1]).length:Int)-1)) Z Z Z Z xg (by rw[hj];omega) (by rw[hj];simp) zg) ?_);refine Ev.cs iy 1 Z (Ev.cons Z Z Z (AO.Vw (i:=0) (p:=.str p1.text) Z Z Z ajh ?_ ?_ zg) ?_)
  ·rw[hj,aq0,as2,asj,hFl,as6,List.flatMap_nil,as8,aO.dL];omega
  ·rw[hj,aq0,as2,List.drop_append,as5 (by omega),hFl,asA,as6,aO.aT];rfl
  refine Ev.cs iy 1 Z (Ev.cons Z Z Z (AO.fu (List.map f_ ([c1]:List UInt8)) Z EL Z Z Z Z zg) (Ev.cons Z Z Z (AO.t_ Z MC Q8 mq Z Z zg) (Ev.cons Z Z Z (AO.Md h3 Z Z Z zg) ?_)));refine Ev.nil ?_;show AR _ _ _ _ _ _ _ _;refine AR.step Z Z Z (AO.Bc (i:=0) (sz:=12) (j:=bq (((l0++[p1]).length:Int)-1)) Z Z Z Z xg (by rw[hj];omega) (by rw[hj];simp) ?_);refine cs 1 Z (AR.bW Z Z (AO.Ri (i:=0) (new:=[.str t1]) (cs':=List.flatMap aO.cells (l0++[aO.mk t1 p1.QE p1.expr])) Z Z Z ajh Z Z Z (by simp) ?_ ?_ Z ?_))
  ·rw[hj,aq0,as2,asj,hFl,as6,List.flatMap_nil,as8,aO.dL,as0];omega
  ·unfold putCells;rw[hj,aq0,as2,as2,Nat.add_zero,List.take_append_of_le_length (by omega),List.take_of_length_le (by omega),List.drop_append,as5 (by rw[hFl];omega),hFl,asA];simp[aO.aT]
  refine AR.nil [0] Z (AW.sr (cs 2 Z (AR.nil [4] Z ?_)));refine AW.ret ?_;have hv:=h v;rw[asj]at hv;rw[asj];exact⟨rfl,_,⟨_,_,rfl,rfl,rfl⟩,_,List.Sublist.refl _,hv⟩
instance (s1 :Str) (n_ fF):LE (qE s1 n_ fF) (fun j p=>qE s1 j p) n_ fF [] [] [] [0] (fun v w p=>[(1,iP p)]) (fun v w p s=>s):=⟨Z⟩
instance akA(s1:Str)(bV:Int):CT Tryz.prog (Ho s1 bV) (fun r=>.ret (iP r)) 66 [.str s1,iP bV]:=by
  unfold Ho;exact Z1 ⟨27,[],[]⟩ Z Tryz.func66 Z Z Z Z
instance (s1 :Str) (n_ fF mM):LE (jA s1 n_ fF mM) (fun j p=>jA s1 j p.1 p.2) n_ (fF,mM) [] [] [] [0] (fun v w p=>[(1,iP p.1),(5,iP p.2)]) (fun v w p s=>s):=⟨Z⟩
instance UH(s1:Str)(bV:Int):CT Tryz.prog (EO s1 bV) (fun r=>.ret (iP r)) 33 [.str s1,iP bV]:=by
  unfold EO;exact Z1 ⟨31,[],[]⟩ Z Tryz.func33 Z Z Z Z
instance (bn :Str) (n_ fF mM):LE (oZ bn n_ fF mM) (fun j p=>oZ bn j p.1 p.2) n_ (fF,mM) [] [] [] [0] (fun v w p=>[(1,iP p.1),(5,.bool p.2)]) (fun v w p s=>s):=⟨Z⟩
instance aiH(bn:Str)(bV:Int):CT Tryz.prog (qd bn bV) (fun r=>.ret (iP r)) 103 [.str bn,iP bV]:=by
  unfold qd;exact Z1 ⟨47,[],[]⟩ Z Tryz.func103 Z Z Z Z
instance alY(c1:UInt8):CT Tryz.prog (pU c1) (fun r=>.ret (.bool r)) 162 [.int .u8 (c1.toNat:Int)]:=by
  unfold pU;exact Z1 ⟨9,[],[]⟩ Z Tryz.func162 Z Z Z Z
instance (bn :Str) (bV:Int) (n_ fF):LE (tX bn bV n_ fF) (fun j p=>tX bn bV j p) n_ fF [] [] [] [0,1] (fun v w p=>[(5,iP p)]) (fun v w p s=>s):=⟨Z⟩
instance akL(bn:Str)(bV:Int):CT Tryz.prog (Eb bn bV) (fun r=>.ret (iP r)) 247 [.str bn,iP bV]:=by
  unfold Eb;exact Z1 ⟨23,[],[]⟩ Z Tryz.func247 Z Z Z Z
instance akK(c1:UInt8):CT Tryz.prog (Au c1) (fun r=>.ret (.bool r)) 161 [.int .u8 (c1.toNat:Int)]:=by
  unfold Au;exact Z1 ⟨21,[],[]⟩ Z Tryz.func161 Z Z Z Z
instance (bn :Str) (bV:Int) (n_ fF):LE (yG bn bV n_ fF) (fun j p=>yG bn bV j p) n_ fF [] [] [] [0,1] (fun v w p=>[(5,iP p)]) (fun v w p s=>s):=⟨Z⟩
instance anC(bn:Str)(bV:Int):CT Tryz.prog (Gh bn bV) (fun r=>.ret (iP r)) 176 [.str bn,iP bV]:=by
  unfold Gh;exact Z1 ⟨31,[],[]⟩ Z Tryz.func176 Z Z Z Z
instance (s1 :Str) (n_ fF mM):LE (uQ s1 n_ fF mM) (fun j p=>uQ s1 j p.1 p.2) n_ (fF,mM) [] [] [] [0] (fun v w p=>[(4,iP p.1),(5,iP p.2)]) (fun v w p s=>s):=⟨Z⟩
instance an9(s1:Str):CT Tryz.prog (xD s1) (fun r=>.ret (.tuple [iP r.1,.bool r.2])) 248 [.str s1]:=by
  unfold xD;exact Z1 ⟨45,[],[]⟩ Z Tryz.func248 Z Z Z Z
instance akJ(bn:Str)(bV:Int):CT Tryz.prog (Ea bn bV) (fun r=>.ret (.tuple [.agg (oO r.1),iP r.2.1,iP r.2.2])) 174 [.str bn,iP bV]:=by
  unfold Ea;exact Z1 ⟨50,[],[]⟩ Z Tryz.func174 Z Z Z Z
instance an8(c1:UInt8):CT Tryz.prog (Kw c1) (fun r=>.ret (iP r)) 352 [.int .u8 (c1.toNat:Int)]:=by
  unfold Kw;exact Z1 ⟨26,[],[]⟩ Z Tryz.func352 Z Z Z Z
instance (bn :Str) (bV:Int) (n_ fF mM):LE (lG bn bV n_ fF mM) (fun j p=>lG bn bV j p.1 p.2) n_ (fF,mM) [] [] [] [0,1] (fun v w p=>[(7,iP p.1),(8,iP p.2)]) (fun v w p s=>s):=⟨Z⟩
instance aiI(bn:Str)(bV:Int):CT Tryz.prog (BA bn bV) (fun r=>.ret (.tuple [.int .u8 (r.1.toNat:Int),iP r.2.1,iP r.2.2])) 316 [.str bn,iP bV]:=by
  unfold BA;exact Z1 ⟨35,[],[]⟩ Z Tryz.func316 Z Z Z Z
instance ae1(bn:Str)(bV:Int):CT Tryz.prog (oI bn bV) (fun r=>.ret (.tuple [.int .u8 (r.1.toNat:Int),iP r.2.1,iP r.2.2])) 249 [.str bn,iP bV]:=by
  unfold oI;exact Z1 ⟨46,[],[]⟩ Z Tryz.func249 Z Z Z Z
instance (bn :Str) (bV:Int) (n_ fF mM):LE (yH bn bV n_ fF mM) (fun j p=>yH bn bV j p.1 p.2) n_ (fF,mM) [7] [] [(7,1,5)] [0,1,4] (fun v w p=>[(7,.own v (List.map f_ p.1)),(8,iP p.2)]) (fun v w p s=>putRow 0 v ((List.map f_ p.1).length) (s)):=⟨Z⟩
instance anD(bn:Str)(bV:Int):CT Tryz.prog (Jq bn bV) (fun r=>.ret (.tuple [.agg (oO r.1),iP r.2.1,iP r.2.2])) 175 [.str bn,iP bV]:=by
  unfold Jq;exact Z1 ⟨52,[],[]⟩ Z Tryz.func175 Z Z Z Z
instance (bn :Str) (bV:Int) (n_ fF):LE (gy bn bV n_ fF) (fun j p=>gy bn bV j p) n_ fF [] [] [] [0,1] (fun v w p=>[(5,iP p)]) (fun v w p s=>s):=⟨Z⟩
instance (bn :Str) (bV:Int) (n_ fF):LE (gM bn bV n_ fF) (fun j p=>gM bn bV j p) n_ fF [] [] [] [0,1] (fun v w p=>[(6,iP p)]) (fun v w p s=>s):=⟨Z⟩
instance ahN(bn:Str)(bV:Int):CT Tryz.prog (zn bn bV) (fun r=>.ret (iP r)) 177 [.str bn,iP bV]:=by
  unfold zn;exact Z1 ⟨38,[],[]⟩ Z Tryz.func177 Z Z Z Z
instance alX(bn:Str)(bV:Int):CT Tryz.prog (Gi bn bV) (fun r=>.ret (.tuple [.agg (oO r.1),iP r.2.1,iP r.2.2])) 104 [.str bn,iP bV]:=by
  unfold Gi;exact Z1 ⟨59,[],[]⟩ Z Tryz.func104 Z Z Z Z
instance akI(iG:Int)(t1:ay):CT Tryz.prog (sD iG t1) (fun r=>.ret (iP r)) 105 [iP iG,.agg (oO t1)]:=by
  unfold sD;exact Z1 ⟨40,[],[]⟩ Z Tryz.func105 Z Z Z Z
instance (bn :Str) (n_ fF mM X6):LE (lq bn n_ fF mM X6) (fun j p=>lq bn j p.1 p.2.1 p.2.2) n_ (fF,mM,X6) [5] [] [(5,3,116)] [0] (fun v w p=>[(5,.own v (List.map ay.cells p.1)),(6,iP p.2.1),(7,iP p.2.2)]) (fun v w p s=>putRow 0 v ((List.map ay.cells p.1).length) (s)):=⟨Z⟩
instance akM(bn:Str):CT Tryz.prog (uP bn) (fun r=>.ret (.tuple [.list (List.map ay.cells r.1),iP r.2.1,iP r.2.2])) 67 [.str bn]:=by
  unfold uP;exact Z1 ⟨77,[],[]⟩ Z Tryz.func67 Z Z Z Z
instance apS(iX:List ay)(bV:Int)(s1:Str):CT Tryz.prog (qV iX bV s1) (fun r=>.ret (.bool r)) 179 [.list (List.map ay.cells iX),iP bV,.str s1]:=by
  unfold qV;exact Z1 ⟨28,[],[]⟩ Z Tryz.func179 Z Z Z Z
instance aiG(v1:ah):CT Tryz.prog (uM v1) (fun r=>.ret (.agg (aR r))) 385 [.agg (aF v1)]:=by
  unfold uM;exact Z1 ⟨5,[],[]⟩ Z Tryz.func385 Z Z Z Z
instance (s1 :Str) (n_ fF):LE (BF s1 n_ fF) (fun j p=>BF s1 j p) n_ fF [] [] [] [0] (fun v w p=>[(3,iP p)]) (fun v w p s=>s):=⟨Z⟩
instance anE(s1:Str):CT Tryz.prog (Gj s1) (fun r=>.ret (.bool r)) 92 [.str s1]:=by
  unfold Gj;exact Z1 ⟨34,[],[]⟩ Z Tryz.func92 Z Z Z Z
instance alV(s1:Str):CT Tryz.prog (qW s1) (fun r=>.ret (.bool r)) 55 [.str s1]:=by
  unfold qW;exact Z1 ⟨17,[],[]⟩ Z Tryz.func55 Z Z Z Z
instance an7(t1:ay):CT Tryz.prog (MW t1) (fun r=>.ret (.bool r)) 432 [.agg (oO t1)]:=by
  unfold MW;exact Z1 ⟨22,[],[]⟩ Z Tryz.func432 Z Z Z Z
instance aiF(iX:List ay)(bV:Int):CT Tryz.prog (lV iX bV) (fun r=>.ret (iP r)) 180 [.list (List.map ay.cells iX),iP bV]:=by
  unfold lV;exact Z1 ⟨9,[],[]⟩ Z Tryz.func180 Z Z Z Z
instance ahM(op1:Str):CT Tryz.prog (sw op1) (fun r=>.ret (iP r)) 122 [.str op1]:=by
  unfold sw;exact Z1 ⟨22,[],[]⟩ Z Tryz.func122 Z Z Z Z
section
variable (bB : List ay → Int → Option (aj × Int × Int)) [acy : ∀(eT : List ay) (eX : Int), CT Tryz.prog (bB eT eX) (fun r => .ret (.tuple [.agg (aR r.1), iP r.2.1, iP r.2.2])) 106 [.list (List.map ay.cells eT), iP eX]] (cO : List ay → Int → Int → Option (aj × Int × Int)) [acw : ∀(eT : List ay) (eX : Int) (kP : Int), CT Tryz.prog (cO eT eX kP) (fun r => .ret (.tuple [.agg (aR r.1), iP r.2.1, iP r.2.2])) 178 [.list (List.map ay.cells eT), iP eX, iP kP]] (gG : List ay → Int → Option (aj × Int × Int)) [aip : ∀(eT : List ay) (eX : Int), CT Tryz.prog (gG eT eX) (fun r => .ret (.tuple [.agg (aR r.1), iP r.2.1, iP r.2.2])) 250 [.list (List.map ay.cells eT), iP eX]] (gW : List ay → Int → Option (aj × Int × Int)) [air : ∀(eT : List ay) (eX : Int), CT Tryz.prog (gW eT eX) (fun r => .ret (.tuple [.agg (aR r.1), iP r.2.1, iP r.2.2])) 317 [.list (List.map ay.cells eT), iP eX]] (iI : List ay → Int → Option (aj × Int × Int)) [aj4 : ∀(eT : List ay) (eX : Int), CT Tryz.prog (iI eT eX) (fun r => .ret (.tuple [.agg (aR r.1), iP r.2.1, iP r.2.2])) 353 [.list (List.map ay.cells eT), iP eX]] (iH : List ay → Int → Option (aj × Int × Int)) [aj2 : ∀(eT : List ay) (eX : Int), CT Tryz.prog (iH eT eX) (fun r => .ret (.tuple [.agg (aR r.1), iP r.2.1, iP r.2.2])) 386 [.list (List.map ay.cells eT), iP eX]] (gX : List ay → Int → Str → Bool → Option (List aj × List Str × Int × Int)) [aj3 : ∀(eT : List ay) (eX : Int) (mE : Str) (mD : Bool), CT Tryz.prog (gX eT eX mE mD) (fun r => .ret (.tuple [.list (aj.bP r.1), sP r.2.1, iP r.2.2.1, iP r.2.2.2])) 414 [.list (List.map ay.cells eT), iP eX, .str mE, .bool mD]] (fA : List ay → Int → Option (aj × Int × Int)) [ad5 : ∀(eT : List ay) (eX : Int), CT Tryz.prog (fA eT eX) (fun r => .ret (.tuple [.agg (aR r.1), iP r.2.1, iP r.2.2])) 387 [.list (List.map ay.cells eT), iP eX]]
instance (iX :List ay) (nA:Int) (n_ fF mM X6 z3_):LE (jM cO iX nA n_ fF mM X6 z3_) (fun j p=>jM cO iX nA j p.1 p.2.1 p.2.2.1 p.2.2.2) n_ (fF,mM,X6,z3_) [] [] [] [0,2,6,9] (fun v w p=>[(1,iP p.1),(10,iP p.2.1),(11,iP p.2.2.1)]) (fun v w p s=>xW 0 (aR p.2.2.2) (s)):=⟨Z⟩
instance (iX :List ay) (e1:Int) (n_ fF mM):LE (nY bB iX e1 n_ fF mM) (fun j p=>nY bB iX e1 j p.1 p.2) n_ (fF,mM) [] [] [] [0,4,7,8] (fun v w p=>[(1,iP p.1)]) (fun v w p s=>xW 0 (aR p.2) (s)):=⟨Z⟩
instance (iX :List ay) (rJ:Str) (vw:Bool) (n_ fF mM X6):LE (qc bB iX rJ vw n_ fF mM X6) (fun j p=>qc bB iX rJ vw j p.1 p.2.1 p.2.2) n_ (fF,mM,X6) [12,13] [] [(12,10,37),(13,1,9)] [0,2,3] (fun v w p=>[(1,iP p.1),(12,.own v (List.map aj.cells p.2.1)),(13,.own w (List.map jy p.2.2))]) (fun v w p s=>putRow 1 v ((List.map aj.cells p.2.1).length) (putRow 0 w ((List.map jy p.2.2).length) (s))):=⟨Z⟩
instance NG(iX:List ay)(bV:Int):CT Tryz.prog (xC bB cO gG gW iI iH gX fA iX bV) (fun r=>.ret (.tuple [.agg (aR r.1),iP r.2.1,iP r.2.2])) 106 [.list (List.map ay.cells iX),iP bV]:=by
  unfold xC;exact Z1 ⟨66,[],[]⟩ Z Tryz.func106 Z Z Z Z
instance ND(iX:List ay)(bV:Int)(nA:Int):CT Tryz.prog (sV bB cO gG gW iI iH gX fA iX bV nA) (fun r=>.ret (.tuple [.agg (aR r.1),iP r.2.1,iP r.2.2])) 178 [.list (List.map ay.cells iX),iP bV,iP nA]:=by
  unfold sV;exact Z1 ⟨92,[],[]⟩ Z Tryz.func178 Z Z Z Z
instance UJ(iX:List ay)(bV:Int):CT Tryz.prog (EP bB cO gG gW iI iH gX fA iX bV) (fun r=>.ret (.tuple [.agg (aR r.1),iP r.2.1,iP r.2.2])) 250 [.list (List.map ay.cells iX),iP bV]:=by
  unfold EP;exact Z1 ⟨44,[],[(4,8,10,12,0)]⟩ Z Tryz.func250 Z Z Z Z
instance UL(iX:List ay)(bV:Int):CT Tryz.prog (ES bB cO gG gW iI iH gX fA iX bV) (fun r=>.ret (.tuple [.agg (aR r.1),iP r.2.1,iP r.2.2])) 317 [.list (List.map ay.cells iX),iP bV]:=by
  unfold ES;exact Z1 ⟨103,[],[]⟩ Z Tryz.func317 Z Z Z Z
instance XL(iX:List ay)(bV:Int):CT Tryz.prog (Hr bB cO gG gW iI iH gX fA iX bV) (fun r=>.ret (.tuple [.agg (aR r.1),iP r.2.1,iP r.2.2])) 353 [.list (List.map ay.cells iX),iP bV]:=by
  unfold Hr;exact Z1 ⟨66,[],[]⟩ Z Tryz.func353 Z Z Z Z
instance XJ(iX:List ay)(bV:Int):CT Tryz.prog (D8 bB cO gG gW iI iH gX fA iX bV) (fun r=>.ret (.tuple [.agg (aR r.1),iP r.2.1,iP r.2.2])) 386 [.list (List.map ay.cells iX),iP bV]:=by
  unfold D8;exact Z1 ⟨61,[],[]⟩ Z Tryz.func386 Z Z Z Z
instance XK(iX:List ay)(bV:Int)(rJ:Str)(vw:Bool):CT Tryz.prog (D9 bB cO gG gW iI iH gX fA iX bV rJ vw) (fun r=>.ret (.tuple [.list (aj.bP r.1),sP r.2.1,iP r.2.2.1,iP r.2.2.2])) 414 [.list (List.map ay.cells iX),iP bV,.str rJ,.bool vw]:=by
  unfold D9;exact Z1 ⟨95,[],[]⟩ Z Tryz.func414 Z Z Z Z
instance O6(iX:List ay)(bV:Int):CT Tryz.prog (zk bB cO gG gW iI iH gX fA iX bV) (fun r=>.ret (.tuple [.agg (aR r.1),iP r.2.1,iP r.2.2])) 387 [.list (List.map ay.cells iX),iP bV]:=by
  unfold zk;exact Z1 ⟨85,[],[]⟩ Z Tryz.func387 Z Z Z Z
end
theorem kJ:∀k:Nat,(∀(eT:List ay) (eX:Int),CT Tryz.prog (dH k eT eX) (fun r=>.ret (.tuple [.agg (aR r.1),iP r.2.1,iP r.2.2])) 106 [.list (List.map ay.cells eT),iP eX])∧(∀(eT:List ay) (eX:Int) (kP:Int),CT Tryz.prog (dY k eT eX kP) (fun r=>.ret (.tuple [.agg (aR r.1),iP r.2.1,iP r.2.2])) 178 [.list (List.map ay.cells eT),iP eX,iP kP])∧(∀(eT:List ay) (eX:Int),CT Tryz.prog (jh k eT eX) (fun r=>.ret (.tuple [.agg (aR r.1),iP r.2.1,iP r.2.2])) 250 [.list (List.map ay.cells eT),iP eX])∧(∀(eT:List ay) (eX:Int),CT Tryz.prog (jX k eT eX) (fun r=>.ret (.tuple [.agg (aR r.1),iP r.2.1,iP r.2.2])) 317 [.list (List.map ay.cells eT),iP eX])∧(∀(eT:List ay) (eX:Int),CT Tryz.prog (lF k eT eX) (fun r=>.ret (.tuple [.agg (aR r.1),iP r.2.1,iP r.2.2])) 353 [.list (List.map ay.cells eT),iP eX])∧(∀(eT:List ay) (eX:Int),CT Tryz.prog (mF k eT eX) (fun r=>.ret (.tuple [.agg (aR r.1),iP r.2.1,iP r.2.2])) 386 [.list (List.map ay.cells eT),iP eX])∧(∀(eT:List ay) (eX:Int) (mE:Str) (mD:Bool),CT Tryz.prog (iK k eT eX mE mD) (fun r=>.ret (.tuple [.list (aj.bP r.1),sP r.2.1,iP r.2.2.1,iP r.2.2.2])) 414 [.list (List.map ay.cells eT),iP eX,.str mE,.bool mD])∧(∀(eT:List ay) (eX:Int),CT Tryz.prog (jD k eT eX) (fun r=>.ret (.tuple [.agg (aR r.1),iP r.2.1,iP r.2.2])) 387 [.list (List.map ay.cells eT),iP eX])
  | 0=>⟨fun _ _=>CT.none Z,fun _ _ _=>CT.none Z,fun _ _=>CT.none Z,fun _ _=>CT.none Z,fun _ _=>CT.none Z,fun _ _=>CT.none Z,fun _ _ _ _=>CT.none Z,fun _ _=>CT.none Z⟩
  | k+1=>by
    obtain⟨i0,i1,i2,i3,i4,i5,i6,i7⟩:=kJ k;exact⟨fun eT eX=>NG _ _ _ _ _ _ _ _ eT eX,fun eT eX kP=>ND _ _ _ _ _ _ _ _ eT eX kP,fun eT eX=>UJ _ _ _ _ _ _ _ _ eT eX,fun eT eX=>UL _ _ _ _ _ _ _ _ eT eX,fun eT eX=>XL _ _ _ _ _ _ _ _ eT eX,fun eT eX=>XJ _ _ _ _ _ _ _ _ eT eX,fun eT eX mE mD=>XK _ _ _ _ _ _ _ _ eT eX mE mD,fun eT eX=>O6 _ _ _ _ _ _ _ _ eT eX⟩
instance ae0(eT:List ay)(eX:Int):CT Tryz.prog (FJ eT eX) (fun r=>.ret (.tuple [.agg (aR r.1),iP r.2.1,iP r.2.2])) 106 [.list (List.map ay.cells eT),iP eX]:=(kJ BIG).1 eT eX
instance aeZ(eT:List ay)(eX:Int)(kP:Int):CT Tryz.prog (Un eT eX kP) (fun r=>.ret (.tuple [.agg (aR r.1),iP r.2.1,iP r.2.2])) 178 [.list (List.map ay.cells eT),iP eX,iP kP]:=(kJ BIG).2.1 eT eX kP
instance alO(eT:List ay)(eX:Int):CT Tryz.prog (adz eT eX) (fun r=>.ret (.tuple [.agg (aR r.1),iP r.2.1,iP r.2.2])) 250 [.list (List.map ay.cells eT),iP eX]:=(kJ BIG).2.2.1 eT eX
instance alS(eT:List ay)(eX:Int):CT Tryz.prog (adA eT eX) (fun r=>.ret (.tuple [.agg (aR r.1),iP r.2.1,iP r.2.2])) 317 [.list (List.map ay.cells eT),iP eX]:=(kJ BIG).2.2.2.1 eT eX
instance anA(eT:List ay)(eX:Int):CT Tryz.prog (af8 eT eX) (fun r=>.ret (.tuple [.agg (aR r.1),iP r.2.1,iP r.2.2])) 353 [.list (List.map ay.cells eT),iP eX]:=(kJ BIG).2.2.2.2.1 eT eX
instance anx(eT:List ay)(eX:Int):CT Tryz.prog (af6 eT eX) (fun r=>.ret (.tuple [.agg (aR r.1),iP r.2.1,iP r.2.2])) 386 [.list (List.map ay.cells eT),iP eX]:=(kJ BIG).2.2.2.2.2.1 eT eX
instance anz(eT:List ay)(eX:Int)(mE:Str)(mD:Bool):CT Tryz.prog (af7 eT eX mE mD) (fun r=>.ret (.tuple [.list (aj.bP r.1),sP r.2.1,iP r.2.2.1,iP r.2.2.2])) 414 [.list (List.map ay.cells eT),iP eX,.str mE,.bool mD]:=(kJ BIG).2.2.2.2.2.2.1 eT eX mE mD
instance ahL(eT:List ay)(eX:Int):CT Tryz.prog (WQ eT eX) (fun r=>.ret (.tuple [.agg (aR r.1),iP r.2.1,iP r.2.2])) 387 [.list (List.map ay.cells eT),iP eX]:=(kJ BIG).2.2.2.2.2.2.2 eT eX
section
variable (oz : aj → Option Int) [ais : ∀(gB : aj), CT Tryz.prog (oz gB) (fun r => .ret (iP r)) 14 [.agg (aR gB)]]
instance (e1 :aj) (n_ fF mM):LE (zm oz e1 n_ fF mM) (fun j p=>zm oz e1 j p.1 p.2) n_ (fF,mM) [] [] [] [1] (fun v w p=>[(3,iP p.1),(4,iP p.2)]) (fun v w p s=>s):=⟨Z⟩
instance UM(e1:aj):CT Tryz.prog (ET oz e1) (fun r=>.ret (iP r)) 14 [.agg (aR e1)]:=by
  unfold ET;exact Z1 ⟨21,[],[]⟩ Z Tryz.func14 Z Z Z Z
end
theorem PL:∀k:Nat,(∀(gB:aj),CT Tryz.prog (uO k gB) (fun r=>.ret (iP r)) 14 [.agg (aR gB)])
  | 0=>fun _=>CT.none Z
  | k+1=>by
    obtain (i0):=PL k;exact fun gB=>UM _ gB
instance alW(gB:aj):CT Tryz.prog (Kv gB) (fun r=>.ret (iP r)) 14 [.agg (aR gB)]:=(PL BIG) gB
instance alT(e1:aj):CT Tryz.prog (Gf e1) (fun r=>.ret (.bool r)) 261 [.agg (aR e1)]:=by
  unfold Gf;exact Z1 ⟨45,[],[]⟩ Z Tryz.func261 Z Z Z Z
instance alQ(e1:aj):CT Tryz.prog (Gd e1) (fun r=>.ret (.bool r)) 262 [.agg (aR e1)]:=by
  unfold Gd;exact Z1 ⟨31,[],[]⟩ Z Tryz.func262 Z Z Z Z
section
variable (j5 : ah → ah → Option Bool) [aj5 : ∀(tO : ah) (tN : ah), CT Tryz.prog (j5 tO tN) (fun r => .ret (.bool r)) 263 [.agg (aF tO), .agg (aF tN)]]
instance (a1 :ah) (b1:ah) (n_ fF):LE (BI j5 a1 b1 n_ fF) (fun j p=>BI j5 a1 b1 j p) n_ fF [] [] [] [2,3] (fun v w p=>[(5,iP p)]) (fun v w p s=>s):=⟨Z⟩
instance (a1 :ah) (b1:ah) (n_ fF):LE (BH j5 a1 b1 n_ fF) (fun j p=>BH j5 a1 b1 j p) n_ fF [] [] [] [2,3] (fun v w p=>[(6,iP p)]) (fun v w p s=>s):=⟨Z⟩
instance XM(a1:ah)(b1:ah):CT Tryz.prog (Hu j5 a1 b1) (fun r=>.ret (.bool r)) 263 [.agg (aF a1),.agg (aF b1)]:=by
  unfold Hu;exact Z1 ⟨88,[],[]⟩ Z Tryz.func263 Z Z Z Z
end
theorem R5:∀k:Nat,(∀(tO:ah) (tN:ah),CT Tryz.prog (Ht k tO tN) (fun r=>.ret (.bool r)) 263 [.agg (aF tO),.agg (aF tN)])
  | 0=>fun _ _=>CT.none Z
  | k+1=>by
    obtain (i0):=R5 k;exact fun tO tN=>XM _ tO tN
instance anH(tO:ah)(tN:ah):CT Tryz.prog (MX tO tN) (fun r=>.ret (.bool r)) 263 [.agg (aF tO),.agg (aF tN)]:=(R5 BIG) tO tN
instance (e1 :aj) (n_ fF):LE (tV e1 n_ fF) (fun j p=>tV e1 j p) n_ fF [] [] [] [1] (fun v w p=>[(3,iP p)]) (fun v w p s=>s):=⟨Z⟩
instance akH(e1:aj):CT Tryz.prog (D_ e1) (fun r=>.ret (.bool r)) 193 [.agg (aR e1)]:=by
  unfold D_;exact Z1 ⟨61,[],[]⟩ Z Tryz.func193 Z Z Z Z
instance alZ(v1:ah):CT Tryz.prog (Gl v1) (fun r=>.ret (.bool r)) 163 [.agg (aF v1)]:=by
  unfold Gl;exact Z1 ⟨53,[],[]⟩ Z Tryz.func163 Z Z Z Z
instance aeA(s1:Str):CT Tryz.prog (Ky s1) (fun r=>.ret (.bool r)) 239 [.str s1]:=by
  unfold Ky;exact Z1 ⟨11,[],[]⟩ Z Tryz.func239 Z Z Z Z
instance al6(Lg:Bool)(Nl:Bool):CT Tryz.prog (vS Lg Nl) (fun r=>.ret (iP r)) 139 [.bool Lg,.bool Nl]:=by
  unfold vS;exact Z1 ⟨7,[],[]⟩ Z Tryz.func139 Z Z Z Z
instance al7(c1:UInt8):CT Tryz.prog (Dr c1) (fun r=>.ret (.bool r)) 140 [.int .u8 (c1.toNat:Int)]:=by
  unfold Dr;exact Z1 ⟨9,[],[]⟩ Z Tryz.func140 Z Z Z Z
instance (s1 :Str) (n_ fF):LE (Ed s1 n_ fF) (fun j p=>Ed s1 j p) n_ fF [] [] [] [0] (fun v w p=>[(1,iP p)]) (fun v w p s=>s):=⟨Z⟩
instance aoa(s1:Str)(bV:Int):CT Tryz.prog (MZ s1 bV) (fun r=>.ret (iP r)) 141 [.str s1,iP bV]:=by
  unfold MZ;exact Z1 ⟨18,[],[]⟩ Z Tryz.func141 Z Z Z Z
instance (s1 :Str) (n_ fF):LE (vR s1 n_ fF) (fun j p=>vR s1 j p) n_ fF [] [] [] [0] (fun v w p=>[(3,iP p)]) (fun v w p s=>s):=⟨Z⟩
instance al5(s1:Str):CT Tryz.prog (Dq s1) (fun r=>.ret (.str r)) 221 [.str s1]:=by
  unfold Dq;exact Z1 ⟨19,[],[]⟩ Z Tryz.func221 Z Z Z Z
instance anI(a1:Str)(b1:Str):CT Tryz.prog (Jt a1 b1) (fun r=>.ret (iP r)) 142 [.str a1,.str b1]:=by
  unfold Jt;exact Z1 ⟨48,[],[]⟩ Z Tryz.func142 Z Z Z Z
instance (a1 :Str) (b1:Str) (n_ fF mM):LE (m_ a1 b1 n_ fF mM) (fun j p=>m_ a1 b1 j p.1 p.2) n_ (fF,mM) [] [] [] [0,1] (fun v w p=>[(5,iP p.1),(6,iP p.2)]) (fun v w p s=>s):=⟨Z⟩
instance aiM(a1:Str)(b1:Str):CT Tryz.prog (oJ a1 b1) (fun r=>.ret (iP r)) 84 [.str a1,.str b1]:=by
  unfold oJ;exact Z1 ⟨78,[],[]⟩ Z Tryz.func84 Z Z Z Z
instance (v1 :ah) (n_ fF):LE (oN v1 n_ fF) (fun j p=>oN v1 j p) n_ fF [] [] [] [1] (fun v w p=>[(3,iP p)]) (fun v w p s=>s):=⟨Z⟩
instance ae3(v1:ah):CT Tryz.prog (wR v1) (fun r=>.ret (.bool r)) 164 [.agg (aF v1)]:=by
  unfold wR;exact Z1 ⟨44,[],[]⟩ Z Tryz.func164 Z Z Z Z
section
variable (oC : ah → Int → Option Int) [aiu : ∀(mo : ah) (eP : Int), CT Tryz.prog (oC mo eP) (fun r => .ret (iP r)) 93 [.agg (aF mo), iP eP]]
instance (v1 :ah) (bH:Int) (n_ fF):LE (zo oC v1 bH n_ fF) (fun j p=>zo oC v1 bH j p) n_ fF [] [] [] [1,2] (fun v w p=>[(5,iP p)]) (fun v w p s=>s):=⟨Z⟩
instance UO(v1:ah)(bH:Int):CT Tryz.prog (EX oC v1 bH) (fun r=>.ret (iP r)) 93 [.agg (aF v1),iP bH]:=by
  unfold EX;exact Z1 ⟨85,[],[]⟩ Z Tryz.func93 Z Z Z Z
end
theorem PN:∀k:Nat,(∀(mo:ah) (eP:Int),CT Tryz.prog (uS k mo eP) (fun r=>.ret (iP r)) 93 [.agg (aF mo),iP eP])
  | 0=>fun _ _=>CT.none Z
  | k+1=>by
    obtain (i0):=PN k;exact fun mo eP=>UO _ mo eP
instance al2(mo:ah)(eP:Int):CT Tryz.prog (Oi mo eP) (fun r=>.ret (iP r)) 93 [.agg (aF mo),iP eP]:=(PN BIG) mo eP
instance ZM(v1:ah):CT Tryz.prog (yI v1) (fun r=>.ret (iP r)) 56 [.agg (aF v1)]:=by
  unfold yI;exact Z1 ⟨5,[],[]⟩ Z Tryz.func56 Z Z Z Z
instance (um :List Str) (n_ fF):LE (su um n_ fF) (fun j p=>su um j p) n_ fF [] [] [] [0] (fun v w p=>[(3,iP p)]) (fun v w p s=>s):=⟨Z⟩
instance (um :List Str) (i1:Int) (tH:Int→Option Bool) (n_ fF):LE (vO um i1 tH n_ fF) (fun j p=>vO um i1 tH j p) n_ fF [] [] [] [0,3] (fun v w p=>[(4,iP p)]) (fun v w p s=>s):=⟨Z⟩
instance alP(um:List Str):CT Tryz.prog (Gc um) (fun r=>.ret (.bool r)) 194 [sP um]:=by
  unfold Gc;exact Z1 ⟨25,[],[]⟩ Z Tryz.func194 Z Z Z Z
section
variable (ow : aj → Int → Option Int) [aiq : ∀(gB : aj) (eP : Int), CT Tryz.prog (ow gB eP) (fun r => .ret (iP r)) 118 [.agg (aR gB), iP eP]]
instance (e1 :aj) (bH:Int) (n_ fF):LE (zl ow e1 bH n_ fF) (fun j p=>zl ow e1 bH j p) n_ fF [] [] [] [1,2] (fun v w p=>[(6,iP p)]) (fun v w p s=>s):=⟨Z⟩
instance UK(e1:aj)(bH:Int):CT Tryz.prog (ER ow e1 bH) (fun r=>.ret (iP r)) 118 [.agg (aR e1),iP bH]:=by
  unfold ER;exact Z1 ⟨49,[],[]⟩ Z Tryz.func118 Z Z Z Z
end
theorem PK:∀k:Nat,(∀(gB:aj) (eP:Int),CT Tryz.prog (uN k gB eP) (fun r=>.ret (iP r)) 118 [.agg (aR gB),iP eP])
  | 0=>fun _ _=>CT.none Z
  | k+1=>by
    obtain (i0):=PK k;exact fun gB eP=>UK _ gB eP
instance alR(gB:aj)(eP:Int):CT Tryz.prog (Og gB eP) (fun r=>.ret (iP r)) 118 [.agg (aR gB),iP eP]:=(PK BIG) gB eP
instance alU(e1:aj):CT Tryz.prog (Dp e1) (fun r=>.ret (iP r)) 73 [.agg (aR e1)]:=by
  unfold Dp;exact Z1 ⟨8,[],[]⟩ Z Tryz.func73 Z Z Z Z
instance anB(iX:List ay):CT Tryz.prog (Jp iX) (fun r=>.ret (.tuple [.agg (aR r.1),iP r.2.1,iP r.2.2])) 68 [.list (List.map ay.cells iX)]:=by
  unfold Jp;exact Z1 ⟨28,[],[]⟩ Z Tryz.func68 Z Z Z Z
instance ZL(bn:Str):CT Tryz.prog (Gg bn) (fun r=>.ret (.tuple [.agg (aR r.1),iP r.2.1,iP r.2.2])) 34 [.str bn]:=by
  unfold Gg;exact Z1 ⟨53,[],[(10,1,7,9,0)]⟩ Z Tryz.func34 Z Z Z Z
instance alK(s1:Str):CT Tryz.prog (F8 s1) (fun r=>.ret (.tuple [.list (List.map aO.cells r.1),iP r.2.1,iP r.2.2])) 12 [.str s1]:=⟨zP rfl,fun {r} hf {τ Q} h=>by
 obtain⟨r0,r1,r2⟩:=r;unfold F8 at hf;refine AC.none (AC.jZ 91 [.tmp 2,.tmp 3,.tmp 4] [0] Tryz.func12 Z Z Z Z Z (AW.sr (AR.step Z Z Z (AO.jV Z Z ?_))));refine cs 2 Z (AR.nil [0] Z (AW.seq (AW.sr ?_)));refine cs 1 Z (AR.step Z Z Z (AO.qM Z Z Z Z mq Z (cs 1 Z (AR.nil [0,13] Z ?_))));refine AW.cond Z (fun h1=>?_) (fun h1=>?_)
 ·replace hf:=kX h1 hf;refine AW.sr (AR.step Z Z Z (AO.jV Z Z (cs 2 Z (AR.nil [2,3,4] Z ?_))));refine AW.ret ?_;cases hf;exact⟨rfl,_,⟨_,_,rfl,rfl,_,_,rfl,rfl,_,_,rfl,rfl,rfl⟩,[],asY _,h⟩
 replace hf:=kE h1 hf;refine AW.skip (AW.sr (AR.step Z Z Z (AO.KA Z Z (AR.nil [0,5] Z ?_))));refine AW.sr (cs 1 Z (AR.nil [0,5,6] Z (AW.seq ?_)));refine AW.block (AW.akl 12 39 (AW.settle [0,5,6] Z (AW.aaW (fun l1 v1 bV=>[(0,.str s1),(5,.val v1),(6,iP bV)]) (fun l1 v1 bV=>[.buf v1 l1.length 12 39 (List.flatMap aO.cells l1)]) (fun dW l1 v1 bV=>nW s1 dW l1 bV=some (r0,r1,r2)) BIG [] (.slice none 0 0) 0 Z Z hf (fun _ _ _ hz=>kI hz) ?_)));intro dW l1 v1 bV hf;rw[nW]at hf;refine AW.seq (AW.sr (cs 2 Z (AR.step Z Z Z (AO.qM Z Z Z Z mq Z ?_))));refine cs 1 Z (AR.nil [0,5,6,17] Z (AW.cond Z (fun h2=>?_) (fun h2=>?_)))
 ·replace hf:=kX h2 hf;refine AW.skip (AW.block (AW.seq (AW.sr ?_)));refine cs 2 Z ?_;refine B1 hf fun x1 h3 hf=>AR.step Z Z Z (AO.ou h3 Z mq Z Z (cs 2 Z (AR.or 6 22 28 [0,5,6] (x:=(decide ((s1.length:Int)≤(bq (bV+1))))) Z Z (fun h4=>?_) (fun h4=>?_) ?_)))
  ·refine AR.is 22 h4 Z (cs 3 Z (AR.go Z Z Z Z Z Z (AO.qM Z Z Z Z mq Z (cs 2 Z ?_))));refine AR.nil [28,0,5,6] Z ?_;exact⟨Z,Z,Z,Z⟩
  ·refine AR.is 22 h4 Z (cs 6 Z (AR.nil [28,0,5,6] Z ?_));exact⟨Z,Z,Z,Z⟩
  refine cs 1 Z ?_;refine B1 hf fun b1 h6 hf=>AR.tu 13 29 42 false [0,5,6] b1 Z Z (fun h5=>?_) (fun h5=>?_) ?_
  ·replace h6:=kE h5 h6;refine AR.is 29 h5 Z (cs 3 Z ?_);refine B1 h6 fun x2 h7 h6=>AR.go Z Z Z Z Z Z (AO.ou h7 Z mq Z Z (cs 2 Z ?_));refine BR h6 fun b2 h9 h6=>?_;refine AR.tu 6 35 41 true [0,5,6,29] b2 Z Z (fun h8=>?_) (fun h8=>?_) ?_
   ·replace h9:=kX h8 h9;refine AR.is 35 h8 Z (cs 3 Z ?_);refine B1 h9 fun x3 h10 h9=>AR.go Z Z Z Z Z Z (AO.ou h10 Z mq Z Z (cs 1 Z ?_));cases h9;refine cs 1 Z (AR.nil [41,0,5,6,29] Z ?_);exact⟨Z,Z,Z,Z⟩
   ·replace h9:=kE h8 h9;refine AR.is 35 h8 Z ?_;cases h9;refine cs 6 Z (AR.nil [41,0,5,6,29] Z ?_);exact⟨Z,Z,Z,Z⟩
   cases h6;refine cs 1 Z (AR.nil [42,0,5,6] Z ?_);exact⟨Z,Z,Z,Z⟩
  ·replace h6:=kX h5 h6;refine AR.is 29 h5 Z ?_;cases h6;refine cs 13 Z (AR.nil [42,0,5,6] Z ?_);exact⟨Z,Z,Z,Z⟩
  refine AR.nil [0,5,6,42] Z (AW.cond Z (fun h11=>?_) (fun h11=>?_))
  ·replace hf:=kX h11 hf;refine B1 hf fun c1 hw1 hf=>B1 hf fun l2 hw2 hf=>AW.sr (cs 3 Z (AR.step Z Z Z (AO.ou hw1 Z mq Z Z (AR.step Z Z Z (AO.call Z _ Z Z ak_ (Tg _ _ hw2 (fun v2=>?_)))))));refine cs 1 Z (AR.nil [0,5,6] Z (AW.sr (cs 3 Z ?_)));refine AR.nil [0,5,6] Z (AW.exit ?_);exact⟨l2,v2,(bq (bV+1)),Z,Z,Z,hf⟩
  replace hf:=kE h11 hf;refine AW.skip (AW.seq (AW.sr (cs 3 Z ?_)));refine B1 hf fun x4 h12 hf=>AR.step Z Z Z (AO.ou h12 Z mq Z Z (cs 1 Z (AR.nil [0,5,6,54] Z (AW.cond Z (fun KY=>?_) (fun KY=>?_)))))
  ·replace hf:=kX KY hf;refine B1 hf fun l2 hw2 hf=>AW.sr (cs 1 Z (AR.step Z Z Z (AO.call Z _ Z Z ak_ (Tg _ _ hw2 (fun v2=>(cs 1 Z ?_))))));refine AR.nil [0,5,6] Z (AW.sr (cs 3 Z (AR.nil [0,5,6] Z ?_)));refine AW.exit ?_;exact⟨l2,v2,(bq (bV+2)),Z,Z,Z,hf⟩
  replace hf:=kE KY hf;refine AW.skip (AW.sr (cs 3 Z ?_));refine B1 hf fun tK I6 hf=>AR.step Z Z Z (AO.call Z _ Z Z aoP ((UH _ _).h I6 (cs 1 Z (AR.nil [0,5,6,7] Z (AW.seq ?_)))));refine AW.sr (cs 2 Z (AR.nil [0,5,6,7,64] Z (AW.cond Z (fun LX=>?_) (fun LX=>?_))))
  ·replace hf:=kX LX hf;refine AW.sr (cs 1 Z (AR.step Z Z Z (AO.jV Z Z (cs 2 Z ?_))));refine AR.nil [2,3,4] Z (AW.ret ?_);cases hf;exact⟨rfl,_,⟨_,_,rfl,rfl,_,_,rfl,rfl,_,_,rfl,rfl,rfl⟩,[],asY _,h⟩
  replace hf:=kE LX hf;refine AW.skip (AW.sr (cs 4 Z ?_));refine B1 hf fun x5 h16 hf=>AR.step Z Z Z (AO.WC h16 Z mq Z ⟨_,Z⟩ ⟨_,Z⟩ ?_);obtain⟨x6,GZ,e1,h17,hf⟩:=uf hf;refine AR.step Z Z Z (AO.call Z _ Z Z aoO ((ZL _).h h17 (cs 4 Z (AR.step Z Z Z (AO.bM Z K4 (fun b8=>(AR.bW Z Z (AO.dS (i:=0) Z Z Z yB Z Z Z Z Z ?_))))))));refine cs 2 Z (AR.nil [0,5,6,7,8,9,10] Z (AW.seq (AW.sr ?_)));refine cs 2 Z (AR.nil [0,5,6,7,8,9,10,77] Z (AW.cond Z (fun h18=>?_) (fun h18=>?_)))
  ·replace hf:=kX h18 hf;refine AW.sr (cs 5 Z (AR.step Z Z Z (AO.jV Z Z (cs 2 Z ?_))));refine AR.nil [2,3,4] Z (AW.ret ?_);cases hf;exact⟨rfl,_,⟨_,_,rfl,rfl,_,_,rfl,rfl,_,_,rfl,rfl,rfl⟩,[],asY _,h⟩
  replace hf:=kE h18 hf;refine AW.skip (AW.sr (cs 1 Z (AR.step Z Z Z (AO.dX (i:=0) Z Z Z yB Z Z ?_))));refine AR.step rfl rfl rfl (AO.build rfl QO Wz rfl (AR.step rfl rfl rfl (AO.fu (List.map aO.cells [(aO.mk ([]:Str) true x6)]) rfl Pt rfl rfl rfl (by first|rfl|simp only[List.map,aO.aT]) ?_)));refine B1 hf fun l2 h19 hf=>?_;obtain⟨FP,rfl⟩:=Ab h19
  refine AR.step Z Z Z (AO.TB (i:=1) (l2:=List.map aO.cells [(aO.mk ([]:Str) true x6)]) Z Z Z Z Z Z Z Pt xg (by intro y hy;cases asa.1 hy;exact aO.dL _) (by intro y hy;cases asa.1 hy;exact aO.cells_one _) (by simp only[arq,List.map_nil,as0]at FP⊢;unfold rM at FP;unfold maxLen;omega) (by simp only[arq,List.map_nil,as0]at FP⊢;unfold rM at FP;omega) (fun v2 s2 hs2=>?_));cases hs2;refine cs 1 Z (AR.nil [0,5,7] Z (AW.region (cs 3 Z ?_)));refine AR.drop1 (AR.nil [0,5,6] Z ?_);exact⟨l1++[(aO.mk ([]:Str) true x6)],v2,(bq (tK+1)),Z,by simp[as2],Z,hf⟩
 replace hf:=kE h2 hf;refine AW.exit (AW.freeze 5 0 (List.map aO.cells l1) Z Z (by rw[List.flatMap_def]) (by intro x hx;obtain⟨y,_,rfl⟩:=ar4.1 hx;exact aO.dL y) (by rw[as1]) ?_);refine AW.sr (cs 4 Z (AR.nil [2,3,4] Z (AW.ret ?_)));cases hf;exact⟨rfl,_,⟨_,_,rfl,rfl,_,_,rfl,rfl,_,_,rfl,rfl,rfl⟩,[],asY _,h⟩⟩
instance (bX :List aB) (n_ fF):LE (xV bX n_ fF) (fun j p=>xV bX j p) n_ fF [] [] [] [0] (fun v w p=>[(3,iP p)]) (fun v w p s=>s):=⟨Z⟩
instance (bX :List aB) (i1:Int) (wY:Int→Option Int) (n_ fF):LE (Ar bX i1 wY n_ fF) (fun j p=>Ar bX i1 wY j p) n_ fF [] [] [] [0,3] (fun v w p=>[(5,iP p)]) (fun v w p s=>s):=⟨Z⟩
instance an6(bX:List aB):CT Tryz.prog (Ku bX) (fun r=>.ret (iP r)) 24 [.list (List.map aB.cells bX)]:=by
  unfold Ku;exact Z1 ⟨47,[],[]⟩ Z Tryz.func24 Z Z Z Z
instance TI(name1:Str):CT Tryz.prog (Gb name1) (fun r=>.ret (iP r)) 130 [.str name1]:=by
  unfold Gb;exact Z1 ⟨18,[],[]⟩ Z Tryz.func130 Z Z Z Z
instance an5(s1:Str):CT Tryz.prog (nX s1) (fun r=>.ret (.agg (aF r))) 207 [.str s1]:=by
  unfold nX;exact Z1 ⟨5,[],[]⟩ Z Tryz.func207 Z Z Z Z
instance (v1 :ah) (key1:Str) (n_ fF):LE (Aw v1 key1 n_ fF) (fun j p=>Aw v1 key1 j p) n_ fF [] [] [] [1,2,4] (fun v w p=>[(6,iP p)]) (fun v w p s=>s):=⟨Z⟩
instance aeB(v1:ah)(key1:Str):CT Tryz.prog (Hw v1 key1) (fun r=>.ret (.tuple [.agg (aF r.1),.bool r.2])) 278 [.agg (aF v1),.str key1]:=by
  unfold Hw;exact Z1 ⟨37,[],[]⟩ Z Tryz.func278 Z Z Z Z
instance alM(a1:ah)(b1:ah):CT Tryz.prog (Dm a1 b1) (fun r=>.ret (.tuple [.agg (aF r.1),iP r.2])) 206 [.agg (aF a1),.agg (aF b1)]:=by
  unfold Dm;exact Z1 ⟨54,[],[]⟩ Z Tryz.func206 Z Z Z Z
section
variable (vg : Int → Option Str) [aeT : ∀(LB : Int), CT Tryz.prog (vg LB) (fun r => .ret (.str r)) 132 [iP LB]]
instance Qj(n1:Int):CT Tryz.prog (tY vg n1) (fun r=>.ret (.str r)) 132 [iP n1]:=by
  unfold tY;exact Z1 ⟨40,[],[]⟩ Z Tryz.func132 Z Z Z Z
end
theorem Lf:∀k:Nat,(∀(LB:Int),CT Tryz.prog (lu k LB) (fun r=>.ret (.str r)) 132 [iP LB])
  | 0=>fun _=>CT.none Z
  | k+1=>by
    obtain (i0):=Lf k;exact fun LB=>Qj _ LB
instance aiK(LB:Int):CT Tryz.prog (EY LB) (fun r=>.ret (.str r)) 132 [iP LB]:=(Lf BIG) LB
instance ae2(c1:UInt8):CT Tryz.prog (FL c1) (fun r=>.ret (.str r)) 214 [.int .u8 (c1.toNat:Int)]:=⟨zP rfl,fun {r0} hf {τ Q} h=>by
 unfold FL at hf;refine BN 44 [.tmp 2] [0] Tryz.func214 Z Z Z Z Z (V 4 Z (C hf Z (fun h1 hf=>?_) fun h1 hf=>?_))
 ·refine W 0 Z (AS Z (AO.fu (List.map f_ ([92,34]:List UInt8)) Z EL Z Z Z Z (AS Z (AO.t_ Z MC Q8 mq Z Z ?_))));cases hf;exact N 1 Z (Y Z h)
 refine V 3 Z (C hf Z (fun h2 hf=>?_) fun h2 hf=>?_)
 ·refine W 0 Z (AS Z (AO.fu (List.map f_ ([92,92]:List UInt8)) Z EL Z Z Z Z (AS Z (AO.t_ Z MC Q8 mq Z Z ?_))));cases hf;exact N 1 Z (Y Z h)
 refine V 3 Z (C hf Z (fun h3 hf=>?_) fun h3 hf=>?_)
 ·refine W 0 Z (AS Z (AO.fu (List.map f_ ([92,110]:List UInt8)) Z EL Z Z Z Z (AS Z (AO.t_ Z MC Q8 mq Z Z ?_))));cases hf;exact N 1 Z (Y Z h)
 refine V 3 Z (C hf Z (fun h4 hf=>?_) fun h4 hf=>?_)
 ·refine W 0 Z (AS Z (AO.fu (List.map f_ ([92,116]:List UInt8)) Z EL Z Z Z Z (AS Z (AO.t_ Z MC Q8 mq Z Z ?_))));cases hf;exact N 1 Z (Y Z h)
 refine W 3 Z (An 3 27 30 [0] (decide ((c1.toNat:Int)≤126)) Z Z Z Z (J 1 Z (C hf Z (fun h6 hf=>?_) fun h6 hf=>?_)))
 ·refine W 1 Z (AS Z (AO.fu (List.map f_ ([c1]:List UInt8)) Z EL Z Z Z Z (AS Z (AO.t_ Z MC Q8 mq Z Z ?_))));cases hf;exact N 1 Z (Y Z h)
 refine V 1 Z (AW.draw 11 mixed (by kernel_rfl) Z ?_);refine Ev.cs iy 2 Z (Ev.cons Z Z Z (AO.u8_quo c1 16 Z Z Z Z Z (by decide) zg) ?_);refine B1 hf fun x1 h7 hf=>Ev.cons Z Z Z (AO.ou h7 Z mq Z Z zg) (Ev.cs iy 2 Z (Ev.cons Z Z Z (AO.afx c1 16 Z Z Z Z Z (by decide) zg) ?_));refine B1 hf fun x2 h8 hf=>Ev.cons Z Z Z (AO.ou h8 Z mq Z Z zg) (Ev.cons Z Z Z (AO.fu (List.map f_ ([92,120,x1,x2]:List UInt8)) Z EL Z Z Z Z zg) (Ev.cons Z Z Z (AO.t_ Z MC Q8 mq Z Z zg) (Ev.cs iy 1 Z ?_)));refine Ev.nil ?_;show AR _ _ _ _ _ _ _ _
 cases hf;exact N 0 Z (Y Z h)⟩
instance (s1 :Str) (n_ fF mM):LE (Cw s1 n_ fF mM) (fun j p=>Cw s1 j p.1 p.2) n_ (fF,mM) [] [] [] [0] (fun v w p=>[(3,.str p.1),(4,iP p.2)]) (fun v w p s=>s):=⟨Z⟩
instance al3(s1:Str):CT Tryz.prog (Gq s1) (fun r=>.ret (.str r)) 133 [.str s1]:=by
  unfold Gq;exact Z1 ⟨23,[],[]⟩ Z Tryz.func133 Z Z Z Z
section
variable (gU : ah → Option Str) [aeS : ∀(mo : ah), CT Tryz.prog (gU mo) (fun r => .ret (.str r)) 79 [.agg (aF mo)]]
instance (v1 :ah) (n_ fF mM):LE (o7 gU v1 n_ fF mM) (fun j p=>o7 gU v1 j p.1 p.2) n_ (fF,mM) [] [] [] [1] (fun v w p=>[(3,.str p.1),(4,iP p.2)]) (fun v w p s=>s):=⟨Z⟩
instance Qi(v1:ah):CT Tryz.prog (A9 gU v1) (fun r=>.ret (.str r)) 79 [.agg (aF v1)]:=by
  unfold A9;exact Z1 ⟨63,[],[]⟩ Z Tryz.func79 Z Z Z Z
end
theorem Ld:∀k:Nat,(∀(mo:ah),CT Tryz.prog (A8 k mo) (fun r=>.ret (.str r)) 79 [.agg (aF mo)])
  | 0=>fun _=>CT.none Z
  | k+1=>by
    obtain (i0):=Ld k;exact fun mo=>Qi _ mo
instance aiJ(mo:ah):CT Tryz.prog (Js mo) (fun r=>.ret (.str r)) 79 [.agg (aF mo)]:=(Ld BIG) mo
instance anG(v1:ah):CT Tryz.prog (Gp v1) (fun r=>.ret (.tuple [.str r.1,iP r.2])) 45 [.agg (aF v1)]:=by
  unfold Gp;exact Z1 ⟨28,[],[]⟩ Z Tryz.func45 Z Z Z Z
instance (s1 :Str) (Et:UInt8) (JJ:UInt8) (Ag:Int) (n_ fF mM):LE (vM s1 Et JJ Ag n_ fF mM) (fun j p=>vM s1 Et JJ Ag j p.1 p.2) n_ (fF,mM) [9] [] [(9,1,5)] [0,1,2,3] (fun v w p=>[(9,.own v (List.map f_ p.1)),(10,iP p.2)]) (fun v w p s=>putRow 0 v ((List.map f_ p.1).length) (s)):=⟨Z⟩
instance alN(s1:Str)(Et:UInt8)(JJ:UInt8)(Ag:Int):CT Tryz.prog (Dn s1 Et JJ Ag) (fun r=>.ret (.str r)) 279 [.str s1,.int .u8 (Et.toNat:Int),.int .u8 (JJ.toNat:Int),iP Ag]:=by
  unfold Dn;exact Z1 ⟨40,[],[]⟩ Z Tryz.func279 Z Z Z Z
instance akG(s1:Str):CT Tryz.prog (xU s1) (fun r=>.ret (.tuple [iP r.1,.bool r.2])) 280 [.str s1]:=by
  unfold xU;exact Z1 ⟨30,[],[]⟩ Z Tryz.func280 Z Z Z Z
instance (a1 :ah) (n_ fF mM):LE (Aq a1 n_ fF mM) (fun j p=>Aq a1 j p.1 p.2) n_ (fF,mM) [] [(1,[4])] [(9999,6,34)] [3,4,6] (fun v w p=>[(7,iP p.1)]) (fun v w p s=>xW 1 [iP p.2.kind,.bool p.2.dD,iP p.2.cu,.str p.2.bJ,.own v (List.map ah.cells p.2.aP),sP p.2.keys] (putRow 0 v ((List.map ah.cells p.2.aP).length) (s))):=⟨Z⟩
instance an4(name1:Str)(a1:ah):CT Tryz.prog (MV name1 a1) (fun r=>.ret (.tuple [.agg (aF r.1),iP r.2])) 208 [.str name1,.agg (aF a1)]:=by
  unfold MV;exact Z1 ⟨102,[],[]⟩ Z Tryz.func208 Z Z Z Z
instance anF(QL:Bool):CT Tryz.prog (mZ QL) (fun r=>.ret (iP r)) 181 [.bool QL]:=by
  unfold mZ;exact Z1 ⟨4,[],[]⟩ Z Tryz.func181 Z Z Z Z
instance (a1 :List Str) (b1:List Str) (n_ fF):LE (vP a1 b1 n_ fF) (fun j p=>vP a1 b1 j p) n_ fF [] [] [] [0,1] (fun v w p=>[(5,iP p)]) (fun v w p s=>s):=⟨Z⟩
instance al0(a1:List Str)(b1:List Str):CT Tryz.prog (Gm a1 b1) (fun r=>.ret (iP r)) 183 [sP a1,sP b1]:=by
  unfold Gm;exact Z1 ⟨44,[],[]⟩ Z Tryz.func183 Z Z Z Z
section
variable (jJ : ah → ah → Option Int) [aeU : ∀(tO : ah) (tN : ah), CT Tryz.prog (jJ tO tN) (fun r => .ret (iP r)) 107 [.agg (aF tO), .agg (aF tN)]] (sM : List ah → List ah → Option Int) [ait : ∀(tO : List ah) (tN : List ah), CT Tryz.prog (sM tO tN) (fun r => .ret (iP r)) 182 [.list (ah.bP tO), .list (ah.bP tN)]]
instance (a1 :List ah) (b1:List ah) (n_ fF):LE (vQ jJ a1 b1 n_ fF) (fun j p=>vQ jJ a1 b1 j p) n_ fF [] [] [] [0,1] (fun v w p=>[(5,iP p)]) (fun v w p s=>s):=⟨Z⟩
instance Qk(a1:ah)(b1:ah):CT Tryz.prog (A_ jJ sM a1 b1) (fun r=>.ret (iP r)) 107 [.agg (aF a1),.agg (aF b1)]:=by
  unfold A_;exact Z1 ⟨77,[],[]⟩ Z Tryz.func107 Z Z Z Z
instance UN(a1:List ah)(b1:List ah):CT Tryz.prog (EW jJ sM a1 b1) (fun r=>.ret (iP r)) 182 [.list (ah.bP a1),.list (ah.bP b1)]:=by
  unfold EW;exact Z1 ⟨42,[],[]⟩ Z Tryz.func182 Z Z Z Z
end
theorem FN:∀k:Nat,(∀(tO:ah) (tN:ah),CT Tryz.prog (mQ k tO tN) (fun r=>.ret (iP r)) 107 [.agg (aF tO),.agg (aF tN)])∧(∀(tO:List ah) (tN:List ah),CT Tryz.prog (BG k tO tN) (fun r=>.ret (iP r)) 182 [.list (ah.bP tO),.list (ah.bP tN)])
  | 0=>⟨fun _ _=>CT.none Z,fun _ _=>CT.none Z⟩
  | k+1=>by
    obtain⟨i0,i1⟩:=FN k;exact⟨fun tO tN=>Qk _ _ tO tN,fun tO tN=>UN _ _ tO tN⟩
instance aiL(tO:ah)(tN:ah):CT Tryz.prog (EZ tO tN) (fun r=>.ret (iP r)) 107 [.agg (aF tO),.agg (aF tN)]:=(FN BIG).1 tO tN
instance al1(tO:List ah)(tN:List ah):CT Tryz.prog (adC tO tN) (fun r=>.ret (iP r)) 182 [.list (ah.bP tO),.list (ah.bP tN)]:=(FN BIG).2 tO tN
instance al4(a1:ah)(b1:ah):CT Tryz.prog (yJ a1 b1) (fun r=>.ret (.bool r)) 69 [.agg (aF a1),.agg (aF b1)]:=by
  unfold yJ;exact Z1 ⟨9,[],[]⟩ Z Tryz.func69 Z Z Z Z
instance anw(b1:Bool):CT Tryz.prog (jd b1) (fun r=>.ret (.agg (aF r))) 210 [.bool b1]:=by
  unfold jd;exact Z1 ⟨5,[],[]⟩ Z Tryz.func210 Z Z Z Z
instance (s1 :Str) (t1:Str) (n_ fF):LE (yE s1 t1 n_ fF) (fun j p=>yE s1 t1 j p) n_ fF [] [] [] [0,1] (fun v w p=>[(7,iP p)]) (fun v w p s=>s):=⟨Z⟩
instance ant(s1:Str)(t1:Str)(SA:Int):CT Tryz.prog (D7 s1 t1 SA) (fun r=>.ret (iP r)) 337 [.str s1,.str t1,iP SA]:=by
  unfold D7;exact Z1 ⟨28,[],[]⟩ Z Tryz.func337 Z Z Z Z
instance (a1 :ah) (b1:ah) (n_ fF):LE (pR a1 b1 n_ fF) (fun j p=>pR a1 b1 j p) n_ fF [] [] [] [2,3,4] (fun v w p=>[(6,iP p)]) (fun v w p s=>s):=⟨Z⟩
instance ahK(a1:ah)(b1:ah):CT Tryz.prog (zi a1 b1) (fun r=>.ret (.tuple [.agg (aF r.1),iP r.2])) 281 [.agg (aF a1),.agg (aF b1)]:=by
  unfold zi;exact Z1 ⟨61,[],[]⟩ Z Tryz.func281 Z Z Z Z
section
variable (mR : ah → Option Int) [ag2 : ∀(mo : ah), CT Tryz.prog (mR mo) (fun r => .ret (iP r)) 286 [.agg (aF mo)]]
instance (v1 :ah) (n_ fF mM):LE (wS mR v1 n_ fF mM) (fun j p=>wS mR v1 j p.1 p.2) n_ (fF,mM) [] [] [] [1] (fun v w p=>[(3,iP p.1),(4,iP p.2)]) (fun v w p s=>s):=⟨Z⟩
instance TJ(v1:ah):CT Tryz.prog (Cx mR v1) (fun r=>.ret (iP r)) 286 [.agg (aF v1)]:=by
  unfold Cx;exact Z1 ⟨30,[],[]⟩ Z Tryz.func286 Z Z Z Z
end
theorem Na:∀k:Nat,(∀(mo:ah),CT Tryz.prog (sF k mo) (fun r=>.ret (iP r)) 286 [.agg (aF mo)])
  | 0=>fun _=>CT.none Z
  | k+1=>by
    obtain (i0):=Na k;exact fun mo=>TJ _ mo
instance XO(mo:ah):CT Tryz.prog (Ec mo) (fun r=>.ret (iP r)) 286 [.agg (aF mo)]:=(Na BIG) mo
instance akC(v1:ah):CT Tryz.prog (jB v1) (fun r=>.ret (.tuple [.agg (aF r.1),iP r.2])) 212 [.agg (aF v1)]:=by
  unfold jB;exact Z1 ⟨29,[],[]⟩ Z Tryz.func212 Z Z Z Z
instance (a1 :ah) (b1:ah) (n_ fF mM):LE (rT a1 b1 n_ fF mM) (fun j p=>rT a1 b1 j p.1 p.2) n_ (fF,mM) [] [] [] [2,3,4] (fun v w p=>[(6,.str p.1),(7,iP p.2)]) (fun v w p s=>s):=⟨Z⟩
instance anq(a1:ah)(b1:ah):CT Tryz.prog (Jm a1 b1) (fun r=>.ret (.tuple [.agg (aF r.1),iP r.2])) 282 [.agg (aF a1),.agg (aF b1)]:=by
  unfold Jm;exact Z1 ⟨51,[],[]⟩ Z Tryz.func282 Z Z Z Z
instance (s1 :Str) (Ag:Str) (n_ fF mM X6):LE (vL s1 Ag n_ fF mM X6) (fun j p=>vL s1 Ag j p.1 p.2.1 p.2.2) n_ (fF,mM,X6) [6] [] [(6,6,34)] [0,1,4] (fun v w p=>[(6,.own v (List.map ah.cells p.1)),(7,iP p.2.1),(8,iP p.2.2)]) (fun v w p s=>putRow 0 v ((List.map ah.cells p.1).length) (s)):=⟨Z⟩
instance alL(s1:Str)(Ag:Str):CT Tryz.prog (Ap s1 Ag) (fun r=>.ret (.tuple [.agg (aF r.1),iP r.2])) 283 [.str s1,.str Ag]:=by
  unfold Ap;exact Z1 ⟨44,[],[]⟩ Z Tryz.func283 Z Z Z Z
instance an3(name1:Str)(a1:ah)(b1:ah):CT Tryz.prog (MU name1 a1 b1) (fun r=>.ret (.tuple [.agg (aF r.1),iP r.2])) 209 [.str name1,.agg (aF a1),.agg (aF b1)]:=by
  unfold MU;exact Z1 ⟨86,[],[]⟩ Z Tryz.func209 Z Z Z Z
instance akF(op1:Str)(Lg:Bool)(YX:Bool):CT Tryz.prog (uL op1 Lg YX) (fun r=>.ret (.tuple [.agg (aF r.1),iP r.2])) 284 [.str op1,.bool Lg,.bool YX]:=by
  unfold uL;exact Z1 ⟨25,[],[]⟩ Z Tryz.func284 Z Z Z Z
instance TK(n1:Int):CT Tryz.prog (BJ n1) (fun r=>.ret (.int .u64 (r.toNat:Int))) 408 [iP n1]:=⟨zP rfl,fun {r0} hf {τ Q} h=>by
 unfold BJ at hf;refine BN 12 [.tmp 2] [0] Tryz.func408 Z Z Z Z Z (V 3 Z (C hf Z (fun h1 hf=>?_) fun h1 hf=>?_))
 ·refine W 3 Z (AS Z (AO.Wt Z Uk G9 Z ?_));refine BR hf fun x1 h2 hf=>?_;refine AS Z (AO.Q9 (BitVec.ofInt 64 (bq (0-(bq (n1+1))))) (1:BitVec 64) h2 Z Z Z Z Z ?_);cases hf;exact N 1 Z (Y Z h)
 refine W 1 Z (AS Z (AO.Wt Z Uk G9 Z ?_));cases hf;exact N 1 Z (Y Z h)⟩
instance aiN(a1:Int)(b1:Int):CT Tryz.prog (BK a1 b1) (fun r=>.ret (.agg (Eo r))) 378 [iP a1,iP b1]:=⟨zP rfl,fun {r0} hf {τ Q} h=>by
 unfold BK at hf;refine BN 75 [.cell 4 315] [0,1] Tryz.func378 Z Z Z Z Z (W 0 Z (AS Z (AO.bM Z afd (fun b4=>?_))));refine B1 hf fun x1 h1 hf=>U 1 Z (CL Z ((TK _).h h1 ?_));refine B1 hf fun y1 h2 hf=>U 1 Z (CL Z ((TK _).h h2 (U 3 Z (AS Z (AO.MF x1 (4294967296:BitVec 64) Z Z Z Z Z (by decide) ?_)))));refine U 1 Z (AS Z (AO.u64_quo x1 (4294967296:BitVec 64) Z Z Z Z Z (by decide) ?_));refine U 3 Z (AS Z (AO.MF y1 (4294967296:BitVec 64) Z Z Z Z Z (by decide) ?_));refine U 1 Z (AS Z (AO.u64_quo y1 (4294967296:BitVec 64) Z Z Z Z Z (by decide) ?_));refine B1 hf fun Ce h3 hf=>U 4 Z (AS Z (AO.Bp (x1%(4294967296:BitVec 64)) (y1%(4294967296:BitVec 64)) h3 Z Z Z Z Z ?_));refine B1 hf fun x2 h4 hf=>U 3 Z (AS Z (AO.Bp (x1/(4294967296:BitVec 64)) (y1%(4294967296:BitVec 64)) h4 Z Z Z Z Z (U 1 Z (AS Z (AO.u64_quo Ce (4294967296:BitVec 64) Z Z Z Z Z (by decide) ?_)))));refine AS Z (AO.EK x2 (Ce/(4294967296:BitVec 64)) Z Z Z Z Z ?_);refine B1 hf fun x3 h5 hf=>U 3 Z (AS Z (AO.Bp (x1%(4294967296:BitVec 64)) (y1/(4294967296:BitVec 64)) h5 Z Z Z Z Z ?_));refine B1 hf fun x4 h6 hf=>U 1 Z (AS Z (AO.afz (x2+(Ce/(4294967296:BitVec 64))) (4294967296:BitVec 64) h6 Z Z Z Z Z (by decide) ?_));refine AS Z (AO.EK x3 x4 Z Z Z Z Z ?_);refine B1 hf fun x5 h7 hf=>U 3 Z (AS Z (AO.Bp (x1/(4294967296:BitVec 64)) (y1/(4294967296:BitVec 64)) h7 Z Z Z Z Z ?_));refine B1 hf fun x6 h8 hf=>U 1 Z (AS Z (AO.afA (x2+(Ce/(4294967296:BitVec 64))) (4294967296:BitVec 64) h8 Z Z Z Z Z (by decide) ?_))
 refine AS Z (AO.EK x5 x6 Z Z Z Z Z (U 1 Z (AS Z (AO.u64_quo (x3+x4) (4294967296:BitVec 64) Z Z Z Z Z (by decide) ?_))));refine B1 hf fun x7 h9 hf=>AS Z (AO.Q9 (x5+x6) ((x3+x4)/(4294967296:BitVec 64)) h9 Z Z Z Z Z (U 1 Z (AS Z (AO.MF (x3+x4) (4294967296:BitVec 64) Z Z Z Z Z (by decide) ?_))));refine B1 hf fun x8 h10 hf=>AS Z (AO.Bp ((x3+x4)%(4294967296:BitVec 64)) (4294967296:BitVec 64) h10 Z Z Z Z Z (U 1 Z (AS Z (AO.MF Ce (4294967296:BitVec 64) Z Z Z Z Z (by decide) ?_))));refine AS Z (AO.EK x8 (Ce%(4294967296:BitVec 64)) Z Z Z Z Z (U 1 Z (AS Z (AO.bM Z afd (fun b14=>(Rr 5 [0] Z Z (AS Z (AO.Tp Z ai_ Z Z (U 1 Z (AR.and 9 63 72 [4,14] (x:=(((x7.toNat:Int) !=0)||(((x8+(Ce%(4294967296:BitVec 64))).toNat:Int) !=0))) Z Z (fun h11=>?_) (fun h11=>?_) ?_))))))))))
 ·refine Is 63 h11 Z (U 1 Z (GO Z (AO.dX (i:=0) Z Z Z afI Z Z (U 2 Z (AR.or 4 67 71 [4,14,63] (x:=(((x8+(Ce%(4294967296:BitVec 64))).toNat:Int) !=0)) Z Z (fun h12=>?_) (fun h12=>?_) ?_)))))
  ·refine Is 67 h12 Z (U 1 Z (GO Z (AO.dX (i:=0) Z Z Z afI Z Z ?_)));exact uG 2 Z (En [71,4,14,63] Z)
  ·refine Is 67 h12 Z ?_;exact uG 4 Z (En [71,4,14,63] Z)
  exact uG 1 Z (En [72,4,14] Z)
 ·refine Is 63 h11 Z ?_;exact uG 9 Z (En [72,4,14] Z)
 cases hf;exact Rx 4 [0,0,1] Z Z (ZC [1] Z Z h)⟩
instance akN(w1:bD):CT Tryz.prog (Hy w1) (fun r=>.ret (.tuple [iP r.1,.bool r.2])) 379 [.agg (Eo w1)]:=⟨zP rfl,fun {r} hf {τ Q} h=>by
 obtain⟨r0,r1⟩:=r;unfold Hy at hf;refine BN 34 [.tmp 2,.tmp 3] [0] Tryz.func379 Z Z Z Z Z (W 7 Z (On 4 7 11 [1] (decide (9223372036854775808<(w1.lo.toNat:Int))) Z Z Z Z (U 1 Z (AR.or 9 12 21 [1] (x:=(((w1.lo.toNat:Int)==9223372036854775808)&&(!w1.neg))) Z Z (fun h2=>?_) (fun h2=>?_) ?_))))
 ·refine Is 12 h2 Z (U 4 Z (An 4 16 20 [1,12] (!w1.neg) Z Z Z Z ?_));exact uG 1 Z (En [21,1] Z)
 ·refine Is 12 h2 Z ?_;exact uG 9 Z (En [21,1] Z)
 refine J 0 Z (C hf Z (fun h4 hf=>?_) fun h4 hf=>?_)
 ·cases hf;exact M 2 Z (Y Z h)
 refine V 3 Z (C hf Z (fun h5 hf=>?_) fun h5 hf=>?_)
 ·cases hf;exact M 2 Z (Y Z h)
 refine V 2 Z (C hf Z (fun h6 hf=>?_) fun h6 hf=>?_)
 ·refine W 2 Z (AS Z (AO.xq Z G9 Uk Z ?_));cases hf;exact N 3 Z (Y Z h)
 refine W 2 Z (AS Z (AO.xq Z G9 Uk Z ?_));cases hf;exact N 2 Z (Y Z h)⟩
instance aob(a1:Int)(b1:Int):CT Tryz.prog (M0 a1 b1) (fun r=>.ret (iP r)) 338 [iP a1,iP b1]:=by
  unfold M0;exact Z1 ⟨20,[],[]⟩ Z Tryz.func338 Z Z Z Z
instance anr(op1:Str)(a1:Int)(b1:Int):CT Tryz.prog (Jo op1 a1 b1) (fun r=>.ret (.tuple [.agg (aF r.1),iP r.2])) 285 [.str op1,iP a1,iP b1]:=by
  unfold Jo;exact Z1 ⟨41,[],[]⟩ Z Tryz.func285 Z Z Z Z
instance akE(op1:Str)(a1:ah)(b1:ah):CT Tryz.prog (nN op1 a1 b1) (fun r=>.ret (.tuple [.agg (aF r.1),iP r.2])) 211 [.str op1,.agg (aF a1),.agg (aF b1)]:=by
  unfold nN;exact Z1 ⟨124,[],[]⟩ Z Tryz.func211 Z Z Z Z
instance (v1 :ah) (x1:aB) (n_ fF mM X6):LE (uR v1 x1 n_ fF mM X6) (fun j p=>uR v1 x1 j p.1 p.2.1 p.2.2) n_ (fF,mM,X6) [] [(1,[4,5])] [(9999,6,34),(9999,1,9)] [2,3,4,5] (fun v w p=>[(6,.bool p.1),(7,iP p.2.1)]) (fun v w p s=>xW 2 [iP p.2.2.kind,.bool p.2.2.dD,iP p.2.2.cu,.str p.2.2.bJ,.own v (List.map ah.cells p.2.2.aP),.own w (List.map jy p.2.2.keys)] (putRow 1 v ((List.map ah.cells p.2.2.aP).length) (putRow 0 w ((List.map jy p.2.2.keys).length) (s)))):=⟨Z⟩
instance abA(v1:ah)(x1:aB):CT Tryz.prog (Jr v1 x1) (fun r=>.ret (.agg (aF r))) 287 [.agg (aF v1),.agg (qN x1)]:=by
  unfold Jr;exact Z1 ⟨80,[],[]⟩ Z Tryz.func287 Z Z Z Z
instance an_(iD:List aB):CT Tryz.prog (Kz iD) (fun r=>.ret (.tuple [.agg (aF r.1),iP r.2])) 213 [.list (List.map aB.cells iD)]:=⟨zP rfl,fun {r} hf {τ Q} h=>by
 obtain⟨r0,r1⟩:=r;unfold Kz at hf;refine BN 65 [.cell 2 34,.tmp 3] [0] Tryz.func213 Z Z Z Z Z (W 0 Z (AS Z (AO.bM Z oW (fun b2=>(U 2 Z (AS Z (AO.fQ (l:=iD) Z Z Z Z wB Z Z (J 1 Z (C hf Z (fun h1 hf=>?_) fun h1 hf=>?_)))))))))
 ·cases hf;exact Wx 3 [0] Z Z (ZC [0] Z Z h)
 refine W 1 Z (AS Z (AO.bM Z oW (fun b4=>?_)));refine Rw 2 [0] Z Z (AW.settle [0,2,4,5] Z (AW.akW 0 Z (LK2 (fun i1 v1=>[(0,.list (List.map aB.cells iD)),(2,pP b2),(4,pP b4),(5,iP i1)]) (fun i1 v1=>[.box b4 (aF v1),.box b2 [iP 0,.bool false,iP 0,.str ([]:Str),.own (.slice none 0 0) [],.own (.slice none 0 0) []]]) (fun dW i1 v1=>Av iD dW i1 v1=some (r0,r1)) BIG 0 (ah.mk 5 false 0 ([]:Str) [] []) Z Z hf (fun _ _ hz=>kI hz) ?_)));intro dW i1 v1 hf;rw[Av]at hf;refine W 2 Z (AS Z (AO.fQ (l:=iD) Z Z Z Z wB Z Z (J 1 Z (C hf Z (fun h2 hf=>?_) fun h2 hf=>?_))))
 ·refine B1 hf fun e1 h3 hf=>W 2 Z (AS Z (AO.dV h3 Z Z Z Z wB (aB.aT _) Z ?_));refine B1 hf fun x1 h4 hf=>U 2 Z (CL Z ((aeA _).h h4 (J 1 Z (C hf Z (fun h5 hf=>?_) fun h5 hf=>?_))))
  ·cases hf;exact Wx 3 [1] Z Z (ZC [1] Z Z h)
  refine B1 hf fun e2 h6 hf=>W 2 Z (AS Z (AO.dV h6 Z Z Z Z wB (aB.aT _) Z ?_));refine B1 hf fun e3 h7 hf=>U 2 Z (CL Z ((ZM _).h h7 (J 3 Z (C hf Z (fun h8 hf=>?_) fun h8 hf=>?_))))
  ·cases hf;exact Wx 4 [1] Z Z (ZC [1] Z Z h)
  refine B1 hf fun e4 h9 hf=>W 2 Z (AS Z (AO.dV h9 Z Z Z Z wB (aB.aT _) Z ?_));refine B1 hf fun x2 h10 hf=>U 2 Z (CL Z ((XO _).h h10 (J 1 Z (C hf Z (fun h11 hf=>?_) fun h11 hf=>?_))))
  ·cases hf;exact Wx 3 [1] Z Z (ZC [1] Z Z h)
  refine V 0 Z (AW.acK 0 10 12 [_,_] [] mixed (by kernel_rfl) (by kernel_rfl) (by kernel_rfl) Z Z Z (List.Perm.refl _) ?_);refine Ev.nil ?_;show Ev _ _ _ _ _ _ _;refine Ev.cons Z Z Z (AO.dX (i:=0) Z Z Z wP Z Z zg) (Ev.cs iy 2 Z ?_);refine B1 hf fun e5 h12 hf=>Ev.cons Z Z Z (AO.dV h12 Z Z Z Z wB (aB.aT _) Z zg) (Ev.cs iy 2 Z ?_);obtain⟨x3,ok1,KY,hf⟩:=gL hf;refine Ev.cons Z Z Z (AO.call Z _ Z Z amB ((aeB _ _).h KY zg)) (Ev.cs iy 3 Z (Ev.nil (TF.step Z Z Z (AO.bM Z oW (fun b7=>?_)))));refine TF.bW Z Z (AO.dS (i:=0) Z Z Z wP Z Z Z Z Z (TF.nil ?_));show AR _ _ _ _ _ _ _ _;refine J 2 Z (C hf Z (fun I6 hf=>?_) fun I6 hf=>?_)
  ·cases hf;exact Wx 3 [1] Z Z (ZC [1] Z Z h)
  refine V 0 Z (AW.draw 6 mixed (by kernel_rfl) Z ?_);refine Ev.cons Z Z Z (AO.dX (i:=0) Z Z Z wP Z Z zg) (Ev.cs iy 2 Z ?_);refine B1 hf fun e6 LX hf=>Ev.cons Z Z Z (AO.dV LX Z Z Z Z wB (aB.aT _) Z zg) (Ev.cs iy 1 Z ?_);refine B1 hf fun x4 h16 hf=>Ev.cons Z Z Z (AO.call Z _ Z Z amA ((abA _ _).h h16 zg)) (Ev.nil ?_);show AR _ _ _ _ _ _ _ _;refine Rn 4 [0] Z Z (AR.abf 2 Z ?_);exact N 0 Z ⟨(bq (i1+1)),x4,Z,Z,Z,hf⟩
 cases hf;exact Wx 3 [0,1] Z Z (ZC [1] Z Z h)⟩
instance (e1 :aj) (l1:List ah) (n_ fF mM):LE (yD e1 l1 n_ fF mM) (fun j p=>yD e1 l1 j p.1 p.2) n_ (fF,mM) [6] [] [(6,7,60)] [1,2,4] (fun v w p=>[(6,.own v (List.map aB.cells p.1)),(7,iP p.2)]) (fun v w p s=>putRow 0 v ((List.map aB.cells p.1).length) (s)):=⟨Z⟩
instance abz(e1:aj)(l1:List ah):CT Tryz.prog (F9 e1 l1) (fun r=>.ret (.tuple [.agg (aF r.1),iP r.2])) 131 [.agg (aR e1),.list (ah.bP l1)]:=by
  unfold F9;exact Z1 ⟨134,[],[]⟩ Z Tryz.func131 Z Z Z Z
abbrev IB(fJ:aj→List aB→Option (ah × Int)):Prop:=∀(gB:aj) (fZ:List aB) {xP:ah} {DT:Int},fJ gB fZ=some (xP,DT)→∀ {τ:List aS} {Q:dN→List aS→Prop} (h:Q (.ret (.tuple [.agg (aF xP),iP DT])) τ),PC 78 [.agg (aR gB),.list (List.map aB.cells fZ)] τ Q
abbrev Di(iB:aj→List aB→Option (ah × Int)):Prop:=∀(gB:aj) (fZ:List aB) {xP:ah} {DT:Int},iB gB fZ=some (xP,DT)→∀ {τ:List aS} {Q:dN→List aS→Prop} (h:Q (.ret (.tuple [.agg (aF xP),iP DT])) τ),PC 129 [.agg (aR gB),.list (List.map aB.cells fZ)] τ Q
abbrev Bg(gT:aj→List aB→Option (ah × Int)):Prop:=∀(gB:aj) (fZ:List aB) {xP:ah} {DT:Int},gT gB fZ=some (xP,DT)→∀ {τ:List aS} {Q:dN→List aS→Prop} (h:Q (.ret (.tuple [.agg (aF xP),iP DT])) τ),PC 205 [.agg (aR gB),.list (List.map aB.cells fZ)] τ Q
theorem aal(fJ)(vX:IB fJ)(iB)(zR:Di iB)(gT)(xH:Bg gT)(e1:aj)(bX:List aB){r0:ah}{r1:Int}(hf:Hq fJ iB gT e1 bX=some (r0,r1))(h:Q (.ret (.tuple [.agg (aF r0),iP r1])) τ):PC 78 [.agg (aR e1),.list (List.map aB.cells bX)] τ Q:=by
 unfold Hq at hf;refine BN 118 [.cell 4 34,.tmp 5] [0,1] Tryz.func78 Z Z Z Z Z (W 1 Z (AS Z (AO.bM Z oW (fun b4=>?_))));refine Rv0 1 Z (CU ([(1,.list (List.map aB.cells bX)),(2,.ref (aR e1)),(4,pP b4)]) ([.box b4 [iP 0,.bool false,iP 0,.str ([]:Str),.own (.slice none 0 0) [],.own (.slice none 0 0) []]]) (Bz fJ e1 bX=some (r0,r1)) ?_ ?_)
 ·refine V 4 Z (C hf Z (fun h1 hf=>?_) fun h1 hf=>?_)
  ·cases hf;exact Wx 4 [0] Z Z (ZC [0] Z Z h)
  refine V 4 Z (C hf Z (fun h2 hf=>?_) fun h2 hf=>?_)
  ·refine V 1 Z (LK1 (fun i1=>[(1,.list (List.map aB.cells bX)),(2,.ref (aR e1)),(4,pP b4),(6,iP i1)]) (fun i1=>[.box b4 [iP 0,.bool false,iP 0,.str ([]:Str),.own (.slice none 0 0) [],.own (.slice none 0 0) []]]) (fun dW i1=>yF e1 bX dW i1=some (r0,r1)) BIG 0 Z Z hf (fun _ hz=>kI hz) ?_);intro dW i1 hf;rw[yF]at hf;refine W 2 Z (AS Z (AO.fQ (l:=bX) Z Z Z Z wB Z Z (J 1 Z (C hf Z (fun h3 hf=>?_) fun h3 hf=>?_))))
   ·refine V 0 Z (AW.draw 8 mixed (by kernel_rfl) Z ?_);refine Ev.cs iy 2 Z ?_;refine B1 hf fun e2 h4 hf=>Ev.cons Z Z Z (AO.dV h4 Z Z Z Z wB (aB.aT _) Z zg) (Ev.cs iy 5 Z (Ev.nil ?_));show AR _ _ _ _ _ _ _ _;refine J 0 Z (C hf Z (fun h5 hf=>?_) fun h5 hf=>?_)
    ·refine B1 hf fun e3 h6 hf=>W 2 Z (AS Z (AO.dV h6 Z Z Z Z wB (aB.aT _) Z ?_));cases hf;exact Rx 4 [0] Z Z (ZC [0] Z Z h)
    exact M 3 Z ⟨(bq (i1+1)),Z,Z,Z,hf⟩
   cases hf;exact Wx 3 [0] Z Z (ZC [0] Z Z h)
  refine V 4 Z (C hf Z (fun h7 hf=>?_) fun h7 hf=>?_)
  ·refine V 0 Z (AW.cond Z (fun h8=>?_) (fun h8=>?_))
   ·replace hf:=(DC _).trans hf;obtain⟨x1,x2,h9,hf⟩:=gL hf;refine W 2 Z (CL Z (zR _ _ h9 ?_));cases hf;exact Rx 4 [0] Z Z (ZC [0] Z Z h)
   cases h7.symm.trans h8
  refine W 4 Z (AR.and 9 48 57 [1,2,4,41] (x:=((e1.name==([38,38]:Str))||(e1.name==([124,124]:Str)))) Z Z (fun h10=>?_) (fun h10=>?_) ?_)
  ·refine Is 48 h10 Z (U 4 Z (On 4 52 56 [1,2,4,41,48] (e1.name==([124,124]:Str)) Z Z Z Z ?_));exact uG 1 Z (En [57,1,2,4,41] Z)
  ·refine Is 48 h10 Z ?_;exact uG 9 Z (En [57,1,2,4,41] Z)
  refine J 1 Z (C hf Z (fun h12 hf=>?_) fun h12 hf=>?_)
  ·replace hf:=(DC _).trans hf;obtain⟨x3,x4,KY,hf⟩:=gL hf;refine W 2 Z (CL Z (zR _ _ KY ?_));cases hf;exact Rx 4 [0] Z Z (ZC [0] Z Z h)
  refine B1 hf fun b1 LX hf=>W 4 Z (AR.tu 5 67 72 true [1,2,4] b1 Z Z (fun I6=>?_) (fun I6=>?_) ?_)
  ·refine IT 67 I6 LX Z fun LX=>?_;refine B1 LX fun x5 h16 LX=>U 2 Z (GO Z (AO.call Z _ Z Z agl ((TI _).h h16 ?_)));cases LX;exact uG 2 Z (En [72,1,2,4] Z)
  ·refine IF 67 I6 LX Z fun LX=>?_;cases LX;exact uG 5 Z (En [72,1,2,4] Z)
  refine J 1 Z (C hf Z (fun h17 hf=>?_) fun h17 hf=>?_)
  ·cases hf;exact Wx 3 [0] Z Z (ZC [0] Z Z h)
  refine V 0 Z (AW.draw 13 mixed (by kernel_rfl) Z ?_);refine Ev.cs iy 4 Z ?_;refine B1 hf fun b2 h19 hf=>Ev.tu hKA 8 78 86 true [1,2,4] (.bool b2) Z Z (fun h18=>?_) (fun h18=>?_) ?_
  ·replace h19:=kX h18 h19;refine Ev.is hKL 78 h18 Z (Ev.cs iy 2 Z ?_);refine B1 h19 fun x6 h20 h19=>Ev.run Z Z Z Z Z Z Z (AO.call Z _ Z Z agl ((TI _).h h20 zg)) (Ev.cs iy 2 Z (Ev.run Z Z Z Z Z Z Z (AO.fQ (l:=e1.args) Z Z Z Z qI Z (aj.bI _) zg) (Ev.cs iy 1 Z ?_)));cases h19;refine Ev.cs iy 1 Z ?_;exact Ev.nil (Less.settle (ps:=[86,1,2,4]) Z)
  ·replace h19:=kE h18 h19;refine Ev.is hKL 78 h18 Z ?_;cases h19;refine Ev.cs iy 8 Z ?_;exact Ev.nil (Less.settle (ps:=[86,1,2,4]) Z)
  refine Ev.cs iy 1 Z (Ev.nil ?_);show AR _ _ _ _ _ _ _ _;refine J 0 Z (C hf Z (fun h21 hf=>?_) fun h21 hf=>?_)
  ·cases hf;exact Wx 3 [0] Z Z (ZC [0] Z Z h)
  exact M 0 Z ⟨Z,Z,Z,hf⟩
 intro  hf;unfold Bz at hf;refine Xw0 2 Z (AW.row 6 34 (LK3 (fun l1 v1 i2=>[(1,.list (List.map aB.cells bX)),(2,.ref (aR e1)),(4,pP b4),(7,.own v1 (ah.bP l1)),(8,iP i2)]) (fun l1 v1 i2=>[.row v1 (ah.bP l1).length 6 34,.box b4 [iP 0,.bool false,iP 0,.str ([]:Str),.own (.slice none 0 0) [],.own (.slice none 0 0) []]]) (fun Xf l1 v1 i2=>Bw fJ e1 bX Xf l1 i2=some (r0,r1)) BIG [] (.slice none 0 0) 0 Z Z hf (fun _ _ _ hz=>kI hz) ?_));intro Xf l1 v1 i2 hf;rw[Bw]at hf;refine W 3 Z (AS Z (AO.fQ (l:=e1.args) Z Z Z Z qI Z (aj.bI _) (J 1 Z (C hf Z (fun h22 hf=>?_) fun h22 hf=>?_))))
 ·refine B1 hf fun e4 h23 hf=>W 3 Z (AS Z (AO.dV h23 Z Z (aj.bI _) Z qI (aj.aT _) Z ?_));obtain⟨x7,f1,Zd,hf⟩:=gL hf;refine U 2 Z (CL Z (vX _ _ Zd (U 3 Z (AS Z (AO.bM Z oW (fun b9=>(Rw 4 [0] Z Z (C hf Z (fun h25 hf=>?_) fun h25 hf=>?_))))))))
  ·cases hf;exact Wx 4 [2] Z Z (ZC [2] Z Z h)
  refine Wr 2 [0] rfl rfl (AS rfl (AO.fu (ah.bP [x7]) rfl Pq rfl rfl rfl (by first|rfl|simp only[ah.aT,ah.bP]) ?_));refine B1 hf fun l2 h26 hf=>AS Z (AO.sO (i:=1) (l:=l1) (m:=[x7]) h26 Z Z Z Z Z Z Z Pq IK (ah.bI _) (ah.bI _) (ah.bI _).symm (ah.dL) (ah.cells_one) (by decide) (fun v2 s1 hs1=>?_));cases hs1;refine uG 4 Z (AR.drop1 ?_);exact N 0 Z ⟨l2,v2,(bq (i2+1)),Z,Z,Z,hf⟩
 replace hf:=(DC _).trans hf;obtain⟨x8,x9,h27,hf⟩:=gL hf;refine W 2 Z (CL Z ((abz _ _).h h27 ?_));cases hf;exact Rx 4 [1] Z Z (ZC [1] Z Z h)
theorem Wn(fJ)(vX:IB fJ)(iB)(zR:Di iB)(gT)(xH:Bg gT)(e1:aj)(bX:List aB){r0:ah}{r1:Int}(hf:vN fJ iB gT e1 bX=some (r0,r1))(h:Q (.ret (.tuple [.agg (aF r0),iP r1])) τ):PC 129 [.agg (aR e1),.list (List.map aB.cells bX)] τ Q:=by
 unfold vN at hf;refine BN 57 [.cell 4 34,.tmp 5] [0,1] Tryz.func129 Z Z Z Z Z (W 1 Z (AS Z (AO.bM Z oW (fun b4=>?_))));refine B1 hf fun e2 h1 hf=>U 3 Z (AS Z (AO.dV h1 Z Z (aj.bI _) Z qI (aj.aT _) Z ?_));obtain⟨x1,f1,h2,hf⟩:=gL hf;refine U 2 Z (CL Z (xH _ _ h2 (U 3 Z (AS Z (AO.bM Z oW (fun b6=>(Rw 4 [0] Z Z (C hf Z (fun h3 hf=>?_) fun h3 hf=>?_))))))))
 ·cases hf;exact Wx 4 [1] Z Z (ZC [1] Z Z h)
 refine V 3 Z (C hf Z (fun h4 hf=>?_) fun h4 hf=>?_)
 ·refine Ww 2 [0] Z Z (C hf Z (fun h5 hf=>?_) fun h5 hf=>?_)
  ·refine B1 hf fun e3 h6 hf=>W 2 Z (AS Z (AO.dV h6 Z Z (aj.bI _) Z qI (aj.aT _) Z ?_));replace hf:=(DC _).trans hf;obtain⟨x2,x3,h7,hf⟩:=gL hf;refine U 2 Z (CL Z (vX _ _ h7 ?_));cases hf;exact Rx 4 [1] Z Z (ZC [1] Z Z h)
  refine B1 hf fun e4 h8 hf=>W 2 Z (AS Z (AO.dV h8 Z Z (aj.bI _) Z qI (aj.aT _) Z ?_));replace hf:=(DC _).trans hf;obtain⟨x4,x5,h9,hf⟩:=gL hf;refine U 2 Z (CL Z (vX _ _ h9 ?_));cases hf;exact Rx 4 [1] Z Z (ZC [1] Z Z h)
 refine Wr 5 [0] Z Z (AS Z (AO.Tq Z ai_ Z Z (J 0 Z (C hf Z (fun h10 hf=>?_) fun h10 hf=>?_))))
 ·cases hf;exact Wx 3 [0,1] Z Z (ZC [1] Z Z h)
 refine B1 hf fun e5 h11 hf=>W 2 Z (AS Z (AO.dV h11 Z Z (aj.bI _) Z qI (aj.aT _) Z ?_));replace hf:=(DC _).trans hf;obtain⟨x6,x7,h12,hf⟩:=gL hf;refine U 2 Z (CL Z (xH _ _ h12 ?_));cases hf;exact Rx 4 [1] Z Z (ZC [1] Z Z h)
theorem Ui(fJ)(vX:IB fJ)(iB)(zR:Di iB)(gT)(xH:Bg gT)(e1:aj)(bX:List aB){r0:ah}{r1:Int}(hf:wQ fJ iB gT e1 bX=some (r0,r1))(h:Q (.ret (.tuple [.agg (aF r0),iP r1])) τ):PC 205 [.agg (aR e1),.list (List.map aB.cells bX)] τ Q:=by
 unfold wQ at hf;refine BN 24 [.cell 4 34,.tmp 5] [0,1] Tryz.func205 Z Z Z Z Z (W 1 Z (AS Z (AO.bM Z oW (fun b4=>?_))));obtain⟨x1,f1,h1,hf⟩:=gL hf;refine U 3 Z (CL Z (vX _ _ h1 (U 3 Z (AS Z (AO.bM Z oW (fun b6=>(Rr 5 [0] Z Z (AR.and 4 16 20 [4,6,7] (x:=(x1.kind !=1)) Z Z (fun h2=>?_) (fun h2=>?_) ?_))))))))
 ·refine Is 16 h2 Z (U 1 Z (GO Z (AO.dX (i:=0) Z Z Z He Z Z ?_)));exact uG 2 Z (En [20,4,6,7] Z)
 ·refine Is 16 h2 Z ?_;exact uG 4 Z (En [20,4,6,7] Z)
 refine J 0 Z (C hf Z (fun h3 hf=>?_) fun h3 hf=>?_)
 ·cases hf;exact Wx 3 [1] Z Z (ZC [1] Z Z h)
 cases hf;exact Wx 4 [0,1] Z Z (ZC [1] Z Z h)
theorem LQ:∀k:Nat,(IB (jC k))∧(Di (lD k))∧(Bg (ku k)):=by
 intro k
 induction k with
 | zero=>exact⟨fun _ _ _ _ hz=>by first|cases hz|(unfold jC at hz;cases hz),fun _ _ _ _ hz=>by first|cases hz|(unfold lD at hz;cases hz),fun _ _ _ _ hz=>by first|cases hz|(unfold ku at hz;cases hz)⟩
 | succ k ih=>exact⟨fun gB fZ xP DT hz τ Q hq=>aal (jC k) ih.1 (lD k) ih.2.1 (ku k) ih.2.2 gB fZ hz hq,fun gB fZ xP DT hz τ Q hq=>Wn (jC k) ih.1 (lD k) ih.2.1 (ku k) ih.2.2 gB fZ hz hq,fun gB fZ xP DT hz τ Q hq=>Ui (jC k) ih.1 (lD k) ih.2.1 (ku k) ih.2.2 gB fZ hz hq⟩
instance anu(gB:aj)(fZ:List aB):CT Tryz.prog (YJ gB fZ) (fun r=>.ret (.tuple [.agg (aF r.1),iP r.2])) 78 [.agg (aR gB),.list (List.map aB.cells fZ)]:=⟨zP rfl,fun {r} hf {τ Q} h=>((LQ BIG).1) gB fZ hf h⟩
instance akD(gB:aj)(fZ:List aB):CT Tryz.prog (aaG gB fZ) (fun r=>.ret (.tuple [.agg (aF r.1),iP r.2])) 129 [.agg (aR gB),.list (List.map aB.cells fZ)]:=⟨zP rfl,fun {r} hf {τ Q} h=>((LQ BIG).2.1) gB fZ hf h⟩
instance aiE(gB:aj)(fZ:List aB):CT Tryz.prog (YK gB fZ) (fun r=>.ret (.tuple [.agg (aF r.1),iP r.2])) 205 [.agg (aR gB),.list (List.map aB.cells fZ)]:=⟨zP rfl,fun {r} hf {τ Q} h=>((LQ BIG).2.2) gB fZ hf h⟩
instance anv(e1:aj)(bX:List aB):CT Tryz.prog (Ga e1 bX) (fun r=>.ret (.tuple [.agg (aF r.1),iP r.2])) 44 [.agg (aR e1),.list (List.map aB.cells bX)]:=by
  unfold Ga;exact Z1 ⟨25,[],[]⟩ Z Tryz.func44 Z Z Z Z
instance (bX :List aB) (l1:List aO) (n_ fF mM):LE (oH bX l1 n_ fF mM) (fun j p=>oH bX l1 j p.1 p.2) n_ (fF,mM) [] [] [] [1,6] (fun v w p=>[(10,.str p.1),(11,iP p.2)]) (fun v w p s=>s):=⟨Z⟩
instance akB(s1:Str)(bX:List aB):CT Tryz.prog (D6 s1 bX) (fun r=>.ret (.tuple [.str r.1,iP r.2])) 18 [.str s1,.list (List.map aB.cells bX)]:=by
  unfold D6;exact Z1 ⟨76,[],[]⟩ Z Tryz.func18 Z Z Z Z
section
variable [Dj]
instance aad(s1:Str)(bX:List aB):CT Tryz.prog (qo s1 bX) (fun r=>.ret (.bool r)) 5 [.str s1,.list (List.map aB.cells bX)]:=by
  unfold qo;exact Z1 ⟨41,[],[]⟩ Z Tryz.func5 Z Z Z Z
theorem KZ(s1:Str)(bX:List aB){r0:Bool}(hf:qo s1 bX=some r0){τ:List aS}{Q:dN→List aS→Prop}(h:Q (.ret (.bool r0)) τ):AC Tryz.prog 5 [.str s1,.list (List.map aB.cells bX)] τ Q:=CT.h hf h
end
end Go.Proofs.YtpbjbkhfpjckoaaGreatDoor
