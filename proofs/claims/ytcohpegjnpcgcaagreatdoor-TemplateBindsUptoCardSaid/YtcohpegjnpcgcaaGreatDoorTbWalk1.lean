/- Proved here: each function does what its functional text says (part 1). -/
import Derived.Test.YtcohpegjnpcgcaaGreatDoorTbA3
import Derived.Test.YtcohpegjnpcgcaaGreatDoorTbPre1
import Derived.Test.YtcohpegjnpcgcaaGreatDoorTbFt1
import Derived.Test.YtcohpegjnpcgcaaGreatDoorTbPool1
import Derived.Test.YtcohpegjnpcgcaaGreatDoorProg
import Derived.KernelRfl
set_option linter.unusedVariables false
set_option linter.unusedSimpArgs false
set_option linter.unusedSectionVars false
namespace Go.Ft
open Go Go.Abs
mutual
def ah.cells :ah→List PV
  | ⟨a0,a1,a2,a3,a4,a5⟩=>[.int .i64 a0,.bool a1,.int .i64 a2,.str a3,.list (ah.aN a4),.list (List.map mo a5)]
def ah.aN :List ah→List (List PV)
  | []=>[]
  | x :: xs=>ah.cells x :: ah.aN xs
end
theorem ah.aG (x:ah):ah.cells x=[.int .i64 x.kind,.bool x.iD,.int .i64 x.iC,.str x.gW,.list (ah.aN x.bH),.list (List.map mo x.keys)]:=by cases x; rfl
theorem ah.aC :∀ l:List ah,ah.aN l=l.map ah.cells
  | []=>rfl
  | _ :: l=>congrArg _ (ah.aC l)
def ah.Uf (l:List ah):List PV:=[.list (ah.aN l)]
theorem ah.bE (x:ah):(ah.cells x).length=6:=by rw [ah.aG]; rfl
theorem ah.cells_one (x:ah):(ah.cells x).all PV.one=true:=by rw [ah.aG]; rfl
mutual
def aj.cells :aj→List PV
  | ⟨a0,a1,a2,a3,a4⟩=>[.int .i64 a0,.str a1,.int .i64 a2.kind,.bool a2.iD,.int .i64 a2.iC,.str a2.gW,.list (ah.aN a2.bH),.list (List.map mo a2.keys),.list (aj.aN a3),.list (List.map mo a4)]
def aj.aN :List aj→List (List PV)
  | []=>[]
  | x :: xs=>aj.cells x :: aj.aN xs
end
theorem aj.aG (x:aj):aj.cells x=[.int .i64 x.kind,.str x.name,.int .i64 x.value.kind,.bool x.value.iD,.int .i64 x.value.iC,.str x.value.gW,.list (ah.aN x.value.bH),.list (List.map mo x.value.keys),.list (aj.aN x.args),.list (List.map mo x.keys)]:=by cases x; rfl
theorem aj.aC :∀ l:List aj,aj.aN l=l.map aj.cells
  | []=>rfl
  | _ :: l=>congrArg _ (aj.aC l)
def aj.Uf (l:List aj):List PV:=[.list (aj.aN l)]
theorem aj.bE (x:aj):(aj.cells x).length=10:=by rw [aj.aG]; rfl
theorem aj.cells_one (x:aj):(aj.cells x).all PV.one=true:=by rw [aj.aG]; rfl
@[reducible] def aS.cells (x:aS):List PV:=[.str x.name,.int .i64 x.expr.kind,.str x.expr.name,.int .i64 x.expr.value.kind,.bool x.expr.value.iD,.int .i64 x.expr.value.iC,.str x.expr.value.gW,.list (ah.aN x.expr.value.bH),.list (List.map mo x.expr.value.keys),.list (aj.aN x.expr.args),.list (List.map mo x.expr.keys)]
theorem aS.aG (x:aS):aS.cells x=[.str x.name,.int .i64 x.expr.kind,.str x.expr.name,.int .i64 x.expr.value.kind,.bool x.expr.value.iD,.int .i64 x.expr.value.iC,.str x.expr.value.gW,.list (ah.aN x.expr.value.bH),.list (List.map mo x.expr.value.keys),.list (aj.aN x.expr.args),.list (List.map mo x.expr.keys)]:=rfl
theorem aS.bE (x:aS):(aS.cells x).length=11:=by rw [aS.aG]; rfl
theorem aS.cells_one (x:aS):(aS.cells x).all PV.one=true:=by rw [aS.aG]; rfl
mutual
def au.cells :au→List PV
  | ⟨a0,a1,a2,a3⟩=>[.str a0,.str a1,.list (List.map aS.cells a2),.list (au.aN a3)]
def au.aN :List au→List (List PV)
  | []=>[]
  | x :: xs=>au.cells x :: au.aN xs
end
theorem au.aG (x:au):au.cells x=[.str x.kind,.str x.name,.list (List.map aS.cells x.attrs),.list (au.aN x.blocks)]:=by cases x; rfl
theorem au.aC :∀ l:List au,au.aN l=l.map au.cells
  | []=>rfl
  | _ :: l=>congrArg _ (au.aC l)
def au.Uf (l:List au):List PV:=[.list (au.aN l)]
theorem au.bE (x:au):(au.cells x).length=4:=by rw [au.aG]; rfl
theorem au.cells_one (x:au):(au.cells x).all PV.one=true:=by rw [au.aG]; rfl
@[reducible] def dY.cells (x:dY):List PV:=[.list (au.aN x.blocks)]
theorem dY.aG (x:dY):dY.cells x=[.list (au.aN x.blocks)]:=rfl
theorem dY.bE (x:dY):(dY.cells x).length=1:=by rw [dY.aG]; rfl
theorem dY.cells_one (x:dY):(dY.cells x).all PV.one=true:=by rw [dY.aG]; rfl
@[reducible] def aA.cells (x:aA):List PV:=[.str x.name,.int .i64 x.value.kind,.bool x.value.iD,.int .i64 x.value.iC,.str x.value.gW,.list (ah.aN x.value.bH),.list (List.map mo x.value.keys)]
theorem aA.aG (x:aA):aA.cells x=[.str x.name,.int .i64 x.value.kind,.bool x.value.iD,.int .i64 x.value.iC,.str x.value.gW,.list (ah.aN x.value.bH),.list (List.map mo x.value.keys)]:=rfl
theorem aA.bE (x:aA):(aA.cells x).length=7:=by rw [aA.aG]; rfl
theorem aA.cells_one (x:aA):(aA.cells x).all PV.one=true:=by rw [aA.aG]; rfl
mutual
def aD.cells :aD→List PV
  | ⟨a0,a1⟩=>[.int .i64 a0,.list (aD.aN a1)]
def aD.aN :List aD→List (List PV)
  | []=>[]
  | x :: xs=>aD.cells x :: aD.aN xs
end
theorem aD.aG (x:aD):aD.cells x=[.int .i64 x.kind,.list (aD.aN x.elem)]:=by cases x; rfl
theorem aD.aC :∀ l:List aD,aD.aN l=l.map aD.cells
  | []=>rfl
  | _ :: l=>congrArg _ (aD.aC l)
def aD.Uf (l:List aD):List PV:=[.list (aD.aN l)]
theorem aD.bE (x:aD):(aD.cells x).length=2:=by rw [aD.aG]; rfl
theorem aD.cells_one (x:aD):(aD.cells x).all PV.one=true:=by rw [aD.aG]; rfl
@[reducible] def aI.cells (x:aI):List PV:=[.int .i64 x.code]
theorem aI.aG (x:aI):aI.cells x=[.int .i64 x.code]:=rfl
theorem aI.bE (x:aI):(aI.cells x).length=1:=by rw [aI.aG]; rfl
theorem aI.cells_one (x:aI):(aI.cells x).all PV.one=true:=by rw [aI.aG]; rfl
@[reducible] def jC.cells (x:jC):List PV:=[.int .u64 ((x.half.getD 0 0).toNat:Int),.int .u64 ((x.half.getD 1 0).toNat:Int),.bool x.neg]
theorem jC.aG (x:jC):jC.cells x=[.int .u64 ((x.half.getD 0 0).toNat:Int),.int .u64 ((x.half.getD 1 0).toNat:Int),.bool x.neg]:=rfl
theorem jC.bE (x:jC):(jC.cells x).length=3:=by rw [jC.aG]; rfl
theorem jC.cells_one (x:jC):(jC.cells x).all PV.one=true:=by rw [jC.aG]; rfl
@[reducible] def aQ.cells (x:aQ):List PV:=[.str x.name,.int .i64 x.Gs.kind,.list (aD.aN x.Gs.elem),.bool x.has,.int .i64 x.default.kind,.bool x.default.iD,.int .i64 x.default.iC,.str x.default.gW,.list (ah.aN x.default.bH),.list (List.map mo x.default.keys)]
theorem aQ.aG (x:aQ):aQ.cells x=[.str x.name,.int .i64 x.Gs.kind,.list (aD.aN x.Gs.elem),.bool x.has,.int .i64 x.default.kind,.bool x.default.iD,.int .i64 x.default.iC,.str x.default.gW,.list (ah.aN x.default.bH),.list (List.map mo x.default.keys)]:=rfl
theorem aQ.bE (x:aQ):(aQ.cells x).length=10:=by rw [aQ.aG]; rfl
theorem aQ.cells_one (x:aQ):(aQ.cells x).all PV.one=true:=by rw [aQ.aG]; rfl
@[reducible] def bK.cells (x:bK):List PV:=[.str x.name,.list (List.map aQ.cells x.params),.str x.body.kind,.str x.body.name,.list (List.map aS.cells x.body.attrs),.list (au.aN x.body.blocks)]
theorem bK.aG (x:bK):bK.cells x=[.str x.name,.list (List.map aQ.cells x.params),.str x.body.kind,.str x.body.name,.list (List.map aS.cells x.body.attrs),.list (au.aN x.body.blocks)]:=rfl
theorem bK.bE (x:bK):(bK.cells x).length=6:=by rw [bK.aG]; rfl
theorem bK.cells_one (x:bK):(bK.cells x).all PV.one=true:=by rw [bK.aG]; rfl
@[reducible] def aZ.cells (x:aZ):List PV:=[.int .i64 x.kind,.str x.text,.int .i64 x.at_]
theorem aZ.aG (x:aZ):aZ.cells x=[.int .i64 x.kind,.str x.text,.int .i64 x.at_]:=rfl
theorem aZ.bE (x:aZ):(aZ.cells x).length=3:=by rw [aZ.aG]; rfl
theorem aZ.cells_one (x:aZ):(aZ.cells x).all PV.one=true:=by rw [aZ.aG]; rfl
@[reducible] def ak.cells (x:ak):List PV:=[.list (List.map aZ.cells x.ts),.int .i64 x.at_]
theorem ak.aG (x:ak):ak.cells x=[.list (List.map aZ.cells x.ts),.int .i64 x.at_]:=rfl
theorem ak.bE (x:ak):(ak.cells x).length=2:=by rw [ak.aG]; rfl
theorem ak.cells_one (x:ak):(ak.cells x).all PV.one=true:=by rw [ak.aG]; rfl
@[reducible] def aB.cells (x:aB):List PV:=[.int .i64 x.at_,.int .i64 x.code]
theorem aB.aG (x:aB):aB.cells x=[.int .i64 x.at_,.int .i64 x.code]:=rfl
theorem aB.bE (x:aB):(aB.cells x).length=2:=by rw [aB.aG]; rfl
theorem aB.cells_one (x:aB):(aB.cells x).all PV.one=true:=by rw [aB.aG]; rfl
@[reducible] def bf.cells (x:bf):List PV:=[.str x.text,.bool x.is_,.int .i64 x.expr.kind,.str x.expr.name,.int .i64 x.expr.value.kind,.bool x.expr.value.iD,.int .i64 x.expr.value.iC,.str x.expr.value.gW,.list (ah.aN x.expr.value.bH),.list (List.map mo x.expr.value.keys),.list (aj.aN x.expr.args),.list (List.map mo x.expr.keys)]
theorem bf.aG (x:bf):bf.cells x=[.str x.text,.bool x.is_,.int .i64 x.expr.kind,.str x.expr.name,.int .i64 x.expr.value.kind,.bool x.expr.value.iD,.int .i64 x.expr.value.iC,.str x.expr.value.gW,.list (ah.aN x.expr.value.bH),.list (List.map mo x.expr.value.keys),.list (aj.aN x.expr.args),.list (List.map mo x.expr.keys)]:=rfl
theorem bf.bE (x:bf):(bf.cells x).length=12:=by rw [bf.aG]; rfl
theorem bf.cells_one (x:bf):(bf.cells x).all PV.one=true:=by rw [bf.aG]; rfl
@[reducible] def aJ.cells (x:aJ):List PV:=[.list (List.map bK.cells x.templates),.list (List.map aA.cells x.env),.int .i64 x.uses]
theorem aJ.aG (x:aJ):aJ.cells x=[.list (List.map bK.cells x.templates),.list (List.map aA.cells x.env),.int .i64 x.uses]:=rfl
theorem aJ.bE (x:aJ):(aJ.cells x).length=3:=by rw [aJ.aG]; rfl
theorem aJ.cells_one (x:aJ):(aJ.cells x).all PV.one=true:=by rw [aJ.aG]; rfl
end Go.Ft
namespace Go.Proofs.YtcohpegjnpcgcaaGreatDoor
open Go Go.Abs Go.Ft
set_option maxRecDepth 20000
attribute [local irreducible] AO AR AW AC
class zq [iH]:Prop where
  hD:¬ iH.D
  max:∀ (w:World) (m:jN),iH.G w m→∃ n:Int,w.cell? ⟨0,0,none⟩=some (.int .i64 n)
  pow:∀ (w:World) (m:jN),iH.G w m→Lib.TabIs Tryz.prog w "internal/strconv.uint64pow10" .u64 Lib.pow10Tab
  syn:∀ (w:World) (m:jN),iH.G w m→∃ ev,w.cell? ⟨6,0,none⟩=some ev∧(ev=.nilIface∨∃ te pe,ev=.iface te pe)
  rng:∀ (w:World) (m:jN),iH.G w m→∃ ev,w.cell? ⟨7,0,none⟩=some ev∧(ev=.nilIface∨∃ te pe,ev=.iface te pe)
variable [iH]
theorem agi (w:World):(isAgg 54).run Tryz.prog w=.ok true w:=by kernel_rfl
theorem aaZ :z_ Tryz.prog 197=some (8,1):=by kernel_rfl
theorem KZ :z_ Tryz.prog 281=some (2,1):=by kernel_rfl
theorem aek :Tryz.prog.cellsOf 252=1:=by kernel_rfl
theorem aej :Tryz.prog.cellsOf 281=2:=by kernel_rfl
theorem agc :Tryz.prog.cellsOf 5=1:=by kernel_rfl
theorem aeh :Tryz.prog.eqGuardType Tryz.prog.depth 281=false:=by kernel_rfl
theorem aaL :elemSize Tryz.prog 151=some 7:=by kernel_rfl
theorem Es :elemSize Tryz.prog 177=some 1:=by kernel_rfl
theorem CY :elemSize Tryz.prog 184=some 12:=by kernel_rfl
theorem Bv :elemSize Tryz.prog 22=some 10:=by kernel_rfl
theorem lu :elemSize Tryz.prog 23=some 7:=by kernel_rfl
theorem yV :elemSize Tryz.prog 237=some 3:=by kernel_rfl
theorem mM :elemSize Tryz.prog 32=some 4:=by kernel_rfl
theorem sF :elemSize Tryz.prog 36=some 11:=by kernel_rfl
theorem gK :elemSize Tryz.prog 39=some 6:=by kernel_rfl
theorem iY :elemSize Tryz.prog 40=some 1:=by kernel_rfl
theorem je :elemSize Tryz.prog 43=some 10:=by kernel_rfl
theorem CX :elemSize Tryz.prog 59=some 2:=by kernel_rfl
theorem NH :elemSize Tryz.prog 73=some 1:=by kernel_rfl
theorem Vv :elemSize Tryz.prog 74=some 6:=by kernel_rfl
theorem yP :wH Tryz.prog 167 0=some 0:=by kernel_rfl
theorem qU :wH Tryz.prog 167 1=some 1:=by kernel_rfl
theorem L9 :wH Tryz.prog 209 0=some 0:=by kernel_rfl
theorem EW :wH Tryz.prog 209 1=some 1:=by kernel_rfl
theorem aaB :Tryz.prog.underlying 169=some (.interface (Tryz.prog.methodsAt 169)):=by kernel_rfl
theorem inB :∃ j,Tryz.prog.info? 167=some j∧(j.size != 0)=true:=sized (n:=2) (by kernel_rfl) rfl
theorem afH :liesAt Tryz.prog Tryz.prog.depth 167 (2 / Tryz.prog.cellsOf 167) 0 167 1=true:=by kernel_rfl
theorem afG :liesAt Tryz.prog Tryz.prog.depth 209 (3 / Tryz.prog.cellsOf 209) 1 167 1=true:=by kernel_rfl
theorem mixed :Tryz.prog.follows .mixedOrders=true:=by kernel_rfl
theorem FQ :Tryz.prog.underlying 131=some (.map 9 3):=by kernel_rfl
theorem ad1 :concrete Tryz.prog 181=true:=by kernel_rfl
theorem adZ :concrete Tryz.prog 292=true:=by kernel_rfl
theorem aan :aV Tryz.prog 100=true:=by kernel_rfl
theorem aam :aV Tryz.prog 104=true:=by kernel_rfl
theorem adS :aV Tryz.prog 105=true:=by kernel_rfl
theorem adR :aV Tryz.prog 106=true:=by kernel_rfl
theorem adQ :aV Tryz.prog 107=true:=by kernel_rfl
theorem adP :aV Tryz.prog 108=true:=by kernel_rfl
theorem aal :aV Tryz.prog 109=true:=by kernel_rfl
theorem afC :aV Tryz.prog 11=true:=by kernel_rfl
theorem adO :aV Tryz.prog 110=true:=by kernel_rfl
theorem adN :aV Tryz.prog 113=true:=by kernel_rfl
theorem adM :aV Tryz.prog 114=true:=by kernel_rfl
theorem adL :aV Tryz.prog 117=true:=by kernel_rfl
theorem adK :aV Tryz.prog 120=true:=by kernel_rfl
theorem adJ :aV Tryz.prog 123=true:=by kernel_rfl
theorem aak :aV Tryz.prog 124=true:=by kernel_rfl
theorem adI :aV Tryz.prog 126=true:=by kernel_rfl
theorem afB :aV Tryz.prog 13=true:=by kernel_rfl
theorem adH :aV Tryz.prog 130=true:=by kernel_rfl
theorem adG :aV Tryz.prog 131=true:=by kernel_rfl
theorem adF :aV Tryz.prog 132=true:=by kernel_rfl
theorem adE :aV Tryz.prog 133=true:=by kernel_rfl
theorem adD :aV Tryz.prog 134=true:=by kernel_rfl
theorem adC :aV Tryz.prog 135=true:=by kernel_rfl
theorem adB :aV Tryz.prog 138=true:=by kernel_rfl
theorem aaj :aV Tryz.prog 139=true:=by kernel_rfl
theorem aai :aV Tryz.prog 140=true:=by kernel_rfl
theorem adA :aV Tryz.prog 142=true:=by kernel_rfl
theorem adz :aV Tryz.prog 144=true:=by kernel_rfl
theorem WB :aV Tryz.prog 145=true:=by kernel_rfl
theorem ady :aV Tryz.prog 146=true:=by kernel_rfl
theorem adx :aV Tryz.prog 148=true:=by kernel_rfl
theorem adw :aV Tryz.prog 149=true:=by kernel_rfl
theorem afA :aV Tryz.prog 15=true:=by kernel_rfl
theorem Ie :aV Tryz.prog 150=true:=by kernel_rfl
theorem aah :aV Tryz.prog 151=true:=by kernel_rfl
theorem adv :aV Tryz.prog 152=true:=by kernel_rfl
theorem aag :aV Tryz.prog 153=true:=by kernel_rfl
theorem adu :aV Tryz.prog 154=true:=by kernel_rfl
theorem adt :aV Tryz.prog 156=true:=by kernel_rfl
theorem ads :aV Tryz.prog 162=true:=by kernel_rfl
theorem adr :aV Tryz.prog 163=true:=by kernel_rfl
theorem WA :aV Tryz.prog 166=true:=by kernel_rfl
theorem adq :aV Tryz.prog 168=true:=by kernel_rfl
theorem aaf :aV Tryz.prog 173=true:=by kernel_rfl
theorem aae :aV Tryz.prog 178=true:=by kernel_rfl
theorem adp :aV Tryz.prog 179=true:=by kernel_rfl
theorem aad :aV Tryz.prog 183=true:=by kernel_rfl
theorem ado :aV Tryz.prog 184=true:=by kernel_rfl
theorem adn :aV Tryz.prog 185=true:=by kernel_rfl
theorem aac :aV Tryz.prog 186=true:=by kernel_rfl
theorem adl :aV Tryz.prog 188=true:=by kernel_rfl
theorem adk :aV Tryz.prog 189=true:=by kernel_rfl
theorem afz :aV Tryz.prog 19=true:=by kernel_rfl
theorem Z_ :aV Tryz.prog 197=true:=by kernel_rfl
theorem afy :aV Tryz.prog 20=true:=by kernel_rfl
theorem MQ :aV Tryz.prog 205=true:=by kernel_rfl
theorem Z9 :aV Tryz.prog 21=true:=by kernel_rfl
theorem afx :aV Tryz.prog 22=true:=by kernel_rfl
theorem Z8 :aV Tryz.prog 221=true:=by kernel_rfl
theorem adj :aV Tryz.prog 224=true:=by kernel_rfl
theorem adi :aV Tryz.prog 229=true:=by kernel_rfl
theorem XT :aV Tryz.prog 23=true:=by kernel_rfl
theorem adh :aV Tryz.prog 230=true:=by kernel_rfl
theorem Z7 :aV Tryz.prog 237=true:=by kernel_rfl
theorem adg :aV Tryz.prog 243=true:=by kernel_rfl
theorem afw :aV Tryz.prog 25=true:=by kernel_rfl
theorem adf :aV Tryz.prog 251=true:=by kernel_rfl
theorem ade :aV Tryz.prog 252=true:=by kernel_rfl
theorem adb :aV Tryz.prog 254=true:=by kernel_rfl
theorem afv :aV Tryz.prog 26=true:=by kernel_rfl
theorem acG :aV Tryz.prog 27=true:=by kernel_rfl
theorem ada :aV Tryz.prog 276=true:=by kernel_rfl
theorem ac_ :aV Tryz.prog 279=true:=by kernel_rfl
theorem Z6 :aV Tryz.prog 281=true:=by kernel_rfl
theorem ac9 :aV Tryz.prog 285=true:=by kernel_rfl
theorem MP :aV Tryz.prog 286=true:=by kernel_rfl
theorem ac8 :aV Tryz.prog 309=true:=by kernel_rfl
theorem ac7 :aV Tryz.prog 312=true:=by kernel_rfl
theorem Z5 :aV Tryz.prog 313=true:=by kernel_rfl
theorem Pv :aV Tryz.prog 328=true:=by kernel_rfl
theorem afu :aV Tryz.prog 34=true:=by kernel_rfl
theorem ac6 :aV Tryz.prog 341=true:=by kernel_rfl
theorem aft :aV Tryz.prog 38=true:=by kernel_rfl
theorem acF :aV Tryz.prog 39=true:=by kernel_rfl
theorem afs :aV Tryz.prog 40=true:=by kernel_rfl
theorem acE :aV Tryz.prog 41=true:=by kernel_rfl
theorem acD :aV Tryz.prog 42=true:=by kernel_rfl
theorem afr :aV Tryz.prog 43=true:=by kernel_rfl
theorem afq :aV Tryz.prog 44=true:=by kernel_rfl
theorem acC :aV Tryz.prog 45=true:=by kernel_rfl
theorem acB :aV Tryz.prog 46=true:=by kernel_rfl
theorem Z4 :aV Tryz.prog 48=true:=by kernel_rfl
theorem afp :aV Tryz.prog 52=true:=by kernel_rfl
theorem afo :aV Tryz.prog 54=true:=by kernel_rfl
theorem afn :aV Tryz.prog 55=true:=by kernel_rfl
theorem afm :aV Tryz.prog 56=true:=by kernel_rfl
theorem afl :aV Tryz.prog 57=true:=by kernel_rfl
theorem acA :aV Tryz.prog 58=true:=by kernel_rfl
theorem agI :aV Tryz.prog 6=true:=by kernel_rfl
theorem Ic :aV Tryz.prog 62=true:=by kernel_rfl
theorem afk :aV Tryz.prog 63=true:=by kernel_rfl
theorem afj :aV Tryz.prog 64=true:=by kernel_rfl
theorem acz :aV Tryz.prog 65=true:=by kernel_rfl
theorem afi :aV Tryz.prog 66=true:=by kernel_rfl
theorem acy :aV Tryz.prog 68=true:=by kernel_rfl
theorem acw :aV Tryz.prog 70=true:=by kernel_rfl
theorem Z0 :aV Tryz.prog 71=true:=by kernel_rfl
theorem afh :aV Tryz.prog 73=true:=by kernel_rfl
theorem acv :aV Tryz.prog 75=true:=by kernel_rfl
theorem afg :aV Tryz.prog 76=true:=by kernel_rfl
theorem ZY :aV Tryz.prog 78=true:=by kernel_rfl
theorem aff :aV Tryz.prog 79=true:=by kernel_rfl
theorem afe :aV Tryz.prog 80=true:=by kernel_rfl
theorem afd :aV Tryz.prog 81=true:=by kernel_rfl
theorem acu :aV Tryz.prog 82=true:=by kernel_rfl
theorem afc :aV Tryz.prog 85=true:=by kernel_rfl
theorem afb :aV Tryz.prog 87=true:=by kernel_rfl
theorem afa :aV Tryz.prog 88=true:=by kernel_rfl
theorem ae_ :aV Tryz.prog 89=true:=by kernel_rfl
theorem ae9 :aV Tryz.prog 91=true:=by kernel_rfl
theorem ae8 :aV Tryz.prog 92=true:=by kernel_rfl
theorem ae7 :aV Tryz.prog 93=true:=by kernel_rfl
theorem acs :aV Tryz.prog 94=true:=by kernel_rfl
theorem acr :aV Tryz.prog 98=true:=by kernel_rfl
theorem Pk :iI Tryz.prog 177 3 1 8:=oC (by kernel_rfl)
theorem Tw :iI Tryz.prog 184 189 12 184:=oC (by kernel_rfl)
theorem ZQ :iI Tryz.prog 22 63 10 144:=oC (by kernel_rfl)
theorem Ai :iI Tryz.prog 23 54 7 104:=oC (by kernel_rfl)
theorem ML :iI Tryz.prog 237 243 3 32:=oC (by kernel_rfl)
theorem wz :iI Tryz.prog 32 38 4 80:=oC (by kernel_rfl)
theorem Ah :iI Tryz.prog 36 48 11 176:=oC (by kernel_rfl)
theorem xI :iI Tryz.prog 39 42 6 88:=oC (by kernel_rfl)
theorem rD :iI Tryz.prog 40 9 1 16:=oC (by kernel_rfl)
theorem wu :iI Tryz.prog 43 45 10 160:=oC (by kernel_rfl)
theorem acp :iI Tryz.prog 59 61 2 32:=oC (by kernel_rfl)
theorem UW :iI Tryz.prog 73 5 1 1:=oC (by kernel_rfl)
theorem aco :iI Tryz.prog 74 98 6 120:=oC (by kernel_rfl)
theorem XH :wo Tryz.prog 189=some [(0,1),(1,1),(2,10)]:=by kernel_rfl
theorem abG :wo Tryz.prog 290=some [(0,1),(1,1)]:=by kernel_rfl
theorem MJ :wo Tryz.prog 38=some [(0,1),(1,1),(2,1),(3,1)]:=by kernel_rfl
theorem Tt :wo Tryz.prog 42=some [(0,1),(1,1),(2,1),(3,1),(4,1),(5,1)]:=by kernel_rfl
theorem Ed :wo Tryz.prog 45=some [(0,1),(1,1),(2,6),(8,1),(9,1)]:=by kernel_rfl
theorem ac3 :wo Tryz.prog 48=some [(0,1),(1,10)]:=by kernel_rfl
theorem Tq :wo Tryz.prog 54=some [(0,1),(1,6)]:=by kernel_rfl
theorem abE (w:Go.World):(Instr.typeAssert .nilIface 20 181 true).run Tryz.prog w=.ok (.tuple #[.agg #[.int .i64 0],.bool false]) w:=by kernel_rfl
theorem abD (w:Go.World):(Instr.typeAssert .nilIface 20 292 true).run Tryz.prog w=.ok (.tuple #[.agg #[.int .i64 0,.int .i64 0],.bool false]) w:=by kernel_rfl
theorem abC (v:Value) (w:Go.World):(Instr.typeAssert (.iface 181 v) 20 181 true).run Tryz.prog w=.ok (.tuple #[v,.bool true]) w:=by kernel_rfl
theorem abB (v:Value) (w:Go.World):(Instr.typeAssert (.iface 292 v) 20 292 true).run Tryz.prog w=.ok (.tuple #[v,.bool true]) w:=by kernel_rfl
theorem Fw :iq Tryz.prog 165=some (false,1):=by kernel_rfl
theorem ac1 :iq Tryz.prog 176=some (false,1):=by kernel_rfl
theorem ZJ :iq Tryz.prog 181=some (true,1):=by kernel_rfl
theorem MH :iq Tryz.prog 184=some (false,1):=by kernel_rfl
theorem ZI :iq Tryz.prog 189=some (true,12):=by kernel_rfl
theorem ae3 :iq Tryz.prog 23=some (false,1):=by kernel_rfl
theorem Tn :iq Tryz.prog 237=some (false,1):=by kernel_rfl
theorem MG :iq Tryz.prog 243=some (true,3):=by kernel_rfl
theorem DF :iq Tryz.prog 25=some (false,1):=by kernel_rfl
theorem ac0 :iq Tryz.prog 281=some (true,2):=by kernel_rfl
theorem ZH :iq Tryz.prog 292=some (true,2):=by kernel_rfl
theorem Dr :iq Tryz.prog 3=some (false,1):=by kernel_rfl
theorem Ct :iq Tryz.prog 32=some (false,1):=by kernel_rfl
theorem ae2 :iq Tryz.prog 34=some (true,1):=by kernel_rfl
theorem UN :iq Tryz.prog 36=some (false,1):=by kernel_rfl
theorem ng :iq Tryz.prog 38=some (true,4):=by kernel_rfl
theorem HV :iq Tryz.prog 39=some (false,1):=by kernel_rfl
theorem ae1 :iq Tryz.prog 4=some (false,1):=by kernel_rfl
theorem XD :iq Tryz.prog 40=some (false,1):=by kernel_rfl
theorem kZ :iq Tryz.prog 42=some (true,6):=by kernel_rfl
theorem Nt :iq Tryz.prog 43=some (false,1):=by kernel_rfl
theorem gT :iq Tryz.prog 45=some (true,10):=by kernel_rfl
theorem acj :iq Tryz.prog 48=some (true,11):=by kernel_rfl
theorem ae0 :iq Tryz.prog 54=some (true,7):=by kernel_rfl
theorem aci :iq Tryz.prog 59=some (false,1):=by kernel_rfl
theorem ZG :iq Tryz.prog 61=some (true,2):=by kernel_rfl
theorem aeZ :iq Tryz.prog 63=some (true,10):=by kernel_rfl
theorem EH :iq Tryz.prog 73=some (false,1):=by kernel_rfl
theorem Pf :iq Tryz.prog 9=some (false,1):=by kernel_rfl
theorem Zy :Tryz.prog.underlying 23=some (.slice 54):=by kernel_rfl
theorem Pb :Tryz.prog.underlying 252=some (.int .u64):=by kernel_rfl
theorem acY :Tryz.prog.underlying 281=some (.array 2 252):=by kernel_rfl
theorem O_ :Tryz.prog.underlying 3=some (.int .i64):=by kernel_rfl
theorem Zx :Tryz.prog.underlying 32=some (.slice 38):=by kernel_rfl
theorem Xz :Tryz.prog.underlying 36=some (.slice 48):=by kernel_rfl
theorem Zw :Tryz.prog.underlying 39=some (.slice 42):=by kernel_rfl
theorem acX :Tryz.prog.underlying 4=some (.bool):=by kernel_rfl
theorem acg :Tryz.prog.underlying 40=some (.slice 9):=by kernel_rfl
theorem Zv :Tryz.prog.underlying 43=some (.slice 45):=by kernel_rfl
theorem UK :Tryz.prog.underlying 5=some (.int .u8):=by kernel_rfl
theorem aeY :Tryz.prog.underlying 73=some (.slice 5):=by kernel_rfl
theorem dP :Tryz.prog.underlying 9=some (.string):=by kernel_rfl
theorem Ea :Tryz.prog.underlying 165=some (.pointer 167):=by kernel_rfl
theorem Zu :Tryz.prog.underlying 196=some (.pointer 5):=by kernel_rfl
theorem Tj :Tryz.prog.underlying 227=some .unsafePointer:=by kernel_rfl
theorem aeO (w:World):(Go.sizeOf 54).run Tryz.prog w=.ok 7 w:=by kernel_rfl
theorem Yi :(Tryz.prog.info? 3).map (·.zero)=some (some (.int .i64 0)):=by kernel_rfl
theorem Mx :lg Tryz.prog 167=some [.val (.pointer none),.own (.slice none 0 0) []]:=by kernel_rfl
theorem acT :lg Tryz.prog 176=some [.val .nilFunc]:=by kernel_rfl
theorem Zn :lg Tryz.prog 181=some [.int .i64 0]:=by kernel_rfl
theorem OW :lg Tryz.prog 189=some [.str [],.bool false,.int .i64 0,.str [],.int .i64 0,.bool false,.int .i64 0,.str [],.own (.slice none 0 0) [],.own (.slice none 0 0) [],.own (.slice none 0 0) [],.own (.slice none 0 0) []]:=by kernel_rfl
theorem Zm :lg Tryz.prog 197=some [.str [],.str [],.str [],.str [],.str [],.str [],.str [],.str []]:=by kernel_rfl
theorem acS :lg Tryz.prog 209=some [.own (.slice none 0 0) [],.val (.pointer none),.own (.slice none 0 0) []]:=by kernel_rfl
theorem w9 :lg Tryz.prog 243=some [.int .i64 0,.str [],.int .i64 0]:=by kernel_rfl
theorem Zl :lg Tryz.prog 25=some [.int .i64 0]:=by kernel_rfl
theorem Zk :lg Tryz.prog 281=some [.int .u64 0,.int .u64 0]:=by kernel_rfl
theorem V5 :lg Tryz.prog 283=some [.int .u64 0,.int .u64 0,.bool false]:=by kernel_rfl
theorem acR :lg Tryz.prog 290=some [.own (.slice none 0 0) [],.int .i64 0]:=by kernel_rfl
theorem Zj :lg Tryz.prog 292=some [.int .i64 0,.int .i64 0]:=by kernel_rfl
theorem aeN :lg Tryz.prog 3=some [.int .i64 0]:=by kernel_rfl
theorem G7 :lg Tryz.prog 34=some [.own (.slice none 0 0) []]:=by kernel_rfl
theorem pE :lg Tryz.prog 38=some [.str [],.str [],.own (.slice none 0 0) [],.own (.slice none 0 0) []]:=by kernel_rfl
theorem gF :lg Tryz.prog 42=some [.int .i64 0,.bool false,.int .i64 0,.str [],.own (.slice none 0 0) [],.own (.slice none 0 0) []]:=by kernel_rfl
theorem iX :lg Tryz.prog 45=some [.int .i64 0,.str [],.int .i64 0,.bool false,.int .i64 0,.str [],.own (.slice none 0 0) [],.own (.slice none 0 0) [],.own (.slice none 0 0) [],.own (.slice none 0 0) []]:=by kernel_rfl
theorem OV :lg Tryz.prog 48=some [.str [],.int .i64 0,.str [],.int .i64 0,.bool false,.int .i64 0,.str [],.own (.slice none 0 0) [],.own (.slice none 0 0) [],.own (.slice none 0 0) [],.own (.slice none 0 0) []]:=by kernel_rfl
theorem K4 :lg Tryz.prog 54=some [.str [],.int .i64 0,.bool false,.int .i64 0,.str [],.own (.slice none 0 0) [],.own (.slice none 0 0) []]:=by kernel_rfl
theorem Dx :lg Tryz.prog 61=some [.int .i64 0,.own (.slice none 0 0) []]:=by kernel_rfl
theorem Xv :lg Tryz.prog 63=some [.str [],.int .i64 0,.own (.slice none 0 0) [],.bool false,.int .i64 0,.bool false,.int .i64 0,.str [],.own (.slice none 0 0) [],.own (.slice none 0 0) []]:=by kernel_rfl
def FX :Facts:={ti:=[(3,false,1),(4,false,1),(5,false,1),(9,false,1),(22,false,1),(23,false,1),(25,false,1),(32,false,1),(34,true,1),(36,false,1),(38,true,4),(39,false,1),(40,false,1),(42,true,6),(43,false,1),(45,true,10),(48,true,11),(54,true,7),(59,false,1),(61,true,2),(63,true,10),(98,true,6),(176,false,1),(181,true,1),(189,true,12),(243,true,3),(252,false,1),(290,true,2),(292,true,2)],fo:=[(34,0,0),(38,0,0),(38,1,1),(38,2,2),(38,3,3),(42,0,0),(42,1,1),(42,2,2),(42,3,3),(42,4,4),(42,5,5),(45,0,0),(45,1,1),(45,2,2),(45,3,8),(45,4,9),(48,0,0),(48,1,1),(54,0,0),(54,1,1),(61,0,0),(61,1,1),(63,0,0),(63,1,1),(63,2,3),(63,3,4),(98,0,0),(98,1,1),(98,2,2),(103,0,0),(103,1,1),(103,2,2),(181,0,0),(189,0,0),(189,1,1),(189,2,2),(209,0,0),(209,1,1),(243,0,0),(243,1,1),(243,2,2),(283,0,0),(283,1,2),(290,0,0),(290,1,1),(292,0,0),(292,1,1)],fd:=[],str:=[]}
theorem aX :FX.okB Tryz.prog=true:=by kernel_rfl
theorem cs {n:Nat} {all:Array Oper} {σ:List bn} {ds:List Deferred} {Q:Post} (k:Nat) {l l':List Oper} {env env':Env} (h:Oe FX all n k l env=some (env',l')) (hr:AR Tryz.prog n all l' env' σ ds Q):AR Tryz.prog n all l env σ ds Q:=AR.cs aX k h hr
def FY :FB:=⟨{FX with ti:=FX.ti ++ [(3,false,1),(4,false,1),(9,false,1),(32,false,1),(34,true,1),(36,false,1),(38,true,4),(39,false,1),(40,false,1),(42,true,6),(43,false,1),(45,true,10),(48,true,11),(54,true,7),(59,false,1),(61,true,2),(63,true,10),(74,false,1),(176,false,1),(189,true,12),(197,true,8),(243,true,3),(283,true,3)]},[(34,[.own (.slice none 0 0) []]),(38,[.str [],.str [],.own (.slice none 0 0) [],.own (.slice none 0 0) []]),(42,[.int .i64 0,.bool false,.int .i64 0,.str [],.own (.slice none 0 0) [],.own (.slice none 0 0) []]),(45,[.int .i64 0,.str [],.int .i64 0,.bool false,.int .i64 0,.str [],.own (.slice none 0 0) [],.own (.slice none 0 0) [],.own (.slice none 0 0) [],.own (.slice none 0 0) []]),(48,[.str [],.int .i64 0,.str [],.int .i64 0,.bool false,.int .i64 0,.str [],.own (.slice none 0 0) [],.own (.slice none 0 0) [],.own (.slice none 0 0) [],.own (.slice none 0 0) []]),(54,[.str [],.int .i64 0,.bool false,.int .i64 0,.str [],.own (.slice none 0 0) [],.own (.slice none 0 0) []]),(61,[.int .i64 0,.own (.slice none 0 0) []]),(63,[.str [],.int .i64 0,.own (.slice none 0 0) [],.bool false,.int .i64 0,.bool false,.int .i64 0,.str [],.own (.slice none 0 0) [],.own (.slice none 0 0) []]),(98,[.str [],.own (.slice none 0 0) [],.str [],.str [],.own (.slice none 0 0) [],.own (.slice none 0 0) []]),(103,[.own (.slice none 0 0) [],.own (.slice none 0 0) [],.int .i64 0]),(181,[.int .i64 0]),(243,[.int .i64 0,.str [],.int .i64 0]),(283,[.int .u64 0,.int .u64 0,.bool false]),(292,[.int .i64 0,.int .i64 0])],[(34,[(0,1)]),(38,[(0,1),(1,1),(2,1),(3,1)]),(42,[(0,1),(1,1),(2,1),(3,1),(4,1),(5,1)]),(45,[(0,1),(1,1),(2,6),(8,1),(9,1)]),(48,[(0,1),(1,10)]),(54,[(0,1),(1,6)]),(61,[(0,1),(1,1)]),(63,[(0,1),(1,2),(3,1),(4,6)]),(98,[(0,1),(1,1),(2,4)]),(103,[(0,1),(1,1),(2,1)]),(181,[(0,1)]),(243,[(0,1),(1,1),(2,1)]),(283,[(0,2),(2,1)]),(292,[(0,1),(1,1)])]⟩
instance : FK Tryz.prog:=⟨FY,⟨by kernel_rfl,by kernel_rfl,by kernel_rfl⟩,[6,7,8,9,12,14,15,17,18,19,21,22,23,24,25,28,29,30,32,35,36,37,39,42,43,47,49,50,51,53,54,55,58,59,60,61,62,63,64,67,69,71,72,73,74,76,77,78,79,83,84,86,87,89,90,93,95,96,97,98,99,100,101,102,103,105,108,109,110,111,112,115,116,117,118,119,120,121,122,123,124,125,127,128,129,136,137,138,139,140,141,142,144,145,147,148,150,152,155,156,157,158,159,160,161,164,169,170,171,172,173,174,175,176,177,178,179,180,181,182,183,187,189,190,191,192,196,197,198,202,203,204,205,206,207,208,209,210,211,212,213,214,215,216,217,218,219,220,222,223,229,230,235,236,237,238,239,240,241,242,243,244,245,246,247,248,249,250,253,255,256,257,258,268,269,271,272,273,274,275,279,280,281,282,283,284,286,299,310,311,313,314,315,329,330,331,332,333,340,344,345,346,347,348,349],by kernel_rfl⟩
variable {τ : List bn} {Q : cZ → List bn → Prop}
abbrev PC :=AC Tryz.prog
@[reducible] def iP (x:Int):PV:=.int .i64 x
@[reducible] def sP (x:List Str):PV:=.list (List.map mo x)
@[reducible] def pP (b:Nat):PV:=.val (.pointer (some ⟨b,0,none⟩))
@[reducible] def dW (x:au):List PV:=[.str x.kind,.str x.name,.list (List.map aS.cells x.attrs),.list (au.aN x.blocks)]
@[reducible] def aK (x:ah):List PV:=[.int .i64 x.kind,.bool x.iD,.int .i64 x.iC,.str x.gW,.list (ah.aN x.bH),.list (List.map mo x.keys)]
@[reducible] def bI (x:aj):List PV:=[.int .i64 x.kind,.str x.name,.int .i64 x.value.kind,.bool x.value.iD,.int .i64 x.value.iC,.str x.value.gW,.list (ah.aN x.value.bH),.list (List.map mo x.value.keys),.list (aj.aN x.args),.list (List.map mo x.keys)]
@[reducible] def afI (x:aS):List PV:=[.str x.name,.int .i64 x.expr.kind,.str x.expr.name,.int .i64 x.expr.value.kind,.bool x.expr.value.iD,.int .i64 x.expr.value.iC,.str x.expr.value.gW,.list (ah.aN x.expr.value.bH),.list (List.map mo x.expr.value.keys),.list (aj.aN x.expr.args),.list (List.map mo x.expr.keys)]
@[reducible] def zX (x:aA):List PV:=[.str x.name,.int .i64 x.value.kind,.bool x.value.iD,.int .i64 x.value.iC,.str x.value.gW,.list (ah.aN x.value.bH),.list (List.map mo x.value.keys)]
@[reducible] def cO (x:aD):List PV:=[.int .i64 x.kind,.list (aD.aN x.elem)]
@[reducible] def xP (x:aQ):List PV:=[.str x.name,.int .i64 x.Gs.kind,.list (aD.aN x.Gs.elem),.bool x.has,.int .i64 x.default.kind,.bool x.default.iD,.int .i64 x.default.iC,.str x.default.gW,.list (ah.aN x.default.bH),.list (List.map mo x.default.keys)]
@[reducible] def BM (x:bK):List PV:=[.str x.name,.list (List.map aQ.cells x.params),.str x.body.kind,.str x.body.name,.list (List.map aS.cells x.body.attrs),.list (au.aN x.body.blocks)]
@[reducible] def eH (x:aJ):List PV:=[.list (List.map bK.cells x.templates),.list (List.map aA.cells x.env),.int .i64 x.uses]
@[reducible] def Cj (x:bf):List PV:=[.str x.text,.bool x.is_,.int .i64 x.expr.kind,.str x.expr.name,.int .i64 x.expr.value.kind,.bool x.expr.value.iD,.int .i64 x.expr.value.iC,.str x.expr.value.gW,.list (ah.aN x.expr.value.bH),.list (List.map mo x.expr.value.keys),.list (aj.aN x.expr.args),.list (List.map mo x.expr.keys)]
@[reducible] def xO (x:aZ):List PV:=[.int .i64 x.kind,.str x.text,.int .i64 x.at_]
@[reducible] def NA (x:jC):List PV:=[.int .u64 ((x.half.getD 0 0).toNat:Int),.int .u64 ((x.half.getD 1 0).toNat:Int),.bool x.neg]
@[reducible] def aW (x:ak):List PV:=[.list (List.map aZ.cells x.ts),.int .i64 x.at_]
@[reducible] def jQ (x:aB):List PV:=[.int .i64 x.at_,.int .i64 x.code]
theorem GI {b:Nat} {v p:Value} {bs:List UInt8} (hp:p=Value.pointer none∨p=.pointer (some ⟨b,0,none⟩)) {R:cZ→List bn→Prop} (h:R (.ret (.tuple [])) [.kC b 167 [.val (.pointer (some ⟨b,0,none⟩)),.own v (bs.map jv)],.row v bs.length 1 5]):
    AC Tryz.prog 166 [.val (.pointer (some ⟨b,0,none⟩))] [.kC b 167 [.val p,.own v (bs.map jv)],.row v bs.length 1 5] R:=by
  obtain ⟨j,hj1,hj2⟩:=inB; rcases hp with rfl | rfl
  · skip
    refine AC.jH 20 [] [0] Tryz.func166 rfl rfl rfl rfl rfl ?_; refine AW.seq ?_; refine AW.region ?_; refine AR.step rfl rfl rfl (AO.calc' rfl ?_); refine AR.step rfl rfl rfl (AO.nilCheck rfl rfl ?_); refine AR.step rfl rfl rfl (AO.dx rfl rfl yP ?_); refine AR.step rfl rfl rfl (AO.j6 (i:=0) rfl rfl rfl Fw rfl rfl ?_); refine AR.step rfl rfl rfl (AO.OL rfl Ea rfl rfl ?_); refine AR.nil [0,6] rfl ?_; refine AW.cond rfl (fun h1=>?_) (fun h1=>?_)
    · refine AW.region ?_; refine AR.step rfl rfl rfl (AO.calc' rfl ?_); refine AR.step rfl rfl rfl (AO.calc' rfl ?_); refine AR.step rfl rfl rfl (AO.Yo (i:=0) rfl Ea Tj hj1 hj2 rfl rfl rfl ?_); refine AR.step rfl rfl rfl (AO.Va rfl rfl rfl rfl Tryz.func200 (by kernel_rfl) (by kernel_rfl) (by kernel_rfl) (by kernel_rfl) rfl ?_); refine AR.step rfl rfl rfl (AO.Vs (i:=0) rfl Tj Ea hj1 rfl rfl rfl afH ?_); refine AR.step rfl rfl rfl (AO.nilCheck rfl rfl ?_); refine AR.step rfl rfl rfl (AO.dx rfl rfl yP ?_); refine AR.bF rfl rfl (AO.rP (i:=0) rfl rfl rfl Fw rfl rfl rfl rfl rfl ?_); refine AR.nil [] rfl ?_; exact ⟨rfl,[],rfl,_,List.Sublist.refl _,h⟩
    · cases h1
  · skip
    refine AC.jH 20 [] [0] Tryz.func166 rfl rfl rfl rfl rfl ?_; refine AW.seq ?_; refine AW.region ?_; refine AR.step rfl rfl rfl (AO.calc' rfl ?_); refine AR.step rfl rfl rfl (AO.nilCheck rfl rfl ?_); refine AR.step rfl rfl rfl (AO.dx rfl rfl yP ?_); refine AR.step rfl rfl rfl (AO.j6 (i:=0) rfl rfl rfl Fw rfl rfl ?_); refine AR.step rfl rfl rfl (AO.OL rfl Ea rfl rfl ?_); refine AR.nil [0,6] rfl ?_; refine AW.cond rfl (fun h1=>?_) (fun h1=>?_)
    · cases h1
    · refine AW.seq ?_; refine AW.region ?_; refine AR.step rfl rfl rfl (AO.calc' rfl ?_); refine AR.step rfl rfl rfl (AO.nilCheck rfl rfl ?_); refine AR.step rfl rfl rfl (AO.dx rfl rfl yP ?_); refine AR.step rfl rfl rfl (AO.j6 (i:=0) rfl rfl rfl Fw rfl rfl ?_); refine AR.step rfl rfl rfl (AO.calc' rfl ?_); refine AR.step rfl rfl rfl (AO.LC rfl Ea hj1 rfl rfl ?_); refine AR.nil [19] rfl ?_; refine AW.cond rfl (fun h2=>?_) (fun h2=>?_)
      · cases h2
      · refine AW.skip ?_; exact ⟨rfl,[],rfl,_,List.Sublist.refl _,h⟩
theorem ig {b:Nat} {v:Value} {bs r:List UInt8} {c:UInt8} (hv:app bs [c]=some r) {R:cZ→List bn→Prop} (h:∀ v',R (.ret (.val .nilIface)) [.Kj b v' 167 5 r]):AC Tryz.prog 140 [.val (.pointer (some ⟨b,0,none⟩)),.int .u8 (c.toNat:Int)] [.Kj b v 167 5 bs] R:=by
  refine AC.Kj fun p hp hroom=>?_; refine AC.jH 17 [.tmp 4] [0,1] Tryz.func140 rfl rfl rfl rfl rfl ?_; refine AW.seq ?_; refine AW.region ?_; refine AR.step rfl rfl rfl (AO.calc' rfl ?_); refine AR.nil [0,1] rfl ?_; refine AW.seq ?_; refine AW.region ?_; refine AR.step rfl rfl rfl (AO.calc' rfl ?_); refine AR.step rfl rfl rfl (AO.call rfl _ rfl rfl WA (GI hp ?_)); refine AR.nil [0,1] rfl ?_; refine AW.seq ?_; refine AW.region ?_; refine AR.step rfl rfl rfl (AO.calc' rfl ?_); refine AR.step rfl rfl rfl (AO.calc' rfl ?_); refine AR.step rfl rfl rfl (AO.nilCheck rfl rfl ?_); refine AR.step rfl rfl rfl (AO.dx rfl rfl qU ?_); refine AR.step rfl rfl rfl (AO.j6 (i:=0) rfl rfl rfl EH rfl rfl ?_); refine AR.step rfl rfl rfl (AO.calc' rfl ?_); refine AR.step rfl rfl rfl (AO.buildSlice rfl UW rfl rfl rfl ?_); refine AR.step rfl rfl rfl (AO.Nn (i:=1) hv rfl rfl rfl rfl rfl (Kl.list rfl NH (by simp [jv]) (by simp [jv,PV.one])) rfl UW (fun v' s1 hs1 hr1=>?_)); cases hs1; refine AR.step rfl rfl rfl (AO.nilCheck rfl rfl ?_); refine AR.step rfl rfl rfl (AO.dx rfl rfl qU ?_); refine AR.bF rfl rfl (AO.rP (i:=0) rfl rfl rfl EH rfl rfl rfl rfl rfl ?_); refine AR.nil [1] rfl ?_; refine AW.seq ?_; refine AW.region ?_; refine AR.step rfl rfl rfl (AO.calc' rfl ?_); refine AR.nil [4] rfl ?_; refine AW.ret ?_; exact ⟨rfl,_,⟨_,_,rfl,rfl,rfl⟩,_,List.Sublist.refl _,_,v',r,rfl,.inr rfl,hr1 hroom,h v'⟩
theorem jo {b:Nat} {v:Value} {bs r:List UInt8} {s:List UInt8} (hv:app bs s=some r) {R:cZ→List bn→Prop} (h:∀ v',R (.ret (.tuple [.int .i64 (s.length:Int),.val .nilIface])) [.Kj b v' 167 5 r]):AC Tryz.prog 141 [.val (.pointer (some ⟨b,0,none⟩)),.str s] [.Kj b v 167 5 bs] R:=by
  refine AC.Kj fun p hp hroom=>?_; refine AC.jH 19 [.tmp 4,.tmp 5] [0,1] Tryz.func141 rfl rfl rfl rfl rfl ?_; refine AW.seq ?_; refine AW.region ?_; refine AR.step rfl rfl rfl (AO.calc' rfl ?_); refine AR.step rfl rfl rfl (AO.calc' rfl ?_); refine AR.nil [0,1] rfl ?_; refine AW.seq ?_; refine AW.region ?_; refine AR.step rfl rfl rfl (AO.calc' rfl ?_); refine AR.step rfl rfl rfl (AO.call rfl _ rfl rfl WA (GI hp ?_)); refine AR.nil [0,1] rfl ?_; refine AW.seq ?_; refine AW.region ?_; refine AR.step rfl rfl rfl (AO.calc' rfl ?_); refine AR.step rfl rfl rfl (AO.calc' rfl ?_); refine AR.step rfl rfl rfl (AO.nilCheck rfl rfl ?_); refine AR.step rfl rfl rfl (AO.dx rfl rfl qU ?_); refine AR.step rfl rfl rfl (AO.j6 (i:=0) rfl rfl rfl EH rfl rfl ?_); refine AR.step rfl rfl rfl (AO.calc' rfl ?_); refine AR.step rfl rfl rfl (AO.Nn (i:=1) hv rfl rfl rfl rfl rfl (Kl.str dP) rfl UW (fun v' s1 hs1 hr1=>?_)); cases hs1; refine AR.step rfl rfl rfl (AO.nilCheck rfl rfl ?_); refine AR.step rfl rfl rfl (AO.dx rfl rfl qU ?_); refine AR.bF rfl rfl (AO.rP (i:=0) rfl rfl rfl EH rfl rfl rfl rfl rfl ?_); refine AR.nil [1] rfl ?_; refine AW.seq ?_; refine AW.region ?_; refine AR.step rfl rfl rfl (AO.calc' rfl ?_); refine AR.step rfl rfl rfl (AO.cK rfl rfl rfl rfl dP rfl ?_); refine AR.step rfl rfl rfl (AO.calc' rfl ?_); refine AR.step rfl rfl rfl (AO.calc' rfl ?_); refine AR.nil [4,5] rfl ?_; refine AW.ret ?_; exact ⟨rfl,_,⟨_,_,rfl,rfl,_,_,rfl,rfl,rfl⟩,_,List.Sublist.refl _,_,v',r,rfl,.inr rfl,hr1 hroom,h v'⟩
theorem SQ {b:Nat} {v:Value} {bs:List UInt8} {R:cZ→List bn→Prop} (h:R (.ret (.int .i64 (bs.length:Int))) [.Kj b v 167 5 bs]):AC Tryz.prog 156 [.val (.pointer (some ⟨b,0,none⟩))] [.Kj b v 167 5 bs] R:=by
  refine AC.Kj fun p hp hroom=>?_; refine AC.jH 8 [.tmp 2] [0] Tryz.func156 rfl rfl rfl rfl rfl ?_; refine AW.seq ?_; refine AW.region ?_; refine AR.step rfl rfl rfl (AO.calc' rfl ?_); refine AR.nil [0] rfl ?_; refine AW.seq ?_; refine AW.region ?_; refine AR.step rfl rfl rfl (AO.calc' rfl ?_); refine AR.step rfl rfl rfl (AO.nilCheck rfl rfl ?_); refine AR.step rfl rfl rfl (AO.dx rfl rfl qU ?_); refine AR.step rfl rfl rfl (AO.j6 (i:=0) rfl rfl rfl EH rfl rfl ?_); refine AR.step rfl rfl rfl (AO.aM (l:=bs) rfl rfl rfl rfl NH rfl rfl ?_); refine AR.step rfl rfl rfl (AO.calc' rfl ?_); refine AR.nil [2] rfl ?_; refine AW.ret ?_; exact ⟨rfl,_,⟨_,_,rfl,rfl,rfl⟩,_,List.Sublist.refl _,p,v,bs,rfl,hp,hroom,h⟩
theorem vK {b:Nat} {v:Value} {bs:List UInt8} {R:cZ→List bn→Prop} (h:R (.ret (.str bs)) []):AC Tryz.prog 142 [.val (.pointer (some ⟨b,0,none⟩))] [.Kj b v 167 5 bs] R:=by
  refine AC.ab4 fun p hroom=>?_; refine AC.jH 14 [.tmp 2] [0] Tryz.func142 rfl rfl rfl rfl rfl ?_; refine AW.seq ?_; refine AW.region ?_; refine AR.step rfl rfl rfl (AO.calc' rfl ?_); refine AR.nil [0] rfl ?_; refine AW.seq ?_; refine AW.draw 10 mixed (by kernel_rfl) rfl ?_; refine Ev.cons rfl rfl rfl (AO.calc' rfl ⟨rfl,rfl⟩) ?_; refine Ev.cons rfl rfl rfl (AO.nilCheck rfl rfl ⟨rfl,rfl⟩) ?_; refine Ev.cons rfl rfl rfl (AO.dx rfl rfl qU ⟨rfl,rfl⟩) ?_; refine Ev.cons rfl rfl rfl (AO.j6 (i:=0) rfl rfl rfl EH rfl rfl ⟨rfl,rfl⟩) ?_; refine Ev.cons rfl rfl rfl (AO.sliceData rfl rfl rfl rfl hroom ⟨rfl,rfl⟩) ?_; refine Ev.cons rfl rfl rfl (AO.calc' rfl ⟨rfl,rfl⟩) ?_; refine Ev.cons rfl rfl rfl (AO.nilCheck rfl rfl ⟨rfl,rfl⟩) ?_; refine Ev.cons rfl rfl rfl (AO.dx rfl rfl qU ⟨rfl,rfl⟩) ?_; refine Ev.cons rfl rfl rfl (AO.j6 (i:=0) rfl rfl rfl EH rfl rfl ⟨rfl,rfl⟩) ?_; refine Ev.cons rfl rfl rfl (AO.aM (l:=bs) rfl rfl rfl rfl NH rfl rfl ⟨rfl,rfl⟩) ?_; refine Ev.nil ?_; show AR _ _ _ _ _ _ _ _; refine AR.step rfl rfl rfl (AO.unsafeString rfl rfl rfl rfl Zu agc rfl rfl rfl ?_); refine AR.step rfl rfl rfl (AO.calc' rfl ?_); refine AR.nil [2] rfl ?_; refine AW.ret ?_; exact ⟨rfl,_,⟨_,_,rfl,rfl,rfl⟩,[],List.nil_sublist _,h⟩
theorem QX {b:Nat} {q:PV} {v p:Value} {bs:List UInt8} (hp:p=Value.pointer none∨p=.pointer (some ⟨b,1,none⟩)) {R:cZ→List bn→Prop} (h:R (.ret (.tuple [])) [.row v (List.length bs) 1 5,.kC b 209 [q,.val (.pointer (some ⟨b,1,none⟩)),.own v (List.map jv bs)]]):
    AC Tryz.prog 166 [.val (.pointer (some ⟨b,1,none⟩))] [.row v (List.length bs) 1 5,.kC b 209 [q,.val p,.own v (List.map jv bs)]] R:=by
  obtain ⟨j,hj1,hj2⟩:=inB; rcases hp with rfl | rfl
  · skip
    refine AC.jH 20 [] [0] Tryz.func166 rfl rfl rfl rfl rfl ?_; refine AW.seq ?_; refine AW.region ?_; refine AR.step rfl rfl rfl (AO.calc' rfl ?_); refine AR.step rfl rfl rfl (AO.nilCheck rfl rfl ?_); refine AR.step rfl rfl rfl (AO.dx rfl rfl yP ?_); refine AR.step rfl rfl rfl (AO.j6 (i:=1) rfl rfl rfl Fw rfl rfl ?_); refine AR.step rfl rfl rfl (AO.OL rfl Ea rfl rfl ?_); refine AR.nil [0,6] rfl ?_; refine AW.cond rfl (fun h1=>?_) (fun h1=>?_)
    · refine AW.region ?_; refine AR.step rfl rfl rfl (AO.calc' rfl ?_); refine AR.step rfl rfl rfl (AO.calc' rfl ?_); refine AR.step rfl rfl rfl (AO.Wn (i:=1) (n:=1) rfl Ea Tj hj1 hj2 rfl rfl rfl ?_); refine AR.step rfl rfl rfl (AO.Va rfl rfl rfl rfl Tryz.func200 (by kernel_rfl) (by kernel_rfl) (by kernel_rfl) (by kernel_rfl) rfl ?_); refine AR.step rfl rfl rfl (AO.TT (i:=1) rfl Tj Ea hj1 rfl rfl rfl afG ?_); refine AR.step rfl rfl rfl (AO.nilCheck rfl rfl ?_); refine AR.step rfl rfl rfl (AO.dx rfl rfl yP ?_); refine AR.bF rfl rfl (AO.rP (i:=1) rfl rfl rfl Fw rfl rfl rfl rfl rfl ?_); refine AR.nil [] rfl ?_; exact ⟨rfl,[],rfl,_,List.Sublist.refl _,h⟩
    · cases h1
  · skip
    refine AC.jH 20 [] [0] Tryz.func166 rfl rfl rfl rfl rfl ?_; refine AW.seq ?_; refine AW.region ?_; refine AR.step rfl rfl rfl (AO.calc' rfl ?_); refine AR.step rfl rfl rfl (AO.nilCheck rfl rfl ?_); refine AR.step rfl rfl rfl (AO.dx rfl rfl yP ?_); refine AR.step rfl rfl rfl (AO.j6 (i:=1) rfl rfl rfl Fw rfl rfl ?_); refine AR.step rfl rfl rfl (AO.OL rfl Ea rfl rfl ?_); refine AR.nil [0,6] rfl ?_; refine AW.cond rfl (fun h1=>?_) (fun h1=>?_)
    · cases h1
    · refine AW.seq ?_; refine AW.region ?_; refine AR.step rfl rfl rfl (AO.calc' rfl ?_); refine AR.step rfl rfl rfl (AO.nilCheck rfl rfl ?_); refine AR.step rfl rfl rfl (AO.dx rfl rfl yP ?_); refine AR.step rfl rfl rfl (AO.j6 (i:=1) rfl rfl rfl Fw rfl rfl ?_); refine AR.step rfl rfl rfl (AO.calc' rfl ?_); refine AR.step rfl rfl rfl (AO.LC rfl Ea hj1 rfl rfl ?_); refine AR.nil [19] rfl ?_; refine AW.cond rfl (fun h2=>?_) (fun h2=>?_)
      · cases h2
      · refine AW.skip ?_; exact ⟨rfl,[],rfl,_,List.Sublist.refl _,h⟩
theorem Je {b:Nat} {q:PV} {v p:Value} {bs r:List UInt8} (hp:p=Value.pointer none∨p=.pointer (some ⟨b,1,none⟩)) (hroom:roomy v=true) {c:UInt8} (hv:app bs [c]=some r) {R:cZ→List bn→Prop} (h:∀ v',roomy v'=true→R (.ret (.val .nilIface)) [.row v' (List.length r) 1 5,.kC b 209 [q,.val (.pointer (some ⟨b,1,none⟩)),.own v' (List.map jv r)]]):AC Tryz.prog 140 [.val (.pointer (some ⟨b,1,none⟩)),.int .u8 (c.toNat:Int)] [.row v (List.length bs) 1 5,.kC b 209 [q,.val p,.own v (List.map jv bs)]] R:=by
  refine AC.jH 17 [.tmp 4] [0,1] Tryz.func140 rfl rfl rfl rfl rfl ?_; refine AW.seq ?_; refine AW.region ?_; refine AR.step rfl rfl rfl (AO.calc' rfl ?_); refine AR.nil [0,1] rfl ?_; refine AW.seq ?_; refine AW.region ?_; refine AR.step rfl rfl rfl (AO.calc' rfl ?_); refine AR.step rfl rfl rfl (AO.call rfl _ rfl rfl WA (QX hp ?_)); refine AR.nil [0,1] rfl ?_; refine AW.seq ?_; refine AW.region ?_; refine AR.step rfl rfl rfl (AO.calc' rfl ?_); refine AR.step rfl rfl rfl (AO.calc' rfl ?_); refine AR.step rfl rfl rfl (AO.nilCheck rfl rfl ?_); refine AR.step rfl rfl rfl (AO.dx rfl rfl qU ?_); refine AR.step rfl rfl rfl (AO.j6 (i:=1) rfl rfl rfl EH rfl rfl ?_); refine AR.step rfl rfl rfl (AO.calc' rfl ?_); refine AR.step rfl rfl rfl (AO.buildSlice rfl UW rfl rfl rfl ?_); refine AR.step rfl rfl rfl (AO.Nn (i:=0) hv rfl rfl rfl rfl rfl (Kl.list rfl NH (by simp [jv]) (by simp [jv,PV.one])) rfl UW (fun v' s1 hs1 hr1=>?_)); cases hs1; refine AR.step rfl rfl rfl (AO.nilCheck rfl rfl ?_); refine AR.step rfl rfl rfl (AO.dx rfl rfl qU ?_); refine AR.bF rfl rfl (AO.rP (i:=1) rfl rfl rfl EH rfl rfl rfl rfl rfl ?_); refine AR.nil [1] rfl ?_; refine AW.seq ?_; refine AW.region ?_; refine AR.step rfl rfl rfl (AO.calc' rfl ?_); refine AR.nil [4] rfl ?_; refine AW.ret ?_; exact ⟨rfl,_,⟨_,_,rfl,rfl,rfl⟩,_,List.Sublist.refl _,h v' (hr1 hroom)⟩
theorem aaT {b:Nat} {q:PV} {v p:Value} {bs:List UInt8} {R:cZ→List bn→Prop} (h:R (.ret (.int .i64 (bs.length:Int))) [.row v (List.length bs) 1 5,.kC b 209 [q,.val p,.own v (List.map jv bs)]]):AC Tryz.prog 156 [.val (.pointer (some ⟨b,1,none⟩))] [.row v (List.length bs) 1 5,.kC b 209 [q,.val p,.own v (List.map jv bs)]] R:=by
  refine AC.jH 8 [.tmp 2] [0] Tryz.func156 rfl rfl rfl rfl rfl ?_; refine AW.seq ?_; refine AW.region ?_; refine AR.step rfl rfl rfl (AO.calc' rfl ?_); refine AR.nil [0] rfl ?_; refine AW.seq ?_; refine AW.region ?_; refine AR.step rfl rfl rfl (AO.calc' rfl ?_); refine AR.step rfl rfl rfl (AO.nilCheck rfl rfl ?_); refine AR.step rfl rfl rfl (AO.dx rfl rfl qU ?_); refine AR.step rfl rfl rfl (AO.j6 (i:=1) rfl rfl rfl EH rfl rfl ?_); refine AR.step rfl rfl rfl (AO.aM (l:=bs) rfl rfl rfl rfl NH rfl rfl ?_); refine AR.step rfl rfl rfl (AO.calc' rfl ?_); refine AR.nil [2] rfl ?_; refine AW.ret ?_; exact ⟨rfl,_,⟨_,_,rfl,rfl,rfl⟩,_,List.Sublist.refl _,h⟩
theorem VP {b:Nat} {q:PV} {v p:Value} {bs:List UInt8} (hroom:roomy v=true) {R:cZ→List bn→Prop} (h:R (.ret (.str bs)) [.kC b 209 [q,.val p,.own v (List.map jv bs)]]):AC Tryz.prog 142 [.val (.pointer (some ⟨b,1,none⟩))] [.row v (List.length bs) 1 5,.kC b 209 [q,.val p,.own v (List.map jv bs)]] R:=by
  refine AC.jH 14 [.tmp 2] [0] Tryz.func142 rfl rfl rfl rfl rfl ?_; refine AW.seq ?_; refine AW.region ?_; refine AR.step rfl rfl rfl (AO.calc' rfl ?_); refine AR.nil [0] rfl ?_; refine AW.seq ?_; refine AW.draw 10 mixed (by kernel_rfl) rfl ?_; refine Ev.cons rfl rfl rfl (AO.calc' rfl ⟨rfl,rfl⟩) ?_; refine Ev.cons rfl rfl rfl (AO.nilCheck rfl rfl ⟨rfl,rfl⟩) ?_; refine Ev.cons rfl rfl rfl (AO.dx rfl rfl qU ⟨rfl,rfl⟩) ?_; refine Ev.cons rfl rfl rfl (AO.j6 (i:=1) rfl rfl rfl EH rfl rfl ⟨rfl,rfl⟩) ?_; refine Ev.cons rfl rfl rfl (AO.sliceData rfl rfl rfl rfl hroom ⟨rfl,rfl⟩) ?_; refine Ev.cons rfl rfl rfl (AO.calc' rfl ⟨rfl,rfl⟩) ?_; refine Ev.cons rfl rfl rfl (AO.nilCheck rfl rfl ⟨rfl,rfl⟩) ?_; refine Ev.cons rfl rfl rfl (AO.dx rfl rfl qU ⟨rfl,rfl⟩) ?_; refine Ev.cons rfl rfl rfl (AO.j6 (i:=1) rfl rfl rfl EH rfl rfl ⟨rfl,rfl⟩) ?_; refine Ev.cons rfl rfl rfl (AO.aM (l:=bs) rfl rfl rfl rfl NH rfl rfl ⟨rfl,rfl⟩) ?_; refine Ev.nil ?_; show AR _ _ _ _ _ _ _ _; refine AR.step rfl rfl rfl (AO.Rj rfl rfl rfl rfl Zu agc rfl rfl rfl ?_); refine AR.step rfl rfl rfl (AO.calc' rfl ?_); refine AR.nil [2] rfl ?_; refine AW.ret ?_; exact ⟨rfl,_,⟨_,_,rfl,rfl,rfl⟩,_,List.Sublist.refl _,h⟩
theorem QY {b:Nat} {q:PV} {v p:Value} {bs:List UInt8} {R:cZ→List bn→Prop} (h:R (.ret (.tuple [])) [.kC b 209 [q,.val (.pointer none),.own (.slice none 0 0) (List.map jv [])]]):AC Tryz.prog 221 [.val (.pointer (some ⟨b,1,none⟩))] [.kC b 209 [q,.val p,.own v (List.map jv bs)]] R:=by
  refine AC.jH 8 [] [0] Tryz.func221 rfl rfl rfl rfl rfl ?_; refine AW.seq ?_; refine AW.region ?_; refine AR.step rfl rfl rfl (AO.calc' rfl ?_); refine AR.step rfl rfl rfl (AO.nilCheck rfl rfl ?_); refine AR.step rfl rfl rfl (AO.dx rfl rfl yP ?_); refine AR.bF rfl rfl (AO.rP (i:=0) rfl rfl rfl Fw rfl rfl rfl rfl rfl ?_); refine AR.nil [0] rfl ?_; refine AW.region ?_; refine AR.step rfl rfl rfl (AO.calc' rfl ?_); refine AR.step rfl rfl rfl (AO.nilCheck rfl rfl ?_); refine AR.step rfl rfl rfl (AO.dx rfl rfl qU ?_); refine AR.bF rfl rfl (AO.rP (i:=0) rfl rfl rfl EH rfl rfl rfl rfl rfl ?_); refine AR.nil [] rfl ?_; exact ⟨rfl,[],rfl,_,List.Sublist.refl _,h⟩
theorem EB (v1:ah) {r0:aj} (hf:Ap v1=some r0) (h:Q (.ret (.agg (bI r0))) τ):PC 15 [.agg (aK v1)] τ Q:=by
 unfold Ap at hf; refine BN 5 [.cell 2 45] [0] Tryz.func15 Z Z Z Z Z (W 1 Z (AS Z (AO.aF Z iX (fun b2=>?_)))); cases hf; exact Rx 3 [0] Z Z (ZC [0] Z Z h)
theorem QN (s1:Str) {r0:aj} (hf:LU s1=some r0) (h:Q (.ret (.agg (bI r0))) τ):PC 14 [.str s1] τ Q:=by
 unfold LU at hf; refine BN 6 [.cell 2 45] [0] Tryz.func14 Z Z Z Z Z (W 0 Z (AS Z (AO.aF Z iX (fun b2=>?_)))); refine BR hf fun x1 h1 hf=>?_; refine U 2 Z (CL Z (EB _ h1 ?_)); cases hf; exact Rx 1 [0] Z Z (ZC [0] Z Z h)
theorem Xk (s1:Str) {r0:aj} (hf:P8 s1=some r0) (h:Q (.ret (.agg (bI r0))) τ):PC 11 [.str s1] τ Q:=by
 unfold P8 at hf; refine BN 5 [.cell 2 45] [0] Tryz.func11 Z Z Z Z Z (W 0 Z (AS Z (AO.aF Z iX (fun b2=>?_)))); cases hf; exact Rx 3 [0] Z Z (ZC [0] Z Z h)
theorem Y3 (e1:aj) {r0:aj} (hf:TP e1=some r0) (h:Q (.ret (.agg (bI r0))) τ):PC 34 [.agg (bI e1)] τ Q:=by
 unfold TP at hf; refine BN 8 [.cell 2 45] [0] Tryz.func34 Z Z Z Z Z (W 1 Z (AS Z (AO.aF Z iX (fun b2=>(J 0 Z (AW.draw 5 mixed (by kernel_rfl) Z ?_)))))); refine Ev.cs aX 1 Z (Ev.cons Z Z Z (AO.build Z gF Tt Z zg) ?_); refine B1 hf fun x1 h1 hf=>Ev.cons rfl rfl rfl (AO.call rfl _ rfl rfl afA (EB _ h1 ⟨rfl,rfl⟩)) (Ev.cons rfl rfl rfl (AO.bL (aj.aN [e1,x1]) rfl wu rfl rfl rfl (by first | rfl | simp only [List.map,aj.aG,aj.aN]) ⟨rfl,rfl⟩) ?_)
 refine Ev.cons Z Z Z (AO.build Z iX Ed Z zg) (Ev.nil ?_); show AR _ _ _ _ _ _ _ _; cases hf; exact Rx 1 [0] Z Z (ZC [0] Z Z h)
theorem Gd (args1:List aS) {r0:dY} (hf:ET args1=some r0) (h:Q (.ret (.agg [.list (au.aN r0.blocks)])) τ):PC 17 [.list (List.map aS.cells args1)] τ Q:=by
 unfold ET at hf; refine BN 23 [.cell 2 34] [0] Tryz.func17 Z Z Z Z Z (W 0 Z (AS Z (AO.aF Z G7 (fun b2=>?_)))); refine B1 hf fun x1 h1 hf=>U 0 rfl (CL rfl (QN _ h1 (U 1 rfl (AS rfl (AO.bL (List.map aS.cells [(aS.mk ([116,121,112,101]:Str) x1)]) rfl Ah rfl rfl rfl (by first | rfl | simp only [List.map,aS.aG]) ?_))))); refine U 1 Z (AS Z (AO.aF Z pE (fun b3=>(Rw 1 [0] Z Z (AW.acO 7 38 [4] mixed (by kernel_rfl) Z pE Z (by kernel_rfl) (by decide) ?_)))))
 refine B1 hf fun x2 h2 hf=>Ev.cons Z Z Z (AO.call Z _ Z Z afC (Xk _ h2 zg)) ?_; refine B1 hf fun x3 h3 hf=>Ev.cons rfl rfl rfl (AO.call rfl _ rfl rfl afu (Y3 _ h3 ⟨rfl,rfl⟩)) (Ev.cons rfl rfl rfl (AO.build rfl OV ac3 rfl ⟨rfl,rfl⟩) (Ev.cons rfl rfl rfl (AO.bL (List.map aS.cells [(aS.mk ([120]:Str) x3)]) rfl Ah rfl rfl rfl (by first | rfl | simp only [List.map,aS.aG]) ⟨rfl,rfl⟩) ?_))
 refine Ev.cons rfl rfl rfl (AO.aY (i:=0) rfl rfl rfl ng rfl rfl ⟨rfl,rfl⟩) (Ev.cons rfl rfl rfl (AO.bL (au.aN [(au.mk ([112,97,114,97,109]:Str) ([110]:Str) [(aS.mk ([116,121,112,101]:Str) x1)] [])]) rfl wz rfl rfl rfl (by first | rfl | simp only [List.map,au.aG,au.aN]) ⟨rfl,rfl⟩) ?_); refine Ev.cons Z Z Z (AO.build Z pE MJ Z zg) (Ev.nil ?_); intro b4; show AR _ _ _ _ _ _ _ _
 refine Rr 4 [0,0] rfl rfl (AS rfl (AO.bL (au.aN [(au.mk ([117,115,101]:Str) ([116]:Str) args1 [])]) rfl wz rfl rfl rfl (by first | rfl | simp only [List.map,au.aG,au.aN]) ?_))
 refine U 1 rfl (AS rfl (AO.bL (au.aN [(au.mk ([116,101,109,112,108,97,116,101]:Str) ([116]:Str) [(aS.mk ([120]:Str) x3)] [(au.mk ([112,97,114,97,109]:Str) ([110]:Str) [(aS.mk ([116,121,112,101]:Str) x1)] [])]),(au.mk ([106,111,98]:Str) ([]:Str) [] [(au.mk ([117,115,101]:Str) ([116]:Str) args1 [])])]) rfl wz rfl rfl rfl (by first | rfl | simp only [List.map,au.aG,au.aN]) ?_)); cases hf; exact Rx 2 [2] Z Z (ZC [2] Z Z h)
abbrev Jk (jX:aj→Option Int):Prop:=∀ (jT:aj) {aP:Int},jX jT=some aP→∀ {τ:List bn} {Q:cZ→List bn→Prop} (h:Q (.ret (iP aP)) τ),PC 59 [.agg (bI jT)] τ Q
theorem O6 (jX) (MX:Jk jX) (e1:aj) {r0:Int} (hf:CK jX e1=some r0) (h:Q (.ret (iP r0)) τ):PC 59 [.agg (bI e1)] τ Q:=by
 unfold CK at hf; refine BN 19 [.tmp 2] [0] Tryz.func59 Z Z Z Z Z (W 5 Z (AS Z (AO.aM (l:=e1.args) Z Z Z Z je Z (aj.aC _) (J 1 Z (Xt (fun n1 x1=>[(3,iP n1),(7,.list (aj.aN e1.args)),(8,iP (e1.args.length:Int)),(9,iP x1)]) (fun n1 x1=>[]) (fun bY n1 x1=>wS jX e1 bY n1 x1=some r0) BIG 1 0 Z Z hf (fun _ _ hz=>bT hz) ?_))))); intro bY n1 x1 hf; rw [wS] at hf; refine V 1 Z (C hf Z (fun h1 hf=>?_) fun h1 hf=>?_)
 · refine B1 hf fun e2 h2 hf=>W 0 Z (AS Z (AO.aO h2 Z Z (aj.aC _) Z je (aj.aG _) Z (U 1 Z (AS Z (AO.aF Z iX (fun b5=>?_)))))); refine B1 hf fun x2 h3 hf=>Rr 3 [0,0] Z Z (CL Z (MX _ h3 (fG 4 Z (AR.drop1 ?_)))); exact N 0 Z ⟨(dA (n1 + x2)),(dA (x1 + 1)),Z,Z,Z,hf⟩
 cases hf; exact M 2 Z (Y Z h)
theorem PO :∀ k:Nat,(Jk (uG k)):=by
 intro k
 induction k with
 | zero=>exact fun _ _ hz=>by first | cases hz | (unfold uG at hz; cases hz)
 | succ k ih=>exact fun jT aP hz τ Q hq=>O6 (uG k) ih jT hz hq
theorem QH (jT:aj) {aP:Int} (hf:LG jT=some aP) (h:Q (.ret (iP aP)) τ):PC 59 [.agg (bI jT)] τ Q:=
 ((PO BIG)) jT hf h
theorem RP (v1:ah) {r0:Bool} (hf:Ig v1=some r0) (h:Q (.ret (.bool r0)) τ):PC 132 [.agg (aK v1)] τ Q:=by
 unfold Ig at hf; refine BN 33 [.tmp 2] [0] Tryz.func132 Z Z Z Z Z (W 6 Z (An 4 6 10 [1] (!v1.iD) Z Z Z Z (U 1 Z (An 4 11 15 [1] (v1.iC == 0) Z Z Z Z (U 1 Z (An 4 16 20 [1] (v1.gW == ([]:Str)) Z Z Z Z ?_)))))); refine U 1 Z (AR.and 5 21 26 [1] (x:=((v1.bH.length:Int) == 0)) Z Z (fun h4=>?_) (fun h4=>?_) ?_)
 · refine Is 21 h4 Z (U 2 Z (GO Z (AO.aM (l:=v1.bH) Z Z Z Z gK Z (ah.aC _) ?_))); exact fG 2 Z (En [26,1] Z)
 · refine Is 21 h4 Z ?_; exact fG 5 Z (En [26,1] Z)
 refine U 1 Z (AR.and 5 27 32 [] (x:=((v1.keys.length:Int) == 0)) Z Z (fun h5=>?_) (fun h5=>?_) ?_)
 · refine Is 27 h5 Z (U 2 Z (GO Z (AO.aM (l:=v1.keys) Z Z Z Z iY Z Z ?_))); exact fG 2 Z (En [32] Z)
 · refine Is 27 h5 Z ?_; exact fG 5 Z (En [32] Z)
 cases hf; exact N 1 Z (Y Z h)
theorem GA (c1:UInt8) {r0:Bool} (hf:wC c1=some r0) (h:Q (.ret (.bool r0)) τ):PC 229 [.int .u8 (c1.toNat:Int)] τ Q:=by
 unfold wC at hf; refine BN 21 [.tmp 2] [0] Tryz.func229 Z Z Z Z Z (W 4 Z (An 3 5 8 [0] (decide ((c1.toNat:Int)≤122)) Z Z Z Z (U 1 Z (AR.or 7 9 16 [0] (x:=((decide (65≤(c1.toNat:Int))) && (decide ((c1.toNat:Int)≤90)))) Z Z (fun h2=>?_) (fun h2=>?_) ?_))))
 · refine Is 9 h2 Z (U 3 Z (An 3 12 15 [0,9] (decide ((c1.toNat:Int)≤90)) Z Z Z Z ?_)); exact fG 1 Z (En [16,0] Z)
 · refine Is 9 h2 Z ?_; exact fG 7 Z (En [16,0] Z)
 refine U 1 Z (On 3 17 20 [] ((c1.toNat:Int) == 95) Z Z Z Z ?_); cases hf; exact N 1 Z (Y Z h)
theorem I9 (c1:UInt8) {r0:Bool} (hf:yE c1=some r0) (h:Q (.ret (.bool r0)) τ):PC 230 [.int .u8 (c1.toNat:Int)] τ Q:=by
 unfold yE at hf; refine BN 9 [.tmp 2] [0] Tryz.func230 Z Z Z Z Z (W 4 Z (An 3 5 8 [] (decide ((c1.toNat:Int)≤57)) Z Z Z Z ?_)); cases hf; exact N 1 Z (Y Z h)
theorem Kc (s1:Str) {r0:Bool} (hf:DL s1=some r0) (h:Q (.ret (.bool r0)) τ):PC 196 [.str s1] τ Q:=by
 unfold DL at hf; refine BN 36 [.tmp 2] [0] Tryz.func196 Z Z Z Z Z (W 2 Z (AS Z (AO.cK Z Z Z Z dP Z (U 2 Z (AR.or 4 7 11 [0] (x:=(decide (64 < (s1.length:Int)))) Z Z (fun h1=>?_) (fun h1=>?_) ?_)))))
 · refine Is 7 h1 Z (U 1 Z (GO Z (AO.cK Z Z Z Z dP Z ?_))); exact fG 2 Z (En [11,0] Z)
 · refine Is 7 h1 Z ?_; exact fG 4 Z (En [11,0] Z)
 refine B1 hf fun b1 h3 hf=>U 1 Z (AR.fV 5 12 17 false [0] b1 Z Z (fun h2=>?_) (fun h2=>?_) ?_)
 · refine IF 12 h2 h3 Z fun h3=>?_; refine B1 h3 fun x1 h4 h3=>U 1 Z (GO Z (AO.fP h4 Z dP Z Z ?_)); refine B1 h3 fun x2 h5 h3=>GO Z (AO.call Z _ Z Z adi (GA _ h5 ?_)); cases h3; exact fG 2 Z (En [17,0] Z)
 · refine IT 12 h2 h3 Z fun h3=>?_; cases h3; exact fG 5 Z (En [17,0] Z)
 refine J 0 Z (C hf Z (fun h6 hf=>?_) fun h6 hf=>?_)
 · cases hf; exact M 1 Z (Y Z h)
 refine V 1 Z (Gm (fun i1=>[(0,.str s1),(3,iP i1)]) (fun i1=>[]) (fun bY i1=>yC s1 bY i1=some r0) BIG 0 Z Z hf (fun _ hz=>bT hz) ?_); intro bY i1 hf; rw [yC] at hf; refine W 2 Z (AS Z (AO.cK Z Z Z Z dP Z (J 1 Z (C hf Z (fun h7 hf=>?_) fun h7 hf=>?_))))
 ·
  refine B1 hf fun x3 h8 hf=>W 2 Z (AS Z (AO.fP h8 Z dP Z Z ?_)); refine B1 hf fun x4 h9 hf=>CL Z (GA _ h9 ?_); refine B1 hf fun b2 h11 hf=>U 2 Z (AR.fV 6 29 35 true [0,3] b2 Z Z (fun h10=>?_) (fun h10=>?_) ?_)
  · refine IT 29 h10 h11 Z fun h11=>?_; refine B1 h11 fun x5 h12 h11=>U 2 Z (GO Z (AO.fP h12 Z dP Z Z ?_)); refine B1 h11 fun x6 lH h11=>GO Z (AO.call Z _ Z Z adh (I9 _ lH ?_)); cases h11; exact fG 2 Z (En [35,0,3] Z)
  · refine IF 29 h10 h11 Z fun h11=>?_; cases h11; exact fG 6 Z (En [35,0,3] Z)
  refine J 0 Z (C hf Z (fun lV hf=>?_) fun lV hf=>?_)
  · cases hf; exact M 1 Z (Y Z h)
  exact M 3 Z ⟨(dA (i1 + 1)),Z,Z,Z,hf⟩
 cases hf; exact M 1 Z (Y Z h)
theorem Ez (s1:Str) {r0:Bool} (hf:Aj s1=some r0) (h:Q (.ret (.bool r0)) τ):PC 197 [.str s1] τ Q:=by
 unfold Aj at hf; refine BN 13 [.tmp 2] [0] Tryz.func197 Z Z Z Z Z (W 4 Z (On 3 5 8 [0] (s1 == ([102,97,108,115,101]:Str)) Z Z Z Z (U 1 Z (On 3 9 12 [] (s1 == ([110,117,108,108]:Str)) Z Z Z Z ?_)))); cases hf; exact N 1 Z (Y Z h)
theorem Dg (s1:Str) {r0:Bool} (hf:yB s1=some r0) (h:Q (.ret (.bool r0)) τ):PC 161 [.str s1] τ Q:=by
 unfold yB at hf; refine BN 10 [.tmp 2] [0] Tryz.func161 Z Z Z Z Z ?_; refine B1 hf fun x1 h1 hf=>W 2 Z (CL Z (Kc _ h1 ?_)); refine BR hf fun b1 h3 hf=>?_; refine U 1 Z (AR.fV 4 5 9 true [] b1 Z Z (fun h2=>?_) (fun h2=>?_) ?_)
 · refine IT 5 h2 h3 Z fun h3=>?_; refine B1 h3 fun x2 h4 h3=>U 1 Z (GO Z (AO.call Z _ Z Z Z_ (Ez _ h4 ?_))); cases h3; exact fG 2 Z (En [9] Z)
 · refine IF 5 h2 h3 Z fun h3=>?_; cases h3; exact fG 4 Z (En [9] Z)
 cases hf; exact N 1 Z (Y Z h)
theorem tL (op1:Str) {r0:Int} (hf:pU op1=some r0) (h:Q (.ret (iP r0)) τ):PC 64 [.str op1] τ Q:=by
 unfold pU at hf; refine BN 22 [.tmp 2] [0] Tryz.func64 Z Z Z Z Z (V 4 Z (C hf Z (fun h1 hf=>?_) fun h1 hf=>?_))
 · cases hf; exact M 1 Z (Y Z h)
 refine V 2 Z (C hf Z (fun h2 hf=>?_) fun h2 hf=>?_)
 · cases hf; exact M 1 Z (Y Z h)
 refine V 2 Z (C hf Z (fun h3 hf=>?_) fun h3 hf=>?_)
 ·
  refine V 0 Z (AW.cond Z (fun h4=>?_) (fun h4=>?_))
  · cases hf; exact M 1 Z (Y Z h)
  cases h3.symm.trans h4
 refine V 2 Z (C hf Z (fun h5 hf=>?_) fun h5 hf=>?_)
 ·
  refine V 0 Z (AW.cond Z (fun h6=>?_) (fun h6=>?_))
  · cases hf; exact M 1 Z (Y Z h)
  cases h5.symm.trans h6
 refine V 2 Z (C hf Z (fun h7 hf=>?_) fun h7 hf=>?_)
 ·
  refine V 0 Z (AW.cond Z (fun h8=>?_) (fun h8=>?_))
  · cases hf; exact M 1 Z (Y Z h)
  cases h7.symm.trans h8
 refine V 2 Z (C hf Z (fun h9 hf=>?_) fun h9 hf=>?_)
 ·
  refine V 0 Z (AW.cond Z (fun h10=>?_) (fun h10=>?_))
  · cases hf; exact M 1 Z (Y Z h)
  cases h9.symm.trans h10
 refine V 2 Z (C hf Z (fun h11 hf=>?_) fun h11 hf=>?_)
 ·
  refine V 0 Z (AW.cond Z (fun h12=>?_) (fun h12=>?_))
  · cases hf; exact M 1 Z (Y Z h)
  cases h11.symm.trans h12
 refine V 2 Z (C hf Z (fun lH hf=>?_) fun lH hf=>?_)
 · cases hf; exact M 1 Z (Y Z h)
 refine V 2 Z (C hf Z (fun lV hf=>?_) fun lV hf=>?_)
 ·
  refine V 0 Z (AW.cond Z (fun ru=>?_) (fun ru=>?_))
  · cases hf; exact M 1 Z (Y Z h)
  cases lV.symm.trans ru
 refine V 2 Z (C hf Z (fun h16 hf=>?_) fun h16 hf=>?_)
 · cases hf; exact M 1 Z (Y Z h)
 refine V 2 Z (C hf Z (fun xB hf=>?_) fun xB hf=>?_)
 ·
  refine V 0 Z (AW.cond Z (fun h18=>?_) (fun h18=>?_))
  · cases hf; exact M 1 Z (Y Z h)
  cases xB.symm.trans h18
 refine V 2 Z (C hf Z (fun h19 hf=>?_) fun h19 hf=>?_)
 ·
  refine V 0 Z (AW.cond Z (fun h20=>?_) (fun h20=>?_))
  · cases hf; exact M 1 Z (Y Z h)
  cases h19.symm.trans h20
 refine V 2 Z (C hf Z (fun h21 hf=>?_) fun h21 hf=>?_)
 · cases hf; exact M 1 Z (Y Z h)
 cases hf; exact M 1 Z (Y Z h)
theorem QA (e1:aj) {r0:Bool} (hf:FD e1=some r0) (h:Q (.ret (.bool r0)) τ):PC 133 [.agg (bI e1)] τ Q:=by
 unfold FD at hf; refine BN 31 [.tmp 2] [0] Tryz.func133 Z Z Z Z Z (V 6 Z (C hf Z (fun h1 hf=>?_) fun h1 hf=>?_))
 ·
  refine V 0 Z (AW.cond Z (fun h2=>?_) (fun h2=>?_))
  · refine BR hf fun x1 h3 hf=>?_; refine W 2 Z (CL Z (Dg _ h3 ?_)); cases hf; exact N 1 Z (Y Z h)
  cases h1.symm.trans h2
 refine V 2 Z (C hf Z (fun h4 hf=>?_) fun h4 hf=>?_)
 ·
  refine V 0 Z (AW.cond Z (fun h5=>?_) (fun h5=>?_))
  · refine BR hf fun x2 h6 hf=>?_; refine W 2 Z (CL Z (Dg _ h6 ?_)); cases hf; exact N 1 Z (Y Z h)
  cases h4.symm.trans h5
 refine V 2 Z (C hf Z (fun h7 hf=>?_) fun h7 hf=>?_)
 · refine BR hf fun x3 h8 hf=>?_; refine W 2 Z (CL Z (Dg _ h8 ?_)); cases hf; exact N 1 Z (Y Z h)
 refine V 2 Z (C hf Z (fun h9 hf=>?_) fun h9 hf=>?_)
 · refine W 4 Z (On 4 17 21 [] (e1.name == ([45]:Str)) Z Z Z Z ?_); cases hf; exact N 1 Z (Y Z h)
 refine V 2 Z (C hf Z (fun h11 hf=>?_) fun h11 hf=>?_)
 · refine B1 hf fun x4 h12 hf=>W 2 Z (CL Z (tL _ h12 ?_)); cases hf; exact N 2 Z (Y Z h)
 cases hf; exact M 4 Z (Y Z h)
theorem QF (e1:aj) {r0:Bool} (hf:FI e1=some r0) (h:Q (.ret (.bool r0)) τ):PC 134 [.agg (bI e1)] τ Q:=by
 unfold FI at hf; refine BN 32 [.tmp 2] [0] Tryz.func134 Z Z Z Z Z (V 6 Z (C hf Z (fun h1 hf=>?_) fun h1 hf=>?_))
 ·
  refine V 0 Z (AW.cond Z (fun h2=>?_) (fun h2=>?_))
  · refine W 2 Z (AS Z (AO.aM (l:=e1.args) Z Z Z Z je Z (aj.aC _) ?_)); cases hf; exact N 2 Z (Y Z h)
  cases h1.symm.trans h2
 refine V 2 Z (C hf Z (fun h3 hf=>?_) fun h3 hf=>?_)
 · refine W 2 Z (AS Z (AO.aM (l:=e1.args) Z Z Z Z je Z (aj.aC _) ?_)); cases hf; exact N 2 Z (Y Z h)
 refine V 2 Z (C hf Z (fun h4 hf=>?_) fun h4 hf=>?_)
 ·
  refine V 0 Z (AW.cond Z (fun h5=>?_) (fun h5=>?_))
  · refine W 2 Z (AS Z (AO.aM (l:=e1.args) Z Z Z Z je Z (aj.aC _) ?_)); cases hf; exact N 2 Z (Y Z h)
  cases h4.symm.trans h5
 refine V 2 Z (C hf Z (fun h6 hf=>?_) fun h6 hf=>?_)
 · refine W 2 Z (AS Z (AO.aM (l:=e1.args) Z Z Z Z je Z (aj.aC _) ?_)); cases hf; exact N 2 Z (Y Z h)
 refine V 2 Z (C hf Z (fun h7 hf=>?_) fun h7 hf=>?_)
 ·
  refine V 0 Z (AW.cond Z (fun h8=>?_) (fun h8=>?_))
  · refine W 2 Z (AS Z (AO.aM (l:=e1.args) Z Z Z Z je Z (aj.aC _) ?_)); cases hf; exact N 2 Z (Y Z h)
  cases h7.symm.trans h8
 refine V 2 Z (C hf Z (fun h9 hf=>?_) fun h9 hf=>?_)
 · refine W 2 Z (AS Z (AO.aM (l:=e1.args) Z Z Z Z je Z (aj.aC _) ?_)); cases hf; exact N 2 Z (Y Z h)
 refine V 2 Z (C hf Z (fun h10 hf=>?_) fun h10 hf=>?_)
 · refine W 2 Z (AS Z (AO.aM (l:=e1.args) Z Z Z Z je Z (aj.aC _) ?_)); cases hf; exact N 2 Z (Y Z h)
 cases hf; exact M 1 Z (Y Z h)
theorem xE (s1:List Str) (f1:Str→Option Bool) (yQ:FuncId) (CV:List PV) (Qe:aV Tryz.prog yQ=true) (Qf:∀ a0 b0,f1 a0=some b0→∀ {τ:List bn} {Q:cZ→List bn→Prop},Q (.ret (.bool b0)) τ→PC yQ ([.str a0] ++ CV) τ Q) {r0:Int} (hf:lS s1 f1=some r0) (h:Q (.ret (iP r0)) τ):PC 198 [sP s1,.fn yQ CV] τ Q:=by
 unfold lS at hf; refine BN 19 [.tmp 4] [0,1] Tryz.func198 Z Z Z Z Z (W 2 Z (AS Z (AO.aM (l:=s1) Z Z Z Z iY Z Z (J 1 Z (Gm (fun i1=>[(0,sP s1),(1,.fn yQ CV),(7,iP (s1.length:Int)),(8,iP i1)]) (fun i1=>[]) (fun bY i1=>jl s1 f1 bY i1=some r0) BIG 0 Z Z hf (fun _ hz=>bT hz) ?_))))); intro bY i1 hf; rw [jl] at hf; refine V 1 Z (C hf Z (fun h1 hf=>?_) fun h1 hf=>?_)
 ·
  refine B1 hf fun e1 h2 hf=>W 5 Z (AS Z (AO.aO h2 Z Z Z Z iY Z Z ?_)); refine B1 hf fun x1 h3 hf=>U 1 Z (AS Z (AO.call Z _ Z Z Qe (Qf _ _ h3 (J 0 Z (C hf Z (fun h4 hf=>?_) fun h4 hf=>?_)))))
  · cases hf; exact M 2 Z (Y Z h)
  exact M 2 Z ⟨(dA (i1 + 1)),Z,Z,Z,hf⟩
 cases hf; exact M 1 Z (Y Z h)
theorem vG (s1:List Str) (f1:Str→Option Bool) (yQ:FuncId) (CV:List PV) (Qe:aV Tryz.prog yQ=true) (Qf:∀ a0 b0,f1 a0=some b0→∀ {τ:List bn} {Q:cZ→List bn→Prop},Q (.ret (.bool b0)) τ→PC yQ ([.str a0] ++ CV) τ Q) {r0:Bool} (hf:kK s1 f1=some r0) (h:Q (.ret (.bool r0)) τ):PC 162 [sP s1,.fn yQ CV] τ Q:=by
 unfold kK at hf; refine BN 9 [.tmp 4] [0,1] Tryz.func162 Z Z Z Z Z ?_; refine B1 hf fun x1 h1 hf=>W 3 Z (CL Z (xE _ f1 yQ CV Qe @Qf h1 ?_)); cases hf; exact N 2 Z (Y Z h)
theorem M_ (zo:Str) {r0:Bool} (hf:yD zo=some r0) (h:Q (.ret (.bool r0)) τ):PC 163 [.str zo] τ Q:=by
 unfold yD at hf; refine BN 11 [.tmp 2] [0] Tryz.func163 Z Z Z Z Z (W 2 Z (AS Z (AO.cK Z Z Z Z dP Z (U 2 Z (AR.or 4 6 10 [] (x:=(decide (64 < (zo.length:Int)))) Z Z (fun h1=>?_) (fun h1=>?_) ?_)))))
 · refine Is 6 h1 Z (U 1 Z (GO Z (AO.cK Z Z Z Z dP Z ?_))); exact fG 2 Z (En [10] Z)
 · refine Is 6 h1 Z ?_; exact fG 4 Z (En [10] Z)
 cases hf; exact N 1 Z (Y Z h)
theorem QB (e1:aj) {r0:Bool} (hf:FE e1=some r0) (h:Q (.ret (.bool r0)) τ):PC 135 [.agg (bI e1)] τ Q:=by
 unfold FE at hf; refine BN 23 [.tmp 2] [0] Tryz.func135 Z Z Z Z Z (V 5 Z (C hf Z (fun h1 hf=>?_) fun h1 hf=>?_))
 · refine W 2 Z (AS Z (AO.aM (l:=e1.keys) Z Z Z Z iY Z Z ?_)); cases hf; exact N 2 Z (Y Z h)
 refine W 2 Z (AS Z (AO.aM (l:=e1.keys) Z Z Z Z iY Z Z (U 2 Z (AS Z (AO.aM (l:=e1.args) Z Z Z Z je Z (aj.aC _) ?_))))); refine BR hf fun b1 h3 hf=>?_; refine U 2 Z (AR.fV 5 17 22 true [] b1 Z Z (fun h2=>?_) (fun h2=>?_) ?_)
 · refine IT 17 h2 h3 Z fun h3=>?_; refine B1 h3 fun x1 h4 h3=>U 2 Z (GO Z (AO.call Z _ Z Z ads (vG _ yD 163 [] adr (fun _ _ hz=>M_ _  hz) h4 ?_))); cases h3; exact fG 2 Z (En [22] Z)
 · refine IF 17 h2 h3 Z fun h3=>?_; cases h3; exact fG 5 Z (En [22] Z)
 cases hf; exact N 1 Z (Y Z h)
theorem Te {β:Type} (l:Nat) (T:β→List bn) (go:β→ah→Int→Option (Bool × β))
  (goH:∀ s1 v1 bU b s2,go s1 v1 bU=some (b,s2)→∀ {Q:cZ→List bn→Prop},Q (.ret (.bool b)) (T s2)→PC 105 [.agg (aK v1),iP bU,.val (.func (.yield l) #[] #[])] (T s1) Q)
  (y:β→Int→ah→Option (Bool × β)) (hy:∀ s1 bU v1 b s2,y s1 bU v1=some (b,s2)→AY Tryz.prog l [iP bU,.agg (aK v1)] (T s1) (fun out σ'=>out=.ret (.bool b)∧σ'=T s2))
  (s1:β) (v1:ah) (bU:Int) {b:Bool} {s2:β} (hf:BA go y s1 v1 bU=some (b,s2)) {Q:cZ→List bn→Prop} (h:Q (.ret (.bool b)) (T s2)):
  PC 105 [.agg (aK v1),iP bU,.val (.func (.yield l) #[] #[])] (T s1) Q:=by
 unfold BA at hf; refine AC.jH 28 [.tmp 6] [0,1,2] Tryz.func105 Z Z Z Z Z (AW.sr (AR.step Z Z Z (AO.B_ Z Z Z (cs 1 Z ?_)))); refine AR.nil [1,2,3] Z (AW.seq (AW.seq (AW.abJ ?_))); refine Q8.step Z Z Z Z (AO.calc' Z (Q8.step Z Z Z Z (AO.calc' Z (Q8.step Z Z Z Z (AO.PZ Z Z kZ Z ?_))))); obtain ⟨b1,s3,h1,hf⟩:=bP hf; refine Q8.yield Z Z Z Z Z _ Z Z (hy _ _ _ _ _ h1) (Q8.of Z (cs 1 Z (AR.nil [1,2,3,13] Z ?_))); refine AW.cond Z (fun h2=>?_) (fun h2=>?_)
 · replace hf:=jm h2 hf; refine AW.sr (cs 1 Z (AR.nil [6] Z (AW.ret ?_))); cases hf; exact ⟨rfl,_,⟨_,_,rfl,rfl,rfl⟩,_,List.Sublist.refl _,h⟩
 replace hf:=iO h2 hf; refine AW.skip (AW.seq (AW.sr (cs 2 Z ?_))); refine AR.step Z Z Z (AO.aM (l:=v1.bH) Z Z Z Z gK Z ((ah.aC _)) (cs 1 Z (AR.nil [1,2,15,16,17] Z (AW.block ?_)))); refine AW.MR (fun (_:β) i1=>[(1,iP bU),(2,.val (.func (.yield l) #[] #[])),(15,.list (ah.aN v1.bH)),(16,iP (v1.bH.length:Int)),(17,iP i1)]) (fun s1 _=>T s1) (fun bY s1 i1=>vZ go v1 bU bY s1 i1=some (b,s2)) BIG s3 0 Z Z hf (fun _ _ hz=>bT hz) ?_; intro bY s4 i1 hf; rw [vZ] at hf; refine AW.sr (cs 1 Z (AR.nil [1,2,15,16,17,18] Z (AW.seq ?_))); refine AW.cond Z (fun h1=>?_) (fun h1=>?_)
 ·
  replace hf:=jm h1 hf; refine AW.skip (AW.seq (AW.block (AW.sr ?_))); refine B1 hf fun x1 h3 hf=>AR.step Z Z Z (AO.aO h3 Z Z ((ah.aC _)) Z gK ((ah.aG _)) Z (cs 1 Z (AR.step Z Z Z (AO.aF Z gF (fun b8=>(AR.bF Z Z (AO.bR (i:=0) Z Z Z kZ Z Z Z Z Z ?_))))))); refine AR.nil [1,2,8,15,16,17] Z (AW.sr (AR.step Z Z Z (AO.aY (i:=0) Z Z Z kZ Z Z (cs 3 Z ?_)))); obtain ⟨b2,s5,h4,hf⟩:=bP hf; refine AR.drop1 (AR.step Z Z Z (AO.call Z _ Z Z adS (goH _ _ _ _ _ h4 (cs 1 Z (AR.nil [1,2,15,16,17,26] Z ?_))))); refine AW.cond Z (fun h5=>?_) (fun h5=>?_)
  · replace hf:=jm h5 hf; refine AW.sr (cs 1 Z (AR.nil [6] Z (AW.ret ?_))); cases hf; exact ⟨rfl,_,⟨_,_,rfl,rfl,rfl⟩,_,List.Sublist.refl _,h⟩
  replace hf:=iO h5 hf; refine AW.skip (AW.region (cs 2 Z (AR.nil [1,2,15,16,17] Z ?_))); exact ⟨s5,(dA (i1 + 1)),Z,Z,Z,hf⟩
 replace hf:=iO h1 hf; refine AW.exit (AW.sr (cs 1 Z (AR.nil [6] Z ?_))); refine AW.ret ?_; cases hf; exact ⟨rfl,_,⟨_,_,rfl,rfl,rfl⟩,_,List.Sublist.refl _,h⟩
theorem LK {β:Type} (l:Nat) (T:β→List bn) (y:β→Int→ah→Option (Bool × β)) (hy:∀ s1 bU v1 b s2,y s1 bU v1=some (b,s2)→AY Tryz.prog l [iP bU,.agg (aK v1)] (T s1) (fun out σ'=>out=.ret (.bool b)∧σ'=T s2)):
  ∀ (k:Nat) (s1:β) (v1:ah) (bU:Int) (b:Bool) (s2:β),pX y k s1 v1 bU=some (b,s2)→∀ {Q:cZ→List bn→Prop},Q (.ret (.bool b)) (T s2)→PC 105 [.agg (aK v1),iP bU,.val (.func (.yield l) #[] #[])] (T s1) Q
 | 0,_,_,_,_,_,hz=>by cases hz
 | k + 1,s1,v1,bU,b,s2,hz=>fun h=>Te l T (pX y k) (fun s1 v1 bU b s2 hz=>LK l T y hy k s1 v1 bU b s2 hz) y hy s1 v1 bU hz h
theorem Gx {β:Type} (l:Nat) (T:β→List bn) (y:β→Int→ah→Option (Bool × β)) (hy:∀ s1 bU v1 b s2,y s1 bU v1=some (b,s2)→AY Tryz.prog l [iP bU,.agg (aK v1)] (T s1) (fun out σ'=>out=.ret (.bool b)∧σ'=T s2))
    (s1:β) (v1:ah) (bU:Int) {b:Bool} {s2:β} (hf:Fj y s1 v1 bU=some (b,s2)) {Q:cZ→List bn→Prop} (h:Q (.ret (.tuple [])) (T s2)):
    PC 104 [.val (.func (.yield l) #[] #[]),.ref (aK v1),.ref [iP bU]] (T s1) Q:=by
 refine BD 8 [] [0,1,2] Tryz.func104 Z Z Z Z Z (W 3 Z (CL Z (LK l T y hy BIG _ _ _ _ _ hf ?_))); exact N 0 rfl ⟨rfl,_,rfl,_,List.Sublist.refl _,h⟩
theorem J9 (v1:ah) (bU:Int) (h:Q (.ret (.fn 104 [.ref (aK v1),.ref [iP bU]])) τ):PC 65 [.agg (aK v1),iP bU] τ Q:=by
 refine BN 6 [.tmp 4] [0,1] Tryz.func65 Z Z Z Z Z ?_; exact M 5 Z (Y Z h)
theorem Qu (v1:ah) {r0:Bool} (hf:BF v1=some r0) (h:Q (.ret (.bool r0)) τ):PC 106 [.agg (aK v1)] τ Q:=by
 unfold BF at hf; refine BN 58 [.tmp 2] [0] Tryz.func106 Z Z Z Z Z (W 6 Z (On 4 6 10 [1] (!v1.iD) Z Z Z Z (U 1 Z (AR.and 9 11 20 [1] (x:=((v1.kind == 2) || (v1.iC == 0))) Z Z (fun h2=>?_) (fun h2=>?_) ?_))))
 · refine Is 11 h2 Z (U 4 Z (On 4 15 19 [1,11] (v1.iC == 0) Z Z Z Z ?_)); exact fG 1 Z (En [20,1] Z)
 · refine Is 11 h2 Z ?_; exact fG 9 Z (En [20,1] Z)
 refine U 1 Z (AR.and 9 21 30 [1] (x:=((v1.kind == 3) || (v1.gW == ([]:Str)))) Z Z (fun h4=>?_) (fun h4=>?_) ?_)
 · refine Is 21 h4 Z (U 4 Z (On 4 25 29 [1,21] (v1.gW == ([]:Str)) Z Z Z Z ?_)); exact fG 1 Z (En [30,1] Z)
 · refine Is 21 h4 Z ?_; exact fG 9 Z (En [30,1] Z)
 refine U 1 Z (AR.and 15 31 46 [1] (x:=(((v1.kind == 4) || (v1.kind == 5)) || ((v1.bH.length:Int) == 0))) Z Z (fun h6=>?_) (fun h6=>?_) ?_)
 ·
  refine Is 31 h6 Z (U 4 Z (On 4 35 39 [1,31] (v1.kind == 5) Z Z Z Z (U 1 Z (AR.or 5 40 45 [1,31] (x:=((v1.bH.length:Int) == 0)) Z Z (fun h8=>?_) (fun h8=>?_) ?_))))
  · refine Is 40 h8 Z (U 2 Z (GO Z (AO.aM (l:=v1.bH) Z Z Z Z gK Z (ah.aC _) ?_))); exact fG 2 Z (En [45,1,31] Z)
  · refine Is 40 h8 Z ?_; exact fG 5 Z (En [45,1,31] Z)
  exact fG 1 Z (En [46,1] Z)
 · refine Is 31 h6 Z ?_; exact fG 15 Z (En [46,1] Z)
 refine U 1 Z (AR.and 10 47 57 [] (x:=((v1.kind == 5) || ((v1.keys.length:Int) == 0))) Z Z (fun h9=>?_) (fun h9=>?_) ?_)
 ·
  refine Is 47 h9 Z (U 4 Z (AR.or 5 51 56 [47] (x:=((v1.keys.length:Int) == 0)) Z Z (fun h10=>?_) (fun h10=>?_) ?_))
  · refine Is 51 h10 Z (U 2 Z (GO Z (AO.aM (l:=v1.keys) Z Z Z Z iY Z Z ?_))); exact fG 2 Z (En [56,47] Z)
  · refine Is 51 h10 Z ?_; exact fG 5 Z (En [56,47] Z)
  exact fG 1 Z (En [57] Z)
 · refine Is 47 h9 Z ?_; exact fG 10 Z (En [57] Z)
 cases hf; exact N 1 Z (Y Z h)
theorem Kg (c1:UInt8) {r0:Bool} (hf:Aq c1=some r0) (h:Q (.ret (.bool r0)) τ):PC 82 [.int .u8 (c1.toNat:Int)] τ Q:=by
 unfold Aq at hf; refine BN 9 [.tmp 2] [0] Tryz.func82 Z Z Z Z Z (W 4 Z (An 3 5 8 [] (decide ((c1.toNat:Int)≤57)) Z Z Z Z ?_)); cases hf; exact N 1 Z (Y Z h)
theorem NP (s1:Str) {r0:Int} (hf:Ck s1=some r0) (h:Q (.ret (iP r0)) τ):PC 129 [.str s1] τ Q:=by
 unfold Ck at hf; refine BN 17 [.tmp 2] [0] Tryz.func129 Z Z Z Z Z (V 2 Z (Gm (fun n1=>[(0,.str s1),(3,iP n1)]) (fun n1=>[]) (fun bY n1=>yM s1 bY n1=some r0) BIG 0 Z Z hf (fun _ hz=>bT hz) ?_)); intro bY n1 hf; rw [yM] at hf; refine W 2 Z (AS Z (AO.cK Z Z Z Z dP Z ?_)); refine B1 hf fun b1 h2 hf=>U 2 Z (AR.fV 5 8 13 true [0,3] b1 Z Z (fun h1=>?_) (fun h1=>?_) ?_)
 · refine IT 8 h1 h2 Z fun h2=>?_; refine B1 h2 fun x1 h3 h2=>U 2 Z (GO Z (AO.fP h3 Z dP Z Z ?_)); refine BR h2 fun x2 h4 h2=>?_; refine GO Z (AO.call Z _ Z Z acu (Kg _ h4 ?_)); cases h2; exact fG 1 Z (En [13,0,3] Z)
 · refine IF 8 h1 h2 Z fun h2=>?_; cases h2; exact fG 5 Z (En [13,0,3] Z)
 refine J 0 Z (C hf Z (fun h5 hf=>?_) fun h5 hf=>?_)
 · exact M 3 Z ⟨(dA (n1 + 1)),Z,Z,Z,hf⟩
 cases hf; exact M 2 Z (Y Z h)
theorem Gc (s1:Str) (c1:UInt8) {r0:Str} (hf:strings_trimLeftByte s1 c1=some r0) (h:Q (.ret (.str r0)) τ):PC 192 [.str s1,.int .u8 (c1.toNat:Int)] τ Q:=by
 unfold strings_trimLeftByte at hf; refine BN 17 [.tmp 4] [0,1] Tryz.func192 Z Z Z Z Z (V 1 Z (Gm (fun s2=>[(0,.str s2),(1,.int .u8 (c1.toNat:Int))]) (fun s2=>[]) (fun bY s2=>jh c1 bY s2=some r0) BIG s1 Z Z hf (fun _ hz=>bT hz) ?_)); intro bY s2 hf; rw [jh] at hf; refine W 1 Z (AS Z (AO.cK Z Z Z Z dP Z ?_)); refine B1 hf fun b1 h2 hf=>U 2 Z (AR.fV 5 8 13 true [0,1] b1 Z Z (fun h1=>?_) (fun h1=>?_) ?_)
 · refine IT 8 h1 h2 Z fun h2=>?_; refine B1 h2 fun x1 h3 h2=>U 1 Z (GO Z (AO.fP h3 Z dP Z Z ?_)); cases h2; exact fG 3 Z (En [13,0,1] Z)
 · refine IF 8 h1 h2 Z fun h2=>?_; cases h2; exact fG 5 Z (En [13,0,1] Z)
 refine J 0 Z (C hf Z (fun h4 hf=>?_) fun h4 hf=>?_)
 · refine B1 hf fun s3 h5 hf=>W 1 Z (AS Z (AO.oM h5 Z dP Z ⟨_,Z⟩ Z ?_)); exact N 1 Z ⟨s3,Z,Z,Z,hf⟩
 cases hf; exact M 2 Z (Y Z h)
theorem Dc (s1:Str) (DW:Str) {r0:Str} (hf:oz s1 DW=some r0) (h:Q (.ret (.str r0)) τ):PC 158 [.str s1,.str DW] τ Q:=by
 unfold oz at hf; refine BN 37 [.tmp 4] [0,1] Tryz.func158 Z Z Z Z Z (W 4 Z (On 3 9 12 [0,1] (DW == ([]:Str)) Z Z Z Z (J 0 Z (C hf Z (fun h2 hf=>?_) fun h2 hf=>?_))))
 · cases hf; exact M 2 Z (Y Z h)
 refine W 1 Z (AS Z (AO.cK Z Z Z Z dP Z ?_)); refine B1 hf fun b1 h4 hf=>U 2 Z (AR.fV 4 17 21 true [0,1] b1 Z Z (fun h3=>?_) (fun h3=>?_) ?_)
 · refine IT 17 h3 h4 Z fun h4=>?_; refine B1 h4 fun x1 h5 h4=>U 1 Z (GO Z (AO.fP h5 Z dP Z Z ?_)); cases h4; exact fG 2 Z (En [21,0,1] Z)
 · refine IF 17 h3 h4 Z fun h4=>?_; cases h4; exact fG 4 Z (En [21,0,1] Z)
 refine J 0 Z (C hf Z (fun h6 hf=>?_) fun h6 hf=>?_)
 · refine B1 hf fun x2 h7 hf=>W 2 Z (AS Z (AO.fP h7 Z dP Z Z ?_)); refine BR hf fun x3 h8 hf=>?_; refine CL Z (Gc _ _ h8 ?_); cases hf; exact N 1 Z (Y Z h)
 exact bT hf
theorem GH (x1:Int) {r0:Bool} (hf:cmp_isNaN_int x1=some r0) (h:Q (.ret (.bool r0)) τ):PC 127 [iP x1] τ Q:=by
 unfold cmp_isNaN_int at hf; refine BN 6 [.tmp 2] [0] Tryz.func127 Z Z Z Z Z ?_; cases hf; exact M 5 Z (Y Z h)
theorem nD (x1:Int) (y1:Int) {r0:Int} (hf:cmp_Compare_int x1 y1=some r0) (h:Q (.ret (iP r0)) τ):PC 93 [iP x1,iP y1] τ Q:=by
 unfold cmp_Compare_int at hf; refine BN 20 [.tmp 4] [0,1] Tryz.func93 Z Z Z Z Z ?_; refine B1 hf fun Np h1 hf=>W 2 Z (CL Z (GH _ h1 ?_)); refine B1 hf fun G8 h2 hf=>U 2 Z (CL Z (GH _ h2 (J 2 Z (C hf Z (fun h3 hf=>?_) fun h3 hf=>?_))))
 ·
  refine V 1 Z (C hf Z (fun h4 hf=>?_) fun h4 hf=>?_)
  · cases hf; exact M 1 Z (Y Z h)
  cases hf; exact M 1 Z (Y Z h)
 refine V 1 Z (C hf Z (fun h5 hf=>?_) fun h5 hf=>?_)
 · cases hf; exact M 1 Z (Y Z h)
 refine V 3 Z (C hf Z (fun h6 hf=>?_) fun h6 hf=>?_)
 · cases hf; exact M 1 Z (Y Z h)
 refine V 3 Z (C hf Z (fun h7 hf=>?_) fun h7 hf=>?_)
 · cases hf; exact M 1 Z (Y Z h)
 cases hf; exact M 1 Z (Y Z h)
theorem Dj (x1:Str) {r0:Bool} (hf:cmp_isNaN_string x1=some r0) (h:Q (.ret (.bool r0)) τ):PC 128 [.str x1] τ Q:=by
 unfold cmp_isNaN_string at hf; refine BN 6 [.tmp 2] [0] Tryz.func128 Z Z Z Z Z ?_; cases hf; exact M 5 Z (Y Z h)
theorem AJ (x1:Str) (y1:Str) {r0:Int} (hf:mJ x1 y1=some r0) (h:Q (.ret (iP r0)) τ):PC 95 [.str x1,.str y1] τ Q:=by
 unfold mJ at hf; refine BN 20 [.tmp 4] [0,1] Tryz.func95 Z Z Z Z Z ?_; refine B1 hf fun Np h1 hf=>W 2 Z (CL Z (Dj _ h1 ?_)); refine B1 hf fun G8 h2 hf=>U 2 Z (CL Z (Dj _ h2 (J 2 Z (C hf Z (fun h3 hf=>?_) fun h3 hf=>?_))))
 ·
  refine V 1 Z (C hf Z (fun h4 hf=>?_) fun h4 hf=>?_)
  · cases hf; exact M 1 Z (Y Z h)
  cases hf; exact M 1 Z (Y Z h)
 refine V 1 Z (C hf Z (fun h5 hf=>?_) fun h5 hf=>?_)
 · cases hf; exact M 1 Z (Y Z h)
 refine V 3 Z (C hf Z (fun h6 hf=>?_) fun h6 hf=>?_)
 · cases hf; exact M 1 Z (Y Z h)
 refine V 3 Z (C hf Z (fun h7 hf=>?_) fun h7 hf=>?_)
 · cases hf; exact M 1 Z (Y Z h)
 cases hf; exact M 1 Z (Y Z h)
theorem Uo (Gn:List Int) {r0:Int} (hf:Da Gn=some r0) (h:Q (.ret (iP r0)) τ):PC 159 [.list (List.map LW Gn)] τ Q:=by
 unfold Da at hf; refine BN 18 [.tmp 2] [0] Tryz.func159 Z Z Z Z Z (W 3 Z (AS Z (AO.aM (l:=Gn) Z Z Z Z Es Z Z (J 1 Z (Gm (fun x1=>[(3,iP 0),(6,.list (List.map LW Gn)),(7,iP (Gn.length:Int)),(8,iP x1)]) (fun x1=>[]) (fun bY x1=>wJ Gn bY x1=some r0) BIG 0 Z Z hf (fun _ hz=>bT hz) ?_))))); intro bY x1 hf; rw [wJ] at hf; refine V 1 Z (C hf Z (fun h1 hf=>?_) fun h1 hf=>?_)
 ·
  refine B1 hf fun Ym h2 hf=>W 0 Z (AS Z (AO.aO h2 Z Z Z Z Es Z Z (J 5 Z (C hf Z (fun h3 hf=>?_) fun h3 hf=>?_))))
  · cases hf; exact M 2 Z (Y Z h)
  exact M 2 Z ⟨(dA (x1 + 1)),Z,Z,Z,hf⟩
 cases hf; exact M 2 Z (Y Z h)
theorem OH (a1:Str) (b1:Str) {r0:Int} (hf:wG a1 b1=some r0) (h:Q (.ret (iP r0)) τ):PC 130 [.str a1,.str b1] τ Q:=by
 unfold wG at hf; refine BN 26 [.tmp 4] [0,1] Tryz.func130 Z Z Z Z Z ?_; refine B1 hf fun x1 h1 hf=>W 2 Z (CL Z (Dc _ _ h1 ?_)); refine B1 hf fun y1 h2 hf=>U 1 Z (CL Z (Dc _ _ h2 (U 3 Z (AS Z (AO.cK Z Z Z Z dP Z (U 1 Z (AS Z (AO.cK Z Z Z Z dP Z ?_)))))))); refine B1 hf fun x2 h3 hf=>CL Z (nD _ _ h3 ?_); refine B1 hf fun x3 h4 hf=>U 2 Z (CL Z (AJ _ _ h4 (U 1 Z (AS Z (AO.cK Z Z Z Z dP Z (U 1 Z (AS Z (AO.cK Z Z Z Z dP Z ?_)))))))); refine B1 hf fun x4 h5 hf=>CL Z (nD _ _ h5 (AS Z (AO.bL (List.map LW ([x2,x3,x4]:List Int)) Z Pk Z Z Z Z ?_))); refine BR hf fun x5 h6 hf=>?_; refine CL Z (Uo _ h6 ?_); cases hf; exact N 1 Z (Y Z h)
theorem E9 (x1:UInt8) {r0:Bool} (hf:uU x1=some r0) (h:Q (.ret (.bool r0)) τ):PC 160 [.int .u8 (x1.toNat:Int)] τ Q:=by
 unfold uU at hf; refine BN 6 [.tmp 2] [0] Tryz.func160 Z Z Z Z Z ?_; cases hf; exact M 5 Z (Y Z h)
theorem KY (x1:UInt8) (y1:UInt8) {r0:Int} (hf:qW x1 y1=some r0) (h:Q (.ret (iP r0)) τ):PC 131 [.int .u8 (x1.toNat:Int),.int .u8 (y1.toNat:Int)] τ Q:=by
 unfold qW at hf; refine BN 20 [.tmp 4] [0,1] Tryz.func131 Z Z Z Z Z ?_; refine B1 hf fun Np h1 hf=>W 2 Z (CL Z (E9 _ h1 ?_)); refine B1 hf fun G8 h2 hf=>U 2 Z (CL Z (E9 _ h2 (J 2 Z (C hf Z (fun h3 hf=>?_) fun h3 hf=>?_))))
 ·
  refine V 1 Z (C hf Z (fun h4 hf=>?_) fun h4 hf=>?_)
  · cases hf; exact M 1 Z (Y Z h)
  cases hf; exact M 1 Z (Y Z h)
 refine V 1 Z (C hf Z (fun h5 hf=>?_) fun h5 hf=>?_)
 · cases hf; exact M 1 Z (Y Z h)
 refine V 3 Z (C hf Z (fun h6 hf=>?_) fun h6 hf=>?_)
 · cases hf; exact M 1 Z (Y Z h)
 refine V 3 Z (C hf Z (fun h7 hf=>?_) fun h7 hf=>?_)
 · cases hf; exact M 1 Z (Y Z h)
 cases hf; exact M 1 Z (Y Z h)
theorem Bp (a1:Str) (b1:Str) {r0:Int} (hf:lM a1 b1=some r0) (h:Q (.ret (iP r0)) τ):PC 98 [.str a1,.str b1] τ Q:=by
 unfold lM at hf; refine BN 59 [.tmp 4] [0,1] Tryz.func98 Z Z Z Z Z (V 1 Z (Xt (fun a2 b2=>[(0,.str a2),(1,.str b2)]) (fun a2 b2=>[]) (fun bY a2 b2=>j_ bY a2 b2=some r0) BIG a1 b1 Z Z hf (fun _ _ hz=>bT hz) ?_)); intro bY a2 b2 hf; rw [j_] at hf; refine W 3 Z (An 3 10 13 [0,1] (!(b2 == ([]:Str))) Z Z Z Z (J 0 Z (C hf Z (fun h2 hf=>?_) fun h2 hf=>?_)))
 ·
  refine B1 hf fun n1 h3 hf=>W 1 Z (CL Z (NP _ h3 ?_)); refine B1 hf fun m1 h4 hf=>U 1 Z (CL Z (NP _ h4 (U 5 Z (An 3 20 23 [0,1,5,6] (decide (0 < m1)) Z Z Z Z (J 0 Z (C hf Z (fun h6 hf=>?_) fun h6 hf=>?_))))))
  ·
   refine V 0 Z (AW.draw 8 mixed (by kernel_rfl) Z ?_); refine Ev.cs aX 2 Z ?_; refine B1 hf fun x1 h7 hf=>Ev.cons Z Z Z (AO.oM h7 Z dP Z Z ⟨_,Z⟩ zg) (Ev.cs aX 2 Z ?_); refine B1 hf fun x2 h8 hf=>Ev.cons Z Z Z (AO.oM h8 Z dP Z Z ⟨_,Z⟩ zg) ?_; refine B1 hf fun c1 h9 hf=>Ev.cons Z Z Z (AO.call Z _ Z Z adH (OH _ _ h9 zg)) (Ev.cs aX 1 Z (Ev.nil ?_)); show AR _ _ _ _ _ _ _ _; refine J 2 Z (C hf Z (fun h10 hf=>?_) fun h10 hf=>?_)
   · cases hf; exact M 2 Z (Y Z h)
   refine V 0 Z (AW.draw 8 mixed (by kernel_rfl) Z ?_); refine Ev.cs aX 2 Z ?_; refine B1 hf fun a3 h11 hf=>Ev.cons Z Z Z (AO.oM h11 Z dP Z ⟨_,Z⟩ Z zg) (Ev.cs aX 2 Z ?_); refine B1 hf fun b3 h12 hf=>Ev.cons Z Z Z (AO.oM h12 Z dP Z ⟨_,Z⟩ Z zg) (Ev.cs aX 2 Z (Ev.nil ?_)); show AR _ _ _ _ _ _ _ _; exact N 0 Z ⟨a3,b3,Z,Z,Z,hf⟩
  refine V 0 Z (AW.draw 5 mixed (by kernel_rfl) Z ?_); refine Ev.cs aX 1 Z ?_; refine B1 hf fun x3 lH hf=>Ev.cons Z Z Z (AO.fP lH Z dP Z Z zg) (Ev.cs aX 1 Z ?_); refine B1 hf fun x4 lV hf=>Ev.cons Z Z Z (AO.fP lV Z dP Z Z zg) (Ev.cs aX 1 Z (Ev.nil ?_)); show AR _ _ _ _ _ _ _ _; refine J 0 Z (C hf Z (fun ru hf=>?_) fun ru hf=>?_)
  ·
   refine V 0 Z (AW.draw 6 mixed (by kernel_rfl) Z ?_); refine Ev.cs aX 1 Z ?_; refine B1 hf fun x5 h16 hf=>Ev.cons Z Z Z (AO.fP h16 Z dP Z Z zg) (Ev.cs aX 1 Z ?_); refine B1 hf fun x6 xB hf=>Ev.cons Z Z Z (AO.fP xB Z dP Z Z zg) ?_; refine BR hf fun x7 h18 hf=>?_; refine Ev.cons Z Z Z (AO.call Z _ Z Z adG (KY _ _ h18 zg)) (Ev.cs aX 1 Z (Ev.nil ?_)); show AR _ _ _ _ _ _ _ _; cases hf; exact N 0 Z (Y Z h)
  refine V 0 Z (AW.draw 6 mixed (by kernel_rfl) Z ?_); refine Ev.cs aX 1 Z ?_; refine B1 hf fun a4 h19 hf=>Ev.cons Z Z Z (AO.oM h19 Z dP Z ⟨_,Z⟩ Z zg) (Ev.cs aX 1 Z ?_); refine B1 hf fun b4 h20 hf=>Ev.cons Z Z Z (AO.oM h20 Z dP Z ⟨_,Z⟩ Z zg) (Ev.cs aX 2 Z (Ev.nil ?_)); show AR _ _ _ _ _ _ _ _; exact N 0 Z ⟨a4,b4,Z,Z,Z,hf⟩
 refine W 1 Z (AS Z (AO.cK Z Z Z Z dP Z (U 1 Z (AS Z (AO.cK Z Z Z Z dP Z ?_))))); refine BR hf fun x8 h21 hf=>?_; refine CL Z (nD _ _ h21 ?_); cases hf; exact N 1 Z (Y Z h)
theorem RG (v1:ah) {r0:Bool} (hf:Ad v1=some r0) (h:Q (.ret (.bool r0)) τ):PC 107 [.agg (aK v1)] τ Q:=by
 unfold Ad at hf; refine BN 44 [.tmp 2] [0] Tryz.func107 Z Z Z Z Z (W 4 Z (AS Z (AO.aM (l:=v1.keys) Z Z Z Z iY Z Z (U 2 Z (AS Z (AO.aM (l:=v1.bH) Z Z Z Z gK Z (ah.aC _) (J 1 Z (C hf Z (fun h1 hf=>?_) fun h1 hf=>?_))))))))
 · cases hf; exact M 1 Z (Y Z h)
 refine W 2 Z (AS Z (AO.aM (l:=v1.keys) Z Z Z Z iY Z Z (J 1 Z (Gm (fun i1=>[(1,.ref (aK v1)),(13,sP v1.keys),(14,iP (v1.keys.length:Int)),(15,iP i1)]) (fun i1=>[]) (fun bY i1=>qI v1 bY i1=some r0) BIG 0 Z Z hf (fun _ hz=>bT hz) ?_)))); intro bY i1 hf; rw [qI] at hf; refine V 1 Z (C hf Z (fun h2 hf=>?_) fun h2 hf=>?_)
 ·
  refine B1 hf fun zo h3 hf=>W 1 Z (AS Z (AO.aO h3 Z Z Z Z iY Z Z (U 4 Z (AS Z (AO.cK Z Z Z Z dP Z (U 2 Z (AR.or 4 23 27 [1,3,4,13,14,15] (x:=(decide (64 < (zo.length:Int)))) Z Z (fun h4=>?_) (fun h4=>?_) ?_)))))))
  · refine Is 23 h4 Z (U 1 Z (GO Z (AO.cK Z Z Z Z dP Z ?_))); exact fG 2 Z (En [27,1,3,4,13,14,15] Z)
  · refine Is 23 h4 Z ?_; exact fG 4 Z (En [27,1,3,4,13,14,15] Z)
  refine B1 hf fun b1 h6 hf=>U 1 Z (AR.fV 14 28 42 false [1,13,14,15] b1 Z Z (fun h5=>?_) (fun h5=>?_) ?_)
  ·
   refine IF 28 h5 h6 Z fun h6=>?_; refine BR h6 fun b2 h8 h6=>?_; refine U 3 Z (AR.fV 10 31 41 true [1,13,14,15,28] b2 Z Z (fun h7=>?_) (fun h7=>?_) ?_)
   · refine IT 31 h7 h8 Z fun h8=>?_; refine B1 h8 fun e1 h9 h8=>U 4 Z (GO Z (AO.aO h9 Z Z Z Z iY Z Z ?_)); refine B1 h8 fun x1 h10 h8=>U 2 Z (GO Z (AO.call Z _ Z Z acr (Bp _ _ h10 ?_))); cases h8; exact fG 2 Z (En [41,1,13,14,15,28] Z)
   · refine IF 31 h7 h8 Z fun h8=>?_; cases h8; exact fG 10 Z (En [41,1,13,14,15,28] Z)
   cases h6; exact fG 1 Z (En [42,1,13,14,15] Z)
  · refine IT 28 h5 h6 Z fun h6=>?_; cases h6; exact fG 14 Z (En [42,1,13,14,15] Z)
  refine J 0 Z (C hf Z (fun h11 hf=>?_) fun h11 hf=>?_)
  · cases hf; exact M 1 Z (Y Z h)
  exact M 2 Z ⟨(dA (i1 + 1)),Z,Z,Z,hf⟩
 cases hf; exact M 1 Z (Y Z h)
theorem Ug (v1:ah) (bU:Int) {r0:Int} (hf:Cr v1 bU=some r0) (h:Q (.ret (iP r0)) τ):PC 66 [.agg (aK v1),iP bU] τ Q:=by
 unfold Cr at hf; refine BN 78 [.tmp 4] [0,1] Tryz.func66 Z Z Z Z Z (W 6 Z (On 4 9 13 [1,2] (v1.kind == 5) Z Z Z Z (J 4 Z (C hf Z (fun h2 hf=>?_) fun h2 hf=>?_))))
 · cases hf; exact M 1 Z (Y Z h)
 refine W 4 Z (On 4 21 25 [1,2,5] (decide (5 < v1.kind)) Z Z Z Z ?_); refine B1 hf fun b1 h5 hf=>U 1 Z (AR.fV 4 26 30 false [1,2,5] b1 Z Z (fun h4=>?_) (fun h4=>?_) ?_)
 · refine IF 26 h4 h5 Z fun h5=>?_; refine B1 h5 fun x1 h6 h5=>U 1 Z (GO Z (AO.call Z _ Z Z adR (Qu _ h6 ?_))); cases h5; exact fG 2 Z (En [30,1,2,5] Z)
 · refine IT 26 h4 h5 Z fun h5=>?_; cases h5; exact fG 4 Z (En [30,1,2,5] Z)
 refine J 1 Z (C hf Z (fun h7 hf=>?_) fun h7 hf=>?_)
 · cases hf; exact M 1 Z (Y Z h)
 refine W 4 Z (On 4 35 39 [1,2,5] (decide (9007199254740992 < v1.iC)) Z Z Z Z (J 1 Z (C hf Z (fun h9 hf=>?_) fun h9 hf=>?_)))
 · cases hf; exact M 1 Z (Y Z h)
 refine W 2 Z (AS Z (AO.cK Z Z Z Z dP Z (U 2 Z (AR.or 5 45 50 [1,2,5] (x:=(decide (1024 < (v1.bH.length:Int)))) Z Z (fun h10=>?_) (fun h10=>?_) ?_))))
 · refine Is 45 h10 Z (U 2 Z (GO Z (AO.aM (l:=v1.bH) Z Z Z Z gK Z (ah.aC _) ?_))); exact fG 2 Z (En [50,1,2,5] Z)
 · refine Is 45 h10 Z ?_; exact fG 5 Z (En [50,1,2,5] Z)
 refine U 1 Z (AR.or 5 51 56 [1,2,5] (x:=(decide (1024 < (v1.keys.length:Int)))) Z Z (fun h11=>?_) (fun h11=>?_) ?_)
 · refine Is 51 h11 Z (U 2 Z (GO Z (AO.aM (l:=v1.keys) Z Z Z Z iY Z Z ?_))); exact fG 2 Z (En [56,1,2,5] Z)
 · refine Is 51 h11 Z ?_; exact fG 5 Z (En [56,1,2,5] Z)
 refine J 1 Z (C hf Z (fun h12 hf=>?_) fun h12 hf=>?_)
 · cases hf; exact M 1 Z (Y Z h)
 refine B1 hf fun b2 lV hf=>W 4 Z (AR.fV 4 61 65 true [1,2,5] b2 Z Z (fun lH=>?_) (fun lH=>?_) ?_)
 · refine IT 61 lH lV Z fun lV=>?_; refine B1 lV fun x2 ru lV=>U 1 Z (GO Z (AO.call Z _ Z Z adQ (RG _ ru ?_))); cases lV; exact fG 2 Z (En [65,1,2,5] Z)
 · refine IF 61 lH lV Z fun lV=>?_; cases lV; exact fG 4 Z (En [65,1,2,5] Z)
 refine J 1 Z (C hf Z (fun h16 hf=>?_) fun h16 hf=>?_)
 · cases hf; exact M 1 Z (Y Z h)
 refine W 2 Z (AR.and 5 68 73 [1] (x:=((v1.bH.length:Int) == 0)) Z Z (fun xB=>?_) (fun xB=>?_) ?_)
 · refine Is 68 xB Z (U 2 Z (GO Z (AO.aM (l:=v1.bH) Z Z Z Z gK Z (ah.aC _) ?_))); exact fG 2 Z (En [73,1] Z)
 · refine Is 68 xB Z ?_; exact fG 5 Z (En [73,1] Z)
 refine U 1 Z (An 3 74 77 [] (bU == 16) Z Z Z Z (J 1 Z (C hf Z (fun h19 hf=>?_) fun h19 hf=>?_)))
 · cases hf; exact M 1 Z (Y Z h)
 cases hf; exact M 1 Z (Y Z h)
theorem om (v1:ah) {r0:Int} (hf:l5 v1=some r0) (h:Q (.ret (iP r0)) τ):PC 39 [.agg (aK v1)] τ Q:=by
 unfold l5 at hf; refine AC.none (AC.J7 16 [.cell 2 25] [0] Tryz.func39 Z Z Z Z Z ?_); obtain ⟨b1,s1,h1,hf⟩:=bP hf; cases hf; refine AW.sr (AR.step Z Z Z (AO.B_ Z Z Z (AR.step Z Z Z (AO.aF Z Zl (fun b2=>(AR.nil [1,2] Z ?_)))))); refine AW.seq (AW.sr (cs 1 Z (AR.step Z Z Z (AO.call Z _ Z Z acz (J9 _ _ ?_))))); refine AR.nil [2,7] Z (AW.block (AW.rangeFunc (β:=Option Int) (X:=Int × ah) Z aam (fun x=>[iP x.1,.agg (aK x.2)]) (fun _=>Z) (by decide) (fun s x=>mO s x.1 x.2) (fun s=>[.box b2 [iP (s.getD 0)]]) (fun s=>s.map fun _=>.ret) (s0:=none) (s1:=s1) Z Z ?_ ?_ ?_))
 ·
  intro l T' hy; refine Gx l T' mO (fun s1 bU v1 b s2 hh=>hy s1 (bU,v1) b s2 hh) none v1 1 h1 ⟨⟨_,Z⟩,Z⟩
 ·
  rintro l s ⟨bU,x1⟩ b s2 hh; unfold mO at hh; cases s with
  | some e=>cases hh
  | none=>
  refine ⟨Z,?_⟩; refine B1 hh fun e1 h2 hh=>?_; refine zn.seq (zn.region Z (cs 1 Z (AR.nil [2,3,9] Z ?_))); refine zn.region Z (AR.step Z Z Z (AO.aF Z gF (fun b4=>(AR.bF Z Z (AO.bR (i:=0) Z Z Z kZ Z Z Z Z Z (AR.nil [2,3,4] Z ?_)))))); refine ⟨Z,(zn.block (zn.seq (zn.region Z ?_)))⟩; refine AR.step Z Z Z (AO.aY (i:=0) Z Z Z kZ Z Z (cs 1 Z (AR.step Z Z Z (AO.call Z _ Z Z afi (Ug _ _ h2 (cs 1 Z ?_)))))); refine AR.nil [2,5] Z (zn.seq (zn.region Z (cs 2 Z ?_))); refine AR.nil [2,5,14] Z (zn.cond Z (fun h3=>?_) (fun h3=>?_))
  ·
   replace hh:=jm h3 hh; cases hh; refine zn.seq (zn.region Z (cs 1 Z (AR.bF Z Z (AO.bR (i:=1) Z Z Z DF Z Z Z Z Z ?_)))); refine AR.nil [] Z (zn.ret ?_); exact ⟨Z,.cons _ (List.Sublist.refl _),Z,Z⟩
  ·
   replace hh:=iO h3 hh; cases hh; refine zn.skip ?_; exact ⟨Z,.cons _ (List.Sublist.refl _),Z,Z⟩
 ·
  intro D; cases s1 with
  | some e=>exact ⟨D,_,Z,Z,_,⟨_,_,Z,⟨_,_,0,_,_,Z,Z,DF,Z⟩,Z⟩,[],List.nil_sublist _,h⟩
  | none=>
   show AW _ _ _ _ _ _ _; refine AW.sr (AR.bF Z Z (AO.bR (i:=0) Z Z Z DF Z Z Z Z Z (AR.nil [2] Z (AW.ret ?_)))); exact ⟨D,[_],Z,Z,_,⟨_,_,Z,⟨_,_,0,_,_,Z,Z,DF,Z⟩,Z⟩,[],List.nil_sublist _,h⟩
theorem Mq (l1:List Str) {r0:Bool} (hf:Bc l1=some r0) (h:Q (.ret (.bool r0)) τ):PC 136 [sP l1] τ Q:=by
 unfold Bc at hf; refine BN 22 [.tmp 2] [0] Tryz.func136 Z Z Z Z Z (W 1 Z (AS Z (AO.PX Z (fun m6=>(U 2 Z (AS Z (AO.aM (l:=l1) Z Z Z Z iY Z Z (J 1 Z (Xt (fun x1 y1=>[(3,.val (.map (some m6))),(7,sP l1),(8,iP (l1.length:Int)),(9,iP x1)]) (fun x1 y1=>[.obj m6 (vU y1)]) (fun bY x1 y1=>rQ l1 bY x1 y1=some r0) BIG 0 [] Z Z hf (fun _ _ hz=>bT hz) ?_))))))))); intro bY x1 y1 hf; rw [rQ] at hf; refine V 1 Z (C hf Z (fun h1 hf=>?_) fun h1 hf=>?_)
 ·
  refine B1 hf fun s1 h2 hf=>W 0 Z (AS Z (AO.aO h2 Z Z Z Z iY Z Z (U 4 Z (AS Z (AO.Jw (i:=0) (l:=y1) Z Z Z Z FQ dP Yi (U 1 Z (AR.bF Z Z (AO.KD (i:=0) (l:=y1) Z Z Z Z Z FQ dP (U 2 Z (AS Z (AO.Jw (i:=0) (l:=(Bf y1 s1 (dA ((Ej y1 s1) + 1)))) Z Z Z Z FQ dP Yi ?_))))))))))); refine J 1 Z (C hf Z (fun h3 hf=>?_) fun h3 hf=>?_)
  · cases hf; exact M 1 Z (Y Z h)
  exact M 2 Z ⟨(dA (x1 + 1)),(Bf y1 s1 (dA ((Ej y1 s1) + 1))),Z,Z,Z,hf⟩
 cases hf; exact M 1 Z (Y Z h)
theorem RU (e1:aj) (bU:Int) {r0:Int} (hf:Ij e1 bU=some r0) (h:Q (.ret (iP r0)) τ):PC 99 [.agg (bI e1),iP bU] τ Q:=by
 unfold Ij at hf; refine BN 65 [.tmp 4] [0,1] Tryz.func99 Z Z Z Z Z (V 5 Z (C hf Z (fun h1 hf=>?_) fun h1 hf=>?_))
 · cases hf; exact M 1 Z (Y Z h)
 refine W 4 Z (On 4 12 16 [2] (decide (10 < e1.kind)) Z Z Z Z ?_); refine B1 hf fun b1 h4 hf=>U 1 Z (AR.fV 10 17 27 false [2] b1 Z Z (fun h3=>?_) (fun h3=>?_) ?_)
 ·
  refine IF 17 h3 h4 Z fun h4=>?_; refine BR h4 fun b2 h6 h4=>?_; refine U 4 Z (AR.fV 5 21 26 true [2,17] b2 Z Z (fun h5=>?_) (fun h5=>?_) ?_)
  · refine IT 21 h5 h6 Z fun h6=>?_; refine B1 h6 fun x1 h7 h6=>U 2 Z (GO Z (AO.call Z _ Z Z adF (RP _ h7 ?_))); cases h6; exact fG 2 Z (En [26,2,17] Z)
  · refine IF 21 h5 h6 Z fun h6=>?_; cases h6; exact fG 5 Z (En [26,2,17] Z)
  cases h4; exact fG 1 Z (En [27,2] Z)
 · refine IT 17 h3 h4 Z fun h4=>?_; cases h4; exact fG 10 Z (En [27,2] Z)
 refine B1 hf fun b3 h9 hf=>U 1 Z (AR.fV 4 28 32 false [2] b3 Z Z (fun h8=>?_) (fun h8=>?_) ?_)
 · refine IF 28 h8 h9 Z fun h9=>?_; refine B1 h9 fun x2 h10 h9=>U 1 Z (GO Z (AO.call Z _ Z Z adE (QA _ h10 ?_))); cases h9; exact fG 2 Z (En [32,2] Z)
 · refine IT 28 h8 h9 Z fun h9=>?_; cases h9; exact fG 4 Z (En [32,2] Z)
 refine B1 hf fun b4 h12 hf=>U 1 Z (AR.fV 4 33 37 false [2] b4 Z Z (fun h11=>?_) (fun h11=>?_) ?_)
 · refine IF 33 h11 h12 Z fun h12=>?_; refine B1 h12 fun x3 lH h12=>U 1 Z (GO Z (AO.call Z _ Z Z adD (QF _ lH ?_))); cases h12; exact fG 2 Z (En [37,2] Z)
 · refine IT 33 h11 h12 Z fun h12=>?_; cases h12; exact fG 4 Z (En [37,2] Z)
 refine B1 hf fun b5 ru hf=>U 1 Z (AR.fV 4 38 42 false [2] b5 Z Z (fun lV=>?_) (fun lV=>?_) ?_)
 · refine IF 38 lV ru Z fun ru=>?_; refine B1 ru fun x4 h16 ru=>U 1 Z (GO Z (AO.call Z _ Z Z adC (QB _ h16 ?_))); cases ru; exact fG 2 Z (En [42,2] Z)
 · refine IT 38 lV ru Z fun ru=>?_; cases ru; exact fG 4 Z (En [42,2] Z)
 refine J 1 Z (C hf Z (fun xB hf=>?_) fun xB hf=>?_)
 · cases hf; exact M 1 Z (Y Z h)
 refine B1 hf fun b6 h19 hf=>W 4 Z (AR.fV 5 47 52 true [2] b6 Z Z (fun h18=>?_) (fun h18=>?_) ?_)
 · refine IT 47 h18 h19 Z fun h19=>?_; refine B1 h19 fun x5 h20 h19=>U 2 Z (GO Z (AO.call Z _ Z Z acF (om _ h20 ?_))); cases h19; exact fG 2 Z (En [52,2] Z)
 · refine IF 47 h18 h19 Z fun h19=>?_; cases h19; exact fG 5 Z (En [52,2] Z)
 refine J 1 Z (C hf Z (fun h21 hf=>?_) fun h21 hf=>?_)
 · refine BR hf fun x6 h22 hf=>?_; refine W 2 Z (CL Z (om _ h22 ?_)); cases hf; exact N 1 Z (Y Z h)
 refine W 2 Z (AS Z (AO.aM (l:=e1.args) Z Z Z Z je Z (aj.aC _) (J 2 Z (C hf Z (fun h23 hf=>?_) fun h23 hf=>?_))))
 · cases hf; exact M 1 Z (Y Z h)
 refine B1 hf fun x7 Ry hf=>W 2 Z (CL Z (Mq _ Ry (J 1 Z (C hf Z (fun SC hf=>?_) fun SC hf=>?_))))
 · cases hf; exact M 1 Z (Y Z h)
 cases hf; exact M 1 Z (Y Z h)
abbrev Jj (jW:aj→Int→Option Int):Prop:=∀ (jT:aj) (eZ:Int) {aP:Int},jW jT eZ=some aP→∀ {τ:List bn} {Q:cZ→List bn→Prop} (h:Q (.ret (iP aP)) τ),PC 60 [.agg (bI jT),iP eZ] τ Q
theorem O5 (jW) (MW:Jj jW) (e1:aj) (bU:Int) {r0:Int} (hf:CG jW e1 bU=some r0) (h:Q (.ret (iP r0)) τ):PC 60 [.agg (bI e1),iP bU] τ Q:=by
 unfold CG at hf; refine BN 30 [.tmp 4] [0,1] Tryz.func60 Z Z Z Z Z ?_; refine B1 hf fun f1 h1 hf=>W 4 Z (CL Z (RU _ _ h1 (J 3 Z (C hf Z (fun h2 hf=>?_) fun h2 hf=>?_))))
 · cases hf; exact M 2 Z (Y Z h)
 refine W 2 Z (AS Z (AO.aM (l:=e1.args) Z Z Z Z je Z (aj.aC _) (J 1 Z (Gm (fun x1=>[(1,iP bU),(16,.list (aj.aN e1.args)),(17,iP (e1.args.length:Int)),(18,iP x1)]) (fun x1=>[]) (fun bY x1=>wR jW e1 bU bY x1=some r0) BIG 0 Z Z hf (fun _ hz=>bT hz) ?_)))); intro bY x1 hf; rw [wR] at hf; refine V 1 Z (C hf Z (fun h3 hf=>?_) fun h3 hf=>?_)
 ·
  refine B1 hf fun e2 h4 hf=>W 0 Z (AS Z (AO.aO h4 Z Z (aj.aC _) Z je (aj.aG _) Z (U 1 Z (AS Z (AO.aF Z iX (fun b7=>?_)))))); refine B1 hf fun f2 h5 hf=>Rr 4 [0,0] Z Z (CL Z (MW _ _ h5 (J 3 Z (C hf Z (fun h6 hf=>?_) fun h6 hf=>?_))))
  · cases hf; exact M 2 Z (Y Z h)
  refine Wn0 2 Z (AR.drop1 ?_); exact N 0 Z ⟨(dA (x1 + 1)),Z,Z,Z,hf⟩
 cases hf; exact M 1 Z (Y Z h)
theorem PN :∀ k:Nat,(Jj (uy k)):=by
 intro k
 induction k with
 | zero=>exact fun _ _ _ hz=>by first | cases hz | (unfold uy at hz; cases hz)
 | succ k ih=>exact fun jT eZ aP hz τ Q hq=>O5 (uy k) ih jT eZ hz hq
theorem Qy (jT:aj) (eZ:Int) {aP:Int} (hf:LD jT eZ=some aP) (h:Q (.ret (iP aP)) τ):PC 60 [.agg (bI jT),iP eZ] τ Q:=
 ((PN BIG)) jT eZ hf h
theorem qY (e1:aj) {r0:Int} (hf:qd e1=some r0) (h:Q (.ret (iP r0)) τ):PC 35 [.agg (bI e1)] τ Q:=by
 unfold qd at hf; refine BN 8 [.tmp 2] [0] Tryz.func35 Z Z Z Z Z ?_; refine B1 hf fun x1 h1 hf=>W 3 Z (CL Z (QH _ h1 (J 1 Z (C hf Z (fun h2 hf=>?_) fun h2 hf=>?_))))
 · cases hf; exact M 1 Z (Y Z h)
 refine BR hf fun x2 h3 hf=>?_; refine W 1 Z (CL Z (Qy _ _ h3 ?_)); cases hf; exact N 1 Z (Y Z h)
theorem Jd (s1:Str) {r0:Bool} (hf:BS s1=some r0) (h:Q (.ret (.bool r0)) τ):PC 111 [.str s1] τ Q:=by
 unfold BS at hf; refine BN 7 [.tmp 2] [0] Tryz.func111 Z Z Z Z Z ?_; refine B1 hf fun x1 h1 hf=>W 3 Z (CL Z (qY _ h1 ?_)); cases hf; exact N 2 Z (Y Z h)
theorem J2 (b1:au) {r0:Int} (hf:yZ b1=some r0) (h:Q (.ret (iP r0)) τ):PC 112 [.agg (dW b1)] τ Q:=by
 unfold yZ at hf; refine BN 36 [.tmp 2] [0] Tryz.func112 Z Z Z Z Z (W 2 Z (AS Z (AO.PX Z (fun m7=>(U 3 Z (AS Z (AO.aM (l:=b1.attrs) Z Z Z Z sF Z Z (J 1 Z (Xt (fun x1 y1=>[(3,.val (.map (some m7))),(9,.list (List.map aS.cells b1.attrs)),(10,iP (b1.attrs.length:Int)),(11,iP x1)]) (fun x1 y1=>[.obj m7 (vU y1)]) (fun bY x1 y1=>qm b1 bY x1 y1=some r0) BIG 0 [] Z Z hf (fun _ _ hz=>bT hz) ?_))))))))); intro bY x1 y1 hf; rw [qm] at hf; refine V 1 Z (C hf Z (fun h1 hf=>?_) fun h1 hf=>?_)
 ·
  refine B1 hf fun e1 h2 hf=>W 0 Z (AS Z (AO.aO h2 Z Z Z Z sF (aS.aG _) Z (U 1 Z (AS Z (AO.aF Z OV (fun b5=>?_)))))); refine B1 hf fun x2 h3 hf=>Rr 3 [0,0] Z Z (CL Z (Jd _ h3 (J 1 Z (C hf Z (fun h4 hf=>?_) fun h4 hf=>?_))))
  · cases hf; exact M 1 Z (Y Z h)
  refine B1 hf fun e2 h5 hf=>Wr 2 [0] Z Z (CL Z (qY _ h5 (J 3 Z (C hf Z (fun h6 hf=>?_) fun h6 hf=>?_))))
  · cases hf; exact M 2 Z (Y Z h)
  refine Wr 3 [0] Z Z (AS Z (AO.Jw (i:=1) (l:=y1) Z Z Z Z FQ dP Yi (U 1 Z (AR.bF Z Z (AO.KD (i:=1) (l:=y1) Z Z Z Z Z FQ dP (Rr 3 [0] Z Z (AS Z (AO.Jw (i:=1) (l:=(Bf y1 e1.name (dA ((Ej y1 e1.name) + 1)))) Z Z Z Z FQ dP Yi (J 1 Z (C hf Z (fun h7 hf=>?_) fun h7 hf=>?_))))))))))
  · cases hf; exact M 1 Z (Y Z h)
  refine Wn0 2 Z (AR.drop1 ?_); exact N 0 Z ⟨(dA (x1 + 1)),(Bf y1 e1.name (dA ((Ej y1 e1.name) + 1))),Z,Z,Z,hf⟩
 cases hf; exact M 1 Z (Y Z h)
abbrev Jm (jZ:au→Int→Option Int):Prop:=∀ (l6:au) (eZ:Int) {aP:Int},jZ l6 eZ=some aP→∀ {τ:List bn} {Q:cZ→List bn→Prop} (h:Q (.ret (iP aP)) τ),PC 77 [.agg (dW l6),iP eZ] τ Q
theorem O8 (jZ) (M0:Jm jZ) (b1:au) (bU:Int) {r0:Int} (hf:C_ jZ b1 bU=some r0) (h:Q (.ret (iP r0)) τ):PC 77 [.agg (dW b1),iP bU] τ Q:=by
 unfold C_ at hf; refine BN 54 [.tmp 4] [0,1] Tryz.func77 Z Z Z Z Z (V 5 Z (C hf Z (fun h1 hf=>?_) fun h1 hf=>?_))
 · cases hf; exact M 1 Z (Y Z h)
 refine B1 hf fun x1 h2 hf=>W 2 Z (CL Z (Jd _ h2 (U 2 Z (AR.or 5 17 22 [1,2] (x:=(decide (64 < (b1.name.length:Int)))) Z Z (fun h3=>?_) (fun h3=>?_) ?_))))
 · refine Is 17 h3 Z (U 2 Z (GO Z (AO.cK Z Z Z Z dP Z ?_))); exact fG 2 Z (En [22,1,2] Z)
 · refine Is 17 h3 Z ?_; exact fG 5 Z (En [22,1,2] Z)
 refine J 1 Z (C hf Z (fun h4 hf=>?_) fun h4 hf=>?_)
 · cases hf; exact M 1 Z (Y Z h)
 refine W 2 Z (AS Z (AO.aM (l:=b1.attrs) Z Z Z Z sF Z Z (U 2 Z (AR.or 5 28 33 [1,2] (x:=(decide (1024 < (b1.blocks.length:Int)))) Z Z (fun h5=>?_) (fun h5=>?_) ?_))))
 · refine Is 28 h5 Z (U 2 Z (GO Z (AO.aM (l:=b1.blocks) Z Z Z Z mM Z (au.aC _) ?_))); exact fG 2 Z (En [33,1,2] Z)
 · refine Is 28 h5 Z ?_; exact fG 5 Z (En [33,1,2] Z)
 refine J 1 Z (C hf Z (fun h6 hf=>?_) fun h6 hf=>?_)
 · cases hf; exact M 1 Z (Y Z h)
 refine B1 hf fun e1 h7 hf=>W 1 Z (CL Z (J2 _ h7 (J 3 Z (C hf Z (fun h8 hf=>?_) fun h8 hf=>?_))))
 · cases hf; exact M 2 Z (Y Z h)
 refine W 2 Z (AS Z (AO.aM (l:=b1.blocks) Z Z Z Z mM Z (au.aC _) (J 1 Z (Gm (fun x2=>[(1,iP bU),(40,.list (au.aN b1.blocks)),(41,iP (b1.blocks.length:Int)),(42,iP x2)]) (fun x2=>[]) (fun bY x2=>wW jZ b1 bU bY x2=some r0) BIG 0 Z Z hf (fun _ hz=>bT hz) ?_)))); intro bY x2 hf; rw [wW] at hf; refine V 1 Z (C hf Z (fun h9 hf=>?_) fun h9 hf=>?_)
 ·
  refine B1 hf fun e2 h10 hf=>W 0 Z (AS Z (AO.aO h10 Z Z (au.aC _) Z mM (au.aG _) Z (U 1 Z (AS Z (AO.aF Z pE (fun b7=>?_)))))); refine B1 hf fun e3 h11 hf=>Rr 4 [0,0] Z Z (CL Z (M0 _ _ h11 (J 3 Z (C hf Z (fun h12 hf=>?_) fun h12 hf=>?_))))
  · cases hf; exact M 2 Z (Y Z h)
  refine Wn0 2 Z (AR.drop1 ?_); exact N 0 Z ⟨(dA (x2 + 1)),Z,Z,Z,hf⟩
 cases hf; exact M 1 Z (Y Z h)
theorem PU :∀ k:Nat,(Jm (uS k)):=by
 intro k
 induction k with
 | zero=>exact fun _ _ _ hz=>by first | cases hz | (unfold uS at hz; cases hz)
 | succ k ih=>exact fun l6 eZ aP hz τ Q hq=>O8 (uS k) ih l6 eZ hz hq
theorem QW (l6:au) (eZ:Int) {aP:Int} (hf:Md l6 eZ=some aP) (h:Q (.ret (iP aP)) τ):PC 77 [.agg (dW l6),iP eZ] τ Q:=
 ((PU BIG)) l6 eZ hf h
theorem Di (f1:dY) {r0:Int} (hf:za f1=some r0) (h:Q (.ret (iP r0)) τ):PC 47 [.agg [.list (au.aN f1.blocks)]] τ Q:=by
 unfold za at hf; refine BN 23 [.tmp 2] [0] Tryz.func47 Z Z Z Z Z (W 4 Z (AS Z (AO.aM (l:=f1.blocks) Z Z Z Z mM Z (au.aC _) (J 1 Z (C hf Z (fun h1 hf=>?_) fun h1 hf=>?_)))))
 · cases hf; exact M 1 Z (Y Z h)
 refine W 2 Z (AS Z (AO.aM (l:=f1.blocks) Z Z Z Z mM Z (au.aC _) (J 1 Z (Gm (fun x1=>[(11,.list (au.aN f1.blocks)),(12,iP (f1.blocks.length:Int)),(13,iP x1)]) (fun x1=>[]) (fun bY x1=>wX f1 bY x1=some r0) BIG 0 Z Z hf (fun _ hz=>bT hz) ?_)))); intro bY x1 hf; rw [wX] at hf; refine V 1 Z (C hf Z (fun h2 hf=>?_) fun h2 hf=>?_)
 ·
  refine B1 hf fun e1 h3 hf=>W 0 Z (AS Z (AO.aO h3 Z Z (au.aC _) Z mM (au.aG _) Z (U 1 Z (AS Z (AO.aF Z pE (fun b4=>?_)))))); refine B1 hf fun e2 h4 hf=>Rr 2 [0,0] Z Z (CL Z (QW _ _ h4 (J 3 Z (C hf Z (fun h5 hf=>?_) fun h5 hf=>?_))))
  · cases hf; exact M 2 Z (Y Z h)
  refine Wn0 2 Z (AR.drop1 ?_); exact N 0 Z ⟨(dA (x1 + 1)),Z,Z,Z,hf⟩
 cases hf; exact M 1 Z (Y Z h)
theorem KU (s1:List aS) {r0:List aS} (hf:d9 s1=some r0) (h:Q (.ret (.list (List.map aS.cells r0))) τ):PC 113 [.list (List.map aS.cells s1)] τ Q:=by
 unfold d9 at hf; refine BN 8 [.tmp 2] [0] Tryz.func113 Z Z Z Z Z (W 0 Z (AS Z (AO.dQ Z Z (U 1 Z (AS Z (AO.iE Z Z Xz (fun b hb=>(J 0 Z (AW.cond Z (fun h1=>?_) (fun h1=>?_))))))))))
 · obtain rfl:s1=[]:=List.map_eq_nil_iff.1 (hb h1); obtain ⟨_,rfl⟩:=jS hf; refine W 0 Z (AS Z (AO.dQ Z Z ?_)); exact N 0 rfl ⟨rfl,_,⟨_,_,rfl,rfl,rfl⟩,_,List.Sublist.refl _,h⟩
 refine W 0 Z (AS Z (AO.fE [] Z Ah Z Z Z Z Z (fun v1=>(U 1 Z (AS Z (AO.eO (i:=0) (l:=[]) (m:=s1) hf Z Z Z Z Z Z Z Ah sF Z Z Z (aS.bE) (aS.cells_one) (by decide) (fun v2 s2 hs2=>?_))))))); cases hs2; exact N 1 Z (Y Z h)
theorem I6 (s1:List aS) {r0:List aS} (hf:d9 s1=some r0) {Q:cZ→List bn→Prop} (h:∀ v,Q (.ret (.val v)) [.buf v r0.length 11 48 (r0.flatMap aS.cells)]):PC 113 [.list (List.map aS.cells s1)] [] Q:=by
 unfold d9 at hf; obtain ⟨hl,e0⟩:=jS hf; rw [List.nil_append] at e0; subst e0; simp only [List.length_nil,Nat.zero_add] at hl; have hlen:∀ x:aS,(aS.cells x).length=11:=fun _=>Z; have hone:∀ x:aS,(aS.cells x).all PV.one=true:=fun _=>Z; refine AC.jH 8 [.tmp 2] [0] Tryz.func113 Z Z Z Z Z (AW.sr (AR.step Z Z Z (AO.dQ Z Z (AR.nil [0] Z ?_)))); refine AW.seq (AW.sr (cs 1 Z (AR.step Z Z Z (AO.iE Z Z Xz (fun b hb=>?_))))); refine AR.nil [0,4] Z (AW.cond Z (fun h1=>?_) (fun h1=>?_))
 · obtain rfl:r0=[]:=List.map_eq_nil_iff.1 (hb h1); refine AW.sr (AR.step Z Z Z (AO.yF Z Z (AR.nil [2] Z (AW.R8 11 48 ?_)))); refine AW.ret ?_; exact ⟨rfl,_,⟨_,_,rfl,rfl,rfl⟩,_,List.Sublist.refl _,h _⟩
 refine AW.skip (AW.sr (AR.step Z Z Z (AO.fE [] Z Ah Z Z Z Z Z (fun v1=>(cs 1 Z ?_))))); refine AR.step Z Z Z (AO.zS (i:=0) (l2:=List.map aS.cells r0) Z Z Z Z Z Z Z Ah sF (fun y hy=>?_) (fun y hy=>?_) ?_ ?_ (fun v2 s1 hs1=>?_))
 · obtain ⟨s,_,rfl⟩:=List.mem_map.1 hy; exact hlen s
 · obtain ⟨s,_,rfl⟩:=List.mem_map.1 hy; exact hone s
 · rw [List.length_map]; unfold OU at hl; unfold maxLen; omega
 · rw [List.length_map]; unfold OU at hl; omega
 cases hs1; refine cs 1 Z (AR.nil [2] Z (AW.ret ?_)); have hv:=h v2; rw [List.flatMap_def,show r0.length=(List.map aS.cells r0).length from (List.length_map _).symm] at hv; exact ⟨rfl,_,⟨_,_,rfl,rfl,rfl⟩,_,List.Sublist.refl _,hv⟩
theorem I5 (s1:List aS) {r0:List aS} (hf:d9 s1=some r0) {Q:cZ→List bn→Prop} (h:∀ v,Q (.ret (.own v (List.map aS.cells r0))) [.row v (List.map aS.cells r0).length 11 48]):PC 113 [.list (List.map aS.cells s1)] [] Q:=by
 unfold d9 at hf; refine AC.Ak 8 [.tmp 2] [0] Tryz.func113 Z Z Z Z Z (AW.sr (AR.step Z Z Z (AO.dQ Z Z (AR.nil [0] Z ?_)))); refine AW.seq (AW.sr (cs 1 Z (AR.step Z Z Z (AO.iE Z Z Xz (fun b hb=>?_))))); refine AR.nil [0,4] Z (AW.cond Z (fun h1=>?_) (fun h1=>?_))
 · obtain rfl:s1=[]:=List.map_eq_nil_iff.1 (hb h1); obtain ⟨_,rfl⟩:=jS hf; refine AW.sr (cs 1 Z (AR.nil [2] Z (AW.row 11 48 ?_))); refine AW.ret ?_; exact ⟨rfl,_,⟨_,_,rfl,rfl,rfl⟩,_,List.Sublist.refl _,h _⟩
 refine AW.skip (AW.sr (AR.step Z Z Z (AO.fE [] Z Ah Z Z Z Z Z (fun v1=>(cs 1 Z ?_))))); refine AR.step Z Z Z (AO.eO (i:=0) (l:=[]) (m:=s1) hf Z Z Z Z Z Z Z Ah sF Z Z Z (aS.bE) (aS.cells_one) (by decide) (fun v2 s2 hs2=>?_)); cases hs2; refine cs 1 Z (AR.nil [2] Z (AW.ret ?_)); exact ⟨rfl,_,⟨_,_,rfl,rfl,rfl⟩,_,List.Sublist.refl _,h v2⟩
theorem mK (s1:List Str) {r0:List Str} (hf:fM s1=some r0) (h:Q (.ret (sP r0)) τ):PC 42 [sP s1] τ Q:=by
 unfold fM at hf; refine BN 8 [.tmp 2] [0] Tryz.func42 Z Z Z Z Z (W 0 Z (AS Z (AO.dQ Z Z (U 1 Z (AS Z (AO.iE Z Z acg (fun b hb=>(J 0 Z (AW.cond Z (fun h1=>?_) (fun h1=>?_))))))))))
 · obtain rfl:s1=[]:=List.map_eq_nil_iff.1 (hb h1); obtain ⟨_,rfl⟩:=jS hf; refine W 0 Z (AS Z (AO.dQ Z Z ?_)); exact N 0 rfl ⟨rfl,_,⟨_,_,rfl,rfl,rfl⟩,_,List.Sublist.refl _,h⟩
 refine W 0 Z (AS Z (AO.fE [] Z rD Z Z Z Z Z (fun v1=>(U 1 Z (AS Z (AO.eO (i:=0) (l:=[]) (m:=s1) hf Z Z Z Z Z Z Z rD iY Z Z Z (fun _=>Z) (fun _=>Z) (by decide) (fun v2 s2 hs2=>?_))))))); cases hs2; exact N 1 Z (Y Z h)
theorem KS (s1:List Str) {r0:List Str} (hf:fM s1=some r0) {Q:cZ→List bn→Prop} (h:∀ v,Q (.ret (.own v (List.map mo r0))) [.row v (List.map mo r0).length 1 9]):PC 42 [sP s1] [] Q:=by
 unfold fM at hf; refine AC.Ak 8 [.tmp 2] [0] Tryz.func42 Z Z Z Z Z (AW.sr (AR.step Z Z Z (AO.dQ Z Z (AR.nil [0] Z ?_)))); refine AW.seq (AW.sr (cs 1 Z (AR.step Z Z Z (AO.iE Z Z acg (fun b hb=>?_))))); refine AR.nil [0,4] Z (AW.cond Z (fun h1=>?_) (fun h1=>?_))
 · obtain rfl:s1=[]:=List.map_eq_nil_iff.1 (hb h1); obtain ⟨_,rfl⟩:=jS hf; refine AW.sr (cs 1 Z (AR.nil [2] Z (AW.row 1 9 ?_))); refine AW.ret ?_; exact ⟨rfl,_,⟨_,_,rfl,rfl,rfl⟩,_,List.Sublist.refl _,h _⟩
 refine AW.skip (AW.sr (AR.step Z Z Z (AO.fE [] Z rD Z Z Z Z Z (fun v1=>(cs 1 Z ?_))))); refine AR.step Z Z Z (AO.eO (i:=0) (l:=[]) (m:=s1) hf Z Z Z Z Z Z Z rD iY Z Z Z (fun _=>Z) (fun _=>Z) (by decide) (fun v2 s2 hs2=>?_)); cases hs2; refine cs 1 Z (AR.nil [2] Z (AW.ret ?_)); exact ⟨rfl,_,⟨_,_,rfl,rfl,rfl⟩,_,List.Sublist.refl _,h v2⟩
theorem JX (s1:List ah) {r0:List ah} (hf:eG s1=some r0) (h:Q (.ret (.list (ah.aN r0))) τ):PC 43 [.list (ah.aN s1)] τ Q:=by
 unfold eG at hf; refine BN 8 [.tmp 2] [0] Tryz.func43 Z Z Z Z Z (W 0 Z (AS Z (AO.dQ Z Z (U 1 Z (AS Z (AO.iE Z Z Zw (fun b hb=>(J 0 Z (AW.cond Z (fun h1=>?_) (fun h1=>?_))))))))))
 · have hb1:=hb h1; rw [ah.aC] at hb1; obtain rfl:s1=[]:=List.map_eq_nil_iff.1 hb1; obtain ⟨_,rfl⟩:=jS hf; refine W 0 Z (AS Z (AO.dQ Z Z ?_)); exact N 0 rfl ⟨rfl,_,⟨_,_,rfl,rfl,rfl⟩,_,List.Sublist.refl _,h⟩
 refine W 0 Z (AS Z (AO.fE [] Z xI Z Z Z Z Z (fun v1=>(U 1 Z (AS Z (AO.eO (i:=0) (l:=[]) (m:=s1) hf Z Z Z Z Z Z Z xI gK (show ([]:List (List PV))=List.map ah.cells [] from Z) (ah.aC _) (ah.aC _).symm (ah.bE) (ah.cells_one) (by decide) (fun v2 s2 hs2=>?_))))))); cases hs2; exact N 1 Z (Y Z h)
theorem G5 (s1:List ah) {r0:List ah} (hf:eG s1=some r0) {Q:cZ→List bn→Prop} (h:∀ v,Q (.ret (.own v (ah.aN r0))) [.row v (ah.aN r0).length 6 42]):PC 43 [.list (ah.aN s1)] [] Q:=by
 unfold eG at hf; refine AC.Ak 8 [.tmp 2] [0] Tryz.func43 Z Z Z Z Z (AW.sr (AR.step Z Z Z (AO.dQ Z Z (AR.nil [0] Z ?_)))); refine AW.seq (AW.sr (cs 1 Z (AR.step Z Z Z (AO.iE Z Z Zw (fun b hb=>?_))))); refine AR.nil [0,4] Z (AW.cond Z (fun h1=>?_) (fun h1=>?_))
 · have hb1:=hb h1; rw [ah.aC] at hb1; obtain rfl:s1=[]:=List.map_eq_nil_iff.1 hb1; obtain ⟨_,rfl⟩:=jS hf; refine AW.sr (cs 1 Z (AR.nil [2] Z (AW.row 6 42 ?_))); refine AW.ret ?_; exact ⟨rfl,_,⟨_,_,rfl,rfl,rfl⟩,_,List.Sublist.refl _,h _⟩
 refine AW.skip (AW.sr (AR.step Z Z Z (AO.fE [] Z xI Z Z Z Z Z (fun v1=>(cs 1 Z ?_))))); refine AR.step Z Z Z (AO.eO (i:=0) (l:=[]) (m:=s1) hf Z Z Z Z Z Z Z xI gK (show ([]:List (List PV))=List.map ah.cells [] from Z) (ah.aC _) (ah.aC _).symm (ah.bE) (ah.cells_one) (by decide) (fun v2 s2 hs2=>?_)); cases hs2; refine cs 1 Z (AR.nil [2] Z (AW.ret ?_)); exact ⟨rfl,_,⟨_,_,rfl,rfl,rfl⟩,_,List.Sublist.refl _,h v2⟩
theorem tV (s1:List ah) {r0:List ah} (hf:eG s1=some r0) {Q:cZ→List bn→Prop} (h:∀ v,Q (.ret (.val v)) [.buf v r0.length 6 42 (r0.flatMap ah.cells)]):PC 43 [.list (ah.aN s1)] [] Q:=by
 unfold eG at hf; obtain ⟨hl,hr⟩:=jS hf; rw [hr,List.nil_append] at h; rw [List.length_nil,Nat.zero_add] at hl; rw [ah.aC]; refine AC.jH 8 [.tmp 2] [0] Tryz.func43 Z Z Z Z Z (AW.sr (AR.step Z Z Z (AO.dQ Z Z (AR.nil [0] Z ?_)))); refine AW.seq (AW.sr (cs 1 Z (AR.step Z Z Z (AO.iE Z Z Zw (fun b hb=>?_))))); refine AR.nil [0,4] Z (AW.cond Z (fun h1=>?_) (fun h1=>?_))
 · obtain rfl:s1=[]:=List.map_eq_nil_iff.1 (hb h1); refine AW.sr (AR.step Z Z Z (AO.yF Z Z (AR.nil [2] Z (AW.R8 6 42 ?_)))); refine AW.ret ?_; exact ⟨rfl,_,⟨_,_,rfl,rfl,rfl⟩,_,List.Sublist.refl _,h _⟩
 refine AW.skip (AW.sr (AR.step Z Z Z (AO.fE [] Z xI Z Z Z Z Z (fun v1=>(cs 1 Z ?_))))); refine AR.step Z Z Z (AO.zS (i:=0) (l2:=List.map ah.cells s1) Z Z Z Z Z Z Z xI gK (fun y hy=>?_) (fun y hy=>?_) ?_ ?_ (fun v2 s1 hs1=>?_))
 · obtain ⟨s,_,rfl⟩:=List.mem_map.1 hy; exact ah.bE s
 · obtain ⟨s,_,rfl⟩:=List.mem_map.1 hy; exact ah.cells_one s
 · rw [List.length_map]; unfold OU at hl; unfold maxLen; omega
 · rw [List.length_map]; unfold OU at hl; omega
 cases hs1; refine cs 1 Z (AR.nil [2] Z (AW.ret ?_)); have hv:=h v2; rw [List.flatMap_def,show s1.length=(List.map ah.cells s1).length from (List.length_map _).symm] at hv; exact ⟨rfl,_,⟨_,_,rfl,rfl,rfl⟩,_,List.Sublist.refl _,hv⟩
theorem Hf (go:ah→Option ah) (goH:∀ (x:ah) {r0:ah},go x=some r0→∀ {τ:List bn} {Q:cZ→List bn→Prop},Q (.ret (.agg (aK r0))) τ→PC 23 [.agg (aK x)] τ Q) (v1:ah) {r0:ah} (hf:p8 go v1=some r0) (h:Q (.ret (.agg (aK r0))) τ):PC 23 [.agg (aK v1)] τ Q:=by
 unfold p8 at hf; refine B1 hf fun k1 hk1 hf=>B1 hf fun l1 hl1 hf=>B1 hf fun l2 hl2 hf=>?_; cases hf; refine AC.none (AC.jH 30 [.cell 2 42] [0] Tryz.func23 Z Z Z Z Z (AW.sr (AR.step Z Z Z (AO.JE Z Z (fun b1=>?_))))); refine AR.step Z Z Z (AO.aF Z gF (fun b2=>(AR.nil [1,2] Z (AW.sr (cs 1 Z ?_))))); refine AR.step Z Z Z (AO.aY (i:=1) Z Z Z XD Z Z (AR.step Z Z Z (AO.call Z _ Z Z acD (mK _ hk1 (cs 1 Z (AR.bF Z Z (AO.bR (i:=1) Z Z Z XD Z Z Z Z Z ?_))))))); refine AR.nil [1,2] Z (AW.sr (cs 1 Z (AR.step Z Z Z (AO.aY (i:=1) Z Z Z HV Z Z ?_)))); refine AR.step Z Z Z (AO.call Z _ Z Z afr (AC.none (tV _ hl1 (fun v3=>(cs 1 Z (AR.JD 0 Z (fun hv1 hv2=>(AR.bF Z Z (AO.bR (i:=2) Z Z Z HV hv1 hv2 Z Z Z ?_))))))))); refine AR.nil [1,2] Z (AW.seq (AW.sr (cs 1 Z ?_))); refine AR.step Z Z Z (AO.aY (i:=2) Z Z Z HV Z Z (AR.step Z Z Z (AO.LP (i:=0) Z Z Z Z gK Z Z (cs 1 Z (AR.nil [1,2,14,15] Z ?_))))); refine AW.block (AW.settle [1,2,14,15] Z ?_); refine AW.MR (fun (l:List ah) (i:Int)=>[(1,pP b1),(2,pP b2),(14,iP (l1.length:Int)),(15,iP i)]) (fun (l:List ah) (i:Int)=>[.buf v3 l1.length 6 42 (l.flatMap ah.cells),.box b2 [iP 0,.bool false,iP 0,.str ([]:Str),.own (.slice none 0 0) [],.own (.slice none 0 0) []],.box b1 [iP v1.kind,.bool v1.iD,iP v1.iC,.str v1.gW,.val v3,sP k1]]) (fun kk l i=>l.length=l1.length∧kH go (l1.length:Int) kk l i=some l2) BIG l1 0 Z Z ⟨Z,hl2⟩ (fun _ _ hz=>bT hz.2) ?_; rintro kk l i ⟨hlen,hf⟩; rw [kH] at hf; refine AW.sr (cs 1 Z (AR.nil [1,2,14,15,16] Z (AW.seq ?_))); refine AW.cond Z (fun h1=>?_) (fun h1=>?_)
 ·
  replace hf:=jm h1 hf; refine B1 hf fun e1 he1 hf=>B1 hf fun x1 hx1 hf=>?_; obtain ⟨hi0,he1⟩:=uL he1; obtain ⟨hlt,he1⟩:=List.getElem?_eq_some_iff.1 he1; refine AW.skip (AW.seq (AW.block (AW.sr ?_))); refine cs 2 Z (AR.nil [1,2,3,14,15] Z (AW.draw 10 mixed (by kernel_rfl) Z ?_)); refine Ev.cs aX 1 Z (Ev.cons Z Z Z (AO.aY (i:=2) Z Z Z HV Z Z zg) (Ev.cs aX 2 Z (Ev.cons Z Z Z (AO.aY (i:=2) Z Z Z HV Z Z zg) ?_))); refine Ev.cs aX 1 Z (Ev.cons Z Z Z (AO.lK (i:=0) (sz:=6) Z Z Z Z gK hi0 (by omega) zg) ?_); refine Ev.cons Z Z Z (AO.ER (i:=0) Z Z Z kZ (by rw [qV ah.bE]; omega) (by rw [zK ah.bE l i.toNat hlt,he1,ah.aG]; rfl) zg) ?_; refine Ev.cons Z Z Z (AO.call Z _ Z Z XT (goH _ hx1 zg)) (Ev.cons Z Z Z (AO.lK (i:=0) (sz:=6) Z Z Z Z gK hi0 (by omega) zg) ?_); refine Ev.nil ?_; show AR _ _ _ _ _ _ _ _; refine AR.bF Z Z (AO.Cw (i:=0) (cs':=(l.set i.toNat x1).flatMap ah.cells) Z Z Z kZ Z Z Z (Nat.succ_pos _) (by rw [qV ah.bE]; simp only [List.length_cons,List.length_nil]; omega) (M4 ah.bE l _ hlt _ x1 (ah.aG _).symm) Z ?_); refine AR.nil [1,2,14,15] Z (AW.region (cs 2 Z (AR.nil [1,2,14,15] Z ?_))); exact ⟨_,_,Z,Z,Z,(List.length_set ..).trans hlen,hf⟩
 obtain rfl:=Option.some.inj (iO h1 hf); refine AW.exit (AW.TU (q:=4) 0 2 (List.map ah.cells l) rfl rfl rfl (List.flatMap_def ..).symm (fun x hx=>by obtain ⟨s,_,rfl⟩:=List.mem_map.1 hx; exact ah.bE s) (by rw [List.length_map,hlen]) ?_); refine AW.sr (AR.step Z Z Z (AO.aY (i:=2) Z Z Z kZ Z Z (AR.bF Z Z (AO.bR (i:=1) Z Z Z kZ Z Z Z Z Z (AR.nil [2] Z ?_))))); refine AW.ret ?_; have h':Q (.ret (.agg [iP v1.kind,.bool v1.iD,iP v1.iC,.str v1.gW,.list (List.map ah.cells l),sP k1])) τ:=by rw [←ah.aC]; exact h
 exact ⟨rfl,_,⟨_,_,rfl,⟨_,_,1,_,_,rfl,rfl,kZ,rfl⟩,rfl⟩,[],List.nil_sublist _,h'⟩
theorem Al :∀ (k:Nat) (x:ah) {r0:ah},lq k x=some r0→∀ {τ:List bn} {Q:cZ→List bn→Prop},Q (.ret (.agg (aK r0))) τ→PC 23 [.agg (aK x)] τ Q
 | 0,_,_,hz,_,_,_=>bT hz
 | k + 1,x,_,hz,_,_,hq=>Hf (lq k) (Al k) x hz hq
theorem uV (v1:ah) {r0:ah} (hf:mD v1=some r0) (h:Q (.ret (.agg (aK r0))) τ):PC 23 [.agg (aK v1)] τ Q:=by
 exact Al BIG v1 hf h
theorem KT (s1:List aj) {r0:List aj} (hf:fH s1=some r0) (h:Q (.ret (.list (aj.aN r0))) τ):PC 168 [.list (aj.aN s1)] τ Q:=by
 unfold fH at hf; refine BN 8 [.tmp 2] [0] Tryz.func168 Z Z Z Z Z (W 0 Z (AS Z (AO.dQ Z Z (U 1 Z (AS Z (AO.iE Z Z Zv (fun b hb=>(J 0 Z (AW.cond Z (fun h1=>?_) (fun h1=>?_))))))))))
 · have hb1:=hb h1; rw [aj.aC] at hb1; obtain rfl:s1=[]:=List.map_eq_nil_iff.1 hb1; obtain ⟨_,rfl⟩:=jS hf; refine W 0 Z (AS Z (AO.dQ Z Z ?_)); exact N 0 rfl ⟨rfl,_,⟨_,_,rfl,rfl,rfl⟩,_,List.Sublist.refl _,h⟩
 refine W 0 Z (AS Z (AO.fE [] Z wu Z Z Z Z Z (fun v1=>(U 1 Z (AS Z (AO.eO (i:=0) (l:=[]) (m:=s1) hf Z Z Z Z Z Z Z wu je (show ([]:List (List PV))=List.map aj.cells [] from Z) (aj.aC _) (aj.aC _).symm (aj.bE) (aj.cells_one) (by decide) (fun v2 s2 hs2=>?_))))))); cases hs2; exact N 1 Z (Y Z h)
theorem I4 (s1:List aj) {r0:List aj} (hf:fH s1=some r0) {Q:cZ→List bn→Prop} (h:∀ v,Q (.ret (.own v (aj.aN r0))) [.row v (aj.aN r0).length 10 45]):PC 168 [.list (aj.aN s1)] [] Q:=by
 unfold fH at hf; refine AC.Ak 8 [.tmp 2] [0] Tryz.func168 Z Z Z Z Z (AW.sr (AR.step Z Z Z (AO.dQ Z Z (AR.nil [0] Z ?_)))); refine AW.seq (AW.sr (cs 1 Z (AR.step Z Z Z (AO.iE Z Z Zv (fun b hb=>?_))))); refine AR.nil [0,4] Z (AW.cond Z (fun h1=>?_) (fun h1=>?_))
 · have hb1:=hb h1; rw [aj.aC] at hb1; obtain rfl:s1=[]:=List.map_eq_nil_iff.1 hb1; obtain ⟨_,rfl⟩:=jS hf; refine AW.sr (cs 1 Z (AR.nil [2] Z (AW.row 10 45 ?_))); refine AW.ret ?_; exact ⟨rfl,_,⟨_,_,rfl,rfl,rfl⟩,_,List.Sublist.refl _,h _⟩
 refine AW.skip (AW.sr (AR.step Z Z Z (AO.fE [] Z wu Z Z Z Z Z (fun v1=>(cs 1 Z ?_))))); refine AR.step Z Z Z (AO.eO (i:=0) (l:=[]) (m:=s1) hf Z Z Z Z Z Z Z wu je (show ([]:List (List PV))=List.map aj.cells [] from Z) (aj.aC _) (aj.aC _).symm (aj.bE) (aj.cells_one) (by decide) (fun v2 s2 hs2=>?_)); cases hs2; refine cs 1 Z (AR.nil [2] Z (AW.ret ?_)); exact ⟨rfl,_,⟨_,_,rfl,rfl,rfl⟩,_,List.Sublist.refl _,h v2⟩
theorem vH (s1:List aj) {r0:List aj} (hf:fH s1=some r0) {Q:cZ→List bn→Prop} (h:∀ v,Q (.ret (.val v)) [.buf v r0.length 10 45 (r0.flatMap aj.cells)]):PC 168 [.list (aj.aN s1)] [] Q:=by
 unfold fH at hf; obtain ⟨hl,hr⟩:=jS hf; rw [hr,List.nil_append] at h; rw [List.length_nil,Nat.zero_add] at hl; rw [aj.aC]; refine AC.jH 8 [.tmp 2] [0] Tryz.func168 Z Z Z Z Z (AW.sr (AR.step Z Z Z (AO.dQ Z Z (AR.nil [0] Z ?_)))); refine AW.seq (AW.sr (cs 1 Z (AR.step Z Z Z (AO.iE Z Z Zv (fun b hb=>?_))))); refine AR.nil [0,4] Z (AW.cond Z (fun h1=>?_) (fun h1=>?_))
 · obtain rfl:s1=[]:=List.map_eq_nil_iff.1 (hb h1); refine AW.sr (AR.step Z Z Z (AO.yF Z Z (AR.nil [2] Z (AW.R8 10 45 ?_)))); refine AW.ret ?_; exact ⟨rfl,_,⟨_,_,rfl,rfl,rfl⟩,_,List.Sublist.refl _,h _⟩
 refine AW.skip (AW.sr (AR.step Z Z Z (AO.fE [] Z wu Z Z Z Z Z (fun v1=>(cs 1 Z ?_))))); refine AR.step Z Z Z (AO.zS (i:=0) (l2:=List.map aj.cells s1) Z Z Z Z Z Z Z wu je (fun y hy=>?_) (fun y hy=>?_) ?_ ?_ (fun v2 s1 hs1=>?_))
 · obtain ⟨s,_,rfl⟩:=List.mem_map.1 hy; exact aj.bE s
 · obtain ⟨s,_,rfl⟩:=List.mem_map.1 hy; exact aj.cells_one s
 · rw [List.length_map]; unfold OU at hl; unfold maxLen; omega
 · rw [List.length_map]; unfold OU at hl; omega
 cases hs1; refine cs 1 Z (AR.nil [2] Z (AW.ret ?_)); have hv:=h v2; rw [List.flatMap_def,show s1.length=(List.map aj.cells s1).length from (List.length_map _).symm] at hv; exact ⟨rfl,_,⟨_,_,rfl,rfl,rfl⟩,_,List.Sublist.refl _,hv⟩
theorem Kr (go:aj→(aj→Option (aj × Bool × Int))→Option (aj × Int)) (lW:aj→Option (aj × Bool × Int)) (nR:FuncId) (qX:List PV) (E5:aV Tryz.prog nR=true) (E8:∀ a0 b0 b1 b2,lW a0=some (b0,b1,b2)→∀ {τ:List bn} {Q:cZ→List bn→Prop},Q (.ret (.tuple [.agg (bI b0),.bool b1,iP b2])) τ→PC nR ([.agg (bI a0)] ++ qX) τ Q) (goH:∀ (a0:aj) {r0:aj} {r1:Int},go a0 lW=some (r0,r1)→∀ {τ:List bn} {Q:cZ→List bn→Prop},Q (.ret (.tuple [.agg (bI r0),iP r1])) τ→PC 145 [.agg (bI a0),.fn nR qX] τ Q) (e1:aj) {r0:aj} {r1:Int} (hf:w_ go e1 lW=some (r0,r1)) (h:Q (.ret (.tuple [.agg (bI r0),iP r1])) τ):PC 145 [.agg (bI e1),.fn nR qX] τ Q:=by
 unfold w_ at hf; refine AC.none (AC.jH 65 [.cell 4 45,.tmp 5] [0,1] Tryz.func145 Z Z Z Z Z (AW.sr (AR.step Z Z Z (AO.JE Z Z (fun b2=>?_))))); refine AR.step Z Z Z (AO.aF Z iX (fun b4=>(cs 1 Z (AR.nil [1,2,4] Z (AW.seq ?_))))); refine AW.sr (cs 1 Z (AR.step Z Z Z (AO.aY (i:=1) Z Z Z gT Z Z ?_))); obtain ⟨x1,known1,Dt,h1,hf⟩:=jM hf; refine AR.step Z Z Z (AO.call Z _ Z Z E5 (E8 _ _ _ _ h1 (cs 4 Z (AR.step Z Z Z (AO.aF Z iX (fun b6=>(AR.bF Z Z (AO.bR (i:=0) Z Z Z gT Z Z Z Z Z ?_)))))))); refine cs 2 Z (AR.nil [1,2,4,6,7,8] Z (AW.sr (cs 2 Z ?_))); refine AR.or 3 20 23 [1,2,4,6,8] (x:=(Dt != 0)) Z Z (fun h2=>?_) (fun h2=>?_) ?_
 · refine AR.is 20 h2 Z (cs 3 Z (AR.nil [23,1,2,4,6,8] Z ?_)); exact ⟨Z,Z,Z,Z⟩
 · refine AR.is 20 h2 Z (cs 3 Z (AR.nil [23,1,2,4,6,8] Z ?_)); exact ⟨Z,Z,Z,Z⟩
 refine AR.nil [1,2,4,6,8,23] Z (AW.cond Z (fun h3=>?_) (fun h3=>?_))
 · replace hf:=jm h3 hf; refine AW.sr (AR.step Z Z Z (AO.aY (i:=0) Z Z Z gT Z Z (cs 1 Z (AR.bF Z Z (AO.bR (i:=1) Z Z Z gT Z Z Z Z Z ?_))))); refine cs 1 Z (AR.nil [4,5] Z (AW.ret ?_)); cases hf; exact ⟨rfl,_,⟨_,_,rfl,⟨_,_,1,_,_,rfl,rfl,gT,rfl⟩,_,_,rfl,rfl,rfl⟩,[],List.nil_sublist _,h⟩
 replace hf:=iO h3 hf; refine B1 hf fun x2 hx2 hf=>B1 hf fun k2 hk2 hf=>B1 hf fun l1 hl1 hf=>?_; obtain ⟨l2,TY,hl2,hf⟩:=bP hf; refine AW.skip (AW.F9 0 Z (AW.sr (cs 1 Z ?_))); refine AR.step Z Z Z (AO.aY (i:=1) Z Z Z kZ Z Z (AR.step Z Z Z (AO.call Z _ Z Z XT (uV _ hx2 (cs 1 Z (AR.bF Z Z (AO.bR (i:=1) Z Z Z kZ Z Z Z Z Z ?_))))))); refine AR.nil [1,2,4] Z (AW.sr (cs 1 Z (AR.step Z Z Z (AO.aY (i:=1) Z Z Z XD Z Z ?_)))); refine AR.step Z Z Z (AO.call Z _ Z Z acD (mK _ hk2 (cs 1 Z (AR.bF Z Z (AO.bR (i:=1) Z Z Z XD Z Z Z Z Z (AR.nil [1,2,4] Z ?_)))))); refine AW.sr (cs 1 Z (AR.step Z Z Z (AO.aY (i:=1) Z Z Z Nt Z Z (AR.step Z Z Z (AO.call Z _ Z Z adq (AC.none (vH _ hl1 (fun v3=>?_)))))))); refine cs 1 Z (AR.JD 0 Z (fun hv1 hv2=>(AR.bF Z Z (AO.bR (i:=2) Z Z Z Nt hv1 hv2 Z Z Z (AR.nil [1,2,4] Z ?_))))); refine AW.seq (AW.sr (cs 1 Z (AR.step Z Z Z (AO.aY (i:=2) Z Z Z Nt Z Z ?_)))); refine AR.step Z Z Z (AO.LP (i:=0) Z Z Z Z je Z Z (cs 1 Z (AR.nil [1,2,4,40,41] Z (AW.block ?_)))); refine AW.settle [1,2,4,40,41] Z ?_; refine AW.MR (fun (l:List aj) (i:Int)=>[(1,.fn nR qX),(2,pP b2),(4,pP b4),(40,iP (l1.length:Int)),(41,iP i)]) (fun (l:List aj) (i:Int)=>[.buf v3 l1.length 10 45 (l.flatMap aj.cells),.box b4 [iP 0,.str ([]:Str),iP 0,.bool false,iP 0,.str ([]:Str),.own (.slice none 0 0) [],.own (.slice none 0 0) [],.own (.slice none 0 0) [],.own (.slice none 0 0) []],.box b2 [iP e1.kind,.str e1.name,iP x2.kind,.bool x2.iD,iP x2.iC,.str x2.gW,.list (ah.aN x2.bH),sP x2.keys,.val v3,sP k2]]) (fun kk l i=>l.length=l1.length∧qC go lW (l1.length:Int) kk l i=some (l2,TY)) BIG l1 0 Z Z ⟨Z,hl2⟩ (fun _ _ hz=>bT hz.2) ?_
 rintro kk l i ⟨hlen,hg⟩; rw [qC] at hg; refine AW.sr (cs 1 Z (AR.nil [1,2,4,40,41,42] Z (AW.seq ?_))); refine AW.cond Z (fun h4=>?_) (fun h4=>?_)
 ·
  replace hg:=jm h4 hg; obtain ⟨e2,he2,hg⟩:=JG hg; obtain ⟨x3,ag4,hx3,hg⟩:=bP hg; obtain ⟨hi0,he2⟩:=uL he2; obtain ⟨hlt,he2⟩:=List.getElem?_eq_some_iff.1 he2; refine AW.skip (AW.seq (AW.block (AW.sr ?_))); refine cs 2 Z (AR.nil [1,2,4,9,40,41] Z (AW.sr (cs 1 Z ?_))); refine AR.step Z Z Z (AO.aY (i:=2) Z Z Z Nt Z Z (cs 1 Z (AR.step Z Z Z (AO.lK (i:=0) (sz:=10) Z Z Z Z je hi0 (by omega) ?_)))); refine AR.step Z Z Z (AO.ER (i:=0) Z Z Z gT (by rw [qV aj.bE]; omega) (by rw [zK aj.bE l i.toNat hlt,he2,aj.aG]; rfl) ?_); refine cs 1 Z (AR.step Z Z Z (AO.call Z _ Z Z WB (goH _ hx3 (cs 3 Z (AR.step Z Z Z (AO.aF Z iX (fun b10=>?_))))))); refine AR.bF Z Z (AO.bR (i:=0) Z Z Z gT Z Z Z Z Z (cs 1 Z (AR.nil [1,2,4,9,10,11,40,41] Z (AW.seq ?_)))); refine AW.sr (cs 2 Z (AR.nil [1,2,4,9,10,11,40,41,55] Z (AW.cond Z (fun h5=>?_) (fun h5=>?_))))
  · cases jm h5 hg; replace hf:=jm h5 hf; refine AW.sr (AR.step Z Z Z (AO.build Z iX Ed Z (cs 1 Z (AR.bF Z Z (AO.bR (i:=2) Z Z Z gT Z Z Z Z Z ?_))))); refine cs 1 Z (AR.nil [4,5] Z (AW.ret ?_)); cases hf; exact ⟨rfl,_,⟨_,_,rfl,⟨_,_,2,_,_,rfl,rfl,gT,rfl⟩,_,_,rfl,rfl,rfl⟩,[],List.nil_sublist _,h⟩
  replace hg:=iO h5 hg; refine AW.skip (AW.region (cs 1 Z (AR.step Z Z Z (AO.aY (i:=3) Z Z Z Nt Z Z ?_)))); refine cs 1 Z (AR.step Z Z Z (AO.aY (i:=0) Z Z Z gT Z Z (AR.step Z Z Z (AO.lK (i:=1) (sz:=10) Z Z Z Z je hi0 (by omega) ?_)))); refine AR.bF Z Z (AO.Cw (i:=1) (cs':=(l.set i.toNat x3).flatMap aj.cells) Z Z Z gT Z Z Z (Nat.succ_pos _) (by rw [qV aj.bE]; simp only [List.length_cons,List.length_nil]; omega) (M4 aj.bE l _ hlt _ x3 (aj.aG _).symm) Z ?_); refine AR.nil [1,2,4,40,41] Z (AW.F9 0 Z (AW.region (cs 2 Z ?_))); refine AR.nil [1,2,4,40,41] Z ?_; exact ⟨_,_,Z,Z,Z,(List.length_set ..).trans hlen,hg⟩
 cases iO h4 hg; refine AW.exit (AW.TU (q:=8) 0 2 (List.map aj.cells l2) rfl rfl rfl (List.flatMap_def ..).symm (fun x hx=>by obtain ⟨s,_,rfl⟩:=List.mem_map.1 hx; exact aj.bE s) (by rw [List.length_map,hlen]) ?_); refine AW.sr (AR.step Z Z Z (AO.aY (i:=2) Z Z Z gT Z Z (AR.bF Z Z (AO.bR (i:=1) Z Z Z gT Z Z Z Z Z (cs 1 Z ?_))))); refine AR.nil [4,5] Z (AW.ret ?_); cases hf; have h':Q (.ret (.tuple [.agg [iP e1.kind,.str e1.name,iP x2.kind,.bool x2.iD,iP x2.iC,.str x2.gW,.list (ah.aN x2.bH),sP x2.keys,.list (List.map aj.cells l2),sP k2],iP 0])) τ:=by rw [←aj.aC]; exact h
 exact ⟨rfl,_,⟨_,_,rfl,⟨_,_,1,_,_,rfl,rfl,gT,rfl⟩,_,_,rfl,rfl,rfl⟩,[],List.nil_sublist _,h'⟩
theorem CO (lW:aj→Option (aj × Bool × Int)) (nR:FuncId) (qX:List PV) (E5:aV Tryz.prog nR=true) (E8:∀ a0 b0 b1 b2,lW a0=some (b0,b1,b2)→∀ {τ:List bn} {Q:cZ→List bn→Prop},Q (.ret (.tuple [.agg (bI b0),.bool b1,iP b2])) τ→PC nR ([.agg (bI a0)] ++ qX) τ Q):∀ (k:Nat) (a0:aj) {r0:aj} {r1:Int},rJ k a0 lW=some (r0,r1)→∀ {τ:List bn} {Q:cZ→List bn→Prop},Q (.ret (.tuple [.agg (bI r0),iP r1])) τ→PC 145 [.agg (bI a0),.fn nR qX] τ Q
 | 0,_,_,_,hz,_,_,_=>bT hz
 | k + 1,x,_,_,hz,_,_,hq=>Kr (rJ k) lW nR qX E5 E8 (CO lW nR qX E5 E8 k) x hz hq
theorem xD (e1:aj) (lW:aj→Option (aj × Bool × Int)) (nR:FuncId) (qX:List PV) (E5:aV Tryz.prog nR=true) (E8:∀ a0 b0 b1 b2,lW a0=some (b0,b1,b2)→∀ {τ:List bn} {Q:cZ→List bn→Prop},Q (.ret (.tuple [.agg (bI b0),.bool b1,iP b2])) τ→PC nR ([.agg (bI a0)] ++ qX) τ Q) {r0:aj} {r1:Int} (hf:vg e1 lW=some (r0,r1)) (h:Q (.ret (.tuple [.agg (bI r0),iP r1])) τ):PC 145 [.agg (bI e1),.fn nR qX] τ Q:=by
 exact CO lW nR qX E5 E8 BIG e1 hf h
theorem GZ (a1:aj) {r0:aj} {r1:Bool} {r2:Int} (hf:qD a1=some (r0,r1,r2)) (h:Q (.ret (.tuple [.agg (bI r0),.bool r1,iP r2])) τ):PC 146 [.agg (bI a1)] τ Q:=by
 unfold qD at hf; refine BN 6 [.cell 2 45,.tmp 3,.tmp 4] [0] Tryz.func146 Z Z Z Z Z (W 1 Z (AS Z (AO.aF Z iX (fun b2=>?_)))); cases hf; exact Rx 6 [0] Z Z (ZC [0] Z Z h)
theorem JO (e1:aj) {r0:aj} (hf:yc e1=some r0) (h:Q (.ret (.agg (bI r0))) τ):PC 114 [.agg (bI e1)] τ Q:=by
 unfold yc at hf; refine BN 11 [.cell 2 45] [0] Tryz.func114 Z Z Z Z Z (W 1 Z (AS Z (AO.aF Z iX (fun b2=>?_)))); obtain ⟨x1,x2,h1,hf⟩:=bP hf; refine U 1 Z (CL Z (xD _ qD 146 [] ady (fun _ _ _ _ hz=>GZ _  hz) h1 (U 3 Z (AS Z (AO.aF Z iX (fun b3=>?_)))))); cases hf; exact Rx 4 [0,0,1] Z Z (ZC [1] Z Z h)
theorem vI (s1:List aS) {r0:List aS} (hf:d9 s1=some r0) {Q:cZ→List bn→Prop} (h:∀ v,Q (.ret (.val v)) [.buf v r0.length 11 48 (r0.flatMap aS.cells)]):PC 113 [.list (List.map aS.cells s1)] [] Q:=by
 unfold d9 at hf; obtain ⟨hl,hr⟩:=jS hf; rw [hr,List.nil_append] at h; rw [List.length_nil,Nat.zero_add] at hl; refine AC.jH 8 [.tmp 2] [0] Tryz.func113 Z Z Z Z Z (AW.sr (AR.step Z Z Z (AO.dQ Z Z (AR.nil [0] Z ?_)))); refine AW.seq (AW.sr (cs 1 Z (AR.step Z Z Z (AO.iE Z Z Xz (fun b hb=>?_))))); refine AR.nil [0,4] Z (AW.cond Z (fun h1=>?_) (fun h1=>?_))
 · obtain rfl:s1=[]:=List.map_eq_nil_iff.1 (hb h1); refine AW.sr (AR.step Z Z Z (AO.yF Z Z (AR.nil [2] Z (AW.R8 11 48 ?_)))); refine AW.ret ?_; exact ⟨rfl,_,⟨_,_,rfl,rfl,rfl⟩,_,List.Sublist.refl _,h _⟩
 refine AW.skip (AW.sr (AR.step Z Z Z (AO.fE [] Z Ah Z Z Z Z Z (fun v1=>(cs 1 Z ?_))))); refine AR.step Z Z Z (AO.zS (i:=0) (l2:=List.map aS.cells s1) Z Z Z Z Z Z Z Ah sF (fun y hy=>?_) (fun y hy=>?_) ?_ ?_ (fun v2 s1 hs1=>?_))
 · obtain ⟨s,_,rfl⟩:=List.mem_map.1 hy; exact aS.bE s
 · obtain ⟨s,_,rfl⟩:=List.mem_map.1 hy; exact aS.cells_one s
 · rw [List.length_map]; unfold OU at hl; unfold maxLen; omega
 · rw [List.length_map]; unfold OU at hl; omega
 cases hs1; refine cs 1 Z (AR.nil [2] Z (AW.ret ?_)); have hv:=h v2; rw [List.flatMap_def,show s1.length=(List.map aS.cells s1).length from (List.length_map _).symm] at hv; exact ⟨rfl,_,⟨_,_,rfl,rfl,rfl⟩,_,List.Sublist.refl _,hv⟩
theorem wK (l0:List aS) {r0:List aS} (hf:mE l0=some r0) {Q:cZ→List bn→Prop} (h:∀ v,Q (.ret (.own v (List.map aS.cells r0))) [.row v (List.map aS.cells r0).length 11 48]):PC 78 [.list (List.map aS.cells l0)] [] Q:=by
 unfold mE at hf; refine B1 hf fun l1 hl1 hf=>AC.Ak 24 [.tmp 2] [0] Tryz.func78 Z Z Z Z Z (AW.sr (AR.step Z Z Z (AO.dQ Z Z (AR.nil [0] Z ?_)))); refine AW.sr (cs 1 Z (AR.step Z Z Z (AO.call Z _ Z Z adN (AC.none (vI _ hl1 (fun v3=>(AR.step Z Z Z (AO.calc' Z ?_)))))))); refine AR.nil [3] Z (AW.seq (AW.sr (cs 1 Z ?_))); refine AR.step Z Z Z (AO.LP (i:=0) Z Z Z Z sF Z Z (cs 1 Z (AR.nil [3,8,9] Z (AW.block ?_)))); refine AW.settle [3,8,9] Z (AW.MR (fun (l:List aS) (i:Int)=>[(3,.val v3),(8,iP (l1.length:Int)),(9,iP i)]) (fun (l:List aS) (i:Int)=>[.buf v3 l1.length 11 48 (l.flatMap aS.cells)]) (fun kk l i=>l.length=l1.length∧oZ (l1.length:Int) kk l i=some r0) BIG l1 0 Z Z ⟨Z,hf⟩ (fun _ _ hz=>bT hz.2) ?_); rintro kk l i ⟨hlen,hf⟩; rw [oZ] at hf; refine AW.sr (cs 1 Z (AR.nil [3,8,9,10] Z (AW.seq ?_))); refine AW.cond Z (fun h1=>?_) (fun h1=>?_)
 ·
  replace hf:=jm h1 hf; refine B1 hf fun e1 he1 hf=>B1 hf fun x1 hx1 hf=>?_; obtain ⟨hi0,he1⟩:=uL he1; obtain ⟨hlt,he1⟩:=List.getElem?_eq_some_iff.1 he1; refine AW.skip (AW.seq (AW.block (AW.sr ?_))); refine cs 2 Z (AR.nil [3,4,8,9] Z (AW.region (cs 4 Z ?_))); refine AR.step Z Z Z (AO.lK (i:=0) (sz:=11) Z Z Z Z sF hi0 (by omega) ?_); refine cs 1 Z (AR.step Z Z Z (AO.ER (i:=0) Z Z Z gT (by rw [qV aS.bE]; omega) (by rw [←List.drop_drop,zK aS.bE l i.toNat hlt,he1,aS.aG]; rfl) ?_)); refine AR.step Z Z Z (AO.call Z _ Z Z adM (JO _ hx1 (AR.step Z Z Z (AO.lK (i:=0) (sz:=11) Z Z Z Z sF hi0 (by omega) ?_)))); refine cs 1 Z (AR.bF Z Z (AO.Cw (i:=0) (cs':=(l.set i.toNat (aS.mk e1.name x1)).flatMap aS.cells) Z Z Z gT Z Z Z (Nat.succ_pos _) (by rw [qV aS.bE]; simp only [List.length_cons,List.length_nil]; omega) (Qc aS.bE l _ 1 hlt _ (aS.mk e1.name x1) (by rw [he1,aS.aG,aS.aG]; rfl) (by simp only [List.length_cons,List.length_nil]; omega)) Z ?_)); refine AR.nil [3,8,9] Z (AW.region (cs 2 Z (AR.nil [3,8,9] Z ?_))); exact ⟨_,_,Z,Z,Z,(List.length_set ..).trans hlen,hf⟩
 obtain rfl:=Option.some.inj (iO h1 hf); refine AW.exit (AW.freeze 3 0 (List.map aS.cells l) rfl rfl (List.flatMap_def ..).symm (fun x hx=>by obtain ⟨s,_,rfl⟩:=List.mem_map.1 hx; exact aS.bE s) (by rw [List.length_map,hlen]) ?_); refine AW.sr (cs 2 Z (AR.nil [2] Z (AW.ret ?_))); have h':=h v3; rw [List.length_map,hlen] at h'; exact ⟨rfl,_,⟨_,_,rfl,rfl,rfl⟩,_,List.Sublist.refl _,h'⟩
theorem Az (l0:List aS) {r0:List aS} (hf:mE l0=some r0) (h:Q (.ret (.list (List.map aS.cells r0))) τ):PC 78 [.list (List.map aS.cells l0)] τ Q:=by
 exact AC.none (AC.aeX (wK l0 hf fun v=>⟨v,_,_,_,Z,Z⟩) h)
theorem JY (s1:List au) {r0:List au} (hf:fq s1=some r0) (h:Q (.ret (.list (au.aN r0))) τ):PC 79 [.list (au.aN s1)] τ Q:=by
 unfold fq at hf; refine BN 8 [.tmp 2] [0] Tryz.func79 Z Z Z Z Z (W 0 Z (AS Z (AO.dQ Z Z (U 1 Z (AS Z (AO.iE Z Z Zx (fun b hb=>(J 0 Z (AW.cond Z (fun h1=>?_) (fun h1=>?_))))))))))
 · have hb1:=hb h1; rw [au.aC] at hb1; obtain rfl:s1=[]:=List.map_eq_nil_iff.1 hb1; obtain ⟨_,rfl⟩:=jS hf; refine W 0 Z (AS Z (AO.dQ Z Z ?_)); exact N 0 rfl ⟨rfl,_,⟨_,_,rfl,rfl,rfl⟩,_,List.Sublist.refl _,h⟩
 refine W 0 Z (AS Z (AO.fE [] Z wz Z Z Z Z Z (fun v1=>(U 1 Z (AS Z (AO.eO (i:=0) (l:=[]) (m:=s1) hf Z Z Z Z Z Z Z wz mM (show ([]:List (List PV))=List.map au.cells [] from Z) (au.aC _) (au.aC _).symm (au.bE) (au.cells_one) (by decide) (fun v2 s2 hs2=>?_))))))); cases hs2; exact N 1 Z (Y Z h)
theorem G6 (s1:List au) {r0:List au} (hf:fq s1=some r0) {Q:cZ→List bn→Prop} (h:∀ v,Q (.ret (.own v (au.aN r0))) [.row v (au.aN r0).length 4 38]):PC 79 [.list (au.aN s1)] [] Q:=by
 unfold fq at hf; refine AC.Ak 8 [.tmp 2] [0] Tryz.func79 Z Z Z Z Z (AW.sr (AR.step Z Z Z (AO.dQ Z Z (AR.nil [0] Z ?_)))); refine AW.seq (AW.sr (cs 1 Z (AR.step Z Z Z (AO.iE Z Z Zx (fun b hb=>?_))))); refine AR.nil [0,4] Z (AW.cond Z (fun h1=>?_) (fun h1=>?_))
 · have hb1:=hb h1; rw [au.aC] at hb1; obtain rfl:s1=[]:=List.map_eq_nil_iff.1 hb1; obtain ⟨_,rfl⟩:=jS hf; refine AW.sr (cs 1 Z (AR.nil [2] Z (AW.row 4 38 ?_))); refine AW.ret ?_; exact ⟨rfl,_,⟨_,_,rfl,rfl,rfl⟩,_,List.Sublist.refl _,h _⟩
 refine AW.skip (AW.sr (AR.step Z Z Z (AO.fE [] Z wz Z Z Z Z Z (fun v1=>(cs 1 Z ?_))))); refine AR.step Z Z Z (AO.eO (i:=0) (l:=[]) (m:=s1) hf Z Z Z Z Z Z Z wz mM (show ([]:List (List PV))=List.map au.cells [] from Z) (au.aC _) (au.aC _).symm (au.bE) (au.cells_one) (by decide) (fun v2 s2 hs2=>?_)); cases hs2; refine cs 1 Z (AR.nil [2] Z (AW.ret ?_)); exact ⟨rfl,_,⟨_,_,rfl,rfl,rfl⟩,_,List.Sublist.refl _,h v2⟩
theorem tX (s1:List au) {r0:List au} (hf:fq s1=some r0) {Q:cZ→List bn→Prop} (h:∀ v,Q (.ret (.val v)) [.buf v r0.length 4 38 (r0.flatMap au.cells)]):PC 79 [.list (au.aN s1)] [] Q:=by
 unfold fq at hf; obtain ⟨hl,hr⟩:=jS hf; rw [hr,List.nil_append] at h; rw [List.length_nil,Nat.zero_add] at hl; rw [au.aC]; refine AC.jH 8 [.tmp 2] [0] Tryz.func79 Z Z Z Z Z (AW.sr (AR.step Z Z Z (AO.dQ Z Z (AR.nil [0] Z ?_)))); refine AW.seq (AW.sr (cs 1 Z (AR.step Z Z Z (AO.iE Z Z Zx (fun b hb=>?_))))); refine AR.nil [0,4] Z (AW.cond Z (fun h1=>?_) (fun h1=>?_))
 · obtain rfl:s1=[]:=List.map_eq_nil_iff.1 (hb h1); refine AW.sr (AR.step Z Z Z (AO.yF Z Z (AR.nil [2] Z (AW.R8 4 38 ?_)))); refine AW.ret ?_; exact ⟨rfl,_,⟨_,_,rfl,rfl,rfl⟩,_,List.Sublist.refl _,h _⟩
 refine AW.skip (AW.sr (AR.step Z Z Z (AO.fE [] Z wz Z Z Z Z Z (fun v1=>(cs 1 Z ?_))))); refine AR.step Z Z Z (AO.zS (i:=0) (l2:=List.map au.cells s1) Z Z Z Z Z Z Z wz mM (fun y hy=>?_) (fun y hy=>?_) ?_ ?_ (fun v2 s1 hs1=>?_))
 · obtain ⟨s,_,rfl⟩:=List.mem_map.1 hy; exact au.bE s
 · obtain ⟨s,_,rfl⟩:=List.mem_map.1 hy; exact au.cells_one s
 · rw [List.length_map]; unfold OU at hl; unfold maxLen; omega
 · rw [List.length_map]; unfold OU at hl; omega
 cases hs1; refine cs 1 Z (AR.nil [2] Z (AW.ret ?_)); have hv:=h v2; rw [List.flatMap_def,show s1.length=(List.map au.cells s1).length from (List.length_map _).symm] at hv; exact ⟨rfl,_,⟨_,_,rfl,rfl,rfl⟩,_,List.Sublist.refl _,hv⟩
theorem Hg (go:au→Option au) (goH:∀ (x:au) {r0:au},go x=some r0→∀ {τ:List bn} {Q:cZ→List bn→Prop},Q (.ret (.agg (dW r0))) τ→PC 48 [.agg (dW x)] τ Q) (v1:au) {r0:au} (hf:um go v1=some r0) (h:Q (.ret (.agg (dW r0))) τ):PC 48 [.agg (dW v1)] τ Q:=by
 unfold um at hf; refine B1 hf fun k1 hk1 hf=>B1 hf fun l1 hl1 hf=>B1 hf fun l2 hl2 hf=>?_; cases hf; refine AC.none (AC.jH 30 [.cell 2 38] [0] Tryz.func48 Z Z Z Z Z (AW.sr (AR.step Z Z Z (AO.JE Z Z (fun b1=>?_))))); refine AR.step Z Z Z (AO.aF Z pE (fun b2=>(AR.nil [1,2] Z (AW.sr (cs 1 Z ?_))))); refine AR.step Z Z Z (AO.aY (i:=1) Z Z Z UN Z Z (AR.step Z Z Z (AO.call Z _ Z Z ZY (Az _ hk1 (cs 1 Z (AR.bF Z Z (AO.bR (i:=1) Z Z Z UN Z Z Z Z Z ?_))))))); refine AR.nil [1,2] Z (AW.sr (cs 1 Z (AR.step Z Z Z (AO.aY (i:=1) Z Z Z Ct Z Z ?_)))); refine AR.step Z Z Z (AO.call Z _ Z Z aff (AC.none (tX _ hl1 (fun v3=>(cs 1 Z (AR.JD 0 Z (fun hv1 hv2=>(AR.bF Z Z (AO.bR (i:=2) Z Z Z Ct hv1 hv2 Z Z Z ?_))))))))); refine AR.nil [1,2] Z (AW.seq (AW.sr (cs 1 Z ?_))); refine AR.step Z Z Z (AO.aY (i:=2) Z Z Z Ct Z Z (AR.step Z Z Z (AO.LP (i:=0) Z Z Z Z mM Z Z (cs 1 Z (AR.nil [1,2,14,15] Z ?_))))); refine AW.block (AW.settle [1,2,14,15] Z (AW.MR (fun (l:List au) (i:Int)=>[(1,pP b1),(2,pP b2),(14,iP (l1.length:Int)),(15,iP i)]) (fun (l:List au) (i:Int)=>[.buf v3 l1.length 4 38 (l.flatMap au.cells),.box b2 [.str ([]:Str),.str ([]:Str),.own (.slice none 0 0) [],.own (.slice none 0 0) []],.box b1 [.str v1.kind,.str v1.name,.list (List.map aS.cells k1),.val v3]]) (fun kk l i=>l.length=l1.length∧oW go (l1.length:Int) kk l i=some l2) BIG l1 0 Z Z ⟨Z,hl2⟩ (fun _ _ hz=>bT hz.2) ?_)); rintro kk l i ⟨hlen,hf⟩; rw [oW] at hf; refine AW.sr (cs 1 Z (AR.nil [1,2,14,15,16] Z (AW.seq ?_))); refine AW.cond Z (fun h1=>?_) (fun h1=>?_)
 ·
  replace hf:=jm h1 hf; refine B1 hf fun e1 he1 hf=>B1 hf fun x1 hx1 hf=>?_; obtain ⟨hi0,he1⟩:=uL he1; obtain ⟨hlt,he1⟩:=List.getElem?_eq_some_iff.1 he1; refine AW.skip (AW.seq (AW.block (AW.sr ?_))); refine cs 2 Z (AR.nil [1,2,3,14,15] Z (AW.draw 10 mixed (by kernel_rfl) Z ?_)); refine Ev.cs aX 1 Z (Ev.cons Z Z Z (AO.aY (i:=2) Z Z Z Ct Z Z zg) (Ev.cs aX 2 Z (Ev.cons Z Z Z (AO.aY (i:=2) Z Z Z Ct Z Z zg) ?_))); refine Ev.cs aX 1 Z (Ev.cons Z Z Z (AO.lK (i:=0) (sz:=4) Z Z Z Z mM hi0 (by omega) zg) ?_); refine Ev.cons Z Z Z (AO.ER (i:=0) Z Z Z ng (by rw [qV au.bE]; omega) (by rw [zK au.bE l i.toNat hlt,he1,au.aG]; rfl) zg) ?_; refine Ev.cons Z Z Z (AO.call Z _ Z Z Z4 (goH _ hx1 zg)) (Ev.cons Z Z Z (AO.lK (i:=0) (sz:=4) Z Z Z Z mM hi0 (by omega) zg) ?_); refine Ev.nil ?_; show AR _ _ _ _ _ _ _ _; refine AR.bF Z Z (AO.Cw (i:=0) (cs':=(l.set i.toNat x1).flatMap au.cells) Z Z Z ng Z Z Z (Nat.succ_pos _) (by rw [qV au.bE]; simp only [List.length_cons,List.length_nil]; omega) (M4 au.bE l _ hlt _ x1 (au.aG _).symm) Z ?_); refine AR.nil [1,2,14,15] Z (AW.region (cs 2 Z (AR.nil [1,2,14,15] Z ?_))); exact ⟨_,_,Z,Z,Z,(List.length_set ..).trans hlen,hf⟩
 obtain rfl:=Option.some.inj (iO h1 hf); refine AW.exit (AW.TU (q:=3) 0 2 (List.map au.cells l) rfl rfl rfl (List.flatMap_def ..).symm (fun x hx=>by obtain ⟨s,_,rfl⟩:=List.mem_map.1 hx; exact au.bE s) (by rw [List.length_map,hlen]) ?_); refine AW.sr (AR.step Z Z Z (AO.aY (i:=2) Z Z Z ng Z Z (AR.bF Z Z (AO.bR (i:=1) Z Z Z ng Z Z Z Z Z (AR.nil [2] Z ?_))))); refine AW.ret ?_; have h':Q (.ret (.agg [.str v1.kind,.str v1.name,.list (List.map aS.cells k1),.list (List.map au.cells l)])) τ:=by rw [←au.aC]; exact h
 exact ⟨rfl,_,⟨_,_,rfl,⟨_,_,1,_,_,rfl,rfl,ng,rfl⟩,rfl⟩,[],List.nil_sublist _,h'⟩
theorem Am :∀ (k:Nat) (x:au) {r0:au},p9 k x=some r0→∀ {τ:List bn} {Q:cZ→List bn→Prop},Q (.ret (.agg (dW r0))) τ→PC 48 [.agg (dW x)] τ Q
 | 0,_,_,hz,_,_,_=>bT hz
 | k + 1,x,_,hz,_,_,hq=>Hg (p9 k) (Am k) x hz hq
theorem Ay (v1:au) {r0:au} (hf:xk v1=some r0) (h:Q (.ret (.agg (dW r0))) τ):PC 48 [.agg (dW v1)] τ Q:=by
 exact Am BIG v1 hf h
theorem KX (l1:List UInt8) (Vn:Int→UInt8→Option Bool) (X0:FuncId) (aaF:List PV) (af3:aV Tryz.prog X0=true) (af4:∀ a0 a1 b0,Vn a0 a1=some b0→∀ {τ:List bn} {Q:cZ→List bn→Prop},Q (.ret (.bool b0)) τ→PC X0 ([iP a0,.int .u8 (a1.toNat:Int)] ++ aaF) τ Q) {r0:Bool} (hf:zJ l1 Vn=some r0) (h:Q (.ret (.bool r0)) τ):PC 80 [.list (List.map jv l1),.fn X0 aaF] τ Q:=by
 unfold zJ at hf; refine BN 20 [.tmp 4] [0,1] Tryz.func80 Z Z Z Z Z (W 2 Z (AS Z (AO.aM (l:=l1) Z Z Z Z NH Z Z (J 1 Z (Gm (fun i1=>[(1,.fn X0 aaF),(7,.list (List.map jv l1)),(8,iP (l1.length:Int)),(9,iP i1)]) (fun i1=>[]) (fun bY i1=>qE l1 Vn bY i1=some r0) BIG 0 Z Z hf (fun _ hz=>bT hz) ?_))))); intro bY i1 hf; rw [qE] at hf; refine V 1 Z (C hf Z (fun h1 hf=>?_) fun h1 hf=>?_)
 ·
  refine B1 hf fun e1 h2 hf=>W 1 Z (AS Z (AO.aO h2 Z Z Z Z NH Z Z ?_)); refine B1 hf fun x1 h3 hf=>U 6 Z (AS Z (AO.call Z _ Z Z af3 (af4 _ _ _ h3 (J 1 Z (C hf Z (fun h4 hf=>?_) fun h4 hf=>?_)))))
  · cases hf; exact M 1 Z (Y Z h)
  exact M 2 Z ⟨(dA (i1 + 1)),Z,Z,Z,hf⟩
 cases hf; exact M 1 Z (Y Z h)
theorem QO (i1:Int) (c1:UInt8) {r0:Bool} (hf:BP i1 c1=some r0) (h:Q (.ret (.bool r0)) τ):PC 81 [iP i1,.int .u8 (c1.toNat:Int)] τ Q:=by
 unfold BP at hf; refine BN 31 [.tmp 4] [0,1] Tryz.func81 Z Z Z Z Z (W 4 Z (An 3 7 10 [0,1] (decide ((c1.toNat:Int)≤122)) Z Z Z Z ?_)); refine B1 hf fun b1 h3 hf=>U 1 Z (AR.fV 3 11 14 false [0,1] b1 Z Z (fun h2=>?_) (fun h2=>?_) ?_)
 · refine IF 11 h2 h3 Z fun h3=>?_; refine BR h3 fun x1 h4 h3=>?_; refine U 1 Z (GO Z (AO.call Z _ Z Z acu (Kg _ h4 ?_))); cases h3; exact fG 1 Z (En [14,0,1] Z)
 · refine IT 11 h2 h3 Z fun h3=>?_; cases h3; exact fG 3 Z (En [14,0,1] Z)
 refine U 1 Z (AR.or 15 15 30 [] (x:=((decide (0 < i1)) && ((((c1.toNat:Int) == 95) || ((c1.toNat:Int) == 45)) || ((c1.toNat:Int) == 46)))) Z Z (fun h5=>?_) (fun h5=>?_) ?_)
 ·
  refine Is 15 h5 Z (U 3 Z (AR.and 11 18 29 [15] (x:=((((c1.toNat:Int) == 95) || ((c1.toNat:Int) == 45)) || ((c1.toNat:Int) == 46))) Z Z (fun h6=>?_) (fun h6=>?_) ?_))
  · refine Is 18 h6 Z (U 3 Z (On 3 21 24 [1,15,18] ((c1.toNat:Int) == 45) Z Z Z Z (U 1 Z (On 3 25 28 [15,18] ((c1.toNat:Int) == 46) Z Z Z Z ?_)))); exact fG 1 Z (En [29,15] Z)
  · refine Is 18 h6 Z ?_; exact fG 11 Z (En [29,15] Z)
  exact fG 1 Z (En [30] Z)
 · refine Is 15 h5 Z ?_; exact fG 15 Z (En [30] Z)
 cases hf; exact N 1 Z (Y Z h)
theorem Ul (s1:Str) {r0:Bool} (hf:KG s1=some r0) (h:Q (.ret (.bool r0)) τ):PC 49 [.str s1] τ Q:=by
 unfold KG at hf; refine BN 16 [.tmp 2] [0] Tryz.func49 Z Z Z Z Z (W 2 Z (AS Z (AO.cK Z Z Z Z dP Z (U 2 Z (AR.and 4 6 10 [0] (x:=(decide ((s1.length:Int)≤64))) Z Z (fun h1=>?_) (fun h1=>?_) ?_)))))
 · refine Is 6 h1 Z (U 1 Z (GO Z (AO.cK Z Z Z Z dP Z ?_))); exact fG 2 Z (En [10,0] Z)
 · refine Is 6 h1 Z ?_; exact fG 4 Z (En [10,0] Z)
 refine BR hf fun b1 h3 hf=>?_; refine U 1 Z (AR.fV 4 11 15 true [] b1 Z Z (fun h2=>?_) (fun h2=>?_) ?_)
 · refine IT 11 h2 h3 Z fun h3=>?_; refine B1 h3 fun x1 h4 h3=>U 1 Z (GO Z (AO.Wp h4 Z dP aeY UK Z (fun v1=>?_))); refine BR h3 fun x2 h5 h3=>?_; refine GO Z (AO.call Z _ Z Z afe (KX _ BP 81 [] afd (fun _ _ _ hz=>QO _ _  hz) h5 ?_)); cases h3; refine fG 1 Z (AR.drop1 ?_); exact En [15] Z
 · refine IF 11 h2 h3 Z fun h3=>?_; cases h3; exact fG 4 Z (En [15] Z)
 cases hf; exact N 1 Z (Y Z h)
theorem Gg (mZ:List aA) {r0:Int} (hf:EY mZ=some r0) (h:Q (.ret (iP r0)) τ):PC 53 [.list (List.map aA.cells mZ)] τ Q:=by
 unfold EY at hf; refine BN 39 [.tmp 2] [0] Tryz.func53 Z Z Z Z Z (W 2 Z (AS Z (AO.aM (l:=mZ) Z Z Z Z lu Z Z (J 1 Z (C hf Z (fun h1 hf=>?_) fun h1 hf=>?_)))))
 · cases hf; exact M 1 Z (Y Z h)
 refine W 0 Z (AS Z (AO.PX Z (fun m10=>(U 2 Z (AS Z (AO.aM (l:=mZ) Z Z Z Z lu Z Z (J 1 Z (Xt (fun x1 y1=>[(3,.val (.map (some m10))),(11,.list (List.map aA.cells mZ)),(12,iP (mZ.length:Int)),(13,iP x1)]) (fun x1 y1=>[.obj m10 (vU y1)]) (fun bY x1 y1=>DV mZ bY x1 y1=some r0) BIG 0 [] Z Z hf (fun _ _ hz=>bT hz) ?_)))))))); intro bY x1 y1 hf; rw [DV] at hf; refine V 1 Z (C hf Z (fun h2 hf=>?_) fun h2 hf=>?_)
 ·
  refine B1 hf fun e1 h3 hf=>W 0 Z (AS Z (AO.aO h3 Z Z Z Z lu (aA.aG _) Z (U 1 Z (AS Z (AO.aF Z K4 (fun b5=>?_)))))); refine B1 hf fun x2 h4 hf=>Rr 4 [0,0] Z Z (CL Z (qY _ h4 (J 1 Z (C hf Z (fun h5 hf=>?_) fun h5 hf=>?_))))
  · cases hf; exact M 1 Z (Y Z h)
  refine B1 hf fun e2 h6 hf=>Wr 2 [0] Z Z (CL Z (om _ h6 (J 3 Z (C hf Z (fun h7 hf=>?_) fun h7 hf=>?_))))
  · cases hf; exact M 2 Z (Y Z h)
  refine Wr 3 [0] Z Z (AS Z (AO.Jw (i:=1) (l:=y1) Z Z Z Z FQ dP Yi (U 1 Z (AR.bF Z Z (AO.KD (i:=1) (l:=y1) Z Z Z Z Z FQ dP (Rr 3 [0] Z Z (AS Z (AO.Jw (i:=1) (l:=(Bf y1 e1.name (dA ((Ej y1 e1.name) + 1)))) Z Z Z Z FQ dP Yi (J 1 Z (C hf Z (fun h8 hf=>?_) fun h8 hf=>?_))))))))))
  · cases hf; exact M 1 Z (Y Z h)
  refine Wn0 2 Z (AR.drop1 ?_); exact N 0 Z ⟨(dA (x1 + 1)),(Bf y1 e1.name (dA ((Ej y1 e1.name) + 1))),Z,Z,Z,hf⟩
 cases hf; exact M 1 Z (Y Z h)
theorem M8 (s1:Str) {r0:Bool} (hf:Cu s1=some r0) (h:Q (.ret (.bool r0)) τ):PC 115 [.str s1] τ Q:=by
 unfold Cu at hf; refine BN 8 [.tmp 2] [0] Tryz.func115 rfl rfl rfl rfl rfl (W 3 rfl (AS rfl (AO.bL (List.map aA.cells [(aA.mk s1 (ah.mk 0 false 0 ([]:Str) [] []))]) rfl Ai rfl rfl rfl (by first | rfl | simp only [List.map,aA.aG]) ?_))); refine B1 hf fun x1 h1 hf=>CL Z (Gg _ h1 ?_); cases hf; exact N 2 Z (Y Z h)
abbrev Jl (jY:ah→Option ah):Prop:=∀ (pO:ah) {aP:ah},jY pO=some aP→∀ {τ:List bn} {Q:cZ→List bn→Prop} (h:Q (.ret (.agg (aK aP))) τ),PC 148 [.agg (aK pO)] τ Q
theorem O7 (jY) (MZ:Jl jY) (v1:ah) {r0:ah} (hf:C9 jY v1=some r0) (h:Q (.ret (.agg (aK r0))) τ):PC 148 [.agg (aK v1)] τ Q:=by
 unfold C9 at hf; refine BN 28 [.cell 2 42] [0] Tryz.func148 Z Z Z Z Z (W 1 Z (AS Z (AO.aF Z gF (fun b2=>(U 1 Z (AS Z (AO.aF Z gF (fun b3=>(Rr 5 [0,0] Z Z (AS Z (AO.aM (l:=v1.bH) Z Z Z Z gK Z (ah.aC _) ?_))))))))))); refine J 1 Z (AW.row 6 42 (Uu (fun x1 bg v2=>[(1,.ref (aK v1)),(2,pP b2),(3,pP b3),(9,.list (ah.aN v1.bH)),(10,iP (v1.bH.length:Int)),(11,iP x1)]) (fun x1 bg v2=>[.row v2 (ah.aN bg.bH).length 6 42,.box b3 [iP bg.kind,.bool bg.iD,iP bg.iC,.str bg.gW,.own v2 (ah.aN bg.bH),sP bg.keys],.box b2 [iP 0,.bool false,iP 0,.str ([]:Str),.own (.slice none 0 0) [],.own (.slice none 0 0) []]]) (fun bY x1 bg v2=>wV jY v1 bY x1 bg=some r0) BIG 0 (ah.mk v1.kind v1.iD v1.iC v1.gW [] v1.keys) (.slice none 0 0) Z Z hf (fun _ _ _ hz=>bT hz) ?_)); intro bY x1 bg v2 hf; rw [wV] at hf; refine V 1 Z (C hf Z (fun h1 hf=>?_) fun h1 hf=>?_)
 ·
  refine B1 hf fun e1 h2 hf=>W 0 Z (AS Z (AO.aO h2 Z Z (ah.aC _) Z gK (ah.aG _) Z (U 1 Z (AS Z (AO.aF Z gF (fun b5=>(Rw 1 [0] Z Z (AW.draw 5 mixed (by kernel_rfl) Z ?_)))))))); refine Ev.cs aX 1 Z (Ev.cons Z Z Z (AO.aY (i:=2) Z Z Z HV Z Z zg) (Ev.cons Z Z Z (AO.aY (i:=0) Z Z Z kZ Z Z zg) ?_)); refine B1 hf fun x2 h3 hf=>Ev.cons rfl rfl rfl (AO.call rfl _ rfl rfl adx (MZ _ h3 ⟨rfl,rfl⟩)) (Ev.cons rfl rfl rfl (AO.bL (ah.aN [x2]) rfl xI rfl rfl rfl (by first | rfl | simp only [List.map,ah.aG,ah.aN]) ⟨rfl,rfl⟩) ?_)
  refine Ev.nil ?_; show AR _ _ _ _ _ _ _ _; refine B1 hf fun x3 h4 hf=>AS Z (AO.eO (i:=1) (l:=bg.bH) (m:=[x2]) h4 Z Z Z Z Z Z Z xI gK (ah.aC _) (ah.aC _) (ah.aC _).symm (ah.bE) (ah.cells_one) (by decide) (fun v3 s1 hs1=>?_)); cases hs1; refine Rn 4 [2] Z Z (AR.drop1 ?_); exact N 0 Z ⟨(dA (x1 + 1)),(ah.mk bg.kind bg.iD bg.iC bg.gW x3 bg.keys),v3,Z,Z,Z,hf⟩
 refine W 2 Z (AR.row 1 9 ?_); refine B1 hf fun x4 h5 hf=>AS Z (AO.eO (i:=0) (l:=[]) (m:=v1.keys) h5 Z Z Z Z Z Z Z rD iY Z Z Z (fun _=>Z) (fun _=>Z) (by decide) (fun v4 s2 hs2=>?_)); cases hs2; cases hf; exact Rx 4 [2,2,3] Z Z (ZC [3] Z Z h)
theorem PS :∀ k:Nat,(Jl (uR k)):=by
 intro k
 induction k with
 | zero=>exact fun _ _ hz=>by first | cases hz | (unfold uR at hz; cases hz)
 | succ k ih=>exact fun pO aP hz τ Q hq=>O7 (uR k) ih pO hz hq
theorem QV (pO:ah) {aP:ah} (hf:Mc pO=some aP) (h:Q (.ret (.agg (aK aP))) τ):PC 148 [.agg (aK pO)] τ Q:=
 ((PS BIG)) pO hf h
abbrev Kq (kP:aj→Option aj):Prop:=∀ (jT:aj) {aP:aj},kP jT=some aP→∀ {τ:List bn} {Q:cZ→List bn→Prop} (h:Q (.ret (.agg (bI aP))) τ),PC 117 [.agg (bI jT)] τ Q
theorem Ri (kP) (Oq:Kq kP) (e1:aj) {r0:aj} (hf:Et kP e1=some r0) (h:Q (.ret (.agg (bI r0))) τ):PC 117 [.agg (bI e1)] τ Q:=by
 unfold Et at hf; refine BN 32 [.cell 2 45] [0] Tryz.func117 Z Z Z Z Z (W 1 Z (AS Z (AO.aF Z iX (fun b2=>(U 1 Z (AS Z (AO.aF Z iX (fun b3=>?_)))))))); refine B1 hf fun x1 h1 hf=>Rr 3 [0] Z Z (CL Z (QV _ h1 (Rr 6 [0,0] Z Z (AS Z (AO.aM (l:=e1.args) Z Z Z Z je Z (aj.aC _) ?_))))); refine J 1 Z (AW.row 10 45 (Uu (fun x2 bg v1=>[(1,.ref (bI e1)),(2,pP b2),(3,pP b3),(13,.list (aj.aN e1.args)),(14,iP (e1.args.length:Int)),(15,iP x2)]) (fun x2 bg v1=>[.row v1 (aj.aN bg.args).length 10 45,.box b3 [iP bg.kind,.str bg.name,iP bg.value.kind,.bool bg.value.iD,iP bg.value.iC,.str bg.value.gW,.list (ah.aN bg.value.bH),sP bg.value.keys,.own v1 (aj.aN bg.args),sP bg.keys],.box b2 [iP 0,.str ([]:Str),iP 0,.bool false,iP 0,.str ([]:Str),.own (.slice none 0 0) [],.own (.slice none 0 0) [],.own (.slice none 0 0) [],.own (.slice none 0 0) []]]) (fun bY x2 bg v1=>yY kP e1 bY x2 bg=some r0) BIG 0 (aj.mk e1.kind e1.name x1 [] e1.keys) (.slice none 0 0) Z Z hf (fun _ _ _ hz=>bT hz) ?_)); intro bY x2 bg v1 hf; rw [yY] at hf; refine V 1 Z (C hf Z (fun h2 hf=>?_) fun h2 hf=>?_)
 ·
  refine B1 hf fun e2 h3 hf=>W 0 Z (AS Z (AO.aO h3 Z Z (aj.aC _) Z je (aj.aG _) Z (U 1 Z (AS Z (AO.aF Z iX (fun b5=>(Rw 1 [0] Z Z (AW.draw 5 mixed (by kernel_rfl) Z ?_)))))))); refine Ev.cs aX 1 Z (Ev.cons Z Z Z (AO.aY (i:=2) Z Z Z Nt Z Z zg) (Ev.cons Z Z Z (AO.aY (i:=0) Z Z Z gT Z Z zg) ?_)); refine B1 hf fun x3 h4 hf=>Ev.cons rfl rfl rfl (AO.call rfl _ rfl rfl adL (Oq _ h4 ⟨rfl,rfl⟩)) (Ev.cons rfl rfl rfl (AO.bL (aj.aN [x3]) rfl wu rfl rfl rfl (by first | rfl | simp only [List.map,aj.aG,aj.aN]) ⟨rfl,rfl⟩) ?_)
  refine Ev.nil ?_; show AR _ _ _ _ _ _ _ _; refine B1 hf fun x4 h5 hf=>AS Z (AO.eO (i:=1) (l:=bg.args) (m:=[x3]) h5 Z Z Z Z Z Z Z wu je (aj.aC _) (aj.aC _) (aj.aC _).symm (aj.bE) (aj.cells_one) (by decide) (fun v2 s1 hs1=>?_)); cases hs1; refine Rn 4 [2] Z Z (AR.drop1 ?_); exact N 0 Z ⟨(dA (x2 + 1)),(aj.mk bg.kind bg.name bg.value x4 bg.keys),v2,Z,Z,Z,hf⟩
 refine W 2 Z (AR.row 1 9 ?_); refine B1 hf fun x5 h6 hf=>AS Z (AO.eO (i:=0) (l:=[]) (m:=e1.keys) h6 Z Z Z Z Z Z Z rD iY Z Z Z (fun _=>Z) (fun _=>Z) (by decide) (fun v3 s2 hs2=>?_)); cases hs2; cases hf; exact Rx 4 [2,2,3] Z Z (ZC [3] Z Z h)
theorem Rs :∀ k:Nat,(Kq (wI k)):=by
 intro k
 induction k with
 | zero=>exact fun _ _ hz=>by first | cases hz | (unfold wI at hz; cases hz)
 | succ k ih=>exact fun jT aP hz τ Q hq=>Ri (wI k) ih jT hz hq
theorem R7 (jT:aj) {aP:aj} (hf:NI jT=some aP) (h:Q (.ret (.agg (bI aP))) τ):PC 117 [.agg (bI jT)] τ Q:=
 ((Rs BIG)) jT hf h
theorem EC (b1:au) (name1:Str) {r0:aj} {r1:Bool} (hf:Ar b1 name1=some (r0,r1)) (h:Q (.ret (.tuple [.agg (bI r0),.bool r1])) τ):PC 87 [.agg (dW b1),.str name1] τ Q:=by
 unfold Ar at hf; refine BN 24 [.cell 4 45,.tmp 5] [0,1] Tryz.func87 Z Z Z Z Z (W 1 Z (AS Z (AO.aF Z iX (fun b4=>(U 3 Z (AS Z (AO.aM (l:=b1.attrs) Z Z Z Z sF Z Z ?_))))))); refine J 1 Z (Gm (fun x1=>[(1,.str name1),(4,pP b4),(9,.list (List.map aS.cells b1.attrs)),(10,iP (b1.attrs.length:Int)),(11,iP x1)]) (fun x1=>[.box b4 [iP 0,.str ([]:Str),iP 0,.bool false,iP 0,.str ([]:Str),.own (.slice none 0 0) [],.own (.slice none 0 0) [],.own (.slice none 0 0) [],.own (.slice none 0 0) []]]) (fun bY x1=>ze b1 name1 bY x1=some (r0,r1)) BIG 0 Z Z hf (fun _ hz=>bT hz) ?_); intro bY x1 hf; rw [ze] at hf; refine V 1 Z (C hf Z (fun h1 hf=>?_) fun h1 hf=>?_)
 ·
  refine B1 hf fun e1 h2 hf=>W 0 Z (AS Z (AO.aO h2 Z Z Z Z sF (aS.aG _) Z (U 1 Z (AS Z (AO.aF Z OV (fun b7=>(Rw 5 [0,0] Z Z (C hf Z (fun h3 hf=>?_) fun h3 hf=>?_))))))))
  · refine B1 hf fun x2 h4 hf=>Wr 2 [0] Z Z (CL Z (R7 _ h4 ?_)); cases hf; exact Rx 2 [1] Z Z (ZC [1] Z Z h)
  refine Wn0 2 Z (AR.drop1 ?_); exact N 0 Z ⟨(dA (x1 + 1)),Z,Z,Z,hf⟩
 cases hf; exact Wx 3 [0] Z Z (ZC [0] Z Z h)
theorem Ey (iZ:Int) {r0:Str} (hf:rC iZ=some r0) (h:Q (.ret (.str r0)) τ):PC 144 [iP iZ] τ Q:=by
 unfold rC at hf; refine BN 14 [.tmp 2] [0] Tryz.func144 Z Z Z Z Z (W 1 Z (AS Z (AO.Nk Z Zm aaZ Z (AS Z (AO.aF Z Zm (fun b3=>(Rr 4 [0] Z Z (On 3 7 10 [0,3] (decide (8≤iZ)) Z Z Z Z ?_)))))))); refine J 0 Z (C hf Z (fun h2 hf=>?_) fun h2 hf=>?_)
 · cases hf; exact M 1 Z (Y Z h)
 refine BR hf fun e1 h3 hf=>?_; refine W 1 Z (AS Z (AO.Qa h3 Z aaZ Z Z Z (AS Z (AO.YI (i:=0) (fun z:Str=>.str z) h3 Z Z Z Pf Z ?_)))); cases hf; exact N 1 Z (Y Z h)
theorem vQ (s1:Str) (mg:Str) {r0:Bool} (hf:nA s1 mg=some r0) (h:Q (.ret (.bool r0)) τ):PC 216 [.str s1,.str mg] τ Q:=by
 unfold nA at hf; refine BN 18 [.tmp 4] [0,1] Tryz.func216 Z Z Z Z Z (W 2 Z (AS Z (AO.cK Z Z Z Z dP Z (U 1 Z (AS Z (AO.cK Z Z Z Z dP Z ?_)))))); refine BR hf fun b1 h2 hf=>?_; refine U 2 Z (AR.fV 7 10 17 true [] b1 Z Z (fun h1=>?_) (fun h1=>?_) ?_)
 · replace h2:=jm h1 h2; refine Is 10 h1 Z (U 2 Z (GO Z (AO.cK Z Z Z Z dP Z ?_))); refine B1 h2 fun x1 h3 h2=>GO Z (AO.oM h3 Z dP Z Z ⟨_,Z⟩ ?_); cases h2; exact fG 3 Z (En [17] Z)
 · refine IF 10 h1 h2 Z fun h2=>?_; cases h2; exact fG 7 Z (En [17] Z)
 cases hf; exact N 1 Z (Y Z h)
theorem Dv (s1:Str) (mg:Str) {r0:Str} {r1:Bool} (hf:qP s1 mg=some (r0,r1)) (h:Q (.ret (.tuple [.str r0,.bool r1])) τ):PC 202 [.str s1,.str mg] τ Q:=by
 unfold qP at hf; refine BN 15 [.tmp 4,.tmp 5] [0,1] Tryz.func202 Z Z Z Z Z ?_; refine B1 hf fun x1 h1 hf=>W 4 Z (CL Z (vQ _ _ h1 (J 1 Z (C hf Z (fun h2 hf=>?_) fun h2 hf=>?_))))
 · cases hf; exact M 3 Z (Y Z h)
 refine W 2 Z (AS Z (AO.cK Z Z Z Z dP Z ?_)); refine B1 hf fun Xo h3 hf=>AS Z (AO.oM h3 Z dP Z ⟨_,Z⟩ Z ?_); cases hf; exact N 2 Z (Y Z h)
theorem JV (s1:Str) (mg:Str) {r0:Str} {r1:Bool} (hf:strings_CutPrefix s1 mg=some (r0,r1)) (h:Q (.ret (.tuple [.str r0,.bool r1])) τ):PC 169 [.str s1,.str mg] τ Q:=by
 unfold strings_CutPrefix at hf; refine BN 11 [.tmp 4,.tmp 5] [0,1] Tryz.func169 Z Z Z Z Z ?_; replace hf:=(JF _).trans hf; obtain ⟨Xo,aee,h1,hf⟩:=bP hf; refine W 4 Z (CL Z (Dv _ _ h1 ?_)); cases hf; exact N 4 Z (Y Z h)
theorem vP (s1:Str) (l9:Str) {r0:Bool} (hf:ny s1 l9=some r0) (h:Q (.ret (.bool r0)) τ):PC 235 [.str s1,.str l9] τ Q:=by
 unfold ny at hf; refine BN 21 [.tmp 4] [0,1] Tryz.func235 Z Z Z Z Z (W 2 Z (AS Z (AO.cK Z Z Z Z dP Z (U 1 Z (AS Z (AO.cK Z Z Z Z dP Z ?_)))))); refine BR hf fun b1 h2 hf=>?_; refine U 2 Z (AR.fV 10 10 20 true [] b1 Z Z (fun h1=>?_) (fun h1=>?_) ?_)
 · replace h2:=jm h1 h2; refine Is 10 h1 Z (U 2 Z (GO Z (AO.cK Z Z Z Z dP Z (U 1 Z (GO Z (AO.cK Z Z Z Z dP Z ?_)))))); refine B1 h2 fun x1 h3 h2=>U 1 Z (GO Z (AO.oM h3 Z dP Z ⟨_,Z⟩ Z ?_)); cases h2; exact fG 3 Z (En [20] Z)
 · refine IF 10 h1 h2 Z fun h2=>?_; cases h2; exact fG 10 Z (En [20] Z)
 cases hf; exact N 1 Z (Y Z h)
theorem Du (s1:Str) (l9:Str) {r0:Str} {r1:Bool} (hf:qO s1 l9=some (r0,r1)) (h:Q (.ret (.tuple [.str r0,.bool r1])) τ):PC 203 [.str s1,.str l9] τ Q:=by
 unfold qO at hf; refine BN 18 [.tmp 4,.tmp 5] [0,1] Tryz.func203 Z Z Z Z Z ?_; refine B1 hf fun x1 h1 hf=>W 4 Z (CL Z (vP _ _ h1 (J 1 Z (C hf Z (fun h2 hf=>?_) fun h2 hf=>?_))))
 · cases hf; exact M 3 Z (Y Z h)
 refine W 2 Z (AS Z (AO.cK Z Z Z Z dP Z (U 1 Z (AS Z (AO.cK Z Z Z Z dP Z ?_))))); refine B1 hf fun Uq h3 hf=>U 1 Z (AS Z (AO.oM h3 Z dP Z Z ⟨_,Z⟩ ?_)); cases hf; exact N 2 Z (Y Z h)
theorem JU (s1:Str) (l9:Str) {r0:Str} {r1:Bool} (hf:strings_CutSuffix s1 l9=some (r0,r1)) (h:Q (.ret (.tuple [.str r0,.bool r1])) τ):PC 170 [.str s1,.str l9] τ Q:=by
 unfold strings_CutSuffix at hf; refine BN 11 [.tmp 4,.tmp 5] [0,1] Tryz.func170 Z Z Z Z Z ?_; replace hf:=(JF _).trans hf; obtain ⟨Uq,aee,h1,hf⟩:=bP hf; refine W 4 Z (CL Z (Du _ _ h1 ?_)); cases hf; exact N 4 Z (Y Z h)
theorem Ox (s1:Str) {r0:Int} {r1:Str} (hf:Ec s1=some (r0,r1)) (h:Q (.ret (.tuple [iP r0,.str r1])) τ):PC 147 [.str s1] τ Q:=by
 unfold Ec at hf; refine BN 35 [.tmp 2,.tmp 3] [0] Tryz.func147 Z Z Z Z Z (W 2 Z (AS Z (AO.bL (List.map LW ([5,6]:List Int)) Z Pk Z Z Z Z (AS Z (AO.aM (l:=([5,6]:List Int)) Z Z Z Z Es Z Z (J 1 Z (Gm (fun x1=>[(0,.str s1),(10,.list (List.map LW ([5,6]:List Int))),(11,iP (([5,6]:List Int).length:Int)),(12,iP x1)]) (fun x1=>[]) (fun bY x1=>qK s1 bY x1=some (r0,r1)) BIG 0 Z Z hf (fun _ hz=>bT hz) ?_))))))); intro bY x1 hf; rw [qK] at hf; refine V 1 Z (C hf Z (fun h1 hf=>?_) fun h1 hf=>?_)
 ·
  refine B1 hf fun iZ h2 hf=>W 0 Z (AS Z (AO.aO h2 Z Z Z Z Es Z Z ?_)); refine B1 hf fun x2 h3 hf=>U 4 Z (CL Z (Ey _ h3 ?_)); refine B1 hf fun x3 h4 hf=>AS Z (AO.pq h4 Z Z Z ?_); obtain ⟨jq,ok1,h5,hf⟩:=bP hf; refine CL Z (JV _ _ h5 (J 7 Z (C hf Z (fun h6 hf=>?_) fun h6 hf=>?_)))
  · exact M 2 Z ⟨(dA (x1 + 1)),Z,Z,Z,hf⟩
  obtain ⟨pF,ok2,h7,hf⟩:=bP hf; refine W 1 Z (CL Z (JU _ _ h7 (J 6 Z (C hf Z (fun h8 hf=>?_) fun h8 hf=>?_))))
  · cases hf; exact M 4 Z (Y Z h)
  exact M 2 Z ⟨(dA (x1 + 1)),Z,Z,Z,hf⟩
 cases hf; exact M 2 Z (Y Z h)
theorem nP (iZ:Int) {r0:Bool} (hf:gN iZ=some r0) (h:Q (.ret (.bool r0)) τ):PC 109 [iP iZ] τ Q:=by
 unfold gN at hf; refine BN 9 [.tmp 2] [0] Tryz.func109 Z Z Z Z Z (W 4 Z (On 3 5 8 [] (iZ == 6) Z Z Z Z ?_)); cases hf; exact N 1 Z (Y Z h)
theorem kY (iZ:Int) {r0:aD} (hf:gM iZ=some r0) (h:Q (.ret (.agg (cO r0))) τ):PC 69 [iP iZ] τ Q:=by
 unfold gM at hf; refine BN 5 [.cell 2 61] [0] Tryz.func69 Z Z Z Z Z (W 0 Z (AS Z (AO.aF Z Dx (fun b2=>?_)))); cases hf; exact Rx 3 [0] Z Z (ZC [0] Z Z h)
theorem Av (iZ:Int) (pF:aD) {r0:aD} (hf:m_ iZ pF=some r0) (h:Q (.ret (.agg (cO r0))) τ):PC 71 [iP iZ,.agg (cO pF)] τ Q:=by
 unfold m_ at hf; refine BN 9 [.cell 4 61] [0,1] Tryz.func71 rfl rfl rfl rfl rfl (W 1 rfl (AS rfl (AO.aF rfl Dx (fun b4=>(U 2 rfl (AS rfl (AO.bL (aD.aN [pF]) rfl acp rfl rfl rfl (by first | rfl | simp only [List.map,aD.aG,aD.aN]) ?_))))))); cases hf; exact Rx 2 [0] Z Z (ZC [0] Z Z h)
theorem Qw (s1:Str) {r0:aD} {r1:Int} (hf:Fv s1=some (r0,r1)) (h:Q (.ret (.tuple [.agg (cO r0),iP r1])) τ):PC 116 [.str s1] τ Q:=by
 unfold Fv at hf; refine BN 59 [.cell 2 61,.tmp 3] [0] Tryz.func116 Z Z Z Z Z (W 0 Z (AS Z (AO.aF Z Dx (fun b2=>(U 2 Z (AS Z (AO.cK Z Z Z Z dP Z (J 1 Z (C hf Z (fun h1 hf=>?_) fun h1 hf=>?_)))))))))
 · cases hf; exact Wx 3 [0] Z Z (ZC [0] Z Z h)
 refine V 1 Z (AW.row 1 3 (Uu (fun s2 mI v1=>[(0,.str s2),(2,pP b2),(4,.own v1 (List.map LW mI))]) (fun s2 mI v1=>[.row v1 (List.map LW mI).length 1 3,.box b2 [iP 0,.own (.slice none 0 0) []]]) (fun bY s2 mI v1=>wP bY s2 mI=some (r0,r1)) BIG s1 [] (.slice none 0 0) Z Z hf (fun _ _ _ hz=>bT hz) ?_)); intro bY s2 mI v1 hf; rw [wP] at hf; obtain ⟨iZ,jq,h2,hf⟩:=bP hf; refine W 1 Z (CL Z (Ox _ h2 (J 7 Z (C hf Z (fun h3 hf=>?_) fun h3 hf=>?_))))
 ·
  refine V 1 Z (Gm (fun Gv=>[(0,.str s2),(2,pP b2),(4,.own v1 (List.map LW mI)),(26,iP Gv)]) (fun Gv=>[.row v1 (List.map LW mI).length 1 3,.box b2 [iP 0,.own (.slice none 0 0) []]]) (fun ED Gv=>wO s2 mI ED Gv=some (r0,r1)) BIG 0 Z Z hf (fun _ hz=>bT hz) ?_); intro ED Gv hf; rw [wO] at hf; refine V 1 Z (C hf Z (fun h4 hf=>?_) fun h4 hf=>?_)
  ·
   refine B1 hf fun x1 h5 hf=>W 3 Z (CL Z (nP _ h5 ?_)); refine B1 hf fun b1 h7 hf=>U 1 Z (AR.fV 5 31 36 false [0,2,4,7,26] b1 Z Z (fun h6=>?_) (fun h6=>?_) ?_)
   · refine IF 31 h6 h7 Z fun h7=>?_; refine B1 h7 fun x2 h8 h7=>U 1 Z (GO Z (AO.call Z _ Z Z adz (Ey _ h8 ?_))); cases h7; exact fG 3 Z (En [36,0,2,4,7,26] Z)
   · refine IT 31 h6 h7 Z fun h7=>?_; cases h7; exact fG 5 Z (En [36,0,2,4,7,26] Z)
   refine J 0 Z (C hf Z (fun h9 hf=>?_) fun h9 hf=>?_)
   · exact M 2 Z ⟨(dA (Gv + 1)),Z,Z,Z,hf⟩
   refine W 1 Z (AS Z (AO.aM (l:=mI) Z Z Z Z Es Z Z (J 1 Z (C hf Z (fun h10 hf=>?_) fun h10 hf=>?_))))
   · cases hf; exact Wx 3 [1] Z Z (ZC [1] Z Z h)
   refine B1 hf fun x3 h11 hf=>W 1 Z (CL Z (kY _ h11 (AS Z (AO.aF Z Dx (fun b8=>(Rr 2 [0] Z Z (AS Z (AO.aM (l:=mI) Z Z Z Z Es Z Z ?_)))))))); refine J 2 Z (Xt (fun i1 t1=>[(2,pP b2),(4,.own v1 (List.map LW mI)),(8,pP b8),(9,iP i1)]) (fun i1 t1=>[.box b8 (cO t1),.row v1 (List.map LW mI).length 1 3,.box b2 [iP 0,.own (.slice none 0 0) []]]) (fun kk3 i1 t1=>wN mI kk3 i1 t1=some (r0,r1)) BIG (dA ((mI.length:Int) - 1)) x3 Z Z hf (fun _ _ hz=>bT hz) ?_); intro kk3 i1 t1 hf; rw [wN] at hf; refine V 2 Z (C hf Z (fun h12 hf=>?_) fun h12 hf=>?_)
   ·
    refine V 0 Z (AW.draw 6 mixed (by kernel_rfl) Z ?_); refine Ev.cs aX 2 Z ?_; refine B1 hf fun e1 lH hf=>Ev.cons Z Z Z (AO.aO lH Z Z Z Z Es Z Z zg) (Ev.cs aX 1 Z (Ev.cons Z Z Z (AO.aY (i:=0) Z Z Z ZG Z Z zg) ?_)); refine B1 hf fun x4 lV hf=>Ev.cons Z Z Z (AO.call Z _ Z Z Z0 (Av _ _ lV zg)) (Ev.nil ?_); show AR _ _ _ _ _ _ _ _; exact Rx 4 [0] Z Z ⟨(dA (i1 - 1)),x4,Z,Z,Z,hf⟩
   cases hf; exact Wx 3 [0,2] Z Z (ZC [2] Z Z h)
  cases hf; exact Wx 3 [1] Z Z (ZC [1] Z Z h)
 refine W 2 Z (AS Z (AO.bL (List.map LW ([iZ]:List Int)) Z Pk Z Z Z Z ?_)); refine B1 hf fun WG ru hf=>AS Z (AO.eO (i:=0) (l:=mI) (m:=([iZ]:List Int)) ru Z Z Z Z Z Z Z Pk Es Z Z Z (fun _=>Z) (fun _=>Z) (by decide) (fun v2 s3 hs3=>?_)); cases hs3; exact N 3 Z ⟨jq,WG,v2,Z,Z,Z,hf⟩
theorem R5 (e1:aj) (mZ:List aA) {r0:List aA} {r1:Int} (hf:Iy e1 mZ=some (r0,r1)) (h:Q (.ret (.tuple [.list (List.map aA.cells r0),iP r1])) τ):PC 118 [.agg (bI e1),.list (List.map aA.cells mZ)] τ Q:=by
 unfold Iy at hf; refine BN 19 [.tmp 4,.tmp 5] [0,1] Tryz.func118 Z Z Z Z Z (W 1 Z (AS Z (AO.dQ Z Z ?_))); refine B1 hf fun f1 h1 hf=>U 2 Z (CL Z (Gg _ h1 (J 3 Z (C hf Z (fun h2 hf=>?_) fun h2 hf=>?_))))
 · refine W 1 Z (AS Z (AO.dQ Z Z ?_)); cases hf; exact N 1 Z (Y Z h)
 refine B1 hf fun f2 h3 hf=>W 1 Z (CL Z (qY _ h3 (J 3 Z (C hf Z (fun h4 hf=>?_) fun h4 hf=>?_))))
 · refine W 1 Z (AS Z (AO.dQ Z Z ?_)); cases hf; exact N 1 Z (Y Z h)
 cases hf; exact M 3 Z (Y Z h)
@[reducible] def UD :eX aI Unit→cZ
 | .ok r=>.ret (.tuple [])
 | .bad e=>.panic (.iface 181 (.agg [iP e.code]))
theorem D5 (e1:Int) {rX:eX aI Unit} (hf:JA e1=some rX) (h:Q (UD rX) τ):PC 204 [iP e1] τ Q:=by
 unfold JA at hf; refine BN 5 [] [0] Tryz.func204 Z Z Z Z Z (W 2 Z (AS Z (AO.XW Z ad1 Z (AR.bF Z Z (AO.aap Z Z ?_))))); cases hf; exact ⟨Z,[],List.nil_sublist _,h⟩
@[reducible] def K5 :eX aI ah→cZ
 | .ok r=>.ret (.agg (aK r))
 | .bad e=>.panic (.iface 181 (.agg [iP e.code]))
theorem DY (s1:List aA) (name1:Str) {rX:eX aI ah} (hf:Bj s1 name1=some rX) (h:Q (K5 rX) τ):PC 171 [.list (List.map aA.cells s1),.str name1] τ Q:=by
 unfold Bj at hf; refine BN 22 [.cell 4 42] [0,1] Tryz.func171 Z Z Z Z Z (W 0 Z (AS Z (AO.aF Z gF (fun b4=>(U 1 Z (AS Z (AO.aM (l:=s1) Z Z Z Z aaL Z Z (J 1 Z (Gm (fun x1=>[(1,.str name1),(4,pP b4),(7,.list (List.map aA.cells s1)),(8,iP (s1.length:Int)),(9,iP x1)]) (fun x1=>[.box b4 [iP 0,.bool false,iP 0,.str ([]:Str),.own (.slice none 0 0) [],.own (.slice none 0 0) []]]) (fun bY x1=>rU s1 name1 bY x1=some rX) BIG 0 Z Z hf (fun _ hz=>bT hz) ?_))))))))); intro bY x1 hf; rw [rU] at hf; refine V 1 Z (C hf Z (fun h1 hf=>?_) fun h1 hf=>?_)
 ·
  refine B1 hf fun e1 h2 hf=>W 0 Z (AS Z (AO.aO h2 Z Z Z Z aaL (aA.aG _) Z (U 1 Z (AS Z (AO.aF Z K4 (fun b6=>(Rw 5 [0,0] Z Z (C hf Z (fun h3 hf=>?_) fun h3 hf=>?_))))))))
  · cases hf; exact Wx 3 [0,1] Z Z (ZC [1] Z Z h)
  refine Wn0 2 Z (AR.drop1 ?_); exact N 0 Z ⟨(dA (x1 + 1)),Z,Z,Z,hf⟩
 rcases bS hf with ⟨e2,h4,hf⟩ | ⟨_,h4,hf⟩
 · refine W 0 Z (CL Z (D5 _ h4 ?_)); cases hf; exact ⟨Z,[],List.nil_sublist _,h⟩
 refine W 0 Z (CL Z (D5 _ h4 ?_)); cases hf; exact Rx 2 [0] Z Z (ZC [0] Z Z h)
theorem uX (s1:Str) {r0:ah} (hf:vD s1=some r0) (h:Q (.ret (.agg (aK r0))) τ):PC 173 [.str s1] τ Q:=by
 unfold vD at hf; refine BN 5 [.cell 2 42] [0] Tryz.func173 Z Z Z Z Z (W 0 Z (AS Z (AO.aF Z gF (fun b2=>?_)))); cases hf; exact Rx 3 [0] Z Z (ZC [0] Z Z h)
theorem kJ (v1:ah) (iZ:Int) {r0:Bool} (hf:nC v1 iZ=some r0) (h:Q (.ret (.bool r0)) τ):PC 205 [.agg (aK v1),iP iZ] τ Q:=by
 unfold nC at hf; refine BN 9 [.tmp 4] [0,1] Tryz.func205 Z Z Z Z Z ?_; cases hf; exact M 7 Z (Y Z h)
@[reducible] def UC :eX aI Unit→cZ
 | .ok r=>.ret (.tuple [])
 | .bad e=>.panic (.iface 181 (.agg [iP e.code]))
theorem bQ (ok1:Bool) (e1:Int) {rX:eX aI Unit} (hf:gB ok1 e1=some rX) (h:Q (UC rX) τ):PC 181 [.bool ok1,iP e1] τ Q:=by
 unfold gB at hf; refine BN 8 [] [0,1] Tryz.func181 Z Z Z Z Z (V 2 Z (C hf Z (fun h1 hf=>?_) fun h1 hf=>?_))
 ·
  rcases bS hf with ⟨e2,h2,hf⟩ | ⟨_,h2,hf⟩
  · refine W 1 Z (CL Z (D5 _ h2 ?_)); cases hf; exact ⟨Z,[],List.nil_sublist _,h⟩
  refine W 1 Z (CL Z (D5 _ h2 ?_)); cases hf; exact N 0 Z (ZN Z h)
 cases hf; exact M 0 Z (ZN Z h)
theorem zQ (s1:List Str) (v1:Str) {r0:Int} (hf:nK s1 v1=some r0) (h:Q (.ret (iP r0)) τ):PC 236 [sP s1,.str v1] τ Q:=by
 unfold nK at hf; refine BN 19 [.tmp 4] [0,1] Tryz.func236 Z Z Z Z Z (W 2 Z (AS Z (AO.aM (l:=s1) Z Z Z Z iY Z Z (J 1 Z (Gm (fun i1=>[(0,sP s1),(1,.str v1),(7,iP (s1.length:Int)),(8,iP i1)]) (fun i1=>[]) (fun bY i1=>jO s1 v1 bY i1=some r0) BIG 0 Z Z hf (fun _ hz=>bT hz) ?_))))); intro bY i1 hf; rw [jO] at hf; refine V 1 Z (C hf Z (fun h1 hf=>?_) fun h1 hf=>?_)
 ·
  refine B1 hf fun e1 h2 hf=>W 5 Z (AS Z (AO.aO h2 Z Z Z Z iY Z Z (J 2 Z (C hf Z (fun h3 hf=>?_) fun h3 hf=>?_))))
  · cases hf; exact M 2 Z (Y Z h)
  exact M 2 Z ⟨(dA (i1 + 1)),Z,Z,Z,hf⟩
 cases hf; exact M 1 Z (Y Z h)
abbrev Km (kM:ah→Option ah):Prop:=∀ (pO:ah) {aP:ah},kM pO=some aP→∀ {τ:List bn} {Q:cZ→List bn→Prop} (h:Q (.ret (.agg (aK aP))) τ),PC 237 [.agg (aK pO)] τ Q
theorem Rb (kM) (Ol:Km kM) (v1:ah) {r0:ah} (hf:D9 kM v1=some r0) (h:Q (.ret (.agg (aK r0))) τ):PC 237 [.agg (aK v1)] τ Q:=by
 unfold D9 at hf; refine BN 28 [.cell 2 42] [0] Tryz.func237 Z Z Z Z Z (W 1 Z (AS Z (AO.aF Z gF (fun b2=>(U 1 Z (AS Z (AO.aF Z gF (fun b3=>?_)))))))); refine B1 hf fun x1 h1 hf=>Rr 3 [0] Z Z (CL Z (mK _ h1 (Rr 6 [0,0] Z Z (AS Z (AO.aM (l:=v1.bH) Z Z Z Z gK Z (ah.aC _) ?_))))); refine J 1 Z (AW.row 6 42 (Uu (fun x2 bg v2=>[(2,pP b2),(3,pP b3),(13,.list (ah.aN v1.bH)),(14,iP (v1.bH.length:Int)),(15,iP x2)]) (fun x2 bg v2=>[.row v2 (ah.aN bg.bH).length 6 42,.box b3 [iP bg.kind,.bool bg.iD,iP bg.iC,.str bg.gW,.own v2 (ah.aN bg.bH),sP bg.keys],.box b2 [iP 0,.bool false,iP 0,.str ([]:Str),.own (.slice none 0 0) [],.own (.slice none 0 0) []]]) (fun bY x2 bg v2=>xY kM v1 bY x2 bg=some r0) BIG 0 (ah.mk v1.kind v1.iD v1.iC v1.gW [] x1) (.slice none 0 0) Z Z hf (fun _ _ _ hz=>bT hz) ?_)); intro bY x2 bg v2 hf; rw [xY] at hf; refine V 1 Z (C hf Z (fun h2 hf=>?_) fun h2 hf=>?_)
 ·
  refine B1 hf fun e1 h3 hf=>W 0 Z (AS Z (AO.aO h3 Z Z (ah.aC _) Z gK (ah.aG _) Z (U 1 Z (AS Z (AO.aF Z gF (fun b5=>(Rw 1 [0] Z Z (AW.draw 5 mixed (by kernel_rfl) Z ?_)))))))); refine Ev.cs aX 1 Z (Ev.cons Z Z Z (AO.aY (i:=2) Z Z Z HV Z Z zg) (Ev.cons Z Z Z (AO.aY (i:=0) Z Z Z kZ Z Z zg) ?_)); refine B1 hf fun x3 h4 hf=>Ev.cons rfl rfl rfl (AO.call rfl _ rfl rfl Z7 (Ol _ h4 ⟨rfl,rfl⟩)) (Ev.cons rfl rfl rfl (AO.bL (ah.aN [x3]) rfl xI rfl rfl rfl (by first | rfl | simp only [List.map,ah.aG,ah.aN]) ⟨rfl,rfl⟩) ?_)
  refine Ev.nil ?_; show AR _ _ _ _ _ _ _ _; refine B1 hf fun x4 h5 hf=>AS Z (AO.eO (i:=1) (l:=bg.bH) (m:=[x3]) h5 Z Z Z Z Z Z Z xI gK (ah.aC _) (ah.aC _) (ah.aC _).symm (ah.bE) (ah.cells_one) (by decide) (fun v3 s1 hs1=>?_)); cases hs1; refine Rn 4 [2] Z Z (AR.drop1 ?_); exact N 0 Z ⟨(dA (x2 + 1)),(ah.mk bg.kind bg.iD bg.iC bg.gW x4 bg.keys),v3,Z,Z,Z,hf⟩
 cases hf; exact Wx 2 [1,2] Z Z (ZC [2] Z Z h)
theorem Ro :∀ k:Nat,(Km (wh k)):=by
 intro k
 induction k with
 | zero=>exact fun _ _ hz=>by first | cases hz | (unfold wh at hz; cases hz)
 | succ k ih=>exact fun pO aP hz τ Q hq=>Rb (wh k) ih pO hz hq
theorem J_ (pO:ah) {aP:ah} (hf:Hw pO=some aP) (h:Q (.ret (.agg (aK aP))) τ):PC 237 [.agg (aK pO)] τ Q:=
 ((Ro BIG)) pO hf h
theorem NJ (v1:ah) (key1:Str) {r0:ah} {r1:Bool} (hf:Jr v1 key1=some (r0,r1)) (h:Q (.ret (.tuple [.agg (aK r0),.bool r1])) τ):PC 206 [.agg (aK v1),.str key1] τ Q:=by
 unfold Jr at hf; refine BN 32 [.cell 4 42,.tmp 5] [0,1] Tryz.func206 Z Z Z Z Z (W 1 Z (AS Z (AO.aF Z gF (fun b4=>?_)))); refine B1 hf fun i1 h1 hf=>U 4 Z (CL Z (zQ _ _ h1 (U 5 Z (On 3 14 17 [2,4,6] (decide (i1 < 0)) Z Z Z Z (U 1 Z (AR.or 6 18 24 [2,4,6] (x:=(decide ((v1.bH.length:Int)≤i1))) Z Z (fun h3=>?_) (fun h3=>?_) ?_))))))
 · refine Is 18 h3 Z (U 3 Z (GO Z (AO.aM (l:=v1.bH) Z Z Z Z gK Z (ah.aC _) ?_))); exact fG 2 Z (En [24,2,4,6] Z)
 · refine Is 18 h3 Z ?_; exact fG 6 Z (En [24,2,4,6] Z)
 refine J 0 Z (C hf Z (fun h4 hf=>?_) fun h4 hf=>?_)
 · cases hf; exact Wx 3 [0] Z Z (ZC [0] Z Z h)
 refine B1 hf fun e1 h5 hf=>W 3 Z (AS Z (AO.aO h5 Z Z (ah.aC _) Z gK (ah.aG _) Z ?_)); refine B1 hf fun x1 h6 hf=>U 1 Z (CL Z (J_ _ h6 ?_)); cases hf; exact Rx 2 [0] Z Z (ZC [0] Z Z h)
@[reducible] def Td :eX aI ah→cZ
 | .ok r=>.ret (.agg (aK r))
 | .bad e=>.panic (.iface 181 (.agg [iP e.code]))
theorem BZ (m1:ah) (key1:ah) {rX:eX aI ah} (hf:F4 m1 key1=some rX) (h:Q (Td rX) τ):PC 172 [.agg (aK m1),.agg (aK key1)] τ Q:=by
 unfold F4 at hf; refine BN 24 [.cell 4 42] [0,1] Tryz.func172 Z Z Z Z Z (W 2 Z (AS Z (AO.aF Z gF (fun b4=>?_)))); refine B1 hf fun x1 h1 hf=>U 1 Z (CL Z (kJ _ _ h1 ?_)); refine B1 hf fun b1 h3 hf=>U 1 Z (AR.fV 3 9 12 true [2,3,4] b1 Z Z (fun h2=>?_) (fun h2=>?_) ?_)
 · refine IT 9 h2 h3 Z fun h3=>?_; refine BR h3 fun x2 h4 h3=>?_; refine U 1 Z (GO Z (AO.call Z _ Z Z MQ (kJ _ _ h4 ?_))); cases h3; exact fG 1 Z (En [12,2,3,4] Z)
 · refine IF 9 h2 h3 Z fun h3=>?_; cases h3; exact fG 3 Z (En [12,2,3,4] Z)
 rcases bS hf with ⟨e1,h5,hf⟩ | ⟨_,h5,hf⟩
 · refine CL Z (bQ _ _ h5 ?_); cases hf; exact ⟨Z,[],List.nil_sublist _,h⟩
 refine CL Z (bQ _ _ h5 ?_); obtain ⟨x3,ok1,h6,hf⟩:=bP hf; refine U 3 Z (CL Z (NJ _ _ h6 (U 3 Z (AS Z (AO.aF Z gF (fun b5=>?_)))))); rcases bS hf with ⟨e2,h7,hf⟩ | ⟨_,h7,hf⟩
 · refine Rr 3 [0] Z Z (CL Z (bQ _ _ h7 ?_)); cases hf; exact ⟨Z,[],List.nil_sublist _,h⟩
 refine Rr 3 [0] Z Z (CL Z (bQ _ _ h7 ?_)); cases hf; exact Rx 2 [0,1] Z Z (ZC [1] Z Z h)
@[reducible] def OY :eX aI ah→cZ
 | .ok r=>.ret (.agg (aK r))
 | .bad e=>.panic (.iface 181 (.agg [iP e.code]))
theorem Jb (a1:ah) (i1:ah) {rX:eX aI ah} (hf:F5 a1 i1=some rX) (h:Q (OY rX) τ):PC 174 [.agg (aK a1),.agg (aK i1)] τ Q:=by
 unfold F5 at hf; refine BN 32 [.cell 4 42] [0,1] Tryz.func174 Z Z Z Z Z (W 2 Z (AS Z (AO.aF Z gF (fun b4=>?_)))); refine B1 hf fun x1 h1 hf=>U 1 Z (CL Z (kJ _ _ h1 ?_)); refine B1 hf fun b1 h3 hf=>U 1 Z (AR.fV 3 7 10 true [2,3,4] b1 Z Z (fun h2=>?_) (fun h2=>?_) ?_)
 · refine IT 7 h2 h3 Z fun h3=>?_; refine BR h3 fun x2 h4 h3=>?_; refine U 1 Z (GO Z (AO.call Z _ Z Z MQ (kJ _ _ h4 ?_))); cases h3; exact fG 1 Z (En [10,2,3,4] Z)
 · refine IF 7 h2 h3 Z fun h3=>?_; cases h3; exact fG 3 Z (En [10,2,3,4] Z)
 refine J 0 Z (C hf Z (fun h5 hf=>?_) fun h5 hf=>?_)
 ·
  refine W 4 Z (AR.and 7 14 21 [2,3,4] (x:=(decide (i1.iC < (a1.bH.length:Int)))) Z Z (fun h6=>?_) (fun h6=>?_) ?_)
  · refine Is 14 h6 Z (U 4 Z (GO Z (AO.aM (l:=a1.bH) Z Z Z Z gK Z (ah.aC _) ?_))); exact fG 2 Z (En [21,2,3,4] Z)
  · refine Is 14 h6 Z ?_; exact fG 7 Z (En [21,2,3,4] Z)
  rcases bS hf with ⟨e1,h7,hf⟩ | ⟨_,h7,hf⟩
  · refine CL Z (bQ _ _ h7 ?_); cases hf; exact ⟨Z,[],List.nil_sublist _,h⟩
  refine CL Z (bQ _ _ h7 ?_); refine B1 hf fun e2 h8 hf=>U 4 Z (AS Z (AO.aO h8 Z Z (ah.aC _) Z gK (ah.aG _) Z ?_)); cases hf; exact Rx 2 [0] Z Z (ZC [0] Z Z h)
 rcases bS hf with ⟨e3,h9,hf⟩ | ⟨x3,h9,hf⟩
 · refine W 2 Z (CL Z (BZ _ _ h9 ?_)); cases hf; exact ⟨Z,[],List.nil_sublist _,h⟩
 refine W 2 Z (CL Z (BZ _ _ h9 ?_)); cases hf; exact Rx 1 [0] Z Z (ZC [0] Z Z h)
theorem Um (name1:Str) {r0:Int} (hf:KN name1=some r0) (h:Q (.ret (iP r0)) τ):PC 207 [.str name1] τ Q:=by
 unfold KN at hf; refine BN 18 [.tmp 2] [0] Tryz.func207 Z Z Z Z Z (V 4 Z (C hf Z (fun h1 hf=>?_) fun h1 hf=>?_))
 ·
  refine V 0 Z (AW.cond Z (fun h2=>?_) (fun h2=>?_))
  · cases hf; exact M 1 Z (Y Z h)
  cases h1.symm.trans h2
 refine V 2 Z (C hf Z (fun h3 hf=>?_) fun h3 hf=>?_)
 ·
  refine V 0 Z (AW.cond Z (fun h4=>?_) (fun h4=>?_))
  · cases hf; exact M 1 Z (Y Z h)
  cases h3.symm.trans h4
 refine V 2 Z (C hf Z (fun h5 hf=>?_) fun h5 hf=>?_)
 ·
  refine V 0 Z (AW.cond Z (fun h6=>?_) (fun h6=>?_))
  · cases hf; exact M 1 Z (Y Z h)
  cases h5.symm.trans h6
 refine V 2 Z (C hf Z (fun h7 hf=>?_) fun h7 hf=>?_)
 ·
  refine V 0 Z (AW.cond Z (fun h8=>?_) (fun h8=>?_))
  · cases hf; exact M 1 Z (Y Z h)
  cases h7.symm.trans h8
 refine V 2 Z (C hf Z (fun h9 hf=>?_) fun h9 hf=>?_)
 ·
  refine V 0 Z (AW.cond Z (fun h10=>?_) (fun h10=>?_))
  · cases hf; exact M 1 Z (Y Z h)
  cases h9.symm.trans h10
 refine V 2 Z (C hf Z (fun h11 hf=>?_) fun h11 hf=>?_)
 · cases hf; exact M 1 Z (Y Z h)
 refine V 2 Z (C hf Z (fun h12 hf=>?_) fun h12 hf=>?_)
 ·
  refine V 0 Z (AW.cond Z (fun lH=>?_) (fun lH=>?_))
  · cases hf; exact M 1 Z (Y Z h)
  cases h12.symm.trans lH
 refine V 2 Z (C hf Z (fun lV hf=>?_) fun lV hf=>?_)
 ·
  refine V 0 Z (AW.cond Z (fun ru=>?_) (fun ru=>?_))
  · cases hf; exact M 1 Z (Y Z h)
  cases lV.symm.trans ru
 refine V 2 Z (C hf Z (fun h16 hf=>?_) fun h16 hf=>?_)
 ·
  refine V 0 Z (AW.cond Z (fun xB=>?_) (fun xB=>?_))
  · cases hf; exact M 1 Z (Y Z h)
  cases h16.symm.trans xB
 refine V 2 Z (C hf Z (fun h18 hf=>?_) fun h18 hf=>?_)
 ·
  refine V 0 Z (AW.cond Z (fun h19=>?_) (fun h19=>?_))
  · cases hf; exact M 1 Z (Y Z h)
  cases h18.symm.trans h19
 refine V 2 Z (C hf Z (fun h20 hf=>?_) fun h20 hf=>?_)
 ·
  refine V 0 Z (AW.cond Z (fun h21=>?_) (fun h21=>?_))
  · cases hf; exact M 1 Z (Y Z h)
  cases h20.symm.trans h21
 refine V 2 Z (C hf Z (fun h22 hf=>?_) fun h22 hf=>?_)
 · cases hf; exact M 1 Z (Y Z h)
 cases hf; exact M 1 Z (Y Z h)
theorem uY (n1:Int) {r0:ah} (hf:rV n1=some r0) (h:Q (.ret (.agg (aK r0))) τ):PC 211 [iP n1] τ Q:=by
 unfold rV at hf; refine BN 5 [.cell 2 42] [0] Tryz.func211 Z Z Z Z Z (W 0 Z (AS Z (AO.aF Z gF (fun b2=>?_)))); cases hf; exact Rx 3 [0] Z Z (ZC [0] Z Z h)
theorem Mt (l1:List ah) {r0:ah} (hf:F7 l1=some r0) (h:Q (.ret (.agg (aK r0))) τ):PC 179 [.list (ah.aN l1)] τ Q:=by
 unfold F7 at hf; refine BN 5 [.cell 2 42] [0] Tryz.func179 Z Z Z Z Z (W 0 Z (AS Z (AO.aF Z gF (fun b2=>?_)))); cases hf; exact Rx 3 [0] Z Z (ZC [0] Z Z h)
theorem Nj (h:Q (.ret (.agg [iP 4,.bool false,iP 0,.str ([]:Str),.own (.slice none 0 0) [],.own (.slice none 0 0) []])) τ):PC 179 [.own (.slice none 0 0) []] τ Q:=by
 refine AC.none (AC.Ak 5 [.cell 2 42] [0] Tryz.func179 Z Z Z Z Z (AW.sr (AR.step Z Z Z (AO.aF Z gF (fun b2=>?_))))); refine AR.nil [0,2] Z (AW.sr (cs 1 Z (AR.step Z Z Z (AO.build Z gF Tt Z ?_)))); refine AR.bF Z Z (AO.bR (i:=0) Z Z Z kZ Z Z Z Z Z (AR.nil [2] Z (AW.ret ?_))); exact ⟨rfl,_,⟨_,_,rfl,⟨_,_,0,_,_,rfl,rfl,kZ,rfl⟩,rfl⟩,[],List.nil_sublist _,h⟩
theorem NQ (l1:List Str) {r0:ah} (hf:Jz l1=some r0) (h:Q (.ret (.agg (aK r0))) τ):PC 238 [sP l1] τ Q:=by
 unfold Jz at hf; refine BN 22 [.cell 2 42] [0] Tryz.func238 Z Z Z Z Z (W 0 Z (AS Z (AO.aF Z gF (fun b2=>(U 0 Z (AS Z (AO.acP Z _ Z Z adp (Nj (AS Z (AO.aF Z gF (fun b3=>?_))))))))))); refine Rr 2 [0] Z Z (AS Z (AO.aM (l:=l1) Z Z Z Z iY Z Z ?_)); refine J 1 Z (AW.row 6 42 (AW.settle [2,3,7,8,9] Z (AW.Bt 1 [false,false,false,false,false,true] Z (Uu (fun x1 bg v1=>[(2,pP b2),(3,pP b3),(7,sP l1),(8,iP (l1.length:Int)),(9,iP x1)]) (fun x1 bg v1=>[.row v1 (ah.aN bg.bH).length 6 42,.box b3 [iP bg.kind,.bool bg.iD,iP bg.iC,.str bg.gW,.own v1 (ah.aN bg.bH),sP bg.keys],.box b2 [iP 0,.bool false,iP 0,.str ([]:Str),.own (.slice none 0 0) [],.own (.slice none 0 0) []]]) (fun bY x1 bg v1=>BQ l1 bY x1 bg=some r0) BIG 0 (ah.mk 4 false 0 ([]:Str) [] []) (.slice none 0 0) Z Z hf (fun _ _ _ hz=>bT hz) ?_)))); intro bY x1 bg v1 hf; rw [BQ] at hf; refine V 1 Z (C hf Z (fun h1 hf=>?_) fun h1 hf=>?_)
 ·
  refine B1 hf fun s1 h2 hf=>W 0 Z (AS Z (AO.aO h2 Z Z Z Z iY Z Z (J 2 Z (AW.draw 5 mixed (by kernel_rfl) Z ?_)))); refine Ev.cs aX 1 Z (Ev.cons Z Z Z (AO.aY (i:=1) Z Z Z HV Z Z zg) (Ev.cs aX 1 Z ?_)); refine B1 hf fun x2 h3 hf=>Ev.cons rfl rfl rfl (AO.call rfl _ rfl rfl aaf (uX _ h3 ⟨rfl,rfl⟩)) (Ev.cons rfl rfl rfl (AO.bL (ah.aN [x2]) rfl xI rfl rfl rfl (by first | rfl | simp only [List.map,ah.aG,ah.aN]) ⟨rfl,rfl⟩) ?_); refine Ev.nil ?_
  show AR _ _ _ _ _ _ _ _; refine B1 hf fun x3 h4 hf=>AS Z (AO.eO (i:=0) (l:=bg.bH) (m:=[x2]) h4 Z Z Z Z Z Z Z xI gK (ah.aC _) (ah.aC _) (ah.aC _).symm (ah.bE) (ah.cells_one) (by decide) (fun v2 s2 hs2=>?_)); cases hs2; exact Rx 4 [1] Z Z ⟨(dA (x1 + 1)),(ah.mk bg.kind bg.iD bg.iC bg.gW x3 bg.keys),v2,Z,Z,Z,hf⟩
 cases hf; exact Wx 2 [1,2] Z Z (ZC [2] Z Z h)
theorem Gf (b1:Bool) {r0:Str} (hf:uM b1=some r0) (h:Q (.ret (.str r0)) τ):PC 164 [.bool b1] τ Q:=by
 unfold uM at hf; refine BN 4 [.tmp 2] [0] Tryz.func164 Z Z Z Z Z (V 2 Z (C hf Z (fun h1 hf=>?_) fun h1 hf=>?_))
 · cases hf; exact M 1 Z (Y Z h)
 cases hf; exact M 1 Z (Y Z h)
theorem IZ (b1:Bool) {r0:Str} (hf:strconv_FormatBool b1=some r0) (h:Q (.ret (.str r0)) τ):PC 137 [.bool b1] τ Q:=by
 unfold strconv_FormatBool at hf; refine BN 5 [.tmp 2] [0] Tryz.func137 Z Z Z Z Z ?_; refine BR hf fun x1 h1 hf=>?_; refine W 2 Z (CL Z (Gf _ h1 ?_)); cases hf; exact N 1 Z (Y Z h)
section
variable [zq]
def YL :Go.Shelf.Ren:=⟨fun | 171=>138 | 243=>165 | 246=>199 | 283=>231 | 284=>232 | 285=>233 | 286=>234 | 129=>264 | 317=>263 | 318=>265 | 319=>266 | 320=>267 | 337=>294 | 338=>295 | n=>n,fun | 3=>3 | 9=>9 | 2=>2 | 4=>4 | 171=>251 | 0=>0 | 53=>252 | 37=>73 | 5=>5 | 173=>255 | 212=>275 | 51=>276 | 20=>20 | 213=>277 | 46=>278 | 232=>316 | 233=>317 | n=>n,fun | 17=>1 | 18=>4 | 19=>5 | n=>n⟩
theorem afK :Go.Proofs.LaysM.n171 Tryz.prog YL:=by repeat' first | (intros; kernel_rfl) | constructor | decide
theorem IY (n1:Int) {r0:Str} (hf:strconv_Itoa n1=some r0) (h:Q (.ret (.str r0)) τ):PC 138 [iP n1] τ Q:=by
 unfold strconv_Itoa at hf; split at hf
 case isFalse=>cases hf
 rename_i hg; cases hf; refine AC.none ?_; exact AC.itoa zq.hD afK hg.1 hg.2 zq.pow h
end
theorem Eu (s1:Str) {r0:Str} (hf:Ac s1=some r0) (h:Q (.ret (.str r0)) τ):PC 139 [.str s1] τ Q:=by
 unfold Ac at hf; refine BN 54 [.tmp 2] [0] Tryz.func139 Z Z Z Z Z (W 1 Z (AS Z (AO.Cn (eu:=5) Z Mx Z (fun b3=>?_)))); refine B1 hf fun b1 h1 hf=>U 0 Z (CL Z (AC.one 0 Z (ig h1 (fun v1=>⟨_,Z,(J 1 Z (Uu (fun i1 b2 v2=>[(0,.str s1),(3,pP b3),(4,iP i1)]) (fun i1 b2 v2=>[.Kj b3 v2 167 5 b2]) (fun bY i1 b2 v2=>mU s1 bY i1 b2=some r0) BIG 0 b1 v1 Z Z hf (fun _ _ _ hz=>bT hz) ?_))⟩)))); intro bY i1 b2 v2 hf; rw [mU] at hf; refine W 2 Z (AS Z (AO.cK Z Z Z Z dP Z (J 1 Z (C hf Z (fun h2 hf=>?_) fun h2 hf=>?_))))
 ·
  refine B1 hf fun c1 h3 hf=>W 2 Z (AS Z (AO.fP h3 Z dP Z Z (U 4 Z (On 3 28 31 [0,3,4,5] ((c1.toNat:Int) == 92) Z Z Z Z (J 1 Z (C hf Z (fun h5 hf=>?_) fun h5 hf=>?_))))))
  · refine B1 hf fun b3 h6 hf=>W 0 Z (CL Z (AC.one 0 Z (ig h6 (fun v3=>⟨_,Z,?_⟩)))); refine B1 hf fun b4 h7 hf=>U 1 Z (CL Z (AC.one 0 Z (ig h7 (fun v4=>⟨_,Z,?_⟩)))); exact N 3 Z ⟨(dA (i1 + 1)),b4,v4,Z,Z,Z,hf⟩
  refine V 3 Z (C hf Z (fun h8 hf=>?_) fun h8 hf=>?_)
  · refine B1 hf fun b5 h9 hf=>W 0 Z (CL Z (AC.one 0 Z (jo h9 (fun v5=>⟨_,Z,?_⟩)))); exact N 3 Z ⟨(dA (i1 + 1)),b5,v5,Z,Z,Z,hf⟩
  refine V 3 Z (C hf Z (fun h10 hf=>?_) fun h10 hf=>?_)
  · refine B1 hf fun b6 h11 hf=>W 0 Z (CL Z (AC.one 0 Z (jo h11 (fun v6=>⟨_,Z,?_⟩)))); exact N 3 Z ⟨(dA (i1 + 1)),b6,v6,Z,Z,Z,hf⟩
  refine W 3 Z (An 3 46 49 [0,3,4,5] (decide ((c1.toNat:Int)≤126)) Z Z Z Z (J 1 Z (C hf Z (fun lH hf=>?_) fun lH hf=>?_)))
  · refine B1 hf fun b7 lV hf=>W 1 Z (CL Z (AC.one 0 Z (ig lV (fun v7=>⟨_,Z,?_⟩)))); exact N 3 Z ⟨(dA (i1 + 1)),b7,v7,Z,Z,Z,hf⟩
  refine B1 hf fun b8 ru hf=>W 0 Z (CL Z (AC.one 0 Z (jo ru (fun v8=>⟨_,Z,(U 1 Z (AS Z (AO.u8_quo c1 16 Z Z Z Z Z (by decide) ?_)))⟩)))); refine B1 hf fun x1 h16 hf=>AS Z (AO.fP h16 Z dP Z Z ?_); refine B1 hf fun b9 xB hf=>CL Z (AC.one 0 Z (ig xB (fun v9=>⟨_,Z,(U 1 Z (AS Z (AO.Wj c1 16 Z Z Z Z Z (by decide) ?_)))⟩))); refine B1 hf fun x2 h18 hf=>AS Z (AO.fP h18 Z dP Z Z ?_); refine B1 hf fun b10 h19 hf=>CL Z (AC.one 0 Z (ig h19 (fun v10=>⟨_,Z,?_⟩))); exact N 3 Z ⟨(dA (i1 + 1)),b10,v10,Z,Z,Z,hf⟩
 refine BR hf fun b11 h20 hf=>?_; refine W 0 Z (CL Z (AC.one 0 Z (ig h20 (fun v11=>⟨_,Z,(U 0 Z (CL Z (AC.Ju 0 Z (vK ?_))))⟩)))); cases hf; exact N 1 Z (Y Z h)
section
variable [zq]
def SA :Go.Shelf.Ren:=⟨fun | 156=>103 | 165=>143 | 166=>141 | 169=>142 | 240=>166 | 241=>167 | 276=>200 | 277=>201 | n=>n,fun | 31=>40 | 9=>9 | 3=>3 | 4=>4 | 0=>0 | 20=>20 | 72=>167 | 76=>171 | 70=>165 | 37=>73 | 75=>169 | 127=>196 | 164=>227 | 5=>5 | 80=>173 | n=>n,fun | n=>n⟩
theorem joinL :Go.Proofs.Lays.n156 Tryz.prog SA:=by repeat' first | (intros; kernel_rfl) | constructor | decide
theorem afJ :Go.Proofs.Builder.Extra Tryz.prog SA:=by repeat' first | (intros; kernel_rfl) | constructor | decide
theorem zi (l1:List Str) (t1:Str) {r0:Str} (hf:strings_Join l1 t1=some r0) (h:Q (.ret (.str r0)) τ):PC 103 [sP l1,.str t1] τ Q:=by
 unfold strings_Join at hf; split at hf
 case isFalse=>cases hf
 rename_i hg; cases hf; refine AC.none ?_; exact AC.join zq.hD joinL afJ hg.1 hg.2 h
end
section
variable [zq]
abbrev GK (fA:ah→Option Str):Prop:=∀ (pO:ah) {aP:Str},fA pO=some aP→∀ {τ:List bn} {Q:cZ→List bn→Prop} (h:Q (.ret (.str aP)) τ),PC 100 [.agg (aK pO)] τ Q
theorem NW (fA) (yN:GK fA) (v1:ah) {r0:Str} (hf:AU fA v1=some r0) (h:Q (.ret (.str r0)) τ):PC 100 [.agg (aK v1)] τ Q:=by
 unfold AU at hf; refine BN 68 [.tmp 2] [0] Tryz.func100 Z Z Z Z Z (V 6 Z (C hf Z (fun h1 hf=>?_) fun h1 hf=>?_))
 · refine BR hf fun x1 h2 hf=>?_; refine W 2 Z (CL Z (IZ _ h2 ?_)); cases hf; exact N 1 Z (Y Z h)
 refine V 2 Z (C hf Z (fun h3 hf=>?_) fun h3 hf=>?_)
 · refine BR hf fun x2 h4 hf=>?_; refine W 2 Z (CL Z (IY _ h4 ?_)); cases hf; exact N 1 Z (Y Z h)
 refine V 2 Z (C hf Z (fun h5 hf=>?_) fun h5 hf=>?_)
 · refine BR hf fun x3 h6 hf=>?_; refine W 2 Z (CL Z (Eu _ h6 ?_)); cases hf; exact N 1 Z (Y Z h)
 refine V 2 Z (C hf Z (fun h7 hf=>?_) fun h7 hf=>?_)
 ·
  refine V 0 Z (AW.cond Z (fun h8=>?_) (fun h8=>?_))
  ·
   refine W 3 Z (AS Z (AO.aM (l:=v1.bH) Z Z Z Z gK Z (ah.aC _) (J 1 Z (AW.row 1 9 (Uu (fun nM v2 i1=>[(1,.ref (aK v1)),(3,.own v2 (List.map mo nM)),(28,.list (ah.aN v1.bH)),(29,iP (v1.bH.length:Int)),(30,iP i1)]) (fun nM v2 i1=>[.row v2 (List.map mo nM).length 1 9]) (fun bY nM v2 i1=>qH fA v1 bY nM i1=some r0) BIG [] (.slice none 0 0) 0 Z Z hf (fun _ _ _ hz=>bT hz) ?_))))); intro bY nM v2 i1 hf; rw [qH] at hf; refine V 1 Z (C hf Z (fun h9 hf=>?_) fun h9 hf=>?_)
   ·
    refine B1 hf fun e1 h10 hf=>W 1 Z (AS Z (AO.aO h10 Z Z (ah.aC _) Z gK (ah.aG _) Z (U 1 Z (AS Z (AO.aF Z gF (fun b5=>(Rw 5 [0] Z Z (C hf Z (fun h11 hf=>?_) fun h11 hf=>?_))))))))
    ·
     refine AW.draw 12 mixed (by kernel_rfl) Z ?_; refine Ev.cs aX 4 Z ?_; refine B1 hf fun e2 h12 hf=>Ev.cons Z Z Z (AO.aO h12 Z Z Z Z iY Z Z zg) (Ev.cs aX 1 Z ?_); refine B1 hf fun x4 lH hf=>Ev.cons Z Z Z (AO.call Z _ Z Z aaj (Eu _ lH zg)) ?_; refine B1 hf fun x5 lV hf=>Ev.cons Z Z Z (AO.pq lV Z Z Z zg) (Ev.cons Z Z Z (AO.aY (i:=0) Z Z Z kZ Z Z zg) ?_); refine B1 hf fun x6 ru hf=>Ev.cons Z Z Z (AO.call Z _ Z Z aan (yN _ ru zg)) ?_; refine B1 hf fun x7 h16 hf=>Ev.cons Z Z Z (AO.pq h16 Z Z Z zg) (Ev.cons Z Z Z (AO.bL (List.map mo ([x7]:List Str)) Z rD Z Z Z Z zg) (Ev.nil ?_)); show AR _ _ _ _ _ _ _ _; refine B1 hf fun Ky xB hf=>AS Z (AO.eO (i:=1) (l:=nM) (m:=([x7]:List Str)) xB Z Z Z Z Z Z Z rD iY Z Z Z (fun _=>Z) (fun _=>Z) (by decide) (fun v3 s1 hs1=>?_)); cases hs1; refine fG 3 Z (AR.drop1 ?_); exact N 0 Z ⟨Ky,v3,(dA (i1 + 1)),Z,Z,Z,hf⟩
    refine B1 hf fun x8 h18 hf=>Wr 2 [0] Z Z (CL Z (yN _ h18 (AS Z (AO.bL (List.map mo ([x8]:List Str)) Z rD Z Z Z Z ?_)))); refine B1 hf fun Kw h19 hf=>AS Z (AO.eO (i:=1) (l:=nM) (m:=([x8]:List Str)) h19 Z Z Z Z Z Z Z rD iY Z Z Z (fun _=>Z) (fun _=>Z) (by decide) (fun v4 s2 hs2=>?_)); cases hs2; refine fG 3 Z (AR.drop1 ?_); exact N 0 Z ⟨Kw,v4,(dA (i1 + 1)),Z,Z,Z,hf⟩
   refine B1 hf fun s3 h20 hf=>W 1 Z (CL Z (zi _ _ h20 (J 4 Z (C hf Z (fun h21 hf=>?_) fun h21 hf=>?_))))
   · refine B1 hf fun x9 h22 hf=>W 1 Z (AS Z (AO.pq h22 Z Z Z ?_)); refine BR hf fun K3 h23 hf=>?_; refine AS Z (AO.pq h23 Z Z Z ?_); cases hf; exact N 1 Z (Y Z h)
   refine B1 hf fun Nq Ry hf=>W 1 Z (AS Z (AO.pq Ry Z Z Z ?_)); refine BR hf fun UE SC hf=>?_; refine AS Z (AO.pq SC Z Z Z ?_); cases hf; exact N 1 Z (Y Z h)
  cases h7.symm.trans h8
 refine V 2 Z (C hf Z (fun Uy hf=>?_) fun Uy hf=>?_)
 ·
  refine W 3 Z (AS Z (AO.aM (l:=v1.bH) Z Z Z Z gK Z (ah.aC _) (J 1 Z (AW.row 1 9 (Uu (fun Ef v5 i2=>[(1,.ref (aK v1)),(3,.own v5 (List.map mo Ef)),(28,.list (ah.aN v1.bH)),(29,iP (v1.bH.length:Int)),(30,iP i2)]) (fun Ef v5 i2=>[.row v5 (List.map mo Ef).length 1 9]) (fun ED Ef v5 i2=>u_ fA v1 ED Ef i2=some r0) BIG [] (.slice none 0 0) 0 Z Z hf (fun _ _ _ hz=>bT hz) ?_))))); intro ED Ef v5 i2 hf; rw [u_] at hf; refine V 1 Z (C hf Z (fun h27 hf=>?_) fun h27 hf=>?_)
  ·
   refine B1 hf fun e3 Ux hf=>W 1 Z (AS Z (AO.aO Ux Z Z (ah.aC _) Z gK (ah.aG _) Z (U 1 Z (AS Z (AO.aF Z gF (fun ahT=>(Rw 5 [0] Z Z (AW.cond Z (fun ND=>?_) (fun ND=>?_)))))))))
   ·
    refine AW.draw 12 mixed (by kernel_rfl) Z ?_; refine Ev.cs aX 4 Z ?_; refine B1 hf fun e4 Zf hf=>Ev.cons Z Z Z (AO.aO Zf Z Z Z Z iY Z Z zg) (Ev.cs aX 1 Z ?_); refine B1 hf fun Yk h31 hf=>Ev.cons Z Z Z (AO.call Z _ Z Z aaj (Eu _ h31 zg)) ?_; refine B1 hf fun Y_ h32 hf=>Ev.cons Z Z Z (AO.pq h32 Z Z Z zg) (Ev.cons Z Z Z (AO.aY (i:=0) Z Z Z kZ Z Z zg) ?_); refine B1 hf fun x15 X3 hf=>Ev.cons Z Z Z (AO.call Z _ Z Z aan (yN _ X3 zg)) ?_; refine B1 hf fun Yj h34 hf=>Ev.cons Z Z Z (AO.pq h34 Z Z Z zg) (Ev.cons Z Z Z (AO.bL (List.map mo ([Yj]:List Str)) Z rD Z Z Z Z zg) (Ev.nil ?_)); show AR _ _ _ _ _ _ _ _; refine B1 hf fun WC h35 hf=>AS Z (AO.eO (i:=1) (l:=Ef) (m:=([Yj]:List Str)) h35 Z Z Z Z Z Z Z rD iY Z Z Z (fun _=>Z) (fun _=>Z) (by decide) (fun v6 s4 hs4=>?_)); cases hs4; refine fG 3 Z (AR.drop1 ?_); exact N 0 Z ⟨WC,v6,(dA (i2 + 1)),Z,Z,Z,hf⟩
   cases Uy.symm.trans ND
  refine B1 hf fun s5 h36 hf=>W 1 Z (CL Z (zi _ _ h36 (J 4 Z (AW.cond Z (fun h37=>?_) (fun h37=>?_)))))
  · refine B1 hf fun Y9 h38 hf=>W 1 Z (AS Z (AO.pq h38 Z Z Z ?_)); refine BR hf fun x18 h39 hf=>?_; refine AS Z (AO.pq h39 Z Z Z ?_); cases hf; exact N 1 Z (Y Z h)
  cases Uy.symm.trans h37
 cases hf; exact M 1 Z (Y Z h)
theorem Og :∀ k:Nat,(GK (rZ k)):=by
 intro k
 induction k with
 | zero=>exact fun _ _ hz=>by first | cases hz | (unfold rZ at hz; cases hz)
 | succ k ih=>exact fun pO aP hz τ Q hq=>NW (rZ k) ih pO hz hq
theorem Gy (pO:ah) {aP:Str} (hf:D8 pO=some aP) (h:Q (.ret (.str aP)) τ):PC 100 [.agg (aK pO)] τ Q:=
 ((Og BIG)) pO hf h
end
section
variable [zq]
theorem Mf (v1:ah) {r0:Str} {r1:Int} (hf:Fq v1=some (r0,r1)) (h:Q (.ret (.tuple [.str r0,iP r1])) τ):PC 191 [.agg (aK v1)] τ Q:=by
 unfold Fq at hf; refine BN 28 [.tmp 2,.tmp 3] [0] Tryz.func191 Z Z Z Z Z (W 7 Z (On 4 8 12 [1] (v1.kind == 5) Z Z Z Z (J 0 Z (C hf Z (fun h2 hf=>?_) fun h2 hf=>?_))))
 · cases hf; exact M 2 Z (Y Z h)
 refine B1 hf fun e1 h3 hf=>W 1 Z (CL Z (om _ h3 (J 3 Z (C hf Z (fun h4 hf=>?_) fun h4 hf=>?_))))
 · cases hf; exact M 3 Z (Y Z h)
 refine V 4 Z (C hf Z (fun h5 hf=>?_) fun h5 hf=>?_)
 · cases hf; exact M 2 Z (Y Z h)
 refine V 2 Z (C hf Z (fun h6 hf=>?_) fun h6 hf=>?_)
 · cases hf; exact M 4 Z (Y Z h)
 refine B1 hf fun x1 h7 hf=>W 1 Z (CL Z (Gy _ h7 ?_)); cases hf; exact N 2 Z (Y Z h)
end
theorem Kh (s1:Str) (lo1:UInt8) (hi1:UInt8) (by1:Int) {r0:Str} (hf:DU s1 lo1 hi1 by1=some r0) (h:Q (.ret (.str r0)) τ):PC 239 [.str s1,.int .u8 (lo1.toNat:Int),.int .u8 (hi1.toNat:Int),iP by1] τ Q:=by
 unfold DU at hf; refine BN 42 [.tmp 8] [0,1,2,3] Tryz.func239 Z Z Z Z Z (W 1 Z (AS Z (AO.Cn (eu:=5) Z Mx Z (fun b9=>(J 1 Z (Uu (fun i1 b1 v1=>[(0,.str s1),(1,.int .u8 (lo1.toNat:Int)),(2,.int .u8 (hi1.toNat:Int)),(3,iP by1),(9,pP b9),(10,iP i1)]) (fun i1 b1 v1=>[.Kj b9 v1 167 5 b1]) (fun bY i1 b1 v1=>uQ s1 lo1 hi1 by1 bY i1 b1=some r0) BIG 0 [] (.slice none 0 0) Z Z hf (fun _ _ _ hz=>bT hz) ?_)))))); intro bY i1 b1 v1 hf; rw [uQ] at hf; refine W 2 Z (AS Z (AO.cK Z Z Z Z dP Z (J 1 Z (C hf Z (fun h1 hf=>?_) fun h1 hf=>?_))))
 ·
  refine B1 hf fun x1 h2 hf=>W 2 Z (AS Z (AO.fP h2 Z dP Z Z ?_)); refine B1 hf fun b2 h4 hf=>U 3 Z (AR.fV 6 22 28 true [0,1,2,3,9,10] b2 Z Z (fun h3=>?_) (fun h3=>?_) ?_)
  · refine IT 22 h3 h4 Z fun h4=>?_; refine B1 h4 fun x2 h5 h4=>U 2 Z (GO Z (AO.fP h5 Z dP Z Z ?_)); cases h4; exact fG 3 Z (En [28,0,1,2,3,9,10] Z)
  · refine IF 22 h3 h4 Z fun h4=>?_; cases h4; exact fG 6 Z (En [28,0,1,2,3,9,10] Z)
  refine J 0 Z (C hf Z (fun h6 hf=>?_) fun h6 hf=>?_)
  · refine B1 hf fun x3 h7 hf=>W 2 Z (AS Z (AO.fP h7 Z dP Z Z (AS Z (AO.EZ Z UK O_ Z Z (U 2 Z (AS Z (AO.Vy Z O_ UK Z ?_))))))); refine B1 hf fun b3 h8 hf=>CL Z (AC.one 0 Z (ig h8 (fun v2=>⟨_,Z,?_⟩))); exact N 3 Z ⟨(dA (i1 + 1)),b3,v2,Z,Z,Z,hf⟩
  refine B1 hf fun x4 h9 hf=>W 2 Z (AS Z (AO.fP h9 Z dP Z Z ?_)); refine B1 hf fun b4 h10 hf=>CL Z (AC.one 0 Z (ig h10 (fun v3=>⟨_,Z,?_⟩))); exact N 3 Z ⟨(dA (i1 + 1)),b4,v3,Z,Z,Z,hf⟩
 refine W 0 Z (CL Z (AC.Ju 0 Z (vK ?_))); cases hf; exact N 1 Z (Y Z h)
section
variable [zq]
def Y6 :Go.Shelf.Ren:=⟨fun | 172=>268 | 244=>296 | 245=>297 | 247=>318 | 279=>319 | 280=>320 | 281=>321 | 282=>322 | 287=>336 | 316=>337 | 171=>138 | 205=>338 | 321=>342 | 322=>343 | 243=>165 | 246=>199 | 283=>231 | 284=>232 | 285=>233 | 286=>234 | 129=>264 | 317=>263 | 318=>265 | 319=>266 | 320=>267 | 337=>294 | 338=>295 | n=>n,fun | 9=>9 | 3=>3 | 75=>169 | 76=>171 | 4=>4 | 5=>5 | 167=>318 | 37=>73 | 0=>0 | 85=>319 | 2=>2 | 168=>321 | 53=>252 | 175=>334 | 46=>278 | 210=>337 | 127=>196 | 145=>346 | 143=>344 | 21=>21 | 171=>251 | 173=>255 | 212=>275 | 51=>276 | 20=>20 | 213=>277 | 232=>316 | 233=>317 | 80=>173 | n=>n,fun | 15=>6 | 16=>7 | 17=>1 | 18=>4 | 19=>5 | n=>n⟩
theorem agf :Go.Proofs.LaysC.n172 Tryz.prog Y6:=by repeat' first | (intros; kernel_rfl) | constructor | decide
theorem Df (s1:Str) {r0:Int} {r1:Option Nat} (hf:strconv_Atoi s1=some (r0,r1)) (h:Q (.ret (.tuple [iP r0,.err r1])) τ):PC 268 [.str s1] τ Q:=by
 unfold strconv_Atoi at hf; split at hf
 case isFalse=>cases hf
 rename_i hg; cases hf; refine AC.none ?_; exact AC.atoi zq.hD agf hg Z zq.syn zq.rng h
end
section
variable [zq]
theorem R6 (s1:Str) {r0:Int} {r1:Bool} (hf:Iz s1=some (r0,r1)) (h:Q (.ret (.tuple [iP r0,.bool r1])) τ):PC 240 [.str s1] τ Q:=by
 unfold Iz at hf; refine BN 28 [.tmp 2,.tmp 3] [0] Tryz.func240 Z Z Z Z Z ?_; obtain ⟨n1,Dt,h1,hf⟩:=bP hf; refine W 3 Z (CL Z (Df _ h1 (U 6 Z (AS Z (AO.eqNil Z aaB Z Z ?_))))); refine B1 hf fun b1 h3 hf=>U 1 Z (AR.fV 5 13 18 false [4] b1 Z Z (fun h2=>?_) (fun h2=>?_) ?_)
 · refine IF 13 h2 h3 Z fun h3=>?_; refine B1 h3 fun x1 h4 h3=>U 1 Z (GO Z (AO.call Z _ Z Z adB (IY _ h4 ?_))); cases h3; exact fG 3 Z (En [18,4] Z)
 · refine IT 13 h2 h3 Z fun h3=>?_; cases h3; exact fG 5 Z (En [18,4] Z)
 refine U 1 Z (On 3 19 22 [4] (decide (n1 < (-9007199254740992))) Z Z Z Z (U 1 Z (On 3 23 26 [4] (decide (9007199254740992 < n1)) Z Z Z Z (J 0 Z (C hf Z (fun h7 hf=>?_) fun h7 hf=>?_)))))
 · cases hf; exact M 2 Z (Y Z h)
 cases hf; exact M 3 Z (Y Z h)
end
section
variable [zq]
@[reducible] def V8 :eX aI ah→cZ
 | .ok r=>.ret (.agg (aK r))
 | .bad e=>.panic (.iface 181 (.agg [iP e.code]))
theorem QU (name1:Str) (v1:ah) {rX:eX aI ah} (hf:Qj name1 v1=some rX) (h:Q (V8 rX) τ):PC 208 [.str name1,.agg (aK v1)] τ Q:=by
 unfold Qj at hf; refine BN 78 [.cell 4 42] [0,1] Tryz.func208 Z Z Z Z Z (W 1 Z (AS Z (AO.aF Z gF (fun b4=>(J 3 Z (C hf Z (fun h1 hf=>?_) fun h1 hf=>?_))))))
 ·
  refine B1 hf fun x1 h2 hf=>W 1 Z (CL Z (kJ _ _ h2 ?_)); refine B1 hf fun b1 h4 hf=>U 1 Z (AR.fV 3 14 17 false [3,4] b1 Z Z (fun h3=>?_) (fun h3=>?_) ?_)
  · refine IF 14 h3 h4 Z fun h4=>?_; refine BR h4 fun x2 h5 h4=>?_; refine U 1 Z (GO Z (AO.call Z _ Z Z MQ (kJ _ _ h5 ?_))); cases h4; exact fG 1 Z (En [17,3,4] Z)
  · refine IT 14 h3 h4 Z fun h4=>?_; cases h4; exact fG 3 Z (En [17,3,4] Z)
  refine B1 hf fun b2 h7 hf=>U 1 Z (AR.fV 3 18 21 false [3,4] b2 Z Z (fun h6=>?_) (fun h6=>?_) ?_)
  · refine IF 18 h6 h7 Z fun h7=>?_; refine BR h7 fun x3 h8 h7=>?_; refine U 1 Z (GO Z (AO.call Z _ Z Z MQ (kJ _ _ h8 ?_))); cases h7; exact fG 1 Z (En [21,3,4] Z)
  · refine IT 18 h6 h7 Z fun h7=>?_; cases h7; exact fG 3 Z (En [21,3,4] Z)
  rcases bS hf with ⟨e1,h9,hf⟩ | ⟨_,h9,hf⟩
  · refine CL Z (bQ _ _ h9 ?_); cases hf; exact ⟨Z,[],List.nil_sublist _,h⟩
  refine CL Z (bQ _ _ h9 (U 2 Z (AS Z (AO.cK Z Z Z Z dP Z (U 2 Z (AS Z (AO.aM (l:=v1.bH) Z Z Z Z gK Z (ah.aC _) ?_))))))); refine B1 hf fun x4 h10 hf=>U 1 Z (CL Z (uY _ h10 ?_)); cases hf; exact Rx 1 [0] Z Z (ZC [0] Z Z h)
 refine V 2 Z (C hf Z (fun h11 hf=>?_) fun h11 hf=>?_)
 ·
  refine B1 hf fun x5 h12 hf=>W 1 Z (CL Z (kJ _ _ h12 ?_)); rcases bS hf with ⟨e2,lH,hf⟩ | ⟨_,lH,hf⟩
  · refine CL Z (bQ _ _ lH ?_); cases hf; exact ⟨Z,[],List.nil_sublist _,h⟩
  refine CL Z (bQ _ _ lH ?_); refine B1 hf fun x6 lV hf=>U 2 Z (CL Z (NQ _ lV ?_)); cases hf; exact Rx 1 [0] Z Z (ZC [0] Z Z h)
 refine V 2 Z (C hf Z (fun ru hf=>?_) fun ru hf=>?_)
 ·
  obtain ⟨t1,e3,h16,hf⟩:=bP hf; refine W 1 Z (CL Z (Mf _ h16 ?_)); rcases bS hf with ⟨e4,xB,hf⟩ | ⟨_,xB,hf⟩
  · refine U 8 Z (CL Z (bQ _ _ xB ?_)); cases hf; exact ⟨Z,[],List.nil_sublist _,h⟩
  refine U 8 Z (CL Z (bQ _ _ xB ?_)); refine B1 hf fun x7 h18 hf=>U 1 Z (CL Z (uX _ h18 ?_)); cases hf; exact Rx 1 [0] Z Z (ZC [0] Z Z h)
 refine B1 hf fun x8 h19 hf=>W 1 Z (CL Z (kJ _ _ h19 ?_)); rcases bS hf with ⟨e5,h20,hf⟩ | ⟨_,h20,hf⟩
 · refine CL Z (bQ _ _ h20 ?_); cases hf; exact ⟨Z,[],List.nil_sublist _,h⟩
 refine CL Z (bQ _ _ h20 (J 3 Z (C hf Z (fun h21 hf=>?_) fun h21 hf=>?_)))
 · refine B1 hf fun x9 h22 hf=>W 2 Z (CL Z (Kh _ _ _ _ h22 ?_)); refine B1 hf fun K3 h23 hf=>CL Z (uX _ h23 ?_); cases hf; exact Rx 1 [0] Z Z (ZC [0] Z Z h)
 refine V 2 Z (C hf Z (fun Ry hf=>?_) fun Ry hf=>?_)
 · refine B1 hf fun Nq SC hf=>W 2 Z (CL Z (Kh _ _ _ _ SC ?_)); refine B1 hf fun UE Uy hf=>CL Z (uX _ Uy ?_); cases hf; exact Rx 1 [0] Z Z (ZC [0] Z Z h)
 obtain ⟨n1,ok1,h27,hf⟩:=bP hf; refine W 2 Z (CL Z (R6 _ h27 ?_)); rcases bS hf with ⟨e6,Ux,hf⟩ | ⟨_,Ux,hf⟩
 · refine U 6 Z (CL Z (bQ _ _ Ux ?_)); cases hf; exact ⟨Z,[],List.nil_sublist _,h⟩
 refine U 6 Z (CL Z (bQ _ _ Ux ?_)); refine B1 hf fun Yk ND hf=>U 1 Z (CL Z (uY _ ND ?_)); cases hf; exact Rx 1 [0] Z Z (ZC [0] Z Z h)
end
theorem J8 (b1:Bool) {r0:Int} (hf:Dy b1=some r0) (h:Q (.ret (iP r0)) τ):PC 94 [.bool b1] τ Q:=by
 unfold Dy at hf; refine BN 4 [.tmp 2] [0] Tryz.func94 Z Z Z Z Z (V 2 Z (C hf Z (fun h1 hf=>?_) fun h1 hf=>?_))
 · cases hf; exact M 1 Z (Y Z h)
 cases hf; exact M 1 Z (Y Z h)
theorem iJ (xq:List ah) (zC:List ah) (IK:ah→ah→Option Int) (Me:FuncId) (Qp:List PV) (aaP:aV Tryz.prog Me=true) (aaQ:∀ a0 a1 b0,IK a0 a1=some b0→∀ {τ:List bn} {Q:cZ→List bn→Prop},Q (.ret (iP b0)) τ→PC Me ([.agg (aK a0),.agg (aK a1)] ++ Qp) τ Q) {r0:Int} (hf:dZ xq zC IK=some r0) (h:Q (.ret (iP r0)) τ):PC 96 [.list (ah.aN xq),.list (ah.aN zC),.fn Me Qp] τ Q:=by
 unfold dZ at hf; refine BN 39 [.tmp 6] [0,1,2] Tryz.func96 Z Z Z Z Z (W 2 Z (AS Z (AO.aM (l:=xq) Z Z Z Z gK Z (ah.aC _) (J 1 Z (Gm (fun i1=>[(0,.list (ah.aN xq)),(1,.list (ah.aN zC)),(2,.fn Me Qp),(11,.list (ah.aN xq)),(12,iP (xq.length:Int)),(13,iP i1)]) (fun i1=>[]) (fun bY i1=>dS xq zC IK bY i1=some r0) BIG 0 Z Z hf (fun _ hz=>bT hz) ?_))))); intro bY i1 hf; rw [dS] at hf; refine V 1 Z (C hf Z (fun h1 hf=>?_) fun h1 hf=>?_)
 ·
  refine B1 hf fun e1 h2 hf=>W 1 Z (AS Z (AO.aO h2 Z Z (ah.aC _) Z gK (ah.aG _) Z (U 1 Z (AS Z (AO.aF Z gF (fun b8=>(Rr 4 [0] Z Z (AS Z (AO.aM (l:=zC) Z Z Z Z gK Z (ah.aC _) (J 1 Z (C hf Z (fun h3 hf=>?_) fun h3 hf=>?_)))))))))))
  · cases hf; exact M 1 Z (Y Z h)
  refine B1 hf fun e2 h4 hf=>W 2 Z (AS Z (AO.aO h4 Z Z (ah.aC _) Z gK (ah.aG _) Z (U 1 Z (AS Z (AO.aF Z gF (fun b9=>?_)))))); refine B1 hf fun c1 h5 hf=>Rr 4 [0,1,0] Z Z (AS Z (AO.call Z _ Z Z aaP (aaQ _ _ _ h5 (J 3 Z (C hf Z (fun h6 hf=>?_) fun h6 hf=>?_)))))
  · cases hf; exact M 2 Z (Y Z h)
  refine Wn0 2 Z (AR.drop1 (AR.drop1 ?_)); exact N 0 Z ⟨(dA (i1 + 1)),Z,Z,Z,hf⟩
 refine W 1 Z (AS Z (AO.aM (l:=xq) Z Z Z Z gK Z (ah.aC _) (U 1 Z (AS Z (AO.aM (l:=zC) Z Z Z Z gK Z (ah.aC _) (J 1 Z (C hf Z (fun h7 hf=>?_) fun h7 hf=>?_)))))))
 · cases hf; exact M 1 Z (Y Z h)
 cases hf; exact M 1 Z (Y Z h)
theorem nX (xq:List Str) (zC:List Str) (IK:Str→Str→Option Int) (Me:FuncId) (Qp:List PV) (aaP:aV Tryz.prog Me=true) (aaQ:∀ a0 a1 b0,IK a0 a1=some b0→∀ {τ:List bn} {Q:cZ→List bn→Prop},Q (.ret (iP b0)) τ→PC Me ([.str a0,.str a1] ++ Qp) τ Q) {r0:Int} (hf:iB xq zC IK=some r0) (h:Q (.ret (iP r0)) τ):PC 97 [sP xq,sP zC,.fn Me Qp] τ Q:=by
 unfold iB at hf; refine BN 39 [.tmp 6] [0,1,2] Tryz.func97 Z Z Z Z Z (W 2 Z (AS Z (AO.aM (l:=xq) Z Z Z Z iY Z Z (J 1 Z (Gm (fun i1=>[(0,sP xq),(1,sP zC),(2,.fn Me Qp),(11,sP xq),(12,iP (xq.length:Int)),(13,iP i1)]) (fun i1=>[]) (fun bY i1=>fu xq zC IK bY i1=some r0) BIG 0 Z Z hf (fun _ hz=>bT hz) ?_))))); intro bY i1 hf; rw [fu] at hf; refine V 1 Z (C hf Z (fun h1 hf=>?_) fun h1 hf=>?_)
 ·
  refine B1 hf fun aeW h2 hf=>W 1 Z (AS Z (AO.aO h2 Z Z Z Z iY Z Z (U 5 Z (AS Z (AO.aM (l:=zC) Z Z Z Z iY Z Z (J 1 Z (C hf Z (fun h3 hf=>?_) fun h3 hf=>?_)))))))
  · cases hf; exact M 1 Z (Y Z h)
  refine B1 hf fun aeV h4 hf=>W 2 Z (AS Z (AO.aO h4 Z Z Z Z iY Z Z ?_)); refine B1 hf fun c1 h5 hf=>U 5 Z (AS Z (AO.call Z _ Z Z aaP (aaQ _ _ _ h5 (J 3 Z (C hf Z (fun h6 hf=>?_) fun h6 hf=>?_)))))
  · cases hf; exact M 2 Z (Y Z h)
  exact M 2 Z ⟨(dA (i1 + 1)),Z,Z,Z,hf⟩
 refine W 1 Z (AS Z (AO.aM (l:=xq) Z Z Z Z iY Z Z (U 1 Z (AS Z (AO.aM (l:=zC) Z Z Z Z iY Z Z (J 1 Z (C hf Z (fun h7 hf=>?_) fun h7 hf=>?_)))))))
 · cases hf; exact M 1 Z (Y Z h)
 cases hf; exact M 1 Z (Y Z h)
abbrev GL (kg:ah→ah→Option Int):Prop:=∀ (pQ:ah) (l6:ah) {aP:Int},kg pQ l6=some aP→∀ {τ:List bn} {Q:cZ→List bn→Prop} (h:Q (.ret (iP aP)) τ),PC 58 [.agg (aK pQ),.agg (aK l6)] τ Q
theorem NY (kg) (DT:GL kg) (a1:ah) (b1:ah) {r0:Int} (hf:AV kg a1 b1=some r0) (h:Q (.ret (iP r0)) τ):PC 58 [.agg (aK a1),.agg (aK b1)] τ Q:=by
 unfold AV at hf; refine BN 62 [.tmp 4] [0,1] Tryz.func58 Z Z Z Z Z ?_; refine B1 hf fun c1 h1 hf=>W 7 Z (CL Z (nD _ _ h1 (J 3 Z (C hf Z (fun h2 hf=>?_) fun h2 hf=>?_))))
 · cases hf; exact M 2 Z (Y Z h)
 refine V 4 Z (C hf Z (fun h3 hf=>?_) fun h3 hf=>?_)
 ·
  refine V 0 Z (AW.draw 8 mixed (by kernel_rfl) Z ?_); refine Ev.cs aX 2 Z ?_; refine B1 hf fun x1 h4 hf=>Ev.cons Z Z Z (AO.call Z _ Z Z acs (J8 _ h4 zg)) (Ev.cs aX 2 Z ?_); refine B1 hf fun x2 h5 hf=>Ev.cons Z Z Z (AO.call Z _ Z Z acs (J8 _ h5 zg)) ?_; refine BR hf fun x3 h6 hf=>?_; refine Ev.cons Z Z Z (AO.call Z _ Z Z ae7 (nD _ _ h6 zg)) (Ev.cs aX 1 Z (Ev.nil ?_)); show AR _ _ _ _ _ _ _ _; cases hf; exact N 0 Z (Y Z h)
 refine V 2 Z (C hf Z (fun h7 hf=>?_) fun h7 hf=>?_)
 · refine BR hf fun x4 h8 hf=>?_; refine W 4 Z (CL Z (nD _ _ h8 ?_)); cases hf; exact N 1 Z (Y Z h)
 refine V 2 Z (C hf Z (fun h9 hf=>?_) fun h9 hf=>?_)
 · refine BR hf fun x5 h10 hf=>?_; refine W 4 Z (CL Z (AJ _ _ h10 ?_)); cases hf; exact N 1 Z (Y Z h)
 refine V 2 Z (C hf Z (fun h11 hf=>?_) fun h11 hf=>?_)
 · refine BR hf fun x6 h12 hf=>?_; refine W 4 Z (CL Z (iJ _ _ kg 58 [] acA (fun _ _ _ hz=>DT _ _  hz) h12 ?_)); cases hf; exact N 1 Z (Y Z h)
 refine V 2 Z (C hf Z (fun lH hf=>?_) fun lH hf=>?_)
 ·
  refine B1 hf fun c2 lV hf=>W 4 Z (CL Z (nX _ _ lM 98 [] acr (fun _ _ _ hz=>Bp _ _  hz) lV (J 3 Z (C hf Z (fun ru hf=>?_) fun ru hf=>?_))))
  · cases hf; exact M 2 Z (Y Z h)
  refine BR hf fun x7 h16 hf=>?_; refine W 4 Z (CL Z (iJ _ _ kg 58 [] acA (fun _ _ _ hz=>DT _ _  hz) h16 ?_)); cases hf; exact N 1 Z (Y Z h)
 cases hf; exact M 1 Z (Y Z h)
theorem Oh :∀ k:Nat,(GL (r9 k)):=by
 intro k
 induction k with
 | zero=>exact fun _ _ _ hz=>by first | cases hz | (unfold r9 at hz; cases hz)
 | succ k ih=>exact fun pQ l6 aP hz τ Q hq=>NY (r9 k) ih pQ l6 hz hq
theorem Gz (pQ:ah) (l6:ah) {aP:Int} (hf:D_ pQ l6=some aP) (h:Q (.ret (iP aP)) τ):PC 58 [.agg (aK pQ),.agg (aK l6)] τ Q:=
 ((Oh BIG)) pQ l6 hf h
theorem Ew (a1:ah) (b1:ah) {r0:Bool} (hf:Ae a1 b1=some r0) (h:Q (.ret (.bool r0)) τ):PC 32 [.agg (aK a1),.agg (aK b1)] τ Q:=by
 unfold Ae at hf; refine BN 9 [.tmp 4] [0,1] Tryz.func32 Z Z Z Z Z ?_; refine B1 hf fun x1 h1 hf=>W 5 Z (CL Z (Gz _ _ h1 ?_)); cases hf; exact N 2 Z (Y Z h)
theorem rG (a1:ah) (b1:ah) (zo:Int) {r0:Bool} (hf:sO a1 b1 zo=some r0) (h:Q (.ret (.bool r0)) τ):PC 243 [.agg (aK a1),.agg (aK b1),iP zo] τ Q:=by
 unfold sO at hf; refine BN 17 [.tmp 6] [0,1,2] Tryz.func243 Z Z Z Z Z (W 8 Z (An 5 11 16 [] (b1.kind == zo) Z Z Z Z ?_)); cases hf; exact N 1 Z (Y Z h)
section
variable [zq]
def RF :Go.Shelf.Ren:=⟨fun | 144=>269 | 143=>260 | 219=>289 | 217=>316 | 225=>293 | 224=>292 | 267=>317 | 266=>334 | 314=>335 | n=>n,fun | 9=>9 | 4=>4 | 3=>3 | 5=>5 | 46=>278 | 146=>332 | 51=>276 | n=>n,fun | 1=>0 | n=>n⟩
theorem YS :Go.Proofs.Lays.n144 Tryz.prog RF:=by repeat' first | (intros; kernel_rfl) | constructor | decide
theorem KQ (s1:Str) (t1:Str) {r0:Bool} (hf:strings_Contains s1 t1=some r0) (h:Q (.ret (.bool r0)) τ):PC 269 [.str s1,.str t1] τ Q:=by
 unfold strings_Contains at hf; split at hf
 case isFalse=>cases hf
 rename_i hg; cases hf; refine AC.none ?_; exact AC.contains YS hg zq.max h
end
section
variable [zq]
@[reducible] def NV :eX aI Bool→cZ
 | .ok r=>.ret (.bool r)
 | .bad e=>.panic (.iface 181 (.agg [iP e.code]))
theorem GD (a1:ah) (b1:ah) {rX:eX aI Bool} (hf:Er a1 b1=some rX) (h:Q (NV rX) τ):PC 241 [.agg (aK a1),.agg (aK b1)] τ Q:=by
 unfold Er at hf; refine BN 47 [.tmp 4] [0,1] Tryz.func241 Z Z Z Z Z ?_; refine B1 hf fun x1 h1 hf=>W 4 Z (CL Z (kJ _ _ h1 (J 1 Z (C hf Z (fun h2 hf=>?_) fun h2 hf=>?_))))
 ·
  refine W 2 Z (AS Z (AO.aM (l:=a1.bH) Z Z Z Z gK Z (ah.aC _) (J 1 Z (Gm (fun x2=>[(3,.ref (aK b1)),(13,.list (ah.aN a1.bH)),(14,iP (a1.bH.length:Int)),(15,iP x2)]) (fun x2=>[]) (fun bY x2=>vE a1 b1 bY x2=some rX) BIG 0 Z Z hf (fun _ hz=>bT hz) ?_)))); intro bY x2 hf; rw [vE] at hf; refine V 1 Z (C hf Z (fun h3 hf=>?_) fun h3 hf=>?_)
  ·
   refine B1 hf fun e1 h4 hf=>W 0 Z (AS Z (AO.aO h4 Z Z (ah.aC _) Z gK (ah.aG _) Z (U 1 Z (AS Z (AO.aF Z gF (fun b6=>?_)))))); refine B1 hf fun x3 h5 hf=>Rr 3 [0,0] Z Z (CL Z (Ew _ _ h5 (J 0 Z (C hf Z (fun h6 hf=>?_) fun h6 hf=>?_))))
   · cases hf; exact M 1 Z (Y Z h)
   refine Wn0 2 Z (AR.drop1 ?_); exact N 0 Z ⟨(dA (x2 + 1)),Z,Z,Z,hf⟩
  cases hf; exact M 1 Z (Y Z h)
 refine B1 hf fun x4 h7 hf=>W 2 Z (CL Z (rG _ _ _ h7 (J 1 Z (C hf Z (fun h8 hf=>?_) fun h8 hf=>?_))))
 · refine B1 hf fun x5 h9 hf=>W 4 Z (CL Z (KQ _ _ h9 ?_)); cases hf; exact N 1 Z (Y Z h)
 refine B1 hf fun x6 h10 hf=>W 1 Z (CL Z (kJ _ _ h10 ?_)); refine B1 hf fun b2 h12 hf=>U 1 Z (AR.fV 3 34 37 true [2,3] b2 Z Z (fun h11=>?_) (fun h11=>?_) ?_)
 · refine IT 34 h11 h12 Z fun h12=>?_; refine BR h12 fun x7 lH h12=>?_; refine U 1 Z (GO Z (AO.call Z _ Z Z MQ (kJ _ _ lH ?_))); cases h12; exact fG 1 Z (En [37,2,3] Z)
 · refine IF 34 h11 h12 Z fun h12=>?_; cases h12; exact fG 3 Z (En [37,2,3] Z)
 rcases bS hf with ⟨e2,lV,hf⟩ | ⟨_,lV,hf⟩
 · refine CL Z (bQ _ _ lV ?_); cases hf; exact ⟨Z,[],List.nil_sublist _,h⟩
 refine CL Z (bQ _ _ lV ?_); obtain ⟨x8,ok1,ru,hf⟩:=bP hf; refine U 3 Z (CL Z (NJ _ _ ru (U 3 Z (AS Z (AO.aF Z gF (fun b7=>?_)))))); cases hf; exact Rx 4 [0] Z Z (Y Z h)
end
theorem jR (b1:Bool) {r0:ah} (hf:kr b1=some r0) (h:Q (.ret (.agg (aK r0))) τ):PC 210 [.bool b1] τ Q:=by
 unfold kr at hf; refine BN 5 [.cell 2 42] [0] Tryz.func210 Z Z Z Z Z (W 0 Z (AS Z (AO.aF Z gF (fun b2=>?_)))); cases hf; exact Rx 3 [0] Z Z (ZC [0] Z Z h)
section
variable [zq]
@[reducible] def Ra :eX aI ah→cZ
 | .ok r=>.ret (.agg (aK r))
 | .bad e=>.panic (.iface 181 (.agg [iP e.code]))
theorem Ki (a1:ah) (b1:ah) {rX:eX aI ah} (hf:IB a1 b1=some rX) (h:Q (Ra rX) τ):PC 242 [.agg (aK a1),.agg (aK b1)] τ Q:=by
 unfold IB at hf; refine BN 54 [.cell 4 42] [0,1] Tryz.func242 Z Z Z Z Z (W 2 Z (AS Z (AO.aF Z gF (fun b4=>?_)))); refine B1 hf fun x1 h1 hf=>U 1 Z (CL Z (kJ _ _ h1 ?_)); refine B1 hf fun b2 h3 hf=>U 1 Z (AR.fV 3 11 14 true [2,3,4] b2 Z Z (fun h2=>?_) (fun h2=>?_) ?_)
 · refine IT 11 h2 h3 Z fun h3=>?_; refine BR h3 fun x2 h4 h3=>?_; refine U 1 Z (GO Z (AO.call Z _ Z Z MQ (kJ _ _ h4 ?_))); cases h3; exact fG 1 Z (En [14,2,3,4] Z)
 · refine IF 11 h2 h3 Z fun h3=>?_; cases h3; exact fG 3 Z (En [14,2,3,4] Z)
 rcases bS hf with ⟨e1,h5,hf⟩ | ⟨_,h5,hf⟩
 · refine CL Z (bQ _ _ h5 ?_); cases hf; exact ⟨Z,[],List.nil_sublist _,h⟩
 refine CL Z (bQ _ _ h5 (U 4 Z (AS Z (AO.aM (l:=a1.bH) Z Z Z Z gK Z (ah.aC _) ?_)))); refine J 1 Z (AW.row 1 9 (LK4 (fun n1 l1 v1 x3=>[(3,.ref (aK b1)),(4,pP b4),(5,iP n1),(6,.own v1 (List.map mo l1)),(17,.list (ah.aN a1.bH)),(18,iP (a1.bH.length:Int)),(19,iP x3)]) (fun n1 l1 v1 x3=>[.row v1 (List.map mo l1).length 1 9,.box b4 [iP 0,.bool false,iP 0,.str ([]:Str),.own (.slice none 0 0) [],.own (.slice none 0 0) []]]) (fun bY n1 l1 v1 x3=>yT a1 b1 bY n1 l1 x3=some rX) BIG 0 [] (.slice none 0 0) 0 Z Z hf (fun _ _ _ _ hz=>bT hz) ?_)); intro bY n1 l1 v1 x3 hf; rw [yT] at hf; refine V 1 Z (C hf Z (fun h6 hf=>?_) fun h6 hf=>?_)
 ·
  refine B1 hf fun e2 h7 hf=>W 0 Z (AS Z (AO.aO h7 Z Z (ah.aC _) Z gK (ah.aG _) Z (U 1 Z (AS Z (AO.aF Z gF (fun b8=>?_)))))); refine B1 hf fun x4 h8 hf=>Rr 2 [0,0] Z Z (CL Z (kJ _ _ h8 ?_)); rcases bS hf with ⟨e3,h9,hf⟩ | ⟨_,h9,hf⟩
  · refine CL Z (bQ _ _ h9 ?_); cases hf; exact ⟨Z,[],List.nil_sublist _,h⟩
  refine CL Z (bQ _ _ h9 (Rr 3 [0] Z Z (AS Z (AO.bL (List.map mo ([e2.gW]:List Str)) Z rD Z Z Z Z ?_)))); refine B1 hf fun l2 h10 hf=>AS Z (AO.eO (i:=1) (l:=l1) (m:=([e2.gW]:List Str)) h10 Z Z Z Z Z Z Z rD iY Z Z Z (fun _=>Z) (fun _=>Z) (by decide) (fun v2 s1 hs1=>?_)); cases hs1; refine Rr 4 [0] Z Z (AS Z (AO.cK Z Z Z Z dP Z (fG 4 Z (AR.drop1 ?_)))); exact N 0 Z ⟨(dA (n1 + (e2.gW.length:Int))),l2,v2,(dA (x3 + 1)),Z,Z,Z,hf⟩
 refine W 3 Z (AS Z (AO.cK Z Z Z Z dP Z (U 1 Z (AS Z (AO.aM (l:=l1) Z Z Z Z iY Z Z (U 1 Z (AS Z (AO.max2 Z Z Z Z Z ?_)))))))); rcases bS hf with ⟨e4,h11,hf⟩ | ⟨_,h11,hf⟩
 · refine U 3 Z (CL Z (bQ _ _ h11 ?_)); cases hf; exact ⟨Z,[],List.nil_sublist _,h⟩
 refine U 3 Z (CL Z (bQ _ _ h11 ?_)); refine B1 hf fun x5 h12 hf=>U 3 Z (CL Z (zi _ _ h12 ?_)); refine B1 hf fun x6 lH hf=>CL Z (uX _ lH ?_); cases hf; exact Rx 1 [1] Z Z (ZC [1] Z Z h)
end
theorem vX (s1:Str) (mg:Str) {r0:Bool} (hf:strings_HasPrefix s1 mg=some r0) (h:Q (.ret (.bool r0)) τ):PC 183 [.str s1,.str mg] τ Q:=by
 unfold strings_HasPrefix at hf; refine BN 8 [.tmp 4] [0,1] Tryz.func183 Z Z Z Z Z ?_; refine BR hf fun x1 h1 hf=>?_; refine W 3 Z (CL Z (vQ _ _ h1 ?_)); cases hf; exact N 1 Z (Y Z h)
theorem JR (s1:Str) (l9:Str) {r0:Bool} (hf:strings_HasSuffix s1 l9=some r0) (h:Q (.ret (.bool r0)) τ):PC 244 [.str s1,.str l9] τ Q:=by
 unfold strings_HasSuffix at hf; refine BN 8 [.tmp 4] [0,1] Tryz.func244 Z Z Z Z Z ?_; refine BR hf fun x1 h1 hf=>?_; refine W 3 Z (CL Z (vP _ _ h1 ?_)); cases hf; exact N 1 Z (Y Z h)
section
variable [zq]
def Wq :Go.Shelf.Ren:=⟨fun | 146=>245 | 221=>270 | 268=>298 | 138=>259 | 143=>260 | 195=>287 | 197=>227 | 218=>288 | 219=>289 | 260=>261 | 217=>316 | 225=>293 | 224=>292 | 267=>317 | 266=>334 | 314=>335 | n=>n,fun | 9=>9 | 31=>40 | 3=>3 | 4=>4 | 0=>0 | 105=>248 | 21=>21 | 5=>5 | 46=>278 | 119=>296 | 139=>299 | 138=>298 | 146=>332 | 51=>276 | n=>n,fun | 1=>0 | 3=>2 | 4=>3 | n=>n⟩
theorem ac2 :Go.Proofs.Lays.n146 Tryz.prog Wq:=by repeat' first | (intros; kernel_rfl) | constructor | decide
theorem Oz (s1:Str) (t1:Str) {r0:List Str} (hf:strings_Split s1 t1=some r0) (h:Q (.ret (sP r0)) τ):PC 245 [.str s1,.str t1] τ Q:=by
 unfold strings_Split at hf; split at hf
 case isFalse=>cases hf
 rename_i hg; cases hf; refine AC.none ?_; exact AC.split ac2 (by kernel_rfl) hg.1 hg.2 zq.max h
end
section
variable [zq]
@[reducible] def V6 :eX aI ah→cZ
 | .ok r=>.ret (.agg (aK r))
 | .bad e=>.panic (.iface 181 (.agg [iP e.code]))
theorem QS (name1:Str) (a1:ah) (b1:ah) {rX:eX aI ah} (hf:Qg name1 a1 b1=some rX) (h:Q (V6 rX) τ):PC 209 [.str name1,.agg (aK a1),.agg (aK b1)] τ Q:=by
 unfold Qg at hf; refine BN 62 [.cell 6 42] [0,1,2] Tryz.func209 Z Z Z Z Z (W 2 Z (AS Z (AO.aF Z gF (fun b6=>(J 3 Z (C hf Z (fun h1 hf=>?_) fun h1 hf=>?_))))))
 ·
  refine B1 hf fun x1 h2 hf=>W 1 Z (CL Z (kJ _ _ h2 (J 0 Z (C hf Z (fun h3 hf=>?_) fun h3 hf=>?_))))
  · cases hf; exact Wx 2 [0] Z Z (ZC [0] Z Z h)
  cases hf; exact Wx 2 [0] Z Z (ZC [0] Z Z h)
 refine V 2 Z (C hf Z (fun h4 hf=>?_) fun h4 hf=>?_)
 ·
  rcases bS hf with ⟨e1,h5,hf⟩ | ⟨x2,h5,hf⟩
  · refine W 2 Z (CL Z (GD _ _ h5 ?_)); cases hf; exact ⟨Z,[],List.nil_sublist _,h⟩
  refine W 2 Z (CL Z (GD _ _ h5 ?_)); refine B1 hf fun x3 h6 hf=>CL Z (jR _ h6 ?_); cases hf; exact Rx 1 [0] Z Z (ZC [0] Z Z h)
 refine V 2 Z (C hf Z (fun h7 hf=>?_) fun h7 hf=>?_)
 ·
  rcases bS hf with ⟨e2,h8,hf⟩ | ⟨x4,h8,hf⟩
  · refine W 2 Z (CL Z (Ki _ _ h8 ?_)); cases hf; exact ⟨Z,[],List.nil_sublist _,h⟩
  refine W 2 Z (CL Z (Ki _ _ h8 ?_)); cases hf; exact Rx 1 [0] Z Z (ZC [0] Z Z h)
 refine B1 hf fun x5 h9 hf=>W 2 Z (CL Z (rG _ _ _ h9 ?_)); rcases bS hf with ⟨e3,h10,hf⟩ | ⟨_,h10,hf⟩
 · refine CL Z (bQ _ _ h10 ?_); cases hf; exact ⟨Z,[],List.nil_sublist _,h⟩
 refine CL Z (bQ _ _ h10 (J 3 Z (C hf Z (fun h11 hf=>?_) fun h11 hf=>?_)))
 · refine B1 hf fun x6 h12 hf=>W 4 Z (CL Z (vX _ _ h12 ?_)); refine B1 hf fun x7 lH hf=>CL Z (jR _ lH ?_); cases hf; exact Rx 1 [0] Z Z (ZC [0] Z Z h)
 refine V 2 Z (C hf Z (fun lV hf=>?_) fun lV hf=>?_)
 · refine B1 hf fun x8 ru hf=>W 4 Z (CL Z (JR _ _ ru ?_)); refine B1 hf fun x9 h16 hf=>CL Z (jR _ h16 ?_); cases hf; exact Rx 1 [0] Z Z (ZC [0] Z Z h)
 rcases bS hf with ⟨e4,xB,hf⟩ | ⟨_,xB,hf⟩
 · refine W 3 Z (CL Z (bQ _ _ xB ?_)); cases hf; exact ⟨Z,[],List.nil_sublist _,h⟩
 refine W 3 Z (CL Z (bQ _ _ xB ?_)); refine B1 hf fun l1 h18 hf=>U 4 Z (CL Z (Oz _ _ h18 (U 2 Z (AS Z (AO.aM (l:=l1) Z Z Z Z iY Z Z ?_))))); rcases bS hf with ⟨e5,h19,hf⟩ | ⟨_,h19,hf⟩
 · refine U 1 Z (CL Z (bQ _ _ h19 ?_)); cases hf; exact ⟨Z,[],List.nil_sublist _,h⟩
 refine U 1 Z (CL Z (bQ _ _ h19 ?_)); refine B1 hf fun K3 h20 hf=>U 1 Z (CL Z (NQ _ h20 ?_)); cases hf; exact Rx 1 [0] Z Z (ZC [0] Z Z h)
end
@[reducible] def Ta :eX aI Bool→cZ
 | .ok r=>.ret (.bool r)
 | .bad e=>.panic (.iface 181 (.agg [iP e.code]))
theorem qp (v1:ah) {rX:eX aI Bool} (hf:zL v1=some rX) (h:Q (Ta rX) τ):PC 178 [.agg (aK v1)] τ Q:=by
 unfold zL at hf; refine BN 8 [.tmp 2] [0] Tryz.func178 Z Z Z Z Z ?_; refine B1 hf fun x1 h1 hf=>W 3 Z (CL Z (kJ _ _ h1 ?_)); rcases bS hf with ⟨e1,h2,hf⟩ | ⟨_,h2,hf⟩
 · refine CL Z (bQ _ _ h2 ?_); cases hf; exact ⟨Z,[],List.nil_sublist _,h⟩
 refine CL Z (bQ _ _ h2 ?_); cases hf; exact N 3 Z (Y Z h)
@[reducible] def S_ :eX aI ah→cZ
 | .ok r=>.ret (.agg (aK r))
 | .bad e=>.panic (.iface 181 (.agg [iP e.code]))
theorem Ms (op1:Str) (v1:ah) {rX:eX aI ah} (hf:KL op1 v1=some rX) (h:Q (S_ rX) τ):PC 176 [.str op1,.agg (aK v1)] τ Q:=by
 unfold KL at hf; refine BN 18 [.cell 4 42] [0,1] Tryz.func176 Z Z Z Z Z (W 1 Z (AS Z (AO.aF Z gF (fun b4=>(J 2 Z (C hf Z (fun h1 hf=>?_) fun h1 hf=>?_))))))
 ·
  rcases bS hf with ⟨e1,h2,hf⟩ | ⟨x1,h2,hf⟩
  · refine W 1 Z (CL Z (qp _ h2 ?_)); cases hf; exact ⟨Z,[],List.nil_sublist _,h⟩
  refine W 1 Z (CL Z (qp _ h2 ?_)); refine B1 hf fun x2 h3 hf=>U 1 Z (CL Z (jR _ h3 ?_)); cases hf; exact Rx 1 [0] Z Z (ZC [0] Z Z h)
 refine B1 hf fun x3 h4 hf=>W 1 Z (CL Z (kJ _ _ h4 ?_)); rcases bS hf with ⟨e2,h5,hf⟩ | ⟨_,h5,hf⟩
 · refine CL Z (bQ _ _ h5 ?_); cases hf; exact ⟨Z,[],List.nil_sublist _,h⟩
 refine CL Z (bQ _ _ h5 ?_); refine B1 hf fun x4 h6 hf=>U 3 Z (CL Z (uY _ h6 ?_)); cases hf; exact Rx 1 [0] Z Z (ZC [0] Z Z h)
@[reducible] def Tc :eX aI Int→cZ
 | .ok r=>.ret (iP r)
 | .bad e=>.panic (.iface 181 (.agg [iP e.code]))
theorem qw (a1:ah) (b1:ah) {rX:eX aI Int} (hf:zN a1 b1=some rX) (h:Q (Tc rX) τ):PC 212 [.agg (aK a1),.agg (aK b1)] τ Q:=by
 unfold zN at hf; refine BN 17 [.tmp 4] [0,1] Tryz.func212 Z Z Z Z Z ?_; refine B1 hf fun x1 h1 hf=>W 5 Z (CL Z (rG _ _ _ h1 ?_)); refine B1 hf fun b2 h3 hf=>U 1 Z (AR.fV 4 8 12 false [2,3] b2 Z Z (fun h2=>?_) (fun h2=>?_) ?_)
 · refine IF 8 h2 h3 Z fun h3=>?_; refine BR h3 fun x2 h4 h3=>?_; refine U 2 Z (GO Z (AO.call Z _ Z Z adg (rG _ _ _ h4 ?_))); cases h3; exact fG 1 Z (En [12,2,3] Z)
 · refine IT 8 h2 h3 Z fun h3=>?_; cases h3; exact fG 4 Z (En [12,2,3] Z)
 rcases bS hf with ⟨e1,h5,hf⟩ | ⟨_,h5,hf⟩
 · refine CL Z (bQ _ _ h5 ?_); cases hf; exact ⟨Z,[],List.nil_sublist _,h⟩
 refine CL Z (bQ _ _ h5 ?_); refine B1 hf fun x3 h6 hf=>U 2 Z (CL Z (Gz _ _ h6 ?_)); cases hf; exact N 1 Z (Y Z h)
@[reducible] def Q_ :eX aI ah→cZ
 | .ok r=>.ret (.agg (aK r))
 | .bad e=>.panic (.iface 181 (.agg [iP e.code]))
theorem oo (n1:Int) {rX:eX aI ah} (hf:xR n1=some rX) (h:Q (Q_ rX) τ):PC 246 [iP n1] τ Q:=by
 unfold xR at hf; refine BN 12 [.cell 2 42] [0] Tryz.func246 Z Z Z Z Z (W 0 Z (AS Z (AO.aF Z gF (fun b2=>(U 3 Z (An 3 5 8 [0,2] (decide (n1≤9007199254740992)) Z Z Z Z ?_)))))); rcases bS hf with ⟨e1,h2,hf⟩ | ⟨_,h2,hf⟩
 · refine CL Z (bQ _ _ h2 ?_); cases hf; exact ⟨Z,[],List.nil_sublist _,h⟩
 refine CL Z (bQ _ _ h2 ?_); refine B1 hf fun x1 h3 hf=>U 1 Z (CL Z (uY _ h3 ?_)); cases hf; exact Rx 1 [0] Z Z (ZC [0] Z Z h)
@[reducible] def V7 :eX aI ah→cZ
 | .ok r=>.ret (.agg (aK r))
 | .bad e=>.panic (.iface 181 (.agg [iP e.code]))
theorem QT (a1:ah) (b1:ah) {rX:eX aI ah} (hf:Qh a1 b1=some rX) (h:Q (V7 rX) τ):PC 213 [.agg (aK a1),.agg (aK b1)] τ Q:=by
 unfold Qh at hf; refine BN 57 [.cell 4 42] [0,1] Tryz.func213 Z Z Z Z Z (W 2 Z (AS Z (AO.aF Z gF (fun b4=>?_)))); refine B1 hf fun x1 h1 hf=>U 2 Z (CL Z (rG _ _ _ h1 (J 1 Z (C hf Z (fun h2 hf=>?_) fun h2 hf=>?_))))
 ·
  rcases bS hf with ⟨e1,h3,hf⟩ | ⟨x2,h3,hf⟩
  · refine W 5 Z (CL Z (oo _ h3 ?_)); cases hf; exact ⟨Z,[],List.nil_sublist _,h⟩
  refine W 5 Z (CL Z (oo _ h3 ?_)); cases hf; exact Rx 1 [0] Z Z (ZC [0] Z Z h)
 refine B1 hf fun x3 h4 hf=>W 2 Z (CL Z (rG _ _ _ h4 (J 1 Z (C hf Z (fun h5 hf=>?_) fun h5 hf=>?_))))
 ·
  refine W 2 Z (AS Z (AO.cK Z Z Z Z dP Z (U 2 Z (AS Z (AO.cK Z Z Z Z dP Z ?_))))); rcases bS hf with ⟨e2,h6,hf⟩ | ⟨_,h6,hf⟩
  · refine U 2 Z (CL Z (bQ _ _ h6 ?_)); cases hf; exact ⟨Z,[],List.nil_sublist _,h⟩
  refine U 2 Z (CL Z (bQ _ _ h6 ?_)); refine B1 hf fun x4 h7 hf=>U 4 Z (AS Z (AO.pq h7 Z Z Z ?_)); refine B1 hf fun x5 h8 hf=>CL Z (uX _ h8 ?_); cases hf; exact Rx 1 [0] Z Z (ZC [0] Z Z h)
 refine B1 hf fun x6 h9 hf=>W 2 Z (CL Z (rG _ _ _ h9 ?_)); rcases bS hf with ⟨e3,h10,hf⟩ | ⟨_,h10,hf⟩
 · refine CL Z (bQ _ _ h10 ?_); cases hf; exact ⟨Z,[],List.nil_sublist _,h⟩
 refine CL Z (bQ _ _ h10 (U 2 Z (AS Z (AO.aM (l:=a1.bH) Z Z Z Z gK Z (ah.aC _) (U 2 Z (AS Z (AO.aM (l:=b1.bH) Z Z Z Z gK Z (ah.aC _) ?_))))))); rcases bS hf with ⟨e4,h11,hf⟩ | ⟨_,h11,hf⟩
 · refine U 2 Z (CL Z (bQ _ _ h11 ?_)); cases hf; exact ⟨Z,[],List.nil_sublist _,h⟩
 refine U 2 Z (CL Z (bQ _ _ h11 (U 4 Z (AR.row 6 42 ?_)))); refine B1 hf fun l1 h12 hf=>AS Z (AO.eO (i:=0) (l:=[]) (m:=a1.bH) h12 Z Z Z Z Z Z Z xI gK (show ([]:List (List PV))=List.map ah.cells [] from Z) (ah.aC _) (ah.aC _).symm (ah.bE) (ah.cells_one) (by decide) (fun v1 s1 hs1=>?_)); cases hs1; refine B1 hf fun x7 lH hf=>U 4 Z (AS Z (AO.eO (i:=0) (l:=l1) (m:=b1.bH) lH Z Z Z Z Z Z Z xI gK (ah.aC _) (ah.aC _) (ah.aC _).symm (ah.bE) (ah.cells_one) (by decide) (fun v2 s2 hs2=>?_))); cases hs2; refine B1 hf fun x8 lV hf=>CL Z (Mt _ lV ?_); cases hf; exact Rx 1 [1] Z Z (ZC [1] Z Z h)
theorem QI (n1:Int) {r0:BitVec 64} (hf:LH n1=some r0) (h:Q (.ret (.int .u64 (r0.toNat:Int))) τ):PC 299 [iP n1] τ Q:=by
 unfold LH at hf; refine BN 10 [.tmp 2] [0] Tryz.func299 Z Z Z Z Z (V 3 Z (C hf Z (fun h1 hf=>?_) fun h1 hf=>?_))
 · refine W 1 Z (AS Z (AO.ZF Z O_ Pb Z (AS Z (AO.u64_neg (BitVec.ofInt 64 n1) Z Z Z ?_)))); cases hf; exact N 1 Z (Y Z h)
 refine W 1 Z (AS Z (AO.ZF Z O_ Pb Z ?_)); cases hf; exact N 1 Z (Y Z h)
theorem QJ (a1:Int) (b1:Int) {r0:jC} (hf:FM a1 b1=some r0) (h:Q (.ret (.agg (NA r0))) τ):PC 271 [iP a1,iP b1] τ Q:=by
 unfold FM at hf; refine BN 71 [.cell 4 283] [0,1] Tryz.func271 Z Z Z Z Z (W 0 Z (AS Z (AO.aF Z V5 (fun b4=>?_)))); refine B1 hf fun x1 h1 hf=>U 1 Z (CL Z (QI _ h1 ?_)); refine B1 hf fun y1 h2 hf=>U 1 Z (CL Z (QI _ h2 (U 3 Z (AS Z (AO.La x1 32 Z Z Z Z Z (U 1 Z (AS Z (AO.u64_and x1 (4294967295:BitVec 64) Z Z Z Z Z (U 1 Z (AS Z (AO.La y1 32 Z Z Z Z Z ?_))))))))))); refine U 1 Z (AS Z (AO.u64_and y1 (4294967295:BitVec 64) Z Z Z Z Z ?_)); refine B1 hf fun PY h3 hf=>U 6 Z (AS Z (AO.Pd (x1 &&& (4294967295:BitVec 64)) (y1 &&& (4294967295:BitVec 64)) h3 Z Z Z Z Z ?_)); refine B1 hf fun x2 h4 hf=>U 3 Z (AS Z (AO.Pd (x1 >>> 32) (y1 &&& (4294967295:BitVec 64)) h4 Z Z Z Z Z (U 1 Z (AS Z (AO.La PY 32 Z Z Z Z Z (AS Z (AO.OI x2 (PY >>> 32) Z Z Z Z Z ?_))))))); refine B1 hf fun x3 h5 hf=>U 3 Z (AS Z (AO.Pd (x1 &&& (4294967295:BitVec 64)) (y1 >>> 32) h5 Z Z Z Z Z ?_)); refine B1 hf fun x4 h6 hf=>?_; refine U 1 Z (AS Z (AO.ZA (x2 + (PY >>> 32)) (4294967295:BitVec 64) h6 Z Z Z Z Z (AS Z (AO.OI x3 x4 Z Z Z Z Z (U 3 Z (AS Z (AO.XA (x1 >>> 32) (y1 >>> 32) Z Z Z Z Z (U 1 Z (AS Z (AO.La (x2 + (PY >>> 32)) 32 Z Z Z Z Z ?_)))))))))); refine B1 hf fun x5 h7 hf=>AS Z (AO.ZB ((x1 >>> 32) * (y1 >>> 32)) ((x2 + (PY >>> 32)) >>> 32) h7 Z Z Z Z Z (U 1 Z (AS Z (AO.La (x3 + x4) 32 Z Z Z Z Z (AS Z (AO.OI x5 ((x3 + x4) >>> 32) Z Z Z Z Z (U 1 Z (AS Z (AO.aby (x3 + x4) 32 Z Z Z Z Z ?_))))))))); refine U 1 Z (AS Z (AO.u64_and PY (4294967295:BitVec 64) Z Z Z Z Z ?_)); refine B1 hf fun x6 h8 hf=>AS Z (AO.abz ((x3 + x4) <<< 32) (PY &&& (4294967295:BitVec 64)) h8 Z Z Z Z Z (AS Z (AO.Nk Z Zk KZ Z (U 1 Z (AS Z (AO.aF Z V5 (fun b14=>(Rr 5 [0] Z Z (AS Z (AO.VQ Z acX Z Z ?_)))))))))); refine U 1 Z (AR.and 5 63 68 [4,14] (x:=(!decide (([((x5 + ((x3 + x4) >>> 32)).toNat:Int),(x6.toNat:Int)]:List Int)=([0,0]:List Int)))) Z Z (fun h9=>?_) (fun h9=>?_) ?_)
 · refine Is 63 h9 Z (U 1 Z (GO Z (AO.aY (i:=0) Z Z Z ac0 Z Z (GO Z (AO.Nk Z Zk KZ Z (GO Z (AO.aau ([((x5 + ((x3 + x4) >>> 32)).toNat:Int),(x6.toNat:Int)]:List Int) ([0,0]:List Int) Z acY Pb aek aej aeh Z Z Z Z Z Z (Xx [(x5 + ((x3 + x4) >>> 32)),x6]) (Xx [(0:BitVec 64),(0:BitVec 64)]) ?_))))))); exact fG 1 Z (En [68,4,14] Z)
 · refine Is 63 h9 Z ?_; exact fG 5 Z (En [68,4,14] Z)
 cases hf; exact Rx 4 [0,0,1] Z Z (ZC [1] Z Z h)
theorem I_ (p1:jC) {r0:Int} {r1:Bool} (hf:xA p1=some (r0,r1)) (h:Q (.ret (.tuple [iP r0,.bool r1])) τ):PC 272 [.agg (NA p1)] τ Q:=by
 unfold xA at hf; refine BN 37 [.tmp 2,.tmp 3] [0] Tryz.func272 Z Z Z Z Z (W 4 Z (AS Z (AO.uK (sz:=1) 0 Z KZ Z Z (by decide) Z ?_))); refine J 3 Z (C hf Z (fun h1 hf=>?_) fun h1 hf=>?_)
 · cases hf; exact M 2 Z (Y Z h)
 refine W 3 Z (AR.and 5 12 17 [1] (x:=(decide (((p1.half.getD 1 0).toNat:Int)≤9223372036854775808))) Z Z (fun h2=>?_) (fun h2=>?_) ?_)
 · refine Is 12 h2 Z (U 1 Z (GO Z (AO.uK (sz:=1) 1 Z KZ Z Z (by decide) Z ?_))); exact fG 3 Z (En [17,1] Z)
 · refine Is 12 h2 Z ?_; exact fG 5 Z (En [17,1] Z)
 refine J 1 Z (C hf Z (fun h3 hf=>?_) fun h3 hf=>?_)
 · refine W 1 Z (AS Z (AO.uK (sz:=1) 1 Z KZ Z Z (by decide) Z ?_)); refine U 1 Z (AS Z (AO.u64_neg (p1.half.getD 1 0) Z Z Z (AS Z (AO.IE Z Pb O_ Z ?_)))); cases hf; exact N 2 Z (Y Z h)
 refine W 4 Z (AR.and 5 27 32 [1] (x:=(decide (((p1.half.getD 1 0).toNat:Int)≤9223372036854775807))) Z Z (fun h4=>?_) (fun h4=>?_) ?_)
 · refine Is 27 h4 Z (U 1 Z (GO Z (AO.uK (sz:=1) 1 Z KZ Z Z (by decide) Z ?_))); exact fG 3 Z (En [32,1] Z)
 · refine Is 27 h4 Z ?_; exact fG 5 Z (En [32,1] Z)
 refine J 1 Z (C hf Z (fun h5 hf=>?_) fun h5 hf=>?_)
 · refine W 1 Z (AS Z (AO.uK (sz:=1) 1 Z KZ Z Z (by decide) Z ?_)); refine U 1 Z (AS Z (AO.IE Z Pb O_ Z ?_)); cases hf; exact N 2 Z (Y Z h)
 cases hf; exact M 2 Z (Y Z h)
theorem Y1 (abS:Bool) {r0:Int} (hf:TL abS=some r0) (h:Q (.ret (iP r0)) τ):PC 273 [.bool abS] τ Q:=by
 unfold TL at hf; refine BN 4 [.tmp 2] [0] Tryz.func273 Z Z Z Z Z (V 2 Z (C hf Z (fun h1 hf=>?_) fun h1 hf=>?_))
 · cases hf; exact M 1 Z (Y Z h)
 cases hf; exact M 1 Z (Y Z h)
theorem Y2 (a1:Int) (b1:Int) {r0:Int} (hf:TM a1 b1=some r0) (h:Q (.ret (iP r0)) τ):PC 247 [iP a1,iP b1] τ Q:=by
 unfold TM at hf; refine BN 21 [.tmp 4] [0,1] Tryz.func247 Z Z Z Z Z ?_; refine B1 hf fun x1 h1 hf=>W 3 Z (CL Z (QJ _ _ h1 (AS Z (AO.aF Z V5 (fun b5=>?_))))); obtain ⟨n1,ok1,h2,hf⟩:=bP hf; refine Rr 2 [0,0] Z Z (CL Z (I_ _ h2 (J 6 Z (C hf Z (fun h3 hf=>?_) fun h3 hf=>?_))))
 · cases hf; exact M 2 Z (Y Z h)
 refine BR hf fun x2 h4 hf=>?_; refine Wr 2 [0] Z Z (CL Z (Y1 _ h4 ?_)); cases hf; exact N 1 Z (Y Z h)
@[reducible] def K6 :eX aI ah→cZ
 | .ok r=>.ret (.agg (aK r))
 | .bad e=>.panic (.iface 181 (.agg [iP e.code]))
theorem D6 (op1:Str) (a1:ah) (b1:ah) {rX:eX aI ah} (hf:Bl op1 a1 b1=some rX) (h:Q (K6 rX) τ):PC 214 [.str op1,.agg (aK a1),.agg (aK b1)] τ Q:=by
 unfold Bl at hf; refine BN 46 [.cell 6 42] [0,1,2] Tryz.func214 Z Z Z Z Z (W 2 Z (AS Z (AO.aF Z gF (fun b6=>?_)))); refine B1 hf fun x1 h1 hf=>U 2 Z (CL Z (rG _ _ _ h1 ?_)); rcases bS hf with ⟨e1,h2,hf⟩ | ⟨_,h2,hf⟩
 · refine CL Z (bQ _ _ h2 ?_); cases hf; exact ⟨Z,[],List.nil_sublist _,h⟩
 refine CL Z (bQ _ _ h2 (J 3 Z (C hf Z (fun h3 hf=>?_) fun h3 hf=>?_)))
 ·
  rcases bS hf with ⟨e2,h4,hf⟩ | ⟨x2,h4,hf⟩
  · refine W 5 Z (CL Z (oo _ h4 ?_)); cases hf; exact ⟨Z,[],List.nil_sublist _,h⟩
  refine W 5 Z (CL Z (oo _ h4 ?_)); cases hf; exact Rx 1 [0] Z Z (ZC [0] Z Z h)
 refine V 2 Z (C hf Z (fun h5 hf=>?_) fun h5 hf=>?_)
 ·
  refine B1 hf fun x3 h6 hf=>W 4 Z (CL Z (Y2 _ _ h6 ?_)); rcases bS hf with ⟨e3,h7,hf⟩ | ⟨x4,h7,hf⟩
  · refine CL Z (oo _ h7 ?_); cases hf; exact ⟨Z,[],List.nil_sublist _,h⟩
  refine CL Z (oo _ h7 ?_); cases hf; exact Rx 1 [0] Z Z (ZC [0] Z Z h)
 rcases bS hf with ⟨e4,h8,hf⟩ | ⟨_,h8,hf⟩
 · refine W 3 Z (CL Z (bQ _ _ h8 ?_)); cases hf; exact ⟨Z,[],List.nil_sublist _,h⟩
 refine W 3 Z (CL Z (bQ _ _ h8 (J 2 Z (C hf Z (fun h9 hf=>?_) fun h9 hf=>?_))))
 ·
  refine B1 hf fun _ h10 hf=>W 4 Z (AS Z (AO.agG h10 Z Z Z ?_)); rcases bS hf with ⟨e5,h11,hf⟩ | ⟨x5,h11,hf⟩
  · refine CL Z (oo _ h11 ?_); cases hf; exact ⟨Z,[],List.nil_sublist _,h⟩
  refine CL Z (oo _ h11 ?_); cases hf; exact Rx 1 [0] Z Z (ZC [0] Z Z h)
 refine B1 hf fun _ h12 hf=>W 4 Z (AS Z (AO.agF h12 Z Z Z ?_)); refine B1 hf fun x6 lH hf=>CL Z (uY _ lH ?_); cases hf; exact Rx 1 [0] Z Z (ZC [0] Z Z h)
theorem Qv (v1:ah) {r0:Int} (hf:Fp v1=some r0) (h:Q (.ret (iP r0)) τ):PC 274 [.agg (aK v1)] τ Q:=by
 unfold Fp at hf; refine AC.none (AC.J7 30 [.tmp 2] [0] Tryz.func274 Z Z Z Z Z ?_); obtain ⟨b1,s1,h1,hf⟩:=bP hf; cases hf; refine AW.sr (AR.step Z Z Z (AO.B_ Z Z Z (cs 1 Z (AR.nil [1] Z ?_)))); refine AW.sr (AR.step Z Z Z (AO.aF Z aeN (fun b3=>(AR.bF Z Z (AO.bR (i:=0) Z Z Z Dr Z Z Z Z Z (AR.nil [1,3] Z ?_)))))); refine AW.seq (AW.sr (cs 1 Z (AR.step Z Z Z (AO.call Z _ Z Z acz (J9 _ _ ?_))))); refine AR.nil [3,7] Z (AW.block (AW.rangeFunc (β:=Int) (X:=Int × ah) Z aam (fun x=>[iP x.1,.agg (aK x.2)]) (fun _=>Z) (by decide) (fun s x=>xX s x.1 x.2) (fun s=>[.box b3 [iP s]]) (fun _=>none) (s0:=0) (s1:=r0) Z Z ?_ ?_ ?_))
 · intro l T' hy; refine Gx l T' xX (fun s1 bU v1 b s2 hh=>hy s1 (bU,v1) b s2 hh) 0 v1 1 h1 ⟨⟨_,Z⟩,Z⟩
 ·
  rintro l s ⟨bU,x1⟩ b s2 hh; unfold xX at hh; refine ⟨Z,?_⟩; cases hh; refine zn.seq (zn.region Z (cs 1 Z (AR.nil [3,4,9] Z ?_))); refine zn.region Z (AR.step Z Z Z (AO.aF Z gF (fun b5=>(AR.bF Z Z (AO.bR (i:=0) Z Z Z kZ Z Z Z Z Z (AR.nil [3,4,5] Z ?_)))))); refine ⟨Z,(zn.block (zn.seq (zn.seq ?_)))⟩; refine zn.region Z (cs 1 Z (AR.step Z Z Z (AO.aY (i:=0) Z Z Z Dr Z Z (cs 2 Z ?_)))); refine AR.or 4 13 17 [3,4,5] (x:=(x1.kind == 5)) Z Z (fun h2=>?_) (fun h2=>?_) ?_
  · refine AR.is 13 h2 Z (cs 1 Z (AR.go Z Z Z Z Z Z (AO.aY (i:=0) Z Z Z Dr Z Z (cs 2 Z ?_)))); refine AR.nil [17,3,4,5] Z ?_; exact ⟨Z,Z,Z,Z⟩
  · refine AR.is 13 h2 Z (cs 4 Z (AR.nil [17,3,4,5] Z ?_)); exact ⟨Z,Z,Z,Z⟩
  refine cs 1 Z (AR.and 5 18 23 [3,4,5] (x:=((x1.bH.length:Int) == 0)) Z Z (fun h2=>?_) (fun h2=>?_) ?_)
  · refine AR.is 18 h2 Z (cs 1 Z (AR.go Z Z Z Z Z Z (AO.aY (i:=0) Z Z Z HV Z Z (AR.go Z Z Z Z Z Z (AO.aM (l:=x1.bH) Z Z Z Z gK Z (ah.aC _) ?_))))); refine cs 2 Z (AR.nil [23,3,4,5] Z ?_); exact ⟨Z,Z,Z,Z⟩
  · refine AR.is 18 h2 Z (cs 5 Z (AR.nil [23,3,4,5] Z ?_)); exact ⟨Z,Z,Z,Z⟩
  refine AR.nil [3,4,23] Z (zn.cond Z (fun h3=>?_) (fun h3=>?_))
  · rw [show wM bU x1=dA (bU + 1) from if_pos h3]; refine zn.region Z (cs 3 Z (AR.nil [3,4] Z (zn.region Z ?_))); refine AR.step Z Z Z (AO.aY (i:=1) Z Z Z Dr Z Z (cs 1 Z (AR.step Z Z Z (AO.max2 Z Z Z Z Z (AR.bF Z Z (AO.bR (i:=1) Z Z Z Dr Z Z Z Z Z ?_)))))); refine AR.nil [] Z ?_; exact ⟨Z,.cons _ (List.Sublist.refl _),Z,Z⟩
  rw [show wM bU x1=bU from if_neg (by rw [h3]; simp)]; refine zn.skip (zn.region Z (AR.step Z Z Z (AO.aY (i:=1) Z Z Z Dr Z Z (cs 1 Z ?_)))); refine AR.step Z Z Z (AO.max2 Z Z Z Z Z (AR.bF Z Z (AO.bR (i:=1) Z Z Z Dr Z Z Z Z Z (AR.nil [] Z ?_)))); exact ⟨Z,.cons _ (List.Sublist.refl _),Z,Z⟩
 intro D; show AW _ _ _ _ _ _ _; refine AW.sr (AR.step Z Z Z (AO.aY (i:=0) Z Z Z Dr Z Z (cs 1 Z (AR.nil [2] Z ?_)))); refine AW.ret ?_; exact ⟨D,[_],Z,Z,_,⟨_,_,Z,Z,Z⟩,[],List.nil_sublist _,h⟩
theorem Ov (y1:aA) (c1:aA) {r0:Bool} (hf:zT y1 c1=some r0) (h:Q (.ret (.bool r0)) τ):PC 276 [.agg (zX y1),.ref (zX c1)] τ Q:=by
 unfold zT at hf; refine BN 9 [.tmp 3] [0,1] Tryz.func276 Z Z Z Z Z ?_; cases hf; exact M 8 Z (Y Z h)
theorem nS (s1:List aA) (f1:aA→Option Bool) (yQ:FuncId) (CV:List PV) (Qe:aV Tryz.prog yQ=true) (Qf:∀ a0 b0,f1 a0=some b0→∀ {τ:List bn} {Q:cZ→List bn→Prop},Q (.ret (.bool b0)) τ→PC yQ ([.agg (zX a0)] ++ CV) τ Q) {r0:Int} (hf:iA s1 f1=some r0) (h:Q (.ret (iP r0)) τ):PC 37 [.list (List.map aA.cells s1),.fn yQ CV] τ Q:=by
 unfold iA at hf; refine BN 19 [.tmp 4] [0,1] Tryz.func37 Z Z Z Z Z (W 2 Z (AS Z (AO.aM (l:=s1) Z Z Z Z lu Z Z (J 1 Z (Gm (fun i1=>[(0,.list (List.map aA.cells s1)),(1,.fn yQ CV),(7,iP (s1.length:Int)),(8,iP i1)]) (fun i1=>[]) (fun bY i1=>fF s1 f1 bY i1=some r0) BIG 0 Z Z hf (fun _ hz=>bT hz) ?_))))); intro bY i1 hf; rw [fF] at hf; refine V 1 Z (C hf Z (fun h1 hf=>?_) fun h1 hf=>?_)
 ·
  refine B1 hf fun e1 h2 hf=>W 5 Z (AS Z (AO.aO h2 Z Z Z Z lu (aA.aG _) Z ?_)); refine B1 hf fun x1 h3 hf=>U 1 Z (AS Z (AO.call Z _ Z Z Qe (Qf _ _ h3 (J 0 Z (C hf Z (fun h4 hf=>?_) fun h4 hf=>?_)))))
  · cases hf; exact M 2 Z (Y Z h)
  exact M 2 Z ⟨(dA (i1 + 1)),Z,Z,Z,hf⟩
 cases hf; exact M 1 Z (Y Z h)
theorem tQ (s1:List aA) (f1:aA→Option Bool) (yQ:FuncId) (CV:List PV) (Qe:aV Tryz.prog yQ=true) (Qf:∀ a0 b0,f1 a0=some b0→∀ {τ:List bn} {Q:cZ→List bn→Prop},Q (.ret (.bool b0)) τ→PC yQ ([.agg (zX a0)] ++ CV) τ Q) {r0:Bool} (hf:j4 s1 f1=some r0) (h:Q (.ret (.bool r0)) τ):PC 275 [.list (List.map aA.cells s1),.fn yQ CV] τ Q:=by
 unfold j4 at hf; refine BN 9 [.tmp 4] [0,1] Tryz.func275 Z Z Z Z Z ?_; refine B1 hf fun x1 h1 hf=>W 3 Z (CL Z (nS _ f1 yQ CV Qe @Qf h1 ?_)); cases hf; exact N 2 Z (Y Z h)
theorem RH (dK:List aA) (i1:Int) {r0:Int} (hf:Hu dK i1=some r0) (h:Q (.ret (iP r0)) τ):PC 248 [.list (List.map aA.cells dK),iP i1] τ Q:=by
 unfold Hu at hf; refine BN 36 [.tmp 4] [0,1] Tryz.func248 Z Z Z Z Z ?_; refine B1 hf fun e1 h1 hf=>W 3 Z (AS Z (AO.aO h1 Z Z Z Z lu (aA.aG _) Z (U 1 Z (AS Z (AO.aF Z K4 (fun b5=>(Rr 3 [0,0] Z Z (AS Z (AO.cK Z Z Z Z dP Z (U 2 Z (AR.or 5 15 20 [0,1,5] (x:=(decide (64 < (e1.name.length:Int)))) Z Z (fun h2=>?_) (fun h2=>?_) ?_)))))))))))
 · refine Is 15 h2 Z (U 1 Z (GO Z (AO.aY (i:=0) Z Z Z Pf Z Z (GO Z (AO.cK Z Z Z Z dP Z ?_))))); exact fG 2 Z (En [20,0,1,5] Z)
 · refine Is 15 h2 Z ?_; exact fG 5 Z (En [20,0,1,5] Z)
 refine J 0 Z (C hf Z (fun h3 hf=>?_) fun h3 hf=>?_)
 · cases hf; exact M 1 Z (Y Z h)
 refine B1 hf fun e2 h4 hf=>Wr 2 [0] Z Z (CL Z (om _ h4 (J 3 Z (C hf Z (fun h5 hf=>?_) fun h5 hf=>?_))))
 · cases hf; exact M 2 Z (Y Z h)
 refine B1 hf fun x1 h6 hf=>Wr 2 [0] Z Z (CL Z (Qv _ h6 (J 1 Z (C hf Z (fun h7 hf=>?_) fun h7 hf=>?_))))
 · cases hf; exact M 1 Z (Y Z h)
 refine B1 hf fun x2 h8 hf=>W 2 Z (AS Z (AO.Tv h8 Z lu Z Z Z (aA.bE) Z ⟨_,Z⟩ (AR.Ns 5 0 Z Z Z Z ?_))); refine B1 hf fun x3 h9 hf=>U 1 Z (CL Z (tQ _ (fun z0=>zT z0 e1) 276 [.ref (zX e1)] ada (fun _ _ hz=>Ov _ _ hz) h9 (J 0 Z (C hf Z (fun h10 hf=>?_) fun h10 hf=>?_))))
 · cases hf; exact M 1 Z (Y Z h)
 cases hf; exact M 1 Z (Y Z h)
theorem Ml (s1:List aA) {r0:List aA} (hf:gu s1=some r0) (h:Q (.ret (.list (List.map aA.cells r0))) τ):PC 249 [.list (List.map aA.cells s1)] τ Q:=by
 unfold gu at hf; refine BN 8 [.tmp 2] [0] Tryz.func249 Z Z Z Z Z (W 0 Z (AS Z (AO.dQ Z Z (U 1 Z (AS Z (AO.iE Z Z Zy (fun b hb=>(J 0 Z (AW.cond Z (fun h1=>?_) (fun h1=>?_))))))))))
 · obtain rfl:s1=[]:=List.map_eq_nil_iff.1 (hb h1); obtain ⟨_,rfl⟩:=jS hf; refine W 0 Z (AS Z (AO.dQ Z Z ?_)); exact N 0 rfl ⟨rfl,_,⟨_,_,rfl,rfl,rfl⟩,_,List.Sublist.refl _,h⟩
 refine W 0 Z (AS Z (AO.fE [] Z Ai Z Z Z Z Z (fun v1=>(U 1 Z (AS Z (AO.eO (i:=0) (l:=[]) (m:=s1) hf Z Z Z Z Z Z Z Ai lu Z Z Z (aA.bE) (aA.cells_one) (by decide) (fun v2 s2 hs2=>?_))))))); cases hs2; exact N 1 Z (Y Z h)
theorem vY (s1:List aA) {r0:List aA} (hf:gu s1=some r0) {Q:cZ→List bn→Prop} (h:∀ v,Q (.ret (.val v)) [.buf v r0.length 7 54 (r0.flatMap aA.cells)]):PC 249 [.list (List.map aA.cells s1)] [] Q:=by
 unfold gu at hf; obtain ⟨hl,e0⟩:=jS hf; rw [List.nil_append] at e0; subst e0; simp only [List.length_nil,Nat.zero_add] at hl; have hlen:∀ x:aA,(aA.cells x).length=7:=fun _=>Z; have hone:∀ x:aA,(aA.cells x).all PV.one=true:=fun _=>Z; refine AC.jH 8 [.tmp 2] [0] Tryz.func249 Z Z Z Z Z (AW.sr (AR.step Z Z Z (AO.dQ Z Z (AR.nil [0] Z ?_)))); refine AW.seq (AW.sr (cs 1 Z (AR.step Z Z Z (AO.iE Z Z Zy (fun b hb=>?_))))); refine AR.nil [0,4] Z (AW.cond Z (fun h1=>?_) (fun h1=>?_))
 · obtain rfl:r0=[]:=List.map_eq_nil_iff.1 (hb h1); refine AW.sr (AR.step Z Z Z (AO.yF Z Z (AR.nil [2] Z (AW.R8 7 54 ?_)))); refine AW.ret ?_; exact ⟨rfl,_,⟨_,_,rfl,rfl,rfl⟩,_,List.Sublist.refl _,h _⟩
 refine AW.skip (AW.sr (AR.step Z Z Z (AO.fE [] Z Ai Z Z Z Z Z (fun v1=>(cs 1 Z ?_))))); refine AR.step Z Z Z (AO.zS (i:=0) (l2:=List.map aA.cells r0) Z Z Z Z Z Z Z Ai lu (fun y hy=>?_) (fun y hy=>?_) ?_ ?_ (fun v2 s1 hs1=>?_))
 · obtain ⟨s,_,rfl⟩:=List.mem_map.1 hy; exact hlen s
 · obtain ⟨s,_,rfl⟩:=List.mem_map.1 hy; exact hone s
 · rw [List.length_map]; unfold OU at hl; unfold maxLen; omega
 · rw [List.length_map]; unfold OU at hl; omega
 cases hs1; refine cs 1 Z (AR.nil [2] Z (AW.ret ?_)); have hv:=h v2; rw [List.flatMap_def,show r0.length=(List.map aA.cells r0).length from (List.length_map _).symm] at hv; exact ⟨rfl,_,⟨_,_,rfl,rfl,rfl⟩,_,List.Sublist.refl _,hv⟩
theorem JW (s1:List aA) {r0:List aA} (hf:gu s1=some r0) {Q:cZ→List bn→Prop} (h:∀ v,Q (.ret (.own v (List.map aA.cells r0))) [.row v (List.map aA.cells r0).length 7 54]):PC 249 [.list (List.map aA.cells s1)] [] Q:=by
 unfold gu at hf; refine AC.Ak 8 [.tmp 2] [0] Tryz.func249 Z Z Z Z Z (AW.sr (AR.step Z Z Z (AO.dQ Z Z (AR.nil [0] Z ?_)))); refine AW.seq (AW.sr (cs 1 Z (AR.step Z Z Z (AO.iE Z Z Zy (fun b hb=>?_))))); refine AR.nil [0,4] Z (AW.cond Z (fun h1=>?_) (fun h1=>?_))
 · obtain rfl:s1=[]:=List.map_eq_nil_iff.1 (hb h1); obtain ⟨_,rfl⟩:=jS hf; refine AW.sr (cs 1 Z (AR.nil [2] Z (AW.row 7 54 ?_))); refine AW.ret ?_; exact ⟨rfl,_,⟨_,_,rfl,rfl,rfl⟩,_,List.Sublist.refl _,h _⟩
 refine AW.skip (AW.sr (AR.step Z Z Z (AO.fE [] Z Ai Z Z Z Z Z (fun v1=>(cs 1 Z ?_))))); refine AR.step Z Z Z (AO.eO (i:=0) (l:=[]) (m:=s1) hf Z Z Z Z Z Z Z Ai lu Z Z Z (aA.bE) (aA.cells_one) (by decide) (fun v2 s2 hs2=>?_)); cases hs2; refine cs 1 Z (AR.nil [2] Z (AW.ret ?_)); exact ⟨rfl,_,⟨_,_,rfl,rfl,rfl⟩,_,List.Sublist.refl _,h v2⟩
theorem RI (a1:aA) (b1:aA) {r0:Int} (hf:Nr a1 b1=some r0) {τ:List bn} {Q:cZ→List bn→Prop} (h:Q (.ret (iP r0)) τ):PC 251 [.agg (zX a1),.agg (zX b1)] τ Q:=by
 unfold Nr at hf; refine BN 10 [.tmp 4] [0,1] Tryz.func251 Z Z Z Z Z ?_; refine BR hf fun x1 h1 hf=>?_; refine W 7 Z (CL Z (Bp _ _ h1 ?_)); cases hf; exact N 1 Z (Y Z h)
def H6 :Go.Shelf.Ren:=⟨fun | 6=>250 | 15=>278 | 14=>277 | 28=>308 | 29=>264 | 20=>300 | 21=>301 | 22=>302 | 23=>303 | 24=>304 | 25=>305 | 26=>306 | 27=>307 | 46=>323 | 47=>324 | 48=>325 | 49=>326 | 50=>327 | 57=>339 | n=>n,fun | 22=>23 | 24=>54 | 25=>267 | 3=>3 | 39=>278 | 0=>0 | 53=>276 | 55=>252 | 4=>4 | 46=>306 | 45=>305 | 50=>260 | 5=>5 | 9=>9 | 66=>324 | 70=>328 | 76=>339 | 77=>340 | n=>n,fun | n=>n⟩
theorem MK :Go.Proofs.SlLaysF0.n6 Tryz.prog H6:={
 mixed:=by kernel_rfl
 f6:=⟨Tryz.f250.name,by decide,Tryz.func250.trans (congrArg some (by kernel_rfl))⟩
 f14:=⟨Tryz.f277.name,by decide,Tryz.func277.trans (congrArg some (by kernel_rfl))⟩
 f15:=Tryz.func278.trans (congrArg some (by kernel_rfl))
 f20:=⟨Tryz.f300.name,by decide,Tryz.func300.trans (congrArg some (by kernel_rfl))⟩
 f21:=⟨Tryz.f301.name,by decide,Tryz.func301.trans (congrArg some (by kernel_rfl))⟩
 f22:=⟨Tryz.f302.name,by decide,Tryz.func302.trans (congrArg some (by kernel_rfl))⟩
 f23:=⟨Tryz.f303.name,by decide,Tryz.func303.trans (congrArg some (by kernel_rfl))⟩
 f24:=⟨Tryz.f304.name,by decide,Tryz.func304.trans (congrArg some (by kernel_rfl))⟩
 f25:=⟨Tryz.f305.name,by decide,Tryz.func305.trans (congrArg some (by kernel_rfl))⟩
 f26:=⟨Tryz.f306.name,by decide,Tryz.func306.trans (congrArg some (by kernel_rfl))⟩
 f27:=⟨Tryz.f307.name,by decide,Tryz.func307.trans (congrArg some (by kernel_rfl))⟩
 f28:=Tryz.func308.trans (congrArg some (by kernel_rfl))
 f29:=Tryz.func264.trans (congrArg some (by kernel_rfl))
 f46:=⟨Tryz.f323.name,by decide,Tryz.func323.trans (congrArg some (by kernel_rfl))⟩
 f47:=Tryz.func324.trans (congrArg some (by kernel_rfl))
 f48:=Tryz.func325.trans (congrArg some (by kernel_rfl))
 f49:=⟨Tryz.f326.name,by decide,Tryz.func326.trans (congrArg some (by kernel_rfl))⟩
 f50:=⟨Tryz.f327.name,by decide,Tryz.func327.trans (congrArg some (by kernel_rfl))⟩
 f57:=⟨Tryz.f339.name,by decide,Tryz.func339.trans (congrArg some (by kernel_rfl))⟩
 t0:=Tryz.underlying0
 a0:=Tryz.isAgg0
 z0:=Tryz.sizeOf0
 v0:=Tryz.zeroValue0
 t3:=Tryz.underlying3
 a3:=Tryz.isAgg3
 z3:=Tryz.sizeOf3
 v3:=Tryz.zeroValue3
 t4:=Tryz.underlying4
 a4:=Tryz.isAgg4
 z4:=Tryz.sizeOf4
 v4:=Tryz.zeroValue4
 t5:=Tryz.underlying5
 a5:=Tryz.isAgg5
 z5:=Tryz.sizeOf5
 v5:=Tryz.zeroValue5
 t9:=Tryz.underlying9
 a9:=Tryz.isAgg9
 z9:=Tryz.sizeOf9
 v9:=Tryz.zeroValue9
 t22:=Tryz.underlying23
 a22:=Tryz.isAgg23
 z22:=Tryz.sizeOf23
 v22:=Tryz.zeroValue23
 t25:=Tryz.underlying267
 a25:=Tryz.isAgg267
 z25:=Tryz.sizeOf267
 v25:=Tryz.zeroValue267
 t39:=Tryz.underlying278
 a39:=Tryz.isAgg278
 z39:=Tryz.sizeOf278
 v39:=Tryz.zeroValue278
 t45:=Tryz.underlying305
 a45:=Tryz.isAgg305
 z45:=Tryz.sizeOf305
 v45:=Tryz.zeroValue305
 t46:=Tryz.underlying306
 a46:=Tryz.isAgg306
 z46:=Tryz.sizeOf306
 v46:=Tryz.zeroValue306
 t50:=Tryz.underlying260
 a50:=Tryz.isAgg260
 z50:=Tryz.sizeOf260
 v50:=Tryz.zeroValue260
 t53:=Tryz.underlying276
 a53:=Tryz.isAgg276
 z53:=Tryz.sizeOf276
 v53:=Tryz.zeroValue276
 t55:=Tryz.underlying252
 a55:=Tryz.isAgg252
 z55:=Tryz.sizeOf252
 v55:=Tryz.zeroValue252
 t66:=Tryz.underlying324
 a66:=Tryz.isAgg324
 z66:=Tryz.sizeOf324
 v66:=Tryz.zeroValue324
 t70:=Tryz.underlying328
 a70:=Tryz.isAgg328
 z70:=Tryz.sizeOf328
 v70:=Tryz.zeroValue328
 t76:=Tryz.underlying339
 a76:=Tryz.isAgg339
 z76:=Tryz.sizeOf339
 v76:=Tryz.zeroValue339
 t77:=Tryz.underlying340
 a77:=Tryz.isAgg340
 z77:=Tryz.sizeOf340
 v77:=Tryz.zeroValue340}
theorem KR (s1:List aA) {r0:List aA} (hf:ZO (fun x=>x.name) s1=some r0) {v:Value} {e:TypeId} {Q:cZ→List bn→Prop} (h:Q (.ret (.tuple [])) [.buf v (List.map aA.cells r0).length 7 e (r0.flatMap aA.cells)]):
  PC 250 [.val v,.fn 251 []] [.buf v s1.length 7 e (s1.flatMap aA.cells)] Q:=by
 unfold ZO at hf; split at hf
 case isFalse=>cases hf
 rename_i hg; obtain ⟨h1,h2,h3⟩:=hg; cases hf; rw [List.length_map] at h
 exact AC.Yt MK aA.cells (k:=7) (by decide) (fun _=>Z) (fun _=>Z) agi aeO adf (cf:=fun a b=>l8 a.name b.name)
  (fun a b ha hb=>@RI Vp a b _ (YH (h2 a ha) (h2 b hb)) _ _ Z) (fun x hx=>by rw [Vd] at hx; omega) (fun x y z a b=>LJ a b) (fun x y z a b=>Rm a b)
  (by
   rw [List.Nodup,List.pairwise_map] at h3; refine h3.imp fun {x y} hne=>?_; rcases Int.lt_trichotomy (l8 x.name y.name) 0 with h | h | h
   ·
    exact .inl h
   ·
    exact absurd (Il h) hne
   ·
    right; rw [FN]; omega)
  (by unfold OU at h1; omega) h
theorem VE (dK:List aA) {r0:ah} {r1:Int} (hf:ME dK=some (r0,r1)) (h:Q (.ret (.tuple [.agg (aK r0),iP r1])) τ):PC 215 [.list (List.map aA.cells dK)] τ Q:=by
 unfold ME at hf; refine BN 55 [.cell 2 42,.tmp 3] [0] Tryz.func215 Z Z Z Z Z (W 0 Z (AS Z (AO.aF Z gF (fun b2=>(U 2 Z (AS Z (AO.aM (l:=dK) Z Z Z Z lu Z Z (J 1 Z (C hf Z (fun h1 hf=>?_) fun h1 hf=>?_)))))))))
 · cases hf; exact Wx 3 [0] Z Z (ZC [0] Z Z h)
 refine W 1 Z (AS Z (AO.aM (l:=dK) Z Z Z Z lu Z Z (J 1 Z (Gm (fun i1=>[(0,.list (List.map aA.cells dK)),(2,pP b2),(15,iP (dK.length:Int)),(16,iP i1)]) (fun i1=>[.box b2 [iP 0,.bool false,iP 0,.str ([]:Str),.own (.slice none 0 0) [],.own (.slice none 0 0) []]]) (fun bY i1=>BH dK bY i1=some (r0,r1)) BIG 0 Z Z hf (fun _ hz=>bT hz) ?_)))); intro bY i1 hf; rw [BH] at hf; refine V 1 Z (C hf Z (fun h2 hf=>?_) fun h2 hf=>?_)
 ·
  refine B1 hf fun e1 h3 hf=>W 4 Z (CL Z (RH _ _ h3 (J 3 Z (C hf Z (fun h4 hf=>?_) fun h4 hf=>?_))))
  · cases hf; exact Wx 4 [0] Z Z (ZC [0] Z Z h)
  exact M 2 Z ⟨(dA (i1 + 1)),Z,Z,Z,hf⟩
 refine B1 hf fun XI h5 hf=>W 1 Z (CL Z (AC.none (vY _ h5 (fun v1=>?_)))); refine B1 hf fun wQ h6 hf=>U 2 rfl (CL rfl (AC.one 0 rfl (KR _ h6 ⟨_,rfl,(AR.freeze 6 0 (List.map aA.cells wQ) rfl rfl rfl (fun x hx=>by obtain ⟨s,_,rfl⟩:=List.mem_map.1 hx; rfl) Z ?_)⟩))); refine U 1 Z (AS Z (AO.aF Z gF (fun b7=>(Rr 2 [0] Z Z (AS Z (AO.aM (l:=wQ) Z Z Z Z lu Z Z ?_)))))); refine J 1 Z (AW.row 6 42 (AW.row 1 9 (LK4 (fun x1 bg v2 v3=>[(2,pP b2),(7,pP b7),(32,.own v1 (List.map aA.cells wQ)),(33,iP (wQ.length:Int)),(34,iP x1)]) (fun x1 bg v2 v3=>[.row v3 (List.map mo bg.keys).length 1 9,.row v2 (ah.aN bg.bH).length 6 42,.box b7 [iP bg.kind,.bool bg.iD,iP bg.iC,.str bg.gW,.own v2 (ah.aN bg.bH),.own v3 (List.map mo bg.keys)],.row v1 (List.map aA.cells wQ).length 7 54,.box b2 [iP 0,.bool false,iP 0,.str ([]:Str),.own (.slice none 0 0) [],.own (.slice none 0 0) []]]) (fun ED x1 bg v2 v3=>BG wQ ED x1 bg=some (r0,r1)) BIG 0 (ah.mk 5 false 0 ([]:Str) [] []) (.slice none 0 0) (.slice none 0 0) Z Z hf (fun _ _ _ _ hz=>bT hz) ?_))); intro ED x1 bg v2 v3 hf; rw [BG] at hf; refine V 1 Z (C hf Z (fun h7 hf=>?_) fun h7 hf=>?_)
 ·
  refine B1 hf fun e2 h8 hf=>W 0 Z (AS Z (AO.aO h8 Z Z Z Z lu (aA.aG _) Z (U 1 Z (AS Z (AO.aF Z K4 (fun b9=>(Rr 5 [0,3,0] Z Z (AS Z (AO.bL (List.map mo ([e2.name]:List Str)) Z rD Z Z Z Z ?_))))))))); refine B1 hf fun x2 h9 hf=>AS Z (AO.eO (i:=1) (l:=bg.keys) (m:=([e2.name]:List Str)) h9 Z Z Z Z Z Z Z rD iY Z Z Z (fun _=>Z) (fun _=>Z) (by decide) (fun v4 s1 hs1=>?_)); cases hs1; refine Rw 2 [3] Z Z (AW.draw 6 mixed (by kernel_rfl) Z ?_); refine Ev.cs aX 1 Z (Ev.cons Z Z Z (AO.aY (i:=3) Z Z Z HV Z Z zg) (Ev.cs aX 1 Z (Ev.cons Z Z Z (AO.aY (i:=0) Z Z Z kZ Z Z zg) ?_))); refine B1 hf fun x3 h10 hf=>Ev.cons rfl rfl rfl (AO.call rfl _ rfl rfl Z7 (J_ _ h10 ⟨rfl,rfl⟩)) (Ev.cons rfl rfl rfl (AO.bL (ah.aN [x3]) rfl xI rfl rfl rfl (by first | rfl | simp only [List.map,ah.aG,ah.aN]) ⟨rfl,rfl⟩) ?_); refine Ev.nil ?_; show AR _ _ _ _ _ _ _ _
  refine B1 hf fun x4 h11 hf=>AS Z (AO.eO (i:=2) (l:=bg.bH) (m:=[x3]) h11 Z Z Z Z Z Z Z xI gK (ah.aC _) (ah.aC _) (ah.aC _).symm (ah.bE) (ah.cells_one) (by decide) (fun v5 s2 hs2=>?_)); cases hs2; refine Rn 4 [3] Z Z (AR.drop1 ?_); exact N 0 Z ⟨(dA (x1 + 1)),(ah.mk bg.kind bg.iD bg.iC bg.gW x4 x2),v5,v4,Z,Z,Z,hf⟩
 cases hf; exact Wx 3 [2,4] Z Z (ZC [4] Z Z h)
end Go.Proofs.YtcohpegjnpcgcaaGreatDoor
