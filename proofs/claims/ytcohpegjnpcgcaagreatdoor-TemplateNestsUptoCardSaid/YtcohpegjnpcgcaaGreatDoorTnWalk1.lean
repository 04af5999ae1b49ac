/- Proved here: each function does what its functional text says (part 1). -/
import Derived.Test.YtcohpegjnpcgcaaGreatDoorTnA3
import Derived.Test.YtcohpegjnpcgcaaGreatDoorTnPre1
import Derived.Test.YtcohpegjnpcgcaaGreatDoorTnFt1
import Derived.Test.YtcohpegjnpcgcaaGreatDoorTnPool1
import Derived.Test.YtcohpegjnpcgcaaGreatDoorProg
import Derived.KernelRfl
set_option linter.unusedVariables false
set_option linter.unusedSimpArgs false
set_option linter.unusedSectionVars false
namespace Go.Ft
open Go Go.Abs
mutual
def ah.cells :ah→List PV
  | ⟨a0,a1,a2,a3,a4,a5⟩=>[.int .i64 a0,.bool a1,.int .i64 a2,.str a3,.list (ah.aK a4),.list (List.map l8 a5)]
def ah.aK :List ah→List (List PV)
  | []=>[]
  | x :: xs=>ah.cells x :: ah.aK xs
end
theorem ah.aF (x:ah):ah.cells x=[.int .i64 x.kind,.bool x.je,.int .i64 x.jm,.str x.iK,.list (ah.aK x.cu),.list (List.map l8 x.keys)]:=by cases x; rfl
theorem ah.aA :∀ l:List ah,ah.aK l=l.map ah.cells
  | []=>rfl
  | _ :: l=>congrArg _ (ah.aA l)
def ah.QX (l:List ah):List PV:=[.list (ah.aK l)]
theorem ah.bB (x:ah):(ah.cells x).length=6:=by rw [ah.aF]; rfl
theorem ah.cells_one (x:ah):(ah.cells x).all PV.one=true:=by rw [ah.aF]; rfl
mutual
def aj.cells :aj→List PV
  | ⟨a0,a1,a2,a3,a4⟩=>[.int .i64 a0,.str a1,.int .i64 a2.kind,.bool a2.je,.int .i64 a2.jm,.str a2.iK,.list (ah.aK a2.cu),.list (List.map l8 a2.keys),.list (aj.aK a3),.list (List.map l8 a4)]
def aj.aK :List aj→List (List PV)
  | []=>[]
  | x :: xs=>aj.cells x :: aj.aK xs
end
theorem aj.aF (x:aj):aj.cells x=[.int .i64 x.kind,.str x.name,.int .i64 x.value.kind,.bool x.value.je,.int .i64 x.value.jm,.str x.value.iK,.list (ah.aK x.value.cu),.list (List.map l8 x.value.keys),.list (aj.aK x.args),.list (List.map l8 x.keys)]:=by cases x; rfl
theorem aj.aA :∀ l:List aj,aj.aK l=l.map aj.cells
  | []=>rfl
  | _ :: l=>congrArg _ (aj.aA l)
def aj.QX (l:List aj):List PV:=[.list (aj.aK l)]
theorem aj.bB (x:aj):(aj.cells x).length=10:=by rw [aj.aF]; rfl
theorem aj.cells_one (x:aj):(aj.cells x).all PV.one=true:=by rw [aj.aF]; rfl
@[reducible] def aM.cells (x:aM):List PV:=[.str x.name,.int .i64 x.expr.kind,.str x.expr.name,.int .i64 x.expr.value.kind,.bool x.expr.value.je,.int .i64 x.expr.value.jm,.str x.expr.value.iK,.list (ah.aK x.expr.value.cu),.list (List.map l8 x.expr.value.keys),.list (aj.aK x.expr.args),.list (List.map l8 x.expr.keys)]
theorem aM.aF (x:aM):aM.cells x=[.str x.name,.int .i64 x.expr.kind,.str x.expr.name,.int .i64 x.expr.value.kind,.bool x.expr.value.je,.int .i64 x.expr.value.jm,.str x.expr.value.iK,.list (ah.aK x.expr.value.cu),.list (List.map l8 x.expr.value.keys),.list (aj.aK x.expr.args),.list (List.map l8 x.expr.keys)]:=rfl
theorem aM.bB (x:aM):(aM.cells x).length=11:=by rw [aM.aF]; rfl
theorem aM.cells_one (x:aM):(aM.cells x).all PV.one=true:=by rw [aM.aF]; rfl
mutual
def au.cells :au→List PV
  | ⟨a0,a1,a2,a3⟩=>[.str a0,.str a1,.list (List.map aM.cells a2),.list (au.aK a3)]
def au.aK :List au→List (List PV)
  | []=>[]
  | x :: xs=>au.cells x :: au.aK xs
end
theorem au.aF (x:au):au.cells x=[.str x.kind,.str x.name,.list (List.map aM.cells x.attrs),.list (au.aK x.blocks)]:=by cases x; rfl
theorem au.aA :∀ l:List au,au.aK l=l.map au.cells
  | []=>rfl
  | _ :: l=>congrArg _ (au.aA l)
def au.QX (l:List au):List PV:=[.list (au.aK l)]
theorem au.bB (x:au):(au.cells x).length=4:=by rw [au.aF]; rfl
theorem au.cells_one (x:au):(au.cells x).all PV.one=true:=by rw [au.aF]; rfl
@[reducible] def bX.cells (x:bX):List PV:=[.list (au.aK x.blocks)]
theorem bX.aF (x:bX):bX.cells x=[.list (au.aK x.blocks)]:=rfl
theorem bX.bB (x:bX):(bX.cells x).length=1:=by rw [bX.aF]; rfl
theorem bX.cells_one (x:bX):(bX.cells x).all PV.one=true:=by rw [bX.aF]; rfl
@[reducible] def aB.cells (x:aB):List PV:=[.str x.name,.int .i64 x.value.kind,.bool x.value.je,.int .i64 x.value.jm,.str x.value.iK,.list (ah.aK x.value.cu),.list (List.map l8 x.value.keys)]
theorem aB.aF (x:aB):aB.cells x=[.str x.name,.int .i64 x.value.kind,.bool x.value.je,.int .i64 x.value.jm,.str x.value.iK,.list (ah.aK x.value.cu),.list (List.map l8 x.value.keys)]:=rfl
theorem aB.bB (x:aB):(aB.cells x).length=7:=by rw [aB.aF]; rfl
theorem aB.cells_one (x:aB):(aB.cells x).all PV.one=true:=by rw [aB.aF]; rfl
mutual
def aJ.cells :aJ→List PV
  | ⟨a0,a1⟩=>[.int .i64 a0,.list (aJ.aK a1)]
def aJ.aK :List aJ→List (List PV)
  | []=>[]
  | x :: xs=>aJ.cells x :: aJ.aK xs
end
theorem aJ.aF (x:aJ):aJ.cells x=[.int .i64 x.kind,.list (aJ.aK x.elem)]:=by cases x; rfl
theorem aJ.aA :∀ l:List aJ,aJ.aK l=l.map aJ.cells
  | []=>rfl
  | _ :: l=>congrArg _ (aJ.aA l)
def aJ.QX (l:List aJ):List PV:=[.list (aJ.aK l)]
theorem aJ.bB (x:aJ):(aJ.cells x).length=2:=by rw [aJ.aF]; rfl
theorem aJ.cells_one (x:aJ):(aJ.cells x).all PV.one=true:=by rw [aJ.aF]; rfl
@[reducible] def aH.cells (x:aH):List PV:=[.int .i64 x.code]
theorem aH.aF (x:aH):aH.cells x=[.int .i64 x.code]:=rfl
theorem aH.bB (x:aH):(aH.cells x).length=1:=by rw [aH.aF]; rfl
theorem aH.cells_one (x:aH):(aH.cells x).all PV.one=true:=by rw [aH.aF]; rfl
@[reducible] def jl.cells (x:jl):List PV:=[.int .u64 ((x.half.getD 0 0).toNat:Int),.int .u64 ((x.half.getD 1 0).toNat:Int),.bool x.neg]
theorem jl.aF (x:jl):jl.cells x=[.int .u64 ((x.half.getD 0 0).toNat:Int),.int .u64 ((x.half.getD 1 0).toNat:Int),.bool x.neg]:=rfl
theorem jl.bB (x:jl):(jl.cells x).length=3:=by rw [jl.aF]; rfl
theorem jl.cells_one (x:jl):(jl.cells x).all PV.one=true:=by rw [jl.aF]; rfl
@[reducible] def bN.cells (x:bN):List PV:=[.str x.name,.int .i64 x.H7.kind,.list (aJ.aK x.H7.elem),.bool x.has,.int .i64 x.default.kind,.bool x.default.je,.int .i64 x.default.jm,.str x.default.iK,.list (ah.aK x.default.cu),.list (List.map l8 x.default.keys)]
theorem bN.aF (x:bN):bN.cells x=[.str x.name,.int .i64 x.H7.kind,.list (aJ.aK x.H7.elem),.bool x.has,.int .i64 x.default.kind,.bool x.default.je,.int .i64 x.default.jm,.str x.default.iK,.list (ah.aK x.default.cu),.list (List.map l8 x.default.keys)]:=rfl
theorem bN.bB (x:bN):(bN.cells x).length=10:=by rw [bN.aF]; rfl
theorem bN.cells_one (x:bN):(bN.cells x).all PV.one=true:=by rw [bN.aF]; rfl
@[reducible] def bq.cells (x:bq):List PV:=[.str x.name,.list (List.map bN.cells x.params),.str x.body.kind,.str x.body.name,.list (List.map aM.cells x.body.attrs),.list (au.aK x.body.blocks)]
theorem bq.aF (x:bq):bq.cells x=[.str x.name,.list (List.map bN.cells x.params),.str x.body.kind,.str x.body.name,.list (List.map aM.cells x.body.attrs),.list (au.aK x.body.blocks)]:=rfl
theorem bq.bB (x:bq):(bq.cells x).length=6:=by rw [bq.aF]; rfl
theorem bq.cells_one (x:bq):(bq.cells x).all PV.one=true:=by rw [bq.aF]; rfl
@[reducible] def aS.cells (x:aS):List PV:=[.int .i64 x.kind,.str x.text,.int .i64 x.at_]
theorem aS.aF (x:aS):aS.cells x=[.int .i64 x.kind,.str x.text,.int .i64 x.at_]:=rfl
theorem aS.bB (x:aS):(aS.cells x).length=3:=by rw [aS.aF]; rfl
theorem aS.cells_one (x:aS):(aS.cells x).all PV.one=true:=by rw [aS.aF]; rfl
@[reducible] def ak.cells (x:ak):List PV:=[.list (List.map aS.cells x.ts),.int .i64 x.at_]
theorem ak.aF (x:ak):ak.cells x=[.list (List.map aS.cells x.ts),.int .i64 x.at_]:=rfl
theorem ak.bB (x:ak):(ak.cells x).length=2:=by rw [ak.aF]; rfl
theorem ak.cells_one (x:ak):(ak.cells x).all PV.one=true:=by rw [ak.aF]; rfl
@[reducible] def ay.cells (x:ay):List PV:=[.int .i64 x.at_,.int .i64 x.code]
theorem ay.aF (x:ay):ay.cells x=[.int .i64 x.at_,.int .i64 x.code]:=rfl
theorem ay.bB (x:ay):(ay.cells x).length=2:=by rw [ay.aF]; rfl
theorem ay.cells_one (x:ay):(ay.cells x).all PV.one=true:=by rw [ay.aF]; rfl
@[reducible] def aU.cells (x:aU):List PV:=[.str x.text,.bool x.WT,.int .i64 x.expr.kind,.str x.expr.name,.int .i64 x.expr.value.kind,.bool x.expr.value.je,.int .i64 x.expr.value.jm,.str x.expr.value.iK,.list (ah.aK x.expr.value.cu),.list (List.map l8 x.expr.value.keys),.list (aj.aK x.expr.args),.list (List.map l8 x.expr.keys)]
theorem aU.aF (x:aU):aU.cells x=[.str x.text,.bool x.WT,.int .i64 x.expr.kind,.str x.expr.name,.int .i64 x.expr.value.kind,.bool x.expr.value.je,.int .i64 x.expr.value.jm,.str x.expr.value.iK,.list (ah.aK x.expr.value.cu),.list (List.map l8 x.expr.value.keys),.list (aj.aK x.expr.args),.list (List.map l8 x.expr.keys)]:=rfl
theorem aU.bB (x:aU):(aU.cells x).length=12:=by rw [aU.aF]; rfl
theorem aU.cells_one (x:aU):(aU.cells x).all PV.one=true:=by rw [aU.aF]; rfl
@[reducible] def aG.cells (x:aG):List PV:=[.list (List.map bq.cells x.templates),.list (List.map aB.cells x.env),.int .i64 x.uses]
theorem aG.aF (x:aG):aG.cells x=[.list (List.map bq.cells x.templates),.list (List.map aB.cells x.env),.int .i64 x.uses]:=rfl
theorem aG.bB (x:aG):(aG.cells x).length=3:=by rw [aG.aF]; rfl
theorem aG.cells_one (x:aG):(aG.cells x).all PV.one=true:=by rw [aG.aF]; rfl
end Go.Ft
namespace Go.Proofs.YtcohpegjnpcgcaaGreatDoor
open Go Go.Abs Go.Ft
set_option maxRecDepth 20000
attribute [local irreducible] AO AR AW AC
class xJ [iq]:Prop where
  hD:¬ iq.D
  max:∀ (w:World) (m:jH),iq.G w m→∃ n:Int,w.cell? ⟨0,0,none⟩=some (.int .i64 n)
  pow:∀ (w:World) (m:jH),iq.G w m→Lib.TabIs Tryz.prog w "internal/strconv.uint64pow10" .u64 Lib.pow10Tab
  syn:∀ (w:World) (m:jH),iq.G w m→∃ ev,w.cell? ⟨6,0,none⟩=some ev∧(ev=.nilIface∨∃ te pe,ev=.iface te pe)
  rng:∀ (w:World) (m:jH),iq.G w m→∃ ev,w.cell? ⟨7,0,none⟩=some ev∧(ev=.nilIface∨∃ te pe,ev=.iface te pe)
variable [iq]
theorem acy (w:World):(isAgg 54).run Tryz.prog w=.ok true w:=by kernel_rfl
theorem Xt :yN Tryz.prog 197=some (8,1):=by kernel_rfl
theorem Jm :yN Tryz.prog 281=some (2,1):=by kernel_rfl
theorem aaK :Tryz.prog.cellsOf 252=1:=by kernel_rfl
theorem aaJ :Tryz.prog.cellsOf 281=2:=by kernel_rfl
theorem acu :Tryz.prog.cellsOf 5=1:=by kernel_rfl
theorem aaH :Tryz.prog.eqGuardType Tryz.prog.depth 281=false:=by kernel_rfl
theorem Xb :elemSize Tryz.prog 151=some 7:=by kernel_rfl
theorem Cz :elemSize Tryz.prog 177=some 1:=by kernel_rfl
theorem AZ :elemSize Tryz.prog 184=some 12:=by kernel_rfl
theorem PZ :elemSize Tryz.prog 22=some 10:=by kernel_rfl
theorem tF :elemSize Tryz.prog 23=some 7:=by kernel_rfl
theorem xk :elemSize Tryz.prog 237=some 3:=by kernel_rfl
theorem kG :elemSize Tryz.prog 32=some 4:=by kernel_rfl
theorem qp :elemSize Tryz.prog 36=some 11:=by kernel_rfl
theorem iR :elemSize Tryz.prog 39=some 6:=by kernel_rfl
theorem jZ :elemSize Tryz.prog 40=some 1:=by kernel_rfl
theorem iQ :elemSize Tryz.prog 43=some 10:=by kernel_rfl
theorem LA :elemSize Tryz.prog 59=some 2:=by kernel_rfl
theorem Lx :elemSize Tryz.prog 73=some 1:=by kernel_rfl
theorem R8 :elemSize Tryz.prog 74=some 6:=by kernel_rfl
theorem wX :uZ Tryz.prog 167 0=some 0:=by kernel_rfl
theorem qb :uZ Tryz.prog 167 1=some 1:=by kernel_rfl
theorem JY :uZ Tryz.prog 209 0=some 0:=by kernel_rfl
theorem Db :uZ Tryz.prog 209 1=some 1:=by kernel_rfl
theorem WU :Tryz.prog.underlying 169=some (.interface (Tryz.prog.methodsAt 169)):=by kernel_rfl
theorem inB :∃ j,Tryz.prog.info? 167=some j∧(j.size != 0)=true:=sized (n:=2) (by kernel_rfl) rfl
theorem abW :liesAt Tryz.prog Tryz.prog.depth 167 (2 / Tryz.prog.cellsOf 167) 0 167 1=true:=by kernel_rfl
theorem abV :liesAt Tryz.prog Tryz.prog.depth 209 (3 / Tryz.prog.cellsOf 209) 1 167 1=true:=by kernel_rfl
theorem mixed :Tryz.prog.follows .mixedOrders=true:=by kernel_rfl
theorem DU :Tryz.prog.underlying 131=some (.map 9 3):=by kernel_rfl
theorem aap :concrete Tryz.prog 181=true:=by kernel_rfl
theorem aao :concrete Tryz.prog 292=true:=by kernel_rfl
theorem YX :aX Tryz.prog 10=true:=by kernel_rfl
theorem WE :aX Tryz.prog 100=true:=by kernel_rfl
theorem WC :aX Tryz.prog 104=true:=by kernel_rfl
theorem aaf :aX Tryz.prog 105=true:=by kernel_rfl
theorem aae :aX Tryz.prog 106=true:=by kernel_rfl
theorem aad :aX Tryz.prog 107=true:=by kernel_rfl
theorem aac :aX Tryz.prog 108=true:=by kernel_rfl
theorem WB :aX Tryz.prog 109=true:=by kernel_rfl
theorem abS :aX Tryz.prog 11=true:=by kernel_rfl
theorem Z_ :aX Tryz.prog 110=true:=by kernel_rfl
theorem Z9 :aX Tryz.prog 113=true:=by kernel_rfl
theorem Z8 :aX Tryz.prog 114=true:=by kernel_rfl
theorem Z7 :aX Tryz.prog 117=true:=by kernel_rfl
theorem Z6 :aX Tryz.prog 120=true:=by kernel_rfl
theorem Z5 :aX Tryz.prog 130=true:=by kernel_rfl
theorem Z4 :aX Tryz.prog 131=true:=by kernel_rfl
theorem Z0 :aX Tryz.prog 132=true:=by kernel_rfl
theorem ZY :aX Tryz.prog 133=true:=by kernel_rfl
theorem ZX :aX Tryz.prog 134=true:=by kernel_rfl
theorem ZW :aX Tryz.prog 135=true:=by kernel_rfl
theorem ZV :aX Tryz.prog 138=true:=by kernel_rfl
theorem WA :aX Tryz.prog 139=true:=by kernel_rfl
theorem Wz :aX Tryz.prog 140=true:=by kernel_rfl
theorem ZU :aX Tryz.prog 142=true:=by kernel_rfl
theorem ZT :aX Tryz.prog 144=true:=by kernel_rfl
theorem Te :aX Tryz.prog 145=true:=by kernel_rfl
theorem ZQ :aX Tryz.prog 146=true:=by kernel_rfl
theorem ZP :aX Tryz.prog 148=true:=by kernel_rfl
theorem ZO :aX Tryz.prog 149=true:=by kernel_rfl
theorem abR :aX Tryz.prog 15=true:=by kernel_rfl
theorem Fz :aX Tryz.prog 150=true:=by kernel_rfl
theorem Wy :aX Tryz.prog 151=true:=by kernel_rfl
theorem ZM :aX Tryz.prog 152=true:=by kernel_rfl
theorem Wv :aX Tryz.prog 153=true:=by kernel_rfl
theorem ZL :aX Tryz.prog 154=true:=by kernel_rfl
theorem ZK :aX Tryz.prog 156=true:=by kernel_rfl
theorem ZJ :aX Tryz.prog 162=true:=by kernel_rfl
theorem ZI :aX Tryz.prog 163=true:=by kernel_rfl
theorem Td :aX Tryz.prog 166=true:=by kernel_rfl
theorem ZH :aX Tryz.prog 168=true:=by kernel_rfl
theorem Wu :aX Tryz.prog 173=true:=by kernel_rfl
theorem Wt :aX Tryz.prog 178=true:=by kernel_rfl
theorem ZG :aX Tryz.prog 179=true:=by kernel_rfl
theorem Ws :aX Tryz.prog 183=true:=by kernel_rfl
theorem ZF :aX Tryz.prog 184=true:=by kernel_rfl
theorem ZE :aX Tryz.prog 185=true:=by kernel_rfl
theorem Wq :aX Tryz.prog 186=true:=by kernel_rfl
theorem ZB :aX Tryz.prog 188=true:=by kernel_rfl
theorem ZA :aX Tryz.prog 189=true:=by kernel_rfl
theorem abQ :aX Tryz.prog 19=true:=by kernel_rfl
theorem Wp :aX Tryz.prog 197=true:=by kernel_rfl
theorem abP :aX Tryz.prog 20=true:=by kernel_rfl
theorem KG :aX Tryz.prog 205=true:=by kernel_rfl
theorem Wo :aX Tryz.prog 21=true:=by kernel_rfl
theorem abO :aX Tryz.prog 22=true:=by kernel_rfl
theorem Wn :aX Tryz.prog 221=true:=by kernel_rfl
theorem Zz :aX Tryz.prog 224=true:=by kernel_rfl
theorem Zy :aX Tryz.prog 229=true:=by kernel_rfl
theorem Uj :aX Tryz.prog 23=true:=by kernel_rfl
theorem Zx :aX Tryz.prog 230=true:=by kernel_rfl
theorem Wm :aX Tryz.prog 237=true:=by kernel_rfl
theorem Zw :aX Tryz.prog 243=true:=by kernel_rfl
theorem Zv :aX Tryz.prog 251=true:=by kernel_rfl
theorem Zu :aX Tryz.prog 252=true:=by kernel_rfl
theorem Zt :aX Tryz.prog 254=true:=by kernel_rfl
theorem Zr :aX Tryz.prog 276=true:=by kernel_rfl
theorem Zq :aX Tryz.prog 279=true:=by kernel_rfl
theorem Wj :aX Tryz.prog 281=true:=by kernel_rfl
theorem Zp :aX Tryz.prog 285=true:=by kernel_rfl
theorem KF :aX Tryz.prog 286=true:=by kernel_rfl
theorem Zo :aX Tryz.prog 309=true:=by kernel_rfl
theorem Zn :aX Tryz.prog 312=true:=by kernel_rfl
theorem Wi :aX Tryz.prog 313=true:=by kernel_rfl
theorem Ng :aX Tryz.prog 328=true:=by kernel_rfl
theorem abN :aX Tryz.prog 34=true:=by kernel_rfl
theorem Zm :aX Tryz.prog 341=true:=by kernel_rfl
theorem abM :aX Tryz.prog 38=true:=by kernel_rfl
theorem YW :aX Tryz.prog 39=true:=by kernel_rfl
theorem abL :aX Tryz.prog 40=true:=by kernel_rfl
theorem YV :aX Tryz.prog 41=true:=by kernel_rfl
theorem YU :aX Tryz.prog 42=true:=by kernel_rfl
theorem abK :aX Tryz.prog 43=true:=by kernel_rfl
theorem Wh :aX Tryz.prog 48=true:=by kernel_rfl
theorem abJ :aX Tryz.prog 52=true:=by kernel_rfl
theorem abI :aX Tryz.prog 54=true:=by kernel_rfl
theorem abH :aX Tryz.prog 55=true:=by kernel_rfl
theorem YT :aX Tryz.prog 58=true:=by kernel_rfl
theorem Zl :aX Tryz.prog 6=true:=by kernel_rfl
theorem Fy :aX Tryz.prog 62=true:=by kernel_rfl
theorem abG :aX Tryz.prog 63=true:=by kernel_rfl
theorem abF :aX Tryz.prog 64=true:=by kernel_rfl
theorem YS :aX Tryz.prog 65=true:=by kernel_rfl
theorem abE :aX Tryz.prog 66=true:=by kernel_rfl
theorem YR :aX Tryz.prog 68=true:=by kernel_rfl
theorem YQ :aX Tryz.prog 70=true:=by kernel_rfl
theorem Wd :aX Tryz.prog 71=true:=by kernel_rfl
theorem V_ :aX Tryz.prog 78=true:=by kernel_rfl
theorem abD :aX Tryz.prog 79=true:=by kernel_rfl
theorem abC :aX Tryz.prog 80=true:=by kernel_rfl
theorem abB :aX Tryz.prog 81=true:=by kernel_rfl
theorem YP :aX Tryz.prog 82=true:=by kernel_rfl
theorem abA :aX Tryz.prog 85=true:=by kernel_rfl
theorem abz :aX Tryz.prog 87=true:=by kernel_rfl
theorem aby :aX Tryz.prog 88=true:=by kernel_rfl
theorem abx :aX Tryz.prog 89=true:=by kernel_rfl
theorem abw :aX Tryz.prog 93=true:=by kernel_rfl
theorem YO :aX Tryz.prog 94=true:=by kernel_rfl
theorem YN :aX Tryz.prog 98=true:=by kernel_rfl
theorem M9 :iw Tryz.prog 177 3 1 8:=nH (by kernel_rfl)
theorem Qs :iw Tryz.prog 184 189 12 184:=nH (by kernel_rfl)
theorem V6 :iw Tryz.prog 22 63 10 144:=nH (by kernel_rfl)
theorem CW :iw Tryz.prog 23 54 7 104:=nH (by kernel_rfl)
theorem KD :iw Tryz.prog 237 243 3 32:=nH (by kernel_rfl)
theorem oG :iw Tryz.prog 32 38 4 80:=nH (by kernel_rfl)
theorem xL :iw Tryz.prog 36 48 11 176:=nH (by kernel_rfl)
theorem vW :iw Tryz.prog 39 42 6 88:=nH (by kernel_rfl)
theorem qm :iw Tryz.prog 40 9 1 16:=nH (by kernel_rfl)
theorem uU :iw Tryz.prog 43 45 10 160:=nH (by kernel_rfl)
theorem abu :iw Tryz.prog 59 61 2 32:=nH (by kernel_rfl)
theorem JA :iw Tryz.prog 73 5 1 1:=nH (by kernel_rfl)
theorem YM :iw Tryz.prog 74 98 6 120:=nH (by kernel_rfl)
theorem Ua :uT Tryz.prog 189=some [(0,1),(1,1),(2,10)]:=by kernel_rfl
theorem Yc :uT Tryz.prog 290=some [(0,1),(1,1)]:=by kernel_rfl
theorem KA :uT Tryz.prog 38=some [(0,1),(1,1),(2,1),(3,1)]:=by kernel_rfl
theorem Qr :uT Tryz.prog 42=some [(0,1),(1,1),(2,1),(3,1),(4,1),(5,1)]:=by kernel_rfl
theorem Ck :uT Tryz.prog 45=some [(0,1),(1,1),(2,6),(8,1),(9,1)]:=by kernel_rfl
theorem Zj :uT Tryz.prog 48=some [(0,1),(1,10)]:=by kernel_rfl
theorem V3 :uT Tryz.prog 54=some [(0,1),(1,6)]:=by kernel_rfl
theorem Yb (w:Go.World):(Instr.typeAssert .nilIface 20 181 true).run Tryz.prog w=.ok (.tuple #[.agg #[.int .i64 0],.bool false]) w:=by kernel_rfl
theorem Ya (w:Go.World):(Instr.typeAssert .nilIface 20 292 true).run Tryz.prog w=.ok (.tuple #[.agg #[.int .i64 0,.int .i64 0],.bool false]) w:=by kernel_rfl
theorem X_ (v:Value) (w:Go.World):(Instr.typeAssert (.iface 181 v) 20 181 true).run Tryz.prog w=.ok (.tuple #[v,.bool true]) w:=by kernel_rfl
theorem X9 (v:Value) (w:Go.World):(Instr.typeAssert (.iface 292 v) 20 292 true).run Tryz.prog w=.ok (.tuple #[v,.bool true]) w:=by kernel_rfl
theorem Dx :gW Tryz.prog 165=some (false,1):=by kernel_rfl
theorem Zh :gW Tryz.prog 176=some (false,1):=by kernel_rfl
theorem VW :gW Tryz.prog 181=some (true,1):=by kernel_rfl
theorem Ky :gW Tryz.prog 184=some (false,1):=by kernel_rfl
theorem VU :gW Tryz.prog 189=some (true,12):=by kernel_rfl
theorem abt :gW Tryz.prog 23=some (false,1):=by kernel_rfl
theorem Qp :gW Tryz.prog 237=some (false,1):=by kernel_rfl
theorem Kw :gW Tryz.prog 243=some (true,3):=by kernel_rfl
theorem BF :gW Tryz.prog 25=some (false,1):=by kernel_rfl
theorem Zg :gW Tryz.prog 281=some (true,2):=by kernel_rfl
theorem VT :gW Tryz.prog 292=some (true,2):=by kernel_rfl
theorem Br :gW Tryz.prog 3=some (false,1):=by kernel_rfl
theorem xK :gW Tryz.prog 32=some (false,1):=by kernel_rfl
theorem abr :gW Tryz.prog 34=some (true,1):=by kernel_rfl
theorem Ry :gW Tryz.prog 36=some (false,1):=by kernel_rfl
theorem mD :gW Tryz.prog 38=some (true,4):=by kernel_rfl
theorem Fq :gW Tryz.prog 39=some (false,1):=by kernel_rfl
theorem abq :gW Tryz.prog 4=some (false,1):=by kernel_rfl
theorem TW :gW Tryz.prog 40=some (false,1):=by kernel_rfl
theorem kY :gW Tryz.prog 42=some (true,6):=by kernel_rfl
theorem Lh :gW Tryz.prog 43=some (false,1):=by kernel_rfl
theorem gH :gW Tryz.prog 45=some (true,10):=by kernel_rfl
theorem YK :gW Tryz.prog 48=some (true,11):=by kernel_rfl
theorem abp :gW Tryz.prog 54=some (true,7):=by kernel_rfl
theorem YJ :gW Tryz.prog 59=some (false,1):=by kernel_rfl
theorem YI :gW Tryz.prog 61=some (true,2):=by kernel_rfl
theorem abo :gW Tryz.prog 63=some (true,10):=by kernel_rfl
theorem CV :gW Tryz.prog 73=some (false,1):=by kernel_rfl
theorem M4 :gW Tryz.prog 9=some (false,1):=by kernel_rfl
theorem VN :Tryz.prog.underlying 23=some (.slice 54):=by kernel_rfl
theorem MX :Tryz.prog.underlying 252=some (.int .u64):=by kernel_rfl
theorem Ze :Tryz.prog.underlying 281=some (.array 2 252):=by kernel_rfl
theorem EO :Tryz.prog.underlying 3=some (.int .i64):=by kernel_rfl
theorem VL :Tryz.prog.underlying 32=some (.slice 38):=by kernel_rfl
theorem TT :Tryz.prog.underlying 36=some (.slice 48):=by kernel_rfl
theorem VK :Tryz.prog.underlying 39=some (.slice 42):=by kernel_rfl
theorem abn :Tryz.prog.underlying 4=some (.bool):=by kernel_rfl
theorem YH :Tryz.prog.underlying 40=some (.slice 9):=by kernel_rfl
theorem VJ :Tryz.prog.underlying 43=some (.slice 45):=by kernel_rfl
theorem Du :Tryz.prog.underlying 5=some (.int .u8):=by kernel_rfl
theorem Ru :Tryz.prog.underlying 73=some (.slice 5):=by kernel_rfl
theorem eH :Tryz.prog.underlying 9=some (.string):=by kernel_rfl
theorem Cg :Tryz.prog.underlying 165=some (.pointer 167):=by kernel_rfl
theorem VI :Tryz.prog.underlying 196=some (.pointer 5):=by kernel_rfl
theorem Qn :Tryz.prog.underlying 227=some .unsafePointer:=by kernel_rfl
theorem abd (w:World):(Go.sizeOf 54).run Tryz.prog w=.ok 7 w:=by kernel_rfl
theorem UA :(Tryz.prog.info? 3).map (·.zero)=some (some (.int .i64 0)):=by kernel_rfl
theorem Kq :kQ Tryz.prog 167=some [.val (.pointer none),.own (.slice none 0 0) []]:=by kernel_rfl
theorem Zb :kQ Tryz.prog 176=some [.val .nilFunc]:=by kernel_rfl
theorem VD :kQ Tryz.prog 181=some [.int .i64 0]:=by kernel_rfl
theorem MK :kQ Tryz.prog 189=some [.str [],.bool false,.int .i64 0,.str [],.int .i64 0,.bool false,.int .i64 0,.str [],.own (.slice none 0 0) [],.own (.slice none 0 0) [],.own (.slice none 0 0) [],.own (.slice none 0 0) []]:=by kernel_rfl
theorem VB :kQ Tryz.prog 197=some [.str [],.str [],.str [],.str [],.str [],.str [],.str [],.str []]:=by kernel_rfl
theorem Za :kQ Tryz.prog 209=some [.own (.slice none 0 0) [],.val (.pointer none),.own (.slice none 0 0) []]:=by kernel_rfl
theorem vL :kQ Tryz.prog 243=some [.int .i64 0,.str [],.int .i64 0]:=by kernel_rfl
theorem VA :kQ Tryz.prog 25=some [.int .i64 0]:=by kernel_rfl
theorem Vz :kQ Tryz.prog 281=some [.int .u64 0,.int .u64 0]:=by kernel_rfl
theorem SE :kQ Tryz.prog 283=some [.int .u64 0,.int .u64 0,.bool false]:=by kernel_rfl
theorem Y_ :kQ Tryz.prog 290=some [.own (.slice none 0 0) [],.int .i64 0]:=by kernel_rfl
theorem Vy :kQ Tryz.prog 292=some [.int .i64 0,.int .i64 0]:=by kernel_rfl
theorem abb :kQ Tryz.prog 3=some [.int .i64 0]:=by kernel_rfl
theorem CS :kQ Tryz.prog 34=some [.own (.slice none 0 0) []]:=by kernel_rfl
theorem nK :kQ Tryz.prog 38=some [.str [],.str [],.own (.slice none 0 0) [],.own (.slice none 0 0) []]:=by kernel_rfl
theorem gK :kQ Tryz.prog 42=some [.int .i64 0,.bool false,.int .i64 0,.str [],.own (.slice none 0 0) [],.own (.slice none 0 0) []]:=by kernel_rfl
theorem iO :kQ Tryz.prog 45=some [.int .i64 0,.str [],.int .i64 0,.bool false,.int .i64 0,.str [],.own (.slice none 0 0) [],.own (.slice none 0 0) [],.own (.slice none 0 0) [],.own (.slice none 0 0) []]:=by kernel_rfl
theorem MJ :kQ Tryz.prog 48=some [.str [],.int .i64 0,.str [],.int .i64 0,.bool false,.int .i64 0,.str [],.own (.slice none 0 0) [],.own (.slice none 0 0) [],.own (.slice none 0 0) [],.own (.slice none 0 0) []]:=by kernel_rfl
theorem MI :kQ Tryz.prog 54=some [.str [],.int .i64 0,.bool false,.int .i64 0,.str [],.own (.slice none 0 0) [],.own (.slice none 0 0) []]:=by kernel_rfl
theorem Jo :kQ Tryz.prog 61=some [.int .i64 0,.own (.slice none 0 0) []]:=by kernel_rfl
theorem TP :kQ Tryz.prog 63=some [.str [],.int .i64 0,.own (.slice none 0 0) [],.bool false,.int .i64 0,.bool false,.int .i64 0,.str [],.own (.slice none 0 0) [],.own (.slice none 0 0) []]:=by kernel_rfl
def FX :Facts:={ti:=[(3,false,1),(4,false,1),(5,false,1),(9,false,1),(22,false,1),(23,false,1),(25,false,1),(32,false,1),(34,true,1),(36,false,1),(38,true,4),(39,false,1),(40,false,1),(42,true,6),(43,false,1),(45,true,10),(48,true,11),(54,true,7),(59,false,1),(61,true,2),(63,true,10),(98,true,6),(176,false,1),(181,true,1),(189,true,12),(243,true,3),(252,false,1),(290,true,2),(292,true,2)],fo:=[(34,0,0),(38,0,0),(38,1,1),(38,2,2),(38,3,3),(42,0,0),(42,1,1),(42,2,2),(42,3,3),(42,4,4),(42,5,5),(45,0,0),(45,1,1),(45,2,2),(45,3,8),(45,4,9),(48,0,0),(48,1,1),(54,0,0),(54,1,1),(61,0,0),(61,1,1),(63,0,0),(63,1,1),(63,2,3),(63,3,4),(98,0,0),(98,1,1),(98,2,2),(103,0,0),(103,1,1),(103,2,2),(181,0,0),(189,0,0),(189,1,1),(189,2,2),(209,0,0),(209,1,1),(243,0,0),(243,1,1),(243,2,2),(283,0,0),(283,1,2),(290,0,0),(290,1,1),(292,0,0),(292,1,1)],fd:=[],str:=[]}
theorem bJ :FX.okB Tryz.prog=true:=by kernel_rfl
theorem cs {n:Nat} {all:Array Oper} {σ:List aV} {ds:List Deferred} {Q:Post} (k:Nat) {l l':List Oper} {env env':Env} (h:L_ FX all n k l env=some (env',l')) (hr:AR Tryz.prog n all l' env' σ ds Q):AR Tryz.prog n all l env σ ds Q:=AR.cs bJ k h hr
def FY :FB:=⟨{FX with ti:=FX.ti ++ [(3,false,1),(4,false,1),(9,false,1),(32,false,1),(34,true,1),(36,false,1),(38,true,4),(39,false,1),(40,false,1),(42,true,6),(43,false,1),(45,true,10),(48,true,11),(54,true,7),(59,false,1),(61,true,2),(63,true,10),(74,false,1),(176,false,1),(189,true,12),(197,true,8),(243,true,3),(283,true,3)]},[(34,[.own (.slice none 0 0) []]),(38,[.str [],.str [],.own (.slice none 0 0) [],.own (.slice none 0 0) []]),(42,[.int .i64 0,.bool false,.int .i64 0,.str [],.own (.slice none 0 0) [],.own (.slice none 0 0) []]),(45,[.int .i64 0,.str [],.int .i64 0,.bool false,.int .i64 0,.str [],.own (.slice none 0 0) [],.own (.slice none 0 0) [],.own (.slice none 0 0) [],.own (.slice none 0 0) []]),(48,[.str [],.int .i64 0,.str [],.int .i64 0,.bool false,.int .i64 0,.str [],.own (.slice none 0 0) [],.own (.slice none 0 0) [],.own (.slice none 0 0) [],.own (.slice none 0 0) []]),(54,[.str [],.int .i64 0,.bool false,.int .i64 0,.str [],.own (.slice none 0 0) [],.own (.slice none 0 0) []]),(61,[.int .i64 0,.own (.slice none 0 0) []]),(63,[.str [],.int .i64 0,.own (.slice none 0 0) [],.bool false,.int .i64 0,.bool false,.int .i64 0,.str [],.own (.slice none 0 0) [],.own (.slice none 0 0) []]),(98,[.str [],.own (.slice none 0 0) [],.str [],.str [],.own (.slice none 0 0) [],.own (.slice none 0 0) []]),(103,[.own (.slice none 0 0) [],.own (.slice none 0 0) [],.int .i64 0]),(181,[.int .i64 0]),(243,[.int .i64 0,.str [],.int .i64 0]),(283,[.int .u64 0,.int .u64 0,.bool false]),(292,[.int .i64 0,.int .i64 0])],[(34,[(0,1)]),(38,[(0,1),(1,1),(2,1),(3,1)]),(42,[(0,1),(1,1),(2,1),(3,1),(4,1),(5,1)]),(45,[(0,1),(1,1),(2,6),(8,1),(9,1)]),(48,[(0,1),(1,10)]),(54,[(0,1),(1,6)]),(61,[(0,1),(1,1)]),(63,[(0,1),(1,2),(3,1),(4,6)]),(98,[(0,1),(1,1),(2,4)]),(103,[(0,1),(1,1),(2,1)]),(181,[(0,1)]),(243,[(0,1),(1,1),(2,1)]),(283,[(0,2),(2,1)]),(292,[(0,1),(1,1)])]⟩
instance : FK Tryz.prog:=⟨FY,⟨by kernel_rfl,by kernel_rfl,by kernel_rfl⟩,[7,10,11,12,14,15,17,18,19,21,22,23,28,29,32,35,36,37,39,42,43,47,49,50,51,53,54,55,58,59,60,61,62,63,64,67,69,71,77,78,79,83,84,86,87,89,90,93,95,96,97,98,99,100,101,102,103,105,108,109,110,111,112,115,116,117,118,119,120,121,122,127,128,129,136,137,138,139,140,141,142,144,145,147,148,150,152,155,156,158,159,160,161,164,169,170,171,172,173,174,175,176,177,178,179,180,181,182,183,187,189,190,191,192,196,197,198,202,203,204,205,206,207,208,209,210,211,212,213,214,215,216,217,218,219,220,222,223,229,230,235,236,237,238,239,240,241,242,243,244,245,246,247,248,249,250,253,255,256,257,258,268,269,271,272,273,274,275,279,280,281,282,283,284,286,299,310,311,313,314,315,329,330,331,332,333,340,344,345,346,347,348,349],by kernel_rfl⟩
variable {τ : List aV} {Q : cO → List aV → Prop}
abbrev PC :=AC Tryz.prog
@[reducible] def iP (x:Int):PV:=.int .i64 x
@[reducible] def sP (x:List Str):PV:=.list (List.map l8 x)
@[reducible] def pP (b:Nat):PV:=.val (.pointer (some ⟨b,0,none⟩))
@[reducible] def dR (x:au):List PV:=[.str x.kind,.str x.name,.list (List.map aM.cells x.attrs),.list (au.aK x.blocks)]
@[reducible] def aL (x:ah):List PV:=[.int .i64 x.kind,.bool x.je,.int .i64 x.jm,.str x.iK,.list (ah.aK x.cu),.list (List.map l8 x.keys)]
@[reducible] def bE (x:aj):List PV:=[.int .i64 x.kind,.str x.name,.int .i64 x.value.kind,.bool x.value.je,.int .i64 x.value.jm,.str x.value.iK,.list (ah.aK x.value.cu),.list (List.map l8 x.value.keys),.list (aj.aK x.args),.list (List.map l8 x.keys)]
@[reducible] def abY (x:aM):List PV:=[.str x.name,.int .i64 x.expr.kind,.str x.expr.name,.int .i64 x.expr.value.kind,.bool x.expr.value.je,.int .i64 x.expr.value.jm,.str x.expr.value.iK,.list (ah.aK x.expr.value.cu),.list (List.map l8 x.expr.value.keys),.list (aj.aK x.expr.args),.list (List.map l8 x.expr.keys)]
@[reducible] def yI (x:aB):List PV:=[.str x.name,.int .i64 x.value.kind,.bool x.value.je,.int .i64 x.value.jm,.str x.value.iK,.list (ah.aK x.value.cu),.list (List.map l8 x.value.keys)]
@[reducible] def fK (x:aJ):List PV:=[.int .i64 x.kind,.list (aJ.aK x.elem)]
@[reducible] def wh (x:bN):List PV:=[.str x.name,.int .i64 x.H7.kind,.list (aJ.aK x.H7.elem),.bool x.has,.int .i64 x.default.kind,.bool x.default.je,.int .i64 x.default.jm,.str x.default.iK,.list (ah.aK x.default.cu),.list (List.map l8 x.default.keys)]
@[reducible] def zW (x:bq):List PV:=[.str x.name,.list (List.map bN.cells x.params),.str x.body.kind,.str x.body.name,.list (List.map aM.cells x.body.attrs),.list (au.aK x.body.blocks)]
@[reducible] def eD (x:aG):List PV:=[.list (List.map bq.cells x.templates),.list (List.map aB.cells x.env),.int .i64 x.uses]
@[reducible] def Af (x:aU):List PV:=[.str x.text,.bool x.WT,.int .i64 x.expr.kind,.str x.expr.name,.int .i64 x.expr.value.kind,.bool x.expr.value.je,.int .i64 x.expr.value.jm,.str x.expr.value.iK,.list (ah.aK x.expr.value.cu),.list (List.map l8 x.expr.value.keys),.list (aj.aK x.expr.args),.list (List.map l8 x.expr.keys)]
@[reducible] def vZ (x:aS):List PV:=[.int .i64 x.kind,.str x.text,.int .i64 x.at_]
@[reducible] def Ls (x:jl):List PV:=[.int .u64 ((x.half.getD 0 0).toNat:Int),.int .u64 ((x.half.getD 1 0).toNat:Int),.bool x.neg]
@[reducible] def aQ (x:ak):List PV:=[.list (List.map aS.cells x.ts),.int .i64 x.at_]
@[reducible] def jK (x:ay):List PV:=[.int .i64 x.at_,.int .i64 x.code]
theorem EH {b:Nat} {v p:Value} {bs:List UInt8} (hp:p=Value.pointer none∨p=.pointer (some ⟨b,0,none⟩)) {R:cO→List aV→Prop} (h:R (.ret (.tuple [])) [.j3 b 167 [.val (.pointer (some ⟨b,0,none⟩)),.own v (bs.map iJ)],.row v bs.length 1 5]):
    AC Tryz.prog 166 [.val (.pointer (some ⟨b,0,none⟩))] [.j3 b 167 [.val p,.own v (bs.map iJ)],.row v bs.length 1 5] R:=by
  obtain ⟨j,hj1,hj2⟩:=inB; rcases hp with rfl | rfl
  · skip
    refine AC.jA 20 [] [0] Tryz.func166 rfl rfl rfl rfl rfl ?_; refine AW.seq ?_; refine AW.region ?_; refine AR.step rfl rfl rfl (AO.calc' rfl ?_); refine AR.step rfl rfl rfl (AO.nilCheck rfl rfl ?_); refine AR.step rfl rfl rfl (AO.dh rfl rfl wX ?_); refine AR.step rfl rfl rfl (AO.jU (i:=0) rfl rfl rfl Dx rfl rfl ?_); refine AR.step rfl rfl rfl (AO.ME rfl Cg rfl rfl ?_); refine AR.nil [0,6] rfl ?_; refine AW.cond rfl (fun h1=>?_) (fun h1=>?_)
    · refine AW.region ?_; refine AR.step rfl rfl rfl (AO.calc' rfl ?_); refine AR.step rfl rfl rfl (AO.calc' rfl ?_); refine AR.step rfl rfl rfl (AO.UF (i:=0) rfl Cg Qn hj1 hj2 rfl rfl rfl ?_); refine AR.step rfl rfl rfl (AO.RS rfl rfl rfl rfl Tryz.func200 (by kernel_rfl) (by kernel_rfl) (by kernel_rfl) (by kernel_rfl) rfl ?_); refine AR.step rfl rfl rfl (AO.R5 (i:=0) rfl Qn Cg hj1 rfl rfl rfl abW ?_); refine AR.step rfl rfl rfl (AO.nilCheck rfl rfl ?_); refine AR.step rfl rfl rfl (AO.dh rfl rfl wX ?_); refine AR.bC rfl rfl (AO.qC (i:=0) rfl rfl rfl Dx rfl rfl rfl rfl rfl ?_); refine AR.nil [] rfl ?_; exact ⟨rfl,[],rfl,_,List.Sublist.refl _,h⟩
    · cases h1
  · skip
    refine AC.jA 20 [] [0] Tryz.func166 rfl rfl rfl rfl rfl ?_; refine AW.seq ?_; refine AW.region ?_; refine AR.step rfl rfl rfl (AO.calc' rfl ?_); refine AR.step rfl rfl rfl (AO.nilCheck rfl rfl ?_); refine AR.step rfl rfl rfl (AO.dh rfl rfl wX ?_); refine AR.step rfl rfl rfl (AO.jU (i:=0) rfl rfl rfl Dx rfl rfl ?_); refine AR.step rfl rfl rfl (AO.ME rfl Cg rfl rfl ?_); refine AR.nil [0,6] rfl ?_; refine AW.cond rfl (fun h1=>?_) (fun h1=>?_)
    · cases h1
    · refine AW.seq ?_; refine AW.region ?_; refine AR.step rfl rfl rfl (AO.calc' rfl ?_); refine AR.step rfl rfl rfl (AO.nilCheck rfl rfl ?_); refine AR.step rfl rfl rfl (AO.dh rfl rfl wX ?_); refine AR.step rfl rfl rfl (AO.jU (i:=0) rfl rfl rfl Dx rfl rfl ?_); refine AR.step rfl rfl rfl (AO.calc' rfl ?_); refine AR.step rfl rfl rfl (AO.JG rfl Cg hj1 rfl rfl ?_); refine AR.nil [19] rfl ?_; refine AW.cond rfl (fun h2=>?_) (fun h2=>?_)
      · cases h2
      · refine AW.skip ?_; exact ⟨rfl,[],rfl,_,List.Sublist.refl _,h⟩
theorem gV {b:Nat} {v:Value} {bs r:List UInt8} {c:UInt8} (hv:app bs [c]=some r) {R:cO→List aV→Prop} (h:∀ v',R (.ret (.val .nilIface)) [.Io b v' 167 5 r]):AC Tryz.prog 140 [.val (.pointer (some ⟨b,0,none⟩)),.int .u8 (c.toNat:Int)] [.Io b v 167 5 bs] R:=by
  refine AC.Io fun p hp hroom=>?_; refine AC.jA 17 [.tmp 4] [0,1] Tryz.func140 rfl rfl rfl rfl rfl ?_; refine AW.seq ?_; refine AW.region ?_; refine AR.step rfl rfl rfl (AO.calc' rfl ?_); refine AR.nil [0,1] rfl ?_; refine AW.seq ?_; refine AW.region ?_; refine AR.step rfl rfl rfl (AO.calc' rfl ?_); refine AR.step rfl rfl rfl (AO.call rfl _ rfl rfl Td (EH hp ?_)); refine AR.nil [0,1] rfl ?_; refine AW.seq ?_; refine AW.region ?_; refine AR.step rfl rfl rfl (AO.calc' rfl ?_); refine AR.step rfl rfl rfl (AO.calc' rfl ?_); refine AR.step rfl rfl rfl (AO.nilCheck rfl rfl ?_); refine AR.step rfl rfl rfl (AO.dh rfl rfl qb ?_); refine AR.step rfl rfl rfl (AO.jU (i:=0) rfl rfl rfl CV rfl rfl ?_); refine AR.step rfl rfl rfl (AO.calc' rfl ?_); refine AR.step rfl rfl rfl (AO.buildSlice rfl JA rfl rfl rfl ?_); refine AR.step rfl rfl rfl (AO.K_ (i:=1) hv rfl rfl rfl rfl rfl (Iq.list rfl Lx (by simp [iJ]) (by simp [iJ,PV.one])) rfl JA (fun v' s1 hs1 hr1=>?_)); cases hs1; refine AR.step rfl rfl rfl (AO.nilCheck rfl rfl ?_); refine AR.step rfl rfl rfl (AO.dh rfl rfl qb ?_); refine AR.bC rfl rfl (AO.qC (i:=0) rfl rfl rfl CV rfl rfl rfl rfl rfl ?_); refine AR.nil [1] rfl ?_; refine AW.seq ?_; refine AW.region ?_; refine AR.step rfl rfl rfl (AO.calc' rfl ?_); refine AR.nil [4] rfl ?_; refine AW.ret ?_; exact ⟨rfl,_,⟨_,_,rfl,rfl,rfl⟩,_,List.Sublist.refl _,_,v',r,rfl,.inr rfl,hr1 hroom,h v'⟩
theorem jd {b:Nat} {v:Value} {bs r:List UInt8} {s:List UInt8} (hv:app bs s=some r) {R:cO→List aV→Prop} (h:∀ v',R (.ret (.tuple [.int .i64 (s.length:Int),.val .nilIface])) [.Io b v' 167 5 r]):AC Tryz.prog 141 [.val (.pointer (some ⟨b,0,none⟩)),.str s] [.Io b v 167 5 bs] R:=by
  refine AC.Io fun p hp hroom=>?_; refine AC.jA 19 [.tmp 4,.tmp 5] [0,1] Tryz.func141 rfl rfl rfl rfl rfl ?_; refine AW.seq ?_; refine AW.region ?_; refine AR.step rfl rfl rfl (AO.calc' rfl ?_); refine AR.step rfl rfl rfl (AO.calc' rfl ?_); refine AR.nil [0,1] rfl ?_; refine AW.seq ?_; refine AW.region ?_; refine AR.step rfl rfl rfl (AO.calc' rfl ?_); refine AR.step rfl rfl rfl (AO.call rfl _ rfl rfl Td (EH hp ?_)); refine AR.nil [0,1] rfl ?_; refine AW.seq ?_; refine AW.region ?_; refine AR.step rfl rfl rfl (AO.calc' rfl ?_); refine AR.step rfl rfl rfl (AO.calc' rfl ?_); refine AR.step rfl rfl rfl (AO.nilCheck rfl rfl ?_); refine AR.step rfl rfl rfl (AO.dh rfl rfl qb ?_); refine AR.step rfl rfl rfl (AO.jU (i:=0) rfl rfl rfl CV rfl rfl ?_); refine AR.step rfl rfl rfl (AO.calc' rfl ?_); refine AR.step rfl rfl rfl (AO.K_ (i:=1) hv rfl rfl rfl rfl rfl (Iq.str eH) rfl JA (fun v' s1 hs1 hr1=>?_)); cases hs1; refine AR.step rfl rfl rfl (AO.nilCheck rfl rfl ?_); refine AR.step rfl rfl rfl (AO.dh rfl rfl qb ?_); refine AR.bC rfl rfl (AO.qC (i:=0) rfl rfl rfl CV rfl rfl rfl rfl rfl ?_); refine AR.nil [1] rfl ?_; refine AW.seq ?_; refine AW.region ?_; refine AR.step rfl rfl rfl (AO.calc' rfl ?_); refine AR.step rfl rfl rfl (AO.dO rfl rfl rfl rfl eH rfl ?_); refine AR.step rfl rfl rfl (AO.calc' rfl ?_); refine AR.step rfl rfl rfl (AO.calc' rfl ?_); refine AR.nil [4,5] rfl ?_; refine AW.ret ?_; exact ⟨rfl,_,⟨_,_,rfl,rfl,_,_,rfl,rfl,rfl⟩,_,List.Sublist.refl _,_,v',r,rfl,.inr rfl,hr1 hroom,h v'⟩
theorem P_ {b:Nat} {v:Value} {bs:List UInt8} {R:cO→List aV→Prop} (h:R (.ret (.int .i64 (bs.length:Int))) [.Io b v 167 5 bs]):AC Tryz.prog 156 [.val (.pointer (some ⟨b,0,none⟩))] [.Io b v 167 5 bs] R:=by
  refine AC.Io fun p hp hroom=>?_; refine AC.jA 8 [.tmp 2] [0] Tryz.func156 rfl rfl rfl rfl rfl ?_; refine AW.seq ?_; refine AW.region ?_; refine AR.step rfl rfl rfl (AO.calc' rfl ?_); refine AR.nil [0] rfl ?_; refine AW.seq ?_; refine AW.region ?_; refine AR.step rfl rfl rfl (AO.calc' rfl ?_); refine AR.step rfl rfl rfl (AO.nilCheck rfl rfl ?_); refine AR.step rfl rfl rfl (AO.dh rfl rfl qb ?_); refine AR.step rfl rfl rfl (AO.jU (i:=0) rfl rfl rfl CV rfl rfl ?_); refine AR.step rfl rfl rfl (AO.aT (l:=bs) rfl rfl rfl rfl Lx rfl rfl ?_); refine AR.step rfl rfl rfl (AO.calc' rfl ?_); refine AR.nil [2] rfl ?_; refine AW.ret ?_; exact ⟨rfl,_,⟨_,_,rfl,rfl,rfl⟩,_,List.Sublist.refl _,p,v,bs,rfl,hp,hroom,h⟩
theorem uz {b:Nat} {v:Value} {bs:List UInt8} {R:cO→List aV→Prop} (h:R (.ret (.str bs)) []):AC Tryz.prog 142 [.val (.pointer (some ⟨b,0,none⟩))] [.Io b v 167 5 bs] R:=by
  refine AC.Yx fun p hroom=>?_; refine AC.jA 14 [.tmp 2] [0] Tryz.func142 rfl rfl rfl rfl rfl ?_; refine AW.seq ?_; refine AW.region ?_; refine AR.step rfl rfl rfl (AO.calc' rfl ?_); refine AR.nil [0] rfl ?_; refine AW.seq ?_; refine AW.draw 10 mixed (by kernel_rfl) rfl ?_; refine Ev.cons rfl rfl rfl (AO.calc' rfl ⟨rfl,rfl⟩) ?_; refine Ev.cons rfl rfl rfl (AO.nilCheck rfl rfl ⟨rfl,rfl⟩) ?_; refine Ev.cons rfl rfl rfl (AO.dh rfl rfl qb ⟨rfl,rfl⟩) ?_; refine Ev.cons rfl rfl rfl (AO.jU (i:=0) rfl rfl rfl CV rfl rfl ⟨rfl,rfl⟩) ?_; refine Ev.cons rfl rfl rfl (AO.sliceData rfl rfl rfl rfl hroom ⟨rfl,rfl⟩) ?_; refine Ev.cons rfl rfl rfl (AO.calc' rfl ⟨rfl,rfl⟩) ?_; refine Ev.cons rfl rfl rfl (AO.nilCheck rfl rfl ⟨rfl,rfl⟩) ?_; refine Ev.cons rfl rfl rfl (AO.dh rfl rfl qb ⟨rfl,rfl⟩) ?_; refine Ev.cons rfl rfl rfl (AO.jU (i:=0) rfl rfl rfl CV rfl rfl ⟨rfl,rfl⟩) ?_; refine Ev.cons rfl rfl rfl (AO.aT (l:=bs) rfl rfl rfl rfl Lx rfl rfl ⟨rfl,rfl⟩) ?_; refine Ev.nil ?_; show AR _ _ _ _ _ _ _ _; refine AR.step rfl rfl rfl (AO.unsafeString rfl rfl rfl rfl VI acu rfl rfl rfl ?_); refine AR.step rfl rfl rfl (AO.calc' rfl ?_); refine AR.nil [2] rfl ?_; refine AW.ret ?_; exact ⟨rfl,_,⟨_,_,rfl,rfl,rfl⟩,[],List.nil_sublist _,h⟩
theorem OB {b:Nat} {q:PV} {v p:Value} {bs:List UInt8} (hp:p=Value.pointer none∨p=.pointer (some ⟨b,1,none⟩)) {R:cO→List aV→Prop} (h:R (.ret (.tuple [])) [.row v (List.length bs) 1 5,.j3 b 209 [q,.val (.pointer (some ⟨b,1,none⟩)),.own v (List.map iJ bs)]]):
    AC Tryz.prog 166 [.val (.pointer (some ⟨b,1,none⟩))] [.row v (List.length bs) 1 5,.j3 b 209 [q,.val p,.own v (List.map iJ bs)]] R:=by
  obtain ⟨j,hj1,hj2⟩:=inB; rcases hp with rfl | rfl
  · skip
    refine AC.jA 20 [] [0] Tryz.func166 rfl rfl rfl rfl rfl ?_; refine AW.seq ?_; refine AW.region ?_; refine AR.step rfl rfl rfl (AO.calc' rfl ?_); refine AR.step rfl rfl rfl (AO.nilCheck rfl rfl ?_); refine AR.step rfl rfl rfl (AO.dh rfl rfl wX ?_); refine AR.step rfl rfl rfl (AO.jU (i:=1) rfl rfl rfl Dx rfl rfl ?_); refine AR.step rfl rfl rfl (AO.ME rfl Cg rfl rfl ?_); refine AR.nil [0,6] rfl ?_; refine AW.cond rfl (fun h1=>?_) (fun h1=>?_)
    · refine AW.region ?_; refine AR.step rfl rfl rfl (AO.calc' rfl ?_); refine AR.step rfl rfl rfl (AO.calc' rfl ?_); refine AR.step rfl rfl rfl (AO.SX (i:=1) (n:=1) rfl Cg Qn hj1 hj2 rfl rfl rfl ?_); refine AR.step rfl rfl rfl (AO.RS rfl rfl rfl rfl Tryz.func200 (by kernel_rfl) (by kernel_rfl) (by kernel_rfl) (by kernel_rfl) rfl ?_); refine AR.step rfl rfl rfl (AO.QI (i:=1) rfl Qn Cg hj1 rfl rfl rfl abV ?_); refine AR.step rfl rfl rfl (AO.nilCheck rfl rfl ?_); refine AR.step rfl rfl rfl (AO.dh rfl rfl wX ?_); refine AR.bC rfl rfl (AO.qC (i:=1) rfl rfl rfl Dx rfl rfl rfl rfl rfl ?_); refine AR.nil [] rfl ?_; exact ⟨rfl,[],rfl,_,List.Sublist.refl _,h⟩
    · cases h1
  · skip
    refine AC.jA 20 [] [0] Tryz.func166 rfl rfl rfl rfl rfl ?_; refine AW.seq ?_; refine AW.region ?_; refine AR.step rfl rfl rfl (AO.calc' rfl ?_); refine AR.step rfl rfl rfl (AO.nilCheck rfl rfl ?_); refine AR.step rfl rfl rfl (AO.dh rfl rfl wX ?_); refine AR.step rfl rfl rfl (AO.jU (i:=1) rfl rfl rfl Dx rfl rfl ?_); refine AR.step rfl rfl rfl (AO.ME rfl Cg rfl rfl ?_); refine AR.nil [0,6] rfl ?_; refine AW.cond rfl (fun h1=>?_) (fun h1=>?_)
    · cases h1
    · refine AW.seq ?_; refine AW.region ?_; refine AR.step rfl rfl rfl (AO.calc' rfl ?_); refine AR.step rfl rfl rfl (AO.nilCheck rfl rfl ?_); refine AR.step rfl rfl rfl (AO.dh rfl rfl wX ?_); refine AR.step rfl rfl rfl (AO.jU (i:=1) rfl rfl rfl Dx rfl rfl ?_); refine AR.step rfl rfl rfl (AO.calc' rfl ?_); refine AR.step rfl rfl rfl (AO.JG rfl Cg hj1 rfl rfl ?_); refine AR.nil [19] rfl ?_; refine AW.cond rfl (fun h2=>?_) (fun h2=>?_)
      · cases h2
      · refine AW.skip ?_; exact ⟨rfl,[],rfl,_,List.Sublist.refl _,h⟩
theorem Gq {b:Nat} {q:PV} {v p:Value} {bs r:List UInt8} (hp:p=Value.pointer none∨p=.pointer (some ⟨b,1,none⟩)) (hroom:roomy v=true) {c:UInt8} (hv:app bs [c]=some r) {R:cO→List aV→Prop} (h:∀ v',roomy v'=true→R (.ret (.val .nilIface)) [.row v' (List.length r) 1 5,.j3 b 209 [q,.val (.pointer (some ⟨b,1,none⟩)),.own v' (List.map iJ r)]]):AC Tryz.prog 140 [.val (.pointer (some ⟨b,1,none⟩)),.int .u8 (c.toNat:Int)] [.row v (List.length bs) 1 5,.j3 b 209 [q,.val p,.own v (List.map iJ bs)]] R:=by
  refine AC.jA 17 [.tmp 4] [0,1] Tryz.func140 rfl rfl rfl rfl rfl ?_; refine AW.seq ?_; refine AW.region ?_; refine AR.step rfl rfl rfl (AO.calc' rfl ?_); refine AR.nil [0,1] rfl ?_; refine AW.seq ?_; refine AW.region ?_; refine AR.step rfl rfl rfl (AO.calc' rfl ?_); refine AR.step rfl rfl rfl (AO.call rfl _ rfl rfl Td (OB hp ?_)); refine AR.nil [0,1] rfl ?_; refine AW.seq ?_; refine AW.region ?_; refine AR.step rfl rfl rfl (AO.calc' rfl ?_); refine AR.step rfl rfl rfl (AO.calc' rfl ?_); refine AR.step rfl rfl rfl (AO.nilCheck rfl rfl ?_); refine AR.step rfl rfl rfl (AO.dh rfl rfl qb ?_); refine AR.step rfl rfl rfl (AO.jU (i:=1) rfl rfl rfl CV rfl rfl ?_); refine AR.step rfl rfl rfl (AO.calc' rfl ?_); refine AR.step rfl rfl rfl (AO.buildSlice rfl JA rfl rfl rfl ?_); refine AR.step rfl rfl rfl (AO.K_ (i:=0) hv rfl rfl rfl rfl rfl (Iq.list rfl Lx (by simp [iJ]) (by simp [iJ,PV.one])) rfl JA (fun v' s1 hs1 hr1=>?_)); cases hs1; refine AR.step rfl rfl rfl (AO.nilCheck rfl rfl ?_); refine AR.step rfl rfl rfl (AO.dh rfl rfl qb ?_); refine AR.bC rfl rfl (AO.qC (i:=1) rfl rfl rfl CV rfl rfl rfl rfl rfl ?_); refine AR.nil [1] rfl ?_; refine AW.seq ?_; refine AW.region ?_; refine AR.step rfl rfl rfl (AO.calc' rfl ?_); refine AR.nil [4] rfl ?_; refine AW.ret ?_; exact ⟨rfl,_,⟨_,_,rfl,rfl,rfl⟩,_,List.Sublist.refl _,h v' (hr1 hroom)⟩
theorem Xj {b:Nat} {q:PV} {v p:Value} {bs:List UInt8} {R:cO→List aV→Prop} (h:R (.ret (.int .i64 (bs.length:Int))) [.row v (List.length bs) 1 5,.j3 b 209 [q,.val p,.own v (List.map iJ bs)]]):AC Tryz.prog 156 [.val (.pointer (some ⟨b,1,none⟩))] [.row v (List.length bs) 1 5,.j3 b 209 [q,.val p,.own v (List.map iJ bs)]] R:=by
  refine AC.jA 8 [.tmp 2] [0] Tryz.func156 rfl rfl rfl rfl rfl ?_; refine AW.seq ?_; refine AW.region ?_; refine AR.step rfl rfl rfl (AO.calc' rfl ?_); refine AR.nil [0] rfl ?_; refine AW.seq ?_; refine AW.region ?_; refine AR.step rfl rfl rfl (AO.calc' rfl ?_); refine AR.step rfl rfl rfl (AO.nilCheck rfl rfl ?_); refine AR.step rfl rfl rfl (AO.dh rfl rfl qb ?_); refine AR.step rfl rfl rfl (AO.jU (i:=1) rfl rfl rfl CV rfl rfl ?_); refine AR.step rfl rfl rfl (AO.aT (l:=bs) rfl rfl rfl rfl Lx rfl rfl ?_); refine AR.step rfl rfl rfl (AO.calc' rfl ?_); refine AR.nil [2] rfl ?_; refine AW.ret ?_; exact ⟨rfl,_,⟨_,_,rfl,rfl,rfl⟩,_,List.Sublist.refl _,h⟩
theorem Sr {b:Nat} {q:PV} {v p:Value} {bs:List UInt8} (hroom:roomy v=true) {R:cO→List aV→Prop} (h:R (.ret (.str bs)) [.j3 b 209 [q,.val p,.own v (List.map iJ bs)]]):AC Tryz.prog 142 [.val (.pointer (some ⟨b,1,none⟩))] [.row v (List.length bs) 1 5,.j3 b 209 [q,.val p,.own v (List.map iJ bs)]] R:=by
  refine AC.jA 14 [.tmp 2] [0] Tryz.func142 rfl rfl rfl rfl rfl ?_; refine AW.seq ?_; refine AW.region ?_; refine AR.step rfl rfl rfl (AO.calc' rfl ?_); refine AR.nil [0] rfl ?_; refine AW.seq ?_; refine AW.draw 10 mixed (by kernel_rfl) rfl ?_; refine Ev.cons rfl rfl rfl (AO.calc' rfl ⟨rfl,rfl⟩) ?_; refine Ev.cons rfl rfl rfl (AO.nilCheck rfl rfl ⟨rfl,rfl⟩) ?_; refine Ev.cons rfl rfl rfl (AO.dh rfl rfl qb ⟨rfl,rfl⟩) ?_; refine Ev.cons rfl rfl rfl (AO.jU (i:=1) rfl rfl rfl CV rfl rfl ⟨rfl,rfl⟩) ?_; refine Ev.cons rfl rfl rfl (AO.sliceData rfl rfl rfl rfl hroom ⟨rfl,rfl⟩) ?_; refine Ev.cons rfl rfl rfl (AO.calc' rfl ⟨rfl,rfl⟩) ?_; refine Ev.cons rfl rfl rfl (AO.nilCheck rfl rfl ⟨rfl,rfl⟩) ?_; refine Ev.cons rfl rfl rfl (AO.dh rfl rfl qb ⟨rfl,rfl⟩) ?_; refine Ev.cons rfl rfl rfl (AO.jU (i:=1) rfl rfl rfl CV rfl rfl ⟨rfl,rfl⟩) ?_; refine Ev.cons rfl rfl rfl (AO.aT (l:=bs) rfl rfl rfl rfl Lx rfl rfl ⟨rfl,rfl⟩) ?_; refine Ev.nil ?_; show AR _ _ _ _ _ _ _ _; refine AR.step rfl rfl rfl (AO.OV rfl rfl rfl rfl VI acu rfl rfl rfl ?_); refine AR.step rfl rfl rfl (AO.calc' rfl ?_); refine AR.nil [2] rfl ?_; refine AW.ret ?_; exact ⟨rfl,_,⟨_,_,rfl,rfl,rfl⟩,_,List.Sublist.refl _,h⟩
theorem OC {b:Nat} {q:PV} {v p:Value} {bs:List UInt8} {R:cO→List aV→Prop} (h:R (.ret (.tuple [])) [.j3 b 209 [q,.val (.pointer none),.own (.slice none 0 0) (List.map iJ [])]]):AC Tryz.prog 221 [.val (.pointer (some ⟨b,1,none⟩))] [.j3 b 209 [q,.val p,.own v (List.map iJ bs)]] R:=by
  refine AC.jA 8 [] [0] Tryz.func221 rfl rfl rfl rfl rfl ?_; refine AW.seq ?_; refine AW.region ?_; refine AR.step rfl rfl rfl (AO.calc' rfl ?_); refine AR.step rfl rfl rfl (AO.nilCheck rfl rfl ?_); refine AR.step rfl rfl rfl (AO.dh rfl rfl wX ?_); refine AR.bC rfl rfl (AO.qC (i:=0) rfl rfl rfl Dx rfl rfl rfl rfl rfl ?_); refine AR.nil [0] rfl ?_; refine AW.region ?_; refine AR.step rfl rfl rfl (AO.calc' rfl ?_); refine AR.step rfl rfl rfl (AO.nilCheck rfl rfl ?_); refine AR.step rfl rfl rfl (AO.dh rfl rfl qb ?_); refine AR.bC rfl rfl (AO.qC (i:=0) rfl rfl rfl CV rfl rfl rfl rfl rfl ?_); refine AR.nil [] rfl ?_; exact ⟨rfl,[],rfl,_,List.Sublist.refl _,h⟩
abbrev Iy (nN:Int→Option Str):Prop:=∀ (L6:Int) {bf:Str},nN L6=some bf→∀ {τ:List aV} {Q:cO→List aV→Prop} (h:Q (.ret (.str bf)) τ),PC 10 [iP L6] τ Q
theorem OQ (nN) (Ew:Iy nN) (n1:Int) {r0:Str} (hf:Cm nN n1=some r0) (h:Q (.ret (.str r0)) τ):PC 10 [iP n1] τ Q:=by
 unfold Cm at hf; refine BN 40 [.tmp 2] [0] Tryz.func10 Z Z Z Z Z (V 3 Z (C hf Z (fun h1 hf=>?_) fun h1 hf=>?_))
 ·
  refine V 2 Z (C hf Z (fun h2 hf=>?_) fun h2 hf=>?_)
  · refine W 2 Z (AS Z (AO.Df Z EO Du Z (AS Z (AO.bD (List.map iJ ([(Ft.byteOf (dG (48 - n1)))]:List UInt8)) Z JA Z Z Z Z (AS Z (AO.GY Z Ru Du eH Z Z ?_)))))); refine BR hf fun x1 h3 hf=>?_; refine AS Z (AO.mX h3 Z Z Z ?_); cases hf; exact N 1 Z (Y Z h)
  refine V 0 Z (AW.draw 11 mixed (by kernel_rfl) Z ?_); refine Ev.cs bJ 1 Z (Ev.cons Z Z Z (AO.quo Z Z Z (by decide) zg) ?_); refine B1 hf fun x2 h4 hf=>Ev.cons Z Z Z (AO.call Z _ Z Z YX (Ew _ h4 zg)) (Ev.cs bJ 1 Z (Ev.cons Z Z Z (AO.rem Z Z Z (by decide) zg) ?_)); refine Ev.cs bJ 1 Z (Ev.cons Z Z Z (AO.Df Z EO Du Z zg) (Ev.cons Z Z Z (AO.bD (List.map iJ ([(Ft.byteOf (dG (48 - ((n1:Int).tmod 10))))]:List UInt8)) Z JA Z Z Z Z zg) (Ev.cons Z Z Z (AO.GY Z Ru Du eH Z Z zg) ?_))); refine BR hf fun x3 h5 hf=>?_; refine Ev.cons Z Z Z (AO.mX h5 Z Z Z zg) (Ev.cs bJ 1 Z (Ev.nil ?_)); show AR _ _ _ _ _ _ _ _; cases hf; exact N 0 Z (Y Z h)
 refine V 2 Z (C hf Z (fun h6 hf=>?_) fun h6 hf=>?_)
 · refine W 2 Z (AS Z (AO.Df Z EO Du Z (AS Z (AO.bD (List.map iJ ([(Ft.byteOf (dG (48 + n1)))]:List UInt8)) Z JA Z Z Z Z (AS Z (AO.GY Z Ru Du eH Z Z ?_)))))); cases hf; exact N 1 Z (Y Z h)
 refine V 0 Z (AW.draw 11 mixed (by kernel_rfl) Z ?_); refine Ev.cs bJ 1 Z (Ev.cons Z Z Z (AO.quo Z Z Z (by decide) zg) ?_); refine B1 hf fun x4 h7 hf=>Ev.cons Z Z Z (AO.call Z _ Z Z YX (Ew _ h7 zg)) (Ev.cs bJ 1 Z (Ev.cons Z Z Z (AO.rem Z Z Z (by decide) zg) ?_)); refine Ev.cs bJ 1 Z (Ev.cons Z Z Z (AO.Df Z EO Du Z zg) (Ev.cons Z Z Z (AO.bD (List.map iJ ([(Ft.byteOf (dG (48 + ((n1:Int).tmod 10))))]:List UInt8)) Z JA Z Z Z Z zg) (Ev.cons Z Z Z (AO.GY Z Ru Du eH Z Z zg) ?_))); refine BR hf fun x5 h8 hf=>?_; refine Ev.cons Z Z Z (AO.mX h8 Z Z Z zg) (Ev.cs bJ 1 Z (Ev.nil ?_)); show AR _ _ _ _ _ _ _ _; cases hf; exact N 0 Z (Y Z h)
theorem O1 :∀ k:Nat,(Iy (uV k)):=by
 intro k
 induction k with
 | zero=>exact fun _ _ hz=>by first | cases hz | (unfold uV at hz; cases hz)
 | succ k ih=>exact fun L6 bf hz τ Q hq=>OQ (uV k) ih L6 hz hq
theorem Ih (L6:Int) {bf:Str} (hf:vX L6=some bf) (h:Q (.ret (.str bf)) τ):PC 10 [iP L6] τ Q:=
 ((O1 BIG)) L6 hf h
theorem Ou (s1:Str) {r0:aj} (hf:JO s1=some r0) (h:Q (.ret (.agg (bE r0))) τ):PC 11 [.str s1] τ Q:=by
 unfold JO at hf; refine BN 5 [.cell 2 45] [0] Tryz.func11 Z Z Z Z Z (W 0 Z (AS Z (AO.aC Z iO (fun b2=>?_)))); cases hf; exact Rx 3 [0] Z Z (ZC [0] Z Z h)
abbrev Gw (jP:aj→Option Int):Prop:=∀ (jN:aj) {bf:Int},jP jN=some bf→∀ {τ:List aV} {Q:cO→List aV→Prop} (h:Q (.ret (iP bf)) τ),PC 59 [.agg (bE jN)] τ Q
theorem MU (jP) (KO:Gw jP) (e1:aj) {r0:Int} (hf:Aw jP e1=some r0) (h:Q (.ret (iP r0)) τ):PC 59 [.agg (bE e1)] τ Q:=by
 unfold Aw at hf; refine BN 19 [.tmp 2] [0] Tryz.func59 Z Z Z Z Z (W 5 Z (AS Z (AO.aT (l:=e1.args) Z Z Z Z iQ Z (aj.aA _) (J 1 Z (Vn (fun n1 x1=>[(3,iP n1),(7,.list (aj.aK e1.args)),(8,iP (e1.args.length:Int)),(9,iP x1)]) (fun n1 x1=>[]) (fun b_ n1 x1=>vF jP e1 b_ n1 x1=some r0) BIG 1 0 Z Z hf (fun _ _ hz=>bU hz) ?_))))); intro b_ n1 x1 hf; rw [vF] at hf; refine V 1 Z (C hf Z (fun h1 hf=>?_) fun h1 hf=>?_)
 · refine B1 hf fun e2 h2 hf=>W 0 Z (AS Z (AO.aZ h2 Z Z (aj.aA _) Z iQ (aj.aF _) Z (U 1 Z (AS Z (AO.aC Z iO (fun b5=>?_)))))); refine B1 hf fun x2 h3 hf=>Rr 3 [0,0] Z Z (CL Z (KO _ h3 (fZ 4 Z (AR.drop1 ?_)))); exact N 0 Z ⟨(dG (n1 + x2)),(dG (x1 + 1)),Z,Z,Z,hf⟩
 cases hf; exact M 2 Z (Y Z h)
theorem Nt :∀ k:Nat,(Gw (sM k)):=by
 intro k
 induction k with
 | zero=>exact fun _ _ hz=>by first | cases hz | (unfold sM at hz; cases hz)
 | succ k ih=>exact fun jN bf hz τ Q hq=>MU (sM k) ih jN hz hq
theorem Oi (jN:aj) {bf:Int} (hf:JI jN=some bf) (h:Q (.ret (iP bf)) τ):PC 59 [.agg (bE jN)] τ Q:=
 ((Nt BIG)) jN hf h
theorem Pj (v1:ah) {r0:Bool} (hf:FC v1=some r0) (h:Q (.ret (.bool r0)) τ):PC 132 [.agg (aL v1)] τ Q:=by
 unfold FC at hf; refine BN 33 [.tmp 2] [0] Tryz.func132 Z Z Z Z Z (W 6 Z (An 4 6 10 [1] (!v1.je) Z Z Z Z (U 1 Z (An 4 11 15 [1] (v1.jm == 0) Z Z Z Z (U 1 Z (An 4 16 20 [1] (v1.iK == ([]:Str)) Z Z Z Z ?_)))))); refine U 1 Z (AR.and 5 21 26 [1] (x:=((v1.cu.length:Int) == 0)) Z Z (fun h4=>?_) (fun h4=>?_) ?_)
 · refine Is 21 h4 Z (U 2 Z (GO Z (AO.aT (l:=v1.cu) Z Z Z Z iR Z (ah.aA _) ?_))); exact fZ 2 Z (En [26,1] Z)
 · refine Is 21 h4 Z ?_; exact fZ 5 Z (En [26,1] Z)
 refine U 1 Z (AR.and 5 27 32 [] (x:=((v1.keys.length:Int) == 0)) Z Z (fun h5=>?_) (fun h5=>?_) ?_)
 · refine Is 27 h5 Z (U 2 Z (GO Z (AO.aT (l:=v1.keys) Z Z Z Z jZ Z Z ?_))); exact fZ 2 Z (En [32] Z)
 · refine Is 27 h5 Z ?_; exact fZ 5 Z (En [32] Z)
 cases hf; exact N 1 Z (Y Z h)
theorem ED (c1:UInt8) {r0:Bool} (hf:yG c1=some r0) (h:Q (.ret (.bool r0)) τ):PC 229 [.int .u8 (c1.toNat:Int)] τ Q:=by
 unfold yG at hf; refine BN 21 [.tmp 2] [0] Tryz.func229 Z Z Z Z Z (W 4 Z (An 3 5 8 [0] (decide ((c1.toNat:Int)≤122)) Z Z Z Z (U 1 Z (AR.or 7 9 16 [0] (x:=((decide (65≤(c1.toNat:Int))) && (decide ((c1.toNat:Int)≤90)))) Z Z (fun h2=>?_) (fun h2=>?_) ?_))))
 · refine Is 9 h2 Z (U 3 Z (An 3 12 15 [0,9] (decide ((c1.toNat:Int)≤90)) Z Z Z Z ?_)); exact fZ 1 Z (En [16,0] Z)
 · refine Is 9 h2 Z ?_; exact fZ 7 Z (En [16,0] Z)
 refine U 1 Z (On 3 17 20 [] ((c1.toNat:Int) == 95) Z Z Z Z ?_); cases hf; exact N 1 Z (Y Z h)
theorem Gh (c1:UInt8) {r0:Bool} (hf:zU c1=some r0) (h:Q (.ret (.bool r0)) τ):PC 230 [.int .u8 (c1.toNat:Int)] τ Q:=by
 unfold zU at hf; refine BN 9 [.tmp 2] [0] Tryz.func230 Z Z Z Z Z (W 4 Z (An 3 5 8 [] (decide ((c1.toNat:Int)≤57)) Z Z Z Z ?_)); cases hf; exact N 1 Z (Y Z h)
theorem Ii (s1:Str) {r0:Bool} (hf:BH s1=some r0) (h:Q (.ret (.bool r0)) τ):PC 196 [.str s1] τ Q:=by
 unfold BH at hf; refine BN 36 [.tmp 2] [0] Tryz.func196 Z Z Z Z Z (W 2 Z (AS Z (AO.dO Z Z Z Z eH Z (U 2 Z (AR.or 4 7 11 [0] (x:=(decide (64 < (s1.length:Int)))) Z Z (fun h1=>?_) (fun h1=>?_) ?_)))))
 · refine Is 7 h1 Z (U 1 Z (GO Z (AO.dO Z Z Z Z eH Z ?_))); exact fZ 2 Z (En [11,0] Z)
 · refine Is 7 h1 Z ?_; exact fZ 4 Z (En [11,0] Z)
 refine B1 hf fun b1 h3 hf=>U 1 Z (AR.gI 5 12 17 false [0] b1 Z Z (fun h2=>?_) (fun h2=>?_) ?_)
 · refine IF 12 h2 h3 Z fun h3=>?_; refine B1 h3 fun x1 h4 h3=>U 1 Z (GO Z (AO.gZ h4 Z eH Z Z ?_)); refine B1 h3 fun x2 h5 h3=>GO Z (AO.call Z _ Z Z Zy (ED _ h5 ?_)); cases h3; exact fZ 2 Z (En [17,0] Z)
 · refine IT 12 h2 h3 Z fun h3=>?_; cases h3; exact fZ 5 Z (En [17,0] Z)
 refine J 0 Z (C hf Z (fun h6 hf=>?_) fun h6 hf=>?_)
 · cases hf; exact M 1 Z (Y Z h)
 refine V 1 Z (Kl (fun i1=>[(0,.str s1),(3,iP i1)]) (fun i1=>[]) (fun b_ i1=>wM s1 b_ i1=some r0) BIG 0 Z Z hf (fun _ hz=>bU hz) ?_); intro b_ i1 hf; rw [wM] at hf; refine W 2 Z (AS Z (AO.dO Z Z Z Z eH Z (J 1 Z (C hf Z (fun h7 hf=>?_) fun h7 hf=>?_))))
 ·
  refine B1 hf fun x3 h8 hf=>W 2 Z (AS Z (AO.gZ h8 Z eH Z Z ?_)); refine B1 hf fun x4 h9 hf=>CL Z (ED _ h9 ?_); refine B1 hf fun b2 h11 hf=>U 2 Z (AR.gI 6 29 35 true [0,3] b2 Z Z (fun h10=>?_) (fun h10=>?_) ?_)
  · refine IT 29 h10 h11 Z fun h11=>?_; refine B1 h11 fun x5 h12 h11=>U 2 Z (GO Z (AO.gZ h12 Z eH Z Z ?_)); refine B1 h11 fun x6 l6 h11=>GO Z (AO.call Z _ Z Z Zx (Gh _ l6 ?_)); cases h11; exact fZ 2 Z (En [35,0,3] Z)
  · refine IF 29 h10 h11 Z fun h11=>?_; cases h11; exact fZ 6 Z (En [35,0,3] Z)
  refine J 0 Z (C hf Z (fun lH hf=>?_) fun lH hf=>?_)
  · cases hf; exact M 1 Z (Y Z h)
  exact M 3 Z ⟨(dG (i1 + 1)),Z,Z,Z,hf⟩
 cases hf; exact M 1 Z (Y Z h)
theorem CO (s1:Str) {r0:Bool} (hf:yS s1=some r0) (h:Q (.ret (.bool r0)) τ):PC 197 [.str s1] τ Q:=by
 unfold yS at hf; refine BN 13 [.tmp 2] [0] Tryz.func197 Z Z Z Z Z (W 4 Z (On 3 5 8 [0] (s1 == ([102,97,108,115,101]:Str)) Z Z Z Z (U 1 Z (On 3 9 12 [] (s1 == ([110,117,108,108]:Str)) Z Z Z Z ?_)))); cases hf; exact N 1 Z (Y Z h)
theorem Bf (s1:Str) {r0:Bool} (hf:wL s1=some r0) (h:Q (.ret (.bool r0)) τ):PC 161 [.str s1] τ Q:=by
 unfold wL at hf; refine BN 10 [.tmp 2] [0] Tryz.func161 Z Z Z Z Z ?_; refine B1 hf fun x1 h1 hf=>W 2 Z (CL Z (Ii _ h1 ?_)); refine BR hf fun b1 h3 hf=>?_; refine U 1 Z (AR.gI 4 5 9 true [] b1 Z Z (fun h2=>?_) (fun h2=>?_) ?_)
 · refine IT 5 h2 h3 Z fun h3=>?_; refine B1 h3 fun x2 h4 h3=>U 1 Z (GO Z (AO.call Z _ Z Z Wp (CO _ h4 ?_))); cases h3; exact fZ 2 Z (En [9] Z)
 · refine IF 5 h2 h3 Z fun h3=>?_; cases h3; exact fZ 4 Z (En [9] Z)
 cases hf; exact N 1 Z (Y Z h)
theorem rT (op1:Str) {r0:Int} (hf:ow op1=some r0) (h:Q (.ret (iP r0)) τ):PC 64 [.str op1] τ Q:=by
 unfold ow at hf; refine BN 22 [.tmp 2] [0] Tryz.func64 Z Z Z Z Z (V 4 Z (C hf Z (fun h1 hf=>?_) fun h1 hf=>?_))
 · cases hf; exact M 1 Z (Y Z h)
 refine V 2 Z (C hf Z (fun h2 hf=>?_) fun h2 hf=>?_)
 · cases hf; exact M 1 Z (Y Z h)
 refine V 2 Z (C hf Z (fun h3 hf=>?_) fun h3 hf=>?_)
 ·
  refine V 0 Z (AW.cond Z (fun h4=>?_) (fun h4=>?_))
  · cases hf; exact M 1 Z (Y Z h)
  cases h3.symm.trans h4
 refine V 2 Z (C hf Z (fun h5 hf=>?_) fun h5 hf=>?_)
 ·
  refine V 0 Z (AW.cond Z (fun h6=>?_) (fun h6=>?_))
  · cases hf; exact M 1 Z (Y Z h)
  cases h5.symm.trans h6
 refine V 2 Z (C hf Z (fun h7 hf=>?_) fun h7 hf=>?_)
 ·
  refine V 0 Z (AW.cond Z (fun h8=>?_) (fun h8=>?_))
  · cases hf; exact M 1 Z (Y Z h)
  cases h7.symm.trans h8
 refine V 2 Z (C hf Z (fun h9 hf=>?_) fun h9 hf=>?_)
 ·
  refine V 0 Z (AW.cond Z (fun h10=>?_) (fun h10=>?_))
  · cases hf; exact M 1 Z (Y Z h)
  cases h9.symm.trans h10
 refine V 2 Z (C hf Z (fun h11 hf=>?_) fun h11 hf=>?_)
 ·
  refine V 0 Z (AW.cond Z (fun h12=>?_) (fun h12=>?_))
  · cases hf; exact M 1 Z (Y Z h)
  cases h11.symm.trans h12
 refine V 2 Z (C hf Z (fun l6 hf=>?_) fun l6 hf=>?_)
 · cases hf; exact M 1 Z (Y Z h)
 refine V 2 Z (C hf Z (fun lH hf=>?_) fun lH hf=>?_)
 ·
  refine V 0 Z (AW.cond Z (fun rO=>?_) (fun rO=>?_))
  · cases hf; exact M 1 Z (Y Z h)
  cases lH.symm.trans rO
 refine V 2 Z (C hf Z (fun h16 hf=>?_) fun h16 hf=>?_)
 · cases hf; exact M 1 Z (Y Z h)
 refine V 2 Z (C hf Z (fun xM hf=>?_) fun xM hf=>?_)
 ·
  refine V 0 Z (AW.cond Z (fun h18=>?_) (fun h18=>?_))
  · cases hf; exact M 1 Z (Y Z h)
  cases xM.symm.trans h18
 refine V 2 Z (C hf Z (fun h19 hf=>?_) fun h19 hf=>?_)
 ·
  refine V 0 Z (AW.cond Z (fun h20=>?_) (fun h20=>?_))
  · cases hf; exact M 1 Z (Y Z h)
  cases h19.symm.trans h20
 refine V 2 Z (C hf Z (fun h21 hf=>?_) fun h21 hf=>?_)
 · cases hf; exact M 1 Z (Y Z h)
 cases hf; exact M 1 Z (Y Z h)
theorem Oc (e1:aj) {r0:Bool} (hf:DF e1=some r0) (h:Q (.ret (.bool r0)) τ):PC 133 [.agg (bE e1)] τ Q:=by
 unfold DF at hf; refine BN 31 [.tmp 2] [0] Tryz.func133 Z Z Z Z Z (V 6 Z (C hf Z (fun h1 hf=>?_) fun h1 hf=>?_))
 ·
  refine V 0 Z (AW.cond Z (fun h2=>?_) (fun h2=>?_))
  · refine BR hf fun x1 h3 hf=>?_; refine W 2 Z (CL Z (Bf _ h3 ?_)); cases hf; exact N 1 Z (Y Z h)
  cases h1.symm.trans h2
 refine V 2 Z (C hf Z (fun h4 hf=>?_) fun h4 hf=>?_)
 ·
  refine V 0 Z (AW.cond Z (fun h5=>?_) (fun h5=>?_))
  · refine BR hf fun x2 h6 hf=>?_; refine W 2 Z (CL Z (Bf _ h6 ?_)); cases hf; exact N 1 Z (Y Z h)
  cases h4.symm.trans h5
 refine V 2 Z (C hf Z (fun h7 hf=>?_) fun h7 hf=>?_)
 · refine BR hf fun x3 h8 hf=>?_; refine W 2 Z (CL Z (Bf _ h8 ?_)); cases hf; exact N 1 Z (Y Z h)
 refine V 2 Z (C hf Z (fun h9 hf=>?_) fun h9 hf=>?_)
 · refine W 4 Z (On 4 17 21 [] (e1.name == ([45]:Str)) Z Z Z Z ?_); cases hf; exact N 1 Z (Y Z h)
 refine V 2 Z (C hf Z (fun h11 hf=>?_) fun h11 hf=>?_)
 · refine B1 hf fun x4 h12 hf=>W 2 Z (CL Z (rT _ h12 ?_)); cases hf; exact N 2 Z (Y Z h)
 cases hf; exact M 4 Z (Y Z h)
theorem Og (e1:aj) {r0:Bool} (hf:DK e1=some r0) (h:Q (.ret (.bool r0)) τ):PC 134 [.agg (bE e1)] τ Q:=by
 unfold DK at hf; refine BN 32 [.tmp 2] [0] Tryz.func134 Z Z Z Z Z (V 6 Z (C hf Z (fun h1 hf=>?_) fun h1 hf=>?_))
 ·
  refine V 0 Z (AW.cond Z (fun h2=>?_) (fun h2=>?_))
  · refine W 2 Z (AS Z (AO.aT (l:=e1.args) Z Z Z Z iQ Z (aj.aA _) ?_)); cases hf; exact N 2 Z (Y Z h)
  cases h1.symm.trans h2
 refine V 2 Z (C hf Z (fun h3 hf=>?_) fun h3 hf=>?_)
 · refine W 2 Z (AS Z (AO.aT (l:=e1.args) Z Z Z Z iQ Z (aj.aA _) ?_)); cases hf; exact N 2 Z (Y Z h)
 refine V 2 Z (C hf Z (fun h4 hf=>?_) fun h4 hf=>?_)
 ·
  refine V 0 Z (AW.cond Z (fun h5=>?_) (fun h5=>?_))
  · refine W 2 Z (AS Z (AO.aT (l:=e1.args) Z Z Z Z iQ Z (aj.aA _) ?_)); cases hf; exact N 2 Z (Y Z h)
  cases h4.symm.trans h5
 refine V 2 Z (C hf Z (fun h6 hf=>?_) fun h6 hf=>?_)
 · refine W 2 Z (AS Z (AO.aT (l:=e1.args) Z Z Z Z iQ Z (aj.aA _) ?_)); cases hf; exact N 2 Z (Y Z h)
 refine V 2 Z (C hf Z (fun h7 hf=>?_) fun h7 hf=>?_)
 ·
  refine V 0 Z (AW.cond Z (fun h8=>?_) (fun h8=>?_))
  · refine W 2 Z (AS Z (AO.aT (l:=e1.args) Z Z Z Z iQ Z (aj.aA _) ?_)); cases hf; exact N 2 Z (Y Z h)
  cases h7.symm.trans h8
 refine V 2 Z (C hf Z (fun h9 hf=>?_) fun h9 hf=>?_)
 · refine W 2 Z (AS Z (AO.aT (l:=e1.args) Z Z Z Z iQ Z (aj.aA _) ?_)); cases hf; exact N 2 Z (Y Z h)
 refine V 2 Z (C hf Z (fun h10 hf=>?_) fun h10 hf=>?_)
 · refine W 2 Z (AS Z (AO.aT (l:=e1.args) Z Z Z Z iQ Z (aj.aA _) ?_)); cases hf; exact N 2 Z (Y Z h)
 cases hf; exact M 1 Z (Y Z h)
theorem vT (s1:List Str) (f1:Str→Option Bool) (wY:FuncId) (AQ:List PV) (NK:aX Tryz.prog wY=true) (NM:∀ a0 b0,f1 a0=some b0→∀ {τ:List aV} {Q:cO→List aV→Prop},Q (.ret (.bool b0)) τ→PC wY ([.str a0] ++ AQ) τ Q) {r0:Int} (hf:lq s1 f1=some r0) (h:Q (.ret (iP r0)) τ):PC 198 [sP s1,.fn wY AQ] τ Q:=by
 unfold lq at hf; refine BN 19 [.tmp 4] [0,1] Tryz.func198 Z Z Z Z Z (W 2 Z (AS Z (AO.aT (l:=s1) Z Z Z Z jZ Z Z (J 1 Z (Kl (fun i1=>[(0,sP s1),(1,.fn wY AQ),(7,iP (s1.length:Int)),(8,iP i1)]) (fun i1=>[]) (fun b_ i1=>iY s1 f1 b_ i1=some r0) BIG 0 Z Z hf (fun _ hz=>bU hz) ?_))))); intro b_ i1 hf; rw [iY] at hf; refine V 1 Z (C hf Z (fun h1 hf=>?_) fun h1 hf=>?_)
 ·
  refine B1 hf fun e1 h2 hf=>W 5 Z (AS Z (AO.aZ h2 Z Z Z Z jZ Z Z ?_)); refine B1 hf fun x1 h3 hf=>U 1 Z (AS Z (AO.call Z _ Z Z NK (NM _ _ h3 (J 0 Z (C hf Z (fun h4 hf=>?_) fun h4 hf=>?_)))))
  · cases hf; exact M 2 Z (Y Z h)
  exact M 2 Z ⟨(dG (i1 + 1)),Z,Z,Z,hf⟩
 cases hf; exact M 1 Z (Y Z h)
theorem uo (s1:List Str) (f1:Str→Option Bool) (wY:FuncId) (AQ:List PV) (NK:aX Tryz.prog wY=true) (NM:∀ a0 b0,f1 a0=some b0→∀ {τ:List aV} {Q:cO→List aV→Prop},Q (.ret (.bool b0)) τ→PC wY ([.str a0] ++ AQ) τ Q) {r0:Bool} (hf:ku s1 f1=some r0) (h:Q (.ret (.bool r0)) τ):PC 162 [sP s1,.fn wY AQ] τ Q:=by
 unfold ku at hf; refine BN 9 [.tmp 4] [0,1] Tryz.func162 Z Z Z Z Z ?_; refine B1 hf fun x1 h1 hf=>W 3 Z (CL Z (vT _ f1 wY AQ NK @NM h1 ?_)); cases hf; exact N 2 Z (Y Z h)
theorem KW (ER:Str) {r0:Bool} (hf:wN ER=some r0) (h:Q (.ret (.bool r0)) τ):PC 163 [.str ER] τ Q:=by
 unfold wN at hf; refine BN 11 [.tmp 2] [0] Tryz.func163 Z Z Z Z Z (W 2 Z (AS Z (AO.dO Z Z Z Z eH Z (U 2 Z (AR.or 4 6 10 [] (x:=(decide (64 < (ER.length:Int)))) Z Z (fun h1=>?_) (fun h1=>?_) ?_)))))
 · refine Is 6 h1 Z (U 1 Z (GO Z (AO.dO Z Z Z Z eH Z ?_))); exact fZ 2 Z (En [10] Z)
 · refine Is 6 h1 Z ?_; exact fZ 4 Z (En [10] Z)
 cases hf; exact N 1 Z (Y Z h)
theorem Od (e1:aj) {r0:Bool} (hf:DI e1=some r0) (h:Q (.ret (.bool r0)) τ):PC 135 [.agg (bE e1)] τ Q:=by
 unfold DI at hf; refine BN 23 [.tmp 2] [0] Tryz.func135 Z Z Z Z Z (V 5 Z (C hf Z (fun h1 hf=>?_) fun h1 hf=>?_))
 · refine W 2 Z (AS Z (AO.aT (l:=e1.keys) Z Z Z Z jZ Z Z ?_)); cases hf; exact N 2 Z (Y Z h)
 refine W 2 Z (AS Z (AO.aT (l:=e1.keys) Z Z Z Z jZ Z Z (U 2 Z (AS Z (AO.aT (l:=e1.args) Z Z Z Z iQ Z (aj.aA _) ?_))))); refine BR hf fun b1 h3 hf=>?_; refine U 2 Z (AR.gI 5 17 22 true [] b1 Z Z (fun h2=>?_) (fun h2=>?_) ?_)
 · refine IT 17 h2 h3 Z fun h3=>?_; refine B1 h3 fun x1 h4 h3=>U 2 Z (GO Z (AO.call Z _ Z Z ZJ (uo _ wN 163 [] ZI (fun _ _ hz=>KW _  hz) h4 ?_))); cases h3; exact fZ 2 Z (En [22] Z)
 · refine IF 17 h2 h3 Z fun h3=>?_; cases h3; exact fZ 5 Z (En [22] Z)
 cases hf; exact N 1 Z (Y Z h)
theorem Qk {β:Type} (l:Nat) (T:β→List aV) (go:β→ah→Int→Option (Bool × β))
  (Yn:∀ s1 v1 bZ b s2,go s1 v1 bZ=some (b,s2)→∀ {Q:cO→List aV→Prop},Q (.ret (.bool b)) (T s2)→PC 105 [.agg (aL v1),iP bZ,.val (.func (.yield l) #[] #[])] (T s1) Q)
  (y:β→Int→ah→Option (Bool × β)) (hy:∀ s1 bZ v1 b s2,y s1 bZ v1=some (b,s2)→AY Tryz.prog l [iP bZ,.agg (aL v1)] (T s1) (fun out σ'=>out=.ret (.bool b)∧σ'=T s2))
  (s1:β) (v1:ah) (bZ:Int) {b:Bool} {s2:β} (hf:Dp go y s1 v1 bZ=some (b,s2)) {Q:cO→List aV→Prop} (h:Q (.ret (.bool b)) (T s2)):
  PC 105 [.agg (aL v1),iP bZ,.val (.func (.yield l) #[] #[])] (T s1) Q:=by
 unfold Dp at hf; refine AC.jA 28 [.tmp 6] [0,1,2] Tryz.func105 Z Z Z Z Z (AW.sr (AR.step Z Z Z (AO.Ab Z Z Z (cs 1 Z ?_)))); refine AR.nil [1,2,3] Z (AW.seq (AW.seq (AW.Ye ?_))); refine OH.step Z Z Z Z (AO.calc' Z (OH.step Z Z Z Z (AO.calc' Z (OH.step Z Z Z Z (AO.NA Z Z kY Z ?_))))); obtain ⟨b1,s3,h1,hf⟩:=bM hf; refine OH.yield Z Z Z Z Z _ Z Z (hy _ _ _ _ _ h1) (OH.of Z (cs 1 Z (AR.nil [1,2,3,13] Z ?_))); refine AW.cond Z (fun h2=>?_) (fun h2=>?_)
 · replace hf:=jC h2 hf; refine AW.sr (cs 1 Z (AR.nil [6] Z (AW.ret ?_))); cases hf; exact ⟨rfl,_,⟨_,_,rfl,rfl,rfl⟩,_,List.Sublist.refl _,h⟩
 replace hf:=jf h2 hf; refine AW.skip (AW.seq (AW.sr (cs 2 Z ?_))); refine AR.step Z Z Z (AO.aT (l:=v1.cu) Z Z Z Z iR Z ((ah.aA _)) (cs 1 Z (AR.nil [1,2,15,16,17] Z (AW.block ?_)))); refine AW.KH (fun (_:β) i1=>[(1,iP bZ),(2,.val (.func (.yield l) #[] #[])),(15,.list (ah.aK v1.cu)),(16,iP (v1.cu.length:Int)),(17,iP i1)]) (fun s1 _=>T s1) (fun b_ s1 i1=>yC go v1 bZ b_ s1 i1=some (b,s2)) BIG s3 0 Z Z hf (fun _ _ hz=>bU hz) ?_; intro b_ s4 i1 hf; rw [yC] at hf; refine AW.sr (cs 1 Z (AR.nil [1,2,15,16,17,18] Z (AW.seq ?_))); refine AW.cond Z (fun h1=>?_) (fun h1=>?_)
 ·
  replace hf:=jC h1 hf; refine AW.skip (AW.seq (AW.block (AW.sr ?_))); refine B1 hf fun x1 h3 hf=>AR.step Z Z Z (AO.aZ h3 Z Z ((ah.aA _)) Z iR ((ah.aF _)) Z (cs 1 Z (AR.step Z Z Z (AO.aC Z gK (fun b8=>(AR.bC Z Z (AO.bO (i:=0) Z Z Z kY Z Z Z Z Z ?_))))))); refine AR.nil [1,2,8,15,16,17] Z (AW.sr (AR.step Z Z Z (AO.aR (i:=0) Z Z Z kY Z Z (cs 3 Z ?_)))); obtain ⟨b2,s5,h4,hf⟩:=bM hf; refine AR.drop1 (AR.step Z Z Z (AO.call Z _ Z Z aaf (Yn _ _ _ _ _ h4 (cs 1 Z (AR.nil [1,2,15,16,17,26] Z ?_))))); refine AW.cond Z (fun h5=>?_) (fun h5=>?_)
  · replace hf:=jC h5 hf; refine AW.sr (cs 1 Z (AR.nil [6] Z (AW.ret ?_))); cases hf; exact ⟨rfl,_,⟨_,_,rfl,rfl,rfl⟩,_,List.Sublist.refl _,h⟩
  replace hf:=jf h5 hf; refine AW.skip (AW.region (cs 2 Z (AR.nil [1,2,15,16,17] Z ?_))); exact ⟨s5,(dG (i1 + 1)),Z,Z,Z,hf⟩
 replace hf:=jf h1 hf; refine AW.exit (AW.sr (cs 1 Z (AR.nil [6] Z ?_))); refine AW.ret ?_; cases hf; exact ⟨rfl,_,⟨_,_,rfl,rfl,rfl⟩,_,List.Sublist.refl _,h⟩
theorem JK {β:Type} (l:Nat) (T:β→List aV) (y:β→Int→ah→Option (Bool × β)) (hy:∀ s1 bZ v1 b s2,y s1 bZ v1=some (b,s2)→AY Tryz.prog l [iP bZ,.agg (aL v1)] (T s1) (fun out σ'=>out=.ret (.bool b)∧σ'=T s2)):
  ∀ (k:Nat) (s1:β) (v1:ah) (bZ:Int) (b:Bool) (s2:β),zQ y k s1 v1 bZ=some (b,s2)→∀ {Q:cO→List aV→Prop},Q (.ret (.bool b)) (T s2)→PC 105 [.agg (aL v1),iP bZ,.val (.func (.yield l) #[] #[])] (T s1) Q
 | 0,_,_,_,_,_,hz=>by cases hz
 | k + 1,s1,v1,bZ,b,s2,hz=>fun h=>Qk l T (zQ y k) (fun s1 v1 bZ b s2 hz=>JK l T y hy k s1 v1 bZ b s2 hz) y hy s1 v1 bZ hz h
theorem Ez {β:Type} (l:Nat) (T:β→List aV) (y:β→Int→ah→Option (Bool × β)) (hy:∀ s1 bZ v1 b s2,y s1 bZ v1=some (b,s2)→AY Tryz.prog l [iP bZ,.agg (aL v1)] (T s1) (fun out σ'=>out=.ret (.bool b)∧σ'=T s2))
    (s1:β) (v1:ah) (bZ:Int) {b:Bool} {s2:β} (hf:IE y s1 v1 bZ=some (b,s2)) {Q:cO→List aV→Prop} (h:Q (.ret (.tuple [])) (T s2)):
    PC 104 [.val (.func (.yield l) #[] #[]),.ref (aL v1),.ref [iP bZ]] (T s1) Q:=by
 refine BD 8 [] [0,1,2] Tryz.func104 Z Z Z Z Z (W 3 Z (CL Z (JK l T y hy BIG _ _ _ _ _ hf ?_))); exact N 0 rfl ⟨rfl,_,rfl,_,List.Sublist.refl _,h⟩
theorem Ic (v1:ah) (bZ:Int) (h:Q (.ret (.fn 104 [.ref (aL v1),.ref [iP bZ]])) τ):PC 65 [.agg (aL v1),iP bZ] τ Q:=by
 refine BN 6 [.tmp 4] [0,1] Tryz.func65 Z Z Z Z Z ?_; exact M 5 Z (Y Z h)
theorem N8 (v1:ah) {r0:Bool} (hf:Dq v1=some r0) (h:Q (.ret (.bool r0)) τ):PC 106 [.agg (aL v1)] τ Q:=by
 unfold Dq at hf; refine BN 58 [.tmp 2] [0] Tryz.func106 Z Z Z Z Z (W 6 Z (On 4 6 10 [1] (!v1.je) Z Z Z Z (U 1 Z (AR.and 9 11 20 [1] (x:=((v1.kind == 2) || (v1.jm == 0))) Z Z (fun h2=>?_) (fun h2=>?_) ?_))))
 · refine Is 11 h2 Z (U 4 Z (On 4 15 19 [1,11] (v1.jm == 0) Z Z Z Z ?_)); exact fZ 1 Z (En [20,1] Z)
 · refine Is 11 h2 Z ?_; exact fZ 9 Z (En [20,1] Z)
 refine U 1 Z (AR.and 9 21 30 [1] (x:=((v1.kind == 3) || (v1.iK == ([]:Str)))) Z Z (fun h4=>?_) (fun h4=>?_) ?_)
 · refine Is 21 h4 Z (U 4 Z (On 4 25 29 [1,21] (v1.iK == ([]:Str)) Z Z Z Z ?_)); exact fZ 1 Z (En [30,1] Z)
 · refine Is 21 h4 Z ?_; exact fZ 9 Z (En [30,1] Z)
 refine U 1 Z (AR.and 15 31 46 [1] (x:=(((v1.kind == 4) || (v1.kind == 5)) || ((v1.cu.length:Int) == 0))) Z Z (fun h6=>?_) (fun h6=>?_) ?_)
 ·
  refine Is 31 h6 Z (U 4 Z (On 4 35 39 [1,31] (v1.kind == 5) Z Z Z Z (U 1 Z (AR.or 5 40 45 [1,31] (x:=((v1.cu.length:Int) == 0)) Z Z (fun h8=>?_) (fun h8=>?_) ?_))))
  · refine Is 40 h8 Z (U 2 Z (GO Z (AO.aT (l:=v1.cu) Z Z Z Z iR Z (ah.aA _) ?_))); exact fZ 2 Z (En [45,1,31] Z)
  · refine Is 40 h8 Z ?_; exact fZ 5 Z (En [45,1,31] Z)
  exact fZ 1 Z (En [46,1] Z)
 · refine Is 31 h6 Z ?_; exact fZ 15 Z (En [46,1] Z)
 refine U 1 Z (AR.and 10 47 57 [] (x:=((v1.kind == 5) || ((v1.keys.length:Int) == 0))) Z Z (fun h9=>?_) (fun h9=>?_) ?_)
 ·
  refine Is 47 h9 Z (U 4 Z (AR.or 5 51 56 [47] (x:=((v1.keys.length:Int) == 0)) Z Z (fun h10=>?_) (fun h10=>?_) ?_))
  · refine Is 51 h10 Z (U 2 Z (GO Z (AO.aT (l:=v1.keys) Z Z Z Z jZ Z Z ?_))); exact fZ 2 Z (En [56,47] Z)
  · refine Is 51 h10 Z ?_; exact fZ 5 Z (En [56,47] Z)
  exact fZ 1 Z (En [57] Z)
 · refine Is 47 h9 Z ?_; exact fZ 10 Z (En [57] Z)
 cases hf; exact N 1 Z (Y Z h)
theorem Ik (c1:UInt8) {r0:Bool} (hf:BJ c1=some r0) (h:Q (.ret (.bool r0)) τ):PC 82 [.int .u8 (c1.toNat:Int)] τ Q:=by
 unfold BJ at hf; refine BN 9 [.tmp 2] [0] Tryz.func82 Z Z Z Z Z (W 4 Z (An 3 5 8 [] (decide ((c1.toNat:Int)≤57)) Z Z Z Z ?_)); cases hf; exact N 1 Z (Y Z h)
theorem LD (s1:Str) {r0:Int} (hf:GQ s1=some r0) (h:Q (.ret (iP r0)) τ):PC 129 [.str s1] τ Q:=by
 unfold GQ at hf; refine BN 17 [.tmp 2] [0] Tryz.func129 Z Z Z Z Z (V 2 Z (Kl (fun n1=>[(0,.str s1),(3,iP n1)]) (fun n1=>[]) (fun b_ n1=>zX s1 b_ n1=some r0) BIG 0 Z Z hf (fun _ hz=>bU hz) ?_)); intro b_ n1 hf; rw [zX] at hf; refine W 2 Z (AS Z (AO.dO Z Z Z Z eH Z ?_)); refine B1 hf fun b1 h2 hf=>U 2 Z (AR.gI 5 8 13 true [0,3] b1 Z Z (fun h1=>?_) (fun h1=>?_) ?_)
 · refine IT 8 h1 h2 Z fun h2=>?_; refine B1 h2 fun x1 h3 h2=>U 2 Z (GO Z (AO.gZ h3 Z eH Z Z ?_)); refine BR h2 fun x2 h4 h2=>?_; refine GO Z (AO.call Z _ Z Z YP (Ik _ h4 ?_)); cases h2; exact fZ 1 Z (En [13,0,3] Z)
 · refine IF 8 h1 h2 Z fun h2=>?_; cases h2; exact fZ 5 Z (En [13,0,3] Z)
 refine J 0 Z (C hf Z (fun h5 hf=>?_) fun h5 hf=>?_)
 · exact M 3 Z ⟨(dG (n1 + 1)),Z,Z,Z,hf⟩
 cases hf; exact M 2 Z (Y Z h)
theorem Eb (s1:Str) (c1:UInt8) {r0:Str} (hf:strings_trimLeftByte s1 c1=some r0) (h:Q (.ret (.str r0)) τ):PC 192 [.str s1,.int .u8 (c1.toNat:Int)] τ Q:=by
 unfold strings_trimLeftByte at hf; refine BN 17 [.tmp 4] [0,1] Tryz.func192 Z Z Z Z Z (V 1 Z (Kl (fun s2=>[(0,.str s2),(1,.int .u8 (c1.toNat:Int))]) (fun s2=>[]) (fun b_ s2=>mG c1 b_ s2=some r0) BIG s1 Z Z hf (fun _ hz=>bU hz) ?_)); intro b_ s2 hf; rw [mG] at hf; refine W 1 Z (AS Z (AO.dO Z Z Z Z eH Z ?_)); refine B1 hf fun b1 h2 hf=>U 2 Z (AR.gI 5 8 13 true [0,1] b1 Z Z (fun h1=>?_) (fun h1=>?_) ?_)
 · refine IT 8 h1 h2 Z fun h2=>?_; refine B1 h2 fun x1 h3 h2=>U 1 Z (GO Z (AO.gZ h3 Z eH Z Z ?_)); cases h2; exact fZ 3 Z (En [13,0,1] Z)
 · refine IF 8 h1 h2 Z fun h2=>?_; cases h2; exact fZ 5 Z (En [13,0,1] Z)
 refine J 0 Z (C hf Z (fun h4 hf=>?_) fun h4 hf=>?_)
 · refine B1 hf fun s3 h5 hf=>W 1 Z (AS Z (AO.pQ h5 Z eH Z ⟨_,Z⟩ Z ?_)); exact N 1 Z ⟨s3,Z,Z,Z,hf⟩
 cases hf; exact M 2 Z (Y Z h)
theorem Bc (s1:Str) (BP:Str) {r0:Str} (hf:uf s1 BP=some r0) (h:Q (.ret (.str r0)) τ):PC 158 [.str s1,.str BP] τ Q:=by
 unfold uf at hf; refine BN 37 [.tmp 4] [0,1] Tryz.func158 Z Z Z Z Z (W 4 Z (On 3 9 12 [0,1] (BP == ([]:Str)) Z Z Z Z (J 0 Z (C hf Z (fun h2 hf=>?_) fun h2 hf=>?_))))
 · cases hf; exact M 2 Z (Y Z h)
 refine W 1 Z (AS Z (AO.dO Z Z Z Z eH Z ?_)); refine B1 hf fun b1 h4 hf=>U 2 Z (AR.gI 4 17 21 true [0,1] b1 Z Z (fun h3=>?_) (fun h3=>?_) ?_)
 · refine IT 17 h3 h4 Z fun h4=>?_; refine B1 h4 fun x1 h5 h4=>U 1 Z (GO Z (AO.gZ h5 Z eH Z Z ?_)); cases h4; exact fZ 2 Z (En [21,0,1] Z)
 · refine IF 17 h3 h4 Z fun h4=>?_; cases h4; exact fZ 4 Z (En [21,0,1] Z)
 refine J 0 Z (C hf Z (fun h6 hf=>?_) fun h6 hf=>?_)
 · refine B1 hf fun x2 h7 hf=>W 2 Z (AS Z (AO.gZ h7 Z eH Z Z ?_)); refine BR hf fun x3 h8 hf=>?_; refine CL Z (Eb _ _ h8 ?_); cases hf; exact N 1 Z (Y Z h)
 exact bU hf
theorem EG (x1:Int) {r0:Bool} (hf:cmp_isNaN_int x1=some r0) (h:Q (.ret (.bool r0)) τ):PC 127 [iP x1] τ Q:=by
 unfold cmp_isNaN_int at hf; refine BN 6 [.tmp 2] [0] Tryz.func127 Z Z Z Z Z ?_; cases hf; exact M 5 Z (Y Z h)
theorem mK (x1:Int) (y1:Int) {r0:Int} (hf:cmp_Compare_int x1 y1=some r0) (h:Q (.ret (iP r0)) τ):PC 93 [iP x1,iP y1] τ Q:=by
 unfold cmp_Compare_int at hf; refine BN 20 [.tmp 4] [0,1] Tryz.func93 Z Z Z Z Z ?_; refine B1 hf fun La h1 hf=>W 2 Z (CL Z (EG _ h1 ?_)); refine B1 hf fun EW h2 hf=>U 2 Z (CL Z (EG _ h2 (J 2 Z (C hf Z (fun h3 hf=>?_) fun h3 hf=>?_))))
 ·
  refine V 1 Z (C hf Z (fun h4 hf=>?_) fun h4 hf=>?_)
  · cases hf; exact M 1 Z (Y Z h)
  cases hf; exact M 1 Z (Y Z h)
 refine V 1 Z (C hf Z (fun h5 hf=>?_) fun h5 hf=>?_)
 · cases hf; exact M 1 Z (Y Z h)
 refine V 3 Z (C hf Z (fun h6 hf=>?_) fun h6 hf=>?_)
 · cases hf; exact M 1 Z (Y Z h)
 refine V 3 Z (C hf Z (fun h7 hf=>?_) fun h7 hf=>?_)
 · cases hf; exact M 1 Z (Y Z h)
 cases hf; exact M 1 Z (Y Z h)
theorem Bj (x1:Str) {r0:Bool} (hf:cmp_isNaN_string x1=some r0) (h:Q (.ret (.bool r0)) τ):PC 128 [.str x1] τ Q:=by
 unfold cmp_isNaN_string at hf; refine BN 6 [.tmp 2] [0] Tryz.func128 Z Z Z Z Z ?_; cases hf; exact M 5 Z (Y Z h)
theorem zk (x1:Str) (y1:Str) {r0:Int} (hf:qI x1 y1=some r0) (h:Q (.ret (iP r0)) τ):PC 95 [.str x1,.str y1] τ Q:=by
 unfold qI at hf; refine BN 20 [.tmp 4] [0,1] Tryz.func95 Z Z Z Z Z ?_; refine B1 hf fun La h1 hf=>W 2 Z (CL Z (Bj _ h1 ?_)); refine B1 hf fun EW h2 hf=>U 2 Z (CL Z (Bj _ h2 (J 2 Z (C hf Z (fun h3 hf=>?_) fun h3 hf=>?_))))
 ·
  refine V 1 Z (C hf Z (fun h4 hf=>?_) fun h4 hf=>?_)
  · cases hf; exact M 1 Z (Y Z h)
  cases hf; exact M 1 Z (Y Z h)
 refine V 1 Z (C hf Z (fun h5 hf=>?_) fun h5 hf=>?_)
 · cases hf; exact M 1 Z (Y Z h)
 refine V 3 Z (C hf Z (fun h6 hf=>?_) fun h6 hf=>?_)
 · cases hf; exact M 1 Z (Y Z h)
 refine V 3 Z (C hf Z (fun h7 hf=>?_) fun h7 hf=>?_)
 · cases hf; exact M 1 Z (Y Z h)
 cases hf; exact M 1 Z (Y Z h)
theorem Q_ (Eo:List Int) {r0:Int} (hf:I_ Eo=some r0) (h:Q (.ret (iP r0)) τ):PC 159 [.list (List.map JU Eo)] τ Q:=by
 unfold I_ at hf; refine BN 18 [.tmp 2] [0] Tryz.func159 Z Z Z Z Z (W 3 Z (AS Z (AO.aT (l:=Eo) Z Z Z Z Cz Z Z (J 1 Z (Kl (fun x1=>[(3,iP 0),(6,.list (List.map JU Eo)),(7,iP (Eo.length:Int)),(8,iP x1)]) (fun x1=>[]) (fun b_ x1=>yL Eo b_ x1=some r0) BIG 0 Z Z hf (fun _ hz=>bU hz) ?_))))); intro b_ x1 hf; rw [yL] at hf; refine V 1 Z (C hf Z (fun h1 hf=>?_) fun h1 hf=>?_)
 ·
  refine B1 hf fun Zd h2 hf=>W 0 Z (AS Z (AO.aZ h2 Z Z Z Z Cz Z Z (J 5 Z (C hf Z (fun h3 hf=>?_) fun h3 hf=>?_))))
  · cases hf; exact M 2 Z (Y Z h)
  exact M 2 Z ⟨(dG (x1 + 1)),Z,Z,Z,hf⟩
 cases hf; exact M 2 Z (Y Z h)
theorem Mx (a1:Str) (b1:Str) {r0:Int} (hf:Cw a1 b1=some r0) (h:Q (.ret (iP r0)) τ):PC 130 [.str a1,.str b1] τ Q:=by
 unfold Cw at hf; refine BN 26 [.tmp 4] [0,1] Tryz.func130 Z Z Z Z Z ?_; refine B1 hf fun x1 h1 hf=>W 2 Z (CL Z (Bc _ _ h1 ?_)); refine B1 hf fun y1 h2 hf=>U 1 Z (CL Z (Bc _ _ h2 (U 3 Z (AS Z (AO.dO Z Z Z Z eH Z (U 1 Z (AS Z (AO.dO Z Z Z Z eH Z ?_)))))))); refine B1 hf fun x2 h3 hf=>CL Z (mK _ _ h3 ?_); refine B1 hf fun x3 h4 hf=>U 2 Z (CL Z (zk _ _ h4 (U 1 Z (AS Z (AO.dO Z Z Z Z eH Z (U 1 Z (AS Z (AO.dO Z Z Z Z eH Z ?_)))))))); refine B1 hf fun x4 h5 hf=>CL Z (mK _ _ h5 (AS Z (AO.bD (List.map JU ([x2,x3,x4]:List Int)) Z M9 Z Z Z Z ?_))); refine BR hf fun x5 h6 hf=>?_; refine CL Z (Q_ _ h6 ?_); cases hf; exact N 1 Z (Y Z h)
theorem Di (x1:UInt8) {r0:Bool} (hf:xB x1=some r0) (h:Q (.ret (.bool r0)) τ):PC 160 [.int .u8 (x1.toNat:Int)] τ Q:=by
 unfold xB at hf; refine BN 6 [.tmp 2] [0] Tryz.func160 Z Z Z Z Z ?_; cases hf; exact M 5 Z (Y Z h)
theorem Jj (x1:UInt8) (y1:UInt8) {r0:Int} (hf:yj x1 y1=some r0) (h:Q (.ret (iP r0)) τ):PC 131 [.int .u8 (x1.toNat:Int),.int .u8 (y1.toNat:Int)] τ Q:=by
 unfold yj at hf; refine BN 20 [.tmp 4] [0,1] Tryz.func131 Z Z Z Z Z ?_; refine B1 hf fun La h1 hf=>W 2 Z (CL Z (Di _ h1 ?_)); refine B1 hf fun EW h2 hf=>U 2 Z (CL Z (Di _ h2 (J 2 Z (C hf Z (fun h3 hf=>?_) fun h3 hf=>?_))))
 ·
  refine V 1 Z (C hf Z (fun h4 hf=>?_) fun h4 hf=>?_)
  · cases hf; exact M 1 Z (Y Z h)
  cases hf; exact M 1 Z (Y Z h)
 refine V 1 Z (C hf Z (fun h5 hf=>?_) fun h5 hf=>?_)
 · cases hf; exact M 1 Z (Y Z h)
 refine V 3 Z (C hf Z (fun h6 hf=>?_) fun h6 hf=>?_)
 · cases hf; exact M 1 Z (Y Z h)
 refine V 3 Z (C hf Z (fun h7 hf=>?_) fun h7 hf=>?_)
 · cases hf; exact M 1 Z (Y Z h)
 cases hf; exact M 1 Z (Y Z h)
theorem zK (a1:Str) (b1:Str) {r0:Int} (hf:ru a1 b1=some r0) (h:Q (.ret (iP r0)) τ):PC 98 [.str a1,.str b1] τ Q:=by
 unfold ru at hf; refine BN 59 [.tmp 4] [0,1] Tryz.func98 Z Z Z Z Z (V 1 Z (Vn (fun a2 b2=>[(0,.str a2),(1,.str b2)]) (fun a2 b2=>[]) (fun b_ a2 b2=>pW b_ a2 b2=some r0) BIG a1 b1 Z Z hf (fun _ _ hz=>bU hz) ?_)); intro b_ a2 b2 hf; rw [pW] at hf; refine W 3 Z (An 3 10 13 [0,1] (!(b2 == ([]:Str))) Z Z Z Z (J 0 Z (C hf Z (fun h2 hf=>?_) fun h2 hf=>?_)))
 ·
  refine B1 hf fun n1 h3 hf=>W 1 Z (CL Z (LD _ h3 ?_)); refine B1 hf fun m1 h4 hf=>U 1 Z (CL Z (LD _ h4 (U 5 Z (An 3 20 23 [0,1,5,6] (decide (0 < m1)) Z Z Z Z (J 0 Z (C hf Z (fun h6 hf=>?_) fun h6 hf=>?_))))))
  ·
   refine V 0 Z (AW.draw 8 mixed (by kernel_rfl) Z ?_); refine Ev.cs bJ 2 Z ?_; refine B1 hf fun x1 h7 hf=>Ev.cons Z Z Z (AO.pQ h7 Z eH Z Z ⟨_,Z⟩ zg) (Ev.cs bJ 2 Z ?_); refine B1 hf fun x2 h8 hf=>Ev.cons Z Z Z (AO.pQ h8 Z eH Z Z ⟨_,Z⟩ zg) ?_; refine B1 hf fun c1 h9 hf=>Ev.cons Z Z Z (AO.call Z _ Z Z Z5 (Mx _ _ h9 zg)) (Ev.cs bJ 1 Z (Ev.nil ?_)); show AR _ _ _ _ _ _ _ _; refine J 2 Z (C hf Z (fun h10 hf=>?_) fun h10 hf=>?_)
   · cases hf; exact M 2 Z (Y Z h)
   refine V 0 Z (AW.draw 8 mixed (by kernel_rfl) Z ?_); refine Ev.cs bJ 2 Z ?_; refine B1 hf fun a3 h11 hf=>Ev.cons Z Z Z (AO.pQ h11 Z eH Z ⟨_,Z⟩ Z zg) (Ev.cs bJ 2 Z ?_); refine B1 hf fun b3 h12 hf=>Ev.cons Z Z Z (AO.pQ h12 Z eH Z ⟨_,Z⟩ Z zg) (Ev.cs bJ 2 Z (Ev.nil ?_)); show AR _ _ _ _ _ _ _ _; exact N 0 Z ⟨a3,b3,Z,Z,Z,hf⟩
  refine V 0 Z (AW.draw 5 mixed (by kernel_rfl) Z ?_); refine Ev.cs bJ 1 Z ?_; refine B1 hf fun x3 l6 hf=>Ev.cons Z Z Z (AO.gZ l6 Z eH Z Z zg) (Ev.cs bJ 1 Z ?_); refine B1 hf fun x4 lH hf=>Ev.cons Z Z Z (AO.gZ lH Z eH Z Z zg) (Ev.cs bJ 1 Z (Ev.nil ?_)); show AR _ _ _ _ _ _ _ _; refine J 0 Z (C hf Z (fun rO hf=>?_) fun rO hf=>?_)
  ·
   refine V 0 Z (AW.draw 6 mixed (by kernel_rfl) Z ?_); refine Ev.cs bJ 1 Z ?_; refine B1 hf fun x5 h16 hf=>Ev.cons Z Z Z (AO.gZ h16 Z eH Z Z zg) (Ev.cs bJ 1 Z ?_); refine B1 hf fun x6 xM hf=>Ev.cons Z Z Z (AO.gZ xM Z eH Z Z zg) ?_; refine BR hf fun x7 h18 hf=>?_; refine Ev.cons Z Z Z (AO.call Z _ Z Z Z4 (Jj _ _ h18 zg)) (Ev.cs bJ 1 Z (Ev.nil ?_)); show AR _ _ _ _ _ _ _ _; cases hf; exact N 0 Z (Y Z h)
  refine V 0 Z (AW.draw 6 mixed (by kernel_rfl) Z ?_); refine Ev.cs bJ 1 Z ?_; refine B1 hf fun a4 h19 hf=>Ev.cons Z Z Z (AO.pQ h19 Z eH Z ⟨_,Z⟩ Z zg) (Ev.cs bJ 1 Z ?_); refine B1 hf fun b4 h20 hf=>Ev.cons Z Z Z (AO.pQ h20 Z eH Z ⟨_,Z⟩ Z zg) (Ev.cs bJ 2 Z (Ev.nil ?_)); show AR _ _ _ _ _ _ _ _; exact N 0 Z ⟨a4,b4,Z,Z,Z,hf⟩
 refine W 1 Z (AS Z (AO.dO Z Z Z Z eH Z (U 1 Z (AS Z (AO.dO Z Z Z Z eH Z ?_))))); refine BR hf fun x8 h21 hf=>?_; refine CL Z (mK _ _ h21 ?_); cases hf; exact N 1 Z (Y Z h)
theorem Pb (v1:ah) {r0:Bool} (hf:Fe v1=some r0) (h:Q (.ret (.bool r0)) τ):PC 107 [.agg (aL v1)] τ Q:=by
 unfold Fe at hf; refine BN 44 [.tmp 2] [0] Tryz.func107 Z Z Z Z Z (W 4 Z (AS Z (AO.aT (l:=v1.keys) Z Z Z Z jZ Z Z (U 2 Z (AS Z (AO.aT (l:=v1.cu) Z Z Z Z iR Z (ah.aA _) (J 1 Z (C hf Z (fun h1 hf=>?_) fun h1 hf=>?_))))))))
 · cases hf; exact M 1 Z (Y Z h)
 refine W 2 Z (AS Z (AO.aT (l:=v1.keys) Z Z Z Z jZ Z Z (J 1 Z (Kl (fun i1=>[(1,.ref (aL v1)),(13,sP v1.keys),(14,iP (v1.keys.length:Int)),(15,iP i1)]) (fun i1=>[]) (fun b_ i1=>wD v1 b_ i1=some r0) BIG 0 Z Z hf (fun _ hz=>bU hz) ?_)))); intro b_ i1 hf; rw [wD] at hf; refine V 1 Z (C hf Z (fun h2 hf=>?_) fun h2 hf=>?_)
 ·
  refine B1 hf fun ER h3 hf=>W 1 Z (AS Z (AO.aZ h3 Z Z Z Z jZ Z Z (U 4 Z (AS Z (AO.dO Z Z Z Z eH Z (U 2 Z (AR.or 4 23 27 [1,3,4,13,14,15] (x:=(decide (64 < (ER.length:Int)))) Z Z (fun h4=>?_) (fun h4=>?_) ?_)))))))
  · refine Is 23 h4 Z (U 1 Z (GO Z (AO.dO Z Z Z Z eH Z ?_))); exact fZ 2 Z (En [27,1,3,4,13,14,15] Z)
  · refine Is 23 h4 Z ?_; exact fZ 4 Z (En [27,1,3,4,13,14,15] Z)
  refine B1 hf fun b1 h6 hf=>U 1 Z (AR.gI 14 28 42 false [1,13,14,15] b1 Z Z (fun h5=>?_) (fun h5=>?_) ?_)
  ·
   refine IF 28 h5 h6 Z fun h6=>?_; refine BR h6 fun b2 h8 h6=>?_; refine U 3 Z (AR.gI 10 31 41 true [1,13,14,15,28] b2 Z Z (fun h7=>?_) (fun h7=>?_) ?_)
   · refine IT 31 h7 h8 Z fun h8=>?_; refine B1 h8 fun e1 h9 h8=>U 4 Z (GO Z (AO.aZ h9 Z Z Z Z jZ Z Z ?_)); refine B1 h8 fun x1 h10 h8=>U 2 Z (GO Z (AO.call Z _ Z Z YN (zK _ _ h10 ?_))); cases h8; exact fZ 2 Z (En [41,1,13,14,15,28] Z)
   · refine IF 31 h7 h8 Z fun h8=>?_; cases h8; exact fZ 10 Z (En [41,1,13,14,15,28] Z)
   cases h6; exact fZ 1 Z (En [42,1,13,14,15] Z)
  · refine IT 28 h5 h6 Z fun h6=>?_; cases h6; exact fZ 14 Z (En [42,1,13,14,15] Z)
  refine J 0 Z (C hf Z (fun h11 hf=>?_) fun h11 hf=>?_)
  · cases hf; exact M 1 Z (Y Z h)
  exact M 2 Z ⟨(dG (i1 + 1)),Z,Z,Z,hf⟩
 cases hf; exact M 1 Z (Y Z h)
theorem QY (v1:ah) (bZ:Int) {r0:Int} (hf:IG v1 bZ=some r0) (h:Q (.ret (iP r0)) τ):PC 66 [.agg (aL v1),iP bZ] τ Q:=by
 unfold IG at hf; refine BN 78 [.tmp 4] [0,1] Tryz.func66 Z Z Z Z Z (W 6 Z (On 4 9 13 [1,2] (v1.kind == 5) Z Z Z Z (J 4 Z (C hf Z (fun h2 hf=>?_) fun h2 hf=>?_))))
 · cases hf; exact M 1 Z (Y Z h)
 refine W 4 Z (On 4 21 25 [1,2,5] (decide (5 < v1.kind)) Z Z Z Z ?_); refine B1 hf fun b1 h5 hf=>U 1 Z (AR.gI 4 26 30 false [1,2,5] b1 Z Z (fun h4=>?_) (fun h4=>?_) ?_)
 · refine IF 26 h4 h5 Z fun h5=>?_; refine B1 h5 fun x1 h6 h5=>U 1 Z (GO Z (AO.call Z _ Z Z aae (N8 _ h6 ?_))); cases h5; exact fZ 2 Z (En [30,1,2,5] Z)
 · refine IT 26 h4 h5 Z fun h5=>?_; cases h5; exact fZ 4 Z (En [30,1,2,5] Z)
 refine J 1 Z (C hf Z (fun h7 hf=>?_) fun h7 hf=>?_)
 · cases hf; exact M 1 Z (Y Z h)
 refine W 4 Z (On 4 35 39 [1,2,5] (decide (9007199254740992 < v1.jm)) Z Z Z Z (J 1 Z (C hf Z (fun h9 hf=>?_) fun h9 hf=>?_)))
 · cases hf; exact M 1 Z (Y Z h)
 refine W 2 Z (AS Z (AO.dO Z Z Z Z eH Z (U 2 Z (AR.or 5 45 50 [1,2,5] (x:=(decide (1024 < (v1.cu.length:Int)))) Z Z (fun h10=>?_) (fun h10=>?_) ?_))))
 · refine Is 45 h10 Z (U 2 Z (GO Z (AO.aT (l:=v1.cu) Z Z Z Z iR Z (ah.aA _) ?_))); exact fZ 2 Z (En [50,1,2,5] Z)
 · refine Is 45 h10 Z ?_; exact fZ 5 Z (En [50,1,2,5] Z)
 refine U 1 Z (AR.or 5 51 56 [1,2,5] (x:=(decide (1024 < (v1.keys.length:Int)))) Z Z (fun h11=>?_) (fun h11=>?_) ?_)
 · refine Is 51 h11 Z (U 2 Z (GO Z (AO.aT (l:=v1.keys) Z Z Z Z jZ Z Z ?_))); exact fZ 2 Z (En [56,1,2,5] Z)
 · refine Is 51 h11 Z ?_; exact fZ 5 Z (En [56,1,2,5] Z)
 refine J 1 Z (C hf Z (fun h12 hf=>?_) fun h12 hf=>?_)
 · cases hf; exact M 1 Z (Y Z h)
 refine B1 hf fun b2 lH hf=>W 4 Z (AR.gI 4 61 65 true [1,2,5] b2 Z Z (fun l6=>?_) (fun l6=>?_) ?_)
 · refine IT 61 l6 lH Z fun lH=>?_; refine B1 lH fun x2 rO lH=>U 1 Z (GO Z (AO.call Z _ Z Z aad (Pb _ rO ?_))); cases lH; exact fZ 2 Z (En [65,1,2,5] Z)
 · refine IF 61 l6 lH Z fun lH=>?_; cases lH; exact fZ 4 Z (En [65,1,2,5] Z)
 refine J 1 Z (C hf Z (fun h16 hf=>?_) fun h16 hf=>?_)
 · cases hf; exact M 1 Z (Y Z h)
 refine W 2 Z (AR.and 5 68 73 [1] (x:=((v1.cu.length:Int) == 0)) Z Z (fun xM=>?_) (fun xM=>?_) ?_)
 · refine Is 68 xM Z (U 2 Z (GO Z (AO.aT (l:=v1.cu) Z Z Z Z iR Z (ah.aA _) ?_))); exact fZ 2 Z (En [73,1] Z)
 · refine Is 68 xM Z ?_; exact fZ 5 Z (En [73,1] Z)
 refine U 1 Z (An 3 74 77 [] (bZ == 16) Z Z Z Z (J 1 Z (C hf Z (fun h19 hf=>?_) fun h19 hf=>?_)))
 · cases hf; exact M 1 Z (Y Z h)
 cases hf; exact M 1 Z (Y Z h)
theorem nD (v1:ah) {r0:Int} (hf:nC v1=some r0) (h:Q (.ret (iP r0)) τ):PC 39 [.agg (aL v1)] τ Q:=by
 unfold nC at hf; refine AC.none (AC.Ia 16 [.cell 2 25] [0] Tryz.func39 Z Z Z Z Z ?_); obtain ⟨b1,s1,h1,hf⟩:=bM hf; cases hf; refine AW.sr (AR.step Z Z Z (AO.Ab Z Z Z (AR.step Z Z Z (AO.aC Z VA (fun b2=>(AR.nil [1,2] Z ?_)))))); refine AW.seq (AW.sr (cs 1 Z (AR.step Z Z Z (AO.call Z _ Z Z YS (Ic _ _ ?_))))); refine AR.nil [2,7] Z (AW.block (AW.rangeFunc (β:=Option Int) (X:=Int × ah) Z WC (fun x=>[iP x.1,.agg (aL x.2)]) (fun _=>Z) (by decide) (fun s x=>yE s x.1 x.2) (fun s=>[.box b2 [iP (s.getD 0)]]) (fun s=>s.map fun _=>.ret) (s0:=none) (s1:=s1) Z Z ?_ ?_ ?_))
 ·
  intro l T' hy; refine Ez l T' yE (fun s1 bZ v1 b s2 hh=>hy s1 (bZ,v1) b s2 hh) none v1 1 h1 ⟨⟨_,Z⟩,Z⟩
 ·
  rintro l s ⟨bZ,x1⟩ b s2 hh; unfold yE at hh; cases s with
  | some e=>cases hh
  | none=>
  refine ⟨Z,?_⟩; refine B1 hh fun e1 h2 hh=>?_; refine xI.seq (xI.region Z (cs 1 Z (AR.nil [2,3,9] Z ?_))); refine xI.region Z (AR.step Z Z Z (AO.aC Z gK (fun b4=>(AR.bC Z Z (AO.bO (i:=0) Z Z Z kY Z Z Z Z Z (AR.nil [2,3,4] Z ?_)))))); refine ⟨Z,(xI.block (xI.seq (xI.region Z ?_)))⟩; refine AR.step Z Z Z (AO.aR (i:=0) Z Z Z kY Z Z (cs 1 Z (AR.step Z Z Z (AO.call Z _ Z Z abE (QY _ _ h2 (cs 1 Z ?_)))))); refine AR.nil [2,5] Z (xI.seq (xI.region Z (cs 2 Z ?_))); refine AR.nil [2,5,14] Z (xI.cond Z (fun h3=>?_) (fun h3=>?_))
  ·
   replace hh:=jC h3 hh; cases hh; refine xI.seq (xI.region Z (cs 1 Z (AR.bC Z Z (AO.bO (i:=1) Z Z Z BF Z Z Z Z Z ?_)))); refine AR.nil [] Z (xI.ret ?_); exact ⟨Z,.cons _ (List.Sublist.refl _),Z,Z⟩
  ·
   replace hh:=jf h3 hh; cases hh; refine xI.skip ?_; exact ⟨Z,.cons _ (List.Sublist.refl _),Z,Z⟩
 ·
  intro D; cases s1 with
  | some e=>exact ⟨D,_,Z,Z,_,⟨_,_,Z,⟨_,_,0,_,_,Z,Z,BF,Z⟩,Z⟩,[],List.nil_sublist _,h⟩
  | none=>
   show AW _ _ _ _ _ _ _; refine AW.sr (AR.bC Z Z (AO.bO (i:=0) Z Z Z BF Z Z Z Z Z (AR.nil [2] Z (AW.ret ?_)))); exact ⟨D,[_],Z,Z,_,⟨_,_,Z,⟨_,_,0,_,_,Z,Z,BF,Z⟩,Z⟩,[],List.nil_sublist _,h⟩
theorem Ke (l1:List Str) {r0:Bool} (hf:zC l1=some r0) (h:Q (.ret (.bool r0)) τ):PC 136 [sP l1] τ Q:=by
 unfold zC at hf; refine BN 22 [.tmp 2] [0] Tryz.func136 Z Z Z Z Z (W 1 Z (AS Z (AO.Ny Z (fun m6=>(U 2 Z (AS Z (AO.aT (l:=l1) Z Z Z Z jZ Z Z (J 1 Z (Vn (fun x1 y1=>[(3,.val (.map (some m6))),(7,sP l1),(8,iP (l1.length:Int)),(9,iP x1)]) (fun x1 y1=>[.obj m6 (uL y1)]) (fun b_ x1 y1=>qD l1 b_ x1 y1=some r0) BIG 0 [] Z Z hf (fun _ _ hz=>bU hz) ?_))))))))); intro b_ x1 y1 hf; rw [qD] at hf; refine V 1 Z (C hf Z (fun h1 hf=>?_) fun h1 hf=>?_)
 ·
  refine B1 hf fun s1 h2 hf=>W 0 Z (AS Z (AO.aZ h2 Z Z Z Z jZ Z Z (U 4 Z (AS Z (AO.GK (i:=0) (l:=y1) Z Z Z Z DU eH UA (U 1 Z (AR.bC Z Z (AO.IW (i:=0) (l:=y1) Z Z Z Z Z DU eH (U 2 Z (AS Z (AO.GK (i:=0) (l:=(zF y1 s1 (dG ((Cr y1 s1) + 1)))) Z Z Z Z DU eH UA ?_))))))))))); refine J 1 Z (C hf Z (fun h3 hf=>?_) fun h3 hf=>?_)
  · cases hf; exact M 1 Z (Y Z h)
  exact M 2 Z ⟨(dG (x1 + 1)),(zF y1 s1 (dG ((Cr y1 s1) + 1))),Z,Z,Z,hf⟩
 cases hf; exact M 1 Z (Y Z h)
theorem Pn (e1:aj) (bZ:Int) {r0:Int} (hf:FH e1 bZ=some r0) (h:Q (.ret (iP r0)) τ):PC 99 [.agg (bE e1),iP bZ] τ Q:=by
 unfold FH at hf; refine BN 65 [.tmp 4] [0,1] Tryz.func99 Z Z Z Z Z (V 5 Z (C hf Z (fun h1 hf=>?_) fun h1 hf=>?_))
 · cases hf; exact M 1 Z (Y Z h)
 refine W 4 Z (On 4 12 16 [2] (decide (10 < e1.kind)) Z Z Z Z ?_); refine B1 hf fun b1 h4 hf=>U 1 Z (AR.gI 10 17 27 false [2] b1 Z Z (fun h3=>?_) (fun h3=>?_) ?_)
 ·
  refine IF 17 h3 h4 Z fun h4=>?_; refine BR h4 fun b2 h6 h4=>?_; refine U 4 Z (AR.gI 5 21 26 true [2,17] b2 Z Z (fun h5=>?_) (fun h5=>?_) ?_)
  · refine IT 21 h5 h6 Z fun h6=>?_; refine B1 h6 fun x1 h7 h6=>U 2 Z (GO Z (AO.call Z _ Z Z Z0 (Pj _ h7 ?_))); cases h6; exact fZ 2 Z (En [26,2,17] Z)
  · refine IF 21 h5 h6 Z fun h6=>?_; cases h6; exact fZ 5 Z (En [26,2,17] Z)
  cases h4; exact fZ 1 Z (En [27,2] Z)
 · refine IT 17 h3 h4 Z fun h4=>?_; cases h4; exact fZ 10 Z (En [27,2] Z)
 refine B1 hf fun b3 h9 hf=>U 1 Z (AR.gI 4 28 32 false [2] b3 Z Z (fun h8=>?_) (fun h8=>?_) ?_)
 · refine IF 28 h8 h9 Z fun h9=>?_; refine B1 h9 fun x2 h10 h9=>U 1 Z (GO Z (AO.call Z _ Z Z ZY (Oc _ h10 ?_))); cases h9; exact fZ 2 Z (En [32,2] Z)
 · refine IT 28 h8 h9 Z fun h9=>?_; cases h9; exact fZ 4 Z (En [32,2] Z)
 refine B1 hf fun b4 h12 hf=>U 1 Z (AR.gI 4 33 37 false [2] b4 Z Z (fun h11=>?_) (fun h11=>?_) ?_)
 · refine IF 33 h11 h12 Z fun h12=>?_; refine B1 h12 fun x3 l6 h12=>U 1 Z (GO Z (AO.call Z _ Z Z ZX (Og _ l6 ?_))); cases h12; exact fZ 2 Z (En [37,2] Z)
 · refine IT 33 h11 h12 Z fun h12=>?_; cases h12; exact fZ 4 Z (En [37,2] Z)
 refine B1 hf fun b5 rO hf=>U 1 Z (AR.gI 4 38 42 false [2] b5 Z Z (fun lH=>?_) (fun lH=>?_) ?_)
 · refine IF 38 lH rO Z fun rO=>?_; refine B1 rO fun x4 h16 rO=>U 1 Z (GO Z (AO.call Z _ Z Z ZW (Od _ h16 ?_))); cases rO; exact fZ 2 Z (En [42,2] Z)
 · refine IT 38 lH rO Z fun rO=>?_; cases rO; exact fZ 4 Z (En [42,2] Z)
 refine J 1 Z (C hf Z (fun xM hf=>?_) fun xM hf=>?_)
 · cases hf; exact M 1 Z (Y Z h)
 refine B1 hf fun b6 h19 hf=>W 4 Z (AR.gI 5 47 52 true [2] b6 Z Z (fun h18=>?_) (fun h18=>?_) ?_)
 · refine IT 47 h18 h19 Z fun h19=>?_; refine B1 h19 fun x5 h20 h19=>U 2 Z (GO Z (AO.call Z _ Z Z YW (nD _ h20 ?_))); cases h19; exact fZ 2 Z (En [52,2] Z)
 · refine IF 47 h18 h19 Z fun h19=>?_; cases h19; exact fZ 5 Z (En [52,2] Z)
 refine J 1 Z (C hf Z (fun h21 hf=>?_) fun h21 hf=>?_)
 · refine BR hf fun x6 h22 hf=>?_; refine W 2 Z (CL Z (nD _ h22 ?_)); cases hf; exact N 1 Z (Y Z h)
 refine W 2 Z (AS Z (AO.aT (l:=e1.args) Z Z Z Z iQ Z (aj.aA _) (J 2 Z (C hf Z (fun h23 hf=>?_) fun h23 hf=>?_))))
 · cases hf; exact M 1 Z (Y Z h)
 refine B1 hf fun x7 MG hf=>W 2 Z (CL Z (Ke _ MG (J 1 Z (C hf Z (fun KL hf=>?_) fun KL hf=>?_))))
 · cases hf; exact M 1 Z (Y Z h)
 cases hf; exact M 1 Z (Y Z h)
abbrev Gv (jO:aj→Int→Option Int):Prop:=∀ (jN:aj) (kJ:Int) {bf:Int},jO jN kJ=some bf→∀ {τ:List aV} {Q:cO→List aV→Prop} (h:Q (.ret (iP bf)) τ),PC 60 [.agg (bE jN),iP kJ] τ Q
theorem MS (jO) (KN:Gv jO) (e1:aj) (bZ:Int) {r0:Int} (hf:Au jO e1 bZ=some r0) (h:Q (.ret (iP r0)) τ):PC 60 [.agg (bE e1),iP bZ] τ Q:=by
 unfold Au at hf; refine BN 30 [.tmp 4] [0,1] Tryz.func60 Z Z Z Z Z ?_; refine B1 hf fun f1 h1 hf=>W 4 Z (CL Z (Pn _ _ h1 (J 3 Z (C hf Z (fun h2 hf=>?_) fun h2 hf=>?_))))
 · cases hf; exact M 2 Z (Y Z h)
 refine W 2 Z (AS Z (AO.aT (l:=e1.args) Z Z Z Z iQ Z (aj.aA _) (J 1 Z (Kl (fun x1=>[(1,iP bZ),(16,.list (aj.aK e1.args)),(17,iP (e1.args.length:Int)),(18,iP x1)]) (fun x1=>[]) (fun b_ x1=>vE jO e1 bZ b_ x1=some r0) BIG 0 Z Z hf (fun _ hz=>bU hz) ?_)))); intro b_ x1 hf; rw [vE] at hf; refine V 1 Z (C hf Z (fun h3 hf=>?_) fun h3 hf=>?_)
 ·
  refine B1 hf fun e2 h4 hf=>W 0 Z (AS Z (AO.aZ h4 Z Z (aj.aA _) Z iQ (aj.aF _) Z (U 1 Z (AS Z (AO.aC Z iO (fun b7=>?_)))))); refine B1 hf fun f2 h5 hf=>Rr 4 [0,0] Z Z (CL Z (KN _ _ h5 (J 3 Z (C hf Z (fun h6 hf=>?_) fun h6 hf=>?_))))
  · cases hf; exact M 2 Z (Y Z h)
  refine XY 2 Z (AR.drop1 ?_); exact N 0 Z ⟨(dG (x1 + 1)),Z,Z,Z,hf⟩
 cases hf; exact M 1 Z (Y Z h)
theorem Ns :∀ k:Nat,(Gv (sG k)):=by
 intro k
 induction k with
 | zero=>exact fun _ _ _ hz=>by first | cases hz | (unfold sG at hz; cases hz)
 | succ k ih=>exact fun jN kJ bf hz τ Q hq=>MS (sG k) ih jN kJ hz hq
theorem Oa (jN:aj) (kJ:Int) {bf:Int} (hf:JH jN kJ=some bf) (h:Q (.ret (iP bf)) τ):PC 60 [.agg (bE jN),iP kJ] τ Q:=
 ((Ns BIG)) jN kJ hf h
theorem qg (e1:aj) {r0:Int} (hf:oI e1=some r0) (h:Q (.ret (iP r0)) τ):PC 35 [.agg (bE e1)] τ Q:=by
 unfold oI at hf; refine BN 8 [.tmp 2] [0] Tryz.func35 Z Z Z Z Z ?_; refine B1 hf fun x1 h1 hf=>W 3 Z (CL Z (Oi _ h1 (J 1 Z (C hf Z (fun h2 hf=>?_) fun h2 hf=>?_))))
 · cases hf; exact M 1 Z (Y Z h)
 refine BR hf fun x2 h3 hf=>?_; refine W 1 Z (CL Z (Oa _ _ h3 ?_)); cases hf; exact N 1 Z (Y Z h)
theorem Gp (s1:Str) {r0:Bool} (hf:z8 s1=some r0) (h:Q (.ret (.bool r0)) τ):PC 111 [.str s1] τ Q:=by
 unfold z8 at hf; refine BN 7 [.tmp 2] [0] Tryz.func111 Z Z Z Z Z ?_; refine B1 hf fun x1 h1 hf=>W 3 Z (CL Z (qg _ h1 ?_)); cases hf; exact N 2 Z (Y Z h)
theorem HY (b1:au) {r0:Int} (hf:xw b1=some r0) (h:Q (.ret (iP r0)) τ):PC 112 [.agg (dR b1)] τ Q:=by
 unfold xw at hf; refine BN 36 [.tmp 2] [0] Tryz.func112 Z Z Z Z Z (W 2 Z (AS Z (AO.Ny Z (fun m7=>(U 3 Z (AS Z (AO.aT (l:=b1.attrs) Z Z Z Z qp Z Z (J 1 Z (Vn (fun x1 y1=>[(3,.val (.map (some m7))),(9,.list (List.map aM.cells b1.attrs)),(10,iP (b1.attrs.length:Int)),(11,iP x1)]) (fun x1 y1=>[.obj m7 (uL y1)]) (fun b_ x1 y1=>oP b1 b_ x1 y1=some r0) BIG 0 [] Z Z hf (fun _ _ hz=>bU hz) ?_))))))))); intro b_ x1 y1 hf; rw [oP] at hf; refine V 1 Z (C hf Z (fun h1 hf=>?_) fun h1 hf=>?_)
 ·
  refine B1 hf fun e1 h2 hf=>W 0 Z (AS Z (AO.aZ h2 Z Z Z Z qp (aM.aF _) Z (U 1 Z (AS Z (AO.aC Z MJ (fun b5=>?_)))))); refine B1 hf fun x2 h3 hf=>Rr 3 [0,0] Z Z (CL Z (Gp _ h3 (J 1 Z (C hf Z (fun h4 hf=>?_) fun h4 hf=>?_))))
  · cases hf; exact M 1 Z (Y Z h)
  refine B1 hf fun e2 h5 hf=>Wr 2 [0] Z Z (CL Z (qg _ h5 (J 3 Z (C hf Z (fun h6 hf=>?_) fun h6 hf=>?_))))
  · cases hf; exact M 2 Z (Y Z h)
  refine Wr 3 [0] Z Z (AS Z (AO.GK (i:=1) (l:=y1) Z Z Z Z DU eH UA (U 1 Z (AR.bC Z Z (AO.IW (i:=1) (l:=y1) Z Z Z Z Z DU eH (Rr 3 [0] Z Z (AS Z (AO.GK (i:=1) (l:=(zF y1 e1.name (dG ((Cr y1 e1.name) + 1)))) Z Z Z Z DU eH UA (J 1 Z (C hf Z (fun h7 hf=>?_) fun h7 hf=>?_))))))))))
  · cases hf; exact M 1 Z (Y Z h)
  refine XY 2 Z (AR.drop1 ?_); exact N 0 Z ⟨(dG (x1 + 1)),(zF y1 e1.name (dG ((Cr y1 e1.name) + 1))),Z,Z,Z,hf⟩
 cases hf; exact M 1 Z (Y Z h)
abbrev Gy (jR:au→Int→Option Int):Prop:=∀ (qN:au) (kJ:Int) {bf:Int},jR qN kJ=some bf→∀ {τ:List aV} {Q:cO→List aV→Prop} (h:Q (.ret (iP bf)) τ),PC 77 [.agg (dR qN),iP kJ] τ Q
theorem MW (jR) (KQ:Gy jR) (b1:au) (bZ:Int) {r0:Int} (hf:Ba jR b1 bZ=some r0) (h:Q (.ret (iP r0)) τ):PC 77 [.agg (dR b1),iP bZ] τ Q:=by
 unfold Ba at hf; refine BN 54 [.tmp 4] [0,1] Tryz.func77 Z Z Z Z Z (V 5 Z (C hf Z (fun h1 hf=>?_) fun h1 hf=>?_))
 · cases hf; exact M 1 Z (Y Z h)
 refine B1 hf fun x1 h2 hf=>W 2 Z (CL Z (Gp _ h2 (U 2 Z (AR.or 5 17 22 [1,2] (x:=(decide (64 < (b1.name.length:Int)))) Z Z (fun h3=>?_) (fun h3=>?_) ?_))))
 · refine Is 17 h3 Z (U 2 Z (GO Z (AO.dO Z Z Z Z eH Z ?_))); exact fZ 2 Z (En [22,1,2] Z)
 · refine Is 17 h3 Z ?_; exact fZ 5 Z (En [22,1,2] Z)
 refine J 1 Z (C hf Z (fun h4 hf=>?_) fun h4 hf=>?_)
 · cases hf; exact M 1 Z (Y Z h)
 refine W 2 Z (AS Z (AO.aT (l:=b1.attrs) Z Z Z Z qp Z Z (U 2 Z (AR.or 5 28 33 [1,2] (x:=(decide (1024 < (b1.blocks.length:Int)))) Z Z (fun h5=>?_) (fun h5=>?_) ?_))))
 · refine Is 28 h5 Z (U 2 Z (GO Z (AO.aT (l:=b1.blocks) Z Z Z Z kG Z (au.aA _) ?_))); exact fZ 2 Z (En [33,1,2] Z)
 · refine Is 28 h5 Z ?_; exact fZ 5 Z (En [33,1,2] Z)
 refine J 1 Z (C hf Z (fun h6 hf=>?_) fun h6 hf=>?_)
 · cases hf; exact M 1 Z (Y Z h)
 refine B1 hf fun e1 h7 hf=>W 1 Z (CL Z (HY _ h7 (J 3 Z (C hf Z (fun h8 hf=>?_) fun h8 hf=>?_))))
 · cases hf; exact M 2 Z (Y Z h)
 refine W 2 Z (AS Z (AO.aT (l:=b1.blocks) Z Z Z Z kG Z (au.aA _) (J 1 Z (Kl (fun x2=>[(1,iP bZ),(40,.list (au.aK b1.blocks)),(41,iP (b1.blocks.length:Int)),(42,iP x2)]) (fun x2=>[]) (fun b_ x2=>vI jR b1 bZ b_ x2=some r0) BIG 0 Z Z hf (fun _ hz=>bU hz) ?_)))); intro b_ x2 hf; rw [vI] at hf; refine V 1 Z (C hf Z (fun h9 hf=>?_) fun h9 hf=>?_)
 ·
  refine B1 hf fun e2 h10 hf=>W 0 Z (AS Z (AO.aZ h10 Z Z (au.aA _) Z kG (au.aF _) Z (U 1 Z (AS Z (AO.aC Z nK (fun b7=>?_)))))); refine B1 hf fun e3 h11 hf=>Rr 4 [0,0] Z Z (CL Z (KQ _ _ h11 (J 3 Z (C hf Z (fun h12 hf=>?_) fun h12 hf=>?_))))
  · cases hf; exact M 2 Z (Y Z h)
  refine XY 2 Z (AR.drop1 ?_); exact N 0 Z ⟨(dG (x2 + 1)),Z,Z,Z,hf⟩
 cases hf; exact M 1 Z (Y Z h)
theorem Nv :∀ k:Nat,(Gy (tJ k)):=by
 intro k
 induction k with
 | zero=>exact fun _ _ _ hz=>by first | cases hz | (unfold tJ at hz; cases hz)
 | succ k ih=>exact fun qN kJ bf hz τ Q hq=>MW (tJ k) ih qN kJ hz hq
theorem OA (qN:au) (kJ:Int) {bf:Int} (hf:oO qN kJ=some bf) (h:Q (.ret (iP bf)) τ):PC 77 [.agg (dR qN),iP kJ] τ Q:=
 ((Nv BIG)) qN kJ hf h
theorem Bh (f1:bX) {r0:Int} (hf:oQ f1=some r0) (h:Q (.ret (iP r0)) τ):PC 47 [.agg [.list (au.aK f1.blocks)]] τ Q:=by
 unfold oQ at hf; refine BN 23 [.tmp 2] [0] Tryz.func47 Z Z Z Z Z (W 4 Z (AS Z (AO.aT (l:=f1.blocks) Z Z Z Z kG Z (au.aA _) (J 1 Z (C hf Z (fun h1 hf=>?_) fun h1 hf=>?_)))))
 · cases hf; exact M 1 Z (Y Z h)
 refine W 2 Z (AS Z (AO.aT (l:=f1.blocks) Z Z Z Z kG Z (au.aA _) (J 1 Z (Kl (fun x1=>[(11,.list (au.aK f1.blocks)),(12,iP (f1.blocks.length:Int)),(13,iP x1)]) (fun x1=>[]) (fun b_ x1=>lM f1 b_ x1=some r0) BIG 0 Z Z hf (fun _ hz=>bU hz) ?_)))); intro b_ x1 hf; rw [lM] at hf; refine V 1 Z (C hf Z (fun h2 hf=>?_) fun h2 hf=>?_)
 ·
  refine B1 hf fun e1 h3 hf=>W 0 Z (AS Z (AO.aZ h3 Z Z (au.aA _) Z kG (au.aF _) Z (U 1 Z (AS Z (AO.aC Z nK (fun b4=>?_)))))); refine B1 hf fun e2 h4 hf=>Rr 2 [0,0] Z Z (CL Z (OA _ _ h4 (J 3 Z (C hf Z (fun h5 hf=>?_) fun h5 hf=>?_))))
  · cases hf; exact M 2 Z (Y Z h)
  refine XY 2 Z (AR.drop1 ?_); exact N 0 Z ⟨(dG (x1 + 1)),Z,Z,Z,hf⟩
 cases hf; exact M 1 Z (Y Z h)
theorem Jg (s1:List aM) {r0:List aM} (hf:dW s1=some r0) (h:Q (.ret (.list (List.map aM.cells r0))) τ):PC 113 [.list (List.map aM.cells s1)] τ Q:=by
 unfold dW at hf; refine BN 8 [.tmp 2] [0] Tryz.func113 Z Z Z Z Z (W 0 Z (AS Z (AO.d9 Z Z (U 1 Z (AS Z (AO.g_ Z Z TT (fun b hb=>(J 0 Z (AW.cond Z (fun h1=>?_) (fun h1=>?_))))))))))
 · obtain rfl:s1=[]:=List.map_eq_nil_iff.1 (hb h1); obtain ⟨_,rfl⟩:=jM hf; refine W 0 Z (AS Z (AO.d9 Z Z ?_)); exact N 0 rfl ⟨rfl,_,⟨_,_,rfl,rfl,rfl⟩,_,List.Sublist.refl _,h⟩
 refine W 0 Z (AS Z (AO.fC [] Z xL Z Z Z Z Z (fun v1=>(U 1 Z (AS Z (AO.eB (i:=0) (l:=[]) (m:=s1) hf Z Z Z Z Z Z Z xL qp Z Z Z (aM.bB) (aM.cells_one) (by decide) (fun v2 s2 hs2=>?_))))))); cases hs2; exact N 1 Z (Y Z h)
theorem Gg (s1:List aM) {r0:List aM} (hf:dW s1=some r0) {Q:cO→List aV→Prop} (h:∀ v,Q (.ret (.val v)) [.buf v r0.length 11 48 (r0.flatMap aM.cells)]):PC 113 [.list (List.map aM.cells s1)] [] Q:=by
 unfold dW at hf; obtain ⟨hl,e0⟩:=jM hf; rw [List.nil_append] at e0; subst e0; simp only [List.length_nil,Nat.zero_add] at hl; have hlen:∀ x:aM,(aM.cells x).length=11:=fun _=>Z; have hone:∀ x:aM,(aM.cells x).all PV.one=true:=fun _=>Z; refine AC.jA 8 [.tmp 2] [0] Tryz.func113 Z Z Z Z Z (AW.sr (AR.step Z Z Z (AO.d9 Z Z (AR.nil [0] Z ?_)))); refine AW.seq (AW.sr (cs 1 Z (AR.step Z Z Z (AO.g_ Z Z TT (fun b hb=>?_))))); refine AR.nil [0,4] Z (AW.cond Z (fun h1=>?_) (fun h1=>?_))
 · obtain rfl:r0=[]:=List.map_eq_nil_iff.1 (hb h1); refine AW.sr (AR.step Z Z Z (AO.wO Z Z (AR.nil [2] Z (AW.PD 11 48 ?_)))); refine AW.ret ?_; exact ⟨rfl,_,⟨_,_,rfl,rfl,rfl⟩,_,List.Sublist.refl _,h _⟩
 refine AW.skip (AW.sr (AR.step Z Z Z (AO.fC [] Z xL Z Z Z Z Z (fun v1=>(cs 1 Z ?_))))); refine AR.step Z Z Z (AO.yB (i:=0) (l2:=List.map aM.cells r0) Z Z Z Z Z Z Z xL qp (fun y hy=>?_) (fun y hy=>?_) ?_ ?_ (fun v2 s1 hs1=>?_))
 · obtain ⟨s,_,rfl⟩:=List.mem_map.1 hy; exact hlen s
 · obtain ⟨s,_,rfl⟩:=List.mem_map.1 hy; exact hone s
 · rw [List.length_map]; unfold LK at hl; unfold maxLen; omega
 · rw [List.length_map]; unfold LK at hl; omega
 cases hs1; refine cs 1 Z (AR.nil [2] Z (AW.ret ?_)); have hv:=h v2; rw [List.flatMap_def,show r0.length=(List.map aM.cells r0).length from (List.length_map _).symm] at hv; exact ⟨rfl,_,⟨_,_,rfl,rfl,rfl⟩,_,List.Sublist.refl _,hv⟩
theorem Gf (s1:List aM) {r0:List aM} (hf:dW s1=some r0) {Q:cO→List aV→Prop} (h:∀ v,Q (.ret (.own v (List.map aM.cells r0))) [.row v (List.map aM.cells r0).length 11 48]):PC 113 [.list (List.map aM.cells s1)] [] Q:=by
 unfold dW at hf; refine AC.yT 8 [.tmp 2] [0] Tryz.func113 Z Z Z Z Z (AW.sr (AR.step Z Z Z (AO.d9 Z Z (AR.nil [0] Z ?_)))); refine AW.seq (AW.sr (cs 1 Z (AR.step Z Z Z (AO.g_ Z Z TT (fun b hb=>?_))))); refine AR.nil [0,4] Z (AW.cond Z (fun h1=>?_) (fun h1=>?_))
 · obtain rfl:s1=[]:=List.map_eq_nil_iff.1 (hb h1); obtain ⟨_,rfl⟩:=jM hf; refine AW.sr (cs 1 Z (AR.nil [2] Z (AW.row 11 48 ?_))); refine AW.ret ?_; exact ⟨rfl,_,⟨_,_,rfl,rfl,rfl⟩,_,List.Sublist.refl _,h _⟩
 refine AW.skip (AW.sr (AR.step Z Z Z (AO.fC [] Z xL Z Z Z Z Z (fun v1=>(cs 1 Z ?_))))); refine AR.step Z Z Z (AO.eB (i:=0) (l:=[]) (m:=s1) hf Z Z Z Z Z Z Z xL qp Z Z Z (aM.bB) (aM.cells_one) (by decide) (fun v2 s2 hs2=>?_)); cases hs2; refine cs 1 Z (AR.nil [2] Z (AW.ret ?_)); exact ⟨rfl,_,⟨_,_,rfl,rfl,rfl⟩,_,List.Sublist.refl _,h v2⟩
theorem l5 (s1:List Str) {r0:List Str} (hf:gF s1=some r0) (h:Q (.ret (sP r0)) τ):PC 42 [sP s1] τ Q:=by
 unfold gF at hf; refine BN 8 [.tmp 2] [0] Tryz.func42 Z Z Z Z Z (W 0 Z (AS Z (AO.d9 Z Z (U 1 Z (AS Z (AO.g_ Z Z YH (fun b hb=>(J 0 Z (AW.cond Z (fun h1=>?_) (fun h1=>?_))))))))))
 · obtain rfl:s1=[]:=List.map_eq_nil_iff.1 (hb h1); obtain ⟨_,rfl⟩:=jM hf; refine W 0 Z (AS Z (AO.d9 Z Z ?_)); exact N 0 rfl ⟨rfl,_,⟨_,_,rfl,rfl,rfl⟩,_,List.Sublist.refl _,h⟩
 refine W 0 Z (AS Z (AO.fC [] Z qm Z Z Z Z Z (fun v1=>(U 1 Z (AS Z (AO.eB (i:=0) (l:=[]) (m:=s1) hf Z Z Z Z Z Z Z qm jZ Z Z Z (fun _=>Z) (fun _=>Z) (by decide) (fun v2 s2 hs2=>?_))))))); cases hs2; exact N 1 Z (Y Z h)
theorem Je (s1:List Str) {r0:List Str} (hf:gF s1=some r0) {Q:cO→List aV→Prop} (h:∀ v,Q (.ret (.own v (List.map l8 r0))) [.row v (List.map l8 r0).length 1 9]):PC 42 [sP s1] [] Q:=by
 unfold gF at hf; refine AC.yT 8 [.tmp 2] [0] Tryz.func42 Z Z Z Z Z (AW.sr (AR.step Z Z Z (AO.d9 Z Z (AR.nil [0] Z ?_)))); refine AW.seq (AW.sr (cs 1 Z (AR.step Z Z Z (AO.g_ Z Z YH (fun b hb=>?_))))); refine AR.nil [0,4] Z (AW.cond Z (fun h1=>?_) (fun h1=>?_))
 · obtain rfl:s1=[]:=List.map_eq_nil_iff.1 (hb h1); obtain ⟨_,rfl⟩:=jM hf; refine AW.sr (cs 1 Z (AR.nil [2] Z (AW.row 1 9 ?_))); refine AW.ret ?_; exact ⟨rfl,_,⟨_,_,rfl,rfl,rfl⟩,_,List.Sublist.refl _,h _⟩
 refine AW.skip (AW.sr (AR.step Z Z Z (AO.fC [] Z qm Z Z Z Z Z (fun v1=>(cs 1 Z ?_))))); refine AR.step Z Z Z (AO.eB (i:=0) (l:=[]) (m:=s1) hf Z Z Z Z Z Z Z qm jZ Z Z Z (fun _=>Z) (fun _=>Z) (by decide) (fun v2 s2 hs2=>?_)); cases hs2; refine cs 1 Z (AR.nil [2] Z (AW.ret ?_)); exact ⟨rfl,_,⟨_,_,rfl,rfl,rfl⟩,_,List.Sublist.refl _,h v2⟩
theorem Hy (s1:List ah) {r0:List ah} (hf:eY s1=some r0) (h:Q (.ret (.list (ah.aK r0))) τ):PC 43 [.list (ah.aK s1)] τ Q:=by
 unfold eY at hf; refine BN 8 [.tmp 2] [0] Tryz.func43 Z Z Z Z Z (W 0 Z (AS Z (AO.d9 Z Z (U 1 Z (AS Z (AO.g_ Z Z VK (fun b hb=>(J 0 Z (AW.cond Z (fun h1=>?_) (fun h1=>?_))))))))))
 · have hb1:=hb h1; rw [ah.aA] at hb1; obtain rfl:s1=[]:=List.map_eq_nil_iff.1 hb1; obtain ⟨_,rfl⟩:=jM hf; refine W 0 Z (AS Z (AO.d9 Z Z ?_)); exact N 0 rfl ⟨rfl,_,⟨_,_,rfl,rfl,rfl⟩,_,List.Sublist.refl _,h⟩
 refine W 0 Z (AS Z (AO.fC [] Z vW Z Z Z Z Z (fun v1=>(U 1 Z (AS Z (AO.eB (i:=0) (l:=[]) (m:=s1) hf Z Z Z Z Z Z Z vW iR (show ([]:List (List PV))=List.map ah.cells [] from Z) (ah.aA _) (ah.aA _).symm (ah.bB) (ah.cells_one) (by decide) (fun v2 s2 hs2=>?_))))))); cases hs2; exact N 1 Z (Y Z h)
theorem ET (s1:List ah) {r0:List ah} (hf:eY s1=some r0) {Q:cO→List aV→Prop} (h:∀ v,Q (.ret (.own v (ah.aK r0))) [.row v (ah.aK r0).length 6 42]):PC 43 [.list (ah.aK s1)] [] Q:=by
 unfold eY at hf; refine AC.yT 8 [.tmp 2] [0] Tryz.func43 Z Z Z Z Z (AW.sr (AR.step Z Z Z (AO.d9 Z Z (AR.nil [0] Z ?_)))); refine AW.seq (AW.sr (cs 1 Z (AR.step Z Z Z (AO.g_ Z Z VK (fun b hb=>?_))))); refine AR.nil [0,4] Z (AW.cond Z (fun h1=>?_) (fun h1=>?_))
 · have hb1:=hb h1; rw [ah.aA] at hb1; obtain rfl:s1=[]:=List.map_eq_nil_iff.1 hb1; obtain ⟨_,rfl⟩:=jM hf; refine AW.sr (cs 1 Z (AR.nil [2] Z (AW.row 6 42 ?_))); refine AW.ret ?_; exact ⟨rfl,_,⟨_,_,rfl,rfl,rfl⟩,_,List.Sublist.refl _,h _⟩
 refine AW.skip (AW.sr (AR.step Z Z Z (AO.fC [] Z vW Z Z Z Z Z (fun v1=>(cs 1 Z ?_))))); refine AR.step Z Z Z (AO.eB (i:=0) (l:=[]) (m:=s1) hf Z Z Z Z Z Z Z vW iR (show ([]:List (List PV))=List.map ah.cells [] from Z) (ah.aA _) (ah.aA _).symm (ah.bB) (ah.cells_one) (by decide) (fun v2 s2 hs2=>?_)); cases hs2; refine cs 1 Z (AR.nil [2] Z (AW.ret ?_)); exact ⟨rfl,_,⟨_,_,rfl,rfl,rfl⟩,_,List.Sublist.refl _,h v2⟩
theorem rV (s1:List ah) {r0:List ah} (hf:eY s1=some r0) {Q:cO→List aV→Prop} (h:∀ v,Q (.ret (.val v)) [.buf v r0.length 6 42 (r0.flatMap ah.cells)]):PC 43 [.list (ah.aK s1)] [] Q:=by
 unfold eY at hf; obtain ⟨hl,hr⟩:=jM hf; rw [hr,List.nil_append] at h; rw [List.length_nil,Nat.zero_add] at hl; rw [ah.aA]; refine AC.jA 8 [.tmp 2] [0] Tryz.func43 Z Z Z Z Z (AW.sr (AR.step Z Z Z (AO.d9 Z Z (AR.nil [0] Z ?_)))); refine AW.seq (AW.sr (cs 1 Z (AR.step Z Z Z (AO.g_ Z Z VK (fun b hb=>?_))))); refine AR.nil [0,4] Z (AW.cond Z (fun h1=>?_) (fun h1=>?_))
 · obtain rfl:s1=[]:=List.map_eq_nil_iff.1 (hb h1); refine AW.sr (AR.step Z Z Z (AO.wO Z Z (AR.nil [2] Z (AW.PD 6 42 ?_)))); refine AW.ret ?_; exact ⟨rfl,_,⟨_,_,rfl,rfl,rfl⟩,_,List.Sublist.refl _,h _⟩
 refine AW.skip (AW.sr (AR.step Z Z Z (AO.fC [] Z vW Z Z Z Z Z (fun v1=>(cs 1 Z ?_))))); refine AR.step Z Z Z (AO.yB (i:=0) (l2:=List.map ah.cells s1) Z Z Z Z Z Z Z vW iR (fun y hy=>?_) (fun y hy=>?_) ?_ ?_ (fun v2 s1 hs1=>?_))
 · obtain ⟨s,_,rfl⟩:=List.mem_map.1 hy; exact ah.bB s
 · obtain ⟨s,_,rfl⟩:=List.mem_map.1 hy; exact ah.cells_one s
 · rw [List.length_map]; unfold LK at hl; unfold maxLen; omega
 · rw [List.length_map]; unfold LK at hl; omega
 cases hs1; refine cs 1 Z (AR.nil [2] Z (AW.ret ?_)); have hv:=h v2; rw [List.flatMap_def,show s1.length=(List.map ah.cells s1).length from (List.length_map _).symm] at hv; exact ⟨rfl,_,⟨_,_,rfl,rfl,rfl⟩,_,List.Sublist.refl _,hv⟩
theorem E5 (go:ah→Option ah) (Yn:∀ (x:ah) {r0:ah},go x=some r0→∀ {τ:List aV} {Q:cO→List aV→Prop},Q (.ret (.agg (aL r0))) τ→PC 23 [.agg (aL x)] τ Q) (v1:ah) {r0:ah} (hf:sD go v1=some r0) (h:Q (.ret (.agg (aL r0))) τ):PC 23 [.agg (aL v1)] τ Q:=by
 unfold sD at hf; refine B1 hf fun k1 hk1 hf=>B1 hf fun l1 hl1 hf=>B1 hf fun l2 hl2 hf=>?_; cases hf; refine AC.none (AC.jA 30 [.cell 2 42] [0] Tryz.func23 Z Z Z Z Z (AW.sr (AR.step Z Z Z (AO.G5 Z Z (fun b1=>?_))))); refine AR.step Z Z Z (AO.aC Z gK (fun b2=>(AR.nil [1,2] Z (AW.sr (cs 1 Z ?_))))); refine AR.step Z Z Z (AO.aR (i:=1) Z Z Z TW Z Z (AR.step Z Z Z (AO.call Z _ Z Z YU (l5 _ hk1 (cs 1 Z (AR.bC Z Z (AO.bO (i:=1) Z Z Z TW Z Z Z Z Z ?_))))))); refine AR.nil [1,2] Z (AW.sr (cs 1 Z (AR.step Z Z Z (AO.aR (i:=1) Z Z Z Fq Z Z ?_)))); refine AR.step Z Z Z (AO.call Z _ Z Z abK (AC.none (rV _ hl1 (fun v3=>(cs 1 Z (AR.GZ 0 Z (fun hv1 hv2=>(AR.bC Z Z (AO.bO (i:=2) Z Z Z Fq hv1 hv2 Z Z Z ?_))))))))); refine AR.nil [1,2] Z (AW.seq (AW.sr (cs 1 Z ?_))); refine AR.step Z Z Z (AO.aR (i:=2) Z Z Z Fq Z Z (AR.step Z Z Z (AO.JL (i:=0) Z Z Z Z iR Z Z (cs 1 Z (AR.nil [1,2,14,15] Z ?_))))); refine AW.block (AW.settle [1,2,14,15] Z ?_); refine AW.KH (fun (l:List ah) (i:Int)=>[(1,pP b1),(2,pP b2),(14,iP (l1.length:Int)),(15,iP i)]) (fun (l:List ah) (i:Int)=>[.buf v3 l1.length 6 42 (l.flatMap ah.cells),.box b2 [iP 0,.bool false,iP 0,.str ([]:Str),.own (.slice none 0 0) [],.own (.slice none 0 0) []],.box b1 [iP v1.kind,.bool v1.je,iP v1.jm,.str v1.iK,.val v3,sP k1]]) (fun kk l i=>l.length=l1.length∧nS go (l1.length:Int) kk l i=some l2) BIG l1 0 Z Z ⟨Z,hl2⟩ (fun _ _ hz=>bU hz.2) ?_; rintro kk l i ⟨hlen,hf⟩; rw [nS] at hf; refine AW.sr (cs 1 Z (AR.nil [1,2,14,15,16] Z (AW.seq ?_))); refine AW.cond Z (fun h1=>?_) (fun h1=>?_)
 ·
  replace hf:=jC h1 hf; refine B1 hf fun e1 he1 hf=>B1 hf fun x1 hx1 hf=>?_; obtain ⟨hi0,he1⟩:=sV he1; obtain ⟨hlt,he1⟩:=List.getElem?_eq_some_iff.1 he1; refine AW.skip (AW.seq (AW.block (AW.sr ?_))); refine cs 2 Z (AR.nil [1,2,3,14,15] Z (AW.draw 10 mixed (by kernel_rfl) Z ?_)); refine Ev.cs bJ 1 Z (Ev.cons Z Z Z (AO.aR (i:=2) Z Z Z Fq Z Z zg) (Ev.cs bJ 2 Z (Ev.cons Z Z Z (AO.aR (i:=2) Z Z Z Fq Z Z zg) ?_))); refine Ev.cs bJ 1 Z (Ev.cons Z Z Z (AO.kW (i:=0) (sz:=6) Z Z Z Z iR hi0 (by omega) zg) ?_); refine Ev.cons Z Z Z (AO.C_ (i:=0) Z Z Z kY (by rw [qc ah.bB]; omega) (by rw [xY ah.bB l i.toNat hlt,he1,ah.aF]; rfl) zg) ?_; refine Ev.cons Z Z Z (AO.call Z _ Z Z Uj (Yn _ hx1 zg)) (Ev.cons Z Z Z (AO.kW (i:=0) (sz:=6) Z Z Z Z iR hi0 (by omega) zg) ?_); refine Ev.nil ?_; show AR _ _ _ _ _ _ _ _; refine AR.bC Z Z (AO.Ao (i:=0) (cs':=(l.set i.toNat x1).flatMap ah.cells) Z Z Z kY Z Z Z (Nat.succ_pos _) (by rw [qc ah.bB]; simp only [List.length_cons,List.length_nil]; omega) (KR ah.bB l _ hlt _ x1 (ah.aF _).symm) Z ?_); refine AR.nil [1,2,14,15] Z (AW.region (cs 2 Z (AR.nil [1,2,14,15] Z ?_))); exact ⟨_,_,Z,Z,Z,(List.length_set ..).trans hlen,hf⟩
 obtain rfl:=Option.some.inj (jf h1 hf); refine AW.exit (AW.QJ (q:=4) 0 2 (List.map ah.cells l) rfl rfl rfl (List.flatMap_def ..).symm (fun x hx=>by obtain ⟨s,_,rfl⟩:=List.mem_map.1 hx; exact ah.bB s) (by rw [List.length_map,hlen]) ?_); refine AW.sr (AR.step Z Z Z (AO.aR (i:=2) Z Z Z kY Z Z (AR.bC Z Z (AO.bO (i:=1) Z Z Z kY Z Z Z Z Z (AR.nil [2] Z ?_))))); refine AW.ret ?_; have h':Q (.ret (.agg [iP v1.kind,.bool v1.je,iP v1.jm,.str v1.iK,.list (List.map ah.cells l),sP k1])) τ:=by rw [←ah.aA]; exact h
 exact ⟨rfl,_,⟨_,_,rfl,⟨_,_,1,_,_,rfl,rfl,kY,rfl⟩,rfl⟩,[],List.nil_sublist _,h'⟩
theorem yU :∀ (k:Nat) (x:ah) {r0:ah},oD k x=some r0→∀ {τ:List aV} {Q:cO→List aV→Prop},Q (.ret (.agg (aL r0))) τ→PC 23 [.agg (aL x)] τ Q
 | 0,_,_,hz,_,_,_=>bU hz
 | k + 1,x,_,hz,_,_,hq=>E5 (oD k) (yU k) x hz hq
theorem tL (v1:ah) {r0:ah} (hf:qA v1=some r0) (h:Q (.ret (.agg (aL r0))) τ):PC 23 [.agg (aL v1)] τ Q:=by
 exact yU BIG v1 hf h
theorem Jf (s1:List aj) {r0:List aj} (hf:fE s1=some r0) (h:Q (.ret (.list (aj.aK r0))) τ):PC 168 [.list (aj.aK s1)] τ Q:=by
 unfold fE at hf; refine BN 8 [.tmp 2] [0] Tryz.func168 Z Z Z Z Z (W 0 Z (AS Z (AO.d9 Z Z (U 1 Z (AS Z (AO.g_ Z Z VJ (fun b hb=>(J 0 Z (AW.cond Z (fun h1=>?_) (fun h1=>?_))))))))))
 · have hb1:=hb h1; rw [aj.aA] at hb1; obtain rfl:s1=[]:=List.map_eq_nil_iff.1 hb1; obtain ⟨_,rfl⟩:=jM hf; refine W 0 Z (AS Z (AO.d9 Z Z ?_)); exact N 0 rfl ⟨rfl,_,⟨_,_,rfl,rfl,rfl⟩,_,List.Sublist.refl _,h⟩
 refine W 0 Z (AS Z (AO.fC [] Z uU Z Z Z Z Z (fun v1=>(U 1 Z (AS Z (AO.eB (i:=0) (l:=[]) (m:=s1) hf Z Z Z Z Z Z Z uU iQ (show ([]:List (List PV))=List.map aj.cells [] from Z) (aj.aA _) (aj.aA _).symm (aj.bB) (aj.cells_one) (by decide) (fun v2 s2 hs2=>?_))))))); cases hs2; exact N 1 Z (Y Z h)
theorem Gd (s1:List aj) {r0:List aj} (hf:fE s1=some r0) {Q:cO→List aV→Prop} (h:∀ v,Q (.ret (.own v (aj.aK r0))) [.row v (aj.aK r0).length 10 45]):PC 168 [.list (aj.aK s1)] [] Q:=by
 unfold fE at hf; refine AC.yT 8 [.tmp 2] [0] Tryz.func168 Z Z Z Z Z (AW.sr (AR.step Z Z Z (AO.d9 Z Z (AR.nil [0] Z ?_)))); refine AW.seq (AW.sr (cs 1 Z (AR.step Z Z Z (AO.g_ Z Z VJ (fun b hb=>?_))))); refine AR.nil [0,4] Z (AW.cond Z (fun h1=>?_) (fun h1=>?_))
 · have hb1:=hb h1; rw [aj.aA] at hb1; obtain rfl:s1=[]:=List.map_eq_nil_iff.1 hb1; obtain ⟨_,rfl⟩:=jM hf; refine AW.sr (cs 1 Z (AR.nil [2] Z (AW.row 10 45 ?_))); refine AW.ret ?_; exact ⟨rfl,_,⟨_,_,rfl,rfl,rfl⟩,_,List.Sublist.refl _,h _⟩
 refine AW.skip (AW.sr (AR.step Z Z Z (AO.fC [] Z uU Z Z Z Z Z (fun v1=>(cs 1 Z ?_))))); refine AR.step Z Z Z (AO.eB (i:=0) (l:=[]) (m:=s1) hf Z Z Z Z Z Z Z uU iQ (show ([]:List (List PV))=List.map aj.cells [] from Z) (aj.aA _) (aj.aA _).symm (aj.bB) (aj.cells_one) (by decide) (fun v2 s2 hs2=>?_)); cases hs2; refine cs 1 Z (AR.nil [2] Z (AW.ret ?_)); exact ⟨rfl,_,⟨_,_,rfl,rfl,rfl⟩,_,List.Sublist.refl _,h v2⟩
theorem uq (s1:List aj) {r0:List aj} (hf:fE s1=some r0) {Q:cO→List aV→Prop} (h:∀ v,Q (.ret (.val v)) [.buf v r0.length 10 45 (r0.flatMap aj.cells)]):PC 168 [.list (aj.aK s1)] [] Q:=by
 unfold fE at hf; obtain ⟨hl,hr⟩:=jM hf; rw [hr,List.nil_append] at h; rw [List.length_nil,Nat.zero_add] at hl; rw [aj.aA]; refine AC.jA 8 [.tmp 2] [0] Tryz.func168 Z Z Z Z Z (AW.sr (AR.step Z Z Z (AO.d9 Z Z (AR.nil [0] Z ?_)))); refine AW.seq (AW.sr (cs 1 Z (AR.step Z Z Z (AO.g_ Z Z VJ (fun b hb=>?_))))); refine AR.nil [0,4] Z (AW.cond Z (fun h1=>?_) (fun h1=>?_))
 · obtain rfl:s1=[]:=List.map_eq_nil_iff.1 (hb h1); refine AW.sr (AR.step Z Z Z (AO.wO Z Z (AR.nil [2] Z (AW.PD 10 45 ?_)))); refine AW.ret ?_; exact ⟨rfl,_,⟨_,_,rfl,rfl,rfl⟩,_,List.Sublist.refl _,h _⟩
 refine AW.skip (AW.sr (AR.step Z Z Z (AO.fC [] Z uU Z Z Z Z Z (fun v1=>(cs 1 Z ?_))))); refine AR.step Z Z Z (AO.yB (i:=0) (l2:=List.map aj.cells s1) Z Z Z Z Z Z Z uU iQ (fun y hy=>?_) (fun y hy=>?_) ?_ ?_ (fun v2 s1 hs1=>?_))
 · obtain ⟨s,_,rfl⟩:=List.mem_map.1 hy; exact aj.bB s
 · obtain ⟨s,_,rfl⟩:=List.mem_map.1 hy; exact aj.cells_one s
 · rw [List.length_map]; unfold LK at hl; unfold maxLen; omega
 · rw [List.length_map]; unfold LK at hl; omega
 cases hs1; refine cs 1 Z (AR.nil [2] Z (AW.ret ?_)); have hv:=h v2; rw [List.flatMap_def,show s1.length=(List.map aj.cells s1).length from (List.length_map _).symm] at hv; exact ⟨rfl,_,⟨_,_,rfl,rfl,rfl⟩,_,List.Sublist.refl _,hv⟩
theorem IB (go:aj→(aj→Option (aj × Bool × Int))→Option (aj × Int)) (lF:aj→Option (aj × Bool × Int)) (mZ:FuncId) (qd:List PV) (Dg:aX Tryz.prog mZ=true) (Dh:∀ a0 b0 b1 b2,lF a0=some (b0,b1,b2)→∀ {τ:List aV} {Q:cO→List aV→Prop},Q (.ret (.tuple [.agg (bE b0),.bool b1,iP b2])) τ→PC mZ ([.agg (bE a0)] ++ qd) τ Q) (Yn:∀ (a0:aj) {r0:aj} {r1:Int},go a0 lF=some (r0,r1)→∀ {τ:List aV} {Q:cO→List aV→Prop},Q (.ret (.tuple [.agg (bE r0),iP r1])) τ→PC 145 [.agg (bE a0),.fn mZ qd] τ Q) (e1:aj) {r0:aj} {r1:Int} (hf:vM go e1 lF=some (r0,r1)) (h:Q (.ret (.tuple [.agg (bE r0),iP r1])) τ):PC 145 [.agg (bE e1),.fn mZ qd] τ Q:=by
 unfold vM at hf; refine AC.none (AC.jA 65 [.cell 4 45,.tmp 5] [0,1] Tryz.func145 Z Z Z Z Z (AW.sr (AR.step Z Z Z (AO.G5 Z Z (fun b2=>?_))))); refine AR.step Z Z Z (AO.aC Z iO (fun b4=>(cs 1 Z (AR.nil [1,2,4] Z (AW.seq ?_))))); refine AW.sr (cs 1 Z (AR.step Z Z Z (AO.aR (i:=1) Z Z Z gH Z Z ?_))); obtain ⟨x1,known1,Bt,h1,hf⟩:=jG hf; refine AR.step Z Z Z (AO.call Z _ Z Z Dg (Dh _ _ _ _ h1 (cs 4 Z (AR.step Z Z Z (AO.aC Z iO (fun b6=>(AR.bC Z Z (AO.bO (i:=0) Z Z Z gH Z Z Z Z Z ?_)))))))); refine cs 2 Z (AR.nil [1,2,4,6,7,8] Z (AW.sr (cs 2 Z ?_))); refine AR.or 3 20 23 [1,2,4,6,8] (x:=(Bt != 0)) Z Z (fun h2=>?_) (fun h2=>?_) ?_
 · refine AR.is 20 h2 Z (cs 3 Z (AR.nil [23,1,2,4,6,8] Z ?_)); exact ⟨Z,Z,Z,Z⟩
 · refine AR.is 20 h2 Z (cs 3 Z (AR.nil [23,1,2,4,6,8] Z ?_)); exact ⟨Z,Z,Z,Z⟩
 refine AR.nil [1,2,4,6,8,23] Z (AW.cond Z (fun h3=>?_) (fun h3=>?_))
 · replace hf:=jC h3 hf; refine AW.sr (AR.step Z Z Z (AO.aR (i:=0) Z Z Z gH Z Z (cs 1 Z (AR.bC Z Z (AO.bO (i:=1) Z Z Z gH Z Z Z Z Z ?_))))); refine cs 1 Z (AR.nil [4,5] Z (AW.ret ?_)); cases hf; exact ⟨rfl,_,⟨_,_,rfl,⟨_,_,1,_,_,rfl,rfl,gH,rfl⟩,_,_,rfl,rfl,rfl⟩,[],List.nil_sublist _,h⟩
 replace hf:=jf h3 hf; refine B1 hf fun x2 hx2 hf=>B1 hf fun k2 hk2 hf=>B1 hf fun l1 hl1 hf=>?_; obtain ⟨l2,QN,hl2,hf⟩:=bM hf; refine AW.skip (AW.D9 0 Z (AW.sr (cs 1 Z ?_))); refine AR.step Z Z Z (AO.aR (i:=1) Z Z Z kY Z Z (AR.step Z Z Z (AO.call Z _ Z Z Uj (tL _ hx2 (cs 1 Z (AR.bC Z Z (AO.bO (i:=1) Z Z Z kY Z Z Z Z Z ?_))))))); refine AR.nil [1,2,4] Z (AW.sr (cs 1 Z (AR.step Z Z Z (AO.aR (i:=1) Z Z Z TW Z Z ?_)))); refine AR.step Z Z Z (AO.call Z _ Z Z YU (l5 _ hk2 (cs 1 Z (AR.bC Z Z (AO.bO (i:=1) Z Z Z TW Z Z Z Z Z (AR.nil [1,2,4] Z ?_)))))); refine AW.sr (cs 1 Z (AR.step Z Z Z (AO.aR (i:=1) Z Z Z Lh Z Z (AR.step Z Z Z (AO.call Z _ Z Z ZH (AC.none (uq _ hl1 (fun v3=>?_)))))))); refine cs 1 Z (AR.GZ 0 Z (fun hv1 hv2=>(AR.bC Z Z (AO.bO (i:=2) Z Z Z Lh hv1 hv2 Z Z Z (AR.nil [1,2,4] Z ?_))))); refine AW.seq (AW.sr (cs 1 Z (AR.step Z Z Z (AO.aR (i:=2) Z Z Z Lh Z Z ?_)))); refine AR.step Z Z Z (AO.JL (i:=0) Z Z Z Z iQ Z Z (cs 1 Z (AR.nil [1,2,4,40,41] Z (AW.block ?_)))); refine AW.settle [1,2,4,40,41] Z ?_; refine AW.KH (fun (l:List aj) (i:Int)=>[(1,.fn mZ qd),(2,pP b2),(4,pP b4),(40,iP (l1.length:Int)),(41,iP i)]) (fun (l:List aj) (i:Int)=>[.buf v3 l1.length 10 45 (l.flatMap aj.cells),.box b4 [iP 0,.str ([]:Str),iP 0,.bool false,iP 0,.str ([]:Str),.own (.slice none 0 0) [],.own (.slice none 0 0) [],.own (.slice none 0 0) [],.own (.slice none 0 0) []],.box b2 [iP e1.kind,.str e1.name,iP x2.kind,.bool x2.je,iP x2.jm,.str x2.iK,.list (ah.aK x2.cu),sP x2.keys,.val v3,sP k2]]) (fun kk l i=>l.length=l1.length∧pq go lF (l1.length:Int) kk l i=some (l2,QN)) BIG l1 0 Z Z ⟨Z,hl2⟩ (fun _ _ hz=>bU hz.2) ?_
 rintro kk l i ⟨hlen,hg⟩; rw [pq] at hg; refine AW.sr (cs 1 Z (AR.nil [1,2,4,40,41,42] Z (AW.seq ?_))); refine AW.cond Z (fun h4=>?_) (fun h4=>?_)
 ·
  replace hg:=jC h4 hg; obtain ⟨e2,he2,hg⟩:=G7 hg; obtain ⟨x3,adb,hx3,hg⟩:=bM hg; obtain ⟨hi0,he2⟩:=sV he2; obtain ⟨hlt,he2⟩:=List.getElem?_eq_some_iff.1 he2; refine AW.skip (AW.seq (AW.block (AW.sr ?_))); refine cs 2 Z (AR.nil [1,2,4,9,40,41] Z (AW.sr (cs 1 Z ?_))); refine AR.step Z Z Z (AO.aR (i:=2) Z Z Z Lh Z Z (cs 1 Z (AR.step Z Z Z (AO.kW (i:=0) (sz:=10) Z Z Z Z iQ hi0 (by omega) ?_)))); refine AR.step Z Z Z (AO.C_ (i:=0) Z Z Z gH (by rw [qc aj.bB]; omega) (by rw [xY aj.bB l i.toNat hlt,he2,aj.aF]; rfl) ?_); refine cs 1 Z (AR.step Z Z Z (AO.call Z _ Z Z Te (Yn _ hx3 (cs 3 Z (AR.step Z Z Z (AO.aC Z iO (fun b10=>?_))))))); refine AR.bC Z Z (AO.bO (i:=0) Z Z Z gH Z Z Z Z Z (cs 1 Z (AR.nil [1,2,4,9,10,11,40,41] Z (AW.seq ?_)))); refine AW.sr (cs 2 Z (AR.nil [1,2,4,9,10,11,40,41,55] Z (AW.cond Z (fun h5=>?_) (fun h5=>?_))))
  · cases jC h5 hg; replace hf:=jC h5 hf; refine AW.sr (AR.step Z Z Z (AO.build Z iO Ck Z (cs 1 Z (AR.bC Z Z (AO.bO (i:=2) Z Z Z gH Z Z Z Z Z ?_))))); refine cs 1 Z (AR.nil [4,5] Z (AW.ret ?_)); cases hf; exact ⟨rfl,_,⟨_,_,rfl,⟨_,_,2,_,_,rfl,rfl,gH,rfl⟩,_,_,rfl,rfl,rfl⟩,[],List.nil_sublist _,h⟩
  replace hg:=jf h5 hg; refine AW.skip (AW.region (cs 1 Z (AR.step Z Z Z (AO.aR (i:=3) Z Z Z Lh Z Z ?_)))); refine cs 1 Z (AR.step Z Z Z (AO.aR (i:=0) Z Z Z gH Z Z (AR.step Z Z Z (AO.kW (i:=1) (sz:=10) Z Z Z Z iQ hi0 (by omega) ?_)))); refine AR.bC Z Z (AO.Ao (i:=1) (cs':=(l.set i.toNat x3).flatMap aj.cells) Z Z Z gH Z Z Z (Nat.succ_pos _) (by rw [qc aj.bB]; simp only [List.length_cons,List.length_nil]; omega) (KR aj.bB l _ hlt _ x3 (aj.aF _).symm) Z ?_); refine AR.nil [1,2,4,40,41] Z (AW.D9 0 Z (AW.region (cs 2 Z ?_))); refine AR.nil [1,2,4,40,41] Z ?_; exact ⟨_,_,Z,Z,Z,(List.length_set ..).trans hlen,hg⟩
 cases jf h4 hg; refine AW.exit (AW.QJ (q:=8) 0 2 (List.map aj.cells l2) rfl rfl rfl (List.flatMap_def ..).symm (fun x hx=>by obtain ⟨s,_,rfl⟩:=List.mem_map.1 hx; exact aj.bB s) (by rw [List.length_map,hlen]) ?_); refine AW.sr (AR.step Z Z Z (AO.aR (i:=2) Z Z Z gH Z Z (AR.bC Z Z (AO.bO (i:=1) Z Z Z gH Z Z Z Z Z (cs 1 Z ?_))))); refine AR.nil [4,5] Z (AW.ret ?_); cases hf; have h':Q (.ret (.tuple [.agg [iP e1.kind,.str e1.name,iP x2.kind,.bool x2.je,iP x2.jm,.str x2.iK,.list (ah.aK x2.cu),sP x2.keys,.list (List.map aj.cells l2),sP k2],iP 0])) τ:=by rw [←aj.aA]; exact h
 exact ⟨rfl,_,⟨_,_,rfl,⟨_,_,1,_,_,rfl,rfl,gH,rfl⟩,_,_,rfl,rfl,rfl⟩,[],List.nil_sublist _,h'⟩
theorem Ay (lF:aj→Option (aj × Bool × Int)) (mZ:FuncId) (qd:List PV) (Dg:aX Tryz.prog mZ=true) (Dh:∀ a0 b0 b1 b2,lF a0=some (b0,b1,b2)→∀ {τ:List aV} {Q:cO→List aV→Prop},Q (.ret (.tuple [.agg (bE b0),.bool b1,iP b2])) τ→PC mZ ([.agg (bE a0)] ++ qd) τ Q):∀ (k:Nat) (a0:aj) {r0:aj} {r1:Int},qy k a0 lF=some (r0,r1)→∀ {τ:List aV} {Q:cO→List aV→Prop},Q (.ret (.tuple [.agg (bE r0),iP r1])) τ→PC 145 [.agg (bE a0),.fn mZ qd] τ Q
 | 0,_,_,_,hz,_,_,_=>bU hz
 | k + 1,x,_,_,hz,_,_,hq=>IB (qy k) lF mZ qd Dg Dh (Ay lF mZ qd Dg Dh k) x hz hq
theorem vS (e1:aj) (lF:aj→Option (aj × Bool × Int)) (mZ:FuncId) (qd:List PV) (Dg:aX Tryz.prog mZ=true) (Dh:∀ a0 b0 b1 b2,lF a0=some (b0,b1,b2)→∀ {τ:List aV} {Q:cO→List aV→Prop},Q (.ret (.tuple [.agg (bE b0),.bool b1,iP b2])) τ→PC mZ ([.agg (bE a0)] ++ qd) τ Q) {r0:aj} {r1:Int} (hf:tY e1 lF=some (r0,r1)) (h:Q (.ret (.tuple [.agg (bE r0),iP r1])) τ):PC 145 [.agg (bE e1),.fn mZ qd] τ Q:=by
 exact Ay lF mZ qd Dg Dh BIG e1 hf h
theorem ES (a1:aj) {r0:aj} {r1:Bool} {r2:Int} (hf:pz a1=some (r0,r1,r2)) (h:Q (.ret (.tuple [.agg (bE r0),.bool r1,iP r2])) τ):PC 146 [.agg (bE a1)] τ Q:=by
 unfold pz at hf; refine BN 6 [.cell 2 45,.tmp 3,.tmp 4] [0] Tryz.func146 Z Z Z Z Z (W 1 Z (AS Z (AO.aC Z iO (fun b2=>?_)))); cases hf; exact Rx 6 [0] Z Z (ZC [0] Z Z h)
theorem Ho (e1:aj) {r0:aj} (hf:wH e1=some r0) (h:Q (.ret (.agg (bE r0))) τ):PC 114 [.agg (bE e1)] τ Q:=by
 unfold wH at hf; refine BN 11 [.cell 2 45] [0] Tryz.func114 Z Z Z Z Z (W 1 Z (AS Z (AO.aC Z iO (fun b2=>?_)))); obtain ⟨x1,x2,h1,hf⟩:=bM hf; refine U 1 Z (CL Z (vS _ pz 146 [] ZQ (fun _ _ _ _ hz=>ES _  hz) h1 (U 3 Z (AS Z (AO.aC Z iO (fun b3=>?_)))))); cases hf; exact Rx 4 [0,0,1] Z Z (ZC [1] Z Z h)
theorem uw (s1:List aM) {r0:List aM} (hf:dW s1=some r0) {Q:cO→List aV→Prop} (h:∀ v,Q (.ret (.val v)) [.buf v r0.length 11 48 (r0.flatMap aM.cells)]):PC 113 [.list (List.map aM.cells s1)] [] Q:=by
 unfold dW at hf; obtain ⟨hl,hr⟩:=jM hf; rw [hr,List.nil_append] at h; rw [List.length_nil,Nat.zero_add] at hl; refine AC.jA 8 [.tmp 2] [0] Tryz.func113 Z Z Z Z Z (AW.sr (AR.step Z Z Z (AO.d9 Z Z (AR.nil [0] Z ?_)))); refine AW.seq (AW.sr (cs 1 Z (AR.step Z Z Z (AO.g_ Z Z TT (fun b hb=>?_))))); refine AR.nil [0,4] Z (AW.cond Z (fun h1=>?_) (fun h1=>?_))
 · obtain rfl:s1=[]:=List.map_eq_nil_iff.1 (hb h1); refine AW.sr (AR.step Z Z Z (AO.wO Z Z (AR.nil [2] Z (AW.PD 11 48 ?_)))); refine AW.ret ?_; exact ⟨rfl,_,⟨_,_,rfl,rfl,rfl⟩,_,List.Sublist.refl _,h _⟩
 refine AW.skip (AW.sr (AR.step Z Z Z (AO.fC [] Z xL Z Z Z Z Z (fun v1=>(cs 1 Z ?_))))); refine AR.step Z Z Z (AO.yB (i:=0) (l2:=List.map aM.cells s1) Z Z Z Z Z Z Z xL qp (fun y hy=>?_) (fun y hy=>?_) ?_ ?_ (fun v2 s1 hs1=>?_))
 · obtain ⟨s,_,rfl⟩:=List.mem_map.1 hy; exact aM.bB s
 · obtain ⟨s,_,rfl⟩:=List.mem_map.1 hy; exact aM.cells_one s
 · rw [List.length_map]; unfold LK at hl; unfold maxLen; omega
 · rw [List.length_map]; unfold LK at hl; omega
 cases hs1; refine cs 1 Z (AR.nil [2] Z (AW.ret ?_)); have hv:=h v2; rw [List.flatMap_def,show s1.length=(List.map aM.cells s1).length from (List.length_map _).symm] at hv; exact ⟨rfl,_,⟨_,_,rfl,rfl,rfl⟩,_,List.Sublist.refl _,hv⟩
theorem o_ (l0:List aM) {r0:List aM} (hf:kR l0=some r0) {Q:cO→List aV→Prop} (h:∀ v,Q (.ret (.own v (List.map aM.cells r0))) [.row v (List.map aM.cells r0).length 11 48]):PC 78 [.list (List.map aM.cells l0)] [] Q:=by
 unfold kR at hf; refine B1 hf fun l1 hl1 hf=>AC.yT 24 [.tmp 2] [0] Tryz.func78 Z Z Z Z Z (AW.sr (AR.step Z Z Z (AO.d9 Z Z (AR.nil [0] Z ?_)))); refine AW.sr (cs 1 Z (AR.step Z Z Z (AO.call Z _ Z Z Z9 (AC.none (uw _ hl1 (fun v3=>(AR.step Z Z Z (AO.calc' Z ?_)))))))); refine AR.nil [3] Z (AW.seq (AW.sr (cs 1 Z ?_))); refine AR.step Z Z Z (AO.JL (i:=0) Z Z Z Z qp Z Z (cs 1 Z (AR.nil [3,8,9] Z (AW.block ?_)))); refine AW.settle [3,8,9] Z (AW.KH (fun (l:List aM) (i:Int)=>[(3,.val v3),(8,iP (l1.length:Int)),(9,iP i)]) (fun (l:List aM) (i:Int)=>[.buf v3 l1.length 11 48 (l.flatMap aM.cells)]) (fun kk l i=>l.length=l1.length∧nU (l1.length:Int) kk l i=some r0) BIG l1 0 Z Z ⟨Z,hf⟩ (fun _ _ hz=>bU hz.2) ?_); rintro kk l i ⟨hlen,hf⟩; rw [nU] at hf; refine AW.sr (cs 1 Z (AR.nil [3,8,9,10] Z (AW.seq ?_))); refine AW.cond Z (fun h1=>?_) (fun h1=>?_)
 ·
  replace hf:=jC h1 hf; refine B1 hf fun e1 he1 hf=>B1 hf fun x1 hx1 hf=>?_; obtain ⟨hi0,he1⟩:=sV he1; obtain ⟨hlt,he1⟩:=List.getElem?_eq_some_iff.1 he1; refine AW.skip (AW.seq (AW.block (AW.sr ?_))); refine cs 2 Z (AR.nil [3,4,8,9] Z (AW.region (cs 4 Z ?_))); refine AR.step Z Z Z (AO.kW (i:=0) (sz:=11) Z Z Z Z qp hi0 (by omega) ?_); refine cs 1 Z (AR.step Z Z Z (AO.C_ (i:=0) Z Z Z gH (by rw [qc aM.bB]; omega) (by rw [←List.drop_drop,xY aM.bB l i.toNat hlt,he1,aM.aF]; rfl) ?_)); refine AR.step Z Z Z (AO.call Z _ Z Z Z8 (Ho _ hx1 (AR.step Z Z Z (AO.kW (i:=0) (sz:=11) Z Z Z Z qp hi0 (by omega) ?_)))); refine cs 1 Z (AR.bC Z Z (AO.Ao (i:=0) (cs':=(l.set i.toNat (aM.mk e1.name x1)).flatMap aM.cells) Z Z Z gH Z Z Z (Nat.succ_pos _) (by rw [qc aM.bB]; simp only [List.length_cons,List.length_nil]; omega) (NH aM.bB l _ 1 hlt _ (aM.mk e1.name x1) (by rw [he1,aM.aF,aM.aF]; rfl) (by simp only [List.length_cons,List.length_nil]; omega)) Z ?_)); refine AR.nil [3,8,9] Z (AW.region (cs 2 Z (AR.nil [3,8,9] Z ?_))); exact ⟨_,_,Z,Z,Z,(List.length_set ..).trans hlen,hf⟩
 obtain rfl:=Option.some.inj (jf h1 hf); refine AW.exit (AW.freeze 3 0 (List.map aM.cells l) rfl rfl (List.flatMap_def ..).symm (fun x hx=>by obtain ⟨s,_,rfl⟩:=List.mem_map.1 hx; exact aM.bB s) (by rw [List.length_map,hlen]) ?_); refine AW.sr (cs 2 Z (AR.nil [2] Z (AW.ret ?_))); have h':=h v3; rw [List.length_map,hlen] at h'; exact ⟨rfl,_,⟨_,_,rfl,rfl,rfl⟩,_,List.Sublist.refl _,h'⟩
theorem F8 (l0:List aM) {r0:List aM} (hf:kR l0=some r0) (h:Q (.ret (.list (List.map aM.cells r0))) τ):PC 78 [.list (List.map aM.cells l0)] τ Q:=by
 exact AC.none (AC.abm (o_ l0 hf fun v=>⟨v,_,_,_,Z,Z⟩) h)
theorem Hz (s1:List au) {r0:List au} (hf:eZ s1=some r0) (h:Q (.ret (.list (au.aK r0))) τ):PC 79 [.list (au.aK s1)] τ Q:=by
 unfold eZ at hf; refine BN 8 [.tmp 2] [0] Tryz.func79 Z Z Z Z Z (W 0 Z (AS Z (AO.d9 Z Z (U 1 Z (AS Z (AO.g_ Z Z VL (fun b hb=>(J 0 Z (AW.cond Z (fun h1=>?_) (fun h1=>?_))))))))))
 · have hb1:=hb h1; rw [au.aA] at hb1; obtain rfl:s1=[]:=List.map_eq_nil_iff.1 hb1; obtain ⟨_,rfl⟩:=jM hf; refine W 0 Z (AS Z (AO.d9 Z Z ?_)); exact N 0 rfl ⟨rfl,_,⟨_,_,rfl,rfl,rfl⟩,_,List.Sublist.refl _,h⟩
 refine W 0 Z (AS Z (AO.fC [] Z oG Z Z Z Z Z (fun v1=>(U 1 Z (AS Z (AO.eB (i:=0) (l:=[]) (m:=s1) hf Z Z Z Z Z Z Z oG kG (show ([]:List (List PV))=List.map au.cells [] from Z) (au.aA _) (au.aA _).symm (au.bB) (au.cells_one) (by decide) (fun v2 s2 hs2=>?_))))))); cases hs2; exact N 1 Z (Y Z h)
theorem EU (s1:List au) {r0:List au} (hf:eZ s1=some r0) {Q:cO→List aV→Prop} (h:∀ v,Q (.ret (.own v (au.aK r0))) [.row v (au.aK r0).length 4 38]):PC 79 [.list (au.aK s1)] [] Q:=by
 unfold eZ at hf; refine AC.yT 8 [.tmp 2] [0] Tryz.func79 Z Z Z Z Z (AW.sr (AR.step Z Z Z (AO.d9 Z Z (AR.nil [0] Z ?_)))); refine AW.seq (AW.sr (cs 1 Z (AR.step Z Z Z (AO.g_ Z Z VL (fun b hb=>?_))))); refine AR.nil [0,4] Z (AW.cond Z (fun h1=>?_) (fun h1=>?_))
 · have hb1:=hb h1; rw [au.aA] at hb1; obtain rfl:s1=[]:=List.map_eq_nil_iff.1 hb1; obtain ⟨_,rfl⟩:=jM hf; refine AW.sr (cs 1 Z (AR.nil [2] Z (AW.row 4 38 ?_))); refine AW.ret ?_; exact ⟨rfl,_,⟨_,_,rfl,rfl,rfl⟩,_,List.Sublist.refl _,h _⟩
 refine AW.skip (AW.sr (AR.step Z Z Z (AO.fC [] Z oG Z Z Z Z Z (fun v1=>(cs 1 Z ?_))))); refine AR.step Z Z Z (AO.eB (i:=0) (l:=[]) (m:=s1) hf Z Z Z Z Z Z Z oG kG (show ([]:List (List PV))=List.map au.cells [] from Z) (au.aA _) (au.aA _).symm (au.bB) (au.cells_one) (by decide) (fun v2 s2 hs2=>?_)); cases hs2; refine cs 1 Z (AR.nil [2] Z (AW.ret ?_)); exact ⟨rfl,_,⟨_,_,rfl,rfl,rfl⟩,_,List.Sublist.refl _,h v2⟩
theorem rW (s1:List au) {r0:List au} (hf:eZ s1=some r0) {Q:cO→List aV→Prop} (h:∀ v,Q (.ret (.val v)) [.buf v r0.length 4 38 (r0.flatMap au.cells)]):PC 79 [.list (au.aK s1)] [] Q:=by
 unfold eZ at hf; obtain ⟨hl,hr⟩:=jM hf; rw [hr,List.nil_append] at h; rw [List.length_nil,Nat.zero_add] at hl; rw [au.aA]; refine AC.jA 8 [.tmp 2] [0] Tryz.func79 Z Z Z Z Z (AW.sr (AR.step Z Z Z (AO.d9 Z Z (AR.nil [0] Z ?_)))); refine AW.seq (AW.sr (cs 1 Z (AR.step Z Z Z (AO.g_ Z Z VL (fun b hb=>?_))))); refine AR.nil [0,4] Z (AW.cond Z (fun h1=>?_) (fun h1=>?_))
 · obtain rfl:s1=[]:=List.map_eq_nil_iff.1 (hb h1); refine AW.sr (AR.step Z Z Z (AO.wO Z Z (AR.nil [2] Z (AW.PD 4 38 ?_)))); refine AW.ret ?_; exact ⟨rfl,_,⟨_,_,rfl,rfl,rfl⟩,_,List.Sublist.refl _,h _⟩
 refine AW.skip (AW.sr (AR.step Z Z Z (AO.fC [] Z oG Z Z Z Z Z (fun v1=>(cs 1 Z ?_))))); refine AR.step Z Z Z (AO.yB (i:=0) (l2:=List.map au.cells s1) Z Z Z Z Z Z Z oG kG (fun y hy=>?_) (fun y hy=>?_) ?_ ?_ (fun v2 s1 hs1=>?_))
 · obtain ⟨s,_,rfl⟩:=List.mem_map.1 hy; exact au.bB s
 · obtain ⟨s,_,rfl⟩:=List.mem_map.1 hy; exact au.cells_one s
 · rw [List.length_map]; unfold LK at hl; unfold maxLen; omega
 · rw [List.length_map]; unfold LK at hl; omega
 cases hs1; refine cs 1 Z (AR.nil [2] Z (AW.ret ?_)); have hv:=h v2; rw [List.flatMap_def,show s1.length=(List.map au.cells s1).length from (List.length_map _).symm] at hv; exact ⟨rfl,_,⟨_,_,rfl,rfl,rfl⟩,_,List.Sublist.refl _,hv⟩
theorem E8 (go:au→Option au) (Yn:∀ (x:au) {r0:au},go x=some r0→∀ {τ:List aV} {Q:cO→List aV→Prop},Q (.ret (.agg (dR r0))) τ→PC 48 [.agg (dR x)] τ Q) (v1:au) {r0:au} (hf:sF go v1=some r0) (h:Q (.ret (.agg (dR r0))) τ):PC 48 [.agg (dR v1)] τ Q:=by
 unfold sF at hf; refine B1 hf fun k1 hk1 hf=>B1 hf fun l1 hl1 hf=>B1 hf fun l2 hl2 hf=>?_; cases hf; refine AC.none (AC.jA 30 [.cell 2 38] [0] Tryz.func48 Z Z Z Z Z (AW.sr (AR.step Z Z Z (AO.G5 Z Z (fun b1=>?_))))); refine AR.step Z Z Z (AO.aC Z nK (fun b2=>(AR.nil [1,2] Z (AW.sr (cs 1 Z ?_))))); refine AR.step Z Z Z (AO.aR (i:=1) Z Z Z Ry Z Z (AR.step Z Z Z (AO.call Z _ Z Z V_ (F8 _ hk1 (cs 1 Z (AR.bC Z Z (AO.bO (i:=1) Z Z Z Ry Z Z Z Z Z ?_))))))); refine AR.nil [1,2] Z (AW.sr (cs 1 Z (AR.step Z Z Z (AO.aR (i:=1) Z Z Z xK Z Z ?_)))); refine AR.step Z Z Z (AO.call Z _ Z Z abD (AC.none (rW _ hl1 (fun v3=>(cs 1 Z (AR.GZ 0 Z (fun hv1 hv2=>(AR.bC Z Z (AO.bO (i:=2) Z Z Z xK hv1 hv2 Z Z Z ?_))))))))); refine AR.nil [1,2] Z (AW.seq (AW.sr (cs 1 Z ?_))); refine AR.step Z Z Z (AO.aR (i:=2) Z Z Z xK Z Z (AR.step Z Z Z (AO.JL (i:=0) Z Z Z Z kG Z Z (cs 1 Z (AR.nil [1,2,14,15] Z ?_))))); refine AW.block (AW.settle [1,2,14,15] Z (AW.KH (fun (l:List au) (i:Int)=>[(1,pP b1),(2,pP b2),(14,iP (l1.length:Int)),(15,iP i)]) (fun (l:List au) (i:Int)=>[.buf v3 l1.length 4 38 (l.flatMap au.cells),.box b2 [.str ([]:Str),.str ([]:Str),.own (.slice none 0 0) [],.own (.slice none 0 0) []],.box b1 [.str v1.kind,.str v1.name,.list (List.map aM.cells k1),.val v3]]) (fun kk l i=>l.length=l1.length∧nT go (l1.length:Int) kk l i=some l2) BIG l1 0 Z Z ⟨Z,hl2⟩ (fun _ _ hz=>bU hz.2) ?_)); rintro kk l i ⟨hlen,hf⟩; rw [nT] at hf; refine AW.sr (cs 1 Z (AR.nil [1,2,14,15,16] Z (AW.seq ?_))); refine AW.cond Z (fun h1=>?_) (fun h1=>?_)
 ·
  replace hf:=jC h1 hf; refine B1 hf fun e1 he1 hf=>B1 hf fun x1 hx1 hf=>?_; obtain ⟨hi0,he1⟩:=sV he1; obtain ⟨hlt,he1⟩:=List.getElem?_eq_some_iff.1 he1; refine AW.skip (AW.seq (AW.block (AW.sr ?_))); refine cs 2 Z (AR.nil [1,2,3,14,15] Z (AW.draw 10 mixed (by kernel_rfl) Z ?_)); refine Ev.cs bJ 1 Z (Ev.cons Z Z Z (AO.aR (i:=2) Z Z Z xK Z Z zg) (Ev.cs bJ 2 Z (Ev.cons Z Z Z (AO.aR (i:=2) Z Z Z xK Z Z zg) ?_))); refine Ev.cs bJ 1 Z (Ev.cons Z Z Z (AO.kW (i:=0) (sz:=4) Z Z Z Z kG hi0 (by omega) zg) ?_); refine Ev.cons Z Z Z (AO.C_ (i:=0) Z Z Z mD (by rw [qc au.bB]; omega) (by rw [xY au.bB l i.toNat hlt,he1,au.aF]; rfl) zg) ?_; refine Ev.cons Z Z Z (AO.call Z _ Z Z Wh (Yn _ hx1 zg)) (Ev.cons Z Z Z (AO.kW (i:=0) (sz:=4) Z Z Z Z kG hi0 (by omega) zg) ?_); refine Ev.nil ?_; show AR _ _ _ _ _ _ _ _; refine AR.bC Z Z (AO.Ao (i:=0) (cs':=(l.set i.toNat x1).flatMap au.cells) Z Z Z mD Z Z Z (Nat.succ_pos _) (by rw [qc au.bB]; simp only [List.length_cons,List.length_nil]; omega) (KR au.bB l _ hlt _ x1 (au.aF _).symm) Z ?_); refine AR.nil [1,2,14,15] Z (AW.region (cs 2 Z (AR.nil [1,2,14,15] Z ?_))); exact ⟨_,_,Z,Z,Z,(List.length_set ..).trans hlen,hf⟩
 obtain rfl:=Option.some.inj (jf h1 hf); refine AW.exit (AW.QJ (q:=3) 0 2 (List.map au.cells l) rfl rfl rfl (List.flatMap_def ..).symm (fun x hx=>by obtain ⟨s,_,rfl⟩:=List.mem_map.1 hx; exact au.bB s) (by rw [List.length_map,hlen]) ?_); refine AW.sr (AR.step Z Z Z (AO.aR (i:=2) Z Z Z mD Z Z (AR.bC Z Z (AO.bO (i:=1) Z Z Z mD Z Z Z Z Z (AR.nil [2] Z ?_))))); refine AW.ret ?_; have h':Q (.ret (.agg [.str v1.kind,.str v1.name,.list (List.map aM.cells k1),.list (List.map au.cells l)])) τ:=by rw [←au.aA]; exact h
 exact ⟨rfl,_,⟨_,_,rfl,⟨_,_,1,_,_,rfl,rfl,mD,rfl⟩,rfl⟩,[],List.nil_sublist _,h'⟩
theorem yV :∀ (k:Nat) (x:au) {r0:au},oF k x=some r0→∀ {τ:List aV} {Q:cO→List aV→Prop},Q (.ret (.agg (dR r0))) τ→PC 48 [.agg (dR x)] τ Q
 | 0,_,_,hz,_,_,_=>bU hz
 | k + 1,x,_,hz,_,_,hq=>E8 (oF k) (yV k) x hz hq
theorem zh (v1:au) {r0:au} (hf:qB v1=some r0) (h:Q (.ret (.agg (dR r0))) τ):PC 48 [.agg (dR v1)] τ Q:=by
 exact yV BIG v1 hf h
theorem Ji (l1:List UInt8) (RZ:Int→UInt8→Option Bool) (Uo:FuncId) (WY:List PV) (aci:aX Tryz.prog Uo=true) (acj:∀ a0 a1 b0,RZ a0 a1=some b0→∀ {τ:List aV} {Q:cO→List aV→Prop},Q (.ret (.bool b0)) τ→PC Uo ([iP a0,.int .u8 (a1.toNat:Int)] ++ WY) τ Q) {r0:Bool} (hf:xX l1 RZ=some r0) (h:Q (.ret (.bool r0)) τ):PC 80 [.list (List.map iJ l1),.fn Uo WY] τ Q:=by
 unfold xX at hf; refine BN 20 [.tmp 4] [0,1] Tryz.func80 Z Z Z Z Z (W 2 Z (AS Z (AO.aT (l:=l1) Z Z Z Z Lx Z Z (J 1 Z (Kl (fun i1=>[(1,.fn Uo WY),(7,.list (List.map iJ l1)),(8,iP (l1.length:Int)),(9,iP i1)]) (fun i1=>[]) (fun b_ i1=>pE l1 RZ b_ i1=some r0) BIG 0 Z Z hf (fun _ hz=>bU hz) ?_))))); intro b_ i1 hf; rw [pE] at hf; refine V 1 Z (C hf Z (fun h1 hf=>?_) fun h1 hf=>?_)
 ·
  refine B1 hf fun e1 h2 hf=>W 1 Z (AS Z (AO.aZ h2 Z Z Z Z Lx Z Z ?_)); refine B1 hf fun x1 h3 hf=>U 6 Z (AS Z (AO.call Z _ Z Z aci (acj _ _ _ h3 (J 1 Z (C hf Z (fun h4 hf=>?_) fun h4 hf=>?_)))))
  · cases hf; exact M 1 Z (Y Z h)
  exact M 2 Z ⟨(dG (i1 + 1)),Z,Z,Z,hf⟩
 cases hf; exact M 1 Z (Y Z h)
theorem Ov (i1:Int) (c1:UInt8) {r0:Bool} (hf:zY i1 c1=some r0) (h:Q (.ret (.bool r0)) τ):PC 81 [iP i1,.int .u8 (c1.toNat:Int)] τ Q:=by
 unfold zY at hf; refine BN 31 [.tmp 4] [0,1] Tryz.func81 Z Z Z Z Z (W 4 Z (An 3 7 10 [0,1] (decide ((c1.toNat:Int)≤122)) Z Z Z Z ?_)); refine B1 hf fun b1 h3 hf=>U 1 Z (AR.gI 3 11 14 false [0,1] b1 Z Z (fun h2=>?_) (fun h2=>?_) ?_)
 · refine IF 11 h2 h3 Z fun h3=>?_; refine BR h3 fun x1 h4 h3=>?_; refine U 1 Z (GO Z (AO.call Z _ Z Z YP (Ik _ h4 ?_))); cases h3; exact fZ 1 Z (En [14,0,1] Z)
 · refine IT 11 h2 h3 Z fun h3=>?_; cases h3; exact fZ 3 Z (En [14,0,1] Z)
 refine U 1 Z (AR.or 15 15 30 [] (x:=((decide (0 < i1)) && ((((c1.toNat:Int) == 95) || ((c1.toNat:Int) == 45)) || ((c1.toNat:Int) == 46)))) Z Z (fun h5=>?_) (fun h5=>?_) ?_)
 ·
  refine Is 15 h5 Z (U 3 Z (AR.and 11 18 29 [15] (x:=((((c1.toNat:Int) == 95) || ((c1.toNat:Int) == 45)) || ((c1.toNat:Int) == 46))) Z Z (fun h6=>?_) (fun h6=>?_) ?_))
  · refine Is 18 h6 Z (U 3 Z (On 3 21 24 [1,15,18] ((c1.toNat:Int) == 45) Z Z Z Z (U 1 Z (On 3 25 28 [15,18] ((c1.toNat:Int) == 46) Z Z Z Z ?_)))); exact fZ 1 Z (En [29,15] Z)
  · refine Is 18 h6 Z ?_; exact fZ 11 Z (En [29,15] Z)
  exact fZ 1 Z (En [30] Z)
 · refine Is 15 h5 Z ?_; exact fZ 15 Z (En [30] Z)
 cases hf; exact N 1 Z (Y Z h)
theorem Q7 (s1:Str) {r0:Bool} (hf:AL s1=some r0) (h:Q (.ret (.bool r0)) τ):PC 49 [.str s1] τ Q:=by
 unfold AL at hf; refine BN 16 [.tmp 2] [0] Tryz.func49 Z Z Z Z Z (W 2 Z (AS Z (AO.dO Z Z Z Z eH Z (U 2 Z (AR.and 4 6 10 [0] (x:=(decide ((s1.length:Int)≤64))) Z Z (fun h1=>?_) (fun h1=>?_) ?_)))))
 · refine Is 6 h1 Z (U 1 Z (GO Z (AO.dO Z Z Z Z eH Z ?_))); exact fZ 2 Z (En [10,0] Z)
 · refine Is 6 h1 Z ?_; exact fZ 4 Z (En [10,0] Z)
 refine BR hf fun b1 h3 hf=>?_; refine U 1 Z (AR.gI 4 11 15 true [] b1 Z Z (fun h2=>?_) (fun h2=>?_) ?_)
 · refine IT 11 h2 h3 Z fun h3=>?_; refine B1 h3 fun x1 h4 h3=>U 1 Z (GO Z (AO.SY h4 Z eH Ru Du Z (fun v1=>?_))); refine BR h3 fun x2 h5 h3=>?_; refine GO Z (AO.call Z _ Z Z abC (Ji _ zY 81 [] abB (fun _ _ _ hz=>Ov _ _  hz) h5 ?_)); cases h3; refine fZ 1 Z (AR.drop1 ?_); exact En [15] Z
 · refine IF 11 h2 h3 Z fun h3=>?_; cases h3; exact fZ 4 Z (En [15] Z)
 cases hf; exact N 1 Z (Y Z h)
theorem Ee (mq:List aB) {r0:Int} (hf:AV mq=some r0) (h:Q (.ret (iP r0)) τ):PC 53 [.list (List.map aB.cells mq)] τ Q:=by
 unfold AV at hf; refine BN 39 [.tmp 2] [0] Tryz.func53 Z Z Z Z Z (W 2 Z (AS Z (AO.aT (l:=mq) Z Z Z Z tF Z Z (J 1 Z (C hf Z (fun h1 hf=>?_) fun h1 hf=>?_)))))
 · cases hf; exact M 1 Z (Y Z h)
 refine W 0 Z (AS Z (AO.Ny Z (fun m10=>(U 2 Z (AS Z (AO.aT (l:=mq) Z Z Z Z tF Z Z (J 1 Z (Vn (fun x1 y1=>[(3,.val (.map (some m10))),(11,.list (List.map aB.cells mq)),(12,iP (mq.length:Int)),(13,iP x1)]) (fun x1 y1=>[.obj m10 (uL y1)]) (fun b_ x1 y1=>BO mq b_ x1 y1=some r0) BIG 0 [] Z Z hf (fun _ _ hz=>bU hz) ?_)))))))); intro b_ x1 y1 hf; rw [BO] at hf; refine V 1 Z (C hf Z (fun h2 hf=>?_) fun h2 hf=>?_)
 ·
  refine B1 hf fun e1 h3 hf=>W 0 Z (AS Z (AO.aZ h3 Z Z Z Z tF (aB.aF _) Z (U 1 Z (AS Z (AO.aC Z MI (fun b5=>?_)))))); refine B1 hf fun x2 h4 hf=>Rr 4 [0,0] Z Z (CL Z (qg _ h4 (J 1 Z (C hf Z (fun h5 hf=>?_) fun h5 hf=>?_))))
  · cases hf; exact M 1 Z (Y Z h)
  refine B1 hf fun e2 h6 hf=>Wr 2 [0] Z Z (CL Z (nD _ h6 (J 3 Z (C hf Z (fun h7 hf=>?_) fun h7 hf=>?_))))
  · cases hf; exact M 2 Z (Y Z h)
  refine Wr 3 [0] Z Z (AS Z (AO.GK (i:=1) (l:=y1) Z Z Z Z DU eH UA (U 1 Z (AR.bC Z Z (AO.IW (i:=1) (l:=y1) Z Z Z Z Z DU eH (Rr 3 [0] Z Z (AS Z (AO.GK (i:=1) (l:=(zF y1 e1.name (dG ((Cr y1 e1.name) + 1)))) Z Z Z Z DU eH UA (J 1 Z (C hf Z (fun h8 hf=>?_) fun h8 hf=>?_))))))))))
  · cases hf; exact M 1 Z (Y Z h)
  refine XY 2 Z (AR.drop1 ?_); exact N 0 Z ⟨(dG (x1 + 1)),(zF y1 e1.name (dG ((Cr y1 e1.name) + 1))),Z,Z,Z,hf⟩
 cases hf; exact M 1 Z (Y Z h)
theorem KU (s1:Str) {r0:Bool} (hf:Al s1=some r0) (h:Q (.ret (.bool r0)) τ):PC 115 [.str s1] τ Q:=by
 unfold Al at hf; refine BN 8 [.tmp 2] [0] Tryz.func115 rfl rfl rfl rfl rfl (W 3 rfl (AS rfl (AO.bD (List.map aB.cells [(aB.mk s1 (ah.mk 0 false 0 ([]:Str) [] []))]) rfl CW rfl rfl rfl (by first | rfl | simp only [List.map,aB.aF]) ?_))); refine B1 hf fun x1 h1 hf=>CL Z (Ee _ h1 ?_); cases hf; exact N 2 Z (Y Z h)
abbrev Gx (jQ:ah→Option ah):Prop:=∀ (vg:ah) {bf:ah},jQ vg=some bf→∀ {τ:List aV} {Q:cO→List aV→Prop} (h:Q (.ret (.agg (aL bf))) τ),PC 148 [.agg (aL vg)] τ Q
theorem MV (jQ) (KP:Gx jQ) (v1:ah) {r0:ah} (hf:A_ jQ v1=some r0) (h:Q (.ret (.agg (aL r0))) τ):PC 148 [.agg (aL v1)] τ Q:=by
 unfold A_ at hf; refine BN 28 [.cell 2 42] [0] Tryz.func148 Z Z Z Z Z (W 1 Z (AS Z (AO.aC Z gK (fun b2=>(U 1 Z (AS Z (AO.aC Z gK (fun b3=>(Rr 5 [0,0] Z Z (AS Z (AO.aT (l:=v1.cu) Z Z Z Z iR Z (ah.aA _) ?_))))))))))); refine J 1 Z (AW.row 6 42 (Rj (fun x1 aY v2=>[(1,.ref (aL v1)),(2,pP b2),(3,pP b3),(9,.list (ah.aK v1.cu)),(10,iP (v1.cu.length:Int)),(11,iP x1)]) (fun x1 aY v2=>[.row v2 (ah.aK aY.cu).length 6 42,.box b3 [iP aY.kind,.bool aY.je,iP aY.jm,.str aY.iK,.own v2 (ah.aK aY.cu),sP aY.keys],.box b2 [iP 0,.bool false,iP 0,.str ([]:Str),.own (.slice none 0 0) [],.own (.slice none 0 0) []]]) (fun b_ x1 aY v2=>vH jQ v1 b_ x1 aY=some r0) BIG 0 (ah.mk v1.kind v1.je v1.jm v1.iK [] v1.keys) (.slice none 0 0) Z Z hf (fun _ _ _ hz=>bU hz) ?_)); intro b_ x1 aY v2 hf; rw [vH] at hf; refine V 1 Z (C hf Z (fun h1 hf=>?_) fun h1 hf=>?_)
 ·
  refine B1 hf fun e1 h2 hf=>W 0 Z (AS Z (AO.aZ h2 Z Z (ah.aA _) Z iR (ah.aF _) Z (U 1 Z (AS Z (AO.aC Z gK (fun b5=>(Rw 1 [0] Z Z (AW.draw 5 mixed (by kernel_rfl) Z ?_)))))))); refine Ev.cs bJ 1 Z (Ev.cons Z Z Z (AO.aR (i:=2) Z Z Z Fq Z Z zg) (Ev.cons Z Z Z (AO.aR (i:=0) Z Z Z kY Z Z zg) ?_)); refine B1 hf fun x2 h3 hf=>Ev.cons rfl rfl rfl (AO.call rfl _ rfl rfl ZP (KP _ h3 ⟨rfl,rfl⟩)) (Ev.cons rfl rfl rfl (AO.bD (ah.aK [x2]) rfl vW rfl rfl rfl (by first | rfl | simp only [List.map,ah.aF,ah.aK]) ⟨rfl,rfl⟩) ?_)
  refine Ev.nil ?_; show AR _ _ _ _ _ _ _ _; refine B1 hf fun x3 h4 hf=>AS Z (AO.eB (i:=1) (l:=aY.cu) (m:=[x2]) h4 Z Z Z Z Z Z Z vW iR (ah.aA _) (ah.aA _) (ah.aA _).symm (ah.bB) (ah.cells_one) (by decide) (fun v3 s1 hs1=>?_)); cases hs1; refine Rn 4 [2] Z Z (AR.drop1 ?_); exact N 0 Z ⟨(dG (x1 + 1)),(ah.mk aY.kind aY.je aY.jm aY.iK x3 aY.keys),v3,Z,Z,Z,hf⟩
 refine W 2 Z (AR.row 1 9 ?_); refine B1 hf fun x4 h5 hf=>AS Z (AO.eB (i:=0) (l:=[]) (m:=v1.keys) h5 Z Z Z Z Z Z Z qm jZ Z Z Z (fun _=>Z) (fun _=>Z) (by decide) (fun v4 s2 hs2=>?_)); cases hs2; cases hf; exact Rx 4 [2,2,3] Z Z (ZC [3] Z Z h)
theorem Nu :∀ k:Nat,(Gx (tH k)):=by
 intro k
 induction k with
 | zero=>exact fun _ _ hz=>by first | cases hz | (unfold tH at hz; cases hz)
 | succ k ih=>exact fun vg bf hz τ Q hq=>MV (tH k) ih vg hz hq
theorem Oz (vg:ah) {bf:ah} (hf:J3 vg=some bf) (h:Q (.ret (.agg (aL bf))) τ):PC 148 [.agg (aL vg)] τ Q:=
 ((Nu BIG)) vg hf h
abbrev Iz (kF:aj→Option aj):Prop:=∀ (jN:aj) {bf:aj},kF jN=some bf→∀ {τ:List aV} {Q:cO→List aV→Prop} (h:Q (.ret (.agg (bE bf))) τ),PC 117 [.agg (bE jN)] τ Q
theorem OU (kF) (Mh:Iz kF) (e1:aj) {r0:aj} (hf:CB kF e1=some r0) (h:Q (.ret (.agg (bE r0))) τ):PC 117 [.agg (bE e1)] τ Q:=by
 unfold CB at hf; refine BN 32 [.cell 2 45] [0] Tryz.func117 Z Z Z Z Z (W 1 Z (AS Z (AO.aC Z iO (fun b2=>(U 1 Z (AS Z (AO.aC Z iO (fun b3=>?_)))))))); refine B1 hf fun x1 h1 hf=>Rr 3 [0] Z Z (CL Z (Oz _ h1 (Rr 6 [0,0] Z Z (AS Z (AO.aT (l:=e1.args) Z Z Z Z iQ Z (aj.aA _) ?_))))); refine J 1 Z (AW.row 10 45 (Rj (fun x2 aY v1=>[(1,.ref (bE e1)),(2,pP b2),(3,pP b3),(13,.list (aj.aK e1.args)),(14,iP (e1.args.length:Int)),(15,iP x2)]) (fun x2 aY v1=>[.row v1 (aj.aK aY.args).length 10 45,.box b3 [iP aY.kind,.str aY.name,iP aY.value.kind,.bool aY.value.je,iP aY.value.jm,.str aY.value.iK,.list (ah.aK aY.value.cu),sP aY.value.keys,.own v1 (aj.aK aY.args),sP aY.keys],.box b2 [iP 0,.str ([]:Str),iP 0,.bool false,iP 0,.str ([]:Str),.own (.slice none 0 0) [],.own (.slice none 0 0) [],.own (.slice none 0 0) [],.own (.slice none 0 0) []]]) (fun b_ x2 aY v1=>xu kF e1 b_ x2 aY=some r0) BIG 0 (aj.mk e1.kind e1.name x1 [] e1.keys) (.slice none 0 0) Z Z hf (fun _ _ _ hz=>bU hz) ?_)); intro b_ x2 aY v1 hf; rw [xu] at hf; refine V 1 Z (C hf Z (fun h2 hf=>?_) fun h2 hf=>?_)
 ·
  refine B1 hf fun e2 h3 hf=>W 0 Z (AS Z (AO.aZ h3 Z Z (aj.aA _) Z iQ (aj.aF _) Z (U 1 Z (AS Z (AO.aC Z iO (fun b5=>(Rw 1 [0] Z Z (AW.draw 5 mixed (by kernel_rfl) Z ?_)))))))); refine Ev.cs bJ 1 Z (Ev.cons Z Z Z (AO.aR (i:=2) Z Z Z Lh Z Z zg) (Ev.cons Z Z Z (AO.aR (i:=0) Z Z Z gH Z Z zg) ?_)); refine B1 hf fun x3 h4 hf=>Ev.cons rfl rfl rfl (AO.call rfl _ rfl rfl Z7 (Mh _ h4 ⟨rfl,rfl⟩)) (Ev.cons rfl rfl rfl (AO.bD (aj.aK [x3]) rfl uU rfl rfl rfl (by first | rfl | simp only [List.map,aj.aF,aj.aK]) ⟨rfl,rfl⟩) ?_)
  refine Ev.nil ?_; show AR _ _ _ _ _ _ _ _; refine B1 hf fun x4 h5 hf=>AS Z (AO.eB (i:=1) (l:=aY.args) (m:=[x3]) h5 Z Z Z Z Z Z Z uU iQ (aj.aA _) (aj.aA _) (aj.aA _).symm (aj.bB) (aj.cells_one) (by decide) (fun v2 s1 hs1=>?_)); cases hs1; refine Rn 4 [2] Z Z (AR.drop1 ?_); exact N 0 Z ⟨(dG (x2 + 1)),(aj.mk aY.kind aY.name aY.value x4 aY.keys),v2,Z,Z,Z,hf⟩
 refine W 2 Z (AR.row 1 9 ?_); refine B1 hf fun x5 h6 hf=>AS Z (AO.eB (i:=0) (l:=[]) (m:=e1.keys) h6 Z Z Z Z Z Z Z qm jZ Z Z Z (fun _=>Z) (fun _=>Z) (by decide) (fun v3 s2 hs2=>?_)); cases hs2; cases hf; exact Rx 4 [2,2,3] Z Z (ZC [3] Z Z h)
theorem O3 :∀ k:Nat,(Iz (u6 k)):=by
 intro k
 induction k with
 | zero=>exact fun _ _ hz=>by first | cases hz | (unfold u6 at hz; cases hz)
 | succ k ih=>exact fun jN bf hz τ Q hq=>OU (u6 k) ih jN hz hq
theorem Pz (jN:aj) {bf:aj} (hf:LB jN=some bf) (h:Q (.ret (.agg (bE bf))) τ):PC 117 [.agg (bE jN)] τ Q:=
 ((O3 BIG)) jN hf h
theorem CR (b1:au) (name1:Str) {r0:aj} {r1:Bool} (hf:yZ b1 name1=some (r0,r1)) (h:Q (.ret (.tuple [.agg (bE r0),.bool r1])) τ):PC 87 [.agg (dR b1),.str name1] τ Q:=by
 unfold yZ at hf; refine BN 24 [.cell 4 45,.tmp 5] [0,1] Tryz.func87 Z Z Z Z Z (W 1 Z (AS Z (AO.aC Z iO (fun b4=>(U 3 Z (AS Z (AO.aT (l:=b1.attrs) Z Z Z Z qp Z Z ?_))))))); refine J 1 Z (Kl (fun x1=>[(1,.str name1),(4,pP b4),(9,.list (List.map aM.cells b1.attrs)),(10,iP (b1.attrs.length:Int)),(11,iP x1)]) (fun x1=>[.box b4 [iP 0,.str ([]:Str),iP 0,.bool false,iP 0,.str ([]:Str),.own (.slice none 0 0) [],.own (.slice none 0 0) [],.own (.slice none 0 0) [],.own (.slice none 0 0) []]]) (fun b_ x1=>xA b1 name1 b_ x1=some (r0,r1)) BIG 0 Z Z hf (fun _ hz=>bU hz) ?_); intro b_ x1 hf; rw [xA] at hf; refine V 1 Z (C hf Z (fun h1 hf=>?_) fun h1 hf=>?_)
 ·
  refine B1 hf fun e1 h2 hf=>W 0 Z (AS Z (AO.aZ h2 Z Z Z Z qp (aM.aF _) Z (U 1 Z (AS Z (AO.aC Z MJ (fun b7=>(Rw 5 [0,0] Z Z (C hf Z (fun h3 hf=>?_) fun h3 hf=>?_))))))))
  · refine B1 hf fun x2 h4 hf=>Wr 2 [0] Z Z (CL Z (Pz _ h4 ?_)); cases hf; exact Rx 2 [1] Z Z (ZC [1] Z Z h)
  refine XY 2 Z (AR.drop1 ?_); exact N 0 Z ⟨(dG (x1 + 1)),Z,Z,Z,hf⟩
 cases hf; exact Wx 3 [0] Z Z (ZC [0] Z Z h)
theorem CK (lC:Int) {r0:Str} (hf:yR lC=some r0) (h:Q (.ret (.str r0)) τ):PC 144 [iP lC] τ Q:=by
 unfold yR at hf; refine BN 14 [.tmp 2] [0] Tryz.func144 Z Z Z Z Z (W 1 Z (AS Z (AO.K8 Z VB Xt Z (AS Z (AO.aC Z VB (fun b3=>(Rr 4 [0] Z Z (On 3 7 10 [0,3] (decide (8≤lC)) Z Z Z Z ?_)))))))); refine J 0 Z (C hf Z (fun h2 hf=>?_) fun h2 hf=>?_)
 · cases hf; exact M 1 Z (Y Z h)
 refine BR hf fun e1 h3 hf=>?_; refine W 1 Z (AS Z (AO.ND h3 Z Xt Z Z Z (AS Z (AO.U0 (i:=0) (fun z:Str=>.str z) h3 Z Z Z M4 Z ?_)))); cases hf; exact N 1 Z (Y Z h)
theorem uH (s1:Str) (lQ:Str) {r0:Bool} (hf:mI s1 lQ=some r0) (h:Q (.ret (.bool r0)) τ):PC 216 [.str s1,.str lQ] τ Q:=by
 unfold mI at hf; refine BN 18 [.tmp 4] [0,1] Tryz.func216 Z Z Z Z Z (W 2 Z (AS Z (AO.dO Z Z Z Z eH Z (U 1 Z (AS Z (AO.dO Z Z Z Z eH Z ?_)))))); refine BR hf fun b1 h2 hf=>?_; refine U 2 Z (AR.gI 7 10 17 true [] b1 Z Z (fun h1=>?_) (fun h1=>?_) ?_)
 · replace h2:=jC h1 h2; refine Is 10 h1 Z (U 2 Z (GO Z (AO.dO Z Z Z Z eH Z ?_))); refine B1 h2 fun x1 h3 h2=>GO Z (AO.pQ h3 Z eH Z Z ⟨_,Z⟩ ?_); cases h2; exact fZ 3 Z (En [17] Z)
 · refine IF 10 h1 h2 Z fun h2=>?_; cases h2; exact fZ 7 Z (En [17] Z)
 cases hf; exact N 1 Z (Y Z h)
theorem Bv (s1:Str) (lQ:Str) {r0:Str} {r1:Bool} (hf:pY s1 lQ=some (r0,r1)) (h:Q (.ret (.tuple [.str r0,.bool r1])) τ):PC 202 [.str s1,.str lQ] τ Q:=by
 unfold pY at hf; refine BN 15 [.tmp 4,.tmp 5] [0,1] Tryz.func202 Z Z Z Z Z ?_; refine B1 hf fun x1 h1 hf=>W 4 Z (CL Z (uH _ _ h1 (J 1 Z (C hf Z (fun h2 hf=>?_) fun h2 hf=>?_))))
 · cases hf; exact M 3 Z (Y Z h)
 refine W 2 Z (AS Z (AO.dO Z Z Z Z eH Z ?_)); refine B1 hf fun TJ h3 hf=>AS Z (AO.pQ h3 Z eH Z ⟨_,Z⟩ Z ?_); cases hf; exact N 2 Z (Y Z h)
theorem Hu (s1:Str) (lQ:Str) {r0:Str} {r1:Bool} (hf:strings_CutPrefix s1 lQ=some (r0,r1)) (h:Q (.ret (.tuple [.str r0,.bool r1])) τ):PC 169 [.str s1,.str lQ] τ Q:=by
 unfold strings_CutPrefix at hf; refine BN 11 [.tmp 4,.tmp 5] [0,1] Tryz.func169 Z Z Z Z Z ?_; replace hf:=(G6 _).trans hf; obtain ⟨TJ,aaE,h1,hf⟩:=bM hf; refine W 4 Z (CL Z (Bv _ _ h1 ?_)); cases hf; exact N 4 Z (Y Z h)
theorem uG (s1:Str) (lN:Str) {r0:Bool} (hf:mH s1 lN=some r0) (h:Q (.ret (.bool r0)) τ):PC 235 [.str s1,.str lN] τ Q:=by
 unfold mH at hf; refine BN 21 [.tmp 4] [0,1] Tryz.func235 Z Z Z Z Z (W 2 Z (AS Z (AO.dO Z Z Z Z eH Z (U 1 Z (AS Z (AO.dO Z Z Z Z eH Z ?_)))))); refine BR hf fun b1 h2 hf=>?_; refine U 2 Z (AR.gI 10 10 20 true [] b1 Z Z (fun h1=>?_) (fun h1=>?_) ?_)
 · replace h2:=jC h1 h2; refine Is 10 h1 Z (U 2 Z (GO Z (AO.dO Z Z Z Z eH Z (U 1 Z (GO Z (AO.dO Z Z Z Z eH Z ?_)))))); refine B1 h2 fun x1 h3 h2=>U 1 Z (GO Z (AO.pQ h3 Z eH Z ⟨_,Z⟩ Z ?_)); cases h2; exact fZ 3 Z (En [20] Z)
 · refine IF 10 h1 h2 Z fun h2=>?_; cases h2; exact fZ 10 Z (En [20] Z)
 cases hf; exact N 1 Z (Y Z h)
theorem Bu (s1:Str) (lN:Str) {r0:Str} {r1:Bool} (hf:pX s1 lN=some (r0,r1)) (h:Q (.ret (.tuple [.str r0,.bool r1])) τ):PC 203 [.str s1,.str lN] τ Q:=by
 unfold pX at hf; refine BN 18 [.tmp 4,.tmp 5] [0,1] Tryz.func203 Z Z Z Z Z ?_; refine B1 hf fun x1 h1 hf=>W 4 Z (CL Z (uG _ _ h1 (J 1 Z (C hf Z (fun h2 hf=>?_) fun h2 hf=>?_))))
 · cases hf; exact M 3 Z (Y Z h)
 refine W 2 Z (AS Z (AO.dO Z Z Z Z eH Z (U 1 Z (AS Z (AO.dO Z Z Z Z eH Z ?_))))); refine B1 hf fun Rb h3 hf=>U 1 Z (AS Z (AO.pQ h3 Z eH Z Z ⟨_,Z⟩ ?_)); cases hf; exact N 2 Z (Y Z h)
theorem Ht (s1:Str) (lN:Str) {r0:Str} {r1:Bool} (hf:strings_CutSuffix s1 lN=some (r0,r1)) (h:Q (.ret (.tuple [.str r0,.bool r1])) τ):PC 170 [.str s1,.str lN] τ Q:=by
 unfold strings_CutSuffix at hf; refine BN 11 [.tmp 4,.tmp 5] [0,1] Tryz.func170 Z Z Z Z Z ?_; replace hf:=(G6 _).trans hf; obtain ⟨Rb,aaE,h1,hf⟩:=bM hf; refine W 4 Z (CL Z (Bu _ _ h1 ?_)); cases hf; exact N 4 Z (Y Z h)
theorem Ml (s1:Str) {r0:Int} {r1:Str} (hf:Ch s1=some (r0,r1)) (h:Q (.ret (.tuple [iP r0,.str r1])) τ):PC 147 [.str s1] τ Q:=by
 unfold Ch at hf; refine BN 35 [.tmp 2,.tmp 3] [0] Tryz.func147 Z Z Z Z Z (W 2 Z (AS Z (AO.bD (List.map JU ([5,6]:List Int)) Z M9 Z Z Z Z (AS Z (AO.aT (l:=([5,6]:List Int)) Z Z Z Z Cz Z Z (J 1 Z (Kl (fun x1=>[(0,.str s1),(10,.list (List.map JU ([5,6]:List Int))),(11,iP (([5,6]:List Int).length:Int)),(12,iP x1)]) (fun x1=>[]) (fun b_ x1=>pK s1 b_ x1=some (r0,r1)) BIG 0 Z Z hf (fun _ hz=>bU hz) ?_))))))); intro b_ x1 hf; rw [pK] at hf; refine V 1 Z (C hf Z (fun h1 hf=>?_) fun h1 hf=>?_)
 ·
  refine B1 hf fun lC h2 hf=>W 0 Z (AS Z (AO.aZ h2 Z Z Z Z Cz Z Z ?_)); refine B1 hf fun x2 h3 hf=>U 4 Z (CL Z (CK _ h3 ?_)); refine B1 hf fun x3 h4 hf=>AS Z (AO.mX h4 Z Z Z ?_); obtain ⟨iZ,ok1,h5,hf⟩:=bM hf; refine CL Z (Hu _ _ h5 (J 7 Z (C hf Z (fun h6 hf=>?_) fun h6 hf=>?_)))
  · exact M 2 Z ⟨(dG (x1 + 1)),Z,Z,Z,hf⟩
  obtain ⟨xO,ok2,h7,hf⟩:=bM hf; refine W 1 Z (CL Z (Ht _ _ h7 (J 6 Z (C hf Z (fun h8 hf=>?_) fun h8 hf=>?_))))
  · cases hf; exact M 4 Z (Y Z h)
  exact M 2 Z ⟨(dG (x1 + 1)),Z,Z,Z,hf⟩
 cases hf; exact M 2 Z (Y Z h)
theorem mY (lC:Int) {r0:Bool} (hf:l7 lC=some r0) (h:Q (.ret (.bool r0)) τ):PC 109 [iP lC] τ Q:=by
 unfold l7 at hf; refine BN 9 [.tmp 2] [0] Tryz.func109 Z Z Z Z Z (W 4 Z (On 3 5 8 [] (lC == 6) Z Z Z Z ?_)); cases hf; exact N 1 Z (Y Z h)
theorem kP (lC:Int) {r0:aJ} (hf:kr lC=some r0) (h:Q (.ret (.agg (fK r0))) τ):PC 69 [iP lC] τ Q:=by
 unfold kr at hf; refine BN 5 [.cell 2 61] [0] Tryz.func69 Z Z Z Z Z (W 0 Z (AS Z (AO.aC Z Jo (fun b2=>?_)))); cases hf; exact Rx 3 [0] Z Z (ZC [0] Z Z h)
theorem za (lC:Int) (xO:aJ) {r0:aJ} (hf:xQ lC xO=some r0) (h:Q (.ret (.agg (fK r0))) τ):PC 71 [iP lC,.agg (fK xO)] τ Q:=by
 unfold xQ at hf; refine BN 9 [.cell 4 61] [0,1] Tryz.func71 rfl rfl rfl rfl rfl (W 1 rfl (AS rfl (AO.aC rfl Jo (fun b4=>(U 2 rfl (AS rfl (AO.bD (aJ.aK [xO]) rfl abu rfl rfl rfl (by first | rfl | simp only [List.map,aJ.aF,aJ.aK]) ?_))))))); cases hf; exact Rx 2 [0] Z Z (ZC [0] Z Z h)
theorem N_ (s1:Str) {r0:aJ} {r1:Int} (hf:Dw s1=some (r0,r1)) (h:Q (.ret (.tuple [.agg (fK r0),iP r1])) τ):PC 116 [.str s1] τ Q:=by
 unfold Dw at hf; refine BN 59 [.cell 2 61,.tmp 3] [0] Tryz.func116 Z Z Z Z Z (W 0 Z (AS Z (AO.aC Z Jo (fun b2=>(U 2 Z (AS Z (AO.dO Z Z Z Z eH Z (J 1 Z (C hf Z (fun h1 hf=>?_) fun h1 hf=>?_)))))))))
 · cases hf; exact Wx 3 [0] Z Z (ZC [0] Z Z h)
 refine V 1 Z (AW.row 1 3 (Rj (fun s2 lZ v1=>[(0,.str s2),(2,pP b2),(4,.own v1 (List.map JU lZ))]) (fun s2 lZ v1=>[.row v1 (List.map JU lZ).length 1 3,.box b2 [iP 0,.own (.slice none 0 0) []]]) (fun b_ s2 lZ v1=>vw b_ s2 lZ=some (r0,r1)) BIG s1 [] (.slice none 0 0) Z Z hf (fun _ _ _ hz=>bU hz) ?_)); intro b_ s2 lZ v1 hf; rw [vw] at hf; obtain ⟨lC,iZ,h2,hf⟩:=bM hf; refine W 1 Z (CL Z (Ml _ h2 (J 7 Z (C hf Z (fun h3 hf=>?_) fun h3 hf=>?_))))
 ·
  refine V 1 Z (Kl (fun Eu=>[(0,.str s2),(2,pP b2),(4,.own v1 (List.map JU lZ)),(26,iP Eu)]) (fun Eu=>[.row v1 (List.map JU lZ).length 1 3,.box b2 [iP 0,.own (.slice none 0 0) []]]) (fun IZ Eu=>vv s2 lZ IZ Eu=some (r0,r1)) BIG 0 Z Z hf (fun _ hz=>bU hz) ?_); intro IZ Eu hf; rw [vv] at hf; refine V 1 Z (C hf Z (fun h4 hf=>?_) fun h4 hf=>?_)
  ·
   refine B1 hf fun x1 h5 hf=>W 3 Z (CL Z (mY _ h5 ?_)); refine B1 hf fun b1 h7 hf=>U 1 Z (AR.gI 5 31 36 false [0,2,4,7,26] b1 Z Z (fun h6=>?_) (fun h6=>?_) ?_)
   · refine IF 31 h6 h7 Z fun h7=>?_; refine B1 h7 fun x2 h8 h7=>U 1 Z (GO Z (AO.call Z _ Z Z ZT (CK _ h8 ?_))); cases h7; exact fZ 3 Z (En [36,0,2,4,7,26] Z)
   · refine IT 31 h6 h7 Z fun h7=>?_; cases h7; exact fZ 5 Z (En [36,0,2,4,7,26] Z)
   refine J 0 Z (C hf Z (fun h9 hf=>?_) fun h9 hf=>?_)
   · exact M 2 Z ⟨(dG (Eu + 1)),Z,Z,Z,hf⟩
   refine W 1 Z (AS Z (AO.aT (l:=lZ) Z Z Z Z Cz Z Z (J 1 Z (C hf Z (fun h10 hf=>?_) fun h10 hf=>?_))))
   · cases hf; exact Wx 3 [1] Z Z (ZC [1] Z Z h)
   refine B1 hf fun x3 h11 hf=>W 1 Z (CL Z (kP _ h11 (AS Z (AO.aC Z Jo (fun b8=>(Rr 2 [0] Z Z (AS Z (AO.aT (l:=lZ) Z Z Z Z Cz Z Z ?_)))))))); refine J 2 Z (Vn (fun i1 t1=>[(2,pP b2),(4,.own v1 (List.map JU lZ)),(8,pP b8),(9,iP i1)]) (fun i1 t1=>[.box b8 (fK t1),.row v1 (List.map JU lZ).length 1 3,.box b2 [iP 0,.own (.slice none 0 0) []]]) (fun kk3 i1 t1=>vo lZ kk3 i1 t1=some (r0,r1)) BIG (dG ((lZ.length:Int) - 1)) x3 Z Z hf (fun _ _ hz=>bU hz) ?_); intro kk3 i1 t1 hf; rw [vo] at hf; refine V 2 Z (C hf Z (fun h12 hf=>?_) fun h12 hf=>?_)
   ·
    refine V 0 Z (AW.draw 6 mixed (by kernel_rfl) Z ?_); refine Ev.cs bJ 2 Z ?_; refine B1 hf fun e1 l6 hf=>Ev.cons Z Z Z (AO.aZ l6 Z Z Z Z Cz Z Z zg) (Ev.cs bJ 1 Z (Ev.cons Z Z Z (AO.aR (i:=0) Z Z Z YI Z Z zg) ?_)); refine B1 hf fun x4 lH hf=>Ev.cons Z Z Z (AO.call Z _ Z Z Wd (za _ _ lH zg)) (Ev.nil ?_); show AR _ _ _ _ _ _ _ _; exact Rx 4 [0] Z Z ⟨(dG (i1 - 1)),x4,Z,Z,Z,hf⟩
   cases hf; exact Wx 3 [0,2] Z Z (ZC [2] Z Z h)
  cases hf; exact Wx 3 [1] Z Z (ZC [1] Z Z h)
 refine W 2 Z (AS Z (AO.bD (List.map JU ([lC]:List Int)) Z M9 Z Z Z Z ?_)); refine B1 hf fun Tj rO hf=>AS Z (AO.eB (i:=0) (l:=lZ) (m:=([lC]:List Int)) rO Z Z Z Z Z Z Z M9 Cz Z Z Z (fun _=>Z) (fun _=>Z) (by decide) (fun v2 s3 hs3=>?_)); cases hs3; exact N 3 Z ⟨iZ,Tj,v2,Z,Z,Z,hf⟩
theorem Px (e1:aj) (mq:List aB) {r0:List aB} {r1:Int} (hf:FR e1 mq=some (r0,r1)) (h:Q (.ret (.tuple [.list (List.map aB.cells r0),iP r1])) τ):PC 118 [.agg (bE e1),.list (List.map aB.cells mq)] τ Q:=by
 unfold FR at hf; refine BN 19 [.tmp 4,.tmp 5] [0,1] Tryz.func118 Z Z Z Z Z (W 1 Z (AS Z (AO.d9 Z Z ?_))); refine B1 hf fun f1 h1 hf=>U 2 Z (CL Z (Ee _ h1 (J 3 Z (C hf Z (fun h2 hf=>?_) fun h2 hf=>?_))))
 · refine W 1 Z (AS Z (AO.d9 Z Z ?_)); cases hf; exact N 1 Z (Y Z h)
 refine B1 hf fun f2 h3 hf=>W 1 Z (CL Z (qg _ h3 (J 3 Z (C hf Z (fun h4 hf=>?_) fun h4 hf=>?_))))
 · refine W 1 Z (AS Z (AO.d9 Z Z ?_)); cases hf; exact N 1 Z (Y Z h)
 cases hf; exact M 3 Z (Y Z h)
@[reducible] def Rs :eP aH Unit→cO
 | .ok r=>.ret (.tuple [])
 | .bad e=>.panic (.iface 181 (.agg [iP e.code]))
theorem BX (e1:Int) {rX:eP aH Unit} (hf:GU e1=some rX) (h:Q (Rs rX) τ):PC 204 [iP e1] τ Q:=by
 unfold GU at hf; refine BN 5 [] [0] Tryz.func204 Z Z Z Z Z (W 2 Z (AS Z (AO.Ul Z aap Z (AR.bC Z Z (AO.WH Z Z ?_))))); cases hf; exact ⟨Z,[],List.nil_sublist _,h⟩
@[reducible] def Jp :eP aH ah→cO
 | .ok r=>.ret (.agg (aL r))
 | .bad e=>.panic (.iface 181 (.agg [iP e.code]))
theorem BS (s1:List aB) (name1:Str) {rX:eP aH ah} (hf:zI s1 name1=some rX) (h:Q (Jp rX) τ):PC 171 [.list (List.map aB.cells s1),.str name1] τ Q:=by
 unfold zI at hf; refine BN 22 [.cell 4 42] [0,1] Tryz.func171 Z Z Z Z Z (W 0 Z (AS Z (AO.aC Z gK (fun b4=>(U 1 Z (AS Z (AO.aT (l:=s1) Z Z Z Z Xb Z Z (J 1 Z (Kl (fun x1=>[(1,.str name1),(4,pP b4),(7,.list (List.map aB.cells s1)),(8,iP (s1.length:Int)),(9,iP x1)]) (fun x1=>[.box b4 [iP 0,.bool false,iP 0,.str ([]:Str),.own (.slice none 0 0) [],.own (.slice none 0 0) []]]) (fun b_ x1=>qG s1 name1 b_ x1=some rX) BIG 0 Z Z hf (fun _ hz=>bU hz) ?_))))))))); intro b_ x1 hf; rw [qG] at hf; refine V 1 Z (C hf Z (fun h1 hf=>?_) fun h1 hf=>?_)
 ·
  refine B1 hf fun e1 h2 hf=>W 0 Z (AS Z (AO.aZ h2 Z Z Z Z Xb (aB.aF _) Z (U 1 Z (AS Z (AO.aC Z MI (fun b6=>(Rw 5 [0,0] Z Z (C hf Z (fun h3 hf=>?_) fun h3 hf=>?_))))))))
  · cases hf; exact Wx 3 [0,1] Z Z (ZC [1] Z Z h)
  refine XY 2 Z (AR.drop1 ?_); exact N 0 Z ⟨(dG (x1 + 1)),Z,Z,Z,hf⟩
 rcases bL hf with ⟨e2,h4,hf⟩ | ⟨_,h4,hf⟩
 · refine W 0 Z (CL Z (BX _ h4 ?_)); cases hf; exact ⟨Z,[],List.nil_sublist _,h⟩
 refine W 0 Z (CL Z (BX _ h4 ?_)); cases hf; exact Rx 2 [0] Z Z (ZC [0] Z Z h)
theorem tO (s1:Str) {r0:ah} (hf:uj s1=some r0) (h:Q (.ret (.agg (aL r0))) τ):PC 173 [.str s1] τ Q:=by
 unfold uj at hf; refine BN 5 [.cell 2 42] [0] Tryz.func173 Z Z Z Z Z (W 0 Z (AS Z (AO.aC Z gK (fun b2=>?_)))); cases hf; exact Rx 3 [0] Z Z (ZC [0] Z Z h)
theorem ko (v1:ah) (lC:Int) {r0:Bool} (hf:mJ v1 lC=some r0) (h:Q (.ret (.bool r0)) τ):PC 205 [.agg (aL v1),iP lC] τ Q:=by
 unfold mJ at hf; refine BN 9 [.tmp 4] [0,1] Tryz.func205 Z Z Z Z Z ?_; cases hf; exact M 7 Z (Y Z h)
@[reducible] def Rq :eP aH Unit→cO
 | .ok r=>.ret (.tuple [])
 | .bad e=>.panic (.iface 181 (.agg [iP e.code]))
theorem bK (ok1:Bool) (e1:Int) {rX:eP aH Unit} (hf:f_ ok1 e1=some rX) (h:Q (Rq rX) τ):PC 181 [.bool ok1,iP e1] τ Q:=by
 unfold f_ at hf; refine BN 8 [] [0,1] Tryz.func181 Z Z Z Z Z (V 2 Z (C hf Z (fun h1 hf=>?_) fun h1 hf=>?_))
 ·
  rcases bL hf with ⟨e2,h2,hf⟩ | ⟨_,h2,hf⟩
  · refine W 1 Z (CL Z (BX _ h2 ?_)); cases hf; exact ⟨Z,[],List.nil_sublist _,h⟩
  refine W 1 Z (CL Z (BX _ h2 ?_)); cases hf; exact N 0 Z (ZN Z h)
 cases hf; exact M 0 Z (ZN Z h)
theorem yw (s1:List Str) (v1:Str) {r0:Int} (hf:mR s1 v1=some r0) (h:Q (.ret (iP r0)) τ):PC 236 [sP s1,.str v1] τ Q:=by
 unfold mR at hf; refine BN 19 [.tmp 4] [0,1] Tryz.func236 Z Z Z Z Z (W 2 Z (AS Z (AO.aT (l:=s1) Z Z Z Z jZ Z Z (J 1 Z (Kl (fun i1=>[(0,sP s1),(1,.str v1),(7,iP (s1.length:Int)),(8,iP i1)]) (fun i1=>[]) (fun b_ i1=>jI s1 v1 b_ i1=some r0) BIG 0 Z Z hf (fun _ hz=>bU hz) ?_))))); intro b_ i1 hf; rw [jI] at hf; refine V 1 Z (C hf Z (fun h1 hf=>?_) fun h1 hf=>?_)
 ·
  refine B1 hf fun e1 h2 hf=>W 5 Z (AS Z (AO.aZ h2 Z Z Z Z jZ Z Z (J 2 Z (C hf Z (fun h3 hf=>?_) fun h3 hf=>?_))))
  · cases hf; exact M 2 Z (Y Z h)
  exact M 2 Z ⟨(dG (i1 + 1)),Z,Z,Z,hf⟩
 cases hf; exact M 1 Z (Y Z h)
abbrev Ir (kD:ah→Option ah):Prop:=∀ (vg:ah) {bf:ah},kD vg=some bf→∀ {τ:List aV} {Q:cO→List aV→Prop} (h:Q (.ret (.agg (aL bf))) τ),PC 237 [.agg (aL vg)] τ Q
theorem OM (kD) (Me:Ir kD) (v1:ah) {r0:ah} (hf:Cc kD v1=some r0) (h:Q (.ret (.agg (aL r0))) τ):PC 237 [.agg (aL v1)] τ Q:=by
 unfold Cc at hf; refine BN 28 [.cell 2 42] [0] Tryz.func237 Z Z Z Z Z (W 1 Z (AS Z (AO.aC Z gK (fun b2=>(U 1 Z (AS Z (AO.aC Z gK (fun b3=>?_)))))))); refine B1 hf fun x1 h1 hf=>Rr 3 [0] Z Z (CL Z (l5 _ h1 (Rr 6 [0,0] Z Z (AS Z (AO.aT (l:=v1.cu) Z Z Z Z iR Z (ah.aA _) ?_))))); refine J 1 Z (AW.row 6 42 (Rj (fun x2 aY v2=>[(2,pP b2),(3,pP b3),(13,.list (ah.aK v1.cu)),(14,iP (v1.cu.length:Int)),(15,iP x2)]) (fun x2 aY v2=>[.row v2 (ah.aK aY.cu).length 6 42,.box b3 [iP aY.kind,.bool aY.je,iP aY.jm,.str aY.iK,.own v2 (ah.aK aY.cu),sP aY.keys],.box b2 [iP 0,.bool false,iP 0,.str ([]:Str),.own (.slice none 0 0) [],.own (.slice none 0 0) []]]) (fun b_ x2 aY v2=>wE kD v1 b_ x2 aY=some r0) BIG 0 (ah.mk v1.kind v1.je v1.jm v1.iK [] x1) (.slice none 0 0) Z Z hf (fun _ _ _ hz=>bU hz) ?_)); intro b_ x2 aY v2 hf; rw [wE] at hf; refine V 1 Z (C hf Z (fun h2 hf=>?_) fun h2 hf=>?_)
 ·
  refine B1 hf fun e1 h3 hf=>W 0 Z (AS Z (AO.aZ h3 Z Z (ah.aA _) Z iR (ah.aF _) Z (U 1 Z (AS Z (AO.aC Z gK (fun b5=>(Rw 1 [0] Z Z (AW.draw 5 mixed (by kernel_rfl) Z ?_)))))))); refine Ev.cs bJ 1 Z (Ev.cons Z Z Z (AO.aR (i:=2) Z Z Z Fq Z Z zg) (Ev.cons Z Z Z (AO.aR (i:=0) Z Z Z kY Z Z zg) ?_)); refine B1 hf fun x3 h4 hf=>Ev.cons rfl rfl rfl (AO.call rfl _ rfl rfl Wm (Me _ h4 ⟨rfl,rfl⟩)) (Ev.cons rfl rfl rfl (AO.bD (ah.aK [x3]) rfl vW rfl rfl rfl (by first | rfl | simp only [List.map,ah.aF,ah.aK]) ⟨rfl,rfl⟩) ?_)
  refine Ev.nil ?_; show AR _ _ _ _ _ _ _ _; refine B1 hf fun x4 h5 hf=>AS Z (AO.eB (i:=1) (l:=aY.cu) (m:=[x3]) h5 Z Z Z Z Z Z Z vW iR (ah.aA _) (ah.aA _) (ah.aA _).symm (ah.bB) (ah.cells_one) (by decide) (fun v3 s1 hs1=>?_)); cases hs1; refine Rn 4 [2] Z Z (AR.drop1 ?_); exact N 0 Z ⟨(dG (x2 + 1)),(ah.mk aY.kind aY.je aY.jm aY.iK x4 aY.keys),v3,Z,Z,Z,hf⟩
 cases hf; exact Wx 2 [1,2] Z Z (ZC [2] Z Z h)
theorem OY :∀ k:Nat,(Ir (uQ k)):=by
 intro k
 induction k with
 | zero=>exact fun _ _ hz=>by first | cases hz | (unfold uQ at hz; cases hz)
 | succ k ih=>exact fun vg bf hz τ Q hq=>OM (uQ k) ih vg hz hq
theorem Ie (vg:ah) {bf:ah} (hf:Fh vg=some bf) (h:Q (.ret (.agg (aL bf))) τ):PC 237 [.agg (aL vg)] τ Q:=
 ((OY BIG)) vg hf h
theorem LC (v1:ah) (key1:Str) {r0:ah} {r1:Bool} (hf:GA v1 key1=some (r0,r1)) (h:Q (.ret (.tuple [.agg (aL r0),.bool r1])) τ):PC 206 [.agg (aL v1),.str key1] τ Q:=by
 unfold GA at hf; refine BN 32 [.cell 4 42,.tmp 5] [0,1] Tryz.func206 Z Z Z Z Z (W 1 Z (AS Z (AO.aC Z gK (fun b4=>?_)))); refine B1 hf fun i1 h1 hf=>U 4 Z (CL Z (yw _ _ h1 (U 5 Z (On 3 14 17 [2,4,6] (decide (i1 < 0)) Z Z Z Z (U 1 Z (AR.or 6 18 24 [2,4,6] (x:=(decide ((v1.cu.length:Int)≤i1))) Z Z (fun h3=>?_) (fun h3=>?_) ?_))))))
 · refine Is 18 h3 Z (U 3 Z (GO Z (AO.aT (l:=v1.cu) Z Z Z Z iR Z (ah.aA _) ?_))); exact fZ 2 Z (En [24,2,4,6] Z)
 · refine Is 18 h3 Z ?_; exact fZ 6 Z (En [24,2,4,6] Z)
 refine J 0 Z (C hf Z (fun h4 hf=>?_) fun h4 hf=>?_)
 · cases hf; exact Wx 3 [0] Z Z (ZC [0] Z Z h)
 refine B1 hf fun e1 h5 hf=>W 3 Z (AS Z (AO.aZ h5 Z Z (ah.aA _) Z iR (ah.aF _) Z ?_)); refine B1 hf fun x1 h6 hf=>U 1 Z (CL Z (Ie _ h6 ?_)); cases hf; exact Rx 2 [0] Z Z (ZC [0] Z Z h)
@[reducible] def Qj :eP aH ah→cO
 | .ok r=>.ret (.agg (aL r))
 | .bad e=>.panic (.iface 181 (.agg [iP e.code]))
theorem Aa (m1:ah) (key1:ah) {rX:eP aH ah} (hf:DZ m1 key1=some rX) (h:Q (Qj rX) τ):PC 172 [.agg (aL m1),.agg (aL key1)] τ Q:=by
 unfold DZ at hf; refine BN 24 [.cell 4 42] [0,1] Tryz.func172 Z Z Z Z Z (W 2 Z (AS Z (AO.aC Z gK (fun b4=>?_)))); refine B1 hf fun x1 h1 hf=>U 1 Z (CL Z (ko _ _ h1 ?_)); refine B1 hf fun b1 h3 hf=>U 1 Z (AR.gI 3 9 12 true [2,3,4] b1 Z Z (fun h2=>?_) (fun h2=>?_) ?_)
 · refine IT 9 h2 h3 Z fun h3=>?_; refine BR h3 fun x2 h4 h3=>?_; refine U 1 Z (GO Z (AO.call Z _ Z Z KG (ko _ _ h4 ?_))); cases h3; exact fZ 1 Z (En [12,2,3,4] Z)
 · refine IF 9 h2 h3 Z fun h3=>?_; cases h3; exact fZ 3 Z (En [12,2,3,4] Z)
 rcases bL hf with ⟨e1,h5,hf⟩ | ⟨_,h5,hf⟩
 · refine CL Z (bK _ _ h5 ?_); cases hf; exact ⟨Z,[],List.nil_sublist _,h⟩
 refine CL Z (bK _ _ h5 ?_); obtain ⟨x3,ok1,h6,hf⟩:=bM hf; refine U 3 Z (CL Z (LC _ _ h6 (U 3 Z (AS Z (AO.aC Z gK (fun b5=>?_)))))); rcases bL hf with ⟨e2,h7,hf⟩ | ⟨_,h7,hf⟩
 · refine Rr 3 [0] Z Z (CL Z (bK _ _ h7 ?_)); cases hf; exact ⟨Z,[],List.nil_sublist _,h⟩
 refine Rr 3 [0] Z Z (CL Z (bK _ _ h7 ?_)); cases hf; exact Rx 2 [0,1] Z Z (ZC [1] Z Z h)
@[reducible] def MN :eP aH ah→cO
 | .ok r=>.ret (.agg (aL r))
 | .bad e=>.panic (.iface 181 (.agg [iP e.code]))
theorem Gm (a1:ah) (i1:ah) {rX:eP aH ah} (hf:D5 a1 i1=some rX) (h:Q (MN rX) τ):PC 174 [.agg (aL a1),.agg (aL i1)] τ Q:=by
 unfold D5 at hf; refine BN 32 [.cell 4 42] [0,1] Tryz.func174 Z Z Z Z Z (W 2 Z (AS Z (AO.aC Z gK (fun b4=>?_)))); refine B1 hf fun x1 h1 hf=>U 1 Z (CL Z (ko _ _ h1 ?_)); refine B1 hf fun b1 h3 hf=>U 1 Z (AR.gI 3 7 10 true [2,3,4] b1 Z Z (fun h2=>?_) (fun h2=>?_) ?_)
 · refine IT 7 h2 h3 Z fun h3=>?_; refine BR h3 fun x2 h4 h3=>?_; refine U 1 Z (GO Z (AO.call Z _ Z Z KG (ko _ _ h4 ?_))); cases h3; exact fZ 1 Z (En [10,2,3,4] Z)
 · refine IF 7 h2 h3 Z fun h3=>?_; cases h3; exact fZ 3 Z (En [10,2,3,4] Z)
 refine J 0 Z (C hf Z (fun h5 hf=>?_) fun h5 hf=>?_)
 ·
  refine W 4 Z (AR.and 7 14 21 [2,3,4] (x:=(decide (i1.jm < (a1.cu.length:Int)))) Z Z (fun h6=>?_) (fun h6=>?_) ?_)
  · refine Is 14 h6 Z (U 4 Z (GO Z (AO.aT (l:=a1.cu) Z Z Z Z iR Z (ah.aA _) ?_))); exact fZ 2 Z (En [21,2,3,4] Z)
  · refine Is 14 h6 Z ?_; exact fZ 7 Z (En [21,2,3,4] Z)
  rcases bL hf with ⟨e1,h7,hf⟩ | ⟨_,h7,hf⟩
  · refine CL Z (bK _ _ h7 ?_); cases hf; exact ⟨Z,[],List.nil_sublist _,h⟩
  refine CL Z (bK _ _ h7 ?_); refine B1 hf fun e2 h8 hf=>U 4 Z (AS Z (AO.aZ h8 Z Z (ah.aA _) Z iR (ah.aF _) Z ?_)); cases hf; exact Rx 2 [0] Z Z (ZC [0] Z Z h)
 rcases bL hf with ⟨e3,h9,hf⟩ | ⟨x3,h9,hf⟩
 · refine W 2 Z (CL Z (Aa _ _ h9 ?_)); cases hf; exact ⟨Z,[],List.nil_sublist _,h⟩
 refine W 2 Z (CL Z (Aa _ _ h9 ?_)); cases hf; exact Rx 1 [0] Z Z (ZC [0] Z Z h)
theorem Q8 (name1:Str) {r0:Int} (hf:I9 name1=some r0) (h:Q (.ret (iP r0)) τ):PC 207 [.str name1] τ Q:=by
 unfold I9 at hf; refine BN 18 [.tmp 2] [0] Tryz.func207 Z Z Z Z Z (V 4 Z (C hf Z (fun h1 hf=>?_) fun h1 hf=>?_))
 ·
  refine V 0 Z (AW.cond Z (fun h2=>?_) (fun h2=>?_))
  · cases hf; exact M 1 Z (Y Z h)
  cases h1.symm.trans h2
 refine V 2 Z (C hf Z (fun h3 hf=>?_) fun h3 hf=>?_)
 ·
  refine V 0 Z (AW.cond Z (fun h4=>?_) (fun h4=>?_))
  · cases hf; exact M 1 Z (Y Z h)
  cases h3.symm.trans h4
 refine V 2 Z (C hf Z (fun h5 hf=>?_) fun h5 hf=>?_)
 ·
  refine V 0 Z (AW.cond Z (fun h6=>?_) (fun h6=>?_))
  · cases hf; exact M 1 Z (Y Z h)
  cases h5.symm.trans h6
 refine V 2 Z (C hf Z (fun h7 hf=>?_) fun h7 hf=>?_)
 ·
  refine V 0 Z (AW.cond Z (fun h8=>?_) (fun h8=>?_))
  · cases hf; exact M 1 Z (Y Z h)
  cases h7.symm.trans h8
 refine V 2 Z (C hf Z (fun h9 hf=>?_) fun h9 hf=>?_)
 ·
  refine V 0 Z (AW.cond Z (fun h10=>?_) (fun h10=>?_))
  · cases hf; exact M 1 Z (Y Z h)
  cases h9.symm.trans h10
 refine V 2 Z (C hf Z (fun h11 hf=>?_) fun h11 hf=>?_)
 · cases hf; exact M 1 Z (Y Z h)
 refine V 2 Z (C hf Z (fun h12 hf=>?_) fun h12 hf=>?_)
 ·
  refine V 0 Z (AW.cond Z (fun l6=>?_) (fun l6=>?_))
  · cases hf; exact M 1 Z (Y Z h)
  cases h12.symm.trans l6
 refine V 2 Z (C hf Z (fun lH hf=>?_) fun lH hf=>?_)
 ·
  refine V 0 Z (AW.cond Z (fun rO=>?_) (fun rO=>?_))
  · cases hf; exact M 1 Z (Y Z h)
  cases lH.symm.trans rO
 refine V 2 Z (C hf Z (fun h16 hf=>?_) fun h16 hf=>?_)
 ·
  refine V 0 Z (AW.cond Z (fun xM=>?_) (fun xM=>?_))
  · cases hf; exact M 1 Z (Y Z h)
  cases h16.symm.trans xM
 refine V 2 Z (C hf Z (fun h18 hf=>?_) fun h18 hf=>?_)
 ·
  refine V 0 Z (AW.cond Z (fun h19=>?_) (fun h19=>?_))
  · cases hf; exact M 1 Z (Y Z h)
  cases h18.symm.trans h19
 refine V 2 Z (C hf Z (fun h20 hf=>?_) fun h20 hf=>?_)
 ·
  refine V 0 Z (AW.cond Z (fun h21=>?_) (fun h21=>?_))
  · cases hf; exact M 1 Z (Y Z h)
  cases h20.symm.trans h21
 refine V 2 Z (C hf Z (fun h22 hf=>?_) fun h22 hf=>?_)
 · cases hf; exact M 1 Z (Y Z h)
 cases hf; exact M 1 Z (Y Z h)
theorem tQ (n1:Int) {r0:ah} (hf:qH n1=some r0) (h:Q (.ret (.agg (aL r0))) τ):PC 211 [iP n1] τ Q:=by
 unfold qH at hf; refine BN 5 [.cell 2 42] [0] Tryz.func211 Z Z Z Z Z (W 0 Z (AS Z (AO.aC Z gK (fun b2=>?_)))); cases hf; exact Rx 3 [0] Z Z (ZC [0] Z Z h)
theorem Ki (l1:List ah) {r0:ah} (hf:D7 l1=some r0) (h:Q (.ret (.agg (aL r0))) τ):PC 179 [.list (ah.aK l1)] τ Q:=by
 unfold D7 at hf; refine BN 5 [.cell 2 42] [0] Tryz.func179 Z Z Z Z Z (W 0 Z (AS Z (AO.aC Z gK (fun b2=>?_)))); cases hf; exact Rx 3 [0] Z Z (ZC [0] Z Z h)
theorem K7 (h:Q (.ret (.agg [iP 4,.bool false,iP 0,.str ([]:Str),.own (.slice none 0 0) [],.own (.slice none 0 0) []])) τ):PC 179 [.own (.slice none 0 0) []] τ Q:=by
 refine AC.none (AC.yT 5 [.cell 2 42] [0] Tryz.func179 Z Z Z Z Z (AW.sr (AR.step Z Z Z (AO.aC Z gK (fun b2=>?_))))); refine AR.nil [0,2] Z (AW.sr (cs 1 Z (AR.step Z Z Z (AO.build Z gK Qr Z ?_)))); refine AR.bC Z Z (AO.bO (i:=0) Z Z Z kY Z Z Z Z Z (AR.nil [2] Z (AW.ret ?_))); exact ⟨rfl,_,⟨_,_,rfl,⟨_,_,0,_,_,rfl,rfl,kY,rfl⟩,rfl⟩,[],List.nil_sublist _,h⟩
theorem LG (l1:List Str) {r0:ah} (hf:GR l1=some r0) (h:Q (.ret (.agg (aL r0))) τ):PC 238 [sP l1] τ Q:=by
 unfold GR at hf; refine BN 22 [.cell 2 42] [0] Tryz.func238 Z Z Z Z Z (W 0 Z (AS Z (AO.aC Z gK (fun b2=>(U 0 Z (AS Z (AO.Xi Z _ Z Z ZG (K7 (AS Z (AO.aC Z gK (fun b3=>?_))))))))))); refine Rr 2 [0] Z Z (AS Z (AO.aT (l:=l1) Z Z Z Z jZ Z Z ?_)); refine J 1 Z (AW.row 6 42 (AW.settle [2,3,7,8,9] Z (AW.zM 1 [false,false,false,false,false,true] Z (Rj (fun x1 aY v1=>[(2,pP b2),(3,pP b3),(7,sP l1),(8,iP (l1.length:Int)),(9,iP x1)]) (fun x1 aY v1=>[.row v1 (ah.aK aY.cu).length 6 42,.box b3 [iP aY.kind,.bool aY.je,iP aY.jm,.str aY.iK,.own v1 (ah.aK aY.cu),sP aY.keys],.box b2 [iP 0,.bool false,iP 0,.str ([]:Str),.own (.slice none 0 0) [],.own (.slice none 0 0) []]]) (fun b_ x1 aY v1=>zZ l1 b_ x1 aY=some r0) BIG 0 (ah.mk 4 false 0 ([]:Str) [] []) (.slice none 0 0) Z Z hf (fun _ _ _ hz=>bU hz) ?_)))); intro b_ x1 aY v1 hf; rw [zZ] at hf; refine V 1 Z (C hf Z (fun h1 hf=>?_) fun h1 hf=>?_)
 ·
  refine B1 hf fun s1 h2 hf=>W 0 Z (AS Z (AO.aZ h2 Z Z Z Z jZ Z Z (J 2 Z (AW.draw 5 mixed (by kernel_rfl) Z ?_)))); refine Ev.cs bJ 1 Z (Ev.cons Z Z Z (AO.aR (i:=1) Z Z Z Fq Z Z zg) (Ev.cs bJ 1 Z ?_)); refine B1 hf fun x2 h3 hf=>Ev.cons rfl rfl rfl (AO.call rfl _ rfl rfl Wu (tO _ h3 ⟨rfl,rfl⟩)) (Ev.cons rfl rfl rfl (AO.bD (ah.aK [x2]) rfl vW rfl rfl rfl (by first | rfl | simp only [List.map,ah.aF,ah.aK]) ⟨rfl,rfl⟩) ?_); refine Ev.nil ?_
  show AR _ _ _ _ _ _ _ _; refine B1 hf fun x3 h4 hf=>AS Z (AO.eB (i:=0) (l:=aY.cu) (m:=[x2]) h4 Z Z Z Z Z Z Z vW iR (ah.aA _) (ah.aA _) (ah.aA _).symm (ah.bB) (ah.cells_one) (by decide) (fun v2 s2 hs2=>?_)); cases hs2; exact Rx 4 [1] Z Z ⟨(dG (x1 + 1)),(ah.mk aY.kind aY.je aY.jm aY.iK x3 aY.keys),v2,Z,Z,Z,hf⟩
 cases hf; exact Wx 2 [1,2] Z Z (ZC [2] Z Z h)
theorem Ed (b1:Bool) {r0:Str} (hf:sW b1=some r0) (h:Q (.ret (.str r0)) τ):PC 164 [.bool b1] τ Q:=by
 unfold sW at hf; refine BN 4 [.tmp 2] [0] Tryz.func164 Z Z Z Z Z (V 2 Z (C hf Z (fun h1 hf=>?_) fun h1 hf=>?_))
 · cases hf; exact M 1 Z (Y Z h)
 cases hf; exact M 1 Z (Y Z h)
theorem Gc (b1:Bool) {r0:Str} (hf:strconv_FormatBool b1=some r0) (h:Q (.ret (.str r0)) τ):PC 137 [.bool b1] τ Q:=by
 unfold strconv_FormatBool at hf; refine BN 5 [.tmp 2] [0] Tryz.func137 Z Z Z Z Z ?_; refine BR hf fun x1 h1 hf=>?_; refine W 2 Z (CL Z (Ed _ h1 ?_)); cases hf; exact N 1 Z (Y Z h)
section
variable [xJ]
def U3 :Go.Shelf.Ren:=⟨fun | 171=>138 | 243=>165 | 246=>199 | 283=>231 | 284=>232 | 285=>233 | 286=>234 | 129=>264 | 317=>263 | 318=>265 | 319=>266 | 320=>267 | 337=>294 | 338=>295 | n=>n,fun | 3=>3 | 9=>9 | 2=>2 | 4=>4 | 171=>251 | 0=>0 | 53=>252 | 37=>73 | 5=>5 | 173=>255 | 212=>275 | 51=>276 | 20=>20 | 213=>277 | 46=>278 | 232=>316 | 233=>317 | n=>n,fun | 17=>1 | 18=>4 | 19=>5 | n=>n⟩
theorem ab0 :Go.Proofs.LaysM.n171 Tryz.prog U3:=by repeat' first | (intros; kernel_rfl) | constructor | decide
theorem Gb (n1:Int) {r0:Str} (hf:strconv_Itoa n1=some r0) (h:Q (.ret (.str r0)) τ):PC 138 [iP n1] τ Q:=by
 unfold strconv_Itoa at hf; split at hf
 case isFalse=>cases hf
 rename_i hg; cases hf; refine AC.none ?_; exact AC.itoa xJ.hD ab0 hg.1 hg.2 xJ.pow h
end
theorem CG (s1:Str) {r0:Str} (hf:yP s1=some r0) (h:Q (.ret (.str r0)) τ):PC 139 [.str s1] τ Q:=by
 unfold yP at hf; refine BN 54 [.tmp 2] [0] Tryz.func139 Z Z Z Z Z (W 1 Z (AS Z (AO.Ai (eu:=5) Z Kq Z (fun b3=>?_)))); refine B1 hf fun b1 h1 hf=>U 0 Z (CL Z (AC.one 0 Z (gV h1 (fun v1=>⟨_,Z,(J 1 Z (Rj (fun i1 b2 v2=>[(0,.str s1),(3,pP b3),(4,iP i1)]) (fun i1 b2 v2=>[.Io b3 v2 167 5 b2]) (fun b_ i1 b2 v2=>mg s1 b_ i1 b2=some r0) BIG 0 b1 v1 Z Z hf (fun _ _ _ hz=>bU hz) ?_))⟩)))); intro b_ i1 b2 v2 hf; rw [mg] at hf; refine W 2 Z (AS Z (AO.dO Z Z Z Z eH Z (J 1 Z (C hf Z (fun h2 hf=>?_) fun h2 hf=>?_))))
 ·
  refine B1 hf fun c1 h3 hf=>W 2 Z (AS Z (AO.gZ h3 Z eH Z Z (U 4 Z (On 3 28 31 [0,3,4,5] ((c1.toNat:Int) == 92) Z Z Z Z (J 1 Z (C hf Z (fun h5 hf=>?_) fun h5 hf=>?_))))))
  · refine B1 hf fun b3 h6 hf=>W 0 Z (CL Z (AC.one 0 Z (gV h6 (fun v3=>⟨_,Z,?_⟩)))); refine B1 hf fun b4 h7 hf=>U 1 Z (CL Z (AC.one 0 Z (gV h7 (fun v4=>⟨_,Z,?_⟩)))); exact N 3 Z ⟨(dG (i1 + 1)),b4,v4,Z,Z,Z,hf⟩
  refine V 3 Z (C hf Z (fun h8 hf=>?_) fun h8 hf=>?_)
  · refine B1 hf fun b5 h9 hf=>W 0 Z (CL Z (AC.one 0 Z (jd h9 (fun v5=>⟨_,Z,?_⟩)))); exact N 3 Z ⟨(dG (i1 + 1)),b5,v5,Z,Z,Z,hf⟩
  refine V 3 Z (C hf Z (fun h10 hf=>?_) fun h10 hf=>?_)
  · refine B1 hf fun b6 h11 hf=>W 0 Z (CL Z (AC.one 0 Z (jd h11 (fun v6=>⟨_,Z,?_⟩)))); exact N 3 Z ⟨(dG (i1 + 1)),b6,v6,Z,Z,Z,hf⟩
  refine W 3 Z (An 3 46 49 [0,3,4,5] (decide ((c1.toNat:Int)≤126)) Z Z Z Z (J 1 Z (C hf Z (fun l6 hf=>?_) fun l6 hf=>?_)))
  · refine B1 hf fun b7 lH hf=>W 1 Z (CL Z (AC.one 0 Z (gV lH (fun v7=>⟨_,Z,?_⟩)))); exact N 3 Z ⟨(dG (i1 + 1)),b7,v7,Z,Z,Z,hf⟩
  refine B1 hf fun b8 rO hf=>W 0 Z (CL Z (AC.one 0 Z (jd rO (fun v8=>⟨_,Z,(U 1 Z (AS Z (AO.u8_quo c1 16 Z Z Z Z Z (by decide) ?_)))⟩)))); refine B1 hf fun x1 h16 hf=>AS Z (AO.gZ h16 Z eH Z Z ?_); refine B1 hf fun b9 xM hf=>CL Z (AC.one 0 Z (gV xM (fun v9=>⟨_,Z,(U 1 Z (AS Z (AO.SQ c1 16 Z Z Z Z Z (by decide) ?_)))⟩))); refine B1 hf fun x2 h18 hf=>AS Z (AO.gZ h18 Z eH Z Z ?_); refine B1 hf fun b10 h19 hf=>CL Z (AC.one 0 Z (gV h19 (fun v10=>⟨_,Z,?_⟩))); exact N 3 Z ⟨(dG (i1 + 1)),b10,v10,Z,Z,Z,hf⟩
 refine BR hf fun b11 h20 hf=>?_; refine W 0 Z (CL Z (AC.one 0 Z (gV h20 (fun v11=>⟨_,Z,(U 0 Z (CL Z (AC.GH 0 Z (uz ?_))))⟩)))); cases hf; exact N 1 Z (Y Z h)
section
variable [xJ]
def PW :Go.Shelf.Ren:=⟨fun | 156=>103 | 165=>143 | 166=>141 | 169=>142 | 240=>166 | 241=>167 | 276=>200 | 277=>201 | n=>n,fun | 31=>40 | 9=>9 | 3=>3 | 4=>4 | 0=>0 | 20=>20 | 72=>167 | 76=>171 | 70=>165 | 37=>73 | 75=>169 | 127=>196 | 164=>227 | 5=>5 | 80=>173 | n=>n,fun | n=>n⟩
theorem joinL :Go.Proofs.Lays.n156 Tryz.prog PW:=by repeat' first | (intros; kernel_rfl) | constructor | decide
theorem abZ :Go.Proofs.Builder.Extra Tryz.prog PW:=by repeat' first | (intros; kernel_rfl) | constructor | decide
theorem xD (l1:List Str) (t1:Str) {r0:Str} (hf:strings_Join l1 t1=some r0) (h:Q (.ret (.str r0)) τ):PC 103 [sP l1,.str t1] τ Q:=by
 unfold strings_Join at hf; split at hf
 case isFalse=>cases hf
 rename_i hg; cases hf; refine AC.none ?_; exact AC.join xJ.hD joinL abZ hg.1 hg.2 h
end
section
variable [xJ]
abbrev EJ (fu:ah→Option Str):Prop:=∀ (vg:ah) {bf:Str},fu vg=some bf→∀ {τ:List aV} {Q:cO→List aV→Prop} (h:Q (.ret (.str bf)) τ),PC 100 [.agg (aL vg)] τ Q
theorem LP (fu) (wV:EJ fu) (v1:ah) {r0:Str} (hf:zn fu v1=some r0) (h:Q (.ret (.str r0)) τ):PC 100 [.agg (aL v1)] τ Q:=by
 unfold zn at hf; refine BN 68 [.tmp 2] [0] Tryz.func100 Z Z Z Z Z (V 6 Z (C hf Z (fun h1 hf=>?_) fun h1 hf=>?_))
 · refine BR hf fun x1 h2 hf=>?_; refine W 2 Z (CL Z (Gc _ h2 ?_)); cases hf; exact N 1 Z (Y Z h)
 refine V 2 Z (C hf Z (fun h3 hf=>?_) fun h3 hf=>?_)
 · refine BR hf fun x2 h4 hf=>?_; refine W 2 Z (CL Z (Gb _ h4 ?_)); cases hf; exact N 1 Z (Y Z h)
 refine V 2 Z (C hf Z (fun h5 hf=>?_) fun h5 hf=>?_)
 · refine BR hf fun x3 h6 hf=>?_; refine W 2 Z (CL Z (CG _ h6 ?_)); cases hf; exact N 1 Z (Y Z h)
 refine V 2 Z (C hf Z (fun h7 hf=>?_) fun h7 hf=>?_)
 ·
  refine V 0 Z (AW.cond Z (fun h8=>?_) (fun h8=>?_))
  ·
   refine W 3 Z (AS Z (AO.aT (l:=v1.cu) Z Z Z Z iR Z (ah.aA _) (J 1 Z (AW.row 1 9 (Rj (fun mU v2 i1=>[(1,.ref (aL v1)),(3,.own v2 (List.map l8 mU)),(28,.list (ah.aK v1.cu)),(29,iP (v1.cu.length:Int)),(30,iP i1)]) (fun mU v2 i1=>[.row v2 (List.map l8 mU).length 1 9]) (fun b_ mU v2 i1=>pI fu v1 b_ mU i1=some r0) BIG [] (.slice none 0 0) 0 Z Z hf (fun _ _ _ hz=>bU hz) ?_))))); intro b_ mU v2 i1 hf; rw [pI] at hf; refine V 1 Z (C hf Z (fun h9 hf=>?_) fun h9 hf=>?_)
   ·
    refine B1 hf fun e1 h10 hf=>W 1 Z (AS Z (AO.aZ h10 Z Z (ah.aA _) Z iR (ah.aF _) Z (U 1 Z (AS Z (AO.aC Z gK (fun b5=>(Rw 5 [0] Z Z (C hf Z (fun h11 hf=>?_) fun h11 hf=>?_))))))))
    ·
     refine AW.draw 12 mixed (by kernel_rfl) Z ?_; refine Ev.cs bJ 4 Z ?_; refine B1 hf fun e2 h12 hf=>Ev.cons Z Z Z (AO.aZ h12 Z Z Z Z jZ Z Z zg) (Ev.cs bJ 1 Z ?_); refine B1 hf fun x4 l6 hf=>Ev.cons Z Z Z (AO.call Z _ Z Z WA (CG _ l6 zg)) ?_; refine B1 hf fun x5 lH hf=>Ev.cons Z Z Z (AO.mX lH Z Z Z zg) (Ev.cons Z Z Z (AO.aR (i:=0) Z Z Z kY Z Z zg) ?_); refine B1 hf fun x6 rO hf=>Ev.cons Z Z Z (AO.call Z _ Z Z WE (wV _ rO zg)) ?_; refine B1 hf fun x7 h16 hf=>Ev.cons Z Z Z (AO.mX h16 Z Z Z zg) (Ev.cons Z Z Z (AO.bD (List.map l8 ([x7]:List Str)) Z qm Z Z Z Z zg) (Ev.nil ?_)); show AR _ _ _ _ _ _ _ _; refine B1 hf fun IL xM hf=>AS Z (AO.eB (i:=1) (l:=mU) (m:=([x7]:List Str)) xM Z Z Z Z Z Z Z qm jZ Z Z Z (fun _=>Z) (fun _=>Z) (by decide) (fun v3 s1 hs1=>?_)); cases hs1; refine fZ 3 Z (AR.drop1 ?_); exact N 0 Z ⟨IL,v3,(dG (i1 + 1)),Z,Z,Z,hf⟩
    refine B1 hf fun x8 h18 hf=>Wr 2 [0] Z Z (CL Z (wV _ h18 (AS Z (AO.bD (List.map l8 ([x8]:List Str)) Z qm Z Z Z Z ?_)))); refine B1 hf fun IK h19 hf=>AS Z (AO.eB (i:=1) (l:=mU) (m:=([x8]:List Str)) h19 Z Z Z Z Z Z Z qm jZ Z Z Z (fun _=>Z) (fun _=>Z) (by decide) (fun v4 s2 hs2=>?_)); cases hs2; refine fZ 3 Z (AR.drop1 ?_); exact N 0 Z ⟨IK,v4,(dG (i1 + 1)),Z,Z,Z,hf⟩
   refine B1 hf fun s3 h20 hf=>W 1 Z (CL Z (xD _ _ h20 (J 4 Z (C hf Z (fun h21 hf=>?_) fun h21 hf=>?_))))
   · refine B1 hf fun x9 h22 hf=>W 1 Z (AS Z (AO.mX h22 Z Z Z ?_)); refine BR hf fun Kn h23 hf=>?_; refine AS Z (AO.mX h23 Z Z Z ?_); cases hf; exact N 1 Z (Y Z h)
   refine B1 hf fun Lb MG hf=>W 1 Z (AS Z (AO.mX MG Z Z Z ?_)); refine BR hf fun Rl KL hf=>?_; refine AS Z (AO.mX KL Z Z Z ?_); cases hf; exact N 1 Z (Y Z h)
  cases h7.symm.trans h8
 refine V 2 Z (C hf Z (fun PX hf=>?_) fun PX hf=>?_)
 ·
  refine W 3 Z (AS Z (AO.aT (l:=v1.cu) Z Z Z Z iR Z (ah.aA _) (J 1 Z (AW.row 1 9 (Rj (fun Cn v5 i2=>[(1,.ref (aL v1)),(3,.own v5 (List.map l8 Cn)),(28,.list (ah.aK v1.cu)),(29,iP (v1.cu.length:Int)),(30,iP i2)]) (fun Cn v5 i2=>[.row v5 (List.map l8 Cn).length 1 9]) (fun IZ Cn v5 i2=>tX fu v1 IZ Cn i2=some r0) BIG [] (.slice none 0 0) 0 Z Z hf (fun _ _ _ hz=>bU hz) ?_))))); intro IZ Cn v5 i2 hf; rw [tX] at hf; refine V 1 Z (C hf Z (fun h27 hf=>?_) fun h27 hf=>?_)
  ·
   refine B1 hf fun e3 KJ hf=>W 1 Z (AS Z (AO.aZ KJ Z Z (ah.aA _) Z iR (ah.aF _) Z (U 1 Z (AS Z (AO.aC Z gK (fun ad8=>(Rw 5 [0] Z Z (AW.cond Z (fun Ko=>?_) (fun Ko=>?_)))))))))
   ·
    refine AW.draw 12 mixed (by kernel_rfl) Z ?_; refine Ev.cs bJ 4 Z ?_; refine B1 hf fun e4 Vv hf=>Ev.cons Z Z Z (AO.aZ Vv Z Z Z Z jZ Z Z zg) (Ev.cs bJ 1 Z ?_); refine B1 hf fun UD h31 hf=>Ev.cons Z Z Z (AO.call Z _ Z Z WA (CG _ h31 zg)) ?_; refine B1 hf fun Vp h32 hf=>Ev.cons Z Z Z (AO.mX h32 Z Z Z zg) (Ev.cons Z Z Z (AO.aR (i:=0) Z Z Z kY Z Z zg) ?_); refine B1 hf fun X4 Uq hf=>Ev.cons Z Z Z (AO.call Z _ Z Z WE (wV _ Uq zg)) ?_; refine B1 hf fun UC Y7 hf=>Ev.cons Z Z Z (AO.mX Y7 Z Z Z zg) (Ev.cons Z Z Z (AO.bD (List.map l8 ([UC]:List Str)) Z qm Z Z Z Z zg) (Ev.nil ?_)); show AR _ _ _ _ _ _ _ _; refine B1 hf fun Tf Y6 hf=>AS Z (AO.eB (i:=1) (l:=Cn) (m:=([UC]:List Str)) Y6 Z Z Z Z Z Z Z qm jZ Z Z Z (fun _=>Z) (fun _=>Z) (by decide) (fun v6 s4 hs4=>?_)); cases hs4; refine fZ 3 Z (AR.drop1 ?_); exact N 0 Z ⟨Tf,v6,(dG (i2 + 1)),Z,Z,Z,hf⟩
   cases PX.symm.trans Ko
  refine B1 hf fun s5 XT hf=>W 1 Z (CL Z (xD _ _ XT (J 4 Z (AW.cond Z (fun h37=>?_) (fun h37=>?_)))))
  · refine B1 hf fun Vo h38 hf=>W 1 Z (AS Z (AO.mX h38 Z Z Z ?_)); refine BR hf fun X3 h39 hf=>?_; refine AS Z (AO.mX h39 Z Z Z ?_); cases hf; exact N 1 Z (Y Z h)
  cases PX.symm.trans h37
 cases hf; exact M 1 Z (Y Z h)
theorem Ma :∀ k:Nat,(EJ (qL k)):=by
 intro k
 induction k with
 | zero=>exact fun _ _ hz=>by first | cases hz | (unfold qL at hz; cases hz)
 | succ k ih=>exact fun vg bf hz τ Q hq=>LP (qL k) ih vg hz hq
theorem EA (vg:ah) {bf:Str} (hf:Cb vg=some bf) (h:Q (.ret (.str bf)) τ):PC 100 [.agg (aL vg)] τ Q:=
 ((Ma BIG)) vg hf h
end
section
variable [xJ]
theorem J6 (v1:ah) {r0:Str} {r1:Int} (hf:Dt v1=some (r0,r1)) (h:Q (.ret (.tuple [.str r0,iP r1])) τ):PC 191 [.agg (aL v1)] τ Q:=by
 unfold Dt at hf; refine BN 28 [.tmp 2,.tmp 3] [0] Tryz.func191 Z Z Z Z Z (W 7 Z (On 4 8 12 [1] (v1.kind == 5) Z Z Z Z (J 0 Z (C hf Z (fun h2 hf=>?_) fun h2 hf=>?_))))
 · cases hf; exact M 2 Z (Y Z h)
 refine B1 hf fun e1 h3 hf=>W 1 Z (CL Z (nD _ h3 (J 3 Z (C hf Z (fun h4 hf=>?_) fun h4 hf=>?_))))
 · cases hf; exact M 3 Z (Y Z h)
 refine V 4 Z (C hf Z (fun h5 hf=>?_) fun h5 hf=>?_)
 · cases hf; exact M 2 Z (Y Z h)
 refine V 2 Z (C hf Z (fun h6 hf=>?_) fun h6 hf=>?_)
 · cases hf; exact M 4 Z (Y Z h)
 refine B1 hf fun x1 h7 hf=>W 1 Z (CL Z (EA _ h7 ?_)); cases hf; exact N 2 Z (Y Z h)
end
theorem Il (s1:Str) (lo1:UInt8) (hi1:UInt8) (XV:Int) {r0:Str} (hf:BM s1 lo1 hi1 XV=some r0) (h:Q (.ret (.str r0)) τ):PC 239 [.str s1,.int .u8 (lo1.toNat:Int),.int .u8 (hi1.toNat:Int),iP XV] τ Q:=by
 unfold BM at hf; refine BN 42 [.tmp 8] [0,1,2,3] Tryz.func239 Z Z Z Z Z (W 1 Z (AS Z (AO.Ai (eu:=5) Z Kq Z (fun b9=>(J 1 Z (Rj (fun i1 b1 v1=>[(0,.str s1),(1,.int .u8 (lo1.toNat:Int)),(2,.int .u8 (hi1.toNat:Int)),(3,iP XV),(9,pP b9),(10,iP i1)]) (fun i1 b1 v1=>[.Io b9 v1 167 5 b1]) (fun b_ i1 b1 v1=>tC s1 lo1 hi1 XV b_ i1 b1=some r0) BIG 0 [] (.slice none 0 0) Z Z hf (fun _ _ _ hz=>bU hz) ?_)))))); intro b_ i1 b1 v1 hf; rw [tC] at hf; refine W 2 Z (AS Z (AO.dO Z Z Z Z eH Z (J 1 Z (C hf Z (fun h1 hf=>?_) fun h1 hf=>?_))))
 ·
  refine B1 hf fun x1 h2 hf=>W 2 Z (AS Z (AO.gZ h2 Z eH Z Z ?_)); refine B1 hf fun b2 h4 hf=>U 3 Z (AR.gI 6 22 28 true [0,1,2,3,9,10] b2 Z Z (fun h3=>?_) (fun h3=>?_) ?_)
  · refine IT 22 h3 h4 Z fun h4=>?_; refine B1 h4 fun x2 h5 h4=>U 2 Z (GO Z (AO.gZ h5 Z eH Z Z ?_)); cases h4; exact fZ 3 Z (En [28,0,1,2,3,9,10] Z)
  · refine IF 22 h3 h4 Z fun h4=>?_; cases h4; exact fZ 6 Z (En [28,0,1,2,3,9,10] Z)
  refine J 0 Z (C hf Z (fun h6 hf=>?_) fun h6 hf=>?_)
  · refine B1 hf fun x3 h7 hf=>W 2 Z (AS Z (AO.gZ h7 Z eH Z Z (AS Z (AO.wo Z Du EO Z Z (U 2 Z (AS Z (AO.Df Z EO Du Z ?_))))))); refine B1 hf fun b3 h8 hf=>CL Z (AC.one 0 Z (gV h8 (fun v2=>⟨_,Z,?_⟩))); exact N 3 Z ⟨(dG (i1 + 1)),b3,v2,Z,Z,Z,hf⟩
  refine B1 hf fun x4 h9 hf=>W 2 Z (AS Z (AO.gZ h9 Z eH Z Z ?_)); refine B1 hf fun b4 h10 hf=>CL Z (AC.one 0 Z (gV h10 (fun v3=>⟨_,Z,?_⟩))); exact N 3 Z ⟨(dG (i1 + 1)),b4,v3,Z,Z,Z,hf⟩
 refine W 0 Z (CL Z (AC.GH 0 Z (uz ?_))); cases hf; exact N 1 Z (Y Z h)
section
variable [xJ]
def Vk :Go.Shelf.Ren:=⟨fun | 172=>268 | 244=>296 | 245=>297 | 247=>318 | 279=>319 | 280=>320 | 281=>321 | 282=>322 | 287=>336 | 316=>337 | 171=>138 | 205=>338 | 321=>342 | 322=>343 | 243=>165 | 246=>199 | 283=>231 | 284=>232 | 285=>233 | 286=>234 | 129=>264 | 317=>263 | 318=>265 | 319=>266 | 320=>267 | 337=>294 | 338=>295 | n=>n,fun | 9=>9 | 3=>3 | 75=>169 | 76=>171 | 4=>4 | 5=>5 | 167=>318 | 37=>73 | 0=>0 | 85=>319 | 2=>2 | 168=>321 | 53=>252 | 175=>334 | 46=>278 | 210=>337 | 127=>196 | 145=>346 | 143=>344 | 21=>21 | 171=>251 | 173=>255 | 212=>275 | 51=>276 | 20=>20 | 213=>277 | 232=>316 | 233=>317 | 80=>173 | n=>n,fun | 15=>6 | 16=>7 | 17=>1 | 18=>4 | 19=>5 | n=>n⟩
theorem acw :Go.Proofs.LaysC.n172 Tryz.prog Vk:=by repeat' first | (intros; kernel_rfl) | constructor | decide
theorem Bd (s1:Str) {r0:Int} {r1:Option Nat} (hf:strconv_Atoi s1=some (r0,r1)) (h:Q (.ret (.tuple [iP r0,.err r1])) τ):PC 268 [.str s1] τ Q:=by
 unfold strconv_Atoi at hf; split at hf
 case isFalse=>cases hf
 rename_i hg; cases hf; refine AC.none ?_; exact AC.atoi xJ.hD acw hg Z xJ.syn xJ.rng h
end
section
variable [xJ]
theorem Py (s1:Str) {r0:Int} {r1:Bool} (hf:FT s1=some (r0,r1)) (h:Q (.ret (.tuple [iP r0,.bool r1])) τ):PC 240 [.str s1] τ Q:=by
 unfold FT at hf; refine BN 28 [.tmp 2,.tmp 3] [0] Tryz.func240 Z Z Z Z Z ?_; obtain ⟨n1,Bt,h1,hf⟩:=bM hf; refine W 3 Z (CL Z (Bd _ h1 (U 6 Z (AS Z (AO.eqNil Z WU Z Z ?_))))); refine B1 hf fun b1 h3 hf=>U 1 Z (AR.gI 5 13 18 false [4] b1 Z Z (fun h2=>?_) (fun h2=>?_) ?_)
 · refine IF 13 h2 h3 Z fun h3=>?_; refine B1 h3 fun x1 h4 h3=>U 1 Z (GO Z (AO.call Z _ Z Z ZV (Gb _ h4 ?_))); cases h3; exact fZ 3 Z (En [18,4] Z)
 · refine IT 13 h2 h3 Z fun h3=>?_; cases h3; exact fZ 5 Z (En [18,4] Z)
 refine U 1 Z (On 3 19 22 [4] (decide (n1 < (-9007199254740992))) Z Z Z Z (U 1 Z (On 3 23 26 [4] (decide (9007199254740992 < n1)) Z Z Z Z (J 0 Z (C hf Z (fun h7 hf=>?_) fun h7 hf=>?_)))))
 · cases hf; exact M 2 Z (Y Z h)
 cases hf; exact M 3 Z (Y Z h)
end
section
variable [xJ]
@[reducible] def SH :eP aH ah→cO
 | .ok r=>.ret (.agg (aL r))
 | .bad e=>.panic (.iface 181 (.agg [iP e.code]))
theorem Oy (name1:Str) (v1:ah) {rX:eP aH ah} (hf:NR name1 v1=some rX) (h:Q (SH rX) τ):PC 208 [.str name1,.agg (aL v1)] τ Q:=by
 unfold NR at hf; refine BN 78 [.cell 4 42] [0,1] Tryz.func208 Z Z Z Z Z (W 1 Z (AS Z (AO.aC Z gK (fun b4=>(J 3 Z (C hf Z (fun h1 hf=>?_) fun h1 hf=>?_))))))
 ·
  refine B1 hf fun x1 h2 hf=>W 1 Z (CL Z (ko _ _ h2 ?_)); refine B1 hf fun b1 h4 hf=>U 1 Z (AR.gI 3 14 17 false [3,4] b1 Z Z (fun h3=>?_) (fun h3=>?_) ?_)
  · refine IF 14 h3 h4 Z fun h4=>?_; refine BR h4 fun x2 h5 h4=>?_; refine U 1 Z (GO Z (AO.call Z _ Z Z KG (ko _ _ h5 ?_))); cases h4; exact fZ 1 Z (En [17,3,4] Z)
  · refine IT 14 h3 h4 Z fun h4=>?_; cases h4; exact fZ 3 Z (En [17,3,4] Z)
  refine B1 hf fun b2 h7 hf=>U 1 Z (AR.gI 3 18 21 false [3,4] b2 Z Z (fun h6=>?_) (fun h6=>?_) ?_)
  · refine IF 18 h6 h7 Z fun h7=>?_; refine BR h7 fun x3 h8 h7=>?_; refine U 1 Z (GO Z (AO.call Z _ Z Z KG (ko _ _ h8 ?_))); cases h7; exact fZ 1 Z (En [21,3,4] Z)
  · refine IT 18 h6 h7 Z fun h7=>?_; cases h7; exact fZ 3 Z (En [21,3,4] Z)
  rcases bL hf with ⟨e1,h9,hf⟩ | ⟨_,h9,hf⟩
  · refine CL Z (bK _ _ h9 ?_); cases hf; exact ⟨Z,[],List.nil_sublist _,h⟩
  refine CL Z (bK _ _ h9 (U 2 Z (AS Z (AO.dO Z Z Z Z eH Z (U 2 Z (AS Z (AO.aT (l:=v1.cu) Z Z Z Z iR Z (ah.aA _) ?_))))))); refine B1 hf fun x4 h10 hf=>U 1 Z (CL Z (tQ _ h10 ?_)); cases hf; exact Rx 1 [0] Z Z (ZC [0] Z Z h)
 refine V 2 Z (C hf Z (fun h11 hf=>?_) fun h11 hf=>?_)
 ·
  refine B1 hf fun x5 h12 hf=>W 1 Z (CL Z (ko _ _ h12 ?_)); rcases bL hf with ⟨e2,l6,hf⟩ | ⟨_,l6,hf⟩
  · refine CL Z (bK _ _ l6 ?_); cases hf; exact ⟨Z,[],List.nil_sublist _,h⟩
  refine CL Z (bK _ _ l6 ?_); refine B1 hf fun x6 lH hf=>U 2 Z (CL Z (LG _ lH ?_)); cases hf; exact Rx 1 [0] Z Z (ZC [0] Z Z h)
 refine V 2 Z (C hf Z (fun rO hf=>?_) fun rO hf=>?_)
 ·
  obtain ⟨t1,e3,h16,hf⟩:=bM hf; refine W 1 Z (CL Z (J6 _ h16 ?_)); rcases bL hf with ⟨e4,xM,hf⟩ | ⟨_,xM,hf⟩
  · refine U 8 Z (CL Z (bK _ _ xM ?_)); cases hf; exact ⟨Z,[],List.nil_sublist _,h⟩
  refine U 8 Z (CL Z (bK _ _ xM ?_)); refine B1 hf fun x7 h18 hf=>U 1 Z (CL Z (tO _ h18 ?_)); cases hf; exact Rx 1 [0] Z Z (ZC [0] Z Z h)
 refine B1 hf fun x8 h19 hf=>W 1 Z (CL Z (ko _ _ h19 ?_)); rcases bL hf with ⟨e5,h20,hf⟩ | ⟨_,h20,hf⟩
 · refine CL Z (bK _ _ h20 ?_); cases hf; exact ⟨Z,[],List.nil_sublist _,h⟩
 refine CL Z (bK _ _ h20 (J 3 Z (C hf Z (fun h21 hf=>?_) fun h21 hf=>?_)))
 · refine B1 hf fun x9 h22 hf=>W 2 Z (CL Z (Il _ _ _ _ h22 ?_)); refine B1 hf fun Kn h23 hf=>CL Z (tO _ h23 ?_); cases hf; exact Rx 1 [0] Z Z (ZC [0] Z Z h)
 refine V 2 Z (C hf Z (fun MG hf=>?_) fun MG hf=>?_)
 · refine B1 hf fun Lb KL hf=>W 2 Z (CL Z (Il _ _ _ _ KL ?_)); refine B1 hf fun Rl PX hf=>CL Z (tO _ PX ?_); cases hf; exact Rx 1 [0] Z Z (ZC [0] Z Z h)
 obtain ⟨n1,ok1,h27,hf⟩:=bM hf; refine W 2 Z (CL Z (Py _ h27 ?_)); rcases bL hf with ⟨e6,KJ,hf⟩ | ⟨_,KJ,hf⟩
 · refine U 6 Z (CL Z (bK _ _ KJ ?_)); cases hf; exact ⟨Z,[],List.nil_sublist _,h⟩
 refine U 6 Z (CL Z (bK _ _ KJ ?_)); refine B1 hf fun UD Ko hf=>U 1 Z (CL Z (tQ _ Ko ?_)); cases hf; exact Rx 1 [0] Z Z (ZC [0] Z Z h)
end
theorem Ib (b1:Bool) {r0:Int} (hf:Bz b1=some r0) (h:Q (.ret (iP r0)) τ):PC 94 [.bool b1] τ Q:=by
 unfold Bz at hf; refine BN 4 [.tmp 2] [0] Tryz.func94 Z Z Z Z Z (V 2 Z (C hf Z (fun h1 hf=>?_) fun h1 hf=>?_))
 · cases hf; exact M 1 Z (Y Z h)
 cases hf; exact M 1 Z (Y Z h)
theorem iy (vO:List ah) (xS:List ah) (F3:ah→ah→Option Int) (J5:FuncId) (NV:List PV) (Xf:aX Tryz.prog J5=true) (Xg:∀ a0 a1 b0,F3 a0 a1=some b0→∀ {τ:List aV} {Q:cO→List aV→Prop},Q (.ret (iP b0)) τ→PC J5 ([.agg (aL a0),.agg (aL a1)] ++ NV) τ Q) {r0:Int} (hf:dV vO xS F3=some r0) (h:Q (.ret (iP r0)) τ):PC 96 [.list (ah.aK vO),.list (ah.aK xS),.fn J5 NV] τ Q:=by
 unfold dV at hf; refine BN 39 [.tmp 6] [0,1,2] Tryz.func96 Z Z Z Z Z (W 2 Z (AS Z (AO.aT (l:=vO) Z Z Z Z iR Z (ah.aA _) (J 1 Z (Kl (fun i1=>[(0,.list (ah.aK vO)),(1,.list (ah.aK xS)),(2,.fn J5 NV),(11,.list (ah.aK vO)),(12,iP (vO.length:Int)),(13,iP i1)]) (fun i1=>[]) (fun b_ i1=>dN vO xS F3 b_ i1=some r0) BIG 0 Z Z hf (fun _ hz=>bU hz) ?_))))); intro b_ i1 hf; rw [dN] at hf; refine V 1 Z (C hf Z (fun h1 hf=>?_) fun h1 hf=>?_)
 ·
  refine B1 hf fun e1 h2 hf=>W 1 Z (AS Z (AO.aZ h2 Z Z (ah.aA _) Z iR (ah.aF _) Z (U 1 Z (AS Z (AO.aC Z gK (fun b8=>(Rr 4 [0] Z Z (AS Z (AO.aT (l:=xS) Z Z Z Z iR Z (ah.aA _) (J 1 Z (C hf Z (fun h3 hf=>?_) fun h3 hf=>?_)))))))))))
  · cases hf; exact M 1 Z (Y Z h)
  refine B1 hf fun e2 h4 hf=>W 2 Z (AS Z (AO.aZ h4 Z Z (ah.aA _) Z iR (ah.aF _) Z (U 1 Z (AS Z (AO.aC Z gK (fun b9=>?_)))))); refine B1 hf fun c1 h5 hf=>Rr 4 [0,1,0] Z Z (AS Z (AO.call Z _ Z Z Xf (Xg _ _ _ h5 (J 3 Z (C hf Z (fun h6 hf=>?_) fun h6 hf=>?_)))))
  · cases hf; exact M 2 Z (Y Z h)
  refine XY 2 Z (AR.drop1 (AR.drop1 ?_)); exact N 0 Z ⟨(dG (i1 + 1)),Z,Z,Z,hf⟩
 refine W 1 Z (AS Z (AO.aT (l:=vO) Z Z Z Z iR Z (ah.aA _) (U 1 Z (AS Z (AO.aT (l:=xS) Z Z Z Z iR Z (ah.aA _) (J 1 Z (C hf Z (fun h7 hf=>?_) fun h7 hf=>?_)))))))
 · cases hf; exact M 1 Z (Y Z h)
 cases hf; exact M 1 Z (Y Z h)
theorem nu (vO:List Str) (xS:List Str) (F3:Str→Str→Option Int) (J5:FuncId) (NV:List PV) (Xf:aX Tryz.prog J5=true) (Xg:∀ a0 a1 b0,F3 a0 a1=some b0→∀ {τ:List aV} {Q:cO→List aV→Prop},Q (.ret (iP b0)) τ→PC J5 ([.str a0,.str a1] ++ NV) τ Q) {r0:Int} (hf:gY vO xS F3=some r0) (h:Q (.ret (iP r0)) τ):PC 97 [sP vO,sP xS,.fn J5 NV] τ Q:=by
 unfold gY at hf; refine BN 39 [.tmp 6] [0,1,2] Tryz.func97 Z Z Z Z Z (W 2 Z (AS Z (AO.aT (l:=vO) Z Z Z Z jZ Z Z (J 1 Z (Kl (fun i1=>[(0,sP vO),(1,sP xS),(2,.fn J5 NV),(11,sP vO),(12,iP (vO.length:Int)),(13,iP i1)]) (fun i1=>[]) (fun b_ i1=>fq vO xS F3 b_ i1=some r0) BIG 0 Z Z hf (fun _ hz=>bU hz) ?_))))); intro b_ i1 hf; rw [fq] at hf; refine V 1 Z (C hf Z (fun h1 hf=>?_) fun h1 hf=>?_)
 ·
  refine B1 hf fun abl h2 hf=>W 1 Z (AS Z (AO.aZ h2 Z Z Z Z jZ Z Z (U 5 Z (AS Z (AO.aT (l:=xS) Z Z Z Z jZ Z Z (J 1 Z (C hf Z (fun h3 hf=>?_) fun h3 hf=>?_)))))))
  · cases hf; exact M 1 Z (Y Z h)
  refine B1 hf fun abk h4 hf=>W 2 Z (AS Z (AO.aZ h4 Z Z Z Z jZ Z Z ?_)); refine B1 hf fun c1 h5 hf=>U 5 Z (AS Z (AO.call Z _ Z Z Xf (Xg _ _ _ h5 (J 3 Z (C hf Z (fun h6 hf=>?_) fun h6 hf=>?_)))))
  · cases hf; exact M 2 Z (Y Z h)
  exact M 2 Z ⟨(dG (i1 + 1)),Z,Z,Z,hf⟩
 refine W 1 Z (AS Z (AO.aT (l:=vO) Z Z Z Z jZ Z Z (U 1 Z (AS Z (AO.aT (l:=xS) Z Z Z Z jZ Z Z (J 1 Z (C hf Z (fun h7 hf=>?_) fun h7 hf=>?_)))))))
 · cases hf; exact M 1 Z (Y Z h)
 cases hf; exact M 1 Z (Y Z h)
abbrev EK (jV:ah→ah→Option Int):Prop:=∀ (zq:ah) (qN:ah) {bf:Int},jV zq qN=some bf→∀ {τ:List aV} {Q:cO→List aV→Prop} (h:Q (.ret (iP bf)) τ),PC 58 [.agg (aL zq),.agg (aL qN)] τ Q
theorem LQ (jV) (BL:EK jV) (a1:ah) (b1:ah) {r0:Int} (hf:zo jV a1 b1=some r0) (h:Q (.ret (iP r0)) τ):PC 58 [.agg (aL a1),.agg (aL b1)] τ Q:=by
 unfold zo at hf; refine BN 62 [.tmp 4] [0,1] Tryz.func58 Z Z Z Z Z ?_; refine B1 hf fun c1 h1 hf=>W 7 Z (CL Z (mK _ _ h1 (J 3 Z (C hf Z (fun h2 hf=>?_) fun h2 hf=>?_))))
 · cases hf; exact M 2 Z (Y Z h)
 refine V 4 Z (C hf Z (fun h3 hf=>?_) fun h3 hf=>?_)
 ·
  refine V 0 Z (AW.draw 8 mixed (by kernel_rfl) Z ?_); refine Ev.cs bJ 2 Z ?_; refine B1 hf fun x1 h4 hf=>Ev.cons Z Z Z (AO.call Z _ Z Z YO (Ib _ h4 zg)) (Ev.cs bJ 2 Z ?_); refine B1 hf fun x2 h5 hf=>Ev.cons Z Z Z (AO.call Z _ Z Z YO (Ib _ h5 zg)) ?_; refine BR hf fun x3 h6 hf=>?_; refine Ev.cons Z Z Z (AO.call Z _ Z Z abw (mK _ _ h6 zg)) (Ev.cs bJ 1 Z (Ev.nil ?_)); show AR _ _ _ _ _ _ _ _; cases hf; exact N 0 Z (Y Z h)
 refine V 2 Z (C hf Z (fun h7 hf=>?_) fun h7 hf=>?_)
 · refine BR hf fun x4 h8 hf=>?_; refine W 4 Z (CL Z (mK _ _ h8 ?_)); cases hf; exact N 1 Z (Y Z h)
 refine V 2 Z (C hf Z (fun h9 hf=>?_) fun h9 hf=>?_)
 · refine BR hf fun x5 h10 hf=>?_; refine W 4 Z (CL Z (zk _ _ h10 ?_)); cases hf; exact N 1 Z (Y Z h)
 refine V 2 Z (C hf Z (fun h11 hf=>?_) fun h11 hf=>?_)
 · refine BR hf fun x6 h12 hf=>?_; refine W 4 Z (CL Z (iy _ _ jV 58 [] YT (fun _ _ _ hz=>BL _ _  hz) h12 ?_)); cases hf; exact N 1 Z (Y Z h)
 refine V 2 Z (C hf Z (fun l6 hf=>?_) fun l6 hf=>?_)
 ·
  refine B1 hf fun c2 lH hf=>W 4 Z (CL Z (nu _ _ ru 98 [] YN (fun _ _ _ hz=>zK _ _  hz) lH (J 3 Z (C hf Z (fun rO hf=>?_) fun rO hf=>?_))))
  · cases hf; exact M 2 Z (Y Z h)
  refine BR hf fun x7 h16 hf=>?_; refine W 4 Z (CL Z (iy _ _ jV 58 [] YT (fun _ _ _ hz=>BL _ _  hz) h16 ?_)); cases hf; exact N 1 Z (Y Z h)
 cases hf; exact M 1 Z (Y Z h)
theorem Mc :∀ k:Nat,(EK (qM k)):=by
 intro k
 induction k with
 | zero=>exact fun _ _ _ hz=>by first | cases hz | (unfold qM at hz; cases hz)
 | succ k ih=>exact fun zq qN bf hz τ Q hq=>LQ (qM k) ih zq qN hz hq
theorem EB (zq:ah) (qN:ah) {bf:Int} (hf:Ce zq qN=some bf) (h:Q (.ret (iP bf)) τ):PC 58 [.agg (aL zq),.agg (aL qN)] τ Q:=
 ((Mc BIG)) zq qN hf h
theorem CJ (a1:ah) (b1:ah) {r0:Bool} (hf:yQ a1 b1=some r0) (h:Q (.ret (.bool r0)) τ):PC 32 [.agg (aL a1),.agg (aL b1)] τ Q:=by
 unfold yQ at hf; refine BN 9 [.tmp 4] [0,1] Tryz.func32 Z Z Z Z Z ?_; refine B1 hf fun x1 h1 hf=>W 5 Z (CL Z (EB _ _ h1 ?_)); cases hf; exact N 2 Z (Y Z h)
theorem qw (a1:ah) (b1:ah) (ER:Int) {r0:Bool} (hf:rz a1 b1 ER=some r0) (h:Q (.ret (.bool r0)) τ):PC 243 [.agg (aL a1),.agg (aL b1),iP ER] τ Q:=by
 unfold rz at hf; refine BN 17 [.tmp 6] [0,1,2] Tryz.func243 Z Z Z Z Z (W 8 Z (An 5 11 16 [] (b1.kind == ER) Z Z Z Z ?_)); cases hf; exact N 1 Z (Y Z h)
section
variable [xJ]
def O9 :Go.Shelf.Ren:=⟨fun | 144=>269 | 143=>260 | 219=>289 | 217=>316 | 225=>293 | 224=>292 | 267=>317 | 266=>334 | 314=>335 | n=>n,fun | 9=>9 | 4=>4 | 3=>3 | 5=>5 | 46=>278 | 146=>332 | 51=>276 | n=>n,fun | 1=>0 | n=>n⟩
theorem U9 :Go.Proofs.Lays.n144 Tryz.prog O9:=by repeat' first | (intros; kernel_rfl) | constructor | decide
theorem Jc (s1:Str) (t1:Str) {r0:Bool} (hf:strings_Contains s1 t1=some r0) (h:Q (.ret (.bool r0)) τ):PC 269 [.str s1,.str t1] τ Q:=by
 unfold strings_Contains at hf; split at hf
 case isFalse=>cases hf
 rename_i hg; cases hf; refine AC.none ?_; exact AC.contains U9 hg xJ.max h
end
section
variable [xJ]
@[reducible] def LM :eP aH Bool→cO
 | .ok r=>.ret (.bool r)
 | .bad e=>.panic (.iface 181 (.agg [iP e.code]))
theorem EF (a1:ah) (b1:ah) {rX:eP aH Bool} (hf:Cy a1 b1=some rX) (h:Q (LM rX) τ):PC 241 [.agg (aL a1),.agg (aL b1)] τ Q:=by
 unfold Cy at hf; refine BN 47 [.tmp 4] [0,1] Tryz.func241 Z Z Z Z Z ?_; refine B1 hf fun x1 h1 hf=>W 4 Z (CL Z (ko _ _ h1 (J 1 Z (C hf Z (fun h2 hf=>?_) fun h2 hf=>?_))))
 ·
  refine W 2 Z (AS Z (AO.aT (l:=a1.cu) Z Z Z Z iR Z (ah.aA _) (J 1 Z (Kl (fun x2=>[(3,.ref (aL b1)),(13,.list (ah.aK a1.cu)),(14,iP (a1.cu.length:Int)),(15,iP x2)]) (fun x2=>[]) (fun b_ x2=>um a1 b1 b_ x2=some rX) BIG 0 Z Z hf (fun _ hz=>bU hz) ?_)))); intro b_ x2 hf; rw [um] at hf; refine V 1 Z (C hf Z (fun h3 hf=>?_) fun h3 hf=>?_)
  ·
   refine B1 hf fun e1 h4 hf=>W 0 Z (AS Z (AO.aZ h4 Z Z (ah.aA _) Z iR (ah.aF _) Z (U 1 Z (AS Z (AO.aC Z gK (fun b6=>?_)))))); refine B1 hf fun x3 h5 hf=>Rr 3 [0,0] Z Z (CL Z (CJ _ _ h5 (J 0 Z (C hf Z (fun h6 hf=>?_) fun h6 hf=>?_))))
   · cases hf; exact M 1 Z (Y Z h)
   refine XY 2 Z (AR.drop1 ?_); exact N 0 Z ⟨(dG (x2 + 1)),Z,Z,Z,hf⟩
  cases hf; exact M 1 Z (Y Z h)
 refine B1 hf fun x4 h7 hf=>W 2 Z (CL Z (qw _ _ _ h7 (J 1 Z (C hf Z (fun h8 hf=>?_) fun h8 hf=>?_))))
 · refine B1 hf fun x5 h9 hf=>W 4 Z (CL Z (Jc _ _ h9 ?_)); cases hf; exact N 1 Z (Y Z h)
 refine B1 hf fun x6 h10 hf=>W 1 Z (CL Z (ko _ _ h10 ?_)); refine B1 hf fun b2 h12 hf=>U 1 Z (AR.gI 3 34 37 true [2,3] b2 Z Z (fun h11=>?_) (fun h11=>?_) ?_)
 · refine IT 34 h11 h12 Z fun h12=>?_; refine BR h12 fun x7 l6 h12=>?_; refine U 1 Z (GO Z (AO.call Z _ Z Z KG (ko _ _ l6 ?_))); cases h12; exact fZ 1 Z (En [37,2,3] Z)
 · refine IF 34 h11 h12 Z fun h12=>?_; cases h12; exact fZ 3 Z (En [37,2,3] Z)
 rcases bL hf with ⟨e2,lH,hf⟩ | ⟨_,lH,hf⟩
 · refine CL Z (bK _ _ lH ?_); cases hf; exact ⟨Z,[],List.nil_sublist _,h⟩
 refine CL Z (bK _ _ lH ?_); obtain ⟨x8,ok1,rO,hf⟩:=bM hf; refine U 3 Z (CL Z (LC _ _ rO (U 3 Z (AS Z (AO.aC Z gK (fun b7=>?_)))))); cases hf; exact Rx 4 [0] Z Z (Y Z h)
end
theorem jL (b1:Bool) {r0:ah} (hf:jX b1=some r0) (h:Q (.ret (.agg (aL r0))) τ):PC 210 [.bool b1] τ Q:=by
 unfold jX at hf; refine BN 5 [.cell 2 42] [0] Tryz.func210 Z Z Z Z Z (W 0 Z (AS Z (AO.aC Z gK (fun b2=>?_)))); cases hf; exact Rx 3 [0] Z Z (ZC [0] Z Z h)
section
variable [xJ]
@[reducible] def OL :eP aH ah→cO
 | .ok r=>.ret (.agg (aL r))
 | .bad e=>.panic (.iface 181 (.agg [iP e.code]))
theorem Im (a1:ah) (b1:ah) {rX:eP aH ah} (hf:FU a1 b1=some rX) (h:Q (OL rX) τ):PC 242 [.agg (aL a1),.agg (aL b1)] τ Q:=by
 unfold FU at hf; refine BN 54 [.cell 4 42] [0,1] Tryz.func242 Z Z Z Z Z (W 2 Z (AS Z (AO.aC Z gK (fun b4=>?_)))); refine B1 hf fun x1 h1 hf=>U 1 Z (CL Z (ko _ _ h1 ?_)); refine B1 hf fun b2 h3 hf=>U 1 Z (AR.gI 3 11 14 true [2,3,4] b2 Z Z (fun h2=>?_) (fun h2=>?_) ?_)
 · refine IT 11 h2 h3 Z fun h3=>?_; refine BR h3 fun x2 h4 h3=>?_; refine U 1 Z (GO Z (AO.call Z _ Z Z KG (ko _ _ h4 ?_))); cases h3; exact fZ 1 Z (En [14,2,3,4] Z)
 · refine IF 11 h2 h3 Z fun h3=>?_; cases h3; exact fZ 3 Z (En [14,2,3,4] Z)
 rcases bL hf with ⟨e1,h5,hf⟩ | ⟨_,h5,hf⟩
 · refine CL Z (bK _ _ h5 ?_); cases hf; exact ⟨Z,[],List.nil_sublist _,h⟩
 refine CL Z (bK _ _ h5 (U 4 Z (AS Z (AO.aT (l:=a1.cu) Z Z Z Z iR Z (ah.aA _) ?_)))); refine J 1 Z (AW.row 1 9 (LK4 (fun n1 l1 v1 x3=>[(3,.ref (aL b1)),(4,pP b4),(5,iP n1),(6,.own v1 (List.map l8 l1)),(17,.list (ah.aK a1.cu)),(18,iP (a1.cu.length:Int)),(19,iP x3)]) (fun n1 l1 v1 x3=>[.row v1 (List.map l8 l1).length 1 9,.box b4 [iP 0,.bool false,iP 0,.str ([]:Str),.own (.slice none 0 0) [],.own (.slice none 0 0) []]]) (fun b_ n1 l1 v1 x3=>w_ a1 b1 b_ n1 l1 x3=some rX) BIG 0 [] (.slice none 0 0) 0 Z Z hf (fun _ _ _ _ hz=>bU hz) ?_)); intro b_ n1 l1 v1 x3 hf; rw [w_] at hf; refine V 1 Z (C hf Z (fun h6 hf=>?_) fun h6 hf=>?_)
 ·
  refine B1 hf fun e2 h7 hf=>W 0 Z (AS Z (AO.aZ h7 Z Z (ah.aA _) Z iR (ah.aF _) Z (U 1 Z (AS Z (AO.aC Z gK (fun b8=>?_)))))); refine B1 hf fun x4 h8 hf=>Rr 2 [0,0] Z Z (CL Z (ko _ _ h8 ?_)); rcases bL hf with ⟨e3,h9,hf⟩ | ⟨_,h9,hf⟩
  · refine CL Z (bK _ _ h9 ?_); cases hf; exact ⟨Z,[],List.nil_sublist _,h⟩
  refine CL Z (bK _ _ h9 (Rr 3 [0] Z Z (AS Z (AO.bD (List.map l8 ([e2.iK]:List Str)) Z qm Z Z Z Z ?_)))); refine B1 hf fun l2 h10 hf=>AS Z (AO.eB (i:=1) (l:=l1) (m:=([e2.iK]:List Str)) h10 Z Z Z Z Z Z Z qm jZ Z Z Z (fun _=>Z) (fun _=>Z) (by decide) (fun v2 s1 hs1=>?_)); cases hs1; refine Rr 4 [0] Z Z (AS Z (AO.dO Z Z Z Z eH Z (fZ 4 Z (AR.drop1 ?_)))); exact N 0 Z ⟨(dG (n1 + (e2.iK.length:Int))),l2,v2,(dG (x3 + 1)),Z,Z,Z,hf⟩
 refine W 3 Z (AS Z (AO.dO Z Z Z Z eH Z (U 1 Z (AS Z (AO.aT (l:=l1) Z Z Z Z jZ Z Z (U 1 Z (AS Z (AO.max2 Z Z Z Z Z ?_)))))))); rcases bL hf with ⟨e4,h11,hf⟩ | ⟨_,h11,hf⟩
 · refine U 3 Z (CL Z (bK _ _ h11 ?_)); cases hf; exact ⟨Z,[],List.nil_sublist _,h⟩
 refine U 3 Z (CL Z (bK _ _ h11 ?_)); refine B1 hf fun x5 h12 hf=>U 3 Z (CL Z (xD _ _ h12 ?_)); refine B1 hf fun x6 l6 hf=>CL Z (tO _ l6 ?_); cases hf; exact Rx 1 [1] Z Z (ZC [1] Z Z h)
end
theorem uO (s1:Str) (lQ:Str) {r0:Bool} (hf:strings_HasPrefix s1 lQ=some r0) (h:Q (.ret (.bool r0)) τ):PC 183 [.str s1,.str lQ] τ Q:=by
 unfold strings_HasPrefix at hf; refine BN 8 [.tmp 4] [0,1] Tryz.func183 Z Z Z Z Z ?_; refine BR hf fun x1 h1 hf=>?_; refine W 3 Z (CL Z (uH _ _ h1 ?_)); cases hf; exact N 1 Z (Y Z h)
theorem Hr (s1:Str) (lN:Str) {r0:Bool} (hf:strings_HasSuffix s1 lN=some r0) (h:Q (.ret (.bool r0)) τ):PC 244 [.str s1,.str lN] τ Q:=by
 unfold strings_HasSuffix at hf; refine BN 8 [.tmp 4] [0,1] Tryz.func244 Z Z Z Z Z ?_; refine BR hf fun x1 h1 hf=>?_; refine W 3 Z (CL Z (uG _ _ h1 ?_)); cases hf; exact N 1 Z (Y Z h)
section
variable [xJ]
def S9 :Go.Shelf.Ren:=⟨fun | 146=>245 | 221=>270 | 268=>298 | 138=>259 | 143=>260 | 195=>287 | 197=>227 | 218=>288 | 219=>289 | 260=>261 | 217=>316 | 225=>293 | 224=>292 | 267=>317 | 266=>334 | 314=>335 | n=>n,fun | 9=>9 | 31=>40 | 3=>3 | 4=>4 | 0=>0 | 105=>248 | 21=>21 | 5=>5 | 46=>278 | 119=>296 | 139=>299 | 138=>298 | 146=>332 | 51=>276 | n=>n,fun | 1=>0 | 3=>2 | 4=>3 | n=>n⟩
theorem Zi :Go.Proofs.Lays.n146 Tryz.prog S9:=by repeat' first | (intros; kernel_rfl) | constructor | decide
theorem Mr (s1:Str) (t1:Str) {r0:List Str} (hf:strings_Split s1 t1=some r0) (h:Q (.ret (sP r0)) τ):PC 245 [.str s1,.str t1] τ Q:=by
 unfold strings_Split at hf; split at hf
 case isFalse=>cases hf
 rename_i hg; cases hf; refine AC.none ?_; exact AC.split Zi (by kernel_rfl) hg.1 hg.2 xJ.max h
end
section
variable [xJ]
@[reducible] def SF :eP aH ah→cO
 | .ok r=>.ret (.agg (aL r))
 | .bad e=>.panic (.iface 181 (.agg [iP e.code]))
theorem Ow (name1:Str) (a1:ah) (b1:ah) {rX:eP aH ah} (hf:NN name1 a1 b1=some rX) (h:Q (SF rX) τ):PC 209 [.str name1,.agg (aL a1),.agg (aL b1)] τ Q:=by
 unfold NN at hf; refine BN 62 [.cell 6 42] [0,1,2] Tryz.func209 Z Z Z Z Z (W 2 Z (AS Z (AO.aC Z gK (fun b6=>(J 3 Z (C hf Z (fun h1 hf=>?_) fun h1 hf=>?_))))))
 ·
  refine B1 hf fun x1 h2 hf=>W 1 Z (CL Z (ko _ _ h2 (J 0 Z (C hf Z (fun h3 hf=>?_) fun h3 hf=>?_))))
  · cases hf; exact Wx 2 [0] Z Z (ZC [0] Z Z h)
  cases hf; exact Wx 2 [0] Z Z (ZC [0] Z Z h)
 refine V 2 Z (C hf Z (fun h4 hf=>?_) fun h4 hf=>?_)
 ·
  rcases bL hf with ⟨e1,h5,hf⟩ | ⟨x2,h5,hf⟩
  · refine W 2 Z (CL Z (EF _ _ h5 ?_)); cases hf; exact ⟨Z,[],List.nil_sublist _,h⟩
  refine W 2 Z (CL Z (EF _ _ h5 ?_)); refine B1 hf fun x3 h6 hf=>CL Z (jL _ h6 ?_); cases hf; exact Rx 1 [0] Z Z (ZC [0] Z Z h)
 refine V 2 Z (C hf Z (fun h7 hf=>?_) fun h7 hf=>?_)
 ·
  rcases bL hf with ⟨e2,h8,hf⟩ | ⟨x4,h8,hf⟩
  · refine W 2 Z (CL Z (Im _ _ h8 ?_)); cases hf; exact ⟨Z,[],List.nil_sublist _,h⟩
  refine W 2 Z (CL Z (Im _ _ h8 ?_)); cases hf; exact Rx 1 [0] Z Z (ZC [0] Z Z h)
 refine B1 hf fun x5 h9 hf=>W 2 Z (CL Z (qw _ _ _ h9 ?_)); rcases bL hf with ⟨e3,h10,hf⟩ | ⟨_,h10,hf⟩
 · refine CL Z (bK _ _ h10 ?_); cases hf; exact ⟨Z,[],List.nil_sublist _,h⟩
 refine CL Z (bK _ _ h10 (J 3 Z (C hf Z (fun h11 hf=>?_) fun h11 hf=>?_)))
 · refine B1 hf fun x6 h12 hf=>W 4 Z (CL Z (uO _ _ h12 ?_)); refine B1 hf fun x7 l6 hf=>CL Z (jL _ l6 ?_); cases hf; exact Rx 1 [0] Z Z (ZC [0] Z Z h)
 refine V 2 Z (C hf Z (fun lH hf=>?_) fun lH hf=>?_)
 · refine B1 hf fun x8 rO hf=>W 4 Z (CL Z (Hr _ _ rO ?_)); refine B1 hf fun x9 h16 hf=>CL Z (jL _ h16 ?_); cases hf; exact Rx 1 [0] Z Z (ZC [0] Z Z h)
 rcases bL hf with ⟨e4,xM,hf⟩ | ⟨_,xM,hf⟩
 · refine W 3 Z (CL Z (bK _ _ xM ?_)); cases hf; exact ⟨Z,[],List.nil_sublist _,h⟩
 refine W 3 Z (CL Z (bK _ _ xM ?_)); refine B1 hf fun l1 h18 hf=>U 4 Z (CL Z (Mr _ _ h18 (U 2 Z (AS Z (AO.aT (l:=l1) Z Z Z Z jZ Z Z ?_))))); rcases bL hf with ⟨e5,h19,hf⟩ | ⟨_,h19,hf⟩
 · refine U 1 Z (CL Z (bK _ _ h19 ?_)); cases hf; exact ⟨Z,[],List.nil_sublist _,h⟩
 refine U 1 Z (CL Z (bK _ _ h19 ?_)); refine B1 hf fun Kn h20 hf=>U 1 Z (CL Z (LG _ h20 ?_)); cases hf; exact Rx 1 [0] Z Z (ZC [0] Z Z h)
end
@[reducible] def Qh :eP aH Bool→cO
 | .ok r=>.ret (.bool r)
 | .bad e=>.panic (.iface 181 (.agg [iP e.code]))
theorem oV (v1:ah) {rX:eP aH Bool} (hf:xZ v1=some rX) (h:Q (Qh rX) τ):PC 178 [.agg (aL v1)] τ Q:=by
 unfold xZ at hf; refine BN 8 [.tmp 2] [0] Tryz.func178 Z Z Z Z Z ?_; refine B1 hf fun x1 h1 hf=>W 3 Z (CL Z (ko _ _ h1 ?_)); rcases bL hf with ⟨e1,h2,hf⟩ | ⟨_,h2,hf⟩
 · refine CL Z (bK _ _ h2 ?_); cases hf; exact ⟨Z,[],List.nil_sublist _,h⟩
 refine CL Z (bK _ _ h2 ?_); cases hf; exact N 3 Z (Y Z h)
@[reducible] def Qg :eP aH ah→cO
 | .ok r=>.ret (.agg (aL r))
 | .bad e=>.panic (.iface 181 (.agg [iP e.code]))
theorem Kh (op1:Str) (v1:ah) {rX:eP aH ah} (hf:I7 op1 v1=some rX) (h:Q (Qg rX) τ):PC 176 [.str op1,.agg (aL v1)] τ Q:=by
 unfold I7 at hf; refine BN 18 [.cell 4 42] [0,1] Tryz.func176 Z Z Z Z Z (W 1 Z (AS Z (AO.aC Z gK (fun b4=>(J 2 Z (C hf Z (fun h1 hf=>?_) fun h1 hf=>?_))))))
 ·
  rcases bL hf with ⟨e1,h2,hf⟩ | ⟨x1,h2,hf⟩
  · refine W 1 Z (CL Z (oV _ h2 ?_)); cases hf; exact ⟨Z,[],List.nil_sublist _,h⟩
  refine W 1 Z (CL Z (oV _ h2 ?_)); refine B1 hf fun x2 h3 hf=>U 1 Z (CL Z (jL _ h3 ?_)); cases hf; exact Rx 1 [0] Z Z (ZC [0] Z Z h)
 refine B1 hf fun x3 h4 hf=>W 1 Z (CL Z (ko _ _ h4 ?_)); rcases bL hf with ⟨e2,h5,hf⟩ | ⟨_,h5,hf⟩
 · refine CL Z (bK _ _ h5 ?_); cases hf; exact ⟨Z,[],List.nil_sublist _,h⟩
 refine CL Z (bK _ _ h5 ?_); refine B1 hf fun x4 h6 hf=>U 3 Z (CL Z (tQ _ h6 ?_)); cases hf; exact Rx 1 [0] Z Z (ZC [0] Z Z h)
@[reducible] def Qi :eP aH Int→cO
 | .ok r=>.ret (iP r)
 | .bad e=>.panic (.iface 181 (.agg [iP e.code]))
theorem oW (a1:ah) (b1:ah) {rX:eP aH Int} (hf:yg a1 b1=some rX) (h:Q (Qi rX) τ):PC 212 [.agg (aL a1),.agg (aL b1)] τ Q:=by
 unfold yg at hf; refine BN 17 [.tmp 4] [0,1] Tryz.func212 Z Z Z Z Z ?_; refine B1 hf fun x1 h1 hf=>W 5 Z (CL Z (qw _ _ _ h1 ?_)); refine B1 hf fun b2 h3 hf=>U 1 Z (AR.gI 4 8 12 false [2,3] b2 Z Z (fun h2=>?_) (fun h2=>?_) ?_)
 · refine IF 8 h2 h3 Z fun h3=>?_; refine BR h3 fun x2 h4 h3=>?_; refine U 2 Z (GO Z (AO.call Z _ Z Z Zw (qw _ _ _ h4 ?_))); cases h3; exact fZ 1 Z (En [12,2,3] Z)
 · refine IT 8 h2 h3 Z fun h3=>?_; cases h3; exact fZ 4 Z (En [12,2,3] Z)
 rcases bL hf with ⟨e1,h5,hf⟩ | ⟨_,h5,hf⟩
 · refine CL Z (bK _ _ h5 ?_); cases hf; exact ⟨Z,[],List.nil_sublist _,h⟩
 refine CL Z (bK _ _ h5 ?_); refine B1 hf fun x3 h6 hf=>U 2 Z (CL Z (EB _ _ h6 ?_)); cases hf; exact N 1 Z (Y Z h)
@[reducible] def OJ :eP aH ah→cO
 | .ok r=>.ret (.agg (aL r))
 | .bad e=>.panic (.iface 181 (.agg [iP e.code]))
theorem nE (n1:Int) {rX:eP aH ah} (hf:wm n1=some rX) (h:Q (OJ rX) τ):PC 246 [iP n1] τ Q:=by
 unfold wm at hf; refine BN 12 [.cell 2 42] [0] Tryz.func246 Z Z Z Z Z (W 0 Z (AS Z (AO.aC Z gK (fun b2=>(U 3 Z (An 3 5 8 [0,2] (decide (n1≤9007199254740992)) Z Z Z Z ?_)))))); rcases bL hf with ⟨e1,h2,hf⟩ | ⟨_,h2,hf⟩
 · refine CL Z (bK _ _ h2 ?_); cases hf; exact ⟨Z,[],List.nil_sublist _,h⟩
 refine CL Z (bK _ _ h2 ?_); refine B1 hf fun x1 h3 hf=>U 1 Z (CL Z (tQ _ h3 ?_)); cases hf; exact Rx 1 [0] Z Z (ZC [0] Z Z h)
@[reducible] def SG :eP aH ah→cO
 | .ok r=>.ret (.agg (aL r))
 | .bad e=>.panic (.iface 181 (.agg [iP e.code]))
theorem Ox (a1:ah) (b1:ah) {rX:eP aH ah} (hf:NP a1 b1=some rX) (h:Q (SG rX) τ):PC 213 [.agg (aL a1),.agg (aL b1)] τ Q:=by
 unfold NP at hf; refine BN 57 [.cell 4 42] [0,1] Tryz.func213 Z Z Z Z Z (W 2 Z (AS Z (AO.aC Z gK (fun b4=>?_)))); refine B1 hf fun x1 h1 hf=>U 2 Z (CL Z (qw _ _ _ h1 (J 1 Z (C hf Z (fun h2 hf=>?_) fun h2 hf=>?_))))
 ·
  rcases bL hf with ⟨e1,h3,hf⟩ | ⟨x2,h3,hf⟩
  · refine W 5 Z (CL Z (nE _ h3 ?_)); cases hf; exact ⟨Z,[],List.nil_sublist _,h⟩
  refine W 5 Z (CL Z (nE _ h3 ?_)); cases hf; exact Rx 1 [0] Z Z (ZC [0] Z Z h)
 refine B1 hf fun x3 h4 hf=>W 2 Z (CL Z (qw _ _ _ h4 (J 1 Z (C hf Z (fun h5 hf=>?_) fun h5 hf=>?_))))
 ·
  refine W 2 Z (AS Z (AO.dO Z Z Z Z eH Z (U 2 Z (AS Z (AO.dO Z Z Z Z eH Z ?_))))); rcases bL hf with ⟨e2,h6,hf⟩ | ⟨_,h6,hf⟩
  · refine U 2 Z (CL Z (bK _ _ h6 ?_)); cases hf; exact ⟨Z,[],List.nil_sublist _,h⟩
  refine U 2 Z (CL Z (bK _ _ h6 ?_)); refine B1 hf fun x4 h7 hf=>U 4 Z (AS Z (AO.mX h7 Z Z Z ?_)); refine B1 hf fun x5 h8 hf=>CL Z (tO _ h8 ?_); cases hf; exact Rx 1 [0] Z Z (ZC [0] Z Z h)
 refine B1 hf fun x6 h9 hf=>W 2 Z (CL Z (qw _ _ _ h9 ?_)); rcases bL hf with ⟨e3,h10,hf⟩ | ⟨_,h10,hf⟩
 · refine CL Z (bK _ _ h10 ?_); cases hf; exact ⟨Z,[],List.nil_sublist _,h⟩
 refine CL Z (bK _ _ h10 (U 2 Z (AS Z (AO.aT (l:=a1.cu) Z Z Z Z iR Z (ah.aA _) (U 2 Z (AS Z (AO.aT (l:=b1.cu) Z Z Z Z iR Z (ah.aA _) ?_))))))); rcases bL hf with ⟨e4,h11,hf⟩ | ⟨_,h11,hf⟩
 · refine U 2 Z (CL Z (bK _ _ h11 ?_)); cases hf; exact ⟨Z,[],List.nil_sublist _,h⟩
 refine U 2 Z (CL Z (bK _ _ h11 (U 4 Z (AR.row 6 42 ?_)))); refine B1 hf fun l1 h12 hf=>AS Z (AO.eB (i:=0) (l:=[]) (m:=a1.cu) h12 Z Z Z Z Z Z Z vW iR (show ([]:List (List PV))=List.map ah.cells [] from Z) (ah.aA _) (ah.aA _).symm (ah.bB) (ah.cells_one) (by decide) (fun v1 s1 hs1=>?_)); cases hs1; refine B1 hf fun x7 l6 hf=>U 4 Z (AS Z (AO.eB (i:=0) (l:=l1) (m:=b1.cu) l6 Z Z Z Z Z Z Z vW iR (ah.aA _) (ah.aA _) (ah.aA _).symm (ah.bB) (ah.cells_one) (by decide) (fun v2 s2 hs2=>?_))); cases hs2; refine B1 hf fun x8 lH hf=>CL Z (Ki _ lH ?_); cases hf; exact Rx 1 [1] Z Z (ZC [1] Z Z h)
theorem Oj (n1:Int) {r0:BitVec 64} (hf:JJ n1=some r0) (h:Q (.ret (.int .u64 (r0.toNat:Int))) τ):PC 299 [iP n1] τ Q:=by
 unfold JJ at hf; refine BN 10 [.tmp 2] [0] Tryz.func299 Z Z Z Z Z (V 3 Z (C hf Z (fun h1 hf=>?_) fun h1 hf=>?_))
 · refine W 1 Z (AS Z (AO.VR Z EO MX Z (AS Z (AO.u64_neg (BitVec.ofInt 64 n1) Z Z Z ?_)))); cases hf; exact N 1 Z (Y Z h)
 refine W 1 Z (AS Z (AO.VR Z EO MX Z ?_)); cases hf; exact N 1 Z (Y Z h)
theorem Ol (a1:Int) (b1:Int) {r0:jl} (hf:DR a1 b1=some r0) (h:Q (.ret (.agg (Ls r0))) τ):PC 271 [iP a1,iP b1] τ Q:=by
 unfold DR at hf; refine BN 71 [.cell 4 283] [0,1] Tryz.func271 Z Z Z Z Z (W 0 Z (AS Z (AO.aC Z SE (fun b4=>?_)))); refine B1 hf fun x1 h1 hf=>U 1 Z (CL Z (Oj _ h1 ?_)); refine B1 hf fun y1 h2 hf=>U 1 Z (CL Z (Oj _ h2 (U 3 Z (AS Z (AO.Jv x1 32 Z Z Z Z Z (U 1 Z (AS Z (AO.u64_and x1 (4294967295:BitVec 64) Z Z Z Z Z (U 1 Z (AS Z (AO.Jv y1 32 Z Z Z Z Z ?_))))))))))); refine U 1 Z (AS Z (AO.u64_and y1 (4294967295:BitVec 64) Z Z Z Z Z ?_)); refine B1 hf fun Nz h3 hf=>U 6 Z (AS Z (AO.MZ (x1 &&& (4294967295:BitVec 64)) (y1 &&& (4294967295:BitVec 64)) h3 Z Z Z Z Z ?_)); refine B1 hf fun x2 h4 hf=>U 3 Z (AS Z (AO.MZ (x1 >>> 32) (y1 &&& (4294967295:BitVec 64)) h4 Z Z Z Z Z (U 1 Z (AS Z (AO.Jv Nz 32 Z Z Z Z Z (AS Z (AO.MB x2 (Nz >>> 32) Z Z Z Z Z ?_))))))); refine B1 hf fun x3 h5 hf=>U 3 Z (AS Z (AO.MZ (x1 &&& (4294967295:BitVec 64)) (y1 >>> 32) h5 Z Z Z Z Z ?_)); refine B1 hf fun x4 h6 hf=>?_; refine U 1 Z (AS Z (AO.VP (x2 + (Nz >>> 32)) (4294967295:BitVec 64) h6 Z Z Z Z Z (AS Z (AO.MB x3 x4 Z Z Z Z Z (U 3 Z (AS Z (AO.TU (x1 >>> 32) (y1 >>> 32) Z Z Z Z Z (U 1 Z (AS Z (AO.Jv (x2 + (Nz >>> 32)) 32 Z Z Z Z Z ?_)))))))))); refine B1 hf fun x5 h7 hf=>AS Z (AO.VQ ((x1 >>> 32) * (y1 >>> 32)) ((x2 + (Nz >>> 32)) >>> 32) h7 Z Z Z Z Z (U 1 Z (AS Z (AO.Jv (x3 + x4) 32 Z Z Z Z Z (AS Z (AO.MB x5 ((x3 + x4) >>> 32) Z Z Z Z Z (U 1 Z (AS Z (AO.X6 (x3 + x4) 32 Z Z Z Z Z ?_))))))))); refine U 1 Z (AS Z (AO.u64_and Nz (4294967295:BitVec 64) Z Z Z Z Z ?_)); refine B1 hf fun x6 h8 hf=>AS Z (AO.X7 ((x3 + x4) <<< 32) (Nz &&& (4294967295:BitVec 64)) h8 Z Z Z Z Z (AS Z (AO.K8 Z Vz Jm Z (U 1 Z (AS Z (AO.aC Z SE (fun b14=>(Rr 5 [0] Z Z (AS Z (AO.Xm Z abn Z Z ?_)))))))))); refine U 1 Z (AR.and 5 63 68 [4,14] (x:=(!decide (([((x5 + ((x3 + x4) >>> 32)).toNat:Int),(x6.toNat:Int)]:List Int)=([0,0]:List Int)))) Z Z (fun h9=>?_) (fun h9=>?_) ?_)
 · refine Is 63 h9 Z (U 1 Z (GO Z (AO.aR (i:=0) Z Z Z Zg Z Z (GO Z (AO.K8 Z Vz Jm Z (GO Z (AO.WO ([((x5 + ((x3 + x4) >>> 32)).toNat:Int),(x6.toNat:Int)]:List Int) ([0,0]:List Int) Z Ze MX aaK aaJ aaH Z Z Z Z Z Z (TR [(x5 + ((x3 + x4) >>> 32)),x6]) (TR [(0:BitVec 64),(0:BitVec 64)]) ?_))))))); exact fZ 1 Z (En [68,4,14] Z)
 · refine Is 63 h9 Z ?_; exact fZ 5 Z (En [68,4,14] Z)
 cases hf; exact Rx 4 [0,0,1] Z Z (ZC [1] Z Z h)
theorem Gi (p1:jl) {r0:Int} {r1:Bool} (hf:vQ p1=some (r0,r1)) (h:Q (.ret (.tuple [iP r0,.bool r1])) τ):PC 272 [.agg (Ls p1)] τ Q:=by
 unfold vQ at hf; refine BN 37 [.tmp 2,.tmp 3] [0] Tryz.func272 Z Z Z Z Z (W 4 Z (AS Z (AO.sU (sz:=1) 0 Z Jm Z Z (by decide) Z ?_))); refine J 3 Z (C hf Z (fun h1 hf=>?_) fun h1 hf=>?_)
 · cases hf; exact M 2 Z (Y Z h)
 refine W 3 Z (AR.and 5 12 17 [1] (x:=(decide (((p1.half.getD 1 0).toNat:Int)≤9223372036854775808))) Z Z (fun h2=>?_) (fun h2=>?_) ?_)
 · refine Is 12 h2 Z (U 1 Z (GO Z (AO.sU (sz:=1) 1 Z Jm Z Z (by decide) Z ?_))); exact fZ 3 Z (En [17,1] Z)
 · refine Is 12 h2 Z ?_; exact fZ 5 Z (En [17,1] Z)
 refine J 1 Z (C hf Z (fun h3 hf=>?_) fun h3 hf=>?_)
 · refine W 1 Z (AS Z (AO.sU (sz:=1) 1 Z Jm Z Z (by decide) Z ?_)); refine U 1 Z (AS Z (AO.u64_neg (p1.half.getD 1 0) Z Z Z (AS Z (AO.FW Z MX EO Z ?_)))); cases hf; exact N 2 Z (Y Z h)
 refine W 4 Z (AR.and 5 27 32 [1] (x:=(decide (((p1.half.getD 1 0).toNat:Int)≤9223372036854775807))) Z Z (fun h4=>?_) (fun h4=>?_) ?_)
 · refine Is 27 h4 Z (U 1 Z (GO Z (AO.sU (sz:=1) 1 Z Jm Z Z (by decide) Z ?_))); exact fZ 3 Z (En [32,1] Z)
 · refine Is 27 h4 Z ?_; exact fZ 5 Z (En [32,1] Z)
 refine J 1 Z (C hf Z (fun h5 hf=>?_) fun h5 hf=>?_)
 · refine W 1 Z (AS Z (AO.sU (sz:=1) 1 Z Jm Z Z (by decide) Z ?_)); refine U 1 Z (AS Z (AO.FW Z MX EO Z ?_)); cases hf; exact N 2 Z (Y Z h)
 cases hf; exact M 2 Z (Y Z h)
theorem Vf (Yi:Bool) {r0:Int} (hf:QB Yi=some r0) (h:Q (.ret (iP r0)) τ):PC 273 [.bool Yi] τ Q:=by
 unfold QB at hf; refine BN 4 [.tmp 2] [0] Tryz.func273 Z Z Z Z Z (V 2 Z (C hf Z (fun h1 hf=>?_) fun h1 hf=>?_))
 · cases hf; exact M 1 Z (Y Z h)
 cases hf; exact M 1 Z (Y Z h)
theorem Vg (a1:Int) (b1:Int) {r0:Int} (hf:QE a1 b1=some r0) (h:Q (.ret (iP r0)) τ):PC 247 [iP a1,iP b1] τ Q:=by
 unfold QE at hf; refine BN 21 [.tmp 4] [0,1] Tryz.func247 Z Z Z Z Z ?_; refine B1 hf fun x1 h1 hf=>W 3 Z (CL Z (Ol _ _ h1 (AS Z (AO.aC Z SE (fun b5=>?_))))); obtain ⟨n1,ok1,h2,hf⟩:=bM hf; refine Rr 2 [0,0] Z Z (CL Z (Gi _ h2 (J 6 Z (C hf Z (fun h3 hf=>?_) fun h3 hf=>?_))))
 · cases hf; exact M 2 Z (Y Z h)
 refine BR hf fun x2 h4 hf=>?_; refine Wr 2 [0] Z Z (CL Z (Vf _ h4 ?_)); cases hf; exact N 1 Z (Y Z h)
@[reducible] def Jq :eP aH ah→cO
 | .ok r=>.ret (.agg (aL r))
 | .bad e=>.panic (.iface 181 (.agg [iP e.code]))
theorem BZ (op1:Str) (a1:ah) (b1:ah) {rX:eP aH ah} (hf:zJ op1 a1 b1=some rX) (h:Q (Jq rX) τ):PC 214 [.str op1,.agg (aL a1),.agg (aL b1)] τ Q:=by
 unfold zJ at hf; refine BN 46 [.cell 6 42] [0,1,2] Tryz.func214 Z Z Z Z Z (W 2 Z (AS Z (AO.aC Z gK (fun b6=>?_)))); refine B1 hf fun x1 h1 hf=>U 2 Z (CL Z (qw _ _ _ h1 ?_)); rcases bL hf with ⟨e1,h2,hf⟩ | ⟨_,h2,hf⟩
 · refine CL Z (bK _ _ h2 ?_); cases hf; exact ⟨Z,[],List.nil_sublist _,h⟩
 refine CL Z (bK _ _ h2 (J 3 Z (C hf Z (fun h3 hf=>?_) fun h3 hf=>?_)))
 ·
  rcases bL hf with ⟨e2,h4,hf⟩ | ⟨x2,h4,hf⟩
  · refine W 5 Z (CL Z (nE _ h4 ?_)); cases hf; exact ⟨Z,[],List.nil_sublist _,h⟩
  refine W 5 Z (CL Z (nE _ h4 ?_)); cases hf; exact Rx 1 [0] Z Z (ZC [0] Z Z h)
 refine V 2 Z (C hf Z (fun h5 hf=>?_) fun h5 hf=>?_)
 ·
  refine B1 hf fun x3 h6 hf=>W 4 Z (CL Z (Vg _ _ h6 ?_)); rcases bL hf with ⟨e3,h7,hf⟩ | ⟨x4,h7,hf⟩
  · refine CL Z (nE _ h7 ?_); cases hf; exact ⟨Z,[],List.nil_sublist _,h⟩
  refine CL Z (nE _ h7 ?_); cases hf; exact Rx 1 [0] Z Z (ZC [0] Z Z h)
 rcases bL hf with ⟨e4,h8,hf⟩ | ⟨_,h8,hf⟩
 · refine W 3 Z (CL Z (bK _ _ h8 ?_)); cases hf; exact ⟨Z,[],List.nil_sublist _,h⟩
 refine W 3 Z (CL Z (bK _ _ h8 (J 2 Z (C hf Z (fun h9 hf=>?_) fun h9 hf=>?_))))
 ·
  refine B1 hf fun _ h10 hf=>W 4 Z (AS Z (AO.acS h10 Z Z Z ?_)); rcases bL hf with ⟨e5,h11,hf⟩ | ⟨x5,h11,hf⟩
  · refine CL Z (nE _ h11 ?_); cases hf; exact ⟨Z,[],List.nil_sublist _,h⟩
  refine CL Z (nE _ h11 ?_); cases hf; exact Rx 1 [0] Z Z (ZC [0] Z Z h)
 refine B1 hf fun _ h12 hf=>W 4 Z (AS Z (AO.acR h12 Z Z Z ?_)); refine B1 hf fun x6 l6 hf=>CL Z (tQ _ l6 ?_); cases hf; exact Rx 1 [0] Z Z (ZC [0] Z Z h)
theorem N9 (v1:ah) {r0:Int} (hf:Dr v1=some r0) (h:Q (.ret (iP r0)) τ):PC 274 [.agg (aL v1)] τ Q:=by
 unfold Dr at hf; refine AC.none (AC.Ia 30 [.tmp 2] [0] Tryz.func274 Z Z Z Z Z ?_); obtain ⟨b1,s1,h1,hf⟩:=bM hf; cases hf; refine AW.sr (AR.step Z Z Z (AO.Ab Z Z Z (cs 1 Z (AR.nil [1] Z ?_)))); refine AW.sr (AR.step Z Z Z (AO.aC Z abb (fun b3=>(AR.bC Z Z (AO.bO (i:=0) Z Z Z Br Z Z Z Z Z (AR.nil [1,3] Z ?_)))))); refine AW.seq (AW.sr (cs 1 Z (AR.step Z Z Z (AO.call Z _ Z Z YS (Ic _ _ ?_))))); refine AR.nil [3,7] Z (AW.block (AW.rangeFunc (β:=Int) (X:=Int × ah) Z WC (fun x=>[iP x.1,.agg (aL x.2)]) (fun _=>Z) (by decide) (fun s x=>wC s x.1 x.2) (fun s=>[.box b3 [iP s]]) (fun _=>none) (s0:=0) (s1:=r0) Z Z ?_ ?_ ?_))
 · intro l T' hy; refine Ez l T' wC (fun s1 bZ v1 b s2 hh=>hy s1 (bZ,v1) b s2 hh) 0 v1 1 h1 ⟨⟨_,Z⟩,Z⟩
 ·
  rintro l s ⟨bZ,x1⟩ b s2 hh; unfold wC at hh; refine ⟨Z,?_⟩; cases hh; refine xI.seq (xI.region Z (cs 1 Z (AR.nil [3,4,9] Z ?_))); refine xI.region Z (AR.step Z Z Z (AO.aC Z gK (fun b5=>(AR.bC Z Z (AO.bO (i:=0) Z Z Z kY Z Z Z Z Z (AR.nil [3,4,5] Z ?_)))))); refine ⟨Z,(xI.block (xI.seq (xI.seq ?_)))⟩; refine xI.region Z (cs 1 Z (AR.step Z Z Z (AO.aR (i:=0) Z Z Z Br Z Z (cs 2 Z ?_)))); refine AR.or 4 13 17 [3,4,5] (x:=(x1.kind == 5)) Z Z (fun h2=>?_) (fun h2=>?_) ?_
  · refine AR.is 13 h2 Z (cs 1 Z (AR.go Z Z Z Z Z Z (AO.aR (i:=0) Z Z Z Br Z Z (cs 2 Z ?_)))); refine AR.nil [17,3,4,5] Z ?_; exact ⟨Z,Z,Z,Z⟩
  · refine AR.is 13 h2 Z (cs 4 Z (AR.nil [17,3,4,5] Z ?_)); exact ⟨Z,Z,Z,Z⟩
  refine cs 1 Z (AR.and 5 18 23 [3,4,5] (x:=((x1.cu.length:Int) == 0)) Z Z (fun h2=>?_) (fun h2=>?_) ?_)
  · refine AR.is 18 h2 Z (cs 1 Z (AR.go Z Z Z Z Z Z (AO.aR (i:=0) Z Z Z Fq Z Z (AR.go Z Z Z Z Z Z (AO.aT (l:=x1.cu) Z Z Z Z iR Z (ah.aA _) ?_))))); refine cs 2 Z (AR.nil [23,3,4,5] Z ?_); exact ⟨Z,Z,Z,Z⟩
  · refine AR.is 18 h2 Z (cs 5 Z (AR.nil [23,3,4,5] Z ?_)); exact ⟨Z,Z,Z,Z⟩
  refine AR.nil [3,4,23] Z (xI.cond Z (fun h3=>?_) (fun h3=>?_))
  · rw [show u_ bZ x1=dG (bZ + 1) from if_pos h3]; refine xI.region Z (cs 3 Z (AR.nil [3,4] Z (xI.region Z ?_))); refine AR.step Z Z Z (AO.aR (i:=1) Z Z Z Br Z Z (cs 1 Z (AR.step Z Z Z (AO.max2 Z Z Z Z Z (AR.bC Z Z (AO.bO (i:=1) Z Z Z Br Z Z Z Z Z ?_)))))); refine AR.nil [] Z ?_; exact ⟨Z,.cons _ (List.Sublist.refl _),Z,Z⟩
  rw [show u_ bZ x1=bZ from if_neg (by rw [h3]; simp)]; refine xI.skip (xI.region Z (AR.step Z Z Z (AO.aR (i:=1) Z Z Z Br Z Z (cs 1 Z ?_)))); refine AR.step Z Z Z (AO.max2 Z Z Z Z Z (AR.bC Z Z (AO.bO (i:=1) Z Z Z Br Z Z Z Z Z (AR.nil [] Z ?_)))); exact ⟨Z,.cons _ (List.Sublist.refl _),Z,Z⟩
 intro D; show AW _ _ _ _ _ _ _; refine AW.sr (AR.step Z Z Z (AO.aR (i:=0) Z Z Z Br Z Z (cs 1 Z (AR.nil [2] Z ?_)))); refine AW.ret ?_; exact ⟨D,[_],Z,Z,_,⟨_,_,Z,Z,Z⟩,[],List.nil_sublist _,h⟩
theorem Mj (y1:aB) (c1:aB) {r0:Bool} (hf:yD y1 c1=some r0) (h:Q (.ret (.bool r0)) τ):PC 276 [.agg (yI y1),.ref (yI c1)] τ Q:=by
 unfold yD at hf; refine BN 9 [.tmp 3] [0,1] Tryz.func276 Z Z Z Z Z ?_; cases hf; exact M 8 Z (Y Z h)
theorem m_ (s1:List aB) (f1:aB→Option Bool) (wY:FuncId) (AQ:List PV) (NK:aX Tryz.prog wY=true) (NM:∀ a0 b0,f1 a0=some b0→∀ {τ:List aV} {Q:cO→List aV→Prop},Q (.ret (.bool b0)) τ→PC wY ([.agg (yI a0)] ++ AQ) τ Q) {r0:Int} (hf:jh s1 f1=some r0) (h:Q (.ret (iP r0)) τ):PC 37 [.list (List.map aB.cells s1),.fn wY AQ] τ Q:=by
 unfold jh at hf; refine BN 19 [.tmp 4] [0,1] Tryz.func37 Z Z Z Z Z (W 2 Z (AS Z (AO.aT (l:=s1) Z Z Z Z tF Z Z (J 1 Z (Kl (fun i1=>[(0,.list (List.map aB.cells s1)),(1,.fn wY AQ),(7,iP (s1.length:Int)),(8,iP i1)]) (fun i1=>[]) (fun b_ i1=>iN s1 f1 b_ i1=some r0) BIG 0 Z Z hf (fun _ hz=>bU hz) ?_))))); intro b_ i1 hf; rw [iN] at hf; refine V 1 Z (C hf Z (fun h1 hf=>?_) fun h1 hf=>?_)
 ·
  refine B1 hf fun e1 h2 hf=>W 5 Z (AS Z (AO.aZ h2 Z Z Z Z tF (aB.aF _) Z ?_)); refine B1 hf fun x1 h3 hf=>U 1 Z (AS Z (AO.call Z _ Z Z NK (NM _ _ h3 (J 0 Z (C hf Z (fun h4 hf=>?_) fun h4 hf=>?_)))))
  · cases hf; exact M 2 Z (Y Z h)
  exact M 2 Z ⟨(dG (i1 + 1)),Z,Z,Z,hf⟩
 cases hf; exact M 1 Z (Y Z h)
theorem rU (s1:List aB) (f1:aB→Option Bool) (wY:FuncId) (AQ:List PV) (NK:aX Tryz.prog wY=true) (NM:∀ a0 b0,f1 a0=some b0→∀ {τ:List aV} {Q:cO→List aV→Prop},Q (.ret (.bool b0)) τ→PC wY ([.agg (yI a0)] ++ AQ) τ Q) {r0:Bool} (hf:jS s1 f1=some r0) (h:Q (.ret (.bool r0)) τ):PC 275 [.list (List.map aB.cells s1),.fn wY AQ] τ Q:=by
 unfold jS at hf; refine BN 9 [.tmp 4] [0,1] Tryz.func275 Z Z Z Z Z ?_; refine B1 hf fun x1 h1 hf=>W 3 Z (CL Z (m_ _ f1 wY AQ NK @NM h1 ?_)); cases hf; exact N 2 Z (Y Z h)
theorem Pd (dH:List aB) (i1:Int) {r0:Int} (hf:Fg dH i1=some r0) (h:Q (.ret (iP r0)) τ):PC 248 [.list (List.map aB.cells dH),iP i1] τ Q:=by
 unfold Fg at hf; refine BN 36 [.tmp 4] [0,1] Tryz.func248 Z Z Z Z Z ?_; refine B1 hf fun e1 h1 hf=>W 3 Z (AS Z (AO.aZ h1 Z Z Z Z tF (aB.aF _) Z (U 1 Z (AS Z (AO.aC Z MI (fun b5=>(Rr 3 [0,0] Z Z (AS Z (AO.dO Z Z Z Z eH Z (U 2 Z (AR.or 5 15 20 [0,1,5] (x:=(decide (64 < (e1.name.length:Int)))) Z Z (fun h2=>?_) (fun h2=>?_) ?_)))))))))))
 · refine Is 15 h2 Z (U 1 Z (GO Z (AO.aR (i:=0) Z Z Z M4 Z Z (GO Z (AO.dO Z Z Z Z eH Z ?_))))); exact fZ 2 Z (En [20,0,1,5] Z)
 · refine Is 15 h2 Z ?_; exact fZ 5 Z (En [20,0,1,5] Z)
 refine J 0 Z (C hf Z (fun h3 hf=>?_) fun h3 hf=>?_)
 · cases hf; exact M 1 Z (Y Z h)
 refine B1 hf fun e2 h4 hf=>Wr 2 [0] Z Z (CL Z (nD _ h4 (J 3 Z (C hf Z (fun h5 hf=>?_) fun h5 hf=>?_))))
 · cases hf; exact M 2 Z (Y Z h)
 refine B1 hf fun x1 h6 hf=>Wr 2 [0] Z Z (CL Z (N9 _ h6 (J 1 Z (C hf Z (fun h7 hf=>?_) fun h7 hf=>?_))))
 · cases hf; exact M 1 Z (Y Z h)
 refine B1 hf fun x2 h8 hf=>W 2 Z (AS Z (AO.Ue h8 Z tF Z Z Z (aB.bB) Z ⟨_,Z⟩ (AR.Lg 5 0 Z Z Z Z ?_))); refine B1 hf fun x3 h9 hf=>U 1 Z (CL Z (rU _ (fun z0=>yD z0 e1) 276 [.ref (yI e1)] Zr (fun _ _ hz=>Mj _ _ hz) h9 (J 0 Z (C hf Z (fun h10 hf=>?_) fun h10 hf=>?_))))
 · cases hf; exact M 1 Z (Y Z h)
 cases hf; exact M 1 Z (Y Z h)
theorem Kc (s1:List aB) {r0:List aB} (hf:fQ s1=some r0) (h:Q (.ret (.list (List.map aB.cells r0))) τ):PC 249 [.list (List.map aB.cells s1)] τ Q:=by
 unfold fQ at hf; refine BN 8 [.tmp 2] [0] Tryz.func249 Z Z Z Z Z (W 0 Z (AS Z (AO.d9 Z Z (U 1 Z (AS Z (AO.g_ Z Z VN (fun b hb=>(J 0 Z (AW.cond Z (fun h1=>?_) (fun h1=>?_))))))))))
 · obtain rfl:s1=[]:=List.map_eq_nil_iff.1 (hb h1); obtain ⟨_,rfl⟩:=jM hf; refine W 0 Z (AS Z (AO.d9 Z Z ?_)); exact N 0 rfl ⟨rfl,_,⟨_,_,rfl,rfl,rfl⟩,_,List.Sublist.refl _,h⟩
 refine W 0 Z (AS Z (AO.fC [] Z CW Z Z Z Z Z (fun v1=>(U 1 Z (AS Z (AO.eB (i:=0) (l:=[]) (m:=s1) hf Z Z Z Z Z Z Z CW tF Z Z Z (aB.bB) (aB.cells_one) (by decide) (fun v2 s2 hs2=>?_))))))); cases hs2; exact N 1 Z (Y Z h)
theorem uP (s1:List aB) {r0:List aB} (hf:fQ s1=some r0) {Q:cO→List aV→Prop} (h:∀ v,Q (.ret (.val v)) [.buf v r0.length 7 54 (r0.flatMap aB.cells)]):PC 249 [.list (List.map aB.cells s1)] [] Q:=by
 unfold fQ at hf; obtain ⟨hl,e0⟩:=jM hf; rw [List.nil_append] at e0; subst e0; simp only [List.length_nil,Nat.zero_add] at hl; have hlen:∀ x:aB,(aB.cells x).length=7:=fun _=>Z; have hone:∀ x:aB,(aB.cells x).all PV.one=true:=fun _=>Z; refine AC.jA 8 [.tmp 2] [0] Tryz.func249 Z Z Z Z Z (AW.sr (AR.step Z Z Z (AO.d9 Z Z (AR.nil [0] Z ?_)))); refine AW.seq (AW.sr (cs 1 Z (AR.step Z Z Z (AO.g_ Z Z VN (fun b hb=>?_))))); refine AR.nil [0,4] Z (AW.cond Z (fun h1=>?_) (fun h1=>?_))
 · obtain rfl:r0=[]:=List.map_eq_nil_iff.1 (hb h1); refine AW.sr (AR.step Z Z Z (AO.wO Z Z (AR.nil [2] Z (AW.PD 7 54 ?_)))); refine AW.ret ?_; exact ⟨rfl,_,⟨_,_,rfl,rfl,rfl⟩,_,List.Sublist.refl _,h _⟩
 refine AW.skip (AW.sr (AR.step Z Z Z (AO.fC [] Z CW Z Z Z Z Z (fun v1=>(cs 1 Z ?_))))); refine AR.step Z Z Z (AO.yB (i:=0) (l2:=List.map aB.cells r0) Z Z Z Z Z Z Z CW tF (fun y hy=>?_) (fun y hy=>?_) ?_ ?_ (fun v2 s1 hs1=>?_))
 · obtain ⟨s,_,rfl⟩:=List.mem_map.1 hy; exact hlen s
 · obtain ⟨s,_,rfl⟩:=List.mem_map.1 hy; exact hone s
 · rw [List.length_map]; unfold LK at hl; unfold maxLen; omega
 · rw [List.length_map]; unfold LK at hl; omega
 cases hs1; refine cs 1 Z (AR.nil [2] Z (AW.ret ?_)); have hv:=h v2; rw [List.flatMap_def,show r0.length=(List.map aB.cells r0).length from (List.length_map _).symm] at hv; exact ⟨rfl,_,⟨_,_,rfl,rfl,rfl⟩,_,List.Sublist.refl _,hv⟩
theorem Hw (s1:List aB) {r0:List aB} (hf:fQ s1=some r0) {Q:cO→List aV→Prop} (h:∀ v,Q (.ret (.own v (List.map aB.cells r0))) [.row v (List.map aB.cells r0).length 7 54]):PC 249 [.list (List.map aB.cells s1)] [] Q:=by
 unfold fQ at hf; refine AC.yT 8 [.tmp 2] [0] Tryz.func249 Z Z Z Z Z (AW.sr (AR.step Z Z Z (AO.d9 Z Z (AR.nil [0] Z ?_)))); refine AW.seq (AW.sr (cs 1 Z (AR.step Z Z Z (AO.g_ Z Z VN (fun b hb=>?_))))); refine AR.nil [0,4] Z (AW.cond Z (fun h1=>?_) (fun h1=>?_))
 · obtain rfl:s1=[]:=List.map_eq_nil_iff.1 (hb h1); obtain ⟨_,rfl⟩:=jM hf; refine AW.sr (cs 1 Z (AR.nil [2] Z (AW.row 7 54 ?_))); refine AW.ret ?_; exact ⟨rfl,_,⟨_,_,rfl,rfl,rfl⟩,_,List.Sublist.refl _,h _⟩
 refine AW.skip (AW.sr (AR.step Z Z Z (AO.fC [] Z CW Z Z Z Z Z (fun v1=>(cs 1 Z ?_))))); refine AR.step Z Z Z (AO.eB (i:=0) (l:=[]) (m:=s1) hf Z Z Z Z Z Z Z CW tF Z Z Z (aB.bB) (aB.cells_one) (by decide) (fun v2 s2 hs2=>?_)); cases hs2; refine cs 1 Z (AR.nil [2] Z (AW.ret ?_)); exact ⟨rfl,_,⟨_,_,rfl,rfl,rfl⟩,_,List.Sublist.refl _,h v2⟩
theorem Pe (a1:aB) (b1:aB) {r0:Int} (hf:Lc a1 b1=some r0) {τ:List aV} {Q:cO→List aV→Prop} (h:Q (.ret (iP r0)) τ):PC 251 [.agg (yI a1),.agg (yI b1)] τ Q:=by
 unfold Lc at hf; refine BN 10 [.tmp 4] [0,1] Tryz.func251 Z Z Z Z Z ?_; refine BR hf fun x1 h1 hf=>?_; refine W 7 Z (CL Z (zK _ _ h1 ?_)); cases hf; exact N 1 Z (Y Z h)
def Fv :Go.Shelf.Ren:=⟨fun | 6=>250 | 15=>278 | 14=>277 | 28=>308 | 29=>264 | 20=>300 | 21=>301 | 22=>302 | 23=>303 | 24=>304 | 25=>305 | 26=>306 | 27=>307 | 46=>323 | 47=>324 | 48=>325 | 49=>326 | 50=>327 | 57=>339 | n=>n,fun | 22=>23 | 24=>54 | 25=>267 | 3=>3 | 39=>278 | 0=>0 | 53=>276 | 55=>252 | 4=>4 | 46=>306 | 45=>305 | 50=>260 | 5=>5 | 9=>9 | 66=>324 | 70=>328 | 76=>339 | 77=>340 | n=>n,fun | n=>n⟩
theorem KC :Go.Proofs.SlLaysF0.n6 Tryz.prog Fv:={
 mixed:=by kernel_rfl
 f6:=⟨Tryz.f250.name,by decide,Tryz.func250.trans (congrArg some (by kernel_rfl))⟩
 f14:=⟨Tryz.f277.name,by decide,Tryz.func277.trans (congrArg some (by kernel_rfl))⟩
 f15:=Tryz.func278.trans (congrArg some (by kernel_rfl))
 f20:=⟨Tryz.f300.name,by decide,Tryz.func300.trans (congrArg some (by kernel_rfl))⟩
 f21:=⟨Tryz.f301.name,by decide,Tryz.func301.trans (congrArg some (by kernel_rfl))⟩
 f22:=⟨Tryz.f302.name,by decide,Tryz.func302.trans (congrArg some (by kernel_rfl))⟩
 f23:=⟨Tryz.f303.name,by decide,Tryz.func303.trans (congrArg some (by kernel_rfl))⟩
 f24:=⟨Tryz.f304.name,by decide,Tryz.func304.trans (congrArg some (by kernel_rfl))⟩
 f25:=⟨Tryz.f305.name,by decide,Tryz.func305.trans (congrArg some (by kernel_rfl))⟩
 f26:=⟨Tryz.f306.name,by decide,Tryz.func306.trans (congrArg some (by kernel_rfl))⟩
 f27:=⟨Tryz.f307.name,by decide,Tryz.func307.trans (congrArg some (by kernel_rfl))⟩
 f28:=Tryz.func308.trans (congrArg some (by kernel_rfl))
 f29:=Tryz.func264.trans (congrArg some (by kernel_rfl))
 f46:=⟨Tryz.f323.name,by decide,Tryz.func323.trans (congrArg some (by kernel_rfl))⟩
 f47:=Tryz.func324.trans (congrArg some (by kernel_rfl))
 f48:=Tryz.func325.trans (congrArg some (by kernel_rfl))
 f49:=⟨Tryz.f326.name,by decide,Tryz.func326.trans (congrArg some (by kernel_rfl))⟩
 f50:=⟨Tryz.f327.name,by decide,Tryz.func327.trans (congrArg some (by kernel_rfl))⟩
 f57:=⟨Tryz.f339.name,by decide,Tryz.func339.trans (congrArg some (by kernel_rfl))⟩
 t0:=Tryz.underlying0
 a0:=Tryz.isAgg0
 z0:=Tryz.sizeOf0
 v0:=Tryz.zeroValue0
 t3:=Tryz.underlying3
 a3:=Tryz.isAgg3
 z3:=Tryz.sizeOf3
 v3:=Tryz.zeroValue3
 t4:=Tryz.underlying4
 a4:=Tryz.isAgg4
 z4:=Tryz.sizeOf4
 v4:=Tryz.zeroValue4
 t5:=Tryz.underlying5
 a5:=Tryz.isAgg5
 z5:=Tryz.sizeOf5
 v5:=Tryz.zeroValue5
 t9:=Tryz.underlying9
 a9:=Tryz.isAgg9
 z9:=Tryz.sizeOf9
 v9:=Tryz.zeroValue9
 t22:=Tryz.underlying23
 a22:=Tryz.isAgg23
 z22:=Tryz.sizeOf23
 v22:=Tryz.zeroValue23
 t25:=Tryz.underlying267
 a25:=Tryz.isAgg267
 z25:=Tryz.sizeOf267
 v25:=Tryz.zeroValue267
 t39:=Tryz.underlying278
 a39:=Tryz.isAgg278
 z39:=Tryz.sizeOf278
 v39:=Tryz.zeroValue278
 t45:=Tryz.underlying305
 a45:=Tryz.isAgg305
 z45:=Tryz.sizeOf305
 v45:=Tryz.zeroValue305
 t46:=Tryz.underlying306
 a46:=Tryz.isAgg306
 z46:=Tryz.sizeOf306
 v46:=Tryz.zeroValue306
 t50:=Tryz.underlying260
 a50:=Tryz.isAgg260
 z50:=Tryz.sizeOf260
 v50:=Tryz.zeroValue260
 t53:=Tryz.underlying276
 a53:=Tryz.isAgg276
 z53:=Tryz.sizeOf276
 v53:=Tryz.zeroValue276
 t55:=Tryz.underlying252
 a55:=Tryz.isAgg252
 z55:=Tryz.sizeOf252
 v55:=Tryz.zeroValue252
 t66:=Tryz.underlying324
 a66:=Tryz.isAgg324
 z66:=Tryz.sizeOf324
 v66:=Tryz.zeroValue324
 t70:=Tryz.underlying328
 a70:=Tryz.isAgg328
 z70:=Tryz.sizeOf328
 v70:=Tryz.zeroValue328
 t76:=Tryz.underlying339
 a76:=Tryz.isAgg339
 z76:=Tryz.sizeOf339
 v76:=Tryz.zeroValue339
 t77:=Tryz.underlying340
 a77:=Tryz.isAgg340
 z77:=Tryz.sizeOf340
 v77:=Tryz.zeroValue340}
theorem Jd (s1:List aB) {r0:List aB} (hf:V4 (fun x=>x.name) s1=some r0) {v:Value} {e:TypeId} {Q:cO→List aV→Prop} (h:Q (.ret (.tuple [])) [.buf v (List.map aB.cells r0).length 7 e (r0.flatMap aB.cells)]):
  PC 250 [.val v,.fn 251 []] [.buf v s1.length 7 e (s1.flatMap aB.cells)] Q:=by
 unfold V4 at hf; split at hf
 case isFalse=>cases hf
 rename_i hg; obtain ⟨h1,h2,h3⟩:=hg; cases hf; rw [List.length_map] at h
 exact AC.UK KC aB.cells (k:=7) (by decide) (fun _=>Z) (fun _=>Z) acy abd Zv (cf:=fun a b=>Tq a.name b.name)
  (fun a b ha hb=>@Pe R3 a b _ (aaY (h2 a ha) (h2 b hb)) _ _ Z) (fun x hx=>by rw [Y1] at hx; omega) (fun x y z a b=>Yj a b) (fun x y z a b=>XR a b)
  (by
   rw [List.Nodup,List.pairwise_map] at h3; refine h3.imp fun {x y} hne=>?_; rcases Int.lt_trichotomy (Tq x.name y.name) 0 with h | h | h
   ·
    exact .inl h
   ·
    exact absurd (Y0 h) hne
   ·
    right; rw [aaq]; omega)
  (by unfold LK at h1; omega) h
theorem Sk (dH:List aB) {r0:ah} {r1:Int} (hf:Ku dH=some (r0,r1)) (h:Q (.ret (.tuple [.agg (aL r0),iP r1])) τ):PC 215 [.list (List.map aB.cells dH)] τ Q:=by
 unfold Ku at hf; refine BN 55 [.cell 2 42,.tmp 3] [0] Tryz.func215 Z Z Z Z Z (W 0 Z (AS Z (AO.aC Z gK (fun b2=>(U 2 Z (AS Z (AO.aT (l:=dH) Z Z Z Z tF Z Z (J 1 Z (C hf Z (fun h1 hf=>?_) fun h1 hf=>?_)))))))))
 · cases hf; exact Wx 3 [0] Z Z (ZC [0] Z Z h)
 refine W 1 Z (AS Z (AO.aT (l:=dH) Z Z Z Z tF Z Z (J 1 Z (Kl (fun i1=>[(0,.list (List.map aB.cells dH)),(2,pP b2),(15,iP (dH.length:Int)),(16,iP i1)]) (fun i1=>[.box b2 [iP 0,.bool false,iP 0,.str ([]:Str),.own (.slice none 0 0) [],.own (.slice none 0 0) []]]) (fun b_ i1=>zS dH b_ i1=some (r0,r1)) BIG 0 Z Z hf (fun _ hz=>bU hz) ?_)))); intro b_ i1 hf; rw [zS] at hf; refine V 1 Z (C hf Z (fun h2 hf=>?_) fun h2 hf=>?_)
 ·
  refine B1 hf fun e1 h3 hf=>W 4 Z (CL Z (Pd _ _ h3 (J 3 Z (C hf Z (fun h4 hf=>?_) fun h4 hf=>?_))))
  · cases hf; exact Wx 4 [0] Z Z (ZC [0] Z Z h)
  exact M 2 Z ⟨(dG (i1 + 1)),Z,Z,Z,hf⟩
 refine B1 hf fun Uc h5 hf=>W 1 Z (CL Z (AC.none (uP _ h5 (fun v1=>?_)))); refine B1 hf fun vD h6 hf=>U 2 rfl (CL rfl (AC.one 0 rfl (Jd _ h6 ⟨_,rfl,(AR.freeze 6 0 (List.map aB.cells vD) rfl rfl rfl (fun x hx=>by obtain ⟨s,_,rfl⟩:=List.mem_map.1 hx; rfl) Z ?_)⟩))); refine U 1 Z (AS Z (AO.aC Z gK (fun b7=>(Rr 2 [0] Z Z (AS Z (AO.aT (l:=vD) Z Z Z Z tF Z Z ?_)))))); refine J 1 Z (AW.row 6 42 (AW.row 1 9 (LK4 (fun x1 aY v2 v3=>[(2,pP b2),(7,pP b7),(32,.own v1 (List.map aB.cells vD)),(33,iP (vD.length:Int)),(34,iP x1)]) (fun x1 aY v2 v3=>[.row v3 (List.map l8 aY.keys).length 1 9,.row v2 (ah.aK aY.cu).length 6 42,.box b7 [iP aY.kind,.bool aY.je,iP aY.jm,.str aY.iK,.own v2 (ah.aK aY.cu),.own v3 (List.map l8 aY.keys)],.row v1 (List.map aB.cells vD).length 7 54,.box b2 [iP 0,.bool false,iP 0,.str ([]:Str),.own (.slice none 0 0) [],.own (.slice none 0 0) []]]) (fun IZ x1 aY v2 v3=>zR vD IZ x1 aY=some (r0,r1)) BIG 0 (ah.mk 5 false 0 ([]:Str) [] []) (.slice none 0 0) (.slice none 0 0) Z Z hf (fun _ _ _ _ hz=>bU hz) ?_))); intro IZ x1 aY v2 v3 hf; rw [zR] at hf; refine V 1 Z (C hf Z (fun h7 hf=>?_) fun h7 hf=>?_)
 ·
  refine B1 hf fun e2 h8 hf=>W 0 Z (AS Z (AO.aZ h8 Z Z Z Z tF (aB.aF _) Z (U 1 Z (AS Z (AO.aC Z MI (fun b9=>(Rr 5 [0,3,0] Z Z (AS Z (AO.bD (List.map l8 ([e2.name]:List Str)) Z qm Z Z Z Z ?_))))))))); refine B1 hf fun x2 h9 hf=>AS Z (AO.eB (i:=1) (l:=aY.keys) (m:=([e2.name]:List Str)) h9 Z Z Z Z Z Z Z qm jZ Z Z Z (fun _=>Z) (fun _=>Z) (by decide) (fun v4 s1 hs1=>?_)); cases hs1; refine Rw 2 [3] Z Z (AW.draw 6 mixed (by kernel_rfl) Z ?_); refine Ev.cs bJ 1 Z (Ev.cons Z Z Z (AO.aR (i:=3) Z Z Z Fq Z Z zg) (Ev.cs bJ 1 Z (Ev.cons Z Z Z (AO.aR (i:=0) Z Z Z kY Z Z zg) ?_))); refine B1 hf fun x3 h10 hf=>Ev.cons rfl rfl rfl (AO.call rfl _ rfl rfl Wm (Ie _ h10 ⟨rfl,rfl⟩)) (Ev.cons rfl rfl rfl (AO.bD (ah.aK [x3]) rfl vW rfl rfl rfl (by first | rfl | simp only [List.map,ah.aF,ah.aK]) ⟨rfl,rfl⟩) ?_); refine Ev.nil ?_; show AR _ _ _ _ _ _ _ _
  refine B1 hf fun x4 h11 hf=>AS Z (AO.eB (i:=2) (l:=aY.cu) (m:=[x3]) h11 Z Z Z Z Z Z Z vW iR (ah.aA _) (ah.aA _) (ah.aA _).symm (ah.bB) (ah.cells_one) (by decide) (fun v5 s2 hs2=>?_)); cases hs2; refine Rn 4 [3] Z Z (AR.drop1 ?_); exact N 0 Z ⟨(dG (x1 + 1)),(ah.mk aY.kind aY.je aY.jm aY.iK x4 x2),v5,v4,Z,Z,Z,hf⟩
 cases hf; exact Wx 3 [2,4] Z Z (ZC [4] Z Z h)
end Go.Proofs.YtcohpegjnpcgcaaGreatDoor
