/- Proved here: each function does what its functional text says (part 1). -/
import Derived.Test.YtdomnihfjnbnjaaGreatDoorSdA3
import Derived.Test.YtdomnihfjnbnjaaGreatDoorSdPre1
import Derived.Test.YtdomnihfjnbnjaaGreatDoorSdFt1
import Derived.Test.YtdomnihfjnbnjaaGreatDoorSdPool1
import Derived.Test.YtdomnihfjnbnjaaGreatDoorProg
import Derived.KernelRfl
set_option linter.unusedVariables false
set_option linter.unusedSimpArgs false
set_option linter.defProp false
set_option linter.unusedSectionVars false
namespace Go
def aup:=@List.nil_sublist
def auq:=@congrArg
def aur:=@List.length_map
def aus:=@Bool.eq_false_iff
def aut:=@List.map_eq_nil_iff
end Go
namespace Go.Ft
open Go Go.Abs
mutual
def ah.cells:ah→List PV
  | ⟨a0,a1,a2,a3,a4,a5⟩=>[.int .i64 a0,.bool a1,.int .i64 a2,.str a3,.list (ah.bq a4),.list (List.map kg a5)]
def ah.bq:List ah→List (List PV)
  | []=>[]
  | x::xs=>ah.cells x::ah.bq xs
end
theorem ah.aQ(x:ah):ah.cells x=[.int .i64 x.kind,.bool x.dZ,.int .i64 x.eB,.str x.bV,.list (ah.bq x.aO),.list (List.map kg x.keys)]:=by cases x;rfl
theorem ah.bA:∀l:List ah,ah.bq l=l.map ah.cells
  | []=>rfl
  | _::l=>auq _ (ah.bA l)
def ah.rH(l:List ah):List PV:=[.list (ah.bq l)]
theorem ah.fA(x:ah):(ah.cells x).length=6:=by rw[ah.aQ];rfl
theorem ah.cells_one(x:ah):(ah.cells x).all PV.one=true:=by rw[ah.aQ];rfl
@[reducible] def aF.cells(x:aF):List PV:=[.str x.name,.int .i64 x.value.kind,.bool x.value.dZ,.int .i64 x.value.eB,.str x.value.bV,.list (ah.bq x.value.aO),.list (List.map kg x.value.keys)]
theorem aF.aQ(x:aF):aF.cells x=[.str x.name,.int .i64 x.value.kind,.bool x.value.dZ,.int .i64 x.value.eB,.str x.value.bV,.list (ah.bq x.value.aO),.list (List.map kg x.value.keys)]:=rfl
theorem aF.fA(x:aF):(aF.cells x).length=7:=by rw[aF.aQ];rfl
theorem aF.cells_one(x:aF):(aF.cells x).all PV.one=true:=by rw[aF.aQ];rfl
@[reducible] def aA.cells(x:aA):List PV:=[.int .i64 x.kind,.str x.text,.int .i64 x.at_]
theorem aA.aQ(x:aA):aA.cells x=[.int .i64 x.kind,.str x.text,.int .i64 x.at_]:=rfl
theorem aA.fA(x:aA):(aA.cells x).length=3:=by rw[aA.aQ];rfl
theorem aA.cells_one(x:aA):(aA.cells x).all PV.one=true:=by rw[aA.aQ];rfl
@[reducible] def av.cells(x:av):List PV:=[.list (List.map aA.cells x.ts),.int .i64 x.at_]
theorem av.aQ(x:av):av.cells x=[.list (List.map aA.cells x.ts),.int .i64 x.at_]:=rfl
theorem av.fA(x:av):(av.cells x).length=2:=by rw[av.aQ];rfl
theorem av.cells_one(x:av):(av.cells x).all PV.one=true:=by rw[av.aQ];rfl
@[reducible] def aB.cells(x:aB):List PV:=[.int .i64 x.at_,.int .i64 x.code]
theorem aB.aQ(x:aB):aB.cells x=[.int .i64 x.at_,.int .i64 x.code]:=rfl
theorem aB.fA(x:aB):(aB.cells x).length=2:=by rw[aB.aQ];rfl
theorem aB.cells_one(x:aB):(aB.cells x).all PV.one=true:=by rw[aB.aQ];rfl
mutual
def ak.cells:ak→List PV
  | ⟨a0,a1,a2,a3,a4⟩=>[.int .i64 a0,.str a1,.int .i64 a2.kind,.bool a2.dZ,.int .i64 a2.eB,.str a2.bV,.list (ah.bq a2.aO),.list (List.map kg a2.keys),.list (ak.bq a3),.list (List.map kg a4)]
def ak.bq:List ak→List (List PV)
  | []=>[]
  | x::xs=>ak.cells x::ak.bq xs
end
theorem ak.aQ(x:ak):ak.cells x=[.int .i64 x.kind,.str x.name,.int .i64 x.value.kind,.bool x.value.dZ,.int .i64 x.value.eB,.str x.value.bV,.list (ah.bq x.value.aO),.list (List.map kg x.value.keys),.list (ak.bq x.args),.list (List.map kg x.keys)]:=by cases x;rfl
theorem ak.bA:∀l:List ak,ak.bq l=l.map ak.cells
  | []=>rfl
  | _::l=>auq _ (ak.bA l)
def ak.rH(l:List ak):List PV:=[.list (ak.bq l)]
theorem ak.fA(x:ak):(ak.cells x).length=10:=by rw[ak.aQ];rfl
theorem ak.cells_one(x:ak):(ak.cells x).all PV.one=true:=by rw[ak.aQ];rfl
@[reducible] def aS.cells(x:aS):List PV:=[.str x.text,.bool x.VG,.int .i64 x.expr.kind,.str x.expr.name,.int .i64 x.expr.value.kind,.bool x.expr.value.dZ,.int .i64 x.expr.value.eB,.str x.expr.value.bV,.list (ah.bq x.expr.value.aO),.list (List.map kg x.expr.value.keys),.list (ak.bq x.expr.args),.list (List.map kg x.expr.keys)]
theorem aS.aQ(x:aS):aS.cells x=[.str x.text,.bool x.VG,.int .i64 x.expr.kind,.str x.expr.name,.int .i64 x.expr.value.kind,.bool x.expr.value.dZ,.int .i64 x.expr.value.eB,.str x.expr.value.bV,.list (ah.bq x.expr.value.aO),.list (List.map kg x.expr.value.keys),.list (ak.bq x.expr.args),.list (List.map kg x.expr.keys)]:=rfl
theorem aS.fA(x:aS):(aS.cells x).length=12:=by rw[aS.aQ];rfl
theorem aS.cells_one(x:aS):(aS.cells x).all PV.one=true:=by rw[aS.aQ];rfl
@[reducible] def aG.cells(x:aG):List PV:=[.int .i64 x.code]
theorem aG.aQ(x:aG):aG.cells x=[.int .i64 x.code]:=rfl
theorem aG.fA(x:aG):(aG.cells x).length=1:=by rw[aG.aQ];rfl
theorem aG.cells_one(x:aG):(aG.cells x).all PV.one=true:=by rw[aG.aQ];rfl
@[reducible] def fF.cells(x:fF):List PV:=[.int .u64 ((x.half.getD 0 0).toNat:Int),.int .u64 ((x.half.getD 1 0).toNat:Int),.bool x.neg]
theorem fF.aQ(x:fF):fF.cells x=[.int .u64 ((x.half.getD 0 0).toNat:Int),.int .u64 ((x.half.getD 1 0).toNat:Int),.bool x.neg]:=rfl
theorem fF.fA(x:fF):(fF.cells x).length=3:=by rw[fF.aQ];rfl
theorem fF.cells_one(x:fF):(fF.cells x).all PV.one=true:=by rw[fF.aQ];rfl
mutual
def ay.cells:ay→List PV
  | ⟨a0,a1⟩=>[.int .i64 a0,.list (ay.bq a1)]
def ay.bq:List ay→List (List PV)
  | []=>[]
  | x::xs=>ay.cells x::ay.bq xs
end
theorem ay.aQ(x:ay):ay.cells x=[.int .i64 x.kind,.list (ay.bq x.elem)]:=by cases x;rfl
theorem ay.bA:∀l:List ay,ay.bq l=l.map ay.cells
  | []=>rfl
  | _::l=>auq _ (ay.bA l)
def ay.rH(l:List ay):List PV:=[.list (ay.bq l)]
theorem ay.fA(x:ay):(ay.cells x).length=2:=by rw[ay.aQ];rfl
theorem ay.cells_one(x:ay):(ay.cells x).all PV.one=true:=by rw[ay.aQ];rfl
@[reducible] def aT.cells(x:aT):List PV:=[.str x.name,.int .i64 x.oM.kind,.list (ay.bq x.oM.elem)]
theorem aT.aQ(x:aT):aT.cells x=[.str x.name,.int .i64 x.oM.kind,.list (ay.bq x.oM.elem)]:=rfl
theorem aT.fA(x:aT):(aT.cells x).length=3:=by rw[aT.aQ];rfl
theorem aT.cells_one(x:aT):(aT.cells x).all PV.one=true:=by rw[aT.aQ];rfl
end Go.Ft
namespace Go.Proofs.YtdomnihfjnbnjaaGreatDoor
open Go Go.Abs Go.Ft
set_option maxRecDepth 20000
set_option maxHeartbeats 8000000
attribute [local irreducible] AO AR AW AC au fD mq dU fZ idx sl app
class D8[gQ]:Prop where
  hD:¬gQ.D
  max:∀(w:World) (m:jK),gQ.G w m→∃n:Int,w.cell? ⟨0,0,none⟩=some (.int .i64 n)
  pow:∀(w:World) (m:jK),gQ.G w m→Lib.TabIs Tryz.prog w "internal/strconv.uint64pow10" .u64 Lib.pow10Tab
  syn:∀(w:World) (m:jK),gQ.G w m→∃ev,w.cell? ⟨6,0,none⟩=some ev∧(ev=.nilIface∨∃te pe,ev=.iface te pe)
  rng:∀(w:World) (m:jK),gQ.G w m→∃ev,w.cell? ⟨7,0,none⟩=some ev∧(ev=.nilIface∨∃te pe,ev=.iface te pe)
variable [gQ]
theorem aq_(w:World):(isAgg 31).run Tryz.prog w=.ok true w:=by kernel_rfl
theorem ajC:BI Tryz.prog 146=some (8,1):=by kernel_rfl
theorem Nh:BI Tryz.prog 263=some (2,1):=by kernel_rfl
theorem aoJ:Tryz.prog.cellsOf 201=1:=by kernel_rfl
theorem aoI:Tryz.prog.cellsOf 263=2:=by kernel_rfl
theorem aqV:Tryz.prog.cellsOf 5=1:=by kernel_rfl
theorem aoC:Tryz.prog.eqGuardType Tryz.prog.depth 263=false:=by kernel_rfl
theorem YQ:elemSize Tryz.prog 147=some 1:=by kernel_rfl
theorem Jc:elemSize Tryz.prog 22=some 7:=by kernel_rfl
theorem ai2:elemSize Tryz.prog 25=some 3:=by kernel_rfl
theorem Kv:elemSize Tryz.prog 26=some 6:=by kernel_rfl
theorem FW:elemSize Tryz.prog 27=some 1:=by kernel_rfl
theorem Cr:elemSize Tryz.prog 32=some 2:=by kernel_rfl
theorem Xx:elemSize Tryz.prog 45=some 1:=by kernel_rfl
theorem Jb:elemSize Tryz.prog 47=some 12:=by kernel_rfl
theorem uM:elemSize Tryz.prog 52=some 10:=by kernel_rfl
theorem Xw:elemSize Tryz.prog 99=some 3:=by kernel_rfl
theorem aek:su Tryz.prog 54 3=some 8:=by kernel_rfl
theorem alP:su Tryz.prog 56 1=some 1:=by kernel_rfl
theorem alO:su Tryz.prog 56 2=some 2:=by kernel_rfl
theorem DJ:su Tryz.prog 68 0=some 0:=by kernel_rfl
theorem wH:su Tryz.prog 68 1=some 1:=by kernel_rfl
theorem Sb:su Tryz.prog 77 0=some 0:=by kernel_rfl
theorem Lf:su Tryz.prog 77 1=some 1:=by kernel_rfl
theorem amV:Tryz.prog.underlying 71=some (.interface (Tryz.prog.methodsAt 71)):=by kernel_rfl
theorem inB:∃j,Tryz.prog.info? 68=some j∧(j.size !=0)=true:=sized (n:=2) (by kernel_rfl) rfl
theorem aqm:liesAt Tryz.prog Tryz.prog.depth 68 (2/Tryz.prog.cellsOf 68) 0 68 1=true:=by kernel_rfl
theorem aql:liesAt Tryz.prog Tryz.prog.depth 77 (3/Tryz.prog.cellsOf 77) 1 68 1=true:=by kernel_rfl
theorem mixed:Tryz.prog.follows .mixedOrders=true:=by kernel_rfl
theorem Oh:Tryz.prog.underlying 88=some (.map 9 3):=by kernel_rfl
theorem ab_:cO Tryz.prog 115=true:=by kernel_rfl
theorem ah4:cO Tryz.prog 118=true:=by kernel_rfl
theorem an_:cO Tryz.prog 119=true:=by kernel_rfl
theorem amM:cO Tryz.prog 12=true:=by kernel_rfl
theorem an9:cO Tryz.prog 122=true:=by kernel_rfl
theorem J2:cO Tryz.prog 123=true:=by kernel_rfl
theorem an8:cO Tryz.prog 125=true:=by kernel_rfl
theorem an7:cO Tryz.prog 138=true:=by kernel_rfl
theorem ah3:cO Tryz.prog 139=true:=by kernel_rfl
theorem ap8:cO Tryz.prog 14=true:=by kernel_rfl
theorem an6:cO Tryz.prog 145=true:=by kernel_rfl
theorem ah2:cO Tryz.prog 161=true:=by kernel_rfl
theorem ah1:cO Tryz.prog 166=true:=by kernel_rfl
theorem an5:cO Tryz.prog 167=true:=by kernel_rfl
theorem ap7:cO Tryz.prog 17=true:=by kernel_rfl
theorem an4:cO Tryz.prog 177=true:=by kernel_rfl
theorem amL:cO Tryz.prog 18=true:=by kernel_rfl
theorem ap6:cO Tryz.prog 19=true:=by kernel_rfl
theorem ap5:cO Tryz.prog 23=true:=by kernel_rfl
theorem ap4:cO Tryz.prog 24=true:=by kernel_rfl
theorem an3:cO Tryz.prog 241=true:=by kernel_rfl
theorem ah0:cO Tryz.prog 250=true:=by kernel_rfl
theorem an2:cO Tryz.prog 256=true:=by kernel_rfl
theorem amK:cO Tryz.prog 27=true:=by kernel_rfl
theorem ahZ:cO Tryz.prog 272=true:=by kernel_rfl
theorem amJ:cO Tryz.prog 28=true:=by kernel_rfl
theorem an1:cO Tryz.prog 280=true:=by kernel_rfl
theorem ap3:cO Tryz.prog 29=true:=by kernel_rfl
theorem ap2:cO Tryz.prog 30=true:=by kernel_rfl
theorem amI:cO Tryz.prog 31=true:=by kernel_rfl
theorem ap1:cO Tryz.prog 32=true:=by kernel_rfl
theorem amH:cO Tryz.prog 39=true:=by kernel_rfl
theorem ap0:cO Tryz.prog 41=true:=by kernel_rfl
theorem amG:cO Tryz.prog 42=true:=by kernel_rfl
theorem ahY:cO Tryz.prog 46=true:=by kernel_rfl
theorem amF:cO Tryz.prog 56=true:=by kernel_rfl
theorem apZ:cO Tryz.prog 57=true:=by kernel_rfl
theorem amE:cO Tryz.prog 65=true:=by kernel_rfl
theorem apY:cO Tryz.prog 7=true:=by kernel_rfl
theorem apX:cO Tryz.prog 71=true:=by kernel_rfl
theorem apW:cO Tryz.prog 72=true:=by kernel_rfl
theorem apV:cO Tryz.prog 73=true:=by kernel_rfl
theorem apU:cO Tryz.prog 74=true:=by kernel_rfl
theorem amD:cO Tryz.prog 79=true:=by kernel_rfl
theorem apT:cO Tryz.prog 80=true:=by kernel_rfl
theorem apS:cO Tryz.prog 88=true:=by kernel_rfl
theorem apR:cO Tryz.prog 90=true:=by kernel_rfl
theorem apQ:cO Tryz.prog 94=true:=by kernel_rfl
theorem apP:cO Tryz.prog 95=true:=by kernel_rfl
theorem amC:cO Tryz.prog 96=true:=by kernel_rfl
theorem apO:cO Tryz.prog 97=true:=by kernel_rfl
theorem apN:cO Tryz.prog 98=true:=by kernel_rfl
theorem CJ:iW Tryz.prog 147 32 1 24:=qp (by kernel_rfl)
theorem SS:iW Tryz.prog 22 31 7 104:=qp (by kernel_rfl)
theorem apF:iW Tryz.prog 25 37 3 48:=qp (by kernel_rfl)
theorem WU:iW Tryz.prog 26 29 6 88:=qp (by kernel_rfl)
theorem QJ:iW Tryz.prog 27 9 1 16:=qp (by kernel_rfl)
theorem wZ:iW Tryz.prog 32 34 2 32:=qp (by kernel_rfl)
theorem WT:iW Tryz.prog 45 5 1 1:=qp (by kernel_rfl)
theorem adQ:iW Tryz.prog 47 56 12 184:=qp (by kernel_rfl)
theorem amB:iW Tryz.prog 52 54 10 160:=qp (by kernel_rfl)
theorem WS:iW Tryz.prog 99 105 3 32:=qp (by kernel_rfl)
theorem akV:BU Tryz.prog 166=some [(0,1),(1,1)]:=by kernel_rfl
theorem ahC:BU Tryz.prog 29=some [(0,1),(1,1),(2,1),(3,1),(4,1),(5,1)]:=by kernel_rfl
theorem anV:BU Tryz.prog 31=some [(0,1),(1,6)]:=by kernel_rfl
theorem ahB:BU Tryz.prog 54=some [(0,1),(1,1),(2,6),(8,1),(9,1)]:=by kernel_rfl
theorem ahA:BU Tryz.prog 56=some [(0,1),(1,1),(2,10)]:=by kernel_rfl
theorem akP(w:Go.World):(Instr.typeAssert .nilIface 20 157 true).run Tryz.prog w=.ok (.tuple #[.agg #[.int .i64 0],.bool false]) w:=by kernel_rfl
theorem akO(w:Go.World):(Instr.typeAssert .nilIface 20 168 true).run Tryz.prog w=.ok (.tuple #[.agg #[.int .i64 0,.int .i64 0],.bool false]) w:=by kernel_rfl
theorem akN(v:Value)(w:Go.World):(Instr.typeAssert (.iface 157 v) 20 157 true).run Tryz.prog w=.ok (.tuple #[v,.bool true]) w:=by kernel_rfl
theorem akM(v:Value)(w:Go.World):(Instr.typeAssert (.iface 168 v) 20 168 true).run Tryz.prog w=.ok (.tuple #[v,.bool true]) w:=by kernel_rfl
theorem anS:jB Tryz.prog 107=some (false,1):=by kernel_rfl
theorem ahs:jB Tryz.prog 157=some (true,1):=by kernel_rfl
theorem ahr:jB Tryz.prog 168=some (true,2):=by kernel_rfl
theorem amA:jB Tryz.prog 25=some (false,1):=by kernel_rfl
theorem ahq:jB Tryz.prog 26=some (false,1):=by kernel_rfl
theorem anR:jB Tryz.prog 263=some (true,2):=by kernel_rfl
theorem amz:jB Tryz.prog 27=some (false,1):=by kernel_rfl
theorem Aq:jB Tryz.prog 29=some (true,6):=by kernel_rfl
theorem Jl:jB Tryz.prog 3=some (false,1):=by kernel_rfl
theorem amy:jB Tryz.prog 32=some (false,1):=by kernel_rfl
theorem kK:jB Tryz.prog 34=some (true,2):=by kernel_rfl
theorem uX:jB Tryz.prog 38=some (false,1):=by kernel_rfl
theorem arM:jB Tryz.prog 4=some (false,1):=by kernel_rfl
theorem Gt:jB Tryz.prog 45=some (false,1):=by kernel_rfl
theorem SG:jB Tryz.prog 47=some (false,1):=by kernel_rfl
theorem amx:jB Tryz.prog 52=some (false,1):=by kernel_rfl
theorem Ap:jB Tryz.prog 54=some (true,10):=by kernel_rfl
theorem apA:jB Tryz.prog 56=some (true,12):=by kernel_rfl
theorem Nz:jB Tryz.prog 66=some (false,1):=by kernel_rfl
theorem apz:jB Tryz.prog 9=some (false,1):=by kernel_rfl
theorem SA:Tryz.prog.underlying 201=some (.int .u64):=by kernel_rfl
theorem amv:Tryz.prog.underlying 22=some (.slice 31):=by kernel_rfl
theorem anN:Tryz.prog.underlying 263=some (.array 2 201):=by kernel_rfl
theorem amu:Tryz.prog.underlying 27=some (.slice 9):=by kernel_rfl
theorem ae0:Tryz.prog.underlying 3=some (.int .i64):=by kernel_rfl
theorem apy:Tryz.prog.underlying 4=some (.bool):=by kernel_rfl
theorem apx:Tryz.prog.underlying 45=some (.slice 5):=by kernel_rfl
theorem anM:Tryz.prog.underlying 5=some (.int .u8):=by kernel_rfl
theorem uN:Tryz.prog.underlying 9=some (.string):=by kernel_rfl
theorem LP:Tryz.prog.underlying 66=some (.pointer 68):=by kernel_rfl
theorem amt:Tryz.prog.underlying 96=some (.pointer 5):=by kernel_rfl
theorem X0:Tryz.prog.underlying 133=some .unsafePointer:=by kernel_rfl
theorem aps(w:World):(Go.sizeOf 31).run Tryz.prog w=.ok 7 w:=by kernel_rfl
theorem aeV:(Tryz.prog.info? 3).map (·.zero)=some (some (.int .i64 0)):=by kernel_rfl
theorem ag5:lH Tryz.prog 105=some [.int .i64 0,.str [],.int .i64 0]:=by kernel_rfl
theorem anG:lH Tryz.prog 107=some [.val .nilFunc]:=by kernel_rfl
theorem ag4:lH Tryz.prog 146=some [.str [],.str [],.str [],.str [],.str [],.str [],.str [],.str []]:=by kernel_rfl
theorem ag3:lH Tryz.prog 157=some [.int .i64 0]:=by kernel_rfl
theorem anF:lH Tryz.prog 166=some [.own (.slice none 0 0) [],.int .i64 0]:=by kernel_rfl
theorem ag2:lH Tryz.prog 168=some [.int .i64 0,.int .i64 0]:=by kernel_rfl
theorem ag1:lH Tryz.prog 263=some [.int .u64 0,.int .u64 0]:=by kernel_rfl
theorem ag0:lH Tryz.prog 265=some [.int .u64 0,.int .u64 0,.bool false]:=by kernel_rfl
theorem apr:lH Tryz.prog 27=some [.own (.slice none 0 0) []]:=by kernel_rfl
theorem wM:lH Tryz.prog 29=some [.int .i64 0,.bool false,.int .i64 0,.str [],.own (.slice none 0 0) [],.own (.slice none 0 0) []]:=by kernel_rfl
theorem apq:lH Tryz.prog 3=some [.int .i64 0]:=by kernel_rfl
theorem ado:lH Tryz.prog 31=some [.str [],.int .i64 0,.bool false,.int .i64 0,.str [],.own (.slice none 0 0) [],.own (.slice none 0 0) []]:=by kernel_rfl
theorem Jt:lH Tryz.prog 34=some [.int .i64 0,.own (.slice none 0 0) []]:=by kernel_rfl
theorem apo:lH Tryz.prog 37=some [.str [],.int .i64 0,.own (.slice none 0 0) []]:=by kernel_rfl
theorem adn:lH Tryz.prog 38=some [.int .i64 0]:=by kernel_rfl
theorem LK:lH Tryz.prog 54=some [.int .i64 0,.str [],.int .i64 0,.bool false,.int .i64 0,.str [],.own (.slice none 0 0) [],.own (.slice none 0 0) [],.own (.slice none 0 0) [],.own (.slice none 0 0) []]:=by kernel_rfl
theorem Zk:lH Tryz.prog 56=some [.str [],.bool false,.int .i64 0,.str [],.int .i64 0,.bool false,.int .i64 0,.str [],.own (.slice none 0 0) [],.own (.slice none 0 0) [],.own (.slice none 0 0) [],.own (.slice none 0 0) []]:=by kernel_rfl
theorem Zj:lH Tryz.prog 68=some [.val (.pointer none),.own (.slice none 0 0) []]:=by kernel_rfl
theorem apn:lH Tryz.prog 77=some [.own (.slice none 0 0) [],.val (.pointer none),.own (.slice none 0 0) []]:=by kernel_rfl
def FX:Facts:={ti:=[(3,false,1),(4,false,1),(5,false,1),(9,false,1),(25,false,1),(26,false,1),(27,false,1),(29,true,6),(31,true,7),(32,false,1),(34,true,2),(37,true,3),(38,false,1),(47,false,1),(52,false,1),(54,true,10),(56,true,12),(105,true,3),(157,true,1),(166,true,2),(168,true,2),(201,false,1)],fo:=[(29,0,0),(29,1,1),(29,2,2),(29,3,3),(29,4,4),(29,5,5),(31,0,0),(31,1,1),(34,0,0),(34,1,1),(37,0,0),(37,1,1),(54,0,0),(54,1,1),(54,2,2),(54,3,8),(54,4,9),(56,0,0),(56,1,1),(56,2,2),(77,0,0),(77,1,1),(105,0,0),(105,1,1),(105,2,2),(157,0,0),(166,0,0),(166,1,1),(168,0,0),(168,1,1),(265,0,0),(265,1,2)],fd:=[],str:=[]}
theorem gB:FX.okB Tryz.prog=true:=by kernel_rfl
theorem cs{n:Nat}{all:Array Oper}{σ:List aR}{ds:List Deferred}{Q:Post}(k:Nat){l l':List Oper}{env env':Env}(h:Rt FX all n k l env=some (env',l'))(hr:AR Tryz.prog n all l' env' σ ds Q):AR Tryz.prog n all l env σ ds Q:=AR.cs gB k h hr
variable {τ : List aR} {Q : dN → List aR → Prop}
abbrev PC:=AC Tryz.prog
@[reducible] def iP(x:Int):PV:=.int .i64 x
@[reducible] def sP(x:List Str):PV:=.list (List.map kg x)
@[reducible] def pP(b:Nat):PV:=.val (.pointer (some ⟨b,0,none⟩))
@[reducible] def aP(x:ah):List PV:=[.int .i64 x.kind,.bool x.dZ,.int .i64 x.eB,.str x.bV,.list (ah.bq x.aO),.list (List.map kg x.keys)]
@[reducible] def tK(x:aF):List PV:=[.str x.name,.int .i64 x.value.kind,.bool x.value.dZ,.int .i64 x.value.eB,.str x.value.bV,.list (ah.bq x.value.aO),.list (List.map kg x.value.keys)]
@[reducible] def aY(x:ay):List PV:=[.int .i64 x.kind,.list (ay.bq x.elem)]
@[reducible] def aaB(x:aT):List PV:=[.str x.name,.int .i64 x.oM.kind,.list (ay.bq x.oM.elem)]
@[reducible] def bJ(x:ak):List PV:=[.int .i64 x.kind,.str x.name,.int .i64 x.value.kind,.bool x.value.dZ,.int .i64 x.value.eB,.str x.value.bV,.list (ah.bq x.value.aO),.list (List.map kg x.value.keys),.list (ak.bq x.args),.list (List.map kg x.keys)]
@[reducible] def PZ(x:aS):List PV:=[.str x.text,.bool x.VG,.int .i64 x.expr.kind,.str x.expr.name,.int .i64 x.expr.value.kind,.bool x.expr.value.dZ,.int .i64 x.expr.value.eB,.str x.expr.value.bV,.list (ah.bq x.expr.value.aO),.list (List.map kg x.expr.value.keys),.list (ak.bq x.expr.args),.list (List.map kg x.expr.keys)]
@[reducible] def yX(x:aA):List PV:=[.int .i64 x.kind,.str x.text,.int .i64 x.at_]
@[reducible] def aN(x:av):List PV:=[.list (List.map aA.cells x.ts),.int .i64 x.at_]
@[reducible] def jT(x:aB):List PV:=[.int .i64 x.at_,.int .i64 x.code]
@[reducible] def Ra(x:fF):List PV:=[.int .u64 ((x.half.getD 0 0).toNat:Int),.int .u64 ((x.half.getD 1 0).toNat:Int),.bool x.neg]
def FZ:FB:=⟨{FX with ti:=FX.ti++[(3,false,1),(4,false,1),(9,false,1),(25,false,1),(26,false,1),(27,false,1),(29,true,6),(31,true,7),(32,false,1),(34,true,2),(37,true,3),(38,false,1),(45,false,1),(47,false,1),(52,false,1),(54,true,10),(56,true,12),(66,false,1),(99,false,1),(105,true,3),(107,false,1),(146,true,8),(157,true,1),(166,true,2),(168,true,2),(224,false,1),(263,true,2),(265,true,3)],fo:=FX.fo++[(34,0,0),(54,3,8),(56,1,1),(56,2,2),(68,0,0),(68,1,1),(77,0,0),(77,1,1)],str:=[9]},[(3,[.int .i64 0]),(27,[.own (.slice none 0 0) []]),(29,[.int .i64 0,.bool false,.int .i64 0,.str [],.own (.slice none 0 0) [],.own (.slice none 0 0) []]),(31,[.str [],.int .i64 0,.bool false,.int .i64 0,.str [],.own (.slice none 0 0) [],.own (.slice none 0 0) []]),(34,[.int .i64 0,.own (.slice none 0 0) []]),(37,[.str [],.int .i64 0,.own (.slice none 0 0) []]),(38,[.int .i64 0]),(54,[.int .i64 0,.str [],.int .i64 0,.bool false,.int .i64 0,.str [],.own (.slice none 0 0) [],.own (.slice none 0 0) [],.own (.slice none 0 0) [],.own (.slice none 0 0) []]),(56,[.str [],.bool false,.int .i64 0,.str [],.int .i64 0,.bool false,.int .i64 0,.str [],.own (.slice none 0 0) [],.own (.slice none 0 0) [],.own (.slice none 0 0) [],.own (.slice none 0 0) []]),(68,[.val (.pointer none),.own (.slice none 0 0) []]),(77,[.own (.slice none 0 0) [],.val (.pointer none),.own (.slice none 0 0) []]),(105,[.int .i64 0,.str [],.int .i64 0]),(107,[.val .nilFunc]),(146,[.str [],.str [],.str [],.str [],.str [],.str [],.str [],.str []]),(157,[.int .i64 0]),(166,[.own (.slice none 0 0) [],.int .i64 0]),(168,[.int .i64 0,.int .i64 0]),(224,[.int .u64 0]),(263,[.int .u64 0,.int .u64 0]),(265,[.int .u64 0,.int .u64 0,.bool false]),(305,[.str []])],[(29,[(0,1),(1,1),(2,1),(3,1),(4,1),(5,1)]),(31,[(0,1),(1,6)]),(34,[(0,1),(1,1)]),(37,[(0,1),(1,2)]),(54,[(0,1),(1,1),(2,6),(8,1),(9,1)]),(56,[(0,1),(1,1),(2,10)]),(105,[(0,1),(1,1),(2,1)]),(157,[(0,1)]),(166,[(0,1),(1,1)]),(168,[(0,1),(1,1)]),(265,[(0,2),(2,1)]),(305,[(0,1)])]⟩
instance iFA:FA Tryz.prog:={F:=FZ,ok:=⟨by kernel_rfl,by kernel_rfl,by kernel_rfl⟩,mix:=by kernel_rfl,es:=[(22,7),(25,3),(26,6),(27,1),(32,2),(45,1),(47,12),(52,10),(99,3),(127,7),(147,1),(187,1)],eok:=by kernel_rfl,sf:=[(147,32,1,24),(187,3,1,8),(22,31,7,104),(25,37,3,48),(26,29,6,88),(27,9,1,16),(32,34,2,32),(45,5,1,1),(47,56,12,184),(52,54,10,160),(99,105,3,32)],sok:=by kernel_rfl,bs:=[(45,5)],aq3:=by kernel_rfl,un:=[(173,.u64),(199,.u32),(201,.u64),(21,.i32),(224,.u64),(3,.i64),(5,.u8)],uok:=by kernel_rfl,ic:=[157,168,286,303],iok:=by kernel_rfl,bo:=[4],bok:=by kernel_rfl,pf:=[3,4,5,6,7,8,9,10,11,12,13,14,15,16,17,18,19,20,21,22,23,24,25,26,27,28,29,30,31,32,33,34,35,36,37,38,39,40,41,42,43,44,45,46,47,48,49,50,51,52,53,54,55,56,57,58,59,61,62,63,64,65,66,67,68,69,70,71,72,73,74,75,76,77,78,79,80,81,82,83,84,86,87,88,89,90,91,92,93,94,95,96,97,98,99,100,102,103,105,106,107,108,109,110,111,112,113,114,115,116,117,118,119,120,121,122,123,124,125,126,127,128,129,130,131,132,133,134,135,136,137,138,139,141,142,143,144,145,146,148,153,154,155,156,157,158,159,160,161,162,163,164,165,166,167,168,169,170,171,173,174,175,176,177,178,179,180,190,191,192,193,194,195,196,198,202,203,204,205,206,207,208,209,210,211,212,213,214,215,216,217,219,220,221,222,223,224,226,230,234,237,238,239,240,241,242,243,244,245,246,247,248,249,250,251,252,253,254,255,256,257,261,262,265,266,267,268,269,270,272,273,274,275,276,277,278,279,280,286,287,292,293,296,297,304,305,306,307,310],pk:=by kernel_rfl}
instance (l :List Str):ML (List.map kg l) l kg:=⟨rfl⟩
instance (l :List Int):ML (List.map acD l) l acD:=⟨rfl⟩
instance (l :List UInt8):ML (List.map iE l) l iE:=⟨rfl⟩
instance (l :List ah):ML (ah.bq l) l ah.cells:=⟨ah.bA l⟩
instance (l :List ah):ML (List.map ah.cells l) l ah.cells:=⟨rfl⟩
instance : CE ah.cells (fun x:ah=>[.int .i64 x.kind,.bool x.dZ,.int .i64 x.eB,.str x.bV,.list (ah.bq x.aO),.list (List.map kg x.keys)]):=⟨ah.aQ⟩
instance : Zd ah.cells 6:=⟨ah.fA,ah.cells_one⟩
instance : TC ah ah.cells:=⟨trivial⟩
instance (l :List aF):ML (List.map aF.cells l) l aF.cells:=⟨rfl⟩
instance : CE aF.cells (fun x:aF=>[.str x.name,.int .i64 x.value.kind,.bool x.value.dZ,.int .i64 x.value.eB,.str x.value.bV,.list (ah.bq x.value.aO),.list (List.map kg x.value.keys)]):=⟨aF.aQ⟩
instance : Zd aF.cells 7:=⟨aF.fA,aF.cells_one⟩
instance : TC aF aF.cells:=⟨trivial⟩
instance (l :List aA):ML (List.map aA.cells l) l aA.cells:=⟨rfl⟩
instance : CE aA.cells (fun x:aA=>[.int .i64 x.kind,.str x.text,.int .i64 x.at_]):=⟨aA.aQ⟩
instance : Zd aA.cells 3:=⟨aA.fA,aA.cells_one⟩
instance : TC aA aA.cells:=⟨trivial⟩
instance (l :List av):ML (List.map av.cells l) l av.cells:=⟨rfl⟩
instance : CE av.cells (fun x:av=>[.list (List.map aA.cells x.ts),.int .i64 x.at_]):=⟨av.aQ⟩
instance : Zd av.cells 2:=⟨av.fA,av.cells_one⟩
instance : TC av av.cells:=⟨trivial⟩
instance (l :List aB):ML (List.map aB.cells l) l aB.cells:=⟨rfl⟩
instance : CE aB.cells (fun x:aB=>[.int .i64 x.at_,.int .i64 x.code]):=⟨aB.aQ⟩
instance : Zd aB.cells 2:=⟨aB.fA,aB.cells_one⟩
instance : TC aB aB.cells:=⟨trivial⟩
instance (l :List ak):ML (ak.bq l) l ak.cells:=⟨ak.bA l⟩
instance (l :List ak):ML (List.map ak.cells l) l ak.cells:=⟨rfl⟩
instance : CE ak.cells (fun x:ak=>[.int .i64 x.kind,.str x.name,.int .i64 x.value.kind,.bool x.value.dZ,.int .i64 x.value.eB,.str x.value.bV,.list (ah.bq x.value.aO),.list (List.map kg x.value.keys),.list (ak.bq x.args),.list (List.map kg x.keys)]):=⟨ak.aQ⟩
instance : Zd ak.cells 10:=⟨ak.fA,ak.cells_one⟩
instance : TC ak ak.cells:=⟨trivial⟩
instance (l :List aS):ML (List.map aS.cells l) l aS.cells:=⟨rfl⟩
instance : CE aS.cells (fun x:aS=>[.str x.text,.bool x.VG,.int .i64 x.expr.kind,.str x.expr.name,.int .i64 x.expr.value.kind,.bool x.expr.value.dZ,.int .i64 x.expr.value.eB,.str x.expr.value.bV,.list (ah.bq x.expr.value.aO),.list (List.map kg x.expr.value.keys),.list (ak.bq x.expr.args),.list (List.map kg x.expr.keys)]):=⟨aS.aQ⟩
instance : Zd aS.cells 12:=⟨aS.fA,aS.cells_one⟩
instance : TC aS aS.cells:=⟨trivial⟩
instance (l :List aG):ML (List.map aG.cells l) l aG.cells:=⟨rfl⟩
instance : CE aG.cells (fun x:aG=>[.int .i64 x.code]):=⟨aG.aQ⟩
instance : Zd aG.cells 1:=⟨aG.fA,aG.cells_one⟩
instance : TC aG aG.cells:=⟨trivial⟩
instance (l :List fF):ML (List.map fF.cells l) l fF.cells:=⟨rfl⟩
instance : CE fF.cells (fun x:fF=>[.int .u64 ((x.half.getD 0 0).toNat:Int),.int .u64 ((x.half.getD 1 0).toNat:Int),.bool x.neg]):=⟨fF.aQ⟩
instance : Zd fF.cells 3:=⟨fF.fA,fF.cells_one⟩
instance : TC fF fF.cells:=⟨trivial⟩
instance (l :List ay):ML (ay.bq l) l ay.cells:=⟨ay.bA l⟩
instance (l :List ay):ML (List.map ay.cells l) l ay.cells:=⟨rfl⟩
instance : CE ay.cells (fun x:ay=>[.int .i64 x.kind,.list (ay.bq x.elem)]):=⟨ay.aQ⟩
instance : Zd ay.cells 2:=⟨ay.fA,ay.cells_one⟩
instance : TC ay ay.cells:=⟨trivial⟩
instance (l :List aT):ML (List.map aT.cells l) l aT.cells:=⟨rfl⟩
instance : CE aT.cells (fun x:aT=>[.str x.name,.int .i64 x.oM.kind,.list (ay.bq x.oM.elem)]):=⟨aT.aQ⟩
instance : Zd aT.cells 3:=⟨aT.fA,aT.cells_one⟩
instance : TC aT aT.cells:=⟨trivial⟩
instance : CE kg kg:=⟨fun _=>rfl⟩
instance : Zd kg 1:=⟨fun _=>rfl,fun _=>rfl⟩
instance : TC Str kg:=⟨trivial⟩
instance : CE acD acD:=⟨fun _=>rfl⟩
instance : Zd acD 1:=⟨fun _=>rfl,fun _=>rfl⟩
instance : TC Int acD:=⟨trivial⟩
instance : CE iE iE:=⟨fun _=>rfl⟩
instance : Zd iE 1:=⟨fun _=>rfl,fun _=>rfl⟩
instance : TC UInt8 iE:=⟨trivial⟩
instance : CE aeJ aeJ:=⟨fun _=>rfl⟩
instance : Zd aeJ 1:=⟨fun _=>rfl,fun _=>rfl⟩
instance : TC Bool aeJ:=⟨trivial⟩
theorem zP{m:Nat}(h:uE (FK.pf Tryz.prog) m=true):cO Tryz.prog m=true:=zO FK.pk h
theorem Z1{R:Type}{x:Option R}{e:R→dN}{m:Nat}{a:List PV}{fn:Func}{c:Code}{env:Env}(cf:Cf)(hp:uE (FK.pf Tryz.prog) m=true)(hf:Tryz.prog.funcs[m]?=some fn)(hb:fn.body=some c)(hn:fn.ntmps=cf.n)(hl:Nat.ble a.length cf.n=true)
    (ES:Abs.settle (List.range a.length) (vS 0 a)=some env) (h:∀r,WN Tryz.prog cf (.body fn.results.toList) R e (fun _=>[]) r (NX Tryz.prog cf (.body fn.results.toList) ⟨.w c [] env [],[]⟩) x:=by repeat' first|(show WN _ _ _ _ _ _ _ (NX _ _ _ _) _;conv=>arg @10;whnf)|intro _|exact KR.mk (by kernel_rfl)|exact KB.mk (by first|assumption|rfl)|constructor|rfl|simp only[jS,List.map,PV.weak,PV.yM,dN.ret.injEq,ah.aQ,ah.bA,ak.aQ,ak.bA,ay.aQ,ay.bA,PZ,bJ,tK,aP,aaB,aY]):CT Tryz.prog x e m a:=CT.of cf hp hf hb hn hl ES h
theorem Z2{R:Type}{x:Option R}{e:R→dN}{m:Nat}{a:Nat→List PV}{c0:List PV}{c1:R→List PV}{fn:Func}{c:Code}{env:Nat→Env}(cf:Cf)(i:Nat)(hp:uE (FK.pf Tryz.prog) m=true)(hf:Tryz.prog.funcs[m]?=some fn)(hb:fn.body=some c)(hn:fn.ntmps=cf.n)(hl:∀b,Nat.ble (a b).length cf.n=true)
    (ES:∀b,Abs.settle (List.range (a b).length) (vS 0 (a b))=some (env b)) (h:∀b r,WN Tryz.prog cf (.body fn.results.toList) R e (fun r=>[.box b (c1 r)]) r (NX Tryz.prog cf (.body fn.results.toList) ⟨.w c [] (env b) [.box b c0],[(i,0)]⟩) x:=by repeat' first|(show WN _ _ _ _ _ _ _ (NX _ _ _ _) _;conv=>arg @10;whnf)|intro _|exact KR.mk (by kernel_rfl)|exact KB.mk (by first|assumption|rfl)|constructor|rfl|simp only[jS,List.map,PV.weak,PV.yM,dN.ret.injEq,ah.aQ,ah.bA,ak.aQ,ak.bA,ay.aQ,ay.bA,PZ,bJ,tK,aP,aaB,aY]):CB Tryz.prog x e m a c0 c1:=CB.of cf i hp hf hb hn hl ES h
theorem Jf{b:Nat}{v p:Value}{bs:List UInt8}(hp:p=Value.pointer none∨p=.pointer (some ⟨b,0,none⟩)){R:dN→List aR→Prop}(h:R (.ret (.tuple [])) [.lZ b 68 [.val (.pointer (some ⟨b,0,none⟩)),.own v (bs.map iE)],.row v bs.length 1 5]):
    AC Tryz.prog 46 [.val (.pointer (some ⟨b,0,none⟩))] [.lZ b 68 [.val p,.own v (bs.map iE)],.row v bs.length 1 5] R:=by
  obtain⟨j,hj1,hj2⟩:=inB;rcases hp with rfl|rfl
  · skip
    refine AC.lD 20 [] [0] Tryz.func46 rfl rfl rfl rfl rfl ?_;refine AW.seq ?_;refine AW.region ?_;refine AR.step rfl rfl rfl (AO.calc' rfl ?_);refine AR.step rfl rfl rfl (AO.nilCheck rfl rfl ?_);refine AR.step rfl rfl rfl (AO.bR rfl rfl DJ ?_);refine AR.step rfl rfl rfl (AO.j4 (i:=0) rfl rfl rfl Nz rfl rfl ?_);refine AR.step rfl rfl rfl (AO.R5 rfl LP rfl rfl ?_);refine AR.nil [0,6] rfl ?_;refine AW.cond rfl (fun h1=>?_) (fun h1=>?_)
    ·refine AW.region ?_;refine AR.step rfl rfl rfl (AO.calc' rfl ?_);refine AR.step rfl rfl rfl (AO.calc' rfl ?_);refine AR.step rfl rfl rfl (AO.ae5 (i:=0) rfl LP X0 hj1 hj2 rfl rfl rfl ?_);refine AR.step rfl rfl rfl (AO.aap rfl rfl rfl rfl Tryz.func85 (by kernel_rfl) (by kernel_rfl) (by kernel_rfl) (by kernel_rfl) rfl ?_);refine AR.step rfl rfl rfl (AO.aaN (i:=0) rfl X0 LP hj1 rfl rfl rfl aqm ?_);refine AR.step rfl rfl rfl (AO.nilCheck rfl rfl ?_);refine AR.step rfl rfl rfl (AO.bR rfl rfl DJ ?_);refine AR.bZ rfl rfl (AO.sW (i:=0) rfl rfl rfl Nz rfl rfl rfl rfl rfl ?_);refine AR.nil [] rfl ?_;exact⟨rfl,[],rfl,_,List.Sublist.refl _,h⟩
    ·cases h1
  · skip
    refine AC.lD 20 [] [0] Tryz.func46 rfl rfl rfl rfl rfl ?_;refine AW.seq ?_;refine AW.region ?_;refine AR.step rfl rfl rfl (AO.calc' rfl ?_);refine AR.step rfl rfl rfl (AO.nilCheck rfl rfl ?_);refine AR.step rfl rfl rfl (AO.bR rfl rfl DJ ?_);refine AR.step rfl rfl rfl (AO.j4 (i:=0) rfl rfl rfl Nz rfl rfl ?_);refine AR.step rfl rfl rfl (AO.R5 rfl LP rfl rfl ?_);refine AR.nil [0,6] rfl ?_;refine AW.cond rfl (fun h1=>?_) (fun h1=>?_)
    ·cases h1
    · refine AW.seq ?_;refine AW.region ?_;refine AR.step rfl rfl rfl (AO.calc' rfl ?_);refine AR.step rfl rfl rfl (AO.nilCheck rfl rfl ?_);refine AR.step rfl rfl rfl (AO.bR rfl rfl DJ ?_);refine AR.step rfl rfl rfl (AO.j4 (i:=0) rfl rfl rfl Nz rfl rfl ?_);refine AR.step rfl rfl rfl (AO.calc' rfl ?_);refine AR.step rfl rfl rfl (AO.N8 rfl LP hj1 rfl rfl ?_);refine AR.nil [19] rfl ?_;refine AW.cond rfl (fun h2=>?_) (fun h2=>?_)
      ·cases h2
      ·refine AW.skip ?_;exact⟨rfl,[],rfl,_,List.Sublist.refl _,h⟩
theorem jl{b:Nat}{v:Value}{bs r:List UInt8}{c:UInt8}(hv:app bs [c]=some r){R:dN→List aR→Prop}(h:∀v',R (.ret (.val .nilIface)) [.Ng b v' 68 5 r]):AC Tryz.prog 28 [.val (.pointer (some ⟨b,0,none⟩)),.int .u8 (c.toNat:Int)] [.Ng b v 68 5 bs] R:=by
  refine AC.Ng fun p hp hroom=>?_;refine AC.lD 17 [.tmp 4] [0,1] Tryz.func28 rfl rfl rfl rfl rfl ?_;refine AW.seq ?_;refine AW.region ?_;refine AR.step rfl rfl rfl (AO.calc' rfl ?_);refine AR.nil [0,1] rfl ?_;refine AW.seq ?_;refine AW.region ?_;refine AR.step rfl rfl rfl (AO.calc' rfl ?_);refine AR.step rfl rfl rfl (AO.call rfl _ rfl rfl ahY (Jf hp ?_));refine AR.nil [0,1] rfl ?_;refine AW.seq ?_;refine AW.region ?_;refine AR.step rfl rfl rfl (AO.calc' rfl ?_);refine AR.step rfl rfl rfl (AO.calc' rfl ?_);refine AR.step rfl rfl rfl (AO.nilCheck rfl rfl ?_);refine AR.step rfl rfl rfl (AO.bR rfl rfl wH ?_);refine AR.step rfl rfl rfl (AO.j4 (i:=0) rfl rfl rfl Gt rfl rfl ?_);refine AR.step rfl rfl rfl (AO.calc' rfl ?_);refine AR.step rfl rfl rfl (AO.buildSlice rfl WT rfl rfl rfl ?_);refine AR.step rfl rfl rfl (AO.Qp (i:=1) hv rfl rfl rfl rfl rfl (Mi.list rfl Xx (by simp[iE]) (by simp[iE,PV.one])) rfl WT (fun v' s1 hs1 hr1=>?_));cases hs1;refine AR.step rfl rfl rfl (AO.nilCheck rfl rfl ?_);refine AR.step rfl rfl rfl (AO.bR rfl rfl wH ?_);refine AR.bZ rfl rfl (AO.sW (i:=0) rfl rfl rfl Gt rfl rfl rfl rfl rfl ?_);refine AR.nil [1] rfl ?_;refine AW.seq ?_;refine AW.region ?_;refine AR.step rfl rfl rfl (AO.calc' rfl ?_);refine AR.nil [4] rfl ?_;refine AW.ret ?_;exact⟨rfl,_,⟨_,_,rfl,rfl,rfl⟩,_,List.Sublist.refl _,_,v',r,rfl,.inr rfl,hr1 hroom,h v'⟩
theorem nM{b:Nat}{v:Value}{bs r s:List UInt8}(hv:app bs s=some r){R:dN→List aR→Prop}(h:∀v',R (.ret (.tuple [.int .i64 (s.length:Int),.val .nilIface])) [.Ng b v' 68 5 r]):AC Tryz.prog 22 [.val (.pointer (some ⟨b,0,none⟩)),.str s] [.Ng b v 68 5 bs] R:=by
  refine AC.Ng fun p hp hroom=>?_;refine AC.lD 19 [.tmp 4,.tmp 5] [0,1] Tryz.func22 rfl rfl rfl rfl rfl ?_;refine AW.seq ?_;refine AW.region ?_;refine AR.step rfl rfl rfl (AO.calc' rfl ?_);refine AR.step rfl rfl rfl (AO.calc' rfl ?_);refine AR.nil [0,1] rfl ?_;refine AW.seq ?_;refine AW.region ?_;refine AR.step rfl rfl rfl (AO.calc' rfl ?_);refine AR.step rfl rfl rfl (AO.call rfl _ rfl rfl ahY (Jf hp ?_));refine AR.nil [0,1] rfl ?_;refine AW.seq ?_;refine AW.region ?_;refine AR.step rfl rfl rfl (AO.calc' rfl ?_);refine AR.step rfl rfl rfl (AO.calc' rfl ?_);refine AR.step rfl rfl rfl (AO.nilCheck rfl rfl ?_);refine AR.step rfl rfl rfl (AO.bR rfl rfl wH ?_);refine AR.step rfl rfl rfl (AO.j4 (i:=0) rfl rfl rfl Gt rfl rfl ?_);refine AR.step rfl rfl rfl (AO.calc' rfl ?_);refine AR.step rfl rfl rfl (AO.Qp (i:=1) hv rfl rfl rfl rfl rfl (Mi.str uN) rfl WT (fun v' s1 hs1 hr1=>?_));cases hs1;refine AR.step rfl rfl rfl (AO.nilCheck rfl rfl ?_);refine AR.step rfl rfl rfl (AO.bR rfl rfl wH ?_);refine AR.bZ rfl rfl (AO.sW (i:=0) rfl rfl rfl Gt rfl rfl rfl rfl rfl ?_);refine AR.nil [1] rfl ?_;refine AW.seq ?_;refine AW.region ?_;refine AR.step rfl rfl rfl (AO.calc' rfl ?_);refine AR.step rfl rfl rfl (AO.wF rfl rfl rfl rfl uN rfl ?_);refine AR.step rfl rfl rfl (AO.calc' rfl ?_);refine AR.step rfl rfl rfl (AO.calc' rfl ?_);refine AR.nil [4,5] rfl ?_;refine AW.ret ?_;exact⟨rfl,_,⟨_,_,rfl,rfl,_,_,rfl,rfl,rfl⟩,_,List.Sublist.refl _,_,v',r,rfl,.inr rfl,hr1 hroom,h v'⟩
theorem XE{b:Nat}{v:Value}{bs:List UInt8}{R:dN→List aR→Prop}(h:R (.ret (.int .i64 (bs.length:Int))) [.Ng b v 68 5 bs]):AC Tryz.prog 23 [.val (.pointer (some ⟨b,0,none⟩))] [.Ng b v 68 5 bs] R:=by
  refine AC.Ng fun p hp hroom=>?_;refine AC.lD 8 [.tmp 2] [0] Tryz.func23 rfl rfl rfl rfl rfl ?_;refine AW.seq ?_;refine AW.region ?_;refine AR.step rfl rfl rfl (AO.calc' rfl ?_);refine AR.nil [0] rfl ?_;refine AW.seq ?_;refine AW.region ?_;refine AR.step rfl rfl rfl (AO.calc' rfl ?_);refine AR.step rfl rfl rfl (AO.nilCheck rfl rfl ?_);refine AR.step rfl rfl rfl (AO.bR rfl rfl wH ?_);refine AR.step rfl rfl rfl (AO.j4 (i:=0) rfl rfl rfl Gt rfl rfl ?_);refine AR.step rfl rfl rfl (AO.fU (l:=bs) rfl rfl rfl rfl Xx rfl rfl ?_);refine AR.step rfl rfl rfl (AO.calc' rfl ?_);refine AR.nil [2] rfl ?_;refine AW.ret ?_;exact⟨rfl,_,⟨_,_,rfl,rfl,rfl⟩,_,List.Sublist.refl _,p,v,bs,rfl,hp,hroom,h⟩
theorem Ah{b:Nat}{v:Value}{bs:List UInt8}{R:dN→List aR→Prop}(h:R (.ret (.str bs)) []):AC Tryz.prog 24 [.val (.pointer (some ⟨b,0,none⟩))] [.Ng b v 68 5 bs] R:=by
  refine AC.al2 fun p hroom=>?_;refine AC.lD 14 [.tmp 2] [0] Tryz.func24 rfl rfl rfl rfl rfl ?_;refine AW.seq ?_;refine AW.region ?_;refine AR.step rfl rfl rfl (AO.calc' rfl ?_);refine AR.nil [0] rfl ?_;refine AW.seq ?_;refine AW.draw 10 mixed (by kernel_rfl) rfl ?_;refine Ev.cons rfl rfl rfl (AO.calc' rfl ⟨rfl,rfl⟩) ?_;refine Ev.cons rfl rfl rfl (AO.nilCheck rfl rfl ⟨rfl,rfl⟩) ?_;refine Ev.cons rfl rfl rfl (AO.bR rfl rfl wH ⟨rfl,rfl⟩) ?_;refine Ev.cons rfl rfl rfl (AO.j4 (i:=0) rfl rfl rfl Gt rfl rfl ⟨rfl,rfl⟩) ?_;refine Ev.cons rfl rfl rfl (AO.sliceData rfl rfl rfl rfl hroom ⟨rfl,rfl⟩) ?_;refine Ev.cons rfl rfl rfl (AO.calc' rfl ⟨rfl,rfl⟩) ?_;refine Ev.cons rfl rfl rfl (AO.nilCheck rfl rfl ⟨rfl,rfl⟩) ?_;refine Ev.cons rfl rfl rfl (AO.bR rfl rfl wH ⟨rfl,rfl⟩) ?_;refine Ev.cons rfl rfl rfl (AO.j4 (i:=0) rfl rfl rfl Gt rfl rfl ⟨rfl,rfl⟩) ?_;refine Ev.cons rfl rfl rfl (AO.fU (l:=bs) rfl rfl rfl rfl Xx rfl rfl ⟨rfl,rfl⟩) ?_;refine Ev.nil ?_;show AR _ _ _ _ _ _ _ _;refine AR.step rfl rfl rfl (AO.unsafeString rfl rfl rfl rfl amt aqV rfl rfl rfl ?_);refine AR.step rfl rfl rfl (AO.calc' rfl ?_);refine AR.nil [2] rfl ?_;refine AW.ret ?_;exact⟨rfl,_,⟨_,_,rfl,rfl,rfl⟩,[],aup _,h⟩
theorem UO{b:Nat}{q:PV}{v p:Value}{bs:List UInt8}(hp:p=Value.pointer none∨p=.pointer (some ⟨b,1,none⟩)){R:dN→List aR→Prop}(h:R (.ret (.tuple [])) [.row v (List.length bs) 1 5,.lZ b 77 [q,.val (.pointer (some ⟨b,1,none⟩)),.own v (List.map iE bs)]]):
    AC Tryz.prog 46 [.val (.pointer (some ⟨b,1,none⟩))] [.row v (List.length bs) 1 5,.lZ b 77 [q,.val p,.own v (List.map iE bs)]] R:=by
  obtain⟨j,hj1,hj2⟩:=inB;rcases hp with rfl|rfl
  · skip
    refine AC.lD 20 [] [0] Tryz.func46 rfl rfl rfl rfl rfl ?_;refine AW.seq ?_;refine AW.region ?_;refine AR.step rfl rfl rfl (AO.calc' rfl ?_);refine AR.step rfl rfl rfl (AO.nilCheck rfl rfl ?_);refine AR.step rfl rfl rfl (AO.bR rfl rfl DJ ?_);refine AR.step rfl rfl rfl (AO.j4 (i:=1) rfl rfl rfl Nz rfl rfl ?_);refine AR.step rfl rfl rfl (AO.R5 rfl LP rfl rfl ?_);refine AR.nil [0,6] rfl ?_;refine AW.cond rfl (fun h1=>?_) (fun h1=>?_)
    ·refine AW.region ?_;refine AR.step rfl rfl rfl (AO.calc' rfl ?_);refine AR.step rfl rfl rfl (AO.calc' rfl ?_);refine AR.step rfl rfl rfl (AO.abV (i:=1) (n:=1) rfl LP X0 hj1 hj2 rfl rfl rfl ?_);refine AR.step rfl rfl rfl (AO.aap rfl rfl rfl rfl Tryz.func85 (by kernel_rfl) (by kernel_rfl) (by kernel_rfl) (by kernel_rfl) rfl ?_);refine AR.step rfl rfl rfl (AO.YL (i:=1) rfl X0 LP hj1 rfl rfl rfl aql ?_);refine AR.step rfl rfl rfl (AO.nilCheck rfl rfl ?_);refine AR.step rfl rfl rfl (AO.bR rfl rfl DJ ?_);refine AR.bZ rfl rfl (AO.sW (i:=1) rfl rfl rfl Nz rfl rfl rfl rfl rfl ?_);refine AR.nil [] rfl ?_;exact⟨rfl,[],rfl,_,List.Sublist.refl _,h⟩
    ·cases h1
  · skip
    refine AC.lD 20 [] [0] Tryz.func46 rfl rfl rfl rfl rfl ?_;refine AW.seq ?_;refine AW.region ?_;refine AR.step rfl rfl rfl (AO.calc' rfl ?_);refine AR.step rfl rfl rfl (AO.nilCheck rfl rfl ?_);refine AR.step rfl rfl rfl (AO.bR rfl rfl DJ ?_);refine AR.step rfl rfl rfl (AO.j4 (i:=1) rfl rfl rfl Nz rfl rfl ?_);refine AR.step rfl rfl rfl (AO.R5 rfl LP rfl rfl ?_);refine AR.nil [0,6] rfl ?_;refine AW.cond rfl (fun h1=>?_) (fun h1=>?_)
    ·cases h1
    · refine AW.seq ?_;refine AW.region ?_;refine AR.step rfl rfl rfl (AO.calc' rfl ?_);refine AR.step rfl rfl rfl (AO.nilCheck rfl rfl ?_);refine AR.step rfl rfl rfl (AO.bR rfl rfl DJ ?_);refine AR.step rfl rfl rfl (AO.j4 (i:=1) rfl rfl rfl Nz rfl rfl ?_);refine AR.step rfl rfl rfl (AO.calc' rfl ?_);refine AR.step rfl rfl rfl (AO.N8 rfl LP hj1 rfl rfl ?_);refine AR.nil [19] rfl ?_;refine AW.cond rfl (fun h2=>?_) (fun h2=>?_)
      ·cases h2
      ·refine AW.skip ?_;exact⟨rfl,[],rfl,_,List.Sublist.refl _,h⟩
theorem KH{b:Nat}{q:PV}{v p:Value}{bs r:List UInt8}(hp:p=Value.pointer none∨p=.pointer (some ⟨b,1,none⟩))(hroom:roomy v=true){c:UInt8}(hv:app bs [c]=some r){R:dN→List aR→Prop}(h:∀v',roomy v'=true→R (.ret (.val .nilIface)) [.row v' (List.length r) 1 5,.lZ b 77 [q,.val (.pointer (some ⟨b,1,none⟩)),.own v' (List.map iE r)]]):AC Tryz.prog 28 [.val (.pointer (some ⟨b,1,none⟩)),.int .u8 (c.toNat:Int)] [.row v (List.length bs) 1 5,.lZ b 77 [q,.val p,.own v (List.map iE bs)]] R:=by
  refine AC.lD 17 [.tmp 4] [0,1] Tryz.func28 rfl rfl rfl rfl rfl ?_;refine AW.seq ?_;refine AW.region ?_;refine AR.step rfl rfl rfl (AO.calc' rfl ?_);refine AR.nil [0,1] rfl ?_;refine AW.seq ?_;refine AW.region ?_;refine AR.step rfl rfl rfl (AO.calc' rfl ?_);refine AR.step rfl rfl rfl (AO.call rfl _ rfl rfl ahY (UO hp ?_));refine AR.nil [0,1] rfl ?_;refine AW.seq ?_;refine AW.region ?_;refine AR.step rfl rfl rfl (AO.calc' rfl ?_);refine AR.step rfl rfl rfl (AO.calc' rfl ?_);refine AR.step rfl rfl rfl (AO.nilCheck rfl rfl ?_);refine AR.step rfl rfl rfl (AO.bR rfl rfl wH ?_);refine AR.step rfl rfl rfl (AO.j4 (i:=1) rfl rfl rfl Gt rfl rfl ?_);refine AR.step rfl rfl rfl (AO.calc' rfl ?_);refine AR.step rfl rfl rfl (AO.buildSlice rfl WT rfl rfl rfl ?_);refine AR.step rfl rfl rfl (AO.Qp (i:=0) hv rfl rfl rfl rfl rfl (Mi.list rfl Xx (by simp[iE]) (by simp[iE,PV.one])) rfl WT (fun v' s1 hs1 hr1=>?_));cases hs1;refine AR.step rfl rfl rfl (AO.nilCheck rfl rfl ?_);refine AR.step rfl rfl rfl (AO.bR rfl rfl wH ?_);refine AR.bZ rfl rfl (AO.sW (i:=1) rfl rfl rfl Gt rfl rfl rfl rfl rfl ?_);refine AR.nil [1] rfl ?_;refine AW.seq ?_;refine AW.region ?_;refine AR.step rfl rfl rfl (AO.calc' rfl ?_);refine AR.nil [4] rfl ?_;refine AW.ret ?_;exact⟨rfl,_,⟨_,_,rfl,rfl,rfl⟩,_,List.Sublist.refl _,h v' (hr1 hroom)⟩
theorem ajq{b:Nat}{q:PV}{v p:Value}{bs:List UInt8}{R:dN→List aR→Prop}(h:R (.ret (.int .i64 (bs.length:Int))) [.row v (List.length bs) 1 5,.lZ b 77 [q,.val p,.own v (List.map iE bs)]]):AC Tryz.prog 23 [.val (.pointer (some ⟨b,1,none⟩))] [.row v (List.length bs) 1 5,.lZ b 77 [q,.val p,.own v (List.map iE bs)]] R:=by
  refine AC.lD 8 [.tmp 2] [0] Tryz.func23 rfl rfl rfl rfl rfl ?_;refine AW.seq ?_;refine AW.region ?_;refine AR.step rfl rfl rfl (AO.calc' rfl ?_);refine AR.nil [0] rfl ?_;refine AW.seq ?_;refine AW.region ?_;refine AR.step rfl rfl rfl (AO.calc' rfl ?_);refine AR.step rfl rfl rfl (AO.nilCheck rfl rfl ?_);refine AR.step rfl rfl rfl (AO.bR rfl rfl wH ?_);refine AR.step rfl rfl rfl (AO.j4 (i:=1) rfl rfl rfl Gt rfl rfl ?_);refine AR.step rfl rfl rfl (AO.fU (l:=bs) rfl rfl rfl rfl Xx rfl rfl ?_);refine AR.step rfl rfl rfl (AO.calc' rfl ?_);refine AR.nil [2] rfl ?_;refine AW.ret ?_;exact⟨rfl,_,⟨_,_,rfl,rfl,rfl⟩,_,List.Sublist.refl _,h⟩
theorem abe{b:Nat}{q:PV}{v p:Value}{bs:List UInt8}(hroom:roomy v=true){R:dN→List aR→Prop}(h:R (.ret (.str bs)) [.lZ b 77 [q,.val p,.own v (List.map iE bs)]]):AC Tryz.prog 24 [.val (.pointer (some ⟨b,1,none⟩))] [.row v (List.length bs) 1 5,.lZ b 77 [q,.val p,.own v (List.map iE bs)]] R:=by
  refine AC.lD 14 [.tmp 2] [0] Tryz.func24 rfl rfl rfl rfl rfl ?_;refine AW.seq ?_;refine AW.region ?_;refine AR.step rfl rfl rfl (AO.calc' rfl ?_);refine AR.nil [0] rfl ?_;refine AW.seq ?_;refine AW.draw 10 mixed (by kernel_rfl) rfl ?_;refine Ev.cons rfl rfl rfl (AO.calc' rfl ⟨rfl,rfl⟩) ?_;refine Ev.cons rfl rfl rfl (AO.nilCheck rfl rfl ⟨rfl,rfl⟩) ?_;refine Ev.cons rfl rfl rfl (AO.bR rfl rfl wH ⟨rfl,rfl⟩) ?_;refine Ev.cons rfl rfl rfl (AO.j4 (i:=1) rfl rfl rfl Gt rfl rfl ⟨rfl,rfl⟩) ?_;refine Ev.cons rfl rfl rfl (AO.sliceData rfl rfl rfl rfl hroom ⟨rfl,rfl⟩) ?_;refine Ev.cons rfl rfl rfl (AO.calc' rfl ⟨rfl,rfl⟩) ?_;refine Ev.cons rfl rfl rfl (AO.nilCheck rfl rfl ⟨rfl,rfl⟩) ?_;refine Ev.cons rfl rfl rfl (AO.bR rfl rfl wH ⟨rfl,rfl⟩) ?_;refine Ev.cons rfl rfl rfl (AO.j4 (i:=1) rfl rfl rfl Gt rfl rfl ⟨rfl,rfl⟩) ?_;refine Ev.cons rfl rfl rfl (AO.fU (l:=bs) rfl rfl rfl rfl Xx rfl rfl ⟨rfl,rfl⟩) ?_;refine Ev.nil ?_;show AR _ _ _ _ _ _ _ _;refine AR.step rfl rfl rfl (AO.Vv rfl rfl rfl rfl amt aqV rfl rfl rfl ?_);refine AR.step rfl rfl rfl (AO.calc' rfl ?_);refine AR.nil [2] rfl ?_;refine AW.ret ?_;exact⟨rfl,_,⟨_,_,rfl,rfl,rfl⟩,_,List.Sublist.refl _,h⟩
theorem UQ{b:Nat}{q:PV}{v p:Value}{bs:List UInt8}{R:dN→List aR→Prop}(h:R (.ret (.tuple [])) [.lZ b 77 [q,.val (.pointer none),.own (.slice none 0 0) (List.map iE [])]]):AC Tryz.prog 56 [.val (.pointer (some ⟨b,1,none⟩))] [.lZ b 77 [q,.val p,.own v (List.map iE bs)]] R:=by
  refine AC.lD 8 [] [0] Tryz.func56 rfl rfl rfl rfl rfl ?_;refine AW.seq ?_;refine AW.region ?_;refine AR.step rfl rfl rfl (AO.calc' rfl ?_);refine AR.step rfl rfl rfl (AO.nilCheck rfl rfl ?_);refine AR.step rfl rfl rfl (AO.bR rfl rfl DJ ?_);refine AR.bZ rfl rfl (AO.sW (i:=0) rfl rfl rfl Nz rfl rfl rfl rfl rfl ?_);refine AR.nil [0] rfl ?_;refine AW.region ?_;refine AR.step rfl rfl rfl (AO.calc' rfl ?_);refine AR.step rfl rfl rfl (AO.nilCheck rfl rfl ?_);refine AR.step rfl rfl rfl (AO.bR rfl rfl wH ?_);refine AR.bZ rfl rfl (AO.sW (i:=0) rfl rfl rfl Gt rfl rfl rfl rfl rfl ?_);refine AR.nil [] rfl ?_;exact⟨rfl,[],rfl,_,List.Sublist.refl _,h⟩
instance amg(c1:UInt8):CT Tryz.prog (AL c1) (fun r=>.ret (.bool r)) 47 [.int .u8 (c1.toNat:Int)]:=by
  unfold AL;exact Z1 ⟨21,[],[]⟩ Z Tryz.func47 Z Z Z Z
instance ank(c1:UInt8):CT Tryz.prog (qx c1) (fun r=>.ret (.bool r)) 48 [.int .u8 (c1.toNat:Int)]:=by
  unfold qx;exact Z1 ⟨9,[],[]⟩ Z Tryz.func48 Z Z Z Z
instance (s1 :Str) (n_ ku):LE (Cb s1 n_ ku) (fun j p=>Cb s1 j p) n_ ku [] [] [] [0] (fun v w p=>[(3,iP p)]) (fun v w p s=>s):=⟨Z⟩
instance aoT(s1:Str):CT Tryz.prog (Gy s1) (fun r=>.ret (.bool r)) 25 [.str s1]:=by
  unfold Gy;exact Z1 ⟨34,[],[]⟩ Z Tryz.func25 Z Z Z Z
instance anj(s1:Str):CT Tryz.prog (qw s1) (fun r=>.ret (.bool r)) 9 [.str s1]:=by
  unfold qw;exact Z1 ⟨17,[],[]⟩ Z Tryz.func9 Z Z Z Z
instance ano(v1:ah):CT Tryz.prog (GA v1) (fun r=>.ret (.bool r)) 49 [.agg (aP v1)]:=by
  unfold GA;exact Z1 ⟨53,[],[]⟩ Z Tryz.func49 Z Z Z Z
instance apf(s1:Str):CT Tryz.prog (NV s1) (fun r=>.ret (.bool r)) 86 [.str s1]:=by
  unfold NV;exact Z1 ⟨11,[],[]⟩ Z Tryz.func86 Z Z Z Z
instance ant(ad_:Bool)(Ou:Bool):CT Tryz.prog (wz ad_ Ou) (fun r=>.ret (iP r)) 128 [.bool ad_,.bool Ou]:=by
  unfold wz;exact Z1 ⟨7,[],[]⟩ Z Tryz.func128 Z Z Z Z
instance anu(c1:UInt8):CT Tryz.prog (Ec c1) (fun r=>.ret (.bool r)) 129 [.int .u8 (c1.toNat:Int)]:=by
  unfold Ec;exact Z1 ⟨9,[],[]⟩ Z Tryz.func129 Z Z Z Z
instance (s1 :Str) (n_ ku):LE (EK s1 n_ ku) (fun j p=>EK s1 j p) n_ ku [] [] [] [0] (fun v w p=>[(1,iP p)]) (fun v w p s=>s):=⟨Z⟩
instance apg(s1:Str)(dP:Int):CT Tryz.prog (NZ s1 dP) (fun r=>.ret (iP r)) 130 [.str s1,iP dP]:=by
  unfold NZ;exact Z1 ⟨18,[],[]⟩ Z Tryz.func130 Z Z Z Z
instance (s1 :Str) (n_ ku):LE (wu s1 n_ ku) (fun j p=>wu s1 j p) n_ ku [] [] [] [0] (fun v w p=>[(3,iP p)]) (fun v w p s=>s):=⟨Z⟩
instance anr(s1:Str):CT Tryz.prog (Eb s1) (fun r=>.ret (.str r)) 173 [.str s1]:=by
  unfold Eb;exact Z1 ⟨19,[],[]⟩ Z Tryz.func173 Z Z Z Z
instance aoW(a1:Str)(b1:Str):CT Tryz.prog (JY a1 b1) (fun r=>.ret (iP r)) 131 [.str a1,.str b1]:=by
  unfold JY;exact Z1 ⟨48,[],[]⟩ Z Tryz.func131 Z Z Z Z
instance (a1 :Str) (b1:Str) (n_ ku Ao):LE (ny a1 b1 n_ ku Ao) (fun j p=>ny a1 b1 j p.1 p.2) n_ (ku,Ao) [] [] [] [0,1] (fun v w p=>[(5,iP p.1),(6,iP p.2)]) (fun v w p s=>s):=⟨Z⟩
instance akk(a1:Str)(b1:Str):CT Tryz.prog (qE a1 b1) (fun r=>.ret (iP r)) 87 [.str a1,.str b1]:=by
  unfold qE;exact Z1 ⟨78,[],[]⟩ Z Tryz.func87 Z Z Z Z
instance (v1 :ah) (n_ ku):LE (o8 v1 n_ ku) (fun j p=>o8 v1 j p) n_ ku [] [] [] [1] (fun v w p=>[(3,iP p)]) (fun v w p s=>s):=⟨Z⟩
instance agQ(v1:ah):CT Tryz.prog (w_ v1) (fun r=>.ret (.bool r)) 50 [.agg (aP v1)]:=by
  unfold w_;exact Z1 ⟨44,[],[]⟩ Z Tryz.func50 Z Z Z Z
section
variable (oH : ah → Int → Option Int) [akc : ∀(nS : ah) (gI : Int), CT Tryz.prog (oH nS gI) (fun r => .ret (iP r)) 26 [.agg (aP nS), iP gI]]
instance (v1 :ah) (bM:Int) (n_ ku):LE (zB oH v1 bM n_ ku) (fun j p=>zB oH v1 bM j p) n_ ku [] [] [] [1,2] (fun v w p=>[(5,iP p)]) (fun v w p s=>s):=⟨Z⟩
instance V4(v1:ah)(bM:Int):CT Tryz.prog (FJ oH v1 bM) (fun r=>.ret (iP r)) 26 [.agg (aP v1),iP bM]:=by
  unfold FJ;exact Z1 ⟨85,[],[]⟩ Z Tryz.func26 Z Z Z Z
end
theorem Q9:∀k:Nat,(∀(nS:ah) (gI:Int),CT Tryz.prog (vo k nS gI) (fun r=>.ret (iP r)) 26 [.agg (aP nS),iP gI])
  | 0=>fun _ _=>CT.none Z
  | k+1=>by
    obtain (i0):=Q9 k;exact fun nS gI=>V4 _ nS gI
instance anp(nS:ah)(gI:Int):CT Tryz.prog (PI nS gI) (fun r=>.ret (iP r)) 26 [.agg (aP nS),iP gI]:=(Q9 BIG) nS gI
instance anq(v1:ah):CT Tryz.prog (yT v1) (fun r=>.ret (iP r)) 10 [.agg (aP v1)]:=by
  unfold yT;exact Z1 ⟨5,[],[]⟩ Z Tryz.func10 Z Z Z Z
instance (dJ :List aF) (n_ ku):LE (yu dJ n_ ku) (fun j p=>yu dJ j p) n_ ku [] [] [] [0] (fun v w p=>[(3,iP p)]) (fun v w p s=>s):=⟨Z⟩
instance (dJ :List aF) (i1:Int) (xC:Int→Option Int) (n_ ku):LE (AJ dJ i1 xC n_ ku) (fun j p=>AJ dJ i1 xC j p) n_ ku [] [] [] [0,3] (fun v w p=>[(5,iP p)]) (fun v w p s=>s):=⟨Z⟩
instance ape(dJ:List aF):CT Tryz.prog (NS dJ) (fun r=>.ret (iP r)) 4 [.list (List.map aF.cells dJ)]:=by
  unfold NS;exact Z1 ⟨47,[],[]⟩ Z Tryz.func4 Z Z Z Z
instance Va:CT Tryz.prog (Ol) (fun r=>.ret (.str r)) 11 []:=by
  unfold Ol;exact Z1 ⟨3,[],[]⟩ Z Tryz.func11 Z Z Z Z
instance Vr(s1:Str)(zC:Str):CT Tryz.prog (nJ s1 zC) (fun r=>.ret (.bool r)) 51 [.str s1,.str zC]:=by
  unfold nJ;exact Z1 ⟨18,[],[]⟩ Z Tryz.func51 Z Z Z Z
instance Db(s1:Str)(zC:Str):CT Tryz.prog (strings_HasPrefix s1 zC) (fun r=>.ret (.bool r)) 27 [.str s1,.str zC]:=by
  unfold strings_HasPrefix;exact Z1 ⟨8,[],[]⟩ Z Tryz.func27 Z Z Z Z
instance (s1 :Str) (n_ ku):LE (mU s1 n_ ku) (fun j p=>mU s1 j p) n_ ku [] [] [] [0] (fun v w p=>[(5,iP p)]) (fun v w p s=>s):=⟨Z⟩
instance agT(s1:Str)(dP:Int):CT Tryz.prog (BF s1 dP) (fun r=>.ret (iP r)) 52 [.str s1,iP dP]:=by
  unfold BF;exact Z1 ⟨27,[],[]⟩ Z Tryz.func52 Z Z Z Z
instance (s1 :Str) (n_ ku Ao):LE (iy s1 n_ ku Ao) (fun j p=>iy s1 j p.1 p.2) n_ (ku,Ao) [] [] [] [0] (fun v w p=>[(1,iP p.1),(5,iP p.2)]) (fun v w p s=>s):=⟨Z⟩
instance Qz(s1:Str)(dP:Int):CT Tryz.prog (zS s1 dP) (fun r=>.ret (iP r)) 29 [.str s1,iP dP]:=by
  unfold zS;exact Z1 ⟨31,[],[]⟩ Z Tryz.func29 Z Z Z Z
instance Qy(qD:Int):CT Tryz.prog (zR qD) (fun r=>.ret (.bool r)) 88 [.int .i32 qD]:=by
  unfold zR;exact Z1 ⟨9,[],[]⟩ Z Tryz.func88 Z Z Z Z
instance (s1 :Str) (Ab:UInt8→Option Bool) (n_ ku):LE (rY s1 Ab n_ ku) (fun j p=>rY s1 Ab j p) n_ ku [] [] [] [0,2] (fun v w p=>[(1,iP p)]) (fun v w p s=>s):=⟨Z⟩
instance aks(s1:Str)(dP:Int)(Ab:UInt8→Option Bool){IL:FuncId}{Ll:List PV}[arx:CF1 Tryz.prog Ab (fun a0=>.int .u8 (a0.toNat:Int)) (fun b0=>.ret (.bool b0)) IL Ll]:CT Tryz.prog (vB s1 dP Ab) (fun r=>.ret (iP r)) 89 [.str s1,iP dP,.fn IL Ll]:=by
  unfold vB;exact Z1 ⟨21,[],[]⟩ Z Tryz.func89 Z Z Z Z
theorem VU(s1:Str)(dP:Int)(Ab:UInt8→Option Bool)(IL:FuncId)(Ll:List PV)(alV:cO Tryz.prog IL=true)(alW:∀a0 b0,Ab a0=some b0→∀ {τ:List aR} {Q:dN→List aR→Prop},Q (.ret (.bool b0)) τ→AC Tryz.prog IL ([.int .u8 (a0.toNat:Int)]++Ll) τ Q){r0:Int}(hf:vB s1 dP Ab=some r0){τ:List aR}{Q:dN→List aR→Prop}(h:Q (.ret (iP r0)) τ):AC Tryz.prog 89 [.str s1,iP dP,.fn IL Ll] τ Q:=letI:CF1 Tryz.prog Ab (fun a0=>.int .u8 (a0.toNat:Int)) (fun b0=>.ret (.bool b0)) IL Ll:=⟨fun a=>⟨alV,fun {r} hx {τ Q} h=>alW a r hx h⟩⟩;CT.h hf h
instance Hy(c1:UInt8):CT Tryz.prog (r9 c1) (fun r=>.ret (.bool r)) 90 [.int .u8 (c1.toNat:Int)]:=by
  unfold r9;exact Z1 ⟨5,[],[]⟩ Z Tryz.func90 Z Z Z Z
instance : CF1 Tryz.prog r9 (fun c1=>.int .u8 (c1.toNat:Int)) (fun r=>.ret (.bool r)) 90 []:=⟨fun x0=>Hy x0⟩
instance ajQ(c1:UInt8):CT Tryz.prog (tJ c1) (fun r=>.ret (.bool r)) 132 [.int .u8 (c1.toNat:Int)]:=by
  unfold tJ;exact Z1 ⟨21,[],[]⟩ Z Tryz.func132 Z Z Z Z
instance V8(c1:UInt8):CT Tryz.prog (sO c1) (fun r=>.ret (.bool r)) 134 [.int .u8 (c1.toNat:Int)]:=by
  unfold sO;exact Z1 ⟨9,[],[]⟩ Z Tryz.func134 Z Z Z Z
instance : CF1 Tryz.prog sO (fun c1=>.int .u8 (c1.toNat:Int)) (fun r=>.ret (.bool r)) 134 []:=⟨fun x0=>V8 x0⟩
instance U_(c1:UInt8):CT Tryz.prog (wD c1) (fun r=>.ret (.bool r)) 174 [.int .u8 (c1.toNat:Int)]:=by
  unfold wD;exact Z1 ⟨9,[],[]⟩ Z Tryz.func174 Z Z Z Z
instance : CF1 Tryz.prog wD (fun c1=>.int .u8 (c1.toNat:Int)) (fun r=>.ret (.bool r)) 174 []:=⟨fun x0=>U_ x0⟩
instance amj(bU:Str)(dP:Int):CT Tryz.prog (EP bU dP) (fun r=>.ret (.tuple [.agg (yX r.1),iP r.2.1,iP r.2.2])) 133 [.str bU,iP dP]:=by
  unfold EP;exact Z1 ⟨23,[],[]⟩ Z Tryz.func133 Z Z Z Z
instance (z_ :Str) (n_ ku Ao):LE (rZ z_ n_ ku Ao) (fun j p=>rZ z_ j p.1 p.2) n_ (ku,Ao) [] [] [] [0] (fun v w p=>[(3,iP p.1),(4,iP p.2)]) (fun v w p s=>s):=⟨Z⟩
instance akt(z_:Str):CT Tryz.prog (FN z_) (fun r=>.ret (.bool r)) 175 [.str z_]:=by
  unfold FN;exact Z1 ⟨25,[],[]⟩ Z Tryz.func175 Z Z Z Z
instance ajP(bU:Str)(dP:Int):CT Tryz.prog (zQ bU dP) (fun r=>.ret (.tuple [.agg (yX r.1),iP r.2.1,iP r.2.2])) 135 [.str bU,iP dP]:=by
  unfold zQ;exact Z1 ⟨44,[],[]⟩ Z Tryz.func135 Z Z Z Z
instance anv(c1:UInt8):CT Tryz.prog (wE c1) (fun r=>.ret (iP r)) 219 [.int .u8 (c1.toNat:Int)]:=by
  unfold wE;exact Z1 ⟨31,[],[]⟩ Z Tryz.func219 Z Z Z Z
instance RI(bU:Str)(dP:Int):CT Tryz.prog (xw bU dP) (fun r=>.ret (.tuple [.int .u8 (r.1.toNat:Int),iP r.2])) 176 [.str bU,iP dP]:=by
  unfold xw;exact Z1 ⟨61,[],[]⟩ Z Tryz.func176 Z Z Z Z
instance V7(bU:Str)(dP:Int):CT Tryz.prog (Ck bU dP) (fun r=>.ret (.bool r)) 177 [.str bU,iP dP]:=by
  unfold Ck;exact Z1 ⟨32,[],[]⟩ Z Tryz.func177 Z Z Z Z
instance ami(bU:Str)(dP:Int):CT Tryz.prog (EO bU dP) (fun r=>.ret (.tuple [.agg (yX r.1),iP r.2.1,iP r.2.2])) 136 [.str bU,iP dP]:=⟨zP rfl,fun {r} hf {τ Q} h=>by
 obtain⟨r0,r1,r2⟩:=r;unfold EO at hf;refine BN 68 [.cell 4 105,.tmp 5,.tmp 6] [0,1] Tryz.func136 Z Z Z Z Z (W 0 Z (AS Z (AO.bL Z ag5 (fun b4=>(U 2 Z (AS Z (AO.Ht (eu:=5) Z Zj Z (fun b7=>(J 3 Z (LK3 (fun i1 b1 v1=>[(0,.str bU),(1,iP dP),(4,pP b4),(7,pP b7),(8,iP i1)]) (fun i1 b1 v1=>[.Ng b7 v1 68 5 b1,.box b4 [iP 0,.str ([]:Str),iP 0]]) (fun dW i1 b1 v1=>rz bU dP dW i1 b1=some (r0,r1,r2)) BIG (bF (dP+1)) [] (.slice none 0 0) Z Z hf (fun _ _ _ hz=>lM hz) ?_))))))))));intro dW i1 b1 v1 hf;rw[rz]at hf;refine W 2 Z (AS Z (AO.wF Z Z Z Z uN Z (J 1 Z (C hf Z (fun h1 hf=>?_) fun h1 hf=>?_))))
 ·refine B1 hf fun c1 h2 hf=>W 2 Z (AS Z (AO.xQ h2 Z uN Z Z (J 4 Z (C hf Z (fun h3 hf=>?_) fun h3 hf=>?_))))
  ·refine W 0 Z (CL Z (AC.one 0 Z (XE ⟨_,Z,(J 1 Z (C hf Z (fun h4 hf=>?_) fun h4 hf=>?_))⟩)))
   ·cases hf;exact Wx 4 [1] Z Z (ZC [1] Z Z h)
   refine W 0 Z (CL Z (AC.Oa 0 Z (Ah ?_)));cases hf;exact Rx 7 [0] Z Z (ZC [0] Z Z h)
  refine V 3 Z (C hf Z (fun h5 hf=>?_) fun h5 hf=>?_)
  ·cases hf;exact Wx 4 [1] Z Z (ZC [1] Z Z h)
  refine V 3 Z (C hf Z (fun h6 hf=>?_) fun h6 hf=>?_)
  ·obtain⟨x1,n1,h7,hf⟩:=gy hf;refine W 2 Z (CL Z ((RI _ _).h h7 ?_));refine B1 hf fun b2 h9 hf=>U 8 Z (AR.xA 4 52 56 true [0,1,4,7,8,10,11] b2 Z Z (fun h8=>?_) (fun h8=>?_) ?_)
   ·refine IT 52 h8 h9 Z fun h9=>?_;refine BR h9 fun x2 h10 h9=>?_;refine U 2 Z (GO Z (AO.call Z _ Z Z an4 ((V7 _ _).h h10 ?_)));cases h9;exact zm 1 Z (En [56,0,1,4,7,8,10,11] Z)
   ·refine IF 52 h8 h9 Z fun h9=>?_;cases h9;exact zm 4 Z (En [56,0,1,4,7,8,10,11] Z)
   refine J 1 Z (C hf Z (fun h11 hf=>?_) fun h11 hf=>?_)
   ·cases hf;exact Wx 4 [1] Z Z (ZC [1] Z Z h)
   refine V 3 Z (C hf Z (fun h12 hf=>?_) fun h12 hf=>?_)
   ·cases hf;exact Wx 4 [1] Z Z (ZC [1] Z Z h)
   refine B1 hf fun b3 L_ hf=>W 1 Z (CL Z (AC.one 0 Z (jl L_ (fun v2=>⟨_,Z,?_⟩))));exact N 4 Z ⟨(bF (i1+n1)),b3,v2,Z,Z,Z,hf⟩
  refine B1 hf fun b4 Kk hf=>W 1 Z (CL Z (AC.one 0 Z (jl Kk (fun v3=>⟨_,Z,?_⟩))));exact N 3 Z ⟨(bF (i1+1)),b4,v3,Z,Z,Z,hf⟩
 cases hf;exact Wx 4 [1] Z Z (ZC [1] Z Z h)⟩
instance (bU :Str) (dP:Int) (n_ ku):LE (jI bU dP n_ ku) (fun j p=>jI bU dP j p) n_ ku [] [] [] [0,1,4,10,11] (fun v w p=>[(12,iP p)]) (fun v w p s=>s):=⟨Z⟩
instance agz(bU:Str)(dP:Int):CT Tryz.prog (vC bU dP) (fun r=>.ret (.tuple [.agg (yX r.1),iP r.2.1,iP r.2.2])) 137 [.str bU,iP dP]:=by
  unfold vC;exact Z1 ⟨63,[],[]⟩ Z Tryz.func137 Z Z Z Z
instance V6(bU:Str)(dP:Int):CT Tryz.prog (Cj bU dP) (fun r=>.ret (.tuple [.agg (yX r.1),iP r.2.1,iP r.2.2])) 91 [.str bU,iP dP]:=by
  unfold Cj;exact Z1 ⟨44,[],[]⟩ Z Tryz.func91 Z Z Z Z
instance Qx(op1:Str)(iV:Int):CT Tryz.prog (vD op1 iV) (fun r=>.ret (iP r)) 92 [.str op1,iP iV]:=by
  unfold vD;exact Z1 ⟨18,[],[]⟩ Z Tryz.func92 Z Z Z Z
instance ajR(bU:Str):CT Tryz.prog (oD bU) (fun r=>.ret (.tuple [.list (List.map aA.cells r.1),iP r.2.1,iP r.2.2])) 53 [.str bU]:=⟨zP rfl,fun {r} hf {τ Q} h=>by
 obtain⟨r0,r1,r2⟩:=r;unfold oD at hf;refine BN 84 [.tmp 2,.tmp 3,.tmp 4] [0] Tryz.func53 Z Z Z Z Z (W 0 Z (AS Z (AO.kr Z Z (U 3 Z (AS Z (AO.wF Z Z Z Z uN Z (J 1 Z (C hf Z (fun h1 hf=>?_) fun h1 hf=>?_))))))))
 ·refine W 0 Z (AS Z (AO.kr Z Z ?_));cases hf;exact N 2 Z (Y Z h)
 refine W 5 Z (AS Z (AO.afo Z uN Z (fun aqr=>(J 0 Z (AW.row 3 105 (LK5 (fun bP v1 kV iV pos1=>[(0,.str bU),(5,.own v1 (List.map aA.cells bP)),(6,.fn 88 []),(7,iP kV),(8,iP iV),(18,pP aqr)]) (fun bP v1 kV iV pos1=>[.row v1 (List.map aA.cells bP).length 3 105,.obj aqr (.stringIter ⟨List.toArray bU⟩ pos1)]) (fun dW bP v1 kV iV pos1=>ji bU dW bP kV iV pos1=some (r0,r1,r2)) BIG [] (.slice none 0 0) 0 0 0 Z Z hf (fun _ _ _ _ _ hz=>lM hz) ?_))))));intro dW bP v1 kV iV pos1 hf;rw[ji]at hf;rcases Bool.eq_false_or_eq_true (decide (pos1<bU.length))with h2|h2
 ·replace hf:=ql h2 hf;refine W 0 Z (AS Z (AO.ail (i:=1) Z Z Z h2 (J 1 Z (AW.cond Z (fun h3=>?_) (fun h3=>?_)))))
  ·refine B1 hf fun b1 h5 hf=>W 8 Z (AR.xA 4 26 30 false [0,5,6,7,8,9,10,18] b1 Z Z (fun h4=>?_) (fun h4=>?_) ?_)
   ·refine IF 26 h4 h5 Z fun h5=>?_;refine BR h5 fun x1 h6 h5=>?_;refine U 2 Z (GO Z (AO.call Z _ Z Z apS ((Qy _).h h6 ?_)));cases h5;exact zm 1 Z (En [30,0,5,6,7,8,9,10,18] Z)
   ·refine IT 26 h4 h5 Z fun h5=>?_;cases h5;exact zm 4 Z (En [30,0,5,6,7,8,9,10,18] Z)
   refine J 0 Z (C hf Z (fun h7 hf=>?_) fun h7 hf=>?_)
   ·exact M 0 Z ⟨bP,v1,kV,iV,(pos1+(dec bU pos1).2),Z,Z,Z,hf⟩
   refine V 2 Z (C hf Z (fun h8 hf=>?_) fun h8 hf=>?_)
   ·refine B1 hf fun GK h9 hf=>W 2 Z (CL Z (VU _ _ r9 90 [] apR (fun _ _ hz=>(Hy _).h hz) h9 ?_));exact N 1 Z ⟨bP,v1,GK,iV,(pos1+(dec bU pos1).2),Z,Z,Z,hf⟩
   refine V 2 Z (C hf Z (fun h10 hf=>?_) fun h10 hf=>?_)
   ·refine B1 hf fun b2 h12 hf=>W 3 Z (AR.xA 14 40 54 true [0,5,6,7,8,9,18] b2 Z Z (fun h11=>?_) (fun h11=>?_) ?_)
    ·replace h12:=ql h11 h12;refine Is 40 h11 Z (U 1 Z (GO Z (AO.fU (l:=bP) Z Z Z Z Xw Z Z ?_)));refine BR h12 fun b3 Kk h12=>?_;refine U 2 Z (AR.xA 9 44 53 false [0,5,6,7,8,9,18,40] b3 Z Z (fun L_=>?_) (fun L_=>?_) ?_)
     ·replace Kk:=nZ L_ Kk;refine Is 44 L_ Z (U 2 Z (GO Z (AO.fU (l:=bP) Z Z Z Z Xw Z Z ?_)));refine B1 Kk fun e1 Vn Kk=>U 1 Z (GO Z (AO.dK Vn Z Z Z Z Xw (aA.aQ _) Z ?_));cases Kk;exact zm 4 Z (En [53,0,5,6,7,8,9,18,40] Z)
     ·refine IT 44 L_ Kk Z fun Kk=>?_;cases Kk;exact zm 9 Z (En [53,0,5,6,7,8,9,18,40] Z)
     cases h12;exact zm 1 Z (En [54,0,5,6,7,8,9,18] Z)
    ·refine IF 40 h11 h12 Z fun h12=>?_;cases h12;exact zm 14 Z (En [54,0,5,6,7,8,9,18] Z)
    refine J 0 Z (C hf Z (fun h16 hf=>?_) fun h16 hf=>?_)
    ·refine W 3 rfl (AS rfl (AO.bN (List.map aA.cells [(aA.mk 5 ([]:Str) (pos1:Int))]) rfl WS rfl rfl rfl (by first|rfl|simp only[List.map,aA.aQ]) ?_));refine B1 hf fun xk h17 hf=>AS Z (AO.tQ (i:=0) (l:=bP) (m:=[(aA.mk 5 ([]:Str) (pos1:Int))]) h17 Z Z Z Z Z Z Z WS Xw Z Z Z (aA.fA) (aA.cells_one) (by decide) (fun v2 s1 hs1=>?_));cases hs1;exact N 1 Z ⟨xk,v2,kV,iV,(pos1+(dec bU pos1).2),Z,Z,Z,hf⟩
    exact M 0 Z ⟨bP,v1,kV,iV,(pos1+(dec bU pos1).2),Z,Z,Z,hf⟩
   obtain⟨x2,uP,e2,h18,hf⟩:=wK hf;refine W 2 Z (CL Z ((V6 _ _).h h18 (U 4 Z (AS Z (AO.bL Z ag5 (fun b11=>(Rw 5 [0] Z Z (C hf Z (fun h19 hf=>?_) fun h19 hf=>?_))))))))
   ·refine W 2 Z (AS Z (AO.kr Z Z ?_));cases hf;exact N 2 Z (Y Z h)
   refine Ww 3 [0] Z Z (C hf Z (fun h20 hf=>?_) fun h20 hf=>?_)
   ·refine B1 hf fun aam h21 hf=>Wr 3 [0] rfl rfl (CL rfl ((Qx _ _).h h21 (Rr 3 [0] rfl rfl (AS rfl (AO.bN (List.map aA.cells [x2]) rfl WS rfl rfl rfl (by first|rfl|simp only[List.map,aA.aQ]) ?_)))));refine B1 hf fun afw h22 hf=>AS Z (AO.tQ (i:=1) (l:=bP) (m:=[x2]) h22 Z Z Z Z Z Z Z WS Xw Z Z Z (aA.fA) (aA.cells_one) (by decide) (fun v3 s2 hs2=>?_));cases hs2;refine zm 3 Z (AR.drop1 ?_);exact N 0 Z ⟨afw,v3,uP,aam,(pos1+(dec bU pos1).2),Z,Z,Z,hf⟩
   refine Wr 2 [0] rfl rfl (AS rfl (AO.bN (List.map aA.cells [x2]) rfl WS rfl rfl rfl (by first|rfl|simp only[List.map,aA.aQ]) ?_));refine B1 hf fun ah9 h23 hf=>AS Z (AO.tQ (i:=1) (l:=bP) (m:=[x2]) h23 Z Z Z Z Z Z Z WS Xw Z Z Z (aA.fA) (aA.cells_one) (by decide) (fun v4 s3 hs3=>?_));cases hs3;refine zm 3 Z (AR.drop1 ?_);exact N 0 Z ⟨ah9,v4,uP,iV,(pos1+(dec bU pos1).2),Z,Z,Z,hf⟩
  cases h3
 replace hf:=nZ h2 hf;refine W 0 Z (AS Z (AO.afB (i:=1) Z Z Z h2 (J 1 Z (AW.cond Z (fun h24=>?_) (fun h24=>?_)))))
 ·cases h24
 cases hf;exact M 4 Z (Y Z h)⟩
instance agS(c1:UInt8):CT Tryz.prog (xg c1) (fun r=>.ret (.bool r)) 266 [.int .u8 (c1.toNat:Int)]:=by
  unfold xg;exact Z1 ⟨21,[],[]⟩ Z Tryz.func266 Z Z Z Z
instance U6(c1:UInt8):CT Tryz.prog (oC c1) (fun r=>.ret (.bool r)) 267 [.int .u8 (c1.toNat:Int)]:=by
  unfold oC;exact Z1 ⟨9,[],[]⟩ Z Tryz.func267 Z Z Z Z
instance (s1 :Str) (n_ ku):LE (rV s1 n_ ku) (fun j p=>rV s1 j p) n_ ku [] [] [] [0] (fun v w p=>[(3,iP p)]) (fun v w p s=>s):=⟨Z⟩
instance akq(s1:Str):CT Tryz.prog (yU s1) (fun r=>.ret (.bool r)) 237 [.str s1]:=by
  unfold yU;exact Z1 ⟨36,[],[]⟩ Z Tryz.func237 Z Z Z Z
section
variable [D8]
def afM:Go.Shelf.Ren:=⟨fun|171=>125|243=>172|246=>218|283=>257|284=>258|285=>259|286=>260|129=>190|317=>282|318=>283|319=>284|320=>285|337=>302|338=>303|n=>n,fun|3=>3|9=>9|2=>2|4=>4|171=>250|0=>0|53=>201|37=>45|5=>5|173=>252|212=>271|51=>199|20=>20|213=>272|46=>173|232=>294|233=>295|n=>n,fun|17=>3|18=>4|19=>5|n=>n⟩
theorem aqp:Go.Proofs.LaysM.n171 Tryz.prog afM:=by repeat' first|(intros;kernel_rfl)|constructor|decide
instance U5(n1:Int):CT Tryz.prog (strconv_Itoa n1) (fun r=>.ret (.str r)) 125 [iP n1]:=⟨zP rfl,fun {r0} hf {τ Q} h=>by
 unfold strconv_Itoa at hf;split at hf
 case isFalse=>cases hf
 rename_i hg;cases hf;refine AC.none ?_
 exact AC.itoa D8.hD aqp hg.1 hg.2 D8.pow h⟩
end
section
variable [D8]
def agv:Go.Shelf.Ren:=⟨fun|172=>268|244=>289|245=>290|247=>310|279=>311|280=>312|281=>313|282=>314|287=>318|316=>319|171=>125|205=>320|321=>322|322=>323|243=>172|246=>218|283=>257|284=>258|285=>259|286=>260|129=>190|317=>282|318=>283|319=>284|320=>285|337=>302|338=>303|n=>n,fun|9=>9|3=>3|75=>71|76=>72|4=>4|5=>5|167=>286|37=>45|0=>0|85=>287|2=>2|168=>289|53=>201|175=>296|46=>173|210=>299|127=>96|145=>305|143=>303|21=>21|171=>250|173=>252|212=>271|51=>199|20=>20|213=>272|232=>294|233=>295|80=>46|n=>n,fun|15=>6|16=>7|17=>3|18=>4|19=>5|n=>n⟩
theorem aq5:Go.Proofs.LaysC.n172 Tryz.prog agv:=by repeat' first|(intros;kernel_rfl)|constructor|decide
instance KM(s1:Str):CT Tryz.prog (strconv_Atoi s1) (fun r=>.ret (.tuple [iP r.1,.err r.2])) 268 [.str s1]:=⟨zP rfl,fun {r} hf {τ Q} h=>by
 obtain⟨r0,r1⟩:=r;unfold strconv_Atoi at hf;split at hf
 case isFalse=>cases hf
 rename_i hg;cases hf;refine AC.none ?_
 exact AC.atoi D8.hD aq5 hg Z D8.syn D8.rng h⟩
end
section
variable [D8]
instance agy(s1:Str):CT Tryz.prog (vv s1) (fun r=>.ret (.bool r)) 287 [.str s1]:=⟨zP rfl,fun {r0} hf {τ Q} h=>by
 unfold vv at hf;refine BN 40 [.tmp 2] [0] Tryz.func287 Z Z Z Z Z ?_;refine B1 hf fun b1 h2 hf=>W 4 Z (AR.xA 9 8 17 false [0] b1 Z Z (fun h1=>?_) (fun h1=>?_) ?_)
 ·replace h2:=nZ h1 h2;refine Is 8 h1 Z (U 1 Z (GO Z (AO.wF Z Z Z Z uN Z ?_)));refine BR h2 fun b2 h4 h2=>?_;refine U 2 Z (AR.xA 4 12 16 true [0,8] b2 Z Z (fun h3=>?_) (fun h3=>?_) ?_)
  ·refine IT 12 h3 h4 Z fun h4=>?_;refine B1 h4 fun x1 h5 h4=>U 1 Z (GO Z (AO.xQ h5 Z uN Z Z ?_));cases h4;exact zm 2 Z (En [16,0,8] Z)
  ·refine IF 12 h3 h4 Z fun h4=>?_;cases h4;exact zm 4 Z (En [16,0,8] Z)
  cases h2;exact zm 1 Z (En [17,0] Z)
 ·refine IT 8 h1 h2 Z fun h2=>?_;cases h2;exact zm 9 Z (En [17,0] Z)
 refine J 0 Z (C hf Z (fun h6 hf=>?_) fun h6 hf=>?_)
 ·cases hf;exact M 1 Z (Y Z h)
 refine V 1 Z (LK1 (fun i1=>[(0,.str s1),(3,iP i1)]) (fun i1=>[]) (fun dW i1=>lK s1 dW i1=some r0) BIG 0 Z Z hf (fun _ hz=>lM hz) ?_);intro dW i1 hf;rw[lK]at hf;refine W 2 Z (AS Z (AO.wF Z Z Z Z uN Z (J 1 Z (C hf Z (fun h7 hf=>?_) fun h7 hf=>?_))))
 ·refine B1 hf fun x2 h8 hf=>W 2 Z (AS Z (AO.xQ h8 Z uN Z Z ?_));refine B1 hf fun x3 h9 hf=>CL Z ((U6 _).h h9 (J 1 Z (C hf Z (fun h10 hf=>?_) fun h10 hf=>?_)))
  ·cases hf;exact M 1 Z (Y Z h)
  exact M 3 Z ⟨(bF (i1+1)),Z,Z,Z,hf⟩
 obtain⟨n1,Uu,h11,hf⟩:=gy hf;refine W 1 Z (CL Z ((KM _).h h11 (U 6 Z (AS Z (AO.eqNil Z amV Z Z (U 1 Z (An 3 36 39 [] (decide (n1≤9007199254740992)) Z Z Z Z ?_)))))));cases hf;exact N 1 Z (Y Z h)⟩
end
section
variable [D8]
instance akn(t1:aA):CT Tryz.prog (jP t1) (fun r=>.ret (.bool r)) 262 [.agg (yX t1)]:=by
  unfold jP;exact Z1 ⟨23,[],[]⟩ Z Tryz.func262 Z Z Z Z
end
section
variable [D8]
instance abu(qD:av):CB Tryz.prog (jQ qD) (fun r=>.ret (.agg (yX r.1))) 221 (fun p1=>[pP p1]) (aN qD) (fun r=>(aN r.2)):=by
  unfold jQ;exact Z2 ⟨37,[],[]⟩ 0 Z Tryz.func221 Z Z (fun _=>Z) (fun _=>Z)
end
section
variable [D8]
instance ac_(qD:av)(op1:Str):CB Tryz.prog (wB qD op1) (fun r=>.ret (.bool r.1)) 222 (fun p1=>[pP p1,.str op1]) (aN qD) (fun r=>(aN r.2)):=by
  unfold wB;exact Z2 ⟨17,[],[]⟩ 0 Z Tryz.func222 Z Z (fun _=>Z) (fun _=>Z)
end
section
variable [D8]
instance Y8(qD:av)(op1:Str):CB Tryz.prog (dx qD op1) (fun r=>.ret (.bool r.1)) 179 (fun p1=>[pP p1,.str op1]) (aN qD) (fun r=>(aN r.2)):=by
  unfold dx;exact Z2 ⟨16,[],[]⟩ 0 Z Tryz.func179 Z Z (fun _=>Z) (fun _=>Z)
end
@[reducible] def Jv:fG aB Unit→dN
  | .ok r=>.ret (.tuple [])
  | .bad e=>.panic (.iface 168 (.agg (jT e)))
instance abx(qD:av)(e1:Int):CB Tryz.prog (gU qD e1) (fun r=>Jv r.1) 224 (fun p1=>[pP p1,iP e1]) (aN qD) (fun r=>(aN r.2)):=by
  unfold gU;exact Z2 ⟨11,[],[]⟩ 0 Z Tryz.func224 Z Z (fun _=>Z) (fun _=>Z)
section
variable [D8]
@[reducible] def Ju:fG aB aA→dN
  | .ok r=>.ret (.agg (yX r))
  | .bad e=>.panic (.iface 168 (.agg (jT e)))
instance abv(qD:av):CB Tryz.prog (jR qD) (fun r=>Ju r.1) 223 (fun p1=>[pP p1]) (aN qD) (fun r=>(aN r.2)):=by
  unfold jR;exact Z2 ⟨24,[],[]⟩ 0 Z Tryz.func223 Z Z (fun _=>Z) (fun _=>Z)
end
instance agx(v1:ah):CT Tryz.prog (rW v1) (fun r=>.ret (.agg (bJ r))) 304 [.agg (aP v1)]:=by
  unfold rW;exact Z1 ⟨5,[],[]⟩ Z Tryz.func304 Z Z Z Z
instance akm(s1:Str):CT Tryz.prog (qF s1) (fun r=>.ret (.bool r)) 238 [.str s1]:=by
  unfold qF;exact Z1 ⟨13,[],[]⟩ Z Tryz.func238 Z Z Z Z
section
variable [D8]
@[reducible] def HY:fG aB Unit→dN
  | .ok r=>.ret (.tuple [])
  | .bad e=>.panic (.iface 168 (.agg (jT e)))
instance Y7(qD:av)(op1:Str):CB Tryz.prog (fH qD op1) (fun r=>HY r.1) 180 (fun p1=>[pP p1,.str op1]) (aN qD) (fun r=>(aN r.2)):=by
  unfold fH;exact Z2 ⟨12,[],[]⟩ 0 Z Tryz.func180 Z Z (fun _=>Z) (fun _=>Z)
end
instance aeO(op1:Str):CT Tryz.prog (gT op1) (fun r=>.ret (iP r)) 102 [.str op1]:=by
  unfold gT;exact Z1 ⟨22,[],[]⟩ Z Tryz.func102 Z Z Z Z
section
variable [D8]
@[reducible] def mI:fG aB ak→dN
  | .ok r=>.ret (.agg (bJ r))
  | .bad e=>.panic (.iface 168 (.agg (jT e)))
@[reducible] def mH:fG aB ak→dN
  | .ok r=>.ret (.agg (bJ r))
  | .bad e=>.panic (.iface 168 (.agg (jT e)))
@[reducible] def qb:fG aB ak→dN
  | .ok r=>.ret (.agg (bJ r))
  | .bad e=>.panic (.iface 168 (.agg (jT e)))
@[reducible] def qc:fG aB ak→dN
  | .ok r=>.ret (.agg (bJ r))
  | .bad e=>.panic (.iface 168 (.agg (jT e)))
@[reducible] def qB:fG aB ak→dN
  | .ok r=>.ret (.agg (bJ r))
  | .bad e=>.panic (.iface 168 (.agg (jT e)))
@[reducible] def qA:fG aB ak→dN
  | .ok r=>.ret (.agg (bJ r))
  | .bad e=>.panic (.iface 168 (.agg (jT e)))
@[reducible] def qC:fG aB (List ak)→dN
  | .ok r=>.ret (.list (ak.bq r))
  | .bad e=>.panic (.iface 168 (.agg (jT e)))
@[reducible] def nE:fG aB ak→dN
  | .ok r=>.ret (.agg (bJ r))
  | .bad e=>.panic (.iface 168 (.agg (jT e)))
section
variable (aM : av → Option (fG aB ak × av)) [R_ : ∀(eU : av), CB Tryz.prog (aM eU) (fun r => mI r.1) 139 (fun Ey => [pP Ey]) (aN eU) (fun r => (aN r.2))] (aW : av → Int → Option (fG aB ak × av)) [R9 : ∀(eU : av) (X4 : Int), CB Tryz.prog (aW eU X4) (fun r => mH r.1) 178 (fun Ey => [pP Ey, iP X4]) (aN eU) (fun r => (aN r.2))] (bD : av → Option (fG aB ak × av)) [Xn : ∀(eU : av), CB Tryz.prog (bD eU) (fun r => qb r.1) 220 (fun Ey => [pP Ey]) (aN eU) (fun r => (aN r.2))] (bH : av → Option (fG aB ak × av)) [Xo : ∀(eU : av), CB Tryz.prog (bH eU) (fun r => qc r.1) 261 (fun Ey => [pP Ey]) (aN eU) (fun r => (aN r.2))] (cB : av → Option (fG aB ak × av)) [YJ : ∀(eU : av), CB Tryz.prog (cB eU) (fun r => qB r.1) 286 (fun Ey => [pP Ey]) (aN eU) (fun r => (aN r.2))] (cu : av → Str → Option (fG aB ak × av)) [YI : ∀(eU : av) (sN : Str), CB Tryz.prog (cu eU sN) (fun r => qA r.1) 305 (fun Ey => [pP Ey, .str sN]) (aN eU) (fun r => (aN r.2))] (bW : av → Str → Option (fG aB (List ak) × av)) [YK : ∀(eU : av) (Ez : Str), CB Tryz.prog (bW eU Ez) (fun r => qC r.1) 306 (fun Ey => [pP Ey, .str Ez]) (aN eU) (fun r => (aN r.2))] (bQ : av → Option (fG aB ak × av)) [Vo : ∀(eU : av), CB Tryz.prog (bQ eU) (fun r => nE r.1) 307 (fun Ey => [pP Ey]) (aN eU) (fun r => (aN r.2))]
instance (n1 :Int) (n_ ku Ao):LE (iL aW n1 n_ ku Ao) (fun j p=>iL aW n1 j p.1 p.2) n_ (ku,Ao) [] [] [] [0,1,4,5] (fun v w p=>[]) (fun v w p s=>AZ 2 (aN p.2) (AZ 0 (bJ p.1) (s))):=⟨Z⟩
instance (n_ ku Ao):LE (iZ bD bH n_ ku Ao) (fun j p=>iZ bD bH j p.1 p.2) n_ (ku,Ao) [] [] [] [0,2,5,6] (fun v w p=>[(7,iP p.1)]) (fun v w p s=>AZ 1 (aN p.2) (s)):=⟨Z⟩
instance (n_ ku Ao):LE (gJ aM n_ ku Ao) (fun j p=>gJ aM j p.1 p.2) n_ (ku,Ao) [] [] [] [0,2,3] (fun v w p=>[]) (fun v w p s=>AZ 2 (aN p.2) (AZ 0 (bJ p.1) (s))):=⟨Z⟩
instance (uP :Str) (n_ ku Ao):LE (kI aM uP n_ ku Ao) (fun j p=>kI aM uP j p.1 p.2) n_ (ku,Ao) [5] [] [(5,10,54)] [0,1] (fun v w p=>[(5,.own v (List.map ak.cells p.1))]) (fun v w p s=>AZ 1 (aN p.2) (putRow 0 v ((List.map ak.cells p.1).length) (s))):=⟨Z⟩
instance (n_ ku Ao):LE (iF aM n_ ku Ao) (fun j p=>iF aM j p.1 p.2) n_ (ku,Ao) [] [(2,[8,9])] [(9999,10,54),(9999,1,9)] [0,2,3] (fun v w p=>[]) (fun v w p s=>AZ 4 (aN p.2) (AZ 2 [iP p.1.kind,.str p.1.name,iP p.1.value.kind,.bool p.1.value.dZ,iP p.1.value.eB,.str p.1.value.bV,.list (ah.bq p.1.value.aO),sP p.1.value.keys,.own v (List.map ak.cells p.1.args),.own w (List.map kg p.1.keys)] (putRow 1 v ((List.map ak.cells p.1.args).length) (putRow 0 w ((List.map kg p.1.keys).length) (s))))):=⟨Z⟩
instance DX(qD:av):CB Tryz.prog (mK aM aW bD bH cB cu bW bQ qD) (fun r=>mI r.1) 139 (fun p1=>[pP p1]) (aN qD) (fun r=>(aN r.2)):=by
  unfold mK;exact Z2 ⟨23,[],[]⟩ 0 Z Tryz.func139 Z Z (fun _=>Z) (fun _=>Z)
instance DW(qD:av)(n1:Int):CB Tryz.prog (ko aM aW bD bH cB cu bW bQ qD n1) (fun r=>mH r.1) 178 (fun p1=>[pP p1,iP n1]) (aN qD) (fun r=>(aN r.2)):=by
  unfold ko;exact Z2 ⟨47,[],[(8,0,6,8,0)]⟩ 0 Z Tryz.func178 Z Z (fun _=>Z) (fun _=>Z)
instance Hu(qD:av):CB Tryz.prog (qd aM aW bD bH cB cu bW bQ qD) (fun r=>qb r.1) 220 (fun p1=>[pP p1]) (aN qD) (fun r=>(aN r.2)):=by
  unfold qd;exact Z2 ⟨22,[],[]⟩ 0 Z Tryz.func220 Z Z (fun _=>Z) (fun _=>Z)
instance Hw(qD:av):CB Tryz.prog (qg aM aW bD bH cB cu bW bQ qD) (fun r=>qc r.1) 261 (fun p1=>[pP p1]) (aN qD) (fun r=>(aN r.2)):=by
  unfold qg;exact Z2 ⟨47,[],[]⟩ 0 Z Tryz.func261 Z Z (fun _=>Z) (fun _=>Z)
instance IX(qD:av):CB Tryz.prog (qH aM aW bD bH cB cu bW bQ qD) (fun r=>qB r.1) 286 (fun p1=>[pP p1]) (aN qD) (fun r=>(aN r.2)):=by
  unfold qH;exact Z2 ⟨77,[],[]⟩ 0 Z Tryz.func286 Z Z (fun _=>Z) (fun _=>Z)
instance IW(qD:av)(s1:Str):CB Tryz.prog (qG aM aW bD bH cB cu bW bQ qD s1) (fun r=>qA r.1) 305 (fun p1=>[pP p1,.str s1]) (aN qD) (fun r=>(aN r.2)):=by
  unfold qG;exact Z2 ⟨26,[],[]⟩ 0 Z Tryz.func305 Z Z (fun _=>Z) (fun _=>Z)
instance IY(qD:av)(uP:Str):CB Tryz.prog (qI aM aW bD bH cB cu bW bQ qD uP) (fun r=>qC r.1) 306 (fun p1=>[pP p1,.str uP]) (aN qD) (fun r=>(aN r.2)):=by
  unfold qI;exact Z2 ⟨21,[],[]⟩ 0 Z Tryz.func306 Z Z (fun _=>Z) (fun _=>Z)
instance Fw(qD:av):CB Tryz.prog (nH aM aW bD bH cB cu bW bQ qD) (fun r=>nE r.1) 307 (fun p1=>[pP p1]) (aN qD) (fun r=>(aN r.2)):=by
  unfold nH;exact Z2 ⟨50,[],[(10,0,3,5,0)]⟩ 0 Z Tryz.func307 Z Z (fun _=>Z) (fun _=>Z)
end
theorem fI:∀k:Nat,(∀(eU:av),CB Tryz.prog (aZ k eU) (fun r=>mI r.1) 139 (fun Ey=>[pP Ey]) (aN eU) (fun r=>(aN r.2)))∧(∀(eU:av) (X4:Int),CB Tryz.prog (bB k eU X4) (fun r=>mH r.1) 178 (fun Ey=>[pP Ey,iP X4]) (aN eU) (fun r=>(aN r.2)))∧(∀(eU:av),CB Tryz.prog (dH k eU) (fun r=>qb r.1) 220 (fun Ey=>[pP Ey]) (aN eU) (fun r=>(aN r.2)))∧(∀(eU:av),CB Tryz.prog (dY k eU) (fun r=>qc r.1) 261 (fun Ey=>[pP Ey]) (aN eU) (fun r=>(aN r.2)))∧(∀(eU:av),CB Tryz.prog (eF k eU) (fun r=>qB r.1) 286 (fun Ey=>[pP Ey]) (aN eU) (fun r=>(aN r.2)))∧(∀(eU:av) (sN:Str),CB Tryz.prog (eY k eU sN) (fun r=>qA r.1) 305 (fun Ey=>[pP Ey,.str sN]) (aN eU) (fun r=>(aN r.2)))∧(∀(eU:av) (Ez:Str),CB Tryz.prog (dR k eU Ez) (fun r=>qC r.1) 306 (fun Ey=>[pP Ey,.str Ez]) (aN eU) (fun r=>(aN r.2)))∧(∀(eU:av),CB Tryz.prog (dL k eU) (fun r=>nE r.1) 307 (fun Ey=>[pP Ey]) (aN eU) (fun r=>(aN r.2)))
  | 0=>⟨fun _=>CB.none Z,fun _ _=>CB.none Z,fun _=>CB.none Z,fun _=>CB.none Z,fun _=>CB.none Z,fun _ _=>CB.none Z,fun _ _=>CB.none Z,fun _=>CB.none Z⟩
  | k+1=>by
    obtain⟨i0,i1,i2,i3,i4,i5,i6,i7⟩:=fI k;exact⟨fun eU=>DX _ _ _ _ _ _ _ _ eU,fun eU X4=>DW _ _ _ _ _ _ _ _ eU X4,fun eU=>Hu _ _ _ _ _ _ _ _ eU,fun eU=>Hw _ _ _ _ _ _ _ _ eU,fun eU=>IX _ _ _ _ _ _ _ _ eU,fun eU sN=>IW _ _ _ _ _ _ _ _ eU sN,fun eU Ez=>IY _ _ _ _ _ _ _ _ eU Ez,fun eU=>Fw _ _ _ _ _ _ _ _ eU⟩
instance wP(eU:av):CB Tryz.prog (rU eU) (fun r=>mI r.1) 139 (fun Ey=>[pP Ey]) (aN eU) (fun r=>(aN r.2)):=(fI BIG).1 eU
instance Vp(eU:av)(X4:Int):CB Tryz.prog (GH eU X4) (fun r=>mH r.1) 178 (fun Ey=>[pP Ey,iP X4]) (aN eU) (fun r=>(aN r.2)):=(fI BIG).2.1 eU X4
instance Zh(eU:av):CB Tryz.prog (LC eU) (fun r=>qb r.1) 220 (fun Ey=>[pP Ey]) (aN eU) (fun r=>(aN r.2)):=(fI BIG).2.2.1 eU
instance Zi(eU:av):CB Tryz.prog (LD eU) (fun r=>qc r.1) 261 (fun Ey=>[pP Ey]) (aN eU) (fun r=>(aN r.2)):=(fI BIG).2.2.2.1 eU
instance aby(eU:av):CB Tryz.prog (MO eU) (fun r=>qB r.1) 286 (fun Ey=>[pP Ey]) (aN eU) (fun r=>(aN r.2)):=(fI BIG).2.2.2.2.1 eU
instance abw(eU:av)(sN:Str):CB Tryz.prog (MN eU sN) (fun r=>qA r.1) 305 (fun Ey=>[pP Ey,.str sN]) (aN eU) (fun r=>(aN r.2)):=(fI BIG).2.2.2.2.2.1 eU sN
instance abz(eU:av)(Ez:Str):CB Tryz.prog (MP eU Ez) (fun r=>qC r.1) 306 (fun Ey=>[pP Ey,.str Ez]) (aN eU) (fun r=>(aN r.2)):=(fI BIG).2.2.2.2.2.2.1 eU Ez
instance XM(eU:av):CB Tryz.prog (Jm eU) (fun r=>nE r.1) 307 (fun Ey=>[pP Ey]) (aN eU) (fun r=>(aN r.2)):=(fI BIG).2.2.2.2.2.2.2 eU
end
section
variable [D8]
instance ako(iX:List aA):CT Tryz.prog (FM iX) (fun r=>.ret (.tuple [.agg (bJ r.1),iP r.2.1,iP r.2.2])) 93 [.list (List.map aA.cells iX)]:=⟨zP rfl,fun {r} hf {τ Q} h=>by
 obtain⟨r0,r1,r2⟩:=r;unfold FM at hf;refine AC.none (AC.Q7 17 [.cell 2 54,.cell 3 3,.cell 4 38] [0] [0,1,2] Tryz.func93 Z Z Z Z Z Tryz.func138 Z Z Z Z Z Z Z an7 (AW.sr (AR.step Z Z Z (AO.bL Z LK (fun b2=>?_)))));refine AR.step Z Z Z (AO.bL Z apq (fun b3=>(AR.step Z Z Z (AO.bL Z adn (fun b4=>(AR.nil [0,2,3,4] Z (AW.sr ?_)))))));refine cs 1 Z (AR.step Z Z Z (AO.build Z anF akV Z (AR.step Z Z Z (AO.aeH Z Z (fun b8=>(cs 1 Z ?_))))));refine AR.nil [2,3,4,5] Z (AW.sr (cs 1 Z (AR.defer (vs:=[.pointer (some ⟨b2,0,none⟩),.pointer (some ⟨b3,0,none⟩),.pointer (some ⟨b4,0,none⟩)]) Z Z Z Z Z Z ?_)));refine AR.nil [2,3,4,5] Z (AW.sr (cs 1 Z ?_));rcases UW hf with⟨f1,s1,h1,hf⟩|⟨e1,s1,h1,hf⟩
 ·refine AR.step Z Z Z (AO.call Z _ Z Z ah3 (AC.one 0 Z ((wP _).h h1 _ ⟨_,Z,?_⟩)));cases hf;refine⟨[.pointer (some ⟨b2,0,none⟩),.pointer (some ⟨b3,0,none⟩),.pointer (some ⟨b4,0,none⟩)],_,Z,Z,Z,(AR.step Z Z Z (AO.adH Z Z akM (cs 3 Z (AR.step Z Z Z (AO.bL Z ag2 (fun b5=>?_))))))⟩;refine AR.bZ Z Z (AO.dX (i:=0) Z Z Z ahr Z Z Z Z Z (cs 1 Z (AR.nil [0,1,2,3,4] Z (AW.sr ?_))));refine cs 1 Z (AR.nil [0,1,2,3,10] Z (AW.cond Z (fun _=>?_) (fun hh=>by cases hh)));refine AW.ai7 1 5 7 [_] [_,_,_,_] mixed (by kernel_rfl) (by kernel_rfl) (by kernel_rfl) Z Z Z (List.Perm.refl _) ?_;refine Ev.cons Z Z Z (AO.build Z LK ahB Z zg) (Ev.nil ?_);show Ev _ _ _ _ _ _ _;refine Ev.cs gB 1 Z (Ev.cons Z Z Z (AO.bC (i:=0) Z Z Z Jl Z Z zg) (Ev.cs gB 1 Z (Ev.cons Z Z Z (AO.bC (i:=0) Z Z Z uX Z Z zg) ?_)));refine Ev.nil (TF.bZ Z Z (AO.dX (i:=3) Z Z Z Ap Z Z Z Z Z (TF.bZ Z Z (AO.dX (i:=2) Z Z Z Jl Z Z Z Z Z (TF.nil ?_)))));show AR _ _ _ _ _ _ _ _;refine AR.bZ Z Z (AO.dX (i:=2) Z Z Z uX Z Z Z Z Z (AR.nil [] Z ?_));exact⟨rfl,_,⟨_,_,rfl,⟨_,_,4,_,_,rfl,rfl,Ap,rfl⟩,⟨_,_,rfl,⟨_,_,3,_,_,rfl,rfl,Jl,rfl⟩,⟨_,_,rfl,⟨_,_,2,_,_,rfl,rfl,uX,rfl⟩,rfl⟩⟩⟩,[],aup _,h⟩
 refine AR.step Z Z Z (AO.call Z _ Z Z ah3 (AC.one 0 Z ((wP _).h h1 _ ⟨_,Z,?_⟩)));cases hf;refine AR.bZ Z Z (AO.dX (i:=3) Z Z Z Ap Z Z Z Z Z (AR.nil [2,3,4,5] Z (AW.seq (AW.am5 1 5 6 3 mixed (by kernel_rfl) (by kernel_rfl) (by kernel_rfl) Z Z Z Z ?_))));refine Ev.cons Z Z Z (AO.bC (i:=3) Z Z Z Ap Z Z zg) (Ev.nil ?_);show Ev _ _ _ _ _ _ _;refine Ev.cs gB 3 Z (Ev.cons Z Z Z (AO.bC (i:=0) Z Z Z Jl Z Z zg) (Ev.nil (TF.bZ Z Z (AO.dX (i:=0) Z Z Z Ap Z Z Z Z Z ?_))));refine TF.nil ?_;show AR _ _ _ _ _ _ _ _;refine AR.bZ Z Z (AO.dX (i:=2) Z Z Z Jl Z Z Z Z Z (AR.bZ Z Z (AO.dX (i:=1) Z Z Z uX Z Z Z Z Z (AR.nil [2,3,4] Z (AW.ret ?_)))));refine⟨[.pointer (some ⟨b2,0,none⟩),.pointer (some ⟨b3,0,none⟩),.pointer (some ⟨b4,0,none⟩)],_,Z,Z,Z,(AR.step Z Z Z (AO.ZK (p:=.agg [iP 0,iP 0]) Z Z akO (fun _ _=>by simp only[dh];exact⟨[.int .i64 0,.int .i64 0],Z,aV.cons (by simp[dh]) (aV.cons (by simp[dh]) aV.nil)⟩) ?_))⟩
 refine cs 3 Z (AR.step Z Z Z (AO.bL Z ag2 (fun b5=>(AR.bZ Z Z (AO.dX (i:=0) Z Z Z ahr Z Z Z Z Z (cs 1 Z ?_))))));refine AR.nil [4] Z (AW.sr (cs 1 Z (AR.nil [10] Z ?_)));refine AW.cond Z (fun hh=>by cases hh) (fun _=>?_);refine AW.skip ?_;exact⟨rfl,_,⟨_,_,rfl,⟨_,_,4,_,_,rfl,rfl,Ap,rfl⟩,⟨_,_,rfl,⟨_,_,3,_,_,rfl,rfl,Jl,rfl⟩,⟨_,_,rfl,⟨_,_,2,_,_,rfl,rfl,uX,rfl⟩,rfl⟩⟩⟩,[],aup _,h⟩⟩
end
section
variable (kT : ak → Option Int) [afY : ∀(jo : ak), CT Tryz.prog (kT jo) (fun r => .ret (iP r)) 62 [.agg (bJ jo)]]
instance (e1 :ak) (n_ ku Ao):LE (uf kT e1 n_ ku Ao) (fun j p=>uf kT e1 j p.1 p.2) n_ (ku,Ao) [] [] [] [7,8] (fun v w p=>[(3,iP p.1),(9,iP p.2)]) (fun v w p s=>s):=⟨Z⟩
instance Qw(e1:ak):CT Tryz.prog (zJ kT e1) (fun r=>.ret (iP r)) 62 [.agg (bJ e1)]:=by
  unfold zJ;exact Z1 ⟨19,[],[]⟩ Z Tryz.func62 Z Z Z Z
end
theorem Ka:∀k:Nat,(∀(jo:ak),CT Tryz.prog (pO k jo) (fun r=>.ret (iP r)) 62 [.agg (bJ jo)])
  | 0=>fun _=>CT.none Z
  | k+1=>by
    obtain (i0):=Ka k;exact fun jo=>Qw _ jo
instance ajN(jo:ak):CT Tryz.prog (Du jo) (fun r=>.ret (iP r)) 62 [.agg (bJ jo)]:=(Ka BIG) jo
instance akl(v1:ah):CT Tryz.prog (FL v1) (fun r=>.ret (.bool r)) 153 [.agg (aP v1)]:=by
  unfold FL;exact Z1 ⟨33,[],[]⟩ Z Tryz.func153 Z Z Z Z
instance ajH(s1:Str):CT Tryz.prog (oz s1) (fun r=>.ret (.bool r)) 202 [.str s1]:=by
  unfold oz;exact Z1 ⟨10,[],[]⟩ Z Tryz.func202 Z Z Z Z
instance ajJ(e1:ak):CT Tryz.prog (zF e1) (fun r=>.ret (.bool r)) 154 [.agg (bJ e1)]:=by
  unfold zF;exact Z1 ⟨31,[],[]⟩ Z Tryz.func154 Z Z Z Z
instance ajM(e1:ak):CT Tryz.prog (zH e1) (fun r=>.ret (.bool r)) 155 [.agg (bJ e1)]:=by
  unfold zH;exact Z1 ⟨32,[],[]⟩ Z Tryz.func155 Z Z Z Z
instance (s1 :List Str) (f1:Str→Option Bool) (n_ ku):LE (gL s1 f1 n_ ku) (fun j p=>gL s1 f1 j p) n_ ku [] [] [] [0,1,7] (fun v w p=>[(8,iP p)]) (fun v w p s=>s):=⟨Z⟩
instance Ni(s1:List Str)(f1:Str→Option Bool){f1F:FuncId}{f1C:List PV}[f1I:CF1 Tryz.prog f1 (fun a0=>.str a0) (fun b0=>.ret (.bool b0)) f1F f1C]:CT Tryz.prog (jF s1 f1) (fun r=>.ret (iP r)) 239 [sP s1,.fn f1F f1C]:=by
  unfold jF;exact Z1 ⟨19,[],[]⟩ Z Tryz.func239 Z Z Z Z
instance Lu(s1:List Str)(f1:Str→Option Bool){f1F:FuncId}{f1C:List PV}[f1I:CF1 Tryz.prog f1 (fun a0=>.str a0) (fun b0=>.ret (.bool b0)) f1F f1C]:CT Tryz.prog (gM s1 f1) (fun r=>.ret (.bool r)) 203 [sP s1,.fn f1F f1C]:=by
  unfold gM;exact Z1 ⟨9,[],[]⟩ Z Tryz.func203 Z Z Z Z
instance Qv(Ak:Str):CT Tryz.prog (kL Ak) (fun r=>.ret (.bool r)) 204 [.str Ak]:=by
  unfold kL;exact Z1 ⟨11,[],[]⟩ Z Tryz.func204 Z Z Z Z
instance : CF1 Tryz.prog kL (fun Ak=>.str Ak) (fun r=>.ret (.bool r)) 204 []:=⟨fun x0=>Qv x0⟩
instance ajK(e1:ak):CT Tryz.prog (zG e1) (fun r=>.ret (.bool r)) 156 [.agg (bJ e1)]:=by
  unfold zG;exact Z1 ⟨23,[],[]⟩ Z Tryz.func156 Z Z Z Z
theorem XV{β:Type}(l:Nat)(T:β→List aR)(go:β→ah→Int→Option (Bool × β))
  (goH:∀s1 v1 bM b s2,go s1 v1 bM=some (b,s2)→∀ {Q:dN→List aR→Prop},Q (.ret (.bool b)) (T s2)→PC 119 [.agg (aP v1),iP bM,.val (.func (.yield l) #[] #[])] (T s1) Q)
  (y:β→Int→ah→Option (Bool × β)) (hy:∀s1 bM v1 b s2,y s1 bM v1=some (b,s2)→AY Tryz.prog l [iP bM,.agg (aP v1)] (T s1) (fun out σ'=>out=.ret (.bool b)∧σ'=T s2))
  (s1:β) (v1:ah) (bM:Int) {b:Bool} {s2:β} (hf:vY go y s1 v1 bM=some (b,s2)) {Q:dN→List aR→Prop} (h:Q (.ret (.bool b)) (T s2)):
  PC 119 [.agg (aP v1),iP bM,.val (.func (.yield l) #[] #[])] (T s1) Q:=by
 unfold vY at hf;refine AC.lD 28 [.tmp 6] [0,1,2] Tryz.func119 Z Z Z Z Z (AW.sr (AR.step Z Z Z (AO.IQ Z Z Z (cs 1 Z ?_))));refine AR.nil [1,2,3] Z (AW.seq (AW.seq (AW.adT ?_)));refine HV.step Z Z Z Z (AO.calc' Z (HV.step Z Z Z Z (AO.calc' Z (HV.step Z Z Z Z (AO.GL Z Z Aq Z ?_)))));obtain⟨b1,s3,h1,hf⟩:=gy hf;refine HV.yield Z Z Z Z Z _ Z Z (hy _ _ _ _ _ h1) (HV.of Z (cs 1 Z (AR.nil [1,2,3,13] Z ?_)));refine AW.cond Z (fun h2=>?_) (fun h2=>?_)
 ·replace hf:=ql h2 hf;refine AW.sr (cs 1 Z (AR.nil [6] Z (AW.ret ?_)));cases hf;exact⟨rfl,_,⟨_,_,rfl,rfl,rfl⟩,_,List.Sublist.refl _,h⟩
 replace hf:=nZ h2 hf;refine AW.skip (AW.seq (AW.sr (cs 2 Z ?_)));refine AR.step Z Z Z (AO.fU (l:=v1.aO) Z Z Z Z Kv Z ((ah.bA _)) (cs 1 Z (AR.nil [1,2,15,16,17] Z (AW.block ?_))));refine AW.aok (fun(_:β) i1=>[(1,iP bM),(2,.val (.func (.yield l) #[] #[])),(15,.list (ah.bq v1.aO)),(16,iP (v1.aO.length:Int)),(17,iP i1)]) (fun s1 _=>T s1) (fun dW s1 i1=>lF go v1 bM dW s1 i1=some (b,s2)) BIG s3 0 Z Z hf (fun _ _ hz=>lM hz) ?_;intro dW s4 i1 hf;rw[lF]at hf;refine AW.sr (cs 1 Z (AR.nil [1,2,15,16,17,18] Z (AW.seq ?_)));refine AW.cond Z (fun h1=>?_) (fun h1=>?_)
 ·replace hf:=ql h1 hf;refine AW.skip (AW.seq (AW.block (AW.sr ?_)));refine B1 hf fun x1 h3 hf=>AR.step Z Z Z (AO.dK h3 Z Z ((ah.bA _)) Z Kv ((ah.aQ _)) Z (cs 1 Z (AR.step Z Z Z (AO.bL Z wM (fun b8=>(AR.bZ Z Z (AO.dX (i:=0) Z Z Z Aq Z Z Z Z Z ?_)))))));refine AR.nil [1,2,8,15,16,17] Z (AW.sr (AR.step Z Z Z (AO.bC (i:=0) Z Z Z Aq Z Z (cs 3 Z ?_))));obtain⟨b2,s5,h4,hf⟩:=gy hf;refine AR.drop1 (AR.step Z Z Z (AO.call Z _ Z Z an_ (goH _ _ _ _ _ h4 (cs 1 Z (AR.nil [1,2,15,16,17,26] Z ?_)))));refine AW.cond Z (fun h5=>?_) (fun h5=>?_)
  ·replace hf:=ql h5 hf;refine AW.sr (cs 1 Z (AR.nil [6] Z (AW.ret ?_)));cases hf;exact⟨rfl,_,⟨_,_,rfl,rfl,rfl⟩,_,List.Sublist.refl _,h⟩
  replace hf:=nZ h5 hf;refine AW.skip (AW.region (cs 2 Z (AR.nil [1,2,15,16,17] Z ?_)));exact⟨s5,(bF (i1+1)),Z,Z,Z,hf⟩
 replace hf:=nZ h1 hf;refine AW.exit (AW.sr (cs 1 Z (AR.nil [6] Z ?_)));refine AW.ret ?_;cases hf;exact⟨rfl,_,⟨_,_,rfl,rfl,rfl⟩,_,List.Sublist.refl _,h⟩
theorem Oe{β:Type}(l:Nat)(T:β→List aR)(y:β→Int→ah→Option (Bool × β))(hy:∀s1 bM v1 b s2,y s1 bM v1=some (b,s2)→AY Tryz.prog l [iP bM,.agg (aP v1)] (T s1) (fun out σ'=>out=.ret (.bool b)∧σ'=T s2)):
  ∀(k:Nat) (s1:β) (v1:ah) (bM:Int) (b:Bool) (s2:β),gH y k s1 v1 bM=some (b,s2)→∀ {Q:dN→List aR→Prop},Q (.ret (.bool b)) (T s2)→PC 119 [.agg (aP v1),iP bM,.val (.func (.yield l) #[] #[])] (T s1) Q
 | 0,_,_,_,_,_,hz=>by cases hz
 | k+1,s1,v1,bM,b,s2,hz=>fun h=>XV l T (gH y k) (fun s1 v1 bM b s2 hz=>Oe l T y hy k s1 v1 bM b s2 hz) y hy s1 v1 bM hz h
theorem Je{β:Type}(l:Nat)(T:β→List aR)(y:β→Int→ah→Option (Bool × β))(hy:∀s1 bM v1 b s2,y s1 bM v1=some (b,s2)→AY Tryz.prog l [iP bM,.agg (aP v1)] (T s1) (fun out σ'=>out=.ret (.bool b)∧σ'=T s2))
    (s1:β) (v1:ah) (bM:Int) {b:Bool} {s2:β} (hf:Et y s1 v1 bM=some (b,s2)) {Q:dN→List aR→Prop} (h:Q (.ret (.tuple [])) (T s2)):
    PC 118 [.val (.func (.yield l) #[] #[]),.ref (aP v1),.ref [iP bM]] (T s1) Q:=by
 refine BD 8 [] [0,1,2] Tryz.func118 Z Z Z Z Z (W 3 Z (CL Z (Oe l T y hy BIG _ _ _ _ _ hf ?_)));exact N 0 rfl ⟨rfl,_,rfl,_,List.Sublist.refl _,h⟩
theorem Md(v1:ah)(bM:Int)(h:Q (.ret (.fn 118 [.ref (aP v1),.ref [iP bM]])) τ):PC 79 [.agg (aP v1),iP bM] τ Q:=by
 refine BN 6 [.tmp 4] [0,1] Tryz.func79 Z Z Z Z Z ?_;exact M 5 Z (Y Z h)
instance ajD(v1:ah):CT Tryz.prog (Df v1) (fun r=>.ret (.bool r)) 120 [.agg (aP v1)]:=by
  unfold Df;exact Z1 ⟨58,[],[]⟩ Z Tryz.func120 Z Z Z Z
instance aku(c1:UInt8):CT Tryz.prog (FQ c1) (fun r=>.ret (.bool r)) 191 [.int .u8 (c1.toNat:Int)]:=by
  unfold FQ;exact Z1 ⟨9,[],[]⟩ Z Tryz.func191 Z Z Z Z
instance (s1 :Str) (n_ ku):LE (zU s1 n_ ku) (fun j p=>zU s1 j p) n_ ku [] [] [] [0] (fun v w p=>[(3,iP p)]) (fun v w p s=>s):=⟨Z⟩
instance anx(s1:Str):CT Tryz.prog (Ee s1) (fun r=>.ret (iP r)) 142 [.str s1]:=by
  unfold Ee;exact Z1 ⟨17,[],[]⟩ Z Tryz.func142 Z Z Z Z
instance (c1 :UInt8) (n_ ku):LE (iK c1 n_ ku) (fun j p=>iK c1 j p) n_ ku [] [] [] [1] (fun v w p=>[(0,.str p)]) (fun v w p s=>s):=⟨Z⟩
instance Y5(s1:Str)(c1:UInt8):CT Tryz.prog (strings_trimLeftByte s1 c1) (fun r=>.ret (.str r)) 230 [.str s1,.int .u8 (c1.toNat:Int)]:=by
  unfold strings_trimLeftByte;exact Z1 ⟨17,[],[]⟩ Z Tryz.func230 Z Z Z Z
instance ac7(s1:Str)(IK:Str):CT Tryz.prog (o7 s1 IK) (fun r=>.ret (.str r)) 192 [.str s1,.str IK]:=by
  unfold o7;exact Z1 ⟨37,[],[]⟩ Z Tryz.func192 Z Z Z Z
instance agW(x1:Int):CT Tryz.prog (cmp_isNaN_int x1) (fun r=>.ret (.bool r)) 196 [iP x1]:=by
  unfold cmp_isNaN_int;exact Z1 ⟨6,[],[]⟩ Z Tryz.func196 Z Z Z Z
instance Aj(x1:Int)(y1:Int):CT Tryz.prog (cmp_Compare_int x1 y1) (fun r=>.ret (iP r)) 145 [iP x1,iP y1]:=by
  unfold cmp_Compare_int;exact Z1 ⟨20,[],[]⟩ Z Tryz.func145 Z Z Z Z
instance adb(x1:Str):CT Tryz.prog (cmp_isNaN_string x1) (fun r=>.ret (.bool r)) 234 [.str x1]:=by
  unfold cmp_isNaN_string;exact Z1 ⟨6,[],[]⟩ Z Tryz.func234 Z Z Z Z
instance KQ(x1:Str)(y1:Str):CT Tryz.prog (mX x1 y1) (fun r=>.ret (iP r)) 194 [.str x1,.str y1]:=by
  unfold mX;exact Z1 ⟨20,[],[]⟩ Z Tryz.func194 Z Z Z Z
instance (JA :List Int) (n_ ku):LE (xH JA n_ ku) (fun j p=>xH JA j p) n_ ku [] [] [] [3,6,7] (fun v w p=>[(8,iP p)]) (fun v w p s=>s):=⟨Z⟩
instance aml(JA:List Int):CT Tryz.prog (E5 JA) (fun r=>.ret (iP r)) 193 [.list (List.map acD JA)]:=by
  unfold E5;exact Z1 ⟨18,[],[]⟩ Z Tryz.func193 Z Z Z Z
instance agU(a1:Str)(b1:Str):CT Tryz.prog (xB a1 b1) (fun r=>.ret (iP r)) 143 [.str a1,.str b1]:=by
  unfold xB;exact Z1 ⟨26,[],[]⟩ Z Tryz.func143 Z Z Z Z
instance agC(x1:UInt8):CT Tryz.prog (vN x1) (fun r=>.ret (.bool r)) 195 [.int .u8 (x1.toNat:Int)]:=by
  unfold vN;exact Z1 ⟨6,[],[]⟩ Z Tryz.func195 Z Z Z Z
instance ade(x1:UInt8)(y1:UInt8):CT Tryz.prog (sG x1 y1) (fun r=>.ret (iP r)) 144 [.int .u8 (x1.toNat:Int),.int .u8 (y1.toNat:Int)]:=by
  unfold sG;exact Z1 ⟨20,[],[]⟩ Z Tryz.func144 Z Z Z Z
instance  (n_ ku Ao):LE (j5 n_ ku Ao) (fun j p=>j5 j p.1 p.2) n_ (ku,Ao) [] [] [] [] (fun v w p=>[(0,.str p.1),(1,.str p.2)]) (fun v w p s=>s):=⟨Z⟩
instance xX(a1:Str)(b1:Str):CT Tryz.prog (iR a1 b1) (fun r=>.ret (iP r)) 96 [.str a1,.str b1]:=by
  unfold iR;exact Z1 ⟨59,[],[]⟩ Z Tryz.func96 Z Z Z Z
instance : CF2 Tryz.prog iR (fun a1=>.str a1) (fun b1=>.str b1) (fun r=>.ret (iP r)) 96 []:=⟨fun x0 x1=>xX x0 x1⟩
instance (v1 :ah) (n_ ku):LE (rO v1 n_ ku) (fun j p=>rO v1 j p) n_ ku [] [] [] [1,13,14] (fun v w p=>[(15,iP p)]) (fun v w p s=>s):=⟨Z⟩
instance akf(v1:ah):CT Tryz.prog (BL v1) (fun r=>.ret (.bool r)) 121 [.agg (aP v1)]:=by
  unfold BL;exact Z1 ⟨44,[],[]⟩ Z Tryz.func121 Z Z Z Z
instance Y4(v1:ah)(bM:Int):CT Tryz.prog (Eu v1 bM) (fun r=>.ret (iP r)) 80 [.agg (aP v1),iP bM]:=by
  unfold Eu;exact Z1 ⟨78,[],[]⟩ Z Tryz.func80 Z Z Z Z
instance Gm(v1:ah):CT Tryz.prog (kD v1) (fun r=>.ret (iP r)) 43 [.agg (aP v1)]:=⟨zP rfl,fun {r0} hf {τ Q} h=>by
 unfold kD at hf;refine AC.none (AC.LZ 16 [.cell 2 38] [0] Tryz.func43 Z Z Z Z Z ?_);obtain⟨b1,s1,h1,hf⟩:=gy hf;cases hf;refine AW.sr (AR.step Z Z Z (AO.IQ Z Z Z (AR.step Z Z Z (AO.bL Z adn (fun b2=>(AR.nil [1,2] Z ?_))))));refine AW.seq (AW.sr (cs 1 Z (AR.step Z Z Z (AO.call Z _ Z Z amD (Md _ _ ?_)))));refine AR.nil [2,7] Z (AW.block (AW.rangeFunc (β:=Option Int) (X:=Int × ah) Z ah4 (fun x=>[iP x.1,.agg (aP x.2)]) (fun _=>Z) (by decide) (fun s x=>mY s x.1 x.2) (fun s=>[.box b2 [iP (s.getD 0)]]) (fun s=>s.map fun _=>.ret) (s0:=none) (s1:=s1) Z Z ?_ ?_ ?_))
 ·intro l T' hy;refine Je l T' mY (fun s1 bM v1 b s2 hh=>hy s1 (bM,v1) b s2 hh) none v1 1 h1 ⟨⟨_,Z⟩,Z⟩
 ·rintro l s ⟨bM,x1⟩ b s2 hh;unfold mY at hh;cases s with
  | some e=>cases hh
  | none=>
  refine⟨Z,?_⟩;refine B1 hh fun e1 h2 hh=>?_;refine rE.seq (rE.region Z (cs 1 Z (AR.nil [2,3,9] Z ?_)));refine rE.region Z (AR.step Z Z Z (AO.bL Z wM (fun b4=>(AR.bZ Z Z (AO.dX (i:=0) Z Z Z Aq Z Z Z Z Z (AR.nil [2,3,4] Z ?_))))));refine⟨Z,(rE.block (rE.seq (rE.region Z ?_)))⟩;refine AR.step Z Z Z (AO.bC (i:=0) Z Z Z Aq Z Z (cs 1 Z (AR.step Z Z Z (AO.call Z _ Z Z apT ((Y4 _ _).h h2 (cs 1 Z ?_))))));refine AR.nil [2,5] Z (rE.seq (rE.region Z (cs 2 Z ?_)));refine AR.nil [2,5,14] Z (rE.cond Z (fun h3=>?_) (fun h3=>?_))
  ·replace hh:=ql h3 hh;cases hh;refine rE.seq (rE.region Z (cs 1 Z (AR.bZ Z Z (AO.dX (i:=1) Z Z Z uX Z Z Z Z Z ?_))));refine AR.nil [] Z (rE.ret ?_);exact⟨Z,.cons _ (List.Sublist.refl _),Z,Z⟩
  ·replace hh:=nZ h3 hh;cases hh;refine rE.skip ?_;exact⟨Z,.cons _ (List.Sublist.refl _),Z,Z⟩
 ·intro D;cases s1 with
  | some e=>exact⟨D,_,Z,Z,_,⟨_,_,Z,⟨_,_,0,_,_,Z,Z,uX,Z⟩,Z⟩,[],aup _,h⟩
  | none=>
   show AW _ _ _ _ _ _ _;refine AW.sr (AR.bZ Z Z (AO.dX (i:=0) Z Z Z uX Z Z Z Z Z (AR.nil [2] Z (AW.ret ?_))))
   exact⟨D,[_],Z,Z,_,⟨_,_,Z,⟨_,_,0,_,_,Z,Z,uX,Z⟩,Z⟩,[],aup _,h⟩⟩
instance aeP(l1:List Str):CT Tryz.prog (t_ l1) (fun r=>.ret (.bool r)) 157 [sP l1]:=⟨zP rfl,fun {r0} hf {τ Q} h=>by
 unfold t_ at hf;refine BN 22 [.tmp 2] [0] Tryz.func157 Z Z Z Z Z (W 1 Z (AS Z (AO.TU Z (fun m6=>(U 2 Z (AS Z (AO.fU (l:=l1) Z Z Z Z FW Z Z (J 1 Z (LK2 (fun x1 y1=>[(3,.val (.map (some m6))),(7,sP l1),(8,iP (l1.length:Int)),(9,iP x1)]) (fun x1 y1=>[.obj m6 (wU y1)]) (fun dW x1 y1=>pK l1 dW x1 y1=some r0) BIG 0 [] Z Z hf (fun _ _ hz=>lM hz) ?_)))))))));intro dW x1 y1 hf;rw[pK]at hf;refine V 1 Z (C hf Z (fun h1 hf=>?_) fun h1 hf=>?_)
 ·refine B1 hf fun s1 h2 hf=>W 0 Z (AS Z (AO.dK h2 Z Z Z Z FW Z Z (U 4 Z (AS Z (AO.Lb (i:=0) (l:=y1) Z Z Z Z Oh uN aeV (U 1 Z (AR.bZ Z Z (AO.MS (i:=0) (l:=y1) Z Z Z Z Z Oh uN (U 2 Z (AS Z (AO.Lb (i:=0) (l:=(sJ y1 s1 (bF ((nX y1 s1)+1)))) Z Z Z Z Oh uN aeV ?_)))))))))));refine J 1 Z (C hf Z (fun h3 hf=>?_) fun h3 hf=>?_)
  ·cases hf;exact M 1 Z (Y Z h)
  exact M 2 Z ⟨(bF (x1+1)),(sJ y1 s1 (bF ((nX y1 s1)+1))),Z,Z,Z,hf⟩
 cases hf;exact M 1 Z (Y Z h)⟩
instance akp(e1:ak)(bM:Int):CT Tryz.prog (Ce e1 bM) (fun r=>.ret (iP r)) 107 [.agg (bJ e1),iP bM]:=by
  unfold Ce;exact Z1 ⟨65,[],[]⟩ Z Tryz.func107 Z Z Z Z
section
variable (kS : ak → Int → Option Int) [afX : ∀(jo : ak) (gI : Int), CT Tryz.prog (kS jo gI) (fun r => .ret (iP r)) 63 [.agg (bJ jo), iP gI]]
instance (e1 :ak) (bM:Int) (n_ ku):LE (tZ kS e1 bM n_ ku) (fun j p=>tZ kS e1 bM j p) n_ ku [] [] [] [1,16,17] (fun v w p=>[(18,iP p)]) (fun v w p s=>s):=⟨Z⟩
instance Qu(e1:ak)(bM:Int):CT Tryz.prog (zD kS e1 bM) (fun r=>.ret (iP r)) 63 [.agg (bJ e1),iP bM]:=by
  unfold zD;exact Z1 ⟨30,[],[]⟩ Z Tryz.func63 Z Z Z Z
end
theorem J_:∀k:Nat,(∀(jo:ak) (gI:Int),CT Tryz.prog (pJ k jo gI) (fun r=>.ret (iP r)) 63 [.agg (bJ jo),iP gI])
  | 0=>fun _ _=>CT.none Z
  | k+1=>by
    obtain (i0):=J_ k;exact fun jo gI=>Qu _ jo gI
instance ajG(jo:ak)(gI:Int):CT Tryz.prog (Ii jo gI) (fun r=>.ret (iP r)) 63 [.agg (bJ jo),iP gI]:=(J_ BIG) jo gI
instance KN(e1:ak):CT Tryz.prog (je e1) (fun r=>.ret (iP r)) 37 [.agg (bJ e1)]:=by
  unfold je;exact Z1 ⟨8,[],[]⟩ Z Tryz.func37 Z Z Z Z
section
variable [D8]
instance akr(iX:List aA):CT Tryz.prog (Cg iX) (fun r=>.ret (.tuple [.agg (bJ r.1),iP r.2.1,iP r.2.2])) 54 [.list (List.map aA.cells iX)]:=by
  unfold Cg;exact Z1 ⟨27,[],[]⟩ Z Tryz.func54 Z Z Z Z
end
instance ajI(iX:List aA)(n1:Int)(bU:Str):CT Tryz.prog (Dr iX n1 bU) (fun r=>.ret (iP r)) 55 [.list (List.map aA.cells iX),iP n1,.str bU]:=by
  unfold Dr;exact Z1 ⟨18,[],[]⟩ Z Tryz.func55 Z Z Z Z
section
variable [D8]
instance U8(bU:Str):CT Tryz.prog (zI bU) (fun r=>.ret (.tuple [.agg (bJ r.1),iP r.2.1,iP r.2.2])) 30 [.str bU]:=by
  unfold zI;exact Z1 ⟨46,[],[(8,1,6,7,0)]⟩ Z Tryz.func30 Z Z Z Z
end
section
variable [D8]
theorem Ag{b:Nat}{vp v p:Value}{kF r0:List aS}{text1:Str}(hf:kY kF text1=some r0)(hroom:roomy v=true){R:dN→List aR→Prop}(h:∀vp',R (.ret (.tuple [])) [.lZ b 77 [(.own vp' ((List.map aS.cells r0))),.val (.pointer none),.own (.slice none 0 0) (List.map iE [])],.row vp' ((List.map aS.cells r0)).length 12 56]):PC 31 [pP b] [.row v (List.length text1) 1 5,.lZ b 77 [(.own vp ((List.map aS.cells kF))),.val p,.own v (List.map iE text1)],.row vp ((List.map aS.cells kF)).length 12 56] R:=by
 unfold kY at hf;refine AC.lD 25 [] [0] Tryz.func31 Z Z Z Z Z (AW.seq (AW.sr (AR.step Z Z Z (AO.calc' Z ?_))));refine AR.step Z Z Z (AO.nilCheck Z Z (AR.step Z Z Z (AO.bR Z Z Lf (AR.step Z Z Z (AO.call Z _ Z Z ap5 (AC.frame (σ:=[_,_]) (τ:=[_]) (ajq (AR.step Z Z Z (AO.calc' Z ?_)))))))));refine AR.nil [0,6] Z (AW.cond Z (fun h1=>?_) (fun h1=>?_))
 ·replace hf:=ql h1 hf;refine AW.aew 4 12 [] [.row v (List.length text1) 1 5,.lZ b 77 [(.own vp ((List.map aS.cells kF))),.val p,.own v (List.map iE text1)],.row vp ((List.map aS.cells kF)).length 12 56] (fun S e s=>∃v2:Value,e.get 0=pP b∧e.get 7=pP b∧e.get 10=pP b∧(S 4=true→e.get 11=.own vp ((List.map aS.cells kF)))∧(S 5=true→e.get 12=pP b)∧(S 6=true→e.get 13=pP b)∧(S 7=true→e.get 14=.val (.pointer (some ⟨b,1,none⟩)))∧(S 8=true→e.get 15=.str text1)∧(S 9=true→e.get 16=.agg [.str text1,.bool false,iP 0,.str ([]:Str),iP 0,.bool false,iP 0,.str ([]:Str),.own (.slice none 0 0) [],.own (.slice none 0 0) [],.own (.slice none 0 0) [],.own (.slice none 0 0) []])∧(S 10=true→e.get 17=.list ((List.map aS.cells [(aS.mk text1 false (ak.mk 0 ([]:Str) (ah.mk 0 false 0 ([]:Str) [] []) [] []))])))∧(S 11=true→e.get 18=.own v2 ((List.map aS.cells r0)))∧s=(bif S 8 then []else [.row v (List.length text1) 1 5])++[.lZ b 77 [(.own vp ((List.map aS.cells kF))),.val p,.own v (List.map iE text1)],bif S 11 then .row v2 ((List.map aS.cells r0)).length 12 56 else .row vp ((List.map aS.cells kF)).length 12 56]) mixed (by kernel_rfl) Z Z (List.Perm.refl _) ?_ ?_ ?_ ?_
  ·refine Ev.cs gB 4 Z (Ev.nil ?_);exact⟨.nilIface,Z,Z,Z,(fun h=>by cases h),(fun h=>by cases h),(fun h=>by cases h),(fun h=>by cases h),(fun h=>by cases h),(fun h=>by cases h),(fun h=>by cases h),(fun h=>by cases h),Z⟩
  ·rintro S S' e s hS ⟨v2,p0,p7,VA,q4,q5,q6,q7,q8,q9,q10,q11,qs⟩;have z:=fun i h1 h2=>(hS i h1 h2).symm;refine⟨v2,p0,p7,VA,?_,?_,?_,?_,?_,?_,?_,?_,?_⟩
   ·rw[z 4 (by decide) (by decide)];exact q4
   ·rw[z 5 (by decide) (by decide)];exact q5
   ·rw[z 6 (by decide) (by decide)];exact q6
   ·rw[z 7 (by decide) (by decide)];exact q7
   ·rw[z 8 (by decide) (by decide)];exact q8
   ·rw[z 9 (by decide) (by decide)];exact q9
   ·rw[z 10 (by decide) (by decide)];exact q10
   ·rw[z 11 (by decide) (by decide)];exact q11
   ·rw[z 8 (by decide) (by decide),z 11 (by decide) (by decide)];exact qs
  ·rintro S e s i o ⟨v2,p0,p7,VA,q4,q5,q6,q7,q8,q9,q10,q11,rfl⟩ hi1 hi2 VN hp' ho;have hi:i=4∨i=5∨i=6∨i=7∨i=8∨i=9∨i=10∨i=11:=by omega
   rcases hi with rfl|rfl|rfl|rfl|rfl|rfl|rfl|rfl
   ·cases ho;refine⟨Z,(fun t ht=>by cases ht;decide),AO.less (Less.add VA Less.nil) ?_⟩;cases h8:S 8 with
    | false=>
     refine AO.j4 (i:=1) Z Z Z SG Z Z ?_;exact⟨v2,p0,p7,VA,(fun _=>Z),q5,q6,q7,(fun h=>by rw[show S 8=true from h]at h8;cases h8),q9,q10,q11,by simp[h8]⟩
    | true=>
     refine AO.j4 (i:=0) Z Z Z SG Z Z ?_;exact⟨v2,p0,p7,VA,(fun _=>Z),q5,q6,q7,q8,q9,q10,q11,by simp[h8]⟩
   ·cases ho;refine⟨Z,(fun t ht=>by cases ht;decide),AO.less (Less.add p0 Less.nil) (AO.calc' Z ?_)⟩;exact⟨v2,p0,p7,VA,q4,(fun _=>Z),q6,q7,q8,q9,q10,q11,Z⟩
   ·cases ho;have s5:=hp' 5 (any_beq.1 Z) (by decide);refine⟨Z,(fun t ht=>by cases ht;decide),AO.less (Less.add (q5 s5) Less.nil) (AO.nilCheck Z Z ?_)⟩;exact⟨v2,p0,p7,VA,q4,q5,(fun _=>Z),q7,q8,q9,q10,q11,Z⟩
   ·cases ho;have s6:=hp' 6 (any_beq.1 Z) (by decide);refine⟨Z,(fun t ht=>by cases ht;decide),AO.less (Less.add (q6 s6) Less.nil) (AO.bR Z Z Lf ?_)⟩;exact⟨v2,p0,p7,VA,q4,q5,q6,(fun _=>Z),q8,q9,q10,q11,Z⟩
   ·cases ho;have s7:=hp' 7 (any_beq.1 Z) (by decide);rw[VN];refine⟨Z,(fun t ht=>by cases ht;decide),AO.less (Less.add (q7 s7) Less.nil) ?_⟩;refine AO.call Z _ Z Z ap4 (AC.frame (σ:=[_,_]) (τ:=[_]) (abe hroom ?_));exact⟨v2,p0,p7,VA,q4,q5,q6,q7,(fun _=>Z),q9,q10,q11,Z⟩
   ·cases ho;have s8:=hp' 8 (any_beq.1 Z) (by decide);refine⟨Z,(fun t ht=>by cases ht;decide),AO.less (Less.add (q8 s8) Less.nil) (AO.build Z Zk ahA Z ?_)⟩;exact⟨v2,p0,p7,VA,q4,q5,q6,q7,q8,(fun _=>Z),q10,q11,Z⟩
   ·cases ho;have s9:=hp' 9 (any_beq.1 Z) (by decide);refine⟨Z,(fun t ht=>by cases ht;decide),AO.less (Less.add (q9 s9) Less.nil) (AO.bN ((List.map aS.cells [(aS.mk text1 false (ak.mk 0 ([]:Str) (ah.mk 0 false 0 ([]:Str) [] []) [] []))])) rfl adQ rfl rfl rfl (by first|rfl|simp only[List.map,aS.aQ]) ?_)⟩
    exact⟨v2,p0,p7,VA,q4,q5,q6,q7,q8,q9,(fun _=>Z),q11,Z⟩
   ·cases ho;have s4:=hp' 4 (any_beq.1 Z) (by decide);have s8:=hp' 8 (any_beq.1 Z) (by decide);have s10:=hp' 10 (any_beq.1 Z) (by decide);rw[VN,s8];refine⟨Z,(fun t ht=>by cases ht;decide),AO.less (Less.add (q4 s4) (Less.add (q10 s10) Less.nil)) ?_⟩;refine AO.tQ (i:=1) (l:=kF) (m:=[(aS.mk text1 false (ak.mk 0 ([]:Str) (ah.mk 0 false 0 ([]:Str) [] []) [] []))]) hf Z Z Z Z Z Z Z adQ Jb Z Z Z (aS.fA) (aS.cells_one) (by decide) (fun v3 s2 hs2=>?_);cases hs2;exact⟨v3,p0,p7,VA,q4,q5,q6,q7,q8,q9,q10,(fun _=>Z),by simp[s8]⟩
  rintro S e s hS ⟨v2,p0,p7,VA,q4,q5,q6,q7,q8,q9,q10,q11,rfl⟩;rw[hS 8 (by decide) (by decide),hS 11 (by decide) (by decide)];refine AR.less (Less.add p0 (Less.add p7 (Less.add (q11 (hS 11 (by decide) (by decide))) Less.nil))) ?_;refine AR.step Z Z Z (AO.nilCheck Z Z (AR.step Z Z Z (AO.bR Z Z Sb ?_)));refine AR.bZ Z Z (AO.sW (i:=0) Z Z Z SG Z Z Z Z Z ?_);refine AR.nil [0] Z (AW.region (AR.step Z Z Z (AO.calc' Z (AR.step Z Z Z (AO.nilCheck Z Z ?_)))));refine AR.step Z Z Z (AO.bR Z Z Lf (AR.step Z Z Z (AO.call Z _ Z Z amF (AC.frame (σ:=[_]) (τ:=[_]) (UQ (AR.nil [] Z ?_))))));exact⟨Z,[],Z,_,List.Sublist.refl _,h v2⟩
 ·obtain rfl:=Option.some.inj (nZ h1 hf);refine AW.skip (AW.drop1 (AW.region (AR.step Z Z Z (AO.calc' Z ?_))));refine AR.step Z Z Z (AO.nilCheck Z Z (AR.step Z Z Z (AO.bR Z Z Lf (AR.step Z Z Z (AO.call Z _ Z Z amF (AC.frame (σ:=[_]) (τ:=[_]) (UQ (AR.nil [] Z ?_))))))));exact⟨Z,[],Z,_,List.Sublist.refl _,h vp⟩
instance vT(s1:Str):CT Tryz.prog (oF s1) (fun r=>.ret (.tuple [.list (List.map aS.cells r.1),iP r.2.1,iP r.2.2])) 12 [.str s1]:=⟨zP rfl,fun {r} hf {τ Q} h=>by
 obtain⟨r0,r1,r2⟩:=r;unfold oF at hf;refine AC.none (AC.lD 76 [.tmp 2,.tmp 3,.tmp 4] [0] Tryz.func12 Z Z Z Z Z (AW.sr (AR.step Z Z Z (AO.kr Z Z ?_))));refine cs 2 Z (AR.nil [0] Z (AW.seq (AW.sr ?_)));refine cs 1 Z (AR.step Z Z Z (AO.wF Z Z Z Z uN Z (cs 1 Z (AR.nil [0,14] Z ?_))));refine AW.cond Z (fun h1=>?_) (fun h1=>?_)
 ·replace hf:=ql h1 hf;refine AW.sr (AR.step Z Z Z (AO.kr Z Z (cs 2 Z (AR.nil [2,3,4] Z ?_))));refine AW.ret ?_;cases hf;exact⟨rfl,_,⟨_,_,rfl,rfl,_,_,rfl,rfl,_,_,rfl,rfl,rfl⟩,[],aup _,h⟩
 replace hf:=nZ h1 hf;refine AW.skip (AW.row 12 56 (AW.sr ?_));refine AR.step Z Z Z (AO.ac6 Z apn (fun b=>?_));refine AR.nil [0,5] Z (AW.row 1 5 (AW.seq (AW.sr ?_)));refine cs 1 Z (AR.nil [0,5,6] Z (AW.block (AW.settle [0,5,6] Z ?_)));refine AW.aoj (fun dP kF vp text1 vt p=>[(0,.str s1),(5,pP b),(6,iP dP)]) (fun dP kF vp text1 vt p=>[.row vt (List.length text1) 1 5,.lZ b 77 [(.own vp ((List.map aS.cells kF))),.val p,.own vt (List.map iE text1)],.row vp ((List.map aS.cells kF)).length 12 56]) (fun dW dP kF vp text1 vt p=>kR s1 dW dP kF text1=some (r0,r1,r2)∧(p=Value.pointer none∨p=.pointer (some ⟨b,1,none⟩))∧roomy vt=true) BIG 0 [] (.slice none 0 0) [] (.slice none 0 0) (.pointer none) Z Z ⟨hf,.inl Z,Z⟩ (fun _ _ _ _ _ _ hz=>lM hz.1) ?_;intro dW dP kF vp text1 vt p hfI;obtain⟨hf,hp,hroom⟩:=hfI;rw[kR]at hf;refine AW.seq (AW.sr (cs 2 Z (AR.step Z Z Z (AO.wF Z Z Z Z uN Z ?_))));refine cs 1 Z (AR.nil [0,5,6,18] Z (AW.cond Z (fun h2=>?_) (fun h2=>?_)))
 ·replace hf:=ql h2 hf;refine AW.skip (AW.block (AW.sr (cs 2 Z ?_)));refine B1 hf fun NJ h3 hf=>AR.step Z Z Z (AO.ab2 h3 Z uN Z ⟨_,Z⟩ Z (cs 1 Z (AR.nil [0,5,6,7] Z (AW.block ?_))));refine AW.sr (cs 1 Z ?_);refine B1 hf fun b1 h4 hf=>AR.step Z Z Z (AO.call Z _ Z Z amK ((Db _ _).h h4 (cs 1 Z (AR.nil [0,5,6,7,29] Z (AW.cond Z (fun h5=>?_) (fun h5=>?_))))))
  ·replace hf:=ql h5 hf;refine B1 hf fun ZJ h6 hf=>AW.sr (AR.step Z Z Z (AO.bR Z Z Lf (AR.step Z Z Z (AO.call Z _ Z Z amJ (AC.frame (σ:=[_,_]) (τ:=[_]) (KH hp hroom h6 (fun v2 hr2=>(AR.nil [0,5,6] Z ?_))))))));refine AW.region (cs 3 Z (AR.nil [0,5,6] Z ?_));exact⟨(bF (dP+2)),kF,vp,ZJ,v2,_,Z,Z,Z,hf,.inr Z,hr2⟩
  replace hf:=nZ h5 hf;refine B1 hf fun b2 h6 hf=>AW.sr (cs 1 Z (AR.step Z Z Z (AO.call Z _ Z Z amK ((Db _ _).h h6 (cs 1 Z ?_)))));refine AR.nil [0,5,6,36] Z (AW.cond Z (fun h7=>?_) (fun h7=>?_))
  ·replace hf:=ql h7 hf;refine AW.sr (cs 3 Z ?_);refine B1 hf fun uP h8 hf=>AR.step Z Z Z (AO.call Z _ Z Z ap3 ((Qz _ _).h h8 (cs 1 Z (AR.nil [0,5,6,8] Z (AW.seq ?_)))));refine AW.sr (cs 2 Z (AR.nil [0,5,6,8,44] Z (AW.cond Z (fun h9=>?_) (fun h9=>?_))))
   ·replace hf:=ql h9 hf;refine AW.sr (cs 1 Z (AR.step Z Z Z (AO.kr Z Z (cs 2 Z ?_))));refine AR.nil [2,3,4] Z (AW.ret ?_);cases hf;exact⟨rfl,_,⟨_,_,rfl,rfl,_,_,rfl,rfl,_,_,rfl,rfl,rfl⟩,[],aup _,h⟩
   replace hf:=nZ h9 hf;refine AW.skip (AW.sr (cs 4 Z ?_));refine B1 hf fun x1 h10 hf=>AR.step Z Z Z (AO.ab2 h10 Z uN Z ⟨_,Z⟩ ⟨_,Z⟩ ?_);obtain⟨e1,n1,nL,h11,hf⟩:=wK hf;refine AR.step Z Z Z (AO.call Z _ Z Z ap2 ((U8 _).h h11 (cs 4 Z (AR.step Z Z Z (AO.bL Z LK (fun b9=>(AR.bZ Z Z (AO.dX (i:=0) Z Z Z Ap Z Z Z Z Z ?_))))))));refine cs 2 Z (AR.nil [0,5,6,8,9,10,11] Z (AW.seq (AW.sr ?_)));refine cs 2 Z (AR.nil [0,5,6,8,9,10,11,57] Z (AW.cond Z (fun h12=>?_) (fun h12=>?_)))
   ·replace hf:=ql h12 hf;refine AW.sr (cs 5 Z (AR.step Z Z Z (AO.kr Z Z (cs 2 Z ?_))));refine AR.nil [2,3,4] Z (AW.ret ?_);cases hf;exact⟨rfl,_,⟨_,_,rfl,rfl,_,_,rfl,rfl,_,_,rfl,rfl,rfl⟩,[],aup _,h⟩
   replace hf:=nZ h12 hf;refine B1 hf fun Yo L_ hf=>B1 hf fun Yn Kk hf=>AW.skip (AW.sr (AR.step Z Z Z (AO.call Z _ Z Z amI (AC.perm (aft _ _ _ _) (AC.frame (σ:=[_,_,_]) (τ:=[_]) (Ag L_ hroom (fun vp2=>(AR.nil [0,5,8,9] Z ?_))))))));refine AW.row 1 5 (AW.sr (AR.step Z Z Z (AO.bR Z Z Sb ?_)));refine AR.step Z Z Z (AO.j4 (i:=1) Z Z Z SG Z Z ?_);refine AR.step rfl rfl rfl (AO.bC (i:=3) rfl rfl rfl Ap rfl rfl (AR.step rfl rfl rfl (AO.build rfl Zk ahA rfl (AR.step rfl rfl rfl (AO.bN ((List.map aS.cells [(aS.mk ([]:Str) true e1)])) rfl adQ rfl rfl rfl (by first|rfl|simp only[List.map,aS.aQ]) ?_)))));refine AR.step Z Z Z (AO.tQ (i:=2) (l:=Yo) (m:=[(aS.mk ([]:Str) true e1)]) Kk Z Z Z Z Z Z Z adQ Jb Z Z Z (aS.fA) (aS.cells_one) (by decide) (fun vp3 s2 hs2=>?_));cases hs2
   refine AR.step Z Z Z (AO.bR Z Z Sb ?_);refine AR.bZ Z Z (AO.sW (i:=1) Z Z Z SG Z Z Z Z Z ?_);refine AR.nil [0,5,8] Z (AW.ai6 3 Z (AW.region (cs 3 Z ?_)));refine AR.nil [0,5,6] Z ?_;exact⟨(bF (uP+1)),Yn,vp3,[],.slice none 0 0,_,Z,Z,Z,hf,.inl Z,Z⟩
  replace hf:=nZ h7 hf;refine B1 hf fun c1 h8 hf=>B1 hf fun aht h9 hf=>AW.sr (AR.step Z Z Z (AO.bR Z Z Lf (cs 2 Z (AR.step Z Z Z (AO.xQ h8 Z uN Z Z ?_)))));refine AR.step Z Z Z (AO.call Z _ Z Z amJ (AC.frame (σ:=[_,_]) (τ:=[_]) (KH hp hroom h9 (fun v2 hr2=>(AR.nil [0,5,6] Z (AW.region (cs 3 Z ?_)))))));refine AR.nil [0,5,6] Z ?_;exact⟨(bF (dP+1)),kF,vp,aht,v2,_,Z,Z,Z,hf,.inr Z,hr2⟩
 replace hf:=nZ h2 hf;refine B1 hf fun adX h3 hf=>AW.exit (AW.sr (AR.step Z Z Z (AO.call Z _ Z Z amI (Ag h3 hroom (fun vp2=>(AR.nil [5] Z ?_))))));refine AW.sr (AR.step Z Z Z (AO.bR Z Z Sb ?_));refine AR.step Z Z Z (AO.j4 (i:=0) Z Z Z SG Z Z ?_);refine cs 3 Z (AR.nil [2,3,4] Z (AW.ret ?_));cases hf;exact⟨rfl,_,⟨_,_,rfl,rfl,_,_,rfl,rfl,_,_,rfl,rfl,rfl⟩,[],aup _,h⟩⟩
end
instance ada(dJ:List aF):CT Tryz.prog (G9 dJ) (fun r=>.ret (iP r)) 20 [.list (List.map aF.cells dJ)]:=⟨zP rfl,fun {r0} hf {τ Q} h=>by
 unfold G9 at hf;refine BN 39 [.tmp 2] [0] Tryz.func20 Z Z Z Z Z (W 2 Z (AS Z (AO.fU (l:=dJ) Z Z Z Z Jc Z Z (J 1 Z (C hf Z (fun h1 hf=>?_) fun h1 hf=>?_)))))
 ·cases hf;exact M 1 Z (Y Z h)
 refine W 0 Z (AS Z (AO.TU Z (fun m10=>(U 2 Z (AS Z (AO.fU (l:=dJ) Z Z Z Z Jc Z Z (J 1 Z (LK2 (fun x1 y1=>[(3,.val (.map (some m10))),(11,.list (List.map aF.cells dJ)),(12,iP (dJ.length:Int)),(13,iP x1)]) (fun x1 y1=>[.obj m10 (wU y1)]) (fun dW x1 y1=>Cq dJ dW x1 y1=some r0) BIG 0 [] Z Z hf (fun _ _ hz=>lM hz) ?_))))))));intro dW x1 y1 hf;rw[Cq]at hf;refine V 1 Z (C hf Z (fun h2 hf=>?_) fun h2 hf=>?_)
 ·refine B1 hf fun e1 h3 hf=>W 0 Z (AS Z (AO.dK h3 Z Z Z Z Jc (aF.aQ _) Z (U 1 Z (AS Z (AO.bL Z ado (fun b5=>?_))))));refine B1 hf fun x2 h4 hf=>Rr 4 [0,0] Z Z (CL Z ((KN _).h h4 (J 1 Z (C hf Z (fun h5 hf=>?_) fun h5 hf=>?_))))
  ·cases hf;exact M 1 Z (Y Z h)
  refine B1 hf fun e2 h6 hf=>Wr 2 [0] Z Z (CL Z ((Gm _).h h6 (J 3 Z (C hf Z (fun h7 hf=>?_) fun h7 hf=>?_))))
  ·cases hf;exact M 2 Z (Y Z h)
  refine Wr 3 [0] Z Z (AS Z (AO.Lb (i:=1) (l:=y1) Z Z Z Z Oh uN aeV (U 1 Z (AR.bZ Z Z (AO.MS (i:=1) (l:=y1) Z Z Z Z Z Oh uN (Rr 3 [0] Z Z (AS Z (AO.Lb (i:=1) (l:=(sJ y1 e1.name (bF ((nX y1 e1.name)+1)))) Z Z Z Z Oh uN aeV (J 1 Z (C hf Z (fun h8 hf=>?_) fun h8 hf=>?_))))))))))
  ·cases hf;exact M 1 Z (Y Z h)
  refine Wn0 2 Z (AR.drop1 ?_);exact N 0 Z ⟨(bF (x1+1)),(sJ y1 e1.name (bF ((nX y1 e1.name)+1))),Z,Z,Z,hf⟩
 cases hf;exact M 1 Z (Y Z h)⟩
instance akw(e1:ak)(dJ:List aF):CT Tryz.prog (FV e1 dJ) (fun r=>.ret (.tuple [.list (List.map aF.cells r.1),iP r.2])) 81 [.agg (bJ e1),.list (List.map aF.cells dJ)]:=by
  unfold FV;exact Z1 ⟨19,[],[]⟩ Z Tryz.func81 Z Z Z Z
@[reducible] def Zn:fG aG Unit→dN
  | .ok r=>.ret (.tuple [])
  | .bad e=>.panic (.iface 157 (.agg [iP e.code]))
instance anA(e1:Int):CT Tryz.prog (Bb e1) (fun r=>Zn r) 205 [iP e1]:=by
  unfold Bb;exact Z1 ⟨5,[],[]⟩ Z Tryz.func205 Z Z Z Z
@[reducible] def Nq:fG aG ah→dN
  | .ok r=>.ret (.agg (aP r))
  | .bad e=>.panic (.iface 157 (.agg [iP e.code]))
instance (s1 :List aF) (name1:Str) (n_ ku):LE (pV s1 name1 n_ ku) (fun j p=>pV s1 name1 j p) n_ ku [] [] [] [1,4,7,8] (fun v w p=>[(9,iP p)]) (fun v w p s=>s):=⟨Z⟩
instance F6(s1:List aF)(name1:Str):CT Tryz.prog (um s1 name1) (fun r=>Nq r) 159 [.list (List.map aF.cells s1),.str name1]:=by
  unfold um;exact Z1 ⟨22,[],[]⟩ Z Tryz.func159 Z Z Z Z
instance Rj(s1:Str):CT Tryz.prog (mW s1) (fun r=>.ret (.agg (aP r))) 161 [.str s1]:=by
  unfold mW;exact Z1 ⟨5,[],[]⟩ Z Tryz.func161 Z Z Z Z
instance apk(v1:ah)(eP:Int):CT Tryz.prog (iU v1 eP) (fun r=>.ret (.bool r)) 206 [.agg (aP v1),iP eP]:=by
  unfold iU;exact Z1 ⟨9,[],[]⟩ Z Tryz.func206 Z Z Z Z
@[reducible] def Zm:fG aG Unit→dN
  | .ok r=>.ret (.tuple [])
  | .bad e=>.panic (.iface 157 (.agg [iP e.code]))
instance sV(ok1:Bool)(e1:Int):CT Tryz.prog (dV ok1 e1) (fun r=>Zm r) 169 [.bool ok1,iP e1]:=by
  unfold dV;exact Z1 ⟨8,[],[]⟩ Z Tryz.func169 Z Z Z Z
instance (s1 :List Str) (v1:Str) (n_ ku):LE (iH s1 v1 n_ ku) (fun j p=>iH s1 v1 j p) n_ ku [] [] [] [0,1,7] (fun v w p=>[(8,iP p)]) (fun v w p s=>s):=⟨Z⟩
instance Qs(s1:List Str)(v1:Str):CT Tryz.prog (jh s1 v1) (fun r=>.ret (iP r)) 240 [sP s1,.str v1]:=by
  unfold jh;exact Z1 ⟨19,[],[]⟩ Z Tryz.func240 Z Z Z Z
instance Qt(s1:List Str):CT Tryz.prog (kQ s1) (fun r=>.ret (sP r)) 94 [sP s1]:=⟨zP rfl,fun {r0} hf {τ Q} h=>by
 unfold kQ at hf;refine BN 8 [.tmp 2] [0] Tryz.func94 Z Z Z Z Z (W 0 Z (AS Z (AO.kr Z Z (U 1 Z (AS Z (AO.DL Z Z amu (fun b hb=>(J 0 Z (AW.cond Z (fun h1=>?_) (fun h1=>?_))))))))))
 ·obtain rfl:s1=[]:=aut.1 (hb h1);obtain⟨_,rfl⟩:=Fa hf;refine W 0 Z (AS Z (AO.kr Z Z ?_));exact N 0 rfl ⟨rfl,_,⟨_,_,rfl,rfl,rfl⟩,_,List.Sublist.refl _,h⟩
 refine W 0 Z (AS Z (AO.xW [] Z QJ Z Z Z Z Z (fun v1=>(U 1 Z (AS Z (AO.tQ (i:=0) (l:=[]) (m:=s1) hf Z Z Z Z Z Z Z QJ FW Z Z Z (fun _=>Z) (fun _=>Z) (by decide) (fun v2 s2 hs2=>?_)))))));cases hs2;exact N 1 Z (Y Z h)⟩
section
variable (lQ : ah → Option ah) [agJ : ∀(nS : ah), CT Tryz.prog (lQ nS) (fun r => .ret (.agg (aP r))) 241 [.agg (aP nS)]]
instance (v1 :ah) (n_ ku Ao):LE (uU lQ v1 n_ ku Ao) (fun j p=>uU lQ v1 j p.1 p.2) n_ (ku,Ao) [] [(1,[4])] [(9999,6,29)] [2,3,13,14] (fun v w p=>[(15,iP p.1)]) (fun v w p s=>AZ 1 [iP p.2.kind,.bool p.2.dZ,iP p.2.eB,.str p.2.bV,.own v (List.map ah.cells p.2.aO),sP p.2.keys] (putRow 0 v ((List.map ah.cells p.2.aO).length) (s))):=⟨Z⟩
instance RF(v1:ah):CT Tryz.prog (Bl lQ v1) (fun r=>.ret (.agg (aP r))) 241 [.agg (aP v1)]:=by
  unfold Bl;exact Z1 ⟨28,[],[]⟩ Z Tryz.func241 Z Z Z Z
end
theorem L6:∀k:Nat,(∀(nS:ah),CT Tryz.prog (oK k nS) (fun r=>.ret (.agg (aP r))) 241 [.agg (aP nS)])
  | 0=>fun _=>CT.none Z
  | k+1=>by
    obtain (i0):=L6 k;exact fun nS=>RF _ nS
instance VY(nS:ah):CT Tryz.prog (nk nS) (fun r=>.ret (.agg (aP r))) 241 [.agg (aP nS)]:=(L6 BIG) nS
instance anh(v1:ah)(key1:Str):CT Tryz.prog (Aw v1 key1) (fun r=>.ret (.tuple [.agg (aP r.1),.bool r.2])) 207 [.agg (aP v1),.str key1]:=by
  unfold Aw;exact Z1 ⟨32,[],[]⟩ Z Tryz.func207 Z Z Z Z
@[reducible] def XR:fG aG ah→dN
  | .ok r=>.ret (.agg (aP r))
  | .bad e=>.panic (.iface 157 (.agg [iP e.code]))
instance O4(m1:ah)(key1:ah):CT Tryz.prog (yF m1 key1) (fun r=>XR r) 160 [.agg (aP m1),.agg (aP key1)]:=by
  unfold yF;exact Z1 ⟨24,[],[]⟩ Z Tryz.func160 Z Z Z Z
@[reducible] def Sl:fG aG ah→dN
  | .ok r=>.ret (.agg (aP r))
  | .bad e=>.panic (.iface 157 (.agg [iP e.code]))
instance KP(a1:ah)(i1:ah):CT Tryz.prog (wI a1 i1) (fun r=>Sl r) 162 [.agg (aP a1),.agg (aP i1)]:=by
  unfold wI;exact Z1 ⟨32,[],[]⟩ Z Tryz.func162 Z Z Z Z
instance Y_(name1:Str):CT Tryz.prog (yG name1) (fun r=>.ret (iP r)) 208 [.str name1]:=by
  unfold yG;exact Z1 ⟨18,[],[]⟩ Z Tryz.func208 Z Z Z Z
instance ajS(n1:Int):CT Tryz.prog (qO n1) (fun r=>.ret (.agg (aP r))) 212 [iP n1]:=by
  unfold qO;exact Z1 ⟨5,[],[]⟩ Z Tryz.func212 Z Z Z Z
instance Za(l1:List ah):CT Tryz.prog (EY l1) (fun r=>.ret (.agg (aP r))) 167 [.list (ah.bq l1)]:=⟨zP rfl,fun {r0} hf {τ Q} h=>by
 unfold EY at hf;refine BN 5 [.cell 2 29] [0] Tryz.func167 Z Z Z Z Z (W 0 Z (AS Z (AO.bL Z wM (fun b2=>?_))));cases hf;exact Rx 3 [0] Z Z (ZC [0] Z Z h)⟩
theorem Qj(h:Q (.ret (.agg [iP 4,.bool false,iP 0,.str ([]:Str),.own (.slice none 0 0) [],.own (.slice none 0 0) []])) τ):PC 167 [.own (.slice none 0 0) []] τ Q:=by
 refine AC.none (AC.aii 5 [.cell 2 29] [0] Tryz.func167 Z Z Z Z Z (AW.sr (AR.step Z Z Z (AO.bL Z wM (fun b2=>?_)))));refine AR.nil [0,2] Z (AW.sr (cs 1 Z (AR.step Z Z Z (AO.build Z wM ahC Z ?_))));refine AR.bZ Z Z (AO.dX (i:=0) Z Z Z Aq Z Z Z Z Z (AR.nil [2] Z (AW.ret ?_)));exact⟨rfl,_,⟨_,_,rfl,⟨_,_,0,_,_,rfl,rfl,Aq,rfl⟩,rfl⟩,[],aup _,h⟩
instance anz(l1:List Str):CT Tryz.prog (A_ l1) (fun r=>.ret (.agg (aP r))) 242 [sP l1]:=⟨zP rfl,fun {r0} hf {τ Q} h=>by
 unfold A_ at hf;refine BN 22 [.cell 2 29] [0] Tryz.func242 Z Z Z Z Z (W 0 Z (AS Z (AO.bL Z wM (fun b2=>(U 0 Z (AS Z (AO.aqY Z _ Z Z an5 (Qj (AS Z (AO.bL Z wM (fun b3=>?_)))))))))));refine Rr 2 [0] Z Z (AS Z (AO.fU (l:=l1) Z Z Z Z FW Z Z ?_));refine J 1 Z (AW.row 6 29 (AW.settle [2,3,7,8,9] Z (AW.Eo 1 [false,false,false,false,false,true] Z (LK3 (fun x1 bP v1=>[(2,pP b2),(3,pP b3),(7,sP l1),(8,iP (l1.length:Int)),(9,iP x1)]) (fun x1 bP v1=>[.row v1 (ah.bq bP.aO).length 6 29,.box b3 [iP bP.kind,.bool bP.dZ,iP bP.eB,.str bP.bV,.own v1 (ah.bq bP.aO),sP bP.keys],.box b2 [iP 0,.bool false,iP 0,.str ([]:Str),.own (.slice none 0 0) [],.own (.slice none 0 0) []]]) (fun dW x1 bP v1=>zY l1 dW x1 bP=some r0) BIG 0 (ah.mk 4 false 0 ([]:Str) [] []) (.slice none 0 0) Z Z hf (fun _ _ _ hz=>lM hz) ?_))));intro dW x1 bP v1 hf;rw[zY]at hf;refine V 1 Z (C hf Z (fun h1 hf=>?_) fun h1 hf=>?_)
 ·refine B1 hf fun s1 h2 hf=>W 0 Z (AS Z (AO.dK h2 Z Z Z Z FW Z Z (J 2 Z (AW.draw 5 mixed (by kernel_rfl) Z ?_))));refine Ev.cs gB 1 Z (Ev.cons Z Z Z (AO.bC (i:=1) Z Z Z ahq Z Z zg) (Ev.cs gB 1 Z ?_));refine B1 hf fun x2 h3 hf=>Ev.cons rfl rfl rfl (AO.call rfl _ rfl rfl ah2 ((Rj _).h h3 ⟨rfl,rfl⟩)) (Ev.cons rfl rfl rfl (AO.bN (ah.bq [x2]) rfl WU rfl rfl rfl (by first|rfl|simp only[ah.aQ,ah.bq]) ⟨rfl,rfl⟩) ?_);refine Ev.nil ?_
  show AR _ _ _ _ _ _ _ _;refine B1 hf fun x3 h4 hf=>AS Z (AO.tQ (i:=0) (l:=bP.aO) (m:=[x2]) h4 Z Z Z Z Z Z Z WU Kv (ah.bA _) (ah.bA _) (ah.bA _).symm (ah.fA) (ah.cells_one) (by decide) (fun v2 s2 hs2=>?_));cases hs2;exact Rx 4 [1] Z Z ⟨(bF (x1+1)),(ah.mk bP.kind bP.dZ bP.eB bP.bV x3 bP.keys),v2,Z,Z,Z,hf⟩
 cases hf;exact Wx 2 [1,2] Z Z (ZC [2] Z Z h)⟩
instance Y9(b1:Bool):CT Tryz.prog (qL b1) (fun r=>.ret (.str r)) 171 [.bool b1]:=by
  unfold qL;exact Z1 ⟨4,[],[]⟩ Z Tryz.func171 Z Z Z Z
instance abt(b1:Bool):CT Tryz.prog (strconv_FormatBool b1) (fun r=>.ret (.str r)) 124 [.bool b1]:=by
  unfold strconv_FormatBool;exact Z1 ⟨5,[],[]⟩ Z Tryz.func124 Z Z Z Z
instance ake(s1:Str):CT Tryz.prog (BK s1) (fun r=>.ret (.str r)) 126 [.str s1]:=⟨zP rfl,fun {r0} hf {τ Q} h=>by
 unfold BK at hf;refine BN 54 [.tmp 2] [0] Tryz.func126 Z Z Z Z Z (W 1 Z (AS Z (AO.Ht (eu:=5) Z Zj Z (fun b3=>?_))));refine B1 hf fun b1 h1 hf=>U 0 Z (CL Z (AC.one 0 Z (jl h1 (fun v1=>⟨_,Z,(J 1 Z (LK3 (fun i1 b2 v2=>[(0,.str s1),(3,pP b3),(4,iP i1)]) (fun i1 b2 v2=>[.Ng b3 v2 68 5 b2]) (fun dW i1 b2 v2=>ni s1 dW i1 b2=some r0) BIG 0 b1 v1 Z Z hf (fun _ _ _ hz=>lM hz) ?_))⟩))));intro dW i1 b2 v2 hf;rw[ni]at hf;refine W 2 Z (AS Z (AO.wF Z Z Z Z uN Z (J 1 Z (C hf Z (fun h2 hf=>?_) fun h2 hf=>?_))))
 ·refine B1 hf fun c1 h3 hf=>W 2 Z (AS Z (AO.xQ h3 Z uN Z Z (U 4 Z (On 3 28 31 [0,3,4,5] ((c1.toNat:Int)==92) Z Z Z Z (J 1 Z (C hf Z (fun h5 hf=>?_) fun h5 hf=>?_))))))
  ·refine B1 hf fun b3 h6 hf=>W 0 Z (CL Z (AC.one 0 Z (jl h6 (fun v3=>⟨_,Z,?_⟩))));refine B1 hf fun b4 h7 hf=>U 1 Z (CL Z (AC.one 0 Z (jl h7 (fun v4=>⟨_,Z,?_⟩))));exact N 3 Z ⟨(bF (i1+1)),b4,v4,Z,Z,Z,hf⟩
  refine V 3 Z (C hf Z (fun h8 hf=>?_) fun h8 hf=>?_)
  ·refine B1 hf fun b5 h9 hf=>W 0 Z (CL Z (AC.one 0 Z (nM h9 (fun v5=>⟨_,Z,?_⟩))));exact N 3 Z ⟨(bF (i1+1)),b5,v5,Z,Z,Z,hf⟩
  refine V 3 Z (C hf Z (fun h10 hf=>?_) fun h10 hf=>?_)
  ·refine B1 hf fun b6 h11 hf=>W 0 Z (CL Z (AC.one 0 Z (nM h11 (fun v6=>⟨_,Z,?_⟩))));exact N 3 Z ⟨(bF (i1+1)),b6,v6,Z,Z,Z,hf⟩
  refine W 3 Z (An 3 46 49 [0,3,4,5] (decide ((c1.toNat:Int)≤126)) Z Z Z Z (J 1 Z (C hf Z (fun L_ hf=>?_) fun L_ hf=>?_)))
  ·refine B1 hf fun b7 Kk hf=>W 1 Z (CL Z (AC.one 0 Z (jl Kk (fun v7=>⟨_,Z,?_⟩))));exact N 3 Z ⟨(bF (i1+1)),b7,v7,Z,Z,Z,hf⟩
  refine B1 hf fun b8 Vn hf=>W 0 Z (CL Z (AC.one 0 Z (nM Vn (fun v8=>⟨_,Z,(U 1 Z (AS Z (AO.u8_quo c1 16 Z Z Z Z Z (by decide) ?_)))⟩))));refine B1 hf fun x1 h16 hf=>AS Z (AO.xQ h16 Z uN Z Z ?_);refine B1 hf fun b9 h17 hf=>CL Z (AC.one 0 Z (jl h17 (fun v9=>⟨_,Z,(U 1 Z (AS Z (AO.anQ c1 16 Z Z Z Z Z (by decide) ?_)))⟩)));refine B1 hf fun x2 h18 hf=>AS Z (AO.xQ h18 Z uN Z Z ?_);refine B1 hf fun b10 h19 hf=>CL Z (AC.one 0 Z (jl h19 (fun v10=>⟨_,Z,?_⟩)));exact N 3 Z ⟨(bF (i1+1)),b10,v10,Z,Z,Z,hf⟩
 refine BR hf fun b11 h20 hf=>?_;refine W 0 Z (CL Z (AC.one 0 Z (jl h20 (fun v11=>⟨_,Z,(U 0 Z (CL Z (AC.Oa 0 Z (Ah ?_))))⟩))));cases hf;exact N 1 Z (Y Z h)⟩
section
variable [D8]
def Xk:Go.Shelf.Ren:=⟨fun|156=>127|165=>104|166=>22|169=>24|240=>46|241=>150|276=>85|277=>197|n=>n,fun|31=>27|9=>9|3=>3|4=>4|0=>0|20=>20|72=>68|76=>72|70=>66|37=>45|75=>71|127=>96|164=>133|5=>5|80=>46|n=>n,fun|n=>n⟩
theorem joinL:Go.Proofs.Lays.n156 Tryz.prog Xk:=by repeat' first|(intros;kernel_rfl)|constructor|decide
theorem aqo:Go.Proofs.Builder.Extra Tryz.prog Xk:=by repeat' first|(intros;kernel_rfl)|constructor|decide
instance ajF(l1:List Str)(t1:Str):CT Tryz.prog (strings_Join l1 t1) (fun r=>.ret (.str r)) 127 [sP l1,.str t1]:=⟨zP rfl,fun {r0} hf {τ Q} h=>by
 unfold strings_Join at hf;split at hf
 case isFalse=>cases hf
 rename_i hg;cases hf;refine AC.none ?_
 exact AC.join D8.hD joinL aqo hg.1 hg.2 h⟩
end
section
variable [D8]
section
variable (eZ : ah → Option Str) [aee : ∀(nS : ah), CT Tryz.prog (eZ nS) (fun r => .ret (.str r)) 84 [.agg (aP nS)]]
instance (v1 :ah) (n_ ku Ao):LE (rM eZ v1 n_ ku Ao) (fun j p=>rM eZ v1 j p.1 p.2) n_ (ku,Ao) [3] [] [(3,1,9)] [1,28,29] (fun v w p=>[(3,.own v (List.map kg p.1)),(30,iP p.2)]) (fun v w p s=>putRow 0 v ((List.map kg p.1).length) (s)):=⟨Z⟩
instance (v1 :ah) (n_ ku Ao):LE (vZ eZ v1 n_ ku Ao) (fun j p=>vZ eZ v1 j p.1 p.2) n_ (ku,Ao) [3] [] [(3,1,9)] [1,28,29] (fun v w p=>[(3,.own v (List.map kg p.1)),(30,iP p.2)]) (fun v w p s=>putRow 0 v ((List.map kg p.1).length) (s)):=⟨Z⟩
instance OY(v1:ah):CT Tryz.prog (xJ eZ v1) (fun r=>.ret (.str r)) 84 [.agg (aP v1)]:=by
  unfold xJ;exact Z1 ⟨68,[],[]⟩ Z Tryz.func84 Z Z Z Z
end
theorem I9:∀k:Nat,(∀(nS:ah),CT Tryz.prog (xI k nS) (fun r=>.ret (.str r)) 84 [.agg (aP nS)])
  | 0=>fun _=>CT.none Z
  | k+1=>by
    obtain (i0):=I9 k;exact fun nS=>OY _ nS
instance agM(nS:ah):CT Tryz.prog (Bj nS) (fun r=>.ret (.str r)) 84 [.agg (aP nS)]:=(I9 BIG) nS
end
section
variable [D8]
instance ame(v1:ah):CT Tryz.prog (Av v1) (fun r=>.ret (.tuple [.str r.1,iP r.2])) 45 [.agg (aP v1)]:=by
  unfold Av;exact Z1 ⟨28,[],[]⟩ Z Tryz.func45 Z Z Z Z
end
instance aky(s1:Str)(lo1:UInt8)(hi1:UInt8)(Gq:Int):CT Tryz.prog (za s1 lo1 hi1 Gq) (fun r=>.ret (.str r)) 243 [.str s1,.int .u8 (lo1.toNat:Int),.int .u8 (hi1.toNat:Int),iP Gq]:=⟨zP rfl,fun {r0} hf {τ Q} h=>by
 unfold za at hf;refine BN 42 [.tmp 8] [0,1,2,3] Tryz.func243 Z Z Z Z Z (W 1 Z (AS Z (AO.Ht (eu:=5) Z Zj Z (fun b9=>(J 1 Z (LK3 (fun i1 b1 v1=>[(0,.str s1),(1,.int .u8 (lo1.toNat:Int)),(2,.int .u8 (hi1.toNat:Int)),(3,iP Gq),(9,pP b9),(10,iP i1)]) (fun i1 b1 v1=>[.Ng b9 v1 68 5 b1]) (fun dW i1 b1 v1=>sw s1 lo1 hi1 Gq dW i1 b1=some r0) BIG 0 [] (.slice none 0 0) Z Z hf (fun _ _ _ hz=>lM hz) ?_))))));intro dW i1 b1 v1 hf;rw[sw]at hf;refine W 2 Z (AS Z (AO.wF Z Z Z Z uN Z (J 1 Z (C hf Z (fun h1 hf=>?_) fun h1 hf=>?_))))
 ·refine B1 hf fun x1 h2 hf=>W 2 Z (AS Z (AO.xQ h2 Z uN Z Z ?_));refine B1 hf fun b2 h4 hf=>U 3 Z (AR.xA 6 22 28 true [0,1,2,3,9,10] b2 Z Z (fun h3=>?_) (fun h3=>?_) ?_)
  ·refine IT 22 h3 h4 Z fun h4=>?_;refine B1 h4 fun x2 h5 h4=>U 2 Z (GO Z (AO.xQ h5 Z uN Z Z ?_));cases h4;exact zm 3 Z (En [28,0,1,2,3,9,10] Z)
  ·refine IF 22 h3 h4 Z fun h4=>?_;cases h4;exact zm 6 Z (En [28,0,1,2,3,9,10] Z)
  refine J 0 Z (C hf Z (fun h6 hf=>?_) fun h6 hf=>?_)
  ·refine B1 hf fun x3 h7 hf=>W 2 Z (AS Z (AO.xQ h7 Z uN Z Z (AS Z (AO.Qe Z anM ae0 Z Z (U 2 Z (AS Z (AO.aa3 Z ae0 anM Z ?_)))))));refine B1 hf fun b3 h8 hf=>CL Z (AC.one 0 Z (jl h8 (fun v2=>⟨_,Z,?_⟩)));exact N 3 Z ⟨(bF (i1+1)),b3,v2,Z,Z,Z,hf⟩
  refine B1 hf fun x4 h9 hf=>W 2 Z (AS Z (AO.xQ h9 Z uN Z Z ?_));refine B1 hf fun b4 h10 hf=>CL Z (AC.one 0 Z (jl h10 (fun v3=>⟨_,Z,?_⟩)));exact N 3 Z ⟨(bF (i1+1)),b4,v3,Z,Z,Z,hf⟩
 refine W 0 Z (CL Z (AC.Oa 0 Z (Ah ?_)));cases hf;exact N 1 Z (Y Z h)⟩
section
variable [D8]
instance akx(s1:Str):CT Tryz.prog (vL s1) (fun r=>.ret (.tuple [iP r.1,.bool r.2])) 244 [.str s1]:=⟨zP rfl,fun {r} hf {τ Q} h=>by
 obtain⟨r0,r1⟩:=r;unfold vL at hf;refine BN 28 [.tmp 2,.tmp 3] [0] Tryz.func244 Z Z Z Z Z ?_;obtain⟨n1,Uu,h1,hf⟩:=gy hf;refine W 3 Z (CL Z ((KM _).h h1 (U 6 Z (AS Z (AO.eqNil Z amV Z Z ?_)))));refine B1 hf fun b1 h3 hf=>U 1 Z (AR.xA 5 13 18 false [4] b1 Z Z (fun h2=>?_) (fun h2=>?_) ?_)
 ·refine IF 13 h2 h3 Z fun h3=>?_;refine B1 h3 fun x1 h4 h3=>U 1 Z (GO Z (AO.call Z _ Z Z an8 ((U5 _).h h4 ?_)));cases h3;exact zm 3 Z (En [18,4] Z)
 ·refine IT 13 h2 h3 Z fun h3=>?_;cases h3;exact zm 5 Z (En [18,4] Z)
 refine U 1 Z (On 3 19 22 [4] (decide (n1<(-9007199254740992))) Z Z Z Z (U 1 Z (On 3 23 26 [4] (decide (9007199254740992<n1)) Z Z Z Z (J 0 Z (C hf Z (fun h7 hf=>?_) fun h7 hf=>?_)))))
 ·cases hf;exact M 2 Z (Y Z h)
 cases hf;exact M 3 Z (Y Z h)⟩
end
section
variable [D8]
@[reducible] def abL:fG aG ah→dN
  | .ok r=>.ret (.agg (aP r))
  | .bad e=>.panic (.iface 157 (.agg [iP e.code]))
instance Vg(name1:Str)(v1:ah):CT Tryz.prog (Kt name1 v1) (fun r=>abL r) 209 [.str name1,.agg (aP v1)]:=by
  unfold Kt;exact Z1 ⟨78,[],[]⟩ Z Tryz.func209 Z Z Z Z
end
instance Mf(b1:Bool):CT Tryz.prog (uT b1) (fun r=>.ret (iP r)) 272 [.bool b1]:=by
  unfold uT;exact Z1 ⟨4,[],[]⟩ Z Tryz.func272 Z Z Z Z
instance (yj :List ah) (yg:List ah) (Aa:ah→ah→Option Int) (n_ ku):LE (bX yj yg Aa n_ ku) (fun j p=>bX yj yg Aa j p) n_ ku [] [] [] [0,1,2,11,12] (fun v w p=>[(13,iP p)]) (fun v w p s=>s):=⟨Z⟩
instance zl(yj:List ah)(yg:List ah)(Aa:ah→ah→Option Int){E8:FuncId}{Hl:List PV}[aqT:CF2 Tryz.prog Aa (fun a0=>.agg (aP a0)) (fun a1=>.agg (aP a1)) (fun b0=>.ret (iP b0)) E8 Hl]:CT Tryz.prog (bG yj yg Aa) (fun r=>.ret (iP r)) 273 [.list (ah.bq yj),.list (ah.bq yg),.fn E8 Hl]:=by
  unfold bG;exact Z1 ⟨39,[],[]⟩ Z Tryz.func273 Z Z Z Z
theorem g_(yj yg:List ah)(Aa:ah→ah→Option Int)(E8:FuncId)(Hl:List PV)(ajk:cO Tryz.prog E8=true)(ajl:∀a0 a1 b0,Aa a0 a1=some b0→∀ {τ:List aR} {Q:dN→List aR→Prop},Q (.ret (iP b0)) τ→AC Tryz.prog E8 ([.agg (aP a0),.agg (aP a1)]++Hl) τ Q){r0:Int}(hf:bG yj yg Aa=some r0){τ:List aR}{Q:dN→List aR→Prop}(h:Q (.ret (iP r0)) τ):AC Tryz.prog 273 [.list (ah.bq yj),.list (ah.bq yg),.fn E8 Hl] τ Q:=letI:CF2 Tryz.prog Aa (fun a0=>.agg (aP a0)) (fun a1=>.agg (aP a1)) (fun b0=>.ret (iP b0)) E8 Hl:=⟨fun a b=>⟨ajk,fun {r} hx {τ Q} h=>ajl a b r hx h⟩⟩;CT.h hf h
instance (yj :List Str) (yg:List Str) (Aa:Str→Str→Option Int) (n_ ku):LE (dQ yj yg Aa n_ ku) (fun j p=>dQ yj yg Aa j p) n_ ku [] [] [] [0,1,2,11,12] (fun v w p=>[(13,iP p)]) (fun v w p s=>s):=⟨Z⟩
instance DV(yj:List Str)(yg:List Str)(Aa:Str→Str→Option Int){E8:FuncId}{Hl:List PV}[aqT:CF2 Tryz.prog Aa (fun a0=>.str a0) (fun a1=>.str a1) (fun b0=>.ret (iP b0)) E8 Hl]:CT Tryz.prog (dB yj yg Aa) (fun r=>.ret (iP r)) 274 [sP yj,sP yg,.fn E8 Hl]:=by
  unfold dB;exact Z1 ⟨39,[],[]⟩ Z Tryz.func274 Z Z Z Z
theorem oJ(yj yg:List Str)(Aa:Str→Str→Option Int)(E8:FuncId)(Hl:List PV)(ajk:cO Tryz.prog E8=true)(ajl:∀a0 a1 b0,Aa a0 a1=some b0→∀ {τ:List aR} {Q:dN→List aR→Prop},Q (.ret (iP b0)) τ→AC Tryz.prog E8 ([.str a0,.str a1]++Hl) τ Q){r0:Int}(hf:dB yj yg Aa=some r0){τ:List aR}{Q:dN→List aR→Prop}(h:Q (.ret (iP r0)) τ):AC Tryz.prog 274 [sP yj,sP yg,.fn E8 Hl] τ Q:=letI:CF2 Tryz.prog Aa (fun a0=>.str a0) (fun a1=>.str a1) (fun b0=>.ret (iP b0)) E8 Hl:=⟨fun a b=>⟨ajk,fun {r} hx {τ Q} h=>ajl a b r hx h⟩⟩;CT.h hf h
abbrev Ji(j6:ah→ah→Option Int):Prop:=∀(Bo:ah) (Bn:ah) {yc:Int},j6 Bo Bn=some yc→∀ {τ:List aR} {Q:dN→List aR→Prop} (h:Q (.ret (iP yc)) τ),PC 250 [.agg (aP Bo),.agg (aP Bn)] τ Q
theorem Rp(j6)(FR:Ji j6)(a1 b1:ah){r0:Int}(hf:xK j6 a1 b1=some r0)(h:Q (.ret (iP r0)) τ):PC 250 [.agg (aP a1),.agg (aP b1)] τ Q:=by
 unfold xK at hf;refine BN 62 [.tmp 4] [0,1] Tryz.func250 Z Z Z Z Z ?_;refine B1 hf fun c1 h1 hf=>W 7 Z (CL Z ((Aj _ _).h h1 (J 3 Z (C hf Z (fun h2 hf=>?_) fun h2 hf=>?_))))
 ·cases hf;exact M 2 Z (Y Z h)
 refine V 4 Z (C hf Z (fun h3 hf=>?_) fun h3 hf=>?_)
 ·refine V 0 Z (AW.draw 8 mixed (by kernel_rfl) Z ?_);refine Ev.cs gB 2 Z ?_;refine B1 hf fun x1 h4 hf=>Ev.cons Z Z Z (AO.call Z _ Z Z ahZ ((Mf _).h h4 zg)) (Ev.cs gB 2 Z ?_);refine B1 hf fun x2 h5 hf=>Ev.cons Z Z Z (AO.call Z _ Z Z ahZ ((Mf _).h h5 zg)) ?_;refine BR hf fun x3 h6 hf=>?_;refine Ev.cons Z Z Z (AO.call Z _ Z Z an6 ((Aj _ _).h h6 zg)) (Ev.cs gB 1 Z (Ev.nil ?_));show AR _ _ _ _ _ _ _ _;cases hf;exact N 0 Z (Y Z h)
 refine V 2 Z (C hf Z (fun h7 hf=>?_) fun h7 hf=>?_)
 ·refine BR hf fun x4 h8 hf=>?_;refine W 4 Z (CL Z ((Aj _ _).h h8 ?_));cases hf;exact N 1 Z (Y Z h)
 refine V 2 Z (C hf Z (fun h9 hf=>?_) fun h9 hf=>?_)
 ·refine BR hf fun x5 h10 hf=>?_;refine W 4 Z (CL Z ((KQ _ _).h h10 ?_));cases hf;exact N 1 Z (Y Z h)
 refine V 2 Z (C hf Z (fun h11 hf=>?_) fun h11 hf=>?_)
 ·refine BR hf fun x6 h12 hf=>?_;refine W 4 Z (CL Z (g_ _ _ j6 250 [] ah0 (fun _ _ _ hz=>FR _ _  hz) h12 ?_));cases hf;exact N 1 Z (Y Z h)
 refine V 2 Z (C hf Z (fun L_ hf=>?_) fun L_ hf=>?_)
 ·refine B1 hf fun c2 Kk hf=>W 4 Z (CL Z (oJ _ _ iR 96 [] amC (fun _ _ _ hz=>(xX _ _).h hz) Kk (J 3 Z (C hf Z (fun Vn hf=>?_) fun Vn hf=>?_))))
  ·cases hf;exact M 2 Z (Y Z h)
  refine BR hf fun x7 h16 hf=>?_;refine W 4 Z (CL Z (g_ _ _ j6 250 [] ah0 (fun _ _ _ hz=>FR _ _  hz) h16 ?_));cases hf;exact N 1 Z (Y Z h)
 cases hf;exact M 1 Z (Y Z h)
theorem Ru:∀k:Nat,(Ji (jg k)):=by
 intro k
 induction k with
 | zero=>exact fun _ _ _ hz=>by first|cases hz|(unfold jg at hz;cases hz)
 | succ k ih=>exact fun Bo Bn yc hz τ Q hq=>Rp (jg k) ih Bo Bn hz hq
instance agN(Bo:ah)(Bn:ah):CT Tryz.prog (wY Bo Bn) (fun r=>.ret (iP r)) 250 [.agg (aP Bo),.agg (aP Bn)]:=⟨zP rfl,fun {r} hf {τ Q} h=>((Ru BIG)) Bo Bn hf h⟩
instance Mg(a1:ah)(b1:ah):CT Tryz.prog (nu a1 b1) (fun r=>.ret (.bool r)) 213 [.agg (aP a1),.agg (aP b1)]:=by
  unfold nu;exact Z1 ⟨9,[],[]⟩ Z Tryz.func213 Z Z Z Z
instance anB(a1:ah)(b1:ah)(Ak:Int):CT Tryz.prog (qy a1 b1 Ak) (fun r=>.ret (.bool r)) 247 [.agg (aP a1),.agg (aP b1),iP Ak]:=by
  unfold qy;exact Z1 ⟨17,[],[]⟩ Z Tryz.func247 Z Z Z Z
section
variable [D8]
def VQ:Go.Shelf.Ren:=⟨fun|144=>269|143=>105|219=>151|217=>198|225=>199|224=>200|267=>201|266=>235|314=>236|n=>n,fun|9=>9|4=>4|3=>3|5=>5|46=>173|146=>237|51=>199|n=>n,fun|1=>0|n=>n⟩
theorem af9:Go.Proofs.Lays.n144 Tryz.prog VQ:=by repeat' first|(intros;kernel_rfl)|constructor|decide
instance ac8(s1:Str)(t1:Str):CT Tryz.prog (strings_Contains s1 t1) (fun r=>.ret (.bool r)) 269 [.str s1,.str t1]:=⟨zP rfl,fun {r0} hf {τ Q} h=>by
 unfold strings_Contains at hf;split at hf
 case isFalse=>cases hf
 rename_i hg;cases hf;refine AC.none ?_
 exact AC.contains af9 hg D8.max h⟩
end
section
variable [D8]
@[reducible] def Rm:fG aG Bool→dN
  | .ok r=>.ret (.bool r)
  | .bad e=>.panic (.iface 157 (.agg [iP e.code]))
instance (a1 :ah) (b1:ah) (n_ ku):LE (o_ a1 b1 n_ ku) (fun j p=>o_ a1 b1 j p) n_ ku [] [] [] [3,13,14] (fun v w p=>[(15,iP p)]) (fun v w p s=>s):=⟨Z⟩
instance agV(a1:ah)(b1:ah):CT Tryz.prog (xE a1 b1) (fun r=>Rm r) 245 [.agg (aP a1),.agg (aP b1)]:=by
  unfold xE;exact Z1 ⟨47,[],[]⟩ Z Tryz.func245 Z Z Z Z
end
instance p9(b1:Bool):CT Tryz.prog (fE b1) (fun r=>.ret (.agg (aP r))) 211 [.bool b1]:=by
  unfold fE;exact Z1 ⟨5,[],[]⟩ Z Tryz.func211 Z Z Z Z
section
variable [D8]
@[reducible] def Vt:fG aG ah→dN
  | .ok r=>.ret (.agg (aP r))
  | .bad e=>.panic (.iface 157 (.agg [iP e.code]))
instance (a1 :ah) (b1:ah) (n_ ku Ao z2_):LE (vM a1 b1 n_ ku Ao z2_) (fun j p=>vM a1 b1 j p.1 p.2.1 p.2.2) n_ (ku,Ao,z2_) [6] [] [(6,1,9)] [3,4,17,18] (fun v w p=>[(5,iP p.1),(6,.own v (List.map kg p.2.1)),(19,iP p.2.2)]) (fun v w p s=>putRow 0 v ((List.map kg p.2.1).length) (s)):=⟨Z⟩
instance akz(a1:ah)(b1:ah):CT Tryz.prog (Co a1 b1) (fun r=>Vt r) 246 [.agg (aP a1),.agg (aP b1)]:=by
  unfold Co;exact Z1 ⟨54,[],[]⟩ Z Tryz.func246 Z Z Z Z
end
instance Vq(s1:Str)(zx:Str):CT Tryz.prog (sj s1 zx) (fun r=>.ret (.bool r)) 270 [.str s1,.str zx]:=by
  unfold sj;exact Z1 ⟨21,[],[]⟩ Z Tryz.func270 Z Z Z Z
instance abH(s1:Str)(zx:Str):CT Tryz.prog (strings_HasSuffix s1 zx) (fun r=>.ret (.bool r)) 248 [.str s1,.str zx]:=by
  unfold strings_HasSuffix;exact Z1 ⟨8,[],[]⟩ Z Tryz.func248 Z Z Z Z
section
variable [D8]
def abY:Go.Shelf.Ren:=⟨fun|146=>249|221=>271|268=>291|138=>103|143=>105|195=>148|197=>106|218=>149|219=>151|260=>152|217=>198|225=>199|224=>200|267=>201|266=>235|314=>236|n=>n,fun|9=>9|31=>27|3=>3|4=>4|0=>0|105=>144|21=>21|5=>5|46=>173|119=>206|139=>209|138=>208|146=>237|51=>199|n=>n,fun|1=>0|3=>1|4=>2|n=>n⟩
theorem anU:Go.Proofs.Lays.n146 Tryz.prog abY:=by repeat' first|(intros;kernel_rfl)|constructor|decide
instance agP(s1:Str)(t1:Str):CT Tryz.prog (strings_Split s1 t1) (fun r=>.ret (sP r)) 249 [.str s1,.str t1]:=⟨zP rfl,fun {r0} hf {τ Q} h=>by
 unfold strings_Split at hf;split at hf
 case isFalse=>cases hf
 rename_i hg;cases hf;refine AC.none ?_
 exact AC.split anU (by kernel_rfl) hg.1 hg.2 D8.max h⟩
end
section
variable [D8]
@[reducible] def abJ:fG aG ah→dN
  | .ok r=>.ret (.agg (aP r))
  | .bad e=>.panic (.iface 157 (.agg [iP e.code]))
instance Ve(name1:Str)(a1:ah)(b1:ah):CT Tryz.prog (Kr name1 a1 b1) (fun r=>abJ r) 210 [.str name1,.agg (aP a1),.agg (aP b1)]:=by
  unfold Kr;exact Z1 ⟨62,[],[]⟩ Z Tryz.func210 Z Z Z Z
end
@[reducible] def XP:fG aG Bool→dN
  | .ok r=>.ret (.bool r)
  | .bad e=>.panic (.iface 157 (.agg [iP e.code]))
instance wL(v1:ah):CT Tryz.prog (vK v1) (fun r=>XP r) 166 [.agg (aP v1)]:=by
  unfold vK;exact Z1 ⟨8,[],[]⟩ Z Tryz.func166 Z Z Z Z
@[reducible] def XO:fG aG ah→dN
  | .ok r=>.ret (.agg (aP r))
  | .bad e=>.panic (.iface 157 (.agg [iP e.code]))
instance O3(op1:Str)(v1:ah):CT Tryz.prog (EX op1 v1) (fun r=>XO r) 164 [.str op1,.agg (aP v1)]:=by
  unfold EX;exact Z1 ⟨18,[],[]⟩ Z Tryz.func164 Z Z Z Z
@[reducible] def XQ:fG aG Int→dN
  | .ok r=>.ret (iP r)
  | .bad e=>.panic (.iface 157 (.agg [iP e.code]))
instance qW(a1:ah)(b1:ah):CT Tryz.prog (nV a1 b1) (fun r=>XQ r) 214 [.agg (aP a1),.agg (aP b1)]:=by
  unfold nV;exact Z1 ⟨17,[],[]⟩ Z Tryz.func214 Z Z Z Z
@[reducible] def Vs:fG aG ah→dN
  | .ok r=>.ret (.agg (aP r))
  | .bad e=>.panic (.iface 157 (.agg [iP e.code]))
instance akv(n1:Int):CT Tryz.prog (sU n1) (fun r=>Vs r) 251 [iP n1]:=by
  unfold sU;exact Z1 ⟨12,[],[]⟩ Z Tryz.func251 Z Z Z Z
@[reducible] def abK:fG aG ah→dN
  | .ok r=>.ret (.agg (aP r))
  | .bad e=>.panic (.iface 157 (.agg [iP e.code]))
instance Vf(a1:ah)(b1:ah):CT Tryz.prog (G7 a1 b1) (fun r=>abK r) 215 [.agg (aP a1),.agg (aP b1)]:=by
  unfold G7;exact Z1 ⟨57,[],[]⟩ Z Tryz.func215 Z Z Z Z
instance U9(n1:Int):CT Tryz.prog (J5 n1) (fun r=>.ret (.int .u64 (r.toNat:Int))) 292 [iP n1]:=⟨zP rfl,fun {r0} hf {τ Q} h=>by
 unfold J5 at hf;refine BN 10 [.tmp 2] [0] Tryz.func292 Z Z Z Z Z (V 3 Z (C hf Z (fun h1 hf=>?_) fun h1 hf=>?_))
 ·refine W 1 Z (AS Z (AO.aho Z ae0 SA Z (AS Z (AO.u64_neg (BitVec.ofInt 64 n1) Z Z Z ?_))));cases hf;exact N 1 Z (Y Z h)
 refine W 1 Z (AS Z (AO.aho Z ae0 SA Z ?_));cases hf;exact N 1 Z (Y Z h)⟩
instance ajO(a1:Int)(b1:Int):CT Tryz.prog (Dv a1 b1) (fun r=>.ret (.agg (Ra r))) 275 [iP a1,iP b1]:=⟨zP rfl,fun {r0} hf {τ Q} h=>by
 unfold Dv at hf;refine BN 71 [.cell 4 265] [0,1] Tryz.func275 Z Z Z Z Z (W 0 Z (AS Z (AO.bL Z ag0 (fun b4=>?_))));refine B1 hf fun x1 h1 hf=>U 1 Z (CL Z ((U9 _).h h1 ?_));refine B1 hf fun y1 h2 hf=>U 1 Z (CL Z ((U9 _).h h2 (U 3 Z (AS Z (AO.Ny x1 32 Z Z Z Z Z (U 1 Z (AS Z (AO.u64_and x1 (4294967295:BitVec 64) Z Z Z Z Z (U 1 Z (AS Z (AO.Ny y1 32 Z Z Z Z Z ?_)))))))))));refine U 1 Z (AS Z (AO.u64_and y1 (4294967295:BitVec 64) Z Z Z Z Z ?_));refine B1 hf fun TY h3 hf=>U 6 Z (AS Z (AO.SB (x1 &&& (4294967295:BitVec 64)) (y1 &&& (4294967295:BitVec 64)) h3 Z Z Z Z Z ?_));refine B1 hf fun x2 h4 hf=>U 3 Z (AS Z (AO.SB (x1 >>> 32) (y1 &&& (4294967295:BitVec 64)) h4 Z Z Z Z Z (U 1 Z (AS Z (AO.Ny TY 32 Z Z Z Z Z (AS Z (AO.RP x2 (TY >>> 32) Z Z Z Z Z ?_)))))));refine B1 hf fun x3 h5 hf=>U 3 Z (AS Z (AO.SB (x1 &&& (4294967295:BitVec 64)) (y1 >>> 32) h5 Z Z Z Z Z ?_));refine B1 hf fun x4 h6 hf=>?_;refine U 1 Z (AS Z (AO.ahj (x2+(TY >>> 32)) (4294967295:BitVec 64) h6 Z Z Z Z Z (AS Z (AO.RP x3 x4 Z Z Z Z Z (U 3 Z (AS Z (AO.adE (x1 >>> 32) (y1 >>> 32) Z Z Z Z Z (U 1 Z (AS Z (AO.Ny (x2+(TY >>> 32)) 32 Z Z Z Z Z ?_))))))))));refine B1 hf fun x5 h7 hf=>AS Z (AO.ahk ((x1 >>> 32)*(y1 >>> 32)) ((x2+(TY >>> 32)) >>> 32) h7 Z Z Z Z Z (U 1 Z (AS Z (AO.Ny (x3+x4) 32 Z Z Z Z Z (AS Z (AO.RP x5 ((x3+x4) >>> 32) Z Z Z Z Z (U 1 Z (AS Z (AO.akF (x3+x4) 32 Z Z Z Z Z ?_)))))))));refine U 1 Z (AS Z (AO.u64_and TY (4294967295:BitVec 64) Z Z Z Z Z ?_));refine B1 hf fun x6 h8 hf=>AS Z (AO.akG ((x3+x4) <<< 32) (TY &&& (4294967295:BitVec 64)) h8 Z Z Z Z Z (AS Z (AO.Ql Z ag1 Nh Z (U 1 Z (AS Z (AO.bL Z ag0 (fun b14=>(Rr 5 [0] Z Z (AS Z (AO.abg Z apy Z Z ?_))))))))));refine U 1 Z (AR.and 5 63 68 [4,14] (x:=(!decide (([((x5+((x3+x4) >>> 32)).toNat:Int),(x6.toNat:Int)]:List Int)=([0,0]:List Int)))) Z Z (fun h9=>?_) (fun h9=>?_) ?_)
 ·refine Is 63 h9 Z (U 1 Z (GO Z (AO.bC (i:=0) Z Z Z anR Z Z (GO Z (AO.Ql Z ag1 Nh Z (GO Z (AO.ain ([((x5+((x3+x4) >>> 32)).toNat:Int),(x6.toNat:Int)]:List Int) ([0,0]:List Int) Z anN SA aoJ aoI aoC Z Z Z Z Z Z (adx [(x5+((x3+x4) >>> 32)),x6]) (adx [(0:BitVec 64),(0:BitVec 64)]) ?_)))))));exact zm 1 Z (En [68,4,14] Z)
 ·refine Is 63 h9 Z ?_;exact zm 5 Z (En [68,4,14] Z)
 cases hf;exact Rx 4 [0,0,1] Z Z (ZC [1] Z Z h)⟩
instance abA(p1:fF):CT Tryz.prog (tH p1) (fun r=>.ret (.tuple [iP r.1,.bool r.2])) 276 [.agg (Ra p1)]:=⟨zP rfl,fun {r} hf {τ Q} h=>by
 obtain⟨r0,r1⟩:=r;unfold tH at hf;refine BN 37 [.tmp 2,.tmp 3] [0] Tryz.func276 Z Z Z Z Z (W 4 Z (AS Z (AO.vH (sz:=1) 0 Z Nh Z Z (by decide) Z ?_)));refine J 3 Z (C hf Z (fun h1 hf=>?_) fun h1 hf=>?_)
 ·cases hf;exact M 2 Z (Y Z h)
 refine W 3 Z (AR.and 5 12 17 [1] (x:=(decide (((p1.half.getD 1 0).toNat:Int)≤9223372036854775808))) Z Z (fun h2=>?_) (fun h2=>?_) ?_)
 ·refine Is 12 h2 Z (U 1 Z (GO Z (AO.vH (sz:=1) 1 Z Nh Z Z (by decide) Z ?_)));exact zm 3 Z (En [17,1] Z)
 ·refine Is 12 h2 Z ?_;exact zm 5 Z (En [17,1] Z)
 refine J 1 Z (C hf Z (fun h3 hf=>?_) fun h3 hf=>?_)
 ·refine W 1 Z (AS Z (AO.vH (sz:=1) 1 Z Nh Z Z (by decide) Z ?_));refine U 1 Z (AS Z (AO.u64_neg (p1.half.getD 1 0) Z Z Z (AS Z (AO.Cu Z SA ae0 Z ?_))));cases hf;exact N 2 Z (Y Z h)
 refine W 4 Z (AR.and 5 27 32 [1] (x:=(decide (((p1.half.getD 1 0).toNat:Int)≤9223372036854775807))) Z Z (fun h4=>?_) (fun h4=>?_) ?_)
 ·refine Is 27 h4 Z (U 1 Z (GO Z (AO.vH (sz:=1) 1 Z Nh Z Z (by decide) Z ?_)));exact zm 3 Z (En [32,1] Z)
 ·refine Is 27 h4 Z ?_;exact zm 5 Z (En [32,1] Z)
 refine J 1 Z (C hf Z (fun h5 hf=>?_) fun h5 hf=>?_)
 ·refine W 1 Z (AS Z (AO.vH (sz:=1) 1 Z Nh Z Z (by decide) Z ?_));refine U 1 Z (AS Z (AO.Cu Z SA ae0 Z ?_));cases hf;exact N 2 Z (Y Z h)
 cases hf;exact M 2 Z (Y Z h)⟩
instance aph(aly:Bool):CT Tryz.prog (Yv aly) (fun r=>.ret (iP r)) 277 [.bool aly]:=by
  unfold Yv;exact Z1 ⟨4,[],[]⟩ Z Tryz.func277 Z Z Z Z
instance apj(a1:Int)(b1:Int):CT Tryz.prog (Ob a1 b1) (fun r=>.ret (iP r)) 252 [iP a1,iP b1]:=by
  unfold Ob;exact Z1 ⟨21,[],[]⟩ Z Tryz.func252 Z Z Z Z
@[reducible] def Nr:fG aG ah→dN
  | .ok r=>.ret (.agg (aP r))
  | .bad e=>.panic (.iface 157 (.agg [iP e.code]))
instance F8(op1:Str)(a1:ah)(b1:ah):CT Tryz.prog (qz op1 a1 b1) (fun r=>Nr r) 216 [.str op1,.agg (aP a1),.agg (aP b1)]:=by
  unfold qz;exact Z1 ⟨46,[],[]⟩ Z Tryz.func216 Z Z Z Z
instance U3(v1:ah):CT Tryz.prog (zu v1) (fun r=>.ret (iP r)) 278 [.agg (aP v1)]:=⟨zP rfl,fun {r0} hf {τ Q} h=>by
 unfold zu at hf;refine AC.none (AC.LZ 30 [.tmp 2] [0] Tryz.func278 Z Z Z Z Z ?_);obtain⟨b1,s1,h1,hf⟩:=gy hf;cases hf;refine AW.sr (AR.step Z Z Z (AO.IQ Z Z Z (cs 1 Z (AR.nil [1] Z ?_))));refine AW.sr (AR.step Z Z Z (AO.bL Z apq (fun b3=>(AR.bZ Z Z (AO.dX (i:=0) Z Z Z Jl Z Z Z Z Z (AR.nil [1,3] Z ?_))))));refine AW.seq (AW.sr (cs 1 Z (AR.step Z Z Z (AO.call Z _ Z Z amD (Md _ _ ?_)))));refine AR.nil [3,7] Z (AW.block (AW.rangeFunc (β:=Int) (X:=Int × ah) Z ah4 (fun x=>[iP x.1,.agg (aP x.2)]) (fun _=>Z) (by decide) (fun s x=>iw s x.1 x.2) (fun s=>[.box b3 [iP s]]) (fun _=>none) (s0:=0) (s1:=r0) Z Z ?_ ?_ ?_))
 ·intro l T' hy;refine Je l T' iw (fun s1 bM v1 b s2 hh=>hy s1 (bM,v1) b s2 hh) 0 v1 1 h1 ⟨⟨_,Z⟩,Z⟩
 ·rintro l s ⟨bM,x1⟩ b s2 hh;unfold iw at hh;refine⟨Z,?_⟩;cases hh;refine rE.seq (rE.region Z (cs 1 Z (AR.nil [3,4,9] Z ?_)));refine rE.region Z (AR.step Z Z Z (AO.bL Z wM (fun b5=>(AR.bZ Z Z (AO.dX (i:=0) Z Z Z Aq Z Z Z Z Z (AR.nil [3,4,5] Z ?_))))));refine⟨Z,(rE.block (rE.seq (rE.seq ?_)))⟩;refine rE.region Z (cs 1 Z (AR.step Z Z Z (AO.bC (i:=0) Z Z Z Jl Z Z (cs 2 Z ?_))));refine AR.or 4 13 17 [3,4,5] (x:=(x1.kind==5)) Z Z (fun h2=>?_) (fun h2=>?_) ?_
  ·refine AR.is 13 h2 Z (cs 1 Z (AR.go Z Z Z Z Z Z (AO.bC (i:=0) Z Z Z Jl Z Z (cs 2 Z ?_))));refine AR.nil [17,3,4,5] Z ?_;exact⟨Z,Z,Z,Z⟩
  ·refine AR.is 13 h2 Z (cs 4 Z (AR.nil [17,3,4,5] Z ?_));exact⟨Z,Z,Z,Z⟩
  refine cs 1 Z (AR.and 5 18 23 [3,4,5] (x:=((x1.aO.length:Int)==0)) Z Z (fun h2=>?_) (fun h2=>?_) ?_)
  ·refine AR.is 18 h2 Z (cs 1 Z (AR.go Z Z Z Z Z Z (AO.bC (i:=0) Z Z Z ahq Z Z (AR.go Z Z Z Z Z Z (AO.fU (l:=x1.aO) Z Z Z Z Kv Z (ah.bA _) ?_)))));refine cs 2 Z (AR.nil [23,3,4,5] Z ?_);exact⟨Z,Z,Z,Z⟩
  ·refine AR.is 18 h2 Z (cs 5 Z (AR.nil [23,3,4,5] Z ?_));exact⟨Z,Z,Z,Z⟩
  refine AR.nil [3,4,23] Z (rE.cond Z (fun h3=>?_) (fun h3=>?_))
  ·rw[show tY bM x1=bF (bM+1)from if_pos h3];refine rE.region Z (cs 3 Z (AR.nil [3,4] Z (rE.region Z ?_)));refine AR.step Z Z Z (AO.bC (i:=1) Z Z Z Jl Z Z (cs 1 Z (AR.step Z Z Z (AO.max2 Z Z Z Z Z (AR.bZ Z Z (AO.dX (i:=1) Z Z Z Jl Z Z Z Z Z ?_))))));refine AR.nil [] Z ?_;exact⟨Z,.cons _ (List.Sublist.refl _),Z,Z⟩
  rw[show tY bM x1=bM from if_neg (by rw[h3];simp)];refine rE.skip (rE.region Z (AR.step Z Z Z (AO.bC (i:=1) Z Z Z Jl Z Z (cs 1 Z ?_))));refine AR.step Z Z Z (AO.max2 Z Z Z Z Z (AR.bZ Z Z (AO.dX (i:=1) Z Z Z Jl Z Z Z Z Z (AR.nil [] Z ?_))));exact⟨Z,.cons _ (List.Sublist.refl _),Z,Z⟩
 intro D;show AW _ _ _ _ _ _ _
 refine AW.sr (AR.step Z Z Z (AO.bC (i:=0) Z Z Z Jl Z Z (cs 1 Z (AR.nil [2] Z ?_))));refine AW.ret ?_;exact⟨D,[_],Z,Z,_,⟨_,_,Z,Z,Z⟩,[],aup _,h⟩⟩
instance Jg(y1:aF)(c1:aF):CT Tryz.prog (lG y1 c1) (fun r=>.ret (.bool r)) 280 [.agg (tK y1),.ref (tK c1)]:=by
  unfold lG;exact Z1 ⟨9,[],[]⟩ Z Tryz.func280 Z Z Z Z
instance (c1 :aF):CF1 Tryz.prog (fun ku=>lG ku c1) (fun y1=>.agg (tK y1)) (fun r=>.ret (.bool r)) 280 [.ref (tK c1)]:=⟨fun ku=>Jg ku c1⟩
instance (s1 :List aF) (f1:aF→Option Bool) (n_ ku):LE (gq s1 f1 n_ ku) (fun j p=>gq s1 f1 j p) n_ ku [] [] [] [0,1,7] (fun v w p=>[(8,iP p)]) (fun v w p s=>s):=⟨Z⟩
instance LJ(s1:List aF)(f1:aF→Option Bool){f1F:FuncId}{f1C:List PV}[f1I:CF1 Tryz.prog f1 (fun a0=>.agg (tK a0)) (fun b0=>.ret (.bool b0)) f1F f1C]:CT Tryz.prog (iY s1 f1) (fun r=>.ret (iP r)) 293 [.list (List.map aF.cells s1),.fn f1F f1C]:=by
  unfold iY;exact Z1 ⟨19,[],[]⟩ Z Tryz.func293 Z Z Z Z
instance Js(s1:List aF)(f1:aF→Option Bool){f1F:FuncId}{f1C:List PV}[f1I:CF1 Tryz.prog f1 (fun a0=>.agg (tK a0)) (fun b0=>.ret (.bool b0)) f1F f1C]:CT Tryz.prog (fB s1 f1) (fun r=>.ret (.bool r)) 279 [.list (List.map aF.cells s1),.fn f1F f1C]:=by
  unfold fB;exact Z1 ⟨9,[],[]⟩ Z Tryz.func279 Z Z Z Z
theorem uR(s1:List aF)(f1:aF→Option Bool)(f1F:FuncId)(f1C:List PV)(f1P:cO Tryz.prog f1F=true)(f1H:∀a0 b0,f1 a0=some b0→∀ {τ:List aR} {Q:dN→List aR→Prop},Q (.ret (.bool b0)) τ→AC Tryz.prog f1F ([.agg (tK a0)]++f1C) τ Q){r0:Bool}(hf:fB s1 f1=some r0){τ:List aR}{Q:dN→List aR→Prop}(h:Q (.ret (.bool r0)) τ):AC Tryz.prog 279 [.list (List.map aF.cells s1),.fn f1F f1C] τ Q:=letI:CF1 Tryz.prog f1 (fun a0=>.agg (tK a0)) (fun b0=>.ret (.bool b0)) f1F f1C:=⟨fun a=>⟨f1P,fun {r} hx {τ Q} h=>f1H a r hx h⟩⟩;CT.h hf h
instance VX(gZ:List aF)(i1:Int):CT Tryz.prog (BM gZ i1) (fun r=>.ret (iP r)) 253 [.list (List.map aF.cells gZ),iP i1]:=⟨zP rfl,fun {r0} hf {τ Q} h=>by
 unfold BM at hf;refine BN 36 [.tmp 4] [0,1] Tryz.func253 Z Z Z Z Z ?_;refine B1 hf fun e1 h1 hf=>W 3 Z (AS Z (AO.dK h1 Z Z Z Z Jc (aF.aQ _) Z (U 1 Z (AS Z (AO.bL Z ado (fun b5=>(Rr 3 [0,0] Z Z (AS Z (AO.wF Z Z Z Z uN Z (U 2 Z (AR.or 5 15 20 [0,1,5] (x:=(decide (64<(e1.name.length:Int)))) Z Z (fun h2=>?_) (fun h2=>?_) ?_)))))))))))
 ·refine Is 15 h2 Z (U 1 Z (GO Z (AO.bC (i:=0) Z Z Z apz Z Z (GO Z (AO.wF Z Z Z Z uN Z ?_)))));exact zm 2 Z (En [20,0,1,5] Z)
 ·refine Is 15 h2 Z ?_;exact zm 5 Z (En [20,0,1,5] Z)
 refine J 0 Z (C hf Z (fun h3 hf=>?_) fun h3 hf=>?_)
 ·cases hf;exact M 1 Z (Y Z h)
 refine B1 hf fun e2 h4 hf=>Wr 2 [0] Z Z (CL Z ((Gm _).h h4 (J 3 Z (C hf Z (fun h5 hf=>?_) fun h5 hf=>?_))))
 ·cases hf;exact M 2 Z (Y Z h)
 refine B1 hf fun x1 h6 hf=>Wr 2 [0] Z Z (CL Z ((U3 _).h h6 (J 1 Z (C hf Z (fun h7 hf=>?_) fun h7 hf=>?_))))
 ·cases hf;exact M 1 Z (Y Z h)
 refine B1 hf fun x2 h8 hf=>W 2 Z (AS Z (AO.Yc h8 Z Jc Z Z Z (aF.fA) Z ⟨_,Z⟩ (AR.adG 5 0 Z Z Z Z ?_)));refine B1 hf fun x3 h9 hf=>U 1 Z (CL Z (uR _ (fun z0=>lG z0 e1) 280 [.ref (tK e1)] an1 (fun _ _ hz=>(Jg _ _).h hz) h9 (J 0 Z (C hf Z (fun h10 hf=>?_) fun h10 hf=>?_))))
 ·cases hf;exact M 1 Z (Y Z h)
 cases hf;exact M 1 Z (Y Z h)⟩
instance OZ(s1:List aF):CT Tryz.prog (fK s1) (fun r=>.ret (.list (List.map aF.cells r))) 254 [.list (List.map aF.cells s1)]:=⟨zP rfl,fun {r0} hf {τ Q} h=>by
 unfold fK at hf;refine BN 8 [.tmp 2] [0] Tryz.func254 Z Z Z Z Z (W 0 Z (AS Z (AO.kr Z Z (U 1 Z (AS Z (AO.DL Z Z amv (fun b hb=>(J 0 Z (AW.cond Z (fun h1=>?_) (fun h1=>?_))))))))))
 ·obtain rfl:s1=[]:=aut.1 (hb h1);obtain⟨_,rfl⟩:=Fa hf;refine W 0 Z (AS Z (AO.kr Z Z ?_));exact N 0 rfl ⟨rfl,_,⟨_,_,rfl,rfl,rfl⟩,_,List.Sublist.refl _,h⟩
 refine W 0 Z (AS Z (AO.xW [] Z SS Z Z Z Z Z (fun v1=>(U 1 Z (AS Z (AO.tQ (i:=0) (l:=[]) (m:=s1) hf Z Z Z Z Z Z Z SS Jc Z Z Z (aF.fA) (aF.cells_one) (by decide) (fun v2 s2 hs2=>?_)))))));cases hs2;exact N 1 Z (Y Z h)⟩
theorem wV(s1:List aF){r0:List aF}(hf:fK s1=some r0){Q:dN→List aR→Prop}(h:∀v,Q (.ret (.val v)) [.buf v r0.length 7 31 (r0.flatMap aF.cells)]):PC 254 [.list (List.map aF.cells s1)] [] Q:=by
 unfold fK at hf;obtain⟨hl,e0⟩:=Fa hf;rw[List.nil_append]at e0;subst e0;simp only[List.length_nil,Nat.zero_add]at hl;have hlen:∀x:aF,(aF.cells x).length=7:=fun _=>Z;have hone:∀x:aF,(aF.cells x).all PV.one=true:=fun _=>Z;refine AC.lD 8 [.tmp 2] [0] Tryz.func254 Z Z Z Z Z (AW.sr (AR.step Z Z Z (AO.kr Z Z (AR.nil [0] Z ?_))));refine AW.seq (AW.sr (cs 1 Z (AR.step Z Z Z (AO.DL Z Z amv (fun b hb=>?_)))));refine AR.nil [0,4] Z (AW.cond Z (fun h1=>?_) (fun h1=>?_))
 ·obtain rfl:r0=[]:=aut.1 (hb h1);refine AW.sr (AR.step Z Z Z (AO.N9 Z Z (AR.nil [2] Z (AW.aoL 7 31 ?_))));refine AW.ret ?_;exact⟨rfl,_,⟨_,_,rfl,rfl,rfl⟩,_,List.Sublist.refl _,h _⟩
 refine AW.skip (AW.sr (AR.step Z Z Z (AO.xW [] Z SS Z Z Z Z Z (fun v1=>(cs 1 Z ?_)))));refine AR.step Z Z Z (AO.U1 (i:=0) (l2:=List.map aF.cells r0) Z Z Z Z Z Z Z SS Jc (fun y hy=>?_) (fun y hy=>?_) ?_ ?_ (fun v2 s1 hs1=>?_))
 ·obtain⟨s,_,rfl⟩:=atn.1 hy;exact hlen s
 ·obtain⟨s,_,rfl⟩:=atn.1 hy;exact hone s
 ·rw[aur];unfold wX at hl;unfold maxLen;omega
 ·rw[aur];unfold wX at hl;omega
 cases hs1;refine cs 1 Z (AR.nil [2] Z (AW.ret ?_));have hv:=h v2;rw[List.flatMap_def,show r0.length=(List.map aF.cells r0).length from (aur _).symm]at hv;exact⟨rfl,_,⟨_,_,rfl,rfl,rfl⟩,_,List.Sublist.refl _,hv⟩
instance akg(a1:aF)(b1:aF):CT Tryz.prog (Jz a1 b1) (fun r=>.ret (iP r)) 256 [.agg (tK a1),.agg (tK b1)]:=⟨zP rfl,fun {r0} hf {τ Q} h=>by
 unfold Jz at hf;refine BN 10 [.tmp 4] [0,1] Tryz.func256 Z Z Z Z Z ?_;refine BR hf fun x1 h1 hf=>?_;refine W 7 Z (CL Z ((xX _ _).h h1 ?_));cases hf;exact N 1 Z (Y Z h)⟩
theorem VT(a1 b1:aF){r0:Int}(hf:Jz a1 b1=some r0){τ:List aR}{Q:dN→List aR→Prop}(h:Q (.ret (iP r0)) τ):AC Tryz.prog 256 [.agg (tK a1),.agg (tK b1)] τ Q:=CT.h hf h
def JI:Go.Shelf.Ren:=⟨fun|6=>255|15=>141|14=>281|28=>189|29=>190|20=>294|21=>295|22=>296|23=>297|24=>298|25=>299|26=>300|27=>301|46=>315|47=>226|48=>227|49=>316|50=>317|57=>321|n=>n,fun|22=>22|24=>31|25=>249|3=>3|39=>173|0=>0|53=>199|55=>201|4=>4|46=>192|45=>191|50=>196|5=>5|9=>9|66=>224|70=>228|76=>255|77=>256|n=>n,fun|n=>n⟩
theorem Pn:Go.Proofs.SlLaysF0.n6 Tryz.prog JI:={
 mixed:=by kernel_rfl
 f6:=⟨Tryz.f255.name,by decide,Tryz.func255.trans (auq some (by kernel_rfl))⟩
 f14:=⟨Tryz.f281.name,by decide,Tryz.func281.trans (auq some (by kernel_rfl))⟩
 f15:=Tryz.func141.trans (auq some (by kernel_rfl))
 f20:=⟨Tryz.f294.name,by decide,Tryz.func294.trans (auq some (by kernel_rfl))⟩
 f21:=⟨Tryz.f295.name,by decide,Tryz.func295.trans (auq some (by kernel_rfl))⟩
 f22:=⟨Tryz.f296.name,by decide,Tryz.func296.trans (auq some (by kernel_rfl))⟩
 f23:=⟨Tryz.f297.name,by decide,Tryz.func297.trans (auq some (by kernel_rfl))⟩
 f24:=⟨Tryz.f298.name,by decide,Tryz.func298.trans (auq some (by kernel_rfl))⟩
 f25:=⟨Tryz.f299.name,by decide,Tryz.func299.trans (auq some (by kernel_rfl))⟩
 f26:=⟨Tryz.f300.name,by decide,Tryz.func300.trans (auq some (by kernel_rfl))⟩
 f27:=⟨Tryz.f301.name,by decide,Tryz.func301.trans (auq some (by kernel_rfl))⟩
 f28:=Tryz.func189.trans (auq some (by kernel_rfl))
 f29:=Tryz.func190.trans (auq some (by kernel_rfl))
 f46:=⟨Tryz.f315.name,by decide,Tryz.func315.trans (auq some (by kernel_rfl))⟩
 f47:=Tryz.func226.trans (auq some (by kernel_rfl))
 f48:=Tryz.func227.trans (auq some (by kernel_rfl))
 f49:=⟨Tryz.f316.name,by decide,Tryz.func316.trans (auq some (by kernel_rfl))⟩
 f50:=⟨Tryz.f317.name,by decide,Tryz.func317.trans (auq some (by kernel_rfl))⟩
 f57:=⟨Tryz.f321.name,by decide,Tryz.func321.trans (auq some (by kernel_rfl))⟩
 t0:=Tryz.underlying0
 a0:=Tryz.isAgg0
 z0:=Tryz.sizeOf0
 v0:=Tryz.zeroValue0
 t3:=Tryz.underlying3
 a3:=Tryz.isAgg3
 z3:=Tryz.sizeOf3
 v3:=Tryz.zeroValue3
 t4:=Tryz.underlying4
 a4:=Tryz.isAgg4
 z4:=Tryz.sizeOf4
 v4:=Tryz.zeroValue4
 t5:=Tryz.underlying5
 a5:=Tryz.isAgg5
 z5:=Tryz.sizeOf5
 v5:=Tryz.zeroValue5
 t9:=Tryz.underlying9
 a9:=Tryz.isAgg9
 z9:=Tryz.sizeOf9
 v9:=Tryz.zeroValue9
 t22:=Tryz.underlying22
 a22:=Tryz.isAgg22
 z22:=Tryz.sizeOf22
 v22:=Tryz.zeroValue22
 t25:=Tryz.underlying249
 a25:=Tryz.isAgg249
 z25:=Tryz.sizeOf249
 v25:=Tryz.zeroValue249
 t39:=Tryz.underlying173
 a39:=Tryz.isAgg173
 z39:=Tryz.sizeOf173
 v39:=Tryz.zeroValue173
 t45:=Tryz.underlying191
 a45:=Tryz.isAgg191
 z45:=Tryz.sizeOf191
 v45:=Tryz.zeroValue191
 t46:=Tryz.underlying192
 a46:=Tryz.isAgg192
 z46:=Tryz.sizeOf192
 v46:=Tryz.zeroValue192
 t50:=Tryz.underlying196
 a50:=Tryz.isAgg196
 z50:=Tryz.sizeOf196
 v50:=Tryz.zeroValue196
 t53:=Tryz.underlying199
 a53:=Tryz.isAgg199
 z53:=Tryz.sizeOf199
 v53:=Tryz.zeroValue199
 t55:=Tryz.underlying201
 a55:=Tryz.isAgg201
 z55:=Tryz.sizeOf201
 v55:=Tryz.zeroValue201
 t66:=Tryz.underlying224
 a66:=Tryz.isAgg224
 z66:=Tryz.sizeOf224
 v66:=Tryz.zeroValue224
 t70:=Tryz.underlying228
 a70:=Tryz.isAgg228
 z70:=Tryz.sizeOf228
 v70:=Tryz.zeroValue228
 t76:=Tryz.underlying255
 a76:=Tryz.isAgg255
 z76:=Tryz.sizeOf255
 v76:=Tryz.zeroValue255
 t77:=Tryz.underlying256
 a77:=Tryz.isAgg256
 z77:=Tryz.sizeOf256
 v77:=Tryz.zeroValue256}
theorem Nf(s1:List aF){r0:List aF}(hf:WM (fun x=>x.name) s1=some r0){v:Value}{e:TypeId}{Q:dN→List aR→Prop}(h:Q (.ret (.tuple [])) [.buf v (List.map aF.cells r0).length 7 e (r0.flatMap aF.cells)]):
  PC 255 [.val v,.fn 256 []] [.buf v s1.length 7 e (s1.flatMap aF.cells)] Q:=by
 unfold WM at hf;split at hf
 case isFalse=>cases hf
 rename_i hg;obtain⟨h1,h2,h3⟩:=hg;cases hf;rw[aur]at h
 exact AC.ae_ Pn aF.cells (k:=7) (by decide) (fun _=>Z) (fun _=>Z) aq_ aps an2 (cf:=fun a b=>gF a.name b.name)
  (fun a b ha hb=>@VT Ow a b _ (K_ (h2 a ha) (h2 b hb)) _ _ Z) (fun x hx=>by rw[Q8]at hx;omega) (fun x y z a b=>Im a b) (fun x y z a b=>Gi a b)
  (by
   rw[List.Nodup,List.pairwise_map]at h3;refine h3.imp fun {x y} hne=>?_;rcases Int.lt_trichotomy (gF x.name y.name) 0 with h|h|h
   ·exact .inl h
   ·exact absurd (Ch h) hne
   ·right;rw[yA];omega)
  (by unfold wX at h1;omega) h
instance abq(gZ:List aF):CT Tryz.prog (D_ gZ) (fun r=>.ret (.tuple [.agg (aP r.1),iP r.2])) 217 [.list (List.map aF.cells gZ)]:=⟨zP rfl,fun {r} hf {τ Q} h=>by
 obtain⟨r0,r1⟩:=r;unfold D_ at hf;refine BN 55 [.cell 2 29,.tmp 3] [0] Tryz.func217 Z Z Z Z Z (W 0 Z (AS Z (AO.bL Z wM (fun b2=>(U 2 Z (AS Z (AO.fU (l:=gZ) Z Z Z Z Jc Z Z (J 1 Z (C hf Z (fun h1 hf=>?_) fun h1 hf=>?_)))))))))
 ·cases hf;exact Wx 3 [0] Z Z (ZC [0] Z Z h)
 refine W 1 Z (AS Z (AO.fU (l:=gZ) Z Z Z Z Jc Z Z (J 1 Z (LK1 (fun i1=>[(0,.list (List.map aF.cells gZ)),(2,pP b2),(15,iP (gZ.length:Int)),(16,iP i1)]) (fun i1=>[.box b2 [iP 0,.bool false,iP 0,.str ([]:Str),.own (.slice none 0 0) [],.own (.slice none 0 0) []]]) (fun dW i1=>wm gZ dW i1=some (r0,r1)) BIG 0 Z Z hf (fun _ hz=>lM hz) ?_))));intro dW i1 hf;rw[wm]at hf;refine V 1 Z (C hf Z (fun h2 hf=>?_) fun h2 hf=>?_)
 ·refine B1 hf fun e1 h3 hf=>W 4 Z (CL Z ((VX _ _).h h3 (J 3 Z (C hf Z (fun h4 hf=>?_) fun h4 hf=>?_))))
  ·cases hf;exact Wx 4 [0] Z Z (ZC [0] Z Z h)
  exact M 2 Z ⟨(bF (i1+1)),Z,Z,Z,hf⟩
 refine B1 hf fun RU h5 hf=>W 1 Z (CL Z (AC.none (wV _ h5 (fun v1=>?_))));refine B1 hf fun uG h6 hf=>U 2 rfl (CL rfl (AC.one 0 rfl (Nf _ h6 ⟨_,rfl,(AR.freeze 6 0 (List.map aF.cells uG) rfl rfl rfl (fun x hx=>by obtain⟨s,_,rfl⟩:=atn.1 hx;rfl) Z ?_)⟩)));refine U 1 Z (AS Z (AO.bL Z wM (fun b7=>(Rr 2 [0] Z Z (AS Z (AO.fU (l:=uG) Z Z Z Z Jc Z Z ?_))))));refine J 1 Z (AW.row 6 29 (AW.row 1 9 (LK4 (fun x1 bP v2 v3=>[(2,pP b2),(7,pP b7),(32,.own v1 (List.map aF.cells uG)),(33,iP (uG.length:Int)),(34,iP x1)]) (fun x1 bP v2 v3=>[.row v3 (List.map kg bP.keys).length 1 9,.row v2 (ah.bq bP.aO).length 6 29,.box b7 [iP bP.kind,.bool bP.dZ,iP bP.eB,.str bP.bV,.own v2 (ah.bq bP.aO),.own v3 (List.map kg bP.keys)],.row v1 (List.map aF.cells uG).length 7 31,.box b2 [iP 0,.bool false,iP 0,.str ([]:Str),.own (.slice none 0 0) [],.own (.slice none 0 0) []]]) (fun kk2 x1 bP v2 v3=>wh uG kk2 x1 bP=some (r0,r1)) BIG 0 (ah.mk 5 false 0 ([]:Str) [] []) (.slice none 0 0) (.slice none 0 0) Z Z hf (fun _ _ _ _ hz=>lM hz) ?_)));intro kk2 x1 bP v2 v3 hf;rw[wh]at hf;refine V 1 Z (C hf Z (fun h7 hf=>?_) fun h7 hf=>?_)
 ·refine B1 hf fun e2 h8 hf=>W 0 Z (AS Z (AO.dK h8 Z Z Z Z Jc (aF.aQ _) Z (U 1 Z (AS Z (AO.bL Z ado (fun b9=>(Rr 5 [0,3,0] Z Z (AS Z (AO.bN (List.map kg ([e2.name]:List Str)) Z QJ Z Z Z Z ?_)))))))));refine B1 hf fun x2 h9 hf=>AS Z (AO.tQ (i:=1) (l:=bP.keys) (m:=([e2.name]:List Str)) h9 Z Z Z Z Z Z Z QJ FW Z Z Z (fun _=>Z) (fun _=>Z) (by decide) (fun v4 s1 hs1=>?_));cases hs1;refine Rw 2 [3] Z Z (AW.draw 6 mixed (by kernel_rfl) Z ?_);refine Ev.cs gB 1 Z (Ev.cons Z Z Z (AO.bC (i:=3) Z Z Z ahq Z Z zg) (Ev.cs gB 1 Z (Ev.cons Z Z Z (AO.bC (i:=0) Z Z Z Aq Z Z zg) ?_)));refine B1 hf fun x3 h10 hf=>Ev.cons rfl rfl rfl (AO.call rfl _ rfl rfl an3 ((VY _).h h10 ⟨rfl,rfl⟩)) (Ev.cons rfl rfl rfl (AO.bN (ah.bq [x3]) rfl WU rfl rfl rfl (by first|rfl|simp only[ah.aQ,ah.bq]) ⟨rfl,rfl⟩) ?_);refine Ev.nil ?_;show AR _ _ _ _ _ _ _ _
  refine B1 hf fun x4 h11 hf=>AS Z (AO.tQ (i:=2) (l:=bP.aO) (m:=[x3]) h11 Z Z Z Z Z Z Z WU Kv (ah.bA _) (ah.bA _) (ah.bA _).symm (ah.fA) (ah.cells_one) (by decide) (fun v5 s2 hs2=>?_));cases hs2;refine Rn 4 [3] Z Z (AR.drop1 ?_);exact N 0 Z ⟨(bF (x1+1)),(ah.mk bP.kind bP.dZ bP.eB bP.bV x4 x2),v5,v4,Z,Z,Z,hf⟩
 cases hf;exact Wx 3 [2,4] Z Z (ZC [4] Z Z h)⟩
section
variable [D8]
@[reducible] def zn:fG aG ah→dN
 | .ok r=>.ret (.agg (aP r))
 | .bad e=>.panic (.iface 157 (.agg [iP e.code]))
@[reducible] def zo:fG aG ah→dN
 | .ok r=>.ret (.agg (aP r))
 | .bad e=>.panic (.iface 157 (.agg [iP e.code]))
@[reducible] def Ar:fG aG (List ah)→dN
 | .ok r=>.ret (.list (ah.bq r))
 | .bad e=>.panic (.iface 157 (.agg [iP e.code]))
@[reducible] def wR:fG aG ah→dN
 | .ok r=>.ret (.agg (aP r))
 | .bad e=>.panic (.iface 157 (.agg [iP e.code]))
@[reducible] def uS:fG aG ah→dN
 | .ok r=>.ret (.agg (aP r))
 | .bad e=>.panic (.iface 157 (.agg [iP e.code]))
abbrev nQ(bf:List aF→ak→Option (fG aG ah)):Prop:=∀(sN:List aF) (jo:ak) {zw:fG aG ah},bf sN jo=some zw→∀ {τ:List aR} {Q:dN→List aR→Prop} (h:Q (zn zw) τ),PC 123 [.list (List.map aF.cells sN),.agg (bJ jo)] τ Q
abbrev nR(b_:List aF→ak→Option (fG aG ah)):Prop:=∀(sN:List aF) (jo:ak) {zw:fG aG ah},b_ sN jo=some zw→∀ {τ:List aR} {Q:dN→List aR→Prop} (h:Q (zo zw) τ),PC 163 [.list (List.map aF.cells sN),.agg (bJ jo)] τ Q
abbrev pE(bY:List aF→List ak→Option (fG aG (List ah))):Prop:=∀(sN:List aF) (Rs:List ak) {zw:fG aG (List ah)},bY sN Rs=some zw→∀ {τ:List aR} {Q:dN→List aR→Prop} (h:Q (Ar zw) τ),PC 168 [.list (List.map aF.cells sN),.list (ak.bq Rs)] τ Q
abbrev lY(bT:List aF→ak→Option (fG aG ah)):Prop:=∀(sN:List aF) (jo:ak) {zw:fG aG ah},bT sN jo=some zw→∀ {τ:List aR} {Q:dN→List aR→Prop} (h:Q (wR zw) τ),PC 165 [.list (List.map aF.cells sN),.agg (bJ jo)] τ Q
abbrev lC(bO:List aF→ak→Option (fG aG ah)):Prop:=∀(sN:List aF) (jo:ak) {zw:fG aG ah},bO sN jo=some zw→∀ {τ:List aR} {Q:dN→List aR→Prop} (h:Q (uS zw) τ),PC 170 [.list (List.map aF.cells sN),.agg (bJ jo)] τ Q
theorem Nt(bf)(bK:nQ bf)(b_)(lX:nR b_)(bY)(iG:pE bY)(bT)(kJ:lY bT)(bO)(j_:lC bO)(s1:List aF)(e1:ak){rX:fG aG ah}(hf:uL bf b_ bY bT bO s1 e1=some rX)(h:Q (zn rX) τ):PC 123 [.list (List.map aF.cells s1),.agg (bJ e1)] τ Q:=by
 unfold uL at hf;refine BN 104 [.cell 4 29] [0,1] Tryz.func123 Z Z Z Z Z (W 1 Z (AS Z (AO.bL Z wM (fun b4=>(J 4 Z (C hf Z (fun h1 hf=>?_) fun h1 hf=>?_))))))
 ·cases hf;exact Wx 3 [0] Z Z (ZC [0] Z Z h)
 refine V 2 Z (C hf Z (fun h2 hf=>?_) fun h2 hf=>?_)
 ·rcases eD hf with⟨e2,h3,hf⟩|⟨x1,h3,hf⟩
  ·refine W 3 Z (CL Z ((F6 _ _).h h3 ?_));cases hf;exact⟨Z,[],aup _,h⟩
  refine W 3 Z (CL Z ((F6 _ _).h h3 ?_));cases hf;exact Rx 1 [0] Z Z (ZC [0] Z Z h)
 refine V 2 Z (C hf Z (fun h4 hf=>?_) fun h4 hf=>?_)
 ·refine B1 hf fun e3 h5 hf=>?_;rcases eD hf with⟨e4,h6,hf⟩|⟨x2,h6,hf⟩
  ·refine V 0 Z (AW.aev 5 8 mixed (by kernel_rfl) Z Z ?_);refine Ev.cs gB 3 Z (Ev.cons Z Z Z (AO.dK h5 Z Z (ak.bA _) Z uM (ak.aQ _) Z zg) (Ev.cs gB 1 Z (Ev.nil ?_)));refine⟨_,_,Z,Z,Z,Z,AO.call Z _ Z Z J2 (bK _ _ h6 ?_),?_⟩
   ·cases hf;exact⟨Z,[],aup _,h⟩
   refine Ev.cs gB 2 Z (Ev.nil ?_);trivial
  refine V 0 Z (AW.draw 9 mixed (by kernel_rfl) Z ?_);refine Ev.cs gB 3 Z (Ev.cons Z Z Z (AO.dK h5 Z Z (ak.bA _) Z uM (ak.aQ _) Z zg) (Ev.cs gB 1 Z (Ev.cons Z Z Z (AO.call Z _ Z Z J2 (bK _ _ h6 zg)) ?_)));refine Ev.cs gB 2 Z ?_;refine B1 hf fun x3 h7 hf=>Ev.cons Z Z Z (AO.call Z _ Z Z ah2 ((Rj _).h h7 zg)) (Ev.nil ?_);show AR _ _ _ _ _ _ _ _;rcases eD hf with⟨e5,h8,hf⟩|⟨x4,h8,hf⟩
  ·refine CL Z ((O4 _ _).h h8 ?_);cases hf;exact⟨Z,[],aup _,h⟩
  refine CL Z ((O4 _ _).h h8 ?_);cases hf;exact Rx 1 [0] Z Z (ZC [0] Z Z h)
 refine V 2 Z (C hf Z (fun h9 hf=>?_) fun h9 hf=>?_)
 ·refine B1 hf fun e6 h10 hf=>W 3 Z (AS Z (AO.dK h10 Z Z (ak.bA _) Z uM (ak.aQ _) Z ?_));rcases eD hf with⟨e7,h11,hf⟩|⟨x5,h11,hf⟩
  ·refine U 1 Z (CL Z (bK _ _ h11 ?_));cases hf;exact⟨Z,[],aup _,h⟩
  refine U 1 Z (CL Z (bK _ _ h11 (AS Z (AO.bL Z wM (fun b5=>?_)))));refine B1 hf fun e8 h12 hf=>?_;rcases eD hf with⟨e9,L_,hf⟩|⟨x6,L_,hf⟩
  ·refine Rw 1 [0] Z Z (AW.aev 6 7 mixed (by kernel_rfl) Z Z ?_);refine Ev.cons Z Z Z (AO.bC (i:=0) Z Z Z Aq Z Z zg) (Ev.cs gB 3 Z (Ev.cons Z Z Z (AO.dK h12 Z Z (ak.bA _) Z uM (ak.aQ _) Z zg) (Ev.cs gB 1 Z ?_)));refine Ev.nil (⟨_,_,Z,Z,Z,Z,AO.call Z _ Z Z J2 (bK _ _ L_ ?_),?_⟩)
   ·cases hf;exact⟨Z,[],aup _,h⟩
   refine Ev.nil ?_;trivial
  refine Rw 1 [0] Z Z (AW.draw 7 mixed (by kernel_rfl) Z ?_);refine Ev.cons Z Z Z (AO.bC (i:=0) Z Z Z Aq Z Z zg) (Ev.cs gB 3 Z (Ev.cons Z Z Z (AO.dK h12 Z Z (ak.bA _) Z uM (ak.aQ _) Z zg) (Ev.cs gB 1 Z ?_)));refine Ev.cons Z Z Z (AO.call Z _ Z Z J2 (bK _ _ L_ zg)) (Ev.nil ?_);show AR _ _ _ _ _ _ _ _;rcases eD hf with⟨e10,Kk,hf⟩|⟨x7,Kk,hf⟩
  ·refine CL Z ((KP _ _).h Kk ?_);cases hf;exact⟨Z,[],aup _,h⟩
  refine CL Z ((KP _ _).h Kk ?_);cases hf;exact Rx 1 [1] Z Z (ZC [1] Z Z h)
 refine V 2 Z (C hf Z (fun Vn hf=>?_) fun Vn hf=>?_)
 ·rcases eD hf with⟨e11,h16,hf⟩|⟨x8,h16,hf⟩
  ·refine W 2 Z (CL Z (lX _ _ h16 ?_));cases hf;exact⟨Z,[],aup _,h⟩
  refine W 2 Z (CL Z (lX _ _ h16 ?_));cases hf;exact Rx 1 [0] Z Z (ZC [0] Z Z h)
 refine V 2 Z (C hf Z (fun h17 hf=>?_) fun h17 hf=>?_)
 ·refine B1 hf fun e12 h18 hf=>?_;rcases eD hf with⟨e13,h19,hf⟩|⟨x9,h19,hf⟩
  ·refine V 0 Z (AW.aev 7 8 mixed (by kernel_rfl) Z Z ?_);refine Ev.cs gB 5 Z (Ev.cons Z Z Z (AO.dK h18 Z Z (ak.bA _) Z uM (ak.aQ _) Z zg) (Ev.cs gB 1 Z (Ev.nil ?_)));refine⟨_,_,Z,Z,Z,Z,AO.call Z _ Z Z J2 (bK _ _ h19 ?_),?_⟩
   ·cases hf;exact⟨Z,[],aup _,h⟩
   refine Ev.nil ?_;trivial
  refine V 0 Z (AW.draw 8 mixed (by kernel_rfl) Z ?_);refine Ev.cs gB 5 Z (Ev.cons Z Z Z (AO.dK h18 Z Z (ak.bA _) Z uM (ak.aQ _) Z zg) (Ev.cs gB 1 Z (Ev.cons Z Z Z (AO.call Z _ Z Z J2 (bK _ _ h19 zg)) ?_)));refine Ev.nil ?_;show AR _ _ _ _ _ _ _ _;rcases eD hf with⟨e14,h20,hf⟩|⟨Fh,h20,hf⟩
  ·refine CL Z ((O3 _ _).h h20 ?_);cases hf;exact⟨Z,[],aup _,h⟩
  refine CL Z ((O3 _ _).h h20 ?_);cases hf;exact Rx 1 [0] Z Z (ZC [0] Z Z h)
 refine V 2 Z (C hf Z (fun h21 hf=>?_) fun h21 hf=>?_)
 ·rcases eD hf with⟨e15,h22,hf⟩|⟨Jj,h22,hf⟩
  ·refine W 2 Z (CL Z (kJ _ _ h22 ?_));cases hf;exact⟨Z,[],aup _,h⟩
  refine W 2 Z (CL Z (kJ _ _ h22 ?_));cases hf;exact Rx 1 [0] Z Z (ZC [0] Z Z h)
 refine V 2 Z (C hf Z (fun h23 hf=>?_) fun h23 hf=>?_)
 ·refine B1 hf fun e16 h24 hf=>W 3 Z (AS Z (AO.dK h24 Z Z (ak.bA _) Z uM (ak.aQ _) Z ?_));rcases eD hf with⟨e17,h25,hf⟩|⟨LA,h25,hf⟩
  ·refine U 1 Z (CL Z (bK _ _ h25 ?_));cases hf;exact⟨Z,[],aup _,h⟩
  refine U 1 Z (CL Z (bK _ _ h25 ?_));rcases eD hf with⟨e18,h26,hf⟩|⟨Ml,h26,hf⟩
  ·refine CL Z ((wL _).h h26 ?_);cases hf;exact⟨Z,[],aup _,h⟩
  refine CL Z ((wL _).h h26 (J 0 Z (C hf Z (fun h27 hf=>?_) fun h27 hf=>?_)))
  ·refine B1 hf fun e19 h28 hf=>W 3 Z (AS Z (AO.dK h28 Z Z (ak.bA _) Z uM (ak.aQ _) Z ?_));rcases eD hf with⟨e20,h29,hf⟩|⟨Vu,h29,hf⟩
   ·refine U 1 Z (CL Z (bK _ _ h29 ?_));cases hf;exact⟨Z,[],aup _,h⟩
   refine U 1 Z (CL Z (bK _ _ h29 ?_));cases hf;exact Rx 1 [0] Z Z (ZC [0] Z Z h)
  refine B1 hf fun e21 h30 hf=>W 3 Z (AS Z (AO.dK h30 Z Z (ak.bA _) Z uM (ak.aQ _) Z ?_));rcases eD hf with⟨e22,h31,hf⟩|⟨Ro,h31,hf⟩
  ·refine U 1 Z (CL Z (bK _ _ h31 ?_));cases hf;exact⟨Z,[],aup _,h⟩
  refine U 1 Z (CL Z (bK _ _ h31 ?_));cases hf;exact Rx 1 [0] Z Z (ZC [0] Z Z h)
 refine V 2 Z (C hf Z (fun h32 hf=>?_) fun h32 hf=>?_)
 ·rcases eD hf with⟨e23,Xm,hf⟩|⟨Lx,Xm,hf⟩
  ·refine W 3 Z (CL Z (iG _ _ Xm ?_));cases hf;exact⟨Z,[],aup _,h⟩
  refine W 3 Z (CL Z (iG _ _ Xm ?_));refine B1 hf fun Wo O6 hf=>CL Z ((Za _).h O6 (AS Z (AO.bL Z wM (fun b6=>?_))));refine B1 hf fun x18 h35 hf=>Rr 2 [0,0] Z Z (CL Z ((Gm _).h h35 ?_));rcases eD hf with⟨e24,h36,hf⟩|⟨_,h36,hf⟩
  ·refine U 1 Z (CL Z ((sV _ _).h h36 ?_));cases hf;exact⟨Z,[],aup _,h⟩
  refine U 1 Z (CL Z ((sV _ _).h h36 ?_));cases hf;exact Rx 2 [0,1] Z Z (ZC [1] Z Z h)
 rcases eD hf with⟨e25,h37,hf⟩|⟨x19,h37,hf⟩
 ·refine W 2 Z (CL Z (j_ _ _ h37 ?_));cases hf;exact⟨Z,[],aup _,h⟩
 refine W 2 Z (CL Z (j_ _ _ h37 ?_));cases hf;exact Rx 1 [0] Z Z (ZC [0] Z Z h)
theorem Nu(bf)(bK:nQ bf)(b_)(lX:nR b_)(bY)(iG:pE bY)(bT)(kJ:lY bT)(bO)(j_:lC bO)(s1:List aF)(e1:ak){rX:fG aG ah}(hf:qN bf b_ bY bT bO s1 e1=some rX)(h:Q (zo rX) τ):PC 163 [.list (List.map aF.cells s1),.agg (bJ e1)] τ Q:=by
 unfold qN at hf;refine BN 40 [.cell 4 29] [0,1] Tryz.func163 Z Z Z Z Z (W 1 Z (AS Z (AO.bL Z wM (fun b4=>?_))));refine B1 hf fun n1 h1 hf=>U 2 Z (CL Z ((Y_ _).h h1 ?_));rcases eD hf with⟨e2,h2,hf⟩|⟨_,h2,hf⟩
 ·refine U 3 Z (CL Z ((sV _ _).h h2 ?_));cases hf;exact⟨Z,[],aup _,h⟩
 refine U 3 Z (CL Z ((sV _ _).h h2 (U 2 Z (AS Z (AO.fU (l:=e1.args) Z Z Z Z uM Z (ak.bA _) ?_)))));rcases eD hf with⟨e3,h3,hf⟩|⟨_,h3,hf⟩
 ·refine U 2 Z (CL Z ((sV _ _).h h3 ?_));cases hf;exact⟨Z,[],aup _,h⟩
 refine U 2 Z (CL Z ((sV _ _).h h3 ?_));rcases eD hf with⟨e4,h4,hf⟩|⟨args1,h4,hf⟩
 ·refine U 3 Z (CL Z (iG _ _ h4 ?_));cases hf;exact⟨Z,[],aup _,h⟩
 refine U 3 Z (CL Z (iG _ _ h4 (J 3 Z (C hf Z (fun h5 hf=>?_) fun h5 hf=>?_))))
 ·refine V 0 Z (AW.draw 5 mixed (by kernel_rfl) Z ?_);refine Ev.cs gB 3 Z ?_;refine B1 hf fun e5 h6 hf=>Ev.cons Z Z Z (AO.dK h6 Z Z (ah.bA _) Z Kv (ah.aQ _) Z zg) (Ev.cs gB 1 Z (Ev.nil ?_));show AR _ _ _ _ _ _ _ _;rcases eD hf with⟨e6,h7,hf⟩|⟨x1,h7,hf⟩
  ·refine CL Z ((Vg _ _).h h7 ?_);cases hf;exact⟨Z,[],aup _,h⟩
  refine CL Z ((Vg _ _).h h7 ?_);cases hf;exact Rx 1 [0] Z Z (ZC [0] Z Z h)
 refine V 0 Z (AW.draw 8 mixed (by kernel_rfl) Z ?_);refine Ev.cs gB 3 Z ?_;refine B1 hf fun e7 h8 hf=>Ev.cons Z Z Z (AO.dK h8 Z Z (ah.bA _) Z Kv (ah.aQ _) Z zg) (Ev.cs gB 2 Z ?_);refine B1 hf fun e8 h9 hf=>Ev.cons Z Z Z (AO.dK h9 Z Z (ah.bA _) Z Kv (ah.aQ _) Z zg) (Ev.cs gB 1 Z (Ev.nil ?_));show AR _ _ _ _ _ _ _ _;rcases eD hf with⟨e9,h10,hf⟩|⟨x2,h10,hf⟩
 ·refine CL Z ((Ve _ _ _).h h10 ?_);cases hf;exact⟨Z,[],aup _,h⟩
 refine CL Z ((Ve _ _ _).h h10 ?_);cases hf;exact Rx 1 [0] Z Z (ZC [0] Z Z h)
theorem O9(bf)(bK:nQ bf)(b_)(lX:nR b_)(bY)(iG:pE bY)(bT)(kJ:lY bT)(bO)(j_:lC bO)(s1:List aF)(l1:List ak){rX:fG aG (List ah)}(hf:Ba bf b_ bY bT bO s1 l1=some rX)(h:Q (Ar rX) τ):PC 168 [.list (List.map aF.cells s1),.list (ak.bq l1)] τ Q:=by
 unfold Ba at hf;refine BN 22 [.tmp 4] [0,1] Tryz.func168 Z Z Z Z Z (W 0 Z (AS Z (AO.kr Z Z (U 2 Z (AS Z (AO.fU (l:=l1) Z Z Z Z uM Z (ak.bA _) (J 1 Z (AW.row 6 29 (LK3 (fun bP v1 x1=>[(0,.list (List.map aF.cells s1)),(5,.own v1 (ah.bq bP)),(8,.list (ak.bq l1)),(9,iP (l1.length:Int)),(10,iP x1)]) (fun bP v1 x1=>[.row v1 (ah.bq bP).length 6 29]) (fun dW bP v1 x1=>nK bf s1 l1 dW bP x1=some rX) BIG [] (.slice none 0 0) 0 Z Z hf (fun _ _ _ hz=>lM hz) ?_)))))))));intro dW bP v1 x1 hf;rw[nK]at hf;refine V 1 Z (C hf Z (fun h1 hf=>?_) fun h1 hf=>?_)
 ·refine B1 hf fun e1 h2 hf=>W 0 Z (AS Z (AO.dK h2 Z Z (ak.bA _) Z uM (ak.aQ _) Z (U 1 Z (AS Z (AO.bL Z LK (fun b7=>?_))))));rcases eD hf with⟨e2,h3,hf⟩|⟨x2,h3,hf⟩
  ·refine Rr 4 [0,0] Z Z (CL Z (bK _ _ h3 ?_));cases hf;exact⟨Z,[],aup _,h⟩
  refine Rr 4 [0,0] rfl rfl (CL rfl (bK _ _ h3 (AS rfl (AO.bN (ah.bq [x2]) rfl WU rfl rfl rfl (by first|rfl|simp only[ah.aQ,ah.bq]) ?_))));refine B1 hf fun xk h4 hf=>AS Z (AO.tQ (i:=1) (l:=bP) (m:=[x2]) h4 Z Z Z Z Z Z Z WU Kv (ah.bA _) (ah.bA _) (ah.bA _).symm (ah.fA) (ah.cells_one) (by decide) (fun v2 s2 hs2=>?_));cases hs2;refine zm 3 Z (AR.drop1 ?_);exact N 0 Z ⟨xk,v2,(bF (x1+1)),Z,Z,Z,hf⟩
 cases hf;exact M 2 Z (Y Z h)
theorem LB(bf)(bK:nQ bf)(b_)(lX:nR b_)(bY)(iG:pE bY)(bT)(kJ:lY bT)(bO)(j_:lC bO)(s1:List aF)(e1:ak){rX:fG aG ah}(hf:om bf b_ bY bT bO s1 e1=some rX)(h:Q (wR rX) τ):PC 165 [.list (List.map aF.cells s1),.agg (bJ e1)] τ Q:=by
 unfold om at hf;refine BN 95 [.cell 4 29] [0,1] Tryz.func165 Z Z Z Z Z (W 1 Z (AS Z (AO.bL Z wM (fun b4=>?_))));refine B1 hf fun e2 h1 hf=>U 3 Z (AS Z (AO.dK h1 Z Z (ak.bA _) Z uM (ak.aQ _) Z ?_));rcases eD hf with⟨e3,h2,hf⟩|⟨x1,h2,hf⟩
 ·refine U 1 Z (CL Z (bK _ _ h2 ?_));cases hf;exact⟨Z,[],aup _,h⟩
 refine U 1 Z (CL Z (bK _ _ h2 (AS Z (AO.bL Z wM (fun b5=>(Rr 5 [0] Z Z (On 4 16 20 [0,3,4,5] (e1.name==([124,124]:Str)) Z Z Z Z (J 0 Z (C hf Z (fun h4 hf=>?_) fun h4 hf=>?_)))))))))
 ·rcases eD hf with⟨e4,h5,hf⟩|⟨x2,h5,hf⟩
  ·refine V 0 Z (AW.aev 1 5 mixed (by kernel_rfl) Z Z ?_);refine Ev.cons Z Z Z (AO.bC (i:=0) Z Z Z Aq Z Z zg) (Ev.nil (⟨_,_,Z,Z,Z,Z,AO.call Z _ Z Z ah1 ((wL _).h h5 ?_),?_⟩))
   ·cases hf;exact⟨Z,[],aup _,h⟩
   refine Ev.cs gB 3 Z (Ev.nil ?_);trivial
  refine V 0 Z (AW.draw 6 mixed (by kernel_rfl) Z ?_);refine Ev.cons Z Z Z (AO.bC (i:=0) Z Z Z Aq Z Z zg) (Ev.cons Z Z Z (AO.call Z _ Z Z ah1 ((wL _).h h5 zg)) (Ev.cs gB 3 Z (Ev.cons Z Z Z (AO.abh Z apy Z Z zg) ?_)));refine Ev.nil ?_;show AR _ _ _ _ _ _ _ _;refine J 0 Z (C hf Z (fun h6 hf=>?_) fun h6 hf=>?_)
  ·cases hf;exact Wx 2 [0,1] Z Z (ZC [1] Z Z h)
  refine B1 hf fun e5 h7 hf=>W 3 Z (AS Z (AO.dK h7 Z Z (ak.bA _) Z uM (ak.aQ _) Z ?_));rcases eD hf with⟨e6,h8,hf⟩|⟨x3,h8,hf⟩
  ·refine U 1 Z (CL Z (bK _ _ h8 ?_));cases hf;exact⟨Z,[],aup _,h⟩
  refine U 1 Z (CL Z (bK _ _ h8 ?_));rcases eD hf with⟨e7,h9,hf⟩|⟨x4,h9,hf⟩
  ·refine CL Z ((wL _).h h9 ?_);cases hf;exact⟨Z,[],aup _,h⟩
  refine CL Z ((wL _).h h9 ?_);refine B1 hf fun x5 h10 hf=>CL Z ((p9 _).h h10 ?_);cases hf;exact Rx 1 [1] Z Z (ZC [1] Z Z h)
 refine B1 hf fun e8 h11 hf=>W 3 Z (AS Z (AO.dK h11 Z Z (ak.bA _) Z uM (ak.aQ _) Z ?_));rcases eD hf with⟨e9,h12,hf⟩|⟨x6,h12,hf⟩
 ·refine U 1 Z (CL Z (bK _ _ h12 ?_));cases hf;exact⟨Z,[],aup _,h⟩
 refine U 1 Z (CL Z (bK _ _ h12 (AS Z (AO.bL Z wM (fun b6=>(Rw 5 [0] Z Z (C hf Z (fun L_ hf=>?_) fun L_ hf=>?_)))))))
 ·refine B1 hf fun x7 Kk hf=>Wr 2 [1,0] Z Z (CL Z ((Mg _ _).h Kk ?_));refine B1 hf fun x8 Vn hf=>CL Z ((p9 _).h Vn ?_);cases hf;exact Rx 1 [2] Z Z (ZC [2] Z Z h)
 refine V 2 Z (C hf Z (fun h16 hf=>?_) fun h16 hf=>?_)
 ·refine B1 hf fun x9 h17 hf=>Wr 2 [1,0] Z Z (CL Z ((Mg _ _).h h17 ?_));refine B1 hf fun Fh h18 hf=>U 1 Z (CL Z ((p9 _).h h18 ?_));cases hf;exact Rx 1 [2] Z Z (ZC [2] Z Z h)
 refine V 2 Z (C hf Z (fun h19 hf=>?_) fun h19 hf=>?_)
 ·rcases eD hf with⟨e10,h20,hf⟩|⟨Jj,h20,hf⟩
  ·refine Wr 2 [1,0] Z Z (CL Z ((qW _ _).h h20 ?_));cases hf;exact⟨Z,[],aup _,h⟩
  refine Wr 2 [1,0] Z Z (CL Z ((qW _ _).h h20 ?_));refine B1 hf fun LA h21 hf=>U 1 Z (CL Z ((p9 _).h h21 ?_));cases hf;exact Rx 1 [2] Z Z (ZC [2] Z Z h)
 refine V 2 Z (C hf Z (fun h22 hf=>?_) fun h22 hf=>?_)
 ·rcases eD hf with⟨e11,h23,hf⟩|⟨Ml,h23,hf⟩
  ·refine Wr 2 [1,0] Z Z (CL Z ((qW _ _).h h23 ?_));cases hf;exact⟨Z,[],aup _,h⟩
  refine Wr 2 [1,0] Z Z (CL Z ((qW _ _).h h23 ?_));refine B1 hf fun Vu h24 hf=>U 1 Z (CL Z ((p9 _).h h24 ?_));cases hf;exact Rx 1 [2] Z Z (ZC [2] Z Z h)
 refine V 2 Z (C hf Z (fun h25 hf=>?_) fun h25 hf=>?_)
 ·rcases eD hf with⟨e12,h26,hf⟩|⟨Ro,h26,hf⟩
  ·refine Wr 2 [1,0] Z Z (CL Z ((qW _ _).h h26 ?_));cases hf;exact⟨Z,[],aup _,h⟩
  refine Wr 2 [1,0] Z Z (CL Z ((qW _ _).h h26 ?_));refine B1 hf fun Lx h27 hf=>U 1 Z (CL Z ((p9 _).h h27 ?_));cases hf;exact Rx 1 [2] Z Z (ZC [2] Z Z h)
 refine V 2 Z (C hf Z (fun h28 hf=>?_) fun h28 hf=>?_)
 ·rcases eD hf with⟨e13,h29,hf⟩|⟨Wo,h29,hf⟩
  ·refine Wr 2 [1,0] Z Z (CL Z ((qW _ _).h h29 ?_));cases hf;exact⟨Z,[],aup _,h⟩
  refine Wr 2 [1,0] Z Z (CL Z ((qW _ _).h h29 ?_));refine B1 hf fun x18 h30 hf=>U 1 Z (CL Z ((p9 _).h h30 ?_));cases hf;exact Rx 1 [2] Z Z (ZC [2] Z Z h)
 refine V 2 Z (C hf Z (fun h31 hf=>?_) fun h31 hf=>?_)
 ·rcases eD hf with⟨e14,h32,hf⟩|⟨x19,h32,hf⟩
  ·refine Wr 2 [1,0] Z Z (CL Z ((Vf _ _).h h32 ?_));cases hf;exact⟨Z,[],aup _,h⟩
  refine Wr 2 [1,0] Z Z (CL Z ((Vf _ _).h h32 ?_));cases hf;exact Rx 1 [2] Z Z (ZC [2] Z Z h)
 rcases eD hf with⟨e15,Xm,hf⟩|⟨x20,Xm,hf⟩
 ·refine Wr 4 [1,0] Z Z (CL Z ((F8 _ _ _).h Xm ?_));cases hf;exact⟨Z,[],aup _,h⟩
 refine Wr 4 [1,0] Z Z (CL Z ((F8 _ _ _).h Xm ?_));cases hf;exact Rx 1 [2] Z Z (ZC [2] Z Z h)
theorem Jy(bf)(bK:nQ bf)(b_)(lX:nR b_)(bY)(iG:pE bY)(bT)(kJ:lY bT)(bO)(j_:lC bO)(s1:List aF)(e1:ak){rX:fG aG ah}(hf:nC bf b_ bY bT bO s1 e1=some rX)(h:Q (uS rX) τ):PC 170 [.list (List.map aF.cells s1),.agg (bJ e1)] τ Q:=by
 unfold nC at hf;refine BN 41 [.cell 4 29] [0,1] Tryz.func170 Z Z Z Z Z (W 1 Z (AS Z (AO.bL Z wM (fun b4=>?_))));rcases eD hf with⟨e2,h1,hf⟩|⟨x1,h1,hf⟩
 ·refine U 4 Z (CL Z (iG _ _ h1 ?_));cases hf;exact⟨Z,[],aup _,h⟩
 refine U 4 Z (CL Z (iG _ _ h1 (AS Z (AO.fU (l:=x1) Z Z Z Z Kv Z (ah.bA _) ?_))));refine J 1 Z (AW.row 7 31 (LK3 (fun gZ v1 i1=>[(3,.ref (bJ e1)),(4,pP b4),(5,.own v1 (List.map aF.cells gZ)),(13,.list (ah.bq x1)),(14,iP (x1.length:Int)),(15,iP i1)]) (fun gZ v1 i1=>[.row v1 (List.map aF.cells gZ).length 7 31,.box b4 [iP 0,.bool false,iP 0,.str ([]:Str),.own (.slice none 0 0) [],.own (.slice none 0 0) []]]) (fun dW gZ v1 i1=>mO e1 x1 dW gZ i1=some rX) BIG [] (.slice none 0 0) 0 Z Z hf (fun _ _ _ hz=>lM hz) ?_));intro dW gZ v1 i1 hf;rw[mO]at hf;refine V 1 Z (C hf Z (fun h2 hf=>?_) fun h2 hf=>?_)
 ·refine B1 hf fun e3 h3 hf=>W 1 Z (AS Z (AO.dK h3 Z Z (ah.bA _) Z Kv (ah.aQ _) Z (U 1 Z (AS Z (AO.bL Z wM (fun b7=>(Rw 2 [0] Z Z (AW.draw 9 mixed (by kernel_rfl) Z ?_))))))));refine Ev.cs gB 4 Z ?_;refine B1 hf fun e4 h4 hf=>Ev.cons Z Z Z (AO.dK h4 Z Z Z Z FW Z Z zg) (Ev.cs gB 1 Z (Ev.cons Z Z Z (AO.bC (i:=0) Z Z Z Aq Z Z zg) (Ev.cons Z Z Z (AO.build Z ado anV Z zg) ?_)));refine Ev.cons rfl rfl rfl (AO.bN (List.map aF.cells [(aF.mk e4 e3)]) rfl SS rfl rfl rfl (by first|rfl|simp only[List.map,aF.aQ]) ⟨rfl,rfl⟩) ?_;refine Ev.nil ?_;show AR _ _ _ _ _ _ _ _
  refine B1 hf fun Sz h5 hf=>AS Z (AO.tQ (i:=1) (l:=gZ) (m:=[(aF.mk e4 e3)]) h5 Z Z Z Z Z Z Z SS Jc Z Z Z (aF.fA) (aF.cells_one) (by decide) (fun v2 s2 hs2=>?_));cases hs2;refine zm 3 Z (AR.drop1 ?_);exact N 0 Z ⟨Sz,v2,(bF (i1+1)),Z,Z,Z,hf⟩
 obtain⟨x2,nL,h6,hf⟩:=gy hf;refine W 1 Z (CL Z ((abq _).h h6 (U 3 Z (AS Z (AO.bL Z wM (fun b8=>?_))))));rcases eD hf with⟨e5,h7,hf⟩|⟨_,h7,hf⟩
 ·refine Rr 5 [0] Z Z (CL Z ((sV _ _).h h7 ?_));cases hf;exact⟨Z,[],aup _,h⟩
 refine Rr 5 [0] Z Z (CL Z ((sV _ _).h h7 ?_));cases hf;exact Rx 2 [0,2] Z Z (ZC [2] Z Z h)
theorem qJ:∀k:Nat,(nQ (cZ k))∧(nR (eG k))∧(pE (fq k))∧(lY (dS k))∧(lC (dG k)):=by
 intro k
 induction k with
 | zero=>exact⟨fun _ _ _ hz=>by first|cases hz|(unfold cZ at hz;cases hz),fun _ _ _ hz=>by first|cases hz|(unfold eG at hz;cases hz),fun _ _ _ hz=>by first|cases hz|(unfold fq at hz;cases hz),fun _ _ _ hz=>by first|cases hz|(unfold dS at hz;cases hz),fun _ _ _ hz=>by first|cases hz|(unfold dG at hz;cases hz)⟩
 | succ k ih=>exact⟨fun sN jo zw hz τ Q hq=>Nt (cZ k) ih.1 (eG k) ih.2.1 (fq k) ih.2.2.1 (dS k) ih.2.2.2.1 (dG k) ih.2.2.2.2 sN jo hz hq,fun sN jo zw hz τ Q hq=>Nu (cZ k) ih.1 (eG k) ih.2.1 (fq k) ih.2.2.1 (dS k) ih.2.2.2.1 (dG k) ih.2.2.2.2 sN jo hz hq,fun sN Rs zw hz τ Q hq=>O9 (cZ k) ih.1 (eG k) ih.2.1 (fq k) ih.2.2.1 (dS k) ih.2.2.2.1 (dG k) ih.2.2.2.2 sN Rs hz hq,fun sN jo zw hz τ Q hq=>LB (cZ k) ih.1 (eG k) ih.2.1 (fq k) ih.2.2.1 (dS k) ih.2.2.2.1 (dG k) ih.2.2.2.2 sN jo hz hq,fun sN jo zw hz τ Q hq=>Jy (cZ k) ih.1 (eG k) ih.2.1 (fq k) ih.2.2.1 (dS k) ih.2.2.2.1 (dG k) ih.2.2.2.2 sN jo hz hq⟩
instance F7(sN:List aF)(jo:ak):CT Tryz.prog (CU sN jo) (fun r=>zn r) 123 [.list (List.map aF.cells sN),.agg (bJ jo)]:=⟨zP rfl,fun {r} hf {τ Q} h=>((qJ BIG).1) sN jo hf h⟩
instance aeR(sN:List aF)(jo:ak):CT Tryz.prog (RA sN jo) (fun r=>zo r) 163 [.list (List.map aF.cells sN),.agg (bJ jo)]:=⟨zP rfl,fun {r} hf {τ Q} h=>((qJ BIG).2.1) sN jo hf h⟩
instance agB(sN:List aF)(Rs:List ak):CT Tryz.prog (Ut sN Rs) (fun r=>Ar r) 168 [.list (List.map aF.cells sN),.list (ak.bq Rs)]:=⟨zP rfl,fun {r} hf {τ Q} h=>((qJ BIG).2.2.1) sN Rs hf h⟩
instance abI(sN:List aF)(jo:ak):CT Tryz.prog (OI sN jo) (fun r=>wR r) 165 [.list (List.map aF.cells sN),.agg (bJ jo)]:=⟨zP rfl,fun {r} hf {τ Q} h=>((qJ BIG).2.2.2.1) sN jo hf h⟩
instance abB(sN:List aF)(jo:ak):CT Tryz.prog (M4 sN jo) (fun r=>uS r) 170 [.list (List.map aF.cells sN),.agg (bJ jo)]:=⟨zP rfl,fun {r} hf {τ Q} h=>((qJ BIG).2.2.2.2) sN jo hf h⟩
end
section
variable [D8]
instance agA(s1:List aF)(e1:ak):CT Tryz.prog (zZ s1 e1) (fun r=>.ret (.tuple [.agg (aP r.1),iP r.2])) 82 [.list (List.map aF.cells s1),.agg (bJ e1)]:=⟨zP rfl,fun {r} hf {τ Q} h=>by
 obtain⟨r0,r1⟩:=r;unfold zZ at hf;refine AC.none (AC.Q7 10 [.cell 4 29,.cell 5 38] [0,1] [0,1] Tryz.func82 Z Z Z Z Z Tryz.func122 Z Z Z Z Z Z Z an9 (AW.sr (AR.step Z Z Z (AO.IQ Z Z Z ?_))));refine AR.step Z Z Z (AO.bL Z wM (fun b4=>(AR.step Z Z Z (AO.bL Z adn (fun b5=>(AR.nil [0,3,4,5] Z (AW.sr ?_)))))));refine cs 1 Z (AR.defer (vs:=[.pointer (some ⟨b4,0,none⟩),.pointer (some ⟨b5,0,none⟩)]) Z Z Z Z Z Z (AR.nil [0,3,4,5] Z (AW.sr ?_)));refine cs 2 Z ?_;rcases eD hf with⟨f1,h1,hf⟩|⟨v1,h1,hf⟩
 ·refine AR.step Z Z Z (AO.call Z _ Z Z J2 ((F7 _ _).h h1 ?_));cases hf;refine⟨[.pointer (some ⟨b4,0,none⟩),.pointer (some ⟨b5,0,none⟩)],_,Z,Z,Z,(AR.step Z Z Z (AO.adH Z Z akN (cs 3 Z (AR.step Z Z Z (AO.bL Z ag3 (fun b6=>?_))))))⟩;refine AR.bZ Z Z (AO.dX (i:=0) Z Z Z ahs Z Z Z Z Z (cs 1 Z (AR.nil [0,1,2,3] Z (AW.sr ?_))));refine cs 1 Z (AR.nil [0,1,2,9] Z (AW.cond Z (fun _=>?_) (fun hh=>by cases hh)));refine AW.ai7 1 3 4 [_] [_,_] mixed (by kernel_rfl) (by kernel_rfl) (by kernel_rfl) Z Z Z (List.Perm.refl _) ?_;refine Ev.cons Z Z Z (AO.build Z wM ahC Z zg) (Ev.nil ?_);show Ev _ _ _ _ _ _ _;refine Ev.cs gB 1 Z (Ev.cons Z Z Z (AO.bC (i:=0) Z Z Z uX Z Z zg) (Ev.nil (TF.bZ Z Z (AO.dX (i:=1) Z Z Z Aq Z Z Z Z Z ?_))));refine TF.nil ?_;show AR _ _ _ _ _ _ _ _;refine AR.bZ Z Z (AO.dX (i:=1) Z Z Z uX Z Z Z Z Z (AR.nil [] Z ?_));exact⟨rfl,_,⟨_,_,rfl,⟨_,_,2,_,_,rfl,rfl,Aq,rfl⟩,⟨_,_,rfl,⟨_,_,1,_,_,rfl,rfl,uX,rfl⟩,rfl⟩⟩,[],aup _,h⟩
 refine AR.step Z Z Z (AO.call Z _ Z Z J2 ((F7 _ _).h h1 ?_));cases hf;refine AR.bZ Z Z (AO.dX (i:=1) Z Z Z Aq Z Z Z Z Z (AR.bZ Z Z (AO.dX (i:=0) Z Z Z uX Z Z Z Z Z (AR.nil [4,5] Z (AW.ret ?_)))));refine⟨[.pointer (some ⟨b4,0,none⟩),.pointer (some ⟨b5,0,none⟩)],_,Z,Z,Z,(AR.step Z Z Z (AO.ZK (p:=.agg [iP 0]) Z Z akP (fun _ _=>by simp only[dh];exact⟨[.int .i64 0],Z,aV.cons (by simp[dh]) aV.nil⟩) ?_))⟩
 refine cs 3 Z (AR.step Z Z Z (AO.bL Z ag3 (fun b6=>(AR.bZ Z Z (AO.dX (i:=0) Z Z Z ahs Z Z Z Z Z (cs 1 Z ?_))))));refine AR.nil [3] Z (AW.sr (cs 1 Z (AR.nil [9] Z ?_)));refine AW.cond Z (fun hh=>by cases hh) (fun _=>?_);refine AW.skip ?_;exact⟨rfl,_,⟨_,_,rfl,⟨_,_,2,_,_,rfl,rfl,Aq,rfl⟩,⟨_,_,rfl,⟨_,_,1,_,_,rfl,rfl,uX,rfl⟩,rfl⟩⟩,[],aup _,h⟩⟩
end
section
variable (m_ : ah → Option ah) [aiR : ∀(nS : ah), CT Tryz.prog (m_ nS) (fun r => .ret (.agg (aP r))) 83 [.agg (aP nS)]]
instance (v1 :ah) (n_ ku Ao):LE (xF m_ v1 n_ ku Ao) (fun j p=>xF m_ v1 j p.1 p.2) n_ (ku,Ao) [] [(1,[4,5])] [(9999,6,29),(9999,1,9)] [1,2,3,10,11] (fun v w p=>[(12,iP p.1)]) (fun v w p s=>AZ 2 [iP p.2.kind,.bool p.2.dZ,iP p.2.eB,.str p.2.bV,.own v (List.map ah.cells p.2.aO),.own w (List.map kg p.2.keys)] (putRow 1 v ((List.map ah.cells p.2.aO).length) (putRow 0 w ((List.map kg p.2.keys).length) (s)))):=⟨Z⟩
instance Vh(v1:ah):CT Tryz.prog (DK m_ v1) (fun r=>.ret (.agg (aP r))) 83 [.agg (aP v1)]:=by
  unfold DK;exact Z1 ⟨31,[],[]⟩ Z Tryz.func83 Z Z Z Z
end
theorem Og:∀k:Nat,(∀(nS:ah),CT Tryz.prog (qP k nS) (fun r=>.ret (.agg (aP r))) 83 [.agg (aP nS)])
  | 0=>fun _=>CT.none Z
  | k+1=>by
    obtain (i0):=Og k;exact fun nS=>Vh _ nS
instance amk(nS:ah):CT Tryz.prog (yH nS) (fun r=>.ret (.agg (aP r))) 83 [.agg (aP nS)]:=(Og BIG) nS
section
variable [D8]
instance anC(e1:ak)(dJ:List aF):CT Tryz.prog (G8 e1 dJ) (fun r=>.ret (.tuple [.agg (aP r.1),iP r.2])) 44 [.agg (bJ e1),.list (List.map aF.cells dJ)]:=by
  unfold G8;exact Z1 ⟨28,[],[]⟩ Z Tryz.func44 Z Z Z Z
end
section
variable [D8]
instance O1(p1:aS)(dJ:List aF):CT Tryz.prog (uh p1 dJ) (fun r=>.ret (.tuple [.str r.1,iP r.2])) 21 [.agg (PZ p1),.list (List.map aF.cells dJ)]:=by
  unfold uh;exact Z1 ⟨27,[],[]⟩ Z Tryz.func21 Z Z Z Z
end
section
variable [D8]
instance RJ(s1:Str)(dJ:List aF):CT Tryz.prog (uw s1 dJ) (fun r=>.ret (.tuple [.str r.1,iP r.2])) 8 [.str s1,.list (List.map aF.cells dJ)]:=⟨zP rfl,fun {r} hf {τ Q} h=>by
 obtain⟨r0,r1⟩:=r;unfold uw at hf;refine BN 50 [.tmp 4,.tmp 5] [0,1] Tryz.func8 Z Z Z Z Z ?_;obtain⟨ps1,x1,nL,h1,hf⟩:=wK hf;refine W 3 Z (CL Z ((vT _).h h1 (J 9 Z (C hf Z (fun h2 hf=>?_) fun h2 hf=>?_))))
 ·cases hf;exact M 3 Z (Y Z h)
 refine B1 hf fun Hf h3 hf=>W 1 Z (CL Z ((ada _).h h3 (J 3 Z (C hf Z (fun h4 hf=>?_) fun h4 hf=>?_))))
 ·cases hf;exact M 3 Z (Y Z h)
 refine W 0 Z (AS Z (AO.Ht (eu:=5) Z Zj Z (fun b10=>(U 1 Z (AS Z (AO.fU (l:=ps1) Z Z Z Z Jb Z Z (J 1 Z (LK3 (fun x2 b1 v1=>[(1,.list (List.map aF.cells dJ)),(10,pP b10),(29,.list (List.map aS.cells ps1)),(30,iP (ps1.length:Int)),(31,iP x2)]) (fun x2 b1 v1=>[.Ng b10 v1 68 5 b1]) (fun dW x2 b1 v1=>o9 dJ ps1 dW x2 b1=some (r0,r1)) BIG 0 [] (.slice none 0 0) Z Z hf (fun _ _ _ hz=>lM hz) ?_))))))));intro dW x2 b1 v1 hf;rw[o9]at hf;refine V 1 Z (C hf Z (fun h5 hf=>?_) fun h5 hf=>?_)
 ·refine B1 hf fun e1 h6 hf=>W 0 Z (AS Z (AO.dK h6 Z Z Z Z Jb (aS.aQ _) Z (U 1 Z (AS Z (AO.bL Z Zk (fun b12=>?_))))));obtain⟨t1,aez,h7,hf⟩:=gy hf;refine Rr 3 [0,0] Z Z (CL Z ((O1 _ _).h h7 (J 7 Z (C hf Z (fun h8 hf=>?_) fun h8 hf=>?_))))
  ·cases hf;exact M 3 Z (Y Z h)
  refine B1 hf fun b2 h9 hf=>W 1 Z (CL Z (AC.one 1 Z (nM h9 (fun v2=>⟨_,Z,(zm 2 Z (AR.drop1 ?_))⟩))));exact N 0 Z ⟨(bF (x2+1)),b2,v2,Z,Z,Z,hf⟩
 refine W 0 Z (CL Z (AC.one 0 Z (XE ⟨_,Z,(J 1 Z (C hf Z (fun h10 hf=>?_) fun h10 hf=>?_))⟩)))
 ·cases hf;exact M 2 Z (Y Z h)
 refine W 0 Z (CL Z (AC.Oa 0 Z (Ah ?_)));cases hf;exact N 2 Z (Y Z h)⟩
end
theorem Af{β:Type}(l:Nat)(T:β→List aR→Prop)(y:β→ak→Option (Bool × β))(hy:∀s x1 b s2 τ,y s x1=some (b,s2)→T s τ→AY Tryz.prog l [.agg (bJ x1)] τ (fun out σ'=>out=.ret (.bool b)∧T s2 σ'))
  (ps1:List aS) {s1 s2:β} (hf:pR y s1 ps1=some s2) {τ:List aR} (hT:T s1 τ) {Q:dN→List aR→Prop} (h:∀τ',T s2 τ'→Q (.ret (.tuple [])) τ'):
  PC 39 [.val (.func (.yield l) #[] #[]),.ref [.list (List.map aS.cells ps1)]] τ Q:=by
 unfold pR at hf;refine AC.lD 21 [] [0,1] Tryz.func39 Z Z Z Z Z (AW.sr (AR.step Z Z Z (AO.GL Z Z SG Z (AR.step Z Z Z (AO.fU (l:=ps1) Z Z Z Z Jb Z Z ?_)))));refine cs 1 Z (AR.nil [0,5,6,7] Z (AW.block (AW.aiu (fun(s:β) (τ0:List aR) (i1:Int)=>[(0,.val (.func (.yield l) #[] #[])),(5,.list (List.map aS.cells ps1)),(6,iP (ps1.length:Int)),(7,iP i1)]) (fun s τ0 i1=>τ0) (fun dW s τ0 i1=>jD y ps1 dW s i1=some s2∧T s τ0) BIG s1 τ 0 Z Z ⟨hf,hT⟩ (fun _ _ _ hz=>lM hz.1) ?_)));intro dW s3 τ3 i1 hfI;obtain⟨hf,hT⟩:=hfI;rw[jD]at hf;refine AW.sr (cs 1 Z (AR.nil [0,5,6,7,8] Z (AW.seq ?_)));refine AW.cond Z (fun h1=>?_) (fun h1=>?_)
 ·replace hf:=ql h1 hf;refine AW.skip (AW.seq (AW.block (AW.sr ?_)));refine B1 hf fun p1 h2 hf=>?_;refine AR.step Z Z Z (AO.dK h2 Z Z Z Z Jb (aS.aQ _) Z (cs 1 Z (AR.step Z Z Z (AO.bL Z Zk (fun b4=>(AR.bZ Z Z (AO.dX (i:=0) Z Z Z apA Z Z Z Z Z ?_)))))));refine AR.nil [0,4,5,6,7] Z (AW.seq (AW.adT (HV.step Z Z Z Z (AO.bR Z Z alP ?_))));refine HV.step Z Z Z Z (AO.bC (i:=0) Z Z Z arM Z Z (HV.step Z Z Z Z (AO.calc' Z ?_)));cases hp:p1.VG with
  | false=>
   replace hf:=nZ hp hf;refine HV.of Z (cs 6 Z (AR.drop1 (AR.nil [0,5,6,7,19] Z ?_)));refine AW.cond Z (fun hh=>by cases hh) (fun _=>?_);refine AW.skip (AW.region (cs 2 Z (AR.nil [0,5,6,7] Z ?_)));exact⟨s3,τ3,(bF (i1+1)),Z,Z,Z,hf,hT⟩
  | true=>
   replace hf:=ql hp hf;obtain⟨b1,s4,h3,hf⟩:=gy hf;refine HV.run Z Z Z Z (HV.step Z Z Z Z (AO.calc' Z (HV.run Z Z Z Z (HV.step Z Z Z Z (AO.bR Z Z alO ?_)))));refine HV.run Z Z Z Z (HV.step Z Z Z Z (AO.bC (i:=0) Z Z Z Ap Z Z (HV.drop1 (HV.run Z Z Z Z ?_))));refine HV.anH Z Z Z Z Z _ Z Z (hy _ _ _ _ _ h3 hT) fun τ4 hT4=>(HV.of Z (cs 2 Z (AR.nil [0,5,6,7,19] Z ?_)));refine AW.cond Z (fun h5=>?_) (fun h5=>?_)
   ·cases ql h5 hf;refine AW.ret ?_;exact⟨rfl,_,rfl,_,List.Sublist.refl _,h _ hT4⟩
   ·replace hf:=nZ h5 hf;refine AW.skip (AW.region (cs 2 Z (AR.nil [0,5,6,7] Z ?_)));exact⟨s4,τ4,(bF (i1+1)),Z,Z,Z,hf,hT4⟩
 ·cases nZ h1 hf;refine AW.exit ?_;exact⟨rfl,_,rfl,_,List.Sublist.refl _,h _ hT⟩
theorem Cy(ps1:List aS)(h:Q (.ret (.fn 39 [.ref [.list (List.map aS.cells ps1)]])) τ):PC 18 [.list (List.map aS.cells ps1)] τ Q:=by
 refine BN 4 [.tmp 2] [0] Tryz.func18 Z Z Z Z Z ?_;exact M 4 Z (Y Z h)
def ae9:Go.Shelf.Ren:=⟨fun|6=>95|15=>141|14=>140|28=>189|29=>190|20=>181|21=>182|22=>183|23=>184|24=>185|25=>186|26=>187|27=>188|46=>225|47=>226|48=>227|49=>228|50=>229|57=>263|n=>n,fun|22=>27|24=>9|25=>135|3=>3|39=>173|0=>0|53=>199|55=>201|4=>4|46=>192|45=>191|50=>196|5=>5|9=>9|66=>224|70=>228|76=>255|77=>256|n=>n,fun|n=>n⟩
theorem apE:Go.Proofs.SlLaysF.n6 Tryz.prog ae9:={
 mixed:=by kernel_rfl
 f6:=⟨Tryz.f95.name,by decide,Tryz.func95.trans (auq some (by kernel_rfl))⟩
 f14:=⟨Tryz.f140.name,by decide,Tryz.func140.trans (auq some (by kernel_rfl))⟩
 f15:=Tryz.func141.trans (auq some (by kernel_rfl))
 f20:=⟨Tryz.f181.name,by decide,Tryz.func181.trans (auq some (by kernel_rfl))⟩
 f21:=⟨Tryz.f182.name,by decide,Tryz.func182.trans (auq some (by kernel_rfl))⟩
 f22:=⟨Tryz.f183.name,by decide,Tryz.func183.trans (auq some (by kernel_rfl))⟩
 f23:=⟨Tryz.f184.name,by decide,Tryz.func184.trans (auq some (by kernel_rfl))⟩
 f24:=⟨Tryz.f185.name,by decide,Tryz.func185.trans (auq some (by kernel_rfl))⟩
 f25:=⟨Tryz.f186.name,by decide,Tryz.func186.trans (auq some (by kernel_rfl))⟩
 f26:=⟨Tryz.f187.name,by decide,Tryz.func187.trans (auq some (by kernel_rfl))⟩
 f27:=⟨Tryz.f188.name,by decide,Tryz.func188.trans (auq some (by kernel_rfl))⟩
 f28:=Tryz.func189.trans (auq some (by kernel_rfl))
 f29:=Tryz.func190.trans (auq some (by kernel_rfl))
 f46:=⟨Tryz.f225.name,by decide,Tryz.func225.trans (auq some (by kernel_rfl))⟩
 f47:=Tryz.func226.trans (auq some (by kernel_rfl))
 f48:=Tryz.func227.trans (auq some (by kernel_rfl))
 f49:=⟨Tryz.f228.name,by decide,Tryz.func228.trans (auq some (by kernel_rfl))⟩
 f50:=⟨Tryz.f229.name,by decide,Tryz.func229.trans (auq some (by kernel_rfl))⟩
 f57:=⟨Tryz.f263.name,by decide,Tryz.func263.trans (auq some (by kernel_rfl))⟩
 t0:=Tryz.underlying0
 a0:=Tryz.isAgg0
 z0:=Tryz.sizeOf0
 v0:=Tryz.zeroValue0
 t3:=Tryz.underlying3
 a3:=Tryz.isAgg3
 z3:=Tryz.sizeOf3
 v3:=Tryz.zeroValue3
 t4:=Tryz.underlying4
 a4:=Tryz.isAgg4
 z4:=Tryz.sizeOf4
 v4:=Tryz.zeroValue4
 t5:=Tryz.underlying5
 a5:=Tryz.isAgg5
 z5:=Tryz.sizeOf5
 v5:=Tryz.zeroValue5
 t9:=Tryz.underlying9
 a9:=Tryz.isAgg9
 z9:=Tryz.sizeOf9
 v9:=Tryz.zeroValue9
 t22:=Tryz.underlying27
 a22:=Tryz.isAgg27
 z22:=Tryz.sizeOf27
 v22:=Tryz.zeroValue27
 a24:=Tryz.isAgg9
 z24:=Tryz.sizeOf9
 t25:=Tryz.underlying135
 a25:=Tryz.isAgg135
 z25:=Tryz.sizeOf135
 v25:=Tryz.zeroValue135
 t39:=Tryz.underlying173
 a39:=Tryz.isAgg173
 z39:=Tryz.sizeOf173
 v39:=Tryz.zeroValue173
 t45:=Tryz.underlying191
 a45:=Tryz.isAgg191
 z45:=Tryz.sizeOf191
 v45:=Tryz.zeroValue191
 t46:=Tryz.underlying192
 a46:=Tryz.isAgg192
 z46:=Tryz.sizeOf192
 v46:=Tryz.zeroValue192
 t50:=Tryz.underlying196
 a50:=Tryz.isAgg196
 z50:=Tryz.sizeOf196
 v50:=Tryz.zeroValue196
 t53:=Tryz.underlying199
 a53:=Tryz.isAgg199
 z53:=Tryz.sizeOf199
 v53:=Tryz.zeroValue199
 t55:=Tryz.underlying201
 a55:=Tryz.isAgg201
 z55:=Tryz.sizeOf201
 v55:=Tryz.zeroValue201
 t66:=Tryz.underlying224
 a66:=Tryz.isAgg224
 z66:=Tryz.sizeOf224
 v66:=Tryz.zeroValue224
 t70:=Tryz.underlying228
 a70:=Tryz.isAgg228
 z70:=Tryz.sizeOf228
 v70:=Tryz.zeroValue228
 t76:=Tryz.underlying255
 a76:=Tryz.isAgg255
 z76:=Tryz.sizeOf255
 v76:=Tryz.zeroValue255
 t77:=Tryz.underlying256
 a77:=Tryz.isAgg256
 z77:=Tryz.sizeOf256
 v77:=Tryz.zeroValue256}
def YZ:Go.Shelf.Ren:=⟨fun|194=>98|n=>n,fun|31=>27|9=>9|3=>3|4=>4|0=>0|n=>n,fun|n=>n⟩
theorem ajh:Go.Proofs.Lays.n194 Tryz.prog YZ:=by repeat' first|(intros;kernel_rfl)|constructor|decide
theorem Pj:∀l:List Str,(List.map kg l).flatten=l.map PV.str
 | []=>Z
 | s::l=>auq (PV.str s::·) (Pj l)
theorem Qi(l:List Str)(hl:l.length≤wX){Q:dN→List aR→Prop}(h:∀v,Q (.ret (.val v)) [.buf v l.length 1 9 (l.map PV.str)]):PC 94 [sP l] [] Q:=by
 refine AC.lD 8 [.tmp 2] [0] Tryz.func94 Z Z Z Z Z (AW.sr (AR.step Z Z Z (AO.kr Z Z (AR.nil [0] Z ?_))));refine AW.seq (AW.sr (cs 1 Z (AR.step Z Z Z (AO.DL Z Z amu (fun b hb=>?_)))));refine AR.nil [0,4] Z (AW.cond Z (fun h1=>?_) (fun h1=>?_))
 ·obtain rfl:l=[]:=aut.1 (hb h1);refine AW.sr (AR.step Z Z Z (AO.N9 Z Z (AR.nil [2] Z (AW.aoL 1 9 ?_))));refine AW.ret ?_;exact⟨rfl,_,⟨_,_,rfl,rfl,rfl⟩,_,List.Sublist.refl _,h _⟩
 refine AW.skip (AW.sr (AR.step Z Z Z (AO.xW [] Z QJ Z Z Z Z Z (fun v1=>(cs 1 Z ?_)))));refine AR.step Z Z Z (AO.U1 (i:=0) (l2:=List.map kg l) Z Z Z Z Z Z Z QJ FW (fun y hy=>?_) (fun y hy=>?_) ?_ ?_ (fun v2 s1 hs1=>?_))
 ·obtain⟨s,_,rfl⟩:=atn.1 hy;rfl
 ·obtain⟨s,_,rfl⟩:=atn.1 hy;rfl
 ·rw[aur];unfold wX at hl;unfold maxLen;omega
 ·rw[aur];unfold wX at hl;omega
 cases hs1;refine cs 1 Z (AR.nil [2] Z (AW.ret ?_));have hv:=h v2;rw[←Pj,show l.length=(List.map kg l).length from (aur _).symm]at hv;exact⟨rfl,_,⟨_,_,rfl,rfl,rfl⟩,_,List.Sublist.refl _,hv⟩
theorem RB(l:List Str){Q:dN→List aR→Prop}(h:Q (.ret (sP l)) []):PC 97 [sP l] [] Q:=by
 refine BD 9 [.tmp 2] [0] Tryz.func97 Z Z Z Z Z (W 0 Z (AS Z (AO.kr Z Z (U 2 Z (AS Z (AO.fU (l:=l) Z Z Z Z FW Z Z (U 1 Z (AS Z (AO.fU (l:=l) Z Z Z Z FW Z Z ?_)))))))));refine AS Z (AO.clip (l:=List.map kg l) Z FW Z (by rw[aur];rfl) (by rw[aur];rfl) ?_);exact N 1 rfl ⟨rfl,_,⟨_,_,rfl,rfl,rfl⟩,_,List.Sublist.refl _,h⟩
theorem aip:Go.Sort.SWO (Go.Proofs.ltOf fun a b:rR=>gF a.1 b.1) where
 irrefl:=fun x=>by simp[Go.Proofs.ltOf,Q8]
 trans:=fun x y z h1 h2=>by
  simp only[Go.Proofs.ltOf,decide_eq_true_eq]at *;exact Im h1 h2
 ntrans:=fun x y z h1 h2=>by
  simp only[Go.Proofs.ltOf,decide_eq_false_iff_not]at *;exact Gi h1 h2
instance Vd(J8:List Str):CT Tryz.prog (Iz J8) (fun r=>.ret (sP r)) 58 [sP J8]:=⟨zP rfl,fun {r0} hf {τ Q} h=>by
 unfold Iz at hf;split at hf
 case isFalse=>cases hf
 rename_i hg;simp only[Bool.and_eq_true,List.all_eq_true,decide_eq_true_eq]at hg;obtain⟨hg1,hg2⟩:=hg;cases hf;refine AC.none (AC.lD 11 [.tmp 2] [0] Tryz.func58 Z Z Z Z Z (AW.sr (AR.step Z Z Z (AO.kr Z Z ?_))));refine AR.nil [0] Z (AW.sr (cs 1 Z (AR.step Z Z Z (AO.call Z _ Z Z apQ (Qi J8 hg2 fun v=>?_)))));refine cs 1 Z (AR.nil [3] Z (AW.sr (cs 1 Z ?_)));refine AR.step Z Z Z (AO.call Z _ Z Z apP (AC.ahD apE amC (cf:=gF) (fun a b ha hb=>by letI:gQ:=Ow;exact(xX _ _).h (K_ ha hb) Z) aip (fun x y h1 h2=>Ch (by have:=yA x.1 y.1;omega)) hg1 (by unfold wX at hg2;omega) ?_));refine AR.nil [3] Z (AW.sr (cs 1 Z (AR.step Z Z Z (AO.call Z _ Z Z apN (AC.ajg ajh (by rw[List.length_mergeSort];unfold wX at hg2;omega) fun v2=>?_)))));refine AR.freeze 9 0 (List.map kg (aio J8)) rfl rfl (Pj _) (fun x hx=>by obtain⟨s,_,rfl⟩:=atn.1 hx;rfl) (aur _) ?_;refine AR.step Z Z Z (AO.call Z _ Z Z apO (AC.none (RB _ (cs 1 Z (AR.nil [2] Z (AW.ret ?_))))))
 exact⟨rfl,_,⟨_,_,rfl,rfl,rfl⟩,[],aup _,h⟩⟩
theorem Rq(bo bv:Nat)(go:ak→List Str→Option (List Str))(hgo:∀(e1:ak) (bP:List Str) {r0:List Str},go e1 bP=some r0→∀ {v1:Value} {Q:dN→List aR→Prop},(∀vr,Q (.ret (.tuple [])) [.row vr (List.map kg r0).length 1 9,.box bo [.own vr (List.map kg r0)],.box bv [.fn 57 [pP bo,pP bv]]])→PC 57 [.agg (bJ e1),pP bo,pP bv] [.row v1 (List.map kg bP).length 1 9,.box bo [.own v1 (List.map kg bP)],.box bv [.fn 57 [pP bo,pP bv]]] Q)
  (e1:ak) (bP:List Str) {r0:List Str} (hf:CX go e1 bP=some r0) {v1:Value} {Q:dN→List aR→Prop} (h:∀vr,Q (.ret (.tuple [])) [.row vr (List.map kg r0).length 1 9,.box bo [.own vr (List.map kg r0)],.box bv [.fn 57 [pP bo,pP bv]]]):PC 57 [.agg (bJ e1),pP bo,pP bv] [.row v1 (List.map kg bP).length 1 9,.box bo [.own v1 (List.map kg bP)],.box bv [.fn 57 [pP bo,pP bv]]] Q:=by
 unfold CX at hf;refine AC.lD 25 [] [0,1,2] Tryz.func57 Z Z Z Z Z (AW.sr (AR.step Z Z Z (AO.IQ Z Z Z (AR.nil [1,2,3] Z ?_))));refine AW.seq (AW.aqS (fun(l:List Str) (v:Value)=>[(1,pP bo),(2,pP bv),(3,.ref (bJ e1))]) (fun l v=>[.row v (List.map kg l).length 1 9,.box bo [.own v (List.map kg l)],.box bv [.fn 57 [pP bo,pP bv]]]) (fun l v=>pq go e1 BIG l 0=some r0) ?_ ?_)
 ·refine AW.sr (cs 3 Z (AR.nil [1,2,3,8] Z (AW.cond Z (fun h1=>?_) (fun h1=>?_))))
  ·replace hf:=ql h1 hf;refine AW.region (AR.step Z Z Z (AO.bC (i:=1) Z Z Z amz Z Z (cs 2 Z (AR.step Z Z Z (AO.bN (List.map kg ([e1.name]:List Str)) Z QJ Z Z Z Z ?_)))));refine B1 hf fun xk h2 hf=>AR.step Z Z Z (AO.tQ (i:=0) (l:=bP) (m:=[e1.name]) h2 Z Z Z Z Z Z Z QJ FW Z Z Z (fun _=>Z) (fun _=>Z) (by decide) (fun v2 s1 hs1=>?_));cases hs1;refine AR.bZ Z Z (AO.dX (i:=1) Z Z Z amz Z Z Z Z Z (AR.nil [1,2,3] Z ?_));exact⟨xk,v2,Z,Z,Z,hf⟩
  replace hf:=nZ h1 hf;refine AW.settle [1,2,3] Z (AW.skip ?_);exact⟨bP,v1,Z,Z,Z,hf⟩
 intro xk v2 hf;refine AW.sr (cs 2 Z (AR.step Z Z Z (AO.fU (l:=e1.args) Z Z Z Z uM Z (ak.bA _) (cs 1 Z ?_))));refine AR.nil [1,2,15,16,17] Z (AW.block (AW.settle [1,2,15,16,17] Z (AW.aiu (fun(l:List Str) (v:Value) (i1:Int)=>[(1,pP bo),(2,pP bv),(15,.list (ak.bq e1.args)),(16,iP (e1.args.length:Int)),(17,iP i1)]) (fun l v i1=>[.row v (List.map kg l).length 1 9,.box bo [.own v (List.map kg l)],.box bv [.fn 57 [pP bo,pP bv]]]) (fun dW l v i1=>pq go e1 dW l i1=some r0) BIG xk v2 0 Z Z hf (fun _ _ _ hz=>lM hz) ?_)));intro dW afw v3 i1 hf;rw[pq]at hf;refine AW.sr (cs 1 Z (AR.nil [1,2,15,16,17,18] Z (AW.seq ?_)));refine AW.cond Z (fun h1=>?_) (fun h1=>?_)
 ·replace hf:=ql h1 hf;refine AW.skip (AW.seq (AW.block (AW.sr ?_)));refine B1 hf fun a1 h2 hf=>AR.step Z Z Z (AO.dK h2 Z Z (ak.bA _) Z uM (ak.aQ _) Z (cs 1 Z (AR.step Z Z Z (AO.bL Z LK (fun b5=>(AR.bZ Z Z (AO.dX (i:=0) Z Z Z Ap Z Z Z Z Z ?_)))))));refine AR.nil [1,2,5,15,16,17] Z (AW.region (AR.step Z Z Z (AO.bC (i:=3) Z Z Z anS Z Z (AR.step Z Z Z (AO.bC (i:=0) Z Z Z Ap Z Z ?_)))));refine AR.drop1 ?_;refine B1 hf fun ah9 h3 hf=>AR.step Z Z Z (AO.call Z _ Z Z apZ (hgo _ _ h3 fun v4=>(AR.nil [1,2,15,16,17] Z (AW.region (cs 2 Z ?_)))));refine AR.nil [1,2,15,16,17] Z ?_;exact⟨ah9,v4,(bF (i1+1)),Z,Z,Z,hf⟩
 replace hf:=nZ h1 hf;refine AW.exit ?_;cases hf;exact⟨rfl,_,rfl,_,List.Sublist.refl _,h v3⟩
theorem I_(bo bv:Nat):∀(k:Nat) (e1:ak) (bP:List Str) {r0:List Str},xV k e1 bP=some r0→∀ {v1:Value} {Q:dN→List aR→Prop},(∀vr,Q (.ret (.tuple [])) [.row vr (List.map kg r0).length 1 9,.box bo [.own vr (List.map kg r0)],.box bv [.fn 57 [pP bo,pP bv]]])→PC 57 [.agg (bJ e1),pP bo,pP bv] [.row v1 (List.map kg bP).length 1 9,.box bo [.own v1 (List.map kg bP)],.box bv [.fn 57 [pP bo,pP bv]]] Q
 | 0,_,_,_,hz=>lM hz
 | k+1,e1,bP,r0,hz=>by
  intro h;exact Rq bo bv (xV k) (fun e1 bP r0 hz=>I_ bo bv k e1 bP hz) e1 bP hz h
instance Wi(e1:ak):CT Tryz.prog (KG e1) (fun r=>.ret (sP r)) 32 [.agg (bJ e1)]:=⟨zP rfl,fun {r0} hf {τ Q} h=>by
 unfold KG at hf;refine BN 11 [.tmp 2] [0] Tryz.func32 Z Z Z Z Z (W 1 Z (AS Z (AO.kr Z Z (U 0 Z (AR.row 1 9 (AS Z (AO.bL Z apr (fun bo=>(U 0 Z (AS Z (AO.bL Z anG (fun bv=>?_))))))))))));refine B1 hf fun bP h1 hf=>Rr 4 [0,0] Z Z (CL Z (AC.perm ((List.Perm.swap _ _ _).trans ((List.Perm.cons _ (List.Perm.swap _ _ _)).trans (List.Perm.swap _ _ _))) (I_ bo bv BIG e1 [] h1 fun v1=>(Rr 1 [1] Z Z (CL Z ((Vd _).h hf ?_))))));exact N 1 Z (Y Z h)⟩
section
variable [D8]
instance Vb(s1:Str):CT Tryz.prog (Iy s1) (fun r=>.ret (.tuple [sP r.1,iP r.2])) 13 [.str s1]:=⟨zP rfl,fun {r} hf {τ Q} h=>by
 obtain⟨r0,r1⟩:=r;unfold Iy at hf;refine AC.none (AC.TI 32 [.tmp 2,.tmp 3] [0] Tryz.func13 Z Z Z Z Z (AW.sr (cs 2 Z ?_)));refine AR.nil [0] Z (AW.sr (cs 1 Z ?_));obtain⟨ps1,dP,nL,h1,hf⟩:=wK hf;refine AR.step Z Z Z (AO.call Z _ Z Z amM ((vT _).h h1 (cs 7 Z (AR.nil [0,4,6] Z (AW.seq ?_)))));refine AW.sr (cs 2 Z (AR.nil [0,4,6,16] Z (AW.cond Z (fun h2=>?_) (fun h2=>?_))))
 ·cases ql h2 hf;refine AW.sr (cs 1 Z (AR.step Z Z Z (AO.kr Z Z (cs 1 Z ?_))));refine AR.nil [2,3] Z (AW.ret ?_);exact .inl ⟨rfl,_,⟨_,_,rfl,rfl,_,_,rfl,rfl,rfl⟩,[],aup _,h⟩
 replace hf:=nZ h2 hf;refine B1 hf fun a1 h3 hf=>?_;refine B1 hf fun x1 h4 hf=>?_;cases hf;refine AW.skip (AW.sr (AR.step Z Z Z (AO.build Z LK ahB Z (AR.step Z Z Z (AO.bL Z LK (fun b7=>?_))))));refine AR.bZ Z Z (AO.dX (i:=0) Z Z Z Ap Z Z Z Z Z (AR.nil [4,7] Z (AW.aoH 0 [iP 9,.str ([]:Str),iP 0,.bool false,iP 0,.str ([]:Str),.own (.slice none 0 0) [],.own (.slice none 0 0) [],.val (.slice none 0 0),.own (.slice none 0 0) []] Z (fun w m vs hv=>aV.N9 8 _ vs Z hv) (AW.aoL 10 54 ?_))));refine AW.seq (AW.sr (cs 1 Z (AR.step Z Z Z (AO.call Z _ Z Z amL (Cy _ ?_)))));refine AR.nil [7,20] Z (AW.block ?_);refine AW.Tk (β:=List ak) (X:=ak) Z amH (fun x1=>[.agg (bJ x1)]) (fun _=>Z) (by decide) zT (fun l τ=>∃v,τ=[.buf v l.length 10 54 (List.flatMap ak.cells l),.box b7 [iP 9,.str ([]:Str),iP 0,.bool false,iP 0,.str ([]:Str),.own (.slice none 0 0) [],.own (.slice none 0 0) [],.val v,.own (.slice none 0 0) []]]) (fun _=>none) (s0:=[]) (s1:=a1) ⟨_,Z⟩ Z ?_ ?_ ?_
 ·intro l T' hy τ hT;refine Af l T' zT hy ps1 h3 hT fun τ' hT'=>?_;exact⟨⟨_,Z⟩,hT'⟩
 ·rintro l s x1 b s2 _ hh ⟨v0,rfl⟩;unfold zT at hh;obtain⟨a2,h5,hh⟩:=lq hh;cases hh;obtain⟨YE,rfl⟩:=Fa h5;refine⟨Z,(rE.region Z (AR.step Z Z Z (AO.bL Z LK (fun b8=>(AR.bZ Z Z (AO.dX (i:=0) Z Z Z Ap Z Z Z Z Z ?_))))))⟩;refine AR.nil [7,8] Z (⟨Z,(rE.block (rE.drawn mixed Z ?_))⟩)
  refine AD.aew 0 10 [] [.box b8 (bJ x1),.buf v0 s.length 10 54 (List.flatMap ak.cells s),.box b7 [iP 9,.str ([]:Str),iP 0,.bool false,iP 0,.str ([]:Str),.own (.slice none 0 0) [],.own (.slice none 0 0) [],.val v0,.own (.slice none 0 0) []]] (fun S e σ=>∃v2:Value,e.get 7=pP b7∧e.get 8=pP b8∧(S 0=true→e.get 22=.val (.pointer (some ⟨b7,8,none⟩)))∧(S 1=true→e.get 23=.val v0)∧(S 2=true→e.get 24=.agg (bJ x1))∧(S 3=true→e.get 25=iP (s.length:Int))∧(S 4=true→e.get 26=.list [[iP 0,.str ([]:Str),iP 0,.bool false,iP 0,.str ([]:Str),.list (ah.bq []),sP ([]),.list (ak.bq []),sP ([])]])
    ∧(S 5=true→e.get 27=.val v2)∧(S 6=true→e.get 28=.val (.pointer (some ⟨v2.blk,s.length*10,none⟩)))∧(S 8=true→e.get 29=.val (.pointer (some ⟨b7,8,none⟩)))∧(S 6=true→S 5=true)∧(S 9=true→S 5=true)∧(S 7=true→S 5=true)∧(S 5=true→S 1=true∧S 3=true)
    ∧σ=[.box b8 (bJ x1),bif S 5 then .buf v2 (s.length+1) 10 54 (List.flatMap ak.cells s++bif S 7 then (bJ x1)else [iP 0,.str ([]:Str),iP 0,.bool false,iP 0,.str ([]:Str),.list (ah.bq []),sP ([]),.list (ak.bq []),sP ([])])else .buf v0 s.length 10 54 (List.flatMap ak.cells s),.box b7 (bif S 9 then [iP 9,.str ([]:Str),iP 0,.bool false,iP 0,.str ([]:Str),.own (.slice none 0 0) [],.own (.slice none 0 0) [],.val v2,.own (.slice none 0 0) []]else [iP 9,.str ([]:Str),iP 0,.bool false,iP 0,.str ([]:Str),.own (.slice none 0 0) [],.own (.slice none 0 0) [],.val v0,.own (.slice none 0 0) []])]) (by kernel_rfl) Z Z (List.Perm.refl _) ?_ ?_ ?_ ?_
  ·refine Ev.nil ?_;exact⟨.nilIface,Z,Z,(fun h=>by cases h),(fun h=>by cases h),(fun h=>by cases h),(fun h=>by cases h),(fun h=>by cases h),(fun h=>by cases h),(fun h=>by cases h),(fun h=>by cases h),(fun h=>by cases h),(fun h=>by cases h),(fun h=>by cases h),(fun h=>by cases h),Z⟩
  ·rintro S S' e σ hS ⟨v2,p7,p8,q0,q1,q2,q3,q4,q5,q6,q8,g6,g9,g7,g5,qs⟩;have z:=fun i h1 h2=>(hS i h1 h2).symm;refine⟨v2,p7,p8,?_,?_,?_,?_,?_,?_,?_,?_,?_,?_,?_,?_,?_⟩
   ·rw[z 0 (by decide) (by decide)];exact q0
   ·rw[z 1 (by decide) (by decide)];exact q1
   ·rw[z 2 (by decide) (by decide)];exact q2
   ·rw[z 3 (by decide) (by decide)];exact q3
   ·rw[z 4 (by decide) (by decide)];exact q4
   ·rw[z 5 (by decide) (by decide)];exact q5
   ·rw[z 6 (by decide) (by decide)];exact q6
   ·rw[z 8 (by decide) (by decide)];exact q8
   ·rw[z 6 (by decide) (by decide),z 5 (by decide) (by decide)];exact g6
   ·rw[z 9 (by decide) (by decide),z 5 (by decide) (by decide)];exact g9
   ·rw[z 7 (by decide) (by decide),z 5 (by decide) (by decide)];exact g7
   ·rw[z 5 (by decide) (by decide),z 1 (by decide) (by decide),z 3 (by decide) (by decide)];exact g5
   ·rw[z 5 (by decide) (by decide),z 7 (by decide) (by decide),z 9 (by decide) (by decide)];exact qs
  ·rintro S e σ i o ⟨v2,p7,p8,q0,q1,q2,q3,q4,q5,q6,q8,g6,g9,g7,g5,rfl⟩ hi1 hi2 VN hp ho;have hi:i=0∨i=1∨i=2∨i=3∨i=4∨i=5∨i=6∨i=7∨i=8∨i=9:=by omega
   rcases hi with rfl|rfl|rfl|rfl|rfl|rfl|rfl|rfl|rfl|rfl
   ·cases ho;refine⟨Z,(fun t ht=>by cases ht;decide),AO.less (Less.add p7 Less.nil) (AO.bR Z Z aek ?_)⟩;exact⟨v2,p7,p8,(fun _=>Z),q1,q2,q3,q4,q5,q6,q8,g6,g9,g7,g5,Z⟩
   ·cases ho;have s0:=hp 0 (any_beq.1 Z) (by decide);have n5:S 5=false:=aus.2 fun h=>by rw[(g5 h).1]at VN;cases VN
    have n9:S 9=false:=aus.2 fun h=>by rw[g9 h]at n5;cases n5
    rw[n9,n5];refine⟨Z,(fun t ht=>by cases ht;decide),AO.less (Less.add (q0 s0) Less.nil) ?_⟩;refine AO.bC (i:=2) Z Z Z amx Z Z ?_;exact⟨v2,p7,p8,q0,(fun _=>Z),q2,q3,q4,q5,q6,q8,g6,g9,g7,(fun h=>by rw[show S 5=true from h]at n5;cases n5),by simp[n9,n5]⟩
   ·cases ho;refine⟨Z,(fun t ht=>by cases ht;decide),AO.less (Less.add p8 Less.nil) (AO.bC (i:=0) Z Z Z Ap Z Z ?_)⟩;exact⟨v2,p7,p8,q0,q1,(fun _=>Z),q3,q4,q5,q6,q8,g6,g9,g7,g5,Z⟩
   ·cases ho;have s1:=hp 1 (any_beq.1 Z) (by decide);have n5:S 5=false:=aus.2 fun h=>by rw[(g5 h).2]at VN;cases VN
    rw[n5];refine⟨Z,(fun t ht=>by cases ht;decide),AO.less (Less.add (q1 s1) Less.nil) ?_⟩;refine AO.alG (i:=1) Z Z Z Z uM Z Z ?_;exact⟨v2,p7,p8,q0,q1,q2,(fun _=>Z),q4,q5,q6,q8,g6,g9,g7,(fun h=>by rw[show S 5=true from h]at n5;cases n5),by simp[n5]⟩
   ·cases ho;refine⟨Z,(fun t ht=>by cases ht;decide),AO.less Less.nil (AO.bN [[iP 0,.str ([]:Str),iP 0,.bool false,iP 0,.str ([]:Str),.list (ah.bq []),sP ([]),.list (ak.bq []),sP ([])]] Z amB Z Z Z Z ?_)⟩;exact⟨v2,p7,p8,q0,q1,q2,q3,(fun _=>Z),q5,q6,q8,g6,g9,g7,g5,Z⟩
   ·cases ho;have s1:=hp 1 (any_beq.1 Z) (by decide);have s3:=hp 3 (any_beq.1 Z) (by decide);have s4:=hp 4 (any_beq.1 Z) (by decide);have n6:S 6=false:=aus.2 fun h=>by rw[g6 h]at VN;cases VN
    have n7:S 7=false:=aus.2 fun h=>by rw[g7 h]at VN;cases VN
    have n9:S 9=false:=aus.2 fun h=>by rw[g9 h]at VN;cases VN
    rw[VN,n9];refine⟨Z,(fun t ht=>by cases ht;decide),AO.less (Less.add (q1 s1) (Less.add (q4 s4) Less.nil)) ?_⟩;refine AO.ajA (i:=1) (l2:=[[iP 0,.str ([]:Str),iP 0,.bool false,iP 0,.str ([]:Str),.list (ah.bq []),sP ([]),.list (ak.bq []),sP ([])]]) Z Z Z Z Z Z Z amB uM (by intro y hy;cases List.mem_singleton.1 hy;rfl) (by intro y hy;cases List.mem_singleton.1 hy;rfl) (by simp only[List.length_singleton]at YE⊢;unfold wX at YE;unfold maxLen;omega) (by simp only[List.length_singleton]at YE⊢;unfold wX at YE;omega) (fun v3 s2 hs2=>?_);cases hs2;exact⟨v3,p7,p8,q0,q1,q2,q3,q4,(fun _=>Z),(fun h=>by rw[show S 6=true from h]at n6;cases n6),q8,(fun h=>by rw[show S 6=true from h]at n6;cases n6),(fun h=>by rw[show S 9=true from h]at n9;cases n9),(fun h=>by rw[show S 7=true from h]at n7;cases n7),(fun _=>⟨s1,s3⟩),by simp[n7,n9]⟩
   ·cases ho;have s3:=hp 3 (any_beq.1 Z) (by decide);have s5:=hp 5 (any_beq.1 Z) (by decide);rw[s5];refine⟨Z,(fun t ht=>by cases ht;decide),AO.less (Less.add (q5 s5) (Less.add (q3 s3) Less.nil)) ?_⟩;refine AO.VK (i:=1) (sz:=10) Z Z Z Z uM (by omega) (by simp) ?_;exact⟨v2,p7,p8,q0,q1,q2,q3,q4,q5,(fun _=>by simp[Gh,Env.get]),q8,(fun _=>s5),g9,g7,g5,by simp[s5]⟩
   ·cases ho;have s2:=hp 2 (any_beq.1 Z) (by decide);have s6:=hp 6 (any_beq.1 Z) (by decide);have s5:=g6 s6;rw[s5,VN];refine⟨Z,(fun t ht=>by cases ht),AO.less (Less.add (q6 s6) (Less.add (q2 s2) Less.nil)) ?_⟩;have hFl:(List.flatMap ak.cells s).length=s.length*10:=aaR ak.fA s;refine AO.abX (i:=1) (new:=(bJ x1)) (cs':=List.flatMap ak.cells s++(bJ x1)) Z Z Z Ap Z Z Z (by simp) (by simp[hFl]) ?_ Z ?_
    ·unfold putCells;rw[List.take_append_of_le_length (by omega),List.take_of_length_le (by omega),List.drop_of_length_le (by simp[hFl]),List.append_nil]
    exact⟨v2,p7,p8,q0,q1,q2,q3,q4,q5,q6,q8,g6,g9,(fun _=>s5),g5,by simp[s5]⟩
   ·cases ho;refine⟨Z,(fun t ht=>by cases ht;decide),AO.less (Less.add p7 Less.nil) (AO.bR Z Z aek ?_)⟩;exact⟨v2,p7,p8,q0,q1,q2,q3,q4,q5,q6,(fun _=>Z),g6,g9,g7,g5,Z⟩
   ·cases ho;have s8:=hp 8 (any_beq.1 Z) (by decide);have s5:=hp 5 (any_beq.1 Z) (by decide);rw[s5,VN];refine⟨Z,(fun t ht=>by cases ht),AO.less (Less.add (q8 s8) (Less.add (q5 s5) Less.nil)) ?_⟩;simp only[cond_true,cond_false];refine AO.aeG 1 Z fun hv1 hv2=>(AO.dX (i:=2) Z Z Z amx hv1 hv2 Z Z Z ?_);exact⟨v2,p7,p8,q0,q1,q2,q3,q4,q5,q6,q8,g6,(fun _=>s5),g7,g5,by simp[s5]⟩
  rintro S e σ hS ⟨v2,p7,p8,q0,q1,q2,q3,q4,q5,q6,q8,g6,g9,g7,g5,rfl⟩;rw[hS 5 (by decide) (by decide),hS 7 (by decide) (by decide),hS 9 (by decide) (by decide)];refine AR.nil [] Z (⟨Z,⟨_,.cons _ (List.Sublist.refl _),v2,?_⟩,Z,Z⟩);simp[ak.aQ]
 ·rintro D _ ⟨v0,rfl⟩;show AW _ _ _ _ _ _ _;refine AW.alM 0 1 (ak.bq a1) Z Z (q:=8) Z (by rw[ak.bA,List.flatMap_def]) (by rw[ak.bA];intro x hx;obtain⟨y,_,rfl⟩:=atn.1 hx;exact ak.fA y) (by rw[ak.bA,aur]) ?_;refine AW.sr (AR.step Z Z Z (AO.bC (i:=1) Z Z Z Ap Z Z (AR.step Z Z Z (AO.call Z _ Z Z ap1 ((Wi _).h h4 (cs 2 Z ?_))))));refine AR.nil [2,3] Z (AW.ret ?_)
  exact .inr ⟨D,[_,_],Z,Z,_,⟨_,_,Z,Z,_,_,Z,Z,Z⟩,[],aup _,h⟩⟩
end
section
variable [D8]
instance amf(v1:ah):CT Tryz.prog (Mt v1) (fun r=>.ret (.str r)) 99 [.agg (aP v1)]:=by
  unfold Mt;exact Z1 ⟨8,[],[]⟩ Z Tryz.func99 Z Z Z Z
end
instance ajL(e1:ak):CT Tryz.prog (Ij e1) (fun r=>.ret (iP r)) 146 [.agg (bJ e1)]:=by
  unfold Ij;exact Z1 ⟨33,[],[]⟩ Z Tryz.func146 Z Z Z Z
section
variable [D8]
section
variable (mV : ak → Option Str) [aef : ∀(jo : ak), CT Tryz.prog (mV jo) (fun r => .ret (.str r)) 59 [.agg (bJ jo)]] (gY : ak → Int → Option Str) [aiQ : ∀(jo : ak) (kW : Int), CT Tryz.prog (gY jo kW) (fun r => .ret (.str r)) 100 [.agg (bJ jo), iP kW]]
instance O0(e1:ak):CT Tryz.prog (CQ mV gY e1) (fun r=>.ret (.str r)) 59 [.agg (bJ e1)]:=by
  unfold CQ;exact Z1 ⟨121,[],[]⟩ Z Tryz.func59 Z Z Z Z
instance U7(e1:ak)(K3:Int):CT Tryz.prog (Ik mV gY e1 K3) (fun r=>.ret (.str r)) 100 [.agg (bJ e1),iP K3]:=by
  unfold Ik;exact Z1 ⟨15,[],[]⟩ Z Tryz.func100 Z Z Z Z
end
theorem CR:∀k:Nat,(∀(jo:ak),CT Tryz.prog (xM k jo) (fun r=>.ret (.str r)) 59 [.agg (bJ jo)])∧(∀(jo:ak) (kW:Int),CT Tryz.prog (Dt k jo kW) (fun r=>.ret (.str r)) 100 [.agg (bJ jo),iP kW])
  | 0=>⟨fun _=>CT.none Z,fun _ _=>CT.none Z⟩
  | k+1=>by
    obtain⟨i0,i1⟩:=CR k;exact⟨fun jo=>O0 _ _ jo,fun jo kW=>U7 _ _ jo kW⟩
instance agR(jo:ak):CT Tryz.prog (LY jo) (fun r=>.ret (.str r)) 59 [.agg (bJ jo)]:=(CR BIG).1 jo
instance amh(jo:ak)(kW:Int):CT Tryz.prog (ace jo kW) (fun r=>.ret (.str r)) 100 [.agg (bJ jo),iP kW]:=(CR BIG).2 jo kW
end
section
variable [D8]
instance V5(e1:ak):CT Tryz.prog (J3 e1) (fun r=>.ret (.str r)) 33 [.agg (bJ e1)]:=by
  unfold J3;exact Z1 ⟨8,[],[]⟩ Z Tryz.func33 Z Z Z Z
end
section
variable [D8]
def NK:Go.Shelf.Ren:=⟨fun|155=>34|154=>60|138=>103|165=>104|143=>105|166=>22|197=>106|169=>24|195=>148|218=>149|240=>46|241=>150|219=>151|260=>152|276=>85|277=>197|217=>198|225=>199|224=>200|267=>201|266=>235|314=>236|n=>n,fun|9=>9|3=>3|4=>4|72=>68|0=>0|76=>72|105=>144|21=>21|5=>5|70=>66|20=>20|37=>45|75=>71|127=>96|164=>133|46=>173|119=>206|139=>209|138=>208|146=>237|51=>199|80=>46|n=>n,fun|1=>0|3=>1|4=>2|n=>n⟩
theorem ahS:Go.Proofs.Lays.n155 Tryz.prog NK:=by repeat' first|(intros;kernel_rfl)|constructor|decide
theorem ahR:Go.Proofs.Builder.Extra Tryz.prog NK:=by repeat' first|(intros;kernel_rfl)|constructor|decide
instance KL(s1:Str)(alv:Str)(new1:Str):CT Tryz.prog (strings_ReplaceAll s1 alv new1) (fun r=>.ret (.str r)) 34 [.str s1,.str alv,.str new1]:=⟨zP rfl,fun {r0} hf {τ Q} h=>by
 unfold strings_ReplaceAll at hf;split at hf
 case isFalse=>cases hf
 rename_i hg;obtain⟨hg,rfl,rfl⟩:=hg;rw[←Tc (by decide)]at hf;cases hf;refine AC.none ?_
 exact AC.replaceAll D8.hD ahS ahR hg (by decide) D8.max (by rw[Lib.count_one];have:=List.count_le_length (a:=(36:UInt8)) (l:=s1);simp only[List.length_cons,List.length_nil];omega) h⟩
end
section
variable [D8]
instance V9(ps1:List aS):CT Tryz.prog (Ki ps1) (fun r=>.ret (.str r)) 14 [.list (List.map aS.cells ps1)]:=⟨zP rfl,fun {r0} hf {τ Q} h=>by
 unfold Ki at hf;refine BN 26 [.tmp 2] [0] Tryz.func14 Z Z Z Z Z (W 1 Z (AS Z (AO.Ht (eu:=5) Z Zj Z (fun b3=>(U 1 Z (AS Z (AO.fU (l:=ps1) Z Z Z Z Jb Z Z (J 1 Z (LK3 (fun x1 b1 v1=>[(3,pP b3),(6,.list (List.map aS.cells ps1)),(7,iP (ps1.length:Int)),(8,iP x1)]) (fun x1 b1 v1=>[.Ng b3 v1 68 5 b1]) (fun dW x1 b1 v1=>vG ps1 dW x1 b1=some r0) BIG 0 [] (.slice none 0 0) Z Z hf (fun _ _ _ hz=>lM hz) ?_)))))))));intro dW x1 b1 v1 hf;rw[vG]at hf;refine V 1 Z (C hf Z (fun h1 hf=>?_) fun h1 hf=>?_)
 ·refine B1 hf fun e1 h2 hf=>W 0 Z (AS Z (AO.dK h2 Z Z Z Z Jb (aS.aQ _) Z (U 1 Z (AS Z (AO.bL Z Zk (fun b5=>(Rw 3 [0,0] Z Z (C hf Z (fun h3 hf=>?_) fun h3 hf=>?_))))))))
  ·refine B1 hf fun x2 h4 hf=>Wr 2 [0] Z Z (CL Z ((V5 _).h h4 ?_));refine B1 hf fun x3 h5 hf=>AS Z (AO.OV h5 Z Z Z ?_);refine B1 hf fun x4 h6 hf=>AS Z (AO.OV h6 Z Z Z ?_);refine B1 hf fun b2 h7 hf=>CL Z (AC.one 1 Z (nM h7 (fun v2=>⟨_,Z,(zm 2 Z (AR.drop1 ?_))⟩)));exact N 0 Z ⟨(bF (x1+1)),b2,v2,Z,Z,Z,hf⟩
  refine B1 hf fun x5 h8 hf=>Wr 2 [0] Z Z (CL Z ((KL _ _ _).h h8 ?_));refine B1 hf fun b3 h9 hf=>CL Z (AC.one 1 Z (nM h9 (fun v3=>⟨_,Z,(zm 2 Z (AR.drop1 ?_))⟩)));exact N 0 Z ⟨(bF (x1+1)),b3,v3,Z,Z,Z,hf⟩
 refine W 0 Z (CL Z (AC.Oa 0 Z (Ah ?_)));cases hf;exact N 1 Z (Y Z h)⟩
end
instance VZ(eP:Int):CT Tryz.prog (yN eP) (fun r=>.ret (.str r)) 64 [iP eP]:=⟨zP rfl,fun {r0} hf {τ Q} h=>by
 unfold yN at hf;refine BN 14 [.tmp 2] [0] Tryz.func64 Z Z Z Z Z (W 1 Z (AS Z (AO.Ql Z ag4 ajC Z (AS Z (AO.bL Z ag4 (fun b3=>(Rr 4 [0] Z Z (On 3 7 10 [0,3] (decide (8≤eP)) Z Z Z Z ?_))))))));refine J 0 Z (C hf Z (fun h2 hf=>?_) fun h2 hf=>?_)
 ·cases hf;exact M 1 Z (Y Z h)
 refine BR hf fun e1 h3 hf=>?_;refine W 1 Z (AS Z (AO.Ui h3 Z ajC Z Z Z (AS Z (AO.afH (i:=0) (fun z:Str=>.str z) h3 Z Z Z apz Z ?_))));cases hf;exact N 1 Z (Y Z h)⟩
instance CY(eP:Int):CT Tryz.prog (iQ eP) (fun r=>.ret (.bool r)) 65 [iP eP]:=by
  unfold iQ;exact Z1 ⟨9,[],[]⟩ Z Tryz.func65 Z Z Z Z
instance U4(t1:ay):CT Tryz.prog (jX t1) (fun r=>.ret (iP r)) 38 [.agg (aY t1)]:=⟨zP rfl,fun {r0} hf {τ Q} h=>by
 unfold jX at hf;refine BN 43 [.tmp 2] [0] Tryz.func38 Z Z Z Z Z (W 0 Z (AS Z (AO.aeH Z Z (fun b1=>(J 2 Z (LK2 (fun bM t2=>[(1,pP b1),(3,iP bM)]) (fun bM t2=>[.box b1 (aY t2)]) (fun dW bM t2=>kP dW bM t2=some r0) BIG 1 t1 Z Z hf (fun _ _ hz=>lM hz) ?_))))));intro dW bM t2 hf;rw[kP]at hf;refine V 2 Z (C hf Z (fun h1 hf=>?_) fun h1 hf=>?_)
 ·cases hf;exact M 1 Z (Y Z h)
 refine B1 hf fun x1 h2 hf=>Wr 2 [0] Z Z (CL Z ((VZ _).h h2 ?_));refine B1 hf fun b1 h4 hf=>U 2 Z (AR.xA 10 12 22 false [1,3] b1 Z Z (fun h3=>?_) (fun h3=>?_) ?_)
 ·replace h4:=nZ h3 h4;refine Is 12 h3 Z (U 1 Z (GO Z (AO.bC (i:=0) Z Z Z Jl Z Z ?_)));refine B1 h4 fun x2 h5 h4=>GO Z (AO.call Z _ Z Z amE ((CY _).h h5 (U 1 Z (AR.and 5 16 21 [1,3,12] (x:=((t2.elem.length:Int) !=1)) Z Z (fun h6=>?_) (fun h6=>?_) ?_))))
  ·refine Is 16 h6 Z (U 1 Z (GO Z (AO.bC (i:=0) Z Z Z amy Z Z (GO Z (AO.fU (l:=t2.elem) Z Z Z Z Cr Z (ay.bA _) ?_)))));exact zm 2 Z (En [21,1,3,12] Z)
  ·refine Is 16 h6 Z ?_;exact zm 5 Z (En [21,1,3,12] Z)
  cases h4;exact zm 1 Z (En [22,1,3] Z)
 ·refine IT 12 h3 h4 Z fun h4=>?_;cases h4;exact zm 10 Z (En [22,1,3] Z)
 refine B1 hf fun b2 h8 hf=>U 1 Z (AR.xA 11 23 34 false [1,3] b2 Z Z (fun h7=>?_) (fun h7=>?_) ?_)
 ·replace h8:=nZ h7 h8;refine Is 23 h7 Z (U 1 Z (GO Z (AO.bC (i:=0) Z Z Z Jl Z Z ?_)));refine B1 h8 fun x3 h9 h8=>GO Z (AO.call Z _ Z Z amE ((CY _).h h9 (U 2 Z (AR.and 5 28 33 [1,3,23] (x:=((t2.elem.length:Int) !=0)) Z Z (fun h10=>?_) (fun h10=>?_) ?_))))
  ·refine Is 28 h10 Z (U 1 Z (GO Z (AO.bC (i:=0) Z Z Z amy Z Z (GO Z (AO.fU (l:=t2.elem) Z Z Z Z Cr Z (ay.bA _) ?_)))));exact zm 2 Z (En [33,1,3,23] Z)
  ·refine Is 28 h10 Z ?_;exact zm 5 Z (En [33,1,3,23] Z)
  cases h8;exact zm 1 Z (En [34,1,3] Z)
 ·refine IT 23 h7 h8 Z fun h8=>?_;cases h8;exact zm 11 Z (En [34,1,3] Z)
 refine J 0 Z (C hf Z (fun h11 hf=>?_) fun h11 hf=>?_)
 ·cases hf;exact M 1 Z (Y Z h)
 refine B1 hf fun x4 h12 hf=>Wr 2 [0] Z Z (CL Z ((CY _).h h12 (J 1 Z (C hf Z (fun L_ hf=>?_) fun L_ hf=>?_))))
 ·cases hf;exact M 1 Z (Y Z h)
 refine B1 hf fun e1 Kk hf=>Wr 2 [0] Z Z (AS Z (AO.dK Kk Z Z (ay.bA _) Z Cr (ay.aQ _) Z ?_));exact Rx 5 [0] Z Z ⟨(bF (bM+1)),e1,Z,Z,Z,hf⟩⟩
instance abC(dJ:List aT):CT Tryz.prog (Ei dJ) (fun r=>.ret (iP r)) 17 [.list (List.map aT.cells dJ)]:=⟨zP rfl,fun {r0} hf {τ Q} h=>by
 unfold Ei at hf;refine BN 39 [.tmp 2] [0] Tryz.func17 Z Z Z Z Z (W 2 Z (AS Z (AO.fU (l:=dJ) Z Z Z Z ai2 Z Z (J 1 Z (C hf Z (fun h1 hf=>?_) fun h1 hf=>?_)))))
 ·cases hf;exact M 1 Z (Y Z h)
 refine W 0 Z (AS Z (AO.TU Z (fun m10=>(U 2 Z (AS Z (AO.fU (l:=dJ) Z Z Z Z ai2 Z Z (J 1 Z (LK2 (fun x1 y1=>[(3,.val (.map (some m10))),(11,.list (List.map aT.cells dJ)),(12,iP (dJ.length:Int)),(13,iP x1)]) (fun x1 y1=>[.obj m10 (wU y1)]) (fun dW x1 y1=>Ae dJ dW x1 y1=some r0) BIG 0 [] Z Z hf (fun _ _ hz=>lM hz) ?_))))))));intro dW x1 y1 hf;rw[Ae]at hf;refine V 1 Z (C hf Z (fun h2 hf=>?_) fun h2 hf=>?_)
 ·refine B1 hf fun e1 h3 hf=>W 0 Z (AS Z (AO.dK h3 Z Z Z Z ai2 (aT.aQ _) Z (U 1 Z (AS Z (AO.bL Z apo (fun b5=>?_))))));refine B1 hf fun x2 h4 hf=>Rr 4 [0,0] Z Z (CL Z ((KN _).h h4 (J 1 Z (C hf Z (fun h5 hf=>?_) fun h5 hf=>?_))))
  ·cases hf;exact M 1 Z (Y Z h)
  refine B1 hf fun e2 h6 hf=>Wr 2 [0] Z Z (CL Z ((U4 _).h h6 (J 3 Z (C hf Z (fun h7 hf=>?_) fun h7 hf=>?_))))
  ·cases hf;exact M 2 Z (Y Z h)
  refine Wr 3 [0] Z Z (AS Z (AO.Lb (i:=1) (l:=y1) Z Z Z Z Oh uN aeV (U 1 Z (AR.bZ Z Z (AO.MS (i:=1) (l:=y1) Z Z Z Z Z Oh uN (Rr 3 [0] Z Z (AS Z (AO.Lb (i:=1) (l:=(sJ y1 e1.name (bF ((nX y1 e1.name)+1)))) Z Z Z Z Oh uN aeV (J 1 Z (C hf Z (fun h8 hf=>?_) fun h8 hf=>?_))))))))))
  ·cases hf;exact M 1 Z (Y Z h)
  refine Wn0 2 Z (AR.drop1 ?_);exact N 0 Z ⟨(bF (x1+1)),(sJ y1 e1.name (bF ((nX y1 e1.name)+1))),Z,Z,Z,hf⟩
 cases hf;exact M 1 Z (Y Z h)⟩
instance Bh(eP:Int):CT Tryz.prog (eT eP) (fun r=>.ret (.agg (aY r))) 42 [iP eP]:=by
  unfold eT;exact Z1 ⟨5,[],[]⟩ Z Tryz.func42 Z Z Z Z
instance Fb(eP:Int)(mo:ay):CT Tryz.prog (lU eP mo) (fun r=>.ret (.agg (aY r))) 115 [iP eP,.agg (aY mo)]:=by
  unfold lU;exact Z1 ⟨9,[],[]⟩ Z Tryz.func115 Z Z Z Z
instance Nj(name1:Str):CT Tryz.prog (jr name1) (fun r=>.ret (.tuple [.list (List.map ay.rH r.1),.agg (aY r.2)])) 108 [.str name1]:=⟨zP rfl,fun {r} hf {τ Q} h=>by
 obtain⟨r0,r1⟩:=r;unfold jr at hf;refine BN 106 [.tmp 2,.cell 3 34] [0] Tryz.func108 Z Z Z Z Z (W 0 Z (AS Z (AO.kr Z Z (AS Z (AO.bL Z Jt (fun b3=>?_))))));refine B1 hf fun x1 h1 hf=>U 0 Z (CL Z ((Bh _).h h1 ?_));refine B1 hf fun x2 h2 hf=>CL Z ((Bh _).h h2 ?_);refine B1 hf fun x3 h3 hf=>CL Z ((Bh _).h h3 ?_);refine B1 hf fun x4 h4 hf=>CL Z ((Bh _).h h4 (AS Z (AO.bL Z Jt (fun b4=>(AS Z (AO.bL Z Jt (fun b5=>(AS Z (AO.bL Z Jt (fun b6=>?_))))))))));refine AS Z (AO.bL Z Jt (fun b7=>(Rw 4 [3,2,1,0] Z Z (AW.aqR 6 34 [8,9,10] mixed (by kernel_rfl) Z Jt Z (by kernel_rfl) (by decide) ?_))));refine Ev.cons Z Z Z (AO.bC (i:=3) Z Z Z kK Z Z zg) ?_;refine B1 hf fun x5 h5 hf=>Ev.cons Z Z Z (AO.call Z _ Z Z ab_ ((Fb _ _).h h5 zg)) (Ev.cons Z Z Z (AO.bC (i:=3) Z Z Z kK Z Z zg) ?_);refine B1 hf fun x6 h6 hf=>Ev.cons Z Z Z (AO.call Z _ Z Z ab_ ((Fb _ _).h h6 zg)) (Ev.cons Z Z Z (AO.bC (i:=1) Z Z Z kK Z Z zg) ?_);refine B1 hf fun x7 h7 hf=>Ev.cons Z Z Z (AO.call Z _ Z Z ab_ ((Fb _ _).h h7 zg)) (Ev.nil ?_);intro b8 b9 b10;show AR _ _ _ _ _ _ _ _;refine Rw 6 [2,1,0] Z Z (C hf Z (fun h8 hf=>?_) fun h8 hf=>?_)
 ·refine V 0 Z (AW.draw 9 mixed (by kernel_rfl) Z ?_);refine Ev.cons rfl rfl rfl (AO.bC (i:=4) rfl rfl rfl kK rfl rfl ⟨rfl,rfl⟩) (Ev.cons rfl rfl rfl (AO.bN (ay.bq [x3]) rfl wZ rfl rfl rfl (by first|rfl|simp only[ay.aQ,ay.bq]) ⟨rfl,rfl⟩) ?_);refine Ev.cons rfl rfl rfl (AO.bC (i:=2) rfl rfl rfl kK rfl rfl ⟨rfl,rfl⟩) (Ev.cons rfl rfl rfl (AO.bN (ay.bq [x5]) rfl wZ rfl rfl rfl (by first|rfl|simp only[ay.aQ,ay.bq]) ⟨rfl,rfl⟩) ?_)
  refine Ev.cons rfl rfl rfl (AO.bC (i:=1) rfl rfl rfl kK rfl rfl ⟨rfl,rfl⟩) (Ev.cons rfl rfl rfl (AO.bN (ay.bq [x6]) rfl wZ rfl rfl rfl (by first|rfl|simp only[ay.aQ,ay.bq]) ⟨rfl,rfl⟩) ?_);refine Ev.cons Z Z Z (AO.bN (List.map ay.rH [[x3],[x5],[x6]]) Z CJ Z Z Z Z zg) (Ev.cons Z Z Z (AO.bC (i:=5) Z Z Z kK Z Z zg) (Ev.cs gB 1 Z (Ev.nil ?_)));show AR _ _ _ _ _ _ _ _
  cases hf;exact Rx 1 [7] Z Z (ZC [7] Z Z h)
 refine V 2 Z (C hf Z (fun h9 hf=>?_) fun h9 hf=>?_)
 ·refine V 0 Z (AW.draw 12 mixed (by kernel_rfl) Z ?_);refine Ev.cons rfl rfl rfl (AO.bC (i:=2) rfl rfl rfl kK rfl rfl ⟨rfl,rfl⟩) (Ev.cons rfl rfl rfl (AO.bC (i:=6) rfl rfl rfl kK rfl rfl ⟨rfl,rfl⟩) (Ev.cons rfl rfl rfl (AO.bN (ay.bq [x5,x1]) rfl wZ rfl rfl rfl (by first|rfl|simp only[ay.aQ,ay.bq]) ⟨rfl,rfl⟩) ?_))
  refine Ev.cons rfl rfl rfl (AO.bC (i:=4) rfl rfl rfl kK rfl rfl ⟨rfl,rfl⟩) (Ev.cons rfl rfl rfl (AO.bC (i:=4) rfl rfl rfl kK rfl rfl ⟨rfl,rfl⟩) (Ev.cons rfl rfl rfl (AO.bN (ay.bq [x3,x3]) rfl wZ rfl rfl rfl (by first|rfl|simp only[ay.aQ,ay.bq]) ⟨rfl,rfl⟩) ?_))
  refine Ev.cons rfl rfl rfl (AO.bC (i:=1) rfl rfl rfl kK rfl rfl ⟨rfl,rfl⟩) (Ev.cons rfl rfl rfl (AO.bC (i:=4) rfl rfl rfl kK rfl rfl ⟨rfl,rfl⟩) (Ev.cons rfl rfl rfl (AO.bN (ay.bq [x6,x3]) rfl wZ rfl rfl rfl (by first|rfl|simp only[ay.aQ,ay.bq]) ⟨rfl,rfl⟩) ?_));refine Ev.cons Z Z Z (AO.bN (List.map ay.rH [[x5,x1],[x3,x3],[x6,x3]]) Z CJ Z Z Z Z zg) (Ev.cons Z Z Z (AO.bC (i:=3) Z Z Z kK Z Z zg) (Ev.cs gB 1 Z (Ev.nil ?_)))
  show AR _ _ _ _ _ _ _ _;cases hf;exact Rx 1 [7] Z Z (ZC [7] Z Z h)
 refine V 2 Z (C hf Z (fun h10 hf=>?_) fun h10 hf=>?_)
 ·refine V 0 Z (AW.draw 6 mixed (by kernel_rfl) Z ?_);refine Ev.cons rfl rfl rfl (AO.bC (i:=0) rfl rfl rfl kK rfl rfl ⟨rfl,rfl⟩) (Ev.cons rfl rfl rfl (AO.bC (i:=4) rfl rfl rfl kK rfl rfl ⟨rfl,rfl⟩) (Ev.cons rfl rfl rfl (AO.bN (ay.bq [x7,x3]) rfl wZ rfl rfl rfl (by first|rfl|simp only[ay.aQ,ay.bq]) ⟨rfl,rfl⟩) ?_))
  refine Ev.cons Z Z Z (AO.bN (List.map ay.rH [[x7,x3]]) Z CJ Z Z Z Z zg) (Ev.cons Z Z Z (AO.bC (i:=4) Z Z Z kK Z Z zg) (Ev.cs gB 1 Z (Ev.nil ?_)));show AR _ _ _ _ _ _ _ _;cases hf;exact Rx 1 [7] Z Z (ZC [7] Z Z h)
 refine V 2 Z (C hf Z (fun h11 hf=>?_) fun h11 hf=>?_)
 ·refine V 0 Z (AW.draw 11 mixed (by kernel_rfl) Z ?_);refine B1 hf fun x8 h12 hf=>Ev.cons rfl rfl rfl (AO.call rfl _ rfl rfl amG ((Bh _).h h12 ⟨rfl,rfl⟩)) (Ev.cons rfl rfl rfl (AO.bN (ay.bq [x8]) rfl wZ rfl rfl rfl (by first|rfl|simp only[ay.aQ,ay.bq]) ⟨rfl,rfl⟩) ?_);refine Ev.cons rfl rfl rfl (AO.bC (i:=3) rfl rfl rfl kK rfl rfl ⟨rfl,rfl⟩) (Ev.cons rfl rfl rfl (AO.bN (ay.bq [x4]) rfl wZ rfl rfl rfl (by first|rfl|simp only[ay.aQ,ay.bq]) ⟨rfl,rfl⟩) ?_)
  refine Ev.cons rfl rfl rfl (AO.bC (i:=5) rfl rfl rfl kK rfl rfl ⟨rfl,rfl⟩) (Ev.cons rfl rfl rfl (AO.bN (ay.bq [x2]) rfl wZ rfl rfl rfl (by first|rfl|simp only[ay.aQ,ay.bq]) ⟨rfl,rfl⟩) ?_);refine Ev.cons rfl rfl rfl (AO.bC (i:=4) rfl rfl rfl kK rfl rfl ⟨rfl,rfl⟩) (Ev.cons rfl rfl rfl (AO.bN (ay.bq [x3]) rfl wZ rfl rfl rfl (by first|rfl|simp only[ay.aQ,ay.bq]) ⟨rfl,rfl⟩) ?_)
  refine Ev.cons Z Z Z (AO.bN (List.map ay.rH [[x8],[x4],[x2],[x3]]) Z CJ Z Z Z Z zg) (Ev.cons Z Z Z (AO.bC (i:=4) Z Z Z kK Z Z zg) (Ev.cs gB 1 Z (Ev.nil ?_)));show AR _ _ _ _ _ _ _ _;cases hf;exact Rx 1 [7] Z Z (ZC [7] Z Z h)
 refine V 2 Z (C hf Z (fun L_ hf=>?_) fun L_ hf=>?_)
 ·refine V 0 Z (AW.cond Z (fun Kk=>?_) (fun Kk=>?_))
  ·refine V 0 Z (AW.draw 5 mixed (by kernel_rfl) Z ?_);refine Ev.cons rfl rfl rfl (AO.bC (i:=4) rfl rfl rfl kK rfl rfl ⟨rfl,rfl⟩) (Ev.cons rfl rfl rfl (AO.bN (ay.bq [x3]) rfl wZ rfl rfl rfl (by first|rfl|simp only[ay.aQ,ay.bq]) ⟨rfl,rfl⟩) ?_);refine Ev.cons Z Z Z (AO.bN (List.map ay.rH [[x3]]) Z CJ Z Z Z Z zg) (Ev.cons Z Z Z (AO.bC (i:=4) Z Z Z kK Z Z zg) (Ev.cs gB 1 Z (Ev.nil ?_)));show AR _ _ _ _ _ _ _ _
   cases hf;exact Rx 1 [7] Z Z (ZC [7] Z Z h)
  cases L_.symm.trans Kk
 refine V 2 Z (C hf Z (fun Vn hf=>?_) fun Vn hf=>?_)
 ·refine V 0 Z (AW.draw 5 mixed (by kernel_rfl) Z ?_);refine Ev.cons rfl rfl rfl (AO.bC (i:=4) rfl rfl rfl kK rfl rfl ⟨rfl,rfl⟩) (Ev.cons rfl rfl rfl (AO.bN (ay.bq [x3]) rfl wZ rfl rfl rfl (by first|rfl|simp only[ay.aQ,ay.bq]) ⟨rfl,rfl⟩) ?_);refine Ev.cons Z Z Z (AO.bN (List.map ay.rH [[x3]]) Z CJ Z Z Z Z zg) (Ev.cons Z Z Z (AO.bC (i:=4) Z Z Z kK Z Z zg) (Ev.cs gB 1 Z (Ev.nil ?_)));show AR _ _ _ _ _ _ _ _
  cases hf;exact Rx 1 [7] Z Z (ZC [7] Z Z h)
 refine V 2 Z (C hf Z (fun h16 hf=>?_) fun h16 hf=>?_)
 ·refine V 0 Z (AW.draw 6 mixed (by kernel_rfl) Z ?_);refine Ev.cons rfl rfl rfl (AO.bC (i:=4) rfl rfl rfl kK rfl rfl ⟨rfl,rfl⟩) (Ev.cons rfl rfl rfl (AO.bC (i:=4) rfl rfl rfl kK rfl rfl ⟨rfl,rfl⟩) (Ev.cons rfl rfl rfl (AO.bN (ay.bq [x3,x3]) rfl wZ rfl rfl rfl (by first|rfl|simp only[ay.aQ,ay.bq]) ⟨rfl,rfl⟩) ?_))
  refine Ev.cons Z Z Z (AO.bN (List.map ay.rH [[x3,x3]]) Z CJ Z Z Z Z zg) (Ev.cons Z Z Z (AO.bC (i:=0) Z Z Z kK Z Z zg) (Ev.cs gB 1 Z (Ev.nil ?_)));show AR _ _ _ _ _ _ _ _;cases hf;exact Rx 1 [7] Z Z (ZC [7] Z Z h)
 refine V 2 Z (C hf Z (fun h17 hf=>?_) fun h17 hf=>?_)
 ·refine V 0 Z (AW.cond Z (fun h18=>?_) (fun h18=>?_))
  ·refine V 0 Z (AW.draw 6 mixed (by kernel_rfl) Z ?_);refine Ev.cons rfl rfl rfl (AO.bC (i:=4) rfl rfl rfl kK rfl rfl ⟨rfl,rfl⟩) (Ev.cons rfl rfl rfl (AO.bC (i:=4) rfl rfl rfl kK rfl rfl ⟨rfl,rfl⟩) (Ev.cons rfl rfl rfl (AO.bN (ay.bq [x3,x3]) rfl wZ rfl rfl rfl (by first|rfl|simp only[ay.aQ,ay.bq]) ⟨rfl,rfl⟩) ?_))
   refine Ev.cons Z Z Z (AO.bN (List.map ay.rH [[x3,x3]]) Z CJ Z Z Z Z zg) (Ev.cons Z Z Z (AO.bC (i:=3) Z Z Z kK Z Z zg) (Ev.cs gB 1 Z (Ev.nil ?_)));show AR _ _ _ _ _ _ _ _;cases hf;exact Rx 1 [7] Z Z (ZC [7] Z Z h)
  cases h17.symm.trans h18
 refine V 2 Z (C hf Z (fun h19 hf=>?_) fun h19 hf=>?_)
 ·refine V 0 Z (AW.draw 6 mixed (by kernel_rfl) Z ?_);refine Ev.cons rfl rfl rfl (AO.bC (i:=4) rfl rfl rfl kK rfl rfl ⟨rfl,rfl⟩) (Ev.cons rfl rfl rfl (AO.bC (i:=4) rfl rfl rfl kK rfl rfl ⟨rfl,rfl⟩) (Ev.cons rfl rfl rfl (AO.bN (ay.bq [x3,x3]) rfl wZ rfl rfl rfl (by first|rfl|simp only[ay.aQ,ay.bq]) ⟨rfl,rfl⟩) ?_))
  refine Ev.cons Z Z Z (AO.bN (List.map ay.rH [[x3,x3]]) Z CJ Z Z Z Z zg) (Ev.cons Z Z Z (AO.bC (i:=3) Z Z Z kK Z Z zg) (Ev.cs gB 1 Z (Ev.nil ?_)));show AR _ _ _ _ _ _ _ _;cases hf;exact Rx 1 [7] Z Z (ZC [7] Z Z h)
 refine V 2 Z (C hf Z (fun h20 hf=>?_) fun h20 hf=>?_)
 ·refine V 0 Z (AW.draw 5 mixed (by kernel_rfl) Z ?_);refine Ev.cons rfl rfl rfl (AO.bC (i:=4) rfl rfl rfl kK rfl rfl ⟨rfl,rfl⟩) (Ev.cons rfl rfl rfl (AO.bN (ay.bq [x3]) rfl wZ rfl rfl rfl (by first|rfl|simp only[ay.aQ,ay.bq]) ⟨rfl,rfl⟩) ?_);refine Ev.cons Z Z Z (AO.bN (List.map ay.rH [[x3]]) Z CJ Z Z Z Z zg) (Ev.cons Z Z Z (AO.bC (i:=5) Z Z Z kK Z Z zg) (Ev.cs gB 1 Z (Ev.nil ?_)));show AR _ _ _ _ _ _ _ _
  cases hf;exact Rx 1 [7] Z Z (ZC [7] Z Z h)
 refine V 2 Z (C hf Z (fun h21 hf=>?_) fun h21 hf=>?_)
 ·refine V 0 Z (AW.draw 6 mixed (by kernel_rfl) Z ?_);refine Ev.cons rfl rfl rfl (AO.bC (i:=6) rfl rfl rfl kK rfl rfl ⟨rfl,rfl⟩) (Ev.cons rfl rfl rfl (AO.bC (i:=6) rfl rfl rfl kK rfl rfl ⟨rfl,rfl⟩) (Ev.cons rfl rfl rfl (AO.bN (ay.bq [x1,x1]) rfl wZ rfl rfl rfl (by first|rfl|simp only[ay.aQ,ay.bq]) ⟨rfl,rfl⟩) ?_))
  refine Ev.cons Z Z Z (AO.bN (List.map ay.rH [[x1,x1]]) Z CJ Z Z Z Z zg) (Ev.cons Z Z Z (AO.bC (i:=6) Z Z Z kK Z Z zg) (Ev.cs gB 1 Z (Ev.nil ?_)));show AR _ _ _ _ _ _ _ _;cases hf;exact Rx 1 [7] Z Z (ZC [7] Z Z h)
 refine V 2 Z (C hf Z (fun h22 hf=>?_) fun h22 hf=>?_)
 ·refine V 0 Z (AW.draw 5 mixed (by kernel_rfl) Z ?_);refine Ev.cons rfl rfl rfl (AO.bC (i:=1) rfl rfl rfl kK rfl rfl ⟨rfl,rfl⟩) (Ev.cons rfl rfl rfl (AO.bN (ay.bq [x6]) rfl wZ rfl rfl rfl (by first|rfl|simp only[ay.aQ,ay.bq]) ⟨rfl,rfl⟩) ?_);refine Ev.cons Z Z Z (AO.bN (List.map ay.rH [[x6]]) Z CJ Z Z Z Z zg) (Ev.cons Z Z Z (AO.bC (i:=0) Z Z Z kK Z Z zg) (Ev.cs gB 1 Z (Ev.nil ?_)));show AR _ _ _ _ _ _ _ _
  cases hf;exact Rx 1 [7] Z Z (ZC [7] Z Z h)
 refine V 0 Z (AW.draw 2 mixed (by kernel_rfl) Z ?_);refine Ev.cons Z Z Z (AO.bC (i:=6) Z Z Z kK Z Z zg) (Ev.cons Z Z Z (AO.kr Z Z zg) (Ev.nil ?_));show AR _ _ _ _ _ _ _ _
 cases hf;exact Rx 1 [7] Z Z (ZC [7] Z Z h)⟩
instance akA(t1:ay):CT Tryz.prog (fC t1) (fun r=>.ret (.bool r)) 111 [.agg (aY t1)]:=by
  unfold fC;exact Z1 ⟨11,[],[]⟩ Z Tryz.func111 Z Z Z Z
section
variable (rG : ay → ay → Option Bool) [aaK : ∀(Gd : ay) (X3 : ay), CT Tryz.prog (rG Gd X3) (fun r => .ret (.bool r)) 74 [.agg (aY Gd), .agg (aY X3)]]
instance KS(t1:ay)(u1:ay):CT Tryz.prog (kX rG t1 u1) (fun r=>.ret (.bool r)) 74 [.agg (aY t1),.agg (aY u1)]:=by
  unfold kX;exact Z1 ⟨39,[],[]⟩ Z Tryz.func74 Z Z Z Z
end
theorem EN:∀k:Nat,(∀(Gd:ay) (X3:ay),CT Tryz.prog (jU k Gd X3) (fun r=>.ret (.bool r)) 74 [.agg (aY Gd),.agg (aY X3)])
  | 0=>fun _ _=>CT.none Z
  | k+1=>by
    obtain (i0):=EN k;exact fun Gd X3=>KS _ Gd X3
instance Nk(Gd:ay)(X3:ay):CT Tryz.prog (iM Gd X3) (fun r=>.ret (.bool r)) 74 [.agg (aY Gd),.agg (aY X3)]:=(EN BIG) Gd X3
instance (iX :List ay) (C9:List ay) (n_ ku):LE (sH iX C9 n_ ku) (fun j p=>sH iX C9 j p) n_ ku [] [] [] [0,1,7] (fun v w p=>[(8,iP p)]) (fun v w p s=>s):=⟨Z⟩
instance Wd(iX:List ay)(C9:List ay):CT Tryz.prog (qQ iX C9) (fun r=>.ret (.bool r)) 109 [.list (ay.bq iX),.list (ay.bq C9)]:=by
  unfold qQ;exact Z1 ⟨22,[],[]⟩ Z Tryz.func109 Z Z Z Z
instance agO(eP:Int):CT Tryz.prog (fV eP) (fun r=>.ret (.agg (aY r))) 77 [iP eP]:=by
  unfold fV;exact Z1 ⟨5,[],[]⟩ Z Tryz.func77 Z Z Z Z
instance ani(eP:Int)(mo:ay):CT Tryz.prog (oW eP mo) (fun r=>.ret (.agg (aY r))) 117 [iP eP,.agg (aY mo)]:=by
  unfold oW;exact Z1 ⟨9,[],[]⟩ Z Tryz.func117 Z Z Z Z
section
variable (xR : ay → Option ay) [afW : ∀(Gd : ay), CT Tryz.prog (xR Gd) (fun r => .ret (.agg (aY r))) 116 [.agg (aY Gd)]]
instance Qr(t1:ay):CT Tryz.prog (uW xR t1) (fun r=>.ret (.agg (aY r))) 116 [.agg (aY t1)]:=by
  unfold uW;exact Z1 ⟨18,[],[]⟩ Z Tryz.func116 Z Z Z Z
end
theorem J9:∀k:Nat,(∀(Gd:ay),CT Tryz.prog (rP k Gd) (fun r=>.ret (.agg (aY r))) 116 [.agg (aY Gd)])
  | 0=>fun _=>CT.none Z
  | k+1=>by
    obtain (i0):=J9 k;exact fun Gd=>Qr _ Gd
instance ajE(Gd:ay):CT Tryz.prog (Dg Gd) (fun r=>.ret (.agg (aY r))) 116 [.agg (aY Gd)]:=(J9 BIG) Gd
section
variable (zV : ay → ay → Option ay) [agK : ∀(Bo : ay) (Bn : ay), CT Tryz.prog (zV Bo Bn) (fun r => .ret (.agg (aY r))) 78 [.agg (aY Bo), .agg (aY Bn)]]
instance RG(a1:ay)(b1:ay):CT Tryz.prog (qZ zV a1 b1) (fun r=>.ret (.agg (aY r))) 78 [.agg (aY a1),.agg (aY b1)]:=by
  unfold qZ;exact Z1 ⟨43,[],[]⟩ Z Tryz.func78 Z Z Z Z
end
theorem L8:∀k:Nat,(∀(Bo:ay) (Bn:ay),CT Tryz.prog (oL k Bo Bn) (fun r=>.ret (.agg (aY r))) 78 [.agg (aY Bo),.agg (aY Bn)])
  | 0=>fun _ _=>CT.none Z
  | k+1=>by
    obtain (i0):=L8 k;exact fun Bo Bn=>RG _ Bo Bn
instance akh(Bo:ay)(Bn:ay):CT Tryz.prog (BP Bo Bn) (fun r=>.ret (.agg (aY r))) 78 [.agg (aY Bo),.agg (aY Bn)]:=(L8 BIG) Bo Bn
section
variable (lS : ah → Option ay) [agL : ∀(nS : ah), CT Tryz.prog (lS nS) (fun r => .ret (.agg (aY r))) 110 [.agg (aP nS)]]
instance (v1 :ah) (n_ ku Ao):LE (uV lS v1 n_ ku Ao) (fun j p=>uV lS v1 j p.1 p.2) n_ (ku,Ao) [] [] [] [1,2,3,22,23] (fun v w p=>[(24,iP p.1)]) (fun v w p s=>AZ 0 (aY p.2) (s)):=⟨Z⟩
instance RH(v1:ah):CT Tryz.prog (Bp lS v1) (fun r=>.ret (.agg (aY r))) 110 [.agg (aP v1)]:=by
  unfold Bp;exact Z1 ⟨40,[],[]⟩ Z Tryz.func110 Z Z Z Z
end
theorem L9:∀k:Nat,(∀(nS:ah),CT Tryz.prog (ru k nS) (fun r=>.ret (.agg (aY r))) 110 [.agg (aP nS)])
  | 0=>fun _=>CT.none Z
  | k+1=>by
    obtain (i0):=L9 k;exact fun nS=>RH _ nS
instance aki(nS:ah):CT Tryz.prog (JD nS) (fun r=>.ret (.agg (aY r))) 110 [.agg (aP nS)]:=(L9 BIG) nS
instance abr(v1:ah):CT Tryz.prog (Gs v1) (fun r=>.ret (.agg (aY r))) 68 [.agg (aP v1)]:=by
  unfold Gs;exact Z1 ⟨9,[],[]⟩ Z Tryz.func68 Z Z Z Z
instance (dJ :List aT) (name1:Str) (n_ ku):LE (qU dJ name1 n_ ku) (fun j p=>qU dJ name1 j p) n_ ku [] [] [] [1,4,8,9] (fun v w p=>[(10,iP p)]) (fun v w p s=>s):=⟨Z⟩
instance QA(dJ:List aT)(name1:Str):CT Tryz.prog (vO dJ name1) (fun r=>.ret (.tuple [.agg (aY r.1),iP r.2])) 69 [.list (List.map aT.cells dJ),.str name1]:=by
  unfold vO;exact Z1 ⟨22,[],[]⟩ Z Tryz.func69 Z Z Z Z
instance Vi(t1:ay):CT Tryz.prog (Ac t1) (fun r=>.ret (.tuple [.agg (aY r.1),iP r.2])) 70 [.agg (aY t1)]:=by
  unfold Ac;exact Z1 ⟨17,[],[]⟩ Z Tryz.func70 Z Z Z Z
end Go.Proofs.YtdomnihfjnbnjaaGreatDoor
