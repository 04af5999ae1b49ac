/- Proved here: each function does what its functional text says (part 1). -/
import Derived.Test.YtchmdnpcppkdpaaGreatDoorPdA3
import Derived.Test.YtchmdnpcppkdpaaGreatDoorPdPre1
import Derived.Test.YtchmdnpcppkdpaaGreatDoorPdFt1
import Derived.Test.YtchmdnpcppkdpaaGreatDoorPdPool1
import Derived.Test.YtchmdnpcppkdpaaGreatDoorProg
import Derived.KernelRfl
set_option linter.unusedVariables false
set_option linter.unusedSimpArgs false
set_option linter.defProp false
set_option linter.unusedSectionVars false
namespace Go
def apP:=@List.nil_sublist
def apQ:=@congrArg
def apR:=@List.map_eq_nil_iff
def apS:=@List.length_map
def apT:=@Int.toNat_of_nonneg
end Go
namespace Go.Ft
open Go Go.Abs
mutual
def ah.cells:ah→List PV
  | ⟨a0,a1,a2,a3,a4,a5⟩=>[.int .i64 a0,.bool a1,.int .i64 a2,.str a3,.list (ah.eU a4),.list (List.map jJ a5)]
def ah.eU:List ah→List (List PV)
  | []=>[]
  | x::xs=>ah.cells x::ah.eU xs
end
theorem ah.bn(x:ah):ah.cells x=[.int .i64 x.kind,.bool x.dR,.int .i64 x.dS,.str x.bR,.list (ah.eU x.aN),.list (List.map jJ x.keys)]:=by cases x;rfl
theorem ah.dI:∀l:List ah,ah.eU l=l.map ah.cells
  | []=>rfl
  | _::l=>apQ _ (ah.dI l)
def ah.ahV(l:List ah):List PV:=[.list (ah.eU l)]
theorem ah.dV(x:ah):(ah.cells x).length=6:=by rw[ah.bn];rfl
theorem ah.cells_one(x:ah):(ah.cells x).all PV.one=true:=by rw[ah.bn];rfl
@[reducible] def aP.cells(x:aP):List PV:=[.str x.path,.int .u64 (x.digest.toNat:Int)]
theorem aP.bn(x:aP):aP.cells x=[.str x.path,.int .u64 (x.digest.toNat:Int)]:=rfl
theorem aP.dV(x:aP):(aP.cells x).length=2:=by rw[aP.bn];rfl
theorem aP.cells_one(x:aP):(aP.cells x).all PV.one=true:=by rw[aP.bn];rfl
@[reducible] def aQ.cells(x:aQ):List PV:=[.str x.key,.list (List.map jJ x.restore),.list (List.map jJ x.files)]
theorem aQ.bn(x:aQ):aQ.cells x=[.str x.key,.list (List.map jJ x.restore),.list (List.map jJ x.files)]:=rfl
theorem aQ.dV(x:aQ):(aQ.cells x).length=3:=by rw[aQ.bn];rfl
theorem aQ.cells_one(x:aQ):(aQ.cells x).all PV.one=true:=by rw[aQ.bn];rfl
@[reducible] def aD.cells(x:aD):List PV:=[.str x.name,.int .i64 x.value.kind,.bool x.value.dR,.int .i64 x.value.dS,.str x.value.bR,.list (ah.eU x.value.aN),.list (List.map jJ x.value.keys)]
theorem aD.bn(x:aD):aD.cells x=[.str x.name,.int .i64 x.value.kind,.bool x.value.dR,.int .i64 x.value.dS,.str x.value.bR,.list (ah.eU x.value.aN),.list (List.map jJ x.value.keys)]:=rfl
theorem aD.dV(x:aD):(aD.cells x).length=7:=by rw[aD.bn];rfl
theorem aD.cells_one(x:aD):(aD.cells x).all PV.one=true:=by rw[aD.bn];rfl
@[reducible] def aO.cells(x:aO):List PV:=[.str x.spec.key,.list (List.map jJ x.spec.restore),.list (List.map jJ x.spec.files),.list (List.map aD.cells x.vars),.list (List.map aP.cells x.files)]
theorem aO.bn(x:aO):aO.cells x=[.str x.spec.key,.list (List.map jJ x.spec.restore),.list (List.map jJ x.spec.files),.list (List.map aD.cells x.vars),.list (List.map aP.cells x.files)]:=rfl
theorem aO.dV(x:aO):(aO.cells x).length=5:=by rw[aO.bn];rfl
theorem aO.cells_one(x:aO):(aO.cells x).all PV.one=true:=by rw[aO.bn];rfl
@[reducible] def ay.cells(x:ay):List PV:=[.int .i64 x.kind,.str x.text,.int .i64 x.at_]
theorem ay.bn(x:ay):ay.cells x=[.int .i64 x.kind,.str x.text,.int .i64 x.at_]:=rfl
theorem ay.dV(x:ay):(ay.cells x).length=3:=by rw[ay.bn];rfl
theorem ay.cells_one(x:ay):(ay.cells x).all PV.one=true:=by rw[ay.bn];rfl
@[reducible] def ak.cells(x:ak):List PV:=[.list (List.map ay.cells x.ts),.int .i64 x.at_]
theorem ak.bn(x:ak):ak.cells x=[.list (List.map ay.cells x.ts),.int .i64 x.at_]:=rfl
theorem ak.dV(x:ak):(ak.cells x).length=2:=by rw[ak.bn];rfl
theorem ak.cells_one(x:ak):(ak.cells x).all PV.one=true:=by rw[ak.bn];rfl
@[reducible] def aA.cells(x:aA):List PV:=[.int .i64 x.at_,.int .i64 x.code]
theorem aA.bn(x:aA):aA.cells x=[.int .i64 x.at_,.int .i64 x.code]:=rfl
theorem aA.dV(x:aA):(aA.cells x).length=2:=by rw[aA.bn];rfl
theorem aA.cells_one(x:aA):(aA.cells x).all PV.one=true:=by rw[aA.bn];rfl
mutual
def au.cells:au→List PV
  | ⟨a0,a1,a2,a3,a4⟩=>[.int .i64 a0,.str a1,.int .i64 a2.kind,.bool a2.dR,.int .i64 a2.dS,.str a2.bR,.list (ah.eU a2.aN),.list (List.map jJ a2.keys),.list (au.eU a3),.list (List.map jJ a4)]
def au.eU:List au→List (List PV)
  | []=>[]
  | x::xs=>au.cells x::au.eU xs
end
theorem au.bn(x:au):au.cells x=[.int .i64 x.kind,.str x.name,.int .i64 x.value.kind,.bool x.value.dR,.int .i64 x.value.dS,.str x.value.bR,.list (ah.eU x.value.aN),.list (List.map jJ x.value.keys),.list (au.eU x.args),.list (List.map jJ x.keys)]:=by cases x;rfl
theorem au.dI:∀l:List au,au.eU l=l.map au.cells
  | []=>rfl
  | _::l=>apQ _ (au.dI l)
def au.ahV(l:List au):List PV:=[.list (au.eU l)]
theorem au.dV(x:au):(au.cells x).length=10:=by rw[au.bn];rfl
theorem au.cells_one(x:au):(au.cells x).all PV.one=true:=by rw[au.bn];rfl
@[reducible] def aU.cells(x:aU):List PV:=[.str x.text,.bool x.is_,.int .i64 x.expr.kind,.str x.expr.name,.int .i64 x.expr.value.kind,.bool x.expr.value.dR,.int .i64 x.expr.value.dS,.str x.expr.value.bR,.list (ah.eU x.expr.value.aN),.list (List.map jJ x.expr.value.keys),.list (au.eU x.expr.args),.list (List.map jJ x.expr.keys)]
theorem aU.bn(x:aU):aU.cells x=[.str x.text,.bool x.is_,.int .i64 x.expr.kind,.str x.expr.name,.int .i64 x.expr.value.kind,.bool x.expr.value.dR,.int .i64 x.expr.value.dS,.str x.expr.value.bR,.list (ah.eU x.expr.value.aN),.list (List.map jJ x.expr.value.keys),.list (au.eU x.expr.args),.list (List.map jJ x.expr.keys)]:=rfl
theorem aU.dV(x:aU):(aU.cells x).length=12:=by rw[aU.bn];rfl
theorem aU.cells_one(x:aU):(aU.cells x).all PV.one=true:=by rw[aU.bn];rfl
@[reducible] def bA.cells(x:bA):List PV:=[.int .u64 ((x.set.getD 0 0).toNat:Int),.int .u64 ((x.set.getD 1 0).toNat:Int),.int .u64 ((x.set.getD 2 0).toNat:Int),.int .u64 ((x.set.getD 3 0).toNat:Int),.bool x.many,.bool x.literal,.int .u8 (x.char.toNat:Int)]
theorem bA.bn(x:bA):bA.cells x=[.int .u64 ((x.set.getD 0 0).toNat:Int),.int .u64 ((x.set.getD 1 0).toNat:Int),.int .u64 ((x.set.getD 2 0).toNat:Int),.int .u64 ((x.set.getD 3 0).toNat:Int),.bool x.many,.bool x.literal,.int .u8 (x.char.toNat:Int)]:=rfl
theorem bA.dV(x:bA):(bA.cells x).length=7:=by rw[bA.bn];rfl
theorem bA.cells_one(x:bA):(bA.cells x).all PV.one=true:=by rw[bA.bn];rfl
@[reducible] def aF.cells(x:aF):List PV:=[.int .i64 x.code]
theorem aF.bn(x:aF):aF.cells x=[.int .i64 x.code]:=rfl
theorem aF.dV(x:aF):(aF.cells x).length=1:=by rw[aF.bn];rfl
theorem aF.cells_one(x:aF):(aF.cells x).all PV.one=true:=by rw[aF.bn];rfl
@[reducible] def eZ.cells(x:eZ):List PV:=[.int .u64 ((x.half.getD 0 0).toNat:Int),.int .u64 ((x.half.getD 1 0).toNat:Int),.bool x.neg]
theorem eZ.bn(x:eZ):eZ.cells x=[.int .u64 ((x.half.getD 0 0).toNat:Int),.int .u64 ((x.half.getD 1 0).toNat:Int),.bool x.neg]:=rfl
theorem eZ.dV(x:eZ):(eZ.cells x).length=3:=by rw[eZ.bn];rfl
theorem eZ.cells_one(x:eZ):(eZ.cells x).all PV.one=true:=by rw[eZ.bn];rfl
end Go.Ft
namespace Go.Proofs.YtchmdnpcppkdpaaGreatDoor
open Go Go.Abs Go.Ft
set_option maxRecDepth 20000
set_option maxHeartbeats 8000000
attribute [local irreducible] AO AR AW AC av eD mD dM fJ idx sl app
class CS[gD]:Prop where
  hD:¬gD.D
  max:∀(w:World) (m:jd),gD.G w m→∃n:Int,w.cell? ⟨1,0,none⟩=some (.int .i64 n)
  pow:∀(w:World) (m:jd),gD.G w m→Lib.TabIs Tryz.prog w "internal/strconv.uint64pow10" .u64 Lib.pow10Tab
  syn:∀(w:World) (m:jd),gD.G w m→∃ev,w.cell? ⟨6,0,none⟩=some ev∧(ev=.nilIface∨∃te pe,ev=.iface te pe)
  rng:∀(w:World) (m:jd),gD.G w m→∃ev,w.cell? ⟨7,0,none⟩=some ev∧(ev=.nilIface∨∃te pe,ev=.iface te pe)
variable [gD]
theorem amW(w:World):(isAgg 37).run Tryz.prog w=.ok true w:=by kernel_rfl
theorem Ke:sF Tryz.prog 235=some (2,1):=by kernel_rfl
theorem ai9:sF Tryz.prog 56=some (16,1):=by kernel_rfl
theorem N9:sF Tryz.prog 95=some (4,1):=by kernel_rfl
theorem aks:Tryz.prog.cellsOf 235=2:=by kernel_rfl
theorem amI:Tryz.prog.cellsOf 43=1:=by kernel_rfl
theorem amH:Tryz.prog.cellsOf 5=1:=by kernel_rfl
theorem akm:Tryz.prog.eqGuardType Tryz.prog.depth 235=false:=by kernel_rfl
theorem MR:elemSize Tryz.prog 110=some 3:=by kernel_rfl
theorem Ho:elemSize Tryz.prog 129=some 1:=by kernel_rfl
theorem NY:elemSize Tryz.prog 22=some 1:=by kernel_rfl
theorem Dn:elemSize Tryz.prog 25=some 7:=by kernel_rfl
theorem aiW:elemSize Tryz.prog 26=some 2:=by kernel_rfl
theorem Hl:elemSize Tryz.prog 33=some 6:=by kernel_rfl
theorem Cx:elemSize Tryz.prog 57=some 1:=by kernel_rfl
theorem ae_:elemSize Tryz.prog 58=some 1:=by kernel_rfl
theorem aa3:elemSize Tryz.prog 65=some 12:=by kernel_rfl
theorem QI:elemSize Tryz.prog 68=some 7:=by kernel_rfl
theorem Aw:elemSize Tryz.prog 87=some 10:=by kernel_rfl
theorem ahM:tV Tryz.prog 63 0=some 0:=by kernel_rfl
theorem Bt:tV Tryz.prog 79 0=some 0:=by kernel_rfl
theorem uV:tV Tryz.prog 79 1=some 1:=by kernel_rfl
theorem OU:tV Tryz.prog 81 0=some 0:=by kernel_rfl
theorem IC:tV Tryz.prog 81 1=some 1:=by kernel_rfl
theorem aiQ:Tryz.prog.underlying 84=some (.interface (Tryz.prog.methodsAt 84)):=by kernel_rfl
theorem inB:∃j,Tryz.prog.info? 79=some j∧(j.size !=0)=true:=sized (n:=2) (by kernel_rfl) rfl
theorem al8:liesAt Tryz.prog Tryz.prog.depth 79 (2/Tryz.prog.cellsOf 79) 0 79 1=true:=by kernel_rfl
theorem al7:liesAt Tryz.prog Tryz.prog.depth 81 (3/Tryz.prog.cellsOf 81) 1 79 1=true:=by kernel_rfl
theorem mixed:Tryz.prog.follows .mixedOrders=true:=by kernel_rfl
theorem MB:Tryz.prog.underlying 122=some (.map 9 3):=by kernel_rfl
theorem alT:dA Tryz.prog 10=true:=by kernel_rfl
theorem ajN:dA Tryz.prog 103=true:=by kernel_rfl
theorem ajM:dA Tryz.prog 112=true:=by kernel_rfl
theorem aei:dA Tryz.prog 115=true:=by kernel_rfl
theorem aeh:dA Tryz.prog 120=true:=by kernel_rfl
theorem ajL:dA Tryz.prog 121=true:=by kernel_rfl
theorem ajK:dA Tryz.prog 141=true:=by kernel_rfl
theorem ajJ:dA Tryz.prog 169=true:=by kernel_rfl
theorem aeg:dA Tryz.prog 178=true:=by kernel_rfl
theorem alS:dA Tryz.prog 18=true:=by kernel_rfl
theorem ajI:dA Tryz.prog 183=true:=by kernel_rfl
theorem aef:dA Tryz.prog 203=true:=by kernel_rfl
theorem alR:dA Tryz.prog 21=true:=by kernel_rfl
theorem ajH:dA Tryz.prog 210=true:=by kernel_rfl
theorem alQ:dA Tryz.prog 22=true:=by kernel_rfl
theorem alP:dA Tryz.prog 24=true:=by kernel_rfl
theorem alO:dA Tryz.prog 26=true:=by kernel_rfl
theorem alN:dA Tryz.prog 27=true:=by kernel_rfl
theorem alM:dA Tryz.prog 28=true:=by kernel_rfl
theorem alL:dA Tryz.prog 30=true:=by kernel_rfl
theorem alK:dA Tryz.prog 31=true:=by kernel_rfl
theorem aiF:dA Tryz.prog 33=true:=by kernel_rfl
theorem aiE:dA Tryz.prog 34=true:=by kernel_rfl
theorem alJ:dA Tryz.prog 35=true:=by kernel_rfl
theorem alI:dA Tryz.prog 36=true:=by kernel_rfl
theorem aiD:dA Tryz.prog 37=true:=by kernel_rfl
theorem alH:dA Tryz.prog 44=true:=by kernel_rfl
theorem alG:dA Tryz.prog 45=true:=by kernel_rfl
theorem aee:dA Tryz.prog 48=true:=by kernel_rfl
theorem anw:dA Tryz.prog 5=true:=by kernel_rfl
theorem aiC:dA Tryz.prog 53=true:=by kernel_rfl
theorem aiB:dA Tryz.prog 61=true:=by kernel_rfl
theorem alF:dA Tryz.prog 62=true:=by kernel_rfl
theorem alE:dA Tryz.prog 64=true:=by kernel_rfl
theorem alD:dA Tryz.prog 66=true:=by kernel_rfl
theorem aiA:dA Tryz.prog 75=true:=by kernel_rfl
theorem alC:dA Tryz.prog 76=true:=by kernel_rfl
theorem alB:dA Tryz.prog 87=true:=by kernel_rfl
theorem aiz:dA Tryz.prog 88=true:=by kernel_rfl
theorem anv:dA Tryz.prog 9=true:=by kernel_rfl
theorem aiy:dA Tryz.prog 90=true:=by kernel_rfl
theorem alA:dA Tryz.prog 91=true:=by kernel_rfl
theorem alz:dA Tryz.prog 94=true:=by kernel_rfl
theorem NK:dA Tryz.prog 95=true:=by kernel_rfl
theorem aly:dA Tryz.prog 97=true:=by kernel_rfl
theorem L9:jN Tryz.prog 110 116 3 32:=uF (by kernel_rfl)
theorem Tt:jN Tryz.prog 22 9 1 16:=uF (by kernel_rfl)
theorem Ja:jN Tryz.prog 25 37 7 104:=uF (by kernel_rfl)
theorem Tq:jN Tryz.prog 33 35 6 88:=uF (by kernel_rfl)
theorem KD:jN Tryz.prog 57 5 1 1:=uF (by kernel_rfl)
theorem aiw:jN Tryz.prog 58 44 1 8:=uF (by kernel_rfl)
theorem aaw:jN Tryz.prog 65 93 12 184:=uF (by kernel_rfl)
theorem ag5:zR Tryz.prog 154=some [(0,1),(1,1)]:=by kernel_rfl
theorem YX:zR Tryz.prog 35=some [(0,1),(1,1),(2,1),(3,1),(4,1),(5,1)]:=by kernel_rfl
theorem ad3:zR Tryz.prog 37=some [(0,1),(1,6)]:=by kernel_rfl
theorem ajA:zR Tryz.prog 89=some [(0,1),(1,1),(2,6),(8,1),(9,1)]:=by kernel_rfl
theorem ad2:zR Tryz.prog 93=some [(0,1),(1,1),(2,10)]:=by kernel_rfl
theorem ag0(w:Go.World):(Instr.typeAssert .nilIface 20 156 true).run Tryz.prog w=.ok (.tuple #[.agg #[.int .i64 0,.int .i64 0],.bool false]) w:=by kernel_rfl
theorem agZ(w:Go.World):(Instr.typeAssert .nilIface 20 164 true).run Tryz.prog w=.ok (.tuple #[.agg #[.int .i64 0],.bool false]) w:=by kernel_rfl
theorem agY(v:Value)(w:Go.World):(Instr.typeAssert (.iface 156 v) 20 156 true).run Tryz.prog w=.ok (.tuple #[v,.bool true]) w:=by kernel_rfl
theorem agX(v:Value)(w:Go.World):(Instr.typeAssert (.iface 164 v) 20 164 true).run Tryz.prog w=.ok (.tuple #[v,.bool true]) w:=by kernel_rfl
theorem F9:fZ Tryz.prog 129=some (false,1):=by kernel_rfl
theorem adT:fZ Tryz.prog 156=some (true,2):=by kernel_rfl
theorem adS:fZ Tryz.prog 164=some (true,1):=by kernel_rfl
theorem alk:fZ Tryz.prog 22=some (false,1):=by kernel_rfl
theorem ajy:fZ Tryz.prog 235=some (true,2):=by kernel_rfl
theorem alj:fZ Tryz.prog 26=some (false,1):=by kernel_rfl
theorem Ky:fZ Tryz.prog 3=some (false,1):=by kernel_rfl
theorem CY:fZ Tryz.prog 30=some (false,1):=by kernel_rfl
theorem adR:fZ Tryz.prog 33=some (false,1):=by kernel_rfl
theorem vI:fZ Tryz.prog 35=some (true,6):=by kernel_rfl
theorem RY:fZ Tryz.prog 4=some (false,1):=by kernel_rfl
theorem SY:fZ Tryz.prog 43=some (false,1):=by kernel_rfl
theorem ali:fZ Tryz.prog 44=some (false,1):=by kernel_rfl
theorem anl:fZ Tryz.prog 5=some (false,1):=by kernel_rfl
theorem DV:fZ Tryz.prog 57=some (false,1):=by kernel_rfl
theorem adQ:fZ Tryz.prog 58=some (false,1):=by kernel_rfl
theorem adP:fZ Tryz.prog 63=some (true,2):=by kernel_rfl
theorem SX:fZ Tryz.prog 65=some (false,1):=by kernel_rfl
theorem Wz:fZ Tryz.prog 68=some (false,1):=by kernel_rfl
theorem Kw:fZ Tryz.prog 77=some (false,1):=by kernel_rfl
theorem Nr:fZ Tryz.prog 89=some (true,10):=by kernel_rfl
theorem ajx:fZ Tryz.prog 9=some (false,1):=by kernel_rfl
theorem alh:fZ Tryz.prog 95=some (true,4):=by kernel_rfl
theorem alg:fZ Tryz.prog 97=some (true,7):=by kernel_rfl
theorem F7:Tryz.prog.underlying 107=some (.int .u32):=by kernel_rfl
theorem adD:Tryz.prog.underlying 129=some (.slice 4):=by kernel_rfl
theorem aiu:Tryz.prog.underlying 22=some (.slice 9):=by kernel_rfl
theorem ajt:Tryz.prog.underlying 235=some (.array 2 43):=by kernel_rfl
theorem adC:Tryz.prog.underlying 25=some (.slice 37):=by kernel_rfl
theorem UC:Tryz.prog.underlying 3=some (.int .i64):=by kernel_rfl
theorem ald:Tryz.prog.underlying 4=some (.bool):=by kernel_rfl
theorem DU:Tryz.prog.underlying 43=some (.int .u64):=by kernel_rfl
theorem alc:Tryz.prog.underlying 44=some (.int .u64):=by kernel_rfl
theorem YN:Tryz.prog.underlying 5=some (.int .u8):=by kernel_rfl
theorem adB:Tryz.prog.underlying 57=some (.slice 5):=by kernel_rfl
theorem qP:Tryz.prog.underlying 9=some (.string):=by kernel_rfl
theorem I9:Tryz.prog.underlying 77=some (.pointer 79):=by kernel_rfl
theorem adA:Tryz.prog.underlying 128=some (.pointer 5):=by kernel_rfl
theorem UA:Tryz.prog.underlying 131=some .unsafePointer:=by kernel_rfl
theorem ak_(w:World):(Go.sizeOf 37).run Tryz.prog w=.ok 7 w:=by kernel_rfl
theorem ak9:(Tryz.prog.info? 4).map (fun i=>(i.zero,i.size,i.bytes))=some (some (.bool false),1,1):=by kernel_rfl
theorem agE:(Tryz.prog.info? 3).map (·.zero)=some (some (.int .i64 0)):=by kernel_rfl
theorem ado:j6 Tryz.prog 116=some [.int .i64 0,.str [],.int .i64 0]:=by kernel_rfl
theorem ajn:j6 Tryz.prog 129=some [.own (.slice none 0 0) []]:=by kernel_rfl
theorem ajm:j6 Tryz.prog 154=some [.own (.slice none 0 0) [],.int .i64 0]:=by kernel_rfl
theorem adn:j6 Tryz.prog 156=some [.int .i64 0,.int .i64 0]:=by kernel_rfl
theorem adl:j6 Tryz.prog 164=some [.int .i64 0]:=by kernel_rfl
theorem adk:j6 Tryz.prog 235=some [.int .u64 0,.int .u64 0]:=by kernel_rfl
theorem adj:j6 Tryz.prog 237=some [.int .u64 0,.int .u64 0,.bool false]:=by kernel_rfl
theorem ak8:j6 Tryz.prog 3=some [.int .i64 0]:=by kernel_rfl
theorem adi:j6 Tryz.prog 30=some [.int .i64 0]:=by kernel_rfl
theorem rV:j6 Tryz.prog 35=some [.int .i64 0,.bool false,.int .i64 0,.str [],.own (.slice none 0 0) [],.own (.slice none 0 0) []]:=by kernel_rfl
theorem VZ:j6 Tryz.prog 37=some [.str [],.int .i64 0,.bool false,.int .i64 0,.str [],.own (.slice none 0 0) [],.own (.slice none 0 0) []]:=by kernel_rfl
theorem ak7:j6 Tryz.prog 56=some [.int .u8 0,.int .u8 0,.int .u8 0,.int .u8 0,.int .u8 0,.int .u8 0,.int .u8 0,.int .u8 0,.int .u8 0,.int .u8 0,.int .u8 0,.int .u8 0,.int .u8 0,.int .u8 0,.int .u8 0,.int .u8 0]:=by kernel_rfl
theorem ak6:j6 Tryz.prog 58=some [.own (.slice none 0 0) []]:=by kernel_rfl
theorem ais:j6 Tryz.prog 63=some [.str [],.int .u64 0]:=by kernel_rfl
theorem ak5:j6 Tryz.prog 68=some [.own (.slice none 0 0) []]:=by kernel_rfl
theorem Z9:j6 Tryz.prog 79=some [.val (.pointer none),.own (.slice none 0 0) []]:=by kernel_rfl
theorem ak4:j6 Tryz.prog 81=some [.own (.slice none 0 0) [],.val (.pointer none),.own (.slice none 0 0) []]:=by kernel_rfl
theorem Z8:j6 Tryz.prog 89=some [.int .i64 0,.str [],.int .i64 0,.bool false,.int .i64 0,.str [],.own (.slice none 0 0) [],.own (.slice none 0 0) [],.own (.slice none 0 0) [],.own (.slice none 0 0) []]:=by kernel_rfl
theorem adh:j6 Tryz.prog 93=some [.str [],.bool false,.int .i64 0,.str [],.int .i64 0,.bool false,.int .i64 0,.str [],.own (.slice none 0 0) [],.own (.slice none 0 0) [],.own (.slice none 0 0) [],.own (.slice none 0 0) []]:=by kernel_rfl
theorem adg:j6 Tryz.prog 95=some [.int .u64 0,.int .u64 0,.int .u64 0,.int .u64 0]:=by kernel_rfl
theorem Z7:j6 Tryz.prog 97=some [.int .u64 0,.int .u64 0,.int .u64 0,.int .u64 0,.bool false,.bool false,.int .u8 0]:=by kernel_rfl
def FX:Facts:={ti:=[(3,false,1),(4,false,1),(5,false,1),(9,false,1),(22,false,1),(24,true,3),(25,false,1),(26,false,1),(28,true,5),(30,false,1),(33,false,1),(35,true,6),(37,true,7),(43,false,1),(44,false,1),(58,false,1),(63,true,2),(87,false,1),(89,true,10),(93,true,12),(95,true,4),(97,true,7),(116,true,3),(154,true,2),(156,true,2),(164,true,1)],fo:=[(24,0,0),(24,1,1),(24,2,2),(28,0,0),(28,1,3),(28,2,4),(35,0,0),(35,1,1),(35,2,2),(35,3,3),(35,4,4),(35,5,5),(37,0,0),(37,1,1),(63,0,0),(63,1,1),(81,0,0),(81,1,1),(89,0,0),(89,1,1),(89,2,2),(89,3,8),(89,4,9),(93,0,0),(93,1,1),(93,2,2),(97,0,0),(97,1,4),(116,0,0),(116,1,1),(116,2,2),(154,0,0),(154,1,1),(156,0,0),(156,1,1),(164,0,0),(237,0,0),(237,1,2)],fd:=[],str:=[]}
theorem fK:FX.okB Tryz.prog=true:=by kernel_rfl
theorem cs{n:Nat}{all:Array Oper}{σ:List aS}{ds:List Deferred}{Q:Post}(k:Nat){l l':List Oper}{env env':Env}(h:Og FX all n k l env=some (env',l'))(hr:AR Tryz.prog n all l' env' σ ds Q):AR Tryz.prog n all l env σ ds Q:=AR.cs fK k h hr
variable {τ : List aS} {Q : dO → List aS → Prop}
abbrev PC:=AC Tryz.prog
@[reducible] def iP(x:Int):PV:=.int .i64 x
@[reducible] def sP(x:List Str):PV:=.list (List.map jJ x)
@[reducible] def pP(b:Nat):PV:=.val (.pointer (some ⟨b,0,none⟩))
@[reducible] def zG(x:aQ):List PV:=[.str x.key,.list (List.map jJ x.restore),.list (List.map jJ x.files)]
@[reducible] def xW(x:aO):List PV:=[.str x.spec.key,.list (List.map jJ x.spec.restore),.list (List.map jJ x.spec.files),.list (List.map aD.cells x.vars),.list (List.map aP.cells x.files)]
@[reducible] def aR(x:ah):List PV:=[.int .i64 x.kind,.bool x.dR,.int .i64 x.dS,.str x.bR,.list (ah.eU x.aN),.list (List.map jJ x.keys)]
@[reducible] def oV(x:aD):List PV:=[.str x.name,.int .i64 x.value.kind,.bool x.value.dR,.int .i64 x.value.dS,.str x.value.bR,.list (ah.eU x.value.aN),.list (List.map jJ x.value.keys)]
@[reducible] def NT(x:aP):List PV:=[.str x.path,.int .u64 (x.digest.toNat:Int)]
@[reducible] def dZ(x:au):List PV:=[.int .i64 x.kind,.str x.name,.int .i64 x.value.kind,.bool x.value.dR,.int .i64 x.value.dS,.str x.value.bR,.list (ah.eU x.value.aN),.list (List.map jJ x.value.keys),.list (au.eU x.args),.list (List.map jJ x.keys)]
@[reducible] def MG(x:aU):List PV:=[.str x.text,.bool x.is_,.int .i64 x.expr.kind,.str x.expr.name,.int .i64 x.expr.value.kind,.bool x.expr.value.dR,.int .i64 x.expr.value.dS,.str x.expr.value.bR,.list (ah.eU x.expr.value.aN),.list (List.map jJ x.expr.value.keys),.list (au.eU x.expr.args),.list (List.map jJ x.expr.keys)]
@[reducible] def La(x:bA):List PV:=[.int .u64 ((x.set.getD 0 0).toNat:Int),.int .u64 ((x.set.getD 1 0).toNat:Int),.int .u64 ((x.set.getD 2 0).toNat:Int),.int .u64 ((x.set.getD 3 0).toNat:Int),.bool x.many,.bool x.literal,.int .u8 (x.char.toNat:Int)]
@[reducible] def wX(x:ay):List PV:=[.int .i64 x.kind,.str x.text,.int .i64 x.at_]
@[reducible] def aM(x:ak):List PV:=[.list (List.map ay.cells x.ts),.int .i64 x.at_]
@[reducible] def jk(x:aA):List PV:=[.int .i64 x.at_,.int .i64 x.code]
@[reducible] def NS(x:eZ):List PV:=[.int .u64 ((x.half.getD 0 0).toNat:Int),.int .u64 ((x.half.getD 1 0).toNat:Int),.bool x.neg]
def FZ:FB:=⟨{FX with ti:=FX.ti++[(3,false,1),(4,false,1),(5,false,1),(9,false,1),(22,false,1),(26,false,1),(30,false,1),(33,false,1),(35,true,6),(37,true,7),(43,false,1),(44,false,1),(57,false,1),(58,false,1),(63,true,2),(65,false,1),(68,false,1),(77,false,1),(87,false,1),(89,true,10),(93,true,12),(95,true,4),(97,true,7),(110,false,1),(116,true,3),(129,false,1),(154,true,2),(156,true,2),(164,true,1),(235,true,2),(237,true,3),(271,false,1)],fo:=FX.fo++[(63,0,0),(79,0,0),(79,1,1),(81,0,0),(81,1,1)],str:=[9]},[(3,[.int .i64 0]),(24,[.str [],.own (.slice none 0 0) [],.own (.slice none 0 0) []]),(30,[.int .i64 0]),(35,[.int .i64 0,.bool false,.int .i64 0,.str [],.own (.slice none 0 0) [],.own (.slice none 0 0) []]),(37,[.str [],.int .i64 0,.bool false,.int .i64 0,.str [],.own (.slice none 0 0) [],.own (.slice none 0 0) []]),(56,[.int .u8 0,.int .u8 0,.int .u8 0,.int .u8 0,.int .u8 0,.int .u8 0,.int .u8 0,.int .u8 0,.int .u8 0,.int .u8 0,.int .u8 0,.int .u8 0,.int .u8 0,.int .u8 0,.int .u8 0,.int .u8 0]),(58,[.own (.slice none 0 0) []]),(63,[.str [],.int .u64 0]),(68,[.own (.slice none 0 0) []]),(79,[.val (.pointer none),.own (.slice none 0 0) []]),(81,[.own (.slice none 0 0) [],.val (.pointer none),.own (.slice none 0 0) []]),(89,[.int .i64 0,.str [],.int .i64 0,.bool false,.int .i64 0,.str [],.own (.slice none 0 0) [],.own (.slice none 0 0) [],.own (.slice none 0 0) [],.own (.slice none 0 0) []]),(93,[.str [],.bool false,.int .i64 0,.str [],.int .i64 0,.bool false,.int .i64 0,.str [],.own (.slice none 0 0) [],.own (.slice none 0 0) [],.own (.slice none 0 0) [],.own (.slice none 0 0) []]),(95,[.int .u64 0,.int .u64 0,.int .u64 0,.int .u64 0]),(97,[.int .u64 0,.int .u64 0,.int .u64 0,.int .u64 0,.bool false,.bool false,.int .u8 0]),(116,[.int .i64 0,.str [],.int .i64 0]),(129,[.own (.slice none 0 0) []]),(154,[.own (.slice none 0 0) [],.int .i64 0]),(156,[.int .i64 0,.int .i64 0]),(164,[.int .i64 0]),(235,[.int .u64 0,.int .u64 0]),(237,[.int .u64 0,.int .u64 0,.bool false]),(271,[.int .u64 0]),(294,[.str []])],[(24,[(0,1),(1,1),(2,1)]),(35,[(0,1),(1,1),(2,1),(3,1),(4,1),(5,1)]),(37,[(0,1),(1,6)]),(89,[(0,1),(1,1),(2,6),(8,1),(9,1)]),(93,[(0,1),(1,1),(2,10)]),(97,[(0,4),(4,1),(5,1),(6,1)]),(116,[(0,1),(1,1),(2,1)]),(154,[(0,1),(1,1)]),(156,[(0,1),(1,1)]),(164,[(0,1)]),(237,[(0,2),(2,1)]),(294,[(0,1)])]⟩
instance iFA:FA Tryz.prog:={F:=FZ,ok:=⟨by kernel_rfl,by kernel_rfl,by kernel_rfl⟩,mix:=by kernel_rfl,es:=[(22,1),(25,7),(26,2),(33,6),(57,1),(58,1),(65,12),(68,7),(87,10),(110,3),(129,1),(146,7),(174,1)],eok:=by kernel_rfl,sf:=[(110,116,3,32),(174,3,1,8),(22,9,1,16),(25,37,7,104),(33,35,6,88),(57,5,1,1),(58,44,1,8),(65,93,12,184),(68,97,7,40),(87,89,10,160)],sok:=by kernel_rfl,bs:=[(57,5)],amR:=by kernel_rfl,un:=[(107,.u32),(108,.u64),(21,.i32),(271,.u64),(3,.i64),(43,.u64),(44,.u64),(5,.u8)],uok:=by kernel_rfl,ic:=[156,164,264,292],iok:=by kernel_rfl,bo:=[4],bok:=by kernel_rfl,pf:=[3,4,5,6,7,8,9,10,11,12,13,14,15,16,17,18,19,20,21,22,23,24,25,26,27,28,29,30,31,32,33,34,35,36,37,38,39,40,41,42,43,44,45,46,47,48,49,50,51,52,53,54,55,56,57,58,59,60,61,62,64,65,66,67,68,69,70,71,72,73,74,75,76,77,78,79,80,81,82,83,84,85,86,87,88,89,90,91,92,93,94,95,96,97,98,99,100,101,102,103,104,105,106,107,108,109,110,111,112,113,114,115,116,117,118,119,120,121,122,123,124,125,128,129,130,131,132,133,134,135,136,137,138,139,140,141,142,143,144,145,146,147,148,149,150,151,152,153,154,157,158,159,160,161,162,163,164,165,166,167,168,169,170,171,172,173,174,175,176,177,178,179,180,181,182,183,184,189,190,191,192,193,197,198,199,200,201,203,204,205,206,207,208,209,210,212,214,218,219,220,221,223,224,227,229,230,233,234,244,250,253,264],pk:=by kernel_rfl}
instance (l :List Str):ML (List.map jJ l) l jJ:=⟨rfl⟩
instance (l :List Int):ML (List.map Zm l) l Zm:=⟨rfl⟩
instance (l :List UInt8):ML (List.map fF l) l fF:=⟨rfl⟩
instance (l :List ah):ML (ah.eU l) l ah.cells:=⟨ah.dI l⟩
instance (l :List ah):ML (List.map ah.cells l) l ah.cells:=⟨rfl⟩
instance : CE ah.cells (fun x:ah=>[.int .i64 x.kind,.bool x.dR,.int .i64 x.dS,.str x.bR,.list (ah.eU x.aN),.list (List.map jJ x.keys)]):=⟨ah.bn⟩
instance : SF ah.cells 6:=⟨ah.dV,ah.cells_one⟩
instance : TC ah ah.cells:=⟨trivial⟩
instance (l :List aP):ML (List.map aP.cells l) l aP.cells:=⟨rfl⟩
instance : CE aP.cells (fun x:aP=>[.str x.path,.int .u64 (x.digest.toNat:Int)]):=⟨aP.bn⟩
instance : SF aP.cells 2:=⟨aP.dV,aP.cells_one⟩
instance : TC aP aP.cells:=⟨trivial⟩
instance (l :List aQ):ML (List.map aQ.cells l) l aQ.cells:=⟨rfl⟩
instance : CE aQ.cells (fun x:aQ=>[.str x.key,.list (List.map jJ x.restore),.list (List.map jJ x.files)]):=⟨aQ.bn⟩
instance : SF aQ.cells 3:=⟨aQ.dV,aQ.cells_one⟩
instance : TC aQ aQ.cells:=⟨trivial⟩
instance (l :List aD):ML (List.map aD.cells l) l aD.cells:=⟨rfl⟩
instance : CE aD.cells (fun x:aD=>[.str x.name,.int .i64 x.value.kind,.bool x.value.dR,.int .i64 x.value.dS,.str x.value.bR,.list (ah.eU x.value.aN),.list (List.map jJ x.value.keys)]):=⟨aD.bn⟩
instance : SF aD.cells 7:=⟨aD.dV,aD.cells_one⟩
instance : TC aD aD.cells:=⟨trivial⟩
instance (l :List aO):ML (List.map aO.cells l) l aO.cells:=⟨rfl⟩
instance : CE aO.cells (fun x:aO=>[.str x.spec.key,.list (List.map jJ x.spec.restore),.list (List.map jJ x.spec.files),.list (List.map aD.cells x.vars),.list (List.map aP.cells x.files)]):=⟨aO.bn⟩
instance : SF aO.cells 5:=⟨aO.dV,aO.cells_one⟩
instance : TC aO aO.cells:=⟨trivial⟩
instance (l :List ay):ML (List.map ay.cells l) l ay.cells:=⟨rfl⟩
instance : CE ay.cells (fun x:ay=>[.int .i64 x.kind,.str x.text,.int .i64 x.at_]):=⟨ay.bn⟩
instance : SF ay.cells 3:=⟨ay.dV,ay.cells_one⟩
instance : TC ay ay.cells:=⟨trivial⟩
instance (l :List ak):ML (List.map ak.cells l) l ak.cells:=⟨rfl⟩
instance : CE ak.cells (fun x:ak=>[.list (List.map ay.cells x.ts),.int .i64 x.at_]):=⟨ak.bn⟩
instance : SF ak.cells 2:=⟨ak.dV,ak.cells_one⟩
instance : TC ak ak.cells:=⟨trivial⟩
instance (l :List aA):ML (List.map aA.cells l) l aA.cells:=⟨rfl⟩
instance : CE aA.cells (fun x:aA=>[.int .i64 x.at_,.int .i64 x.code]):=⟨aA.bn⟩
instance : SF aA.cells 2:=⟨aA.dV,aA.cells_one⟩
instance : TC aA aA.cells:=⟨trivial⟩
instance (l :List au):ML (au.eU l) l au.cells:=⟨au.dI l⟩
instance (l :List au):ML (List.map au.cells l) l au.cells:=⟨rfl⟩
instance : CE au.cells (fun x:au=>[.int .i64 x.kind,.str x.name,.int .i64 x.value.kind,.bool x.value.dR,.int .i64 x.value.dS,.str x.value.bR,.list (ah.eU x.value.aN),.list (List.map jJ x.value.keys),.list (au.eU x.args),.list (List.map jJ x.keys)]):=⟨au.bn⟩
instance : SF au.cells 10:=⟨au.dV,au.cells_one⟩
instance : TC au au.cells:=⟨trivial⟩
instance (l :List aU):ML (List.map aU.cells l) l aU.cells:=⟨rfl⟩
instance : CE aU.cells (fun x:aU=>[.str x.text,.bool x.is_,.int .i64 x.expr.kind,.str x.expr.name,.int .i64 x.expr.value.kind,.bool x.expr.value.dR,.int .i64 x.expr.value.dS,.str x.expr.value.bR,.list (ah.eU x.expr.value.aN),.list (List.map jJ x.expr.value.keys),.list (au.eU x.expr.args),.list (List.map jJ x.expr.keys)]):=⟨aU.bn⟩
instance : SF aU.cells 12:=⟨aU.dV,aU.cells_one⟩
instance : TC aU aU.cells:=⟨trivial⟩
instance (l :List bA):ML (List.map bA.cells l) l bA.cells:=⟨rfl⟩
instance : CE bA.cells (fun x:bA=>[.int .u64 ((x.set.getD 0 0).toNat:Int),.int .u64 ((x.set.getD 1 0).toNat:Int),.int .u64 ((x.set.getD 2 0).toNat:Int),.int .u64 ((x.set.getD 3 0).toNat:Int),.bool x.many,.bool x.literal,.int .u8 (x.char.toNat:Int)]):=⟨bA.bn⟩
instance : SF bA.cells 7:=⟨bA.dV,bA.cells_one⟩
instance : TC bA bA.cells:=⟨trivial⟩
instance (l :List aF):ML (List.map aF.cells l) l aF.cells:=⟨rfl⟩
instance : CE aF.cells (fun x:aF=>[.int .i64 x.code]):=⟨aF.bn⟩
instance : SF aF.cells 1:=⟨aF.dV,aF.cells_one⟩
instance : TC aF aF.cells:=⟨trivial⟩
instance (l :List eZ):ML (List.map eZ.cells l) l eZ.cells:=⟨rfl⟩
instance : CE eZ.cells (fun x:eZ=>[.int .u64 ((x.half.getD 0 0).toNat:Int),.int .u64 ((x.half.getD 1 0).toNat:Int),.bool x.neg]):=⟨eZ.bn⟩
instance : SF eZ.cells 3:=⟨eZ.dV,eZ.cells_one⟩
instance : TC eZ eZ.cells:=⟨trivial⟩
instance : CE jJ jJ:=⟨fun _=>rfl⟩
instance : SF jJ 1:=⟨fun _=>rfl,fun _=>rfl⟩
instance : TC Str jJ:=⟨trivial⟩
instance : CE Zm Zm:=⟨fun _=>rfl⟩
instance : SF Zm 1:=⟨fun _=>rfl,fun _=>rfl⟩
instance : TC Int Zm:=⟨trivial⟩
instance : CE fF fF:=⟨fun _=>rfl⟩
instance : SF fF 1:=⟨fun _=>rfl,fun _=>rfl⟩
instance : TC UInt8 fF:=⟨trivial⟩
instance : CE abg abg:=⟨fun _=>rfl⟩
instance : SF abg 1:=⟨fun _=>rfl,fun _=>rfl⟩
instance : TC Bool abg:=⟨trivial⟩
theorem zP{m:Nat}(h:rT (FK.pf Tryz.prog) m=true):dA Tryz.prog m=true:=xR FK.pk h
theorem Z1{R:Type}{x:Option R}{e:R→dO}{m:Nat}{a:List PV}{fn:Func}{c:Code}{env:Env}(cf:Cf)(hp:rT (FK.pf Tryz.prog) m=true)(hf:Tryz.prog.funcs[m]?=some fn)(hb:fn.body=some c)(hn:fn.ntmps=cf.n)(hl:Nat.ble a.length cf.n=true)
    (Co:Abs.settle (List.range a.length) (um 0 a)=some env) (h:∀r,WN Tryz.prog cf (.body fn.results.toList) R e (fun _=>[]) r (NX Tryz.prog cf (.body fn.results.toList) ⟨.w c [] env [],[]⟩) x:=by repeat' first|(show WN _ _ _ _ _ _ _ (NX _ _ _ _) _;conv=>arg @10;whnf)|intro _|exact KR.mk (by kernel_rfl)|exact KB.mk (by first|assumption|rfl)|constructor|rfl|simp only[ji,List.map,PV.weak,PV.wN,dO.ret.injEq,ah.bn,ah.dI,au.bn,au.dI,MG,dZ,oV,aR]):CT Tryz.prog x e m a:=CT.of cf hp hf hb hn hl Co h
theorem Z2{R:Type}{x:Option R}{e:R→dO}{m:Nat}{a:Nat→List PV}{c0:List PV}{c1:R→List PV}{fn:Func}{c:Code}{env:Nat→Env}(cf:Cf)(i:Nat)(hp:rT (FK.pf Tryz.prog) m=true)(hf:Tryz.prog.funcs[m]?=some fn)(hb:fn.body=some c)(hn:fn.ntmps=cf.n)(hl:∀b,Nat.ble (a b).length cf.n=true)
    (Co:∀b,Abs.settle (List.range (a b).length) (um 0 (a b))=some (env b)) (h:∀b r,WN Tryz.prog cf (.body fn.results.toList) R e (fun r=>[.box b (c1 r)]) r (NX Tryz.prog cf (.body fn.results.toList) ⟨.w c [] (env b) [.box b c0],[(i,0)]⟩) x:=by repeat' first|(show WN _ _ _ _ _ _ _ (NX _ _ _ _) _;conv=>arg @10;whnf)|intro _|exact KR.mk (by kernel_rfl)|exact KB.mk (by first|assumption|rfl)|constructor|rfl|simp only[ji,List.map,PV.weak,PV.wN,dO.ret.injEq,ah.bn,ah.dI,au.bn,au.dI,MG,dZ,oV,aR]):CB Tryz.prog x e m a c0 c1:=CB.of cf i hp hf hb hn hl Co h
theorem FH{b:Nat}{v p:Value}{bs:List UInt8}(hp:p=Value.pointer none∨p=.pointer (some ⟨b,0,none⟩)){R:dO→List aS→Prop}(h:R (.ret (.tuple [])) [.kK b 79 [.val (.pointer (some ⟨b,0,none⟩)),.own v (bs.map fF)],.row v bs.length 1 5]):
    AC Tryz.prog 48 [.val (.pointer (some ⟨b,0,none⟩))] [.kK b 79 [.val p,.own v (bs.map fF)],.row v bs.length 1 5] R:=by
  obtain⟨j,hj1,hj2⟩:=inB;rcases hp with rfl|rfl
  · skip
    refine AC.kE 20 [] [0] Tryz.func48 rfl rfl rfl rfl rfl ?_;refine AW.seq ?_;refine AW.region ?_;refine AR.step rfl rfl rfl (AO.calc' rfl ?_);refine AR.step rfl rfl rfl (AO.nilCheck rfl rfl ?_);refine AR.step rfl rfl rfl (AO.bP rfl rfl Bt ?_);refine AR.step rfl rfl rfl (AO.jr (i:=0) rfl rfl rfl Kw rfl rfl ?_);refine AR.step rfl rfl rfl (AO.OG rfl I9 rfl rfl ?_);refine AR.nil [0,6] rfl ?_;refine AW.cond rfl (fun h1=>?_) (fun h1=>?_)
    ·refine AW.region ?_;refine AR.step rfl rfl rfl (AO.calc' rfl ?_);refine AR.step rfl rfl rfl (AO.calc' rfl ?_);refine AR.step rfl rfl rfl (AO.abE (i:=0) rfl I9 UA hj1 hj2 rfl rfl rfl ?_);refine AR.step rfl rfl rfl (AO.Xj rfl rfl rfl rfl Tryz.func63 (by kernel_rfl) (by kernel_rfl) (by kernel_rfl) (by kernel_rfl) rfl ?_);refine AR.step rfl rfl rfl (AO.XG (i:=0) rfl UA I9 hj1 rfl rfl rfl al8 ?_);refine AR.step rfl rfl rfl (AO.nilCheck rfl rfl ?_);refine AR.step rfl rfl rfl (AO.bP rfl rfl Bt ?_);refine AR.bO rfl rfl (AO.qH (i:=0) rfl rfl rfl Kw rfl rfl rfl rfl rfl ?_);refine AR.nil [] rfl ?_;exact⟨rfl,[],rfl,_,List.Sublist.refl _,h⟩
    ·cases h1
  · skip
    refine AC.kE 20 [] [0] Tryz.func48 rfl rfl rfl rfl rfl ?_;refine AW.seq ?_;refine AW.region ?_;refine AR.step rfl rfl rfl (AO.calc' rfl ?_);refine AR.step rfl rfl rfl (AO.nilCheck rfl rfl ?_);refine AR.step rfl rfl rfl (AO.bP rfl rfl Bt ?_);refine AR.step rfl rfl rfl (AO.jr (i:=0) rfl rfl rfl Kw rfl rfl ?_);refine AR.step rfl rfl rfl (AO.OG rfl I9 rfl rfl ?_);refine AR.nil [0,6] rfl ?_;refine AW.cond rfl (fun h1=>?_) (fun h1=>?_)
    ·cases h1
    · refine AW.seq ?_;refine AW.region ?_;refine AR.step rfl rfl rfl (AO.calc' rfl ?_);refine AR.step rfl rfl rfl (AO.nilCheck rfl rfl ?_);refine AR.step rfl rfl rfl (AO.bP rfl rfl Bt ?_);refine AR.step rfl rfl rfl (AO.jr (i:=0) rfl rfl rfl Kw rfl rfl ?_);refine AR.step rfl rfl rfl (AO.calc' rfl ?_);refine AR.step rfl rfl rfl (AO.KU rfl I9 hj1 rfl rfl ?_);refine AR.nil [19] rfl ?_;refine AW.cond rfl (fun h2=>?_) (fun h2=>?_)
      ·cases h2
      ·refine AW.skip ?_;exact⟨rfl,[],rfl,_,List.Sublist.refl _,h⟩
theorem iO{b:Nat}{v:Value}{bs r:List UInt8}{c:UInt8}(hv:app bs [c]=some r){R:dO→List aS→Prop}(h:∀v',R (.ret (.val .nilIface)) [.Kj b v' 79 5 r]):AC Tryz.prog 34 [.val (.pointer (some ⟨b,0,none⟩)),.int .u8 (c.toNat:Int)] [.Kj b v 79 5 bs] R:=by
  refine AC.Kj fun p hp hroom=>?_;refine AC.kE 17 [.tmp 4] [0,1] Tryz.func34 rfl rfl rfl rfl rfl ?_;refine AW.seq ?_;refine AW.region ?_;refine AR.step rfl rfl rfl (AO.calc' rfl ?_);refine AR.nil [0,1] rfl ?_;refine AW.seq ?_;refine AW.region ?_;refine AR.step rfl rfl rfl (AO.calc' rfl ?_);refine AR.step rfl rfl rfl (AO.call rfl _ rfl rfl aee (FH hp ?_));refine AR.nil [0,1] rfl ?_;refine AW.seq ?_;refine AW.region ?_;refine AR.step rfl rfl rfl (AO.calc' rfl ?_);refine AR.step rfl rfl rfl (AO.calc' rfl ?_);refine AR.step rfl rfl rfl (AO.nilCheck rfl rfl ?_);refine AR.step rfl rfl rfl (AO.bP rfl rfl uV ?_);refine AR.step rfl rfl rfl (AO.jr (i:=0) rfl rfl rfl DV rfl rfl ?_);refine AR.step rfl rfl rfl (AO.calc' rfl ?_);refine AR.step rfl rfl rfl (AO.buildSlice rfl KD rfl rfl rfl ?_);refine AR.step rfl rfl rfl (AO.M9 (i:=1) hv rfl rfl rfl rfl rfl (Jt.list rfl Cx (by simp[fF]) (by simp[fF,PV.one])) rfl KD (fun v' s1 hs1 hr1=>?_));cases hs1;refine AR.step rfl rfl rfl (AO.nilCheck rfl rfl ?_);refine AR.step rfl rfl rfl (AO.bP rfl rfl uV ?_);refine AR.bO rfl rfl (AO.qH (i:=0) rfl rfl rfl DV rfl rfl rfl rfl rfl ?_);refine AR.nil [1] rfl ?_;refine AW.seq ?_;refine AW.region ?_;refine AR.step rfl rfl rfl (AO.calc' rfl ?_);refine AR.nil [4] rfl ?_;refine AW.ret ?_;exact⟨rfl,_,⟨_,_,rfl,rfl,rfl⟩,_,List.Sublist.refl _,_,v',r,rfl,.inr rfl,hr1 hroom,h v'⟩
theorem sD{b:Nat}{v:Value}{bs r s:List UInt8}(hv:app bs s=some r){R:dO→List aS→Prop}(h:∀v',R (.ret (.tuple [.int .i64 (s.length:Int),.val .nilIface])) [.Kj b v' 79 5 r]):AC Tryz.prog 43 [.val (.pointer (some ⟨b,0,none⟩)),.str s] [.Kj b v 79 5 bs] R:=by
  refine AC.Kj fun p hp hroom=>?_;refine AC.kE 19 [.tmp 4,.tmp 5] [0,1] Tryz.func43 rfl rfl rfl rfl rfl ?_;refine AW.seq ?_;refine AW.region ?_;refine AR.step rfl rfl rfl (AO.calc' rfl ?_);refine AR.step rfl rfl rfl (AO.calc' rfl ?_);refine AR.nil [0,1] rfl ?_;refine AW.seq ?_;refine AW.region ?_;refine AR.step rfl rfl rfl (AO.calc' rfl ?_);refine AR.step rfl rfl rfl (AO.call rfl _ rfl rfl aee (FH hp ?_));refine AR.nil [0,1] rfl ?_;refine AW.seq ?_;refine AW.region ?_;refine AR.step rfl rfl rfl (AO.calc' rfl ?_);refine AR.step rfl rfl rfl (AO.calc' rfl ?_);refine AR.step rfl rfl rfl (AO.nilCheck rfl rfl ?_);refine AR.step rfl rfl rfl (AO.bP rfl rfl uV ?_);refine AR.step rfl rfl rfl (AO.jr (i:=0) rfl rfl rfl DV rfl rfl ?_);refine AR.step rfl rfl rfl (AO.calc' rfl ?_);refine AR.step rfl rfl rfl (AO.M9 (i:=1) hv rfl rfl rfl rfl rfl (Jt.str qP) rfl KD (fun v' s1 hs1 hr1=>?_));cases hs1;refine AR.step rfl rfl rfl (AO.nilCheck rfl rfl ?_);refine AR.step rfl rfl rfl (AO.bP rfl rfl uV ?_);refine AR.bO rfl rfl (AO.qH (i:=0) rfl rfl rfl DV rfl rfl rfl rfl rfl ?_);refine AR.nil [1] rfl ?_;refine AW.seq ?_;refine AW.region ?_;refine AR.step rfl rfl rfl (AO.calc' rfl ?_);refine AR.step rfl rfl rfl (AO.rZ rfl rfl rfl rfl qP rfl ?_);refine AR.step rfl rfl rfl (AO.calc' rfl ?_);refine AR.step rfl rfl rfl (AO.calc' rfl ?_);refine AR.nil [4,5] rfl ?_;refine AW.ret ?_;exact⟨rfl,_,⟨_,_,rfl,rfl,_,_,rfl,rfl,rfl⟩,_,List.Sublist.refl _,_,v',r,rfl,.inr rfl,hr1 hroom,h v'⟩
theorem Uj{b:Nat}{v:Value}{bs:List UInt8}{R:dO→List aS→Prop}(h:R (.ret (.int .i64 (bs.length:Int))) [.Kj b v 79 5 bs]):AC Tryz.prog 44 [.val (.pointer (some ⟨b,0,none⟩))] [.Kj b v 79 5 bs] R:=by
  refine AC.Kj fun p hp hroom=>?_;refine AC.kE 8 [.tmp 2] [0] Tryz.func44 rfl rfl rfl rfl rfl ?_;refine AW.seq ?_;refine AW.region ?_;refine AR.step rfl rfl rfl (AO.calc' rfl ?_);refine AR.nil [0] rfl ?_;refine AW.seq ?_;refine AW.region ?_;refine AR.step rfl rfl rfl (AO.calc' rfl ?_);refine AR.step rfl rfl rfl (AO.nilCheck rfl rfl ?_);refine AR.step rfl rfl rfl (AO.bP rfl rfl uV ?_);refine AR.step rfl rfl rfl (AO.jr (i:=0) rfl rfl rfl DV rfl rfl ?_);refine AR.step rfl rfl rfl (AO.gB (l:=bs) rfl rfl rfl rfl Cx rfl rfl ?_);refine AR.step rfl rfl rfl (AO.calc' rfl ?_);refine AR.nil [2] rfl ?_;refine AW.ret ?_;exact⟨rfl,_,⟨_,_,rfl,rfl,rfl⟩,_,List.Sublist.refl _,p,v,bs,rfl,hp,hroom,h⟩
theorem Bz{b:Nat}{v:Value}{bs:List UInt8}{R:dO→List aS→Prop}(h:R (.ret (.str bs)) []):AC Tryz.prog 45 [.val (.pointer (some ⟨b,0,none⟩))] [.Kj b v 79 5 bs] R:=by
  refine AC.ah1 fun p hroom=>?_;refine AC.kE 14 [.tmp 2] [0] Tryz.func45 rfl rfl rfl rfl rfl ?_;refine AW.seq ?_;refine AW.region ?_;refine AR.step rfl rfl rfl (AO.calc' rfl ?_);refine AR.nil [0] rfl ?_;refine AW.seq ?_;refine AW.draw 10 mixed (by kernel_rfl) rfl ?_;refine Ev.cons rfl rfl rfl (AO.calc' rfl ⟨rfl,rfl⟩) ?_;refine Ev.cons rfl rfl rfl (AO.nilCheck rfl rfl ⟨rfl,rfl⟩) ?_;refine Ev.cons rfl rfl rfl (AO.bP rfl rfl uV ⟨rfl,rfl⟩) ?_;refine Ev.cons rfl rfl rfl (AO.jr (i:=0) rfl rfl rfl DV rfl rfl ⟨rfl,rfl⟩) ?_;refine Ev.cons rfl rfl rfl (AO.sliceData rfl rfl rfl rfl hroom ⟨rfl,rfl⟩) ?_;refine Ev.cons rfl rfl rfl (AO.calc' rfl ⟨rfl,rfl⟩) ?_;refine Ev.cons rfl rfl rfl (AO.nilCheck rfl rfl ⟨rfl,rfl⟩) ?_;refine Ev.cons rfl rfl rfl (AO.bP rfl rfl uV ⟨rfl,rfl⟩) ?_;refine Ev.cons rfl rfl rfl (AO.jr (i:=0) rfl rfl rfl DV rfl rfl ⟨rfl,rfl⟩) ?_;refine Ev.cons rfl rfl rfl (AO.gB (l:=bs) rfl rfl rfl rfl Cx rfl rfl ⟨rfl,rfl⟩) ?_;refine Ev.nil ?_;show AR _ _ _ _ _ _ _ _;refine AR.step rfl rfl rfl (AO.unsafeString rfl rfl rfl rfl adA amH rfl rfl rfl ?_);refine AR.step rfl rfl rfl (AO.calc' rfl ?_);refine AR.nil [2] rfl ?_;refine AW.ret ?_;exact⟨rfl,_,⟨_,_,rfl,rfl,rfl⟩,[],apP _,h⟩
theorem Q6{b:Nat}{q:PV}{v p:Value}{bs:List UInt8}(hp:p=Value.pointer none∨p=.pointer (some ⟨b,1,none⟩)){R:dO→List aS→Prop}(h:R (.ret (.tuple [])) [.row v (List.length bs) 1 5,.kK b 81 [q,.val (.pointer (some ⟨b,1,none⟩)),.own v (List.map fF bs)]]):
    AC Tryz.prog 48 [.val (.pointer (some ⟨b,1,none⟩))] [.row v (List.length bs) 1 5,.kK b 81 [q,.val p,.own v (List.map fF bs)]] R:=by
  obtain⟨j,hj1,hj2⟩:=inB;rcases hp with rfl|rfl
  · skip
    refine AC.kE 20 [] [0] Tryz.func48 rfl rfl rfl rfl rfl ?_;refine AW.seq ?_;refine AW.region ?_;refine AR.step rfl rfl rfl (AO.calc' rfl ?_);refine AR.step rfl rfl rfl (AO.nilCheck rfl rfl ?_);refine AR.step rfl rfl rfl (AO.bP rfl rfl Bt ?_);refine AR.step rfl rfl rfl (AO.jr (i:=1) rfl rfl rfl Kw rfl rfl ?_);refine AR.step rfl rfl rfl (AO.OG rfl I9 rfl rfl ?_);refine AR.nil [0,6] rfl ?_;refine AW.cond rfl (fun h1=>?_) (fun h1=>?_)
    ·refine AW.region ?_;refine AR.step rfl rfl rfl (AO.calc' rfl ?_);refine AR.step rfl rfl rfl (AO.calc' rfl ?_);refine AR.step rfl rfl rfl (AO.YR (i:=1) (n:=1) rfl I9 UA hj1 hj2 rfl rfl rfl ?_);refine AR.step rfl rfl rfl (AO.Xj rfl rfl rfl rfl Tryz.func63 (by kernel_rfl) (by kernel_rfl) (by kernel_rfl) (by kernel_rfl) rfl ?_);refine AR.step rfl rfl rfl (AO.Vs (i:=1) rfl UA I9 hj1 rfl rfl rfl al7 ?_);refine AR.step rfl rfl rfl (AO.nilCheck rfl rfl ?_);refine AR.step rfl rfl rfl (AO.bP rfl rfl Bt ?_);refine AR.bO rfl rfl (AO.qH (i:=1) rfl rfl rfl Kw rfl rfl rfl rfl rfl ?_);refine AR.nil [] rfl ?_;exact⟨rfl,[],rfl,_,List.Sublist.refl _,h⟩
    ·cases h1
  · skip
    refine AC.kE 20 [] [0] Tryz.func48 rfl rfl rfl rfl rfl ?_;refine AW.seq ?_;refine AW.region ?_;refine AR.step rfl rfl rfl (AO.calc' rfl ?_);refine AR.step rfl rfl rfl (AO.nilCheck rfl rfl ?_);refine AR.step rfl rfl rfl (AO.bP rfl rfl Bt ?_);refine AR.step rfl rfl rfl (AO.jr (i:=1) rfl rfl rfl Kw rfl rfl ?_);refine AR.step rfl rfl rfl (AO.OG rfl I9 rfl rfl ?_);refine AR.nil [0,6] rfl ?_;refine AW.cond rfl (fun h1=>?_) (fun h1=>?_)
    ·cases h1
    · refine AW.seq ?_;refine AW.region ?_;refine AR.step rfl rfl rfl (AO.calc' rfl ?_);refine AR.step rfl rfl rfl (AO.nilCheck rfl rfl ?_);refine AR.step rfl rfl rfl (AO.bP rfl rfl Bt ?_);refine AR.step rfl rfl rfl (AO.jr (i:=1) rfl rfl rfl Kw rfl rfl ?_);refine AR.step rfl rfl rfl (AO.calc' rfl ?_);refine AR.step rfl rfl rfl (AO.KU rfl I9 hj1 rfl rfl ?_);refine AR.nil [19] rfl ?_;refine AW.cond rfl (fun h2=>?_) (fun h2=>?_)
      ·cases h2
      ·refine AW.skip ?_;exact⟨rfl,[],rfl,_,List.Sublist.refl _,h⟩
theorem HZ{b:Nat}{q:PV}{v p:Value}{bs r:List UInt8}(hp:p=Value.pointer none∨p=.pointer (some ⟨b,1,none⟩))(hroom:roomy v=true){c:UInt8}(hv:app bs [c]=some r){R:dO→List aS→Prop}(h:∀v',roomy v'=true→R (.ret (.val .nilIface)) [.row v' (List.length r) 1 5,.kK b 81 [q,.val (.pointer (some ⟨b,1,none⟩)),.own v' (List.map fF r)]]):AC Tryz.prog 34 [.val (.pointer (some ⟨b,1,none⟩)),.int .u8 (c.toNat:Int)] [.row v (List.length bs) 1 5,.kK b 81 [q,.val p,.own v (List.map fF bs)]] R:=by
  refine AC.kE 17 [.tmp 4] [0,1] Tryz.func34 rfl rfl rfl rfl rfl ?_;refine AW.seq ?_;refine AW.region ?_;refine AR.step rfl rfl rfl (AO.calc' rfl ?_);refine AR.nil [0,1] rfl ?_;refine AW.seq ?_;refine AW.region ?_;refine AR.step rfl rfl rfl (AO.calc' rfl ?_);refine AR.step rfl rfl rfl (AO.call rfl _ rfl rfl aee (Q6 hp ?_));refine AR.nil [0,1] rfl ?_;refine AW.seq ?_;refine AW.region ?_;refine AR.step rfl rfl rfl (AO.calc' rfl ?_);refine AR.step rfl rfl rfl (AO.calc' rfl ?_);refine AR.step rfl rfl rfl (AO.nilCheck rfl rfl ?_);refine AR.step rfl rfl rfl (AO.bP rfl rfl uV ?_);refine AR.step rfl rfl rfl (AO.jr (i:=1) rfl rfl rfl DV rfl rfl ?_);refine AR.step rfl rfl rfl (AO.calc' rfl ?_);refine AR.step rfl rfl rfl (AO.buildSlice rfl KD rfl rfl rfl ?_);refine AR.step rfl rfl rfl (AO.M9 (i:=0) hv rfl rfl rfl rfl rfl (Jt.list rfl Cx (by simp[fF]) (by simp[fF,PV.one])) rfl KD (fun v' s1 hs1 hr1=>?_));cases hs1;refine AR.step rfl rfl rfl (AO.nilCheck rfl rfl ?_);refine AR.step rfl rfl rfl (AO.bP rfl rfl uV ?_);refine AR.bO rfl rfl (AO.qH (i:=1) rfl rfl rfl DV rfl rfl rfl rfl rfl ?_);refine AR.nil [1] rfl ?_;refine AW.seq ?_;refine AW.region ?_;refine AR.step rfl rfl rfl (AO.calc' rfl ?_);refine AR.nil [4] rfl ?_;refine AW.ret ?_;exact⟨rfl,_,⟨_,_,rfl,rfl,rfl⟩,_,List.Sublist.refl _,h v' (hr1 hroom)⟩
theorem afs{b:Nat}{q:PV}{v p:Value}{bs:List UInt8}{R:dO→List aS→Prop}(h:R (.ret (.int .i64 (bs.length:Int))) [.row v (List.length bs) 1 5,.kK b 81 [q,.val p,.own v (List.map fF bs)]]):AC Tryz.prog 44 [.val (.pointer (some ⟨b,1,none⟩))] [.row v (List.length bs) 1 5,.kK b 81 [q,.val p,.own v (List.map fF bs)]] R:=by
  refine AC.kE 8 [.tmp 2] [0] Tryz.func44 rfl rfl rfl rfl rfl ?_;refine AW.seq ?_;refine AW.region ?_;refine AR.step rfl rfl rfl (AO.calc' rfl ?_);refine AR.nil [0] rfl ?_;refine AW.seq ?_;refine AW.region ?_;refine AR.step rfl rfl rfl (AO.calc' rfl ?_);refine AR.step rfl rfl rfl (AO.nilCheck rfl rfl ?_);refine AR.step rfl rfl rfl (AO.bP rfl rfl uV ?_);refine AR.step rfl rfl rfl (AO.jr (i:=1) rfl rfl rfl DV rfl rfl ?_);refine AR.step rfl rfl rfl (AO.gB (l:=bs) rfl rfl rfl rfl Cx rfl rfl ?_);refine AR.step rfl rfl rfl (AO.calc' rfl ?_);refine AR.nil [2] rfl ?_;refine AW.ret ?_;exact⟨rfl,_,⟨_,_,rfl,rfl,rfl⟩,_,List.Sublist.refl _,h⟩
theorem X7{b:Nat}{q:PV}{v p:Value}{bs:List UInt8}(hroom:roomy v=true){R:dO→List aS→Prop}(h:R (.ret (.str bs)) [.kK b 81 [q,.val p,.own v (List.map fF bs)]]):AC Tryz.prog 45 [.val (.pointer (some ⟨b,1,none⟩))] [.row v (List.length bs) 1 5,.kK b 81 [q,.val p,.own v (List.map fF bs)]] R:=by
  refine AC.kE 14 [.tmp 2] [0] Tryz.func45 rfl rfl rfl rfl rfl ?_;refine AW.seq ?_;refine AW.region ?_;refine AR.step rfl rfl rfl (AO.calc' rfl ?_);refine AR.nil [0] rfl ?_;refine AW.seq ?_;refine AW.draw 10 mixed (by kernel_rfl) rfl ?_;refine Ev.cons rfl rfl rfl (AO.calc' rfl ⟨rfl,rfl⟩) ?_;refine Ev.cons rfl rfl rfl (AO.nilCheck rfl rfl ⟨rfl,rfl⟩) ?_;refine Ev.cons rfl rfl rfl (AO.bP rfl rfl uV ⟨rfl,rfl⟩) ?_;refine Ev.cons rfl rfl rfl (AO.jr (i:=1) rfl rfl rfl DV rfl rfl ⟨rfl,rfl⟩) ?_;refine Ev.cons rfl rfl rfl (AO.sliceData rfl rfl rfl rfl hroom ⟨rfl,rfl⟩) ?_;refine Ev.cons rfl rfl rfl (AO.calc' rfl ⟨rfl,rfl⟩) ?_;refine Ev.cons rfl rfl rfl (AO.nilCheck rfl rfl ⟨rfl,rfl⟩) ?_;refine Ev.cons rfl rfl rfl (AO.bP rfl rfl uV ⟨rfl,rfl⟩) ?_;refine Ev.cons rfl rfl rfl (AO.jr (i:=1) rfl rfl rfl DV rfl rfl ⟨rfl,rfl⟩) ?_;refine Ev.cons rfl rfl rfl (AO.gB (l:=bs) rfl rfl rfl rfl Cx rfl rfl ⟨rfl,rfl⟩) ?_;refine Ev.nil ?_;show AR _ _ _ _ _ _ _ _;refine AR.step rfl rfl rfl (AO.RQ rfl rfl rfl rfl adA amH rfl rfl rfl ?_);refine AR.step rfl rfl rfl (AO.calc' rfl ?_);refine AR.nil [2] rfl ?_;refine AW.ret ?_;exact⟨rfl,_,⟨_,_,rfl,rfl,rfl⟩,_,List.Sublist.refl _,h⟩
theorem Q7{b:Nat}{q:PV}{v p:Value}{bs:List UInt8}{R:dO→List aS→Prop}(h:R (.ret (.tuple [])) [.kK b 81 [q,.val (.pointer none),.own (.slice none 0 0) (List.map fF [])]]):AC Tryz.prog 53 [.val (.pointer (some ⟨b,1,none⟩))] [.kK b 81 [q,.val p,.own v (List.map fF bs)]] R:=by
  refine AC.kE 8 [] [0] Tryz.func53 rfl rfl rfl rfl rfl ?_;refine AW.seq ?_;refine AW.region ?_;refine AR.step rfl rfl rfl (AO.calc' rfl ?_);refine AR.step rfl rfl rfl (AO.nilCheck rfl rfl ?_);refine AR.step rfl rfl rfl (AO.bP rfl rfl Bt ?_);refine AR.bO rfl rfl (AO.qH (i:=0) rfl rfl rfl Kw rfl rfl rfl rfl rfl ?_);refine AR.nil [0] rfl ?_;refine AW.region ?_;refine AR.step rfl rfl rfl (AO.calc' rfl ?_);refine AR.step rfl rfl rfl (AO.nilCheck rfl rfl ?_);refine AR.step rfl rfl rfl (AO.bP rfl rfl uV ?_);refine AR.bO rfl rfl (AO.qH (i:=0) rfl rfl rfl DV rfl rfl rfl rfl rfl ?_);refine AR.nil [] rfl ?_;exact⟨rfl,[],rfl,_,List.Sublist.refl _,h⟩
instance (l1 :List Str) (n_ je):LE (oH l1 n_ je) (fun j p=>oH l1 j p) n_ je [] [] [] [0] (fun v w p=>[(3,iP p)]) (fun v w p s=>s):=⟨Z⟩
instance afR(l1:List Str):CT Tryz.prog (Bl l1) (fun r=>.ret (.bool r)) 12 [sP l1]:=by
  unfold Bl;exact Z1 ⟨23,[],[]⟩ Z Tryz.func12 Z Z Z Z
section
variable (iU : ah → Int → Option Int) [agi : ∀(rP : ah) (wu : Int), CT Tryz.prog (iU rP wu) (fun r => .ret (iP r)) 13 [.agg (aR rP), iP wu]]
instance (v1 :ah) (n_ je vG):LE (uR iU v1 n_ je vG) (fun j p=>uR iU v1 j p.1 p.2) n_ (je,vG) [] [] [] [2] (fun v w p=>[(1,iP p.1),(5,iP p.2)]) (fun v w p s=>s):=⟨Z⟩
instance (v1 :ah) (n_ je vG):LE (uQ iU v1 n_ je vG) (fun j p=>uQ iU v1 j p.1 p.2) n_ (je,vG) [] [] [] [2] (fun v w p=>[(1,iP p.1),(6,iP p.2)]) (fun v w p s=>s):=⟨Z⟩
instance SB(v1:ah)(Qt:Int):CT Tryz.prog (Dh iU v1 Qt) (fun r=>.ret (iP r)) 13 [.agg (aR v1),iP Qt]:=by
  unfold Dh;exact Z1 ⟨59,[],[]⟩ Z Tryz.func13 Z Z Z Z
end
theorem NP:∀k:Nat,(∀(rP:ah) (wu:Int),CT Tryz.prog (tH k rP wu) (fun r=>.ret (iP r)) 13 [.agg (aR rP),iP wu])
  | 0=>fun _ _=>CT.none Z
  | k+1=>by
    obtain (i0):=NP k;exact fun rP wu=>SB _ rP wu
instance ajc(rP:ah)(wu:Int):CT Tryz.prog (MH rP wu) (fun r=>.ret (iP r)) 13 [.agg (aR rP),iP wu]:=(NP BIG) rP wu
instance (l1 :List aP) (n_ je):LE (uP l1 n_ je) (fun j p=>uP l1 j p) n_ je [] [] [] [0] (fun v w p=>[(3,iP p)]) (fun v w p s=>s):=⟨Z⟩
instance ajb(l1:List aP):CT Tryz.prog (Iz l1) (fun r=>.ret (.bool r)) 14 [.list (List.map aP.cells l1)]:=by
  unfold Iz;exact Z1 ⟨24,[],[]⟩ Z Tryz.func14 Z Z Z Z
instance (u1 :aO) (n_ je):LE (yX u1 n_ je) (fun j p=>yX u1 j p) n_ je [] [] [] [1] (fun v w p=>[(3,iP p)]) (fun v w p s=>s):=⟨Z⟩
instance (u1 :aO) (n_ je):LE (yV u1 n_ je) (fun j p=>yV u1 j p) n_ je [] [] [] [1] (fun v w p=>[(4,iP p)]) (fun v w p s=>s):=⟨Z⟩
instance akZ(u1:aO):CT Tryz.prog (Lb u1) (fun r=>.ret (.bool r)) 4 [.agg (xW u1)]:=by
  unfold Lb;exact Z1 ⟨80,[],[]⟩ Z Tryz.func4 Z Z Z Z
instance RJ(s1:Str)(kT:Str):CT Tryz.prog (iZ s1 kT) (fun r=>.ret (.bool r)) 39 [.str s1,.str kT]:=by
  unfold iZ;exact Z1 ⟨18,[],[]⟩ Z Tryz.func39 Z Z Z Z
instance Az(s1:Str)(kT:Str):CT Tryz.prog (strings_HasPrefix s1 kT) (fun r=>.ret (.bool r)) 33 [.str s1,.str kT]:=by
  unfold strings_HasPrefix;exact Z1 ⟨8,[],[]⟩ Z Tryz.func33 Z Z Z Z
instance (s1 :Str) (n_ je):LE (lD s1 n_ je) (fun j p=>lD s1 j p) n_ je [] [] [] [0] (fun v w p=>[(5,iP p)]) (fun v w p s=>s):=⟨Z⟩
instance ac9(s1:Str)(cZ:Int):CT Tryz.prog (zH s1 cZ) (fun r=>.ret (iP r)) 49 [.str s1,iP cZ]:=by
  unfold zH;exact Z1 ⟨27,[],[]⟩ Z Tryz.func49 Z Z Z Z
instance (s1 :Str) (n_ je vG):LE (gN s1 n_ je vG) (fun j p=>gN s1 j p.1 p.2) n_ (je,vG) [] [] [] [0] (fun v w p=>[(1,iP p.1),(5,iP p.2)]) (fun v w p s=>s):=⟨Z⟩
instance Ni(s1:Str)(cZ:Int):CT Tryz.prog (xX s1 cZ) (fun r=>.ret (iP r)) 35 [.str s1,iP cZ]:=by
  unfold xX;exact Z1 ⟨31,[],[]⟩ Z Tryz.func35 Z Z Z Z
instance Nh(lu:Int):CT Tryz.prog (xU lu) (fun r=>.ret (.bool r)) 64 [.int .i32 lu]:=by
  unfold xU;exact Z1 ⟨9,[],[]⟩ Z Tryz.func64 Z Z Z Z
instance (s1 :Str) (yB:UInt8→Option Bool) (n_ je):LE (qd s1 yB n_ je) (fun j p=>qd s1 yB j p) n_ je [] [] [] [0,2] (fun v w p=>[(1,iP p)]) (fun v w p s=>s):=⟨Z⟩
instance agv(s1:Str)(cZ:Int)(yB:UInt8→Option Bool){Fb:FuncId}{IJ:List PV}[am8:CF1 Tryz.prog yB (fun a0=>.int .u8 (a0.toNat:Int)) (fun b0=>.ret (.bool b0)) Fb IJ]:CT Tryz.prog (tu s1 cZ yB) (fun r=>.ret (iP r)) 65 [.str s1,iP cZ,.fn Fb IJ]:=by
  unfold tu;exact Z1 ⟨21,[],[]⟩ Z Tryz.func65 Z Z Z Z
theorem Sn(s1:Str)(cZ:Int)(yB:UInt8→Option Bool)(Fb:FuncId)(IJ:List PV)(ahR:dA Tryz.prog Fb=true)(ahS:∀a0 b0,yB a0=some b0→∀ {τ:List aS} {Q:dO→List aS→Prop},Q (.ret (.bool b0)) τ→AC Tryz.prog Fb ([.int .u8 (a0.toNat:Int)]++IJ) τ Q){r0:Int}(hf:tu s1 cZ yB=some r0){τ:List aS}{Q:dO→List aS→Prop}(h:Q (.ret (iP r0)) τ):AC Tryz.prog 65 [.str s1,iP cZ,.fn Fb IJ] τ Q:=letI:CF1 Tryz.prog yB (fun a0=>.int .u8 (a0.toNat:Int)) (fun b0=>.ret (.bool b0)) Fb IJ:=⟨fun a=>⟨ahR,fun {r} hx {τ Q} h=>ahS a r hx h⟩⟩;CT.h hf h
instance Ey(c1:UInt8):CT Tryz.prog (qh c1) (fun r=>.ret (.bool r)) 66 [.int .u8 (c1.toNat:Int)]:=by
  unfold qh;exact Z1 ⟨5,[],[]⟩ Z Tryz.func66 Z Z Z Z
instance : CF1 Tryz.prog qh (fun c1=>.int .u8 (c1.toNat:Int)) (fun r=>.ret (.bool r)) 66 []:=⟨fun x0=>Ey x0⟩
instance afP(c1:UInt8):CT Tryz.prog (qL c1) (fun r=>.ret (.bool r)) 81 [.int .u8 (c1.toNat:Int)]:=by
  unfold qL;exact Z1 ⟨21,[],[]⟩ Z Tryz.func81 Z Z Z Z
instance SA(c1:UInt8):CT Tryz.prog (qC c1) (fun r=>.ret (.bool r)) 83 [.int .u8 (c1.toNat:Int)]:=by
  unfold qC;exact Z1 ⟨9,[],[]⟩ Z Tryz.func83 Z Z Z Z
instance : CF1 Tryz.prog qC (fun c1=>.int .u8 (c1.toNat:Int)) (fun r=>.ret (.bool r)) 83 []:=⟨fun x0=>SA x0⟩
instance Ro(c1:UInt8):CT Tryz.prog (uN c1) (fun r=>.ret (.bool r)) 100 [.int .u8 (c1.toNat:Int)]:=by
  unfold uN;exact Z1 ⟨9,[],[]⟩ Z Tryz.func100 Z Z Z Z
instance : CF1 Tryz.prog uN (fun c1=>.int .u8 (c1.toNat:Int)) (fun r=>.ret (.bool r)) 100 []:=⟨fun x0=>Ro x0⟩
instance aii(bL:Str)(cZ:Int):CT Tryz.prog (Ci bL cZ) (fun r=>.ret (.tuple [.agg (wX r.1),iP r.2.1,iP r.2.2])) 82 [.str bL,iP cZ]:=by
  unfold Ci;exact Z1 ⟨23,[],[]⟩ Z Tryz.func82 Z Z Z Z
instance (yw :Str) (n_ je vG):LE (qg yw n_ je vG) (fun j p=>qg yw j p.1 p.2) n_ (je,vG) [] [] [] [0] (fun v w p=>[(3,iP p.1),(4,iP p.2)]) (fun v w p s=>s):=⟨Z⟩
instance agw(yw:Str):CT Tryz.prog (Dg yw) (fun r=>.ret (.bool r)) 101 [.str yw]:=by
  unfold Dg;exact Z1 ⟨25,[],[]⟩ Z Tryz.func101 Z Z Z Z
instance afO(bL:Str)(cZ:Int):CT Tryz.prog (xS bL cZ) (fun r=>.ret (.tuple [.agg (wX r.1),iP r.2.1,iP r.2.2])) 84 [.str bL,iP cZ]:=by
  unfold xS;exact Z1 ⟨44,[],[]⟩ Z Tryz.func84 Z Z Z Z
instance aja(c1:UInt8):CT Tryz.prog (uO c1) (fun r=>.ret (iP r)) 128 [.int .u8 (c1.toNat:Int)]:=by
  unfold uO;exact Z1 ⟨31,[],[]⟩ Z Tryz.func128 Z Z Z Z
instance Oo(bL:Str)(cZ:Int):CT Tryz.prog (vN bL cZ) (fun r=>.ret (.tuple [.int .u8 (r.1.toNat:Int),iP r.2])) 102 [.str bL,iP cZ]:=by
  unfold vN;exact Z1 ⟨61,[],[]⟩ Z Tryz.func102 Z Z Z Z
instance Sz(bL:Str)(cZ:Int):CT Tryz.prog (z_ bL cZ) (fun r=>.ret (.bool r)) 103 [.str bL,iP cZ]:=by
  unfold z_;exact Z1 ⟨32,[],[]⟩ Z Tryz.func103 Z Z Z Z
instance aif(bL:Str)(cZ:Int):CT Tryz.prog (Ch bL cZ) (fun r=>.ret (.tuple [.agg (wX r.1),iP r.2.1,iP r.2.2])) 85 [.str bL,iP cZ]:=⟨zP rfl,fun {r} hf {τ Q} h=>by
 obtain⟨r0,r1,r2⟩:=r;unfold Ch at hf;refine BN 68 [.cell 4 116,.tmp 5,.tmp 6] [0,1] Tryz.func85 Z Z Z Z Z (W 0 Z (AS Z (AO.bQ Z ado (fun b4=>(U 2 Z (AS Z (AO.IV (eu:=5) Z Z9 Z (fun b7=>(J 3 Z (LK3 (fun i1 b1 v1=>[(0,.str bL),(1,iP cZ),(4,pP b4),(7,pP b7),(8,iP i1)]) (fun i1 b1 v1=>[.Kj b7 v1 79 5 b1,.box b4 [iP 0,.str ([]:Str),iP 0]]) (fun dG i1 b1 v1=>pO bL cZ dG i1 b1=some (r0,r1,r2)) BIG (bq (cZ+1)) [] (.slice none 0 0) Z Z hf (fun _ _ _ hz=>jS hz) ?_))))))))));intro dG i1 b1 v1 hf;rw[pO]at hf;refine W 2 Z (AS Z (AO.rZ Z Z Z Z qP Z (J 1 Z (C hf Z (fun h1 hf=>?_) fun h1 hf=>?_))))
 ·refine B1 hf fun c1 h2 hf=>W 2 Z (AS Z (AO.r9 h2 Z qP Z Z (J 4 Z (C hf Z (fun h3 hf=>?_) fun h3 hf=>?_))))
  ·refine W 0 Z (CL Z (AC.one 0 Z (Uj ⟨_,Z,(J 1 Z (C hf Z (fun h4 hf=>?_) fun h4 hf=>?_))⟩)))
   ·cases hf;exact Wx 4 [1] Z Z (ZC [1] Z Z h)
   refine W 0 Z (CL Z (AC.OH 0 Z (Bz ?_)));cases hf;exact Rx 7 [0] Z Z (ZC [0] Z Z h)
  refine V 3 Z (C hf Z (fun h5 hf=>?_) fun h5 hf=>?_)
  ·cases hf;exact Wx 4 [1] Z Z (ZC [1] Z Z h)
  refine V 3 Z (C hf Z (fun h6 hf=>?_) fun h6 hf=>?_)
  ·obtain⟨x1,n1,h7,hf⟩:=lI hf;refine W 2 Z (CL Z ((Oo _ _).h h7 ?_));refine B1 hf fun b2 h9 hf=>U 8 Z (AR.Cm 4 52 56 true [0,1,4,7,8,10,11] b2 Z Z (fun h8=>?_) (fun h8=>?_) ?_)
   ·refine IT 52 h8 h9 Z fun h9=>?_;refine BR h9 fun x2 h10 h9=>?_;refine U 2 Z (GO Z (AO.call Z _ Z Z ajN ((Sz _ _).h h10 ?_)));cases h9;exact LM 1 Z (En [56,0,1,4,7,8,10,11] Z)
   ·refine IF 52 h8 h9 Z fun h9=>?_;cases h9;exact LM 4 Z (En [56,0,1,4,7,8,10,11] Z)
   refine J 1 Z (C hf Z (fun h11 hf=>?_) fun h11 hf=>?_)
   ·cases hf;exact Wx 4 [1] Z Z (ZC [1] Z Z h)
   refine V 3 Z (C hf Z (fun h12 hf=>?_) fun h12 hf=>?_)
   ·cases hf;exact Wx 4 [1] Z Z (ZC [1] Z Z h)
   refine B1 hf fun b3 MN hf=>W 1 Z (CL Z (AC.one 0 Z (iO MN (fun v2=>⟨_,Z,?_⟩))));exact N 4 Z ⟨(bq (i1+n1)),b3,v2,Z,Z,Z,hf⟩
  refine B1 hf fun b4 OP hf=>W 1 Z (CL Z (AC.one 0 Z (iO OP (fun v3=>⟨_,Z,?_⟩))));exact N 3 Z ⟨(bq (i1+1)),b4,v3,Z,Z,Z,hf⟩
 cases hf;exact Wx 4 [1] Z Z (ZC [1] Z Z h)⟩
instance (bL :Str) (cZ:Int) (n_ je):LE (iT bL cZ n_ je) (fun j p=>iT bL cZ j p) n_ je [] [] [] [0,1,4,10,11] (fun v w p=>[(12,iP p)]) (fun v w p s=>s):=⟨Z⟩
instance acX(bL:Str)(cZ:Int):CT Tryz.prog (tC bL cZ) (fun r=>.ret (.tuple [.agg (wX r.1),iP r.2.1,iP r.2.2])) 86 [.str bL,iP cZ]:=by
  unfold tC;exact Z1 ⟨63,[],[]⟩ Z Tryz.func86 Z Z Z Z
instance Sy(bL:Str)(cZ:Int):CT Tryz.prog (z8 bL cZ) (fun r=>.ret (.tuple [.agg (wX r.1),iP r.2.1,iP r.2.2])) 67 [.str bL,iP cZ]:=by
  unfold z8;exact Z1 ⟨44,[],[]⟩ Z Tryz.func67 Z Z Z Z
instance Ng(op1:Str)(iE:Int):CT Tryz.prog (tF op1 iE) (fun r=>.ret (iP r)) 68 [.str op1,iP iE]:=by
  unfold tF;exact Z1 ⟨18,[],[]⟩ Z Tryz.func68 Z Z Z Z
instance afQ(bL:Str):CT Tryz.prog (mW bL) (fun r=>.ret (.tuple [.list (List.map ay.cells r.1),iP r.2.1,iP r.2.2])) 50 [.str bL]:=⟨zP rfl,fun {r} hf {τ Q} h=>by
 obtain⟨r0,r1,r2⟩:=r;unfold mW at hf;refine BN 84 [.tmp 2,.tmp 3,.tmp 4] [0] Tryz.func50 Z Z Z Z Z (W 0 Z (AS Z (AO.kX Z Z (U 3 Z (AS Z (AO.rZ Z Z Z Z qP Z (J 1 Z (C hf Z (fun h1 hf=>?_) fun h1 hf=>?_))))))))
 ·refine W 0 Z (AS Z (AO.kX Z Z ?_));cases hf;exact N 2 Z (Y Z h)
 refine W 5 Z (AS Z (AO.abV Z qP Z (fun amd=>(J 0 Z (AW.row 3 116 (LK5 (fun bM v1 jV iE pos1=>[(0,.str bL),(5,.own v1 (List.map ay.cells bM)),(6,.fn 64 []),(7,iP jV),(8,iP iE),(18,pP amd)]) (fun bM v1 jV iE pos1=>[.row v1 (List.map ay.cells bM).length 3 116,.obj amd (.stringIter ⟨List.toArray bL⟩ pos1)]) (fun dG bM v1 jV iE pos1=>iM bL dG bM jV iE pos1=some (r0,r1,r2)) BIG [] (.slice none 0 0) 0 0 0 Z Z hf (fun _ _ _ _ _ hz=>jS hz) ?_))))));intro dG bM v1 jV iE pos1 hf;rw[iM]at hf;rcases Bool.eq_false_or_eq_true (decide (pos1<bL.length))with h2|h2
 ·replace hf:=nC h2 hf;refine W 0 Z (AS Z (AO.aey (i:=1) Z Z Z h2 (J 1 Z (AW.cond Z (fun h3=>?_) (fun h3=>?_)))))
  ·refine B1 hf fun b1 h5 hf=>W 8 Z (AR.Cm 4 26 30 false [0,5,6,7,8,9,10,18] b1 Z Z (fun h4=>?_) (fun h4=>?_) ?_)
   ·refine IF 26 h4 h5 Z fun h5=>?_;refine BR h5 fun x1 h6 h5=>?_;refine U 2 Z (GO Z (AO.call Z _ Z Z alE ((Nh _).h h6 ?_)));cases h5;exact LM 1 Z (En [30,0,5,6,7,8,9,10,18] Z)
   ·refine IT 26 h4 h5 Z fun h5=>?_;cases h5;exact LM 4 Z (En [30,0,5,6,7,8,9,10,18] Z)
   refine J 0 Z (C hf Z (fun h7 hf=>?_) fun h7 hf=>?_)
   ·exact M 0 Z ⟨bM,v1,jV,iE,(pos1+(dec bL pos1).2),Z,Z,Z,hf⟩
   refine V 2 Z (C hf Z (fun h8 hf=>?_) fun h8 hf=>?_)
   ·refine B1 hf fun D9 h9 hf=>W 2 Z (CL Z (Sn _ _ qh 66 [] alD (fun _ _ hz=>(Ey _).h hz) h9 ?_));exact N 1 Z ⟨bM,v1,D9,iE,(pos1+(dec bL pos1).2),Z,Z,Z,hf⟩
   refine V 2 Z (C hf Z (fun h10 hf=>?_) fun h10 hf=>?_)
   ·refine B1 hf fun b2 h12 hf=>W 3 Z (AR.Cm 14 40 54 true [0,5,6,7,8,9,18] b2 Z Z (fun h11=>?_) (fun h11=>?_) ?_)
    ·replace h12:=nC h11 h12;refine Is 40 h11 Z (U 1 Z (GO Z (AO.gB (l:=bM) Z Z Z Z MR Z Z ?_)));refine BR h12 fun b3 OP h12=>?_;refine U 2 Z (AR.Cm 9 44 53 false [0,5,6,7,8,9,18,40] b3 Z Z (fun MN=>?_) (fun MN=>?_) ?_)
     ·replace OP:=mO MN OP;refine Is 44 MN Z (U 2 Z (GO Z (AO.gB (l:=bM) Z Z Z Z MR Z Z ?_)));refine B1 OP fun e1 h15 OP=>U 1 Z (GO Z (AO.fM h15 Z Z Z Z MR (ay.bn _) Z ?_));cases OP;exact LM 4 Z (En [53,0,5,6,7,8,9,18,40] Z)
     ·refine IT 44 MN OP Z fun OP=>?_;cases OP;exact LM 9 Z (En [53,0,5,6,7,8,9,18,40] Z)
     cases h12;exact LM 1 Z (En [54,0,5,6,7,8,9,18] Z)
    ·refine IF 40 h11 h12 Z fun h12=>?_;cases h12;exact LM 14 Z (En [54,0,5,6,7,8,9,18] Z)
    refine J 0 Z (C hf Z (fun h16 hf=>?_) fun h16 hf=>?_)
    ·refine W 3 rfl (AS rfl (AO.jm (List.map ay.cells [(ay.mk 5 ([]:Str) (pos1:Int))]) rfl L9 rfl rfl rfl (by first|rfl|simp only[List.map,ay.bn]) ?_));refine B1 hf fun xM h17 hf=>AS Z (AO.ng (i:=0) (l:=bM) (m:=[(ay.mk 5 ([]:Str) (pos1:Int))]) h17 Z Z Z Z Z Z Z L9 MR Z Z Z (ay.dV) (ay.cells_one) (by decide) (fun v2 s1 hs1=>?_));cases hs1;exact N 1 Z ⟨xM,v2,jV,iE,(pos1+(dec bL pos1).2),Z,Z,Z,hf⟩
    exact M 0 Z ⟨bM,v1,jV,iE,(pos1+(dec bL pos1).2),Z,Z,Z,hf⟩
   obtain⟨x2,sH,e2,h18,hf⟩:=Er hf;refine W 2 Z (CL Z ((Sy _ _).h h18 (U 4 Z (AS Z (AO.bQ Z ado (fun b11=>(Rw 5 [0] Z Z (C hf Z (fun h19 hf=>?_) fun h19 hf=>?_))))))))
   ·refine W 2 Z (AS Z (AO.kX Z Z ?_));cases hf;exact N 2 Z (Y Z h)
   refine Ww 3 [0] Z Z (C hf Z (fun h20 hf=>?_) fun h20 hf=>?_)
   ·refine B1 hf fun Xg h21 hf=>Wr 3 [0] rfl rfl (CL rfl ((Ng _ _).h h21 (Rr 3 [0] rfl rfl (AS rfl (AO.jm (List.map ay.cells [x2]) rfl L9 rfl rfl rfl (by first|rfl|simp only[List.map,ay.bn]) ?_)))));refine B1 hf fun KW h22 hf=>AS Z (AO.ng (i:=1) (l:=bM) (m:=[x2]) h22 Z Z Z Z Z Z Z L9 MR Z Z Z (ay.dV) (ay.cells_one) (by decide) (fun v3 s2 hs2=>?_));cases hs2;refine LM 3 Z (AR.drop1 ?_);exact N 0 Z ⟨KW,v3,sH,Xg,(pos1+(dec bL pos1).2),Z,Z,Z,hf⟩
   refine Wr 2 [0] rfl rfl (AS rfl (AO.jm (List.map ay.cells [x2]) rfl L9 rfl rfl rfl (by first|rfl|simp only[List.map,ay.bn]) ?_));refine B1 hf fun ajU h23 hf=>AS Z (AO.ng (i:=1) (l:=bM) (m:=[x2]) h23 Z Z Z Z Z Z Z L9 MR Z Z Z (ay.dV) (ay.cells_one) (by decide) (fun v4 s3 hs3=>?_));cases hs3;refine LM 3 Z (AR.drop1 ?_);exact N 0 Z ⟨ajU,v4,sH,iE,(pos1+(dec bL pos1).2),Z,Z,Z,hf⟩
  cases h3
 replace hf:=mO h2 hf;refine W 0 Z (AS Z (AO.ab6 (i:=1) Z Z Z h2 (J 1 Z (AW.cond Z (fun h24=>?_) (fun h24=>?_)))))
 ·cases h24
 cases hf;exact M 4 Z (Y Z h)⟩
instance ac8(c1:UInt8):CT Tryz.prog (vK c1) (fun r=>.ret (.bool r)) 191 [.int .u8 (c1.toNat:Int)]:=by
  unfold vK;exact Z1 ⟨21,[],[]⟩ Z Tryz.func191 Z Z Z Z
instance Rj(c1:UInt8):CT Tryz.prog (mV c1) (fun r=>.ret (.bool r)) 192 [.int .u8 (c1.toNat:Int)]:=by
  unfold mV;exact Z1 ⟨9,[],[]⟩ Z Tryz.func192 Z Z Z Z
instance (s1 :Str) (n_ je):LE (qb s1 n_ je) (fun j p=>qb s1 j p) n_ je [] [] [] [0] (fun v w p=>[(3,iP p)]) (fun v w p s=>s):=⟨Z⟩
instance agt(s1:Str):CT Tryz.prog (wV s1) (fun r=>.ret (.bool r)) 159 [.str s1]:=by
  unfold wV;exact Z1 ⟨36,[],[]⟩ Z Tryz.func159 Z Z Z Z
section
variable [CS]
def ae1:Go.Shelf.Ren:=⟨fun|171=>97|243=>126|246=>155|283=>184|284=>185|285=>186|286=>187|129=>214|317=>213|318=>215|319=>216|320=>217|337=>240|338=>241|n=>n,fun|3=>3|9=>9|2=>2|4=>4|171=>217|0=>0|53=>43|37=>57|5=>5|173=>220|212=>244|51=>107|20=>20|213=>245|46=>108|232=>277|233=>278|n=>n,fun|17=>0|18=>2|19=>3|n=>n⟩
theorem aox:Go.Proofs.LaysM.n171 Tryz.prog ae1:=by repeat' first|(intros;kernel_rfl)|constructor|decide
instance Ri(n1:Int):CT Tryz.prog (strconv_Itoa n1) (fun r=>.ret (.str r)) 97 [iP n1]:=⟨zP rfl,fun {r0} hf {τ Q} h=>by
 unfold strconv_Itoa at hf;split at hf
 case isFalse=>cases hf
 rename_i hg;cases hf;refine AC.none ?_
 exact AC.itoa CS.hD aox hg.1 hg.2 CS.pow h⟩
end
section
variable [CS]
def agd:Go.Shelf.Ren:=⟨fun|172=>199|244=>225|245=>226|247=>244|279=>245|280=>246|281=>247|282=>248|287=>261|316=>262|171=>97|205=>263|321=>267|322=>268|243=>126|246=>155|283=>184|284=>185|285=>186|286=>187|129=>214|317=>213|318=>215|319=>216|320=>217|337=>240|338=>241|n=>n,fun|9=>9|3=>3|75=>84|76=>103|4=>4|5=>5|167=>264|37=>57|0=>0|85=>265|2=>2|168=>267|53=>43|175=>283|46=>108|210=>286|127=>128|145=>294|143=>292|21=>21|171=>217|173=>220|212=>244|51=>107|20=>20|213=>245|232=>277|233=>278|80=>106|n=>n,fun|15=>6|16=>7|17=>0|18=>2|19=>3|n=>n⟩
theorem aoP:Go.Proofs.LaysC.n172 Tryz.prog agd:=by repeat' first|(intros;kernel_rfl)|constructor|decide
instance H8(s1:Str):CT Tryz.prog (strconv_Atoi s1) (fun r=>.ret (.tuple [iP r.1,.err r.2])) 199 [.str s1]:=⟨zP rfl,fun {r} hf {τ Q} h=>by
 obtain⟨r0,r1⟩:=r;unfold strconv_Atoi at hf;split at hf
 case isFalse=>cases hf
 rename_i hg;cases hf;refine AC.none ?_
 exact AC.atoi CS.hD aoP hg Z CS.syn CS.rng h⟩
end
section
variable [CS]
instance acW(s1:Str):CT Tryz.prog (sZ s1) (fun r=>.ret (.bool r)) 190 [.str s1]:=⟨zP rfl,fun {r0} hf {τ Q} h=>by
 unfold sZ at hf;refine BN 40 [.tmp 2] [0] Tryz.func190 Z Z Z Z Z ?_;refine B1 hf fun b1 h2 hf=>W 4 Z (AR.Cm 9 8 17 false [0] b1 Z Z (fun h1=>?_) (fun h1=>?_) ?_)
 ·replace h2:=mO h1 h2;refine Is 8 h1 Z (U 1 Z (GO Z (AO.rZ Z Z Z Z qP Z ?_)));refine BR h2 fun b2 h4 h2=>?_;refine U 2 Z (AR.Cm 4 12 16 true [0,8] b2 Z Z (fun h3=>?_) (fun h3=>?_) ?_)
  ·refine IT 12 h3 h4 Z fun h4=>?_;refine B1 h4 fun x1 h5 h4=>U 1 Z (GO Z (AO.r9 h5 Z qP Z Z ?_));cases h4;exact LM 2 Z (En [16,0,8] Z)
  ·refine IF 12 h3 h4 Z fun h4=>?_;cases h4;exact LM 4 Z (En [16,0,8] Z)
  cases h2;exact LM 1 Z (En [17,0] Z)
 ·refine IT 8 h1 h2 Z fun h2=>?_;cases h2;exact LM 9 Z (En [17,0] Z)
 refine J 0 Z (C hf Z (fun h6 hf=>?_) fun h6 hf=>?_)
 ·cases hf;exact M 1 Z (Y Z h)
 refine V 1 Z (LK1 (fun i1=>[(0,.str s1),(3,iP i1)]) (fun i1=>[]) (fun dG i1=>kD s1 dG i1=some r0) BIG 0 Z Z hf (fun _ hz=>jS hz) ?_);intro dG i1 hf;rw[kD]at hf;refine W 2 Z (AS Z (AO.rZ Z Z Z Z qP Z (J 1 Z (C hf Z (fun h7 hf=>?_) fun h7 hf=>?_))))
 ·refine B1 hf fun x2 h8 hf=>W 2 Z (AS Z (AO.r9 h8 Z qP Z Z ?_));refine B1 hf fun x3 h9 hf=>CL Z ((Rj _).h h9 (J 1 Z (C hf Z (fun h10 hf=>?_) fun h10 hf=>?_)))
  ·cases hf;exact M 1 Z (Y Z h)
  exact M 3 Z ⟨(bq (i1+1)),Z,Z,Z,hf⟩
 obtain⟨n1,QJ,h11,hf⟩:=lI hf;refine W 1 Z (CL Z ((H8 _).h h11 (U 6 Z (AS Z (AO.eqNil Z aiQ Z Z (U 1 Z (An 3 36 39 [] (decide (n1≤9007199254740992)) Z Z Z Z ?_)))))));cases hf;exact N 1 Z (Y Z h)⟩
end
section
variable [CS]
instance agq(t1:ay):CT Tryz.prog (jf t1) (fun r=>.ret (.bool r)) 158 [.agg (wX t1)]:=by
  unfold jf;exact Z1 ⟨23,[],[]⟩ Z Tryz.func158 Z Z Z Z
end
section
variable [CS]
instance Yh(lu:ak):CB Tryz.prog (jg lu) (fun r=>.ret (.agg (wX r.1))) 130 (fun p1=>[pP p1]) (aM lu) (fun r=>(aM r.2)):=by
  unfold jg;exact Z2 ⟨37,[],[]⟩ 0 Z Tryz.func130 Z Z (fun _=>Z) (fun _=>Z)
end
section
variable [CS]
instance ZP(lu:ak)(op1:Str):CB Tryz.prog (uL lu op1) (fun r=>.ret (.bool r.1)) 132 (fun p1=>[pP p1,.str op1]) (aM lu) (fun r=>(aM r.2)):=by
  unfold uL;exact Z2 ⟨17,[],[]⟩ 0 Z Tryz.func132 Z Z (fun _=>Z) (fun _=>Z)
end
section
variable [CS]
instance VN(lu:ak)(op1:Str):CB Tryz.prog (b_ lu op1) (fun r=>.ret (.bool r.1)) 105 (fun p1=>[pP p1,.str op1]) (aM lu) (fun r=>(aM r.2)):=by
  unfold b_;exact Z2 ⟨16,[],[]⟩ 0 Z Tryz.func105 Z Z (fun _=>Z) (fun _=>Z)
end
@[reducible] def FW:fq aA Unit→dO
  | .ok r=>.ret (.tuple [])
  | .bad e=>.panic (.iface 156 (.agg (jk e)))
instance Yk(lu:ak)(e1:Int):CB Tryz.prog (gy lu e1) (fun r=>FW r.1) 134 (fun p1=>[pP p1,iP e1]) (aM lu) (fun r=>(aM r.2)):=by
  unfold gy;exact Z2 ⟨11,[],[]⟩ 0 Z Tryz.func134 Z Z (fun _=>Z) (fun _=>Z)
section
variable [CS]
@[reducible] def FV:fq aA ay→dO
  | .ok r=>.ret (.agg (wX r))
  | .bad e=>.panic (.iface 156 (.agg (jk e)))
instance Yi(lu:ak):CB Tryz.prog (jh lu) (fun r=>FV r.1) 133 (fun p1=>[pP p1]) (aM lu) (fun r=>(aM r.2)):=by
  unfold jh;exact Z2 ⟨24,[],[]⟩ 0 Z Tryz.func133 Z Z (fun _=>Z) (fun _=>Z)
end
instance acV(v1:ah):CT Tryz.prog (qc v1) (fun r=>.ret (.agg (dZ r))) 218 [.agg (aR v1)]:=by
  unfold qc;exact Z1 ⟨5,[],[]⟩ Z Tryz.func218 Z Z Z Z
instance agp(s1:Str):CT Tryz.prog (oN s1) (fun r=>.ret (.bool r)) 160 [.str s1]:=by
  unfold oN;exact Z1 ⟨13,[],[]⟩ Z Tryz.func160 Z Z Z Z
section
variable [CS]
@[reducible] def EA:fq aA Unit→dO
  | .ok r=>.ret (.tuple [])
  | .bad e=>.panic (.iface 156 (.agg (jk e)))
instance VL(lu:ak)(op1:Str):CB Tryz.prog (fA lu op1) (fun r=>EA r.1) 106 (fun p1=>[pP p1,.str op1]) (aM lu) (fun r=>(aM r.2)):=by
  unfold fA;exact Z2 ⟨12,[],[]⟩ 0 Z Tryz.func106 Z Z (fun _=>Z) (fun _=>Z)
end
instance abl(op1:Str):CT Tryz.prog (g_ op1) (fun r=>.ret (iP r)) 131 [.str op1]:=by
  unfold g_;exact Z1 ⟨22,[],[]⟩ Z Tryz.func131 Z Z Z Z
section
variable [CS]
@[reducible] def kR:fq aA au→dO
  | .ok r=>.ret (.agg (dZ r))
  | .bad e=>.panic (.iface 156 (.agg (jk e)))
@[reducible] def kQ:fq aA au→dO
  | .ok r=>.ret (.agg (dZ r))
  | .bad e=>.panic (.iface 156 (.agg (jk e)))
@[reducible] def ow:fq aA au→dO
  | .ok r=>.ret (.agg (dZ r))
  | .bad e=>.panic (.iface 156 (.agg (jk e)))
@[reducible] def oz:fq aA au→dO
  | .ok r=>.ret (.agg (dZ r))
  | .bad e=>.panic (.iface 156 (.agg (jk e)))
@[reducible] def oL:fq aA au→dO
  | .ok r=>.ret (.agg (dZ r))
  | .bad e=>.panic (.iface 156 (.agg (jk e)))
@[reducible] def oK:fq aA au→dO
  | .ok r=>.ret (.agg (dZ r))
  | .bad e=>.panic (.iface 156 (.agg (jk e)))
@[reducible] def oM:fq aA (List au)→dO
  | .ok r=>.ret (.list (au.eU r))
  | .bad e=>.panic (.iface 156 (.agg (jk e)))
@[reducible] def l7:fq aA au→dO
  | .ok r=>.ret (.agg (dZ r))
  | .bad e=>.panic (.iface 156 (.agg (jk e)))
section
variable (aL : ak → Option (fq aA au × ak)) [OT : ∀(eG : ak), CB Tryz.prog (aL eG) (fun r => kR r.1) 88 (fun B_ => [pP B_]) (aM eG) (fun r => (aM r.2))] (aV : ak → Int → Option (fq aA au × ak)) [OQ : ∀(eG : ak) (UD : Int), CB Tryz.prog (aV eG UD) (fun r => kQ r.1) 104 (fun B_ => [pP B_, iP UD]) (aM eG) (fun r => (aM r.2))] (bC : ak → Option (fq aA au × ak)) [TY : ∀(eG : ak), CB Tryz.prog (bC eG) (fun r => ow r.1) 129 (fun B_ => [pP B_]) (aM eG) (fun r => (aM r.2))] (bF : ak → Option (fq aA au × ak)) [T9 : ∀(eG : ak), CB Tryz.prog (bF eG) (fun r => oz r.1) 157 (fun B_ => [pP B_]) (aM eG) (fun r => (aM r.2))] (bY : ak → Option (fq aA au × ak)) [Vq : ∀(eG : ak), CB Tryz.prog (bY eG) (fun r => oL r.1) 189 (fun B_ => [pP B_]) (aM eG) (fun r => (aM r.2))] (bX : ak → Str → Option (fq aA au × ak)) [Vp : ∀(eG : ak) (qB : Str), CB Tryz.prog (bX eG qB) (fun r => oK r.1) 219 (fun B_ => [pP B_, .str qB]) (aM eG) (fun r => (aM r.2))] (bT : ak → Str → Option (fq aA (List au) × ak)) [Vr : ∀(eG : ak) (Ca : Str), CB Tryz.prog (bT eG Ca) (fun r => oM r.1) 220 (fun B_ => [pP B_, .str Ca]) (aM eG) (fun r => (aM r.2))] (bJ : ak → Option (fq aA au × ak)) [RG : ∀(eG : ak), CB Tryz.prog (bJ eG) (fun r => l7 r.1) 221 (fun B_ => [pP B_]) (aM eG) (fun r => (aM r.2))]
instance (n1 :Int) (n_ je vG):LE (iw aV n1 n_ je vG) (fun j p=>iw aV n1 j p.1 p.2) n_ (je,vG) [] [] [] [0,1,4,5] (fun v w p=>[]) (fun v w p s=>yT 2 (aM p.2) (yT 0 (dZ p.1) (s))):=⟨Z⟩
instance (n_ je vG):LE (iH bC bF n_ je vG) (fun j p=>iH bC bF j p.1 p.2) n_ (je,vG) [] [] [] [0,2,5,6] (fun v w p=>[(7,iP p.1)]) (fun v w p s=>yT 1 (aM p.2) (s)):=⟨Z⟩
instance (n_ je vG):LE (fT aL n_ je vG) (fun j p=>fT aL j p.1 p.2) n_ (je,vG) [] [] [] [0,2,3] (fun v w p=>[]) (fun v w p s=>yT 2 (aM p.2) (yT 0 (dZ p.1) (s))):=⟨Z⟩
instance (sH :Str) (n_ je vG):LE (jL aL sH n_ je vG) (fun j p=>jL aL sH j p.1 p.2) n_ (je,vG) [5] [] [(5,10,89)] [0,1] (fun v w p=>[(5,.own v (List.map au.cells p.1))]) (fun v w p s=>yT 1 (aM p.2) (putRow 0 v ((List.map au.cells p.1).length) (s))):=⟨Z⟩
instance (n_ je vG):LE (gV aL n_ je vG) (fun j p=>gV aL j p.1 p.2) n_ (je,vG) [] [(2,[8,9])] [(9999,10,89),(9999,1,9)] [0,2,3] (fun v w p=>[]) (fun v w p s=>yT 4 (aM p.2) (yT 2 [iP p.1.kind,.str p.1.name,iP p.1.value.kind,.bool p.1.value.dR,iP p.1.value.dS,.str p.1.value.bR,.list (ah.eU p.1.value.aN),sP p.1.value.keys,.own v (List.map au.cells p.1.args),.own w (List.map jJ p.1.keys)] (putRow 1 v ((List.map au.cells p.1.args).length) (putRow 0 w ((List.map jJ p.1.keys).length) (s))))):=⟨Z⟩
instance BG(lu:ak):CB Tryz.prog (kU aL aV bC bF bY bX bT bJ lu) (fun r=>kR r.1) 88 (fun p1=>[pP p1]) (aM lu) (fun r=>(aM r.2)):=by
  unfold kU;exact Z2 ⟨23,[],[]⟩ 0 Z Tryz.func88 Z Z (fun _=>Z) (fun _=>Z)
instance BF(lu:ak)(n1:Int):CB Tryz.prog (jF aL aV bC bF bY bX bT bJ lu n1) (fun r=>kQ r.1) 104 (fun p1=>[pP p1,iP n1]) (aM lu) (fun r=>(aM r.2)):=by
  unfold jF;exact Z2 ⟨47,[],[(8,0,6,8,0)]⟩ 0 Z Tryz.func104 Z Z (fun _=>Z) (fun _=>Z)
instance Eu(lu:ak):CB Tryz.prog (oC aL aV bC bF bY bX bT bJ lu) (fun r=>ow r.1) 129 (fun p1=>[pP p1]) (aM lu) (fun r=>(aM r.2)):=by
  unfold oC;exact Z2 ⟨22,[],[]⟩ 0 Z Tryz.func129 Z Z (fun _=>Z) (fun _=>Z)
instance Ew(lu:ak):CB Tryz.prog (oD aL aV bC bF bY bX bT bJ lu) (fun r=>oz r.1) 157 (fun p1=>[pP p1]) (aM lu) (fun r=>(aM r.2)):=by
  unfold oD;exact Z2 ⟨47,[],[]⟩ 0 Z Tryz.func157 Z Z (fun _=>Z) (fun _=>Z)
instance Fp(lu:ak):CB Tryz.prog (oP aL aV bC bF bY bX bT bJ lu) (fun r=>oL r.1) 189 (fun p1=>[pP p1]) (aM lu) (fun r=>(aM r.2)):=by
  unfold oP;exact Z2 ⟨77,[],[]⟩ 0 Z Tryz.func189 Z Z (fun _=>Z) (fun _=>Z)
instance Fj(lu:ak)(s1:Str):CB Tryz.prog (oO aL aV bC bF bY bX bT bJ lu s1) (fun r=>oK r.1) 219 (fun p1=>[pP p1,.str s1]) (aM lu) (fun r=>(aM r.2)):=by
  unfold oO;exact Z2 ⟨26,[],[]⟩ 0 Z Tryz.func219 Z Z (fun _=>Z) (fun _=>Z)
instance Fq(lu:ak)(sH:Str):CB Tryz.prog (oQ aL aV bC bF bY bX bT bJ lu sH) (fun r=>oM r.1) 220 (fun p1=>[pP p1,.str sH]) (aM lu) (fun r=>(aM r.2)):=by
  unfold oQ;exact Z2 ⟨21,[],[]⟩ 0 Z Tryz.func220 Z Z (fun _=>Z) (fun _=>Z)
instance CW(lu:ak):CB Tryz.prog (l8 aL aV bC bF bY bX bT bJ lu) (fun r=>l7 r.1) 221 (fun p1=>[pP p1]) (aM lu) (fun r=>(aM r.2)):=by
  unfold l8;exact Z2 ⟨50,[],[(10,0,3,5,0)]⟩ 0 Z Tryz.func221 Z Z (fun _=>Z) (fun _=>Z)
end
theorem fC:∀k:Nat,(∀(eG:ak),CB Tryz.prog (aY k eG) (fun r=>kR r.1) 88 (fun B_=>[pP B_]) (aM eG) (fun r=>(aM r.2)))∧(∀(eG:ak) (UD:Int),CB Tryz.prog (bB k eG UD) (fun r=>kQ r.1) 104 (fun B_=>[pP B_,iP UD]) (aM eG) (fun r=>(aM r.2)))∧(∀(eG:ak),CB Tryz.prog (dx k eG) (fun r=>ow r.1) 129 (fun B_=>[pP B_]) (aM eG) (fun r=>(aM r.2)))∧(∀(eG:ak),CB Tryz.prog (dQ k eG) (fun r=>oz r.1) 157 (fun B_=>[pP B_]) (aM eG) (fun r=>(aM r.2)))∧(∀(eG:ak),CB Tryz.prog (dY k eG) (fun r=>oL r.1) 189 (fun B_=>[pP B_]) (aM eG) (fun r=>(aM r.2)))∧(∀(eG:ak) (qB:Str),CB Tryz.prog (eO k eG qB) (fun r=>oK r.1) 219 (fun B_=>[pP B_,.str qB]) (aM eG) (fun r=>(aM r.2)))∧(∀(eG:ak) (Ca:Str),CB Tryz.prog (dK k eG Ca) (fun r=>oM r.1) 220 (fun B_=>[pP B_,.str Ca]) (aM eG) (fun r=>(aM r.2)))∧(∀(eG:ak),CB Tryz.prog (dD k eG) (fun r=>l7 r.1) 221 (fun B_=>[pP B_]) (aM eG) (fun r=>(aM r.2)))
  | 0=>⟨fun _=>CB.none Z,fun _ _=>CB.none Z,fun _=>CB.none Z,fun _=>CB.none Z,fun _=>CB.none Z,fun _ _=>CB.none Z,fun _ _=>CB.none Z,fun _=>CB.none Z⟩
  | k+1=>by
    obtain⟨i0,i1,i2,i3,i4,i5,i6,i7⟩:=fC k;exact⟨fun eG=>BG _ _ _ _ _ _ _ _ eG,fun eG UD=>BF _ _ _ _ _ _ _ _ eG UD,fun eG=>Eu _ _ _ _ _ _ _ _ eG,fun eG=>Ew _ _ _ _ _ _ _ _ eG,fun eG=>Fp _ _ _ _ _ _ _ _ eG,fun eG qB=>Fj _ _ _ _ _ _ _ _ eG qB,fun eG Ca=>Fq _ _ _ _ _ _ _ _ eG Ca,fun eG=>CW _ _ _ _ _ _ _ _ eG⟩
instance u_(eG:ak):CB Tryz.prog (p9 eG) (fun r=>kR r.1) 88 (fun B_=>[pP B_]) (aM eG) (fun r=>(aM r.2)):=(fC BIG).1 eG
instance RH(eG:ak)(UD:Int):CB Tryz.prog (D7 eG UD) (fun r=>kQ r.1) 104 (fun B_=>[pP B_,iP UD]) (aM eG) (fun r=>(aM r.2)):=(fC BIG).2.1 eG UD
instance VX(eG:ak):CB Tryz.prog (IY eG) (fun r=>ow r.1) 129 (fun B_=>[pP B_]) (aM eG) (fun r=>(aM r.2)):=(fC BIG).2.2.1 eG
instance VY(eG:ak):CB Tryz.prog (IZ eG) (fun r=>oz r.1) 157 (fun B_=>[pP B_]) (aM eG) (fun r=>(aM r.2)):=(fC BIG).2.2.2.1 eG
instance Yl(eG:ak):CB Tryz.prog (JN eG) (fun r=>oL r.1) 189 (fun B_=>[pP B_]) (aM eG) (fun r=>(aM r.2)):=(fC BIG).2.2.2.2.1 eG
instance Yj(eG:ak)(qB:Str):CB Tryz.prog (JM eG qB) (fun r=>oK r.1) 219 (fun B_=>[pP B_,.str qB]) (aM eG) (fun r=>(aM r.2)):=(fC BIG).2.2.2.2.2.1 eG qB
instance Ym(eG:ak)(Ca:Str):CB Tryz.prog (JO eG Ca) (fun r=>oM r.1) 220 (fun B_=>[pP B_,.str Ca]) (aM eG) (fun r=>(aM r.2)):=(fC BIG).2.2.2.2.2.2.1 eG Ca
instance Us(eG:ak):CB Tryz.prog (FN eG) (fun r=>l7 r.1) 221 (fun B_=>[pP B_]) (aM eG) (fun r=>(aM r.2)):=(fC BIG).2.2.2.2.2.2.2 eG
end
section
variable [CS]
instance agr(lq:List ay):CT Tryz.prog (Dc lq) (fun r=>.ret (.tuple [.agg (dZ r.1),iP r.2.1,iP r.2.2])) 69 [.list (List.map ay.cells lq)]:=⟨zP rfl,fun {r} hf {τ Q} h=>by
 obtain⟨r0,r1,r2⟩:=r;unfold Dc at hf;refine AC.none (AC.NN 17 [.cell 2 89,.cell 3 3,.cell 4 30] [0] [0,1,2] Tryz.func69 Z Z Z Z Z Tryz.func87 Z Z Z Z Z Z Z alB (AW.sr (AR.step Z Z Z (AO.bQ Z Z8 (fun b2=>?_)))));refine AR.step Z Z Z (AO.bQ Z ak8 (fun b3=>(AR.step Z Z Z (AO.bQ Z adi (fun b4=>(AR.nil [0,2,3,4] Z (AW.sr ?_)))))));refine cs 1 Z (AR.step Z Z Z (AO.build Z ajm ag5 Z (AR.step Z Z Z (AO.ahZ Z Z (fun b8=>(cs 1 Z ?_))))));refine AR.nil [2,3,4,5] Z (AW.sr (cs 1 Z (AR.defer (vs:=[.pointer (some ⟨b2,0,none⟩),.pointer (some ⟨b3,0,none⟩),.pointer (some ⟨b4,0,none⟩)]) Z Z Z Z Z Z ?_)));refine AR.nil [2,3,4,5] Z (AW.sr (cs 1 Z ?_));rcases Q_ hf with⟨f1,s1,h1,hf⟩|⟨e1,s1,h1,hf⟩
 ·refine AR.step Z Z Z (AO.call Z _ Z Z aiz (AC.one 0 Z ((u_ _).h h1 _ ⟨_,Z,?_⟩)));cases hf;refine⟨[.pointer (some ⟨b2,0,none⟩),.pointer (some ⟨b3,0,none⟩),.pointer (some ⟨b4,0,none⟩)],_,Z,Z,Z,(AR.step Z Z Z (AO.aaq Z Z agY (cs 3 Z (AR.step Z Z Z (AO.bQ Z adn (fun b5=>?_))))))⟩;refine AR.bO Z Z (AO.eH (i:=0) Z Z Z adT Z Z Z Z Z (cs 1 Z (AR.nil [0,1,2,3,4] Z (AW.sr ?_))));refine cs 1 Z (AR.nil [0,1,2,3,10] Z (AW.cond Z (fun _=>?_) (fun hh=>by cases hh)));refine AW.afc 1 5 7 [_] [_,_,_,_] mixed (by kernel_rfl) (by kernel_rfl) (by kernel_rfl) Z Z Z (List.Perm.refl _) ?_;refine Ev.cons Z Z Z (AO.build Z Z8 ajA Z zg) (Ev.nil ?_);show Ev _ _ _ _ _ _ _;refine Ev.cs fK 1 Z (Ev.cons Z Z Z (AO.dP (i:=0) Z Z Z Ky Z Z zg) (Ev.cs fK 1 Z (Ev.cons Z Z Z (AO.dP (i:=0) Z Z Z CY Z Z zg) ?_)));refine Ev.nil (TF.bO Z Z (AO.eH (i:=3) Z Z Z Nr Z Z Z Z Z (TF.bO Z Z (AO.eH (i:=2) Z Z Z Ky Z Z Z Z Z (TF.nil ?_)))));show AR _ _ _ _ _ _ _ _;refine AR.bO Z Z (AO.eH (i:=2) Z Z Z CY Z Z Z Z Z (AR.nil [] Z ?_));exact⟨rfl,_,⟨_,_,rfl,⟨_,_,4,_,_,rfl,rfl,Nr,rfl⟩,⟨_,_,rfl,⟨_,_,3,_,_,rfl,rfl,Ky,rfl⟩,⟨_,_,rfl,⟨_,_,2,_,_,rfl,rfl,CY,rfl⟩,rfl⟩⟩⟩,[],apP _,h⟩
 refine AR.step Z Z Z (AO.call Z _ Z Z aiz (AC.one 0 Z ((u_ _).h h1 _ ⟨_,Z,?_⟩)));cases hf;refine AR.bO Z Z (AO.eH (i:=3) Z Z Z Nr Z Z Z Z Z (AR.nil [2,3,4,5] Z (AW.seq (AW.ai0 1 5 6 3 mixed (by kernel_rfl) (by kernel_rfl) (by kernel_rfl) Z Z Z Z ?_))));refine Ev.cons Z Z Z (AO.dP (i:=3) Z Z Z Nr Z Z zg) (Ev.nil ?_);show Ev _ _ _ _ _ _ _;refine Ev.cs fK 3 Z (Ev.cons Z Z Z (AO.dP (i:=0) Z Z Z Ky Z Z zg) (Ev.nil (TF.bO Z Z (AO.eH (i:=0) Z Z Z Nr Z Z Z Z Z ?_))));refine TF.nil ?_;show AR _ _ _ _ _ _ _ _;refine AR.bO Z Z (AO.eH (i:=2) Z Z Z Ky Z Z Z Z Z (AR.bO Z Z (AO.eH (i:=1) Z Z Z CY Z Z Z Z Z (AR.nil [2,3,4] Z (AW.ret ?_)))));refine⟨[.pointer (some ⟨b2,0,none⟩),.pointer (some ⟨b3,0,none⟩),.pointer (some ⟨b4,0,none⟩)],_,Z,Z,Z,(AR.step Z Z Z (AO.WE (p:=.agg [iP 0,iP 0]) Z Z ag0 (fun _ _=>by simp only[cu];exact⟨[.int .i64 0,.int .i64 0],Z,aX.cons (by simp[cu]) (aX.cons (by simp[cu]) aX.nil)⟩) ?_))⟩
 refine cs 3 Z (AR.step Z Z Z (AO.bQ Z adn (fun b5=>(AR.bO Z Z (AO.eH (i:=0) Z Z Z adT Z Z Z Z Z (cs 1 Z ?_))))));refine AR.nil [4] Z (AW.sr (cs 1 Z (AR.nil [10] Z ?_)));refine AW.cond Z (fun hh=>by cases hh) (fun _=>?_);refine AW.skip ?_;exact⟨rfl,_,⟨_,_,rfl,⟨_,_,4,_,_,rfl,rfl,Nr,rfl⟩,⟨_,_,rfl,⟨_,_,3,_,_,rfl,rfl,Ky,rfl⟩,⟨_,_,rfl,⟨_,_,2,_,_,rfl,rfl,CY,rfl⟩,rfl⟩⟩⟩,[],apP _,h⟩⟩
end
section
variable (jU : au → Option Int) [acu : ∀(oG : au), CT Tryz.prog (jU oG) (fun r => .ret (iP r)) 73 [.agg (dZ oG)]]
instance (e1 :au) (n_ je vG):LE (qU jU e1 n_ je vG) (fun j p=>qU jU e1 j p.1 p.2) n_ (je,vG) [] [] [] [7,8] (fun v w p=>[(3,iP p.1),(9,iP p.2)]) (fun v w p s=>s):=⟨Z⟩
instance Nf(e1:au):CT Tryz.prog (xL jU e1) (fun r=>.ret (iP r)) 73 [.agg (dZ e1)]:=by
  unfold xL;exact Z1 ⟨19,[],[]⟩ Z Tryz.func73 Z Z Z Z
end
theorem GJ:∀k:Nat,(∀(oG:au),CT Tryz.prog (nV k oG) (fun r=>.ret (iP r)) 73 [.agg (dZ oG)])
  | 0=>fun _=>CT.none Z
  | k+1=>by
    obtain (i0):=GJ k;exact fun oG=>Nf _ oG
instance afM(oG:au):CT Tryz.prog (Bf oG) (fun r=>.ret (iP r)) 73 [.agg (dZ oG)]:=(GJ BIG) oG
instance agn(v1:ah):CT Tryz.prog (Db v1) (fun r=>.ret (.bool r)) 107 [.agg (aR v1)]:=by
  unfold Db;exact Z1 ⟨33,[],[]⟩ Z Tryz.func107 Z Z Z Z
instance afH(s1:Str):CT Tryz.prog (mU s1) (fun r=>.ret (.bool r)) 135 [.str s1]:=by
  unfold mU;exact Z1 ⟨10,[],[]⟩ Z Tryz.func135 Z Z Z Z
instance afJ(e1:au):CT Tryz.prog (xH e1) (fun r=>.ret (.bool r)) 108 [.agg (dZ e1)]:=by
  unfold xH;exact Z1 ⟨31,[],[]⟩ Z Tryz.func108 Z Z Z Z
instance afL(e1:au):CT Tryz.prog (xJ e1) (fun r=>.ret (.bool r)) 109 [.agg (dZ e1)]:=by
  unfold xJ;exact Z1 ⟨32,[],[]⟩ Z Tryz.func109 Z Z Z Z
instance (s1 :List Str) (f1:Str→Option Bool) (n_ je):LE (fU s1 f1 n_ je) (fun j p=>fU s1 f1 j p) n_ je [] [] [] [0,1,7] (fun v w p=>[(8,iP p)]) (fun v w p s=>s):=⟨Z⟩
instance Kg(s1:List Str)(f1:Str→Option Bool){Yt:FuncId}{Zw:List PV}[f1I:CF1 Tryz.prog f1 (fun a0=>.str a0) (fun b0=>.ret (.bool b0)) Yt Zw]:CT Tryz.prog (iR s1 f1) (fun r=>.ret (iP r)) 161 [sP s1,.fn Yt Zw]:=by
  unfold iR;exact Z1 ⟨19,[],[]⟩ Z Tryz.func161 Z Z Z Z
instance IW(s1:List Str)(f1:Str→Option Bool){Yt:FuncId}{Zw:List PV}[f1I:CF1 Tryz.prog f1 (fun a0=>.str a0) (fun b0=>.ret (.bool b0)) Yt Zw]:CT Tryz.prog (fV s1 f1) (fun r=>.ret (.bool r)) 136 [sP s1,.fn Yt Zw]:=by
  unfold fV;exact Z1 ⟨9,[],[]⟩ Z Tryz.func136 Z Z Z Z
instance Nc(CR:Str):CT Tryz.prog (jO CR) (fun r=>.ret (.bool r)) 137 [.str CR]:=by
  unfold jO;exact Z1 ⟨11,[],[]⟩ Z Tryz.func137 Z Z Z Z
instance : CF1 Tryz.prog jO (fun CR=>.str CR) (fun r=>.ret (.bool r)) 137 []:=⟨fun x0=>Nc x0⟩
instance afK(e1:au):CT Tryz.prog (xI e1) (fun r=>.ret (.bool r)) 110 [.agg (dZ e1)]:=by
  unfold xI;exact Z1 ⟨23,[],[]⟩ Z Tryz.func110 Z Z Z Z
theorem Uz{β:Type}(l:Nat)(T:β→List aS)(go:β→ah→Int→Option (Bool × β))
  (goH:∀s1 v1 bN b s2,go s1 v1 bN=some (b,s2)→∀ {Q:dO→List aS→Prop},Q (.ret (.bool b)) (T s2)→PC 91 [.agg (aR v1),iP bN,.val (.func (.yield l) #[] #[])] (T s1) Q)
  (y:β→Int→ah→Option (Bool × β)) (hy:∀s1 bN v1 b s2,y s1 bN v1=some (b,s2)→AY Tryz.prog l [iP bN,.agg (aR v1)] (T s1) (fun out σ'=>out=.ret (.bool b)∧σ'=T s2))
  (s1:β) (v1:ah) (bN:Int) {b:Bool} {s2:β} (hf:uy go y s1 v1 bN=some (b,s2)) {Q:dO→List aS→Prop} (h:Q (.ret (.bool b)) (T s2)):
  PC 91 [.agg (aR v1),iP bN,.val (.func (.yield l) #[] #[])] (T s1) Q:=by
 unfold uy at hf;refine AC.kE 28 [.tmp 6] [0,1,2] Tryz.func91 Z Z Z Z Z (AW.sr (AR.step Z Z Z (AO.IL Z Z Z (cs 1 Z ?_))));refine AR.nil [1,2,3] Z (AW.seq (AW.seq (AW.aaz ?_)));refine Ez.step Z Z Z Z (AO.calc' Z (Ez.step Z Z Z Z (AO.calc' Z (Ez.step Z Z Z Z (AO.GQ Z Z vI Z ?_)))));obtain⟨b1,s3,h1,hf⟩:=lI hf;refine Ez.yield Z Z Z Z Z _ Z Z (hy _ _ _ _ _ h1) (Ez.of Z (cs 1 Z (AR.nil [1,2,3,13] Z ?_)));refine AW.cond Z (fun h2=>?_) (fun h2=>?_)
 ·replace hf:=nC h2 hf;refine AW.sr (cs 1 Z (AR.nil [6] Z (AW.ret ?_)));cases hf;exact⟨rfl,_,⟨_,_,rfl,rfl,rfl⟩,_,List.Sublist.refl _,h⟩
 replace hf:=mO h2 hf;refine AW.skip (AW.seq (AW.sr (cs 2 Z ?_)));refine AR.step Z Z Z (AO.gB (l:=v1.aN) Z Z Z Z Hl Z ((ah.dI _)) (cs 1 Z (AR.nil [1,2,15,16,17] Z (AW.block ?_))));refine AW.aeF (fun(_:β) i1=>[(1,iP bN),(2,.val (.func (.yield l) #[] #[])),(15,.list (ah.eU v1.aN)),(16,iP (v1.aN.length:Int)),(17,iP i1)]) (fun s1 _=>T s1) (fun dG s1 i1=>kg go v1 bN dG s1 i1=some (b,s2)) BIG s3 0 Z Z hf (fun _ _ hz=>jS hz) ?_;intro dG s4 i1 hf;rw[kg]at hf;refine AW.sr (cs 1 Z (AR.nil [1,2,15,16,17,18] Z (AW.seq ?_)));refine AW.cond Z (fun h1=>?_) (fun h1=>?_)
 ·replace hf:=nC h1 hf;refine AW.skip (AW.seq (AW.block (AW.sr ?_)));refine B1 hf fun x1 h3 hf=>AR.step Z Z Z (AO.fM h3 Z Z ((ah.dI _)) Z Hl ((ah.bn _)) Z (cs 1 Z (AR.step Z Z Z (AO.bQ Z rV (fun b8=>(AR.bO Z Z (AO.eH (i:=0) Z Z Z vI Z Z Z Z Z ?_)))))));refine AR.nil [1,2,8,15,16,17] Z (AW.sr (AR.step Z Z Z (AO.dP (i:=0) Z Z Z vI Z Z (cs 3 Z ?_))));obtain⟨b2,s5,h4,hf⟩:=lI hf;refine AR.drop1 (AR.step Z Z Z (AO.call Z _ Z Z alA (goH _ _ _ _ _ h4 (cs 1 Z (AR.nil [1,2,15,16,17,26] Z ?_)))));refine AW.cond Z (fun h5=>?_) (fun h5=>?_)
  ·replace hf:=nC h5 hf;refine AW.sr (cs 1 Z (AR.nil [6] Z (AW.ret ?_)));cases hf;exact⟨rfl,_,⟨_,_,rfl,rfl,rfl⟩,_,List.Sublist.refl _,h⟩
  replace hf:=mO h5 hf;refine AW.skip (AW.region (cs 2 Z (AR.nil [1,2,15,16,17] Z ?_)));exact⟨s5,(bq (i1+1)),Z,Z,Z,hf⟩
 replace hf:=mO h1 hf;refine AW.exit (AW.sr (cs 1 Z (AR.nil [6] Z ?_)));refine AW.ret ?_;cases hf;exact⟨rfl,_,⟨_,_,rfl,rfl,rfl⟩,_,List.Sublist.refl _,h⟩
theorem K3{β:Type}(l:Nat)(T:β→List aS)(y:β→Int→ah→Option (Bool × β))(hy:∀s1 bN v1 b s2,y s1 bN v1=some (b,s2)→AY Tryz.prog l [iP bN,.agg (aR v1)] (T s1) (fun out σ'=>out=.ret (.bool b)∧σ'=T s2)):
  ∀(k:Nat) (s1:β) (v1:ah) (bN:Int) (b:Bool) (s2:β),fQ y k s1 v1 bN=some (b,s2)→∀ {Q:dO→List aS→Prop},Q (.ret (.bool b)) (T s2)→PC 91 [.agg (aR v1),iP bN,.val (.func (.yield l) #[] #[])] (T s1) Q
 | 0,_,_,_,_,_,hz=>by cases hz
 | k+1,s1,v1,bN,b,s2,hz=>fun h=>Uz l T (fQ y k) (fun s1 v1 bN b s2 hz=>K3 l T y hy k s1 v1 bN b s2 hz) y hy s1 v1 bN hz h
theorem FE{β:Type}(l:Nat)(T:β→List aS)(y:β→Int→ah→Option (Bool × β))(hy:∀s1 bN v1 b s2,y s1 bN v1=some (b,s2)→AY Tryz.prog l [iP bN,.agg (aR v1)] (T s1) (fun out σ'=>out=.ret (.bool b)∧σ'=T s2))
    (s1:β) (v1:ah) (bN:Int) {b:Bool} {s2:β} (hf:BX y s1 v1 bN=some (b,s2)) {Q:dO→List aS→Prop} (h:Q (.ret (.tuple [])) (T s2)):
    PC 90 [.val (.func (.yield l) #[] #[]),.ref (aR v1),.ref [iP bN]] (T s1) Q:=by
 refine BD 8 [] [0,1,2] Tryz.func90 Z Z Z Z Z (W 3 Z (CL Z (K3 l T y hy BIG _ _ _ _ _ hf ?_)));exact N 0 rfl ⟨rfl,_,rfl,_,List.Sublist.refl _,h⟩
theorem Jo(v1:ah)(bN:Int)(h:Q (.ret (.fn 90 [.ref (aR v1),.ref [iP bN]])) τ):PC 75 [.agg (aR v1),iP bN] τ Q:=by
 refine BN 6 [.tmp 4] [0,1] Tryz.func75 Z Z Z Z Z ?_;exact M 5 Z (Y Z h)
instance afE(v1:ah):CT Tryz.prog (AB v1) (fun r=>.ret (.bool r)) 92 [.agg (aR v1)]:=by
  unfold AB;exact Z1 ⟨58,[],[]⟩ Z Tryz.func92 Z Z Z Z
instance agx(c1:UInt8):CT Tryz.prog (Dk c1) (fun r=>.ret (.bool r)) 162 [.int .u8 (c1.toNat:Int)]:=by
  unfold Dk;exact Z1 ⟨9,[],[]⟩ Z Tryz.func162 Z Z Z Z
instance (s1 :Str) (n_ je):LE (xY s1 n_ je) (fun j p=>xY s1 j p) n_ je [] [] [] [0] (fun v w p=>[(3,iP p)]) (fun v w p s=>s):=⟨Z⟩
instance aje(s1:Str):CT Tryz.prog (BL s1) (fun r=>.ret (iP r)) 138 [.str s1]:=by
  unfold BL;exact Z1 ⟨17,[],[]⟩ Z Tryz.func138 Z Z Z Z
instance (c1 :UInt8) (n_ je):LE (iq c1 n_ je) (fun j p=>iq c1 j p) n_ je [] [] [] [1] (fun v w p=>[(0,.str p)]) (fun v w p s=>s):=⟨Z⟩
instance VK(s1:Str)(c1:UInt8):CT Tryz.prog (strings_trimLeftByte s1 c1) (fun r=>.ret (.str r)) 193 [.str s1,.int .u8 (c1.toNat:Int)]:=by
  unfold strings_trimLeftByte;exact Z1 ⟨17,[],[]⟩ Z Tryz.func193 Z Z Z Z
instance ZN(s1:Str)(Fa:Str):CT Tryz.prog (nL s1 Fa) (fun r=>.ret (.str r)) 163 [.str s1,.str Fa]:=by
  unfold nL;exact Z1 ⟨37,[],[]⟩ Z Tryz.func163 Z Z Z Z
instance ade(x1:Int):CT Tryz.prog (cmp_isNaN_int x1) (fun r=>.ret (.bool r)) 167 [iP x1]:=by
  unfold cmp_isNaN_int;exact Z1 ⟨6,[],[]⟩ Z Tryz.func167 Z Z Z Z
instance yF(x1:Int)(y1:Int):CT Tryz.prog (cmp_Compare_int x1 y1) (fun r=>.ret (iP r)) 141 [iP x1,iP y1]:=by
  unfold cmp_Compare_int;exact Z1 ⟨20,[],[]⟩ Z Tryz.func141 Z Z Z Z
instance ZW(x1:Str):CT Tryz.prog (cmp_isNaN_string x1) (fun r=>.ret (.bool r)) 197 [.str x1]:=by
  unfold cmp_isNaN_string;exact Z1 ⟨6,[],[]⟩ Z Tryz.func197 Z Z Z Z
instance Ia(x1:Str)(y1:Str):CT Tryz.prog (lH x1 y1) (fun r=>.ret (iP r)) 165 [.str x1,.str y1]:=by
  unfold lH;exact Z1 ⟨20,[],[]⟩ Z Tryz.func165 Z Z Z Z
instance (F5 :List Int) (n_ je):LE (vS F5 n_ je) (fun j p=>vS F5 j p) n_ je [] [] [] [3,6,7] (fun v w p=>[(8,iP p)]) (fun v w p s=>s):=⟨Z⟩
instance aip(F5:List Int):CT Tryz.prog (CG F5) (fun r=>.ret (iP r)) 164 [.list (List.map Zm F5)]:=by
  unfold CG;exact Z1 ⟨18,[],[]⟩ Z Tryz.func164 Z Z Z Z
instance ada(a1:Str)(b1:Str):CT Tryz.prog (vO a1 b1) (fun r=>.ret (iP r)) 139 [.str a1,.str b1]:=by
  unfold vO;exact Z1 ⟨26,[],[]⟩ Z Tryz.func139 Z Z Z Z
instance ac0(x1:UInt8):CT Tryz.prog (ug x1) (fun r=>.ret (.bool r)) 166 [.int .u8 (x1.toNat:Int)]:=by
  unfold ug;exact Z1 ⟨6,[],[]⟩ Z Tryz.func166 Z Z Z Z
instance ZX(x1:UInt8)(y1:UInt8):CT Tryz.prog (qy x1 y1) (fun r=>.ret (iP r)) 140 [.int .u8 (x1.toNat:Int),.int .u8 (y1.toNat:Int)]:=by
  unfold qy;exact Z1 ⟨20,[],[]⟩ Z Tryz.func140 Z Z Z Z
instance  (n_ je vG):LE (jA n_ je vG) (fun j p=>jA j p.1 p.2) n_ (je,vG) [] [] [] [] (fun v w p=>[(0,.str p.1),(1,.str p.2)]) (fun v w p s=>s):=⟨Z⟩
instance Ap(a1:Str)(b1:Str):CT Tryz.prog (iC a1 b1) (fun r=>.ret (iP r)) 112 [.str a1,.str b1]:=by
  unfold iC;exact Z1 ⟨59,[],[]⟩ Z Tryz.func112 Z Z Z Z
instance : CF2 Tryz.prog iC (fun a1=>.str a1) (fun b1=>.str b1) (fun r=>.ret (iP r)) 112 []:=⟨fun x0 x1=>Ap x0 x1⟩
instance (v1 :ah) (n_ je):LE (pX v1 n_ je) (fun j p=>pX v1 j p) n_ je [] [] [] [1,13,14] (fun v w p=>[(15,iP p)]) (fun v w p s=>s):=⟨Z⟩
instance agl(v1:ah):CT Tryz.prog (zM v1) (fun r=>.ret (.bool r)) 93 [.agg (aR v1)]:=by
  unfold zM;exact Z1 ⟨44,[],[]⟩ Z Tryz.func93 Z Z Z Z
instance VJ(v1:ah)(bN:Int):CT Tryz.prog (BZ v1 bN) (fun r=>.ret (iP r)) 76 [.agg (aR v1),iP bN]:=by
  unfold BZ;exact Z1 ⟨78,[],[]⟩ Z Tryz.func76 Z Z Z Z
instance DL(v1:ah):CT Tryz.prog (kL v1) (fun r=>.ret (iP r)) 58 [.agg (aR v1)]:=⟨zP rfl,fun {r0} hf {τ Q} h=>by
 unfold kL at hf;refine AC.none (AC.Jg 16 [.cell 2 30] [0] Tryz.func58 Z Z Z Z Z ?_);obtain⟨b1,s1,h1,hf⟩:=lI hf;cases hf;refine AW.sr (AR.step Z Z Z (AO.IL Z Z Z (AR.step Z Z Z (AO.bQ Z adi (fun b2=>(AR.nil [1,2] Z ?_))))));refine AW.seq (AW.sr (cs 1 Z (AR.step Z Z Z (AO.call Z _ Z Z aiA (Jo _ _ ?_)))));refine AR.nil [2,7] Z (AW.block (AW.rangeFunc (β:=Option Int) (X:=Int × ah) Z aiy (fun x=>[iP x.1,.agg (aR x.2)]) (fun _=>Z) (by decide) (fun s x=>lK s x.1 x.2) (fun s=>[.box b2 [iP (s.getD 0)]]) (fun s=>s.map fun _=>.ret) (s0:=none) (s1:=s1) Z Z ?_ ?_ ?_))
 ·intro l T' hy;refine FE l T' lK (fun s1 bN v1 b s2 hh=>hy s1 (bN,v1) b s2 hh) none v1 1 h1 ⟨⟨_,Z⟩,Z⟩
 ·rintro l s ⟨bN,x1⟩ b s2 hh;unfold lK at hh;cases s with
  | some e=>cases hh
  | none=>
  refine⟨Z,?_⟩;refine B1 hh fun e1 h2 hh=>?_;refine vF.seq (vF.region Z (cs 1 Z (AR.nil [2,3,9] Z ?_)));refine vF.region Z (AR.step Z Z Z (AO.bQ Z rV (fun b4=>(AR.bO Z Z (AO.eH (i:=0) Z Z Z vI Z Z Z Z Z (AR.nil [2,3,4] Z ?_))))));refine⟨Z,(vF.block (vF.seq (vF.region Z ?_)))⟩;refine AR.step Z Z Z (AO.dP (i:=0) Z Z Z vI Z Z (cs 1 Z (AR.step Z Z Z (AO.call Z _ Z Z alC ((VJ _ _).h h2 (cs 1 Z ?_))))));refine AR.nil [2,5] Z (vF.seq (vF.region Z (cs 2 Z ?_)));refine AR.nil [2,5,14] Z (vF.cond Z (fun h3=>?_) (fun h3=>?_))
  ·replace hh:=nC h3 hh;cases hh;refine vF.seq (vF.region Z (cs 1 Z (AR.bO Z Z (AO.eH (i:=1) Z Z Z CY Z Z Z Z Z ?_))));refine AR.nil [] Z (vF.ret ?_);exact⟨Z,.cons _ (List.Sublist.refl _),Z,Z⟩
  ·replace hh:=mO h3 hh;cases hh;refine vF.skip ?_;exact⟨Z,.cons _ (List.Sublist.refl _),Z,Z⟩
 ·intro D;cases s1 with
  | some e=>exact⟨D,_,Z,Z,_,⟨_,_,Z,⟨_,_,0,_,_,Z,Z,CY,Z⟩,Z⟩,[],apP _,h⟩
  | none=>
   show AW _ _ _ _ _ _ _;refine AW.sr (AR.bO Z Z (AO.eH (i:=0) Z Z Z CY Z Z Z Z Z (AR.nil [2] Z (AW.ret ?_))))
   exact⟨D,[_],Z,Z,_,⟨_,_,Z,⟨_,_,0,_,_,Z,Z,CY,Z⟩,Z⟩,[],apP _,h⟩⟩
instance abm(l1:List Str):CT Tryz.prog (qR l1) (fun r=>.ret (.bool r)) 111 [sP l1]:=⟨zP rfl,fun {r0} hf {τ Q} h=>by
 unfold qR at hf;refine BN 22 [.tmp 2] [0] Tryz.func111 Z Z Z Z Z (W 1 Z (AS Z (AO.Xo Z (fun m6=>(U 2 Z (AS Z (AO.gB (l:=l1) Z Z Z Z NY Z Z (J 1 Z (LK2 (fun x1 y1=>[(3,.val (.map (some m6))),(7,sP l1),(8,iP (l1.length:Int)),(9,iP x1)]) (fun x1 y1=>[.obj m6 (wD y1)]) (fun dG x1 y1=>nU l1 dG x1 y1=some r0) BIG 0 [] Z Z hf (fun _ _ hz=>jS hz) ?_)))))))));intro dG x1 y1 hf;rw[nU]at hf;refine V 1 Z (C hf Z (fun h1 hf=>?_) fun h1 hf=>?_)
 ·refine B1 hf fun s1 h2 hf=>W 0 Z (AS Z (AO.fM h2 Z Z Z Z NY Z Z (U 4 Z (AS Z (AO.OI (i:=0) (l:=y1) Z Z Z Z MB qP agE (U 1 Z (AR.bO Z Z (AO.Qi (i:=0) (l:=y1) Z Z Z Z Z MB qP (U 2 Z (AS Z (AO.OI (i:=0) (l:=(vL y1 s1 (bq ((rR y1 s1)+1)))) Z Z Z Z MB qP agE ?_)))))))))));refine J 1 Z (C hf Z (fun h3 hf=>?_) fun h3 hf=>?_)
  ·cases hf;exact M 1 Z (Y Z h)
  exact M 2 Z ⟨(bq (x1+1)),(vL y1 s1 (bq ((rR y1 s1)+1))),Z,Z,Z,hf⟩
 cases hf;exact M 1 Z (Y Z h)⟩
instance ags(e1:au)(bN:Int):CT Tryz.prog (zW e1 bN) (fun r=>.ret (iP r)) 89 [.agg (dZ e1),iP bN]:=by
  unfold zW;exact Z1 ⟨65,[],[]⟩ Z Tryz.func89 Z Z Z Z
section
variable (jT : au → Int → Option Int) [acs : ∀(oG : au) (jo : Int), CT Tryz.prog (jT oG jo) (fun r => .ret (iP r)) 74 [.agg (dZ oG), iP jo]]
instance (e1 :au) (bN:Int) (n_ je):LE (qQ jT e1 bN n_ je) (fun j p=>qQ jT e1 bN j p) n_ je [] [] [] [1,16,17] (fun v w p=>[(18,iP p)]) (fun v w p s=>s):=⟨Z⟩
instance Nb(e1:au)(bN:Int):CT Tryz.prog (xG jT e1 bN) (fun r=>.ret (iP r)) 74 [.agg (dZ e1),iP bN]:=by
  unfold xG;exact Z1 ⟨30,[],[]⟩ Z Tryz.func74 Z Z Z Z
end
theorem GI:∀k:Nat,(∀(oG:au) (jo:Int),CT Tryz.prog (nT k oG jo) (fun r=>.ret (iP r)) 74 [.agg (dZ oG),iP jo])
  | 0=>fun _ _=>CT.none Z
  | k+1=>by
    obtain (i0):=GI k;exact fun oG jo=>Nb _ oG jo
instance afG(oG:au)(jo:Int):CT Tryz.prog (ES oG jo) (fun r=>.ret (iP r)) 74 [.agg (dZ oG),iP jo]:=(GI BIG) oG jo
instance Rk(e1:au):CT Tryz.prog (lN e1) (fun r=>.ret (iP r)) 57 [.agg (dZ e1)]:=by
  unfold lN;exact Z1 ⟨8,[],[]⟩ Z Tryz.func57 Z Z Z Z
section
variable [CS]
instance agu(lq:List ay):CT Tryz.prog (zX lq) (fun r=>.ret (.tuple [.agg (dZ r.1),iP r.2.1,iP r.2.2])) 51 [.list (List.map ay.cells lq)]:=by
  unfold zX;exact Z1 ⟨27,[],[]⟩ Z Tryz.func51 Z Z Z Z
end
instance afI(lq:List ay)(n1:Int)(bL:Str):CT Tryz.prog (Bc lq n1 bL) (fun r=>.ret (iP r)) 52 [.list (List.map ay.cells lq),iP n1,.str bL]:=by
  unfold Bc;exact Z1 ⟨18,[],[]⟩ Z Tryz.func52 Z Z Z Z
section
variable [CS]
instance Rl(bL:Str):CT Tryz.prog (xK bL) (fun r=>.ret (.tuple [.agg (dZ r.1),iP r.2.1,iP r.2.2])) 36 [.str bL]:=by
  unfold xK;exact Z1 ⟨46,[],[(8,1,6,7,0)]⟩ Z Tryz.func36 Z Z Z Z
end
section
variable [CS]
theorem yD{b:Nat}{vp v p:Value}{jH r0:List aU}{text1:Str}(hf:gM jH text1=some r0)(hroom:roomy v=true){R:dO→List aS→Prop}(h:∀vp',R (.ret (.tuple [])) [.kK b 81 [(.own vp' ((List.map aU.cells r0))),.val (.pointer none),.own (.slice none 0 0) (List.map fF [])],.row vp' ((List.map aU.cells r0)).length 12 93]):PC 37 [pP b] [.row v (List.length text1) 1 5,.kK b 81 [(.own vp ((List.map aU.cells jH))),.val p,.own v (List.map fF text1)],.row vp ((List.map aU.cells jH)).length 12 93] R:=by
 unfold gM at hf;refine AC.kE 25 [] [0] Tryz.func37 Z Z Z Z Z (AW.seq (AW.sr (AR.step Z Z Z (AO.calc' Z ?_))));refine AR.step Z Z Z (AO.nilCheck Z Z (AR.step Z Z Z (AO.bP Z Z IC (AR.step Z Z Z (AO.call Z _ Z Z alH (AC.frame (σ:=[_,_]) (τ:=[_]) (afs (AR.step Z Z Z (AO.calc' Z ?_)))))))));refine AR.nil [0,6] Z (AW.cond Z (fun h1=>?_) (fun h1=>?_))
 ·replace hf:=nC h1 hf;refine AW.aa7 4 12 [] [.row v (List.length text1) 1 5,.kK b 81 [(.own vp ((List.map aU.cells jH))),.val p,.own v (List.map fF text1)],.row vp ((List.map aU.cells jH)).length 12 93] (fun S e s=>∃v2:Value,e.get 0=pP b∧e.get 7=pP b∧e.get 10=pP b∧(S 4=true→e.get 11=.own vp ((List.map aU.cells jH)))∧(S 5=true→e.get 12=pP b)∧(S 6=true→e.get 13=pP b)∧(S 7=true→e.get 14=.val (.pointer (some ⟨b,1,none⟩)))∧(S 8=true→e.get 15=.str text1)∧(S 9=true→e.get 16=.agg [.str text1,.bool false,iP 0,.str ([]:Str),iP 0,.bool false,iP 0,.str ([]:Str),.own (.slice none 0 0) [],.own (.slice none 0 0) [],.own (.slice none 0 0) [],.own (.slice none 0 0) []])∧(S 10=true→e.get 17=.list ((List.map aU.cells [(aU.mk text1 false (au.mk 0 ([]:Str) (ah.mk 0 false 0 ([]:Str) [] []) [] []))])))∧(S 11=true→e.get 18=.own v2 ((List.map aU.cells r0)))∧s=(bif S 8 then []else [.row v (List.length text1) 1 5])++[.kK b 81 [(.own vp ((List.map aU.cells jH))),.val p,.own v (List.map fF text1)],bif S 11 then .row v2 ((List.map aU.cells r0)).length 12 93 else .row vp ((List.map aU.cells jH)).length 12 93]) mixed (by kernel_rfl) Z Z (List.Perm.refl _) ?_ ?_ ?_ ?_
  ·refine Ev.cs fK 4 Z (Ev.nil ?_);exact⟨.nilIface,Z,Z,Z,(fun h=>by cases h),(fun h=>by cases h),(fun h=>by cases h),(fun h=>by cases h),(fun h=>by cases h),(fun h=>by cases h),(fun h=>by cases h),(fun h=>by cases h),Z⟩
  ·rintro S S' e s hS ⟨v2,p0,p7,R6,q4,q5,q6,q7,q8,q9,q10,q11,qs⟩;have z:=fun i h1 h2=>(hS i h1 h2).symm;refine⟨v2,p0,p7,R6,?_,?_,?_,?_,?_,?_,?_,?_,?_⟩
   ·rw[z 4 (by decide) (by decide)];exact q4
   ·rw[z 5 (by decide) (by decide)];exact q5
   ·rw[z 6 (by decide) (by decide)];exact q6
   ·rw[z 7 (by decide) (by decide)];exact q7
   ·rw[z 8 (by decide) (by decide)];exact q8
   ·rw[z 9 (by decide) (by decide)];exact q9
   ·rw[z 10 (by decide) (by decide)];exact q10
   ·rw[z 11 (by decide) (by decide)];exact q11
   ·rw[z 8 (by decide) (by decide),z 11 (by decide) (by decide)];exact qs
  ·rintro S e s i o ⟨v2,p0,p7,R6,q4,q5,q6,q7,q8,q9,q10,q11,rfl⟩ hi1 hi2 hSi hp' ho;have hi:i=4∨i=5∨i=6∨i=7∨i=8∨i=9∨i=10∨i=11:=by omega
   rcases hi with rfl|rfl|rfl|rfl|rfl|rfl|rfl|rfl
   ·cases ho;refine⟨Z,(fun t ht=>by cases ht;decide),AO.less (Less.add R6 Less.nil) ?_⟩;cases h8:S 8 with
    | false=>
     refine AO.jr (i:=1) Z Z Z SX Z Z ?_;exact⟨v2,p0,p7,R6,(fun _=>Z),q5,q6,q7,(fun h=>by rw[show S 8=true from h]at h8;cases h8),q9,q10,q11,by simp[h8]⟩
    | true=>
     refine AO.jr (i:=0) Z Z Z SX Z Z ?_;exact⟨v2,p0,p7,R6,(fun _=>Z),q5,q6,q7,q8,q9,q10,q11,by simp[h8]⟩
   ·cases ho;refine⟨Z,(fun t ht=>by cases ht;decide),AO.less (Less.add p0 Less.nil) (AO.calc' Z ?_)⟩;exact⟨v2,p0,p7,R6,q4,(fun _=>Z),q6,q7,q8,q9,q10,q11,Z⟩
   ·cases ho;have s5:=hp' 5 (any_beq.1 Z) (by decide);refine⟨Z,(fun t ht=>by cases ht;decide),AO.less (Less.add (q5 s5) Less.nil) (AO.nilCheck Z Z ?_)⟩;exact⟨v2,p0,p7,R6,q4,q5,(fun _=>Z),q7,q8,q9,q10,q11,Z⟩
   ·cases ho;have s6:=hp' 6 (any_beq.1 Z) (by decide);refine⟨Z,(fun t ht=>by cases ht;decide),AO.less (Less.add (q6 s6) Less.nil) (AO.bP Z Z IC ?_)⟩;exact⟨v2,p0,p7,R6,q4,q5,q6,(fun _=>Z),q8,q9,q10,q11,Z⟩
   ·cases ho;have s7:=hp' 7 (any_beq.1 Z) (by decide);rw[hSi];refine⟨Z,(fun t ht=>by cases ht;decide),AO.less (Less.add (q7 s7) Less.nil) ?_⟩;refine AO.call Z _ Z Z alG (AC.frame (σ:=[_,_]) (τ:=[_]) (X7 hroom ?_));exact⟨v2,p0,p7,R6,q4,q5,q6,q7,(fun _=>Z),q9,q10,q11,Z⟩
   ·cases ho;have s8:=hp' 8 (any_beq.1 Z) (by decide);refine⟨Z,(fun t ht=>by cases ht;decide),AO.less (Less.add (q8 s8) Less.nil) (AO.build Z adh ad2 Z ?_)⟩;exact⟨v2,p0,p7,R6,q4,q5,q6,q7,q8,(fun _=>Z),q10,q11,Z⟩
   ·cases ho;have s9:=hp' 9 (any_beq.1 Z) (by decide);refine⟨Z,(fun t ht=>by cases ht;decide),AO.less (Less.add (q9 s9) Less.nil) (AO.jm ((List.map aU.cells [(aU.mk text1 false (au.mk 0 ([]:Str) (ah.mk 0 false 0 ([]:Str) [] []) [] []))])) rfl aaw rfl rfl rfl (by first|rfl|simp only[List.map,aU.bn]) ?_)⟩
    exact⟨v2,p0,p7,R6,q4,q5,q6,q7,q8,q9,(fun _=>Z),q11,Z⟩
   ·cases ho;have s4:=hp' 4 (any_beq.1 Z) (by decide);have s8:=hp' 8 (any_beq.1 Z) (by decide);have s10:=hp' 10 (any_beq.1 Z) (by decide);rw[hSi,s8];refine⟨Z,(fun t ht=>by cases ht;decide),AO.less (Less.add (q4 s4) (Less.add (q10 s10) Less.nil)) ?_⟩;refine AO.ng (i:=1) (l:=jH) (m:=[(aU.mk text1 false (au.mk 0 ([]:Str) (ah.mk 0 false 0 ([]:Str) [] []) [] []))]) hf Z Z Z Z Z Z Z aaw aa3 Z Z Z (aU.dV) (aU.cells_one) (by decide) (fun v3 s2 hs2=>?_);cases hs2;exact⟨v3,p0,p7,R6,q4,q5,q6,q7,q8,q9,q10,(fun _=>Z),by simp[s8]⟩
  rintro S e s hS ⟨v2,p0,p7,R6,q4,q5,q6,q7,q8,q9,q10,q11,rfl⟩;rw[hS 8 (by decide) (by decide),hS 11 (by decide) (by decide)];refine AR.less (Less.add p0 (Less.add p7 (Less.add (q11 (hS 11 (by decide) (by decide))) Less.nil))) ?_;refine AR.step Z Z Z (AO.nilCheck Z Z (AR.step Z Z Z (AO.bP Z Z OU ?_)));refine AR.bO Z Z (AO.qH (i:=0) Z Z Z SX Z Z Z Z Z ?_);refine AR.nil [0] Z (AW.region (AR.step Z Z Z (AO.calc' Z (AR.step Z Z Z (AO.nilCheck Z Z ?_)))));refine AR.step Z Z Z (AO.bP Z Z IC (AR.step Z Z Z (AO.call Z _ Z Z aiC (AC.frame (σ:=[_]) (τ:=[_]) (Q7 (AR.nil [] Z ?_))))));exact⟨Z,[],Z,_,List.Sublist.refl _,h v2⟩
 ·obtain rfl:=Option.some.inj (mO h1 hf);refine AW.skip (AW.drop1 (AW.region (AR.step Z Z Z (AO.calc' Z ?_))));refine AR.step Z Z Z (AO.nilCheck Z Z (AR.step Z Z Z (AO.bP Z Z IC (AR.step Z Z Z (AO.call Z _ Z Z aiC (AC.frame (σ:=[_]) (τ:=[_]) (Q7 (AR.nil [] Z ?_))))))));exact⟨Z,[],Z,_,List.Sublist.refl _,h vp⟩
instance Rp(s1:Str):CT Tryz.prog (jy s1) (fun r=>.ret (.tuple [.list (List.map aU.cells r.1),iP r.2.1,iP r.2.2])) 23 [.str s1]:=⟨zP rfl,fun {r} hf {τ Q} h=>by
 obtain⟨r0,r1,r2⟩:=r;unfold jy at hf;refine AC.none (AC.kE 76 [.tmp 2,.tmp 3,.tmp 4] [0] Tryz.func23 Z Z Z Z Z (AW.sr (AR.step Z Z Z (AO.kX Z Z ?_))));refine cs 2 Z (AR.nil [0] Z (AW.seq (AW.sr ?_)));refine cs 1 Z (AR.step Z Z Z (AO.rZ Z Z Z Z qP Z (cs 1 Z (AR.nil [0,14] Z ?_))));refine AW.cond Z (fun h1=>?_) (fun h1=>?_)
 ·replace hf:=nC h1 hf;refine AW.sr (AR.step Z Z Z (AO.kX Z Z (cs 2 Z (AR.nil [2,3,4] Z ?_))));refine AW.ret ?_;cases hf;exact⟨rfl,_,⟨_,_,rfl,rfl,_,_,rfl,rfl,_,_,rfl,rfl,rfl⟩,[],apP _,h⟩
 replace hf:=mO h1 hf;refine AW.skip (AW.row 12 93 (AW.sr ?_));refine AR.step Z Z Z (AO.ZM Z ak4 (fun b=>?_));refine AR.nil [0,5] Z (AW.row 1 5 (AW.seq (AW.sr ?_)));refine cs 1 Z (AR.nil [0,5,6] Z (AW.block (AW.settle [0,5,6] Z ?_)));refine AW.aj3 (fun cZ jH vp text1 vt p=>[(0,.str s1),(5,pP b),(6,iP cZ)]) (fun cZ jH vp text1 vt p=>[.row vt (List.length text1) 1 5,.kK b 81 [(.own vp ((List.map aU.cells jH))),.val p,.own vt (List.map fF text1)],.row vp ((List.map aU.cells jH)).length 12 93]) (fun dG cZ jH vp text1 vt p=>h_ s1 dG cZ jH text1=some (r0,r1,r2)∧(p=Value.pointer none∨p=.pointer (some ⟨b,1,none⟩))∧roomy vt=true) BIG 0 [] (.slice none 0 0) [] (.slice none 0 0) (.pointer none) Z Z ⟨hf,.inl Z,Z⟩ (fun _ _ _ _ _ _ hz=>jS hz.1) ?_;intro dG cZ jH vp text1 vt p hfI;obtain⟨hf,hp,hroom⟩:=hfI;rw[h_]at hf;refine AW.seq (AW.sr (cs 2 Z (AR.step Z Z Z (AO.rZ Z Z Z Z qP Z ?_))));refine cs 1 Z (AR.nil [0,5,6,18] Z (AW.cond Z (fun h2=>?_) (fun h2=>?_)))
 ·replace hf:=nC h2 hf;refine AW.skip (AW.block (AW.sr (cs 2 Z ?_)));refine B1 hf fun KG h3 hf=>AR.step Z Z Z (AO.Y0 h3 Z qP Z ⟨_,Z⟩ Z (cs 1 Z (AR.nil [0,5,6,7] Z (AW.block ?_))));refine AW.sr (cs 1 Z ?_);refine B1 hf fun b1 h4 hf=>AR.step Z Z Z (AO.call Z _ Z Z aiF ((Az _ _).h h4 (cs 1 Z (AR.nil [0,5,6,7,29] Z (AW.cond Z (fun h5=>?_) (fun h5=>?_))))))
  ·replace hf:=nC h5 hf;refine B1 hf fun WC h6 hf=>AW.sr (AR.step Z Z Z (AO.bP Z Z IC (AR.step Z Z Z (AO.call Z _ Z Z aiE (AC.frame (σ:=[_,_]) (τ:=[_]) (HZ hp hroom h6 (fun v2 hr2=>(AR.nil [0,5,6] Z ?_))))))));refine AW.region (cs 3 Z (AR.nil [0,5,6] Z ?_));exact⟨(bq (cZ+2)),jH,vp,WC,v2,_,Z,Z,Z,hf,.inr Z,hr2⟩
  replace hf:=mO h5 hf;refine B1 hf fun b2 h6 hf=>AW.sr (cs 1 Z (AR.step Z Z Z (AO.call Z _ Z Z aiF ((Az _ _).h h6 (cs 1 Z ?_)))));refine AR.nil [0,5,6,36] Z (AW.cond Z (fun h7=>?_) (fun h7=>?_))
  ·replace hf:=nC h7 hf;refine AW.sr (cs 3 Z ?_);refine B1 hf fun sH h8 hf=>AR.step Z Z Z (AO.call Z _ Z Z alJ ((Ni _ _).h h8 (cs 1 Z (AR.nil [0,5,6,8] Z (AW.seq ?_)))));refine AW.sr (cs 2 Z (AR.nil [0,5,6,8,44] Z (AW.cond Z (fun h9=>?_) (fun h9=>?_))))
   ·replace hf:=nC h9 hf;refine AW.sr (cs 1 Z (AR.step Z Z Z (AO.kX Z Z (cs 2 Z ?_))));refine AR.nil [2,3,4] Z (AW.ret ?_);cases hf;exact⟨rfl,_,⟨_,_,rfl,rfl,_,_,rfl,rfl,_,_,rfl,rfl,rfl⟩,[],apP _,h⟩
   replace hf:=mO h9 hf;refine AW.skip (AW.sr (cs 4 Z ?_));refine B1 hf fun x1 h10 hf=>AR.step Z Z Z (AO.Y0 h10 Z qP Z ⟨_,Z⟩ ⟨_,Z⟩ ?_);obtain⟨e1,n1,uf,h11,hf⟩:=Er hf;refine AR.step Z Z Z (AO.call Z _ Z Z alI ((Rl _).h h11 (cs 4 Z (AR.step Z Z Z (AO.bQ Z Z8 (fun b9=>(AR.bO Z Z (AO.eH (i:=0) Z Z Z Nr Z Z Z Z Z ?_))))))));refine cs 2 Z (AR.nil [0,5,6,8,9,10,11] Z (AW.seq (AW.sr ?_)));refine cs 2 Z (AR.nil [0,5,6,8,9,10,11,57] Z (AW.cond Z (fun h12=>?_) (fun h12=>?_)))
   ·replace hf:=nC h12 hf;refine AW.sr (cs 5 Z (AR.step Z Z Z (AO.kX Z Z (cs 2 Z ?_))));refine AR.nil [2,3,4] Z (AW.ret ?_);cases hf;exact⟨rfl,_,⟨_,_,rfl,rfl,_,_,rfl,rfl,_,_,rfl,rfl,rfl⟩,[],apP _,h⟩
   replace hf:=mO h12 hf;refine B1 hf fun U4 MN hf=>B1 hf fun U3 OP hf=>AW.skip (AW.sr (AR.step Z Z Z (AO.call Z _ Z Z aiD (AC.perm (ab0 _ _ _ _) (AC.frame (σ:=[_,_,_]) (τ:=[_]) (yD MN hroom (fun vp2=>(AR.nil [0,5,8,9] Z ?_))))))));refine AW.row 1 5 (AW.sr (AR.step Z Z Z (AO.bP Z Z OU ?_)));refine AR.step Z Z Z (AO.jr (i:=1) Z Z Z SX Z Z ?_);refine AR.step rfl rfl rfl (AO.dP (i:=3) rfl rfl rfl Nr rfl rfl (AR.step rfl rfl rfl (AO.build rfl adh ad2 rfl (AR.step rfl rfl rfl (AO.jm ((List.map aU.cells [(aU.mk ([]:Str) true e1)])) rfl aaw rfl rfl rfl (by first|rfl|simp only[List.map,aU.bn]) ?_)))));refine AR.step Z Z Z (AO.ng (i:=2) (l:=U4) (m:=[(aU.mk ([]:Str) true e1)]) OP Z Z Z Z Z Z Z aaw aa3 Z Z Z (aU.dV) (aU.cells_one) (by decide) (fun vp3 s2 hs2=>?_));cases hs2
   refine AR.step Z Z Z (AO.bP Z Z OU ?_);refine AR.bO Z Z (AO.qH (i:=1) Z Z Z SX Z Z Z Z Z ?_);refine AR.nil [0,5,8] Z (AW.VA 3 Z (AW.region (cs 3 Z ?_)));refine AR.nil [0,5,6] Z ?_;exact⟨(bq (sH+1)),U3,vp3,[],.slice none 0 0,_,Z,Z,Z,hf,.inl Z,Z⟩
  replace hf:=mO h7 hf;refine B1 hf fun c1 h8 hf=>B1 hf fun adV h9 hf=>AW.sr (AR.step Z Z Z (AO.bP Z Z IC (cs 2 Z (AR.step Z Z Z (AO.r9 h8 Z qP Z Z ?_)))));refine AR.step Z Z Z (AO.call Z _ Z Z aiE (AC.frame (σ:=[_,_]) (τ:=[_]) (HZ hp hroom h9 (fun v2 hr2=>(AR.nil [0,5,6] Z (AW.region (cs 3 Z ?_)))))));refine AR.nil [0,5,6] Z ?_;exact⟨(bq (cZ+1)),jH,vp,adV,v2,_,Z,Z,Z,hf,.inr Z,hr2⟩
 replace hf:=mO h2 hf;refine B1 hf fun aaD h3 hf=>AW.exit (AW.sr (AR.step Z Z Z (AO.call Z _ Z Z aiD (yD h3 hroom (fun vp2=>(AR.nil [5] Z ?_))))));refine AW.sr (AR.step Z Z Z (AO.bP Z Z OU ?_));refine AR.step Z Z Z (AO.jr (i:=0) Z Z Z SX Z Z ?_);refine cs 3 Z (AR.nil [2,3,4] Z (AW.ret ?_));cases hf;exact⟨rfl,_,⟨_,_,rfl,rfl,_,_,rfl,rfl,_,_,rfl,rfl,rfl⟩,[],apP _,h⟩⟩
end
section
variable [CS]
instance abo(s1:Str):CT Tryz.prog (iN s1) (fun r=>.ret (iP r)) 15 [.str s1]:=by
  unfold iN;exact Z1 ⟨15,[],[]⟩ Z Tryz.func15 Z Z Z Z
end
instance Rq(s1:Str)(kT:Str):CT Tryz.prog (lS s1 kT) (fun r=>.ret (.str r)) 25 [.str s1,.str kT]:=by
  unfold lS;exact Z1 ⟨13,[],[]⟩ Z Tryz.func25 Z Z Z Z
instance Yf(s1:Str)(kT:Str):CT Tryz.prog (strings_TrimPrefix s1 kT) (fun r=>.ret (.str r)) 17 [.str s1,.str kT]:=by
  unfold strings_TrimPrefix;exact Z1 ⟨8,[],[]⟩ Z Tryz.func17 Z Z Z Z
instance Oq(s1:List (BitVec 64))(c1:UInt8):CB Tryz.prog (rG s1 c1) (fun r=>.ret (.tuple [])) 70 (fun p1=>[pP p1,.int .u8 (c1.toNat:Int)]) [.int .u64 ((s1.getD 0 0).toNat:Int),.int .u64 ((s1.getD 1 0).toNat:Int),.int .u64 ((s1.getD 2 0).toNat:Int),.int .u64 ((s1.getD 3 0).toNat:Int)] (fun r=>[.int .u64 ((r.getD 0 0).toNat:Int),.int .u64 ((r.getD 1 0).toNat:Int),.int .u64 ((r.getD 2 0).toNat:Int),.int .u64 ((r.getD 3 0).toNat:Int)]):=⟨zP rfl,fun {s1s} hf p1 {Q} h=>by
 unfold rG at hf;refine BD 16 [] [0,1] Tryz.func70 Z Z Z Z Z (AW.draw 12 mixed (by kernel_rfl) Z ?_);refine Ev.cs fK 2 Z (Ev.cons Z Z Z (AO.u8_quo c1 64 Z Z Z Z Z (by decide) zg) ?_);refine Ev.cs fK 1 Z ?_;refine B1 hf fun e1 h1 hf=>Ev.cons Z Z Z (AO.ql h1 Z N9 Z Z Z zg) (Ev.cons Z Z Z (AO.TR (i:=0) (fun z:BitVec 64=>.int .u64 (z.toNat:Int)) h1 Z Z Z SY Z zg) (Ev.cs fK 1 Z (Ev.cons Z Z Z (AO.Pb c1 64 Z Z Z Z Z (by decide) zg) ?_)));refine Ev.cons Z Z Z (AO.Ih (1:BitVec 64) ((c1%64).toNat) Z Z Z Z Z zg) ?_;refine B1 hf fun x1 h2 hf=>Ev.cons Z Z Z (AO.Wq e1 ((1:BitVec 64) <<< (c1%64).toNat) h2 Z Z Z Z Z zg) (Ev.cs fK 1 Z ?_);refine B1 hf fun e2 h3 hf=>Ev.cons Z Z Z (AO.ql h3 Z N9 Z Z Z zg) (Ev.nil ?_);show AR _ _ _ _ _ _ _ _
 refine B1 hf fun y1 h4 hf=>AR.bO Z Z (AO.Jz (i:=0) (fun z:BitVec 64=>.int .u64 (z.toNat:Int)) 0 h3 h4 Z Z Z SY Z Z Z Z Z Z ?_);cases hf;exact N 0 rfl ⟨rfl,_,rfl,_,(.cons_cons _ (apP _)),h⟩⟩
instance ajf(UL:Bool):CT Tryz.prog (yZ UL) (fun r=>.ret (.agg [.int .u64 ((r.getD 0 0).toNat:Int),.int .u64 ((r.getD 1 0).toNat:Int),.int .u64 ((r.getD 2 0).toNat:Int),.int .u64 ((r.getD 3 0).toNat:Int)])) 54 [.bool UL]:=⟨zP rfl,fun {r0} hf {τ Q} h=>by
 unfold yZ at hf;refine BN 9 [.cell 2 95] [0] Tryz.func54 Z Z Z Z Z (W 0 Z (AS Z (AO.bQ Z adg (fun b2=>(U 0 Z (AS Z (AO.M6 Z adg N9 Z (AS Z (AO.bQ Z adg (fun b3=>?_))))))))));refine Rw 3 [0] Z Z (C hf Z (fun h1 hf=>?_) fun h1 hf=>?_)
 ·refine B1 hf fun y1 h2 hf=>W 0 Z (CL Z (AC.one 0 Z ((Oq _ _).h h2 _ ⟨_,Z,?_⟩)));cases hf;exact Rx 2 [0,1] Z Z (ZC [1] Z Z h)
 cases hf;exact Wx 2 [0,1] Z Z (ZC [1] Z Z h)⟩
instance ajg(s1:Str):CT Tryz.prog (BP s1) (fun r=>.ret (.tuple [.int .u8 (r.1.toNat:Int),iP r.2])) 71 [.str s1]:=by
  unfold BP;exact Z1 ⟨26,[],[]⟩ Z Tryz.func71 Z Z Z Z
instance afS(s1:List (BitVec 64))(c1:UInt8):CB Tryz.prog (mY s1 c1) (fun r=>.ret (.tuple [])) 72 (fun p1=>[pP p1,.int .u8 (c1.toNat:Int)]) [.int .u64 ((s1.getD 0 0).toNat:Int),.int .u64 ((s1.getD 1 0).toNat:Int),.int .u64 ((s1.getD 2 0).toNat:Int),.int .u64 ((s1.getD 3 0).toNat:Int)] (fun r=>[.int .u64 ((r.getD 0 0).toNat:Int),.int .u64 ((r.getD 1 0).toNat:Int),.int .u64 ((r.getD 2 0).toNat:Int),.int .u64 ((r.getD 3 0).toNat:Int)]):=⟨zP rfl,fun {s1s} hf p1 {Q} h=>by
 unfold mY at hf;refine BD 16 [] [0,1] Tryz.func72 Z Z Z Z Z (AW.draw 12 mixed (by kernel_rfl) Z ?_);refine Ev.cs fK 2 Z (Ev.cons Z Z Z (AO.u8_quo c1 64 Z Z Z Z Z (by decide) zg) ?_);refine Ev.cs fK 1 Z ?_;refine B1 hf fun e1 h1 hf=>Ev.cons Z Z Z (AO.ql h1 Z N9 Z Z Z zg) (Ev.cons Z Z Z (AO.TR (i:=0) (fun z:BitVec 64=>.int .u64 (z.toNat:Int)) h1 Z Z Z SY Z zg) (Ev.cs fK 1 Z (Ev.cons Z Z Z (AO.Pb c1 64 Z Z Z Z Z (by decide) zg) ?_)));refine Ev.cons Z Z Z (AO.Ih (1:BitVec 64) ((c1%64).toNat) Z Z Z Z Z zg) ?_;refine B1 hf fun x1 h2 hf=>Ev.cons Z Z Z (AO.Kv e1 ((1:BitVec 64) <<< (c1%64).toNat) h2 Z Z Z Z Z zg) (Ev.cs fK 1 Z ?_);refine B1 hf fun e2 h3 hf=>Ev.cons Z Z Z (AO.ql h3 Z N9 Z Z Z zg) (Ev.nil ?_);show AR _ _ _ _ _ _ _ _
 refine B1 hf fun y1 h4 hf=>AR.bO Z Z (AO.Jz (i:=0) (fun z:BitVec 64=>.int .u64 (z.toNat:Int)) 0 h3 h4 Z Z Z SY Z Z Z Z Z Z ?_);cases hf;exact N 0 rfl ⟨rfl,_,rfl,_,(.cons_cons _ (apP _)),h⟩⟩
theorem Lx(p1:Nat)(s1:List (BitVec 64))(c1:UInt8)(more:List PV){s1s:List (BitVec 64)}(hf:mY s1 c1=some s1s){Q:dO→List aS→Prop}(h:Q (.ret (.tuple [])) [.box p1 (.int .u64 ((s1s.getD 0 0).toNat:Int)::.int .u64 ((s1s.getD 1 0).toNat:Int)::.int .u64 ((s1s.getD 2 0).toNat:Int)::.int .u64 ((s1s.getD 3 0).toNat:Int)::more)]):PC 72 [pP p1,.int .u8 (c1.toNat:Int)] [.box p1 (.int .u64 ((s1.getD 0 0).toNat:Int)::.int .u64 ((s1.getD 1 0).toNat:Int)::.int .u64 ((s1.getD 2 0).toNat:Int)::.int .u64 ((s1.getD 3 0).toNat:Int)::more)] Q:=by
 unfold mY at hf;refine BD 16 [] [0,1] Tryz.func72 Z Z Z Z Z (AW.draw 12 mixed (by kernel_rfl) Z ?_);refine Ev.cs fK 2 Z (Ev.cons Z Z Z (AO.u8_quo c1 64 Z Z Z Z Z (by decide) zg) ?_);refine Ev.cs fK 1 Z ?_;refine B1 hf fun e1 h1 hf=>Ev.cons Z Z Z (AO.ql h1 Z N9 Z Z Z zg) (Ev.cons Z Z Z (AO.ace (i:=0) (more:=more) (fun z:BitVec 64=>.int .u64 (z.toNat:Int)) h1 Z Z Z SY Z zg) (Ev.cs fK 1 Z (Ev.cons Z Z Z (AO.Pb c1 64 Z Z Z Z Z (by decide) zg) ?_)));refine Ev.cons Z Z Z (AO.Ih (1:BitVec 64) ((c1%64).toNat) Z Z Z Z Z zg) ?_;refine B1 hf fun x1 h2 hf=>Ev.cons Z Z Z (AO.Kv e1 ((1:BitVec 64) <<< (c1%64).toNat) h2 Z Z Z Z Z zg) (Ev.cs fK 1 Z ?_);refine B1 hf fun e2 h3 hf=>Ev.cons Z Z Z (AO.ql h3 Z N9 Z Z Z zg) (Ev.nil ?_);show AR _ _ _ _ _ _ _ _;refine B1 hf fun y1 h4 hf=>AR.bO Z Z (AO.YW (i:=0) (more:=more) (fun z:BitVec 64=>.int .u64 (z.toNat:Int)) 0 h3 h4 Z Z Z SY Z Z Z Z Z Z ?_);cases hf;exact N 0 rfl ⟨rfl,_,rfl,_,(.cons_cons _ (apP _)),h⟩
instance (s1 :Str) (n_ je vG):LE (lU s1 n_ je vG) (fun j p=>lU s1 j p.1 p.2) n_ (je,vG) [] [] [] [0,2,4] (fun v w p=>[(5,iP p.1)]) (fun v w p s=>yT 0 [.int .u64 ((p.2.getD 0 0).toNat:Int),.int .u64 ((p.2.getD 1 0).toNat:Int),.int .u64 ((p.2.getD 2 0).toNat:Int),.int .u64 ((p.2.getD 3 0).toNat:Int)] (s)):=⟨Z⟩
instance (cZ :Int) (n1:Int) (xV:UInt8) (n2:Int) (iy:Int→List (BitVec 64)→Option (List (BitVec 64) × Int)) (n_ je vG):LE (rM cZ n1 xV n2 iy n_ je vG) (fun j p=>rM cZ n1 xV n2 iy j p.1 p.2) n_ (je,vG) [] [] [] [0,2,4,5,8] (fun v w p=>[(9,iP p.1)]) (fun v w p s=>yT 0 [.int .u64 ((p.2.getD 0 0).toNat:Int),.int .u64 ((p.2.getD 1 0).toNat:Int),.int .u64 ((p.2.getD 2 0).toNat:Int),.int .u64 ((p.2.getD 3 0).toNat:Int)] (s)):=⟨Z⟩
instance (cZ :Int) (pQ:UInt8) (n1:Int) (iy:Int→List (BitVec 64)→Option (List (BitVec 64) × Int)) (n_ je vG):LE (rJ cZ pQ n1 iy n_ je vG) (fun j p=>rJ cZ pQ n1 iy j p.1 p.2) n_ (je,vG) [] [] [] [0,2,4,5,8] (fun v w p=>[(9,iP p.1)]) (fun v w p s=>yT 0 [.int .u64 ((p.2.getD 0 0).toNat:Int),.int .u64 ((p.2.getD 1 0).toNat:Int),.int .u64 ((p.2.getD 2 0).toNat:Int),.int .u64 ((p.2.getD 3 0).toNat:Int)] (s)):=⟨Z⟩
instance aik(s1:Str):CT Tryz.prog (EZ s1) (fun r=>.ret (.tuple [.agg [.int .u64 ((r.1.getD 0 0).toNat:Int),.int .u64 ((r.1.getD 1 0).toNat:Int),.int .u64 ((r.1.getD 2 0).toNat:Int),.int .u64 ((r.1.getD 3 0).toNat:Int)],iP r.2])) 55 [.str s1]:=by
  unfold EZ;exact Z1 ⟨88,[],[]⟩ Z Tryz.func55 Z Z Z Z
instance afT(c1:UInt8):CT Tryz.prog (uU c1) (fun r=>.ret (.agg (La r))) 56 [.int .u8 (c1.toNat:Int)]:=⟨zP rfl,fun {r0} hf {τ Q} h=>by
 unfold uU at hf;refine BN 10 [.cell 2 97] [0] Tryz.func56 Z Z Z Z Z (W 0 Z (AS Z (AO.bQ Z Z7 (fun b2=>(U 2 Z (AS Z (AO.bQ Z Z7 (fun b3=>?_))))))));refine B1 hf fun y1 h1 hf=>Rr 3 [0] Z Z (CL Z (AC.one 0 Z (Lx _ _ _ _ h1 ⟨_,Z,?_⟩)));cases hf;exact Rx 2 [0,1] Z Z (ZC [1] Z Z h)⟩
instance aij(p1:Str):CT Tryz.prog (Cq p1) (fun r=>.ret (.tuple [.agg (La r.1),iP r.2])) 38 [.str p1]:=by
  unfold Cq;exact Z1 ⟨48,[],[]⟩ Z Tryz.func38 Z Z Z Z
instance  (n_ je vG):LE (rH n_ je vG) (fun j p=>rH j p.1 p.2) n_ (je,vG) [4] [] [(4,7,97)] [] (fun v w p=>[(0,.str p.1),(4,.own v (List.map bA.cells p.2))]) (fun v w p s=>putRow 0 v ((List.map bA.cells p.2).length) (s)):=⟨Z⟩
instance VP(p1:Str):CT Tryz.prog (yY p1) (fun r=>.ret (.tuple [.list (List.map bA.cells r.1),iP r.2])) 24 [.str p1]:=by
  unfold yY;exact Z1 ⟨27,[],[]⟩ Z Tryz.func24 Z Z Z Z
instance ail(KV:Str):CT Tryz.prog (Cr KV) (fun r=>.ret (iP r)) 16 [.str KV]:=by
  unfold Cr;exact Z1 ⟨11,[],[]⟩ Z Tryz.func16 Z Z Z Z
section
variable [CS]
instance (c1 :aQ) (n_ je):LE (iV c1 n_ je) (fun j p=>iV c1 j p) n_ je [] [] [] [1,27,28] (fun v w p=>[(29,iP p)]) (fun v w p s=>s):=⟨Z⟩
instance (c1 :aQ) (n_ je):LE (fE c1 n_ je) (fun j p=>fE c1 j p) n_ je [] [] [] [40,41] (fun v w p=>[(42,iP p)]) (fun v w p s=>s):=⟨Z⟩
instance Nj(c1:aQ):CT Tryz.prog (gQ c1) (fun r=>.ret (iP r)) 5 [.agg (zG c1)]:=by
  unfold gQ;exact Z1 ⟨53,[],[]⟩ Z Tryz.func5 Z Z Z Z
end
instance (s1 :List aD) (f1:aD→Option Bool) (n_ je):LE (dU s1 f1 n_ je) (fun j p=>dU s1 f1 j p) n_ je [] [] [] [0,1,7] (fun v w p=>[(8,iP p)]) (fun v w p s=>s):=⟨Z⟩
instance I7(s1:List aD)(f1:aD→Option Bool){Yt:FuncId}{Zw:List PV}[f1I:CF1 Tryz.prog f1 (fun a0=>.agg (oV a0)) (fun b0=>.ret (.bool b0)) Yt Zw]:CT Tryz.prog (gu s1 f1) (fun r=>.ret (iP r)) 40 [.list (List.map aD.cells s1),.fn Yt Zw]:=by
  unfold gu;exact Z1 ⟨19,[],[]⟩ Z Tryz.func40 Z Z Z Z
instance FU(s1:List aD)(f1:aD→Option Bool){Yt:FuncId}{Zw:List PV}[f1I:CF1 Tryz.prog f1 (fun a0=>.agg (oV a0)) (fun b0=>.ret (.bool b0)) Yt Zw]:CT Tryz.prog (dB s1 f1) (fun r=>.ret (.bool r)) 26 [.list (List.map aD.cells s1),.fn Yt Zw]:=by
  unfold dB;exact Z1 ⟨9,[],[]⟩ Z Tryz.func26 Z Z Z Z
theorem lJ(s1:List aD)(f1:aD→Option Bool)(Yt:FuncId)(Zw:List PV)(f1P:dA Tryz.prog Yt=true)(f1H:∀a0 b0,f1 a0=some b0→∀ {τ:List aS} {Q:dO→List aS→Prop},Q (.ret (.bool b0)) τ→AC Tryz.prog Yt ([.agg (oV a0)]++Zw) τ Q){r0:Bool}(hf:dB s1 f1=some r0){τ:List aS}{Q:dO→List aS→Prop}(h:Q (.ret (.bool r0)) τ):AC Tryz.prog 26 [.list (List.map aD.cells s1),.fn Yt Zw] τ Q:=letI:CF1 Tryz.prog f1 (fun a0=>.agg (oV a0)) (fun b0=>.ret (.bool b0)) Yt Zw:=⟨fun a=>⟨f1P,fun {r} hx {τ Q} h=>f1H a r hx h⟩⟩;CT.h hf h
instance vT(x1:aD):CT Tryz.prog (iI x1) (fun r=>.ret (.bool r)) 27 [.agg (oV x1)]:=by
  unfold iI;exact Z1 ⟨6,[],[]⟩ Z Tryz.func27 Z Z Z Z
instance : CF1 Tryz.prog iI (fun x1=>.agg (oV x1)) (fun r=>.ret (.bool r)) 27 []:=⟨fun x0=>vT x0⟩
instance Rs(s1:List (BitVec 64))(c1:UInt8):CT Tryz.prog (uT s1 c1) (fun r=>.ret (.bool r)) 62 [.agg [.int .u64 ((s1.getD 0 0).toNat:Int),.int .u64 ((s1.getD 1 0).toNat:Int),.int .u64 ((s1.getD 2 0).toNat:Int),.int .u64 ((s1.getD 3 0).toNat:Int)],.int .u8 (c1.toNat:Int)]:=⟨zP rfl,fun {r0} hf {τ Q} h=>by
 unfold uT at hf;refine BN 14 [.tmp 4] [0,1] Tryz.func62 Z Z Z Z Z (W 3 Z (AS Z (AO.u8_quo c1 64 Z Z Z Z Z (by decide) ?_)));refine B1 hf fun e1 h1 hf=>AS Z (AO.Qx (fun z:BitVec 64=>.int .u64 (z.toNat:Int)) h1 Z N9 Z Z Z Z (U 2 Z (AS Z (AO.Pb c1 64 Z Z Z Z Z (by decide) ?_))));refine AS Z (AO.zw e1 ((c1%64).toNat) Z Z Z Z Z ?_);refine B1 hf fun x1 h2 hf=>AS Z (AO.Pe (e1 >>> (c1%64).toNat) (1:BitVec 64) h2 Z Z Z Z Z ?_);cases hf;exact N 2 Z (Y Z h)⟩
theorem NZ(l1:List bA)(a0:List Bool){r1:List Bool}(hf:BO l1 a0=some r1){b5 b7:Nat}{v1:Value}{Q:dO→List aS→Prop}(h:Q (.ret (.tuple [])) [.box b5 [.list (List.map bA.cells l1)],.box b7 [.val v1],.buf v1 r1.length 1 4 (List.map PV.bool r1)]):PC 61 [pP b5,pP b7] [.box b5 [.list (List.map bA.cells l1)],.box b7 [.val v1],.buf v1 a0.length 1 4 (List.map PV.bool a0)] Q:=by
 unfold BO at hf;refine BD 31 [] [0,1] Tryz.func61 Z Z Z Z Z (Wr 1 [0] Z Z (AS Z (AO.gB (l:=l1) Z Z Z Z QI Z Z (J 1 Z (LK2 (fun i1 a1=>[(1,pP b7),(4,.list (List.map bA.cells l1)),(5,iP (l1.length:Int)),(6,iP i1)]) (fun i1 a1=>[.box b5 [.list (List.map bA.cells l1)],.box b7 [.val v1],.buf v1 a1.length 1 4 (List.map PV.bool a1)]) (fun dG i1 a1=>uS l1 dG i1 a1=some r1) BIG 0 a0 Z Z hf (fun _ _ hz=>jS hz) ?_)))));intro dG i1 a1 hf;rw[uS]at hf;refine V 1 Z (C hf Z (fun h1 hf=>?_) fun h1 hf=>?_)
 ·refine B1 hf fun x1 h2 hf=>W 1 Z (AS Z (AO.fM h2 Z Z Z Z QI (bA.bn _) Z (U 1 Z (AS Z (AO.bQ Z Z7 (fun b3=>(Rw 2 [0] Z Z (AW.draw 19 mixed (by kernel_rfl) Z ?_))))))));refine Ev.cons Z Z Z (AO.dP (i:=2) Z Z Z F9 Z Z zg) (Ev.cs fK 2 Z (Ev.cons Z Z Z (AO.dP (i:=2) Z Z Z F9 Z Z zg) (Ev.cs fK 2 Z ?_)));refine B1 hf fun c1 h3 hf=>Ev.cons Z Z Z (AO.l5 (i:=3) h3 Z Z Z Z Ho zg) (Ev.cons Z Z Z (AO.Iw (i:=3) h3 Z Z Z RY zg) (Ev.cs fK 1 Z ?_));refine B1 hf fun c3 h4 hf=>Ev.Cm hKA 9 19 28 false [1,4,5,6,11,13] (.bool c3) Z Z (fun h5=>?_) (fun h5=>?_) ?_
  ·replace h4:=mO h5 h4;refine Ev.is hKL 19 h5 Z (Ev.run Z Z Z Z Z Z Z (AO.dP (i:=2) Z Z Z F9 Z Z zg) (Ev.cs fK 1 Z ?_));refine B1 h4 fun c2 h6 h4=>Ev.run Z Z Z Z Z Z Z (AO.l5 (i:=3) h6 Z Z Z Z Ho zg) (Ev.run Z Z Z Z Z Z Z (AO.Iw (i:=3) h6 Z Z Z RY zg) (Ev.cs fK 1 Z (Ev.and1 hKL 3 24 27 [1,4,5,6,11,13,19] (x1.many) Z Z (fun h7=>?_) (fun h7=>?_) ?_)))
   ·refine Ev.is hKL 24 h7 Z (Ev.cs fK 1 Z (Ev.run Z Z Z Z Z Z Z (AO.dP (i:=0) Z Z Z RY Z Z zg) (Ev.cs fK 1 Z ?_)));exact Ev.nil (Less.settle (ps:=[27,1,4,5,6,11,13,19]) Z)
   ·refine Ev.is hKL 24 h7 Z (Ev.cs fK 3 Z ?_);exact Ev.nil (Less.settle (ps:=[27,1,4,5,6,11,13,19]) Z)
   cases h4;refine Ev.cs fK 1 Z ?_;exact Ev.nil (Less.settle (ps:=[28,1,4,5,6,11,13]) Z)
  ·replace h4:=nC h5 h4;refine Ev.is hKL 19 h5 Z ?_;cases h4;refine Ev.cs fK 9 Z ?_;exact Ev.nil (Less.settle (ps:=[28,1,4,5,6,11,13]) Z)
  refine Ev.cons Z Z Z (AO.l5 (i:=3) h3 Z Z Z Z Ho zg) (Ev.nil ?_);show AR _ _ _ _ _ _ _ _;refine B1 hf fun a2 h8 hf=>AR.bO Z Z (AO.EC (i:=3) h3 h8 Z Z Z RY Z Z (AR.drop1 ?_));exact N 2 Z ⟨(bq (i1+1)),a2,Z,Z,Z,hf⟩
 cases hf;exact M 0 rfl ⟨rfl,_,rfl,_,List.Sublist.refl _,h⟩
theorem K6{n1:Int}{l1:List Bool}(h:K7 n1=some l1):(if 0≤n1∧n1≤281474976710656 then some (List.replicate n1.toNat false)else none)=some l1:=h
instance ain(p1:Str)(s1:Str):CT Tryz.prog (za p1 s1) (fun r=>.ret (.bool r)) 46 [.str p1,.str s1]:=⟨zP rfl,fun {r0} hf {τ Q} h=>by
 unfold za at hf;refine AC.none (AC.kE 78 [.tmp 4] [0,1] Tryz.func46 Z Z Z Z Z (AW.sr (cs 1 Z ?_)));refine AR.nil [0,1] Z (AW.sr (cs 1 Z ?_));obtain⟨l1,e1,h1,hf⟩:=lI hf;refine AR.step Z Z Z (AO.call Z _ Z Z alP ((VP _).h h1 (cs 3 Z (AR.step Z Z Z (AO.bQ Z ak5 (fun b5=>(AR.bO Z Z (AO.eH (i:=0) Z Z Z Wz Z Z Z Z Z ?_))))))));refine cs 1 Z (AR.nil [1,5,6] Z (AW.seq (AW.sr ?_)));refine cs 2 Z (AR.nil [1,5,19] Z (AW.cond Z (fun h2=>?_) (fun h2=>?_)))
 ·replace hf:=nC h2 hf;refine AW.sr (cs 1 Z (AR.nil [4] Z (AW.ret ?_)));cases hf;exact⟨rfl,_,⟨_,_,rfl,rfl,rfl⟩,[],apP _,h⟩
 replace hf:=mO h2 hf;refine AW.skip (AW.sr (AR.step Z Z Z (AO.dP (i:=0) Z Z Z Wz Z Z (AR.step Z Z Z (AO.gB (l:=l1) Z Z Z Z QI Z Z ?_)))));refine cs 1 Z ?_;refine B1 hf fun a0 h3 hf=>AR.step Z Z Z (AO.Fy (K6 h3) Z Z Z adD ak9 (fun v1=>(AR.step Z Z Z (AO.bQ Z ajn (fun b7=>(AR.VF 1 Z (fun hv1 hv2=>(AR.bO Z Z (AO.eH (i:=0) Z Z Z F9 hv1 hv2 Z Z Z ?_)))))))));refine AR.nil [1,5,7] Z (AW.sr (AR.step Z Z Z (AO.dP (i:=0) Z Z Z F9 Z Z ?_)));refine B1 hf fun c0 h4 hf=>AR.step Z Z Z (AO.l5 (i:=1) h4 Z Z Z Z Ho ?_);refine B1 hf fun a1 h5 hf=>AR.bO Z Z (AO.EC (i:=1) h4 h5 Z Z Z RY Z Z (AR.nil [1,5,7] Z (AW.sr (cs 2 Z ?_))));refine AR.nil [1,5,7,8] Z (AW.sr (cs 1 Z ?_));refine B1 hf fun a2 h6 hf=>AR.step Z Z Z (AO.call Z _ Z Z aiB (AC.perm (σ:=[.box b5 [.list (List.map bA.cells l1)],.box b7 [.val v1],.buf v1 a1.length 1 4 (List.map PV.bool a1)]) ajP (NZ l1 a1 h6 (AR.nil [1,5,7,8] Z (AW.seq (AW.sr ?_))))));refine cs 1 Z (AR.step Z Z Z (AO.rZ Z Z Z Z qP Z (cs 1 Z (AR.nil [1,5,7,8,30,31] Z ?_))));refine AW.block (AW.settle [1,5,7,8,30,31] Z (AW.aeE (fun i1 a1 v1=>[(1,.str s1),(5,pP b5),(7,pP b7),(8,.fn 61 [pP b5,pP b7]),(30,iP (s1.length:Int)),(31,iP i1)]) (fun i1 a1 v1=>[.box b5 [.list (List.map bA.cells l1)],.box b7 [.val v1],.buf v1 a1.length 1 4 (List.map PV.bool a1)]) (fun dG i1 a1 v1=>nG l1 s1 dG i1 a1=some r0) BIG 0 a2 v1 Z Z hf (fun _ _ _ hz=>jS hz) ?_));intro dG i1 a1 v1 hf;rw[nG]at hf;refine AW.sr (cs 1 Z (AR.nil [1,5,7,8,30,31,32] Z (AW.seq ?_)));refine AW.cond Z (fun h7=>?_) (fun h7=>?_)
 ·replace hf:=nC h7 hf;refine AW.skip (AW.seq (AW.block (AW.sr ?_)));refine cs 2 Z (AR.nil [1,5,7,8,9,30,31] Z (AW.sr (AR.step Z Z Z (AO.dP (i:=0) Z Z Z Wz Z Z ?_))));refine AR.step Z Z Z (AO.gB (l:=l1) Z Z Z Z QI Z Z (cs 1 Z ?_));refine B1 hf fun nx0 h8 hf=>AR.step Z Z Z (AO.Fy (K6 h8) Z Z Z adD ak9 (fun v2=>(cs 1 Z (AR.nil [1,5,7,8,9,10,30,31] Z (AW.seq ?_)))));refine AW.sr (AR.step Z Z Z (AO.dP (i:=1) Z Z Z Wz Z Z (AR.step Z Z Z (AO.gB (l:=l1) Z Z Z Z QI Z Z (cs 1 Z ?_)))));refine AR.nil [1,5,7,8,9,10,30,31,38,39,40] Z (AW.block (AW.settle [1,5,7,8,9,10,30,31,38,39,40] Z ?_));refine AW.aeF (fun k1 Va=>[(1,.str s1),(5,pP b5),(7,pP b7),(8,.fn 61 [pP b5,pP b7]),(9,iP i1),(10,.val v2),(30,iP (s1.length:Int)),(31,iP i1),(38,.list (List.map bA.cells l1)),(39,iP (l1.length:Int)),(40,iP k1)]) (fun k1 Va=>[.buf v2 Va.length 1 4 (List.map PV.bool Va),.box b5 [.list (List.map bA.cells l1)],.box b7 [.val v1],.buf v1 a1.length 1 4 (List.map PV.bool a1)]) (fun Ea k1 Va=>nE l1 s1 i1 a1 (nG l1 s1 dG) Ea k1 Va=some r0) BIG 0 nx0 Z Z hf (fun _ _ hz=>jS hz) ?_;intro Ea k1 Va hf;rw[nE]at hf;refine AW.sr (cs 1 Z (AR.nil [1,5,7,8,9,10,30,31,38,39,40,41] Z (AW.seq ?_)));refine AW.cond Z (fun h9=>?_) (fun h9=>?_)
  ·replace hf:=nC h9 hf;refine AW.skip (AW.seq (AW.block (AW.sr ?_)));refine cs 1 Z ?_;refine B1 hf fun x1 h10 hf=>AR.step Z Z Z (AO.fM h10 Z Z Z Z QI (bA.bn _) Z (cs 1 Z (AR.step Z Z Z (AO.bQ Z Z7 (fun b12=>(cs 1 Z ?_))))));refine AR.bO Z Z (AO.eH (i:=0) Z Z Z alg Z Z Z Z Z (AR.nil [1,5,7,8,9,10,11,12,30,31,38,39,40] Z (AW.seq (AW.seq ?_))));refine AW.draw 14 mixed (by kernel_rfl) Z ?_;refine Ev.cons Z Z Z (AO.dP (i:=3) Z Z Z F9 Z Z zg) (Ev.cs fK 1 Z ?_);refine B1 hf fun c1 h11 hf=>Ev.cons Z Z Z (AO.l5 (i:=4) h11 Z Z Z Z Ho zg) (Ev.cons Z Z Z (AO.Iw (i:=4) h11 Z Z Z RY zg) (Ev.cs fK 2 Z ?_));refine B1 hf fun c3 h12 hf=>Ev.Cm hKA 8 50 58 false [1,5,7,8,9,10,11,12,30,31,38,39,40] (.bool c3) Z Z (fun MN=>?_) (fun MN=>?_) ?_
   ·replace h12:=mO MN h12;refine Ev.is hKL 50 MN Z (Ev.cs fK 1 Z (Ev.run Z Z Z Z Z Z Z (AO.dP (i:=0) Z Z Z alh Z Z zg) (Ev.cs fK 2 Z ?_)));refine B1 h12 fun c4 OP h12=>Ev.run Z Z Z Z Z Z Z (AO.r9 OP Z qP Z Z zg) ?_;refine B1 h12 fun c2 h15 h12=>Ev.run Z Z Z Z Z Z Z (AO.call Z _ Z Z alF ((Rs _ _).h h15 zg)) (Ev.cs fK 1 Z ?_);cases h12;refine Ev.cs fK 1 Z ?_;exact Ev.nil (Less.settle (ps:=[58,1,5,7,8,9,10,11,12,30,31,38,39,40]) Z)
   ·replace h12:=nC MN h12;refine Ev.is hKL 50 MN Z ?_;cases h12;refine Ev.cs fK 8 Z ?_;exact Ev.nil (Less.settle (ps:=[58,1,5,7,8,9,10,11,12,30,31,38,39,40]) Z)
   refine Ev.nil ?_;show AR _ _ _ _ _ _ _ _;refine AR.nil [1,5,7,8,9,10,11,12,30,31,38,39,40,58] Z (AW.cond Z (fun h16=>?_) (fun h16=>?_))
   ·replace hf:=nC h16 hf;refine AW.exit (AW.VA 0 Z (AW.region (cs 2 Z ?_)));refine AR.nil [1,5,7,8,9,10,30,31,38,39,40] Z ?_;exact⟨(bq (k1+1)),Va,Z,Z,Z,hf⟩
   replace hf:=mO h16 hf;refine AW.skip (AW.sr (cs 1 Z (AR.step Z Z Z (AO.dP (i:=0) Z Z Z RY Z Z ?_))));refine AR.nil [1,5,7,8,9,10,11,30,31,38,39,40,60] Z (AW.cond Z (fun h17=>?_) (fun h17=>?_))
   ·replace hf:=nC h17 hf;refine AW.region (cs 2 Z ?_);refine B1 hf fun c5 h18 hf=>AR.step Z Z Z (AO.l5 (i:=1) h18 Z Z Z Z Ho ?_);refine B1 hf fun nx2 h19 hf=>AR.bO Z Z (AO.EC (i:=1) h18 h19 Z Z Z RY Z Z (AR.drop1 (AR.nil [1,5,7,8,9,10,30,31,38,39,40] Z (AW.region ?_))));refine cs 2 Z (AR.nil [1,5,7,8,9,10,30,31,38,39,40] Z ?_);exact⟨(bq (k1+1)),nx2,Z,Z,Z,hf⟩
   replace hf:=mO h17 hf;refine AW.region (cs 3 Z ?_);refine B1 hf fun c5 h18 hf=>AR.step Z Z Z (AO.l5 (i:=1) h18 Z Z Z Z Ho ?_);refine B1 hf fun nx2 h19 hf=>AR.bO Z Z (AO.EC (i:=1) h18 h19 Z Z Z RY Z Z (AR.drop1 (AR.nil [1,5,7,8,9,10,30,31,38,39,40] Z (AW.region ?_))));refine cs 2 Z (AR.nil [1,5,7,8,9,10,30,31,38,39,40] Z ?_);exact⟨(bq (k1+1)),nx2,Z,Z,Z,hf⟩
  replace hf:=mO h9 hf;refine AW.exit (AW.VA 3 Z (AW.sr (cs 1 Z ?_)));refine AR.VF 0 Z (fun hv3 hv4=>(AR.bO Z Z (AO.eH (i:=2) Z Z Z F9 hv3 hv4 Z Z Z (AR.nil [1,5,7,8,30,31] Z (AW.region ?_)))));refine cs 1 Z ?_;refine B1 hf fun a3 h20 hf=>AR.step Z Z Z (AO.call Z _ Z Z aiB (AC.perm (σ:=[.box b5 [.list (List.map bA.cells l1)],.box b7 [.val v2],.buf v2 Va.length 1 4 (List.map PV.bool Va)]) ajO (NZ l1 Va h20 (AR.nil [1,5,7,8,30,31] Z (AW.region (cs 2 Z ?_))))));refine AR.nil [1,5,7,8,30,31] Z ?_;exact⟨(bq (i1+1)),a3,v2,Z,Z,Z,hf⟩
 replace hf:=mO h7 hf;refine AW.exit (AW.sr (AR.step Z Z Z (AO.dP (i:=1) Z Z Z F9 Z Z (AR.step Z Z Z (AO.dP (i:=0) Z Z Z Wz Z Z ?_)))));refine AR.step Z Z Z (AO.gB (l:=l1) Z Z Z Z QI Z Z (AR.step Z Z Z (AO.l5 (i:=2) hf Z Z Z Z Ho (AR.step Z Z Z (AO.Iw (i:=2) hf Z Z Z RY (cs 1 Z ?_))))));refine AR.nil [4] Z (AW.ret ?_);exact⟨rfl,_,⟨_,_,rfl,rfl,rfl⟩,[],apP _,h⟩⟩
instance (jK :List Str) (s1:Str) (n_ je):LE (tQ jK s1 n_ je) (fun j p=>tQ jK s1 j p) n_ je [] [] [] [0,1] (fun v w p=>[(5,iP p)]) (fun v w p s=>s):=⟨Z⟩
instance ZQ(jK:List Str)(s1:Str):CT Tryz.prog (Ct jK s1) (fun r=>.ret (.bool r)) 31 [sP jK,.str s1]:=by
  unfold Ct;exact Z1 ⟨34,[],[]⟩ Z Tryz.func31 Z Z Z Z
theorem FP{β:Type}(l:Nat)(T:β→List aS→Prop)(y:β→aP→Option (Bool × β))(hy:∀s x1 b s2 τ,y s x1=some (b,s2)→T s τ→AY Tryz.prog l [.agg (NT x1)] τ (fun out σ'=>out=.ret (.bool b)∧T s2 σ'))
  (fs1:List aP) (ps1:List Str) {s1 s2:β} (hf:sw y s1 fs1 ps1=some s2) {τ:List aS} (hT:T s1 τ) {Q:dO→List aS→Prop} (h:∀τ',T s2 τ'→Q (.ret (.tuple [])) τ'):
  PC 30 [.val (.func (.yield l) #[] #[]),.ref [.list (List.map aP.cells fs1)],.ref [sP ps1]] τ Q:=by
 unfold sw at hf;refine AC.kE 23 [] [0,1,2] Tryz.func30 Z Z Z Z Z (AW.sr (AR.step Z Z Z (AO.GQ Z Z alj Z (AR.step Z Z Z (AO.gB (l:=fs1) Z Z Z Z aiW Z Z ?_)))));refine cs 1 Z (AR.nil [0,2,6,7,8] Z (AW.block (AW.aeE (fun(s:β) (τ0:List aS) (i1:Int)=>[(0,.val (.func (.yield l) #[] #[])),(2,.ref [sP ps1]),(6,.list (List.map aP.cells fs1)),(7,iP (fs1.length:Int)),(8,iP i1)]) (fun s τ0 i1=>τ0) (fun dG s τ0 i1=>jl y fs1 ps1 dG s i1=some s2∧T s τ0) BIG s1 τ 0 Z Z ⟨hf,hT⟩ (fun _ _ _ hz=>jS hz.1) ?_)));intro dG s3 τ3 i1 hfI;obtain⟨hf,hT⟩:=hfI;rw[jl]at hf;refine AW.sr (cs 1 Z (AR.nil [0,2,6,7,8,9] Z (AW.seq ?_)));refine AW.cond Z (fun h1=>?_) (fun h1=>?_)
 ·replace hf:=nC h1 hf;refine AW.skip (AW.seq (AW.block (AW.sr ?_)));refine B1 hf fun p1 h2 hf=>?_;refine AR.step Z Z Z (AO.fM h2 Z Z Z Z aiW (aP.bn _) Z (cs 1 Z (AR.step Z Z Z (AO.bQ Z ais (fun b5=>(AR.bO Z Z (AO.eH (i:=0) Z Z Z adP Z Z Z Z Z ?_)))))));refine AR.nil [0,2,5,6,7,8] Z ?_;refine B1 hf fun b1 h3 hf=>?_;refine AW.seq (AW.aaz (Ez.step Z Z Z Z (AO.GQ Z Z alk Z (Ez.step Z Z Z Z (AO.bP Z Z ahM ?_)))));refine Ez.step Z Z Z Z (AO.dP (i:=0) Z Z Z ajx Z Z (Ez.step Z Z Z Z (AO.call Z _ Z Z alK ((ZQ _ _).h h3 (Ez.step Z Z Z Z (AO.calc' Z ?_))))));cases b1 with
  | false=>
   replace hf:=mO Z hf;refine Ez.of Z (cs 5 Z (AR.drop1 (AR.nil [0,2,6,7,8,21] Z ?_)));refine AW.cond Z (fun hh=>by cases hh) (fun _=>?_);refine AW.skip (AW.region (cs 2 Z (AR.nil [0,2,6,7,8] Z ?_)));exact⟨s3,τ3,(bq (i1+1)),Z,Z,Z,hf,hT⟩
  | true=>
   replace hf:=nC Z hf;obtain⟨b2,s4,h4,hf⟩:=lI hf;refine Ez.run Z Z Z Z (Ez.step Z Z Z Z (AO.calc' Z (Ez.run Z Z Z Z (Ez.step Z Z Z Z (AO.dP (i:=0) Z Z Z adP Z Z ?_)))));refine Ez.drop1 (Ez.run Z Z Z Z (Ez.ajo Z Z Z Z Z _ Z Z (hy _ _ _ _ _ h4 hT) fun τ4 hT4=>(Ez.of Z ?_)));refine cs 2 Z (AR.nil [0,2,6,7,8,21] Z (AW.cond Z (fun h5=>?_) (fun h5=>?_)))
   ·cases nC h5 hf;refine AW.ret ?_;exact⟨rfl,_,rfl,_,List.Sublist.refl _,h _ hT4⟩
   ·replace hf:=mO h5 hf;refine AW.skip (AW.region (cs 2 Z (AR.nil [0,2,6,7,8] Z ?_)));exact⟨s4,τ4,(bq (i1+1)),Z,Z,Z,hf,hT4⟩
 ·cases mO h1 hf;refine AW.exit ?_;exact⟨rfl,_,rfl,_,List.Sublist.refl _,h _ hT⟩
theorem I6(fs1:List aP)(ps1:List Str)(h:Q (.ret (.fn 30 [.ref [.list (List.map aP.cells fs1)],.ref [sP ps1]])) τ):PC 21 [.list (List.map aP.cells fs1),sP ps1] τ Q:=by
 refine BN 6 [.tmp 4] [0,1] Tryz.func21 Z Z Z Z Z ?_;exact M 5 Z (Y Z h)
instance H_(lu:BitVec 32)(CR:BitVec 32)(i1:BitVec 32):CT Tryz.prog (yx lu CR i1) (fun r=>.ret (.int .u32 (r.toNat:Int))) 47 [.int .u32 (lu.toNat:Int),.int .u32 (CR.toNat:Int),.int .u32 (i1.toNat:Int)]:=⟨zP rfl,fun {r0} hf {τ Q} h=>by
 unfold yx at hf;refine BN 18 [.tmp 6] [0,1,2] Tryz.func47 Z Z Z Z Z (W 3 Z (AS Z (AO.u32_xor lu CR Z Z Z Z Z ?_)));refine B1 hf fun x1 h1 hf=>AS Z (AO.adI (lu ^^^ CR) (2654435761:BitVec 32) h1 Z Z Z Z Z (U 1 Z (AS Z (AO.agP x1 i1 Z Z Z Z Z (U 3 Z (AS Z (AO.agN (x1+i1) 16 Z Z Z Z Z (AS Z (AO.u32_xor (x1+i1) ((x1+i1) >>> 16) Z Z Z Z Z ?_)))))))));cases hf;exact N 1 Z (Y Z h)⟩
instance LJ(key1:BitVec 64)(x1:BitVec 64):CT Tryz.prog (zm key1 x1) (fun r=>.ret (.int .u64 (r.toNat:Int))) 32 [.int .u64 (key1.toNat:Int),.int .u64 (x1.toNat:Int)]:=⟨zP rfl,fun {r0} hf {τ Q} h=>by
 unfold zm at hf;refine BN 41 [.tmp 4] [0,1] Tryz.func32 Z Z Z Z Z (W 2 Z (AS Z (AO.zw x1 32 Z Z Z Z Z (AS Z (AO.Ow (x1 >>> 32) Z DU F7 Z Z (U 1 Z (AS Z (AO.Ow x1 Z DU F7 Z Z ?_))))))));refine J 3 Z (LK3 (fun l1 lu i1=>[(0,.int .u64 (key1.toNat:Int)),(5,.int .u32 (l1.toNat:Int)),(6,.int .u32 (lu.toNat:Int)),(14,iP i1)]) (fun l1 lu i1=>[]) (fun dG l1 lu i1=>pR key1 dG l1 lu i1=some r0) BIG (BitVec.setWidth 32 (x1 >>> 32)) (BitVec.setWidth 32 x1) 0 Z Z hf (fun _ _ _ hz=>jS hz) ?_);intro dG l1 lu i1 hf;rw[pR]at hf;refine V 1 Z (C hf Z (fun h1 hf=>?_) fun h1 hf=>?_)
 ·refine W 3 Z (AS Z (AO.Ow key1 Z DU F7 Z Z (U 2 Z (AS Z (AO.rem Z Z Z (by decide) ?_)))));refine J 1 Z (C hf Z (fun h2 hf=>?_) fun h2 hf=>?_)
  ·refine W 1 Z (AS Z (AO.zw key1 32 Z Z Z Z Z (AS Z (AO.Ow (key1 >>> 32) Z DU F7 Z Z (U 7 Z (AS Z (AO.adN Z UC F7 Z ?_)))))));refine B1 hf fun x2 h3 hf=>CL Z ((H_ _ _ _).h h3 (AS Z (AO.u32_xor l1 x2 Z Z Z Z Z ?_)));exact N 4 Z ⟨lu,(l1 ^^^ x2),(bq (i1+1)),Z,Z,Z,hf⟩
  refine W 6 Z (AS Z (AO.adN Z UC F7 Z ?_));refine B1 hf fun x3 h4 hf=>CL Z ((H_ _ _ _).h h4 (AS Z (AO.u32_xor l1 x3 Z Z Z Z Z ?_)));exact N 4 Z ⟨lu,(l1 ^^^ x3),(bq (i1+1)),Z,Z,Z,hf⟩
 refine W 1 Z (AS Z (AO.UE l1 Z F7 DU Z Z (AS Z (AO.Ih (BitVec.setWidth 64 l1) 32 Z Z Z Z Z (U 1 Z (AS Z (AO.UE lu Z F7 DU Z Z ?_)))))));refine BR hf fun x4 h5 hf=>?_;refine AS Z (AO.Kv ((BitVec.setWidth 64 l1) <<< 32) (BitVec.setWidth 64 lu) h5 Z Z Z Z Z ?_);cases hf;exact N 1 Z (Y Z h)⟩
instance LH(b1:List UInt8):CT Tryz.prog (t_ b1) (fun r=>.ret (.int .u64 (r.toNat:Int))) 22 [.list (List.map fF b1)]:=⟨zP rfl,fun {r0} hf {τ Q} h=>by
 unfold t_ at hf;refine BN 44 [.tmp 2] [0] Tryz.func22 Z Z Z Z Z (W 2 Z (AS Z (AO.gB (l:=b1) Z Z Z Z Cx Z Z (AS Z (AO.YS Z UC DU Z ?_)))));refine B1 hf fun x1 h1 hf=>CL Z ((LJ _ _).h h1 (J 1 Z (LK2 (fun b2 x2=>[(0,.list (List.map fF b2)),(3,.int .u64 (x2.toNat:Int))]) (fun b2 x2=>[]) (fun dG b2 x2=>nH dG b2 x2=some r0) BIG b1 x1 Z Z hf (fun _ _ hz=>jS hz) ?_)));intro dG b2 x2 hf;rw[nH]at hf;refine W 1 Z (AS Z (AO.gB (l:=b2) Z Z Z Z Cx Z Z (J 1 Z (C hf Z (fun h2 hf=>?_) fun h2 hf=>?_))))
 ·refine W 1 Z (AS Z (AO.gB (l:=b2) Z Z Z Z Cx Z Z (AS Z (AO.min2 Z Z Z Z Z ?_))));refine B1 hf fun x3 h3 hf=>U 4 Z (AS Z (AO.KC h3 Z Cx Z Z Z (fun _=>Z) Z ⟨_,Z⟩ (AS Z (AO.gB (l:=x3) Z Z Z Z Cx Z Z (J 1 Z (LK2 (fun g1 i1=>[(0,.list (List.map fF b2)),(3,.int .u64 (x2.toNat:Int)),(4,iP (if (b2.length:Int)<8 then (b2.length:Int)else 8)),(5,.int .u64 (g1.toNat:Int)),(20,.list (List.map fF x3)),(21,iP (x3.length:Int)),(22,iP i1)]) (fun g1 i1=>[]) (fun Ea g1 i1=>rO b2 x2 x3 (nH dG) Ea g1 i1=some r0) BIG 0 0 Z Z hf (fun _ _ hz=>jS hz) ?_))))));intro Ea g1 i1 hf;rw[rO]at hf;refine V 1 Z (C hf Z (fun h4 hf=>?_) fun h4 hf=>?_)
  ·refine B1 hf fun c1 h5 hf=>W 1 Z (AS Z (AO.fM h5 Z Z Z Z Cx Z Z (U 5 Z (AS Z (AO.UE c1.toBitVec Z YN DU Z Z ?_)))));refine B1 hf fun _ h6 hf=>U 2 Z (AS Z (AO.Ih (BitVec.setWidth 64 c1.toBitVec) (Int.toNat (bq (8*i1))) Z Z Z Z (by have:=HY h6;simp only[anZ]at this;exact(apT this).symm) ?_));refine B1 hf fun g2 h7 hf=>AS Z (AO.Kv g1 ((BitVec.setWidth 64 c1.toBitVec) <<< (Int.toNat (bq (8*i1)))) h7 Z Z Z Z Z ?_);exact N 3 Z ⟨g2,(bq (i1+1)),Z,Z,Z,hf⟩
  refine B1 hf fun x4 h8 hf=>W 2 Z (CL Z ((LJ _ _).h h8 (U 1 Z (AS Z (AO.u64_xor x4 g1 Z Z Z Z Z ?_)))));refine B1 hf fun b3 h9 hf=>U 3 Z (AS Z (AO.KC h9 Z Cx Z Z Z (fun _=>Z) ⟨_,Z⟩ Z ?_));exact N 1 Z ⟨b3,(x4 ^^^ g1),Z,Z,Z,hf⟩
 cases hf;exact M 2 Z (Y Z h)⟩
instance Yp(Vh:Str)(nS:List (BitVec 64)):CT Tryz.prog (zl Vh nS) (fun r=>.ret (.int .u64 (r.toNat:Int))) 18 [.str Vh,.list (List.map abB nS)]:=⟨zP rfl,fun {r0} hf {τ Q} h=>by
 unfold zl at hf;refine BN 34 [.tmp 4] [0,1] Tryz.func18 Z Z Z Z Z ?_;refine B1 hf fun x1 h1 hf=>W 2 Z (AS Z (AO.Pk h1 Z qP adB YN Z (fun v1=>(AS Z (AO.jm (List.map fF ([0]:List UInt8)) Z KD Z Z Z Z ?_)))));refine B1 hf fun b1 h2 hf=>AS Z (AO.ng (i:=0) (l:=x1) (m:=([0]:List UInt8)) h2 Z Z Z Z Z Z Z KD Cx Z Z Z (fun _=>Z) (fun _=>Z) (by decide) (fun v2 s1 hs1=>?_));cases hs1;refine U 2 Z (AS Z (AO.gB (l:=nS) Z Z Z Z ae_ Z Z (J 1 Z (LK3 (fun b2 v3 x2=>[(5,.own v3 (List.map fF b2)),(13,.list (List.map abB nS)),(14,iP (nS.length:Int)),(15,iP x2)]) (fun b2 v3 x2=>[.row v3 (List.map fF b2).length 1 5]) (fun dG b2 v3 x2=>pE nS dG b2 x2=some r0) BIG b1 v2 0 Z Z hf (fun _ _ _ hz=>jS hz) ?_))));intro dG b2 v3 x2 hf;rw[pE]at hf;refine V 1 Z (C hf Z (fun h3 hf=>?_) fun h3 hf=>?_)
 ·refine B1 hf fun d1 h4 hf=>W 0 Z (AS Z (AO.fM h4 Z Z Z Z ae_ Z Z (J 3 Z (LK3 (fun b3 v4 i1=>[(5,.own v4 (List.map fF b3)),(7,.int .u64 (d1.toNat:Int)),(13,.list (List.map abB nS)),(14,iP (nS.length:Int)),(15,iP x2),(19,iP i1)]) (fun b3 v4 i1=>[.row v4 (List.map fF b3).length 1 5]) (fun Ea b3 v4 i1=>uX x2 d1 (pE nS dG) Ea b3 i1=some r0) BIG b2 v3 0 Z Z hf (fun _ _ _ hz=>jS hz) ?_))));intro Ea b3 v4 i1 hf;rw[uX]at hf;refine V 1 Z (C hf Z (fun h5 hf=>?_) fun h5 hf=>?_)
  ·refine B1 hf fun _ h6 hf=>W 6 Z (AS Z (AO.zw d1 (Int.toNat (bq (8*i1))) Z Z Z Z (by have:=HY h6;simp only[anZ]at this;exact(apT this).symm) ?_));refine AS Z (AO.ajw (d1 >>> (Int.toNat (bq (8*i1)))) Z alc YN Z Z (AS Z (AO.jm (List.map fF ([(UInt8.ofBitVec (BitVec.setWidth 8 (d1 >>> (Int.toNat (bq (8*i1))))))]:List UInt8)) Z KD Z Z Z Z ?_)));refine B1 hf fun b4 h7 hf=>AS Z (AO.ng (i:=0) (l:=b3) (m:=([(UInt8.ofBitVec (BitVec.setWidth 8 (d1 >>> (Int.toNat (bq (8*i1))))))]:List UInt8)) h7 Z Z Z Z Z Z Z KD Cx Z Z Z (fun _=>Z) (fun _=>Z) (by decide) (fun v5 s2 hs2=>?_));cases hs2;exact N 3 Z ⟨b4,v5,(bq (i1+1)),Z,Z,Z,hf⟩
  exact M 2 Z ⟨b3,v4,(bq (x2+1)),Z,Z,Z,hf⟩
 refine BR hf fun x3 h8 hf=>?_;refine W 1 Z (CL Z ((LH _).h h8 ?_));cases hf;exact N 1 Z (Y Z h)⟩
instance Ot(qo:List aP)(jK:List Str):CT Tryz.prog (nI qo jK) (fun r=>.ret (.int .u64 (r.toNat:Int))) 10 [.list (List.map aP.cells qo),sP jK]:=⟨zP rfl,fun {r0} hf {τ Q} h=>by
 unfold nI at hf;refine B1 hf fun nS h1 hf=>AC.none (AC.Za 22 [.tmp 4] [0,1] Tryz.func10 Z Z Z Z Z (AW.sr (cs 1 Z ?_)));refine AR.nil [0,1] Z (AW.sr (AR.step Z Z Z (AO.bQ Z ak6 (fun b5=>(AR.nil [0,1,5] Z ?_)))));refine AW.row 1 44 (AW.seq (AW.sr (cs 2 Z ?_)));refine AR.step Z Z Z (AO.call Z _ Z Z alR (I6 _ _ (AR.nil [5,9] Z (AW.block (AW.Y4 (β:=List (BitVec 64)) (X:=aP) Z alL (fun x1=>[.agg (NT x1)]) (fun _=>Z) (by decide) mM (fun l τ=>∃v,τ=[.row v (List.map abB l).length 1 44,.box b5 [.own v (List.map abB l)]]) (fun _=>none) (s0:=[]) (s1:=nS) ⟨.slice none 0 0,Z⟩ Z ?_ ?_ ?_)))))
 ·intro l T' hy τ hT;refine FP l T' mM hy qo jK h1 hT fun τ' hT'=>?_;exact⟨⟨_,Z⟩,hT'⟩
 ·rintro l s x1 b s2 _ hh ⟨v0,rfl⟩;unfold mM at hh;obtain⟨b1,h2,hh⟩:=jE hh;obtain⟨d1,h3,hh⟩:=jE hh;obtain⟨s3,h4,hh⟩:=jE hh;cases hh;refine⟨Z,(vF.region Z (AR.step Z Z Z (AO.bQ Z ais (fun b6=>(AR.bO Z Z (AO.eH (i:=0) Z Z Z adP Z Z Z Z Z ?_))))))⟩;refine AR.nil [5,6] Z (⟨Z,(vF.block (vF.drawn mixed Z ?_))⟩);refine AD.draw 8 (by kernel_rfl) Z ?_;refine Ev.cons Z Z Z (AO.dP (i:=2) Z Z Z adQ Z Z zg) (Ev.cs fK 1 Z (Ev.cons Z Z Z (AO.dP (i:=0) Z Z Z ajx Z Z zg) (Ev.cons Z Z Z (AO.YV h2 Z qP adB YN Z zg) ?_)));refine Ev.cons Z Z Z (AO.call Z _ Z Z alQ ((LH _).h h3 zg)) (Ev.cs fK 1 Z (Ev.cons Z Z Z (AO.dP (i:=0) Z Z Z ali Z Z zg) (Ev.cons Z Z Z (AO.jm (List.map abB ([d1,x1.digest]:List (BitVec 64))) Z aiw Z Z Z Z zg) ?_)));refine Ev.nil ?_;show AR _ _ _ _ _ _ _ _;refine AR.step Z Z Z (AO.ng (i:=1) (l:=s) (m:=([d1,x1.digest]:List (BitVec 64))) h4 Z Z Z Z Z Z Z aiw ae_ Z Z Z (fun _=>Z) (fun _=>Z) (by decide) (fun v2 s1 hs1=>?_));cases hs1;refine AR.bO Z Z (AO.eH (i:=2) Z Z Z adQ Z Z Z Z Z (AR.nil [] Z ?_));exact⟨Z,⟨_,.cons _ (List.Sublist.refl _),v2,Z⟩,Z,Z⟩
 rintro D _ ⟨v0,rfl⟩;show AW _ _ _ _ _ _ _
 refine AW.sr (AR.step Z Z Z (AO.dP (i:=1) Z Z Z adQ Z Z (AR.step Z Z Z (AO.call Z _ Z Z alS ((Yp _ _).h hf (cs 1 Z ?_))))));refine AR.nil [4] Z (AW.ret ?_);exact .inr ⟨D,[_,_],Z,Z,_,⟨_,_,Z,Z,Z⟩,[],apP _,h⟩⟩
instance SC(d1:BitVec 64):CT Tryz.prog (pz d1) (fun r=>.ret (.str r)) 9 [.int .u64 (d1.toNat:Int)]:=⟨zP rfl,fun {r0} hf {τ Q} h=>by
 unfold pz at hf;refine BN 20 [.tmp 2] [0] Tryz.func9 Z Z Z Z Z (W 1 Z (AS Z (AO.bQ Z ak7 (fun b3=>?_))));refine J 1 Z (LK2 (fun i1 b1=>[(0,.int .u64 (d1.toNat:Int)),(3,pP b3),(5,iP i1)]) (fun i1 b1=>[.box b3 [.int .u8 ((b1.getD 0 0).toNat:Int),.int .u8 ((b1.getD 1 0).toNat:Int),.int .u8 ((b1.getD 2 0).toNat:Int),.int .u8 ((b1.getD 3 0).toNat:Int),.int .u8 ((b1.getD 4 0).toNat:Int),.int .u8 ((b1.getD 5 0).toNat:Int),.int .u8 ((b1.getD 6 0).toNat:Int),.int .u8 ((b1.getD 7 0).toNat:Int),.int .u8 ((b1.getD 8 0).toNat:Int),.int .u8 ((b1.getD 9 0).toNat:Int),.int .u8 ((b1.getD 10 0).toNat:Int),.int .u8 ((b1.getD 11 0).toNat:Int),.int .u8 ((b1.getD 12 0).toNat:Int),.int .u8 ((b1.getD 13 0).toNat:Int),.int .u8 ((b1.getD 14 0).toNat:Int),.int .u8 ((b1.getD 15 0).toNat:Int)]]) (fun dG i1 b1=>qx d1 dG i1 b1=some r0) BIG 0 ([0,0,0,0,0,0,0,0,0,0,0,0,0,0,0,0]:List UInt8) Z Z hf (fun _ _ hz=>jS hz) ?_);intro dG i1 b1 hf;rw[qx]at hf;refine V 1 Z (C hf Z (fun h1 hf=>?_) fun h1 hf=>?_)
 ·refine B1 hf fun _ h2 hf=>W 7 Z (AS Z (AO.zw d1 (Int.toNat (bq (60-(bq (4*i1))))) Z Z Z Z (by have:=HY h2;simp only[anZ]at this;exact(apT this).symm) ?_));refine B1 hf fun x1 h3 hf=>AS Z (AO.Pe (d1 >>> (Int.toNat (bq (60-(bq (4*i1)))))) (15:BitVec 64) h3 Z Z Z Z Z ?_);refine B1 hf fun x2 h4 hf=>AS Z (AO.r9 h4 Z qP Z Z ?_);refine B1 hf fun e1 h5 hf=>AS Z (AO.Qy h5 Z ai9 Z Z Z ?_);refine B1 hf fun b2 h6 hf=>AR.bO Z Z (AO.Jz (i:=0) (fun z:UInt8=>.int .u8 (z.toNat:Int)) 0 h5 h6 Z Z Z anl Z Z Z Z Z Z ?_);exact N 2 Z ⟨(bq (i1+1)),([(b2.getD 0 0),(b2.getD 1 0),(b2.getD 2 0),(b2.getD 3 0),(b2.getD 4 0),(b2.getD 5 0),(b2.getD 6 0),(b2.getD 7 0),(b2.getD 8 0),(b2.getD 9 0),(b2.getD 10 0),(b2.getD 11 0),(b2.getD 12 0),(b2.getD 13 0),(b2.getD 14 0),(b2.getD 15 0)]:List UInt8),Z,Z,Z,hf⟩
 refine W 0 Z (AS Z (AO.abM Z ai9 Z (AS Z (AO.Sq (i:=0) (s:=([(b1.getD 0 0),(b1.getD 1 0),(b1.getD 2 0),(b1.getD 3 0),(b1.getD 4 0),(b1.getD 5 0),(b1.getD 6 0),(b1.getD 7 0),(b1.getD 8 0),(b1.getD 9 0),(b1.getD 10 0),(b1.getD 11 0),(b1.getD 12 0),(b1.getD 13 0),(b1.getD 14 0),(b1.getD 15 0)]:List UInt8)) Z adB YN qP Z Z Z Z ?_))));cases hf;exact N 1 Z (Y Z h)⟩
instance LB(s1:List aD):CT Tryz.prog (cO s1) (fun r=>.ret (.list (List.map aD.cells r))) 28 [.list (List.map aD.cells s1)]:=⟨zP rfl,fun {r0} hf {τ Q} h=>by
 unfold cO at hf;refine BN 8 [.tmp 2] [0] Tryz.func28 Z Z Z Z Z (W 0 Z (AS Z (AO.kX Z Z (U 1 Z (AS Z (AO.yj Z Z adC (fun b hb=>(J 0 Z (AW.cond Z (fun h1=>?_) (fun h1=>?_))))))))))
 ·obtain rfl:s1=[]:=apR.1 (hb h1);obtain⟨_,rfl⟩:=uo hf;refine W 0 Z (AS Z (AO.kX Z Z ?_));exact N 0 rfl ⟨rfl,_,⟨_,_,rfl,rfl,rfl⟩,_,List.Sublist.refl _,h⟩
 refine W 0 Z (AS Z (AO.rA [] Z Ja Z Z Z Z Z (fun v1=>(U 1 Z (AS Z (AO.ng (i:=0) (l:=[]) (m:=s1) hf Z Z Z Z Z Z Z Ja Dn Z Z Z (aD.dV) (aD.cells_one) (by decide) (fun v2 s2 hs2=>?_)))))));cases hs2;exact N 1 Z (Y Z h)⟩
theorem vC(s1:List aD){r0:List aD}(hf:cO s1=some r0){Q:dO→List aS→Prop}(h:∀v,Q (.ret (.val v)) [.buf v r0.length 7 37 (r0.flatMap aD.cells)]):PC 28 [.list (List.map aD.cells s1)] [] Q:=by
 unfold cO at hf;obtain⟨hl,e0⟩:=uo hf;rw[List.nil_append]at e0;subst e0;simp only[List.length_nil,Nat.zero_add]at hl;have hlen:∀x:aD,(aD.cells x).length=7:=fun _=>Z;have hone:∀x:aD,(aD.cells x).all PV.one=true:=fun _=>Z;refine AC.kE 8 [.tmp 2] [0] Tryz.func28 Z Z Z Z Z (AW.sr (AR.step Z Z Z (AO.kX Z Z (AR.nil [0] Z ?_))));refine AW.seq (AW.sr (cs 1 Z (AR.step Z Z Z (AO.yj Z Z adC (fun b hb=>?_)))));refine AR.nil [0,4] Z (AW.cond Z (fun h1=>?_) (fun h1=>?_))
 ·obtain rfl:r0=[]:=apR.1 (hb h1);refine AW.sr (AR.step Z Z Z (AO.U7 Z Z (AR.nil [2] Z (AW.aoh 7 37 ?_))));refine AW.ret ?_;exact⟨rfl,_,⟨_,_,rfl,rfl,rfl⟩,_,List.Sublist.refl _,h _⟩
 refine AW.skip (AW.sr (AR.step Z Z Z (AO.rA [] Z Ja Z Z Z Z Z (fun v1=>(cs 1 Z ?_)))));refine AR.step Z Z Z (AO.ZK (i:=0) (l2:=List.map aD.cells r0) Z Z Z Z Z Z Z Ja Dn (fun y hy=>?_) (fun y hy=>?_) ?_ ?_ (fun v2 s1 hs1=>?_))
 ·obtain⟨s,_,rfl⟩:=List.mem_map.1 hy;exact hlen s
 ·obtain⟨s,_,rfl⟩:=List.mem_map.1 hy;exact hone s
 ·rw[apS];unfold w9 at hl;unfold maxLen;omega
 ·rw[apS];unfold w9 at hl;omega
 cases hs1;refine cs 1 Z (AR.nil [2] Z (AW.ret ?_));have hv:=h v2;rw[List.flatMap_def,show r0.length=(List.map aD.cells r0).length from (apS _).symm]at hv;exact⟨rfl,_,⟨_,_,rfl,rfl,rfl⟩,_,List.Sublist.refl _,hv⟩
theorem vB(s1:List aD){r0:List aD}(hf:cO s1=some r0){Q:dO→List aS→Prop}(h:∀v,Q (.ret (.own v (List.map aD.cells r0))) [.row v (List.map aD.cells r0).length 7 37]):PC 28 [.list (List.map aD.cells s1)] [] Q:=by
 unfold cO at hf;refine AC.P9 8 [.tmp 2] [0] Tryz.func28 Z Z Z Z Z (AW.sr (AR.step Z Z Z (AO.kX Z Z (AR.nil [0] Z ?_))));refine AW.seq (AW.sr (cs 1 Z (AR.step Z Z Z (AO.yj Z Z adC (fun b hb=>?_)))));refine AR.nil [0,4] Z (AW.cond Z (fun h1=>?_) (fun h1=>?_))
 ·obtain rfl:s1=[]:=apR.1 (hb h1);obtain⟨_,rfl⟩:=uo hf;refine AW.sr (cs 1 Z (AR.nil [2] Z (AW.row 7 37 ?_)));refine AW.ret ?_;exact⟨rfl,_,⟨_,_,rfl,rfl,rfl⟩,_,List.Sublist.refl _,h _⟩
 refine AW.skip (AW.sr (AR.step Z Z Z (AO.rA [] Z Ja Z Z Z Z Z (fun v1=>(cs 1 Z ?_)))));refine AR.step Z Z Z (AO.ng (i:=0) (l:=[]) (m:=s1) hf Z Z Z Z Z Z Z Ja Dn Z Z Z (aD.dV) (aD.cells_one) (by decide) (fun v2 s2 hs2=>?_));cases hs2;refine cs 1 Z (AR.nil [2] Z (AW.ret ?_));exact⟨rfl,_,⟨_,_,rfl,rfl,rfl⟩,_,List.Sublist.refl _,h v2⟩
section
variable [CS]
instance VT(c1:aQ)(iJ:List aD)(qo:List aP):CT Tryz.prog (jZ c1 iJ qo) (fun r=>.ret (.tuple [.list (List.map aD.cells r.1),iP r.2])) 19 [.agg (zG c1),.list (List.map aD.cells iJ),.list (List.map aP.cells qo)]:=⟨zP rfl,fun {r} hf {τ Q} h=>by
 obtain⟨r0,r1⟩:=r;unfold jZ at hf;refine AC.none (AC.kE 29 [.tmp 6,.tmp 7] [0,1,2] Tryz.func19 Z Z Z Z Z (AW.sr (AR.step Z Z Z (AO.IL Z Z Z ?_))));refine AR.step Z Z Z (AO.kX Z Z (cs 1 Z (AR.nil [1,2,3] Z (AW.seq ?_))));refine AW.sr (cs 1 Z ?_);refine B1 hf fun e1 h1 hf=>?_;refine AR.step Z Z Z (AO.call Z _ Z Z anw ((Nj _).h h1 (cs 1 Z (AR.nil [1,2,3,8] Z (AW.sr ?_)))));refine cs 2 Z (AR.nil [1,2,3,8,13] Z (AW.cond Z (fun h2=>?_) (fun h2=>?_)))
 ·replace hf:=nC h2 hf;refine AW.sr (cs 1 Z (AR.step Z Z Z (AO.kX Z Z (cs 1 Z ?_))));refine AR.nil [6,7] Z (AW.ret ?_);cases hf;exact⟨rfl,_,⟨_,_,rfl,rfl,_,_,rfl,rfl,rfl⟩,[],apP _,h⟩
 ·replace hf:=mO h2 hf;refine AW.skip (AW.seq (AW.sr (cs 1 Z ?_)));refine B1 hf fun x1 h3 hf=>?_;refine AR.step Z Z Z (AO.call Z _ Z Z alO (lJ _ iI 27 [] alN (fun _ _ hz=>(vT _).h hz) h3 (AR.nil [1,2,3,16] Z (AW.cond Z (fun h4=>?_) (fun h4=>?_)))))
  ·replace hf:=nC h4 hf;refine AW.sr (AR.step Z Z Z (AO.kX Z Z (cs 1 Z (AR.nil [6,7] Z ?_))));refine AW.ret ?_;cases hf;exact⟨rfl,_,⟨_,_,rfl,rfl,_,_,rfl,rfl,rfl⟩,[],apP _,h⟩
  ·replace hf:=mO h4 hf;refine AW.skip (AW.sr (cs 3 Z ?_));refine B1 hf fun x2 h5 hf=>?_;refine AR.step Z Z Z (AO.call Z _ Z Z alT ((Ot _ _).h h5 ?_));refine B1 hf fun x3 h6 hf=>?_;refine AR.step Z Z Z (AO.call Z _ Z Z anv ((SC _).h h6 (AR.step Z Z Z (AO.build Z rV YX Z (AR.step Z Z Z (AO.bQ Z rV (fun b9=>(AR.bO Z Z (AO.eH (i:=0) Z Z Z vI Z Z Z Z Z ?_)))))))));refine AR.nil [1,9] Z (AW.seq ?_);refine B1 hf fun x4 h7 hf=>?_;refine AW.aa7 1 5 [] [.box b9 [iP 3,.bool false,iP 0,.str x3,.own (.slice none 0 0) [],.own (.slice none 0 0) []]] (fun S e s=>∃v':Value,e.get 23=.list (List.map aD.cells iJ)∧e.get 9=pP b9∧(S 1=true→e.get 24=.own v' (List.map aD.cells x4))∧(S 2=true→e.get 25=.agg [iP 3,.bool false,iP 0,.str x3,.own (.slice none 0 0) [],.own (.slice none 0 0) []])∧(S 3=true→e.get 26=.agg [.str ([102,105,108,101,115]:Str),iP 3,.bool false,iP 0,.str x3,.own (.slice none 0 0) [],.own (.slice none 0 0) []])∧(S 4=true→e.get 27=.list (List.map aD.cells [(aD.mk ([102,105,108,101,115]:Str) (ah.mk 3 false 0 x3 [] []))]))∧s=(bif S 1 then [.row v' (List.map aD.cells x4).length 7 37]else [])++[.box b9 [iP 3,.bool false,iP 0,.str x3,.own (.slice none 0 0) [],.own (.slice none 0 0) []]]) mixed (by kernel_rfl) Z Z (List.Perm.refl _) ?_ ?_ ?_ ?_
   ·refine Ev.cs fK 1 Z (Ev.nil ?_);exact⟨.nilIface,Z,Z,(fun h=>by cases h),(fun h=>by cases h),(fun h=>by cases h),(fun h=>by cases h),Z⟩
   ·rintro S S' e s hS ⟨v',q1,q2,q3,q4,q5,q6,qs⟩;have z:=fun i h1 h2=>(hS i h1 h2).symm;refine⟨v',q1,q2,?_,?_,?_,?_,?_⟩
    ·rw[z 1 (by decide) (by decide)];exact q3
    ·rw[z 2 (by decide) (by decide)];exact q4
    ·rw[z 3 (by decide) (by decide)];exact q5
    ·rw[z 4 (by decide) (by decide)];exact q6
    ·rw[z 1 (by decide) (by decide)];exact qs
   ·rintro S e s i o ⟨v',q1,q2,q3,q4,q5,q6,rfl⟩ hi1 hi2 hSi hp ho;have hi:i=1∨i=2∨i=3∨i=4:=by omega
    rcases hi with rfl|rfl|rfl|rfl
    ·cases ho;refine⟨Z,(fun t ht=>by cases ht;decide),AO.less (Less.add q1 Less.nil) ?_⟩;rw[hSi];refine AO.ai3 Z _ Z Z alM (AC.none (vB _ h7 (fun v3=>?_)));exact⟨v3,q1,q2,(fun _=>Z),q4,q5,q6,Z⟩
    ·cases ho;refine⟨Z,(fun t ht=>by cases ht;decide),AO.less (Less.add q2 Less.nil) ?_⟩;cases h8:S 1 with
     | false=>
      refine AO.dP (i:=0) Z Z Z vI Z Z ?_;exact⟨v',q1,q2,q3,(fun _=>Z),q5,q6,by simp[h8]⟩
     | true=>
      refine AO.dP (i:=1) Z Z Z vI Z Z ?_;exact⟨v',q1,q2,q3,(fun _=>Z),q5,q6,by simp[h8]⟩
    ·cases ho;have s2:=hp 2 (any_beq.1 Z) (by decide);refine⟨Z,(fun t ht=>by cases ht;decide),AO.less (Less.add (q4 s2) Less.nil) (AO.build Z VZ ad3 Z ?_)⟩;exact⟨v',q1,q2,q3,q4,(fun _=>Z),q6,Z⟩
    ·cases ho;have s3:=hp 3 (any_beq.1 Z) (by decide);refine⟨Z,(fun t ht=>by cases ht;decide),AO.less (Less.add (q5 s3) Less.nil) (AO.jm (List.map aD.cells [(aD.mk ([102,105,108,101,115]:Str) (ah.mk 3 false 0 x3 [] []))]) rfl Ja rfl rfl rfl (by first|rfl|simp only[List.map,aD.bn]) ?_)⟩
     exact⟨v',q1,q2,q3,q4,q5,(fun _=>Z),Z⟩
   rintro S e s hS ⟨v1,q1,q2,q3,q4,q5,q6,rfl⟩;rw[hS 1 (by decide) (by decide)];refine AR.less (Less.add (q3 (hS 1 (by decide) (by decide))) (Less.add (q6 (hS 4 (by decide) (by decide))) Less.nil)) ?_;refine B1 hf fun x5 h8 hf=>?_;refine AR.step Z Z Z (AO.ng (i:=0) (l:=x4) (m:=[(aD.mk ([102,105,108,101,115]:Str) (ah.mk 3 false 0 x3 [] []))]) h8 Z Z Z Z Z Z Z Ja Dn Z Z Z (aD.dV) (aD.cells_one) (by decide) (fun v2 s1 hs1=>?_));cases hs1;refine cs 2 Z (AR.nil [6,7] Z (AW.ret ?_));cases hf
   exact⟨rfl,_,⟨_,_,rfl,rfl,_,_,rfl,rfl,rfl⟩,[],apP _,h⟩⟩
end
instance ZU(jD:List aD):CT Tryz.prog (Cw jD) (fun r=>.ret (iP r)) 41 [.list (List.map aD.cells jD)]:=⟨zP rfl,fun {r0} hf {τ Q} h=>by
 unfold Cw at hf;refine BN 39 [.tmp 2] [0] Tryz.func41 Z Z Z Z Z (W 2 Z (AS Z (AO.gB (l:=jD) Z Z Z Z Dn Z Z (J 1 Z (C hf Z (fun h1 hf=>?_) fun h1 hf=>?_)))))
 ·cases hf;exact M 1 Z (Y Z h)
 refine W 0 Z (AS Z (AO.Xo Z (fun m10=>(U 2 Z (AS Z (AO.gB (l:=jD) Z Z Z Z Dn Z Z (J 1 Z (LK2 (fun x1 y1=>[(3,.val (.map (some m10))),(11,.list (List.map aD.cells jD)),(12,iP (jD.length:Int)),(13,iP x1)]) (fun x1 y1=>[.obj m10 (wD y1)]) (fun dG x1 y1=>Ac jD dG x1 y1=some r0) BIG 0 [] Z Z hf (fun _ _ hz=>jS hz) ?_))))))));intro dG x1 y1 hf;rw[Ac]at hf;refine V 1 Z (C hf Z (fun h2 hf=>?_) fun h2 hf=>?_)
 ·refine B1 hf fun e1 h3 hf=>W 0 Z (AS Z (AO.fM h3 Z Z Z Z Dn (aD.bn _) Z (U 1 Z (AS Z (AO.bQ Z VZ (fun b5=>?_))))));refine B1 hf fun x2 h4 hf=>Rr 4 [0,0] Z Z (CL Z ((Rk _).h h4 (J 1 Z (C hf Z (fun h5 hf=>?_) fun h5 hf=>?_))))
  ·cases hf;exact M 1 Z (Y Z h)
  refine B1 hf fun e2 h6 hf=>Wr 2 [0] Z Z (CL Z ((DL _).h h6 (J 3 Z (C hf Z (fun h7 hf=>?_) fun h7 hf=>?_))))
  ·cases hf;exact M 2 Z (Y Z h)
  refine Wr 3 [0] Z Z (AS Z (AO.OI (i:=1) (l:=y1) Z Z Z Z MB qP agE (U 1 Z (AR.bO Z Z (AO.Qi (i:=1) (l:=y1) Z Z Z Z Z MB qP (Rr 3 [0] Z Z (AS Z (AO.OI (i:=1) (l:=(vL y1 e1.name (bq ((rR y1 e1.name)+1)))) Z Z Z Z MB qP agE (J 1 Z (C hf Z (fun h8 hf=>?_) fun h8 hf=>?_))))))))))
  ·cases hf;exact M 1 Z (Y Z h)
  refine Wn0 2 Z (AR.drop1 ?_);exact N 0 Z ⟨(bq (x1+1)),(vL y1 e1.name (bq ((rR y1 e1.name)+1))),Z,Z,Z,hf⟩
 cases hf;exact M 1 Z (Y Z h)⟩
instance agz(e1:au)(jD:List aD):CT Tryz.prog (Dm e1 jD) (fun r=>.ret (.tuple [.list (List.map aD.cells r.1),iP r.2])) 77 [.agg (dZ e1),.list (List.map aD.cells jD)]:=by
  unfold Dm;exact Z1 ⟨19,[],[]⟩ Z Tryz.func77 Z Z Z Z
@[reducible] def V5:fq aF Unit→dO
  | .ok r=>.ret (.tuple [])
  | .bad e=>.panic (.iface 164 (.agg [iP e.code]))
instance aji(e1:Int):CT Tryz.prog (zi e1) (fun r=>V5 r) 142 [iP e1]:=by
  unfold zi;exact Z1 ⟨5,[],[]⟩ Z Tryz.func142 Z Z Z Z
@[reducible] def Kl:fq aF ah→dO
  | .ok r=>.ret (.agg (aR r))
  | .bad e=>.panic (.iface 164 (.agg [iP e.code]))
instance (s1 :List aD) (name1:Str) (n_ je):LE (nZ s1 name1 n_ je) (fun j p=>nZ s1 name1 j p) n_ je [] [] [] [1,4,7,8] (fun v w p=>[(9,iP p)]) (fun v w p s=>s):=⟨Z⟩
instance Dt(s1:List aD)(name1:Str):CT Tryz.prog (qZ s1 name1) (fun r=>Kl r) 113 [.list (List.map aD.cells s1),.str name1]:=by
  unfold qZ;exact Z1 ⟨22,[],[]⟩ Z Tryz.func113 Z Z Z Z
instance N_(s1:Str):CT Tryz.prog (lF s1) (fun r=>.ret (.agg (aR r))) 115 [.str s1]:=by
  unfold lF;exact Z1 ⟨5,[],[]⟩ Z Tryz.func115 Z Z Z Z
instance ak0(v1:ah)(Di:Int):CT Tryz.prog (iD v1 Di) (fun r=>.ret (.bool r)) 143 [.agg (aR v1),iP Di]:=by
  unfold iD;exact Z1 ⟨9,[],[]⟩ Z Tryz.func143 Z Z Z Z
@[reducible] def V4:fq aF Unit→dO
  | .ok r=>.ret (.tuple [])
  | .bad e=>.panic (.iface 164 (.agg [iP e.code]))
instance qG(ok1:Bool)(e1:Int):CT Tryz.prog (dN ok1 e1) (fun r=>V4 r) 123 [.bool ok1,iP e1]:=by
  unfold dN;exact Z1 ⟨8,[],[]⟩ Z Tryz.func123 Z Z Z Z
instance (s1 :List Str) (v1:Str) (n_ je):LE (gX s1 v1 n_ je) (fun j p=>gX s1 v1 j p) n_ je [] [] [] [0,1,7] (fun v w p=>[(8,iP p)]) (fun v w p s=>s):=⟨Z⟩
instance M_(s1:List Str)(v1:Str):CT Tryz.prog (iL s1 v1) (fun r=>.ret (iP r)) 168 [sP s1,.str v1]:=by
  unfold iL;exact Z1 ⟨19,[],[]⟩ Z Tryz.func168 Z Z Z Z
instance Na(s1:List Str):CT Tryz.prog (gH s1) (fun r=>.ret (sP r)) 198 [sP s1]:=⟨zP rfl,fun {r0} hf {τ Q} h=>by
 unfold gH at hf;refine BN 8 [.tmp 2] [0] Tryz.func198 Z Z Z Z Z (W 0 Z (AS Z (AO.kX Z Z (U 1 Z (AS Z (AO.yj Z Z aiu (fun b hb=>(J 0 Z (AW.cond Z (fun h1=>?_) (fun h1=>?_))))))))))
 ·obtain rfl:s1=[]:=apR.1 (hb h1);obtain⟨_,rfl⟩:=uo hf;refine W 0 Z (AS Z (AO.kX Z Z ?_));exact N 0 rfl ⟨rfl,_,⟨_,_,rfl,rfl,rfl⟩,_,List.Sublist.refl _,h⟩
 refine W 0 Z (AS Z (AO.rA [] Z Tt Z Z Z Z Z (fun v1=>(U 1 Z (AS Z (AO.ng (i:=0) (l:=[]) (m:=s1) hf Z Z Z Z Z Z Z Tt NY Z Z Z (fun _=>Z) (fun _=>Z) (by decide) (fun v2 s2 hs2=>?_)))))));cases hs2;exact N 1 Z (Y Z h)⟩
theorem Kc(s1:List Str){r0:List Str}(hf:gH s1=some r0){Q:dO→List aS→Prop}(h:∀v,Q (.ret (.own v (List.map jJ r0))) [.row v (List.map jJ r0).length 1 9]):PC 198 [sP s1] [] Q:=by
 unfold gH at hf;refine AC.P9 8 [.tmp 2] [0] Tryz.func198 Z Z Z Z Z (AW.sr (AR.step Z Z Z (AO.kX Z Z (AR.nil [0] Z ?_))));refine AW.seq (AW.sr (cs 1 Z (AR.step Z Z Z (AO.yj Z Z aiu (fun b hb=>?_)))));refine AR.nil [0,4] Z (AW.cond Z (fun h1=>?_) (fun h1=>?_))
 ·obtain rfl:s1=[]:=apR.1 (hb h1);obtain⟨_,rfl⟩:=uo hf;refine AW.sr (cs 1 Z (AR.nil [2] Z (AW.row 1 9 ?_)));refine AW.ret ?_;exact⟨rfl,_,⟨_,_,rfl,rfl,rfl⟩,_,List.Sublist.refl _,h _⟩
 refine AW.skip (AW.sr (AR.step Z Z Z (AO.rA [] Z Tt Z Z Z Z Z (fun v1=>(cs 1 Z ?_)))));refine AR.step Z Z Z (AO.ng (i:=0) (l:=[]) (m:=s1) hf Z Z Z Z Z Z Z Tt NY Z Z Z (fun _=>Z) (fun _=>Z) (by decide) (fun v2 s2 hs2=>?_));cases hs2;refine cs 1 Z (AR.nil [2] Z (AW.ret ?_));exact⟨rfl,_,⟨_,_,rfl,rfl,rfl⟩,_,List.Sublist.refl _,h v2⟩
section
variable (kG : ah → Option ah) [ac4 : ∀(rP : ah), CT Tryz.prog (kG rP) (fun r => .ret (.agg (aR r))) 169 [.agg (aR rP)]]
instance (v1 :ah) (n_ je vG):LE (sN kG v1 n_ je vG) (fun j p=>sN kG v1 j p.1 p.2) n_ (je,vG) [] [(1,[4])] [(9999,6,35)] [2,3,13,14] (fun v w p=>[(15,iP p.1)]) (fun v w p s=>yT 1 [iP p.2.kind,.bool p.2.dR,iP p.2.dS,.str p.2.bR,.own v (List.map ah.cells p.2.aN),sP p.2.keys] (putRow 0 v ((List.map ah.cells p.2.aN).length) (s))):=⟨Z⟩
instance Om(v1:ah):CT Tryz.prog (zu kG v1) (fun r=>.ret (.agg (aR r))) 169 [.agg (aR v1)]:=by
  unfold zu;exact Z1 ⟨28,[],[]⟩ Z Tryz.func169 Z Z Z Z
end
theorem Ji:∀k:Nat,(∀(rP:ah),CT Tryz.prog (nk k rP) (fun r=>.ret (.agg (aR r))) 169 [.agg (aR rP)])
  | 0=>fun _=>CT.none Z
  | k+1=>by
    obtain (i0):=Ji k;exact fun rP=>Om _ rP
instance Sw(rP:ah):CT Tryz.prog (lX rP) (fun r=>.ret (.agg (aR r))) 169 [.agg (aR rP)]:=(Ji BIG) rP
instance ai_(v1:ah)(key1:Str):CT Tryz.prog (yM v1 key1) (fun r=>.ret (.tuple [.agg (aR r.1),.bool r.2])) 144 [.agg (aR v1),.str key1]:=by
  unfold yM;exact Z1 ⟨32,[],[]⟩ Z Tryz.func144 Z Z Z Z
@[reducible] def Ux:fq aF ah→dO
  | .ok r=>.ret (.agg (aR r))
  | .bad e=>.panic (.iface 164 (.agg [iP e.code]))
instance LG(m1:ah)(key1:ah):CT Tryz.prog (wI m1 key1) (fun r=>Ux r) 114 [.agg (aR m1),.agg (aR key1)]:=by
  unfold wI;exact Z1 ⟨24,[],[]⟩ Z Tryz.func114 Z Z Z Z
@[reducible] def O1:fq aF ah→dO
  | .ok r=>.ret (.agg (aR r))
  | .bad e=>.panic (.iface 164 (.agg [iP e.code]))
instance H9(a1:ah)(i1:ah):CT Tryz.prog (uW a1 i1) (fun r=>O1 r) 116 [.agg (aR a1),.agg (aR i1)]:=by
  unfold uW;exact Z1 ⟨32,[],[]⟩ Z Tryz.func116 Z Z Z Z
instance VQ(name1:Str):CT Tryz.prog (zk name1) (fun r=>.ret (iP r)) 145 [.str name1]:=by
  unfold zk;exact Z1 ⟨18,[],[]⟩ Z Tryz.func145 Z Z Z Z
instance afU(n1:Int):CT Tryz.prog (o_ n1) (fun r=>.ret (.agg (aR r))) 149 [iP n1]:=by
  unfold o_;exact Z1 ⟨5,[],[]⟩ Z Tryz.func149 Z Z Z Z
instance VR(l1:List ah):CT Tryz.prog (Cv l1) (fun r=>.ret (.agg (aR r))) 121 [.list (ah.eU l1)]:=⟨zP rfl,fun {r0} hf {τ Q} h=>by
 unfold Cv at hf;refine BN 5 [.cell 2 35] [0] Tryz.func121 Z Z Z Z Z (W 0 Z (AS Z (AO.bQ Z rV (fun b2=>?_))));cases hf;exact Rx 3 [0] Z Z (ZC [0] Z Z h)⟩
theorem M4(h:Q (.ret (.agg [iP 4,.bool false,iP 0,.str ([]:Str),.own (.slice none 0 0) [],.own (.slice none 0 0) []])) τ):PC 121 [.own (.slice none 0 0) []] τ Q:=by
 refine AC.none (AC.P9 5 [.cell 2 35] [0] Tryz.func121 Z Z Z Z Z (AW.sr (AR.step Z Z Z (AO.bQ Z rV (fun b2=>?_)))));refine AR.nil [0,2] Z (AW.sr (cs 1 Z (AR.step Z Z Z (AO.build Z rV YX Z ?_))));refine AR.bO Z Z (AO.eH (i:=0) Z Z Z vI Z Z Z Z Z (AR.nil [2] Z (AW.ret ?_)));exact⟨rfl,_,⟨_,_,rfl,⟨_,_,0,_,_,rfl,rfl,vI,rfl⟩,rfl⟩,[],apP _,h⟩
instance ajh(l1:List Str):CT Tryz.prog (ze l1) (fun r=>.ret (.agg (aR r))) 170 [sP l1]:=⟨zP rfl,fun {r0} hf {τ Q} h=>by
 unfold ze at hf;refine BN 22 [.cell 2 35] [0] Tryz.func170 Z Z Z Z Z (W 0 Z (AS Z (AO.bQ Z rV (fun b2=>(U 0 Z (AS Z (AO.ai3 Z _ Z Z ajL (M4 (AS Z (AO.bQ Z rV (fun b3=>?_)))))))))));refine Rr 2 [0] Z Z (AS Z (AO.gB (l:=l1) Z Z Z Z NY Z Z ?_));refine J 1 Z (AW.row 6 35 (AW.settle [2,3,7,8,9] Z (AW.BU 1 [false,false,false,false,false,true] Z (LK3 (fun x1 bM v1=>[(2,pP b2),(3,pP b3),(7,sP l1),(8,iP (l1.length:Int)),(9,iP x1)]) (fun x1 bM v1=>[.row v1 (ah.eU bM.aN).length 6 35,.box b3 [iP bM.kind,.bool bM.dR,iP bM.dS,.str bM.bR,.own v1 (ah.eU bM.aN),sP bM.keys],.box b2 [iP 0,.bool false,iP 0,.str ([]:Str),.own (.slice none 0 0) [],.own (.slice none 0 0) []]]) (fun dG x1 bM v1=>yc l1 dG x1 bM=some r0) BIG 0 (ah.mk 4 false 0 ([]:Str) [] []) (.slice none 0 0) Z Z hf (fun _ _ _ hz=>jS hz) ?_))));intro dG x1 bM v1 hf;rw[yc]at hf;refine V 1 Z (C hf Z (fun h1 hf=>?_) fun h1 hf=>?_)
 ·refine B1 hf fun s1 h2 hf=>W 0 Z (AS Z (AO.fM h2 Z Z Z Z NY Z Z (J 2 Z (AW.draw 5 mixed (by kernel_rfl) Z ?_))));refine Ev.cs fK 1 Z (Ev.cons Z Z Z (AO.dP (i:=1) Z Z Z adR Z Z zg) (Ev.cs fK 1 Z ?_));refine B1 hf fun x2 h3 hf=>Ev.cons rfl rfl rfl (AO.call rfl _ rfl rfl aei ((N_ _).h h3 ⟨rfl,rfl⟩)) (Ev.cons rfl rfl rfl (AO.jm (ah.eU [x2]) rfl Tq rfl rfl rfl (by first|rfl|simp only[ah.bn,ah.eU]) ⟨rfl,rfl⟩) ?_);refine Ev.nil ?_
  show AR _ _ _ _ _ _ _ _;refine B1 hf fun x3 h4 hf=>AS Z (AO.ng (i:=0) (l:=bM.aN) (m:=[x2]) h4 Z Z Z Z Z Z Z Tq Hl (ah.dI _) (ah.dI _) (ah.dI _).symm (ah.dV) (ah.cells_one) (by decide) (fun v2 s2 hs2=>?_));cases hs2;exact Rx 4 [1] Z Z ⟨(bq (x1+1)),(ah.mk bM.kind bM.dR bM.dS bM.bR x3 bM.keys),v2,Z,Z,Z,hf⟩
 cases hf;exact Wx 2 [1,2] Z Z (ZC [2] Z Z h)⟩
instance VO(b1:Bool):CT Tryz.prog (o7 b1) (fun r=>.ret (.str r)) 125 [.bool b1]:=by
  unfold o7;exact Z1 ⟨4,[],[]⟩ Z Tryz.func125 Z Z Z Z
instance Yg(b1:Bool):CT Tryz.prog (strconv_FormatBool b1) (fun r=>.ret (.str r)) 96 [.bool b1]:=by
  unfold strconv_FormatBool;exact Z1 ⟨5,[],[]⟩ Z Tryz.func96 Z Z Z Z
instance agk(s1:Str):CT Tryz.prog (zL s1) (fun r=>.ret (.str r)) 98 [.str s1]:=⟨zP rfl,fun {r0} hf {τ Q} h=>by
 unfold zL at hf;refine BN 54 [.tmp 2] [0] Tryz.func98 Z Z Z Z Z (W 1 Z (AS Z (AO.IV (eu:=5) Z Z9 Z (fun b3=>?_))));refine B1 hf fun b1 h1 hf=>U 0 Z (CL Z (AC.one 0 Z (iO h1 (fun v1=>⟨_,Z,(J 1 Z (LK3 (fun i1 b2 v2=>[(0,.str s1),(3,pP b3),(4,iP i1)]) (fun i1 b2 v2=>[.Kj b3 v2 79 5 b2]) (fun dG i1 b2 v2=>lW s1 dG i1 b2=some r0) BIG 0 b1 v1 Z Z hf (fun _ _ _ hz=>jS hz) ?_))⟩))));intro dG i1 b2 v2 hf;rw[lW]at hf;refine W 2 Z (AS Z (AO.rZ Z Z Z Z qP Z (J 1 Z (C hf Z (fun h2 hf=>?_) fun h2 hf=>?_))))
 ·refine B1 hf fun c1 h3 hf=>W 2 Z (AS Z (AO.r9 h3 Z qP Z Z (U 4 Z (On 3 28 31 [0,3,4,5] ((c1.toNat:Int)==92) Z Z Z Z (J 1 Z (C hf Z (fun h5 hf=>?_) fun h5 hf=>?_))))))
  ·refine B1 hf fun b3 h6 hf=>W 0 Z (CL Z (AC.one 0 Z (iO h6 (fun v3=>⟨_,Z,?_⟩))));refine B1 hf fun b4 h7 hf=>U 1 Z (CL Z (AC.one 0 Z (iO h7 (fun v4=>⟨_,Z,?_⟩))));exact N 3 Z ⟨(bq (i1+1)),b4,v4,Z,Z,Z,hf⟩
  refine V 3 Z (C hf Z (fun h8 hf=>?_) fun h8 hf=>?_)
  ·refine B1 hf fun b5 h9 hf=>W 0 Z (CL Z (AC.one 0 Z (sD h9 (fun v5=>⟨_,Z,?_⟩))));exact N 3 Z ⟨(bq (i1+1)),b5,v5,Z,Z,Z,hf⟩
  refine V 3 Z (C hf Z (fun h10 hf=>?_) fun h10 hf=>?_)
  ·refine B1 hf fun b6 h11 hf=>W 0 Z (CL Z (AC.one 0 Z (sD h11 (fun v6=>⟨_,Z,?_⟩))));exact N 3 Z ⟨(bq (i1+1)),b6,v6,Z,Z,Z,hf⟩
  refine W 3 Z (An 3 46 49 [0,3,4,5] (decide ((c1.toNat:Int)≤126)) Z Z Z Z (J 1 Z (C hf Z (fun MN hf=>?_) fun MN hf=>?_)))
  ·refine B1 hf fun b7 OP hf=>W 1 Z (CL Z (AC.one 0 Z (iO OP (fun v7=>⟨_,Z,?_⟩))));exact N 3 Z ⟨(bq (i1+1)),b7,v7,Z,Z,Z,hf⟩
  refine B1 hf fun b8 h15 hf=>W 0 Z (CL Z (AC.one 0 Z (sD h15 (fun v8=>⟨_,Z,(U 1 Z (AS Z (AO.u8_quo c1 16 Z Z Z Z Z (by decide) ?_)))⟩))));refine B1 hf fun x1 h16 hf=>AS Z (AO.r9 h16 Z qP Z Z ?_);refine B1 hf fun b9 h17 hf=>CL Z (AC.one 0 Z (iO h17 (fun v9=>⟨_,Z,(U 1 Z (AS Z (AO.Pb c1 16 Z Z Z Z Z (by decide) ?_)))⟩)));refine B1 hf fun x2 h18 hf=>AS Z (AO.r9 h18 Z qP Z Z ?_);refine B1 hf fun b10 h19 hf=>CL Z (AC.one 0 Z (iO h19 (fun v10=>⟨_,Z,?_⟩)));exact N 3 Z ⟨(bq (i1+1)),b10,v10,Z,Z,Z,hf⟩
 refine BR hf fun b11 h20 hf=>?_;refine W 0 Z (CL Z (AC.one 0 Z (iO h20 (fun v11=>⟨_,Z,(U 0 Z (CL Z (AC.OH 0 Z (Bz ?_))))⟩))));cases hf;exact N 1 Z (Y Z h)⟩
section
variable [CS]
def akN:Go.Shelf.Ren:=⟨fun|156=>99|165=>127|166=>43|169=>45|240=>48|241=>156|276=>63|277=>188|n=>n,fun|31=>22|9=>9|3=>3|4=>4|0=>0|20=>20|72=>79|76=>103|70=>77|37=>57|75=>84|127=>128|164=>131|5=>5|80=>106|n=>n,fun|n=>n⟩
theorem joinL:Go.Proofs.Lays.n156 Tryz.prog akN:=by repeat' first|(intros;kernel_rfl)|constructor|decide
theorem amb:Go.Proofs.Builder.Extra Tryz.prog akN:=by repeat' first|(intros;kernel_rfl)|constructor|decide
instance afF(l1:List Str)(t1:Str):CT Tryz.prog (strings_Join l1 t1) (fun r=>.ret (.str r)) 99 [sP l1,.str t1]:=⟨zP rfl,fun {r0} hf {τ Q} h=>by
 unfold strings_Join at hf;split at hf
 case isFalse=>cases hf
 rename_i hg;cases hf;refine AC.none ?_
 exact AC.join CS.hD joinL amb hg.1 hg.2 h⟩
end
section
variable [CS]
section
variable (eP : ah → Option Str) [aaT : ∀(rP : ah), CT Tryz.prog (eP rP) (fun r => .ret (.str r)) 80 [.agg (aR rP)]]
instance (v1 :ah) (n_ je vG):LE (pW eP v1 n_ je vG) (fun j p=>pW eP v1 j p.1 p.2) n_ (je,vG) [3] [] [(3,1,9)] [1,28,29] (fun v w p=>[(3,.own v (List.map jJ p.1)),(30,iP p.2)]) (fun v w p s=>putRow 0 v ((List.map jJ p.1).length) (s)):=⟨Z⟩
instance (v1 :ah) (n_ je vG):LE (uz eP v1 n_ je vG) (fun j p=>uz eP v1 j p.1 p.2) n_ (je,vG) [3] [] [(3,1,9)] [1,28,29] (fun v w p=>[(3,.own v (List.map jJ p.1)),(30,iP p.2)]) (fun v w p s=>putRow 0 v ((List.map jJ p.1).length) (s)):=⟨Z⟩
instance LA(v1:ah):CT Tryz.prog (vV eP v1) (fun r=>.ret (.str r)) 80 [.agg (aR v1)]:=by
  unfold vV;exact Z1 ⟨68,[],[]⟩ Z Tryz.func80 Z Z Z Z
end
theorem Fx:∀k:Nat,(∀(rP:ah),CT Tryz.prog (vU k rP) (fun r=>.ret (.str r)) 80 [.agg (aR rP)])
  | 0=>fun _=>CT.none Z
  | k+1=>by
    obtain (i0):=Fx k;exact fun rP=>LA _ rP
instance ac5(rP:ah):CT Tryz.prog (Dx rP) (fun r=>.ret (.str r)) 80 [.agg (aR rP)]:=(Fx BIG) rP
end
section
variable [CS]
instance aie(v1:ah):CT Tryz.prog (yL v1) (fun r=>.ret (.tuple [.str r.1,iP r.2])) 60 [.agg (aR v1)]:=by
  unfold yL;exact Z1 ⟨28,[],[]⟩ Z Tryz.func60 Z Z Z Z
end
instance agB(s1:Str)(lo1:UInt8)(hi1:UInt8)(DR:Int):CT Tryz.prog (wZ s1 lo1 hi1 DR) (fun r=>.ret (.str r)) 171 [.str s1,.int .u8 (lo1.toNat:Int),.int .u8 (hi1.toNat:Int),iP DR]:=⟨zP rfl,fun {r0} hf {τ Q} h=>by
 unfold wZ at hf;refine BN 42 [.tmp 8] [0,1,2,3] Tryz.func171 Z Z Z Z Z (W 1 Z (AS Z (AO.IV (eu:=5) Z Z9 Z (fun b9=>(J 1 Z (LK3 (fun i1 b1 v1=>[(0,.str s1),(1,.int .u8 (lo1.toNat:Int)),(2,.int .u8 (hi1.toNat:Int)),(3,iP DR),(9,pP b9),(10,iP i1)]) (fun i1 b1 v1=>[.Kj b9 v1 79 5 b1]) (fun dG i1 b1 v1=>qp s1 lo1 hi1 DR dG i1 b1=some r0) BIG 0 [] (.slice none 0 0) Z Z hf (fun _ _ _ hz=>jS hz) ?_))))));intro dG i1 b1 v1 hf;rw[qp]at hf;refine W 2 Z (AS Z (AO.rZ Z Z Z Z qP Z (J 1 Z (C hf Z (fun h1 hf=>?_) fun h1 hf=>?_))))
 ·refine B1 hf fun x1 h2 hf=>W 2 Z (AS Z (AO.r9 h2 Z qP Z Z ?_));refine B1 hf fun b2 h4 hf=>U 3 Z (AR.Cm 6 22 28 true [0,1,2,3,9,10] b2 Z Z (fun h3=>?_) (fun h3=>?_) ?_)
  ·refine IT 22 h3 h4 Z fun h4=>?_;refine B1 h4 fun x2 h5 h4=>U 2 Z (GO Z (AO.r9 h5 Z qP Z Z ?_));cases h4;exact LM 3 Z (En [28,0,1,2,3,9,10] Z)
  ·refine IF 22 h3 h4 Z fun h4=>?_;cases h4;exact LM 6 Z (En [28,0,1,2,3,9,10] Z)
  refine J 0 Z (C hf Z (fun h6 hf=>?_) fun h6 hf=>?_)
  ·refine B1 hf fun x3 h7 hf=>W 2 Z (AS Z (AO.r9 h7 Z qP Z Z (AS Z (AO.MW Z YN UC Z Z (U 2 Z (AS Z (AO.XY Z UC YN Z ?_)))))));refine B1 hf fun b3 h8 hf=>CL Z (AC.one 0 Z (iO h8 (fun v2=>⟨_,Z,?_⟩)));exact N 3 Z ⟨(bq (i1+1)),b3,v2,Z,Z,Z,hf⟩
  refine B1 hf fun x4 h9 hf=>W 2 Z (AS Z (AO.r9 h9 Z qP Z Z ?_));refine B1 hf fun b4 h10 hf=>CL Z (AC.one 0 Z (iO h10 (fun v3=>⟨_,Z,?_⟩)));exact N 3 Z ⟨(bq (i1+1)),b4,v3,Z,Z,Z,hf⟩
 refine W 0 Z (CL Z (AC.OH 0 Z (Bz ?_)));cases hf;exact N 1 Z (Y Z h)⟩
section
variable [CS]
instance agA(s1:Str):CT Tryz.prog (tY s1) (fun r=>.ret (.tuple [iP r.1,.bool r.2])) 172 [.str s1]:=⟨zP rfl,fun {r} hf {τ Q} h=>by
 obtain⟨r0,r1⟩:=r;unfold tY at hf;refine BN 28 [.tmp 2,.tmp 3] [0] Tryz.func172 Z Z Z Z Z ?_;obtain⟨n1,QJ,h1,hf⟩:=lI hf;refine W 3 Z (CL Z ((H8 _).h h1 (U 6 Z (AS Z (AO.eqNil Z aiQ Z Z ?_)))));refine B1 hf fun b1 h3 hf=>U 1 Z (AR.Cm 5 13 18 false [4] b1 Z Z (fun h2=>?_) (fun h2=>?_) ?_)
 ·refine IF 13 h2 h3 Z fun h3=>?_;refine B1 h3 fun x1 h4 h3=>U 1 Z (GO Z (AO.call Z _ Z Z aly ((Ri _).h h4 ?_)));cases h3;exact LM 3 Z (En [18,4] Z)
 ·refine IT 13 h2 h3 Z fun h3=>?_;cases h3;exact LM 5 Z (En [18,4] Z)
 refine U 1 Z (On 3 19 22 [4] (decide (n1<(-9007199254740992))) Z Z Z Z (U 1 Z (On 3 23 26 [4] (decide (9007199254740992<n1)) Z Z Z Z (J 0 Z (C hf Z (fun h7 hf=>?_) fun h7 hf=>?_)))))
 ·cases hf;exact M 2 Z (Y Z h)
 cases hf;exact M 3 Z (Y Z h)⟩
end
section
variable [CS]
@[reducible] def YC:fq aF ah→dO
  | .ok r=>.ret (.agg (aR r))
  | .bad e=>.panic (.iface 164 (.agg [iP e.code]))
instance Rv(name1:Str)(v1:ah):CT Tryz.prog (Hf name1 v1) (fun r=>YC r) 146 [.str name1,.agg (aR v1)]:=by
  unfold Hf;exact Z1 ⟨78,[],[]⟩ Z Tryz.func146 Z Z Z Z
end
instance Jq(b1:Bool):CT Tryz.prog (sM b1) (fun r=>.ret (iP r)) 203 [.bool b1]:=by
  unfold sM;exact Z1 ⟨4,[],[]⟩ Z Tryz.func203 Z Z Z Z
instance (wB :List ah) (wz:List ah) (yA:ah→ah→Option Int) (n_ je):LE (bU wB wz yA n_ je) (fun j p=>bU wB wz yA j p) n_ je [] [] [] [0,1,2,11,12] (fun v w p=>[(13,iP p)]) (fun v w p s=>s):=⟨Z⟩
instance xg(wB:List ah)(wz:List ah)(yA:ah→ah→Option Int){CJ:FuncId}{Eo:List PV}[amF:CF2 Tryz.prog yA (fun a0=>.agg (aR a0)) (fun a1=>.agg (aR a1)) (fun b0=>.ret (iP b0)) CJ Eo]:CT Tryz.prog (bD wB wz yA) (fun r=>.ret (iP r)) 204 [.list (ah.eU wB),.list (ah.eU wz),.fn CJ Eo]:=by
  unfold bD;exact Z1 ⟨39,[],[]⟩ Z Tryz.func204 Z Z Z Z
theorem gG(wB wz:List ah)(yA:ah→ah→Option Int)(CJ:FuncId)(Eo:List PV)(afo:dA Tryz.prog CJ=true)(afp:∀a0 a1 b0,yA a0 a1=some b0→∀ {τ:List aS} {Q:dO→List aS→Prop},Q (.ret (iP b0)) τ→AC Tryz.prog CJ ([.agg (aR a0),.agg (aR a1)]++Eo) τ Q){r0:Int}(hf:bD wB wz yA=some r0){τ:List aS}{Q:dO→List aS→Prop}(h:Q (.ret (iP r0)) τ):AC Tryz.prog 204 [.list (ah.eU wB),.list (ah.eU wz),.fn CJ Eo] τ Q:=letI:CF2 Tryz.prog yA (fun a0=>.agg (aR a0)) (fun a1=>.agg (aR a1)) (fun b0=>.ret (iP b0)) CJ Eo:=⟨fun a b=>⟨afo,fun {r} hx {τ Q} h=>afp a b r hx h⟩⟩;CT.h hf h
instance (wB :List Str) (wz:List Str) (yA:Str→Str→Option Int) (n_ je):LE (dJ wB wz yA n_ je) (fun j p=>dJ wB wz yA j p) n_ je [] [] [] [0,1,2,11,12] (fun v w p=>[(13,iP p)]) (fun v w p s=>s):=⟨Z⟩
instance BA(wB:List Str)(wz:List Str)(yA:Str→Str→Option Int){CJ:FuncId}{Eo:List PV}[amF:CF2 Tryz.prog yA (fun a0=>.str a0) (fun a1=>.str a1) (fun b0=>.ret (iP b0)) CJ Eo]:CT Tryz.prog (cB wB wz yA) (fun r=>.ret (iP r)) 205 [sP wB,sP wz,.fn CJ Eo]:=by
  unfold cB;exact Z1 ⟨39,[],[]⟩ Z Tryz.func205 Z Z Z Z
theorem mZ(wB wz:List Str)(yA:Str→Str→Option Int)(CJ:FuncId)(Eo:List PV)(afo:dA Tryz.prog CJ=true)(afp:∀a0 a1 b0,yA a0 a1=some b0→∀ {τ:List aS} {Q:dO→List aS→Prop},Q (.ret (iP b0)) τ→AC Tryz.prog CJ ([.str a0,.str a1]++Eo) τ Q){r0:Int}(hf:cB wB wz yA=some r0){τ:List aS}{Q:dO→List aS→Prop}(h:Q (.ret (iP r0)) τ):AC Tryz.prog 205 [sP wB,sP wz,.fn CJ Eo] τ Q:=letI:CF2 Tryz.prog yA (fun a0=>.str a0) (fun a1=>.str a1) (fun b0=>.ret (iP b0)) CJ Eo:=⟨fun a b=>⟨afo,fun {r} hx {τ Q} h=>afp a b r hx h⟩⟩;CT.h hf h
abbrev FL(jB:ah→ah→Option Int):Prop:=∀(RD:ah) (RB:ah) {YK:Int},jB RD RB=some YK→∀ {τ:List aS} {Q:dO→List aS→Prop} (h:Q (.ret (iP YK)) τ),PC 178 [.agg (aR RD),.agg (aR RB)] τ Q
theorem Oe(jB)(Dl:FL jB)(a1 b1:ah){r0:Int}(hf:vW jB a1 b1=some r0)(h:Q (.ret (iP r0)) τ):PC 178 [.agg (aR a1),.agg (aR b1)] τ Q:=by
 unfold vW at hf;refine BN 62 [.tmp 4] [0,1] Tryz.func178 Z Z Z Z Z ?_;refine B1 hf fun c1 h1 hf=>W 7 Z (CL Z ((yF _ _).h h1 (J 3 Z (C hf Z (fun h2 hf=>?_) fun h2 hf=>?_))))
 ·cases hf;exact M 2 Z (Y Z h)
 refine V 4 Z (C hf Z (fun h3 hf=>?_) fun h3 hf=>?_)
 ·refine V 0 Z (AW.draw 8 mixed (by kernel_rfl) Z ?_);refine Ev.cs fK 2 Z ?_;refine B1 hf fun x1 h4 hf=>Ev.cons Z Z Z (AO.call Z _ Z Z aef ((Jq _).h h4 zg)) (Ev.cs fK 2 Z ?_);refine B1 hf fun x2 h5 hf=>Ev.cons Z Z Z (AO.call Z _ Z Z aef ((Jq _).h h5 zg)) ?_;refine BR hf fun x3 h6 hf=>?_;refine Ev.cons Z Z Z (AO.call Z _ Z Z ajK ((yF _ _).h h6 zg)) (Ev.cs fK 1 Z (Ev.nil ?_));show AR _ _ _ _ _ _ _ _;cases hf;exact N 0 Z (Y Z h)
 refine V 2 Z (C hf Z (fun h7 hf=>?_) fun h7 hf=>?_)
 ·refine BR hf fun x4 h8 hf=>?_;refine W 4 Z (CL Z ((yF _ _).h h8 ?_));cases hf;exact N 1 Z (Y Z h)
 refine V 2 Z (C hf Z (fun h9 hf=>?_) fun h9 hf=>?_)
 ·refine BR hf fun x5 h10 hf=>?_;refine W 4 Z (CL Z ((Ia _ _).h h10 ?_));cases hf;exact N 1 Z (Y Z h)
 refine V 2 Z (C hf Z (fun h11 hf=>?_) fun h11 hf=>?_)
 ·refine BR hf fun x6 h12 hf=>?_;refine W 4 Z (CL Z (gG _ _ jB 178 [] aeg (fun _ _ _ hz=>Dl _ _  hz) h12 ?_));cases hf;exact N 1 Z (Y Z h)
 refine V 2 Z (C hf Z (fun MN hf=>?_) fun MN hf=>?_)
 ·refine B1 hf fun c2 OP hf=>W 4 Z (CL Z (mZ _ _ iC 112 [] ajM (fun _ _ _ hz=>(Ap _ _).h hz) OP (J 3 Z (C hf Z (fun h15 hf=>?_) fun h15 hf=>?_))))
  ·cases hf;exact M 2 Z (Y Z h)
  refine BR hf fun x7 h16 hf=>?_;refine W 4 Z (CL Z (gG _ _ jB 178 [] aeg (fun _ _ _ hz=>Dl _ _  hz) h16 ?_));cases hf;exact N 1 Z (Y Z h)
 cases hf;exact M 1 Z (Y Z h)
theorem Oh:∀k:Nat,(FL (iK k)):=by
 intro k
 induction k with
 | zero=>exact fun _ _ _ hz=>by first|cases hz|(unfold iK at hz;cases hz)
 | succ k ih=>exact fun RD RB YK hz τ Q hq=>Oe (iK k) ih RD RB hz hq
instance ac6(RD:ah)(RB:ah):CT Tryz.prog (vH RD RB) (fun r=>.ret (iP r)) 178 [.agg (aR RD),.agg (aR RB)]:=⟨zP rfl,fun {r} hf {τ Q} h=>((Oh BIG)) RD RB hf h⟩
instance Jr(a1:ah)(b1:ah):CT Tryz.prog (lY a1 b1) (fun r=>.ret (.bool r)) 150 [.agg (aR a1),.agg (aR b1)]:=by
  unfold lY;exact Z1 ⟨9,[],[]⟩ Z Tryz.func150 Z Z Z Z
instance ajj(a1:ah)(b1:ah)(CR:Int):CT Tryz.prog (oI a1 b1 CR) (fun r=>.ret (.bool r)) 175 [.agg (aR a1),.agg (aR b1),iP CR]:=by
  unfold oI;exact Z1 ⟨17,[],[]⟩ Z Tryz.func175 Z Z Z Z
section
variable [CS]
def aaC:Go.Shelf.Ren:=⟨fun|144=>200|143=>227|219=>249|217=>264|225=>260|224=>259|267=>265|266=>269|314=>270|n=>n,fun|9=>9|4=>4|3=>3|5=>5|46=>108|146=>295|51=>107|n=>n,fun|1=>1|n=>n⟩
theorem akR:Go.Proofs.Lays.n144 Tryz.prog aaC:=by repeat' first|(intros;kernel_rfl)|constructor|decide
instance ZO(s1:Str)(t1:Str):CT Tryz.prog (strings_Contains s1 t1) (fun r=>.ret (.bool r)) 200 [.str s1,.str t1]:=⟨zP rfl,fun {r0} hf {τ Q} h=>by
 unfold strings_Contains at hf;split at hf
 case isFalse=>cases hf
 rename_i hg;cases hf;refine AC.none ?_
 exact AC.contains akR hg CS.max h⟩
end
section
variable [CS]
@[reducible] def Od:fq aF Bool→dO
  | .ok r=>.ret (.bool r)
  | .bad e=>.panic (.iface 164 (.agg [iP e.code]))
instance (a1 :ah) (b1:ah) (n_ je):LE (nN a1 b1 n_ je) (fun j p=>nN a1 b1 j p) n_ je [] [] [] [3,13,14] (fun v w p=>[(15,iP p)]) (fun v w p s=>s):=⟨Z⟩
instance adb(a1:ah)(b1:ah):CT Tryz.prog (vP a1 b1) (fun r=>Od r) 173 [.agg (aR a1),.agg (aR b1)]:=by
  unfold vP;exact Z1 ⟨47,[],[]⟩ Z Tryz.func173 Z Z Z Z
end
instance oh(b1:Bool):CT Tryz.prog (eY b1) (fun r=>.ret (.agg (aR r))) 148 [.bool b1]:=by
  unfold eY;exact Z1 ⟨5,[],[]⟩ Z Tryz.func148 Z Z Z Z
section
variable [CS]
@[reducible] def RO:fq aF ah→dO
  | .ok r=>.ret (.agg (aR r))
  | .bad e=>.panic (.iface 164 (.agg [iP e.code]))
instance (a1 :ah) (b1:ah) (n_ je vG z2_):LE (tZ a1 b1 n_ je vG z2_) (fun j p=>tZ a1 b1 j p.1 p.2.1 p.2.2) n_ (je,vG,z2_) [6] [] [(6,1,9)] [3,4,17,18] (fun v w p=>[(5,iP p.1),(6,.own v (List.map jJ p.2.1)),(19,iP p.2.2)]) (fun v w p s=>putRow 0 v ((List.map jJ p.2.1).length) (s)):=⟨Z⟩
instance agC(a1:ah)(b1:ah):CT Tryz.prog (Ab a1 b1) (fun r=>RO r) 174 [.agg (aR a1),.agg (aR b1)]:=by
  unfold Ab;exact Z1 ⟨54,[],[]⟩ Z Tryz.func174 Z Z Z Z
end
instance RI(s1:Str)(xC:Str):CT Tryz.prog (qm s1 xC) (fun r=>.ret (.bool r)) 201 [.str s1,.str xC]:=by
  unfold qm;exact Z1 ⟨21,[],[]⟩ Z Tryz.func201 Z Z Z Z
instance Yu(s1:Str)(xC:Str):CT Tryz.prog (strings_HasSuffix s1 xC) (fun r=>.ret (.bool r)) 176 [.str s1,.str xC]:=by
  unfold strings_HasSuffix;exact Z1 ⟨8,[],[]⟩ Z Tryz.func176 Z Z Z Z
section
variable [CS]
def aaR:Go.Shelf.Ren:=⟨fun|146=>177|221=>202|268=>228|138=>229|143=>227|195=>250|197=>223|218=>251|219=>249|260=>242|217=>264|225=>260|224=>259|267=>265|266=>269|314=>270|n=>n,fun|9=>9|31=>22|3=>3|4=>4|0=>0|105=>249|21=>21|5=>5|46=>108|119=>279|139=>282|138=>281|146=>295|51=>107|n=>n,fun|1=>1|3=>4|4=>5|n=>n⟩
theorem anp:Go.Proofs.Lays.n146 Tryz.prog aaR:=by repeat' first|(intros;kernel_rfl)|constructor|decide
instance ac7(s1:Str)(t1:Str):CT Tryz.prog (strings_Split s1 t1) (fun r=>.ret (sP r)) 177 [.str s1,.str t1]:=⟨zP rfl,fun {r0} hf {τ Q} h=>by
 unfold strings_Split at hf;split at hf
 case isFalse=>cases hf
 rename_i hg;cases hf;refine AC.none ?_
 exact AC.split anp (by kernel_rfl) hg.1 hg.2 CS.max h⟩
end
section
variable [CS]
@[reducible] def YA:fq aF ah→dO
  | .ok r=>.ret (.agg (aR r))
  | .bad e=>.panic (.iface 164 (.agg [iP e.code]))
instance Rt(name1:Str)(a1:ah)(b1:ah):CT Tryz.prog (He name1 a1 b1) (fun r=>YA r) 147 [.str name1,.agg (aR a1),.agg (aR b1)]:=by
  unfold He;exact Z1 ⟨62,[],[]⟩ Z Tryz.func147 Z Z Z Z
end
@[reducible] def Uv:fq aF Bool→dO
  | .ok r=>.ret (.bool r)
  | .bad e=>.panic (.iface 164 (.agg [iP e.code]))
instance uZ(v1:ah):CT Tryz.prog (tX v1) (fun r=>Uv r) 120 [.agg (aR v1)]:=by
  unfold tX;exact Z1 ⟨8,[],[]⟩ Z Tryz.func120 Z Z Z Z
@[reducible] def Uu:fq aF ah→dO
  | .ok r=>.ret (.agg (aR r))
  | .bad e=>.panic (.iface 164 (.agg [iP e.code]))
instance LD(op1:Str)(v1:ah):CT Tryz.prog (Cu op1 v1) (fun r=>Uu r) 118 [.str op1,.agg (aR v1)]:=by
  unfold Cu;exact Z1 ⟨18,[],[]⟩ Z Tryz.func118 Z Z Z Z
@[reducible] def Uw:fq aF Int→dO
  | .ok r=>.ret (iP r)
  | .bad e=>.panic (.iface 164 (.agg [iP e.code]))
instance pI(a1:ah)(b1:ah):CT Tryz.prog (mK a1 b1) (fun r=>Uw r) 151 [.agg (aR a1),.agg (aR b1)]:=by
  unfold mK;exact Z1 ⟨17,[],[]⟩ Z Tryz.func151 Z Z Z Z
@[reducible] def RN:fq aF ah→dO
  | .ok r=>.ret (.agg (aR r))
  | .bad e=>.panic (.iface 164 (.agg [iP e.code]))
instance agy(n1:Int):CT Tryz.prog (qF n1) (fun r=>RN r) 179 [iP n1]:=by
  unfold qF;exact Z1 ⟨12,[],[]⟩ Z Tryz.func179 Z Z Z Z
@[reducible] def YB:fq aF ah→dO
  | .ok r=>.ret (.agg (aR r))
  | .bad e=>.panic (.iface 164 (.agg [iP e.code]))
instance Ru(a1:ah)(b1:ah):CT Tryz.prog (Eh a1 b1) (fun r=>YB r) 152 [.agg (aR a1),.agg (aR b1)]:=by
  unfold Eh;exact Z1 ⟨57,[],[]⟩ Z Tryz.func152 Z Z Z Z
instance Rm(n1:Int):CT Tryz.prog (Gz n1) (fun r=>.ret (.int .u64 (r.toNat:Int))) 230 [iP n1]:=⟨zP rfl,fun {r0} hf {τ Q} h=>by
 unfold Gz at hf;refine BN 10 [.tmp 2] [0] Tryz.func230 Z Z Z Z Z (V 3 Z (C hf Z (fun h1 hf=>?_) fun h1 hf=>?_))
 ·refine W 1 Z (AS Z (AO.YS Z UC DU Z (AS Z (AO.u64_neg (BitVec.ofInt 64 n1) Z Z Z ?_))));cases hf;exact N 1 Z (Y Z h)
 refine W 1 Z (AS Z (AO.YS Z UC DU Z ?_));cases hf;exact N 1 Z (Y Z h)⟩
instance afN(a1:Int)(b1:Int):CT Tryz.prog (Bg a1 b1) (fun r=>.ret (.agg (NS r))) 206 [iP a1,iP b1]:=⟨zP rfl,fun {r0} hf {τ Q} h=>by
 unfold Bg at hf;refine BN 71 [.cell 4 237] [0,1] Tryz.func206 Z Z Z Z Z (W 0 Z (AS Z (AO.bQ Z adj (fun b4=>?_))));refine B1 hf fun x1 h1 hf=>U 1 Z (CL Z ((Rm _).h h1 ?_));refine B1 hf fun y1 h2 hf=>U 1 Z (CL Z ((Rm _).h h2 (U 3 Z (AS Z (AO.zw x1 32 Z Z Z Z Z (U 1 Z (AS Z (AO.u64_and x1 (4294967295:BitVec 64) Z Z Z Z Z (U 1 Z (AS Z (AO.zw y1 32 Z Z Z Z Z ?_)))))))))));refine U 1 Z (AS Z (AO.u64_and y1 (4294967295:BitVec 64) Z Z Z Z Z ?_));refine B1 hf fun Qm h3 hf=>U 6 Z (AS Z (AO.Pd (x1 &&& (4294967295:BitVec 64)) (y1 &&& (4294967295:BitVec 64)) h3 Z Z Z Z Z ?_));refine B1 hf fun x2 h4 hf=>U 3 Z (AS Z (AO.Pd (x1 >>> 32) (y1 &&& (4294967295:BitVec 64)) h4 Z Z Z Z Z (U 1 Z (AS Z (AO.zw Qm 32 Z Z Z Z Z (AS Z (AO.Ov x2 (Qm >>> 32) Z Z Z Z Z ?_)))))));refine B1 hf fun x3 h5 hf=>U 3 Z (AS Z (AO.Pd (x1 &&& (4294967295:BitVec 64)) (y1 >>> 32) h5 Z Z Z Z Z ?_));refine B1 hf fun x4 h6 hf=>?_;refine U 1 Z (AS Z (AO.Pe (x2+(Qm >>> 32)) (4294967295:BitVec 64) h6 Z Z Z Z Z (AS Z (AO.Ov x3 x4 Z Z Z Z Z (U 3 Z (AS Z (AO.aan (x1 >>> 32) (y1 >>> 32) Z Z Z Z Z (U 1 Z (AS Z (AO.zw (x2+(Qm >>> 32)) 32 Z Z Z Z Z ?_))))))))));refine B1 hf fun x5 h7 hf=>AS Z (AO.adG ((x1 >>> 32)*(y1 >>> 32)) ((x2+(Qm >>> 32)) >>> 32) h7 Z Z Z Z Z (U 1 Z (AS Z (AO.zw (x3+x4) 32 Z Z Z Z Z (AS Z (AO.Ov x5 ((x3+x4) >>> 32) Z Z Z Z Z (U 1 Z (AS Z (AO.Ih (x3+x4) 32 Z Z Z Z Z ?_)))))))));refine U 1 Z (AS Z (AO.u64_and Qm (4294967295:BitVec 64) Z Z Z Z Z ?_));refine B1 hf fun x6 h8 hf=>AS Z (AO.Kv ((x3+x4) <<< 32) (Qm &&& (4294967295:BitVec 64)) h8 Z Z Z Z Z (AS Z (AO.M6 Z adk Ke Z (U 1 Z (AS Z (AO.bQ Z adj (fun b14=>(Rr 5 [0] Z Z (AS Z (AO.X9 Z ald Z Z ?_))))))))));refine U 1 Z (AR.and 5 63 68 [4,14] (x:=(!decide (([((x5+((x3+x4) >>> 32)).toNat:Int),(x6.toNat:Int)]:List Int)=([0,0]:List Int)))) Z Z (fun h9=>?_) (fun h9=>?_) ?_)
 ·refine Is 63 h9 Z (U 1 Z (GO Z (AO.dP (i:=0) Z Z Z ajy Z Z (GO Z (AO.M6 Z adk Ke Z (GO Z (AO.aez ([((x5+((x3+x4) >>> 32)).toNat:Int),(x6.toNat:Int)]:List Int) ([0,0]:List Int) Z ajt DU amI aks akm Z Z Z Z Z Z (aah [(x5+((x3+x4) >>> 32)),x6]) (aah [(0:BitVec 64),(0:BitVec 64)]) ?_)))))));exact LM 1 Z (En [68,4,14] Z)
 ·refine Is 63 h9 Z ?_;exact LM 5 Z (En [68,4,14] Z)
 cases hf;exact Rx 4 [0,0,1] Z Z (ZC [1] Z Z h)⟩
instance Yn(p1:eZ):CT Tryz.prog (qK p1) (fun r=>.ret (.tuple [iP r.1,.bool r.2])) 207 [.agg (NS p1)]:=⟨zP rfl,fun {r} hf {τ Q} h=>by
 obtain⟨r0,r1⟩:=r;unfold qK at hf;refine BN 37 [.tmp 2,.tmp 3] [0] Tryz.func207 Z Z Z Z Z (W 4 Z (AS Z (AO.tL (sz:=1) 0 Z Ke Z Z (by decide) Z ?_)));refine J 3 Z (C hf Z (fun h1 hf=>?_) fun h1 hf=>?_)
 ·cases hf;exact M 2 Z (Y Z h)
 refine W 3 Z (AR.and 5 12 17 [1] (x:=(decide (((p1.half.getD 1 0).toNat:Int)≤9223372036854775808))) Z Z (fun h2=>?_) (fun h2=>?_) ?_)
 ·refine Is 12 h2 Z (U 1 Z (GO Z (AO.tL (sz:=1) 1 Z Ke Z Z (by decide) Z ?_)));exact LM 3 Z (En [17,1] Z)
 ·refine Is 12 h2 Z ?_;exact LM 5 Z (En [17,1] Z)
 refine J 1 Z (C hf Z (fun h3 hf=>?_) fun h3 hf=>?_)
 ·refine W 1 Z (AS Z (AO.tL (sz:=1) 1 Z Ke Z Z (by decide) Z ?_));refine U 1 Z (AS Z (AO.u64_neg (p1.half.getD 1 0) Z Z Z (AS Z (AO.Ae Z DU UC Z ?_))));cases hf;exact N 2 Z (Y Z h)
 refine W 4 Z (AR.and 5 27 32 [1] (x:=(decide (((p1.half.getD 1 0).toNat:Int)≤9223372036854775807))) Z Z (fun h4=>?_) (fun h4=>?_) ?_)
 ·refine Is 27 h4 Z (U 1 Z (GO Z (AO.tL (sz:=1) 1 Z Ke Z Z (by decide) Z ?_)));exact LM 3 Z (En [32,1] Z)
 ·refine Is 27 h4 Z ?_;exact LM 5 Z (En [32,1] Z)
 refine J 1 Z (C hf Z (fun h5 hf=>?_) fun h5 hf=>?_)
 ·refine W 1 Z (AS Z (AO.tL (sz:=1) 1 Z Ke Z Z (by decide) Z ?_));refine U 1 Z (AS Z (AO.Ae Z DU UC Z ?_));cases hf;exact N 2 Z (Y Z h)
 cases hf;exact M 2 Z (Y Z h)⟩
instance akX(ahz:Bool):CT Tryz.prog (Vb ahz) (fun r=>.ret (iP r)) 208 [.bool ahz]:=by
  unfold Vb;exact Z1 ⟨4,[],[]⟩ Z Tryz.func208 Z Z Z Z
instance akY(a1:Int)(b1:Int):CT Tryz.prog (KX a1 b1) (fun r=>.ret (iP r)) 180 [iP a1,iP b1]:=by
  unfold KX;exact Z1 ⟨21,[],[]⟩ Z Tryz.func180 Z Z Z Z
@[reducible] def Km:fq aF ah→dO
  | .ok r=>.ret (.agg (aR r))
  | .bad e=>.panic (.iface 164 (.agg [iP e.code]))
instance Dv(op1:Str)(a1:ah)(b1:ah):CT Tryz.prog (oJ op1 a1 b1) (fun r=>Km r) 153 [.str op1,.agg (aR a1),.agg (aR b1)]:=by
  unfold oJ;exact Z1 ⟨46,[],[]⟩ Z Tryz.func153 Z Z Z Z
instance Rh(v1:ah):CT Tryz.prog (xA v1) (fun r=>.ret (iP r)) 209 [.agg (aR v1)]:=⟨zP rfl,fun {r0} hf {τ Q} h=>by
 unfold xA at hf;refine AC.none (AC.Jg 30 [.tmp 2] [0] Tryz.func209 Z Z Z Z Z ?_);obtain⟨b1,s1,h1,hf⟩:=lI hf;cases hf;refine AW.sr (AR.step Z Z Z (AO.IL Z Z Z (cs 1 Z (AR.nil [1] Z ?_))));refine AW.sr (AR.step Z Z Z (AO.bQ Z ak8 (fun b3=>(AR.bO Z Z (AO.eH (i:=0) Z Z Z Ky Z Z Z Z Z (AR.nil [1,3] Z ?_))))));refine AW.seq (AW.sr (cs 1 Z (AR.step Z Z Z (AO.call Z _ Z Z aiA (Jo _ _ ?_)))));refine AR.nil [3,7] Z (AW.block (AW.rangeFunc (β:=Int) (X:=Int × ah) Z aiy (fun x=>[iP x.1,.agg (aR x.2)]) (fun _=>Z) (by decide) (fun s x=>gL s x.1 x.2) (fun s=>[.box b3 [iP s]]) (fun _=>none) (s0:=0) (s1:=r0) Z Z ?_ ?_ ?_))
 ·intro l T' hy;refine FE l T' gL (fun s1 bN v1 b s2 hh=>hy s1 (bN,v1) b s2 hh) 0 v1 1 h1 ⟨⟨_,Z⟩,Z⟩
 ·rintro l s ⟨bN,x1⟩ b s2 hh;unfold gL at hh;refine⟨Z,?_⟩;cases hh;refine vF.seq (vF.region Z (cs 1 Z (AR.nil [3,4,9] Z ?_)));refine vF.region Z (AR.step Z Z Z (AO.bQ Z rV (fun b5=>(AR.bO Z Z (AO.eH (i:=0) Z Z Z vI Z Z Z Z Z (AR.nil [3,4,5] Z ?_))))));refine⟨Z,(vF.block (vF.seq (vF.seq ?_)))⟩;refine vF.region Z (cs 1 Z (AR.step Z Z Z (AO.dP (i:=0) Z Z Z Ky Z Z (cs 2 Z ?_))));refine AR.or 4 13 17 [3,4,5] (x:=(x1.kind==5)) Z Z (fun h2=>?_) (fun h2=>?_) ?_
  ·refine AR.is 13 h2 Z (cs 1 Z (AR.go Z Z Z Z Z Z (AO.dP (i:=0) Z Z Z Ky Z Z (cs 2 Z ?_))));refine AR.nil [17,3,4,5] Z ?_;exact⟨Z,Z,Z,Z⟩
  ·refine AR.is 13 h2 Z (cs 4 Z (AR.nil [17,3,4,5] Z ?_));exact⟨Z,Z,Z,Z⟩
  refine cs 1 Z (AR.and 5 18 23 [3,4,5] (x:=((x1.aN.length:Int)==0)) Z Z (fun h2=>?_) (fun h2=>?_) ?_)
  ·refine AR.is 18 h2 Z (cs 1 Z (AR.go Z Z Z Z Z Z (AO.dP (i:=0) Z Z Z adR Z Z (AR.go Z Z Z Z Z Z (AO.gB (l:=x1.aN) Z Z Z Z Hl Z (ah.dI _) ?_)))));refine cs 2 Z (AR.nil [23,3,4,5] Z ?_);exact⟨Z,Z,Z,Z⟩
  ·refine AR.is 18 h2 Z (cs 5 Z (AR.nil [23,3,4,5] Z ?_));exact⟨Z,Z,Z,Z⟩
  refine AR.nil [3,4,23] Z (vF.cond Z (fun h3=>?_) (fun h3=>?_))
  ·rw[show qO bN x1=bq (bN+1)from if_pos h3];refine vF.region Z (cs 3 Z (AR.nil [3,4] Z (vF.region Z ?_)));refine AR.step Z Z Z (AO.dP (i:=1) Z Z Z Ky Z Z (cs 1 Z (AR.step Z Z Z (AO.max2 Z Z Z Z Z (AR.bO Z Z (AO.eH (i:=1) Z Z Z Ky Z Z Z Z Z ?_))))));refine AR.nil [] Z ?_;exact⟨Z,.cons _ (List.Sublist.refl _),Z,Z⟩
  rw[show qO bN x1=bN from if_neg (by rw[h3];simp)];refine vF.skip (vF.region Z (AR.step Z Z Z (AO.dP (i:=1) Z Z Z Ky Z Z (cs 1 Z ?_))));refine AR.step Z Z Z (AO.max2 Z Z Z Z Z (AR.bO Z Z (AO.eH (i:=1) Z Z Z Ky Z Z Z Z Z (AR.nil [] Z ?_))));exact⟨Z,.cons _ (List.Sublist.refl _),Z,Z⟩
 intro D;show AW _ _ _ _ _ _ _
 refine AW.sr (AR.step Z Z Z (AO.dP (i:=0) Z Z Z Ky Z Z (cs 1 Z (AR.nil [2] Z ?_))));refine AW.ret ?_;exact⟨D,[_],Z,Z,_,⟨_,_,Z,Z,Z⟩,[],apP _,h⟩⟩
instance FI(y1:aD)(c1:aD):CT Tryz.prog (ko y1 c1) (fun r=>.ret (.bool r)) 210 [.agg (oV y1),.ref (oV c1)]:=by
  unfold ko;exact Z1 ⟨9,[],[]⟩ Z Tryz.func210 Z Z Z Z
instance (c1 :aD):CF1 Tryz.prog (fun je=>ko je c1) (fun y1=>.agg (oV y1)) (fun r=>.ret (.bool r)) 210 [.ref (oV c1)]:=⟨fun je=>FI je c1⟩
instance Sv(iJ:List aD)(i1:Int):CT Tryz.prog (zN iJ i1) (fun r=>.ret (iP r)) 181 [.list (List.map aD.cells iJ),iP i1]:=⟨zP rfl,fun {r0} hf {τ Q} h=>by
 unfold zN at hf;refine BN 36 [.tmp 4] [0,1] Tryz.func181 Z Z Z Z Z ?_;refine B1 hf fun e1 h1 hf=>W 3 Z (AS Z (AO.fM h1 Z Z Z Z Dn (aD.bn _) Z (U 1 Z (AS Z (AO.bQ Z VZ (fun b5=>(Rr 3 [0,0] Z Z (AS Z (AO.rZ Z Z Z Z qP Z (U 2 Z (AR.or 5 15 20 [0,1,5] (x:=(decide (64<(e1.name.length:Int)))) Z Z (fun h2=>?_) (fun h2=>?_) ?_)))))))))))
 ·refine Is 15 h2 Z (U 1 Z (GO Z (AO.dP (i:=0) Z Z Z ajx Z Z (GO Z (AO.rZ Z Z Z Z qP Z ?_)))));exact LM 2 Z (En [20,0,1,5] Z)
 ·refine Is 15 h2 Z ?_;exact LM 5 Z (En [20,0,1,5] Z)
 refine J 0 Z (C hf Z (fun h3 hf=>?_) fun h3 hf=>?_)
 ·cases hf;exact M 1 Z (Y Z h)
 refine B1 hf fun e2 h4 hf=>Wr 2 [0] Z Z (CL Z ((DL _).h h4 (J 3 Z (C hf Z (fun h5 hf=>?_) fun h5 hf=>?_))))
 ·cases hf;exact M 2 Z (Y Z h)
 refine B1 hf fun x1 h6 hf=>Wr 2 [0] Z Z (CL Z ((Rh _).h h6 (J 1 Z (C hf Z (fun h7 hf=>?_) fun h7 hf=>?_))))
 ·cases hf;exact M 1 Z (Y Z h)
 refine B1 hf fun x2 h8 hf=>W 2 Z (AS Z (AO.KC h8 Z Dn Z Z Z (aD.dV) Z ⟨_,Z⟩ (AR.aap 5 0 Z Z Z Z ?_)));refine B1 hf fun x3 h9 hf=>U 1 Z (CL Z (lJ _ (fun z0=>ko z0 e1) 210 [.ref (oV e1)] ajH (fun _ _ hz=>(FI _ _).h hz) h9 (J 0 Z (C hf Z (fun h10 hf=>?_) fun h10 hf=>?_))))
 ·cases hf;exact M 1 Z (Y Z h)
 cases hf;exact M 1 Z (Y Z h)⟩
instance agm(a1:aD)(b1:aD):CT Tryz.prog (F4 a1 b1) (fun r=>.ret (iP r)) 183 [.agg (oV a1),.agg (oV b1)]:=⟨zP rfl,fun {r0} hf {τ Q} h=>by
 unfold F4 at hf;refine BN 10 [.tmp 4] [0,1] Tryz.func183 Z Z Z Z Z ?_;refine BR hf fun x1 h1 hf=>?_;refine W 7 Z (CL Z ((Ap _ _).h h1 ?_));cases hf;exact N 1 Z (Y Z h)⟩
theorem Sm(a1 b1:aD){r0:Int}(hf:F4 a1 b1=some r0){τ:List aS}{Q:dO→List aS→Prop}(h:Q (.ret (iP r0)) τ):AC Tryz.prog 183 [.agg (oV a1),.agg (oV b1)] τ Q:=CT.h hf h
def aaB:Go.Shelf.Ren:=⟨fun|6=>182|15=>212|14=>211|28=>239|29=>214|20=>231|21=>232|22=>233|23=>234|24=>235|25=>236|26=>237|27=>238|46=>252|47=>253|48=>254|49=>255|50=>256|57=>266|n=>n,fun|22=>25|24=>37|25=>216|3=>3|39=>108|0=>0|53=>107|55=>43|4=>4|46=>257|45=>256|50=>210|5=>5|9=>9|66=>271|70=>275|76=>288|77=>289|n=>n,fun|n=>n⟩
theorem abJ:Go.Proofs.SlLaysF0.n6 Tryz.prog aaB:={
 mixed:=by kernel_rfl
 f6:=⟨Tryz.f182.name,by decide,Tryz.func182.trans (apQ some (by kernel_rfl))⟩
 f14:=⟨Tryz.f211.name,by decide,Tryz.func211.trans (apQ some (by kernel_rfl))⟩
 f15:=Tryz.func212.trans (apQ some (by kernel_rfl))
 f20:=⟨Tryz.f231.name,by decide,Tryz.func231.trans (apQ some (by kernel_rfl))⟩
 f21:=⟨Tryz.f232.name,by decide,Tryz.func232.trans (apQ some (by kernel_rfl))⟩
 f22:=⟨Tryz.f233.name,by decide,Tryz.func233.trans (apQ some (by kernel_rfl))⟩
 f23:=⟨Tryz.f234.name,by decide,Tryz.func234.trans (apQ some (by kernel_rfl))⟩
 f24:=⟨Tryz.f235.name,by decide,Tryz.func235.trans (apQ some (by kernel_rfl))⟩
 f25:=⟨Tryz.f236.name,by decide,Tryz.func236.trans (apQ some (by kernel_rfl))⟩
 f26:=⟨Tryz.f237.name,by decide,Tryz.func237.trans (apQ some (by kernel_rfl))⟩
 f27:=⟨Tryz.f238.name,by decide,Tryz.func238.trans (apQ some (by kernel_rfl))⟩
 f28:=Tryz.func239.trans (apQ some (by kernel_rfl))
 f29:=Tryz.func214.trans (apQ some (by kernel_rfl))
 f46:=⟨Tryz.f252.name,by decide,Tryz.func252.trans (apQ some (by kernel_rfl))⟩
 f47:=Tryz.func253.trans (apQ some (by kernel_rfl))
 f48:=Tryz.func254.trans (apQ some (by kernel_rfl))
 f49:=⟨Tryz.f255.name,by decide,Tryz.func255.trans (apQ some (by kernel_rfl))⟩
 f50:=⟨Tryz.f256.name,by decide,Tryz.func256.trans (apQ some (by kernel_rfl))⟩
 f57:=⟨Tryz.f266.name,by decide,Tryz.func266.trans (apQ some (by kernel_rfl))⟩
 t0:=Tryz.underlying0
 a0:=Tryz.isAgg0
 z0:=Tryz.sizeOf0
 v0:=Tryz.zeroValue0
 t3:=Tryz.underlying3
 a3:=Tryz.isAgg3
 z3:=Tryz.sizeOf3
 v3:=Tryz.zeroValue3
 t4:=Tryz.underlying4
 a4:=Tryz.isAgg4
 z4:=Tryz.sizeOf4
 v4:=Tryz.zeroValue4
 t5:=Tryz.underlying5
 a5:=Tryz.isAgg5
 z5:=Tryz.sizeOf5
 v5:=Tryz.zeroValue5
 t9:=Tryz.underlying9
 a9:=Tryz.isAgg9
 z9:=Tryz.sizeOf9
 v9:=Tryz.zeroValue9
 t22:=Tryz.underlying25
 a22:=Tryz.isAgg25
 z22:=Tryz.sizeOf25
 v22:=Tryz.zeroValue25
 t25:=Tryz.underlying216
 a25:=Tryz.isAgg216
 z25:=Tryz.sizeOf216
 v25:=Tryz.zeroValue216
 t39:=Tryz.underlying108
 a39:=Tryz.isAgg108
 z39:=Tryz.sizeOf108
 v39:=Tryz.zeroValue108
 t45:=Tryz.underlying256
 a45:=Tryz.isAgg256
 z45:=Tryz.sizeOf256
 v45:=Tryz.zeroValue256
 t46:=Tryz.underlying257
 a46:=Tryz.isAgg257
 z46:=Tryz.sizeOf257
 v46:=Tryz.zeroValue257
 t50:=Tryz.underlying210
 a50:=Tryz.isAgg210
 z50:=Tryz.sizeOf210
 v50:=Tryz.zeroValue210
 t53:=Tryz.underlying107
 a53:=Tryz.isAgg107
 z53:=Tryz.sizeOf107
 v53:=Tryz.zeroValue107
 t55:=Tryz.underlying43
 a55:=Tryz.isAgg43
 z55:=Tryz.sizeOf43
 v55:=Tryz.zeroValue43
 t66:=Tryz.underlying271
 a66:=Tryz.isAgg271
 z66:=Tryz.sizeOf271
 v66:=Tryz.zeroValue271
 t70:=Tryz.underlying275
 a70:=Tryz.isAgg275
 z70:=Tryz.sizeOf275
 v70:=Tryz.zeroValue275
 t76:=Tryz.underlying288
 a76:=Tryz.isAgg288
 z76:=Tryz.sizeOf288
 v76:=Tryz.zeroValue288
 t77:=Tryz.underlying289
 a77:=Tryz.isAgg289
 z77:=Tryz.sizeOf289
 v77:=Tryz.zeroValue289}
theorem Ka(s1:List aD){r0:List aD}(hf:Tj (fun x=>x.name) s1=some r0){v:Value}{e:TypeId}{Q:dO→List aS→Prop}(h:Q (.ret (.tuple [])) [.buf v (List.map aD.cells r0).length 7 e (r0.flatMap aD.cells)]):
  PC 182 [.val v,.fn 183 []] [.buf v s1.length 7 e (s1.flatMap aD.cells)] Q:=by
 unfold Tj at hf;split at hf
 case isFalse=>cases hf
 rename_i hg;obtain⟨h1,h2,h3⟩:=hg;cases hf;rw[apS]at h
 exact AC.abK abJ aD.cells (k:=7) (by decide) (fun _=>Z) (fun _=>Z) amW ak_ ajI (cf:=fun a b=>f_ a.name b.name)
  (fun a b ha hb=>@Sm XC a b _ (Mx (h2 a ha) (h2 b hb)) _ _ Z) (fun x hx=>by rw[Xl]at hx;omega) (fun x y z a b=>KZ a b) (fun x y z a b=>Jh a b)
  (by
   rw[List.Nodup,List.pairwise_map]at h3;refine h3.imp fun {x y} hne=>?_;rcases Int.lt_trichotomy (f_ x.name y.name) 0 with h|h|h
   ·exact .inl h
   ·exact absurd (Df h) hne
   ·right;rw[yU];omega)
  (by unfold w9 at h1;omega) h
instance Ye(iJ:List aD):CT Tryz.prog (BK iJ) (fun r=>.ret (.tuple [.agg (aR r.1),iP r.2])) 154 [.list (List.map aD.cells iJ)]:=⟨zP rfl,fun {r} hf {τ Q} h=>by
 obtain⟨r0,r1⟩:=r;unfold BK at hf;refine BN 55 [.cell 2 35,.tmp 3] [0] Tryz.func154 Z Z Z Z Z (W 0 Z (AS Z (AO.bQ Z rV (fun b2=>(U 2 Z (AS Z (AO.gB (l:=iJ) Z Z Z Z Dn Z Z (J 1 Z (C hf Z (fun h1 hf=>?_) fun h1 hf=>?_)))))))))
 ·cases hf;exact Wx 3 [0] Z Z (ZC [0] Z Z h)
 refine W 1 Z (AS Z (AO.gB (l:=iJ) Z Z Z Z Dn Z Z (J 1 Z (LK1 (fun i1=>[(0,.list (List.map aD.cells iJ)),(2,pP b2),(15,iP (iJ.length:Int)),(16,iP i1)]) (fun i1=>[.box b2 [iP 0,.bool false,iP 0,.str ([]:Str),.own (.slice none 0 0) [],.own (.slice none 0 0) []]]) (fun dG i1=>uE iJ dG i1=some (r0,r1)) BIG 0 Z Z hf (fun _ hz=>jS hz) ?_))));intro dG i1 hf;rw[uE]at hf;refine V 1 Z (C hf Z (fun h2 hf=>?_) fun h2 hf=>?_)
 ·refine B1 hf fun e1 h3 hf=>W 4 Z (CL Z ((Sv _ _).h h3 (J 3 Z (C hf Z (fun h4 hf=>?_) fun h4 hf=>?_))))
  ·cases hf;exact Wx 4 [0] Z Z (ZC [0] Z Z h)
  exact M 2 Z ⟨(bq (i1+1)),Z,Z,Z,hf⟩
 refine B1 hf fun Oy h5 hf=>W 1 Z (CL Z (AC.none (vC _ h5 (fun v1=>?_))));refine B1 hf fun rW h6 hf=>U 2 rfl (CL rfl (AC.one 0 rfl (Ka _ h6 ⟨_,rfl,(AR.freeze 6 0 (List.map aD.cells rW) rfl rfl rfl (fun x hx=>by obtain⟨s,_,rfl⟩:=List.mem_map.1 hx;rfl) Z ?_)⟩)));refine U 1 Z (AS Z (AO.bQ Z rV (fun b7=>(Rr 2 [0] Z Z (AS Z (AO.gB (l:=rW) Z Z Z Z Dn Z Z ?_))))));refine J 1 Z (AW.row 6 35 (AW.row 1 9 (LK4 (fun x1 bM v2 v3=>[(2,pP b2),(7,pP b7),(32,.own v1 (List.map aD.cells rW)),(33,iP (rW.length:Int)),(34,iP x1)]) (fun x1 bM v2 v3=>[.row v3 (List.map jJ bM.keys).length 1 9,.row v2 (ah.eU bM.aN).length 6 35,.box b7 [iP bM.kind,.bool bM.dR,iP bM.dS,.str bM.bR,.own v2 (ah.eU bM.aN),.own v3 (List.map jJ bM.keys)],.row v1 (List.map aD.cells rW).length 7 37,.box b2 [iP 0,.bool false,iP 0,.str ([]:Str),.own (.slice none 0 0) [],.own (.slice none 0 0) []]]) (fun Ea x1 bM v2 v3=>uD rW Ea x1 bM=some (r0,r1)) BIG 0 (ah.mk 5 false 0 ([]:Str) [] []) (.slice none 0 0) (.slice none 0 0) Z Z hf (fun _ _ _ _ hz=>jS hz) ?_)));intro Ea x1 bM v2 v3 hf;rw[uD]at hf;refine V 1 Z (C hf Z (fun h7 hf=>?_) fun h7 hf=>?_)
 ·refine B1 hf fun e2 h8 hf=>W 0 Z (AS Z (AO.fM h8 Z Z Z Z Dn (aD.bn _) Z (U 1 Z (AS Z (AO.bQ Z VZ (fun b9=>(Rr 5 [0,3,0] Z Z (AS Z (AO.jm (List.map jJ ([e2.name]:List Str)) Z Tt Z Z Z Z ?_)))))))));refine B1 hf fun x2 h9 hf=>AS Z (AO.ng (i:=1) (l:=bM.keys) (m:=([e2.name]:List Str)) h9 Z Z Z Z Z Z Z Tt NY Z Z Z (fun _=>Z) (fun _=>Z) (by decide) (fun v4 s1 hs1=>?_));cases hs1;refine Rw 2 [3] Z Z (AW.draw 6 mixed (by kernel_rfl) Z ?_);refine Ev.cs fK 1 Z (Ev.cons Z Z Z (AO.dP (i:=3) Z Z Z adR Z Z zg) (Ev.cs fK 1 Z (Ev.cons Z Z Z (AO.dP (i:=0) Z Z Z vI Z Z zg) ?_)));refine B1 hf fun x3 h10 hf=>Ev.cons rfl rfl rfl (AO.call rfl _ rfl rfl ajJ ((Sw _).h h10 ⟨rfl,rfl⟩)) (Ev.cons rfl rfl rfl (AO.jm (ah.eU [x3]) rfl Tq rfl rfl rfl (by first|rfl|simp only[ah.bn,ah.eU]) ⟨rfl,rfl⟩) ?_);refine Ev.nil ?_;show AR _ _ _ _ _ _ _ _
  refine B1 hf fun x4 h11 hf=>AS Z (AO.ng (i:=2) (l:=bM.aN) (m:=[x3]) h11 Z Z Z Z Z Z Z Tq Hl (ah.dI _) (ah.dI _) (ah.dI _).symm (ah.dV) (ah.cells_one) (by decide) (fun v5 s2 hs2=>?_));cases hs2;refine Rn 4 [3] Z Z (AR.drop1 ?_);exact N 0 Z ⟨(bq (x1+1)),(ah.mk bM.kind bM.dR bM.dS bM.bR x4 x2),v5,v4,Z,Z,Z,hf⟩
 cases hf;exact Wx 3 [2,4] Z Z (ZC [4] Z Z h)⟩
section
variable [CS]
@[reducible] def xk:fq aF ah→dO
 | .ok r=>.ret (.agg (aR r))
 | .bad e=>.panic (.iface 164 (.agg [iP e.code]))
@[reducible] def xq:fq aF ah→dO
 | .ok r=>.ret (.agg (aR r))
 | .bad e=>.panic (.iface 164 (.agg [iP e.code]))
@[reducible] def yJ:fq aF (List ah)→dO
 | .ok r=>.ret (.list (ah.eU r))
 | .bad e=>.panic (.iface 164 (.agg [iP e.code]))
@[reducible] def vk:fq aF ah→dO
 | .ok r=>.ret (.agg (aR r))
 | .bad e=>.panic (.iface 164 (.agg [iP e.code]))
@[reducible] def sK:fq aF ah→dO
 | .ok r=>.ret (.agg (aR r))
 | .bad e=>.panic (.iface 164 (.agg [iP e.code]))
abbrev mG(aZ:List aD→au→Option (fq aF ah)):Prop:=∀(qB:List aD) (oG:au) {xB:fq aF ah},aZ qB oG=some xB→∀ {τ:List aS} {Q:dO→List aS→Prop} (h:Q (xk xB) τ),PC 95 [.list (List.map aD.cells qB),.agg (dZ oG)] τ Q
abbrev mH(bW:List aD→au→Option (fq aF ah)):Prop:=∀(qB:List aD) (oG:au) {xB:fq aF ah},bW qB oG=some xB→∀ {τ:List aS} {Q:dO→List aS→Prop} (h:Q (xq xB) τ),PC 117 [.list (List.map aD.cells qB),.agg (dZ oG)] τ Q
abbrev nO(bV:List aD→List au→Option (fq aF (List ah))):Prop:=∀(qB:List aD) (ul1:List au) {xB:fq aF (List ah)},bV qB ul1=some xB→∀ {τ:List aS} {Q:dO→List aS→Prop} (h:Q (yJ xB) τ),PC 122 [.list (List.map aD.cells qB),.list (au.eU ul1)] τ Q
abbrev kJ(bK:List aD→au→Option (fq aF ah)):Prop:=∀(qB:List aD) (oG:au) {xB:fq aF ah},bK qB oG=some xB→∀ {τ:List aS} {Q:dO→List aS→Prop} (h:Q (vk xB) τ),PC 119 [.list (List.map aD.cells qB),.agg (dZ oG)] τ Q
abbrev j5(bI:List aD→au→Option (fq aF ah)):Prop:=∀(qB:List aD) (oG:au) {xB:fq aF ah},bI qB oG=some xB→∀ {τ:List aS} {Q:dO→List aS→Prop} (h:Q (sK xB) τ),PC 124 [.list (List.map aD.cells qB),.agg (dZ oG)] τ Q
theorem Kq(aZ)(bH:mG aZ)(bW)(kI:mH bW)(bV)(gW:nO bV)(bK)(jM:kJ bK)(bI)(jC:j5 bI)(s1:List aD)(e1:au){rX:fq aF ah}(hf:su aZ bW bV bK bI s1 e1=some rX)(h:Q (xk rX) τ):PC 95 [.list (List.map aD.cells s1),.agg (dZ e1)] τ Q:=by
 unfold su at hf;refine BN 104 [.cell 4 35] [0,1] Tryz.func95 Z Z Z Z Z (W 1 Z (AS Z (AO.bQ Z rV (fun b4=>(J 4 Z (C hf Z (fun h1 hf=>?_) fun h1 hf=>?_))))))
 ·cases hf;exact Wx 3 [0] Z Z (ZC [0] Z Z h)
 refine V 2 Z (C hf Z (fun h2 hf=>?_) fun h2 hf=>?_)
 ·rcases dW hf with⟨e2,h3,hf⟩|⟨x1,h3,hf⟩
  ·refine W 3 Z (CL Z ((Dt _ _).h h3 ?_));cases hf;exact⟨Z,[],apP _,h⟩
  refine W 3 Z (CL Z ((Dt _ _).h h3 ?_));cases hf;exact Rx 1 [0] Z Z (ZC [0] Z Z h)
 refine V 2 Z (C hf Z (fun h4 hf=>?_) fun h4 hf=>?_)
 ·refine B1 hf fun e3 h5 hf=>?_;rcases dW hf with⟨e4,h6,hf⟩|⟨x2,h6,hf⟩
  ·refine V 0 Z (AW.aa6 5 8 mixed (by kernel_rfl) Z Z ?_);refine Ev.cs fK 3 Z (Ev.cons Z Z Z (AO.fM h5 Z Z (au.dI _) Z Aw (au.bn _) Z zg) (Ev.cs fK 1 Z (Ev.nil ?_)));refine⟨_,_,Z,Z,Z,Z,AO.call Z _ Z Z NK (bH _ _ h6 ?_),?_⟩
   ·cases hf;exact⟨Z,[],apP _,h⟩
   refine Ev.cs fK 2 Z (Ev.nil ?_);trivial
  refine V 0 Z (AW.draw 9 mixed (by kernel_rfl) Z ?_);refine Ev.cs fK 3 Z (Ev.cons Z Z Z (AO.fM h5 Z Z (au.dI _) Z Aw (au.bn _) Z zg) (Ev.cs fK 1 Z (Ev.cons Z Z Z (AO.call Z _ Z Z NK (bH _ _ h6 zg)) ?_)));refine Ev.cs fK 2 Z ?_;refine B1 hf fun x3 h7 hf=>Ev.cons Z Z Z (AO.call Z _ Z Z aei ((N_ _).h h7 zg)) (Ev.nil ?_);show AR _ _ _ _ _ _ _ _;rcases dW hf with⟨e5,h8,hf⟩|⟨x4,h8,hf⟩
  ·refine CL Z ((LG _ _).h h8 ?_);cases hf;exact⟨Z,[],apP _,h⟩
  refine CL Z ((LG _ _).h h8 ?_);cases hf;exact Rx 1 [0] Z Z (ZC [0] Z Z h)
 refine V 2 Z (C hf Z (fun h9 hf=>?_) fun h9 hf=>?_)
 ·refine B1 hf fun e6 h10 hf=>W 3 Z (AS Z (AO.fM h10 Z Z (au.dI _) Z Aw (au.bn _) Z ?_));rcases dW hf with⟨e7,h11,hf⟩|⟨x5,h11,hf⟩
  ·refine U 1 Z (CL Z (bH _ _ h11 ?_));cases hf;exact⟨Z,[],apP _,h⟩
  refine U 1 Z (CL Z (bH _ _ h11 (AS Z (AO.bQ Z rV (fun b5=>?_)))));refine B1 hf fun e8 h12 hf=>?_;rcases dW hf with⟨e9,MN,hf⟩|⟨x6,MN,hf⟩
  ·refine Rw 1 [0] Z Z (AW.aa6 6 7 mixed (by kernel_rfl) Z Z ?_);refine Ev.cons Z Z Z (AO.dP (i:=0) Z Z Z vI Z Z zg) (Ev.cs fK 3 Z (Ev.cons Z Z Z (AO.fM h12 Z Z (au.dI _) Z Aw (au.bn _) Z zg) (Ev.cs fK 1 Z ?_)));refine Ev.nil (⟨_,_,Z,Z,Z,Z,AO.call Z _ Z Z NK (bH _ _ MN ?_),?_⟩)
   ·cases hf;exact⟨Z,[],apP _,h⟩
   refine Ev.nil ?_;trivial
  refine Rw 1 [0] Z Z (AW.draw 7 mixed (by kernel_rfl) Z ?_);refine Ev.cons Z Z Z (AO.dP (i:=0) Z Z Z vI Z Z zg) (Ev.cs fK 3 Z (Ev.cons Z Z Z (AO.fM h12 Z Z (au.dI _) Z Aw (au.bn _) Z zg) (Ev.cs fK 1 Z ?_)));refine Ev.cons Z Z Z (AO.call Z _ Z Z NK (bH _ _ MN zg)) (Ev.nil ?_);show AR _ _ _ _ _ _ _ _;rcases dW hf with⟨e10,OP,hf⟩|⟨x7,OP,hf⟩
  ·refine CL Z ((H9 _ _).h OP ?_);cases hf;exact⟨Z,[],apP _,h⟩
  refine CL Z ((H9 _ _).h OP ?_);cases hf;exact Rx 1 [1] Z Z (ZC [1] Z Z h)
 refine V 2 Z (C hf Z (fun h15 hf=>?_) fun h15 hf=>?_)
 ·rcases dW hf with⟨e11,h16,hf⟩|⟨x8,h16,hf⟩
  ·refine W 2 Z (CL Z (kI _ _ h16 ?_));cases hf;exact⟨Z,[],apP _,h⟩
  refine W 2 Z (CL Z (kI _ _ h16 ?_));cases hf;exact Rx 1 [0] Z Z (ZC [0] Z Z h)
 refine V 2 Z (C hf Z (fun h17 hf=>?_) fun h17 hf=>?_)
 ·refine B1 hf fun e12 h18 hf=>?_;rcases dW hf with⟨e13,h19,hf⟩|⟨x9,h19,hf⟩
  ·refine V 0 Z (AW.aa6 7 8 mixed (by kernel_rfl) Z Z ?_);refine Ev.cs fK 5 Z (Ev.cons Z Z Z (AO.fM h18 Z Z (au.dI _) Z Aw (au.bn _) Z zg) (Ev.cs fK 1 Z (Ev.nil ?_)));refine⟨_,_,Z,Z,Z,Z,AO.call Z _ Z Z NK (bH _ _ h19 ?_),?_⟩
   ·cases hf;exact⟨Z,[],apP _,h⟩
   refine Ev.nil ?_;trivial
  refine V 0 Z (AW.draw 8 mixed (by kernel_rfl) Z ?_);refine Ev.cs fK 5 Z (Ev.cons Z Z Z (AO.fM h18 Z Z (au.dI _) Z Aw (au.bn _) Z zg) (Ev.cs fK 1 Z (Ev.cons Z Z Z (AO.call Z _ Z Z NK (bH _ _ h19 zg)) ?_)));refine Ev.nil ?_;show AR _ _ _ _ _ _ _ _;rcases dW hf with⟨e14,h20,hf⟩|⟨Kn,h20,hf⟩
  ·refine CL Z ((LD _ _).h h20 ?_);cases hf;exact⟨Z,[],apP _,h⟩
  refine CL Z ((LD _ _).h h20 ?_);cases hf;exact Rx 1 [0] Z Z (ZC [0] Z Z h)
 refine V 2 Z (C hf Z (fun h21 hf=>?_) fun h21 hf=>?_)
 ·rcases dW hf with⟨e15,h22,hf⟩|⟨RP,h22,hf⟩
  ·refine W 2 Z (CL Z (jM _ _ h22 ?_));cases hf;exact⟨Z,[],apP _,h⟩
  refine W 2 Z (CL Z (jM _ _ h22 ?_));cases hf;exact Rx 1 [0] Z Z (ZC [0] Z Z h)
 refine V 2 Z (C hf Z (fun h23 hf=>?_) fun h23 hf=>?_)
 ·refine B1 hf fun e16 h24 hf=>W 3 Z (AS Z (AO.fM h24 Z Z (au.dI _) Z Aw (au.bn _) Z ?_));rcases dW hf with⟨e17,h25,hf⟩|⟨x12,h25,hf⟩
  ·refine U 1 Z (CL Z (bH _ _ h25 ?_));cases hf;exact⟨Z,[],apP _,h⟩
  refine U 1 Z (CL Z (bH _ _ h25 ?_));rcases dW hf with⟨e18,h26,hf⟩|⟨V7,h26,hf⟩
  ·refine CL Z ((uZ _).h h26 ?_);cases hf;exact⟨Z,[],apP _,h⟩
  refine CL Z ((uZ _).h h26 (J 0 Z (C hf Z (fun h27 hf=>?_) fun h27 hf=>?_)))
  ·refine B1 hf fun e19 h28 hf=>W 3 Z (AS Z (AO.fM h28 Z Z (au.dI _) Z Aw (au.bn _) Z ?_));rcases dW hf with⟨e20,h29,hf⟩|⟨x14,h29,hf⟩
   ·refine U 1 Z (CL Z (bH _ _ h29 ?_));cases hf;exact⟨Z,[],apP _,h⟩
   refine U 1 Z (CL Z (bH _ _ h29 ?_));cases hf;exact Rx 1 [0] Z Z (ZC [0] Z Z h)
  refine B1 hf fun e21 h30 hf=>W 3 Z (AS Z (AO.fM h30 Z Z (au.dI _) Z Aw (au.bn _) Z ?_));rcases dW hf with⟨e22,h31,hf⟩|⟨x15,h31,hf⟩
  ·refine U 1 Z (CL Z (bH _ _ h31 ?_));cases hf;exact⟨Z,[],apP _,h⟩
  refine U 1 Z (CL Z (bH _ _ h31 ?_));cases hf;exact Rx 1 [0] Z Z (ZC [0] Z Z h)
 refine V 2 Z (C hf Z (fun h32 hf=>?_) fun h32 hf=>?_)
 ·rcases dW hf with⟨e23,h33,hf⟩|⟨x16,h33,hf⟩
  ·refine W 3 Z (CL Z (gW _ _ h33 ?_));cases hf;exact⟨Z,[],apP _,h⟩
  refine W 3 Z (CL Z (gW _ _ h33 ?_));refine B1 hf fun x17 Vl hf=>CL Z ((VR _).h Vl (AS Z (AO.bQ Z rV (fun b6=>?_))));refine B1 hf fun x18 h35 hf=>Rr 2 [0,0] Z Z (CL Z ((DL _).h h35 ?_));rcases dW hf with⟨e24,h36,hf⟩|⟨_,h36,hf⟩
  ·refine U 1 Z (CL Z ((qG _ _).h h36 ?_));cases hf;exact⟨Z,[],apP _,h⟩
  refine U 1 Z (CL Z ((qG _ _).h h36 ?_));cases hf;exact Rx 2 [0,1] Z Z (ZC [1] Z Z h)
 rcases dW hf with⟨e25,h37,hf⟩|⟨x19,h37,hf⟩
 ·refine W 2 Z (CL Z (jC _ _ h37 ?_));cases hf;exact⟨Z,[],apP _,h⟩
 refine W 2 Z (CL Z (jC _ _ h37 ?_));cases hf;exact Rx 1 [0] Z Z (ZC [0] Z Z h)
theorem Kr(aZ)(bH:mG aZ)(bW)(kI:mH bW)(bV)(gW:nO bV)(bK)(jM:kJ bK)(bI)(jC:j5 bI)(s1:List aD)(e1:au){rX:fq aF ah}(hf:o9 aZ bW bV bK bI s1 e1=some rX)(h:Q (xq rX) τ):PC 117 [.list (List.map aD.cells s1),.agg (dZ e1)] τ Q:=by
 unfold o9 at hf;refine BN 40 [.cell 4 35] [0,1] Tryz.func117 Z Z Z Z Z (W 1 Z (AS Z (AO.bQ Z rV (fun b4=>?_))));refine B1 hf fun n1 h1 hf=>U 2 Z (CL Z ((VQ _).h h1 ?_));rcases dW hf with⟨e2,h2,hf⟩|⟨_,h2,hf⟩
 ·refine U 3 Z (CL Z ((qG _ _).h h2 ?_));cases hf;exact⟨Z,[],apP _,h⟩
 refine U 3 Z (CL Z ((qG _ _).h h2 (U 2 Z (AS Z (AO.gB (l:=e1.args) Z Z Z Z Aw Z (au.dI _) ?_)))));rcases dW hf with⟨e3,h3,hf⟩|⟨_,h3,hf⟩
 ·refine U 2 Z (CL Z ((qG _ _).h h3 ?_));cases hf;exact⟨Z,[],apP _,h⟩
 refine U 2 Z (CL Z ((qG _ _).h h3 ?_));rcases dW hf with⟨e4,h4,hf⟩|⟨args1,h4,hf⟩
 ·refine U 3 Z (CL Z (gW _ _ h4 ?_));cases hf;exact⟨Z,[],apP _,h⟩
 refine U 3 Z (CL Z (gW _ _ h4 (J 3 Z (C hf Z (fun h5 hf=>?_) fun h5 hf=>?_))))
 ·refine V 0 Z (AW.draw 5 mixed (by kernel_rfl) Z ?_);refine Ev.cs fK 3 Z ?_;refine B1 hf fun e5 h6 hf=>Ev.cons Z Z Z (AO.fM h6 Z Z (ah.dI _) Z Hl (ah.bn _) Z zg) (Ev.cs fK 1 Z (Ev.nil ?_));show AR _ _ _ _ _ _ _ _;rcases dW hf with⟨e6,h7,hf⟩|⟨x1,h7,hf⟩
  ·refine CL Z ((Rv _ _).h h7 ?_);cases hf;exact⟨Z,[],apP _,h⟩
  refine CL Z ((Rv _ _).h h7 ?_);cases hf;exact Rx 1 [0] Z Z (ZC [0] Z Z h)
 refine V 0 Z (AW.draw 8 mixed (by kernel_rfl) Z ?_);refine Ev.cs fK 3 Z ?_;refine B1 hf fun e7 h8 hf=>Ev.cons Z Z Z (AO.fM h8 Z Z (ah.dI _) Z Hl (ah.bn _) Z zg) (Ev.cs fK 2 Z ?_);refine B1 hf fun e8 h9 hf=>Ev.cons Z Z Z (AO.fM h9 Z Z (ah.dI _) Z Hl (ah.bn _) Z zg) (Ev.cs fK 1 Z (Ev.nil ?_));show AR _ _ _ _ _ _ _ _;rcases dW hf with⟨e9,h10,hf⟩|⟨x2,h10,hf⟩
 ·refine CL Z ((Rt _ _ _).h h10 ?_);cases hf;exact⟨Z,[],apP _,h⟩
 refine CL Z ((Rt _ _ _).h h10 ?_);cases hf;exact Rx 1 [0] Z Z (ZC [0] Z Z h)
theorem LQ(aZ)(bH:mG aZ)(bW)(kI:mH bW)(bV)(gW:nO bV)(bK)(jM:kJ bK)(bI)(jC:j5 bI)(s1:List aD)(l1:List au){rX:fq aF (List ah)}(hf:zh aZ bW bV bK bI s1 l1=some rX)(h:Q (yJ rX) τ):PC 122 [.list (List.map aD.cells s1),.list (au.eU l1)] τ Q:=by
 unfold zh at hf;refine BN 22 [.tmp 4] [0,1] Tryz.func122 Z Z Z Z Z (W 0 Z (AS Z (AO.kX Z Z (U 2 Z (AS Z (AO.gB (l:=l1) Z Z Z Z Aw Z (au.dI _) (J 1 Z (AW.row 6 35 (LK3 (fun bM v1 x1=>[(0,.list (List.map aD.cells s1)),(5,.own v1 (ah.eU bM)),(8,.list (au.eU l1)),(9,iP (l1.length:Int)),(10,iP x1)]) (fun bM v1 x1=>[.row v1 (ah.eU bM).length 6 35]) (fun dG bM v1 x1=>mh aZ s1 l1 dG bM x1=some rX) BIG [] (.slice none 0 0) 0 Z Z hf (fun _ _ _ hz=>jS hz) ?_)))))))));intro dG bM v1 x1 hf;rw[mh]at hf;refine V 1 Z (C hf Z (fun h1 hf=>?_) fun h1 hf=>?_)
 ·refine B1 hf fun e1 h2 hf=>W 0 Z (AS Z (AO.fM h2 Z Z (au.dI _) Z Aw (au.bn _) Z (U 1 Z (AS Z (AO.bQ Z Z8 (fun b7=>?_))))));rcases dW hf with⟨e2,h3,hf⟩|⟨x2,h3,hf⟩
  ·refine Rr 4 [0,0] Z Z (CL Z (bH _ _ h3 ?_));cases hf;exact⟨Z,[],apP _,h⟩
  refine Rr 4 [0,0] rfl rfl (CL rfl (bH _ _ h3 (AS rfl (AO.jm (ah.eU [x2]) rfl Tq rfl rfl rfl (by first|rfl|simp only[ah.bn,ah.eU]) ?_))));refine B1 hf fun xM h4 hf=>AS Z (AO.ng (i:=1) (l:=bM) (m:=[x2]) h4 Z Z Z Z Z Z Z Tq Hl (ah.dI _) (ah.dI _) (ah.dI _).symm (ah.dV) (ah.cells_one) (by decide) (fun v2 s2 hs2=>?_));cases hs2;refine LM 3 Z (AR.drop1 ?_);exact N 0 Z ⟨xM,v2,(bq (x1+1)),Z,Z,Z,hf⟩
 cases hf;exact M 2 Z (Y Z h)
theorem IX(aZ)(bH:mG aZ)(bW)(kI:mH bW)(bV)(gW:nO bV)(bK)(jM:kJ bK)(bI)(jC:j5 bI)(s1:List aD)(e1:au){rX:fq aF ah}(hf:mP aZ bW bV bK bI s1 e1=some rX)(h:Q (vk rX) τ):PC 119 [.list (List.map aD.cells s1),.agg (dZ e1)] τ Q:=by
 unfold mP at hf;refine BN 95 [.cell 4 35] [0,1] Tryz.func119 Z Z Z Z Z (W 1 Z (AS Z (AO.bQ Z rV (fun b4=>?_))));refine B1 hf fun e2 h1 hf=>U 3 Z (AS Z (AO.fM h1 Z Z (au.dI _) Z Aw (au.bn _) Z ?_));rcases dW hf with⟨e3,h2,hf⟩|⟨x1,h2,hf⟩
 ·refine U 1 Z (CL Z (bH _ _ h2 ?_));cases hf;exact⟨Z,[],apP _,h⟩
 refine U 1 Z (CL Z (bH _ _ h2 (AS Z (AO.bQ Z rV (fun b5=>(Rr 5 [0] Z Z (On 4 16 20 [0,3,4,5] (e1.name==([124,124]:Str)) Z Z Z Z (J 0 Z (C hf Z (fun h4 hf=>?_) fun h4 hf=>?_)))))))))
 ·rcases dW hf with⟨e4,h5,hf⟩|⟨x2,h5,hf⟩
  ·refine V 0 Z (AW.aa6 1 5 mixed (by kernel_rfl) Z Z ?_);refine Ev.cons Z Z Z (AO.dP (i:=0) Z Z Z vI Z Z zg) (Ev.nil (⟨_,_,Z,Z,Z,Z,AO.call Z _ Z Z aeh ((uZ _).h h5 ?_),?_⟩))
   ·cases hf;exact⟨Z,[],apP _,h⟩
   refine Ev.cs fK 3 Z (Ev.nil ?_);trivial
  refine V 0 Z (AW.draw 6 mixed (by kernel_rfl) Z ?_);refine Ev.cons Z Z Z (AO.dP (i:=0) Z Z Z vI Z Z zg) (Ev.cons Z Z Z (AO.call Z _ Z Z aeh ((uZ _).h h5 zg)) (Ev.cs fK 3 Z (Ev.cons Z Z Z (AO.X_ Z ald Z Z zg) ?_)));refine Ev.nil ?_;show AR _ _ _ _ _ _ _ _;refine J 0 Z (C hf Z (fun h6 hf=>?_) fun h6 hf=>?_)
  ·cases hf;exact Wx 2 [0,1] Z Z (ZC [1] Z Z h)
  refine B1 hf fun e5 h7 hf=>W 3 Z (AS Z (AO.fM h7 Z Z (au.dI _) Z Aw (au.bn _) Z ?_));rcases dW hf with⟨e6,h8,hf⟩|⟨x3,h8,hf⟩
  ·refine U 1 Z (CL Z (bH _ _ h8 ?_));cases hf;exact⟨Z,[],apP _,h⟩
  refine U 1 Z (CL Z (bH _ _ h8 ?_));rcases dW hf with⟨e7,h9,hf⟩|⟨x4,h9,hf⟩
  ·refine CL Z ((uZ _).h h9 ?_);cases hf;exact⟨Z,[],apP _,h⟩
  refine CL Z ((uZ _).h h9 ?_);refine B1 hf fun x5 h10 hf=>CL Z ((oh _).h h10 ?_);cases hf;exact Rx 1 [1] Z Z (ZC [1] Z Z h)
 refine B1 hf fun e8 h11 hf=>W 3 Z (AS Z (AO.fM h11 Z Z (au.dI _) Z Aw (au.bn _) Z ?_));rcases dW hf with⟨e9,h12,hf⟩|⟨x6,h12,hf⟩
 ·refine U 1 Z (CL Z (bH _ _ h12 ?_));cases hf;exact⟨Z,[],apP _,h⟩
 refine U 1 Z (CL Z (bH _ _ h12 (AS Z (AO.bQ Z rV (fun b6=>(Rw 5 [0] Z Z (C hf Z (fun MN hf=>?_) fun MN hf=>?_)))))))
 ·refine B1 hf fun x7 OP hf=>Wr 2 [1,0] Z Z (CL Z ((Jr _ _).h OP ?_));refine B1 hf fun x8 h15 hf=>CL Z ((oh _).h h15 ?_);cases hf;exact Rx 1 [2] Z Z (ZC [2] Z Z h)
 refine V 2 Z (C hf Z (fun h16 hf=>?_) fun h16 hf=>?_)
 ·refine B1 hf fun x9 h17 hf=>Wr 2 [1,0] Z Z (CL Z ((Jr _ _).h h17 ?_));refine B1 hf fun Kn h18 hf=>U 1 Z (CL Z ((oh _).h h18 ?_));cases hf;exact Rx 1 [2] Z Z (ZC [2] Z Z h)
 refine V 2 Z (C hf Z (fun h19 hf=>?_) fun h19 hf=>?_)
 ·rcases dW hf with⟨e10,h20,hf⟩|⟨RP,h20,hf⟩
  ·refine Wr 2 [1,0] Z Z (CL Z ((pI _ _).h h20 ?_));cases hf;exact⟨Z,[],apP _,h⟩
  refine Wr 2 [1,0] Z Z (CL Z ((pI _ _).h h20 ?_));refine B1 hf fun x12 h21 hf=>U 1 Z (CL Z ((oh _).h h21 ?_));cases hf;exact Rx 1 [2] Z Z (ZC [2] Z Z h)
 refine V 2 Z (C hf Z (fun h22 hf=>?_) fun h22 hf=>?_)
 ·rcases dW hf with⟨e11,h23,hf⟩|⟨V7,h23,hf⟩
  ·refine Wr 2 [1,0] Z Z (CL Z ((pI _ _).h h23 ?_));cases hf;exact⟨Z,[],apP _,h⟩
  refine Wr 2 [1,0] Z Z (CL Z ((pI _ _).h h23 ?_));refine B1 hf fun x14 h24 hf=>U 1 Z (CL Z ((oh _).h h24 ?_));cases hf;exact Rx 1 [2] Z Z (ZC [2] Z Z h)
 refine V 2 Z (C hf Z (fun h25 hf=>?_) fun h25 hf=>?_)
 ·rcases dW hf with⟨e12,h26,hf⟩|⟨x15,h26,hf⟩
  ·refine Wr 2 [1,0] Z Z (CL Z ((pI _ _).h h26 ?_));cases hf;exact⟨Z,[],apP _,h⟩
  refine Wr 2 [1,0] Z Z (CL Z ((pI _ _).h h26 ?_));refine B1 hf fun x16 h27 hf=>U 1 Z (CL Z ((oh _).h h27 ?_));cases hf;exact Rx 1 [2] Z Z (ZC [2] Z Z h)
 refine V 2 Z (C hf Z (fun h28 hf=>?_) fun h28 hf=>?_)
 ·rcases dW hf with⟨e13,h29,hf⟩|⟨x17,h29,hf⟩
  ·refine Wr 2 [1,0] Z Z (CL Z ((pI _ _).h h29 ?_));cases hf;exact⟨Z,[],apP _,h⟩
  refine Wr 2 [1,0] Z Z (CL Z ((pI _ _).h h29 ?_));refine B1 hf fun x18 h30 hf=>U 1 Z (CL Z ((oh _).h h30 ?_));cases hf;exact Rx 1 [2] Z Z (ZC [2] Z Z h)
 refine V 2 Z (C hf Z (fun h31 hf=>?_) fun h31 hf=>?_)
 ·rcases dW hf with⟨e14,h32,hf⟩|⟨x19,h32,hf⟩
  ·refine Wr 2 [1,0] Z Z (CL Z ((Ru _ _).h h32 ?_));cases hf;exact⟨Z,[],apP _,h⟩
  refine Wr 2 [1,0] Z Z (CL Z ((Ru _ _).h h32 ?_));cases hf;exact Rx 1 [2] Z Z (ZC [2] Z Z h)
 rcases dW hf with⟨e15,h33,hf⟩|⟨x20,h33,hf⟩
 ·refine Wr 4 [1,0] Z Z (CL Z ((Dv _ _ _).h h33 ?_));cases hf;exact⟨Z,[],apP _,h⟩
 refine Wr 4 [1,0] Z Z (CL Z ((Dv _ _ _).h h33 ?_));cases hf;exact Rx 1 [2] Z Z (ZC [2] Z Z h)
theorem F3(aZ)(bH:mG aZ)(bW)(kI:mH bW)(bV)(gW:nO bV)(bK)(jM:kJ bK)(bI)(jC:j5 bI)(s1:List aD)(e1:au){rX:fq aF ah}(hf:l6 aZ bW bV bK bI s1 e1=some rX)(h:Q (sK rX) τ):PC 124 [.list (List.map aD.cells s1),.agg (dZ e1)] τ Q:=by
 unfold l6 at hf;refine BN 41 [.cell 4 35] [0,1] Tryz.func124 Z Z Z Z Z (W 1 Z (AS Z (AO.bQ Z rV (fun b4=>?_))));rcases dW hf with⟨e2,h1,hf⟩|⟨x1,h1,hf⟩
 ·refine U 4 Z (CL Z (gW _ _ h1 ?_));cases hf;exact⟨Z,[],apP _,h⟩
 refine U 4 Z (CL Z (gW _ _ h1 (AS Z (AO.gB (l:=x1) Z Z Z Z Hl Z (ah.dI _) ?_))));refine J 1 Z (AW.row 7 37 (LK3 (fun iJ v1 i1=>[(3,.ref (dZ e1)),(4,pP b4),(5,.own v1 (List.map aD.cells iJ)),(13,.list (ah.eU x1)),(14,iP (x1.length:Int)),(15,iP i1)]) (fun iJ v1 i1=>[.row v1 (List.map aD.cells iJ).length 7 37,.box b4 [iP 0,.bool false,iP 0,.str ([]:Str),.own (.slice none 0 0) [],.own (.slice none 0 0) []]]) (fun dG iJ v1 i1=>kY e1 x1 dG iJ i1=some rX) BIG [] (.slice none 0 0) 0 Z Z hf (fun _ _ _ hz=>jS hz) ?_));intro dG iJ v1 i1 hf;rw[kY]at hf;refine V 1 Z (C hf Z (fun h2 hf=>?_) fun h2 hf=>?_)
 ·refine B1 hf fun e3 h3 hf=>W 1 Z (AS Z (AO.fM h3 Z Z (ah.dI _) Z Hl (ah.bn _) Z (U 1 Z (AS Z (AO.bQ Z rV (fun b7=>(Rw 2 [0] Z Z (AW.draw 9 mixed (by kernel_rfl) Z ?_))))))));refine Ev.cs fK 4 Z ?_;refine B1 hf fun e4 h4 hf=>Ev.cons Z Z Z (AO.fM h4 Z Z Z Z NY Z Z zg) (Ev.cs fK 1 Z (Ev.cons Z Z Z (AO.dP (i:=0) Z Z Z vI Z Z zg) (Ev.cons Z Z Z (AO.build Z VZ ad3 Z zg) ?_)));refine Ev.cons rfl rfl rfl (AO.jm (List.map aD.cells [(aD.mk e4 e3)]) rfl Ja rfl rfl rfl (by first|rfl|simp only[List.map,aD.bn]) ⟨rfl,rfl⟩) ?_;refine Ev.nil ?_;show AR _ _ _ _ _ _ _ _
  refine B1 hf fun O_ h5 hf=>AS Z (AO.ng (i:=1) (l:=iJ) (m:=[(aD.mk e4 e3)]) h5 Z Z Z Z Z Z Z Ja Dn Z Z Z (aD.dV) (aD.cells_one) (by decide) (fun v2 s2 hs2=>?_));cases hs2;refine LM 3 Z (AR.drop1 ?_);exact N 0 Z ⟨O_,v2,(bq (i1+1)),Z,Z,Z,hf⟩
 obtain⟨x2,uf,h6,hf⟩:=lI hf;refine W 1 Z (CL Z ((Ye _).h h6 (U 3 Z (AS Z (AO.bQ Z rV (fun b8=>?_))))));rcases dW hf with⟨e5,h7,hf⟩|⟨_,h7,hf⟩
 ·refine Rr 5 [0] Z Z (CL Z ((qG _ _).h h7 ?_));cases hf;exact⟨Z,[],apP _,h⟩
 refine Rr 5 [0] Z Z (CL Z ((qG _ _).h h7 ?_));cases hf;exact Rx 2 [0,2] Z Z (ZC [2] Z Z h)
theorem oU:∀k:Nat,(mG (bZ k))∧(mH (eB k))∧(nO (eT k))∧(kJ (dL k))∧(j5 (dw k)):=by
 intro k
 induction k with
 | zero=>exact⟨fun _ _ _ hz=>by first|cases hz|(unfold bZ at hz;cases hz),fun _ _ _ hz=>by first|cases hz|(unfold eB at hz;cases hz),fun _ _ _ hz=>by first|cases hz|(unfold eT at hz;cases hz),fun _ _ _ hz=>by first|cases hz|(unfold dL at hz;cases hz),fun _ _ _ hz=>by first|cases hz|(unfold dw at hz;cases hz)⟩
 | succ k ih=>exact⟨fun qB oG xB hz τ Q hq=>Kq (bZ k) ih.1 (eB k) ih.2.1 (eT k) ih.2.2.1 (dL k) ih.2.2.2.1 (dw k) ih.2.2.2.2 qB oG hz hq,fun qB oG xB hz τ Q hq=>Kr (bZ k) ih.1 (eB k) ih.2.1 (eT k) ih.2.2.1 (dL k) ih.2.2.2.1 (dw k) ih.2.2.2.2 qB oG hz hq,fun qB ul1 xB hz τ Q hq=>LQ (bZ k) ih.1 (eB k) ih.2.1 (eT k) ih.2.2.1 (dL k) ih.2.2.2.1 (dw k) ih.2.2.2.2 qB ul1 hz hq,fun qB oG xB hz τ Q hq=>IX (bZ k) ih.1 (eB k) ih.2.1 (eT k) ih.2.2.1 (dL k) ih.2.2.2.1 (dw k) ih.2.2.2.2 qB oG hz hq,fun qB oG xB hz τ Q hq=>F3 (bZ k) ih.1 (eB k) ih.2.1 (eT k) ih.2.2.1 (dL k) ih.2.2.2.1 (dw k) ih.2.2.2.2 qB oG hz hq⟩
instance Du(qB:List aD)(oG:au):CT Tryz.prog (Am qB oG) (fun r=>xk r) 95 [.list (List.map aD.cells qB),.agg (dZ oG)]:=⟨zP rfl,fun {r} hf {τ Q} h=>((oU BIG).1) qB oG hf h⟩
instance abn(qB:List aD)(oG:au):CT Tryz.prog (Ol qB oG) (fun r=>xq r) 117 [.list (List.map aD.cells qB),.agg (dZ oG)]:=⟨zP rfl,fun {r} hf {τ Q} h=>((oU BIG).2.1) qB oG hf h⟩
instance acZ(qB:List aD)(ul1:List au):CT Tryz.prog (QH qB ul1) (fun r=>yJ r) 122 [.list (List.map aD.cells qB),.list (au.eU ul1)]:=⟨zP rfl,fun {r} hf {τ Q} h=>((oU BIG).2.2.1) qB ul1 hf h⟩
instance Yw(qB:List aD)(oG:au):CT Tryz.prog (Lj qB oG) (fun r=>vk r) 119 [.list (List.map aD.cells qB),.agg (dZ oG)]:=⟨zP rfl,fun {r} hf {τ Q} h=>((oU BIG).2.2.2.1) qB oG hf h⟩
instance Yo(qB:List aD)(oG:au):CT Tryz.prog (J4 qB oG) (fun r=>sK r) 124 [.list (List.map aD.cells qB),.agg (dZ oG)]:=⟨zP rfl,fun {r} hf {τ Q} h=>((oU BIG).2.2.2.2) qB oG hf h⟩
end
section
variable [CS]
instance acY(s1:List aD)(e1:au):CT Tryz.prog (yg s1 e1) (fun r=>.ret (.tuple [.agg (aR r.1),iP r.2])) 78 [.list (List.map aD.cells s1),.agg (dZ e1)]:=⟨zP rfl,fun {r} hf {τ Q} h=>by
 obtain⟨r0,r1⟩:=r;unfold yg at hf;refine AC.none (AC.NN 10 [.cell 4 35,.cell 5 30] [0,1] [0,1] Tryz.func78 Z Z Z Z Z Tryz.func94 Z Z Z Z Z Z Z alz (AW.sr (AR.step Z Z Z (AO.IL Z Z Z ?_))));refine AR.step Z Z Z (AO.bQ Z rV (fun b4=>(AR.step Z Z Z (AO.bQ Z adi (fun b5=>(AR.nil [0,3,4,5] Z (AW.sr ?_)))))));refine cs 1 Z (AR.defer (vs:=[.pointer (some ⟨b4,0,none⟩),.pointer (some ⟨b5,0,none⟩)]) Z Z Z Z Z Z (AR.nil [0,3,4,5] Z (AW.sr ?_)));refine cs 2 Z ?_;rcases dW hf with⟨f1,h1,hf⟩|⟨v1,h1,hf⟩
 ·refine AR.step Z Z Z (AO.call Z _ Z Z NK ((Du _ _).h h1 ?_));cases hf;refine⟨[.pointer (some ⟨b4,0,none⟩),.pointer (some ⟨b5,0,none⟩)],_,Z,Z,Z,(AR.step Z Z Z (AO.aaq Z Z agX (cs 3 Z (AR.step Z Z Z (AO.bQ Z adl (fun b6=>?_))))))⟩;refine AR.bO Z Z (AO.eH (i:=0) Z Z Z adS Z Z Z Z Z (cs 1 Z (AR.nil [0,1,2,3] Z (AW.sr ?_))));refine cs 1 Z (AR.nil [0,1,2,9] Z (AW.cond Z (fun _=>?_) (fun hh=>by cases hh)));refine AW.afc 1 3 4 [_] [_,_] mixed (by kernel_rfl) (by kernel_rfl) (by kernel_rfl) Z Z Z (List.Perm.refl _) ?_;refine Ev.cons Z Z Z (AO.build Z rV YX Z zg) (Ev.nil ?_);show Ev _ _ _ _ _ _ _;refine Ev.cs fK 1 Z (Ev.cons Z Z Z (AO.dP (i:=0) Z Z Z CY Z Z zg) (Ev.nil (TF.bO Z Z (AO.eH (i:=1) Z Z Z vI Z Z Z Z Z ?_))));refine TF.nil ?_;show AR _ _ _ _ _ _ _ _;refine AR.bO Z Z (AO.eH (i:=1) Z Z Z CY Z Z Z Z Z (AR.nil [] Z ?_));exact⟨rfl,_,⟨_,_,rfl,⟨_,_,2,_,_,rfl,rfl,vI,rfl⟩,⟨_,_,rfl,⟨_,_,1,_,_,rfl,rfl,CY,rfl⟩,rfl⟩⟩,[],apP _,h⟩
 refine AR.step Z Z Z (AO.call Z _ Z Z NK ((Du _ _).h h1 ?_));cases hf;refine AR.bO Z Z (AO.eH (i:=1) Z Z Z vI Z Z Z Z Z (AR.bO Z Z (AO.eH (i:=0) Z Z Z CY Z Z Z Z Z (AR.nil [4,5] Z (AW.ret ?_)))));refine⟨[.pointer (some ⟨b4,0,none⟩),.pointer (some ⟨b5,0,none⟩)],_,Z,Z,Z,(AR.step Z Z Z (AO.WE (p:=.agg [iP 0]) Z Z agZ (fun _ _=>by simp only[cu];exact⟨[.int .i64 0],Z,aX.cons (by simp[cu]) aX.nil⟩) ?_))⟩
 refine cs 3 Z (AR.step Z Z Z (AO.bQ Z adl (fun b6=>(AR.bO Z Z (AO.eH (i:=0) Z Z Z adS Z Z Z Z Z (cs 1 Z ?_))))));refine AR.nil [3] Z (AW.sr (cs 1 Z (AR.nil [9] Z ?_)));refine AW.cond Z (fun hh=>by cases hh) (fun _=>?_);refine AW.skip ?_;exact⟨rfl,_,⟨_,_,rfl,⟨_,_,2,_,_,rfl,rfl,vI,rfl⟩,⟨_,_,rfl,⟨_,_,1,_,_,rfl,rfl,CY,rfl⟩,rfl⟩⟩,[],apP _,h⟩⟩
end
section
variable (lT : ah → Option ah) [ae3 : ∀(rP : ah), CT Tryz.prog (lT rP) (fun r => .ret (.agg (aR r))) 79 [.agg (aR rP)]]
instance (v1 :ah) (n_ je vG):LE (vQ lT v1 n_ je vG) (fun j p=>vQ lT v1 j p.1 p.2) n_ (je,vG) [] [(1,[4,5])] [(9999,6,35),(9999,1,9)] [1,2,3,10,11] (fun v w p=>[(12,iP p.1)]) (fun v w p s=>yT 2 [iP p.2.kind,.bool p.2.dR,iP p.2.dS,.str p.2.bR,.own v (List.map ah.cells p.2.aN),.own w (List.map jJ p.2.keys)] (putRow 1 v ((List.map ah.cells p.2.aN).length) (putRow 0 w ((List.map jJ p.2.keys).length) (s)))):=⟨Z⟩
instance Ry(v1:ah):CT Tryz.prog (Bu lT v1) (fun r=>.ret (.agg (aR r))) 79 [.agg (aR v1)]:=by
  unfold Bu;exact Z1 ⟨31,[],[]⟩ Z Tryz.func79 Z Z Z Z
end
theorem K4:∀k:Nat,(∀(rP:ah),CT Tryz.prog (pq k rP) (fun r=>.ret (.agg (aR r))) 79 [.agg (aR rP)])
  | 0=>fun _=>CT.none Z
  | k+1=>by
    obtain (i0):=K4 k;exact fun rP=>Ry _ rP
instance aio(rP:ah):CT Tryz.prog (wJ rP) (fun r=>.ret (.agg (aR r))) 79 [.agg (aR rP)]:=(K4 BIG) rP
section
variable [CS]
instance ajk(e1:au)(jD:List aD):CT Tryz.prog (Ei e1 jD) (fun r=>.ret (.tuple [.agg (aR r.1),iP r.2])) 59 [.agg (dZ e1),.list (List.map aD.cells jD)]:=by
  unfold Ei;exact Z1 ⟨28,[],[]⟩ Z Tryz.func59 Z Z Z Z
end
section
variable [CS]
instance LC(p1:aU)(jD:List aD):CT Tryz.prog (qV p1 jD) (fun r=>.ret (.tuple [.str r.1,iP r.2])) 42 [.agg (MG p1),.list (List.map aD.cells jD)]:=by
  unfold qV;exact Z1 ⟨27,[],[]⟩ Z Tryz.func42 Z Z Z Z
end
section
variable [CS]
instance ac_(s1:Str)(jD:List aD):CT Tryz.prog (lQ s1 jD) (fun r=>.ret (.tuple [.str r.1,iP r.2])) 29 [.str s1,.list (List.map aD.cells jD)]:=⟨zP rfl,fun {r} hf {τ Q} h=>by
 obtain⟨r0,r1⟩:=r;unfold lQ at hf;refine BN 50 [.tmp 4,.tmp 5] [0,1] Tryz.func29 Z Z Z Z Z ?_;obtain⟨ps1,x1,uf,h1,hf⟩:=Er hf;refine W 3 Z (CL Z ((Rp _).h h1 (J 9 Z (C hf Z (fun h2 hf=>?_) fun h2 hf=>?_))))
 ·cases hf;exact M 3 Z (Y Z h)
 refine B1 hf fun Lv h3 hf=>W 1 Z (CL Z ((ZU _).h h3 (J 3 Z (C hf Z (fun h4 hf=>?_) fun h4 hf=>?_))))
 ·cases hf;exact M 3 Z (Y Z h)
 refine W 0 Z (AS Z (AO.IV (eu:=5) Z Z9 Z (fun b10=>(U 1 Z (AS Z (AO.gB (l:=ps1) Z Z Z Z aa3 Z Z (J 1 Z (LK3 (fun x2 b1 v1=>[(1,.list (List.map aD.cells jD)),(10,pP b10),(29,.list (List.map aU.cells ps1)),(30,iP (ps1.length:Int)),(31,iP x2)]) (fun x2 b1 v1=>[.Kj b10 v1 79 5 b1]) (fun dG x2 b1 v1=>nM jD ps1 dG x2 b1=some (r0,r1)) BIG 0 [] (.slice none 0 0) Z Z hf (fun _ _ _ hz=>jS hz) ?_))))))));intro dG x2 b1 v1 hf;rw[nM]at hf;refine V 1 Z (C hf Z (fun h5 hf=>?_) fun h5 hf=>?_)
 ·refine B1 hf fun e1 h6 hf=>W 0 Z (AS Z (AO.fM h6 Z Z Z Z aa3 (aU.bn _) Z (U 1 Z (AS Z (AO.bQ Z adh (fun b12=>?_))))));obtain⟨t1,afm,h7,hf⟩:=lI hf;refine Rr 3 [0,0] Z Z (CL Z ((LC _ _).h h7 (J 7 Z (C hf Z (fun h8 hf=>?_) fun h8 hf=>?_))))
  ·cases hf;exact M 3 Z (Y Z h)
  refine B1 hf fun b2 h9 hf=>W 1 Z (CL Z (AC.one 1 Z (sD h9 (fun v2=>⟨_,Z,(LM 2 Z (AR.drop1 ?_))⟩))));exact N 0 Z ⟨(bq (x2+1)),b2,v2,Z,Z,Z,hf⟩
 refine W 0 Z (CL Z (AC.one 0 Z (Uj ⟨_,Z,(J 1 Z (C hf Z (fun h10 hf=>?_) fun h10 hf=>?_))⟩)))
 ·cases hf;exact M 2 Z (Y Z h)
 refine W 0 Z (CL Z (AC.OH 0 Z (Bz ?_)));cases hf;exact N 2 Z (Y Z h)⟩
end
section
variable [CS]
instance Yx(s1:Str)(jD:List aD):CT Tryz.prog (jI s1 jD) (fun r=>.ret (.tuple [.str r.1,iP r.2])) 20 [.str s1,.list (List.map aD.cells jD)]:=by
  unfold jI;exact Z1 ⟨26,[],[]⟩ Z Tryz.func20 Z Z Z Z
end
section
variable [CS]
instance afV(c1:aQ)(iJ:List aD)(qo:List aP):CT Tryz.prog (gT c1 iJ qo) (fun r=>.ret (.tuple [.str r.1,iP r.2])) 7 [.agg (zG c1),.list (List.map aD.cells iJ),.list (List.map aP.cells qo)]:=by
  unfold gT;exact Z1 ⟨26,[],[]⟩ Z Tryz.func7 Z Z Z Z
end
section
variable [CS]
instance ajd:CT Tryz.prog (rF) (fun r=>.ret (.bool r)) 6 []:=by
  unfold rF;exact Z1 ⟨46,[],[]⟩ Z Tryz.func6 Z Z Z Z
end
section
variable [CS]
instance (c1 :aQ) (jD:List aD) (n_ je vG):LE (j4 c1 jD n_ je vG) (fun j p=>j4 c1 jD j p.1 p.2) n_ (je,vG) [10] [] [(10,1,9)] [8,26,27] (fun v w p=>[(10,.own v (List.map jJ p.1)),(28,iP p.2)]) (fun v w p s=>putRow 0 v ((List.map jJ p.1).length) (s)):=⟨Z⟩
instance Yy(c1:aQ)(iJ:List aD)(qo:List aP):CT Tryz.prog (mo c1 iJ qo) (fun r=>.ret (.tuple [sP r.1,iP r.2])) 8 [.agg (zG c1),.list (List.map aD.cells iJ),.list (List.map aP.cells qo)]:=by
  unfold mo;exact Z1 ⟨47,[],[]⟩ Z Tryz.func8 Z Z Z Z
end
instance (a1 :List Str) (b1:List Str) (n_ je):LE (wY a1 b1 n_ je) (fun j p=>wY a1 b1 j p) n_ je [] [] [] [0,1] (fun v w p=>[(5,iP p)]) (fun v w p s=>s):=⟨Z⟩
instance akz(a1:List Str)(b1:List Str):CT Tryz.prog (D_ a1 b1) (fun r=>.ret (.bool r)) 11 [sP a1,sP b1]:=by
  unfold D_;exact Z1 ⟨26,[],[]⟩ Z Tryz.func11 Z Z Z Z
section
variable [CS]
instance (u1 :aO) (n_ je vG):LE (jY u1 n_ je vG) (fun j p=>jY u1 j p.1 p.2) n_ (je,vG) [] [] [] [1] (fun v w p=>[(3,.bool p.1),(4,iP p.2)]) (fun v w p s=>s):=⟨Z⟩
instance (u1 :aO) (Gw:Bool) (n_ je):LE (jX u1 Gw n_ je) (fun j p=>jX u1 Gw j p) n_ je [] [] [] [1,3] (fun v w p=>[(5,iP p)]) (fun v w p s=>s):=⟨Z⟩
instance Yv(u1:aO):CT Tryz.prog (oW u1) (fun r=>.ret (.bool r)) 3 [.agg (xW u1)]:=by
  unfold oW;exact Z1 ⟨144,[],[]⟩ Z Tryz.func3 Z Z Z Z
theorem I5(u1:aO){aix:Bool}(hf:oW u1=some aix){τ:List aS}{Q:dO→List aS→Prop}(h:Q (.ret (.bool aix)) τ):AC Tryz.prog 3 [.agg (xW u1)] τ Q:=CT.h hf h
end
end Go.Proofs.YtchmdnpcppkdpaaGreatDoor
