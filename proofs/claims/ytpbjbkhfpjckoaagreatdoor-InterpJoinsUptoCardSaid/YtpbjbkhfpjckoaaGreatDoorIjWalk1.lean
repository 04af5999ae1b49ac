/- Proved here: each function does what its functional text says (part 1). -/
import Derived.Test.YtpbjbkhfpjckoaaGreatDoorIjA3
import Derived.Test.YtpbjbkhfpjckoaaGreatDoorIjPre1
import Derived.Test.YtpbjbkhfpjckoaaGreatDoorIjFt1
import Derived.Test.YtpbjbkhfpjckoaaGreatDoorIjPool1
import Derived.Test.YtpbjbkhfpjckoaaGreatDoorProg
import Derived.KernelRfl
set_option linter.unusedVariables false
set_option linter.unusedSimpArgs false
set_option linter.defProp false
set_option linter.unusedSectionVars false
namespace Go
def ap0:=@congrArg
def ap1:=@List.length_map
def ap2:=@Bool.eq_false_iff
def ap3:=@List.map_eq_nil_iff
def apZ:=@List.nil_sublist
end Go
namespace Go.Ft
open Go Go.Abs
@[reducible] def aG.cells(x:aG):List PV:=[.int .i64 x.kind,.str x.text,.int .i64 x.at_]
theorem aG.aV(x:aG):aG.cells x=[.int .i64 x.kind,.str x.text,.int .i64 x.at_]:=rfl
theorem aG.gG(x:aG):(aG.cells x).length=3:=by rw[aG.aV];rfl
theorem aG.cells_one(x:aG):(aG.cells x).all PV.one=true:=by rw[aG.aV];rfl
@[reducible] def au.cells(x:au):List PV:=[.list (List.map aG.cells x.ts),.int .i64 x.at_]
theorem au.aV(x:au):au.cells x=[.list (List.map aG.cells x.ts),.int .i64 x.at_]:=rfl
theorem au.gG(x:au):(au.cells x).length=2:=by rw[au.aV];rfl
theorem au.cells_one(x:au):(au.cells x).all PV.one=true:=by rw[au.aV];rfl
@[reducible] def ay.cells(x:ay):List PV:=[.int .i64 x.at_,.int .i64 x.code]
theorem ay.aV(x:ay):ay.cells x=[.int .i64 x.at_,.int .i64 x.code]:=rfl
theorem ay.gG(x:ay):(ay.cells x).length=2:=by rw[ay.aV];rfl
theorem ay.cells_one(x:ay):(ay.cells x).all PV.one=true:=by rw[ay.aV];rfl
mutual
def ah.cells:ah→List PV
  | ⟨a0,a1,a2,a3,a4,a5⟩=>[.int .i64 a0,.bool a1,.int .i64 a2,.str a3,.list (ah.bO a4),.list (List.map lH a5)]
def ah.bO:List ah→List (List PV)
  | []=>[]
  | x::xs=>ah.cells x::ah.bO xs
end
theorem ah.aV(x:ah):ah.cells x=[.int .i64 x.kind,.bool x.dR,.int .i64 x.dA,.str x.bR,.list (ah.bO x.aN),.list (List.map lH x.keys)]:=by cases x;rfl
theorem ah.aQ:∀l:List ah,ah.bO l=l.map ah.cells
  | []=>rfl
  | _::l=>ap0 _ (ah.aQ l)
def ah.acF(l:List ah):List PV:=[.list (ah.bO l)]
theorem ah.gG(x:ah):(ah.cells x).length=6:=by rw[ah.aV];rfl
theorem ah.cells_one(x:ah):(ah.cells x).all PV.one=true:=by rw[ah.aV];rfl
mutual
def ak.cells:ak→List PV
  | ⟨a0,a1,a2,a3,a4⟩=>[.int .i64 a0,.str a1,.int .i64 a2.kind,.bool a2.dR,.int .i64 a2.dA,.str a2.bR,.list (ah.bO a2.aN),.list (List.map lH a2.keys),.list (ak.bO a3),.list (List.map lH a4)]
def ak.bO:List ak→List (List PV)
  | []=>[]
  | x::xs=>ak.cells x::ak.bO xs
end
theorem ak.aV(x:ak):ak.cells x=[.int .i64 x.kind,.str x.name,.int .i64 x.value.kind,.bool x.value.dR,.int .i64 x.value.dA,.str x.value.bR,.list (ah.bO x.value.aN),.list (List.map lH x.value.keys),.list (ak.bO x.args),.list (List.map lH x.keys)]:=by cases x;rfl
theorem ak.aQ:∀l:List ak,ak.bO l=l.map ak.cells
  | []=>rfl
  | _::l=>ap0 _ (ak.aQ l)
def ak.acF(l:List ak):List PV:=[.list (ak.bO l)]
theorem ak.gG(x:ak):(ak.cells x).length=10:=by rw[ak.aV];rfl
theorem ak.cells_one(x:ak):(ak.cells x).all PV.one=true:=by rw[ak.aV];rfl
@[reducible] def aY.cells(x:aY):List PV:=[.str x.text,.bool x.Z0,.int .i64 x.expr.kind,.str x.expr.name,.int .i64 x.expr.value.kind,.bool x.expr.value.dR,.int .i64 x.expr.value.dA,.str x.expr.value.bR,.list (ah.bO x.expr.value.aN),.list (List.map lH x.expr.value.keys),.list (ak.bO x.expr.args),.list (List.map lH x.expr.keys)]
theorem aY.aV(x:aY):aY.cells x=[.str x.text,.bool x.Z0,.int .i64 x.expr.kind,.str x.expr.name,.int .i64 x.expr.value.kind,.bool x.expr.value.dR,.int .i64 x.expr.value.dA,.str x.expr.value.bR,.list (ah.bO x.expr.value.aN),.list (List.map lH x.expr.value.keys),.list (ak.bO x.expr.args),.list (List.map lH x.expr.keys)]:=rfl
theorem aY.gG(x:aY):(aY.cells x).length=12:=by rw[aY.aV];rfl
theorem aY.cells_one(x:aY):(aY.cells x).all PV.one=true:=by rw[aY.aV];rfl
@[reducible] def aB.cells(x:aB):List PV:=[.str x.name,.int .i64 x.value.kind,.bool x.value.dR,.int .i64 x.value.dA,.str x.value.bR,.list (ah.bO x.value.aN),.list (List.map lH x.value.keys)]
theorem aB.aV(x:aB):aB.cells x=[.str x.name,.int .i64 x.value.kind,.bool x.value.dR,.int .i64 x.value.dA,.str x.value.bR,.list (ah.bO x.value.aN),.list (List.map lH x.value.keys)]:=rfl
theorem aB.gG(x:aB):(aB.cells x).length=7:=by rw[aB.aV];rfl
theorem aB.cells_one(x:aB):(aB.cells x).all PV.one=true:=by rw[aB.aV];rfl
@[reducible] def aF.cells(x:aF):List PV:=[.int .i64 x.code]
theorem aF.aV(x:aF):aF.cells x=[.int .i64 x.code]:=rfl
theorem aF.gG(x:aF):(aF.cells x).length=1:=by rw[aF.aV];rfl
theorem aF.cells_one(x:aF):(aF.cells x).all PV.one=true:=by rw[aF.aV];rfl
@[reducible] def jo.cells(x:jo):List PV:=[.int .u64 ((x.half.getD 0 0).toNat:Int),.int .u64 ((x.half.getD 1 0).toNat:Int),.bool x.neg]
theorem jo.aV(x:jo):jo.cells x=[.int .u64 ((x.half.getD 0 0).toNat:Int),.int .u64 ((x.half.getD 1 0).toNat:Int),.bool x.neg]:=rfl
theorem jo.gG(x:jo):(jo.cells x).length=3:=by rw[jo.aV];rfl
theorem jo.cells_one(x:jo):(jo.cells x).all PV.one=true:=by rw[jo.aV];rfl
mutual
def aI.cells:aI→List PV
  | ⟨a0,a1⟩=>[.int .i64 a0,.list (aI.bO a1)]
def aI.bO:List aI→List (List PV)
  | []=>[]
  | x::xs=>aI.cells x::aI.bO xs
end
theorem aI.aV(x:aI):aI.cells x=[.int .i64 x.kind,.list (aI.bO x.elem)]:=by cases x;rfl
theorem aI.aQ:∀l:List aI,aI.bO l=l.map aI.cells
  | []=>rfl
  | _::l=>ap0 _ (aI.aQ l)
def aI.acF(l:List aI):List PV:=[.list (aI.bO l)]
theorem aI.gG(x:aI):(aI.cells x).length=2:=by rw[aI.aV];rfl
theorem aI.cells_one(x:aI):(aI.cells x).all PV.one=true:=by rw[aI.aV];rfl
@[reducible] def dS.cells(x:dS):List PV:=[.str x.name,.int .i64 x.Hr.kind,.list (aI.bO x.Hr.elem)]
theorem dS.aV(x:dS):dS.cells x=[.str x.name,.int .i64 x.Hr.kind,.list (aI.bO x.Hr.elem)]:=rfl
theorem dS.gG(x:dS):(dS.cells x).length=3:=by rw[dS.aV];rfl
theorem dS.cells_one(x:dS):(dS.cells x).all PV.one=true:=by rw[dS.aV];rfl
end Go.Ft
namespace Go.Proofs.YtpbjbkhfpjckoaaGreatDoor
open Go Go.Abs Go.Ft
set_option maxRecDepth 20000
attribute [local irreducible] AO AR AW AC
class BZ[iD]:Prop where
  hD:¬iD.D
  max:∀(w:World) (m:jN),iD.G w m→∃n:Int,w.cell? ⟨0,0,none⟩=some (.int .i64 n)
  pow:∀(w:World) (m:jN),iD.G w m→Lib.TabIs Tryz.prog w "internal/strconv.uint64pow10" .u64 Lib.pow10Tab
  syn:∀(w:World) (m:jN),iD.G w m→∃ev,w.cell? ⟨6,0,none⟩=some ev∧(ev=.nilIface∨∃te pe,ev=.iface te pe)
  rng:∀(w:World) (m:jN),iD.G w m→∃ev,w.cell? ⟨7,0,none⟩=some ev∧(ev=.nilIface∨∃te pe,ev=.iface te pe)
variable [iD]
theorem amC(w:World):(isAgg 60).run Tryz.prog w=.ok true w:=by kernel_rfl
theorem agY:zV Tryz.prog 221=some (8,1):=by kernel_rfl
theorem K9:zV Tryz.prog 326=some (2,1):=by kernel_rfl
theorem akW:Tryz.prog.cellsOf 271=1:=by kernel_rfl
theorem akV:Tryz.prog.cellsOf 326=2:=by kernel_rfl
theorem amu:Tryz.prog.cellsOf 5=1:=by kernel_rfl
theorem akR:Tryz.prog.eqGuardType Tryz.prog.depth 326=false:=by kernel_rfl
theorem yN:elemSize Tryz.prog 110=some 3:=by kernel_rfl
theorem agq:elemSize Tryz.prog 161=some 7:=by kernel_rfl
theorem Gt:elemSize Tryz.prog 23=some 12:=by kernel_rfl
theorem Xm:elemSize Tryz.prog 236=some 1:=by kernel_rfl
theorem jV:elemSize Tryz.prog 31=some 6:=by kernel_rfl
theorem ku:elemSize Tryz.prog 32=some 1:=by kernel_rfl
theorem jD:elemSize Tryz.prog 35=some 10:=by kernel_rfl
theorem C8:elemSize Tryz.prog 43=some 7:=by kernel_rfl
theorem Zi:elemSize Tryz.prog 49=some 3:=by kernel_rfl
theorem VA:elemSize Tryz.prog 61=some 2:=by kernel_rfl
theorem Vz:elemSize Tryz.prog 68=some 1:=by kernel_rfl
theorem acj:qP Tryz.prog 37 3=some 8:=by kernel_rfl
theorem air:qP Tryz.prog 39 1=some 1:=by kernel_rfl
theorem aiq:qP Tryz.prog 39 2=some 2:=by kernel_rfl
theorem BJ:qP Tryz.prog 72 0=some 0:=by kernel_rfl
theorem u6:qP Tryz.prog 72 1=some 1:=by kernel_rfl
theorem P6:qP Tryz.prog 74 0=some 0:=by kernel_rfl
theorem JJ:qP Tryz.prog 74 1=some 1:=by kernel_rfl
theorem ajk:Tryz.prog.underlying 77=some (.interface (Tryz.prog.methodsAt 77)):=by kernel_rfl
theorem inB:∃j,Tryz.prog.info? 72=some j∧(j.size !=0)=true:=sized (n:=2) (by kernel_rfl) rfl
theorem al4:liesAt Tryz.prog Tryz.prog.depth 72 (2/Tryz.prog.cellsOf 72) 0 72 1=true:=by kernel_rfl
theorem al3:liesAt Tryz.prog Tryz.prog.depth 74 (3/Tryz.prog.cellsOf 74) 1 72 1=true:=by kernel_rfl
theorem mixed:Tryz.prog.follows .mixedOrders=true:=by kernel_rfl
theorem FN:Tryz.prog.underlying 125=some (.map 9 3):=by kernel_rfl
theorem akB:concrete Tryz.prog 189=true:=by kernel_rfl
theorem akA:concrete Tryz.prog 204=true:=by kernel_rfl
theorem alY:bN Tryz.prog 10=true:=by kernel_rfl
theorem ajc:bN Tryz.prog 11=true:=by kernel_rfl
theorem CJ:bN Tryz.prog 111=true:=by kernel_rfl
theorem akw:bN Tryz.prog 113=true:=by kernel_rfl
theorem afv:bN Tryz.prog 123=true:=by kernel_rfl
theorem akv:bN Tryz.prog 124=true:=by kernel_rfl
theorem aku:bN Tryz.prog 127=true:=by kernel_rfl
theorem afu:bN Tryz.prog 128=true:=by kernel_rfl
theorem akt:bN Tryz.prog 134=true:=by kernel_rfl
theorem aks:bN Tryz.prog 135=true:=by kernel_rfl
theorem aaF:bN Tryz.prog 136=true:=by kernel_rfl
theorem akr:bN Tryz.prog 137=true:=by kernel_rfl
theorem akq:bN Tryz.prog 138=true:=by kernel_rfl
theorem aft:bN Tryz.prog 144=true:=by kernel_rfl
theorem alX:bN Tryz.prog 15=true:=by kernel_rfl
theorem akp:bN Tryz.prog 152=true:=by kernel_rfl
theorem ako:bN Tryz.prog 157=true:=by kernel_rfl
theorem akn:bN Tryz.prog 166=true:=by kernel_rfl
theorem afs:bN Tryz.prog 168=true:=by kernel_rfl
theorem akm:bN Tryz.prog 172=true:=by kernel_rfl
theorem Np:bN Tryz.prog 173=true:=by kernel_rfl
theorem afr:bN Tryz.prog 196=true:=by kernel_rfl
theorem akl:bN Tryz.prog 197=true:=by kernel_rfl
theorem akk:bN Tryz.prog 198=true:=by kernel_rfl
theorem akj:bN Tryz.prog 199=true:=by kernel_rfl
theorem aki:bN Tryz.prog 200=true:=by kernel_rfl
theorem Ii:bN Tryz.prog 201=true:=by kernel_rfl
theorem akh:bN Tryz.prog 203=true:=by kernel_rfl
theorem afq:bN Tryz.prog 204=true:=by kernel_rfl
theorem ajb:bN Tryz.prog 21=true:=by kernel_rfl
theorem akg:bN Tryz.prog 218=true:=by kernel_rfl
theorem akf:bN Tryz.prog 219=true:=by kernel_rfl
theorem ake:bN Tryz.prog 220=true:=by kernel_rfl
theorem akd:bN Tryz.prog 224=true:=by kernel_rfl
theorem Nn:bN Tryz.prog 225=true:=by kernel_rfl
theorem Ih:bN Tryz.prog 227=true:=by kernel_rfl
theorem akc:bN Tryz.prog 240=true:=by kernel_rfl
theorem akb:bN Tryz.prog 243=true:=by kernel_rfl
theorem afp:bN Tryz.prog 244=true:=by kernel_rfl
theorem aj_:bN Tryz.prog 251=true:=by kernel_rfl
theorem aj9:bN Tryz.prog 252=true:=by kernel_rfl
theorem aj8:bN Tryz.prog 253=true:=by kernel_rfl
theorem aj7:bN Tryz.prog 254=true:=by kernel_rfl
theorem afo:bN Tryz.prog 266=true:=by kernel_rfl
theorem aja:bN Tryz.prog 27=true:=by kernel_rfl
theorem afn:bN Tryz.prog 271=true:=by kernel_rfl
theorem aj6:bN Tryz.prog 272=true:=by kernel_rfl
theorem ai_:bN Tryz.prog 28=true:=by kernel_rfl
theorem alW:bN Tryz.prog 29=true:=by kernel_rfl
theorem aj5:bN Tryz.prog 298=true:=by kernel_rfl
theorem alV:bN Tryz.prog 30=true:=by kernel_rfl
theorem ai9:bN Tryz.prog 31=true:=by kernel_rfl
theorem Rk:bN Tryz.prog 310=true:=by kernel_rfl
theorem aj4:bN Tryz.prog 319=true:=by kernel_rfl
theorem aj3:bN Tryz.prog 320=true:=by kernel_rfl
theorem Nl:bN Tryz.prog 324=true:=by kernel_rfl
theorem aj2:bN Tryz.prog 351=true:=by kernel_rfl
theorem afm:bN Tryz.prog 355=true:=by kernel_rfl
theorem afl:bN Tryz.prog 358=true:=by kernel_rfl
theorem aj1:bN Tryz.prog 364=true:=by kernel_rfl
theorem afk:bN Tryz.prog 367=true:=by kernel_rfl
theorem aj0:bN Tryz.prog 373=true:=by kernel_rfl
theorem ajZ:bN Tryz.prog 388=true:=by kernel_rfl
theorem ajY:bN Tryz.prog 389=true:=by kernel_rfl
theorem alU:bN Tryz.prog 39=true:=by kernel_rfl
theorem afj:bN Tryz.prog 394=true:=by kernel_rfl
theorem ajX:bN Tryz.prog 402=true:=by kernel_rfl
theorem alT:bN Tryz.prog 43=true:=by kernel_rfl
theorem ai8:bN Tryz.prog 46=true:=by kernel_rfl
theorem alS:bN Tryz.prog 47=true:=by kernel_rfl
theorem alR:bN Tryz.prog 50=true:=by kernel_rfl
theorem alQ:bN Tryz.prog 51=true:=by kernel_rfl
theorem afi:bN Tryz.prog 60=true:=by kernel_rfl
theorem ai7:bN Tryz.prog 65=true:=by kernel_rfl
theorem alP:bN Tryz.prog 75=true:=by kernel_rfl
theorem ai6:bN Tryz.prog 80=true:=by kernel_rfl
theorem alO:bN Tryz.prog 81=true:=by kernel_rfl
theorem alN:bN Tryz.prog 85=true:=by kernel_rfl
theorem alM:bN Tryz.prog 87=true:=by kernel_rfl
theorem alL:bN Tryz.prog 88=true:=by kernel_rfl
theorem alK:bN Tryz.prog 97=true:=by kernel_rfl
theorem alJ:bN Tryz.prog 99=true:=by kernel_rfl
theorem M8:jh Tryz.prog 110 116 3 32:=sJ (by kernel_rfl)
theorem abV:jh Tryz.prog 23 39 12 184:=sJ (by kernel_rfl)
theorem ae0:jh Tryz.prog 236 3 1 8:=sJ (by kernel_rfl)
theorem Gl:jh Tryz.prog 31 34 6 88:=sJ (by kernel_rfl)
theorem vw:jh Tryz.prog 32 9 1 16:=sJ (by kernel_rfl)
theorem DC:jh Tryz.prog 35 37 10 160:=sJ (by kernel_rfl)
theorem QG:jh Tryz.prog 43 60 7 104:=sJ (by kernel_rfl)
theorem alC:jh Tryz.prog 49 66 3 48:=sJ (by kernel_rfl)
theorem ai1:jh Tryz.prog 61 63 2 32:=sJ (by kernel_rfl)
theorem QF:jh Tryz.prog 68 5 1 1:=sJ (by kernel_rfl)
theorem ahI:Aa Tryz.prog 187=some [(0,1),(1,1)]:=by kernel_rfl
theorem aeX:Aa Tryz.prog 34=some [(0,1),(1,1),(2,1),(3,1),(4,1),(5,1)]:=by kernel_rfl
theorem aar:Aa Tryz.prog 37=some [(0,1),(1,1),(2,6),(8,1),(9,1)]:=by kernel_rfl
theorem aeW:Aa Tryz.prog 39=some [(0,1),(1,1),(2,10)]:=by kernel_rfl
theorem ajQ:Aa Tryz.prog 60=some [(0,1),(1,6)]:=by kernel_rfl
theorem ahE(w:Go.World):(Instr.typeAssert .nilIface 20 189 true).run Tryz.prog w=.ok (.tuple #[.agg #[.int .i64 0,.int .i64 0],.bool false]) w:=by kernel_rfl
theorem ahD(w:Go.World):(Instr.typeAssert .nilIface 20 204 true).run Tryz.prog w=.ok (.tuple #[.agg #[.int .i64 0],.bool false]) w:=by kernel_rfl
theorem ahC(v:Value)(w:Go.World):(Instr.typeAssert (.iface 189 v) 20 189 true).run Tryz.prog w=.ok (.tuple #[v,.bool true]) w:=by kernel_rfl
theorem ahB(v:Value)(w:Go.World):(Instr.typeAssert (.iface 204 v) 20 204 true).run Tryz.prog w=.ok (.tuple #[v,.bool true]) w:=by kernel_rfl
theorem Wm:jk Tryz.prog 110=some (false,1):=by kernel_rfl
theorem MW:jk Tryz.prog 116=some (true,3):=by kernel_rfl
theorem ajO:jk Tryz.prog 131=some (false,1):=by kernel_rfl
theorem aeR:jk Tryz.prog 189=some (true,2):=by kernel_rfl
theorem aeQ:jk Tryz.prog 204=some (true,1):=by kernel_rfl
theorem Qv:jk Tryz.prog 23=some (false,1):=by kernel_rfl
theorem tV:jk Tryz.prog 24=some (false,1):=by kernel_rfl
theorem Cv:jk Tryz.prog 3=some (false,1):=by kernel_rfl
theorem Ye:jk Tryz.prog 31=some (false,1):=by kernel_rfl
theorem ai0:jk Tryz.prog 32=some (false,1):=by kernel_rfl
theorem ajN:jk Tryz.prog 326=some (true,2):=by kernel_rfl
theorem tQ:jk Tryz.prog 34=some (true,6):=by kernel_rfl
theorem abO:jk Tryz.prog 35=some (false,1):=by kernel_rfl
theorem lG:jk Tryz.prog 37=some (true,10):=by kernel_rfl
theorem alz:jk Tryz.prog 39=some (true,12):=by kernel_rfl
theorem amT:jk Tryz.prog 4=some (false,1):=by kernel_rfl
theorem aiZ:jk Tryz.prog 49=some (false,1):=by kernel_rfl
theorem aiY:jk Tryz.prog 61=some (false,1):=by kernel_rfl
theorem aeP:jk Tryz.prog 63=some (true,2):=by kernel_rfl
theorem EG:jk Tryz.prog 68=some (false,1):=by kernel_rfl
theorem Ls:jk Tryz.prog 70=some (false,1):=by kernel_rfl
theorem ac0:jk Tryz.prog 9=some (false,1):=by kernel_rfl
theorem Qr:Tryz.prog.underlying 271=some (.int .u64):=by kernel_rfl
theorem Qq:Tryz.prog.underlying 3=some (.int .i64):=by kernel_rfl
theorem aiW:Tryz.prog.underlying 32=some (.slice 9):=by kernel_rfl
theorem ajJ:Tryz.prog.underlying 326=some (.array 2 271):=by kernel_rfl
theorem alx:Tryz.prog.underlying 4=some (.bool):=by kernel_rfl
theorem aiV:Tryz.prog.underlying 43=some (.slice 60):=by kernel_rfl
theorem Wh:Tryz.prog.underlying 5=some (.int .u8):=by kernel_rfl
theorem aiU:Tryz.prog.underlying 68=some (.slice 5):=by kernel_rfl
theorem fD:Tryz.prog.underlying 9=some (.string):=by kernel_rfl
theorem J2:Tryz.prog.underlying 70=some (.pointer 72):=by kernel_rfl
theorem aeH:Tryz.prog.underlying 124=some (.pointer 5):=by kernel_rfl
theorem Wd:Tryz.prog.underlying 138=some .unsafePointer:=by kernel_rfl
theorem alk(w:World):(Go.sizeOf 60).run Tryz.prog w=.ok 7 w:=by kernel_rfl
theorem acQ:(Tryz.prog.info? 3).map (·.zero)=some (some (.int .i64 0)):=by kernel_rfl
theorem wN:mh Tryz.prog 116=some [.int .i64 0,.str [],.int .i64 0]:=by kernel_rfl
theorem ajF:mh Tryz.prog 131=some [.val .nilFunc]:=by kernel_rfl
theorem ajE:mh Tryz.prog 187=some [.own (.slice none 0 0) [],.int .i64 0]:=by kernel_rfl
theorem aes:mh Tryz.prog 189=some [.int .i64 0,.int .i64 0]:=by kernel_rfl
theorem aer:mh Tryz.prog 204=some [.int .i64 0]:=by kernel_rfl
theorem aep:mh Tryz.prog 221=some [.str [],.str [],.str [],.str [],.str [],.str [],.str [],.str []]:=by kernel_rfl
theorem abA:mh Tryz.prog 24=some [.int .i64 0]:=by kernel_rfl
theorem alj:mh Tryz.prog 3=some [.int .i64 0]:=by kernel_rfl
theorem ali:mh Tryz.prog 32=some [.own (.slice none 0 0) []]:=by kernel_rfl
theorem aeo:mh Tryz.prog 326=some [.int .u64 0,.int .u64 0]:=by kernel_rfl
theorem Z5:mh Tryz.prog 328=some [.int .u64 0,.int .u64 0,.bool false]:=by kernel_rfl
theorem iX:mh Tryz.prog 34=some [.int .i64 0,.bool false,.int .i64 0,.str [],.own (.slice none 0 0) [],.own (.slice none 0 0) []]:=by kernel_rfl
theorem nR:mh Tryz.prog 37=some [.int .i64 0,.str [],.int .i64 0,.bool false,.int .i64 0,.str [],.own (.slice none 0 0) [],.own (.slice none 0 0) [],.own (.slice none 0 0) [],.own (.slice none 0 0) []]:=by kernel_rfl
theorem XT:mh Tryz.prog 39=some [.str [],.bool false,.int .i64 0,.str [],.int .i64 0,.bool false,.int .i64 0,.str [],.own (.slice none 0 0) [],.own (.slice none 0 0) [],.own (.slice none 0 0) [],.own (.slice none 0 0) []]:=by kernel_rfl
theorem XR:mh Tryz.prog 60=some [.str [],.int .i64 0,.bool false,.int .i64 0,.str [],.own (.slice none 0 0) [],.own (.slice none 0 0) []]:=by kernel_rfl
theorem AU:mh Tryz.prog 63=some [.int .i64 0,.own (.slice none 0 0) []]:=by kernel_rfl
theorem aiR:mh Tryz.prog 66=some [.str [],.int .i64 0,.own (.slice none 0 0) []]:=by kernel_rfl
theorem XQ:mh Tryz.prog 72=some [.val (.pointer none),.own (.slice none 0 0) []]:=by kernel_rfl
theorem alh:mh Tryz.prog 74=some [.own (.slice none 0 0) [],.val (.pointer none),.own (.slice none 0 0) []]:=by kernel_rfl
def FX:Facts:={ti:=[(3,false,1),(4,false,1),(5,false,1),(9,false,1),(23,false,1),(24,false,1),(31,false,1),(32,false,1),(34,true,6),(35,false,1),(37,true,10),(39,true,12),(49,false,1),(60,true,7),(63,true,2),(66,true,3),(116,true,3),(187,true,2),(189,true,2),(204,true,1),(271,false,1)],fo:=[(34,0,0),(34,1,1),(34,2,2),(34,3,3),(34,4,4),(34,5,5),(37,0,0),(37,1,1),(37,2,2),(37,3,8),(37,4,9),(39,0,0),(39,1,1),(39,2,2),(60,0,0),(60,1,1),(63,0,0),(63,1,1),(66,0,0),(66,1,1),(74,0,0),(74,1,1),(116,0,0),(116,1,1),(116,2,2),(187,0,0),(187,1,1),(189,0,0),(189,1,1),(204,0,0),(328,0,0),(328,1,2)],fd:=[],str:=[]}
theorem dK:FX.okB Tryz.prog=true:=by kernel_rfl
theorem cs{n:Nat}{all:Array Oper}{σ:List bC}{ds:List Deferred}{Q:Post}(k:Nat){l l':List Oper}{env env':Env}(h:O8 FX all n k l env=some (env',l'))(hr:AR Tryz.prog n all l' env' σ ds Q):AR Tryz.prog n all l env σ ds Q:=AR.cs dK k h hr
def FY:FB:=⟨{FX with ti:=FX.ti++[(3,false,1),(4,false,1),(9,false,1),(31,false,1),(32,false,1),(34,true,6),(35,false,1),(37,true,10),(39,true,12),(60,true,7),(61,false,1),(63,true,2),(66,true,3),(116,true,3),(131,false,1),(221,true,8),(328,true,3)]},[(34,[.int .i64 0,.bool false,.int .i64 0,.str [],.own (.slice none 0 0) [],.own (.slice none 0 0) []]),(37,[.int .i64 0,.str [],.int .i64 0,.bool false,.int .i64 0,.str [],.own (.slice none 0 0) [],.own (.slice none 0 0) [],.own (.slice none 0 0) [],.own (.slice none 0 0) []]),(39,[.str [],.bool false,.int .i64 0,.str [],.int .i64 0,.bool false,.int .i64 0,.str [],.own (.slice none 0 0) [],.own (.slice none 0 0) [],.own (.slice none 0 0) [],.own (.slice none 0 0) []]),(60,[.str [],.int .i64 0,.bool false,.int .i64 0,.str [],.own (.slice none 0 0) [],.own (.slice none 0 0) []]),(63,[.int .i64 0,.own (.slice none 0 0) []]),(66,[.str [],.int .i64 0,.own (.slice none 0 0) []]),(116,[.int .i64 0,.str [],.int .i64 0]),(189,[.int .i64 0,.int .i64 0]),(204,[.int .i64 0]),(328,[.int .u64 0,.int .u64 0,.bool false])],[(34,[(0,1),(1,1),(2,1),(3,1),(4,1),(5,1)]),(37,[(0,1),(1,1),(2,6),(8,1),(9,1)]),(39,[(0,1),(1,1),(2,10)]),(60,[(0,1),(1,6)]),(63,[(0,1),(1,1)]),(66,[(0,1),(1,2)]),(116,[(0,1),(1,1),(2,1)]),(189,[(0,1),(1,1)]),(204,[(0,1)]),(328,[(0,2),(2,1)])]⟩
instance : FK Tryz.prog:=⟨FY,⟨by kernel_rfl,by kernel_rfl,by kernel_rfl⟩,[10,11,17,19,26,27,28,29,30,31,36,37,38,39,41,42,43,50,59,61,62,63,64,70,71,75,76,77,81,82,85,86,88,98,100,101,102,108,109,110,113,125,126,127,128,134,136,143,144,146,147,148,155,156,157,166,167,168,169,170,171,173,184,185,187,197,201,202,203,204,217,220,224,225,226,227,228,230,241,242,244,245,246,255,264,265,266,267,268,269,270,271,272,273,274,275,276,299,300,301,302,303,311,312,313,314,315,318,323,324,325,326,327,328,329,330,331,332,333,334,335,344,348,350,354,355,356,357,358,359,360,361,362,363,364,365,366,367,368,369,370,371,372,383,384,388,389,390,391,392,395,396,397,398,399,400,401,410,411,412,413,418,419],by kernel_rfl⟩
variable {τ : List bC} {Q : eP → List bC → Prop}
abbrev PC:=AC Tryz.prog
@[reducible] def iP(x:Int):PV:=.int .i64 x
@[reducible] def sP(x:List Str):PV:=.list (List.map lH x)
@[reducible] def pP(b:Nat):PV:=.val (.pointer (some ⟨b,0,none⟩))
@[reducible] def aX(x:ah):List PV:=[.int .i64 x.kind,.bool x.dR,.int .i64 x.dA,.str x.bR,.list (ah.bO x.aN),.list (List.map lH x.keys)]
@[reducible] def cZ(x:ak):List PV:=[.int .i64 x.kind,.str x.name,.int .i64 x.value.kind,.bool x.value.dR,.int .i64 x.value.dA,.str x.value.bR,.list (ah.bO x.value.aN),.list (List.map lH x.value.keys),.list (ak.bO x.args),.list (List.map lH x.keys)]
@[reducible] def adF(x:aY):List PV:=[.str x.text,.bool x.Z0,.int .i64 x.expr.kind,.str x.expr.name,.int .i64 x.expr.value.kind,.bool x.expr.value.dR,.int .i64 x.expr.value.dA,.str x.expr.value.bR,.list (ah.bO x.expr.value.aN),.list (List.map lH x.expr.value.keys),.list (ak.bO x.expr.args),.list (List.map lH x.expr.keys)]
@[reducible] def FQ(x:aB):List PV:=[.str x.name,.int .i64 x.value.kind,.bool x.value.dR,.int .i64 x.value.dA,.str x.value.bR,.list (ah.bO x.value.aN),.list (List.map lH x.value.keys)]
@[reducible] def eZ(x:aI):List PV:=[.int .i64 x.kind,.list (aI.bO x.elem)]
@[reducible] def al5(x:dS):List PV:=[.str x.name,.int .i64 x.Hr.kind,.list (aI.bO x.Hr.elem)]
@[reducible] def xD(x:aG):List PV:=[.int .i64 x.kind,.str x.text,.int .i64 x.at_]
@[reducible] def aW(x:au):List PV:=[.list (List.map aG.cells x.ts),.int .i64 x.at_]
@[reducible] def jT(x:ay):List PV:=[.int .i64 x.at_,.int .i64 x.code]
@[reducible] def OJ(x:jo):List PV:=[.int .u64 ((x.half.getD 0 0).toNat:Int),.int .u64 ((x.half.getD 1 0).toNat:Int),.bool x.neg]
theorem GD{b:Nat}{v p:Value}{bs:List UInt8}(hp:p=Value.pointer none∨p=.pointer (some ⟨b,0,none⟩)){R:eP→List bC→Prop}(h:R (.ret (.tuple [])) [.l8 b 72 [.val (.pointer (some ⟨b,0,none⟩)),.own v (bs.map jE)],.row v bs.length 1 5]):
    AC Tryz.prog 60 [.val (.pointer (some ⟨b,0,none⟩))] [.l8 b 72 [.val p,.own v (bs.map jE)],.row v bs.length 1 5] R:=by
  obtain⟨j,hj1,hj2⟩:=inB;rcases hp with rfl|rfl
  · skip
    refine AC.mD 20 [] [0] Tryz.func60 rfl rfl rfl rfl rfl ?_;refine AW.seq ?_;refine AW.region ?_;refine AR.step rfl rfl rfl (AO.calc' rfl ?_);refine AR.step rfl rfl rfl (AO.nilCheck rfl rfl ?_);refine AR.step rfl rfl rfl (AO.cB rfl rfl BJ ?_);refine AR.step rfl rfl rfl (AO.kF (i:=0) rfl rfl rfl Ls rfl rfl ?_);refine AR.step rfl rfl rfl (AO.PO rfl J2 rfl rfl ?_);refine AR.nil [0,6] rfl ?_;refine AW.cond rfl (fun h1=>?_) (fun h1=>?_)
    ·refine AW.region ?_;refine AR.step rfl rfl rfl (AO.calc' rfl ?_);refine AR.step rfl rfl rfl (AO.calc' rfl ?_);refine AR.step rfl rfl rfl (AO.acZ (i:=0) rfl J2 Wd hj1 hj2 rfl rfl rfl ?_);refine AR.step rfl rfl rfl (AO.YN rfl rfl rfl rfl Tryz.func96 (by kernel_rfl) (by kernel_rfl) (by kernel_rfl) (by kernel_rfl) rfl ?_);refine AR.step rfl rfl rfl (AO.Za (i:=0) rfl Wd J2 hj1 rfl rfl rfl al4 ?_);refine AR.step rfl rfl rfl (AO.nilCheck rfl rfl ?_);refine AR.step rfl rfl rfl (AO.cB rfl rfl BJ ?_);refine AR.dx rfl rfl (AO.rC (i:=0) rfl rfl rfl Ls rfl rfl rfl rfl rfl ?_);refine AR.nil [] rfl ?_;exact⟨rfl,[],rfl,_,List.Sublist.refl _,h⟩
    ·cases h1
  · skip
    refine AC.mD 20 [] [0] Tryz.func60 rfl rfl rfl rfl rfl ?_;refine AW.seq ?_;refine AW.region ?_;refine AR.step rfl rfl rfl (AO.calc' rfl ?_);refine AR.step rfl rfl rfl (AO.nilCheck rfl rfl ?_);refine AR.step rfl rfl rfl (AO.cB rfl rfl BJ ?_);refine AR.step rfl rfl rfl (AO.kF (i:=0) rfl rfl rfl Ls rfl rfl ?_);refine AR.step rfl rfl rfl (AO.PO rfl J2 rfl rfl ?_);refine AR.nil [0,6] rfl ?_;refine AW.cond rfl (fun h1=>?_) (fun h1=>?_)
    ·cases h1
    · refine AW.seq ?_;refine AW.region ?_;refine AR.step rfl rfl rfl (AO.calc' rfl ?_);refine AR.step rfl rfl rfl (AO.nilCheck rfl rfl ?_);refine AR.step rfl rfl rfl (AO.cB rfl rfl BJ ?_);refine AR.step rfl rfl rfl (AO.kF (i:=0) rfl rfl rfl Ls rfl rfl ?_);refine AR.step rfl rfl rfl (AO.calc' rfl ?_);refine AR.step rfl rfl rfl (AO.LY rfl J2 hj1 rfl rfl ?_);refine AR.nil [19] rfl ?_;refine AW.cond rfl (fun h2=>?_) (fun h2=>?_)
      ·cases h2
      ·refine AW.skip ?_;exact⟨rfl,[],rfl,_,List.Sublist.refl _,h⟩
theorem jB{b:Nat}{v:Value}{bs r:List UInt8}{c:UInt8}(hv:app bs [c]=some r){R:eP→List bC→Prop}(h:∀v',R (.ret (.val .nilIface)) [.K8 b v' 72 5 r]):AC Tryz.prog 28 [.val (.pointer (some ⟨b,0,none⟩)),.int .u8 (c.toNat:Int)] [.K8 b v 72 5 bs] R:=by
  refine AC.K8 fun p hp hroom=>?_;refine AC.mD 17 [.tmp 4] [0,1] Tryz.func28 rfl rfl rfl rfl rfl ?_;refine AW.seq ?_;refine AW.region ?_;refine AR.step rfl rfl rfl (AO.calc' rfl ?_);refine AR.nil [0,1] rfl ?_;refine AW.seq ?_;refine AW.region ?_;refine AR.step rfl rfl rfl (AO.calc' rfl ?_);refine AR.step rfl rfl rfl (AO.call rfl _ rfl rfl afi (GD hp ?_));refine AR.nil [0,1] rfl ?_;refine AW.seq ?_;refine AW.region ?_;refine AR.step rfl rfl rfl (AO.calc' rfl ?_);refine AR.step rfl rfl rfl (AO.calc' rfl ?_);refine AR.step rfl rfl rfl (AO.nilCheck rfl rfl ?_);refine AR.step rfl rfl rfl (AO.cB rfl rfl u6 ?_);refine AR.step rfl rfl rfl (AO.kF (i:=0) rfl rfl rfl EG rfl rfl ?_);refine AR.step rfl rfl rfl (AO.calc' rfl ?_);refine AR.step rfl rfl rfl (AO.buildSlice rfl QF rfl rfl rfl ?_);refine AR.step rfl rfl rfl (AO.Oe (i:=1) hv rfl rfl rfl rfl rfl (Kn.list rfl Vz (by simp[jE]) (by simp[jE,PV.one])) rfl QF (fun v' s1 hs1 hr1=>?_));cases hs1;refine AR.step rfl rfl rfl (AO.nilCheck rfl rfl ?_);refine AR.step rfl rfl rfl (AO.cB rfl rfl u6 ?_);refine AR.dx rfl rfl (AO.rC (i:=0) rfl rfl rfl EG rfl rfl rfl rfl rfl ?_);refine AR.nil [1] rfl ?_;refine AW.seq ?_;refine AW.region ?_;refine AR.step rfl rfl rfl (AO.calc' rfl ?_);refine AR.nil [4] rfl ?_;refine AW.ret ?_;exact⟨rfl,_,⟨_,_,rfl,rfl,rfl⟩,_,List.Sublist.refl _,_,v',r,rfl,.inr rfl,hr1 hroom,h v'⟩
theorem nE{b:Nat}{v:Value}{bs r s:List UInt8}(hv:app bs s=some r){R:eP→List bC→Prop}(h:∀v',R (.ret (.tuple [.int .i64 (s.length:Int),.val .nilIface])) [.K8 b v' 72 5 r]):AC Tryz.prog 36 [.val (.pointer (some ⟨b,0,none⟩)),.str s] [.K8 b v 72 5 bs] R:=by
  refine AC.K8 fun p hp hroom=>?_;refine AC.mD 19 [.tmp 4,.tmp 5] [0,1] Tryz.func36 rfl rfl rfl rfl rfl ?_;refine AW.seq ?_;refine AW.region ?_;refine AR.step rfl rfl rfl (AO.calc' rfl ?_);refine AR.step rfl rfl rfl (AO.calc' rfl ?_);refine AR.nil [0,1] rfl ?_;refine AW.seq ?_;refine AW.region ?_;refine AR.step rfl rfl rfl (AO.calc' rfl ?_);refine AR.step rfl rfl rfl (AO.call rfl _ rfl rfl afi (GD hp ?_));refine AR.nil [0,1] rfl ?_;refine AW.seq ?_;refine AW.region ?_;refine AR.step rfl rfl rfl (AO.calc' rfl ?_);refine AR.step rfl rfl rfl (AO.calc' rfl ?_);refine AR.step rfl rfl rfl (AO.nilCheck rfl rfl ?_);refine AR.step rfl rfl rfl (AO.cB rfl rfl u6 ?_);refine AR.step rfl rfl rfl (AO.kF (i:=0) rfl rfl rfl EG rfl rfl ?_);refine AR.step rfl rfl rfl (AO.calc' rfl ?_);refine AR.step rfl rfl rfl (AO.Oe (i:=1) hv rfl rfl rfl rfl rfl (Kn.str fD) rfl QF (fun v' s1 hs1 hr1=>?_));cases hs1;refine AR.step rfl rfl rfl (AO.nilCheck rfl rfl ?_);refine AR.step rfl rfl rfl (AO.cB rfl rfl u6 ?_);refine AR.dx rfl rfl (AO.rC (i:=0) rfl rfl rfl EG rfl rfl rfl rfl rfl ?_);refine AR.nil [1] rfl ?_;refine AW.seq ?_;refine AW.region ?_;refine AR.step rfl rfl rfl (AO.calc' rfl ?_);refine AR.step rfl rfl rfl (AO.eG rfl rfl rfl rfl fD rfl ?_);refine AR.step rfl rfl rfl (AO.calc' rfl ?_);refine AR.step rfl rfl rfl (AO.calc' rfl ?_);refine AR.nil [4,5] rfl ?_;refine AW.ret ?_;exact⟨rfl,_,⟨_,_,rfl,rfl,_,_,rfl,rfl,rfl⟩,_,List.Sublist.refl _,_,v',r,rfl,.inr rfl,hr1 hroom,h v'⟩
theorem VN{b:Nat}{v:Value}{bs:List UInt8}{R:eP→List bC→Prop}(h:R (.ret (.int .i64 (bs.length:Int))) [.K8 b v 72 5 bs]):AC Tryz.prog 43 [.val (.pointer (some ⟨b,0,none⟩))] [.K8 b v 72 5 bs] R:=by
  refine AC.K8 fun p hp hroom=>?_;refine AC.mD 8 [.tmp 2] [0] Tryz.func43 rfl rfl rfl rfl rfl ?_;refine AW.seq ?_;refine AW.region ?_;refine AR.step rfl rfl rfl (AO.calc' rfl ?_);refine AR.nil [0] rfl ?_;refine AW.seq ?_;refine AW.region ?_;refine AR.step rfl rfl rfl (AO.calc' rfl ?_);refine AR.step rfl rfl rfl (AO.nilCheck rfl rfl ?_);refine AR.step rfl rfl rfl (AO.cB rfl rfl u6 ?_);refine AR.step rfl rfl rfl (AO.kF (i:=0) rfl rfl rfl EG rfl rfl ?_);refine AR.step rfl rfl rfl (AO.bI (l:=bs) rfl rfl rfl rfl Vz rfl rfl ?_);refine AR.step rfl rfl rfl (AO.calc' rfl ?_);refine AR.nil [2] rfl ?_;refine AW.ret ?_;exact⟨rfl,_,⟨_,_,rfl,rfl,rfl⟩,_,List.Sublist.refl _,p,v,bs,rfl,hp,hroom,h⟩
theorem yT{b:Nat}{v:Value}{bs:List UInt8}{R:eP→List bC→Prop}(h:R (.ret (.str bs)) []):AC Tryz.prog 39 [.val (.pointer (some ⟨b,0,none⟩))] [.K8 b v 72 5 bs] R:=by
  refine AC.aiE fun p hroom=>?_;refine AC.mD 14 [.tmp 2] [0] Tryz.func39 rfl rfl rfl rfl rfl ?_;refine AW.seq ?_;refine AW.region ?_;refine AR.step rfl rfl rfl (AO.calc' rfl ?_);refine AR.nil [0] rfl ?_;refine AW.seq ?_;refine AW.draw 10 mixed (by kernel_rfl) rfl ?_;refine Ev.cons rfl rfl rfl (AO.calc' rfl ⟨rfl,rfl⟩) ?_;refine Ev.cons rfl rfl rfl (AO.nilCheck rfl rfl ⟨rfl,rfl⟩) ?_;refine Ev.cons rfl rfl rfl (AO.cB rfl rfl u6 ⟨rfl,rfl⟩) ?_;refine Ev.cons rfl rfl rfl (AO.kF (i:=0) rfl rfl rfl EG rfl rfl ⟨rfl,rfl⟩) ?_;refine Ev.cons rfl rfl rfl (AO.sliceData rfl rfl rfl rfl hroom ⟨rfl,rfl⟩) ?_;refine Ev.cons rfl rfl rfl (AO.calc' rfl ⟨rfl,rfl⟩) ?_;refine Ev.cons rfl rfl rfl (AO.nilCheck rfl rfl ⟨rfl,rfl⟩) ?_;refine Ev.cons rfl rfl rfl (AO.cB rfl rfl u6 ⟨rfl,rfl⟩) ?_;refine Ev.cons rfl rfl rfl (AO.kF (i:=0) rfl rfl rfl EG rfl rfl ⟨rfl,rfl⟩) ?_;refine Ev.cons rfl rfl rfl (AO.bI (l:=bs) rfl rfl rfl rfl Vz rfl rfl ⟨rfl,rfl⟩) ?_;refine Ev.nil ?_;show AR _ _ _ _ _ _ _ _;refine AR.step rfl rfl rfl (AO.unsafeString rfl rfl rfl rfl aeH amu rfl rfl rfl ?_);refine AR.step rfl rfl rfl (AO.calc' rfl ?_);refine AR.nil [2] rfl ?_;refine AW.ret ?_;exact⟨rfl,_,⟨_,_,rfl,rfl,rfl⟩,[],apZ _,h⟩
theorem Tx{b:Nat}{q:PV}{v p:Value}{bs:List UInt8}(hp:p=Value.pointer none∨p=.pointer (some ⟨b,1,none⟩)){R:eP→List bC→Prop}(h:R (.ret (.tuple [])) [.row v (List.length bs) 1 5,.l8 b 74 [q,.val (.pointer (some ⟨b,1,none⟩)),.own v (List.map jE bs)]]):
    AC Tryz.prog 60 [.val (.pointer (some ⟨b,1,none⟩))] [.row v (List.length bs) 1 5,.l8 b 74 [q,.val p,.own v (List.map jE bs)]] R:=by
  obtain⟨j,hj1,hj2⟩:=inB;rcases hp with rfl|rfl
  · skip
    refine AC.mD 20 [] [0] Tryz.func60 rfl rfl rfl rfl rfl ?_;refine AW.seq ?_;refine AW.region ?_;refine AR.step rfl rfl rfl (AO.calc' rfl ?_);refine AR.step rfl rfl rfl (AO.nilCheck rfl rfl ?_);refine AR.step rfl rfl rfl (AO.cB rfl rfl BJ ?_);refine AR.step rfl rfl rfl (AO.kF (i:=1) rfl rfl rfl Ls rfl rfl ?_);refine AR.step rfl rfl rfl (AO.PO rfl J2 rfl rfl ?_);refine AR.nil [0,6] rfl ?_;refine AW.cond rfl (fun h1=>?_) (fun h1=>?_)
    ·refine AW.region ?_;refine AR.step rfl rfl rfl (AO.calc' rfl ?_);refine AR.step rfl rfl rfl (AO.calc' rfl ?_);refine AR.step rfl rfl rfl (AO.aam (i:=1) (n:=1) rfl J2 Wd hj1 hj2 rfl rfl rfl ?_);refine AR.step rfl rfl rfl (AO.YN rfl rfl rfl rfl Tryz.func96 (by kernel_rfl) (by kernel_rfl) (by kernel_rfl) (by kernel_rfl) rfl ?_);refine AR.step rfl rfl rfl (AO.Xg (i:=1) rfl Wd J2 hj1 rfl rfl rfl al3 ?_);refine AR.step rfl rfl rfl (AO.nilCheck rfl rfl ?_);refine AR.step rfl rfl rfl (AO.cB rfl rfl BJ ?_);refine AR.dx rfl rfl (AO.rC (i:=1) rfl rfl rfl Ls rfl rfl rfl rfl rfl ?_);refine AR.nil [] rfl ?_;exact⟨rfl,[],rfl,_,List.Sublist.refl _,h⟩
    ·cases h1
  · skip
    refine AC.mD 20 [] [0] Tryz.func60 rfl rfl rfl rfl rfl ?_;refine AW.seq ?_;refine AW.region ?_;refine AR.step rfl rfl rfl (AO.calc' rfl ?_);refine AR.step rfl rfl rfl (AO.nilCheck rfl rfl ?_);refine AR.step rfl rfl rfl (AO.cB rfl rfl BJ ?_);refine AR.step rfl rfl rfl (AO.kF (i:=1) rfl rfl rfl Ls rfl rfl ?_);refine AR.step rfl rfl rfl (AO.PO rfl J2 rfl rfl ?_);refine AR.nil [0,6] rfl ?_;refine AW.cond rfl (fun h1=>?_) (fun h1=>?_)
    ·cases h1
    · refine AW.seq ?_;refine AW.region ?_;refine AR.step rfl rfl rfl (AO.calc' rfl ?_);refine AR.step rfl rfl rfl (AO.nilCheck rfl rfl ?_);refine AR.step rfl rfl rfl (AO.cB rfl rfl BJ ?_);refine AR.step rfl rfl rfl (AO.kF (i:=1) rfl rfl rfl Ls rfl rfl ?_);refine AR.step rfl rfl rfl (AO.calc' rfl ?_);refine AR.step rfl rfl rfl (AO.LY rfl J2 hj1 rfl rfl ?_);refine AR.nil [19] rfl ?_;refine AW.cond rfl (fun h2=>?_) (fun h2=>?_)
      ·cases h2
      ·refine AW.skip ?_;exact⟨rfl,[],rfl,_,List.Sublist.refl _,h⟩
theorem Jg{b:Nat}{q:PV}{v p:Value}{bs r:List UInt8}(hp:p=Value.pointer none∨p=.pointer (some ⟨b,1,none⟩))(hroom:roomy v=true){c:UInt8}(hv:app bs [c]=some r){R:eP→List bC→Prop}(h:∀v',roomy v'=true→R (.ret (.val .nilIface)) [.row v' (List.length r) 1 5,.l8 b 74 [q,.val (.pointer (some ⟨b,1,none⟩)),.own v' (List.map jE r)]]):AC Tryz.prog 28 [.val (.pointer (some ⟨b,1,none⟩)),.int .u8 (c.toNat:Int)] [.row v (List.length bs) 1 5,.l8 b 74 [q,.val p,.own v (List.map jE bs)]] R:=by
  refine AC.mD 17 [.tmp 4] [0,1] Tryz.func28 rfl rfl rfl rfl rfl ?_;refine AW.seq ?_;refine AW.region ?_;refine AR.step rfl rfl rfl (AO.calc' rfl ?_);refine AR.nil [0,1] rfl ?_;refine AW.seq ?_;refine AW.region ?_;refine AR.step rfl rfl rfl (AO.calc' rfl ?_);refine AR.step rfl rfl rfl (AO.call rfl _ rfl rfl afi (Tx hp ?_));refine AR.nil [0,1] rfl ?_;refine AW.seq ?_;refine AW.region ?_;refine AR.step rfl rfl rfl (AO.calc' rfl ?_);refine AR.step rfl rfl rfl (AO.calc' rfl ?_);refine AR.step rfl rfl rfl (AO.nilCheck rfl rfl ?_);refine AR.step rfl rfl rfl (AO.cB rfl rfl u6 ?_);refine AR.step rfl rfl rfl (AO.kF (i:=1) rfl rfl rfl EG rfl rfl ?_);refine AR.step rfl rfl rfl (AO.calc' rfl ?_);refine AR.step rfl rfl rfl (AO.buildSlice rfl QF rfl rfl rfl ?_);refine AR.step rfl rfl rfl (AO.Oe (i:=0) hv rfl rfl rfl rfl rfl (Kn.list rfl Vz (by simp[jE]) (by simp[jE,PV.one])) rfl QF (fun v' s1 hs1 hr1=>?_));cases hs1;refine AR.step rfl rfl rfl (AO.nilCheck rfl rfl ?_);refine AR.step rfl rfl rfl (AO.cB rfl rfl u6 ?_);refine AR.dx rfl rfl (AO.rC (i:=1) rfl rfl rfl EG rfl rfl rfl rfl rfl ?_);refine AR.nil [1] rfl ?_;refine AW.seq ?_;refine AW.region ?_;refine AR.step rfl rfl rfl (AO.calc' rfl ?_);refine AR.nil [4] rfl ?_;refine AW.ret ?_;exact⟨rfl,_,⟨_,_,rfl,rfl,rfl⟩,_,List.Sublist.refl _,h v' (hr1 hroom)⟩
theorem agK{b:Nat}{q:PV}{v p:Value}{bs:List UInt8}{R:eP→List bC→Prop}(h:R (.ret (.int .i64 (bs.length:Int))) [.row v (List.length bs) 1 5,.l8 b 74 [q,.val p,.own v (List.map jE bs)]]):AC Tryz.prog 43 [.val (.pointer (some ⟨b,1,none⟩))] [.row v (List.length bs) 1 5,.l8 b 74 [q,.val p,.own v (List.map jE bs)]] R:=by
  refine AC.mD 8 [.tmp 2] [0] Tryz.func43 rfl rfl rfl rfl rfl ?_;refine AW.seq ?_;refine AW.region ?_;refine AR.step rfl rfl rfl (AO.calc' rfl ?_);refine AR.nil [0] rfl ?_;refine AW.seq ?_;refine AW.region ?_;refine AR.step rfl rfl rfl (AO.calc' rfl ?_);refine AR.step rfl rfl rfl (AO.nilCheck rfl rfl ?_);refine AR.step rfl rfl rfl (AO.cB rfl rfl u6 ?_);refine AR.step rfl rfl rfl (AO.kF (i:=1) rfl rfl rfl EG rfl rfl ?_);refine AR.step rfl rfl rfl (AO.bI (l:=bs) rfl rfl rfl rfl Vz rfl rfl ?_);refine AR.step rfl rfl rfl (AO.calc' rfl ?_);refine AR.nil [2] rfl ?_;refine AW.ret ?_;exact⟨rfl,_,⟨_,_,rfl,rfl,rfl⟩,_,List.Sublist.refl _,h⟩
theorem ZG{b:Nat}{q:PV}{v p:Value}{bs:List UInt8}(hroom:roomy v=true){R:eP→List bC→Prop}(h:R (.ret (.str bs)) [.l8 b 74 [q,.val p,.own v (List.map jE bs)]]):AC Tryz.prog 39 [.val (.pointer (some ⟨b,1,none⟩))] [.row v (List.length bs) 1 5,.l8 b 74 [q,.val p,.own v (List.map jE bs)]] R:=by
  refine AC.mD 14 [.tmp 2] [0] Tryz.func39 rfl rfl rfl rfl rfl ?_;refine AW.seq ?_;refine AW.region ?_;refine AR.step rfl rfl rfl (AO.calc' rfl ?_);refine AR.nil [0] rfl ?_;refine AW.seq ?_;refine AW.draw 10 mixed (by kernel_rfl) rfl ?_;refine Ev.cons rfl rfl rfl (AO.calc' rfl ⟨rfl,rfl⟩) ?_;refine Ev.cons rfl rfl rfl (AO.nilCheck rfl rfl ⟨rfl,rfl⟩) ?_;refine Ev.cons rfl rfl rfl (AO.cB rfl rfl u6 ⟨rfl,rfl⟩) ?_;refine Ev.cons rfl rfl rfl (AO.kF (i:=1) rfl rfl rfl EG rfl rfl ⟨rfl,rfl⟩) ?_;refine Ev.cons rfl rfl rfl (AO.sliceData rfl rfl rfl rfl hroom ⟨rfl,rfl⟩) ?_;refine Ev.cons rfl rfl rfl (AO.calc' rfl ⟨rfl,rfl⟩) ?_;refine Ev.cons rfl rfl rfl (AO.nilCheck rfl rfl ⟨rfl,rfl⟩) ?_;refine Ev.cons rfl rfl rfl (AO.cB rfl rfl u6 ⟨rfl,rfl⟩) ?_;refine Ev.cons rfl rfl rfl (AO.kF (i:=1) rfl rfl rfl EG rfl rfl ⟨rfl,rfl⟩) ?_;refine Ev.cons rfl rfl rfl (AO.bI (l:=bs) rfl rfl rfl rfl Vz rfl rfl ⟨rfl,rfl⟩) ?_;refine Ev.nil ?_;show AR _ _ _ _ _ _ _ _;refine AR.step rfl rfl rfl (AO.TU rfl rfl rfl rfl aeH amu rfl rfl rfl ?_);refine AR.step rfl rfl rfl (AO.calc' rfl ?_);refine AR.nil [2] rfl ?_;refine AW.ret ?_;exact⟨rfl,_,⟨_,_,rfl,rfl,rfl⟩,_,List.Sublist.refl _,h⟩
theorem Tz{b:Nat}{q:PV}{v p:Value}{bs:List UInt8}{R:eP→List bC→Prop}(h:R (.ret (.tuple [])) [.l8 b 74 [q,.val (.pointer none),.own (.slice none 0 0) (List.map jE [])]]):AC Tryz.prog 65 [.val (.pointer (some ⟨b,1,none⟩))] [.l8 b 74 [q,.val p,.own v (List.map jE bs)]] R:=by
  refine AC.mD 8 [] [0] Tryz.func65 rfl rfl rfl rfl rfl ?_;refine AW.seq ?_;refine AW.region ?_;refine AR.step rfl rfl rfl (AO.calc' rfl ?_);refine AR.step rfl rfl rfl (AO.nilCheck rfl rfl ?_);refine AR.step rfl rfl rfl (AO.cB rfl rfl BJ ?_);refine AR.dx rfl rfl (AO.rC (i:=0) rfl rfl rfl Ls rfl rfl rfl rfl rfl ?_);refine AR.nil [0] rfl ?_;refine AW.region ?_;refine AR.step rfl rfl rfl (AO.calc' rfl ?_);refine AR.step rfl rfl rfl (AO.nilCheck rfl rfl ?_);refine AR.step rfl rfl rfl (AO.cB rfl rfl u6 ?_);refine AR.dx rfl rfl (AO.rC (i:=0) rfl rfl rfl EG rfl rfl rfl rfl rfl ?_);refine AR.nil [] rfl ?_;exact⟨rfl,[],rfl,_,List.Sublist.refl _,h⟩
theorem Tj{r0:Str}(hf:Mf=some r0)(h:Q (.ret (.str r0)) τ):PC 26 [] τ Q:=by
 unfold Mf at hf;refine BN 3 [.tmp 0] [] Tryz.func26 Z Z Z Z Z (W 1 Z (AS Z (AO.dO (List.map jE ([36,123]:List UInt8)) Z QF Z Z Z Z (AS Z (AO.VO Z aiU Wh fD Z Z ?_)))));cases hf;exact N 1 Z (Y Z h)
theorem Dz(s1 xV:Str){r0:Bool}(hf:nA s1 xV=some r0)(h:Q (.ret (.bool r0)) τ):PC 59 [.str s1,.str xV] τ Q:=by
 unfold nA at hf;refine BN 18 [.tmp 4] [0,1] Tryz.func59 Z Z Z Z Z (W 2 Z (AS Z (AO.eG Z Z Z Z fD Z (U 1 Z (AS Z (AO.eG Z Z Z Z fD Z ?_))))));refine BR hf fun b1 h2 hf=>?_;refine U 2 Z (AR.fT 7 10 17 true [] b1 Z Z (fun h1=>?_) (fun h1=>?_) ?_)
 ·replace h2:=pV h1 h2;refine Is 10 h1 Z (U 2 Z (GO Z (AO.eG Z Z Z Z fD Z ?_)));refine B1 h2 fun x1 h3 h2=>GO Z (AO.wQ h3 Z fD Z Z ⟨_,Z⟩ ?_);cases h2;exact gy 3 Z (En [17] Z)
 ·refine IF 10 h1 h2 Z fun h2=>?_;cases h2;exact gy 7 Z (En [17] Z)
 cases hf;exact N 1 Z (Y Z h)
theorem vJ(s1 xV:Str){r0:Bool}(hf:strings_HasPrefix s1 xV=some r0)(h:Q (.ret (.bool r0)) τ):PC 27 [.str s1,.str xV] τ Q:=by
 unfold strings_HasPrefix at hf;refine BN 8 [.tmp 4] [0,1] Tryz.func27 Z Z Z Z Z ?_;refine BR hf fun x1 h1 hf=>?_;refine W 3 Z (CL Z (Dz _ _ h1 ?_));cases hf;exact N 1 Z (Y Z h)
theorem Pp(s1:Str)(jd:Int){r0:Int}(hf:sK s1 jd=some r0)(h:Q (.ret (iP r0)) τ):PC 61 [.str s1,iP jd] τ Q:=by
 unfold sK at hf;refine BN 27 [.tmp 4] [0,1] Tryz.func61 Z Z Z Z Z (V 4 Z (XK (fun i1=>[(0,.str s1),(5,iP i1)]) (fun i1=>[]) (fun dL i1=>gF s1 dL i1=some r0) BIG (bV (jd+1)) Z Z hf (fun _ hz=>dH hz) ?_));intro dL i1 hf;rw[gF]at hf;refine W 2 Z (AS Z (AO.eG Z Z Z Z fD Z (J 1 Z (C hf Z (fun h1 hf=>?_) fun h1 hf=>?_))))
 ·refine B1 hf fun x1 h2 hf=>W 2 Z (AS Z (AO.ig h2 Z fD Z Z (J 2 Z (C hf Z (fun h3 hf=>?_) fun h3 hf=>?_))))
  ·exact M 6 Z ⟨(bV ((bV (i1+1))+1)),Z,Z,Z,hf⟩
  refine V 2 Z (C hf Z (fun h4 hf=>?_) fun h4 hf=>?_)
  ·cases hf;exact M 3 Z (Y Z h)
  exact M 3 Z ⟨(bV (i1+1)),Z,Z,Z,hf⟩
 refine W 1 Z (AS Z (AO.eG Z Z Z Z fD Z ?_));cases hf;exact N 1 Z (Y Z h)
theorem N7(s1:Str)(jd:Int){r0:Int}(hf:qN s1 jd=some r0)(h:Q (.ret (iP r0)) τ):PC 29 [.str s1,iP jd] τ Q:=by
 unfold qN at hf;refine BN 31 [.tmp 4] [0,1] Tryz.func29 Z Z Z Z Z (V 2 Z (LK2 (fun at2 kL=>[(0,.str s1),(1,iP at2),(5,iP kL)]) (fun at2 kL=>[]) (fun dL at2 kL=>dU s1 dL at2 kL=some r0) BIG jd 0 Z Z hf (fun _ _ hz=>dH hz) ?_));intro dL at2 kL hf;rw[dU]at hf;refine W 2 Z (AS Z (AO.eG Z Z Z Z fD Z (J 1 Z (C hf Z (fun h1 hf=>?_) fun h1 hf=>?_))))
 ·refine B1 hf fun x1 h2 hf=>W 2 Z (AS Z (AO.ig h2 Z fD Z Z (J 2 Z (C hf Z (fun h3 hf=>?_) fun h3 hf=>?_))))
  ·refine B1 hf fun at3 h4 hf=>W 2 Z (CL Z (Pp _ _ h4 ?_));exact N 1 Z ⟨at3,kL,Z,Z,Z,hf⟩
  refine V 2 Z (C hf Z (fun h5 hf=>?_) fun h5 hf=>?_)
  ·exact M 6 Z ⟨(bV (at2+1)),(bV (kL+1)),Z,Z,Z,hf⟩
  refine V 2 Z (C hf Z (fun h6 hf=>?_) fun h6 hf=>?_)
  ·refine V 2 Z (C hf Z (fun h7 hf=>?_) fun h7 hf=>?_)
   ·cases hf;exact M 2 Z (Y Z h)
   exact M 6 Z ⟨(bV (at2+1)),(bV (kL-1)),Z,Z,Z,hf⟩
  exact M 3 Z ⟨(bV (at2+1)),kL,Z,Z,Z,hf⟩
 cases hf;exact M 1 Z (Y Z h)
theorem NZ(o9:Int){r0:Bool}(hf:yC o9=some r0)(h:Q (.ret (.bool r0)) τ):PC 97 [.int .i32 o9] τ Q:=by
 unfold yC at hf;refine BN 9 [.tmp 2] [0] Tryz.func97 Z Z Z Z Z (W 4 Z (On 3 5 8 [] (o9==9) Z Z Z Z ?_));cases hf;exact N 1 Z (Y Z h)
theorem Ey(s1:Str)(jd:Int)(I5:UInt8→Option Bool)(P8:FuncId)(Xu:List PV)(aix:bN Tryz.prog P8=true)(aiy:∀a0 b0,I5 a0=some b0→∀ {τ:List bC} {Q:eP→List bC→Prop},Q (.ret (.bool b0)) τ→PC P8 ([.int .u8 (a0.toNat:Int)]++Xu) τ Q){r0:Int}(hf:xC s1 jd I5=some r0)(h:Q (.ret (iP r0)) τ):PC 98 [.str s1,iP jd,.fn P8 Xu] τ Q:=by
 unfold xC at hf;refine BN 21 [.tmp 6] [0,1,2] Tryz.func98 Z Z Z Z Z (V 1 Z (XK (fun at2=>[(0,.str s1),(1,iP at2),(2,.fn P8 Xu)]) (fun at2=>[]) (fun dL at2=>qK s1 I5 dL at2=some r0) BIG jd Z Z hf (fun _ hz=>dH hz) ?_));intro dL at2 hf;rw[qK]at hf;refine W 2 Z (AS Z (AO.eG Z Z Z Z fD Z ?_));refine B1 hf fun b1 h2 hf=>U 2 Z (AR.fT 6 11 17 true [0,1,2] b1 Z Z (fun h1=>?_) (fun h1=>?_) ?_)
 ·refine IT 11 h1 h2 Z fun h2=>?_;refine B1 h2 fun x1 h3 h2=>U 3 Z (GO Z (AO.ig h3 Z fD Z Z ?_));refine BR h2 fun x2 h4 h2=>?_;refine GO Z (AO.call Z _ Z Z aix (aiy _ _ h4 ?_));cases h2;exact gy 1 Z (En [17,0,1,2] Z)
 ·refine IF 11 h1 h2 Z fun h2=>?_;cases h2;exact gy 6 Z (En [17,0,1,2] Z)
 refine J 0 Z (C hf Z (fun h5 hf=>?_) fun h5 hf=>?_)
 ·exact M 3 Z ⟨(bV (at2+1)),Z,Z,Z,hf⟩
 cases hf;exact M 2 Z (Y Z h)
theorem NY(c1:UInt8){r0:Bool}(hf:ug c1=some r0)(h:Q (.ret (.bool r0)) τ):PC 99 [.int .u8 (c1.toNat:Int)] τ Q:=by
 unfold ug at hf;refine BN 5 [.tmp 2] [0] Tryz.func99 Z Z Z Z Z ?_;cases hf;exact M 4 Z (Y Z h)
theorem Dn(c1:UInt8){r0:Bool}(hf:rM c1=some r0)(h:Q (.ret (.bool r0)) τ):PC 166 [.int .u8 (c1.toNat:Int)] τ Q:=by
 unfold rM at hf;refine BN 21 [.tmp 2] [0] Tryz.func166 Z Z Z Z Z (W 4 Z (An 3 5 8 [0] (decide ((c1.toNat:Int)≤122)) Z Z Z Z (U 1 Z (AR.or 7 9 16 [0] (x:=((decide (65≤(c1.toNat:Int)))&&(decide ((c1.toNat:Int)≤90)))) Z Z (fun h2=>?_) (fun h2=>?_) ?_))))
 ·refine Is 9 h2 Z (U 3 Z (An 3 12 15 [0,9] (decide ((c1.toNat:Int)≤90)) Z Z Z Z ?_));exact gy 1 Z (En [16,0] Z)
 ·refine Is 9 h2 Z ?_;exact gy 7 Z (En [16,0] Z)
 refine U 1 Z (On 3 17 20 [] ((c1.toNat:Int)==95) Z Z Z Z ?_);cases hf;exact N 1 Z (Y Z h)
theorem zU(c1:UInt8){r0:Bool}(hf:qZ c1=some r0)(h:Q (.ret (.bool r0)) τ):PC 168 [.int .u8 (c1.toNat:Int)] τ Q:=by
 unfold qZ at hf;refine BN 9 [.tmp 2] [0] Tryz.func168 Z Z Z Z Z (W 4 Z (An 3 5 8 [] (decide ((c1.toNat:Int)≤57)) Z Z Z Z ?_));cases hf;exact N 1 Z (Y Z h)
theorem Tg(c1:UInt8){r0:Bool}(hf:uY c1=some r0)(h:Q (.ret (.bool r0)) τ):PC 240 [.int .u8 (c1.toNat:Int)] τ Q:=by
 unfold uY at hf;refine BN 9 [.tmp 2] [0] Tryz.func240 Z Z Z Z Z ?_;refine B1 hf fun x1 h1 hf=>W 2 Z (CL Z (Dn _ h1 ?_));refine BR hf fun b1 h3 hf=>?_;refine U 1 Z (AR.fT 3 5 8 false [] b1 Z Z (fun h2=>?_) (fun h2=>?_) ?_)
 ·refine IF 5 h2 h3 Z fun h3=>?_;refine BR h3 fun x2 h4 h3=>?_;refine U 1 Z (GO Z (AO.call Z _ Z Z afs (zU _ h4 ?_)));cases h3;exact gy 1 Z (En [8] Z)
 ·refine IT 5 h2 h3 Z fun h3=>?_;cases h3;exact gy 3 Z (En [8] Z)
 cases hf;exact N 1 Z (Y Z h)
theorem XA(gB:Str)(jd:Int){r0:aG}{r1 r2:Int}(hf:CS gB jd=some (r0,r1,r2))(h:Q (.ret (.tuple [.agg (xD r0),iP r1,iP r2])) τ):PC 167 [.str gB,iP jd] τ Q:=by
 unfold CS at hf;refine BN 23 [.cell 4 116,.tmp 5,.tmp 6] [0,1] Tryz.func167 Z Z Z Z Z (W 0 Z (AS Z (AO.aP Z wN (fun b4=>?_))));refine B1 hf fun vH h1 hf=>U 4 Z (CL Z (Ey _ _ uY 240 [] akc (fun _ _ hz=>Tg _  hz) h1 (J 5 Z (C hf Z (fun h2 hf=>?_) fun h2 hf=>?_))))
 ·cases hf;exact Wx 4 [0] Z Z (ZC [0] Z Z h)
 refine B1 hf fun x1 h3 hf=>W 3 Z (AS Z (AO.wQ h3 Z fD Z ⟨_,Z⟩ ⟨_,Z⟩ ?_));cases hf;exact Rx 6 [0] Z Z (ZC [0] Z Z h)
theorem UG(zT:Str){r0:Bool}(hf:DV zT=some r0)(h:Q (.ret (.bool r0)) τ):PC 241 [.str zT] τ Q:=by
 unfold DV at hf;refine BN 25 [.tmp 2] [0] Tryz.func241 Z Z Z Z Z (V 3 Z (LK2 (fun n1 i1=>[(0,.str zT),(3,iP n1),(4,iP i1)]) (fun n1 i1=>[]) (fun dL n1 i1=>qL zT dL n1 i1=some r0) BIG 0 0 Z Z hf (fun _ _ hz=>dH hz) ?_));intro dL n1 i1 hf;rw[qL]at hf;refine W 2 Z (AS Z (AO.eG Z Z Z Z fD Z (U 2 Z (An 3 9 12 [0,3,4] (decide (n1≤9007199254740992)) Z Z Z Z (J 0 Z (C hf Z (fun h2 hf=>?_) fun h2 hf=>?_))))))
 ·refine B1 hf fun x1 h3 hf=>W 4 Z (AS Z (AO.ig h3 Z fD Z Z (AS Z (AO.Wi x1 48 Z Z Z Z Z (AS Z (AO.EU Z Wh Qq Z Z ?_))))));exact N 5 Z ⟨(bV ((bV (10*n1))+((x1-48).toNat:Int))),(bV (i1+1)),Z,Z,Z,hf⟩
 cases hf;exact M 3 Z (Y Z h)
theorem Tf(gB:Str)(jd:Int){r0:aG}{r1 r2:Int}(hf:yB gB jd=some (r0,r1,r2))(h:Q (.ret (.tuple [.agg (xD r0),iP r1,iP r2])) τ):PC 169 [.str gB,iP jd] τ Q:=by
 unfold yB at hf;refine BN 44 [.cell 4 116,.tmp 5,.tmp 6] [0,1] Tryz.func169 Z Z Z Z Z (W 0 Z (AS Z (AO.aP Z wN (fun b4=>?_))));refine B1 hf fun vH h1 hf=>U 4 Z (CL Z (Ey _ _ qZ 168 [] afs (fun _ _ hz=>zU _  hz) h1 ?_));refine B1 hf fun text1 h2 hf=>U 4 Z (AS Z (AO.wQ h2 Z fD Z ⟨_,Z⟩ ⟨_,Z⟩ (U 2 Z (AS Z (AO.eG Z Z Z Z fD Z ?_)))));refine B1 hf fun b1 h4 hf=>U 2 Z (AR.fT 4 19 23 true [0,1,4,7,8] b1 Z Z (fun h3=>?_) (fun h3=>?_) ?_)
 ·refine IT 19 h3 h4 Z fun h4=>?_;refine B1 h4 fun x1 h5 h4=>U 1 Z (GO Z (AO.ig h5 Z fD Z Z ?_));cases h4;exact gy 2 Z (En [23,0,1,4,7,8] Z)
 ·refine IF 19 h3 h4 Z fun h4=>?_;cases h4;exact gy 4 Z (En [23,0,1,4,7,8] Z)
 refine B1 hf fun b2 h7 hf=>U 1 Z (AR.fT 11 24 35 false [1,4,7,8] b2 Z Z (fun h6=>?_) (fun h6=>?_) ?_)
 ·replace h7:=nU h6 h7;refine Is 24 h6 Z (U 2 Z (GO Z (AO.eG Z Z Z Z fD Z ?_)));refine BR h7 fun b3 h9 h7=>?_;refine U 2 Z (AR.fT 5 29 34 true [1,4,7,8,24] b3 Z Z (fun h8=>?_) (fun h8=>?_) ?_)
  ·refine IT 29 h8 h9 Z fun h9=>?_;refine B1 h9 fun x2 h10 h9=>U 2 Z (GO Z (AO.ig h10 Z fD Z Z ?_));refine BR h9 fun x3 h11 h9=>?_;refine GO Z (AO.call Z _ Z Z akn (Dn _ h11 ?_));cases h9;exact gy 1 Z (En [34,1,4,7,8,24] Z)
  ·refine IF 29 h8 h9 Z fun h9=>?_;cases h9;exact gy 5 Z (En [34,1,4,7,8,24] Z)
  cases h7;exact gy 1 Z (En [35,1,4,7,8] Z)
 ·refine IT 24 h6 h7 Z fun h7=>?_;cases h7;exact gy 11 Z (En [35,1,4,7,8] Z)
 refine J 0 Z (C hf Z (fun h12 hf=>?_) fun h12 hf=>?_)
 ·cases hf;exact Wx 4 [0] Z Z (ZC [0] Z Z h)
 refine B1 hf fun x4 qp hf=>W 1 Z (CL Z (UG _ qp (J 0 Z (C hf Z (fun oI hf=>?_) fun oI hf=>?_))))
 ·cases hf;exact Wx 4 [0] Z Z (ZC [0] Z Z h)
 cases hf;exact Wx 7 [0] Z Z (ZC [0] Z Z h)
theorem Ao(c1:UInt8){r0:Int}(hf:uZ c1=some r0)(h:Q (.ret (iP r0)) τ):PC 310 [.int .u8 (c1.toNat:Int)] τ Q:=by
 unfold uZ at hf;refine BN 31 [.tmp 2] [0] Tryz.func310 Z Z Z Z Z ?_;refine B1 hf fun x1 h1 hf=>W 2 Z (CL Z (zU _ h1 (J 1 Z (C hf Z (fun h2 hf=>?_) fun h2 hf=>?_))))
 ·refine W 1 Z (AS Z (AO.Wi c1 48 Z Z Z Z Z (AS Z (AO.EU Z Wh Qq Z Z ?_))));cases hf;exact N 1 Z (Y Z h)
 refine W 3 Z (An 3 12 15 [0] (decide ((c1.toNat:Int)≤102)) Z Z Z Z (J 1 Z (C hf Z (fun h4 hf=>?_) fun h4 hf=>?_)))
 ·refine W 1 Z (AS Z (AO.Wi c1 97 Z Z Z Z Z (AS Z (AO.EU Z Wh Qq Z Z ?_))));cases hf;exact N 2 Z (Y Z h)
 refine W 3 Z (An 3 23 26 [0] (decide ((c1.toNat:Int)≤70)) Z Z Z Z (J 1 Z (C hf Z (fun h6 hf=>?_) fun h6 hf=>?_)))
 ·refine W 1 Z (AS Z (AO.Wi c1 65 Z Z Z Z Z (AS Z (AO.EU Z Wh Qq Z Z ?_))));cases hf;exact N 2 Z (Y Z h)
 cases hf;exact M 1 Z (Y Z h)
theorem Po(gB:Str)(jd:Int){r0:UInt8}{r1:Int}(hf:vW gB jd=some (r0,r1))(h:Q (.ret (.tuple [.int .u8 (r0.toNat:Int),iP r1])) τ):PC 242 [.str gB,iP jd] τ Q:=by
 unfold vW at hf;refine BN 61 [.tmp 4,.tmp 5] [0,1] Tryz.func242 Z Z Z Z Z (W 5 Z (AS Z (AO.eG Z Z Z Z fD Z (J 1 Z (C hf Z (fun h1 hf=>?_) fun h1 hf=>?_)))))
 ·cases hf;exact M 2 Z (Y Z h)
 refine B1 hf fun c1 h2 hf=>W 3 Z (AS Z (AO.ig h2 Z fD Z Z (J 4 Z (C hf Z (fun h3 hf=>?_) fun h3 hf=>?_))))
 ·refine V 0 Z (AW.cond Z (fun h4=>?_) (fun h4=>?_))
  ·cases hf;exact M 3 Z (Y Z h)
  cases h3.symm.trans h4
 refine V 2 Z (C hf Z (fun h5 hf=>?_) fun h5 hf=>?_)
 ·cases hf;exact M 3 Z (Y Z h)
 refine V 2 Z (C hf Z (fun h6 hf=>?_) fun h6 hf=>?_)
 ·cases hf;exact M 2 Z (Y Z h)
 refine V 2 Z (C hf Z (fun h7 hf=>?_) fun h7 hf=>?_)
 ·cases hf;exact M 2 Z (Y Z h)
 refine V 2 Z (C hf Z (fun h8 hf=>?_) fun h8 hf=>?_)
 ·refine W 3 Z (AS Z (AO.eG Z Z Z Z fD Z ?_));refine B1 hf fun b1 h10 hf=>U 2 Z (AR.fT 7 32 39 true [0,1] b1 Z Z (fun h9=>?_) (fun h9=>?_) ?_)
  ·refine IT 32 h9 h10 Z fun h10=>?_;refine B1 h10 fun x1 h11 h10=>U 3 Z (GO Z (AO.ig h11 Z fD Z Z ?_));refine B1 h10 fun x2 h12 h10=>GO Z (AO.call Z _ Z Z Rk (Ao _ h12 ?_));cases h10;exact gy 2 Z (En [39,0,1] Z)
  ·refine IF 32 h9 h10 Z fun h10=>?_;cases h10;exact gy 7 Z (En [39,0,1] Z)
  refine B1 hf fun b2 oI hf=>U 1 Z (AR.fT 7 40 47 true [0,1] b2 Z Z (fun qp=>?_) (fun qp=>?_) ?_)
  ·refine IT 40 qp oI Z fun oI=>?_;refine B1 oI fun x3 vY oI=>U 3 Z (GO Z (AO.ig vY Z fD Z Z ?_));refine B1 oI fun x4 h16 oI=>GO Z (AO.call Z _ Z Z Rk (Ao _ h16 ?_));cases oI;exact gy 2 Z (En [47,0,1] Z)
  ·refine IF 40 qp oI Z fun oI=>?_;cases oI;exact gy 7 Z (En [47,0,1] Z)
  refine J 0 Z (C hf Z (fun AZ hf=>?_) fun AZ hf=>?_)
  ·refine V 0 Z (AW.draw 15 mixed (by kernel_rfl) Z ?_);refine Ev.cs dK 3 Z ?_;refine B1 hf fun x5 h18 hf=>Ev.cons Z Z Z (AO.ig h18 Z fD Z Z zg) ?_;refine B1 hf fun x6 h19 hf=>Ev.cons Z Z Z (AO.call Z _ Z Z Rk (Ao _ h19 zg)) (Ev.cs dK 4 Z ?_);refine B1 hf fun x7 h20 hf=>Ev.cons Z Z Z (AO.ig h20 Z fD Z Z zg) ?_;refine B1 hf fun x8 h21 hf=>Ev.cons Z Z Z (AO.call Z _ Z Z Rk (Ao _ h21 zg)) (Ev.cs dK 1 Z (Ev.cons Z Z Z (AO.Zq Z Qq Wh Z zg) (Ev.cs dK 2 Z ?_)));refine Ev.nil ?_;show AR _ _ _ _ _ _ _ _;cases hf;exact N 0 Z (Y Z h)
  cases hf;exact M 2 Z (Y Z h)
 cases hf;exact M 2 Z (Y Z h)
theorem UF(gB:Str)(jd:Int){r0:Bool}(hf:Aj gB jd=some r0)(h:Q (.ret (.bool r0)) τ):PC 243 [.str gB,iP jd] τ Q:=by
 unfold Aj at hf;refine BN 32 [.tmp 4] [0,1] Tryz.func243 Z Z Z Z Z ?_;refine B1 hf fun Hy h1 hf=>W 4 Z (AS Z (AO.wQ h1 Z fD Z ⟨_,Z⟩ Z (U 4 Z (On 3 12 15 [5] (Hy==([120]:Str)) Z Z Z Z ?_))));refine BR hf fun b1 h4 hf=>?_;refine U 1 Z (AR.fT 15 16 31 false [] b1 Z Z (fun h3=>?_) (fun h3=>?_) ?_)
 ·replace h4:=nU h3 h4;refine Is 16 h3 Z (U 1 Z (GO Z (AO.eG Z Z Z Z fD Z ?_)));refine B1 h4 fun b2 h6 h4=>U 2 Z (AR.fT 4 20 24 true [5,16] b2 Z Z (fun h5=>?_) (fun h5=>?_) ?_)
  ·refine IT 20 h5 h6 Z fun h6=>?_;refine B1 h6 fun x1 h7 h6=>U 1 Z (GO Z (AO.ig h7 Z fD Z Z ?_));cases h6;exact gy 2 Z (En [24,5,16] Z)
  ·refine IF 20 h5 h6 Z fun h6=>?_;cases h6;exact gy 4 Z (En [24,5,16] Z)
  refine BR h4 fun b3 h9 h4=>?_;refine U 1 Z (AR.fT 5 25 30 true [16] b3 Z Z (fun h8=>?_) (fun h8=>?_) ?_)
  ·refine IT 25 h8 h9 Z fun h9=>?_;refine B1 h9 fun x2 h10 h9=>U 1 Z (GO Z (AO.ig h10 Z fD Z Z ?_));refine B1 h9 fun x3 h11 h9=>GO Z (AO.call Z _ Z Z Rk (Ao _ h11 ?_));cases h9;exact gy 2 Z (En [30,16] Z)
  ·refine IF 25 h8 h9 Z fun h9=>?_;cases h9;exact gy 5 Z (En [30,16] Z)
  cases h4;exact gy 1 Z (En [31] Z)
 ·refine IT 16 h3 h4 Z fun h4=>?_;cases h4;exact gy 15 Z (En [31] Z)
 cases hf;exact N 1 Z (Y Z h)
theorem Xz(gB:Str)(jd:Int){r0:aG}{r1 r2:Int}(hf:CR gB jd=some (r0,r1,r2))(h:Q (.ret (.tuple [.agg (xD r0),iP r1,iP r2])) τ):PC 170 [.str gB,iP jd] τ Q:=by
 unfold CR at hf;refine BN 68 [.cell 4 116,.tmp 5,.tmp 6] [0,1] Tryz.func170 Z Z Z Z Z (W 0 Z (AS Z (AO.aP Z wN (fun b4=>(U 2 Z (AS Z (AO.E8 (eu:=5) Z XQ Z (fun b7=>(J 3 Z (LK3 (fun i1 b1 v1=>[(0,.str gB),(1,iP jd),(4,pP b4),(7,pP b7),(8,iP i1)]) (fun i1 b1 v1=>[.K8 b7 v1 72 5 b1,.box b4 [iP 0,.str ([]:Str),iP 0]]) (fun dL i1 b1 v1=>qo gB jd dL i1 b1=some (r0,r1,r2)) BIG (bV (jd+1)) [] (.slice none 0 0) Z Z hf (fun _ _ _ hz=>dH hz) ?_))))))))));intro dL i1 b1 v1 hf;rw[qo]at hf;refine W 2 Z (AS Z (AO.eG Z Z Z Z fD Z (J 1 Z (C hf Z (fun h1 hf=>?_) fun h1 hf=>?_))))
 ·refine B1 hf fun c1 h2 hf=>W 2 Z (AS Z (AO.ig h2 Z fD Z Z (J 4 Z (C hf Z (fun h3 hf=>?_) fun h3 hf=>?_))))
  ·refine W 0 Z (CL Z (AC.one 0 Z (VN ⟨_,Z,(J 1 Z (C hf Z (fun h4 hf=>?_) fun h4 hf=>?_))⟩)))
   ·cases hf;exact Wx 4 [1] Z Z (ZC [1] Z Z h)
   refine W 0 Z (CL Z (AC.L6 0 Z (yT ?_)));cases hf;exact Rx 7 [0] Z Z (ZC [0] Z Z h)
  refine V 3 Z (C hf Z (fun h5 hf=>?_) fun h5 hf=>?_)
  ·cases hf;exact Wx 4 [1] Z Z (ZC [1] Z Z h)
  refine V 3 Z (C hf Z (fun h6 hf=>?_) fun h6 hf=>?_)
  ·obtain⟨x1,n1,h7,hf⟩:=dD hf;refine W 2 Z (CL Z (Po _ _ h7 ?_));refine B1 hf fun b2 h9 hf=>U 8 Z (AR.fT 4 52 56 true [0,1,4,7,8,10,11] b2 Z Z (fun h8=>?_) (fun h8=>?_) ?_)
   ·refine IT 52 h8 h9 Z fun h9=>?_;refine BR h9 fun x2 h10 h9=>?_;refine U 2 Z (GO Z (AO.call Z _ Z Z akb (UF _ _ h10 ?_)));cases h9;exact gy 1 Z (En [56,0,1,4,7,8,10,11] Z)
   ·refine IF 52 h8 h9 Z fun h9=>?_;cases h9;exact gy 4 Z (En [56,0,1,4,7,8,10,11] Z)
   refine J 1 Z (C hf Z (fun h11 hf=>?_) fun h11 hf=>?_)
   ·cases hf;exact Wx 4 [1] Z Z (ZC [1] Z Z h)
   refine V 3 Z (C hf Z (fun h12 hf=>?_) fun h12 hf=>?_)
   ·cases hf;exact Wx 4 [1] Z Z (ZC [1] Z Z h)
   refine B1 hf fun b3 qp hf=>W 1 Z (CL Z (AC.one 0 Z (jB qp (fun v2=>⟨_,Z,?_⟩))));exact N 4 Z ⟨(bV (i1+n1)),b3,v2,Z,Z,Z,hf⟩
  refine B1 hf fun b4 oI hf=>W 1 Z (CL Z (AC.one 0 Z (jB oI (fun v3=>⟨_,Z,?_⟩))));exact N 3 Z ⟨(bV (i1+1)),b4,v3,Z,Z,Z,hf⟩
 cases hf;exact Wx 4 [1] Z Z (ZC [1] Z Z h)
theorem NV(gB:Str)(jd:Int){r0:aG}{r1 r2:Int}(hf:t_ gB jd=some (r0,r1,r2))(h:Q (.ret (.tuple [.agg (xD r0),iP r1,iP r2])) τ):PC 171 [.str gB,iP jd] τ Q:=by
 unfold t_ at hf;refine BN 63 [.cell 4 116,.tmp 5,.tmp 6] [0,1] Tryz.func171 Z Z Z Z Z (W 0 Z (AS Z (AO.aP Z wN (fun b4=>(U 2 Z (AS Z (AO.dO (List.map af7 ([2,1]:List Int)) Z ae0 Z Z Z Z (AS Z (AO.bI (l:=([2,1]:List Int)) Z Z Z Z Xm Z Z ?_)))))))));refine J 1 Z (XK (fun x1=>[(0,.str gB),(1,iP jd),(4,pP b4),(10,.list (List.map af7 ([2,1]:List Int))),(11,iP (([2,1]:List Int).length:Int)),(12,iP x1)]) (fun x1=>[.box b4 [iP 0,.str ([]:Str),iP 0]]) (fun dL x1=>jI gB jd dL x1=some (r0,r1,r2)) BIG 0 Z Z hf (fun _ hz=>dH hz) ?_);intro dL x1 hf;rw[jI]at hf;refine V 1 Z (C hf Z (fun h1 hf=>?_) fun h1 hf=>?_)
 ·refine B1 hf fun n1 h2 hf=>W 0 Z (AS Z (AO.bQ h2 Z Z Z Z Xm Z Z (U 6 Z (AS Z (AO.eG Z Z Z Z fD Z (J 1 Z (C hf Z (fun h3 hf=>?_) fun h3 hf=>?_)))))))
  ·exact M 2 Z ⟨(bV (x1+1)),Z,Z,Z,hf⟩
  refine B1 hf fun s1 h4 hf=>W 5 Z (AS Z (AO.wQ h4 Z fD Z ⟨_,Z⟩ ⟨_,Z⟩ (J 4 Z (C hf Z (fun h5 hf=>?_) fun h5 hf=>?_))))
  ·refine V 0 Z (AW.cond Z (fun h6=>?_) (fun h6=>?_))
   ·cases hf;exact Wx 9 [0] Z Z (ZC [0] Z Z h)
   cases h5.symm.trans h6
  refine V 2 Z (C hf Z (fun h7 hf=>?_) fun h7 hf=>?_)
  ·refine V 0 Z (AW.cond Z (fun h8=>?_) (fun h8=>?_))
   ·cases hf;exact Wx 9 [0] Z Z (ZC [0] Z Z h)
   cases h7.symm.trans h8
  refine V 2 Z (C hf Z (fun h9 hf=>?_) fun h9 hf=>?_)
  ·refine V 0 Z (AW.cond Z (fun h10=>?_) (fun h10=>?_))
   ·cases hf;exact Wx 9 [0] Z Z (ZC [0] Z Z h)
   cases h9.symm.trans h10
  refine V 2 Z (C hf Z (fun h11 hf=>?_) fun h11 hf=>?_)
  ·refine V 0 Z (AW.cond Z (fun h12=>?_) (fun h12=>?_))
   ·cases hf;exact Wx 9 [0] Z Z (ZC [0] Z Z h)
   cases h11.symm.trans h12
  refine V 2 Z (C hf Z (fun qp hf=>?_) fun qp hf=>?_)
  ·refine V 0 Z (AW.cond Z (fun oI=>?_) (fun oI=>?_))
   ·cases hf;exact Wx 9 [0] Z Z (ZC [0] Z Z h)
   cases qp.symm.trans oI
  refine V 2 Z (C hf Z (fun vY hf=>?_) fun vY hf=>?_)
  ·refine V 0 Z (AW.cond Z (fun h16=>?_) (fun h16=>?_))
   ·cases hf;exact Wx 9 [0] Z Z (ZC [0] Z Z h)
   cases vY.symm.trans h16
  refine V 2 Z (C hf Z (fun AZ hf=>?_) fun AZ hf=>?_)
  ·refine V 0 Z (AW.cond Z (fun h18=>?_) (fun h18=>?_))
   ·cases hf;exact Wx 9 [0] Z Z (ZC [0] Z Z h)
   cases AZ.symm.trans h18
  refine V 2 Z (C hf Z (fun h19 hf=>?_) fun h19 hf=>?_)
  ·refine V 0 Z (AW.cond Z (fun h20=>?_) (fun h20=>?_))
   ·cases hf;exact Wx 9 [0] Z Z (ZC [0] Z Z h)
   cases h19.symm.trans h20
  refine V 2 Z (C hf Z (fun h21 hf=>?_) fun h21 hf=>?_)
  ·refine V 0 Z (AW.cond Z (fun h22=>?_) (fun h22=>?_))
   ·cases hf;exact Wx 9 [0] Z Z (ZC [0] Z Z h)
   cases h21.symm.trans h22
  refine V 2 Z (C hf Z (fun h23 hf=>?_) fun h23 hf=>?_)
  ·refine V 0 Z (AW.cond Z (fun J_=>?_) (fun J_=>?_))
   ·cases hf;exact Wx 9 [0] Z Z (ZC [0] Z Z h)
   cases h23.symm.trans J_
  refine V 2 Z (C hf Z (fun KS hf=>?_) fun KS hf=>?_)
  ·refine V 0 Z (AW.cond Z (fun Mj=>?_) (fun Mj=>?_))
   ·cases hf;exact Wx 9 [0] Z Z (ZC [0] Z Z h)
   cases KS.symm.trans Mj
  refine V 2 Z (C hf Z (fun h27 hf=>?_) fun h27 hf=>?_)
  ·refine V 0 Z (AW.cond Z (fun NA=>?_) (fun NA=>?_))
   ·cases hf;exact Wx 9 [0] Z Z (ZC [0] Z Z h)
   cases h27.symm.trans NA
  refine V 2 Z (C hf Z (fun TL hf=>?_) fun TL hf=>?_)
  ·refine V 0 Z (AW.cond Z (fun h30=>?_) (fun h30=>?_))
   ·cases hf;exact Wx 9 [0] Z Z (ZC [0] Z Z h)
   cases TL.symm.trans h30
  refine V 2 Z (C hf Z (fun h31 hf=>?_) fun h31 hf=>?_)
  ·refine V 0 Z (AW.cond Z (fun h32=>?_) (fun h32=>?_))
   ·cases hf;exact Wx 9 [0] Z Z (ZC [0] Z Z h)
   cases h31.symm.trans h32
  refine V 2 Z (C hf Z (fun JI hf=>?_) fun JI hf=>?_)
  ·refine V 0 Z (AW.cond Z (fun GQ=>?_) (fun GQ=>?_))
   ·cases hf;exact Wx 9 [0] Z Z (ZC [0] Z Z h)
   cases JI.symm.trans GQ
  refine V 2 Z (C hf Z (fun P5 hf=>?_) fun P5 hf=>?_)
  ·refine V 0 Z (AW.cond Z (fun Sd=>?_) (fun Sd=>?_))
   ·cases hf;exact Wx 9 [0] Z Z (ZC [0] Z Z h)
   cases P5.symm.trans Sd
  refine V 2 Z (C hf Z (fun h37 hf=>?_) fun h37 hf=>?_)
  ·refine V 0 Z (AW.cond Z (fun h38=>?_) (fun h38=>?_))
   ·cases hf;exact Wx 9 [0] Z Z (ZC [0] Z Z h)
   cases h37.symm.trans h38
  refine V 2 Z (C hf Z (fun PZ hf=>?_) fun PZ hf=>?_)
  ·refine V 0 Z (AW.cond Z (fun h40=>?_) (fun h40=>?_))
   ·cases hf;exact Wx 9 [0] Z Z (ZC [0] Z Z h)
   cases PZ.symm.trans h40
  refine V 2 Z (C hf Z (fun h41 hf=>?_) fun h41 hf=>?_)
  ·refine V 0 Z (AW.cond Z (fun h42=>?_) (fun h42=>?_))
   ·cases hf;exact Wx 9 [0] Z Z (ZC [0] Z Z h)
   cases h41.symm.trans h42
  refine V 2 Z (C hf Z (fun h43 hf=>?_) fun h43 hf=>?_)
  ·refine V 0 Z (AW.cond Z (fun h44=>?_) (fun h44=>?_))
   ·cases hf;exact Wx 9 [0] Z Z (ZC [0] Z Z h)
   cases h43.symm.trans h44
  refine V 2 Z (C hf Z (fun h45 hf=>?_) fun h45 hf=>?_)
  ·refine V 0 Z (AW.cond Z (fun h46=>?_) (fun h46=>?_))
   ·cases hf;exact Wx 9 [0] Z Z (ZC [0] Z Z h)
   cases h45.symm.trans h46
  refine V 2 Z (C hf Z (fun h47 hf=>?_) fun h47 hf=>?_)
  ·refine V 0 Z (AW.cond Z (fun h48=>?_) (fun h48=>?_))
   ·cases hf;exact Wx 9 [0] Z Z (ZC [0] Z Z h)
   cases h47.symm.trans h48
  refine V 2 Z (C hf Z (fun h49 hf=>?_) fun h49 hf=>?_)
  ·refine V 0 Z (AW.cond Z (fun h50=>?_) (fun h50=>?_))
   ·cases hf;exact Wx 9 [0] Z Z (ZC [0] Z Z h)
   cases h49.symm.trans h50
  refine V 2 Z (C hf Z (fun h51 hf=>?_) fun h51 hf=>?_)
  ·refine V 0 Z (AW.cond Z (fun h52=>?_) (fun h52=>?_))
   ·cases hf;exact Wx 9 [0] Z Z (ZC [0] Z Z h)
   cases h51.symm.trans h52
  refine V 2 Z (C hf Z (fun Y8 hf=>?_) fun Y8 hf=>?_)
  ·cases hf;exact Wx 9 [0] Z Z (ZC [0] Z Z h)
  exact M 2 Z ⟨(bV (x1+1)),Z,Z,Z,hf⟩
 cases hf;exact Wx 4 [0] Z Z (ZC [0] Z Z h)
theorem UE(gB:Str)(jd:Int){r0:aG}{r1 r2:Int}(hf:Ai gB jd=some (r0,r1,r2))(h:Q (.ret (.tuple [.agg (xD r0),iP r1,iP r2])) τ):PC 100 [.str gB,iP jd] τ Q:=by
 unfold Ai at hf;refine BN 44 [.cell 4 116,.tmp 5,.tmp 6] [0,1] Tryz.func100 Z Z Z Z Z (W 0 Z (AS Z (AO.aP Z wN (fun b4=>?_))));refine B1 hf fun c1 h1 hf=>U 4 Z (AS Z (AO.ig h1 Z fD Z Z ?_));refine B1 hf fun x1 h2 hf=>U 2 Z (CL Z (Dn _ h2 (J 1 Z (C hf Z (fun h3 hf=>?_) fun h3 hf=>?_))))
 ·replace hf:=(JQ _).trans hf;obtain⟨x2,x3,x4,h4,hf⟩:=nH hf;refine W 2 Z (CL Z (XA _ _ h4 ?_));cases hf;exact Rx 6 [0] Z Z (ZC [0] Z Z h)
 refine B1 hf fun x5 h5 hf=>W 1 Z (CL Z (zU _ h5 (J 1 Z (C hf Z (fun h6 hf=>?_) fun h6 hf=>?_))))
 ·replace hf:=(JQ _).trans hf;obtain⟨x6,x7,x8,h7,hf⟩:=nH hf;refine W 2 Z (CL Z (Tf _ _ h7 ?_));cases hf;exact Rx 6 [0] Z Z (ZC [0] Z Z h)
 refine V 3 Z (C hf Z (fun h8 hf=>?_) fun h8 hf=>?_)
 ·replace hf:=(JQ _).trans hf;obtain⟨x9,EB,La,h9,hf⟩:=nH hf;refine W 2 Z (CL Z (Xz _ _ h9 ?_));cases hf;exact Rx 6 [0] Z Z (ZC [0] Z Z h)
 replace hf:=(JQ _).trans hf;obtain⟨Qf,OY,UQ,h10,hf⟩:=nH hf;refine W 2 Z (CL Z (NV _ _ h10 ?_));cases hf;exact Rx 6 [0] Z Z (ZC [0] Z Z h)
theorem NW(op1:Str)(kL:Int){r0:Int}(hf:uf op1 kL=some r0)(h:Q (.ret (iP r0)) τ):PC 101 [.str op1,iP kL] τ Q:=by
 unfold uf at hf;refine BN 18 [.tmp 4] [0,1] Tryz.func101 Z Z Z Z Z (V 4 Z (C hf Z (fun h1 hf=>?_) fun h1 hf=>?_))
 ·refine V 0 Z (AW.cond Z (fun h2=>?_) (fun h2=>?_))
  ·cases hf;exact M 3 Z (Y Z h)
  cases h1.symm.trans h2
 refine V 2 Z (C hf Z (fun h3 hf=>?_) fun h3 hf=>?_)
 ·cases hf;exact M 3 Z (Y Z h)
 refine V 2 Z (C hf Z (fun h4 hf=>?_) fun h4 hf=>?_)
 ·refine V 0 Z (AW.cond Z (fun h5=>?_) (fun h5=>?_))
  ·refine W 2 Z (AS Z (AO.max2 Z Z Z Z Z ?_));cases hf;exact N 1 Z (Y Z h)
  cases h4.symm.trans h5
 refine V 2 Z (C hf Z (fun h6 hf=>?_) fun h6 hf=>?_)
 ·refine W 2 Z (AS Z (AO.max2 Z Z Z Z Z ?_));cases hf;exact N 1 Z (Y Z h)
 cases hf;exact M 2 Z (Y Z h)
theorem Ti(gB:Str){r0:List aG}{r1 r2:Int}(hf:oo gB=some (r0,r1,r2))(h:Q (.ret (.tuple [.list (List.map aG.cells r0),iP r1,iP r2])) τ):PC 62 [.str gB] τ Q:=by
 unfold oo at hf;refine BN 84 [.tmp 2,.tmp 3,.tmp 4] [0] Tryz.func62 Z Z Z Z Z (W 0 Z (AS Z (AO.jv Z Z (U 3 Z (AS Z (AO.eG Z Z Z Z fD Z (J 1 Z (C hf Z (fun h1 hf=>?_) fun h1 hf=>?_))))))))
 ·refine W 0 Z (AS Z (AO.jv Z Z ?_));cases hf;exact N 2 Z (Y Z h)
 refine W 5 Z (AS Z (AO.adg Z fD Z (fun al8=>(J 0 Z (AW.row 3 116 (LK5 (fun bD v1 CO kL pos1=>[(0,.str gB),(5,.own v1 (List.map aG.cells bD)),(6,.fn 97 []),(7,iP CO),(8,iP kL),(18,pP al8)]) (fun bD v1 CO kL pos1=>[.row v1 (List.map aG.cells bD).length 3 116,.obj al8 (.stringIter ⟨List.toArray gB⟩ pos1)]) (fun dL bD v1 CO kL pos1=>jy gB dL bD CO kL pos1=some (r0,r1,r2)) BIG [] (.slice none 0 0) 0 0 0 Z Z hf (fun _ _ _ _ _ hz=>dH hz) ?_))))));intro dL bD v1 CO kL pos1 hf;rw[jy]at hf;rcases Bool.eq_false_or_eq_true (decide (pos1<gB.length))with h2|h2
 ·replace hf:=pV h2 hf;refine W 0 Z (AS Z (AO.afL (i:=1) Z Z Z h2 (J 1 Z (AW.cond Z (fun h3=>?_) (fun h3=>?_)))))
  ·refine B1 hf fun b1 h5 hf=>W 8 Z (AR.fT 4 26 30 false [0,5,6,7,8,9,10,18] b1 Z Z (fun h4=>?_) (fun h4=>?_) ?_)
   ·refine IF 26 h4 h5 Z fun h5=>?_;refine BR h5 fun x1 h6 h5=>?_;refine U 2 Z (GO Z (AO.call Z _ Z Z alK (NZ _ h6 ?_)));cases h5;exact gy 1 Z (En [30,0,5,6,7,8,9,10,18] Z)
   ·refine IT 26 h4 h5 Z fun h5=>?_;cases h5;exact gy 4 Z (En [30,0,5,6,7,8,9,10,18] Z)
   refine J 0 Z (C hf Z (fun h7 hf=>?_) fun h7 hf=>?_)
   ·exact M 0 Z ⟨bD,v1,CO,kL,(pos1+(dec gB pos1).2),Z,Z,Z,hf⟩
   refine V 2 Z (C hf Z (fun h8 hf=>?_) fun h8 hf=>?_)
   ·refine B1 hf fun afM h9 hf=>W 2 Z (CL Z (Ey _ _ ug 99 [] alJ (fun _ _ hz=>NY _  hz) h9 ?_));exact N 1 Z ⟨bD,v1,afM,kL,(pos1+(dec gB pos1).2),Z,Z,Z,hf⟩
   refine V 2 Z (C hf Z (fun h10 hf=>?_) fun h10 hf=>?_)
   ·refine B1 hf fun b2 h12 hf=>W 3 Z (AR.fT 14 40 54 true [0,5,6,7,8,9,18] b2 Z Z (fun h11=>?_) (fun h11=>?_) ?_)
    ·replace h12:=pV h11 h12;refine Is 40 h11 Z (U 1 Z (GO Z (AO.bI (l:=bD) Z Z Z Z yN Z Z ?_)));refine BR h12 fun b3 oI h12=>?_;refine U 2 Z (AR.fT 9 44 53 false [0,5,6,7,8,9,18,40] b3 Z Z (fun qp=>?_) (fun qp=>?_) ?_)
     ·replace oI:=nU qp oI;refine Is 44 qp Z (U 2 Z (GO Z (AO.bI (l:=bD) Z Z Z Z yN Z Z ?_)));refine B1 oI fun e1 vY oI=>U 1 Z (GO Z (AO.bQ vY Z Z Z Z yN (aG.aV _) Z ?_));cases oI;exact gy 4 Z (En [53,0,5,6,7,8,9,18,40] Z)
     ·refine IT 44 qp oI Z fun oI=>?_;cases oI;exact gy 9 Z (En [53,0,5,6,7,8,9,18,40] Z)
     cases h12;exact gy 1 Z (En [54,0,5,6,7,8,9,18] Z)
    ·refine IF 40 h11 h12 Z fun h12=>?_;cases h12;exact gy 14 Z (En [54,0,5,6,7,8,9,18] Z)
    refine J 0 Z (C hf Z (fun h16 hf=>?_) fun h16 hf=>?_)
    ·refine W 3 rfl (AS rfl (AO.dO (List.map aG.cells [(aG.mk 5 ([]:Str) (pos1:Int))]) rfl M8 rfl rfl rfl (by first|rfl|simp only[List.map,aG.aV]) ?_));refine B1 hf fun xI AZ hf=>AS Z (AO.jO (i:=0) (l:=bD) (m:=[(aG.mk 5 ([]:Str) (pos1:Int))]) AZ Z Z Z Z Z Z Z M8 yN Z Z Z (aG.gG) (aG.cells_one) (by decide) (fun v2 s1 hs1=>?_));cases hs1;exact N 1 Z ⟨xI,v2,CO,kL,(pos1+(dec gB pos1).2),Z,Z,Z,hf⟩
    exact M 0 Z ⟨bD,v1,CO,kL,(pos1+(dec gB pos1).2),Z,Z,Z,hf⟩
   obtain⟨x2,vH,e2,h18,hf⟩:=nH hf;refine W 2 Z (CL Z (UE _ _ h18 (U 4 Z (AS Z (AO.aP Z wN (fun b11=>(Rw 5 [0] Z Z (C hf Z (fun h19 hf=>?_) fun h19 hf=>?_))))))))
   ·refine W 2 Z (AS Z (AO.jv Z Z ?_));cases hf;exact N 2 Z (Y Z h)
   refine Ww 3 [0] Z Z (C hf Z (fun h20 hf=>?_) fun h20 hf=>?_)
   ·refine B1 hf fun afE h21 hf=>Wr 3 [0] rfl rfl (CL rfl (NW _ _ h21 (Rr 3 [0] rfl rfl (AS rfl (AO.dO (List.map aG.cells [x2]) rfl M8 rfl rfl rfl (by first|rfl|simp only[List.map,aG.aV]) ?_)))));refine B1 hf fun ah3 h22 hf=>AS Z (AO.jO (i:=1) (l:=bD) (m:=[x2]) h22 Z Z Z Z Z Z Z M8 yN Z Z Z (aG.gG) (aG.cells_one) (by decide) (fun v3 s2 hs2=>?_));cases hs2;refine gy 3 Z (AR.drop1 ?_);exact N 0 Z ⟨ah3,v3,vH,afE,(pos1+(dec gB pos1).2),Z,Z,Z,hf⟩
   refine Wr 2 [0] rfl rfl (AS rfl (AO.dO (List.map aG.cells [x2]) rfl M8 rfl rfl rfl (by first|rfl|simp only[List.map,aG.aV]) ?_));refine B1 hf fun afB h23 hf=>AS Z (AO.jO (i:=1) (l:=bD) (m:=[x2]) h23 Z Z Z Z Z Z Z M8 yN Z Z Z (aG.gG) (aG.cells_one) (by decide) (fun v4 s3 hs3=>?_));cases hs3;refine gy 3 Z (AR.drop1 ?_);exact N 0 Z ⟨afB,v4,vH,kL,(pos1+(dec gB pos1).2),Z,Z,Z,hf⟩
  cases h3
 replace hf:=nU h2 hf;refine W 0 Z (AS Z (AO.adw (i:=1) Z Z Z h2 (J 1 Z (AW.cond Z (fun J_=>?_) (fun J_=>?_)))))
 ·cases J_
 cases hf;exact M 4 Z (Y Z h)
theorem Gy(c1:UInt8){r0:Bool}(hf:vT c1=some r0)(h:Q (.ret (.bool r0)) τ):PC 388 [.int .u8 (c1.toNat:Int)] τ Q:=by
 unfold vT at hf;refine BN 21 [.tmp 2] [0] Tryz.func388 Z Z Z Z Z (W 4 Z (An 3 5 8 [0] (decide ((c1.toNat:Int)≤122)) Z Z Z Z (U 1 Z (AR.or 7 9 16 [0] (x:=((decide (65≤(c1.toNat:Int)))&&(decide ((c1.toNat:Int)≤90)))) Z Z (fun h2=>?_) (fun h2=>?_) ?_))))
 ·refine Is 9 h2 Z (U 3 Z (An 3 12 15 [0,9] (decide ((c1.toNat:Int)≤90)) Z Z Z Z ?_));exact gy 1 Z (En [16,0] Z)
 ·refine Is 9 h2 Z ?_;exact gy 7 Z (En [16,0] Z)
 refine U 1 Z (On 3 17 20 [] ((c1.toNat:Int)==95) Z Z Z Z ?_);cases hf;exact N 1 Z (Y Z h)
theorem Jb(c1:UInt8){r0:Bool}(hf:om c1=some r0)(h:Q (.ret (.bool r0)) τ):PC 389 [.int .u8 (c1.toNat:Int)] τ Q:=by
 unfold om at hf;refine BN 9 [.tmp 2] [0] Tryz.func389 Z Z Z Z Z (W 4 Z (An 3 5 8 [] (decide ((c1.toNat:Int)≤57)) Z Z Z Z ?_));cases hf;exact N 1 Z (Y Z h)
theorem Kj(s1:Str){r0:Bool}(hf:xA s1=some r0)(h:Q (.ret (.bool r0)) τ):PC 354 [.str s1] τ Q:=by
 unfold xA at hf;refine BN 36 [.tmp 2] [0] Tryz.func354 Z Z Z Z Z (W 2 Z (AS Z (AO.eG Z Z Z Z fD Z (U 2 Z (AR.or 4 7 11 [0] (x:=(decide (64<(s1.length:Int)))) Z Z (fun h1=>?_) (fun h1=>?_) ?_)))))
 ·refine Is 7 h1 Z (U 1 Z (GO Z (AO.eG Z Z Z Z fD Z ?_)));exact gy 2 Z (En [11,0] Z)
 ·refine Is 7 h1 Z ?_;exact gy 4 Z (En [11,0] Z)
 refine B1 hf fun b1 h3 hf=>U 1 Z (AR.fT 5 12 17 false [0] b1 Z Z (fun h2=>?_) (fun h2=>?_) ?_)
 ·refine IF 12 h2 h3 Z fun h3=>?_;refine B1 h3 fun x1 h4 h3=>U 1 Z (GO Z (AO.ig h4 Z fD Z Z ?_));refine B1 h3 fun x2 h5 h3=>GO Z (AO.call Z _ Z Z ajZ (Gy _ h5 ?_));cases h3;exact gy 2 Z (En [17,0] Z)
 ·refine IT 12 h2 h3 Z fun h3=>?_;cases h3;exact gy 5 Z (En [17,0] Z)
 refine J 0 Z (C hf Z (fun h6 hf=>?_) fun h6 hf=>?_)
 ·cases hf;exact M 1 Z (Y Z h)
 refine V 1 Z (XK (fun i1=>[(0,.str s1),(3,iP i1)]) (fun i1=>[]) (fun dL i1=>qI s1 dL i1=some r0) BIG 0 Z Z hf (fun _ hz=>dH hz) ?_);intro dL i1 hf;rw[qI]at hf;refine W 2 Z (AS Z (AO.eG Z Z Z Z fD Z (J 1 Z (C hf Z (fun h7 hf=>?_) fun h7 hf=>?_))))
 ·refine B1 hf fun x3 h8 hf=>W 2 Z (AS Z (AO.ig h8 Z fD Z Z ?_));refine B1 hf fun x4 h9 hf=>CL Z (Gy _ h9 ?_);refine B1 hf fun b2 h11 hf=>U 2 Z (AR.fT 6 29 35 true [0,3] b2 Z Z (fun h10=>?_) (fun h10=>?_) ?_)
  ·refine IT 29 h10 h11 Z fun h11=>?_;refine B1 h11 fun x5 h12 h11=>U 2 Z (GO Z (AO.ig h12 Z fD Z Z ?_));refine B1 h11 fun x6 qp h11=>GO Z (AO.call Z _ Z Z ajY (Jb _ qp ?_));cases h11;exact gy 2 Z (En [35,0,3] Z)
  ·refine IF 29 h10 h11 Z fun h11=>?_;cases h11;exact gy 6 Z (En [35,0,3] Z)
  refine J 0 Z (C hf Z (fun oI hf=>?_) fun oI hf=>?_)
  ·cases hf;exact M 1 Z (Y Z h)
  exact M 3 Z ⟨(bV (i1+1)),Z,Z,Z,hf⟩
 cases hf;exact M 1 Z (Y Z h)
section
variable [BZ]
def adH:Go.Shelf.Ren:=⟨fun|171=>203|243=>277|246=>336|283=>374|284=>375|285=>376|286=>377|129=>297|317=>404|318=>405|319=>406|320=>407|337=>428|338=>429|n=>n,fun|3=>3|9=>9|2=>2|4=>4|171=>310|0=>0|53=>271|37=>68|5=>5|173=>312|212=>334|51=>269|20=>20|213=>335|46=>218|232=>358|233=>359|n=>n,fun|17=>3|18=>4|19=>5|n=>n⟩
theorem al7:Go.Proofs.LaysM.n171 Tryz.prog adH:=by repeat' first|(intros;kernel_rfl)|constructor|decide
theorem I_(n1:Int){r0:Str}(hf:strconv_Itoa n1=some r0)(h:Q (.ret (.str r0)) τ):PC 203 [iP n1] τ Q:=by
 unfold strconv_Itoa at hf;split at hf
 case isFalse=>cases hf
 rename_i hg;cases hf;refine AC.none ?_;exact AC.itoa BZ.hD al7 hg.1 hg.2 BZ.pow h
end
section
variable [BZ]
def aec:Go.Shelf.Ren:=⟨fun|172=>390|244=>415|245=>416|247=>433|279=>434|280=>435|281=>436|282=>437|287=>441|316=>442|171=>203|205=>443|321=>445|322=>446|243=>277|246=>336|283=>374|284=>375|285=>376|286=>377|129=>297|317=>404|318=>405|319=>406|320=>407|337=>428|338=>429|n=>n,fun|9=>9|3=>3|75=>77|76=>86|4=>4|5=>5|167=>350|37=>68|0=>0|85=>351|2=>2|168=>353|53=>271|175=>360|46=>218|210=>363|127=>124|145=>369|143=>367|21=>21|171=>310|173=>312|212=>334|51=>269|20=>20|213=>335|232=>358|233=>359|80=>69|n=>n,fun|15=>6|16=>7|17=>3|18=>4|19=>5|n=>n⟩
theorem amy:Go.Proofs.LaysC.n172 Tryz.prog aec:=by repeat' first|(intros;kernel_rfl)|constructor|decide
theorem Dl(s1:Str){r0:Int}{r1:Option Nat}(hf:strconv_Atoi s1=some (r0,r1))(h:Q (.ret (.tuple [iP r0,.err r1])) τ):PC 390 [.str s1] τ Q:=by
 unfold strconv_Atoi at hf;split at hf
 case isFalse=>cases hf
 rename_i hg;cases hf;refine AC.none ?_;exact AC.atoi BZ.hD amy hg Z BZ.syn BZ.rng h
end
section
variable [BZ]
theorem NU(s1:Str){r0:Bool}(hf:tY s1=some r0)(h:Q (.ret (.bool r0)) τ):PC 384 [.str s1] τ Q:=by
 unfold tY at hf;refine BN 40 [.tmp 2] [0] Tryz.func384 Z Z Z Z Z ?_;refine B1 hf fun b1 h2 hf=>W 4 Z (AR.fT 9 8 17 false [0] b1 Z Z (fun h1=>?_) (fun h1=>?_) ?_)
 ·replace h2:=nU h1 h2;refine Is 8 h1 Z (U 1 Z (GO Z (AO.eG Z Z Z Z fD Z ?_)));refine BR h2 fun b2 h4 h2=>?_;refine U 2 Z (AR.fT 4 12 16 true [0,8] b2 Z Z (fun h3=>?_) (fun h3=>?_) ?_)
  ·refine IT 12 h3 h4 Z fun h4=>?_;refine B1 h4 fun x1 h5 h4=>U 1 Z (GO Z (AO.ig h5 Z fD Z Z ?_));cases h4;exact gy 2 Z (En [16,0,8] Z)
  ·refine IF 12 h3 h4 Z fun h4=>?_;cases h4;exact gy 4 Z (En [16,0,8] Z)
  cases h2;exact gy 1 Z (En [17,0] Z)
 ·refine IT 8 h1 h2 Z fun h2=>?_;cases h2;exact gy 9 Z (En [17,0] Z)
 refine J 0 Z (C hf Z (fun h6 hf=>?_) fun h6 hf=>?_)
 ·cases hf;exact M 1 Z (Y Z h)
 refine V 1 Z (XK (fun i1=>[(0,.str s1),(3,iP i1)]) (fun i1=>[]) (fun dL i1=>lX s1 dL i1=some r0) BIG 0 Z Z hf (fun _ hz=>dH hz) ?_);intro dL i1 hf;rw[lX]at hf;refine W 2 Z (AS Z (AO.eG Z Z Z Z fD Z (J 1 Z (C hf Z (fun h7 hf=>?_) fun h7 hf=>?_))))
 ·refine B1 hf fun x2 h8 hf=>W 2 Z (AS Z (AO.ig h8 Z fD Z Z ?_));refine B1 hf fun x3 h9 hf=>CL Z (Jb _ h9 (J 1 Z (C hf Z (fun h10 hf=>?_) fun h10 hf=>?_)))
  ·cases hf;exact M 1 Z (Y Z h)
  exact M 3 Z ⟨(bV (i1+1)),Z,Z,Z,hf⟩
 obtain⟨n1,Sq,h11,hf⟩:=dD hf;refine W 1 Z (CL Z (Dl _ h11 (U 6 Z (AS Z (AO.eqNil Z ajk Z Z (U 1 Z (An 3 36 39 [] (decide (n1≤9007199254740992)) Z Z Z Z ?_)))))));cases hf;exact N 1 Z (Y Z h)
end
section
variable [BZ]
theorem Uy(t1:aG){r0:Bool}(hf:jQ t1=some r0)(h:Q (.ret (.bool r0)) τ):PC 351 [.agg (xD t1)] τ Q:=by
 unfold jQ at hf;refine BN 23 [.tmp 2] [0] Tryz.func351 Z Z Z Z Z (V 6 Z (C hf Z (fun h1 hf=>?_) fun h1 hf=>?_))
 ·refine BR hf fun x1 h2 hf=>?_;refine W 2 Z (CL Z (Kj _ h2 ?_));cases hf;exact N 1 Z (Y Z h)
 refine V 2 Z (C hf Z (fun h3 hf=>?_) fun h3 hf=>?_)
 ·refine BR hf fun x2 h4 hf=>?_;refine W 2 Z (CL Z (NU _ h4 ?_));cases hf;exact N 1 Z (Y Z h)
 refine V 2 Z (C hf Z (fun h5 hf=>?_) fun h5 hf=>?_)
 ·refine W 2 Z (AS Z (AO.eG Z Z Z Z fD Z ?_));cases hf;exact N 2 Z (Y Z h)
 refine V 2 Z (C hf Z (fun h6 hf=>?_) fun h6 hf=>?_)
 ·cases hf;exact M 1 Z (Y Z h)
 cases hf;exact M 1 Z (Y Z h)
end
section
variable [BZ]
theorem qb(p1:Nat)(o9:au){r0:aG}{o8:au}(hf:jR o9=some (r0,o8)){Q:eP→List bC→Prop}(h:Q (.ret (.agg (xD r0))) [.box p1 (aW o8)]):PC 312 [pP p1] [.box p1 (aW o9)] Q:=by
 unfold jR at hf;refine BD 37 [.cell 2 116] [0] Tryz.func312 Z Z Z Z Z (W 0 Z (AS Z (AO.aP Z wN (fun b2=>(J 0 Z (AW.draw 23 mixed (by kernel_rfl) Z ?_))))));refine Ev.cs dK 3 Z (Ev.cons Z Z Z (AO.dh (i:=1) Z Z Z Cv Z Z zg) (Ev.cs dK 3 Z (Ev.cons Z Z Z (AO.dh (i:=1) Z Z Z Wm Z Z zg) ?_)));refine Ev.cons Z Z Z (AO.bI (l:=o9.ts) Z Z Z Z yN Z Z zg) (Ev.cs dK 2 Z ?_);refine B1 hf fun b1 h2 hf=>Ev.fT hKA 12 13 25 true [0,2] (.bool b1) Z Z (fun h1=>?_) (fun h1=>?_) ?_
 ·replace h2:=pV h1 h2;refine Ev.is hKL 13 h1 Z (Ev.cs dK 3 Z (Ev.run Z Z Z Z Z Z Z (AO.dh (i:=1) Z Z Z Wm Z Z zg) (Ev.cs dK 3 Z ?_)));refine Ev.run Z Z Z Z Z Z Z (AO.dh (i:=1) Z Z Z Cv Z Z zg) ?_;refine B1 h2 fun e1 h3 h2=>Ev.run Z Z Z Z Z Z Z (AO.bQ h3 Z Z Z Z yN (aG.aV _) Z zg) (Ev.cs dK 1 Z ?_);refine BR h2 fun x1 h4 h2=>?_;refine Ev.run Z Z Z Z Z Z Z (AO.call Z _ Z Z aj2 (Uy _ h4 zg)) ?_;cases h2;refine Ev.cs dK 1 Z ?_;exact Ev.nil (Less.settle (ps:=[25,0,2]) Z)
 ·replace h2:=nU h1 h2;refine Ev.is hKL 13 h1 Z ?_;cases h2;refine Ev.cs dK 12 Z ?_;exact Ev.nil (Less.settle (ps:=[25,0,2]) Z)
 refine Ev.nil ?_;show AR _ _ _ _ _ _ _ _;refine J 0 Z (C hf Z (fun h5 hf=>?_) fun h5 hf=>?_)
 ·refine V 0 Z (AW.draw 10 mixed (by kernel_rfl) Z ?_);refine Ev.cs dK 3 Z (Ev.cons Z Z Z (AO.dh (i:=1) Z Z Z Wm Z Z zg) (Ev.cs dK 3 Z (Ev.cons Z Z Z (AO.dh (i:=1) Z Z Z Cv Z Z zg) ?_)));refine B1 hf fun e2 h6 hf=>Ev.cons Z Z Z (AO.bQ h6 Z Z Z Z yN (aG.aV _) Z zg) (Ev.cs dK 1 Z (Ev.nil ?_));show AR _ _ _ _ _ _ _ _;cases hf;exact Rx 1 [0] rfl rfl ⟨rfl,_,⟨_,_,rfl,⟨_,_,0,_,_,rfl,rfl,MW,rfl⟩,rfl⟩,_,(.cons _ (.cons_cons _ (apZ _))),h⟩
 cases hf;exact Wx 2 [0] rfl rfl ⟨rfl,_,⟨_,_,rfl,⟨_,_,0,_,_,rfl,rfl,MW,rfl⟩,rfl⟩,_,(.cons _ (.cons_cons _ (apZ _))),h⟩
end
section
variable [BZ]
theorem K6(p1:Nat)(o9:au)(op1:Str){r0:Bool}{o8:au}(hf:uW o9 op1=some (r0,o8)){Q:eP→List bC→Prop}(h:Q (.ret (.bool r0)) [.box p1 (aW o8)]):PC 313 [pP p1,.str op1] [.box p1 (aW o9)] Q:=by
 unfold uW at hf;refine BD 17 [.tmp 4] [0,1] Tryz.func313 Z Z Z Z Z ?_;obtain⟨x1,y1,h1,hf⟩:=dD hf;refine W 2 Z (CL Z (AC.one 0 Z (qb _ _ h1 ⟨_,Z,(AS Z (AO.aP Z wN (fun b5=>(Rr 5 [0,0] Z Z (AR.and 5 11 16 [] (x:=(x1.text==op1)) Z Z (fun h2=>?_) (fun h2=>?_) ?_)))))⟩)))
 ·refine Is 11 h2 Z (U 1 Z (GO Z (AO.dh (i:=0) Z Z Z ac0 Z Z ?_)));exact gy 3 Z (En [16] Z)
 ·refine Is 11 h2 Z ?_;exact gy 5 Z (En [16] Z)
 cases hf;exact N 1 rfl ⟨rfl,_,⟨_,_,rfl,rfl,rfl⟩,_,(.cons _ (.cons_cons _ (apZ _))),h⟩
end
section
variable [BZ]
theorem eH(p1:Nat)(o9:au)(op1:Str){r0:Bool}{o8:au}(hf:dN o9 op1=some (r0,o8)){Q:eP→List bC→Prop}(h:Q (.ret (.bool r0)) [.box p1 (aW o8)]):PC 245 [pP p1,.str op1] [.box p1 (aW o9)] Q:=by
 unfold dN at hf;refine BD 16 [.tmp 4] [0,1] Tryz.func245 Z Z Z Z Z ?_;obtain⟨x1,y1,h1,hf⟩:=dD hf;refine W 3 Z (CL Z (AC.one 0 Z (K6 _ _ _ h1 ⟨_,Z,(J 1 Z (C hf Z (fun h2 hf=>?_) fun h2 hf=>?_))⟩)))
 ·cases hf;exact M 1 rfl ⟨rfl,_,⟨_,_,rfl,rfl,rfl⟩,_,(.cons_cons _ (apZ _)),h⟩
 cases hf;exact Wx 9 [0,0] rfl rfl ⟨rfl,_,⟨_,_,rfl,rfl,rfl⟩,_,(.cons_cons _ (apZ _)),h⟩
end
@[reducible] def G6:eX ay Unit→eP
 | .ok r=>.ret (.tuple [])
 | .bad e=>.panic (.iface 189 (.agg (jT e)))
theorem fB(p1:Nat)(o9:au)(e1:Int){rX:eX ay Unit}{o8:au}(hf:iq o9 e1=some (rX,o8)){Q:eP→List bC→Prop}(h:Q (G6 rX) [.box p1 (aW o8)]):PC 315 [pP p1,iP e1] [.box p1 (aW o9)] Q:=by
 unfold iq at hf;refine BD 11 [] [0,1] Tryz.func315 Z Z Z Z Z (Wr 6 [0] Z Z (AS Z (AO.ab7 Z akB Z (AR.dx Z Z (AO.afz Z Z ?_)))));cases hf;exact⟨rfl,_,(.cons_cons _ (apZ _)),h⟩
section
variable [BZ]
@[reducible] def G5:eX ay aG→eP
 | .ok r=>.ret (.agg (xD r))
 | .bad e=>.panic (.iface 189 (.agg (jT e)))
theorem jf(p1:Nat)(o9:au){rX:eX ay aG}{o8:au}(hf:jS o9=some (rX,o8)){Q:eP→List bC→Prop}(h:Q (G5 rX) [.box p1 (aW o8)]):PC 314 [pP p1] [.box p1 (aW o9)] Q:=by
 unfold jS at hf;refine BD 24 [.cell 2 116] [0] Tryz.func314 Z Z Z Z Z (W 0 Z (AS Z (AO.aP Z wN (fun b2=>(J 0 Z (AW.draw 10 mixed (by kernel_rfl) Z ?_))))));refine Ev.cs dK 3 Z (Ev.cons Z Z Z (AO.dh (i:=1) Z Z Z Cv Z Z zg) (Ev.cs dK 3 Z (Ev.cons Z Z Z (AO.dh (i:=1) Z Z Z Wm Z Z zg) ?_)));refine Ev.cons Z Z Z (AO.bI (l:=o9.ts) Z Z Z Z yN Z Z zg) (Ev.cs dK 1 Z (Ev.nil ?_));show AR _ _ _ _ _ _ _ _;refine J 0 Z (C hf Z (fun h1 hf=>?_) fun h1 hf=>?_)
 ·rcases dY hf with⟨e1,y2,h2,hf⟩|⟨_,y1,h2,hf⟩
  ·refine W 1 Z (CL Z (AC.one 1 Z (fB _ _ _ h2 ⟨_,Z,?_⟩)));cases hf;exact⟨rfl,_,(.cons _ (.cons_cons _ (apZ _))),h⟩
  refine W 1 Z (CL Z (AC.one 1 Z (fB _ _ _ h2 ⟨_,Z,?_⟩)));obtain⟨x1,y3,h3,hf⟩:=dD hf;refine U 1 Z (CL Z (AC.one 1 Z (qb _ _ h3 ⟨_,Z,(AS Z (AO.aP Z wN (fun b3=>(Rw 4 [0,0] Z Z (C hf Z (fun h4 hf=>?_) fun h4 hf=>?_)))))⟩)))
  ·rcases dY hf with⟨e2,y5,h5,hf⟩|⟨_,y4,h5,hf⟩
   ·refine W 1 Z (CL Z (AC.one 2 Z (fB _ _ _ h5 ⟨_,Z,?_⟩)));cases hf;exact⟨rfl,_,(.cons _ (.cons _ (.cons_cons _ (apZ _)))),h⟩
   refine W 1 Z (CL Z (AC.one 2 Z (fB _ _ _ h5 ⟨_,Z,?_⟩)));cases hf;exact Rx 2 [0,1] rfl rfl ⟨rfl,_,⟨_,_,rfl,⟨_,_,1,_,_,rfl,rfl,MW,rfl⟩,rfl⟩,_,(.cons _ (.cons _ (.cons_cons _ (apZ _)))),h⟩
  cases hf;exact Wx 2 [0,1] rfl rfl ⟨rfl,_,⟨_,_,rfl,⟨_,_,1,_,_,rfl,rfl,MW,rfl⟩,rfl⟩,_,(.cons _ (.cons _ (.cons_cons _ (apZ _)))),h⟩
 obtain⟨x2,y6,h6,hf⟩:=dD hf;refine W 1 Z (CL Z (AC.one 1 Z (qb _ _ h6 ⟨_,Z,(AS Z (AO.aP Z wN (fun ao3=>(Rw 4 [0,0] Z Z (C hf Z (fun h7 hf=>?_) fun h7 hf=>?_)))))⟩)))
 ·rcases dY hf with⟨e3,y8,h8,hf⟩|⟨_,y7,h8,hf⟩
  ·refine W 1 Z (CL Z (AC.one 2 Z (fB _ _ _ h8 ⟨_,Z,?_⟩)));cases hf;exact⟨rfl,_,(.cons _ (.cons _ (.cons_cons _ (apZ _)))),h⟩
  refine W 1 Z (CL Z (AC.one 2 Z (fB _ _ _ h8 ⟨_,Z,?_⟩)));cases hf;exact Rx 2 [0,1] rfl rfl ⟨rfl,_,⟨_,_,rfl,⟨_,_,1,_,_,rfl,rfl,MW,rfl⟩,rfl⟩,_,(.cons _ (.cons _ (.cons_cons _ (apZ _)))),h⟩
 cases hf;exact Wx 2 [0,1] rfl rfl ⟨rfl,_,⟨_,_,rfl,⟨_,_,1,_,_,rfl,rfl,MW,rfl⟩,rfl⟩,_,(.cons _ (.cons _ (.cons_cons _ (apZ _)))),h⟩
end
theorem vo(v1:ah){r0:ak}(hf:qJ v1=some r0)(h:Q (.ret (.agg (cZ r0))) τ):PC 410 [.agg (aX v1)] τ Q:=by
 unfold qJ at hf;refine BN 5 [.cell 2 37] [0] Tryz.func410 Z Z Z Z Z (W 1 Z (AS Z (AO.aP Z nR (fun b2=>?_))));cases hf;exact Rx 3 [0] Z Z (ZC [0] Z Z h)
theorem Ew(s1:Str){r0:Bool}(hf:pK s1=some r0)(h:Q (.ret (.bool r0)) τ):PC 355 [.str s1] τ Q:=by
 unfold pK at hf;refine BN 13 [.tmp 2] [0] Tryz.func355 Z Z Z Z Z (W 4 Z (On 3 5 8 [0] (s1==([102,97,108,115,101]:Str)) Z Z Z Z (U 1 Z (On 3 9 12 [] (s1==([110,117,108,108]:Str)) Z Z Z Z ?_))));cases hf;exact N 1 Z (Y Z h)
section
variable [BZ]
@[reducible] def Fa:eX ay Unit→eP
 | .ok r=>.ret (.tuple [])
 | .bad e=>.panic (.iface 189 (.agg (jT e)))
theorem dQ(p1:Nat)(o9:au)(op1:Str){rX:eX ay Unit}{o8:au}(hf:fQ o9 op1=some (rX,o8)){Q:eP→List bC→Prop}(h:Q (Fa rX) [.box p1 (aW o8)]):PC 246 [pP p1,.str op1] [.box p1 (aW o9)] Q:=by
 unfold fQ at hf;refine BD 12 [] [0,1] Tryz.func246 Z Z Z Z Z ?_;rcases dY hf with⟨e1,y2,h1,hf⟩|⟨x1,y1,h1,hf⟩
 ·refine W 1 Z (CL Z (AC.one 0 Z (jf _ _ h1 ⟨_,Z,?_⟩)));cases hf;exact⟨rfl,_,(.cons_cons _ (apZ _)),h⟩
 refine W 1 Z (CL Z (AC.one 0 Z (jf _ _ h1 ⟨_,Z,?_⟩)));obtain⟨x2,y3,h2,hf⟩:=dD hf;refine U 2 Z (CL Z (AC.one 0 Z (eH _ _ _ h2 ⟨_,Z,(J 1 Z (C hf Z (fun h3 hf=>?_) fun h3 hf=>?_))⟩)))
 ·rcases dY hf with⟨e2,y5,h4,hf⟩|⟨_,y4,h4,hf⟩
  ·refine W 1 Z (CL Z (AC.one 0 Z (fB _ _ _ h4 ⟨_,Z,?_⟩)));cases hf;exact⟨rfl,_,(.cons_cons _ (apZ _)),h⟩
  refine W 1 Z (CL Z (AC.one 0 Z (fB _ _ _ h4 ⟨_,Z,?_⟩)));cases hf;exact N 0 rfl ⟨rfl,_,rfl,_,(.cons_cons _ (apZ _)),h⟩
 cases hf;exact M 0 rfl ⟨rfl,_,rfl,_,(.cons_cons _ (apZ _)),h⟩
end
theorem sW(op1:Str){r0:Int}(hf:fO op1=some r0)(h:Q (.ret (iP r0)) τ):PC 113 [.str op1] τ Q:=by
 unfold fO at hf;refine BN 22 [.tmp 2] [0] Tryz.func113 Z Z Z Z Z (V 4 Z (C hf Z (fun h1 hf=>?_) fun h1 hf=>?_))
 ·cases hf;exact M 1 Z (Y Z h)
 refine V 2 Z (C hf Z (fun h2 hf=>?_) fun h2 hf=>?_)
 ·cases hf;exact M 1 Z (Y Z h)
 refine V 2 Z (C hf Z (fun h3 hf=>?_) fun h3 hf=>?_)
 ·refine V 0 Z (AW.cond Z (fun h4=>?_) (fun h4=>?_))
  ·cases hf;exact M 1 Z (Y Z h)
  cases h3.symm.trans h4
 refine V 2 Z (C hf Z (fun h5 hf=>?_) fun h5 hf=>?_)
 ·refine V 0 Z (AW.cond Z (fun h6=>?_) (fun h6=>?_))
  ·cases hf;exact M 1 Z (Y Z h)
  cases h5.symm.trans h6
 refine V 2 Z (C hf Z (fun h7 hf=>?_) fun h7 hf=>?_)
 ·refine V 0 Z (AW.cond Z (fun h8=>?_) (fun h8=>?_))
  ·cases hf;exact M 1 Z (Y Z h)
  cases h7.symm.trans h8
 refine V 2 Z (C hf Z (fun h9 hf=>?_) fun h9 hf=>?_)
 ·refine V 0 Z (AW.cond Z (fun h10=>?_) (fun h10=>?_))
  ·cases hf;exact M 1 Z (Y Z h)
  cases h9.symm.trans h10
 refine V 2 Z (C hf Z (fun h11 hf=>?_) fun h11 hf=>?_)
 ·refine V 0 Z (AW.cond Z (fun h12=>?_) (fun h12=>?_))
  ·cases hf;exact M 1 Z (Y Z h)
  cases h11.symm.trans h12
 refine V 2 Z (C hf Z (fun qp hf=>?_) fun qp hf=>?_)
 ·cases hf;exact M 1 Z (Y Z h)
 refine V 2 Z (C hf Z (fun oI hf=>?_) fun oI hf=>?_)
 ·refine V 0 Z (AW.cond Z (fun vY=>?_) (fun vY=>?_))
  ·cases hf;exact M 1 Z (Y Z h)
  cases oI.symm.trans vY
 refine V 2 Z (C hf Z (fun h16 hf=>?_) fun h16 hf=>?_)
 ·cases hf;exact M 1 Z (Y Z h)
 refine V 2 Z (C hf Z (fun AZ hf=>?_) fun AZ hf=>?_)
 ·refine V 0 Z (AW.cond Z (fun h18=>?_) (fun h18=>?_))
  ·cases hf;exact M 1 Z (Y Z h)
  cases AZ.symm.trans h18
 refine V 2 Z (C hf Z (fun h19 hf=>?_) fun h19 hf=>?_)
 ·refine V 0 Z (AW.cond Z (fun h20=>?_) (fun h20=>?_))
  ·cases hf;exact M 1 Z (Y Z h)
  cases h19.symm.trans h20
 refine V 2 Z (C hf Z (fun h21 hf=>?_) fun h21 hf=>?_)
 ·cases hf;exact M 1 Z (Y Z h)
 cases hf;exact M 1 Z (Y Z h)
section
variable [BZ]
@[reducible] def pz:eX ay ak→eP
 | .ok r=>.ret (.agg (cZ r))
 | .bad e=>.panic (.iface 189 (.agg (jT e)))
@[reducible] def pq:eX ay ak→eP
 | .ok r=>.ret (.agg (cZ r))
 | .bad e=>.panic (.iface 189 (.agg (jT e)))
@[reducible] def sM:eX ay ak→eP
 | .ok r=>.ret (.agg (cZ r))
 | .bad e=>.panic (.iface 189 (.agg (jT e)))
@[reducible] def sN:eX ay ak→eP
 | .ok r=>.ret (.agg (cZ r))
 | .bad e=>.panic (.iface 189 (.agg (jT e)))
@[reducible] def tH:eX ay ak→eP
 | .ok r=>.ret (.agg (cZ r))
 | .bad e=>.panic (.iface 189 (.agg (jT e)))
@[reducible] def tF:eX ay ak→eP
 | .ok r=>.ret (.agg (cZ r))
 | .bad e=>.panic (.iface 189 (.agg (jT e)))
@[reducible] def tJ:eX ay (List ak)→eP
 | .ok r=>.ret (.list (ak.bO r))
 | .bad e=>.panic (.iface 189 (.agg (jT e)))
@[reducible] def qB:eX ay ak→eP
 | .ok r=>.ret (.agg (cZ r))
 | .bad e=>.panic (.iface 189 (.agg (jT e)))
abbrev gq(aD:au→Option (eX ay ak × au)):Prop:=∀(ql:Nat) (gT:au) {fq:eX ay ak} {iQ:au},aD gT=some (fq,iQ)→∀ {Q:eP→List bC→Prop} (h:Q (pz fq) [.box ql (aW iQ)]),PC 173 [pP ql] [.box ql (aW gT)] Q
abbrev f_(aO:au→Int→Option (eX ay ak × au)):Prop:=∀(ql:Nat) (gT:au) (ZW:Int) {fq:eX ay ak} {iQ:au},aO gT ZW=some (fq,iQ)→∀ {Q:eP→List bC→Prop} (h:Q (pq fq) [.box ql (aW iQ)]),PC 244 [pP ql,iP ZW] [.box ql (aW gT)] Q
abbrev iy(aS:au→Option (eX ay ak × au)):Prop:=∀(ql:Nat) (gT:au) {fq:eX ay ak} {iQ:au},aS gT=some (fq,iQ)→∀ {Q:eP→List bC→Prop} (h:Q (sM fq) [.box ql (aW iQ)]),PC 311 [pP ql] [.box ql (aW gT)] Q
abbrev iA(aT:au→Option (eX ay ak × au)):Prop:=∀(ql:Nat) (gT:au) {fq:eX ay ak} {iQ:au},aT gT=some (fq,iQ)→∀ {Q:eP→List bC→Prop} (h:Q (sN fq) [.box ql (aW iQ)]),PC 350 [pP ql] [.box ql (aW gT)] Q
abbrev iJ(bq:au→Option (eX ay ak × au)):Prop:=∀(ql:Nat) (gT:au) {fq:eX ay ak} {iQ:au},bq gT=some (fq,iQ)→∀ {Q:eP→List bC→Prop} (h:Q (tH fq) [.box ql (aW iQ)]),PC 383 [pP ql] [.box ql (aW gT)] Q
abbrev iI(bn:au→Str→Option (eX ay ak × au)):Prop:=∀(ql:Nat) (gT:au) (rZ:Str) {fq:eX ay ak} {iQ:au},bn gT rZ=some (fq,iQ)→∀ {Q:eP→List bC→Prop} (h:Q (tF fq) [.box ql (aW iQ)]),PC 411 [pP ql,.str rZ] [.box ql (aW gT)] Q
abbrev iK(bf:au→Str→Option (eX ay (List ak) × au)):Prop:=∀(ql:Nat) (gT:au) (Gj:Str) {fq:eX ay (List ak)} {iQ:au},bf gT Gj=some (fq,iQ)→∀ {Q:eP→List bC→Prop} (h:Q (tJ fq) [.box ql (aW iQ)]),PC 412 [pP ql,.str Gj] [.box ql (aW gT)] Q
abbrev gQ(aU:au→Option (eX ay ak × au)):Prop:=∀(ql:Nat) (gT:au) {fq:eX ay ak} {iQ:au},aU gT=some (fq,iQ)→∀ {Q:eP→List bC→Prop} (h:Q (qB fq) [.box ql (aW iQ)]),PC 413 [pP ql] [.box ql (aW gT)] Q
theorem Dw(aD)(bH:gq aD)(aO)(dM:f_ aO)(aS)(fF:iy aS)(aT)(gN:iA aT)(bq)(gZ:iJ bq)(bn)(gY:iI bn)(bf)(fJ:iK bf)(aU)(fZ:gQ aU)(p1:Nat)(o9:au){rX:eX ay ak}{o8:au}(hf:mq aD aO aS aT bq bn bf aU o9=some (rX,o8)){Q:eP→List bC→Prop}(h:Q (pz rX) [.box p1 (aW o8)]):PC 173 [pP p1] [.box p1 (aW o9)] Q:=by
 unfold mq at hf;refine BD 23 [.cell 2 37] [0] Tryz.func173 Z Z Z Z Z (W 0 Z (AS Z (AO.aP Z nR (fun b2=>?_))));rcases dY hf with⟨e1,y2,h1,hf⟩|⟨x1,y1,h1,hf⟩
 ·refine U 1 Z (CL Z (AC.one 1 Z (dM _ _ _ h1 ⟨_,Z,?_⟩)));cases hf;exact⟨rfl,_,(.cons _ (.cons_cons _ (apZ _))),h⟩
 refine U 1 Z (CL Z (AC.one 1 Z (dM _ _ _ h1 ⟨_,Z,(AS Z (AO.aP Z nR (fun b3=>?_)))⟩)));obtain⟨x2,y3,h2,hf⟩:=dD hf;refine Rr 2 [0] Z Z (CL Z (AC.one 2 Z (eH _ _ _ h2 ⟨_,Z,(J 1 Z (C hf Z (fun h3 hf=>?_) fun h3 hf=>?_))⟩)))
 ·cases hf;exact Wx 2 [0,1] rfl rfl ⟨rfl,_,⟨_,_,rfl,⟨_,_,1,_,_,rfl,rfl,lG,rfl⟩,rfl⟩,_,(.cons _ (.cons _ (.cons_cons _ (apZ _)))),h⟩
 rcases dY hf with⟨e2,y5,h4,hf⟩|⟨x3,y4,h4,hf⟩
 ·refine W 1 Z (CL Z (AC.one 2 Z (bH _ _ h4 ⟨_,Z,?_⟩)));cases hf;exact⟨rfl,_,(.cons _ (.cons _ (.cons_cons _ (apZ _)))),h⟩
 refine W 1 Z (CL Z (AC.one 2 Z (bH _ _ h4 ⟨_,Z,(AS Z (AO.aP Z nR (fun b4=>?_)))⟩)));rcases dY hf with⟨e3,y7,h5,hf⟩|⟨_,y6,h5,hf⟩
 ·refine Rr 2 [0] Z Z (CL Z (AC.one 3 Z (dQ _ _ _ h5 ⟨_,Z,?_⟩)));cases hf;exact⟨rfl,_,(.cons _ (.cons _ (.cons _ (.cons_cons _ (apZ _))))),h⟩
 refine Rr 2 [0] Z Z (CL Z (AC.one 3 Z (dQ _ _ _ h5 ⟨_,Z,?_⟩)));rcases dY hf with⟨e4,y9,h6,hf⟩|⟨x4,y8,h6,hf⟩
 ·refine U 1 Z (CL Z (AC.one 3 Z (bH _ _ h6 ⟨_,Z,?_⟩)));cases hf;exact⟨rfl,_,(.cons _ (.cons _ (.cons _ (.cons_cons _ (apZ _))))),h⟩
 refine U 1 rfl (CL rfl (AC.one 3 rfl (bH _ _ h6 ⟨_,rfl,(AS rfl (AO.aP rfl nR (fun b5=>(Rr 4 [0,2,1,0] rfl rfl (AS rfl (AO.dO (ak.bO [x1,x3,x4]) rfl DC rfl rfl rfl (by first|rfl|simp only[ak.aV,ak.bO]) ?_))))))⟩)));cases hf;exact Rx 2 [3] rfl rfl ⟨rfl,_,⟨_,_,rfl,⟨_,_,3,_,_,rfl,rfl,lG,rfl⟩,rfl⟩,_,(.cons _ (.cons _ (.cons _ (.cons _ (.cons_cons _ (apZ _)))))),h⟩
theorem Dv(aD)(bH:gq aD)(aO)(dM:f_ aO)(aS)(fF:iy aS)(aT)(gN:iA aT)(bq)(gZ:iJ bq)(bn)(gY:iI bn)(bf)(fJ:iK bf)(aU)(fZ:gQ aU)(p1:Nat)(o9:au)(n1:Int){rX:eX ay ak}{o8:au}(hf:kK aD aO aS aT bq bn bf aU o9 n1=some (rX,o8)){Q:eP→List bC→Prop}(h:Q (pq rX) [.box p1 (aW o8)]):PC 244 [pP p1,iP n1] [.box p1 (aW o9)] Q:=by
 unfold kK at hf;refine BD 47 [.cell 4 37] [0,1] Tryz.func244 Z Z Z Z Z (W 0 Z (AS Z (AO.aP Z nR (fun b4=>(J 2 Z (C hf Z (fun h1 hf=>?_) fun h1 hf=>?_))))))
 ·rcases dY hf with⟨e1,y2,h2,hf⟩|⟨x1,y1,h2,hf⟩
  ·refine W 1 Z (CL Z (AC.one 1 Z (fF _ _ h2 ⟨_,Z,?_⟩)));cases hf;exact⟨rfl,_,(.cons _ (.cons_cons _ (apZ _))),h⟩
  refine W 1 Z (CL Z (AC.one 1 Z (fF _ _ h2 ⟨_,Z,?_⟩)));cases hf;exact Rx 1 [0] rfl rfl ⟨rfl,_,⟨_,_,rfl,⟨_,_,0,_,_,rfl,rfl,lG,rfl⟩,rfl⟩,_,(.cons _ (.cons_cons _ (apZ _))),h⟩
 rcases dY hf with⟨e2,y4,h3,hf⟩|⟨x2,y3,h3,hf⟩
 ·refine W 3 Z (CL Z (AC.one 1 Z (dM _ _ _ h3 ⟨_,Z,?_⟩)));cases hf;exact⟨rfl,_,(.cons _ (.cons_cons _ (apZ _))),h⟩
 refine W 3 Z (CL Z (AC.one 1 Z (dM _ _ _ h3 ⟨_,Z,(AS Z (AO.aP Z nR (fun b5=>?_)))⟩)));refine Rw 1 [0] Z Z (LK2 (fun e3 y5=>[(0,pP p1),(1,iP n1),(4,pP b4),(5,pP b5)]) (fun e3 y5=>[.box b5 (cZ e3),.box b4 [iP 0,.str ([]:Str),iP 0,.bool false,iP 0,.str ([]:Str),.own (.slice none 0 0) [],.own (.slice none 0 0) [],.own (.slice none 0 0) [],.own (.slice none 0 0) []],.box p1 (aW y5)]) (fun dL e3 y5=>iT aO n1 dL e3 y5=some (rX,o8)) BIG x2 y3 Z Z hf (fun _ _ hz=>dH hz) ?_);intro dL e3 y5 hf;rw[iT]at hf;obtain⟨x3,y6,h4,hf⟩:=dD hf;refine W 1 Z (CL Z (AC.one 2 Z (qb _ _ h4 ⟨_,Z,(AS Z (AO.aP Z wN (fun b6=>?_)))⟩)));refine B1 hf fun b1 h6 hf=>Rr 5 [0,0] Z Z (AR.fT 6 20 26 false [0,1,4,5,6] b1 Z Z (fun h5=>?_) (fun h5=>?_) ?_)
 ·replace h6:=nU h5 h6;refine Is 20 h5 Z (U 1 Z (GO Z (AO.dh (i:=0) Z Z Z ac0 Z Z ?_)));refine B1 h6 fun x4 h7 h6=>GO Z (AO.call Z _ Z Z akw (sW _ h7 ?_));cases h6;exact gy 3 Z (En [26,0,1,4,5,6] Z)
 ·refine IT 20 h5 h6 Z fun h6=>?_;cases h6;exact gy 6 Z (En [26,0,1,4,5,6] Z)
 refine J 0 Z (C hf Z (fun h8 hf=>?_) fun h8 hf=>?_)
 ·cases hf;exact Wx 2 [1,2] rfl rfl ⟨rfl,_,⟨_,_,rfl,⟨_,_,2,_,_,rfl,rfl,lG,rfl⟩,rfl⟩,_,(.cons _ (.cons _ (.cons _ (.cons_cons _ (apZ _))))),h⟩
 refine Ww 8 [3,3] Z Z (AW.Zn 0 6 8 3 mixed (by kernel_rfl) (by kernel_rfl) (by kernel_rfl) Z Z Z Z ?_);refine Ev.nil ?_;show Ev _ _ _ _ _ _ _;refine Ev.cs dK 1 Z (Ev.cons Z Z Z (AO.dh (i:=0) Z Z Z ac0 Z Z zg) (Ev.cons Z Z Z (AO.dh (i:=1) Z Z Z lG Z Z zg) (Ev.cs dK 3 Z ?_)));refine Ev.nil ?_;rcases dY hf with⟨e4,y8,h9,hf⟩|⟨x5,y7,h9,hf⟩
 ·refine TF.step Z Z Z (AO.call Z _ Z Z afp (AC.one 0 Z (dM _ _ _ h9 ⟨_,Z,?_⟩)));cases hf;exact⟨rfl,_,(.cons _ (.cons _ (.cons _ (.cons_cons _ (apZ _))))),h⟩
 refine TF.step rfl rfl rfl (AO.call rfl _ rfl rfl afp (AC.one 0 rfl (dM _ _ _ h9 ⟨_,rfl,(TF.step rfl rfl rfl (AO.dO (ak.bO [e3,x5]) rfl DC rfl rfl rfl (by first|rfl|simp only[ak.aV,ak.bO]) ?_))⟩)));refine TF.nil ?_;show AR _ _ _ _ _ _ _ _
 refine Rw 4 [1] Z Z (C hf Z (fun h10 hf=>?_) fun h10 hf=>?_)
 ·cases hf;exact Wx 2 [1,2] rfl rfl ⟨rfl,_,⟨_,_,rfl,⟨_,_,2,_,_,rfl,rfl,lG,rfl⟩,rfl⟩,_,(.cons _ (.cons _ (.cons _ (.cons_cons _ (apZ _))))),h⟩
 refine AW.drop1 (AW.X0 0 Z ?_);exact M 0 Z ⟨(ak.mk 7 x3.text (ah.mk 0 false 0 ([]:Str) [] []) [e3,x5] []),y7,Z,Z,Z,hf⟩
theorem GK(aD)(bH:gq aD)(aO)(dM:f_ aO)(aS)(fF:iy aS)(aT)(gN:iA aT)(bq)(gZ:iJ bq)(bn)(gY:iI bn)(bf)(fJ:iK bf)(aU)(fZ:gQ aU)(p1:Nat)(o9:au){rX:eX ay ak}{o8:au}(hf:oW aD aO aS aT bq bn bf aU o9=some (rX,o8)){Q:eP→List bC→Prop}(h:Q (sM rX) [.box p1 (aW o8)]):PC 311 [pP p1] [.box p1 (aW o9)] Q:=by
 unfold oW at hf;refine BD 22 [.cell 2 37] [0] Tryz.func311 Z Z Z Z Z (W 0 Z (AS Z (AO.aP Z nR (fun b2=>(U 0 Z (AS Z (AO.dO (List.map lH ([([33]:Str),([45]:Str)]:List Str)) Z vw Z Z Z Z (AS Z (AO.bI (l:=([([33]:Str),([45]:Str)]:List Str)) Z Z Z Z ku Z Z ?_)))))))));refine J 1 Z (LK2 (fun x1 y1=>[(0,pP p1),(2,pP b2),(5,sP (([([33]:Str),([45]:Str)]:List Str))),(6,iP (([([33]:Str),([45]:Str)]:List Str).length:Int)),(7,iP x1)]) (fun x1 y1=>[.box b2 [iP 0,.str ([]:Str),iP 0,.bool false,iP 0,.str ([]:Str),.own (.slice none 0 0) [],.own (.slice none 0 0) [],.own (.slice none 0 0) [],.own (.slice none 0 0) []],.box p1 (aW y1)]) (fun dL x1 y1=>jm aS aT dL x1 y1=some (rX,o8)) BIG 0 o9 Z Z hf (fun _ _ hz=>dH hz) ?_);intro dL x1 y1 hf;rw[jm]at hf;refine V 1 Z (C hf Z (fun h1 hf=>?_) fun h1 hf=>?_)
 ·refine B1 hf fun op1 h2 hf=>W 0 Z (AS Z (AO.bQ h2 Z Z Z Z ku Z Z ?_));obtain⟨x2,y2,h3,hf⟩:=dD hf;refine U 4 Z (CL Z (AC.one 1 Z (eH _ _ _ h3 ⟨_,Z,(J 0 Z (C hf Z (fun h4 hf=>?_) fun h4 hf=>?_))⟩)))
  ·rcases dY hf with⟨e1,y4,h5,hf⟩|⟨x3,y3,h5,hf⟩
   ·refine W 2 Z (CL Z (AC.one 1 Z (fF _ _ h5 ⟨_,Z,?_⟩)));cases hf;exact⟨rfl,_,(.cons _ (.cons_cons _ (apZ _))),h⟩
   refine W 2 rfl (CL rfl (AC.one 1 rfl (fF _ _ h5 ⟨_,rfl,(AS rfl (AO.dO (ak.bO [x3]) rfl DC rfl rfl rfl (by first|rfl|simp only[ak.aV,ak.bO]) ?_))⟩)));cases hf;exact Rx 2 [0] rfl rfl ⟨rfl,_,⟨_,_,rfl,⟨_,_,0,_,_,rfl,rfl,lG,rfl⟩,rfl⟩,_,(.cons _ (.cons_cons _ (apZ _))),h⟩
  exact M 2 Z ⟨(bV (x1+1)),y2,Z,Z,Z,hf⟩
 rcases dY hf with⟨e2,y6,h6,hf⟩|⟨x4,y5,h6,hf⟩
 ·refine W 1 Z (CL Z (AC.one 1 Z (gN _ _ h6 ⟨_,Z,?_⟩)));cases hf;exact⟨rfl,_,(.cons _ (.cons_cons _ (apZ _))),h⟩
 refine W 1 Z (CL Z (AC.one 1 Z (gN _ _ h6 ⟨_,Z,?_⟩)));cases hf;exact Rx 1 [0] rfl rfl ⟨rfl,_,⟨_,_,rfl,⟨_,_,0,_,_,rfl,rfl,lG,rfl⟩,rfl⟩,_,(.cons _ (.cons_cons _ (apZ _))),h⟩
theorem GL(aD)(bH:gq aD)(aO)(dM:f_ aO)(aS)(fF:iy aS)(aT)(gN:iA aT)(bq)(gZ:iJ bq)(bn)(gY:iI bn)(bf)(fJ:iK bf)(aU)(fZ:gQ aU)(p1:Nat)(o9:au){rX:eX ay ak}{o8:au}(hf:oZ aD aO aS aT bq bn bf aU o9=some (rX,o8)){Q:eP→List bC→Prop}(h:Q (sN rX) [.box p1 (aW o8)]):PC 350 [pP p1] [.box p1 (aW o9)] Q:=by
 unfold oZ at hf;refine BD 47 [.cell 2 37] [0] Tryz.func350 Z Z Z Z Z (W 0 Z (AS Z (AO.aP Z nR (fun b2=>?_))));rcases dY hf with⟨e1,y2,h1,hf⟩|⟨x1,y1,h1,hf⟩
 ·refine U 1 Z (CL Z (AC.one 1 Z (gZ _ _ h1 ⟨_,Z,?_⟩)));cases hf;exact⟨rfl,_,(.cons _ (.cons_cons _ (apZ _))),h⟩
 refine U 1 Z (CL Z (AC.one 1 Z (gZ _ _ h1 ⟨_,Z,(AS Z (AO.aP Z nR (fun b3=>?_)))⟩)));refine Rw 1 [0] Z Z (LK2 (fun e2 y3=>[(0,pP p1),(2,pP b2),(3,pP b3)]) (fun e2 y3=>[.box b3 (cZ e2),.box b2 [iP 0,.str ([]:Str),iP 0,.bool false,iP 0,.str ([]:Str),.own (.slice none 0 0) [],.own (.slice none 0 0) [],.own (.slice none 0 0) [],.own (.slice none 0 0) []],.box p1 (aW y3)]) (fun dL e2 y3=>gX aD dL e2 y3=some (rX,o8)) BIG x1 y1 Z Z hf (fun _ _ hz=>dH hz) ?_);intro dL e2 y3 hf;rw[gX]at hf;obtain⟨x2,y4,h2,hf⟩:=dD hf;refine W 1 Z (CL Z (AC.one 2 Z (eH _ _ _ h2 ⟨_,Z,(J 1 Z (C hf Z (fun h3 hf=>?_) fun h3 hf=>?_))⟩)))
 ·rcases dY hf with⟨e3,y6,h4,hf⟩|⟨x3,y5,h4,hf⟩
  ·refine W 1 Z (CL Z (AC.one 2 Z (jf _ _ h4 ⟨_,Z,?_⟩)));cases hf;exact⟨rfl,_,(.cons _ (.cons _ (.cons_cons _ (apZ _)))),h⟩
  refine W 1 Z (CL Z (AC.one 2 Z (jf _ _ h4 ⟨_,Z,(AS Z (AO.aP Z wN (fun b4=>?_)))⟩)));refine B1 hf fun b1 h6 hf=>Rr 5 [0,0] Z Z (AR.fT 4 17 21 false [0,2,3,4] b1 Z Z (fun h5=>?_) (fun h5=>?_) ?_)
  ·replace h6:=nU h5 h6;refine Is 17 h5 Z (U 1 Z (GO Z (AO.dh (i:=0) Z Z Z ac0 Z Z ?_)));refine BR h6 fun x4 h7 h6=>?_;refine GO Z (AO.call Z _ Z Z afm (Ew _ h7 ?_));cases h6;exact gy 1 Z (En [21,0,2,3,4] Z)
  ·refine IT 17 h5 h6 Z fun h6=>?_;cases h6;exact gy 4 Z (En [21,0,2,3,4] Z)
  refine J 0 Z (C hf Z (fun h8 hf=>?_) fun h8 hf=>?_)
  ·rcases dY hf with⟨e4,y8,h9,hf⟩|⟨_,y7,h9,hf⟩
   ·refine W 1 Z (CL Z (AC.one 3 Z (fB _ _ _ h9 ⟨_,Z,?_⟩)));cases hf;exact⟨rfl,_,(.cons _ (.cons _ (.cons _ (.cons_cons _ (apZ _))))),h⟩
   refine W 1 rfl (CL rfl (AC.one 3 rfl (fB _ _ _ h9 ⟨_,rfl,(Rr 11 [3,3,0,1] rfl rfl (AS rfl (AO.dO (ak.bO [e2]) rfl DC rfl rfl rfl (by first|rfl|simp only[ak.aV,ak.bO]) ?_)))⟩)));refine Rn 2 [1] Z Z (AR.drop1 (AR.X0 0 Z ?_));exact N 0 Z ⟨(ak.mk 3 x3.text (ah.mk 0 false 0 ([]:Str) [] []) [e2] []),(au.mk y7.ts (bV (y7.at_+1))),Z,Z,Z,hf⟩
  refine Wr 11 [3,3,0,1] rfl rfl (AS rfl (AO.dO (ak.bO [e2]) rfl DC rfl rfl rfl (by first|rfl|simp only[ak.aV,ak.bO]) ?_));refine Rn 2 [1] Z Z (AR.drop1 (AR.X0 0 Z ?_));exact N 0 Z ⟨(ak.mk 3 x3.text (ah.mk 0 false 0 ([]:Str) [] []) [e2] []),(au.mk y5.ts (bV (y5.at_+1))),Z,Z,Z,hf⟩
 obtain⟨x5,y9,h10,hf⟩:=dD hf;refine W 1 Z (CL Z (AC.one 2 Z (eH _ _ _ h10 ⟨_,Z,(J 1 Z (C hf Z (fun h11 hf=>?_) fun h11 hf=>?_))⟩)))
 ·rcases dY hf with⟨e5,y11,h12,hf⟩|⟨x6,y10,h12,hf⟩
  ·refine W 1 Z (CL Z (AC.one 2 Z (bH _ _ h12 ⟨_,Z,?_⟩)));cases hf;exact⟨rfl,_,(.cons _ (.cons _ (.cons_cons _ (apZ _)))),h⟩
  refine W 1 Z (CL Z (AC.one 2 Z (bH _ _ h12 ⟨_,Z,(AS Z (AO.aP Z nR (fun b5=>?_)))⟩)));rcases dY hf with⟨e6,y13,qp,hf⟩|⟨_,y12,qp,hf⟩
  ·refine Rr 2 [0] Z Z (CL Z (AC.one 3 Z (dQ _ _ _ qp ⟨_,Z,?_⟩)));cases hf;exact⟨rfl,_,(.cons _ (.cons _ (.cons _ (.cons_cons _ (apZ _))))),h⟩
  refine Rr 2 [0] rfl rfl (CL rfl (AC.one 3 rfl (dQ _ _ _ qp ⟨_,rfl,(Rr 2 [1,0] rfl rfl (AS rfl (AO.dO (ak.bO [e2,x6]) rfl DC rfl rfl rfl (by first|rfl|simp only[ak.aV,ak.bO]) ?_)))⟩)));refine Rn 2 [1] Z Z (AR.drop1 (AR.X0 0 Z ?_));exact N 0 Z ⟨(ak.mk 4 ([]:Str) (ah.mk 0 false 0 ([]:Str) [] []) [e2,x6] []),y12,Z,Z,Z,hf⟩
 cases hf;exact Wx 2 [0,1] rfl rfl ⟨rfl,_,⟨_,_,rfl,⟨_,_,1,_,_,rfl,rfl,lG,rfl⟩,rfl⟩,_,(.cons _ (.cons _ (.cons_cons _ (apZ _)))),h⟩
theorem G9(aD)(bH:gq aD)(aO)(dM:f_ aO)(aS)(fF:iy aS)(aT)(gN:iA aT)(bq)(gZ:iJ bq)(bn)(gY:iI bn)(bf)(fJ:iK bf)(aU)(fZ:gQ aU)(p1:Nat)(o9:au){rX:eX ay ak}{o8:au}(hf:pQ aD aO aS aT bq bn bf aU o9=some (rX,o8)){Q:eP→List bC→Prop}(h:Q (tH rX) [.box p1 (aW o8)]):PC 383 [pP p1] [.box p1 (aW o9)] Q:=by
 unfold pQ at hf;refine BD 77 [.cell 2 37] [0] Tryz.func383 Z Z Z Z Z (W 0 Z (AS Z (AO.aP Z nR (fun b2=>?_))));rcases dY hf with⟨e1,y2,h1,hf⟩|⟨x1,y1,h1,hf⟩
 ·refine U 1 Z (CL Z (AC.one 1 Z (jf _ _ h1 ⟨_,Z,?_⟩)));cases hf;exact⟨rfl,_,(.cons _ (.cons_cons _ (apZ _))),h⟩
 refine U 1 Z (CL Z (AC.one 1 Z (jf _ _ h1 ⟨_,Z,(AS Z (AO.aP Z wN (fun b3=>(Rw 5 [0,0] Z Z (C hf Z (fun h2 hf=>?_) fun h2 hf=>?_)))))⟩)))
 ·obtain⟨n1,x2,h3,hf⟩:=dD hf;refine Wr 10 [2,2,0] Z Z (CL Z (Dl _ h3 ?_));refine B1 hf fun x3 h4 hf=>U 7 Z (CL Z (vo _ h4 ?_));cases hf;exact Rx 1 [1] rfl rfl ⟨rfl,_,⟨_,_,rfl,⟨_,_,1,_,_,rfl,rfl,lG,rfl⟩,rfl⟩,_,(.cons _ (.cons _ (.cons_cons _ (apZ _)))),h⟩
 refine V 2 Z (C hf Z (fun h5 hf=>?_) fun h5 hf=>?_)
 ·refine B1 hf fun x4 h6 hf=>Wr 11 [2,2,0] Z Z (CL Z (vo _ h6 ?_));cases hf;exact Rx 1 [1] rfl rfl ⟨rfl,_,⟨_,_,rfl,⟨_,_,1,_,_,rfl,rfl,lG,rfl⟩,rfl⟩,_,(.cons _ (.cons _ (.cons_cons _ (apZ _)))),h⟩
 refine V 2 Z (C hf Z (fun h7 hf=>?_) fun h7 hf=>?_)
 ·rcases dY hf with⟨e2,y4,h8,hf⟩|⟨x5,y3,h8,hf⟩
  ·refine Wr 11 [2,2,0] Z Z (CL Z (AC.one 2 Z (gY _ _ _ h8 ⟨_,Z,?_⟩)));cases hf;exact⟨rfl,_,(.cons _ (.cons _ (.cons_cons _ (apZ _)))),h⟩
  refine Wr 11 [2,2,0] Z Z (CL Z (AC.one 2 Z (gY _ _ _ h8 ⟨_,Z,?_⟩)));cases hf;exact Rx 1 [1] rfl rfl ⟨rfl,_,⟨_,_,rfl,⟨_,_,1,_,_,rfl,rfl,lG,rfl⟩,rfl⟩,_,(.cons _ (.cons _ (.cons_cons _ (apZ _)))),h⟩
 obtain⟨x6,y5,h9,hf⟩:=dD hf;refine W 1 Z (CL Z (AC.one 2 Z (eH _ _ _ h9 ⟨_,Z,(J 1 Z (C hf Z (fun h10 hf=>?_) fun h10 hf=>?_))⟩)))
 ·rcases dY hf with⟨e3,y7,h11,hf⟩|⟨x7,y6,h11,hf⟩
  ·refine W 1 Z (CL Z (AC.one 2 Z (bH _ _ h11 ⟨_,Z,?_⟩)));cases hf;exact⟨rfl,_,(.cons _ (.cons _ (.cons_cons _ (apZ _)))),h⟩
  refine W 1 Z (CL Z (AC.one 2 Z (bH _ _ h11 ⟨_,Z,(AS Z (AO.aP Z nR (fun b6=>?_)))⟩)));rcases dY hf with⟨e4,y9,h12,hf⟩|⟨_,y8,h12,hf⟩
  ·refine Rr 2 [0] Z Z (CL Z (AC.one 3 Z (dQ _ _ _ h12 ⟨_,Z,?_⟩)));cases hf;exact⟨rfl,_,(.cons _ (.cons _ (.cons _ (.cons_cons _ (apZ _))))),h⟩
  refine Rr 2 [0] Z Z (CL Z (AC.one 3 Z (dQ _ _ _ h12 ⟨_,Z,?_⟩)));cases hf;exact Rx 2 [0,2] rfl rfl ⟨rfl,_,⟨_,_,rfl,⟨_,_,2,_,_,rfl,rfl,lG,rfl⟩,rfl⟩,_,(.cons _ (.cons _ (.cons _ (.cons_cons _ (apZ _))))),h⟩
 obtain⟨x8,y10,qp,hf⟩:=dD hf;refine W 1 Z (CL Z (AC.one 2 Z (eH _ _ _ qp ⟨_,Z,(J 1 Z (C hf Z (fun oI hf=>?_) fun oI hf=>?_))⟩)))
 ·rcases dY hf with⟨e5,y12,vY,hf⟩|⟨x9,y11,vY,hf⟩
  ·refine W 1 Z (CL Z (AC.one 2 Z (fJ _ _ _ vY ⟨_,Z,?_⟩)));cases hf;exact⟨rfl,_,(.cons _ (.cons _ (.cons_cons _ (apZ _)))),h⟩
  refine W 1 Z (CL Z (AC.one 2 Z (fJ _ _ _ vY ⟨_,Z,?_⟩)));cases hf;exact Rx 2 [1] rfl rfl ⟨rfl,_,⟨_,_,rfl,⟨_,_,1,_,_,rfl,rfl,lG,rfl⟩,rfl⟩,_,(.cons _ (.cons _ (.cons_cons _ (apZ _)))),h⟩
 obtain⟨EB,y13,h16,hf⟩:=dD hf;refine W 1 Z (CL Z (AC.one 2 Z (eH _ _ _ h16 ⟨_,Z,(J 1 Z (C hf Z (fun AZ hf=>?_) fun AZ hf=>?_))⟩)))
 ·rcases dY hf with⟨e6,y15,h18,hf⟩|⟨La,y14,h18,hf⟩
  ·refine W 1 Z (CL Z (AC.one 2 Z (fZ _ _ h18 ⟨_,Z,?_⟩)));cases hf;exact⟨rfl,_,(.cons _ (.cons _ (.cons_cons _ (apZ _)))),h⟩
  refine W 1 Z (CL Z (AC.one 2 Z (fZ _ _ h18 ⟨_,Z,?_⟩)));cases hf;exact Rx 1 [1] rfl rfl ⟨rfl,_,⟨_,_,rfl,⟨_,_,1,_,_,rfl,rfl,lG,rfl⟩,rfl⟩,_,(.cons _ (.cons _ (.cons_cons _ (apZ _)))),h⟩
 rcases dY hf with⟨e7,y17,h19,hf⟩|⟨_,y16,h19,hf⟩
 ·refine W 1 Z (CL Z (AC.one 2 Z (fB _ _ _ h19 ⟨_,Z,?_⟩)));cases hf;exact⟨rfl,_,(.cons _ (.cons _ (.cons_cons _ (apZ _)))),h⟩
 refine W 1 Z (CL Z (AC.one 2 Z (fB _ _ _ h19 ⟨_,Z,?_⟩)));cases hf;exact Rx 2 [1] rfl rfl ⟨rfl,_,⟨_,_,rfl,⟨_,_,1,_,_,rfl,rfl,lG,rfl⟩,rfl⟩,_,(.cons _ (.cons _ (.cons_cons _ (apZ _)))),h⟩
theorem G8(aD)(bH:gq aD)(aO)(dM:f_ aO)(aS)(fF:iy aS)(aT)(gN:iA aT)(bq)(gZ:iJ bq)(bn)(gY:iI bn)(bf)(fJ:iK bf)(aU)(fZ:gQ aU)(p1:Nat)(o9:au)(s1:Str){rX:eX ay ak}{o8:au}(hf:pO aD aO aS aT bq bn bf aU o9 s1=some (rX,o8)){Q:eP→List bC→Prop}(h:Q (tF rX) [.box p1 (aW o8)]):PC 411 [pP p1,.str s1] [.box p1 (aW o9)] Q:=by
 unfold pO at hf;refine BD 26 [.cell 4 37] [0,1] Tryz.func411 Z Z Z Z Z (W 0 Z (AS Z (AO.aP Z nR (fun b4=>(J 3 Z (C hf Z (fun h1 hf=>?_) fun h1 hf=>?_))))))
 ·refine B1 hf fun x1 h2 hf=>W 1 Z (CL Z (vo _ h2 ?_));cases hf;exact Rx 1 [0] rfl rfl ⟨rfl,_,⟨_,_,rfl,⟨_,_,0,_,_,rfl,rfl,lG,rfl⟩,rfl⟩,_,(.cons _ (.cons_cons _ (apZ _))),h⟩
 refine B1 hf fun x2 h3 hf=>W 1 Z (CL Z (Ew _ h3 (J 1 Z (C hf Z (fun h4 hf=>?_) fun h4 hf=>?_))))
 ·refine B1 hf fun x3 h5 hf=>W 3 Z (CL Z (vo _ h5 ?_));cases hf;exact Rx 1 [0] rfl rfl ⟨rfl,_,⟨_,_,rfl,⟨_,_,0,_,_,rfl,rfl,lG,rfl⟩,rfl⟩,_,(.cons _ (.cons_cons _ (apZ _))),h⟩
 obtain⟨x4,y1,h6,hf⟩:=dD hf;refine W 1 Z (CL Z (AC.one 1 Z (eH _ _ _ h6 ⟨_,Z,(J 1 Z (C hf Z (fun h7 hf=>?_) fun h7 hf=>?_))⟩)))
 ·rcases dY hf with⟨e1,y3,h8,hf⟩|⟨x5,y2,h8,hf⟩
  ·refine W 2 Z (CL Z (AC.one 1 Z (fJ _ _ _ h8 ⟨_,Z,?_⟩)));cases hf;exact⟨rfl,_,(.cons _ (.cons_cons _ (apZ _))),h⟩
  refine W 2 Z (CL Z (AC.one 1 Z (fJ _ _ _ h8 ⟨_,Z,?_⟩)));cases hf;exact Rx 2 [0] rfl rfl ⟨rfl,_,⟨_,_,rfl,⟨_,_,0,_,_,rfl,rfl,lG,rfl⟩,rfl⟩,_,(.cons _ (.cons_cons _ (apZ _))),h⟩
 cases hf;exact Wx 3 [0] rfl rfl ⟨rfl,_,⟨_,_,rfl,⟨_,_,0,_,_,rfl,rfl,lG,rfl⟩,rfl⟩,_,(.cons _ (.cons_cons _ (apZ _))),h⟩
theorem G_(aD)(bH:gq aD)(aO)(dM:f_ aO)(aS)(fF:iy aS)(aT)(gN:iA aT)(bq)(gZ:iJ bq)(bn)(gY:iI bn)(bf)(fJ:iK bf)(aU)(fZ:gQ aU)(p1:Nat)(o9:au)(vH:Str){rX:eX ay (List ak)}{o8:au}(hf:pR aD aO aS aT bq bn bf aU o9 vH=some (rX,o8)){Q:eP→List bC→Prop}(h:Q (tJ rX) [.box p1 (aW o8)]):PC 412 [pP p1,.str vH] [.box p1 (aW o9)] Q:=by
 unfold pR at hf;refine BD 21 [.tmp 4] [0,1] Tryz.func412 Z Z Z Z Z (W 0 Z (AS Z (AO.jv Z Z ?_)));obtain⟨x1,y1,h1,hf⟩:=dD hf;refine U 2 Z (CL Z (AC.one 0 Z (eH _ _ _ h1 ⟨_,Z,(J 0 Z (C hf Z (fun h2 hf=>?_) fun h2 hf=>?_))⟩)))
 ·refine W 0 Z (AS Z (AO.jv Z Z ?_));cases hf;exact N 0 rfl ⟨rfl,_,⟨_,_,rfl,rfl,rfl⟩,_,(.cons_cons _ (apZ _)),h⟩
 refine V 1 Z (AW.row 10 37 (LK3 (fun bD v1 y2=>[(0,pP p1),(1,.str vH),(5,.own v1 (ak.bO bD))]) (fun bD v1 y2=>[.row v1 (ak.bO bD).length 10 37,.box p1 (aW y2)]) (fun dL bD v1 y2=>kT aD vH dL bD y2=some (rX,o8)) BIG [] (.slice none 0 0) y1 Z Z hf (fun _ _ _ hz=>dH hz) ?_));intro dL bD v1 y2 hf;rw[kT]at hf;rcases dY hf with⟨e1,y4,h3,hf⟩|⟨x2,y3,h3,hf⟩
 ·refine W 2 Z (CL Z (AC.one 1 Z (bH _ _ h3 ⟨_,Z,?_⟩)));cases hf;exact⟨rfl,_,(.cons _ (.cons_cons _ (apZ _))),h⟩
 refine W 2 rfl (CL rfl (AC.one 1 rfl (bH _ _ h3 ⟨_,rfl,(AS rfl (AO.dO (ak.bO [x2]) rfl DC rfl rfl rfl (by first|rfl|simp only[ak.aV,ak.bO]) ?_))⟩)));refine B1 hf fun xI h4 hf=>AS Z (AO.jO (i:=0) (l:=bD) (m:=[x2]) h4 Z Z Z Z Z Z Z DC jD (ak.aQ _) (ak.aQ _) (ak.aQ _).symm (ak.gG) (ak.cells_one) (by decide) (fun v2 s1 hs1=>?_));cases hs1;obtain⟨x3,y5,h5,hf⟩:=dD hf
 refine U 2 Z (CL Z (AC.one 1 Z (eH _ _ _ h5 ⟨_,Z,(J 1 Z (C hf Z (fun h6 hf=>?_) fun h6 hf=>?_))⟩)))
 ·rcases dY hf with⟨e2,y7,h7,hf⟩|⟨_,y6,h7,hf⟩
  ·refine W 2 Z (CL Z (AC.one 1 Z (dQ _ _ _ h7 ⟨_,Z,?_⟩)));cases hf;exact⟨rfl,_,(.cons _ (.cons_cons _ (apZ _))),h⟩
  refine W 2 Z (CL Z (AC.one 1 Z (dQ _ _ _ h7 ⟨_,Z,?_⟩)));cases hf;exact N 2 rfl ⟨rfl,_,⟨_,_,rfl,rfl,rfl⟩,_,(.cons _ (.cons_cons _ (apZ _))),h⟩
 exact M 0 Z ⟨xI,v2,y5,Z,Z,Z,hf⟩
theorem EC(aD)(bH:gq aD)(aO)(dM:f_ aO)(aS)(fF:iy aS)(aT)(gN:iA aT)(bq)(gZ:iJ bq)(bn)(gY:iI bn)(bf)(fJ:iK bf)(aU)(fZ:gQ aU)(p1:Nat)(o9:au){rX:eX ay ak}{o8:au}(hf:nu aD aO aS aT bq bn bf aU o9=some (rX,o8)){Q:eP→List bC→Prop}(h:Q (qB rX) [.box p1 (aW o8)]):PC 413 [pP p1] [.box p1 (aW o9)] Q:=by
 unfold nu at hf;refine BD 50 [.cell 2 37] [0] Tryz.func413 Z Z Z Z Z (W 0 Z (AS Z (AO.aP Z nR (fun b2=>(U 1 Z (AS Z (AO.aP Z nR (fun b3=>?_))))))));obtain⟨x1,y1,h1,hf⟩:=dD hf;refine Rr 2 [0] Z Z (CL Z (AC.one 2 Z (eH _ _ _ h1 ⟨_,Z,(J 0 Z (C hf Z (fun h2 hf=>?_) fun h2 hf=>?_))⟩)))
 ·cases hf;exact Wx 2 [0,1] rfl rfl ⟨rfl,_,⟨_,_,rfl,⟨_,_,1,_,_,rfl,rfl,lG,rfl⟩,rfl⟩,_,(.cons _ (.cons _ (.cons_cons _ (apZ _)))),h⟩
 refine V 0 Z (AW.row 10 37 (AW.row 1 9 (AW.settle [0,2,3] Z (AW.AV 2 [false,false,false,false,false,false,true,true] Z (LK4 (fun bD v1 v2 y2=>[(0,pP p1),(2,pP b2),(3,pP b3)]) (fun bD v1 v2 y2=>[.row v2 (List.map lH bD.keys).length 1 9,.row v1 (ak.bO bD.args).length 10 37,.box b3 [iP bD.kind,.str bD.name,iP bD.value.kind,.bool bD.value.dR,iP bD.value.dA,.str bD.value.bR,.list (ah.bO bD.value.aN),sP bD.value.keys,.own v1 (ak.bO bD.args),.own v2 (List.map lH bD.keys)],.box b2 [iP 0,.str ([]:Str),iP 0,.bool false,iP 0,.str ([]:Str),.own (.slice none 0 0) [],.own (.slice none 0 0) [],.own (.slice none 0 0) [],.own (.slice none 0 0) []],.box p1 (aW y2)]) (fun dL bD v1 v2 y2=>iM aD dL bD y2=some (rX,o8)) BIG (ak.mk 10 ([]:Str) (ah.mk 0 false 0 ([]:Str) [] []) [] []) (.slice none 0 0) (.slice none 0 0) y1 Z Z hf (fun _ _ _ _ hz=>dH hz) ?_)))));intro dL bD v1 v2 y2 hf;rw[iM]at hf;rcases dY hf with⟨e1,y4,h3,hf⟩|⟨x2,y3,h3,hf⟩
 ·refine W 1 Z (CL Z (AC.one 4 Z (jf _ _ h3 ⟨_,Z,?_⟩)));cases hf;exact⟨rfl,_,(.cons _ (.cons _ (.cons _ (.cons _ (.cons_cons _ (apZ _)))))),h⟩
 refine W 1 Z (CL Z (AC.one 4 Z (jf _ _ h3 ⟨_,Z,(AS Z (AO.aP Z wN (fun b4=>(Rr 5 [0,0] Z Z (AR.and 4 14 18 [0,2,3,4] (x:=(x2.kind !=3)) Z Z (fun h4=>?_) (fun h4=>?_) ?_)))))⟩)))
 ·refine Is 14 h4 Z (U 1 Z (GO Z (AO.dh (i:=0) Z Z Z Cv Z Z ?_)));exact gy 2 Z (En [18,0,2,3,4] Z)
 ·refine Is 14 h4 Z ?_;exact gy 4 Z (En [18,0,2,3,4] Z)
 refine J 0 Z (C hf Z (fun h5 hf=>?_) fun h5 hf=>?_)
 ·rcases dY hf with⟨e2,y6,h6,hf⟩|⟨_,y5,h6,hf⟩
  ·refine W 1 Z (CL Z (AC.one 5 Z (fB _ _ _ h6 ⟨_,Z,?_⟩)));cases hf;exact⟨rfl,_,(.cons _ (.cons _ (.cons _ (.cons _ (.cons _ (.cons_cons _ (apZ _))))))),h⟩
  refine W 1 Z (CL Z (AC.one 5 Z (fB _ _ _ h6 ⟨_,Z,?_⟩)));rcases dY hf with⟨e3,y8,h7,hf⟩|⟨_,y7,h7,hf⟩
  ·refine Rr 9 [5,5] Z Z (CL Z (AC.one 5 Z (dQ _ _ _ h7 ⟨_,Z,?_⟩)));cases hf;exact⟨rfl,_,(.cons _ (.cons _ (.cons _ (.cons _ (.cons _ (.cons_cons _ (apZ _))))))),h⟩
  refine Rr 9 [5,5] Z Z (CL Z (AC.one 5 Z (dQ _ _ _ h7 ⟨_,Z,(Rr 4 [3,0] Z Z (AS Z (AO.dO (List.map lH ([x2.text]:List Str)) Z vw Z Z Z Z ?_)))⟩)));refine B1 hf fun x3 h8 hf=>AS Z (AO.jO (i:=1) (l:=bD.keys) (m:=([x2.text]:List Str)) h8 Z Z Z Z Z Z Z vw ku Z Z Z (fun _=>Z) (fun _=>Z) (by decide) (fun v3 s1 hs1=>?_));cases hs1;refine Rw 2 [3] Z Z (AW.Zn 0 3 5 5 mixed (by kernel_rfl) (by kernel_rfl) (by kernel_rfl) Z Z Z Z ?_);refine Ev.nil ?_;show Ev _ _ _ _ _ _ _;refine Ev.cs dK 1 Z (Ev.cons Z Z Z (AO.dh (i:=3) Z Z Z abO Z Z zg) (Ev.cs dK 1 Z (Ev.nil ?_)));rcases dY hf with⟨e4,y10,h9,hf⟩|⟨x4,y9,h9,hf⟩
  ·refine TF.step Z Z Z (AO.call Z _ Z Z Np (AC.one 0 Z (bH _ _ h9 ⟨_,Z,?_⟩)));cases hf;exact⟨rfl,_,(.cons _ (.cons _ (.cons _ (.cons _ (.cons _ (.cons_cons _ (apZ _))))))),h⟩
  refine TF.step rfl rfl rfl (AO.call rfl _ rfl rfl Np (AC.one 0 rfl (bH _ _ h9 ⟨_,rfl,(TF.step rfl rfl rfl (AO.dO (ak.bO [x4]) rfl DC rfl rfl rfl (by first|rfl|simp only[ak.aV,ak.bO]) ?_))⟩)));refine TF.nil ?_;show AR _ _ _ _ _ _ _ _
  refine B1 hf fun x5 h10 hf=>AS Z (AO.jO (i:=2) (l:=bD.args) (m:=[x4]) h10 Z Z Z Z Z Z Z DC jD (ak.aQ _) (ak.aQ _) (ak.aQ _).symm (ak.gG) (ak.cells_one) (by decide) (fun v4 s2 hs2=>?_));cases hs2;obtain⟨x6,y11,h11,hf⟩:=dD hf;refine Rr 3 [3] Z Z (CL Z (AC.one 5 Z (eH _ _ _ h11 ⟨_,Z,(J 1 Z (C hf Z (fun h12 hf=>?_) fun h12 hf=>?_))⟩)))
  ·rcases dY hf with⟨e5,y13,qp,hf⟩|⟨_,y12,qp,hf⟩
   ·refine W 1 Z (CL Z (AC.one 5 Z (dQ _ _ _ qp ⟨_,Z,?_⟩)));cases hf;exact⟨rfl,_,(.cons _ (.cons _ (.cons _ (.cons _ (.cons _ (.cons_cons _ (apZ _))))))),h⟩
   refine W 1 Z (CL Z (AC.one 5 Z (dQ _ _ _ qp ⟨_,Z,?_⟩)));cases hf;exact Rx 2 [3,4] rfl rfl ⟨rfl,_,⟨_,_,rfl,⟨_,_,4,_,_,rfl,rfl,lG,rfl⟩,rfl⟩,_,(.cons _ (.cons _ (.cons _ (.cons _ (.cons _ (.cons_cons _ (apZ _))))))),h⟩
  refine AW.drop1 ?_;exact M 0 Z ⟨(ak.mk bD.kind bD.name bD.value x5 x3),v4,v3,y11,Z,Z,Z,hf⟩
 rcases dY hf with⟨e6,y15,oI,hf⟩|⟨_,y14,oI,hf⟩
 ·refine Wr 9 [5,5] Z Z (CL Z (AC.one 5 Z (dQ _ _ _ oI ⟨_,Z,?_⟩)));cases hf;exact⟨rfl,_,(.cons _ (.cons _ (.cons _ (.cons _ (.cons _ (.cons_cons _ (apZ _))))))),h⟩
 refine Wr 9 [5,5] Z Z (CL Z (AC.one 5 Z (dQ _ _ _ oI ⟨_,Z,(Rr 4 [3,0] Z Z (AS Z (AO.dO (List.map lH ([x2.text]:List Str)) Z vw Z Z Z Z ?_)))⟩)));refine B1 hf fun x7 vY hf=>AS Z (AO.jO (i:=1) (l:=bD.keys) (m:=([x2.text]:List Str)) vY Z Z Z Z Z Z Z vw ku Z Z Z (fun _=>Z) (fun _=>Z) (by decide) (fun v5 s3 hs3=>?_));cases hs3;refine Rw 2 [3] Z Z (AW.Zn 0 3 5 5 mixed (by kernel_rfl) (by kernel_rfl) (by kernel_rfl) Z Z Z Z ?_);refine Ev.nil ?_;show Ev _ _ _ _ _ _ _;refine Ev.cs dK 1 Z (Ev.cons Z Z Z (AO.dh (i:=3) Z Z Z abO Z Z zg) (Ev.cs dK 1 Z (Ev.nil ?_)));rcases dY hf with⟨e7,y17,h16,hf⟩|⟨x8,y16,h16,hf⟩
 ·refine TF.step Z Z Z (AO.call Z _ Z Z Np (AC.one 0 Z (bH _ _ h16 ⟨_,Z,?_⟩)));cases hf;exact⟨rfl,_,(.cons _ (.cons _ (.cons _ (.cons _ (.cons _ (.cons_cons _ (apZ _))))))),h⟩
 refine TF.step rfl rfl rfl (AO.call rfl _ rfl rfl Np (AC.one 0 rfl (bH _ _ h16 ⟨_,rfl,(TF.step rfl rfl rfl (AO.dO (ak.bO [x8]) rfl DC rfl rfl rfl (by first|rfl|simp only[ak.aV,ak.bO]) ?_))⟩)));refine TF.nil ?_;show AR _ _ _ _ _ _ _ _
 refine B1 hf fun x9 AZ hf=>AS Z (AO.jO (i:=2) (l:=bD.args) (m:=[x8]) AZ Z Z Z Z Z Z Z DC jD (ak.aQ _) (ak.aQ _) (ak.aQ _).symm (ak.gG) (ak.cells_one) (by decide) (fun v6 s4 hs4=>?_));cases hs4;obtain⟨EB,y18,h18,hf⟩:=dD hf;refine Rr 3 [3] Z Z (CL Z (AC.one 5 Z (eH _ _ _ h18 ⟨_,Z,(J 1 Z (C hf Z (fun h19 hf=>?_) fun h19 hf=>?_))⟩)))
 ·rcases dY hf with⟨e8,y20,h20,hf⟩|⟨_,y19,h20,hf⟩
  ·refine W 1 Z (CL Z (AC.one 5 Z (dQ _ _ _ h20 ⟨_,Z,?_⟩)));cases hf;exact⟨rfl,_,(.cons _ (.cons _ (.cons _ (.cons _ (.cons _ (.cons_cons _ (apZ _))))))),h⟩
  refine W 1 Z (CL Z (AC.one 5 Z (dQ _ _ _ h20 ⟨_,Z,?_⟩)));cases hf;exact Rx 2 [3,4] rfl rfl ⟨rfl,_,⟨_,_,rfl,⟨_,_,4,_,_,rfl,rfl,lG,rfl⟩,rfl⟩,_,(.cons _ (.cons _ (.cons _ (.cons _ (.cons _ (.cons_cons _ (apZ _))))))),h⟩
 refine AW.drop1 ?_;exact M 0 Z ⟨(ak.mk bD.kind bD.name bD.value x9 x7),v6,v5,y18,Z,Z,Z,hf⟩
theorem gU:∀k:Nat,(gq (aR k))∧(f_ (aZ k))∧(iy (bP k))∧(iA (bW k))∧(iJ (bZ k))∧(iI (cK k))∧(iK (bT k))∧(gQ (bL k)):=by
 intro k
 induction k with
 | zero=>exact⟨fun _ _ _ _ hz=>by first|cases hz|(unfold aR at hz;cases hz),fun _ _ _ _ _ hz=>by first|cases hz|(unfold aZ at hz;cases hz),fun _ _ _ _ hz=>by first|cases hz|(unfold bP at hz;cases hz),fun _ _ _ _ hz=>by first|cases hz|(unfold bW at hz;cases hz),fun _ _ _ _ hz=>by first|cases hz|(unfold bZ at hz;cases hz),fun _ _ _ _ _ hz=>by first|cases hz|(unfold cK at hz;cases hz),fun _ _ _ _ _ hz=>by first|cases hz|(unfold bT at hz;cases hz),fun _ _ _ _ hz=>by first|cases hz|(unfold bL at hz;cases hz)⟩
 | succ k ih=>exact⟨fun ql gT fq iQ hz  Q hq=>Dw (aR k) ih.1 (aZ k) ih.2.1 (bP k) ih.2.2.1 (bW k) ih.2.2.2.1 (bZ k) ih.2.2.2.2.1 (cK k) ih.2.2.2.2.2.1 (bT k) ih.2.2.2.2.2.2.1 (bL k) ih.2.2.2.2.2.2.2 ql gT hz hq,fun ql gT ZW fq iQ hz  Q hq=>Dv (aR k) ih.1 (aZ k) ih.2.1 (bP k) ih.2.2.1 (bW k) ih.2.2.2.1 (bZ k) ih.2.2.2.2.1 (cK k) ih.2.2.2.2.2.1 (bT k) ih.2.2.2.2.2.2.1 (bL k) ih.2.2.2.2.2.2.2 ql gT ZW hz hq,fun ql gT fq iQ hz  Q hq=>GK (aR k) ih.1 (aZ k) ih.2.1 (bP k) ih.2.2.1 (bW k) ih.2.2.2.1 (bZ k) ih.2.2.2.2.1 (cK k) ih.2.2.2.2.2.1 (bT k) ih.2.2.2.2.2.2.1 (bL k) ih.2.2.2.2.2.2.2 ql gT hz hq,fun ql gT fq iQ hz  Q hq=>GL (aR k) ih.1 (aZ k) ih.2.1 (bP k) ih.2.2.1 (bW k) ih.2.2.2.1 (bZ k) ih.2.2.2.2.1 (cK k) ih.2.2.2.2.2.1 (bT k) ih.2.2.2.2.2.2.1 (bL k) ih.2.2.2.2.2.2.2 ql gT hz hq,fun ql gT fq iQ hz  Q hq=>G9 (aR k) ih.1 (aZ k) ih.2.1 (bP k) ih.2.2.1 (bW k) ih.2.2.2.1 (bZ k) ih.2.2.2.2.1 (cK k) ih.2.2.2.2.2.1 (bT k) ih.2.2.2.2.2.2.1 (bL k) ih.2.2.2.2.2.2.2 ql gT hz hq,fun ql gT rZ fq iQ hz  Q hq=>G8 (aR k) ih.1 (aZ k) ih.2.1 (bP k) ih.2.2.1 (bW k) ih.2.2.2.1 (bZ k) ih.2.2.2.2.1 (cK k) ih.2.2.2.2.2.1 (bT k) ih.2.2.2.2.2.2.1 (bL k) ih.2.2.2.2.2.2.2 ql gT rZ hz hq,fun ql gT Gj fq iQ hz  Q hq=>G_ (aR k) ih.1 (aZ k) ih.2.1 (bP k) ih.2.2.1 (bW k) ih.2.2.2.1 (bZ k) ih.2.2.2.2.1 (cK k) ih.2.2.2.2.2.1 (bT k) ih.2.2.2.2.2.2.1 (bL k) ih.2.2.2.2.2.2.2 ql gT Gj hz hq,fun ql gT fq iQ hz  Q hq=>EC (aR k) ih.1 (aZ k) ih.2.1 (bP k) ih.2.2.1 (bW k) ih.2.2.2.1 (bZ k) ih.2.2.2.2.1 (cK k) ih.2.2.2.2.2.1 (bT k) ih.2.2.2.2.2.2.1 (bL k) ih.2.2.2.2.2.2.2 ql gT hz hq⟩
theorem vC(ql:Nat)(gT:au){fq:eX ay ak}{iQ:au}(hf:qH gT=some (fq,iQ)){Q:eP→List bC→Prop}(h:Q (pz fq) [.box ql (aW iQ)]):PC 173 [pP ql] [.box ql (aW gT)] Q:=
 ((gU BIG).1) ql gT hf h
theorem TM(ql:Nat)(gT:au)(ZW:Int){fq:eX ay ak}{iQ:au}(hf:EM gT ZW=some (fq,iQ)){Q:eP→List bC→Prop}(h:Q (pq fq) [.box ql (aW iQ)]):PC 244 [pP ql,iP ZW] [.box ql (aW gT)] Q:=
 ((gU BIG).2.1) ql gT ZW hf h
theorem XO(ql:Nat)(gT:au){fq:eX ay ak}{iQ:au}(hf:JV gT=some (fq,iQ)){Q:eP→List bC→Prop}(h:Q (sM fq) [.box ql (aW iQ)]):PC 311 [pP ql] [.box ql (aW gT)] Q:=
 ((gU BIG).2.2.1) ql gT hf h
theorem XP(ql:Nat)(gT:au){fq:eX ay ak}{iQ:au}(hf:JW gT=some (fq,iQ)){Q:eP→List bC→Prop}(h:Q (sN fq) [.box ql (aW iQ)]):PC 350 [pP ql] [.box ql (aW gT)] Q:=
 ((gU BIG).2.2.2.1) ql gT hf h
theorem Zz(ql:Nat)(gT:au){fq:eX ay ak}{iQ:au}(hf:KI gT=some (fq,iQ)){Q:eP→List bC→Prop}(h:Q (tH fq) [.box ql (aW iQ)]):PC 383 [pP ql] [.box ql (aW gT)] Q:=
 ((gU BIG).2.2.2.2.1) ql gT hf h
theorem Zy(ql:Nat)(gT:au)(rZ:Str){fq:eX ay ak}{iQ:au}(hf:KH gT rZ=some (fq,iQ)){Q:eP→List bC→Prop}(h:Q (tF fq) [.box ql (aW iQ)]):PC 411 [pP ql,.str rZ] [.box ql (aW gT)] Q:=
 ((gU BIG).2.2.2.2.2.1) ql gT rZ hf h
theorem ZA(ql:Nat)(gT:au)(Gj:Str){fq:eX ay (List ak)}{iQ:au}(hf:KJ gT Gj=some (fq,iQ)){Q:eP→List bC→Prop}(h:Q (tJ fq) [.box ql (aW iQ)]):PC 412 [pP ql,.str Gj] [.box ql (aW gT)] Q:=
 ((gU BIG).2.2.2.2.2.2.1) ql gT Gj hf h
theorem VL(ql:Nat)(gT:au){fq:eX ay ak}{iQ:au}(hf:GN gT=some (fq,iQ)){Q:eP→List bC→Prop}(h:Q (qB fq) [.box ql (aW iQ)]):PC 413 [pP ql] [.box ql (aW gT)] Q:=
 ((gU BIG).2.2.2.2.2.2.2) ql gT hf h
end
section
variable [BZ]
theorem Uz(MU:List aG){r0:ak}{r1 r2:Int}(hf:DT MU=some (r0,r1,r2))(h:Q (.ret (.tuple [.agg (cZ r0),iP r1,iP r2])) τ):PC 102 [.list (List.map aG.cells MU)] τ Q:=by
 unfold DT at hf;refine AC.none (AC.OH 17 [.cell 2 37,.cell 3 3,.cell 4 24] [0] [0,1,2] Tryz.func102 Z Z Z Z Z Tryz.func172 Z Z Z Z Z Z Z akm (AW.sr (AR.step Z Z Z (AO.aP Z nR (fun b2=>?_)))));refine AR.step Z Z Z (AO.aP Z alj (fun b3=>(AR.step Z Z Z (AO.aP Z abA (fun b4=>(AR.nil [0,2,3,4] Z (AW.sr ?_)))))));refine cs 1 Z (AR.step Z Z Z (AO.build Z ajE ahI Z (AR.step Z Z Z (AO.acK Z Z (fun b8=>(cs 1 Z ?_))))));refine AR.nil [2,3,4,5] Z (AW.sr (cs 1 Z (AR.defer (vs:=[.pointer (some ⟨b2,0,none⟩),.pointer (some ⟨b3,0,none⟩),.pointer (some ⟨b4,0,none⟩)]) Z Z Z Z Z Z ?_)));refine AR.nil [2,3,4,5] Z (AW.sr (cs 1 Z ?_));rcases dY hf with⟨f1,s1,h1,hf⟩|⟨e1,s1,h1,hf⟩
 ·refine AR.step Z Z Z (AO.call Z _ Z Z Np (AC.one 0 Z (vC _ _ h1 ⟨_,Z,?_⟩)));cases hf;refine⟨[.pointer (some ⟨b2,0,none⟩),.pointer (some ⟨b3,0,none⟩),.pointer (some ⟨b4,0,none⟩)],_,Z,Z,Z,(AR.step Z Z Z (AO.abP Z Z ahC (cs 3 Z (AR.step Z Z Z (AO.aP Z aes (fun b5=>?_))))))⟩;refine AR.dx Z Z (AO.eU (i:=0) Z Z Z aeR Z Z Z Z Z (cs 1 Z (AR.nil [0,1,2,3,4] Z (AW.sr ?_))));refine cs 1 Z (AR.nil [0,1,2,3,10] Z (AW.cond Z (fun _=>?_) (fun hh=>by cases hh)));refine AW.agt 1 5 7 [_] [_,_,_,_] mixed (by kernel_rfl) (by kernel_rfl) (by kernel_rfl) Z Z Z (List.Perm.refl _) ?_;refine Ev.cons Z Z Z (AO.build Z nR aar Z zg) (Ev.nil ?_);show Ev _ _ _ _ _ _ _;refine Ev.cs dK 1 Z (Ev.cons Z Z Z (AO.dh (i:=0) Z Z Z Cv Z Z zg) (Ev.cs dK 1 Z (Ev.cons Z Z Z (AO.dh (i:=0) Z Z Z tV Z Z zg) ?_)));refine Ev.nil (TF.dx Z Z (AO.eU (i:=3) Z Z Z lG Z Z Z Z Z (TF.dx Z Z (AO.eU (i:=2) Z Z Z Cv Z Z Z Z Z (TF.nil ?_)))));show AR _ _ _ _ _ _ _ _;refine AR.dx Z Z (AO.eU (i:=2) Z Z Z tV Z Z Z Z Z (AR.nil [] Z ?_));exact⟨rfl,_,⟨_,_,rfl,⟨_,_,4,_,_,rfl,rfl,lG,rfl⟩,⟨_,_,rfl,⟨_,_,3,_,_,rfl,rfl,Cv,rfl⟩,⟨_,_,rfl,⟨_,_,2,_,_,rfl,rfl,tV,rfl⟩,rfl⟩⟩⟩,[],apZ _,h⟩
 refine AR.step Z Z Z (AO.call Z _ Z Z Np (AC.one 0 Z (vC _ _ h1 ⟨_,Z,?_⟩)));cases hf;refine AR.dx Z Z (AO.eU (i:=3) Z Z Z lG Z Z Z Z Z (AR.nil [2,3,4,5] Z (AW.seq (AW.Zn 1 5 6 3 mixed (by kernel_rfl) (by kernel_rfl) (by kernel_rfl) Z Z Z Z ?_))));refine Ev.cons Z Z Z (AO.dh (i:=3) Z Z Z lG Z Z zg) (Ev.nil ?_);show Ev _ _ _ _ _ _ _;refine Ev.cs dK 3 Z (Ev.cons Z Z Z (AO.dh (i:=0) Z Z Z Cv Z Z zg) (Ev.nil (TF.dx Z Z (AO.eU (i:=0) Z Z Z lG Z Z Z Z Z ?_))));refine TF.nil ?_;show AR _ _ _ _ _ _ _ _;refine AR.dx Z Z (AO.eU (i:=2) Z Z Z Cv Z Z Z Z Z (AR.dx Z Z (AO.eU (i:=1) Z Z Z tV Z Z Z Z Z (AR.nil [2,3,4] Z (AW.ret ?_)))));refine⟨[.pointer (some ⟨b2,0,none⟩),.pointer (some ⟨b3,0,none⟩),.pointer (some ⟨b4,0,none⟩)],_,Z,Z,Z,(AR.step Z Z Z (AO.Yf (p:=.agg [iP 0,iP 0]) Z Z ahE (fun _ _=>by simp only[dP];exact⟨[.int .i64 0,.int .i64 0],Z,bA.cons (by simp[dP]) (bA.cons (by simp[dP]) bA.nil)⟩) ?_))⟩;refine cs 3 Z (AR.step Z Z Z (AO.aP Z aes (fun b5=>(AR.dx Z Z (AO.eU (i:=0) Z Z Z aeR Z Z Z Z Z (cs 1 Z ?_))))));refine AR.nil [4] Z (AW.sr (cs 1 Z (AR.nil [10] Z ?_)));refine AW.cond Z (fun hh=>by cases hh) (fun _=>?_);refine AW.skip ?_;exact⟨rfl,_,⟨_,_,rfl,⟨_,_,4,_,_,rfl,rfl,lG,rfl⟩,⟨_,_,rfl,⟨_,_,3,_,_,rfl,rfl,Cv,rfl⟩,⟨_,_,rfl,⟨_,_,2,_,_,rfl,rfl,tV,rfl⟩,rfl⟩⟩⟩,[],apZ _,h⟩
end
abbrev Jo(j_:ak→Option Int):Prop:=∀(kS:ak) {dI:Int},j_ kS=some dI→∀ {τ:List bC} {Q:eP→List bC→Prop} (h:Q (.ret (iP dI)) τ),PC 108 [.agg (cZ kS)] τ Q
theorem Qo(j_)(ND:Jo j_)(e1:ak){r0:Int}(hf:yg j_ e1=some r0)(h:Q (.ret (iP r0)) τ):PC 108 [.agg (cZ e1)] τ Q:=by
 unfold yg at hf;refine BN 19 [.tmp 2] [0] Tryz.func108 Z Z Z Z Z (W 5 Z (AS Z (AO.bI (l:=e1.args) Z Z Z Z jD Z (ak.aQ _) (J 1 Z (LK2 (fun n1 x1=>[(3,iP n1),(7,.list (ak.bO e1.args)),(8,iP (e1.args.length:Int)),(9,iP x1)]) (fun n1 x1=>[]) (fun dL n1 x1=>su j_ e1 dL n1 x1=some r0) BIG 1 0 Z Z hf (fun _ _ hz=>dH hz) ?_)))));intro dL n1 x1 hf;rw[su]at hf;refine V 1 Z (C hf Z (fun h1 hf=>?_) fun h1 hf=>?_)
 ·refine B1 hf fun e2 h2 hf=>W 0 Z (AS Z (AO.bQ h2 Z Z (ak.aQ _) Z jD (ak.aV _) Z (U 1 Z (AS Z (AO.aP Z nR (fun b5=>?_))))));refine B1 hf fun x2 h3 hf=>Rr 3 [0,0] Z Z (CL Z (ND _ h3 (gy 4 Z (AR.drop1 ?_))));exact N 0 Z ⟨(bV (n1+x2)),(bV (x1+1)),Z,Z,Z,hf⟩
 cases hf;exact M 2 Z (Y Z h)
theorem RH:∀k:Nat,(Jo (lY k)):=by
 intro k
 induction k with
 | zero=>exact fun _ _ hz=>by first|cases hz|(unfold lY at hz;cases hz)
 | succ k ih=>exact fun kS dI hz τ Q hq=>Qo (lY k) ih kS hz hq
theorem Tc(kS:ak){dI:Int}(hf:Bt kS=some dI)(h:Q (.ret (iP dI)) τ):PC 108 [.agg (cZ kS)] τ Q:=
 ((RH BIG)) kS hf h
theorem Ux(v1:ah){r0:Bool}(hf:DR v1=some r0)(h:Q (.ret (.bool r0)) τ):PC 251 [.agg (aX v1)] τ Q:=by
 unfold DR at hf;refine BN 33 [.tmp 2] [0] Tryz.func251 Z Z Z Z Z (W 6 Z (An 4 6 10 [1] (!v1.dR) Z Z Z Z (U 1 Z (An 4 11 15 [1] (v1.dA==0) Z Z Z Z (U 1 Z (An 4 16 20 [1] (v1.bR==([]:Str)) Z Z Z Z ?_))))));refine U 1 Z (AR.and 5 21 26 [1] (x:=((v1.aN.length:Int)==0)) Z Z (fun h4=>?_) (fun h4=>?_) ?_)
 ·refine Is 21 h4 Z (U 2 Z (GO Z (AO.bI (l:=v1.aN) Z Z Z Z jV Z (ah.aQ _) ?_)));exact gy 2 Z (En [26,1] Z)
 ·refine Is 21 h4 Z ?_;exact gy 5 Z (En [26,1] Z)
 refine U 1 Z (AR.and 5 27 32 [] (x:=((v1.keys.length:Int)==0)) Z Z (fun h5=>?_) (fun h5=>?_) ?_)
 ·refine Is 27 h5 Z (U 2 Z (GO Z (AO.bI (l:=v1.keys) Z Z Z Z ku Z Z ?_)));exact gy 2 Z (En [32] Z)
 ·refine Is 27 h5 Z ?_;exact gy 5 Z (En [32] Z)
 cases hf;exact N 1 Z (Y Z h)
theorem Dm(s1:Str){r0:Bool}(hf:oh s1=some r0)(h:Q (.ret (.bool r0)) τ):PC 318 [.str s1] τ Q:=by
 unfold oh at hf;refine BN 10 [.tmp 2] [0] Tryz.func318 Z Z Z Z Z ?_;refine B1 hf fun x1 h1 hf=>W 2 Z (CL Z (Kj _ h1 ?_));refine BR hf fun b1 h3 hf=>?_;refine U 1 Z (AR.fT 4 5 9 true [] b1 Z Z (fun h2=>?_) (fun h2=>?_) ?_)
 ·refine IT 5 h2 h3 Z fun h3=>?_;refine B1 h3 fun x2 h4 h3=>U 1 Z (GO Z (AO.call Z _ Z Z afm (Ew _ h4 ?_)));cases h3;exact gy 2 Z (En [9] Z)
 ·refine IF 5 h2 h3 Z fun h3=>?_;cases h3;exact gy 4 Z (En [9] Z)
 cases hf;exact N 1 Z (Y Z h)
theorem SX(e1:ak){r0:Bool}(hf:xX e1=some r0)(h:Q (.ret (.bool r0)) τ):PC 252 [.agg (cZ e1)] τ Q:=by
 unfold xX at hf;refine BN 31 [.tmp 2] [0] Tryz.func252 Z Z Z Z Z (V 6 Z (C hf Z (fun h1 hf=>?_) fun h1 hf=>?_))
 ·refine V 0 Z (AW.cond Z (fun h2=>?_) (fun h2=>?_))
  ·refine BR hf fun x1 h3 hf=>?_;refine W 2 Z (CL Z (Dm _ h3 ?_));cases hf;exact N 1 Z (Y Z h)
  cases h1.symm.trans h2
 refine V 2 Z (C hf Z (fun h4 hf=>?_) fun h4 hf=>?_)
 ·refine V 0 Z (AW.cond Z (fun h5=>?_) (fun h5=>?_))
  ·refine BR hf fun x2 h6 hf=>?_;refine W 2 Z (CL Z (Dm _ h6 ?_));cases hf;exact N 1 Z (Y Z h)
  cases h4.symm.trans h5
 refine V 2 Z (C hf Z (fun h7 hf=>?_) fun h7 hf=>?_)
 ·refine BR hf fun x3 h8 hf=>?_;refine W 2 Z (CL Z (Dm _ h8 ?_));cases hf;exact N 1 Z (Y Z h)
 refine V 2 Z (C hf Z (fun h9 hf=>?_) fun h9 hf=>?_)
 ·refine W 4 Z (On 4 17 21 [] (e1.name==([45]:Str)) Z Z Z Z ?_);cases hf;exact N 1 Z (Y Z h)
 refine V 2 Z (C hf Z (fun h11 hf=>?_) fun h11 hf=>?_)
 ·refine B1 hf fun x4 h12 hf=>W 2 Z (CL Z (sW _ h12 ?_));cases hf;exact N 2 Z (Y Z h)
 cases hf;exact M 4 Z (Y Z h)
theorem S_(e1:ak){r0:Bool}(hf:xZ e1=some r0)(h:Q (.ret (.bool r0)) τ):PC 253 [.agg (cZ e1)] τ Q:=by
 unfold xZ at hf;refine BN 32 [.tmp 2] [0] Tryz.func253 Z Z Z Z Z (V 6 Z (C hf Z (fun h1 hf=>?_) fun h1 hf=>?_))
 ·refine V 0 Z (AW.cond Z (fun h2=>?_) (fun h2=>?_))
  ·refine W 2 Z (AS Z (AO.bI (l:=e1.args) Z Z Z Z jD Z (ak.aQ _) ?_));cases hf;exact N 2 Z (Y Z h)
  cases h1.symm.trans h2
 refine V 2 Z (C hf Z (fun h3 hf=>?_) fun h3 hf=>?_)
 ·refine W 2 Z (AS Z (AO.bI (l:=e1.args) Z Z Z Z jD Z (ak.aQ _) ?_));cases hf;exact N 2 Z (Y Z h)
 refine V 2 Z (C hf Z (fun h4 hf=>?_) fun h4 hf=>?_)
 ·refine V 0 Z (AW.cond Z (fun h5=>?_) (fun h5=>?_))
  ·refine W 2 Z (AS Z (AO.bI (l:=e1.args) Z Z Z Z jD Z (ak.aQ _) ?_));cases hf;exact N 2 Z (Y Z h)
  cases h4.symm.trans h5
 refine V 2 Z (C hf Z (fun h6 hf=>?_) fun h6 hf=>?_)
 ·refine W 2 Z (AS Z (AO.bI (l:=e1.args) Z Z Z Z jD Z (ak.aQ _) ?_));cases hf;exact N 2 Z (Y Z h)
 refine V 2 Z (C hf Z (fun h7 hf=>?_) fun h7 hf=>?_)
 ·refine V 0 Z (AW.cond Z (fun h8=>?_) (fun h8=>?_))
  ·refine W 2 Z (AS Z (AO.bI (l:=e1.args) Z Z Z Z jD Z (ak.aQ _) ?_));cases hf;exact N 2 Z (Y Z h)
  cases h7.symm.trans h8
 refine V 2 Z (C hf Z (fun h9 hf=>?_) fun h9 hf=>?_)
 ·refine W 2 Z (AS Z (AO.bI (l:=e1.args) Z Z Z Z jD Z (ak.aQ _) ?_));cases hf;exact N 2 Z (Y Z h)
 refine V 2 Z (C hf Z (fun h10 hf=>?_) fun h10 hf=>?_)
 ·refine W 2 Z (AS Z (AO.bI (l:=e1.args) Z Z Z Z jD Z (ak.aQ _) ?_));cases hf;exact N 2 Z (Y Z h)
 cases hf;exact M 1 Z (Y Z h)
theorem wV(s1:List Str)(f1:Str→Option Bool)(Xk:FuncId)(f1C:List PV)(f1P:bN Tryz.prog Xk=true)(f1H:∀a0 b0,f1 a0=some b0→∀ {τ:List bC} {Q:eP→List bC→Prop},Q (.ret (.bool b0)) τ→PC Xk ([.str a0]++f1C) τ Q){r0:Int}(hf:jH s1 f1=some r0)(h:Q (.ret (iP r0)) τ):PC 356 [sP s1,.fn Xk f1C] τ Q:=by
 unfold jH at hf;refine BN 19 [.tmp 4] [0,1] Tryz.func356 Z Z Z Z Z (W 2 Z (AS Z (AO.bI (l:=s1) Z Z Z Z ku Z Z (J 1 Z (XK (fun i1=>[(0,sP s1),(1,.fn Xk f1C),(7,iP (s1.length:Int)),(8,iP i1)]) (fun i1=>[]) (fun dL i1=>g_ s1 f1 dL i1=some r0) BIG 0 Z Z hf (fun _ hz=>dH hz) ?_)))));intro dL i1 hf;rw[g_]at hf;refine V 1 Z (C hf Z (fun h1 hf=>?_) fun h1 hf=>?_)
 ·refine B1 hf fun e1 h2 hf=>W 5 Z (AS Z (AO.bQ h2 Z Z Z Z ku Z Z ?_));refine B1 hf fun x1 h3 hf=>U 1 Z (AS Z (AO.call Z _ Z Z f1P (f1H _ _ h3 (J 0 Z (C hf Z (fun h4 hf=>?_) fun h4 hf=>?_)))))
  ·cases hf;exact M 2 Z (Y Z h)
  exact M 2 Z ⟨(bV (i1+1)),Z,Z,Z,hf⟩
 cases hf;exact M 1 Z (Y Z h)
theorem vk(s1:List Str)(f1:Str→Option Bool)(Xk:FuncId)(f1C:List PV)(f1P:bN Tryz.prog Xk=true)(f1H:∀a0 b0,f1 a0=some b0→∀ {τ:List bC} {Q:eP→List bC→Prop},Q (.ret (.bool b0)) τ→PC Xk ([.str a0]++f1C) τ Q){r0:Bool}(hf:h_ s1 f1=some r0)(h:Q (.ret (.bool r0)) τ):PC 319 [sP s1,.fn Xk f1C] τ Q:=by
 unfold h_ at hf;refine BN 9 [.tmp 4] [0,1] Tryz.func319 Z Z Z Z Z ?_;refine B1 hf fun x1 h1 hf=>W 3 Z (CL Z (wV _ f1 Xk f1C f1P @f1H h1 ?_));cases hf;exact N 2 Z (Y Z h)
theorem NT(GY:Str){r0:Bool}(hf:kX GY=some r0)(h:Q (.ret (.bool r0)) τ):PC 320 [.str GY] τ Q:=by
 unfold kX at hf;refine BN 11 [.tmp 2] [0] Tryz.func320 Z Z Z Z Z (W 2 Z (AS Z (AO.eG Z Z Z Z fD Z (U 2 Z (AR.or 4 6 10 [] (x:=(decide (64<(GY.length:Int)))) Z Z (fun h1=>?_) (fun h1=>?_) ?_)))))
 ·refine Is 6 h1 Z (U 1 Z (GO Z (AO.eG Z Z Z Z fD Z ?_)));exact gy 2 Z (En [10] Z)
 ·refine Is 6 h1 Z ?_;exact gy 4 Z (En [10] Z)
 cases hf;exact N 1 Z (Y Z h)
theorem SY(e1:ak){r0:Bool}(hf:xY e1=some r0)(h:Q (.ret (.bool r0)) τ):PC 254 [.agg (cZ e1)] τ Q:=by
 unfold xY at hf;refine BN 23 [.tmp 2] [0] Tryz.func254 Z Z Z Z Z (V 5 Z (C hf Z (fun h1 hf=>?_) fun h1 hf=>?_))
 ·refine W 2 Z (AS Z (AO.bI (l:=e1.keys) Z Z Z Z ku Z Z ?_));cases hf;exact N 2 Z (Y Z h)
 refine W 2 Z (AS Z (AO.bI (l:=e1.keys) Z Z Z Z ku Z Z (U 2 Z (AS Z (AO.bI (l:=e1.args) Z Z Z Z jD Z (ak.aQ _) ?_)))));refine BR hf fun b1 h3 hf=>?_;refine U 2 Z (AR.fT 5 17 22 true [] b1 Z Z (fun h2=>?_) (fun h2=>?_) ?_)
 ·refine IT 17 h2 h3 Z fun h3=>?_;refine B1 h3 fun x1 h4 h3=>U 2 Z (GO Z (AO.call Z _ Z Z aj4 (vk _ kX 320 [] aj3 (fun _ _ hz=>NT _  hz) h4 ?_)));cases h3;exact gy 2 Z (En [22] Z)
 ·refine IF 17 h2 h3 Z fun h3=>?_;cases h3;exact gy 5 Z (En [22] Z)
 cases hf;exact N 1 Z (Y Z h)
theorem V6{β:Type}(l:Nat)(T:β→List bC)(go:β→ah→Int→Option (Bool × β))
  (goH:∀s1 v1 b_ b s2,go s1 v1 b_=some (b,s2)→∀ {Q:eP→List bC→Prop},Q (.ret (.bool b)) (T s2)→PC 197 [.agg (aX v1),iP b_,.val (.func (.yield l) #[] #[])] (T s1) Q)
  (y:β→Int→ah→Option (Bool × β)) (hy:∀s1 b_ v1 b s2,y s1 b_ v1=some (b,s2)→AY Tryz.prog l [iP b_,.agg (aX v1)] (T s1) (fun out σ'=>out=.ret (.bool b)∧σ'=T s2))
  (s1:β) (v1:ah) (b_:Int) {b:Bool} {s2:β} (hf:uP go y s1 v1 b_=some (b,s2)) {Q:eP→List bC→Prop} (h:Q (.ret (.bool b)) (T s2)):
  PC 197 [.agg (aX v1),iP b_,.val (.func (.yield l) #[] #[])] (T s1) Q:=by
 unfold uP at hf;refine AC.mD 28 [.tmp 6] [0,1,2] Tryz.func197 Z Z Z Z Z (AW.sr (AR.step Z Z Z (AO.Gc Z Z Z (cs 1 Z ?_))));refine AR.nil [1,2,3] Z (AW.seq (AW.seq (AW.abZ ?_)));refine E9.step Z Z Z Z (AO.calc' Z (E9.step Z Z Z Z (AO.calc' Z (E9.step Z Z Z Z (AO.EO Z Z tQ Z ?_)))));obtain⟨b1,s3,h1,hf⟩:=dD hf;refine E9.yield Z Z Z Z Z _ Z Z (hy _ _ _ _ _ h1) (E9.of Z (cs 1 Z (AR.nil [1,2,3,13] Z ?_)));refine AW.cond Z (fun h2=>?_) (fun h2=>?_)
 ·replace hf:=pV h2 hf;refine AW.sr (cs 1 Z (AR.nil [6] Z (AW.ret ?_)));cases hf;exact⟨rfl,_,⟨_,_,rfl,rfl,rfl⟩,_,List.Sublist.refl _,h⟩
 replace hf:=nU h2 hf;refine AW.skip (AW.seq (AW.sr (cs 2 Z ?_)));refine AR.step Z Z Z (AO.bI (l:=v1.aN) Z Z Z Z jV Z ((ah.aQ _)) (cs 1 Z (AR.nil [1,2,15,16,17] Z (AW.block ?_))));refine AW.akE (fun(_:β) i1=>[(1,iP b_),(2,.val (.func (.yield l) #[] #[])),(15,.list (ah.bO v1.aN)),(16,iP (v1.aN.length:Int)),(17,iP i1)]) (fun s1 _=>T s1) (fun dL s1 i1=>lS go v1 b_ dL s1 i1=some (b,s2)) BIG s3 0 Z Z hf (fun _ _ hz=>dH hz) ?_;intro dL s4 i1 hf;rw[lS]at hf;refine AW.sr (cs 1 Z (AR.nil [1,2,15,16,17,18] Z (AW.seq ?_)));refine AW.cond Z (fun h1=>?_) (fun h1=>?_)
 ·replace hf:=pV h1 hf;refine AW.skip (AW.seq (AW.block (AW.sr ?_)));refine B1 hf fun x1 h3 hf=>AR.step Z Z Z (AO.bQ h3 Z Z ((ah.aQ _)) Z jV ((ah.aV _)) Z (cs 1 Z (AR.step Z Z Z (AO.aP Z iX (fun b8=>(AR.dx Z Z (AO.eU (i:=0) Z Z Z tQ Z Z Z Z Z ?_)))))));refine AR.nil [1,2,8,15,16,17] Z (AW.sr (AR.step Z Z Z (AO.dh (i:=0) Z Z Z tQ Z Z (cs 3 Z ?_))));obtain⟨b2,s5,h4,hf⟩:=dD hf;refine AR.drop1 (AR.step Z Z Z (AO.call Z _ Z Z akl (goH _ _ _ _ _ h4 (cs 1 Z (AR.nil [1,2,15,16,17,26] Z ?_)))));refine AW.cond Z (fun h5=>?_) (fun h5=>?_)
  ·replace hf:=pV h5 hf;refine AW.sr (cs 1 Z (AR.nil [6] Z (AW.ret ?_)));cases hf;exact⟨rfl,_,⟨_,_,rfl,rfl,rfl⟩,_,List.Sublist.refl _,h⟩
  replace hf:=nU h5 hf;refine AW.skip (AW.region (cs 2 Z (AR.nil [1,2,15,16,17] Z ?_)));exact⟨s5,(bV (i1+1)),Z,Z,Z,hf⟩
 replace hf:=nU h1 hf;refine AW.exit (AW.sr (cs 1 Z (AR.nil [6] Z ?_)));refine AW.ret ?_;cases hf;exact⟨rfl,_,⟨_,_,rfl,rfl,rfl⟩,_,List.Sublist.refl _,h⟩
theorem L_{β:Type}(l:Nat)(T:β→List bC)(y:β→Int→ah→Option (Bool × β))(hy:∀s1 b_ v1 b s2,y s1 b_ v1=some (b,s2)→AY Tryz.prog l [iP b_,.agg (aX v1)] (T s1) (fun out σ'=>out=.ret (.bool b)∧σ'=T s2)):
  ∀(k:Nat) (s1:β) (v1:ah) (b_:Int) (b:Bool) (s2:β),gW y k s1 v1 b_=some (b,s2)→∀ {Q:eP→List bC→Prop},Q (.ret (.bool b)) (T s2)→PC 197 [.agg (aX v1),iP b_,.val (.func (.yield l) #[] #[])] (T s1) Q
 | 0,_,_,_,_,_,hz=>by cases hz
 | k+1,s1,v1,b_,b,s2,hz=>fun h=>V6 l T (gW y k) (fun s1 v1 b_ b s2 hz=>L_ l T y hy k s1 v1 b_ b s2 hz) y hy s1 v1 b_ hz h
theorem Gv{β:Type}(l:Nat)(T:β→List bC)(y:β→Int→ah→Option (Bool × β))(hy:∀s1 b_ v1 b s2,y s1 b_ v1=some (b,s2)→AY Tryz.prog l [iP b_,.agg (aX v1)] (T s1) (fun out σ'=>out=.ret (.bool b)∧σ'=T s2))
    (s1:β) (v1:ah) (b_:Int) {b:Bool} {s2:β} (hf:Cr y s1 v1 b_=some (b,s2)) {Q:eP→List bC→Prop} (h:Q (.ret (.tuple [])) (T s2)):
    PC 196 [.val (.func (.yield l) #[] #[]),.ref (aX v1),.ref [iP b_]] (T s1) Q:=by
 refine BD 8 [] [0,1,2] Tryz.func196 Z Z Z Z Z (W 3 Z (CL Z (L_ l T y hy BIG _ _ _ _ _ hf ?_)));exact N 0 rfl ⟨rfl,_,rfl,_,List.Sublist.refl _,h⟩
theorem Kg(v1:ah)(b_:Int)(h:Q (.ret (.fn 196 [.ref (aX v1),.ref [iP b_]])) τ):PC 123 [.agg (aX v1),iP b_] τ Q:=by
 refine BN 6 [.tmp 4] [0,1] Tryz.func123 Z Z Z Z Z ?_;exact M 5 Z (Y Z h)
theorem SN(v1:ah){r0:Bool}(hf:A9 v1=some r0)(h:Q (.ret (.bool r0)) τ):PC 198 [.agg (aX v1)] τ Q:=by
 unfold A9 at hf;refine BN 58 [.tmp 2] [0] Tryz.func198 Z Z Z Z Z (W 6 Z (On 4 6 10 [1] (!v1.dR) Z Z Z Z (U 1 Z (AR.and 9 11 20 [1] (x:=((v1.kind==2)||(v1.dA==0))) Z Z (fun h2=>?_) (fun h2=>?_) ?_))))
 ·refine Is 11 h2 Z (U 4 Z (On 4 15 19 [1,11] (v1.dA==0) Z Z Z Z ?_));exact gy 1 Z (En [20,1] Z)
 ·refine Is 11 h2 Z ?_;exact gy 9 Z (En [20,1] Z)
 refine U 1 Z (AR.and 9 21 30 [1] (x:=((v1.kind==3)||(v1.bR==([]:Str)))) Z Z (fun h4=>?_) (fun h4=>?_) ?_)
 ·refine Is 21 h4 Z (U 4 Z (On 4 25 29 [1,21] (v1.bR==([]:Str)) Z Z Z Z ?_));exact gy 1 Z (En [30,1] Z)
 ·refine Is 21 h4 Z ?_;exact gy 9 Z (En [30,1] Z)
 refine U 1 Z (AR.and 15 31 46 [1] (x:=(((v1.kind==4)||(v1.kind==5))||((v1.aN.length:Int)==0))) Z Z (fun h6=>?_) (fun h6=>?_) ?_)
 ·refine Is 31 h6 Z (U 4 Z (On 4 35 39 [1,31] (v1.kind==5) Z Z Z Z (U 1 Z (AR.or 5 40 45 [1,31] (x:=((v1.aN.length:Int)==0)) Z Z (fun h8=>?_) (fun h8=>?_) ?_))))
  ·refine Is 40 h8 Z (U 2 Z (GO Z (AO.bI (l:=v1.aN) Z Z Z Z jV Z (ah.aQ _) ?_)));exact gy 2 Z (En [45,1,31] Z)
  ·refine Is 40 h8 Z ?_;exact gy 5 Z (En [45,1,31] Z)
  exact gy 1 Z (En [46,1] Z)
 ·refine Is 31 h6 Z ?_;exact gy 15 Z (En [46,1] Z)
 refine U 1 Z (AR.and 10 47 57 [] (x:=((v1.kind==5)||((v1.keys.length:Int)==0))) Z Z (fun h9=>?_) (fun h9=>?_) ?_)
 ·refine Is 47 h9 Z (U 4 Z (AR.or 5 51 56 [47] (x:=((v1.keys.length:Int)==0)) Z Z (fun h10=>?_) (fun h10=>?_) ?_))
  ·refine Is 51 h10 Z (U 2 Z (GO Z (AO.bI (l:=v1.keys) Z Z Z Z ku Z Z ?_)));exact gy 2 Z (En [56,47] Z)
  ·refine Is 51 h10 Z ?_;exact gy 5 Z (En [56,47] Z)
  exact gy 1 Z (En [57] Z)
 ·refine Is 47 h9 Z ?_;exact gy 10 Z (En [57] Z)
 cases hf;exact N 1 Z (Y Z h)
theorem UJ(c1:UInt8){r0:Bool}(hf:DW c1=some r0)(h:Q (.ret (.bool r0)) τ):PC 298 [.int .u8 (c1.toNat:Int)] τ Q:=by
 unfold DW at hf;refine BN 9 [.tmp 2] [0] Tryz.func298 Z Z Z Z Z (W 4 Z (An 3 5 8 [] (decide ((c1.toNat:Int)≤57)) Z Z Z Z ?_));cases hf;exact N 1 Z (Y Z h)
theorem OP(s1:Str){r0:Int}(hf:Cg s1=some r0)(h:Q (.ret (iP r0)) τ):PC 217 [.str s1] τ Q:=by
 unfold Cg at hf;refine BN 17 [.tmp 2] [0] Tryz.func217 Z Z Z Z Z (V 2 Z (XK (fun n1=>[(0,.str s1),(3,iP n1)]) (fun n1=>[]) (fun dL n1=>yF s1 dL n1=some r0) BIG 0 Z Z hf (fun _ hz=>dH hz) ?_));intro dL n1 hf;rw[yF]at hf;refine W 2 Z (AS Z (AO.eG Z Z Z Z fD Z ?_));refine B1 hf fun b1 h2 hf=>U 2 Z (AR.fT 5 8 13 true [0,3] b1 Z Z (fun h1=>?_) (fun h1=>?_) ?_)
 ·refine IT 8 h1 h2 Z fun h2=>?_;refine B1 h2 fun x1 h3 h2=>U 2 Z (GO Z (AO.ig h3 Z fD Z Z ?_));refine BR h2 fun x2 h4 h2=>?_;refine GO Z (AO.call Z _ Z Z aj5 (UJ _ h4 ?_));cases h2;exact gy 1 Z (En [13,0,3] Z)
 ·refine IF 8 h1 h2 Z fun h2=>?_;cases h2;exact gy 5 Z (En [13,0,3] Z)
 refine J 0 Z (C hf Z (fun h5 hf=>?_) fun h5 hf=>?_)
 ·exact M 3 Z ⟨(bV (n1+1)),Z,Z,Z,hf⟩
 cases hf;exact M 2 Z (Y Z h)
theorem Ga(s1:Str)(c1:UInt8){r0:Str}(hf:strings_trimLeftByte s1 c1=some r0)(h:Q (.ret (.str r0)) τ):PC 344 [.str s1,.int .u8 (c1.toNat:Int)] τ Q:=by
 unfold strings_trimLeftByte at hf;refine BN 17 [.tmp 4] [0,1] Tryz.func344 Z Z Z Z Z (V 1 Z (XK (fun s2=>[(0,.str s2),(1,.int .u8 (c1.toNat:Int))]) (fun s2=>[]) (fun dL s2=>iR c1 dL s2=some r0) BIG s1 Z Z hf (fun _ hz=>dH hz) ?_));intro dL s2 hf;rw[iR]at hf;refine W 1 Z (AS Z (AO.eG Z Z Z Z fD Z ?_));refine B1 hf fun b1 h2 hf=>U 2 Z (AR.fT 5 8 13 true [0,1] b1 Z Z (fun h1=>?_) (fun h1=>?_) ?_)
 ·refine IT 8 h1 h2 Z fun h2=>?_;refine B1 h2 fun x1 h3 h2=>U 1 Z (GO Z (AO.ig h3 Z fD Z Z ?_));cases h2;exact gy 3 Z (En [13,0,1] Z)
 ·refine IF 8 h1 h2 Z fun h2=>?_;cases h2;exact gy 5 Z (En [13,0,1] Z)
 refine J 0 Z (C hf Z (fun h4 hf=>?_) fun h4 hf=>?_)
 ·refine B1 hf fun s3 h5 hf=>W 1 Z (AS Z (AO.wQ h5 Z fD Z ⟨_,Z⟩ Z ?_));exact N 1 Z ⟨s3,Z,Z,Z,hf⟩
 cases hf;exact M 2 Z (Y Z h)
theorem Dj(s1 D6:Str){r0:Str}(hf:oH s1 D6=some r0)(h:Q (.ret (.str r0)) τ):PC 299 [.str s1,.str D6] τ Q:=by
 unfold oH at hf;refine BN 37 [.tmp 4] [0,1] Tryz.func299 Z Z Z Z Z (W 4 Z (On 3 9 12 [0,1] (D6==([]:Str)) Z Z Z Z (J 0 Z (C hf Z (fun h2 hf=>?_) fun h2 hf=>?_))))
 ·cases hf;exact M 2 Z (Y Z h)
 refine W 1 Z (AS Z (AO.eG Z Z Z Z fD Z ?_));refine B1 hf fun b1 h4 hf=>U 2 Z (AR.fT 4 17 21 true [0,1] b1 Z Z (fun h3=>?_) (fun h3=>?_) ?_)
 ·refine IT 17 h3 h4 Z fun h4=>?_;refine B1 h4 fun x1 h5 h4=>U 1 Z (GO Z (AO.ig h5 Z fD Z Z ?_));cases h4;exact gy 2 Z (En [21,0,1] Z)
 ·refine IF 17 h3 h4 Z fun h4=>?_;cases h4;exact gy 4 Z (En [21,0,1] Z)
 refine J 0 Z (C hf Z (fun h6 hf=>?_) fun h6 hf=>?_)
 ·refine B1 hf fun x2 h7 hf=>W 2 Z (AS Z (AO.ig h7 Z fD Z Z ?_));refine BR hf fun x3 h8 hf=>?_;refine CL Z (Ga _ _ h8 ?_);cases hf;exact N 1 Z (Y Z h)
 exact dH hf
theorem GA(x1:Int){r0:Bool}(hf:cmp_isNaN_int x1=some r0)(h:Q (.ret (.bool r0)) τ):PC 303 [iP x1] τ Q:=by
 unfold cmp_isNaN_int at hf;refine BN 6 [.tmp 2] [0] Tryz.func303 Z Z Z Z Z ?_;cases hf;exact M 5 Z (Y Z h)
theorem nD(x1 y1:Int){r0:Int}(hf:cmp_Compare_int x1 y1=some r0)(h:Q (.ret (iP r0)) τ):PC 220 [iP x1,iP y1] τ Q:=by
 unfold cmp_Compare_int at hf;refine BN 20 [.tmp 4] [0,1] Tryz.func220 Z Z Z Z Z ?_;refine B1 hf fun Oi h1 hf=>W 2 Z (CL Z (GA _ h1 ?_));refine B1 hf fun GZ h2 hf=>U 2 Z (CL Z (GA _ h2 (J 2 Z (C hf Z (fun h3 hf=>?_) fun h3 hf=>?_))))
 ·refine V 1 Z (C hf Z (fun h4 hf=>?_) fun h4 hf=>?_)
  ·cases hf;exact M 1 Z (Y Z h)
  cases hf;exact M 1 Z (Y Z h)
 refine V 1 Z (C hf Z (fun h5 hf=>?_) fun h5 hf=>?_)
 ·cases hf;exact M 1 Z (Y Z h)
 refine V 3 Z (C hf Z (fun h6 hf=>?_) fun h6 hf=>?_)
 ·cases hf;exact M 1 Z (Y Z h)
 refine V 3 Z (C hf Z (fun h7 hf=>?_) fun h7 hf=>?_)
 ·cases hf;exact M 1 Z (Y Z h)
 cases hf;exact M 1 Z (Y Z h)
theorem Dp(x1:Str){r0:Bool}(hf:cmp_isNaN_string x1=some r0)(h:Q (.ret (.bool r0)) τ):PC 348 [.str x1] τ Q:=by
 unfold cmp_isNaN_string at hf;refine BN 6 [.tmp 2] [0] Tryz.func348 Z Z Z Z Z ?_;cases hf;exact M 5 Z (Y Z h)
theorem Aq(x1 y1:Str){r0:Int}(hf:mK x1 y1=some r0)(h:Q (.ret (iP r0)) τ):PC 301 [.str x1,.str y1] τ Q:=by
 unfold mK at hf;refine BN 20 [.tmp 4] [0,1] Tryz.func301 Z Z Z Z Z ?_;refine B1 hf fun Oi h1 hf=>W 2 Z (CL Z (Dp _ h1 ?_));refine B1 hf fun GZ h2 hf=>U 2 Z (CL Z (Dp _ h2 (J 2 Z (C hf Z (fun h3 hf=>?_) fun h3 hf=>?_))))
 ·refine V 1 Z (C hf Z (fun h4 hf=>?_) fun h4 hf=>?_)
  ·cases hf;exact M 1 Z (Y Z h)
  cases hf;exact M 1 Z (Y Z h)
 refine V 1 Z (C hf Z (fun h5 hf=>?_) fun h5 hf=>?_)
 ·cases hf;exact M 1 Z (Y Z h)
 refine V 3 Z (C hf Z (fun h6 hf=>?_) fun h6 hf=>?_)
 ·cases hf;exact M 1 Z (Y Z h)
 refine V 3 Z (C hf Z (fun h7 hf=>?_) fun h7 hf=>?_)
 ·cases hf;exact M 1 Z (Y Z h)
 cases hf;exact M 1 Z (Y Z h)
theorem XD(Gi:List Int){r0:Int}(hf:Dc Gi=some r0)(h:Q (.ret (iP r0)) τ):PC 300 [.list (List.map af7 Gi)] τ Q:=by
 unfold Dc at hf;refine BN 18 [.tmp 2] [0] Tryz.func300 Z Z Z Z Z (W 3 Z (AS Z (AO.bI (l:=Gi) Z Z Z Z Xm Z Z (J 1 Z (XK (fun x1=>[(3,iP 0),(6,.list (List.map af7 Gi)),(7,iP (Gi.length:Int)),(8,iP x1)]) (fun x1=>[]) (fun dL x1=>wz Gi dL x1=some r0) BIG 0 Z Z hf (fun _ hz=>dH hz) ?_)))));intro dL x1 hf;rw[wz]at hf;refine V 1 Z (C hf Z (fun h1 hf=>?_) fun h1 hf=>?_)
 ·refine B1 hf fun acX h2 hf=>W 0 Z (AS Z (AO.bQ h2 Z Z Z Z Xm Z Z (J 5 Z (C hf Z (fun h3 hf=>?_) fun h3 hf=>?_))))
  ·cases hf;exact M 2 Z (Y Z h)
  exact M 2 Z ⟨(bV (x1+1)),Z,Z,Z,hf⟩
 cases hf;exact M 2 Z (Y Z h)
theorem Pq(a1 b1:Str){r0:Int}(hf:vX a1 b1=some r0)(h:Q (.ret (iP r0)) τ):PC 218 [.str a1,.str b1] τ Q:=by
 unfold vX at hf;refine BN 26 [.tmp 4] [0,1] Tryz.func218 Z Z Z Z Z ?_;refine B1 hf fun x1 h1 hf=>W 2 Z (CL Z (Dj _ _ h1 ?_));refine B1 hf fun y1 h2 hf=>U 1 Z (CL Z (Dj _ _ h2 (U 3 Z (AS Z (AO.eG Z Z Z Z fD Z (U 1 Z (AS Z (AO.eG Z Z Z Z fD Z ?_))))))));refine B1 hf fun x2 h3 hf=>CL Z (nD _ _ h3 ?_);refine B1 hf fun x3 h4 hf=>U 2 Z (CL Z (Aq _ _ h4 (U 1 Z (AS Z (AO.eG Z Z Z Z fD Z (U 1 Z (AS Z (AO.eG Z Z Z Z fD Z ?_))))))));refine B1 hf fun x4 h5 hf=>CL Z (nD _ _ h5 (AS Z (AO.dO (List.map af7 ([x2,x3,x4]:List Int)) Z ae0 Z Z Z Z ?_)));refine BR hf fun x5 h6 hf=>?_;refine CL Z (XD _ h6 ?_);cases hf;exact N 1 Z (Y Z h)
theorem EX(x1:UInt8){r0:Bool}(hf:uH x1=some r0)(h:Q (.ret (.bool r0)) τ):PC 302 [.int .u8 (x1.toNat:Int)] τ Q:=by
 unfold uH at hf;refine BN 6 [.tmp 2] [0] Tryz.func302 Z Z Z Z Z ?_;cases hf;exact M 5 Z (Y Z h)
theorem K7(x1 y1:UInt8){r0:Int}(hf:qU x1 y1=some r0)(h:Q (.ret (iP r0)) τ):PC 219 [.int .u8 (x1.toNat:Int),.int .u8 (y1.toNat:Int)] τ Q:=by
 unfold qU at hf;refine BN 20 [.tmp 4] [0,1] Tryz.func219 Z Z Z Z Z ?_;refine B1 hf fun Oi h1 hf=>W 2 Z (CL Z (EX _ h1 ?_));refine B1 hf fun GZ h2 hf=>U 2 Z (CL Z (EX _ h2 (J 2 Z (C hf Z (fun h3 hf=>?_) fun h3 hf=>?_))))
 ·refine V 1 Z (C hf Z (fun h4 hf=>?_) fun h4 hf=>?_)
  ·cases hf;exact M 1 Z (Y Z h)
  cases hf;exact M 1 Z (Y Z h)
 refine V 1 Z (C hf Z (fun h5 hf=>?_) fun h5 hf=>?_)
 ·cases hf;exact M 1 Z (Y Z h)
 refine V 3 Z (C hf Z (fun h6 hf=>?_) fun h6 hf=>?_)
 ·cases hf;exact M 1 Z (Y Z h)
 refine V 3 Z (C hf Z (fun h7 hf=>?_) fun h7 hf=>?_)
 ·cases hf;exact M 1 Z (Y Z h)
 cases hf;exact M 1 Z (Y Z h)
theorem wK(a1 b1:Str){r0:Int}(hf:jC a1 b1=some r0)(h:Q (.ret (iP r0)) τ):PC 136 [.str a1,.str b1] τ Q:=by
 unfold jC at hf;refine BN 59 [.tmp 4] [0,1] Tryz.func136 Z Z Z Z Z (V 1 Z (LK2 (fun a2 b2=>[(0,.str a2),(1,.str b2)]) (fun a2 b2=>[]) (fun dL a2 b2=>kG dL a2 b2=some r0) BIG a1 b1 Z Z hf (fun _ _ hz=>dH hz) ?_));intro dL a2 b2 hf;rw[kG]at hf;refine W 3 Z (An 3 10 13 [0,1] (!(b2==([]:Str))) Z Z Z Z (J 0 Z (C hf Z (fun h2 hf=>?_) fun h2 hf=>?_)))
 ·refine B1 hf fun n1 h3 hf=>W 1 Z (CL Z (OP _ h3 ?_));refine B1 hf fun m1 h4 hf=>U 1 Z (CL Z (OP _ h4 (U 5 Z (An 3 20 23 [0,1,5,6] (decide (0<m1)) Z Z Z Z (J 0 Z (C hf Z (fun h6 hf=>?_) fun h6 hf=>?_))))))
  ·refine V 0 Z (AW.draw 8 mixed (by kernel_rfl) Z ?_);refine Ev.cs dK 2 Z ?_;refine B1 hf fun x1 h7 hf=>Ev.cons Z Z Z (AO.wQ h7 Z fD Z Z ⟨_,Z⟩ zg) (Ev.cs dK 2 Z ?_);refine B1 hf fun x2 h8 hf=>Ev.cons Z Z Z (AO.wQ h8 Z fD Z Z ⟨_,Z⟩ zg) ?_;refine B1 hf fun c1 h9 hf=>Ev.cons Z Z Z (AO.call Z _ Z Z akg (Pq _ _ h9 zg)) (Ev.cs dK 1 Z (Ev.nil ?_));show AR _ _ _ _ _ _ _ _;refine J 2 Z (C hf Z (fun h10 hf=>?_) fun h10 hf=>?_)
   ·cases hf;exact M 2 Z (Y Z h)
   refine V 0 Z (AW.draw 8 mixed (by kernel_rfl) Z ?_);refine Ev.cs dK 2 Z ?_;refine B1 hf fun a3 h11 hf=>Ev.cons Z Z Z (AO.wQ h11 Z fD Z ⟨_,Z⟩ Z zg) (Ev.cs dK 2 Z ?_);refine B1 hf fun b3 h12 hf=>Ev.cons Z Z Z (AO.wQ h12 Z fD Z ⟨_,Z⟩ Z zg) (Ev.cs dK 2 Z (Ev.nil ?_));show AR _ _ _ _ _ _ _ _;exact N 0 Z ⟨a3,b3,Z,Z,Z,hf⟩
  refine V 0 Z (AW.draw 5 mixed (by kernel_rfl) Z ?_);refine Ev.cs dK 1 Z ?_;refine B1 hf fun x3 qp hf=>Ev.cons Z Z Z (AO.ig qp Z fD Z Z zg) (Ev.cs dK 1 Z ?_);refine B1 hf fun x4 oI hf=>Ev.cons Z Z Z (AO.ig oI Z fD Z Z zg) (Ev.cs dK 1 Z (Ev.nil ?_));show AR _ _ _ _ _ _ _ _;refine J 0 Z (C hf Z (fun vY hf=>?_) fun vY hf=>?_)
  ·refine V 0 Z (AW.draw 6 mixed (by kernel_rfl) Z ?_);refine Ev.cs dK 1 Z ?_;refine B1 hf fun x5 h16 hf=>Ev.cons Z Z Z (AO.ig h16 Z fD Z Z zg) (Ev.cs dK 1 Z ?_);refine B1 hf fun x6 AZ hf=>Ev.cons Z Z Z (AO.ig AZ Z fD Z Z zg) ?_;refine BR hf fun x7 h18 hf=>?_;refine Ev.cons Z Z Z (AO.call Z _ Z Z akf (K7 _ _ h18 zg)) (Ev.cs dK 1 Z (Ev.nil ?_));show AR _ _ _ _ _ _ _ _;cases hf;exact N 0 Z (Y Z h)
  refine V 0 Z (AW.draw 6 mixed (by kernel_rfl) Z ?_);refine Ev.cs dK 1 Z ?_;refine B1 hf fun a4 h19 hf=>Ev.cons Z Z Z (AO.wQ h19 Z fD Z ⟨_,Z⟩ Z zg) (Ev.cs dK 1 Z ?_);refine B1 hf fun b4 h20 hf=>Ev.cons Z Z Z (AO.wQ h20 Z fD Z ⟨_,Z⟩ Z zg) (Ev.cs dK 2 Z (Ev.nil ?_));show AR _ _ _ _ _ _ _ _;exact N 0 Z ⟨a4,b4,Z,Z,Z,hf⟩
 refine W 1 Z (AS Z (AO.eG Z Z Z Z fD Z (U 1 Z (AS Z (AO.eG Z Z Z Z fD Z ?_)))));refine BR hf fun x8 h21 hf=>?_;refine CL Z (nD _ _ h21 ?_);cases hf;exact N 1 Z (Y Z h)
theorem Uq(v1:ah){r0:Bool}(hf:zY v1=some r0)(h:Q (.ret (.bool r0)) τ):PC 199 [.agg (aX v1)] τ Q:=by
 unfold zY at hf;refine BN 44 [.tmp 2] [0] Tryz.func199 Z Z Z Z Z (W 4 Z (AS Z (AO.bI (l:=v1.keys) Z Z Z Z ku Z Z (U 2 Z (AS Z (AO.bI (l:=v1.aN) Z Z Z Z jV Z (ah.aQ _) (J 1 Z (C hf Z (fun h1 hf=>?_) fun h1 hf=>?_))))))))
 ·cases hf;exact M 1 Z (Y Z h)
 refine W 2 Z (AS Z (AO.bI (l:=v1.keys) Z Z Z Z ku Z Z (J 1 Z (XK (fun i1=>[(1,.ref (aX v1)),(13,sP v1.keys),(14,iP (v1.keys.length:Int)),(15,iP i1)]) (fun i1=>[]) (fun dL i1=>qE v1 dL i1=some r0) BIG 0 Z Z hf (fun _ hz=>dH hz) ?_))));intro dL i1 hf;rw[qE]at hf;refine V 1 Z (C hf Z (fun h2 hf=>?_) fun h2 hf=>?_)
 ·refine B1 hf fun GY h3 hf=>W 1 Z (AS Z (AO.bQ h3 Z Z Z Z ku Z Z (U 4 Z (AS Z (AO.eG Z Z Z Z fD Z (U 2 Z (AR.or 4 23 27 [1,3,4,13,14,15] (x:=(decide (64<(GY.length:Int)))) Z Z (fun h4=>?_) (fun h4=>?_) ?_)))))))
  ·refine Is 23 h4 Z (U 1 Z (GO Z (AO.eG Z Z Z Z fD Z ?_)));exact gy 2 Z (En [27,1,3,4,13,14,15] Z)
  ·refine Is 23 h4 Z ?_;exact gy 4 Z (En [27,1,3,4,13,14,15] Z)
  refine B1 hf fun b1 h6 hf=>U 1 Z (AR.fT 14 28 42 false [1,13,14,15] b1 Z Z (fun h5=>?_) (fun h5=>?_) ?_)
  ·refine IF 28 h5 h6 Z fun h6=>?_;refine BR h6 fun b2 h8 h6=>?_;refine U 3 Z (AR.fT 10 31 41 true [1,13,14,15,28] b2 Z Z (fun h7=>?_) (fun h7=>?_) ?_)
   ·refine IT 31 h7 h8 Z fun h8=>?_;refine B1 h8 fun e1 h9 h8=>U 4 Z (GO Z (AO.bQ h9 Z Z Z Z ku Z Z ?_));refine B1 h8 fun x1 h10 h8=>U 2 Z (GO Z (AO.call Z _ Z Z aaF (wK _ _ h10 ?_)));cases h8;exact gy 2 Z (En [41,1,13,14,15,28] Z)
   ·refine IF 31 h7 h8 Z fun h8=>?_;cases h8;exact gy 10 Z (En [41,1,13,14,15,28] Z)
   cases h6;exact gy 1 Z (En [42,1,13,14,15] Z)
  ·refine IT 28 h5 h6 Z fun h6=>?_;cases h6;exact gy 14 Z (En [42,1,13,14,15] Z)
  refine J 0 Z (C hf Z (fun h11 hf=>?_) fun h11 hf=>?_)
  ·cases hf;exact M 1 Z (Y Z h)
  exact M 2 Z ⟨(bV (i1+1)),Z,Z,Z,hf⟩
 cases hf;exact M 1 Z (Y Z h)
theorem Xx(v1:ah)(b_:Int){r0:Int}(hf:Ct v1 b_=some r0)(h:Q (.ret (iP r0)) τ):PC 124 [.agg (aX v1),iP b_] τ Q:=by
 unfold Ct at hf;refine BN 78 [.tmp 4] [0,1] Tryz.func124 Z Z Z Z Z (W 6 Z (On 4 9 13 [1,2] (v1.kind==5) Z Z Z Z (J 4 Z (C hf Z (fun h2 hf=>?_) fun h2 hf=>?_))))
 ·cases hf;exact M 1 Z (Y Z h)
 refine W 4 Z (On 4 21 25 [1,2,5] (decide (5<v1.kind)) Z Z Z Z ?_);refine B1 hf fun b1 h5 hf=>U 1 Z (AR.fT 4 26 30 false [1,2,5] b1 Z Z (fun h4=>?_) (fun h4=>?_) ?_)
 ·refine IF 26 h4 h5 Z fun h5=>?_;refine B1 h5 fun x1 h6 h5=>U 1 Z (GO Z (AO.call Z _ Z Z akk (SN _ h6 ?_)));cases h5;exact gy 2 Z (En [30,1,2,5] Z)
 ·refine IT 26 h4 h5 Z fun h5=>?_;cases h5;exact gy 4 Z (En [30,1,2,5] Z)
 refine J 1 Z (C hf Z (fun h7 hf=>?_) fun h7 hf=>?_)
 ·cases hf;exact M 1 Z (Y Z h)
 refine W 4 Z (On 4 35 39 [1,2,5] (decide (9007199254740992<v1.dA)) Z Z Z Z (J 1 Z (C hf Z (fun h9 hf=>?_) fun h9 hf=>?_)))
 ·cases hf;exact M 1 Z (Y Z h)
 refine W 2 Z (AS Z (AO.eG Z Z Z Z fD Z (U 2 Z (AR.or 5 45 50 [1,2,5] (x:=(decide (1024<(v1.aN.length:Int)))) Z Z (fun h10=>?_) (fun h10=>?_) ?_))))
 ·refine Is 45 h10 Z (U 2 Z (GO Z (AO.bI (l:=v1.aN) Z Z Z Z jV Z (ah.aQ _) ?_)));exact gy 2 Z (En [50,1,2,5] Z)
 ·refine Is 45 h10 Z ?_;exact gy 5 Z (En [50,1,2,5] Z)
 refine U 1 Z (AR.or 5 51 56 [1,2,5] (x:=(decide (1024<(v1.keys.length:Int)))) Z Z (fun h11=>?_) (fun h11=>?_) ?_)
 ·refine Is 51 h11 Z (U 2 Z (GO Z (AO.bI (l:=v1.keys) Z Z Z Z ku Z Z ?_)));exact gy 2 Z (En [56,1,2,5] Z)
 ·refine Is 51 h11 Z ?_;exact gy 5 Z (En [56,1,2,5] Z)
 refine J 1 Z (C hf Z (fun h12 hf=>?_) fun h12 hf=>?_)
 ·cases hf;exact M 1 Z (Y Z h)
 refine B1 hf fun b2 oI hf=>W 4 Z (AR.fT 4 61 65 true [1,2,5] b2 Z Z (fun qp=>?_) (fun qp=>?_) ?_)
 ·refine IT 61 qp oI Z fun oI=>?_;refine B1 oI fun x2 vY oI=>U 1 Z (GO Z (AO.call Z _ Z Z akj (Uq _ vY ?_)));cases oI;exact gy 2 Z (En [65,1,2,5] Z)
 ·refine IF 61 qp oI Z fun oI=>?_;cases oI;exact gy 4 Z (En [65,1,2,5] Z)
 refine J 1 Z (C hf Z (fun h16 hf=>?_) fun h16 hf=>?_)
 ·cases hf;exact M 1 Z (Y Z h)
 refine W 2 Z (AR.and 5 68 73 [1] (x:=((v1.aN.length:Int)==0)) Z Z (fun AZ=>?_) (fun AZ=>?_) ?_)
 ·refine Is 68 AZ Z (U 2 Z (GO Z (AO.bI (l:=v1.aN) Z Z Z Z jV Z (ah.aQ _) ?_)));exact gy 2 Z (En [73,1] Z)
 ·refine Is 68 AZ Z ?_;exact gy 5 Z (En [73,1] Z)
 refine U 1 Z (An 3 74 77 [] (b_==16) Z Z Z Z (J 1 Z (C hf Z (fun h19 hf=>?_) fun h19 hf=>?_)))
 ·cases hf;exact M 1 Z (Y Z h)
 cases hf;exact M 1 Z (Y Z h)
theorem oC(v1:ah){r0:Int}(hf:kM v1=some r0)(h:Q (.ret (iP r0)) τ):PC 75 [.agg (aX v1)] τ Q:=by
 unfold kM at hf;refine AC.none (AC.J9 16 [.cell 2 24] [0] Tryz.func75 Z Z Z Z Z ?_);obtain⟨b1,s1,h1,hf⟩:=dD hf;cases hf;refine AW.sr (AR.step Z Z Z (AO.Gc Z Z Z (AR.step Z Z Z (AO.aP Z abA (fun b2=>(AR.nil [1,2] Z ?_))))));refine AW.seq (AW.sr (cs 1 Z (AR.step Z Z Z (AO.call Z _ Z Z afv (Kg _ _ ?_)))));refine AR.nil [2,7] Z (AW.block (AW.rangeFunc (β:=Option Int) (X:=Int × ah) Z afr (fun x=>[iP x.1,.agg (aX x.2)]) (fun _=>Z) (by decide) (fun s x=>mP s x.1 x.2) (fun s=>[.box b2 [iP (s.getD 0)]]) (fun s=>s.map fun _=>.ret) (s0:=none) (s1:=s1) Z Z ?_ ?_ ?_))
 ·intro l T' hy;refine Gv l T' mP (fun s1 b_ v1 b s2 hh=>hy s1 (b_,v1) b s2 hh) none v1 1 h1 ⟨⟨_,Z⟩,Z⟩
 ·rintro l s ⟨b_,x1⟩ b s2 hh;unfold mP at hh;cases s with
  | some e=>cases hh
  | none=>
  refine⟨Z,?_⟩;refine B1 hh fun e1 h2 hh=>?_;refine qA.seq (qA.region Z (cs 1 Z (AR.nil [2,3,9] Z ?_)));refine qA.region Z (AR.step Z Z Z (AO.aP Z iX (fun b4=>(AR.dx Z Z (AO.eU (i:=0) Z Z Z tQ Z Z Z Z Z (AR.nil [2,3,4] Z ?_))))));refine⟨Z,(qA.block (qA.seq (qA.region Z ?_)))⟩;refine AR.step Z Z Z (AO.dh (i:=0) Z Z Z tQ Z Z (cs 1 Z (AR.step Z Z Z (AO.call Z _ Z Z akv (Xx _ _ h2 (cs 1 Z ?_))))));refine AR.nil [2,5] Z (qA.seq (qA.region Z (cs 2 Z ?_)));refine AR.nil [2,5,14] Z (qA.cond Z (fun h3=>?_) (fun h3=>?_))
  ·replace hh:=pV h3 hh;cases hh;refine qA.seq (qA.region Z (cs 1 Z (AR.dx Z Z (AO.eU (i:=1) Z Z Z tV Z Z Z Z Z ?_))));refine AR.nil [] Z (qA.ret ?_);exact⟨Z,.cons _ (List.Sublist.refl _),Z,Z⟩
  ·replace hh:=nU h3 hh;cases hh;refine qA.skip ?_;exact⟨Z,.cons _ (List.Sublist.refl _),Z,Z⟩
 ·intro D;cases s1 with
  | some e=>exact⟨D,_,Z,Z,_,⟨_,_,Z,⟨_,_,0,_,_,Z,Z,tV,Z⟩,Z⟩,[],apZ _,h⟩
  | none=>
   show AW _ _ _ _ _ _ _;refine AW.sr (AR.dx Z Z (AO.eU (i:=0) Z Z Z tV Z Z Z Z Z (AR.nil [2] Z (AW.ret ?_))));exact⟨D,[_],Z,Z,_,⟨_,_,Z,⟨_,_,0,_,_,Z,Z,tV,Z⟩,Z⟩,[],apZ _,h⟩
theorem ME(l1:List Str){r0:Bool}(hf:sj l1=some r0)(h:Q (.ret (.bool r0)) τ):PC 255 [sP l1] τ Q:=by
 unfold sj at hf;refine BN 22 [.tmp 2] [0] Tryz.func255 Z Z Z Z Z (W 1 Z (AS Z (AO.RO Z (fun m6=>(U 2 Z (AS Z (AO.bI (l:=l1) Z Z Z Z ku Z Z (J 1 Z (LK2 (fun x1 y1=>[(3,.val (.map (some m6))),(7,sP l1),(8,iP (l1.length:Int)),(9,iP x1)]) (fun x1 y1=>[.obj m6 (vG y1)]) (fun dL x1 y1=>oP l1 dL x1 y1=some r0) BIG 0 [] Z Z hf (fun _ _ hz=>dH hz) ?_)))))))));intro dL x1 y1 hf;rw[oP]at hf;refine V 1 Z (C hf Z (fun h1 hf=>?_) fun h1 hf=>?_)
 ·refine B1 hf fun s1 h2 hf=>W 0 Z (AS Z (AO.bQ h2 Z Z Z Z ku Z Z (U 4 Z (AS Z (AO.JF (i:=0) (l:=y1) Z Z Z Z FN fD acQ (U 1 Z (AR.dx Z Z (AO.KP (i:=0) (l:=y1) Z Z Z Z Z FN fD (U 2 Z (AS Z (AO.JF (i:=0) (l:=(sZ y1 s1 (bV ((qz y1 s1)+1)))) Z Z Z Z FN fD acQ ?_)))))))))));refine J 1 Z (C hf Z (fun h3 hf=>?_) fun h3 hf=>?_)
  ·cases hf;exact M 1 Z (Y Z h)
  exact M 2 Z ⟨(bV (x1+1)),(sZ y1 s1 (bV ((qz y1 s1)+1))),Z,Z,Z,hf⟩
 cases hf;exact M 1 Z (Y Z h)
theorem UA(e1:ak)(b_:Int){r0:Int}(hf:Ag e1 b_=some r0)(h:Q (.ret (iP r0)) τ):PC 184 [.agg (cZ e1),iP b_] τ Q:=by
 unfold Ag at hf;refine BN 65 [.tmp 4] [0,1] Tryz.func184 Z Z Z Z Z (V 5 Z (C hf Z (fun h1 hf=>?_) fun h1 hf=>?_))
 ·cases hf;exact M 1 Z (Y Z h)
 refine W 4 Z (On 4 12 16 [2] (decide (10<e1.kind)) Z Z Z Z ?_);refine B1 hf fun b1 h4 hf=>U 1 Z (AR.fT 10 17 27 false [2] b1 Z Z (fun h3=>?_) (fun h3=>?_) ?_)
 ·refine IF 17 h3 h4 Z fun h4=>?_;refine BR h4 fun b2 h6 h4=>?_;refine U 4 Z (AR.fT 5 21 26 true [2,17] b2 Z Z (fun h5=>?_) (fun h5=>?_) ?_)
  ·refine IT 21 h5 h6 Z fun h6=>?_;refine B1 h6 fun x1 h7 h6=>U 2 Z (GO Z (AO.call Z _ Z Z aj_ (Ux _ h7 ?_)));cases h6;exact gy 2 Z (En [26,2,17] Z)
  ·refine IF 21 h5 h6 Z fun h6=>?_;cases h6;exact gy 5 Z (En [26,2,17] Z)
  cases h4;exact gy 1 Z (En [27,2] Z)
 ·refine IT 17 h3 h4 Z fun h4=>?_;cases h4;exact gy 10 Z (En [27,2] Z)
 refine B1 hf fun b3 h9 hf=>U 1 Z (AR.fT 4 28 32 false [2] b3 Z Z (fun h8=>?_) (fun h8=>?_) ?_)
 ·refine IF 28 h8 h9 Z fun h9=>?_;refine B1 h9 fun x2 h10 h9=>U 1 Z (GO Z (AO.call Z _ Z Z aj9 (SX _ h10 ?_)));cases h9;exact gy 2 Z (En [32,2] Z)
 ·refine IT 28 h8 h9 Z fun h9=>?_;cases h9;exact gy 4 Z (En [32,2] Z)
 refine B1 hf fun b4 h12 hf=>U 1 Z (AR.fT 4 33 37 false [2] b4 Z Z (fun h11=>?_) (fun h11=>?_) ?_)
 ·refine IF 33 h11 h12 Z fun h12=>?_;refine B1 h12 fun x3 qp h12=>U 1 Z (GO Z (AO.call Z _ Z Z aj8 (S_ _ qp ?_)));cases h12;exact gy 2 Z (En [37,2] Z)
 ·refine IT 33 h11 h12 Z fun h12=>?_;cases h12;exact gy 4 Z (En [37,2] Z)
 refine B1 hf fun b5 vY hf=>U 1 Z (AR.fT 4 38 42 false [2] b5 Z Z (fun oI=>?_) (fun oI=>?_) ?_)
 ·refine IF 38 oI vY Z fun vY=>?_;refine B1 vY fun x4 h16 vY=>U 1 Z (GO Z (AO.call Z _ Z Z aj7 (SY _ h16 ?_)));cases vY;exact gy 2 Z (En [42,2] Z)
 ·refine IT 38 oI vY Z fun vY=>?_;cases vY;exact gy 4 Z (En [42,2] Z)
 refine J 1 Z (C hf Z (fun AZ hf=>?_) fun AZ hf=>?_)
 ·cases hf;exact M 1 Z (Y Z h)
 refine B1 hf fun b6 h19 hf=>W 4 Z (AR.fT 5 47 52 true [2] b6 Z Z (fun h18=>?_) (fun h18=>?_) ?_)
 ·refine IT 47 h18 h19 Z fun h19=>?_;refine B1 h19 fun x5 h20 h19=>U 2 Z (GO Z (AO.call Z _ Z Z alP (oC _ h20 ?_)));cases h19;exact gy 2 Z (En [52,2] Z)
 ·refine IF 47 h18 h19 Z fun h19=>?_;cases h19;exact gy 5 Z (En [52,2] Z)
 refine J 1 Z (C hf Z (fun h21 hf=>?_) fun h21 hf=>?_)
 ·refine BR hf fun x6 h22 hf=>?_;refine W 2 Z (CL Z (oC _ h22 ?_));cases hf;exact N 1 Z (Y Z h)
 refine W 2 Z (AS Z (AO.bI (l:=e1.args) Z Z Z Z jD Z (ak.aQ _) (J 2 Z (C hf Z (fun h23 hf=>?_) fun h23 hf=>?_))))
 ·cases hf;exact M 1 Z (Y Z h)
 refine B1 hf fun x7 J_ hf=>W 2 Z (CL Z (ME _ J_ (J 1 Z (C hf Z (fun KS hf=>?_) fun KS hf=>?_))))
 ·cases hf;exact M 1 Z (Y Z h)
 cases hf;exact M 1 Z (Y Z h)
abbrev Jm(j6:ak→Int→Option Int):Prop:=∀(kS:ak) (lQ:Int) {dI:Int},j6 kS lQ=some dI→∀ {τ:List bC} {Q:eP→List bC→Prop} (h:Q (.ret (iP dI)) τ),PC 109 [.agg (cZ kS),iP lQ] τ Q
theorem Qn(j6)(NC:Jm j6)(e1:ak)(b_:Int){r0:Int}(hf:xW j6 e1 b_=some r0)(h:Q (.ret (iP r0)) τ):PC 109 [.agg (cZ e1),iP b_] τ Q:=by
 unfold xW at hf;refine BN 30 [.tmp 4] [0,1] Tryz.func109 Z Z Z Z Z ?_;refine B1 hf fun f1 h1 hf=>W 4 Z (CL Z (UA _ _ h1 (J 3 Z (C hf Z (fun h2 hf=>?_) fun h2 hf=>?_))))
 ·cases hf;exact M 2 Z (Y Z h)
 refine W 2 Z (AS Z (AO.bI (l:=e1.args) Z Z Z Z jD Z (ak.aQ _) (J 1 Z (XK (fun x1=>[(1,iP b_),(16,.list (ak.bO e1.args)),(17,iP (e1.args.length:Int)),(18,iP x1)]) (fun x1=>[]) (fun dL x1=>r_ j6 e1 b_ dL x1=some r0) BIG 0 Z Z hf (fun _ hz=>dH hz) ?_))));intro dL x1 hf;rw[r_]at hf;refine V 1 Z (C hf Z (fun h3 hf=>?_) fun h3 hf=>?_)
 ·refine B1 hf fun e2 h4 hf=>W 0 Z (AS Z (AO.bQ h4 Z Z (ak.aQ _) Z jD (ak.aV _) Z (U 1 Z (AS Z (AO.aP Z nR (fun b7=>?_))))));refine B1 hf fun f2 h5 hf=>Rr 4 [0,0] Z Z (CL Z (NC _ _ h5 (J 3 Z (C hf Z (fun h6 hf=>?_) fun h6 hf=>?_))))
  ·cases hf;exact M 2 Z (Y Z h)
  refine Wn0 2 Z (AR.drop1 ?_);exact N 0 Z ⟨(bV (x1+1)),Z,Z,Z,hf⟩
 cases hf;exact M 1 Z (Y Z h)
theorem RG:∀k:Nat,(Jm (lW k)):=by
 intro k
 induction k with
 | zero=>exact fun _ _ _ hz=>by first|cases hz|(unfold lW at hz;cases hz)
 | succ k ih=>exact fun kS lQ dI hz τ Q hq=>Qn (lW k) ih kS lQ hz hq
theorem SS(kS:ak)(lQ:Int){dI:Int}(hf:FH kS lQ=some dI)(h:Q (.ret (iP dI)) τ):PC 109 [.agg (cZ kS),iP lQ] τ Q:=
 ((RG BIG)) kS lQ hf h
theorem qV(e1:ak){r0:Int}(hf:kD e1=some r0)(h:Q (.ret (iP r0)) τ):PC 70 [.agg (cZ e1)] τ Q:=by
 unfold kD at hf;refine BN 8 [.tmp 2] [0] Tryz.func70 Z Z Z Z Z ?_;refine B1 hf fun x1 h1 hf=>W 3 Z (CL Z (Tc _ h1 (J 1 Z (C hf Z (fun h2 hf=>?_) fun h2 hf=>?_))))
 ·cases hf;exact M 1 Z (Y Z h)
 refine BR hf fun x2 h3 hf=>?_;refine W 1 Z (CL Z (SS _ _ h3 ?_));cases hf;exact N 1 Z (Y Z h)
section
variable [BZ]
theorem UC(MU:List aG){r0:ak}{r1 r2:Int}(hf:Ah MU=some (r0,r1,r2))(h:Q (.ret (.tuple [.agg (cZ r0),iP r1,iP r2])) τ):PC 63 [.list (List.map aG.cells MU)] τ Q:=by
 unfold Ah at hf;refine BN 27 [.cell 2 37,.tmp 3,.tmp 4] [0] Tryz.func63 Z Z Z Z Z (W 0 Z (AS Z (AO.aP Z nR (fun b2=>?_))));obtain⟨x1,n1,mI,h1,hf⟩:=nH hf;refine U 3 Z (CL Z (Uz _ h1 (U 4 Z (AS Z (AO.aP Z nR (fun b5=>(Rw 5 [0] Z Z (C hf Z (fun h2 hf=>?_) fun h2 hf=>?_))))))))
 ·cases hf;exact Wx 6 [1] Z Z (ZC [1] Z Z h)
 refine B1 hf fun Db h3 hf=>Wr 1 [0] Z Z (CL Z (qV _ h3 (J 3 Z (C hf Z (fun h4 hf=>?_) fun h4 hf=>?_))))
 ·cases hf;exact Wx 5 [1] Z Z (ZC [1] Z Z h)
 cases hf;exact Wx 5 [0,1] Z Z (ZC [1] Z Z h)
end
theorem SV(MU:List aG)(n1:Int)(gB:Str){r0:Int}(hf:Br MU n1 gB=some r0)(h:Q (.ret (iP r0)) τ):PC 64 [.list (List.map aG.cells MU),iP n1,.str gB] τ Q:=by
 unfold Br at hf;refine BN 18 [.tmp 6] [0,1,2] Tryz.func64 Z Z Z Z Z (W 3 Z (AS Z (AO.bI (l:=MU) Z Z Z Z yN Z Z (J 1 Z (C hf Z (fun h1 hf=>?_) fun h1 hf=>?_)))))
 ·refine B1 hf fun e1 h2 hf=>W 2 Z (AS Z (AO.bQ h2 Z Z Z Z yN (aG.aV _) Z ?_));cases hf;exact N 3 Z (Y Z h)
 refine W 1 Z (AS Z (AO.eG Z Z Z Z fD Z ?_));cases hf;exact N 1 Z (Y Z h)
section
variable [BZ]
theorem Ta(gB:Str){r0:ak}{r1 r2:Int}(hf:yc gB=some (r0,r1,r2))(h:Q (.ret (.tuple [.agg (cZ r0),iP r1,iP r2])) τ):PC 30 [.str gB] τ Q:=by
 unfold yc at hf;refine BN 46 [.cell 2 37,.tmp 3,.tmp 4] [0] Tryz.func30 Z Z Z Z Z (W 0 Z (AS Z (AO.aP Z nR (fun b2=>?_))));obtain⟨MU,jd,mI,h1,hf⟩:=nH hf;refine U 3 Z (CL Z (Ti _ h1 (J 9 Z (C hf Z (fun h2 hf=>?_) fun h2 hf=>?_))))
 ·cases hf;exact Wx 6 [0] Z Z (ZC [0] Z Z h)
 obtain⟨x1,n1,Db,h3,hf⟩:=nH hf;refine W 1 Z (CL Z (UC _ h3 (U 4 Z (AS Z (AO.aP Z nR (fun b8=>(Rw 5 [0] Z Z (C hf Z (fun h4 hf=>?_) fun h4 hf=>?_))))))))
 ·refine B1 hf fun x2 h5 hf=>W 4 Z (CL Z (SV _ _ _ h5 ?_));cases hf;exact Rx 4 [1] Z Z (ZC [1] Z Z h)
 refine W 2 Z (AS Z (AO.bI (l:=MU) Z Z Z Z yN Z Z (J 1 Z (C hf Z (fun h6 hf=>?_) fun h6 hf=>?_))))
 ·refine V 0 Z (AW.Zn 1 6 7 1 mixed (by kernel_rfl) (by kernel_rfl) (by kernel_rfl) Z Z Z Z ?_);refine Ev.cons Z Z Z (AO.build Z nR aar Z zg) (Ev.nil ?_);show Ev _ _ _ _ _ _ _;refine Ev.cs dK 2 Z ?_;refine B1 hf fun e1 h7 hf=>Ev.cons Z Z Z (AO.bQ h7 Z Z Z Z yN (aG.aV _) Z zg) (Ev.cs dK 2 Z (Ev.nil (TF.dx Z Z (AO.eU (i:=0) Z Z Z lG Z Z Z Z Z ?_))));refine TF.nil ?_;show AR _ _ _ _ _ _ _ _;cases hf;exact N 2 Z (ZC [1] Z Z h)
 cases hf;exact Wx 4 [0,1] Z Z (ZC [1] Z Z h)
end
section
variable [BZ]
theorem yS{b:Nat}{vp v p:Value}{kN r0:List aY}{text1:Str}(hf:dW kN text1=some r0)(hroom:roomy v=true){R:eP→List bC→Prop}(h:∀vp',R (.ret (.tuple [])) [.l8 b 74 [(.own vp' ((List.map aY.cells r0))),.val (.pointer none),.own (.slice none 0 0) (List.map jE [])],.row vp' ((List.map aY.cells r0)).length 12 39]):PC 31 [pP b] [.row v (List.length text1) 1 5,.l8 b 74 [(.own vp ((List.map aY.cells kN))),.val p,.own v (List.map jE text1)],.row vp ((List.map aY.cells kN)).length 12 39] R:=by
 unfold dW at hf;refine AC.mD 25 [] [0] Tryz.func31 Z Z Z Z Z (AW.seq (AW.sr (AR.step Z Z Z (AO.calc' Z ?_))));refine AR.step Z Z Z (AO.nilCheck Z Z (AR.step Z Z Z (AO.cB Z Z JJ (AR.step Z Z Z (AO.call Z _ Z Z alT (AC.frame (σ:=[_,_]) (τ:=[_]) (agK (AR.step Z Z Z (AO.calc' Z ?_)))))))));refine AR.nil [0,6] Z (AW.cond Z (fun h1=>?_) (fun h1=>?_))
 ·replace hf:=pV h1 hf;refine AW.acv 4 12 [] [.row v (List.length text1) 1 5,.l8 b 74 [(.own vp ((List.map aY.cells kN))),.val p,.own v (List.map jE text1)],.row vp ((List.map aY.cells kN)).length 12 39] (fun S e s=>∃v2:Value,e.get 0=pP b∧e.get 7=pP b∧e.get 10=pP b∧(S 4=true→e.get 11=.own vp ((List.map aY.cells kN)))∧(S 5=true→e.get 12=pP b)∧(S 6=true→e.get 13=pP b)∧(S 7=true→e.get 14=.val (.pointer (some ⟨b,1,none⟩)))∧(S 8=true→e.get 15=.str text1)∧(S 9=true→e.get 16=.agg [.str text1,.bool false,iP 0,.str ([]:Str),iP 0,.bool false,iP 0,.str ([]:Str),.own (.slice none 0 0) [],.own (.slice none 0 0) [],.own (.slice none 0 0) [],.own (.slice none 0 0) []])∧(S 10=true→e.get 17=.list ((List.map aY.cells [(aY.mk text1 false (ak.mk 0 ([]:Str) (ah.mk 0 false 0 ([]:Str) [] []) [] []))])))∧(S 11=true→e.get 18=.own v2 ((List.map aY.cells r0)))∧s=(bif S 8 then []else [.row v (List.length text1) 1 5])++[.l8 b 74 [(.own vp ((List.map aY.cells kN))),.val p,.own v (List.map jE text1)],bif S 11 then .row v2 ((List.map aY.cells r0)).length 12 39 else .row vp ((List.map aY.cells kN)).length 12 39]) mixed (by kernel_rfl) Z Z (List.Perm.refl _) ?_ ?_ ?_ ?_
  ·refine Ev.cs dK 4 Z (Ev.nil ?_);exact⟨.nilIface,Z,Z,Z,(fun h=>by cases h),(fun h=>by cases h),(fun h=>by cases h),(fun h=>by cases h),(fun h=>by cases h),(fun h=>by cases h),(fun h=>by cases h),(fun h=>by cases h),Z⟩
  ·rintro S S' e s hS ⟨v2,p0,p7,PS,q4,q5,q6,q7,q8,q9,ZY,ZX,qs⟩;have z:=fun i h1 h2=>(hS i h1 h2).symm;refine⟨v2,p0,p7,PS,?_,?_,?_,?_,?_,?_,?_,?_,?_⟩
   ·rw[z 4 (by decide) (by decide)];exact q4
   ·rw[z 5 (by decide) (by decide)];exact q5
   ·rw[z 6 (by decide) (by decide)];exact q6
   ·rw[z 7 (by decide) (by decide)];exact q7
   ·rw[z 8 (by decide) (by decide)];exact q8
   ·rw[z 9 (by decide) (by decide)];exact q9
   ·rw[z 10 (by decide) (by decide)];exact ZY
   ·rw[z 11 (by decide) (by decide)];exact ZX
   ·rw[z 8 (by decide) (by decide),z 11 (by decide) (by decide)];exact qs
  ·rintro S e s i o ⟨v2,p0,p7,PS,q4,q5,q6,q7,q8,q9,ZY,ZX,rfl⟩ hi1 hi2 XM hp' ho;have hi:i=4∨i=5∨i=6∨i=7∨i=8∨i=9∨i=10∨i=11:=by omega
   rcases hi with rfl|rfl|rfl|rfl|rfl|rfl|rfl|rfl
   ·cases ho;refine⟨Z,(fun t ht=>by cases ht;decide),AO.less (Less.add PS Less.nil) ?_⟩;cases h8:S 8 with
    | false=>
     refine AO.kF (i:=1) Z Z Z Qv Z Z ?_;exact⟨v2,p0,p7,PS,(fun _=>Z),q5,q6,q7,(fun h=>by rw[show S 8=true from h]at h8;cases h8),q9,ZY,ZX,by simp[h8]⟩
    | true=>
     refine AO.kF (i:=0) Z Z Z Qv Z Z ?_;exact⟨v2,p0,p7,PS,(fun _=>Z),q5,q6,q7,q8,q9,ZY,ZX,by simp[h8]⟩
   ·cases ho;refine⟨Z,(fun t ht=>by cases ht;decide),AO.less (Less.add p0 Less.nil) (AO.calc' Z ?_)⟩;exact⟨v2,p0,p7,PS,q4,(fun _=>Z),q6,q7,q8,q9,ZY,ZX,Z⟩
   ·cases ho;have s5:=hp' 5 (any_beq.1 Z) (by decide);refine⟨Z,(fun t ht=>by cases ht;decide),AO.less (Less.add (q5 s5) Less.nil) (AO.nilCheck Z Z ?_)⟩;exact⟨v2,p0,p7,PS,q4,q5,(fun _=>Z),q7,q8,q9,ZY,ZX,Z⟩
   ·cases ho;have s6:=hp' 6 (any_beq.1 Z) (by decide);refine⟨Z,(fun t ht=>by cases ht;decide),AO.less (Less.add (q6 s6) Less.nil) (AO.cB Z Z JJ ?_)⟩;exact⟨v2,p0,p7,PS,q4,q5,q6,(fun _=>Z),q8,q9,ZY,ZX,Z⟩
   ·cases ho;have s7:=hp' 7 (any_beq.1 Z) (by decide);rw[XM];refine⟨Z,(fun t ht=>by cases ht;decide),AO.less (Less.add (q7 s7) Less.nil) ?_⟩;refine AO.call Z _ Z Z alU (AC.frame (σ:=[_,_]) (τ:=[_]) (ZG hroom ?_));exact⟨v2,p0,p7,PS,q4,q5,q6,q7,(fun _=>Z),q9,ZY,ZX,Z⟩
   ·cases ho;have s8:=hp' 8 (any_beq.1 Z) (by decide);refine⟨Z,(fun t ht=>by cases ht;decide),AO.less (Less.add (q8 s8) Less.nil) (AO.build Z XT aeW Z ?_)⟩;exact⟨v2,p0,p7,PS,q4,q5,q6,q7,q8,(fun _=>Z),ZY,ZX,Z⟩
   ·cases ho;have s9:=hp' 9 (any_beq.1 Z) (by decide);refine⟨Z,(fun t ht=>by cases ht;decide),AO.less (Less.add (q9 s9) Less.nil) (AO.dO ((List.map aY.cells [(aY.mk text1 false (ak.mk 0 ([]:Str) (ah.mk 0 false 0 ([]:Str) [] []) [] []))])) rfl abV rfl rfl rfl (by first|rfl|simp only[List.map,aY.aV]) ?_)⟩
    exact⟨v2,p0,p7,PS,q4,q5,q6,q7,q8,q9,(fun _=>Z),ZX,Z⟩
   ·cases ho;have s4:=hp' 4 (any_beq.1 Z) (by decide);have s8:=hp' 8 (any_beq.1 Z) (by decide);have s10:=hp' 10 (any_beq.1 Z) (by decide);rw[XM,s8];refine⟨Z,(fun t ht=>by cases ht;decide),AO.less (Less.add (q4 s4) (Less.add (ZY s10) Less.nil)) ?_⟩;refine AO.jO (i:=1) (l:=kN) (m:=[(aY.mk text1 false (ak.mk 0 ([]:Str) (ah.mk 0 false 0 ([]:Str) [] []) [] []))]) hf Z Z Z Z Z Z Z abV Gt Z Z Z (aY.gG) (aY.cells_one) (by decide) (fun v3 s2 hs2=>?_);cases hs2;exact⟨v3,p0,p7,PS,q4,q5,q6,q7,q8,q9,ZY,(fun _=>Z),by simp[s8]⟩
  rintro S e s hS ⟨v2,p0,p7,PS,q4,q5,q6,q7,q8,q9,ZY,ZX,rfl⟩;rw[hS 8 (by decide) (by decide),hS 11 (by decide) (by decide)];refine AR.less (Less.add p0 (Less.add p7 (Less.add (ZX (hS 11 (by decide) (by decide))) Less.nil))) ?_;refine AR.step Z Z Z (AO.nilCheck Z Z (AR.step Z Z Z (AO.cB Z Z P6 ?_)));refine AR.dx Z Z (AO.rC (i:=0) Z Z Z Qv Z Z Z Z Z ?_);refine AR.nil [0] Z (AW.region (AR.step Z Z Z (AO.calc' Z (AR.step Z Z Z (AO.nilCheck Z Z ?_)))));refine AR.step Z Z Z (AO.cB Z Z JJ (AR.step Z Z Z (AO.call Z _ Z Z ai7 (AC.frame (σ:=[_]) (τ:=[_]) (Tz (AR.nil [] Z ?_))))));exact⟨Z,[],Z,_,List.Sublist.refl _,h v2⟩
 ·obtain rfl:=Option.some.inj (nU h1 hf);refine AW.skip (AW.drop1 (AW.region (AR.step Z Z Z (AO.calc' Z ?_))));refine AR.step Z Z Z (AO.nilCheck Z Z (AR.step Z Z Z (AO.cB Z Z JJ (AR.step Z Z Z (AO.call Z _ Z Z ai7 (AC.frame (σ:=[_]) (τ:=[_]) (Tz (AR.nil [] Z ?_))))))));exact⟨Z,[],Z,_,List.Sublist.refl _,h vp⟩
theorem uJ(s1:Str){r0:List aY}{r1 r2:Int}(hf:lF s1=some (r0,r1,r2))(h:Q (.ret (.tuple [.list (List.map aY.cells r0),iP r1,iP r2])) τ):PC 11 [.str s1] τ Q:=by
 unfold lF at hf;refine AC.none (AC.mD 76 [.tmp 2,.tmp 3,.tmp 4] [0] Tryz.func11 Z Z Z Z Z (AW.sr (AR.step Z Z Z (AO.jv Z Z ?_))));refine cs 2 Z (AR.nil [0] Z (AW.seq (AW.sr ?_)));refine cs 1 Z (AR.step Z Z Z (AO.eG Z Z Z Z fD Z (cs 1 Z (AR.nil [0,14] Z ?_))));refine AW.cond Z (fun h1=>?_) (fun h1=>?_)
 ·replace hf:=pV h1 hf;refine AW.sr (AR.step Z Z Z (AO.jv Z Z (cs 2 Z (AR.nil [2,3,4] Z ?_))));refine AW.ret ?_;cases hf;exact⟨rfl,_,⟨_,_,rfl,rfl,_,_,rfl,rfl,_,_,rfl,rfl,rfl⟩,[],apZ _,h⟩
 replace hf:=nU h1 hf;refine AW.skip (AW.row 12 39 (AW.sr ?_));refine AR.step Z Z Z (AO.abt Z alh (fun b=>?_));refine AR.nil [0,5] Z (AW.row 1 5 (AW.seq (AW.sr ?_)));refine cs 1 Z (AR.nil [0,5,6] Z (AW.block (AW.settle [0,5,6] Z ?_)));refine AW.akD (fun jd kN vp text1 vt p=>[(0,.str s1),(5,pP b),(6,iP jd)]) (fun jd kN vp text1 vt p=>[.row vt (List.length text1) 1 5,.l8 b 74 [(.own vp ((List.map aY.cells kN))),.val p,.own vt (List.map jE text1)],.row vp ((List.map aY.cells kN)).length 12 39]) (fun dL jd kN vp text1 vt p=>dw s1 dL jd kN text1=some (r0,r1,r2)∧(p=Value.pointer none∨p=.pointer (some ⟨b,1,none⟩))∧roomy vt=true) BIG 0 [] (.slice none 0 0) [] (.slice none 0 0) (.pointer none) Z Z ⟨hf,.inl Z,Z⟩ (fun _ _ _ _ _ _ hz=>dH hz.1) ?_;intro dL jd kN vp text1 vt p hfI;obtain⟨hf,hp,hroom⟩:=hfI;rw[dw]at hf;refine AW.seq (AW.sr (cs 2 Z (AR.step Z Z Z (AO.eG Z Z Z Z fD Z ?_))));refine cs 1 Z (AR.nil [0,5,6,18] Z (AW.cond Z (fun h2=>?_) (fun h2=>?_)))
 ·replace hf:=pV h2 hf;refine AW.skip (AW.block (AW.sr (cs 2 Z ?_)));refine B1 hf fun Hy h3 hf=>AR.step Z Z Z (AO.wQ h3 Z fD Z ⟨_,Z⟩ Z (cs 1 Z (AR.nil [0,5,6,7] Z (AW.block ?_))));refine AW.sr (cs 1 Z ?_);refine B1 hf fun b1 h4 hf=>AR.step Z Z Z (AO.call Z _ Z Z aja (vJ _ _ h4 (cs 1 Z (AR.nil [0,5,6,7,29] Z (AW.cond Z (fun h5=>?_) (fun h5=>?_))))))
  ·replace hf:=pV h5 hf;refine B1 hf fun r9 h6 hf=>AW.sr (AR.step Z Z Z (AO.cB Z Z JJ (AR.step Z Z Z (AO.call Z _ Z Z ai_ (AC.frame (σ:=[_,_]) (τ:=[_]) (Jg hp hroom h6 (fun v2 hr2=>(AR.nil [0,5,6] Z ?_))))))));refine AW.region (cs 3 Z (AR.nil [0,5,6] Z ?_));exact⟨(bV (jd+2)),kN,vp,r9,v2,_,Z,Z,Z,hf,.inr Z,hr2⟩
  replace hf:=nU h5 hf;refine B1 hf fun b2 h6 hf=>AW.sr (cs 1 Z (AR.step Z Z Z (AO.call Z _ Z Z aja (vJ _ _ h6 (cs 1 Z ?_)))));refine AR.nil [0,5,6,36] Z (AW.cond Z (fun h7=>?_) (fun h7=>?_))
  ·replace hf:=pV h7 hf;refine AW.sr (cs 3 Z ?_);refine B1 hf fun vH h8 hf=>AR.step Z Z Z (AO.call Z _ Z Z alW (N7 _ _ h8 (cs 1 Z (AR.nil [0,5,6,8] Z (AW.seq ?_)))));refine AW.sr (cs 2 Z (AR.nil [0,5,6,8,44] Z (AW.cond Z (fun h9=>?_) (fun h9=>?_))))
   ·replace hf:=pV h9 hf;refine AW.sr (cs 1 Z (AR.step Z Z Z (AO.jv Z Z (cs 2 Z ?_))));refine AR.nil [2,3,4] Z (AW.ret ?_);cases hf;exact⟨rfl,_,⟨_,_,rfl,rfl,_,_,rfl,rfl,_,_,rfl,rfl,rfl⟩,[],apZ _,h⟩
   replace hf:=nU h9 hf;refine AW.skip (AW.sr (cs 4 Z ?_));refine B1 hf fun x1 h10 hf=>AR.step Z Z Z (AO.wQ h10 Z fD Z ⟨_,Z⟩ ⟨_,Z⟩ ?_);obtain⟨e1,n1,mI,h11,hf⟩:=nH hf;refine AR.step Z Z Z (AO.call Z _ Z Z alV (Ta _ h11 (cs 4 Z (AR.step Z Z Z (AO.aP Z nR (fun b9=>(AR.dx Z Z (AO.eU (i:=0) Z Z Z lG Z Z Z Z Z ?_))))))));refine cs 2 Z (AR.nil [0,5,6,8,9,10,11] Z (AW.seq (AW.sr ?_)));refine cs 2 Z (AR.nil [0,5,6,8,9,10,11,57] Z (AW.cond Z (fun h12=>?_) (fun h12=>?_)))
   ·replace hf:=pV h12 hf;refine AW.sr (cs 5 Z (AR.step Z Z Z (AO.jv Z Z (cs 2 Z ?_))));refine AR.nil [2,3,4] Z (AW.ret ?_);cases hf;exact⟨rfl,_,⟨_,_,rfl,rfl,_,_,rfl,rfl,_,_,rfl,rfl,rfl⟩,[],apZ _,h⟩
   replace hf:=nU h12 hf;refine B1 hf fun WQ qp hf=>B1 hf fun WO oI hf=>AW.skip (AW.sr (AR.step Z Z Z (AO.call Z _ Z Z ai9 (AC.perm (adq _ _ _ _) (AC.frame (σ:=[_,_,_]) (τ:=[_]) (yS qp hroom (fun vp2=>(AR.nil [0,5,8,9] Z ?_))))))));refine AW.row 1 5 (AW.sr (AR.step Z Z Z (AO.cB Z Z P6 ?_)));refine AR.step Z Z Z (AO.kF (i:=1) Z Z Z Qv Z Z ?_);refine AR.step rfl rfl rfl (AO.dh (i:=3) rfl rfl rfl lG rfl rfl (AR.step rfl rfl rfl (AO.build rfl XT aeW rfl (AR.step rfl rfl rfl (AO.dO ((List.map aY.cells [(aY.mk ([]:Str) true e1)])) rfl abV rfl rfl rfl (by first|rfl|simp only[List.map,aY.aV]) ?_)))));refine AR.step Z Z Z (AO.jO (i:=2) (l:=WQ) (m:=[(aY.mk ([]:Str) true e1)]) oI Z Z Z Z Z Z Z abV Gt Z Z Z (aY.gG) (aY.cells_one) (by decide) (fun vp3 s2 hs2=>?_));cases hs2
   refine AR.step Z Z Z (AO.cB Z Z P6 ?_);refine AR.dx Z Z (AO.rC (i:=1) Z Z Z Qv Z Z Z Z Z ?_);refine AR.nil [0,5,8] Z (AW.ags 3 Z (AW.region (cs 3 Z ?_)));refine AR.nil [0,5,6] Z ?_;exact⟨(bV (vH+1)),WO,vp3,[],.slice none 0 0,_,Z,Z,Z,hf,.inl Z,Z⟩
  replace hf:=nU h7 hf;refine B1 hf fun c1 h8 hf=>B1 hf fun aeS h9 hf=>AW.sr (AR.step Z Z Z (AO.cB Z Z JJ (cs 2 Z (AR.step Z Z Z (AO.ig h8 Z fD Z Z ?_)))));refine AR.step Z Z Z (AO.call Z _ Z Z ai_ (AC.frame (σ:=[_,_]) (τ:=[_]) (Jg hp hroom h9 (fun v2 hr2=>(AR.nil [0,5,6] Z (AW.region (cs 3 Z ?_)))))));refine AR.nil [0,5,6] Z ?_;exact⟨(bV (jd+1)),kN,vp,aeS,v2,_,Z,Z,Z,hf,.inr Z,hr2⟩
 replace hf:=nU h2 hf;refine B1 hf fun ab1 h3 hf=>AW.exit (AW.sr (AR.step Z Z Z (AO.call Z _ Z Z ai9 (yS h3 hroom (fun vp2=>(AR.nil [5] Z ?_))))));refine AW.sr (AR.step Z Z Z (AO.cB Z Z P6 ?_));refine AR.step Z Z Z (AO.kF (i:=0) Z Z Z Qv Z Z ?_);refine cs 3 Z (AR.nil [2,3,4] Z (AW.ret ?_));cases hf;exact⟨rfl,_,⟨_,_,rfl,rfl,_,_,rfl,rfl,_,_,rfl,rfl,rfl⟩,[],apZ _,h⟩
end
theorem Tv(eY:List aB){r0:Int}(hf:CZ eY=some r0)(h:Q (.ret (iP r0)) τ):PC 41 [.list (List.map aB.cells eY)] τ Q:=by
 unfold CZ at hf;refine BN 39 [.tmp 2] [0] Tryz.func41 Z Z Z Z Z (W 2 Z (AS Z (AO.bI (l:=eY) Z Z Z Z C8 Z Z (J 1 Z (C hf Z (fun h1 hf=>?_) fun h1 hf=>?_)))))
 ·cases hf;exact M 1 Z (Y Z h)
 refine W 0 Z (AS Z (AO.RO Z (fun m10=>(U 2 Z (AS Z (AO.bI (l:=eY) Z Z Z Z C8 Z Z (J 1 Z (LK2 (fun x1 y1=>[(3,.val (.map (some m10))),(11,.list (List.map aB.cells eY)),(12,iP (eY.length:Int)),(13,iP x1)]) (fun x1 y1=>[.obj m10 (vG y1)]) (fun dL x1 y1=>Am eY dL x1 y1=some r0) BIG 0 [] Z Z hf (fun _ _ hz=>dH hz) ?_))))))));intro dL x1 y1 hf;rw[Am]at hf;refine V 1 Z (C hf Z (fun h2 hf=>?_) fun h2 hf=>?_)
 ·refine B1 hf fun e1 h3 hf=>W 0 Z (AS Z (AO.bQ h3 Z Z Z Z C8 (aB.aV _) Z (U 1 Z (AS Z (AO.aP Z XR (fun b5=>?_))))));refine B1 hf fun x2 h4 hf=>Rr 4 [0,0] Z Z (CL Z (qV _ h4 (J 1 Z (C hf Z (fun h5 hf=>?_) fun h5 hf=>?_))))
  ·cases hf;exact M 1 Z (Y Z h)
  refine B1 hf fun e2 h6 hf=>Wr 2 [0] Z Z (CL Z (oC _ h6 (J 3 Z (C hf Z (fun h7 hf=>?_) fun h7 hf=>?_))))
  ·cases hf;exact M 2 Z (Y Z h)
  refine Wr 3 [0] Z Z (AS Z (AO.JF (i:=1) (l:=y1) Z Z Z Z FN fD acQ (U 1 Z (AR.dx Z Z (AO.KP (i:=1) (l:=y1) Z Z Z Z Z FN fD (Rr 3 [0] Z Z (AS Z (AO.JF (i:=1) (l:=(sZ y1 e1.name (bV ((qz y1 e1.name)+1)))) Z Z Z Z FN fD acQ (J 1 Z (C hf Z (fun h8 hf=>?_) fun h8 hf=>?_))))))))))
  ·cases hf;exact M 1 Z (Y Z h)
  refine Wn0 2 Z (AR.drop1 ?_);exact N 0 Z ⟨(bV (x1+1)),(sZ y1 e1.name (bV ((qz y1 e1.name)+1))),Z,Z,Z,hf⟩
 cases hf;exact M 1 Z (Y Z h)
theorem UK(e1:ak)(eY:List aB){r0:List aB}{r1:Int}(hf:DZ e1 eY=some (r0,r1))(h:Q (.ret (.tuple [.list (List.map aB.cells r0),iP r1])) τ):PC 125 [.agg (cZ e1),.list (List.map aB.cells eY)] τ Q:=by
 unfold DZ at hf;refine BN 19 [.tmp 4,.tmp 5] [0,1] Tryz.func125 Z Z Z Z Z (W 1 Z (AS Z (AO.jv Z Z ?_)));refine B1 hf fun f1 h1 hf=>U 2 Z (CL Z (Tv _ h1 (J 3 Z (C hf Z (fun h2 hf=>?_) fun h2 hf=>?_))))
 ·refine W 1 Z (AS Z (AO.jv Z Z ?_));cases hf;exact N 1 Z (Y Z h)
 refine B1 hf fun f2 h3 hf=>W 1 Z (CL Z (qV _ h3 (J 3 Z (C hf Z (fun h4 hf=>?_) fun h4 hf=>?_))))
 ·refine W 1 Z (AS Z (AO.jv Z Z ?_));cases hf;exact N 1 Z (Y Z h)
 cases hf;exact M 3 Z (Y Z h)
@[reducible] def XW:eX aF Unit→eP
 | .ok r=>.ret (.tuple [])
 | .bad e=>.panic (.iface 204 (.agg [iP e.code]))
theorem D9(e1:Int){rX:eX aF Unit}(hf:zB e1=some rX)(h:Q (XW rX) τ):PC 323 [iP e1] τ Q:=by
 unfold zB at hf;refine BN 5 [] [0] Tryz.func323 Z Z Z Z Z (W 2 Z (AS Z (AO.ab7 Z akA Z (AR.dx Z Z (AO.afz Z Z ?_)))));cases hf;exact⟨Z,[],apZ _,h⟩
@[reducible] def Ld:eX aF ah→eP
 | .ok r=>.ret (.agg (aX r))
 | .bad e=>.panic (.iface 204 (.agg [iP e.code]))
theorem D7(s1:List aB)(name1:Str){rX:eX aF ah}(hf:sF s1 name1=some rX)(h:Q (Ld rX) τ):PC 264 [.list (List.map aB.cells s1),.str name1] τ Q:=by
 unfold sF at hf;refine BN 22 [.cell 4 34] [0,1] Tryz.func264 Z Z Z Z Z (W 0 Z (AS Z (AO.aP Z iX (fun b4=>(U 1 Z (AS Z (AO.bI (l:=s1) Z Z Z Z agq Z Z (J 1 Z (XK (fun x1=>[(1,.str name1),(4,pP b4),(7,.list (List.map aB.cells s1)),(8,iP (s1.length:Int)),(9,iP x1)]) (fun x1=>[.box b4 [iP 0,.bool false,iP 0,.str ([]:Str),.own (.slice none 0 0) [],.own (.slice none 0 0) []]]) (fun dL x1=>oV s1 name1 dL x1=some rX) BIG 0 Z Z hf (fun _ hz=>dH hz) ?_)))))))));intro dL x1 hf;rw[oV]at hf;refine V 1 Z (C hf Z (fun h1 hf=>?_) fun h1 hf=>?_)
 ·refine B1 hf fun e1 h2 hf=>W 0 Z (AS Z (AO.bQ h2 Z Z Z Z agq (aB.aV _) Z (U 1 Z (AS Z (AO.aP Z XR (fun b6=>(Rw 5 [0,0] Z Z (C hf Z (fun h3 hf=>?_) fun h3 hf=>?_))))))))
  ·cases hf;exact Wx 3 [0,1] Z Z (ZC [1] Z Z h)
  refine Wn0 2 Z (AR.drop1 ?_);exact N 0 Z ⟨(bV (x1+1)),Z,Z,Z,hf⟩
 rcases bM hf with⟨e2,h4,hf⟩|⟨_,h4,hf⟩
 ·refine W 0 Z (CL Z (D9 _ h4 ?_));cases hf;exact⟨Z,[],apZ _,h⟩
 refine W 0 Z (CL Z (D9 _ h4 ?_));cases hf;exact Rx 2 [0] Z Z (ZC [0] Z Z h)
theorem uK(s1:Str){r0:ah}(hf:mJ s1=some r0)(h:Q (.ret (.agg (aX r0))) τ):PC 266 [.str s1] τ Q:=by
 unfold mJ at hf;refine BN 5 [.cell 2 34] [0] Tryz.func266 Z Z Z Z Z (W 0 Z (AS Z (AO.aP Z iX (fun b2=>?_))));cases hf;exact Rx 3 [0] Z Z (ZC [0] Z Z h)
theorem kW(v1:ah)(jJ:Int){r0:Bool}(hf:iZ v1 jJ=some r0)(h:Q (.ret (.bool r0)) τ):PC 324 [.agg (aX v1),iP jJ] τ Q:=by
 unfold iZ at hf;refine BN 9 [.tmp 4] [0,1] Tryz.func324 Z Z Z Z Z ?_;cases hf;exact M 7 Z (Y Z h)
@[reducible] def XV:eX aF Unit→eP
 | .ok r=>.ret (.tuple [])
 | .bad e=>.panic (.iface 204 (.agg [iP e.code]))
theorem bK(ok1:Bool)(e1:Int){rX:eX aF Unit}(hf:eF ok1 e1=some rX)(h:Q (XV rX) τ):PC 274 [.bool ok1,iP e1] τ Q:=by
 unfold eF at hf;refine BN 8 [] [0,1] Tryz.func274 Z Z Z Z Z (V 2 Z (C hf Z (fun h1 hf=>?_) fun h1 hf=>?_))
 ·rcases bM hf with⟨e2,h2,hf⟩|⟨_,h2,hf⟩
  ·refine W 1 Z (CL Z (D9 _ h2 ?_));cases hf;exact⟨Z,[],apZ _,h⟩
  refine W 1 Z (CL Z (D9 _ h2 ?_));cases hf;exact N 0 Z (ZN Z h)
 cases hf;exact M 0 Z (ZN Z h)
theorem zD(s1:List Str)(v1:Str){r0:Int}(hf:jr s1 v1=some r0)(h:Q (.ret (iP r0)) τ):PC 357 [sP s1,.str v1] τ Q:=by
 unfold jr at hf;refine BN 19 [.tmp 4] [0,1] Tryz.func357 Z Z Z Z Z (W 2 Z (AS Z (AO.bI (l:=s1) Z Z Z Z ku Z Z (J 1 Z (XK (fun i1=>[(0,sP s1),(1,.str v1),(7,iP (s1.length:Int)),(8,iP i1)]) (fun i1=>[]) (fun dL i1=>iO s1 v1 dL i1=some r0) BIG 0 Z Z hf (fun _ hz=>dH hz) ?_)))));intro dL i1 hf;rw[iO]at hf;refine V 1 Z (C hf Z (fun h1 hf=>?_) fun h1 hf=>?_)
 ·refine B1 hf fun e1 h2 hf=>W 5 Z (AS Z (AO.bQ h2 Z Z Z Z ku Z Z (J 2 Z (C hf Z (fun h3 hf=>?_) fun h3 hf=>?_))))
  ·cases hf;exact M 2 Z (Y Z h)
  exact M 2 Z ⟨(bV (i1+1)),Z,Z,Z,hf⟩
 cases hf;exact M 1 Z (Y Z h)
theorem zF(s1:List Str){r0:List Str}(hf:lC s1=some r0)(h:Q (.ret (sP r0)) τ):PC 134 [sP s1] τ Q:=by
 unfold lC at hf;refine BN 8 [.tmp 2] [0] Tryz.func134 Z Z Z Z Z (W 0 Z (AS Z (AO.jv Z Z (U 1 Z (AS Z (AO.BL Z Z aiW (fun b hb=>(J 0 Z (AW.cond Z (fun h1=>?_) (fun h1=>?_))))))))))
 ·obtain rfl:s1=[]:=ap3.1 (hb h1);obtain⟨_,rfl⟩:=qW hf;refine W 0 Z (AS Z (AO.jv Z Z ?_));exact N 0 rfl ⟨rfl,_,⟨_,_,rfl,rfl,rfl⟩,_,List.Sublist.refl _,h⟩
 refine W 0 Z (AS Z (AO.wL [] Z vw Z Z Z Z Z (fun v1=>(U 1 Z (AS Z (AO.jO (i:=0) (l:=[]) (m:=s1) hf Z Z Z Z Z Z Z vw ku Z Z Z (fun _=>Z) (fun _=>Z) (by decide) (fun v2 s2 hs2=>?_)))))));cases hs2;exact N 1 Z (Y Z h)
abbrev Kq(kY:ah→Option ah):Prop:=∀(wP:ah) {dI:ah},kY wP=some dI→∀ {τ:List bC} {Q:eP→List bC→Prop} (h:Q (.ret (.agg (aX dI))) τ),PC 358 [.agg (aX wP)] τ Q
theorem TR(kY)(Pf:Kq kY)(v1:ah){r0:ah}(hf:zJ kY v1=some r0)(h:Q (.ret (.agg (aX r0))) τ):PC 358 [.agg (aX v1)] τ Q:=by
 unfold zJ at hf;refine BN 28 [.cell 2 34] [0] Tryz.func358 Z Z Z Z Z (W 1 Z (AS Z (AO.aP Z iX (fun b2=>(U 1 Z (AS Z (AO.aP Z iX (fun b3=>?_))))))));refine B1 hf fun x1 h1 hf=>Rr 3 [0] Z Z (CL Z (zF _ h1 (Rr 6 [0,0] Z Z (AS Z (AO.bI (l:=v1.aN) Z Z Z Z jV Z (ah.aQ _) ?_)))));refine J 1 Z (AW.row 6 34 (LK3 (fun x2 bD v2=>[(2,pP b2),(3,pP b3),(13,.list (ah.bO v1.aN)),(14,iP (v1.aN.length:Int)),(15,iP x2)]) (fun x2 bD v2=>[.row v2 (ah.bO bD.aN).length 6 34,.box b3 [iP bD.kind,.bool bD.dR,iP bD.dA,.str bD.bR,.own v2 (ah.bO bD.aN),sP bD.keys],.box b2 [iP 0,.bool false,iP 0,.str ([]:Str),.own (.slice none 0 0) [],.own (.slice none 0 0) []]]) (fun dL x2 bD v2=>tN kY v1 dL x2 bD=some r0) BIG 0 (ah.mk v1.kind v1.dR v1.dA v1.bR [] x1) (.slice none 0 0) Z Z hf (fun _ _ _ hz=>dH hz) ?_));intro dL x2 bD v2 hf;rw[tN]at hf;refine V 1 Z (C hf Z (fun h2 hf=>?_) fun h2 hf=>?_)
 ·refine B1 hf fun e1 h3 hf=>W 0 Z (AS Z (AO.bQ h3 Z Z (ah.aQ _) Z jV (ah.aV _) Z (U 1 Z (AS Z (AO.aP Z iX (fun b5=>(Rw 1 [0] Z Z (AW.draw 5 mixed (by kernel_rfl) Z ?_))))))));refine Ev.cs dK 1 Z (Ev.cons Z Z Z (AO.dh (i:=2) Z Z Z Ye Z Z zg) (Ev.cons Z Z Z (AO.dh (i:=0) Z Z Z tQ Z Z zg) ?_));refine B1 hf fun x3 h4 hf=>Ev.cons rfl rfl rfl (AO.call rfl _ rfl rfl afl (Pf _ h4 ⟨rfl,rfl⟩)) (Ev.cons rfl rfl rfl (AO.dO (ah.bO [x3]) rfl Gl rfl rfl rfl (by first|rfl|simp only[ah.aV,ah.bO]) ⟨rfl,rfl⟩) ?_)
  refine Ev.nil ?_;show AR _ _ _ _ _ _ _ _;refine B1 hf fun x4 h5 hf=>AS Z (AO.jO (i:=1) (l:=bD.aN) (m:=[x3]) h5 Z Z Z Z Z Z Z Gl jV (ah.aQ _) (ah.aQ _) (ah.aQ _).symm (ah.gG) (ah.cells_one) (by decide) (fun v3 s1 hs1=>?_));cases hs1;refine Rn 4 [2] Z Z (AR.drop1 ?_);exact N 0 Z ⟨(bV (x2+1)),(ah.mk bD.kind bD.dR bD.dA bD.bR x4 bD.keys),v3,Z,Z,Z,hf⟩
 cases hf;exact Wx 2 [1,2] Z Z (ZC [2] Z Z h)
theorem Ud:∀k:Nat,(Kq (lT k)):=by
 intro k
 induction k with
 | zero=>exact fun _ _ hz=>by first|cases hz|(unfold lT at hz;cases hz)
 | succ k ih=>exact fun wP dI hz τ Q hq=>TR (lT k) ih wP hz hq
theorem Kh(wP:ah){dI:ah}(hf:mX wP=some dI)(h:Q (.ret (.agg (aX dI))) τ):PC 358 [.agg (aX wP)] τ Q:=
 ((Ud BIG)) wP hf h
theorem OO(v1:ah)(key1:Str){r0:ah}{r1:Bool}(hf:yY v1 key1=some (r0,r1))(h:Q (.ret (.tuple [.agg (aX r0),.bool r1])) τ):PC 325 [.agg (aX v1),.str key1] τ Q:=by
 unfold yY at hf;refine BN 32 [.cell 4 34,.tmp 5] [0,1] Tryz.func325 Z Z Z Z Z (W 1 Z (AS Z (AO.aP Z iX (fun b4=>?_))));refine B1 hf fun i1 h1 hf=>U 4 Z (CL Z (zD _ _ h1 (U 5 Z (On 3 14 17 [2,4,6] (decide (i1<0)) Z Z Z Z (U 1 Z (AR.or 6 18 24 [2,4,6] (x:=(decide ((v1.aN.length:Int)≤i1))) Z Z (fun h3=>?_) (fun h3=>?_) ?_))))))
 ·refine Is 18 h3 Z (U 3 Z (GO Z (AO.bI (l:=v1.aN) Z Z Z Z jV Z (ah.aQ _) ?_)));exact gy 2 Z (En [24,2,4,6] Z)
 ·refine Is 18 h3 Z ?_;exact gy 6 Z (En [24,2,4,6] Z)
 refine J 0 Z (C hf Z (fun h4 hf=>?_) fun h4 hf=>?_)
 ·cases hf;exact Wx 3 [0] Z Z (ZC [0] Z Z h)
 refine B1 hf fun e1 h5 hf=>W 3 Z (AS Z (AO.bQ h5 Z Z (ah.aQ _) Z jV (ah.aV _) Z ?_));refine B1 hf fun x1 h6 hf=>U 1 Z (CL Z (Kh _ h6 ?_));cases hf;exact Rx 2 [0] Z Z (ZC [0] Z Z h)
@[reducible] def V4:eX aF ah→eP
 | .ok r=>.ret (.agg (aX r))
 | .bad e=>.panic (.iface 204 (.agg [iP e.code]))
theorem BU(m1 key1:ah){rX:eX aF ah}(hf:wT m1 key1=some rX)(h:Q (V4 rX) τ):PC 265 [.agg (aX m1),.agg (aX key1)] τ Q:=by
 unfold wT at hf;refine BN 24 [.cell 4 34] [0,1] Tryz.func265 Z Z Z Z Z (W 2 Z (AS Z (AO.aP Z iX (fun b4=>?_))));refine B1 hf fun x1 h1 hf=>U 1 Z (CL Z (kW _ _ h1 ?_));refine B1 hf fun b1 h3 hf=>U 1 Z (AR.fT 3 9 12 true [2,3,4] b1 Z Z (fun h2=>?_) (fun h2=>?_) ?_)
 ·refine IT 9 h2 h3 Z fun h3=>?_;refine BR h3 fun x2 h4 h3=>?_;refine U 1 Z (GO Z (AO.call Z _ Z Z Nl (kW _ _ h4 ?_)));cases h3;exact gy 1 Z (En [12,2,3,4] Z)
 ·refine IF 9 h2 h3 Z fun h3=>?_;cases h3;exact gy 3 Z (En [12,2,3,4] Z)
 rcases bM hf with⟨e1,h5,hf⟩|⟨_,h5,hf⟩
 ·refine CL Z (bK _ _ h5 ?_);cases hf;exact⟨Z,[],apZ _,h⟩
 refine CL Z (bK _ _ h5 ?_);obtain⟨x3,ok1,h6,hf⟩:=dD hf;refine U 3 Z (CL Z (OO _ _ h6 (U 3 Z (AS Z (AO.aP Z iX (fun b5=>?_))))));rcases bM hf with⟨e2,h7,hf⟩|⟨_,h7,hf⟩
 ·refine Rr 3 [0] Z Z (CL Z (bK _ _ h7 ?_));cases hf;exact⟨Z,[],apZ _,h⟩
 refine Rr 3 [0] Z Z (CL Z (bK _ _ h7 ?_));cases hf;exact Rx 2 [0,1] Z Z (ZC [1] Z Z h)
@[reducible] def Qe:eX aF ah→eP
 | .ok r=>.ret (.agg (aX r))
 | .bad e=>.panic (.iface 204 (.agg [iP e.code]))
theorem Jf(a1 i1:ah){rX:eX aF ah}(hf:u7 a1 i1=some rX)(h:Q (Qe rX) τ):PC 267 [.agg (aX a1),.agg (aX i1)] τ Q:=by
 unfold u7 at hf;refine BN 32 [.cell 4 34] [0,1] Tryz.func267 Z Z Z Z Z (W 2 Z (AS Z (AO.aP Z iX (fun b4=>?_))));refine B1 hf fun x1 h1 hf=>U 1 Z (CL Z (kW _ _ h1 ?_));refine B1 hf fun b1 h3 hf=>U 1 Z (AR.fT 3 7 10 true [2,3,4] b1 Z Z (fun h2=>?_) (fun h2=>?_) ?_)
 ·refine IT 7 h2 h3 Z fun h3=>?_;refine BR h3 fun x2 h4 h3=>?_;refine U 1 Z (GO Z (AO.call Z _ Z Z Nl (kW _ _ h4 ?_)));cases h3;exact gy 1 Z (En [10,2,3,4] Z)
 ·refine IF 7 h2 h3 Z fun h3=>?_;cases h3;exact gy 3 Z (En [10,2,3,4] Z)
 refine J 0 Z (C hf Z (fun h5 hf=>?_) fun h5 hf=>?_)
 ·refine W 4 Z (AR.and 7 14 21 [2,3,4] (x:=(decide (i1.dA<(a1.aN.length:Int)))) Z Z (fun h6=>?_) (fun h6=>?_) ?_)
  ·refine Is 14 h6 Z (U 4 Z (GO Z (AO.bI (l:=a1.aN) Z Z Z Z jV Z (ah.aQ _) ?_)));exact gy 2 Z (En [21,2,3,4] Z)
  ·refine Is 14 h6 Z ?_;exact gy 7 Z (En [21,2,3,4] Z)
  rcases bM hf with⟨e1,h7,hf⟩|⟨_,h7,hf⟩
  ·refine CL Z (bK _ _ h7 ?_);cases hf;exact⟨Z,[],apZ _,h⟩
  refine CL Z (bK _ _ h7 ?_);refine B1 hf fun e2 h8 hf=>U 4 Z (AS Z (AO.bQ h8 Z Z (ah.aQ _) Z jV (ah.aV _) Z ?_));cases hf;exact Rx 2 [0] Z Z (ZC [0] Z Z h)
 rcases bM hf with⟨e3,h9,hf⟩|⟨x3,h9,hf⟩
 ·refine W 2 Z (CL Z (BU _ _ h9 ?_));cases hf;exact⟨Z,[],apZ _,h⟩
 refine W 2 Z (CL Z (BU _ _ h9 ?_));cases hf;exact Rx 1 [0] Z Z (ZC [0] Z Z h)
theorem XB(name1:Str){r0:Int}(hf:zC name1=some r0)(h:Q (.ret (iP r0)) τ):PC 326 [.str name1] τ Q:=by
 unfold zC at hf;refine BN 18 [.tmp 2] [0] Tryz.func326 Z Z Z Z Z (V 4 Z (C hf Z (fun h1 hf=>?_) fun h1 hf=>?_))
 ·refine V 0 Z (AW.cond Z (fun h2=>?_) (fun h2=>?_))
  ·cases hf;exact M 1 Z (Y Z h)
  cases h1.symm.trans h2
 refine V 2 Z (C hf Z (fun h3 hf=>?_) fun h3 hf=>?_)
 ·refine V 0 Z (AW.cond Z (fun h4=>?_) (fun h4=>?_))
  ·cases hf;exact M 1 Z (Y Z h)
  cases h3.symm.trans h4
 refine V 2 Z (C hf Z (fun h5 hf=>?_) fun h5 hf=>?_)
 ·refine V 0 Z (AW.cond Z (fun h6=>?_) (fun h6=>?_))
  ·cases hf;exact M 1 Z (Y Z h)
  cases h5.symm.trans h6
 refine V 2 Z (C hf Z (fun h7 hf=>?_) fun h7 hf=>?_)
 ·refine V 0 Z (AW.cond Z (fun h8=>?_) (fun h8=>?_))
  ·cases hf;exact M 1 Z (Y Z h)
  cases h7.symm.trans h8
 refine V 2 Z (C hf Z (fun h9 hf=>?_) fun h9 hf=>?_)
 ·refine V 0 Z (AW.cond Z (fun h10=>?_) (fun h10=>?_))
  ·cases hf;exact M 1 Z (Y Z h)
  cases h9.symm.trans h10
 refine V 2 Z (C hf Z (fun h11 hf=>?_) fun h11 hf=>?_)
 ·cases hf;exact M 1 Z (Y Z h)
 refine V 2 Z (C hf Z (fun h12 hf=>?_) fun h12 hf=>?_)
 ·refine V 0 Z (AW.cond Z (fun qp=>?_) (fun qp=>?_))
  ·cases hf;exact M 1 Z (Y Z h)
  cases h12.symm.trans qp
 refine V 2 Z (C hf Z (fun oI hf=>?_) fun oI hf=>?_)
 ·refine V 0 Z (AW.cond Z (fun vY=>?_) (fun vY=>?_))
  ·cases hf;exact M 1 Z (Y Z h)
  cases oI.symm.trans vY
 refine V 2 Z (C hf Z (fun h16 hf=>?_) fun h16 hf=>?_)
 ·refine V 0 Z (AW.cond Z (fun AZ=>?_) (fun AZ=>?_))
  ·cases hf;exact M 1 Z (Y Z h)
  cases h16.symm.trans AZ
 refine V 2 Z (C hf Z (fun h18 hf=>?_) fun h18 hf=>?_)
 ·refine V 0 Z (AW.cond Z (fun h19=>?_) (fun h19=>?_))
  ·cases hf;exact M 1 Z (Y Z h)
  cases h18.symm.trans h19
 refine V 2 Z (C hf Z (fun h20 hf=>?_) fun h20 hf=>?_)
 ·refine V 0 Z (AW.cond Z (fun h21=>?_) (fun h21=>?_))
  ·cases hf;exact M 1 Z (Y Z h)
  cases h20.symm.trans h21
 refine V 2 Z (C hf Z (fun h22 hf=>?_) fun h22 hf=>?_)
 ·cases hf;exact M 1 Z (Y Z h)
 cases hf;exact M 1 Z (Y Z h)
theorem uL(n1:Int){r0:ah}(hf:p9 n1=some r0)(h:Q (.ret (.agg (aX r0))) τ):PC 330 [iP n1] τ Q:=by
 unfold p9 at hf;refine BN 5 [.cell 2 34] [0] Tryz.func330 Z Z Z Z Z (W 0 Z (AS Z (AO.aP Z iX (fun b2=>?_))));cases hf;exact Rx 3 [0] Z Z (ZC [0] Z Z h)
theorem MI(l1:List ah){r0:ah}(hf:CY l1=some r0)(h:Q (.ret (.agg (aX r0))) τ):PC 272 [.list (ah.bO l1)] τ Q:=by
 unfold CY at hf;refine BN 5 [.cell 2 34] [0] Tryz.func272 Z Z Z Z Z (W 0 Z (AS Z (AO.aP Z iX (fun b2=>?_))));cases hf;exact Rx 3 [0] Z Z (ZC [0] Z Z h)
theorem N9(h:Q (.ret (.agg [iP 4,.bool false,iP 0,.str ([]:Str),.own (.slice none 0 0) [],.own (.slice none 0 0) []])) τ):PC 272 [.own (.slice none 0 0) []] τ Q:=by
 refine AC.none (AC.afI 5 [.cell 2 34] [0] Tryz.func272 Z Z Z Z Z (AW.sr (AR.step Z Z Z (AO.aP Z iX (fun b2=>?_)))));refine AR.nil [0,2] Z (AW.sr (cs 1 Z (AR.step Z Z Z (AO.build Z iX aeX Z ?_))));refine AR.dx Z Z (AO.eU (i:=0) Z Z Z tQ Z Z Z Z Z (AR.nil [2] Z (AW.ret ?_)));exact⟨rfl,_,⟨_,_,rfl,⟨_,_,0,_,_,rfl,rfl,tQ,rfl⟩,rfl⟩,[],apZ _,h⟩
theorem OQ(l1:List Str){r0:ah}(hf:zy l1=some r0)(h:Q (.ret (.agg (aX r0))) τ):PC 359 [sP l1] τ Q:=by
 unfold zy at hf;refine BN 22 [.cell 2 34] [0] Tryz.func359 Z Z Z Z Z (W 0 Z (AS Z (AO.aP Z iX (fun b2=>(U 0 Z (AS Z (AO.amv Z _ Z Z aj6 (N9 (AS Z (AO.aP Z iX (fun b3=>?_)))))))))));refine Rr 2 [0] Z Z (AS Z (AO.bI (l:=l1) Z Z Z Z ku Z Z ?_));refine J 1 Z (AW.row 6 34 (AW.settle [2,3,7,8,9] Z (AW.AV 1 [false,false,false,false,false,true] Z (LK3 (fun x1 bD v1=>[(2,pP b2),(3,pP b3),(7,sP l1),(8,iP (l1.length:Int)),(9,iP x1)]) (fun x1 bD v1=>[.row v1 (ah.bO bD.aN).length 6 34,.box b3 [iP bD.kind,.bool bD.dR,iP bD.dA,.str bD.bR,.own v1 (ah.bO bD.aN),sP bD.keys],.box b2 [iP 0,.bool false,iP 0,.str ([]:Str),.own (.slice none 0 0) [],.own (.slice none 0 0) []]]) (fun dL x1 bD v1=>yL l1 dL x1 bD=some r0) BIG 0 (ah.mk 4 false 0 ([]:Str) [] []) (.slice none 0 0) Z Z hf (fun _ _ _ hz=>dH hz) ?_))));intro dL x1 bD v1 hf;rw[yL]at hf;refine V 1 Z (C hf Z (fun h1 hf=>?_) fun h1 hf=>?_)
 ·refine B1 hf fun s1 h2 hf=>W 0 Z (AS Z (AO.bQ h2 Z Z Z Z ku Z Z (J 2 Z (AW.draw 5 mixed (by kernel_rfl) Z ?_))));refine Ev.cs dK 1 Z (Ev.cons Z Z Z (AO.dh (i:=1) Z Z Z Ye Z Z zg) (Ev.cs dK 1 Z ?_));refine B1 hf fun x2 h3 hf=>Ev.cons rfl rfl rfl (AO.call rfl _ rfl rfl afo (uK _ h3 ⟨rfl,rfl⟩)) (Ev.cons rfl rfl rfl (AO.dO (ah.bO [x2]) rfl Gl rfl rfl rfl (by first|rfl|simp only[ah.aV,ah.bO]) ⟨rfl,rfl⟩) ?_);refine Ev.nil ?_
  show AR _ _ _ _ _ _ _ _;refine B1 hf fun x3 h4 hf=>AS Z (AO.jO (i:=0) (l:=bD.aN) (m:=[x2]) h4 Z Z Z Z Z Z Z Gl jV (ah.aQ _) (ah.aQ _) (ah.aQ _).symm (ah.gG) (ah.cells_one) (by decide) (fun v2 s2 hs2=>?_));cases hs2;exact Rx 4 [1] Z Z ⟨(bV (x1+1)),(ah.mk bD.kind bD.dR bD.dA bD.bR x3 bD.keys),v2,Z,Z,Z,hf⟩
 cases hf;exact Wx 2 [1,2] Z Z (ZC [2] Z Z h)
theorem Gb(b1:Bool){r0:Str}(hf:pX b1=some r0)(h:Q (.ret (.str r0)) τ):PC 276 [.bool b1] τ Q:=by
 unfold pX at hf;refine BN 4 [.tmp 2] [0] Tryz.func276 Z Z Z Z Z (V 2 Z (C hf Z (fun h1 hf=>?_) fun h1 hf=>?_))
 ·cases hf;exact M 1 Z (Y Z h)
 cases hf;exact M 1 Z (Y Z h)
theorem Ja(b1:Bool){r0:Str}(hf:strconv_FormatBool b1=some r0)(h:Q (.ret (.str r0)) τ):PC 202 [.bool b1] τ Q:=by
 unfold strconv_FormatBool at hf;refine BN 5 [.tmp 2] [0] Tryz.func202 Z Z Z Z Z ?_;refine BR hf fun x1 h1 hf=>?_;refine W 2 Z (CL Z (Gb _ h1 ?_));cases hf;exact N 1 Z (Y Z h)
theorem Et(s1:Str){r0:Str}(hf:zX s1=some r0)(h:Q (.ret (.str r0)) τ):PC 204 [.str s1] τ Q:=by
 unfold zX at hf;refine BN 54 [.tmp 2] [0] Tryz.func204 Z Z Z Z Z (W 1 Z (AS Z (AO.E8 (eu:=5) Z XQ Z (fun b3=>?_))));refine B1 hf fun b1 h1 hf=>U 0 Z (CL Z (AC.one 0 Z (jB h1 (fun v1=>⟨_,Z,(J 1 Z (LK3 (fun i1 b2 v2=>[(0,.str s1),(3,pP b3),(4,iP i1)]) (fun i1 b2 v2=>[.K8 b3 v2 72 5 b2]) (fun dL i1 b2 v2=>mW s1 dL i1 b2=some r0) BIG 0 b1 v1 Z Z hf (fun _ _ _ hz=>dH hz) ?_))⟩))));intro dL i1 b2 v2 hf;rw[mW]at hf;refine W 2 Z (AS Z (AO.eG Z Z Z Z fD Z (J 1 Z (C hf Z (fun h2 hf=>?_) fun h2 hf=>?_))))
 ·refine B1 hf fun c1 h3 hf=>W 2 Z (AS Z (AO.ig h3 Z fD Z Z (U 4 Z (On 3 28 31 [0,3,4,5] ((c1.toNat:Int)==92) Z Z Z Z (J 1 Z (C hf Z (fun h5 hf=>?_) fun h5 hf=>?_))))))
  ·refine B1 hf fun b3 h6 hf=>W 0 Z (CL Z (AC.one 0 Z (jB h6 (fun v3=>⟨_,Z,?_⟩))));refine B1 hf fun b4 h7 hf=>U 1 Z (CL Z (AC.one 0 Z (jB h7 (fun v4=>⟨_,Z,?_⟩))));exact N 3 Z ⟨(bV (i1+1)),b4,v4,Z,Z,Z,hf⟩
  refine V 3 Z (C hf Z (fun h8 hf=>?_) fun h8 hf=>?_)
  ·refine B1 hf fun b5 h9 hf=>W 0 Z (CL Z (AC.one 0 Z (nE h9 (fun v5=>⟨_,Z,?_⟩))));exact N 3 Z ⟨(bV (i1+1)),b5,v5,Z,Z,Z,hf⟩
  refine V 3 Z (C hf Z (fun h10 hf=>?_) fun h10 hf=>?_)
  ·refine B1 hf fun b6 h11 hf=>W 0 Z (CL Z (AC.one 0 Z (nE h11 (fun v6=>⟨_,Z,?_⟩))));exact N 3 Z ⟨(bV (i1+1)),b6,v6,Z,Z,Z,hf⟩
  refine W 3 Z (An 3 46 49 [0,3,4,5] (decide ((c1.toNat:Int)≤126)) Z Z Z Z (J 1 Z (C hf Z (fun qp hf=>?_) fun qp hf=>?_)))
  ·refine B1 hf fun b7 oI hf=>W 1 Z (CL Z (AC.one 0 Z (jB oI (fun v7=>⟨_,Z,?_⟩))));exact N 3 Z ⟨(bV (i1+1)),b7,v7,Z,Z,Z,hf⟩
  refine B1 hf fun b8 vY hf=>W 0 Z (CL Z (AC.one 0 Z (nE vY (fun v8=>⟨_,Z,(U 1 Z (AS Z (AO.u8_quo c1 16 Z Z Z Z Z (by decide) ?_)))⟩))));refine B1 hf fun x1 h16 hf=>AS Z (AO.ig h16 Z fD Z Z ?_);refine B1 hf fun b9 AZ hf=>CL Z (AC.one 0 Z (jB AZ (fun v9=>⟨_,Z,(U 1 Z (AS Z (AO.ajM c1 16 Z Z Z Z Z (by decide) ?_)))⟩)));refine B1 hf fun x2 h18 hf=>AS Z (AO.ig h18 Z fD Z Z ?_);refine B1 hf fun b10 h19 hf=>CL Z (AC.one 0 Z (jB h19 (fun v10=>⟨_,Z,?_⟩)));exact N 3 Z ⟨(bV (i1+1)),b10,v10,Z,Z,Z,hf⟩
 refine BR hf fun b11 h20 hf=>?_;refine W 0 Z (CL Z (AC.one 0 Z (jB h20 (fun v11=>⟨_,Z,(U 0 Z (CL Z (AC.L6 0 Z (yT ?_))))⟩))));cases hf;exact N 1 Z (Y Z h)
section
variable [BZ]
def Vv:Go.Shelf.Ren:=⟨fun|156=>187|165=>115|166=>36|169=>39|240=>60|241=>190|276=>96|277=>256|n=>n,fun|31=>32|9=>9|3=>3|4=>4|0=>0|20=>20|72=>72|76=>86|70=>70|37=>68|75=>77|127=>124|164=>138|5=>5|80=>69|n=>n,fun|n=>n⟩
theorem joinL:Go.Proofs.Lays.n156 Tryz.prog Vv:=by repeat' first|(intros;kernel_rfl)|constructor|decide
theorem al6:Go.Proofs.Builder.Extra Tryz.prog Vv:=by repeat' first|(intros;kernel_rfl)|constructor|decide
theorem Dk(l1:List Str)(t1:Str){r0:Str}(hf:strings_Join l1 t1=some r0)(h:Q (.ret (.str r0)) τ):PC 187 [sP l1,.str t1] τ Q:=by
 unfold strings_Join at hf;split at hf
 case isFalse=>cases hf
 rename_i hg;cases hf;refine AC.none ?_;exact AC.join BZ.hD joinL al6 hg.1 hg.2 h
end
section
variable [BZ]
abbrev GI(fE:ah→Option Str):Prop:=∀(wP:ah) {dI:Str},fE wP=some dI→∀ {τ:List bC} {Q:eP→List bC→Prop} (h:Q (.ret (.str dI)) τ),PC 128 [.agg (aX wP)] τ Q
theorem OZ(fE)(yH:GI fE)(v1:ah){r0:Str}(hf:wB fE v1=some r0)(h:Q (.ret (.str r0)) τ):PC 128 [.agg (aX v1)] τ Q:=by
 unfold wB at hf;refine BN 68 [.tmp 2] [0] Tryz.func128 Z Z Z Z Z (V 6 Z (C hf Z (fun h1 hf=>?_) fun h1 hf=>?_))
 ·refine BR hf fun x1 h2 hf=>?_;refine W 2 Z (CL Z (Ja _ h2 ?_));cases hf;exact N 1 Z (Y Z h)
 refine V 2 Z (C hf Z (fun h3 hf=>?_) fun h3 hf=>?_)
 ·refine BR hf fun x2 h4 hf=>?_;refine W 2 Z (CL Z (I_ _ h4 ?_));cases hf;exact N 1 Z (Y Z h)
 refine V 2 Z (C hf Z (fun h5 hf=>?_) fun h5 hf=>?_)
 ·refine BR hf fun x3 h6 hf=>?_;refine W 2 Z (CL Z (Et _ h6 ?_));cases hf;exact N 1 Z (Y Z h)
 refine V 2 Z (C hf Z (fun h7 hf=>?_) fun h7 hf=>?_)
 ·refine V 0 Z (AW.cond Z (fun h8=>?_) (fun h8=>?_))
  ·refine W 3 Z (AS Z (AO.bI (l:=v1.aN) Z Z Z Z jV Z (ah.aQ _) (J 1 Z (AW.row 1 9 (LK3 (fun Ay v2 i1=>[(1,.ref (aX v1)),(3,.own v2 (List.map lH Ay)),(28,.list (ah.bO v1.aN)),(29,iP (v1.aN.length:Int)),(30,iP i1)]) (fun Ay v2 i1=>[.row v2 (List.map lH Ay).length 1 9]) (fun dL Ay v2 i1=>qD fE v1 dL Ay i1=some r0) BIG [] (.slice none 0 0) 0 Z Z hf (fun _ _ _ hz=>dH hz) ?_)))));intro dL Ay v2 i1 hf;rw[qD]at hf;refine V 1 Z (C hf Z (fun h9 hf=>?_) fun h9 hf=>?_)
   ·refine B1 hf fun e1 h10 hf=>W 1 Z (AS Z (AO.bQ h10 Z Z (ah.aQ _) Z jV (ah.aV _) Z (U 1 Z (AS Z (AO.aP Z iX (fun b5=>(Rw 5 [0] Z Z (C hf Z (fun h11 hf=>?_) fun h11 hf=>?_))))))))
    ·refine AW.draw 12 mixed (by kernel_rfl) Z ?_;refine Ev.cs dK 4 Z ?_;refine B1 hf fun e2 h12 hf=>Ev.cons Z Z Z (AO.bQ h12 Z Z Z Z ku Z Z zg) (Ev.cs dK 1 Z ?_);refine B1 hf fun x4 qp hf=>Ev.cons Z Z Z (AO.call Z _ Z Z afq (Et _ qp zg)) ?_;refine B1 hf fun x5 oI hf=>Ev.cons Z Z Z (AO.o_ oI Z Z Z zg) (Ev.cons Z Z Z (AO.dh (i:=0) Z Z Z tQ Z Z zg) ?_);refine B1 hf fun x6 vY hf=>Ev.cons Z Z Z (AO.call Z _ Z Z afu (yH _ vY zg)) ?_;refine B1 hf fun x7 h16 hf=>Ev.cons Z Z Z (AO.o_ h16 Z Z Z zg) (Ev.cons Z Z Z (AO.dO (List.map lH ([x7]:List Str)) Z vw Z Z Z Z zg) (Ev.nil ?_));show AR _ _ _ _ _ _ _ _;refine B1 hf fun aaI AZ hf=>AS Z (AO.jO (i:=1) (l:=Ay) (m:=([x7]:List Str)) AZ Z Z Z Z Z Z Z vw ku Z Z Z (fun _=>Z) (fun _=>Z) (by decide) (fun v3 s1 hs1=>?_));cases hs1;refine gy 3 Z (AR.drop1 ?_);exact N 0 Z ⟨aaI,v3,(bV (i1+1)),Z,Z,Z,hf⟩
    refine B1 hf fun x8 h18 hf=>Wr 2 [0] Z Z (CL Z (yH _ h18 (AS Z (AO.dO (List.map lH ([x8]:List Str)) Z vw Z Z Z Z ?_))));refine B1 hf fun aaH h19 hf=>AS Z (AO.jO (i:=1) (l:=Ay) (m:=([x8]:List Str)) h19 Z Z Z Z Z Z Z vw ku Z Z Z (fun _=>Z) (fun _=>Z) (by decide) (fun v4 s2 hs2=>?_));cases hs2;refine gy 3 Z (AR.drop1 ?_);exact N 0 Z ⟨aaH,v4,(bV (i1+1)),Z,Z,Z,hf⟩
   refine B1 hf fun s3 h20 hf=>W 1 Z (CL Z (Dk _ _ h20 (J 4 Z (C hf Z (fun h21 hf=>?_) fun h21 hf=>?_))))
   ·refine B1 hf fun x9 h22 hf=>W 1 Z (AS Z (AO.o_ h22 Z Z Z ?_));refine BR hf fun EB h23 hf=>?_;refine AS Z (AO.o_ h23 Z Z Z ?_);cases hf;exact N 1 Z (Y Z h)
   refine B1 hf fun La J_ hf=>W 1 Z (AS Z (AO.o_ J_ Z Z Z ?_));refine BR hf fun Qf KS hf=>?_;refine AS Z (AO.o_ KS Z Z Z ?_);cases hf;exact N 1 Z (Y Z h)
  cases h7.symm.trans h8
 refine V 2 Z (C hf Z (fun Mj hf=>?_) fun Mj hf=>?_)
 ·refine W 3 Z (AS Z (AO.bI (l:=v1.aN) Z Z Z Z jV Z (ah.aQ _) (J 1 Z (AW.row 1 9 (LK3 (fun Er v5 i2=>[(1,.ref (aX v1)),(3,.own v5 (List.map lH Er)),(28,.list (ah.bO v1.aN)),(29,iP (v1.aN.length:Int)),(30,iP i2)]) (fun Er v5 i2=>[.row v5 (List.map lH Er).length 1 9]) (fun Y0 Er v5 i2=>uQ fE v1 Y0 Er i2=some r0) BIG [] (.slice none 0 0) 0 Z Z hf (fun _ _ _ hz=>dH hz) ?_)))));intro Y0 Er v5 i2 hf;rw[uQ]at hf;refine V 1 Z (C hf Z (fun h27 hf=>?_) fun h27 hf=>?_)
  ·refine B1 hf fun e3 NA hf=>W 1 Z (AS Z (AO.bQ NA Z Z (ah.aQ _) Z jV (ah.aV _) Z (U 1 Z (AS Z (AO.aP Z iX (fun ao1=>(Rw 5 [0] Z Z (AW.cond Z (fun TL=>?_) (fun TL=>?_)))))))))
   ·refine AW.draw 12 mixed (by kernel_rfl) Z ?_;refine Ev.cs dK 4 Z ?_;refine B1 hf fun e4 h30 hf=>Ev.cons Z Z Z (AO.bQ h30 Z Z Z Z ku Z Z zg) (Ev.cs dK 1 Z ?_);refine B1 hf fun OY h31 hf=>Ev.cons Z Z Z (AO.call Z _ Z Z afq (Et _ h31 zg)) ?_;refine B1 hf fun UQ h32 hf=>Ev.cons Z Z Z (AO.o_ h32 Z Z Z zg) (Ev.cons Z Z Z (AO.dh (i:=0) Z Z Z tQ Z Z zg) ?_);refine B1 hf fun XY JI hf=>Ev.cons Z Z Z (AO.call Z _ Z Z afu (yH _ JI zg)) ?_;refine B1 hf fun TQ GQ hf=>Ev.cons Z Z Z (AO.o_ GQ Z Z Z zg) (Ev.cons Z Z Z (AO.dO (List.map lH ([TQ]:List Str)) Z vw Z Z Z Z zg) (Ev.nil ?_));show AR _ _ _ _ _ _ _ _;refine B1 hf fun aaG P5 hf=>AS Z (AO.jO (i:=1) (l:=Er) (m:=([TQ]:List Str)) P5 Z Z Z Z Z Z Z vw ku Z Z Z (fun _=>Z) (fun _=>Z) (by decide) (fun v6 s4 hs4=>?_));cases hs4;refine gy 3 Z (AR.drop1 ?_);exact N 0 Z ⟨aaG,v6,(bV (i2+1)),Z,Z,Z,hf⟩
   cases Mj.symm.trans TL
  refine B1 hf fun s5 Sd hf=>W 1 Z (CL Z (Dk _ _ Sd (J 4 Z (AW.cond Z (fun h37=>?_) (fun h37=>?_)))))
  ·refine B1 hf fun XL h38 hf=>W 1 Z (AS Z (AO.o_ h38 Z Z Z ?_));refine BR hf fun x18 PZ hf=>?_;refine AS Z (AO.o_ PZ Z Z Z ?_);cases hf;exact N 1 Z (Y Z h)
  cases Mj.symm.trans h37
 cases hf;exact M 1 Z (Y Z h)
theorem O9:∀k:Nat,(GI (pE k)):=by
 intro k
 induction k with
 | zero=>exact fun _ _ hz=>by first|cases hz|(unfold pE at hz;cases hz)
 | succ k ih=>exact fun wP dI hz τ Q hq=>OZ (pE k) ih wP hz hq
theorem Gw(wP:ah){dI:Str}(hf:zI wP=some dI)(h:Q (.ret (.str dI)) τ):PC 128 [.agg (aX wP)] τ Q:=
 ((O9 BIG)) wP hf h
end
section
variable [BZ]
theorem MB(v1:ah){r0:Str}{r1:Int}(hf:yX v1=some (r0,r1))(h:Q (.ret (.tuple [.str r0,iP r1])) τ):PC 77 [.agg (aX v1)] τ Q:=by
 unfold yX at hf;refine BN 28 [.tmp 2,.tmp 3] [0] Tryz.func77 Z Z Z Z Z (W 7 Z (On 4 8 12 [1] (v1.kind==5) Z Z Z Z (J 0 Z (C hf Z (fun h2 hf=>?_) fun h2 hf=>?_))))
 ·cases hf;exact M 2 Z (Y Z h)
 refine B1 hf fun e1 h3 hf=>W 1 Z (CL Z (oC _ h3 (J 3 Z (C hf Z (fun h4 hf=>?_) fun h4 hf=>?_))))
 ·cases hf;exact M 3 Z (Y Z h)
 refine V 4 Z (C hf Z (fun h5 hf=>?_) fun h5 hf=>?_)
 ·cases hf;exact M 2 Z (Y Z h)
 refine V 2 Z (C hf Z (fun h6 hf=>?_) fun h6 hf=>?_)
 ·cases hf;exact M 4 Z (Y Z h)
 refine B1 hf fun x1 h7 hf=>W 1 Z (CL Z (Gw _ h7 ?_));cases hf;exact N 2 Z (Y Z h)
end
theorem Kk(s1:Str)(lo1 hi1:UInt8)(Ea:Int){r0:Str}(hf:xE s1 lo1 hi1 Ea=some r0)(h:Q (.ret (.str r0)) τ):PC 360 [.str s1,.int .u8 (lo1.toNat:Int),.int .u8 (hi1.toNat:Int),iP Ea] τ Q:=by
 unfold xE at hf;refine BN 42 [.tmp 8] [0,1,2,3] Tryz.func360 Z Z Z Z Z (W 1 Z (AS Z (AO.E8 (eu:=5) Z XQ Z (fun b9=>(J 1 Z (LK3 (fun i1 b1 v1=>[(0,.str s1),(1,.int .u8 (lo1.toNat:Int)),(2,.int .u8 (hi1.toNat:Int)),(3,iP Ea),(9,pP b9),(10,iP i1)]) (fun i1 b1 v1=>[.K8 b9 v1 72 5 b1]) (fun dL i1 b1 v1=>qQ s1 lo1 hi1 Ea dL i1 b1=some r0) BIG 0 [] (.slice none 0 0) Z Z hf (fun _ _ _ hz=>dH hz) ?_))))));intro dL i1 b1 v1 hf;rw[qQ]at hf;refine W 2 Z (AS Z (AO.eG Z Z Z Z fD Z (J 1 Z (C hf Z (fun h1 hf=>?_) fun h1 hf=>?_))))
 ·refine B1 hf fun x1 h2 hf=>W 2 Z (AS Z (AO.ig h2 Z fD Z Z ?_));refine B1 hf fun b2 h4 hf=>U 3 Z (AR.fT 6 22 28 true [0,1,2,3,9,10] b2 Z Z (fun h3=>?_) (fun h3=>?_) ?_)
  ·refine IT 22 h3 h4 Z fun h4=>?_;refine B1 h4 fun x2 h5 h4=>U 2 Z (GO Z (AO.ig h5 Z fD Z Z ?_));cases h4;exact gy 3 Z (En [28,0,1,2,3,9,10] Z)
  ·refine IF 22 h3 h4 Z fun h4=>?_;cases h4;exact gy 6 Z (En [28,0,1,2,3,9,10] Z)
  refine J 0 Z (C hf Z (fun h6 hf=>?_) fun h6 hf=>?_)
  ·refine B1 hf fun x3 h7 hf=>W 2 Z (AS Z (AO.ig h7 Z fD Z Z (AS Z (AO.EU Z Wh Qq Z Z (U 2 Z (AS Z (AO.Zq Z Qq Wh Z ?_)))))));refine B1 hf fun b3 h8 hf=>CL Z (AC.one 0 Z (jB h8 (fun v2=>⟨_,Z,?_⟩)));exact N 3 Z ⟨(bV (i1+1)),b3,v2,Z,Z,Z,hf⟩
  refine B1 hf fun x4 h9 hf=>W 2 Z (AS Z (AO.ig h9 Z fD Z Z ?_));refine B1 hf fun b4 h10 hf=>CL Z (AC.one 0 Z (jB h10 (fun v3=>⟨_,Z,?_⟩)));exact N 3 Z ⟨(bV (i1+1)),b4,v3,Z,Z,Z,hf⟩
 refine W 0 Z (CL Z (AC.L6 0 Z (yT ?_)));cases hf;exact N 1 Z (Y Z h)
section
variable [BZ]
theorem UL(s1:Str){r0:Int}{r1:Bool}(hf:uE s1=some (r0,r1))(h:Q (.ret (.tuple [iP r0,.bool r1])) τ):PC 361 [.str s1] τ Q:=by
 unfold uE at hf;refine BN 28 [.tmp 2,.tmp 3] [0] Tryz.func361 Z Z Z Z Z ?_;obtain⟨n1,Sq,h1,hf⟩:=dD hf;refine W 3 Z (CL Z (Dl _ h1 (U 6 Z (AS Z (AO.eqNil Z ajk Z Z ?_)))));refine B1 hf fun b1 h3 hf=>U 1 Z (AR.fT 5 13 18 false [4] b1 Z Z (fun h2=>?_) (fun h2=>?_) ?_)
 ·refine IF 13 h2 h3 Z fun h3=>?_;refine B1 h3 fun x1 h4 h3=>U 1 Z (GO Z (AO.call Z _ Z Z akh (I_ _ h4 ?_)));cases h3;exact gy 3 Z (En [18,4] Z)
 ·refine IT 13 h2 h3 Z fun h3=>?_;cases h3;exact gy 5 Z (En [18,4] Z)
 refine U 1 Z (On 3 19 22 [4] (decide (n1<(-9007199254740992))) Z Z Z Z (U 1 Z (On 3 23 26 [4] (decide (9007199254740992<n1)) Z Z Z Z (J 0 Z (C hf Z (fun h7 hf=>?_) fun h7 hf=>?_)))))
 ·cases hf;exact M 2 Z (Y Z h)
 cases hf;exact M 3 Z (Y Z h)
end
section
variable [BZ]
@[reducible] def Z9:eX aF ah→eP
 | .ok r=>.ret (.agg (aX r))
 | .bad e=>.panic (.iface 204 (.agg [iP e.code]))
theorem Tt(name1:Str)(v1:ah){rX:eX aF ah}(hf:IL name1 v1=some rX)(h:Q (Z9 rX) τ):PC 327 [.str name1,.agg (aX v1)] τ Q:=by
 unfold IL at hf;refine BN 78 [.cell 4 34] [0,1] Tryz.func327 Z Z Z Z Z (W 1 Z (AS Z (AO.aP Z iX (fun b4=>(J 3 Z (C hf Z (fun h1 hf=>?_) fun h1 hf=>?_))))))
 ·refine B1 hf fun x1 h2 hf=>W 1 Z (CL Z (kW _ _ h2 ?_));refine B1 hf fun b1 h4 hf=>U 1 Z (AR.fT 3 14 17 false [3,4] b1 Z Z (fun h3=>?_) (fun h3=>?_) ?_)
  ·refine IF 14 h3 h4 Z fun h4=>?_;refine BR h4 fun x2 h5 h4=>?_;refine U 1 Z (GO Z (AO.call Z _ Z Z Nl (kW _ _ h5 ?_)));cases h4;exact gy 1 Z (En [17,3,4] Z)
  ·refine IT 14 h3 h4 Z fun h4=>?_;cases h4;exact gy 3 Z (En [17,3,4] Z)
  refine B1 hf fun b2 h7 hf=>U 1 Z (AR.fT 3 18 21 false [3,4] b2 Z Z (fun h6=>?_) (fun h6=>?_) ?_)
  ·refine IF 18 h6 h7 Z fun h7=>?_;refine BR h7 fun x3 h8 h7=>?_;refine U 1 Z (GO Z (AO.call Z _ Z Z Nl (kW _ _ h8 ?_)));cases h7;exact gy 1 Z (En [21,3,4] Z)
  ·refine IT 18 h6 h7 Z fun h7=>?_;cases h7;exact gy 3 Z (En [21,3,4] Z)
  rcases bM hf with⟨e1,h9,hf⟩|⟨_,h9,hf⟩
  ·refine CL Z (bK _ _ h9 ?_);cases hf;exact⟨Z,[],apZ _,h⟩
  refine CL Z (bK _ _ h9 (U 2 Z (AS Z (AO.eG Z Z Z Z fD Z (U 2 Z (AS Z (AO.bI (l:=v1.aN) Z Z Z Z jV Z (ah.aQ _) ?_)))))));refine B1 hf fun x4 h10 hf=>U 1 Z (CL Z (uL _ h10 ?_));cases hf;exact Rx 1 [0] Z Z (ZC [0] Z Z h)
 refine V 2 Z (C hf Z (fun h11 hf=>?_) fun h11 hf=>?_)
 ·refine B1 hf fun x5 h12 hf=>W 1 Z (CL Z (kW _ _ h12 ?_));rcases bM hf with⟨e2,qp,hf⟩|⟨_,qp,hf⟩
  ·refine CL Z (bK _ _ qp ?_);cases hf;exact⟨Z,[],apZ _,h⟩
  refine CL Z (bK _ _ qp ?_);refine B1 hf fun x6 oI hf=>U 2 Z (CL Z (OQ _ oI ?_));cases hf;exact Rx 1 [0] Z Z (ZC [0] Z Z h)
 refine V 2 Z (C hf Z (fun vY hf=>?_) fun vY hf=>?_)
 ·obtain⟨t1,e3,h16,hf⟩:=dD hf;refine W 1 Z (CL Z (MB _ h16 ?_));rcases bM hf with⟨e4,AZ,hf⟩|⟨_,AZ,hf⟩
  ·refine U 8 Z (CL Z (bK _ _ AZ ?_));cases hf;exact⟨Z,[],apZ _,h⟩
  refine U 8 Z (CL Z (bK _ _ AZ ?_));refine B1 hf fun x7 h18 hf=>U 1 Z (CL Z (uK _ h18 ?_));cases hf;exact Rx 1 [0] Z Z (ZC [0] Z Z h)
 refine B1 hf fun x8 h19 hf=>W 1 Z (CL Z (kW _ _ h19 ?_));rcases bM hf with⟨e5,h20,hf⟩|⟨_,h20,hf⟩
 ·refine CL Z (bK _ _ h20 ?_);cases hf;exact⟨Z,[],apZ _,h⟩
 refine CL Z (bK _ _ h20 (J 3 Z (C hf Z (fun h21 hf=>?_) fun h21 hf=>?_)))
 ·refine B1 hf fun x9 h22 hf=>W 2 Z (CL Z (Kk _ _ _ _ h22 ?_));refine B1 hf fun EB h23 hf=>CL Z (uK _ h23 ?_);cases hf;exact Rx 1 [0] Z Z (ZC [0] Z Z h)
 refine V 2 Z (C hf Z (fun J_ hf=>?_) fun J_ hf=>?_)
 ·refine B1 hf fun La KS hf=>W 2 Z (CL Z (Kk _ _ _ _ KS ?_));refine B1 hf fun Qf Mj hf=>CL Z (uK _ Mj ?_);cases hf;exact Rx 1 [0] Z Z (ZC [0] Z Z h)
 obtain⟨n1,ok1,h27,hf⟩:=dD hf;refine W 2 Z (CL Z (UL _ h27 ?_));rcases bM hf with⟨e6,NA,hf⟩|⟨_,NA,hf⟩
 ·refine U 6 Z (CL Z (bK _ _ NA ?_));cases hf;exact⟨Z,[],apZ _,h⟩
 refine U 6 Z (CL Z (bK _ _ NA ?_));refine B1 hf fun OY TL hf=>U 1 Z (CL Z (uL _ TL ?_));cases hf;exact Rx 1 [0] Z Z (ZC [0] Z Z h)
end
theorem Ke(b1:Bool){r0:Int}(hf:tL b1=some r0)(h:Q (.ret (iP r0)) τ):PC 394 [.bool b1] τ Q:=by
 unfold tL at hf;refine BN 4 [.tmp 2] [0] Tryz.func394 Z Z Z Z Z (V 2 Z (C hf Z (fun h1 hf=>?_) fun h1 hf=>?_))
 ·cases hf;exact M 1 Z (Y Z h)
 cases hf;exact M 1 Z (Y Z h)
theorem iC(wR zh:List ah)(I4:ah→ah→Option Int)(Mx:FuncId)(SF:List PV)(agG:bN Tryz.prog Mx=true)(agH:∀a0 a1 b0,I4 a0 a1=some b0→∀ {τ:List bC} {Q:eP→List bC→Prop},Q (.ret (iP b0)) τ→PC Mx ([.agg (aX a0),.agg (aX a1)]++SF) τ Q){r0:Int}(hf:cu wR zh I4=some r0)(h:Q (.ret (iP r0)) τ):PC 395 [.list (ah.bO wR),.list (ah.bO zh),.fn Mx SF] τ Q:=by
 unfold cu at hf;refine BN 39 [.tmp 6] [0,1,2] Tryz.func395 Z Z Z Z Z (W 2 Z (AS Z (AO.bI (l:=wR) Z Z Z Z jV Z (ah.aQ _) (J 1 Z (XK (fun i1=>[(0,.list (ah.bO wR)),(1,.list (ah.bO zh)),(2,.fn Mx SF),(11,.list (ah.bO wR)),(12,iP (wR.length:Int)),(13,iP i1)]) (fun i1=>[]) (fun dL i1=>dB wR zh I4 dL i1=some r0) BIG 0 Z Z hf (fun _ hz=>dH hz) ?_)))));intro dL i1 hf;rw[dB]at hf;refine V 1 Z (C hf Z (fun h1 hf=>?_) fun h1 hf=>?_)
 ·refine B1 hf fun e1 h2 hf=>W 1 Z (AS Z (AO.bQ h2 Z Z (ah.aQ _) Z jV (ah.aV _) Z (U 1 Z (AS Z (AO.aP Z iX (fun b8=>(Rr 4 [0] Z Z (AS Z (AO.bI (l:=zh) Z Z Z Z jV Z (ah.aQ _) (J 1 Z (C hf Z (fun h3 hf=>?_) fun h3 hf=>?_)))))))))))
  ·cases hf;exact M 1 Z (Y Z h)
  refine B1 hf fun e2 h4 hf=>W 2 Z (AS Z (AO.bQ h4 Z Z (ah.aQ _) Z jV (ah.aV _) Z (U 1 Z (AS Z (AO.aP Z iX (fun b9=>?_))))));refine B1 hf fun c1 h5 hf=>Rr 4 [0,1,0] Z Z (AS Z (AO.call Z _ Z Z agG (agH _ _ _ h5 (J 3 Z (C hf Z (fun h6 hf=>?_) fun h6 hf=>?_)))))
  ·cases hf;exact M 2 Z (Y Z h)
  refine Wn0 2 Z (AR.drop1 (AR.drop1 ?_));exact N 0 Z ⟨(bV (i1+1)),Z,Z,Z,hf⟩
 refine W 1 Z (AS Z (AO.bI (l:=wR) Z Z Z Z jV Z (ah.aQ _) (U 1 Z (AS Z (AO.bI (l:=zh) Z Z Z Z jV Z (ah.aQ _) (J 1 Z (C hf Z (fun h7 hf=>?_) fun h7 hf=>?_)))))))
 ·cases hf;exact M 1 Z (Y Z h)
 cases hf;exact M 1 Z (Y Z h)
theorem ou(wR zh:List Str)(I4:Str→Str→Option Int)(Mx:FuncId)(SF:List PV)(agG:bN Tryz.prog Mx=true)(agH:∀a0 a1 b0,I4 a0 a1=some b0→∀ {τ:List bC} {Q:eP→List bC→Prop},Q (.ret (iP b0)) τ→PC Mx ([.str a0,.str a1]++SF) τ Q){r0:Int}(hf:eT wR zh I4=some r0)(h:Q (.ret (iP r0)) τ):PC 396 [sP wR,sP zh,.fn Mx SF] τ Q:=by
 unfold eT at hf;refine BN 39 [.tmp 6] [0,1,2] Tryz.func396 Z Z Z Z Z (W 2 Z (AS Z (AO.bI (l:=wR) Z Z Z Z ku Z Z (J 1 Z (XK (fun i1=>[(0,sP wR),(1,sP zh),(2,.fn Mx SF),(11,sP wR),(12,iP (wR.length:Int)),(13,iP i1)]) (fun i1=>[]) (fun dL i1=>eB wR zh I4 dL i1=some r0) BIG 0 Z Z hf (fun _ hz=>dH hz) ?_)))));intro dL i1 hf;rw[eB]at hf;refine V 1 Z (C hf Z (fun h1 hf=>?_) fun h1 hf=>?_)
 ·refine B1 hf fun alv h2 hf=>W 1 Z (AS Z (AO.bQ h2 Z Z Z Z ku Z Z (U 5 Z (AS Z (AO.bI (l:=zh) Z Z Z Z ku Z Z (J 1 Z (C hf Z (fun h3 hf=>?_) fun h3 hf=>?_)))))))
  ·cases hf;exact M 1 Z (Y Z h)
  refine B1 hf fun alu h4 hf=>W 2 Z (AS Z (AO.bQ h4 Z Z Z Z ku Z Z ?_));refine B1 hf fun c1 h5 hf=>U 5 Z (AS Z (AO.call Z _ Z Z agG (agH _ _ _ h5 (J 3 Z (C hf Z (fun h6 hf=>?_) fun h6 hf=>?_)))))
  ·cases hf;exact M 2 Z (Y Z h)
  exact M 2 Z ⟨(bV (i1+1)),Z,Z,Z,hf⟩
 refine W 1 Z (AS Z (AO.bI (l:=wR) Z Z Z Z ku Z Z (U 1 Z (AS Z (AO.bI (l:=zh) Z Z Z Z ku Z Z (J 1 Z (C hf Z (fun h7 hf=>?_) fun h7 hf=>?_)))))))
 ·cases hf;exact M 1 Z (Y Z h)
 cases hf;exact M 1 Z (Y Z h)
abbrev GJ(kH:ah→ah→Option Int):Prop:=∀(Hg:ah) (Hf:ah) {dI:Int},kH Hg Hf=some dI→∀ {τ:List bC} {Q:eP→List bC→Prop} (h:Q (.ret (iP dI)) τ),PC 367 [.agg (aX Hg),.agg (aX Hf)] τ Q
theorem O0(kH)(DY:GJ kH)(a1 b1:ah){r0:Int}(hf:wC kH a1 b1=some r0)(h:Q (.ret (iP r0)) τ):PC 367 [.agg (aX a1),.agg (aX b1)] τ Q:=by
 unfold wC at hf;refine BN 62 [.tmp 4] [0,1] Tryz.func367 Z Z Z Z Z ?_;refine B1 hf fun c1 h1 hf=>W 7 Z (CL Z (nD _ _ h1 (J 3 Z (C hf Z (fun h2 hf=>?_) fun h2 hf=>?_))))
 ·cases hf;exact M 2 Z (Y Z h)
 refine V 4 Z (C hf Z (fun h3 hf=>?_) fun h3 hf=>?_)
 ·refine V 0 Z (AW.draw 8 mixed (by kernel_rfl) Z ?_);refine Ev.cs dK 2 Z ?_;refine B1 hf fun x1 h4 hf=>Ev.cons Z Z Z (AO.call Z _ Z Z afj (Ke _ h4 zg)) (Ev.cs dK 2 Z ?_);refine B1 hf fun x2 h5 hf=>Ev.cons Z Z Z (AO.call Z _ Z Z afj (Ke _ h5 zg)) ?_;refine BR hf fun x3 h6 hf=>?_;refine Ev.cons Z Z Z (AO.call Z _ Z Z ake (nD _ _ h6 zg)) (Ev.cs dK 1 Z (Ev.nil ?_));show AR _ _ _ _ _ _ _ _;cases hf;exact N 0 Z (Y Z h)
 refine V 2 Z (C hf Z (fun h7 hf=>?_) fun h7 hf=>?_)
 ·refine BR hf fun x4 h8 hf=>?_;refine W 4 Z (CL Z (nD _ _ h8 ?_));cases hf;exact N 1 Z (Y Z h)
 refine V 2 Z (C hf Z (fun h9 hf=>?_) fun h9 hf=>?_)
 ·refine BR hf fun x5 h10 hf=>?_;refine W 4 Z (CL Z (Aq _ _ h10 ?_));cases hf;exact N 1 Z (Y Z h)
 refine V 2 Z (C hf Z (fun h11 hf=>?_) fun h11 hf=>?_)
 ·refine BR hf fun x6 h12 hf=>?_;refine W 4 Z (CL Z (iC _ _ kH 367 [] afk (fun _ _ _ hz=>DY _ _  hz) h12 ?_));cases hf;exact N 1 Z (Y Z h)
 refine V 2 Z (C hf Z (fun qp hf=>?_) fun qp hf=>?_)
 ·refine B1 hf fun c2 oI hf=>W 4 Z (CL Z (ou _ _ jC 136 [] aaF (fun _ _ _ hz=>wK _ _  hz) oI (J 3 Z (C hf Z (fun vY hf=>?_) fun vY hf=>?_))))
  ·cases hf;exact M 2 Z (Y Z h)
  refine BR hf fun x7 h16 hf=>?_;refine W 4 Z (CL Z (iC _ _ kH 367 [] afk (fun _ _ _ hz=>DY _ _  hz) h16 ?_));cases hf;exact N 1 Z (Y Z h)
 cases hf;exact M 1 Z (Y Z h)
theorem O_:∀k:Nat,(GJ (jq k)):=by
 intro k
 induction k with
 | zero=>exact fun _ _ _ hz=>by first|cases hz|(unfold jq at hz;cases hz)
 | succ k ih=>exact fun Hg Hf dI hz τ Q hq=>O0 (jq k) ih Hg Hf hz hq
theorem Gx(Hg Hf:ah){dI:Int}(hf:vP Hg Hf=some dI)(h:Q (.ret (iP dI)) τ):PC 367 [.agg (aX Hg),.agg (aX Hf)] τ Q:=
 ((O_ BIG)) Hg Hf hf h
theorem Eu(a1 b1:ah){r0:Bool}(hf:mY a1 b1=some r0)(h:Q (.ret (.bool r0)) τ):PC 331 [.agg (aX a1),.agg (aX b1)] τ Q:=by
 unfold mY at hf;refine BN 9 [.tmp 4] [0,1] Tryz.func331 Z Z Z Z Z ?_;refine B1 hf fun x1 h1 hf=>W 5 Z (CL Z (Gx _ _ h1 ?_));cases hf;exact N 2 Z (Y Z h)
theorem rz(a1 b1:ah)(GY:Int){r0:Bool}(hf:pG a1 b1 GY=some r0)(h:Q (.ret (.bool r0)) τ):PC 364 [.agg (aX a1),.agg (aX b1),iP GY] τ Q:=by
 unfold pG at hf;refine BN 17 [.tmp 6] [0,1,2] Tryz.func364 Z Z Z Z Z (W 8 Z (An 5 11 16 [] (b1.kind==GY) Z Z Z Z ?_));cases hf;exact N 1 Z (Y Z h)
section
variable [BZ]
def Uo:Go.Shelf.Ren:=⟨fun|144=>391|143=>116|219=>191|217=>257|225=>258|224=>259|267=>260|266=>321|314=>322|n=>n,fun|9=>9|4=>4|3=>3|5=>5|46=>218|146=>279|51=>269|n=>n,fun|1=>0|n=>n⟩
theorem adW:Go.Proofs.Lays.n144 Tryz.prog Uo:=by repeat' first|(intros;kernel_rfl)|constructor|decide
theorem K4(s1 t1:Str){r0:Bool}(hf:strings_Contains s1 t1=some r0)(h:Q (.ret (.bool r0)) τ):PC 391 [.str s1,.str t1] τ Q:=by
 unfold strings_Contains at hf;split at hf
 case isFalse=>cases hf
 rename_i hg;cases hf;refine AC.none ?_;exact AC.contains adW hg BZ.max h
end
section
variable [BZ]
@[reducible] def OX:eX aF Bool→eP
 | .ok r=>.ret (.bool r)
 | .bad e=>.panic (.iface 204 (.agg [iP e.code]))
theorem Gz(a1 b1:ah){rX:eX aF Bool}(hf:wh a1 b1=some rX)(h:Q (OX rX) τ):PC 362 [.agg (aX a1),.agg (aX b1)] τ Q:=by
 unfold wh at hf;refine BN 47 [.tmp 4] [0,1] Tryz.func362 Z Z Z Z Z ?_;refine B1 hf fun x1 h1 hf=>W 4 Z (CL Z (kW _ _ h1 (J 1 Z (C hf Z (fun h2 hf=>?_) fun h2 hf=>?_))))
 ·refine W 2 Z (AS Z (AO.bI (l:=a1.aN) Z Z Z Z jV Z (ah.aQ _) (J 1 Z (XK (fun x2=>[(3,.ref (aX b1)),(13,.list (ah.bO a1.aN)),(14,iP (a1.aN.length:Int)),(15,iP x2)]) (fun x2=>[]) (fun dL x2=>oJ a1 b1 dL x2=some rX) BIG 0 Z Z hf (fun _ hz=>dH hz) ?_))));intro dL x2 hf;rw[oJ]at hf;refine V 1 Z (C hf Z (fun h3 hf=>?_) fun h3 hf=>?_)
  ·refine B1 hf fun e1 h4 hf=>W 0 Z (AS Z (AO.bQ h4 Z Z (ah.aQ _) Z jV (ah.aV _) Z (U 1 Z (AS Z (AO.aP Z iX (fun b6=>?_))))));refine B1 hf fun x3 h5 hf=>Rr 3 [0,0] Z Z (CL Z (Eu _ _ h5 (J 0 Z (C hf Z (fun h6 hf=>?_) fun h6 hf=>?_))))
   ·cases hf;exact M 1 Z (Y Z h)
   refine Wn0 2 Z (AR.drop1 ?_);exact N 0 Z ⟨(bV (x2+1)),Z,Z,Z,hf⟩
  cases hf;exact M 1 Z (Y Z h)
 refine B1 hf fun x4 h7 hf=>W 2 Z (CL Z (rz _ _ _ h7 (J 1 Z (C hf Z (fun h8 hf=>?_) fun h8 hf=>?_))))
 ·refine B1 hf fun x5 h9 hf=>W 4 Z (CL Z (K4 _ _ h9 ?_));cases hf;exact N 1 Z (Y Z h)
 refine B1 hf fun x6 h10 hf=>W 1 Z (CL Z (kW _ _ h10 ?_));refine B1 hf fun b2 h12 hf=>U 1 Z (AR.fT 3 34 37 true [2,3] b2 Z Z (fun h11=>?_) (fun h11=>?_) ?_)
 ·refine IT 34 h11 h12 Z fun h12=>?_;refine BR h12 fun x7 qp h12=>?_;refine U 1 Z (GO Z (AO.call Z _ Z Z Nl (kW _ _ qp ?_)));cases h12;exact gy 1 Z (En [37,2,3] Z)
 ·refine IF 34 h11 h12 Z fun h12=>?_;cases h12;exact gy 3 Z (En [37,2,3] Z)
 rcases bM hf with⟨e2,oI,hf⟩|⟨_,oI,hf⟩
 ·refine CL Z (bK _ _ oI ?_);cases hf;exact⟨Z,[],apZ _,h⟩
 refine CL Z (bK _ _ oI ?_);obtain⟨x8,ok1,vY,hf⟩:=dD hf;refine U 3 Z (CL Z (OO _ _ vY (U 3 Z (AS Z (AO.aP Z iX (fun b7=>?_))))));cases hf;exact Rx 4 [0] Z Z (Y Z h)
end
theorem jW(b1:Bool){r0:ah}(hf:fK b1=some r0)(h:Q (.ret (.agg (aX r0))) τ):PC 329 [.bool b1] τ Q:=by
 unfold fK at hf;refine BN 5 [.cell 2 34] [0] Tryz.func329 Z Z Z Z Z (W 0 Z (AS Z (AO.aP Z iX (fun b2=>?_))));cases hf;exact Rx 3 [0] Z Z (ZC [0] Z Z h)
section
variable [BZ]
@[reducible] def TP:eX aF ah→eP
 | .ok r=>.ret (.agg (aX r))
 | .bad e=>.panic (.iface 204 (.agg [iP e.code]))
theorem Kl(a1 b1:ah){rX:eX aF ah}(hf:Al a1 b1=some rX)(h:Q (TP rX) τ):PC 363 [.agg (aX a1),.agg (aX b1)] τ Q:=by
 unfold Al at hf;refine BN 54 [.cell 4 34] [0,1] Tryz.func363 Z Z Z Z Z (W 2 Z (AS Z (AO.aP Z iX (fun b4=>?_))));refine B1 hf fun x1 h1 hf=>U 1 Z (CL Z (kW _ _ h1 ?_));refine B1 hf fun b2 h3 hf=>U 1 Z (AR.fT 3 11 14 true [2,3,4] b2 Z Z (fun h2=>?_) (fun h2=>?_) ?_)
 ·refine IT 11 h2 h3 Z fun h3=>?_;refine BR h3 fun x2 h4 h3=>?_;refine U 1 Z (GO Z (AO.call Z _ Z Z Nl (kW _ _ h4 ?_)));cases h3;exact gy 1 Z (En [14,2,3,4] Z)
 ·refine IF 11 h2 h3 Z fun h3=>?_;cases h3;exact gy 3 Z (En [14,2,3,4] Z)
 rcases bM hf with⟨e1,h5,hf⟩|⟨_,h5,hf⟩
 ·refine CL Z (bK _ _ h5 ?_);cases hf;exact⟨Z,[],apZ _,h⟩
 refine CL Z (bK _ _ h5 (U 4 Z (AS Z (AO.bI (l:=a1.aN) Z Z Z Z jV Z (ah.aQ _) ?_))));refine J 1 Z (AW.row 1 9 (LK4 (fun n1 l1 v1 x3=>[(3,.ref (aX b1)),(4,pP b4),(5,iP n1),(6,.own v1 (List.map lH l1)),(17,.list (ah.bO a1.aN)),(18,iP (a1.aN.length:Int)),(19,iP x3)]) (fun n1 l1 v1 x3=>[.row v1 (List.map lH l1).length 1 9,.box b4 [iP 0,.bool false,iP 0,.str ([]:Str),.own (.slice none 0 0) [],.own (.slice none 0 0) []]]) (fun dL n1 l1 v1 x3=>uF a1 b1 dL n1 l1 x3=some rX) BIG 0 [] (.slice none 0 0) 0 Z Z hf (fun _ _ _ _ hz=>dH hz) ?_));intro dL n1 l1 v1 x3 hf;rw[uF]at hf;refine V 1 Z (C hf Z (fun h6 hf=>?_) fun h6 hf=>?_)
 ·refine B1 hf fun e2 h7 hf=>W 0 Z (AS Z (AO.bQ h7 Z Z (ah.aQ _) Z jV (ah.aV _) Z (U 1 Z (AS Z (AO.aP Z iX (fun b8=>?_))))));refine B1 hf fun x4 h8 hf=>Rr 2 [0,0] Z Z (CL Z (kW _ _ h8 ?_));rcases bM hf with⟨e3,h9,hf⟩|⟨_,h9,hf⟩
  ·refine CL Z (bK _ _ h9 ?_);cases hf;exact⟨Z,[],apZ _,h⟩
  refine CL Z (bK _ _ h9 (Rr 3 [0] Z Z (AS Z (AO.dO (List.map lH ([e2.bR]:List Str)) Z vw Z Z Z Z ?_))));refine B1 hf fun l2 h10 hf=>AS Z (AO.jO (i:=1) (l:=l1) (m:=([e2.bR]:List Str)) h10 Z Z Z Z Z Z Z vw ku Z Z Z (fun _=>Z) (fun _=>Z) (by decide) (fun v2 s1 hs1=>?_));cases hs1;refine Rr 4 [0] Z Z (AS Z (AO.eG Z Z Z Z fD Z (gy 4 Z (AR.drop1 ?_))));exact N 0 Z ⟨(bV (n1+(e2.bR.length:Int))),l2,v2,(bV (x3+1)),Z,Z,Z,hf⟩
 refine W 3 Z (AS Z (AO.eG Z Z Z Z fD Z (U 1 Z (AS Z (AO.bI (l:=l1) Z Z Z Z ku Z Z (U 1 Z (AS Z (AO.max2 Z Z Z Z Z ?_))))))));rcases bM hf with⟨e4,h11,hf⟩|⟨_,h11,hf⟩
 ·refine U 3 Z (CL Z (bK _ _ h11 ?_));cases hf;exact⟨Z,[],apZ _,h⟩
 refine U 3 Z (CL Z (bK _ _ h11 ?_));refine B1 hf fun x5 h12 hf=>U 3 Z (CL Z (Dk _ _ h12 ?_));refine B1 hf fun x6 qp hf=>CL Z (uK _ qp ?_);cases hf;exact Rx 1 [1] Z Z (ZC [1] Z Z h)
end
theorem Dy(s1 xP:Str){r0:Bool}(hf:qO s1 xP=some r0)(h:Q (.ret (.bool r0)) τ):PC 392 [.str s1,.str xP] τ Q:=by
 unfold qO at hf;refine BN 21 [.tmp 4] [0,1] Tryz.func392 Z Z Z Z Z (W 2 Z (AS Z (AO.eG Z Z Z Z fD Z (U 1 Z (AS Z (AO.eG Z Z Z Z fD Z ?_))))));refine BR hf fun b1 h2 hf=>?_;refine U 2 Z (AR.fT 10 10 20 true [] b1 Z Z (fun h1=>?_) (fun h1=>?_) ?_)
 ·replace h2:=pV h1 h2;refine Is 10 h1 Z (U 2 Z (GO Z (AO.eG Z Z Z Z fD Z (U 1 Z (GO Z (AO.eG Z Z Z Z fD Z ?_))))));refine B1 h2 fun x1 h3 h2=>U 1 Z (GO Z (AO.wQ h3 Z fD Z ⟨_,Z⟩ Z ?_));cases h2;exact gy 3 Z (En [20] Z)
 ·refine IF 10 h1 h2 Z fun h2=>?_;cases h2;exact gy 10 Z (En [20] Z)
 cases hf;exact N 1 Z (Y Z h)
theorem JY(s1 xP:Str){r0:Bool}(hf:strings_HasSuffix s1 xP=some r0)(h:Q (.ret (.bool r0)) τ):PC 365 [.str s1,.str xP] τ Q:=by
 unfold strings_HasSuffix at hf;refine BN 8 [.tmp 4] [0,1] Tryz.func365 Z Z Z Z Z ?_;refine BR hf fun x1 h1 hf=>?_;refine W 3 Z (CL Z (Dy _ _ h1 ?_));cases hf;exact N 1 Z (Y Z h)
section
variable [BZ]
def aaq:Go.Shelf.Ren:=⟨fun|146=>366|221=>393|268=>417|138=>114|143=>116|195=>188|197=>117|218=>189|219=>191|260=>192|217=>257|225=>258|224=>259|267=>260|266=>321|314=>322|n=>n,fun|9=>9|31=>32|3=>3|4=>4|0=>0|105=>154|21=>21|5=>5|46=>218|119=>245|139=>248|138=>247|146=>279|51=>269|n=>n,fun|1=>0|3=>1|4=>2|n=>n⟩
theorem ajP:Go.Proofs.Lays.n146 Tryz.prog aaq:=by repeat' first|(intros;kernel_rfl)|constructor|decide
theorem Pk(s1 t1:Str){r0:List Str}(hf:strings_Split s1 t1=some r0)(h:Q (.ret (sP r0)) τ):PC 366 [.str s1,.str t1] τ Q:=by
 unfold strings_Split at hf;split at hf
 case isFalse=>cases hf
 rename_i hg;cases hf;refine AC.none ?_;exact AC.split ajP (by kernel_rfl) hg.1 hg.2 BZ.max h
end
section
variable [BZ]
@[reducible] def Z7:eX aF ah→eP
 | .ok r=>.ret (.agg (aX r))
 | .bad e=>.panic (.iface 204 (.agg [iP e.code]))
theorem Tp(name1:Str)(a1 b1:ah){rX:eX aF ah}(hf:IK name1 a1 b1=some rX)(h:Q (Z7 rX) τ):PC 328 [.str name1,.agg (aX a1),.agg (aX b1)] τ Q:=by
 unfold IK at hf;refine BN 62 [.cell 6 34] [0,1,2] Tryz.func328 Z Z Z Z Z (W 2 Z (AS Z (AO.aP Z iX (fun b6=>(J 3 Z (C hf Z (fun h1 hf=>?_) fun h1 hf=>?_))))))
 ·refine B1 hf fun x1 h2 hf=>W 1 Z (CL Z (kW _ _ h2 (J 0 Z (C hf Z (fun h3 hf=>?_) fun h3 hf=>?_))))
  ·cases hf;exact Wx 2 [0] Z Z (ZC [0] Z Z h)
  cases hf;exact Wx 2 [0] Z Z (ZC [0] Z Z h)
 refine V 2 Z (C hf Z (fun h4 hf=>?_) fun h4 hf=>?_)
 ·rcases bM hf with⟨e1,h5,hf⟩|⟨x2,h5,hf⟩
  ·refine W 2 Z (CL Z (Gz _ _ h5 ?_));cases hf;exact⟨Z,[],apZ _,h⟩
  refine W 2 Z (CL Z (Gz _ _ h5 ?_));refine B1 hf fun x3 h6 hf=>CL Z (jW _ h6 ?_);cases hf;exact Rx 1 [0] Z Z (ZC [0] Z Z h)
 refine V 2 Z (C hf Z (fun h7 hf=>?_) fun h7 hf=>?_)
 ·rcases bM hf with⟨e2,h8,hf⟩|⟨x4,h8,hf⟩
  ·refine W 2 Z (CL Z (Kl _ _ h8 ?_));cases hf;exact⟨Z,[],apZ _,h⟩
  refine W 2 Z (CL Z (Kl _ _ h8 ?_));cases hf;exact Rx 1 [0] Z Z (ZC [0] Z Z h)
 refine B1 hf fun x5 h9 hf=>W 2 Z (CL Z (rz _ _ _ h9 ?_));rcases bM hf with⟨e3,h10,hf⟩|⟨_,h10,hf⟩
 ·refine CL Z (bK _ _ h10 ?_);cases hf;exact⟨Z,[],apZ _,h⟩
 refine CL Z (bK _ _ h10 (J 3 Z (C hf Z (fun h11 hf=>?_) fun h11 hf=>?_)))
 ·refine B1 hf fun x6 h12 hf=>W 4 Z (CL Z (vJ _ _ h12 ?_));refine B1 hf fun x7 qp hf=>CL Z (jW _ qp ?_);cases hf;exact Rx 1 [0] Z Z (ZC [0] Z Z h)
 refine V 2 Z (C hf Z (fun oI hf=>?_) fun oI hf=>?_)
 ·refine B1 hf fun x8 vY hf=>W 4 Z (CL Z (JY _ _ vY ?_));refine B1 hf fun x9 h16 hf=>CL Z (jW _ h16 ?_);cases hf;exact Rx 1 [0] Z Z (ZC [0] Z Z h)
 rcases bM hf with⟨e4,AZ,hf⟩|⟨_,AZ,hf⟩
 ·refine W 3 Z (CL Z (bK _ _ AZ ?_));cases hf;exact⟨Z,[],apZ _,h⟩
 refine W 3 Z (CL Z (bK _ _ AZ ?_));refine B1 hf fun l1 h18 hf=>U 4 Z (CL Z (Pk _ _ h18 (U 2 Z (AS Z (AO.bI (l:=l1) Z Z Z Z ku Z Z ?_)))));rcases bM hf with⟨e5,h19,hf⟩|⟨_,h19,hf⟩
 ·refine U 1 Z (CL Z (bK _ _ h19 ?_));cases hf;exact⟨Z,[],apZ _,h⟩
 refine U 1 Z (CL Z (bK _ _ h19 ?_));refine B1 hf fun EB h20 hf=>U 1 Z (CL Z (OQ _ h20 ?_));cases hf;exact Rx 1 [0] Z Z (ZC [0] Z Z h)
end
@[reducible] def VZ:eX aF Bool→eP
 | .ok r=>.ret (.bool r)
 | .bad e=>.panic (.iface 204 (.agg [iP e.code]))
theorem qc(v1:ah){rX:eX aF Bool}(hf:uD v1=some rX)(h:Q (VZ rX) τ):PC 271 [.agg (aX v1)] τ Q:=by
 unfold uD at hf;refine BN 8 [.tmp 2] [0] Tryz.func271 Z Z Z Z Z ?_;refine B1 hf fun x1 h1 hf=>W 3 Z (CL Z (kW _ _ h1 ?_));rcases bM hf with⟨e1,h2,hf⟩|⟨_,h2,hf⟩
 ·refine CL Z (bK _ _ h2 ?_);cases hf;exact⟨Z,[],apZ _,h⟩
 refine CL Z (bK _ _ h2 ?_);cases hf;exact N 3 Z (Y Z h)
@[reducible] def VY:eX aF ah→eP
 | .ok r=>.ret (.agg (aX r))
 | .bad e=>.panic (.iface 204 (.agg [iP e.code]))
theorem MH(op1:Str)(v1:ah){rX:eX aF ah}(hf:CX op1 v1=some rX)(h:Q (VY rX) τ):PC 269 [.str op1,.agg (aX v1)] τ Q:=by
 unfold CX at hf;refine BN 18 [.cell 4 34] [0,1] Tryz.func269 Z Z Z Z Z (W 1 Z (AS Z (AO.aP Z iX (fun b4=>(J 2 Z (C hf Z (fun h1 hf=>?_) fun h1 hf=>?_))))))
 ·rcases bM hf with⟨e1,h2,hf⟩|⟨x1,h2,hf⟩
  ·refine W 1 Z (CL Z (qc _ h2 ?_));cases hf;exact⟨Z,[],apZ _,h⟩
  refine W 1 Z (CL Z (qc _ h2 ?_));refine B1 hf fun x2 h3 hf=>U 1 Z (CL Z (jW _ h3 ?_));cases hf;exact Rx 1 [0] Z Z (ZC [0] Z Z h)
 refine B1 hf fun x3 h4 hf=>W 1 Z (CL Z (kW _ _ h4 ?_));rcases bM hf with⟨e2,h5,hf⟩|⟨_,h5,hf⟩
 ·refine CL Z (bK _ _ h5 ?_);cases hf;exact⟨Z,[],apZ _,h⟩
 refine CL Z (bK _ _ h5 ?_);refine B1 hf fun x4 h6 hf=>U 3 Z (CL Z (uL _ h6 ?_));cases hf;exact Rx 1 [0] Z Z (ZC [0] Z Z h)
@[reducible] def V3:eX aF Int→eP
 | .ok r=>.ret (iP r)
 | .bad e=>.panic (.iface 204 (.agg [iP e.code]))
theorem qd(a1 b1:ah){rX:eX aF Int}(hf:nP a1 b1=some rX)(h:Q (V3 rX) τ):PC 332 [.agg (aX a1),.agg (aX b1)] τ Q:=by
 unfold nP at hf;refine BN 17 [.tmp 4] [0,1] Tryz.func332 Z Z Z Z Z ?_;refine B1 hf fun x1 h1 hf=>W 5 Z (CL Z (rz _ _ _ h1 ?_));refine B1 hf fun b2 h3 hf=>U 1 Z (AR.fT 4 8 12 false [2,3] b2 Z Z (fun h2=>?_) (fun h2=>?_) ?_)
 ·refine IF 8 h2 h3 Z fun h3=>?_;refine BR h3 fun x2 h4 h3=>?_;refine U 2 Z (GO Z (AO.call Z _ Z Z aj1 (rz _ _ _ h4 ?_)));cases h3;exact gy 1 Z (En [12,2,3] Z)
 ·refine IT 8 h2 h3 Z fun h3=>?_;cases h3;exact gy 4 Z (En [12,2,3] Z)
 rcases bM hf with⟨e1,h5,hf⟩|⟨_,h5,hf⟩
 ·refine CL Z (bK _ _ h5 ?_);cases hf;exact⟨Z,[],apZ _,h⟩
 refine CL Z (bK _ _ h5 ?_);refine B1 hf fun x3 h6 hf=>U 2 Z (CL Z (Gx _ _ h6 ?_));cases hf;exact N 1 Z (Y Z h)
@[reducible] def TN:eX aF ah→eP
 | .ok r=>.ret (.agg (aX r))
 | .bad e=>.panic (.iface 204 (.agg [iP e.code]))
theorem oD(n1:Int){rX:eX aF ah}(hf:ru n1=some rX)(h:Q (TN rX) τ):PC 368 [iP n1] τ Q:=by
 unfold ru at hf;refine BN 12 [.cell 2 34] [0] Tryz.func368 Z Z Z Z Z (W 0 Z (AS Z (AO.aP Z iX (fun b2=>(U 3 Z (An 3 5 8 [0,2] (decide (n1≤9007199254740992)) Z Z Z Z ?_))))));rcases bM hf with⟨e1,h2,hf⟩|⟨_,h2,hf⟩
 ·refine CL Z (bK _ _ h2 ?_);cases hf;exact⟨Z,[],apZ _,h⟩
 refine CL Z (bK _ _ h2 ?_);refine B1 hf fun x1 h3 hf=>U 1 Z (CL Z (uL _ h3 ?_));cases hf;exact Rx 1 [0] Z Z (ZC [0] Z Z h)
end Go.Proofs.YtpbjbkhfpjckoaaGreatDoor
