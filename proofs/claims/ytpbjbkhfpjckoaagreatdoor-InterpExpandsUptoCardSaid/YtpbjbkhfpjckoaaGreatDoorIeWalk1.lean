/- Proved here: each function does what its functional text says (part 1). -/
import Derived.Test.YtpbjbkhfpjckoaaGreatDoorIeA3
import Derived.Test.YtpbjbkhfpjckoaaGreatDoorIePre1
import Derived.Test.YtpbjbkhfpjckoaaGreatDoorIeFt1
import Derived.Test.YtpbjbkhfpjckoaaGreatDoorIePool1
import Derived.Test.YtpbjbkhfpjckoaaGreatDoorProg
import Derived.KernelRfl
set_option linter.unusedVariables false
set_option linter.unusedSimpArgs false
set_option linter.defProp false
set_option linter.unusedSectionVars false
namespace Go
def as0:=@List.length_singleton
def as1:=@List.length_map
def as2:=@List.flatMap_append
def as3:=@Bool.eq_false_iff
def as5:=@List.drop_of_length_le
def as6:=@List.flatMap_cons
def as7:=@List.map_eq_nil_iff
def as8:=@List.append_nil
def asY:=@List.nil_sublist
def asZ:=@congrArg
end Go
namespace Go.Ft
open Go Go.Abs
@[reducible] def ay.cells(x:ay):List PV:=[.int .i64 x.kind,.str x.text,.int .i64 x.at_]
theorem ay.aT(x:ay):ay.cells x=[.int .i64 x.kind,.str x.text,.int .i64 x.at_]:=rfl
theorem ay.dL(x:ay):(ay.cells x).length=3:=by rw[ay.aT];rfl
theorem ay.cells_one(x:ay):(ay.cells x).all PV.one=true:=by rw[ay.aT];rfl
@[reducible] def au.cells(x:au):List PV:=[.list (List.map ay.cells x.ts),.int .i64 x.at_]
theorem au.aT(x:au):au.cells x=[.list (List.map ay.cells x.ts),.int .i64 x.at_]:=rfl
theorem au.dL(x:au):(au.cells x).length=2:=by rw[au.aT];rfl
theorem au.cells_one(x:au):(au.cells x).all PV.one=true:=by rw[au.aT];rfl
@[reducible] def aA.cells(x:aA):List PV:=[.int .i64 x.at_,.int .i64 x.code]
theorem aA.aT(x:aA):aA.cells x=[.int .i64 x.at_,.int .i64 x.code]:=rfl
theorem aA.dL(x:aA):(aA.cells x).length=2:=by rw[aA.aT];rfl
theorem aA.cells_one(x:aA):(aA.cells x).all PV.one=true:=by rw[aA.aT];rfl
mutual
def ah.cells:ah→List PV
  | ⟨a0,a1,a2,a3,a4,a5⟩=>[.int .i64 a0,.bool a1,.int .i64 a2,.str a3,.list (ah.bP a4),.list (List.map jy a5)]
def ah.bP:List ah→List (List PV)
  | []=>[]
  | x::xs=>ah.cells x::ah.bP xs
end
theorem ah.aT(x:ah):ah.cells x=[.int .i64 x.kind,.bool x.dD,.int .i64 x.cu,.str x.bJ,.list (ah.bP x.aP),.list (List.map jy x.keys)]:=by cases x;rfl
theorem ah.bI:∀l:List ah,ah.bP l=l.map ah.cells
  | []=>rfl
  | _::l=>asZ _ (ah.bI l)
def ah.acU(l:List ah):List PV:=[.list (ah.bP l)]
theorem ah.dL(x:ah):(ah.cells x).length=6:=by rw[ah.aT];rfl
theorem ah.cells_one(x:ah):(ah.cells x).all PV.one=true:=by rw[ah.aT];rfl
mutual
def aj.cells:aj→List PV
  | ⟨a0,a1,a2,a3,a4⟩=>[.int .i64 a0,.str a1,.int .i64 a2.kind,.bool a2.dD,.int .i64 a2.cu,.str a2.bJ,.list (ah.bP a2.aP),.list (List.map jy a2.keys),.list (aj.bP a3),.list (List.map jy a4)]
def aj.bP:List aj→List (List PV)
  | []=>[]
  | x::xs=>aj.cells x::aj.bP xs
end
theorem aj.aT(x:aj):aj.cells x=[.int .i64 x.kind,.str x.name,.int .i64 x.value.kind,.bool x.value.dD,.int .i64 x.value.cu,.str x.value.bJ,.list (ah.bP x.value.aP),.list (List.map jy x.value.keys),.list (aj.bP x.args),.list (List.map jy x.keys)]:=by cases x;rfl
theorem aj.bI:∀l:List aj,aj.bP l=l.map aj.cells
  | []=>rfl
  | _::l=>asZ _ (aj.bI l)
def aj.acU(l:List aj):List PV:=[.list (aj.bP l)]
theorem aj.dL(x:aj):(aj.cells x).length=10:=by rw[aj.aT];rfl
theorem aj.cells_one(x:aj):(aj.cells x).all PV.one=true:=by rw[aj.aT];rfl
@[reducible] def aO.cells(x:aO):List PV:=[.str x.text,.bool x.QE,.int .i64 x.expr.kind,.str x.expr.name,.int .i64 x.expr.value.kind,.bool x.expr.value.dD,.int .i64 x.expr.value.cu,.str x.expr.value.bJ,.list (ah.bP x.expr.value.aP),.list (List.map jy x.expr.value.keys),.list (aj.bP x.expr.args),.list (List.map jy x.expr.keys)]
theorem aO.aT(x:aO):aO.cells x=[.str x.text,.bool x.QE,.int .i64 x.expr.kind,.str x.expr.name,.int .i64 x.expr.value.kind,.bool x.expr.value.dD,.int .i64 x.expr.value.cu,.str x.expr.value.bJ,.list (ah.bP x.expr.value.aP),.list (List.map jy x.expr.value.keys),.list (aj.bP x.expr.args),.list (List.map jy x.expr.keys)]:=rfl
theorem aO.dL(x:aO):(aO.cells x).length=12:=by rw[aO.aT];rfl
theorem aO.cells_one(x:aO):(aO.cells x).all PV.one=true:=by rw[aO.aT];rfl
@[reducible] def aB.cells(x:aB):List PV:=[.str x.name,.int .i64 x.value.kind,.bool x.value.dD,.int .i64 x.value.cu,.str x.value.bJ,.list (ah.bP x.value.aP),.list (List.map jy x.value.keys)]
theorem aB.aT(x:aB):aB.cells x=[.str x.name,.int .i64 x.value.kind,.bool x.value.dD,.int .i64 x.value.cu,.str x.value.bJ,.list (ah.bP x.value.aP),.list (List.map jy x.value.keys)]:=rfl
theorem aB.dL(x:aB):(aB.cells x).length=7:=by rw[aB.aT];rfl
theorem aB.cells_one(x:aB):(aB.cells x).all PV.one=true:=by rw[aB.aT];rfl
@[reducible] def aG.cells(x:aG):List PV:=[.int .i64 x.code]
theorem aG.aT(x:aG):aG.cells x=[.int .i64 x.code]:=rfl
theorem aG.dL(x:aG):(aG.cells x).length=1:=by rw[aG.aT];rfl
theorem aG.cells_one(x:aG):(aG.cells x).all PV.one=true:=by rw[aG.aT];rfl
@[reducible] def fD.cells(x:fD):List PV:=[.int .u64 ((x.half.getD 0 0).toNat:Int),.int .u64 ((x.half.getD 1 0).toNat:Int),.bool x.neg]
theorem fD.aT(x:fD):fD.cells x=[.int .u64 ((x.half.getD 0 0).toNat:Int),.int .u64 ((x.half.getD 1 0).toNat:Int),.bool x.neg]:=rfl
theorem fD.dL(x:fD):(fD.cells x).length=3:=by rw[fD.aT];rfl
theorem fD.cells_one(x:fD):(fD.cells x).all PV.one=true:=by rw[fD.aT];rfl
mutual
def aM.cells:aM→List PV
  | ⟨a0,a1⟩=>[.int .i64 a0,.list (aM.bP a1)]
def aM.bP:List aM→List (List PV)
  | []=>[]
  | x::xs=>aM.cells x::aM.bP xs
end
theorem aM.aT(x:aM):aM.cells x=[.int .i64 x.kind,.list (aM.bP x.elem)]:=by cases x;rfl
theorem aM.bI:∀l:List aM,aM.bP l=l.map aM.cells
  | []=>rfl
  | _::l=>asZ _ (aM.bI l)
def aM.acU(l:List aM):List PV:=[.list (aM.bP l)]
theorem aM.dL(x:aM):(aM.cells x).length=2:=by rw[aM.aT];rfl
theorem aM.cells_one(x:aM):(aM.cells x).all PV.one=true:=by rw[aM.aT];rfl
@[reducible] def bU.cells(x:bU):List PV:=[.str x.name,.int .i64 x.F3.kind,.list (aM.bP x.F3.elem)]
theorem bU.aT(x:bU):bU.cells x=[.str x.name,.int .i64 x.F3.kind,.list (aM.bP x.F3.elem)]:=rfl
theorem bU.dL(x:bU):(bU.cells x).length=3:=by rw[bU.aT];rfl
theorem bU.cells_one(x:bU):(bU.cells x).all PV.one=true:=by rw[bU.aT];rfl
@[reducible] def bD.cells(x:bD):List PV:=[.bool x.neg,.int .u64 (x.hi.toNat:Int),.int .u64 (x.lo.toNat:Int)]
theorem bD.aT(x:bD):bD.cells x=[.bool x.neg,.int .u64 (x.hi.toNat:Int),.int .u64 (x.lo.toNat:Int)]:=rfl
theorem bD.dL(x:bD):(bD.cells x).length=3:=by rw[bD.aT];rfl
theorem bD.cells_one(x:bD):(bD.cells x).all PV.one=true:=by rw[bD.aT];rfl
end Go.Ft
namespace Go.Proofs.YtpbjbkhfpjckoaaGreatDoor
open Go Go.Abs Go.Ft
set_option maxRecDepth 20000
set_option maxHeartbeats 8000000
attribute [local irreducible] AO AR AW AC av eO lN dR fU idx sl app
class Dj[gN]:Prop where
  hD:¬gN.D
  max:∀(w:World) (m:jq),gN.G w m→∃n:Int,w.cell? ⟨0,0,none⟩=some (.int .i64 n)
  pow:∀(w:World) (m:jq),gN.G w m→Lib.TabIs Tryz.prog w "internal/strconv.uint64pow10" .u64 Lib.pow10Tab
  syn:∀(w:World) (m:jq),gN.G w m→∃ev,w.cell? ⟨6,0,none⟩=some ev∧(ev=.nilIface∨∃te pe,ev=.iface te pe)
  rng:∀(w:World) (m:jq),gN.G w m→∃ev,w.cell? ⟨7,0,none⟩=some ev∧(ev=.nilIface∨∃te pe,ev=.iface te pe)
variable [gN]
theorem apT(w:World):(isAgg 60).run Tryz.prog w=.ok true w:=by kernel_rfl
theorem ahG:Bf Tryz.prog 221=some (8,1):=by kernel_rfl
theorem Mg:Bf Tryz.prog 326=some (2,1):=by kernel_rfl
theorem anj:Tryz.prog.cellsOf 271=1:=by kernel_rfl
theorem ani:Tryz.prog.cellsOf 326=2:=by kernel_rfl
theorem apC:Tryz.prog.cellsOf 5=1:=by kernel_rfl
theorem anc:Tryz.prog.eqGuardType Tryz.prog.depth 326=false:=by kernel_rfl
theorem OI:elemSize Tryz.prog 110=some 3:=by kernel_rfl
theorem xg:elemSize Tryz.prog 23=some 12:=by kernel_rfl
theorem IK:elemSize Tryz.prog 31=some 6:=by kernel_rfl
theorem Fh:elemSize Tryz.prog 32=some 1:=by kernel_rfl
theorem qI:elemSize Tryz.prog 35=some 10:=by kernel_rfl
theorem wB:elemSize Tryz.prog 43=some 7:=by kernel_rfl
theorem ahd:elemSize Tryz.prog 49=some 3:=by kernel_rfl
theorem ahc:elemSize Tryz.prog 61=some 2:=by kernel_rfl
theorem VK:elemSize Tryz.prog 68=some 1:=by kernel_rfl
theorem acD:rE Tryz.prog 37 3=some 8:=by kernel_rfl
theorem aj9:rE Tryz.prog 39 1=some 1:=by kernel_rfl
theorem aj8:rE Tryz.prog 39 2=some 2:=by kernel_rfl
theorem CV:rE Tryz.prog 72 0=some 0:=by kernel_rfl
theorem vZ:rE Tryz.prog 72 1=some 1:=by kernel_rfl
theorem QJ:rE Tryz.prog 74 0=some 0:=by kernel_rfl
theorem KJ:rE Tryz.prog 74 1=some 1:=by kernel_rfl
theorem alo:Tryz.prog.underlying 77=some (.interface (Tryz.prog.methodsAt 77)):=by kernel_rfl
theorem inB:∃j,Tryz.prog.info? 72=some j∧(j.size !=0)=true:=sized (n:=2) (by kernel_rfl) rfl
theorem ao5:liesAt Tryz.prog Tryz.prog.depth 72 (2/Tryz.prog.cellsOf 72) 0 72 1=true:=by kernel_rfl
theorem ao4:liesAt Tryz.prog Tryz.prog.depth 74 (3/Tryz.prog.cellsOf 74) 1 72 1=true:=by kernel_rfl
theorem mixed:Tryz.prog.follows .mixedOrders=true:=by kernel_rfl
theorem H8:Tryz.prog.underlying 125=some (.map 9 3):=by kernel_rfl
theorem ale:dx Tryz.prog 11=true:=by kernel_rfl
theorem agm:dx Tryz.prog 123=true:=by kernel_rfl
theorem amN:dx Tryz.prog 124=true:=by kernel_rfl
theorem agl:dx Tryz.prog 130=true:=by kernel_rfl
theorem amM:dx Tryz.prog 134=true:=by kernel_rfl
theorem amL:dx Tryz.prog 135=true:=by kernel_rfl
theorem agk:dx Tryz.prog 136=true:=by kernel_rfl
theorem amK:dx Tryz.prog 137=true:=by kernel_rfl
theorem amJ:dx Tryz.prog 138=true:=by kernel_rfl
theorem agj:dx Tryz.prog 144=true:=by kernel_rfl
theorem aoS:dx Tryz.prog 15=true:=by kernel_rfl
theorem amI:dx Tryz.prog 172=true:=by kernel_rfl
theorem agi:dx Tryz.prog 173=true:=by kernel_rfl
theorem agh:dx Tryz.prog 196=true:=by kernel_rfl
theorem amH:dx Tryz.prog 197=true:=by kernel_rfl
theorem amG:dx Tryz.prog 200=true:=by kernel_rfl
theorem Jv:dx Tryz.prog 201=true:=by kernel_rfl
theorem amF:dx Tryz.prog 203=true:=by kernel_rfl
theorem ald:dx Tryz.prog 21=true:=by kernel_rfl
theorem amE:dx Tryz.prog 220=true:=by kernel_rfl
theorem amD:dx Tryz.prog 243=true:=by kernel_rfl
theorem agf:dx Tryz.prog 266=true:=by kernel_rfl
theorem alc:dx Tryz.prog 27=true:=by kernel_rfl
theorem agd:dx Tryz.prog 271=true:=by kernel_rfl
theorem amC:dx Tryz.prog 272=true:=by kernel_rfl
theorem amB:dx Tryz.prog 278=true:=by kernel_rfl
theorem alb:dx Tryz.prog 28=true:=by kernel_rfl
theorem amA:dx Tryz.prog 287=true:=by kernel_rfl
theorem aoR:dx Tryz.prog 29=true:=by kernel_rfl
theorem aoQ:dx Tryz.prog 30=true:=by kernel_rfl
theorem ala:dx Tryz.prog 31=true:=by kernel_rfl
theorem ak_:dx Tryz.prog 32=true:=by kernel_rfl
theorem aoP:dx Tryz.prog 33=true:=by kernel_rfl
theorem aoO:dx Tryz.prog 34=true:=by kernel_rfl
theorem amz:dx Tryz.prog 358=true:=by kernel_rfl
theorem agc:dx Tryz.prog 367=true:=by kernel_rfl
theorem amy:dx Tryz.prog 373=true:=by kernel_rfl
theorem aoN:dx Tryz.prog 39=true:=by kernel_rfl
theorem agb:dx Tryz.prog 394=true:=by kernel_rfl
theorem amx:dx Tryz.prog 402=true:=by kernel_rfl
theorem aoM:dx Tryz.prog 43=true:=by kernel_rfl
theorem ak9:dx Tryz.prog 46=true:=by kernel_rfl
theorem aoL:dx Tryz.prog 47=true:=by kernel_rfl
theorem aoK:dx Tryz.prog 50=true:=by kernel_rfl
theorem aoJ:dx Tryz.prog 51=true:=by kernel_rfl
theorem aga:dx Tryz.prog 60=true:=by kernel_rfl
theorem ak8:dx Tryz.prog 65=true:=by kernel_rfl
theorem ak7:dx Tryz.prog 80=true:=by kernel_rfl
theorem aoI:dx Tryz.prog 81=true:=by kernel_rfl
theorem aoH:dx Tryz.prog 97=true:=by kernel_rfl
theorem aoG:dx Tryz.prog 99=true:=by kernel_rfl
theorem Od:jv Tryz.prog 110 116 3 32:=tQ (by kernel_rfl)
theorem Pt:jv Tryz.prog 23 39 12 184:=tQ (by kernel_rfl)
theorem Pq:jv Tryz.prog 31 34 6 88:=tQ (by kernel_rfl)
theorem Pp:jv Tryz.prog 32 9 1 16:=tQ (by kernel_rfl)
theorem ak5:jv Tryz.prog 35 37 10 160:=tQ (by kernel_rfl)
theorem Rl:jv Tryz.prog 43 60 7 104:=tQ (by kernel_rfl)
theorem aoy:jv Tryz.prog 49 66 3 48:=tQ (by kernel_rfl)
theorem EL:jv Tryz.prog 68 5 1 1:=tQ (by kernel_rfl)
theorem ajq:Br Tryz.prog 187=some [(0,1),(1,1)]:=by kernel_rfl
theorem afR:Br Tryz.prog 34=some [(0,1),(1,1),(2,1),(3,1),(4,1),(5,1)]:=by kernel_rfl
theorem afQ:Br Tryz.prog 37=some [(0,1),(1,1),(2,6),(8,1),(9,1)]:=by kernel_rfl
theorem Wz:Br Tryz.prog 39=some [(0,1),(1,1),(2,10)]:=by kernel_rfl
theorem ams:Br Tryz.prog 60=some [(0,1),(1,6)]:=by kernel_rfl
theorem ajm(w:Go.World):(Instr.typeAssert .nilIface 20 189 true).run Tryz.prog w=.ok (.tuple #[.agg #[.int .i64 0,.int .i64 0],.bool false]) w:=by kernel_rfl
theorem ajl(w:Go.World):(Instr.typeAssert .nilIface 20 204 true).run Tryz.prog w=.ok (.tuple #[.agg #[.int .i64 0],.bool false]) w:=by kernel_rfl
theorem ajk(v:Value)(w:Go.World):(Instr.typeAssert (.iface 189 v) 20 189 true).run Tryz.prog w=.ok (.tuple #[v,.bool true]) w:=by kernel_rfl
theorem ajj(v:Value)(w:Go.World):(Instr.typeAssert (.iface 204 v) 20 204 true).run Tryz.prog w=.ok (.tuple #[v,.bool true]) w:=by kernel_rfl
theorem amq:iT Tryz.prog 131=some (false,1):=by kernel_rfl
theorem afK:iT Tryz.prog 189=some (true,2):=by kernel_rfl
theorem afJ:iT Tryz.prog 204=some (true,1):=by kernel_rfl
theorem Rb:iT Tryz.prog 23=some (false,1):=by kernel_rfl
theorem uK:iT Tryz.prog 24=some (false,1):=by kernel_rfl
theorem afI:iT Tryz.prog 271=some (false,1):=by kernel_rfl
theorem He:iT Tryz.prog 3=some (false,1):=by kernel_rfl
theorem afH:iT Tryz.prog 31=some (false,1):=by kernel_rfl
theorem ak4:iT Tryz.prog 32=some (false,1):=by kernel_rfl
theorem amo:iT Tryz.prog 326=some (true,2):=by kernel_rfl
theorem wP:iT Tryz.prog 34=some (true,6):=by kernel_rfl
theorem ak3:iT Tryz.prog 35=some (false,1):=by kernel_rfl
theorem yB:iT Tryz.prog 37=some (true,10):=by kernel_rfl
theorem aos:iT Tryz.prog 39=some (true,12):=by kernel_rfl
theorem aor:iT Tryz.prog 4=some (false,1):=by kernel_rfl
theorem ak2:iT Tryz.prog 49=some (false,1):=by kernel_rfl
theorem ak1:iT Tryz.prog 61=some (false,1):=by kernel_rfl
theorem aoq:iT Tryz.prog 63=some (true,2):=by kernel_rfl
theorem F4:iT Tryz.prog 68=some (false,1):=by kernel_rfl
theorem MG:iT Tryz.prog 70=some (false,1):=by kernel_rfl
theorem ajh:iT Tryz.prog 9=some (false,1):=by kernel_rfl
theorem G9:Tryz.prog.underlying 271=some (.int .u64):=by kernel_rfl
theorem Uk:Tryz.prog.underlying 3=some (.int .i64):=by kernel_rfl
theorem akZ:Tryz.prog.underlying 32=some (.slice 9):=by kernel_rfl
theorem aml:Tryz.prog.underlying 326=some (.array 2 271):=by kernel_rfl
theorem ai_:Tryz.prog.underlying 4=some (.bool):=by kernel_rfl
theorem akY:Tryz.prog.underlying 43=some (.slice 60):=by kernel_rfl
theorem Q8:Tryz.prog.underlying 5=some (.int .u8):=by kernel_rfl
theorem MC:Tryz.prog.underlying 68=some (.slice 5):=by kernel_rfl
theorem mq:Tryz.prog.underlying 9=some (.string):=by kernel_rfl
theorem K6:Tryz.prog.underlying 70=some (.pointer 72):=by kernel_rfl
theorem afv:Tryz.prog.underlying 124=some (.pointer 5):=by kernel_rfl
theorem Wp:Tryz.prog.underlying 138=some .unsafePointer:=by kernel_rfl
theorem aom(w:World):(Go.sizeOf 60).run Tryz.prog w=.ok 7 w:=by kernel_rfl
theorem ac9:(Tryz.prog.info? 3).map (·.zero)=some (some (.int .i64 0)):=by kernel_rfl
theorem afh:lC Tryz.prog 116=some [.int .i64 0,.str [],.int .i64 0]:=by kernel_rfl
theorem ami:lC Tryz.prog 131=some [.val .nilFunc]:=by kernel_rfl
theorem amh:lC Tryz.prog 187=some [.own (.slice none 0 0) [],.int .i64 0]:=by kernel_rfl
theorem afg:lC Tryz.prog 189=some [.int .i64 0,.int .i64 0]:=by kernel_rfl
theorem aff:lC Tryz.prog 204=some [.int .i64 0]:=by kernel_rfl
theorem afe:lC Tryz.prog 221=some [.str [],.str [],.str [],.str [],.str [],.str [],.str [],.str []]:=by kernel_rfl
theorem abL:lC Tryz.prog 24=some [.int .i64 0]:=by kernel_rfl
theorem aol:lC Tryz.prog 3=some [.int .i64 0]:=by kernel_rfl
theorem afd:lC Tryz.prog 315=some [.bool false,.int .u64 0,.int .u64 0]:=by kernel_rfl
theorem aok:lC Tryz.prog 32=some [.own (.slice none 0 0) []]:=by kernel_rfl
theorem afc:lC Tryz.prog 326=some [.int .u64 0,.int .u64 0]:=by kernel_rfl
theorem afb:lC Tryz.prog 328=some [.int .u64 0,.int .u64 0,.bool false]:=by kernel_rfl
theorem oW:lC Tryz.prog 34=some [.int .i64 0,.bool false,.int .i64 0,.str [],.own (.slice none 0 0) [],.own (.slice none 0 0) []]:=by kernel_rfl
theorem K4:lC Tryz.prog 37=some [.int .i64 0,.str [],.int .i64 0,.bool false,.int .i64 0,.str [],.own (.slice none 0 0) [],.own (.slice none 0 0) [],.own (.slice none 0 0) [],.own (.slice none 0 0) []]:=by kernel_rfl
theorem QO:lC Tryz.prog 39=some [.str [],.bool false,.int .i64 0,.str [],.int .i64 0,.bool false,.int .i64 0,.str [],.own (.slice none 0 0) [],.own (.slice none 0 0) [],.own (.slice none 0 0) [],.own (.slice none 0 0) []]:=by kernel_rfl
theorem abK:lC Tryz.prog 60=some [.str [],.int .i64 0,.bool false,.int .i64 0,.str [],.own (.slice none 0 0) [],.own (.slice none 0 0) []]:=by kernel_rfl
theorem aoj:lC Tryz.prog 63=some [.int .i64 0,.own (.slice none 0 0) []]:=by kernel_rfl
theorem aoi:lC Tryz.prog 66=some [.str [],.int .i64 0,.own (.slice none 0 0) []]:=by kernel_rfl
theorem X4:lC Tryz.prog 72=some [.val (.pointer none),.own (.slice none 0 0) []]:=by kernel_rfl
theorem aoh:lC Tryz.prog 74=some [.own (.slice none 0 0) [],.val (.pointer none),.own (.slice none 0 0) []]:=by kernel_rfl
def FX:Facts:={ti:=[(3,false,1),(4,false,1),(5,false,1),(9,false,1),(23,false,1),(24,false,1),(31,false,1),(32,false,1),(34,true,6),(35,false,1),(37,true,10),(39,true,12),(49,false,1),(60,true,7),(63,true,2),(66,true,3),(116,true,3),(187,true,2),(189,true,2),(204,true,1),(271,false,1)],fo:=[(34,0,0),(34,1,1),(34,2,2),(34,3,3),(34,4,4),(34,5,5),(37,0,0),(37,1,1),(37,2,2),(37,3,8),(37,4,9),(39,0,0),(39,1,1),(39,2,2),(60,0,0),(60,1,1),(63,0,0),(63,1,1),(66,0,0),(66,1,1),(74,0,0),(74,1,1),(116,0,0),(116,1,1),(116,2,2),(187,0,0),(187,1,1),(189,0,0),(189,1,1),(204,0,0),(315,0,0),(315,1,1),(315,2,2),(328,0,0),(328,1,2)],fd:=[],str:=[]}
theorem iy:FX.okB Tryz.prog=true:=by kernel_rfl
theorem cs{n:Nat}{all:Array Oper}{σ:List aS}{ds:List Deferred}{Q:Post}(k:Nat){l l':List Oper}{env env':Env}(h:P_ FX all n k l env=some (env',l'))(hr:AR Tryz.prog n all l' env' σ ds Q):AR Tryz.prog n all l env σ ds Q:=AR.cs iy k h hr
variable {τ : List aS} {Q : dN → List aS → Prop}
abbrev PC:=AC Tryz.prog
@[reducible] def iP(x:Int):PV:=.int .i64 x
@[reducible] def sP(x:List Str):PV:=.list (List.map jy x)
@[reducible] def pP(b:Nat):PV:=.val (.pointer (some ⟨b,0,none⟩))
@[reducible] def aF(x:ah):List PV:=[.int .i64 x.kind,.bool x.dD,.int .i64 x.cu,.str x.bJ,.list (ah.bP x.aP),.list (List.map jy x.keys)]
@[reducible] def aR(x:aj):List PV:=[.int .i64 x.kind,.str x.name,.int .i64 x.value.kind,.bool x.value.dD,.int .i64 x.value.cu,.str x.value.bJ,.list (ah.bP x.value.aP),.list (List.map jy x.value.keys),.list (aj.bP x.args),.list (List.map jy x.keys)]
@[reducible] def Ox(x:aO):List PV:=[.str x.text,.bool x.QE,.int .i64 x.expr.kind,.str x.expr.name,.int .i64 x.expr.value.kind,.bool x.expr.value.dD,.int .i64 x.expr.value.cu,.str x.expr.value.bJ,.list (ah.bP x.expr.value.aP),.list (List.map jy x.expr.value.keys),.list (aj.bP x.expr.args),.list (List.map jy x.expr.keys)]
@[reducible] def qN(x:aB):List PV:=[.str x.name,.int .i64 x.value.kind,.bool x.value.dD,.int .i64 x.value.cu,.str x.value.bJ,.list (ah.bP x.value.aP),.list (List.map jy x.value.keys)]
@[reducible] def dG(x:aM):List PV:=[.int .i64 x.kind,.list (aM.bP x.elem)]
@[reducible] def Y6(x:bU):List PV:=[.str x.name,.int .i64 x.F3.kind,.list (aM.bP x.F3.elem)]
@[reducible] def oO(x:ay):List PV:=[.int .i64 x.kind,.str x.text,.int .i64 x.at_]
@[reducible] def aQ(x:au):List PV:=[.list (List.map ay.cells x.ts),.int .i64 x.at_]
@[reducible] def jI(x:aA):List PV:=[.int .i64 x.at_,.int .i64 x.code]
@[reducible] def Eo(x:bD):List PV:=[.bool x.neg,.int .u64 (x.hi.toNat:Int),.int .u64 (x.lo.toNat:Int)]
@[reducible] def PS(x:fD):List PV:=[.int .u64 ((x.half.getD 0 0).toNat:Int),.int .u64 ((x.half.getD 1 0).toNat:Int),.bool x.neg]
def FZ:FB:=⟨{FX with ti:=FX.ti++[(3,false,1),(4,false,1),(9,false,1),(23,false,1),(24,false,1),(31,false,1),(32,false,1),(34,true,6),(35,false,1),(37,true,10),(39,true,12),(49,false,1),(60,true,7),(61,false,1),(63,true,2),(66,true,3),(68,false,1),(70,false,1),(110,false,1),(116,true,3),(131,false,1),(187,true,2),(189,true,2),(204,true,1),(221,true,8),(271,false,1),(287,false,1),(315,true,3),(326,true,2),(328,true,3)],fo:=FX.fo++[(37,3,8),(39,0,0),(39,1,1),(39,2,2),(63,0,0),(72,0,0),(72,1,1),(74,0,0),(74,1,1)],str:=[9]},[(3,[.int .i64 0]),(24,[.int .i64 0]),(32,[.own (.slice none 0 0) []]),(34,[.int .i64 0,.bool false,.int .i64 0,.str [],.own (.slice none 0 0) [],.own (.slice none 0 0) []]),(37,[.int .i64 0,.str [],.int .i64 0,.bool false,.int .i64 0,.str [],.own (.slice none 0 0) [],.own (.slice none 0 0) [],.own (.slice none 0 0) [],.own (.slice none 0 0) []]),(39,[.str [],.bool false,.int .i64 0,.str [],.int .i64 0,.bool false,.int .i64 0,.str [],.own (.slice none 0 0) [],.own (.slice none 0 0) [],.own (.slice none 0 0) [],.own (.slice none 0 0) []]),(60,[.str [],.int .i64 0,.bool false,.int .i64 0,.str [],.own (.slice none 0 0) [],.own (.slice none 0 0) []]),(63,[.int .i64 0,.own (.slice none 0 0) []]),(66,[.str [],.int .i64 0,.own (.slice none 0 0) []]),(72,[.val (.pointer none),.own (.slice none 0 0) []]),(74,[.own (.slice none 0 0) [],.val (.pointer none),.own (.slice none 0 0) []]),(116,[.int .i64 0,.str [],.int .i64 0]),(131,[.val .nilFunc]),(187,[.own (.slice none 0 0) [],.int .i64 0]),(189,[.int .i64 0,.int .i64 0]),(204,[.int .i64 0]),(221,[.str [],.str [],.str [],.str [],.str [],.str [],.str [],.str []]),(287,[.int .u64 0]),(315,[.bool false,.int .u64 0,.int .u64 0]),(326,[.int .u64 0,.int .u64 0]),(328,[.int .u64 0,.int .u64 0,.bool false]),(369,[.str []])],[(34,[(0,1),(1,1),(2,1),(3,1),(4,1),(5,1)]),(37,[(0,1),(1,1),(2,6),(8,1),(9,1)]),(39,[(0,1),(1,1),(2,10)]),(60,[(0,1),(1,6)]),(63,[(0,1),(1,1)]),(66,[(0,1),(1,2)]),(116,[(0,1),(1,1),(2,1)]),(187,[(0,1),(1,1)]),(189,[(0,1),(1,1)]),(204,[(0,1)]),(315,[(0,1),(1,1),(2,1)]),(328,[(0,2),(2,1)]),(369,[(0,1)])]⟩
instance iFA:FA Tryz.prog:={F:=FZ,ok:=⟨by kernel_rfl,by kernel_rfl,by kernel_rfl⟩,mix:=by kernel_rfl,es:=[(23,12),(31,6),(32,1),(35,10),(43,7),(49,3),(61,2),(68,1),(110,3),(161,7),(236,1)],eok:=by kernel_rfl,sf:=[(110,116,3,32),(23,39,12,184),(236,3,1,8),(31,34,6,88),(32,9,1,16),(35,37,10,160),(43,60,7,104),(49,66,3,48),(61,63,2,32),(68,5,1,1)],sok:=by kernel_rfl,bs:=[(68,5)],apM:=by kernel_rfl,un:=[(21,.i32),(218,.u64),(269,.u32),(271,.u64),(287,.u64),(3,.i64),(5,.u8)],uok:=by kernel_rfl,ic:=[189,204,350,367],iok:=by kernel_rfl,bo:=[4],bok:=by kernel_rfl,pf:=[5,10,11,12,14,15,17,18,19,21,24,26,27,28,29,30,31,32,33,34,36,37,38,39,41,42,43,44,45,46,47,50,51,55,56,59,60,61,62,63,64,65,66,67,68,69,70,71,73,75,76,77,78,79,80,81,82,84,85,86,87,88,92,93,97,98,99,100,101,102,103,104,105,106,107,108,109,110,111,113,114,116,117,118,122,123,124,125,126,127,128,129,130,131,132,133,134,135,136,137,138,139,140,141,142,143,144,146,147,148,152,155,156,157,161,162,163,164,166,167,168,169,170,171,172,173,174,175,176,177,178,179,180,181,182,183,184,185,187,188,193,194,196,197,198,199,200,201,202,203,204,205,206,207,208,209,210,211,212,213,214,216,217,218,219,220,221,224,225,226,227,228,230,239,240,241,242,243,244,245,246,247,248,249,250,251,252,253,254,255,257,261,262,263,264,265,266,267,268,269,270,271,272,273,274,275,276,278,279,280,281,282,283,284,285,286,287,290,291,297,298,299,300,301,302,303,310,311,312,313,314,315,316,317,318,319,320,323,324,325,326,327,328,329,330,331,332,333,334,335,337,338,340,344,348,350,351,352,353,354,355,356,357,358,359,360,361,362,363,364,365,366,367,368,369,370,371,372,373,374,378,379,382,383,384,385,386,387,388,389,390,391,392,394,395,396,397,398,399,400,401,402,408,410,411,412,413,414,418,419,422,423,432,433],pk:=by kernel_rfl}
instance (l :List Str):ML (List.map jy l) l jy:=⟨rfl⟩
instance (l :List Int):ML (List.map aa2 l) l aa2:=⟨rfl⟩
instance (l :List UInt8):ML (List.map f_ l) l f_:=⟨rfl⟩
instance (l :List ay):ML (List.map ay.cells l) l ay.cells:=⟨rfl⟩
instance : CE ay.cells (fun x:ay=>[.int .i64 x.kind,.str x.text,.int .i64 x.at_]):=⟨ay.aT⟩
instance : V8 ay.cells 3:=⟨ay.dL,ay.cells_one⟩
instance : TC ay ay.cells:=⟨trivial⟩
instance (l :List au):ML (List.map au.cells l) l au.cells:=⟨rfl⟩
instance : CE au.cells (fun x:au=>[.list (List.map ay.cells x.ts),.int .i64 x.at_]):=⟨au.aT⟩
instance : V8 au.cells 2:=⟨au.dL,au.cells_one⟩
instance : TC au au.cells:=⟨trivial⟩
instance (l :List aA):ML (List.map aA.cells l) l aA.cells:=⟨rfl⟩
instance : CE aA.cells (fun x:aA=>[.int .i64 x.at_,.int .i64 x.code]):=⟨aA.aT⟩
instance : V8 aA.cells 2:=⟨aA.dL,aA.cells_one⟩
instance : TC aA aA.cells:=⟨trivial⟩
instance (l :List ah):ML (ah.bP l) l ah.cells:=⟨ah.bI l⟩
instance (l :List ah):ML (List.map ah.cells l) l ah.cells:=⟨rfl⟩
instance : CE ah.cells (fun x:ah=>[.int .i64 x.kind,.bool x.dD,.int .i64 x.cu,.str x.bJ,.list (ah.bP x.aP),.list (List.map jy x.keys)]):=⟨ah.aT⟩
instance : V8 ah.cells 6:=⟨ah.dL,ah.cells_one⟩
instance : TC ah ah.cells:=⟨trivial⟩
instance (l :List aj):ML (aj.bP l) l aj.cells:=⟨aj.bI l⟩
instance (l :List aj):ML (List.map aj.cells l) l aj.cells:=⟨rfl⟩
instance : CE aj.cells (fun x:aj=>[.int .i64 x.kind,.str x.name,.int .i64 x.value.kind,.bool x.value.dD,.int .i64 x.value.cu,.str x.value.bJ,.list (ah.bP x.value.aP),.list (List.map jy x.value.keys),.list (aj.bP x.args),.list (List.map jy x.keys)]):=⟨aj.aT⟩
instance : V8 aj.cells 10:=⟨aj.dL,aj.cells_one⟩
instance : TC aj aj.cells:=⟨trivial⟩
instance (l :List aO):ML (List.map aO.cells l) l aO.cells:=⟨rfl⟩
instance : CE aO.cells (fun x:aO=>[.str x.text,.bool x.QE,.int .i64 x.expr.kind,.str x.expr.name,.int .i64 x.expr.value.kind,.bool x.expr.value.dD,.int .i64 x.expr.value.cu,.str x.expr.value.bJ,.list (ah.bP x.expr.value.aP),.list (List.map jy x.expr.value.keys),.list (aj.bP x.expr.args),.list (List.map jy x.expr.keys)]):=⟨aO.aT⟩
instance : V8 aO.cells 12:=⟨aO.dL,aO.cells_one⟩
instance : TC aO aO.cells:=⟨trivial⟩
instance (l :List aB):ML (List.map aB.cells l) l aB.cells:=⟨rfl⟩
instance : CE aB.cells (fun x:aB=>[.str x.name,.int .i64 x.value.kind,.bool x.value.dD,.int .i64 x.value.cu,.str x.value.bJ,.list (ah.bP x.value.aP),.list (List.map jy x.value.keys)]):=⟨aB.aT⟩
instance : V8 aB.cells 7:=⟨aB.dL,aB.cells_one⟩
instance : TC aB aB.cells:=⟨trivial⟩
instance (l :List aG):ML (List.map aG.cells l) l aG.cells:=⟨rfl⟩
instance : CE aG.cells (fun x:aG=>[.int .i64 x.code]):=⟨aG.aT⟩
instance : V8 aG.cells 1:=⟨aG.dL,aG.cells_one⟩
instance : TC aG aG.cells:=⟨trivial⟩
instance (l :List fD):ML (List.map fD.cells l) l fD.cells:=⟨rfl⟩
instance : CE fD.cells (fun x:fD=>[.int .u64 ((x.half.getD 0 0).toNat:Int),.int .u64 ((x.half.getD 1 0).toNat:Int),.bool x.neg]):=⟨fD.aT⟩
instance : V8 fD.cells 3:=⟨fD.dL,fD.cells_one⟩
instance : TC fD fD.cells:=⟨trivial⟩
instance (l :List aM):ML (aM.bP l) l aM.cells:=⟨aM.bI l⟩
instance (l :List aM):ML (List.map aM.cells l) l aM.cells:=⟨rfl⟩
instance : CE aM.cells (fun x:aM=>[.int .i64 x.kind,.list (aM.bP x.elem)]):=⟨aM.aT⟩
instance : V8 aM.cells 2:=⟨aM.dL,aM.cells_one⟩
instance : TC aM aM.cells:=⟨trivial⟩
instance (l :List bU):ML (List.map bU.cells l) l bU.cells:=⟨rfl⟩
instance : CE bU.cells (fun x:bU=>[.str x.name,.int .i64 x.F3.kind,.list (aM.bP x.F3.elem)]):=⟨bU.aT⟩
instance : V8 bU.cells 3:=⟨bU.dL,bU.cells_one⟩
instance : TC bU bU.cells:=⟨trivial⟩
instance (l :List bD):ML (List.map bD.cells l) l bD.cells:=⟨rfl⟩
instance : CE bD.cells (fun x:bD=>[.bool x.neg,.int .u64 (x.hi.toNat:Int),.int .u64 (x.lo.toNat:Int)]):=⟨bD.aT⟩
instance : V8 bD.cells 3:=⟨bD.dL,bD.cells_one⟩
instance : TC bD bD.cells:=⟨trivial⟩
instance : CE jy jy:=⟨fun _=>rfl⟩
instance : V8 jy 1:=⟨fun _=>rfl,fun _=>rfl⟩
instance : TC Str jy:=⟨trivial⟩
instance : CE aa2 aa2:=⟨fun _=>rfl⟩
instance : V8 aa2 1:=⟨fun _=>rfl,fun _=>rfl⟩
instance : TC Int aa2:=⟨trivial⟩
instance : CE f_ f_:=⟨fun _=>rfl⟩
instance : V8 f_ 1:=⟨fun _=>rfl,fun _=>rfl⟩
instance : TC UInt8 f_:=⟨trivial⟩
instance : CE ac0 ac0:=⟨fun _=>rfl⟩
instance : V8 ac0 1:=⟨fun _=>rfl,fun _=>rfl⟩
instance : TC Bool ac0:=⟨trivial⟩
theorem zP{m:Nat}(h:ug (FK.pf Tryz.prog) m=true):dx Tryz.prog m=true:=zI FK.pk h
theorem Z1{R:Type}{x:Option R}{e:R→dN}{m:Nat}{a:List PV}{fn:Func}{c:Code}{env:Env}(cf:Cf)(hp:ug (FK.pf Tryz.prog) m=true)(hf:Tryz.prog.funcs[m]?=some fn)(hb:fn.body=some c)(hn:fn.ntmps=cf.n)(hl:Nat.ble a.length cf.n=true)
    (Er:Abs.settle (List.range a.length) (vD 0 a)=some env) (h:∀r,WN Tryz.prog cf (.body fn.results.toList) R e (fun _=>[]) r (NX Tryz.prog cf (.body fn.results.toList) ⟨.w c [] env [],[]⟩) x:=by repeat' first|(show WN _ _ _ _ _ _ _ (NX _ _ _ _) _;conv=>arg @10;whnf)|intro _|exact KR.mk (by kernel_rfl)|exact KB.mk (by first|assumption|rfl)|constructor|rfl|simp only[jH,List.map,PV.weak,PV.rQ,dN.ret.injEq,ah.aT,ah.bI,aj.aT,aj.bI,aM.aT,aM.bI,Ox,aR,qN,aF,Y6,dG]):CT Tryz.prog x e m a:=CT.of cf hp hf hb hn hl Er h
theorem Z2{R:Type}{x:Option R}{e:R→dN}{m:Nat}{a:Nat→List PV}{c0:List PV}{c1:R→List PV}{fn:Func}{c:Code}{env:Nat→Env}(cf:Cf)(i:Nat)(hp:ug (FK.pf Tryz.prog) m=true)(hf:Tryz.prog.funcs[m]?=some fn)(hb:fn.body=some c)(hn:fn.ntmps=cf.n)(hl:∀b,Nat.ble (a b).length cf.n=true)
    (Er:∀b,Abs.settle (List.range (a b).length) (vD 0 (a b))=some (env b)) (h:∀b r,WN Tryz.prog cf (.body fn.results.toList) R e (fun r=>[.box b (c1 r)]) r (NX Tryz.prog cf (.body fn.results.toList) ⟨.w c [] (env b) [.box b c0],[(i,0)]⟩) x:=by repeat' first|(show WN _ _ _ _ _ _ _ (NX _ _ _ _) _;conv=>arg @10;whnf)|intro _|exact KR.mk (by kernel_rfl)|exact KB.mk (by first|assumption|rfl)|constructor|rfl|simp only[jH,List.map,PV.weak,PV.rQ,dN.ret.injEq,ah.aT,ah.bI,aj.aT,aj.bI,aM.aT,aM.bI,Ox,aR,qN,aF,Y6,dG]):CB Tryz.prog x e m a c0 c1:=CB.of cf i hp hf hb hn hl Er h
theorem IU{b:Nat}{v p:Value}{bs:List UInt8}(hp:p=Value.pointer none∨p=.pointer (some ⟨b,0,none⟩)){R:dN→List aS→Prop}(h:R (.ret (.tuple [])) [.lU b 72 [.val (.pointer (some ⟨b,0,none⟩)),.own v (bs.map f_)],.row v bs.length 1 5]):
    AC Tryz.prog 60 [.val (.pointer (some ⟨b,0,none⟩))] [.lU b 72 [.val p,.own v (bs.map f_)],.row v bs.length 1 5] R:=by
  obtain⟨j,hj1,hj2⟩:=inB;rcases hp with rfl|rfl
  · skip
    refine AC.jZ 20 [] [0] Tryz.func60 rfl rfl rfl rfl rfl ?_;refine AW.seq ?_;refine AW.region ?_;refine AR.step rfl rfl rfl (AO.calc' rfl ?_);refine AR.step rfl rfl rfl (AO.nilCheck rfl rfl ?_);refine AR.step rfl rfl rfl (AO.bR rfl rfl CV ?_);refine AR.step rfl rfl rfl (AO.jP (i:=0) rfl rfl rfl MG rfl rfl ?_);refine AR.step rfl rfl rfl (AO.Qy rfl K6 rfl rfl ?_);refine AR.nil [0,6] rfl ?_;refine AW.cond rfl (fun h1=>?_) (fun h1=>?_)
    ·refine AW.region ?_;refine AR.step rfl rfl rfl (AO.calc' rfl ?_);refine AR.step rfl rfl rfl (AO.calc' rfl ?_);refine AR.step rfl rfl rfl (AO.adi (i:=0) rfl K6 Wp hj1 hj2 rfl rfl rfl ?_);refine AR.step rfl rfl rfl (AO.YU rfl rfl rfl rfl Tryz.func96 (by kernel_rfl) (by kernel_rfl) (by kernel_rfl) (by kernel_rfl) rfl ?_);refine AR.step rfl rfl rfl (AO.Zg (i:=0) rfl Wp K6 hj1 rfl rfl rfl ao5 ?_);refine AR.step rfl rfl rfl (AO.nilCheck rfl rfl ?_);refine AR.step rfl rfl rfl (AO.bR rfl rfl CV ?_);refine AR.bW rfl rfl (AO.rZ (i:=0) rfl rfl rfl MG rfl rfl rfl rfl rfl ?_);refine AR.nil [] rfl ?_;exact⟨rfl,[],rfl,_,List.Sublist.refl _,h⟩
    ·cases h1
  · skip
    refine AC.jZ 20 [] [0] Tryz.func60 rfl rfl rfl rfl rfl ?_;refine AW.seq ?_;refine AW.region ?_;refine AR.step rfl rfl rfl (AO.calc' rfl ?_);refine AR.step rfl rfl rfl (AO.nilCheck rfl rfl ?_);refine AR.step rfl rfl rfl (AO.bR rfl rfl CV ?_);refine AR.step rfl rfl rfl (AO.jP (i:=0) rfl rfl rfl MG rfl rfl ?_);refine AR.step rfl rfl rfl (AO.Qy rfl K6 rfl rfl ?_);refine AR.nil [0,6] rfl ?_;refine AW.cond rfl (fun h1=>?_) (fun h1=>?_)
    ·cases h1
    · refine AW.seq ?_;refine AW.region ?_;refine AR.step rfl rfl rfl (AO.calc' rfl ?_);refine AR.step rfl rfl rfl (AO.nilCheck rfl rfl ?_);refine AR.step rfl rfl rfl (AO.bR rfl rfl CV ?_);refine AR.step rfl rfl rfl (AO.jP (i:=0) rfl rfl rfl MG rfl rfl ?_);refine AR.step rfl rfl rfl (AO.calc' rfl ?_);refine AR.step rfl rfl rfl (AO.M5 rfl K6 hj1 rfl rfl ?_);refine AR.nil [19] rfl ?_;refine AW.cond rfl (fun h2=>?_) (fun h2=>?_)
      ·cases h2
      ·refine AW.skip ?_;exact⟨rfl,[],rfl,_,List.Sublist.refl _,h⟩
theorem jf{b:Nat}{v:Value}{bs r:List UInt8}{c:UInt8}(hv:app bs [c]=some r){R:dN→List aS→Prop}(h:∀v',R (.ret (.val .nilIface)) [.Mf b v' 72 5 r]):AC Tryz.prog 28 [.val (.pointer (some ⟨b,0,none⟩)),.int .u8 (c.toNat:Int)] [.Mf b v 72 5 bs] R:=by
  refine AC.Mf fun p hp hroom=>?_;refine AC.jZ 17 [.tmp 4] [0,1] Tryz.func28 rfl rfl rfl rfl rfl ?_;refine AW.seq ?_;refine AW.region ?_;refine AR.step rfl rfl rfl (AO.calc' rfl ?_);refine AR.nil [0,1] rfl ?_;refine AW.seq ?_;refine AW.region ?_;refine AR.step rfl rfl rfl (AO.calc' rfl ?_);refine AR.step rfl rfl rfl (AO.call rfl _ rfl rfl aga (IU hp ?_));refine AR.nil [0,1] rfl ?_;refine AW.seq ?_;refine AW.region ?_;refine AR.step rfl rfl rfl (AO.calc' rfl ?_);refine AR.step rfl rfl rfl (AO.calc' rfl ?_);refine AR.step rfl rfl rfl (AO.nilCheck rfl rfl ?_);refine AR.step rfl rfl rfl (AO.bR rfl rfl vZ ?_);refine AR.step rfl rfl rfl (AO.jP (i:=0) rfl rfl rfl F4 rfl rfl ?_);refine AR.step rfl rfl rfl (AO.calc' rfl ?_);refine AR.step rfl rfl rfl (AO.buildSlice rfl EL rfl rfl rfl ?_);refine AR.step rfl rfl rfl (AO.O1 (i:=1) hv rfl rfl rfl rfl rfl (Ls.list rfl VK (by simp[f_]) (by simp[f_,PV.one])) rfl EL (fun v' s1 hs1 hr1=>?_));cases hs1;refine AR.step rfl rfl rfl (AO.nilCheck rfl rfl ?_);refine AR.step rfl rfl rfl (AO.bR rfl rfl vZ ?_);refine AR.bW rfl rfl (AO.rZ (i:=0) rfl rfl rfl F4 rfl rfl rfl rfl rfl ?_);refine AR.nil [1] rfl ?_;refine AW.seq ?_;refine AW.region ?_;refine AR.step rfl rfl rfl (AO.calc' rfl ?_);refine AR.nil [4] rfl ?_;refine AW.ret ?_;exact⟨rfl,_,⟨_,_,rfl,rfl,rfl⟩,_,List.Sublist.refl _,_,v',r,rfl,.inr rfl,hr1 hroom,h v'⟩
theorem nI{b:Nat}{v:Value}{bs r s:List UInt8}(hv:app bs s=some r){R:dN→List aS→Prop}(h:∀v',R (.ret (.tuple [.int .i64 (s.length:Int),.val .nilIface])) [.Mf b v' 72 5 r]):AC Tryz.prog 36 [.val (.pointer (some ⟨b,0,none⟩)),.str s] [.Mf b v 72 5 bs] R:=by
  refine AC.Mf fun p hp hroom=>?_;refine AC.jZ 19 [.tmp 4,.tmp 5] [0,1] Tryz.func36 rfl rfl rfl rfl rfl ?_;refine AW.seq ?_;refine AW.region ?_;refine AR.step rfl rfl rfl (AO.calc' rfl ?_);refine AR.step rfl rfl rfl (AO.calc' rfl ?_);refine AR.nil [0,1] rfl ?_;refine AW.seq ?_;refine AW.region ?_;refine AR.step rfl rfl rfl (AO.calc' rfl ?_);refine AR.step rfl rfl rfl (AO.call rfl _ rfl rfl aga (IU hp ?_));refine AR.nil [0,1] rfl ?_;refine AW.seq ?_;refine AW.region ?_;refine AR.step rfl rfl rfl (AO.calc' rfl ?_);refine AR.step rfl rfl rfl (AO.calc' rfl ?_);refine AR.step rfl rfl rfl (AO.nilCheck rfl rfl ?_);refine AR.step rfl rfl rfl (AO.bR rfl rfl vZ ?_);refine AR.step rfl rfl rfl (AO.jP (i:=0) rfl rfl rfl F4 rfl rfl ?_);refine AR.step rfl rfl rfl (AO.calc' rfl ?_);refine AR.step rfl rfl rfl (AO.O1 (i:=1) hv rfl rfl rfl rfl rfl (Ls.str mq) rfl EL (fun v' s1 hs1 hr1=>?_));cases hs1;refine AR.step rfl rfl rfl (AO.nilCheck rfl rfl ?_);refine AR.step rfl rfl rfl (AO.bR rfl rfl vZ ?_);refine AR.bW rfl rfl (AO.rZ (i:=0) rfl rfl rfl F4 rfl rfl rfl rfl rfl ?_);refine AR.nil [1] rfl ?_;refine AW.seq ?_;refine AW.region ?_;refine AR.step rfl rfl rfl (AO.calc' rfl ?_);refine AR.step rfl rfl rfl (AO.qM rfl rfl rfl rfl mq rfl ?_);refine AR.step rfl rfl rfl (AO.calc' rfl ?_);refine AR.step rfl rfl rfl (AO.calc' rfl ?_);refine AR.nil [4,5] rfl ?_;refine AW.ret ?_;exact⟨rfl,_,⟨_,_,rfl,rfl,_,_,rfl,rfl,rfl⟩,_,List.Sublist.refl _,_,v',r,rfl,.inr rfl,hr1 hroom,h v'⟩
theorem VX{b:Nat}{v:Value}{bs:List UInt8}{R:dN→List aS→Prop}(h:R (.ret (.int .i64 (bs.length:Int))) [.Mf b v 72 5 bs]):AC Tryz.prog 43 [.val (.pointer (some ⟨b,0,none⟩))] [.Mf b v 72 5 bs] R:=by
  refine AC.Mf fun p hp hroom=>?_;refine AC.jZ 8 [.tmp 2] [0] Tryz.func43 rfl rfl rfl rfl rfl ?_;refine AW.seq ?_;refine AW.region ?_;refine AR.step rfl rfl rfl (AO.calc' rfl ?_);refine AR.nil [0] rfl ?_;refine AW.seq ?_;refine AW.region ?_;refine AR.step rfl rfl rfl (AO.calc' rfl ?_);refine AR.step rfl rfl rfl (AO.nilCheck rfl rfl ?_);refine AR.step rfl rfl rfl (AO.bR rfl rfl vZ ?_);refine AR.step rfl rfl rfl (AO.jP (i:=0) rfl rfl rfl F4 rfl rfl ?_);refine AR.step rfl rfl rfl (AO.fQ (l:=bs) rfl rfl rfl rfl VK rfl rfl ?_);refine AR.step rfl rfl rfl (AO.calc' rfl ?_);refine AR.nil [2] rfl ?_;refine AW.ret ?_;exact⟨rfl,_,⟨_,_,rfl,rfl,rfl⟩,_,List.Sublist.refl _,p,v,bs,rfl,hp,hroom,h⟩
theorem z_{b:Nat}{v:Value}{bs:List UInt8}{R:dN→List aS→Prop}(h:R (.ret (.str bs)) []):AC Tryz.prog 39 [.val (.pointer (some ⟨b,0,none⟩))] [.Mf b v 72 5 bs] R:=by
  refine AC.akn fun p hroom=>?_;refine AC.jZ 14 [.tmp 2] [0] Tryz.func39 rfl rfl rfl rfl rfl ?_;refine AW.seq ?_;refine AW.region ?_;refine AR.step rfl rfl rfl (AO.calc' rfl ?_);refine AR.nil [0] rfl ?_;refine AW.seq ?_;refine AW.draw 10 mixed (by kernel_rfl) rfl ?_;refine Ev.cons rfl rfl rfl (AO.calc' rfl ⟨rfl,rfl⟩) ?_;refine Ev.cons rfl rfl rfl (AO.nilCheck rfl rfl ⟨rfl,rfl⟩) ?_;refine Ev.cons rfl rfl rfl (AO.bR rfl rfl vZ ⟨rfl,rfl⟩) ?_;refine Ev.cons rfl rfl rfl (AO.jP (i:=0) rfl rfl rfl F4 rfl rfl ⟨rfl,rfl⟩) ?_;refine Ev.cons rfl rfl rfl (AO.sliceData rfl rfl rfl rfl hroom ⟨rfl,rfl⟩) ?_;refine Ev.cons rfl rfl rfl (AO.calc' rfl ⟨rfl,rfl⟩) ?_;refine Ev.cons rfl rfl rfl (AO.nilCheck rfl rfl ⟨rfl,rfl⟩) ?_;refine Ev.cons rfl rfl rfl (AO.bR rfl rfl vZ ⟨rfl,rfl⟩) ?_;refine Ev.cons rfl rfl rfl (AO.jP (i:=0) rfl rfl rfl F4 rfl rfl ⟨rfl,rfl⟩) ?_;refine Ev.cons rfl rfl rfl (AO.fQ (l:=bs) rfl rfl rfl rfl VK rfl rfl ⟨rfl,rfl⟩) ?_;refine Ev.nil ?_;show AR _ _ _ _ _ _ _ _;refine AR.step rfl rfl rfl (AO.unsafeString rfl rfl rfl rfl afv apC rfl rfl rfl ?_);refine AR.step rfl rfl rfl (AO.calc' rfl ?_);refine AR.nil [2] rfl ?_;refine AW.ret ?_;exact⟨rfl,_,⟨_,_,rfl,rfl,rfl⟩,[],asY _,h⟩
theorem Ti{b:Nat}{q:PV}{v p:Value}{bs:List UInt8}(hp:p=Value.pointer none∨p=.pointer (some ⟨b,1,none⟩)){R:dN→List aS→Prop}(h:R (.ret (.tuple [])) [.row v (List.length bs) 1 5,.lU b 74 [q,.val (.pointer (some ⟨b,1,none⟩)),.own v (List.map f_ bs)]]):
    AC Tryz.prog 60 [.val (.pointer (some ⟨b,1,none⟩))] [.row v (List.length bs) 1 5,.lU b 74 [q,.val p,.own v (List.map f_ bs)]] R:=by
  obtain⟨j,hj1,hj2⟩:=inB;rcases hp with rfl|rfl
  · skip
    refine AC.jZ 20 [] [0] Tryz.func60 rfl rfl rfl rfl rfl ?_;refine AW.seq ?_;refine AW.region ?_;refine AR.step rfl rfl rfl (AO.calc' rfl ?_);refine AR.step rfl rfl rfl (AO.nilCheck rfl rfl ?_);refine AR.step rfl rfl rfl (AO.bR rfl rfl CV ?_);refine AR.step rfl rfl rfl (AO.jP (i:=1) rfl rfl rfl MG rfl rfl ?_);refine AR.step rfl rfl rfl (AO.Qy rfl K6 rfl rfl ?_);refine AR.nil [0,6] rfl ?_;refine AW.cond rfl (fun h1=>?_) (fun h1=>?_)
    ·refine AW.region ?_;refine AR.step rfl rfl rfl (AO.calc' rfl ?_);refine AR.step rfl rfl rfl (AO.calc' rfl ?_);refine AR.step rfl rfl rfl (AO.aav (i:=1) (n:=1) rfl K6 Wp hj1 hj2 rfl rfl rfl ?_);refine AR.step rfl rfl rfl (AO.YU rfl rfl rfl rfl Tryz.func96 (by kernel_rfl) (by kernel_rfl) (by kernel_rfl) (by kernel_rfl) rfl ?_);refine AR.step rfl rfl rfl (AO.Xp (i:=1) rfl Wp K6 hj1 rfl rfl rfl ao4 ?_);refine AR.step rfl rfl rfl (AO.nilCheck rfl rfl ?_);refine AR.step rfl rfl rfl (AO.bR rfl rfl CV ?_);refine AR.bW rfl rfl (AO.rZ (i:=1) rfl rfl rfl MG rfl rfl rfl rfl rfl ?_);refine AR.nil [] rfl ?_;exact⟨rfl,[],rfl,_,List.Sublist.refl _,h⟩
    ·cases h1
  · skip
    refine AC.jZ 20 [] [0] Tryz.func60 rfl rfl rfl rfl rfl ?_;refine AW.seq ?_;refine AW.region ?_;refine AR.step rfl rfl rfl (AO.calc' rfl ?_);refine AR.step rfl rfl rfl (AO.nilCheck rfl rfl ?_);refine AR.step rfl rfl rfl (AO.bR rfl rfl CV ?_);refine AR.step rfl rfl rfl (AO.jP (i:=1) rfl rfl rfl MG rfl rfl ?_);refine AR.step rfl rfl rfl (AO.Qy rfl K6 rfl rfl ?_);refine AR.nil [0,6] rfl ?_;refine AW.cond rfl (fun h1=>?_) (fun h1=>?_)
    ·cases h1
    · refine AW.seq ?_;refine AW.region ?_;refine AR.step rfl rfl rfl (AO.calc' rfl ?_);refine AR.step rfl rfl rfl (AO.nilCheck rfl rfl ?_);refine AR.step rfl rfl rfl (AO.bR rfl rfl CV ?_);refine AR.step rfl rfl rfl (AO.jP (i:=1) rfl rfl rfl MG rfl rfl ?_);refine AR.step rfl rfl rfl (AO.calc' rfl ?_);refine AR.step rfl rfl rfl (AO.M5 rfl K6 hj1 rfl rfl ?_);refine AR.nil [19] rfl ?_;refine AW.cond rfl (fun h2=>?_) (fun h2=>?_)
      ·cases h2
      ·refine AW.skip ?_;exact⟨rfl,[],rfl,_,List.Sublist.refl _,h⟩
theorem J8{b:Nat}{q:PV}{v p:Value}{bs r:List UInt8}(hp:p=Value.pointer none∨p=.pointer (some ⟨b,1,none⟩))(hroom:roomy v=true){c:UInt8}(hv:app bs [c]=some r){R:dN→List aS→Prop}(h:∀v',roomy v'=true→R (.ret (.val .nilIface)) [.row v' (List.length r) 1 5,.lU b 74 [q,.val (.pointer (some ⟨b,1,none⟩)),.own v' (List.map f_ r)]]):AC Tryz.prog 28 [.val (.pointer (some ⟨b,1,none⟩)),.int .u8 (c.toNat:Int)] [.row v (List.length bs) 1 5,.lU b 74 [q,.val p,.own v (List.map f_ bs)]] R:=by
  refine AC.jZ 17 [.tmp 4] [0,1] Tryz.func28 rfl rfl rfl rfl rfl ?_;refine AW.seq ?_;refine AW.region ?_;refine AR.step rfl rfl rfl (AO.calc' rfl ?_);refine AR.nil [0,1] rfl ?_;refine AW.seq ?_;refine AW.region ?_;refine AR.step rfl rfl rfl (AO.calc' rfl ?_);refine AR.step rfl rfl rfl (AO.call rfl _ rfl rfl aga (Ti hp ?_));refine AR.nil [0,1] rfl ?_;refine AW.seq ?_;refine AW.region ?_;refine AR.step rfl rfl rfl (AO.calc' rfl ?_);refine AR.step rfl rfl rfl (AO.calc' rfl ?_);refine AR.step rfl rfl rfl (AO.nilCheck rfl rfl ?_);refine AR.step rfl rfl rfl (AO.bR rfl rfl vZ ?_);refine AR.step rfl rfl rfl (AO.jP (i:=1) rfl rfl rfl F4 rfl rfl ?_);refine AR.step rfl rfl rfl (AO.calc' rfl ?_);refine AR.step rfl rfl rfl (AO.buildSlice rfl EL rfl rfl rfl ?_);refine AR.step rfl rfl rfl (AO.O1 (i:=0) hv rfl rfl rfl rfl rfl (Ls.list rfl VK (by simp[f_]) (by simp[f_,PV.one])) rfl EL (fun v' s1 hs1 hr1=>?_));cases hs1;refine AR.step rfl rfl rfl (AO.nilCheck rfl rfl ?_);refine AR.step rfl rfl rfl (AO.bR rfl rfl vZ ?_);refine AR.bW rfl rfl (AO.rZ (i:=1) rfl rfl rfl F4 rfl rfl rfl rfl rfl ?_);refine AR.nil [1] rfl ?_;refine AW.seq ?_;refine AW.region ?_;refine AR.step rfl rfl rfl (AO.calc' rfl ?_);refine AR.nil [4] rfl ?_;refine AW.ret ?_;exact⟨rfl,_,⟨_,_,rfl,rfl,rfl⟩,_,List.Sublist.refl _,h v' (hr1 hroom)⟩
theorem ahv{b:Nat}{q:PV}{v p:Value}{bs:List UInt8}{R:dN→List aS→Prop}(h:R (.ret (.int .i64 (bs.length:Int))) [.row v (List.length bs) 1 5,.lU b 74 [q,.val p,.own v (List.map f_ bs)]]):AC Tryz.prog 43 [.val (.pointer (some ⟨b,1,none⟩))] [.row v (List.length bs) 1 5,.lU b 74 [q,.val p,.own v (List.map f_ bs)]] R:=by
  refine AC.jZ 8 [.tmp 2] [0] Tryz.func43 rfl rfl rfl rfl rfl ?_;refine AW.seq ?_;refine AW.region ?_;refine AR.step rfl rfl rfl (AO.calc' rfl ?_);refine AR.nil [0] rfl ?_;refine AW.seq ?_;refine AW.region ?_;refine AR.step rfl rfl rfl (AO.calc' rfl ?_);refine AR.step rfl rfl rfl (AO.nilCheck rfl rfl ?_);refine AR.step rfl rfl rfl (AO.bR rfl rfl vZ ?_);refine AR.step rfl rfl rfl (AO.jP (i:=1) rfl rfl rfl F4 rfl rfl ?_);refine AR.step rfl rfl rfl (AO.fQ (l:=bs) rfl rfl rfl rfl VK rfl rfl ?_);refine AR.step rfl rfl rfl (AO.calc' rfl ?_);refine AR.nil [2] rfl ?_;refine AW.ret ?_;exact⟨rfl,_,⟨_,_,rfl,rfl,rfl⟩,_,List.Sublist.refl _,h⟩
theorem ZA{b:Nat}{q:PV}{v p:Value}{bs:List UInt8}(hroom:roomy v=true){R:dN→List aS→Prop}(h:R (.ret (.str bs)) [.lU b 74 [q,.val p,.own v (List.map f_ bs)]]):AC Tryz.prog 39 [.val (.pointer (some ⟨b,1,none⟩))] [.row v (List.length bs) 1 5,.lU b 74 [q,.val p,.own v (List.map f_ bs)]] R:=by
  refine AC.jZ 14 [.tmp 2] [0] Tryz.func39 rfl rfl rfl rfl rfl ?_;refine AW.seq ?_;refine AW.region ?_;refine AR.step rfl rfl rfl (AO.calc' rfl ?_);refine AR.nil [0] rfl ?_;refine AW.seq ?_;refine AW.draw 10 mixed (by kernel_rfl) rfl ?_;refine Ev.cons rfl rfl rfl (AO.calc' rfl ⟨rfl,rfl⟩) ?_;refine Ev.cons rfl rfl rfl (AO.nilCheck rfl rfl ⟨rfl,rfl⟩) ?_;refine Ev.cons rfl rfl rfl (AO.bR rfl rfl vZ ⟨rfl,rfl⟩) ?_;refine Ev.cons rfl rfl rfl (AO.jP (i:=1) rfl rfl rfl F4 rfl rfl ⟨rfl,rfl⟩) ?_;refine Ev.cons rfl rfl rfl (AO.sliceData rfl rfl rfl rfl hroom ⟨rfl,rfl⟩) ?_;refine Ev.cons rfl rfl rfl (AO.calc' rfl ⟨rfl,rfl⟩) ?_;refine Ev.cons rfl rfl rfl (AO.nilCheck rfl rfl ⟨rfl,rfl⟩) ?_;refine Ev.cons rfl rfl rfl (AO.bR rfl rfl vZ ⟨rfl,rfl⟩) ?_;refine Ev.cons rfl rfl rfl (AO.jP (i:=1) rfl rfl rfl F4 rfl rfl ⟨rfl,rfl⟩) ?_;refine Ev.cons rfl rfl rfl (AO.fQ (l:=bs) rfl rfl rfl rfl VK rfl rfl ⟨rfl,rfl⟩) ?_;refine Ev.nil ?_;show AR _ _ _ _ _ _ _ _;refine AR.step rfl rfl rfl (AO.Uj rfl rfl rfl rfl afv apC rfl rfl rfl ?_);refine AR.step rfl rfl rfl (AO.calc' rfl ?_);refine AR.nil [2] rfl ?_;refine AW.ret ?_;exact⟨rfl,_,⟨_,_,rfl,rfl,rfl⟩,_,List.Sublist.refl _,h⟩
theorem Tj{b:Nat}{q:PV}{v p:Value}{bs:List UInt8}{R:dN→List aS→Prop}(h:R (.ret (.tuple [])) [.lU b 74 [q,.val (.pointer none),.own (.slice none 0 0) (List.map f_ [])]]):AC Tryz.prog 65 [.val (.pointer (some ⟨b,1,none⟩))] [.lU b 74 [q,.val p,.own v (List.map f_ bs)]] R:=by
  refine AC.jZ 8 [] [0] Tryz.func65 rfl rfl rfl rfl rfl ?_;refine AW.seq ?_;refine AW.region ?_;refine AR.step rfl rfl rfl (AO.calc' rfl ?_);refine AR.step rfl rfl rfl (AO.nilCheck rfl rfl ?_);refine AR.step rfl rfl rfl (AO.bR rfl rfl CV ?_);refine AR.bW rfl rfl (AO.rZ (i:=0) rfl rfl rfl MG rfl rfl rfl rfl rfl ?_);refine AR.nil [0] rfl ?_;refine AW.region ?_;refine AR.step rfl rfl rfl (AO.calc' rfl ?_);refine AR.step rfl rfl rfl (AO.nilCheck rfl rfl ?_);refine AR.step rfl rfl rfl (AO.bR rfl rfl vZ ?_);refine AR.bW rfl rfl (AO.rZ (i:=0) rfl rfl rfl F4 rfl rfl rfl rfl rfl ?_);refine AR.nil [] rfl ?_;exact⟨rfl,[],rfl,_,List.Sublist.refl _,h⟩
instance TR:CT Tryz.prog (Ni) (fun r=>.ret (.str r)) 26 []:=by
  unfold Ni;exact Z1 ⟨3,[],[]⟩ Z Tryz.func26 Z Z Z Z
instance Uf(s1:Str)(zq:Str):CT Tryz.prog (nE s1 zq) (fun r=>.ret (.bool r)) 59 [.str s1,.str zq]:=by
  unfold nE;exact Z1 ⟨18,[],[]⟩ Z Tryz.func59 Z Z Z Z
instance Cr(s1:Str)(zq:Str):CT Tryz.prog (strings_HasPrefix s1 zq) (fun r=>.ret (.bool r)) 27 [.str s1,.str zq]:=by
  unfold strings_HasPrefix;exact Z1 ⟨8,[],[]⟩ Z Tryz.func27 Z Z Z Z
instance (s1 :Str) (n_ fF):LE (mG s1 n_ fF) (fun j p=>mG s1 j p) n_ fF [] [] [] [0] (fun v w p=>[(5,iP p)]) (fun v w p s=>s):=⟨Z⟩
instance ae6(s1:Str)(bV:Int):CT Tryz.prog (Bb s1 bV) (fun r=>.ret (iP r)) 61 [.str s1,iP bV]:=by
  unfold Bb;exact Z1 ⟨27,[],[]⟩ Z Tryz.func61 Z Z Z Z
instance (s1 :Str) (n_ fF mM):LE (ig s1 n_ fF mM) (fun j p=>ig s1 j p.1 p.2) n_ (fF,mM) [] [] [] [0] (fun v w p=>[(1,iP p.1),(5,iP p.2)]) (fun v w p s=>s):=⟨Z⟩
instance Pd(s1:Str)(bV:Int):CT Tryz.prog (zL s1 bV) (fun r=>.ret (iP r)) 29 [.str s1,iP bV]:=by
  unfold zL;exact Z1 ⟨31,[],[]⟩ Z Tryz.func29 Z Z Z Z
instance Pb(qb:Int):CT Tryz.prog (zK qb) (fun r=>.ret (.bool r)) 97 [.int .i32 qb]:=by
  unfold zK;exact Z1 ⟨9,[],[]⟩ Z Tryz.func97 Z Z Z Z
instance (s1 :Str) (zY:UInt8→Option Bool) (n_ fF):LE (ru s1 zY n_ fF) (fun j p=>ru s1 zY j p) n_ fF [] [] [] [0,2] (fun v w p=>[(1,iP p)]) (fun v w p s=>s):=⟨Z⟩
instance aiV(s1:Str)(bV:Int)(zY:UInt8→Option Bool){Il:FuncId}{KO:List PV}[ap9:CF1 Tryz.prog zY (fun a0=>.int .u8 (a0.toNat:Int)) (fun b0=>.ret (.bool b0)) Il KO]:CT Tryz.prog (uV s1 bV zY) (fun r=>.ret (iP r)) 98 [.str s1,iP bV,.fn Il KO]:=by
  unfold uV;exact Z1 ⟨21,[],[]⟩ Z Tryz.func98 Z Z Z Z
theorem UC(s1:Str)(bV:Int)(zY:UInt8→Option Bool)(Il:FuncId)(KO:List PV)(akf:dx Tryz.prog Il=true)(akg:∀a0 b0,zY a0=some b0→∀ {τ:List aS} {Q:dN→List aS→Prop},Q (.ret (.bool b0)) τ→AC Tryz.prog Il ([.int .u8 (a0.toNat:Int)]++KO) τ Q){r0:Int}(hf:uV s1 bV zY=some r0){τ:List aS}{Q:dN→List aS→Prop}(h:Q (.ret (iP r0)) τ):AC Tryz.prog 98 [.str s1,iP bV,.fn Il KO] τ Q:=letI:CF1 Tryz.prog zY (fun a0=>.int .u8 (a0.toNat:Int)) (fun b0=>.ret (.bool b0)) Il KO:=⟨fun a=>⟨akf,fun {r} hx {τ Q} h=>akg a r hx h⟩⟩;CT.h hf h
instance GY(c1:UInt8):CT Tryz.prog (rA c1) (fun r=>.ret (.bool r)) 99 [.int .u8 (c1.toNat:Int)]:=by
  unfold rA;exact Z1 ⟨5,[],[]⟩ Z Tryz.func99 Z Z Z Z
instance : CF1 Tryz.prog rA (fun c1=>.int .u8 (c1.toNat:Int)) (fun r=>.ret (.bool r)) 99 []:=⟨fun x0=>GY x0⟩
instance ahY(c1:UInt8):CT Tryz.prog (sI c1) (fun r=>.ret (.bool r)) 166 [.int .u8 (c1.toNat:Int)]:=by
  unfold sI;exact Z1 ⟨21,[],[]⟩ Z Tryz.func166 Z Z Z Z
instance UW(c1:UInt8):CT Tryz.prog (rU c1) (fun r=>.ret (.bool r)) 168 [.int .u8 (c1.toNat:Int)]:=by
  unfold rU;exact Z1 ⟨9,[],[]⟩ Z Tryz.func168 Z Z Z Z
instance : CF1 Tryz.prog rU (fun c1=>.int .u8 (c1.toNat:Int)) (fun r=>.ret (.bool r)) 168 []:=⟨fun x0=>UW x0⟩
instance TQ(c1:UInt8):CT Tryz.prog (vV c1) (fun r=>.ret (.bool r)) 240 [.int .u8 (c1.toNat:Int)]:=by
  unfold vV;exact Z1 ⟨9,[],[]⟩ Z Tryz.func240 Z Z Z Z
instance : CF1 Tryz.prog vV (fun c1=>.int .u8 (c1.toNat:Int)) (fun r=>.ret (.bool r)) 240 []:=⟨fun x0=>TQ x0⟩
instance akQ(bn:Str)(bV:Int):CT Tryz.prog (El bn bV) (fun r=>.ret (.tuple [.agg (oO r.1),iP r.2.1,iP r.2.2])) 167 [.str bn,iP bV]:=by
  unfold El;exact Z1 ⟨23,[],[]⟩ Z Tryz.func167 Z Z Z Z
instance (zW :Str) (n_ fF mM):LE (rz zW n_ fF mM) (fun j p=>rz zW j p.1 p.2) n_ (fF,mM) [] [] [] [0] (fun v w p=>[(3,iP p.1),(4,iP p.2)]) (fun v w p s=>s):=⟨Z⟩
instance aiW(zW:Str):CT Tryz.prog (E_ zW) (fun r=>.ret (.bool r)) 241 [.str zW]:=by
  unfold E_;exact Z1 ⟨25,[],[]⟩ Z Tryz.func241 Z Z Z Z
instance ahX(bn:Str)(bV:Int):CT Tryz.prog (zJ bn bV) (fun r=>.ret (.tuple [.agg (oO r.1),iP r.2.1,iP r.2.2])) 169 [.str bn,iP bV]:=by
  unfold zJ;exact Z1 ⟨44,[],[]⟩ Z Tryz.func169 Z Z Z Z
instance al8(c1:UInt8):CT Tryz.prog (vW c1) (fun r=>.ret (iP r)) 310 [.int .u8 (c1.toNat:Int)]:=by
  unfold vW;exact Z1 ⟨31,[],[]⟩ Z Tryz.func310 Z Z Z Z
instance Ql(bn:Str)(bV:Int):CT Tryz.prog (wW bn bV) (fun r=>.ret (.tuple [.int .u8 (r.1.toNat:Int),iP r.2])) 242 [.str bn,iP bV]:=by
  unfold wW;exact Z1 ⟨61,[],[]⟩ Z Tryz.func242 Z Z Z Z
instance UU(bn:Str)(bV:Int):CT Tryz.prog (BP bn bV) (fun r=>.ret (.bool r)) 243 [.str bn,iP bV]:=by
  unfold BP;exact Z1 ⟨32,[],[]⟩ Z Tryz.func243 Z Z Z Z
instance akP(bn:Str)(bV:Int):CT Tryz.prog (Ej bn bV) (fun r=>.ret (.tuple [.agg (oO r.1),iP r.2.1,iP r.2.2])) 170 [.str bn,iP bV]:=⟨zP rfl,fun {r} hf {τ Q} h=>by
 obtain⟨r0,r1,r2⟩:=r;unfold Ej at hf;refine BN 68 [.cell 4 116,.tmp 5,.tmp 6] [0,1] Tryz.func170 Z Z Z Z Z (W 0 Z (AS Z (AO.bM Z afh (fun b4=>(U 2 Z (AS Z (AO.GR (eu:=5) Z X4 Z (fun b7=>(J 3 Z (LK3 (fun i1 b1 v1=>[(0,.str bn),(1,iP bV),(4,pP b4),(7,pP b7),(8,iP i1)]) (fun i1 b1 v1=>[.Mf b7 v1 72 5 b1,.box b4 [iP 0,.str ([]:Str),iP 0]]) (fun dW i1 b1 v1=>qF bn bV dW i1 b1=some (r0,r1,r2)) BIG (bq (bV+1)) [] (.slice none 0 0) Z Z hf (fun _ _ _ hz=>kI hz) ?_))))))))));intro dW i1 b1 v1 hf;rw[qF]at hf;refine W 2 Z (AS Z (AO.qM Z Z Z Z mq Z (J 1 Z (C hf Z (fun h1 hf=>?_) fun h1 hf=>?_))))
 ·refine B1 hf fun c1 h2 hf=>W 2 Z (AS Z (AO.ou h2 Z mq Z Z (J 4 Z (C hf Z (fun h3 hf=>?_) fun h3 hf=>?_))))
  ·refine W 0 Z (CL Z (AC.one 0 Z (VX ⟨_,Z,(J 1 Z (C hf Z (fun h4 hf=>?_) fun h4 hf=>?_))⟩)))
   ·cases hf;exact Wx 4 [1] Z Z (ZC [1] Z Z h)
   refine W 0 Z (CL Z (AC.M7 0 Z (z_ ?_)));cases hf;exact Rx 7 [0] Z Z (ZC [0] Z Z h)
  refine V 3 Z (C hf Z (fun h5 hf=>?_) fun h5 hf=>?_)
  ·cases hf;exact Wx 4 [1] Z Z (ZC [1] Z Z h)
  refine V 3 Z (C hf Z (fun h6 hf=>?_) fun h6 hf=>?_)
  ·obtain⟨x1,n1,h7,hf⟩:=gL hf;refine W 2 Z (CL Z ((Ql _ _).h h7 ?_));refine B1 hf fun b2 h9 hf=>U 8 Z (AR.tu 4 52 56 true [0,1,4,7,8,10,11] b2 Z Z (fun h8=>?_) (fun h8=>?_) ?_)
   ·refine IT 52 h8 h9 Z fun h9=>?_;refine BR h9 fun x2 h10 h9=>?_;refine U 2 Z (GO Z (AO.call Z _ Z Z amD ((UU _ _).h h10 ?_)));cases h9;exact uG 1 Z (En [56,0,1,4,7,8,10,11] Z)
   ·refine IF 52 h8 h9 Z fun h9=>?_;cases h9;exact uG 4 Z (En [56,0,1,4,7,8,10,11] Z)
   refine J 1 Z (C hf Z (fun h11 hf=>?_) fun h11 hf=>?_)
   ·cases hf;exact Wx 4 [1] Z Z (ZC [1] Z Z h)
   refine V 3 Z (C hf Z (fun h12 hf=>?_) fun h12 hf=>?_)
   ·cases hf;exact Wx 4 [1] Z Z (ZC [1] Z Z h)
   refine B1 hf fun b3 KY hf=>W 1 Z (CL Z (AC.one 0 Z (jf KY (fun v2=>⟨_,Z,?_⟩))));exact N 4 Z ⟨(bq (i1+n1)),b3,v2,Z,Z,Z,hf⟩
  refine B1 hf fun b4 I6 hf=>W 1 Z (CL Z (AC.one 0 Z (jf I6 (fun v3=>⟨_,Z,?_⟩))));exact N 3 Z ⟨(bq (i1+1)),b4,v3,Z,Z,Z,hf⟩
 cases hf;exact Wx 4 [1] Z Z (ZC [1] Z Z h)⟩
instance (bn :Str) (bV:Int) (n_ fF):LE (jm bn bV n_ fF) (fun j p=>jm bn bV j p) n_ fF [] [] [] [0,1,4,10,11] (fun v w p=>[(12,iP p)]) (fun v w p s=>s):=⟨Z⟩
instance aeE(bn:Str)(bV:Int):CT Tryz.prog (uW bn bV) (fun r=>.ret (.tuple [.agg (oO r.1),iP r.2.1,iP r.2.2])) 171 [.str bn,iP bV]:=by
  unfold uW;exact Z1 ⟨63,[],[]⟩ Z Tryz.func171 Z Z Z Z
instance UR(bn:Str)(bV:Int):CT Tryz.prog (BO bn bV) (fun r=>.ret (.tuple [.agg (oO r.1),iP r.2.1,iP r.2.2])) 100 [.str bn,iP bV]:=by
  unfold BO;exact Z1 ⟨44,[],[]⟩ Z Tryz.func100 Z Z Z Z
instance O_(op1:Str)(iG:Int):CT Tryz.prog (uX op1 iG) (fun r=>.ret (iP r)) 101 [.str op1,iP iG]:=by
  unfold uX;exact Z1 ⟨18,[],[]⟩ Z Tryz.func101 Z Z Z Z
instance ahZ(bn:Str):CT Tryz.prog (om bn) (fun r=>.ret (.tuple [.list (List.map ay.cells r.1),iP r.2.1,iP r.2.2])) 62 [.str bn]:=⟨zP rfl,fun {r} hf {τ Q} h=>by
 obtain⟨r0,r1,r2⟩:=r;unfold om at hf;refine BN 84 [.tmp 2,.tmp 3,.tmp 4] [0] Tryz.func62 Z Z Z Z Z (W 0 Z (AS Z (AO.jV Z Z (U 3 Z (AS Z (AO.qM Z Z Z Z mq Z (J 1 Z (C hf Z (fun h1 hf=>?_) fun h1 hf=>?_))))))))
 ·refine W 0 Z (AS Z (AO.jV Z Z ?_));cases hf;exact N 2 Z (Y Z h)
 refine W 5 Z (AS Z (AO.ady Z mq Z (fun ao_=>(J 0 Z (AW.row 3 116 (LK5 (fun bK v1 kN iG pos1=>[(0,.str bn),(5,.own v1 (List.map ay.cells bK)),(6,.fn 97 []),(7,iP kN),(8,iP iG),(18,pP ao_)]) (fun bK v1 kN iG pos1=>[.row v1 (List.map ay.cells bK).length 3 116,.obj ao_ (.stringIter ⟨List.toArray bn⟩ pos1)]) (fun dW bK v1 kN iG pos1=>je bn dW bK kN iG pos1=some (r0,r1,r2)) BIG [] (.slice none 0 0) 0 0 0 Z Z hf (fun _ _ _ _ _ hz=>kI hz) ?_))))));intro dW bK v1 kN iG pos1 hf;rw[je]at hf;rcases Bool.eq_false_or_eq_true (decide (pos1<bn.length))with h2|h2
 ·replace hf:=kX h2 hf;refine W 0 Z (AS Z (AO.agE (i:=1) Z Z Z h2 (J 1 Z (AW.cond Z (fun h3=>?_) (fun h3=>?_)))))
  ·refine B1 hf fun b1 h5 hf=>W 8 Z (AR.tu 4 26 30 false [0,5,6,7,8,9,10,18] b1 Z Z (fun h4=>?_) (fun h4=>?_) ?_)
   ·refine IF 26 h4 h5 Z fun h5=>?_;refine BR h5 fun x1 h6 h5=>?_;refine U 2 Z (GO Z (AO.call Z _ Z Z aoH ((Pb _).h h6 ?_)));cases h5;exact uG 1 Z (En [30,0,5,6,7,8,9,10,18] Z)
   ·refine IT 26 h4 h5 Z fun h5=>?_;cases h5;exact uG 4 Z (En [30,0,5,6,7,8,9,10,18] Z)
   refine J 0 Z (C hf Z (fun h7 hf=>?_) fun h7 hf=>?_)
   ·exact M 0 Z ⟨bK,v1,kN,iG,(pos1+(dec bn pos1).2),Z,Z,Z,hf⟩
   refine V 2 Z (C hf Z (fun h8 hf=>?_) fun h8 hf=>?_)
   ·refine B1 hf fun Gv h9 hf=>W 2 Z (CL Z (UC _ _ rA 99 [] aoG (fun _ _ hz=>(GY _).h hz) h9 ?_));exact N 1 Z ⟨bK,v1,Gv,iG,(pos1+(dec bn pos1).2),Z,Z,Z,hf⟩
   refine V 2 Z (C hf Z (fun h10 hf=>?_) fun h10 hf=>?_)
   ·refine B1 hf fun b2 h12 hf=>W 3 Z (AR.tu 14 40 54 true [0,5,6,7,8,9,18] b2 Z Z (fun h11=>?_) (fun h11=>?_) ?_)
    ·replace h12:=kX h11 h12;refine Is 40 h11 Z (U 1 Z (GO Z (AO.fQ (l:=bK) Z Z Z Z OI Z Z ?_)));refine BR h12 fun b3 I6 h12=>?_;refine U 2 Z (AR.tu 9 44 53 false [0,5,6,7,8,9,18,40] b3 Z Z (fun KY=>?_) (fun KY=>?_) ?_)
     ·replace I6:=kE KY I6;refine Is 44 KY Z (U 2 Z (GO Z (AO.fQ (l:=bK) Z Z Z Z OI Z Z ?_)));refine B1 I6 fun e1 LX I6=>U 1 Z (GO Z (AO.dV LX Z Z Z Z OI (ay.aT _) Z ?_));cases I6;exact uG 4 Z (En [53,0,5,6,7,8,9,18,40] Z)
     ·refine IT 44 KY I6 Z fun I6=>?_;cases I6;exact uG 9 Z (En [53,0,5,6,7,8,9,18,40] Z)
     cases h12;exact uG 1 Z (En [54,0,5,6,7,8,9,18] Z)
    ·refine IF 40 h11 h12 Z fun h12=>?_;cases h12;exact uG 14 Z (En [54,0,5,6,7,8,9,18] Z)
    refine J 0 Z (C hf Z (fun h16 hf=>?_) fun h16 hf=>?_)
    ·refine W 3 rfl (AS rfl (AO.fu (List.map ay.cells [(ay.mk 5 ([]:Str) (pos1:Int))]) rfl Od rfl rfl rfl (by first|rfl|simp only[List.map,ay.aT]) ?_));refine B1 hf fun yQ h17 hf=>AS Z (AO.sO (i:=0) (l:=bK) (m:=[(ay.mk 5 ([]:Str) (pos1:Int))]) h17 Z Z Z Z Z Z Z Od OI Z Z Z (ay.dL) (ay.cells_one) (by decide) (fun v2 s1 hs1=>?_));cases hs1;exact N 1 Z ⟨yQ,v2,kN,iG,(pos1+(dec bn pos1).2),Z,Z,Z,hf⟩
    exact M 0 Z ⟨bK,v1,kN,iG,(pos1+(dec bn pos1).2),Z,Z,Z,hf⟩
   obtain⟨x2,tK,e2,h18,hf⟩:=uf hf;refine W 2 Z (CL Z ((UR _ _).h h18 (U 4 Z (AS Z (AO.bM Z afh (fun b11=>(Rw 5 [0] Z Z (C hf Z (fun h19 hf=>?_) fun h19 hf=>?_))))))))
   ·refine W 2 Z (AS Z (AO.jV Z Z ?_));cases hf;exact N 2 Z (Y Z h)
   refine Ww 3 [0] Z Z (C hf Z (fun h20 hf=>?_) fun h20 hf=>?_)
   ·refine B1 hf fun YS h21 hf=>Wr 3 [0] rfl rfl (CL rfl ((O_ _ _).h h21 (Rr 3 [0] rfl rfl (AS rfl (AO.fu (List.map ay.cells [x2]) rfl Od rfl rfl rfl (by first|rfl|simp only[List.map,ay.aT]) ?_)))));refine B1 hf fun YQ h22 hf=>AS Z (AO.sO (i:=1) (l:=bK) (m:=[x2]) h22 Z Z Z Z Z Z Z Od OI Z Z Z (ay.dL) (ay.cells_one) (by decide) (fun v3 s2 hs2=>?_));cases hs2;refine uG 3 Z (AR.drop1 ?_);exact N 0 Z ⟨YQ,v3,tK,YS,(pos1+(dec bn pos1).2),Z,Z,Z,hf⟩
   refine Wr 2 [0] rfl rfl (AS rfl (AO.fu (List.map ay.cells [x2]) rfl Od rfl rfl rfl (by first|rfl|simp only[List.map,ay.aT]) ?_));refine B1 hf fun agt h23 hf=>AS Z (AO.sO (i:=1) (l:=bK) (m:=[x2]) h23 Z Z Z Z Z Z Z Od OI Z Z Z (ay.dL) (ay.cells_one) (by decide) (fun v4 s3 hs3=>?_));cases hs3;refine uG 3 Z (AR.drop1 ?_);exact N 0 Z ⟨agt,v4,tK,iG,(pos1+(dec bn pos1).2),Z,Z,Z,hf⟩
  cases h3
 replace hf:=kE h2 hf;refine W 0 Z (AS Z (AO.adM (i:=1) Z Z Z h2 (J 1 Z (AW.cond Z (fun Zd=>?_) (fun Zd=>?_)))))
 ·cases Zd
 cases hf;exact M 4 Z (Y Z h)⟩
instance ae5(c1:UInt8):CT Tryz.prog (wT c1) (fun r=>.ret (.bool r)) 388 [.int .u8 (c1.toNat:Int)]:=by
  unfold wT;exact Z1 ⟨21,[],[]⟩ Z Tryz.func388 Z Z Z Z
instance TL(c1:UInt8):CT Tryz.prog (oh c1) (fun r=>.ret (.bool r)) 389 [.int .u8 (c1.toNat:Int)]:=by
  unfold oh;exact Z1 ⟨9,[],[]⟩ Z Tryz.func389 Z Z Z Z
instance (s1 :Str) (n_ fF):LE (qY s1 n_ fF) (fun j p=>qY s1 j p) n_ fF [] [] [] [0] (fun v w p=>[(3,iP p)]) (fun v w p s=>s):=⟨Z⟩
instance aiT(s1:Str):CT Tryz.prog (yK s1) (fun r=>.ret (.bool r)) 354 [.str s1]:=by
  unfold yK;exact Z1 ⟨36,[],[]⟩ Z Tryz.func354 Z Z Z Z
section
variable [Dj]
def adW:Go.Shelf.Ren:=⟨fun|171=>203|243=>277|246=>336|283=>374|284=>375|285=>376|286=>377|129=>297|317=>404|318=>405|319=>406|320=>407|337=>428|338=>429|n=>n,fun|3=>3|9=>9|2=>2|4=>4|171=>310|0=>0|53=>271|37=>68|5=>5|173=>312|212=>334|51=>269|20=>20|213=>335|46=>218|232=>358|233=>359|n=>n,fun|17=>3|18=>4|19=>5|n=>n⟩
theorem ao9:Go.Proofs.LaysM.n171 Tryz.prog adW:=by repeat' first|(intros;kernel_rfl)|constructor|decide
instance TH(n1:Int):CT Tryz.prog (strconv_Itoa n1) (fun r=>.ret (.str r)) 203 [iP n1]:=⟨zP rfl,fun {r0} hf {τ Q} h=>by
 unfold strconv_Itoa at hf;split at hf
 case isFalse=>cases hf
 rename_i hg;cases hf;refine AC.none ?_
 exact AC.itoa Dj.hD ao9 hg.1 hg.2 Dj.pow h⟩
end
section
variable [Dj]
def aey:Go.Shelf.Ren:=⟨fun|172=>390|244=>415|245=>416|247=>433|279=>434|280=>435|281=>436|282=>437|287=>441|316=>442|171=>203|205=>443|321=>445|322=>446|243=>277|246=>336|283=>374|284=>375|285=>376|286=>377|129=>297|317=>404|318=>405|319=>406|320=>407|337=>428|338=>429|n=>n,fun|9=>9|3=>3|75=>77|76=>86|4=>4|5=>5|167=>350|37=>68|0=>0|85=>351|2=>2|168=>353|53=>271|175=>360|46=>218|210=>363|127=>124|145=>369|143=>367|21=>21|171=>310|173=>312|212=>334|51=>269|20=>20|213=>335|232=>358|233=>359|80=>69|n=>n,fun|15=>6|16=>7|17=>3|18=>4|19=>5|n=>n⟩
theorem apO:Go.Proofs.LaysC.n172 Tryz.prog aey:=by repeat' first|(intros;kernel_rfl)|constructor|decide
instance Ke(s1:Str):CT Tryz.prog (strconv_Atoi s1) (fun r=>.ret (.tuple [iP r.1,.err r.2])) 390 [.str s1]:=⟨zP rfl,fun {r} hf {τ Q} h=>by
 obtain⟨r0,r1⟩:=r;unfold strconv_Atoi at hf;split at hf
 case isFalse=>cases hf
 rename_i hg;cases hf;refine AC.none ?_
 exact AC.atoi Dj.hD apO hg Z Dj.syn Dj.rng h⟩
end
section
variable [Dj]
instance aeD(s1:Str):CT Tryz.prog (uT s1) (fun r=>.ret (.bool r)) 384 [.str s1]:=⟨zP rfl,fun {r0} hf {τ Q} h=>by
 unfold uT at hf;refine BN 40 [.tmp 2] [0] Tryz.func384 Z Z Z Z Z ?_;refine B1 hf fun b1 h2 hf=>W 4 Z (AR.tu 9 8 17 false [0] b1 Z Z (fun h1=>?_) (fun h1=>?_) ?_)
 ·replace h2:=kE h1 h2;refine Is 8 h1 Z (U 1 Z (GO Z (AO.qM Z Z Z Z mq Z ?_)));refine BR h2 fun b2 h4 h2=>?_;refine U 2 Z (AR.tu 4 12 16 true [0,8] b2 Z Z (fun h3=>?_) (fun h3=>?_) ?_)
  ·refine IT 12 h3 h4 Z fun h4=>?_;refine B1 h4 fun x1 h5 h4=>U 1 Z (GO Z (AO.ou h5 Z mq Z Z ?_));cases h4;exact uG 2 Z (En [16,0,8] Z)
  ·refine IF 12 h3 h4 Z fun h4=>?_;cases h4;exact uG 4 Z (En [16,0,8] Z)
  cases h2;exact uG 1 Z (En [17,0] Z)
 ·refine IT 8 h1 h2 Z fun h2=>?_;cases h2;exact uG 9 Z (En [17,0] Z)
 refine J 0 Z (C hf Z (fun h6 hf=>?_) fun h6 hf=>?_)
 ·cases hf;exact M 1 Z (Y Z h)
 refine V 1 Z (LK1 (fun i1=>[(0,.str s1),(3,iP i1)]) (fun i1=>[]) (fun dW i1=>lH s1 dW i1=some r0) BIG 0 Z Z hf (fun _ hz=>kI hz) ?_);intro dW i1 hf;rw[lH]at hf;refine W 2 Z (AS Z (AO.qM Z Z Z Z mq Z (J 1 Z (C hf Z (fun h7 hf=>?_) fun h7 hf=>?_))))
 ·refine B1 hf fun x2 h8 hf=>W 2 Z (AS Z (AO.ou h8 Z mq Z Z ?_));refine B1 hf fun x3 h9 hf=>CL Z ((TL _).h h9 (J 1 Z (C hf Z (fun h10 hf=>?_) fun h10 hf=>?_)))
  ·cases hf;exact M 1 Z (Y Z h)
  exact M 3 Z ⟨(bq (i1+1)),Z,Z,Z,hf⟩
 obtain⟨n1,SG,h11,hf⟩:=gL hf;refine W 1 Z (CL Z ((Ke _).h h11 (U 6 Z (AS Z (AO.eqNil Z alo Z Z (U 1 Z (An 3 36 39 [] (decide (n1≤9007199254740992)) Z Z Z Z ?_)))))));cases hf;exact N 1 Z (Y Z h)⟩
end
section
variable [Dj]
instance aiQ(t1:ay):CT Tryz.prog (jE t1) (fun r=>.ret (.bool r)) 351 [.agg (oO t1)]:=by
  unfold jE;exact Z1 ⟨23,[],[]⟩ Z Tryz.func351 Z Z Z Z
end
section
variable [Dj]
instance ZN(qb:au):CB Tryz.prog (jF qb) (fun r=>.ret (.agg (oO r.1))) 312 (fun p1=>[pP p1]) (aQ qb) (fun r=>(aQ r.2)):=by
  unfold jF;exact Z2 ⟨37,[],[]⟩ 0 Z Tryz.func312 Z Z (fun _=>Z) (fun _=>Z)
end
section
variable [Dj]
instance abB(qb:au)(op1:Str):CB Tryz.prog (vT qb op1) (fun r=>.ret (.bool r.1)) 313 (fun p1=>[pP p1,.str op1]) (aQ qb) (fun r=>(aQ r.2)):=by
  unfold vT;exact Z2 ⟨17,[],[]⟩ 0 Z Tryz.func313 Z Z (fun _=>Z) (fun _=>Z)
end
section
variable [Dj]
instance XQ(qb:au)(op1:Str):CB Tryz.prog (dB qb op1) (fun r=>.ret (.bool r.1)) 245 (fun p1=>[pP p1,.str op1]) (aQ qb) (fun r=>(aQ r.2)):=by
  unfold dB;exact Z2 ⟨16,[],[]⟩ 0 Z Tryz.func245 Z Z (fun _=>Z) (fun _=>Z)
end
@[reducible] def I_:fE aA Unit→dN
  | .ok r=>.ret (.tuple [])
  | .bad e=>.panic (.iface 189 (.agg (jI e)))
instance ZQ(qb:au)(e1:Int):CB Tryz.prog (gQ qb e1) (fun r=>I_ r.1) 315 (fun p1=>[pP p1,iP e1]) (aQ qb) (fun r=>(aQ r.2)):=by
  unfold gQ;exact Z2 ⟨11,[],[]⟩ 0 Z Tryz.func315 Z Z (fun _=>Z) (fun _=>Z)
section
variable [Dj]
@[reducible] def I9:fE aA ay→dN
  | .ok r=>.ret (.agg (oO r))
  | .bad e=>.panic (.iface 189 (.agg (jI e)))
instance ZO(qb:au):CB Tryz.prog (jG qb) (fun r=>I9 r.1) 314 (fun p1=>[pP p1]) (aQ qb) (fun r=>(aQ r.2)):=by
  unfold jG;exact Z2 ⟨24,[],[]⟩ 0 Z Tryz.func314 Z Z (fun _=>Z) (fun _=>Z)
end
instance aeC(v1:ah):CT Tryz.prog (qZ v1) (fun r=>.ret (.agg (aR r))) 410 [.agg (aF v1)]:=by
  unfold qZ;exact Z1 ⟨5,[],[]⟩ Z Tryz.func410 Z Z Z Z
instance aiP(s1:Str):CT Tryz.prog (qg s1) (fun r=>.ret (.bool r)) 355 [.str s1]:=by
  unfold qg;exact Z1 ⟨13,[],[]⟩ Z Tryz.func355 Z Z Z Z
section
variable [Dj]
@[reducible] def G7:fE aA Unit→dN
  | .ok r=>.ret (.tuple [])
  | .bad e=>.panic (.iface 189 (.agg (jI e)))
instance XP(qb:au)(op1:Str):CB Tryz.prog (fH qb op1) (fun r=>G7 r.1) 246 (fun p1=>[pP p1,.str op1]) (aQ qb) (fun r=>(aQ r.2)):=by
  unfold fH;exact Z2 ⟨12,[],[]⟩ 0 Z Tryz.func246 Z Z (fun _=>Z) (fun _=>Z)
end
instance ac5(op1:Str):CT Tryz.prog (fG op1) (fun r=>.ret (iP r)) 113 [.str op1]:=by
  unfold fG;exact Z1 ⟨22,[],[]⟩ Z Tryz.func113 Z Z Z Z
section
variable [Dj]
@[reducible] def lZ:fE aA aj→dN
  | .ok r=>.ret (.agg (aR r))
  | .bad e=>.panic (.iface 189 (.agg (jI e)))
@[reducible] def lY:fE aA aj→dN
  | .ok r=>.ret (.agg (aR r))
  | .bad e=>.panic (.iface 189 (.agg (jI e)))
@[reducible] def pG:fE aA aj→dN
  | .ok r=>.ret (.agg (aR r))
  | .bad e=>.panic (.iface 189 (.agg (jI e)))
@[reducible] def pI:fE aA aj→dN
  | .ok r=>.ret (.agg (aR r))
  | .bad e=>.panic (.iface 189 (.agg (jI e)))
@[reducible] def pY:fE aA aj→dN
  | .ok r=>.ret (.agg (aR r))
  | .bad e=>.panic (.iface 189 (.agg (jI e)))
@[reducible] def pX:fE aA aj→dN
  | .ok r=>.ret (.agg (aR r))
  | .bad e=>.panic (.iface 189 (.agg (jI e)))
@[reducible] def p9:fE aA (List aj)→dN
  | .ok r=>.ret (.list (aj.bP r))
  | .bad e=>.panic (.iface 189 (.agg (jI e)))
@[reducible] def nu:fE aA aj→dN
  | .ok r=>.ret (.agg (aR r))
  | .bad e=>.panic (.iface 189 (.agg (jI e)))
section
variable (aN : au → Option (fE aA aj × au)) [QI : ∀(eU : au), CB Tryz.prog (aN eU) (fun r => lZ r.1) 173 (fun DU => [pP DU]) (aQ eU) (fun r => (aQ r.2))] (aX : au → Int → Option (fE aA aj × au)) [QH : ∀(eU : au) (LB : Int), CB Tryz.prog (aX eU LB) (fun r => lY r.1) 244 (fun DU => [pP DU, iP LB]) (aQ eU) (fun r => (aQ r.2))] (bC : au → Option (fE aA aj × au)) [VG : ∀(eU : au), CB Tryz.prog (bC eU) (fun r => pG r.1) 311 (fun DU => [pP DU]) (aQ eU) (fun r => (aQ r.2))] (bG : au → Option (fE aA aj × au)) [VH : ∀(eU : au), CB Tryz.prog (bG eU) (fun r => pI r.1) 350 (fun DU => [pP DU]) (aQ eU) (fun r => (aQ r.2))] (dh : au → Option (fE aA aj × au)) [Xn : ∀(eU : au), CB Tryz.prog (dh eU) (fun r => pY r.1) 383 (fun DU => [pP DU]) (aQ eU) (fun r => (aQ r.2))] (cZ : au → Str → Option (fE aA aj × au)) [Xm : ∀(eU : au) (rR : Str), CB Tryz.prog (cZ eU rR) (fun r => pX r.1) 411 (fun DU => [pP DU, .str rR]) (aQ eU) (fun r => (aQ r.2))] (bY : au → Str → Option (fE aA (List aj) × au)) [Xo : ∀(eU : au) (DV : Str), CB Tryz.prog (bY eU DV) (fun r => p9 r.1) 412 (fun DU => [pP DU, .str DV]) (aQ eU) (fun r => (aQ r.2))] (bQ : au → Option (fE aA aj × au)) [Uc : ∀(eU : au), CB Tryz.prog (bQ eU) (fun r => nu r.1) 413 (fun DU => [pP DU]) (aQ eU) (fun r => (aQ r.2))]
instance (n1 :Int) (n_ fF mM):LE (iL aX n1 n_ fF mM) (fun j p=>iL aX n1 j p.1 p.2) n_ (fF,mM) [] [] [] [0,1,4,5] (fun v w p=>[]) (fun v w p s=>xW 2 (aQ p.2) (xW 0 (aR p.1) (s))):=⟨Z⟩
instance (n_ fF mM):LE (iV bC bG n_ fF mM) (fun j p=>iV bC bG j p.1 p.2) n_ (fF,mM) [] [] [] [0,2,5,6] (fun v w p=>[(7,iP p.1)]) (fun v w p s=>xW 1 (aQ p.2) (s)):=⟨Z⟩
instance (n_ fF mM):LE (gF aN n_ fF mM) (fun j p=>gF aN j p.1 p.2) n_ (fF,mM) [] [] [] [0,2,3] (fun v w p=>[]) (fun v w p s=>xW 2 (aQ p.2) (xW 0 (aR p.1) (s))):=⟨Z⟩
instance (tK :Str) (n_ fF mM):LE (kg aN tK n_ fF mM) (fun j p=>kg aN tK j p.1 p.2) n_ (fF,mM) [5] [] [(5,10,37)] [0,1] (fun v w p=>[(5,.own v (List.map aj.cells p.1))]) (fun v w p s=>xW 1 (aQ p.2) (putRow 0 v ((List.map aj.cells p.1).length) (s))):=⟨Z⟩
instance (n_ fF mM):LE (iA aN n_ fF mM) (fun j p=>iA aN j p.1 p.2) n_ (fF,mM) [] [(2,[8,9])] [(9999,10,37),(9999,1,9)] [0,2,3] (fun v w p=>[]) (fun v w p s=>xW 4 (aQ p.2) (xW 2 [iP p.1.kind,.str p.1.name,iP p.1.value.kind,.bool p.1.value.dD,iP p.1.value.cu,.str p.1.value.bJ,.list (ah.bP p.1.value.aP),sP p.1.value.keys,.own v (List.map aj.cells p.1.args),.own w (List.map jy p.1.keys)] (putRow 1 v ((List.map aj.cells p.1.args).length) (putRow 0 w ((List.map jy p.1.keys).length) (s))))):=⟨Z⟩
instance Df(qb:au):CB Tryz.prog (l5 aN aX bC bG dh cZ bY bQ qb) (fun r=>lZ r.1) 173 (fun p1=>[pP p1]) (aQ qb) (fun r=>(aQ r.2)):=by
  unfold l5;exact Z2 ⟨23,[],[]⟩ 0 Z Tryz.func173 Z Z (fun _=>Z) (fun _=>Z)
instance Dc(qb:au)(n1:Int):CB Tryz.prog (jU aN aX bC bG dh cZ bY bQ qb n1) (fun r=>lY r.1) 244 (fun p1=>[pP p1,iP n1]) (aQ qb) (fun r=>(aQ r.2)):=by
  unfold jU;exact Z2 ⟨47,[],[(8,0,6,8,0)]⟩ 0 Z Tryz.func244 Z Z (fun _=>Z) (fun _=>Z)
instance GU(qb:au):CB Tryz.prog (pJ aN aX bC bG dh cZ bY bQ qb) (fun r=>pG r.1) 311 (fun p1=>[pP p1]) (aQ qb) (fun r=>(aQ r.2)):=by
  unfold pJ;exact Z2 ⟨22,[],[]⟩ 0 Z Tryz.func311 Z Z (fun _=>Z) (fun _=>Z)
instance GX(qb:au):CB Tryz.prog (pK aN aX bC bG dh cZ bY bQ qb) (fun r=>pI r.1) 350 (fun p1=>[pP p1]) (aQ qb) (fun r=>(aQ r.2)):=by
  unfold pK;exact Z2 ⟨47,[],[]⟩ 0 Z Tryz.func350 Z Z (fun _=>Z) (fun _=>Z)
instance Iw(qb:au):CB Tryz.prog (qj aN aX bC bG dh cZ bY bQ qb) (fun r=>pY r.1) 383 (fun p1=>[pP p1]) (aQ qb) (fun r=>(aQ r.2)):=by
  unfold qj;exact Z2 ⟨77,[],[]⟩ 0 Z Tryz.func383 Z Z (fun _=>Z) (fun _=>Z)
instance Iu(qb:au)(s1:Str):CB Tryz.prog (qh aN aX bC bG dh cZ bY bQ qb s1) (fun r=>pX r.1) 411 (fun p1=>[pP p1,.str s1]) (aQ qb) (fun r=>(aQ r.2)):=by
  unfold qh;exact Z2 ⟨26,[],[]⟩ 0 Z Tryz.func411 Z Z (fun _=>Z) (fun _=>Z)
instance Iy(qb:au)(tK:Str):CB Tryz.prog (ql aN aX bC bG dh cZ bY bQ qb tK) (fun r=>p9 r.1) 412 (fun p1=>[pP p1,.str tK]) (aQ qb) (fun r=>(aQ r.2)):=by
  unfold ql;exact Z2 ⟨21,[],[]⟩ 0 Z Tryz.func412 Z Z (fun _=>Z) (fun _=>Z)
instance EJ(qb:au):CB Tryz.prog (nC aN aX bC bG dh cZ bY bQ qb) (fun r=>nu r.1) 413 (fun p1=>[pP p1]) (aQ qb) (fun r=>(aQ r.2)):=by
  unfold nC;exact Z2 ⟨50,[],[(10,0,3,5,0)]⟩ 0 Z Tryz.func413 Z Z (fun _=>Z) (fun _=>Z)
end
theorem fI:∀k:Nat,(∀(eU:au),CB Tryz.prog (aY k eU) (fun r=>lZ r.1) 173 (fun DU=>[pP DU]) (aQ eU) (fun r=>(aQ r.2)))∧(∀(eU:au) (LB:Int),CB Tryz.prog (bA k eU LB) (fun r=>lY r.1) 244 (fun DU=>[pP DU,iP LB]) (aQ eU) (fun r=>(aQ r.2)))∧(∀(eU:au),CB Tryz.prog (dK k eU) (fun r=>pG r.1) 311 (fun DU=>[pP DU]) (aQ eU) (fun r=>(aQ r.2)))∧(∀(eU:au),CB Tryz.prog (dZ k eU) (fun r=>pI r.1) 350 (fun DU=>[pP DU]) (aQ eU) (fun r=>(aQ r.2)))∧(∀(eU:au),CB Tryz.prog (eF k eU) (fun r=>pY r.1) 383 (fun DU=>[pP DU]) (aQ eU) (fun r=>(aQ r.2)))∧(∀(eU:au) (rR:Str),CB Tryz.prog (eY k eU rR) (fun r=>pX r.1) 411 (fun DU=>[pP DU,.str rR]) (aQ eU) (fun r=>(aQ r.2)))∧(∀(eU:au) (DV:Str),CB Tryz.prog (dP k eU DV) (fun r=>p9 r.1) 412 (fun DU=>[pP DU,.str DV]) (aQ eU) (fun r=>(aQ r.2)))∧(∀(eU:au),CB Tryz.prog (dM k eU) (fun r=>nu r.1) 413 (fun DU=>[pP DU]) (aQ eU) (fun r=>(aQ r.2)))
  | 0=>⟨fun _=>CB.none Z,fun _ _=>CB.none Z,fun _=>CB.none Z,fun _=>CB.none Z,fun _=>CB.none Z,fun _ _=>CB.none Z,fun _ _=>CB.none Z,fun _=>CB.none Z⟩
  | k+1=>by
    obtain⟨i0,i1,i2,i3,i4,i5,i6,i7⟩:=fI k;exact⟨fun eU=>Df _ _ _ _ _ _ _ _ eU,fun eU LB=>Dc _ _ _ _ _ _ _ _ eU LB,fun eU=>GU _ _ _ _ _ _ _ _ eU,fun eU=>GX _ _ _ _ _ _ _ _ eU,fun eU=>Iw _ _ _ _ _ _ _ _ eU,fun eU rR=>Iu _ _ _ _ _ _ _ _ eU rR,fun eU DV=>Iy _ _ _ _ _ _ _ _ eU DV,fun eU=>EJ _ _ _ _ _ _ _ _ eU⟩
instance wC(eU:au):CB Tryz.prog (qX eU) (fun r=>lZ r.1) 173 (fun DU=>[pP DU]) (aQ eU) (fun r=>(aQ r.2)):=(fI BIG).1 eU
instance Ud(eU:au)(LB:Int):CB Tryz.prog (Gt eU LB) (fun r=>lY r.1) 244 (fun DU=>[pP DU,iP LB]) (aQ eU) (fun r=>(aQ r.2)):=(fI BIG).2.1 eU LB
instance X0(eU:au):CB Tryz.prog (KW eU) (fun r=>pG r.1) 311 (fun DU=>[pP DU]) (aQ eU) (fun r=>(aQ r.2)):=(fI BIG).2.2.1 eU
instance X3(eU:au):CB Tryz.prog (KX eU) (fun r=>pI r.1) 350 (fun DU=>[pP DU]) (aQ eU) (fun r=>(aQ r.2)):=(fI BIG).2.2.2.1 eU
instance ZU(eU:au):CB Tryz.prog (LH eU) (fun r=>pY r.1) 383 (fun DU=>[pP DU]) (aQ eU) (fun r=>(aQ r.2)):=(fI BIG).2.2.2.2.1 eU
instance ZP(eU:au)(rR:Str):CB Tryz.prog (LG eU rR) (fun r=>pX r.1) 411 (fun DU=>[pP DU,.str rR]) (aQ eU) (fun r=>(aQ r.2)):=(fI BIG).2.2.2.2.2.1 eU rR
instance ZW(eU:au)(DV:Str):CB Tryz.prog (LJ eU DV) (fun r=>p9 r.1) 412 (fun DU=>[pP DU,.str DV]) (aQ eU) (fun r=>(aQ r.2)):=(fI BIG).2.2.2.2.2.2.1 eU DV
instance V6(eU:au):CB Tryz.prog (IY eU) (fun r=>nu r.1) 413 (fun DU=>[pP DU]) (aQ eU) (fun r=>(aQ r.2)):=(fI BIG).2.2.2.2.2.2.2 eU
end
section
variable [Dj]
instance aiR(iX:List ay):CT Tryz.prog (E8 iX) (fun r=>.ret (.tuple [.agg (aR r.1),iP r.2.1,iP r.2.2])) 102 [.list (List.map ay.cells iX)]:=⟨zP rfl,fun {r} hf {τ Q} h=>by
 obtain⟨r0,r1,r2⟩:=r;unfold E8 at hf;refine AC.none (AC.PG 17 [.cell 2 37,.cell 3 3,.cell 4 24] [0] [0,1,2] Tryz.func102 Z Z Z Z Z Tryz.func172 Z Z Z Z Z Z Z amI (AW.sr (AR.step Z Z Z (AO.bM Z K4 (fun b2=>?_)))));refine AR.step Z Z Z (AO.bM Z aol (fun b3=>(AR.step Z Z Z (AO.bM Z abL (fun b4=>(AR.nil [0,2,3,4] Z (AW.sr ?_)))))));refine cs 1 Z (AR.step Z Z Z (AO.build Z amh ajq Z (AR.step Z Z Z (AO.acY Z Z (fun b8=>(cs 1 Z ?_))))));refine AR.nil [2,3,4,5] Z (AW.sr (cs 1 Z (AR.defer (vs:=[.pointer (some ⟨b2,0,none⟩),.pointer (some ⟨b3,0,none⟩),.pointer (some ⟨b4,0,none⟩)]) Z Z Z Z Z Z ?_)));refine AR.nil [2,3,4,5] Z (AW.sr (cs 1 Z ?_));rcases Tt hf with⟨f1,s1,h1,hf⟩|⟨e1,s1,h1,hf⟩
 ·refine AR.step Z Z Z (AO.call Z _ Z Z agi (AC.one 0 Z ((wC _).h h1 _ ⟨_,Z,?_⟩)));cases hf;refine⟨[.pointer (some ⟨b2,0,none⟩),.pointer (some ⟨b3,0,none⟩),.pointer (some ⟨b4,0,none⟩)],_,Z,Z,Z,(AR.step Z Z Z (AO.ab2 Z Z ajk (cs 3 Z (AR.step Z Z Z (AO.bM Z afg (fun b5=>?_))))))⟩;refine AR.bW Z Z (AO.dS (i:=0) Z Z Z afK Z Z Z Z Z (cs 1 Z (AR.nil [0,1,2,3,4] Z (AW.sr ?_))));refine cs 1 Z (AR.nil [0,1,2,3,10] Z (AW.cond Z (fun _=>?_) (fun hh=>by cases hh)));refine AW.acK 1 5 7 [_] [_,_,_,_] mixed (by kernel_rfl) (by kernel_rfl) (by kernel_rfl) Z Z Z (List.Perm.refl _) ?_;refine Ev.cons Z Z Z (AO.build Z K4 afQ Z zg) (Ev.nil ?_);show Ev _ _ _ _ _ _ _;refine Ev.cs iy 1 Z (Ev.cons Z Z Z (AO.dX (i:=0) Z Z Z He Z Z zg) (Ev.cs iy 1 Z (Ev.cons Z Z Z (AO.dX (i:=0) Z Z Z uK Z Z zg) ?_)));refine Ev.nil (TF.bW Z Z (AO.dS (i:=3) Z Z Z yB Z Z Z Z Z (TF.bW Z Z (AO.dS (i:=2) Z Z Z He Z Z Z Z Z (TF.nil ?_)))));show AR _ _ _ _ _ _ _ _;refine AR.bW Z Z (AO.dS (i:=2) Z Z Z uK Z Z Z Z Z (AR.nil [] Z ?_));exact⟨rfl,_,⟨_,_,rfl,⟨_,_,4,_,_,rfl,rfl,yB,rfl⟩,⟨_,_,rfl,⟨_,_,3,_,_,rfl,rfl,He,rfl⟩,⟨_,_,rfl,⟨_,_,2,_,_,rfl,rfl,uK,rfl⟩,rfl⟩⟩⟩,[],asY _,h⟩
 refine AR.step Z Z Z (AO.call Z _ Z Z agi (AC.one 0 Z ((wC _).h h1 _ ⟨_,Z,?_⟩)));cases hf;refine AR.bW Z Z (AO.dS (i:=3) Z Z Z yB Z Z Z Z Z (AR.nil [2,3,4,5] Z (AW.seq (AW.alA 1 5 6 3 mixed (by kernel_rfl) (by kernel_rfl) (by kernel_rfl) Z Z Z Z ?_))));refine Ev.cons Z Z Z (AO.dX (i:=3) Z Z Z yB Z Z zg) (Ev.nil ?_);show Ev _ _ _ _ _ _ _;refine Ev.cs iy 3 Z (Ev.cons Z Z Z (AO.dX (i:=0) Z Z Z He Z Z zg) (Ev.nil (TF.bW Z Z (AO.dS (i:=0) Z Z Z yB Z Z Z Z Z ?_))));refine TF.nil ?_;show AR _ _ _ _ _ _ _ _;refine AR.bW Z Z (AO.dS (i:=2) Z Z Z He Z Z Z Z Z (AR.bW Z Z (AO.dS (i:=1) Z Z Z uK Z Z Z Z Z (AR.nil [2,3,4] Z (AW.ret ?_)))));refine⟨[.pointer (some ⟨b2,0,none⟩),.pointer (some ⟨b3,0,none⟩),.pointer (some ⟨b4,0,none⟩)],_,Z,Z,Z,(AR.step Z Z Z (AO.Yq (p:=.agg [iP 0,iP 0]) Z Z ajm (fun _ _=>by simp only[dA];exact⟨[.int .i64 0,.int .i64 0],Z,aU.cons (by simp[dA]) (aU.cons (by simp[dA]) aU.nil)⟩) ?_))⟩
 refine cs 3 Z (AR.step Z Z Z (AO.bM Z afg (fun b5=>(AR.bW Z Z (AO.dS (i:=0) Z Z Z afK Z Z Z Z Z (cs 1 Z ?_))))));refine AR.nil [4] Z (AW.sr (cs 1 Z (AR.nil [10] Z ?_)));refine AW.cond Z (fun hh=>by cases hh) (fun _=>?_);refine AW.skip ?_;exact⟨rfl,_,⟨_,_,rfl,⟨_,_,4,_,_,rfl,rfl,yB,rfl⟩,⟨_,_,rfl,⟨_,_,3,_,_,rfl,rfl,He,rfl⟩,⟨_,_,rfl,⟨_,_,2,_,_,rfl,rfl,uK,rfl⟩,rfl⟩⟩⟩,[],asY _,h⟩⟩
end
section
variable (kM : aj → Option Int) [ad7 : ∀(gB : aj), CT Tryz.prog (kM gB) (fun r => .ret (iP r)) 108 [.agg (aR gB)]]
instance (e1 :aj) (n_ fF mM):LE (tq kM e1 n_ fF mM) (fun j p=>tq kM e1 j p.1 p.2) n_ (fF,mM) [] [] [] [7,8] (fun v w p=>[(3,iP p.1),(9,iP p.2)]) (fun v w p s=>s):=⟨Z⟩
instance O9(e1:aj):CT Tryz.prog (zB kM e1) (fun r=>.ret (iP r)) 108 [.agg (aR e1)]:=by
  unfold zB;exact Z1 ⟨19,[],[]⟩ Z Tryz.func108 Z Z Z Z
end
theorem JG:∀k:Nat,(∀(gB:aj),CT Tryz.prog (o_ k gB) (fun r=>.ret (iP r)) 108 [.agg (aR gB)])
  | 0=>fun _=>CT.none Z
  | k+1=>by
    obtain (i0):=JG k;exact fun gB=>O9 _ gB
instance ahV(gB:aj):CT Tryz.prog (CJ gB) (fun r=>.ret (iP r)) 108 [.agg (aR gB)]:=(JG BIG) gB
instance aiO(v1:ah):CT Tryz.prog (E5 v1) (fun r=>.ret (.bool r)) 251 [.agg (aF v1)]:=by
  unfold E5;exact Z1 ⟨33,[],[]⟩ Z Tryz.func251 Z Z Z Z
instance ahP(s1:Str):CT Tryz.prog (nZ s1) (fun r=>.ret (.bool r)) 318 [.str s1]:=by
  unfold nZ;exact Z1 ⟨10,[],[]⟩ Z Tryz.func318 Z Z Z Z
instance ahR(e1:aj):CT Tryz.prog (zw e1) (fun r=>.ret (.bool r)) 252 [.agg (aR e1)]:=by
  unfold zw;exact Z1 ⟨31,[],[]⟩ Z Tryz.func252 Z Z Z Z
instance ahU(e1:aj):CT Tryz.prog (zy e1) (fun r=>.ret (.bool r)) 253 [.agg (aR e1)]:=by
  unfold zy;exact Z1 ⟨32,[],[]⟩ Z Tryz.func253 Z Z Z Z
instance (s1 :List Str) (f1:Str→Option Bool) (n_ fF):LE (gI s1 f1 n_ fF) (fun j p=>gI s1 f1 j p) n_ fF [] [] [] [0,1,7] (fun v w p=>[(8,iP p)]) (fun v w p s=>s):=⟨Z⟩
instance Mh(s1:List Str)(f1:Str→Option Bool){Z_:FuncId}{f1C:List PV}[f1I:CF1 Tryz.prog f1 (fun a0=>.str a0) (fun b0=>.ret (.bool b0)) Z_ f1C]:CT Tryz.prog (jl s1 f1) (fun r=>.ret (iP r)) 356 [sP s1,.fn Z_ f1C]:=by
  unfold jl;exact Z1 ⟨19,[],[]⟩ Z Tryz.func356 Z Z Z Z
instance KU(s1:List Str)(f1:Str→Option Bool){Z_:FuncId}{f1C:List PV}[f1I:CF1 Tryz.prog f1 (fun a0=>.str a0) (fun b0=>.ret (.bool b0)) Z_ f1C]:CT Tryz.prog (gJ s1 f1) (fun r=>.ret (.bool r)) 319 [sP s1,.fn Z_ f1C]:=by
  unfold gJ;exact Z1 ⟨9,[],[]⟩ Z Tryz.func319 Z Z Z Z
instance O8(GZ:Str):CT Tryz.prog (kC GZ) (fun r=>.ret (.bool r)) 320 [.str GZ]:=by
  unfold kC;exact Z1 ⟨11,[],[]⟩ Z Tryz.func320 Z Z Z Z
instance : CF1 Tryz.prog kC (fun GZ=>.str GZ) (fun r=>.ret (.bool r)) 320 []:=⟨fun x0=>O8 x0⟩
instance ahS(e1:aj):CT Tryz.prog (zx e1) (fun r=>.ret (.bool r)) 254 [.agg (aR e1)]:=by
  unfold zx;exact Z1 ⟨23,[],[]⟩ Z Tryz.func254 Z Z Z Z
theorem Wm{β:Type}(l:Nat)(T:β→List aS)(go:β→ah→Int→Option (Bool × β))
  (goH:∀s1 v1 bH b s2,go s1 v1 bH=some (b,s2)→∀ {Q:dN→List aS→Prop},Q (.ret (.bool b)) (T s2)→PC 197 [.agg (aF v1),iP bH,.val (.func (.yield l) #[] #[])] (T s1) Q)
  (y:β→Int→ah→Option (Bool × β)) (hy:∀s1 bH v1 b s2,y s1 bH v1=some (b,s2)→AY Tryz.prog l [iP bH,.agg (aF v1)] (T s1) (fun out σ'=>out=.ret (.bool b)∧σ'=T s2))
  (s1:β) (v1:ah) (bH:Int) {b:Bool} {s2:β} (hf:vH go y s1 v1 bH=some (b,s2)) {Q:dN→List aS→Prop} (h:Q (.ret (.bool b)) (T s2)):
  PC 197 [.agg (aF v1),iP bH,.val (.func (.yield l) #[] #[])] (T s1) Q:=by
 unfold vH at hf;refine AC.jZ 28 [.tmp 6] [0,1,2] Tryz.func197 Z Z Z Z Z (AW.sr (AR.step Z Z Z (AO.Ip Z Z Z (cs 1 Z ?_))));refine AR.nil [1,2,3] Z (AW.seq (AW.seq (AW.acd ?_)));refine G5.step Z Z Z Z (AO.calc' Z (G5.step Z Z Z Z (AO.calc' Z (G5.step Z Z Z Z (AO.Gw Z Z wP Z ?_)))));obtain⟨b1,s3,h1,hf⟩:=gL hf;refine G5.yield Z Z Z Z Z _ Z Z (hy _ _ _ _ _ h1) (G5.of Z (cs 1 Z (AR.nil [1,2,3,13] Z ?_)));refine AW.cond Z (fun h2=>?_) (fun h2=>?_)
 ·replace hf:=kX h2 hf;refine AW.sr (cs 1 Z (AR.nil [6] Z (AW.ret ?_)));cases hf;exact⟨rfl,_,⟨_,_,rfl,rfl,rfl⟩,_,List.Sublist.refl _,h⟩
 replace hf:=kE h2 hf;refine AW.skip (AW.seq (AW.sr (cs 2 Z ?_)));refine AR.step Z Z Z (AO.fQ (l:=v1.aP) Z Z Z Z IK Z ((ah.bI _)) (cs 1 Z (AR.nil [1,2,15,16,17] Z (AW.block ?_))));refine AW.amY (fun(_:β) i1=>[(1,iP bH),(2,.val (.func (.yield l) #[] #[])),(15,.list (ah.bP v1.aP)),(16,iP (v1.aP.length:Int)),(17,iP i1)]) (fun s1 _=>T s1) (fun dW s1 i1=>kY go v1 bH dW s1 i1=some (b,s2)) BIG s3 0 Z Z hf (fun _ _ hz=>kI hz) ?_;intro dW s4 i1 hf;rw[kY]at hf;refine AW.sr (cs 1 Z (AR.nil [1,2,15,16,17,18] Z (AW.seq ?_)));refine AW.cond Z (fun h1=>?_) (fun h1=>?_)
 ·replace hf:=kX h1 hf;refine AW.skip (AW.seq (AW.block (AW.sr ?_)));refine B1 hf fun x1 h3 hf=>AR.step Z Z Z (AO.dV h3 Z Z ((ah.bI _)) Z IK ((ah.aT _)) Z (cs 1 Z (AR.step Z Z Z (AO.bM Z oW (fun b8=>(AR.bW Z Z (AO.dS (i:=0) Z Z Z wP Z Z Z Z Z ?_)))))));refine AR.nil [1,2,8,15,16,17] Z (AW.sr (AR.step Z Z Z (AO.dX (i:=0) Z Z Z wP Z Z (cs 3 Z ?_))));obtain⟨b2,s5,h4,hf⟩:=gL hf;refine AR.drop1 (AR.step Z Z Z (AO.call Z _ Z Z amH (goH _ _ _ _ _ h4 (cs 1 Z (AR.nil [1,2,15,16,17,26] Z ?_)))));refine AW.cond Z (fun h5=>?_) (fun h5=>?_)
  ·replace hf:=kX h5 hf;refine AW.sr (cs 1 Z (AR.nil [6] Z (AW.ret ?_)));cases hf;exact⟨rfl,_,⟨_,_,rfl,rfl,rfl⟩,_,List.Sublist.refl _,h⟩
  replace hf:=kE h5 hf;refine AW.skip (AW.region (cs 2 Z (AR.nil [1,2,15,16,17] Z ?_)));exact⟨s5,(bq (i1+1)),Z,Z,Z,hf⟩
 replace hf:=kE h1 hf;refine AW.exit (AW.sr (cs 1 Z (AR.nil [6] Z ?_)));refine AW.ret ?_;cases hf;exact⟨rfl,_,⟨_,_,rfl,rfl,rfl⟩,_,List.Sublist.refl _,h⟩
theorem M_{β:Type}(l:Nat)(T:β→List aS)(y:β→Int→ah→Option (Bool × β))(hy:∀s1 bH v1 b s2,y s1 bH v1=some (b,s2)→AY Tryz.prog l [iP bH,.agg (aF v1)] (T s1) (fun out σ'=>out=.ret (.bool b)∧σ'=T s2)):
  ∀(k:Nat) (s1:β) (v1:ah) (bH:Int) (b:Bool) (s2:β),gD y k s1 v1 bH=some (b,s2)→∀ {Q:dN→List aS→Prop},Q (.ret (.bool b)) (T s2)→PC 197 [.agg (aF v1),iP bH,.val (.func (.yield l) #[] #[])] (T s1) Q
 | 0,_,_,_,_,_,hz=>by cases hz
 | k+1,s1,v1,bH,b,s2,hz=>fun h=>Wm l T (gD y k) (fun s1 v1 bH b s2 hz=>M_ l T y hy k s1 v1 bH b s2 hz) y hy s1 v1 bH hz h
theorem IQ{β:Type}(l:Nat)(T:β→List aS)(y:β→Int→ah→Option (Bool × β))(hy:∀s1 bH v1 b s2,y s1 bH v1=some (b,s2)→AY Tryz.prog l [iP bH,.agg (aF v1)] (T s1) (fun out σ'=>out=.ret (.bool b)∧σ'=T s2))
    (s1:β) (v1:ah) (bH:Int) {b:Bool} {s2:β} (hf:DN y s1 v1 bH=some (b,s2)) {Q:dN→List aS→Prop} (h:Q (.ret (.tuple [])) (T s2)):
    PC 196 [.val (.func (.yield l) #[] #[]),.ref (aF v1),.ref [iP bH]] (T s1) Q:=by
 refine BD 8 [] [0,1,2] Tryz.func196 Z Z Z Z Z (W 3 Z (CL Z (M_ l T y hy BIG _ _ _ _ _ hf ?_)));exact N 0 rfl ⟨rfl,_,rfl,_,List.Sublist.refl _,h⟩
theorem Li(v1:ah)(bH:Int)(h:Q (.ret (.fn 196 [.ref (aF v1),.ref [iP bH]])) τ):PC 123 [.agg (aF v1),iP bH] τ Q:=by
 refine BN 6 [.tmp 4] [0,1] Tryz.func123 Z Z Z Z Z ?_;exact M 5 Z (Y Z h)
instance ahH(v1:ah):CT Tryz.prog (Cu v1) (fun r=>.ret (.bool r)) 198 [.agg (aF v1)]:=by
  unfold Cu;exact Z1 ⟨58,[],[]⟩ Z Tryz.func198 Z Z Z Z
instance aiX(c1:UInt8):CT Tryz.prog (Fb c1) (fun r=>.ret (.bool r)) 298 [.int .u8 (c1.toNat:Int)]:=by
  unfold Fb;exact Z1 ⟨9,[],[]⟩ Z Tryz.func298 Z Z Z Z
instance (s1 :Str) (n_ fF):LE (zO s1 n_ fF) (fun j p=>zO s1 j p) n_ fF [] [] [] [0] (fun v w p=>[(3,iP p)]) (fun v w p s=>s):=⟨Z⟩
instance al_(s1:Str):CT Tryz.prog (Dt s1) (fun r=>.ret (iP r)) 217 [.str s1]:=by
  unfold Dt;exact Z1 ⟨17,[],[]⟩ Z Tryz.func217 Z Z Z Z
instance (c1 :UInt8) (n_ fF):LE (iJ c1 n_ fF) (fun j p=>iJ c1 j p) n_ fF [] [] [] [1] (fun v w p=>[(0,.str p)]) (fun v w p s=>s):=⟨Z⟩
instance XI(s1:Str)(c1:UInt8):CT Tryz.prog (strings_trimLeftByte s1 c1) (fun r=>.ret (.str r)) 344 [.str s1,.int .u8 (c1.toNat:Int)]:=by
  unfold strings_trimLeftByte;exact Z1 ⟨17,[],[]⟩ Z Tryz.func344 Z Z Z Z
instance abx(s1:Str)(Ik:Str):CT Tryz.prog (oM s1 Ik) (fun r=>.ret (.str r)) 299 [.str s1,.str Ik]:=by
  unfold oM;exact Z1 ⟨37,[],[]⟩ Z Tryz.func299 Z Z Z Z
instance ae9(x1:Int):CT Tryz.prog (cmp_isNaN_int x1) (fun r=>.ret (.bool r)) 303 [iP x1]:=by
  unfold cmp_isNaN_int;exact Z1 ⟨6,[],[]⟩ Z Tryz.func303 Z Z Z Z
instance Ac(x1:Int)(y1:Int):CT Tryz.prog (cmp_Compare_int x1 y1) (fun r=>.ret (iP r)) 220 [iP x1,iP y1]:=by
  unfold cmp_Compare_int;exact Z1 ⟨20,[],[]⟩ Z Tryz.func220 Z Z Z Z
instance abD(x1:Str):CT Tryz.prog (cmp_isNaN_string x1) (fun r=>.ret (.bool r)) 348 [.str x1]:=by
  unfold cmp_isNaN_string;exact Z1 ⟨6,[],[]⟩ Z Tryz.func348 Z Z Z Z
instance Kj(x1:Str)(y1:Str):CT Tryz.prog (mK x1 y1) (fun r=>.ret (iP r)) 301 [.str x1,.str y1]:=by
  unfold mK;exact Z1 ⟨20,[],[]⟩ Z Tryz.func301 Z Z Z Z
instance (Jd :List Int) (n_ fF):LE (xu Jd n_ fF) (fun j p=>xu Jd j p) n_ fF [] [] [] [3,6,7] (fun v w p=>[(8,iP p)]) (fun v w p s=>s):=⟨Z⟩
instance akS(Jd:List Int):CT Tryz.prog (EA Jd) (fun r=>.ret (iP r)) 300 [.list (List.map aa2 Jd)]:=by
  unfold EA;exact Z1 ⟨18,[],[]⟩ Z Tryz.func300 Z Z Z Z
instance ae7(a1:Str)(b1:Str):CT Tryz.prog (wX a1 b1) (fun r=>.ret (iP r)) 218 [.str a1,.str b1]:=by
  unfold wX;exact Z1 ⟨26,[],[]⟩ Z Tryz.func218 Z Z Z Z
instance aeH(x1:UInt8):CT Tryz.prog (vB x1) (fun r=>.ret (.bool r)) 302 [.int .u8 (x1.toNat:Int)]:=by
  unfold vB;exact Z1 ⟨6,[],[]⟩ Z Tryz.func302 Z Z Z Z
instance abE(x1:UInt8)(y1:UInt8):CT Tryz.prog (rH x1 y1) (fun r=>.ret (iP r)) 219 [.int .u8 (x1.toNat:Int),.int .u8 (y1.toNat:Int)]:=by
  unfold rH;exact Z1 ⟨20,[],[]⟩ Z Tryz.func219 Z Z Z Z
instance  (n_ fF mM):LE (jQ n_ fF mM) (fun j p=>jQ j p.1 p.2) n_ (fF,mM) [] [] [] [] (fun v w p=>[(0,.str p.1),(1,.str p.2)]) (fun v w p s=>s):=⟨Z⟩
instance xL(a1:Str)(b1:Str):CT Tryz.prog (iN a1 b1) (fun r=>.ret (iP r)) 136 [.str a1,.str b1]:=by
  unfold iN;exact Z1 ⟨59,[],[]⟩ Z Tryz.func136 Z Z Z Z
instance : CF2 Tryz.prog iN (fun a1=>.str a1) (fun b1=>.str b1) (fun r=>.ret (iP r)) 136 []:=⟨fun x0 x1=>xL x0 x1⟩
instance (v1 :ah) (n_ fF):LE (qR v1 n_ fF) (fun j p=>qR v1 j p) n_ fF [] [] [] [1,13,14] (fun v w p=>[(15,iP p)]) (fun v w p s=>s):=⟨Z⟩
instance aiy(v1:ah):CT Tryz.prog (Bl v1) (fun r=>.ret (.bool r)) 199 [.agg (aF v1)]:=by
  unfold Bl;exact Z1 ⟨44,[],[]⟩ Z Tryz.func199 Z Z Z Z
instance XH(v1:ah)(bH:Int):CT Tryz.prog (DR v1 bH) (fun r=>.ret (iP r)) 124 [.agg (aF v1),iP bH]:=by
  unfold DR;exact Z1 ⟨78,[],[]⟩ Z Tryz.func124 Z Z Z Z
instance FT(v1:ah):CT Tryz.prog (jW v1) (fun r=>.ret (iP r)) 75 [.agg (aF v1)]:=⟨zP rfl,fun {r0} hf {τ Q} h=>by
 unfold jW at hf;refine AC.none (AC.K_ 16 [.cell 2 24] [0] Tryz.func75 Z Z Z Z Z ?_);obtain⟨b1,s1,h1,hf⟩:=gL hf;cases hf;refine AW.sr (AR.step Z Z Z (AO.Ip Z Z Z (AR.step Z Z Z (AO.bM Z abL (fun b2=>(AR.nil [1,2] Z ?_))))));refine AW.seq (AW.sr (cs 1 Z (AR.step Z Z Z (AO.call Z _ Z Z agm (Li _ _ ?_)))));refine AR.nil [2,7] Z (AW.block (AW.rangeFunc (β:=Option Int) (X:=Int × ah) Z agh (fun x=>[iP x.1,.agg (aF x.2)]) (fun _=>Z) (by decide) (fun s x=>mP s x.1 x.2) (fun s=>[.box b2 [iP (s.getD 0)]]) (fun s=>s.map fun _=>.ret) (s0:=none) (s1:=s1) Z Z ?_ ?_ ?_))
 ·intro l T' hy;refine IQ l T' mP (fun s1 bH v1 b s2 hh=>hy s1 (bH,v1) b s2 hh) none v1 1 h1 ⟨⟨_,Z⟩,Z⟩
 ·rintro l s ⟨bH,x1⟩ b s2 hh;unfold mP at hh;cases s with
  | some e=>cases hh
  | none=>
  refine⟨Z,?_⟩;refine B1 hh fun e1 h2 hh=>?_;refine qL.seq (qL.region Z (cs 1 Z (AR.nil [2,3,9] Z ?_)));refine qL.region Z (AR.step Z Z Z (AO.bM Z oW (fun b4=>(AR.bW Z Z (AO.dS (i:=0) Z Z Z wP Z Z Z Z Z (AR.nil [2,3,4] Z ?_))))));refine⟨Z,(qL.block (qL.seq (qL.region Z ?_)))⟩;refine AR.step Z Z Z (AO.dX (i:=0) Z Z Z wP Z Z (cs 1 Z (AR.step Z Z Z (AO.call Z _ Z Z amN ((XH _ _).h h2 (cs 1 Z ?_))))));refine AR.nil [2,5] Z (qL.seq (qL.region Z (cs 2 Z ?_)));refine AR.nil [2,5,14] Z (qL.cond Z (fun h3=>?_) (fun h3=>?_))
  ·replace hh:=kX h3 hh;cases hh;refine qL.seq (qL.region Z (cs 1 Z (AR.bW Z Z (AO.dS (i:=1) Z Z Z uK Z Z Z Z Z ?_))));refine AR.nil [] Z (qL.ret ?_);exact⟨Z,.cons _ (List.Sublist.refl _),Z,Z⟩
  ·replace hh:=kE h3 hh;cases hh;refine qL.skip ?_;exact⟨Z,.cons _ (List.Sublist.refl _),Z,Z⟩
 ·intro D;cases s1 with
  | some e=>exact⟨D,_,Z,Z,_,⟨_,_,Z,⟨_,_,0,_,_,Z,Z,uK,Z⟩,Z⟩,[],asY _,h⟩
  | none=>
   show AW _ _ _ _ _ _ _;refine AW.sr (AR.bW Z Z (AO.dS (i:=0) Z Z Z uK Z Z Z Z Z (AR.nil [2] Z (AW.ret ?_))))
   exact⟨D,[_],Z,Z,_,⟨_,_,Z,⟨_,_,0,_,_,Z,Z,uK,Z⟩,Z⟩,[],asY _,h⟩⟩
instance ac6(l1:List Str):CT Tryz.prog (sZ l1) (fun r=>.ret (.bool r)) 255 [sP l1]:=⟨zP rfl,fun {r0} hf {τ Q} h=>by
 unfold sZ at hf;refine BN 22 [.tmp 2] [0] Tryz.func255 Z Z Z Z Z (W 1 Z (AS Z (AO.R9 Z (fun m6=>(U 2 Z (AS Z (AO.fQ (l:=l1) Z Z Z Z Fh Z Z (J 1 Z (LK2 (fun x1 y1=>[(3,.val (.map (some m6))),(7,sP l1),(8,iP (l1.length:Int)),(9,iP x1)]) (fun x1 y1=>[.obj m6 (wG y1)]) (fun dW x1 y1=>o9 l1 dW x1 y1=some r0) BIG 0 [] Z Z hf (fun _ _ hz=>kI hz) ?_)))))))));intro dW x1 y1 hf;rw[o9]at hf;refine V 1 Z (C hf Z (fun h1 hf=>?_) fun h1 hf=>?_)
 ·refine B1 hf fun s1 h2 hf=>W 0 Z (AS Z (AO.dV h2 Z Z Z Z Fh Z Z (U 4 Z (AS Z (AO.KG (i:=0) (l:=y1) Z Z Z Z H8 mq ac9 (U 1 Z (AR.bW Z Z (AO.LU (i:=0) (l:=y1) Z Z Z Z Z H8 mq (U 2 Z (AS Z (AO.KG (i:=0) (l:=(uz y1 s1 (bq ((qJ y1 s1)+1)))) Z Z Z Z H8 mq ac9 ?_)))))))))));refine J 1 Z (C hf Z (fun h3 hf=>?_) fun h3 hf=>?_)
  ·cases hf;exact M 1 Z (Y Z h)
  exact M 2 Z ⟨(bq (x1+1)),(uz y1 s1 (bq ((qJ y1 s1)+1))),Z,Z,Z,hf⟩
 cases hf;exact M 1 Z (Y Z h)⟩
instance aiS(e1:aj)(bH:Int):CT Tryz.prog (BL e1 bH) (fun r=>.ret (iP r)) 184 [.agg (aR e1),iP bH]:=by
  unfold BL;exact Z1 ⟨65,[],[]⟩ Z Tryz.func184 Z Z Z Z
section
variable (kL : aj → Int → Option Int) [ad6 : ∀(gB : aj) (eP : Int), CT Tryz.prog (kL gB eP) (fun r => .ret (iP r)) 109 [.agg (aR gB), iP eP]]
instance (e1 :aj) (bH:Int) (n_ fF):LE (sW kL e1 bH n_ fF) (fun j p=>sW kL e1 bH j p) n_ fF [] [] [] [1,16,17] (fun v w p=>[(18,iP p)]) (fun v w p s=>s):=⟨Z⟩
instance O7(e1:aj)(bH:Int):CT Tryz.prog (zu kL e1 bH) (fun r=>.ret (iP r)) 109 [.agg (aR e1),iP bH]:=by
  unfold zu;exact Z1 ⟨30,[],[]⟩ Z Tryz.func109 Z Z Z Z
end
theorem JF:∀k:Nat,(∀(gB:aj) (eP:Int),CT Tryz.prog (o8 k gB eP) (fun r=>.ret (iP r)) 109 [.agg (aR gB),iP eP])
  | 0=>fun _ _=>CT.none Z
  | k+1=>by
    obtain (i0):=JF k;exact fun gB eP=>O7 _ gB eP
instance ahO(gB:aj)(eP:Int):CT Tryz.prog (HV gB eP) (fun r=>.ret (iP r)) 109 [.agg (aR gB),iP eP]:=(JF BIG) gB eP
instance Kg(e1:aj):CT Tryz.prog (jN e1) (fun r=>.ret (iP r)) 70 [.agg (aR e1)]:=by
  unfold jN;exact Z1 ⟨8,[],[]⟩ Z Tryz.func70 Z Z Z Z
section
variable [Dj]
instance aiU(iX:List ay):CT Tryz.prog (BM iX) (fun r=>.ret (.tuple [.agg (aR r.1),iP r.2.1,iP r.2.2])) 63 [.list (List.map ay.cells iX)]:=by
  unfold BM;exact Z1 ⟨27,[],[]⟩ Z Tryz.func63 Z Z Z Z
end
instance ahQ(iX:List ay)(n1:Int)(bn:Str):CT Tryz.prog (Cz iX n1 bn) (fun r=>.ret (iP r)) 64 [.list (List.map ay.cells iX),iP n1,.str bn]:=by
  unfold Cz;exact Z1 ⟨18,[],[]⟩ Z Tryz.func64 Z Z Z Z
section
variable [Dj]
instance TN(bn:Str):CT Tryz.prog (zA bn) (fun r=>.ret (.tuple [.agg (aR r.1),iP r.2.1,iP r.2.2])) 30 [.str bn]:=by
  unfold zA;exact Z1 ⟨46,[],[(8,1,6,7,0)]⟩ Z Tryz.func30 Z Z Z Z
end
section
variable [Dj]
theorem z8{b:Nat}{vp v p:Value}{jY r0:List aO}{text1:Str}(hf:kS jY text1=some r0)(hroom:roomy v=true){R:dN→List aS→Prop}(h:∀vp',R (.ret (.tuple [])) [.lU b 74 [(.own vp' ((List.map aO.cells r0))),.val (.pointer none),.own (.slice none 0 0) (List.map f_ [])],.row vp' ((List.map aO.cells r0)).length 12 39]):PC 31 [pP b] [.row v (List.length text1) 1 5,.lU b 74 [(.own vp ((List.map aO.cells jY))),.val p,.own v (List.map f_ text1)],.row vp ((List.map aO.cells jY)).length 12 39] R:=by
 unfold kS at hf;refine AC.jZ 25 [] [0] Tryz.func31 Z Z Z Z Z (AW.seq (AW.sr (AR.step Z Z Z (AO.calc' Z ?_))));refine AR.step Z Z Z (AO.nilCheck Z Z (AR.step Z Z Z (AO.bR Z Z KJ (AR.step Z Z Z (AO.call Z _ Z Z aoM (AC.frame (σ:=[_,_]) (τ:=[_]) (ahv (AR.step Z Z Z (AO.calc' Z ?_)))))))));refine AR.nil [0,6] Z (AW.cond Z (fun h1=>?_) (fun h1=>?_))
 ·replace hf:=kX h1 hf;refine AW.acL 4 12 [] [.row v (List.length text1) 1 5,.lU b 74 [(.own vp ((List.map aO.cells jY))),.val p,.own v (List.map f_ text1)],.row vp ((List.map aO.cells jY)).length 12 39] (fun S e s=>∃v2:Value,e.get 0=pP b∧e.get 7=pP b∧e.get 10=pP b∧(S 4=true→e.get 11=.own vp ((List.map aO.cells jY)))∧(S 5=true→e.get 12=pP b)∧(S 6=true→e.get 13=pP b)∧(S 7=true→e.get 14=.val (.pointer (some ⟨b,1,none⟩)))∧(S 8=true→e.get 15=.str text1)∧(S 9=true→e.get 16=.agg [.str text1,.bool false,iP 0,.str ([]:Str),iP 0,.bool false,iP 0,.str ([]:Str),.own (.slice none 0 0) [],.own (.slice none 0 0) [],.own (.slice none 0 0) [],.own (.slice none 0 0) []])∧(S 10=true→e.get 17=.list ((List.map aO.cells [(aO.mk text1 false (aj.mk 0 ([]:Str) (ah.mk 0 false 0 ([]:Str) [] []) [] []))])))∧(S 11=true→e.get 18=.own v2 ((List.map aO.cells r0)))∧s=(bif S 8 then []else [.row v (List.length text1) 1 5])++[.lU b 74 [(.own vp ((List.map aO.cells jY))),.val p,.own v (List.map f_ text1)],bif S 11 then .row v2 ((List.map aO.cells r0)).length 12 39 else .row vp ((List.map aO.cells jY)).length 12 39]) mixed (by kernel_rfl) Z Z (List.Perm.refl _) ?_ ?_ ?_ ?_
  ·refine Ev.cs iy 4 Z (Ev.nil ?_);exact⟨.nilIface,Z,Z,Z,(fun h=>by cases h),(fun h=>by cases h),(fun h=>by cases h),(fun h=>by cases h),(fun h=>by cases h),(fun h=>by cases h),(fun h=>by cases h),(fun h=>by cases h),Z⟩
  ·rintro S S' e s hS ⟨v2,p0,p7,Qz,q4,q5,q6,q7,q8,q9,Z9,Z8,qs⟩;have z:=fun i h1 h2=>(hS i h1 h2).symm;refine⟨v2,p0,p7,Qz,?_,?_,?_,?_,?_,?_,?_,?_,?_⟩
   ·rw[z 4 (by decide) (by decide)];exact q4
   ·rw[z 5 (by decide) (by decide)];exact q5
   ·rw[z 6 (by decide) (by decide)];exact q6
   ·rw[z 7 (by decide) (by decide)];exact q7
   ·rw[z 8 (by decide) (by decide)];exact q8
   ·rw[z 9 (by decide) (by decide)];exact q9
   ·rw[z 10 (by decide) (by decide)];exact Z9
   ·rw[z 11 (by decide) (by decide)];exact Z8
   ·rw[z 8 (by decide) (by decide),z 11 (by decide) (by decide)];exact qs
  ·rintro S e s i o ⟨v2,p0,p7,Qz,q4,q5,q6,q7,q8,q9,Z9,Z8,rfl⟩ hi1 hi2 XY hp' ho;have hi:i=4∨i=5∨i=6∨i=7∨i=8∨i=9∨i=10∨i=11:=by omega
   rcases hi with rfl|rfl|rfl|rfl|rfl|rfl|rfl|rfl
   ·cases ho;refine⟨Z,(fun t ht=>by cases ht;decide),AO.less (Less.add Qz Less.nil) ?_⟩;cases h8:S 8 with
    | false=>
     refine AO.jP (i:=1) Z Z Z Rb Z Z ?_;exact⟨v2,p0,p7,Qz,(fun _=>Z),q5,q6,q7,(fun h=>by rw[show S 8=true from h]at h8;cases h8),q9,Z9,Z8,by simp[h8]⟩
    | true=>
     refine AO.jP (i:=0) Z Z Z Rb Z Z ?_;exact⟨v2,p0,p7,Qz,(fun _=>Z),q5,q6,q7,q8,q9,Z9,Z8,by simp[h8]⟩
   ·cases ho;refine⟨Z,(fun t ht=>by cases ht;decide),AO.less (Less.add p0 Less.nil) (AO.calc' Z ?_)⟩;exact⟨v2,p0,p7,Qz,q4,(fun _=>Z),q6,q7,q8,q9,Z9,Z8,Z⟩
   ·cases ho;have s5:=hp' 5 (any_beq.1 Z) (by decide);refine⟨Z,(fun t ht=>by cases ht;decide),AO.less (Less.add (q5 s5) Less.nil) (AO.nilCheck Z Z ?_)⟩;exact⟨v2,p0,p7,Qz,q4,q5,(fun _=>Z),q7,q8,q9,Z9,Z8,Z⟩
   ·cases ho;have s6:=hp' 6 (any_beq.1 Z) (by decide);refine⟨Z,(fun t ht=>by cases ht;decide),AO.less (Less.add (q6 s6) Less.nil) (AO.bR Z Z KJ ?_)⟩;exact⟨v2,p0,p7,Qz,q4,q5,q6,(fun _=>Z),q8,q9,Z9,Z8,Z⟩
   ·cases ho;have s7:=hp' 7 (any_beq.1 Z) (by decide);rw[XY];refine⟨Z,(fun t ht=>by cases ht;decide),AO.less (Less.add (q7 s7) Less.nil) ?_⟩;refine AO.call Z _ Z Z aoN (AC.frame (σ:=[_,_]) (τ:=[_]) (ZA hroom ?_));exact⟨v2,p0,p7,Qz,q4,q5,q6,q7,(fun _=>Z),q9,Z9,Z8,Z⟩
   ·cases ho;have s8:=hp' 8 (any_beq.1 Z) (by decide);refine⟨Z,(fun t ht=>by cases ht;decide),AO.less (Less.add (q8 s8) Less.nil) (AO.build Z QO Wz Z ?_)⟩;exact⟨v2,p0,p7,Qz,q4,q5,q6,q7,q8,(fun _=>Z),Z9,Z8,Z⟩
   ·cases ho;have s9:=hp' 9 (any_beq.1 Z) (by decide);refine⟨Z,(fun t ht=>by cases ht;decide),AO.less (Less.add (q9 s9) Less.nil) (AO.fu ((List.map aO.cells [(aO.mk text1 false (aj.mk 0 ([]:Str) (ah.mk 0 false 0 ([]:Str) [] []) [] []))])) rfl Pt rfl rfl rfl (by first|rfl|simp only[List.map,aO.aT]) ?_)⟩
    exact⟨v2,p0,p7,Qz,q4,q5,q6,q7,q8,q9,(fun _=>Z),Z8,Z⟩
   ·cases ho;have s4:=hp' 4 (any_beq.1 Z) (by decide);have s8:=hp' 8 (any_beq.1 Z) (by decide);have s10:=hp' 10 (any_beq.1 Z) (by decide);rw[XY,s8];refine⟨Z,(fun t ht=>by cases ht;decide),AO.less (Less.add (q4 s4) (Less.add (Z9 s10) Less.nil)) ?_⟩;refine AO.sO (i:=1) (l:=jY) (m:=[(aO.mk text1 false (aj.mk 0 ([]:Str) (ah.mk 0 false 0 ([]:Str) [] []) [] []))]) hf Z Z Z Z Z Z Z Pt xg Z Z Z (aO.dL) (aO.cells_one) (by decide) (fun v3 s2 hs2=>?_);cases hs2;exact⟨v3,p0,p7,Qz,q4,q5,q6,q7,q8,q9,Z9,(fun _=>Z),by simp[s8]⟩
  rintro S e s hS ⟨v2,p0,p7,Qz,q4,q5,q6,q7,q8,q9,Z9,Z8,rfl⟩;rw[hS 8 (by decide) (by decide),hS 11 (by decide) (by decide)];refine AR.less (Less.add p0 (Less.add p7 (Less.add (Z8 (hS 11 (by decide) (by decide))) Less.nil))) ?_;refine AR.step Z Z Z (AO.nilCheck Z Z (AR.step Z Z Z (AO.bR Z Z QJ ?_)));refine AR.bW Z Z (AO.rZ (i:=0) Z Z Z Rb Z Z Z Z Z ?_);refine AR.nil [0] Z (AW.region (AR.step Z Z Z (AO.calc' Z (AR.step Z Z Z (AO.nilCheck Z Z ?_)))));refine AR.step Z Z Z (AO.bR Z Z KJ (AR.step Z Z Z (AO.call Z _ Z Z ak8 (AC.frame (σ:=[_]) (τ:=[_]) (Tj (AR.nil [] Z ?_))))));exact⟨Z,[],Z,_,List.Sublist.refl _,h v2⟩
 ·obtain rfl:=Option.some.inj (kE h1 hf);refine AW.skip (AW.drop1 (AW.region (AR.step Z Z Z (AO.calc' Z ?_))));refine AR.step Z Z Z (AO.nilCheck Z Z (AR.step Z Z Z (AO.bR Z Z KJ (AR.step Z Z Z (AO.call Z _ Z Z ak8 (AC.frame (σ:=[_]) (τ:=[_]) (Tj (AR.nil [] Z ?_))))))));exact⟨Z,[],Z,_,List.Sublist.refl _,h vp⟩
instance vE(s1:Str):CT Tryz.prog (oo s1) (fun r=>.ret (.tuple [.list (List.map aO.cells r.1),iP r.2.1,iP r.2.2])) 11 [.str s1]:=⟨zP rfl,fun {r} hf {τ Q} h=>by
 obtain⟨r0,r1,r2⟩:=r;unfold oo at hf;refine AC.none (AC.jZ 76 [.tmp 2,.tmp 3,.tmp 4] [0] Tryz.func11 Z Z Z Z Z (AW.sr (AR.step Z Z Z (AO.jV Z Z ?_))));refine cs 2 Z (AR.nil [0] Z (AW.seq (AW.sr ?_)));refine cs 1 Z (AR.step Z Z Z (AO.qM Z Z Z Z mq Z (cs 1 Z (AR.nil [0,14] Z ?_))));refine AW.cond Z (fun h1=>?_) (fun h1=>?_)
 ·replace hf:=kX h1 hf;refine AW.sr (AR.step Z Z Z (AO.jV Z Z (cs 2 Z (AR.nil [2,3,4] Z ?_))));refine AW.ret ?_;cases hf;exact⟨rfl,_,⟨_,_,rfl,rfl,_,_,rfl,rfl,_,_,rfl,rfl,rfl⟩,[],asY _,h⟩
 replace hf:=kE h1 hf;refine AW.skip (AW.row 12 39 (AW.sr ?_));refine AR.step Z Z Z (AO.abw Z aoh (fun b=>?_));refine AR.nil [0,5] Z (AW.row 1 5 (AW.seq (AW.sr ?_)));refine cs 1 Z (AR.nil [0,5,6] Z (AW.block (AW.settle [0,5,6] Z ?_)));refine AW.amX (fun bV jY vp text1 vt p=>[(0,.str s1),(5,pP b),(6,iP bV)]) (fun bV jY vp text1 vt p=>[.row vt (List.length text1) 1 5,.lU b 74 [(.own vp ((List.map aO.cells jY))),.val p,.own vt (List.map f_ text1)],.row vp ((List.map aO.cells jY)).length 12 39]) (fun dW bV jY vp text1 vt p=>kK s1 dW bV jY text1=some (r0,r1,r2)∧(p=Value.pointer none∨p=.pointer (some ⟨b,1,none⟩))∧roomy vt=true) BIG 0 [] (.slice none 0 0) [] (.slice none 0 0) (.pointer none) Z Z ⟨hf,.inl Z,Z⟩ (fun _ _ _ _ _ _ hz=>kI hz.1) ?_;intro dW bV jY vp text1 vt p hfI;obtain⟨hf,hp,hroom⟩:=hfI;rw[kK]at hf;refine AW.seq (AW.sr (cs 2 Z (AR.step Z Z Z (AO.qM Z Z Z Z mq Z ?_))));refine cs 1 Z (AR.nil [0,5,6,18] Z (AW.cond Z (fun h2=>?_) (fun h2=>?_)))
 ·replace hf:=kX h2 hf;refine AW.skip (AW.block (AW.sr (cs 2 Z ?_)));refine B1 hf fun MN h3 hf=>AR.step Z Z Z (AO.WC h3 Z mq Z ⟨_,Z⟩ Z (cs 1 Z (AR.nil [0,5,6,7] Z (AW.block ?_))));refine AW.sr (cs 1 Z ?_);refine B1 hf fun b1 h4 hf=>AR.step Z Z Z (AO.call Z _ Z Z alc ((Cr _ _).h h4 (cs 1 Z (AR.nil [0,5,6,7,29] Z (AW.cond Z (fun h5=>?_) (fun h5=>?_))))))
  ·replace hf:=kX h5 hf;refine B1 hf fun Yp h6 hf=>AW.sr (AR.step Z Z Z (AO.bR Z Z KJ (AR.step Z Z Z (AO.call Z _ Z Z alb (AC.frame (σ:=[_,_]) (τ:=[_]) (J8 hp hroom h6 (fun v2 hr2=>(AR.nil [0,5,6] Z ?_))))))));refine AW.region (cs 3 Z (AR.nil [0,5,6] Z ?_));exact⟨(bq (bV+2)),jY,vp,Yp,v2,_,Z,Z,Z,hf,.inr Z,hr2⟩
  replace hf:=kE h5 hf;refine B1 hf fun b2 h6 hf=>AW.sr (cs 1 Z (AR.step Z Z Z (AO.call Z _ Z Z alc ((Cr _ _).h h6 (cs 1 Z ?_)))));refine AR.nil [0,5,6,36] Z (AW.cond Z (fun h7=>?_) (fun h7=>?_))
  ·replace hf:=kX h7 hf;refine AW.sr (cs 3 Z ?_);refine B1 hf fun tK h8 hf=>AR.step Z Z Z (AO.call Z _ Z Z aoR ((Pd _ _).h h8 (cs 1 Z (AR.nil [0,5,6,8] Z (AW.seq ?_)))));refine AW.sr (cs 2 Z (AR.nil [0,5,6,8,44] Z (AW.cond Z (fun h9=>?_) (fun h9=>?_))))
   ·replace hf:=kX h9 hf;refine AW.sr (cs 1 Z (AR.step Z Z Z (AO.jV Z Z (cs 2 Z ?_))));refine AR.nil [2,3,4] Z (AW.ret ?_);cases hf;exact⟨rfl,_,⟨_,_,rfl,rfl,_,_,rfl,rfl,_,_,rfl,rfl,rfl⟩,[],asY _,h⟩
   replace hf:=kE h9 hf;refine AW.skip (AW.sr (cs 4 Z ?_));refine B1 hf fun x1 h10 hf=>AR.step Z Z Z (AO.WC h10 Z mq Z ⟨_,Z⟩ ⟨_,Z⟩ ?_);obtain⟨e1,n1,nH,h11,hf⟩:=uf hf;refine AR.step Z Z Z (AO.call Z _ Z Z aoQ ((TN _).h h11 (cs 4 Z (AR.step Z Z Z (AO.bM Z K4 (fun b9=>(AR.bW Z Z (AO.dS (i:=0) Z Z Z yB Z Z Z Z Z ?_))))))));refine cs 2 Z (AR.nil [0,5,6,8,9,10,11] Z (AW.seq (AW.sr ?_)));refine cs 2 Z (AR.nil [0,5,6,8,9,10,11,57] Z (AW.cond Z (fun h12=>?_) (fun h12=>?_)))
   ·replace hf:=kX h12 hf;refine AW.sr (cs 5 Z (AR.step Z Z Z (AO.jV Z Z (cs 2 Z ?_))));refine AR.nil [2,3,4] Z (AW.ret ?_);cases hf;exact⟨rfl,_,⟨_,_,rfl,rfl,_,_,rfl,rfl,_,_,rfl,rfl,rfl⟩,[],asY _,h⟩
   replace hf:=kE h12 hf;refine B1 hf fun WT KY hf=>B1 hf fun WS I6 hf=>AW.skip (AW.sr (AR.step Z Z Z (AO.call Z _ Z Z ala (AC.perm (adH _ _ _ _) (AC.frame (σ:=[_,_,_]) (τ:=[_]) (z8 KY hroom (fun vp2=>(AR.nil [0,5,8,9] Z ?_))))))));refine AW.row 1 5 (AW.sr (AR.step Z Z Z (AO.bR Z Z QJ ?_)));refine AR.step Z Z Z (AO.jP (i:=1) Z Z Z Rb Z Z ?_);refine AR.step rfl rfl rfl (AO.dX (i:=3) rfl rfl rfl yB rfl rfl (AR.step rfl rfl rfl (AO.build rfl QO Wz rfl (AR.step rfl rfl rfl (AO.fu ((List.map aO.cells [(aO.mk ([]:Str) true e1)])) rfl Pt rfl rfl rfl (by first|rfl|simp only[List.map,aO.aT]) ?_)))));refine AR.step Z Z Z (AO.sO (i:=2) (l:=WT) (m:=[(aO.mk ([]:Str) true e1)]) I6 Z Z Z Z Z Z Z Pt xg Z Z Z (aO.dL) (aO.cells_one) (by decide) (fun vp3 s2 hs2=>?_));cases hs2
   refine AR.step Z Z Z (AO.bR Z Z QJ ?_);refine AR.bW Z Z (AO.rZ (i:=1) Z Z Z Rb Z Z Z Z Z ?_);refine AR.nil [0,5,8] Z (AW.abf 3 Z (AW.region (cs 3 Z ?_)));refine AR.nil [0,5,6] Z ?_;exact⟨(bq (tK+1)),WS,vp3,[],.slice none 0 0,_,Z,Z,Z,hf,.inl Z,Z⟩
  replace hf:=kE h7 hf;refine B1 hf fun c1 h8 hf=>B1 hf fun afL h9 hf=>AW.sr (AR.step Z Z Z (AO.bR Z Z KJ (cs 2 Z (AR.step Z Z Z (AO.ou h8 Z mq Z Z ?_)))));refine AR.step Z Z Z (AO.call Z _ Z Z alb (AC.frame (σ:=[_,_]) (τ:=[_]) (J8 hp hroom h9 (fun v2 hr2=>(AR.nil [0,5,6] Z (AW.region (cs 3 Z ?_)))))));refine AR.nil [0,5,6] Z ?_;exact⟨(bq (bV+1)),jY,vp,afL,v2,_,Z,Z,Z,hf,.inr Z,hr2⟩
 replace hf:=kE h2 hf;refine B1 hf fun ace h3 hf=>AW.exit (AW.sr (AR.step Z Z Z (AO.call Z _ Z Z ala (z8 h3 hroom (fun vp2=>(AR.nil [5] Z ?_))))));refine AW.sr (AR.step Z Z Z (AO.bR Z Z QJ ?_));refine AR.step Z Z Z (AO.jP (i:=0) Z Z Z Rb Z Z ?_);refine cs 3 Z (AR.nil [2,3,4] Z (AW.ret ?_));cases hf;exact⟨rfl,_,⟨_,_,rfl,rfl,_,_,rfl,rfl,_,_,rfl,rfl,rfl⟩,[],asY _,h⟩⟩
end
instance abC(bX:List aB):CT Tryz.prog (GI bX) (fun r=>.ret (iP r)) 41 [.list (List.map aB.cells bX)]:=⟨zP rfl,fun {r0} hf {τ Q} h=>by
 unfold GI at hf;refine BN 39 [.tmp 2] [0] Tryz.func41 Z Z Z Z Z (W 2 Z (AS Z (AO.fQ (l:=bX) Z Z Z Z wB Z Z (J 1 Z (C hf Z (fun h1 hf=>?_) fun h1 hf=>?_)))))
 ·cases hf;exact M 1 Z (Y Z h)
 refine W 0 Z (AS Z (AO.R9 Z (fun m10=>(U 2 Z (AS Z (AO.fQ (l:=bX) Z Z Z Z wB Z Z (J 1 Z (LK2 (fun x1 y1=>[(3,.val (.map (some m10))),(11,.list (List.map aB.cells bX)),(12,iP (bX.length:Int)),(13,iP x1)]) (fun x1 y1=>[.obj m10 (wG y1)]) (fun dW x1 y1=>BU bX dW x1 y1=some r0) BIG 0 [] Z Z hf (fun _ _ hz=>kI hz) ?_))))))));intro dW x1 y1 hf;rw[BU]at hf;refine V 1 Z (C hf Z (fun h2 hf=>?_) fun h2 hf=>?_)
 ·refine B1 hf fun e1 h3 hf=>W 0 Z (AS Z (AO.dV h3 Z Z Z Z wB (aB.aT _) Z (U 1 Z (AS Z (AO.bM Z abK (fun b5=>?_))))));refine B1 hf fun x2 h4 hf=>Rr 4 [0,0] Z Z (CL Z ((Kg _).h h4 (J 1 Z (C hf Z (fun h5 hf=>?_) fun h5 hf=>?_))))
  ·cases hf;exact M 1 Z (Y Z h)
  refine B1 hf fun e2 h6 hf=>Wr 2 [0] Z Z (CL Z ((FT _).h h6 (J 3 Z (C hf Z (fun h7 hf=>?_) fun h7 hf=>?_))))
  ·cases hf;exact M 2 Z (Y Z h)
  refine Wr 3 [0] Z Z (AS Z (AO.KG (i:=1) (l:=y1) Z Z Z Z H8 mq ac9 (U 1 Z (AR.bW Z Z (AO.LU (i:=1) (l:=y1) Z Z Z Z Z H8 mq (Rr 3 [0] Z Z (AS Z (AO.KG (i:=1) (l:=(uz y1 e1.name (bq ((qJ y1 e1.name)+1)))) Z Z Z Z H8 mq ac9 (J 1 Z (C hf Z (fun h8 hf=>?_) fun h8 hf=>?_))))))))))
  ·cases hf;exact M 1 Z (Y Z h)
  refine Wn0 2 Z (AR.drop1 ?_);exact N 0 Z ⟨(bq (x1+1)),(uz y1 e1.name (bq ((qJ y1 e1.name)+1))),Z,Z,Z,hf⟩
 cases hf;exact M 1 Z (Y Z h)⟩
instance aiZ(e1:aj)(bX:List aB):CT Tryz.prog (Fg e1 bX) (fun r=>.ret (.tuple [.list (List.map aB.cells r.1),iP r.2])) 125 [.agg (aR e1),.list (List.map aB.cells bX)]:=by
  unfold Fg;exact Z1 ⟨19,[],[]⟩ Z Tryz.func125 Z Z Z Z
@[reducible] def X8:fE aG Unit→dN
  | .ok r=>.ret (.tuple [])
  | .bad e=>.panic (.iface 204 (.agg [iP e.code]))
instance amb(e1:Int):CT Tryz.prog (AB e1) (fun r=>X8 r) 323 [iP e1]:=by
  unfold AB;exact Z1 ⟨5,[],[]⟩ Z Tryz.func323 Z Z Z Z
@[reducible] def Ml:fE aG ah→dN
  | .ok r=>.ret (.agg (aF r))
  | .bad e=>.panic (.iface 204 (.agg [iP e.code]))
instance (s1 :List aB) (name1:Str) (n_ fF):LE (pE s1 name1 n_ fF) (fun j p=>pE s1 name1 j p) n_ fF [] [] [] [1,4,7,8] (fun v w p=>[(9,iP p)]) (fun v w p s=>s):=⟨Z⟩
instance Fv(s1:List aB)(name1:Str):CT Tryz.prog (tJ s1 name1) (fun r=>Ml r) 264 [.list (List.map aB.cells s1),.str name1]:=by
  unfold tJ;exact Z1 ⟨22,[],[]⟩ Z Tryz.func264 Z Z Z Z
instance PZ(s1:Str):CT Tryz.prog (mJ s1) (fun r=>.ret (.agg (aF r))) 266 [.str s1]:=by
  unfold mJ;exact Z1 ⟨5,[],[]⟩ Z Tryz.func266 Z Z Z Z
instance aoe(v1:ah)(kD:Int):CT Tryz.prog (iO v1 kD) (fun r=>.ret (.bool r)) 324 [.agg (aF v1),iP kD]:=by
  unfold iO;exact Z1 ⟨9,[],[]⟩ Z Tryz.func324 Z Z Z Z
@[reducible] def X7:fE aG Unit→dN
  | .ok r=>.ret (.tuple [])
  | .bad e=>.panic (.iface 204 (.agg [iP e.code]))
instance rW(ok1:Bool)(e1:Int):CT Tryz.prog (dU ok1 e1) (fun r=>X7 r) 274 [.bool ok1,iP e1]:=by
  unfold dU;exact Z1 ⟨8,[],[]⟩ Z Tryz.func274 Z Z Z Z
instance (s1 :List Str) (v1:Str) (n_ fF):LE (iE s1 v1 n_ fF) (fun j p=>iE s1 v1 j p) n_ fF [] [] [] [0,1,7] (fun v w p=>[(8,iP p)]) (fun v w p s=>s):=⟨Z⟩
instance O4(s1:List Str)(v1:Str):CT Tryz.prog (iZ s1 v1) (fun r=>.ret (iP r)) 357 [sP s1,.str v1]:=by
  unfold iZ;exact Z1 ⟨19,[],[]⟩ Z Tryz.func357 Z Z Z Z
instance O5(s1:List Str):CT Tryz.prog (kH s1) (fun r=>.ret (sP r)) 134 [sP s1]:=⟨zP rfl,fun {r0} hf {τ Q} h=>by
 unfold kH at hf;refine BN 8 [.tmp 2] [0] Tryz.func134 Z Z Z Z Z (W 0 Z (AS Z (AO.jV Z Z (U 1 Z (AS Z (AO.CX Z Z akZ (fun b hb=>(J 0 Z (AW.cond Z (fun h1=>?_) (fun h1=>?_))))))))))
 ·obtain rfl:s1=[]:=as7.1 (hb h1);obtain⟨_,rfl⟩:=Ab hf;refine W 0 Z (AS Z (AO.jV Z Z ?_));exact N 0 rfl ⟨rfl,_,⟨_,_,rfl,rfl,rfl⟩,_,List.Sublist.refl _,h⟩
 refine W 0 Z (AS Z (AO.xK [] Z Pp Z Z Z Z Z (fun v1=>(U 1 Z (AS Z (AO.sO (i:=0) (l:=[]) (m:=s1) hf Z Z Z Z Z Z Z Pp Fh Z Z Z (fun _=>Z) (fun _=>Z) (by decide) (fun v2 s2 hs2=>?_)))))));cases hs2;exact N 1 Z (Y Z h)⟩
section
variable (lJ : ah → Option ah) [aeP : ∀(mo : ah), CT Tryz.prog (lJ mo) (fun r => .ret (.agg (aF r))) 358 [.agg (aF mo)]]
instance (v1 :ah) (n_ fF mM):LE (uJ lJ v1 n_ fF mM) (fun j p=>uJ lJ v1 j p.1 p.2) n_ (fF,mM) [] [(1,[4])] [(9999,6,34)] [2,3,13,14] (fun v w p=>[(15,iP p.1)]) (fun v w p s=>xW 1 [iP p.2.kind,.bool p.2.dD,iP p.2.cu,.str p.2.bJ,.own v (List.map ah.cells p.2.aP),sP p.2.keys] (putRow 0 v ((List.map ah.cells p.2.aP).length) (s))):=⟨Z⟩
instance Qf(v1:ah):CT Tryz.prog (AQ lJ v1) (fun r=>.ret (.agg (aF r))) 358 [.agg (aF v1)]:=by
  unfold AQ;exact Z1 ⟨28,[],[]⟩ Z Tryz.func358 Z Z Z Z
end
theorem La:∀k:Nat,(∀(mo:ah),CT Tryz.prog (oG k mo) (fun r=>.ret (.agg (aF r))) 358 [.agg (aF mo)])
  | 0=>fun _=>CT.none Z
  | k+1=>by
    obtain (i0):=La k;exact fun mo=>Qf _ mo
instance UF(mo:ah):CT Tryz.prog (mX mo) (fun r=>.ret (.agg (aF r))) 358 [.agg (aF mo)]:=(La BIG) mo
instance alI(v1:ah)(key1:Str):CT Tryz.prog (Aj v1 key1) (fun r=>.ret (.tuple [.agg (aF r.1),.bool r.2])) 325 [.agg (aF v1),.str key1]:=by
  unfold Aj;exact Z1 ⟨32,[],[]⟩ Z Tryz.func325 Z Z Z Z
@[reducible] def Wi:fE aG ah→dN
  | .ok r=>.ret (.agg (aF r))
  | .bad e=>.panic (.iface 204 (.agg [iP e.code]))
instance NK(m1:ah)(key1:ah):CT Tryz.prog (xY m1 key1) (fun r=>Wi r) 265 [.agg (aF m1),.agg (aF key1)]:=by
  unfold xY;exact Z1 ⟨24,[],[]⟩ Z Tryz.func265 Z Z Z Z
@[reducible] def QU:fE aG ah→dN
  | .ok r=>.ret (.agg (aF r))
  | .bad e=>.panic (.iface 204 (.agg [iP e.code]))
instance Ki(a1:ah)(i1:ah):CT Tryz.prog (wh a1 i1) (fun r=>QU r) 267 [.agg (aF a1),.agg (aF i1)]:=by
  unfold wh;exact Z1 ⟨32,[],[]⟩ Z Tryz.func267 Z Z Z Z
instance XT(name1:Str):CT Tryz.prog (AJ name1) (fun r=>.ret (iP r)) 326 [.str name1]:=by
  unfold AJ;exact Z1 ⟨18,[],[]⟩ Z Tryz.func326 Z Z Z Z
instance ah0(n1:Int):CT Tryz.prog (qy n1) (fun r=>.ret (.agg (aF r))) 330 [iP n1]:=by
  unfold qy;exact Z1 ⟨5,[],[]⟩ Z Tryz.func330 Z Z Z Z
instance XU(l1:List ah):CT Tryz.prog (Ew l1) (fun r=>.ret (.agg (aF r))) 272 [.list (ah.bP l1)]:=⟨zP rfl,fun {r0} hf {τ Q} h=>by
 unfold Ew at hf;refine BN 5 [.cell 2 34] [0] Tryz.func272 Z Z Z Z Z (W 0 Z (AS Z (AO.bM Z oW (fun b2=>?_))));cases hf;exact Rx 3 [0] Z Z (ZC [0] Z Z h)⟩
theorem OW(h:Q (.ret (.agg [iP 4,.bool false,iP 0,.str ([]:Str),.own (.slice none 0 0) [],.own (.slice none 0 0) []])) τ):PC 272 [.own (.slice none 0 0) []] τ Q:=by
 refine AC.none (AC.agA 5 [.cell 2 34] [0] Tryz.func272 Z Z Z Z Z (AW.sr (AR.step Z Z Z (AO.bM Z oW (fun b2=>?_)))));refine AR.nil [0,2] Z (AW.sr (cs 1 Z (AR.step Z Z Z (AO.build Z oW afR Z ?_))));refine AR.bW Z Z (AO.dS (i:=0) Z Z Z wP Z Z Z Z Z (AR.nil [2] Z (AW.ret ?_)));exact⟨rfl,_,⟨_,_,rfl,⟨_,_,0,_,_,rfl,rfl,wP,rfl⟩,rfl⟩,[],asY _,h⟩
instance ama(l1:List Str):CT Tryz.prog (Az l1) (fun r=>.ret (.agg (aF r))) 359 [sP l1]:=⟨zP rfl,fun {r0} hf {τ Q} h=>by
 unfold Az at hf;refine BN 22 [.cell 2 34] [0] Tryz.func359 Z Z Z Z Z (W 0 Z (AS Z (AO.bM Z oW (fun b2=>(U 0 Z (AS Z (AO.apF Z _ Z Z amC (OW (AS Z (AO.bM Z oW (fun b3=>?_)))))))))));refine Rr 2 [0] Z Z (AS Z (AO.fQ (l:=l1) Z Z Z Z Fh Z Z ?_));refine J 1 Z (AW.row 6 34 (AW.settle [2,3,7,8,9] Z (AW.DK 1 [false,false,false,false,false,true] Z (LK3 (fun x1 bK v1=>[(2,pP b2),(3,pP b3),(7,sP l1),(8,iP (l1.length:Int)),(9,iP x1)]) (fun x1 bK v1=>[.row v1 (ah.bP bK.aP).length 6 34,.box b3 [iP bK.kind,.bool bK.dD,iP bK.cu,.str bK.bJ,.own v1 (ah.bP bK.aP),sP bK.keys],.box b2 [iP 0,.bool false,iP 0,.str ([]:Str),.own (.slice none 0 0) [],.own (.slice none 0 0) []]]) (fun dW x1 bK v1=>zT l1 dW x1 bK=some r0) BIG 0 (ah.mk 4 false 0 ([]:Str) [] []) (.slice none 0 0) Z Z hf (fun _ _ _ hz=>kI hz) ?_))));intro dW x1 bK v1 hf;rw[zT]at hf;refine V 1 Z (C hf Z (fun h1 hf=>?_) fun h1 hf=>?_)
 ·refine B1 hf fun s1 h2 hf=>W 0 Z (AS Z (AO.dV h2 Z Z Z Z Fh Z Z (J 2 Z (AW.draw 5 mixed (by kernel_rfl) Z ?_))));refine Ev.cs iy 1 Z (Ev.cons Z Z Z (AO.dX (i:=1) Z Z Z afH Z Z zg) (Ev.cs iy 1 Z ?_));refine B1 hf fun x2 h3 hf=>Ev.cons rfl rfl rfl (AO.call rfl _ rfl rfl agf ((PZ _).h h3 ⟨rfl,rfl⟩)) (Ev.cons rfl rfl rfl (AO.fu (ah.bP [x2]) rfl Pq rfl rfl rfl (by first|rfl|simp only[ah.aT,ah.bP]) ⟨rfl,rfl⟩) ?_);refine Ev.nil ?_
  show AR _ _ _ _ _ _ _ _;refine B1 hf fun x3 h4 hf=>AS Z (AO.sO (i:=0) (l:=bK.aP) (m:=[x2]) h4 Z Z Z Z Z Z Z Pq IK (ah.bI _) (ah.bI _) (ah.bI _).symm (ah.dL) (ah.cells_one) (by decide) (fun v2 s2 hs2=>?_));cases hs2;exact Rx 4 [1] Z Z ⟨(bq (x1+1)),(ah.mk bK.kind bK.dD bK.cu bK.bJ x3 bK.keys),v2,Z,Z,Z,hf⟩
 cases hf;exact Wx 2 [1,2] Z Z (ZC [2] Z Z h)⟩
instance XR(b1:Bool):CT Tryz.prog (qw b1) (fun r=>.ret (.str r)) 276 [.bool b1]:=by
  unfold qw;exact Z1 ⟨4,[],[]⟩ Z Tryz.func276 Z Z Z Z
instance ZK(b1:Bool):CT Tryz.prog (strconv_FormatBool b1) (fun r=>.ret (.str r)) 202 [.bool b1]:=by
  unfold strconv_FormatBool;exact Z1 ⟨5,[],[]⟩ Z Tryz.func202 Z Z Z Z
instance aix(s1:Str):CT Tryz.prog (Bj s1) (fun r=>.ret (.str r)) 204 [.str s1]:=⟨zP rfl,fun {r0} hf {τ Q} h=>by
 unfold Bj at hf;refine BN 54 [.tmp 2] [0] Tryz.func204 Z Z Z Z Z (W 1 Z (AS Z (AO.GR (eu:=5) Z X4 Z (fun b3=>?_))));refine B1 hf fun b1 h1 hf=>U 0 Z (CL Z (AC.one 0 Z (jf h1 (fun v1=>⟨_,Z,(J 1 Z (LK3 (fun i1 b2 v2=>[(0,.str s1),(3,pP b3),(4,iP i1)]) (fun i1 b2 v2=>[.Mf b3 v2 72 5 b2]) (fun dW i1 b2 v2=>mW s1 dW i1 b2=some r0) BIG 0 b1 v1 Z Z hf (fun _ _ _ hz=>kI hz) ?_))⟩))));intro dW i1 b2 v2 hf;rw[mW]at hf;refine W 2 Z (AS Z (AO.qM Z Z Z Z mq Z (J 1 Z (C hf Z (fun h2 hf=>?_) fun h2 hf=>?_))))
 ·refine B1 hf fun c1 h3 hf=>W 2 Z (AS Z (AO.ou h3 Z mq Z Z (U 4 Z (On 3 28 31 [0,3,4,5] ((c1.toNat:Int)==92) Z Z Z Z (J 1 Z (C hf Z (fun h5 hf=>?_) fun h5 hf=>?_))))))
  ·refine B1 hf fun b3 h6 hf=>W 0 Z (CL Z (AC.one 0 Z (jf h6 (fun v3=>⟨_,Z,?_⟩))));refine B1 hf fun b4 h7 hf=>U 1 Z (CL Z (AC.one 0 Z (jf h7 (fun v4=>⟨_,Z,?_⟩))));exact N 3 Z ⟨(bq (i1+1)),b4,v4,Z,Z,Z,hf⟩
  refine V 3 Z (C hf Z (fun h8 hf=>?_) fun h8 hf=>?_)
  ·refine B1 hf fun b5 h9 hf=>W 0 Z (CL Z (AC.one 0 Z (nI h9 (fun v5=>⟨_,Z,?_⟩))));exact N 3 Z ⟨(bq (i1+1)),b5,v5,Z,Z,Z,hf⟩
  refine V 3 Z (C hf Z (fun h10 hf=>?_) fun h10 hf=>?_)
  ·refine B1 hf fun b6 h11 hf=>W 0 Z (CL Z (AC.one 0 Z (nI h11 (fun v6=>⟨_,Z,?_⟩))));exact N 3 Z ⟨(bq (i1+1)),b6,v6,Z,Z,Z,hf⟩
  refine W 3 Z (An 3 46 49 [0,3,4,5] (decide ((c1.toNat:Int)≤126)) Z Z Z Z (J 1 Z (C hf Z (fun KY hf=>?_) fun KY hf=>?_)))
  ·refine B1 hf fun b7 I6 hf=>W 1 Z (CL Z (AC.one 0 Z (jf I6 (fun v7=>⟨_,Z,?_⟩))));exact N 3 Z ⟨(bq (i1+1)),b7,v7,Z,Z,Z,hf⟩
  refine B1 hf fun b8 LX hf=>W 0 Z (CL Z (AC.one 0 Z (nI LX (fun v8=>⟨_,Z,(U 1 Z (AS Z (AO.u8_quo c1 16 Z Z Z Z Z (by decide) ?_)))⟩))));refine B1 hf fun x1 h16 hf=>AS Z (AO.ou h16 Z mq Z Z ?_);refine B1 hf fun b9 h17 hf=>CL Z (AC.one 0 Z (jf h17 (fun v9=>⟨_,Z,(U 1 Z (AS Z (AO.afx c1 16 Z Z Z Z Z (by decide) ?_)))⟩)));refine B1 hf fun x2 h18 hf=>AS Z (AO.ou h18 Z mq Z Z ?_);refine B1 hf fun b10 h19 hf=>CL Z (AC.one 0 Z (jf h19 (fun v10=>⟨_,Z,?_⟩)));exact N 3 Z ⟨(bq (i1+1)),b10,v10,Z,Z,Z,hf⟩
 refine BR hf fun b11 h20 hf=>?_;refine W 0 Z (CL Z (AC.one 0 Z (jf h20 (fun v11=>⟨_,Z,(U 0 Z (CL Z (AC.M7 0 Z (z_ ?_))))⟩))));cases hf;exact N 1 Z (Y Z h)⟩
section
variable [Dj]
def VE:Go.Shelf.Ren:=⟨fun|156=>187|165=>115|166=>36|169=>39|240=>60|241=>190|276=>96|277=>256|n=>n,fun|31=>32|9=>9|3=>3|4=>4|0=>0|20=>20|72=>72|76=>86|70=>70|37=>68|75=>77|127=>124|164=>138|5=>5|80=>69|n=>n,fun|n=>n⟩
theorem joinL:Go.Proofs.Lays.n156 Tryz.prog VE:=by repeat' first|(intros;kernel_rfl)|constructor|decide
theorem ao7:Go.Proofs.Builder.Extra Tryz.prog VE:=by repeat' first|(intros;kernel_rfl)|constructor|decide
instance ahJ(l1:List Str)(t1:Str):CT Tryz.prog (strings_Join l1 t1) (fun r=>.ret (.str r)) 187 [sP l1,.str t1]:=⟨zP rfl,fun {r0} hf {τ Q} h=>by
 unfold strings_Join at hf;split at hf
 case isFalse=>cases hf
 rename_i hg;cases hf;refine AC.none ?_
 exact AC.join Dj.hD joinL ao7 hg.1 hg.2 h⟩
end
section
variable [Dj]
section
variable (eZ : ah → Option Str) [acv : ∀(mo : ah), CT Tryz.prog (eZ mo) (fun r => .ret (.str r)) 128 [.agg (aF mo)]]
instance (v1 :ah) (n_ fF mM):LE (qQ eZ v1 n_ fF mM) (fun j p=>qQ eZ v1 j p.1 p.2) n_ (fF,mM) [3] [] [(3,1,9)] [1,28,29] (fun v w p=>[(3,.own v (List.map jy p.1)),(30,iP p.2)]) (fun v w p s=>putRow 0 v ((List.map jy p.1).length) (s)):=⟨Z⟩
instance (v1 :ah) (n_ fF mM):LE (vI eZ v1 n_ fF mM) (fun j p=>vI eZ v1 j p.1 p.2) n_ (fF,mM) [3] [] [(3,1,9)] [1,28,29] (fun v w p=>[(3,.own v (List.map jy p.1)),(30,iP p.2)]) (fun v w p s=>putRow 0 v ((List.map jy p.1).length) (s)):=⟨Z⟩
instance NA(v1:ah):CT Tryz.prog (xA eZ v1) (fun r=>.ret (.str r)) 128 [.agg (aF v1)]:=by
  unfold xA;exact Z1 ⟨68,[],[]⟩ Z Tryz.func128 Z Z Z Z
end
theorem II:∀k:Nat,(∀(mo:ah),CT Tryz.prog (xw k mo) (fun r=>.ret (.str r)) 128 [.agg (aF mo)])
  | 0=>fun _=>CT.none Z
  | k+1=>by
    obtain (i0):=II k;exact fun mo=>NA _ mo
instance aeV(mo:ah):CT Tryz.prog (AP mo) (fun r=>.ret (.str r)) 128 [.agg (aF mo)]:=(II BIG) mo
end
section
variable [Dj]
instance aky(v1:ah):CT Tryz.prog (Ai v1) (fun r=>.ret (.tuple [.str r.1,iP r.2])) 77 [.agg (aF v1)]:=by
  unfold Ai;exact Z1 ⟨28,[],[]⟩ Z Tryz.func77 Z Z Z Z
end
instance ai1(s1:Str)(lo1:UInt8)(hi1:UInt8)(Ag:Int):CT Tryz.prog (yN s1 lo1 hi1 Ag) (fun r=>.ret (.str r)) 360 [.str s1,.int .u8 (lo1.toNat:Int),.int .u8 (hi1.toNat:Int),iP Ag]:=⟨zP rfl,fun {r0} hf {τ Q} h=>by
 unfold yN at hf;refine BN 42 [.tmp 8] [0,1,2,3] Tryz.func360 Z Z Z Z Z (W 1 Z (AS Z (AO.GR (eu:=5) Z X4 Z (fun b9=>(J 1 Z (LK3 (fun i1 b1 v1=>[(0,.str s1),(1,.int .u8 (lo1.toNat:Int)),(2,.int .u8 (hi1.toNat:Int)),(3,iP Ag),(9,pP b9),(10,iP i1)]) (fun i1 b1 v1=>[.Mf b9 v1 72 5 b1]) (fun dW i1 b1 v1=>rF s1 lo1 hi1 Ag dW i1 b1=some r0) BIG 0 [] (.slice none 0 0) Z Z hf (fun _ _ _ hz=>kI hz) ?_))))));intro dW i1 b1 v1 hf;rw[rF]at hf;refine W 2 Z (AS Z (AO.qM Z Z Z Z mq Z (J 1 Z (C hf Z (fun h1 hf=>?_) fun h1 hf=>?_))))
 ·refine B1 hf fun x1 h2 hf=>W 2 Z (AS Z (AO.ou h2 Z mq Z Z ?_));refine B1 hf fun b2 h4 hf=>U 3 Z (AR.tu 6 22 28 true [0,1,2,3,9,10] b2 Z Z (fun h3=>?_) (fun h3=>?_) ?_)
  ·refine IT 22 h3 h4 Z fun h4=>?_;refine B1 h4 fun x2 h5 h4=>U 2 Z (GO Z (AO.ou h5 Z mq Z Z ?_));cases h4;exact uG 3 Z (En [28,0,1,2,3,9,10] Z)
  ·refine IF 22 h3 h4 Z fun h4=>?_;cases h4;exact uG 6 Z (En [28,0,1,2,3,9,10] Z)
  refine J 0 Z (C hf Z (fun h6 hf=>?_) fun h6 hf=>?_)
  ·refine B1 hf fun x3 h7 hf=>W 2 Z (AS Z (AO.ou h7 Z mq Z Z (AS Z (AO.OO Z Q8 Uk Z Z (U 2 Z (AS Z (AO.Zv Z Uk Q8 Z ?_)))))));refine B1 hf fun b3 h8 hf=>CL Z (AC.one 0 Z (jf h8 (fun v2=>⟨_,Z,?_⟩)));exact N 3 Z ⟨(bq (i1+1)),b3,v2,Z,Z,Z,hf⟩
  refine B1 hf fun x4 h9 hf=>W 2 Z (AS Z (AO.ou h9 Z mq Z Z ?_));refine B1 hf fun b4 h10 hf=>CL Z (AC.one 0 Z (jf h10 (fun v3=>⟨_,Z,?_⟩)));exact N 3 Z ⟨(bq (i1+1)),b4,v3,Z,Z,Z,hf⟩
 refine W 0 Z (CL Z (AC.M7 0 Z (z_ ?_)));cases hf;exact N 1 Z (Y Z h)⟩
section
variable [Dj]
instance ai0(s1:Str):CT Tryz.prog (vo s1) (fun r=>.ret (.tuple [iP r.1,.bool r.2])) 361 [.str s1]:=⟨zP rfl,fun {r} hf {τ Q} h=>by
 obtain⟨r0,r1⟩:=r;unfold vo at hf;refine BN 28 [.tmp 2,.tmp 3] [0] Tryz.func361 Z Z Z Z Z ?_;obtain⟨n1,SG,h1,hf⟩:=gL hf;refine W 3 Z (CL Z ((Ke _).h h1 (U 6 Z (AS Z (AO.eqNil Z alo Z Z ?_)))));refine B1 hf fun b1 h3 hf=>U 1 Z (AR.tu 5 13 18 false [4] b1 Z Z (fun h2=>?_) (fun h2=>?_) ?_)
 ·refine IF 13 h2 h3 Z fun h3=>?_;refine B1 h3 fun x1 h4 h3=>U 1 Z (GO Z (AO.call Z _ Z Z amF ((TH _).h h4 ?_)));cases h3;exact uG 3 Z (En [18,4] Z)
 ·refine IT 13 h2 h3 Z fun h3=>?_;cases h3;exact uG 5 Z (En [18,4] Z)
 refine U 1 Z (On 3 19 22 [4] (decide (n1<(-9007199254740992))) Z Z Z Z (U 1 Z (On 3 23 26 [4] (decide (9007199254740992<n1)) Z Z Z Z (J 0 Z (C hf Z (fun h7 hf=>?_) fun h7 hf=>?_)))))
 ·cases hf;exact M 2 Z (Y Z h)
 cases hf;exact M 3 Z (Y Z h)⟩
end
section
variable [Dj]
@[reducible] def aai:fE aG ah→dN
  | .ok r=>.ret (.agg (aF r))
  | .bad e=>.panic (.iface 204 (.agg [iP e.code]))
instance TW(name1:Str)(v1:ah):CT Tryz.prog (JW name1 v1) (fun r=>aai r) 327 [.str name1,.agg (aF v1)]:=by
  unfold JW;exact Z1 ⟨78,[],[]⟩ Z Tryz.func327 Z Z Z Z
end
instance Ll(b1:Bool):CT Tryz.prog (uI b1) (fun r=>.ret (iP r)) 394 [.bool b1]:=by
  unfold uI;exact Z1 ⟨4,[],[]⟩ Z Tryz.func394 Z Z Z Z
instance (xR :List ah) (xQ:List ah) (zX:ah→ah→Option Int) (n_ fF):LE (bZ xR xQ zX n_ fF) (fun j p=>bZ xR xQ zX j p) n_ fF [] [] [] [0,1,2,11,12] (fun v w p=>[(13,iP p)]) (fun v w p s=>s):=⟨Z⟩
instance yR(xR:List ah)(xQ:List ah)(zX:ah→ah→Option Int){EC:FuncId}{GL:List PV}[apA:CF2 Tryz.prog zX (fun a0=>.agg (aF a0)) (fun a1=>.agg (aF a1)) (fun b0=>.ret (iP b0)) EC GL]:CT Tryz.prog (bF xR xQ zX) (fun r=>.ret (iP r)) 395 [.list (ah.bP xR),.list (ah.bP xQ),.fn EC GL]:=by
  unfold bF;exact Z1 ⟨39,[],[]⟩ Z Tryz.func395 Z Z Z Z
theorem g_(xR xQ:List ah)(zX:ah→ah→Option Int)(EC:FuncId)(GL:List PV)(ahr:dx Tryz.prog EC=true)(ahs:∀a0 a1 b0,zX a0 a1=some b0→∀ {τ:List aS} {Q:dN→List aS→Prop},Q (.ret (iP b0)) τ→AC Tryz.prog EC ([.agg (aF a0),.agg (aF a1)]++GL) τ Q){r0:Int}(hf:bF xR xQ zX=some r0){τ:List aS}{Q:dN→List aS→Prop}(h:Q (.ret (iP r0)) τ):AC Tryz.prog 395 [.list (ah.bP xR),.list (ah.bP xQ),.fn EC GL] τ Q:=letI:CF2 Tryz.prog zX (fun a0=>.agg (aF a0)) (fun a1=>.agg (aF a1)) (fun b0=>.ret (iP b0)) EC GL:=⟨fun a b=>⟨ahr,fun {r} hx {τ Q} h=>ahs a b r hx h⟩⟩;CT.h hf h
instance (xR :List Str) (xQ:List Str) (zX:Str→Str→Option Int) (n_ fF):LE (dO xR xQ zX n_ fF) (fun j p=>dO xR xQ zX j p) n_ fF [] [] [] [0,1,2,11,12] (fun v w p=>[(13,iP p)]) (fun v w p s=>s):=⟨Z⟩
instance Db(xR:List Str)(xQ:List Str)(zX:Str→Str→Option Int){EC:FuncId}{GL:List PV}[apA:CF2 Tryz.prog zX (fun a0=>.str a0) (fun a1=>.str a1) (fun b0=>.ret (iP b0)) EC GL]:CT Tryz.prog (dF xR xQ zX) (fun r=>.ret (iP r)) 396 [sP xR,sP xQ,.fn EC GL]:=by
  unfold dF;exact Z1 ⟨39,[],[]⟩ Z Tryz.func396 Z Z Z Z
theorem oD(xR xQ:List Str)(zX:Str→Str→Option Int)(EC:FuncId)(GL:List PV)(ahr:dx Tryz.prog EC=true)(ahs:∀a0 a1 b0,zX a0 a1=some b0→∀ {τ:List aS} {Q:dN→List aS→Prop},Q (.ret (iP b0)) τ→AC Tryz.prog EC ([.str a0,.str a1]++GL) τ Q){r0:Int}(hf:dF xR xQ zX=some r0){τ:List aS}{Q:dN→List aS→Prop}(h:Q (.ret (iP r0)) τ):AC Tryz.prog 396 [sP xR,sP xQ,.fn EC GL] τ Q:=letI:CF2 Tryz.prog zX (fun a0=>.str a0) (fun a1=>.str a1) (fun b0=>.ret (iP b0)) EC GL:=⟨fun a b=>⟨ahr,fun {r} hx {τ Q} h=>ahs a b r hx h⟩⟩;CT.h hf h
abbrev IX(jR:ah→ah→Option Int):Prop:=∀(tO:ah) (tN:ah) {xP:Int},jR tO tN=some xP→∀ {τ:List aS} {Q:dN→List aS→Prop} (h:Q (.ret (iP xP)) τ),PC 367 [.agg (aF tO),.agg (aF tN)] τ Q
theorem P8(jR)(Fe:IX jR)(a1 b1:ah){r0:Int}(hf:xB jR a1 b1=some r0)(h:Q (.ret (iP r0)) τ):PC 367 [.agg (aF a1),.agg (aF b1)] τ Q:=by
 unfold xB at hf;refine BN 62 [.tmp 4] [0,1] Tryz.func367 Z Z Z Z Z ?_;refine B1 hf fun c1 h1 hf=>W 7 Z (CL Z ((Ac _ _).h h1 (J 3 Z (C hf Z (fun h2 hf=>?_) fun h2 hf=>?_))))
 ·cases hf;exact M 2 Z (Y Z h)
 refine V 4 Z (C hf Z (fun h3 hf=>?_) fun h3 hf=>?_)
 ·refine V 0 Z (AW.draw 8 mixed (by kernel_rfl) Z ?_);refine Ev.cs iy 2 Z ?_;refine B1 hf fun x1 h4 hf=>Ev.cons Z Z Z (AO.call Z _ Z Z agb ((Ll _).h h4 zg)) (Ev.cs iy 2 Z ?_);refine B1 hf fun x2 h5 hf=>Ev.cons Z Z Z (AO.call Z _ Z Z agb ((Ll _).h h5 zg)) ?_;refine BR hf fun x3 h6 hf=>?_;refine Ev.cons Z Z Z (AO.call Z _ Z Z amE ((Ac _ _).h h6 zg)) (Ev.cs iy 1 Z (Ev.nil ?_));show AR _ _ _ _ _ _ _ _;cases hf;exact N 0 Z (Y Z h)
 refine V 2 Z (C hf Z (fun h7 hf=>?_) fun h7 hf=>?_)
 ·refine BR hf fun x4 h8 hf=>?_;refine W 4 Z (CL Z ((Ac _ _).h h8 ?_));cases hf;exact N 1 Z (Y Z h)
 refine V 2 Z (C hf Z (fun h9 hf=>?_) fun h9 hf=>?_)
 ·refine BR hf fun x5 h10 hf=>?_;refine W 4 Z (CL Z ((Kj _ _).h h10 ?_));cases hf;exact N 1 Z (Y Z h)
 refine V 2 Z (C hf Z (fun h11 hf=>?_) fun h11 hf=>?_)
 ·refine BR hf fun x6 h12 hf=>?_;refine W 4 Z (CL Z (g_ _ _ jR 367 [] agc (fun _ _ _ hz=>Fe _ _  hz) h12 ?_));cases hf;exact N 1 Z (Y Z h)
 refine V 2 Z (C hf Z (fun KY hf=>?_) fun KY hf=>?_)
 ·refine B1 hf fun c2 I6 hf=>W 4 Z (CL Z (oD _ _ iN 136 [] agk (fun _ _ _ hz=>(xL _ _).h hz) I6 (J 3 Z (C hf Z (fun LX hf=>?_) fun LX hf=>?_))))
  ·cases hf;exact M 2 Z (Y Z h)
  refine BR hf fun x7 h16 hf=>?_;refine W 4 Z (CL Z (g_ _ _ jR 367 [] agc (fun _ _ _ hz=>Fe _ _  hz) h16 ?_));cases hf;exact N 1 Z (Y Z h)
 cases hf;exact M 1 Z (Y Z h)
theorem Qa:∀k:Nat,(IX (iY k)):=by
 intro k
 induction k with
 | zero=>exact fun _ _ _ hz=>by first|cases hz|(unfold iY at hz;cases hz)
 | succ k ih=>exact fun tO tN xP hz τ Q hq=>P8 (iY k) ih tO tN hz hq
instance aeW(tO:ah)(tN:ah):CT Tryz.prog (wO tO tN) (fun r=>.ret (iP r)) 367 [.agg (aF tO),.agg (aF tN)]:=⟨zP rfl,fun {r} hf {τ Q} h=>((Qa BIG)) tO tN hf h⟩
instance Lm(a1:ah)(b1:ah):CT Tryz.prog (mY a1 b1) (fun r=>.ret (.bool r)) 331 [.agg (aF a1),.agg (aF b1)]:=by
  unfold mY;exact Z1 ⟨9,[],[]⟩ Z Tryz.func331 Z Z Z Z
instance amc(a1:ah)(b1:ah)(GZ:Int):CT Tryz.prog (pV a1 b1 GZ) (fun r=>.ret (.bool r)) 364 [.agg (aF a1),.agg (aF b1),iP GZ]:=by
  unfold pV;exact Z1 ⟨17,[],[]⟩ Z Tryz.func364 Z Z Z Z
section
variable [Dj]
def Uz:Go.Shelf.Ren:=⟨fun|144=>391|143=>116|219=>191|217=>257|225=>258|224=>259|267=>260|266=>321|314=>322|n=>n,fun|9=>9|4=>4|3=>3|5=>5|46=>218|146=>279|51=>269|n=>n,fun|1=>0|n=>n⟩
theorem aeh:Go.Proofs.Lays.n144 Tryz.prog Uz:=by repeat' first|(intros;kernel_rfl)|constructor|decide
instance aby(s1:Str)(t1:Str):CT Tryz.prog (strings_Contains s1 t1) (fun r=>.ret (.bool r)) 391 [.str s1,.str t1]:=⟨zP rfl,fun {r0} hf {τ Q} h=>by
 unfold strings_Contains at hf;split at hf
 case isFalse=>cases hf
 rename_i hg;cases hf;refine AC.none ?_
 exact AC.contains aeh hg Dj.max h⟩
end
section
variable [Dj]
@[reducible] def P7:fE aG Bool→dN
  | .ok r=>.ret (.bool r)
  | .bad e=>.panic (.iface 204 (.agg [iP e.code]))
instance (a1 :ah) (b1:ah) (n_ fF):LE (oP a1 b1 n_ fF) (fun j p=>oP a1 b1 j p) n_ fF [] [] [] [3,13,14] (fun v w p=>[(15,iP p)]) (fun v w p s=>s):=⟨Z⟩
instance ae8(a1:ah)(b1:ah):CT Tryz.prog (w9 a1 b1) (fun r=>P7 r) 362 [.agg (aF a1),.agg (aF b1)]:=by
  unfold w9;exact Z1 ⟨47,[],[]⟩ Z Tryz.func362 Z Z Z Z
end
instance pF(b1:Bool):CT Tryz.prog (fC b1) (fun r=>.ret (.agg (aF r))) 329 [.bool b1]:=by
  unfold fC;exact Z1 ⟨5,[],[]⟩ Z Tryz.func329 Z Z Z Z
section
variable [Dj]
@[reducible] def Uh:fE aG ah→dN
  | .ok r=>.ret (.agg (aF r))
  | .bad e=>.panic (.iface 204 (.agg [iP e.code]))
instance (a1 :ah) (b1:ah) (n_ fF mM X6):LE (vv a1 b1 n_ fF mM X6) (fun j p=>vv a1 b1 j p.1 p.2.1 p.2.2) n_ (fF,mM,X6) [6] [] [(6,1,9)] [3,4,17,18] (fun v w p=>[(5,iP p.1),(6,.own v (List.map jy p.2.1)),(19,iP p.2.2)]) (fun v w p s=>putRow 0 v ((List.map jy p.2.1).length) (s)):=⟨Z⟩
instance ai2(a1:ah)(b1:ah):CT Tryz.prog (BS a1 b1) (fun r=>Uh r) 363 [.agg (aF a1),.agg (aF b1)]:=by
  unfold BS;exact Z1 ⟨54,[],[]⟩ Z Tryz.func363 Z Z Z Z
end
instance Ue(s1:Str)(yZ:Str):CT Tryz.prog (rD s1 yZ) (fun r=>.ret (.bool r)) 392 [.str s1,.str yZ]:=by
  unfold rD;exact Z1 ⟨21,[],[]⟩ Z Tryz.func392 Z Z Z Z
instance aac(s1:Str)(yZ:Str):CT Tryz.prog (strings_HasSuffix s1 yZ) (fun r=>.ret (.bool r)) 365 [.str s1,.str yZ]:=by
  unfold strings_HasSuffix;exact Z1 ⟨8,[],[]⟩ Z Tryz.func365 Z Z Z Z
section
variable [Dj]
def aaz:Go.Shelf.Ren:=⟨fun|146=>366|221=>393|268=>417|138=>114|143=>116|195=>188|197=>117|218=>189|219=>191|260=>192|217=>257|225=>258|224=>259|267=>260|266=>321|314=>322|n=>n,fun|9=>9|31=>32|3=>3|4=>4|0=>0|105=>154|21=>21|5=>5|46=>218|119=>245|139=>248|138=>247|146=>279|51=>269|n=>n,fun|1=>0|3=>1|4=>2|n=>n⟩
theorem amr:Go.Proofs.Lays.n146 Tryz.prog aaz:=by repeat' first|(intros;kernel_rfl)|constructor|decide
instance aeY(s1:Str)(t1:Str):CT Tryz.prog (strings_Split s1 t1) (fun r=>.ret (sP r)) 366 [.str s1,.str t1]:=⟨zP rfl,fun {r0} hf {τ Q} h=>by
 unfold strings_Split at hf;split at hf
 case isFalse=>cases hf
 rename_i hg;cases hf;refine AC.none ?_
 exact AC.split amr (by kernel_rfl) hg.1 hg.2 Dj.max h⟩
end
section
variable [Dj]
@[reducible] def aag:fE aG ah→dN
  | .ok r=>.ret (.agg (aF r))
  | .bad e=>.panic (.iface 204 (.agg [iP e.code]))
instance TU(name1:Str)(a1:ah)(b1:ah):CT Tryz.prog (JV name1 a1 b1) (fun r=>aag r) 328 [.str name1,.agg (aF a1),.agg (aF b1)]:=by
  unfold JV;exact Z1 ⟨62,[],[]⟩ Z Tryz.func328 Z Z Z Z
end
@[reducible] def Wd:fE aG Bool→dN
  | .ok r=>.ret (.bool r)
  | .bad e=>.panic (.iface 204 (.agg [iP e.code]))
instance wu(v1:ah):CT Tryz.prog (vk v1) (fun r=>Wd r) 271 [.agg (aF v1)]:=by
  unfold vk;exact Z1 ⟨8,[],[]⟩ Z Tryz.func271 Z Z Z Z
@[reducible] def V_:fE aG ah→dN
  | .ok r=>.ret (.agg (aF r))
  | .bad e=>.panic (.iface 204 (.agg [iP e.code]))
instance NJ(op1:Str)(v1:ah):CT Tryz.prog (Eu op1 v1) (fun r=>V_ r) 269 [.str op1,.agg (aF v1)]:=by
  unfold Eu;exact Z1 ⟨18,[],[]⟩ Z Tryz.func269 Z Z Z Z
@[reducible] def Wh:fE aG Int→dN
  | .ok r=>.ret (iP r)
  | .bad e=>.panic (.iface 204 (.agg [iP e.code]))
instance qC(a1:ah)(b1:ah):CT Tryz.prog (nO a1 b1) (fun r=>Wh r) 332 [.agg (aF a1),.agg (aF b1)]:=by
  unfold nO;exact Z1 ⟨17,[],[]⟩ Z Tryz.func332 Z Z Z Z
@[reducible] def Ug:fE aG ah→dN
  | .ok r=>.ret (.agg (aF r))
  | .bad e=>.panic (.iface 204 (.agg [iP e.code]))
instance aiY(n1:Int):CT Tryz.prog (rV n1) (fun r=>Ug r) 368 [iP n1]:=by
  unfold rV;exact Z1 ⟨12,[],[]⟩ Z Tryz.func368 Z Z Z Z
@[reducible] def aah:fE aG ah→dN
  | .ok r=>.ret (.agg (aF r))
  | .bad e=>.panic (.iface 204 (.agg [iP e.code]))
instance TV(a1:ah)(b1:ah):CT Tryz.prog (GH a1 b1) (fun r=>aah r) 333 [.agg (aF a1),.agg (aF b1)]:=by
  unfold GH;exact Z1 ⟨57,[],[]⟩ Z Tryz.func333 Z Z Z Z
instance TP(n1:Int):CT Tryz.prog (JA n1) (fun r=>.ret (.int .u64 (r.toNat:Int))) 418 [iP n1]:=⟨zP rfl,fun {r0} hf {τ Q} h=>by
 unfold JA at hf;refine BN 10 [.tmp 2] [0] Tryz.func418 Z Z Z Z Z (V 3 Z (C hf Z (fun h1 hf=>?_) fun h1 hf=>?_))
 ·refine W 1 Z (AS Z (AO.Wt Z Uk G9 Z (AS Z (AO.u64_neg (BitVec.ofInt 64 n1) Z Z Z ?_))));cases hf;exact N 1 Z (Y Z h)
 refine W 1 Z (AS Z (AO.Wt Z Uk G9 Z ?_));cases hf;exact N 1 Z (Y Z h)⟩
instance ahW(a1:Int)(b1:Int):CT Tryz.prog (CK a1 b1) (fun r=>.ret (.agg (PS r))) 397 [iP a1,iP b1]:=⟨zP rfl,fun {r0} hf {τ Q} h=>by
 unfold CK at hf;refine BN 71 [.cell 4 328] [0,1] Tryz.func397 Z Z Z Z Z (W 0 Z (AS Z (AO.bM Z afb (fun b4=>?_))));refine B1 hf fun x1 h1 hf=>U 1 Z (CL Z ((TP _).h h1 ?_));refine B1 hf fun y1 h2 hf=>U 1 Z (CL Z ((TP _).h h2 (U 3 Z (AS Z (AO.ME x1 32 Z Z Z Z Z (U 1 Z (AS Z (AO.u64_and x1 (4294967295:BitVec 64) Z Z Z Z Z (U 1 Z (AS Z (AO.ME y1 32 Z Z Z Z Z ?_)))))))))));refine U 1 Z (AS Z (AO.u64_and y1 (4294967295:BitVec 64) Z Z Z Z Z ?_));refine B1 hf fun Ce h3 hf=>U 6 Z (AS Z (AO.Bp (x1 &&& (4294967295:BitVec 64)) (y1 &&& (4294967295:BitVec 64)) h3 Z Z Z Z Z ?_));refine B1 hf fun x2 h4 hf=>U 3 Z (AS Z (AO.Bp (x1 >>> 32) (y1 &&& (4294967295:BitVec 64)) h4 Z Z Z Z Z (U 1 Z (AS Z (AO.ME Ce 32 Z Z Z Z Z (AS Z (AO.EK x2 (Ce >>> 32) Z Z Z Z Z ?_)))))));refine B1 hf fun x3 h5 hf=>U 3 Z (AS Z (AO.Bp (x1 &&& (4294967295:BitVec 64)) (y1 >>> 32) h5 Z Z Z Z Z ?_));refine B1 hf fun x4 h6 hf=>?_;refine U 1 Z (AS Z (AO.afB (x2+(Ce >>> 32)) (4294967295:BitVec 64) h6 Z Z Z Z Z (AS Z (AO.EK x3 x4 Z Z Z Z Z (U 3 Z (AS Z (AO.abY (x1 >>> 32) (y1 >>> 32) Z Z Z Z Z (U 1 Z (AS Z (AO.ME (x2+(Ce >>> 32)) 32 Z Z Z Z Z ?_))))))))));refine B1 hf fun x5 h7 hf=>AS Z (AO.Q9 ((x1 >>> 32)*(y1 >>> 32)) ((x2+(Ce >>> 32)) >>> 32) h7 Z Z Z Z Z (U 1 Z (AS Z (AO.ME (x3+x4) 32 Z Z Z Z Z (AS Z (AO.EK x5 ((x3+x4) >>> 32) Z Z Z Z Z (U 1 Z (AS Z (AO.aja (x3+x4) 32 Z Z Z Z Z ?_)))))))));refine U 1 Z (AS Z (AO.u64_and Ce (4294967295:BitVec 64) Z Z Z Z Z ?_));refine B1 hf fun x6 h8 hf=>AS Z (AO.ajb ((x3+x4) <<< 32) (Ce &&& (4294967295:BitVec 64)) h8 Z Z Z Z Z (AS Z (AO.OY Z afc Mg Z (U 1 Z (AS Z (AO.bM Z afb (fun b14=>(Rr 5 [0] Z Z (AS Z (AO.Tp Z ai_ Z Z ?_))))))))));refine U 1 Z (AR.and 5 63 68 [4,14] (x:=(!decide (([((x5+((x3+x4) >>> 32)).toNat:Int),(x6.toNat:Int)]:List Int)=([0,0]:List Int)))) Z Z (fun h9=>?_) (fun h9=>?_) ?_)
 ·refine Is 63 h9 Z (U 1 Z (GO Z (AO.dX (i:=0) Z Z Z amo Z Z (GO Z (AO.OY Z afc Mg Z (GO Z (AO.agF ([((x5+((x3+x4) >>> 32)).toNat:Int),(x6.toNat:Int)]:List Int) ([0,0]:List Int) Z aml G9 anj ani anc Z Z Z Z Z Z (abT [(x5+((x3+x4) >>> 32)),x6]) (abT [(0:BitVec 64),(0:BitVec 64)]) ?_)))))));exact uG 1 Z (En [68,4,14] Z)
 ·refine Is 63 h9 Z ?_;exact uG 5 Z (En [68,4,14] Z)
 cases hf;exact Rx 4 [0,0,1] Z Z (ZC [1] Z Z h)⟩
instance ZX(p1:fD):CT Tryz.prog (sG p1) (fun r=>.ret (.tuple [iP r.1,.bool r.2])) 398 [.agg (PS p1)]:=⟨zP rfl,fun {r} hf {τ Q} h=>by
 obtain⟨r0,r1⟩:=r;unfold sG at hf;refine BN 37 [.tmp 2,.tmp 3] [0] Tryz.func398 Z Z Z Z Z (W 4 Z (AS Z (AO.u_ (sz:=1) 0 Z Mg Z Z (by decide) Z ?_)));refine J 3 Z (C hf Z (fun h1 hf=>?_) fun h1 hf=>?_)
 ·cases hf;exact M 2 Z (Y Z h)
 refine W 3 Z (AR.and 5 12 17 [1] (x:=(decide (((p1.half.getD 1 0).toNat:Int)≤9223372036854775808))) Z Z (fun h2=>?_) (fun h2=>?_) ?_)
 ·refine Is 12 h2 Z (U 1 Z (GO Z (AO.u_ (sz:=1) 1 Z Mg Z Z (by decide) Z ?_)));exact uG 3 Z (En [17,1] Z)
 ·refine Is 12 h2 Z ?_;exact uG 5 Z (En [17,1] Z)
 refine J 1 Z (C hf Z (fun h3 hf=>?_) fun h3 hf=>?_)
 ·refine W 1 Z (AS Z (AO.u_ (sz:=1) 1 Z Mg Z Z (by decide) Z ?_));refine U 1 Z (AS Z (AO.u64_neg (p1.half.getD 1 0) Z Z Z (AS Z (AO.xq Z G9 Uk Z ?_))));cases hf;exact N 2 Z (Y Z h)
 refine W 4 Z (AR.and 5 27 32 [1] (x:=(decide (((p1.half.getD 1 0).toNat:Int)≤9223372036854775807))) Z Z (fun h4=>?_) (fun h4=>?_) ?_)
 ·refine Is 27 h4 Z (U 1 Z (GO Z (AO.u_ (sz:=1) 1 Z Mg Z Z (by decide) Z ?_)));exact uG 3 Z (En [32,1] Z)
 ·refine Is 27 h4 Z ?_;exact uG 5 Z (En [32,1] Z)
 refine J 1 Z (C hf Z (fun h5 hf=>?_) fun h5 hf=>?_)
 ·refine W 1 Z (AS Z (AO.u_ (sz:=1) 1 Z Mg Z Z (by decide) Z ?_));refine U 1 Z (AS Z (AO.xq Z G9 Uk Z ?_));cases hf;exact N 2 Z (Y Z h)
 cases hf;exact M 2 Z (Y Z h)⟩
instance aoc(ajQ:Bool):CT Tryz.prog (W9 ajQ) (fun r=>.ret (iP r)) 399 [.bool ajQ]:=by
  unfold W9;exact Z1 ⟨4,[],[]⟩ Z Tryz.func399 Z Z Z Z
instance aod(a1:Int)(b1:Int):CT Tryz.prog (M8 a1 b1) (fun r=>.ret (iP r)) 369 [iP a1,iP b1]:=by
  unfold M8;exact Z1 ⟨21,[],[]⟩ Z Tryz.func369 Z Z Z Z
@[reducible] def Mq:fE aG ah→dN
  | .ok r=>.ret (.agg (aF r))
  | .bad e=>.panic (.iface 204 (.agg [iP e.code]))
instance Fx(op1:Str)(a1:ah)(b1:ah):CT Tryz.prog (pW op1 a1 b1) (fun r=>Mq r) 334 [.str op1,.agg (aF a1),.agg (aF b1)]:=by
  unfold pW;exact Z1 ⟨46,[],[]⟩ Z Tryz.func334 Z Z Z Z
instance TD(v1:ah):CT Tryz.prog (yV v1) (fun r=>.ret (iP r)) 400 [.agg (aF v1)]:=⟨zP rfl,fun {r0} hf {τ Q} h=>by
 unfold yV at hf;refine AC.none (AC.K_ 30 [.tmp 2] [0] Tryz.func400 Z Z Z Z Z ?_);obtain⟨b1,s1,h1,hf⟩:=gL hf;cases hf;refine AW.sr (AR.step Z Z Z (AO.Ip Z Z Z (cs 1 Z (AR.nil [1] Z ?_))));refine AW.sr (AR.step Z Z Z (AO.bM Z aol (fun b3=>(AR.bW Z Z (AO.dS (i:=0) Z Z Z He Z Z Z Z Z (AR.nil [1,3] Z ?_))))));refine AW.seq (AW.sr (cs 1 Z (AR.step Z Z Z (AO.call Z _ Z Z agm (Li _ _ ?_)))));refine AR.nil [3,7] Z (AW.block (AW.rangeFunc (β:=Int) (X:=Int × ah) Z agh (fun x=>[iP x.1,.agg (aF x.2)]) (fun _=>Z) (by decide) (fun s x=>h_ s x.1 x.2) (fun s=>[.box b3 [iP s]]) (fun _=>none) (s0:=0) (s1:=r0) Z Z ?_ ?_ ?_))
 ·intro l T' hy;refine IQ l T' h_ (fun s1 bH v1 b s2 hh=>hy s1 (bH,v1) b s2 hh) 0 v1 1 h1 ⟨⟨_,Z⟩,Z⟩
 ·rintro l s ⟨bH,x1⟩ b s2 hh;unfold h_ at hh;refine⟨Z,?_⟩;cases hh;refine qL.seq (qL.region Z (cs 1 Z (AR.nil [3,4,9] Z ?_)));refine qL.region Z (AR.step Z Z Z (AO.bM Z oW (fun b5=>(AR.bW Z Z (AO.dS (i:=0) Z Z Z wP Z Z Z Z Z (AR.nil [3,4,5] Z ?_))))));refine⟨Z,(qL.block (qL.seq (qL.seq ?_)))⟩;refine qL.region Z (cs 1 Z (AR.step Z Z Z (AO.dX (i:=0) Z Z Z He Z Z (cs 2 Z ?_))));refine AR.or 4 13 17 [3,4,5] (x:=(x1.kind==5)) Z Z (fun h2=>?_) (fun h2=>?_) ?_
  ·refine AR.is 13 h2 Z (cs 1 Z (AR.go Z Z Z Z Z Z (AO.dX (i:=0) Z Z Z He Z Z (cs 2 Z ?_))));refine AR.nil [17,3,4,5] Z ?_;exact⟨Z,Z,Z,Z⟩
  ·refine AR.is 13 h2 Z (cs 4 Z (AR.nil [17,3,4,5] Z ?_));exact⟨Z,Z,Z,Z⟩
  refine cs 1 Z (AR.and 5 18 23 [3,4,5] (x:=((x1.aP.length:Int)==0)) Z Z (fun h2=>?_) (fun h2=>?_) ?_)
  ·refine AR.is 18 h2 Z (cs 1 Z (AR.go Z Z Z Z Z Z (AO.dX (i:=0) Z Z Z afH Z Z (AR.go Z Z Z Z Z Z (AO.fQ (l:=x1.aP) Z Z Z Z IK Z (ah.bI _) ?_)))));refine cs 2 Z (AR.nil [23,3,4,5] Z ?_);exact⟨Z,Z,Z,Z⟩
  ·refine AR.is 18 h2 Z (cs 5 Z (AR.nil [23,3,4,5] Z ?_));exact⟨Z,Z,Z,Z⟩
  refine AR.nil [3,4,23] Z (qL.cond Z (fun h3=>?_) (fun h3=>?_))
  ·rw[show sU bH x1=bq (bH+1)from if_pos h3];refine qL.region Z (cs 3 Z (AR.nil [3,4] Z (qL.region Z ?_)));refine AR.step Z Z Z (AO.dX (i:=1) Z Z Z He Z Z (cs 1 Z (AR.step Z Z Z (AO.max2 Z Z Z Z Z (AR.bW Z Z (AO.dS (i:=1) Z Z Z He Z Z Z Z Z ?_))))));refine AR.nil [] Z ?_;exact⟨Z,.cons _ (List.Sublist.refl _),Z,Z⟩
  rw[show sU bH x1=bH from if_neg (by rw[h3];simp)];refine qL.skip (qL.region Z (AR.step Z Z Z (AO.dX (i:=1) Z Z Z He Z Z (cs 1 Z ?_))));refine AR.step Z Z Z (AO.max2 Z Z Z Z Z (AR.bW Z Z (AO.dS (i:=1) Z Z Z He Z Z Z Z Z (AR.nil [] Z ?_))));exact⟨Z,.cons _ (List.Sublist.refl _),Z,Z⟩
 intro D;show AW _ _ _ _ _ _ _
 refine AW.sr (AR.step Z Z Z (AO.dX (i:=0) Z Z Z He Z Z (cs 1 Z (AR.nil [2] Z ?_))));refine AW.ret ?_;exact⟨D,[_],Z,Z,_,⟨_,_,Z,Z,Z⟩,[],asY _,h⟩⟩
instance IV(y1:aB)(c1:aB):CT Tryz.prog (kZ y1 c1) (fun r=>.ret (.bool r)) 402 [.agg (qN y1),.ref (qN c1)]:=by
  unfold kZ;exact Z1 ⟨9,[],[]⟩ Z Tryz.func402 Z Z Z Z
instance (c1 :aB):CF1 Tryz.prog (fun fF=>kZ fF c1) (fun y1=>.agg (qN y1)) (fun r=>.ret (.bool r)) 402 [.ref (qN c1)]:=⟨fun fF=>IV fF c1⟩
instance (s1 :List aB) (f1:aB→Option Bool) (n_ fF):LE (gu s1 f1 n_ fF) (fun j p=>gu s1 f1 j p) n_ fF [] [] [] [0,1,7] (fun v w p=>[(8,iP p)]) (fun v w p s=>s):=⟨Z⟩
instance K3(s1:List aB)(f1:aB→Option Bool){Z_:FuncId}{f1C:List PV}[f1I:CF1 Tryz.prog f1 (fun a0=>.agg (qN a0)) (fun b0=>.ret (.bool b0)) Z_ f1C]:CT Tryz.prog (iU s1 f1) (fun r=>.ret (iP r)) 419 [.list (List.map aB.cells s1),.fn Z_ f1C]:=by
  unfold iU;exact Z1 ⟨19,[],[]⟩ Z Tryz.func419 Z Z Z Z
instance I8(s1:List aB)(f1:aB→Option Bool){Z_:FuncId}{f1C:List PV}[f1I:CF1 Tryz.prog f1 (fun a0=>.agg (qN a0)) (fun b0=>.ret (.bool b0)) Z_ f1C]:CT Tryz.prog (fB s1 f1) (fun r=>.ret (.bool r)) 401 [.list (List.map aB.cells s1),.fn Z_ f1C]:=by
  unfold fB;exact Z1 ⟨9,[],[]⟩ Z Tryz.func401 Z Z Z Z
theorem uE(s1:List aB)(f1:aB→Option Bool)(Z_:FuncId)(f1C:List PV)(f1P:dx Tryz.prog Z_=true)(f1H:∀a0 b0,f1 a0=some b0→∀ {τ:List aS} {Q:dN→List aS→Prop},Q (.ret (.bool b0)) τ→AC Tryz.prog Z_ ([.agg (qN a0)]++f1C) τ Q){r0:Bool}(hf:fB s1 f1=some r0){τ:List aS}{Q:dN→List aS→Prop}(h:Q (.ret (.bool r0)) τ):AC Tryz.prog 401 [.list (List.map aB.cells s1),.fn Z_ f1C] τ Q:=letI:CF1 Tryz.prog f1 (fun a0=>.agg (qN a0)) (fun b0=>.ret (.bool b0)) Z_ f1C:=⟨fun a=>⟨f1P,fun {r} hx {τ Q} h=>f1H a r hx h⟩⟩;CT.h hf h
instance UE(iD:List aB)(i1:Int):CT Tryz.prog (Bn iD i1) (fun r=>.ret (iP r)) 370 [.list (List.map aB.cells iD),iP i1]:=⟨zP rfl,fun {r0} hf {τ Q} h=>by
 unfold Bn at hf;refine BN 36 [.tmp 4] [0,1] Tryz.func370 Z Z Z Z Z ?_;refine B1 hf fun e1 h1 hf=>W 3 Z (AS Z (AO.dV h1 Z Z Z Z wB (aB.aT _) Z (U 1 Z (AS Z (AO.bM Z abK (fun b5=>(Rr 3 [0,0] Z Z (AS Z (AO.qM Z Z Z Z mq Z (U 2 Z (AR.or 5 15 20 [0,1,5] (x:=(decide (64<(e1.name.length:Int)))) Z Z (fun h2=>?_) (fun h2=>?_) ?_)))))))))))
 ·refine Is 15 h2 Z (U 1 Z (GO Z (AO.dX (i:=0) Z Z Z ajh Z Z (GO Z (AO.qM Z Z Z Z mq Z ?_)))));exact uG 2 Z (En [20,0,1,5] Z)
 ·refine Is 15 h2 Z ?_;exact uG 5 Z (En [20,0,1,5] Z)
 refine J 0 Z (C hf Z (fun h3 hf=>?_) fun h3 hf=>?_)
 ·cases hf;exact M 1 Z (Y Z h)
 refine B1 hf fun e2 h4 hf=>Wr 2 [0] Z Z (CL Z ((FT _).h h4 (J 3 Z (C hf Z (fun h5 hf=>?_) fun h5 hf=>?_))))
 ·cases hf;exact M 2 Z (Y Z h)
 refine B1 hf fun x1 h6 hf=>Wr 2 [0] Z Z (CL Z ((TD _).h h6 (J 1 Z (C hf Z (fun h7 hf=>?_) fun h7 hf=>?_))))
 ·cases hf;exact M 1 Z (Y Z h)
 refine B1 hf fun x2 h8 hf=>W 2 Z (AS Z (AO.WE h8 Z wB Z Z Z (aB.dL) Z ⟨_,Z⟩ (AR.ab0 5 0 Z Z Z Z ?_)));refine B1 hf fun x3 h9 hf=>U 1 Z (CL Z (uE _ (fun z0=>kZ z0 e1) 402 [.ref (qN e1)] amx (fun _ _ hz=>(IV _ _).h hz) h9 (J 0 Z (C hf Z (fun h10 hf=>?_) fun h10 hf=>?_))))
 ·cases hf;exact M 1 Z (Y Z h)
 cases hf;exact M 1 Z (Y Z h)⟩
instance NC(s1:List aB):CT Tryz.prog (fK s1) (fun r=>.ret (.list (List.map aB.cells r))) 371 [.list (List.map aB.cells s1)]:=⟨zP rfl,fun {r0} hf {τ Q} h=>by
 unfold fK at hf;refine BN 8 [.tmp 2] [0] Tryz.func371 Z Z Z Z Z (W 0 Z (AS Z (AO.jV Z Z (U 1 Z (AS Z (AO.CX Z Z akY (fun b hb=>(J 0 Z (AW.cond Z (fun h1=>?_) (fun h1=>?_))))))))))
 ·obtain rfl:s1=[]:=as7.1 (hb h1);obtain⟨_,rfl⟩:=Ab hf;refine W 0 Z (AS Z (AO.jV Z Z ?_));exact N 0 rfl ⟨rfl,_,⟨_,_,rfl,rfl,rfl⟩,_,List.Sublist.refl _,h⟩
 refine W 0 Z (AS Z (AO.xK [] Z Rl Z Z Z Z Z (fun v1=>(U 1 Z (AS Z (AO.sO (i:=0) (l:=[]) (m:=s1) hf Z Z Z Z Z Z Z Rl wB Z Z Z (aB.dL) (aB.cells_one) (by decide) (fun v2 s2 hs2=>?_)))))));cases hs2;exact N 1 Z (Y Z h)⟩
theorem wJ(s1:List aB){r0:List aB}(hf:fK s1=some r0){Q:dN→List aS→Prop}(h:∀v,Q (.ret (.val v)) [.buf v r0.length 7 60 (r0.flatMap aB.cells)]):PC 371 [.list (List.map aB.cells s1)] [] Q:=by
 unfold fK at hf;obtain⟨hl,e0⟩:=Ab hf;rw[List.nil_append]at e0;subst e0;simp only[List.length_nil,Nat.zero_add]at hl;have hlen:∀x:aB,(aB.cells x).length=7:=fun _=>Z;have hone:∀x:aB,(aB.cells x).all PV.one=true:=fun _=>Z;refine AC.jZ 8 [.tmp 2] [0] Tryz.func371 Z Z Z Z Z (AW.sr (AR.step Z Z Z (AO.jV Z Z (AR.nil [0] Z ?_))));refine AW.seq (AW.sr (cs 1 Z (AR.step Z Z Z (AO.CX Z Z akY (fun b hb=>?_)))));refine AR.nil [0,4] Z (AW.cond Z (fun h1=>?_) (fun h1=>?_))
 ·obtain rfl:r0=[]:=as7.1 (hb h1);refine AW.sr (AR.step Z Z Z (AO.KA Z Z (AR.nil [2] Z (AW.akl 7 60 ?_))));refine AW.ret ?_;exact⟨rfl,_,⟨_,_,rfl,rfl,rfl⟩,_,List.Sublist.refl _,h _⟩
 refine AW.skip (AW.sr (AR.step Z Z Z (AO.xK [] Z Rl Z Z Z Z Z (fun v1=>(cs 1 Z ?_)))));refine AR.step Z Z Z (AO.TA (i:=0) (l2:=List.map aB.cells r0) Z Z Z Z Z Z Z Rl wB (fun y hy=>?_) (fun y hy=>?_) ?_ ?_ (fun v2 s1 hs1=>?_))
 ·obtain⟨s,_,rfl⟩:=ar4.1 hy;exact hlen s
 ·obtain⟨s,_,rfl⟩:=ar4.1 hy;exact hone s
 ·rw[as1];unfold rM at hl;unfold maxLen;omega
 ·rw[as1];unfold rM at hl;omega
 cases hs1;refine cs 1 Z (AR.nil [2] Z (AW.ret ?_));have hv:=h v2;rw[List.flatMap_def,show r0.length=(List.map aB.cells r0).length from (as1 _).symm]at hv;exact⟨rfl,_,⟨_,_,rfl,rfl,rfl⟩,_,List.Sublist.refl _,hv⟩
instance aiz(a1:aB)(b1:aB):CT Tryz.prog (Jc a1 b1) (fun r=>.ret (iP r)) 373 [.agg (qN a1),.agg (qN b1)]:=⟨zP rfl,fun {r0} hf {τ Q} h=>by
 unfold Jc at hf;refine BN 10 [.tmp 4] [0,1] Tryz.func373 Z Z Z Z Z ?_;refine BR hf fun x1 h1 hf=>?_;refine W 7 Z (CL Z ((xL _ _).h h1 ?_));cases hf;exact N 1 Z (Y Z h)⟩
theorem UA(a1 b1:aB){r0:Int}(hf:Jc a1 b1=some r0){τ:List aS}{Q:dN→List aS→Prop}(h:Q (.ret (iP r0)) τ):AC Tryz.prog 373 [.agg (qN a1),.agg (qN b1)] τ Q:=CT.h hf h
def Jk:Go.Shelf.Ren:=⟨fun|6=>372|15=>216|14=>403|28=>296|29=>297|20=>420|21=>421|22=>422|23=>423|24=>424|25=>425|26=>426|27=>427|46=>438|47=>340|48=>341|49=>439|50=>440|57=>444|n=>n,fun|22=>43|24=>60|25=>309|3=>3|39=>218|0=>0|53=>269|55=>271|4=>4|46=>263|45=>262|50=>239|5=>5|9=>9|66=>287|70=>291|76=>318|77=>319|n=>n,fun|n=>n⟩
theorem Oa:Go.Proofs.SlLaysF0.n6 Tryz.prog Jk:={
 mixed:=by kernel_rfl
 f6:=⟨Tryz.f372.name,by decide,Tryz.func372.trans (asZ some (by kernel_rfl))⟩
 f14:=⟨Tryz.f403.name,by decide,Tryz.func403.trans (asZ some (by kernel_rfl))⟩
 f15:=Tryz.func216.trans (asZ some (by kernel_rfl))
 f20:=⟨Tryz.f420.name,by decide,Tryz.func420.trans (asZ some (by kernel_rfl))⟩
 f21:=⟨Tryz.f421.name,by decide,Tryz.func421.trans (asZ some (by kernel_rfl))⟩
 f22:=⟨Tryz.f422.name,by decide,Tryz.func422.trans (asZ some (by kernel_rfl))⟩
 f23:=⟨Tryz.f423.name,by decide,Tryz.func423.trans (asZ some (by kernel_rfl))⟩
 f24:=⟨Tryz.f424.name,by decide,Tryz.func424.trans (asZ some (by kernel_rfl))⟩
 f25:=⟨Tryz.f425.name,by decide,Tryz.func425.trans (asZ some (by kernel_rfl))⟩
 f26:=⟨Tryz.f426.name,by decide,Tryz.func426.trans (asZ some (by kernel_rfl))⟩
 f27:=⟨Tryz.f427.name,by decide,Tryz.func427.trans (asZ some (by kernel_rfl))⟩
 f28:=Tryz.func296.trans (asZ some (by kernel_rfl))
 f29:=Tryz.func297.trans (asZ some (by kernel_rfl))
 f46:=⟨Tryz.f438.name,by decide,Tryz.func438.trans (asZ some (by kernel_rfl))⟩
 f47:=Tryz.func340.trans (asZ some (by kernel_rfl))
 f48:=Tryz.func341.trans (asZ some (by kernel_rfl))
 f49:=⟨Tryz.f439.name,by decide,Tryz.func439.trans (asZ some (by kernel_rfl))⟩
 f50:=⟨Tryz.f440.name,by decide,Tryz.func440.trans (asZ some (by kernel_rfl))⟩
 f57:=⟨Tryz.f444.name,by decide,Tryz.func444.trans (asZ some (by kernel_rfl))⟩
 t0:=Tryz.underlying0
 a0:=Tryz.isAgg0
 z0:=Tryz.sizeOf0
 v0:=Tryz.zeroValue0
 t3:=Tryz.underlying3
 a3:=Tryz.isAgg3
 z3:=Tryz.sizeOf3
 v3:=Tryz.zeroValue3
 t4:=Tryz.underlying4
 a4:=Tryz.isAgg4
 z4:=Tryz.sizeOf4
 v4:=Tryz.zeroValue4
 t5:=Tryz.underlying5
 a5:=Tryz.isAgg5
 z5:=Tryz.sizeOf5
 v5:=Tryz.zeroValue5
 t9:=Tryz.underlying9
 a9:=Tryz.isAgg9
 z9:=Tryz.sizeOf9
 v9:=Tryz.zeroValue9
 t22:=Tryz.underlying43
 a22:=Tryz.isAgg43
 z22:=Tryz.sizeOf43
 v22:=Tryz.zeroValue43
 t25:=Tryz.underlying309
 a25:=Tryz.isAgg309
 z25:=Tryz.sizeOf309
 v25:=Tryz.zeroValue309
 t39:=Tryz.underlying218
 a39:=Tryz.isAgg218
 z39:=Tryz.sizeOf218
 v39:=Tryz.zeroValue218
 t45:=Tryz.underlying262
 a45:=Tryz.isAgg262
 z45:=Tryz.sizeOf262
 v45:=Tryz.zeroValue262
 t46:=Tryz.underlying263
 a46:=Tryz.isAgg263
 z46:=Tryz.sizeOf263
 v46:=Tryz.zeroValue263
 t50:=Tryz.underlying239
 a50:=Tryz.isAgg239
 z50:=Tryz.sizeOf239
 v50:=Tryz.zeroValue239
 t53:=Tryz.underlying269
 a53:=Tryz.isAgg269
 z53:=Tryz.sizeOf269
 v53:=Tryz.zeroValue269
 t55:=Tryz.underlying271
 a55:=Tryz.isAgg271
 z55:=Tryz.sizeOf271
 v55:=Tryz.zeroValue271
 t66:=Tryz.underlying287
 a66:=Tryz.isAgg287
 z66:=Tryz.sizeOf287
 v66:=Tryz.zeroValue287
 t70:=Tryz.underlying291
 a70:=Tryz.isAgg291
 z70:=Tryz.sizeOf291
 v70:=Tryz.zeroValue291
 t76:=Tryz.underlying318
 a76:=Tryz.isAgg318
 z76:=Tryz.sizeOf318
 v76:=Tryz.zeroValue318
 t77:=Tryz.underlying319
 a77:=Tryz.isAgg319
 z77:=Tryz.sizeOf319
 v77:=Tryz.zeroValue319}
theorem Me(s1:List aB){r0:List aB}(hf:Vi (fun x=>x.name) s1=some r0){v:Value}{e:TypeId}{Q:dN→List aS→Prop}(h:Q (.ret (.tuple [])) [.buf v (List.map aB.cells r0).length 7 e (r0.flatMap aB.cells)]):
  PC 372 [.val v,.fn 373 []] [.buf v s1.length 7 e (s1.flatMap aB.cells)] Q:=by
 unfold Vi at hf;split at hf
 case isFalse=>cases hf
 rename_i hg;obtain⟨h1,h2,h3⟩:=hg;cases hf;rw[as1]at h
 exact AC.ado Oa aB.cells (k:=7) (by decide) (fun _=>Z) (fun _=>Z) apT aom amy (cf:=fun a b=>fT a.name b.name)
  (fun a b ha hb=>@UA Nn a b _ (KC (h2 a ha) (h2 b hb)) _ _ Z) (fun x hx=>by rw[PI]at hx;omega) (fun x y z a b=>CO a b) (fun x y z a b=>FM a b)
  (by
   rw[List.Nodup,List.pairwise_map]at h3;refine h3.imp fun {x y} hne=>?_;rcases Int.lt_trichotomy (fT x.name y.name) 0 with h|h|h
   ·exact .inl h
   ·exact absurd (yM h) hne
   ·right;rw[sH];omega)
  (by unfold rM at h1;omega) h
instance ZJ(iD:List aB):CT Tryz.prog (Dk iD) (fun r=>.ret (.tuple [.agg (aF r.1),iP r.2])) 335 [.list (List.map aB.cells iD)]:=⟨zP rfl,fun {r} hf {τ Q} h=>by
 obtain⟨r0,r1⟩:=r;unfold Dk at hf;refine BN 55 [.cell 2 34,.tmp 3] [0] Tryz.func335 Z Z Z Z Z (W 0 Z (AS Z (AO.bM Z oW (fun b2=>(U 2 Z (AS Z (AO.fQ (l:=iD) Z Z Z Z wB Z Z (J 1 Z (C hf Z (fun h1 hf=>?_) fun h1 hf=>?_)))))))))
 ·cases hf;exact Wx 3 [0] Z Z (ZC [0] Z Z h)
 refine W 1 Z (AS Z (AO.fQ (l:=iD) Z Z Z Z wB Z Z (J 1 Z (LK1 (fun i1=>[(0,.list (List.map aB.cells iD)),(2,pP b2),(15,iP (iD.length:Int)),(16,iP i1)]) (fun i1=>[.box b2 [iP 0,.bool false,iP 0,.str ([]:Str),.own (.slice none 0 0) [],.own (.slice none 0 0) []]]) (fun dW i1=>vK iD dW i1=some (r0,r1)) BIG 0 Z Z hf (fun _ hz=>kI hz) ?_))));intro dW i1 hf;rw[vK]at hf;refine V 1 Z (C hf Z (fun h2 hf=>?_) fun h2 hf=>?_)
 ·refine B1 hf fun e1 h3 hf=>W 4 Z (CL Z ((UE _ _).h h3 (J 3 Z (C hf Z (fun h4 hf=>?_) fun h4 hf=>?_))))
  ·cases hf;exact Wx 4 [0] Z Z (ZC [0] Z Z h)
  exact M 2 Z ⟨(bq (i1+1)),Z,Z,Z,hf⟩
 refine B1 hf fun Qt h5 hf=>W 1 Z (CL Z (AC.none (wJ _ h5 (fun v1=>?_))));refine B1 hf fun uh h6 hf=>U 2 rfl (CL rfl (AC.one 0 rfl (Me _ h6 ⟨_,rfl,(AR.freeze 6 0 (List.map aB.cells uh) rfl rfl rfl (fun x hx=>by obtain⟨s,_,rfl⟩:=ar4.1 hx;rfl) Z ?_)⟩)));refine U 1 Z (AS Z (AO.bM Z oW (fun b7=>(Rr 2 [0] Z Z (AS Z (AO.fQ (l:=uh) Z Z Z Z wB Z Z ?_))))));refine J 1 Z (AW.row 6 34 (AW.row 1 9 (LK4 (fun x1 bK v2 v3=>[(2,pP b2),(7,pP b7),(32,.own v1 (List.map aB.cells uh)),(33,iP (uh.length:Int)),(34,iP x1)]) (fun x1 bK v2 v3=>[.row v3 (List.map jy bK.keys).length 1 9,.row v2 (ah.bP bK.aP).length 6 34,.box b7 [iP bK.kind,.bool bK.dD,iP bK.cu,.str bK.bJ,.own v2 (ah.bP bK.aP),.own v3 (List.map jy bK.keys)],.row v1 (List.map aB.cells uh).length 7 60,.box b2 [iP 0,.bool false,iP 0,.str ([]:Str),.own (.slice none 0 0) [],.own (.slice none 0 0) []]]) (fun Xf x1 bK v2 v3=>vJ uh Xf x1 bK=some (r0,r1)) BIG 0 (ah.mk 5 false 0 ([]:Str) [] []) (.slice none 0 0) (.slice none 0 0) Z Z hf (fun _ _ _ _ hz=>kI hz) ?_)));intro Xf x1 bK v2 v3 hf;rw[vJ]at hf;refine V 1 Z (C hf Z (fun h7 hf=>?_) fun h7 hf=>?_)
 ·refine B1 hf fun e2 h8 hf=>W 0 Z (AS Z (AO.dV h8 Z Z Z Z wB (aB.aT _) Z (U 1 Z (AS Z (AO.bM Z abK (fun b9=>(Rr 5 [0,3,0] Z Z (AS Z (AO.fu (List.map jy ([e2.name]:List Str)) Z Pp Z Z Z Z ?_)))))))));refine B1 hf fun x2 h9 hf=>AS Z (AO.sO (i:=1) (l:=bK.keys) (m:=([e2.name]:List Str)) h9 Z Z Z Z Z Z Z Pp Fh Z Z Z (fun _=>Z) (fun _=>Z) (by decide) (fun v4 s1 hs1=>?_));cases hs1;refine Rw 2 [3] Z Z (AW.draw 6 mixed (by kernel_rfl) Z ?_);refine Ev.cs iy 1 Z (Ev.cons Z Z Z (AO.dX (i:=3) Z Z Z afH Z Z zg) (Ev.cs iy 1 Z (Ev.cons Z Z Z (AO.dX (i:=0) Z Z Z wP Z Z zg) ?_)));refine B1 hf fun x3 h10 hf=>Ev.cons rfl rfl rfl (AO.call rfl _ rfl rfl amz ((UF _).h h10 ⟨rfl,rfl⟩)) (Ev.cons rfl rfl rfl (AO.fu (ah.bP [x3]) rfl Pq rfl rfl rfl (by first|rfl|simp only[ah.aT,ah.bP]) ⟨rfl,rfl⟩) ?_);refine Ev.nil ?_;show AR _ _ _ _ _ _ _ _
  refine B1 hf fun x4 h11 hf=>AS Z (AO.sO (i:=2) (l:=bK.aP) (m:=[x3]) h11 Z Z Z Z Z Z Z Pq IK (ah.bI _) (ah.bI _) (ah.bI _).symm (ah.dL) (ah.cells_one) (by decide) (fun v5 s2 hs2=>?_));cases hs2;refine Rn 4 [3] Z Z (AR.drop1 ?_);exact N 0 Z ⟨(bq (x1+1)),(ah.mk bK.kind bK.dD bK.cu bK.bJ x4 x2),v5,v4,Z,Z,Z,hf⟩
 cases hf;exact Wx 3 [2,4] Z Z (ZC [4] Z Z h)⟩
section
variable [Dj]
@[reducible] def yS:fE aG ah→dN
 | .ok r=>.ret (.agg (aF r))
 | .bad e=>.panic (.iface 204 (.agg [iP e.code]))
@[reducible] def yT:fE aG ah→dN
 | .ok r=>.ret (.agg (aF r))
 | .bad e=>.panic (.iface 204 (.agg [iP e.code]))
@[reducible] def Ah:fE aG (List ah)→dN
 | .ok r=>.ret (.list (ah.bP r))
 | .bad e=>.panic (.iface 204 (.agg [iP e.code]))
@[reducible] def wE:fE aG ah→dN
 | .ok r=>.ret (.agg (aF r))
 | .bad e=>.panic (.iface 204 (.agg [iP e.code]))
@[reducible] def uH:fE aG ah→dN
 | .ok r=>.ret (.agg (aF r))
 | .bad e=>.panic (.iface 204 (.agg [iP e.code]))
abbrev nL(aZ:List aB→aj→Option (fE aG ah)):Prop:=∀(rR:List aB) (gB:aj) {yX:fE aG ah},aZ rR gB=some yX→∀ {τ:List aS} {Q:dN→List aS→Prop} (h:Q (yS yX) τ),PC 201 [.list (List.map aB.cells rR),.agg (aR gB)] τ Q
abbrev nM(cB:List aB→aj→Option (fE aG ah)):Prop:=∀(rR:List aB) (gB:aj) {yX:fE aG ah},cB rR gB=some yX→∀ {τ:List aS} {Q:dN→List aS→Prop} (h:Q (yT yX) τ),PC 268 [.list (List.map aB.cells rR),.agg (aR gB)] τ Q
abbrev oV(b_:List aB→List aj→Option (fE aG (List ah))):Prop:=∀(rR:List aB) (NQ:List aj) {yX:fE aG (List ah)},b_ rR NQ=some yX→∀ {τ:List aS} {Q:dN→List aS→Prop} (h:Q (Ah yX) τ),PC 273 [.list (List.map aB.cells rR),.list (aj.bP NQ)] τ Q
abbrev lT(bT:List aB→aj→Option (fE aG ah)):Prop:=∀(rR:List aB) (gB:aj) {yX:fE aG ah},bT rR gB=some yX→∀ {τ:List aS} {Q:dN→List aS→Prop} (h:Q (wE yX) τ),PC 270 [.list (List.map aB.cells rR),.agg (aR gB)] τ Q
abbrev kW(bO:List aB→aj→Option (fE aG ah)):Prop:=∀(rR:List aB) (gB:aj) {yX:fE aG ah},bO rR gB=some yX→∀ {τ:List aS} {Q:dN→List aS→Prop} (h:Q (uH yX) τ),PC 275 [.list (List.map aB.cells rR),.agg (aR gB)] τ Q
theorem Mv(aZ)(bN:nL aZ)(cB)(lS:nM cB)(b_)(iC:oV b_)(bT)(ko:lT bT)(bO)(jS:kW bO)(s1:List aB)(e1:aj){rX:fE aG ah}(hf:uq aZ cB b_ bT bO s1 e1=some rX)(h:Q (yS rX) τ):PC 201 [.list (List.map aB.cells s1),.agg (aR e1)] τ Q:=by
 unfold uq at hf;refine BN 104 [.cell 4 34] [0,1] Tryz.func201 Z Z Z Z Z (W 1 Z (AS Z (AO.bM Z oW (fun b4=>(J 4 Z (C hf Z (fun h1 hf=>?_) fun h1 hf=>?_))))))
 ·cases hf;exact Wx 3 [0] Z Z (ZC [0] Z Z h)
 refine V 2 Z (C hf Z (fun h2 hf=>?_) fun h2 hf=>?_)
 ·rcases eD hf with⟨e2,h3,hf⟩|⟨x1,h3,hf⟩
  ·refine W 3 Z (CL Z ((Fv _ _).h h3 ?_));cases hf;exact⟨Z,[],asY _,h⟩
  refine W 3 Z (CL Z ((Fv _ _).h h3 ?_));cases hf;exact Rx 1 [0] Z Z (ZC [0] Z Z h)
 refine V 2 Z (C hf Z (fun h4 hf=>?_) fun h4 hf=>?_)
 ·refine B1 hf fun e3 h5 hf=>?_;rcases eD hf with⟨e4,h6,hf⟩|⟨x2,h6,hf⟩
  ·refine V 0 Z (AW.acJ 5 8 mixed (by kernel_rfl) Z Z ?_);refine Ev.cs iy 3 Z (Ev.cons Z Z Z (AO.dV h5 Z Z (aj.bI _) Z qI (aj.aT _) Z zg) (Ev.cs iy 1 Z (Ev.nil ?_)));refine⟨_,_,Z,Z,Z,Z,AO.call Z _ Z Z Jv (bN _ _ h6 ?_),?_⟩
   ·cases hf;exact⟨Z,[],asY _,h⟩
   refine Ev.cs iy 2 Z (Ev.nil ?_);trivial
  refine V 0 Z (AW.draw 9 mixed (by kernel_rfl) Z ?_);refine Ev.cs iy 3 Z (Ev.cons Z Z Z (AO.dV h5 Z Z (aj.bI _) Z qI (aj.aT _) Z zg) (Ev.cs iy 1 Z (Ev.cons Z Z Z (AO.call Z _ Z Z Jv (bN _ _ h6 zg)) ?_)));refine Ev.cs iy 2 Z ?_;refine B1 hf fun x3 h7 hf=>Ev.cons Z Z Z (AO.call Z _ Z Z agf ((PZ _).h h7 zg)) (Ev.nil ?_);show AR _ _ _ _ _ _ _ _;rcases eD hf with⟨e5,h8,hf⟩|⟨x4,h8,hf⟩
  ·refine CL Z ((NK _ _).h h8 ?_);cases hf;exact⟨Z,[],asY _,h⟩
  refine CL Z ((NK _ _).h h8 ?_);cases hf;exact Rx 1 [0] Z Z (ZC [0] Z Z h)
 refine V 2 Z (C hf Z (fun h9 hf=>?_) fun h9 hf=>?_)
 ·refine B1 hf fun e6 h10 hf=>W 3 Z (AS Z (AO.dV h10 Z Z (aj.bI _) Z qI (aj.aT _) Z ?_));rcases eD hf with⟨e7,h11,hf⟩|⟨x5,h11,hf⟩
  ·refine U 1 Z (CL Z (bN _ _ h11 ?_));cases hf;exact⟨Z,[],asY _,h⟩
  refine U 1 Z (CL Z (bN _ _ h11 (AS Z (AO.bM Z oW (fun b5=>?_)))));refine B1 hf fun e8 h12 hf=>?_;rcases eD hf with⟨e9,KY,hf⟩|⟨x6,KY,hf⟩
  ·refine Rw 1 [0] Z Z (AW.acJ 6 7 mixed (by kernel_rfl) Z Z ?_);refine Ev.cons Z Z Z (AO.dX (i:=0) Z Z Z wP Z Z zg) (Ev.cs iy 3 Z (Ev.cons Z Z Z (AO.dV h12 Z Z (aj.bI _) Z qI (aj.aT _) Z zg) (Ev.cs iy 1 Z ?_)));refine Ev.nil (⟨_,_,Z,Z,Z,Z,AO.call Z _ Z Z Jv (bN _ _ KY ?_),?_⟩)
   ·cases hf;exact⟨Z,[],asY _,h⟩
   refine Ev.nil ?_;trivial
  refine Rw 1 [0] Z Z (AW.draw 7 mixed (by kernel_rfl) Z ?_);refine Ev.cons Z Z Z (AO.dX (i:=0) Z Z Z wP Z Z zg) (Ev.cs iy 3 Z (Ev.cons Z Z Z (AO.dV h12 Z Z (aj.bI _) Z qI (aj.aT _) Z zg) (Ev.cs iy 1 Z ?_)));refine Ev.cons Z Z Z (AO.call Z _ Z Z Jv (bN _ _ KY zg)) (Ev.nil ?_);show AR _ _ _ _ _ _ _ _;rcases eD hf with⟨e10,I6,hf⟩|⟨x7,I6,hf⟩
  ·refine CL Z ((Ki _ _).h I6 ?_);cases hf;exact⟨Z,[],asY _,h⟩
  refine CL Z ((Ki _ _).h I6 ?_);cases hf;exact Rx 1 [1] Z Z (ZC [1] Z Z h)
 refine V 2 Z (C hf Z (fun LX hf=>?_) fun LX hf=>?_)
 ·rcases eD hf with⟨e11,h16,hf⟩|⟨x8,h16,hf⟩
  ·refine W 2 Z (CL Z (lS _ _ h16 ?_));cases hf;exact⟨Z,[],asY _,h⟩
  refine W 2 Z (CL Z (lS _ _ h16 ?_));cases hf;exact Rx 1 [0] Z Z (ZC [0] Z Z h)
 refine V 2 Z (C hf Z (fun h17 hf=>?_) fun h17 hf=>?_)
 ·refine B1 hf fun e12 h18 hf=>?_;rcases eD hf with⟨e13,h19,hf⟩|⟨x9,h19,hf⟩
  ·refine V 0 Z (AW.acJ 7 8 mixed (by kernel_rfl) Z Z ?_);refine Ev.cs iy 5 Z (Ev.cons Z Z Z (AO.dV h18 Z Z (aj.bI _) Z qI (aj.aT _) Z zg) (Ev.cs iy 1 Z (Ev.nil ?_)));refine⟨_,_,Z,Z,Z,Z,AO.call Z _ Z Z Jv (bN _ _ h19 ?_),?_⟩
   ·cases hf;exact⟨Z,[],asY _,h⟩
   refine Ev.nil ?_;trivial
  refine V 0 Z (AW.draw 8 mixed (by kernel_rfl) Z ?_);refine Ev.cs iy 5 Z (Ev.cons Z Z Z (AO.dV h18 Z Z (aj.bI _) Z qI (aj.aT _) Z zg) (Ev.cs iy 1 Z (Ev.cons Z Z Z (AO.call Z _ Z Z Jv (bN _ _ h19 zg)) ?_)));refine Ev.nil ?_;show AR _ _ _ _ _ _ _ _;rcases eD hf with⟨e14,h20,hf⟩|⟨G8,h20,hf⟩
  ·refine CL Z ((NJ _ _).h h20 ?_);cases hf;exact⟨Z,[],asY _,h⟩
  refine CL Z ((NJ _ _).h h20 ?_);cases hf;exact Rx 1 [0] Z Z (ZC [0] Z Z h)
 refine V 2 Z (C hf Z (fun h21 hf=>?_) fun h21 hf=>?_)
 ·rcases eD hf with⟨e15,h22,hf⟩|⟨NP,h22,hf⟩
  ·refine W 2 Z (CL Z (ko _ _ h22 ?_));cases hf;exact⟨Z,[],asY _,h⟩
  refine W 2 Z (CL Z (ko _ _ h22 ?_));cases hf;exact Rx 1 [0] Z Z (ZC [0] Z Z h)
 refine V 2 Z (C hf Z (fun h23 hf=>?_) fun h23 hf=>?_)
 ·refine B1 hf fun e16 Zd hf=>W 3 Z (AS Z (AO.dV Zd Z Z (aj.bI _) Z qI (aj.aT _) Z ?_));rcases eD hf with⟨e17,h25,hf⟩|⟨U3,h25,hf⟩
  ·refine U 1 Z (CL Z (bN _ _ h25 ?_));cases hf;exact⟨Z,[],asY _,h⟩
  refine U 1 Z (CL Z (bN _ _ h25 ?_));rcases eD hf with⟨e18,h26,hf⟩|⟨Ua,h26,hf⟩
  ·refine CL Z ((wu _).h h26 ?_);cases hf;exact⟨Z,[],asY _,h⟩
  refine CL Z ((wu _).h h26 (J 0 Z (C hf Z (fun h27 hf=>?_) fun h27 hf=>?_)))
  ·refine B1 hf fun e19 h28 hf=>W 3 Z (AS Z (AO.dV h28 Z Z (aj.bI _) Z qI (aj.aT _) Z ?_));rcases eD hf with⟨e20,h29,hf⟩|⟨Z7,h29,hf⟩
   ·refine U 1 Z (CL Z (bN _ _ h29 ?_));cases hf;exact⟨Z,[],asY _,h⟩
   refine U 1 Z (CL Z (bN _ _ h29 ?_));cases hf;exact Rx 1 [0] Z Z (ZC [0] Z Z h)
  refine B1 hf fun e21 h30 hf=>W 3 Z (AS Z (AO.dV h30 Z Z (aj.bI _) Z qI (aj.aT _) Z ?_));rcases eD hf with⟨e22,h31,hf⟩|⟨x15,h31,hf⟩
  ·refine U 1 Z (CL Z (bN _ _ h31 ?_));cases hf;exact⟨Z,[],asY _,h⟩
  refine U 1 Z (CL Z (bN _ _ h31 ?_));cases hf;exact Rx 1 [0] Z Z (ZC [0] Z Z h)
 refine V 2 Z (C hf Z (fun h32 hf=>?_) fun h32 hf=>?_)
 ·rcases eD hf with⟨e23,XZ,hf⟩|⟨Z6,XZ,hf⟩
  ·refine W 3 Z (CL Z (iC _ _ XZ ?_));cases hf;exact⟨Z,[],asY _,h⟩
  refine W 3 Z (CL Z (iC _ _ XZ ?_));refine B1 hf fun x17 NR hf=>CL Z ((XU _).h NR (AS Z (AO.bM Z oW (fun b6=>?_))));refine B1 hf fun x18 h35 hf=>Rr 2 [0,0] Z Z (CL Z ((FT _).h h35 ?_));rcases eD hf with⟨e24,h36,hf⟩|⟨_,h36,hf⟩
  ·refine U 1 Z (CL Z ((rW _ _).h h36 ?_));cases hf;exact⟨Z,[],asY _,h⟩
  refine U 1 Z (CL Z ((rW _ _).h h36 ?_));cases hf;exact Rx 2 [0,1] Z Z (ZC [1] Z Z h)
 rcases eD hf with⟨e25,h37,hf⟩|⟨x19,h37,hf⟩
 ·refine W 2 Z (CL Z (jS _ _ h37 ?_));cases hf;exact⟨Z,[],asY _,h⟩
 refine W 2 Z (CL Z (jS _ _ h37 ?_));cases hf;exact Rx 1 [0] Z Z (ZC [0] Z Z h)
theorem Mw(aZ)(bN:nL aZ)(cB)(lS:nM cB)(b_)(iC:oV b_)(bT)(ko:lT bT)(bO)(jS:kW bO)(s1:List aB)(e1:aj){rX:fE aG ah}(hf:qx aZ cB b_ bT bO s1 e1=some rX)(h:Q (yT rX) τ):PC 268 [.list (List.map aB.cells s1),.agg (aR e1)] τ Q:=by
 unfold qx at hf;refine BN 40 [.cell 4 34] [0,1] Tryz.func268 Z Z Z Z Z (W 1 Z (AS Z (AO.bM Z oW (fun b4=>?_))));refine B1 hf fun n1 h1 hf=>U 2 Z (CL Z ((XT _).h h1 ?_));rcases eD hf with⟨e2,h2,hf⟩|⟨_,h2,hf⟩
 ·refine U 3 Z (CL Z ((rW _ _).h h2 ?_));cases hf;exact⟨Z,[],asY _,h⟩
 refine U 3 Z (CL Z ((rW _ _).h h2 (U 2 Z (AS Z (AO.fQ (l:=e1.args) Z Z Z Z qI Z (aj.bI _) ?_)))));rcases eD hf with⟨e3,h3,hf⟩|⟨_,h3,hf⟩
 ·refine U 2 Z (CL Z ((rW _ _).h h3 ?_));cases hf;exact⟨Z,[],asY _,h⟩
 refine U 2 Z (CL Z ((rW _ _).h h3 ?_));rcases eD hf with⟨e4,h4,hf⟩|⟨args1,h4,hf⟩
 ·refine U 3 Z (CL Z (iC _ _ h4 ?_));cases hf;exact⟨Z,[],asY _,h⟩
 refine U 3 Z (CL Z (iC _ _ h4 (J 3 Z (C hf Z (fun h5 hf=>?_) fun h5 hf=>?_))))
 ·refine V 0 Z (AW.draw 5 mixed (by kernel_rfl) Z ?_);refine Ev.cs iy 3 Z ?_;refine B1 hf fun e5 h6 hf=>Ev.cons Z Z Z (AO.dV h6 Z Z (ah.bI _) Z IK (ah.aT _) Z zg) (Ev.cs iy 1 Z (Ev.nil ?_));show AR _ _ _ _ _ _ _ _;rcases eD hf with⟨e6,h7,hf⟩|⟨x1,h7,hf⟩
  ·refine CL Z ((TW _ _).h h7 ?_);cases hf;exact⟨Z,[],asY _,h⟩
  refine CL Z ((TW _ _).h h7 ?_);cases hf;exact Rx 1 [0] Z Z (ZC [0] Z Z h)
 refine V 0 Z (AW.draw 8 mixed (by kernel_rfl) Z ?_);refine Ev.cs iy 3 Z ?_;refine B1 hf fun e7 h8 hf=>Ev.cons Z Z Z (AO.dV h8 Z Z (ah.bI _) Z IK (ah.aT _) Z zg) (Ev.cs iy 2 Z ?_);refine B1 hf fun e8 h9 hf=>Ev.cons Z Z Z (AO.dV h9 Z Z (ah.bI _) Z IK (ah.aT _) Z zg) (Ev.cs iy 1 Z (Ev.nil ?_));show AR _ _ _ _ _ _ _ _;rcases eD hf with⟨e9,h10,hf⟩|⟨x2,h10,hf⟩
 ·refine CL Z ((TU _ _ _).h h10 ?_);cases hf;exact⟨Z,[],asY _,h⟩
 refine CL Z ((TU _ _ _).h h10 ?_);cases hf;exact Rx 1 [0] Z Z (ZC [0] Z Z h)
theorem NT(aZ)(bN:nL aZ)(cB)(lS:nM cB)(b_)(iC:oV b_)(bT)(ko:lT bT)(bO)(jS:kW bO)(s1:List aB)(l1:List aj){rX:fE aG (List ah)}(hf:AA aZ cB b_ bT bO s1 l1=some rX)(h:Q (Ah rX) τ):PC 273 [.list (List.map aB.cells s1),.list (aj.bP l1)] τ Q:=by
 unfold AA at hf;refine BN 22 [.tmp 4] [0,1] Tryz.func273 Z Z Z Z Z (W 0 Z (AS Z (AO.jV Z Z (U 2 Z (AS Z (AO.fQ (l:=l1) Z Z Z Z qI Z (aj.bI _) (J 1 Z (AW.row 6 34 (LK3 (fun bK v1 x1=>[(0,.list (List.map aB.cells s1)),(5,.own v1 (ah.bP bK)),(8,.list (aj.bP l1)),(9,iP (l1.length:Int)),(10,iP x1)]) (fun bK v1 x1=>[.row v1 (ah.bP bK).length 6 34]) (fun dW bK v1 x1=>nG aZ s1 l1 dW bK x1=some rX) BIG [] (.slice none 0 0) 0 Z Z hf (fun _ _ _ hz=>kI hz) ?_)))))))));intro dW bK v1 x1 hf;rw[nG]at hf;refine V 1 Z (C hf Z (fun h1 hf=>?_) fun h1 hf=>?_)
 ·refine B1 hf fun e1 h2 hf=>W 0 Z (AS Z (AO.dV h2 Z Z (aj.bI _) Z qI (aj.aT _) Z (U 1 Z (AS Z (AO.bM Z K4 (fun b7=>?_))))));rcases eD hf with⟨e2,h3,hf⟩|⟨x2,h3,hf⟩
  ·refine Rr 4 [0,0] Z Z (CL Z (bN _ _ h3 ?_));cases hf;exact⟨Z,[],asY _,h⟩
  refine Rr 4 [0,0] rfl rfl (CL rfl (bN _ _ h3 (AS rfl (AO.fu (ah.bP [x2]) rfl Pq rfl rfl rfl (by first|rfl|simp only[ah.aT,ah.bP]) ?_))));refine B1 hf fun yQ h4 hf=>AS Z (AO.sO (i:=1) (l:=bK) (m:=[x2]) h4 Z Z Z Z Z Z Z Pq IK (ah.bI _) (ah.bI _) (ah.bI _).symm (ah.dL) (ah.cells_one) (by decide) (fun v2 s2 hs2=>?_));cases hs2;refine uG 3 Z (AR.drop1 ?_);exact N 0 Z ⟨yQ,v2,(bq (x1+1)),Z,Z,Z,hf⟩
 cases hf;exact M 2 Z (Y Z h)
theorem KV(aZ)(bN:nL aZ)(cB)(lS:nM cB)(b_)(iC:oV b_)(bT)(ko:lT bT)(bO)(jS:kW bO)(s1:List aB)(e1:aj){rX:fE aG ah}(hf:nQ aZ cB b_ bT bO s1 e1=some rX)(h:Q (wE rX) τ):PC 270 [.list (List.map aB.cells s1),.agg (aR e1)] τ Q:=by
 unfold nQ at hf;refine BN 95 [.cell 4 34] [0,1] Tryz.func270 Z Z Z Z Z (W 1 Z (AS Z (AO.bM Z oW (fun b4=>?_))));refine B1 hf fun e2 h1 hf=>U 3 Z (AS Z (AO.dV h1 Z Z (aj.bI _) Z qI (aj.aT _) Z ?_));rcases eD hf with⟨e3,h2,hf⟩|⟨x1,h2,hf⟩
 ·refine U 1 Z (CL Z (bN _ _ h2 ?_));cases hf;exact⟨Z,[],asY _,h⟩
 refine U 1 Z (CL Z (bN _ _ h2 (AS Z (AO.bM Z oW (fun b5=>(Rr 5 [0] Z Z (On 4 16 20 [0,3,4,5] (e1.name==([124,124]:Str)) Z Z Z Z (J 0 Z (C hf Z (fun h4 hf=>?_) fun h4 hf=>?_)))))))))
 ·rcases eD hf with⟨e4,h5,hf⟩|⟨x2,h5,hf⟩
  ·refine V 0 Z (AW.acJ 1 5 mixed (by kernel_rfl) Z Z ?_);refine Ev.cons Z Z Z (AO.dX (i:=0) Z Z Z wP Z Z zg) (Ev.nil (⟨_,_,Z,Z,Z,Z,AO.call Z _ Z Z agd ((wu _).h h5 ?_),?_⟩))
   ·cases hf;exact⟨Z,[],asY _,h⟩
   refine Ev.cs iy 3 Z (Ev.nil ?_);trivial
  refine V 0 Z (AW.draw 6 mixed (by kernel_rfl) Z ?_);refine Ev.cons Z Z Z (AO.dX (i:=0) Z Z Z wP Z Z zg) (Ev.cons Z Z Z (AO.call Z _ Z Z agd ((wu _).h h5 zg)) (Ev.cs iy 3 Z (Ev.cons Z Z Z (AO.Tq Z ai_ Z Z zg) ?_)));refine Ev.nil ?_;show AR _ _ _ _ _ _ _ _;refine J 0 Z (C hf Z (fun h6 hf=>?_) fun h6 hf=>?_)
  ·cases hf;exact Wx 2 [0,1] Z Z (ZC [1] Z Z h)
  refine B1 hf fun e5 h7 hf=>W 3 Z (AS Z (AO.dV h7 Z Z (aj.bI _) Z qI (aj.aT _) Z ?_));rcases eD hf with⟨e6,h8,hf⟩|⟨x3,h8,hf⟩
  ·refine U 1 Z (CL Z (bN _ _ h8 ?_));cases hf;exact⟨Z,[],asY _,h⟩
  refine U 1 Z (CL Z (bN _ _ h8 ?_));rcases eD hf with⟨e7,h9,hf⟩|⟨x4,h9,hf⟩
  ·refine CL Z ((wu _).h h9 ?_);cases hf;exact⟨Z,[],asY _,h⟩
  refine CL Z ((wu _).h h9 ?_);refine B1 hf fun x5 h10 hf=>CL Z ((pF _).h h10 ?_);cases hf;exact Rx 1 [1] Z Z (ZC [1] Z Z h)
 refine B1 hf fun e8 h11 hf=>W 3 Z (AS Z (AO.dV h11 Z Z (aj.bI _) Z qI (aj.aT _) Z ?_));rcases eD hf with⟨e9,h12,hf⟩|⟨x6,h12,hf⟩
 ·refine U 1 Z (CL Z (bN _ _ h12 ?_));cases hf;exact⟨Z,[],asY _,h⟩
 refine U 1 Z (CL Z (bN _ _ h12 (AS Z (AO.bM Z oW (fun b6=>(Rw 5 [0] Z Z (C hf Z (fun KY hf=>?_) fun KY hf=>?_)))))))
 ·refine B1 hf fun x7 I6 hf=>Wr 2 [1,0] Z Z (CL Z ((Lm _ _).h I6 ?_));refine B1 hf fun x8 LX hf=>CL Z ((pF _).h LX ?_);cases hf;exact Rx 1 [2] Z Z (ZC [2] Z Z h)
 refine V 2 Z (C hf Z (fun h16 hf=>?_) fun h16 hf=>?_)
 ·refine B1 hf fun x9 h17 hf=>Wr 2 [1,0] Z Z (CL Z ((Lm _ _).h h17 ?_));refine B1 hf fun G8 h18 hf=>U 1 Z (CL Z ((pF _).h h18 ?_));cases hf;exact Rx 1 [2] Z Z (ZC [2] Z Z h)
 refine V 2 Z (C hf Z (fun h19 hf=>?_) fun h19 hf=>?_)
 ·rcases eD hf with⟨e10,h20,hf⟩|⟨NP,h20,hf⟩
  ·refine Wr 2 [1,0] Z Z (CL Z ((qC _ _).h h20 ?_));cases hf;exact⟨Z,[],asY _,h⟩
  refine Wr 2 [1,0] Z Z (CL Z ((qC _ _).h h20 ?_));refine B1 hf fun U3 h21 hf=>U 1 Z (CL Z ((pF _).h h21 ?_));cases hf;exact Rx 1 [2] Z Z (ZC [2] Z Z h)
 refine V 2 Z (C hf Z (fun h22 hf=>?_) fun h22 hf=>?_)
 ·rcases eD hf with⟨e11,h23,hf⟩|⟨Ua,h23,hf⟩
  ·refine Wr 2 [1,0] Z Z (CL Z ((qC _ _).h h23 ?_));cases hf;exact⟨Z,[],asY _,h⟩
  refine Wr 2 [1,0] Z Z (CL Z ((qC _ _).h h23 ?_));refine B1 hf fun Z7 Zd hf=>U 1 Z (CL Z ((pF _).h Zd ?_));cases hf;exact Rx 1 [2] Z Z (ZC [2] Z Z h)
 refine V 2 Z (C hf Z (fun h25 hf=>?_) fun h25 hf=>?_)
 ·rcases eD hf with⟨e12,h26,hf⟩|⟨x15,h26,hf⟩
  ·refine Wr 2 [1,0] Z Z (CL Z ((qC _ _).h h26 ?_));cases hf;exact⟨Z,[],asY _,h⟩
  refine Wr 2 [1,0] Z Z (CL Z ((qC _ _).h h26 ?_));refine B1 hf fun Z6 h27 hf=>U 1 Z (CL Z ((pF _).h h27 ?_));cases hf;exact Rx 1 [2] Z Z (ZC [2] Z Z h)
 refine V 2 Z (C hf Z (fun h28 hf=>?_) fun h28 hf=>?_)
 ·rcases eD hf with⟨e13,h29,hf⟩|⟨x17,h29,hf⟩
  ·refine Wr 2 [1,0] Z Z (CL Z ((qC _ _).h h29 ?_));cases hf;exact⟨Z,[],asY _,h⟩
  refine Wr 2 [1,0] Z Z (CL Z ((qC _ _).h h29 ?_));refine B1 hf fun x18 h30 hf=>U 1 Z (CL Z ((pF _).h h30 ?_));cases hf;exact Rx 1 [2] Z Z (ZC [2] Z Z h)
 refine V 2 Z (C hf Z (fun h31 hf=>?_) fun h31 hf=>?_)
 ·rcases eD hf with⟨e14,h32,hf⟩|⟨x19,h32,hf⟩
  ·refine Wr 2 [1,0] Z Z (CL Z ((TV _ _).h h32 ?_));cases hf;exact⟨Z,[],asY _,h⟩
  refine Wr 2 [1,0] Z Z (CL Z ((TV _ _).h h32 ?_));cases hf;exact Rx 1 [2] Z Z (ZC [2] Z Z h)
 rcases eD hf with⟨e15,XZ,hf⟩|⟨x20,XZ,hf⟩
 ·refine Wr 4 [1,0] Z Z (CL Z ((Fx _ _ _).h XZ ?_));cases hf;exact⟨Z,[],asY _,h⟩
 refine Wr 4 [1,0] Z Z (CL Z ((Fx _ _ _).h XZ ?_));cases hf;exact Rx 1 [2] Z Z (ZC [2] Z Z h)
theorem Jb(aZ)(bN:nL aZ)(cB)(lS:nM cB)(b_)(iC:oV b_)(bT)(ko:lT bT)(bO)(jS:kW bO)(s1:List aB)(e1:aj){rX:fE aG ah}(hf:ni aZ cB b_ bT bO s1 e1=some rX)(h:Q (uH rX) τ):PC 275 [.list (List.map aB.cells s1),.agg (aR e1)] τ Q:=by
 unfold ni at hf;refine BN 41 [.cell 4 34] [0,1] Tryz.func275 Z Z Z Z Z (W 1 Z (AS Z (AO.bM Z oW (fun b4=>?_))));rcases eD hf with⟨e2,h1,hf⟩|⟨x1,h1,hf⟩
 ·refine U 4 Z (CL Z (iC _ _ h1 ?_));cases hf;exact⟨Z,[],asY _,h⟩
 refine U 4 Z (CL Z (iC _ _ h1 (AS Z (AO.fQ (l:=x1) Z Z Z Z IK Z (ah.bI _) ?_))));refine J 1 Z (AW.row 7 60 (LK3 (fun iD v1 i1=>[(3,.ref (aR e1)),(4,pP b4),(5,.own v1 (List.map aB.cells iD)),(13,.list (ah.bP x1)),(14,iP (x1.length:Int)),(15,iP i1)]) (fun iD v1 i1=>[.row v1 (List.map aB.cells iD).length 7 60,.box b4 [iP 0,.bool false,iP 0,.str ([]:Str),.own (.slice none 0 0) [],.own (.slice none 0 0) []]]) (fun dW iD v1 i1=>l8 e1 x1 dW iD i1=some rX) BIG [] (.slice none 0 0) 0 Z Z hf (fun _ _ _ hz=>kI hz) ?_));intro dW iD v1 i1 hf;rw[l8]at hf;refine V 1 Z (C hf Z (fun h2 hf=>?_) fun h2 hf=>?_)
 ·refine B1 hf fun e3 h3 hf=>W 1 Z (AS Z (AO.dV h3 Z Z (ah.bI _) Z IK (ah.aT _) Z (U 1 Z (AS Z (AO.bM Z oW (fun b7=>(Rw 2 [0] Z Z (AW.draw 9 mixed (by kernel_rfl) Z ?_))))))));refine Ev.cs iy 4 Z ?_;refine B1 hf fun e4 h4 hf=>Ev.cons Z Z Z (AO.dV h4 Z Z Z Z Fh Z Z zg) (Ev.cs iy 1 Z (Ev.cons Z Z Z (AO.dX (i:=0) Z Z Z wP Z Z zg) (Ev.cons Z Z Z (AO.build Z abK ams Z zg) ?_)));refine Ev.cons rfl rfl rfl (AO.fu (List.map aB.cells [(aB.mk e4 e3)]) rfl Rl rfl rfl rfl (by first|rfl|simp only[List.map,aB.aT]) ⟨rfl,rfl⟩) ?_;refine Ev.nil ?_;show AR _ _ _ _ _ _ _ _
  refine B1 hf fun FY h5 hf=>AS Z (AO.sO (i:=1) (l:=iD) (m:=[(aB.mk e4 e3)]) h5 Z Z Z Z Z Z Z Rl wB Z Z Z (aB.dL) (aB.cells_one) (by decide) (fun v2 s2 hs2=>?_));cases hs2;refine uG 3 Z (AR.drop1 ?_);exact N 0 Z ⟨FY,v2,(bq (i1+1)),Z,Z,Z,hf⟩
 obtain⟨x2,nH,h6,hf⟩:=gL hf;refine W 1 Z (CL Z ((ZJ _).h h6 (U 3 Z (AS Z (AO.bM Z oW (fun b8=>?_))))));rcases eD hf with⟨e5,h7,hf⟩|⟨_,h7,hf⟩
 ·refine Rr 5 [0] Z Z (CL Z ((rW _ _).h h7 ?_));cases hf;exact⟨Z,[],asY _,h⟩
 refine Rr 5 [0] Z Z (CL Z ((rW _ _).h h7 ?_));cases hf;exact Rx 2 [0,2] Z Z (ZC [2] Z Z h)
theorem qm:∀k:Nat,(nL (dw k))∧(nM (eG k))∧(oV (fq k))∧(lT (dQ k))∧(kW (dJ k)):=by
 intro k
 induction k with
 | zero=>exact⟨fun _ _ _ hz=>by first|cases hz|(unfold dw at hz;cases hz),fun _ _ _ hz=>by first|cases hz|(unfold eG at hz;cases hz),fun _ _ _ hz=>by first|cases hz|(unfold fq at hz;cases hz),fun _ _ _ hz=>by first|cases hz|(unfold dQ at hz;cases hz),fun _ _ _ hz=>by first|cases hz|(unfold dJ at hz;cases hz)⟩
 | succ k ih=>exact⟨fun rR gB yX hz τ Q hq=>Mv (dw k) ih.1 (eG k) ih.2.1 (fq k) ih.2.2.1 (dQ k) ih.2.2.2.1 (dJ k) ih.2.2.2.2 rR gB hz hq,fun rR gB yX hz τ Q hq=>Mw (dw k) ih.1 (eG k) ih.2.1 (fq k) ih.2.2.1 (dQ k) ih.2.2.2.1 (dJ k) ih.2.2.2.2 rR gB hz hq,fun rR NQ yX hz τ Q hq=>NT (dw k) ih.1 (eG k) ih.2.1 (fq k) ih.2.2.1 (dQ k) ih.2.2.2.1 (dJ k) ih.2.2.2.2 rR NQ hz hq,fun rR gB yX hz τ Q hq=>KV (dw k) ih.1 (eG k) ih.2.1 (fq k) ih.2.2.1 (dQ k) ih.2.2.2.1 (dJ k) ih.2.2.2.2 rR gB hz hq,fun rR gB yX hz τ Q hq=>Jb (dw k) ih.1 (eG k) ih.2.1 (fq k) ih.2.2.1 (dQ k) ih.2.2.2.1 (dJ k) ih.2.2.2.2 rR gB hz hq⟩
instance Fw(rR:List aB)(gB:aj):CT Tryz.prog (Ch rR gB) (fun r=>yS r) 201 [.list (List.map aB.cells rR),.agg (aR gB)]:=⟨zP rfl,fun {r} hf {τ Q} h=>((qm BIG).1) rR gB hf h⟩
instance ac7(rR:List aB)(gB:aj):CT Tryz.prog (Qd rR gB) (fun r=>yT r) 268 [.list (List.map aB.cells rR),.agg (aR gB)]:=⟨zP rfl,fun {r} hf {τ Q} h=>((qm BIG).2.1) rR gB hf h⟩
instance aeG(rR:List aB)(NQ:List aj):CT Tryz.prog (SF rR NQ) (fun r=>Ah r) 273 [.list (List.map aB.cells rR),.list (aj.bP NQ)]:=⟨zP rfl,fun {r} hf {τ Q} h=>((qm BIG).2.2.1) rR NQ hf h⟩
instance aae(rR:List aB)(gB:aj):CT Tryz.prog (Nt rR gB) (fun r=>wE r) 270 [.list (List.map aB.cells rR),.agg (aR gB)]:=⟨zP rfl,fun {r} hf {τ Q} h=>((qm BIG).2.2.2.1) rR gB hf h⟩
instance ZY(rR:List aB)(gB:aj):CT Tryz.prog (L6 rR gB) (fun r=>uH r) 275 [.list (List.map aB.cells rR),.agg (aR gB)]:=⟨zP rfl,fun {r} hf {τ Q} h=>((qm BIG).2.2.2.2) rR gB hf h⟩
end
section
variable [Dj]
instance aeF(s1:List aB)(e1:aj):CT Tryz.prog (zU s1 e1) (fun r=>.ret (.tuple [.agg (aF r.1),iP r.2])) 126 [.list (List.map aB.cells s1),.agg (aR e1)]:=⟨zP rfl,fun {r} hf {τ Q} h=>by
 obtain⟨r0,r1⟩:=r;unfold zU at hf;refine AC.none (AC.PG 10 [.cell 4 34,.cell 5 24] [0,1] [0,1] Tryz.func126 Z Z Z Z Z Tryz.func200 Z Z Z Z Z Z Z amG (AW.sr (AR.step Z Z Z (AO.Ip Z Z Z ?_))));refine AR.step Z Z Z (AO.bM Z oW (fun b4=>(AR.step Z Z Z (AO.bM Z abL (fun b5=>(AR.nil [0,3,4,5] Z (AW.sr ?_)))))));refine cs 1 Z (AR.defer (vs:=[.pointer (some ⟨b4,0,none⟩),.pointer (some ⟨b5,0,none⟩)]) Z Z Z Z Z Z (AR.nil [0,3,4,5] Z (AW.sr ?_)));refine cs 2 Z ?_;rcases eD hf with⟨f1,h1,hf⟩|⟨v1,h1,hf⟩
 ·refine AR.step Z Z Z (AO.call Z _ Z Z Jv ((Fw _ _).h h1 ?_));cases hf;refine⟨[.pointer (some ⟨b4,0,none⟩),.pointer (some ⟨b5,0,none⟩)],_,Z,Z,Z,(AR.step Z Z Z (AO.ab2 Z Z ajj (cs 3 Z (AR.step Z Z Z (AO.bM Z aff (fun b6=>?_))))))⟩;refine AR.bW Z Z (AO.dS (i:=0) Z Z Z afJ Z Z Z Z Z (cs 1 Z (AR.nil [0,1,2,3] Z (AW.sr ?_))));refine cs 1 Z (AR.nil [0,1,2,9] Z (AW.cond Z (fun _=>?_) (fun hh=>by cases hh)));refine AW.acK 1 3 4 [_] [_,_] mixed (by kernel_rfl) (by kernel_rfl) (by kernel_rfl) Z Z Z (List.Perm.refl _) ?_;refine Ev.cons Z Z Z (AO.build Z oW afR Z zg) (Ev.nil ?_);show Ev _ _ _ _ _ _ _;refine Ev.cs iy 1 Z (Ev.cons Z Z Z (AO.dX (i:=0) Z Z Z uK Z Z zg) (Ev.nil (TF.bW Z Z (AO.dS (i:=1) Z Z Z wP Z Z Z Z Z ?_))));refine TF.nil ?_;show AR _ _ _ _ _ _ _ _;refine AR.bW Z Z (AO.dS (i:=1) Z Z Z uK Z Z Z Z Z (AR.nil [] Z ?_));exact⟨rfl,_,⟨_,_,rfl,⟨_,_,2,_,_,rfl,rfl,wP,rfl⟩,⟨_,_,rfl,⟨_,_,1,_,_,rfl,rfl,uK,rfl⟩,rfl⟩⟩,[],asY _,h⟩
 refine AR.step Z Z Z (AO.call Z _ Z Z Jv ((Fw _ _).h h1 ?_));cases hf;refine AR.bW Z Z (AO.dS (i:=1) Z Z Z wP Z Z Z Z Z (AR.bW Z Z (AO.dS (i:=0) Z Z Z uK Z Z Z Z Z (AR.nil [4,5] Z (AW.ret ?_)))));refine⟨[.pointer (some ⟨b4,0,none⟩),.pointer (some ⟨b5,0,none⟩)],_,Z,Z,Z,(AR.step Z Z Z (AO.Yq (p:=.agg [iP 0]) Z Z ajl (fun _ _=>by simp only[dA];exact⟨[.int .i64 0],Z,aU.cons (by simp[dA]) aU.nil⟩) ?_))⟩
 refine cs 3 Z (AR.step Z Z Z (AO.bM Z aff (fun b6=>(AR.bW Z Z (AO.dS (i:=0) Z Z Z afJ Z Z Z Z Z (cs 1 Z ?_))))));refine AR.nil [3] Z (AW.sr (cs 1 Z (AR.nil [9] Z ?_)));refine AW.cond Z (fun hh=>by cases hh) (fun _=>?_);refine AW.skip ?_;exact⟨rfl,_,⟨_,_,rfl,⟨_,_,2,_,_,rfl,rfl,wP,rfl⟩,⟨_,_,rfl,⟨_,_,1,_,_,rfl,rfl,uK,rfl⟩,rfl⟩⟩,[],asY _,h⟩⟩
end
section
variable (mU : ah → Option ah) [ag4 : ∀(mo : ah), CT Tryz.prog (mU mo) (fun r => .ret (.agg (aF r))) 127 [.agg (aF mo)]]
instance (v1 :ah) (n_ fF mM):LE (w_ mU v1 n_ fF mM) (fun j p=>w_ mU v1 j p.1 p.2) n_ (fF,mM) [] [(1,[4,5])] [(9999,6,34),(9999,1,9)] [1,2,3,10,11] (fun v w p=>[(12,iP p.1)]) (fun v w p s=>xW 2 [iP p.2.kind,.bool p.2.dD,iP p.2.cu,.str p.2.bJ,.own v (List.map ah.cells p.2.aP),.own w (List.map jy p.2.keys)] (putRow 1 v ((List.map ah.cells p.2.aP).length) (putRow 0 w ((List.map jy p.2.keys).length) (s)))):=⟨Z⟩
instance TY(v1:ah):CT Tryz.prog (CW mU v1) (fun r=>.ret (.agg (aF r))) 127 [.agg (aF v1)]:=by
  unfold CW;exact Z1 ⟨31,[],[]⟩ Z Tryz.func127 Z Z Z Z
end
theorem Nb:∀k:Nat,(∀(mo:ah),CT Tryz.prog (qz k mo) (fun r=>.ret (.agg (aF r))) 127 [.agg (aF mo)])
  | 0=>fun _=>CT.none Z
  | k+1=>by
    obtain (i0):=Nb k;exact fun mo=>TY _ mo
instance akR(mo:ah):CT Tryz.prog (xZ mo) (fun r=>.ret (.agg (aF r))) 127 [.agg (aF mo)]:=(Nb BIG) mo
section
variable [Dj]
instance amd(e1:aj)(bX:List aB):CT Tryz.prog (Dw e1 bX) (fun r=>.ret (.tuple [.agg (aF r.1),iP r.2])) 76 [.agg (aR e1),.list (List.map aB.cells bX)]:=by
  unfold Dw;exact Z1 ⟨28,[],[]⟩ Z Tryz.func76 Z Z Z Z
end
section
variable [Dj]
instance NI(p1:aO)(bX:List aB):CT Tryz.prog (tC p1 bX) (fun r=>.ret (.tuple [.str r.1,iP r.2])) 42 [.agg (Ox p1),.list (List.map aB.cells bX)]:=by
  unfold tC;exact Z1 ⟨27,[],[]⟩ Z Tryz.func42 Z Z Z Z
end
section
variable [Dj]
instance Qm(s1:Str)(bX:List aB):CT Tryz.prog (tZ s1 bX) (fun r=>.ret (.tuple [.str r.1,iP r.2])) 17 [.str s1,.list (List.map aB.cells bX)]:=⟨zP rfl,fun {r} hf {τ Q} h=>by
 obtain⟨r0,r1⟩:=r;unfold tZ at hf;refine BN 50 [.tmp 4,.tmp 5] [0,1] Tryz.func17 Z Z Z Z Z ?_;obtain⟨ps1,x1,nH,h1,hf⟩:=uf hf;refine W 3 Z (CL Z ((vE _).h h1 (J 9 Z (C hf Z (fun h2 hf=>?_) fun h2 hf=>?_))))
 ·cases hf;exact M 3 Z (Y Z h)
 refine B1 hf fun GJ h3 hf=>W 1 Z (CL Z ((abC _).h h3 (J 3 Z (C hf Z (fun h4 hf=>?_) fun h4 hf=>?_))))
 ·cases hf;exact M 3 Z (Y Z h)
 refine W 0 Z (AS Z (AO.GR (eu:=5) Z X4 Z (fun b10=>(U 1 Z (AS Z (AO.fQ (l:=ps1) Z Z Z Z xg Z Z (J 1 Z (LK3 (fun x2 b1 v1=>[(1,.list (List.map aB.cells bX)),(10,pP b10),(29,.list (List.map aO.cells ps1)),(30,iP (ps1.length:Int)),(31,iP x2)]) (fun x2 b1 v1=>[.Mf b10 v1 72 5 b1]) (fun dW x2 b1 v1=>mH bX ps1 dW x2 b1=some (r0,r1)) BIG 0 [] (.slice none 0 0) Z Z hf (fun _ _ _ hz=>kI hz) ?_))))))));intro dW x2 b1 v1 hf;rw[mH]at hf;refine V 1 Z (C hf Z (fun h5 hf=>?_) fun h5 hf=>?_)
 ·refine B1 hf fun e1 h6 hf=>W 0 Z (AS Z (AO.dV h6 Z Z Z Z xg (aO.aT _) Z (U 1 Z (AS Z (AO.bM Z QO (fun b12=>?_))))));obtain⟨t1,acP,h7,hf⟩:=gL hf;refine Rr 3 [0,0] Z Z (CL Z ((NI _ _).h h7 (J 7 Z (C hf Z (fun h8 hf=>?_) fun h8 hf=>?_))))
  ·cases hf;exact M 3 Z (Y Z h)
  refine B1 hf fun b2 h9 hf=>W 1 Z (CL Z (AC.one 1 Z (nI h9 (fun v2=>⟨_,Z,(uG 2 Z (AR.drop1 ?_))⟩))));exact N 0 Z ⟨(bq (x2+1)),b2,v2,Z,Z,Z,hf⟩
 refine W 0 Z (CL Z (AC.one 0 Z (VX ⟨_,Z,(J 1 Z (C hf Z (fun h10 hf=>?_) fun h10 hf=>?_))⟩)))
 ·cases hf;exact M 2 Z (Y Z h)
 refine W 0 Z (CL Z (AC.M7 0 Z (z_ ?_)));cases hf;exact N 2 Z (Y Z h)⟩
end
theorem zZ{β:Type}(l:Nat)(T:β→List aS→Prop)(y:β→aj→Option (Bool × β))(hy:∀s x1 b s2 τ,y s x1=some (b,s2)→T s τ→AY Tryz.prog l [.agg (aR x1)] τ (fun out σ'=>out=.ret (.bool b)∧T s2 σ'))
  (ps1:List aO) {s1 s2:β} (hf:sJ y s1 ps1=some s2) {τ:List aS} (hT:T s1 τ) {Q:dN→List aS→Prop} (h:∀τ',T s2 τ'→Q (.ret (.tuple [])) τ'):
  PC 80 [.val (.func (.yield l) #[] #[]),.ref [.list (List.map aO.cells ps1)]] τ Q:=by
 unfold sJ at hf;refine AC.jZ 21 [] [0,1] Tryz.func80 Z Z Z Z Z (AW.sr (AR.step Z Z Z (AO.Gw Z Z Rb Z (AR.step Z Z Z (AO.fQ (l:=ps1) Z Z Z Z xg Z Z ?_)))));refine cs 1 Z (AR.nil [0,5,6,7] Z (AW.block (AW.aaW (fun(s:β) (τ0:List aS) (i1:Int)=>[(0,.val (.func (.yield l) #[] #[])),(5,.list (List.map aO.cells ps1)),(6,iP (ps1.length:Int)),(7,iP i1)]) (fun s τ0 i1=>τ0) (fun dW s τ0 i1=>l7 y ps1 dW s i1=some s2∧T s τ0) BIG s1 τ 0 Z Z ⟨hf,hT⟩ (fun _ _ _ hz=>kI hz.1) ?_)));intro dW s3 τ3 i1 hfI;obtain⟨hf,hT⟩:=hfI;rw[l7]at hf;refine AW.sr (cs 1 Z (AR.nil [0,5,6,7,8] Z (AW.seq ?_)));refine AW.cond Z (fun h1=>?_) (fun h1=>?_)
 ·replace hf:=kX h1 hf;refine AW.skip (AW.seq (AW.block (AW.sr ?_)));refine B1 hf fun p1 h2 hf=>?_;refine AR.step Z Z Z (AO.dV h2 Z Z Z Z xg (aO.aT _) Z (cs 1 Z (AR.step Z Z Z (AO.bM Z QO (fun b4=>(AR.bW Z Z (AO.dS (i:=0) Z Z Z aos Z Z Z Z Z ?_)))))));refine AR.nil [0,4,5,6,7] Z (AW.seq (AW.acd (G5.step Z Z Z Z (AO.bR Z Z aj9 ?_))));refine G5.step Z Z Z Z (AO.dX (i:=0) Z Z Z aor Z Z (G5.step Z Z Z Z (AO.calc' Z ?_)));cases hp:p1.QE with
  | false=>
   replace hf:=kE hp hf;refine G5.of Z (cs 6 Z (AR.drop1 (AR.nil [0,5,6,7,19] Z ?_)));refine AW.cond Z (fun hh=>by cases hh) (fun _=>?_);refine AW.skip (AW.region (cs 2 Z (AR.nil [0,5,6,7] Z ?_)));exact⟨s3,τ3,(bq (i1+1)),Z,Z,Z,hf,hT⟩
  | true=>
   replace hf:=kX hp hf;obtain⟨b1,s4,h3,hf⟩:=gL hf;refine G5.run Z Z Z Z (G5.step Z Z Z Z (AO.calc' Z (G5.run Z Z Z Z (G5.step Z Z Z Z (AO.bR Z Z aj8 ?_)))));refine G5.run Z Z Z Z (G5.step Z Z Z Z (AO.dX (i:=0) Z Z Z yB Z Z (G5.drop1 (G5.run Z Z Z Z ?_))));refine G5.amj Z Z Z Z Z _ Z Z (hy _ _ _ _ _ h3 hT) fun τ4 hT4=>(G5.of Z (cs 2 Z (AR.nil [0,5,6,7,19] Z ?_)));refine AW.cond Z (fun h5=>?_) (fun h5=>?_)
   ·cases kX h5 hf;refine AW.ret ?_;exact⟨rfl,_,rfl,_,List.Sublist.refl _,h _ hT4⟩
   ·replace hf:=kE h5 hf;refine AW.skip (AW.region (cs 2 Z (AR.nil [0,5,6,7] Z ?_)));exact⟨s4,τ4,(bq (i1+1)),Z,Z,Z,hf,hT4⟩
 ·cases kE h1 hf;refine AW.exit ?_;exact⟨rfl,_,rfl,_,List.Sublist.refl _,h _ hT⟩
theorem BX(ps1:List aO)(h:Q (.ret (.fn 80 [.ref [.list (List.map aO.cells ps1)]])) τ):PC 46 [.list (List.map aO.cells ps1)] τ Q:=by
 refine BN 4 [.tmp 2] [0] Tryz.func46 Z Z Z Z Z ?_;exact M 4 Z (Y Z h)
def adn:Go.Shelf.Ren:=⟨fun|6=>135|15=>216|14=>215|28=>296|29=>297|20=>288|21=>289|22=>290|23=>291|24=>292|25=>293|26=>294|27=>295|46=>339|47=>340|48=>341|49=>342|50=>343|57=>380|n=>n,fun|22=>32|24=>9|25=>132|3=>3|39=>218|0=>0|53=>269|55=>271|4=>4|46=>263|45=>262|50=>239|5=>5|9=>9|66=>287|70=>291|76=>318|77=>319|n=>n,fun|n=>n⟩
theorem aox:Go.Proofs.SlLaysF.n6 Tryz.prog adn:={
 mixed:=by kernel_rfl
 f6:=⟨Tryz.f135.name,by decide,Tryz.func135.trans (asZ some (by kernel_rfl))⟩
 f14:=⟨Tryz.f215.name,by decide,Tryz.func215.trans (asZ some (by kernel_rfl))⟩
 f15:=Tryz.func216.trans (asZ some (by kernel_rfl))
 f20:=⟨Tryz.f288.name,by decide,Tryz.func288.trans (asZ some (by kernel_rfl))⟩
 f21:=⟨Tryz.f289.name,by decide,Tryz.func289.trans (asZ some (by kernel_rfl))⟩
 f22:=⟨Tryz.f290.name,by decide,Tryz.func290.trans (asZ some (by kernel_rfl))⟩
 f23:=⟨Tryz.f291.name,by decide,Tryz.func291.trans (asZ some (by kernel_rfl))⟩
 f24:=⟨Tryz.f292.name,by decide,Tryz.func292.trans (asZ some (by kernel_rfl))⟩
 f25:=⟨Tryz.f293.name,by decide,Tryz.func293.trans (asZ some (by kernel_rfl))⟩
 f26:=⟨Tryz.f294.name,by decide,Tryz.func294.trans (asZ some (by kernel_rfl))⟩
 f27:=⟨Tryz.f295.name,by decide,Tryz.func295.trans (asZ some (by kernel_rfl))⟩
 f28:=Tryz.func296.trans (asZ some (by kernel_rfl))
 f29:=Tryz.func297.trans (asZ some (by kernel_rfl))
 f46:=⟨Tryz.f339.name,by decide,Tryz.func339.trans (asZ some (by kernel_rfl))⟩
 f47:=Tryz.func340.trans (asZ some (by kernel_rfl))
 f48:=Tryz.func341.trans (asZ some (by kernel_rfl))
 f49:=⟨Tryz.f342.name,by decide,Tryz.func342.trans (asZ some (by kernel_rfl))⟩
 f50:=⟨Tryz.f343.name,by decide,Tryz.func343.trans (asZ some (by kernel_rfl))⟩
 f57:=⟨Tryz.f380.name,by decide,Tryz.func380.trans (asZ some (by kernel_rfl))⟩
 t0:=Tryz.underlying0
 a0:=Tryz.isAgg0
 z0:=Tryz.sizeOf0
 v0:=Tryz.zeroValue0
 t3:=Tryz.underlying3
 a3:=Tryz.isAgg3
 z3:=Tryz.sizeOf3
 v3:=Tryz.zeroValue3
 t4:=Tryz.underlying4
 a4:=Tryz.isAgg4
 z4:=Tryz.sizeOf4
 v4:=Tryz.zeroValue4
 t5:=Tryz.underlying5
 a5:=Tryz.isAgg5
 z5:=Tryz.sizeOf5
 v5:=Tryz.zeroValue5
 t9:=Tryz.underlying9
 a9:=Tryz.isAgg9
 z9:=Tryz.sizeOf9
 v9:=Tryz.zeroValue9
 t22:=Tryz.underlying32
 a22:=Tryz.isAgg32
 z22:=Tryz.sizeOf32
 v22:=Tryz.zeroValue32
 a24:=Tryz.isAgg9
 z24:=Tryz.sizeOf9
 t25:=Tryz.underlying132
 a25:=Tryz.isAgg132
 z25:=Tryz.sizeOf132
 v25:=Tryz.zeroValue132
 t39:=Tryz.underlying218
 a39:=Tryz.isAgg218
 z39:=Tryz.sizeOf218
 v39:=Tryz.zeroValue218
 t45:=Tryz.underlying262
 a45:=Tryz.isAgg262
 z45:=Tryz.sizeOf262
 v45:=Tryz.zeroValue262
 t46:=Tryz.underlying263
 a46:=Tryz.isAgg263
 z46:=Tryz.sizeOf263
 v46:=Tryz.zeroValue263
 t50:=Tryz.underlying239
 a50:=Tryz.isAgg239
 z50:=Tryz.sizeOf239
 v50:=Tryz.zeroValue239
 t53:=Tryz.underlying269
 a53:=Tryz.isAgg269
 z53:=Tryz.sizeOf269
 v53:=Tryz.zeroValue269
 t55:=Tryz.underlying271
 a55:=Tryz.isAgg271
 z55:=Tryz.sizeOf271
 v55:=Tryz.zeroValue271
 t66:=Tryz.underlying287
 a66:=Tryz.isAgg287
 z66:=Tryz.sizeOf287
 v66:=Tryz.zeroValue287
 t70:=Tryz.underlying291
 a70:=Tryz.isAgg291
 z70:=Tryz.sizeOf291
 v70:=Tryz.zeroValue291
 t76:=Tryz.underlying318
 a76:=Tryz.isAgg318
 z76:=Tryz.sizeOf318
 v76:=Tryz.zeroValue318
 t77:=Tryz.underlying319
 a77:=Tryz.isAgg319
 z77:=Tryz.sizeOf319
 v77:=Tryz.zeroValue319}
def XC:Go.Shelf.Ren:=⟨fun|194=>138|n=>n,fun|31=>32|9=>9|3=>3|4=>4|0=>0|n=>n,fun|n=>n⟩
theorem ahp:Go.Proofs.Lays.n194 Tryz.prog XC:=by repeat' first|(intros;kernel_rfl)|constructor|decide
theorem N8:∀l:List Str,(List.map jy l).flatten=l.map PV.str
 | []=>Z
 | s::l=>asZ (PV.str s::·) (N8 l)
theorem OV(l:List Str)(hl:l.length≤rM){Q:dN→List aS→Prop}(h:∀v,Q (.ret (.val v)) [.buf v l.length 1 9 (l.map PV.str)]):PC 134 [sP l] [] Q:=by
 refine AC.jZ 8 [.tmp 2] [0] Tryz.func134 Z Z Z Z Z (AW.sr (AR.step Z Z Z (AO.jV Z Z (AR.nil [0] Z ?_))));refine AW.seq (AW.sr (cs 1 Z (AR.step Z Z Z (AO.CX Z Z akZ (fun b hb=>?_)))));refine AR.nil [0,4] Z (AW.cond Z (fun h1=>?_) (fun h1=>?_))
 ·obtain rfl:l=[]:=as7.1 (hb h1);refine AW.sr (AR.step Z Z Z (AO.KA Z Z (AR.nil [2] Z (AW.akl 1 9 ?_))));refine AW.ret ?_;exact⟨rfl,_,⟨_,_,rfl,rfl,rfl⟩,_,List.Sublist.refl _,h _⟩
 refine AW.skip (AW.sr (AR.step Z Z Z (AO.xK [] Z Pp Z Z Z Z Z (fun v1=>(cs 1 Z ?_)))));refine AR.step Z Z Z (AO.TA (i:=0) (l2:=List.map jy l) Z Z Z Z Z Z Z Pp Fh (fun y hy=>?_) (fun y hy=>?_) ?_ ?_ (fun v2 s1 hs1=>?_))
 ·obtain⟨s,_,rfl⟩:=ar4.1 hy;rfl
 ·obtain⟨s,_,rfl⟩:=ar4.1 hy;rfl
 ·rw[as1];unfold rM at hl;unfold maxLen;omega
 ·rw[as1];unfold rM at hl;omega
 cases hs1;refine cs 1 Z (AR.nil [2] Z (AW.ret ?_));have hv:=h v2;rw[←N8,show l.length=(List.map jy l).length from (as1 _).symm]at hv;exact⟨rfl,_,⟨_,_,rfl,rfl,rfl⟩,_,List.Sublist.refl _,hv⟩
theorem Qe(l:List Str){Q:dN→List aS→Prop}(h:Q (.ret (sP l)) []):PC 137 [sP l] [] Q:=by
 refine BD 9 [.tmp 2] [0] Tryz.func137 Z Z Z Z Z (W 0 Z (AS Z (AO.jV Z Z (U 2 Z (AS Z (AO.fQ (l:=l) Z Z Z Z Fh Z Z (U 1 Z (AS Z (AO.fQ (l:=l) Z Z Z Z Fh Z Z ?_)))))))));refine AS Z (AO.clip (l:=List.map jy l) Z Fh Z (by rw[as1];rfl) (by rw[as1];rfl) ?_);exact N 1 rfl ⟨rfl,_,⟨_,_,rfl,rfl,rfl⟩,_,List.Sublist.refl _,h⟩
theorem agH:Go.Sort.SWO (Go.Proofs.ltOf fun a b:r_=>fT a.1 b.1) where
 irrefl:=fun x=>by simp[Go.Proofs.ltOf,PI]
 trans:=fun x y z h1 h2=>by
  simp only[Go.Proofs.ltOf,decide_eq_true_eq]at *;exact CO h1 h2
 ntrans:=fun x y z h1 h2=>by
  simp only[Go.Proofs.ltOf,decide_eq_false_iff_not]at *;exact FM h1 h2
instance TT(JD:List Str):CT Tryz.prog (Ic JD) (fun r=>.ret (sP r)) 82 [sP JD]:=⟨zP rfl,fun {r0} hf {τ Q} h=>by
 unfold Ic at hf;split at hf
 case isFalse=>cases hf
 rename_i hg;simp only[Bool.and_eq_true,List.all_eq_true,decide_eq_true_eq]at hg;obtain⟨hg1,hg2⟩:=hg;cases hf;refine AC.none (AC.jZ 11 [.tmp 2] [0] Tryz.func82 Z Z Z Z Z (AW.sr (AR.step Z Z Z (AO.jV Z Z ?_))));refine AR.nil [0] Z (AW.sr (cs 1 Z (AR.step Z Z Z (AO.call Z _ Z Z amM (OV JD hg2 fun v=>?_)))));refine cs 1 Z (AR.nil [3] Z (AW.sr (cs 1 Z ?_)));refine AR.step Z Z Z (AO.call Z _ Z Z amL (AC.afT aox agk (cf:=fT) (fun a b ha hb=>by letI:gN:=Nn;exact(xL _ _).h (KC ha hb) Z) agH (fun x y h1 h2=>yM (by have:=sH x.1 y.1;omega)) hg1 (by unfold rM at hg2;omega) ?_));refine AR.nil [3] Z (AW.sr (cs 1 Z (AR.step Z Z Z (AO.call Z _ Z Z amJ (AC.aho ahp (by rw[List.length_mergeSort];unfold rM at hg2;omega) fun v2=>?_)))));refine AR.freeze 9 0 (List.map jy (agG JD)) rfl rfl (N8 _) (fun x hx=>by obtain⟨s,_,rfl⟩:=ar4.1 hx;rfl) (as1 _) ?_;refine AR.step Z Z Z (AO.call Z _ Z Z amK (AC.none (Qe _ (cs 1 Z (AR.nil [2] Z (AW.ret ?_))))))
 exact⟨rfl,_,⟨_,_,rfl,rfl,rfl⟩,[],asY _,h⟩⟩
theorem P9(bo bv:Nat)(go:aj→List Str→Option (List Str))(hgo:∀(e1:aj) (bK:List Str) {r0:List Str},go e1 bK=some r0→∀ {v1:Value} {Q:dN→List aS→Prop},(∀vr,Q (.ret (.tuple [])) [.row vr (List.map jy r0).length 1 9,.box bo [.own vr (List.map jy r0)],.box bv [.fn 81 [pP bo,pP bv]]])→PC 81 [.agg (aR e1),pP bo,pP bv] [.row v1 (List.map jy bK).length 1 9,.box bo [.own v1 (List.map jy bK)],.box bv [.fn 81 [pP bo,pP bv]]] Q)
  (e1:aj) (bK:List Str) {r0:List Str} (hf:Cj go e1 bK=some r0) {v1:Value} {Q:dN→List aS→Prop} (h:∀vr,Q (.ret (.tuple [])) [.row vr (List.map jy r0).length 1 9,.box bo [.own vr (List.map jy r0)],.box bv [.fn 81 [pP bo,pP bv]]]):PC 81 [.agg (aR e1),pP bo,pP bv] [.row v1 (List.map jy bK).length 1 9,.box bo [.own v1 (List.map jy bK)],.box bv [.fn 81 [pP bo,pP bv]]] Q:=by
 unfold Cj at hf;refine AC.jZ 25 [] [0,1,2] Tryz.func81 Z Z Z Z Z (AW.sr (AR.step Z Z Z (AO.Ip Z Z Z (AR.nil [1,2,3] Z ?_))));refine AW.seq (AW.apz (fun(l:List Str) (v:Value)=>[(1,pP bo),(2,pP bv),(3,.ref (aR e1))]) (fun l v=>[.row v (List.map jy l).length 1 9,.box bo [.own v (List.map jy l)],.box bv [.fn 81 [pP bo,pP bv]]]) (fun l v=>oQ go e1 BIG l 0=some r0) ?_ ?_)
 ·refine AW.sr (cs 3 Z (AR.nil [1,2,3,8] Z (AW.cond Z (fun h1=>?_) (fun h1=>?_))))
  ·replace hf:=kX h1 hf;refine AW.region (AR.step Z Z Z (AO.dX (i:=1) Z Z Z ak4 Z Z (cs 2 Z (AR.step Z Z Z (AO.fu (List.map jy ([e1.name]:List Str)) Z Pp Z Z Z Z ?_)))));refine B1 hf fun yQ h2 hf=>AR.step Z Z Z (AO.sO (i:=0) (l:=bK) (m:=[e1.name]) h2 Z Z Z Z Z Z Z Pp Fh Z Z Z (fun _=>Z) (fun _=>Z) (by decide) (fun v2 s1 hs1=>?_));cases hs1;refine AR.bW Z Z (AO.dS (i:=1) Z Z Z ak4 Z Z Z Z Z (AR.nil [1,2,3] Z ?_));exact⟨yQ,v2,Z,Z,Z,hf⟩
  replace hf:=kE h1 hf;refine AW.settle [1,2,3] Z (AW.skip ?_);exact⟨bK,v1,Z,Z,Z,hf⟩
 intro yQ v2 hf;refine AW.sr (cs 2 Z (AR.step Z Z Z (AO.fQ (l:=e1.args) Z Z Z Z qI Z (aj.bI _) (cs 1 Z ?_))));refine AR.nil [1,2,15,16,17] Z (AW.block (AW.settle [1,2,15,16,17] Z (AW.aaW (fun(l:List Str) (v:Value) (i1:Int)=>[(1,pP bo),(2,pP bv),(15,.list (aj.bP e1.args)),(16,iP (e1.args.length:Int)),(17,iP i1)]) (fun l v i1=>[.row v (List.map jy l).length 1 9,.box bo [.own v (List.map jy l)],.box bv [.fn 81 [pP bo,pP bv]]]) (fun dW l v i1=>oQ go e1 dW l i1=some r0) BIG yQ v2 0 Z Z hf (fun _ _ _ hz=>kI hz) ?_)));intro dW YQ v3 i1 hf;rw[oQ]at hf;refine AW.sr (cs 1 Z (AR.nil [1,2,15,16,17,18] Z (AW.seq ?_)));refine AW.cond Z (fun h1=>?_) (fun h1=>?_)
 ·replace hf:=kX h1 hf;refine AW.skip (AW.seq (AW.block (AW.sr ?_)));refine B1 hf fun a1 h2 hf=>AR.step Z Z Z (AO.dV h2 Z Z (aj.bI _) Z qI (aj.aT _) Z (cs 1 Z (AR.step Z Z Z (AO.bM Z K4 (fun b5=>(AR.bW Z Z (AO.dS (i:=0) Z Z Z yB Z Z Z Z Z ?_)))))));refine AR.nil [1,2,5,15,16,17] Z (AW.region (AR.step Z Z Z (AO.dX (i:=3) Z Z Z amq Z Z (AR.step Z Z Z (AO.dX (i:=0) Z Z Z yB Z Z ?_)))));refine AR.drop1 ?_;refine B1 hf fun agt h3 hf=>AR.step Z Z Z (AO.call Z _ Z Z aoI (hgo _ _ h3 fun v4=>(AR.nil [1,2,15,16,17] Z (AW.region (cs 2 Z ?_)))));refine AR.nil [1,2,15,16,17] Z ?_;exact⟨agt,v4,(bq (i1+1)),Z,Z,Z,hf⟩
 replace hf:=kE h1 hf;refine AW.exit ?_;cases hf;exact⟨rfl,_,rfl,_,List.Sublist.refl _,h v3⟩
theorem IJ(bo bv:Nat):∀(k:Nat) (e1:aj) (bK:List Str) {r0:List Str},xJ k e1 bK=some r0→∀ {v1:Value} {Q:dN→List aS→Prop},(∀vr,Q (.ret (.tuple [])) [.row vr (List.map jy r0).length 1 9,.box bo [.own vr (List.map jy r0)],.box bv [.fn 81 [pP bo,pP bv]]])→PC 81 [.agg (aR e1),pP bo,pP bv] [.row v1 (List.map jy bK).length 1 9,.box bo [.own v1 (List.map jy bK)],.box bv [.fn 81 [pP bo,pP bv]]] Q
 | 0,_,_,_,hz=>kI hz
 | k+1,e1,bK,r0,hz=>by
  intro h;exact P9 bo bv (xJ k) (fun e1 bK r0 hz=>IJ bo bv k e1 bK hz) e1 bK hz h
instance U0(e1:aj):CT Tryz.prog (J7 e1) (fun r=>.ret (sP r)) 47 [.agg (aR e1)]:=⟨zP rfl,fun {r0} hf {τ Q} h=>by
 unfold J7 at hf;refine BN 11 [.tmp 2] [0] Tryz.func47 Z Z Z Z Z (W 1 Z (AS Z (AO.jV Z Z (U 0 Z (AR.row 1 9 (AS Z (AO.bM Z aok (fun bo=>(U 0 Z (AS Z (AO.bM Z ami (fun bv=>?_))))))))))));refine B1 hf fun bK h1 hf=>Rr 4 [0,0] Z Z (CL Z (AC.perm ((List.Perm.swap _ _ _).trans ((List.Perm.cons _ (List.Perm.swap _ _ _)).trans (List.Perm.swap _ _ _))) (IJ bo bv BIG e1 [] h1 fun v1=>(Rr 1 [1] Z Z (CL Z ((TT _).h hf ?_))))));exact N 1 Z (Y Z h)⟩
section
variable [Dj]
instance TS(s1:Str):CT Tryz.prog (Ib s1) (fun r=>.ret (.tuple [sP r.1,iP r.2])) 19 [.str s1]:=⟨zP rfl,fun {r} hf {τ Q} h=>by
 obtain⟨r0,r1⟩:=r;unfold Ib at hf;refine AC.none (AC.RQ 32 [.tmp 2,.tmp 3] [0] Tryz.func19 Z Z Z Z Z (AW.sr (cs 2 Z ?_)));refine AR.nil [0] Z (AW.sr (cs 1 Z ?_));obtain⟨ps1,bV,nH,h1,hf⟩:=uf hf;refine AR.step Z Z Z (AO.call Z _ Z Z ale ((vE _).h h1 (cs 7 Z (AR.nil [0,4,6] Z (AW.seq ?_)))));refine AW.sr (cs 2 Z (AR.nil [0,4,6,16] Z (AW.cond Z (fun h2=>?_) (fun h2=>?_))))
 ·cases kX h2 hf;refine AW.sr (cs 1 Z (AR.step Z Z Z (AO.jV Z Z (cs 1 Z ?_))));refine AR.nil [2,3] Z (AW.ret ?_);exact .inl ⟨rfl,_,⟨_,_,rfl,rfl,_,_,rfl,rfl,rfl⟩,[],asY _,h⟩
 replace hf:=kE h2 hf;refine B1 hf fun a1 h3 hf=>?_;refine B1 hf fun x1 h4 hf=>?_;cases hf;refine AW.skip (AW.sr (AR.step Z Z Z (AO.build Z K4 afQ Z (AR.step Z Z Z (AO.bM Z K4 (fun b7=>?_))))));refine AR.bW Z Z (AO.dS (i:=0) Z Z Z yB Z Z Z Z Z (AR.nil [4,7] Z (AW.anh 0 [iP 9,.str ([]:Str),iP 0,.bool false,iP 0,.str ([]:Str),.own (.slice none 0 0) [],.own (.slice none 0 0) [],.val (.slice none 0 0),.own (.slice none 0 0) []] Z (fun w m vs hv=>aU.KA 8 _ vs Z hv) (AW.akl 10 37 ?_))));refine AW.seq (AW.sr (cs 1 Z (AR.step Z Z Z (AO.call Z _ Z Z ak9 (BX _ ?_)))));refine AR.nil [7,20] Z (AW.block ?_);refine AW.RD (β:=List aj) (X:=aj) Z ak7 (fun x1=>[.agg (aR x1)]) (fun _=>Z) (by decide) zM (fun l τ=>∃v,τ=[.buf v l.length 10 37 (List.flatMap aj.cells l),.box b7 [iP 9,.str ([]:Str),iP 0,.bool false,iP 0,.str ([]:Str),.own (.slice none 0 0) [],.own (.slice none 0 0) [],.val v,.own (.slice none 0 0) []]]) (fun _=>none) (s0:=[]) (s1:=a1) ⟨_,Z⟩ Z ?_ ?_ ?_
 ·intro l T' hy τ hT;refine zZ l T' zM hy ps1 h3 hT fun τ' hT'=>?_;exact⟨⟨_,Z⟩,hT'⟩
 ·rintro l s x1 b s2 _ hh ⟨v0,rfl⟩;unfold zM at hh;obtain⟨a2,h5,hh⟩:=kV hh;cases hh;obtain⟨FP,rfl⟩:=Ab h5;refine⟨Z,(qL.region Z (AR.step Z Z Z (AO.bM Z K4 (fun b8=>(AR.bW Z Z (AO.dS (i:=0) Z Z Z yB Z Z Z Z Z ?_))))))⟩;refine AR.nil [7,8] Z (⟨Z,(qL.block (qL.drawn mixed Z ?_))⟩)
  refine AD.acL 0 10 [] [.box b8 (aR x1),.buf v0 s.length 10 37 (List.flatMap aj.cells s),.box b7 [iP 9,.str ([]:Str),iP 0,.bool false,iP 0,.str ([]:Str),.own (.slice none 0 0) [],.own (.slice none 0 0) [],.val v0,.own (.slice none 0 0) []]] (fun S e σ=>∃v2:Value,e.get 7=pP b7∧e.get 8=pP b8∧(S 0=true→e.get 22=.val (.pointer (some ⟨b7,8,none⟩)))∧(S 1=true→e.get 23=.val v0)∧(S 2=true→e.get 24=.agg (aR x1))∧(S 3=true→e.get 25=iP (s.length:Int))∧(S 4=true→e.get 26=.list [[iP 0,.str ([]:Str),iP 0,.bool false,iP 0,.str ([]:Str),.list (ah.bP []),sP ([]),.list (aj.bP []),sP ([])]])
    ∧(S 5=true→e.get 27=.val v2)∧(S 6=true→e.get 28=.val (.pointer (some ⟨v2.blk,s.length*10,none⟩)))∧(S 8=true→e.get 29=.val (.pointer (some ⟨b7,8,none⟩)))∧(S 6=true→S 5=true)∧(S 9=true→S 5=true)∧(S 7=true→S 5=true)∧(S 5=true→S 1=true∧S 3=true)
    ∧σ=[.box b8 (aR x1),bif S 5 then .buf v2 (s.length+1) 10 37 (List.flatMap aj.cells s++bif S 7 then (aR x1)else [iP 0,.str ([]:Str),iP 0,.bool false,iP 0,.str ([]:Str),.list (ah.bP []),sP ([]),.list (aj.bP []),sP ([])])else .buf v0 s.length 10 37 (List.flatMap aj.cells s),.box b7 (bif S 9 then [iP 9,.str ([]:Str),iP 0,.bool false,iP 0,.str ([]:Str),.own (.slice none 0 0) [],.own (.slice none 0 0) [],.val v2,.own (.slice none 0 0) []]else [iP 9,.str ([]:Str),iP 0,.bool false,iP 0,.str ([]:Str),.own (.slice none 0 0) [],.own (.slice none 0 0) [],.val v0,.own (.slice none 0 0) []])]) (by kernel_rfl) Z Z (List.Perm.refl _) ?_ ?_ ?_ ?_
  ·refine Ev.nil ?_;exact⟨.nilIface,Z,Z,(fun h=>by cases h),(fun h=>by cases h),(fun h=>by cases h),(fun h=>by cases h),(fun h=>by cases h),(fun h=>by cases h),(fun h=>by cases h),(fun h=>by cases h),(fun h=>by cases h),(fun h=>by cases h),(fun h=>by cases h),(fun h=>by cases h),Z⟩
  ·rintro S S' e σ hS ⟨v2,p7,p8,q0,q1,q2,q3,q4,q5,q6,q8,g6,g9,g7,g5,qs⟩;have z:=fun i h1 h2=>(hS i h1 h2).symm;refine⟨v2,p7,p8,?_,?_,?_,?_,?_,?_,?_,?_,?_,?_,?_,?_,?_⟩
   ·rw[z 0 (by decide) (by decide)];exact q0
   ·rw[z 1 (by decide) (by decide)];exact q1
   ·rw[z 2 (by decide) (by decide)];exact q2
   ·rw[z 3 (by decide) (by decide)];exact q3
   ·rw[z 4 (by decide) (by decide)];exact q4
   ·rw[z 5 (by decide) (by decide)];exact q5
   ·rw[z 6 (by decide) (by decide)];exact q6
   ·rw[z 8 (by decide) (by decide)];exact q8
   ·rw[z 6 (by decide) (by decide),z 5 (by decide) (by decide)];exact g6
   ·rw[z 9 (by decide) (by decide),z 5 (by decide) (by decide)];exact g9
   ·rw[z 7 (by decide) (by decide),z 5 (by decide) (by decide)];exact g7
   ·rw[z 5 (by decide) (by decide),z 1 (by decide) (by decide),z 3 (by decide) (by decide)];exact g5
   ·rw[z 5 (by decide) (by decide),z 7 (by decide) (by decide),z 9 (by decide) (by decide)];exact qs
  ·rintro S e σ i o ⟨v2,p7,p8,q0,q1,q2,q3,q4,q5,q6,q8,g6,g9,g7,g5,rfl⟩ hi1 hi2 XY hp ho;have hi:i=0∨i=1∨i=2∨i=3∨i=4∨i=5∨i=6∨i=7∨i=8∨i=9:=by omega
   rcases hi with rfl|rfl|rfl|rfl|rfl|rfl|rfl|rfl|rfl|rfl
   ·cases ho;refine⟨Z,(fun t ht=>by cases ht;decide),AO.less (Less.add p7 Less.nil) (AO.bR Z Z acD ?_)⟩;exact⟨v2,p7,p8,(fun _=>Z),q1,q2,q3,q4,q5,q6,q8,g6,g9,g7,g5,Z⟩
   ·cases ho;have s0:=hp 0 (any_beq.1 Z) (by decide);have n5:S 5=false:=as3.2 fun h=>by rw[(g5 h).1]at XY;cases XY
    have n9:S 9=false:=as3.2 fun h=>by rw[g9 h]at n5;cases n5
    rw[n9,n5];refine⟨Z,(fun t ht=>by cases ht;decide),AO.less (Less.add (q0 s0) Less.nil) ?_⟩;refine AO.dX (i:=2) Z Z Z ak3 Z Z ?_;exact⟨v2,p7,p8,q0,(fun _=>Z),q2,q3,q4,q5,q6,q8,g6,g9,g7,(fun h=>by rw[show S 5=true from h]at n5;cases n5),by simp[n9,n5]⟩
   ·cases ho;refine⟨Z,(fun t ht=>by cases ht;decide),AO.less (Less.add p8 Less.nil) (AO.dX (i:=0) Z Z Z yB Z Z ?_)⟩;exact⟨v2,p7,p8,q0,q1,(fun _=>Z),q3,q4,q5,q6,q8,g6,g9,g7,g5,Z⟩
   ·cases ho;have s1:=hp 1 (any_beq.1 Z) (by decide);have n5:S 5=false:=as3.2 fun h=>by rw[(g5 h).2]at XY;cases XY
    rw[n5];refine⟨Z,(fun t ht=>by cases ht;decide),AO.less (Less.add (q1 s1) Less.nil) ?_⟩;refine AO.Ng (i:=1) Z Z Z Z qI Z Z ?_;exact⟨v2,p7,p8,q0,q1,q2,(fun _=>Z),q4,q5,q6,q8,g6,g9,g7,(fun h=>by rw[show S 5=true from h]at n5;cases n5),by simp[n5]⟩
   ·cases ho;refine⟨Z,(fun t ht=>by cases ht;decide),AO.less Less.nil (AO.fu [[iP 0,.str ([]:Str),iP 0,.bool false,iP 0,.str ([]:Str),.list (ah.bP []),sP ([]),.list (aj.bP []),sP ([])]] Z ak5 Z Z Z Z ?_)⟩;exact⟨v2,p7,p8,q0,q1,q2,q3,(fun _=>Z),q5,q6,q8,g6,g9,g7,g5,Z⟩
   ·cases ho;have s1:=hp 1 (any_beq.1 Z) (by decide);have s3:=hp 3 (any_beq.1 Z) (by decide);have s4:=hp 4 (any_beq.1 Z) (by decide);have n6:S 6=false:=as3.2 fun h=>by rw[g6 h]at XY;cases XY
    have n7:S 7=false:=as3.2 fun h=>by rw[g7 h]at XY;cases XY
    have n9:S 9=false:=as3.2 fun h=>by rw[g9 h]at XY;cases XY
    rw[XY,n9];refine⟨Z,(fun t ht=>by cases ht;decide),AO.less (Less.add (q1 s1) (Less.add (q4 s4) Less.nil)) ?_⟩;refine AO.TB (i:=1) (l2:=[[iP 0,.str ([]:Str),iP 0,.bool false,iP 0,.str ([]:Str),.list (ah.bP []),sP ([]),.list (aj.bP []),sP ([])]]) Z Z Z Z Z Z Z ak5 qI (by intro y hy;cases asa.1 hy;rfl) (by intro y hy;cases asa.1 hy;rfl) (by simp only[as0]at FP⊢;unfold rM at FP;unfold maxLen;omega) (by simp only[as0]at FP⊢;unfold rM at FP;omega) (fun v3 s2 hs2=>?_);cases hs2;exact⟨v3,p7,p8,q0,q1,q2,q3,q4,(fun _=>Z),(fun h=>by rw[show S 6=true from h]at n6;cases n6),q8,(fun h=>by rw[show S 6=true from h]at n6;cases n6),(fun h=>by rw[show S 9=true from h]at n9;cases n9),(fun h=>by rw[show S 7=true from h]at n7;cases n7),(fun _=>⟨s1,s3⟩),by simp[n7,n9]⟩
   ·cases ho;have s3:=hp 3 (any_beq.1 Z) (by decide);have s5:=hp 5 (any_beq.1 Z) (by decide);rw[s5];refine⟨Z,(fun t ht=>by cases ht;decide),AO.less (Less.add (q5 s5) (Less.add (q3 s3) Less.nil)) ?_⟩;refine AO.Bc (i:=1) (sz:=10) Z Z Z Z qI (by omega) (by simp) ?_;exact⟨v2,p7,p8,q0,q1,q2,q3,q4,q5,(fun _=>by simp[Gs,Env.get]),q8,(fun _=>s5),g9,g7,g5,by simp[s5]⟩
   ·cases ho;have s2:=hp 2 (any_beq.1 Z) (by decide);have s6:=hp 6 (any_beq.1 Z) (by decide);have s5:=g6 s6;rw[s5,XY];refine⟨Z,(fun t ht=>by cases ht),AO.less (Less.add (q6 s6) (Less.add (q2 s2) Less.nil)) ?_⟩;have hFl:(List.flatMap aj.cells s).length=s.length*10:=Nr aj.dL s;refine AO.Ri (i:=1) (new:=(aR x1)) (cs':=List.flatMap aj.cells s++(aR x1)) Z Z Z yB Z Z Z (by simp) (by simp[hFl]) ?_ Z ?_
    ·unfold putCells;rw[List.take_append_of_le_length (by omega),List.take_of_length_le (by omega),as5 (by simp[hFl]),as8]
    exact⟨v2,p7,p8,q0,q1,q2,q3,q4,q5,q6,q8,g6,g9,(fun _=>s5),g5,by simp[s5]⟩
   ·cases ho;refine⟨Z,(fun t ht=>by cases ht;decide),AO.less (Less.add p7 Less.nil) (AO.bR Z Z acD ?_)⟩;exact⟨v2,p7,p8,q0,q1,q2,q3,q4,q5,q6,(fun _=>Z),g6,g9,g7,g5,Z⟩
   ·cases ho;have s8:=hp 8 (any_beq.1 Z) (by decide);have s5:=hp 5 (any_beq.1 Z) (by decide);rw[s5,XY];refine⟨Z,(fun t ht=>by cases ht),AO.less (Less.add (q8 s8) (Less.add (q5 s5) Less.nil)) ?_⟩;simp only[cond_true,cond_false];refine AO.acX 1 Z fun hv1 hv2=>(AO.dS (i:=2) Z Z Z ak3 hv1 hv2 Z Z Z ?_);exact⟨v2,p7,p8,q0,q1,q2,q3,q4,q5,q6,q8,g6,(fun _=>s5),g7,g5,by simp[s5]⟩
  rintro S e σ hS ⟨v2,p7,p8,q0,q1,q2,q3,q4,q5,q6,q8,g6,g9,g7,g5,rfl⟩;rw[hS 5 (by decide) (by decide),hS 7 (by decide) (by decide),hS 9 (by decide) (by decide)];refine AR.nil [] Z (⟨Z,⟨_,.cons _ (List.Sublist.refl _),v2,?_⟩,Z,Z⟩);simp[aj.aT]
 ·rintro D _ ⟨v0,rfl⟩;show AW _ _ _ _ _ _ _;refine AW.aj6 0 1 (aj.bP a1) Z Z (q:=8) Z (by rw[aj.bI,List.flatMap_def]) (by rw[aj.bI];intro x hx;obtain⟨y,_,rfl⟩:=ar4.1 hx;exact aj.dL y) (by rw[aj.bI,as1]) ?_;refine AW.sr (AR.step Z Z Z (AO.dX (i:=1) Z Z Z yB Z Z (AR.step Z Z Z (AO.call Z _ Z Z aoL ((U0 _).h h4 (cs 2 Z ?_))))));refine AR.nil [2,3] Z (AW.ret ?_)
  exact .inr ⟨D,[_,_],Z,Z,_,⟨_,_,Z,Z,_,_,Z,Z,Z⟩,[],asY _,h⟩⟩
end
section
variable [Dj]
instance akz(v1:ah):CT Tryz.prog (LA v1) (fun r=>.ret (.str r)) 110 [.agg (aF v1)]:=by
  unfold LA;exact Z1 ⟨8,[],[]⟩ Z Tryz.func110 Z Z Z Z
end
instance ahT(e1:aj):CT Tryz.prog (HY e1) (fun r=>.ret (iP r)) 185 [.agg (aR e1)]:=by
  unfold HY;exact Z1 ⟨33,[],[]⟩ Z Tryz.func185 Z Z Z Z
section
variable [Dj]
section
variable (mI : aj → Option Str) [acz : ∀(gB : aj), CT Tryz.prog (mI gB) (fun r => .ret (.str r)) 71 [.agg (aR gB)]] (gZ : aj → Int → Option Str) [ag3 : ∀(gB : aj) (kQ : Int), CT Tryz.prog (gZ gB kQ) (fun r => .ret (.str r)) 111 [.agg (aR gB), iP kQ]]
instance NH(e1:aj):CT Tryz.prog (Cb mI gZ e1) (fun r=>.ret (.str r)) 71 [.agg (aR e1)]:=by
  unfold Cb;exact Z1 ⟨121,[],[]⟩ Z Tryz.func71 Z Z Z Z
instance TM(e1:aj)(Kt:Int):CT Tryz.prog (HZ mI gZ e1 Kt) (fun r=>.ret (.str r)) 111 [.agg (aR e1),iP Kt]:=by
  unfold HZ;exact Z1 ⟨15,[],[]⟩ Z Tryz.func111 Z Z Z Z
end
theorem Cc:∀k:Nat,(∀(gB:aj),CT Tryz.prog (xE k gB) (fun r=>.ret (.str r)) 71 [.agg (aR gB)])∧(∀(gB:aj) (kQ:Int),CT Tryz.prog (CG k gB kQ) (fun r=>.ret (.str r)) 111 [.agg (aR gB),iP kQ])
  | 0=>⟨fun _=>CT.none Z,fun _ _=>CT.none Z⟩
  | k+1=>by
    obtain⟨i0,i1⟩:=Cc k;exact⟨fun gB=>NH _ _ gB,fun gB kQ=>TM _ _ gB kQ⟩
instance ae4(gB:aj):CT Tryz.prog (K9 gB) (fun r=>.ret (.str r)) 71 [.agg (aR gB)]:=(Cc BIG).1 gB
instance akO(gB:aj)(kQ:Int):CT Tryz.prog (aaL gB kQ) (fun r=>.ret (.str r)) 111 [.agg (aR gB),iP kQ]:=(Cc BIG).2 gB kQ
end
section
variable [Dj]
instance UQ(e1:aj):CT Tryz.prog (Jw e1) (fun r=>.ret (.str r)) 37 [.agg (aR e1)]:=by
  unfold Jw;exact Z1 ⟨8,[],[]⟩ Z Tryz.func37 Z Z Z Z
end
section
variable [Dj]
def MO:Go.Shelf.Ren:=⟨fun|155=>38|154=>72|138=>114|165=>115|143=>116|166=>36|197=>117|169=>39|195=>188|218=>189|240=>60|241=>190|219=>191|260=>192|276=>96|277=>256|217=>257|225=>258|224=>259|267=>260|266=>321|314=>322|n=>n,fun|9=>9|3=>3|4=>4|72=>72|0=>0|76=>86|105=>154|21=>21|5=>5|70=>70|20=>20|37=>68|75=>77|127=>124|164=>138|46=>218|119=>245|139=>248|138=>247|146=>279|51=>269|80=>69|n=>n,fun|1=>0|3=>1|4=>2|n=>n⟩
theorem afZ:Go.Proofs.Lays.n155 Tryz.prog MO:=by repeat' first|(intros;kernel_rfl)|constructor|decide
theorem afY:Go.Proofs.Builder.Extra Tryz.prog MO:=by repeat' first|(intros;kernel_rfl)|constructor|decide
instance Kc(s1:Str)(ajO:Str)(new1:Str):CT Tryz.prog (strings_ReplaceAll s1 ajO new1) (fun r=>.ret (.str r)) 38 [.str s1,.str ajO,.str new1]:=⟨zP rfl,fun {r0} hf {τ Q} h=>by
 unfold strings_ReplaceAll at hf;split at hf
 case isFalse=>cases hf
 rename_i hg;obtain⟨hg,rfl,rfl⟩:=hg;rw[←Ru (by decide)]at hf;cases hf;refine AC.none ?_
 exact AC.replaceAll Dj.hD afZ afY hg (by decide) Dj.max (by rw[Lib.count_one];have:=List.count_le_length (a:=(36:UInt8)) (l:=s1);simp only[List.length_cons,List.length_nil];omega) h⟩
end
section
variable [Dj]
instance UY(ps1:List aO):CT Tryz.prog (JK ps1) (fun r=>.ret (.str r)) 15 [.list (List.map aO.cells ps1)]:=⟨zP rfl,fun {r0} hf {τ Q} h=>by
 unfold JK at hf;refine BN 26 [.tmp 2] [0] Tryz.func15 Z Z Z Z Z (W 1 Z (AS Z (AO.GR (eu:=5) Z X4 Z (fun b3=>(U 1 Z (AS Z (AO.fQ (l:=ps1) Z Z Z Z xg Z Z (J 1 Z (LK3 (fun x1 b1 v1=>[(3,pP b3),(6,.list (List.map aO.cells ps1)),(7,iP (ps1.length:Int)),(8,iP x1)]) (fun x1 b1 v1=>[.Mf b3 v1 72 5 b1]) (fun dW x1 b1 v1=>u7 ps1 dW x1 b1=some r0) BIG 0 [] (.slice none 0 0) Z Z hf (fun _ _ _ hz=>kI hz) ?_)))))))));intro dW x1 b1 v1 hf;rw[u7]at hf;refine V 1 Z (C hf Z (fun h1 hf=>?_) fun h1 hf=>?_)
 ·refine B1 hf fun e1 h2 hf=>W 0 Z (AS Z (AO.dV h2 Z Z Z Z xg (aO.aT _) Z (U 1 Z (AS Z (AO.bM Z QO (fun b5=>(Rw 3 [0,0] Z Z (C hf Z (fun h3 hf=>?_) fun h3 hf=>?_))))))))
  ·refine B1 hf fun x2 h4 hf=>Wr 2 [0] Z Z (CL Z ((UQ _).h h4 ?_));refine B1 hf fun x3 h5 hf=>AS Z (AO.Md h5 Z Z Z ?_);refine B1 hf fun x4 h6 hf=>AS Z (AO.Md h6 Z Z Z ?_);refine B1 hf fun b2 h7 hf=>CL Z (AC.one 1 Z (nI h7 (fun v2=>⟨_,Z,(uG 2 Z (AR.drop1 ?_))⟩)));exact N 0 Z ⟨(bq (x1+1)),b2,v2,Z,Z,Z,hf⟩
  refine B1 hf fun x5 h8 hf=>Wr 2 [0] Z Z (CL Z ((Kc _ _ _).h h8 ?_));refine B1 hf fun b3 h9 hf=>CL Z (AC.one 1 Z (nI h9 (fun v3=>⟨_,Z,(uG 2 Z (AR.drop1 ?_))⟩)));exact N 0 Z ⟨(bq (x1+1)),b3,v3,Z,Z,Z,hf⟩
 refine W 0 Z (CL Z (AC.M7 0 Z (z_ ?_)));cases hf;exact N 1 Z (Y Z h)⟩
end
instance UG(kD:Int):CT Tryz.prog (yA kD) (fun r=>.ret (.str r)) 143 [iP kD]:=⟨zP rfl,fun {r0} hf {τ Q} h=>by
 unfold yA at hf;refine BN 14 [.tmp 2] [0] Tryz.func143 Z Z Z Z Z (W 1 Z (AS Z (AO.OY Z afe ahG Z (AS Z (AO.bM Z afe (fun b3=>(Rr 4 [0] Z Z (On 3 7 10 [0,3] (decide (8≤kD)) Z Z Z Z ?_))))))));refine J 0 Z (C hf Z (fun h2 hf=>?_) fun h2 hf=>?_)
 ·cases hf;exact M 1 Z (Y Z h)
 refine BR hf fun e1 h3 hf=>?_;refine W 1 Z (AS Z (AO.Sq h3 Z ahG Z Z Z (AS Z (AO.adS (i:=0) (fun z:Str=>.str z) h3 Z Z Z ajh Z ?_))));cases hf;exact N 1 Z (Y Z h)⟩
instance Ck(kD:Int):CT Tryz.prog (lg kD) (fun r=>.ret (.bool r)) 144 [iP kD]:=by
  unfold lg;exact Z1 ⟨9,[],[]⟩ Z Tryz.func144 Z Z Z Z
instance TG(t1:aM):CT Tryz.prog (nT t1) (fun r=>.ret (iP r)) 85 [.agg (dG t1)]:=⟨zP rfl,fun {r0} hf {τ Q} h=>by
 unfold nT at hf;refine BN 43 [.tmp 2] [0] Tryz.func85 Z Z Z Z Z (W 0 Z (AS Z (AO.acY Z Z (fun b1=>(J 2 Z (LK2 (fun bH t2=>[(1,pP b1),(3,iP bH)]) (fun bH t2=>[.box b1 (dG t2)]) (fun dW bH t2=>kG dW bH t2=some r0) BIG 1 t1 Z Z hf (fun _ _ hz=>kI hz) ?_))))));intro dW bH t2 hf;rw[kG]at hf;refine V 2 Z (C hf Z (fun h1 hf=>?_) fun h1 hf=>?_)
 ·cases hf;exact M 1 Z (Y Z h)
 refine B1 hf fun x1 h2 hf=>Wr 2 [0] Z Z (CL Z ((UG _).h h2 ?_));refine B1 hf fun b1 h4 hf=>U 2 Z (AR.tu 10 12 22 false [1,3] b1 Z Z (fun h3=>?_) (fun h3=>?_) ?_)
 ·replace h4:=kE h3 h4;refine Is 12 h3 Z (U 1 Z (GO Z (AO.dX (i:=0) Z Z Z He Z Z ?_)));refine B1 h4 fun x2 h5 h4=>GO Z (AO.call Z _ Z Z agj ((Ck _).h h5 (U 1 Z (AR.and 5 16 21 [1,3,12] (x:=((t2.elem.length:Int) !=1)) Z Z (fun h6=>?_) (fun h6=>?_) ?_))))
  ·refine Is 16 h6 Z (U 1 Z (GO Z (AO.dX (i:=0) Z Z Z ak1 Z Z (GO Z (AO.fQ (l:=t2.elem) Z Z Z Z ahc Z (aM.bI _) ?_)))));exact uG 2 Z (En [21,1,3,12] Z)
  ·refine Is 16 h6 Z ?_;exact uG 5 Z (En [21,1,3,12] Z)
  cases h4;exact uG 1 Z (En [22,1,3] Z)
 ·refine IT 12 h3 h4 Z fun h4=>?_;cases h4;exact uG 10 Z (En [22,1,3] Z)
 refine B1 hf fun b2 h8 hf=>U 1 Z (AR.tu 11 23 34 false [1,3] b2 Z Z (fun h7=>?_) (fun h7=>?_) ?_)
 ·replace h8:=kE h7 h8;refine Is 23 h7 Z (U 1 Z (GO Z (AO.dX (i:=0) Z Z Z He Z Z ?_)));refine B1 h8 fun x3 h9 h8=>GO Z (AO.call Z _ Z Z agj ((Ck _).h h9 (U 2 Z (AR.and 5 28 33 [1,3,23] (x:=((t2.elem.length:Int) !=0)) Z Z (fun h10=>?_) (fun h10=>?_) ?_))))
  ·refine Is 28 h10 Z (U 1 Z (GO Z (AO.dX (i:=0) Z Z Z ak1 Z Z (GO Z (AO.fQ (l:=t2.elem) Z Z Z Z ahc Z (aM.bI _) ?_)))));exact uG 2 Z (En [33,1,3,23] Z)
  ·refine Is 28 h10 Z ?_;exact uG 5 Z (En [33,1,3,23] Z)
  cases h8;exact uG 1 Z (En [34,1,3] Z)
 ·refine IT 23 h7 h8 Z fun h8=>?_;cases h8;exact uG 11 Z (En [34,1,3] Z)
 refine J 0 Z (C hf Z (fun h11 hf=>?_) fun h11 hf=>?_)
 ·cases hf;exact M 1 Z (Y Z h)
 refine B1 hf fun x4 h12 hf=>Wr 2 [0] Z Z (CL Z ((Ck _).h h12 (J 1 Z (C hf Z (fun KY hf=>?_) fun KY hf=>?_))))
 ·cases hf;exact M 1 Z (Y Z h)
 refine B1 hf fun e1 I6 hf=>Wr 2 [0] Z Z (AS Z (AO.dV I6 Z Z (aM.bI _) Z ahc (aM.aT _) Z ?_));exact Rx 5 [0] Z Z ⟨(bq (bH+1)),e1,Z,Z,Z,hf⟩⟩
instance Z0(bX:List bU):CT Tryz.prog (KQ bX) (fun r=>.ret (iP r)) 50 [.list (List.map bU.cells bX)]:=⟨zP rfl,fun {r0} hf {τ Q} h=>by
 unfold KQ at hf;refine BN 39 [.tmp 2] [0] Tryz.func50 Z Z Z Z Z (W 2 Z (AS Z (AO.fQ (l:=bX) Z Z Z Z ahd Z Z (J 1 Z (C hf Z (fun h1 hf=>?_) fun h1 hf=>?_)))))
 ·cases hf;exact M 1 Z (Y Z h)
 refine W 0 Z (AS Z (AO.R9 Z (fun m10=>(U 2 Z (AS Z (AO.fQ (l:=bX) Z Z Z Z ahd Z Z (J 1 Z (LK2 (fun x1 y1=>[(3,.val (.map (some m10))),(11,.list (List.map bU.cells bX)),(12,iP (bX.length:Int)),(13,iP x1)]) (fun x1 y1=>[.obj m10 (wG y1)]) (fun dW x1 y1=>Da bX dW x1 y1=some r0) BIG 0 [] Z Z hf (fun _ _ hz=>kI hz) ?_))))))));intro dW x1 y1 hf;rw[Da]at hf;refine V 1 Z (C hf Z (fun h2 hf=>?_) fun h2 hf=>?_)
 ·refine B1 hf fun e1 h3 hf=>W 0 Z (AS Z (AO.dV h3 Z Z Z Z ahd (bU.aT _) Z (U 1 Z (AS Z (AO.bM Z aoi (fun b5=>?_))))));refine B1 hf fun x2 h4 hf=>Rr 4 [0,0] Z Z (CL Z ((Kg _).h h4 (J 1 Z (C hf Z (fun h5 hf=>?_) fun h5 hf=>?_))))
  ·cases hf;exact M 1 Z (Y Z h)
  refine B1 hf fun e2 h6 hf=>Wr 2 [0] Z Z (CL Z ((TG _).h h6 (J 3 Z (C hf Z (fun h7 hf=>?_) fun h7 hf=>?_))))
  ·cases hf;exact M 2 Z (Y Z h)
  refine Wr 3 [0] Z Z (AS Z (AO.KG (i:=1) (l:=y1) Z Z Z Z H8 mq ac9 (U 1 Z (AR.bW Z Z (AO.LU (i:=1) (l:=y1) Z Z Z Z Z H8 mq (Rr 3 [0] Z Z (AS Z (AO.KG (i:=1) (l:=(uz y1 e1.name (bq ((qJ y1 e1.name)+1)))) Z Z Z Z H8 mq ac9 (J 1 Z (C hf Z (fun h8 hf=>?_) fun h8 hf=>?_))))))))))
  ·cases hf;exact M 1 Z (Y Z h)
  refine Wn0 2 Z (AR.drop1 ?_);exact N 0 Z ⟨(bq (x1+1)),(uz y1 e1.name (bq ((qJ y1 e1.name)+1))),Z,Z,Z,hf⟩
 cases hf;exact M 1 Z (Y Z h)⟩
instance aeX(kD:Int):CT Tryz.prog (jK kD) (fun r=>.ret (.agg (dG r))) 156 [iP kD]:=by
  unfold jK;exact Z1 ⟨5,[],[]⟩ Z Tryz.func156 Z Z Z Z
section
variable (Cg : aM → Option aM) [ad4 : ∀(Wq : aM), CT Tryz.prog (Cg Wq) (fun r => .ret (.agg (dG r))) 230 [.agg (dG Wq)]]
instance O3(t1:aM):CT Tryz.prog (DX Cg t1) (fun r=>.ret (.agg (dG r))) 230 [.agg (dG t1)]:=by
  unfold DX;exact Z1 ⟨18,[],[]⟩ Z Tryz.func230 Z Z Z Z
end
theorem JE:∀k:Nat,(∀(Wq:aM),CT Tryz.prog (DW k Wq) (fun r=>.ret (.agg (dG r))) 230 [.agg (dG Wq)])
  | 0=>fun _=>CT.none Z
  | k+1=>by
    obtain (i0):=JE k;exact fun Wq=>O3 _ Wq
instance ahI(Wq:aM):CT Tryz.prog (G_ Wq) (fun r=>.ret (.agg (dG r))) 230 [.agg (dG Wq)]:=(JE BIG) Wq
section
variable (Es : aM → aM → Option aM) [aeQ : ∀(tO : aM) (tN : aM), CT Tryz.prog (Es tO tN) (fun r => .ret (.agg (dG r))) 157 [.agg (dG tO), .agg (dG tN)]]
instance Qg(a1:aM)(b1:aM):CT Tryz.prog (FE Es a1 b1) (fun r=>.ret (.agg (dG r))) 157 [.agg (dG a1),.agg (dG b1)]:=by
  unfold FE;exact Z1 ⟨43,[],[]⟩ Z Tryz.func157 Z Z Z Z
end
theorem Lb:∀k:Nat,(∀(tO:aM) (tN:aM),CT Tryz.prog (FD k tO tN) (fun r=>.ret (.agg (dG r))) 157 [.agg (dG tO),.agg (dG tN)])
  | 0=>fun _ _=>CT.none Z
  | k+1=>by
    obtain (i0):=Lb k;exact fun tO tN=>Qg _ tO tN
instance aiA(tO:aM)(tN:aM):CT Tryz.prog (Je tO tN) (fun r=>.ret (.agg (dG r))) 157 [.agg (dG tO),.agg (dG tN)]:=(Lb BIG) tO tN
section
variable (lK : ah → Option aM) [aeR : ∀(mo : ah), CT Tryz.prog (lK mo) (fun r => .ret (.agg (dG r))) 224 [.agg (aF mo)]]
instance (v1 :ah) (n_ fF mM):LE (yY lK v1 n_ fF mM) (fun j p=>yY lK v1 j p.1 p.2) n_ (fF,mM) [] [] [] [1,2,3,22,23] (fun v w p=>[(24,iP p.1)]) (fun v w p s=>xW 0 (dG p.2) (s)):=⟨Z⟩
instance Qh(v1:ah):CT Tryz.prog (FI lK v1) (fun r=>.ret (.agg (dG r))) 224 [.agg (aF v1)]:=by
  unfold FI;exact Z1 ⟨40,[],[]⟩ Z Tryz.func224 Z Z Z Z
end
theorem Lc:∀k:Nat,(∀(mo:ah),CT Tryz.prog (FH k mo) (fun r=>.ret (.agg (dG r))) 224 [.agg (aF mo)])
  | 0=>fun _=>CT.none Z
  | k+1=>by
    obtain (i0):=Lc k;exact fun mo=>Qh _ mo
instance aiB(mo:ah):CT Tryz.prog (Po mo) (fun r=>.ret (.agg (dG r))) 224 [.agg (aF mo)]:=(Lc BIG) mo
instance alJ(v1:ah):CT Tryz.prog (NY v1) (fun r=>.ret (.agg (dG r))) 147 [.agg (aF v1)]:=by
  unfold NY;exact Z1 ⟨9,[],[]⟩ Z Tryz.func147 Z Z Z Z
instance (bX :List bU) (name1:Str) (n_ fF):LE (uy bX name1 n_ fF) (fun j p=>uy bX name1 j p) n_ fF [] [] [] [1,4,8,9] (fun v w p=>[(10,iP p)]) (fun v w p s=>s):=⟨Z⟩
instance aeI(bX:List bU)(name1:Str):CT Tryz.prog (ED bX name1) (fun r=>.ret (.tuple [.agg (dG r.1),iP r.2])) 148 [.list (List.map bU.cells bX),.str name1]:=by
  unfold ED;exact Z1 ⟨22,[],[]⟩ Z Tryz.func148 Z Z Z Z
instance anJ(kD:Int):CT Tryz.prog (lM kD) (fun r=>.ret (.agg (dG r))) 88 [iP kD]:=by
  unfold lM;exact Z1 ⟨5,[],[]⟩ Z Tryz.func88 Z Z Z Z
instance aeJ(kD:Int)(c1:aM)(c2:aM):CT Tryz.prog (nk kD c1 c2) (fun r=>.ret (.bool r)) 226 [iP kD,.ref (dG c1),.ref (dG c2)]:=by
  unfold nk;exact Z1 ⟨15,[],[]⟩ Z Tryz.func226 Z Z Z Z
instance ai3(t1:aM):CT Tryz.prog (j_ t1) (fun r=>.ret (.bool r)) 225 [.agg (dG t1)]:=by
  unfold j_;exact Z1 ⟨11,[],[]⟩ Z Tryz.func225 Z Z Z Z
instance ah1(a1:aM)(b1:aM)(kD:Int):CT Tryz.prog (jT a1 b1 kD) (fun r=>.ret (.bool r)) 227 [.agg (dG a1),.agg (dG b1),iP kD]:=by
  unfold jT;exact Z1 ⟨37,[],[]⟩ Z Tryz.func227 Z Z Z Z
instance aiC(a1:aM)(b1:aM):CT Tryz.prog (Jf a1 b1) (fun r=>.ret (.bool r)) 155 [.agg (dG a1),.agg (dG b1)]:=by
  unfold Jf;exact Z1 ⟨13,[],[]⟩ Z Tryz.func155 Z Z Z Z
instance aiD(a1:aM)(b1:aM):CT Tryz.prog (Jg a1 b1) (fun r=>.ret (.agg (dG r))) 87 [.agg (dG a1),.agg (dG b1)]:=by
  unfold Jg;exact Z1 ⟨13,[],[]⟩ Z Tryz.func87 Z Z Z Z
instance ame(a1:aM)(b1:aM):CT Tryz.prog (OU a1 b1) (fun r=>.ret (.tuple [.agg (dG r.1),iP r.2])) 228 [.agg (dG a1),.agg (dG b1)]:=by
  unfold OU;exact Z1 ⟨44,[],[]⟩ Z Tryz.func228 Z Z Z Z
instance ah2(op1:Str)(a1:aM)(b1:aM):CT Tryz.prog (Io op1 a1 b1) (fun r=>.ret (.tuple [.agg (dG r.1),iP r.2])) 152 [.str op1,.agg (dG a1),.agg (dG b1)]:=by
  unfold Io;exact Z1 ⟨59,[],[]⟩ Z Tryz.func152 Z Z Z Z
section
variable (kF : aj → List bU → Option (aM × Int)) [ag5 : ∀(gB : aj) (fZ : List bU), CT Tryz.prog (kF gB fZ) (fun r => .ret (.tuple [.agg (dG r.1), iP r.2])) 86 [.agg (aR gB), .list (List.map bU.cells fZ)]] (vY : List aj → List bU → Option (List aM × Int)) [aiv : ∀(NQ : List aj) (fZ : List bU), CT Tryz.prog (vY NQ fZ) (fun r => .ret (.tuple [.list (aM.bP r.1), iP r.2])) 146 [.list (aj.bP NQ), .list (List.map bU.cells fZ)]]
instance (l1 :List aj) (bX:List bU) (n_ fF mM):LE (C_ kF l1 bX n_ fF mM) (fun j p=>C_ kF l1 bX j p.1 p.2) n_ (fF,mM) [6] [] [(6,2,63)] [1,11,12] (fun v w p=>[(6,.own v (List.map aM.cells p.1)),(13,iP p.2)]) (fun v w p s=>putRow 0 v ((List.map aM.cells p.1).length) (s)):=⟨Z⟩
instance T9(e1:aj)(bX:List bU):CT Tryz.prog (Im kF vY e1 bX) (fun r=>.ret (.tuple [.agg (dG r.1),iP r.2])) 86 [.agg (aR e1),.list (List.map bU.cells bX)]:=by
  unfold Im;exact Z1 ⟨110,[],[]⟩ Z Tryz.func86 Z Z Z Z
instance UZ(l1:List aj)(bX:List bU):CT Tryz.prog (J6 kF vY l1 bX) (fun r=>.ret (.tuple [.list (aM.bP r.1),iP r.2])) 146 [.list (aj.bP l1),.list (List.map bU.cells bX)]:=by
  unfold J6;exact Z1 ⟨32,[],[]⟩ Z Tryz.func146 Z Z Z Z
end
theorem H7:∀k:Nat,(∀(gB:aj) (fZ:List bU),CT Tryz.prog (C9 k gB fZ) (fun r=>.ret (.tuple [.agg (dG r.1),iP r.2])) 86 [.agg (aR gB),.list (List.map bU.cells fZ)])∧(∀(NQ:List aj) (fZ:List bU),CT Tryz.prog (Fp k NQ fZ) (fun r=>.ret (.tuple [.list (aM.bP r.1),iP r.2])) 146 [.list (aj.bP NQ),.list (List.map bU.cells fZ)])
  | 0=>⟨fun _ _=>CT.none Z,fun _ _=>CT.none Z⟩
  | k+1=>by
    obtain⟨i0,i1⟩:=H7 k;exact⟨fun gB fZ=>T9 _ _ gB fZ,fun NQ fZ=>UZ _ _ NQ fZ⟩
instance akT(gB:aj)(fZ:List bU):CT Tryz.prog (S9 gB fZ) (fun r=>.ret (.tuple [.agg (dG r.1),iP r.2])) 86 [.agg (aR gB),.list (List.map bU.cells fZ)]:=(H7 BIG).1 gB fZ
instance amf(NQ:List aj)(fZ:List bU):CT Tryz.prog (aeo NQ fZ) (fun r=>.ret (.tuple [.list (aM.bP r.1),iP r.2])) 146 [.list (aj.bP NQ),.list (List.map bU.cells fZ)]:=(H7 BIG).2 NQ fZ
instance XV(e1:aj)(bX:List bU):CT Tryz.prog (Ma e1 bX) (fun r=>.ret (.tuple [.agg (dG r.1),iP r.2])) 51 [.agg (aR e1),.list (List.map bU.cells bX)]:=by
  unfold Ma;exact Z1 ⟨35,[],[]⟩ Z Tryz.func51 Z Z Z Z
section
variable [Dj]
instance Kh(s1:Str)(bX:List bU):CT Tryz.prog (CR s1 bX) (fun r=>.ret (iP r)) 21 [.str s1,.list (List.map bU.cells bX)]:=⟨zP rfl,fun {r0} hf {τ Q} h=>by
 unfold CR at hf;refine AC.none (AC.RQ 46 [.cell 4 24] [0,1] Tryz.func21 Z Z Z Z Z ?_);obtain⟨ps1,bV,nH,h1,hf⟩:=uf hf;refine AW.sr (AR.step Z Z Z (AO.Ip Z Z Z (AR.step Z Z Z (AO.bM Z abL (fun b4=>(AR.nil [0,3,4] Z ?_))))));refine AW.sr (cs 1 Z (AR.step Z Z Z (AO.call Z _ Z Z ale ((vE _).h h1 (cs 7 Z ?_)))));refine AR.nil [3,4,5,7] Z (AW.seq (AW.sr (cs 2 Z ?_)));refine AR.nil [3,4,5,7,19] Z (AW.cond Z (fun h2=>?_) (fun h2=>?_))
 ·cases kX h2 hf;refine AW.sr (cs 1 Z (AR.bW Z Z (AO.dS (i:=0) Z Z Z uK Z Z Z Z Z (AR.nil [4] Z ?_))));refine AW.ret ?_;exact .inl ⟨rfl,_,⟨_,_,rfl,⟨_,_,0,_,_,rfl,rfl,uK,rfl⟩,rfl⟩,[],asY _,h⟩
 replace hf:=kE h2 hf;refine B1 hf fun GJ h3 hf=>?_;refine AW.skip (AW.seq (AW.sr (AR.step Z Z Z (AO.Gw Z Z ak2 Z ?_))));refine AR.step Z Z Z (AO.call Z _ Z Z aoK ((Z0 _).h h3 (cs 1 Z (AR.nil [3,4,5,8] Z (AW.sr ?_)))));refine cs 2 Z (AR.nil [3,4,5,8,24] Z (AW.cond Z (fun h4=>?_) (fun h4=>?_)))
 ·cases kX h4 hf;refine AW.sr (cs 1 Z (AR.bW Z Z (AO.dS (i:=0) Z Z Z uK Z Z Z Z Z (AR.nil [4] Z ?_))));refine AW.ret ?_;exact .inl ⟨rfl,_,⟨_,_,rfl,⟨_,_,0,_,_,rfl,rfl,uK,rfl⟩,rfl⟩,[],asY _,h⟩
 replace hf:=kE h4 hf;refine B1 hf fun s2 h5 hf=>?_;cases hf;refine AW.skip (AW.seq (AW.sr (cs 1 Z ?_)));refine AR.step Z Z Z (AO.call Z _ Z Z ak9 (BX _ (AR.nil [3,4,27] Z (AW.block (AW.RD (β:=Option Int) (X:=aj) Z ak7 (fun x1=>[.agg (aR x1)]) (fun _=>Z) (by decide) (zN bX) (fun s τ=>τ=[.box b4 [iP (s.getD 0)]]) (fun s=>s.map fun _=>.ret) (s0:=none) (s1:=s2) Z Z ?_ ?_ ?_)))))
 ·intro l T' hy τ hT;refine zZ l T' (zN bX) hy ps1 h5 hT fun τ' hT'=>?_;exact⟨⟨_,Z⟩,hT'⟩
 ·rintro l s x1 b s3 _ hh rfl;unfold zN at hh;cases s with
  | some e=>cases hh
  | none=>
  refine⟨Z,?_⟩;obtain⟨t1,acP,h6,hh⟩:=gL hh;refine qL.region Z (AR.step Z Z Z (AO.bM Z K4 (fun b9=>(AR.bW Z Z (AO.dS (i:=0) Z Z Z yB Z Z Z Z Z (AR.nil [3,4,9] Z ?_))))));refine⟨Z,(qL.block (qL.seq (qL.region Z ?_)))⟩;refine AR.step Z Z Z (AO.dX (i:=0) Z Z Z yB Z Z (AR.step Z Z Z (AO.Gw Z Z ak2 Z (AR.step Z Z Z (AO.call Z _ Z Z aoJ ((XV _ _).h h6 (cs 3 Z ?_)))))));refine AR.step Z Z Z (AO.bM Z aoj (fun b10=>(AR.bW Z Z (AO.dS (i:=0) Z Z Z aoq Z Z Z Z Z (cs 1 Z (AR.nil [4,10,11] Z ?_))))));refine qL.seq (qL.seq (qL.region Z (cs 2 Z ?_)));refine AR.nil [4,10,11,36] Z (qL.cond Z (fun h7=>?_) (fun h7=>?_))
  ·cases kX h7 hh;refine qL.seq (qL.region Z (cs 1 Z (AR.bW Z Z (AO.dS (i:=2) Z Z Z uK Z Z Z Z Z ?_))));refine AR.nil [] Z (qL.ret ?_);exact⟨Z,⟨_,.cons _ (.cons _ (List.Sublist.refl _)),Z⟩,Z,Z⟩
  replace hh:=kE h7 hh;refine qL.skip (qL.seq (qL.region Z (cs 1 Z ?_)));refine AR.step Z Z Z (AO.dX (i:=0) Z Z Z He Z Z (cs 2 Z (AR.or 4 41 45 [4,10] (x:=(t1.kind==6)) Z Z (fun h8=>?_) (fun h8=>?_) ?_)))
  ·refine AR.is 41 h8 Z (cs 1 Z (AR.go Z Z Z Z Z Z (AO.dX (i:=0) Z Z Z He Z Z (cs 2 Z ?_))));refine AR.nil [45,4,10] Z ?_;exact⟨Z,Z,Z,Z⟩
  ·refine AR.is 41 h8 Z (cs 4 Z (AR.nil [45,4,10] Z ?_));exact⟨Z,Z,Z,Z⟩
  refine AR.nil [4,45] Z (qL.cond Z (fun h9=>?_) (fun h9=>?_))
  ·cases kX h9 hh;refine qL.seq (qL.region Z (AR.bW Z Z (AO.dS (i:=2) Z Z Z uK Z Z Z Z Z (AR.nil [] Z ?_))));refine qL.ret ?_;exact⟨Z,⟨_,.cons _ (.cons _ (List.Sublist.refl _)),Z⟩,Z,Z⟩
  ·cases kE h9 hh;refine qL.skip ?_;exact⟨Z,⟨_,.cons _ (.cons _ (List.Sublist.refl _)),Z⟩,Z,Z⟩
 ·rintro D _ rfl;cases s2 with
  | some e=>exact .inr ⟨D,_,Z,Z,_,⟨_,_,Z,⟨_,_,0,_,_,Z,Z,uK,Z⟩,Z⟩,[],asY _,h⟩
  | none=>
   show AW _ _ _ _ _ _ _;refine AW.sr (AR.bW Z Z (AO.dS (i:=0) Z Z Z uK Z Z Z Z Z (AR.nil [4] Z (AW.ret ?_))))
   exact .inr ⟨D,[_],Z,Z,_,⟨_,_,Z,⟨_,_,0,_,_,Z,Z,uK,Z⟩,Z⟩,[],asY _,h⟩⟩
end
section
variable [Dj]
instance al9:CT Tryz.prog (Gx) (fun r=>.ret (.bool r)) 10 []:=⟨zP rfl,fun {r0} hf {τ Q} h=>by
 unfold Gx at hf;refine BN 136 [.tmp 0] [] Tryz.func10 Z Z Z Z Z (W 1 Z (AS Z (AO.fu (List.map f_ ([36]:List UInt8)) Z EL Z Z Z Z (AS Z (AO.t_ Z MC Q8 mq Z Z ?_)))));refine B1 hf fun x1 h1 hf=>U 2 Z (AS Z (AO.Md h1 Z Z Z ?_));refine B1 hf fun x2 h2 hf=>U 1 Z (AS Z (AO.Md h2 Z Z Z ?_));refine B1 hf fun x3 h3 hf=>AS Z (AO.Md h3 Z Z Z ?_);refine B1 hf fun x4 h4 hf=>CL Z ((TR).h h4 ?_);refine B1 hf fun x5 h5 hf=>AS Z (AO.Md h5 Z Z Z ?_);refine B1 hf fun s1 h6 hf=>AS rfl (AO.Md h6 rfl rfl rfl (U 3 rfl (AS rfl (AO.fu (List.map aB.cells [(aB.mk ([120]:Str) (ah.mk 2 false 2 ([]:Str) [] []))]) rfl Rl rfl rfl rfl (by first|rfl|simp only[List.map,aB.aT]) ?_))));obtain⟨l1,x6,e1,h7,hf⟩:=uf hf;refine U 2 Z (CL Z ((vE _).h h7 ?_));obtain⟨t1,f1,h8,hf⟩:=gL hf;refine U 9 Z (CL Z ((Qm _ _).h h8 ?_));obtain⟨n1,g1,h9,hf⟩:=gL hf;refine U 6 Z (CL Z ((TS _).h h9 ?_));refine B1 hf fun x7 h10 hf=>U 5 Z (CL Z ((TR).h h10 ?_))
 refine B1 hf fun x8 h11 hf=>AS Z (AO.Md h11 Z Z Z ?_);refine B1 hf fun x9 h12 hf=>AS Z (AO.Md h12 Z Z Z ?_);obtain⟨G8,bV,hx1,KY,hf⟩:=uf hf;refine CL Z ((vE _).h KY (U 10 Z (AR.or 4 55 59 [1,2,4,7,8,9,10,12,13] (x:=((l1.length:Int) !=3)) Z Z (fun I6=>?_) (fun I6=>?_) ?_)))
 ·refine Is 55 I6 Z (U 1 Z (GO Z (AO.fQ (l:=l1) Z Z Z Z xg Z Z ?_)));exact uG 2 Z (En [59,1,2,4,7,8,9,10,12,13] Z)
 ·refine Is 55 I6 Z ?_;exact uG 4 Z (En [59,1,2,4,7,8,9,10,12,13] Z)
 refine B1 hf fun b1 h16 hf=>U 1 Z (AR.tu 9 60 69 false [1,2,4,7,8,9,10,12,13] b1 Z Z (fun LX=>?_) (fun LX=>?_) ?_)
 ·refine IF 60 LX h16 Z fun h16=>?_;refine B1 h16 fun e2 h17 h16=>U 1 Z (GO Z (AO.dV h17 Z Z Z Z xg (aO.aT _) Z ?_));refine B1 h16 fun NP h18 h16=>U 3 Z (GO Z (AO.Md h18 Z Z Z ?_));refine B1 h16 fun U3 h19 h16=>GO Z (AO.Md h19 Z Z Z ?_);cases h16;exact uG 2 Z (En [69,1,2,4,7,8,9,10,12,13] Z)
 ·refine IT 60 LX h16 Z fun h16=>?_;cases h16;exact uG 9 Z (En [69,1,2,4,7,8,9,10,12,13] Z)
 refine B1 hf fun b2 h21 hf=>U 1 Z (AR.tu 6 70 76 false [1,2,4,7,8,9,10,12,13] b2 Z Z (fun h20=>?_) (fun h20=>?_) ?_)
 ·refine IF 70 h20 h21 Z fun h21=>?_;refine B1 h21 fun e3 h22 h21=>U 1 Z (GO Z (AO.dV h22 Z Z Z Z xg (aO.aT _) Z ?_));cases h21;exact uG 4 Z (En [76,1,2,4,7,8,9,10,12,13] Z)
 ·refine IT 70 h20 h21 Z fun h21=>?_;cases h21;exact uG 6 Z (En [76,1,2,4,7,8,9,10,12,13] Z)
 refine B1 hf fun b3 Zd hf=>U 1 Z (AR.tu 6 77 83 false [1,2,4,7,8,9,10,12,13] b3 Z Z (fun h23=>?_) (fun h23=>?_) ?_)
 ·refine IF 77 h23 Zd Z fun Zd=>?_;refine B1 Zd fun e4 h25 Zd=>U 1 Z (GO Z (AO.dV h25 Z Z Z Z xg (aO.aT _) Z ?_));cases Zd;exact uG 4 Z (En [83,1,2,4,7,8,9,10,12,13] Z)
 ·refine IT 77 h23 Zd Z fun Zd=>?_;cases Zd;exact uG 6 Z (En [83,1,2,4,7,8,9,10,12,13] Z)
 refine U 1 Z (On 3 84 87 [1,2,4,7,9,10,12,13] (f1 !=0) Z Z Z Z ?_);refine B1 hf fun b4 h28 hf=>U 1 Z (AR.tu 6 88 94 false [2,4,9,10,12,13] b4 Z Z (fun h27=>?_) (fun h27=>?_) ?_)
 ·refine IF 88 h27 h28 Z fun h28=>?_;refine B1 h28 fun Ua h29 h28=>U 2 Z (GO Z (AO.Md h29 Z Z Z ?_));refine B1 h28 fun Z7 h30 h28=>GO Z (AO.Md h30 Z Z Z ?_);cases h28;exact uG 2 Z (En [94,2,4,9,10,12,13] Z)
 ·refine IT 88 h27 h28 Z fun h28=>?_;cases h28;exact uG 6 Z (En [94,2,4,9,10,12,13] Z)
 refine J 0 Z (C hf Z (fun h31 hf=>?_) fun h31 hf=>?_)
 ·cases hf;exact M 1 Z (Y Z h)
 refine W 2 rfl (AS rfl (AO.fu (List.map bU.cells [(bU.mk ([120]:Str) (aM.mk 3 []))]) rfl aoy rfl rfl rfl (by first|rfl|simp only[List.map,bU.aT]) ?_));refine U 4 Z (AR.and 4 100 104 [2,4,9,12,13,14] (x:=((n1.length:Int)==1)) Z Z (fun h32=>?_) (fun h32=>?_) ?_)
 ·refine Is 100 h32 Z (U 1 Z (GO Z (AO.fQ (l:=n1) Z Z Z Z Fh Z Z ?_)));exact uG 2 Z (En [104,2,4,9,12,13,14] Z)
 ·refine Is 100 h32 Z ?_;exact uG 4 Z (En [104,2,4,9,12,13,14] Z)
 refine B1 hf fun b5 NR hf=>U 1 Z (AR.tu 5 105 110 true [2,4,12,13,14] b5 Z Z (fun XZ=>?_) (fun XZ=>?_) ?_)
 ·refine IT 105 XZ NR Z fun NR=>?_;refine B1 NR fun e5 h35 NR=>U 1 Z (GO Z (AO.dV h35 Z Z Z Z Fh Z Z ?_));cases NR;exact uG 3 Z (En [110,2,4,12,13,14] Z)
 ·refine IF 105 XZ NR Z fun NR=>?_;cases NR;exact uG 5 Z (En [110,2,4,12,13,14] Z)
 refine U 1 Z (An 3 111 114 [2,4,13,14] (bV==6) Z Z Z Z (U 1 Z (An 3 115 118 [2,4,14] (hx1==4) Z Z Z Z ?_)));refine B1 hf fun b6 h39 hf=>U 1 Z (AR.tu 5 119 124 true [2,14] b6 Z Z (fun h38=>?_) (fun h38=>?_) ?_)
 ·refine IT 119 h38 h39 Z fun h39=>?_;refine B1 h39 fun x15 h40 h39=>U 1 Z (GO Z (AO.call Z _ Z Z aoS ((UY _).h h40 ?_)));cases h39;exact uG 3 Z (En [124,2,14] Z)
 ·refine IF 119 h38 h39 Z fun h39=>?_;cases h39;exact uG 5 Z (En [124,2,14] Z)
 refine B1 hf fun b7 h42 hf=>U 1 Z (AR.tu 5 125 130 true [2] b7 Z Z (fun h41=>?_) (fun h41=>?_) ?_)
 ·refine IT 125 h41 h42 Z fun h42=>?_;refine B1 h42 fun Z6 h43 h42=>U 2 Z (GO Z (AO.call Z _ Z Z ald ((Kh _ _).h h43 ?_)));cases h42;exact uG 2 Z (En [130,2] Z)
 ·refine IF 125 h41 h42 Z fun h42=>?_;cases h42;exact uG 5 Z (En [130,2] Z)
 refine BR hf fun b8 h45 hf=>?_;refine U 1 Z (AR.tu 4 131 135 true [] b8 Z Z (fun h44=>?_) (fun h44=>?_) ?_)
 ·refine IT 131 h44 h45 Z fun h45=>?_;refine B1 h45 fun x17 h46 h45=>U 1 Z (GO Z (AO.call Z _ Z Z ald ((Kh _ _).h h46 ?_)));cases h45;exact uG 2 Z (En [135] Z)
 ·refine IF 131 h44 h45 Z fun h45=>?_;cases h45;exact uG 4 Z (En [135] Z)
 cases hf;exact N 1 Z (Y Z h)⟩
end
end Go.Proofs.YtpbjbkhfpjckoaaGreatDoor
