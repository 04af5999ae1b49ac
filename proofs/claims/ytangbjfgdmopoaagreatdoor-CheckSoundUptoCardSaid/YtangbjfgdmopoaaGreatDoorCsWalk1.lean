/- Proved here: each function does what its functional text says (part 1). -/
import Derived.Test.YtangbjfgdmopoaaGreatDoorCsA2
import Derived.Test.YtangbjfgdmopoaaGreatDoorCsFt
import Derived.Test.YtangbjfgdmopoaaGreatDoorCsPre
import Derived.Test.YtangbjfgdmopoaaGreatDoorProg
import Derived.KernelRfl
set_option linter.unusedVariables false
set_option linter.unusedSimpArgs false
set_option linter.unusedSectionVars false
namespace Go.Ft
open Go Go.Abs
mutual
def ah.cells :ah→List PV
  | ⟨a0,a1,a2,a3,a4,a5⟩=>[.int .i64 a0,.bool a1,.int .i64 a2,.str a3,.list (ah.bn a4),.list (List.map ko a5)]
def ah.bn :List ah→List (List PV)
  | []=>[]
  | x :: xs=>ah.cells x :: ah.bn xs
end
theorem ah.aG (x:ah):ah.cells x=[.int .i64 x.kind,.bool x.dh,.int .i64 x.bZ,.str x.bI,.list (ah.bn x.aI),.list (List.map ko x.keys)]:=by cases x; rfl
theorem ah.aB :∀ l:List ah,ah.bn l=l.map ah.cells
  | []=>rfl
  | _ :: l=>congrArg _ (ah.aB l)
def ah.abw (l:List ah):List PV:=[.list (ah.bn l)]
theorem ah.dV (x:ah):(ah.cells x).length=6:=by rw [ah.aG]; rfl
theorem ah.cells_one (x:ah):(ah.cells x).all PV.one=true:=by rw [ah.aG]; rfl
mutual
def aj.cells :aj→List PV
  | ⟨a0,a1,a2,a3,a4⟩=>[.int .i64 a0,.str a1,.int .i64 a2.kind,.bool a2.dh,.int .i64 a2.bZ,.str a2.bI,.list (ah.bn a2.aI),.list (List.map ko a2.keys),.list (aj.bn a3),.list (List.map ko a4)]
def aj.bn :List aj→List (List PV)
  | []=>[]
  | x :: xs=>aj.cells x :: aj.bn xs
end
theorem aj.aG (x:aj):aj.cells x=[.int .i64 x.kind,.str x.name,.int .i64 x.value.kind,.bool x.value.dh,.int .i64 x.value.bZ,.str x.value.bI,.list (ah.bn x.value.aI),.list (List.map ko x.value.keys),.list (aj.bn x.args),.list (List.map ko x.keys)]:=by cases x; rfl
theorem aj.aB :∀ l:List aj,aj.bn l=l.map aj.cells
  | []=>rfl
  | _ :: l=>congrArg _ (aj.aB l)
def aj.abw (l:List aj):List PV:=[.list (aj.bn l)]
theorem aj.dV (x:aj):(aj.cells x).length=10:=by rw [aj.aG]; rfl
theorem aj.cells_one (x:aj):(aj.cells x).all PV.one=true:=by rw [aj.aG]; rfl
@[reducible] def av.cells (x:av):List PV:=[.str x.name,.int .i64 x.value.kind,.bool x.value.dh,.int .i64 x.value.bZ,.str x.value.bI,.list (ah.bn x.value.aI),.list (List.map ko x.value.keys)]
theorem av.aG (x:av):av.cells x=[.str x.name,.int .i64 x.value.kind,.bool x.value.dh,.int .i64 x.value.bZ,.str x.value.bI,.list (ah.bn x.value.aI),.list (List.map ko x.value.keys)]:=rfl
theorem av.dV (x:av):(av.cells x).length=7:=by rw [av.aG]; rfl
theorem av.cells_one (x:av):(av.cells x).all PV.one=true:=by rw [av.aG]; rfl
@[reducible] def aX.cells (x:aX):List PV:=[.int .i64 x.kind,.str x.text,.int .i64 x.at_]
theorem aX.aG (x:aX):aX.cells x=[.int .i64 x.kind,.str x.text,.int .i64 x.at_]:=rfl
theorem aX.dV (x:aX):(aX.cells x).length=3:=by rw [aX.aG]; rfl
theorem aX.cells_one (x:aX):(aX.cells x).all PV.one=true:=by rw [aX.aG]; rfl
@[reducible] def ak.cells (x:ak):List PV:=[.list (List.map aX.cells x.ts),.int .i64 x.at_]
theorem ak.aG (x:ak):ak.cells x=[.list (List.map aX.cells x.ts),.int .i64 x.at_]:=rfl
theorem ak.dV (x:ak):(ak.cells x).length=2:=by rw [ak.aG]; rfl
theorem ak.cells_one (x:ak):(ak.cells x).all PV.one=true:=by rw [ak.aG]; rfl
@[reducible] def aA.cells (x:aA):List PV:=[.int .i64 x.at_,.int .i64 x.code]
theorem aA.aG (x:aA):aA.cells x=[.int .i64 x.at_,.int .i64 x.code]:=rfl
theorem aA.dV (x:aA):(aA.cells x).length=2:=by rw [aA.aG]; rfl
theorem aA.cells_one (x:aA):(aA.cells x).all PV.one=true:=by rw [aA.aG]; rfl
mutual
def b_.cells :b_→List PV
  | ⟨a0,a1⟩=>[.int .i64 a0,.list (b_.bn a1)]
def b_.bn :List b_→List (List PV)
  | []=>[]
  | x :: xs=>b_.cells x :: b_.bn xs
end
theorem b_.aG (x:b_):b_.cells x=[.int .i64 x.kind,.list (b_.bn x.elem)]:=by cases x; rfl
theorem b_.aB :∀ l:List b_,b_.bn l=l.map b_.cells
  | []=>rfl
  | _ :: l=>congrArg _ (b_.aB l)
def b_.abw (l:List b_):List PV:=[.list (b_.bn l)]
theorem b_.dV (x:b_):(b_.cells x).length=2:=by rw [b_.aG]; rfl
theorem b_.cells_one (x:b_):(b_.cells x).all PV.one=true:=by rw [b_.aG]; rfl
@[reducible] def qE.cells (x:qE):List PV:=[.str x.name,.int .i64 x.LK.kind,.list (b_.bn x.LK.elem)]
theorem qE.aG (x:qE):qE.cells x=[.str x.name,.int .i64 x.LK.kind,.list (b_.bn x.LK.elem)]:=rfl
theorem qE.dV (x:qE):(qE.cells x).length=3:=by rw [qE.aG]; rfl
theorem qE.cells_one (x:qE):(qE.cells x).all PV.one=true:=by rw [qE.aG]; rfl
@[reducible] def aD.cells (x:aD):List PV:=[.int .i64 x.code]
theorem aD.aG (x:aD):aD.cells x=[.int .i64 x.code]:=rfl
theorem aD.dV (x:aD):(aD.cells x).length=1:=by rw [aD.aG]; rfl
theorem aD.cells_one (x:aD):(aD.cells x).all PV.one=true:=by rw [aD.aG]; rfl
@[reducible] def jo.cells (x:jo):List PV:=[.int .u64 ((x.half.getD 0 0).toNat:Int),.int .u64 ((x.half.getD 1 0).toNat:Int),.bool x.neg]
theorem jo.aG (x:jo):jo.cells x=[.int .u64 ((x.half.getD 0 0).toNat:Int),.int .u64 ((x.half.getD 1 0).toNat:Int),.bool x.neg]:=rfl
theorem jo.dV (x:jo):(jo.cells x).length=3:=by rw [jo.aG]; rfl
theorem jo.cells_one (x:jo):(jo.cells x).all PV.one=true:=by rw [jo.aG]; rfl
end Go.Ft
namespace Go.Proofs.YtangbjfgdmopoaaGreatDoor
open Go Go.Abs Go.Ft
set_option maxRecDepth 20000
attribute [local irreducible] AO AR AW AC
class Ay [iw]:Prop where
  hD:¬ iw.D
  max:∀ (w:World) (m:j6),iw.G w m→∃ n:Int,w.cell? ⟨2,0,none⟩=some (.int .i64 n)
  pow:∀ (w:World) (m:j6),iw.G w m→Lib.TabIs Tryz.prog w "internal/strconv.uint64pow10" .u64 Lib.pow10Tab
  syn:∀ (w:World) (m:j6),iw.G w m→∃ ev,w.cell? ⟨0,0,none⟩=some ev∧(ev=.nilIface∨∃ te pe,ev=.iface te pe)
  rng:∀ (w:World) (m:j6),iw.G w m→∃ ev,w.cell? ⟨1,0,none⟩=some ev∧(ev=.nilIface∨∃ te pe,ev=.iface te pe)
variable [iw]
theorem au9 (w:World):(isAgg 49).run Tryz.prog w=.ok true w:=by kernel_rfl
theorem asg :Hf Tryz.prog 134=some (8,1):=by kernel_rfl
theorem ant :Hf Tryz.prog 202=some (2,1):=by kernel_rfl
theorem auj :Tryz.prog.cellsOf 201=1:=by kernel_rfl
theorem aui :Tryz.prog.cellsOf 202=2:=by kernel_rfl
theorem ak9 :Tryz.prog.cellsOf 5=1:=by kernel_rfl
theorem auh :Tryz.prog.eqGuardType Tryz.prog.depth 202=false:=by kernel_rfl
theorem alO :elemSize Tryz.prog 101=some 3:=by kernel_rfl
theorem apq :elemSize Tryz.prog 110=some 1:=by kernel_rfl
theorem apo :elemSize Tryz.prog 188=some 1:=by kernel_rfl
theorem dN :elemSize Tryz.prog 22=some 6:=by kernel_rfl
theorem dO :elemSize Tryz.prog 23=some 1:=by kernel_rfl
theorem fM :elemSize Tryz.prog 26=some 10:=by kernel_rfl
theorem kW :elemSize Tryz.prog 29=some 7:=by kernel_rfl
theorem yX :elemSize Tryz.prog 30=some 2:=by kernel_rfl
theorem amf :elemSize Tryz.prog 34=some 3:=by kernel_rfl
theorem ar6 :elemSize Tryz.prog 53=some 1:=by kernel_rfl
theorem atm :elemSize Tryz.prog 62=some 7:=by kernel_rfl
theorem anI :BJ Tryz.prog 179 0=some 0:=by kernel_rfl
theorem amu :BJ Tryz.prog 179 1=some 1:=by kernel_rfl
theorem ar1 :Tryz.prog.underlying 186=some (.interface (Tryz.prog.methodsAt 186)):=by kernel_rfl
theorem inB :∃ j,Tryz.prog.info? 179=some j∧(j.size != 0)=true:=sized (n:=2) (by kernel_rfl) rfl
theorem ajI :liesAt Tryz.prog Tryz.prog.depth 179 (2 / Tryz.prog.cellsOf 179) 0 179 1=true:=by kernel_rfl
theorem mixed :Tryz.prog.follows .mixedOrders=true:=by kernel_rfl
theorem anD :Tryz.prog.underlying 75=some (.map 9 3):=by kernel_rfl
theorem at6 :concrete Tryz.prog 156=true:=by kernel_rfl
theorem auU :concrete Tryz.prog 89=true:=by kernel_rfl
theorem arW :bG Tryz.prog 100=true:=by kernel_rfl
theorem atZ :bG Tryz.prog 101=true:=by kernel_rfl
theorem atY :bG Tryz.prog 102=true:=by kernel_rfl
theorem atX :bG Tryz.prog 103=true:=by kernel_rfl
theorem arV :bG Tryz.prog 106=true:=by kernel_rfl
theorem atW :bG Tryz.prog 108=true:=by kernel_rfl
theorem atV :bG Tryz.prog 109=true:=by kernel_rfl
theorem ajC :bG Tryz.prog 11=true:=by kernel_rfl
theorem atU :bG Tryz.prog 110=true:=by kernel_rfl
theorem atT :bG Tryz.prog 112=true:=by kernel_rfl
theorem atS :bG Tryz.prog 116=true:=by kernel_rfl
theorem Dq :bG Tryz.prog 117=true:=by kernel_rfl
theorem ah0 :bG Tryz.prog 118=true:=by kernel_rfl
theorem ahZ :bG Tryz.prog 119=true:=by kernel_rfl
theorem arU :bG Tryz.prog 121=true:=by kernel_rfl
theorem anU :bG Tryz.prog 123=true:=by kernel_rfl
theorem ahX :bG Tryz.prog 135=true:=by kernel_rfl
theorem ahV :bG Tryz.prog 138=true:=by kernel_rfl
theorem atQ :bG Tryz.prog 139=true:=by kernel_rfl
theorem aly :bG Tryz.prog 141=true:=by kernel_rfl
theorem ahU :bG Tryz.prog 142=true:=by kernel_rfl
theorem ahT :bG Tryz.prog 143=true:=by kernel_rfl
theorem ahS :bG Tryz.prog 144=true:=by kernel_rfl
theorem adP :bG Tryz.prog 145=true:=by kernel_rfl
theorem atP :bG Tryz.prog 147=true:=by kernel_rfl
theorem atO :bG Tryz.prog 148=true:=by kernel_rfl
theorem ahQ :bG Tryz.prog 150=true:=by kernel_rfl
theorem ahN :bG Tryz.prog 154=true:=by kernel_rfl
theorem adO :bG Tryz.prog 155=true:=by kernel_rfl
theorem ahM :bG Tryz.prog 157=true:=by kernel_rfl
theorem atN :bG Tryz.prog 158=true:=by kernel_rfl
theorem ahL :bG Tryz.prog 159=true:=by kernel_rfl
theorem agT :bG Tryz.prog 16=true:=by kernel_rfl
theorem arT :bG Tryz.prog 161=true:=by kernel_rfl
theorem atM :bG Tryz.prog 168=true:=by kernel_rfl
theorem arS :bG Tryz.prog 172=true:=by kernel_rfl
theorem ahJ :bG Tryz.prog 178=true:=by kernel_rfl
theorem agS :bG Tryz.prog 18=true:=by kernel_rfl
theorem adM :bG Tryz.prog 180=true:=by kernel_rfl
theorem atL :bG Tryz.prog 181=true:=by kernel_rfl
theorem atK :bG Tryz.prog 182=true:=by kernel_rfl
theorem ahI :bG Tryz.prog 184=true:=by kernel_rfl
theorem Nj :bG Tryz.prog 185=true:=by kernel_rfl
theorem am1 :bG Tryz.prog 186=true:=by kernel_rfl
theorem aou :bG Tryz.prog 187=true:=by kernel_rfl
theorem agR :bG Tryz.prog 19=true:=by kernel_rfl
theorem atJ :bG Tryz.prog 191=true:=by kernel_rfl
theorem atI :bG Tryz.prog 196=true:=by kernel_rfl
theorem arR :bG Tryz.prog 198=true:=by kernel_rfl
theorem arQ :bG Tryz.prog 202=true:=by kernel_rfl
theorem arP :bG Tryz.prog 205=true:=by kernel_rfl
theorem atH :bG Tryz.prog 207=true:=by kernel_rfl
theorem ahF :bG Tryz.prog 213=true:=by kernel_rfl
theorem ajz :bG Tryz.prog 22=true:=by kernel_rfl
theorem atG :bG Tryz.prog 222=true:=by kernel_rfl
theorem atF :bG Tryz.prog 225=true:=by kernel_rfl
theorem aot :bG Tryz.prog 23=true:=by kernel_rfl
theorem arO :bG Tryz.prog 231=true:=by kernel_rfl
theorem aos :bG Tryz.prog 232=true:=by kernel_rfl
theorem arN :bG Tryz.prog 233=true:=by kernel_rfl
theorem ahy :bG Tryz.prog 239=true:=by kernel_rfl
theorem adL :bG Tryz.prog 240=true:=by kernel_rfl
theorem arM :bG Tryz.prog 242=true:=by kernel_rfl
theorem auR :bG Tryz.prog 26=true:=by kernel_rfl
theorem atg :bG Tryz.prog 27=true:=by kernel_rfl
theorem atE :bG Tryz.prog 270=true:=by kernel_rfl
theorem auQ :bG Tryz.prog 28=true:=by kernel_rfl
theorem atf :bG Tryz.prog 29=true:=by kernel_rfl
theorem auP :bG Tryz.prog 31=true:=by kernel_rfl
theorem auO :bG Tryz.prog 36=true:=by kernel_rfl
theorem auN :bG Tryz.prog 38=true:=by kernel_rfl
theorem agO :bG Tryz.prog 41=true:=by kernel_rfl
theorem auM :bG Tryz.prog 49=true:=by kernel_rfl
theorem avp :bG Tryz.prog 5=true:=by kernel_rfl
theorem auL :bG Tryz.prog 50=true:=by kernel_rfl
theorem auK :bG Tryz.prog 51=true:=by kernel_rfl
theorem aor :bG Tryz.prog 52=true:=by kernel_rfl
theorem ate :bG Tryz.prog 56=true:=by kernel_rfl
theorem auJ :bG Tryz.prog 58=true:=by kernel_rfl
theorem an5 :bG Tryz.prog 59=true:=by kernel_rfl
theorem atD :bG Tryz.prog 6=true:=by kernel_rfl
theorem atd :bG Tryz.prog 60=true:=by kernel_rfl
theorem auI :bG Tryz.prog 61=true:=by kernel_rfl
theorem atc :bG Tryz.prog 62=true:=by kernel_rfl
theorem atb :bG Tryz.prog 63=true:=by kernel_rfl
theorem ata :bG Tryz.prog 67=true:=by kernel_rfl
theorem ajt :bG Tryz.prog 69=true:=by kernel_rfl
theorem Oq :bG Tryz.prog 70=true:=by kernel_rfl
theorem auH :bG Tryz.prog 71=true:=by kernel_rfl
theorem as_ :bG Tryz.prog 75=true:=by kernel_rfl
theorem ajs :bG Tryz.prog 77=true:=by kernel_rfl
theorem aa3 :bG Tryz.prog 82=true:=by kernel_rfl
theorem an4 :bG Tryz.prog 84=true:=by kernel_rfl
theorem aqJ :bG Tryz.prog 86=true:=by kernel_rfl
theorem auG :bG Tryz.prog 87=true:=by kernel_rfl
theorem as9 :bG Tryz.prog 90=true:=by kernel_rfl
theorem as8 :bG Tryz.prog 95=true:=by kernel_rfl
theorem auF :bG Tryz.prog 96=true:=by kernel_rfl
theorem anS :kF Tryz.prog 101 107 3 32:=zO (by kernel_rfl)
theorem ame :kF Tryz.prog 110 30 1 24:=zO (by kernel_rfl)
theorem arL :kF Tryz.prog 188 3 1 8:=zO (by kernel_rfl)
theorem oW :kF Tryz.prog 22 25 6 88:=zO (by kernel_rfl)
theorem kU :kF Tryz.prog 23 9 1 16:=zO (by kernel_rfl)
theorem uq :kF Tryz.prog 26 28 10 160:=zO (by kernel_rfl)
theorem Cg :kF Tryz.prog 29 49 7 104:=zO (by kernel_rfl)
theorem akN :kF Tryz.prog 30 37 2 32:=zO (by kernel_rfl)
theorem apJ :kF Tryz.prog 34 52 3 48:=zO (by kernel_rfl)
theorem aqI :kF Tryz.prog 53 5 1 1:=zO (by kernel_rfl)
theorem asD :Dg Tryz.prog 154=some [(0,1),(1,1)]:=by kernel_rfl
theorem ZE :Dg Tryz.prog 25=some [(0,1),(1,1),(2,1),(3,1),(4,1),(5,1)]:=by kernel_rfl
theorem adv :Dg Tryz.prog 28=some [(0,1),(1,1),(2,6),(8,1),(9,1)]:=by kernel_rfl
theorem atB :Dg Tryz.prog 49=some [(0,1),(1,6)]:=by kernel_rfl
theorem arA :Dg Tryz.prog 52=some [(0,1),(1,2)]:=by kernel_rfl
theorem asz (w:Go.World):(Instr.typeAssert .nilIface 20 156 true).run Tryz.prog w=.ok (.tuple #[.agg #[.int .i64 0,.int .i64 0],.bool false]) w:=by kernel_rfl
theorem atz (w:Go.World):(Instr.typeAssert .nilIface 20 89 true).run Tryz.prog w=.ok (.tuple #[.agg #[.int .i64 0],.bool false]) w:=by kernel_rfl
theorem asy (v:Value) (w:Go.World):(Instr.typeAssert (.iface 156 v) 20 156 true).run Tryz.prog w=.ok (.tuple #[v,.bool true]) w:=by kernel_rfl
theorem aty (v:Value) (w:Go.World):(Instr.typeAssert (.iface 89 v) 20 89 true).run Tryz.prog w=.ok (.tuple #[v,.bool true]) w:=by kernel_rfl
theorem apd :kZ Tryz.prog 101=some (false,1):=by kernel_rfl
theorem acR :kZ Tryz.prog 107=some (true,3):=by kernel_rfl
theorem arw :kZ Tryz.prog 156=some (true,2):=by kernel_rfl
theorem apc :kZ Tryz.prog 177=some (false,1):=by kernel_rfl
theorem atx :kZ Tryz.prog 202=some (true,2):=by kernel_rfl
theorem Oi :kZ Tryz.prog 22=some (false,1):=by kernel_rfl
theorem bY :kZ Tryz.prog 25=some (true,6):=by kernel_rfl
theorem aaQ :kZ Tryz.prog 26=some (false,1):=by kernel_rfl
theorem kT :kZ Tryz.prog 28=some (true,10):=by kernel_rfl
theorem FE :kZ Tryz.prog 3=some (false,1):=by kernel_rfl
theorem arv :kZ Tryz.prog 30=some (false,1):=by kernel_rfl
theorem mX :kZ Tryz.prog 37=some (true,2):=by kernel_rfl
theorem amx :kZ Tryz.prog 38=some (false,1):=by kernel_rfl
theorem aon :kZ Tryz.prog 53=some (false,1):=by kernel_rfl
theorem as7 :kZ Tryz.prog 89=some (true,1):=by kernel_rfl
theorem adn :kZ Tryz.prog 9=some (false,1):=by kernel_rfl
theorem aom :Tryz.prog.underlying 201=some (.int .u64):=by kernel_rfl
theorem atw :Tryz.prog.underlying 202=some (.array 2 201):=by kernel_rfl
theorem aji :Tryz.prog.underlying 23=some (.slice 9):=by kernel_rfl
theorem agE :Tryz.prog.underlying 29=some (.slice 49):=by kernel_rfl
theorem Ea :Tryz.prog.underlying 3=some (.int .i64):=by kernel_rfl
theorem Zv :Tryz.prog.underlying 4=some (.bool):=by kernel_rfl
theorem zK :Tryz.prog.underlying 5=some (.int .u8):=by kernel_rfl
theorem auE :Tryz.prog.underlying 53=some (.slice 5):=by kernel_rfl
theorem cu :Tryz.prog.underlying 9=some (.string):=by kernel_rfl
theorem aol :Tryz.prog.underlying 177=some (.pointer 179):=by kernel_rfl
theorem atv :Tryz.prog.underlying 214=some (.pointer 5):=by kernel_rfl
theorem aru :Tryz.prog.underlying 240=some .unsafePointer:=by kernel_rfl
theorem auv (w:World):(Go.sizeOf 49).run Tryz.prog w=.ok 7 w:=by kernel_rfl
theorem afc :(Tryz.prog.info? 3).map (·.zero)=some (some (.int .i64 0)):=by kernel_rfl
theorem als :qp Tryz.prog 107=some [.int .i64 0,.str [],.int .i64 0]:=by kernel_rfl
theorem arp :qp Tryz.prog 134=some [.str [],.str [],.str [],.str [],.str [],.str [],.str [],.str []]:=by kernel_rfl
theorem att :qp Tryz.prog 154=some [.own (.slice none 0 0) [],.int .i64 0]:=by kernel_rfl
theorem aro :qp Tryz.prog 156=some [.int .i64 0,.int .i64 0]:=by kernel_rfl
theorem ap5 :qp Tryz.prog 179=some [.val (.pointer none),.own (.slice none 0 0) []]:=by kernel_rfl
theorem arn :qp Tryz.prog 202=some [.int .u64 0,.int .u64 0]:=by kernel_rfl
theorem ap4 :qp Tryz.prog 204=some [.int .u64 0,.int .u64 0,.bool false]:=by kernel_rfl
theorem eY :qp Tryz.prog 25=some [.int .i64 0,.bool false,.int .i64 0,.str [],.own (.slice none 0 0) [],.own (.slice none 0 0) []]:=by kernel_rfl
theorem kS :qp Tryz.prog 28=some [.int .i64 0,.str [],.int .i64 0,.bool false,.int .i64 0,.str [],.own (.slice none 0 0) [],.own (.slice none 0 0) [],.own (.slice none 0 0) [],.own (.slice none 0 0) []]:=by kernel_rfl
theorem ai7 :qp Tryz.prog 3=some [.int .i64 0]:=by kernel_rfl
theorem acT :qp Tryz.prog 37=some [.int .i64 0,.own (.slice none 0 0) []]:=by kernel_rfl
theorem arl :qp Tryz.prog 38=some [.int .i64 0]:=by kernel_rfl
theorem apA :qp Tryz.prog 49=some [.str [],.int .i64 0,.bool false,.int .i64 0,.str [],.own (.slice none 0 0) [],.own (.slice none 0 0) []]:=by kernel_rfl
theorem aqE :qp Tryz.prog 52=some [.str [],.int .i64 0,.own (.slice none 0 0) []]:=by kernel_rfl
theorem as5 :qp Tryz.prog 89=some [.int .i64 0]:=by kernel_rfl
def FX :Facts:={ti:=[(3,false,1),(4,false,1),(5,false,1),(9,false,1),(22,false,1),(23,false,1),(25,true,6),(26,false,1),(28,true,10),(30,false,1),(37,true,2),(38,false,1),(49,true,7),(52,true,3),(89,true,1),(107,true,3),(154,true,2),(156,true,2),(201,false,1)],fo:=[(25,0,0),(25,1,1),(25,2,2),(25,3,3),(25,4,4),(25,5,5),(28,0,0),(28,1,1),(28,2,2),(28,3,8),(28,4,9),(37,0,0),(37,1,1),(49,0,0),(49,1,1),(52,0,0),(52,1,1),(89,0,0),(107,0,0),(107,1,1),(107,2,2),(154,0,0),(154,1,1),(156,0,0),(156,1,1),(204,0,0),(204,1,2)],fd:=[],str:=[]}
theorem aP :FX.okB Tryz.prog=true:=by kernel_rfl
theorem cs {n:Nat} {all:Array Oper} {σ:List bE} {ds:List Deferred} {Q:Post} (k:Nat) {l l':List Oper} {env env':Env} (h:O3 FX all n k l env=some (env',l')) (hr:AR Tryz.prog n all l' env' σ ds Q):AR Tryz.prog n all l env σ ds Q:=AR.cs aP k h hr

def FY :FB:=⟨{FX with ti:=FX.ti ++ [(3,false,1),(4,false,1),(9,false,1),(22,false,1),(23,false,1),(25,true,6),(26,false,1),(28,true,10),(30,false,1),(37,true,2),(49,true,7),(52,true,3),(107,true,3),(134,true,8),(204,true,3)]},[(25,[.int .i64 0,.bool false,.int .i64 0,.str [],.own (.slice none 0 0) [],.own (.slice none 0 0) []]),(28,[.int .i64 0,.str [],.int .i64 0,.bool false,.int .i64 0,.str [],.own (.slice none 0 0) [],.own (.slice none 0 0) [],.own (.slice none 0 0) [],.own (.slice none 0 0) []]),(37,[.int .i64 0,.own (.slice none 0 0) []]),(52,[.str [],.int .i64 0,.own (.slice none 0 0) []]),(89,[.int .i64 0]),(107,[.int .i64 0,.str [],.int .i64 0]),(156,[.int .i64 0,.int .i64 0]),(204,[.int .u64 0,.int .u64 0,.bool false])],[(25,[(0,1),(1,1),(2,1),(3,1),(4,1),(5,1)]),(28,[(0,1),(1,1),(2,6),(8,1),(9,1)]),(37,[(0,1),(1,1)]),(52,[(0,1),(1,2)]),(89,[(0,1)]),(107,[(0,1),(1,1),(2,1)]),(156,[(0,1),(1,1)]),(204,[(0,2),(2,1)])]⟩
instance : FK Tryz.prog:=⟨FY,⟨by kernel_rfl,by kernel_rfl,by kernel_rfl⟩,[4,6,7,8,9,10,12,13,14,15,16,17,18,20,21,22,23,24,25,26,27,29,30,31,32,33,34,35,36,37,38,39,40,41,42,43,44,45,46,47,48,52,53,54,55,56,57,59,63,64,65,66,68,72,73,74,75,76,77,78,79,80,81,82,83,84,85,86,87,88,89,90,91,92,93,94,95,96,97,98,99,101,104,105,107,111,113,114,115,120,122,123,124,125,126,127,128,129,130,131,132,133,134,135,136,137,138,140,141,144,145,146,148,149,150,151,152,153,155,156,157,160,161,162,163,164,165,166,167,168,169,170,171,172,173,174,175,176,177,179,182,183,188,189,190,192,193,194,195,197,198,199,200,201,202,203,204,205,206,207,208,209,210,211,214,215,216,217,218,219,220,221,226,227,228,229,230,234,235,236,237,238,239,240,241,242,248,251,252,253,264,269,271,290,291,307,308,309,310],by kernel_rfl⟩
variable {τ : List bE} {Q : eZ → List bE → Prop}
abbrev PC :=AC Tryz.prog
@[reducible] def iP (x:Int):PV:=.int .i64 x
@[reducible] def sP (x:List Str):PV:=.list (List.map ko x)
@[reducible] def pP (b:Nat):PV:=.val (.pointer (some ⟨b,0,none⟩))
@[reducible] def aF (x:ah):List PV:=[.int .i64 x.kind,.bool x.dh,.int .i64 x.bZ,.str x.bI,.list (ah.bn x.aI),.list (List.map ko x.keys)]
@[reducible] def aS (x:aj):List PV:=[.int .i64 x.kind,.str x.name,.int .i64 x.value.kind,.bool x.value.dh,.int .i64 x.value.bZ,.str x.value.bI,.list (ah.bn x.value.aI),.list (List.map ko x.value.keys),.list (aj.bn x.args),.list (List.map ko x.keys)]
@[reducible] def ajJ (x:b_):List PV:=[.int .i64 x.kind,.list (b_.bn x.elem)]
@[reducible] def za (x:av):List PV:=[.str x.name,.int .i64 x.value.kind,.bool x.value.dh,.int .i64 x.value.bZ,.str x.value.bI,.list (ah.bn x.value.aI),.list (List.map ko x.value.keys)]
@[reducible] def ajK (x:qE):List PV:=[.str x.name,.int .i64 x.LK.kind,.list (b_.bn x.LK.elem)]
@[reducible] def xM (x:aX):List PV:=[.int .i64 x.kind,.str x.text,.int .i64 x.at_]
@[reducible] def aV (x:ak):List PV:=[.list (List.map aX.cells x.ts),.int .i64 x.at_]
@[reducible] def jP (x:aA):List PV:=[.int .i64 x.at_,.int .i64 x.code]
@[reducible] def Ou (x:jo):List PV:=[.int .u64 ((x.half.getD 0 0).toNat:Int),.int .u64 ((x.half.getD 1 0).toNat:Int),.bool x.neg]
theorem H9 {b:Nat} {v p:Value} {bs:List UInt8} (hp:p=Value.pointer none∨p=.pointer (some ⟨b,0,none⟩)) {R:eZ→List bE→Prop} (h:R (.ret (.tuple [])) [.xY b 179 [.val (.pointer (some ⟨b,0,none⟩)),.own v (bs.map lg)],.row v bs.length 1 5]):
    AC Tryz.prog 233 [.val (.pointer (some ⟨b,0,none⟩))] [.xY b 179 [.val p,.own v (bs.map lg)],.row v bs.length 1 5] R:=by
  obtain ⟨j,hj1,hj2⟩:=inB
  rcases hp with rfl | rfl
  · skip
    refine AC.AZ 20 [] [0] Tryz.func233 rfl rfl rfl rfl rfl ?_
    refine AW.seq ?_
    refine AW.region ?_
    refine AR.step rfl rfl rfl (AO.calc' rfl ?_)
    refine AR.step rfl rfl rfl (AO.nilCheck rfl rfl ?_)
    refine AR.step rfl rfl rfl (AO.jV rfl rfl anI ?_)
    refine AR.step rfl rfl rfl (AO.xL (i:=0) rfl rfl rfl apc rfl rfl ?_)
    refine AR.step rfl rfl rfl (AO.aa2 rfl aol rfl rfl ?_)
    refine AR.nil [0,6] rfl ?_
    refine AW.cond rfl (fun h1=>?_) (fun h1=>?_)
    · refine AW.region ?_
      refine AR.step rfl rfl rfl (AO.calc' rfl ?_)
      refine AR.step rfl rfl rfl (AO.calc' rfl ?_)
      refine AR.step rfl rfl rfl (AO.abS (i:=0) rfl aol aru hj1 hj2 rfl rfl rfl ?_)
      refine AR.step rfl rfl rfl (AO.ad5 rfl rfl rfl rfl Tryz.func268 (by kernel_rfl) (by kernel_rfl) (by kernel_rfl) (by kernel_rfl) rfl ?_)
      refine AR.step rfl rfl rfl (AO.Yx (i:=0) rfl aru aol hj1 rfl rfl rfl ajI ?_)
      refine AR.step rfl rfl rfl (AO.nilCheck rfl rfl ?_)
      refine AR.step rfl rfl rfl (AO.jV rfl rfl anI ?_)
      refine AR.fH rfl rfl (AO.KR (i:=0) rfl rfl rfl apc rfl rfl rfl rfl rfl ?_)
      refine AR.nil [] rfl ?_
      exact ⟨rfl,[],rfl,_,List.Sublist.refl _,h⟩
    · cases h1
  · skip
    refine AC.AZ 20 [] [0] Tryz.func233 rfl rfl rfl rfl rfl ?_
    refine AW.seq ?_
    refine AW.region ?_
    refine AR.step rfl rfl rfl (AO.calc' rfl ?_)
    refine AR.step rfl rfl rfl (AO.nilCheck rfl rfl ?_)
    refine AR.step rfl rfl rfl (AO.jV rfl rfl anI ?_)
    refine AR.step rfl rfl rfl (AO.xL (i:=0) rfl rfl rfl apc rfl rfl ?_)
    refine AR.step rfl rfl rfl (AO.aa2 rfl aol rfl rfl ?_)
    refine AR.nil [0,6] rfl ?_
    refine AW.cond rfl (fun h1=>?_) (fun h1=>?_)
    · cases h1
    · refine AW.seq ?_
      refine AW.region ?_
      refine AR.step rfl rfl rfl (AO.calc' rfl ?_)
      refine AR.step rfl rfl rfl (AO.nilCheck rfl rfl ?_)
      refine AR.step rfl rfl rfl (AO.jV rfl rfl anI ?_)
      refine AR.step rfl rfl rfl (AO.xL (i:=0) rfl rfl rfl apc rfl rfl ?_)
      refine AR.step rfl rfl rfl (AO.calc' rfl ?_)
      refine AR.step rfl rfl rfl (AO.VQ rfl aol hj1 rfl rfl ?_)
      refine AR.nil [19] rfl ?_
      refine AW.cond rfl (fun h2=>?_) (fun h2=>?_)
      · cases h2
      · refine AW.skip ?_
        exact ⟨rfl,[],rfl,_,List.Sublist.refl _,h⟩

theorem iy {b:Nat} {v:Value} {bs r:List UInt8} {c:UInt8} (hv:app bs [c]=some r) {R:eZ→List bE→Prop} (h:∀ v',R (.ret (.val .nilIface)) [.Lm b v' 179 5 r]):AC Tryz.prog 197 [.val (.pointer (some ⟨b,0,none⟩)),.int .u8 (c.toNat:Int)] [.Lm b v 179 5 bs] R:=by
  refine AC.Lm fun p hp hroom=>?_
  refine AC.AZ 17 [.tmp 4] [0,1] Tryz.func197 rfl rfl rfl rfl rfl ?_
  refine AW.seq ?_
  refine AW.region ?_
  refine AR.step rfl rfl rfl (AO.calc' rfl ?_)
  refine AR.nil [0,1] rfl ?_
  refine AW.seq ?_
  refine AW.region ?_
  refine AR.step rfl rfl rfl (AO.calc' rfl ?_)
  refine AR.step rfl rfl rfl (AO.call rfl _ rfl rfl arN (H9 hp ?_))
  refine AR.nil [0,1] rfl ?_
  refine AW.seq ?_
  refine AW.region ?_
  refine AR.step rfl rfl rfl (AO.calc' rfl ?_)
  refine AR.step rfl rfl rfl (AO.calc' rfl ?_)
  refine AR.step rfl rfl rfl (AO.nilCheck rfl rfl ?_)
  refine AR.step rfl rfl rfl (AO.jV rfl rfl amu ?_)
  refine AR.step rfl rfl rfl (AO.xL (i:=0) rfl rfl rfl aon rfl rfl ?_)
  refine AR.step rfl rfl rfl (AO.calc' rfl ?_)
  refine AR.step rfl rfl rfl (AO.buildSlice rfl aqI rfl rfl rfl ?_)
  refine AR.step rfl rfl rfl (AO.U_ (i:=1) hv rfl rfl rfl rfl rfl (M4.list rfl ar6 (by simp [lg]) (by simp [lg,PV.one])) rfl aqI (fun v' s1 hs1 hr1=>?_))
  cases hs1
  refine AR.step rfl rfl rfl (AO.nilCheck rfl rfl ?_)
  refine AR.step rfl rfl rfl (AO.jV rfl rfl amu ?_)
  refine AR.fH rfl rfl (AO.KR (i:=0) rfl rfl rfl aon rfl rfl rfl rfl rfl ?_)
  refine AR.nil [1] rfl ?_
  refine AW.seq ?_
  refine AW.region ?_
  refine AR.step rfl rfl rfl (AO.calc' rfl ?_)
  refine AR.nil [4] rfl ?_
  refine AW.ret ?_
  exact ⟨rfl,_,⟨_,_,rfl,rfl,rfl⟩,_,List.Sublist.refl _,_,v',r,rfl,.inr rfl,hr1 hroom,h v'⟩

theorem lN {b:Nat} {v:Value} {bs r:List UInt8} {s:List UInt8} (hv:app bs s=some r) {R:eZ→List bE→Prop} (h:∀ v',R (.ret (.tuple [.int .i64 (s.length:Int),.val .nilIface])) [.Lm b v' 179 5 r]):AC Tryz.prog 248 [.val (.pointer (some ⟨b,0,none⟩)),.str s] [.Lm b v 179 5 bs] R:=by
  refine AC.Lm fun p hp hroom=>?_
  refine AC.AZ 19 [.tmp 4,.tmp 5] [0,1] Tryz.func248 rfl rfl rfl rfl rfl ?_
  refine AW.seq ?_
  refine AW.region ?_
  refine AR.step rfl rfl rfl (AO.calc' rfl ?_)
  refine AR.step rfl rfl rfl (AO.calc' rfl ?_)
  refine AR.nil [0,1] rfl ?_
  refine AW.seq ?_
  refine AW.region ?_
  refine AR.step rfl rfl rfl (AO.calc' rfl ?_)
  refine AR.step rfl rfl rfl (AO.call rfl _ rfl rfl arN (H9 hp ?_))
  refine AR.nil [0,1] rfl ?_
  refine AW.seq ?_
  refine AW.region ?_
  refine AR.step rfl rfl rfl (AO.calc' rfl ?_)
  refine AR.step rfl rfl rfl (AO.calc' rfl ?_)
  refine AR.step rfl rfl rfl (AO.nilCheck rfl rfl ?_)
  refine AR.step rfl rfl rfl (AO.jV rfl rfl amu ?_)
  refine AR.step rfl rfl rfl (AO.xL (i:=0) rfl rfl rfl aon rfl rfl ?_)
  refine AR.step rfl rfl rfl (AO.calc' rfl ?_)
  refine AR.step rfl rfl rfl (AO.U_ (i:=1) hv rfl rfl rfl rfl rfl (M4.str cu) rfl aqI (fun v' s1 hs1 hr1=>?_))
  cases hs1
  refine AR.step rfl rfl rfl (AO.nilCheck rfl rfl ?_)
  refine AR.step rfl rfl rfl (AO.jV rfl rfl amu ?_)
  refine AR.fH rfl rfl (AO.KR (i:=0) rfl rfl rfl aon rfl rfl rfl rfl rfl ?_)
  refine AR.nil [1] rfl ?_
  refine AW.seq ?_
  refine AW.region ?_
  refine AR.step rfl rfl rfl (AO.calc' rfl ?_)
  refine AR.step rfl rfl rfl (AO.bJ rfl rfl rfl rfl cu rfl ?_)
  refine AR.step rfl rfl rfl (AO.calc' rfl ?_)
  refine AR.step rfl rfl rfl (AO.calc' rfl ?_)
  refine AR.nil [4,5] rfl ?_
  refine AW.ret ?_
  exact ⟨rfl,_,⟨_,_,rfl,rfl,_,_,rfl,rfl,rfl⟩,_,List.Sublist.refl _,_,v',r,rfl,.inr rfl,hr1 hroom,h v'⟩

theorem acM {b:Nat} {v:Value} {bs:List UInt8} {R:eZ→List bE→Prop} (h:R (.ret (.int .i64 (bs.length:Int))) [.Lm b v 179 5 bs]):AC Tryz.prog 193 [.val (.pointer (some ⟨b,0,none⟩))] [.Lm b v 179 5 bs] R:=by
  refine AC.Lm fun p hp hroom=>?_
  refine AC.AZ 8 [.tmp 2] [0] Tryz.func193 rfl rfl rfl rfl rfl ?_
  refine AW.seq ?_
  refine AW.region ?_
  refine AR.step rfl rfl rfl (AO.calc' rfl ?_)
  refine AR.nil [0] rfl ?_
  refine AW.seq ?_
  refine AW.region ?_
  refine AR.step rfl rfl rfl (AO.calc' rfl ?_)
  refine AR.step rfl rfl rfl (AO.nilCheck rfl rfl ?_)
  refine AR.step rfl rfl rfl (AO.jV rfl rfl amu ?_)
  refine AR.step rfl rfl rfl (AO.xL (i:=0) rfl rfl rfl aon rfl rfl ?_)
  refine AR.step rfl rfl rfl (AO.aL (l:=bs) rfl rfl rfl rfl ar6 rfl rfl ?_)
  refine AR.step rfl rfl rfl (AO.calc' rfl ?_)
  refine AR.nil [2] rfl ?_
  refine AW.ret ?_
  exact ⟨rfl,_,⟨_,_,rfl,rfl,rfl⟩,_,List.Sublist.refl _,p,v,bs,rfl,hp,hroom,h⟩

theorem CG {b:Nat} {v:Value} {bs:List UInt8} {R:eZ→List bE→Prop} (h:R (.ret (.str bs)) []):AC Tryz.prog 194 [.val (.pointer (some ⟨b,0,none⟩))] [.Lm b v 179 5 bs] R:=by
  refine AC.agl fun p hroom=>?_
  refine AC.AZ 14 [.tmp 2] [0] Tryz.func194 rfl rfl rfl rfl rfl ?_
  refine AW.seq ?_
  refine AW.region ?_
  refine AR.step rfl rfl rfl (AO.calc' rfl ?_)
  refine AR.nil [0] rfl ?_
  refine AW.seq ?_
  refine AW.draw 10 mixed (by kernel_rfl) rfl ?_
  refine Ev.cons rfl rfl rfl (AO.calc' rfl ⟨rfl,rfl⟩) ?_
  refine Ev.cons rfl rfl rfl (AO.nilCheck rfl rfl ⟨rfl,rfl⟩) ?_
  refine Ev.cons rfl rfl rfl (AO.jV rfl rfl amu ⟨rfl,rfl⟩) ?_
  refine Ev.cons rfl rfl rfl (AO.xL (i:=0) rfl rfl rfl aon rfl rfl ⟨rfl,rfl⟩) ?_
  refine Ev.cons rfl rfl rfl (AO.sliceData rfl rfl rfl rfl hroom ⟨rfl,rfl⟩) ?_
  refine Ev.cons rfl rfl rfl (AO.calc' rfl ⟨rfl,rfl⟩) ?_
  refine Ev.cons rfl rfl rfl (AO.nilCheck rfl rfl ⟨rfl,rfl⟩) ?_
  refine Ev.cons rfl rfl rfl (AO.jV rfl rfl amu ⟨rfl,rfl⟩) ?_
  refine Ev.cons rfl rfl rfl (AO.xL (i:=0) rfl rfl rfl aon rfl rfl ⟨rfl,rfl⟩) ?_
  refine Ev.cons rfl rfl rfl (AO.aL (l:=bs) rfl rfl rfl rfl ar6 rfl rfl ⟨rfl,rfl⟩) ?_
  refine Ev.nil ?_
  show AR _ _ _ _ _ _ _ _
  refine AR.step rfl rfl rfl (AO.unsafeString rfl rfl rfl rfl atv ak9 rfl rfl rfl ?_)
  refine AR.step rfl rfl rfl (AO.calc' rfl ?_)
  refine AR.nil [2] rfl ?_
  refine AW.ret ?_
  exact ⟨rfl,_,⟨_,_,rfl,rfl,rfl⟩,[],List.nil_sublist _,h⟩


abbrev OQ (mJ:aj→Option Int):Prop:=∀ (fV:aj) {aU:Int},mJ fV=some aU→∀ {τ:List bE} {Q:eZ→List bE→Prop} (h:Q (.ret (iP aU)) τ),PC 12 [.agg (aS fV)] τ Q
theorem Xl (mJ) (Ti:OQ mJ) (e1:aj) {r0:Int} (hf:Ep mJ e1=some r0) (h:Q (.ret (iP r0)) τ):PC 12 [.agg (aS e1)] τ Q:=by
 unfold Ep at hf; refine BN 21 [.tmp 2] [0] Tryz.func12 Z Z Z Z Z (V 4 Z (Zf (fun n1 i1=>[(1,.ref (aS e1)),(3,iP n1),(4,iP i1)]) (fun n1 i1=>[]) (fun bW n1 i1=>yH mJ e1 bW n1 i1=some r0) BIG 1 0 Z Z hf (fun _ _ hz=>bQ hz) ?_)); intro bW n1 i1 hf; rw [yH] at hf; refine W 3 Z (AS Z (AO.aL (l:=e1.args) Z Z Z Z fM Z (aj.aB _) (J 1 Z (C hf Z (fun h1 hf=>?_) fun h1 hf=>?_))))
 · refine B1 hf fun e2 h2 hf=>W 4 Z (AS Z (AO.aM h2 Z Z (aj.aB _) Z fM (aj.aG _) Z ?_)); refine B1 hf fun x1 h3 hf=>U 1 Z (CL Z (Ti _ h3 ?_)); exact N 5 Z ⟨(bS (n1 + x1)),(bS (i1 + 1)),Z,Z,Z,hf⟩
 cases hf; exact M 2 Z (Y Z h)
theorem Yc :∀ k:Nat,(OQ (pU k)):=by
 intro k
 induction k with
 | zero=>exact fun _ _ hz=>by first | cases hz | (unfold pU at hz; cases hz)
 | succ k ih=>exact fun fV aU hz τ Q hq=>Xl (pU k) ih fV hz hq
theorem OB (fV:aj) {aU:Int} (hf:FQ fV=some aU) (h:Q (.ret (iP aU)) τ):PC 12 [.agg (aS fV)] τ Q:=
 ((Yc BIG)) fV hf h

theorem apX (e1:aj) (n1:Int) {r0:Bool} (hf:amH e1 n1=some r0) (h:Q (.ret (.bool r0)) τ):PC 4 [.agg (aS e1),iP n1] τ Q:=by
 unfold amH at hf; refine BN 12 [.tmp 4] [0,1] Tryz.func4 Z Z Z Z Z ?_; refine B1 hf fun x1 h1 hf=>W 3 Z (CL Z (OB _ h1 (U 2 Z (An 3 8 11 [] (decide (n1≤300)) Z Z Z Z ?_)))); cases hf; exact N 1 Z (Y Z h)

theorem WU (c1:UInt8) {r0:Bool} (hf:Gs c1=some r0) (h:Q (.ret (.bool r0)) τ):PC 68 [.int .u8 (c1.toNat:Int)] τ Q:=by
 unfold Gs at hf; refine BN 21 [.tmp 2] [0] Tryz.func68 Z Z Z Z Z (W 4 Z (An 3 5 8 [0] (decide ((c1.toNat:Int)≤122)) Z Z Z Z (U 1 Z (AR.or 7 9 16 [0] (x:=((decide (65≤(c1.toNat:Int))) && (decide ((c1.toNat:Int)≤90)))) Z Z (fun h2=>?_) (fun h2=>?_) ?_))))
 · refine Is 9 h2 Z (U 3 Z (An 3 12 15 [0,9] (decide ((c1.toNat:Int)≤90)) Z Z Z Z ?_)); exact eU 1 Z (En [16,0] Z)
 · refine Is 9 h2 Z ?_; exact eU 7 Z (En [16,0] Z)
 refine U 1 Z (On 3 17 20 [] ((c1.toNat:Int) == 95) Z Z Z Z ?_); cases hf; exact N 1 Z (Y Z h)

theorem OC (c1:UInt8) {r0:Bool} (hf:zU c1=some r0) (h:Q (.ret (.bool r0)) τ):PC 69 [.int .u8 (c1.toNat:Int)] τ Q:=by
 unfold zU at hf; refine BN 9 [.tmp 2] [0] Tryz.func69 Z Z Z Z Z (W 4 Z (An 3 5 8 [] (decide ((c1.toNat:Int)≤57)) Z Z Z Z ?_)); cases hf; exact N 1 Z (Y Z h)

theorem aas (s1:Str) {r0:Bool} (hf:IU s1=some r0) (h:Q (.ret (.bool r0)) τ):PC 32 [.str s1] τ Q:=by
 unfold IU at hf; refine BN 34 [.tmp 2] [0] Tryz.func32 Z Z Z Z Z (V 2 Z (Gc (fun i1=>[(0,.str s1),(3,iP i1)]) (fun i1=>[]) (fun bW i1=>Bw s1 bW i1=some r0) BIG 0 Z Z hf (fun _ hz=>bQ hz) ?_)); intro bW i1 hf; rw [Bw] at hf; refine W 2 Z (AS Z (AO.bJ Z Z Z Z cu Z (J 1 Z (C hf Z (fun h1 hf=>?_) fun h1 hf=>?_))))
 ·
  refine B1 hf fun x1 h2 hf=>W 2 Z (AS Z (AO.fD h2 Z cu Z Z ?_)); refine B1 hf fun x2 h3 hf=>CL Z (WU _ h3 ?_); refine B1 hf fun b1 h5 hf=>U 2 Z (AR.eX 10 15 25 true [0,3] b1 Z Z (fun h4=>?_) (fun h4=>?_) ?_)
  ·
   replace h5:=eD h4 h5; refine Is 15 h4 Z ?_; replace h5:=(aJ _).trans h5; obtain ⟨b2,h7,h5⟩:=aN h5; refine U 3 Z (AR.eX 6 18 24 false [0,3,15] b2 Z Z (fun h6=>?_) (fun h6=>?_) ?_)
   · replace h7:=eF h6 h7; refine Is 18 h6 Z ?_; obtain ⟨x3,h8,h7⟩:=aN h7; refine U 2 Z (GO Z (AO.fD h8 Z cu Z Z ?_)); obtain ⟨x4,h9,h7⟩:=aN h7; refine GO Z (AO.call Z _ Z Z ajt (OC _ h9 ?_)); obtain rfl:=Option.some.inj h7; exact eU 2 Z (En [24,0,3,15] Z)
   · replace h7:=eD h6 h7; refine Is 18 h6 Z ?_; obtain rfl:=Option.some.inj h7; exact eU 6 Z (En [24,0,3,15] Z)
   obtain rfl:=Option.some.inj h5; exact eU 1 Z (En [25,0,3] Z)
  · replace h5:=eF h4 h5; refine Is 15 h4 Z ?_; obtain rfl:=Option.some.inj h5; exact eU 10 Z (En [25,0,3] Z)
  refine J 0 Z (C hf Z (fun h10 hf=>?_) fun h10 hf=>?_)
  · cases hf; exact M 1 Z (Y Z h)
  exact M 3 Z ⟨(bS (i1 + 1)),Z,Z,Z,hf⟩
 refine W 1 Z (AS Z (AO.bJ Z Z Z Z cu Z (U 2 Z (AR.and 4 29 33 [] (x:=(decide ((s1.length:Int)≤64))) Z Z (fun h11=>?_) (fun h11=>?_) ?_))))
 · refine Is 29 h11 Z (U 1 Z (GO Z (AO.bJ Z Z Z Z cu Z ?_))); exact eU 2 Z (En [33] Z)
 · refine Is 29 h11 Z ?_; exact eU 4 Z (En [33] Z)
 cases hf; exact N 1 Z (Y Z h)

theorem EP (s1:Str) {r0:Bool} (hf:xG s1=some r0) (h:Q (.ret (.bool r0)) τ):PC 13 [.str s1] τ Q:=by
 unfold xG at hf; refine BN 17 [.tmp 2] [0] Tryz.func13 Z Z Z Z Z ?_; refine B1 hf fun x1 h1 hf=>W 2 Z (CL Z (aas _ h1 (U 1 Z (An 3 5 8 [0] (!(s1 == ([116,114,117,101]:Str))) Z Z Z Z (U 1 Z (An 3 9 12 [0] (!(s1 == ([102,97,108,115,101]:Str))) Z Z Z Z (U 1 Z (An 3 13 16 [] (!(s1 == ([110,117,108,108]:Str))) Z Z Z Z ?_)))))))); cases hf; exact N 1 Z (Y Z h)

theorem Y1 (v1:ah) {r0:Bool} (hf:FR v1=some r0) (h:Q (.ret (.bool r0)) τ):PC 70 [.agg (aF v1)] τ Q:=by
 unfold FR at hf; refine BN 53 [.tmp 2] [0] Tryz.func70 Z Z Z Z Z (W 5 Z (An 4 5 9 [1] (v1.kind != 1) Z Z Z Z (U 1 Z (AR.or 9 10 19 [1] (x:=((v1.bZ != 0) && (v1.kind != 2))) Z Z (fun h2=>?_) (fun h2=>?_) ?_))))
 · refine Is 10 h2 Z (U 4 Z (An 4 14 18 [1,10] (v1.kind != 2) Z Z Z Z ?_)); exact eU 1 Z (En [19,1] Z)
 · refine Is 10 h2 Z ?_; exact eU 9 Z (En [19,1] Z)
 refine U 1 Z (AR.or 9 20 29 [1] (x:=((!(v1.bI == ([]:Str))) && (v1.kind != 3))) Z Z (fun h4=>?_) (fun h4=>?_) ?_)
 · refine Is 20 h4 Z (U 4 Z (An 4 24 28 [1,20] (v1.kind != 3) Z Z Z Z ?_)); exact eU 1 Z (En [29,1] Z)
 · refine Is 20 h4 Z ?_; exact eU 9 Z (En [29,1] Z)
 refine J 0 Z (C hf Z (fun h6 hf=>?_) fun h6 hf=>?_)
 · cases hf; exact M 1 Z (Y Z h)
 refine W 2 Z (AS Z (AO.aL (l:=v1.aI) Z Z Z Z dN Z (ah.aB _) (U 2 Z (An 4 34 38 [1] (v1.kind != 4) Z Z Z Z (U 1 Z (An 4 39 43 [1] (v1.kind != 5) Z Z Z Z (J 0 Z (C hf Z (fun h9 hf=>?_) fun h9 hf=>?_))))))))
 · cases hf; exact M 1 Z (Y Z h)
 refine W 2 Z (AS Z (AO.aL (l:=v1.keys) Z Z Z Z dO Z Z (U 2 Z (On 4 48 52 [] (v1.kind == 5) Z Z Z Z ?_)))); cases hf; exact N 1 Z (Y Z h)

theorem U5 (s1:Str) {r0:Bool} (hf:J3 s1=some r0) (h:Q (.ret (.bool r0)) τ):PC 108 [.str s1] τ Q:=by
 unfold J3 at hf; refine BN 11 [.tmp 2] [0] Tryz.func108 Z Z Z Z Z (W 2 Z (AS Z (AO.bJ Z Z Z Z cu Z (U 2 Z (AR.and 4 6 10 [] (x:=(decide ((s1.length:Int)≤64))) Z Z (fun h1=>?_) (fun h1=>?_) ?_)))))
 · refine Is 6 h1 Z (U 1 Z (GO Z (AO.bJ Z Z Z Z cu Z ?_))); exact eU 2 Z (En [10] Z)
 · refine Is 6 h1 Z ?_; exact eU 4 Z (En [10] Z)
 cases hf; exact N 1 Z (Y Z h)

theorem BO (Kt:Bool) (Mr:Bool) {r0:Int} (hf:vF Kt Mr=some r0) (h:Q (.ret (iP r0)) τ):PC 144 [.bool Kt,.bool Mr] τ Q:=by
 unfold vF at hf; refine BN 7 [.tmp 4] [0,1] Tryz.func144 Z Z Z Z Z (V 2 Z (C hf Z (fun h1 hf=>?_) fun h1 hf=>?_))
 · cases hf; exact M 1 Z (Y Z h)
 refine V 1 Z (C hf Z (fun h2 hf=>?_) fun h2 hf=>?_)
 · cases hf; exact M 1 Z (Y Z h)
 cases hf; exact M 1 Z (Y Z h)

theorem Jz (c1:UInt8) {r0:Bool} (hf:CY c1=some r0) (h:Q (.ret (.bool r0)) τ):PC 145 [.int .u8 (c1.toNat:Int)] τ Q:=by
 unfold CY at hf; refine BN 9 [.tmp 2] [0] Tryz.func145 Z Z Z Z Z (W 4 Z (An 3 5 8 [] (decide ((c1.toNat:Int)≤57)) Z Z Z Z ?_)); cases hf; exact N 1 Z (Y Z h)

theorem U6 (s1:Str) (jI:Int) {r0:Int} (hf:L9 s1 jI=some r0) (h:Q (.ret (iP r0)) τ):PC 146 [.str s1,iP jI] τ Q:=by
 unfold L9 at hf; refine BN 18 [.tmp 4] [0,1] Tryz.func146 Z Z Z Z Z (V 1 Z (Gc (fun at2=>[(0,.str s1),(1,iP at2)]) (fun at2=>[]) (fun bW at2=>Dn s1 bW at2=some r0) BIG jI Z Z hf (fun _ hz=>bQ hz) ?_)); intro bW at2 hf; rw [Dn] at hf; refine W 2 Z (AS Z (AO.bJ Z Z Z Z cu Z ?_)); refine B1 hf fun b1 h2 hf=>U 2 Z (AR.eX 5 9 14 true [0,1] b1 Z Z (fun h1=>?_) (fun h1=>?_) ?_)
 · replace h2:=eD h1 h2; refine Is 9 h1 Z ?_; obtain ⟨x1,h3,h2⟩:=aN h2; refine U 2 Z (GO Z (AO.fD h3 Z cu Z Z ?_)); replace h2:=(aJ _).trans h2; obtain ⟨x2,h4,h2⟩:=aN h2; refine GO Z (AO.call Z _ Z Z adP (Jz _ h4 ?_)); obtain rfl:=Option.some.inj h2; exact eU 1 Z (En [14,0,1] Z)
 · replace h2:=eF h1 h2; refine Is 9 h1 Z ?_; obtain rfl:=Option.some.inj h2; exact eU 5 Z (En [14,0,1] Z)
 refine J 0 Z (C hf Z (fun h5 hf=>?_) fun h5 hf=>?_)
 · exact M 3 Z ⟨(bS (at2 + 1)),Z,Z,Z,hf⟩
 cases hf; exact M 2 Z (Y Z h)

theorem OD (s1:Str) {r0:Str} (hf:CX s1=some r0) (h:Q (.ret (.str r0)) τ):PC 190 [.str s1] τ Q:=by
 unfold CX at hf; refine BN 19 [.tmp 2] [0] Tryz.func190 Z Z Z Z Z (V 2 Z (Gc (fun i1=>[(0,.str s1),(3,iP i1)]) (fun i1=>[]) (fun bW i1=>vE s1 bW i1=some r0) BIG 0 Z Z hf (fun _ hz=>bQ hz) ?_)); intro bW i1 hf; rw [vE] at hf; refine W 2 Z (AS Z (AO.bJ Z Z Z Z cu Z ?_)); refine B1 hf fun b1 h2 hf=>U 2 Z (AR.eX 5 8 13 true [0,3] b1 Z Z (fun h1=>?_) (fun h1=>?_) ?_)
 · replace h2:=eD h1 h2; refine Is 8 h1 Z ?_; obtain ⟨x1,h3,h2⟩:=aN h2; refine U 2 Z (GO Z (AO.fD h3 Z cu Z Z ?_)); obtain rfl:=Option.some.inj h2; exact eU 2 Z (En [13,0,3] Z)
 · replace h2:=eF h1 h2; refine Is 8 h1 Z ?_; obtain rfl:=Option.some.inj h2; exact eU 5 Z (En [13,0,3] Z)
 refine J 0 Z (C hf Z (fun h4 hf=>?_) fun h4 hf=>?_)
 · exact M 3 Z ⟨(bS (i1 + 1)),Z,Z,Z,hf⟩
 replace hf:=(aJ _).trans hf; refine B1 hf fun x2 h5 hf=>W 2 Z (AS Z (AO.nL h5 Z cu Z ⟨_,Z⟩ Z ?_)); cases hf; exact N 1 Z (Y Z h)

theorem aav (a1:Str) (b1:Str) {r0:Int} (hf:IY a1 b1=some r0) (h:Q (.ret (iP r0)) τ):PC 147 [.str a1,.str b1] τ Q:=by
 unfold IY at hf; refine BN 48 [.tmp 4] [0,1] Tryz.func147 Z Z Z Z Z ?_; refine B1 hf fun x1 h1 hf=>W 2 Z (CL Z (OD _ h1 ?_)); refine B1 hf fun y1 h2 hf=>U 1 Z (CL Z (OD _ h2 (U 3 Z (AS Z (AO.bJ Z Z Z Z cu Z (U 1 Z (AS Z (AO.bJ Z Z Z Z cu Z (J 1 Z (C hf Z (fun h3 hf=>?_) fun h3 hf=>?_))))))))))
 · refine W 1 Z (AS Z (AO.bJ Z Z Z Z cu Z (U 1 Z (AS Z (AO.bJ Z Z Z Z cu Z (U 2 Z (AS Z (AO.bJ Z Z Z Z cu Z (U 1 Z (AS Z (AO.bJ Z Z Z Z cu Z ?_))))))))))); replace hf:=(aJ _).trans hf; refine B1 hf fun x2 h4 hf=>U 1 Z (CL Z (BO _ _ h4 ?_)); cases hf; exact N 1 Z (Y Z h)
 refine V 3 Z (C hf Z (fun h5 hf=>?_) fun h5 hf=>?_)
 · replace hf:=(aJ _).trans hf; refine B1 hf fun x3 h6 hf=>W 6 Z (CL Z (BO _ _ h6 ?_)); cases hf; exact N 1 Z (Y Z h)
 refine W 1 Z (AS Z (AO.bJ Z Z Z Z cu Z (U 1 Z (AS Z (AO.bJ Z Z Z Z cu Z (U 2 Z (AS Z (AO.bJ Z Z Z Z cu Z (U 1 Z (AS Z (AO.bJ Z Z Z Z cu Z ?_))))))))))); replace hf:=(aJ _).trans hf; refine B1 hf fun x4 h7 hf=>U 1 Z (CL Z (BO _ _ h7 ?_)); cases hf; exact N 1 Z (Y Z h)

theorem Bc (a1:Str) (b1:Str) {r0:Int} (hf:m_ a1 b1=some r0) (h:Q (.ret (iP r0)) τ):PC 109 [.str a1,.str b1] τ Q:=by
 unfold m_ at hf; refine BN 78 [.tmp 4] [0,1] Tryz.func109 Z Z Z Z Z (V 3 Z (Zf (fun i1 xO=>[(0,.str a1),(1,.str b1),(5,iP i1),(6,iP xO)]) (fun i1 xO=>[]) (fun bW i1 xO=>mZ a1 b1 bW i1 xO=some r0) BIG 0 0 Z Z hf (fun _ _ hz=>bQ hz) ?_)); intro bW i1 xO hf; rw [mZ] at hf; refine W 2 Z (AS Z (AO.bJ Z Z Z Z cu Z (U 2 Z (AR.and 5 14 19 [0,1,5,6] (x:=(decide (xO < (b1.length:Int)))) Z Z (fun h1=>?_) (fun h1=>?_) ?_))))
 · refine Is 14 h1 Z (U 2 Z (GO Z (AO.bJ Z Z Z Z cu Z ?_))); exact eU 2 Z (En [19,0,1,5,6] Z)
 · refine Is 14 h1 Z ?_; exact eU 5 Z (En [19,0,1,5,6] Z)
 refine J 0 Z (C hf Z (fun h2 hf=>?_) fun h2 hf=>?_)
 ·
  refine V 0 Z (AW.draw 16 mixed (by kernel_rfl) Z ?_); refine Ev.cs aP 2 Z ?_; refine B1 hf fun x1 h3 hf=>Ev.cons Z Z Z (AO.fD h3 Z cu Z Z zg) (Ev.cs aP 2 Z ?_); refine B1 hf fun x2 h4 hf=>Ev.cons Z Z Z (AO.fD h4 Z cu Z Z zg) (Ev.cs aP 3 Z ?_); refine B1 hf fun x3 h5 hf=>Ev.cons Z Z Z (AO.fD h5 Z cu Z Z zg) (Ev.cs aP 2 Z ?_); refine B1 hf fun x4 h6 hf=>Ev.cons Z Z Z (AO.fD h6 Z cu Z Z zg) (Ev.cs aP 1 Z ?_); refine B1 hf fun c1 h7 hf=>Ev.cons Z Z Z (AO.call Z _ Z Z ahS (BO _ _ h7 zg)) (Ev.cs aP 1 Z (Ev.nil ?_))
  show AR _ _ _ _ _ _ _ _
  refine B1 hf fun x5 h8 hf=>U 8 Z (AS Z (AO.fD h8 Z cu Z Z ?_)); refine B1 hf fun x6 h9 hf=>CL Z (Jz _ h9 ?_); refine B1 hf fun b2 h11 hf=>U 1 Z (AR.eX 5 43 48 true [0,1,5,6,7,8,9] b2 Z Z (fun h10=>?_) (fun h10=>?_) ?_)
  · replace h11:=eD h10 h11; refine Is 43 h10 Z ?_; obtain ⟨x7,h12,h11⟩:=aN h11; refine U 2 Z (GO Z (AO.fD h12 Z cu Z Z ?_)); replace h11:=(aJ _).trans h11; obtain ⟨x8,jq,h11⟩:=aN h11; refine GO Z (AO.call Z _ Z Z adP (Jz _ jq ?_)); obtain rfl:=Option.some.inj h11; exact eU 1 Z (En [48,0,1,5,6,7,8,9] Z)
  · replace h11:=eF h10 h11; refine Is 43 h10 Z ?_; obtain rfl:=Option.some.inj h11; exact eU 5 Z (En [48,0,1,5,6,7,8,9] Z)
  refine J 0 Z (C hf Z (fun kg hf=>?_) fun kg hf=>?_)
  ·
   refine B1 hf fun m1 kC hf=>W 2 Z (CL Z (U6 _ _ kC ?_)); refine B1 hf fun n1 h16 hf=>U 2 Z (CL Z (U6 _ _ h16 (J 2 Z (AW.draw 10 mixed (by kernel_rfl) Z ?_)))); refine Ev.cs aP 3 Z ?_; refine B1 hf fun x9 mQ hf=>Ev.cons Z Z Z (AO.nL mQ Z cu Z ⟨_,Z⟩ ⟨_,Z⟩ zg) (Ev.cs aP 3 Z ?_); refine B1 hf fun CO h18 hf=>Ev.cons Z Z Z (AO.nL h18 Z cu Z ⟨_,Z⟩ ⟨_,Z⟩ zg) ?_; refine B1 hf fun c2 h19 hf=>Ev.cons Z Z Z (AO.call Z _ Z Z atP (aav _ _ h19 zg)) (Ev.cs aP 1 Z (Ev.nil ?_))
   show AR _ _ _ _ _ _ _ _
   refine J 2 Z (C hf Z (fun h20 hf=>?_) fun h20 hf=>?_)
   · cases hf; exact M 2 Z (Y Z h)
   exact M 4 Z ⟨m1,n1,Z,Z,Z,hf⟩
  refine V 2 Z (C hf Z (fun h21 hf=>?_) fun h21 hf=>?_)
  · cases hf; exact M 2 Z (Y Z h)
  exact M 4 Z ⟨(bS (i1 + 1)),(bS (xO + 1)),Z,Z,Z,hf⟩
 refine W 2 Z (AS Z (AO.bJ Z Z Z Z cu Z (U 3 Z (AS Z (AO.bJ Z Z Z Z cu Z ?_))))); replace hf:=(aJ _).trans hf; refine B1 hf fun KP h22 hf=>U 1 Z (CL Z (BO _ _ h22 ?_)); cases hf; exact N 1 Z (Y Z h)

theorem Ph (v1:ah) {r0:Bool} (hf:wB v1=some r0) (h:Q (.ret (.bool r0)) τ):PC 71 [.agg (aF v1)] τ Q:=by
 unfold wB at hf; refine BN 44 [.tmp 2] [0] Tryz.func71 Z Z Z Z Z (V 3 Z (Gc (fun i1=>[(1,.ref (aF v1)),(3,iP i1)]) (fun i1=>[]) (fun bW i1=>ow v1 bW i1=some r0) BIG 0 Z Z hf (fun _ hz=>bQ hz) ?_)); intro bW i1 hf; rw [ow] at hf; refine W 3 Z (AS Z (AO.aL (l:=v1.keys) Z Z Z Z dO Z Z (J 1 Z (C hf Z (fun h1 hf=>?_) fun h1 hf=>?_))))
 ·
  refine V 0 Z (AW.draw 26 mixed (by kernel_rfl) Z ?_); refine Ev.cs aP 3 Z ?_; refine B1 hf fun e1 h2 hf=>Ev.cons Z Z Z (AO.aM h2 Z Z Z Z dO Z Z zg) (Ev.cs aP 1 Z ?_); refine B1 hf fun x1 h3 hf=>Ev.cons Z Z Z (AO.call Z _ Z Z atW (U5 _ h3 zg)) (Ev.cs aP 2 Z ?_); refine B1 hf fun b1 h5 hf=>Ev.eX hKA 18 18 36 false [1,3] (.bool b1) Z Z (fun h4=>?_) (fun h4=>?_) ?_
  ·
   replace h5:=eF h4 h5; refine Ev.is Yt 18 h4 Z (Ev.cs aP 3 Z ?_); replace h5:=(aJ _).trans h5; obtain ⟨b2,h7,h5⟩:=aN h5; refine Ev.eX Yt 14 21 35 true [1,3,18] (.bool b2) Z Z (fun h6=>?_) (fun h6=>?_) ?_
   ·
    replace h7:=eD h6 h7; refine Ev.is Yt 21 h6 Z (Ev.cs aP 4 Z ?_); obtain ⟨e2,h8,h7⟩:=aN h7; refine Ev.run Z Z Z Z Z Z Z (AO.aM h8 Z Z Z Z dO Z Z zg) (Ev.cs aP 4 Z ?_); obtain ⟨e3,h9,h7⟩:=aN h7; refine Ev.run Z Z Z Z Z Z Z (AO.aM h9 Z Z Z Z dO Z Z zg) (Ev.cs aP 1 Z ?_); obtain ⟨x2,h10,h7⟩:=aN h7; refine Ev.run Z Z Z Z Z Z Z (AO.call Z _ Z Z atV (Bc _ _ h10 zg)) (Ev.cs aP 1 Z ?_); obtain rfl:=Option.some.inj h7
    refine Ev.cs aP 1 Z ?_; exact Ev.nil (Less.settle (ps:=[35,1,3,18]) Z)
   · replace h7:=eF h6 h7; refine Ev.is Yt 21 h6 Z ?_; obtain rfl:=Option.some.inj h7; refine Ev.cs aP 14 Z ?_; exact Ev.nil (Less.settle (ps:=[35,1,3,18]) Z)
   obtain rfl:=Option.some.inj h5; refine Ev.cs aP 1 Z ?_; exact Ev.nil (Less.settle (ps:=[36,1,3]) Z)
  · replace h5:=eD h4 h5; refine Ev.is Yt 18 h4 Z ?_; obtain rfl:=Option.some.inj h5; refine Ev.cs aP 18 Z ?_; exact Ev.nil (Less.settle (ps:=[36,1,3]) Z)
  refine Ev.nil ?_; show AR _ _ _ _ _ _ _ _
  refine J 0 Z (C hf Z (fun h11 hf=>?_) fun h11 hf=>?_)
  · cases hf; exact M 1 Z (Y Z h)
  exact M 3 Z ⟨(bS (i1 + 1)),Z,Z,Z,hf⟩
 refine W 2 Z (AS Z (AO.aL (l:=v1.keys) Z Z Z Z dO Z Z (U 2 Z (AS Z (AO.aL (l:=v1.aI) Z Z Z Z dN Z (ah.aB _) ?_))))); cases hf; exact N 2 Z (Y Z h)


abbrev OT (mK:ah→Int→Option Int):Prop:=∀ (rZ:ah) (gI:Int) {aU:Int},mK rZ gI=some aU→∀ {τ:List bE} {Q:eZ→List bE→Prop} (h:Q (.ret (iP aU)) τ),PC 33 [.agg (aF rZ),iP gI] τ Q
theorem Xn (mK) (Tj:OT mK) (v1:ah) (bP:Int) {r0:Int} (hf:Et mK v1 bP=some r0) (h:Q (.ret (iP r0)) τ):PC 33 [.agg (aF v1),iP bP] τ Q:=by
 unfold Et at hf; refine BN 85 [.tmp 4] [0,1] Tryz.func33 Z Z Z Z Z (V 4 Z (C hf Z (fun h1 hf=>?_) fun h1 hf=>?_))
 · cases hf; exact M 1 Z (Y Z h)
 refine W 4 Z (On 4 12 16 [1,2] (decide (5 < v1.kind)) Z Z Z Z ?_); refine B1 hf fun b1 h4 hf=>U 1 Z (AR.eX 4 17 21 false [1,2] b1 Z Z (fun h3=>?_) (fun h3=>?_) ?_)
 · replace h4:=eF h3 h4; refine Is 17 h3 Z ?_; obtain ⟨x1,h5,h4⟩:=aN h4; refine U 1 Z (GO Z (AO.call Z _ Z Z Oq (Y1 _ h5 ?_))); obtain rfl:=Option.some.inj h4; exact eU 2 Z (En [21,1,2] Z)
 · replace h4:=eD h3 h4; refine Is 17 h3 Z ?_; obtain rfl:=Option.some.inj h4; exact eU 4 Z (En [21,1,2] Z)
 refine J 0 Z (C hf Z (fun h6 hf=>?_) fun h6 hf=>?_)
 · cases hf; exact M 1 Z (Y Z h)
 refine W 4 Z (On 4 25 29 [1,2] (decide (9007199254740992 < v1.bZ)) Z Z Z Z (J 0 Z (C hf Z (fun h8 hf=>?_) fun h8 hf=>?_)))
 · cases hf; exact M 1 Z (Y Z h)
 refine W 2 Z (AS Z (AO.bJ Z Z Z Z cu Z (U 2 Z (AR.or 5 34 39 [1,2] (x:=(decide (1024 < (v1.aI.length:Int)))) Z Z (fun h9=>?_) (fun h9=>?_) ?_))))
 · refine Is 34 h9 Z (U 2 Z (GO Z (AO.aL (l:=v1.aI) Z Z Z Z dN Z (ah.aB _) ?_))); exact eU 2 Z (En [39,1,2] Z)
 · refine Is 34 h9 Z ?_; exact eU 5 Z (En [39,1,2] Z)
 refine U 1 Z (AR.or 5 40 45 [1,2] (x:=(decide (1024 < (v1.keys.length:Int)))) Z Z (fun h10=>?_) (fun h10=>?_) ?_)
 · refine Is 40 h10 Z (U 2 Z (GO Z (AO.aL (l:=v1.keys) Z Z Z Z dO Z Z ?_))); exact eU 2 Z (En [45,1,2] Z)
 · refine Is 40 h10 Z ?_; exact eU 5 Z (En [45,1,2] Z)
 refine J 0 Z (C hf Z (fun h11 hf=>?_) fun h11 hf=>?_)
 · cases hf; exact M 1 Z (Y Z h)
 refine B1 hf fun b2 jq hf=>W 4 Z (AR.eX 4 49 53 true [1,2] b2 Z Z (fun h12=>?_) (fun h12=>?_) ?_)
 · replace jq:=eD h12 jq; refine Is 49 h12 Z ?_; obtain ⟨x2,kg,jq⟩:=aN jq; refine U 1 Z (GO Z (AO.call Z _ Z Z auH (Ph _ kg ?_))); obtain rfl:=Option.some.inj jq; exact eU 2 Z (En [53,1,2] Z)
 · replace jq:=eF h12 jq; refine Is 49 h12 Z ?_; obtain rfl:=Option.some.inj jq; exact eU 4 Z (En [53,1,2] Z)
 refine J 0 Z (C hf Z (fun kC hf=>?_) fun kC hf=>?_)
 · cases hf; exact M 1 Z (Y Z h)
 refine W 4 Z (AR.and 5 57 62 [1,2] (x:=((v1.aI.length:Int) == 0)) Z Z (fun h16=>?_) (fun h16=>?_) ?_)
 · refine Is 57 h16 Z (U 2 Z (GO Z (AO.aL (l:=v1.aI) Z Z Z Z dN Z (ah.aB _) ?_))); exact eU 2 Z (En [62,1,2] Z)
 · refine Is 57 h16 Z ?_; exact eU 5 Z (En [62,1,2] Z)
 refine U 1 Z (An 3 63 66 [1,2] (bP == 16) Z Z Z Z (J 0 Z (C hf Z (fun h18 hf=>?_) fun h18 hf=>?_)))
 · cases hf; exact M 1 Z (Y Z h)
 refine V 1 Z (Gc (fun i1=>[(1,iP bP),(2,.ref (aF v1)),(5,iP i1)]) (fun i1=>[]) (fun bW i1=>yI mK v1 bP bW i1=some r0) BIG 0 Z Z hf (fun _ hz=>bQ hz) ?_); intro bW i1 hf; rw [yI] at hf; refine W 3 Z (AS Z (AO.aL (l:=v1.aI) Z Z Z Z dN Z (ah.aB _) (J 1 Z (C hf Z (fun h19 hf=>?_) fun h19 hf=>?_))))
 ·
  refine B1 hf fun e1 h20 hf=>W 3 Z (AS Z (AO.aM h20 Z Z (ah.aB _) Z dN (ah.aG _) Z ?_)); refine B1 hf fun e2 h21 hf=>U 3 Z (CL Z (Tj _ _ h21 (J 3 Z (C hf Z (fun h22 hf=>?_) fun h22 hf=>?_))))
  · cases hf; exact M 2 Z (Y Z h)
  exact M 3 Z ⟨(bS (i1 + 1)),Z,Z,Z,hf⟩
 cases hf; exact M 1 Z (Y Z h)
theorem Yd :∀ k:Nat,(OT (pV k)):=by
 intro k
 induction k with
 | zero=>exact fun _ _ _ hz=>by first | cases hz | (unfold pV at hz; cases hz)
 | succ k ih=>exact fun rZ gI aU hz τ Q hq=>Xn (pV k) ih rZ gI hz hq
theorem Y3 (rZ:ah) (gI:Int) {aU:Int} (hf:Ng rZ gI=some aU) (h:Q (.ret (iP aU)) τ):PC 33 [.agg (aF rZ),iP gI] τ Q:=
 ((Yd BIG)) rZ gI hf h

theorem ER (v1:ah) {r0:Int} (hf:xH v1=some r0) (h:Q (.ret (iP r0)) τ):PC 14 [.agg (aF v1)] τ Q:=by
 unfold xH at hf; refine BN 5 [.tmp 2] [0] Tryz.func14 Z Z Z Z Z ?_; replace hf:=(aJ _).trans hf; refine B1 hf fun x1 h1 hf=>W 3 Z (CL Z (Y3 _ _ h1 ?_)); cases hf; exact N 1 Z (Y Z h)

theorem NM (bK:List av) {r0:Int} (hf:Gq bK=some r0) (h:Q (.ret (iP r0)) τ):PC 5 [.list (List.map av.cells bK)] τ Q:=by
 unfold Gq at hf; refine BN 47 [.tmp 2] [0] Tryz.func5 Z Z Z Z Z (W 2 Z (AS Z (AO.aL (l:=bK) Z Z Z Z kW Z Z (J 1 Z (C hf Z (fun h1 hf=>?_) fun h1 hf=>?_)))))
 · cases hf; exact M 1 Z (Y Z h)
 refine V 1 Z (Gc (fun i1=>[(0,.list (List.map av.cells bK)),(3,iP i1)]) (fun i1=>[]) (fun bW i1=>uy bK bW i1=some r0) BIG 0 Z Z hf (fun _ hz=>bQ hz) ?_); intro bW i1 hf; rw [uy] at hf; refine W 2 Z (AS Z (AO.aL (l:=bK) Z Z Z Z kW Z Z (J 1 Z (C hf Z (fun h2 hf=>?_) fun h2 hf=>?_))))
 ·
  refine B1 hf fun e1 h3 hf=>W 2 Z (AS Z (AO.aM h3 Z Z Z Z kW (av.aG _) Z ?_)); refine B1 hf fun x1 h4 hf=>U 2 Z (CL Z (EP _ h4 (J 1 Z (C hf Z (fun h5 hf=>?_) fun h5 hf=>?_))))
  · cases hf; exact M 1 Z (Y Z h)
  refine B1 hf fun e2 h6 hf=>W 2 Z (AS Z (AO.aM h6 Z Z Z Z kW (av.aG _) Z ?_)); refine B1 hf fun e3 h7 hf=>U 2 Z (CL Z (ER _ h7 (J 3 Z (C hf Z (fun h8 hf=>?_) fun h8 hf=>?_))))
  · cases hf; exact M 2 Z (Y Z h)
  refine V 1 Z (Gc (fun xO=>[(0,.list (List.map av.cells bK)),(3,iP i1),(5,iP xO)]) (fun xO=>[]) (fun EB xO=>zT bK i1 (uy bK bW) EB xO=some r0) BIG 0 Z Z hf (fun _ hz=>bQ hz) ?_); intro EB xO hf; rw [zT] at hf; refine V 3 Z (C hf Z (fun h9 hf=>?_) fun h9 hf=>?_)
  ·
   refine V 0 Z (AW.draw 11 mixed (by kernel_rfl) Z ?_); refine Ev.cs aP 2 Z ?_; refine B1 hf fun e4 h10 hf=>Ev.cons Z Z Z (AO.aM h10 Z Z Z Z kW (av.aG _) Z zg) (Ev.cs aP 4 Z ?_); refine B1 hf fun e5 h11 hf=>Ev.cons Z Z Z (AO.aM h11 Z Z Z Z kW (av.aG _) Z zg) (Ev.cs aP 3 Z (Ev.nil ?_)); show AR _ _ _ _ _ _ _ _
   refine J 0 Z (C hf Z (fun h12 hf=>?_) fun h12 hf=>?_)
   · cases hf; exact M 1 Z (Y Z h)
   exact M 3 Z ⟨(bS (xO + 1)),Z,Z,Z,hf⟩
  exact M 3 Z ⟨(bS (i1 + 1)),Z,Z,Z,hf⟩
 cases hf; exact M 1 Z (Y Z h)

theorem NU (oU:Int) {r0:Bool} (hf:Dx oU=some r0) (h:Q (.ret (.bool r0)) τ):PC 110 [.int .i32 oU] τ Q:=by
 unfold Dx at hf; refine BN 9 [.tmp 2] [0] Tryz.func110 Z Z Z Z Z (W 4 Z (On 3 5 8 [] (oU == 9) Z Z Z Z ?_)); cases hf; exact N 1 Z (Y Z h)

theorem Fv (s1:Str) (jI:Int) (Js:UInt8→Option Bool) (PK:FuncId) (WK:List PV) (agd:bG Tryz.prog PK=true) (agf:∀ a0 b0,Js a0=some b0→∀ {τ:List bE} {Q:eZ→List bE→Prop},Q (.ret (.bool b0)) τ→PC PK ([.int .u8 (a0.toNat:Int)] ++ WK) τ Q) {r0:Int} (hf:BI s1 jI Js=some r0) (h:Q (.ret (iP r0)) τ):PC 111 [.str s1,iP jI,.fn PK WK] τ Q:=by
 unfold BI at hf; refine BN 21 [.tmp 6] [0,1,2] Tryz.func111 Z Z Z Z Z (V 1 Z (Gc (fun at2=>[(0,.str s1),(1,iP at2),(2,.fn PK WK)]) (fun at2=>[]) (fun bW at2=>yU s1 Js bW at2=some r0) BIG jI Z Z hf (fun _ hz=>bQ hz) ?_)); intro bW at2 hf; rw [yU] at hf; refine W 2 Z (AS Z (AO.bJ Z Z Z Z cu Z ?_)); refine B1 hf fun b1 h2 hf=>U 2 Z (AR.eX 6 11 17 true [0,1,2] b1 Z Z (fun h1=>?_) (fun h1=>?_) ?_)
 · replace h2:=eD h1 h2; refine Is 11 h1 Z ?_; obtain ⟨x1,h3,h2⟩:=aN h2; refine U 3 Z (GO Z (AO.fD h3 Z cu Z Z ?_)); replace h2:=(aJ _).trans h2; obtain ⟨x2,h4,h2⟩:=aN h2; refine GO Z (AO.call Z _ Z Z agd (agf _ _ h4 ?_)); obtain rfl:=Option.some.inj h2; exact eU 1 Z (En [17,0,1,2] Z)
 · replace h2:=eF h1 h2; refine Is 11 h1 Z ?_; obtain rfl:=Option.some.inj h2; exact eU 6 Z (En [17,0,1,2] Z)
 refine J 0 Z (C hf Z (fun h5 hf=>?_) fun h5 hf=>?_)
 · exact M 3 Z ⟨(bS (at2 + 1)),Z,Z,Z,hf⟩
 cases hf; exact M 2 Z (Y Z h)

theorem NT (c1:UInt8) {r0:Bool} (hf:yZ c1=some r0) (h:Q (.ret (.bool r0)) τ):PC 112 [.int .u8 (c1.toNat:Int)] τ Q:=by
 unfold yZ at hf; refine BN 5 [.tmp 2] [0] Tryz.func112 Z Z Z Z Z ?_; cases hf; exact M 4 Z (Y Z h)

theorem D6 (c1:UInt8) {r0:Bool} (hf:yV c1=some r0) (h:Q (.ret (.bool r0)) τ):PC 148 [.int .u8 (c1.toNat:Int)] τ Q:=by
 unfold yV at hf; refine BN 21 [.tmp 2] [0] Tryz.func148 Z Z Z Z Z (W 4 Z (An 3 5 8 [0] (decide ((c1.toNat:Int)≤122)) Z Z Z Z (U 1 Z (AR.or 7 9 16 [0] (x:=((decide (65≤(c1.toNat:Int))) && (decide ((c1.toNat:Int)≤90)))) Z Z (fun h2=>?_) (fun h2=>?_) ?_))))
 · refine Is 9 h2 Z (U 3 Z (An 3 12 15 [0,9] (decide ((c1.toNat:Int)≤90)) Z Z Z Z ?_)); exact eU 1 Z (En [16,0] Z)
 · refine Is 9 h2 Z ?_; exact eU 7 Z (En [16,0] Z)
 refine U 1 Z (On 3 17 20 [] ((c1.toNat:Int) == 95) Z Z Z Z ?_); cases hf; exact N 1 Z (Y Z h)

theorem Bd (c1:UInt8) {r0:Bool} (hf:uJ c1=some r0) (h:Q (.ret (.bool r0)) τ):PC 150 [.int .u8 (c1.toNat:Int)] τ Q:=by
 unfold uJ at hf; refine BN 9 [.tmp 2] [0] Tryz.func150 Z Z Z Z Z (W 4 Z (An 3 5 8 [] (decide ((c1.toNat:Int)≤57)) Z Z Z Z ?_)); cases hf; exact N 1 Z (Y Z h)

theorem R8 (c1:UInt8) {r0:Bool} (hf:Cv c1=some r0) (h:Q (.ret (.bool r0)) τ):PC 191 [.int .u8 (c1.toNat:Int)] τ Q:=by
 unfold Cv at hf; refine BN 9 [.tmp 2] [0] Tryz.func191 Z Z Z Z Z ?_; refine B1 hf fun x1 h1 hf=>W 2 Z (CL Z (D6 _ h1 ?_)); replace hf:=(aJ _).trans hf; refine B1 hf fun b1 h3 hf=>U 1 Z (AR.eX 3 5 8 false [] b1 Z Z (fun h2=>?_) (fun h2=>?_) ?_)
 · replace h3:=eF h2 h3; refine Is 5 h2 Z ?_; replace h3:=(aJ _).trans h3; obtain ⟨x2,h4,h3⟩:=aN h3; refine U 1 Z (GO Z (AO.call Z _ Z Z ahQ (Bd _ h4 ?_))); obtain rfl:=Option.some.inj h3; exact eU 1 Z (En [8] Z)
 · replace h3:=eD h2 h3; refine Is 5 h2 Z ?_; obtain rfl:=Option.some.inj h3; exact eU 3 Z (En [8] Z)
 cases hf; exact N 1 Z (Y Z h)

theorem WY (fZ:Str) (jI:Int) {r0:aX} {r1:Int} {r2:Int} (hf:K4 fZ jI=some (r0,r1,r2)) (h:Q (.ret (.tuple [.agg (xM r0),iP r1,iP r2])) τ):PC 149 [.str fZ,iP jI] τ Q:=by
 unfold K4 at hf; refine BN 23 [.cell 4 107,.tmp 5,.tmp 6] [0,1] Tryz.func149 Z Z Z Z Z (W 0 Z (AS Z (AO.aH Z als (fun b4=>?_)))); refine B1 hf fun Ak h1 hf=>U 4 Z (CL Z (Fv _ _ Cv 191 [] atJ (fun _ _ hz=>R8 _  hz) h1 (J 5 Z (C hf Z (fun h2 hf=>?_) fun h2 hf=>?_))))
 · cases hf; exact Wx 4 [0] rfl rfl ⟨rfl,_,⟨_,_,rfl,⟨_,_,0,_,_,rfl,rfl,acR,rfl⟩,_,_,rfl,rfl,_,_,rfl,rfl,rfl⟩,[],List.nil_sublist _,h⟩
 refine B1 hf fun x1 h3 hf=>W 3 Z (AS Z (AO.nL h3 Z cu Z ⟨_,Z⟩ ⟨_,Z⟩ ?_)); cases hf; exact Rx 6 [0] rfl rfl ⟨rfl,_,⟨_,_,rfl,⟨_,_,0,_,_,rfl,rfl,acR,rfl⟩,_,_,rfl,rfl,_,_,rfl,rfl,rfl⟩,[],List.nil_sublist _,h⟩

theorem TL (Bb:Str) {r0:Bool} (hf:Jd Bb=some r0) (h:Q (.ret (.bool r0)) τ):PC 192 [.str Bb] τ Q:=by
 unfold Jd at hf; refine BN 25 [.tmp 2] [0] Tryz.func192 Z Z Z Z Z (V 3 Z (Zf (fun n1 i1=>[(0,.str Bb),(3,iP n1),(4,iP i1)]) (fun n1 i1=>[]) (fun bW n1 i1=>yY Bb bW n1 i1=some r0) BIG 0 0 Z Z hf (fun _ _ hz=>bQ hz) ?_)); intro bW n1 i1 hf; rw [yY] at hf; refine W 2 Z (AS Z (AO.bJ Z Z Z Z cu Z (U 2 Z (An 3 9 12 [0,3,4] (decide (n1≤9007199254740992)) Z Z Z Z (J 0 Z (C hf Z (fun h2 hf=>?_) fun h2 hf=>?_))))))
 · refine B1 hf fun x1 h3 hf=>W 4 Z (AS Z (AO.fD h3 Z cu Z Z (AS Z (AO.Vv x1 48 Z Z Z Z Z (AS Z (AO.Ao Z zK Ea Z Z ?_)))))); exact N 5 Z ⟨(bS ((bS (10 * n1)) + ((x1 - 48).toNat:Int))),(bS (i1 + 1)),Z,Z,Z,hf⟩
 cases hf; exact M 3 Z (Y Z h)

theorem R7 (fZ:Str) (jI:Int) {r0:aX} {r1:Int} {r2:Int} (hf:GJ fZ jI=some (r0,r1,r2)) (h:Q (.ret (.tuple [.agg (xM r0),iP r1,iP r2])) τ):PC 151 [.str fZ,iP jI] τ Q:=by
 unfold GJ at hf; refine BN 44 [.cell 4 107,.tmp 5,.tmp 6] [0,1] Tryz.func151 Z Z Z Z Z (W 0 Z (AS Z (AO.aH Z als (fun b4=>?_)))); refine B1 hf fun Ak h1 hf=>U 4 Z (CL Z (Fv _ _ uJ 150 [] ahQ (fun _ _ hz=>Bd _  hz) h1 ?_)); refine B1 hf fun text1 h2 hf=>U 4 Z (AS Z (AO.nL h2 Z cu Z ⟨_,Z⟩ ⟨_,Z⟩ (U 2 Z (AS Z (AO.bJ Z Z Z Z cu Z ?_))))); refine B1 hf fun b1 h4 hf=>U 2 Z (AR.eX 4 19 23 true [0,1,4,7,8] b1 Z Z (fun h3=>?_) (fun h3=>?_) ?_)
 · replace h4:=eD h3 h4; refine Is 19 h3 Z ?_; obtain ⟨x1,h5,h4⟩:=aN h4; refine U 1 Z (GO Z (AO.fD h5 Z cu Z Z ?_)); obtain rfl:=Option.some.inj h4; exact eU 2 Z (En [23,0,1,4,7,8] Z)
 · replace h4:=eF h3 h4; refine Is 19 h3 Z ?_; obtain rfl:=Option.some.inj h4; exact eU 4 Z (En [23,0,1,4,7,8] Z)
 refine B1 hf fun b2 h7 hf=>U 1 Z (AR.eX 11 24 35 false [1,4,7,8] b2 Z Z (fun h6=>?_) (fun h6=>?_) ?_)
 ·
  replace h7:=eF h6 h7; refine Is 24 h6 Z (U 2 Z (GO Z (AO.bJ Z Z Z Z cu Z ?_))); replace h7:=(aJ _).trans h7; obtain ⟨b3,h9,h7⟩:=aN h7; refine U 2 Z (AR.eX 5 29 34 true [1,4,7,8,24] b3 Z Z (fun h8=>?_) (fun h8=>?_) ?_)
  · replace h9:=eD h8 h9; refine Is 29 h8 Z ?_; obtain ⟨x2,h10,h9⟩:=aN h9; refine U 2 Z (GO Z (AO.fD h10 Z cu Z Z ?_)); replace h9:=(aJ _).trans h9; obtain ⟨x3,h11,h9⟩:=aN h9; refine GO Z (AO.call Z _ Z Z atO (D6 _ h11 ?_)); obtain rfl:=Option.some.inj h9; exact eU 1 Z (En [34,1,4,7,8,24] Z)
  · replace h9:=eF h8 h9; refine Is 29 h8 Z ?_; obtain rfl:=Option.some.inj h9; exact eU 5 Z (En [34,1,4,7,8,24] Z)
  obtain rfl:=Option.some.inj h7; exact eU 1 Z (En [35,1,4,7,8] Z)
 · replace h7:=eD h6 h7; refine Is 24 h6 Z ?_; obtain rfl:=Option.some.inj h7; exact eU 11 Z (En [35,1,4,7,8] Z)
 refine J 0 Z (C hf Z (fun h12 hf=>?_) fun h12 hf=>?_)
 · cases hf; exact Wx 4 [0] rfl rfl ⟨rfl,_,⟨_,_,rfl,⟨_,_,0,_,_,rfl,rfl,acR,rfl⟩,_,_,rfl,rfl,_,_,rfl,rfl,rfl⟩,[],List.nil_sublist _,h⟩
 refine B1 hf fun x4 jq hf=>W 1 Z (CL Z (TL _ jq (J 0 Z (C hf Z (fun kg hf=>?_) fun kg hf=>?_))))
 · cases hf; exact Wx 4 [0] rfl rfl ⟨rfl,_,⟨_,_,rfl,⟨_,_,0,_,_,rfl,rfl,acR,rfl⟩,_,_,rfl,rfl,_,_,rfl,rfl,rfl⟩,[],List.nil_sublist _,h⟩
 cases hf; exact Wx 7 [0] rfl rfl ⟨rfl,_,⟨_,_,rfl,⟨_,_,0,_,_,rfl,rfl,acR,rfl⟩,_,_,rfl,rfl,_,_,rfl,rfl,rfl⟩,[],List.nil_sublist _,h⟩

theorem BP (c1:UInt8) {r0:Int} (hf:z_ c1=some r0) (h:Q (.ret (iP r0)) τ):PC 232 [.int .u8 (c1.toNat:Int)] τ Q:=by
 unfold z_ at hf; refine BN 31 [.tmp 2] [0] Tryz.func232 Z Z Z Z Z ?_; refine B1 hf fun x1 h1 hf=>W 2 Z (CL Z (Bd _ h1 (J 1 Z (C hf Z (fun h2 hf=>?_) fun h2 hf=>?_))))
 · refine W 1 Z (AS Z (AO.Vv c1 48 Z Z Z Z Z (AS Z (AO.Ao Z zK Ea Z Z ?_)))); cases hf; exact N 1 Z (Y Z h)
 refine W 3 Z (An 3 12 15 [0] (decide ((c1.toNat:Int)≤102)) Z Z Z Z (J 1 Z (C hf Z (fun h4 hf=>?_) fun h4 hf=>?_)))
 · refine W 1 Z (AS Z (AO.Vv c1 97 Z Z Z Z Z (AS Z (AO.Ao Z zK Ea Z Z ?_)))); cases hf; exact N 2 Z (Y Z h)
 refine W 3 Z (An 3 23 26 [0] (decide ((c1.toNat:Int)≤70)) Z Z Z Z (J 1 Z (C hf Z (fun h6 hf=>?_) fun h6 hf=>?_)))
 · refine W 1 Z (AS Z (AO.Vv c1 65 Z Z Z Z Z (AS Z (AO.Ao Z zK Ea Z Z ?_)))); cases hf; exact N 2 Z (Y Z h)
 cases hf; exact M 1 Z (Y Z h)

theorem Pk (fZ:Str) (jI:Int) {r0:UInt8} {r1:Int} (hf:Fb fZ jI=some (r0,r1)) (h:Q (.ret (.tuple [.int .u8 (r0.toNat:Int),iP r1])) τ):PC 195 [.str fZ,iP jI] τ Q:=by
 unfold Fb at hf; refine BN 61 [.tmp 4,.tmp 5] [0,1] Tryz.func195 Z Z Z Z Z (W 5 Z (AS Z (AO.bJ Z Z Z Z cu Z (J 1 Z (C hf Z (fun h1 hf=>?_) fun h1 hf=>?_)))))
 · cases hf; exact M 2 rfl ⟨rfl,_,⟨_,_,rfl,rfl,_,_,rfl,rfl,rfl⟩,[],List.nil_sublist _,h⟩
 refine B1 hf fun c1 h2 hf=>W 3 Z (AS Z (AO.fD h2 Z cu Z Z (J 4 Z (C hf Z (fun h3 hf=>?_) fun h3 hf=>?_))))
 ·
  refine V 0 Z (AW.cond Z (fun h4=>?_) (fun h4=>?_))
  · cases hf; exact M 3 rfl ⟨rfl,_,⟨_,_,rfl,rfl,_,_,rfl,rfl,rfl⟩,[],List.nil_sublist _,h⟩
  cases h3.symm.trans h4
 refine V 2 Z (C hf Z (fun h5 hf=>?_) fun h5 hf=>?_)
 · cases hf; exact M 3 rfl ⟨rfl,_,⟨_,_,rfl,rfl,_,_,rfl,rfl,rfl⟩,[],List.nil_sublist _,h⟩
 refine V 2 Z (C hf Z (fun h6 hf=>?_) fun h6 hf=>?_)
 · cases hf; exact M 2 rfl ⟨rfl,_,⟨_,_,rfl,rfl,_,_,rfl,rfl,rfl⟩,[],List.nil_sublist _,h⟩
 refine V 2 Z (C hf Z (fun h7 hf=>?_) fun h7 hf=>?_)
 · cases hf; exact M 2 rfl ⟨rfl,_,⟨_,_,rfl,rfl,_,_,rfl,rfl,rfl⟩,[],List.nil_sublist _,h⟩
 refine V 2 Z (C hf Z (fun h8 hf=>?_) fun h8 hf=>?_)
 ·
  refine W 3 Z (AS Z (AO.bJ Z Z Z Z cu Z ?_)); refine B1 hf fun b1 h10 hf=>U 2 Z (AR.eX 7 32 39 true [0,1] b1 Z Z (fun h9=>?_) (fun h9=>?_) ?_)
  · replace h10:=eD h9 h10; refine Is 32 h9 Z ?_; obtain ⟨x1,h11,h10⟩:=aN h10; refine U 3 Z (GO Z (AO.fD h11 Z cu Z Z ?_)); obtain ⟨x2,h12,h10⟩:=aN h10; refine GO Z (AO.call Z _ Z Z aos (BP _ h12 ?_)); obtain rfl:=Option.some.inj h10; exact eU 2 Z (En [39,0,1] Z)
  · replace h10:=eF h9 h10; refine Is 32 h9 Z ?_; obtain rfl:=Option.some.inj h10; exact eU 7 Z (En [39,0,1] Z)
  refine B1 hf fun b2 kg hf=>U 1 Z (AR.eX 7 40 47 true [0,1] b2 Z Z (fun jq=>?_) (fun jq=>?_) ?_)
  · replace kg:=eD jq kg; refine Is 40 jq Z ?_; obtain ⟨x3,kC,kg⟩:=aN kg; refine U 3 Z (GO Z (AO.fD kC Z cu Z Z ?_)); obtain ⟨x4,h16,kg⟩:=aN kg; refine GO Z (AO.call Z _ Z Z aos (BP _ h16 ?_)); obtain rfl:=Option.some.inj kg; exact eU 2 Z (En [47,0,1] Z)
  · replace kg:=eF jq kg; refine Is 40 jq Z ?_; obtain rfl:=Option.some.inj kg; exact eU 7 Z (En [47,0,1] Z)
  refine J 0 Z (C hf Z (fun mQ hf=>?_) fun mQ hf=>?_)
  ·
   refine V 0 Z (AW.draw 15 mixed (by kernel_rfl) Z ?_); refine Ev.cs aP 3 Z ?_; refine B1 hf fun x5 h18 hf=>Ev.cons Z Z Z (AO.fD h18 Z cu Z Z zg) ?_; refine B1 hf fun x6 h19 hf=>Ev.cons Z Z Z (AO.call Z _ Z Z aos (BP _ h19 zg)) (Ev.cs aP 4 Z ?_); refine B1 hf fun x7 h20 hf=>Ev.cons Z Z Z (AO.fD h20 Z cu Z Z zg) ?_; refine B1 hf fun x8 h21 hf=>Ev.cons Z Z Z (AO.call Z _ Z Z aos (BP _ h21 zg)) (Ev.cs aP 1 Z (Ev.cons Z Z Z (AO.DT Z Ea zK Z zg) (Ev.cs aP 2 Z ?_)))
   refine Ev.nil ?_; show AR _ _ _ _ _ _ _ _
   cases hf; exact N 0 rfl ⟨rfl,_,⟨_,_,rfl,rfl,_,_,rfl,rfl,rfl⟩,[],List.nil_sublist _,h⟩
  cases hf; exact M 2 rfl ⟨rfl,_,⟨_,_,rfl,rfl,_,_,rfl,rfl,rfl⟩,[],List.nil_sublist _,h⟩
 cases hf; exact M 2 rfl ⟨rfl,_,⟨_,_,rfl,rfl,_,_,rfl,rfl,rfl⟩,[],List.nil_sublist _,h⟩

theorem TK (fZ:Str) (jI:Int) {r0:Bool} (hf:Jc fZ jI=some r0) (h:Q (.ret (.bool r0)) τ):PC 196 [.str fZ,iP jI] τ Q:=by
 unfold Jc at hf; refine BN 32 [.tmp 4] [0,1] Tryz.func196 Z Z Z Z Z ?_; refine B1 hf fun Qo h1 hf=>W 4 Z (AS Z (AO.nL h1 Z cu Z ⟨_,Z⟩ Z (U 4 Z (On 3 12 15 [5] (Qo == ([120]:Str)) Z Z Z Z ?_)))); replace hf:=(aJ _).trans hf; refine B1 hf fun b1 h4 hf=>U 1 Z (AR.eX 15 16 31 false [] b1 Z Z (fun h3=>?_) (fun h3=>?_) ?_)
 ·
  replace h4:=eF h3 h4; refine Is 16 h3 Z (U 1 Z (GO Z (AO.bJ Z Z Z Z cu Z ?_))); obtain ⟨b2,h6,h4⟩:=aN h4; refine U 2 Z (AR.eX 4 20 24 true [5,16] b2 Z Z (fun h5=>?_) (fun h5=>?_) ?_)
  · replace h6:=eD h5 h6; refine Is 20 h5 Z ?_; obtain ⟨x1,h7,h6⟩:=aN h6; refine U 1 Z (GO Z (AO.fD h7 Z cu Z Z ?_)); obtain rfl:=Option.some.inj h6; exact eU 2 Z (En [24,5,16] Z)
  · replace h6:=eF h5 h6; refine Is 20 h5 Z ?_; obtain rfl:=Option.some.inj h6; exact eU 4 Z (En [24,5,16] Z)
  replace h4:=(aJ _).trans h4; obtain ⟨b3,h9,h4⟩:=aN h4; refine U 1 Z (AR.eX 5 25 30 true [16] b3 Z Z (fun h8=>?_) (fun h8=>?_) ?_)
  · replace h9:=eD h8 h9; refine Is 25 h8 Z ?_; obtain ⟨x2,h10,h9⟩:=aN h9; refine U 1 Z (GO Z (AO.fD h10 Z cu Z Z ?_)); obtain ⟨x3,h11,h9⟩:=aN h9; refine GO Z (AO.call Z _ Z Z aos (BP _ h11 ?_)); obtain rfl:=Option.some.inj h9; exact eU 2 Z (En [30,16] Z)
  · replace h9:=eF h8 h9; refine Is 25 h8 Z ?_; obtain rfl:=Option.some.inj h9; exact eU 5 Z (En [30,16] Z)
  obtain rfl:=Option.some.inj h4; exact eU 1 Z (En [31] Z)
 · replace h4:=eD h3 h4; refine Is 16 h3 Z ?_; obtain rfl:=Option.some.inj h4; exact eU 15 Z (En [31] Z)
 cases hf; exact N 1 Z (Y Z h)

theorem WX (fZ:Str) (jI:Int) {r0:aX} {r1:Int} {r2:Int} (hf:K3 fZ jI=some (r0,r1,r2)) (h:Q (.ret (.tuple [.agg (xM r0),iP r1,iP r2])) τ):PC 152 [.str fZ,iP jI] τ Q:=by
 unfold K3 at hf; refine BN 68 [.cell 4 107,.tmp 5,.tmp 6] [0,1] Tryz.func152 Z Z Z Z Z (W 0 Z (AS Z (AO.aH Z als (fun b4=>(U 2 Z (AS Z (AO.Ke (eu:=5) Z ap5 Z (fun b7=>(J 3 Z (Vf (fun i1 b1 v1=>[(0,.str fZ),(1,iP jI),(4,pP b4),(7,pP b7),(8,iP i1)]) (fun i1 b1 v1=>[.Lm b7 v1 179 5 b1,.box b4 [iP 0,.str ([]:Str),iP 0]]) (fun bW i1 b1 v1=>wG fZ jI bW i1 b1=some (r0,r1,r2)) BIG (bS (jI + 1)) [] (.slice none 0 0) Z Z hf (fun _ _ _ hz=>bQ hz) ?_)))))))))); intro bW i1 b1 v1 hf
 rw [wG] at hf; refine W 2 Z (AS Z (AO.bJ Z Z Z Z cu Z (J 1 Z (C hf Z (fun h1 hf=>?_) fun h1 hf=>?_))))
 ·
  refine B1 hf fun c1 h2 hf=>W 2 Z (AS Z (AO.fD h2 Z cu Z Z (J 4 Z (C hf Z (fun h3 hf=>?_) fun h3 hf=>?_))))
  ·
   refine W 0 Z (CL Z (AC.one 0 Z (acM ⟨_,Z,(J 1 Z (C hf Z (fun h4 hf=>?_) fun h4 hf=>?_))⟩)))
   · cases hf; exact Wx 4 [1] rfl rfl ⟨rfl,_,⟨_,_,rfl,⟨_,_,1,_,_,rfl,rfl,acR,rfl⟩,_,_,rfl,rfl,_,_,rfl,rfl,rfl⟩,[],List.nil_sublist _,h⟩
   refine W 0 Z (CL Z (AC.Pv 0 Z (CG ?_))); cases hf; exact Rx 7 [0] rfl rfl ⟨rfl,_,⟨_,_,rfl,⟨_,_,0,_,_,rfl,rfl,acR,rfl⟩,_,_,rfl,rfl,_,_,rfl,rfl,rfl⟩,[],List.nil_sublist _,h⟩
  refine V 3 Z (C hf Z (fun h5 hf=>?_) fun h5 hf=>?_)
  · cases hf; exact Wx 4 [1] rfl rfl ⟨rfl,_,⟨_,_,rfl,⟨_,_,1,_,_,rfl,rfl,acR,rfl⟩,_,_,rfl,rfl,_,_,rfl,rfl,rfl⟩,[],List.nil_sublist _,h⟩
  refine V 3 Z (C hf Z (fun h6 hf=>?_) fun h6 hf=>?_)
  ·
   obtain ⟨x1,n1,h7,hf⟩:=aY hf; refine W 2 Z (CL Z (Pk _ _ h7 ?_)); refine B1 hf fun b2 h9 hf=>U 8 Z (AR.eX 4 52 56 true [0,1,4,7,8,10,11] b2 Z Z (fun h8=>?_) (fun h8=>?_) ?_)
   · replace h9:=eD h8 h9; refine Is 52 h8 Z ?_; replace h9:=(aJ _).trans h9; obtain ⟨x2,h10,h9⟩:=aN h9; refine U 2 Z (GO Z (AO.call Z _ Z Z atI (TK _ _ h10 ?_))); obtain rfl:=Option.some.inj h9; exact eU 1 Z (En [56,0,1,4,7,8,10,11] Z)
   · replace h9:=eF h8 h9; refine Is 52 h8 Z ?_; obtain rfl:=Option.some.inj h9; exact eU 4 Z (En [56,0,1,4,7,8,10,11] Z)
   refine J 1 Z (C hf Z (fun h11 hf=>?_) fun h11 hf=>?_)
   · cases hf; exact Wx 4 [1] rfl rfl ⟨rfl,_,⟨_,_,rfl,⟨_,_,1,_,_,rfl,rfl,acR,rfl⟩,_,_,rfl,rfl,_,_,rfl,rfl,rfl⟩,[],List.nil_sublist _,h⟩
   refine V 3 Z (C hf Z (fun h12 hf=>?_) fun h12 hf=>?_)
   · cases hf; exact Wx 4 [1] rfl rfl ⟨rfl,_,⟨_,_,rfl,⟨_,_,1,_,_,rfl,rfl,acR,rfl⟩,_,_,rfl,rfl,_,_,rfl,rfl,rfl⟩,[],List.nil_sublist _,h⟩
   refine B1 hf fun b3 jq hf=>W 1 Z (CL Z (AC.one 0 Z (iy jq (fun v2=>⟨_,Z,?_⟩)))); exact N 4 Z ⟨(bS (i1 + n1)),b3,v2,Z,Z,Z,hf⟩
  refine B1 hf fun b4 kg hf=>W 1 Z (CL Z (AC.one 0 Z (iy kg (fun v3=>⟨_,Z,?_⟩)))); exact N 3 Z ⟨(bS (i1 + 1)),b4,v3,Z,Z,Z,hf⟩
 cases hf; exact Wx 4 [1] rfl rfl ⟨rfl,_,⟨_,_,rfl,⟨_,_,1,_,_,rfl,rfl,acR,rfl⟩,_,_,rfl,rfl,_,_,rfl,rfl,rfl⟩,[],List.nil_sublist _,h⟩

theorem NR (fZ:Str) (jI:Int) {r0:aX} {r1:Int} {r2:Int} (hf:Dv fZ jI=some (r0,r1,r2)) (h:Q (.ret (.tuple [.agg (xM r0),iP r1,iP r2])) τ):PC 153 [.str fZ,iP jI] τ Q:=by
 unfold Dv at hf; refine BN 63 [.cell 4 107,.tmp 5,.tmp 6] [0,1] Tryz.func153 Z Z Z Z Z (W 0 Z (AS Z (AO.aH Z als (fun b4=>(U 2 Z (AS Z (AO.bq (List.map aeh ([2,1]:List Int)) Z arL Z Z Z Z (AS Z (AO.aL (l:=([2,1]:List Int)) Z Z Z Z apo Z Z ?_)))))))))
 refine J 1 Z (Gc (fun x1=>[(0,.str fZ),(1,iP jI),(4,pP b4),(10,.list (List.map aeh ([2,1]:List Int))),(11,iP (([2,1]:List Int).length:Int)),(12,iP x1)]) (fun x1=>[.box b4 [iP 0,.str ([]:Str),iP 0]]) (fun bW x1=>p8 fZ jI bW x1=some (r0,r1,r2)) BIG 0 Z Z hf (fun _ hz=>bQ hz) ?_); intro bW x1 hf; rw [p8] at hf; refine V 1 Z (C hf Z (fun h1 hf=>?_) fun h1 hf=>?_)
 ·
  refine B1 hf fun n1 h2 hf=>W 0 Z (AS Z (AO.aM h2 Z Z Z Z apo Z Z (U 6 Z (AS Z (AO.bJ Z Z Z Z cu Z (J 1 Z (C hf Z (fun h3 hf=>?_) fun h3 hf=>?_)))))))
  · exact M 2 Z ⟨(bS (x1 + 1)),Z,Z,Z,hf⟩
  refine B1 hf fun s1 h4 hf=>W 5 Z (AS Z (AO.nL h4 Z cu Z ⟨_,Z⟩ ⟨_,Z⟩ (J 4 Z (C hf Z (fun h5 hf=>?_) fun h5 hf=>?_))))
  ·
   refine V 0 Z (AW.cond Z (fun h6=>?_) (fun h6=>?_))
   · cases hf; exact Wx 9 [0] rfl rfl ⟨rfl,_,⟨_,_,rfl,⟨_,_,0,_,_,rfl,rfl,acR,rfl⟩,_,_,rfl,rfl,_,_,rfl,rfl,rfl⟩,[],List.nil_sublist _,h⟩
   cases h5.symm.trans h6
  refine V 2 Z (C hf Z (fun h7 hf=>?_) fun h7 hf=>?_)
  ·
   refine V 0 Z (AW.cond Z (fun h8=>?_) (fun h8=>?_))
   · cases hf; exact Wx 9 [0] rfl rfl ⟨rfl,_,⟨_,_,rfl,⟨_,_,0,_,_,rfl,rfl,acR,rfl⟩,_,_,rfl,rfl,_,_,rfl,rfl,rfl⟩,[],List.nil_sublist _,h⟩
   cases h7.symm.trans h8
  refine V 2 Z (C hf Z (fun h9 hf=>?_) fun h9 hf=>?_)
  ·
   refine V 0 Z (AW.cond Z (fun h10=>?_) (fun h10=>?_))
   · cases hf; exact Wx 9 [0] rfl rfl ⟨rfl,_,⟨_,_,rfl,⟨_,_,0,_,_,rfl,rfl,acR,rfl⟩,_,_,rfl,rfl,_,_,rfl,rfl,rfl⟩,[],List.nil_sublist _,h⟩
   cases h9.symm.trans h10
  refine V 2 Z (C hf Z (fun h11 hf=>?_) fun h11 hf=>?_)
  ·
   refine V 0 Z (AW.cond Z (fun h12=>?_) (fun h12=>?_))
   · cases hf; exact Wx 9 [0] rfl rfl ⟨rfl,_,⟨_,_,rfl,⟨_,_,0,_,_,rfl,rfl,acR,rfl⟩,_,_,rfl,rfl,_,_,rfl,rfl,rfl⟩,[],List.nil_sublist _,h⟩
   cases h11.symm.trans h12
  refine V 2 Z (C hf Z (fun jq hf=>?_) fun jq hf=>?_)
  ·
   refine V 0 Z (AW.cond Z (fun kg=>?_) (fun kg=>?_))
   · cases hf; exact Wx 9 [0] rfl rfl ⟨rfl,_,⟨_,_,rfl,⟨_,_,0,_,_,rfl,rfl,acR,rfl⟩,_,_,rfl,rfl,_,_,rfl,rfl,rfl⟩,[],List.nil_sublist _,h⟩
   cases jq.symm.trans kg
  refine V 2 Z (C hf Z (fun kC hf=>?_) fun kC hf=>?_)
  ·
   refine V 0 Z (AW.cond Z (fun h16=>?_) (fun h16=>?_))
   · cases hf; exact Wx 9 [0] rfl rfl ⟨rfl,_,⟨_,_,rfl,⟨_,_,0,_,_,rfl,rfl,acR,rfl⟩,_,_,rfl,rfl,_,_,rfl,rfl,rfl⟩,[],List.nil_sublist _,h⟩
   cases kC.symm.trans h16
  refine V 2 Z (C hf Z (fun mQ hf=>?_) fun mQ hf=>?_)
  ·
   refine V 0 Z (AW.cond Z (fun h18=>?_) (fun h18=>?_))
   · cases hf; exact Wx 9 [0] rfl rfl ⟨rfl,_,⟨_,_,rfl,⟨_,_,0,_,_,rfl,rfl,acR,rfl⟩,_,_,rfl,rfl,_,_,rfl,rfl,rfl⟩,[],List.nil_sublist _,h⟩
   cases mQ.symm.trans h18
  refine V 2 Z (C hf Z (fun h19 hf=>?_) fun h19 hf=>?_)
  ·
   refine V 0 Z (AW.cond Z (fun h20=>?_) (fun h20=>?_))
   · cases hf; exact Wx 9 [0] rfl rfl ⟨rfl,_,⟨_,_,rfl,⟨_,_,0,_,_,rfl,rfl,acR,rfl⟩,_,_,rfl,rfl,_,_,rfl,rfl,rfl⟩,[],List.nil_sublist _,h⟩
   cases h19.symm.trans h20
  refine V 2 Z (C hf Z (fun h21 hf=>?_) fun h21 hf=>?_)
  ·
   refine V 0 Z (AW.cond Z (fun h22=>?_) (fun h22=>?_))
   · cases hf; exact Wx 9 [0] rfl rfl ⟨rfl,_,⟨_,_,rfl,⟨_,_,0,_,_,rfl,rfl,acR,rfl⟩,_,_,rfl,rfl,_,_,rfl,rfl,rfl⟩,[],List.nil_sublist _,h⟩
   cases h21.symm.trans h22
  refine V 2 Z (C hf Z (fun h23 hf=>?_) fun h23 hf=>?_)
  ·
   refine V 0 Z (AW.cond Z (fun Ku=>?_) (fun Ku=>?_))
   · cases hf; exact Wx 9 [0] rfl rfl ⟨rfl,_,⟨_,_,rfl,⟨_,_,0,_,_,rfl,rfl,acR,rfl⟩,_,_,rfl,rfl,_,_,rfl,rfl,rfl⟩,[],List.nil_sublist _,h⟩
   cases h23.symm.trans Ku
  refine V 2 Z (C hf Z (fun Sw hf=>?_) fun Sw hf=>?_)
  ·
   refine V 0 Z (AW.cond Z (fun PI=>?_) (fun PI=>?_))
   · cases hf; exact Wx 9 [0] rfl rfl ⟨rfl,_,⟨_,_,rfl,⟨_,_,0,_,_,rfl,rfl,acR,rfl⟩,_,_,rfl,rfl,_,_,rfl,rfl,rfl⟩,[],List.nil_sublist _,h⟩
   cases Sw.symm.trans PI
  refine V 2 Z (C hf Z (fun h27 hf=>?_) fun h27 hf=>?_)
  ·
   refine V 0 Z (AW.cond Z (fun Xb=>?_) (fun Xb=>?_))
   · cases hf; exact Wx 9 [0] rfl rfl ⟨rfl,_,⟨_,_,rfl,⟨_,_,0,_,_,rfl,rfl,acR,rfl⟩,_,_,rfl,rfl,_,_,rfl,rfl,rfl⟩,[],List.nil_sublist _,h⟩
   cases h27.symm.trans Xb
  refine V 2 Z (C hf Z (fun Te hf=>?_) fun Te hf=>?_)
  ·
   refine V 0 Z (AW.cond Z (fun h30=>?_) (fun h30=>?_))
   · cases hf; exact Wx 9 [0] rfl rfl ⟨rfl,_,⟨_,_,rfl,⟨_,_,0,_,_,rfl,rfl,acR,rfl⟩,_,_,rfl,rfl,_,_,rfl,rfl,rfl⟩,[],List.nil_sublist _,h⟩
   cases Te.symm.trans h30
  refine V 2 Z (C hf Z (fun h31 hf=>?_) fun h31 hf=>?_)
  ·
   refine V 0 Z (AW.cond Z (fun h32=>?_) (fun h32=>?_))
   · cases hf; exact Wx 9 [0] rfl rfl ⟨rfl,_,⟨_,_,rfl,⟨_,_,0,_,_,rfl,rfl,acR,rfl⟩,_,_,rfl,rfl,_,_,rfl,rfl,rfl⟩,[],List.nil_sublist _,h⟩
   cases h31.symm.trans h32
  refine V 2 Z (C hf Z (fun O9 hf=>?_) fun O9 hf=>?_)
  ·
   refine V 0 Z (AW.cond Z (fun h34=>?_) (fun h34=>?_))
   · cases hf; exact Wx 9 [0] rfl rfl ⟨rfl,_,⟨_,_,rfl,⟨_,_,0,_,_,rfl,rfl,acR,rfl⟩,_,_,rfl,rfl,_,_,rfl,rfl,rfl⟩,[],List.nil_sublist _,h⟩
   cases O9.symm.trans h34
  refine V 2 Z (C hf Z (fun h35 hf=>?_) fun h35 hf=>?_)
  ·
   refine V 0 Z (AW.cond Z (fun h36=>?_) (fun h36=>?_))
   · cases hf; exact Wx 9 [0] rfl rfl ⟨rfl,_,⟨_,_,rfl,⟨_,_,0,_,_,rfl,rfl,acR,rfl⟩,_,_,rfl,rfl,_,_,rfl,rfl,rfl⟩,[],List.nil_sublist _,h⟩
   cases h35.symm.trans h36
  refine V 2 Z (C hf Z (fun h37 hf=>?_) fun h37 hf=>?_)
  ·
   refine V 0 Z (AW.cond Z (fun h38=>?_) (fun h38=>?_))
   · cases hf; exact Wx 9 [0] rfl rfl ⟨rfl,_,⟨_,_,rfl,⟨_,_,0,_,_,rfl,rfl,acR,rfl⟩,_,_,rfl,rfl,_,_,rfl,rfl,rfl⟩,[],List.nil_sublist _,h⟩
   cases h37.symm.trans h38
  refine V 2 Z (C hf Z (fun h39 hf=>?_) fun h39 hf=>?_)
  ·
   refine V 0 Z (AW.cond Z (fun h40=>?_) (fun h40=>?_))
   · cases hf; exact Wx 9 [0] rfl rfl ⟨rfl,_,⟨_,_,rfl,⟨_,_,0,_,_,rfl,rfl,acR,rfl⟩,_,_,rfl,rfl,_,_,rfl,rfl,rfl⟩,[],List.nil_sublist _,h⟩
   cases h39.symm.trans h40
  refine V 2 Z (C hf Z (fun h41 hf=>?_) fun h41 hf=>?_)
  ·
   refine V 0 Z (AW.cond Z (fun h42=>?_) (fun h42=>?_))
   · cases hf; exact Wx 9 [0] rfl rfl ⟨rfl,_,⟨_,_,rfl,⟨_,_,0,_,_,rfl,rfl,acR,rfl⟩,_,_,rfl,rfl,_,_,rfl,rfl,rfl⟩,[],List.nil_sublist _,h⟩
   cases h41.symm.trans h42
  refine V 2 Z (C hf Z (fun h43 hf=>?_) fun h43 hf=>?_)
  ·
   refine V 0 Z (AW.cond Z (fun h44=>?_) (fun h44=>?_))
   · cases hf; exact Wx 9 [0] rfl rfl ⟨rfl,_,⟨_,_,rfl,⟨_,_,0,_,_,rfl,rfl,acR,rfl⟩,_,_,rfl,rfl,_,_,rfl,rfl,rfl⟩,[],List.nil_sublist _,h⟩
   cases h43.symm.trans h44
  refine V 2 Z (C hf Z (fun h45 hf=>?_) fun h45 hf=>?_)
  ·
   refine V 0 Z (AW.cond Z (fun h46=>?_) (fun h46=>?_))
   · cases hf; exact Wx 9 [0] rfl rfl ⟨rfl,_,⟨_,_,rfl,⟨_,_,0,_,_,rfl,rfl,acR,rfl⟩,_,_,rfl,rfl,_,_,rfl,rfl,rfl⟩,[],List.nil_sublist _,h⟩
   cases h45.symm.trans h46
  refine V 2 Z (C hf Z (fun h47 hf=>?_) fun h47 hf=>?_)
  ·
   refine V 0 Z (AW.cond Z (fun h48=>?_) (fun h48=>?_))
   · cases hf; exact Wx 9 [0] rfl rfl ⟨rfl,_,⟨_,_,rfl,⟨_,_,0,_,_,rfl,rfl,acR,rfl⟩,_,_,rfl,rfl,_,_,rfl,rfl,rfl⟩,[],List.nil_sublist _,h⟩
   cases h47.symm.trans h48
  refine V 2 Z (C hf Z (fun h49 hf=>?_) fun h49 hf=>?_)
  ·
   refine V 0 Z (AW.cond Z (fun h50=>?_) (fun h50=>?_))
   · cases hf; exact Wx 9 [0] rfl rfl ⟨rfl,_,⟨_,_,rfl,⟨_,_,0,_,_,rfl,rfl,acR,rfl⟩,_,_,rfl,rfl,_,_,rfl,rfl,rfl⟩,[],List.nil_sublist _,h⟩
   cases h49.symm.trans h50
  refine V 2 Z (C hf Z (fun h51 hf=>?_) fun h51 hf=>?_)
  ·
   refine V 0 Z (AW.cond Z (fun h52=>?_) (fun h52=>?_))
   · cases hf; exact Wx 9 [0] rfl rfl ⟨rfl,_,⟨_,_,rfl,⟨_,_,0,_,_,rfl,rfl,acR,rfl⟩,_,_,rfl,rfl,_,_,rfl,rfl,rfl⟩,[],List.nil_sublist _,h⟩
   cases h51.symm.trans h52
  refine V 2 Z (C hf Z (fun h53 hf=>?_) fun h53 hf=>?_)
  · cases hf; exact Wx 9 [0] rfl rfl ⟨rfl,_,⟨_,_,rfl,⟨_,_,0,_,_,rfl,rfl,acR,rfl⟩,_,_,rfl,rfl,_,_,rfl,rfl,rfl⟩,[],List.nil_sublist _,h⟩
  exact M 2 Z ⟨(bS (x1 + 1)),Z,Z,Z,hf⟩
 cases hf; exact Wx 4 [0] rfl rfl ⟨rfl,_,⟨_,_,rfl,⟨_,_,0,_,_,rfl,rfl,acR,rfl⟩,_,_,rfl,rfl,_,_,rfl,rfl,rfl⟩,[],List.nil_sublist _,h⟩

theorem TJ (fZ:Str) (jI:Int) {r0:aX} {r1:Int} {r2:Int} (hf:Jb fZ jI=some (r0,r1,r2)) (h:Q (.ret (.tuple [.agg (xM r0),iP r1,iP r2])) τ):PC 113 [.str fZ,iP jI] τ Q:=by
 unfold Jb at hf; refine BN 44 [.cell 4 107,.tmp 5,.tmp 6] [0,1] Tryz.func113 Z Z Z Z Z (W 0 Z (AS Z (AO.aH Z als (fun b4=>?_)))); refine B1 hf fun c1 h1 hf=>U 4 Z (AS Z (AO.fD h1 Z cu Z Z ?_)); refine B1 hf fun x1 h2 hf=>U 2 Z (CL Z (D6 _ h2 (J 1 Z (C hf Z (fun h3 hf=>?_) fun h3 hf=>?_))))
 · replace hf:=(Ka _).trans hf; obtain ⟨x2,x3,x4,h4,hf⟩:=sN hf; refine W 2 Z (CL Z (WY _ _ h4 ?_)); cases hf; exact Rx 6 [0] rfl rfl ⟨rfl,_,⟨_,_,rfl,⟨_,_,0,_,_,rfl,rfl,acR,rfl⟩,_,_,rfl,rfl,_,_,rfl,rfl,rfl⟩,[],List.nil_sublist _,h⟩
 refine B1 hf fun x5 h5 hf=>W 1 Z (CL Z (Bd _ h5 (J 1 Z (C hf Z (fun h6 hf=>?_) fun h6 hf=>?_))))
 · replace hf:=(Ka _).trans hf; obtain ⟨x6,x7,x8,h7,hf⟩:=sN hf; refine W 2 Z (CL Z (R7 _ _ h7 ?_)); cases hf; exact Rx 6 [0] rfl rfl ⟨rfl,_,⟨_,_,rfl,⟨_,_,0,_,_,rfl,rfl,acR,rfl⟩,_,_,rfl,rfl,_,_,rfl,rfl,rfl⟩,[],List.nil_sublist _,h⟩
 refine V 3 Z (C hf Z (fun h8 hf=>?_) fun h8 hf=>?_)
 · replace hf:=(Ka _).trans hf; obtain ⟨x9,CO,KP,h9,hf⟩:=sN hf; refine W 2 Z (CL Z (WX _ _ h9 ?_)); cases hf; exact Rx 6 [0] rfl rfl ⟨rfl,_,⟨_,_,rfl,⟨_,_,0,_,_,rfl,rfl,acR,rfl⟩,_,_,rfl,rfl,_,_,rfl,rfl,rfl⟩,[],List.nil_sublist _,h⟩
 replace hf:=(Ka _).trans hf; obtain ⟨TU,Sv,Vo,h10,hf⟩:=sN hf; refine W 2 Z (CL Z (NR _ _ h10 ?_)); cases hf; exact Rx 6 [0] rfl rfl ⟨rfl,_,⟨_,_,rfl,⟨_,_,0,_,_,rfl,rfl,acR,rfl⟩,_,_,rfl,rfl,_,_,rfl,rfl,rfl⟩,[],List.nil_sublist _,h⟩

theorem NS (op1:Str) (pX:Int) {r0:Int} (hf:Dw op1 pX=some r0) (h:Q (.ret (iP r0)) τ):PC 114 [.str op1,iP pX] τ Q:=by
 unfold Dw at hf; refine BN 18 [.tmp 4] [0,1] Tryz.func114 Z Z Z Z Z (V 4 Z (C hf Z (fun h1 hf=>?_) fun h1 hf=>?_))
 ·
  refine V 0 Z (AW.cond Z (fun h2=>?_) (fun h2=>?_))
  · cases hf; exact M 3 Z (Y Z h)
  cases h1.symm.trans h2
 refine V 2 Z (C hf Z (fun h3 hf=>?_) fun h3 hf=>?_)
 · cases hf; exact M 3 Z (Y Z h)
 refine V 2 Z (C hf Z (fun h4 hf=>?_) fun h4 hf=>?_)
 ·
  refine V 0 Z (AW.cond Z (fun h5=>?_) (fun h5=>?_))
  · refine W 2 Z (AS Z (AO.max2 Z Z Z Z Z ?_)); cases hf; exact N 1 Z (Y Z h)
  cases h4.symm.trans h5
 refine V 2 Z (C hf Z (fun h6 hf=>?_) fun h6 hf=>?_)
 · refine W 2 Z (AS Z (AO.max2 Z Z Z Z Z ?_)); cases hf; exact N 1 Z (Y Z h)
 cases hf; exact M 2 Z (Y Z h)

theorem R9 (fZ:Str) {r0:List aX} {r1:Int} {r2:Int} (hf:GK fZ=some (r0,r1,r2)) (h:Q (.ret (.tuple [.list (List.map aX.cells r0),iP r1,iP r2])) τ):PC 72 [.str fZ] τ Q:=by
 unfold GK at hf; refine BN 84 [.tmp 2,.tmp 3,.tmp 4] [0] Tryz.func72 Z Z Z Z Z (W 0 Z (AS Z (AO.nR Z Z (U 3 Z (AS Z (AO.bJ Z Z Z Z cu Z (J 1 Z (C hf Z (fun h1 hf=>?_) fun h1 hf=>?_))))))))
 · refine W 0 Z (AS Z (AO.nR Z Z ?_)); cases hf; exact N 2 rfl ⟨rfl,_,⟨_,_,rfl,rfl,_,_,rfl,rfl,_,_,rfl,rfl,rfl⟩,[],List.nil_sublist _,h⟩
 refine W 5 Z (AS Z (AO.ab5 Z cu Z (fun ajN=>(J 0 Z (AW.row 3 107 (LK5 (fun aT v1 BH pX pos1=>[(0,.str fZ),(5,.own v1 (List.map aX.cells aT)),(6,.fn 110 []),(7,iP BH),(8,iP pX),(18,pP ajN)]) (fun aT v1 BH pX pos1=>[.row v1 (List.map aX.cells aT).length 3 107,.obj ajN (.stringIter ⟨List.toArray fZ⟩ pos1)]) (fun bW aT v1 BH pX pos1=>kR fZ bW aT BH pX pos1=some (r0,r1,r2)) BIG [] (.slice none 0 0) 0 0 0 Z Z hf (fun _ _ _ _ _ hz=>bQ hz) ?_))))))
 intro bW aT v1 BH pX pos1 hf; rw [kR] at hf; rcases Bool.eq_false_or_eq_true (decide (pos1 < fZ.length)) with h2 | h2
 ·
  replace hf:=eD h2 hf; refine W 0 Z (AS Z (AO.ad6 (i:=1) Z Z Z h2 (J 1 Z (AW.cond Z (fun h3=>?_) (fun h3=>?_)))))
  ·
   refine B1 hf fun b1 h5 hf=>W 8 Z (AR.eX 4 26 30 false [0,5,6,7,8,9,10,18] b1 Z Z (fun h4=>?_) (fun h4=>?_) ?_)
   · replace h5:=eF h4 h5; refine Is 26 h4 Z ?_; replace h5:=(aJ _).trans h5; obtain ⟨x1,h6,h5⟩:=aN h5; refine U 2 Z (GO Z (AO.call Z _ Z Z atU (NU _ h6 ?_))); obtain rfl:=Option.some.inj h5; exact eU 1 Z (En [30,0,5,6,7,8,9,10,18] Z)
   · replace h5:=eD h4 h5; refine Is 26 h4 Z ?_; obtain rfl:=Option.some.inj h5; exact eU 4 Z (En [30,0,5,6,7,8,9,10,18] Z)
   refine J 0 Z (C hf Z (fun h7 hf=>?_) fun h7 hf=>?_)
   · exact M 0 Z ⟨aT,v1,BH,pX,(pos1 + (dec fZ pos1).2),Z,Z,Z,hf⟩
   refine V 2 Z (C hf Z (fun h8 hf=>?_) fun h8 hf=>?_)
   · refine B1 hf fun QH h9 hf=>W 2 Z (CL Z (Fv _ _ yZ 112 [] atT (fun _ _ hz=>NT _  hz) h9 ?_)); exact N 1 Z ⟨aT,v1,QH,pX,(pos1 + (dec fZ pos1).2),Z,Z,Z,hf⟩
   refine V 2 Z (C hf Z (fun h10 hf=>?_) fun h10 hf=>?_)
   ·
    refine B1 hf fun b2 h12 hf=>W 3 Z (AR.eX 14 40 54 true [0,5,6,7,8,9,18] b2 Z Z (fun h11=>?_) (fun h11=>?_) ?_)
    ·
     replace h12:=eD h11 h12; refine Is 40 h11 Z (U 1 Z (GO Z (AO.aL (l:=aT) Z Z Z Z alO Z Z ?_))); replace h12:=(aJ _).trans h12; obtain ⟨b3,kg,h12⟩:=aN h12; refine U 2 Z (AR.eX 9 44 53 false [0,5,6,7,8,9,18,40] b3 Z Z (fun jq=>?_) (fun jq=>?_) ?_)
     · replace kg:=eF jq kg; refine Is 44 jq Z (U 2 Z (GO Z (AO.aL (l:=aT) Z Z Z Z alO Z Z ?_))); obtain ⟨e1,kC,kg⟩:=aN kg; refine U 1 Z (GO Z (AO.aM kC Z Z Z Z alO (aX.aG _) Z ?_)); obtain rfl:=Option.some.inj kg; exact eU 4 Z (En [53,0,5,6,7,8,9,18,40] Z)
     · replace kg:=eD jq kg; refine Is 44 jq Z ?_; obtain rfl:=Option.some.inj kg; exact eU 9 Z (En [53,0,5,6,7,8,9,18,40] Z)
     obtain rfl:=Option.some.inj h12; exact eU 1 Z (En [54,0,5,6,7,8,9,18] Z)
    · replace h12:=eF h11 h12; refine Is 40 h11 Z ?_; obtain rfl:=Option.some.inj h12; exact eU 14 Z (En [54,0,5,6,7,8,9,18] Z)
    refine J 0 Z (C hf Z (fun h16 hf=>?_) fun h16 hf=>?_)
    · refine W 3 rfl (AS rfl (AO.bq (List.map aX.cells [(aX.mk 5 ([]:Str) (pos1:Int))]) rfl anS rfl rfl rfl (by first | rfl | simp only [List.map,aX.aG]) ?_)); refine B1 hf fun Cq mQ hf=>AS Z (AO.eP (i:=0) (l:=aT) (m:=[(aX.mk 5 ([]:Str) (pos1:Int))]) mQ Z Z Z Z Z Z Z anS alO Z Z Z (aX.dV) (aX.cells_one) (by decide) (fun v2 s1 hs1=>?_)); cases hs1; exact N 1 Z ⟨Cq,v2,BH,pX,(pos1 + (dec fZ pos1).2),Z,Z,Z,hf⟩
    exact M 0 Z ⟨aT,v1,BH,pX,(pos1 + (dec fZ pos1).2),Z,Z,Z,hf⟩
   obtain ⟨x2,Ak,e2,h18,hf⟩:=sN hf; refine W 2 Z (CL Z (TJ _ _ h18 (U 4 Z (AS Z (AO.aH Z als (fun b11=>(Rw 5 [0] Z Z (C hf Z (fun h19 hf=>?_) fun h19 hf=>?_))))))))
   · refine W 2 Z (AS Z (AO.nR Z Z ?_)); cases hf; exact N 2 rfl ⟨rfl,_,⟨_,_,rfl,rfl,_,_,rfl,rfl,_,_,rfl,rfl,rfl⟩,[],List.nil_sublist _,h⟩
   refine Ww 3 [0] Z Z (C hf Z (fun h20 hf=>?_) fun h20 hf=>?_)
   · refine B1 hf fun adZ h21 hf=>Wr 3 [0] rfl rfl (CL rfl (NS _ _ h21 (Rr 3 [0] rfl rfl (AS rfl (AO.bq (List.map aX.cells [x2]) rfl anS rfl rfl rfl (by first | rfl | simp only [List.map,aX.aG]) ?_))))); refine B1 hf fun ah6 h22 hf=>AS Z (AO.eP (i:=1) (l:=aT) (m:=[x2]) h22 Z Z Z Z Z Z Z anS alO Z Z Z (aX.dV) (aX.cells_one) (by decide) (fun v3 s2 hs2=>?_)); cases hs2; refine eU 3 Z (AR.drop1 ?_); exact N 0 Z ⟨ah6,v3,Ak,adZ,(pos1 + (dec fZ pos1).2),Z,Z,Z,hf⟩
   refine Wr 2 [0] rfl rfl (AS rfl (AO.bq (List.map aX.cells [x2]) rfl anS rfl rfl rfl (by first | rfl | simp only [List.map,aX.aG]) ?_)); refine B1 hf fun ah5 h23 hf=>AS Z (AO.eP (i:=1) (l:=aT) (m:=[x2]) h23 Z Z Z Z Z Z Z anS alO Z Z Z (aX.dV) (aX.cells_one) (by decide) (fun v4 s3 hs3=>?_)); cases hs3; refine eU 3 Z (AR.drop1 ?_); exact N 0 Z ⟨ah5,v4,Ak,pX,(pos1 + (dec fZ pos1).2),Z,Z,Z,hf⟩
  cases h3
 replace hf:=eF h2 hf; refine W 0 Z (AS Z (AO.aci (i:=1) Z Z Z h2 (J 1 Z (AW.cond Z (fun Ku=>?_) (fun Ku=>?_)))))
 · cases Ku
 cases hf; exact M 4 rfl ⟨rfl,_,⟨_,_,rfl,rfl,_,_,rfl,rfl,_,_,rfl,rfl,rfl⟩,[],List.nil_sublist _,h⟩

theorem H6 (c1:UInt8) {r0:Bool} (hf:wD c1=some r0) (h:Q (.ret (.bool r0)) τ):PC 239 [.int .u8 (c1.toNat:Int)] τ Q:=by
 unfold wD at hf; refine BN 21 [.tmp 2] [0] Tryz.func239 Z Z Z Z Z (W 4 Z (An 3 5 8 [0] (decide ((c1.toNat:Int)≤122)) Z Z Z Z (U 1 Z (AR.or 7 9 16 [0] (x:=((decide (65≤(c1.toNat:Int))) && (decide ((c1.toNat:Int)≤90)))) Z Z (fun h2=>?_) (fun h2=>?_) ?_))))
 · refine Is 9 h2 Z (U 3 Z (An 3 12 15 [0,9] (decide ((c1.toNat:Int)≤90)) Z Z Z Z ?_)); exact eU 1 Z (En [16,0] Z)
 · refine Is 9 h2 Z ?_; exact eU 7 Z (En [16,0] Z)
 refine U 1 Z (On 3 17 20 [] ((c1.toNat:Int) == 95) Z Z Z Z ?_); cases hf; exact N 1 Z (Y Z h)

theorem JA (c1:UInt8) {r0:Bool} (hf:yN c1=some r0) (h:Q (.ret (.bool r0)) τ):PC 240 [.int .u8 (c1.toNat:Int)] τ Q:=by
 unfold yN at hf; refine BN 9 [.tmp 2] [0] Tryz.func240 Z Z Z Z Z (W 4 Z (An 3 5 8 [] (decide ((c1.toNat:Int)≤57)) Z Z Z Z ?_)); cases hf; exact N 1 Z (Y Z h)

theorem KD (s1:Str) {r0:Bool} (hf:xK s1=some r0) (h:Q (.ret (.bool r0)) τ):PC 201 [.str s1] τ Q:=by
 unfold xK at hf; refine BN 36 [.tmp 2] [0] Tryz.func201 Z Z Z Z Z (W 2 Z (AS Z (AO.bJ Z Z Z Z cu Z (U 2 Z (AR.or 4 7 11 [0] (x:=(decide (64 < (s1.length:Int)))) Z Z (fun h1=>?_) (fun h1=>?_) ?_)))))
 · refine Is 7 h1 Z (U 1 Z (GO Z (AO.bJ Z Z Z Z cu Z ?_))); exact eU 2 Z (En [11,0] Z)
 · refine Is 7 h1 Z ?_; exact eU 4 Z (En [11,0] Z)
 refine B1 hf fun b1 h3 hf=>U 1 Z (AR.eX 5 12 17 false [0] b1 Z Z (fun h2=>?_) (fun h2=>?_) ?_)
 · replace h3:=eF h2 h3; refine Is 12 h2 Z ?_; obtain ⟨x1,h4,h3⟩:=aN h3; refine U 1 Z (GO Z (AO.fD h4 Z cu Z Z ?_)); obtain ⟨x2,h5,h3⟩:=aN h3; refine GO Z (AO.call Z _ Z Z ahy (H6 _ h5 ?_)); obtain rfl:=Option.some.inj h3; exact eU 2 Z (En [17,0] Z)
 · replace h3:=eD h2 h3; refine Is 12 h2 Z ?_; obtain rfl:=Option.some.inj h3; exact eU 5 Z (En [17,0] Z)
 refine J 0 Z (C hf Z (fun h6 hf=>?_) fun h6 hf=>?_)
 · cases hf; exact M 1 Z (Y Z h)
 refine V 1 Z (Gc (fun i1=>[(0,.str s1),(3,iP i1)]) (fun i1=>[]) (fun bW i1=>qN s1 bW i1=some r0) BIG 0 Z Z hf (fun _ hz=>bQ hz) ?_); intro bW i1 hf; rw [qN] at hf; refine W 2 Z (AS Z (AO.bJ Z Z Z Z cu Z (J 1 Z (C hf Z (fun h7 hf=>?_) fun h7 hf=>?_))))
 ·
  refine B1 hf fun x3 h8 hf=>W 2 Z (AS Z (AO.fD h8 Z cu Z Z ?_)); refine B1 hf fun x4 h9 hf=>CL Z (H6 _ h9 ?_); refine B1 hf fun b2 h11 hf=>U 2 Z (AR.eX 6 29 35 true [0,3] b2 Z Z (fun h10=>?_) (fun h10=>?_) ?_)
  · replace h11:=eD h10 h11; refine Is 29 h10 Z ?_; obtain ⟨x5,h12,h11⟩:=aN h11; refine U 2 Z (GO Z (AO.fD h12 Z cu Z Z ?_)); obtain ⟨x6,jq,h11⟩:=aN h11; refine GO Z (AO.call Z _ Z Z adL (JA _ jq ?_)); obtain rfl:=Option.some.inj h11; exact eU 2 Z (En [35,0,3] Z)
  · replace h11:=eF h10 h11; refine Is 29 h10 Z ?_; obtain rfl:=Option.some.inj h11; exact eU 6 Z (En [35,0,3] Z)
  refine J 0 Z (C hf Z (fun kg hf=>?_) fun kg hf=>?_)
  · cases hf; exact M 1 Z (Y Z h)
  exact M 3 Z ⟨(bS (i1 + 1)),Z,Z,Z,hf⟩
 cases hf; exact M 1 Z (Y Z h)

section
variable [Ay]
def aco :Go.Shelf.Ren:=⟨fun | 171=>207 | 243=>245 | 246=>277 | 283=>295 | 284=>296 | 285=>297 | 286=>298 | 129=>263 | 317=>313 | 318=>314 | 319=>315 | 320=>316 | 337=>321 | 338=>322 | n=>n,fun | 3=>3 | 9=>9 | 2=>2 | 4=>4 | 171=>265 | 0=>0 | 53=>201 | 37=>53 | 5=>5 | 173=>267 | 212=>282 | 51=>231 | 20=>20 | 213=>283 | 46=>211 | 232=>290 | 233=>291 | n=>n,fun | 17=>3 | 18=>6 | 19=>7 | n=>n⟩
theorem ajM :Go.Proofs.LaysM.n171 Tryz.prog aco:={
 mixed:=by kernel_rfl
 f129:=Tryz.func263.trans (congrArg some (by kernel_rfl))
 f171:=Tryz.func207.trans (congrArg some (by kernel_rfl))
 f243:=Tryz.func245.trans (congrArg some (by kernel_rfl))
 f246:=Tryz.func277.trans (congrArg some (by kernel_rfl))
 f283:=Tryz.func295.trans (congrArg some (by kernel_rfl))
 f284:=Tryz.func296.trans (congrArg some (by kernel_rfl))
 f285:=Tryz.func297.trans (congrArg some (by kernel_rfl))
 f286:=Tryz.func298.trans (congrArg some (by kernel_rfl))
 f317:=Tryz.func313.trans (congrArg some (by kernel_rfl))
 f318:=Tryz.func314.trans (congrArg some (by kernel_rfl))
 f319:=Tryz.func315.trans (congrArg some (by kernel_rfl))
 f320:=Tryz.func316.trans (congrArg some (by kernel_rfl))
 f337:=Tryz.func321.trans (congrArg some (by kernel_rfl))
 f338:=Tryz.func322.trans (congrArg some (by kernel_rfl))
 t0:=Tryz.underlying0
 a0:=Tryz.isAgg0
 z0:=Tryz.sizeOf0
 v0:=Tryz.zeroValue0
 t2:=Tryz.underlying2
 a2:=Tryz.isAgg2
 z2:=Tryz.sizeOf2
 v2:=Tryz.zeroValue2
 t3:=Tryz.underlying3
 a3:=Tryz.isAgg3
 z3:=Tryz.sizeOf3
 v3:=Tryz.zeroValue3
 t4:=Tryz.underlying4
 a4:=Tryz.isAgg4
 z4:=Tryz.sizeOf4
 v4:=Tryz.zeroValue4
 t5:=Tryz.underlying5
 a5:=Tryz.isAgg5
 z5:=Tryz.sizeOf5
 v5:=Tryz.zeroValue5
 t9:=Tryz.underlying9
 a9:=Tryz.isAgg9
 z9:=Tryz.sizeOf9
 v9:=Tryz.zeroValue9
 t20:=Tryz.underlying20
 a20:=Tryz.isAgg20
 z20:=Tryz.sizeOf20
 v20:=Tryz.zeroValue20
 t37:=Tryz.underlying53
 a37:=Tryz.isAgg53
 z37:=Tryz.sizeOf53
 v37:=Tryz.zeroValue53
 t46:=Tryz.underlying211
 a46:=Tryz.isAgg211
 z46:=Tryz.sizeOf211
 v46:=Tryz.zeroValue211
 t51:=Tryz.underlying231
 a51:=Tryz.isAgg231
 z51:=Tryz.sizeOf231
 v51:=Tryz.zeroValue231
 t53:=Tryz.underlying201
 a53:=Tryz.isAgg201
 z53:=Tryz.sizeOf201
 v53:=Tryz.zeroValue201
 t171:=Tryz.underlying265
 a171:=Tryz.isAgg265
 z171:=Tryz.sizeOf265
 v171:=Tryz.zeroValue265
 t173:=Tryz.underlying267
 a173:=Tryz.isAgg267
 z173:=Tryz.sizeOf267
 v173:=Tryz.zeroValue267
 t212:=Tryz.underlying282
 a212:=Tryz.isAgg282
 z212:=Tryz.sizeOf282
 v212:=Tryz.zeroValue282
 t213:=Tryz.underlying283
 a213:=Tryz.isAgg283
 z213:=Tryz.sizeOf283
 t232:=Tryz.underlying290
 a232:=Tryz.isAgg290
 z232:=Tryz.sizeOf290
 v232:=Tryz.zeroValue290
 t233:=Tryz.underlying291
 a233:=Tryz.isAgg291
 z233:=Tryz.sizeOf291
 v233:=Tryz.zeroValue291
 g17:=by kernel_rfl
 g18:=by kernel_rfl
 g19:=by kernel_rfl
 i0:=by kernel_rfl
 i2:=by kernel_rfl
 i3:=by kernel_rfl
 i4:=by kernel_rfl
 i5:=by kernel_rfl
 i9:=by kernel_rfl
 i20:=by kernel_rfl
 i37:=by kernel_rfl
 i46:=by kernel_rfl
 i51:=by kernel_rfl
 i53:=by kernel_rfl
 i171:=by kernel_rfl
 i173:=by kernel_rfl
 i212:=by kernel_rfl
 i232:=by kernel_rfl
 i233:=by kernel_rfl
 m17:=by kernel_rfl
 m18:=by kernel_rfl
 m19:=by kernel_rfl}


theorem Jt (n1:Int) {r0:Str} (hf:strconv_Itoa n1=some r0) (h:Q (.ret (.str r0)) τ):PC 207 [iP n1] τ Q:=by
 unfold strconv_Itoa at hf
 split at hf
 case isFalse=>cases hf
 rename_i hg
 cases hf
 refine AC.none ?_
 exact AC.itoa Ay.hD ajM hg.1 hg.2 Ay.pow h
end

section
variable [Ay]
def acP :Go.Shelf.Ren:=⟨fun | 172=>206 | 244=>243 | 245=>244 | 247=>272 | 279=>273 | 280=>274 | 281=>275 | 282=>276 | 287=>292 | 316=>293 | 171=>207 | 205=>294 | 321=>311 | 322=>312 | 243=>245 | 246=>277 | 283=>295 | 284=>296 | 285=>297 | 286=>298 | 129=>263 | 317=>313 | 318=>314 | 319=>315 | 320=>316 | 337=>321 | 338=>322 | n=>n,fun | 9=>9 | 3=>3 | 75=>186 | 76=>194 | 4=>4 | 5=>5 | 167=>243 | 37=>53 | 0=>0 | 85=>244 | 2=>2 | 168=>246 | 53=>201 | 175=>260 | 46=>211 | 210=>263 | 127=>214 | 145=>281 | 143=>279 | 21=>21 | 171=>265 | 173=>267 | 212=>282 | 51=>231 | 20=>20 | 213=>283 | 232=>290 | 233=>291 | 80=>181 | n=>n,fun | 15=>0 | 16=>1 | 17=>3 | 18=>6 | 19=>7 | n=>n⟩
theorem akb :Go.Proofs.LaysC.n172 Tryz.prog acP:={
 mixed:=by kernel_rfl
 f129:=Tryz.func263.trans (congrArg some (by kernel_rfl))
 f171:=Tryz.func207.trans (congrArg some (by kernel_rfl))
 f172:=Tryz.func206.trans (congrArg some (by kernel_rfl))
 f205:=Tryz.func294.trans (congrArg some (by kernel_rfl))
 f243:=Tryz.func245.trans (congrArg some (by kernel_rfl))
 f244:=Tryz.func243.trans (congrArg some (by kernel_rfl))
 f245:=Tryz.func244.trans (congrArg some (by kernel_rfl))
 f246:=Tryz.func277.trans (congrArg some (by kernel_rfl))
 f247:=Tryz.func272.trans (congrArg some (by kernel_rfl))
 f279:=Tryz.func273.trans (congrArg some (by kernel_rfl))
 f280:=Tryz.func274.trans (congrArg some (by kernel_rfl))
 f281:=Tryz.func275.trans (congrArg some (by kernel_rfl))
 f282:=Tryz.func276.trans (congrArg some (by kernel_rfl))
 f283:=Tryz.func295.trans (congrArg some (by kernel_rfl))
 f284:=Tryz.func296.trans (congrArg some (by kernel_rfl))
 f285:=Tryz.func297.trans (congrArg some (by kernel_rfl))
 f286:=Tryz.func298.trans (congrArg some (by kernel_rfl))
 f287:=Tryz.func292.trans (congrArg some (by kernel_rfl))
 f316:=Tryz.func293.trans (congrArg some (by kernel_rfl))
 f317:=Tryz.func313.trans (congrArg some (by kernel_rfl))
 f318:=Tryz.func314.trans (congrArg some (by kernel_rfl))
 f319:=Tryz.func315.trans (congrArg some (by kernel_rfl))
 f320:=Tryz.func316.trans (congrArg some (by kernel_rfl))
 f321:=Tryz.func311.trans (congrArg some (by kernel_rfl))
 f322:=Tryz.func312.trans (congrArg some (by kernel_rfl))
 f337:=Tryz.func321.trans (congrArg some (by kernel_rfl))
 f338:=Tryz.func322.trans (congrArg some (by kernel_rfl))
 t0:=Tryz.underlying0
 a0:=Tryz.isAgg0
 z0:=Tryz.sizeOf0
 v0:=Tryz.zeroValue0
 t2:=Tryz.underlying2
 a2:=Tryz.isAgg2
 z2:=Tryz.sizeOf2
 v2:=Tryz.zeroValue2
 t3:=Tryz.underlying3
 a3:=Tryz.isAgg3
 z3:=Tryz.sizeOf3
 v3:=Tryz.zeroValue3
 t4:=Tryz.underlying4
 a4:=Tryz.isAgg4
 z4:=Tryz.sizeOf4
 v4:=Tryz.zeroValue4
 t5:=Tryz.underlying5
 a5:=Tryz.isAgg5
 z5:=Tryz.sizeOf5
 v5:=Tryz.zeroValue5
 t9:=Tryz.underlying9
 a9:=Tryz.isAgg9
 z9:=Tryz.sizeOf9
 v9:=Tryz.zeroValue9
 t20:=Tryz.underlying20
 a20:=Tryz.isAgg20
 z20:=Tryz.sizeOf20
 v20:=Tryz.zeroValue20
 t21:=Tryz.underlying21
 a21:=Tryz.isAgg21
 z21:=Tryz.sizeOf21
 v21:=Tryz.zeroValue21
 t37:=Tryz.underlying53
 a37:=Tryz.isAgg53
 z37:=Tryz.sizeOf53
 v37:=Tryz.zeroValue53
 t46:=Tryz.underlying211
 a46:=Tryz.isAgg211
 z46:=Tryz.sizeOf211
 v46:=Tryz.zeroValue211
 t51:=Tryz.underlying231
 a51:=Tryz.isAgg231
 z51:=Tryz.sizeOf231
 v51:=Tryz.zeroValue231
 t53:=Tryz.underlying201
 a53:=Tryz.isAgg201
 z53:=Tryz.sizeOf201
 v53:=Tryz.zeroValue201
 t75:=Tryz.underlying186
 a75:=Tryz.isAgg186
 z75:=Tryz.sizeOf186
 v75:=Tryz.zeroValue186
 t76:=Tryz.underlying194
 a76:=Tryz.isAgg194
 z76:=Tryz.sizeOf194
 v76:=Tryz.zeroValue194
 t85:=Tryz.underlying244
 a85:=Tryz.isAgg244
 z85:=Tryz.sizeOf244
 v85:=Tryz.zeroValue244
 t127:=Tryz.underlying214
 a127:=Tryz.isAgg214
 z127:=Tryz.sizeOf214
 v127:=Tryz.zeroValue214
 t143:=Tryz.underlying279
 a143:=Tryz.isAgg279
 z143:=Tryz.sizeOf279
 v143:=Tryz.zeroValue279
 t145:=Tryz.underlying281
 a145:=Tryz.isAgg281
 z145:=Tryz.sizeOf281
 v145:=Tryz.zeroValue281
 t167:=Tryz.underlying243
 a167:=Tryz.isAgg243
 z167:=Tryz.sizeOf243
 v167:=Tryz.zeroValue243
 t168:=Tryz.underlying246
 a168:=Tryz.isAgg246
 z168:=Tryz.sizeOf246
 v168:=Tryz.zeroValue246
 t171:=Tryz.underlying265
 a171:=Tryz.isAgg265
 z171:=Tryz.sizeOf265
 v171:=Tryz.zeroValue265
 t173:=Tryz.underlying267
 a173:=Tryz.isAgg267
 z173:=Tryz.sizeOf267
 v173:=Tryz.zeroValue267
 t175:=Tryz.underlying260
 a175:=Tryz.isAgg260
 z175:=Tryz.sizeOf260
 v175:=Tryz.zeroValue260
 t210:=Tryz.underlying263
 a210:=Tryz.isAgg263
 z210:=Tryz.sizeOf263
 v210:=Tryz.zeroValue263
 t212:=Tryz.underlying282
 a212:=Tryz.isAgg282
 z212:=Tryz.sizeOf282
 v212:=Tryz.zeroValue282
 t213:=Tryz.underlying283
 a213:=Tryz.isAgg283
 z213:=Tryz.sizeOf283
 t232:=Tryz.underlying290
 a232:=Tryz.isAgg290
 z232:=Tryz.sizeOf290
 v232:=Tryz.zeroValue290
 t233:=Tryz.underlying291
 a233:=Tryz.isAgg291
 z233:=Tryz.sizeOf291
 v233:=Tryz.zeroValue291
 g15:=by kernel_rfl
 g16:=by kernel_rfl
 g17:=by kernel_rfl
 g18:=by kernel_rfl
 g19:=by kernel_rfl
 t80:=Tryz.underlying181
 a80:=Tryz.isAgg181
 z80:=Tryz.sizeOf181
 v80:=Tryz.zeroValue181
 i0:=by kernel_rfl
 i2:=by kernel_rfl
 i3:=by kernel_rfl
 i4:=by kernel_rfl
 i5:=by kernel_rfl
 i9:=by kernel_rfl
 i20:=by kernel_rfl
 i21:=by kernel_rfl
 i37:=by kernel_rfl
 i46:=by kernel_rfl
 i51:=by kernel_rfl
 i53:=by kernel_rfl
 i75:=by kernel_rfl
 i76:=by kernel_rfl
 i80:=by kernel_rfl
 i85:=by kernel_rfl
 i127:=by kernel_rfl
 i143:=by kernel_rfl
 i145:=by kernel_rfl
 i167:=by kernel_rfl
 i168:=by kernel_rfl
 i171:=by kernel_rfl
 i173:=by kernel_rfl
 i175:=by kernel_rfl
 i210:=by kernel_rfl
 i212:=by kernel_rfl
 i232:=by kernel_rfl
 i233:=by kernel_rfl
 m15:=by kernel_rfl
 m16:=by kernel_rfl
 m17:=by kernel_rfl
 m18:=by kernel_rfl
 m19:=by kernel_rfl
 c0:=by kernel_rfl
 c2:=by kernel_rfl
 c3:=by kernel_rfl
 c4:=by kernel_rfl
 c5:=by kernel_rfl
 c9:=by kernel_rfl
 c20:=by kernel_rfl
 c21:=by kernel_rfl
 c37:=by kernel_rfl
 c46:=by kernel_rfl
 c51:=by kernel_rfl
 c53:=by kernel_rfl
 c75:=by kernel_rfl
 c76:=by kernel_rfl
 c80:=by kernel_rfl
 c85:=by kernel_rfl
 c127:=by kernel_rfl
 c143:=by kernel_rfl
 c145:=by kernel_rfl
 c167:=by kernel_rfl
 c168:=by kernel_rfl
 c171:=by kernel_rfl
 c173:=by kernel_rfl
 c175:=by kernel_rfl
 c210:=by kernel_rfl
 c212:=by kernel_rfl
 c213:=by kernel_rfl
 c232:=by kernel_rfl
 c233:=by kernel_rfl}


theorem DY (s1:Str) {r0:Int} {r1:Option Nat} (hf:strconv_Atoi s1=some (r0,r1)) (h:Q (.ret (.tuple [iP r0,.err r1])) τ):PC 206 [.str s1] τ Q:=by
 unfold strconv_Atoi at hf
 split at hf
 case isFalse=>cases hf
 rename_i hg
 cases hf
 refine AC.none ?_
 exact AC.atoi Ay.hD akb hg Z Ay.syn Ay.rng h
end

section
variable [Ay]
theorem NQ (s1:Str) {r0:Bool} (hf:Dt s1=some r0) (h:Q (.ret (.bool r0)) τ):PC 291 [.str s1] τ Q:=by
 unfold Dt at hf; refine BN 40 [.tmp 2] [0] Tryz.func291 Z Z Z Z Z ?_; refine B1 hf fun b1 h2 hf=>W 4 Z (AR.eX 9 8 17 false [0] b1 Z Z (fun h1=>?_) (fun h1=>?_) ?_)
 ·
  replace h2:=eF h1 h2; refine Is 8 h1 Z (U 1 Z (GO Z (AO.bJ Z Z Z Z cu Z ?_))); replace h2:=(aJ _).trans h2; obtain ⟨b2,h4,h2⟩:=aN h2; refine U 2 Z (AR.eX 4 12 16 true [0,8] b2 Z Z (fun h3=>?_) (fun h3=>?_) ?_)
  · replace h4:=eD h3 h4; refine Is 12 h3 Z ?_; obtain ⟨x1,h5,h4⟩:=aN h4; refine U 1 Z (GO Z (AO.fD h5 Z cu Z Z ?_)); obtain rfl:=Option.some.inj h4; exact eU 2 Z (En [16,0,8] Z)
  · replace h4:=eF h3 h4; refine Is 12 h3 Z ?_; obtain rfl:=Option.some.inj h4; exact eU 4 Z (En [16,0,8] Z)
  obtain rfl:=Option.some.inj h2; exact eU 1 Z (En [17,0] Z)
 · replace h2:=eD h1 h2; refine Is 8 h1 Z ?_; obtain rfl:=Option.some.inj h2; exact eU 9 Z (En [17,0] Z)
 refine J 0 Z (C hf Z (fun h6 hf=>?_) fun h6 hf=>?_)
 · cases hf; exact M 1 Z (Y Z h)
 refine V 1 Z (Gc (fun i1=>[(0,.str s1),(3,iP i1)]) (fun i1=>[]) (fun bW i1=>tu s1 bW i1=some r0) BIG 0 Z Z hf (fun _ hz=>bQ hz) ?_); intro bW i1 hf; rw [tu] at hf; refine W 2 Z (AS Z (AO.bJ Z Z Z Z cu Z (J 1 Z (C hf Z (fun h7 hf=>?_) fun h7 hf=>?_))))
 ·
  refine B1 hf fun x2 h8 hf=>W 2 Z (AS Z (AO.fD h8 Z cu Z Z ?_)); refine B1 hf fun x3 h9 hf=>CL Z (JA _ h9 (J 1 Z (C hf Z (fun h10 hf=>?_) fun h10 hf=>?_)))
  · cases hf; exact M 1 Z (Y Z h)
  exact M 3 Z ⟨(bS (i1 + 1)),Z,Z,Z,hf⟩
 obtain ⟨n1,aeu,h11,hf⟩:=aY hf; refine W 1 Z (CL Z (DY _ h11 (U 6 Z (AS Z (AO.eqNil Z ar1 Z Z (U 1 Z (An 3 36 39 [] (decide (n1≤9007199254740992)) Z Z Z Z ?_))))))); cases hf; exact N 1 Z (Y Z h)
end

section
variable [Ay]
theorem TB (t1:aX) {r0:Bool} (hf:I4 t1=some r0) (h:Q (.ret (.bool r0)) τ):PC 270 [.agg (xM t1)] τ Q:=by
 unfold I4 at hf; refine BN 23 [.tmp 2] [0] Tryz.func270 Z Z Z Z Z (V 6 Z (C hf Z (fun h1 hf=>?_) fun h1 hf=>?_))
 · replace hf:=(aJ _).trans hf; refine B1 hf fun x1 h2 hf=>W 2 Z (CL Z (KD _ h2 ?_)); cases hf; exact N 1 Z (Y Z h)
 refine V 2 Z (C hf Z (fun h3 hf=>?_) fun h3 hf=>?_)
 · replace hf:=(aJ _).trans hf; refine B1 hf fun x2 h4 hf=>W 2 Z (CL Z (NQ _ h4 ?_)); cases hf; exact N 1 Z (Y Z h)
 refine V 2 Z (C hf Z (fun h5 hf=>?_) fun h5 hf=>?_)
 · refine W 2 Z (AS Z (AO.bJ Z Z Z Z cu Z ?_)); cases hf; exact N 2 Z (Y Z h)
 refine V 2 Z (C hf Z (fun h6 hf=>?_) fun h6 hf=>?_)
 · cases hf; exact M 1 Z (Y Z h)
 cases hf; exact M 1 Z (Y Z h)
end

section
variable [Ay]
theorem qh (p1:Nat) (oU:ak) {r0:aX} {oQ:ak} (hf:l6 oU=some (r0,oQ)) {Q:eZ→List bE→Prop} (h:Q (.ret (.agg (xM r0))) [.box p1 (aV oQ)]):PC 235 [pP p1] [.box p1 (aV oU)] Q:=by
 unfold l6 at hf; refine BD 37 [.cell 2 107] [0] Tryz.func235 Z Z Z Z Z (W 0 Z (AS Z (AO.aH Z als (fun b2=>(J 0 Z (AW.draw 23 mixed (by kernel_rfl) Z ?_)))))); refine Ev.cs aP 3 Z (Ev.cons Z Z Z (AO.bV (i:=1) Z Z Z FE Z Z zg) (Ev.cs aP 3 Z (Ev.cons Z Z Z (AO.bV (i:=1) Z Z Z apd Z Z zg) ?_))); refine Ev.cons Z Z Z (AO.aL (l:=oU.ts) Z Z Z Z alO Z Z zg) (Ev.cs aP 2 Z ?_); refine B1 hf fun b1 h2 hf=>Ev.eX hKA 12 13 25 true [0,2] (.bool b1) Z Z (fun h1=>?_) (fun h1=>?_) ?_
 ·
  replace h2:=eD h1 h2; refine Ev.is Yt 13 h1 Z (Ev.cs aP 3 Z (Ev.run Z Z Z Z Z Z Z (AO.bV (i:=1) Z Z Z apd Z Z zg) (Ev.cs aP 3 Z ?_))); refine Ev.run Z Z Z Z Z Z Z (AO.bV (i:=1) Z Z Z FE Z Z zg) ?_; obtain ⟨e1,h3,h2⟩:=aN h2; refine Ev.run Z Z Z Z Z Z Z (AO.aM h3 Z Z Z Z alO (aX.aG _) Z zg) (Ev.cs aP 1 Z ?_); replace h2:=(aJ _).trans h2; obtain ⟨x1,h4,h2⟩:=aN h2
  refine Ev.run Z Z Z Z Z Z Z (AO.call Z _ Z Z atE (TB _ h4 zg)) ?_; obtain rfl:=Option.some.inj h2; refine Ev.cs aP 1 Z ?_; exact Ev.nil (Less.settle (ps:=[25,0,2]) Z)
 · replace h2:=eF h1 h2; refine Ev.is Yt 13 h1 Z ?_; obtain rfl:=Option.some.inj h2; refine Ev.cs aP 12 Z ?_; exact Ev.nil (Less.settle (ps:=[25,0,2]) Z)
 refine Ev.nil ?_; show AR _ _ _ _ _ _ _ _
 refine J 0 Z (C hf Z (fun h5 hf=>?_) fun h5 hf=>?_)
 ·
  refine V 0 Z (AW.draw 10 mixed (by kernel_rfl) Z ?_); refine Ev.cs aP 3 Z (Ev.cons Z Z Z (AO.bV (i:=1) Z Z Z apd Z Z zg) (Ev.cs aP 3 Z (Ev.cons Z Z Z (AO.bV (i:=1) Z Z Z FE Z Z zg) ?_))); refine B1 hf fun e2 h6 hf=>Ev.cons Z Z Z (AO.aM h6 Z Z Z Z alO (aX.aG _) Z zg) (Ev.cs aP 1 Z (Ev.nil ?_)); show AR _ _ _ _ _ _ _ _
  cases hf; exact Rx 1 [0] rfl rfl ⟨rfl,_,⟨_,_,rfl,⟨_,_,0,_,_,rfl,rfl,acR,rfl⟩,rfl⟩,_,(.cons _ (.cons_cons _ (List.nil_sublist _))),h⟩
 cases hf; exact Wx 2 [0] rfl rfl ⟨rfl,_,⟨_,_,rfl,⟨_,_,0,_,_,rfl,rfl,acR,rfl⟩,rfl⟩,_,(.cons _ (.cons_cons _ (List.nil_sublist _))),h⟩
end

section
variable [Ay]
theorem Lh (p1:Nat) (oU:ak) (op1:Str) {r0:Bool} {oQ:ak} (hf:zY oU op1=some (r0,oQ)) {Q:eZ→List bE→Prop} (h:Q (.ret (.bool r0)) [.box p1 (aV oQ)]):PC 236 [pP p1,.str op1] [.box p1 (aV oU)] Q:=by
 unfold zY at hf; refine BD 17 [.tmp 4] [0,1] Tryz.func236 Z Z Z Z Z ?_; obtain ⟨x1,y1,h1,hf⟩:=aY hf; refine W 2 Z (CL Z (AC.one 0 Z (qh _ _ h1 ⟨_,Z,(AS Z (AO.aH Z als (fun b5=>(Rr 5 [0,0] Z Z (AR.and 5 11 16 [] (x:=(x1.text == op1)) Z Z (fun h2=>?_) (fun h2=>?_) ?_)))))⟩)))
 · refine Is 11 h2 Z (U 1 Z (GO Z (AO.bV (i:=0) Z Z Z adn Z Z ?_))); exact eU 3 Z (En [16] Z)
 · refine Is 11 h2 Z ?_; exact eU 5 Z (En [16] Z)
 cases hf; exact N 1 rfl ⟨rfl,_,⟨_,_,rfl,rfl,rfl⟩,_,(.cons _ (.cons_cons _ (List.nil_sublist _))),h⟩
end

section
variable [Ay]
theorem eG (p1:Nat) (oU:ak) (op1:Str) {r0:Bool} {oQ:ak} (hf:dZ oU op1=some (r0,oQ)) {Q:eZ→List bE→Prop} (h:Q (.ret (.bool r0)) [.box p1 (aV oQ)]):PC 199 [pP p1,.str op1] [.box p1 (aV oU)] Q:=by
 unfold dZ at hf; refine BD 16 [.tmp 4] [0,1] Tryz.func199 Z Z Z Z Z ?_; obtain ⟨x1,y1,h1,hf⟩:=aY hf; refine W 3 Z (CL Z (AC.one 0 Z (Lh _ _ _ h1 ⟨_,Z,(J 1 Z (C hf Z (fun h2 hf=>?_) fun h2 hf=>?_))⟩)))
 · cases hf; exact M 1 rfl ⟨rfl,_,⟨_,_,rfl,rfl,rfl⟩,_,(.cons_cons _ (List.nil_sublist _)),h⟩
 cases hf; exact Wx 9 [0,0] rfl rfl ⟨rfl,_,⟨_,_,rfl,rfl,rfl⟩,_,(.cons_cons _ (List.nil_sublist _)),h⟩
end

@[reducible] def Io :fq aA Unit→eZ
 | .ok r=>.ret (.tuple [])
 | .bad e=>.panic (.iface 156 (.agg (jP e)))

theorem fC (p1:Nat) (oU:ak) (e1:Int) {rX:fq aA Unit} {oQ:ak} (hf:jl oU e1=some (rX,oQ)) {Q:eZ→List bE→Prop} (h:Q (Io rX) [.box p1 (aV oQ)]):PC 238 [pP p1,iP e1] [.box p1 (aV oU)] Q:=by
 unfold jl at hf; refine BD 11 [] [0,1] Tryz.func238 Z Z Z Z Z (Wr 6 [0] Z Z (AS Z (AO.aa7 Z at6 Z (AR.fH Z Z (AO.adW Z Z ?_))))); cases hf; exact ⟨rfl,_,(.cons_cons _ (List.nil_sublist _)),h⟩

section
variable [Ay]
@[reducible] def Im :fq aA aX→eZ
 | .ok r=>.ret (.agg (xM r))
 | .bad e=>.panic (.iface 156 (.agg (jP e)))

theorem ji (p1:Nat) (oU:ak) {rX:fq aA aX} {oQ:ak} (hf:l7 oU=some (rX,oQ)) {Q:eZ→List bE→Prop} (h:Q (Im rX) [.box p1 (aV oQ)]):PC 237 [pP p1] [.box p1 (aV oU)] Q:=by
 unfold l7 at hf; refine BD 24 [.cell 2 107] [0] Tryz.func237 Z Z Z Z Z (W 0 Z (AS Z (AO.aH Z als (fun b2=>(J 0 Z (AW.draw 10 mixed (by kernel_rfl) Z ?_)))))); refine Ev.cs aP 3 Z (Ev.cons Z Z Z (AO.bV (i:=1) Z Z Z FE Z Z zg) (Ev.cs aP 3 Z (Ev.cons Z Z Z (AO.bV (i:=1) Z Z Z apd Z Z zg) ?_))); refine Ev.cons Z Z Z (AO.aL (l:=oU.ts) Z Z Z Z alO Z Z zg) (Ev.cs aP 1 Z (Ev.nil ?_)); show AR _ _ _ _ _ _ _ _
 refine J 0 Z (C hf Z (fun h1 hf=>?_) fun h1 hf=>?_)
 ·
  rcases dX hf with ⟨e1,y2,h2,hf⟩ | ⟨_,y1,h2,hf⟩
  · refine W 1 Z (CL Z (AC.one 1 Z (fC _ _ _ h2 ⟨_,Z,?_⟩))); cases hf; exact ⟨rfl,_,(.cons _ (.cons_cons _ (List.nil_sublist _))),h⟩
  refine W 1 Z (CL Z (AC.one 1 Z (fC _ _ _ h2 ⟨_,Z,?_⟩))); obtain ⟨x1,y3,h3,hf⟩:=aY hf; refine U 1 Z (CL Z (AC.one 1 Z (qh _ _ h3 ⟨_,Z,(AS Z (AO.aH Z als (fun b3=>(Rw 4 [0,0] Z Z (C hf Z (fun h4 hf=>?_) fun h4 hf=>?_)))))⟩)))
  ·
   rcases dX hf with ⟨e2,y5,h5,hf⟩ | ⟨_,y4,h5,hf⟩
   · refine W 1 Z (CL Z (AC.one 2 Z (fC _ _ _ h5 ⟨_,Z,?_⟩))); cases hf; exact ⟨rfl,_,(.cons _ (.cons _ (.cons_cons _ (List.nil_sublist _)))),h⟩
   refine W 1 Z (CL Z (AC.one 2 Z (fC _ _ _ h5 ⟨_,Z,?_⟩))); cases hf; exact Rx 2 [0,1] rfl rfl ⟨rfl,_,⟨_,_,rfl,⟨_,_,1,_,_,rfl,rfl,acR,rfl⟩,rfl⟩,_,(.cons _ (.cons _ (.cons_cons _ (List.nil_sublist _)))),h⟩
  cases hf; exact Wx 2 [0,1] rfl rfl ⟨rfl,_,⟨_,_,rfl,⟨_,_,1,_,_,rfl,rfl,acR,rfl⟩,rfl⟩,_,(.cons _ (.cons _ (.cons_cons _ (List.nil_sublist _)))),h⟩
 obtain ⟨x2,y6,h6,hf⟩:=aY hf; refine W 1 Z (CL Z (AC.one 1 Z (qh _ _ h6 ⟨_,Z,(AS Z (AO.aH Z als (fun al5=>(Rw 4 [0,0] Z Z (C hf Z (fun h7 hf=>?_) fun h7 hf=>?_)))))⟩)))
 ·
  rcases dX hf with ⟨e3,y8,h8,hf⟩ | ⟨_,y7,h8,hf⟩
  · refine W 1 Z (CL Z (AC.one 2 Z (fC _ _ _ h8 ⟨_,Z,?_⟩))); cases hf; exact ⟨rfl,_,(.cons _ (.cons _ (.cons_cons _ (List.nil_sublist _)))),h⟩
  refine W 1 Z (CL Z (AC.one 2 Z (fC _ _ _ h8 ⟨_,Z,?_⟩))); cases hf; exact Rx 2 [0,1] rfl rfl ⟨rfl,_,⟨_,_,rfl,⟨_,_,1,_,_,rfl,rfl,acR,rfl⟩,rfl⟩,_,(.cons _ (.cons _ (.cons_cons _ (List.nil_sublist _)))),h⟩
 cases hf; exact Wx 2 [0,1] rfl rfl ⟨rfl,_,⟨_,_,rfl,⟨_,_,1,_,_,rfl,rfl,acR,rfl⟩,rfl⟩,_,(.cons _ (.cons _ (.cons_cons _ (List.nil_sublist _)))),h⟩
end

theorem vO (v1:ah) {r0:aj} (hf:qO v1=some r0) (h:Q (.ret (.agg (aS r0))) τ):PC 307 [.agg (aF v1)] τ Q:=by
 unfold qO at hf; refine BN 5 [.cell 2 28] [0] Tryz.func307 Z Z Z Z Z (W 1 Z (AS Z (AO.aH Z kS (fun b2=>?_)))); cases hf; exact Rx 3 [0] Z Z (ZC [0] Z Z h)

theorem Fu (s1:Str) {r0:Bool} (hf:xI s1=some r0) (h:Q (.ret (.bool r0)) τ):PC 202 [.str s1] τ Q:=by
 unfold xI at hf; refine BN 13 [.tmp 2] [0] Tryz.func202 Z Z Z Z Z (W 4 Z (On 3 5 8 [0] (s1 == ([102,97,108,115,101]:Str)) Z Z Z Z (U 1 Z (On 3 9 12 [] (s1 == ([110,117,108,108]:Str)) Z Z Z Z ?_)))); cases hf; exact N 1 Z (Y Z h)

section
variable [Ay]
@[reducible] def Gg :fq aA Unit→eZ
 | .ok r=>.ret (.tuple [])
 | .bad e=>.panic (.iface 156 (.agg (jP e)))

theorem dM (p1:Nat) (oU:ak) (op1:Str) {rX:fq aA Unit} {oQ:ak} (hf:h_ oU op1=some (rX,oQ)) {Q:eZ→List bE→Prop} (h:Q (Gg rX) [.box p1 (aV oQ)]):PC 200 [pP p1,.str op1] [.box p1 (aV oU)] Q:=by
 unfold h_ at hf; refine BD 12 [] [0,1] Tryz.func200 Z Z Z Z Z ?_; rcases dX hf with ⟨e1,y2,h1,hf⟩ | ⟨x1,y1,h1,hf⟩
 · refine W 1 Z (CL Z (AC.one 0 Z (ji _ _ h1 ⟨_,Z,?_⟩))); cases hf; exact ⟨rfl,_,(.cons_cons _ (List.nil_sublist _)),h⟩
 refine W 1 Z (CL Z (AC.one 0 Z (ji _ _ h1 ⟨_,Z,?_⟩))); obtain ⟨x2,y3,h2,hf⟩:=aY hf; refine U 2 Z (CL Z (AC.one 0 Z (eG _ _ _ h2 ⟨_,Z,(J 1 Z (C hf Z (fun h3 hf=>?_) fun h3 hf=>?_))⟩)))
 ·
  rcases dX hf with ⟨e2,y5,h4,hf⟩ | ⟨_,y4,h4,hf⟩
  · refine W 1 Z (CL Z (AC.one 0 Z (fC _ _ _ h4 ⟨_,Z,?_⟩))); cases hf; exact ⟨rfl,_,(.cons_cons _ (List.nil_sublist _)),h⟩
  refine W 1 Z (CL Z (AC.one 0 Z (fC _ _ _ h4 ⟨_,Z,?_⟩))); cases hf; exact N 0 rfl ⟨rfl,_,rfl,_,(.cons_cons _ (List.nil_sublist _)),h⟩
 cases hf; exact M 0 rfl ⟨rfl,_,rfl,_,(.cons_cons _ (List.nil_sublist _)),h⟩
end

theorem tO (op1:Str) {r0:Int} (hf:gG op1=some r0) (h:Q (.ret (iP r0)) τ):PC 157 [.str op1] τ Q:=by
 unfold gG at hf; refine BN 22 [.tmp 2] [0] Tryz.func157 Z Z Z Z Z (V 4 Z (C hf Z (fun h1 hf=>?_) fun h1 hf=>?_))
 · cases hf; exact M 1 Z (Y Z h)
 refine V 2 Z (C hf Z (fun h2 hf=>?_) fun h2 hf=>?_)
 · cases hf; exact M 1 Z (Y Z h)
 refine V 2 Z (C hf Z (fun h3 hf=>?_) fun h3 hf=>?_)
 ·
  refine V 0 Z (AW.cond Z (fun h4=>?_) (fun h4=>?_))
  · cases hf; exact M 1 Z (Y Z h)
  cases h3.symm.trans h4
 refine V 2 Z (C hf Z (fun h5 hf=>?_) fun h5 hf=>?_)
 ·
  refine V 0 Z (AW.cond Z (fun h6=>?_) (fun h6=>?_))
  · cases hf; exact M 1 Z (Y Z h)
  cases h5.symm.trans h6
 refine V 2 Z (C hf Z (fun h7 hf=>?_) fun h7 hf=>?_)
 ·
  refine V 0 Z (AW.cond Z (fun h8=>?_) (fun h8=>?_))
  · cases hf; exact M 1 Z (Y Z h)
  cases h7.symm.trans h8
 refine V 2 Z (C hf Z (fun h9 hf=>?_) fun h9 hf=>?_)
 ·
  refine V 0 Z (AW.cond Z (fun h10=>?_) (fun h10=>?_))
  · cases hf; exact M 1 Z (Y Z h)
  cases h9.symm.trans h10
 refine V 2 Z (C hf Z (fun h11 hf=>?_) fun h11 hf=>?_)
 ·
  refine V 0 Z (AW.cond Z (fun h12=>?_) (fun h12=>?_))
  · cases hf; exact M 1 Z (Y Z h)
  cases h11.symm.trans h12
 refine V 2 Z (C hf Z (fun jq hf=>?_) fun jq hf=>?_)
 · cases hf; exact M 1 Z (Y Z h)
 refine V 2 Z (C hf Z (fun kg hf=>?_) fun kg hf=>?_)
 ·
  refine V 0 Z (AW.cond Z (fun kC=>?_) (fun kC=>?_))
  · cases hf; exact M 1 Z (Y Z h)
  cases kg.symm.trans kC
 refine V 2 Z (C hf Z (fun h16 hf=>?_) fun h16 hf=>?_)
 · cases hf; exact M 1 Z (Y Z h)
 refine V 2 Z (C hf Z (fun mQ hf=>?_) fun mQ hf=>?_)
 ·
  refine V 0 Z (AW.cond Z (fun h18=>?_) (fun h18=>?_))
  · cases hf; exact M 1 Z (Y Z h)
  cases mQ.symm.trans h18
 refine V 2 Z (C hf Z (fun h19 hf=>?_) fun h19 hf=>?_)
 ·
  refine V 0 Z (AW.cond Z (fun h20=>?_) (fun h20=>?_))
  · cases hf; exact M 1 Z (Y Z h)
  cases h19.symm.trans h20
 refine V 2 Z (C hf Z (fun h21 hf=>?_) fun h21 hf=>?_)
 · cases hf; exact M 1 Z (Y Z h)
 cases hf; exact M 1 Z (Y Z h)

section
variable [Ay]
@[reducible] def o7 :fq aA aj→eZ
 | .ok r=>.ret (.agg (aS r))
 | .bad e=>.panic (.iface 156 (.agg (jP e)))

@[reducible] def oZ :fq aA aj→eZ
 | .ok r=>.ret (.agg (aS r))
 | .bad e=>.panic (.iface 156 (.agg (jP e)))

@[reducible] def sO :fq aA aj→eZ
 | .ok r=>.ret (.agg (aS r))
 | .bad e=>.panic (.iface 156 (.agg (jP e)))

@[reducible] def sQ :fq aA aj→eZ
 | .ok r=>.ret (.agg (aS r))
 | .bad e=>.panic (.iface 156 (.agg (jP e)))

@[reducible] def t_ :fq aA aj→eZ
 | .ok r=>.ret (.agg (aS r))
 | .bad e=>.panic (.iface 156 (.agg (jP e)))

@[reducible] def tZ :fq aA aj→eZ
 | .ok r=>.ret (.agg (aS r))
 | .bad e=>.panic (.iface 156 (.agg (jP e)))

@[reducible] def uf :fq aA (List aj)→eZ
 | .ok r=>.ret (.list (aj.bn r))
 | .bad e=>.panic (.iface 156 (.agg (jP e)))

@[reducible] def qF :fq aA aj→eZ
 | .ok r=>.ret (.agg (aS r))
 | .bad e=>.panic (.iface 156 (.agg (jP e)))

abbrev gu (aC:ak→Option (fq aA aj × ak)):Prop:=∀ (qx:Nat) (gN:ak) {fu:fq aA aj} {iX:ak},aC gN=some (fu,iX)→∀ {Q:eZ→List bE→Prop} (h:Q (o7 fu) [.box qx (aV iX)]),PC 155 [pP qx] [.box qx (aV gN)] Q
abbrev gq (aK:ak→Int→Option (fq aA aj × ak)):Prop:=∀ (qx:Nat) (gN:ak) (OY:Int) {fu:fq aA aj} {iX:ak},aK gN OY=some (fu,iX)→∀ {Q:eZ→List bE→Prop} (h:Q (oZ fu) [.box qx (aV iX)]),PC 198 [pP qx,iP OY] [.box qx (aV gN)] Q
abbrev iD (aO:ak→Option (fq aA aj × ak)):Prop:=∀ (qx:Nat) (gN:ak) {fu:fq aA aj} {iX:ak},aO gN=some (fu,iX)→∀ {Q:eZ→List bE→Prop} (h:Q (sO fu) [.box qx (aV iX)]),PC 234 [pP qx] [.box qx (aV gN)] Q
abbrev iE (aQ:ak→Option (fq aA aj × ak)):Prop:=∀ (qx:Nat) (gN:ak) {fu:fq aA aj} {iX:ak},aQ gN=some (fu,iX)→∀ {Q:eZ→List bE→Prop} (h:Q (sQ fu) [.box qx (aV iX)]),PC 269 [pP qx] [.box qx (aV gN)] Q
abbrev iQ (bg:ak→Option (fq aA aj × ak)):Prop:=∀ (qx:Nat) (gN:ak) {fu:fq aA aj} {iX:ak},bg gN=some (fu,iX)→∀ {Q:eZ→List bE→Prop} (h:Q (t_ fu) [.box qx (aV iX)]),PC 290 [pP qx] [.box qx (aV gN)] Q
abbrev iO (bf:ak→Str→Option (fq aA aj × ak)):Prop:=∀ (qx:Nat) (gN:ak) (pE:Str) {fu:fq aA aj} {iX:ak},bf gN pE=some (fu,iX)→∀ {Q:eZ→List bE→Prop} (h:Q (tZ fu) [.box qx (aV iX)]),PC 308 [pP qx,.str pE] [.box qx (aV gN)] Q
abbrev iR (aZ:ak→Str→Option (fq aA (List aj) × ak)):Prop:=∀ (qx:Nat) (gN:ak) (Ht:Str) {fu:fq aA (List aj)} {iX:ak},aZ gN Ht=some (fu,iX)→∀ {Q:eZ→List bE→Prop} (h:Q (uf fu) [.box qx (aV iX)]),PC 309 [pP qx,.str Ht] [.box qx (aV gN)] Q
abbrev gM (aR:ak→Option (fq aA aj × ak)):Prop:=∀ (qx:Nat) (gN:ak) {fu:fq aA aj} {iX:ak},aR gN=some (fu,iX)→∀ {Q:eZ→List bE→Prop} (h:Q (qF fu) [.box qx (aV iX)]),PC 310 [pP qx] [.box qx (aV gN)] Q
theorem D_ (aC) (bD:gu aC) (aK) (dJ:gq aK) (aO) (fJ:iD aO) (aQ) (gL:iE aQ) (bg) (gX:iQ bg) (bf) (gW:iO bf) (aZ) (fQ:iR aZ) (aR) (f_:gM aR) (p1:Nat) (oU:ak) {rX:fq aA aj} {oQ:ak} (hf:o9 aC aK aO aQ bg bf aZ aR oU=some (rX,oQ)) {Q:eZ→List bE→Prop} (h:Q (o7 rX) [.box p1 (aV oQ)]):PC 155 [pP p1] [.box p1 (aV oU)] Q:=by
 unfold o9 at hf; refine BD 23 [.cell 2 28] [0] Tryz.func155 Z Z Z Z Z (W 0 Z (AS Z (AO.aH Z kS (fun b2=>?_)))); rcases dX hf with ⟨e1,y2,h1,hf⟩ | ⟨x1,y1,h1,hf⟩
 · refine U 1 Z (CL Z (AC.one 1 Z (dJ _ _ _ h1 ⟨_,Z,?_⟩))); cases hf; exact ⟨rfl,_,(.cons _ (.cons_cons _ (List.nil_sublist _))),h⟩
 refine U 1 Z (CL Z (AC.one 1 Z (dJ _ _ _ h1 ⟨_,Z,(AS Z (AO.aH Z kS (fun b3=>?_)))⟩))); obtain ⟨x2,y3,h2,hf⟩:=aY hf; refine Rr 2 [0] Z Z (CL Z (AC.one 2 Z (eG _ _ _ h2 ⟨_,Z,(J 1 Z (C hf Z (fun h3 hf=>?_) fun h3 hf=>?_))⟩)))
 · cases hf; exact Wx 2 [0,1] rfl rfl ⟨rfl,_,⟨_,_,rfl,⟨_,_,1,_,_,rfl,rfl,kT,rfl⟩,rfl⟩,_,(.cons _ (.cons _ (.cons_cons _ (List.nil_sublist _)))),h⟩
 rcases dX hf with ⟨e2,y5,h4,hf⟩ | ⟨x3,y4,h4,hf⟩
 · refine W 1 Z (CL Z (AC.one 2 Z (bD _ _ h4 ⟨_,Z,?_⟩))); cases hf; exact ⟨rfl,_,(.cons _ (.cons _ (.cons_cons _ (List.nil_sublist _)))),h⟩
 refine W 1 Z (CL Z (AC.one 2 Z (bD _ _ h4 ⟨_,Z,(AS Z (AO.aH Z kS (fun b4=>?_)))⟩))); rcases dX hf with ⟨e3,y7,h5,hf⟩ | ⟨_,y6,h5,hf⟩
 · refine Rr 2 [0] Z Z (CL Z (AC.one 3 Z (dM _ _ _ h5 ⟨_,Z,?_⟩))); cases hf; exact ⟨rfl,_,(.cons _ (.cons _ (.cons _ (.cons_cons _ (List.nil_sublist _))))),h⟩
 refine Rr 2 [0] Z Z (CL Z (AC.one 3 Z (dM _ _ _ h5 ⟨_,Z,?_⟩))); rcases dX hf with ⟨e4,y9,h6,hf⟩ | ⟨x4,y8,h6,hf⟩
 · refine U 1 Z (CL Z (AC.one 3 Z (bD _ _ h6 ⟨_,Z,?_⟩))); cases hf; exact ⟨rfl,_,(.cons _ (.cons _ (.cons _ (.cons_cons _ (List.nil_sublist _))))),h⟩
 refine U 1 rfl (CL rfl (AC.one 3 rfl (bD _ _ h6 ⟨_,rfl,(AS rfl (AO.aH rfl kS (fun b5=>(Rr 4 [0,2,1,0] rfl rfl (AS rfl (AO.bq (aj.bn [x1,x3,x4]) rfl uq rfl rfl rfl (by first | rfl | simp only [List.map,aj.aG,aj.bn]) ?_))))))⟩))); cases hf; exact Rx 2 [3] rfl rfl ⟨rfl,_,⟨_,_,rfl,⟨_,_,3,_,_,rfl,rfl,kT,rfl⟩,rfl⟩,_,(.cons _ (.cons _ (.cons _ (.cons _ (.cons_cons _ (List.nil_sublist _)))))),h⟩
theorem D9 (aC) (bD:gu aC) (aK) (dJ:gq aK) (aO) (fJ:iD aO) (aQ) (gL:iE aQ) (bg) (gX:iQ bg) (bf) (gW:iO bf) (aZ) (fQ:iR aZ) (aR) (f_:gM aR) (p1:Nat) (oU:ak) (n1:Int) {rX:fq aA aj} {oQ:ak} (hf:o8 aC aK aO aQ bg bf aZ aR oU n1=some (rX,oQ)) {Q:eZ→List bE→Prop} (h:Q (oZ rX) [.box p1 (aV oQ)]):PC 198 [pP p1,iP n1] [.box p1 (aV oU)] Q:=by
 unfold o8 at hf; refine BD 47 [.cell 4 28] [0,1] Tryz.func198 Z Z Z Z Z (W 0 Z (AS Z (AO.aH Z kS (fun b4=>(J 2 Z (C hf Z (fun h1 hf=>?_) fun h1 hf=>?_))))))
 ·
  rcases dX hf with ⟨e1,y2,h2,hf⟩ | ⟨x1,y1,h2,hf⟩
  · refine W 1 Z (CL Z (AC.one 1 Z (fJ _ _ h2 ⟨_,Z,?_⟩))); cases hf; exact ⟨rfl,_,(.cons _ (.cons_cons _ (List.nil_sublist _))),h⟩
  refine W 1 Z (CL Z (AC.one 1 Z (fJ _ _ h2 ⟨_,Z,?_⟩))); cases hf; exact Rx 1 [0] rfl rfl ⟨rfl,_,⟨_,_,rfl,⟨_,_,0,_,_,rfl,rfl,kT,rfl⟩,rfl⟩,_,(.cons _ (.cons_cons _ (List.nil_sublist _))),h⟩
 rcases dX hf with ⟨e2,y4,h3,hf⟩ | ⟨x2,y3,h3,hf⟩
 · refine W 3 Z (CL Z (AC.one 1 Z (dJ _ _ _ h3 ⟨_,Z,?_⟩))); cases hf; exact ⟨rfl,_,(.cons _ (.cons_cons _ (List.nil_sublist _))),h⟩
 refine W 3 Z (CL Z (AC.one 1 Z (dJ _ _ _ h3 ⟨_,Z,(AS Z (AO.aH Z kS (fun b5=>?_)))⟩)))
 refine Rw 1 [0] Z Z (Zf (fun e3 y5=>[(0,pP p1),(1,iP n1),(4,pP b4),(5,pP b5)]) (fun e3 y5=>[.box b5 (aS e3),.box b4 [iP 0,.str ([]:Str),iP 0,.bool false,iP 0,.str ([]:Str),.own (.slice none 0 0) [],.own (.slice none 0 0) [],.own (.slice none 0 0) [],.own (.slice none 0 0) []],.box p1 (aV y5)]) (fun bW e3 y5=>lI aK n1 bW e3 y5=some (rX,oQ)) BIG x2 y3 Z Z hf (fun _ _ hz=>bQ hz) ?_); intro bW e3 y5 hf; rw [lI] at hf; obtain ⟨x3,y6,h4,hf⟩:=aY hf
 refine W 1 Z (CL Z (AC.one 2 Z (qh _ _ h4 ⟨_,Z,(AS Z (AO.aH Z als (fun b6=>?_)))⟩))); refine B1 hf fun b1 h6 hf=>Rr 5 [0,0] Z Z (AR.eX 6 20 26 false [0,1,4,5,6] b1 Z Z (fun h5=>?_) (fun h5=>?_) ?_)
 · replace h6:=eF h5 h6; refine Is 20 h5 Z (U 1 Z (GO Z (AO.bV (i:=0) Z Z Z adn Z Z ?_))); obtain ⟨x4,h7,h6⟩:=aN h6; refine GO Z (AO.call Z _ Z Z ahM (tO _ h7 ?_)); obtain rfl:=Option.some.inj h6; exact eU 3 Z (En [26,0,1,4,5,6] Z)
 · replace h6:=eD h5 h6; refine Is 20 h5 Z ?_; obtain rfl:=Option.some.inj h6; exact eU 6 Z (En [26,0,1,4,5,6] Z)
 refine J 0 Z (C hf Z (fun h8 hf=>?_) fun h8 hf=>?_)
 · cases hf; exact Wx 2 [1,2] rfl rfl ⟨rfl,_,⟨_,_,rfl,⟨_,_,2,_,_,rfl,rfl,kT,rfl⟩,rfl⟩,_,(.cons _ (.cons _ (.cons _ (.cons_cons _ (List.nil_sublist _))))),h⟩
 refine Ww 8 [3,3] Z Z (AW.YJ 0 6 8 3 mixed (by kernel_rfl) (by kernel_rfl) (by kernel_rfl) Z Z Z Z ?_); refine Ev.nil ?_; show Ev _ _ _ _ _ _ _
 refine Ev.cs aP 1 Z (Ev.cons Z Z Z (AO.bV (i:=0) Z Z Z adn Z Z zg) (Ev.cons Z Z Z (AO.bV (i:=1) Z Z Z kT Z Z zg) (Ev.cs aP 3 Z ?_))); refine Ev.nil ?_; rcases dX hf with ⟨e4,y8,h9,hf⟩ | ⟨x5,y7,h9,hf⟩
 · refine TF.step Z Z Z (AO.call Z _ Z Z arR (AC.one 0 Z (dJ _ _ _ h9 ⟨_,Z,?_⟩))); cases hf; exact ⟨rfl,_,(.cons _ (.cons _ (.cons _ (.cons_cons _ (List.nil_sublist _))))),h⟩
 refine TF.step rfl rfl rfl (AO.call rfl _ rfl rfl arR (AC.one 0 rfl (dJ _ _ _ h9 ⟨_,rfl,(TF.step rfl rfl rfl (AO.bq (aj.bn [e3,x5]) rfl uq rfl rfl rfl (by first | rfl | simp only [List.map,aj.aG,aj.bn]) ?_))⟩))); refine TF.nil ?_; show AR _ _ _ _ _ _ _ _
 refine Rw 4 [1] Z Z (C hf Z (fun h10 hf=>?_) fun h10 hf=>?_)
 · cases hf; exact Wx 2 [1,2] rfl rfl ⟨rfl,_,⟨_,_,rfl,⟨_,_,2,_,_,rfl,rfl,kT,rfl⟩,rfl⟩,_,(.cons _ (.cons _ (.cons _ (.cons_cons _ (List.nil_sublist _))))),h⟩
 refine AW.drop1 (AW.TW 0 Z ?_); exact M 0 Z ⟨(aj.mk 7 x3.text (ah.mk 0 false 0 ([]:Str) [] []) [e3,x5] []),y7,Z,Z,Z,hf⟩
theorem Ic (aC) (bD:gu aC) (aK) (dJ:gq aK) (aO) (fJ:iD aO) (aQ) (gL:iE aQ) (bg) (gX:iQ bg) (bf) (gW:iO bf) (aZ) (fQ:iR aZ) (aR) (f_:gM aR) (p1:Nat) (oU:ak) {rX:fq aA aj} {oQ:ak} (hf:sS aC aK aO aQ bg bf aZ aR oU=some (rX,oQ)) {Q:eZ→List bE→Prop} (h:Q (sO rX) [.box p1 (aV oQ)]):PC 234 [pP p1] [.box p1 (aV oU)] Q:=by
 unfold sS at hf; refine BD 22 [.cell 2 28] [0] Tryz.func234 Z Z Z Z Z (W 0 Z (AS Z (AO.aH Z kS (fun b2=>(U 0 Z (AS Z (AO.bq (List.map ko ([([33]:Str),([45]:Str)]:List Str)) Z kU Z Z Z Z (AS Z (AO.aL (l:=([([33]:Str),([45]:Str)]:List Str)) Z Z Z Z dO Z Z ?_)))))))))
 refine J 1 Z (Zf (fun x1 y1=>[(0,pP p1),(2,pP b2),(5,sP (([([33]:Str),([45]:Str)]:List Str))),(6,iP (([([33]:Str),([45]:Str)]:List Str).length:Int)),(7,iP x1)]) (fun x1 y1=>[.box b2 [iP 0,.str ([]:Str),iP 0,.bool false,iP 0,.str ([]:Str),.own (.slice none 0 0) [],.own (.slice none 0 0) [],.own (.slice none 0 0) [],.own (.slice none 0 0) []],.box p1 (aV y1)]) (fun bW x1 y1=>nW aO aQ bW x1 y1=some (rX,oQ)) BIG 0 oU Z Z hf (fun _ _ hz=>bQ hz) ?_)
 intro bW x1 y1 hf; rw [nW] at hf; refine V 1 Z (C hf Z (fun h1 hf=>?_) fun h1 hf=>?_)
 ·
  refine B1 hf fun op1 h2 hf=>W 0 Z (AS Z (AO.aM h2 Z Z Z Z dO Z Z ?_)); obtain ⟨x2,y2,h3,hf⟩:=aY hf; refine U 4 Z (CL Z (AC.one 1 Z (eG _ _ _ h3 ⟨_,Z,(J 0 Z (C hf Z (fun h4 hf=>?_) fun h4 hf=>?_))⟩)))
  ·
   rcases dX hf with ⟨e1,y4,h5,hf⟩ | ⟨x3,y3,h5,hf⟩
   · refine W 2 Z (CL Z (AC.one 1 Z (fJ _ _ h5 ⟨_,Z,?_⟩))); cases hf; exact ⟨rfl,_,(.cons _ (.cons_cons _ (List.nil_sublist _))),h⟩
   refine W 2 rfl (CL rfl (AC.one 1 rfl (fJ _ _ h5 ⟨_,rfl,(AS rfl (AO.bq (aj.bn [x3]) rfl uq rfl rfl rfl (by first | rfl | simp only [List.map,aj.aG,aj.bn]) ?_))⟩))); cases hf; exact Rx 2 [0] rfl rfl ⟨rfl,_,⟨_,_,rfl,⟨_,_,0,_,_,rfl,rfl,kT,rfl⟩,rfl⟩,_,(.cons _ (.cons_cons _ (List.nil_sublist _))),h⟩
  exact M 2 Z ⟨(bS (x1 + 1)),y2,Z,Z,Z,hf⟩
 rcases dX hf with ⟨e2,y6,h6,hf⟩ | ⟨x4,y5,h6,hf⟩
 · refine W 1 Z (CL Z (AC.one 1 Z (gL _ _ h6 ⟨_,Z,?_⟩))); cases hf; exact ⟨rfl,_,(.cons _ (.cons_cons _ (List.nil_sublist _))),h⟩
 refine W 1 Z (CL Z (AC.one 1 Z (gL _ _ h6 ⟨_,Z,?_⟩))); cases hf; exact Rx 1 [0] rfl rfl ⟨rfl,_,⟨_,_,rfl,⟨_,_,0,_,_,rfl,rfl,kT,rfl⟩,rfl⟩,_,(.cons _ (.cons_cons _ (List.nil_sublist _))),h⟩
theorem Ie (aC) (bD:gu aC) (aK) (dJ:gq aK) (aO) (fJ:iD aO) (aQ) (gL:iE aQ) (bg) (gX:iQ bg) (bf) (gW:iO bf) (aZ) (fQ:iR aZ) (aR) (f_:gM aR) (p1:Nat) (oU:ak) {rX:fq aA aj} {oQ:ak} (hf:sU aC aK aO aQ bg bf aZ aR oU=some (rX,oQ)) {Q:eZ→List bE→Prop} (h:Q (sQ rX) [.box p1 (aV oQ)]):PC 269 [pP p1] [.box p1 (aV oU)] Q:=by
 unfold sU at hf; refine BD 47 [.cell 2 28] [0] Tryz.func269 Z Z Z Z Z (W 0 Z (AS Z (AO.aH Z kS (fun b2=>?_)))); rcases dX hf with ⟨e1,y2,h1,hf⟩ | ⟨x1,y1,h1,hf⟩
 · refine U 1 Z (CL Z (AC.one 1 Z (gX _ _ h1 ⟨_,Z,?_⟩))); cases hf; exact ⟨rfl,_,(.cons _ (.cons_cons _ (List.nil_sublist _))),h⟩
 refine U 1 Z (CL Z (AC.one 1 Z (gX _ _ h1 ⟨_,Z,(AS Z (AO.aH Z kS (fun b3=>?_)))⟩)))
 refine Rw 1 [0] Z Z (Zf (fun e2 y3=>[(0,pP p1),(2,pP b2),(3,pP b3)]) (fun e2 y3=>[.box b3 (aS e2),.box b2 [iP 0,.str ([]:Str),iP 0,.bool false,iP 0,.str ([]:Str),.own (.slice none 0 0) [],.own (.slice none 0 0) [],.own (.slice none 0 0) [],.own (.slice none 0 0) []],.box p1 (aV y3)]) (fun bW e2 y3=>jX aC bW e2 y3=some (rX,oQ)) BIG x1 y1 Z Z hf (fun _ _ hz=>bQ hz) ?_); intro bW e2 y3 hf; rw [jX] at hf; obtain ⟨x2,y4,h2,hf⟩:=aY hf
 refine W 1 Z (CL Z (AC.one 2 Z (eG _ _ _ h2 ⟨_,Z,(J 1 Z (C hf Z (fun h3 hf=>?_) fun h3 hf=>?_))⟩)))
 ·
  rcases dX hf with ⟨e3,y6,h4,hf⟩ | ⟨x3,y5,h4,hf⟩
  · refine W 1 Z (CL Z (AC.one 2 Z (ji _ _ h4 ⟨_,Z,?_⟩))); cases hf; exact ⟨rfl,_,(.cons _ (.cons _ (.cons_cons _ (List.nil_sublist _)))),h⟩
  refine W 1 Z (CL Z (AC.one 2 Z (ji _ _ h4 ⟨_,Z,(AS Z (AO.aH Z als (fun b4=>?_)))⟩))); refine B1 hf fun b1 h6 hf=>Rr 5 [0,0] Z Z (AR.eX 4 17 21 false [0,2,3,4] b1 Z Z (fun h5=>?_) (fun h5=>?_) ?_)
  · replace h6:=eF h5 h6; refine Is 17 h5 Z (U 1 Z (GO Z (AO.bV (i:=0) Z Z Z adn Z Z ?_))); replace h6:=(aJ _).trans h6; obtain ⟨x4,h7,h6⟩:=aN h6; refine GO Z (AO.call Z _ Z Z arQ (Fu _ h7 ?_)); obtain rfl:=Option.some.inj h6; exact eU 1 Z (En [21,0,2,3,4] Z)
  · replace h6:=eD h5 h6; refine Is 17 h5 Z ?_; obtain rfl:=Option.some.inj h6; exact eU 4 Z (En [21,0,2,3,4] Z)
  refine J 0 Z (C hf Z (fun h8 hf=>?_) fun h8 hf=>?_)
  ·
   rcases dX hf with ⟨e4,y8,h9,hf⟩ | ⟨_,y7,h9,hf⟩
   · refine W 1 Z (CL Z (AC.one 3 Z (fC _ _ _ h9 ⟨_,Z,?_⟩))); cases hf; exact ⟨rfl,_,(.cons _ (.cons _ (.cons _ (.cons_cons _ (List.nil_sublist _))))),h⟩
   refine W 1 rfl (CL rfl (AC.one 3 rfl (fC _ _ _ h9 ⟨_,rfl,(Rr 11 [3,3,0,1] rfl rfl (AS rfl (AO.bq (aj.bn [e2]) rfl uq rfl rfl rfl (by first | rfl | simp only [List.map,aj.aG,aj.bn]) ?_)))⟩))); refine Rn 2 [1] Z Z (AR.drop1 (AR.TW 0 Z ?_)); exact N 0 Z ⟨(aj.mk 3 x3.text (ah.mk 0 false 0 ([]:Str) [] []) [e2] []),(ak.mk y7.ts (bS (y7.at_ + 1))),Z,Z,Z,hf⟩
  refine Wr 11 [3,3,0,1] rfl rfl (AS rfl (AO.bq (aj.bn [e2]) rfl uq rfl rfl rfl (by first | rfl | simp only [List.map,aj.aG,aj.bn]) ?_)); refine Rn 2 [1] Z Z (AR.drop1 (AR.TW 0 Z ?_)); exact N 0 Z ⟨(aj.mk 3 x3.text (ah.mk 0 false 0 ([]:Str) [] []) [e2] []),(ak.mk y5.ts (bS (y5.at_ + 1))),Z,Z,Z,hf⟩
 obtain ⟨x5,y9,h10,hf⟩:=aY hf; refine W 1 Z (CL Z (AC.one 2 Z (eG _ _ _ h10 ⟨_,Z,(J 1 Z (C hf Z (fun h11 hf=>?_) fun h11 hf=>?_))⟩)))
 ·
  rcases dX hf with ⟨e5,y11,h12,hf⟩ | ⟨x6,y10,h12,hf⟩
  · refine W 1 Z (CL Z (AC.one 2 Z (bD _ _ h12 ⟨_,Z,?_⟩))); cases hf; exact ⟨rfl,_,(.cons _ (.cons _ (.cons_cons _ (List.nil_sublist _)))),h⟩
  refine W 1 Z (CL Z (AC.one 2 Z (bD _ _ h12 ⟨_,Z,(AS Z (AO.aH Z kS (fun b5=>?_)))⟩))); rcases dX hf with ⟨e6,y13,jq,hf⟩ | ⟨_,y12,jq,hf⟩
  · refine Rr 2 [0] Z Z (CL Z (AC.one 3 Z (dM _ _ _ jq ⟨_,Z,?_⟩))); cases hf; exact ⟨rfl,_,(.cons _ (.cons _ (.cons _ (.cons_cons _ (List.nil_sublist _))))),h⟩
  refine Rr 2 [0] rfl rfl (CL rfl (AC.one 3 rfl (dM _ _ _ jq ⟨_,rfl,(Rr 2 [1,0] rfl rfl (AS rfl (AO.bq (aj.bn [e2,x6]) rfl uq rfl rfl rfl (by first | rfl | simp only [List.map,aj.aG,aj.bn]) ?_)))⟩))); refine Rn 2 [1] Z Z (AR.drop1 (AR.TW 0 Z ?_)); exact N 0 Z ⟨(aj.mk 4 ([]:Str) (ah.mk 0 false 0 ([]:Str) [] []) [e2,x6] []),y12,Z,Z,Z,hf⟩
 cases hf; exact Wx 2 [0,1] rfl rfl ⟨rfl,_,⟨_,_,rfl,⟨_,_,1,_,_,rfl,rfl,kT,rfl⟩,rfl⟩,_,(.cons _ (.cons _ (.cons_cons _ (List.nil_sublist _)))),h⟩
theorem Ir (aC) (bD:gu aC) (aK) (dJ:gq aK) (aO) (fJ:iD aO) (aQ) (gL:iE aQ) (bg) (gX:iQ bg) (bf) (gW:iO bf) (aZ) (fQ:iR aZ) (aR) (f_:gM aR) (p1:Nat) (oU:ak) {rX:fq aA aj} {oQ:ak} (hf:uG aC aK aO aQ bg bf aZ aR oU=some (rX,oQ)) {Q:eZ→List bE→Prop} (h:Q (t_ rX) [.box p1 (aV oQ)]):PC 290 [pP p1] [.box p1 (aV oU)] Q:=by
 unfold uG at hf; refine BD 77 [.cell 2 28] [0] Tryz.func290 Z Z Z Z Z (W 0 Z (AS Z (AO.aH Z kS (fun b2=>?_)))); rcases dX hf with ⟨e1,y2,h1,hf⟩ | ⟨x1,y1,h1,hf⟩
 · refine U 1 Z (CL Z (AC.one 1 Z (ji _ _ h1 ⟨_,Z,?_⟩))); cases hf; exact ⟨rfl,_,(.cons _ (.cons_cons _ (List.nil_sublist _))),h⟩
 refine U 1 Z (CL Z (AC.one 1 Z (ji _ _ h1 ⟨_,Z,(AS Z (AO.aH Z als (fun b3=>(Rw 5 [0,0] Z Z (C hf Z (fun h2 hf=>?_) fun h2 hf=>?_)))))⟩)))
 · obtain ⟨n1,x2,h3,hf⟩:=aY hf; refine Wr 10 [2,2,0] Z Z (CL Z (DY _ h3 ?_)); refine B1 hf fun x3 h4 hf=>U 7 Z (CL Z (vO _ h4 ?_)); cases hf; exact Rx 1 [1] rfl rfl ⟨rfl,_,⟨_,_,rfl,⟨_,_,1,_,_,rfl,rfl,kT,rfl⟩,rfl⟩,_,(.cons _ (.cons _ (.cons_cons _ (List.nil_sublist _)))),h⟩
 refine V 2 Z (C hf Z (fun h5 hf=>?_) fun h5 hf=>?_)
 · refine B1 hf fun x4 h6 hf=>Wr 11 [2,2,0] Z Z (CL Z (vO _ h6 ?_)); cases hf; exact Rx 1 [1] rfl rfl ⟨rfl,_,⟨_,_,rfl,⟨_,_,1,_,_,rfl,rfl,kT,rfl⟩,rfl⟩,_,(.cons _ (.cons _ (.cons_cons _ (List.nil_sublist _)))),h⟩
 refine V 2 Z (C hf Z (fun h7 hf=>?_) fun h7 hf=>?_)
 ·
  rcases dX hf with ⟨e2,y4,h8,hf⟩ | ⟨x5,y3,h8,hf⟩
  · refine Wr 11 [2,2,0] Z Z (CL Z (AC.one 2 Z (gW _ _ _ h8 ⟨_,Z,?_⟩))); cases hf; exact ⟨rfl,_,(.cons _ (.cons _ (.cons_cons _ (List.nil_sublist _)))),h⟩
  refine Wr 11 [2,2,0] Z Z (CL Z (AC.one 2 Z (gW _ _ _ h8 ⟨_,Z,?_⟩))); cases hf; exact Rx 1 [1] rfl rfl ⟨rfl,_,⟨_,_,rfl,⟨_,_,1,_,_,rfl,rfl,kT,rfl⟩,rfl⟩,_,(.cons _ (.cons _ (.cons_cons _ (List.nil_sublist _)))),h⟩
 obtain ⟨x6,y5,h9,hf⟩:=aY hf; refine W 1 Z (CL Z (AC.one 2 Z (eG _ _ _ h9 ⟨_,Z,(J 1 Z (C hf Z (fun h10 hf=>?_) fun h10 hf=>?_))⟩)))
 ·
  rcases dX hf with ⟨e3,y7,h11,hf⟩ | ⟨x7,y6,h11,hf⟩
  · refine W 1 Z (CL Z (AC.one 2 Z (bD _ _ h11 ⟨_,Z,?_⟩))); cases hf; exact ⟨rfl,_,(.cons _ (.cons _ (.cons_cons _ (List.nil_sublist _)))),h⟩
  refine W 1 Z (CL Z (AC.one 2 Z (bD _ _ h11 ⟨_,Z,(AS Z (AO.aH Z kS (fun b6=>?_)))⟩))); rcases dX hf with ⟨e4,y9,h12,hf⟩ | ⟨_,y8,h12,hf⟩
  · refine Rr 2 [0] Z Z (CL Z (AC.one 3 Z (dM _ _ _ h12 ⟨_,Z,?_⟩))); cases hf; exact ⟨rfl,_,(.cons _ (.cons _ (.cons _ (.cons_cons _ (List.nil_sublist _))))),h⟩
  refine Rr 2 [0] Z Z (CL Z (AC.one 3 Z (dM _ _ _ h12 ⟨_,Z,?_⟩))); cases hf; exact Rx 2 [0,2] rfl rfl ⟨rfl,_,⟨_,_,rfl,⟨_,_,2,_,_,rfl,rfl,kT,rfl⟩,rfl⟩,_,(.cons _ (.cons _ (.cons _ (.cons_cons _ (List.nil_sublist _))))),h⟩
 obtain ⟨x8,y10,jq,hf⟩:=aY hf; refine W 1 Z (CL Z (AC.one 2 Z (eG _ _ _ jq ⟨_,Z,(J 1 Z (C hf Z (fun kg hf=>?_) fun kg hf=>?_))⟩)))
 ·
  rcases dX hf with ⟨e5,y12,kC,hf⟩ | ⟨x9,y11,kC,hf⟩
  · refine W 1 Z (CL Z (AC.one 2 Z (fQ _ _ _ kC ⟨_,Z,?_⟩))); cases hf; exact ⟨rfl,_,(.cons _ (.cons _ (.cons_cons _ (List.nil_sublist _)))),h⟩
  refine W 1 Z (CL Z (AC.one 2 Z (fQ _ _ _ kC ⟨_,Z,?_⟩))); cases hf; exact Rx 2 [1] rfl rfl ⟨rfl,_,⟨_,_,rfl,⟨_,_,1,_,_,rfl,rfl,kT,rfl⟩,rfl⟩,_,(.cons _ (.cons _ (.cons_cons _ (List.nil_sublist _)))),h⟩
 obtain ⟨CO,y13,h16,hf⟩:=aY hf; refine W 1 Z (CL Z (AC.one 2 Z (eG _ _ _ h16 ⟨_,Z,(J 1 Z (C hf Z (fun mQ hf=>?_) fun mQ hf=>?_))⟩)))
 ·
  rcases dX hf with ⟨e6,y15,h18,hf⟩ | ⟨KP,y14,h18,hf⟩
  · refine W 1 Z (CL Z (AC.one 2 Z (f_ _ _ h18 ⟨_,Z,?_⟩))); cases hf; exact ⟨rfl,_,(.cons _ (.cons _ (.cons_cons _ (List.nil_sublist _)))),h⟩
  refine W 1 Z (CL Z (AC.one 2 Z (f_ _ _ h18 ⟨_,Z,?_⟩))); cases hf; exact Rx 1 [1] rfl rfl ⟨rfl,_,⟨_,_,rfl,⟨_,_,1,_,_,rfl,rfl,kT,rfl⟩,rfl⟩,_,(.cons _ (.cons _ (.cons_cons _ (List.nil_sublist _)))),h⟩
 rcases dX hf with ⟨e7,y17,h19,hf⟩ | ⟨_,y16,h19,hf⟩
 · refine W 1 Z (CL Z (AC.one 2 Z (fC _ _ _ h19 ⟨_,Z,?_⟩))); cases hf; exact ⟨rfl,_,(.cons _ (.cons _ (.cons_cons _ (List.nil_sublist _)))),h⟩
 refine W 1 Z (CL Z (AC.one 2 Z (fC _ _ _ h19 ⟨_,Z,?_⟩))); cases hf; exact Rx 2 [1] rfl rfl ⟨rfl,_,⟨_,_,rfl,⟨_,_,1,_,_,rfl,rfl,kT,rfl⟩,rfl⟩,_,(.cons _ (.cons _ (.cons_cons _ (List.nil_sublist _)))),h⟩
theorem Iq (aC) (bD:gu aC) (aK) (dJ:gq aK) (aO) (fJ:iD aO) (aQ) (gL:iE aQ) (bg) (gX:iQ bg) (bf) (gW:iO bf) (aZ) (fQ:iR aZ) (aR) (f_:gM aR) (p1:Nat) (oU:ak) (s1:Str) {rX:fq aA aj} {oQ:ak} (hf:uF aC aK aO aQ bg bf aZ aR oU s1=some (rX,oQ)) {Q:eZ→List bE→Prop} (h:Q (tZ rX) [.box p1 (aV oQ)]):PC 308 [pP p1,.str s1] [.box p1 (aV oU)] Q:=by
 unfold uF at hf; refine BD 26 [.cell 4 28] [0,1] Tryz.func308 Z Z Z Z Z (W 0 Z (AS Z (AO.aH Z kS (fun b4=>(J 3 Z (C hf Z (fun h1 hf=>?_) fun h1 hf=>?_))))))
 · refine B1 hf fun x1 h2 hf=>W 1 Z (CL Z (vO _ h2 ?_)); cases hf; exact Rx 1 [0] rfl rfl ⟨rfl,_,⟨_,_,rfl,⟨_,_,0,_,_,rfl,rfl,kT,rfl⟩,rfl⟩,_,(.cons _ (.cons_cons _ (List.nil_sublist _))),h⟩
 refine B1 hf fun x2 h3 hf=>W 1 Z (CL Z (Fu _ h3 (J 1 Z (C hf Z (fun h4 hf=>?_) fun h4 hf=>?_))))
 · refine B1 hf fun x3 h5 hf=>W 3 Z (CL Z (vO _ h5 ?_)); cases hf; exact Rx 1 [0] rfl rfl ⟨rfl,_,⟨_,_,rfl,⟨_,_,0,_,_,rfl,rfl,kT,rfl⟩,rfl⟩,_,(.cons _ (.cons_cons _ (List.nil_sublist _))),h⟩
 obtain ⟨x4,y1,h6,hf⟩:=aY hf; refine W 1 Z (CL Z (AC.one 1 Z (eG _ _ _ h6 ⟨_,Z,(J 1 Z (C hf Z (fun h7 hf=>?_) fun h7 hf=>?_))⟩)))
 ·
  rcases dX hf with ⟨e1,y3,h8,hf⟩ | ⟨x5,y2,h8,hf⟩
  · refine W 2 Z (CL Z (AC.one 1 Z (fQ _ _ _ h8 ⟨_,Z,?_⟩))); cases hf; exact ⟨rfl,_,(.cons _ (.cons_cons _ (List.nil_sublist _))),h⟩
  refine W 2 Z (CL Z (AC.one 1 Z (fQ _ _ _ h8 ⟨_,Z,?_⟩))); cases hf; exact Rx 2 [0] rfl rfl ⟨rfl,_,⟨_,_,rfl,⟨_,_,0,_,_,rfl,rfl,kT,rfl⟩,rfl⟩,_,(.cons _ (.cons_cons _ (List.nil_sublist _))),h⟩
 cases hf; exact Wx 3 [0] rfl rfl ⟨rfl,_,⟨_,_,rfl,⟨_,_,0,_,_,rfl,rfl,kT,rfl⟩,rfl⟩,_,(.cons _ (.cons_cons _ (List.nil_sublist _))),h⟩
theorem Iu (aC) (bD:gu aC) (aK) (dJ:gq aK) (aO) (fJ:iD aO) (aQ) (gL:iE aQ) (bg) (gX:iQ bg) (bf) (gW:iO bf) (aZ) (fQ:iR aZ) (aR) (f_:gM aR) (p1:Nat) (oU:ak) (Ak:Str) {rX:fq aA (List aj)} {oQ:ak} (hf:uH aC aK aO aQ bg bf aZ aR oU Ak=some (rX,oQ)) {Q:eZ→List bE→Prop} (h:Q (uf rX) [.box p1 (aV oQ)]):PC 309 [pP p1,.str Ak] [.box p1 (aV oU)] Q:=by
 unfold uH at hf; refine BD 21 [.tmp 4] [0,1] Tryz.func309 Z Z Z Z Z (W 0 Z (AS Z (AO.nR Z Z ?_))); obtain ⟨x1,y1,h1,hf⟩:=aY hf; refine U 2 Z (CL Z (AC.one 0 Z (eG _ _ _ h1 ⟨_,Z,(J 0 Z (C hf Z (fun h2 hf=>?_) fun h2 hf=>?_))⟩)))
 · refine W 0 Z (AS Z (AO.nR Z Z ?_)); cases hf; exact N 0 rfl ⟨rfl,_,⟨_,_,rfl,rfl,rfl⟩,_,(.cons_cons _ (List.nil_sublist _)),h⟩
 refine V 1 Z (AW.row 10 28 (Vf (fun aT v1 y2=>[(0,pP p1),(1,.str Ak),(5,.own v1 (aj.bn aT))]) (fun aT v1 y2=>[.row v1 (aj.bn aT).length 10 28,.box p1 (aV y2)]) (fun bW aT v1 y2=>oO aC Ak bW aT y2=some (rX,oQ)) BIG [] (.slice none 0 0) y1 Z Z hf (fun _ _ _ hz=>bQ hz) ?_)); intro bW aT v1 y2 hf; rw [oO] at hf; rcases dX hf with ⟨e1,y4,h3,hf⟩ | ⟨x2,y3,h3,hf⟩
 · refine W 2 Z (CL Z (AC.one 1 Z (bD _ _ h3 ⟨_,Z,?_⟩))); cases hf; exact ⟨rfl,_,(.cons _ (.cons_cons _ (List.nil_sublist _))),h⟩
 refine W 2 rfl (CL rfl (AC.one 1 rfl (bD _ _ h3 ⟨_,rfl,(AS rfl (AO.bq (aj.bn [x2]) rfl uq rfl rfl rfl (by first | rfl | simp only [List.map,aj.aG,aj.bn]) ?_))⟩))); refine B1 hf fun Cq h4 hf=>AS Z (AO.eP (i:=0) (l:=aT) (m:=[x2]) h4 Z Z Z Z Z Z Z uq fM (aj.aB _) (aj.aB _) (aj.aB _).symm (aj.dV) (aj.cells_one) (by decide) (fun v2 s1 hs1=>?_)); cases hs1; obtain ⟨x3,y5,h5,hf⟩:=aY hf
 refine U 2 Z (CL Z (AC.one 1 Z (eG _ _ _ h5 ⟨_,Z,(J 1 Z (C hf Z (fun h6 hf=>?_) fun h6 hf=>?_))⟩)))
 ·
  rcases dX hf with ⟨e2,y7,h7,hf⟩ | ⟨_,y6,h7,hf⟩
  · refine W 2 Z (CL Z (AC.one 1 Z (dM _ _ _ h7 ⟨_,Z,?_⟩))); cases hf; exact ⟨rfl,_,(.cons _ (.cons_cons _ (List.nil_sublist _))),h⟩
  refine W 2 Z (CL Z (AC.one 1 Z (dM _ _ _ h7 ⟨_,Z,?_⟩))); cases hf; exact N 2 rfl ⟨rfl,_,⟨_,_,rfl,rfl,rfl⟩,_,(.cons _ (.cons_cons _ (List.nil_sublist _))),h⟩
 exact M 0 Z ⟨Cq,v2,y5,Z,Z,Z,hf⟩
theorem Fz (aC) (bD:gu aC) (aK) (dJ:gq aK) (aO) (fJ:iD aO) (aQ) (gL:iE aQ) (bg) (gX:iQ bg) (bf) (gW:iO bf) (aZ) (fQ:iR aZ) (aR) (f_:gM aR) (p1:Nat) (oU:ak) {rX:fq aA aj} {oQ:ak} (hf:qM aC aK aO aQ bg bf aZ aR oU=some (rX,oQ)) {Q:eZ→List bE→Prop} (h:Q (qF rX) [.box p1 (aV oQ)]):PC 310 [pP p1] [.box p1 (aV oU)] Q:=by
 unfold qM at hf; refine BD 50 [.cell 2 28] [0] Tryz.func310 Z Z Z Z Z (W 0 Z (AS Z (AO.aH Z kS (fun b2=>(U 1 Z (AS Z (AO.aH Z kS (fun b3=>?_)))))))); obtain ⟨x1,y1,h1,hf⟩:=aY hf; refine Rr 2 [0] Z Z (CL Z (AC.one 2 Z (eG _ _ _ h1 ⟨_,Z,(J 0 Z (C hf Z (fun h2 hf=>?_) fun h2 hf=>?_))⟩)))
 · cases hf; exact Wx 2 [0,1] rfl rfl ⟨rfl,_,⟨_,_,rfl,⟨_,_,1,_,_,rfl,rfl,kT,rfl⟩,rfl⟩,_,(.cons _ (.cons _ (.cons_cons _ (List.nil_sublist _)))),h⟩
 refine V 0 Z (AW.row 10 28 (AW.row 1 9 (AW.settle [0,2,3] Z (AW.Bh 2 [false,false,false,false,false,false,true,true] Z (LK4 (fun aT v1 v2 y2=>[(0,pP p1),(2,pP b2),(3,pP b3)]) (fun aT v1 v2 y2=>[.row v2 (List.map ko aT.keys).length 1 9,.row v1 (aj.bn aT.args).length 10 28,.box b3 [iP aT.kind,.str aT.name,iP aT.value.kind,.bool aT.value.dh,iP aT.value.bZ,.str aT.value.bI,.list (ah.bn aT.value.aI),sP aT.value.keys,.own v1 (aj.bn aT.args),.own v2 (List.map ko aT.keys)],.box b2 [iP 0,.str ([]:Str),iP 0,.bool false,iP 0,.str ([]:Str),.own (.slice none 0 0) [],.own (.slice none 0 0) [],.own (.slice none 0 0) [],.own (.slice none 0 0) []],.box p1 (aV y2)]) (fun bW aT v1 v2 y2=>kH aC bW aT y2=some (rX,oQ)) BIG (aj.mk 10 ([]:Str) (ah.mk 0 false 0 ([]:Str) [] []) [] []) (.slice none 0 0) (.slice none 0 0) y1 Z Z hf (fun _ _ _ _ hz=>bQ hz) ?_)))))
 intro bW aT v1 v2 y2 hf; rw [kH] at hf; rcases dX hf with ⟨e1,y4,h3,hf⟩ | ⟨x2,y3,h3,hf⟩
 · refine W 1 Z (CL Z (AC.one 4 Z (ji _ _ h3 ⟨_,Z,?_⟩))); cases hf; exact ⟨rfl,_,(.cons _ (.cons _ (.cons _ (.cons _ (.cons_cons _ (List.nil_sublist _)))))),h⟩
 refine W 1 Z (CL Z (AC.one 4 Z (ji _ _ h3 ⟨_,Z,(AS Z (AO.aH Z als (fun b4=>(Rr 5 [0,0] Z Z (AR.and 4 14 18 [0,2,3,4] (x:=(x2.kind != 3)) Z Z (fun h4=>?_) (fun h4=>?_) ?_)))))⟩)))
 · refine Is 14 h4 Z (U 1 Z (GO Z (AO.bV (i:=0) Z Z Z FE Z Z ?_))); exact eU 2 Z (En [18,0,2,3,4] Z)
 · refine Is 14 h4 Z ?_; exact eU 4 Z (En [18,0,2,3,4] Z)
 refine J 0 Z (C hf Z (fun h5 hf=>?_) fun h5 hf=>?_)
 ·
  rcases dX hf with ⟨e2,y6,h6,hf⟩ | ⟨_,y5,h6,hf⟩
  · refine W 1 Z (CL Z (AC.one 5 Z (fC _ _ _ h6 ⟨_,Z,?_⟩))); cases hf; exact ⟨rfl,_,(.cons _ (.cons _ (.cons _ (.cons _ (.cons _ (.cons_cons _ (List.nil_sublist _))))))),h⟩
  refine W 1 Z (CL Z (AC.one 5 Z (fC _ _ _ h6 ⟨_,Z,?_⟩))); rcases dX hf with ⟨e3,y8,h7,hf⟩ | ⟨_,y7,h7,hf⟩
  · refine Rr 9 [5,5] Z Z (CL Z (AC.one 5 Z (dM _ _ _ h7 ⟨_,Z,?_⟩))); cases hf; exact ⟨rfl,_,(.cons _ (.cons _ (.cons _ (.cons _ (.cons _ (.cons_cons _ (List.nil_sublist _))))))),h⟩
  refine Rr 9 [5,5] Z Z (CL Z (AC.one 5 Z (dM _ _ _ h7 ⟨_,Z,(Rr 4 [3,0] Z Z (AS Z (AO.bq (List.map ko ([x2.text]:List Str)) Z kU Z Z Z Z ?_)))⟩))); refine B1 hf fun x3 h8 hf=>AS Z (AO.eP (i:=1) (l:=aT.keys) (m:=([x2.text]:List Str)) h8 Z Z Z Z Z Z Z kU dO Z Z Z (fun _=>Z) (fun _=>Z) (by decide) (fun v3 s1 hs1=>?_)); cases hs1; refine Rw 2 [3] Z Z (AW.YJ 0 3 5 5 mixed (by kernel_rfl) (by kernel_rfl) (by kernel_rfl) Z Z Z Z ?_); refine Ev.nil ?_
  show Ev _ _ _ _ _ _ _
  refine Ev.cs aP 1 Z (Ev.cons Z Z Z (AO.bV (i:=3) Z Z Z aaQ Z Z zg) (Ev.cs aP 1 Z (Ev.nil ?_))); rcases dX hf with ⟨e4,y10,h9,hf⟩ | ⟨x4,y9,h9,hf⟩
  · refine TF.step Z Z Z (AO.call Z _ Z Z adO (AC.one 0 Z (bD _ _ h9 ⟨_,Z,?_⟩))); cases hf; exact ⟨rfl,_,(.cons _ (.cons _ (.cons _ (.cons _ (.cons _ (.cons_cons _ (List.nil_sublist _))))))),h⟩
  refine TF.step rfl rfl rfl (AO.call rfl _ rfl rfl adO (AC.one 0 rfl (bD _ _ h9 ⟨_,rfl,(TF.step rfl rfl rfl (AO.bq (aj.bn [x4]) rfl uq rfl rfl rfl (by first | rfl | simp only [List.map,aj.aG,aj.bn]) ?_))⟩))); refine TF.nil ?_; show AR _ _ _ _ _ _ _ _
  refine B1 hf fun x5 h10 hf=>AS Z (AO.eP (i:=2) (l:=aT.args) (m:=[x4]) h10 Z Z Z Z Z Z Z uq fM (aj.aB _) (aj.aB _) (aj.aB _).symm (aj.dV) (aj.cells_one) (by decide) (fun v4 s2 hs2=>?_)); cases hs2; obtain ⟨x6,y11,h11,hf⟩:=aY hf; refine Rr 3 [3] Z Z (CL Z (AC.one 5 Z (eG _ _ _ h11 ⟨_,Z,(J 1 Z (C hf Z (fun h12 hf=>?_) fun h12 hf=>?_))⟩)))
  ·
   rcases dX hf with ⟨e5,y13,jq,hf⟩ | ⟨_,y12,jq,hf⟩
   · refine W 1 Z (CL Z (AC.one 5 Z (dM _ _ _ jq ⟨_,Z,?_⟩))); cases hf; exact ⟨rfl,_,(.cons _ (.cons _ (.cons _ (.cons _ (.cons _ (.cons_cons _ (List.nil_sublist _))))))),h⟩
   refine W 1 Z (CL Z (AC.one 5 Z (dM _ _ _ jq ⟨_,Z,?_⟩))); cases hf; exact Rx 2 [3,4] rfl rfl ⟨rfl,_,⟨_,_,rfl,⟨_,_,4,_,_,rfl,rfl,kT,rfl⟩,rfl⟩,_,(.cons _ (.cons _ (.cons _ (.cons _ (.cons _ (.cons_cons _ (List.nil_sublist _))))))),h⟩
  refine AW.drop1 ?_; exact M 0 Z ⟨(aj.mk aT.kind aT.name aT.value x5 x3),v4,v3,y11,Z,Z,Z,hf⟩
 rcases dX hf with ⟨e6,y15,kg,hf⟩ | ⟨_,y14,kg,hf⟩
 · refine Wr 9 [5,5] Z Z (CL Z (AC.one 5 Z (dM _ _ _ kg ⟨_,Z,?_⟩))); cases hf; exact ⟨rfl,_,(.cons _ (.cons _ (.cons _ (.cons _ (.cons _ (.cons_cons _ (List.nil_sublist _))))))),h⟩
 refine Wr 9 [5,5] Z Z (CL Z (AC.one 5 Z (dM _ _ _ kg ⟨_,Z,(Rr 4 [3,0] Z Z (AS Z (AO.bq (List.map ko ([x2.text]:List Str)) Z kU Z Z Z Z ?_)))⟩))); refine B1 hf fun x7 kC hf=>AS Z (AO.eP (i:=1) (l:=aT.keys) (m:=([x2.text]:List Str)) kC Z Z Z Z Z Z Z kU dO Z Z Z (fun _=>Z) (fun _=>Z) (by decide) (fun v5 s3 hs3=>?_)); cases hs3; refine Rw 2 [3] Z Z (AW.YJ 0 3 5 5 mixed (by kernel_rfl) (by kernel_rfl) (by kernel_rfl) Z Z Z Z ?_); refine Ev.nil ?_
 show Ev _ _ _ _ _ _ _
 refine Ev.cs aP 1 Z (Ev.cons Z Z Z (AO.bV (i:=3) Z Z Z aaQ Z Z zg) (Ev.cs aP 1 Z (Ev.nil ?_))); rcases dX hf with ⟨e7,y17,h16,hf⟩ | ⟨x8,y16,h16,hf⟩
 · refine TF.step Z Z Z (AO.call Z _ Z Z adO (AC.one 0 Z (bD _ _ h16 ⟨_,Z,?_⟩))); cases hf; exact ⟨rfl,_,(.cons _ (.cons _ (.cons _ (.cons _ (.cons _ (.cons_cons _ (List.nil_sublist _))))))),h⟩
 refine TF.step rfl rfl rfl (AO.call rfl _ rfl rfl adO (AC.one 0 rfl (bD _ _ h16 ⟨_,rfl,(TF.step rfl rfl rfl (AO.bq (aj.bn [x8]) rfl uq rfl rfl rfl (by first | rfl | simp only [List.map,aj.aG,aj.bn]) ?_))⟩))); refine TF.nil ?_; show AR _ _ _ _ _ _ _ _
 refine B1 hf fun x9 mQ hf=>AS Z (AO.eP (i:=2) (l:=aT.args) (m:=[x8]) mQ Z Z Z Z Z Z Z uq fM (aj.aB _) (aj.aB _) (aj.aB _).symm (aj.dV) (aj.cells_one) (by decide) (fun v6 s4 hs4=>?_)); cases hs4; obtain ⟨CO,y18,h18,hf⟩:=aY hf; refine Rr 3 [3] Z Z (CL Z (AC.one 5 Z (eG _ _ _ h18 ⟨_,Z,(J 1 Z (C hf Z (fun h19 hf=>?_) fun h19 hf=>?_))⟩)))
 ·
  rcases dX hf with ⟨e8,y20,h20,hf⟩ | ⟨_,y19,h20,hf⟩
  · refine W 1 Z (CL Z (AC.one 5 Z (dM _ _ _ h20 ⟨_,Z,?_⟩))); cases hf; exact ⟨rfl,_,(.cons _ (.cons _ (.cons _ (.cons _ (.cons _ (.cons_cons _ (List.nil_sublist _))))))),h⟩
  refine W 1 Z (CL Z (AC.one 5 Z (dM _ _ _ h20 ⟨_,Z,?_⟩))); cases hf; exact Rx 2 [3,4] rfl rfl ⟨rfl,_,⟨_,_,rfl,⟨_,_,4,_,_,rfl,rfl,kT,rfl⟩,rfl⟩,_,(.cons _ (.cons _ (.cons _ (.cons _ (.cons _ (.cons_cons _ (List.nil_sublist _))))))),h⟩
 refine AW.drop1 ?_; exact M 0 Z ⟨(aj.mk aT.kind aT.name aT.value x9 x7),v6,v5,y18,Z,Z,Z,hf⟩
theorem gP :∀ k:Nat,(gu (bM k))∧(gq (bL k))∧(iD (cB k))∧(iE (cK k))∧(iQ (dB k))∧(iO (dA k))∧(iR (dD k))∧(gM (bU k)):=by
 intro k
 induction k with
 | zero=>exact ⟨fun _ _ _ _ hz=>by first | cases hz | (unfold bM at hz; cases hz),fun _ _ _ _ _ hz=>by first | cases hz | (unfold bL at hz; cases hz),fun _ _ _ _ hz=>by first | cases hz | (unfold cB at hz; cases hz),fun _ _ _ _ hz=>by first | cases hz | (unfold cK at hz; cases hz),fun _ _ _ _ hz=>by first | cases hz | (unfold dB at hz; cases hz),fun _ _ _ _ _ hz=>by first | cases hz | (unfold dA at hz; cases hz),fun _ _ _ _ _ hz=>by first | cases hz | (unfold dD at hz; cases hz),fun _ _ _ _ hz=>by first | cases hz | (unfold bU at hz; cases hz)⟩
 | succ k ih=>exact ⟨fun qx gN fu iX hz  Q hq=>D_ (bM k) ih.1 (bL k) ih.2.1 (cB k) ih.2.2.1 (cK k) ih.2.2.2.1 (dB k) ih.2.2.2.2.1 (dA k) ih.2.2.2.2.2.1 (dD k) ih.2.2.2.2.2.2.1 (bU k) ih.2.2.2.2.2.2.2 qx gN hz hq,fun qx gN OY fu iX hz  Q hq=>D9 (bM k) ih.1 (bL k) ih.2.1 (cB k) ih.2.2.1 (cK k) ih.2.2.2.1 (dB k) ih.2.2.2.2.1 (dA k) ih.2.2.2.2.2.1 (dD k) ih.2.2.2.2.2.2.1 (bU k) ih.2.2.2.2.2.2.2 qx gN OY hz hq,fun qx gN fu iX hz  Q hq=>Ic (bM k) ih.1 (bL k) ih.2.1 (cB k) ih.2.2.1 (cK k) ih.2.2.2.1 (dB k) ih.2.2.2.2.1 (dA k) ih.2.2.2.2.2.1 (dD k) ih.2.2.2.2.2.2.1 (bU k) ih.2.2.2.2.2.2.2 qx gN hz hq,fun qx gN fu iX hz  Q hq=>Ie (bM k) ih.1 (bL k) ih.2.1 (cB k) ih.2.2.1 (cK k) ih.2.2.2.1 (dB k) ih.2.2.2.2.1 (dA k) ih.2.2.2.2.2.1 (dD k) ih.2.2.2.2.2.2.1 (bU k) ih.2.2.2.2.2.2.2 qx gN hz hq,fun qx gN fu iX hz  Q hq=>Ir (bM k) ih.1 (bL k) ih.2.1 (cB k) ih.2.2.1 (cK k) ih.2.2.2.1 (dB k) ih.2.2.2.2.1 (dA k) ih.2.2.2.2.2.1 (dD k) ih.2.2.2.2.2.2.1 (bU k) ih.2.2.2.2.2.2.2 qx gN hz hq,fun qx gN pE fu iX hz  Q hq=>Iq (bM k) ih.1 (bL k) ih.2.1 (cB k) ih.2.2.1 (cK k) ih.2.2.2.1 (dB k) ih.2.2.2.2.1 (dA k) ih.2.2.2.2.2.1 (dD k) ih.2.2.2.2.2.2.1 (bU k) ih.2.2.2.2.2.2.2 qx gN pE hz hq,fun qx gN Ht fu iX hz  Q hq=>Iu (bM k) ih.1 (bL k) ih.2.1 (cB k) ih.2.2.1 (cK k) ih.2.2.2.1 (dB k) ih.2.2.2.2.1 (dA k) ih.2.2.2.2.2.1 (dD k) ih.2.2.2.2.2.2.1 (bU k) ih.2.2.2.2.2.2.2 qx gN Ht hz hq,fun qx gN fu iX hz  Q hq=>Fz (bM k) ih.1 (bL k) ih.2.1 (cB k) ih.2.2.1 (cK k) ih.2.2.2.1 (dB k) ih.2.2.2.2.1 (dA k) ih.2.2.2.2.2.1 (dD k) ih.2.2.2.2.2.2.1 (bU k) ih.2.2.2.2.2.2.2 qx gN hz hq⟩
theorem vT (qx:Nat) (gN:ak) {fu:fq aA aj} {iX:ak} (hf:xJ gN=some (fu,iX)) {Q:eZ→List bE→Prop} (h:Q (o7 fu) [.box qx (aV iX)]):PC 155 [pP qx] [.box qx (aV gN)] Q:=
 ((gP BIG).1) qx gN hf h
theorem Sy (qx:Nat) (gN:ak) (OY:Int) {fu:fq aA aj} {iX:ak} (hf:FV gN OY=some (fu,iX)) {Q:eZ→List bE→Prop} (h:Q (oZ fu) [.box qx (aV iX)]):PC 198 [pP qx,iP OY] [.box qx (aV gN)] Q:=
 ((gP BIG).2.1) qx gN OY hf h
theorem Xc (qx:Nat) (gN:ak) {fu:fq aA aj} {iX:ak} (hf:Kh gN=some (fu,iX)) {Q:eZ→List bE→Prop} (h:Q (sO fu) [.box qx (aV iX)]):PC 234 [pP qx] [.box qx (aV gN)] Q:=
 ((gP BIG).2.2.1) qx gN hf h
theorem Xd (qx:Nat) (gN:ak) {fu:fq aA aj} {iX:ak} (hf:Ki gN=some (fu,iX)) {Q:eZ→List bE→Prop} (h:Q (sQ fu) [.box qx (aV iX)]):PC 269 [pP qx] [.box qx (aV gN)] Q:=
 ((gP BIG).2.2.2.1) qx gN hf h
theorem Y5 (qx:Nat) (gN:ak) {fu:fq aA aj} {iX:ak} (hf:KV gN=some (fu,iX)) {Q:eZ→List bE→Prop} (h:Q (t_ fu) [.box qx (aV iX)]):PC 290 [pP qx] [.box qx (aV gN)] Q:=
 ((gP BIG).2.2.2.2.1) qx gN hf h
theorem Y4 (qx:Nat) (gN:ak) (pE:Str) {fu:fq aA aj} {iX:ak} (hf:KU gN pE=some (fu,iX)) {Q:eZ→List bE→Prop} (h:Q (tZ fu) [.box qx (aV iX)]):PC 308 [pP qx,.str pE] [.box qx (aV gN)] Q:=
 ((gP BIG).2.2.2.2.2.1) qx gN pE hf h
theorem Y6 (qx:Nat) (gN:ak) (Ht:Str) {fu:fq aA (List aj)} {iX:ak} (hf:KW gN Ht=some (fu,iX)) {Q:eZ→List bE→Prop} (h:Q (uf fu) [.box qx (aV iX)]):PC 309 [pP qx,.str Ht] [.box qx (aV gN)] Q:=
 ((gP BIG).2.2.2.2.2.2.1) qx gN Ht hf h
theorem U7 (qx:Nat) (gN:ak) {fu:fq aA aj} {iX:ak} (hf:Ih gN=some (fu,iX)) {Q:eZ→List bE→Prop} (h:Q (qF fu) [.box qx (aV iX)]):PC 310 [pP qx] [.box qx (aV gN)] Q:=
 ((gP BIG).2.2.2.2.2.2.2) qx gN hf h
end

section
variable [Ay]
theorem TD (Qd:List aX) {r0:aj} {r1 r2:Int} (hf:I5 Qd=some (r0,r1,r2)) (h:Q (.ret (.tuple [.agg (aS r0),iP r1,iP r2])) τ):PC 115 [.list (List.map aX.cells Qd)] τ Q:=by
 unfold I5 at hf; refine AC.none (AC.Ot 17 [.cell 2 28,.cell 3 3,.cell 4 38] [0] [0,1,2] Tryz.func115 Z Z Z Z Z Tryz.func154 Z Z Z Z Z Z Z ahN (AW.sr (AR.step Z Z Z (AO.aH Z kS (fun b2=>?_))))); refine AR.step Z Z Z (AO.aH Z ai7 (fun b3=>(AR.step Z Z Z (AO.aH Z arl (fun b4=>(AR.nil [0,2,3,4] Z (AW.sr ?_))))))); refine cs 1 Z (AR.step Z Z Z (AO.build Z att asD Z (AR.step Z Z Z (AO.abz Z Z (fun b8=>(cs 1 Z ?_))))))
 refine AR.nil [2,3,4,5] Z (AW.sr (cs 1 Z (AR.defer (vs:=[.pointer (some ⟨b2,0,none⟩),.pointer (some ⟨b3,0,none⟩),.pointer (some ⟨b4,0,none⟩)]) Z Z Z Z Z Z ?_))); refine AR.nil [2,3,4,5] Z (AW.sr (cs 1 Z ?_)); rcases dX hf with ⟨f1,s1,h1,hf⟩ | ⟨e1,s1,h1,hf⟩
 ·
  refine AR.step Z Z Z (AO.call Z _ Z Z adO (AC.one 0 Z (vT _ _ h1 ⟨_,Z,?_⟩))); cases hf; refine ⟨[.pointer (some ⟨b2,0,none⟩),.pointer (some ⟨b3,0,none⟩),.pointer (some ⟨b4,0,none⟩)],_,Z,Z,Z,(AR.step Z Z Z (AO.aaR Z Z asy (cs 3 Z (AR.step Z Z Z (AO.aH Z aro (fun b5=>?_))))))⟩; refine AR.fH Z Z (AO.ig (i:=0) Z Z Z arw Z Z Z Z Z (cs 1 Z (AR.nil [0,1,2,3,4] Z (AW.sr ?_))))
  refine cs 1 Z (AR.nil [0,1,2,3,10] Z (AW.cond Z (fun _=>?_) (fun hh=>by cases hh))); refine AW.abr 1 5 7 [_] [_,_,_,_] mixed (by kernel_rfl) (by kernel_rfl) (by kernel_rfl) Z Z Z (List.Perm.refl _) ?_; refine Ev.cons Z Z Z (AO.build Z kS adv Z zg) (Ev.nil ?_); show Ev _ _ _ _ _ _ _
  refine Ev.cs aP 1 Z (Ev.cons Z Z Z (AO.bV (i:=0) Z Z Z FE Z Z zg) (Ev.cs aP 1 Z (Ev.cons Z Z Z (AO.bV (i:=0) Z Z Z amx Z Z zg) ?_))); refine Ev.nil (TF.fH Z Z (AO.ig (i:=3) Z Z Z kT Z Z Z Z Z (TF.fH Z Z (AO.ig (i:=2) Z Z Z FE Z Z Z Z Z (TF.nil ?_))))); show AR _ _ _ _ _ _ _ _
  refine AR.fH Z Z (AO.ig (i:=2) Z Z Z amx Z Z Z Z Z (AR.nil [] Z ?_)); exact ⟨rfl,_,⟨_,_,rfl,⟨_,_,4,_,_,rfl,rfl,kT,rfl⟩,⟨_,_,rfl,⟨_,_,3,_,_,rfl,rfl,FE,rfl⟩,⟨_,_,rfl,⟨_,_,2,_,_,rfl,rfl,amx,rfl⟩,rfl⟩⟩⟩,[],List.nil_sublist _,h⟩
 refine AR.step Z Z Z (AO.call Z _ Z Z adO (AC.one 0 Z (vT _ _ h1 ⟨_,Z,?_⟩))); cases hf; refine AR.fH Z Z (AO.ig (i:=3) Z Z Z kT Z Z Z Z Z (AR.nil [2,3,4,5] Z (AW.seq (AW.YJ 1 5 6 3 mixed (by kernel_rfl) (by kernel_rfl) (by kernel_rfl) Z Z Z Z ?_)))); refine Ev.cons Z Z Z (AO.bV (i:=3) Z Z Z kT Z Z zg) (Ev.nil ?_); show Ev _ _ _ _ _ _ _
 refine Ev.cs aP 3 Z (Ev.cons Z Z Z (AO.bV (i:=0) Z Z Z FE Z Z zg) (Ev.nil (TF.fH Z Z (AO.ig (i:=0) Z Z Z kT Z Z Z Z Z ?_)))); refine TF.nil ?_; show AR _ _ _ _ _ _ _ _
 refine AR.fH Z Z (AO.ig (i:=2) Z Z Z FE Z Z Z Z Z (AR.fH Z Z (AO.ig (i:=1) Z Z Z amx Z Z Z Z Z (AR.nil [2,3,4] Z (AW.ret ?_))))); refine ⟨[.pointer (some ⟨b2,0,none⟩),.pointer (some ⟨b3,0,none⟩),.pointer (some ⟨b4,0,none⟩)],_,Z,Z,Z,(AR.step Z Z Z (AO.Xy (p:=.agg [iP 0,iP 0]) Z Z asz (fun _ _=>by simp only [eH]; exact ⟨[.int .i64 0,.int .i64 0],Z,bC.cons (by simp [eH]) (bC.cons (by simp [eH]) bC.nil)⟩) ?_))⟩
 refine cs 3 Z (AR.step Z Z Z (AO.aH Z aro (fun b5=>(AR.fH Z Z (AO.ig (i:=0) Z Z Z arw Z Z Z Z Z (cs 1 Z ?_)))))); refine AR.nil [4] Z (AW.sr (cs 1 Z (AR.nil [10] Z ?_))); refine AW.cond Z (fun hh=>by cases hh) (fun _=>?_); refine AW.skip ?_; exact ⟨rfl,_,⟨_,_,rfl,⟨_,_,4,_,_,rfl,rfl,kT,rfl⟩,⟨_,_,rfl,⟨_,_,3,_,_,rfl,rfl,FE,rfl⟩,⟨_,_,rfl,⟨_,_,2,_,_,rfl,rfl,amx,rfl⟩,rfl⟩⟩⟩,[],List.nil_sublist _,h⟩
end


abbrev JL (jU:aj→Option Int):Prop:=∀ (fV:aj) {aU:Int},jU fV=some aU→∀ {τ:List bE} {Q:eZ→List bE→Prop} (h:Q (.ret (iP aU)) τ),PC 42 [.agg (aS fV)] τ Q
theorem P_ (jU) (Nw:JL jU) (e1:aj) {r0:Int} (hf:yP jU e1=some r0) (h:Q (.ret (iP r0)) τ):PC 42 [.agg (aS e1)] τ Q:=by
 unfold yP at hf; refine BN 19 [.tmp 2] [0] Tryz.func42 Z Z Z Z Z (W 5 Z (AS Z (AO.aL (l:=e1.args) Z Z Z Z fM Z (aj.aB _) (J 1 Z (Zf (fun n1 x1=>[(3,iP n1),(7,.list (aj.bn e1.args)),(8,iP (e1.args.length:Int)),(9,iP x1)]) (fun n1 x1=>[]) (fun bW n1 x1=>su jU e1 bW n1 x1=some r0) BIG 1 0 Z Z hf (fun _ _ hz=>bQ hz) ?_))))); intro bW n1 x1 hf; rw [su] at hf; refine V 1 Z (C hf Z (fun h1 hf=>?_) fun h1 hf=>?_)
 · refine B1 hf fun e2 h2 hf=>W 0 Z (AS Z (AO.aM h2 Z Z (aj.aB _) Z fM (aj.aG _) Z (U 1 Z (AS Z (AO.aH Z kS (fun b5=>?_)))))); refine B1 hf fun x2 h3 hf=>Rr 3 [0,0] Z Z (CL Z (Nw _ h3 (eU 4 Z (AR.drop1 ?_)))); exact N 0 Z ⟨(bS (n1 + x2)),(bS (x1 + 1)),Z,Z,Z,hf⟩
 cases hf; exact M 2 Z (Y Z h)
theorem QL :∀ k:Nat,(JL (lJ k)):=by
 intro k
 induction k with
 | zero=>exact fun _ _ hz=>by first | cases hz | (unfold lJ at hz; cases hz)
 | succ k ih=>exact fun fV aU hz τ Q hq=>P_ (lJ k) ih fV hz hq
theorem R4 (fV:aj) {aU:Int} (hf:Co fV=some aU) (h:Q (.ret (iP aU)) τ):PC 42 [.agg (aS fV)] τ Q:=
 ((QL BIG)) fV hf h

theorem TA (v1:ah) {r0:Bool} (hf:Ey v1=some r0) (h:Q (.ret (.bool r0)) τ):PC 116 [.agg (aF v1)] τ Q:=by
 unfold Ey at hf; refine BN 33 [.tmp 2] [0] Tryz.func116 Z Z Z Z Z (W 6 Z (An 4 6 10 [1] (!v1.dh) Z Z Z Z (U 1 Z (An 4 11 15 [1] (v1.bZ == 0) Z Z Z Z (U 1 Z (An 4 16 20 [1] (v1.bI == ([]:Str)) Z Z Z Z ?_)))))); refine U 1 Z (AR.and 5 21 26 [1] (x:=((v1.aI.length:Int) == 0)) Z Z (fun h4=>?_) (fun h4=>?_) ?_)
 · refine Is 21 h4 Z (U 2 Z (GO Z (AO.aL (l:=v1.aI) Z Z Z Z dN Z (ah.aB _) ?_))); exact eU 2 Z (En [26,1] Z)
 · refine Is 21 h4 Z ?_; exact eU 5 Z (En [26,1] Z)
 refine U 1 Z (AR.and 5 27 32 [] (x:=((v1.keys.length:Int) == 0)) Z Z (fun h5=>?_) (fun h5=>?_) ?_)
 · refine Is 27 h5 Z (U 2 Z (GO Z (AO.aL (l:=v1.keys) Z Z Z Z dO Z Z ?_))); exact eU 2 Z (En [32] Z)
 · refine Is 27 h5 Z ?_; exact eU 5 Z (En [32] Z)
 cases hf; exact N 1 Z (Y Z h)

theorem D5 (s1:Str) {r0:Bool} (hf:rO s1=some r0) (h:Q (.ret (.bool r0)) τ):PC 156 [.str s1] τ Q:=by
 unfold rO at hf; refine BN 10 [.tmp 2] [0] Tryz.func156 Z Z Z Z Z ?_; refine B1 hf fun x1 h1 hf=>W 2 Z (CL Z (KD _ h1 ?_)); replace hf:=(aJ _).trans hf; refine B1 hf fun b1 h3 hf=>U 1 Z (AR.eX 4 5 9 true [] b1 Z Z (fun h2=>?_) (fun h2=>?_) ?_)
 · replace h3:=eD h2 h3; refine Is 5 h2 Z ?_; obtain ⟨x2,h4,h3⟩:=aN h3; refine U 1 Z (GO Z (AO.call Z _ Z Z arQ (Fu _ h4 ?_))); obtain rfl:=Option.some.inj h3; exact eU 2 Z (En [9] Z)
 · replace h3:=eF h2 h3; refine Is 5 h2 Z ?_; obtain rfl:=Option.some.inj h3; exact eU 4 Z (En [9] Z)
 cases hf; exact N 1 Z (Y Z h)

theorem RX (e1:aj) {r0:Bool} (hf:yL e1=some r0) (h:Q (.ret (.bool r0)) τ):PC 117 [.agg (aS e1)] τ Q:=by
 unfold yL at hf; refine BN 31 [.tmp 2] [0] Tryz.func117 Z Z Z Z Z (V 6 Z (C hf Z (fun h1 hf=>?_) fun h1 hf=>?_))
 ·
  refine V 0 Z (AW.cond Z (fun h2=>?_) (fun h2=>?_))
  · replace hf:=(aJ _).trans hf; refine B1 hf fun x1 h3 hf=>W 2 Z (CL Z (D5 _ h3 ?_)); cases hf; exact N 1 Z (Y Z h)
  cases h1.symm.trans h2
 refine V 2 Z (C hf Z (fun h4 hf=>?_) fun h4 hf=>?_)
 ·
  refine V 0 Z (AW.cond Z (fun h5=>?_) (fun h5=>?_))
  · replace hf:=(aJ _).trans hf; refine B1 hf fun x2 h6 hf=>W 2 Z (CL Z (D5 _ h6 ?_)); cases hf; exact N 1 Z (Y Z h)
  cases h4.symm.trans h5
 refine V 2 Z (C hf Z (fun h7 hf=>?_) fun h7 hf=>?_)
 · replace hf:=(aJ _).trans hf; refine B1 hf fun x3 h8 hf=>W 2 Z (CL Z (D5 _ h8 ?_)); cases hf; exact N 1 Z (Y Z h)
 refine V 2 Z (C hf Z (fun h9 hf=>?_) fun h9 hf=>?_)
 · refine W 4 Z (On 4 17 21 [] (e1.name == ([45]:Str)) Z Z Z Z ?_); cases hf; exact N 1 Z (Y Z h)
 refine V 2 Z (C hf Z (fun h11 hf=>?_) fun h11 hf=>?_)
 · refine B1 hf fun x4 h12 hf=>W 2 Z (CL Z (tO _ h12 ?_)); cases hf; exact N 2 Z (Y Z h)
 cases hf; exact M 4 Z (Y Z h)

theorem R3 (e1:aj) {r0:Bool} (hf:yO e1=some r0) (h:Q (.ret (.bool r0)) τ):PC 118 [.agg (aS e1)] τ Q:=by
 unfold yO at hf; refine BN 32 [.tmp 2] [0] Tryz.func118 Z Z Z Z Z (V 6 Z (C hf Z (fun h1 hf=>?_) fun h1 hf=>?_))
 ·
  refine V 0 Z (AW.cond Z (fun h2=>?_) (fun h2=>?_))
  · refine W 2 Z (AS Z (AO.aL (l:=e1.args) Z Z Z Z fM Z (aj.aB _) ?_)); cases hf; exact N 2 Z (Y Z h)
  cases h1.symm.trans h2
 refine V 2 Z (C hf Z (fun h3 hf=>?_) fun h3 hf=>?_)
 · refine W 2 Z (AS Z (AO.aL (l:=e1.args) Z Z Z Z fM Z (aj.aB _) ?_)); cases hf; exact N 2 Z (Y Z h)
 refine V 2 Z (C hf Z (fun h4 hf=>?_) fun h4 hf=>?_)
 ·
  refine V 0 Z (AW.cond Z (fun h5=>?_) (fun h5=>?_))
  · refine W 2 Z (AS Z (AO.aL (l:=e1.args) Z Z Z Z fM Z (aj.aB _) ?_)); cases hf; exact N 2 Z (Y Z h)
  cases h4.symm.trans h5
 refine V 2 Z (C hf Z (fun h6 hf=>?_) fun h6 hf=>?_)
 · refine W 2 Z (AS Z (AO.aL (l:=e1.args) Z Z Z Z fM Z (aj.aB _) ?_)); cases hf; exact N 2 Z (Y Z h)
 refine V 2 Z (C hf Z (fun h7 hf=>?_) fun h7 hf=>?_)
 ·
  refine V 0 Z (AW.cond Z (fun h8=>?_) (fun h8=>?_))
  · refine W 2 Z (AS Z (AO.aL (l:=e1.args) Z Z Z Z fM Z (aj.aB _) ?_)); cases hf; exact N 2 Z (Y Z h)
  cases h7.symm.trans h8
 refine V 2 Z (C hf Z (fun h9 hf=>?_) fun h9 hf=>?_)
 · refine W 2 Z (AS Z (AO.aL (l:=e1.args) Z Z Z Z fM Z (aj.aB _) ?_)); cases hf; exact N 2 Z (Y Z h)
 refine V 2 Z (C hf Z (fun h10 hf=>?_) fun h10 hf=>?_)
 · refine W 2 Z (AS Z (AO.aL (l:=e1.args) Z Z Z Z fM Z (aj.aB _) ?_)); cases hf; exact N 2 Z (Y Z h)
 cases hf; exact M 1 Z (Y Z h)

theorem xA (s1:List Str) (f1:Str→Option Bool) (Wt:FuncId) (f1C:List PV) (f1P:bG Tryz.prog Wt=true) (f1H:∀ a0 b0,f1 a0=some b0→∀ {τ:List bE} {Q:eZ→List bE→Prop},Q (.ret (.bool b0)) τ→PC Wt ([.str a0] ++ f1C) τ Q) {r0:Int} (hf:jG s1 f1=some r0) (h:Q (.ret (iP r0)) τ):PC 203 [sP s1,.fn Wt f1C] τ Q:=by
 unfold jG at hf; refine BN 19 [.tmp 4] [0,1] Tryz.func203 Z Z Z Z Z (W 2 Z (AS Z (AO.aL (l:=s1) Z Z Z Z dO Z Z (J 1 Z (Gc (fun i1=>[(0,sP s1),(1,.fn Wt f1C),(7,iP (s1.length:Int)),(8,iP i1)]) (fun i1=>[]) (fun bW i1=>gZ s1 f1 bW i1=some r0) BIG 0 Z Z hf (fun _ hz=>bQ hz) ?_))))); intro bW i1 hf; rw [gZ] at hf; refine V 1 Z (C hf Z (fun h1 hf=>?_) fun h1 hf=>?_)
 ·
  refine B1 hf fun e1 h2 hf=>W 5 Z (AS Z (AO.aM h2 Z Z Z Z dO Z Z ?_)); refine B1 hf fun x1 h3 hf=>U 1 Z (AS Z (AO.call Z _ Z Z f1P (f1H _ _ h3 (J 0 Z (C hf Z (fun h4 hf=>?_) fun h4 hf=>?_)))))
  · cases hf; exact M 2 Z (Y Z h)
  exact M 2 Z ⟨(bS (i1 + 1)),Z,Z,Z,hf⟩
 cases hf; exact M 1 Z (Y Z h)

theorem vM (s1:List Str) (f1:Str→Option Bool) (Wt:FuncId) (f1C:List PV) (f1P:bG Tryz.prog Wt=true) (f1H:∀ a0 b0,f1 a0=some b0→∀ {τ:List bE} {Q:eZ→List bE→Prop},Q (.ret (.bool b0)) τ→PC Wt ([.str a0] ++ f1C) τ Q) {r0:Bool} (hf:g_ s1 f1=some r0) (h:Q (.ret (.bool r0)) τ):PC 158 [sP s1,.fn Wt f1C] τ Q:=by
 unfold g_ at hf; refine BN 9 [.tmp 4] [0,1] Tryz.func158 Z Z Z Z Z ?_; refine B1 hf fun x1 h1 hf=>W 3 Z (CL Z (xA _ f1 Wt f1C f1P @f1H h1 ?_)); cases hf; exact N 2 Z (Y Z h)

theorem NP (xO:Str) {r0:Bool} (hf:kI xO=some r0) (h:Q (.ret (.bool r0)) τ):PC 159 [.str xO] τ Q:=by
 unfold kI at hf; refine BN 11 [.tmp 2] [0] Tryz.func159 Z Z Z Z Z (W 2 Z (AS Z (AO.bJ Z Z Z Z cu Z (U 2 Z (AR.or 4 6 10 [] (x:=(decide (64 < (xO.length:Int)))) Z Z (fun h1=>?_) (fun h1=>?_) ?_)))))
 · refine Is 6 h1 Z (U 1 Z (GO Z (AO.bJ Z Z Z Z cu Z ?_))); exact eU 2 Z (En [10] Z)
 · refine Is 6 h1 Z ?_; exact eU 4 Z (En [10] Z)
 cases hf; exact N 1 Z (Y Z h)

theorem RY (e1:aj) {r0:Bool} (hf:yM e1=some r0) (h:Q (.ret (.bool r0)) τ):PC 119 [.agg (aS e1)] τ Q:=by
 unfold yM at hf; refine BN 23 [.tmp 2] [0] Tryz.func119 Z Z Z Z Z (V 5 Z (C hf Z (fun h1 hf=>?_) fun h1 hf=>?_))
 · refine W 2 Z (AS Z (AO.aL (l:=e1.keys) Z Z Z Z dO Z Z ?_)); cases hf; exact N 2 Z (Y Z h)
 refine W 2 Z (AS Z (AO.aL (l:=e1.keys) Z Z Z Z dO Z Z (U 2 Z (AS Z (AO.aL (l:=e1.args) Z Z Z Z fM Z (aj.aB _) ?_))))); replace hf:=(aJ _).trans hf; refine B1 hf fun b1 h3 hf=>U 2 Z (AR.eX 5 17 22 true [] b1 Z Z (fun h2=>?_) (fun h2=>?_) ?_)
 · replace h3:=eD h2 h3; refine Is 17 h2 Z ?_; obtain ⟨x1,h4,h3⟩:=aN h3; refine U 2 Z (GO Z (AO.call Z _ Z Z atN (vM _ kI 159 [] ahL (fun _ _ hz=>NP _  hz) h4 ?_))); obtain rfl:=Option.some.inj h3; exact eU 2 Z (En [22] Z)
 · replace h3:=eF h2 h3; refine Is 17 h2 Z ?_; obtain rfl:=Option.some.inj h3; exact eU 5 Z (En [22] Z)
 cases hf; exact N 1 Z (Y Z h)

theorem Vp {β:Type} (l:Nat) (T:β→List bE) (go:β→ah→Int→Option (Bool × β))
  (goH:∀ s1 v1 bP b s2,go s1 v1 bP=some (b,s2)→∀ {Q:eZ→List bE→Prop},Q (.ret (.bool b)) (T s2)→PC 101 [.agg (aF v1),iP bP,.val (.func (.yield l) #[] #[])] (T s1) Q)
  (y:β→Int→ah→Option (Bool × β)) (hy:∀ s1 bP v1 b s2,y s1 bP v1=some (b,s2)→AY Tryz.prog l [iP bP,.agg (aF v1)] (T s1) (fun out σ'=>out=.ret (.bool b)∧σ'=T s2))
  (s1:β) (v1:ah) (bP:Int) {b:Bool} {s2:β} (hf:u7 go y s1 v1 bP=some (b,s2)) {Q:eZ→List bE→Prop} (h:Q (.ret (.bool b)) (T s2)):
  PC 101 [.agg (aF v1),iP bP,.val (.func (.yield l) #[] #[])] (T s1) Q:=by
 unfold u7 at hf; refine AC.AZ 28 [.tmp 6] [0,1,2] Tryz.func101 Z Z Z Z Z (AW.sr (AR.step Z Z Z (AO.MW Z Z Z (cs 1 Z ?_)))); refine AR.nil [1,2,3] Z (AW.seq (AW.seq (AW.afD ?_))); refine ARI.step Z Z Z Z (AO.calc' Z (ARI.step Z Z Z Z (AO.calc' Z (ARI.step Z Z Z Z (AO.QT Z Z bY Z ?_))))); obtain ⟨b1,s3,h1,hf⟩:=aY hf; refine ARI.yield Z Z Z Z Z _ Z Z (hy _ _ _ _ _ h1) (ARI.of Z (cs 1 Z (AR.nil [1,2,3,13] Z ?_))); refine AW.cond Z (fun h2=>?_) (fun h2=>?_)
 · replace hf:=eD h2 hf; refine AW.sr (cs 1 Z (AR.nil [6] Z (AW.ret ?_))); cases hf; exact ⟨rfl,_,⟨_,_,rfl,rfl,rfl⟩,_,List.Sublist.refl _,h⟩
 replace hf:=eF h2 hf; refine AW.skip (AW.seq (AW.sr (cs 2 Z ?_))); refine AR.step Z Z Z (AO.aL (l:=v1.aI) Z Z Z Z dN Z ((ah.aB _)) (cs 1 Z (AR.nil [1,2,15,16,17] Z (AW.block ?_)))); refine AW.aia (fun (_:β) i1=>[(1,iP bP),(2,.val (.func (.yield l) #[] #[])),(15,.list (ah.bn v1.aI)),(16,iP (v1.aI.length:Int)),(17,iP i1)]) (fun s1 _=>T s1) (fun bW s1 i1=>lq go v1 bP bW s1 i1=some (b,s2)) BIG s3 0 Z Z hf (fun _ _ hz=>bQ hz) ?_; intro bW s4 i1 hf
 rw [lq] at hf; refine AW.sr (cs 1 Z (AR.nil [1,2,15,16,17,18] Z (AW.seq ?_))); refine AW.cond Z (fun h1=>?_) (fun h1=>?_)
 ·
  replace hf:=eD h1 hf; refine AW.skip (AW.seq (AW.block (AW.sr ?_))); refine B1 hf fun x1 h3 hf=>AR.step Z Z Z (AO.aM h3 Z Z ((ah.aB _)) Z dN ((ah.aG _)) Z (cs 1 Z (AR.step Z Z Z (AO.aH Z eY (fun b8=>(AR.fH Z Z (AO.ig (i:=0) Z Z Z bY Z Z Z Z Z ?_))))))); refine AR.nil [1,2,8,15,16,17] Z (AW.sr (AR.step Z Z Z (AO.bV (i:=0) Z Z Z bY Z Z (cs 3 Z ?_)))); obtain ⟨b2,s5,h4,hf⟩:=aY hf
  refine AR.drop1 (AR.step Z Z Z (AO.call Z _ Z Z atZ (goH _ _ _ _ _ h4 (cs 1 Z (AR.nil [1,2,15,16,17,26] Z ?_))))); refine AW.cond Z (fun h5=>?_) (fun h5=>?_)
  · replace hf:=eD h5 hf; refine AW.sr (cs 1 Z (AR.nil [6] Z (AW.ret ?_))); cases hf; exact ⟨rfl,_,⟨_,_,rfl,rfl,rfl⟩,_,List.Sublist.refl _,h⟩
  replace hf:=eF h5 hf; refine AW.skip (AW.region (cs 2 Z (AR.nil [1,2,15,16,17] Z ?_))); exact ⟨s5,(bS (i1 + 1)),Z,Z,Z,hf⟩
 replace hf:=eF h1 hf; refine AW.exit (AW.sr (cs 1 Z (AR.nil [6] Z ?_))); refine AW.ret ?_; cases hf; exact ⟨rfl,_,⟨_,_,rfl,rfl,rfl⟩,_,List.Sublist.refl _,h⟩
theorem Mf {β:Type} (l:Nat) (T:β→List bE) (y:β→Int→ah→Option (Bool × β)) (hy:∀ s1 bP v1 b s2,y s1 bP v1=some (b,s2)→AY Tryz.prog l [iP bP,.agg (aF v1)] (T s1) (fun out σ'=>out=.ret (.bool b)∧σ'=T s2)):
  ∀ (k:Nat) (s1:β) (v1:ah) (bP:Int) (b:Bool) (s2:β),gV y k s1 v1 bP=some (b,s2)→∀ {Q:eZ→List bE→Prop},Q (.ret (.bool b)) (T s2)→PC 101 [.agg (aF v1),iP bP,.val (.func (.yield l) #[] #[])] (T s1) Q
 | 0,_,_,_,_,_,hz=>by cases hz
 | k + 1,s1,v1,bP,b,s2,hz=>fun h=>Vp l T (gV y k) (fun s1 v1 bP b s2 hz=>Mf l T y hy k s1 v1 bP b s2 hz) y hy s1 v1 bP hz h

theorem HV {β:Type} (l:Nat) (T:β→List bE) (y:β→Int→ah→Option (Bool × β)) (hy:∀ s1 bP v1 b s2,y s1 bP v1=some (b,s2)→AY Tryz.prog l [iP bP,.agg (aF v1)] (T s1) (fun out σ'=>out=.ret (.bool b)∧σ'=T s2))
    (s1:β) (v1:ah) (bP:Int) {b:Bool} {s2:β} (hf:Db y s1 v1 bP=some (b,s2)) {Q:eZ→List bE→Prop} (h:Q (.ret (.tuple [])) (T s2)):
    PC 100 [.val (.func (.yield l) #[] #[]),.ref (aF v1),.ref [iP bP]] (T s1) Q:=by
 refine BD 8 [] [0,1,2] Tryz.func100 Z Z Z Z Z (W 3 Z (CL Z (Mf l T y hy BIG _ _ _ _ _ hf ?_))); exact N 0 rfl ⟨rfl,_,rfl,_,List.Sublist.refl _,h⟩
theorem KA (v1:ah) (bP:Int) (h:Q (.ret (.fn 100 [.ref (aF v1),.ref [iP bP]])) τ):PC 60 [.agg (aF v1),iP bP] τ Q:=by
 refine BN 6 [.tmp 4] [0,1] Tryz.func60 Z Z Z Z Z ?_; exact M 5 Z (Y Z h)

theorem RL (v1:ah) {r0:Bool} (hf:Ch v1=some r0) (h:Q (.ret (.bool r0)) τ):PC 102 [.agg (aF v1)] τ Q:=by
 unfold Ch at hf; refine BN 58 [.tmp 2] [0] Tryz.func102 Z Z Z Z Z (W 6 Z (On 4 6 10 [1] (!v1.dh) Z Z Z Z (U 1 Z (AR.and 9 11 20 [1] (x:=((v1.kind == 2) || (v1.bZ == 0))) Z Z (fun h2=>?_) (fun h2=>?_) ?_))))
 · refine Is 11 h2 Z (U 4 Z (On 4 15 19 [1,11] (v1.bZ == 0) Z Z Z Z ?_)); exact eU 1 Z (En [20,1] Z)
 · refine Is 11 h2 Z ?_; exact eU 9 Z (En [20,1] Z)
 refine U 1 Z (AR.and 9 21 30 [1] (x:=((v1.kind == 3) || (v1.bI == ([]:Str)))) Z Z (fun h4=>?_) (fun h4=>?_) ?_)
 · refine Is 21 h4 Z (U 4 Z (On 4 25 29 [1,21] (v1.bI == ([]:Str)) Z Z Z Z ?_)); exact eU 1 Z (En [30,1] Z)
 · refine Is 21 h4 Z ?_; exact eU 9 Z (En [30,1] Z)
 refine U 1 Z (AR.and 15 31 46 [1] (x:=(((v1.kind == 4) || (v1.kind == 5)) || ((v1.aI.length:Int) == 0))) Z Z (fun h6=>?_) (fun h6=>?_) ?_)
 ·
  refine Is 31 h6 Z (U 4 Z (On 4 35 39 [1,31] (v1.kind == 5) Z Z Z Z (U 1 Z (AR.or 5 40 45 [1,31] (x:=((v1.aI.length:Int) == 0)) Z Z (fun h8=>?_) (fun h8=>?_) ?_))))
  · refine Is 40 h8 Z (U 2 Z (GO Z (AO.aL (l:=v1.aI) Z Z Z Z dN Z (ah.aB _) ?_))); exact eU 2 Z (En [45,1,31] Z)
  · refine Is 40 h8 Z ?_; exact eU 5 Z (En [45,1,31] Z)
  exact eU 1 Z (En [46,1] Z)
 · refine Is 31 h6 Z ?_; exact eU 15 Z (En [46,1] Z)
 refine U 1 Z (AR.and 10 47 57 [] (x:=((v1.kind == 5) || ((v1.keys.length:Int) == 0))) Z Z (fun h9=>?_) (fun h9=>?_) ?_)
 ·
  refine Is 47 h9 Z (U 4 Z (AR.or 5 51 56 [47] (x:=((v1.keys.length:Int) == 0)) Z Z (fun h10=>?_) (fun h10=>?_) ?_))
  · refine Is 51 h10 Z (U 2 Z (GO Z (AO.aL (l:=v1.keys) Z Z Z Z dO Z Z ?_))); exact eU 2 Z (En [56,47] Z)
  · refine Is 51 h10 Z ?_; exact eU 5 Z (En [56,47] Z)
  exact eU 1 Z (En [57] Z)
 · refine Is 47 h9 Z ?_; exact eU 10 Z (En [57] Z)
 cases hf; exact N 1 Z (Y Z h)

theorem TN (c1:UInt8) {r0:Bool} (hf:ED c1=some r0) (h:Q (.ret (.bool r0)) τ):PC 225 [.int .u8 (c1.toNat:Int)] τ Q:=by
 unfold ED at hf; refine BN 9 [.tmp 2] [0] Tryz.func225 Z Z Z Z Z (W 4 Z (An 3 5 8 [] (decide ((c1.toNat:Int)≤57)) Z Z Z Z ?_)); cases hf; exact N 1 Z (Y Z h)

theorem OE (s1:Str) {r0:Int} (hf:CZ s1=some r0) (h:Q (.ret (iP r0)) τ):PC 179 [.str s1] τ Q:=by
 unfold CZ at hf; refine BN 17 [.tmp 2] [0] Tryz.func179 Z Z Z Z Z (V 2 Z (Gc (fun n1=>[(0,.str s1),(3,iP n1)]) (fun n1=>[]) (fun bW n1=>zm s1 bW n1=some r0) BIG 0 Z Z hf (fun _ hz=>bQ hz) ?_)); intro bW n1 hf; rw [zm] at hf; refine W 2 Z (AS Z (AO.bJ Z Z Z Z cu Z ?_)); refine B1 hf fun b1 h2 hf=>U 2 Z (AR.eX 5 8 13 true [0,3] b1 Z Z (fun h1=>?_) (fun h1=>?_) ?_)
 · replace h2:=eD h1 h2; refine Is 8 h1 Z ?_; obtain ⟨x1,h3,h2⟩:=aN h2; refine U 2 Z (GO Z (AO.fD h3 Z cu Z Z ?_)); replace h2:=(aJ _).trans h2; obtain ⟨x2,h4,h2⟩:=aN h2; refine GO Z (AO.call Z _ Z Z atF (TN _ h4 ?_)); obtain rfl:=Option.some.inj h2; exact eU 1 Z (En [13,0,3] Z)
 · replace h2:=eF h1 h2; refine Is 8 h1 Z ?_; obtain rfl:=Option.some.inj h2; exact eU 5 Z (En [13,0,3] Z)
 refine J 0 Z (C hf Z (fun h5 hf=>?_) fun h5 hf=>?_)
 · exact M 3 Z ⟨(bS (n1 + 1)),Z,Z,Z,hf⟩
 cases hf; exact M 2 Z (Y Z h)

theorem G7 (s1:Str) (c1:UInt8) {r0:Str} (hf:strings_trimLeftByte s1 c1=some r0) (h:Q (.ret (.str r0)) τ):PC 264 [.str s1,.int .u8 (c1.toNat:Int)] τ Q:=by
 unfold strings_trimLeftByte at hf; refine BN 17 [.tmp 4] [0,1] Tryz.func264 Z Z Z Z Z (V 1 Z (Gc (fun s2=>[(0,.str s2),(1,.int .u8 (c1.toNat:Int))]) (fun s2=>[]) (fun bW s2=>iY c1 bW s2=some r0) BIG s1 Z Z hf (fun _ hz=>bQ hz) ?_)); intro bW s2 hf; rw [iY] at hf; refine W 1 Z (AS Z (AO.bJ Z Z Z Z cu Z ?_)); refine B1 hf fun b1 h2 hf=>U 2 Z (AR.eX 5 8 13 true [0,1] b1 Z Z (fun h1=>?_) (fun h1=>?_) ?_)
 · replace h2:=eD h1 h2; refine Is 8 h1 Z ?_; obtain ⟨x1,h3,h2⟩:=aN h2; refine U 1 Z (GO Z (AO.fD h3 Z cu Z Z ?_)); obtain rfl:=Option.some.inj h2; exact eU 3 Z (En [13,0,1] Z)
 · replace h2:=eF h1 h2; refine Is 8 h1 Z ?_; obtain rfl:=Option.some.inj h2; exact eU 5 Z (En [13,0,1] Z)
 refine J 0 Z (C hf Z (fun h4 hf=>?_) fun h4 hf=>?_)
 · refine B1 hf fun s3 h5 hf=>W 1 Z (AS Z (AO.nL h5 Z cu Z ⟨_,Z⟩ Z ?_)); exact N 1 Z ⟨s3,Z,Z,Z,hf⟩
 cases hf; exact M 2 Z (Y Z h)

theorem DX (s1:Str) (EM:Str) {r0:Str} (hf:ou s1 EM=some r0) (h:Q (.ret (.str r0)) τ):PC 226 [.str s1,.str EM] τ Q:=by
 unfold ou at hf; refine BN 37 [.tmp 4] [0,1] Tryz.func226 Z Z Z Z Z (W 4 Z (On 3 9 12 [0,1] (EM == ([]:Str)) Z Z Z Z (J 0 Z (C hf Z (fun h2 hf=>?_) fun h2 hf=>?_))))
 · cases hf; exact M 2 Z (Y Z h)
 refine W 1 Z (AS Z (AO.bJ Z Z Z Z cu Z ?_)); refine B1 hf fun b1 h4 hf=>U 2 Z (AR.eX 4 17 21 true [0,1] b1 Z Z (fun h3=>?_) (fun h3=>?_) ?_)
 · replace h4:=eD h3 h4; refine Is 17 h3 Z ?_; obtain ⟨x1,h5,h4⟩:=aN h4; refine U 1 Z (GO Z (AO.fD h5 Z cu Z Z ?_)); obtain rfl:=Option.some.inj h4; exact eU 2 Z (En [21,0,1] Z)
 · replace h4:=eF h3 h4; refine Is 17 h3 Z ?_; obtain rfl:=Option.some.inj h4; exact eU 4 Z (En [21,0,1] Z)
 refine J 0 Z (C hf Z (fun h6 hf=>?_) fun h6 hf=>?_)
 · refine B1 hf fun x2 h7 hf=>W 2 Z (AS Z (AO.fD h7 Z cu Z Z ?_)); replace hf:=(aJ _).trans hf; refine B1 hf fun x3 h8 hf=>CL Z (G7 _ _ h8 ?_); cases hf; exact N 1 Z (Y Z h)
 exact bQ hf

theorem H8 (x1:Int) {r0:Bool} (hf:cmp_isNaN_int x1=some r0) (h:Q (.ret (.bool r0)) τ):PC 229 [iP x1] τ Q:=by
 unfold cmp_isNaN_int at hf; refine BN 6 [.tmp 2] [0] Tryz.func229 Z Z Z Z Z ?_; cases hf; exact M 5 Z (Y Z h)

theorem nE (x1:Int) (y1:Int) {r0:Int} (hf:cmp_Compare_int x1 y1=some r0) (h:Q (.ret (iP r0)) τ):PC 182 [iP x1,iP y1] τ Q:=by
 unfold cmp_Compare_int at hf; refine BN 20 [.tmp 4] [0,1] Tryz.func182 Z Z Z Z Z ?_; refine B1 hf fun Oa h1 hf=>W 2 Z (CL Z (H8 _ h1 ?_)); refine B1 hf fun Ik h2 hf=>U 2 Z (CL Z (H8 _ h2 (J 2 Z (C hf Z (fun h3 hf=>?_) fun h3 hf=>?_))))
 ·
  refine V 1 Z (C hf Z (fun h4 hf=>?_) fun h4 hf=>?_)
  · cases hf; exact M 1 Z (Y Z h)
  cases hf; exact M 1 Z (Y Z h)
 refine V 1 Z (C hf Z (fun h5 hf=>?_) fun h5 hf=>?_)
 · cases hf; exact M 1 Z (Y Z h)
 refine V 3 Z (C hf Z (fun h6 hf=>?_) fun h6 hf=>?_)
 · cases hf; exact M 1 Z (Y Z h)
 refine V 3 Z (C hf Z (fun h7 hf=>?_) fun h7 hf=>?_)
 · cases hf; exact M 1 Z (Y Z h)
 cases hf; exact M 1 Z (Y Z h)

theorem D7 (x1:Str) {r0:Bool} (hf:cmp_isNaN_string x1=some r0) (h:Q (.ret (.bool r0)) τ):PC 251 [.str x1] τ Q:=by
 unfold cmp_isNaN_string at hf; refine BN 6 [.tmp 2] [0] Tryz.func251 Z Z Z Z Z ?_; cases hf; exact M 5 Z (Y Z h)

theorem BQ (x1:Str) (y1:Str) {r0:Int} (hf:mq x1 y1=some r0) (h:Q (.ret (iP r0)) τ):PC 214 [.str x1,.str y1] τ Q:=by
 unfold mq at hf; refine BN 20 [.tmp 4] [0,1] Tryz.func214 Z Z Z Z Z ?_; refine B1 hf fun Oa h1 hf=>W 2 Z (CL Z (D7 _ h1 ?_)); refine B1 hf fun Ik h2 hf=>U 2 Z (CL Z (D7 _ h2 (J 2 Z (C hf Z (fun h3 hf=>?_) fun h3 hf=>?_))))
 ·
  refine V 1 Z (C hf Z (fun h4 hf=>?_) fun h4 hf=>?_)
  · cases hf; exact M 1 Z (Y Z h)
  cases hf; exact M 1 Z (Y Z h)
 refine V 1 Z (C hf Z (fun h5 hf=>?_) fun h5 hf=>?_)
 · cases hf; exact M 1 Z (Y Z h)
 refine V 3 Z (C hf Z (fun h6 hf=>?_) fun h6 hf=>?_)
 · cases hf; exact M 1 Z (Y Z h)
 refine V 3 Z (C hf Z (fun h7 hf=>?_) fun h7 hf=>?_)
 · cases hf; exact M 1 Z (Y Z h)
 cases hf; exact M 1 Z (Y Z h)

theorem W9 (Hr:List Int) {r0:Int} (hf:DV Hr=some r0) (h:Q (.ret (iP r0)) τ):PC 227 [.list (List.map aeh Hr)] τ Q:=by
 unfold DV at hf; refine BN 18 [.tmp 2] [0] Tryz.func227 Z Z Z Z Z (W 3 Z (AS Z (AO.aL (l:=Hr) Z Z Z Z apo Z Z (J 1 Z (Gc (fun x1=>[(3,iP 0),(6,.list (List.map aeh Hr)),(7,iP (Hr.length:Int)),(8,iP x1)]) (fun x1=>[]) (fun bW x1=>wN Hr bW x1=some r0) BIG 0 Z Z hf (fun _ hz=>bQ hz) ?_))))); intro bW x1 hf; rw [wN] at hf; refine V 1 Z (C hf Z (fun h1 hf=>?_) fun h1 hf=>?_)
 ·
  refine B1 hf fun abP h2 hf=>W 0 Z (AS Z (AO.aM h2 Z Z Z Z apo Z Z (J 5 Z (C hf Z (fun h3 hf=>?_) fun h3 hf=>?_))))
  · cases hf; exact M 2 Z (Y Z h)
  exact M 2 Z ⟨(bS (x1 + 1)),Z,Z,Z,hf⟩
 cases hf; exact M 2 Z (Y Z h)

theorem Pn (a1:Str) (b1:Str) {r0:Int} (hf:wH a1 b1=some r0) (h:Q (.ret (iP r0)) τ):PC 180 [.str a1,.str b1] τ Q:=by
 unfold wH at hf; refine BN 26 [.tmp 4] [0,1] Tryz.func180 Z Z Z Z Z ?_; refine B1 hf fun x1 h1 hf=>W 2 Z (CL Z (DX _ _ h1 ?_)); refine B1 hf fun y1 h2 hf=>U 1 Z (CL Z (DX _ _ h2 (U 3 Z (AS Z (AO.bJ Z Z Z Z cu Z (U 1 Z (AS Z (AO.bJ Z Z Z Z cu Z ?_)))))))); refine B1 hf fun x2 h3 hf=>CL Z (nE _ _ h3 ?_); refine B1 hf fun x3 h4 hf=>U 2 Z (CL Z (BQ _ _ h4 (U 1 Z (AS Z (AO.bJ Z Z Z Z cu Z (U 1 Z (AS Z (AO.bJ Z Z Z Z cu Z ?_))))))))
 refine B1 hf fun x4 h5 hf=>CL Z (nE _ _ h5 (AS Z (AO.bq (List.map aeh ([x2,x3,x4]:List Int)) Z arL Z Z Z Z ?_))); replace hf:=(aJ _).trans hf; refine B1 hf fun x5 h6 hf=>CL Z (W9 _ h6 ?_); cases hf; exact N 1 Z (Y Z h)

theorem F5 (x1:UInt8) {r0:Bool} (hf:uT x1=some r0) (h:Q (.ret (.bool r0)) τ):PC 228 [.int .u8 (x1.toNat:Int)] τ Q:=by
 unfold uT at hf; refine BN 6 [.tmp 2] [0] Tryz.func228 Z Z Z Z Z ?_; cases hf; exact M 5 Z (Y Z h)

theorem Li (x1:UInt8) (y1:UInt8) {r0:Int} (hf:qX x1 y1=some r0) (h:Q (.ret (iP r0)) τ):PC 181 [.int .u8 (x1.toNat:Int),.int .u8 (y1.toNat:Int)] τ Q:=by
 unfold qX at hf; refine BN 20 [.tmp 4] [0,1] Tryz.func181 Z Z Z Z Z ?_; refine B1 hf fun Oa h1 hf=>W 2 Z (CL Z (F5 _ h1 ?_)); refine B1 hf fun Ik h2 hf=>U 2 Z (CL Z (F5 _ h2 (J 2 Z (C hf Z (fun h3 hf=>?_) fun h3 hf=>?_))))
 ·
  refine V 1 Z (C hf Z (fun h4 hf=>?_) fun h4 hf=>?_)
  · cases hf; exact M 1 Z (Y Z h)
  cases hf; exact M 1 Z (Y Z h)
 refine V 1 Z (C hf Z (fun h5 hf=>?_) fun h5 hf=>?_)
 · cases hf; exact M 1 Z (Y Z h)
 refine V 3 Z (C hf Z (fun h6 hf=>?_) fun h6 hf=>?_)
 · cases hf; exact M 1 Z (Y Z h)
 refine V 3 Z (C hf Z (fun h7 hf=>?_) fun h7 hf=>?_)
 · cases hf; exact M 1 Z (Y Z h)
 cases hf; exact M 1 Z (Y Z h)

theorem Cc (a1:Str) (b1:Str) {r0:Int} (hf:jD a1 b1=some r0) (h:Q (.ret (iP r0)) τ):PC 135 [.str a1,.str b1] τ Q:=by
 unfold jD at hf; refine BN 59 [.tmp 4] [0,1] Tryz.func135 Z Z Z Z Z (V 1 Z (Zf (fun a2 b2=>[(0,.str a2),(1,.str b2)]) (fun a2 b2=>[]) (fun bW a2 b2=>j3 bW a2 b2=some r0) BIG a1 b1 Z Z hf (fun _ _ hz=>bQ hz) ?_)); intro bW a2 b2 hf; rw [j3] at hf; refine W 3 Z (An 3 10 13 [0,1] (!(b2 == ([]:Str))) Z Z Z Z (J 0 Z (C hf Z (fun h2 hf=>?_) fun h2 hf=>?_)))
 ·
  refine B1 hf fun n1 h3 hf=>W 1 Z (CL Z (OE _ h3 ?_)); refine B1 hf fun m1 h4 hf=>U 1 Z (CL Z (OE _ h4 (U 5 Z (An 3 20 23 [0,1,5,6] (decide (0 < m1)) Z Z Z Z (J 0 Z (C hf Z (fun h6 hf=>?_) fun h6 hf=>?_))))))
  ·
   refine V 0 Z (AW.draw 8 mixed (by kernel_rfl) Z ?_); refine Ev.cs aP 2 Z ?_; refine B1 hf fun x1 h7 hf=>Ev.cons Z Z Z (AO.nL h7 Z cu Z Z ⟨_,Z⟩ zg) (Ev.cs aP 2 Z ?_); refine B1 hf fun x2 h8 hf=>Ev.cons Z Z Z (AO.nL h8 Z cu Z Z ⟨_,Z⟩ zg) ?_; refine B1 hf fun c1 h9 hf=>Ev.cons Z Z Z (AO.call Z _ Z Z adM (Pn _ _ h9 zg)) (Ev.cs aP 1 Z (Ev.nil ?_)); show AR _ _ _ _ _ _ _ _
   refine J 2 Z (C hf Z (fun h10 hf=>?_) fun h10 hf=>?_)
   · cases hf; exact M 2 Z (Y Z h)
   refine V 0 Z (AW.draw 8 mixed (by kernel_rfl) Z ?_); refine Ev.cs aP 2 Z ?_; refine B1 hf fun a3 h11 hf=>Ev.cons Z Z Z (AO.nL h11 Z cu Z ⟨_,Z⟩ Z zg) (Ev.cs aP 2 Z ?_); refine B1 hf fun b3 h12 hf=>Ev.cons Z Z Z (AO.nL h12 Z cu Z ⟨_,Z⟩ Z zg) (Ev.cs aP 2 Z (Ev.nil ?_)); show AR _ _ _ _ _ _ _ _
   exact N 0 Z ⟨a3,b3,Z,Z,Z,hf⟩
  refine V 0 Z (AW.draw 5 mixed (by kernel_rfl) Z ?_); refine Ev.cs aP 1 Z ?_; refine B1 hf fun x3 jq hf=>Ev.cons Z Z Z (AO.fD jq Z cu Z Z zg) (Ev.cs aP 1 Z ?_); refine B1 hf fun x4 kg hf=>Ev.cons Z Z Z (AO.fD kg Z cu Z Z zg) (Ev.cs aP 1 Z (Ev.nil ?_)); show AR _ _ _ _ _ _ _ _
  refine J 0 Z (C hf Z (fun kC hf=>?_) fun kC hf=>?_)
  ·
   refine V 0 Z (AW.draw 6 mixed (by kernel_rfl) Z ?_); refine Ev.cs aP 1 Z ?_; refine B1 hf fun x5 h16 hf=>Ev.cons Z Z Z (AO.fD h16 Z cu Z Z zg) (Ev.cs aP 1 Z ?_); refine B1 hf fun x6 mQ hf=>Ev.cons Z Z Z (AO.fD mQ Z cu Z Z zg) ?_; replace hf:=(aJ _).trans hf; refine B1 hf fun x7 h18 hf=>Ev.cons Z Z Z (AO.call Z _ Z Z atL (Li _ _ h18 zg)) (Ev.cs aP 1 Z (Ev.nil ?_)); show AR _ _ _ _ _ _ _ _
   cases hf; exact N 0 Z (Y Z h)
  refine V 0 Z (AW.draw 6 mixed (by kernel_rfl) Z ?_); refine Ev.cs aP 1 Z ?_; refine B1 hf fun a4 h19 hf=>Ev.cons Z Z Z (AO.nL h19 Z cu Z ⟨_,Z⟩ Z zg) (Ev.cs aP 1 Z ?_); refine B1 hf fun b4 h20 hf=>Ev.cons Z Z Z (AO.nL h20 Z cu Z ⟨_,Z⟩ Z zg) (Ev.cs aP 2 Z (Ev.nil ?_)); show AR _ _ _ _ _ _ _ _
  exact N 0 Z ⟨a4,b4,Z,Z,Z,hf⟩
 refine W 1 Z (AS Z (AO.bJ Z Z Z Z cu Z (U 1 Z (AS Z (AO.bJ Z Z Z Z cu Z ?_))))); replace hf:=(aJ _).trans hf; refine B1 hf fun x8 h21 hf=>CL Z (nE _ _ h21 ?_); cases hf; exact N 1 Z (Y Z h)

theorem Tp (v1:ah) {r0:Bool} (hf:Bl v1=some r0) (h:Q (.ret (.bool r0)) τ):PC 103 [.agg (aF v1)] τ Q:=by
 unfold Bl at hf; refine BN 44 [.tmp 2] [0] Tryz.func103 Z Z Z Z Z (W 4 Z (AS Z (AO.aL (l:=v1.keys) Z Z Z Z dO Z Z (U 2 Z (AS Z (AO.aL (l:=v1.aI) Z Z Z Z dN Z (ah.aB _) (J 1 Z (C hf Z (fun h1 hf=>?_) fun h1 hf=>?_))))))))
 · cases hf; exact M 1 Z (Y Z h)
 refine W 2 Z (AS Z (AO.aL (l:=v1.keys) Z Z Z Z dO Z Z (J 1 Z (Gc (fun i1=>[(1,.ref (aF v1)),(13,sP v1.keys),(14,iP (v1.keys.length:Int)),(15,iP i1)]) (fun i1=>[]) (fun bW i1=>qJ v1 bW i1=some r0) BIG 0 Z Z hf (fun _ hz=>bQ hz) ?_)))); intro bW i1 hf; rw [qJ] at hf; refine V 1 Z (C hf Z (fun h2 hf=>?_) fun h2 hf=>?_)
 ·
  refine B1 hf fun xO h3 hf=>W 1 Z (AS Z (AO.aM h3 Z Z Z Z dO Z Z (U 4 Z (AS Z (AO.bJ Z Z Z Z cu Z (U 2 Z (AR.or 4 23 27 [1,3,4,13,14,15] (x:=(decide (64 < (xO.length:Int)))) Z Z (fun h4=>?_) (fun h4=>?_) ?_)))))))
  · refine Is 23 h4 Z (U 1 Z (GO Z (AO.bJ Z Z Z Z cu Z ?_))); exact eU 2 Z (En [27,1,3,4,13,14,15] Z)
  · refine Is 23 h4 Z ?_; exact eU 4 Z (En [27,1,3,4,13,14,15] Z)
  refine B1 hf fun b1 h6 hf=>U 1 Z (AR.eX 14 28 42 false [1,13,14,15] b1 Z Z (fun h5=>?_) (fun h5=>?_) ?_)
  ·
   replace h6:=eF h5 h6; refine Is 28 h5 Z ?_; replace h6:=(aJ _).trans h6; obtain ⟨b2,h8,h6⟩:=aN h6; refine U 3 Z (AR.eX 10 31 41 true [1,13,14,15,28] b2 Z Z (fun h7=>?_) (fun h7=>?_) ?_)
   · replace h8:=eD h7 h8; refine Is 31 h7 Z ?_; obtain ⟨e1,h9,h8⟩:=aN h8; refine U 4 Z (GO Z (AO.aM h9 Z Z Z Z dO Z Z ?_)); obtain ⟨x1,h10,h8⟩:=aN h8; refine U 2 Z (GO Z (AO.call Z _ Z Z ahX (Cc _ _ h10 ?_))); obtain rfl:=Option.some.inj h8; exact eU 2 Z (En [41,1,13,14,15,28] Z)
   · replace h8:=eF h7 h8; refine Is 31 h7 Z ?_; obtain rfl:=Option.some.inj h8; exact eU 10 Z (En [41,1,13,14,15,28] Z)
   obtain rfl:=Option.some.inj h6; exact eU 1 Z (En [42,1,13,14,15] Z)
  · replace h6:=eD h5 h6; refine Is 28 h5 Z ?_; obtain rfl:=Option.some.inj h6; exact eU 14 Z (En [42,1,13,14,15] Z)
  refine J 0 Z (C hf Z (fun h11 hf=>?_) fun h11 hf=>?_)
  · cases hf; exact M 1 Z (Y Z h)
  exact M 2 Z ⟨(bS (i1 + 1)),Z,Z,Z,hf⟩
 cases hf; exact M 1 Z (Y Z h)

theorem WO (v1:ah) (bP:Int) {r0:Int} (hf:Dc v1 bP=some r0) (h:Q (.ret (iP r0)) τ):PC 61 [.agg (aF v1),iP bP] τ Q:=by
 unfold Dc at hf; refine BN 78 [.tmp 4] [0,1] Tryz.func61 Z Z Z Z Z (W 6 Z (On 4 9 13 [1,2] (v1.kind == 5) Z Z Z Z (J 4 Z (C hf Z (fun h2 hf=>?_) fun h2 hf=>?_))))
 · cases hf; exact M 1 Z (Y Z h)
 refine W 4 Z (On 4 21 25 [1,2,5] (decide (5 < v1.kind)) Z Z Z Z ?_); refine B1 hf fun b1 h5 hf=>U 1 Z (AR.eX 4 26 30 false [1,2,5] b1 Z Z (fun h4=>?_) (fun h4=>?_) ?_)
 · replace h5:=eF h4 h5; refine Is 26 h4 Z ?_; obtain ⟨x1,h6,h5⟩:=aN h5; refine U 1 Z (GO Z (AO.call Z _ Z Z atY (RL _ h6 ?_))); obtain rfl:=Option.some.inj h5; exact eU 2 Z (En [30,1,2,5] Z)
 · replace h5:=eD h4 h5; refine Is 26 h4 Z ?_; obtain rfl:=Option.some.inj h5; exact eU 4 Z (En [30,1,2,5] Z)
 refine J 1 Z (C hf Z (fun h7 hf=>?_) fun h7 hf=>?_)
 · cases hf; exact M 1 Z (Y Z h)
 refine W 4 Z (On 4 35 39 [1,2,5] (decide (9007199254740992 < v1.bZ)) Z Z Z Z (J 1 Z (C hf Z (fun h9 hf=>?_) fun h9 hf=>?_)))
 · cases hf; exact M 1 Z (Y Z h)
 refine W 2 Z (AS Z (AO.bJ Z Z Z Z cu Z (U 2 Z (AR.or 5 45 50 [1,2,5] (x:=(decide (1024 < (v1.aI.length:Int)))) Z Z (fun h10=>?_) (fun h10=>?_) ?_))))
 · refine Is 45 h10 Z (U 2 Z (GO Z (AO.aL (l:=v1.aI) Z Z Z Z dN Z (ah.aB _) ?_))); exact eU 2 Z (En [50,1,2,5] Z)
 · refine Is 45 h10 Z ?_; exact eU 5 Z (En [50,1,2,5] Z)
 refine U 1 Z (AR.or 5 51 56 [1,2,5] (x:=(decide (1024 < (v1.keys.length:Int)))) Z Z (fun h11=>?_) (fun h11=>?_) ?_)
 · refine Is 51 h11 Z (U 2 Z (GO Z (AO.aL (l:=v1.keys) Z Z Z Z dO Z Z ?_))); exact eU 2 Z (En [56,1,2,5] Z)
 · refine Is 51 h11 Z ?_; exact eU 5 Z (En [56,1,2,5] Z)
 refine J 1 Z (C hf Z (fun h12 hf=>?_) fun h12 hf=>?_)
 · cases hf; exact M 1 Z (Y Z h)
 refine B1 hf fun b2 kg hf=>W 4 Z (AR.eX 4 61 65 true [1,2,5] b2 Z Z (fun jq=>?_) (fun jq=>?_) ?_)
 · replace kg:=eD jq kg; refine Is 61 jq Z ?_; obtain ⟨x2,kC,kg⟩:=aN kg; refine U 1 Z (GO Z (AO.call Z _ Z Z atX (Tp _ kC ?_))); obtain rfl:=Option.some.inj kg; exact eU 2 Z (En [65,1,2,5] Z)
 · replace kg:=eF jq kg; refine Is 61 jq Z ?_; obtain rfl:=Option.some.inj kg; exact eU 4 Z (En [65,1,2,5] Z)
 refine J 1 Z (C hf Z (fun h16 hf=>?_) fun h16 hf=>?_)
 · cases hf; exact M 1 Z (Y Z h)
 refine W 2 Z (AR.and 5 68 73 [1] (x:=((v1.aI.length:Int) == 0)) Z Z (fun mQ=>?_) (fun mQ=>?_) ?_)
 · refine Is 68 mQ Z (U 2 Z (GO Z (AO.aL (l:=v1.aI) Z Z Z Z dN Z (ah.aB _) ?_))); exact eU 2 Z (En [73,1] Z)
 · refine Is 68 mQ Z ?_; exact eU 5 Z (En [73,1] Z)
 refine U 1 Z (An 3 74 77 [] (bP == 16) Z Z Z Z (J 1 Z (C hf Z (fun h19 hf=>?_) fun h19 hf=>?_)))
 · cases hf; exact M 1 Z (Y Z h)
 cases hf; exact M 1 Z (Y Z h)


end Go.Proofs.YtangbjfgdmopoaaGreatDoor
