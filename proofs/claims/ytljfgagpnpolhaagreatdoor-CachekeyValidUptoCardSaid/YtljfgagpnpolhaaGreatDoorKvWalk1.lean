/- Proved here: each function does what its functional text says (part 1). -/
import Derived.Test.YtljfgagpnpolhaaGreatDoorKvA3
import Derived.Test.YtljfgagpnpolhaaGreatDoorKvPre1
import Derived.Test.YtljfgagpnpolhaaGreatDoorKvFt1
import Derived.Test.YtljfgagpnpolhaaGreatDoorKvPool1
import Derived.Test.YtljfgagpnpolhaaGreatDoorProg
import Derived.KernelRfl
set_option linter.unusedVariables false
set_option linter.unusedSimpArgs false
set_option linter.unusedSectionVars false
namespace Go.Ft
open Go Go.Abs
mutual
def av.cells :av→List PV
  | ⟨a0,a1,a2,a3,a4,a5⟩=>[.int .i64 a0,.bool a1,.int .i64 a2,.str a3,.list (av.dV a4),.list (List.map oh a5)]
def av.dV :List av→List (List PV)
  | []=>[]
  | x :: xs=>av.cells x :: av.dV xs
end
theorem av.aT (x:av):av.cells x=[.int .i64 x.kind,.bool x.lJ,.int .i64 x.mG,.str x.nu,.list (av.dV x.dW),.list (List.map oh x.keys)]:=by cases x; rfl
theorem av.bM :∀ l:List av,av.dV l=l.map av.cells
  | []=>rfl
  | _ :: l=>congrArg _ (av.bM l)
def av.Zt (l:List av):List PV:=[.list (av.dV l)]
theorem av.dU (x:av):(av.cells x).length=6:=by rw [av.aT]; rfl
theorem av.cells_one (x:av):(av.cells x).all PV.one=true:=by rw [av.aT]; rfl
@[reducible] def b_.cells (x:b_):List PV:=[.str x.path,.int .u64 (x.digest.toNat:Int)]
theorem b_.aT (x:b_):b_.cells x=[.str x.path,.int .u64 (x.digest.toNat:Int)]:=rfl
theorem b_.dU (x:b_):(b_.cells x).length=2:=by rw [b_.aT]; rfl
theorem b_.cells_one (x:b_):(b_.cells x).all PV.one=true:=by rw [b_.aT]; rfl
@[reducible] def bF.cells (x:bF):List PV:=[.str x.key,.list (List.map oh x.restore),.list (List.map oh x.files)]
theorem bF.aT (x:bF):bF.cells x=[.str x.key,.list (List.map oh x.restore),.list (List.map oh x.files)]:=rfl
theorem bF.dU (x:bF):(bF.cells x).length=3:=by rw [bF.aT]; rfl
theorem bF.cells_one (x:bF):(bF.cells x).all PV.one=true:=by rw [bF.aT]; rfl
@[reducible] def bE.cells (x:bE):List PV:=[.str x.name,.int .i64 x.value.kind,.bool x.value.lJ,.int .i64 x.value.mG,.str x.value.nu,.list (av.dV x.value.dW),.list (List.map oh x.value.keys)]
theorem bE.aT (x:bE):bE.cells x=[.str x.name,.int .i64 x.value.kind,.bool x.value.lJ,.int .i64 x.value.mG,.str x.value.nu,.list (av.dV x.value.dW),.list (List.map oh x.value.keys)]:=rfl
theorem bE.dU (x:bE):(bE.cells x).length=7:=by rw [bE.aT]; rfl
theorem bE.cells_one (x:bE):(bE.cells x).all PV.one=true:=by rw [bE.aT]; rfl
@[reducible] def dJ.cells (x:dJ):List PV:=[.str x.spec.key,.list (List.map oh x.spec.restore),.list (List.map oh x.spec.files),.list (List.map bE.cells x.vars),.list (List.map b_.cells x.files)]
theorem dJ.aT (x:dJ):dJ.cells x=[.str x.spec.key,.list (List.map oh x.spec.restore),.list (List.map oh x.spec.files),.list (List.map bE.cells x.vars),.list (List.map b_.cells x.files)]:=rfl
theorem dJ.dU (x:dJ):(dJ.cells x).length=5:=by rw [dJ.aT]; rfl
theorem dJ.cells_one (x:dJ):(dJ.cells x).all PV.one=true:=by rw [dJ.aT]; rfl
@[reducible] def au.cells (x:au):List PV:=[.int .i64 x.kind,.str x.text,.int .i64 x.at_]
theorem au.aT (x:au):au.cells x=[.int .i64 x.kind,.str x.text,.int .i64 x.at_]:=rfl
theorem au.dU (x:au):(au.cells x).length=3:=by rw [au.aT]; rfl
theorem au.cells_one (x:au):(au.cells x).all PV.one=true:=by rw [au.aT]; rfl
@[reducible] def ah.cells (x:ah):List PV:=[.list (List.map au.cells x.ts),.int .i64 x.at_]
theorem ah.aT (x:ah):ah.cells x=[.list (List.map au.cells x.ts),.int .i64 x.at_]:=rfl
theorem ah.dU (x:ah):(ah.cells x).length=2:=by rw [ah.aT]; rfl
theorem ah.cells_one (x:ah):(ah.cells x).all PV.one=true:=by rw [ah.aT]; rfl
@[reducible] def ay.cells (x:ay):List PV:=[.int .i64 x.at_,.int .i64 x.code]
theorem ay.aT (x:ay):ay.cells x=[.int .i64 x.at_,.int .i64 x.code]:=rfl
theorem ay.dU (x:ay):(ay.cells x).length=2:=by rw [ay.aT]; rfl
theorem ay.cells_one (x:ay):(ay.cells x).all PV.one=true:=by rw [ay.aT]; rfl
mutual
def aj.cells :aj→List PV
  | ⟨a0,a1,a2,a3,a4⟩=>[.int .i64 a0,.str a1,.int .i64 a2.kind,.bool a2.lJ,.int .i64 a2.mG,.str a2.nu,.list (av.dV a2.dW),.list (List.map oh a2.keys),.list (aj.dV a3),.list (List.map oh a4)]
def aj.dV :List aj→List (List PV)
  | []=>[]
  | x :: xs=>aj.cells x :: aj.dV xs
end
theorem aj.aT (x:aj):aj.cells x=[.int .i64 x.kind,.str x.name,.int .i64 x.value.kind,.bool x.value.lJ,.int .i64 x.value.mG,.str x.value.nu,.list (av.dV x.value.dW),.list (List.map oh x.value.keys),.list (aj.dV x.args),.list (List.map oh x.keys)]:=by cases x; rfl
theorem aj.bM :∀ l:List aj,aj.dV l=l.map aj.cells
  | []=>rfl
  | _ :: l=>congrArg _ (aj.bM l)
def aj.Zt (l:List aj):List PV:=[.list (aj.dV l)]
theorem aj.dU (x:aj):(aj.cells x).length=10:=by rw [aj.aT]; rfl
theorem aj.cells_one (x:aj):(aj.cells x).all PV.one=true:=by rw [aj.aT]; rfl
@[reducible] def aR.cells (x:aR):List PV:=[.str x.text,.bool x.Uy,.int .i64 x.expr.kind,.str x.expr.name,.int .i64 x.expr.value.kind,.bool x.expr.value.lJ,.int .i64 x.expr.value.mG,.str x.expr.value.nu,.list (av.dV x.expr.value.dW),.list (List.map oh x.expr.value.keys),.list (aj.dV x.expr.args),.list (List.map oh x.expr.keys)]
theorem aR.aT (x:aR):aR.cells x=[.str x.text,.bool x.Uy,.int .i64 x.expr.kind,.str x.expr.name,.int .i64 x.expr.value.kind,.bool x.expr.value.lJ,.int .i64 x.expr.value.mG,.str x.expr.value.nu,.list (av.dV x.expr.value.dW),.list (List.map oh x.expr.value.keys),.list (aj.dV x.expr.args),.list (List.map oh x.expr.keys)]:=rfl
theorem aR.dU (x:aR):(aR.cells x).length=12:=by rw [aR.aT]; rfl
theorem aR.cells_one (x:aR):(aR.cells x).all PV.one=true:=by rw [aR.aT]; rfl
@[reducible] def dD.cells (x:dD):List PV:=[.int .u64 ((x.set.getD 0 0).toNat:Int),.int .u64 ((x.set.getD 1 0).toNat:Int),.int .u64 ((x.set.getD 2 0).toNat:Int),.int .u64 ((x.set.getD 3 0).toNat:Int),.bool x.many,.bool x.literal,.int .u8 (x.char.toNat:Int)]
theorem dD.aT (x:dD):dD.cells x=[.int .u64 ((x.set.getD 0 0).toNat:Int),.int .u64 ((x.set.getD 1 0).toNat:Int),.int .u64 ((x.set.getD 2 0).toNat:Int),.int .u64 ((x.set.getD 3 0).toNat:Int),.bool x.many,.bool x.literal,.int .u8 (x.char.toNat:Int)]:=rfl
theorem dD.dU (x:dD):(dD.cells x).length=7:=by rw [dD.aT]; rfl
theorem dD.cells_one (x:dD):(dD.cells x).all PV.one=true:=by rw [dD.aT]; rfl
@[reducible] def aF.cells (x:aF):List PV:=[.int .i64 x.kind,.list (List.map ZI x.items)]
theorem aF.aT (x:aF):aF.cells x=[.int .i64 x.kind,.list (List.map ZI x.items)]:=rfl
theorem aF.dU (x:aF):(aF.cells x).length=2:=by rw [aF.aT]; rfl
theorem aF.cells_one (x:aF):(aF.cells x).all PV.one=true:=by rw [aF.aT]; rfl
@[reducible] def dX.cells (x:dX):List PV:=[.int .i64 x.code]
theorem dX.aT (x:dX):dX.cells x=[.int .i64 x.code]:=rfl
theorem dX.dU (x:dX):(dX.cells x).length=1:=by rw [dX.aT]; rfl
theorem dX.cells_one (x:dX):(dX.cells x).all PV.one=true:=by rw [dX.aT]; rfl
end Go.Ft
namespace Go.Proofs.YtljfgagpnpolhaaGreatDoor
open Go Go.Abs Go.Ft
set_option maxRecDepth 20000
attribute [local irreducible] AO AR AW AC
class Jy [iF]:Prop where
  hD:¬ iF.D
  max:∀ (w:World) (m:jE),iF.G w m→∃ n:Int,w.cell? ⟨1,0,none⟩=some (.int .i64 n)
  pow:∀ (w:World) (m:jE),iF.G w m→Lib.TabIs Tryz.prog w "internal/strconv.uint64pow10" .u64 Lib.pow10Tab
  syn:∀ (w:World) (m:jE),iF.G w m→∃ ev,w.cell? ⟨6,0,none⟩=some ev∧(ev=.nilIface∨∃ te pe,ev=.iface te pe)
  rng:∀ (w:World) (m:jE),iF.G w m→∃ ev,w.cell? ⟨7,0,none⟩=some ev∧(ev=.nilIface∨∃ te pe,ev=.iface te pe)
variable [iF]
theorem Pw :vH Tryz.prog 155=some (2,1):=by kernel_rfl
theorem aak :vH Tryz.prog 78=some (16,1):=by kernel_rfl
theorem Mf :vH Tryz.prog 93=some (4,1):=by kernel_rfl
theorem adp :Tryz.prog.cellsOf 5=1:=by kernel_rfl
theorem jL :elemSize Tryz.prog 109=some 10:=by kernel_rfl
theorem H7 :elemSize Tryz.prog 121=some 2:=by kernel_rfl
theorem gN :elemSize Tryz.prog 140=some 3:=by kernel_rfl
theorem Tj :elemSize Tryz.prog 156=some 2:=by kernel_rfl
theorem XZ :elemSize Tryz.prog 194=some 7:=by kernel_rfl
theorem gX :elemSize Tryz.prog 22=some 1:=by kernel_rfl
theorem O1 :elemSize Tryz.prog 234=some 1:=by kernel_rfl
theorem Bl :elemSize Tryz.prog 26=some 7:=by kernel_rfl
theorem NM :elemSize Tryz.prog 27=some 2:=by kernel_rfl
theorem qV :elemSize Tryz.prog 53=some 6:=by kernel_rfl
theorem XY :elemSize Tryz.prog 64=some 1:=by kernel_rfl
theorem wW :elemSize Tryz.prog 69=some 1:=by kernel_rfl
theorem Bj :elemSize Tryz.prog 79=some 12:=by kernel_rfl
theorem adn :elemSize Tryz.prog 82=some 7:=by kernel_rfl
theorem u6 :qU Tryz.prog 102 0=some 0:=by kernel_rfl
theorem oP :qU Tryz.prog 102 1=some 1:=by kernel_rfl
theorem Gj :qU Tryz.prog 104 0=some 0:=by kernel_rfl
theorem Bh :qU Tryz.prog 104 1=some 1:=by kernel_rfl
theorem Zh :qU Tryz.prog 43 0=some 0:=by kernel_rfl
theorem abu :Tryz.prog.underlying 106=some (.interface (Tryz.prog.methodsAt 106)):=by kernel_rfl
theorem inB :∃ j,Tryz.prog.info? 102=some j∧(j.size != 0)=true:=sized (n:=2) (by kernel_rfl) rfl
theorem acZ :liesAt Tryz.prog Tryz.prog.depth 102 (2 / Tryz.prog.cellsOf 102) 0 102 1=true:=by kernel_rfl
theorem acY :liesAt Tryz.prog Tryz.prog.depth 104 (3 / Tryz.prog.cellsOf 104) 1 102 1=true:=by kernel_rfl
theorem mixed :Tryz.prog.follows .mixedOrders=true:=by kernel_rfl
theorem Hu :Tryz.prog.underlying 163=some (.map 9 3):=by kernel_rfl
theorem abm :concrete Tryz.prog 207=true:=by kernel_rfl
theorem abl :concrete Tryz.prog 218=true:=by kernel_rfl
theorem acU :bT Tryz.prog 10=true:=by kernel_rfl
theorem abd :bT Tryz.prog 101=true:=by kernel_rfl
theorem abb :bT Tryz.prog 107=true:=by kernel_rfl
theorem aa_ :bT Tryz.prog 109=true:=by kernel_rfl
theorem acT :bT Tryz.prog 11=true:=by kernel_rfl
theorem aa9 :bT Tryz.prog 123=true:=by kernel_rfl
theorem aa8 :bT Tryz.prog 124=true:=by kernel_rfl
theorem aa7 :bT Tryz.prog 127=true:=by kernel_rfl
theorem aa6 :bT Tryz.prog 129=true:=by kernel_rfl
theorem acS :bT Tryz.prog 13=true:=by kernel_rfl
theorem aa5 :bT Tryz.prog 138=true:=by kernel_rfl
theorem acR :bT Tryz.prog 14=true:=by kernel_rfl
theorem Xk :bT Tryz.prog 140=true:=by kernel_rfl
theorem aa4 :bT Tryz.prog 144=true:=by kernel_rfl
theorem Hq :bT Tryz.prog 145=true:=by kernel_rfl
theorem SF :bT Tryz.prog 146=true:=by kernel_rfl
theorem KD :bT Tryz.prog 152=true:=by kernel_rfl
theorem aa3 :bT Tryz.prog 155=true:=by kernel_rfl
theorem aa2 :bT Tryz.prog 156=true:=by kernel_rfl
theorem aa1 :bT Tryz.prog 157=true:=by kernel_rfl
theorem aa0 :bT Tryz.prog 158=true:=by kernel_rfl
theorem aaZ :bT Tryz.prog 159=true:=by kernel_rfl
theorem acQ :bT Tryz.prog 16=true:=by kernel_rfl
theorem Xj :bT Tryz.prog 160=true:=by kernel_rfl
theorem aaY :bT Tryz.prog 165=true:=by kernel_rfl
theorem aaX :bT Tryz.prog 166=true:=by kernel_rfl
theorem aaW :bT Tryz.prog 167=true:=by kernel_rfl
theorem aaV :bT Tryz.prog 180=true:=by kernel_rfl
theorem aaU :bT Tryz.prog 183=true:=by kernel_rfl
theorem Xi :bT Tryz.prog 184=true:=by kernel_rfl
theorem aaT :bT Tryz.prog 191=true:=by kernel_rfl
theorem aaS :bT Tryz.prog 192=true:=by kernel_rfl
theorem aaR :bT Tryz.prog 193=true:=by kernel_rfl
theorem aaQ :bT Tryz.prog 194=true:=by kernel_rfl
theorem aaP :bT Tryz.prog 195=true:=by kernel_rfl
theorem aaO :bT Tryz.prog 197=true:=by kernel_rfl
theorem aaN :bT Tryz.prog 213=true:=by kernel_rfl
theorem aaM :bT Tryz.prog 214=true:=by kernel_rfl
theorem aaL :bT Tryz.prog 216=true:=by kernel_rfl
theorem Xh :bT Tryz.prog 217=true:=by kernel_rfl
theorem acP :bT Tryz.prog 22=true:=by kernel_rfl
theorem KC :bT Tryz.prog 229=true:=by kernel_rfl
theorem acO :bT Tryz.prog 23=true:=by kernel_rfl
theorem aaK :bT Tryz.prog 232=true:=by kernel_rfl
theorem aaJ :bT Tryz.prog 239=true:=by kernel_rfl
theorem aaI :bT Tryz.prog 240=true:=by kernel_rfl
theorem aaH :bT Tryz.prog 242=true:=by kernel_rfl
theorem aaG :bT Tryz.prog 243=true:=by kernel_rfl
theorem aaF :bT Tryz.prog 260=true:=by kernel_rfl
theorem Xg :bT Tryz.prog 261=true:=by kernel_rfl
theorem aaE :bT Tryz.prog 263=true:=by kernel_rfl
theorem aaD :bT Tryz.prog 268=true:=by kernel_rfl
theorem Xf :bT Tryz.prog 272=true:=by kernel_rfl
theorem aaC :bT Tryz.prog 274=true:=by kernel_rfl
theorem acN :bT Tryz.prog 29=true:=by kernel_rfl
theorem acM :bT Tryz.prog 30=true:=by kernel_rfl
theorem acL :bT Tryz.prog 31=true:=by kernel_rfl
theorem aaB :bT Tryz.prog 312=true:=by kernel_rfl
theorem aaA :bT Tryz.prog 313=true:=by kernel_rfl
theorem aaz :bT Tryz.prog 365=true:=by kernel_rfl
theorem acK :bT Tryz.prog 45=true:=by kernel_rfl
theorem acJ :bT Tryz.prog 53=true:=by kernel_rfl
theorem acI :bT Tryz.prog 54=true:=by kernel_rfl
theorem acH :bT Tryz.prog 55=true:=by kernel_rfl
theorem ZX :bT Tryz.prog 59=true:=by kernel_rfl
theorem ZW :bT Tryz.prog 60=true:=by kernel_rfl
theorem acG :bT Tryz.prog 61=true:=by kernel_rfl
theorem acF :bT Tryz.prog 62=true:=by kernel_rfl
theorem ZU :bT Tryz.prog 63=true:=by kernel_rfl
theorem ZQ :bT Tryz.prog 66=true:=by kernel_rfl
theorem acE :bT Tryz.prog 67=true:=by kernel_rfl
theorem acD :bT Tryz.prog 68=true:=by kernel_rfl
theorem acC :bT Tryz.prog 77=true:=by kernel_rfl
theorem acB :bT Tryz.prog 78=true:=by kernel_rfl
theorem adY :bT Tryz.prog 8=true:=by kernel_rfl
theorem Xe :bT Tryz.prog 82=true:=by kernel_rfl
theorem ZP :bT Tryz.prog 87=true:=by kernel_rfl
theorem acA :bT Tryz.prog 9=true:=by kernel_rfl
theorem acz :bT Tryz.prog 98=true:=by kernel_rfl
theorem om :iD Tryz.prog 109 111 10 160:=mZ (by kernel_rfl)
theorem xq :iD Tryz.prog 121 158 2 32:=mZ (by kernel_rfl)
theorem Ad :iD Tryz.prog 140 146 3 32:=mZ (by kernel_rfl)
theorem G_ :iD Tryz.prog 156 155 2 2:=mZ (by kernel_rfl)
theorem IJ :iD Tryz.prog 22 9 1 16:=mZ (by kernel_rfl)
theorem WV :iD Tryz.prog 234 3 1 8:=mZ (by kernel_rfl)
theorem FL :iD Tryz.prog 26 57 7 104:=mZ (by kernel_rfl)
theorem ZO :iD Tryz.prog 53 55 6 88:=mZ (by kernel_rfl)
theorem ZN :iD Tryz.prog 64 38 1 8:=mZ (by kernel_rfl)
theorem Au :iD Tryz.prog 69 5 1 1:=mZ (by kernel_rfl)
theorem II :iD Tryz.prog 79 115 12 184:=mZ (by kernel_rfl)
theorem ZM :iD Tryz.prog 82 95 7 40:=mZ (by kernel_rfl)
theorem BG :sw Tryz.prog 111=some [(0,1),(1,1),(2,6),(8,1),(9,1)]:=by kernel_rfl
theorem JD :sw Tryz.prog 115=some [(0,1),(1,1),(2,10)]:=by kernel_rfl
theorem YZ :sw Tryz.prog 158=some [(0,1),(1,1)]:=by kernel_rfl
theorem YX :sw Tryz.prog 205=some [(0,1),(1,1)]:=by kernel_rfl
theorem aau :sw Tryz.prog 29=some [(0,3),(3,1),(4,1)]:=by kernel_rfl
theorem Sw :sw Tryz.prog 55=some [(0,1),(1,1),(2,1),(3,1),(4,1),(5,1)]:=by kernel_rfl
theorem aat :sw Tryz.prog 57=some [(0,1),(1,6)]:=by kernel_rfl
theorem YV (w:Go.World):(Instr.typeAssert .nilIface 20 207 true).run Tryz.prog w=.ok (.tuple #[.agg #[.int .i64 0,.int .i64 0],.bool false]) w:=by kernel_rfl
theorem YU (w:Go.World):(Instr.typeAssert .nilIface 20 218 true).run Tryz.prog w=.ok (.tuple #[.agg #[.int .i64 0],.bool false]) w:=by kernel_rfl
theorem YT (v:Value) (w:Go.World):(Instr.typeAssert (.iface 207 v) 20 207 true).run Tryz.prog w=.ok (.tuple #[v,.bool true]) w:=by kernel_rfl
theorem YS (v:Value) (w:Go.World):(Instr.typeAssert (.iface 218 v) 20 218 true).run Tryz.prog w=.ok (.tuple #[v,.bool true]) w:=by kernel_rfl
theorem BF :gZ Tryz.prog 100=some (false,1):=by kernel_rfl
theorem WQ :gZ Tryz.prog 109=some (false,1):=by kernel_rfl
theorem iL :gZ Tryz.prog 111=some (true,10):=by kernel_rfl
theorem Ol :gZ Tryz.prog 140=some (false,1):=by kernel_rfl
theorem G5 :gZ Tryz.prog 146=some (true,3):=by kernel_rfl
theorem aas :gZ Tryz.prog 156=some (false,1):=by kernel_rfl
theorem Sn :gZ Tryz.prog 158=some (true,2):=by kernel_rfl
theorem WO :gZ Tryz.prog 207=some (true,2):=by kernel_rfl
theorem WM :gZ Tryz.prog 218=some (true,1):=by kernel_rfl
theorem acp :gZ Tryz.prog 22=some (false,1):=by kernel_rfl
theorem aco :gZ Tryz.prog 27=some (false,1):=by kernel_rfl
theorem Kg :gZ Tryz.prog 3=some (false,1):=by kernel_rfl
theorem zA :gZ Tryz.prog 30=some (false,1):=by kernel_rfl
theorem Ni :gZ Tryz.prog 37=some (false,1):=by kernel_rfl
theorem acn :gZ Tryz.prog 38=some (false,1):=by kernel_rfl
theorem adU :gZ Tryz.prog 4=some (false,1):=by kernel_rfl
theorem WL :gZ Tryz.prog 43=some (true,2):=by kernel_rfl
theorem adT :gZ Tryz.prog 5=some (false,1):=by kernel_rfl
theorem acj :gZ Tryz.prog 53=some (false,1):=by kernel_rfl
theorem Ar :gZ Tryz.prog 55=some (true,6):=by kernel_rfl
theorem WK :gZ Tryz.prog 64=some (false,1):=by kernel_rfl
theorem Aq :gZ Tryz.prog 69=some (false,1):=by kernel_rfl
theorem Nh :gZ Tryz.prog 79=some (false,1):=by kernel_rfl
theorem Qc :gZ Tryz.prog 9=some (false,1):=by kernel_rfl
theorem C9 :Tryz.prog.underlying 124=some (.int .u32):=by kernel_rfl
theorem WA :Tryz.prog.underlying 26=some (.slice 57):=by kernel_rfl
theorem BA :Tryz.prog.underlying 3=some (.int .i64):=by kernel_rfl
theorem IC :Tryz.prog.underlying 37=some (.int .u64):=by kernel_rfl
theorem aci :Tryz.prog.underlying 38=some (.int .u64):=by kernel_rfl
theorem adQ :Tryz.prog.underlying 4=some (.bool):=by kernel_rfl
theorem xJ :Tryz.prog.underlying 5=some (.int .u8):=by kernel_rfl
theorem Nc :Tryz.prog.underlying 69=some (.slice 5):=by kernel_rfl
theorem bL :Tryz.prog.underlying 9=some (.string):=by kernel_rfl
theorem Ac :Tryz.prog.underlying 100=some (.pointer 102):=by kernel_rfl
theorem Wz :Tryz.prog.underlying 169=some (.pointer 5):=by kernel_rfl
theorem Oh :Tryz.prog.underlying 174=some .unsafePointer:=by kernel_rfl
theorem YE :(Tryz.prog.info? 3).map (·.zero)=some (some (.int .i64 0)):=by kernel_rfl
theorem Wo :jY Tryz.prog 102=some [.val (.pointer none),.own (.slice none 0 0) []]:=by kernel_rfl
theorem aam :jY Tryz.prog 104=some [.own (.slice none 0 0) [],.val (.pointer none),.own (.slice none 0 0) []]:=by kernel_rfl
theorem fF :jY Tryz.prog 111=some [.int .i64 0,.str [],.int .i64 0,.bool false,.int .i64 0,.str [],.own (.slice none 0 0) [],.own (.slice none 0 0) [],.own (.slice none 0 0) [],.own (.slice none 0 0) []]:=by kernel_rfl
theorem JU :jY Tryz.prog 115=some [.str [],.bool false,.int .i64 0,.str [],.int .i64 0,.bool false,.int .i64 0,.str [],.own (.slice none 0 0) [],.own (.slice none 0 0) [],.own (.slice none 0 0) [],.own (.slice none 0 0) []]:=by kernel_rfl
theorem nZ :jY Tryz.prog 146=some [.int .i64 0,.str [],.int .i64 0]:=by kernel_rfl
theorem Oc :jY Tryz.prog 155=some [.int .u8 0,.int .u8 0]:=by kernel_rfl
theorem Ob :jY Tryz.prog 158=some [.int .i64 0,.own (.slice none 0 0) []]:=by kernel_rfl
theorem aal :jY Tryz.prog 205=some [.own (.slice none 0 0) [],.int .i64 0]:=by kernel_rfl
theorem Wn :jY Tryz.prog 207=some [.int .i64 0,.int .i64 0]:=by kernel_rfl
theorem Wm :jY Tryz.prog 218=some [.int .i64 0]:=by kernel_rfl
theorem ab8 :jY Tryz.prog 29=some [.str [],.own (.slice none 0 0) [],.own (.slice none 0 0) [],.own (.slice none 0 0) [],.own (.slice none 0 0) []]:=by kernel_rfl
theorem adL :jY Tryz.prog 3=some [.int .i64 0]:=by kernel_rfl
theorem Wj :jY Tryz.prog 30=some [.int .i64 0]:=by kernel_rfl
theorem ZJ :jY Tryz.prog 43=some [.str [],.int .u64 0]:=by kernel_rfl
theorem xC :jY Tryz.prog 55=some [.int .i64 0,.bool false,.int .i64 0,.str [],.own (.slice none 0 0) [],.own (.slice none 0 0) []]:=by kernel_rfl
theorem Wi :jY Tryz.prog 57=some [.str [],.int .i64 0,.bool false,.int .i64 0,.str [],.own (.slice none 0 0) [],.own (.slice none 0 0) []]:=by kernel_rfl
theorem ab7 :jY Tryz.prog 64=some [.own (.slice none 0 0) []]:=by kernel_rfl
theorem ab6 :jY Tryz.prog 78=some [.int .u8 0,.int .u8 0,.int .u8 0,.int .u8 0,.int .u8 0,.int .u8 0,.int .u8 0,.int .u8 0,.int .u8 0,.int .u8 0,.int .u8 0,.int .u8 0,.int .u8 0,.int .u8 0,.int .u8 0,.int .u8 0]:=by kernel_rfl
theorem M7 :jY Tryz.prog 93=some [.int .u64 0,.int .u64 0,.int .u64 0,.int .u64 0]:=by kernel_rfl
theorem TQ :jY Tryz.prog 95=some [.int .u64 0,.int .u64 0,.int .u64 0,.int .u64 0,.bool false,.bool false,.int .u8 0]:=by kernel_rfl
def FX :Facts:={ti:=[(3,false,1),(4,false,1),(5,false,1),(9,false,1),(22,false,1),(24,true,3),(26,false,1),(27,false,1),(30,false,1),(38,false,1),(43,true,2),(53,false,1),(55,true,6),(57,true,7),(64,false,1),(109,false,1),(111,true,10),(115,true,12),(146,true,3),(205,true,2),(207,true,2),(218,true,1)],fo:=[(24,0,0),(24,1,1),(24,2,2),(29,0,0),(29,1,3),(29,2,4),(43,0,0),(43,1,1),(55,0,0),(55,1,1),(55,2,2),(55,3,3),(55,4,4),(55,5,5),(57,0,0),(57,1,1),(95,0,0),(104,0,0),(104,1,1),(111,0,0),(111,1,1),(111,2,2),(111,3,8),(111,4,9),(115,0,0),(115,1,1),(115,2,2),(146,0,0),(146,1,1),(146,2,2),(158,1,1),(205,0,0),(205,1,1),(207,0,0),(207,1,1),(218,0,0)],fd:=[],str:=[]}
theorem dh :FX.okB Tryz.prog=true:=by kernel_rfl
theorem cs {n:Nat} {all:Array Oper} {σ:List bn} {ds:List Deferred} {Q:Post} (k:Nat) {l l':List Oper} {env env':Env} (h:Jj FX all n k l env=some (env',l')) (hr:AR Tryz.prog n all l' env' σ ds Q):AR Tryz.prog n all l env σ ds Q:=AR.cs dh k h hr
def FY :FB:=⟨{FX with ti:=FX.ti ++ [(3,false,1),(9,false,1),(22,false,1),(53,false,1),(55,true,6),(57,true,7),(93,true,4),(95,true,7),(109,false,1),(111,true,10),(115,true,12),(146,true,3),(156,false,1),(158,true,2)]},[(24,[.str [],.own (.slice none 0 0) [],.own (.slice none 0 0) []]),(55,[.int .i64 0,.bool false,.int .i64 0,.str [],.own (.slice none 0 0) [],.own (.slice none 0 0) []]),(57,[.str [],.int .i64 0,.bool false,.int .i64 0,.str [],.own (.slice none 0 0) [],.own (.slice none 0 0) []]),(95,[.int .u64 0,.int .u64 0,.int .u64 0,.int .u64 0,.bool false,.bool false,.int .u8 0]),(111,[.int .i64 0,.str [],.int .i64 0,.bool false,.int .i64 0,.str [],.own (.slice none 0 0) [],.own (.slice none 0 0) [],.own (.slice none 0 0) [],.own (.slice none 0 0) []]),(115,[.str [],.bool false,.int .i64 0,.str [],.int .i64 0,.bool false,.int .i64 0,.str [],.own (.slice none 0 0) [],.own (.slice none 0 0) [],.own (.slice none 0 0) [],.own (.slice none 0 0) []]),(146,[.int .i64 0,.str [],.int .i64 0]),(158,[.int .i64 0,.own (.slice none 0 0) []]),(207,[.int .i64 0,.int .i64 0]),(218,[.int .i64 0])],[(24,[(0,1),(1,1),(2,1)]),(55,[(0,1),(1,1),(2,1),(3,1),(4,1),(5,1)]),(57,[(0,1),(1,6)]),(95,[(0,4),(4,1),(5,1),(6,1)]),(111,[(0,1),(1,1),(2,6),(8,1),(9,1)]),(115,[(0,1),(1,1),(2,10)]),(146,[(0,1),(1,1),(2,1)]),(158,[(0,1),(1,1)]),(207,[(0,1),(1,1)]),(218,[(0,1)])]⟩
instance : FK Tryz.prog:=⟨FY,⟨by kernel_rfl,by kernel_rfl,by kernel_rfl⟩,[12,17,22,23,24,25,26,27,28,29,31,36,37,40,41,42,43,44,46,47,56,59,60,61,62,63,64,65,69,70,73,74,75,76,77,78,83,84,85,86,88,89,90,91,92,93,94,97,98,99,100,101,102,103,108,110,111,112,113,114,115,116,117,118,119,120,121,122,125,126,127,129,130,131,132,138,139,140,141,142,143,145,146,147,148,149,150,151,152,153,154,156,160,165,168,169,181,182,184,185,186,187,188,189,190,191,196,198,215,230,231,232,233,234,235,236,237,238,241,244,245,260,261,262,267,269,270,271,272,273,275,276,277,278,279,301,307,308,309,310,311,312,313,314,318,320,340,341,342,343,344],by kernel_rfl⟩
variable {τ : List bn} {Q : fq → List bn → Prop}
abbrev PC :=AC Tryz.prog
@[reducible] def iP (x:Int):PV:=.int .i64 x
@[reducible] def sP (x:List Str):PV:=.list (List.map oh x)
@[reducible] def pP (b:Nat):PV:=.val (.pointer (some ⟨b,0,none⟩))
@[reducible] def l8 (x:bF):List PV:=[.str x.key,.list (List.map oh x.restore),.list (List.map oh x.files)]
@[reducible] def uT (x:dJ):List PV:=[.str x.spec.key,.list (List.map oh x.spec.restore),.list (List.map oh x.spec.files),.list (List.map bE.cells x.vars),.list (List.map b_.cells x.files)]
@[reducible] def IV (x:b_):List PV:=[.str x.path,.int .u64 (x.digest.toNat:Int)]
@[reducible] def dB (x:av):List PV:=[.int .i64 x.kind,.bool x.lJ,.int .i64 x.mG,.str x.nu,.list (av.dV x.dW),.list (List.map oh x.keys)]
@[reducible] def OO (x:bE):List PV:=[.str x.name,.int .i64 x.value.kind,.bool x.value.lJ,.int .i64 x.value.mG,.str x.value.nu,.list (av.dV x.value.dW),.list (List.map oh x.value.keys)]
@[reducible] def Gb (x:dD):List PV:=[.int .u64 ((x.set.getD 0 0).toNat:Int),.int .u64 ((x.set.getD 1 0).toNat:Int),.int .u64 ((x.set.getD 2 0).toNat:Int),.int .u64 ((x.set.getD 3 0).toNat:Int),.bool x.many,.bool x.literal,.int .u8 (x.char.toNat:Int)]
@[reducible] def cB (x:aj):List PV:=[.int .i64 x.kind,.str x.name,.int .i64 x.value.kind,.bool x.value.lJ,.int .i64 x.value.mG,.str x.value.nu,.list (av.dV x.value.dW),.list (List.map oh x.value.keys),.list (aj.dV x.args),.list (List.map oh x.keys)]
@[reducible] def Vu (x:aR):List PV:=[.str x.text,.bool x.Uy,.int .i64 x.expr.kind,.str x.expr.name,.int .i64 x.expr.value.kind,.bool x.expr.value.lJ,.int .i64 x.expr.value.mG,.str x.expr.value.nu,.list (av.dV x.expr.value.dW),.list (List.map oh x.expr.value.keys),.list (aj.dV x.expr.args),.list (List.map oh x.expr.keys)]
@[reducible] def mF (x:au):List PV:=[.int .i64 x.kind,.str x.text,.int .i64 x.at_]
@[reducible] def E_ (x:aF):List PV:=[.int .i64 x.kind,.list (List.map ZI x.items)]
@[reducible] def aS (x:ah):List PV:=[.list (List.map au.cells x.ts),.int .i64 x.at_]
@[reducible] def jo (x:ay):List PV:=[.int .i64 x.at_,.int .i64 x.code]
theorem CB {b:Nat} {v p:Value} {bs:List UInt8} (hp:p=Value.pointer none∨p=.pointer (some ⟨b,0,none⟩)) {R:fq→List bn→Prop} (h:R (.ret (.tuple [])) [.kr b 102 [.val (.pointer (some ⟨b,0,none⟩)),.own v (bs.map fO)],.row v bs.length 1 5]):
    AC Tryz.prog 82 [.val (.pointer (some ⟨b,0,none⟩))] [.kr b 102 [.val p,.own v (bs.map fO)],.row v bs.length 1 5] R:=by
  obtain ⟨j,hj1,hj2⟩:=inB; rcases hp with rfl | rfl
  · skip
    refine AC.kH 20 [] [0] Tryz.func82 rfl rfl rfl rfl rfl ?_; refine AW.seq ?_; refine AW.region ?_; refine AR.step rfl rfl rfl (AO.calc' rfl ?_); refine AR.step rfl rfl rfl (AO.nilCheck rfl rfl ?_); refine AR.step rfl rfl rfl (AO.dA rfl rfl u6 ?_); refine AR.step rfl rfl rfl (AO.jC (i:=0) rfl rfl rfl BF rfl rfl ?_); refine AR.step rfl rfl rfl (AO.JF rfl Ac rfl rfl ?_); refine AR.nil [0,6] rfl ?_; refine AW.cond rfl (fun h1=>?_) (fun h1=>?_)
    · refine AW.region ?_; refine AR.step rfl rfl rfl (AO.calc' rfl ?_); refine AR.step rfl rfl rfl (AO.calc' rfl ?_); refine AR.step rfl rfl rfl (AO.UW (i:=0) rfl Ac Oh hj1 hj2 rfl rfl rfl ?_); refine AR.step rfl rfl rfl (AO.QB rfl rfl rfl rfl Tryz.func106 (by kernel_rfl) (by kernel_rfl) (by kernel_rfl) (by kernel_rfl) rfl ?_); refine AR.step rfl rfl rfl (AO.QY (i:=0) rfl Oh Ac hj1 rfl rfl rfl acZ ?_); refine AR.step rfl rfl rfl (AO.nilCheck rfl rfl ?_); refine AR.step rfl rfl rfl (AO.dA rfl rfl u6 ?_); refine AR.dF rfl rfl (AO.o_ (i:=0) rfl rfl rfl BF rfl rfl rfl rfl rfl ?_); refine AR.nil [] rfl ?_; exact ⟨rfl,[],rfl,_,List.Sublist.refl _,h⟩
    · cases h1
  · skip
    refine AC.kH 20 [] [0] Tryz.func82 rfl rfl rfl rfl rfl ?_; refine AW.seq ?_; refine AW.region ?_; refine AR.step rfl rfl rfl (AO.calc' rfl ?_); refine AR.step rfl rfl rfl (AO.nilCheck rfl rfl ?_); refine AR.step rfl rfl rfl (AO.dA rfl rfl u6 ?_); refine AR.step rfl rfl rfl (AO.jC (i:=0) rfl rfl rfl BF rfl rfl ?_); refine AR.step rfl rfl rfl (AO.JF rfl Ac rfl rfl ?_); refine AR.nil [0,6] rfl ?_; refine AW.cond rfl (fun h1=>?_) (fun h1=>?_)
    · cases h1
    · refine AW.seq ?_; refine AW.region ?_; refine AR.step rfl rfl rfl (AO.calc' rfl ?_); refine AR.step rfl rfl rfl (AO.nilCheck rfl rfl ?_); refine AR.step rfl rfl rfl (AO.dA rfl rfl u6 ?_); refine AR.step rfl rfl rfl (AO.jC (i:=0) rfl rfl rfl BF rfl rfl ?_); refine AR.step rfl rfl rfl (AO.calc' rfl ?_); refine AR.step rfl rfl rfl (AO.F4 rfl Ac hj1 rfl rfl ?_); refine AR.nil [19] rfl ?_; refine AW.cond rfl (fun h2=>?_) (fun h2=>?_)
      · cases h2
      · refine AW.skip ?_; exact ⟨rfl,[],rfl,_,List.Sublist.refl _,h⟩
theorem CG {b:Nat} {v:Value} {bs r:List UInt8} {c:UInt8} (hv:app bs [c]=some r) {R:fq→List bn→Prop} (h:∀ v',R (.ret (.val .nilIface)) [.GQ b v' 102 5 r]):AC Tryz.prog 60 [.val (.pointer (some ⟨b,0,none⟩)),.int .u8 (c.toNat:Int)] [.GQ b v 102 5 bs] R:=by
  refine AC.GQ fun p hp hroom=>?_; refine AC.kH 17 [.tmp 4] [0,1] Tryz.func60 rfl rfl rfl rfl rfl ?_; refine AW.seq ?_; refine AW.region ?_; refine AR.step rfl rfl rfl (AO.calc' rfl ?_); refine AR.nil [0,1] rfl ?_; refine AW.seq ?_; refine AW.region ?_; refine AR.step rfl rfl rfl (AO.calc' rfl ?_); refine AR.step rfl rfl rfl (AO.call rfl _ rfl rfl Xe (CB hp ?_)); refine AR.nil [0,1] rfl ?_; refine AW.seq ?_; refine AW.region ?_; refine AR.step rfl rfl rfl (AO.calc' rfl ?_); refine AR.step rfl rfl rfl (AO.calc' rfl ?_); refine AR.step rfl rfl rfl (AO.nilCheck rfl rfl ?_); refine AR.step rfl rfl rfl (AO.dA rfl rfl oP ?_); refine AR.step rfl rfl rfl (AO.jC (i:=0) rfl rfl rfl Aq rfl rfl ?_); refine AR.step rfl rfl rfl (AO.calc' rfl ?_); refine AR.step rfl rfl rfl (AO.buildSlice rfl Au rfl rfl rfl ?_); refine AR.step rfl rfl rfl (AO.Iu (i:=1) hv rfl rfl rfl rfl rfl (EM.list rfl wW (by simp [fO]) (by simp [fO,PV.one])) rfl Au (fun v' s1 hs1 hr1=>?_)); cases hs1; refine AR.step rfl rfl rfl (AO.nilCheck rfl rfl ?_); refine AR.step rfl rfl rfl (AO.dA rfl rfl oP ?_); refine AR.dF rfl rfl (AO.o_ (i:=0) rfl rfl rfl Aq rfl rfl rfl rfl rfl ?_); refine AR.nil [1] rfl ?_; refine AW.seq ?_; refine AW.region ?_; refine AR.step rfl rfl rfl (AO.calc' rfl ?_); refine AR.nil [4] rfl ?_; refine AW.ret ?_; exact ⟨rfl,_,⟨_,_,rfl,rfl,rfl⟩,_,List.Sublist.refl _,_,v',r,rfl,.inr rfl,hr1 hroom,h v'⟩
theorem GH {b:Nat} {v:Value} {bs r:List UInt8} {s:List UInt8} (hv:app bs s=some r) {R:fq→List bn→Prop} (h:∀ v',R (.ret (.tuple [.int .i64 (s.length:Int),.val .nilIface])) [.GQ b v' 102 5 r]):AC Tryz.prog 76 [.val (.pointer (some ⟨b,0,none⟩)),.str s] [.GQ b v 102 5 bs] R:=by
  refine AC.GQ fun p hp hroom=>?_; refine AC.kH 19 [.tmp 4,.tmp 5] [0,1] Tryz.func76 rfl rfl rfl rfl rfl ?_; refine AW.seq ?_; refine AW.region ?_; refine AR.step rfl rfl rfl (AO.calc' rfl ?_); refine AR.step rfl rfl rfl (AO.calc' rfl ?_); refine AR.nil [0,1] rfl ?_; refine AW.seq ?_; refine AW.region ?_; refine AR.step rfl rfl rfl (AO.calc' rfl ?_); refine AR.step rfl rfl rfl (AO.call rfl _ rfl rfl Xe (CB hp ?_)); refine AR.nil [0,1] rfl ?_; refine AW.seq ?_; refine AW.region ?_; refine AR.step rfl rfl rfl (AO.calc' rfl ?_); refine AR.step rfl rfl rfl (AO.calc' rfl ?_); refine AR.step rfl rfl rfl (AO.nilCheck rfl rfl ?_); refine AR.step rfl rfl rfl (AO.dA rfl rfl oP ?_); refine AR.step rfl rfl rfl (AO.jC (i:=0) rfl rfl rfl Aq rfl rfl ?_); refine AR.step rfl rfl rfl (AO.calc' rfl ?_); refine AR.step rfl rfl rfl (AO.Iu (i:=1) hv rfl rfl rfl rfl rfl (EM.str bL) rfl Au (fun v' s1 hs1 hr1=>?_)); cases hs1; refine AR.step rfl rfl rfl (AO.nilCheck rfl rfl ?_); refine AR.step rfl rfl rfl (AO.dA rfl rfl oP ?_); refine AR.dF rfl rfl (AO.o_ (i:=0) rfl rfl rfl Aq rfl rfl rfl rfl rfl ?_); refine AR.nil [1] rfl ?_; refine AW.seq ?_; refine AW.region ?_; refine AR.step rfl rfl rfl (AO.calc' rfl ?_); refine AR.step rfl rfl rfl (AO.bC rfl rfl rfl rfl bL rfl ?_); refine AR.step rfl rfl rfl (AO.calc' rfl ?_); refine AR.step rfl rfl rfl (AO.calc' rfl ?_); refine AR.nil [4,5] rfl ?_; refine AW.ret ?_; exact ⟨rfl,_,⟨_,_,rfl,rfl,_,_,rfl,rfl,rfl⟩,_,List.Sublist.refl _,_,v',r,rfl,.inr rfl,hr1 hroom,h v'⟩
theorem NV {b:Nat} {v:Value} {bs:List UInt8} {R:fq→List bn→Prop} (h:R (.ret (.int .i64 (bs.length:Int))) [.GQ b v 102 5 bs]):AC Tryz.prog 77 [.val (.pointer (some ⟨b,0,none⟩))] [.GQ b v 102 5 bs] R:=by
  refine AC.GQ fun p hp hroom=>?_; refine AC.kH 8 [.tmp 2] [0] Tryz.func77 rfl rfl rfl rfl rfl ?_; refine AW.seq ?_; refine AW.region ?_; refine AR.step rfl rfl rfl (AO.calc' rfl ?_); refine AR.nil [0] rfl ?_; refine AW.seq ?_; refine AW.region ?_; refine AR.step rfl rfl rfl (AO.calc' rfl ?_); refine AR.step rfl rfl rfl (AO.nilCheck rfl rfl ?_); refine AR.step rfl rfl rfl (AO.dA rfl rfl oP ?_); refine AR.step rfl rfl rfl (AO.jC (i:=0) rfl rfl rfl Aq rfl rfl ?_); refine AR.step rfl rfl rfl (AO.aV (l:=bs) rfl rfl rfl rfl wW rfl rfl ?_); refine AR.step rfl rfl rfl (AO.calc' rfl ?_); refine AR.nil [2] rfl ?_; refine AW.ret ?_; exact ⟨rfl,_,⟨_,_,rfl,rfl,rfl⟩,_,List.Sublist.refl _,p,v,bs,rfl,hp,hroom,h⟩
theorem GI {b:Nat} {v:Value} {bs:List UInt8} {R:fq→List bn→Prop} (h:R (.ret (.str bs)) []):AC Tryz.prog 78 [.val (.pointer (some ⟨b,0,none⟩))] [.GQ b v 102 5 bs] R:=by
  refine AC.Zx fun p hroom=>?_; refine AC.kH 14 [.tmp 2] [0] Tryz.func78 rfl rfl rfl rfl rfl ?_; refine AW.seq ?_; refine AW.region ?_; refine AR.step rfl rfl rfl (AO.calc' rfl ?_); refine AR.nil [0] rfl ?_; refine AW.seq ?_; refine AW.draw 10 mixed (by kernel_rfl) rfl ?_; refine Ev.cons rfl rfl rfl (AO.calc' rfl ⟨rfl,rfl⟩) ?_; refine Ev.cons rfl rfl rfl (AO.nilCheck rfl rfl ⟨rfl,rfl⟩) ?_; refine Ev.cons rfl rfl rfl (AO.dA rfl rfl oP ⟨rfl,rfl⟩) ?_; refine Ev.cons rfl rfl rfl (AO.jC (i:=0) rfl rfl rfl Aq rfl rfl ⟨rfl,rfl⟩) ?_; refine Ev.cons rfl rfl rfl (AO.sliceData rfl rfl rfl rfl hroom ⟨rfl,rfl⟩) ?_; refine Ev.cons rfl rfl rfl (AO.calc' rfl ⟨rfl,rfl⟩) ?_; refine Ev.cons rfl rfl rfl (AO.nilCheck rfl rfl ⟨rfl,rfl⟩) ?_; refine Ev.cons rfl rfl rfl (AO.dA rfl rfl oP ⟨rfl,rfl⟩) ?_; refine Ev.cons rfl rfl rfl (AO.jC (i:=0) rfl rfl rfl Aq rfl rfl ⟨rfl,rfl⟩) ?_; refine Ev.cons rfl rfl rfl (AO.aV (l:=bs) rfl rfl rfl rfl wW rfl rfl ⟨rfl,rfl⟩) ?_; refine Ev.nil ?_; show AR _ _ _ _ _ _ _ _; refine AR.step rfl rfl rfl (AO.unsafeString rfl rfl rfl rfl Wz adp rfl rfl rfl ?_); refine AR.step rfl rfl rfl (AO.calc' rfl ?_); refine AR.nil [2] rfl ?_; refine AW.ret ?_; exact ⟨rfl,_,⟨_,_,rfl,rfl,rfl⟩,[],List.nil_sublist _,h⟩
theorem L9 {b:Nat} {q:PV} {v p:Value} {bs:List UInt8} (hp:p=Value.pointer none∨p=.pointer (some ⟨b,1,none⟩)) {R:fq→List bn→Prop} (h:R (.ret (.tuple [])) [.row v (List.length bs) 1 5,.kr b 104 [q,.val (.pointer (some ⟨b,1,none⟩)),.own v (List.map fO bs)]]):
    AC Tryz.prog 82 [.val (.pointer (some ⟨b,1,none⟩))] [.row v (List.length bs) 1 5,.kr b 104 [q,.val p,.own v (List.map fO bs)]] R:=by
  obtain ⟨j,hj1,hj2⟩:=inB; rcases hp with rfl | rfl
  · skip
    refine AC.kH 20 [] [0] Tryz.func82 rfl rfl rfl rfl rfl ?_; refine AW.seq ?_; refine AW.region ?_; refine AR.step rfl rfl rfl (AO.calc' rfl ?_); refine AR.step rfl rfl rfl (AO.nilCheck rfl rfl ?_); refine AR.step rfl rfl rfl (AO.dA rfl rfl u6 ?_); refine AR.step rfl rfl rfl (AO.jC (i:=1) rfl rfl rfl BF rfl rfl ?_); refine AR.step rfl rfl rfl (AO.JF rfl Ac rfl rfl ?_); refine AR.nil [0,6] rfl ?_; refine AW.cond rfl (fun h1=>?_) (fun h1=>?_)
    · refine AW.region ?_; refine AR.step rfl rfl rfl (AO.calc' rfl ?_); refine AR.step rfl rfl rfl (AO.calc' rfl ?_); refine AR.step rfl rfl rfl (AO.Sm (i:=1) (n:=1) rfl Ac Oh hj1 hj2 rfl rfl rfl ?_); refine AR.step rfl rfl rfl (AO.QB rfl rfl rfl rfl Tryz.func106 (by kernel_rfl) (by kernel_rfl) (by kernel_rfl) (by kernel_rfl) rfl ?_); refine AR.step rfl rfl rfl (AO.OX (i:=1) rfl Oh Ac hj1 rfl rfl rfl acY ?_); refine AR.step rfl rfl rfl (AO.nilCheck rfl rfl ?_); refine AR.step rfl rfl rfl (AO.dA rfl rfl u6 ?_); refine AR.dF rfl rfl (AO.o_ (i:=1) rfl rfl rfl BF rfl rfl rfl rfl rfl ?_); refine AR.nil [] rfl ?_; exact ⟨rfl,[],rfl,_,List.Sublist.refl _,h⟩
    · cases h1
  · skip
    refine AC.kH 20 [] [0] Tryz.func82 rfl rfl rfl rfl rfl ?_; refine AW.seq ?_; refine AW.region ?_; refine AR.step rfl rfl rfl (AO.calc' rfl ?_); refine AR.step rfl rfl rfl (AO.nilCheck rfl rfl ?_); refine AR.step rfl rfl rfl (AO.dA rfl rfl u6 ?_); refine AR.step rfl rfl rfl (AO.jC (i:=1) rfl rfl rfl BF rfl rfl ?_); refine AR.step rfl rfl rfl (AO.JF rfl Ac rfl rfl ?_); refine AR.nil [0,6] rfl ?_; refine AW.cond rfl (fun h1=>?_) (fun h1=>?_)
    · cases h1
    · refine AW.seq ?_; refine AW.region ?_; refine AR.step rfl rfl rfl (AO.calc' rfl ?_); refine AR.step rfl rfl rfl (AO.nilCheck rfl rfl ?_); refine AR.step rfl rfl rfl (AO.dA rfl rfl u6 ?_); refine AR.step rfl rfl rfl (AO.jC (i:=1) rfl rfl rfl BF rfl rfl ?_); refine AR.step rfl rfl rfl (AO.calc' rfl ?_); refine AR.step rfl rfl rfl (AO.F4 rfl Ac hj1 rfl rfl ?_); refine AR.nil [19] rfl ?_; refine AW.cond rfl (fun h2=>?_) (fun h2=>?_)
      · cases h2
      · refine AW.skip ?_; exact ⟨rfl,[],rfl,_,List.Sublist.refl _,h⟩
theorem DZ {b:Nat} {q:PV} {v p:Value} {bs r:List UInt8} (hp:p=Value.pointer none∨p=.pointer (some ⟨b,1,none⟩)) (hroom:roomy v=true) {c:UInt8} (hv:app bs [c]=some r) {R:fq→List bn→Prop} (h:∀ v',roomy v'=true→R (.ret (.val .nilIface)) [.row v' (List.length r) 1 5,.kr b 104 [q,.val (.pointer (some ⟨b,1,none⟩)),.own v' (List.map fO r)]]):AC Tryz.prog 60 [.val (.pointer (some ⟨b,1,none⟩)),.int .u8 (c.toNat:Int)] [.row v (List.length bs) 1 5,.kr b 104 [q,.val p,.own v (List.map fO bs)]] R:=by
  refine AC.kH 17 [.tmp 4] [0,1] Tryz.func60 rfl rfl rfl rfl rfl ?_; refine AW.seq ?_; refine AW.region ?_; refine AR.step rfl rfl rfl (AO.calc' rfl ?_); refine AR.nil [0,1] rfl ?_; refine AW.seq ?_; refine AW.region ?_; refine AR.step rfl rfl rfl (AO.calc' rfl ?_); refine AR.step rfl rfl rfl (AO.call rfl _ rfl rfl Xe (L9 hp ?_)); refine AR.nil [0,1] rfl ?_; refine AW.seq ?_; refine AW.region ?_; refine AR.step rfl rfl rfl (AO.calc' rfl ?_); refine AR.step rfl rfl rfl (AO.calc' rfl ?_); refine AR.step rfl rfl rfl (AO.nilCheck rfl rfl ?_); refine AR.step rfl rfl rfl (AO.dA rfl rfl oP ?_); refine AR.step rfl rfl rfl (AO.jC (i:=1) rfl rfl rfl Aq rfl rfl ?_); refine AR.step rfl rfl rfl (AO.calc' rfl ?_); refine AR.step rfl rfl rfl (AO.buildSlice rfl Au rfl rfl rfl ?_); refine AR.step rfl rfl rfl (AO.Iu (i:=0) hv rfl rfl rfl rfl rfl (EM.list rfl wW (by simp [fO]) (by simp [fO,PV.one])) rfl Au (fun v' s1 hs1 hr1=>?_)); cases hs1; refine AR.step rfl rfl rfl (AO.nilCheck rfl rfl ?_); refine AR.step rfl rfl rfl (AO.dA rfl rfl oP ?_); refine AR.dF rfl rfl (AO.o_ (i:=1) rfl rfl rfl Aq rfl rfl rfl rfl rfl ?_); refine AR.nil [1] rfl ?_; refine AW.seq ?_; refine AW.region ?_; refine AR.step rfl rfl rfl (AO.calc' rfl ?_); refine AR.nil [4] rfl ?_; refine AW.ret ?_; exact ⟨rfl,_,⟨_,_,rfl,rfl,rfl⟩,_,List.Sublist.refl _,h v' (hr1 hroom)⟩
theorem Ya {b:Nat} {q:PV} {v p:Value} {bs:List UInt8} {R:fq→List bn→Prop} (h:R (.ret (.int .i64 (bs.length:Int))) [.row v (List.length bs) 1 5,.kr b 104 [q,.val p,.own v (List.map fO bs)]]):AC Tryz.prog 77 [.val (.pointer (some ⟨b,1,none⟩))] [.row v (List.length bs) 1 5,.kr b 104 [q,.val p,.own v (List.map fO bs)]] R:=by
  refine AC.kH 8 [.tmp 2] [0] Tryz.func77 rfl rfl rfl rfl rfl ?_; refine AW.seq ?_; refine AW.region ?_; refine AR.step rfl rfl rfl (AO.calc' rfl ?_); refine AR.nil [0] rfl ?_; refine AW.seq ?_; refine AW.region ?_; refine AR.step rfl rfl rfl (AO.calc' rfl ?_); refine AR.step rfl rfl rfl (AO.nilCheck rfl rfl ?_); refine AR.step rfl rfl rfl (AO.dA rfl rfl oP ?_); refine AR.step rfl rfl rfl (AO.jC (i:=1) rfl rfl rfl Aq rfl rfl ?_); refine AR.step rfl rfl rfl (AO.aV (l:=bs) rfl rfl rfl rfl wW rfl rfl ?_); refine AR.step rfl rfl rfl (AO.calc' rfl ?_); refine AR.nil [2] rfl ?_; refine AW.ret ?_; exact ⟨rfl,_,⟨_,_,rfl,rfl,rfl⟩,_,List.Sublist.refl _,h⟩
theorem RS {b:Nat} {q:PV} {v p:Value} {bs:List UInt8} (hroom:roomy v=true) {R:fq→List bn→Prop} (h:R (.ret (.str bs)) [.kr b 104 [q,.val p,.own v (List.map fO bs)]]):AC Tryz.prog 78 [.val (.pointer (some ⟨b,1,none⟩))] [.row v (List.length bs) 1 5,.kr b 104 [q,.val p,.own v (List.map fO bs)]] R:=by
  refine AC.kH 14 [.tmp 2] [0] Tryz.func78 rfl rfl rfl rfl rfl ?_; refine AW.seq ?_; refine AW.region ?_; refine AR.step rfl rfl rfl (AO.calc' rfl ?_); refine AR.nil [0] rfl ?_; refine AW.seq ?_; refine AW.draw 10 mixed (by kernel_rfl) rfl ?_; refine Ev.cons rfl rfl rfl (AO.calc' rfl ⟨rfl,rfl⟩) ?_; refine Ev.cons rfl rfl rfl (AO.nilCheck rfl rfl ⟨rfl,rfl⟩) ?_; refine Ev.cons rfl rfl rfl (AO.dA rfl rfl oP ⟨rfl,rfl⟩) ?_; refine Ev.cons rfl rfl rfl (AO.jC (i:=1) rfl rfl rfl Aq rfl rfl ⟨rfl,rfl⟩) ?_; refine Ev.cons rfl rfl rfl (AO.sliceData rfl rfl rfl rfl hroom ⟨rfl,rfl⟩) ?_; refine Ev.cons rfl rfl rfl (AO.calc' rfl ⟨rfl,rfl⟩) ?_; refine Ev.cons rfl rfl rfl (AO.nilCheck rfl rfl ⟨rfl,rfl⟩) ?_; refine Ev.cons rfl rfl rfl (AO.dA rfl rfl oP ⟨rfl,rfl⟩) ?_; refine Ev.cons rfl rfl rfl (AO.jC (i:=1) rfl rfl rfl Aq rfl rfl ⟨rfl,rfl⟩) ?_; refine Ev.cons rfl rfl rfl (AO.aV (l:=bs) rfl rfl rfl rfl wW rfl rfl ⟨rfl,rfl⟩) ?_; refine Ev.nil ?_; show AR _ _ _ _ _ _ _ _; refine AR.step rfl rfl rfl (AO.Ml rfl rfl rfl rfl Wz adp rfl rfl rfl ?_); refine AR.step rfl rfl rfl (AO.calc' rfl ?_); refine AR.nil [2] rfl ?_; refine AW.ret ?_; exact ⟨rfl,_,⟨_,_,rfl,rfl,rfl⟩,_,List.Sublist.refl _,h⟩
theorem L_ {b:Nat} {q:PV} {v p:Value} {bs:List UInt8} {R:fq→List bn→Prop} (h:R (.ret (.tuple [])) [.kr b 104 [q,.val (.pointer none),.own (.slice none 0 0) (List.map fO [])]]):AC Tryz.prog 87 [.val (.pointer (some ⟨b,1,none⟩))] [.kr b 104 [q,.val p,.own v (List.map fO bs)]] R:=by
  refine AC.kH 8 [] [0] Tryz.func87 rfl rfl rfl rfl rfl ?_; refine AW.seq ?_; refine AW.region ?_; refine AR.step rfl rfl rfl (AO.calc' rfl ?_); refine AR.step rfl rfl rfl (AO.nilCheck rfl rfl ?_); refine AR.step rfl rfl rfl (AO.dA rfl rfl u6 ?_); refine AR.dF rfl rfl (AO.o_ (i:=0) rfl rfl rfl BF rfl rfl rfl rfl rfl ?_); refine AR.nil [0] rfl ?_; refine AW.region ?_; refine AR.step rfl rfl rfl (AO.calc' rfl ?_); refine AR.step rfl rfl rfl (AO.nilCheck rfl rfl ?_); refine AR.step rfl rfl rfl (AO.dA rfl rfl oP ?_); refine AR.dF rfl rfl (AO.o_ (i:=0) rfl rfl rfl Aq rfl rfl rfl rfl rfl ?_); refine AR.nil [] rfl ?_; exact ⟨rfl,[],rfl,_,List.Sublist.refl _,h⟩
theorem L6 (l1:List Str) {r0:Bool} (hf:xS l1=some r0) (h:Q (.ret (.bool r0)) τ):PC 13 [sP l1] τ Q:=by
 unfold xS at hf; refine BN 23 [.tmp 2] [0] Tryz.func13 Z Z Z Z Z (V 2 Z (CK (fun i1=>[(0,sP l1),(3,iP i1)]) (fun i1=>[]) (fun dw i1=>ng l1 dw i1=some r0) BIG 0 Z Z hf (fun _ hz=>bQ hz) ?_)); intro dw i1 hf; rw [ng] at hf; refine W 2 Z (AS Z (AO.aV (l:=l1) Z Z Z Z gX Z Z (U 2 Z (An 3 8 11 [0,3] (decide (i1 < 10)) Z Z Z Z (J 0 Z (C hf Z (fun h2 hf=>?_) fun h2 hf=>?_))))))
 ·
  refine B1 hf fun e1 h3 hf=>W 2 Z (AS Z (AO.cZ h3 Z Z Z Z gX Z Z (U 1 Z (AS Z (AO.bC Z Z Z Z bL Z (J 1 Z (C hf Z (fun h4 hf=>?_) fun h4 hf=>?_)))))))
  · cases hf; exact M 1 Z (Y Z h)
  exact M 3 Z ⟨(bI (i1 + 1)),Z,Z,Z,hf⟩
 refine W 1 Z (AS Z (AO.aV (l:=l1) Z Z Z Z gX Z Z ?_)); cases hf; exact N 2 Z (Y Z h)
abbrev Je (jg:av→Int→Option Int):Prop:=∀ (Cq:av) (xk:Int) {bY:Int},jg Cq xk=some bY→∀ {τ:List bn} {Q:fq→List bn→Prop} (h:Q (.ret (iP bY)) τ),PC 23 [.agg (dB Cq),iP xk] τ Q
theorem PX (jg) (MG:Je jg) (v1:av) (xD:Int) {r0:Int} (hf:Dq jg v1 xD=some r0) (h:Q (.ret (iP r0)) τ):PC 23 [.agg (dB v1),iP xD] τ Q:=by
 unfold Dq at hf; refine BN 59 [.tmp 4] [0,1] Tryz.func23 Z Z Z Z Z (W 6 Z (AS Z (AO.bC Z Z Z Z bL Z (AS Z (AO.quo Z Z Z (by decide) ?_))))); refine J 3 Z (JQ (fun EG i1=>[(1,iP EG),(2,.ref (dB v1)),(5,iP i1)]) (fun EG i1=>[]) (fun dw EG i1=>xV jg v1 dw EG i1=some r0) BIG (bI ((bI (xD - 1)) - (bI (((v1.nu.length:Int):Int).tdiv 8)))) 0 Z Z hf (fun _ _ hz=>bQ hz) ?_); intro dw EG i1 hf; rw [xV] at hf; refine W 3 Z (AS Z (AO.aV (l:=v1.keys) Z Z Z Z gX Z Z (U 2 Z (An 3 19 22 [1,2,5] (decide (i1 < 40)) Z Z Z Z (J 0 Z (C hf Z (fun h2 hf=>?_) fun h2 hf=>?_))))))
 · refine B1 hf fun e1 h3 hf=>W 5 Z (AS Z (AO.cZ h3 Z Z Z Z gX Z Z (U 1 Z (AS Z (AO.bC Z Z Z Z bL Z (AS Z (AO.quo Z Z Z (by decide) ?_))))))); exact N 5 Z ⟨(bI ((bI (EG - 1)) - (bI (((e1.length:Int):Int).tdiv 8)))),(bI (i1 + 1)),Z,Z,Z,hf⟩
 refine V 1 Z (JQ (fun EF i2=>[(1,iP EF),(2,.ref (dB v1)),(6,iP i2)]) (fun EF i2=>[]) (fun xW EF i2=>xU jg v1 xW EF i2=some r0) BIG EG 0 Z Z hf (fun _ _ hz=>bQ hz) ?_); intro xW EF i2 hf; rw [xU] at hf; refine W 3 Z (AS Z (AO.aV (l:=v1.dW) Z Z Z Z qV Z (av.bM _) (U 2 Z (An 3 40 43 [1,2,6] (decide (0≤EF)) Z Z Z Z (J 0 Z (C hf Z (fun h5 hf=>?_) fun h5 hf=>?_))))))
 · refine B1 hf fun e2 h6 hf=>W 3 Z (AS Z (AO.cZ h6 Z Z (av.bM _) Z qV (av.aT _) Z ?_)); refine B1 hf fun XF h7 hf=>U 2 Z (CL Z (MG _ _ h7 ?_)); exact N 4 Z ⟨XF,(bI (i2 + 1)),Z,Z,Z,hf⟩
 refine W 3 Z (AS Z (AO.aV (l:=v1.keys) Z Z Z Z gX Z Z (AS Z (AO.quo Z Z Z (by decide) ?_)))); cases hf; exact N 2 Z (Y Z h)
theorem QJ :∀ k:Nat,(Je (wT k)):=by
 intro k
 induction k with
 | zero=>exact fun _ _ _ hz=>by first | cases hz | (unfold wT at hz; cases hz)
 | succ k ih=>exact fun Cq xk bY hz τ Q hq=>PX (wT k) ih Cq xk hz hq
theorem RO (Cq:av) (xk:Int) {bY:Int} (hf:ND Cq xk=some bY) (h:Q (.ret (iP bY)) τ):PC 23 [.agg (dB Cq),iP xk] τ Q:=
 ((QJ BIG)) Cq xk hf h
theorem RN (l1:List b_) {r0:Bool} (hf:Ef l1=some r0) (h:Q (.ret (.bool r0)) τ):PC 12 [.list (List.map b_.cells l1)] τ Q:=by
 unfold Ef at hf; refine BN 24 [.tmp 2] [0] Tryz.func12 Z Z Z Z Z (V 2 Z (CK (fun i1=>[(0,.list (List.map b_.cells l1)),(3,iP i1)]) (fun i1=>[]) (fun dw i1=>uU l1 dw i1=some r0) BIG 0 Z Z hf (fun _ hz=>bQ hz) ?_)); intro dw i1 hf; rw [uU] at hf; refine W 2 Z (AS Z (AO.aV (l:=l1) Z Z Z Z NM Z Z (U 2 Z (An 3 8 11 [0,3] (decide (i1 < 20)) Z Z Z Z (J 0 Z (C hf Z (fun h2 hf=>?_) fun h2 hf=>?_))))))
 ·
  refine B1 hf fun e1 h3 hf=>W 2 Z (AS Z (AO.cZ h3 Z Z Z Z NM (b_.aT _) Z (U 2 Z (AS Z (AO.bC Z Z Z Z bL Z (J 1 Z (C hf Z (fun h4 hf=>?_) fun h4 hf=>?_)))))))
  · cases hf; exact M 1 Z (Y Z h)
  exact M 3 Z ⟨(bI (i1 + 1)),Z,Z,Z,hf⟩
 refine W 1 Z (AS Z (AO.aV (l:=l1) Z Z Z Z NM Z Z ?_)); cases hf; exact N 2 Z (Y Z h)
theorem VT (u1:dJ) {Uh:Bool} (hf:Gc u1=some Uh) (h:Q (.ret (.bool Uh)) τ):PC 8 [.agg (uT u1)] τ Q:=by
 unfold Gc at hf; refine BN 80 [.tmp 2] [0] Tryz.func8 Z Z Z Z Z (W 5 Z (AS Z (AO.bC Z Z Z Z bL Z (U 2 Z (AR.or 6 10 16 [1] (x:=(decide (10 < (u1.spec.restore.length:Int)))) Z Z (fun h1=>?_) (fun h1=>?_) ?_)))))
 · refine Is 10 h1 Z (U 3 Z (GO Z (AO.aV (l:=u1.spec.restore) Z Z Z Z gX Z Z ?_))); exact eD 2 Z (En [16,1] Z)
 · refine Is 10 h1 Z ?_; exact eD 6 Z (En [16,1] Z)
 refine U 1 Z (AR.or 5 17 22 [1] (x:=(decide (10 < (u1.vars.length:Int)))) Z Z (fun h2=>?_) (fun h2=>?_) ?_)
 · refine Is 17 h2 Z (U 2 Z (GO Z (AO.aV (l:=u1.vars) Z Z Z Z Bl Z Z ?_))); exact eD 2 Z (En [22,1] Z)
 · refine Is 17 h2 Z ?_; exact eD 5 Z (En [22,1] Z)
 refine U 1 Z (AR.or 5 23 28 [1] (x:=(decide (20 < (u1.files.length:Int)))) Z Z (fun h3=>?_) (fun h3=>?_) ?_)
 · refine Is 23 h3 Z (U 2 Z (GO Z (AO.aV (l:=u1.files) Z Z Z Z NM Z Z ?_))); exact eD 2 Z (En [28,1] Z)
 · refine Is 23 h3 Z ?_; exact eD 5 Z (En [28,1] Z)
 refine B1 hf fun b1 h5 hf=>U 1 Z (AR.dS 6 29 35 false [1] b1 Z Z (fun h4=>?_) (fun h4=>?_) ?_)
 · refine IF 29 h4 h5 Z fun h5=>?_; refine B1 h5 fun x1 h6 h5=>U 3 Z (GO Z (AO.call Z _ Z Z acS (L6 _ h6 ?_))); cases h5; exact eD 2 Z (En [35,1] Z)
 · refine IT 29 h4 h5 Z fun h5=>?_; cases h5; exact eD 6 Z (En [35,1] Z)
 refine J 0 Z (C hf Z (fun h7 hf=>?_) fun h7 hf=>?_)
 · cases hf; exact M 1 Z (Y Z h)
 refine V 1 Z (CK (fun i1=>[(1,.ref (uT u1)),(3,iP i1)]) (fun i1=>[]) (fun dw i1=>vR u1 dw i1=some Uh) BIG 0 Z Z hf (fun _ hz=>bQ hz) ?_); intro dw i1 hf; rw [vR] at hf; refine W 4 Z (AS Z (AO.aV (l:=u1.spec.restore) Z Z Z Z gX Z Z (J 1 Z (C hf Z (fun h8 hf=>?_) fun h8 hf=>?_))))
 ·
  refine B1 hf fun e1 h9 hf=>W 4 Z (AS Z (AO.cZ h9 Z Z Z Z gX Z Z (U 1 Z (AS Z (AO.bC Z Z Z Z bL Z (J 1 Z (C hf Z (fun h10 hf=>?_) fun h10 hf=>?_)))))))
  · cases hf; exact M 1 Z (Y Z h)
  exact M 3 Z ⟨(bI (i1 + 1)),Z,Z,Z,hf⟩
 refine V 1 Z (CK (fun i2=>[(1,.ref (uT u1)),(4,iP i2)]) (fun i2=>[]) (fun xW i2=>vQ u1 xW i2=some Uh) BIG 0 Z Z hf (fun _ hz=>bQ hz) ?_); intro xW i2 hf; rw [vQ] at hf; refine W 3 Z (AS Z (AO.aV (l:=u1.vars) Z Z Z Z Bl Z Z (J 1 Z (C hf Z (fun h11 hf=>?_) fun h11 hf=>?_))))
 ·
  refine B1 hf fun e2 h12 hf=>W 3 Z (AS Z (AO.cZ h12 Z Z Z Z Bl (bE.aT _) Z (U 2 Z (AS Z (AO.bC Z Z Z Z bL Z ?_))))); refine B1 hf fun b2 lu hf=>U 2 Z (AR.dS 9 67 76 false [1,4] b2 Z Z (fun kY=>?_) (fun kY=>?_) ?_)
  · refine IF 67 kY lu Z fun lu=>?_; refine B1 lu fun e3 pK lu=>U 3 Z (GO Z (AO.cZ pK Z Z Z Z Bl (bE.aT _) Z ?_)); refine B1 lu fun x2 h16 lu=>U 2 Z (GO Z (AO.call Z _ Z Z acO (RO _ _ h16 ?_))); cases lu; exact eD 2 Z (En [76,1,4] Z)
  · refine IT 67 kY lu Z fun lu=>?_; cases lu; exact eD 9 Z (En [76,1,4] Z)
  refine J 0 Z (C hf Z (fun wV hf=>?_) fun wV hf=>?_)
  · cases hf; exact M 1 Z (Y Z h)
  exact M 3 Z ⟨(bI (i2 + 1)),Z,Z,Z,hf⟩
 refine BR hf fun x3 h18 hf=>?_; refine W 2 Z (CL Z (RN _ h18 ?_)); cases hf; exact N 1 Z (Y Z h)
theorem rV (s1:Str) (kF:Str) {r0:Bool} (hf:jh s1 kF=some r0) (h:Q (.ret (.bool r0)) τ):PC 65 [.str s1,.str kF] τ Q:=by
 unfold jh at hf; refine BN 18 [.tmp 4] [0,1] Tryz.func65 Z Z Z Z Z (W 2 Z (AS Z (AO.bC Z Z Z Z bL Z (U 1 Z (AS Z (AO.bC Z Z Z Z bL Z ?_)))))); refine BR hf fun b1 h2 hf=>?_; refine U 2 Z (AR.dS 7 10 17 true [] b1 Z Z (fun h1=>?_) (fun h1=>?_) ?_)
 · replace h2:=j_ h1 h2; refine Is 10 h1 Z (U 2 Z (GO Z (AO.bC Z Z Z Z bL Z ?_))); refine B1 h2 fun x1 h3 h2=>GO Z (AO.jT h3 Z bL Z Z ⟨_,Z⟩ ?_); cases h2; exact eD 3 Z (En [17] Z)
 · refine IF 10 h1 h2 Z fun h2=>?_; cases h2; exact eD 7 Z (En [17] Z)
 cases hf; exact N 1 Z (Y Z h)
theorem xF (s1:Str) (kF:Str) {r0:Bool} (hf:strings_HasPrefix s1 kF=some r0) (h:Q (.ret (.bool r0)) τ):PC 59 [.str s1,.str kF] τ Q:=by
 unfold strings_HasPrefix at hf; refine BN 8 [.tmp 4] [0,1] Tryz.func59 Z Z Z Z Z ?_; refine BR hf fun x1 h1 hf=>?_; refine W 3 Z (CL Z (rV _ _ h1 ?_)); cases hf; exact N 1 Z (Y Z h)
theorem Js (s1:Str) (bO:Int) {r0:Int} (hf:wo s1 bO=some r0) (h:Q (.ret (iP r0)) τ):PC 83 [.str s1,iP bO] τ Q:=by
 unfold wo at hf; refine BN 27 [.tmp 4] [0,1] Tryz.func83 Z Z Z Z Z (V 4 Z (CK (fun i1=>[(0,.str s1),(5,iP i1)]) (fun i1=>[]) (fun dw i1=>kN s1 dw i1=some r0) BIG (bI (bO + 1)) Z Z hf (fun _ hz=>bQ hz) ?_)); intro dw i1 hf; rw [kN] at hf; refine W 2 Z (AS Z (AO.bC Z Z Z Z bL Z (J 1 Z (C hf Z (fun h1 hf=>?_) fun h1 hf=>?_))))
 ·
  refine B1 hf fun x1 h2 hf=>W 2 Z (AS Z (AO.bP h2 Z bL Z Z (J 2 Z (C hf Z (fun h3 hf=>?_) fun h3 hf=>?_))))
  · exact M 6 Z ⟨(bI ((bI (i1 + 1)) + 1)),Z,Z,Z,hf⟩
  refine V 2 Z (C hf Z (fun h4 hf=>?_) fun h4 hf=>?_)
  · cases hf; exact M 3 Z (Y Z h)
  exact M 3 Z ⟨(bI (i1 + 1)),Z,Z,Z,hf⟩
 refine W 1 Z (AS Z (AO.bC Z Z Z Z bL Z ?_)); cases hf; exact N 1 Z (Y Z h)
theorem Il (s1:Str) (bO:Int) {r0:Int} (hf:uV s1 bO=some r0) (h:Q (.ret (iP r0)) τ):PC 61 [.str s1,iP bO] τ Q:=by
 unfold uV at hf; refine BN 31 [.tmp 4] [0,1] Tryz.func61 Z Z Z Z Z (V 2 Z (JQ (fun at2 eU=>[(0,.str s1),(1,iP at2),(5,iP eU)]) (fun at2 eU=>[]) (fun dw at2 eU=>ig s1 dw at2 eU=some r0) BIG bO 0 Z Z hf (fun _ _ hz=>bQ hz) ?_)); intro dw at2 eU hf; rw [ig] at hf; refine W 2 Z (AS Z (AO.bC Z Z Z Z bL Z (J 1 Z (C hf Z (fun h1 hf=>?_) fun h1 hf=>?_))))
 ·
  refine B1 hf fun x1 h2 hf=>W 2 Z (AS Z (AO.bP h2 Z bL Z Z (J 2 Z (C hf Z (fun h3 hf=>?_) fun h3 hf=>?_))))
  · refine B1 hf fun at3 h4 hf=>W 2 Z (CL Z (Js _ _ h4 ?_)); exact N 1 Z ⟨at3,eU,Z,Z,Z,hf⟩
  refine V 2 Z (C hf Z (fun h5 hf=>?_) fun h5 hf=>?_)
  · exact M 6 Z ⟨(bI (at2 + 1)),(bI (eU + 1)),Z,Z,Z,hf⟩
  refine V 2 Z (C hf Z (fun h6 hf=>?_) fun h6 hf=>?_)
  ·
   refine V 2 Z (C hf Z (fun h7 hf=>?_) fun h7 hf=>?_)
   · cases hf; exact M 2 Z (Y Z h)
   exact M 6 Z ⟨(bI (at2 + 1)),(bI (eU - 1)),Z,Z,Z,hf⟩
  exact M 3 Z ⟨(bI (at2 + 1)),eU,Z,Z,Z,hf⟩
 cases hf; exact M 1 Z (Y Z h)
theorem Ik (kC:Int) {r0:Bool} (hf:uR kC=some r0) (h:Q (.ret (.bool r0)) τ):PC 107 [.int .i32 kC] τ Q:=by
 unfold uR at hf; refine BN 9 [.tmp 2] [0] Tryz.func107 Z Z Z Z Z (W 4 Z (On 3 5 8 [] (kC == 9) Z Z Z Z ?_)); cases hf; exact N 1 Z (Y Z h)
theorem Al (s1:Str) (bO:Int) (DI:UInt8→Option Bool) (JO:FuncId) (O7:List PV) (Zo:bT Tryz.prog JO=true) (Zp:∀ a0 b0,DI a0=some b0→∀ {τ:List bn} {Q:fq→List bn→Prop},Q (.ret (.bool b0)) τ→PC JO ([.int .u8 (a0.toNat:Int)] ++ O7) τ Q) {r0:Int} (hf:uf s1 bO DI=some r0) (h:Q (.ret (iP r0)) τ):PC 108 [.str s1,iP bO,.fn JO O7] τ Q:=by
 unfold uf at hf; refine BN 21 [.tmp 6] [0,1,2] Tryz.func108 Z Z Z Z Z (V 1 Z (CK (fun at2=>[(0,.str s1),(1,iP at2),(2,.fn JO O7)]) (fun at2=>[]) (fun dw at2=>oL s1 DI dw at2=some r0) BIG bO Z Z hf (fun _ hz=>bQ hz) ?_)); intro dw at2 hf; rw [oL] at hf; refine W 2 Z (AS Z (AO.bC Z Z Z Z bL Z ?_)); refine B1 hf fun b1 h2 hf=>U 2 Z (AR.dS 6 11 17 true [0,1,2] b1 Z Z (fun h1=>?_) (fun h1=>?_) ?_)
 · refine IT 11 h1 h2 Z fun h2=>?_; refine B1 h2 fun x1 h3 h2=>U 3 Z (GO Z (AO.bP h3 Z bL Z Z ?_)); refine BR h2 fun x2 h4 h2=>?_; refine GO Z (AO.call Z _ Z Z Zo (Zp _ _ h4 ?_)); cases h2; exact eD 1 Z (En [17,0,1,2] Z)
 · refine IF 11 h1 h2 Z fun h2=>?_; cases h2; exact eD 6 Z (En [17,0,1,2] Z)
 refine J 0 Z (C hf Z (fun h5 hf=>?_) fun h5 hf=>?_)
 · exact M 3 Z ⟨(bI (at2 + 1)),Z,Z,Z,hf⟩
 cases hf; exact M 2 Z (Y Z h)
theorem Ij (c1:UInt8) {r0:Bool} (hf:qQ c1=some r0) (h:Q (.ret (.bool r0)) τ):PC 109 [.int .u8 (c1.toNat:Int)] τ Q:=by
 unfold qQ at hf; refine BN 5 [.tmp 2] [0] Tryz.func109 Z Z Z Z Z ?_; cases hf; exact M 4 Z (Y Z h)
theorem za (c1:UInt8) {r0:Bool} (hf:pG c1=some r0) (h:Q (.ret (.bool r0)) τ):PC 138 [.int .u8 (c1.toNat:Int)] τ Q:=by
 unfold pG at hf; refine BN 21 [.tmp 2] [0] Tryz.func138 Z Z Z Z Z (W 4 Z (An 3 5 8 [0] (decide ((c1.toNat:Int)≤122)) Z Z Z Z (U 1 Z (AR.or 7 9 16 [0] (x:=((decide (65≤(c1.toNat:Int))) && (decide ((c1.toNat:Int)≤90)))) Z Z (fun h2=>?_) (fun h2=>?_) ?_))))
 · refine Is 9 h2 Z (U 3 Z (An 3 12 15 [0,9] (decide ((c1.toNat:Int)≤90)) Z Z Z Z ?_)); exact eD 1 Z (En [16,0] Z)
 · refine Is 9 h2 Z ?_; exact eD 7 Z (En [16,0] Z)
 refine U 1 Z (On 3 17 20 [] ((c1.toNat:Int) == 95) Z Z Z Z ?_); cases hf; exact N 1 Z (Y Z h)
theorem wD (c1:UInt8) {r0:Bool} (hf:o8 c1=some r0) (h:Q (.ret (.bool r0)) τ):PC 140 [.int .u8 (c1.toNat:Int)] τ Q:=by
 unfold o8 at hf; refine BN 9 [.tmp 2] [0] Tryz.func140 Z Z Z Z Z (W 4 Z (An 3 5 8 [] (decide ((c1.toNat:Int)≤57)) Z Z Z Z ?_)); cases hf; exact N 1 Z (Y Z h)
theorem LY (c1:UInt8) {r0:Bool} (hf:rF c1=some r0) (h:Q (.ret (.bool r0)) τ):PC 180 [.int .u8 (c1.toNat:Int)] τ Q:=by
 unfold rF at hf; refine BN 9 [.tmp 2] [0] Tryz.func180 Z Z Z Z Z ?_; refine B1 hf fun x1 h1 hf=>W 2 Z (CL Z (za _ h1 ?_)); refine BR hf fun b1 h3 hf=>?_; refine U 1 Z (AR.dS 3 5 8 false [] b1 Z Z (fun h2=>?_) (fun h2=>?_) ?_)
 · refine IF 5 h2 h3 Z fun h3=>?_; refine BR h3 fun x2 h4 h3=>?_; refine U 1 Z (GO Z (AO.call Z _ Z Z Xk (wD _ h4 ?_))); cases h3; exact eD 1 Z (En [8] Z)
 · refine IT 5 h2 h3 Z fun h3=>?_; cases h3; exact eD 3 Z (En [8] Z)
 cases hf; exact N 1 Z (Y Z h)
theorem Pj (bJ:Str) (bO:Int) {r0:au} {r1:Int} {r2:Int} (hf:yR bJ bO=some (r0,r1,r2)) (h:Q (.ret (.tuple [.agg (mF r0),iP r1,iP r2])) τ):PC 139 [.str bJ,iP bO] τ Q:=by
 unfold yR at hf; refine BN 23 [.cell 4 146,.tmp 5,.tmp 6] [0,1] Tryz.func139 Z Z Z Z Z (W 0 Z (AS Z (AO.aQ Z nZ (fun b4=>?_)))); refine B1 hf fun pR h1 hf=>U 4 Z (CL Z (Al _ _ rF 180 [] aaV (fun _ _ hz=>LY _  hz) h1 (J 5 Z (C hf Z (fun h2 hf=>?_) fun h2 hf=>?_))))
 · cases hf; exact Wx 4 [0] Z Z (ZC [0] Z Z h)
 refine B1 hf fun x1 h3 hf=>W 3 Z (AS Z (AO.jT h3 Z bL Z ⟨_,Z⟩ ⟨_,Z⟩ ?_)); cases hf; exact Rx 6 [0] Z Z (ZC [0] Z Z h)
theorem MZ (wz:Str) {r0:Bool} (hf:zO wz=some r0) (h:Q (.ret (.bool r0)) τ):PC 181 [.str wz] τ Q:=by
 unfold zO at hf; refine BN 25 [.tmp 2] [0] Tryz.func181 Z Z Z Z Z (V 3 Z (JQ (fun n1 i1=>[(0,.str wz),(3,iP n1),(4,iP i1)]) (fun n1 i1=>[]) (fun dw n1 i1=>oM wz dw n1 i1=some r0) BIG 0 0 Z Z hf (fun _ _ hz=>bQ hz) ?_)); intro dw n1 i1 hf; rw [oM] at hf; refine W 2 Z (AS Z (AO.bC Z Z Z Z bL Z (U 2 Z (An 3 9 12 [0,3,4] (decide (n1≤9007199254740992)) Z Z Z Z (J 0 Z (C hf Z (fun h2 hf=>?_) fun h2 hf=>?_))))))
 · refine B1 hf fun x1 h3 hf=>W 4 Z (AS Z (AO.bP h3 Z bL Z Z (AS Z (AO.Oi x1 48 Z Z Z Z Z (AS Z (AO.ni Z xJ BA Z Z ?_)))))); exact N 5 Z ⟨(bI ((bI (10 * n1)) + ((x1 - 48).toNat:Int))),(bI (i1 + 1)),Z,Z,Z,hf⟩
 cases hf; exact M 3 Z (Y Z h)
theorem LX (bJ:Str) (bO:Int) {r0:au} {r1:Int} {r2:Int} (hf:uQ bJ bO=some (r0,r1,r2)) (h:Q (.ret (.tuple [.agg (mF r0),iP r1,iP r2])) τ):PC 141 [.str bJ,iP bO] τ Q:=by
 unfold uQ at hf; refine BN 44 [.cell 4 146,.tmp 5,.tmp 6] [0,1] Tryz.func141 Z Z Z Z Z (W 0 Z (AS Z (AO.aQ Z nZ (fun b4=>?_)))); refine B1 hf fun pR h1 hf=>U 4 Z (CL Z (Al _ _ o8 140 [] Xk (fun _ _ hz=>wD _  hz) h1 ?_)); refine B1 hf fun text1 h2 hf=>U 4 Z (AS Z (AO.jT h2 Z bL Z ⟨_,Z⟩ ⟨_,Z⟩ (U 2 Z (AS Z (AO.bC Z Z Z Z bL Z ?_))))); refine B1 hf fun b1 h4 hf=>U 2 Z (AR.dS 4 19 23 true [0,1,4,7,8] b1 Z Z (fun h3=>?_) (fun h3=>?_) ?_)
 · refine IT 19 h3 h4 Z fun h4=>?_; refine B1 h4 fun x1 h5 h4=>U 1 Z (GO Z (AO.bP h5 Z bL Z Z ?_)); cases h4; exact eD 2 Z (En [23,0,1,4,7,8] Z)
 · refine IF 19 h3 h4 Z fun h4=>?_; cases h4; exact eD 4 Z (En [23,0,1,4,7,8] Z)
 refine B1 hf fun b2 h7 hf=>U 1 Z (AR.dS 11 24 35 false [1,4,7,8] b2 Z Z (fun h6=>?_) (fun h6=>?_) ?_)
 ·
  replace h7:=jG h6 h7; refine Is 24 h6 Z (U 2 Z (GO Z (AO.bC Z Z Z Z bL Z ?_))); refine BR h7 fun b3 h9 h7=>?_; refine U 2 Z (AR.dS 5 29 34 true [1,4,7,8,24] b3 Z Z (fun h8=>?_) (fun h8=>?_) ?_)
  · refine IT 29 h8 h9 Z fun h9=>?_; refine B1 h9 fun x2 h10 h9=>U 2 Z (GO Z (AO.bP h10 Z bL Z Z ?_)); refine BR h9 fun x3 h11 h9=>?_; refine GO Z (AO.call Z _ Z Z aa5 (za _ h11 ?_)); cases h9; exact eD 1 Z (En [34,1,4,7,8,24] Z)
  · refine IF 29 h8 h9 Z fun h9=>?_; cases h9; exact eD 5 Z (En [34,1,4,7,8,24] Z)
  cases h7; exact eD 1 Z (En [35,1,4,7,8] Z)
 · refine IT 24 h6 h7 Z fun h7=>?_; cases h7; exact eD 11 Z (En [35,1,4,7,8] Z)
 refine J 0 Z (C hf Z (fun h12 hf=>?_) fun h12 hf=>?_)
 · cases hf; exact Wx 4 [0] Z Z (ZC [0] Z Z h)
 refine B1 hf fun x4 kY hf=>W 1 Z (CL Z (MZ _ kY (J 0 Z (C hf Z (fun lu hf=>?_) fun lu hf=>?_))))
 · cases hf; exact Wx 4 [0] Z Z (ZC [0] Z Z h)
 cases hf; exact Wx 7 [0] Z Z (ZC [0] Z Z h)
theorem w_ (c1:UInt8) {r0:Int} (hf:rG c1=some r0) (h:Q (.ret (iP r0)) τ):PC 229 [.int .u8 (c1.toNat:Int)] τ Q:=by
 unfold rG at hf; refine BN 31 [.tmp 2] [0] Tryz.func229 Z Z Z Z Z ?_; refine B1 hf fun x1 h1 hf=>W 2 Z (CL Z (wD _ h1 (J 1 Z (C hf Z (fun h2 hf=>?_) fun h2 hf=>?_))))
 · refine W 1 Z (AS Z (AO.Oi c1 48 Z Z Z Z Z (AS Z (AO.ni Z xJ BA Z Z ?_)))); cases hf; exact N 1 Z (Y Z h)
 refine W 3 Z (An 3 12 15 [0] (decide ((c1.toNat:Int)≤102)) Z Z Z Z (J 1 Z (C hf Z (fun h4 hf=>?_) fun h4 hf=>?_)))
 · refine W 1 Z (AS Z (AO.Oi c1 97 Z Z Z Z Z (AS Z (AO.ni Z xJ BA Z Z ?_)))); cases hf; exact N 2 Z (Y Z h)
 refine W 3 Z (An 3 23 26 [0] (decide ((c1.toNat:Int)≤70)) Z Z Z Z (J 1 Z (C hf Z (fun h6 hf=>?_) fun h6 hf=>?_)))
 · refine W 1 Z (AS Z (AO.Oi c1 65 Z Z Z Z Z (AS Z (AO.ni Z xJ BA Z Z ?_)))); cases hf; exact N 2 Z (Y Z h)
 cases hf; exact M 1 Z (Y Z h)
theorem Jr (bJ:Str) (bO:Int) {r0:UInt8} {r1:Int} (hf:sH bJ bO=some (r0,r1)) (h:Q (.ret (.tuple [.int .u8 (r0.toNat:Int),iP r1])) τ):PC 182 [.str bJ,iP bO] τ Q:=by
 unfold sH at hf; refine BN 61 [.tmp 4,.tmp 5] [0,1] Tryz.func182 Z Z Z Z Z (W 5 Z (AS Z (AO.bC Z Z Z Z bL Z (J 1 Z (C hf Z (fun h1 hf=>?_) fun h1 hf=>?_)))))
 · cases hf; exact M 2 Z (Y Z h)
 refine B1 hf fun c1 h2 hf=>W 3 Z (AS Z (AO.bP h2 Z bL Z Z (J 4 Z (C hf Z (fun h3 hf=>?_) fun h3 hf=>?_))))
 ·
  refine V 0 Z (AW.cond Z (fun h4=>?_) (fun h4=>?_))
  · cases hf; exact M 3 Z (Y Z h)
  cases h3.symm.trans h4
 refine V 2 Z (C hf Z (fun h5 hf=>?_) fun h5 hf=>?_)
 · cases hf; exact M 3 Z (Y Z h)
 refine V 2 Z (C hf Z (fun h6 hf=>?_) fun h6 hf=>?_)
 · cases hf; exact M 2 Z (Y Z h)
 refine V 2 Z (C hf Z (fun h7 hf=>?_) fun h7 hf=>?_)
 · cases hf; exact M 2 Z (Y Z h)
 refine V 2 Z (C hf Z (fun h8 hf=>?_) fun h8 hf=>?_)
 ·
  refine W 3 Z (AS Z (AO.bC Z Z Z Z bL Z ?_)); refine B1 hf fun b1 h10 hf=>U 2 Z (AR.dS 7 32 39 true [0,1] b1 Z Z (fun h9=>?_) (fun h9=>?_) ?_)
  · refine IT 32 h9 h10 Z fun h10=>?_; refine B1 h10 fun x1 h11 h10=>U 3 Z (GO Z (AO.bP h11 Z bL Z Z ?_)); refine B1 h10 fun x2 h12 h10=>GO Z (AO.call Z _ Z Z KC (w_ _ h12 ?_)); cases h10; exact eD 2 Z (En [39,0,1] Z)
  · refine IF 32 h9 h10 Z fun h10=>?_; cases h10; exact eD 7 Z (En [39,0,1] Z)
  refine B1 hf fun b2 lu hf=>U 1 Z (AR.dS 7 40 47 true [0,1] b2 Z Z (fun kY=>?_) (fun kY=>?_) ?_)
  · refine IT 40 kY lu Z fun lu=>?_; refine B1 lu fun x3 pK lu=>U 3 Z (GO Z (AO.bP pK Z bL Z Z ?_)); refine B1 lu fun x4 h16 lu=>GO Z (AO.call Z _ Z Z KC (w_ _ h16 ?_)); cases lu; exact eD 2 Z (En [47,0,1] Z)
  · refine IF 40 kY lu Z fun lu=>?_; cases lu; exact eD 7 Z (En [47,0,1] Z)
  refine J 0 Z (C hf Z (fun wV hf=>?_) fun wV hf=>?_)
  ·
   refine V 0 Z (AW.draw 15 mixed (by kernel_rfl) Z ?_); refine Ev.cs dh 3 Z ?_; refine B1 hf fun x5 h18 hf=>Ev.cons Z Z Z (AO.bP h18 Z bL Z Z zg) ?_; refine B1 hf fun x6 h19 hf=>Ev.cons Z Z Z (AO.call Z _ Z Z KC (w_ _ h19 zg)) (Ev.cs dh 4 Z ?_); refine B1 hf fun x7 h20 hf=>Ev.cons Z Z Z (AO.bP h20 Z bL Z Z zg) ?_; refine B1 hf fun x8 h21 hf=>Ev.cons Z Z Z (AO.call Z _ Z Z KC (w_ _ h21 zg)) (Ev.cs dh 1 Z (Ev.cons Z Z Z (AO.Gq Z BA xJ Z zg) (Ev.cs dh 2 Z ?_))); refine Ev.nil ?_; show AR _ _ _ _ _ _ _ _; cases hf; exact N 0 Z (Y Z h)
  cases hf; exact M 2 Z (Y Z h)
 cases hf; exact M 2 Z (Y Z h)
theorem MX (bJ:Str) (bO:Int) {r0:Bool} (hf:wS bJ bO=some r0) (h:Q (.ret (.bool r0)) τ):PC 183 [.str bJ,iP bO] τ Q:=by
 unfold wS at hf; refine BN 32 [.tmp 4] [0,1] Tryz.func183 Z Z Z Z Z ?_; refine B1 hf fun Dc h1 hf=>W 4 Z (AS Z (AO.jT h1 Z bL Z ⟨_,Z⟩ Z (U 4 Z (On 3 12 15 [5] (Dc == ([120]:Str)) Z Z Z Z ?_)))); refine BR hf fun b1 h4 hf=>?_; refine U 1 Z (AR.dS 15 16 31 false [] b1 Z Z (fun h3=>?_) (fun h3=>?_) ?_)
 ·
  replace h4:=jG h3 h4; refine Is 16 h3 Z (U 1 Z (GO Z (AO.bC Z Z Z Z bL Z ?_))); refine B1 h4 fun b2 h6 h4=>U 2 Z (AR.dS 4 20 24 true [5,16] b2 Z Z (fun h5=>?_) (fun h5=>?_) ?_)
  · refine IT 20 h5 h6 Z fun h6=>?_; refine B1 h6 fun x1 h7 h6=>U 1 Z (GO Z (AO.bP h7 Z bL Z Z ?_)); cases h6; exact eD 2 Z (En [24,5,16] Z)
  · refine IF 20 h5 h6 Z fun h6=>?_; cases h6; exact eD 4 Z (En [24,5,16] Z)
  refine BR h4 fun b3 h9 h4=>?_; refine U 1 Z (AR.dS 5 25 30 true [16] b3 Z Z (fun h8=>?_) (fun h8=>?_) ?_)
  · refine IT 25 h8 h9 Z fun h9=>?_; refine B1 h9 fun x2 h10 h9=>U 1 Z (GO Z (AO.bP h10 Z bL Z Z ?_)); refine B1 h9 fun x3 h11 h9=>GO Z (AO.call Z _ Z Z KC (w_ _ h11 ?_)); cases h9; exact eD 2 Z (En [30,16] Z)
  · refine IF 25 h8 h9 Z fun h9=>?_; cases h9; exact eD 5 Z (En [30,16] Z)
  cases h4; exact eD 1 Z (En [31] Z)
 · refine IT 16 h3 h4 Z fun h4=>?_; cases h4; exact eD 15 Z (En [31] Z)
 cases hf; exact N 1 Z (Y Z h)
theorem Ph (bJ:Str) (bO:Int) {r0:au} {r1:Int} {r2:Int} (hf:yQ bJ bO=some (r0,r1,r2)) (h:Q (.ret (.tuple [.agg (mF r0),iP r1,iP r2])) τ):PC 142 [.str bJ,iP bO] τ Q:=by
 unfold yQ at hf; refine BN 68 [.cell 4 146,.tmp 5,.tmp 6] [0,1] Tryz.func142 Z Z Z Z Z (W 0 Z (AS Z (AO.aQ Z nZ (fun b4=>(U 2 Z (AS Z (AO.N_ (eu:=5) Z Wo Z (fun b7=>(J 3 Z (YD (fun i1 b1 v1=>[(0,.str bJ),(1,iP bO),(4,pP b4),(7,pP b7),(8,iP i1)]) (fun i1 b1 v1=>[.GQ b7 v1 102 5 b1,.box b4 [iP 0,.str ([]:Str),iP 0]]) (fun dw i1 b1 v1=>ow bJ bO dw i1 b1=some (r0,r1,r2)) BIG (bI (bO + 1)) [] (.slice none 0 0) Z Z hf (fun _ _ _ hz=>bQ hz) ?_)))))))))); intro dw i1 b1 v1 hf; rw [ow] at hf; refine W 2 Z (AS Z (AO.bC Z Z Z Z bL Z (J 1 Z (C hf Z (fun h1 hf=>?_) fun h1 hf=>?_))))
 ·
  refine B1 hf fun c1 h2 hf=>W 2 Z (AS Z (AO.bP h2 Z bL Z Z (J 4 Z (C hf Z (fun h3 hf=>?_) fun h3 hf=>?_))))
  ·
   refine W 0 Z (CL Z (AC.one 0 Z (NV ⟨_,Z,(J 1 Z (C hf Z (fun h4 hf=>?_) fun h4 hf=>?_))⟩)))
   · cases hf; exact Wx 4 [1] Z Z (ZC [1] Z Z h)
   refine W 0 Z (CL Z (AC.Us 0 Z (GI ?_))); cases hf; exact Rx 7 [0] Z Z (ZC [0] Z Z h)
  refine V 3 Z (C hf Z (fun h5 hf=>?_) fun h5 hf=>?_)
  · cases hf; exact Wx 4 [1] Z Z (ZC [1] Z Z h)
  refine V 3 Z (C hf Z (fun h6 hf=>?_) fun h6 hf=>?_)
  ·
   obtain ⟨x1,n1,h7,hf⟩:=dN hf; refine W 2 Z (CL Z (Jr _ _ h7 ?_)); refine B1 hf fun b2 h9 hf=>U 8 Z (AR.dS 4 52 56 true [0,1,4,7,8,10,11] b2 Z Z (fun h8=>?_) (fun h8=>?_) ?_)
   · refine IT 52 h8 h9 Z fun h9=>?_; refine BR h9 fun x2 h10 h9=>?_; refine U 2 Z (GO Z (AO.call Z _ Z Z aaU (MX _ _ h10 ?_))); cases h9; exact eD 1 Z (En [56,0,1,4,7,8,10,11] Z)
   · refine IF 52 h8 h9 Z fun h9=>?_; cases h9; exact eD 4 Z (En [56,0,1,4,7,8,10,11] Z)
   refine J 1 Z (C hf Z (fun h11 hf=>?_) fun h11 hf=>?_)
   · cases hf; exact Wx 4 [1] Z Z (ZC [1] Z Z h)
   refine V 3 Z (C hf Z (fun h12 hf=>?_) fun h12 hf=>?_)
   · cases hf; exact Wx 4 [1] Z Z (ZC [1] Z Z h)
   refine B1 hf fun b3 kY hf=>W 1 Z (CL Z (AC.one 0 Z (CG kY (fun v2=>⟨_,Z,?_⟩)))); exact N 4 Z ⟨(bI (i1 + n1)),b3,v2,Z,Z,Z,hf⟩
  refine B1 hf fun b4 lu hf=>W 1 Z (CL Z (AC.one 0 Z (CG lu (fun v3=>⟨_,Z,?_⟩)))); exact N 3 Z ⟨(bI (i1 + 1)),b4,v3,Z,Z,Z,hf⟩
 cases hf; exact Wx 4 [1] Z Z (ZC [1] Z Z h)
theorem Ih (bJ:Str) (bO:Int) {r0:au} {r1:Int} {r2:Int} (hf:qO bJ bO=some (r0,r1,r2)) (h:Q (.ret (.tuple [.agg (mF r0),iP r1,iP r2])) τ):PC 143 [.str bJ,iP bO] τ Q:=by
 unfold qO at hf; refine BN 63 [.cell 4 146,.tmp 5,.tmp 6] [0,1] Tryz.func143 Z Z Z Z Z (W 0 Z (AS Z (AO.aQ Z nZ (fun b4=>(U 2 Z (AS Z (AO.bS (List.map XJ ([2,1]:List Int)) Z WV Z Z Z Z (AS Z (AO.aV (l:=([2,1]:List Int)) Z Z Z Z O1 Z Z ?_))))))))); refine J 1 Z (CK (fun x1=>[(0,.str bJ),(1,iP bO),(4,pP b4),(10,.list (List.map XJ ([2,1]:List Int))),(11,iP (([2,1]:List Int).length:Int)),(12,iP x1)]) (fun x1=>[.box b4 [iP 0,.str ([]:Str),iP 0]]) (fun dw x1=>jf bJ bO dw x1=some (r0,r1,r2)) BIG 0 Z Z hf (fun _ hz=>bQ hz) ?_); intro dw x1 hf; rw [jf] at hf; refine V 1 Z (C hf Z (fun h1 hf=>?_) fun h1 hf=>?_)
 ·
  refine B1 hf fun n1 h2 hf=>W 0 Z (AS Z (AO.cZ h2 Z Z Z Z O1 Z Z (U 6 Z (AS Z (AO.bC Z Z Z Z bL Z (J 1 Z (C hf Z (fun h3 hf=>?_) fun h3 hf=>?_)))))))
  · exact M 2 Z ⟨(bI (x1 + 1)),Z,Z,Z,hf⟩
  refine B1 hf fun s1 h4 hf=>W 5 Z (AS Z (AO.jT h4 Z bL Z ⟨_,Z⟩ ⟨_,Z⟩ (J 4 Z (C hf Z (fun h5 hf=>?_) fun h5 hf=>?_))))
  ·
   refine V 0 Z (AW.cond Z (fun h6=>?_) (fun h6=>?_))
   · cases hf; exact Wx 9 [0] Z Z (ZC [0] Z Z h)
   cases h5.symm.trans h6
  refine V 2 Z (C hf Z (fun h7 hf=>?_) fun h7 hf=>?_)
  ·
   refine V 0 Z (AW.cond Z (fun h8=>?_) (fun h8=>?_))
   · cases hf; exact Wx 9 [0] Z Z (ZC [0] Z Z h)
   cases h7.symm.trans h8
  refine V 2 Z (C hf Z (fun h9 hf=>?_) fun h9 hf=>?_)
  ·
   refine V 0 Z (AW.cond Z (fun h10=>?_) (fun h10=>?_))
   · cases hf; exact Wx 9 [0] Z Z (ZC [0] Z Z h)
   cases h9.symm.trans h10
  refine V 2 Z (C hf Z (fun h11 hf=>?_) fun h11 hf=>?_)
  ·
   refine V 0 Z (AW.cond Z (fun h12=>?_) (fun h12=>?_))
   · cases hf; exact Wx 9 [0] Z Z (ZC [0] Z Z h)
   cases h11.symm.trans h12
  refine V 2 Z (C hf Z (fun kY hf=>?_) fun kY hf=>?_)
  ·
   refine V 0 Z (AW.cond Z (fun lu=>?_) (fun lu=>?_))
   · cases hf; exact Wx 9 [0] Z Z (ZC [0] Z Z h)
   cases kY.symm.trans lu
  refine V 2 Z (C hf Z (fun pK hf=>?_) fun pK hf=>?_)
  ·
   refine V 0 Z (AW.cond Z (fun h16=>?_) (fun h16=>?_))
   · cases hf; exact Wx 9 [0] Z Z (ZC [0] Z Z h)
   cases pK.symm.trans h16
  refine V 2 Z (C hf Z (fun wV hf=>?_) fun wV hf=>?_)
  ·
   refine V 0 Z (AW.cond Z (fun h18=>?_) (fun h18=>?_))
   · cases hf; exact Wx 9 [0] Z Z (ZC [0] Z Z h)
   cases wV.symm.trans h18
  refine V 2 Z (C hf Z (fun h19 hf=>?_) fun h19 hf=>?_)
  ·
   refine V 0 Z (AW.cond Z (fun h20=>?_) (fun h20=>?_))
   · cases hf; exact Wx 9 [0] Z Z (ZC [0] Z Z h)
   cases h19.symm.trans h20
  refine V 2 Z (C hf Z (fun h21 hf=>?_) fun h21 hf=>?_)
  ·
   refine V 0 Z (AW.cond Z (fun h22=>?_) (fun h22=>?_))
   · cases hf; exact Wx 9 [0] Z Z (ZC [0] Z Z h)
   cases h21.symm.trans h22
  refine V 2 Z (C hf Z (fun h23 hf=>?_) fun h23 hf=>?_)
  ·
   refine V 0 Z (AW.cond Z (fun Mi=>?_) (fun Mi=>?_))
   · cases hf; exact Wx 9 [0] Z Z (ZC [0] Z Z h)
   cases h23.symm.trans Mi
  refine V 2 Z (C hf Z (fun R8 hf=>?_) fun R8 hf=>?_)
  ·
   refine V 0 Z (AW.cond Z (fun Tf=>?_) (fun Tf=>?_))
   · cases hf; exact Wx 9 [0] Z Z (ZC [0] Z Z h)
   cases R8.symm.trans Tf
  refine V 2 Z (C hf Z (fun h27 hf=>?_) fun h27 hf=>?_)
  ·
   refine V 0 Z (AW.cond Z (fun h28=>?_) (fun h28=>?_))
   · cases hf; exact Wx 9 [0] Z Z (ZC [0] Z Z h)
   cases h27.symm.trans h28
  refine V 2 Z (C hf Z (fun h29 hf=>?_) fun h29 hf=>?_)
  ·
   refine V 0 Z (AW.cond Z (fun h30=>?_) (fun h30=>?_))
   · cases hf; exact Wx 9 [0] Z Z (ZC [0] Z Z h)
   cases h29.symm.trans h30
  refine V 2 Z (C hf Z (fun h31 hf=>?_) fun h31 hf=>?_)
  ·
   refine V 0 Z (AW.cond Z (fun h32=>?_) (fun h32=>?_))
   · cases hf; exact Wx 9 [0] Z Z (ZC [0] Z Z h)
   cases h31.symm.trans h32
  refine V 2 Z (C hf Z (fun h33 hf=>?_) fun h33 hf=>?_)
  ·
   refine V 0 Z (AW.cond Z (fun NI=>?_) (fun NI=>?_))
   · cases hf; exact Wx 9 [0] Z Z (ZC [0] Z Z h)
   cases h33.symm.trans NI
  refine V 2 Z (C hf Z (fun V_ hf=>?_) fun V_ hf=>?_)
  ·
   refine V 0 Z (AW.cond Z (fun h36=>?_) (fun h36=>?_))
   · cases hf; exact Wx 9 [0] Z Z (ZC [0] Z Z h)
   cases V_.symm.trans h36
  refine V 2 Z (C hf Z (fun h37 hf=>?_) fun h37 hf=>?_)
  ·
   refine V 0 Z (AW.cond Z (fun h38=>?_) (fun h38=>?_))
   · cases hf; exact Wx 9 [0] Z Z (ZC [0] Z Z h)
   cases h37.symm.trans h38
  refine V 2 Z (C hf Z (fun h39 hf=>?_) fun h39 hf=>?_)
  ·
   refine V 0 Z (AW.cond Z (fun h40=>?_) (fun h40=>?_))
   · cases hf; exact Wx 9 [0] Z Z (ZC [0] Z Z h)
   cases h39.symm.trans h40
  refine V 2 Z (C hf Z (fun h41 hf=>?_) fun h41 hf=>?_)
  ·
   refine V 0 Z (AW.cond Z (fun h42=>?_) (fun h42=>?_))
   · cases hf; exact Wx 9 [0] Z Z (ZC [0] Z Z h)
   cases h41.symm.trans h42
  refine V 2 Z (C hf Z (fun h43 hf=>?_) fun h43 hf=>?_)
  ·
   refine V 0 Z (AW.cond Z (fun h44=>?_) (fun h44=>?_))
   · cases hf; exact Wx 9 [0] Z Z (ZC [0] Z Z h)
   cases h43.symm.trans h44
  refine V 2 Z (C hf Z (fun h45 hf=>?_) fun h45 hf=>?_)
  ·
   refine V 0 Z (AW.cond Z (fun h46=>?_) (fun h46=>?_))
   · cases hf; exact Wx 9 [0] Z Z (ZC [0] Z Z h)
   cases h45.symm.trans h46
  refine V 2 Z (C hf Z (fun h47 hf=>?_) fun h47 hf=>?_)
  ·
   refine V 0 Z (AW.cond Z (fun h48=>?_) (fun h48=>?_))
   · cases hf; exact Wx 9 [0] Z Z (ZC [0] Z Z h)
   cases h47.symm.trans h48
  refine V 2 Z (C hf Z (fun h49 hf=>?_) fun h49 hf=>?_)
  ·
   refine V 0 Z (AW.cond Z (fun h50=>?_) (fun h50=>?_))
   · cases hf; exact Wx 9 [0] Z Z (ZC [0] Z Z h)
   cases h49.symm.trans h50
  refine V 2 Z (C hf Z (fun h51 hf=>?_) fun h51 hf=>?_)
  ·
   refine V 0 Z (AW.cond Z (fun h52=>?_) (fun h52=>?_))
   · cases hf; exact Wx 9 [0] Z Z (ZC [0] Z Z h)
   cases h51.symm.trans h52
  refine V 2 Z (C hf Z (fun h53 hf=>?_) fun h53 hf=>?_)
  · cases hf; exact Wx 9 [0] Z Z (ZC [0] Z Z h)
  exact M 2 Z ⟨(bI (x1 + 1)),Z,Z,Z,hf⟩
 cases hf; exact Wx 4 [0] Z Z (ZC [0] Z Z h)
theorem MW (bJ:Str) (bO:Int) {r0:au} {r1:Int} {r2:Int} (hf:wR bJ bO=some (r0,r1,r2)) (h:Q (.ret (.tuple [.agg (mF r0),iP r1,iP r2])) τ):PC 110 [.str bJ,iP bO] τ Q:=by
 unfold wR at hf; refine BN 44 [.cell 4 146,.tmp 5,.tmp 6] [0,1] Tryz.func110 Z Z Z Z Z (W 0 Z (AS Z (AO.aQ Z nZ (fun b4=>?_)))); refine B1 hf fun c1 h1 hf=>U 4 Z (AS Z (AO.bP h1 Z bL Z Z ?_)); refine B1 hf fun x1 h2 hf=>U 2 Z (CL Z (za _ h2 (J 1 Z (C hf Z (fun h3 hf=>?_) fun h3 hf=>?_))))
 · replace hf:=(oW _).trans hf; obtain ⟨x2,x3,x4,h4,hf⟩:=eH hf; refine W 2 Z (CL Z (Pj _ _ h4 ?_)); cases hf; exact Rx 6 [0] Z Z (ZC [0] Z Z h)
 refine B1 hf fun x5 h5 hf=>W 1 Z (CL Z (wD _ h5 (J 1 Z (C hf Z (fun h6 hf=>?_) fun h6 hf=>?_))))
 · replace hf:=(oW _).trans hf; obtain ⟨x6,x7,x8,h7,hf⟩:=eH hf; refine W 2 Z (CL Z (LX _ _ h7 ?_)); cases hf; exact Rx 6 [0] Z Z (ZC [0] Z Z h)
 refine V 3 Z (C hf Z (fun h8 hf=>?_) fun h8 hf=>?_)
 · replace hf:=(oW _).trans hf; obtain ⟨x9,JX,YA,h9,hf⟩:=eH hf; refine W 2 Z (CL Z (Ph _ _ h9 ?_)); cases hf; exact Rx 6 [0] Z Z (ZC [0] Z Z h)
 replace hf:=(oW _).trans hf; obtain ⟨x12,x13,x14,h10,hf⟩:=eH hf; refine W 2 Z (CL Z (Ih _ _ h10 ?_)); cases hf; exact Rx 6 [0] Z Z (ZC [0] Z Z h)
theorem Ii (op1:Str) (eU:Int) {r0:Int} (hf:qP op1 eU=some r0) (h:Q (.ret (iP r0)) τ):PC 111 [.str op1,iP eU] τ Q:=by
 unfold qP at hf; refine BN 18 [.tmp 4] [0,1] Tryz.func111 Z Z Z Z Z (V 4 Z (C hf Z (fun h1 hf=>?_) fun h1 hf=>?_))
 ·
  refine V 0 Z (AW.cond Z (fun h2=>?_) (fun h2=>?_))
  · cases hf; exact M 3 Z (Y Z h)
  cases h1.symm.trans h2
 refine V 2 Z (C hf Z (fun h3 hf=>?_) fun h3 hf=>?_)
 · cases hf; exact M 3 Z (Y Z h)
 refine V 2 Z (C hf Z (fun h4 hf=>?_) fun h4 hf=>?_)
 ·
  refine V 0 Z (AW.cond Z (fun h5=>?_) (fun h5=>?_))
  · refine W 2 Z (AS Z (AO.max2 Z Z Z Z Z ?_)); cases hf; exact N 1 Z (Y Z h)
  cases h4.symm.trans h5
 refine V 2 Z (C hf Z (fun h6 hf=>?_) fun h6 hf=>?_)
 · refine W 2 Z (AS Z (AO.max2 Z Z Z Z Z ?_)); cases hf; exact N 1 Z (Y Z h)
 cases hf; exact M 2 Z (Y Z h)
theorem LZ (bJ:Str) {r0:List au} {r1:Int} {r2:Int} (hf:lY bJ=some (r0,r1,r2)) (h:Q (.ret (.tuple [.list (List.map au.cells r0),iP r1,iP r2])) τ):PC 84 [.str bJ] τ Q:=by
 unfold lY at hf; refine BN 84 [.tmp 2,.tmp 3,.tmp 4] [0] Tryz.func84 Z Z Z Z Z (W 0 Z (AS Z (AO.eF Z Z (U 3 Z (AS Z (AO.bC Z Z Z Z bL Z (J 1 Z (C hf Z (fun h1 hf=>?_) fun h1 hf=>?_))))))))
 · refine W 0 Z (AS Z (AO.eF Z Z ?_)); cases hf; exact N 2 Z (Y Z h)
 refine W 5 Z (AS Z (AO.U8 Z bL Z (fun ac1=>(J 0 Z (AW.row 3 146 (LK5 (fun cK v1 g_ eU pos1=>[(0,.str bJ),(5,.own v1 (List.map au.cells cK)),(6,.fn 107 []),(7,iP g_),(8,iP eU),(18,pP ac1)]) (fun cK v1 g_ eU pos1=>[.row v1 (List.map au.cells cK).length 3 146,.obj ac1 (.stringIter ⟨List.toArray bJ⟩ pos1)]) (fun dw cK v1 g_ eU pos1=>iV bJ dw cK g_ eU pos1=some (r0,r1,r2)) BIG [] (.slice none 0 0) 0 0 0 Z Z hf (fun _ _ _ _ _ hz=>bQ hz) ?_)))))); intro dw cK v1 g_ eU pos1 hf; rw [iV] at hf; rcases Bool.eq_false_or_eq_true (decide (pos1 < bJ.length)) with h2 | h2
 ·
  replace hf:=j_ h2 hf; refine W 0 Z (AS Z (AO.Xw (i:=1) Z Z Z h2 (J 1 Z (AW.cond Z (fun h3=>?_) (fun h3=>?_)))))
  ·
   refine B1 hf fun b1 h5 hf=>W 8 Z (AR.dS 4 26 30 false [0,5,6,7,8,9,10,18] b1 Z Z (fun h4=>?_) (fun h4=>?_) ?_)
   · refine IF 26 h4 h5 Z fun h5=>?_; refine BR h5 fun x1 h6 h5=>?_; refine U 2 Z (GO Z (AO.call Z _ Z Z abb (Ik _ h6 ?_))); cases h5; exact eD 1 Z (En [30,0,5,6,7,8,9,10,18] Z)
   · refine IT 26 h4 h5 Z fun h5=>?_; cases h5; exact eD 4 Z (En [30,0,5,6,7,8,9,10,18] Z)
   refine J 0 Z (C hf Z (fun h7 hf=>?_) fun h7 hf=>?_)
   · exact M 0 Z ⟨cK,v1,g_,eU,(pos1 + (dec bJ pos1).2),Z,Z,Z,hf⟩
   refine V 2 Z (C hf Z (fun h8 hf=>?_) fun h8 hf=>?_)
   · refine B1 hf fun t_ h9 hf=>W 2 Z (CL Z (Al _ _ qQ 109 [] aa_ (fun _ _ hz=>Ij _  hz) h9 ?_)); exact N 1 Z ⟨cK,v1,t_,eU,(pos1 + (dec bJ pos1).2),Z,Z,Z,hf⟩
   refine V 2 Z (C hf Z (fun h10 hf=>?_) fun h10 hf=>?_)
   ·
    refine B1 hf fun b2 h12 hf=>W 3 Z (AR.dS 14 40 54 true [0,5,6,7,8,9,18] b2 Z Z (fun h11=>?_) (fun h11=>?_) ?_)
    ·
     replace h12:=j_ h11 h12; refine Is 40 h11 Z (U 1 Z (GO Z (AO.aV (l:=cK) Z Z Z Z gN Z Z ?_))); refine BR h12 fun b3 lu h12=>?_; refine U 2 Z (AR.dS 9 44 53 false [0,5,6,7,8,9,18,40] b3 Z Z (fun kY=>?_) (fun kY=>?_) ?_)
     · replace lu:=jG kY lu; refine Is 44 kY Z (U 2 Z (GO Z (AO.aV (l:=cK) Z Z Z Z gN Z Z ?_))); refine B1 lu fun e1 pK lu=>U 1 Z (GO Z (AO.cZ pK Z Z Z Z gN (au.aT _) Z ?_)); cases lu; exact eD 4 Z (En [53,0,5,6,7,8,9,18,40] Z)
     · refine IT 44 kY lu Z fun lu=>?_; cases lu; exact eD 9 Z (En [53,0,5,6,7,8,9,18,40] Z)
     cases h12; exact eD 1 Z (En [54,0,5,6,7,8,9,18] Z)
    · refine IF 40 h11 h12 Z fun h12=>?_; cases h12; exact eD 14 Z (En [54,0,5,6,7,8,9,18] Z)
    refine J 0 Z (C hf Z (fun h16 hf=>?_) fun h16 hf=>?_)
    · refine W 3 rfl (AS rfl (AO.bS (List.map au.cells [(au.mk 5 ([]:Str) (pos1:Int))]) rfl Ad rfl rfl rfl (by first | rfl | simp only [List.map,au.aT]) ?_)); refine B1 hf fun qc wV hf=>AS Z (AO.iJ (i:=0) (l:=cK) (m:=[(au.mk 5 ([]:Str) (pos1:Int))]) wV Z Z Z Z Z Z Z Ad gN Z Z Z (au.dU) (au.cells_one) (by decide) (fun v2 s1 hs1=>?_)); cases hs1; exact N 1 Z ⟨qc,v2,g_,eU,(pos1 + (dec bJ pos1).2),Z,Z,Z,hf⟩
    exact M 0 Z ⟨cK,v1,g_,eU,(pos1 + (dec bJ pos1).2),Z,Z,Z,hf⟩
   obtain ⟨x2,pR,e2,h18,hf⟩:=eH hf; refine W 2 Z (CL Z (MW _ _ h18 (U 4 Z (AS Z (AO.aQ Z nZ (fun b11=>(Rw 5 [0] Z Z (C hf Z (fun h19 hf=>?_) fun h19 hf=>?_))))))))
   · refine W 2 Z (AS Z (AO.eF Z Z ?_)); cases hf; exact N 2 Z (Y Z h)
   refine Ww 3 [0] Z Z (C hf Z (fun h20 hf=>?_) fun h20 hf=>?_)
   · refine B1 hf fun KJ h21 hf=>Wr 3 [0] rfl rfl (CL rfl (Ii _ _ h21 (Rr 3 [0] rfl rfl (AS rfl (AO.bS (List.map au.cells [x2]) rfl Ad rfl rfl rfl (by first | rfl | simp only [List.map,au.aT]) ?_))))); refine B1 hf fun rY h22 hf=>AS Z (AO.iJ (i:=1) (l:=cK) (m:=[x2]) h22 Z Z Z Z Z Z Z Ad gN Z Z Z (au.dU) (au.cells_one) (by decide) (fun v3 s2 hs2=>?_)); cases hs2; refine eD 3 Z (AR.drop1 ?_); exact N 0 Z ⟨rY,v3,pR,KJ,(pos1 + (dec bJ pos1).2),Z,Z,Z,hf⟩
   refine Wr 2 [0] rfl rfl (AS rfl (AO.bS (List.map au.cells [x2]) rfl Ad rfl rfl rfl (by first | rfl | simp only [List.map,au.aT]) ?_)); refine B1 hf fun SG h23 hf=>AS Z (AO.iJ (i:=1) (l:=cK) (m:=[x2]) h23 Z Z Z Z Z Z Z Ad gN Z Z Z (au.dU) (au.cells_one) (by decide) (fun v4 s3 hs3=>?_)); cases hs3; refine eD 3 Z (AR.drop1 ?_); exact N 0 Z ⟨SG,v4,pR,eU,(pos1 + (dec bJ pos1).2),Z,Z,Z,hf⟩
  cases h3
 replace hf:=jG h2 hf; refine W 0 Z (AS Z (AO.Vl (i:=1) Z Z Z h2 (J 1 Z (AW.cond Z (fun Mi=>?_) (fun Mi=>?_)))))
 · cases Mi
 cases hf; exact M 4 Z (Y Z h)
theorem Cx (c1:UInt8) {r0:Bool} (hf:sF c1=some r0) (h:Q (.ret (.bool r0)) τ):PC 312 [.int .u8 (c1.toNat:Int)] τ Q:=by
 unfold sF at hf; refine BN 21 [.tmp 2] [0] Tryz.func312 Z Z Z Z Z (W 4 Z (An 3 5 8 [0] (decide ((c1.toNat:Int)≤122)) Z Z Z Z (U 1 Z (AR.or 7 9 16 [0] (x:=((decide (65≤(c1.toNat:Int))) && (decide ((c1.toNat:Int)≤90)))) Z Z (fun h2=>?_) (fun h2=>?_) ?_))))
 · refine Is 9 h2 Z (U 3 Z (An 3 12 15 [0,9] (decide ((c1.toNat:Int)≤90)) Z Z Z Z ?_)); exact eD 1 Z (En [16,0] Z)
 · refine Is 9 h2 Z ?_; exact eD 7 Z (En [16,0] Z)
 refine U 1 Z (On 3 17 20 [] ((c1.toNat:Int) == 95) Z Z Z Z ?_); cases hf; exact N 1 Z (Y Z h)
theorem DR (c1:UInt8) {r0:Bool} (hf:lX c1=some r0) (h:Q (.ret (.bool r0)) τ):PC 313 [.int .u8 (c1.toNat:Int)] τ Q:=by
 unfold lX at hf; refine BN 9 [.tmp 2] [0] Tryz.func313 Z Z Z Z Z (W 4 Z (An 3 5 8 [] (decide ((c1.toNat:Int)≤57)) Z Z Z Z ?_)); cases hf; exact N 1 Z (Y Z h)
theorem EJ (s1:Str) {r0:Bool} (hf:tZ s1=some r0) (h:Q (.ret (.bool r0)) τ):PC 271 [.str s1] τ Q:=by
 unfold tZ at hf; refine BN 36 [.tmp 2] [0] Tryz.func271 Z Z Z Z Z (W 2 Z (AS Z (AO.bC Z Z Z Z bL Z (U 2 Z (AR.or 4 7 11 [0] (x:=(decide (64 < (s1.length:Int)))) Z Z (fun h1=>?_) (fun h1=>?_) ?_)))))
 · refine Is 7 h1 Z (U 1 Z (GO Z (AO.bC Z Z Z Z bL Z ?_))); exact eD 2 Z (En [11,0] Z)
 · refine Is 7 h1 Z ?_; exact eD 4 Z (En [11,0] Z)
 refine B1 hf fun b1 h3 hf=>U 1 Z (AR.dS 5 12 17 false [0] b1 Z Z (fun h2=>?_) (fun h2=>?_) ?_)
 · refine IF 12 h2 h3 Z fun h3=>?_; refine B1 h3 fun x1 h4 h3=>U 1 Z (GO Z (AO.bP h4 Z bL Z Z ?_)); refine B1 h3 fun x2 h5 h3=>GO Z (AO.call Z _ Z Z aaB (Cx _ h5 ?_)); cases h3; exact eD 2 Z (En [17,0] Z)
 · refine IT 12 h2 h3 Z fun h3=>?_; cases h3; exact eD 5 Z (En [17,0] Z)
 refine J 0 Z (C hf Z (fun h6 hf=>?_) fun h6 hf=>?_)
 · cases hf; exact M 1 Z (Y Z h)
 refine V 1 Z (CK (fun i1=>[(0,.str s1),(3,iP i1)]) (fun i1=>[]) (fun dw i1=>oJ s1 dw i1=some r0) BIG 0 Z Z hf (fun _ hz=>bQ hz) ?_); intro dw i1 hf; rw [oJ] at hf; refine W 2 Z (AS Z (AO.bC Z Z Z Z bL Z (J 1 Z (C hf Z (fun h7 hf=>?_) fun h7 hf=>?_))))
 ·
  refine B1 hf fun x3 h8 hf=>W 2 Z (AS Z (AO.bP h8 Z bL Z Z ?_)); refine B1 hf fun x4 h9 hf=>CL Z (Cx _ h9 ?_); refine B1 hf fun b2 h11 hf=>U 2 Z (AR.dS 6 29 35 true [0,3] b2 Z Z (fun h10=>?_) (fun h10=>?_) ?_)
  · refine IT 29 h10 h11 Z fun h11=>?_; refine B1 h11 fun x5 h12 h11=>U 2 Z (GO Z (AO.bP h12 Z bL Z Z ?_)); refine B1 h11 fun x6 kY h11=>GO Z (AO.call Z _ Z Z aaA (DR _ kY ?_)); cases h11; exact eD 2 Z (En [35,0,3] Z)
  · refine IF 29 h10 h11 Z fun h11=>?_; cases h11; exact eD 6 Z (En [35,0,3] Z)
  refine J 0 Z (C hf Z (fun lu hf=>?_) fun lu hf=>?_)
  · cases hf; exact M 1 Z (Y Z h)
  exact M 3 Z ⟨(bI (i1 + 1)),Z,Z,Z,hf⟩
 cases hf; exact M 1 Z (Y Z h)
section
variable [Jy]
def VW :Go.Shelf.Ren:=⟨fun | 172=>320 | 244=>348 | 245=>349 | 247=>368 | 279=>369 | 280=>370 | 281=>371 | 282=>372 | 287=>385 | 316=>386 | 171=>162 | 205=>387 | 321=>391 | 322=>392 | 243=>211 | 246=>258 | 283=>296 | 284=>297 | 285=>298 | 286=>299 | 129=>335 | 317=>334 | 318=>336 | 319=>337 | 320=>338 | 337=>363 | 338=>364 | n=>n,fun | 9=>9 | 3=>3 | 75=>106 | 76=>132 | 4=>4 | 5=>5 | 167=>335 | 37=>69 | 0=>0 | 85=>336 | 2=>2 | 168=>338 | 53=>37 | 175=>354 | 46=>125 | 210=>357 | 127=>169 | 145=>365 | 143=>363 | 21=>21 | 171=>281 | 173=>284 | 212=>314 | 51=>124 | 20=>20 | 213=>315 | 232=>348 | 233=>349 | 80=>135 | n=>n,fun | 15=>6 | 16=>7 | 17=>0 | 18=>2 | 19=>3 | n=>n⟩
theorem adx :Go.Proofs.LaysC.n172 Tryz.prog VW:=by repeat' first | (intros; kernel_rfl) | constructor | decide
theorem DK (s1:Str) {r0:Int} {r1:Option Nat} (hf:strconv_Atoi s1=some (r0,r1)) (h:Q (.ret (.tuple [iP r0,.err r1])) τ):PC 320 [.str s1] τ Q:=by
 unfold strconv_Atoi at hf; split at hf
 case isFalse=>cases hf
 rename_i hg; cases hf; refine AC.none ?_; exact AC.atoi Jy.hD adx hg Z Jy.syn Jy.rng h
end
section
variable [Jy]
theorem Ig (s1:Str) {r0:Bool} (hf:qM s1=some r0) (h:Q (.ret (.bool r0)) τ):PC 308 [.str s1] τ Q:=by
 unfold qM at hf; refine BN 40 [.tmp 2] [0] Tryz.func308 Z Z Z Z Z ?_; refine B1 hf fun b1 h2 hf=>W 4 Z (AR.dS 9 8 17 false [0] b1 Z Z (fun h1=>?_) (fun h1=>?_) ?_)
 ·
  replace h2:=jG h1 h2; refine Is 8 h1 Z (U 1 Z (GO Z (AO.bC Z Z Z Z bL Z ?_))); refine BR h2 fun b2 h4 h2=>?_; refine U 2 Z (AR.dS 4 12 16 true [0,8] b2 Z Z (fun h3=>?_) (fun h3=>?_) ?_)
  · refine IT 12 h3 h4 Z fun h4=>?_; refine B1 h4 fun x1 h5 h4=>U 1 Z (GO Z (AO.bP h5 Z bL Z Z ?_)); cases h4; exact eD 2 Z (En [16,0,8] Z)
  · refine IF 12 h3 h4 Z fun h4=>?_; cases h4; exact eD 4 Z (En [16,0,8] Z)
  cases h2; exact eD 1 Z (En [17,0] Z)
 · refine IT 8 h1 h2 Z fun h2=>?_; cases h2; exact eD 9 Z (En [17,0] Z)
 refine J 0 Z (C hf Z (fun h6 hf=>?_) fun h6 hf=>?_)
 · cases hf; exact M 1 Z (Y Z h)
 refine V 1 Z (CK (fun i1=>[(0,.str s1),(3,iP i1)]) (fun i1=>[]) (fun dw i1=>j5 s1 dw i1=some r0) BIG 0 Z Z hf (fun _ hz=>bQ hz) ?_); intro dw i1 hf; rw [j5] at hf; refine W 2 Z (AS Z (AO.bC Z Z Z Z bL Z (J 1 Z (C hf Z (fun h7 hf=>?_) fun h7 hf=>?_))))
 ·
  refine B1 hf fun x2 h8 hf=>W 2 Z (AS Z (AO.bP h8 Z bL Z Z ?_)); refine B1 hf fun x3 h9 hf=>CL Z (DR _ h9 (J 1 Z (C hf Z (fun h10 hf=>?_) fun h10 hf=>?_)))
  · cases hf; exact M 1 Z (Y Z h)
  exact M 3 Z ⟨(bI (i1 + 1)),Z,Z,Z,hf⟩
 obtain ⟨n1,Q7,h11,hf⟩:=dN hf; refine W 1 Z (CL Z (DK _ h11 (U 6 Z (AS Z (AO.eqNil Z abu Z Z (U 1 Z (An 3 36 39 [] (decide (n1≤9007199254740992)) Z Z Z Z ?_))))))); cases hf; exact N 1 Z (Y Z h)
end
section
variable [Jy]
theorem MR (t1:au) {r0:Bool} (hf:jk t1=some r0) (h:Q (.ret (.bool r0)) τ):PC 268 [.agg (mF t1)] τ Q:=by
 unfold jk at hf; refine BN 23 [.tmp 2] [0] Tryz.func268 Z Z Z Z Z (V 6 Z (C hf Z (fun h1 hf=>?_) fun h1 hf=>?_))
 · refine BR hf fun x1 h2 hf=>?_; refine W 2 Z (CL Z (EJ _ h2 ?_)); cases hf; exact N 1 Z (Y Z h)
 refine V 2 Z (C hf Z (fun h3 hf=>?_) fun h3 hf=>?_)
 · refine BR hf fun x2 h4 hf=>?_; refine W 2 Z (CL Z (Ig _ h4 ?_)); cases hf; exact N 1 Z (Y Z h)
 refine V 2 Z (C hf Z (fun h5 hf=>?_) fun h5 hf=>?_)
 · refine W 2 Z (AS Z (AO.bC Z Z Z Z bL Z ?_)); cases hf; exact N 2 Z (Y Z h)
 refine V 2 Z (C hf Z (fun h6 hf=>?_) fun h6 hf=>?_)
 · cases hf; exact M 1 Z (Y Z h)
 cases hf; exact M 1 Z (Y Z h)
end
section
variable [Jy]
theorem nT (p1:Nat) (kC:ah) {r0:au} {mU:ah} (hf:jl kC=some (r0,mU)) {Q:fq→List bn→Prop} (h:Q (.ret (.agg (mF r0))) [.box p1 (aS mU)]):PC 231 [pP p1] [.box p1 (aS kC)] Q:=by
 unfold jl at hf; refine BD 37 [.cell 2 146] [0] Tryz.func231 Z Z Z Z Z (W 0 Z (AS Z (AO.aQ Z nZ (fun b2=>(J 0 Z (AW.draw 23 mixed (by kernel_rfl) Z ?_)))))); refine Ev.cs dh 3 Z (Ev.cons Z Z Z (AO.eP (i:=1) Z Z Z Kg Z Z zg) (Ev.cs dh 3 Z (Ev.cons Z Z Z (AO.eP (i:=1) Z Z Z Ol Z Z zg) ?_))); refine Ev.cons Z Z Z (AO.aV (l:=kC.ts) Z Z Z Z gN Z Z zg) (Ev.cs dh 2 Z ?_); refine B1 hf fun b1 h2 hf=>Ev.dS hKA 12 13 25 true [0,2] (.bool b1) Z Z (fun h1=>?_) (fun h1=>?_) ?_
 ·
  replace h2:=j_ h1 h2; refine Ev.is Vw 13 h1 Z (Ev.cs dh 3 Z (Ev.run Z Z Z Z Z Z Z (AO.eP (i:=1) Z Z Z Ol Z Z zg) (Ev.cs dh 3 Z ?_))); refine Ev.run Z Z Z Z Z Z Z (AO.eP (i:=1) Z Z Z Kg Z Z zg) ?_; refine B1 h2 fun e1 h3 h2=>Ev.run Z Z Z Z Z Z Z (AO.cZ h3 Z Z Z Z gN (au.aT _) Z zg) (Ev.cs dh 1 Z ?_); refine BR h2 fun x1 h4 h2=>?_; refine Ev.run Z Z Z Z Z Z Z (AO.call Z _ Z Z aaD (MR _ h4 zg)) ?_; cases h2; refine Ev.cs dh 1 Z ?_; exact Ev.nil (Less.settle (ps:=[25,0,2]) Z)
 · replace h2:=jG h1 h2; refine Ev.is Vw 13 h1 Z ?_; cases h2; refine Ev.cs dh 12 Z ?_; exact Ev.nil (Less.settle (ps:=[25,0,2]) Z)
 refine Ev.nil ?_; show AR _ _ _ _ _ _ _ _; refine J 0 Z (C hf Z (fun h5 hf=>?_) fun h5 hf=>?_)
 ·
  refine V 0 Z (AW.draw 10 mixed (by kernel_rfl) Z ?_); refine Ev.cs dh 3 Z (Ev.cons Z Z Z (AO.eP (i:=1) Z Z Z Ol Z Z zg) (Ev.cs dh 3 Z (Ev.cons Z Z Z (AO.eP (i:=1) Z Z Z Kg Z Z zg) ?_))); refine B1 hf fun e2 h6 hf=>Ev.cons Z Z Z (AO.cZ h6 Z Z Z Z gN (au.aT _) Z zg) (Ev.cs dh 1 Z (Ev.nil ?_)); show AR _ _ _ _ _ _ _ _; cases hf; exact Rx 1 [0] rfl rfl ⟨rfl,_,⟨_,_,rfl,⟨_,_,0,_,_,rfl,rfl,G5,rfl⟩,rfl⟩,_,(.cons _ (.cons_cons _ (List.nil_sublist _))),h⟩
 cases hf; exact Wx 2 [0] rfl rfl ⟨rfl,_,⟨_,_,rfl,⟨_,_,0,_,_,rfl,rfl,G5,rfl⟩,rfl⟩,_,(.cons _ (.cons_cons _ (List.nil_sublist _))),h⟩
end
section
variable [Jy]
theorem Fv (p1:Nat) (kC:ah) (op1:Str) {r0:Bool} {mU:ah} (hf:rE kC op1=some (r0,mU)) {Q:fq→List bn→Prop} (h:Q (.ret (.bool r0)) [.box p1 (aS mU)]):PC 233 [pP p1,.str op1] [.box p1 (aS kC)] Q:=by
 unfold rE at hf; refine BD 17 [.tmp 4] [0,1] Tryz.func233 Z Z Z Z Z ?_; obtain ⟨x1,y1,h1,hf⟩:=dN hf; refine W 2 Z (CL Z (AC.one 0 Z (nT _ _ h1 ⟨_,Z,(AS Z (AO.aQ Z nZ (fun b5=>(Rr 5 [0,0] Z Z (AR.and 5 11 16 [] (x:=(x1.text == op1)) Z Z (fun h2=>?_) (fun h2=>?_) ?_)))))⟩)))
 · refine Is 11 h2 Z (U 1 Z (GO Z (AO.eP (i:=0) Z Z Z Qc Z Z ?_))); exact eD 3 Z (En [16] Z)
 · refine Is 11 h2 Z ?_; exact eD 5 Z (En [16] Z)
 cases hf; exact N 1 rfl ⟨rfl,_,⟨_,_,rfl,rfl,rfl⟩,_,(.cons _ (.cons_cons _ (List.nil_sublist _))),h⟩
end
section
variable [Jy]
theorem eB (p1:Nat) (kC:ah) (op1:Str) {r0:Bool} {mU:ah} (hf:dK kC op1=some (r0,mU)) {Q:fq→List bn→Prop} (h:Q (.ret (.bool r0)) [.box p1 (aS mU)]):PC 185 [pP p1,.str op1] [.box p1 (aS kC)] Q:=by
 unfold dK at hf; refine BD 16 [.tmp 4] [0,1] Tryz.func185 Z Z Z Z Z ?_; obtain ⟨x1,y1,h1,hf⟩:=dN hf; refine W 3 Z (CL Z (AC.one 0 Z (Fv _ _ _ h1 ⟨_,Z,(J 1 Z (C hf Z (fun h2 hf=>?_) fun h2 hf=>?_))⟩)))
 · cases hf; exact M 1 rfl ⟨rfl,_,⟨_,_,rfl,rfl,rfl⟩,_,(.cons_cons _ (List.nil_sublist _)),h⟩
 cases hf; exact Wx 9 [0,0] rfl rfl ⟨rfl,_,⟨_,_,rfl,rfl,rfl⟩,_,(.cons_cons _ (List.nil_sublist _)),h⟩
end
@[reducible] def CW :iG ay Unit→fq
 | .ok r=>.ret (.tuple [])
 | .bad e=>.panic (.iface 207 (.agg (jo e)))
theorem eO (p1:Nat) (kC:ah) (e1:Int) {rX:iG ay Unit} {mU:ah} (hf:gM kC e1=some (rX,mU)) {Q:fq→List bn→Prop} (h:Q (CW rX) [.box p1 (aS mU)]):PC 235 [pP p1,iP e1] [.box p1 (aS kC)] Q:=by
 unfold gM at hf; refine BD 11 [] [0,1] Tryz.func235 Z Z Z Z Z (Wr 6 [0] Z Z (AS Z (AO.Uu Z abm Z (AR.dF Z Z (AO.Xn Z Z ?_))))); cases hf; exact ⟨rfl,_,(.cons_cons _ (List.nil_sublist _)),h⟩
section
variable [Jy]
@[reducible] def CV :iG ay au→fq
 | .ok r=>.ret (.agg (mF r))
 | .bad e=>.panic (.iface 207 (.agg (jo e)))
theorem iR (p1:Nat) (kC:ah) {rX:iG ay au} {mU:ah} (hf:jm kC=some (rX,mU)) {Q:fq→List bn→Prop} (h:Q (CV rX) [.box p1 (aS mU)]):PC 234 [pP p1] [.box p1 (aS kC)] Q:=by
 unfold jm at hf; refine BD 24 [.cell 2 146] [0] Tryz.func234 Z Z Z Z Z (W 0 Z (AS Z (AO.aQ Z nZ (fun b2=>(J 0 Z (AW.draw 10 mixed (by kernel_rfl) Z ?_)))))); refine Ev.cs dh 3 Z (Ev.cons Z Z Z (AO.eP (i:=1) Z Z Z Kg Z Z zg) (Ev.cs dh 3 Z (Ev.cons Z Z Z (AO.eP (i:=1) Z Z Z Ol Z Z zg) ?_))); refine Ev.cons Z Z Z (AO.aV (l:=kC.ts) Z Z Z Z gN Z Z zg) (Ev.cs dh 1 Z (Ev.nil ?_)); show AR _ _ _ _ _ _ _ _; refine J 0 Z (C hf Z (fun h1 hf=>?_) fun h1 hf=>?_)
 ·
  rcases dR hf with ⟨e1,y2,h2,hf⟩ | ⟨_,y1,h2,hf⟩
  · refine W 1 Z (CL Z (AC.one 1 Z (eO _ _ _ h2 ⟨_,Z,?_⟩))); cases hf; exact ⟨rfl,_,(.cons _ (.cons_cons _ (List.nil_sublist _))),h⟩
  refine W 1 Z (CL Z (AC.one 1 Z (eO _ _ _ h2 ⟨_,Z,?_⟩))); obtain ⟨x1,y3,h3,hf⟩:=dN hf; refine U 1 Z (CL Z (AC.one 1 Z (nT _ _ h3 ⟨_,Z,(AS Z (AO.aQ Z nZ (fun b3=>(Rw 4 [0,0] Z Z (C hf Z (fun h4 hf=>?_) fun h4 hf=>?_)))))⟩)))
  ·
   rcases dR hf with ⟨e2,y5,h5,hf⟩ | ⟨_,y4,h5,hf⟩
   · refine W 1 Z (CL Z (AC.one 2 Z (eO _ _ _ h5 ⟨_,Z,?_⟩))); cases hf; exact ⟨rfl,_,(.cons _ (.cons _ (.cons_cons _ (List.nil_sublist _)))),h⟩
   refine W 1 Z (CL Z (AC.one 2 Z (eO _ _ _ h5 ⟨_,Z,?_⟩))); cases hf; exact Rx 2 [0,1] rfl rfl ⟨rfl,_,⟨_,_,rfl,⟨_,_,1,_,_,rfl,rfl,G5,rfl⟩,rfl⟩,_,(.cons _ (.cons _ (.cons_cons _ (List.nil_sublist _)))),h⟩
  cases hf; exact Wx 2 [0,1] rfl rfl ⟨rfl,_,⟨_,_,rfl,⟨_,_,1,_,_,rfl,rfl,G5,rfl⟩,rfl⟩,_,(.cons _ (.cons _ (.cons_cons _ (List.nil_sublist _)))),h⟩
 obtain ⟨x2,y6,h6,hf⟩:=dN hf; refine W 1 Z (CL Z (AC.one 1 Z (nT _ _ h6 ⟨_,Z,(AS Z (AO.aQ Z nZ (fun afA=>(Rw 4 [0,0] Z Z (C hf Z (fun h7 hf=>?_) fun h7 hf=>?_)))))⟩)))
 ·
  rcases dR hf with ⟨e3,y8,h8,hf⟩ | ⟨_,y7,h8,hf⟩
  · refine W 1 Z (CL Z (AC.one 2 Z (eO _ _ _ h8 ⟨_,Z,?_⟩))); cases hf; exact ⟨rfl,_,(.cons _ (.cons _ (.cons_cons _ (List.nil_sublist _)))),h⟩
  refine W 1 Z (CL Z (AC.one 2 Z (eO _ _ _ h8 ⟨_,Z,?_⟩))); cases hf; exact Rx 2 [0,1] rfl rfl ⟨rfl,_,⟨_,_,rfl,⟨_,_,1,_,_,rfl,rfl,G5,rfl⟩,rfl⟩,_,(.cons _ (.cons _ (.cons_cons _ (List.nil_sublist _)))),h⟩
 cases hf; exact Wx 2 [0,1] rfl rfl ⟨rfl,_,⟨_,_,rfl,⟨_,_,1,_,_,rfl,rfl,G5,rfl⟩,rfl⟩,_,(.cons _ (.cons _ (.cons_cons _ (List.nil_sublist _)))),h⟩
end
theorem rR (v1:av) {r0:aj} (hf:oK v1=some r0) (h:Q (.ret (.agg (cB r0))) τ):PC 340 [.agg (dB v1)] τ Q:=by
 unfold oK at hf; refine BN 5 [.cell 2 111] [0] Tryz.func340 Z Z Z Z Z (W 1 Z (AS Z (AO.aQ Z fF (fun b2=>?_)))); cases hf; exact Rx 3 [0] Z Z (ZC [0] Z Z h)
theorem Ak (s1:Str) {r0:Bool} (hf:nJ s1=some r0) (h:Q (.ret (.bool r0)) τ):PC 272 [.str s1] τ Q:=by
 unfold nJ at hf; refine BN 13 [.tmp 2] [0] Tryz.func272 Z Z Z Z Z (W 4 Z (On 3 5 8 [0] (s1 == ([102,97,108,115,101]:Str)) Z Z Z Z (U 1 Z (On 3 9 12 [] (s1 == ([110,117,108,108]:Str)) Z Z Z Z ?_)))); cases hf; exact N 1 Z (Y Z h)
section
variable [Jy]
@[reducible] def Bz :iG ay Unit→fq
 | .ok r=>.ret (.tuple [])
 | .bad e=>.panic (.iface 207 (.agg (jo e)))
theorem dL (p1:Nat) (kC:ah) (op1:Str) {rX:iG ay Unit} {mU:ah} (hf:fA kC op1=some (rX,mU)) {Q:fq→List bn→Prop} (h:Q (Bz rX) [.box p1 (aS mU)]):PC 186 [pP p1,.str op1] [.box p1 (aS kC)] Q:=by
 unfold fA at hf; refine BD 12 [] [0,1] Tryz.func186 Z Z Z Z Z ?_; rcases dR hf with ⟨e1,y2,h1,hf⟩ | ⟨x1,y1,h1,hf⟩
 · refine W 1 Z (CL Z (AC.one 0 Z (iR _ _ h1 ⟨_,Z,?_⟩))); cases hf; exact ⟨rfl,_,(.cons_cons _ (List.nil_sublist _)),h⟩
 refine W 1 Z (CL Z (AC.one 0 Z (iR _ _ h1 ⟨_,Z,?_⟩))); obtain ⟨x2,y3,h2,hf⟩:=dN hf; refine U 2 Z (CL Z (AC.one 0 Z (eB _ _ _ h2 ⟨_,Z,(J 1 Z (C hf Z (fun h3 hf=>?_) fun h3 hf=>?_))⟩)))
 ·
  rcases dR hf with ⟨e2,y5,h4,hf⟩ | ⟨_,y4,h4,hf⟩
  · refine W 1 Z (CL Z (AC.one 0 Z (eO _ _ _ h4 ⟨_,Z,?_⟩))); cases hf; exact ⟨rfl,_,(.cons_cons _ (List.nil_sublist _)),h⟩
  refine W 1 Z (CL Z (AC.one 0 Z (eO _ _ _ h4 ⟨_,Z,?_⟩))); cases hf; exact N 0 rfl ⟨rfl,_,rfl,_,(.cons_cons _ (List.nil_sublist _)),h⟩
 cases hf; exact M 0 rfl ⟨rfl,_,rfl,_,(.cons_cons _ (List.nil_sublist _)),h⟩
end
theorem zV (op1:Str) {r0:Int} (hf:iU op1=some r0) (h:Q (.ret (iP r0)) τ):PC 232 [.str op1] τ Q:=by
 unfold iU at hf; refine BN 22 [.tmp 2] [0] Tryz.func232 Z Z Z Z Z (V 4 Z (C hf Z (fun h1 hf=>?_) fun h1 hf=>?_))
 · cases hf; exact M 1 Z (Y Z h)
 refine V 2 Z (C hf Z (fun h2 hf=>?_) fun h2 hf=>?_)
 · cases hf; exact M 1 Z (Y Z h)
 refine V 2 Z (C hf Z (fun h3 hf=>?_) fun h3 hf=>?_)
 ·
  refine V 0 Z (AW.cond Z (fun h4=>?_) (fun h4=>?_))
  · cases hf; exact M 1 Z (Y Z h)
  cases h3.symm.trans h4
 refine V 2 Z (C hf Z (fun h5 hf=>?_) fun h5 hf=>?_)
 ·
  refine V 0 Z (AW.cond Z (fun h6=>?_) (fun h6=>?_))
  · cases hf; exact M 1 Z (Y Z h)
  cases h5.symm.trans h6
 refine V 2 Z (C hf Z (fun h7 hf=>?_) fun h7 hf=>?_)
 ·
  refine V 0 Z (AW.cond Z (fun h8=>?_) (fun h8=>?_))
  · cases hf; exact M 1 Z (Y Z h)
  cases h7.symm.trans h8
 refine V 2 Z (C hf Z (fun h9 hf=>?_) fun h9 hf=>?_)
 ·
  refine V 0 Z (AW.cond Z (fun h10=>?_) (fun h10=>?_))
  · cases hf; exact M 1 Z (Y Z h)
  cases h9.symm.trans h10
 refine V 2 Z (C hf Z (fun h11 hf=>?_) fun h11 hf=>?_)
 ·
  refine V 0 Z (AW.cond Z (fun h12=>?_) (fun h12=>?_))
  · cases hf; exact M 1 Z (Y Z h)
  cases h11.symm.trans h12
 refine V 2 Z (C hf Z (fun kY hf=>?_) fun kY hf=>?_)
 · cases hf; exact M 1 Z (Y Z h)
 refine V 2 Z (C hf Z (fun lu hf=>?_) fun lu hf=>?_)
 ·
  refine V 0 Z (AW.cond Z (fun pK=>?_) (fun pK=>?_))
  · cases hf; exact M 1 Z (Y Z h)
  cases lu.symm.trans pK
 refine V 2 Z (C hf Z (fun h16 hf=>?_) fun h16 hf=>?_)
 · cases hf; exact M 1 Z (Y Z h)
 refine V 2 Z (C hf Z (fun wV hf=>?_) fun wV hf=>?_)
 ·
  refine V 0 Z (AW.cond Z (fun h18=>?_) (fun h18=>?_))
  · cases hf; exact M 1 Z (Y Z h)
  cases wV.symm.trans h18
 refine V 2 Z (C hf Z (fun h19 hf=>?_) fun h19 hf=>?_)
 ·
  refine V 0 Z (AW.cond Z (fun h20=>?_) (fun h20=>?_))
  · cases hf; exact M 1 Z (Y Z h)
  cases h19.symm.trans h20
 refine V 2 Z (C hf Z (fun h21 hf=>?_) fun h21 hf=>?_)
 · cases hf; exact M 1 Z (Y Z h)
 cases hf; exact M 1 Z (Y Z h)
section
variable [Jy]
@[reducible] def mW :iG ay aj→fq
 | .ok r=>.ret (.agg (cB r))
 | .bad e=>.panic (.iface 207 (.agg (jo e)))
@[reducible] def mV :iG ay aj→fq
 | .ok r=>.ret (.agg (cB r))
 | .bad e=>.panic (.iface 207 (.agg (jo e)))
@[reducible] def qy :iG ay aj→fq
 | .ok r=>.ret (.agg (cB r))
 | .bad e=>.panic (.iface 207 (.agg (jo e)))
@[reducible] def qz :iG ay aj→fq
 | .ok r=>.ret (.agg (cB r))
 | .bad e=>.panic (.iface 207 (.agg (jo e)))
@[reducible] def qF :iG ay aj→fq
 | .ok r=>.ret (.agg (cB r))
 | .bad e=>.panic (.iface 207 (.agg (jo e)))
@[reducible] def qE :iG ay aj→fq
 | .ok r=>.ret (.agg (cB r))
 | .bad e=>.panic (.iface 207 (.agg (jo e)))
@[reducible] def qG :iG ay (List aj)→fq
 | .ok r=>.ret (.list (aj.dV r))
 | .bad e=>.panic (.iface 207 (.agg (jo e)))
@[reducible] def oF :iG ay aj→fq
 | .ok r=>.ret (.agg (cB r))
 | .bad e=>.panic (.iface 207 (.agg (jo e)))
abbrev fE (aD:ah→Option (iG ay aj × ah)):Prop:=∀ (n_:Nat) (fZ:ah) {gU:iG ay aj} {iK:ah},aD fZ=some (gU,iK)→∀ {Q:fq→List bn→Prop} (h:Q (mW gU) [.box n_ (aS iK)]),PC 145 [pP n_] [.box n_ (aS fZ)] Q
abbrev fD (aL:ah→Int→Option (iG ay aj × ah)):Prop:=∀ (n_:Nat) (fZ:ah) (V4:Int) {gU:iG ay aj} {iK:ah},aL fZ V4=some (gU,iK)→∀ {Q:fq→List bn→Prop} (h:Q (mV gU) [.box n_ (aS iK)]),PC 184 [pP n_,iP V4] [.box n_ (aS fZ)] Q
abbrev gQ (aN:ah→Option (iG ay aj × ah)):Prop:=∀ (n_:Nat) (fZ:ah) {gU:iG ay aj} {iK:ah},aN fZ=some (gU,iK)→∀ {Q:fq→List bn→Prop} (h:Q (qy gU) [.box n_ (aS iK)]),PC 230 [pP n_] [.box n_ (aS fZ)] Q
abbrev gT (aO:ah→Option (iG ay aj × ah)):Prop:=∀ (n_:Nat) (fZ:ah) {gU:iG ay aj} {iK:ah},aO fZ=some (gU,iK)→∀ {Q:fq→List bn→Prop} (h:Q (qz gU) [.box n_ (aS iK)]),PC 267 [pP n_] [.box n_ (aS fZ)] Q
abbrev iw (aZ:ah→Option (iG ay aj × ah)):Prop:=∀ (n_:Nat) (fZ:ah) {gU:iG ay aj} {iK:ah},aZ fZ=some (gU,iK)→∀ {Q:fq→List bn→Prop} (h:Q (qF gU) [.box n_ (aS iK)]),PC 307 [pP n_] [.box n_ (aS fZ)] Q
abbrev iq (aY:ah→Str→Option (iG ay aj × ah)):Prop:=∀ (n_:Nat) (fZ:ah) (Jh:Str) {gU:iG ay aj} {iK:ah},aY fZ Jh=some (gU,iK)→∀ {Q:fq→List bn→Prop} (h:Q (qE gU) [.box n_ (aS iK)]),PC 341 [pP n_,.str Jh] [.box n_ (aS fZ)] Q
abbrev iy (aX:ah→Str→Option (iG ay (List aj) × ah)):Prop:=∀ (n_:Nat) (fZ:ah) (Cr:Str) {gU:iG ay (List aj)} {iK:ah},aX fZ Cr=some (gU,iK)→∀ {Q:fq→List bn→Prop} (h:Q (qG gU) [.box n_ (aS iK)]),PC 342 [pP n_,.str Cr] [.box n_ (aS fZ)] Q
abbrev fU (aP:ah→Option (iG ay aj × ah)):Prop:=∀ (n_:Nat) (fZ:ah) {gU:iG ay aj} {iK:ah},aP fZ=some (gU,iK)→∀ {Q:fq→List bn→Prop} (h:Q (oF gU) [.box n_ (aS iK)]),PC 343 [pP n_] [.box n_ (aS fZ)] Q
theorem zu (aD) (bH:fE aD) (aL) (dI:fD aL) (aN) (eX:gQ aN) (aO) (fT:gT aO) (aZ) (gF:iw aZ) (aY) (gD:iq aY) (aX) (eZ:iy aX) (aP) (fC:fU aP) (p1:Nat) (kC:ah) {rX:iG ay aj} {mU:ah} (hf:kG aD aL aN aO aZ aY aX aP kC=some (rX,mU)) {Q:fq→List bn→Prop} (h:Q (mW rX) [.box p1 (aS mU)]):PC 145 [pP p1] [.box p1 (aS kC)] Q:=by
 unfold kG at hf; refine BD 23 [.cell 2 111] [0] Tryz.func145 Z Z Z Z Z (W 0 Z (AS Z (AO.aQ Z fF (fun b2=>?_)))); rcases dR hf with ⟨e1,y2,h1,hf⟩ | ⟨x1,y1,h1,hf⟩
 · refine U 1 Z (CL Z (AC.one 1 Z (dI _ _ _ h1 ⟨_,Z,?_⟩))); cases hf; exact ⟨rfl,_,(.cons _ (.cons_cons _ (List.nil_sublist _))),h⟩
 refine U 1 Z (CL Z (AC.one 1 Z (dI _ _ _ h1 ⟨_,Z,(AS Z (AO.aQ Z fF (fun b3=>?_)))⟩))); obtain ⟨x2,y3,h2,hf⟩:=dN hf; refine Rr 2 [0] Z Z (CL Z (AC.one 2 Z (eB _ _ _ h2 ⟨_,Z,(J 1 Z (C hf Z (fun h3 hf=>?_) fun h3 hf=>?_))⟩)))
 · cases hf; exact Wx 2 [0,1] rfl rfl ⟨rfl,_,⟨_,_,rfl,⟨_,_,1,_,_,rfl,rfl,iL,rfl⟩,rfl⟩,_,(.cons _ (.cons _ (.cons_cons _ (List.nil_sublist _)))),h⟩
 rcases dR hf with ⟨e2,y5,h4,hf⟩ | ⟨x3,y4,h4,hf⟩
 · refine W 1 Z (CL Z (AC.one 2 Z (bH _ _ h4 ⟨_,Z,?_⟩))); cases hf; exact ⟨rfl,_,(.cons _ (.cons _ (.cons_cons _ (List.nil_sublist _)))),h⟩
 refine W 1 Z (CL Z (AC.one 2 Z (bH _ _ h4 ⟨_,Z,(AS Z (AO.aQ Z fF (fun b4=>?_)))⟩))); rcases dR hf with ⟨e3,y7,h5,hf⟩ | ⟨_,y6,h5,hf⟩
 · refine Rr 2 [0] Z Z (CL Z (AC.one 3 Z (dL _ _ _ h5 ⟨_,Z,?_⟩))); cases hf; exact ⟨rfl,_,(.cons _ (.cons _ (.cons _ (.cons_cons _ (List.nil_sublist _))))),h⟩
 refine Rr 2 [0] Z Z (CL Z (AC.one 3 Z (dL _ _ _ h5 ⟨_,Z,?_⟩))); rcases dR hf with ⟨e4,y9,h6,hf⟩ | ⟨x4,y8,h6,hf⟩
 · refine U 1 Z (CL Z (AC.one 3 Z (bH _ _ h6 ⟨_,Z,?_⟩))); cases hf; exact ⟨rfl,_,(.cons _ (.cons _ (.cons _ (.cons_cons _ (List.nil_sublist _))))),h⟩
 refine U 1 rfl (CL rfl (AC.one 3 rfl (bH _ _ h6 ⟨_,rfl,(AS rfl (AO.aQ rfl fF (fun b5=>(Rr 4 [0,2,1,0] rfl rfl (AS rfl (AO.bS (aj.dV [x1,x3,x4]) rfl om rfl rfl rfl (by first | rfl | simp only [List.map,aj.aT,aj.dV]) ?_))))))⟩))); cases hf; exact Rx 2 [3] rfl rfl ⟨rfl,_,⟨_,_,rfl,⟨_,_,3,_,_,rfl,rfl,iL,rfl⟩,rfl⟩,_,(.cons _ (.cons _ (.cons _ (.cons _ (.cons_cons _ (List.nil_sublist _)))))),h⟩
theorem zq (aD) (bH:fE aD) (aL) (dI:fD aL) (aN) (eX:gQ aN) (aO) (fT:gT aO) (aZ) (gF:iw aZ) (aY) (gD:iq aY) (aX) (eZ:iy aX) (aP) (fC:fU aP) (p1:Nat) (kC:ah) (n1:Int) {rX:iG ay aj} {mU:ah} (hf:jD aD aL aN aO aZ aY aX aP kC n1=some (rX,mU)) {Q:fq→List bn→Prop} (h:Q (mV rX) [.box p1 (aS mU)]):PC 184 [pP p1,iP n1] [.box p1 (aS kC)] Q:=by
 unfold jD at hf; refine BD 47 [.cell 4 111] [0,1] Tryz.func184 Z Z Z Z Z (W 0 Z (AS Z (AO.aQ Z fF (fun b4=>(J 2 Z (C hf Z (fun h1 hf=>?_) fun h1 hf=>?_))))))
 ·
  rcases dR hf with ⟨e1,y2,h2,hf⟩ | ⟨x1,y1,h2,hf⟩
  · refine W 1 Z (CL Z (AC.one 1 Z (eX _ _ h2 ⟨_,Z,?_⟩))); cases hf; exact ⟨rfl,_,(.cons _ (.cons_cons _ (List.nil_sublist _))),h⟩
  refine W 1 Z (CL Z (AC.one 1 Z (eX _ _ h2 ⟨_,Z,?_⟩))); cases hf; exact Rx 1 [0] rfl rfl ⟨rfl,_,⟨_,_,rfl,⟨_,_,0,_,_,rfl,rfl,iL,rfl⟩,rfl⟩,_,(.cons _ (.cons_cons _ (List.nil_sublist _))),h⟩
 rcases dR hf with ⟨e2,y4,h3,hf⟩ | ⟨x2,y3,h3,hf⟩
 · refine W 3 Z (CL Z (AC.one 1 Z (dI _ _ _ h3 ⟨_,Z,?_⟩))); cases hf; exact ⟨rfl,_,(.cons _ (.cons_cons _ (List.nil_sublist _))),h⟩
 refine W 3 Z (CL Z (AC.one 1 Z (dI _ _ _ h3 ⟨_,Z,(AS Z (AO.aQ Z fF (fun b5=>?_)))⟩))); refine Rw 1 [0] Z Z (JQ (fun e3 y5=>[(0,pP p1),(1,iP n1),(4,pP b4),(5,pP b5)]) (fun e3 y5=>[.box b5 (cB e3),.box b4 [iP 0,.str ([]:Str),iP 0,.bool false,iP 0,.str ([]:Str),.own (.slice none 0 0) [],.own (.slice none 0 0) [],.own (.slice none 0 0) [],.own (.slice none 0 0) []],.box p1 (aS y5)]) (fun dw e3 y5=>iN aL n1 dw e3 y5=some (rX,mU)) BIG x2 y3 Z Z hf (fun _ _ hz=>bQ hz) ?_); intro dw e3 y5 hf; rw [iN] at hf; obtain ⟨x3,y6,h4,hf⟩:=dN hf; refine W 1 Z (CL Z (AC.one 2 Z (nT _ _ h4 ⟨_,Z,(AS Z (AO.aQ Z nZ (fun b6=>?_)))⟩))); refine B1 hf fun b1 h6 hf=>Rr 5 [0,0] Z Z (AR.dS 6 20 26 false [0,1,4,5,6] b1 Z Z (fun h5=>?_) (fun h5=>?_) ?_)
 · replace h6:=jG h5 h6; refine Is 20 h5 Z (U 1 Z (GO Z (AO.eP (i:=0) Z Z Z Qc Z Z ?_))); refine B1 h6 fun x4 h7 h6=>GO Z (AO.call Z _ Z Z aaK (zV _ h7 ?_)); cases h6; exact eD 3 Z (En [26,0,1,4,5,6] Z)
 · refine IT 20 h5 h6 Z fun h6=>?_; cases h6; exact eD 6 Z (En [26,0,1,4,5,6] Z)
 refine J 0 Z (C hf Z (fun h8 hf=>?_) fun h8 hf=>?_)
 · cases hf; exact Wx 2 [1,2] rfl rfl ⟨rfl,_,⟨_,_,rfl,⟨_,_,2,_,_,rfl,rfl,iL,rfl⟩,rfl⟩,_,(.cons _ (.cons _ (.cons _ (.cons_cons _ (List.nil_sublist _))))),h⟩
 refine Ww 8 [3,3] Z Z (AW.Gp 0 6 8 3 mixed (by kernel_rfl) (by kernel_rfl) (by kernel_rfl) Z Z Z Z ?_); refine Ev.nil ?_; show Ev _ _ _ _ _ _ _; refine Ev.cs dh 1 Z (Ev.cons Z Z Z (AO.eP (i:=0) Z Z Z Qc Z Z zg) (Ev.cons Z Z Z (AO.eP (i:=1) Z Z Z iL Z Z zg) (Ev.cs dh 3 Z ?_))); refine Ev.nil ?_; rcases dR hf with ⟨e4,y8,h9,hf⟩ | ⟨x5,y7,h9,hf⟩
 · refine TF.step Z Z Z (AO.call Z _ Z Z Xi (AC.one 0 Z (dI _ _ _ h9 ⟨_,Z,?_⟩))); cases hf; exact ⟨rfl,_,(.cons _ (.cons _ (.cons _ (.cons_cons _ (List.nil_sublist _))))),h⟩
 refine TF.step rfl rfl rfl (AO.call rfl _ rfl rfl Xi (AC.one 0 rfl (dI _ _ _ h9 ⟨_,rfl,(TF.step rfl rfl rfl (AO.bS (aj.dV [e3,x5]) rfl om rfl rfl rfl (by first | rfl | simp only [List.map,aj.aT,aj.dV]) ?_))⟩))); refine TF.nil ?_; show AR _ _ _ _ _ _ _ _
 refine Rw 4 [1] Z Z (C hf Z (fun h10 hf=>?_) fun h10 hf=>?_)
 · cases hf; exact Wx 2 [1,2] rfl rfl ⟨rfl,_,⟨_,_,rfl,⟨_,_,2,_,_,rfl,rfl,iL,rfl⟩,rfl⟩,_,(.cons _ (.cons _ (.cons _ (.cons_cons _ (List.nil_sublist _))))),h⟩
 refine AW.drop1 (AW.Iy 0 Z ?_); exact M 0 Z ⟨(aj.mk 7 x3.text (av.mk 0 false 0 ([]:Str) [] []) [e3,x5] []),y7,Z,Z,Z,hf⟩
theorem CO (aD) (bH:fE aD) (aL) (dI:fD aL) (aN) (eX:gQ aN) (aO) (fT:gT aO) (aZ) (gF:iw aZ) (aY) (gD:iq aY) (aX) (eZ:iy aX) (aP) (fC:fU aP) (p1:Nat) (kC:ah) {rX:iG ay aj} {mU:ah} (hf:mP aD aL aN aO aZ aY aX aP kC=some (rX,mU)) {Q:fq→List bn→Prop} (h:Q (qy rX) [.box p1 (aS mU)]):PC 230 [pP p1] [.box p1 (aS kC)] Q:=by
 unfold mP at hf; refine BD 22 [.cell 2 111] [0] Tryz.func230 Z Z Z Z Z (W 0 Z (AS Z (AO.aQ Z fF (fun b2=>(U 0 Z (AS Z (AO.bS (List.map oh ([([33]:Str),([45]:Str)]:List Str)) Z IJ Z Z Z Z (AS Z (AO.aV (l:=([([33]:Str),([45]:Str)]:List Str)) Z Z Z Z gX Z Z ?_))))))))); refine J 1 Z (JQ (fun x1 y1=>[(0,pP p1),(2,pP b2),(5,sP (([([33]:Str),([45]:Str)]:List Str))),(6,iP (([([33]:Str),([45]:Str)]:List Str).length:Int)),(7,iP x1)]) (fun x1 y1=>[.box b2 [iP 0,.str ([]:Str),iP 0,.bool false,iP 0,.str ([]:Str),.own (.slice none 0 0) [],.own (.slice none 0 0) [],.own (.slice none 0 0) [],.own (.slice none 0 0) []],.box p1 (aS y1)]) (fun dw x1 y1=>iT aN aO dw x1 y1=some (rX,mU)) BIG 0 kC Z Z hf (fun _ _ hz=>bQ hz) ?_); intro dw x1 y1 hf; rw [iT] at hf; refine V 1 Z (C hf Z (fun h1 hf=>?_) fun h1 hf=>?_)
 ·
  refine B1 hf fun op1 h2 hf=>W 0 Z (AS Z (AO.cZ h2 Z Z Z Z gX Z Z ?_)); obtain ⟨x2,y2,h3,hf⟩:=dN hf; refine U 4 Z (CL Z (AC.one 1 Z (eB _ _ _ h3 ⟨_,Z,(J 0 Z (C hf Z (fun h4 hf=>?_) fun h4 hf=>?_))⟩)))
  ·
   rcases dR hf with ⟨e1,y4,h5,hf⟩ | ⟨x3,y3,h5,hf⟩
   · refine W 2 Z (CL Z (AC.one 1 Z (eX _ _ h5 ⟨_,Z,?_⟩))); cases hf; exact ⟨rfl,_,(.cons _ (.cons_cons _ (List.nil_sublist _))),h⟩
   refine W 2 rfl (CL rfl (AC.one 1 rfl (eX _ _ h5 ⟨_,rfl,(AS rfl (AO.bS (aj.dV [x3]) rfl om rfl rfl rfl (by first | rfl | simp only [List.map,aj.aT,aj.dV]) ?_))⟩))); cases hf; exact Rx 2 [0] rfl rfl ⟨rfl,_,⟨_,_,rfl,⟨_,_,0,_,_,rfl,rfl,iL,rfl⟩,rfl⟩,_,(.cons _ (.cons_cons _ (List.nil_sublist _))),h⟩
  exact M 2 Z ⟨(bI (x1 + 1)),y2,Z,Z,Z,hf⟩
 rcases dR hf with ⟨e2,y6,h6,hf⟩ | ⟨x4,y5,h6,hf⟩
 · refine W 1 Z (CL Z (AC.one 1 Z (fT _ _ h6 ⟨_,Z,?_⟩))); cases hf; exact ⟨rfl,_,(.cons _ (.cons_cons _ (List.nil_sublist _))),h⟩
 refine W 1 Z (CL Z (AC.one 1 Z (fT _ _ h6 ⟨_,Z,?_⟩))); cases hf; exact Rx 1 [0] rfl rfl ⟨rfl,_,⟨_,_,rfl,⟨_,_,0,_,_,rfl,rfl,iL,rfl⟩,rfl⟩,_,(.cons _ (.cons_cons _ (List.nil_sublist _))),h⟩
theorem CP (aD) (bH:fE aD) (aL) (dI:fD aL) (aN) (eX:gQ aN) (aO) (fT:gT aO) (aZ) (gF:iw aZ) (aY) (gD:iq aY) (aX) (eZ:iy aX) (aP) (fC:fU aP) (p1:Nat) (kC:ah) {rX:iG ay aj} {mU:ah} (hf:mQ aD aL aN aO aZ aY aX aP kC=some (rX,mU)) {Q:fq→List bn→Prop} (h:Q (qz rX) [.box p1 (aS mU)]):PC 267 [pP p1] [.box p1 (aS kC)] Q:=by
 unfold mQ at hf; refine BD 47 [.cell 2 111] [0] Tryz.func267 Z Z Z Z Z (W 0 Z (AS Z (AO.aQ Z fF (fun b2=>?_)))); rcases dR hf with ⟨e1,y2,h1,hf⟩ | ⟨x1,y1,h1,hf⟩
 · refine U 1 Z (CL Z (AC.one 1 Z (gF _ _ h1 ⟨_,Z,?_⟩))); cases hf; exact ⟨rfl,_,(.cons _ (.cons_cons _ (List.nil_sublist _))),h⟩
 refine U 1 Z (CL Z (AC.one 1 Z (gF _ _ h1 ⟨_,Z,(AS Z (AO.aQ Z fF (fun b3=>?_)))⟩))); refine Rw 1 [0] Z Z (JQ (fun e2 y3=>[(0,pP p1),(2,pP b2),(3,pP b3)]) (fun e2 y3=>[.box b3 (cB e2),.box b2 [iP 0,.str ([]:Str),iP 0,.bool false,iP 0,.str ([]:Str),.own (.slice none 0 0) [],.own (.slice none 0 0) [],.own (.slice none 0 0) [],.own (.slice none 0 0) []],.box p1 (aS y3)]) (fun dw e2 y3=>gB aD dw e2 y3=some (rX,mU)) BIG x1 y1 Z Z hf (fun _ _ hz=>bQ hz) ?_); intro dw e2 y3 hf; rw [gB] at hf; obtain ⟨x2,y4,h2,hf⟩:=dN hf; refine W 1 Z (CL Z (AC.one 2 Z (eB _ _ _ h2 ⟨_,Z,(J 1 Z (C hf Z (fun h3 hf=>?_) fun h3 hf=>?_))⟩)))
 ·
  rcases dR hf with ⟨e3,y6,h4,hf⟩ | ⟨x3,y5,h4,hf⟩
  · refine W 1 Z (CL Z (AC.one 2 Z (iR _ _ h4 ⟨_,Z,?_⟩))); cases hf; exact ⟨rfl,_,(.cons _ (.cons _ (.cons_cons _ (List.nil_sublist _)))),h⟩
  refine W 1 Z (CL Z (AC.one 2 Z (iR _ _ h4 ⟨_,Z,(AS Z (AO.aQ Z nZ (fun b4=>?_)))⟩))); refine B1 hf fun b1 h6 hf=>Rr 5 [0,0] Z Z (AR.dS 4 17 21 false [0,2,3,4] b1 Z Z (fun h5=>?_) (fun h5=>?_) ?_)
  · replace h6:=jG h5 h6; refine Is 17 h5 Z (U 1 Z (GO Z (AO.eP (i:=0) Z Z Z Qc Z Z ?_))); refine BR h6 fun x4 h7 h6=>?_; refine GO Z (AO.call Z _ Z Z Xf (Ak _ h7 ?_)); cases h6; exact eD 1 Z (En [21,0,2,3,4] Z)
  · refine IT 17 h5 h6 Z fun h6=>?_; cases h6; exact eD 4 Z (En [21,0,2,3,4] Z)
  refine J 0 Z (C hf Z (fun h8 hf=>?_) fun h8 hf=>?_)
  ·
   rcases dR hf with ⟨e4,y8,h9,hf⟩ | ⟨_,y7,h9,hf⟩
   · refine W 1 Z (CL Z (AC.one 3 Z (eO _ _ _ h9 ⟨_,Z,?_⟩))); cases hf; exact ⟨rfl,_,(.cons _ (.cons _ (.cons _ (.cons_cons _ (List.nil_sublist _))))),h⟩
   refine W 1 rfl (CL rfl (AC.one 3 rfl (eO _ _ _ h9 ⟨_,rfl,(Rr 11 [3,3,0,1] rfl rfl (AS rfl (AO.bS (aj.dV [e2]) rfl om rfl rfl rfl (by first | rfl | simp only [List.map,aj.aT,aj.dV]) ?_)))⟩))); refine Rn 2 [1] Z Z (AR.drop1 (AR.Iy 0 Z ?_)); exact N 0 Z ⟨(aj.mk 3 x3.text (av.mk 0 false 0 ([]:Str) [] []) [e2] []),(ah.mk y7.ts (bI (y7.at_ + 1))),Z,Z,Z,hf⟩
  refine Wr 11 [3,3,0,1] rfl rfl (AS rfl (AO.bS (aj.dV [e2]) rfl om rfl rfl rfl (by first | rfl | simp only [List.map,aj.aT,aj.dV]) ?_)); refine Rn 2 [1] Z Z (AR.drop1 (AR.Iy 0 Z ?_)); exact N 0 Z ⟨(aj.mk 3 x3.text (av.mk 0 false 0 ([]:Str) [] []) [e2] []),(ah.mk y5.ts (bI (y5.at_ + 1))),Z,Z,Z,hf⟩
 obtain ⟨x5,y9,h10,hf⟩:=dN hf; refine W 1 Z (CL Z (AC.one 2 Z (eB _ _ _ h10 ⟨_,Z,(J 1 Z (C hf Z (fun h11 hf=>?_) fun h11 hf=>?_))⟩)))
 ·
  rcases dR hf with ⟨e5,Yz,h12,hf⟩ | ⟨x6,YG,h12,hf⟩
  · refine W 1 Z (CL Z (AC.one 2 Z (bH _ _ h12 ⟨_,Z,?_⟩))); cases hf; exact ⟨rfl,_,(.cons _ (.cons _ (.cons_cons _ (List.nil_sublist _)))),h⟩
  refine W 1 Z (CL Z (AC.one 2 Z (bH _ _ h12 ⟨_,Z,(AS Z (AO.aQ Z fF (fun b5=>?_)))⟩))); rcases dR hf with ⟨e6,y13,kY,hf⟩ | ⟨_,YF,kY,hf⟩
  · refine Rr 2 [0] Z Z (CL Z (AC.one 3 Z (dL _ _ _ kY ⟨_,Z,?_⟩))); cases hf; exact ⟨rfl,_,(.cons _ (.cons _ (.cons _ (.cons_cons _ (List.nil_sublist _))))),h⟩
  refine Rr 2 [0] rfl rfl (CL rfl (AC.one 3 rfl (dL _ _ _ kY ⟨_,rfl,(Rr 2 [1,0] rfl rfl (AS rfl (AO.bS (aj.dV [e2,x6]) rfl om rfl rfl rfl (by first | rfl | simp only [List.map,aj.aT,aj.dV]) ?_)))⟩))); refine Rn 2 [1] Z Z (AR.drop1 (AR.Iy 0 Z ?_)); exact N 0 Z ⟨(aj.mk 4 ([]:Str) (av.mk 0 false 0 ([]:Str) [] []) [e2,x6] []),YF,Z,Z,Z,hf⟩
 cases hf; exact Wx 2 [0,1] rfl rfl ⟨rfl,_,⟨_,_,rfl,⟨_,_,1,_,_,rfl,rfl,iL,rfl⟩,rfl⟩,_,(.cons _ (.cons _ (.cons_cons _ (List.nil_sublist _)))),h⟩
theorem CY (aD) (bH:fE aD) (aL) (dI:fD aL) (aN) (eX:gQ aN) (aO) (fT:gT aO) (aZ) (gF:iw aZ) (aY) (gD:iq aY) (aX) (eZ:iy aX) (aP) (fC:fU aP) (p1:Nat) (kC:ah) {rX:iG ay aj} {mU:ah} (hf:nL aD aL aN aO aZ aY aX aP kC=some (rX,mU)) {Q:fq→List bn→Prop} (h:Q (qF rX) [.box p1 (aS mU)]):PC 307 [pP p1] [.box p1 (aS kC)] Q:=by
 unfold nL at hf; refine BD 77 [.cell 2 111] [0] Tryz.func307 Z Z Z Z Z (W 0 Z (AS Z (AO.aQ Z fF (fun b2=>?_)))); rcases dR hf with ⟨e1,y2,h1,hf⟩ | ⟨x1,y1,h1,hf⟩
 · refine U 1 Z (CL Z (AC.one 1 Z (iR _ _ h1 ⟨_,Z,?_⟩))); cases hf; exact ⟨rfl,_,(.cons _ (.cons_cons _ (List.nil_sublist _))),h⟩
 refine U 1 Z (CL Z (AC.one 1 Z (iR _ _ h1 ⟨_,Z,(AS Z (AO.aQ Z nZ (fun b3=>(Rw 5 [0,0] Z Z (C hf Z (fun h2 hf=>?_) fun h2 hf=>?_)))))⟩)))
 · obtain ⟨n1,x2,h3,hf⟩:=dN hf; refine Wr 10 [2,2,0] Z Z (CL Z (DK _ h3 ?_)); refine B1 hf fun x3 h4 hf=>U 7 Z (CL Z (rR _ h4 ?_)); cases hf; exact Rx 1 [1] rfl rfl ⟨rfl,_,⟨_,_,rfl,⟨_,_,1,_,_,rfl,rfl,iL,rfl⟩,rfl⟩,_,(.cons _ (.cons _ (.cons_cons _ (List.nil_sublist _)))),h⟩
 refine V 2 Z (C hf Z (fun h5 hf=>?_) fun h5 hf=>?_)
 · refine B1 hf fun x4 h6 hf=>Wr 11 [2,2,0] Z Z (CL Z (rR _ h6 ?_)); cases hf; exact Rx 1 [1] rfl rfl ⟨rfl,_,⟨_,_,rfl,⟨_,_,1,_,_,rfl,rfl,iL,rfl⟩,rfl⟩,_,(.cons _ (.cons _ (.cons_cons _ (List.nil_sublist _)))),h⟩
 refine V 2 Z (C hf Z (fun h7 hf=>?_) fun h7 hf=>?_)
 ·
  rcases dR hf with ⟨e2,y4,h8,hf⟩ | ⟨x5,y3,h8,hf⟩
  · refine Wr 11 [2,2,0] Z Z (CL Z (AC.one 2 Z (gD _ _ _ h8 ⟨_,Z,?_⟩))); cases hf; exact ⟨rfl,_,(.cons _ (.cons _ (.cons_cons _ (List.nil_sublist _)))),h⟩
  refine Wr 11 [2,2,0] Z Z (CL Z (AC.one 2 Z (gD _ _ _ h8 ⟨_,Z,?_⟩))); cases hf; exact Rx 1 [1] rfl rfl ⟨rfl,_,⟨_,_,rfl,⟨_,_,1,_,_,rfl,rfl,iL,rfl⟩,rfl⟩,_,(.cons _ (.cons _ (.cons_cons _ (List.nil_sublist _)))),h⟩
 obtain ⟨x6,y5,h9,hf⟩:=dN hf; refine W 1 Z (CL Z (AC.one 2 Z (eB _ _ _ h9 ⟨_,Z,(J 1 Z (C hf Z (fun h10 hf=>?_) fun h10 hf=>?_))⟩)))
 ·
  rcases dR hf with ⟨e3,y7,h11,hf⟩ | ⟨x7,y6,h11,hf⟩
  · refine W 1 Z (CL Z (AC.one 2 Z (bH _ _ h11 ⟨_,Z,?_⟩))); cases hf; exact ⟨rfl,_,(.cons _ (.cons _ (.cons_cons _ (List.nil_sublist _)))),h⟩
  refine W 1 Z (CL Z (AC.one 2 Z (bH _ _ h11 ⟨_,Z,(AS Z (AO.aQ Z fF (fun b6=>?_)))⟩))); rcases dR hf with ⟨e4,y9,h12,hf⟩ | ⟨_,y8,h12,hf⟩
  · refine Rr 2 [0] Z Z (CL Z (AC.one 3 Z (dL _ _ _ h12 ⟨_,Z,?_⟩))); cases hf; exact ⟨rfl,_,(.cons _ (.cons _ (.cons _ (.cons_cons _ (List.nil_sublist _))))),h⟩
  refine Rr 2 [0] Z Z (CL Z (AC.one 3 Z (dL _ _ _ h12 ⟨_,Z,?_⟩))); cases hf; exact Rx 2 [0,2] rfl rfl ⟨rfl,_,⟨_,_,rfl,⟨_,_,2,_,_,rfl,rfl,iL,rfl⟩,rfl⟩,_,(.cons _ (.cons _ (.cons _ (.cons_cons _ (List.nil_sublist _))))),h⟩
 obtain ⟨x8,YG,kY,hf⟩:=dN hf; refine W 1 Z (CL Z (AC.one 2 Z (eB _ _ _ kY ⟨_,Z,(J 1 Z (C hf Z (fun lu hf=>?_) fun lu hf=>?_))⟩)))
 ·
  rcases dR hf with ⟨e5,YF,pK,hf⟩ | ⟨x9,Yz,pK,hf⟩
  · refine W 1 Z (CL Z (AC.one 2 Z (eZ _ _ _ pK ⟨_,Z,?_⟩))); cases hf; exact ⟨rfl,_,(.cons _ (.cons _ (.cons_cons _ (List.nil_sublist _)))),h⟩
  refine W 1 Z (CL Z (AC.one 2 Z (eZ _ _ _ pK ⟨_,Z,?_⟩))); cases hf; exact Rx 2 [1] rfl rfl ⟨rfl,_,⟨_,_,rfl,⟨_,_,1,_,_,rfl,rfl,iL,rfl⟩,rfl⟩,_,(.cons _ (.cons _ (.cons_cons _ (List.nil_sublist _)))),h⟩
 obtain ⟨JX,y13,h16,hf⟩:=dN hf; refine W 1 Z (CL Z (AC.one 2 Z (eB _ _ _ h16 ⟨_,Z,(J 1 Z (C hf Z (fun wV hf=>?_) fun wV hf=>?_))⟩)))
 ·
  rcases dR hf with ⟨e6,y15,h18,hf⟩ | ⟨YA,y14,h18,hf⟩
  · refine W 1 Z (CL Z (AC.one 2 Z (fC _ _ h18 ⟨_,Z,?_⟩))); cases hf; exact ⟨rfl,_,(.cons _ (.cons _ (.cons_cons _ (List.nil_sublist _)))),h⟩
  refine W 1 Z (CL Z (AC.one 2 Z (fC _ _ h18 ⟨_,Z,?_⟩))); cases hf; exact Rx 1 [1] rfl rfl ⟨rfl,_,⟨_,_,rfl,⟨_,_,1,_,_,rfl,rfl,iL,rfl⟩,rfl⟩,_,(.cons _ (.cons _ (.cons_cons _ (List.nil_sublist _)))),h⟩
 rcases dR hf with ⟨e7,y17,h19,hf⟩ | ⟨_,y16,h19,hf⟩
 · refine W 1 Z (CL Z (AC.one 2 Z (eO _ _ _ h19 ⟨_,Z,?_⟩))); cases hf; exact ⟨rfl,_,(.cons _ (.cons _ (.cons_cons _ (List.nil_sublist _)))),h⟩
 refine W 1 Z (CL Z (AC.one 2 Z (eO _ _ _ h19 ⟨_,Z,?_⟩))); cases hf; exact Rx 2 [1] rfl rfl ⟨rfl,_,⟨_,_,rfl,⟨_,_,1,_,_,rfl,rfl,iL,rfl⟩,rfl⟩,_,(.cons _ (.cons _ (.cons_cons _ (List.nil_sublist _)))),h⟩
theorem CX (aD) (bH:fE aD) (aL) (dI:fD aL) (aN) (eX:gQ aN) (aO) (fT:gT aO) (aZ) (gF:iw aZ) (aY) (gD:iq aY) (aX) (eZ:iy aX) (aP) (fC:fU aP) (p1:Nat) (kC:ah) (s1:Str) {rX:iG ay aj} {mU:ah} (hf:nK aD aL aN aO aZ aY aX aP kC s1=some (rX,mU)) {Q:fq→List bn→Prop} (h:Q (qE rX) [.box p1 (aS mU)]):PC 341 [pP p1,.str s1] [.box p1 (aS kC)] Q:=by
 unfold nK at hf; refine BD 26 [.cell 4 111] [0,1] Tryz.func341 Z Z Z Z Z (W 0 Z (AS Z (AO.aQ Z fF (fun b4=>(J 3 Z (C hf Z (fun h1 hf=>?_) fun h1 hf=>?_))))))
 · refine B1 hf fun x1 h2 hf=>W 1 Z (CL Z (rR _ h2 ?_)); cases hf; exact Rx 1 [0] rfl rfl ⟨rfl,_,⟨_,_,rfl,⟨_,_,0,_,_,rfl,rfl,iL,rfl⟩,rfl⟩,_,(.cons _ (.cons_cons _ (List.nil_sublist _))),h⟩
 refine B1 hf fun x2 h3 hf=>W 1 Z (CL Z (Ak _ h3 (J 1 Z (C hf Z (fun h4 hf=>?_) fun h4 hf=>?_))))
 · refine B1 hf fun x3 h5 hf=>W 3 Z (CL Z (rR _ h5 ?_)); cases hf; exact Rx 1 [0] rfl rfl ⟨rfl,_,⟨_,_,rfl,⟨_,_,0,_,_,rfl,rfl,iL,rfl⟩,rfl⟩,_,(.cons _ (.cons_cons _ (List.nil_sublist _))),h⟩
 obtain ⟨x4,y1,h6,hf⟩:=dN hf; refine W 1 Z (CL Z (AC.one 1 Z (eB _ _ _ h6 ⟨_,Z,(J 1 Z (C hf Z (fun h7 hf=>?_) fun h7 hf=>?_))⟩)))
 ·
  rcases dR hf with ⟨e1,y3,h8,hf⟩ | ⟨x5,y2,h8,hf⟩
  · refine W 2 Z (CL Z (AC.one 1 Z (eZ _ _ _ h8 ⟨_,Z,?_⟩))); cases hf; exact ⟨rfl,_,(.cons _ (.cons_cons _ (List.nil_sublist _))),h⟩
  refine W 2 Z (CL Z (AC.one 1 Z (eZ _ _ _ h8 ⟨_,Z,?_⟩))); cases hf; exact Rx 2 [0] rfl rfl ⟨rfl,_,⟨_,_,rfl,⟨_,_,0,_,_,rfl,rfl,iL,rfl⟩,rfl⟩,_,(.cons _ (.cons_cons _ (List.nil_sublist _))),h⟩
 cases hf; exact Wx 3 [0] rfl rfl ⟨rfl,_,⟨_,_,rfl,⟨_,_,0,_,_,rfl,rfl,iL,rfl⟩,rfl⟩,_,(.cons _ (.cons_cons _ (List.nil_sublist _))),h⟩
theorem CZ (aD) (bH:fE aD) (aL) (dI:fD aL) (aN) (eX:gQ aN) (aO) (fT:gT aO) (aZ) (gF:iw aZ) (aY) (gD:iq aY) (aX) (eZ:iy aX) (aP) (fC:fU aP) (p1:Nat) (kC:ah) (pR:Str) {rX:iG ay (List aj)} {mU:ah} (hf:nM aD aL aN aO aZ aY aX aP kC pR=some (rX,mU)) {Q:fq→List bn→Prop} (h:Q (qG rX) [.box p1 (aS mU)]):PC 342 [pP p1,.str pR] [.box p1 (aS kC)] Q:=by
 unfold nM at hf; refine BD 21 [.tmp 4] [0,1] Tryz.func342 Z Z Z Z Z (W 0 Z (AS Z (AO.eF Z Z ?_))); obtain ⟨x1,y1,h1,hf⟩:=dN hf; refine U 2 Z (CL Z (AC.one 0 Z (eB _ _ _ h1 ⟨_,Z,(J 0 Z (C hf Z (fun h2 hf=>?_) fun h2 hf=>?_))⟩)))
 · refine W 0 Z (AS Z (AO.eF Z Z ?_)); cases hf; exact N 0 rfl ⟨rfl,_,⟨_,_,rfl,rfl,rfl⟩,_,(.cons_cons _ (List.nil_sublist _)),h⟩
 refine V 1 Z (AW.row 10 111 (YD (fun cK v1 y2=>[(0,pP p1),(1,.str pR),(5,.own v1 (aj.dV cK))]) (fun cK v1 y2=>[.row v1 (aj.dV cK).length 10 111,.box p1 (aS y2)]) (fun dw cK v1 y2=>jI aD pR dw cK y2=some (rX,mU)) BIG [] (.slice none 0 0) y1 Z Z hf (fun _ _ _ hz=>bQ hz) ?_)); intro dw cK v1 y2 hf; rw [jI] at hf; rcases dR hf with ⟨e1,y4,h3,hf⟩ | ⟨x2,y3,h3,hf⟩
 · refine W 2 Z (CL Z (AC.one 1 Z (bH _ _ h3 ⟨_,Z,?_⟩))); cases hf; exact ⟨rfl,_,(.cons _ (.cons_cons _ (List.nil_sublist _))),h⟩
 refine W 2 rfl (CL rfl (AC.one 1 rfl (bH _ _ h3 ⟨_,rfl,(AS rfl (AO.bS (aj.dV [x2]) rfl om rfl rfl rfl (by first | rfl | simp only [List.map,aj.aT,aj.dV]) ?_))⟩))); refine B1 hf fun qc h4 hf=>AS Z (AO.iJ (i:=0) (l:=cK) (m:=[x2]) h4 Z Z Z Z Z Z Z om jL (aj.bM _) (aj.bM _) (aj.bM _).symm (aj.dU) (aj.cells_one) (by decide) (fun v2 s1 hs1=>?_)); cases hs1; obtain ⟨x3,y5,h5,hf⟩:=dN hf
 refine U 2 Z (CL Z (AC.one 1 Z (eB _ _ _ h5 ⟨_,Z,(J 1 Z (C hf Z (fun h6 hf=>?_) fun h6 hf=>?_))⟩)))
 ·
  rcases dR hf with ⟨e2,y7,h7,hf⟩ | ⟨_,y6,h7,hf⟩
  · refine W 2 Z (CL Z (AC.one 1 Z (dL _ _ _ h7 ⟨_,Z,?_⟩))); cases hf; exact ⟨rfl,_,(.cons _ (.cons_cons _ (List.nil_sublist _))),h⟩
  refine W 2 Z (CL Z (AC.one 1 Z (dL _ _ _ h7 ⟨_,Z,?_⟩))); cases hf; exact N 2 rfl ⟨rfl,_,⟨_,_,rfl,rfl,rfl⟩,_,(.cons _ (.cons_cons _ (List.nil_sublist _))),h⟩
 exact M 0 Z ⟨qc,v2,y5,Z,Z,Z,hf⟩
theorem Ap (aD) (bH:fE aD) (aL) (dI:fD aL) (aN) (eX:gQ aN) (aO) (fT:gT aO) (aZ) (gF:iw aZ) (aY) (gD:iq aY) (aX) (eZ:iy aX) (aP) (fC:fU aP) (p1:Nat) (kC:ah) {rX:iG ay aj} {mU:ah} (hf:lF aD aL aN aO aZ aY aX aP kC=some (rX,mU)) {Q:fq→List bn→Prop} (h:Q (oF rX) [.box p1 (aS mU)]):PC 343 [pP p1] [.box p1 (aS kC)] Q:=by
 unfold lF at hf; refine BD 50 [.cell 2 111] [0] Tryz.func343 Z Z Z Z Z (W 0 Z (AS Z (AO.aQ Z fF (fun b2=>(U 1 Z (AS Z (AO.aQ Z fF (fun b3=>?_)))))))); obtain ⟨x1,y1,h1,hf⟩:=dN hf; refine Rr 2 [0] Z Z (CL Z (AC.one 2 Z (eB _ _ _ h1 ⟨_,Z,(J 0 Z (C hf Z (fun h2 hf=>?_) fun h2 hf=>?_))⟩)))
 · cases hf; exact Wx 2 [0,1] rfl rfl ⟨rfl,_,⟨_,_,rfl,⟨_,_,1,_,_,rfl,rfl,iL,rfl⟩,rfl⟩,_,(.cons _ (.cons _ (.cons_cons _ (List.nil_sublist _)))),h⟩
 refine V 0 Z (AW.row 10 111 (AW.row 1 9 (AW.settle [0,2,3] Z (AW.yE 2 [false,false,false,false,false,false,true,true] Z (LK4 (fun cK v1 v2 y2=>[(0,pP p1),(2,pP b2),(3,pP b3)]) (fun cK v1 v2 y2=>[.row v2 (List.map oh cK.keys).length 1 9,.row v1 (aj.dV cK.args).length 10 111,.box b3 [iP cK.kind,.str cK.name,iP cK.value.kind,.bool cK.value.lJ,iP cK.value.mG,.str cK.value.nu,.list (av.dV cK.value.dW),sP cK.value.keys,.own v1 (aj.dV cK.args),.own v2 (List.map oh cK.keys)],.box b2 [iP 0,.str ([]:Str),iP 0,.bool false,iP 0,.str ([]:Str),.own (.slice none 0 0) [],.own (.slice none 0 0) [],.own (.slice none 0 0) [],.own (.slice none 0 0) []],.box p1 (aS y2)]) (fun dw cK v1 v2 y2=>iB aD dw cK y2=some (rX,mU)) BIG (aj.mk 10 ([]:Str) (av.mk 0 false 0 ([]:Str) [] []) [] []) (.slice none 0 0) (.slice none 0 0) y1 Z Z hf (fun _ _ _ _ hz=>bQ hz) ?_))))); intro dw cK v1 v2 y2 hf; rw [iB] at hf; rcases dR hf with ⟨e1,y4,h3,hf⟩ | ⟨x2,y3,h3,hf⟩
 · refine W 1 Z (CL Z (AC.one 4 Z (iR _ _ h3 ⟨_,Z,?_⟩))); cases hf; exact ⟨rfl,_,(.cons _ (.cons _ (.cons _ (.cons _ (.cons_cons _ (List.nil_sublist _)))))),h⟩
 refine W 1 Z (CL Z (AC.one 4 Z (iR _ _ h3 ⟨_,Z,(AS Z (AO.aQ Z nZ (fun b4=>(Rr 5 [0,0] Z Z (AR.and 4 14 18 [0,2,3,4] (x:=(x2.kind != 3)) Z Z (fun h4=>?_) (fun h4=>?_) ?_)))))⟩)))
 · refine Is 14 h4 Z (U 1 Z (GO Z (AO.eP (i:=0) Z Z Z Kg Z Z ?_))); exact eD 2 Z (En [18,0,2,3,4] Z)
 · refine Is 14 h4 Z ?_; exact eD 4 Z (En [18,0,2,3,4] Z)
 refine J 0 Z (C hf Z (fun h5 hf=>?_) fun h5 hf=>?_)
 ·
  rcases dR hf with ⟨e2,y6,h6,hf⟩ | ⟨_,y5,h6,hf⟩
  · refine W 1 Z (CL Z (AC.one 5 Z (eO _ _ _ h6 ⟨_,Z,?_⟩))); cases hf; exact ⟨rfl,_,(.cons _ (.cons _ (.cons _ (.cons _ (.cons _ (.cons_cons _ (List.nil_sublist _))))))),h⟩
  refine W 1 Z (CL Z (AC.one 5 Z (eO _ _ _ h6 ⟨_,Z,?_⟩))); rcases dR hf with ⟨e3,y8,h7,hf⟩ | ⟨_,y7,h7,hf⟩
  · refine Rr 9 [5,5] Z Z (CL Z (AC.one 5 Z (dL _ _ _ h7 ⟨_,Z,?_⟩))); cases hf; exact ⟨rfl,_,(.cons _ (.cons _ (.cons _ (.cons _ (.cons _ (.cons_cons _ (List.nil_sublist _))))))),h⟩
  refine Rr 9 [5,5] Z Z (CL Z (AC.one 5 Z (dL _ _ _ h7 ⟨_,Z,(Rr 4 [3,0] Z Z (AS Z (AO.bS (List.map oh ([x2.text]:List Str)) Z IJ Z Z Z Z ?_)))⟩))); refine B1 hf fun x3 h8 hf=>AS Z (AO.iJ (i:=1) (l:=cK.keys) (m:=([x2.text]:List Str)) h8 Z Z Z Z Z Z Z IJ gX Z Z Z (fun _=>Z) (fun _=>Z) (by decide) (fun v3 s1 hs1=>?_)); cases hs1; refine Rw 2 [3] Z Z (AW.Gp 0 3 5 5 mixed (by kernel_rfl) (by kernel_rfl) (by kernel_rfl) Z Z Z Z ?_); refine Ev.nil ?_; show Ev _ _ _ _ _ _ _; refine Ev.cs dh 1 Z (Ev.cons Z Z Z (AO.eP (i:=3) Z Z Z WQ Z Z zg) (Ev.cs dh 1 Z (Ev.nil ?_))); rcases dR hf with ⟨e4,YG,h9,hf⟩ | ⟨x4,y9,h9,hf⟩
  · refine TF.step Z Z Z (AO.call Z _ Z Z Hq (AC.one 0 Z (bH _ _ h9 ⟨_,Z,?_⟩))); cases hf; exact ⟨rfl,_,(.cons _ (.cons _ (.cons _ (.cons _ (.cons _ (.cons_cons _ (List.nil_sublist _))))))),h⟩
  refine TF.step rfl rfl rfl (AO.call rfl _ rfl rfl Hq (AC.one 0 rfl (bH _ _ h9 ⟨_,rfl,(TF.step rfl rfl rfl (AO.bS (aj.dV [x4]) rfl om rfl rfl rfl (by first | rfl | simp only [List.map,aj.aT,aj.dV]) ?_))⟩))); refine TF.nil ?_; show AR _ _ _ _ _ _ _ _
  refine B1 hf fun x5 h10 hf=>AS Z (AO.iJ (i:=2) (l:=cK.args) (m:=[x4]) h10 Z Z Z Z Z Z Z om jL (aj.bM _) (aj.bM _) (aj.bM _).symm (aj.dU) (aj.cells_one) (by decide) (fun v4 s2 hs2=>?_)); cases hs2; obtain ⟨x6,Yz,h11,hf⟩:=dN hf; refine Rr 3 [3] Z Z (CL Z (AC.one 5 Z (eB _ _ _ h11 ⟨_,Z,(J 1 Z (C hf Z (fun h12 hf=>?_) fun h12 hf=>?_))⟩)))
  ·
   rcases dR hf with ⟨e5,y13,kY,hf⟩ | ⟨_,YF,kY,hf⟩
   · refine W 1 Z (CL Z (AC.one 5 Z (dL _ _ _ kY ⟨_,Z,?_⟩))); cases hf; exact ⟨rfl,_,(.cons _ (.cons _ (.cons _ (.cons _ (.cons _ (.cons_cons _ (List.nil_sublist _))))))),h⟩
   refine W 1 Z (CL Z (AC.one 5 Z (dL _ _ _ kY ⟨_,Z,?_⟩))); cases hf; exact Rx 2 [3,4] rfl rfl ⟨rfl,_,⟨_,_,rfl,⟨_,_,4,_,_,rfl,rfl,iL,rfl⟩,rfl⟩,_,(.cons _ (.cons _ (.cons _ (.cons _ (.cons _ (.cons_cons _ (List.nil_sublist _))))))),h⟩
  refine AW.drop1 ?_; exact M 0 Z ⟨(aj.mk cK.kind cK.name cK.value x5 x3),v4,v3,Yz,Z,Z,Z,hf⟩
 rcases dR hf with ⟨e6,y15,lu,hf⟩ | ⟨_,y14,lu,hf⟩
 · refine Wr 9 [5,5] Z Z (CL Z (AC.one 5 Z (dL _ _ _ lu ⟨_,Z,?_⟩))); cases hf; exact ⟨rfl,_,(.cons _ (.cons _ (.cons _ (.cons _ (.cons _ (.cons_cons _ (List.nil_sublist _))))))),h⟩
 refine Wr 9 [5,5] Z Z (CL Z (AC.one 5 Z (dL _ _ _ lu ⟨_,Z,(Rr 4 [3,0] Z Z (AS Z (AO.bS (List.map oh ([x2.text]:List Str)) Z IJ Z Z Z Z ?_)))⟩))); refine B1 hf fun x7 pK hf=>AS Z (AO.iJ (i:=1) (l:=cK.keys) (m:=([x2.text]:List Str)) pK Z Z Z Z Z Z Z IJ gX Z Z Z (fun _=>Z) (fun _=>Z) (by decide) (fun v5 s3 hs3=>?_)); cases hs3; refine Rw 2 [3] Z Z (AW.Gp 0 3 5 5 mixed (by kernel_rfl) (by kernel_rfl) (by kernel_rfl) Z Z Z Z ?_); refine Ev.nil ?_; show Ev _ _ _ _ _ _ _; refine Ev.cs dh 1 Z (Ev.cons Z Z Z (AO.eP (i:=3) Z Z Z WQ Z Z zg) (Ev.cs dh 1 Z (Ev.nil ?_))); rcases dR hf with ⟨e7,y17,h16,hf⟩ | ⟨x8,y16,h16,hf⟩
 · refine TF.step Z Z Z (AO.call Z _ Z Z Hq (AC.one 0 Z (bH _ _ h16 ⟨_,Z,?_⟩))); cases hf; exact ⟨rfl,_,(.cons _ (.cons _ (.cons _ (.cons _ (.cons _ (.cons_cons _ (List.nil_sublist _))))))),h⟩
 refine TF.step rfl rfl rfl (AO.call rfl _ rfl rfl Hq (AC.one 0 rfl (bH _ _ h16 ⟨_,rfl,(TF.step rfl rfl rfl (AO.bS (aj.dV [x8]) rfl om rfl rfl rfl (by first | rfl | simp only [List.map,aj.aT,aj.dV]) ?_))⟩))); refine TF.nil ?_; show AR _ _ _ _ _ _ _ _
 refine B1 hf fun x9 wV hf=>AS Z (AO.iJ (i:=2) (l:=cK.args) (m:=[x8]) wV Z Z Z Z Z Z Z om jL (aj.bM _) (aj.bM _) (aj.bM _).symm (aj.dU) (aj.cells_one) (by decide) (fun v6 s4 hs4=>?_)); cases hs4; obtain ⟨JX,y18,h18,hf⟩:=dN hf; refine Rr 3 [3] Z Z (CL Z (AC.one 5 Z (eB _ _ _ h18 ⟨_,Z,(J 1 Z (C hf Z (fun h19 hf=>?_) fun h19 hf=>?_))⟩)))
 ·
  rcases dR hf with ⟨e8,y20,h20,hf⟩ | ⟨_,y19,h20,hf⟩
  · refine W 1 Z (CL Z (AC.one 5 Z (dL _ _ _ h20 ⟨_,Z,?_⟩))); cases hf; exact ⟨rfl,_,(.cons _ (.cons _ (.cons _ (.cons _ (.cons _ (.cons_cons _ (List.nil_sublist _))))))),h⟩
  refine W 1 Z (CL Z (AC.one 5 Z (dL _ _ _ h20 ⟨_,Z,?_⟩))); cases hf; exact Rx 2 [3,4] rfl rfl ⟨rfl,_,⟨_,_,rfl,⟨_,_,4,_,_,rfl,rfl,iL,rfl⟩,rfl⟩,_,(.cons _ (.cons _ (.cons _ (.cons _ (.cons _ (.cons_cons _ (List.nil_sublist _))))))),h⟩
 refine AW.drop1 ?_; exact M 0 Z ⟨(aj.mk cK.kind cK.name cK.value x9 x7),v6,v5,y18,Z,Z,Z,hf⟩
theorem gu :∀ k:Nat,(fE (aM k))∧(fD (aU k))∧(gQ (bN k))∧(gT (bU k))∧(iw (cu k))∧(iq (cO k))∧(iy (bR k))∧(fU (bK k)):=by
 intro k
 induction k with
 | zero=>exact ⟨fun _ _ _ _ hz=>by first | cases hz | (unfold aM at hz; cases hz),fun _ _ _ _ _ hz=>by first | cases hz | (unfold aU at hz; cases hz),fun _ _ _ _ hz=>by first | cases hz | (unfold bN at hz; cases hz),fun _ _ _ _ hz=>by first | cases hz | (unfold bU at hz; cases hz),fun _ _ _ _ hz=>by first | cases hz | (unfold cu at hz; cases hz),fun _ _ _ _ _ hz=>by first | cases hz | (unfold cO at hz; cases hz),fun _ _ _ _ _ hz=>by first | cases hz | (unfold bR at hz; cases hz),fun _ _ _ _ hz=>by first | cases hz | (unfold bK at hz; cases hz)⟩
 | succ k ih=>exact ⟨fun n_ fZ gU iK hz  Q hq=>zu (aM k) ih.1 (aU k) ih.2.1 (bN k) ih.2.2.1 (bU k) ih.2.2.2.1 (cu k) ih.2.2.2.2.1 (cO k) ih.2.2.2.2.2.1 (bR k) ih.2.2.2.2.2.2.1 (bK k) ih.2.2.2.2.2.2.2 n_ fZ hz hq,fun n_ fZ V4 gU iK hz  Q hq=>zq (aM k) ih.1 (aU k) ih.2.1 (bN k) ih.2.2.1 (bU k) ih.2.2.2.1 (cu k) ih.2.2.2.2.1 (cO k) ih.2.2.2.2.2.1 (bR k) ih.2.2.2.2.2.2.1 (bK k) ih.2.2.2.2.2.2.2 n_ fZ V4 hz hq,fun n_ fZ gU iK hz  Q hq=>CO (aM k) ih.1 (aU k) ih.2.1 (bN k) ih.2.2.1 (bU k) ih.2.2.2.1 (cu k) ih.2.2.2.2.1 (cO k) ih.2.2.2.2.2.1 (bR k) ih.2.2.2.2.2.2.1 (bK k) ih.2.2.2.2.2.2.2 n_ fZ hz hq,fun n_ fZ gU iK hz  Q hq=>CP (aM k) ih.1 (aU k) ih.2.1 (bN k) ih.2.2.1 (bU k) ih.2.2.2.1 (cu k) ih.2.2.2.2.1 (cO k) ih.2.2.2.2.2.1 (bR k) ih.2.2.2.2.2.2.1 (bK k) ih.2.2.2.2.2.2.2 n_ fZ hz hq,fun n_ fZ gU iK hz  Q hq=>CY (aM k) ih.1 (aU k) ih.2.1 (bN k) ih.2.2.1 (bU k) ih.2.2.2.1 (cu k) ih.2.2.2.2.1 (cO k) ih.2.2.2.2.2.1 (bR k) ih.2.2.2.2.2.2.1 (bK k) ih.2.2.2.2.2.2.2 n_ fZ hz hq,fun n_ fZ Jh gU iK hz  Q hq=>CX (aM k) ih.1 (aU k) ih.2.1 (bN k) ih.2.2.1 (bU k) ih.2.2.2.1 (cu k) ih.2.2.2.2.1 (cO k) ih.2.2.2.2.2.1 (bR k) ih.2.2.2.2.2.2.1 (bK k) ih.2.2.2.2.2.2.2 n_ fZ Jh hz hq,fun n_ fZ Cr gU iK hz  Q hq=>CZ (aM k) ih.1 (aU k) ih.2.1 (bN k) ih.2.2.1 (bU k) ih.2.2.2.1 (cu k) ih.2.2.2.2.1 (cO k) ih.2.2.2.2.2.1 (bR k) ih.2.2.2.2.2.2.1 (bK k) ih.2.2.2.2.2.2.2 n_ fZ Cr hz hq,fun n_ fZ gU iK hz  Q hq=>Ap (aM k) ih.1 (aU k) ih.2.1 (bN k) ih.2.2.1 (bU k) ih.2.2.2.1 (cu k) ih.2.2.2.2.1 (cO k) ih.2.2.2.2.2.1 (bR k) ih.2.2.2.2.2.2.1 (bK k) ih.2.2.2.2.2.2.2 n_ fZ hz hq⟩
theorem rU (n_:Nat) (fZ:ah) {gU:iG ay aj} {iK:ah} (hf:oI fZ=some (gU,iK)) {Q:fq→List bn→Prop} (h:Q (mW gU) [.box n_ (aS iK)]):PC 145 [pP n_] [.box n_ (aS fZ)] Q:=
 ((gu BIG).1) n_ fZ hf h
theorem Mj (n_:Nat) (fZ:ah) (V4:Int) {gU:iG ay aj} {iK:ah} (hf:Ba fZ V4=some (gU,iK)) {Q:fq→List bn→Prop} (h:Q (mV gU) [.box n_ (aS iK)]):PC 184 [pP n_,iP V4] [.box n_ (aS fZ)] Q:=
 ((gu BIG).2.1) n_ fZ V4 hf h
theorem PD (n_:Nat) (fZ:ah) {gU:iG ay aj} {iK:ah} (hf:Es fZ=some (gU,iK)) {Q:fq→List bn→Prop} (h:Q (qy gU) [.box n_ (aS iK)]):PC 230 [pP n_] [.box n_ (aS fZ)] Q:=
 ((gu BIG).2.2.1) n_ fZ hf h
theorem PE (n_:Nat) (fZ:ah) {gU:iG ay aj} {iK:ah} (hf:Et fZ=some (gU,iK)) {Q:fq→List bn→Prop} (h:Q (qz gU) [.box n_ (aS iK)]):PC 267 [pP n_] [.box n_ (aS fZ)] Q:=
 ((gu BIG).2.2.2.1) n_ fZ hf h
theorem RH (n_:Nat) (fZ:ah) {gU:iG ay aj} {iK:ah} (hf:EY fZ=some (gU,iK)) {Q:fq→List bn→Prop} (h:Q (qF gU) [.box n_ (aS iK)]):PC 307 [pP n_] [.box n_ (aS fZ)] Q:=
 ((gu BIG).2.2.2.2.1) n_ fZ hf h
theorem RG (n_:Nat) (fZ:ah) (Jh:Str) {gU:iG ay aj} {iK:ah} (hf:EX fZ Jh=some (gU,iK)) {Q:fq→List bn→Prop} (h:Q (qE gU) [.box n_ (aS iK)]):PC 341 [pP n_,.str Jh] [.box n_ (aS fZ)] Q:=
 ((gu BIG).2.2.2.2.2.1) n_ fZ Jh hf h
theorem RI (n_:Nat) (fZ:ah) (Cr:Str) {gU:iG ay (List aj)} {iK:ah} (hf:EZ fZ Cr=some (gU,iK)) {Q:fq→List bn→Prop} (h:Q (qG gU) [.box n_ (aS iK)]):PC 342 [pP n_,.str Cr] [.box n_ (aS fZ)] Q:=
 ((gu BIG).2.2.2.2.2.2.1) n_ fZ Cr hf h
theorem NU (n_:Nat) (fZ:ah) {gU:iG ay aj} {iK:ah} (hf:CQ fZ=some (gU,iK)) {Q:fq→List bn→Prop} (h:Q (oF gU) [.box n_ (aS iK)]):PC 343 [pP n_] [.box n_ (aS fZ)] Q:=
 ((gu BIG).2.2.2.2.2.2.2) n_ fZ hf h
end
section
variable [Jy]
theorem MS (iO:List au) {r0:aj} {r1 r2:Int} (hf:zN iO=some (r0,r1,r2)) (h:Q (.ret (.tuple [.agg (cB r0),iP r1,iP r2])) τ):PC 112 [.list (List.map au.cells iO)] τ Q:=by
 unfold zN at hf; refine AC.none (AC.IU 17 [.cell 2 111,.cell 3 3,.cell 4 30] [0] [0,1,2] Tryz.func112 Z Z Z Z Z Tryz.func144 Z Z Z Z Z Z Z aa4 (AW.sr (AR.step Z Z Z (AO.aQ Z fF (fun b2=>?_))))); refine AR.step Z Z Z (AO.aQ Z adL (fun b3=>(AR.step Z Z Z (AO.aQ Z Wj (fun b4=>(AR.nil [0,2,3,4] Z (AW.sr ?_))))))); refine cs 1 Z (AR.step Z Z Z (AO.build Z aal YX Z (AR.step Z Z Z (AO.Zw Z Z (fun b8=>(cs 1 Z ?_)))))); refine AR.nil [2,3,4,5] Z (AW.sr (cs 1 Z (AR.defer (vs:=[.pointer (some ⟨b2,0,none⟩),.pointer (some ⟨b3,0,none⟩),.pointer (some ⟨b4,0,none⟩)]) Z Z Z Z Z Z ?_))); refine AR.nil [2,3,4,5] Z (AW.sr (cs 1 Z ?_)); rcases dR hf with ⟨f1,s1,h1,hf⟩ | ⟨e1,s1,h1,hf⟩
 ·
  refine AR.step Z Z Z (AO.call Z _ Z Z Hq (AC.one 0 Z (rU _ _ h1 ⟨_,Z,?_⟩))); cases hf; refine ⟨[.pointer (some ⟨b2,0,none⟩),.pointer (some ⟨b3,0,none⟩),.pointer (some ⟨b4,0,none⟩)],_,Z,Z,Z,(AR.step Z Z Z (AO.T_ Z Z YT (cs 3 Z (AR.step Z Z Z (AO.aQ Z Wn (fun b5=>?_))))))⟩; refine AR.dF Z Z (AO.fB (i:=0) Z Z Z WO Z Z Z Z Z (cs 1 Z (AR.nil [0,1,2,3,4] Z (AW.sr ?_)))); refine cs 1 Z (AR.nil [0,1,2,3,10] Z (AW.cond Z (fun _=>?_) (fun hh=>by cases hh))); refine AW.UA 1 5 7 [_] [_,_,_,_] mixed (by kernel_rfl) (by kernel_rfl) (by kernel_rfl) Z Z Z (List.Perm.refl _) ?_; refine Ev.cons Z Z Z (AO.build Z fF BG Z zg) (Ev.nil ?_); show Ev _ _ _ _ _ _ _; refine Ev.cs dh 1 Z (Ev.cons Z Z Z (AO.eP (i:=0) Z Z Z Kg Z Z zg) (Ev.cs dh 1 Z (Ev.cons Z Z Z (AO.eP (i:=0) Z Z Z zA Z Z zg) ?_))); refine Ev.nil (TF.dF Z Z (AO.fB (i:=3) Z Z Z iL Z Z Z Z Z (TF.dF Z Z (AO.fB (i:=2) Z Z Z Kg Z Z Z Z Z (TF.nil ?_))))); show AR _ _ _ _ _ _ _ _; refine AR.dF Z Z (AO.fB (i:=2) Z Z Z zA Z Z Z Z Z (AR.nil [] Z ?_)); exact ⟨rfl,_,⟨_,_,rfl,⟨_,_,4,_,_,rfl,rfl,iL,rfl⟩,⟨_,_,rfl,⟨_,_,3,_,_,rfl,rfl,Kg,rfl⟩,⟨_,_,rfl,⟨_,_,2,_,_,rfl,rfl,zA,rfl⟩,rfl⟩⟩⟩,[],List.nil_sublist _,h⟩
 refine AR.step Z Z Z (AO.call Z _ Z Z Hq (AC.one 0 Z (rU _ _ h1 ⟨_,Z,?_⟩))); cases hf; refine AR.dF Z Z (AO.fB (i:=3) Z Z Z iL Z Z Z Z Z (AR.nil [2,3,4,5] Z (AW.seq (AW.Gp 1 5 6 3 mixed (by kernel_rfl) (by kernel_rfl) (by kernel_rfl) Z Z Z Z ?_)))); refine Ev.cons Z Z Z (AO.eP (i:=3) Z Z Z iL Z Z zg) (Ev.nil ?_); show Ev _ _ _ _ _ _ _; refine Ev.cs dh 3 Z (Ev.cons Z Z Z (AO.eP (i:=0) Z Z Z Kg Z Z zg) (Ev.nil (TF.dF Z Z (AO.fB (i:=0) Z Z Z iL Z Z Z Z Z ?_)))); refine TF.nil ?_; show AR _ _ _ _ _ _ _ _; refine AR.dF Z Z (AO.fB (i:=2) Z Z Z Kg Z Z Z Z Z (AR.dF Z Z (AO.fB (i:=1) Z Z Z zA Z Z Z Z Z (AR.nil [2,3,4] Z (AW.ret ?_))))); refine ⟨[.pointer (some ⟨b2,0,none⟩),.pointer (some ⟨b3,0,none⟩),.pointer (some ⟨b4,0,none⟩)],_,Z,Z,Z,(AR.step Z Z Z (AO.Qe (p:=.agg [iP 0,iP 0]) Z Z YV (fun _ _=>by simp only [dO]; exact ⟨[.int .i64 0,.int .i64 0],Z,bD.cons (by simp [dO]) (bD.cons (by simp [dO]) bD.nil)⟩) ?_))⟩; refine cs 3 Z (AR.step Z Z Z (AO.aQ Z Wn (fun b5=>(AR.dF Z Z (AO.fB (i:=0) Z Z Z WO Z Z Z Z Z (cs 1 Z ?_)))))); refine AR.nil [4] Z (AW.sr (cs 1 Z (AR.nil [10] Z ?_))); refine AW.cond Z (fun hh=>by cases hh) (fun _=>?_); refine AW.skip ?_; exact ⟨rfl,_,⟨_,_,rfl,⟨_,_,4,_,_,rfl,rfl,iL,rfl⟩,⟨_,_,rfl,⟨_,_,3,_,_,rfl,rfl,Kg,rfl⟩,⟨_,_,rfl,⟨_,_,2,_,_,rfl,rfl,zA,rfl⟩,rfl⟩⟩⟩,[],List.nil_sublist _,h⟩
end
abbrev D8 (jr:aj→Option Int):Prop:=∀ (sU:aj) {bY:Int},jr sU=some bY→∀ {τ:List bn} {Q:fq→List bn→Prop} (h:Q (.ret (iP bY)) τ),PC 121 [.agg (cB sU)] τ Q
theorem Ka (jr) (Hz:D8 jr) (e1:aj) {r0:Int} (hf:uL jr e1=some r0) (h:Q (.ret (iP r0)) τ):PC 121 [.agg (cB e1)] τ Q:=by
 unfold uL at hf; refine BN 19 [.tmp 2] [0] Tryz.func121 Z Z Z Z Z (W 5 Z (AS Z (AO.aV (l:=e1.args) Z Z Z Z jL Z (aj.bM _) (J 1 Z (JQ (fun n1 x1=>[(3,iP n1),(7,.list (aj.dV e1.args)),(8,iP (e1.args.length:Int)),(9,iP x1)]) (fun n1 x1=>[]) (fun dw n1 x1=>qb jr e1 dw n1 x1=some r0) BIG 1 0 Z Z hf (fun _ _ hz=>bQ hz) ?_))))); intro dw n1 x1 hf; rw [qb] at hf; refine V 1 Z (C hf Z (fun h1 hf=>?_) fun h1 hf=>?_)
 · refine B1 hf fun e2 h2 hf=>W 0 Z (AS Z (AO.cZ h2 Z Z (aj.bM _) Z jL (aj.aT _) Z (U 1 Z (AS Z (AO.aQ Z fF (fun b5=>?_)))))); refine B1 hf fun x2 h3 hf=>Rr 3 [0,0] Z Z (CL Z (Hz _ h3 (eD 4 Z (AR.drop1 ?_)))); exact N 0 Z ⟨(bI (n1 + x2)),(bI (x1 + 1)),Z,Z,Z,hf⟩
 cases hf; exact M 2 Z (Y Z h)
theorem KQ :∀ k:Nat,(D8 (j6 k)):=by
 intro k
 induction k with
 | zero=>exact fun _ _ hz=>by first | cases hz | (unfold j6 at hz; cases hz)
 | succ k ih=>exact fun sU bY hz τ Q hq=>Ka (j6 k) ih sU hz hq
theorem LW (sU:aj) {bY:Int} (hf:xQ sU=some bY) (h:Q (.ret (iP bY)) τ):PC 121 [.agg (cB sU)] τ Q:=
 ((KQ BIG)) sU hf h
theorem MQ (v1:av) {r0:Bool} (hf:zM v1=some r0) (h:Q (.ret (.bool r0)) τ):PC 192 [.agg (dB v1)] τ Q:=by
 unfold zM at hf; refine BN 33 [.tmp 2] [0] Tryz.func192 Z Z Z Z Z (W 6 Z (An 4 6 10 [1] (!v1.lJ) Z Z Z Z (U 1 Z (An 4 11 15 [1] (v1.mG == 0) Z Z Z Z (U 1 Z (An 4 16 20 [1] (v1.nu == ([]:Str)) Z Z Z Z ?_)))))); refine U 1 Z (AR.and 5 21 26 [1] (x:=((v1.dW.length:Int) == 0)) Z Z (fun h4=>?_) (fun h4=>?_) ?_)
 · refine Is 21 h4 Z (U 2 Z (GO Z (AO.aV (l:=v1.dW) Z Z Z Z qV Z (av.bM _) ?_))); exact eD 2 Z (En [26,1] Z)
 · refine Is 21 h4 Z ?_; exact eD 5 Z (En [26,1] Z)
 refine U 1 Z (AR.and 5 27 32 [] (x:=((v1.keys.length:Int) == 0)) Z Z (fun h5=>?_) (fun h5=>?_) ?_)
 · refine Is 27 h5 Z (U 2 Z (GO Z (AO.aV (l:=v1.keys) Z Z Z Z gX Z Z ?_))); exact eD 2 Z (En [32] Z)
 · refine Is 27 h5 Z ?_; exact eD 5 Z (En [32] Z)
 cases hf; exact N 1 Z (Y Z h)
theorem yY (s1:Str) {r0:Bool} (hf:lW s1=some r0) (h:Q (.ret (.bool r0)) τ):PC 238 [.str s1] τ Q:=by
 unfold lW at hf; refine BN 10 [.tmp 2] [0] Tryz.func238 Z Z Z Z Z ?_; refine B1 hf fun x1 h1 hf=>W 2 Z (CL Z (EJ _ h1 ?_)); refine BR hf fun b1 h3 hf=>?_; refine U 1 Z (AR.dS 4 5 9 true [] b1 Z Z (fun h2=>?_) (fun h2=>?_) ?_)
 · refine IT 5 h2 h3 Z fun h3=>?_; refine B1 h3 fun x2 h4 h3=>U 1 Z (GO Z (AO.call Z _ Z Z Xf (Ak _ h4 ?_))); cases h3; exact eD 2 Z (En [9] Z)
 · refine IF 5 h2 h3 Z fun h3=>?_; cases h3; exact eD 4 Z (En [9] Z)
 cases hf; exact N 1 Z (Y Z h)
theorem LP (e1:aj) {r0:Bool} (hf:uH e1=some r0) (h:Q (.ret (.bool r0)) τ):PC 193 [.agg (cB e1)] τ Q:=by
 unfold uH at hf; refine BN 31 [.tmp 2] [0] Tryz.func193 Z Z Z Z Z (V 6 Z (C hf Z (fun h1 hf=>?_) fun h1 hf=>?_))
 ·
  refine V 0 Z (AW.cond Z (fun h2=>?_) (fun h2=>?_))
  · refine BR hf fun x1 h3 hf=>?_; refine W 2 Z (CL Z (yY _ h3 ?_)); cases hf; exact N 1 Z (Y Z h)
  cases h1.symm.trans h2
 refine V 2 Z (C hf Z (fun h4 hf=>?_) fun h4 hf=>?_)
 ·
  refine V 0 Z (AW.cond Z (fun h5=>?_) (fun h5=>?_))
  · refine BR hf fun x2 h6 hf=>?_; refine W 2 Z (CL Z (yY _ h6 ?_)); cases hf; exact N 1 Z (Y Z h)
  cases h4.symm.trans h5
 refine V 2 Z (C hf Z (fun h7 hf=>?_) fun h7 hf=>?_)
 · refine BR hf fun x3 h8 hf=>?_; refine W 2 Z (CL Z (yY _ h8 ?_)); cases hf; exact N 1 Z (Y Z h)
 refine V 2 Z (C hf Z (fun h9 hf=>?_) fun h9 hf=>?_)
 · refine W 4 Z (On 4 17 21 [] (e1.name == ([45]:Str)) Z Z Z Z ?_); cases hf; exact N 1 Z (Y Z h)
 refine V 2 Z (C hf Z (fun h11 hf=>?_) fun h11 hf=>?_)
 · refine B1 hf fun x4 h12 hf=>W 2 Z (CL Z (zV _ h12 ?_)); cases hf; exact N 2 Z (Y Z h)
 cases hf; exact M 4 Z (Y Z h)
theorem LU (e1:aj) {r0:Bool} (hf:uJ e1=some r0) (h:Q (.ret (.bool r0)) τ):PC 194 [.agg (cB e1)] τ Q:=by
 unfold uJ at hf; refine BN 32 [.tmp 2] [0] Tryz.func194 Z Z Z Z Z (V 6 Z (C hf Z (fun h1 hf=>?_) fun h1 hf=>?_))
 ·
  refine V 0 Z (AW.cond Z (fun h2=>?_) (fun h2=>?_))
  · refine W 2 Z (AS Z (AO.aV (l:=e1.args) Z Z Z Z jL Z (aj.bM _) ?_)); cases hf; exact N 2 Z (Y Z h)
  cases h1.symm.trans h2
 refine V 2 Z (C hf Z (fun h3 hf=>?_) fun h3 hf=>?_)
 · refine W 2 Z (AS Z (AO.aV (l:=e1.args) Z Z Z Z jL Z (aj.bM _) ?_)); cases hf; exact N 2 Z (Y Z h)
 refine V 2 Z (C hf Z (fun h4 hf=>?_) fun h4 hf=>?_)
 ·
  refine V 0 Z (AW.cond Z (fun h5=>?_) (fun h5=>?_))
  · refine W 2 Z (AS Z (AO.aV (l:=e1.args) Z Z Z Z jL Z (aj.bM _) ?_)); cases hf; exact N 2 Z (Y Z h)
  cases h4.symm.trans h5
 refine V 2 Z (C hf Z (fun h6 hf=>?_) fun h6 hf=>?_)
 · refine W 2 Z (AS Z (AO.aV (l:=e1.args) Z Z Z Z jL Z (aj.bM _) ?_)); cases hf; exact N 2 Z (Y Z h)
 refine V 2 Z (C hf Z (fun h7 hf=>?_) fun h7 hf=>?_)
 ·
  refine V 0 Z (AW.cond Z (fun h8=>?_) (fun h8=>?_))
  · refine W 2 Z (AS Z (AO.aV (l:=e1.args) Z Z Z Z jL Z (aj.bM _) ?_)); cases hf; exact N 2 Z (Y Z h)
  cases h7.symm.trans h8
 refine V 2 Z (C hf Z (fun h9 hf=>?_) fun h9 hf=>?_)
 · refine W 2 Z (AS Z (AO.aV (l:=e1.args) Z Z Z Z jL Z (aj.bM _) ?_)); cases hf; exact N 2 Z (Y Z h)
 refine V 2 Z (C hf Z (fun h10 hf=>?_) fun h10 hf=>?_)
 · refine W 2 Z (AS Z (AO.aV (l:=e1.args) Z Z Z Z jL Z (aj.bM _) ?_)); cases hf; exact N 2 Z (Y Z h)
 cases hf; exact M 1 Z (Y Z h)
theorem tJ (s1:List Str) (f1:Str→Option Bool) (O0:FuncId) (Ti:List PV) (f1P:bT Tryz.prog O0=true) (f1H:∀ a0 b0,f1 a0=some b0→∀ {τ:List bn} {Q:fq→List bn→Prop},Q (.ret (.bool b0)) τ→PC O0 ([.str a0] ++ Ti) τ Q) {r0:Int} (hf:je s1 f1=some r0) (h:Q (.ret (iP r0)) τ):PC 273 [sP s1,.fn O0 Ti] τ Q:=by
 unfold je at hf; refine BN 19 [.tmp 4] [0,1] Tryz.func273 Z Z Z Z Z (W 2 Z (AS Z (AO.aV (l:=s1) Z Z Z Z gX Z Z (J 1 Z (CK (fun i1=>[(0,sP s1),(1,.fn O0 Ti),(7,iP (s1.length:Int)),(8,iP i1)]) (fun i1=>[]) (fun dw i1=>gH s1 f1 dw i1=some r0) BIG 0 Z Z hf (fun _ hz=>bQ hz) ?_))))); intro dw i1 hf; rw [gH] at hf; refine V 1 Z (C hf Z (fun h1 hf=>?_) fun h1 hf=>?_)
 ·
  refine B1 hf fun e1 h2 hf=>W 5 Z (AS Z (AO.cZ h2 Z Z Z Z gX Z Z ?_)); refine B1 hf fun x1 h3 hf=>U 1 Z (AS Z (AO.call Z _ Z Z f1P (f1H _ _ h3 (J 0 Z (C hf Z (fun h4 hf=>?_) fun h4 hf=>?_)))))
  · cases hf; exact M 2 Z (Y Z h)
  exact M 2 Z ⟨(bI (i1 + 1)),Z,Z,Z,hf⟩
 cases hf; exact M 1 Z (Y Z h)
theorem rQ (s1:List Str) (f1:Str→Option Bool) (O0:FuncId) (Ti:List PV) (f1P:bT Tryz.prog O0=true) (f1H:∀ a0 b0,f1 a0=some b0→∀ {τ:List bn} {Q:fq→List bn→Prop},Q (.ret (.bool b0)) τ→PC O0 ([.str a0] ++ Ti) τ Q) {r0:Bool} (hf:gI s1 f1=some r0) (h:Q (.ret (.bool r0)) τ):PC 239 [sP s1,.fn O0 Ti] τ Q:=by
 unfold gI at hf; refine BN 9 [.tmp 4] [0,1] Tryz.func239 Z Z Z Z Z ?_; refine B1 hf fun x1 h1 hf=>W 3 Z (CL Z (tJ _ f1 O0 Ti f1P @f1H h1 ?_)); cases hf; exact N 2 Z (Y Z h)
theorem Ie (wm:Str) {r0:Bool} (hf:jK wm=some r0) (h:Q (.ret (.bool r0)) τ):PC 240 [.str wm] τ Q:=by
 unfold jK at hf; refine BN 11 [.tmp 2] [0] Tryz.func240 Z Z Z Z Z (W 2 Z (AS Z (AO.bC Z Z Z Z bL Z (U 2 Z (AR.or 4 6 10 [] (x:=(decide (64 < (wm.length:Int)))) Z Z (fun h1=>?_) (fun h1=>?_) ?_)))))
 · refine Is 6 h1 Z (U 1 Z (GO Z (AO.bC Z Z Z Z bL Z ?_))); exact eD 2 Z (En [10] Z)
 · refine Is 6 h1 Z ?_; exact eD 4 Z (En [10] Z)
 cases hf; exact N 1 Z (Y Z h)
theorem LQ (e1:aj) {r0:Bool} (hf:uI e1=some r0) (h:Q (.ret (.bool r0)) τ):PC 195 [.agg (cB e1)] τ Q:=by
 unfold uI at hf; refine BN 23 [.tmp 2] [0] Tryz.func195 Z Z Z Z Z (V 5 Z (C hf Z (fun h1 hf=>?_) fun h1 hf=>?_))
 · refine W 2 Z (AS Z (AO.aV (l:=e1.keys) Z Z Z Z gX Z Z ?_)); cases hf; exact N 2 Z (Y Z h)
 refine W 2 Z (AS Z (AO.aV (l:=e1.keys) Z Z Z Z gX Z Z (U 2 Z (AS Z (AO.aV (l:=e1.args) Z Z Z Z jL Z (aj.bM _) ?_))))); refine BR hf fun b1 h3 hf=>?_; refine U 2 Z (AR.dS 5 17 22 true [] b1 Z Z (fun h2=>?_) (fun h2=>?_) ?_)
 · refine IT 17 h2 h3 Z fun h3=>?_; refine B1 h3 fun x1 h4 h3=>U 2 Z (GO Z (AO.call Z _ Z Z aaJ (rQ _ jK 240 [] aaI (fun _ _ hz=>Ie _  hz) h4 ?_))); cases h3; exact eD 2 Z (En [22] Z)
 · refine IF 17 h2 h3 Z fun h3=>?_; cases h3; exact eD 5 Z (En [22] Z)
 cases hf; exact N 1 Z (Y Z h)
theorem Oe {β:Type} (l:Nat) (T:β→List bn) (go:β→av→Int→Option (Bool × β))
  (goH:∀ s1 v1 dx b s2,go s1 v1 dx=some (b,s2)→∀ {Q:fq→List bn→Prop},Q (.ret (.bool b)) (T s2)→PC 156 [.agg (dB v1),iP dx,.val (.func (.yield l) #[] #[])] (T s1) Q)
  (y:β→Int→av→Option (Bool × β)) (hy:∀ s1 dx v1 b s2,y s1 dx v1=some (b,s2)→AY Tryz.prog l [iP dx,.agg (dB v1)] (T s1) (fun out σ'=>out=.ret (.bool b)∧σ'=T s2))
  (s1:β) (v1:av) (dx:Int) {b:Bool} {s2:β} (hf:xH go y s1 v1 dx=some (b,s2)) {Q:fq→List bn→Prop} (h:Q (.ret (.bool b)) (T s2)):
  PC 156 [.agg (dB v1),iP dx,.val (.func (.yield l) #[] #[])] (T s1) Q:=by
 unfold xH at hf; refine AC.kH 28 [.tmp 6] [0,1,2] Tryz.func156 Z Z Z Z Z (AW.sr (AR.step Z Z Z (AO.GJ Z Z Z (cs 1 Z ?_)))); refine AR.nil [1,2,3] Z (AW.seq (AW.seq (AW.Ul ?_))); refine Bw.step Z Z Z Z (AO.calc' Z (Bw.step Z Z Z Z (AO.calc' Z (Bw.step Z Z Z Z (AO.Dm Z Z Ar Z ?_))))); obtain ⟨b1,s3,h1,hf⟩:=dN hf; refine Bw.yield Z Z Z Z Z _ Z Z (hy _ _ _ _ _ h1) (Bw.of Z (cs 1 Z (AR.nil [1,2,3,13] Z ?_))); refine AW.cond Z (fun h2=>?_) (fun h2=>?_)
 · replace hf:=j_ h2 hf; refine AW.sr (cs 1 Z (AR.nil [6] Z (AW.ret ?_))); cases hf; exact ⟨rfl,_,⟨_,_,rfl,rfl,rfl⟩,_,List.Sublist.refl _,h⟩
 replace hf:=jG h2 hf; refine AW.skip (AW.seq (AW.sr (cs 2 Z ?_))); refine AR.step Z Z Z (AO.aV (l:=v1.dW) Z Z Z Z qV Z ((av.bM _)) (cs 1 Z (AR.nil [1,2,15,16,17] Z (AW.block ?_)))); refine AW.abp (fun (_:β) i1=>[(1,iP dx),(2,.val (.func (.yield l) #[] #[])),(15,.list (av.dV v1.dW)),(16,iP (v1.dW.length:Int)),(17,iP i1)]) (fun s1 _=>T s1) (fun dw s1 i1=>su go v1 dx dw s1 i1=some (b,s2)) BIG s3 0 Z Z hf (fun _ _ hz=>bQ hz) ?_; intro dw s4 i1 hf; rw [su] at hf; refine AW.sr (cs 1 Z (AR.nil [1,2,15,16,17,18] Z (AW.seq ?_))); refine AW.cond Z (fun h1=>?_) (fun h1=>?_)
 ·
  replace hf:=j_ h1 hf; refine AW.skip (AW.seq (AW.block (AW.sr ?_))); refine B1 hf fun x1 h3 hf=>AR.step Z Z Z (AO.cZ h3 Z Z ((av.bM _)) Z qV ((av.aT _)) Z (cs 1 Z (AR.step Z Z Z (AO.aQ Z xC (fun b8=>(AR.dF Z Z (AO.fB (i:=0) Z Z Z Ar Z Z Z Z Z ?_))))))); refine AR.nil [1,2,8,15,16,17] Z (AW.sr (AR.step Z Z Z (AO.eP (i:=0) Z Z Z Ar Z Z (cs 3 Z ?_)))); obtain ⟨b2,s5,h4,hf⟩:=dN hf; refine AR.drop1 (AR.step Z Z Z (AO.call Z _ Z Z aa2 (goH _ _ _ _ _ h4 (cs 1 Z (AR.nil [1,2,15,16,17,26] Z ?_))))); refine AW.cond Z (fun h5=>?_) (fun h5=>?_)
  · replace hf:=j_ h5 hf; refine AW.sr (cs 1 Z (AR.nil [6] Z (AW.ret ?_))); cases hf; exact ⟨rfl,_,⟨_,_,rfl,rfl,rfl⟩,_,List.Sublist.refl _,h⟩
  replace hf:=jG h5 hf; refine AW.skip (AW.region (cs 2 Z (AR.nil [1,2,15,16,17] Z ?_))); exact ⟨s5,(bI (i1 + 1)),Z,Z,Z,hf⟩
 replace hf:=jG h1 hf; refine AW.exit (AW.sr (cs 1 Z (AR.nil [6] Z ?_))); refine AW.ret ?_; cases hf; exact ⟨rfl,_,⟨_,_,rfl,rfl,rfl⟩,_,List.Sublist.refl _,h⟩
theorem F7 {β:Type} (l:Nat) (T:β→List bn) (y:β→Int→av→Option (Bool × β)) (hy:∀ s1 dx v1 b s2,y s1 dx v1=some (b,s2)→AY Tryz.prog l [iP dx,.agg (dB v1)] (T s1) (fun out σ'=>out=.ret (.bool b)∧σ'=T s2)):
  ∀ (k:Nat) (s1:β) (v1:av) (dx:Int) (b:Bool) (s2:β),nk y k s1 v1 dx=some (b,s2)→∀ {Q:fq→List bn→Prop},Q (.ret (.bool b)) (T s2)→PC 156 [.agg (dB v1),iP dx,.val (.func (.yield l) #[] #[])] (T s1) Q
 | 0,_,_,_,_,_,hz=>by cases hz
 | k + 1,s1,v1,dx,b,s2,hz=>fun h=>Oe l T (nk y k) (fun s1 v1 dx b s2 hz=>F7 l T y hy k s1 v1 dx b s2 hz) y hy s1 v1 dx hz h
theorem Jm {β:Type} (l:Nat) (T:β→List bn) (y:β→Int→av→Option (Bool × β)) (hy:∀ s1 dx v1 b s2,y s1 dx v1=some (b,s2)→AY Tryz.prog l [iP dx,.agg (dB v1)] (T s1) (fun out σ'=>out=.ret (.bool b)∧σ'=T s2))
    (s1:β) (v1:av) (dx:Int) {b:Bool} {s2:β} (hf:EP y s1 v1 dx=some (b,s2)) {Q:fq→List bn→Prop} (h:Q (.ret (.tuple [])) (T s2)):
    PC 155 [.val (.func (.yield l) #[] #[]),.ref (dB v1),.ref [iP dx]] (T s1) Q:=by
 refine BD 8 [] [0,1,2] Tryz.func155 Z Z Z Z Z (W 3 Z (CL Z (F7 l T y hy BIG _ _ _ _ _ hf ?_))); exact N 0 rfl ⟨rfl,_,rfl,_,List.Sublist.refl _,h⟩
theorem MJ (v1:av) (dx:Int) (h:Q (.ret (.fn 155 [.ref (dB v1),.ref [iP dx]])) τ):PC 123 [.agg (dB v1),iP dx] τ Q:=by
 refine BN 6 [.tmp 4] [0,1] Tryz.func123 Z Z Z Z Z ?_; exact M 5 Z (Y Z h)
theorem LC (v1:av) {r0:Bool} (hf:xI v1=some r0) (h:Q (.ret (.bool r0)) τ):PC 157 [.agg (dB v1)] τ Q:=by
 unfold xI at hf; refine BN 58 [.tmp 2] [0] Tryz.func157 Z Z Z Z Z (W 6 Z (On 4 6 10 [1] (!v1.lJ) Z Z Z Z (U 1 Z (AR.and 9 11 20 [1] (x:=((v1.kind == 2) || (v1.mG == 0))) Z Z (fun h2=>?_) (fun h2=>?_) ?_))))
 · refine Is 11 h2 Z (U 4 Z (On 4 15 19 [1,11] (v1.mG == 0) Z Z Z Z ?_)); exact eD 1 Z (En [20,1] Z)
 · refine Is 11 h2 Z ?_; exact eD 9 Z (En [20,1] Z)
 refine U 1 Z (AR.and 9 21 30 [1] (x:=((v1.kind == 3) || (v1.nu == ([]:Str)))) Z Z (fun h4=>?_) (fun h4=>?_) ?_)
 · refine Is 21 h4 Z (U 4 Z (On 4 25 29 [1,21] (v1.nu == ([]:Str)) Z Z Z Z ?_)); exact eD 1 Z (En [30,1] Z)
 · refine Is 21 h4 Z ?_; exact eD 9 Z (En [30,1] Z)
 refine U 1 Z (AR.and 15 31 46 [1] (x:=(((v1.kind == 4) || (v1.kind == 5)) || ((v1.dW.length:Int) == 0))) Z Z (fun h6=>?_) (fun h6=>?_) ?_)
 ·
  refine Is 31 h6 Z (U 4 Z (On 4 35 39 [1,31] (v1.kind == 5) Z Z Z Z (U 1 Z (AR.or 5 40 45 [1,31] (x:=((v1.dW.length:Int) == 0)) Z Z (fun h8=>?_) (fun h8=>?_) ?_))))
  · refine Is 40 h8 Z (U 2 Z (GO Z (AO.aV (l:=v1.dW) Z Z Z Z qV Z (av.bM _) ?_))); exact eD 2 Z (En [45,1,31] Z)
  · refine Is 40 h8 Z ?_; exact eD 5 Z (En [45,1,31] Z)
  exact eD 1 Z (En [46,1] Z)
 · refine Is 31 h6 Z ?_; exact eD 15 Z (En [46,1] Z)
 refine U 1 Z (AR.and 10 47 57 [] (x:=((v1.kind == 5) || ((v1.keys.length:Int) == 0))) Z Z (fun h9=>?_) (fun h9=>?_) ?_)
 ·
  refine Is 47 h9 Z (U 4 Z (AR.or 5 51 56 [47] (x:=((v1.keys.length:Int) == 0)) Z Z (fun h10=>?_) (fun h10=>?_) ?_))
  · refine Is 51 h10 Z (U 2 Z (GO Z (AO.aV (l:=v1.keys) Z Z Z Z gX Z Z ?_))); exact eD 2 Z (En [56,47] Z)
  · refine Is 51 h10 Z ?_; exact eD 5 Z (En [56,47] Z)
  exact eD 1 Z (En [57] Z)
 · refine Is 47 h9 Z ?_; exact eD 10 Z (En [57] Z)
 cases hf; exact N 1 Z (Y Z h)
theorem M0 (c1:UInt8) {r0:Bool} (hf:zP c1=some r0) (h:Q (.ret (.bool r0)) τ):PC 274 [.int .u8 (c1.toNat:Int)] τ Q:=by
 unfold zP at hf; refine BN 9 [.tmp 2] [0] Tryz.func274 Z Z Z Z Z (W 4 Z (An 3 5 8 [] (decide ((c1.toNat:Int)≤57)) Z Z Z Z ?_)); cases hf; exact N 1 Z (Y Z h)
theorem I7 (s1:Str) {r0:Int} (hf:yx s1=some r0) (h:Q (.ret (iP r0)) τ):PC 241 [.str s1] τ Q:=by
 unfold yx at hf; refine BN 17 [.tmp 2] [0] Tryz.func241 Z Z Z Z Z (V 2 Z (CK (fun n1=>[(0,.str s1),(3,iP n1)]) (fun n1=>[]) (fun dw n1=>uX s1 dw n1=some r0) BIG 0 Z Z hf (fun _ hz=>bQ hz) ?_)); intro dw n1 hf; rw [uX] at hf; refine W 2 Z (AS Z (AO.bC Z Z Z Z bL Z ?_)); refine B1 hf fun b1 h2 hf=>U 2 Z (AR.dS 5 8 13 true [0,3] b1 Z Z (fun h1=>?_) (fun h1=>?_) ?_)
 · refine IT 8 h1 h2 Z fun h2=>?_; refine B1 h2 fun x1 h3 h2=>U 2 Z (GO Z (AO.bP h3 Z bL Z Z ?_)); refine BR h2 fun x2 h4 h2=>?_; refine GO Z (AO.call Z _ Z Z aaC (M0 _ h4 ?_)); cases h2; exact eD 1 Z (En [13,0,3] Z)
 · refine IF 8 h1 h2 Z fun h2=>?_; cases h2; exact eD 5 Z (En [13,0,3] Z)
 refine J 0 Z (C hf Z (fun h5 hf=>?_) fun h5 hf=>?_)
 · exact M 3 Z ⟨(bI (n1 + 1)),Z,Z,Z,hf⟩
 cases hf; exact M 2 Z (Y Z h)
theorem Ci (s1:Str) (c1:UInt8) {r0:Str} (hf:strings_trimLeftByte s1 c1=some r0) (h:Q (.ret (.str r0)) τ):PC 314 [.str s1,.int .u8 (c1.toNat:Int)] τ Q:=by
 unfold strings_trimLeftByte at hf; refine BN 17 [.tmp 4] [0,1] Tryz.func314 Z Z Z Z Z (V 1 Z (CK (fun s2=>[(0,.str s2),(1,.int .u8 (c1.toNat:Int))]) (fun s2=>[]) (fun dw s2=>iM c1 dw s2=some r0) BIG s1 Z Z hf (fun _ hz=>bQ hz) ?_)); intro dw s2 hf; rw [iM] at hf; refine W 1 Z (AS Z (AO.bC Z Z Z Z bL Z ?_)); refine B1 hf fun b1 h2 hf=>U 2 Z (AR.dS 5 8 13 true [0,1] b1 Z Z (fun h1=>?_) (fun h1=>?_) ?_)
 · refine IT 8 h1 h2 Z fun h2=>?_; refine B1 h2 fun x1 h3 h2=>U 1 Z (GO Z (AO.bP h3 Z bL Z Z ?_)); cases h2; exact eD 3 Z (En [13,0,1] Z)
 · refine IF 8 h1 h2 Z fun h2=>?_; cases h2; exact eD 5 Z (En [13,0,1] Z)
 refine J 0 Z (C hf Z (fun h4 hf=>?_) fun h4 hf=>?_)
 · refine B1 hf fun s3 h5 hf=>W 1 Z (AS Z (AO.jT h5 Z bL Z ⟨_,Z⟩ Z ?_)); exact N 1 Z ⟨s3,Z,Z,Z,hf⟩
 cases hf; exact M 2 Z (Y Z h)
theorem yX (s1:Str) (zU:Str) {r0:Str} (hf:mD s1 zU=some r0) (h:Q (.ret (.str r0)) τ):PC 275 [.str s1,.str zU] τ Q:=by
 unfold mD at hf; refine BN 37 [.tmp 4] [0,1] Tryz.func275 Z Z Z Z Z (W 4 Z (On 3 9 12 [0,1] (zU == ([]:Str)) Z Z Z Z (J 0 Z (C hf Z (fun h2 hf=>?_) fun h2 hf=>?_))))
 · cases hf; exact M 2 Z (Y Z h)
 refine W 1 Z (AS Z (AO.bC Z Z Z Z bL Z ?_)); refine B1 hf fun b1 h4 hf=>U 2 Z (AR.dS 4 17 21 true [0,1] b1 Z Z (fun h3=>?_) (fun h3=>?_) ?_)
 · refine IT 17 h3 h4 Z fun h4=>?_; refine B1 h4 fun x1 h5 h4=>U 1 Z (GO Z (AO.bP h5 Z bL Z Z ?_)); cases h4; exact eD 2 Z (En [21,0,1] Z)
 · refine IF 17 h3 h4 Z fun h4=>?_; cases h4; exact eD 4 Z (En [21,0,1] Z)
 refine J 0 Z (C hf Z (fun h6 hf=>?_) fun h6 hf=>?_)
 · refine B1 hf fun x2 h7 hf=>W 2 Z (AS Z (AO.bP h7 Z bL Z Z ?_)); refine BR hf fun x3 h8 hf=>?_; refine CL Z (Ci _ _ h8 ?_); cases hf; exact N 1 Z (Y Z h)
 exact bQ hf
theorem Cz (x1:Int) {r0:Bool} (hf:cmp_isNaN_int x1=some r0) (h:Q (.ret (.bool r0)) τ):PC 279 [iP x1] τ Q:=by
 unfold cmp_isNaN_int at hf; refine BN 6 [.tmp 2] [0] Tryz.func279 Z Z Z Z Z ?_; cases hf; exact M 5 Z (Y Z h)
theorem vD (x1:Int) (y1:Int) {r0:Int} (hf:cmp_Compare_int x1 y1=some r0) (h:Q (.ret (iP r0)) τ):PC 244 [iP x1,iP y1] τ Q:=by
 unfold cmp_Compare_int at hf; refine BN 20 [.tmp 4] [0,1] Tryz.func244 Z Z Z Z Z ?_; refine B1 hf fun Iw h1 hf=>W 2 Z (CL Z (Cz _ h1 ?_)); refine B1 hf fun CU h2 hf=>U 2 Z (CL Z (Cz _ h2 (J 2 Z (C hf Z (fun h3 hf=>?_) fun h3 hf=>?_))))
 ·
  refine V 1 Z (C hf Z (fun h4 hf=>?_) fun h4 hf=>?_)
  · cases hf; exact M 1 Z (Y Z h)
  cases hf; exact M 1 Z (Y Z h)
 refine V 1 Z (C hf Z (fun h5 hf=>?_) fun h5 hf=>?_)
 · cases hf; exact M 1 Z (Y Z h)
 refine V 3 Z (C hf Z (fun h6 hf=>?_) fun h6 hf=>?_)
 · cases hf; exact M 1 Z (Y Z h)
 refine V 3 Z (C hf Z (fun h7 hf=>?_) fun h7 hf=>?_)
 · cases hf; exact M 1 Z (Y Z h)
 cases hf; exact M 1 Z (Y Z h)
theorem zh (x1:Str) {r0:Bool} (hf:cmp_isNaN_string x1=some r0) (h:Q (.ret (.bool r0)) τ):PC 318 [.str x1] τ Q:=by
 unfold cmp_isNaN_string at hf; refine BN 6 [.tmp 2] [0] Tryz.func318 Z Z Z Z Z ?_; cases hf; exact M 5 Z (Y Z h)
theorem DY (x1:Str) (y1:Str) {r0:Int} (hf:mM x1 y1=some r0) (h:Q (.ret (iP r0)) τ):PC 277 [.str x1,.str y1] τ Q:=by
 unfold mM at hf; refine BN 20 [.tmp 4] [0,1] Tryz.func277 Z Z Z Z Z ?_; refine B1 hf fun Iw h1 hf=>W 2 Z (CL Z (zh _ h1 ?_)); refine B1 hf fun CU h2 hf=>U 2 Z (CL Z (zh _ h2 (J 2 Z (C hf Z (fun h3 hf=>?_) fun h3 hf=>?_))))
 ·
  refine V 1 Z (C hf Z (fun h4 hf=>?_) fun h4 hf=>?_)
  · cases hf; exact M 1 Z (Y Z h)
  cases hf; exact M 1 Z (Y Z h)
 refine V 1 Z (C hf Z (fun h5 hf=>?_) fun h5 hf=>?_)
 · cases hf; exact M 1 Z (Y Z h)
 refine V 3 Z (C hf Z (fun h6 hf=>?_) fun h6 hf=>?_)
 · cases hf; exact M 1 Z (Y Z h)
 refine V 3 Z (C hf Z (fun h7 hf=>?_) fun h7 hf=>?_)
 · cases hf; exact M 1 Z (Y Z h)
 cases hf; exact M 1 Z (Y Z h)
theorem Pq (Co:List Int) {r0:Int} (hf:yV Co=some r0) (h:Q (.ret (iP r0)) τ):PC 276 [.list (List.map XJ Co)] τ Q:=by
 unfold yV at hf; refine BN 18 [.tmp 2] [0] Tryz.func276 Z Z Z Z Z (W 3 Z (AS Z (AO.aV (l:=Co) Z Z Z Z O1 Z Z (J 1 Z (CK (fun x1=>[(3,iP 0),(6,.list (List.map XJ Co)),(7,iP (Co.length:Int)),(8,iP x1)]) (fun x1=>[]) (fun dw x1=>sN Co dw x1=some r0) BIG 0 Z Z hf (fun _ hz=>bQ hz) ?_))))); intro dw x1 hf; rw [sN] at hf; refine V 1 Z (C hf Z (fun h1 hf=>?_) fun h1 hf=>?_)
 ·
  refine B1 hf fun UQ h2 hf=>W 0 Z (AS Z (AO.cZ h2 Z Z Z Z O1 Z Z (J 5 Z (C hf Z (fun h3 hf=>?_) fun h3 hf=>?_))))
  · cases hf; exact M 2 Z (Y Z h)
  exact M 2 Z ⟨(bI (x1 + 1)),Z,Z,Z,hf⟩
 cases hf; exact M 2 Z (Y Z h)
theorem Ju (a1:Str) (b1:Str) {r0:Int} (hf:sI a1 b1=some r0) (h:Q (.ret (iP r0)) τ):PC 242 [.str a1,.str b1] τ Q:=by
 unfold sI at hf; refine BN 26 [.tmp 4] [0,1] Tryz.func242 Z Z Z Z Z ?_; refine B1 hf fun x1 h1 hf=>W 2 Z (CL Z (yX _ _ h1 ?_)); refine B1 hf fun y1 h2 hf=>U 1 Z (CL Z (yX _ _ h2 (U 3 Z (AS Z (AO.bC Z Z Z Z bL Z (U 1 Z (AS Z (AO.bC Z Z Z Z bL Z ?_)))))))); refine B1 hf fun x2 h3 hf=>CL Z (vD _ _ h3 ?_); refine B1 hf fun x3 h4 hf=>U 2 Z (CL Z (DY _ _ h4 (U 1 Z (AS Z (AO.bC Z Z Z Z bL Z (U 1 Z (AS Z (AO.bC Z Z Z Z bL Z ?_)))))))); refine B1 hf fun x4 h5 hf=>CL Z (vD _ _ h5 (AS Z (AO.bS (List.map XJ ([x2,x3,x4]:List Int)) Z WV Z Z Z Z ?_))); refine BR hf fun x5 h6 hf=>?_; refine CL Z (Pq _ h6 ?_); cases hf; exact N 1 Z (Y Z h)
theorem Bo (x1:UInt8) {r0:Bool} (hf:qW x1=some r0) (h:Q (.ret (.bool r0)) τ):PC 278 [.int .u8 (x1.toNat:Int)] τ Q:=by
 unfold qW at hf; refine BN 6 [.tmp 2] [0] Tryz.func278 Z Z Z Z Z ?_; cases hf; exact M 5 Z (Y Z h)
theorem Fw (x1:UInt8) (y1:UInt8) {r0:Int} (hf:oU x1 y1=some r0) (h:Q (.ret (iP r0)) τ):PC 243 [.int .u8 (x1.toNat:Int),.int .u8 (y1.toNat:Int)] τ Q:=by
 unfold oU at hf; refine BN 20 [.tmp 4] [0,1] Tryz.func243 Z Z Z Z Z ?_; refine B1 hf fun Iw h1 hf=>W 2 Z (CL Z (Bo _ h1 ?_)); refine B1 hf fun CU h2 hf=>U 2 Z (CL Z (Bo _ h2 (J 2 Z (C hf Z (fun h3 hf=>?_) fun h3 hf=>?_))))
 ·
  refine V 1 Z (C hf Z (fun h4 hf=>?_) fun h4 hf=>?_)
  · cases hf; exact M 1 Z (Y Z h)
  cases hf; exact M 1 Z (Y Z h)
 refine V 1 Z (C hf Z (fun h5 hf=>?_) fun h5 hf=>?_)
 · cases hf; exact M 1 Z (Y Z h)
 refine V 3 Z (C hf Z (fun h6 hf=>?_) fun h6 hf=>?_)
 · cases hf; exact M 1 Z (Y Z h)
 refine V 3 Z (C hf Z (fun h7 hf=>?_) fun h7 hf=>?_)
 · cases hf; exact M 1 Z (Y Z h)
 cases hf; exact M 1 Z (Y Z h)
theorem Jv (a1:Str) (b1:Str) {r0:Int} (hf:qp a1 b1=some r0) (h:Q (.ret (iP r0)) τ):PC 197 [.str a1,.str b1] τ Q:=by
 unfold qp at hf; refine BN 59 [.tmp 4] [0,1] Tryz.func197 Z Z Z Z Z (V 1 Z (JQ (fun a2 b2=>[(0,.str a2),(1,.str b2)]) (fun a2 b2=>[]) (fun dw a2 b2=>kP dw a2 b2=some r0) BIG a1 b1 Z Z hf (fun _ _ hz=>bQ hz) ?_)); intro dw a2 b2 hf; rw [kP] at hf; refine W 3 Z (An 3 10 13 [0,1] (!(b2 == ([]:Str))) Z Z Z Z (J 0 Z (C hf Z (fun h2 hf=>?_) fun h2 hf=>?_)))
 ·
  refine B1 hf fun n1 h3 hf=>W 1 Z (CL Z (I7 _ h3 ?_)); refine B1 hf fun m1 h4 hf=>U 1 Z (CL Z (I7 _ h4 (U 5 Z (An 3 20 23 [0,1,5,6] (decide (0 < m1)) Z Z Z Z (J 0 Z (C hf Z (fun h6 hf=>?_) fun h6 hf=>?_))))))
  ·
   refine V 0 Z (AW.draw 8 mixed (by kernel_rfl) Z ?_); refine Ev.cs dh 2 Z ?_; refine B1 hf fun x1 h7 hf=>Ev.cons Z Z Z (AO.jT h7 Z bL Z Z ⟨_,Z⟩ zg) (Ev.cs dh 2 Z ?_); refine B1 hf fun x2 h8 hf=>Ev.cons Z Z Z (AO.jT h8 Z bL Z Z ⟨_,Z⟩ zg) ?_; refine B1 hf fun c1 h9 hf=>Ev.cons Z Z Z (AO.call Z _ Z Z aaH (Ju _ _ h9 zg)) (Ev.cs dh 1 Z (Ev.nil ?_)); show AR _ _ _ _ _ _ _ _; refine J 2 Z (C hf Z (fun h10 hf=>?_) fun h10 hf=>?_)
   · cases hf; exact M 2 Z (Y Z h)
   refine V 0 Z (AW.draw 8 mixed (by kernel_rfl) Z ?_); refine Ev.cs dh 2 Z ?_; refine B1 hf fun a3 h11 hf=>Ev.cons Z Z Z (AO.jT h11 Z bL Z ⟨_,Z⟩ Z zg) (Ev.cs dh 2 Z ?_); refine B1 hf fun b3 h12 hf=>Ev.cons Z Z Z (AO.jT h12 Z bL Z ⟨_,Z⟩ Z zg) (Ev.cs dh 2 Z (Ev.nil ?_)); show AR _ _ _ _ _ _ _ _; exact N 0 Z ⟨a3,b3,Z,Z,Z,hf⟩
  refine V 0 Z (AW.draw 5 mixed (by kernel_rfl) Z ?_); refine Ev.cs dh 1 Z ?_; refine B1 hf fun x3 kY hf=>Ev.cons Z Z Z (AO.bP kY Z bL Z Z zg) (Ev.cs dh 1 Z ?_); refine B1 hf fun x4 lu hf=>Ev.cons Z Z Z (AO.bP lu Z bL Z Z zg) (Ev.cs dh 1 Z (Ev.nil ?_)); show AR _ _ _ _ _ _ _ _; refine J 0 Z (C hf Z (fun pK hf=>?_) fun pK hf=>?_)
  ·
   refine V 0 Z (AW.draw 6 mixed (by kernel_rfl) Z ?_); refine Ev.cs dh 1 Z ?_; refine B1 hf fun x5 h16 hf=>Ev.cons Z Z Z (AO.bP h16 Z bL Z Z zg) (Ev.cs dh 1 Z ?_); refine B1 hf fun x6 wV hf=>Ev.cons Z Z Z (AO.bP wV Z bL Z Z zg) ?_; refine BR hf fun x7 h18 hf=>?_; refine Ev.cons Z Z Z (AO.call Z _ Z Z aaG (Fw _ _ h18 zg)) (Ev.cs dh 1 Z (Ev.nil ?_)); show AR _ _ _ _ _ _ _ _; cases hf; exact N 0 Z (Y Z h)
  refine V 0 Z (AW.draw 6 mixed (by kernel_rfl) Z ?_); refine Ev.cs dh 1 Z ?_; refine B1 hf fun a4 h19 hf=>Ev.cons Z Z Z (AO.jT h19 Z bL Z ⟨_,Z⟩ Z zg) (Ev.cs dh 1 Z ?_); refine B1 hf fun b4 h20 hf=>Ev.cons Z Z Z (AO.jT h20 Z bL Z ⟨_,Z⟩ Z zg) (Ev.cs dh 2 Z (Ev.nil ?_)); show AR _ _ _ _ _ _ _ _; exact N 0 Z ⟨a4,b4,Z,Z,Z,hf⟩
 refine W 1 Z (AS Z (AO.bC Z Z Z Z bL Z (U 1 Z (AS Z (AO.bC Z Z Z Z bL Z ?_))))); refine BR hf fun x8 h21 hf=>?_; refine CL Z (vD _ _ h21 ?_); cases hf; exact N 1 Z (Y Z h)
theorem MK (v1:av) {r0:Bool} (hf:wF v1=some r0) (h:Q (.ret (.bool r0)) τ):PC 158 [.agg (dB v1)] τ Q:=by
 unfold wF at hf; refine BN 44 [.tmp 2] [0] Tryz.func158 Z Z Z Z Z (W 4 Z (AS Z (AO.aV (l:=v1.keys) Z Z Z Z gX Z Z (U 2 Z (AS Z (AO.aV (l:=v1.dW) Z Z Z Z qV Z (av.bM _) (J 1 Z (C hf Z (fun h1 hf=>?_) fun h1 hf=>?_))))))))
 · cases hf; exact M 1 Z (Y Z h)
 refine W 2 Z (AS Z (AO.aV (l:=v1.keys) Z Z Z Z gX Z Z (J 1 Z (CK (fun i1=>[(1,.ref (dB v1)),(13,sP v1.keys),(14,iP (v1.keys.length:Int)),(15,iP i1)]) (fun i1=>[]) (fun dw i1=>oG v1 dw i1=some r0) BIG 0 Z Z hf (fun _ hz=>bQ hz) ?_)))); intro dw i1 hf; rw [oG] at hf; refine V 1 Z (C hf Z (fun h2 hf=>?_) fun h2 hf=>?_)
 ·
  refine B1 hf fun wm h3 hf=>W 1 Z (AS Z (AO.cZ h3 Z Z Z Z gX Z Z (U 4 Z (AS Z (AO.bC Z Z Z Z bL Z (U 2 Z (AR.or 4 23 27 [1,3,4,13,14,15] (x:=(decide (64 < (wm.length:Int)))) Z Z (fun h4=>?_) (fun h4=>?_) ?_)))))))
  · refine Is 23 h4 Z (U 1 Z (GO Z (AO.bC Z Z Z Z bL Z ?_))); exact eD 2 Z (En [27,1,3,4,13,14,15] Z)
  · refine Is 23 h4 Z ?_; exact eD 4 Z (En [27,1,3,4,13,14,15] Z)
  refine B1 hf fun b1 h6 hf=>U 1 Z (AR.dS 14 28 42 false [1,13,14,15] b1 Z Z (fun h5=>?_) (fun h5=>?_) ?_)
  ·
   refine IF 28 h5 h6 Z fun h6=>?_; refine BR h6 fun b2 h8 h6=>?_; refine U 3 Z (AR.dS 10 31 41 true [1,13,14,15,28] b2 Z Z (fun h7=>?_) (fun h7=>?_) ?_)
   · refine IT 31 h7 h8 Z fun h8=>?_; refine B1 h8 fun e1 h9 h8=>U 4 Z (GO Z (AO.cZ h9 Z Z Z Z gX Z Z ?_)); refine B1 h8 fun x1 h10 h8=>U 2 Z (GO Z (AO.call Z _ Z Z aaO (Jv _ _ h10 ?_))); cases h8; exact eD 2 Z (En [41,1,13,14,15,28] Z)
   · refine IF 31 h7 h8 Z fun h8=>?_; cases h8; exact eD 10 Z (En [41,1,13,14,15,28] Z)
   cases h6; exact eD 1 Z (En [42,1,13,14,15] Z)
  · refine IT 28 h5 h6 Z fun h6=>?_; cases h6; exact eD 14 Z (En [42,1,13,14,15] Z)
  refine J 0 Z (C hf Z (fun h11 hf=>?_) fun h11 hf=>?_)
  · cases hf; exact M 1 Z (Y Z h)
  exact M 2 Z ⟨(bI (i1 + 1)),Z,Z,Z,hf⟩
 cases hf; exact M 1 Z (Y Z h)
theorem O9 (v1:av) (dx:Int) {r0:Int} (hf:yF v1 dx=some r0) (h:Q (.ret (iP r0)) τ):PC 124 [.agg (dB v1),iP dx] τ Q:=by
 unfold yF at hf; refine BN 78 [.tmp 4] [0,1] Tryz.func124 Z Z Z Z Z (W 6 Z (On 4 9 13 [1,2] (v1.kind == 5) Z Z Z Z (J 4 Z (C hf Z (fun h2 hf=>?_) fun h2 hf=>?_))))
 · cases hf; exact M 1 Z (Y Z h)
 refine W 4 Z (On 4 21 25 [1,2,5] (decide (5 < v1.kind)) Z Z Z Z ?_); refine B1 hf fun b1 h5 hf=>U 1 Z (AR.dS 4 26 30 false [1,2,5] b1 Z Z (fun h4=>?_) (fun h4=>?_) ?_)
 · refine IF 26 h4 h5 Z fun h5=>?_; refine B1 h5 fun x1 h6 h5=>U 1 Z (GO Z (AO.call Z _ Z Z aa1 (LC _ h6 ?_))); cases h5; exact eD 2 Z (En [30,1,2,5] Z)
 · refine IT 26 h4 h5 Z fun h5=>?_; cases h5; exact eD 4 Z (En [30,1,2,5] Z)
 refine J 1 Z (C hf Z (fun h7 hf=>?_) fun h7 hf=>?_)
 · cases hf; exact M 1 Z (Y Z h)
 refine W 4 Z (On 4 35 39 [1,2,5] (decide (9007199254740992 < v1.mG)) Z Z Z Z (J 1 Z (C hf Z (fun h9 hf=>?_) fun h9 hf=>?_)))
 · cases hf; exact M 1 Z (Y Z h)
 refine W 2 Z (AS Z (AO.bC Z Z Z Z bL Z (U 2 Z (AR.or 5 45 50 [1,2,5] (x:=(decide (1024 < (v1.dW.length:Int)))) Z Z (fun h10=>?_) (fun h10=>?_) ?_))))
 · refine Is 45 h10 Z (U 2 Z (GO Z (AO.aV (l:=v1.dW) Z Z Z Z qV Z (av.bM _) ?_))); exact eD 2 Z (En [50,1,2,5] Z)
 · refine Is 45 h10 Z ?_; exact eD 5 Z (En [50,1,2,5] Z)
 refine U 1 Z (AR.or 5 51 56 [1,2,5] (x:=(decide (1024 < (v1.keys.length:Int)))) Z Z (fun h11=>?_) (fun h11=>?_) ?_)
 · refine Is 51 h11 Z (U 2 Z (GO Z (AO.aV (l:=v1.keys) Z Z Z Z gX Z Z ?_))); exact eD 2 Z (En [56,1,2,5] Z)
 · refine Is 51 h11 Z ?_; exact eD 5 Z (En [56,1,2,5] Z)
 refine J 1 Z (C hf Z (fun h12 hf=>?_) fun h12 hf=>?_)
 · cases hf; exact M 1 Z (Y Z h)
 refine B1 hf fun b2 lu hf=>W 4 Z (AR.dS 4 61 65 true [1,2,5] b2 Z Z (fun kY=>?_) (fun kY=>?_) ?_)
 · refine IT 61 kY lu Z fun lu=>?_; refine B1 lu fun x2 pK lu=>U 1 Z (GO Z (AO.call Z _ Z Z aa0 (MK _ pK ?_))); cases lu; exact eD 2 Z (En [65,1,2,5] Z)
 · refine IF 61 kY lu Z fun lu=>?_; cases lu; exact eD 4 Z (En [65,1,2,5] Z)
 refine J 1 Z (C hf Z (fun h16 hf=>?_) fun h16 hf=>?_)
 · cases hf; exact M 1 Z (Y Z h)
 refine W 2 Z (AR.and 5 68 73 [1] (x:=((v1.dW.length:Int) == 0)) Z Z (fun wV=>?_) (fun wV=>?_) ?_)
 · refine Is 68 wV Z (U 2 Z (GO Z (AO.aV (l:=v1.dW) Z Z Z Z qV Z (av.bM _) ?_))); exact eD 2 Z (En [73,1] Z)
 · refine Is 68 wV Z ?_; exact eD 5 Z (En [73,1] Z)
 refine U 1 Z (An 3 74 77 [] (dx == 16) Z Z Z Z (J 1 Z (C hf Z (fun h19 hf=>?_) fun h19 hf=>?_)))
 · cases hf; exact M 1 Z (Y Z h)
 cases hf; exact M 1 Z (Y Z h)
theorem wC (v1:av) {r0:Int} (hf:o7 v1=some r0) (h:Q (.ret (iP r0)) τ):PC 98 [.agg (dB v1)] τ Q:=by
 unfold o7 at hf; refine AC.none (AC.Mt 16 [.cell 2 30] [0] Tryz.func98 Z Z Z Z Z ?_); obtain ⟨b1,s1,h1,hf⟩:=dN hf; cases hf; refine AW.sr (AR.step Z Z Z (AO.GJ Z Z Z (AR.step Z Z Z (AO.aQ Z Wj (fun b2=>(AR.nil [1,2] Z ?_)))))); refine AW.seq (AW.sr (cs 1 Z (AR.step Z Z Z (AO.call Z _ Z Z aa9 (MJ _ _ ?_))))); refine AR.nil [2,7] Z (AW.block (AW.rangeFunc (β:=Option Int) (X:=Int × av) Z aa3 (fun x=>[iP x.1,.agg (dB x.2)]) (fun _=>Z) (by decide) (fun s x=>kR s x.1 x.2) (fun s=>[.box b2 [iP (s.getD 0)]]) (fun s=>s.map fun _=>.ret) (s0:=none) (s1:=s1) Z Z ?_ ?_ ?_))
 ·
  intro l T' hy; refine Jm l T' kR (fun s1 dx v1 b s2 hh=>hy s1 (dx,v1) b s2 hh) none v1 1 h1 ⟨⟨_,Z⟩,Z⟩
 ·
  rintro l s ⟨dx,x1⟩ b s2 hh; unfold kR at hh; cases s with
  | some e=>cases hh
  | none=>
  refine ⟨Z,?_⟩; refine B1 hh fun e1 h2 hh=>?_; refine wE.seq (wE.region Z (cs 1 Z (AR.nil [2,3,9] Z ?_))); refine wE.region Z (AR.step Z Z Z (AO.aQ Z xC (fun b4=>(AR.dF Z Z (AO.fB (i:=0) Z Z Z Ar Z Z Z Z Z (AR.nil [2,3,4] Z ?_)))))); refine ⟨Z,(wE.block (wE.seq (wE.region Z ?_)))⟩; refine AR.step Z Z Z (AO.eP (i:=0) Z Z Z Ar Z Z (cs 1 Z (AR.step Z Z Z (AO.call Z _ Z Z aa8 (O9 _ _ h2 (cs 1 Z ?_)))))); refine AR.nil [2,5] Z (wE.seq (wE.region Z (cs 2 Z ?_))); refine AR.nil [2,5,14] Z (wE.cond Z (fun h3=>?_) (fun h3=>?_))
  ·
   replace hh:=j_ h3 hh; cases hh; refine wE.seq (wE.region Z (cs 1 Z (AR.dF Z Z (AO.fB (i:=1) Z Z Z zA Z Z Z Z Z ?_)))); refine AR.nil [] Z (wE.ret ?_); exact ⟨Z,.cons _ (List.Sublist.refl _),Z,Z⟩
  ·
   replace hh:=jG h3 hh; cases hh; refine wE.skip ?_; exact ⟨Z,.cons _ (List.Sublist.refl _),Z,Z⟩
 ·
  intro D; cases s1 with
  | some e=>exact ⟨D,_,Z,Z,_,⟨_,_,Z,⟨_,_,0,_,_,Z,Z,zA,Z⟩,Z⟩,[],List.nil_sublist _,h⟩
  | none=>
   show AW _ _ _ _ _ _ _; refine AW.sr (AR.dF Z Z (AO.fB (i:=0) Z Z Z zA Z Z Z Z Z (AR.nil [2] Z (AW.ret ?_)))); exact ⟨D,[_],Z,Z,_,⟨_,_,Z,⟨_,_,0,_,_,Z,Z,zA,Z⟩,Z⟩,[],List.nil_sublist _,h⟩
theorem Gx (l1:List Str) {r0:Bool} (hf:p9 l1=some r0) (h:Q (.ret (.bool r0)) τ):PC 196 [sP l1] τ Q:=by
 unfold p9 at hf; refine BN 22 [.tmp 2] [0] Tryz.func196 Z Z Z Z Z (W 1 Z (AS Z (AO.QL Z (fun m6=>(U 2 Z (AS Z (AO.aV (l:=l1) Z Z Z Z gX Z Z (J 1 Z (JQ (fun x1 y1=>[(3,.val (.map (some m6))),(7,sP l1),(8,iP (l1.length:Int)),(9,iP x1)]) (fun x1 y1=>[.obj m6 (tF y1)]) (fun dw x1 y1=>mJ l1 dw x1 y1=some r0) BIG 0 [] Z Z hf (fun _ _ hz=>bQ hz) ?_))))))))); intro dw x1 y1 hf; rw [mJ] at hf; refine V 1 Z (C hf Z (fun h1 hf=>?_) fun h1 hf=>?_)
 ·
  refine B1 hf fun s1 h2 hf=>W 0 Z (AS Z (AO.cZ h2 Z Z Z Z gX Z Z (U 4 Z (AS Z (AO.JI (i:=0) (l:=y1) Z Z Z Z Hu bL YE (U 1 Z (AR.dF Z Z (AO.KR (i:=0) (l:=y1) Z Z Z Z Z Hu bL (U 2 Z (AS Z (AO.JI (i:=0) (l:=(vJ y1 s1 (bI ((uO y1 s1) + 1)))) Z Z Z Z Hu bL YE ?_))))))))))); refine J 1 Z (C hf Z (fun h3 hf=>?_) fun h3 hf=>?_)
  · cases hf; exact M 1 Z (Y Z h)
  exact M 2 Z ⟨(bI (x1 + 1)),(vJ y1 s1 (bI ((uO y1 s1) + 1))),Z,Z,Z,hf⟩
 cases hf; exact M 1 Z (Y Z h)
theorem MU (e1:aj) (dx:Int) {r0:Int} (hf:wO e1 dx=some r0) (h:Q (.ret (iP r0)) τ):PC 154 [.agg (cB e1),iP dx] τ Q:=by
 unfold wO at hf; refine BN 65 [.tmp 4] [0,1] Tryz.func154 Z Z Z Z Z (V 5 Z (C hf Z (fun h1 hf=>?_) fun h1 hf=>?_))
 · cases hf; exact M 1 Z (Y Z h)
 refine W 4 Z (On 4 12 16 [2] (decide (10 < e1.kind)) Z Z Z Z ?_); refine B1 hf fun b1 h4 hf=>U 1 Z (AR.dS 10 17 27 false [2] b1 Z Z (fun h3=>?_) (fun h3=>?_) ?_)
 ·
  refine IF 17 h3 h4 Z fun h4=>?_; refine BR h4 fun b2 h6 h4=>?_; refine U 4 Z (AR.dS 5 21 26 true [2,17] b2 Z Z (fun h5=>?_) (fun h5=>?_) ?_)
  · refine IT 21 h5 h6 Z fun h6=>?_; refine B1 h6 fun x1 h7 h6=>U 2 Z (GO Z (AO.call Z _ Z Z aaS (MQ _ h7 ?_))); cases h6; exact eD 2 Z (En [26,2,17] Z)
  · refine IF 21 h5 h6 Z fun h6=>?_; cases h6; exact eD 5 Z (En [26,2,17] Z)
  cases h4; exact eD 1 Z (En [27,2] Z)
 · refine IT 17 h3 h4 Z fun h4=>?_; cases h4; exact eD 10 Z (En [27,2] Z)
 refine B1 hf fun b3 h9 hf=>U 1 Z (AR.dS 4 28 32 false [2] b3 Z Z (fun h8=>?_) (fun h8=>?_) ?_)
 · refine IF 28 h8 h9 Z fun h9=>?_; refine B1 h9 fun x2 h10 h9=>U 1 Z (GO Z (AO.call Z _ Z Z aaR (LP _ h10 ?_))); cases h9; exact eD 2 Z (En [32,2] Z)
 · refine IT 28 h8 h9 Z fun h9=>?_; cases h9; exact eD 4 Z (En [32,2] Z)
 refine B1 hf fun b4 h12 hf=>U 1 Z (AR.dS 4 33 37 false [2] b4 Z Z (fun h11=>?_) (fun h11=>?_) ?_)
 · refine IF 33 h11 h12 Z fun h12=>?_; refine B1 h12 fun x3 kY h12=>U 1 Z (GO Z (AO.call Z _ Z Z aaQ (LU _ kY ?_))); cases h12; exact eD 2 Z (En [37,2] Z)
 · refine IT 33 h11 h12 Z fun h12=>?_; cases h12; exact eD 4 Z (En [37,2] Z)
 refine B1 hf fun b5 pK hf=>U 1 Z (AR.dS 4 38 42 false [2] b5 Z Z (fun lu=>?_) (fun lu=>?_) ?_)
 · refine IF 38 lu pK Z fun pK=>?_; refine B1 pK fun x4 h16 pK=>U 1 Z (GO Z (AO.call Z _ Z Z aaP (LQ _ h16 ?_))); cases pK; exact eD 2 Z (En [42,2] Z)
 · refine IT 38 lu pK Z fun pK=>?_; cases pK; exact eD 4 Z (En [42,2] Z)
 refine J 1 Z (C hf Z (fun wV hf=>?_) fun wV hf=>?_)
 · cases hf; exact M 1 Z (Y Z h)
 refine B1 hf fun b6 h19 hf=>W 4 Z (AR.dS 5 47 52 true [2] b6 Z Z (fun h18=>?_) (fun h18=>?_) ?_)
 · refine IT 47 h18 h19 Z fun h19=>?_; refine B1 h19 fun x5 h20 h19=>U 2 Z (GO Z (AO.call Z _ Z Z acz (wC _ h20 ?_))); cases h19; exact eD 2 Z (En [52,2] Z)
 · refine IF 47 h18 h19 Z fun h19=>?_; cases h19; exact eD 5 Z (En [52,2] Z)
 refine J 1 Z (C hf Z (fun h21 hf=>?_) fun h21 hf=>?_)
 · refine BR hf fun x6 h22 hf=>?_; refine W 2 Z (CL Z (wC _ h22 ?_)); cases hf; exact N 1 Z (Y Z h)
 refine W 2 Z (AS Z (AO.aV (l:=e1.args) Z Z Z Z jL Z (aj.bM _) (J 2 Z (C hf Z (fun h23 hf=>?_) fun h23 hf=>?_))))
 · cases hf; exact M 1 Z (Y Z h)
 refine B1 hf fun x7 Mi hf=>W 2 Z (CL Z (Gx _ Mi (J 1 Z (C hf Z (fun R8 hf=>?_) fun R8 hf=>?_))))
 · cases hf; exact M 1 Z (Y Z h)
 cases hf; exact M 1 Z (Y Z h)
abbrev D7 (jq:aj→Int→Option Int):Prop:=∀ (sU:aj) (fM:Int) {bY:Int},jq sU fM=some bY→∀ {τ:List bn} {Q:fq→List bn→Prop} (h:Q (.ret (iP bY)) τ),PC 122 [.agg (cB sU),iP fM] τ Q
theorem J_ (jq) (Hy:D7 jq) (e1:aj) (dx:Int) {r0:Int} (hf:uG jq e1 dx=some r0) (h:Q (.ret (iP r0)) τ):PC 122 [.agg (cB e1),iP dx] τ Q:=by
 unfold uG at hf; refine BN 30 [.tmp 4] [0,1] Tryz.func122 Z Z Z Z Z ?_; refine B1 hf fun f1 h1 hf=>W 4 Z (CL Z (MU _ _ h1 (J 3 Z (C hf Z (fun h2 hf=>?_) fun h2 hf=>?_))))
 · cases hf; exact M 2 Z (Y Z h)
 refine W 2 Z (AS Z (AO.aV (l:=e1.args) Z Z Z Z jL Z (aj.bM _) (J 1 Z (CK (fun x1=>[(1,iP dx),(16,.list (aj.dV e1.args)),(17,iP (e1.args.length:Int)),(18,iP x1)]) (fun x1=>[]) (fun dw x1=>p8 jq e1 dx dw x1=some r0) BIG 0 Z Z hf (fun _ hz=>bQ hz) ?_)))); intro dw x1 hf; rw [p8] at hf; refine V 1 Z (C hf Z (fun h3 hf=>?_) fun h3 hf=>?_)
 ·
  refine B1 hf fun e2 h4 hf=>W 0 Z (AS Z (AO.cZ h4 Z Z (aj.bM _) Z jL (aj.aT _) Z (U 1 Z (AS Z (AO.aQ Z fF (fun b7=>?_)))))); refine B1 hf fun f2 h5 hf=>Rr 4 [0,0] Z Z (CL Z (Hy _ _ h5 (J 3 Z (C hf Z (fun h6 hf=>?_) fun h6 hf=>?_))))
  · cases hf; exact M 2 Z (Y Z h)
  refine Wn0 2 Z (AR.drop1 ?_); exact N 0 Z ⟨(bI (x1 + 1)),Z,Z,Z,hf⟩
 cases hf; exact M 1 Z (Y Z h)
theorem KP :∀ k:Nat,(D7 (j4 k)):=by
 intro k
 induction k with
 | zero=>exact fun _ _ _ hz=>by first | cases hz | (unfold j4 at hz; cases hz)
 | succ k ih=>exact fun sU fM bY hz τ Q hq=>J_ (j4 k) ih sU fM hz hq
theorem LK (sU:aj) (fM:Int) {bY:Int} (hf:BL sU fM=some bY) (h:Q (.ret (iP bY)) τ):PC 122 [.agg (cB sU),iP fM] τ Q:=
 ((KP BIG)) sU fM hf h
theorem yZ (e1:aj) {r0:Int} (hf:pF e1=some r0) (h:Q (.ret (iP r0)) τ):PC 97 [.agg (cB e1)] τ Q:=by
 unfold pF at hf; refine BN 8 [.tmp 2] [0] Tryz.func97 Z Z Z Z Z ?_; refine B1 hf fun x1 h1 hf=>W 3 Z (CL Z (LW _ h1 (J 1 Z (C hf Z (fun h2 hf=>?_) fun h2 hf=>?_))))
 · cases hf; exact M 1 Z (Y Z h)
 refine BR hf fun x2 h3 hf=>?_; refine W 1 Z (CL Z (LK _ _ h3 ?_)); cases hf; exact N 1 Z (Y Z h)
section
variable [Jy]
theorem MV (iO:List au) {r0:aj} {r1:Int} {r2:Int} (hf:wP iO=some (r0,r1,r2)) (h:Q (.ret (.tuple [.agg (cB r0),iP r1,iP r2])) τ):PC 85 [.list (List.map au.cells iO)] τ Q:=by
 unfold wP at hf; refine BN 27 [.cell 2 111,.tmp 3,.tmp 4] [0] Tryz.func85 Z Z Z Z Z (W 0 Z (AS Z (AO.aQ Z fF (fun b2=>?_)))); obtain ⟨x1,n1,vo,h1,hf⟩:=eH hf; refine U 3 Z (CL Z (MS _ h1 (U 4 Z (AS Z (AO.aQ Z fF (fun b5=>(Rw 5 [0] Z Z (C hf Z (fun h2 hf=>?_) fun h2 hf=>?_))))))))
 · cases hf; exact Wx 6 [1] Z Z (ZC [1] Z Z h)
 refine B1 hf fun DC h3 hf=>Wr 1 [0] Z Z (CL Z (yZ _ h3 (J 3 Z (C hf Z (fun h4 hf=>?_) fun h4 hf=>?_))))
 · cases hf; exact Wx 5 [1] Z Z (ZC [1] Z Z h)
 cases hf; exact Wx 5 [0,1] Z Z (ZC [1] Z Z h)
end
theorem LM (iO:List au) (n1:Int) (bJ:Str) {r0:Int} (hf:xP iO n1 bJ=some r0) (h:Q (.ret (iP r0)) τ):PC 86 [.list (List.map au.cells iO),iP n1,.str bJ] τ Q:=by
 unfold xP at hf; refine BN 18 [.tmp 6] [0,1,2] Tryz.func86 Z Z Z Z Z (W 3 Z (AS Z (AO.aV (l:=iO) Z Z Z Z gN Z Z (J 1 Z (C hf Z (fun h1 hf=>?_) fun h1 hf=>?_)))))
 · refine B1 hf fun e1 h2 hf=>W 2 Z (AS Z (AO.cZ h2 Z Z Z Z gN (au.aT _) Z ?_)); cases hf; exact N 3 Z (Y Z h)
 refine W 1 Z (AS Z (AO.bC Z Z Z Z bL Z ?_)); cases hf; exact N 1 Z (Y Z h)
section
variable [Jy]
theorem LV (bJ:Str) {r0:aj} {r1:Int} {r2:Int} (hf:uK bJ=some (r0,r1,r2)) (h:Q (.ret (.tuple [.agg (cB r0),iP r1,iP r2])) τ):PC 62 [.str bJ] τ Q:=by
 unfold uK at hf; refine BN 46 [.cell 2 111,.tmp 3,.tmp 4] [0] Tryz.func62 Z Z Z Z Z (W 0 Z (AS Z (AO.aQ Z fF (fun b2=>?_)))); obtain ⟨iO,bO,vo,h1,hf⟩:=eH hf; refine U 3 Z (CL Z (LZ _ h1 (J 9 Z (C hf Z (fun h2 hf=>?_) fun h2 hf=>?_))))
 · cases hf; exact Wx 6 [0] Z Z (ZC [0] Z Z h)
 obtain ⟨x1,n1,DC,h3,hf⟩:=eH hf; refine W 1 Z (CL Z (MV _ h3 (U 4 Z (AS Z (AO.aQ Z fF (fun b8=>(Rw 5 [0] Z Z (C hf Z (fun h4 hf=>?_) fun h4 hf=>?_))))))))
 · refine B1 hf fun x2 h5 hf=>W 4 Z (CL Z (LM _ _ _ h5 ?_)); cases hf; exact Rx 4 [1] Z Z (ZC [1] Z Z h)
 refine W 2 Z (AS Z (AO.aV (l:=iO) Z Z Z Z gN Z Z (J 1 Z (C hf Z (fun h6 hf=>?_) fun h6 hf=>?_))))
 ·
  refine V 0 Z (AW.Gp 1 6 7 1 mixed (by kernel_rfl) (by kernel_rfl) (by kernel_rfl) Z Z Z Z ?_); refine Ev.cons Z Z Z (AO.build Z fF BG Z zg) (Ev.nil ?_); show Ev _ _ _ _ _ _ _; refine Ev.cs dh 2 Z ?_; refine B1 hf fun e1 h7 hf=>Ev.cons Z Z Z (AO.cZ h7 Z Z Z Z gN (au.aT _) Z zg) (Ev.cs dh 2 Z (Ev.nil (TF.dF Z Z (AO.fB (i:=0) Z Z Z iL Z Z Z Z Z ?_)))); refine TF.nil ?_; show AR _ _ _ _ _ _ _ _; cases hf; exact N 2 Z (ZC [1] Z Z h)
 cases hf; exact Wx 4 [0,1] Z Z (ZC [1] Z Z h)
end
section
variable [Jy]
theorem vC {b:Nat} {vp v p:Value} {jF r0:List aR} {text1:Str} (hf:jR jF text1=some r0) (hroom:roomy v=true) {R:fq→List bn→Prop} (h:∀ vp',R (.ret (.tuple [])) [.kr b 104 [(.own vp' ((List.map aR.cells r0))),.val (.pointer none),.own (.slice none 0 0) (List.map fO [])],.row vp' ((List.map aR.cells r0)).length 12 115]):PC 63 [pP b] [.row v (List.length text1) 1 5,.kr b 104 [(.own vp ((List.map aR.cells jF))),.val p,.own v (List.map fO text1)],.row vp ((List.map aR.cells jF)).length 12 115] R:=by
 unfold jR at hf; refine AC.kH 25 [] [0] Tryz.func63 Z Z Z Z Z (AW.seq (AW.sr (AR.step Z Z Z (AO.calc' Z ?_)))); refine AR.step Z Z Z (AO.nilCheck Z Z (AR.step Z Z Z (AO.dA Z Z Bh (AR.step Z Z Z (AO.call Z _ Z Z acC (AC.frame (σ:=[_,_]) (τ:=[_]) (Ya (AR.step Z Z Z (AO.calc' Z ?_))))))))); refine AR.nil [0,6] Z (AW.cond Z (fun h1=>?_) (fun h1=>?_))
 ·
  replace hf:=j_ h1 hf; refine AW.UC 4 12 [] [.row v (List.length text1) 1 5,.kr b 104 [(.own vp ((List.map aR.cells jF))),.val p,.own v (List.map fO text1)],.row vp ((List.map aR.cells jF)).length 12 115] (fun S e s=>∃ v2:Value,e.get 0=pP b∧e.get 7=pP b∧e.get 10=pP b∧(S 4=true→e.get 11=.own vp ((List.map aR.cells jF)))∧(S 5=true→e.get 12=pP b)∧(S 6=true→e.get 13=pP b)∧(S 7=true→e.get 14=.val (.pointer (some ⟨b,1,none⟩)))∧(S 8=true→e.get 15=.str text1)∧(S 9=true→e.get 16=.agg [.str text1,.bool false,iP 0,.str ([]:Str),iP 0,.bool false,iP 0,.str ([]:Str),.own (.slice none 0 0) [],.own (.slice none 0 0) [],.own (.slice none 0 0) [],.own (.slice none 0 0) []])∧(S 10=true→e.get 17=.list ((List.map aR.cells [(aR.mk text1 false (aj.mk 0 ([]:Str) (av.mk 0 false 0 ([]:Str) [] []) [] []))])))∧(S 11=true→e.get 18=.own v2 ((List.map aR.cells r0)))∧s=(bif S 8 then [] else [.row v (List.length text1) 1 5]) ++ [.kr b 104 [(.own vp ((List.map aR.cells jF))),.val p,.own v (List.map fO text1)],bif S 11 then .row v2 ((List.map aR.cells r0)).length 12 115 else .row vp ((List.map aR.cells jF)).length 12 115]) mixed (by kernel_rfl) Z Z (List.Perm.refl _) ?_ ?_ ?_ ?_
  ·
   refine Ev.cs dh 4 Z (Ev.nil ?_); exact ⟨.nilIface,Z,Z,Z,(fun h=>by cases h),(fun h=>by cases h),(fun h=>by cases h),(fun h=>by cases h),(fun h=>by cases h),(fun h=>by cases h),(fun h=>by cases h),(fun h=>by cases h),Z⟩
  ·
   rintro S S' e s hS ⟨v2,p0,p7,Vi,q4,q5,q6,q7,q8,q9,V8,V7,qs⟩; have z:=fun i h1 h2=>(hS i h1 h2).symm; refine ⟨v2,p0,p7,Vi,?_,?_,?_,?_,?_,?_,?_,?_,?_⟩
   ·
    rw [z 4 (by decide) (by decide)]; exact q4
   ·
    rw [z 5 (by decide) (by decide)]; exact q5
   ·
    rw [z 6 (by decide) (by decide)]; exact q6
   ·
    rw [z 7 (by decide) (by decide)]; exact q7
   ·
    rw [z 8 (by decide) (by decide)]; exact q8
   ·
    rw [z 9 (by decide) (by decide)]; exact q9
   ·
    rw [z 10 (by decide) (by decide)]; exact V8
   ·
    rw [z 11 (by decide) (by decide)]; exact V7
   ·
    rw [z 8 (by decide) (by decide),z 11 (by decide) (by decide)]; exact qs
  ·
   rintro S e s i o ⟨v2,p0,p7,Vi,q4,q5,q6,q7,q8,q9,V8,V7,rfl⟩ hi1 hi2 hSi hp' ho; have hi:i=4∨i=5∨i=6∨i=7∨i=8∨i=9∨i=10∨i=11:=by omega
   rcases hi with rfl | rfl | rfl | rfl | rfl | rfl | rfl | rfl
   ·
    cases ho; refine ⟨Z,(fun t ht=>by cases ht; decide),AO.less (Less.add Vi Less.nil) ?_⟩; cases h8:S 8 with
    | false=>
     refine AO.jC (i:=1) Z Z Z Nh Z Z ?_; exact ⟨v2,p0,p7,Vi,(fun _=>Z),q5,q6,q7,(fun h=>by rw [show S 8=true from h] at h8; cases h8),q9,V8,V7,by simp [h8]⟩
    | true=>
     refine AO.jC (i:=0) Z Z Z Nh Z Z ?_; exact ⟨v2,p0,p7,Vi,(fun _=>Z),q5,q6,q7,q8,q9,V8,V7,by simp [h8]⟩
   ·
    cases ho; refine ⟨Z,(fun t ht=>by cases ht; decide),AO.less (Less.add p0 Less.nil) (AO.calc' Z ?_)⟩; exact ⟨v2,p0,p7,Vi,q4,(fun _=>Z),q6,q7,q8,q9,V8,V7,Z⟩
   ·
    cases ho; have s5:=hp' 5 (any_beq.1 Z) (by decide); refine ⟨Z,(fun t ht=>by cases ht; decide),AO.less (Less.add (q5 s5) Less.nil) (AO.nilCheck Z Z ?_)⟩; exact ⟨v2,p0,p7,Vi,q4,q5,(fun _=>Z),q7,q8,q9,V8,V7,Z⟩
   ·
    cases ho; have s6:=hp' 6 (any_beq.1 Z) (by decide); refine ⟨Z,(fun t ht=>by cases ht; decide),AO.less (Less.add (q6 s6) Less.nil) (AO.dA Z Z Bh ?_)⟩; exact ⟨v2,p0,p7,Vi,q4,q5,q6,(fun _=>Z),q8,q9,V8,V7,Z⟩
   ·
    cases ho; have s7:=hp' 7 (any_beq.1 Z) (by decide); rw [hSi]; refine ⟨Z,(fun t ht=>by cases ht; decide),AO.less (Less.add (q7 s7) Less.nil) ?_⟩; refine AO.call Z _ Z Z acB (AC.frame (σ:=[_,_]) (τ:=[_]) (RS hroom ?_)); exact ⟨v2,p0,p7,Vi,q4,q5,q6,q7,(fun _=>Z),q9,V8,V7,Z⟩
   ·
    cases ho; have s8:=hp' 8 (any_beq.1 Z) (by decide); refine ⟨Z,(fun t ht=>by cases ht; decide),AO.less (Less.add (q8 s8) Less.nil) (AO.build Z JU JD Z ?_)⟩; exact ⟨v2,p0,p7,Vi,q4,q5,q6,q7,q8,(fun _=>Z),V8,V7,Z⟩
   ·
    cases ho; have s9:=hp' 9 (any_beq.1 Z) (by decide); refine ⟨Z,(fun t ht=>by cases ht; decide),AO.less (Less.add (q9 s9) Less.nil) (AO.bS ((List.map aR.cells [(aR.mk text1 false (aj.mk 0 ([]:Str) (av.mk 0 false 0 ([]:Str) [] []) [] []))])) rfl II rfl rfl rfl (by first | rfl | simp only [List.map,aR.aT]) ?_)⟩
    exact ⟨v2,p0,p7,Vi,q4,q5,q6,q7,q8,q9,(fun _=>Z),V7,Z⟩
   ·
    cases ho; have s4:=hp' 4 (any_beq.1 Z) (by decide); have s8:=hp' 8 (any_beq.1 Z) (by decide); have s10:=hp' 10 (any_beq.1 Z) (by decide); rw [hSi,s8]; refine ⟨Z,(fun t ht=>by cases ht; decide),AO.less (Less.add (q4 s4) (Less.add (V8 s10) Less.nil)) ?_⟩; refine AO.iJ (i:=1) (l:=jF) (m:=[(aR.mk text1 false (aj.mk 0 ([]:Str) (av.mk 0 false 0 ([]:Str) [] []) [] []))]) hf Z Z Z Z Z Z Z II Bj Z Z Z (aR.dU) (aR.cells_one) (by decide) (fun v3 s2 hs2=>?_); cases hs2; exact ⟨v3,p0,p7,Vi,q4,q5,q6,q7,q8,q9,V8,(fun _=>Z),by simp [s8]⟩
  rintro S e s hS ⟨v2,p0,p7,Vi,q4,q5,q6,q7,q8,q9,V8,V7,rfl⟩; rw [hS 8 (by decide) (by decide),hS 11 (by decide) (by decide)]; refine AR.less (Less.add p0 (Less.add p7 (Less.add (V7 (hS 11 (by decide) (by decide))) Less.nil))) ?_; refine AR.step Z Z Z (AO.nilCheck Z Z (AR.step Z Z Z (AO.dA Z Z Gj ?_))); refine AR.dF Z Z (AO.o_ (i:=0) Z Z Z Nh Z Z Z Z Z ?_); refine AR.nil [0] Z (AW.region (AR.step Z Z Z (AO.calc' Z (AR.step Z Z Z (AO.nilCheck Z Z ?_))))); refine AR.step Z Z Z (AO.dA Z Z Bh (AR.step Z Z Z (AO.call Z _ Z Z ZP (AC.frame (σ:=[_]) (τ:=[_]) (L_ (AR.nil [] Z ?_)))))); exact ⟨Z,[],Z,_,List.Sublist.refl _,h v2⟩
 ·
  obtain rfl:=Option.some.inj (jG h1 hf); refine AW.skip (AW.drop1 (AW.region (AR.step Z Z Z (AO.calc' Z ?_)))); refine AR.step Z Z Z (AO.nilCheck Z Z (AR.step Z Z Z (AO.dA Z Z Bh (AR.step Z Z Z (AO.call Z _ Z Z ZP (AC.frame (σ:=[_]) (τ:=[_]) (L_ (AR.nil [] Z ?_)))))))); exact ⟨Z,[],Z,_,List.Sublist.refl _,h vp⟩
theorem DT (s1:Str) {r0:List aR} {r1:Int} {r2:Int} (hf:rH s1=some (r0,r1,r2)) (h:Q (.ret (.tuple [.list (List.map aR.cells r0),iP r1,iP r2])) τ):PC 40 [.str s1] τ Q:=by
 unfold rH at hf; refine AC.none (AC.kH 76 [.tmp 2,.tmp 3,.tmp 4] [0] Tryz.func40 Z Z Z Z Z (AW.sr (AR.step Z Z Z (AO.eF Z Z ?_)))); refine cs 2 Z (AR.nil [0] Z (AW.seq (AW.sr ?_))); refine cs 1 Z (AR.step Z Z Z (AO.bC Z Z Z Z bL Z (cs 1 Z (AR.nil [0,14] Z ?_)))); refine AW.cond Z (fun h1=>?_) (fun h1=>?_)
 · replace hf:=j_ h1 hf; refine AW.sr (AR.step Z Z Z (AO.eF Z Z (cs 2 Z (AR.nil [2,3,4] Z ?_)))); refine AW.ret ?_; cases hf; exact ⟨rfl,_,⟨_,_,rfl,rfl,_,_,rfl,rfl,_,_,rfl,rfl,rfl⟩,[],List.nil_sublist _,h⟩
 replace hf:=jG h1 hf; refine AW.skip (AW.row 12 115 (AW.sr ?_)); refine AR.step Z Z Z (AO.TL Z aam (fun b=>?_)); refine AR.nil [0,5] Z (AW.row 1 5 (AW.seq (AW.sr ?_))); refine cs 1 Z (AR.nil [0,5,6] Z (AW.block (AW.settle [0,5,6] Z ?_))); refine AW.abo (fun bO jF vp text1 vt p=>[(0,.str s1),(5,pP b),(6,iP bO)]) (fun bO jF vp text1 vt p=>[.row vt (List.length text1) 1 5,.kr b 104 [(.own vp ((List.map aR.cells jF))),.val p,.own vt (List.map fO text1)],.row vp ((List.map aR.cells jF)).length 12 115]) (fun dw bO jF vp text1 vt p=>jM s1 dw bO jF text1=some (r0,r1,r2)∧(p=Value.pointer none∨p=.pointer (some ⟨b,1,none⟩))∧roomy vt=true) BIG 0 [] (.slice none 0 0) [] (.slice none 0 0) (.pointer none) Z Z ⟨hf,.inl Z,Z⟩ (fun _ _ _ _ _ _ hz=>bQ hz.1) ?_; intro dw bO jF vp text1 vt p hfI; obtain ⟨hf,hp,hroom⟩:=hfI; rw [jM] at hf; refine AW.seq (AW.sr (cs 2 Z (AR.step Z Z Z (AO.bC Z Z Z Z bL Z ?_)))); refine cs 1 Z (AR.nil [0,5,6,18] Z (AW.cond Z (fun h2=>?_) (fun h2=>?_)))
 ·
  replace hf:=j_ h2 hf; refine AW.skip (AW.block (AW.sr (cs 2 Z ?_))); refine B1 hf fun Dc h3 hf=>AR.step Z Z Z (AO.jT h3 Z bL Z ⟨_,Z⟩ Z (cs 1 Z (AR.nil [0,5,6,7] Z (AW.block ?_)))); refine AW.sr (cs 1 Z ?_); refine B1 hf fun b1 h4 hf=>AR.step Z Z Z (AO.call Z _ Z Z ZX (xF _ _ h4 (cs 1 Z (AR.nil [0,5,6,7,29] Z (AW.cond Z (fun h5=>?_) (fun h5=>?_))))))
  · replace hf:=j_ h5 hf; refine B1 hf fun Qd h6 hf=>AW.sr (AR.step Z Z Z (AO.dA Z Z Bh (AR.step Z Z Z (AO.call Z _ Z Z ZW (AC.frame (σ:=[_,_]) (τ:=[_]) (DZ hp hroom h6 (fun v2 hr2=>(AR.nil [0,5,6] Z ?_)))))))); refine AW.region (cs 3 Z (AR.nil [0,5,6] Z ?_)); exact ⟨(bI (bO + 2)),jF,vp,Qd,v2,_,Z,Z,Z,hf,.inr Z,hr2⟩
  replace hf:=jG h5 hf; refine B1 hf fun b2 h6 hf=>AW.sr (cs 1 Z (AR.step Z Z Z (AO.call Z _ Z Z ZX (xF _ _ h6 (cs 1 Z ?_))))); refine AR.nil [0,5,6,36] Z (AW.cond Z (fun h7=>?_) (fun h7=>?_))
  ·
   replace hf:=j_ h7 hf; refine AW.sr (cs 3 Z ?_); refine B1 hf fun pR h8 hf=>AR.step Z Z Z (AO.call Z _ Z Z acG (Il _ _ h8 (cs 1 Z (AR.nil [0,5,6,8] Z (AW.seq ?_))))); refine AW.sr (cs 2 Z (AR.nil [0,5,6,8,44] Z (AW.cond Z (fun h9=>?_) (fun h9=>?_))))
   · replace hf:=j_ h9 hf; refine AW.sr (cs 1 Z (AR.step Z Z Z (AO.eF Z Z (cs 2 Z ?_)))); refine AR.nil [2,3,4] Z (AW.ret ?_); cases hf; exact ⟨rfl,_,⟨_,_,rfl,rfl,_,_,rfl,rfl,_,_,rfl,rfl,rfl⟩,[],List.nil_sublist _,h⟩
   replace hf:=jG h9 hf; refine AW.skip (AW.sr (cs 4 Z ?_)); refine B1 hf fun x1 h10 hf=>AR.step Z Z Z (AO.jT h10 Z bL Z ⟨_,Z⟩ ⟨_,Z⟩ ?_); obtain ⟨e1,n1,vo,h11,hf⟩:=eH hf; refine AR.step Z Z Z (AO.call Z _ Z Z acF (LV _ h11 (cs 4 Z (AR.step Z Z Z (AO.aQ Z fF (fun b9=>(AR.dF Z Z (AO.fB (i:=0) Z Z Z iL Z Z Z Z Z ?_)))))))); refine cs 2 Z (AR.nil [0,5,6,8,9,10,11] Z (AW.seq (AW.sr ?_))); refine cs 2 Z (AR.nil [0,5,6,8,9,10,11,57] Z (AW.cond Z (fun h12=>?_) (fun h12=>?_)))
   · replace hf:=j_ h12 hf; refine AW.sr (cs 5 Z (AR.step Z Z Z (AO.eF Z Z (cs 2 Z ?_)))); refine AR.nil [2,3,4] Z (AW.ret ?_); cases hf; exact ⟨rfl,_,⟨_,_,rfl,rfl,_,_,rfl,rfl,_,_,rfl,rfl,rfl⟩,[],List.nil_sublist _,h⟩
   replace hf:=jG h12 hf; refine B1 hf fun OC kY hf=>B1 hf fun OB lu hf=>AW.skip (AW.sr (AR.step Z Z Z (AO.call Z _ Z Z ZU (AC.perm (Vg _ _ _ _) (AC.frame (σ:=[_,_,_]) (τ:=[_]) (vC kY hroom (fun vp2=>(AR.nil [0,5,8,9] Z ?_)))))))); refine AW.row 1 5 (AW.sr (AR.step Z Z Z (AO.dA Z Z Gj ?_))); refine AR.step Z Z Z (AO.jC (i:=1) Z Z Z Nh Z Z ?_); refine AR.step rfl rfl rfl (AO.eP (i:=3) rfl rfl rfl iL rfl rfl (AR.step rfl rfl rfl (AO.build rfl JU JD rfl (AR.step rfl rfl rfl (AO.bS ((List.map aR.cells [(aR.mk ([]:Str) true e1)])) rfl II rfl rfl rfl (by first | rfl | simp only [List.map,aR.aT]) ?_))))); refine AR.step Z Z Z (AO.iJ (i:=2) (l:=OC) (m:=[(aR.mk ([]:Str) true e1)]) lu Z Z Z Z Z Z Z II Bj Z Z Z (aR.dU) (aR.cells_one) (by decide) (fun vp3 s2 hs2=>?_)); cases hs2
   refine AR.step Z Z Z (AO.dA Z Z Gj ?_); refine AR.dF Z Z (AO.o_ (i:=1) Z Z Z Nh Z Z Z Z Z ?_); refine AR.nil [0,5,8] Z (AW.Dy 3 Z (AW.region (cs 3 Z ?_))); refine AR.nil [0,5,6] Z ?_; exact ⟨(bI (pR + 1)),OB,vp3,[],.slice none 0 0,_,Z,Z,Z,hf,.inl Z,Z⟩
  replace hf:=jG h7 hf; refine B1 hf fun c1 h8 hf=>B1 hf fun WR h9 hf=>AW.sr (AR.step Z Z Z (AO.dA Z Z Bh (cs 2 Z (AR.step Z Z Z (AO.bP h8 Z bL Z Z ?_))))); refine AR.step Z Z Z (AO.call Z _ Z Z ZW (AC.frame (σ:=[_,_]) (τ:=[_]) (DZ hp hroom h9 (fun v2 hr2=>(AR.nil [0,5,6] Z (AW.region (cs 3 Z ?_))))))); refine AR.nil [0,5,6] Z ?_; exact ⟨(bI (bO + 1)),jF,vp,WR,v2,_,Z,Z,Z,hf,.inr Z,hr2⟩
 replace hf:=jG h2 hf; refine B1 hf fun Um h3 hf=>AW.exit (AW.sr (AR.step Z Z Z (AO.call Z _ Z Z ZU (vC h3 hroom (fun vp2=>(AR.nil [5] Z ?_)))))); refine AW.sr (AR.step Z Z Z (AO.dA Z Z Gj ?_)); refine AR.step Z Z Z (AO.jC (i:=0) Z Z Z Nh Z Z ?_); refine cs 3 Z (AR.nil [2,3,4] Z (AW.ret ?_)); cases hf; exact ⟨rfl,_,⟨_,_,rfl,rfl,_,_,rfl,rfl,_,_,rfl,rfl,rfl⟩,[],List.nil_sublist _,h⟩
end
section
variable [Jy]
theorem zY (s1:Str) {r0:Int} (hf:jv s1=some r0) (h:Q (.ret (iP r0)) τ):PC 24 [.str s1] τ Q:=by
 unfold jv at hf; refine BN 15 [.tmp 2] [0] Tryz.func24 Z Z Z Z Z (V 3 Z (C hf Z (fun h1 hf=>?_) fun h1 hf=>?_))
 · cases hf; exact M 1 Z (Y Z h)
 obtain ⟨x1,x2,e1,h2,hf⟩:=eH hf; refine W 1 Z (CL Z (DT _ h2 ?_)); cases hf; exact N 9 Z (Y Z h)
end
theorem ze (s1:Str) (kF:Str) {r0:Str} (hf:kS s1 kF=some r0) (h:Q (.ret (.str r0)) τ):PC 42 [.str s1,.str kF] τ Q:=by
 unfold kS at hf; refine BN 13 [.tmp 4] [0,1] Tryz.func42 Z Z Z Z Z ?_; refine B1 hf fun x1 h1 hf=>W 3 Z (CL Z (rV _ _ h1 (J 0 Z (C hf Z (fun h2 hf=>?_) fun h2 hf=>?_))))
 · refine W 2 Z (AS Z (AO.bC Z Z Z Z bL Z ?_)); refine BR hf fun x2 h3 hf=>?_; refine AS Z (AO.jT h3 Z bL Z ⟨_,Z⟩ Z ?_); cases hf; exact N 1 Z (Y Z h)
 cases hf; exact M 2 Z (Y Z h)
theorem DJ (s1:Str) (kF:Str) {r0:Str} (hf:strings_TrimPrefix s1 kF=some r0) (h:Q (.ret (.str r0)) τ):PC 26 [.str s1,.str kF] τ Q:=by
 unfold strings_TrimPrefix at hf; refine BN 8 [.tmp 4] [0,1] Tryz.func26 Z Z Z Z Z ?_; refine BR hf fun x1 h1 hf=>?_; refine W 3 Z (CL Z (ze _ _ h1 ?_)); cases hf; exact N 1 Z (Y Z h)
theorem Cy (p1:Nat) (s1:List (BitVec 64)) (c1:UInt8) {Ql:List (BitVec 64)} (hf:qw s1 c1=some Ql) {Q:fq→List bn→Prop} (h:Q (.ret (.tuple [])) [.box p1 [.int .u64 ((Ql.getD 0 0).toNat:Int),.int .u64 ((Ql.getD 1 0).toNat:Int),.int .u64 ((Ql.getD 2 0).toNat:Int),.int .u64 ((Ql.getD 3 0).toNat:Int)]]):PC 113 [pP p1,.int .u8 (c1.toNat:Int)] [.box p1 [.int .u64 ((s1.getD 0 0).toNat:Int),.int .u64 ((s1.getD 1 0).toNat:Int),.int .u64 ((s1.getD 2 0).toNat:Int),.int .u64 ((s1.getD 3 0).toNat:Int)]] Q:=by
 unfold qw at hf; refine BD 16 [] [0,1] Tryz.func113 Z Z Z Z Z (AW.draw 12 mixed (by kernel_rfl) Z ?_); refine Ev.cs dh 2 Z (Ev.cons Z Z Z (AO.u8_quo c1 64 Z Z Z Z Z (by decide) zg) ?_); refine Ev.cs dh 1 Z ?_; refine B1 hf fun e1 h1 hf=>Ev.cons Z Z Z (AO.oN h1 Z Mf Z Z Z zg) (Ev.cons Z Z Z (AO.NA (i:=0) (fun z:BitVec 64=>.int .u64 (z.toNat:Int)) h1 Z Z Z Ni Z zg) (Ev.cs dh 1 Z (Ev.cons Z Z Z (AO.Si c1 64 Z Z Z Z Z (by decide) zg) ?_))); refine Ev.cons Z Z Z (AO.FE (1:BitVec 64) ((c1 % 64).toNat) Z Z Z Z Z zg) ?_; refine B1 hf fun x1 h2 hf=>Ev.cons Z Z Z (AO.P6 e1 ((1:BitVec 64) <<< (c1 % 64).toNat) h2 Z Z Z Z Z zg) (Ev.cs dh 1 Z ?_); refine B1 hf fun e2 h3 hf=>Ev.cons Z Z Z (AO.oN h3 Z Mf Z Z Z zg) (Ev.nil ?_); show AR _ _ _ _ _ _ _ _; refine B1 hf fun y1 h4 hf=>AR.dF Z Z (AO.ET (i:=0) (fun z:BitVec 64=>.int .u64 (z.toNat:Int)) 0 h3 h4 Z Z Z Ni Z Z Z Z Z Z ?_); cases hf; exact N 0 rfl ⟨rfl,_,rfl,_,(.cons_cons _ (List.nil_sublist _)),h⟩
theorem DV (Ot:Bool) {r0:List (BitVec 64)} (hf:ug Ot=some r0) (h:Q (.ret (.agg [.int .u64 ((r0.getD 0 0).toNat:Int),.int .u64 ((r0.getD 1 0).toNat:Int),.int .u64 ((r0.getD 2 0).toNat:Int),.int .u64 ((r0.getD 3 0).toNat:Int)])) τ):PC 88 [.bool Ot] τ Q:=by
 unfold ug at hf; refine BN 9 [.cell 2 93] [0] Tryz.func88 Z Z Z Z Z (W 0 Z (AS Z (AO.aQ Z M7 (fun b2=>(U 0 Z (AS Z (AO.Br Z M7 Mf Z (AS Z (AO.aQ Z M7 (fun b3=>?_)))))))))); refine Rw 3 [0] Z Z (C hf Z (fun h1 hf=>?_) fun h1 hf=>?_)
 · refine B1 hf fun y1 h2 hf=>W 0 Z (CL Z (AC.one 0 Z (Cy _ _ _ h2 ⟨_,Z,?_⟩))); cases hf; exact Rx 2 [0,1] Z Z (ZC [1] Z Z h)
 cases hf; exact Wx 2 [0,1] Z Z (ZC [1] Z Z h)
theorem I8 (s1:Str) {r0:UInt8} {r1:Int} (hf:qx s1=some (r0,r1)) (h:Q (.ret (.tuple [.int .u8 (r0.toNat:Int),iP r1])) τ):PC 114 [.str s1] τ Q:=by
 unfold qx at hf; refine BN 26 [.tmp 2,.tmp 3] [0] Tryz.func114 Z Z Z Z Z ?_; refine B1 hf fun b1 h2 hf=>W 5 Z (AR.dS 4 6 10 false [0] b1 Z Z (fun h1=>?_) (fun h1=>?_) ?_)
 · refine IF 6 h1 h2 Z fun h2=>?_; refine B1 h2 fun x1 h3 h2=>U 1 Z (GO Z (AO.bP h3 Z bL Z Z ?_)); cases h2; exact eD 2 Z (En [10,0] Z)
 · refine IT 6 h1 h2 Z fun h2=>?_; cases h2; exact eD 4 Z (En [10,0] Z)
 refine B1 hf fun b2 h5 hf=>U 1 Z (AR.dS 4 11 15 false [0] b2 Z Z (fun h4=>?_) (fun h4=>?_) ?_)
 · refine IF 11 h4 h5 Z fun h5=>?_; refine B1 h5 fun x2 h6 h5=>U 1 Z (GO Z (AO.bP h6 Z bL Z Z ?_)); cases h5; exact eD 2 Z (En [15,0] Z)
 · refine IT 11 h4 h5 Z fun h5=>?_; cases h5; exact eD 4 Z (En [15,0] Z)
 refine J 0 Z (C hf Z (fun h7 hf=>?_) fun h7 hf=>?_)
 · cases hf; exact M 2 Z (Y Z h)
 refine B1 hf fun x3 h8 hf=>W 1 Z (AS Z (AO.bP h8 Z bL Z Z (J 1 Z (C hf Z (fun h9 hf=>?_) fun h9 hf=>?_))))
 · refine B1 hf fun x4 h10 hf=>W 1 Z (AS Z (AO.bP h10 Z bL Z Z ?_)); cases hf; exact N 2 Z (Y Z h)
 refine W 1 Z (AS Z (AO.bC Z Z Z Z bL Z (J 1 Z (C hf Z (fun h11 hf=>?_) fun h11 hf=>?_))))
 · cases hf; exact M 2 Z (Y Z h)
 refine B1 hf fun x5 h12 hf=>W 1 Z (AS Z (AO.bP h12 Z bL Z Z ?_)); cases hf; exact N 2 Z (Y Z h)
theorem DU (p1:Nat) (s1:List (BitVec 64)) (c1:UInt8) {Ql:List (BitVec 64)} (hf:lZ s1 c1=some Ql) {Q:fq→List bn→Prop} (h:Q (.ret (.tuple [])) [.box p1 [.int .u64 ((Ql.getD 0 0).toNat:Int),.int .u64 ((Ql.getD 1 0).toNat:Int),.int .u64 ((Ql.getD 2 0).toNat:Int),.int .u64 ((Ql.getD 3 0).toNat:Int)]]):PC 115 [pP p1,.int .u8 (c1.toNat:Int)] [.box p1 [.int .u64 ((s1.getD 0 0).toNat:Int),.int .u64 ((s1.getD 1 0).toNat:Int),.int .u64 ((s1.getD 2 0).toNat:Int),.int .u64 ((s1.getD 3 0).toNat:Int)]] Q:=by
 unfold lZ at hf; refine BD 16 [] [0,1] Tryz.func115 Z Z Z Z Z (AW.draw 12 mixed (by kernel_rfl) Z ?_); refine Ev.cs dh 2 Z (Ev.cons Z Z Z (AO.u8_quo c1 64 Z Z Z Z Z (by decide) zg) ?_); refine Ev.cs dh 1 Z ?_; refine B1 hf fun e1 h1 hf=>Ev.cons Z Z Z (AO.oN h1 Z Mf Z Z Z zg) (Ev.cons Z Z Z (AO.NA (i:=0) (fun z:BitVec 64=>.int .u64 (z.toNat:Int)) h1 Z Z Z Ni Z zg) (Ev.cs dh 1 Z (Ev.cons Z Z Z (AO.Si c1 64 Z Z Z Z Z (by decide) zg) ?_))); refine Ev.cons Z Z Z (AO.FE (1:BitVec 64) ((c1 % 64).toNat) Z Z Z Z Z zg) ?_; refine B1 hf fun x1 h2 hf=>Ev.cons Z Z Z (AO.JA e1 ((1:BitVec 64) <<< (c1 % 64).toNat) h2 Z Z Z Z Z zg) (Ev.cs dh 1 Z ?_); refine B1 hf fun e2 h3 hf=>Ev.cons Z Z Z (AO.oN h3 Z Mf Z Z Z zg) (Ev.nil ?_); show AR _ _ _ _ _ _ _ _; refine B1 hf fun y1 h4 hf=>AR.dF Z Z (AO.ET (i:=0) (fun z:BitVec 64=>.int .u64 (z.toNat:Int)) 0 h3 h4 Z Z Z Ni Z Z Z Z Z Z ?_); cases hf; exact N 0 rfl ⟨rfl,_,rfl,_,(.cons_cons _ (List.nil_sublist _)),h⟩
theorem Gz (p1:Nat) (s1:List (BitVec 64)) (c1:UInt8) (more:List PV) {Ql:List (BitVec 64)} (hf:lZ s1 c1=some Ql) {Q:fq→List bn→Prop} (h:Q (.ret (.tuple [])) [.box p1 (.int .u64 ((Ql.getD 0 0).toNat:Int) :: .int .u64 ((Ql.getD 1 0).toNat:Int) :: .int .u64 ((Ql.getD 2 0).toNat:Int) :: .int .u64 ((Ql.getD 3 0).toNat:Int) :: more)]):PC 115 [pP p1,.int .u8 (c1.toNat:Int)] [.box p1 (.int .u64 ((s1.getD 0 0).toNat:Int) :: .int .u64 ((s1.getD 1 0).toNat:Int) :: .int .u64 ((s1.getD 2 0).toNat:Int) :: .int .u64 ((s1.getD 3 0).toNat:Int) :: more)] Q:=by
 unfold lZ at hf; refine BD 16 [] [0,1] Tryz.func115 Z Z Z Z Z (AW.draw 12 mixed (by kernel_rfl) Z ?_); refine Ev.cs dh 2 Z (Ev.cons Z Z Z (AO.u8_quo c1 64 Z Z Z Z Z (by decide) zg) ?_); refine Ev.cs dh 1 Z ?_; refine B1 hf fun e1 h1 hf=>Ev.cons Z Z Z (AO.oN h1 Z Mf Z Z Z zg) (Ev.cons Z Z Z (AO.Vr (i:=0) (more:=more) (fun z:BitVec 64=>.int .u64 (z.toNat:Int)) h1 Z Z Z Ni Z zg) (Ev.cs dh 1 Z (Ev.cons Z Z Z (AO.Si c1 64 Z Z Z Z Z (by decide) zg) ?_))); refine Ev.cons Z Z Z (AO.FE (1:BitVec 64) ((c1 % 64).toNat) Z Z Z Z Z zg) ?_; refine B1 hf fun x1 h2 hf=>Ev.cons Z Z Z (AO.JA e1 ((1:BitVec 64) <<< (c1 % 64).toNat) h2 Z Z Z Z Z zg) (Ev.cs dh 1 Z ?_); refine B1 hf fun e2 h3 hf=>Ev.cons Z Z Z (AO.oN h3 Z Mf Z Z Z zg) (Ev.nil ?_); show AR _ _ _ _ _ _ _ _; refine B1 hf fun y1 h4 hf=>AR.dF Z Z (AO.Sv (i:=0) (more:=more) (fun z:BitVec 64=>.int .u64 (z.toNat:Int)) 0 h3 h4 Z Z Z Ni Z Z Z Z Z Z ?_); cases hf; exact N 0 rfl ⟨rfl,_,rfl,_,(.cons_cons _ (List.nil_sublist _)),h⟩
theorem Pn (s1:Str) {r0:List (BitVec 64)} {r1:Int} (hf:BU s1=some (r0,r1)) (h:Q (.ret (.tuple [.agg [.int .u64 ((r0.getD 0 0).toNat:Int),.int .u64 ((r0.getD 1 0).toNat:Int),.int .u64 ((r0.getD 2 0).toNat:Int),.int .u64 ((r0.getD 3 0).toNat:Int)],iP r1])) τ):PC 89 [.str s1] τ Q:=by
 unfold BU at hf; refine BN 88 [.cell 2 93,.tmp 3] [0] Tryz.func89 Z Z Z Z Z (W 0 Z (AS Z (AO.aQ Z M7 (fun b2=>(U 1 Z (AS Z (AO.aQ Z M7 (fun b4=>?_)))))))); refine J 1 Z (JQ (fun bO cK=>[(0,.str s1),(2,pP b2),(4,pP b4),(5,iP bO)]) (fun bO cK=>[.box b4 [.int .u64 ((cK.getD 0 0).toNat:Int),.int .u64 ((cK.getD 1 0).toNat:Int),.int .u64 ((cK.getD 2 0).toNat:Int),.int .u64 ((cK.getD 3 0).toNat:Int)],.box b2 [.int .u64 0,.int .u64 0,.int .u64 0,.int .u64 0]]) (fun dw bO cK=>iY s1 dw bO cK=some (r0,r1)) BIG 1 ([0,0,0,0]:List (BitVec 64)) Z Z hf (fun _ _ hz=>bQ hz) ?_); intro dw bO cK hf; rw [iY] at hf; refine B1 hf fun b1 h2 hf=>W 3 Z (AR.dS 11 12 23 false [0,2,4,5] b1 Z Z (fun h1=>?_) (fun h1=>?_) ?_)
 ·
  replace h2:=jG h1 h2; refine Is 12 h1 Z (U 2 Z (GO Z (AO.bC Z Z Z Z bL Z ?_))); refine BR h2 fun b2 h4 h2=>?_; refine U 2 Z (AR.dS 5 17 22 true [0,2,4,5,12] b2 Z Z (fun h3=>?_) (fun h3=>?_) ?_)
  · refine IT 17 h3 h4 Z fun h4=>?_; refine B1 h4 fun x1 h5 h4=>U 2 Z (GO Z (AO.bP h5 Z bL Z Z ?_)); cases h4; exact eD 2 Z (En [22,0,2,4,5,12] Z)
  · refine IF 17 h3 h4 Z fun h4=>?_; cases h4; exact eD 5 Z (En [22,0,2,4,5,12] Z)
  cases h2; exact eD 1 Z (En [23,0,2,4,5] Z)
 · refine IT 12 h1 h2 Z fun h2=>?_; cases h2; exact eD 11 Z (En [23,0,2,4,5] Z)
 refine J 0 Z (C hf Z (fun h6 hf=>?_) fun h6 hf=>?_)
 ·
  refine B1 hf fun x2 h7 hf=>W 2 Z (AS Z (AO.jT h7 Z bL Z ⟨_,Z⟩ Z ?_)); obtain ⟨lQ,n1,h8,hf⟩:=dN hf; refine CL Z (I8 _ h8 (J 7 Z (C hf Z (fun h9 hf=>?_) fun h9 hf=>?_)))
  · cases hf; exact Wx 3 [0,1] Z Z (ZC [1] Z Z h)
  refine W 8 Z (AS Z (AO.bC Z Z Z Z bL Z ?_)); refine B1 hf fun b3 h11 hf=>U 2 Z (AR.dS 5 42 47 true [0,2,4,5,6,8] b3 Z Z (fun h10=>?_) (fun h10=>?_) ?_)
  · refine IT 42 h10 h11 Z fun h11=>?_; refine B1 h11 fun x3 h12 h11=>U 2 Z (GO Z (AO.bP h12 Z bL Z Z ?_)); cases h11; exact eD 2 Z (En [47,0,2,4,5,6,8] Z)
  · refine IF 42 h10 h11 Z fun h11=>?_; cases h11; exact eD 5 Z (En [47,0,2,4,5,6,8] Z)
  refine J 0 Z (C hf Z (fun kY hf=>?_) fun kY hf=>?_)
  ·
   refine B1 hf fun x4 lu hf=>W 3 Z (AS Z (AO.jT lu Z bL Z ⟨_,Z⟩ Z ?_)); obtain ⟨uS,n2,pK,hf⟩:=dN hf; refine CL Z (I8 _ pK (U 8 Z (On 4 58 62 [0,2,4,5,6,7,8] (decide ((uS.toNat:Int) < (lQ.toNat:Int))) Z Z Z Z (J 0 Z (C hf Z (fun wV hf=>?_) fun wV hf=>?_)))))
   · cases hf; exact Wx 3 [0,1] Z Z (ZC [1] Z Z h)
   refine W 6 Z (AS Z (AO.ni Z xJ BA Z Z ?_)); refine J 1 Z (JQ (fun c1 qc=>[(0,.str s1),(2,pP b2),(4,pP b4),(5,iP (bI ((bI (bO + n1)) + (bI (1 + n2))))),(8,.int .u8 (uS.toNat:Int)),(9,iP c1)]) (fun c1 qc=>[.box b4 [.int .u64 ((qc.getD 0 0).toNat:Int),.int .u64 ((qc.getD 1 0).toNat:Int),.int .u64 ((qc.getD 2 0).toNat:Int),.int .u64 ((qc.getD 3 0).toNat:Int)],.box b2 [.int .u64 0,.int .u64 0,.int .u64 0,.int .u64 0]]) (fun xW c1 qc=>oC bO n1 uS n2 (iY s1 dw) xW c1 qc=some (r0,r1)) BIG (lQ.toNat:Int) ([(cK.getD 0 0),(cK.getD 1 0),(cK.getD 2 0),(cK.getD 3 0)]:List (BitVec 64)) Z Z hf (fun _ _ hz=>bQ hz) ?_); intro xW c1 qc hf; rw [oC] at hf; refine W 2 Z (AS Z (AO.ni Z xJ BA Z Z (J 1 Z (C hf Z (fun h18 hf=>?_) fun h18 hf=>?_))))
   · refine W 1 Z (AS Z (AO.Gq Z BA xJ Z ?_)); refine B1 hf fun y1 h19 hf=>CL Z (AC.one 0 Z (DU _ _ _ h19 ⟨_,Z,?_⟩)); exact N 3 Z ⟨(bI (c1 + 1)),([(y1.getD 0 0),(y1.getD 1 0),(y1.getD 2 0),(y1.getD 3 0)]:List (BitVec 64)),Z,Z,Z,hf⟩
   exact M 0 Z ⟨(bI ((bI (bO + n1)) + (bI (1 + n2)))),([(qc.getD 0 0),(qc.getD 1 0),(qc.getD 2 0),(qc.getD 3 0)]:List (BitVec 64)),Z,Z,Z,hf⟩
  refine W 1 Z (AS Z (AO.ni Z xJ BA Z Z ?_)); refine J 1 Z (JQ (fun c2 rY=>[(0,.str s1),(2,pP b2),(4,pP b4),(5,iP (bI (bO + n1))),(8,.int .u8 (lQ.toNat:Int)),(9,iP c2)]) (fun c2 rY=>[.box b4 [.int .u64 ((rY.getD 0 0).toNat:Int),.int .u64 ((rY.getD 1 0).toNat:Int),.int .u64 ((rY.getD 2 0).toNat:Int),.int .u64 ((rY.getD 3 0).toNat:Int)],.box b2 [.int .u64 0,.int .u64 0,.int .u64 0,.int .u64 0]]) (fun kk3 c2 rY=>oz bO lQ n1 (iY s1 dw) kk3 c2 rY=some (r0,r1)) BIG (lQ.toNat:Int) ([(cK.getD 0 0),(cK.getD 1 0),(cK.getD 2 0),(cK.getD 3 0)]:List (BitVec 64)) Z Z hf (fun _ _ hz=>bQ hz) ?_); intro kk3 c2 rY hf; rw [oz] at hf; refine W 2 Z (AS Z (AO.ni Z xJ BA Z Z (J 1 Z (C hf Z (fun h20 hf=>?_) fun h20 hf=>?_))))
  · refine W 1 Z (AS Z (AO.Gq Z BA xJ Z ?_)); refine B1 hf fun y2 h21 hf=>CL Z (AC.one 0 Z (DU _ _ _ h21 ⟨_,Z,?_⟩)); exact N 3 Z ⟨(bI (c2 + 1)),([(y2.getD 0 0),(y2.getD 1 0),(y2.getD 2 0),(y2.getD 3 0)]:List (BitVec 64)),Z,Z,Z,hf⟩
  exact M 0 Z ⟨(bI (bO + n1)),([(rY.getD 0 0),(rY.getD 1 0),(rY.getD 2 0),(rY.getD 3 0)]:List (BitVec 64)),Z,Z,Z,hf⟩
 refine W 2 Z (AS Z (AO.bC Z Z Z Z bL Z (J 1 Z (C hf Z (fun h22 hf=>?_) fun h22 hf=>?_))))
 · cases hf; exact Wx 3 [0,1] Z Z (ZC [1] Z Z h)
 refine B1 hf fun y3 h23 hf=>W 0 Z (CL Z (AC.one 0 Z (Cy _ _ _ h23 ⟨_,Z,?_⟩))); cases hf; exact Rx 5 [0,1] Z Z (ZC [1] Z Z h)
theorem DW (c1:UInt8) {r0:dD} (hf:rM c1=some r0) (h:Q (.ret (.agg (Gb r0))) τ):PC 90 [.int .u8 (c1.toNat:Int)] τ Q:=by
 unfold rM at hf; refine BN 10 [.cell 2 95] [0] Tryz.func90 Z Z Z Z Z (W 0 Z (AS Z (AO.aQ Z TQ (fun b2=>(U 2 Z (AS Z (AO.aQ Z TQ (fun b3=>?_)))))))); refine B1 hf fun y1 h1 hf=>Rr 3 [0] Z Z (CL Z (AC.one 0 Z (Gz _ _ _ _ h1 ⟨_,Z,?_⟩))); cases hf; exact Rx 2 [0,1] Z Z (ZC [1] Z Z h)
theorem Pm (p1:Str) {r0:dD} {r1:Int} (hf:vS p1=some (r0,r1)) (h:Q (.ret (.tuple [.agg (Gb r0),iP r1])) τ):PC 64 [.str p1] τ Q:=by
 unfold vS at hf; refine BN 48 [.cell 2 95,.tmp 3] [0] Tryz.func64 Z Z Z Z Z (W 0 Z (AS Z (AO.aQ Z TQ (fun b2=>?_)))); refine B1 hf fun x1 h1 hf=>U 2 Z (AS Z (AO.bP h1 Z bL Z Z (J 2 Z (C hf Z (fun h2 hf=>?_) fun h2 hf=>?_))))
 ·
  refine W 1 Z (AS Z (AO.bC Z Z Z Z bL Z ?_)); refine B1 hf fun b1 h4 hf=>U 2 Z (AR.dS 4 13 17 true [2] b1 Z Z (fun h3=>?_) (fun h3=>?_) ?_)
  · refine IT 13 h3 h4 Z fun h4=>?_; refine B1 h4 fun x2 h5 h4=>U 1 Z (GO Z (AO.bP h5 Z bL Z Z ?_)); cases h4; exact eD 2 Z (En [17,2] Z)
  · refine IF 13 h3 h4 Z fun h4=>?_; cases h4; exact eD 4 Z (En [17,2] Z)
  refine J 0 Z (C hf Z (fun h6 hf=>?_) fun h6 hf=>?_)
  · refine B1 hf fun x3 h7 hf=>W 0 Z (CL Z (DV _ h7 ?_)); cases hf; exact Rx 3 [0] Z Z (ZC [0] Z Z h)
  refine B1 hf fun x4 h8 hf=>W 0 Z (CL Z (DV _ h8 ?_)); cases hf; exact Rx 3 [0] Z Z (ZC [0] Z Z h)
 refine V 2 Z (C hf Z (fun h9 hf=>?_) fun h9 hf=>?_)
 · refine B1 hf fun x5 h10 hf=>W 0 Z (CL Z (DV _ h10 ?_)); cases hf; exact Rx 3 [0] Z Z (ZC [0] Z Z h)
 refine V 2 Z (C hf Z (fun h11 hf=>?_) fun h11 hf=>?_)
 · obtain ⟨x6,n1,h12,hf⟩:=dN hf; refine W 1 Z (CL Z (Pn _ h12 (U 3 Z (AS Z (AO.aQ Z M7 (fun b4=>?_)))))); cases hf; exact Rx 7 [0,0,1] Z Z (ZC [1] Z Z h)
 refine V 2 Z (C hf Z (fun kY hf=>?_) fun kY hf=>?_)
 ·
  refine W 1 Z (AS Z (AO.bC Z Z Z Z bL Z (J 1 Z (C hf Z (fun lu hf=>?_) fun lu hf=>?_))))
  · cases hf; exact Wx 3 [0] Z Z (ZC [0] Z Z h)
  refine B1 hf fun x7 pK hf=>W 1 Z (AS Z (AO.bP pK Z bL Z Z ?_)); refine B1 hf fun x8 h16 hf=>CL Z (DW _ h16 ?_); cases hf; exact Rx 2 [0] Z Z (ZC [0] Z Z h)
 refine B1 hf fun x9 wV hf=>W 1 Z (AS Z (AO.bP wV Z bL Z Z ?_)); refine B1 hf fun JX h18 hf=>CL Z (DW _ h18 ?_); cases hf; exact Rx 2 [0] Z Z (ZC [0] Z Z h)
theorem Pk (p1:Str) {r0:List dD} {r1:Int} (hf:BS p1=some (r0,r1)) (h:Q (.ret (.tuple [.list (List.map dD.cells r0),iP r1])) τ):PC 41 [.str p1] τ Q:=by
 unfold BS at hf; refine BN 27 [.tmp 2,.tmp 3] [0] Tryz.func41 Z Z Z Z Z (W 0 Z (AS Z (AO.eF Z Z (U 2 Z (AS Z (AO.bC Z Z Z Z bL Z (J 1 Z (C hf Z (fun h1 hf=>?_) fun h1 hf=>?_))))))))
 · refine W 0 Z (AS Z (AO.eF Z Z ?_)); cases hf; exact N 1 Z (Y Z h)
 refine V 1 Z (AW.row 7 95 (YD (fun p2 l1 v1=>[(0,.str p2),(4,.own v1 (List.map dD.cells l1))]) (fun p2 l1 v1=>[.row v1 (List.map dD.cells l1).length 7 95]) (fun dw p2 l1 v1=>mg dw p2 l1=some (r0,r1)) BIG p1 [] (.slice none 0 0) Z Z hf (fun _ _ _ hz=>bQ hz) ?_)); intro dw p2 l1 v1 hf; rw [mg] at hf; refine V 2 Z (C hf Z (fun h2 hf=>?_) fun h2 hf=>?_)
 ·
  obtain ⟨x1,n1,h3,hf⟩:=dN hf; refine W 1 Z (CL Z (Pm _ h3 (U 3 Z (AS Z (AO.aQ Z TQ (fun b5=>(Rw 4 [0] Z Z (C hf Z (fun h4 hf=>?_) fun h4 hf=>?_))))))))
  · refine W 0 Z (AS Z (AO.eF Z Z ?_)); cases hf; exact N 1 Z (Y Z h)
  refine Wr 2 [0] rfl rfl (AS rfl (AO.bS (List.map dD.cells [x1]) rfl ZM rfl rfl rfl (by first | rfl | simp only [List.map,dD.aT]) ?_)); refine B1 hf fun l2 h5 hf=>AS Z (AO.iJ (i:=1) (l:=l1) (m:=[x1]) h5 Z Z Z Z Z Z Z ZM adn Z Z Z (dD.dU) (dD.cells_one) (by decide) (fun v2 s1 hs1=>?_)); cases hs1; refine B1 hf fun p3 h6 hf=>U 3 Z (AS Z (AO.jT h6 Z bL Z ⟨_,Z⟩ Z (eD 1 Z (AR.drop1 ?_)))); exact N 0 Z ⟨p3,l2,v2,Z,Z,Z,hf⟩
 cases hf; exact M 3 Z (Y Z h)
theorem Po (F5:Str) {r0:Int} (hf:vT F5=some r0) (h:Q (.ret (iP r0)) τ):PC 25 [.str F5] τ Q:=by
 unfold vT at hf; refine BN 11 [.tmp 2] [0] Tryz.func25 Z Z Z Z Z ?_; obtain ⟨x1,e1,h1,hf⟩:=dN hf; refine W 2 Z (CL Z (Pk _ h1 ?_)); cases hf; exact N 7 Z (Y Z h)
section
variable [Jy]
theorem Bp (c1:bF) {r0:Int} (hf:oV c1=some r0) (h:Q (.ret (iP r0)) τ):PC 9 [.agg (l8 c1)] τ Q:=by
 unfold oV at hf; refine BN 53 [.tmp 2] [0] Tryz.func9 Z Z Z Z Z ?_; refine B1 hf fun e1 h1 hf=>W 4 Z (CL Z (zY _ h1 (J 3 Z (C hf Z (fun h2 hf=>?_) fun h2 hf=>?_))))
 · cases hf; exact M 2 Z (Y Z h)
 refine W 2 Z (AS Z (AO.aV (l:=c1.restore) Z Z Z Z gX Z Z (U 2 Z (AR.or 5 20 25 [1] (x:=(decide (1024 < (c1.files.length:Int)))) Z Z (fun h3=>?_) (fun h3=>?_) ?_))))
 · refine Is 20 h3 Z (U 2 Z (GO Z (AO.aV (l:=c1.files) Z Z Z Z gX Z Z ?_))); exact eD 2 Z (En [25,1] Z)
 · refine Is 20 h3 Z ?_; exact eD 5 Z (En [25,1] Z)
 refine J 0 Z (C hf Z (fun h4 hf=>?_) fun h4 hf=>?_)
 · cases hf; exact M 1 Z (Y Z h)
 refine W 2 Z (AS Z (AO.aV (l:=c1.restore) Z Z Z Z gX Z Z (J 1 Z (CK (fun x1=>[(1,.ref (l8 c1)),(27,sP c1.restore),(28,iP (c1.restore.length:Int)),(29,iP x1)]) (fun x1=>[]) (fun dw x1=>lI c1 dw x1=some r0) BIG 0 Z Z hf (fun _ hz=>bQ hz) ?_)))); intro dw x1 hf; rw [lI] at hf; refine V 1 Z (C hf Z (fun h5 hf=>?_) fun h5 hf=>?_)
 ·
  refine B1 hf fun s1 h6 hf=>W 0 Z (AS Z (AO.cZ h6 Z Z Z Z gX Z Z ?_)); refine B1 hf fun e2 h7 hf=>U 3 Z (CL Z (zY _ h7 (J 3 Z (C hf Z (fun h8 hf=>?_) fun h8 hf=>?_))))
  · cases hf; exact M 2 Z (Y Z h)
  exact M 2 Z ⟨(bI (x1 + 1)),Z,Z,Z,hf⟩
 refine W 2 Z (AS Z (AO.aV (l:=c1.files) Z Z Z Z gX Z Z (J 1 Z (CK (fun x2=>[(40,sP c1.files),(41,iP (c1.files.length:Int)),(42,iP x2)]) (fun x2=>[]) (fun xW x2=>lH c1 xW x2=some r0) BIG 0 Z Z hf (fun _ hz=>bQ hz) ?_)))); intro xW x2 hf; rw [lH] at hf; refine V 1 Z (C hf Z (fun h9 hf=>?_) fun h9 hf=>?_)
 ·
  refine B1 hf fun s2 h10 hf=>W 0 Z (AS Z (AO.cZ h10 Z Z Z Z gX Z Z ?_)); refine B1 hf fun x3 h11 hf=>U 3 Z (CL Z (DJ _ _ h11 ?_)); refine B1 hf fun e3 h12 hf=>CL Z (Po _ h12 (J 3 Z (C hf Z (fun kY hf=>?_) fun kY hf=>?_)))
  · cases hf; exact M 2 Z (Y Z h)
  exact M 2 Z ⟨(bI (x2 + 1)),Z,Z,Z,hf⟩
 cases hf; exact M 1 Z (Y Z h)
end
theorem LD (l1:List aR) (c1:UInt8) {r0:List aR} (hf:yI l1 c1=some r0) {v:Value} {Q:fq→List bn→Prop} (h:∀ v',Q (.ret (.val v')) [.buf v' r0.length 12 115 (List.flatMap aR.cells r0)]):
  PC 66 [.val v,.int .u8 (c1.toNat:Int)] [.buf v l1.length 12 115 (List.flatMap aR.cells l1)] Q:=by
 unfold yI at hf
 have hL:l1.length≤Fy:=by
  by_cases hL:l1.length≤Fy
  ·
   exact hL
  ·
   rw [if_neg hL] at hf; cases hf
 rw [if_pos hL] at hf; unfold Fy at hL; refine AC.kH 42 [.tmp 4] [0,1] Tryz.func66 Z Z Z Z Z (AW.sr (cs 1 Z (AR.nil [0,1] Z ?_))); refine AW.seq (AW.sr (cs 1 Z (AR.step Z Z Z (AO.JL (i:=0) Z Z Z Z Bj Z Z ?_)))); refine cs 2 Z (AR.or 8 8 16 [0,1] (x:=tu l1) Z Z (fun h1=>?_) (fun h1=>?_) ?_)
 ·
  refine AR.is 8 h1 Z ?_; rcases List.eq_nil_or_concat l1 with rfl | ⟨l0,p1,rfl⟩
  ·
   simp at h1
  rw [List.concat_eq_append] at *
  have hj:bI (((l0 ++ [p1]).length:Int) - 1)=(l0.length:Int):=by
   rw [List.length_append,List.length_singleton] at hL ⊢; rw [bg (by omega) (by omega)]; omega
  have Z_:(List.flatMap aR.cells l0).length=l0.length * 12:=Lc aR.dU l0; refine cs 2 Z (AR.go Z Z Z Z Z Z (AO.JL (i:=0) Z Z Z Z Bj Z Z (cs 1 Z (AR.go Z Z Z Z Z Z (AO.Ah (i:=0) (sz:=12) (j:=bI (((l0 ++ [p1]).length:Int) - 1)) Z Z Z Z Bj (by rw [hj]; omega) (by rw [hj]; simp) ?_))))); refine cs 1 Z (AR.go Z Z Z Z Z Z (AO.Nz (i:=0) (p:=.bool p1.Uy) Z Z Z adU ?_ ?_ ?_))
  ·
   rw [hj,Int.toNat_natCast,List.flatMap_append,List.length_append,Z_,List.flatMap_cons,List.flatMap_nil,List.append_nil,aR.dU]; omega
  ·
   rw [hj,Int.toNat_natCast,List.flatMap_append,List.drop_append,List.drop_of_length_le (by omega),Z_,Nat.add_sub_cancel_left,List.flatMap_cons,aR.aT]; rfl
  refine cs 1 Z (AR.nil [16,0,1] Z ?_); rw [show tu (l0 ++ [p1])=p1.Uy from by simp [tu]]; exact ⟨Z,Z,Z,Z⟩
 ·
  refine AR.is 8 h1 Z (cs 8 Z (AR.nil [16,0,1] Z ?_)); exact ⟨Z,Z,Z,Z⟩
 refine AR.nil [0,1,16] Z (AW.cond Z (fun h2=>?_) (fun h2=>?_))
 ·
  obtain ⟨OT,rfl⟩:=vI (j_ h2 hf); refine AW.sr (cs 2 Z (AR.step Z Z Z (AO.bS (List.map fO ([c1]:List UInt8)) Z Au Z Z Z Z (AR.step Z Z Z (AO.Io Z Nc xJ bL Z Z ?_))))); refine AR.step rfl rfl rfl (AO.build rfl JU JD rfl (AR.step rfl rfl rfl (AO.bS (List.map aR.cells [(aR.mk [c1] false (aj.mk 0 ([]:Str) (av.mk 0 false 0 ([]:Str) [] []) [] []))]) rfl II rfl rfl rfl (by first | rfl | simp only [List.map,aR.aT]) ?_)))
  refine AR.step Z Z Z (AO.R4 (i:=0) (l2:=List.map aR.cells [(aR.mk [c1] false (aj.mk 0 ([]:Str) (av.mk 0 false 0 ([]:Str) [] []) [] []))]) Z Z Z Z Z Z Z II Bj (by intro y hy; cases List.mem_singleton.1 hy; exact aR.dU _) (by intro y hy; cases List.mem_singleton.1 hy; exact aR.cells_one _) (by simp only [List.map_cons,List.map_nil,List.length_singleton] at OT ⊢; unfold Fy at OT; unfold maxLen; omega) (by simp only [List.map_cons,List.map_nil,List.length_singleton] at OT ⊢; unfold Fy at OT; omega) (fun v2 s2 hs2=>?_)); cases hs2; refine cs 1 Z (AR.nil [4] Z (AW.ret ?_)); have hv:=h v2; rw [List.flatMap_append,List.length_append] at hv; exact ⟨rfl,_,⟨_,_,rfl,rfl,rfl⟩,_,List.Sublist.refl _,show Q (.ret (.val v2)) _ by simpa using hv⟩
 ·
  replace hf:=jG h2 hf; refine B1 hf fun t1 h3 hf=>?_; rcases List.eq_nil_or_concat l1 with rfl | ⟨l0,p1,rfl⟩
  ·
   simp at h2
  rw [List.concat_eq_append] at *
  have hj:bI (((l0 ++ [p1]).length:Int) - 1)=(l0.length:Int):=by
   rw [List.length_append,List.length_singleton] at hL ⊢; rw [bg (by omega) (by omega)]; omega
  have Z_:(List.flatMap aR.cells l0).length=l0.length * 12:=Lc aR.dU l0; rw [show uw (l0 ++ [p1])=p1.text from by simp [uw]] at h3; rw [show zC (l0 ++ [p1]) t1=l0 ++ [aR.mk t1 p1.Uy p1.expr] from by simp [zC]] at hf; cases hf; refine AW.skip (AW.seq (AW.draw 15 mixed (by kernel_rfl) Z ?_)); refine Ev.cs dh 2 Z (Ev.cons Z Z Z (AO.JL (i:=0) Z Z Z Z Bj Z Z zg) (Ev.cs dh 3 Z (Ev.cons Z Z Z (AO.JL (i:=0) Z Z Z Z Bj Z Z zg) ?_))); refine Ev.cs dh 1 Z (Ev.cons Z Z Z (AO.Ah (i:=0) (sz:=12) (j:=bI (((l0 ++ [p1]).length:Int) - 1)) Z Z Z Z Bj (by rw [hj]; omega) (by rw [hj]; simp) zg) ?_); refine Ev.cs dh 1 Z (Ev.cons Z Z Z (AO.Nz (i:=0) (p:=.str p1.text) Z Z Z Qc ?_ ?_ zg) ?_)
  ·
   rw [hj,Int.toNat_natCast,List.flatMap_append,List.length_append,Z_,List.flatMap_cons,List.flatMap_nil,List.append_nil,aR.dU]; omega
  ·
   rw [hj,Int.toNat_natCast,List.flatMap_append,List.drop_append,List.drop_of_length_le (by omega),Z_,Nat.add_sub_cancel_left,List.flatMap_cons,aR.aT]; rfl
  refine Ev.cs dh 1 Z (Ev.cons Z Z Z (AO.bS (List.map fO ([c1]:List UInt8)) Z Au Z Z Z Z zg) (Ev.cons Z Z Z (AO.Io Z Nc xJ bL Z Z zg) (Ev.cons Z Z Z (AO.adq h3 Z Z Z zg) ?_))); refine Ev.nil ?_; show AR _ _ _ _ _ _ _ _; refine AR.step Z Z Z (AO.Ah (i:=0) (sz:=12) (j:=bI (((l0 ++ [p1]).length:Int) - 1)) Z Z Z Z Bj (by rw [hj]; omega) (by rw [hj]; simp) ?_); refine cs 1 Z (AR.dF Z Z (AO.Sr (i:=0) (new:=[.str t1]) (cs':=List.flatMap aR.cells (l0 ++ [aR.mk t1 p1.Uy p1.expr])) Z Z Z Qc Z Z Z (by simp) ?_ ?_ Z ?_))
  ·
   rw [hj,Int.toNat_natCast,List.flatMap_append,List.length_append,Z_,List.flatMap_cons,List.flatMap_nil,List.append_nil,aR.dU,List.length_singleton]; omega
  ·
   unfold putCells; rw [hj,Int.toNat_natCast,List.flatMap_append,List.flatMap_append,Nat.add_zero,List.take_append_of_le_length (by omega),List.take_of_length_le (by omega),List.drop_append,List.drop_of_length_le (by rw [Z_]; omega),Z_,Nat.add_sub_cancel_left]; simp [aR.aT]
  refine AR.nil [0] Z (AW.sr (cs 2 Z (AR.nil [4] Z ?_))); refine AW.ret ?_; have hv:=h v; rw [List.length_append] at hv; rw [List.length_append]; exact ⟨rfl,_,⟨_,_,rfl,rfl,rfl⟩,_,List.Sublist.refl _,hv⟩
theorem Pb (s1:Str) (bO:Int) {r0:Int} (hf:BH s1 bO=some r0) (h:Q (.ret (iP r0)) τ):PC 91 [.str s1,iP bO] τ Q:=by
 unfold BH at hf; refine BN 27 [.tmp 4] [0,1] Tryz.func91 Z Z Z Z Z (V 4 Z (CK (fun at2=>[(0,.str s1),(1,iP at2)]) (fun at2=>[]) (fun dw at2=>ou s1 dw at2=some r0) BIG (bI (bO + 1)) Z Z hf (fun _ hz=>bQ hz) ?_)); intro dw at2 hf; rw [ou] at hf; refine W 2 Z (AS Z (AO.bC Z Z Z Z bL Z ?_)); refine B1 hf fun b1 h2 hf=>U 2 Z (AR.dS 5 11 16 true [0,1] b1 Z Z (fun h1=>?_) (fun h1=>?_) ?_)
 · refine IT 11 h1 h2 Z fun h2=>?_; refine B1 h2 fun x1 h3 h2=>U 2 Z (GO Z (AO.bP h3 Z bL Z Z ?_)); cases h2; exact eD 2 Z (En [16,0,1] Z)
 · refine IF 11 h1 h2 Z fun h2=>?_; cases h2; exact eD 5 Z (En [16,0,1] Z)
 refine J 0 Z (C hf Z (fun h4 hf=>?_) fun h4 hf=>?_)
 ·
  refine B1 hf fun x2 h5 hf=>W 2 Z (AS Z (AO.bP h5 Z bL Z Z (J 1 Z (C hf Z (fun h6 hf=>?_) fun h6 hf=>?_))))
  · exact M 6 Z ⟨(bI ((bI (at2 + 1)) + 1)),Z,Z,Z,hf⟩
  exact M 3 Z ⟨(bI (at2 + 1)),Z,Z,Z,hf⟩
 cases hf; exact M 3 Z (Y Z h)
theorem MN (s1:Str) (bO:Int) {r0:Int} (hf:zD s1 bO=some r0) (h:Q (.ret (iP r0)) τ):PC 67 [.str s1,iP bO] τ Q:=by
 unfold zD at hf; refine BN 31 [.tmp 4] [0,1] Tryz.func67 Z Z Z Z Z (V 2 Z (JQ (fun at2 eU=>[(0,.str s1),(1,iP at2),(5,iP eU)]) (fun at2 eU=>[]) (fun dw at2 eU=>ji s1 dw at2 eU=some r0) BIG bO 0 Z Z hf (fun _ _ hz=>bQ hz) ?_)); intro dw at2 eU hf; rw [ji] at hf; refine W 2 Z (AS Z (AO.bC Z Z Z Z bL Z (J 1 Z (C hf Z (fun h1 hf=>?_) fun h1 hf=>?_))))
 ·
  refine B1 hf fun x1 h2 hf=>W 2 Z (AS Z (AO.bP h2 Z bL Z Z (J 2 Z (C hf Z (fun h3 hf=>?_) fun h3 hf=>?_))))
  · refine B1 hf fun at3 h4 hf=>W 2 Z (CL Z (Pb _ _ h4 ?_)); exact N 1 Z ⟨at3,eU,Z,Z,Z,hf⟩
  refine V 2 Z (C hf Z (fun h5 hf=>?_) fun h5 hf=>?_)
  · exact M 6 Z ⟨(bI (at2 + 1)),(bI (eU + 1)),Z,Z,Z,hf⟩
  refine V 2 Z (C hf Z (fun h6 hf=>?_) fun h6 hf=>?_)
  ·
   refine V 2 Z (C hf Z (fun h7 hf=>?_) fun h7 hf=>?_)
   · cases hf; exact M 2 Z (Y Z h)
   exact M 6 Z ⟨(bI (at2 + 1)),(bI (eU - 1)),Z,Z,Z,hf⟩
  exact M 3 Z ⟨(bI (at2 + 1)),eU,Z,Z,Z,hf⟩
 cases hf; exact M 1 Z (Y Z h)
theorem sQ (bJ:Str) (bO:Int) {r0:Int} (hf:nG bJ bO=some r0) (h:Q (.ret (iP r0)) τ):PC 116 [.str bJ,iP bO] τ Q:=by
 unfold nG at hf; refine BN 47 [.tmp 4] [0,1] Tryz.func116 Z Z Z Z Z (V 2 Z (JQ (fun at2 wY=>[(0,.str bJ),(1,iP at2),(5,.bool wY)]) (fun at2 wY=>[]) (fun dw at2 wY=>mI bJ dw at2 wY=some r0) BIG bO false Z Z hf (fun _ _ hz=>bQ hz) ?_)); intro dw at2 wY hf; rw [mI] at hf; refine W 2 Z (AS Z (AO.bC Z Z Z Z bL Z ?_)); refine B1 hf fun b1 h2 hf=>U 2 Z (AR.dS 5 10 15 true [0,1,5] b1 Z Z (fun h1=>?_) (fun h1=>?_) ?_)
 · refine IT 10 h1 h2 Z fun h2=>?_; refine B1 h2 fun x1 h3 h2=>U 2 Z (GO Z (AO.bP h3 Z bL Z Z ?_)); cases h2; exact eD 2 Z (En [15,0,1,5] Z)
 · refine IF 10 h1 h2 Z fun h2=>?_; cases h2; exact eD 5 Z (En [15,0,1,5] Z)
 refine B1 hf fun b2 h5 hf=>U 1 Z (AR.dS 20 16 36 true [0,1,5] b2 Z Z (fun h4=>?_) (fun h4=>?_) ?_)
 ·
  refine IT 16 h4 h5 Z fun h5=>?_; refine B1 h5 fun b3 h7 h5=>U 2 Z (AR.dS 5 18 23 false [0,1,5,16] b3 Z Z (fun h6=>?_) (fun h6=>?_) ?_)
  · refine IF 18 h6 h7 Z fun h7=>?_; refine B1 h7 fun x2 h8 h7=>U 2 Z (GO Z (AO.bP h8 Z bL Z Z ?_)); cases h7; exact eD 2 Z (En [23,0,1,5,16] Z)
  · refine IT 18 h6 h7 Z fun h7=>?_; cases h7; exact eD 5 Z (En [23,0,1,5,16] Z)
  refine B1 h5 fun b4 h10 h5=>U 1 Z (AR.dS 5 24 29 false [0,1,5,16] b4 Z Z (fun h9=>?_) (fun h9=>?_) ?_)
  · refine IF 24 h9 h10 Z fun h10=>?_; refine B1 h10 fun x3 h11 h10=>U 2 Z (GO Z (AO.bP h11 Z bL Z Z ?_)); cases h10; exact eD 2 Z (En [29,0,1,5,16] Z)
  · refine IT 24 h9 h10 Z fun h10=>?_; cases h10; exact eD 5 Z (En [29,0,1,5,16] Z)
  refine BR h5 fun b5 kY h5=>?_; refine U 1 Z (AR.dS 5 30 35 false [0,1,5,16] b5 Z Z (fun h12=>?_) (fun h12=>?_) ?_)
  · refine IF 30 h12 kY Z fun kY=>?_; refine B1 kY fun x4 lu kY=>U 2 Z (GO Z (AO.bP lu Z bL Z Z ?_)); cases kY; exact eD 2 Z (En [35,0,1,5,16] Z)
  · refine IT 30 h12 kY Z fun kY=>?_; cases kY; exact eD 5 Z (En [35,0,1,5,16] Z)
  cases h5; exact eD 1 Z (En [36,0,1,5] Z)
 · refine IF 16 h4 h5 Z fun h5=>?_; cases h5; exact eD 20 Z (En [36,0,1,5] Z)
 refine J 0 Z (C hf Z (fun pK hf=>?_) fun pK hf=>?_)
 ·
  refine B1 hf fun b6 wV hf=>W 2 Z (AR.dS 5 38 43 false [0,1,5] b6 Z Z (fun h16=>?_) (fun h16=>?_) ?_)
  · refine IF 38 h16 wV Z fun wV=>?_; refine B1 wV fun x5 h18 wV=>U 2 Z (GO Z (AO.bP h18 Z bL Z Z ?_)); cases wV; exact eD 2 Z (En [43,0,1,5] Z)
  · refine IT 38 h16 wV Z fun wV=>?_; cases wV; exact eD 5 Z (En [43,0,1,5] Z)
  exact N 4 Z ⟨(bI (at2 + 1)),b6,Z,Z,Z,hf⟩
 cases hf; exact M 2 Z (Y Z h)
theorem uh (c1:UInt8) {r0:Bool} (hf:m_ c1=some r0) (h:Q (.ret (.bool r0)) τ):PC 146 [.int .u8 (c1.toNat:Int)] τ Q:=by
 unfold m_ at hf; refine BN 9 [.tmp 2] [0] Tryz.func146 Z Z Z Z Z (W 4 Z (An 3 5 8 [] (decide ((c1.toNat:Int)≤57)) Z Z Z Z ?_)); cases hf; exact N 1 Z (Y Z h)
theorem Pf (bJ:Str) (bO:Int) {r0:Int} (hf:yN bJ bO=some r0) (h:Q (.ret (iP r0)) τ):PC 187 [.str bJ,iP bO] τ Q:=by
 unfold yN at hf; refine BN 23 [.tmp 4] [0,1] Tryz.func187 Z Z Z Z Z (V 2 Z (CK (fun n1=>[(0,.str bJ),(1,iP bO),(5,iP n1)]) (fun n1=>[]) (fun dw n1=>qm bJ bO dw n1=some r0) BIG 0 Z Z hf (fun _ hz=>bQ hz) ?_)); intro dw n1 hf; rw [qm] at hf; refine W 4 Z (AS Z (AO.bC Z Z Z Z bL Z ?_)); refine B1 hf fun b1 h2 hf=>U 2 Z (AR.dS 7 12 19 true [0,1,5] b1 Z Z (fun h1=>?_) (fun h1=>?_) ?_)
 · refine IT 12 h1 h2 Z fun h2=>?_; refine B1 h2 fun x1 h3 h2=>U 4 Z (GO Z (AO.bP h3 Z bL Z Z ?_)); refine BR h2 fun x2 h4 h2=>?_; refine GO Z (AO.call Z _ Z Z SF (uh _ h4 ?_)); cases h2; exact eD 1 Z (En [19,0,1,5] Z)
 · refine IF 12 h1 h2 Z fun h2=>?_; cases h2; exact eD 7 Z (En [19,0,1,5] Z)
 refine J 0 Z (C hf Z (fun h5 hf=>?_) fun h5 hf=>?_)
 · exact M 3 Z ⟨(bI (n1 + 1)),Z,Z,Z,hf⟩
 cases hf; exact M 2 Z (Y Z h)
theorem Gv (c1:UInt8) {r0:Bool} (hf:vN c1=some r0) (h:Q (.ret (.bool r0)) τ):PC 165 [.int .u8 (c1.toNat:Int)] τ Q:=by
 unfold vN at hf; refine BN 21 [.tmp 2] [0] Tryz.func165 Z Z Z Z Z (W 4 Z (An 3 5 8 [0] (decide ((c1.toNat:Int)≤122)) Z Z Z Z (U 1 Z (AR.or 7 9 16 [0] (x:=((decide (65≤(c1.toNat:Int))) && (decide ((c1.toNat:Int)≤90)))) Z Z (fun h2=>?_) (fun h2=>?_) ?_))))
 · refine Is 9 h2 Z (U 3 Z (An 3 12 15 [0,9] (decide ((c1.toNat:Int)≤90)) Z Z Z Z ?_)); exact eD 1 Z (En [16,0] Z)
 · refine Is 9 h2 Z ?_; exact eD 7 Z (En [16,0] Z)
 refine U 1 Z (On 3 17 20 [] ((c1.toNat:Int) == 95) Z Z Z Z ?_); cases hf; exact N 1 Z (Y Z h)
theorem LG (bJ:Str) (bO:Int) {r0:Int} (hf:AU bJ bO=some r0) (h:Q (.ret (iP r0)) τ):PC 149 [.str bJ,iP bO] τ Q:=by
 unfold AU at hf; refine BN 31 [.tmp 4] [0,1] Tryz.func149 Z Z Z Z Z (V 2 Z (CK (fun n1=>[(0,.str bJ),(1,iP bO),(5,iP n1)]) (fun n1=>[]) (fun dw n1=>tX bJ bO dw n1=some r0) BIG 0 Z Z hf (fun _ hz=>bQ hz) ?_)); intro dw n1 hf; rw [tX] at hf; refine W 4 Z (AS Z (AO.bC Z Z Z Z bL Z ?_)); refine B1 hf fun b1 h2 hf=>U 2 Z (AR.dS 15 12 27 true [0,1,5] b1 Z Z (fun h1=>?_) (fun h1=>?_) ?_)
 ·
  refine IT 12 h1 h2 Z fun h2=>?_; refine B1 h2 fun x1 h3 h2=>U 4 Z (GO Z (AO.bP h3 Z bL Z Z ?_)); refine B1 h2 fun x2 h4 h2=>GO Z (AO.call Z _ Z Z aaY (Gv _ h4 ?_)); refine BR h2 fun b2 h6 h2=>?_; refine U 1 Z (AR.dS 7 19 26 false [0,1,5,12] b2 Z Z (fun h5=>?_) (fun h5=>?_) ?_)
  · refine IF 19 h5 h6 Z fun h6=>?_; refine B1 h6 fun x3 h7 h6=>U 4 Z (GO Z (AO.bP h7 Z bL Z Z ?_)); refine BR h6 fun x4 h8 h6=>?_; refine GO Z (AO.call Z _ Z Z SF (uh _ h8 ?_)); cases h6; exact eD 1 Z (En [26,0,1,5,12] Z)
  · refine IT 19 h5 h6 Z fun h6=>?_; cases h6; exact eD 7 Z (En [26,0,1,5,12] Z)
  cases h2; exact eD 1 Z (En [27,0,1,5] Z)
 · refine IF 12 h1 h2 Z fun h2=>?_; cases h2; exact eD 15 Z (En [27,0,1,5] Z)
 refine J 0 Z (C hf Z (fun h9 hf=>?_) fun h9 hf=>?_)
 · exact M 3 Z ⟨(bI (n1 + 1)),Z,Z,Z,hf⟩
 cases hf; exact M 2 Z (Y Z h)
theorem NS (s1:Str) {r0:Int} {r1:Bool} (hf:wh s1=some (r0,r1)) (h:Q (.ret (.tuple [iP r0,.bool r1])) τ):PC 188 [.str s1] τ Q:=by
 unfold wh at hf; refine BN 45 [.tmp 2,.tmp 3] [0] Tryz.func188 Z Z Z Z Z (W 5 Z (AR.or 4 8 12 [0] (x:=(decide (16 < (s1.length:Int)))) Z Z (fun h1=>?_) (fun h1=>?_) ?_))
 · refine Is 8 h1 Z (U 1 Z (GO Z (AO.bC Z Z Z Z bL Z ?_))); exact eD 2 Z (En [12,0] Z)
 · refine Is 8 h1 Z ?_; exact eD 4 Z (En [12,0] Z)
 refine B1 hf fun b1 h3 hf=>U 1 Z (AR.dS 9 13 22 false [0] b1 Z Z (fun h2=>?_) (fun h2=>?_) ?_)
 ·
  replace h3:=jG h2 h3; refine Is 13 h2 Z (U 1 Z (GO Z (AO.bC Z Z Z Z bL Z ?_))); refine BR h3 fun b2 h5 h3=>?_; refine U 2 Z (AR.dS 4 17 21 true [0,13] b2 Z Z (fun h4=>?_) (fun h4=>?_) ?_)
  · refine IT 17 h4 h5 Z fun h5=>?_; refine B1 h5 fun x1 h6 h5=>U 1 Z (GO Z (AO.bP h6 Z bL Z Z ?_)); cases h5; exact eD 2 Z (En [21,0,13] Z)
  · refine IF 17 h4 h5 Z fun h5=>?_; cases h5; exact eD 4 Z (En [21,0,13] Z)
  cases h3; exact eD 1 Z (En [22,0] Z)
 · refine IT 13 h2 h3 Z fun h3=>?_; cases h3; exact eD 9 Z (En [22,0] Z)
 refine J 0 Z (C hf Z (fun h7 hf=>?_) fun h7 hf=>?_)
 · cases hf; exact M 2 Z (Y Z h)
 refine V 2 Z (JQ (fun n1 i1=>[(0,.str s1),(4,iP n1),(5,iP i1)]) (fun n1 i1=>[]) (fun dw n1 i1=>qK s1 dw n1 i1=some (r0,r1)) BIG 0 0 Z Z hf (fun _ _ hz=>bQ hz) ?_); intro dw n1 i1 hf; rw [qK] at hf; refine W 2 Z (AS Z (AO.bC Z Z Z Z bL Z (J 1 Z (C hf Z (fun h8 hf=>?_) fun h8 hf=>?_))))
 ·
  refine B1 hf fun x2 h9 hf=>W 2 Z (AS Z (AO.bP h9 Z bL Z Z ?_)); refine B1 hf fun x3 h10 hf=>CL Z (uh _ h10 (J 1 Z (C hf Z (fun h11 hf=>?_) fun h11 hf=>?_)))
  · cases hf; exact M 2 Z (Y Z h)
  refine B1 hf fun x4 h12 hf=>W 4 Z (AS Z (AO.bP h12 Z bL Z Z (AS Z (AO.ni Z xJ BA Z Z ?_)))); exact N 6 Z ⟨(bI ((bI ((bI (10 * n1)) + (x4.toNat:Int))) - 48)),(bI (i1 + 1)),Z,Z,Z,hf⟩
 cases hf; exact M 5 Z (Y Z h)
theorem Pe (bJ:Str) (bO:Int) {r0:au} {r1:Int} {r2:Int} (hf:yM bJ bO=some (r0,r1,r2)) (h:Q (.ret (.tuple [.agg (mF r0),iP r1,iP r2])) τ):PC 147 [.str bJ,iP bO] τ Q:=by
 unfold yM at hf; refine BN 50 [.cell 4 146,.tmp 5,.tmp 6] [0,1] Tryz.func147 Z Z Z Z Z (W 0 Z (AS Z (AO.aQ Z nZ (fun b4=>?_)))); refine B1 hf fun n1 h1 hf=>U 4 Z (CL Z (Pf _ _ h1 ?_)); refine B1 hf fun x1 h2 hf=>U 3 Z (CL Z (LG _ _ h2 ?_)); refine B1 hf fun b1 h4 hf=>U 3 Z (AR.dS 9 18 27 false [0,1,4,7] b1 Z Z (fun h3=>?_) (fun h3=>?_) ?_)
 ·
  refine IF 18 h3 h4 Z fun h4=>?_; refine BR h4 fun b2 h6 h4=>?_; refine U 3 Z (AR.dS 5 21 26 true [0,1,4,7,18] b2 Z Z (fun h5=>?_) (fun h5=>?_) ?_)
  · refine IT 21 h5 h6 Z fun h6=>?_; refine B1 h6 fun x2 h7 h6=>U 2 Z (GO Z (AO.bP h7 Z bL Z Z ?_)); cases h6; exact eD 2 Z (En [26,0,1,4,7,18] Z)
  · refine IF 21 h5 h6 Z fun h6=>?_; cases h6; exact eD 5 Z (En [26,0,1,4,7,18] Z)
  cases h4; exact eD 1 Z (En [27,0,1,4,7] Z)
 · refine IT 18 h3 h4 Z fun h4=>?_; cases h4; exact eD 9 Z (En [27,0,1,4,7] Z)
 refine J 0 Z (C hf Z (fun h8 hf=>?_) fun h8 hf=>?_)
 · cases hf; exact Wx 4 [0] Z Z (ZC [0] Z Z h)
 refine B1 hf fun x3 h9 hf=>W 5 Z (AS Z (AO.jT h9 Z bL Z ⟨_,Z⟩ ⟨_,Z⟩ ?_)); obtain ⟨x4,ok1,h10,hf⟩:=dN hf; refine CL Z (NS _ h10 (J 7 Z (C hf Z (fun h11 hf=>?_) fun h11 hf=>?_)))
 · cases hf; exact Wx 4 [0] Z Z (ZC [0] Z Z h)
 refine B1 hf fun x5 h12 hf=>W 5 Z (AS Z (AO.jT h12 Z bL Z ⟨_,Z⟩ ⟨_,Z⟩ ?_)); cases hf; exact Rx 5 [0] Z Z (ZC [0] Z Z h)
theorem NR (c1:UInt8) {r0:Int} (hf:Ec c1=some r0) (h:Q (.ret (iP r0)) τ):PC 269 [.int .u8 (c1.toNat:Int)] τ Q:=by
 unfold Ec at hf; refine BN 26 [.tmp 2] [0] Tryz.func269 Z Z Z Z Z ?_; refine B1 hf fun x1 h1 hf=>W 2 Z (CL Z (uh _ h1 (J 0 Z (C hf Z (fun h2 hf=>?_) fun h2 hf=>?_))))
 · refine W 1 Z (AS Z (AO.ni Z xJ BA Z Z ?_)); cases hf; exact N 2 Z (Y Z h)
 refine W 3 Z (An 3 10 13 [0] (decide ((c1.toNat:Int)≤102)) Z Z Z Z (J 0 Z (C hf Z (fun h4 hf=>?_) fun h4 hf=>?_)))
 · refine W 1 Z (AS Z (AO.ni Z xJ BA Z Z ?_)); cases hf; exact N 2 Z (Y Z h)
 refine W 3 Z (An 3 19 22 [0] (decide ((c1.toNat:Int)≤70)) Z Z Z Z (J 0 Z (C hf Z (fun h6 hf=>?_) fun h6 hf=>?_)))
 · refine W 1 Z (AS Z (AO.ni Z xJ BA Z Z ?_)); cases hf; exact N 2 Z (Y Z h)
 cases hf; exact M 1 Z (Y Z h)
theorem MO (bJ:Str) (bO:Int) {r0:UInt8} {r1:Int} {r2:Int} (hf:wK bJ bO=some (r0,r1,r2)) (h:Q (.ret (.tuple [.int .u8 (r0.toNat:Int),iP r1,iP r2])) τ):PC 236 [.str bJ,iP bO] τ Q:=by
 unfold wK at hf; refine BN 35 [.tmp 4,.tmp 5,.tmp 6] [0,1] Tryz.func236 Z Z Z Z Z (V 7 Z (JQ (fun n1 i1=>[(0,.str bJ),(1,iP bO),(7,iP n1),(8,iP i1)]) (fun n1 i1=>[]) (fun dw n1 i1=>jZ bJ bO dw n1 i1=some (r0,r1,r2)) BIG 0 (bI (bO + 2)) Z Z hf (fun _ _ hz=>bQ hz) ?_)); intro dw n1 i1 hf; rw [jZ] at hf; refine V 4 Z (C hf Z (fun h1 hf=>?_) fun h1 hf=>?_)
 ·
  refine W 2 Z (AS Z (AO.bC Z Z Z Z bL Z (J 1 Z (C hf Z (fun h2 hf=>?_) fun h2 hf=>?_))))
  · cases hf; exact M 3 Z (Y Z h)
  refine B1 hf fun x1 h3 hf=>W 2 Z (AS Z (AO.bP h3 Z bL Z Z ?_)); refine B1 hf fun x2 h4 hf=>CL Z (NR _ h4 (J 1 Z (C hf Z (fun h5 hf=>?_) fun h5 hf=>?_)))
  · cases hf; exact M 3 Z (Y Z h)
  refine B1 hf fun x3 h6 hf=>W 4 Z (AS Z (AO.bP h6 Z bL Z Z ?_)); refine B1 hf fun x4 h7 hf=>CL Z (NR _ h7 ?_); exact N 5 Z ⟨(bI ((bI (16 * n1)) + x4)),(bI (i1 + 1)),Z,Z,Z,hf⟩
 refine W 1 Z (AS Z (AO.Gq Z BA xJ Z ?_)); cases hf; exact N 3 Z (Y Z h)
theorem Jp (bJ:Str) (bO:Int) {r0:UInt8} {r1:Int} {r2:Int} (hf:l7 bJ bO=some (r0,r1,r2)) (h:Q (.ret (.tuple [.int .u8 (r0.toNat:Int),iP r1,iP r2])) τ):PC 189 [.str bJ,iP bO] τ Q:=by
 unfold l7 at hf; refine BN 46 [.tmp 4,.tmp 5,.tmp 6] [0,1] Tryz.func189 Z Z Z Z Z ?_; refine B1 hf fun x1 h1 hf=>W 5 Z (AS Z (AO.bP h1 Z bL Z Z (J 1 Z (C hf Z (fun h2 hf=>?_) fun h2 hf=>?_))))
 · cases hf; exact M 3 Z (Y Z h)
 refine B1 hf fun x2 h3 hf=>W 2 Z (AS Z (AO.bP h3 Z bL Z Z (J 1 Z (C hf Z (fun h4 hf=>?_) fun h4 hf=>?_))))
 · refine B1 hf fun x3 h5 hf=>W 2 Z (AS Z (AO.bP h5 Z bL Z Z ?_)); cases hf; exact N 3 Z (Y Z h)
 refine W 3 Z (AS Z (AO.bC Z Z Z Z bL Z (J 1 Z (C hf Z (fun h6 hf=>?_) fun h6 hf=>?_))))
 · cases hf; exact M 3 Z (Y Z h)
 refine B1 hf fun x4 h7 hf=>W 3 Z (AS Z (AO.bP h7 Z bL Z Z (J 2 Z (C hf Z (fun h8 hf=>?_) fun h8 hf=>?_))))
 ·
  refine V 0 Z (AW.cond Z (fun h9=>?_) (fun h9=>?_))
  · refine B1 hf fun x5 h10 hf=>W 3 Z (AS Z (AO.bP h10 Z bL Z Z ?_)); cases hf; exact N 3 Z (Y Z h)
  cases h8.symm.trans h9
 refine V 2 Z (C hf Z (fun h11 hf=>?_) fun h11 hf=>?_)
 · refine B1 hf fun x6 h12 hf=>W 3 Z (AS Z (AO.bP h12 Z bL Z Z ?_)); cases hf; exact N 3 Z (Y Z h)
 refine V 2 Z (C hf Z (fun kY hf=>?_) fun kY hf=>?_)
 · cases hf; exact M 3 Z (Y Z h)
 refine V 2 Z (C hf Z (fun lu hf=>?_) fun lu hf=>?_)
 · cases hf; exact M 3 Z (Y Z h)
 refine V 2 Z (C hf Z (fun pK hf=>?_) fun pK hf=>?_)
 · replace hf:=(oW _).trans hf; obtain ⟨x7,x8,x9,h16,hf⟩:=eH hf; refine W 2 Z (CL Z (MO _ _ h16 ?_)); cases hf; exact N 6 Z (Y Z h)
 cases hf; exact M 3 Z (Y Z h)
theorem TB (bJ:Str) (bO:Int) {r0:au} {r1:Int} {r2:Int} (hf:Dh bJ bO=some (r0,r1,r2)) (h:Q (.ret (.tuple [.agg (mF r0),iP r1,iP r2])) τ):PC 148 [.str bJ,iP bO] τ Q:=by
 unfold Dh at hf; refine BN 52 [.cell 4 146,.tmp 5,.tmp 6] [0,1] Tryz.func148 Z Z Z Z Z (W 0 Z (AS Z (AO.aQ Z nZ (fun b4=>(J 6 Z (AW.row 1 5 (YD (fun b1 v1 i1=>[(0,.str bJ),(1,iP bO),(4,pP b4),(7,.own v1 (List.map fO b1)),(8,iP i1)]) (fun b1 v1 i1=>[.row v1 (List.map fO b1).length 1 5,.box b4 [iP 0,.str ([]:Str),iP 0]]) (fun dw b1 v1 i1=>tY bJ bO dw b1 i1=some (r0,r1,r2)) BIG [] (.slice none 0 0) (bI (bO + 1)) Z Z hf (fun _ _ _ hz=>bQ hz) ?_))))))); intro dw b1 v1 i1 hf; rw [tY] at hf; refine W 2 Z (AS Z (AO.bC Z Z Z Z bL Z (J 1 Z (C hf Z (fun h1 hf=>?_) fun h1 hf=>?_))))
 ·
  refine B1 hf fun x1 h2 hf=>W 2 Z (AS Z (AO.bP h2 Z bL Z Z (J 1 Z (C hf Z (fun h3 hf=>?_) fun h3 hf=>?_))))
  ·
   refine W 1 Z (AS Z (AO.aV (l:=b1) Z Z Z Z wW Z Z (J 1 Z (C hf Z (fun h4 hf=>?_) fun h4 hf=>?_))))
   · cases hf; exact Wx 4 [1] Z Z (ZC [1] Z Z h)
   refine W 1 Z (AS Z (AO.Io Z Nc xJ bL Z Z ?_)); cases hf; exact Rx 8 [1] Z Z (ZC [1] Z Z h)
  obtain ⟨c1,n1,e1,h5,hf⟩:=eH hf; refine W 2 Z (CL Z (Jp _ _ h5 (J 9 Z (C hf Z (fun h6 hf=>?_) fun h6 hf=>?_))))
  · cases hf; exact Wx 5 [1] Z Z (ZC [1] Z Z h)
  refine W 2 Z (AS Z (AO.bS (List.map fO ([c1]:List UInt8)) Z Au Z Z Z Z ?_)); refine B1 hf fun b2 h7 hf=>AS Z (AO.iJ (i:=0) (l:=b1) (m:=([c1]:List UInt8)) h7 Z Z Z Z Z Z Z Au wW Z Z Z (fun _=>Z) (fun _=>Z) (by decide) (fun v2 s1 hs1=>?_)); cases hs1; exact N 5 Z ⟨b2,v2,(bI (i1 + n1)),Z,Z,Z,hf⟩
 cases hf; exact Wx 4 [1] Z Z (ZC [1] Z Z h)
theorem LH (bJ:Str) (bO:Int) {r0:Int} (hf:uE bJ bO=some r0) (h:Q (.ret (iP r0)) τ):PC 150 [.str bJ,iP bO] τ Q:=by
 unfold uE at hf; refine BN 38 [.tmp 4] [0,1] Tryz.func150 Z Z Z Z Z (V 2 Z (CK (fun i1=>[(0,.str bJ),(1,iP bO),(5,iP i1)]) (fun i1=>[]) (fun dw i1=>gq bJ bO dw i1=some r0) BIG 0 Z Z hf (fun _ hz=>bQ hz) ?_)); intro dw i1 hf; rw [gq] at hf; refine V 2 Z (C hf Z (fun h1 hf=>?_) fun h1 hf=>?_)
 ·
  refine V 0 Z (AW.draw 17 mixed (by kernel_rfl) Z ?_); refine Ev.cs dh 3 Z (Ev.cons Z Z Z (AO.bC Z Z Z Z bL Z zg) (Ev.cs dh 2 Z ?_)); refine B1 hf fun b1 h3 hf=>Ev.dS hKA 11 16 27 true [0,1,5] (.bool b1) Z Z (fun h2=>?_) (fun h2=>?_) ?_
  · replace h3:=j_ h2 h3; refine Ev.is Vw 16 h2 Z (Ev.cs dh 4 Z ?_); refine B1 h3 fun x1 h4 h3=>Ev.run Z Z Z Z Z Z Z (AO.jT h4 Z bL Z ⟨_,Z⟩ ⟨_,Z⟩ zg) (Ev.cs dh 3 Z ?_); refine B1 h3 fun x2 h5 h3=>Ev.run Z Z Z Z Z Z Z (AO.jT h5 Z bL Z ⟨_,Z⟩ ⟨_,Z⟩ zg) (Ev.cs dh 1 Z ?_); cases h3; refine Ev.cs dh 1 Z ?_; exact Ev.nil (Less.settle (ps:=[27,0,1,5]) Z)
  · replace h3:=jG h2 h3; refine Ev.is Vw 16 h2 Z ?_; cases h3; refine Ev.cs dh 11 Z ?_; exact Ev.nil (Less.settle (ps:=[27,0,1,5]) Z)
  refine Ev.nil ?_; show AR _ _ _ _ _ _ _ _; refine J 0 Z (C hf Z (fun h6 hf=>?_) fun h6 hf=>?_)
  · cases hf; exact M 1 Z (Y Z h)
  exact M 3 Z ⟨(bI (i1 + 2)),Z,Z,Z,hf⟩
 refine V 1 Z (CK (fun i2=>[(0,.str bJ),(1,iP bO),(6,iP i2)]) (fun i2=>[]) (fun xW i2=>gJ bJ bO xW i2=some r0) BIG 0 Z Z hf (fun _ hz=>bQ hz) ?_); intro xW i2 hf; rw [gJ] at hf; refine V 2 Z (C hf Z (fun h7 hf=>?_) fun h7 hf=>?_)
 ·
  refine V 0 Z (AW.draw 6 mixed (by kernel_rfl) Z ?_); refine Ev.cs dh 2 Z ?_; refine B1 hf fun x3 h8 hf=>Ev.cons Z Z Z (AO.bP h8 Z bL Z Z zg) (Ev.cs dh 1 Z ?_); refine B1 hf fun x4 h9 hf=>Ev.cons Z Z Z (AO.bP h9 Z bL Z Z zg) (Ev.cs dh 1 Z (Ev.nil ?_)); show AR _ _ _ _ _ _ _ _; refine J 0 Z (C hf Z (fun h10 hf=>?_) fun h10 hf=>?_)
  · cases hf; exact M 1 Z (Y Z h)
  exact M 3 Z ⟨(bI (i2 + 1)),Z,Z,Z,hf⟩
 cases hf; exact M 1 Z (Y Z h)
theorem Ry (bJ:Str) (bO:Int) {r0:au} {r1:Int} {r2:Int} (hf:AV bJ bO=some (r0,r1,r2)) (h:Q (.ret (.tuple [.agg (mF r0),iP r1,iP r2])) τ):PC 117 [.str bJ,iP bO] τ Q:=by
 unfold AV at hf; refine BN 59 [.cell 4 146,.tmp 5,.tmp 6] [0,1] Tryz.func117 Z Z Z Z Z (W 0 Z (AS Z (AO.aQ Z nZ (fun b4=>?_)))); refine B1 hf fun x1 h1 hf=>U 4 Z (AS Z (AO.bP h1 Z bL Z Z ?_)); refine B1 hf fun x2 h2 hf=>CL Z (uh _ h2 (J 0 Z (C hf Z (fun h3 hf=>?_) fun h3 hf=>?_)))
 · replace hf:=(oW _).trans hf; obtain ⟨x3,x4,x5,h4,hf⟩:=eH hf; refine W 2 Z (CL Z (Pe _ _ h4 ?_)); cases hf; exact Rx 6 [0] Z Z (ZC [0] Z Z h)
 refine B1 hf fun x6 h5 hf=>W 2 Z (AS Z (AO.bP h5 Z bL Z Z (J 1 Z (C hf Z (fun h6 hf=>?_) fun h6 hf=>?_))))
 · replace hf:=(oW _).trans hf; obtain ⟨x7,x8,x9,h7,hf⟩:=eH hf; refine W 2 Z (CL Z (TB _ _ h7 ?_)); cases hf; exact Rx 6 [0] Z Z (ZC [0] Z Z h)
 refine B1 hf fun n1 h8 hf=>W 2 Z (CL Z (LG _ _ h8 (J 3 Z (C hf Z (fun h9 hf=>?_) fun h9 hf=>?_))))
 ·
  refine V 2 Z (C hf Z (fun h10 hf=>?_) fun h10 hf=>?_)
  · cases hf; exact Wx 4 [0] Z Z (ZC [0] Z Z h)
  refine B1 hf fun JX h11 hf=>W 5 Z (AS Z (AO.jT h11 Z bL Z ⟨_,Z⟩ ⟨_,Z⟩ ?_)); cases hf; exact Rx 5 [0] Z Z (ZC [0] Z Z h)
 refine B1 hf fun n2 h12 hf=>W 2 Z (CL Z (LH _ _ h12 (J 3 Z (C hf Z (fun kY hf=>?_) fun kY hf=>?_))))
 · cases hf; exact Wx 4 [0] Z Z (ZC [0] Z Z h)
 refine B1 hf fun YA lu hf=>W 5 Z (AS Z (AO.jT lu Z bL Z ⟨_,Z⟩ ⟨_,Z⟩ ?_)); cases hf; exact Rx 5 [0] Z Z (ZC [0] Z Z h)
theorem yg (eU:Int) (t1:au) {r0:Int} (hf:pq eU t1=some r0) (h:Q (.ret (iP r0)) τ):PC 118 [iP eU,.agg (mF t1)] τ Q:=by
 unfold pq at hf; refine BN 40 [.tmp 4] [0,1] Tryz.func118 Z Z Z Z Z (W 6 Z (AR.and 9 8 17 [0,3] (x:=((t1.text == ([40]:Str)) || (t1.text == ([91]:Str)))) Z Z (fun h1=>?_) (fun h1=>?_) ?_))
 · refine Is 8 h1 Z (U 4 Z (On 4 12 16 [0,3,8] (t1.text == ([91]:Str)) Z Z Z Z ?_)); exact eD 1 Z (En [17,0,3] Z)
 · refine Is 8 h1 Z ?_; exact eD 9 Z (En [17,0,3] Z)
 refine J 0 Z (C hf Z (fun h3 hf=>?_) fun h3 hf=>?_)
 · cases hf; exact M 3 Z (Y Z h)
 refine W 4 Z (AR.and 9 23 32 [0] (x:=((t1.text == ([41]:Str)) || (t1.text == ([93]:Str)))) Z Z (fun h4=>?_) (fun h4=>?_) ?_)
 · refine Is 23 h4 Z (U 4 Z (On 4 27 31 [0,23] (t1.text == ([93]:Str)) Z Z Z Z ?_)); exact eD 1 Z (En [32,0] Z)
 · refine Is 23 h4 Z ?_; exact eD 9 Z (En [32,0] Z)
 refine U 1 Z (An 3 33 36 [0] (decide (0 < eU)) Z Z Z Z (J 0 Z (C hf Z (fun h7 hf=>?_) fun h7 hf=>?_)))
 · cases hf; exact M 3 Z (Y Z h)
 cases hf; exact M 2 Z (Y Z h)
end Go.Proofs.YtljfgagpnpolhaaGreatDoor
