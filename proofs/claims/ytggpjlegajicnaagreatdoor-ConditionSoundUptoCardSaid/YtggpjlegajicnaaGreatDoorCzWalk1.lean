/- Proved here: each function does what its functional text says (part 1). -/
import Derived.Test.YtggpjlegajicnaaGreatDoorCzA2
import Derived.Test.YtggpjlegajicnaaGreatDoorCzPre1
import Derived.Test.YtggpjlegajicnaaGreatDoorCzFt1
import Derived.Test.YtggpjlegajicnaaGreatDoorCzPool1
import Derived.Test.YtggpjlegajicnaaGreatDoorProg
import Derived.KernelRfl
set_option linter.unusedVariables false
set_option linter.unusedSimpArgs false
set_option linter.unusedSectionVars false
namespace Go.Ft
open Go Go.Abs
mutual
def ah.cells :ah→List PV
  | ⟨a0,a1,a2,a3,a4,a5⟩=>[.int .i64 a0,.bool a1,.int .i64 a2,.str a3,.list (ah.aT a4),.list (List.map wR a5)]
def ah.aT :List ah→List (List PV)
  | []=>[]
  | x :: xs=>ah.cells x :: ah.aT xs
end
theorem ah.aC (x:ah):ah.cells x=[.int .i64 x.kind,.bool x.dM,.int .i64 x.dO,.str x.bO,.list (ah.aT x.aI),.list (List.map wR x.keys)]:=by cases x; rfl
theorem ah.aA :∀ l:List ah,ah.aT l=l.map ah.cells
  | []=>rfl
  | _ :: l=>congrArg _ (ah.aA l)
def ah.qJ (l:List ah):List PV:=[.list (ah.aT l)]
theorem ah.dL (x:ah):(ah.cells x).length=6:=by rw [ah.aC]; rfl
theorem ah.cells_one (x:ah):(ah.cells x).all PV.one=true:=by rw [ah.aC]; rfl
mutual
def ak.cells :ak→List PV
  | ⟨a0,a1,a2,a3,a4⟩=>[.int .i64 a0,.str a1,.int .i64 a2.kind,.bool a2.dM,.int .i64 a2.dO,.str a2.bO,.list (ah.aT a2.aI),.list (List.map wR a2.keys),.list (ak.aT a3),.list (List.map wR a4)]
def ak.aT :List ak→List (List PV)
  | []=>[]
  | x :: xs=>ak.cells x :: ak.aT xs
end
theorem ak.aC (x:ak):ak.cells x=[.int .i64 x.kind,.str x.name,.int .i64 x.value.kind,.bool x.value.dM,.int .i64 x.value.dO,.str x.value.bO,.list (ah.aT x.value.aI),.list (List.map wR x.value.keys),.list (ak.aT x.args),.list (List.map wR x.keys)]:=by cases x; rfl
theorem ak.aA :∀ l:List ak,ak.aT l=l.map ak.cells
  | []=>rfl
  | _ :: l=>congrArg _ (ak.aA l)
def ak.qJ (l:List ak):List PV:=[.list (ak.aT l)]
theorem ak.dL (x:ak):(ak.cells x).length=10:=by rw [ak.aC]; rfl
theorem ak.cells_one (x:ak):(ak.cells x).all PV.one=true:=by rw [ak.aC]; rfl
@[reducible] def aB.cells (x:aB):List PV:=[.str x.name,.int .i64 x.value.kind,.bool x.value.dM,.int .i64 x.value.dO,.str x.value.bO,.list (ah.aT x.value.aI),.list (List.map wR x.value.keys)]
theorem aB.aC (x:aB):aB.cells x=[.str x.name,.int .i64 x.value.kind,.bool x.value.dM,.int .i64 x.value.dO,.str x.value.bO,.list (ah.aT x.value.aI),.list (List.map wR x.value.keys)]:=rfl
theorem aB.dL (x:aB):(aB.cells x).length=7:=by rw [aB.aC]; rfl
theorem aB.cells_one (x:aB):(aB.cells x).all PV.one=true:=by rw [aB.aC]; rfl
@[reducible] def aS.cells (x:aS):List PV:=[.int .i64 x.kind,.str x.text,.int .i64 x.at_]
theorem aS.aC (x:aS):aS.cells x=[.int .i64 x.kind,.str x.text,.int .i64 x.at_]:=rfl
theorem aS.dL (x:aS):(aS.cells x).length=3:=by rw [aS.aC]; rfl
theorem aS.cells_one (x:aS):(aS.cells x).all PV.one=true:=by rw [aS.aC]; rfl
@[reducible] def ay.cells (x:ay):List PV:=[.list (List.map aS.cells x.ts),.int .i64 x.at_]
theorem ay.aC (x:ay):ay.cells x=[.list (List.map aS.cells x.ts),.int .i64 x.at_]:=rfl
theorem ay.dL (x:ay):(ay.cells x).length=2:=by rw [ay.aC]; rfl
theorem ay.cells_one (x:ay):(ay.cells x).all PV.one=true:=by rw [ay.aC]; rfl
@[reducible] def aK.cells (x:aK):List PV:=[.int .i64 x.at_,.int .i64 x.code]
theorem aK.aC (x:aK):aK.cells x=[.int .i64 x.at_,.int .i64 x.code]:=rfl
theorem aK.dL (x:aK):(aK.cells x).length=2:=by rw [aK.aC]; rfl
theorem aK.cells_one (x:aK):(aK.cells x).all PV.one=true:=by rw [aK.aC]; rfl
@[reducible] def aW.cells (x:aW):List PV:=[.bool x.cancelled,.bool x.failure,.bool x.skipped,.bool x.success]
theorem aW.aC (x:aW):aW.cells x=[.bool x.cancelled,.bool x.failure,.bool x.skipped,.bool x.success]:=rfl
theorem aW.dL (x:aW):(aW.cells x).length=4:=by rw [aW.aC]; rfl
theorem aW.cells_one (x:aW):(aW.cells x).all PV.one=true:=by rw [aW.aC]; rfl
@[reducible] def aD.cells (x:aD):List PV:=[.int .i64 x.code]
theorem aD.aC (x:aD):aD.cells x=[.int .i64 x.code]:=rfl
theorem aD.dL (x:aD):(aD.cells x).length=1:=by rw [aD.aC]; rfl
theorem aD.cells_one (x:aD):(aD.cells x).all PV.one=true:=by rw [aD.aC]; rfl
@[reducible] def iI.cells (x:iI):List PV:=[.int .u64 ((x.half.getD 0 0).toNat:Int),.int .u64 ((x.half.getD 1 0).toNat:Int),.bool x.neg]
theorem iI.aC (x:iI):iI.cells x=[.int .u64 ((x.half.getD 0 0).toNat:Int),.int .u64 ((x.half.getD 1 0).toNat:Int),.bool x.neg]:=rfl
theorem iI.dL (x:iI):(iI.cells x).length=3:=by rw [iI.aC]; rfl
theorem iI.cells_one (x:iI):(iI.cells x).all PV.one=true:=by rw [iI.aC]; rfl
mutual
def aj.cells :aj→List PV
  | ⟨a0,a1⟩=>[.int .i64 a0,.list (aj.aT a1)]
def aj.aT :List aj→List (List PV)
  | []=>[]
  | x :: xs=>aj.cells x :: aj.aT xs
end
theorem aj.aC (x:aj):aj.cells x=[.int .i64 x.kind,.list (aj.aT x.elem)]:=by cases x; rfl
theorem aj.aA :∀ l:List aj,aj.aT l=l.map aj.cells
  | []=>rfl
  | _ :: l=>congrArg _ (aj.aA l)
def aj.qJ (l:List aj):List PV:=[.list (aj.aT l)]
theorem aj.dL (x:aj):(aj.cells x).length=2:=by rw [aj.aC]; rfl
theorem aj.cells_one (x:aj):(aj.cells x).all PV.one=true:=by rw [aj.aC]; rfl
@[reducible] def aG.cells (x:aG):List PV:=[.str x.name,.int .i64 x.o7.kind,.list (aj.aT x.o7.elem)]
theorem aG.aC (x:aG):aG.cells x=[.str x.name,.int .i64 x.o7.kind,.list (aj.aT x.o7.elem)]:=rfl
theorem aG.dL (x:aG):(aG.cells x).length=3:=by rw [aG.aC]; rfl
theorem aG.cells_one (x:aG):(aG.cells x).all PV.one=true:=by rw [aG.aC]; rfl
end Go.Ft
namespace Go.Proofs.YtggpjlegajicnaaGreatDoor
open Go Go.Abs Go.Ft
set_option maxRecDepth 20000
attribute [local irreducible] AO AR AW AC
class Hf [iw]:Prop where
  hD:¬ iw.D
  max:∀ (w:World) (m:jM),iw.G w m→∃ n:Int,w.cell? ⟨2,0,none⟩=some (.int .i64 n)
  pow:∀ (w:World) (m:jM),iw.G w m→Lib.TabIs Tryz.prog w "internal/strconv.uint64pow10" .u64 Lib.pow10Tab
  syn:∀ (w:World) (m:jM),iw.G w m→∃ ev,w.cell? ⟨0,0,none⟩=some ev∧(ev=.nilIface∨∃ te pe,ev=.iface te pe)
  rng:∀ (w:World) (m:jM),iw.G w m→∃ ev,w.cell? ⟨1,0,none⟩=some ev∧(ev=.nilIface∨∃ te pe,ev=.iface te pe)
variable [iw]
theorem amj (w:World):(isAgg 51).run Tryz.prog w=.ok true w:=by kernel_rfl
theorem aga :Aw Tryz.prog 204=some (8,1):=by kernel_rfl
theorem LY :Aw Tryz.prog 238=some (2,1):=by kernel_rfl
theorem akq :Tryz.prog.cellsOf 237=1:=by kernel_rfl
theorem akp :Tryz.prog.cellsOf 238=2:=by kernel_rfl
theorem ant :Tryz.prog.cellsOf 5=1:=by kernel_rfl
theorem akl :Tryz.prog.eqGuardType Tryz.prog.depth 238=false:=by kernel_rfl
theorem Wp :elemSize Tryz.prog 155=some 1:=by kernel_rfl
theorem aax :elemSize Tryz.prog 168=some 1:=by kernel_rfl
theorem Ju :elemSize Tryz.prog 22=some 1:=by kernel_rfl
theorem nA :elemSize Tryz.prog 23=some 7:=by kernel_rfl
theorem fB :elemSize Tryz.prog 28=some 6:=by kernel_rfl
theorem fE :elemSize Tryz.prog 29=some 1:=by kernel_rfl
theorem g_ :elemSize Tryz.prog 32=some 10:=by kernel_rfl
theorem zl :elemSize Tryz.prog 42=some 3:=by kernel_rfl
theorem dX :elemSize Tryz.prog 52=some 2:=by kernel_rfl
theorem Hw :elemSize Tryz.prog 82=some 3:=by kernel_rfl
theorem aiE :elemSize Tryz.prog 92=some 7:=by kernel_rfl
theorem M_ :Bg Tryz.prog 170 0=some 0:=by kernel_rfl
theorem Dp :Bg Tryz.prog 170 1=some 1:=by kernel_rfl
theorem afq :Tryz.prog.underlying 177=some (.interface (Tryz.prog.methodsAt 177)):=by kernel_rfl
theorem inB :∃ j,Tryz.prog.info? 170=some j∧(j.size != 0)=true:=sized (n:=2) (by kernel_rfl) rfl
theorem alD :liesAt Tryz.prog Tryz.prog.depth 170 (2 / Tryz.prog.cellsOf 170) 0 170 1=true:=by kernel_rfl
theorem mixed :Tryz.prog.follows .mixedOrders=true:=by kernel_rfl
theorem GJ :Tryz.prog.underlying 117=some (.map 9 3):=by kernel_rfl
theorem ajX :concrete Tryz.prog 111=true:=by kernel_rfl
theorem ajP :aV Tryz.prog 101=true:=by kernel_rfl
theorem ajO :aV Tryz.prog 102=true:=by kernel_rfl
theorem ajN :aV Tryz.prog 103=true:=by kernel_rfl
theorem ajM :aV Tryz.prog 105=true:=by kernel_rfl
theorem ae1 :aV Tryz.prog 107=true:=by kernel_rfl
theorem aiq :aV Tryz.prog 11=true:=by kernel_rfl
theorem ajL :aV Tryz.prog 111=true:=by kernel_rfl
theorem ae0 :aV Tryz.prog 112=true:=by kernel_rfl
theorem ajK :aV Tryz.prog 113=true:=by kernel_rfl
theorem ajJ :aV Tryz.prog 114=true:=by kernel_rfl
theorem aeZ :aV Tryz.prog 117=true:=by kernel_rfl
theorem alx :aV Tryz.prog 12=true:=by kernel_rfl
theorem aeY :aV Tryz.prog 122=true:=by kernel_rfl
theorem ajI :aV Tryz.prog 123=true:=by kernel_rfl
theorem aeX :aV Tryz.prog 138=true:=by kernel_rfl
theorem ajH :aV Tryz.prog 142=true:=by kernel_rfl
theorem NV :aV Tryz.prog 143=true:=by kernel_rfl
theorem I8 :aV Tryz.prog 145=true:=by kernel_rfl
theorem VP :aV Tryz.prog 147=true:=by kernel_rfl
theorem ajG :aV Tryz.prog 148=true:=by kernel_rfl
theorem aeW :aV Tryz.prog 149=true:=by kernel_rfl
theorem Dc :aV Tryz.prog 151=true:=by kernel_rfl
theorem ajF :aV Tryz.prog 152=true:=by kernel_rfl
theorem wW :aV Tryz.prog 154=true:=by kernel_rfl
theorem mZ :aV Tryz.prog 155=true:=by kernel_rfl
theorem ajE :aV Tryz.prog 156=true:=by kernel_rfl
theorem Z6 :aV Tryz.prog 157=true:=by kernel_rfl
theorem ajD :aV Tryz.prog 158=true:=by kernel_rfl
theorem aeV :aV Tryz.prog 159=true:=by kernel_rfl
theorem aip :aV Tryz.prog 16=true:=by kernel_rfl
theorem ajC :aV Tryz.prog 160=true:=by kernel_rfl
theorem aeU :aV Tryz.prog 167=true:=by kernel_rfl
theorem aeT :aV Tryz.prog 173=true:=by kernel_rfl
theorem ajB :aV Tryz.prog 174=true:=by kernel_rfl
theorem NU :aV Tryz.prog 176=true:=by kernel_rfl
theorem aio :aV Tryz.prog 18=true:=by kernel_rfl
theorem ajA :aV Tryz.prog 189=true:=by kernel_rfl
theorem alv :aV Tryz.prog 20=true:=by kernel_rfl
theorem ajz :aV Tryz.prog 202=true:=by kernel_rfl
theorem ajy :aV Tryz.prog 203=true:=by kernel_rfl
theorem ajx :aV Tryz.prog 204=true:=by kernel_rfl
theorem ajw :aV Tryz.prog 205=true:=by kernel_rfl
theorem aeS :aV Tryz.prog 207=true:=by kernel_rfl
theorem I7 :aV Tryz.prog 208=true:=by kernel_rfl
theorem QU :aV Tryz.prog 209=true:=by kernel_rfl
theorem alu :aV Tryz.prog 21=true:=by kernel_rfl
theorem ajv :aV Tryz.prog 213=true:=by kernel_rfl
theorem aeR :aV Tryz.prog 214=true:=by kernel_rfl
theorem aju :aV Tryz.prog 216=true:=by kernel_rfl
theorem aeQ :aV Tryz.prog 218=true:=by kernel_rfl
theorem als :aV Tryz.prog 22=true:=by kernel_rfl
theorem ajt :aV Tryz.prog 221=true:=by kernel_rfl
theorem aeP :aV Tryz.prog 225=true:=by kernel_rfl
theorem ajs :aV Tryz.prog 226=true:=by kernel_rfl
theorem ajr :aV Tryz.prog 227=true:=by kernel_rfl
theorem ajq :aV Tryz.prog 228=true:=by kernel_rfl
theorem alr :aV Tryz.prog 23=true:=by kernel_rfl
theorem aeO :aV Tryz.prog 230=true:=by kernel_rfl
theorem ajp :aV Tryz.prog 237=true:=by kernel_rfl
theorem aeN :aV Tryz.prog 241=true:=by kernel_rfl
theorem ajo :aV Tryz.prog 247=true:=by kernel_rfl
theorem aeM :aV Tryz.prog 248=true:=by kernel_rfl
theorem alq :aV Tryz.prog 25=true:=by kernel_rfl
theorem ajn :aV Tryz.prog 254=true:=by kernel_rfl
theorem ajm :aV Tryz.prog 255=true:=by kernel_rfl
theorem aeL :aV Tryz.prog 256=true:=by kernel_rfl
theorem ain :aV Tryz.prog 26=true:=by kernel_rfl
theorem ajl :aV Tryz.prog 260=true:=by kernel_rfl
theorem aeK :aV Tryz.prog 261=true:=by kernel_rfl
theorem ajk :aV Tryz.prog 263=true:=by kernel_rfl
theorem ajj :aV Tryz.prog 269=true:=by kernel_rfl
theorem aeJ :aV Tryz.prog 270=true:=by kernel_rfl
theorem aji :aV Tryz.prog 279=true:=by kernel_rfl
theorem X4 :aV Tryz.prog 28=true:=by kernel_rfl
theorem ajh :aV Tryz.prog 283=true:=by kernel_rfl
theorem ajg :aV Tryz.prog 284=true:=by kernel_rfl
theorem ail :aV Tryz.prog 29=true:=by kernel_rfl
theorem aeI :aV Tryz.prog 290=true:=by kernel_rfl
theorem aeH :aV Tryz.prog 295=true:=by kernel_rfl
theorem ajf :aV Tryz.prog 318=true:=by kernel_rfl
theorem aje :aV Tryz.prog 324=true:=by kernel_rfl
theorem ajd :aV Tryz.prog 325=true:=by kernel_rfl
theorem alp :aV Tryz.prog 34=true:=by kernel_rfl
theorem alo :aV Tryz.prog 36=true:=by kernel_rfl
theorem aln :aV Tryz.prog 41=true:=by kernel_rfl
theorem alm :aV Tryz.prog 42=true:=by kernel_rfl
theorem aik :aV Tryz.prog 46=true:=by kernel_rfl
theorem alk :aV Tryz.prog 47=true:=by kernel_rfl
theorem alj :aV Tryz.prog 48=true:=by kernel_rfl
theorem ali :aV Tryz.prog 49=true:=by kernel_rfl
theorem alh :aV Tryz.prog 52=true:=by kernel_rfl
theorem aeG :aV Tryz.prog 58=true:=by kernel_rfl
theorem QT :aV Tryz.prog 59=true:=by kernel_rfl
theorem aij :aV Tryz.prog 64=true:=by kernel_rfl
theorem X3 :aV Tryz.prog 65=true:=by kernel_rfl
theorem aii :aV Tryz.prog 66=true:=by kernel_rfl
theorem alg :aV Tryz.prog 67=true:=by kernel_rfl
theorem alf :aV Tryz.prog 69=true:=by kernel_rfl
theorem ale :aV Tryz.prog 73=true:=by kernel_rfl
theorem ald :aV Tryz.prog 75=true:=by kernel_rfl
theorem OW :aV Tryz.prog 76=true:=by kernel_rfl
theorem aif :aV Tryz.prog 79=true:=by kernel_rfl
theorem alc :aV Tryz.prog 81=true:=by kernel_rfl
theorem alb :aV Tryz.prog 89=true:=by kernel_rfl
theorem amE :aV Tryz.prog 9=true:=by kernel_rfl
theorem ala :aV Tryz.prog 90=true:=by kernel_rfl
theorem ak_ :aV Tryz.prog 91=true:=by kernel_rfl
theorem QS :aV Tryz.prog 92=true:=by kernel_rfl
theorem aie :aV Tryz.prog 96=true:=by kernel_rfl
theorem ak9 :aV Tryz.prog 97=true:=by kernel_rfl
theorem BI :iZ Tryz.prog 155 52 1 24:=sD (by kernel_rfl)
theorem ZW :iZ Tryz.prog 168 5 1 1:=sD (by kernel_rfl)
theorem aeA :iZ Tryz.prog 22 3 1 8:=sD (by kernel_rfl)
theorem yx :iZ Tryz.prog 23 51 7 104:=sD (by kernel_rfl)
theorem Ec :iZ Tryz.prog 28 31 6 88:=sD (by kernel_rfl)
theorem Eb :iZ Tryz.prog 29 9 1 16:=sD (by kernel_rfl)
theorem aez :iZ Tryz.prog 32 34 10 160:=sD (by kernel_rfl)
theorem Mr :iZ Tryz.prog 42 57 3 48:=sD (by kernel_rfl)
theorem rC :iZ Tryz.prog 52 54 2 32:=sD (by kernel_rfl)
theorem Uz :iZ Tryz.prog 82 88 3 32:=sD (by kernel_rfl)
theorem agY :yw Tryz.prog 136=some [(0,1),(1,1)]:=by kernel_rfl
theorem ZO :yw Tryz.prog 31=some [(0,1),(1,1),(2,1),(3,1),(4,1),(5,1)]:=by kernel_rfl
theorem aen :yw Tryz.prog 34=some [(0,1),(1,1),(2,6),(8,1),(9,1)]:=by kernel_rfl
theorem aem :yw Tryz.prog 51=some [(0,1),(1,6)]:=by kernel_rfl
theorem ai9 :yw Tryz.prog 54=some [(0,1),(1,1)]:=by kernel_rfl
theorem ael :yw Tryz.prog 57=some [(0,1),(1,2)]:=by kernel_rfl
theorem agR (w:Go.World):(Instr.typeAssert .nilIface 20 111 true).run Tryz.prog w=.ok (.tuple #[.agg #[.int .i64 0],.bool false]) w:=by kernel_rfl
theorem agQ (w:Go.World):(Instr.typeAssert .nilIface 20 138 true).run Tryz.prog w=.ok (.tuple #[.agg #[.int .i64 0,.int .i64 0],.bool false]) w:=by kernel_rfl
theorem agP (v:Value) (w:Go.World):(Instr.typeAssert (.iface 111 v) 20 111 true).run Tryz.prog w=.ok (.tuple #[v,.bool true]) w:=by kernel_rfl
theorem agO (v:Value) (w:Go.World):(Instr.typeAssert (.iface 138 v) 20 138 true).run Tryz.prog w=.ok (.tuple #[v,.bool true]) w:=by kernel_rfl
theorem aef :jo Tryz.prog 111=some (true,1):=by kernel_rfl
theorem aee :jo Tryz.prog 138=some (true,2):=by kernel_rfl
theorem Vy :jo Tryz.prog 167=some (false,1):=by kernel_rfl
theorem K5 :jo Tryz.prog 168=some (false,1):=by kernel_rfl
theorem ai4 :jo Tryz.prog 238=some (true,2):=by kernel_rfl
theorem KA :jo Tryz.prog 28=some (false,1):=by kernel_rfl
theorem aic :jo Tryz.prog 29=some (false,1):=by kernel_rfl
theorem ES :jo Tryz.prog 3=some (false,1):=by kernel_rfl
theorem o8 :jo Tryz.prog 31=some (true,6):=by kernel_rfl
theorem vO :jo Tryz.prog 34=some (true,10):=by kernel_rfl
theorem Ea :jo Tryz.prog 36=some (false,1):=by kernel_rfl
theorem agM :jo Tryz.prog 4=some (false,1):=by kernel_rfl
theorem ak5 :jo Tryz.prog 51=some (true,7):=by kernel_rfl
theorem aib :jo Tryz.prog 52=some (false,1):=by kernel_rfl
theorem fD :jo Tryz.prog 54=some (true,2):=by kernel_rfl
theorem abj :jo Tryz.prog 82=some (false,1):=by kernel_rfl
theorem aed :jo Tryz.prog 88=some (true,3):=by kernel_rfl
theorem Xw :jo Tryz.prog 9=some (false,1):=by kernel_rfl
theorem ah_ :Tryz.prog.underlying 23=some (.slice 51):=by kernel_rfl
theorem Qv :Tryz.prog.underlying 237=some (.int .u64):=by kernel_rfl
theorem aiZ :Tryz.prog.underlying 238=some (.array 2 237):=by kernel_rfl
theorem ak4 :Tryz.prog.underlying 28=some (.slice 31):=by kernel_rfl
theorem ak3 :Tryz.prog.underlying 29=some (.slice 9):=by kernel_rfl
theorem ZI :Tryz.prog.underlying 3=some (.int .i64):=by kernel_rfl
theorem agF :Tryz.prog.underlying 4=some (.bool):=by kernel_rfl
theorem aiY :Tryz.prog.underlying 5=some (.int .u8):=by kernel_rfl
theorem d9 :Tryz.prog.underlying 9=some (.string):=by kernel_rfl
theorem Qu :Tryz.prog.underlying 167=some (.pointer 170):=by kernel_rfl
theorem aiX :Tryz.prog.underlying 207=some (.pointer 5):=by kernel_rfl
theorem ad5 :Tryz.prog.underlying 228=some .unsafePointer:=by kernel_rfl
theorem akW (w:World):(Go.sizeOf 51).run Tryz.prog w=.ok 7 w:=by kernel_rfl
theorem acj :(Tryz.prog.info? 3).map (·.zero)=some (some (.int .i64 0)):=by kernel_rfl
theorem adW :nI Tryz.prog 111=some [.int .i64 0]:=by kernel_rfl
theorem aiT :nI Tryz.prog 136=some [.own (.slice none 0 0) [],.int .i64 0]:=by kernel_rfl
theorem adV :nI Tryz.prog 138=some [.int .i64 0,.int .i64 0]:=by kernel_rfl
theorem adU :nI Tryz.prog 170=some [.val (.pointer none),.own (.slice none 0 0) []]:=by kernel_rfl
theorem adT :nI Tryz.prog 204=some [.str [],.str [],.str [],.str [],.str [],.str [],.str [],.str []]:=by kernel_rfl
theorem adS :nI Tryz.prog 238=some [.int .u64 0,.int .u64 0]:=by kernel_rfl
theorem Zt :nI Tryz.prog 240=some [.int .u64 0,.int .u64 0,.bool false]:=by kernel_rfl
theorem akV :nI Tryz.prog 3=some [.int .i64 0]:=by kernel_rfl
theorem gV :nI Tryz.prog 31=some [.int .i64 0,.bool false,.int .i64 0,.str [],.own (.slice none 0 0) [],.own (.slice none 0 0) []]:=by kernel_rfl
theorem qG :nI Tryz.prog 34=some [.int .i64 0,.str [],.int .i64 0,.bool false,.int .i64 0,.str [],.own (.slice none 0 0) [],.own (.slice none 0 0) [],.own (.slice none 0 0) [],.own (.slice none 0 0) []]:=by kernel_rfl
theorem adR :nI Tryz.prog 36=some [.int .i64 0]:=by kernel_rfl
theorem L9 :nI Tryz.prog 51=some [.str [],.int .i64 0,.bool false,.int .i64 0,.str [],.own (.slice none 0 0) [],.own (.slice none 0 0) []]:=by kernel_rfl
theorem gG :nI Tryz.prog 54=some [.int .i64 0,.own (.slice none 0 0) []]:=by kernel_rfl
theorem aa4 :nI Tryz.prog 57=some [.str [],.int .i64 0,.own (.slice none 0 0) []]:=by kernel_rfl
theorem adQ :nI Tryz.prog 64=some [.bool false,.bool false,.bool false,.bool false]:=by kernel_rfl
theorem Hg :nI Tryz.prog 88=some [.int .i64 0,.str [],.int .i64 0]:=by kernel_rfl
def FX :Facts:={ti:=[(3,false,1),(4,false,1),(5,false,1),(9,false,1),(28,false,1),(29,false,1),(31,true,6),(32,false,1),(34,true,10),(36,false,1),(51,true,7),(52,false,1),(54,true,2),(57,true,3),(88,true,3),(111,true,1),(136,true,2),(138,true,2),(237,false,1)],fo:=[(31,0,0),(31,1,1),(31,2,2),(31,3,3),(31,4,4),(31,5,5),(34,0,0),(34,1,1),(34,2,2),(34,3,8),(34,4,9),(51,0,0),(51,1,1),(54,0,0),(54,1,1),(57,0,0),(57,1,1),(64,0,0),(64,1,1),(64,2,2),(64,3,3),(88,0,0),(88,1,1),(88,2,2),(111,0,0),(136,0,0),(136,1,1),(138,0,0),(138,1,1),(240,0,0),(240,1,2)],fd:=[],str:=[]}
theorem aH :FX.okB Tryz.prog=true:=by kernel_rfl
theorem cs {n:Nat} {all:Array Oper} {σ:List bg} {ds:List Deferred} {Q:Post} (k:Nat) {l l':List Oper} {env env':Env} (h:Pp FX all n k l env=some (env',l')) (hr:AR Tryz.prog n all l' env' σ ds Q):AR Tryz.prog n all l env σ ds Q:=AR.cs aH k h hr
def FY :FB:=⟨{FX with ti:=FX.ti ++ [(3,false,1),(4,false,1),(9,false,1),(28,false,1),(29,false,1),(31,true,6),(34,true,10),(51,true,7),(52,false,1),(54,true,2),(57,true,3),(64,true,4),(88,true,3),(204,true,8),(240,true,3)]},[(31,[.int .i64 0,.bool false,.int .i64 0,.str [],.own (.slice none 0 0) [],.own (.slice none 0 0) []]),(34,[.int .i64 0,.str [],.int .i64 0,.bool false,.int .i64 0,.str [],.own (.slice none 0 0) [],.own (.slice none 0 0) [],.own (.slice none 0 0) [],.own (.slice none 0 0) []]),(51,[.str [],.int .i64 0,.bool false,.int .i64 0,.str [],.own (.slice none 0 0) [],.own (.slice none 0 0) []]),(54,[.int .i64 0,.own (.slice none 0 0) []]),(57,[.str [],.int .i64 0,.own (.slice none 0 0) []]),(64,[.bool false,.bool false,.bool false,.bool false]),(88,[.int .i64 0,.str [],.int .i64 0]),(111,[.int .i64 0]),(240,[.int .u64 0,.int .u64 0,.bool false])],[(31,[(0,1),(1,1),(2,1),(3,1),(4,1),(5,1)]),(34,[(0,1),(1,1),(2,6),(8,1),(9,1)]),(51,[(0,1),(1,6)]),(54,[(0,1),(1,1)]),(57,[(0,1),(1,2)]),(64,[(0,1),(1,1),(2,1),(3,1)]),(88,[(0,1),(1,1),(2,1)]),(111,[(0,1)]),(240,[(0,2),(2,1)])]⟩
instance : FK Tryz.prog:=⟨FY,⟨by kernel_rfl,by kernel_rfl,by kernel_rfl⟩,[9,13,14,16,18,19,21,24,27,30,31,32,33,37,38,39,40,41,42,43,44,48,50,51,52,53,55,56,57,58,59,60,61,62,63,64,65,68,70,71,72,74,76,77,81,82,83,84,85,86,87,88,92,93,94,95,96,97,98,99,100,104,105,106,107,108,110,112,113,114,115,116,117,118,119,120,121,122,123,124,125,126,127,128,137,138,139,140,141,142,143,144,145,146,147,148,149,150,151,153,154,161,163,166,167,168,170,171,172,175,176,177,178,179,180,181,182,183,184,185,186,187,188,197,206,210,211,212,213,214,215,219,220,221,222,223,226,229,230,231,232,233,234,235,236,237,238,239,240,241,242,243,244,245,246,248,253,257,259,261,262,263,264,265,266,267,269,271,272,273,274,275,276,277,278,282,289,290,291,292,293,294,295,301,304,305,306,307,319,320,321,324,325,326,327,330,347],by kernel_rfl⟩
variable {τ : List bg} {Q : eD → List bg → Prop}
abbrev PC :=AC Tryz.prog
@[reducible] def iP (x:Int):PV:=.int .i64 x
@[reducible] def sP (x:List Str):PV:=.list (List.map wR x)
@[reducible] def pP (b:Nat):PV:=.val (.pointer (some ⟨b,0,none⟩))
@[reducible] def aL (x:ah):List PV:=[.int .i64 x.kind,.bool x.dM,.int .i64 x.dO,.str x.bO,.list (ah.aT x.aI),.list (List.map wR x.keys)]
@[reducible] def bf (x:ak):List PV:=[.int .i64 x.kind,.str x.name,.int .i64 x.value.kind,.bool x.value.dM,.int .i64 x.value.dO,.str x.value.bO,.list (ah.aT x.value.aI),.list (List.map wR x.value.keys),.list (ak.aT x.args),.list (List.map wR x.keys)]
@[reducible] def Et (x:aB):List PV:=[.str x.name,.int .i64 x.value.kind,.bool x.value.dM,.int .i64 x.value.dO,.str x.value.bO,.list (ah.aT x.value.aI),.list (List.map wR x.value.keys)]
@[reducible] def aN (x:aj):List PV:=[.int .i64 x.kind,.list (aj.aT x.elem)]
@[reducible] def alE (x:aG):List PV:=[.str x.name,.int .i64 x.o7.kind,.list (aj.aT x.o7.elem)]
@[reducible] def yY (x:aW):List PV:=[.bool x.cancelled,.bool x.failure,.bool x.skipped,.bool x.success]
@[reducible] def zZ (x:aS):List PV:=[.int .i64 x.kind,.str x.text,.int .i64 x.at_]
@[reducible] def bF (x:ay):List PV:=[.list (List.map aS.cells x.ts),.int .i64 x.at_]
@[reducible] def oM (x:aK):List PV:=[.int .i64 x.at_,.int .i64 x.code]
@[reducible] def OY (x:iI):List PV:=[.int .u64 ((x.half.getD 0 0).toNat:Int),.int .u64 ((x.half.getD 1 0).toNat:Int),.bool x.neg]
theorem H9 {b:Nat} {v p:Value} {bs:List UInt8} (hp:p=Value.pointer none∨p=.pointer (some ⟨b,0,none⟩)) {R:eD→List bg→Prop} (h:R (.ret (.tuple [])) [.xV b 170 [.val (.pointer (some ⟨b,0,none⟩)),.own v (bs.map uM)],.row v bs.length 1 5]):
    AC Tryz.prog 218 [.val (.pointer (some ⟨b,0,none⟩))] [.xV b 170 [.val p,.own v (bs.map uM)],.row v bs.length 1 5] R:=by
  obtain ⟨j,hj1,hj2⟩:=inB; rcases hp with rfl | rfl
  · skip
    refine AC.vB 20 [] [0] Tryz.func218 rfl rfl rfl rfl rfl ?_; refine AW.seq ?_; refine AW.region ?_; refine AR.step rfl rfl rfl (AO.calc' rfl ?_); refine AR.step rfl rfl rfl (AO.nilCheck rfl rfl ?_); refine AR.step rfl rfl rfl (AO.jK rfl rfl M_ ?_); refine AR.step rfl rfl rfl (AO.xM (i:=0) rfl rfl rfl Vy rfl rfl ?_); refine AR.step rfl rfl rfl (AO.abw rfl Qu rfl rfl ?_); refine AR.nil [0,6] rfl ?_; refine AW.cond rfl (fun h1=>?_) (fun h1=>?_)
    · refine AW.region ?_; refine AR.step rfl rfl rfl (AO.calc' rfl ?_); refine AR.step rfl rfl rfl (AO.calc' rfl ?_); refine AR.step rfl rfl rfl (AO.acv (i:=0) rfl Qu ad5 hj1 hj2 rfl rfl rfl ?_); refine AR.step rfl rfl rfl (AO.ae_ rfl rfl rfl rfl Tryz.func258 (by kernel_rfl) (by kernel_rfl) (by kernel_rfl) (by kernel_rfl) rfl ?_); refine AR.step rfl rfl rfl (AO.Yy (i:=0) rfl ad5 Qu hj1 rfl rfl rfl alD ?_); refine AR.step rfl rfl rfl (AO.nilCheck rfl rfl ?_); refine AR.step rfl rfl rfl (AO.jK rfl rfl M_ ?_); refine AR.bQ rfl rfl (AO.K7 (i:=0) rfl rfl rfl Vy rfl rfl rfl rfl rfl ?_); refine AR.nil [] rfl ?_; exact ⟨rfl,[],rfl,_,List.Sublist.refl _,h⟩
    · cases h1
  · skip
    refine AC.vB 20 [] [0] Tryz.func218 rfl rfl rfl rfl rfl ?_; refine AW.seq ?_; refine AW.region ?_; refine AR.step rfl rfl rfl (AO.calc' rfl ?_); refine AR.step rfl rfl rfl (AO.nilCheck rfl rfl ?_); refine AR.step rfl rfl rfl (AO.jK rfl rfl M_ ?_); refine AR.step rfl rfl rfl (AO.xM (i:=0) rfl rfl rfl Vy rfl rfl ?_); refine AR.step rfl rfl rfl (AO.abw rfl Qu rfl rfl ?_); refine AR.nil [0,6] rfl ?_; refine AW.cond rfl (fun h1=>?_) (fun h1=>?_)
    · cases h1
    · refine AW.seq ?_; refine AW.region ?_; refine AR.step rfl rfl rfl (AO.calc' rfl ?_); refine AR.step rfl rfl rfl (AO.nilCheck rfl rfl ?_); refine AR.step rfl rfl rfl (AO.jK rfl rfl M_ ?_); refine AR.step rfl rfl rfl (AO.xM (i:=0) rfl rfl rfl Vy rfl rfl ?_); refine AR.step rfl rfl rfl (AO.calc' rfl ?_); refine AR.step rfl rfl rfl (AO.VN rfl Qu hj1 rfl rfl ?_); refine AR.nil [19] rfl ?_; refine AW.cond rfl (fun h2=>?_) (fun h2=>?_)
      · cases h2
      · refine AW.skip ?_; exact ⟨rfl,[],rfl,_,List.Sublist.refl _,h⟩
theorem kF {b:Nat} {v:Value} {bs r:List UInt8} {c:UInt8} (hv:app bs [c]=some r) {R:eD→List bg→Prop} (h:∀ v',R (.ret (.val .nilIface)) [.NC b v' 170 5 r]):AC Tryz.prog 166 [.val (.pointer (some ⟨b,0,none⟩)),.int .u8 (c.toNat:Int)] [.NC b v 170 5 bs] R:=by
  refine AC.NC fun p hp hroom=>?_; refine AC.vB 17 [.tmp 4] [0,1] Tryz.func166 rfl rfl rfl rfl rfl ?_; refine AW.seq ?_; refine AW.region ?_; refine AR.step rfl rfl rfl (AO.calc' rfl ?_); refine AR.nil [0,1] rfl ?_; refine AW.seq ?_; refine AW.region ?_; refine AR.step rfl rfl rfl (AO.calc' rfl ?_); refine AR.step rfl rfl rfl (AO.call rfl _ rfl rfl aeQ (H9 hp ?_)); refine AR.nil [0,1] rfl ?_; refine AW.seq ?_; refine AW.region ?_; refine AR.step rfl rfl rfl (AO.calc' rfl ?_); refine AR.step rfl rfl rfl (AO.calc' rfl ?_); refine AR.step rfl rfl rfl (AO.nilCheck rfl rfl ?_); refine AR.step rfl rfl rfl (AO.jK rfl rfl Dp ?_); refine AR.step rfl rfl rfl (AO.xM (i:=0) rfl rfl rfl K5 rfl rfl ?_); refine AR.step rfl rfl rfl (AO.calc' rfl ?_); refine AR.step rfl rfl rfl (AO.buildSlice rfl ZW rfl rfl rfl ?_); refine AR.step rfl rfl rfl (AO.Vh (i:=1) hv rfl rfl rfl rfl rfl (Ny.list rfl aax (by simp [uM]) (by simp [uM,PV.one])) rfl ZW (fun v' s1 hs1 hr1=>?_)); cases hs1; refine AR.step rfl rfl rfl (AO.nilCheck rfl rfl ?_); refine AR.step rfl rfl rfl (AO.jK rfl rfl Dp ?_); refine AR.bQ rfl rfl (AO.K7 (i:=0) rfl rfl rfl K5 rfl rfl rfl rfl rfl ?_); refine AR.nil [1] rfl ?_; refine AW.seq ?_; refine AW.region ?_; refine AR.step rfl rfl rfl (AO.calc' rfl ?_); refine AR.nil [4] rfl ?_; refine AW.ret ?_; exact ⟨rfl,_,⟨_,_,rfl,rfl,rfl⟩,_,List.Sublist.refl _,_,v',r,rfl,.inr rfl,hr1 hroom,h v'⟩
theorem zx {b:Nat} {v:Value} {bs r:List UInt8} {s:List UInt8} (hv:app bs s=some r) {R:eD→List bg→Prop} (h:∀ v',R (.ret (.tuple [.int .i64 (s.length:Int),.val .nilIface])) [.NC b v' 170 5 r]):AC Tryz.prog 301 [.val (.pointer (some ⟨b,0,none⟩)),.str s] [.NC b v 170 5 bs] R:=by
  refine AC.NC fun p hp hroom=>?_; refine AC.vB 19 [.tmp 4,.tmp 5] [0,1] Tryz.func301 rfl rfl rfl rfl rfl ?_; refine AW.seq ?_; refine AW.region ?_; refine AR.step rfl rfl rfl (AO.calc' rfl ?_); refine AR.step rfl rfl rfl (AO.calc' rfl ?_); refine AR.nil [0,1] rfl ?_; refine AW.seq ?_; refine AW.region ?_; refine AR.step rfl rfl rfl (AO.calc' rfl ?_); refine AR.step rfl rfl rfl (AO.call rfl _ rfl rfl aeQ (H9 hp ?_)); refine AR.nil [0,1] rfl ?_; refine AW.seq ?_; refine AW.region ?_; refine AR.step rfl rfl rfl (AO.calc' rfl ?_); refine AR.step rfl rfl rfl (AO.calc' rfl ?_); refine AR.step rfl rfl rfl (AO.nilCheck rfl rfl ?_); refine AR.step rfl rfl rfl (AO.jK rfl rfl Dp ?_); refine AR.step rfl rfl rfl (AO.xM (i:=0) rfl rfl rfl K5 rfl rfl ?_); refine AR.step rfl rfl rfl (AO.calc' rfl ?_); refine AR.step rfl rfl rfl (AO.Vh (i:=1) hv rfl rfl rfl rfl rfl (Ny.str d9) rfl ZW (fun v' s1 hs1 hr1=>?_)); cases hs1; refine AR.step rfl rfl rfl (AO.nilCheck rfl rfl ?_); refine AR.step rfl rfl rfl (AO.jK rfl rfl Dp ?_); refine AR.bQ rfl rfl (AO.K7 (i:=0) rfl rfl rfl K5 rfl rfl rfl rfl rfl ?_); refine AR.nil [1] rfl ?_; refine AW.seq ?_; refine AW.region ?_; refine AR.step rfl rfl rfl (AO.calc' rfl ?_); refine AR.step rfl rfl rfl (AO.cB rfl rfl rfl rfl d9 rfl ?_); refine AR.step rfl rfl rfl (AO.calc' rfl ?_); refine AR.step rfl rfl rfl (AO.calc' rfl ?_); refine AR.nil [4,5] rfl ?_; refine AW.ret ?_; exact ⟨rfl,_,⟨_,_,rfl,rfl,_,_,rfl,rfl,rfl⟩,_,List.Sublist.refl _,_,v',r,rfl,.inr rfl,hr1 hroom,h v'⟩
theorem akP {b:Nat} {v:Value} {bs:List UInt8} {R:eD→List bg→Prop} (h:R (.ret (.int .i64 (bs.length:Int))) [.NC b v 170 5 bs]):AC Tryz.prog 162 [.val (.pointer (some ⟨b,0,none⟩))] [.NC b v 170 5 bs] R:=by
  refine AC.NC fun p hp hroom=>?_; refine AC.vB 8 [.tmp 2] [0] Tryz.func162 rfl rfl rfl rfl rfl ?_; refine AW.seq ?_; refine AW.region ?_; refine AR.step rfl rfl rfl (AO.calc' rfl ?_); refine AR.nil [0] rfl ?_; refine AW.seq ?_; refine AW.region ?_; refine AR.step rfl rfl rfl (AO.calc' rfl ?_); refine AR.step rfl rfl rfl (AO.nilCheck rfl rfl ?_); refine AR.step rfl rfl rfl (AO.jK rfl rfl Dp ?_); refine AR.step rfl rfl rfl (AO.xM (i:=0) rfl rfl rfl K5 rfl rfl ?_); refine AR.step rfl rfl rfl (AO.aM (l:=bs) rfl rfl rfl rfl aax rfl rfl ?_); refine AR.step rfl rfl rfl (AO.calc' rfl ?_); refine AR.nil [2] rfl ?_; refine AW.ret ?_; exact ⟨rfl,_,⟨_,_,rfl,rfl,rfl⟩,_,List.Sublist.refl _,p,v,bs,rfl,hp,hroom,h⟩
theorem Nu {b:Nat} {v:Value} {bs:List UInt8} {R:eD→List bg→Prop} (h:R (.ret (.str bs)) []):AC Tryz.prog 163 [.val (.pointer (some ⟨b,0,none⟩))] [.NC b v 170 5 bs] R:=by
  refine AC.ahS fun p hroom=>?_; refine AC.vB 14 [.tmp 2] [0] Tryz.func163 rfl rfl rfl rfl rfl ?_; refine AW.seq ?_; refine AW.region ?_; refine AR.step rfl rfl rfl (AO.calc' rfl ?_); refine AR.nil [0] rfl ?_; refine AW.seq ?_; refine AW.draw 10 mixed (by kernel_rfl) rfl ?_; refine Ev.cons rfl rfl rfl (AO.calc' rfl ⟨rfl,rfl⟩) ?_; refine Ev.cons rfl rfl rfl (AO.nilCheck rfl rfl ⟨rfl,rfl⟩) ?_; refine Ev.cons rfl rfl rfl (AO.jK rfl rfl Dp ⟨rfl,rfl⟩) ?_; refine Ev.cons rfl rfl rfl (AO.xM (i:=0) rfl rfl rfl K5 rfl rfl ⟨rfl,rfl⟩) ?_; refine Ev.cons rfl rfl rfl (AO.sliceData rfl rfl rfl rfl hroom ⟨rfl,rfl⟩) ?_; refine Ev.cons rfl rfl rfl (AO.calc' rfl ⟨rfl,rfl⟩) ?_; refine Ev.cons rfl rfl rfl (AO.nilCheck rfl rfl ⟨rfl,rfl⟩) ?_; refine Ev.cons rfl rfl rfl (AO.jK rfl rfl Dp ⟨rfl,rfl⟩) ?_; refine Ev.cons rfl rfl rfl (AO.xM (i:=0) rfl rfl rfl K5 rfl rfl ⟨rfl,rfl⟩) ?_; refine Ev.cons rfl rfl rfl (AO.aM (l:=bs) rfl rfl rfl rfl aax rfl rfl ⟨rfl,rfl⟩) ?_; refine Ev.nil ?_; show AR _ _ _ _ _ _ _ _; refine AR.step rfl rfl rfl (AO.unsafeString rfl rfl rfl rfl aiX ant rfl rfl rfl ?_); refine AR.step rfl rfl rfl (AO.calc' rfl ?_); refine AR.nil [2] rfl ?_; refine AW.ret ?_; exact ⟨rfl,_,⟨_,_,rfl,rfl,rfl⟩,[],List.nil_sublist _,h⟩
abbrev Pe (mK:ak→Option Int):Prop:=∀ (iO:ak) {aO:Int},mK iO=some aO→∀ {τ:List bg} {Q:eD→List bg→Prop} (h:Q (.ret (iP aO)) τ),PC 33 [.agg (bf iO)] τ Q
theorem Xi (mK) (Tw:Pe mK) (e1:ak) {r0:Int} (hf:Ei mK e1=some r0) (h:Q (.ret (iP r0)) τ):PC 33 [.agg (bf e1)] τ Q:=by
 unfold Ei at hf; refine BN 21 [.tmp 2] [0] Tryz.func33 Z Z Z Z Z (V 4 Z (Zn (fun n1 i1=>[(1,.ref (bf e1)),(3,iP n1),(4,iP i1)]) (fun n1 i1=>[]) (fun bP n1 i1=>yF mK e1 bP n1 i1=some r0) BIG 1 0 Z Z hf (fun _ _ hz=>bG hz) ?_)); intro bP n1 i1 hf; rw [yF] at hf; refine W 3 Z (AS Z (AO.aM (l:=e1.args) Z Z Z Z g_ Z (ak.aA _) (J 1 Z (C hf Z (fun h1 hf=>?_) fun h1 hf=>?_))))
 · refine B1 hf fun e2 h2 hf=>W 4 Z (AS Z (AO.aJ h2 Z Z (ak.aA _) Z g_ (ak.aC _) Z ?_)); refine B1 hf fun x1 h3 hf=>U 1 Z (CL Z (Tw _ h3 ?_)); exact N 5 Z ⟨(bW (n1 + x1)),(bW (i1 + 1)),Z,Z,Z,hf⟩
 cases hf; exact M 2 Z (Y Z h)
theorem Yf :∀ k:Nat,(Pe (pV k)):=by
 intro k
 induction k with
 | zero=>exact fun _ _ hz=>by first | cases hz | (unfold pV at hz; cases hz)
 | succ k ih=>exact fun iO aO hz τ Q hq=>Xi (pV k) ih iO hz hq
theorem O1 (iO:ak) {aO:Int} (hf:FC iO=some aO) (h:Q (.ret (iP aO)) τ):PC 33 [.agg (bf iO)] τ Q:=
 ((Yf BIG)) iO hf h
theorem Zb (e1:ak) (n1:Int) {r0:Bool} (hf:FN e1 n1=some r0) (h:Q (.ret (.bool r0)) τ):PC 13 [.agg (bf e1),iP n1] τ Q:=by
 unfold FN at hf; refine BN 12 [.tmp 4] [0,1] Tryz.func13 Z Z Z Z Z ?_; refine B1 hf fun x1 h1 hf=>W 3 Z (CL Z (O1 _ h1 (U 2 Z (An 3 8 11 [] (decide (n1≤300)) Z Z Z Z ?_)))); cases hf; exact N 1 Z (Y Z h)
theorem DK (b1:Bool) {r0:ah} (hf:nM b1=some r0) (h:Q (.ret (.agg (aL r0))) τ):PC 30 [.bool b1] τ Q:=by
 unfold nM at hf; refine BN 5 [.cell 2 31] [0] Tryz.func30 Z Z Z Z Z (W 0 Z (AS Z (AO.aF Z gV (fun b2=>?_)))); cases hf; exact Rx 3 [0] Z Z (ZC [0] Z Z h)
theorem LM (bR:List Int) (kC:Int) {r0:Bool} (hf:Fq bR kC=some r0) (h:Q (.ret (.bool r0)) τ):PC 31 [.list (List.map FQ bR),iP kC] τ Q:=by
 unfold Fq at hf; refine BN 18 [.tmp 4] [0,1] Tryz.func31 Z Z Z Z Z (V 2 Z (E_ (fun i1=>[(0,.list (List.map FQ bR)),(1,iP kC),(5,iP i1)]) (fun i1=>[]) (fun bP i1=>xD bR kC bP i1=some r0) BIG 0 Z Z hf (fun _ hz=>bG hz) ?_)); intro bP i1 hf; rw [xD] at hf; refine W 2 Z (AS Z (AO.aM (l:=bR) Z Z Z Z Ju Z Z (J 1 Z (C hf Z (fun h1 hf=>?_) fun h1 hf=>?_))))
 ·
  refine B1 hf fun e1 h2 hf=>W 2 Z (AS Z (AO.aJ h2 Z Z Z Z Ju Z Z (J 3 Z (C hf Z (fun h3 hf=>?_) fun h3 hf=>?_))))
  · cases hf; exact M 1 Z (Y Z h)
  exact M 3 Z ⟨(bW (i1 + 1)),Z,Z,Z,hf⟩
 cases hf; exact M 1 Z (Y Z h)
theorem adv (bR:List Int) (kC:Int) {r0:Bool} (hf:P7 bR kC=some r0) (h:Q (.ret (.bool r0)) τ):PC 32 [.list (List.map FQ bR),iP kC] τ Q:=by
 unfold P7 at hf; refine BN 18 [.tmp 4] [0,1] Tryz.func32 Z Z Z Z Z (V 2 Z (E_ (fun i1=>[(0,.list (List.map FQ bR)),(1,iP kC),(5,iP i1)]) (fun i1=>[]) (fun bP i1=>zM bR kC bP i1=some r0) BIG 0 Z Z hf (fun _ hz=>bG hz) ?_)); intro bP i1 hf; rw [zM] at hf; refine W 2 Z (AS Z (AO.aM (l:=bR) Z Z Z Z Ju Z Z (J 1 Z (C hf Z (fun h1 hf=>?_) fun h1 hf=>?_))))
 ·
  refine B1 hf fun e1 h2 hf=>W 2 Z (AS Z (AO.aJ h2 Z Z Z Z Ju Z Z (J 3 Z (C hf Z (fun h3 hf=>?_) fun h3 hf=>?_))))
  · cases hf; exact M 1 Z (Y Z h)
  exact M 3 Z ⟨(bW (i1 + 1)),Z,Z,Z,hf⟩
 cases hf; exact M 1 Z (Y Z h)
theorem adw (bR:List Int) (bU:List aB) {r0:List aB} (hf:Mw bR bU=some r0) (h:Q (.ret (.list (List.map aB.cells r0))) τ):PC 12 [.list (List.map FQ bR),.list (List.map aB.cells bU)] τ Q:=by
 unfold Mw at hf; refine BN 40 [.tmp 4] [0,1] Tryz.func12 Z Z Z Z Z (W 0 Z (AS Z (AO.kI Z Z ?_))); refine B1 hf fun x1 h1 hf=>U 0 rfl (CL rfl (DK _ h1 (U 1 rfl (AS rfl (AO.nK (List.map aB.cells [(aB.mk ([97,108,119,97,121,115]:Str) x1)]) rfl yx rfl rfl rfl rfl (by first | rfl | simp only [List.map,aB.aC]) (fun v1=>?_)))))); refine B1 hf fun x2 h2 hf=>U 3 Z (CL Z (LM _ _ h2 ?_)); refine B1 hf fun x3 h3 hf=>CL rfl (DK _ h3 (U 1 rfl (AS rfl (AO.aX (List.map aB.cells [(aB.mk ([99,97,110,99,101,108,108,101,100]:Str) x3)]) rfl yx rfl rfl rfl (by first | rfl | simp only [List.map,aB.aC]) ?_))))
 refine B1 hf fun l1 h4 hf=>AS Z (AO.iC (i:=0) (l:=[(aB.mk ([97,108,119,97,121,115]:Str) x1)]) (m:=[(aB.mk ([99,97,110,99,101,108,108,101,100]:Str) x3)]) h4 Z Z Z Z Z Z Z yx nA Z Z Z (aB.dL) (aB.cells_one) (by decide) (fun v2 s1 hs1=>?_)); cases hs1; refine B1 hf fun x4 h5 hf=>U 3 Z (CL Z (LM _ _ h5 ?_)); refine B1 hf fun x5 h6 hf=>CL rfl (DK _ h6 (U 1 rfl (AS rfl (AO.aX (List.map aB.cells [(aB.mk ([102,97,105,108,117,114,101]:Str) x5)]) rfl yx rfl rfl rfl (by first | rfl | simp only [List.map,aB.aC]) ?_))))
 refine B1 hf fun l2 h7 hf=>AS Z (AO.iC (i:=0) (l:=l1) (m:=[(aB.mk ([102,97,105,108,117,114,101]:Str) x5)]) h7 Z Z Z Z Z Z Z yx nA Z Z Z (aB.dL) (aB.cells_one) (by decide) (fun v3 s2 hs2=>?_)); cases hs2; refine B1 hf fun x6 h8 hf=>U 3 Z (CL Z (LM _ _ h8 ?_)); refine B1 hf fun x7 h9 hf=>CL rfl (DK _ h9 (U 1 rfl (AS rfl (AO.aX (List.map aB.cells [(aB.mk ([115,107,105,112,112,101,100]:Str) x7)]) rfl yx rfl rfl rfl (by first | rfl | simp only [List.map,aB.aC]) ?_))))
 refine B1 hf fun l3 h10 hf=>AS Z (AO.iC (i:=0) (l:=l2) (m:=[(aB.mk ([115,107,105,112,112,101,100]:Str) x7)]) h10 Z Z Z Z Z Z Z yx nA Z Z Z (aB.dL) (aB.cells_one) (by decide) (fun v4 s3 hs3=>?_)); cases hs3; refine B1 hf fun x8 h11 hf=>U 3 Z (CL Z (adv _ _ h11 ?_)); refine B1 hf fun x9 h12 hf=>CL rfl (DK _ h12 (U 1 rfl (AS rfl (AO.aX (List.map aB.cells [(aB.mk ([115,117,99,99,101,115,115]:Str) x9)]) rfl yx rfl rfl rfl (by first | rfl | simp only [List.map,aB.aC]) ?_))))
 refine B1 hf fun l4 kQ hf=>AS Z (AO.iC (i:=0) (l:=l3) (m:=[(aB.mk ([115,117,99,99,101,115,115]:Str) x9)]) kQ Z Z Z Z Z Z Z yx nA Z Z Z (aB.dL) (aB.cells_one) (by decide) (fun v5 s4 hs4=>?_)); cases hs4; refine BR hf fun BH lQ hf=>?_; refine U 3 Z (AS Z (AO.iC (i:=0) (l:=l4) (m:=bU) lQ Z Z Z Z Z Z Z yx nA Z Z Z (aB.dL) (aB.cells_one) (by decide) (fun v6 s5 hs5=>?_))); cases hs5; cases hf; exact N 1 Z (Y Z h)
theorem WO (c1:UInt8) {r0:Bool} (hf:Gw c1=some r0) (h:Q (.ret (.bool r0)) τ):PC 100 [.int .u8 (c1.toNat:Int)] τ Q:=by
 unfold Gw at hf; refine BN 21 [.tmp 2] [0] Tryz.func100 Z Z Z Z Z (W 4 Z (An 3 5 8 [0] (decide ((c1.toNat:Int)≤122)) Z Z Z Z (U 1 Z (AR.or 7 9 16 [0] (x:=((decide (65≤(c1.toNat:Int))) && (decide ((c1.toNat:Int)≤90)))) Z Z (fun h2=>?_) (fun h2=>?_) ?_))))
 · refine Is 9 h2 Z (U 3 Z (An 3 12 15 [0,9] (decide ((c1.toNat:Int)≤90)) Z Z Z Z ?_)); exact dY 1 Z (En [16,0] Z)
 · refine Is 9 h2 Z ?_; exact dY 7 Z (En [16,0] Z)
 refine U 1 Z (On 3 17 20 [] ((c1.toNat:Int) == 95) Z Z Z Z ?_); cases hf; exact N 1 Z (Y Z h)
theorem Y4 (c1:UInt8) {r0:Bool} (hf:zS c1=some r0) (h:Q (.ret (.bool r0)) τ):PC 101 [.int .u8 (c1.toNat:Int)] τ Q:=by
 unfold zS at hf; refine BN 9 [.tmp 2] [0] Tryz.func101 Z Z Z Z Z (W 4 Z (An 3 5 8 [] (decide ((c1.toNat:Int)≤57)) Z Z Z Z ?_)); cases hf; exact N 1 Z (Y Z h)
theorem aaQ (s1:Str) {r0:Bool} (hf:IX s1=some r0) (h:Q (.ret (.bool r0)) τ):PC 62 [.str s1] τ Q:=by
 unfold IX at hf; refine BN 34 [.tmp 2] [0] Tryz.func62 Z Z Z Z Z (V 2 Z (E_ (fun i1=>[(0,.str s1),(3,iP i1)]) (fun i1=>[]) (fun bP i1=>A8 s1 bP i1=some r0) BIG 0 Z Z hf (fun _ hz=>bG hz) ?_)); intro bP i1 hf; rw [A8] at hf; refine W 2 Z (AS Z (AO.cB Z Z Z Z d9 Z (J 1 Z (C hf Z (fun h1 hf=>?_) fun h1 hf=>?_))))
 ·
  refine B1 hf fun x1 h2 hf=>W 2 Z (AS Z (AO.gM h2 Z d9 Z Z ?_)); refine B1 hf fun x2 h3 hf=>CL Z (WO _ h3 ?_); refine B1 hf fun b1 h5 hf=>U 2 Z (AR.cZ 10 15 25 true [0,3] b1 Z Z (fun h4=>?_) (fun h4=>?_) ?_)
  ·
   refine IT 15 h4 h5 Z fun h5=>?_; refine BR h5 fun b2 h7 h5=>?_; refine U 3 Z (AR.cZ 6 18 24 false [0,3,15] b2 Z Z (fun h6=>?_) (fun h6=>?_) ?_)
   · refine IF 18 h6 h7 Z fun h7=>?_; refine B1 h7 fun x3 h8 h7=>U 2 Z (GO Z (AO.gM h8 Z d9 Z Z ?_)); refine B1 h7 fun x4 h9 h7=>GO Z (AO.call Z _ Z Z ajP (Y4 _ h9 ?_)); cases h7; exact dY 2 Z (En [24,0,3,15] Z)
   · refine IT 18 h6 h7 Z fun h7=>?_; cases h7; exact dY 6 Z (En [24,0,3,15] Z)
   cases h5; exact dY 1 Z (En [25,0,3] Z)
  · refine IF 15 h4 h5 Z fun h5=>?_; cases h5; exact dY 10 Z (En [25,0,3] Z)
  refine J 0 Z (C hf Z (fun h10 hf=>?_) fun h10 hf=>?_)
  · cases hf; exact M 1 Z (Y Z h)
  exact M 3 Z ⟨(bW (i1 + 1)),Z,Z,Z,hf⟩
 refine W 1 Z (AS Z (AO.cB Z Z Z Z d9 Z (U 2 Z (AR.and 4 29 33 [] (x:=(decide ((s1.length:Int)≤64))) Z Z (fun h11=>?_) (fun h11=>?_) ?_))))
 · refine Is 29 h11 Z (U 1 Z (GO Z (AO.cB Z Z Z Z d9 Z ?_))); exact dY 2 Z (En [33] Z)
 · refine Is 29 h11 Z ?_; exact dY 4 Z (En [33] Z)
 cases hf; exact N 1 Z (Y Z h)
theorem Br (s1:Str) {r0:Bool} (hf:u6 s1=some r0) (h:Q (.ret (.bool r0)) τ):PC 38 [.str s1] τ Q:=by
 unfold u6 at hf; refine BN 17 [.tmp 2] [0] Tryz.func38 Z Z Z Z Z ?_; refine B1 hf fun x1 h1 hf=>W 2 Z (CL Z (aaQ _ h1 (U 1 Z (An 3 5 8 [0] (!(s1 == ([116,114,117,101]:Str))) Z Z Z Z (U 1 Z (An 3 9 12 [0] (!(s1 == ([102,97,108,115,101]:Str))) Z Z Z Z (U 1 Z (An 3 13 16 [] (!(s1 == ([110,117,108,108]:Str))) Z Z Z Z ?_)))))))); cases hf; exact N 1 Z (Y Z h)
theorem Y7 (v1:ah) {r0:Bool} (hf:FE v1=some r0) (h:Q (.ret (.bool r0)) τ):PC 102 [.agg (aL v1)] τ Q:=by
 unfold FE at hf; refine BN 53 [.tmp 2] [0] Tryz.func102 Z Z Z Z Z (W 5 Z (An 4 5 9 [1] (v1.kind != 1) Z Z Z Z (U 1 Z (AR.or 9 10 19 [1] (x:=((v1.dO != 0) && (v1.kind != 2))) Z Z (fun h2=>?_) (fun h2=>?_) ?_))))
 · refine Is 10 h2 Z (U 4 Z (An 4 14 18 [1,10] (v1.kind != 2) Z Z Z Z ?_)); exact dY 1 Z (En [19,1] Z)
 · refine Is 10 h2 Z ?_; exact dY 9 Z (En [19,1] Z)
 refine U 1 Z (AR.or 9 20 29 [1] (x:=((!(v1.bO == ([]:Str))) && (v1.kind != 3))) Z Z (fun h4=>?_) (fun h4=>?_) ?_)
 · refine Is 20 h4 Z (U 4 Z (An 4 24 28 [1,20] (v1.kind != 3) Z Z Z Z ?_)); exact dY 1 Z (En [29,1] Z)
 · refine Is 20 h4 Z ?_; exact dY 9 Z (En [29,1] Z)
 refine J 0 Z (C hf Z (fun h6 hf=>?_) fun h6 hf=>?_)
 · cases hf; exact M 1 Z (Y Z h)
 refine W 2 Z (AS Z (AO.aM (l:=v1.aI) Z Z Z Z fB Z (ah.aA _) (U 2 Z (An 4 34 38 [1] (v1.kind != 4) Z Z Z Z (U 1 Z (An 4 39 43 [1] (v1.kind != 5) Z Z Z Z (J 0 Z (C hf Z (fun h9 hf=>?_) fun h9 hf=>?_))))))))
 · cases hf; exact M 1 Z (Y Z h)
 refine W 2 Z (AS Z (AO.aM (l:=v1.keys) Z Z Z Z fE Z Z (U 2 Z (On 4 48 52 [] (v1.kind == 5) Z Z Z Z ?_)))); cases hf; exact N 1 Z (Y Z h)
theorem adA (s1:Str) {r0:Bool} (hf:MH s1=some r0) (h:Q (.ret (.bool r0)) τ):PC 158 [.str s1] τ Q:=by
 unfold MH at hf; refine BN 11 [.tmp 2] [0] Tryz.func158 Z Z Z Z Z (W 2 Z (AS Z (AO.cB Z Z Z Z d9 Z (U 2 Z (AR.and 4 6 10 [] (x:=(decide ((s1.length:Int)≤64))) Z Z (fun h1=>?_) (fun h1=>?_) ?_)))))
 · refine Is 6 h1 Z (U 1 Z (GO Z (AO.cB Z Z Z Z d9 Z ?_))); exact dY 2 Z (En [10] Z)
 · refine Is 6 h1 Z ?_; exact dY 4 Z (En [10] Z)
 cases hf; exact N 1 Z (Y Z h)
theorem Bt (abH:Bool) (M4:Bool) {r0:Int} (hf:vv abH M4=some r0) (h:Q (.ret (iP r0)) τ):PC 213 [.bool abH,.bool M4] τ Q:=by
 unfold vv at hf; refine BN 7 [.tmp 4] [0,1] Tryz.func213 Z Z Z Z Z (V 2 Z (C hf Z (fun h1 hf=>?_) fun h1 hf=>?_))
 · cases hf; exact M 1 Z (Y Z h)
 refine V 1 Z (C hf Z (fun h2 hf=>?_) fun h2 hf=>?_)
 · cases hf; exact M 1 Z (Y Z h)
 cases hf; exact M 1 Z (Y Z h)
theorem JJ (c1:UInt8) {r0:Bool} (hf:CP c1=some r0) (h:Q (.ret (.bool r0)) τ):PC 214 [.int .u8 (c1.toNat:Int)] τ Q:=by
 unfold CP at hf; refine BN 9 [.tmp 2] [0] Tryz.func214 Z Z Z Z Z (W 4 Z (An 3 5 8 [] (decide ((c1.toNat:Int)≤57)) Z Z Z Z ?_)); cases hf; exact N 1 Z (Y Z h)
theorem Va (s1:Str) (nL:Int) {r0:Int} (hf:ML s1 nL=some r0) (h:Q (.ret (iP r0)) τ):PC 215 [.str s1,iP nL] τ Q:=by
 unfold ML at hf; refine BN 18 [.tmp 4] [0,1] Tryz.func215 Z Z Z Z Z (V 1 Z (E_ (fun at2=>[(0,.str s1),(1,iP at2)]) (fun at2=>[]) (fun bP at2=>Db s1 bP at2=some r0) BIG nL Z Z hf (fun _ hz=>bG hz) ?_)); intro bP at2 hf; rw [Db] at hf; refine W 2 Z (AS Z (AO.cB Z Z Z Z d9 Z ?_)); refine B1 hf fun b1 h2 hf=>U 2 Z (AR.cZ 5 9 14 true [0,1] b1 Z Z (fun h1=>?_) (fun h1=>?_) ?_)
 · refine IT 9 h1 h2 Z fun h2=>?_; refine B1 h2 fun x1 h3 h2=>U 2 Z (GO Z (AO.gM h3 Z d9 Z Z ?_)); refine BR h2 fun x2 h4 h2=>?_; refine GO Z (AO.call Z _ Z Z aeR (JJ _ h4 ?_)); cases h2; exact dY 1 Z (En [14,0,1] Z)
 · refine IF 9 h1 h2 Z fun h2=>?_; cases h2; exact dY 5 Z (En [14,0,1] Z)
 refine J 0 Z (C hf Z (fun h5 hf=>?_) fun h5 hf=>?_)
 · exact M 3 Z ⟨(bW (at2 + 1)),Z,Z,Z,hf⟩
 cases hf; exact M 2 Z (Y Z h)
theorem O4 (s1:Str) {r0:Str} (hf:CO s1=some r0) (h:Q (.ret (.str r0)) τ):PC 257 [.str s1] τ Q:=by
 unfold CO at hf; refine BN 19 [.tmp 2] [0] Tryz.func257 Z Z Z Z Z (V 2 Z (E_ (fun i1=>[(0,.str s1),(3,iP i1)]) (fun i1=>[]) (fun bP i1=>vo s1 bP i1=some r0) BIG 0 Z Z hf (fun _ hz=>bG hz) ?_)); intro bP i1 hf; rw [vo] at hf; refine W 2 Z (AS Z (AO.cB Z Z Z Z d9 Z ?_)); refine B1 hf fun b1 h2 hf=>U 2 Z (AR.cZ 5 8 13 true [0,3] b1 Z Z (fun h1=>?_) (fun h1=>?_) ?_)
 · refine IT 8 h1 h2 Z fun h2=>?_; refine B1 h2 fun x1 h3 h2=>U 2 Z (GO Z (AO.gM h3 Z d9 Z Z ?_)); cases h2; exact dY 2 Z (En [13,0,3] Z)
 · refine IF 8 h1 h2 Z fun h2=>?_; cases h2; exact dY 5 Z (En [13,0,3] Z)
 refine J 0 Z (C hf Z (fun h4 hf=>?_) fun h4 hf=>?_)
 · exact M 3 Z ⟨(bW (i1 + 1)),Z,Z,Z,hf⟩
 refine BR hf fun x2 h5 hf=>?_; refine W 2 Z (AS Z (AO.wS h5 Z d9 Z ⟨_,Z⟩ Z ?_)); cases hf; exact N 1 Z (Y Z h)
theorem aaT (a1:Str) (b1:Str) {r0:Int} (hf:I5 a1 b1=some r0) (h:Q (.ret (iP r0)) τ):PC 216 [.str a1,.str b1] τ Q:=by
 unfold I5 at hf; refine BN 48 [.tmp 4] [0,1] Tryz.func216 Z Z Z Z Z ?_; refine B1 hf fun x1 h1 hf=>W 2 Z (CL Z (O4 _ h1 ?_)); refine B1 hf fun y1 h2 hf=>U 1 Z (CL Z (O4 _ h2 (U 3 Z (AS Z (AO.cB Z Z Z Z d9 Z (U 1 Z (AS Z (AO.cB Z Z Z Z d9 Z (J 1 Z (C hf Z (fun h3 hf=>?_) fun h3 hf=>?_))))))))))
 · refine W 1 Z (AS Z (AO.cB Z Z Z Z d9 Z (U 1 Z (AS Z (AO.cB Z Z Z Z d9 Z (U 2 Z (AS Z (AO.cB Z Z Z Z d9 Z (U 1 Z (AS Z (AO.cB Z Z Z Z d9 Z ?_))))))))))); refine BR hf fun x2 h4 hf=>?_; refine U 1 Z (CL Z (Bt _ _ h4 ?_)); cases hf; exact N 1 Z (Y Z h)
 refine V 3 Z (C hf Z (fun h5 hf=>?_) fun h5 hf=>?_)
 · refine BR hf fun x3 h6 hf=>?_; refine W 6 Z (CL Z (Bt _ _ h6 ?_)); cases hf; exact N 1 Z (Y Z h)
 refine W 1 Z (AS Z (AO.cB Z Z Z Z d9 Z (U 1 Z (AS Z (AO.cB Z Z Z Z d9 Z (U 2 Z (AS Z (AO.cB Z Z Z Z d9 Z (U 1 Z (AS Z (AO.cB Z Z Z Z d9 Z ?_))))))))))); refine BR hf fun x4 h7 hf=>?_; refine U 1 Z (CL Z (Bt _ _ h7 ?_)); cases hf; exact N 1 Z (Y Z h)
theorem KQ (a1:Str) (b1:Str) {r0:Int} (hf:pX a1 b1=some r0) (h:Q (.ret (iP r0)) τ):PC 159 [.str a1,.str b1] τ Q:=by
 unfold pX at hf; refine BN 78 [.tmp 4] [0,1] Tryz.func159 Z Z Z Z Z (V 3 Z (Zn (fun i1 oZ=>[(0,.str a1),(1,.str b1),(5,iP i1),(6,iP oZ)]) (fun i1 oZ=>[]) (fun bP i1 oZ=>mY a1 b1 bP i1 oZ=some r0) BIG 0 0 Z Z hf (fun _ _ hz=>bG hz) ?_)); intro bP i1 oZ hf; rw [mY] at hf; refine W 2 Z (AS Z (AO.cB Z Z Z Z d9 Z (U 2 Z (AR.and 5 14 19 [0,1,5,6] (x:=(decide (oZ < (b1.length:Int)))) Z Z (fun h1=>?_) (fun h1=>?_) ?_))))
 · refine Is 14 h1 Z (U 2 Z (GO Z (AO.cB Z Z Z Z d9 Z ?_))); exact dY 2 Z (En [19,0,1,5,6] Z)
 · refine Is 14 h1 Z ?_; exact dY 5 Z (En [19,0,1,5,6] Z)
 refine J 0 Z (C hf Z (fun h2 hf=>?_) fun h2 hf=>?_)
 ·
  refine V 0 Z (AW.draw 16 mixed (by kernel_rfl) Z ?_); refine Ev.cs aH 2 Z ?_; refine B1 hf fun x1 h3 hf=>Ev.cons Z Z Z (AO.gM h3 Z d9 Z Z zg) (Ev.cs aH 2 Z ?_); refine B1 hf fun x2 h4 hf=>Ev.cons Z Z Z (AO.gM h4 Z d9 Z Z zg) (Ev.cs aH 3 Z ?_); refine B1 hf fun x3 h5 hf=>Ev.cons Z Z Z (AO.gM h5 Z d9 Z Z zg) (Ev.cs aH 2 Z ?_); refine B1 hf fun x4 h6 hf=>Ev.cons Z Z Z (AO.gM h6 Z d9 Z Z zg) (Ev.cs aH 1 Z ?_); refine B1 hf fun c1 h7 hf=>Ev.cons Z Z Z (AO.call Z _ Z Z ajv (Bt _ _ h7 zg)) (Ev.cs aH 1 Z (Ev.nil ?_)); show AR _ _ _ _ _ _ _ _; refine B1 hf fun x5 h8 hf=>U 8 Z (AS Z (AO.gM h8 Z d9 Z Z ?_)); refine B1 hf fun x6 h9 hf=>CL Z (JJ _ h9 ?_); refine B1 hf fun b2 h11 hf=>U 1 Z (AR.cZ 5 43 48 true [0,1,5,6,7,8,9] b2 Z Z (fun h10=>?_) (fun h10=>?_) ?_)
  · refine IT 43 h10 h11 Z fun h11=>?_; refine B1 h11 fun x7 h12 h11=>U 2 Z (GO Z (AO.gM h12 Z d9 Z Z ?_)); refine BR h11 fun x8 kQ h11=>?_; refine GO Z (AO.call Z _ Z Z aeR (JJ _ kQ ?_)); cases h11; exact dY 1 Z (En [48,0,1,5,6,7,8,9] Z)
  · refine IF 43 h10 h11 Z fun h11=>?_; cases h11; exact dY 5 Z (En [48,0,1,5,6,7,8,9] Z)
  refine J 0 Z (C hf Z (fun lQ hf=>?_) fun lQ hf=>?_)
  ·
   refine B1 hf fun m1 ng hf=>W 2 Z (CL Z (Va _ _ ng ?_)); refine B1 hf fun n1 h16 hf=>U 2 Z (CL Z (Va _ _ h16 (J 2 Z (AW.draw 10 mixed (by kernel_rfl) Z ?_)))); refine Ev.cs aH 3 Z ?_; refine B1 hf fun x9 vG hf=>Ev.cons Z Z Z (AO.wS vG Z d9 Z ⟨_,Z⟩ ⟨_,Z⟩ zg) (Ev.cs aH 3 Z ?_); refine B1 hf fun BH h18 hf=>Ev.cons Z Z Z (AO.wS h18 Z d9 Z ⟨_,Z⟩ ⟨_,Z⟩ zg) ?_; refine B1 hf fun c2 h19 hf=>Ev.cons Z Z Z (AO.call Z _ Z Z aju (aaT _ _ h19 zg)) (Ev.cs aH 1 Z (Ev.nil ?_)); show AR _ _ _ _ _ _ _ _; refine J 2 Z (C hf Z (fun h20 hf=>?_) fun h20 hf=>?_)
   · cases hf; exact M 2 Z (Y Z h)
   exact M 4 Z ⟨m1,n1,Z,Z,Z,hf⟩
  refine V 2 Z (C hf Z (fun h21 hf=>?_) fun h21 hf=>?_)
  · cases hf; exact M 2 Z (Y Z h)
  exact M 4 Z ⟨(bW (i1 + 1)),(bW (oZ + 1)),Z,Z,Z,hf⟩
 refine W 2 Z (AS Z (AO.cB Z Z Z Z d9 Z (U 3 Z (AS Z (AO.cB Z Z Z Z d9 Z ?_))))); refine BR hf fun Hl h22 hf=>?_; refine U 1 Z (CL Z (Bt _ _ h22 ?_)); cases hf; exact N 1 Z (Y Z h)
theorem PL (v1:ah) {r0:Bool} (hf:wu v1=some r0) (h:Q (.ret (.bool r0)) τ):PC 103 [.agg (aL v1)] τ Q:=by
 unfold wu at hf; refine BN 44 [.tmp 2] [0] Tryz.func103 Z Z Z Z Z (V 3 Z (E_ (fun i1=>[(1,.ref (aL v1)),(3,iP i1)]) (fun i1=>[]) (fun bP i1=>oD v1 bP i1=some r0) BIG 0 Z Z hf (fun _ hz=>bG hz) ?_)); intro bP i1 hf; rw [oD] at hf; refine W 3 Z (AS Z (AO.aM (l:=v1.keys) Z Z Z Z fE Z Z (J 1 Z (C hf Z (fun h1 hf=>?_) fun h1 hf=>?_))))
 ·
  refine V 0 Z (AW.draw 26 mixed (by kernel_rfl) Z ?_); refine Ev.cs aH 3 Z ?_; refine B1 hf fun e1 h2 hf=>Ev.cons Z Z Z (AO.aJ h2 Z Z Z Z fE Z Z zg) (Ev.cs aH 1 Z ?_); refine B1 hf fun x1 h3 hf=>Ev.cons Z Z Z (AO.call Z _ Z Z ajD (adA _ h3 zg)) (Ev.cs aH 2 Z ?_); refine B1 hf fun b1 h5 hf=>Ev.cZ hKA 18 18 36 false [1,3] (.bool b1) Z Z (fun h4=>?_) (fun h4=>?_) ?_
  ·
   replace h5:=jA h4 h5; refine Ev.is r9 18 h4 Z (Ev.cs aH 3 Z ?_); refine BR h5 fun b2 h7 h5=>?_; refine Ev.cZ r9 14 21 35 true [1,3,18] (.bool b2) Z Z (fun h6=>?_) (fun h6=>?_) ?_
   ·
    replace h7:=jN h6 h7; refine Ev.is r9 21 h6 Z (Ev.cs aH 4 Z ?_); refine B1 h7 fun e2 h8 h7=>Ev.run Z Z Z Z Z Z Z (AO.aJ h8 Z Z Z Z fE Z Z zg) (Ev.cs aH 4 Z ?_); refine B1 h7 fun e3 h9 h7=>Ev.run Z Z Z Z Z Z Z (AO.aJ h9 Z Z Z Z fE Z Z zg) (Ev.cs aH 1 Z ?_); refine B1 h7 fun x2 h10 h7=>Ev.run Z Z Z Z Z Z Z (AO.call Z _ Z Z aeV (KQ _ _ h10 zg)) (Ev.cs aH 1 Z ?_); cases h7; refine Ev.cs aH 1 Z ?_; exact Ev.nil (Less.settle (ps:=[35,1,3,18]) Z)
   · replace h7:=jA h6 h7; refine Ev.is r9 21 h6 Z ?_; cases h7; refine Ev.cs aH 14 Z ?_; exact Ev.nil (Less.settle (ps:=[35,1,3,18]) Z)
   cases h5; refine Ev.cs aH 1 Z ?_; exact Ev.nil (Less.settle (ps:=[36,1,3]) Z)
  · replace h5:=jN h4 h5; refine Ev.is r9 18 h4 Z ?_; cases h5; refine Ev.cs aH 18 Z ?_; exact Ev.nil (Less.settle (ps:=[36,1,3]) Z)
  refine Ev.nil ?_; show AR _ _ _ _ _ _ _ _; refine J 0 Z (C hf Z (fun h11 hf=>?_) fun h11 hf=>?_)
  · cases hf; exact M 1 Z (Y Z h)
  exact M 3 Z ⟨(bW (i1 + 1)),Z,Z,Z,hf⟩
 refine W 2 Z (AS Z (AO.aM (l:=v1.keys) Z Z Z Z fE Z Z (U 2 Z (AS Z (AO.aM (l:=v1.aI) Z Z Z Z fB Z (ah.aA _) ?_))))); cases hf; exact N 2 Z (Y Z h)
abbrev Pg (mM:ah→Int→Option Int):Prop:=∀ (qH:ah) (dZ:Int) {aO:Int},mM qH dZ=some aO→∀ {τ:List bg} {Q:eD→List bg→Prop} (h:Q (.ret (iP aO)) τ),PC 63 [.agg (aL qH),iP dZ] τ Q
theorem Xl (mM) (Tz:Pg mM) (v1:ah) (bE:Int) {r0:Int} (hf:Em mM v1 bE=some r0) (h:Q (.ret (iP r0)) τ):PC 63 [.agg (aL v1),iP bE] τ Q:=by
 unfold Em at hf; refine BN 85 [.tmp 4] [0,1] Tryz.func63 Z Z Z Z Z (V 4 Z (C hf Z (fun h1 hf=>?_) fun h1 hf=>?_))
 · cases hf; exact M 1 Z (Y Z h)
 refine W 4 Z (On 4 12 16 [1,2] (decide (5 < v1.kind)) Z Z Z Z ?_); refine B1 hf fun b1 h4 hf=>U 1 Z (AR.cZ 4 17 21 false [1,2] b1 Z Z (fun h3=>?_) (fun h3=>?_) ?_)
 · refine IF 17 h3 h4 Z fun h4=>?_; refine B1 h4 fun x1 h5 h4=>U 1 Z (GO Z (AO.call Z _ Z Z ajO (Y7 _ h5 ?_))); cases h4; exact dY 2 Z (En [21,1,2] Z)
 · refine IT 17 h3 h4 Z fun h4=>?_; cases h4; exact dY 4 Z (En [21,1,2] Z)
 refine J 0 Z (C hf Z (fun h6 hf=>?_) fun h6 hf=>?_)
 · cases hf; exact M 1 Z (Y Z h)
 refine W 4 Z (On 4 25 29 [1,2] (decide (9007199254740992 < v1.dO)) Z Z Z Z (J 0 Z (C hf Z (fun h8 hf=>?_) fun h8 hf=>?_)))
 · cases hf; exact M 1 Z (Y Z h)
 refine W 2 Z (AS Z (AO.cB Z Z Z Z d9 Z (U 2 Z (AR.or 5 34 39 [1,2] (x:=(decide (1024 < (v1.aI.length:Int)))) Z Z (fun h9=>?_) (fun h9=>?_) ?_))))
 · refine Is 34 h9 Z (U 2 Z (GO Z (AO.aM (l:=v1.aI) Z Z Z Z fB Z (ah.aA _) ?_))); exact dY 2 Z (En [39,1,2] Z)
 · refine Is 34 h9 Z ?_; exact dY 5 Z (En [39,1,2] Z)
 refine U 1 Z (AR.or 5 40 45 [1,2] (x:=(decide (1024 < (v1.keys.length:Int)))) Z Z (fun h10=>?_) (fun h10=>?_) ?_)
 · refine Is 40 h10 Z (U 2 Z (GO Z (AO.aM (l:=v1.keys) Z Z Z Z fE Z Z ?_))); exact dY 2 Z (En [45,1,2] Z)
 · refine Is 40 h10 Z ?_; exact dY 5 Z (En [45,1,2] Z)
 refine J 0 Z (C hf Z (fun h11 hf=>?_) fun h11 hf=>?_)
 · cases hf; exact M 1 Z (Y Z h)
 refine B1 hf fun b2 kQ hf=>W 4 Z (AR.cZ 4 49 53 true [1,2] b2 Z Z (fun h12=>?_) (fun h12=>?_) ?_)
 · refine IT 49 h12 kQ Z fun kQ=>?_; refine B1 kQ fun x2 lQ kQ=>U 1 Z (GO Z (AO.call Z _ Z Z ajN (PL _ lQ ?_))); cases kQ; exact dY 2 Z (En [53,1,2] Z)
 · refine IF 49 h12 kQ Z fun kQ=>?_; cases kQ; exact dY 4 Z (En [53,1,2] Z)
 refine J 0 Z (C hf Z (fun ng hf=>?_) fun ng hf=>?_)
 · cases hf; exact M 1 Z (Y Z h)
 refine W 4 Z (AR.and 5 57 62 [1,2] (x:=((v1.aI.length:Int) == 0)) Z Z (fun h16=>?_) (fun h16=>?_) ?_)
 · refine Is 57 h16 Z (U 2 Z (GO Z (AO.aM (l:=v1.aI) Z Z Z Z fB Z (ah.aA _) ?_))); exact dY 2 Z (En [62,1,2] Z)
 · refine Is 57 h16 Z ?_; exact dY 5 Z (En [62,1,2] Z)
 refine U 1 Z (An 3 63 66 [1,2] (bE == 16) Z Z Z Z (J 0 Z (C hf Z (fun h18 hf=>?_) fun h18 hf=>?_)))
 · cases hf; exact M 1 Z (Y Z h)
 refine V 1 Z (E_ (fun i1=>[(1,iP bE),(2,.ref (aL v1)),(5,iP i1)]) (fun i1=>[]) (fun bP i1=>yI mM v1 bE bP i1=some r0) BIG 0 Z Z hf (fun _ hz=>bG hz) ?_); intro bP i1 hf; rw [yI] at hf; refine W 3 Z (AS Z (AO.aM (l:=v1.aI) Z Z Z Z fB Z (ah.aA _) (J 1 Z (C hf Z (fun h19 hf=>?_) fun h19 hf=>?_))))
 ·
  refine B1 hf fun e1 h20 hf=>W 3 Z (AS Z (AO.aJ h20 Z Z (ah.aA _) Z fB (ah.aC _) Z ?_)); refine B1 hf fun e2 h21 hf=>U 3 Z (CL Z (Tz _ _ h21 (J 3 Z (C hf Z (fun h22 hf=>?_) fun h22 hf=>?_))))
  · cases hf; exact M 2 Z (Y Z h)
  exact M 3 Z ⟨(bW (i1 + 1)),Z,Z,Z,hf⟩
 cases hf; exact M 1 Z (Y Z h)
theorem Yh :∀ k:Nat,(Pg (pW k)):=by
 intro k
 induction k with
 | zero=>exact fun _ _ _ hz=>by first | cases hz | (unfold pW at hz; cases hz)
 | succ k ih=>exact fun qH dZ aO hz τ Q hq=>Xl (pW k) ih qH dZ hz hq
theorem Y9 (qH:ah) (dZ:Int) {aO:Int} (hf:NR qH dZ=some aO) (h:Q (.ret (iP aO)) τ):PC 63 [.agg (aL qH),iP dZ] τ Q:=
 ((Yh BIG)) qH dZ hf h
theorem JI (v1:ah) {r0:Int} (hf:xH v1=some r0) (h:Q (.ret (iP r0)) τ):PC 39 [.agg (aL v1)] τ Q:=by
 unfold xH at hf; refine BN 5 [.tmp 2] [0] Tryz.func39 Z Z Z Z Z ?_; refine BR hf fun x1 h1 hf=>?_; refine W 3 Z (CL Z (Y9 _ _ h1 ?_)); cases hf; exact N 1 Z (Y Z h)
theorem adx (b_:List aB) {r0:Int} (hf:MB b_=some r0) (h:Q (.ret (iP r0)) τ):PC 20 [.list (List.map aB.cells b_)] τ Q:=by
 unfold MB at hf; refine BN 47 [.tmp 2] [0] Tryz.func20 Z Z Z Z Z (W 2 Z (AS Z (AO.aM (l:=b_) Z Z Z Z nA Z Z (J 1 Z (C hf Z (fun h1 hf=>?_) fun h1 hf=>?_)))))
 · cases hf; exact M 1 Z (Y Z h)
 refine V 1 Z (E_ (fun i1=>[(0,.list (List.map aB.cells b_)),(3,iP i1)]) (fun i1=>[]) (fun bP i1=>tY b_ bP i1=some r0) BIG 0 Z Z hf (fun _ hz=>bG hz) ?_); intro bP i1 hf; rw [tY] at hf; refine W 2 Z (AS Z (AO.aM (l:=b_) Z Z Z Z nA Z Z (J 1 Z (C hf Z (fun h2 hf=>?_) fun h2 hf=>?_))))
 ·
  refine B1 hf fun e1 h3 hf=>W 2 Z (AS Z (AO.aJ h3 Z Z Z Z nA (aB.aC _) Z ?_)); refine B1 hf fun x1 h4 hf=>U 2 Z (CL Z (Br _ h4 (J 1 Z (C hf Z (fun h5 hf=>?_) fun h5 hf=>?_))))
  · cases hf; exact M 1 Z (Y Z h)
  refine B1 hf fun e2 h6 hf=>W 2 Z (AS Z (AO.aJ h6 Z Z Z Z nA (aB.aC _) Z ?_)); refine B1 hf fun e3 h7 hf=>U 2 Z (CL Z (JI _ h7 (J 3 Z (C hf Z (fun h8 hf=>?_) fun h8 hf=>?_))))
  · cases hf; exact M 2 Z (Y Z h)
  refine V 1 Z (E_ (fun oZ=>[(0,.list (List.map aB.cells b_)),(3,iP i1),(5,iP oZ)]) (fun oZ=>[]) (fun Ke oZ=>zO b_ i1 (tY b_ bP) Ke oZ=some r0) BIG 0 Z Z hf (fun _ hz=>bG hz) ?_); intro Ke oZ hf; rw [zO] at hf; refine V 3 Z (C hf Z (fun h9 hf=>?_) fun h9 hf=>?_)
  ·
   refine V 0 Z (AW.draw 11 mixed (by kernel_rfl) Z ?_); refine Ev.cs aH 2 Z ?_; refine B1 hf fun e4 h10 hf=>Ev.cons Z Z Z (AO.aJ h10 Z Z Z Z nA (aB.aC _) Z zg) (Ev.cs aH 4 Z ?_); refine B1 hf fun e5 h11 hf=>Ev.cons Z Z Z (AO.aJ h11 Z Z Z Z nA (aB.aC _) Z zg) (Ev.cs aH 3 Z (Ev.nil ?_)); show AR _ _ _ _ _ _ _ _; refine J 0 Z (C hf Z (fun h12 hf=>?_) fun h12 hf=>?_)
   · cases hf; exact M 1 Z (Y Z h)
   exact M 3 Z ⟨(bW (oZ + 1)),Z,Z,Z,hf⟩
  exact M 3 Z ⟨(bW (i1 + 1)),Z,Z,Z,hf⟩
 cases hf; exact M 1 Z (Y Z h)
theorem Ox (tX:Int) {r0:Bool} (hf:Dl tX=some r0) (h:Q (.ret (.bool r0)) τ):PC 67 [.int .i32 tX] τ Q:=by
 unfold Dl at hf; refine BN 9 [.tmp 2] [0] Tryz.func67 Z Z Z Z Z (W 4 Z (On 3 5 8 [] (tX == 9) Z Z Z Z ?_)); cases hf; exact N 1 Z (Y Z h)
theorem E8 (s1:Str) (nL:Int) (JD:UInt8→Option Bool) (Qc:FuncId) (WA:List PV) (ahN:aV Tryz.prog Qc=true) (ahO:∀ a0 b0,JD a0=some b0→∀ {τ:List bg} {Q:eD→List bg→Prop},Q (.ret (.bool b0)) τ→PC Qc ([.int .u8 (a0.toNat:Int)] ++ WA) τ Q) {r0:Int} (hf:Bd s1 nL JD=some r0) (h:Q (.ret (iP r0)) τ):PC 68 [.str s1,iP nL,.fn Qc WA] τ Q:=by
 unfold Bd at hf; refine BN 21 [.tmp 6] [0,1,2] Tryz.func68 Z Z Z Z Z (V 1 Z (E_ (fun at2=>[(0,.str s1),(1,iP at2),(2,.fn Qc WA)]) (fun at2=>[]) (fun bP at2=>yT s1 JD bP at2=some r0) BIG nL Z Z hf (fun _ hz=>bG hz) ?_)); intro bP at2 hf; rw [yT] at hf; refine W 2 Z (AS Z (AO.cB Z Z Z Z d9 Z ?_)); refine B1 hf fun b1 h2 hf=>U 2 Z (AR.cZ 6 11 17 true [0,1,2] b1 Z Z (fun h1=>?_) (fun h1=>?_) ?_)
 · refine IT 11 h1 h2 Z fun h2=>?_; refine B1 h2 fun x1 h3 h2=>U 3 Z (GO Z (AO.gM h3 Z d9 Z Z ?_)); refine BR h2 fun x2 h4 h2=>?_; refine GO Z (AO.call Z _ Z Z ahN (ahO _ _ h4 ?_)); cases h2; exact dY 1 Z (En [17,0,1,2] Z)
 · refine IF 11 h1 h2 Z fun h2=>?_; cases h2; exact dY 6 Z (En [17,0,1,2] Z)
 refine J 0 Z (C hf Z (fun h5 hf=>?_) fun h5 hf=>?_)
 · exact M 3 Z ⟨(bW (at2 + 1)),Z,Z,Z,hf⟩
 cases hf; exact M 2 Z (Y Z h)
theorem Ow (c1:UInt8) {r0:Bool} (hf:yX c1=some r0) (h:Q (.ret (.bool r0)) τ):PC 69 [.int .u8 (c1.toNat:Int)] τ Q:=by
 unfold yX at hf; refine BN 5 [.tmp 2] [0] Tryz.func69 Z Z Z Z Z ?_; cases hf; exact M 4 Z (Y Z h)
theorem DN (c1:UInt8) {r0:Bool} (hf:yU c1=some r0) (h:Q (.ret (.bool r0)) τ):PC 105 [.int .u8 (c1.toNat:Int)] τ Q:=by
 unfold yU at hf; refine BN 21 [.tmp 2] [0] Tryz.func105 Z Z Z Z Z (W 4 Z (An 3 5 8 [0] (decide ((c1.toNat:Int)≤122)) Z Z Z Z (U 1 Z (AR.or 7 9 16 [0] (x:=((decide (65≤(c1.toNat:Int))) && (decide ((c1.toNat:Int)≤90)))) Z Z (fun h2=>?_) (fun h2=>?_) ?_))))
 · refine Is 9 h2 Z (U 3 Z (An 3 12 15 [0,9] (decide ((c1.toNat:Int)≤90)) Z Z Z Z ?_)); exact dY 1 Z (En [16,0] Z)
 · refine Is 9 h2 Z ?_; exact dY 7 Z (En [16,0] Z)
 refine U 1 Z (On 3 17 20 [] ((c1.toNat:Int) == 95) Z Z Z Z ?_); cases hf; exact N 1 Z (Y Z h)
theorem E9 (c1:UInt8) {r0:Bool} (hf:xO c1=some r0) (h:Q (.ret (.bool r0)) τ):PC 107 [.int .u8 (c1.toNat:Int)] τ Q:=by
 unfold xO at hf; refine BN 9 [.tmp 2] [0] Tryz.func107 Z Z Z Z Z (W 4 Z (An 3 5 8 [] (decide ((c1.toNat:Int)≤57)) Z Z Z Z ?_)); cases hf; exact N 1 Z (Y Z h)
theorem Sm (c1:UInt8) {r0:Bool} (hf:Cj c1=some r0) (h:Q (.ret (.bool r0)) τ):PC 160 [.int .u8 (c1.toNat:Int)] τ Q:=by
 unfold Cj at hf; refine BN 9 [.tmp 2] [0] Tryz.func160 Z Z Z Z Z ?_; refine B1 hf fun x1 h1 hf=>W 2 Z (CL Z (DN _ h1 ?_)); refine BR hf fun b1 h3 hf=>?_; refine U 1 Z (AR.cZ 3 5 8 false [] b1 Z Z (fun h2=>?_) (fun h2=>?_) ?_)
 · refine IF 5 h2 h3 Z fun h3=>?_; refine BR h3 fun x2 h4 h3=>?_; refine U 1 Z (GO Z (AO.call Z _ Z Z ae1 (E9 _ h4 ?_))); cases h3; exact dY 1 Z (En [8] Z)
 · refine IT 5 h2 h3 Z fun h3=>?_; cases h3; exact dY 3 Z (En [8] Z)
 cases hf; exact N 1 Z (Y Z h)
theorem WQ (iM:Str) (nL:Int) {r0:aS} {r1:Int} {r2:Int} (hf:Lf iM nL=some (r0,r1,r2)) (h:Q (.ret (.tuple [.agg (zZ r0),iP r1,iP r2])) τ):PC 106 [.str iM,iP nL] τ Q:=by
 unfold Lf at hf; refine BN 23 [.cell 4 88,.tmp 5,.tmp 6] [0,1] Tryz.func106 Z Z Z Z Z (W 0 Z (AS Z (AO.aF Z Hg (fun b4=>?_)))); refine B1 hf fun Ku h1 hf=>U 4 Z (CL Z (E8 _ _ Cj 160 [] ajC (fun _ _ hz=>Sm _  hz) h1 (J 5 Z (C hf Z (fun h2 hf=>?_) fun h2 hf=>?_))))
 · cases hf; exact Wx 4 [0] Z Z (ZC [0] Z Z h)
 refine B1 hf fun x1 h3 hf=>W 3 Z (AS Z (AO.wS h3 Z d9 Z ⟨_,Z⟩ ⟨_,Z⟩ ?_)); cases hf; exact Rx 6 [0] Z Z (ZC [0] Z Z h)
theorem TW (Au:Str) {r0:Bool} (hf:Ji Au=some r0) (h:Q (.ret (.bool r0)) τ):PC 161 [.str Au] τ Q:=by
 unfold Ji at hf; refine BN 25 [.tmp 2] [0] Tryz.func161 Z Z Z Z Z (V 3 Z (Zn (fun n1 i1=>[(0,.str Au),(3,iP n1),(4,iP i1)]) (fun n1 i1=>[]) (fun bP n1 i1=>yV Au bP n1 i1=some r0) BIG 0 0 Z Z hf (fun _ _ hz=>bG hz) ?_)); intro bP n1 i1 hf; rw [yV] at hf; refine W 2 Z (AS Z (AO.cB Z Z Z Z d9 Z (U 2 Z (An 3 9 12 [0,3,4] (decide (n1≤9007199254740992)) Z Z Z Z (J 0 Z (C hf Z (fun h2 hf=>?_) fun h2 hf=>?_))))))
 · refine B1 hf fun x1 h3 hf=>W 4 Z (AS Z (AO.gM h3 Z d9 Z Z (AS Z (AO.ai2 x1 48 Z Z Z Z Z (AS Z (AO.U6 Z aiY ZI Z Z ?_)))))); exact N 5 Z ⟨(bW ((bW (10 * n1)) + ((x1 - 48).toNat:Int))),(bW (i1 + 1)),Z,Z,Z,hf⟩
 cases hf; exact M 3 Z (Y Z h)
theorem Sl (iM:Str) (nL:Int) {r0:aS} {r1:Int} {r2:Int} (hf:GL iM nL=some (r0,r1,r2)) (h:Q (.ret (.tuple [.agg (zZ r0),iP r1,iP r2])) τ):PC 108 [.str iM,iP nL] τ Q:=by
 unfold GL at hf; refine BN 44 [.cell 4 88,.tmp 5,.tmp 6] [0,1] Tryz.func108 Z Z Z Z Z (W 0 Z (AS Z (AO.aF Z Hg (fun b4=>?_)))); refine B1 hf fun Ku h1 hf=>U 4 Z (CL Z (E8 _ _ xO 107 [] ae1 (fun _ _ hz=>E9 _  hz) h1 ?_)); refine B1 hf fun text1 h2 hf=>U 4 Z (AS Z (AO.wS h2 Z d9 Z ⟨_,Z⟩ ⟨_,Z⟩ (U 2 Z (AS Z (AO.cB Z Z Z Z d9 Z ?_))))); refine B1 hf fun b1 h4 hf=>U 2 Z (AR.cZ 4 19 23 true [0,1,4,7,8] b1 Z Z (fun h3=>?_) (fun h3=>?_) ?_)
 · refine IT 19 h3 h4 Z fun h4=>?_; refine B1 h4 fun x1 h5 h4=>U 1 Z (GO Z (AO.gM h5 Z d9 Z Z ?_)); cases h4; exact dY 2 Z (En [23,0,1,4,7,8] Z)
 · refine IF 19 h3 h4 Z fun h4=>?_; cases h4; exact dY 4 Z (En [23,0,1,4,7,8] Z)
 refine B1 hf fun b2 h7 hf=>U 1 Z (AR.cZ 11 24 35 false [1,4,7,8] b2 Z Z (fun h6=>?_) (fun h6=>?_) ?_)
 ·
  replace h7:=jA h6 h7; refine Is 24 h6 Z (U 2 Z (GO Z (AO.cB Z Z Z Z d9 Z ?_))); refine BR h7 fun b3 h9 h7=>?_; refine U 2 Z (AR.cZ 5 29 34 true [1,4,7,8,24] b3 Z Z (fun h8=>?_) (fun h8=>?_) ?_)
  · refine IT 29 h8 h9 Z fun h9=>?_; refine B1 h9 fun x2 h10 h9=>U 2 Z (GO Z (AO.gM h10 Z d9 Z Z ?_)); refine BR h9 fun x3 h11 h9=>?_; refine GO Z (AO.call Z _ Z Z ajM (DN _ h11 ?_)); cases h9; exact dY 1 Z (En [34,1,4,7,8,24] Z)
  · refine IF 29 h8 h9 Z fun h9=>?_; cases h9; exact dY 5 Z (En [34,1,4,7,8,24] Z)
  cases h7; exact dY 1 Z (En [35,1,4,7,8] Z)
 · refine IT 24 h6 h7 Z fun h7=>?_; cases h7; exact dY 11 Z (En [35,1,4,7,8] Z)
 refine J 0 Z (C hf Z (fun h12 hf=>?_) fun h12 hf=>?_)
 · cases hf; exact Wx 4 [0] Z Z (ZC [0] Z Z h)
 refine B1 hf fun x4 kQ hf=>W 1 Z (CL Z (TW _ kQ (J 0 Z (C hf Z (fun lQ hf=>?_) fun lQ hf=>?_))))
 · cases hf; exact Wx 4 [0] Z Z (ZC [0] Z Z h)
 cases hf; exact Wx 7 [0] Z Z (ZC [0] Z Z h)
theorem Ou (iM:Str) (nL:Int) {r0:aS} {r1:Int} {r2:Int} (hf:Dj iM nL=some (r0,r1,r2)) (h:Q (.ret (.tuple [.agg (zZ r0),iP r1,iP r2])) τ):PC 110 [.str iM,iP nL] τ Q:=by
 unfold Dj at hf; refine BN 63 [.cell 4 88,.tmp 5,.tmp 6] [0,1] Tryz.func110 Z Z Z Z Z (W 0 Z (AS Z (AO.aF Z Hg (fun b4=>(U 2 Z (AS Z (AO.aX (List.map FQ ([2,1]:List Int)) Z aeA Z Z Z Z (AS Z (AO.aM (l:=([2,1]:List Int)) Z Z Z Z Ju Z Z ?_))))))))); refine J 1 Z (E_ (fun x1=>[(0,.str iM),(1,iP nL),(4,pP b4),(10,.list (List.map FQ ([2,1]:List Int))),(11,iP (([2,1]:List Int).length:Int)),(12,iP x1)]) (fun x1=>[.box b4 [iP 0,.str ([]:Str),iP 0]]) (fun bP x1=>p9 iM nL bP x1=some (r0,r1,r2)) BIG 0 Z Z hf (fun _ hz=>bG hz) ?_); intro bP x1 hf; rw [p9] at hf; refine V 1 Z (C hf Z (fun h1 hf=>?_) fun h1 hf=>?_)
 ·
  refine B1 hf fun n1 h2 hf=>W 0 Z (AS Z (AO.aJ h2 Z Z Z Z Ju Z Z (U 6 Z (AS Z (AO.cB Z Z Z Z d9 Z (J 1 Z (C hf Z (fun h3 hf=>?_) fun h3 hf=>?_)))))))
  · exact M 2 Z ⟨(bW (x1 + 1)),Z,Z,Z,hf⟩
  refine B1 hf fun s1 h4 hf=>W 5 Z (AS Z (AO.wS h4 Z d9 Z ⟨_,Z⟩ ⟨_,Z⟩ (J 4 Z (C hf Z (fun h5 hf=>?_) fun h5 hf=>?_))))
  ·
   refine V 0 Z (AW.cond Z (fun h6=>?_) (fun h6=>?_))
   · cases hf; exact Wx 9 [0] Z Z (ZC [0] Z Z h)
   cases h5.symm.trans h6
  refine V 2 Z (C hf Z (fun h7 hf=>?_) fun h7 hf=>?_)
  ·
   refine V 0 Z (AW.cond Z (fun h8=>?_) (fun h8=>?_))
   · cases hf; exact Wx 9 [0] Z Z (ZC [0] Z Z h)
   cases h7.symm.trans h8
  refine V 2 Z (C hf Z (fun h9 hf=>?_) fun h9 hf=>?_)
  ·
   refine V 0 Z (AW.cond Z (fun h10=>?_) (fun h10=>?_))
   · cases hf; exact Wx 9 [0] Z Z (ZC [0] Z Z h)
   cases h9.symm.trans h10
  refine V 2 Z (C hf Z (fun h11 hf=>?_) fun h11 hf=>?_)
  ·
   refine V 0 Z (AW.cond Z (fun h12=>?_) (fun h12=>?_))
   · cases hf; exact Wx 9 [0] Z Z (ZC [0] Z Z h)
   cases h11.symm.trans h12
  refine V 2 Z (C hf Z (fun kQ hf=>?_) fun kQ hf=>?_)
  ·
   refine V 0 Z (AW.cond Z (fun lQ=>?_) (fun lQ=>?_))
   · cases hf; exact Wx 9 [0] Z Z (ZC [0] Z Z h)
   cases kQ.symm.trans lQ
  refine V 2 Z (C hf Z (fun ng hf=>?_) fun ng hf=>?_)
  ·
   refine V 0 Z (AW.cond Z (fun h16=>?_) (fun h16=>?_))
   · cases hf; exact Wx 9 [0] Z Z (ZC [0] Z Z h)
   cases ng.symm.trans h16
  refine V 2 Z (C hf Z (fun vG hf=>?_) fun vG hf=>?_)
  ·
   refine V 0 Z (AW.cond Z (fun h18=>?_) (fun h18=>?_))
   · cases hf; exact Wx 9 [0] Z Z (ZC [0] Z Z h)
   cases vG.symm.trans h18
  refine V 2 Z (C hf Z (fun h19 hf=>?_) fun h19 hf=>?_)
  ·
   refine V 0 Z (AW.cond Z (fun h20=>?_) (fun h20=>?_))
   · cases hf; exact Wx 9 [0] Z Z (ZC [0] Z Z h)
   cases h19.symm.trans h20
  refine V 2 Z (C hf Z (fun h21 hf=>?_) fun h21 hf=>?_)
  ·
   refine V 0 Z (AW.cond Z (fun h22=>?_) (fun h22=>?_))
   · cases hf; exact Wx 9 [0] Z Z (ZC [0] Z Z h)
   cases h21.symm.trans h22
  refine V 2 Z (C hf Z (fun h23 hf=>?_) fun h23 hf=>?_)
  ·
   refine V 0 Z (AW.cond Z (fun Fb=>?_) (fun Fb=>?_))
   · cases hf; exact Wx 9 [0] Z Z (ZC [0] Z Z h)
   cases h23.symm.trans Fb
  refine V 2 Z (C hf Z (fun DV hf=>?_) fun DV hf=>?_)
  ·
   refine V 0 Z (AW.cond Z (fun Ij=>?_) (fun Ij=>?_))
   · cases hf; exact Wx 9 [0] Z Z (ZC [0] Z Z h)
   cases DV.symm.trans Ij
  refine V 2 Z (C hf Z (fun h27 hf=>?_) fun h27 hf=>?_)
  ·
   refine V 0 Z (AW.cond Z (fun Qb=>?_) (fun Qb=>?_))
   · cases hf; exact Wx 9 [0] Z Z (ZC [0] Z Z h)
   cases h27.symm.trans Qb
  refine V 2 Z (C hf Z (fun Ll hf=>?_) fun Ll hf=>?_)
  ·
   refine V 0 Z (AW.cond Z (fun Lj=>?_) (fun Lj=>?_))
   · cases hf; exact Wx 9 [0] Z Z (ZC [0] Z Z h)
   cases Ll.symm.trans Lj
  refine V 2 Z (C hf Z (fun h31 hf=>?_) fun h31 hf=>?_)
  ·
   refine V 0 Z (AW.cond Z (fun h32=>?_) (fun h32=>?_))
   · cases hf; exact Wx 9 [0] Z Z (ZC [0] Z Z h)
   cases h31.symm.trans h32
  refine V 2 Z (C hf Z (fun Io hf=>?_) fun Io hf=>?_)
  ·
   refine V 0 Z (AW.cond Z (fun Xa=>?_) (fun Xa=>?_))
   · cases hf; exact Wx 9 [0] Z Z (ZC [0] Z Z h)
   cases Io.symm.trans Xa
  refine V 2 Z (C hf Z (fun Ru hf=>?_) fun Ru hf=>?_)
  ·
   refine V 0 Z (AW.cond Z (fun Rt=>?_) (fun Rt=>?_))
   · cases hf; exact Wx 9 [0] Z Z (ZC [0] Z Z h)
   cases Ru.symm.trans Rt
  refine V 2 Z (C hf Z (fun h37 hf=>?_) fun h37 hf=>?_)
  ·
   refine V 0 Z (AW.cond Z (fun UZ=>?_) (fun UZ=>?_))
   · cases hf; exact Wx 9 [0] Z Z (ZC [0] Z Z h)
   cases h37.symm.trans UZ
  refine V 2 Z (C hf Z (fun M0 hf=>?_) fun M0 hf=>?_)
  ·
   refine V 0 Z (AW.cond Z (fun h40=>?_) (fun h40=>?_))
   · cases hf; exact Wx 9 [0] Z Z (ZC [0] Z Z h)
   cases M0.symm.trans h40
  refine V 2 Z (C hf Z (fun h41 hf=>?_) fun h41 hf=>?_)
  ·
   refine V 0 Z (AW.cond Z (fun h42=>?_) (fun h42=>?_))
   · cases hf; exact Wx 9 [0] Z Z (ZC [0] Z Z h)
   cases h41.symm.trans h42
  refine V 2 Z (C hf Z (fun h43 hf=>?_) fun h43 hf=>?_)
  ·
   refine V 0 Z (AW.cond Z (fun h44=>?_) (fun h44=>?_))
   · cases hf; exact Wx 9 [0] Z Z (ZC [0] Z Z h)
   cases h43.symm.trans h44
  refine V 2 Z (C hf Z (fun h45 hf=>?_) fun h45 hf=>?_)
  ·
   refine V 0 Z (AW.cond Z (fun h46=>?_) (fun h46=>?_))
   · cases hf; exact Wx 9 [0] Z Z (ZC [0] Z Z h)
   cases h45.symm.trans h46
  refine V 2 Z (C hf Z (fun h47 hf=>?_) fun h47 hf=>?_)
  ·
   refine V 0 Z (AW.cond Z (fun h48=>?_) (fun h48=>?_))
   · cases hf; exact Wx 9 [0] Z Z (ZC [0] Z Z h)
   cases h47.symm.trans h48
  refine V 2 Z (C hf Z (fun h49 hf=>?_) fun h49 hf=>?_)
  ·
   refine V 0 Z (AW.cond Z (fun h50=>?_) (fun h50=>?_))
   · cases hf; exact Wx 9 [0] Z Z (ZC [0] Z Z h)
   cases h49.symm.trans h50
  refine V 2 Z (C hf Z (fun h51 hf=>?_) fun h51 hf=>?_)
  ·
   refine V 0 Z (AW.cond Z (fun h52=>?_) (fun h52=>?_))
   · cases hf; exact Wx 9 [0] Z Z (ZC [0] Z Z h)
   cases h51.symm.trans h52
  refine V 2 Z (C hf Z (fun Px hf=>?_) fun Px hf=>?_)
  · cases hf; exact Wx 9 [0] Z Z (ZC [0] Z Z h)
  exact M 2 Z ⟨(bW (x1 + 1)),Z,Z,Z,hf⟩
 cases hf; exact Wx 4 [0] Z Z (ZC [0] Z Z h)
theorem TV (iM:Str) (nL:Int) {r0:aS} {r1:Int} {r2:Int} (hf:Jh iM nL=some (r0,r1,r2)) (h:Q (.ret (.tuple [.agg (zZ r0),iP r1,iP r2])) τ):PC 70 [.str iM,iP nL] τ Q:=by
 unfold Jh at hf; refine BN 44 [.cell 4 88,.tmp 5,.tmp 6] [0,1] Tryz.func70 Z Z Z Z Z (W 0 Z (AS Z (AO.aF Z Hg (fun b4=>?_)))); refine B1 hf fun c1 h1 hf=>U 4 Z (AS Z (AO.gM h1 Z d9 Z Z ?_)); refine B1 hf fun x1 h2 hf=>U 2 Z (CL Z (DN _ h2 (J 1 Z (C hf Z (fun h3 hf=>?_) fun h3 hf=>?_))))
 · replace hf:=(OD _).trans hf; obtain ⟨x2,x3,x4,h4,hf⟩:=vM hf; refine W 2 Z (CL Z (WQ _ _ h4 ?_)); cases hf; exact Rx 6 [0] Z Z (ZC [0] Z Z h)
 refine B1 hf fun x5 h5 hf=>W 1 Z (CL Z (E9 _ h5 (J 1 Z (C hf Z (fun h6 hf=>?_) fun h6 hf=>?_))))
 · replace hf:=(OD _).trans hf; obtain ⟨x6,x7,x8,h7,hf⟩:=vM hf; refine W 2 Z (CL Z (Sl _ _ h7 ?_)); cases hf; exact Rx 6 [0] Z Z (ZC [0] Z Z h)
 refine V 3 Z (C hf Z (fun h8 hf=>?_) fun h8 hf=>?_)
 · exact bG hf
 replace hf:=(OD _).trans hf; obtain ⟨x9,BH,Hl,h9,hf⟩:=vM hf; refine W 2 Z (CL Z (Ou _ _ h9 ?_)); cases hf; exact Rx 6 [0] Z Z (ZC [0] Z Z h)
theorem Ov (op1:Str) (pY:Int) {r0:Int} (hf:Dk op1 pY=some r0) (h:Q (.ret (iP r0)) τ):PC 71 [.str op1,iP pY] τ Q:=by
 unfold Dk at hf; refine BN 18 [.tmp 4] [0,1] Tryz.func71 Z Z Z Z Z (V 4 Z (C hf Z (fun h1 hf=>?_) fun h1 hf=>?_))
 ·
  refine V 0 Z (AW.cond Z (fun h2=>?_) (fun h2=>?_))
  · cases hf; exact M 3 Z (Y Z h)
  cases h1.symm.trans h2
 refine V 2 Z (C hf Z (fun h3 hf=>?_) fun h3 hf=>?_)
 · cases hf; exact M 3 Z (Y Z h)
 refine V 2 Z (C hf Z (fun h4 hf=>?_) fun h4 hf=>?_)
 ·
  refine V 0 Z (AW.cond Z (fun h5=>?_) (fun h5=>?_))
  · refine W 2 Z (AS Z (AO.max2 Z Z Z Z Z ?_)); cases hf; exact N 1 Z (Y Z h)
  cases h4.symm.trans h5
 refine V 2 Z (C hf Z (fun h6 hf=>?_) fun h6 hf=>?_)
 · refine W 2 Z (AS Z (AO.max2 Z Z Z Z Z ?_)); cases hf; exact N 1 Z (Y Z h)
 cases hf; exact M 2 Z (Y Z h)
theorem Sn (iM:Str) {r0:List aS} {r1:Int} {r2:Int} (hf:GN iM=some (r0,r1,r2)) (h:Q (.ret (.tuple [.list (List.map aS.cells r0),iP r1,iP r2])) τ):PC 43 [.str iM] τ Q:=by
 unfold GN at hf; refine BN 84 [.tmp 2,.tmp 3,.tmp 4] [0] Tryz.func43 Z Z Z Z Z (W 0 Z (AS Z (AO.kI Z Z (U 3 Z (AS Z (AO.cB Z Z Z Z d9 Z (J 1 Z (C hf Z (fun h1 hf=>?_) fun h1 hf=>?_))))))))
 · refine W 0 Z (AS Z (AO.kI Z Z ?_)); cases hf; exact N 2 Z (Y Z h)
 refine W 5 Z (AS Z (AO.acP Z d9 Z (fun alK=>(J 0 Z (AW.row 3 88 (LK5 (fun bM v1 FL pY pos1=>[(0,.str iM),(5,.own v1 (List.map aS.cells bM)),(6,.fn 67 []),(7,iP FL),(8,iP pY),(18,pP alK)]) (fun bM v1 FL pY pos1=>[.row v1 (List.map aS.cells bM).length 3 88,.obj alK (.stringIter ⟨List.toArray iM⟩ pos1)]) (fun bP bM v1 FL pY pos1=>kE iM bP bM FL pY pos1=some (r0,r1,r2)) BIG [] (.slice none 0 0) 0 0 0 Z Z hf (fun _ _ _ _ _ hz=>bG hz) ?_)))))); intro bP bM v1 FL pY pos1 hf; rw [kE] at hf; rcases Bool.eq_false_or_eq_true (decide (pos1 < iM.length)) with h2 | h2
 ·
  replace hf:=jN h2 hf; refine W 0 Z (AS Z (AO.afa (i:=1) Z Z Z h2 (J 1 Z (AW.cond Z (fun h3=>?_) (fun h3=>?_)))))
  ·
   refine B1 hf fun b1 h5 hf=>W 8 Z (AR.cZ 4 26 30 false [0,5,6,7,8,9,10,18] b1 Z Z (fun h4=>?_) (fun h4=>?_) ?_)
   · refine IF 26 h4 h5 Z fun h5=>?_; refine BR h5 fun x1 h6 h5=>?_; refine U 2 Z (GO Z (AO.call Z _ Z Z alg (Ox _ h6 ?_))); cases h5; exact dY 1 Z (En [30,0,5,6,7,8,9,10,18] Z)
   · refine IT 26 h4 h5 Z fun h5=>?_; cases h5; exact dY 4 Z (En [30,0,5,6,7,8,9,10,18] Z)
   refine J 0 Z (C hf Z (fun h7 hf=>?_) fun h7 hf=>?_)
   · exact M 0 Z ⟨bM,v1,FL,pY,(pos1 + (dec iM pos1).2),Z,Z,Z,hf⟩
   refine V 2 Z (C hf Z (fun h8 hf=>?_) fun h8 hf=>?_)
   · refine B1 hf fun afb h9 hf=>W 2 Z (CL Z (E8 _ _ yX 69 [] alf (fun _ _ hz=>Ow _  hz) h9 ?_)); exact N 1 Z ⟨bM,v1,afb,pY,(pos1 + (dec iM pos1).2),Z,Z,Z,hf⟩
   refine V 2 Z (C hf Z (fun h10 hf=>?_) fun h10 hf=>?_)
   ·
    refine B1 hf fun b2 h12 hf=>W 3 Z (AR.cZ 14 40 54 true [0,5,6,7,8,9,18] b2 Z Z (fun h11=>?_) (fun h11=>?_) ?_)
    ·
     replace h12:=jN h11 h12; refine Is 40 h11 Z (U 1 Z (GO Z (AO.aM (l:=bM) Z Z Z Z Hw Z Z ?_))); refine BR h12 fun b3 lQ h12=>?_; refine U 2 Z (AR.cZ 9 44 53 false [0,5,6,7,8,9,18,40] b3 Z Z (fun kQ=>?_) (fun kQ=>?_) ?_)
     · replace lQ:=jA kQ lQ; refine Is 44 kQ Z (U 2 Z (GO Z (AO.aM (l:=bM) Z Z Z Z Hw Z Z ?_))); refine B1 lQ fun e1 ng lQ=>U 1 Z (GO Z (AO.aJ ng Z Z Z Z Hw (aS.aC _) Z ?_)); cases lQ; exact dY 4 Z (En [53,0,5,6,7,8,9,18,40] Z)
     · refine IT 44 kQ lQ Z fun lQ=>?_; cases lQ; exact dY 9 Z (En [53,0,5,6,7,8,9,18,40] Z)
     cases h12; exact dY 1 Z (En [54,0,5,6,7,8,9,18] Z)
    · refine IF 40 h11 h12 Z fun h12=>?_; cases h12; exact dY 14 Z (En [54,0,5,6,7,8,9,18] Z)
    refine J 0 Z (C hf Z (fun h16 hf=>?_) fun h16 hf=>?_)
    · refine W 3 rfl (AS rfl (AO.aX (List.map aS.cells [(aS.mk 5 ([]:Str) (pos1:Int))]) rfl Uz rfl rfl rfl (by first | rfl | simp only [List.map,aS.aC]) ?_)); refine B1 hf fun zW vG hf=>AS Z (AO.iC (i:=0) (l:=bM) (m:=[(aS.mk 5 ([]:Str) (pos1:Int))]) vG Z Z Z Z Z Z Z Uz Hw Z Z Z (aS.dL) (aS.cells_one) (by decide) (fun v2 s1 hs1=>?_)); cases hs1; exact N 1 Z ⟨zW,v2,FL,pY,(pos1 + (dec iM pos1).2),Z,Z,Z,hf⟩
    exact M 0 Z ⟨bM,v1,FL,pY,(pos1 + (dec iM pos1).2),Z,Z,Z,hf⟩
   obtain ⟨x2,Ku,e2,h18,hf⟩:=vM hf; refine W 2 Z (CL Z (TV _ _ h18 (U 4 Z (AS Z (AO.aF Z Hg (fun b11=>(Rw 5 [0] Z Z (C hf Z (fun h19 hf=>?_) fun h19 hf=>?_))))))))
   · refine W 2 Z (AS Z (AO.kI Z Z ?_)); cases hf; exact N 2 Z (Y Z h)
   refine Ww 3 [0] Z Z (C hf Z (fun h20 hf=>?_) fun h20 hf=>?_)
   · refine B1 hf fun ae6 h21 hf=>Wr 3 [0] rfl rfl (CL rfl (Ov _ _ h21 (Rr 3 [0] rfl rfl (AS rfl (AO.aX (List.map aS.cells [x2]) rfl Uz rfl rfl rfl (by first | rfl | simp only [List.map,aS.aC]) ?_))))); refine B1 hf fun ajU h22 hf=>AS Z (AO.iC (i:=1) (l:=bM) (m:=[x2]) h22 Z Z Z Z Z Z Z Uz Hw Z Z Z (aS.dL) (aS.cells_one) (by decide) (fun v3 s2 hs2=>?_)); cases hs2; refine dY 3 Z (AR.drop1 ?_); exact N 0 Z ⟨ajU,v3,Ku,ae6,(pos1 + (dec iM pos1).2),Z,Z,Z,hf⟩
   refine Wr 2 [0] rfl rfl (AS rfl (AO.aX (List.map aS.cells [x2]) rfl Uz rfl rfl rfl (by first | rfl | simp only [List.map,aS.aC]) ?_)); refine B1 hf fun ajT h23 hf=>AS Z (AO.iC (i:=1) (l:=bM) (m:=[x2]) h23 Z Z Z Z Z Z Z Uz Hw Z Z Z (aS.dL) (aS.cells_one) (by decide) (fun v4 s3 hs3=>?_)); cases hs3; refine dY 3 Z (AR.drop1 ?_); exact N 0 Z ⟨ajT,v4,Ku,pY,(pos1 + (dec iM pos1).2),Z,Z,Z,hf⟩
  cases h3
 replace hf:=jA h2 hf; refine W 0 Z (AS Z (AO.acX (i:=1) Z Z Z h2 (J 1 Z (AW.cond Z (fun Fb=>?_) (fun Fb=>?_)))))
 · cases Fb
 cases hf; exact M 4 Z (Y Z h)
theorem HY (c1:UInt8) {r0:Bool} (hf:wz c1=some r0) (h:Q (.ret (.bool r0)) τ):PC 324 [.int .u8 (c1.toNat:Int)] τ Q:=by
 unfold wz at hf; refine BN 21 [.tmp 2] [0] Tryz.func324 Z Z Z Z Z (W 4 Z (An 3 5 8 [0] (decide ((c1.toNat:Int)≤122)) Z Z Z Z (U 1 Z (AR.or 7 9 16 [0] (x:=((decide (65≤(c1.toNat:Int))) && (decide ((c1.toNat:Int)≤90)))) Z Z (fun h2=>?_) (fun h2=>?_) ?_))))
 · refine Is 9 h2 Z (U 3 Z (An 3 12 15 [0,9] (decide ((c1.toNat:Int)≤90)) Z Z Z Z ?_)); exact dY 1 Z (En [16,0] Z)
 · refine Is 9 h2 Z ?_; exact dY 7 Z (En [16,0] Z)
 refine U 1 Z (On 3 17 20 [] ((c1.toNat:Int) == 95) Z Z Z Z ?_); cases hf; exact N 1 Z (Y Z h)
theorem JK (c1:UInt8) {r0:Bool} (hf:yN c1=some r0) (h:Q (.ret (.bool r0)) τ):PC 325 [.int .u8 (c1.toNat:Int)] τ Q:=by
 unfold yN at hf; refine BN 9 [.tmp 2] [0] Tryz.func325 Z Z Z Z Z (W 4 Z (An 3 5 8 [] (decide ((c1.toNat:Int)≤57)) Z Z Z Z ?_)); cases hf; exact N 1 Z (Y Z h)
theorem KR (s1:Str) {r0:Bool} (hf:xL s1=some r0) (h:Q (.ret (.bool r0)) τ):PC 289 [.str s1] τ Q:=by
 unfold xL at hf; refine BN 36 [.tmp 2] [0] Tryz.func289 Z Z Z Z Z (W 2 Z (AS Z (AO.cB Z Z Z Z d9 Z (U 2 Z (AR.or 4 7 11 [0] (x:=(decide (64 < (s1.length:Int)))) Z Z (fun h1=>?_) (fun h1=>?_) ?_)))))
 · refine Is 7 h1 Z (U 1 Z (GO Z (AO.cB Z Z Z Z d9 Z ?_))); exact dY 2 Z (En [11,0] Z)
 · refine Is 7 h1 Z ?_; exact dY 4 Z (En [11,0] Z)
 refine B1 hf fun b1 h3 hf=>U 1 Z (AR.cZ 5 12 17 false [0] b1 Z Z (fun h2=>?_) (fun h2=>?_) ?_)
 · refine IF 12 h2 h3 Z fun h3=>?_; refine B1 h3 fun x1 h4 h3=>U 1 Z (GO Z (AO.gM h4 Z d9 Z Z ?_)); refine B1 h3 fun x2 h5 h3=>GO Z (AO.call Z _ Z Z aje (HY _ h5 ?_)); cases h3; exact dY 2 Z (En [17,0] Z)
 · refine IT 12 h2 h3 Z fun h3=>?_; cases h3; exact dY 5 Z (En [17,0] Z)
 refine J 0 Z (C hf Z (fun h6 hf=>?_) fun h6 hf=>?_)
 · cases hf; exact M 1 Z (Y Z h)
 refine V 1 Z (E_ (fun i1=>[(0,.str s1),(3,iP i1)]) (fun i1=>[]) (fun bP i1=>qO s1 bP i1=some r0) BIG 0 Z Z hf (fun _ hz=>bG hz) ?_); intro bP i1 hf; rw [qO] at hf; refine W 2 Z (AS Z (AO.cB Z Z Z Z d9 Z (J 1 Z (C hf Z (fun h7 hf=>?_) fun h7 hf=>?_))))
 ·
  refine B1 hf fun x3 h8 hf=>W 2 Z (AS Z (AO.gM h8 Z d9 Z Z ?_)); refine B1 hf fun x4 h9 hf=>CL Z (HY _ h9 ?_); refine B1 hf fun b2 h11 hf=>U 2 Z (AR.cZ 6 29 35 true [0,3] b2 Z Z (fun h10=>?_) (fun h10=>?_) ?_)
  · refine IT 29 h10 h11 Z fun h11=>?_; refine B1 h11 fun x5 h12 h11=>U 2 Z (GO Z (AO.gM h12 Z d9 Z Z ?_)); refine B1 h11 fun x6 kQ h11=>GO Z (AO.call Z _ Z Z ajd (JK _ kQ ?_)); cases h11; exact dY 2 Z (En [35,0,3] Z)
  · refine IF 29 h10 h11 Z fun h11=>?_; cases h11; exact dY 6 Z (En [35,0,3] Z)
  refine J 0 Z (C hf Z (fun lQ hf=>?_) fun lQ hf=>?_)
  · cases hf; exact M 1 Z (Y Z h)
  exact M 3 Z ⟨(bW (i1 + 1)),Z,Z,Z,hf⟩
 cases hf; exact M 1 Z (Y Z h)
section
variable [Hf]
def ac5 :Go.Shelf.Ren:=⟨fun | 171=>263 | 243=>298 | 246=>336 | 283=>354 | 284=>355 | 285=>356 | 286=>357 | 129=>317 | 317=>369 | 318=>370 | 319=>371 | 320=>372 | 337=>376 | 338=>377 | n=>n,fun | 3=>3 | 9=>9 | 2=>2 | 4=>4 | 171=>304 | 0=>0 | 53=>237 | 37=>168 | 5=>5 | 173=>306 | 212=>318 | 51=>268 | 20=>20 | 213=>319 | 46=>247 | 232=>327 | 233=>328 | n=>n,fun | 17=>3 | 18=>6 | 19=>7 | n=>n⟩
theorem alJ :Go.Proofs.LaysM.n171 Tryz.prog ac5:={
 mixed:=by kernel_rfl
 f129:=Tryz.func317.trans (congrArg some (by kernel_rfl))
 f171:=Tryz.func263.trans (congrArg some (by kernel_rfl))
 f243:=Tryz.func298.trans (congrArg some (by kernel_rfl))
 f246:=Tryz.func336.trans (congrArg some (by kernel_rfl))
 f283:=Tryz.func354.trans (congrArg some (by kernel_rfl))
 f284:=Tryz.func355.trans (congrArg some (by kernel_rfl))
 f285:=Tryz.func356.trans (congrArg some (by kernel_rfl))
 f286:=Tryz.func357.trans (congrArg some (by kernel_rfl))
 f317:=Tryz.func369.trans (congrArg some (by kernel_rfl))
 f318:=Tryz.func370.trans (congrArg some (by kernel_rfl))
 f319:=Tryz.func371.trans (congrArg some (by kernel_rfl))
 f320:=Tryz.func372.trans (congrArg some (by kernel_rfl))
 f337:=Tryz.func376.trans (congrArg some (by kernel_rfl))
 f338:=Tryz.func377.trans (congrArg some (by kernel_rfl))
 t0:=Tryz.underlying0
 a0:=Tryz.isAgg0
 z0:=Tryz.sizeOf0
 v0:=Tryz.zeroValue0
 t2:=Tryz.underlying2
 a2:=Tryz.isAgg2
 z2:=Tryz.sizeOf2
 v2:=Tryz.zeroValue2
 t3:=Tryz.underlying3
 a3:=Tryz.isAgg3
 z3:=Tryz.sizeOf3
 v3:=Tryz.zeroValue3
 t4:=Tryz.underlying4
 a4:=Tryz.isAgg4
 z4:=Tryz.sizeOf4
 v4:=Tryz.zeroValue4
 t5:=Tryz.underlying5
 a5:=Tryz.isAgg5
 z5:=Tryz.sizeOf5
 v5:=Tryz.zeroValue5
 t9:=Tryz.underlying9
 a9:=Tryz.isAgg9
 z9:=Tryz.sizeOf9
 v9:=Tryz.zeroValue9
 t20:=Tryz.underlying20
 a20:=Tryz.isAgg20
 z20:=Tryz.sizeOf20
 v20:=Tryz.zeroValue20
 t37:=Tryz.underlying168
 a37:=Tryz.isAgg168
 z37:=Tryz.sizeOf168
 v37:=Tryz.zeroValue168
 t46:=Tryz.underlying247
 a46:=Tryz.isAgg247
 z46:=Tryz.sizeOf247
 v46:=Tryz.zeroValue247
 t51:=Tryz.underlying268
 a51:=Tryz.isAgg268
 z51:=Tryz.sizeOf268
 v51:=Tryz.zeroValue268
 t53:=Tryz.underlying237
 a53:=Tryz.isAgg237
 z53:=Tryz.sizeOf237
 v53:=Tryz.zeroValue237
 t171:=Tryz.underlying304
 a171:=Tryz.isAgg304
 z171:=Tryz.sizeOf304
 v171:=Tryz.zeroValue304
 t173:=Tryz.underlying306
 a173:=Tryz.isAgg306
 z173:=Tryz.sizeOf306
 v173:=Tryz.zeroValue306
 t212:=Tryz.underlying318
 a212:=Tryz.isAgg318
 z212:=Tryz.sizeOf318
 v212:=Tryz.zeroValue318
 t213:=Tryz.underlying319
 a213:=Tryz.isAgg319
 z213:=Tryz.sizeOf319
 t232:=Tryz.underlying327
 a232:=Tryz.isAgg327
 z232:=Tryz.sizeOf327
 v232:=Tryz.zeroValue327
 t233:=Tryz.underlying328
 a233:=Tryz.isAgg328
 z233:=Tryz.sizeOf328
 v233:=Tryz.zeroValue328
 g17:=by kernel_rfl
 g18:=by kernel_rfl
 g19:=by kernel_rfl
 i0:=by kernel_rfl
 i2:=by kernel_rfl
 i3:=by kernel_rfl
 i4:=by kernel_rfl
 i5:=by kernel_rfl
 i9:=by kernel_rfl
 i20:=by kernel_rfl
 i37:=by kernel_rfl
 i46:=by kernel_rfl
 i51:=by kernel_rfl
 i53:=by kernel_rfl
 i171:=by kernel_rfl
 i173:=by kernel_rfl
 i212:=by kernel_rfl
 i232:=by kernel_rfl
 i233:=by kernel_rfl
 m17:=by kernel_rfl
 m18:=by kernel_rfl
 m19:=by kernel_rfl}
theorem JG (n1:Int) {r0:Str} (hf:strconv_Itoa n1=some r0) (h:Q (.ret (.str r0)) τ):PC 263 [iP n1] τ Q:=by
 unfold strconv_Itoa at hf; split at hf
 case isFalse=>cases hf
 rename_i hg; cases hf; refine AC.none ?_; exact AC.itoa Hf.hD alJ hg.1 hg.2 Hf.pow h
end
section
variable [Hf]
def adH :Go.Shelf.Ren:=⟨fun | 172=>262 | 244=>296 | 245=>297 | 247=>331 | 279=>332 | 280=>333 | 281=>334 | 282=>335 | 287=>351 | 316=>352 | 171=>263 | 205=>353 | 321=>367 | 322=>368 | 243=>298 | 246=>336 | 283=>354 | 284=>355 | 285=>356 | 286=>357 | 129=>317 | 317=>369 | 318=>370 | 319=>371 | 320=>372 | 337=>376 | 338=>377 | n=>n,fun | 9=>9 | 3=>3 | 75=>177 | 76=>231 | 4=>4 | 5=>5 | 167=>276 | 37=>168 | 0=>0 | 85=>277 | 2=>2 | 168=>279 | 53=>237 | 175=>299 | 46=>247 | 210=>302 | 127=>207 | 145=>317 | 143=>315 | 21=>21 | 171=>304 | 173=>306 | 212=>318 | 51=>268 | 20=>20 | 213=>319 | 232=>327 | 233=>328 | 80=>172 | n=>n,fun | 15=>0 | 16=>1 | 17=>3 | 18=>6 | 19=>7 | n=>n⟩
theorem amf :Go.Proofs.LaysC.n172 Tryz.prog adH:={
 mixed:=by kernel_rfl
 f129:=Tryz.func317.trans (congrArg some (by kernel_rfl))
 f171:=Tryz.func263.trans (congrArg some (by kernel_rfl))
 f172:=Tryz.func262.trans (congrArg some (by kernel_rfl))
 f205:=Tryz.func353.trans (congrArg some (by kernel_rfl))
 f243:=Tryz.func298.trans (congrArg some (by kernel_rfl))
 f244:=Tryz.func296.trans (congrArg some (by kernel_rfl))
 f245:=Tryz.func297.trans (congrArg some (by kernel_rfl))
 f246:=Tryz.func336.trans (congrArg some (by kernel_rfl))
 f247:=Tryz.func331.trans (congrArg some (by kernel_rfl))
 f279:=Tryz.func332.trans (congrArg some (by kernel_rfl))
 f280:=Tryz.func333.trans (congrArg some (by kernel_rfl))
 f281:=Tryz.func334.trans (congrArg some (by kernel_rfl))
 f282:=Tryz.func335.trans (congrArg some (by kernel_rfl))
 f283:=Tryz.func354.trans (congrArg some (by kernel_rfl))
 f284:=Tryz.func355.trans (congrArg some (by kernel_rfl))
 f285:=Tryz.func356.trans (congrArg some (by kernel_rfl))
 f286:=Tryz.func357.trans (congrArg some (by kernel_rfl))
 f287:=Tryz.func351.trans (congrArg some (by kernel_rfl))
 f316:=Tryz.func352.trans (congrArg some (by kernel_rfl))
 f317:=Tryz.func369.trans (congrArg some (by kernel_rfl))
 f318:=Tryz.func370.trans (congrArg some (by kernel_rfl))
 f319:=Tryz.func371.trans (congrArg some (by kernel_rfl))
 f320:=Tryz.func372.trans (congrArg some (by kernel_rfl))
 f321:=Tryz.func367.trans (congrArg some (by kernel_rfl))
 f322:=Tryz.func368.trans (congrArg some (by kernel_rfl))
 f337:=Tryz.func376.trans (congrArg some (by kernel_rfl))
 f338:=Tryz.func377.trans (congrArg some (by kernel_rfl))
 t0:=Tryz.underlying0
 a0:=Tryz.isAgg0
 z0:=Tryz.sizeOf0
 v0:=Tryz.zeroValue0
 t2:=Tryz.underlying2
 a2:=Tryz.isAgg2
 z2:=Tryz.sizeOf2
 v2:=Tryz.zeroValue2
 t3:=Tryz.underlying3
 a3:=Tryz.isAgg3
 z3:=Tryz.sizeOf3
 v3:=Tryz.zeroValue3
 t4:=Tryz.underlying4
 a4:=Tryz.isAgg4
 z4:=Tryz.sizeOf4
 v4:=Tryz.zeroValue4
 t5:=Tryz.underlying5
 a5:=Tryz.isAgg5
 z5:=Tryz.sizeOf5
 v5:=Tryz.zeroValue5
 t9:=Tryz.underlying9
 a9:=Tryz.isAgg9
 z9:=Tryz.sizeOf9
 v9:=Tryz.zeroValue9
 t20:=Tryz.underlying20
 a20:=Tryz.isAgg20
 z20:=Tryz.sizeOf20
 v20:=Tryz.zeroValue20
 t21:=Tryz.underlying21
 a21:=Tryz.isAgg21
 z21:=Tryz.sizeOf21
 v21:=Tryz.zeroValue21
 t37:=Tryz.underlying168
 a37:=Tryz.isAgg168
 z37:=Tryz.sizeOf168
 v37:=Tryz.zeroValue168
 t46:=Tryz.underlying247
 a46:=Tryz.isAgg247
 z46:=Tryz.sizeOf247
 v46:=Tryz.zeroValue247
 t51:=Tryz.underlying268
 a51:=Tryz.isAgg268
 z51:=Tryz.sizeOf268
 v51:=Tryz.zeroValue268
 t53:=Tryz.underlying237
 a53:=Tryz.isAgg237
 z53:=Tryz.sizeOf237
 v53:=Tryz.zeroValue237
 t75:=Tryz.underlying177
 a75:=Tryz.isAgg177
 z75:=Tryz.sizeOf177
 v75:=Tryz.zeroValue177
 t76:=Tryz.underlying231
 a76:=Tryz.isAgg231
 z76:=Tryz.sizeOf231
 v76:=Tryz.zeroValue231
 t85:=Tryz.underlying277
 a85:=Tryz.isAgg277
 z85:=Tryz.sizeOf277
 v85:=Tryz.zeroValue277
 t127:=Tryz.underlying207
 a127:=Tryz.isAgg207
 z127:=Tryz.sizeOf207
 v127:=Tryz.zeroValue207
 t143:=Tryz.underlying315
 a143:=Tryz.isAgg315
 z143:=Tryz.sizeOf315
 v143:=Tryz.zeroValue315
 t145:=Tryz.underlying317
 a145:=Tryz.isAgg317
 z145:=Tryz.sizeOf317
 v145:=Tryz.zeroValue317
 t167:=Tryz.underlying276
 a167:=Tryz.isAgg276
 z167:=Tryz.sizeOf276
 v167:=Tryz.zeroValue276
 t168:=Tryz.underlying279
 a168:=Tryz.isAgg279
 z168:=Tryz.sizeOf279
 v168:=Tryz.zeroValue279
 t171:=Tryz.underlying304
 a171:=Tryz.isAgg304
 z171:=Tryz.sizeOf304
 v171:=Tryz.zeroValue304
 t173:=Tryz.underlying306
 a173:=Tryz.isAgg306
 z173:=Tryz.sizeOf306
 v173:=Tryz.zeroValue306
 t175:=Tryz.underlying299
 a175:=Tryz.isAgg299
 z175:=Tryz.sizeOf299
 v175:=Tryz.zeroValue299
 t210:=Tryz.underlying302
 a210:=Tryz.isAgg302
 z210:=Tryz.sizeOf302
 v210:=Tryz.zeroValue302
 t212:=Tryz.underlying318
 a212:=Tryz.isAgg318
 z212:=Tryz.sizeOf318
 v212:=Tryz.zeroValue318
 t213:=Tryz.underlying319
 a213:=Tryz.isAgg319
 z213:=Tryz.sizeOf319
 t232:=Tryz.underlying327
 a232:=Tryz.isAgg327
 z232:=Tryz.sizeOf327
 v232:=Tryz.zeroValue327
 t233:=Tryz.underlying328
 a233:=Tryz.isAgg328
 z233:=Tryz.sizeOf328
 v233:=Tryz.zeroValue328
 g15:=by kernel_rfl
 g16:=by kernel_rfl
 g17:=by kernel_rfl
 g18:=by kernel_rfl
 g19:=by kernel_rfl
 t80:=Tryz.underlying172
 a80:=Tryz.isAgg172
 z80:=Tryz.sizeOf172
 v80:=Tryz.zeroValue172
 i0:=by kernel_rfl
 i2:=by kernel_rfl
 i3:=by kernel_rfl
 i4:=by kernel_rfl
 i5:=by kernel_rfl
 i9:=by kernel_rfl
 i20:=by kernel_rfl
 i21:=by kernel_rfl
 i37:=by kernel_rfl
 i46:=by kernel_rfl
 i51:=by kernel_rfl
 i53:=by kernel_rfl
 i75:=by kernel_rfl
 i76:=by kernel_rfl
 i80:=by kernel_rfl
 i85:=by kernel_rfl
 i127:=by kernel_rfl
 i143:=by kernel_rfl
 i145:=by kernel_rfl
 i167:=by kernel_rfl
 i168:=by kernel_rfl
 i171:=by kernel_rfl
 i173:=by kernel_rfl
 i175:=by kernel_rfl
 i210:=by kernel_rfl
 i212:=by kernel_rfl
 i232:=by kernel_rfl
 i233:=by kernel_rfl
 m15:=by kernel_rfl
 m16:=by kernel_rfl
 m17:=by kernel_rfl
 m18:=by kernel_rfl
 m19:=by kernel_rfl
 c0:=by kernel_rfl
 c2:=by kernel_rfl
 c3:=by kernel_rfl
 c4:=by kernel_rfl
 c5:=by kernel_rfl
 c9:=by kernel_rfl
 c20:=by kernel_rfl
 c21:=by kernel_rfl
 c37:=by kernel_rfl
 c46:=by kernel_rfl
 c51:=by kernel_rfl
 c53:=by kernel_rfl
 c75:=by kernel_rfl
 c76:=by kernel_rfl
 c80:=by kernel_rfl
 c85:=by kernel_rfl
 c127:=by kernel_rfl
 c143:=by kernel_rfl
 c145:=by kernel_rfl
 c167:=by kernel_rfl
 c168:=by kernel_rfl
 c171:=by kernel_rfl
 c173:=by kernel_rfl
 c175:=by kernel_rfl
 c210:=by kernel_rfl
 c212:=by kernel_rfl
 c213:=by kernel_rfl
 c232:=by kernel_rfl
 c233:=by kernel_rfl}
theorem DJ (s1:Str) {r0:Int} {r1:Option Nat} (hf:strconv_Atoi s1=some (r0,r1)) (h:Q (.ret (.tuple [iP r0,.err r1])) τ):PC 262 [.str s1] τ Q:=by
 unfold strconv_Atoi at hf; split at hf
 case isFalse=>cases hf
 rename_i hg; cases hf; refine AC.none ?_; exact AC.atoi Hf.hD amf hg Z Hf.syn Hf.rng h
end
section
variable [Hf]
theorem Ot (s1:Str) {r0:Bool} (hf:Dg s1=some r0) (h:Q (.ret (.bool r0)) τ):PC 293 [.str s1] τ Q:=by
 unfold Dg at hf; refine BN 40 [.tmp 2] [0] Tryz.func293 Z Z Z Z Z ?_; refine B1 hf fun b1 h2 hf=>W 4 Z (AR.cZ 9 8 17 false [0] b1 Z Z (fun h1=>?_) (fun h1=>?_) ?_)
 ·
  replace h2:=jA h1 h2; refine Is 8 h1 Z (U 1 Z (GO Z (AO.cB Z Z Z Z d9 Z ?_))); refine BR h2 fun b2 h4 h2=>?_; refine U 2 Z (AR.cZ 4 12 16 true [0,8] b2 Z Z (fun h3=>?_) (fun h3=>?_) ?_)
  · refine IT 12 h3 h4 Z fun h4=>?_; refine B1 h4 fun x1 h5 h4=>U 1 Z (GO Z (AO.gM h5 Z d9 Z Z ?_)); cases h4; exact dY 2 Z (En [16,0,8] Z)
  · refine IF 12 h3 h4 Z fun h4=>?_; cases h4; exact dY 4 Z (En [16,0,8] Z)
  cases h2; exact dY 1 Z (En [17,0] Z)
 · refine IT 8 h1 h2 Z fun h2=>?_; cases h2; exact dY 9 Z (En [17,0] Z)
 refine J 0 Z (C hf Z (fun h6 hf=>?_) fun h6 hf=>?_)
 · cases hf; exact M 1 Z (Y Z h)
 refine V 1 Z (E_ (fun i1=>[(0,.str s1),(3,iP i1)]) (fun i1=>[]) (fun bP i1=>sW s1 bP i1=some r0) BIG 0 Z Z hf (fun _ hz=>bG hz) ?_); intro bP i1 hf; rw [sW] at hf; refine W 2 Z (AS Z (AO.cB Z Z Z Z d9 Z (J 1 Z (C hf Z (fun h7 hf=>?_) fun h7 hf=>?_))))
 ·
  refine B1 hf fun x2 h8 hf=>W 2 Z (AS Z (AO.gM h8 Z d9 Z Z ?_)); refine B1 hf fun x3 h9 hf=>CL Z (JK _ h9 (J 1 Z (C hf Z (fun h10 hf=>?_) fun h10 hf=>?_)))
  · cases hf; exact M 1 Z (Y Z h)
  exact M 3 Z ⟨(bW (i1 + 1)),Z,Z,Z,hf⟩
 obtain ⟨n1,afF,h11,hf⟩:=bK hf; refine W 1 Z (CL Z (DJ _ h11 (U 6 Z (AS Z (AO.eqNil Z afq Z Z (U 1 Z (An 3 36 39 [] (decide (n1≤9007199254740992)) Z Z Z Z ?_))))))); cases hf; exact N 1 Z (Y Z h)
end
section
variable [Hf]
theorem TR (t1:aS) {r0:Bool} (hf:I9 t1=some r0) (h:Q (.ret (.bool r0)) τ):PC 260 [.agg (zZ t1)] τ Q:=by
 unfold I9 at hf; refine BN 23 [.tmp 2] [0] Tryz.func260 Z Z Z Z Z (V 6 Z (C hf Z (fun h1 hf=>?_) fun h1 hf=>?_))
 · refine BR hf fun x1 h2 hf=>?_; refine W 2 Z (CL Z (KR _ h2 ?_)); cases hf; exact N 1 Z (Y Z h)
 refine V 2 Z (C hf Z (fun h3 hf=>?_) fun h3 hf=>?_)
 · refine BR hf fun x2 h4 hf=>?_; refine W 2 Z (CL Z (Ot _ h4 ?_)); cases hf; exact N 1 Z (Y Z h)
 refine V 2 Z (C hf Z (fun h5 hf=>?_) fun h5 hf=>?_)
 · refine W 2 Z (AS Z (AO.cB Z Z Z Z d9 Z ?_)); cases hf; exact N 2 Z (Y Z h)
 refine V 2 Z (C hf Z (fun h6 hf=>?_) fun h6 hf=>?_)
 · cases hf; exact M 1 Z (Y Z h)
 cases hf; exact M 1 Z (Y Z h)
end
section
variable [Hf]
theorem uH (p1:Nat) (tX:ay) {r0:aS} {wm:ay} (hf:oL tX=some (r0,wm)) {Q:eD→List bg→Prop} (h:Q (.ret (.agg (zZ r0))) [.box p1 (bF wm)]):PC 220 [pP p1] [.box p1 (bF tX)] Q:=by
 unfold oL at hf; refine BD 37 [.cell 2 88] [0] Tryz.func220 Z Z Z Z Z (W 0 Z (AS Z (AO.aF Z Hg (fun b2=>(J 0 Z (AW.draw 23 mixed (by kernel_rfl) Z ?_)))))); refine Ev.cs aH 3 Z (Ev.cons Z Z Z (AO.aP (i:=1) Z Z Z ES Z Z zg) (Ev.cs aH 3 Z (Ev.cons Z Z Z (AO.aP (i:=1) Z Z Z abj Z Z zg) ?_))); refine Ev.cons Z Z Z (AO.aM (l:=tX.ts) Z Z Z Z Hw Z Z zg) (Ev.cs aH 2 Z ?_); refine B1 hf fun b1 h2 hf=>Ev.cZ hKA 12 13 25 true [0,2] (.bool b1) Z Z (fun h1=>?_) (fun h1=>?_) ?_
 ·
  replace h2:=jN h1 h2; refine Ev.is r9 13 h1 Z (Ev.cs aH 3 Z (Ev.run Z Z Z Z Z Z Z (AO.aP (i:=1) Z Z Z abj Z Z zg) (Ev.cs aH 3 Z ?_))); refine Ev.run Z Z Z Z Z Z Z (AO.aP (i:=1) Z Z Z ES Z Z zg) ?_; refine B1 h2 fun e1 h3 h2=>Ev.run Z Z Z Z Z Z Z (AO.aJ h3 Z Z Z Z Hw (aS.aC _) Z zg) (Ev.cs aH 1 Z ?_); refine BR h2 fun x1 h4 h2=>?_; refine Ev.run Z Z Z Z Z Z Z (AO.call Z _ Z Z ajl (TR _ h4 zg)) ?_; cases h2; refine Ev.cs aH 1 Z ?_; exact Ev.nil (Less.settle (ps:=[25,0,2]) Z)
 · replace h2:=jA h1 h2; refine Ev.is r9 13 h1 Z ?_; cases h2; refine Ev.cs aH 12 Z ?_; exact Ev.nil (Less.settle (ps:=[25,0,2]) Z)
 refine Ev.nil ?_; show AR _ _ _ _ _ _ _ _; refine J 0 Z (C hf Z (fun h5 hf=>?_) fun h5 hf=>?_)
 ·
  refine V 0 Z (AW.draw 10 mixed (by kernel_rfl) Z ?_); refine Ev.cs aH 3 Z (Ev.cons Z Z Z (AO.aP (i:=1) Z Z Z abj Z Z zg) (Ev.cs aH 3 Z (Ev.cons Z Z Z (AO.aP (i:=1) Z Z Z ES Z Z zg) ?_))); refine B1 hf fun e2 h6 hf=>Ev.cons Z Z Z (AO.aJ h6 Z Z Z Z Hw (aS.aC _) Z zg) (Ev.cs aH 1 Z (Ev.nil ?_)); show AR _ _ _ _ _ _ _ _; cases hf; exact Rx 1 [0] rfl rfl ⟨rfl,_,⟨_,_,rfl,⟨_,_,0,_,_,rfl,rfl,aed,rfl⟩,rfl⟩,_,(.cons _ (.cons_cons _ (List.nil_sublist _))),h⟩
 cases hf; exact Wx 2 [0] rfl rfl ⟨rfl,_,⟨_,_,rfl,⟨_,_,0,_,_,rfl,rfl,aed,rfl⟩,rfl⟩,_,(.cons _ (.cons_cons _ (List.nil_sublist _))),h⟩
end
section
variable [Hf]
theorem LQ (p1:Nat) (tX:ay) (op1:Str) {r0:Bool} {wm:ay} (hf:zV tX op1=some (r0,wm)) {Q:eD→List bg→Prop} (h:Q (.ret (.bool r0)) [.box p1 (bF wm)]):PC 222 [pP p1,.str op1] [.box p1 (bF tX)] Q:=by
 unfold zV at hf; refine BD 17 [.tmp 4] [0,1] Tryz.func222 Z Z Z Z Z ?_; obtain ⟨x1,y1,h1,hf⟩:=bK hf; refine W 2 Z (CL Z (AC.one 0 Z (uH _ _ h1 ⟨_,Z,(AS Z (AO.aF Z Hg (fun b5=>(Rr 5 [0,0] Z Z (AR.and 5 11 16 [] (x:=(x1.text == op1)) Z Z (fun h2=>?_) (fun h2=>?_) ?_)))))⟩)))
 · refine Is 11 h2 Z (U 1 Z (GO Z (AO.aP (i:=0) Z Z Z Xw Z Z ?_))); exact dY 3 Z (En [16] Z)
 · refine Is 11 h2 Z ?_; exact dY 5 Z (En [16] Z)
 cases hf; exact N 1 rfl ⟨rfl,_,⟨_,_,rfl,rfl,rfl⟩,_,(.cons _ (.cons_cons _ (List.nil_sublist _))),h⟩
end
section
variable [Hf]
theorem gQ (p1:Nat) (tX:ay) (op1:Str) {r0:Bool} {wm:ay} (hf:f_ tX op1=some (r0,wm)) {Q:eD→List bg→Prop} (h:Q (.ret (.bool r0)) [.box p1 (bF wm)]):PC 168 [pP p1,.str op1] [.box p1 (bF tX)] Q:=by
 unfold f_ at hf; refine BD 16 [.tmp 4] [0,1] Tryz.func168 Z Z Z Z Z ?_; obtain ⟨x1,y1,h1,hf⟩:=bK hf; refine W 3 Z (CL Z (AC.one 0 Z (LQ _ _ _ h1 ⟨_,Z,(J 1 Z (C hf Z (fun h2 hf=>?_) fun h2 hf=>?_))⟩)))
 · cases hf; exact M 1 rfl ⟨rfl,_,⟨_,_,rfl,rfl,rfl⟩,_,(.cons_cons _ (List.nil_sublist _)),h⟩
 cases hf; exact Wx 9 [0,0] rfl rfl ⟨rfl,_,⟨_,_,rfl,rfl,rfl⟩,_,(.cons_cons _ (List.nil_sublist _)),h⟩
end
section
variable [Hf]
@[reducible] def Iq :fJ aK aS→eD
 | .ok r=>.ret (.agg (zZ r))
 | .bad e=>.panic (.iface 138 (.agg (oM e)))
theorem qm (p1:Nat) (tX:ay) {rX:fJ aK aS} {wm:ay} (hf:rJ tX=some (rX,wm)) {Q:eD→List bg→Prop} (h:Q (Iq rX) [.box p1 (bF wm)]):PC 223 [pP p1] [.box p1 (bF tX)] Q:=by
 unfold rJ at hf; refine BD 24 [.cell 2 88] [0] Tryz.func223 Z Z Z Z Z (W 0 Z (AS Z (AO.aF Z Hg (fun b2=>(J 0 Z (AW.draw 10 mixed (by kernel_rfl) Z ?_)))))); refine Ev.cs aH 3 Z (Ev.cons Z Z Z (AO.aP (i:=1) Z Z Z ES Z Z zg) (Ev.cs aH 3 Z (Ev.cons Z Z Z (AO.aP (i:=1) Z Z Z abj Z Z zg) ?_))); refine Ev.cons Z Z Z (AO.aM (l:=tX.ts) Z Z Z Z Hw Z Z zg) (Ev.cs aH 1 Z (Ev.nil ?_)); show AR _ _ _ _ _ _ _ _; refine J 0 Z (C hf Z (fun h1 hf=>?_) fun h1 hf=>?_)
 · exact bG hf
 obtain ⟨x1,y1,h2,hf⟩:=bK hf; refine W 1 Z (CL Z (AC.one 1 Z (uH _ _ h2 ⟨_,Z,(AS Z (AO.aF Z Hg (fun b3=>(Rw 4 [0,0] Z Z (C hf Z (fun h3 hf=>?_) fun h3 hf=>?_)))))⟩)))
 · exact bG hf
 cases hf; exact Wx 2 [0,1] rfl rfl ⟨rfl,_,⟨_,_,rfl,⟨_,_,1,_,_,rfl,rfl,aed,rfl⟩,rfl⟩,_,(.cons _ (.cons _ (.cons_cons _ (List.nil_sublist _)))),h⟩
end
theorem vL (v1:ah) {r0:ak} (hf:qP v1=some r0) (h:Q (.ret (.agg (bf r0))) τ):PC 326 [.agg (aL v1)] τ Q:=by
 unfold qP at hf; refine BN 5 [.cell 2 34] [0] Tryz.func326 Z Z Z Z Z (W 1 Z (AS Z (AO.aF Z qG (fun b2=>?_)))); cases hf; exact Rx 3 [0] Z Z (ZC [0] Z Z h)
theorem E5 (s1:Str) {r0:Bool} (hf:xJ s1=some r0) (h:Q (.ret (.bool r0)) τ):PC 290 [.str s1] τ Q:=by
 unfold xJ at hf; refine BN 13 [.tmp 2] [0] Tryz.func290 Z Z Z Z Z (W 4 Z (On 3 5 8 [0] (s1 == ([102,97,108,115,101]:Str)) Z Z Z Z (U 1 Z (On 3 9 12 [] (s1 == ([110,117,108,108]:Str)) Z Z Z Z ?_)))); cases hf; exact N 1 Z (Y Z h)
section
variable [Hf]
@[reducible] def Ir :fJ aK ak→eD
 | .ok r=>.ret (.agg (bf r))
 | .bad e=>.panic (.iface 138 (.agg (oM e)))
theorem Bu (p1:Nat) (tX:ay) (s1:Str) {rX:fJ aK ak} {wm:ay} (hf:wX tX s1=some (rX,wm)) {Q:eD→List bg→Prop} (h:Q (Ir rX) [.box p1 (bF wm)]):PC 327 [pP p1,.str s1] [.box p1 (bF tX)] Q:=by
 unfold wX at hf; refine BD 26 [.cell 4 34] [0,1] Tryz.func327 Z Z Z Z Z (W 0 Z (AS Z (AO.aF Z qG (fun b4=>(J 3 Z (C hf Z (fun h1 hf=>?_) fun h1 hf=>?_))))))
 · refine B1 hf fun x1 h2 hf=>W 1 Z (CL Z (vL _ h2 ?_)); cases hf; exact Rx 1 [0] rfl rfl ⟨rfl,_,⟨_,_,rfl,⟨_,_,0,_,_,rfl,rfl,vO,rfl⟩,rfl⟩,_,(.cons _ (.cons_cons _ (List.nil_sublist _))),h⟩
 refine B1 hf fun x2 h3 hf=>W 1 Z (CL Z (E5 _ h3 (J 1 Z (C hf Z (fun h4 hf=>?_) fun h4 hf=>?_))))
 · refine B1 hf fun x3 h5 hf=>W 3 Z (CL Z (vL _ h5 ?_)); cases hf; exact Rx 1 [0] rfl rfl ⟨rfl,_,⟨_,_,rfl,⟨_,_,0,_,_,rfl,rfl,vO,rfl⟩,rfl⟩,_,(.cons _ (.cons_cons _ (List.nil_sublist _))),h⟩
 obtain ⟨x4,y1,h6,hf⟩:=bK hf; refine W 1 Z (CL Z (AC.one 1 Z (gQ _ _ _ h6 ⟨_,Z,(J 1 Z (C hf Z (fun h7 hf=>?_) fun h7 hf=>?_))⟩)))
 · exact bG hf
 cases hf; exact Wx 3 [0] rfl rfl ⟨rfl,_,⟨_,_,rfl,⟨_,_,0,_,_,rfl,rfl,vO,rfl⟩,rfl⟩,_,(.cons _ (.cons_cons _ (List.nil_sublist _))),h⟩
end
theorem EG (op1:Str) {r0:Int} (hf:iR op1=some r0) (h:Q (.ret (iP r0)) τ):PC 221 [.str op1] τ Q:=by
 unfold iR at hf; refine BN 22 [.tmp 2] [0] Tryz.func221 Z Z Z Z Z (V 4 Z (C hf Z (fun h1 hf=>?_) fun h1 hf=>?_))
 · cases hf; exact M 1 Z (Y Z h)
 refine V 2 Z (C hf Z (fun h2 hf=>?_) fun h2 hf=>?_)
 · cases hf; exact M 1 Z (Y Z h)
 refine V 2 Z (C hf Z (fun h3 hf=>?_) fun h3 hf=>?_)
 ·
  refine V 0 Z (AW.cond Z (fun h4=>?_) (fun h4=>?_))
  · cases hf; exact M 1 Z (Y Z h)
  cases h3.symm.trans h4
 refine V 2 Z (C hf Z (fun h5 hf=>?_) fun h5 hf=>?_)
 ·
  refine V 0 Z (AW.cond Z (fun h6=>?_) (fun h6=>?_))
  · cases hf; exact M 1 Z (Y Z h)
  cases h5.symm.trans h6
 refine V 2 Z (C hf Z (fun h7 hf=>?_) fun h7 hf=>?_)
 ·
  refine V 0 Z (AW.cond Z (fun h8=>?_) (fun h8=>?_))
  · cases hf; exact M 1 Z (Y Z h)
  cases h7.symm.trans h8
 refine V 2 Z (C hf Z (fun h9 hf=>?_) fun h9 hf=>?_)
 ·
  refine V 0 Z (AW.cond Z (fun h10=>?_) (fun h10=>?_))
  · cases hf; exact M 1 Z (Y Z h)
  cases h9.symm.trans h10
 refine V 2 Z (C hf Z (fun h11 hf=>?_) fun h11 hf=>?_)
 ·
  refine V 0 Z (AW.cond Z (fun h12=>?_) (fun h12=>?_))
  · cases hf; exact M 1 Z (Y Z h)
  cases h11.symm.trans h12
 refine V 2 Z (C hf Z (fun kQ hf=>?_) fun kQ hf=>?_)
 · cases hf; exact M 1 Z (Y Z h)
 refine V 2 Z (C hf Z (fun lQ hf=>?_) fun lQ hf=>?_)
 ·
  refine V 0 Z (AW.cond Z (fun ng=>?_) (fun ng=>?_))
  · cases hf; exact M 1 Z (Y Z h)
  cases lQ.symm.trans ng
 refine V 2 Z (C hf Z (fun h16 hf=>?_) fun h16 hf=>?_)
 · cases hf; exact M 1 Z (Y Z h)
 refine V 2 Z (C hf Z (fun vG hf=>?_) fun vG hf=>?_)
 ·
  refine V 0 Z (AW.cond Z (fun h18=>?_) (fun h18=>?_))
  · cases hf; exact M 1 Z (Y Z h)
  cases vG.symm.trans h18
 refine V 2 Z (C hf Z (fun h19 hf=>?_) fun h19 hf=>?_)
 ·
  refine V 0 Z (AW.cond Z (fun h20=>?_) (fun h20=>?_))
  · cases hf; exact M 1 Z (Y Z h)
  cases h19.symm.trans h20
 refine V 2 Z (C hf Z (fun h21 hf=>?_) fun h21 hf=>?_)
 · cases hf; exact M 1 Z (Y Z h)
 cases hf; exact M 1 Z (Y Z h)
section
variable [Hf]
@[reducible] def pq :fJ aK ak→eD
 | .ok r=>.ret (.agg (bf r))
 | .bad e=>.panic (.iface 138 (.agg (oM e)))
@[reducible] def o_ :fJ aK ak→eD
 | .ok r=>.ret (.agg (bf r))
 | .bad e=>.panic (.iface 138 (.agg (oM e)))
@[reducible] def sJ :fJ aK ak→eD
 | .ok r=>.ret (.agg (bf r))
 | .bad e=>.panic (.iface 138 (.agg (oM e)))
@[reducible] def sK :fJ aK ak→eD
 | .ok r=>.ret (.agg (bf r))
 | .bad e=>.panic (.iface 138 (.agg (oM e)))
@[reducible] def tK :fJ aK ak→eD
 | .ok r=>.ret (.agg (bf r))
 | .bad e=>.panic (.iface 138 (.agg (oM e)))
abbrev iF (aR:ay→Option (fJ aK ak × ay)):Prop:=∀ (Ag:Nat) (kr:ay) {fG:fJ aK ak} {ni:ay},aR kr=some (fG,ni)→∀ {Q:eD→List bg→Prop} (h:Q (pq fG) [.box Ag (bF ni)]),PC 112 [pP Ag] [.box Ag (bF kr)] Q
abbrev iE (aQ:ay→Int→Option (fJ aK ak × ay)):Prop:=∀ (Ag:Nat) (kr:ay) (Zq:Int) {fG:fJ aK ak} {ni:ay},aQ kr Zq=some (fG,ni)→∀ {Q:eD→List bg→Prop} (h:Q (o_ fG) [.box Ag (bF ni)]),PC 167 [pP Ag,iP Zq] [.box Ag (bF kr)] Q
abbrev j4 (bq:ay→Option (fJ aK ak × ay)):Prop:=∀ (Ag:Nat) (kr:ay) {fG:fJ aK ak} {ni:ay},bq kr=some (fG,ni)→∀ {Q:eD→List bg→Prop} (h:Q (sJ fG) [.box Ag (bF ni)]),PC 219 [pP Ag] [.box Ag (bF kr)] Q
abbrev j5 (bA:ay→Option (fJ aK ak × ay)):Prop:=∀ (Ag:Nat) (kr:ay) {fG:fJ aK ak} {ni:ay},bA kr=some (fG,ni)→∀ {Q:eD→List bg→Prop} (h:Q (sK fG) [.box Ag (bF ni)]),PC 259 [pP Ag] [.box Ag (bF kr)] Q
abbrev kK (bI:ay→Option (fJ aK ak × ay)):Prop:=∀ (Ag:Nat) (kr:ay) {fG:fJ aK ak} {ni:ay},bI kr=some (fG,ni)→∀ {Q:eD→List bg→Prop} (h:Q (tK fG) [.box Ag (bF ni)]),PC 292 [pP Ag] [.box Ag (bF kr)] Q
theorem DX (aR) (dR:iF aR) (aQ) (dQ:iE aQ) (bq) (gD:j4 bq) (bA) (jB:j5 bA) (bI) (jS:kK bI) (p1:Nat) (tX:ay) {rX:fJ aK ak} {wm:ay} (hf:pE aR aQ bq bA bI tX=some (rX,wm)) {Q:eD→List bg→Prop} (h:Q (pq rX) [.box p1 (bF wm)]):PC 112 [pP p1] [.box p1 (bF tX)] Q:=by
 unfold pE at hf; refine BD 23 [.cell 2 34] [0] Tryz.func112 Z Z Z Z Z (W 0 Z (AS Z (AO.aF Z qG (fun b2=>?_)))); rcases lC hf with ⟨e1,y2,h1,hf⟩ | ⟨x1,y1,h1,hf⟩
 · refine U 1 Z (CL Z (AC.one 1 Z (dQ _ _ _ h1 ⟨_,Z,?_⟩))); cases hf; exact ⟨rfl,_,(.cons _ (.cons_cons _ (List.nil_sublist _))),h⟩
 refine U 1 Z (CL Z (AC.one 1 Z (dQ _ _ _ h1 ⟨_,Z,(AS Z (AO.aF Z qG (fun b3=>?_)))⟩))); obtain ⟨x2,y3,h2,hf⟩:=bK hf; refine Rr 2 [0] Z Z (CL Z (AC.one 2 Z (gQ _ _ _ h2 ⟨_,Z,(J 1 Z (C hf Z (fun h3 hf=>?_) fun h3 hf=>?_))⟩)))
 · cases hf; exact Wx 2 [0,1] rfl rfl ⟨rfl,_,⟨_,_,rfl,⟨_,_,1,_,_,rfl,rfl,vO,rfl⟩,rfl⟩,_,(.cons _ (.cons _ (.cons_cons _ (List.nil_sublist _)))),h⟩
 rcases lC hf with ⟨e2,y5,h4,hf⟩ | ⟨x3,y4,h4,hf⟩
 · refine W 1 Z (CL Z (AC.one 2 Z (dR _ _ h4 ⟨_,Z,?_⟩))); cases hf; exact ⟨rfl,_,(.cons _ (.cons _ (.cons_cons _ (List.nil_sublist _)))),h⟩
 refine W 1 Z (CL Z (AC.one 2 Z (dR _ _ h4 ⟨_,Z,(AS Z (AO.aF Z qG (fun b4=>?_)))⟩))); exact bG hf
theorem DW (aR) (dR:iF aR) (aQ) (dQ:iE aQ) (bq) (gD:j4 bq) (bA) (jB:j5 bA) (bI) (jS:kK bI) (p1:Nat) (tX:ay) (n1:Int) {rX:fJ aK ak} {wm:ay} (hf:pz aR aQ bq bA bI tX n1=some (rX,wm)) {Q:eD→List bg→Prop} (h:Q (o_ rX) [.box p1 (bF wm)]):PC 167 [pP p1,iP n1] [.box p1 (bF tX)] Q:=by
 unfold pz at hf; refine BD 47 [.cell 4 34] [0,1] Tryz.func167 Z Z Z Z Z (W 0 Z (AS Z (AO.aF Z qG (fun b4=>(J 2 Z (C hf Z (fun h1 hf=>?_) fun h1 hf=>?_))))))
 ·
  rcases lC hf with ⟨e1,y2,h2,hf⟩ | ⟨x1,y1,h2,hf⟩
  · refine W 1 Z (CL Z (AC.one 1 Z (gD _ _ h2 ⟨_,Z,?_⟩))); cases hf; exact ⟨rfl,_,(.cons _ (.cons_cons _ (List.nil_sublist _))),h⟩
  refine W 1 Z (CL Z (AC.one 1 Z (gD _ _ h2 ⟨_,Z,?_⟩))); cases hf; exact Rx 1 [0] rfl rfl ⟨rfl,_,⟨_,_,rfl,⟨_,_,0,_,_,rfl,rfl,vO,rfl⟩,rfl⟩,_,(.cons _ (.cons_cons _ (List.nil_sublist _))),h⟩
 rcases lC hf with ⟨e2,y4,h3,hf⟩ | ⟨x2,y3,h3,hf⟩
 · refine W 3 Z (CL Z (AC.one 1 Z (dQ _ _ _ h3 ⟨_,Z,?_⟩))); cases hf; exact ⟨rfl,_,(.cons _ (.cons_cons _ (List.nil_sublist _))),h⟩
 refine W 3 Z (CL Z (AC.one 1 Z (dQ _ _ _ h3 ⟨_,Z,(AS Z (AO.aF Z qG (fun b5=>?_)))⟩))); refine Rw 1 [0] Z Z (Zn (fun e3 y5=>[(0,pP p1),(1,iP n1),(4,pP b4),(5,pP b5)]) (fun e3 y5=>[.box b5 (bf e3),.box b4 [iP 0,.str ([]:Str),iP 0,.bool false,iP 0,.str ([]:Str),.own (.slice none 0 0) [],.own (.slice none 0 0) [],.own (.slice none 0 0) [],.own (.slice none 0 0) []],.box p1 (bF y5)]) (fun bP e3 y5=>kV aQ n1 bP e3 y5=some (rX,wm)) BIG x2 y3 Z Z hf (fun _ _ hz=>bG hz) ?_); intro bP e3 y5 hf; rw [kV] at hf; obtain ⟨x3,y6,h4,hf⟩:=bK hf; refine W 1 Z (CL Z (AC.one 2 Z (uH _ _ h4 ⟨_,Z,(AS Z (AO.aF Z Hg (fun b6=>?_)))⟩))); refine B1 hf fun b1 h6 hf=>Rr 5 [0,0] Z Z (AR.cZ 6 20 26 false [0,1,4,5,6] b1 Z Z (fun h5=>?_) (fun h5=>?_) ?_)
 · replace h6:=jA h5 h6; refine Is 20 h5 Z (U 1 Z (GO Z (AO.aP (i:=0) Z Z Z Xw Z Z ?_))); refine B1 h6 fun x4 h7 h6=>GO Z (AO.call Z _ Z Z ajt (EG _ h7 ?_)); cases h6; exact dY 3 Z (En [26,0,1,4,5,6] Z)
 · refine IT 20 h5 h6 Z fun h6=>?_; cases h6; exact dY 6 Z (En [26,0,1,4,5,6] Z)
 refine J 0 Z (C hf Z (fun h8 hf=>?_) fun h8 hf=>?_)
 · cases hf; exact Wx 2 [1,2] rfl rfl ⟨rfl,_,⟨_,_,rfl,⟨_,_,2,_,_,rfl,rfl,vO,rfl⟩,rfl⟩,_,(.cons _ (.cons _ (.cons _ (.cons_cons _ (List.nil_sublist _))))),h⟩
 refine Ww 8 [3,3] Z Z (AW.zF 0 6 8 3 mixed (by kernel_rfl) (by kernel_rfl) (by kernel_rfl) Z Z Z Z ?_); refine Ev.nil ?_; show Ev _ _ _ _ _ _ _; refine Ev.cs aH 1 Z (Ev.cons Z Z Z (AO.aP (i:=0) Z Z Z Xw Z Z zg) (Ev.cons Z Z Z (AO.aP (i:=1) Z Z Z vO Z Z zg) (Ev.cs aH 3 Z ?_))); refine Ev.nil ?_; rcases lC hf with ⟨e4,y8,h9,hf⟩ | ⟨x5,y7,h9,hf⟩
 · refine TF.step Z Z Z (AO.call Z _ Z Z aeU (AC.one 0 Z (dQ _ _ _ h9 ⟨_,Z,?_⟩))); cases hf; exact ⟨rfl,_,(.cons _ (.cons _ (.cons _ (.cons_cons _ (List.nil_sublist _))))),h⟩
 refine TF.step rfl rfl rfl (AO.call rfl _ rfl rfl aeU (AC.one 0 rfl (dQ _ _ _ h9 ⟨_,rfl,(TF.step rfl rfl rfl (AO.aX (ak.aT [e3,x5]) rfl aez rfl rfl rfl (by first | rfl | simp only [List.map,ak.aC,ak.aT]) ?_))⟩))); refine TF.nil ?_; show AR _ _ _ _ _ _ _ _
 refine Rw 4 [1] Z Z (C hf Z (fun h10 hf=>?_) fun h10 hf=>?_)
 · cases hf; exact Wx 2 [1,2] rfl rfl ⟨rfl,_,⟨_,_,rfl,⟨_,_,2,_,_,rfl,rfl,vO,rfl⟩,rfl⟩,_,(.cons _ (.cons _ (.cons _ (.cons_cons _ (List.nil_sublist _))))),h⟩
 refine AW.drop1 (AW.adY 0 Z ?_); exact M 0 Z ⟨(ak.mk 7 x3.text (ah.mk 0 false 0 ([]:Str) [] []) [e3,x5] []),y7,Z,Z,Z,hf⟩
theorem Ie (aR) (dR:iF aR) (aQ) (dQ:iE aQ) (bq) (gD:j4 bq) (bA) (jB:j5 bA) (bI) (jS:kK bI) (p1:Nat) (tX:ay) {rX:fJ aK ak} {wm:ay} (hf:sN aR aQ bq bA bI tX=some (rX,wm)) {Q:eD→List bg→Prop} (h:Q (sJ rX) [.box p1 (bF wm)]):PC 219 [pP p1] [.box p1 (bF tX)] Q:=by
 unfold sN at hf; refine BD 22 [.cell 2 34] [0] Tryz.func219 Z Z Z Z Z (W 0 Z (AS Z (AO.aF Z qG (fun b2=>(U 0 Z (AS Z (AO.aX (List.map wR ([([33]:Str),([45]:Str)]:List Str)) Z Eb Z Z Z Z (AS Z (AO.aM (l:=([([33]:Str),([45]:Str)]:List Str)) Z Z Z Z fE Z Z ?_))))))))); refine J 1 Z (Zn (fun x1 y1=>[(0,pP p1),(2,pP b2),(5,sP (([([33]:Str),([45]:Str)]:List Str))),(6,iP (([([33]:Str),([45]:Str)]:List Str).length:Int)),(7,iP x1)]) (fun x1 y1=>[.box b2 [iP 0,.str ([]:Str),iP 0,.bool false,iP 0,.str ([]:Str),.own (.slice none 0 0) [],.own (.slice none 0 0) [],.own (.slice none 0 0) [],.own (.slice none 0 0) []],.box p1 (bF y1)]) (fun bP x1 y1=>nX bq bA bP x1 y1=some (rX,wm)) BIG 0 tX Z Z hf (fun _ _ hz=>bG hz) ?_); intro bP x1 y1 hf; rw [nX] at hf; refine V 1 Z (C hf Z (fun h1 hf=>?_) fun h1 hf=>?_)
 ·
  refine B1 hf fun op1 h2 hf=>W 0 Z (AS Z (AO.aJ h2 Z Z Z Z fE Z Z ?_)); obtain ⟨x2,y2,h3,hf⟩:=bK hf; refine U 4 Z (CL Z (AC.one 1 Z (gQ _ _ _ h3 ⟨_,Z,(J 0 Z (C hf Z (fun h4 hf=>?_) fun h4 hf=>?_))⟩)))
  ·
   rcases lC hf with ⟨e1,y4,h5,hf⟩ | ⟨x3,y3,h5,hf⟩
   · refine W 2 Z (CL Z (AC.one 1 Z (gD _ _ h5 ⟨_,Z,?_⟩))); cases hf; exact ⟨rfl,_,(.cons _ (.cons_cons _ (List.nil_sublist _))),h⟩
   refine W 2 rfl (CL rfl (AC.one 1 rfl (gD _ _ h5 ⟨_,rfl,(AS rfl (AO.aX (ak.aT [x3]) rfl aez rfl rfl rfl (by first | rfl | simp only [List.map,ak.aC,ak.aT]) ?_))⟩))); cases hf; exact Rx 2 [0] rfl rfl ⟨rfl,_,⟨_,_,rfl,⟨_,_,0,_,_,rfl,rfl,vO,rfl⟩,rfl⟩,_,(.cons _ (.cons_cons _ (List.nil_sublist _))),h⟩
  exact M 2 Z ⟨(bW (x1 + 1)),y2,Z,Z,Z,hf⟩
 rcases lC hf with ⟨e2,y6,h6,hf⟩ | ⟨x4,y5,h6,hf⟩
 · refine W 1 Z (CL Z (AC.one 1 Z (jB _ _ h6 ⟨_,Z,?_⟩))); cases hf; exact ⟨rfl,_,(.cons _ (.cons_cons _ (List.nil_sublist _))),h⟩
 refine W 1 Z (CL Z (AC.one 1 Z (jB _ _ h6 ⟨_,Z,?_⟩))); cases hf; exact Rx 1 [0] rfl rfl ⟨rfl,_,⟨_,_,rfl,⟨_,_,0,_,_,rfl,rfl,vO,rfl⟩,rfl⟩,_,(.cons _ (.cons_cons _ (List.nil_sublist _))),h⟩
theorem Ig (aR) (dR:iF aR) (aQ) (dQ:iE aQ) (bq) (gD:j4 bq) (bA) (jB:j5 bA) (bI) (jS:kK bI) (p1:Nat) (tX:ay) {rX:fJ aK ak} {wm:ay} (hf:sO aR aQ bq bA bI tX=some (rX,wm)) {Q:eD→List bg→Prop} (h:Q (sK rX) [.box p1 (bF wm)]):PC 259 [pP p1] [.box p1 (bF tX)] Q:=by
 unfold sO at hf; refine BD 47 [.cell 2 34] [0] Tryz.func259 Z Z Z Z Z (W 0 Z (AS Z (AO.aF Z qG (fun b2=>?_)))); rcases lC hf with ⟨e1,y2,h1,hf⟩ | ⟨x1,y1,h1,hf⟩
 · refine U 1 Z (CL Z (AC.one 1 Z (jS _ _ h1 ⟨_,Z,?_⟩))); cases hf; exact ⟨rfl,_,(.cons _ (.cons_cons _ (List.nil_sublist _))),h⟩
 refine U 1 Z (CL Z (AC.one 1 Z (jS _ _ h1 ⟨_,Z,(AS Z (AO.aF Z qG (fun b3=>?_)))⟩))); refine Rw 1 [0] Z Z (Zn (fun e2 y3=>[(0,pP p1),(2,pP b2),(3,pP b3)]) (fun e2 y3=>[.box b3 (bf e2),.box b2 [iP 0,.str ([]:Str),iP 0,.bool false,iP 0,.str ([]:Str),.own (.slice none 0 0) [],.own (.slice none 0 0) [],.own (.slice none 0 0) [],.own (.slice none 0 0) []],.box p1 (bF y3)]) (fun bP e2 y3=>nY aR bP e2 y3=some (rX,wm)) BIG x1 y1 Z Z hf (fun _ _ hz=>bG hz) ?_); intro bP e2 y3 hf; rw [nY] at hf; obtain ⟨x2,y4,h2,hf⟩:=bK hf; refine W 1 Z (CL Z (AC.one 2 Z (gQ _ _ _ h2 ⟨_,Z,(J 1 Z (C hf Z (fun h3 hf=>?_) fun h3 hf=>?_))⟩)))
 ·
  rcases lC hf with ⟨e3,y6,h4,hf⟩ | ⟨x3,y5,h4,hf⟩
  · refine W 1 Z (CL Z (AC.one 2 Z (qm _ _ h4 ⟨_,Z,?_⟩))); cases hf; exact ⟨rfl,_,(.cons _ (.cons _ (.cons_cons _ (List.nil_sublist _)))),h⟩
  refine W 1 Z (CL Z (AC.one 2 Z (qm _ _ h4 ⟨_,Z,(AS Z (AO.aF Z Hg (fun b4=>?_)))⟩))); refine B1 hf fun b1 h6 hf=>Rr 5 [0,0] Z Z (AR.cZ 4 17 21 false [0,2,3,4] b1 Z Z (fun h5=>?_) (fun h5=>?_) ?_)
  · replace h6:=jA h5 h6; refine Is 17 h5 Z (U 1 Z (GO Z (AO.aP (i:=0) Z Z Z Xw Z Z ?_))); refine BR h6 fun x4 h7 h6=>?_; refine GO Z (AO.call Z _ Z Z aeI (E5 _ h7 ?_)); cases h6; exact dY 1 Z (En [21,0,2,3,4] Z)
  · refine IT 17 h5 h6 Z fun h6=>?_; cases h6; exact dY 4 Z (En [21,0,2,3,4] Z)
  refine J 0 Z (C hf Z (fun h8 hf=>?_) fun h8 hf=>?_)
  · exact bG hf
  refine Wr 11 [3,3,0,1] rfl rfl (AS rfl (AO.aX (ak.aT [e2]) rfl aez rfl rfl rfl (by first | rfl | simp only [List.map,ak.aC,ak.aT]) ?_)); refine Rn 2 [1] Z Z (AR.drop1 (AR.adY 0 Z ?_)); exact N 0 Z ⟨(ak.mk 3 x3.text (ah.mk 0 false 0 ([]:Str) [] []) [e2] []),(ay.mk y5.ts (bW (y5.at_ + 1))),Z,Z,Z,hf⟩
 obtain ⟨x5,y7,h9,hf⟩:=bK hf; refine W 1 Z (CL Z (AC.one 2 Z (gQ _ _ _ h9 ⟨_,Z,(J 1 Z (C hf Z (fun h10 hf=>?_) fun h10 hf=>?_))⟩)))
 ·
  rcases lC hf with ⟨e4,y9,h11,hf⟩ | ⟨x6,y8,h11,hf⟩
  · refine W 1 Z (CL Z (AC.one 2 Z (dR _ _ h11 ⟨_,Z,?_⟩))); cases hf; exact ⟨rfl,_,(.cons _ (.cons _ (.cons_cons _ (List.nil_sublist _)))),h⟩
  refine W 1 Z (CL Z (AC.one 2 Z (dR _ _ h11 ⟨_,Z,(AS Z (AO.aF Z qG (fun b5=>?_)))⟩))); exact bG hf
 cases hf; exact Wx 2 [0,1] rfl rfl ⟨rfl,_,⟨_,_,rfl,⟨_,_,1,_,_,rfl,rfl,vO,rfl⟩,rfl⟩,_,(.cons _ (.cons _ (.cons_cons _ (List.nil_sublist _)))),h⟩
theorem Iy (aR) (dR:iF aR) (aQ) (dQ:iE aQ) (bq) (gD:j4 bq) (bA) (jB:j5 bA) (bI) (jS:kK bI) (p1:Nat) (tX:ay) {rX:fJ aK ak} {wm:ay} (hf:uh aR aQ bq bA bI tX=some (rX,wm)) {Q:eD→List bg→Prop} (h:Q (tK rX) [.box p1 (bF wm)]):PC 292 [pP p1] [.box p1 (bF tX)] Q:=by
 unfold uh at hf; refine BD 77 [.cell 2 34] [0] Tryz.func292 Z Z Z Z Z (W 0 Z (AS Z (AO.aF Z qG (fun b2=>?_)))); rcases lC hf with ⟨e1,y2,h1,hf⟩ | ⟨x1,y1,h1,hf⟩
 · refine U 1 Z (CL Z (AC.one 1 Z (qm _ _ h1 ⟨_,Z,?_⟩))); cases hf; exact ⟨rfl,_,(.cons _ (.cons_cons _ (List.nil_sublist _))),h⟩
 refine U 1 Z (CL Z (AC.one 1 Z (qm _ _ h1 ⟨_,Z,(AS Z (AO.aF Z Hg (fun b3=>(Rw 5 [0,0] Z Z (C hf Z (fun h2 hf=>?_) fun h2 hf=>?_)))))⟩)))
 · obtain ⟨n1,x2,h3,hf⟩:=bK hf; refine Wr 10 [2,2,0] Z Z (CL Z (DJ _ h3 ?_)); refine B1 hf fun x3 h4 hf=>U 7 Z (CL Z (vL _ h4 ?_)); cases hf; exact Rx 1 [1] rfl rfl ⟨rfl,_,⟨_,_,rfl,⟨_,_,1,_,_,rfl,rfl,vO,rfl⟩,rfl⟩,_,(.cons _ (.cons _ (.cons_cons _ (List.nil_sublist _)))),h⟩
 refine V 2 Z (C hf Z (fun h5 hf=>?_) fun h5 hf=>?_)
 · refine B1 hf fun x4 h6 hf=>Wr 11 [2,2,0] Z Z (CL Z (vL _ h6 ?_)); cases hf; exact Rx 1 [1] rfl rfl ⟨rfl,_,⟨_,_,rfl,⟨_,_,1,_,_,rfl,rfl,vO,rfl⟩,rfl⟩,_,(.cons _ (.cons _ (.cons_cons _ (List.nil_sublist _)))),h⟩
 refine V 2 Z (C hf Z (fun h7 hf=>?_) fun h7 hf=>?_)
 ·
  rcases lC hf with ⟨e2,y4,h8,hf⟩ | ⟨x5,y3,h8,hf⟩
  · refine Wr 11 [2,2,0] Z Z (CL Z (AC.one 2 Z (Bu _ _ _ h8 ⟨_,Z,?_⟩))); cases hf; exact ⟨rfl,_,(.cons _ (.cons _ (.cons_cons _ (List.nil_sublist _)))),h⟩
  refine Wr 11 [2,2,0] Z Z (CL Z (AC.one 2 Z (Bu _ _ _ h8 ⟨_,Z,?_⟩))); cases hf; exact Rx 1 [1] rfl rfl ⟨rfl,_,⟨_,_,rfl,⟨_,_,1,_,_,rfl,rfl,vO,rfl⟩,rfl⟩,_,(.cons _ (.cons _ (.cons_cons _ (List.nil_sublist _)))),h⟩
 obtain ⟨x6,y5,h9,hf⟩:=bK hf; refine W 1 Z (CL Z (AC.one 2 Z (gQ _ _ _ h9 ⟨_,Z,(J 1 Z (C hf Z (fun h10 hf=>?_) fun h10 hf=>?_))⟩)))
 ·
  rcases lC hf with ⟨e3,y7,h11,hf⟩ | ⟨x7,y6,h11,hf⟩
  · refine W 1 Z (CL Z (AC.one 2 Z (dR _ _ h11 ⟨_,Z,?_⟩))); cases hf; exact ⟨rfl,_,(.cons _ (.cons _ (.cons_cons _ (List.nil_sublist _)))),h⟩
  refine W 1 Z (CL Z (AC.one 2 Z (dR _ _ h11 ⟨_,Z,(AS Z (AO.aF Z qG (fun b6=>?_)))⟩))); exact bG hf
 obtain ⟨x8,y8,h12,hf⟩:=bK hf; refine W 1 Z (CL Z (AC.one 2 Z (gQ _ _ _ h12 ⟨_,Z,(J 1 Z (C hf Z (fun kQ hf=>?_) fun kQ hf=>?_))⟩)))
 · exact bG hf
 obtain ⟨x9,y9,lQ,hf⟩:=bK hf; refine W 1 Z (CL Z (AC.one 2 Z (gQ _ _ _ lQ ⟨_,Z,(J 1 Z (C hf Z (fun ng hf=>?_) fun ng hf=>?_))⟩)))
 · exact bG hf
 exact bG hf
theorem jU :∀ k:Nat,(iF (dB k))∧(iE (dA k))∧(j4 (dU k))∧(j5 (dV k))∧(kK (eF k)):=by
 intro k
 induction k with
 | zero=>exact ⟨fun _ _ _ _ hz=>by first | cases hz | (unfold dB at hz; cases hz),fun _ _ _ _ _ hz=>by first | cases hz | (unfold dA at hz; cases hz),fun _ _ _ _ hz=>by first | cases hz | (unfold dU at hz; cases hz),fun _ _ _ _ hz=>by first | cases hz | (unfold dV at hz; cases hz),fun _ _ _ _ hz=>by first | cases hz | (unfold eF at hz; cases hz)⟩
 | succ k ih=>exact ⟨fun Ag kr fG ni hz  Q hq=>DX (dB k) ih.1 (dA k) ih.2.1 (dU k) ih.2.2.1 (dV k) ih.2.2.2.1 (eF k) ih.2.2.2.2 Ag kr hz hq,fun Ag kr Zq fG ni hz  Q hq=>DW (dB k) ih.1 (dA k) ih.2.1 (dU k) ih.2.2.1 (dV k) ih.2.2.2.1 (eF k) ih.2.2.2.2 Ag kr Zq hz hq,fun Ag kr fG ni hz  Q hq=>Ie (dB k) ih.1 (dA k) ih.2.1 (dU k) ih.2.2.1 (dV k) ih.2.2.2.1 (eF k) ih.2.2.2.2 Ag kr hz hq,fun Ag kr fG ni hz  Q hq=>Ig (dB k) ih.1 (dA k) ih.2.1 (dU k) ih.2.2.1 (dV k) ih.2.2.2.1 (eF k) ih.2.2.2.2 Ag kr hz hq,fun Ag kr fG ni hz  Q hq=>Iy (dB k) ih.1 (dA k) ih.2.1 (dU k) ih.2.2.1 (dV k) ih.2.2.2.1 (eF k) ih.2.2.2.2 Ag kr hz hq⟩
theorem vQ (Ag:Nat) (kr:ay) {fG:fJ aK ak} {ni:ay} (hf:xK kr=some (fG,ni)) {Q:eD→List bg→Prop} (h:Q (pq fG) [.box Ag (bF ni)]):PC 112 [pP Ag] [.box Ag (bF kr)] Q:=
 ((jU BIG).1) Ag kr hf h
theorem SS (Ag:Nat) (kr:ay) (Zq:Int) {fG:fJ aK ak} {ni:ay} (hf:FI kr Zq=some (fG,ni)) {Q:eD→List bg→Prop} (h:Q (o_ fG) [.box Ag (bF ni)]):PC 167 [pP Ag,iP Zq] [.box Ag (bF kr)] Q:=
 ((jU BIG).2.1) Ag kr Zq hf h
theorem Xb (Ag:Nat) (kr:ay) {fG:fJ aK ak} {ni:ay} (hf:Kq kr=some (fG,ni)) {Q:eD→List bg→Prop} (h:Q (sJ fG) [.box Ag (bF ni)]):PC 219 [pP Ag] [.box Ag (bF kr)] Q:=
 ((jU BIG).2.2.1) Ag kr hf h
theorem Xc (Ag:Nat) (kr:ay) {fG:fJ aK ak} {ni:ay} (hf:Kr kr=some (fG,ni)) {Q:eD→List bg→Prop} (h:Q (sK fG) [.box Ag (bF ni)]):PC 259 [pP Ag] [.box Ag (bF kr)] Q:=
 ((jU BIG).2.2.2.1) Ag kr hf h
theorem Za (Ag:Nat) (kr:ay) {fG:fJ aK ak} {ni:ay} (hf:Lb kr=some (fG,ni)) {Q:eD→List bg→Prop} (h:Q (tK fG) [.box Ag (bF ni)]):PC 292 [pP Ag] [.box Ag (bF kr)] Q:=
 ((jU BIG).2.2.2.2) Ag kr hf h
end
section
variable [Hf]
theorem TS (xC:List aS) {r0:ak} {r1 r2:Int} (hf:I_ xC=some (r0,r1,r2)) (h:Q (.ret (.tuple [.agg (bf r0),iP r1,iP r2])) τ):PC 72 [.list (List.map aS.cells xC)] τ Q:=by
 unfold I_ at hf; refine AC.none (AC.OX 17 [.cell 2 34,.cell 3 3,.cell 4 36] [0] [0,1,2] Tryz.func72 Z Z Z Z Z Tryz.func111 Z Z Z Z Z Z Z ajL (AW.sr (AR.step Z Z Z (AO.aF Z qG (fun b2=>?_))))); refine AR.step Z Z Z (AO.aF Z akV (fun b3=>(AR.step Z Z Z (AO.aF Z adR (fun b4=>(AR.nil [0,2,3,4] Z (AW.sr ?_))))))); refine cs 1 Z (AR.step Z Z Z (AO.build Z aiT agY Z (AR.step Z Z Z (AO.WW Z Z (fun b8=>(cs 1 Z ?_)))))); refine AR.nil [2,3,4,5] Z (AW.sr (cs 1 Z (AR.defer (vs:=[.pointer (some ⟨b2,0,none⟩),.pointer (some ⟨b3,0,none⟩),.pointer (some ⟨b4,0,none⟩)]) Z Z Z Z Z Z ?_))); refine AR.nil [2,3,4,5] Z (AW.sr (cs 1 Z ?_)); rcases lC hf with ⟨f1,s1,h1,hf⟩ | ⟨e1,s1,h1,hf⟩
 ·
  refine AR.step Z Z Z (AO.call Z _ Z Z ae0 (AC.one 0 Z (vQ _ _ h1 ⟨_,Z,?_⟩))); cases hf; refine ⟨[.pointer (some ⟨b2,0,none⟩),.pointer (some ⟨b3,0,none⟩),.pointer (some ⟨b4,0,none⟩)],_,Z,Z,Z,(AR.step Z Z Z (AO.abk Z Z agO (cs 3 Z (AR.step Z Z Z (AO.aF Z adV (fun b5=>?_))))))⟩; refine AR.bQ Z Z (AO.cO (i:=0) Z Z Z aee Z Z Z Z Z (cs 1 Z (AR.nil [0,1,2,3,4] Z (AW.sr ?_)))); refine cs 1 Z (AR.nil [0,1,2,3,10] Z (AW.cond Z (fun _=>?_) (fun hh=>by cases hh))); refine AW.abY 1 5 7 [_] [_,_,_,_] mixed (by kernel_rfl) (by kernel_rfl) (by kernel_rfl) Z Z Z (List.Perm.refl _) ?_; refine Ev.cons Z Z Z (AO.build Z qG aen Z zg) (Ev.nil ?_); show Ev _ _ _ _ _ _ _; refine Ev.cs aH 1 Z (Ev.cons Z Z Z (AO.aP (i:=0) Z Z Z ES Z Z zg) (Ev.cs aH 1 Z (Ev.cons Z Z Z (AO.aP (i:=0) Z Z Z Ea Z Z zg) ?_))); refine Ev.nil (TF.bQ Z Z (AO.cO (i:=3) Z Z Z vO Z Z Z Z Z (TF.bQ Z Z (AO.cO (i:=2) Z Z Z ES Z Z Z Z Z (TF.nil ?_))))); show AR _ _ _ _ _ _ _ _; refine AR.bQ Z Z (AO.cO (i:=2) Z Z Z Ea Z Z Z Z Z (AR.nil [] Z ?_)); exact ⟨rfl,_,⟨_,_,rfl,⟨_,_,4,_,_,rfl,rfl,vO,rfl⟩,⟨_,_,rfl,⟨_,_,3,_,_,rfl,rfl,ES,rfl⟩,⟨_,_,rfl,⟨_,_,2,_,_,rfl,rfl,Ea,rfl⟩,rfl⟩⟩⟩,[],List.nil_sublist _,h⟩
 refine AR.step Z Z Z (AO.call Z _ Z Z ae0 (AC.one 0 Z (vQ _ _ h1 ⟨_,Z,?_⟩))); cases hf; refine AR.bQ Z Z (AO.cO (i:=3) Z Z Z vO Z Z Z Z Z (AR.nil [2,3,4,5] Z (AW.seq (AW.zF 1 5 6 3 mixed (by kernel_rfl) (by kernel_rfl) (by kernel_rfl) Z Z Z Z ?_)))); refine Ev.cons Z Z Z (AO.aP (i:=3) Z Z Z vO Z Z zg) (Ev.nil ?_); show Ev _ _ _ _ _ _ _; refine Ev.cs aH 3 Z (Ev.cons Z Z Z (AO.aP (i:=0) Z Z Z ES Z Z zg) (Ev.nil (TF.bQ Z Z (AO.cO (i:=0) Z Z Z vO Z Z Z Z Z ?_)))); refine TF.nil ?_; show AR _ _ _ _ _ _ _ _; refine AR.bQ Z Z (AO.cO (i:=2) Z Z Z ES Z Z Z Z Z (AR.bQ Z Z (AO.cO (i:=1) Z Z Z Ea Z Z Z Z Z (AR.nil [2,3,4] Z (AW.ret ?_))))); refine ⟨[.pointer (some ⟨b2,0,none⟩),.pointer (some ⟨b3,0,none⟩),.pointer (some ⟨b4,0,none⟩)],_,Z,Z,Z,(AR.step Z Z Z (AO.Xx (p:=.agg [iP 0,iP 0]) Z Z agQ (fun _ _=>by simp only [dG]; exact ⟨[.int .i64 0,.int .i64 0],Z,aZ.cons (by simp [dG]) (aZ.cons (by simp [dG]) aZ.nil)⟩) ?_))⟩; refine cs 3 Z (AR.step Z Z Z (AO.aF Z adV (fun b5=>(AR.bQ Z Z (AO.cO (i:=0) Z Z Z aee Z Z Z Z Z (cs 1 Z ?_)))))); refine AR.nil [4] Z (AW.sr (cs 1 Z (AR.nil [10] Z ?_))); refine AW.cond Z (fun hh=>by cases hh) (fun _=>?_); refine AW.skip ?_; exact ⟨rfl,_,⟨_,_,rfl,⟨_,_,4,_,_,rfl,rfl,vO,rfl⟩,⟨_,_,rfl,⟨_,_,3,_,_,rfl,rfl,ES,rfl⟩,⟨_,_,rfl,⟨_,_,2,_,_,rfl,rfl,Ea,rfl⟩,rfl⟩⟩⟩,[],List.nil_sublist _,h⟩
end
abbrev JZ (jJ:ak→Option Int):Prop:=∀ (iO:ak) {aO:Int},jJ iO=some aO→∀ {τ:List bg} {Q:eD→List bg→Prop} (h:Q (.ret (iP aO)) τ),PC 82 [.agg (bf iO)] τ Q
theorem Qr (jJ) (Oe:JZ jJ) (e1:ak) {r0:Int} (hf:yP jJ e1=some r0) (h:Q (.ret (iP r0)) τ):PC 82 [.agg (bf e1)] τ Q:=by
 unfold yP at hf; refine BN 19 [.tmp 2] [0] Tryz.func82 Z Z Z Z Z (W 5 Z (AS Z (AO.aM (l:=e1.args) Z Z Z Z g_ Z (ak.aA _) (J 1 Z (Zn (fun n1 x1=>[(3,iP n1),(7,.list (ak.aT e1.args)),(8,iP (e1.args.length:Int)),(9,iP x1)]) (fun n1 x1=>[]) (fun bP n1 x1=>rZ jJ e1 bP n1 x1=some r0) BIG 1 0 Z Z hf (fun _ _ hz=>bG hz) ?_))))); intro bP n1 x1 hf; rw [rZ] at hf; refine V 1 Z (C hf Z (fun h1 hf=>?_) fun h1 hf=>?_)
 · refine B1 hf fun e2 h2 hf=>W 0 Z (AS Z (AO.aJ h2 Z Z (ak.aA _) Z g_ (ak.aC _) Z (U 1 Z (AS Z (AO.aF Z qG (fun b5=>?_)))))); refine B1 hf fun x2 h3 hf=>Rr 3 [0,0] Z Z (CL Z (Oe _ h3 (dY 4 Z (AR.drop1 ?_)))); exact N 0 Z ⟨(bW (n1 + x2)),(bW (x1 + 1)),Z,Z,Z,hf⟩
 cases hf; exact M 2 Z (Y Z h)
theorem Q9 :∀ k:Nat,(JZ (kW k)):=by
 intro k
 induction k with
 | zero=>exact fun _ _ hz=>by first | cases hz | (unfold kW at hz; cases hz)
 | succ k ih=>exact fun iO aO hz τ Q hq=>Qr (kW k) ih iO hz hq
theorem Si (iO:ak) {aO:Int} (hf:Ch iO=some aO) (h:Q (.ret (iP aO)) τ):PC 82 [.agg (bf iO)] τ Q:=
 ((Q9 BIG)) iO hf h
theorem TQ (v1:ah) {r0:Bool} (hf:Ep v1=some r0) (h:Q (.ret (.bool r0)) τ):PC 202 [.agg (aL v1)] τ Q:=by
 unfold Ep at hf; refine BN 33 [.tmp 2] [0] Tryz.func202 Z Z Z Z Z (W 6 Z (An 4 6 10 [1] (!v1.dM) Z Z Z Z (U 1 Z (An 4 11 15 [1] (v1.dO == 0) Z Z Z Z (U 1 Z (An 4 16 20 [1] (v1.bO == ([]:Str)) Z Z Z Z ?_)))))); refine U 1 Z (AR.and 5 21 26 [1] (x:=((v1.aI.length:Int) == 0)) Z Z (fun h4=>?_) (fun h4=>?_) ?_)
 · refine Is 21 h4 Z (U 2 Z (GO Z (AO.aM (l:=v1.aI) Z Z Z Z fB Z (ah.aA _) ?_))); exact dY 2 Z (En [26,1] Z)
 · refine Is 21 h4 Z ?_; exact dY 5 Z (En [26,1] Z)
 refine U 1 Z (AR.and 5 27 32 [] (x:=((v1.keys.length:Int) == 0)) Z Z (fun h5=>?_) (fun h5=>?_) ?_)
 · refine Is 27 h5 Z (U 2 Z (GO Z (AO.aM (l:=v1.keys) Z Z Z Z fE Z Z ?_))); exact dY 2 Z (En [32] Z)
 · refine Is 27 h5 Z ?_; exact dY 5 Z (En [32] Z)
 cases hf; exact N 1 Z (Y Z h)
theorem DL (s1:Str) {r0:Bool} (hf:rM s1=some r0) (h:Q (.ret (.bool r0)) τ):PC 253 [.str s1] τ Q:=by
 unfold rM at hf; refine BN 10 [.tmp 2] [0] Tryz.func253 Z Z Z Z Z ?_; refine B1 hf fun x1 h1 hf=>W 2 Z (CL Z (KR _ h1 ?_)); refine BR hf fun b1 h3 hf=>?_; refine U 1 Z (AR.cZ 4 5 9 true [] b1 Z Z (fun h2=>?_) (fun h2=>?_) ?_)
 · refine IT 5 h2 h3 Z fun h3=>?_; refine B1 h3 fun x2 h4 h3=>U 1 Z (GO Z (AO.call Z _ Z Z aeI (E5 _ h4 ?_))); cases h3; exact dY 2 Z (En [9] Z)
 · refine IF 5 h2 h3 Z fun h3=>?_; cases h3; exact dY 4 Z (En [9] Z)
 cases hf; exact N 1 Z (Y Z h)
theorem Sc (e1:ak) {r0:Bool} (hf:yL e1=some r0) (h:Q (.ret (.bool r0)) τ):PC 203 [.agg (bf e1)] τ Q:=by
 unfold yL at hf; refine BN 31 [.tmp 2] [0] Tryz.func203 Z Z Z Z Z (V 6 Z (C hf Z (fun h1 hf=>?_) fun h1 hf=>?_))
 ·
  refine V 0 Z (AW.cond Z (fun h2=>?_) (fun h2=>?_))
  · refine BR hf fun x1 h3 hf=>?_; refine W 2 Z (CL Z (DL _ h3 ?_)); cases hf; exact N 1 Z (Y Z h)
  cases h1.symm.trans h2
 refine V 2 Z (C hf Z (fun h4 hf=>?_) fun h4 hf=>?_)
 ·
  refine V 0 Z (AW.cond Z (fun h5=>?_) (fun h5=>?_))
  · refine BR hf fun x2 h6 hf=>?_; refine W 2 Z (CL Z (DL _ h6 ?_)); cases hf; exact N 1 Z (Y Z h)
  cases h4.symm.trans h5
 refine V 2 Z (C hf Z (fun h7 hf=>?_) fun h7 hf=>?_)
 · refine BR hf fun x3 h8 hf=>?_; refine W 2 Z (CL Z (DL _ h8 ?_)); cases hf; exact N 1 Z (Y Z h)
 refine V 2 Z (C hf Z (fun h9 hf=>?_) fun h9 hf=>?_)
 · refine W 4 Z (On 4 17 21 [] (e1.name == ([45]:Str)) Z Z Z Z ?_); cases hf; exact N 1 Z (Y Z h)
 refine V 2 Z (C hf Z (fun h11 hf=>?_) fun h11 hf=>?_)
 · refine B1 hf fun x4 h12 hf=>W 2 Z (CL Z (EG _ h12 ?_)); cases hf; exact N 2 Z (Y Z h)
 cases hf; exact M 4 Z (Y Z h)
theorem Sg (e1:ak) {r0:Bool} (hf:yO e1=some r0) (h:Q (.ret (.bool r0)) τ):PC 204 [.agg (bf e1)] τ Q:=by
 unfold yO at hf; refine BN 32 [.tmp 2] [0] Tryz.func204 Z Z Z Z Z (V 6 Z (C hf Z (fun h1 hf=>?_) fun h1 hf=>?_))
 ·
  refine V 0 Z (AW.cond Z (fun h2=>?_) (fun h2=>?_))
  · refine W 2 Z (AS Z (AO.aM (l:=e1.args) Z Z Z Z g_ Z (ak.aA _) ?_)); cases hf; exact N 2 Z (Y Z h)
  cases h1.symm.trans h2
 refine V 2 Z (C hf Z (fun h3 hf=>?_) fun h3 hf=>?_)
 · refine W 2 Z (AS Z (AO.aM (l:=e1.args) Z Z Z Z g_ Z (ak.aA _) ?_)); cases hf; exact N 2 Z (Y Z h)
 refine V 2 Z (C hf Z (fun h4 hf=>?_) fun h4 hf=>?_)
 ·
  refine V 0 Z (AW.cond Z (fun h5=>?_) (fun h5=>?_))
  · refine W 2 Z (AS Z (AO.aM (l:=e1.args) Z Z Z Z g_ Z (ak.aA _) ?_)); cases hf; exact N 2 Z (Y Z h)
  cases h4.symm.trans h5
 refine V 2 Z (C hf Z (fun h6 hf=>?_) fun h6 hf=>?_)
 · refine W 2 Z (AS Z (AO.aM (l:=e1.args) Z Z Z Z g_ Z (ak.aA _) ?_)); cases hf; exact N 2 Z (Y Z h)
 refine V 2 Z (C hf Z (fun h7 hf=>?_) fun h7 hf=>?_)
 ·
  refine V 0 Z (AW.cond Z (fun h8=>?_) (fun h8=>?_))
  · refine W 2 Z (AS Z (AO.aM (l:=e1.args) Z Z Z Z g_ Z (ak.aA _) ?_)); cases hf; exact N 2 Z (Y Z h)
  cases h7.symm.trans h8
 refine V 2 Z (C hf Z (fun h9 hf=>?_) fun h9 hf=>?_)
 · refine W 2 Z (AS Z (AO.aM (l:=e1.args) Z Z Z Z g_ Z (ak.aA _) ?_)); cases hf; exact N 2 Z (Y Z h)
 refine V 2 Z (C hf Z (fun h10 hf=>?_) fun h10 hf=>?_)
 · refine W 2 Z (AS Z (AO.aM (l:=e1.args) Z Z Z Z g_ Z (ak.aA _) ?_)); cases hf; exact N 2 Z (Y Z h)
 cases hf; exact M 1 Z (Y Z h)
theorem xq (s1:List Str) (f1:Str→Option Bool) (Wm:FuncId) (f1C:List PV) (f1P:aV Tryz.prog Wm=true) (f1H:∀ a0 b0,f1 a0=some b0→∀ {τ:List bg} {Q:eD→List bg→Prop},Q (.ret (.bool b0)) τ→PC Wm ([.str a0] ++ f1C) τ Q) {r0:Int} (hf:jf s1 f1=some r0) (h:Q (.ret (iP r0)) τ):PC 291 [sP s1,.fn Wm f1C] τ Q:=by
 unfold jf at hf; refine BN 19 [.tmp 4] [0,1] Tryz.func291 Z Z Z Z Z (W 2 Z (AS Z (AO.aM (l:=s1) Z Z Z Z fE Z Z (J 1 Z (E_ (fun i1=>[(0,sP s1),(1,.fn Wm f1C),(7,iP (s1.length:Int)),(8,iP i1)]) (fun i1=>[]) (fun bP i1=>fV s1 f1 bP i1=some r0) BIG 0 Z Z hf (fun _ hz=>bG hz) ?_))))); intro bP i1 hf; rw [fV] at hf; refine V 1 Z (C hf Z (fun h1 hf=>?_) fun h1 hf=>?_)
 ·
  refine B1 hf fun e1 h2 hf=>W 5 Z (AS Z (AO.aJ h2 Z Z Z Z fE Z Z ?_)); refine B1 hf fun x1 h3 hf=>U 1 Z (AS Z (AO.call Z _ Z Z f1P (f1H _ _ h3 (J 0 Z (C hf Z (fun h4 hf=>?_) fun h4 hf=>?_)))))
  · cases hf; exact M 2 Z (Y Z h)
  exact M 2 Z ⟨(bW (i1 + 1)),Z,Z,Z,hf⟩
 cases hf; exact M 1 Z (Y Z h)
theorem vK (s1:List Str) (f1:Str→Option Bool) (Wm:FuncId) (f1C:List PV) (f1P:aV Tryz.prog Wm=true) (f1H:∀ a0 b0,f1 a0=some b0→∀ {τ:List bg} {Q:eD→List bg→Prop},Q (.ret (.bool b0)) τ→PC Wm ([.str a0] ++ f1C) τ Q) {r0:Bool} (hf:fZ s1 f1=some r0) (h:Q (.ret (.bool r0)) τ):PC 254 [sP s1,.fn Wm f1C] τ Q:=by
 unfold fZ at hf; refine BN 9 [.tmp 4] [0,1] Tryz.func254 Z Z Z Z Z ?_; refine B1 hf fun x1 h1 hf=>W 3 Z (CL Z (xq _ f1 Wm f1C f1P @f1H h1 ?_)); cases hf; exact N 2 Z (Y Z h)
theorem Oq (oZ:Str) {r0:Bool} (hf:j6 oZ=some r0) (h:Q (.ret (.bool r0)) τ):PC 255 [.str oZ] τ Q:=by
 unfold j6 at hf; refine BN 11 [.tmp 2] [0] Tryz.func255 Z Z Z Z Z (W 2 Z (AS Z (AO.cB Z Z Z Z d9 Z (U 2 Z (AR.or 4 6 10 [] (x:=(decide (64 < (oZ.length:Int)))) Z Z (fun h1=>?_) (fun h1=>?_) ?_)))))
 · refine Is 6 h1 Z (U 1 Z (GO Z (AO.cB Z Z Z Z d9 Z ?_))); exact dY 2 Z (En [10] Z)
 · refine Is 6 h1 Z ?_; exact dY 4 Z (En [10] Z)
 cases hf; exact N 1 Z (Y Z h)
theorem Sd (e1:ak) {r0:Bool} (hf:yM e1=some r0) (h:Q (.ret (.bool r0)) τ):PC 205 [.agg (bf e1)] τ Q:=by
 unfold yM at hf; refine BN 23 [.tmp 2] [0] Tryz.func205 Z Z Z Z Z (V 5 Z (C hf Z (fun h1 hf=>?_) fun h1 hf=>?_))
 · refine W 2 Z (AS Z (AO.aM (l:=e1.keys) Z Z Z Z fE Z Z ?_)); cases hf; exact N 2 Z (Y Z h)
 refine W 2 Z (AS Z (AO.aM (l:=e1.keys) Z Z Z Z fE Z Z (U 2 Z (AS Z (AO.aM (l:=e1.args) Z Z Z Z g_ Z (ak.aA _) ?_))))); refine BR hf fun b1 h3 hf=>?_; refine U 2 Z (AR.cZ 5 17 22 true [] b1 Z Z (fun h2=>?_) (fun h2=>?_) ?_)
 · refine IT 17 h2 h3 Z fun h3=>?_; refine B1 h3 fun x1 h4 h3=>U 2 Z (GO Z (AO.call Z _ Z Z ajn (vK _ j6 255 [] ajm (fun _ _ hz=>Oq _  hz) h4 ?_))); cases h3; exact dY 2 Z (En [22] Z)
 · refine IF 17 h2 h3 Z fun h3=>?_; cases h3; exact dY 5 Z (En [22] Z)
 cases hf; exact N 1 Z (Y Z h)
theorem Vr {β:Type} (l:Nat) (T:β→List bg) (go:β→ah→Int→Option (Bool × β))
  (goH:∀ s1 v1 bE b s2,go s1 v1 bE=some (b,s2)→∀ {Q:eD→List bg→Prop},Q (.ret (.bool b)) (T s2)→PC 226 [.agg (aL v1),iP bE,.val (.func (.yield l) #[] #[])] (T s1) Q)
  (y:β→Int→ah→Option (Bool × β)) (hy:∀ s1 bE v1 b s2,y s1 bE v1=some (b,s2)→AY Tryz.prog l [iP bE,.agg (aL v1)] (T s1) (fun out σ'=>out=.ret (.bool b)∧σ'=T s2))
  (s1:β) (v1:ah) (bE:Int) {b:Bool} {s2:β} (hf:uV go y s1 v1 bE=some (b,s2)) {Q:eD→List bg→Prop} (h:Q (.ret (.bool b)) (T s2)):
  PC 226 [.agg (aL v1),iP bE,.val (.func (.yield l) #[] #[])] (T s1) Q:=by
 unfold uV at hf; refine AC.vB 28 [.tmp 6] [0,1,2] Tryz.func226 Z Z Z Z Z (AW.sr (AR.step Z Z Z (AO.Kj Z Z Z (cs 1 Z ?_)))); refine AR.nil [1,2,3] Z (AW.seq (AW.seq (AW.ahe ?_))); refine ARI.step Z Z Z Z (AO.calc' Z (ARI.step Z Z Z Z (AO.calc' Z (ARI.step Z Z Z Z (AO.Rf Z Z o8 Z ?_))))); obtain ⟨b1,s3,h1,hf⟩:=bK hf; refine ARI.yield Z Z Z Z Z _ Z Z (hy _ _ _ _ _ h1) (ARI.of Z (cs 1 Z (AR.nil [1,2,3,13] Z ?_))); refine AW.cond Z (fun h2=>?_) (fun h2=>?_)
 · replace hf:=jN h2 hf; refine AW.sr (cs 1 Z (AR.nil [6] Z (AW.ret ?_))); cases hf; exact ⟨rfl,_,⟨_,_,rfl,rfl,rfl⟩,_,List.Sublist.refl _,h⟩
 replace hf:=jA h2 hf; refine AW.skip (AW.seq (AW.sr (cs 2 Z ?_))); refine AR.step Z Z Z (AO.aM (l:=v1.aI) Z Z Z Z fB Z ((ah.aA _)) (cs 1 Z (AR.nil [1,2,15,16,17] Z (AW.block ?_)))); refine AW.aj0 (fun (_:β) i1=>[(1,iP bE),(2,.val (.func (.yield l) #[] #[])),(15,.list (ah.aT v1.aI)),(16,iP (v1.aI.length:Int)),(17,iP i1)]) (fun s1 _=>T s1) (fun bP s1 i1=>kM go v1 bE bP s1 i1=some (b,s2)) BIG s3 0 Z Z hf (fun _ _ hz=>bG hz) ?_; intro bP s4 i1 hf; rw [kM] at hf; refine AW.sr (cs 1 Z (AR.nil [1,2,15,16,17,18] Z (AW.seq ?_))); refine AW.cond Z (fun h1=>?_) (fun h1=>?_)
 ·
  replace hf:=jN h1 hf; refine AW.skip (AW.seq (AW.block (AW.sr ?_))); refine B1 hf fun x1 h3 hf=>AR.step Z Z Z (AO.aJ h3 Z Z ((ah.aA _)) Z fB ((ah.aC _)) Z (cs 1 Z (AR.step Z Z Z (AO.aF Z gV (fun b8=>(AR.bQ Z Z (AO.cO (i:=0) Z Z Z o8 Z Z Z Z Z ?_))))))); refine AR.nil [1,2,8,15,16,17] Z (AW.sr (AR.step Z Z Z (AO.aP (i:=0) Z Z Z o8 Z Z (cs 3 Z ?_)))); obtain ⟨b2,s5,h4,hf⟩:=bK hf; refine AR.drop1 (AR.step Z Z Z (AO.call Z _ Z Z ajs (goH _ _ _ _ _ h4 (cs 1 Z (AR.nil [1,2,15,16,17,26] Z ?_))))); refine AW.cond Z (fun h5=>?_) (fun h5=>?_)
  · replace hf:=jN h5 hf; refine AW.sr (cs 1 Z (AR.nil [6] Z (AW.ret ?_))); cases hf; exact ⟨rfl,_,⟨_,_,rfl,rfl,rfl⟩,_,List.Sublist.refl _,h⟩
  replace hf:=jA h5 hf; refine AW.skip (AW.region (cs 2 Z (AR.nil [1,2,15,16,17] Z ?_))); exact ⟨s5,(bW (i1 + 1)),Z,Z,Z,hf⟩
 replace hf:=jA h1 hf; refine AW.exit (AW.sr (cs 1 Z (AR.nil [6] Z ?_))); refine AW.ret ?_; cases hf; exact ⟨rfl,_,⟨_,_,rfl,rfl,rfl⟩,_,List.Sublist.refl _,h⟩
theorem MR {β:Type} (l:Nat) (T:β→List bg) (y:β→Int→ah→Option (Bool × β)) (hy:∀ s1 bE v1 b s2,y s1 bE v1=some (b,s2)→AY Tryz.prog l [iP bE,.agg (aL v1)] (T s1) (fun out σ'=>out=.ret (.bool b)∧σ'=T s2)):
  ∀ (k:Nat) (s1:β) (v1:ah) (bE:Int) (b:Bool) (s2:β),fQ y k s1 v1 bE=some (b,s2)→∀ {Q:eD→List bg→Prop},Q (.ret (.bool b)) (T s2)→PC 226 [.agg (aL v1),iP bE,.val (.func (.yield l) #[] #[])] (T s1) Q
 | 0,_,_,_,_,_,hz=>by cases hz
 | k + 1,s1,v1,bE,b,s2,hz=>fun h=>Vr l T (fQ y k) (fun s1 v1 bE b s2 hz=>MR l T y hy k s1 v1 bE b s2 hz) y hy s1 v1 bE hz h
theorem Hz {β:Type} (l:Nat) (T:β→List bg) (y:β→Int→ah→Option (Bool × β)) (hy:∀ s1 bE v1 b s2,y s1 bE v1=some (b,s2)→AY Tryz.prog l [iP bE,.agg (aL v1)] (T s1) (fun out σ'=>out=.ret (.bool b)∧σ'=T s2))
    (s1:β) (v1:ah) (bE:Int) {b:Bool} {s2:β} (hf:CW y s1 v1 bE=some (b,s2)) {Q:eD→List bg→Prop} (h:Q (.ret (.tuple [])) (T s2)):
    PC 225 [.val (.func (.yield l) #[] #[]),.ref (aL v1),.ref [iP bE]] (T s1) Q:=by
 refine BD 8 [] [0,1,2] Tryz.func225 Z Z Z Z Z (W 3 Z (CL Z (MR l T y hy BIG _ _ _ _ _ hf ?_))); exact N 0 rfl ⟨rfl,_,rfl,_,List.Sublist.refl _,h⟩
theorem KM (v1:ah) (bE:Int) (h:Q (.ret (.fn 225 [.ref (aL v1),.ref [iP bE]])) τ):PC 173 [.agg (aL v1),iP bE] τ Q:=by
 refine BN 6 [.tmp 4] [0,1] Tryz.func173 Z Z Z Z Z ?_; exact M 5 Z (Y Z h)
theorem R5 (v1:ah) {r0:Bool} (hf:BU v1=some r0) (h:Q (.ret (.bool r0)) τ):PC 227 [.agg (aL v1)] τ Q:=by
 unfold BU at hf; refine BN 58 [.tmp 2] [0] Tryz.func227 Z Z Z Z Z (W 6 Z (On 4 6 10 [1] (!v1.dM) Z Z Z Z (U 1 Z (AR.and 9 11 20 [1] (x:=((v1.kind == 2) || (v1.dO == 0))) Z Z (fun h2=>?_) (fun h2=>?_) ?_))))
 · refine Is 11 h2 Z (U 4 Z (On 4 15 19 [1,11] (v1.dO == 0) Z Z Z Z ?_)); exact dY 1 Z (En [20,1] Z)
 · refine Is 11 h2 Z ?_; exact dY 9 Z (En [20,1] Z)
 refine U 1 Z (AR.and 9 21 30 [1] (x:=((v1.kind == 3) || (v1.bO == ([]:Str)))) Z Z (fun h4=>?_) (fun h4=>?_) ?_)
 · refine Is 21 h4 Z (U 4 Z (On 4 25 29 [1,21] (v1.bO == ([]:Str)) Z Z Z Z ?_)); exact dY 1 Z (En [30,1] Z)
 · refine Is 21 h4 Z ?_; exact dY 9 Z (En [30,1] Z)
 refine U 1 Z (AR.and 15 31 46 [1] (x:=(((v1.kind == 4) || (v1.kind == 5)) || ((v1.aI.length:Int) == 0))) Z Z (fun h6=>?_) (fun h6=>?_) ?_)
 ·
  refine Is 31 h6 Z (U 4 Z (On 4 35 39 [1,31] (v1.kind == 5) Z Z Z Z (U 1 Z (AR.or 5 40 45 [1,31] (x:=((v1.aI.length:Int) == 0)) Z Z (fun h8=>?_) (fun h8=>?_) ?_))))
  · refine Is 40 h8 Z (U 2 Z (GO Z (AO.aM (l:=v1.aI) Z Z Z Z fB Z (ah.aA _) ?_))); exact dY 2 Z (En [45,1,31] Z)
  · refine Is 40 h8 Z ?_; exact dY 5 Z (En [45,1,31] Z)
  exact dY 1 Z (En [46,1] Z)
 · refine Is 31 h6 Z ?_; exact dY 15 Z (En [46,1] Z)
 refine U 1 Z (AR.and 10 47 57 [] (x:=((v1.kind == 5) || ((v1.keys.length:Int) == 0))) Z Z (fun h9=>?_) (fun h9=>?_) ?_)
 ·
  refine Is 47 h9 Z (U 4 Z (AR.or 5 51 56 [47] (x:=((v1.keys.length:Int) == 0)) Z Z (fun h10=>?_) (fun h10=>?_) ?_))
  · refine Is 51 h10 Z (U 2 Z (GO Z (AO.aM (l:=v1.keys) Z Z Z Z fE Z Z ?_))); exact dY 2 Z (En [56,47] Z)
  · refine Is 51 h10 Z ?_; exact dY 5 Z (En [56,47] Z)
  exact dY 1 Z (En [57] Z)
 · refine Is 47 h9 Z ?_; exact dY 10 Z (En [57] Z)
 cases hf; exact N 1 Z (Y Z h)
theorem TY (c1:UInt8) {r0:Bool} (hf:Eu c1=some r0) (h:Q (.ret (.bool r0)) τ):PC 318 [.int .u8 (c1.toNat:Int)] τ Q:=by
 unfold Eu at hf; refine BN 9 [.tmp 2] [0] Tryz.func318 Z Z Z Z Z (W 4 Z (An 3 5 8 [] (decide ((c1.toNat:Int)≤57)) Z Z Z Z ?_)); cases hf; exact N 1 Z (Y Z h)
theorem O5 (s1:Str) {r0:Int} (hf:CR s1=some r0) (h:Q (.ret (iP r0)) τ):PC 282 [.str s1] τ Q:=by
 unfold CR at hf; refine BN 17 [.tmp 2] [0] Tryz.func282 Z Z Z Z Z (V 2 Z (E_ (fun n1=>[(0,.str s1),(3,iP n1)]) (fun n1=>[]) (fun bP n1=>yZ s1 bP n1=some r0) BIG 0 Z Z hf (fun _ hz=>bG hz) ?_)); intro bP n1 hf; rw [yZ] at hf; refine W 2 Z (AS Z (AO.cB Z Z Z Z d9 Z ?_)); refine B1 hf fun b1 h2 hf=>U 2 Z (AR.cZ 5 8 13 true [0,3] b1 Z Z (fun h1=>?_) (fun h1=>?_) ?_)
 · refine IT 8 h1 h2 Z fun h2=>?_; refine B1 h2 fun x1 h3 h2=>U 2 Z (GO Z (AO.gM h3 Z d9 Z Z ?_)); refine BR h2 fun x2 h4 h2=>?_; refine GO Z (AO.call Z _ Z Z ajf (TY _ h4 ?_)); cases h2; exact dY 1 Z (En [13,0,3] Z)
 · refine IF 8 h1 h2 Z fun h2=>?_; cases h2; exact dY 5 Z (En [13,0,3] Z)
 refine J 0 Z (C hf Z (fun h5 hf=>?_) fun h5 hf=>?_)
 · exact M 3 Z ⟨(bW (n1 + 1)),Z,Z,Z,hf⟩
 cases hf; exact M 2 Z (Y Z h)
theorem G5 (s1:Str) (c1:UInt8) {r0:Str} (hf:strings_trimLeftByte s1 c1=some r0) (h:Q (.ret (.str r0)) τ):PC 347 [.str s1,.int .u8 (c1.toNat:Int)] τ Q:=by
 unfold strings_trimLeftByte at hf; refine BN 17 [.tmp 4] [0,1] Tryz.func347 Z Z Z Z Z (V 1 Z (E_ (fun s2=>[(0,.str s2),(1,.int .u8 (c1.toNat:Int))]) (fun s2=>[]) (fun bP s2=>gY c1 bP s2=some r0) BIG s1 Z Z hf (fun _ hz=>bG hz) ?_)); intro bP s2 hf; rw [gY] at hf; refine W 1 Z (AS Z (AO.cB Z Z Z Z d9 Z ?_)); refine B1 hf fun b1 h2 hf=>U 2 Z (AR.cZ 5 8 13 true [0,1] b1 Z Z (fun h1=>?_) (fun h1=>?_) ?_)
 · refine IT 8 h1 h2 Z fun h2=>?_; refine B1 h2 fun x1 h3 h2=>U 1 Z (GO Z (AO.gM h3 Z d9 Z Z ?_)); cases h2; exact dY 3 Z (En [13,0,1] Z)
 · refine IF 8 h1 h2 Z fun h2=>?_; cases h2; exact dY 5 Z (En [13,0,1] Z)
 refine J 0 Z (C hf Z (fun h4 hf=>?_) fun h4 hf=>?_)
 · refine B1 hf fun s3 h5 hf=>W 1 Z (AS Z (AO.wS h5 Z d9 Z ⟨_,Z⟩ Z ?_)); exact N 1 Z ⟨s3,Z,Z,Z,hf⟩
 cases hf; exact M 2 Z (Y Z h)
theorem DF (s1:Str) (EB:Str) {r0:Str} (hf:oC s1 EB=some r0) (h:Q (.ret (.str r0)) τ):PC 319 [.str s1,.str EB] τ Q:=by
 unfold oC at hf; refine BN 37 [.tmp 4] [0,1] Tryz.func319 Z Z Z Z Z (W 4 Z (On 3 9 12 [0,1] (EB == ([]:Str)) Z Z Z Z (J 0 Z (C hf Z (fun h2 hf=>?_) fun h2 hf=>?_))))
 · cases hf; exact M 2 Z (Y Z h)
 refine W 1 Z (AS Z (AO.cB Z Z Z Z d9 Z ?_)); refine B1 hf fun b1 h4 hf=>U 2 Z (AR.cZ 4 17 21 true [0,1] b1 Z Z (fun h3=>?_) (fun h3=>?_) ?_)
 · refine IT 17 h3 h4 Z fun h4=>?_; refine B1 h4 fun x1 h5 h4=>U 1 Z (GO Z (AO.gM h5 Z d9 Z Z ?_)); cases h4; exact dY 2 Z (En [21,0,1] Z)
 · refine IF 17 h3 h4 Z fun h4=>?_; cases h4; exact dY 4 Z (En [21,0,1] Z)
 refine J 0 Z (C hf Z (fun h6 hf=>?_) fun h6 hf=>?_)
 · refine B1 hf fun x2 h7 hf=>W 2 Z (AS Z (AO.gM h7 Z d9 Z Z ?_)); refine BR hf fun x3 h8 hf=>?_; refine CL Z (G5 _ _ h8 ?_); cases hf; exact N 1 Z (Y Z h)
 exact bG hf
theorem H7 (x1:Int) {r0:Bool} (hf:cmp_isNaN_int x1=some r0) (h:Q (.ret (.bool r0)) τ):PC 304 [iP x1] τ Q:=by
 unfold cmp_isNaN_int at hf; refine BN 6 [.tmp 2] [0] Tryz.func304 Z Z Z Z Z ?_; cases hf; exact M 5 Z (Y Z h)
theorem nD (x1:Int) (y1:Int) {r0:Int} (hf:cmp_Compare_int x1 y1=some r0) (h:Q (.ret (iP r0)) τ):PC 269 [iP x1,iP y1] τ Q:=by
 unfold cmp_Compare_int at hf; refine BN 20 [.tmp 4] [0,1] Tryz.func269 Z Z Z Z Z ?_; refine B1 hf fun OH h1 hf=>W 2 Z (CL Z (H7 _ h1 ?_)); refine B1 hf fun Ip h2 hf=>U 2 Z (CL Z (H7 _ h2 (J 2 Z (C hf Z (fun h3 hf=>?_) fun h3 hf=>?_))))
 ·
  refine V 1 Z (C hf Z (fun h4 hf=>?_) fun h4 hf=>?_)
  · cases hf; exact M 1 Z (Y Z h)
  cases hf; exact M 1 Z (Y Z h)
 refine V 1 Z (C hf Z (fun h5 hf=>?_) fun h5 hf=>?_)
 · cases hf; exact M 1 Z (Y Z h)
 refine V 3 Z (C hf Z (fun h6 hf=>?_) fun h6 hf=>?_)
 · cases hf; exact M 1 Z (Y Z h)
 refine V 3 Z (C hf Z (fun h7 hf=>?_) fun h7 hf=>?_)
 · cases hf; exact M 1 Z (Y Z h)
 cases hf; exact M 1 Z (Y Z h)
theorem DR (x1:Str) {r0:Bool} (hf:cmp_isNaN_string x1=some r0) (h:Q (.ret (.bool r0)) τ):PC 305 [.str x1] τ Q:=by
 unfold cmp_isNaN_string at hf; refine BN 6 [.tmp 2] [0] Tryz.func305 Z Z Z Z Z ?_; cases hf; exact M 5 Z (Y Z h)
theorem Bv (x1:Str) (y1:Str) {r0:Int} (hf:mq x1 y1=some r0) (h:Q (.ret (iP r0)) τ):PC 271 [.str x1,.str y1] τ Q:=by
 unfold mq at hf; refine BN 20 [.tmp 4] [0,1] Tryz.func271 Z Z Z Z Z ?_; refine B1 hf fun OH h1 hf=>W 2 Z (CL Z (DR _ h1 ?_)); refine B1 hf fun Ip h2 hf=>U 2 Z (CL Z (DR _ h2 (J 2 Z (C hf Z (fun h3 hf=>?_) fun h3 hf=>?_))))
 ·
  refine V 1 Z (C hf Z (fun h4 hf=>?_) fun h4 hf=>?_)
  · cases hf; exact M 1 Z (Y Z h)
  cases hf; exact M 1 Z (Y Z h)
 refine V 1 Z (C hf Z (fun h5 hf=>?_) fun h5 hf=>?_)
 · cases hf; exact M 1 Z (Y Z h)
 refine V 3 Z (C hf Z (fun h6 hf=>?_) fun h6 hf=>?_)
 · cases hf; exact M 1 Z (Y Z h)
 refine V 3 Z (C hf Z (fun h7 hf=>?_) fun h7 hf=>?_)
 · cases hf; exact M 1 Z (Y Z h)
 cases hf; exact M 1 Z (Y Z h)
theorem WT (Ho:List Int) {r0:Int} (hf:Dz Ho=some r0) (h:Q (.ret (iP r0)) τ):PC 320 [.list (List.map FQ Ho)] τ Q:=by
 unfold Dz at hf; refine BN 18 [.tmp 2] [0] Tryz.func320 Z Z Z Z Z (W 3 Z (AS Z (AO.aM (l:=Ho) Z Z Z Z Ju Z Z (J 1 Z (E_ (fun x1=>[(3,iP 0),(6,.list (List.map FQ Ho)),(7,iP (Ho.length:Int)),(8,iP x1)]) (fun x1=>[]) (fun bP x1=>wG Ho bP x1=some r0) BIG 0 Z Z hf (fun _ hz=>bG hz) ?_))))); intro bP x1 hf; rw [wG] at hf; refine V 1 Z (C hf Z (fun h1 hf=>?_) fun h1 hf=>?_)
 ·
  refine B1 hf fun acp h2 hf=>W 0 Z (AS Z (AO.aJ h2 Z Z Z Z Ju Z Z (J 5 Z (C hf Z (fun h3 hf=>?_) fun h3 hf=>?_))))
  · cases hf; exact M 2 Z (Y Z h)
  exact M 2 Z ⟨(bW (x1 + 1)),Z,Z,Z,hf⟩
 cases hf; exact M 2 Z (Y Z h)
theorem PN (a1:Str) (b1:Str) {r0:Int} (hf:wD a1 b1=some r0) (h:Q (.ret (iP r0)) τ):PC 283 [.str a1,.str b1] τ Q:=by
 unfold wD at hf; refine BN 26 [.tmp 4] [0,1] Tryz.func283 Z Z Z Z Z ?_; refine B1 hf fun x1 h1 hf=>W 2 Z (CL Z (DF _ _ h1 ?_)); refine B1 hf fun y1 h2 hf=>U 1 Z (CL Z (DF _ _ h2 (U 3 Z (AS Z (AO.cB Z Z Z Z d9 Z (U 1 Z (AS Z (AO.cB Z Z Z Z d9 Z ?_)))))))); refine B1 hf fun x2 h3 hf=>CL Z (nD _ _ h3 ?_); refine B1 hf fun x3 h4 hf=>U 2 Z (CL Z (Bv _ _ h4 (U 1 Z (AS Z (AO.cB Z Z Z Z d9 Z (U 1 Z (AS Z (AO.cB Z Z Z Z d9 Z ?_)))))))); refine B1 hf fun x4 h5 hf=>CL Z (nD _ _ h5 (AS Z (AO.aX (List.map FQ ([x2,x3,x4]:List Int)) Z aeA Z Z Z Z ?_))); refine BR hf fun x5 h6 hf=>?_; refine CL Z (WT _ h6 ?_); cases hf; exact N 1 Z (Y Z h)
theorem Gf (x1:UInt8) {r0:Bool} (hf:uE x1=some r0) (h:Q (.ret (.bool r0)) τ):PC 321 [.int .u8 (x1.toNat:Int)] τ Q:=by
 unfold uE at hf; refine BN 6 [.tmp 2] [0] Tryz.func321 Z Z Z Z Z ?_; cases hf; exact M 5 Z (Y Z h)
theorem LV (x1:UInt8) (y1:UInt8) {r0:Int} (hf:qX x1 y1=some r0) (h:Q (.ret (iP r0)) τ):PC 284 [.int .u8 (x1.toNat:Int),.int .u8 (y1.toNat:Int)] τ Q:=by
 unfold qX at hf; refine BN 20 [.tmp 4] [0,1] Tryz.func284 Z Z Z Z Z ?_; refine B1 hf fun OH h1 hf=>W 2 Z (CL Z (Gf _ h1 ?_)); refine B1 hf fun Ip h2 hf=>U 2 Z (CL Z (Gf _ h2 (J 2 Z (C hf Z (fun h3 hf=>?_) fun h3 hf=>?_))))
 ·
  refine V 1 Z (C hf Z (fun h4 hf=>?_) fun h4 hf=>?_)
  · cases hf; exact M 1 Z (Y Z h)
  cases hf; exact M 1 Z (Y Z h)
 refine V 1 Z (C hf Z (fun h5 hf=>?_) fun h5 hf=>?_)
 · cases hf; exact M 1 Z (Y Z h)
 refine V 3 Z (C hf Z (fun h6 hf=>?_) fun h6 hf=>?_)
 · cases hf; exact M 1 Z (Y Z h)
 refine V 3 Z (C hf Z (fun h7 hf=>?_) fun h7 hf=>?_)
 · cases hf; exact M 1 Z (Y Z h)
 cases hf; exact M 1 Z (Y Z h)
theorem BP (a1:Str) (b1:Str) {r0:Int} (hf:iW a1 b1=some r0) (h:Q (.ret (iP r0)) τ):PC 248 [.str a1,.str b1] τ Q:=by
 unfold iW at hf; refine BN 59 [.tmp 4] [0,1] Tryz.func248 Z Z Z Z Z (V 1 Z (Zn (fun a2 b2=>[(0,.str a2),(1,.str b2)]) (fun a2 b2=>[]) (fun bP a2 b2=>jQ bP a2 b2=some r0) BIG a1 b1 Z Z hf (fun _ _ hz=>bG hz) ?_)); intro bP a2 b2 hf; rw [jQ] at hf; refine W 3 Z (An 3 10 13 [0,1] (!(b2 == ([]:Str))) Z Z Z Z (J 0 Z (C hf Z (fun h2 hf=>?_) fun h2 hf=>?_)))
 ·
  refine B1 hf fun n1 h3 hf=>W 1 Z (CL Z (O5 _ h3 ?_)); refine B1 hf fun m1 h4 hf=>U 1 Z (CL Z (O5 _ h4 (U 5 Z (An 3 20 23 [0,1,5,6] (decide (0 < m1)) Z Z Z Z (J 0 Z (C hf Z (fun h6 hf=>?_) fun h6 hf=>?_))))))
  ·
   refine V 0 Z (AW.draw 8 mixed (by kernel_rfl) Z ?_); refine Ev.cs aH 2 Z ?_; refine B1 hf fun x1 h7 hf=>Ev.cons Z Z Z (AO.wS h7 Z d9 Z Z ⟨_,Z⟩ zg) (Ev.cs aH 2 Z ?_); refine B1 hf fun x2 h8 hf=>Ev.cons Z Z Z (AO.wS h8 Z d9 Z Z ⟨_,Z⟩ zg) ?_; refine B1 hf fun c1 h9 hf=>Ev.cons Z Z Z (AO.call Z _ Z Z ajh (PN _ _ h9 zg)) (Ev.cs aH 1 Z (Ev.nil ?_)); show AR _ _ _ _ _ _ _ _; refine J 2 Z (C hf Z (fun h10 hf=>?_) fun h10 hf=>?_)
   · cases hf; exact M 2 Z (Y Z h)
   refine V 0 Z (AW.draw 8 mixed (by kernel_rfl) Z ?_); refine Ev.cs aH 2 Z ?_; refine B1 hf fun a3 h11 hf=>Ev.cons Z Z Z (AO.wS h11 Z d9 Z ⟨_,Z⟩ Z zg) (Ev.cs aH 2 Z ?_); refine B1 hf fun b3 h12 hf=>Ev.cons Z Z Z (AO.wS h12 Z d9 Z ⟨_,Z⟩ Z zg) (Ev.cs aH 2 Z (Ev.nil ?_)); show AR _ _ _ _ _ _ _ _; exact N 0 Z ⟨a3,b3,Z,Z,Z,hf⟩
  refine V 0 Z (AW.draw 5 mixed (by kernel_rfl) Z ?_); refine Ev.cs aH 1 Z ?_; refine B1 hf fun x3 kQ hf=>Ev.cons Z Z Z (AO.gM kQ Z d9 Z Z zg) (Ev.cs aH 1 Z ?_); refine B1 hf fun x4 lQ hf=>Ev.cons Z Z Z (AO.gM lQ Z d9 Z Z zg) (Ev.cs aH 1 Z (Ev.nil ?_)); show AR _ _ _ _ _ _ _ _; refine J 0 Z (C hf Z (fun ng hf=>?_) fun ng hf=>?_)
  ·
   refine V 0 Z (AW.draw 6 mixed (by kernel_rfl) Z ?_); refine Ev.cs aH 1 Z ?_; refine B1 hf fun x5 h16 hf=>Ev.cons Z Z Z (AO.gM h16 Z d9 Z Z zg) (Ev.cs aH 1 Z ?_); refine B1 hf fun x6 vG hf=>Ev.cons Z Z Z (AO.gM vG Z d9 Z Z zg) ?_; refine BR hf fun x7 h18 hf=>?_; refine Ev.cons Z Z Z (AO.call Z _ Z Z ajg (LV _ _ h18 zg)) (Ev.cs aH 1 Z (Ev.nil ?_)); show AR _ _ _ _ _ _ _ _; cases hf; exact N 0 Z (Y Z h)
  refine V 0 Z (AW.draw 6 mixed (by kernel_rfl) Z ?_); refine Ev.cs aH 1 Z ?_; refine B1 hf fun a4 h19 hf=>Ev.cons Z Z Z (AO.wS h19 Z d9 Z ⟨_,Z⟩ Z zg) (Ev.cs aH 1 Z ?_); refine B1 hf fun b4 h20 hf=>Ev.cons Z Z Z (AO.wS h20 Z d9 Z ⟨_,Z⟩ Z zg) (Ev.cs aH 2 Z (Ev.nil ?_)); show AR _ _ _ _ _ _ _ _; exact N 0 Z ⟨a4,b4,Z,Z,Z,hf⟩
 refine W 1 Z (AS Z (AO.cB Z Z Z Z d9 Z (U 1 Z (AS Z (AO.cB Z Z Z Z d9 Z ?_))))); refine BR hf fun x8 h21 hf=>?_; refine CL Z (nD _ _ h21 ?_); cases hf; exact N 1 Z (Y Z h)
theorem TH (v1:ah) {r0:Bool} (hf:AB v1=some r0) (h:Q (.ret (.bool r0)) τ):PC 228 [.agg (aL v1)] τ Q:=by
 unfold AB at hf; refine BN 44 [.tmp 2] [0] Tryz.func228 Z Z Z Z Z (W 4 Z (AS Z (AO.aM (l:=v1.keys) Z Z Z Z fE Z Z (U 2 Z (AS Z (AO.aM (l:=v1.aI) Z Z Z Z fB Z (ah.aA _) (J 1 Z (C hf Z (fun h1 hf=>?_) fun h1 hf=>?_))))))))
 · cases hf; exact M 1 Z (Y Z h)
 refine W 2 Z (AS Z (AO.aM (l:=v1.keys) Z Z Z Z fE Z Z (J 1 Z (E_ (fun i1=>[(1,.ref (aL v1)),(13,sP v1.keys),(14,iP (v1.keys.length:Int)),(15,iP i1)]) (fun i1=>[]) (fun bP i1=>qL v1 bP i1=some r0) BIG 0 Z Z hf (fun _ hz=>bG hz) ?_)))); intro bP i1 hf; rw [qL] at hf; refine V 1 Z (C hf Z (fun h2 hf=>?_) fun h2 hf=>?_)
 ·
  refine B1 hf fun oZ h3 hf=>W 1 Z (AS Z (AO.aJ h3 Z Z Z Z fE Z Z (U 4 Z (AS Z (AO.cB Z Z Z Z d9 Z (U 2 Z (AR.or 4 23 27 [1,3,4,13,14,15] (x:=(decide (64 < (oZ.length:Int)))) Z Z (fun h4=>?_) (fun h4=>?_) ?_)))))))
  · refine Is 23 h4 Z (U 1 Z (GO Z (AO.cB Z Z Z Z d9 Z ?_))); exact dY 2 Z (En [27,1,3,4,13,14,15] Z)
  · refine Is 23 h4 Z ?_; exact dY 4 Z (En [27,1,3,4,13,14,15] Z)
  refine B1 hf fun b1 h6 hf=>U 1 Z (AR.cZ 14 28 42 false [1,13,14,15] b1 Z Z (fun h5=>?_) (fun h5=>?_) ?_)
  ·
   refine IF 28 h5 h6 Z fun h6=>?_; refine BR h6 fun b2 h8 h6=>?_; refine U 3 Z (AR.cZ 10 31 41 true [1,13,14,15,28] b2 Z Z (fun h7=>?_) (fun h7=>?_) ?_)
   · refine IT 31 h7 h8 Z fun h8=>?_; refine B1 h8 fun e1 h9 h8=>U 4 Z (GO Z (AO.aJ h9 Z Z Z Z fE Z Z ?_)); refine B1 h8 fun x1 h10 h8=>U 2 Z (GO Z (AO.call Z _ Z Z aeM (BP _ _ h10 ?_))); cases h8; exact dY 2 Z (En [41,1,13,14,15,28] Z)
   · refine IF 31 h7 h8 Z fun h8=>?_; cases h8; exact dY 10 Z (En [41,1,13,14,15,28] Z)
   cases h6; exact dY 1 Z (En [42,1,13,14,15] Z)
  · refine IT 28 h5 h6 Z fun h6=>?_; cases h6; exact dY 14 Z (En [42,1,13,14,15] Z)
  refine J 0 Z (C hf Z (fun h11 hf=>?_) fun h11 hf=>?_)
  · cases hf; exact M 1 Z (Y Z h)
  exact M 2 Z ⟨(bW (i1 + 1)),Z,Z,Z,hf⟩
 cases hf; exact M 1 Z (Y Z h)
theorem WH (v1:ah) (bE:Int) {r0:Int} (hf:CX v1 bE=some r0) (h:Q (.ret (iP r0)) τ):PC 174 [.agg (aL v1),iP bE] τ Q:=by
 unfold CX at hf; refine BN 78 [.tmp 4] [0,1] Tryz.func174 Z Z Z Z Z (W 6 Z (On 4 9 13 [1,2] (v1.kind == 5) Z Z Z Z (J 4 Z (C hf Z (fun h2 hf=>?_) fun h2 hf=>?_))))
 · cases hf; exact M 1 Z (Y Z h)
 refine W 4 Z (On 4 21 25 [1,2,5] (decide (5 < v1.kind)) Z Z Z Z ?_); refine B1 hf fun b1 h5 hf=>U 1 Z (AR.cZ 4 26 30 false [1,2,5] b1 Z Z (fun h4=>?_) (fun h4=>?_) ?_)
 · refine IF 26 h4 h5 Z fun h5=>?_; refine B1 h5 fun x1 h6 h5=>U 1 Z (GO Z (AO.call Z _ Z Z ajr (R5 _ h6 ?_))); cases h5; exact dY 2 Z (En [30,1,2,5] Z)
 · refine IT 26 h4 h5 Z fun h5=>?_; cases h5; exact dY 4 Z (En [30,1,2,5] Z)
 refine J 1 Z (C hf Z (fun h7 hf=>?_) fun h7 hf=>?_)
 · cases hf; exact M 1 Z (Y Z h)
 refine W 4 Z (On 4 35 39 [1,2,5] (decide (9007199254740992 < v1.dO)) Z Z Z Z (J 1 Z (C hf Z (fun h9 hf=>?_) fun h9 hf=>?_)))
 · cases hf; exact M 1 Z (Y Z h)
 refine W 2 Z (AS Z (AO.cB Z Z Z Z d9 Z (U 2 Z (AR.or 5 45 50 [1,2,5] (x:=(decide (1024 < (v1.aI.length:Int)))) Z Z (fun h10=>?_) (fun h10=>?_) ?_))))
 · refine Is 45 h10 Z (U 2 Z (GO Z (AO.aM (l:=v1.aI) Z Z Z Z fB Z (ah.aA _) ?_))); exact dY 2 Z (En [50,1,2,5] Z)
 · refine Is 45 h10 Z ?_; exact dY 5 Z (En [50,1,2,5] Z)
 refine U 1 Z (AR.or 5 51 56 [1,2,5] (x:=(decide (1024 < (v1.keys.length:Int)))) Z Z (fun h11=>?_) (fun h11=>?_) ?_)
 · refine Is 51 h11 Z (U 2 Z (GO Z (AO.aM (l:=v1.keys) Z Z Z Z fE Z Z ?_))); exact dY 2 Z (En [56,1,2,5] Z)
 · refine Is 51 h11 Z ?_; exact dY 5 Z (En [56,1,2,5] Z)
 refine J 1 Z (C hf Z (fun h12 hf=>?_) fun h12 hf=>?_)
 · cases hf; exact M 1 Z (Y Z h)
 refine B1 hf fun b2 lQ hf=>W 4 Z (AR.cZ 4 61 65 true [1,2,5] b2 Z Z (fun kQ=>?_) (fun kQ=>?_) ?_)
 · refine IT 61 kQ lQ Z fun lQ=>?_; refine B1 lQ fun x2 ng lQ=>U 1 Z (GO Z (AO.call Z _ Z Z ajq (TH _ ng ?_))); cases lQ; exact dY 2 Z (En [65,1,2,5] Z)
 · refine IF 61 kQ lQ Z fun lQ=>?_; cases lQ; exact dY 4 Z (En [65,1,2,5] Z)
 refine J 1 Z (C hf Z (fun h16 hf=>?_) fun h16 hf=>?_)
 · cases hf; exact M 1 Z (Y Z h)
 refine W 2 Z (AR.and 5 68 73 [1] (x:=((v1.aI.length:Int) == 0)) Z Z (fun vG=>?_) (fun vG=>?_) ?_)
 · refine Is 68 vG Z (U 2 Z (GO Z (AO.aM (l:=v1.aI) Z Z Z Z fB Z (ah.aA _) ?_))); exact dY 2 Z (En [73,1] Z)
 · refine Is 68 vG Z ?_; exact dY 5 Z (En [73,1] Z)
 refine U 1 Z (An 3 74 77 [] (bE == 16) Z Z Z Z (J 1 Z (C hf Z (fun h19 hf=>?_) fun h19 hf=>?_)))
 · cases hf; exact M 1 Z (Y Z h)
 cases hf; exact M 1 Z (Y Z h)
theorem qD (v1:ah) {r0:Int} (hf:kH v1=some r0) (h:Q (.ret (iP r0)) τ):PC 114 [.agg (aL v1)] τ Q:=by
 unfold kH at hf; refine AC.none (AC.KE 16 [.cell 2 36] [0] Tryz.func114 Z Z Z Z Z ?_); obtain ⟨b1,s1,h1,hf⟩:=bK hf; cases hf; refine AW.sr (AR.step Z Z Z (AO.Kj Z Z Z (AR.step Z Z Z (AO.aF Z adR (fun b2=>(AR.nil [1,2] Z ?_)))))); refine AW.seq (AW.sr (cs 1 Z (AR.step Z Z Z (AO.call Z _ Z Z aeT (KM _ _ ?_))))); refine AR.nil [2,7] Z (AW.block (AW.rangeFunc (β:=Option Int) (X:=Int × ah) Z aeP (fun x=>[iP x.1,.agg (aL x.2)]) (fun _=>Z) (by decide) (fun s x=>mF s x.1 x.2) (fun s=>[.box b2 [iP (s.getD 0)]]) (fun s=>s.map fun _=>.ret) (s0:=none) (s1:=s1) Z Z ?_ ?_ ?_))
 ·
  intro l T' hy; refine Hz l T' mF (fun s1 bE v1 b s2 hh=>hy s1 (bE,v1) b s2 hh) none v1 1 h1 ⟨⟨_,Z⟩,Z⟩
 ·
  rintro l s ⟨bE,x1⟩ b s2 hh; unfold mF at hh; cases s with
  | some e=>cases hh
  | none=>
  refine ⟨Z,?_⟩; refine B1 hh fun e1 h2 hh=>?_; refine zC.seq (zC.region Z (cs 1 Z (AR.nil [2,3,9] Z ?_))); refine zC.region Z (AR.step Z Z Z (AO.aF Z gV (fun b4=>(AR.bQ Z Z (AO.cO (i:=0) Z Z Z o8 Z Z Z Z Z (AR.nil [2,3,4] Z ?_)))))); refine ⟨Z,(zC.block (zC.seq (zC.region Z ?_)))⟩; refine AR.step Z Z Z (AO.aP (i:=0) Z Z Z o8 Z Z (cs 1 Z (AR.step Z Z Z (AO.call Z _ Z Z ajB (WH _ _ h2 (cs 1 Z ?_)))))); refine AR.nil [2,5] Z (zC.seq (zC.region Z (cs 2 Z ?_))); refine AR.nil [2,5,14] Z (zC.cond Z (fun h3=>?_) (fun h3=>?_))
  ·
   replace hh:=jN h3 hh; cases hh; refine zC.seq (zC.region Z (cs 1 Z (AR.bQ Z Z (AO.cO (i:=1) Z Z Z Ea Z Z Z Z Z ?_)))); refine AR.nil [] Z (zC.ret ?_); exact ⟨Z,.cons _ (List.Sublist.refl _),Z,Z⟩
  ·
   replace hh:=jA h3 hh; cases hh; refine zC.skip ?_; exact ⟨Z,.cons _ (List.Sublist.refl _),Z,Z⟩
 ·
  intro D; cases s1 with
  | some e=>exact ⟨D,_,Z,Z,_,⟨_,_,Z,⟨_,_,0,_,_,Z,Z,Ea,Z⟩,Z⟩,[],List.nil_sublist _,h⟩
  | none=>
   show AW _ _ _ _ _ _ _; refine AW.sr (AR.bQ Z Z (AO.cO (i:=0) Z Z Z Ea Z Z Z Z Z (AR.nil [2] Z (AW.ret ?_)))); exact ⟨D,[_],Z,Z,_,⟨_,_,Z,⟨_,_,0,_,_,Z,Z,Ea,Z⟩,Z⟩,[],List.nil_sublist _,h⟩
theorem Nr (l1:List Str) {r0:Bool} (hf:rY l1=some r0) (h:Q (.ret (.bool r0)) τ):PC 206 [sP l1] τ Q:=by
 unfold rY at hf; refine BN 22 [.tmp 2] [0] Tryz.func206 Z Z Z Z Z (W 1 Z (AS Z (AO.Rb Z (fun m6=>(U 2 Z (AS Z (AO.aM (l:=l1) Z Z Z Z fE Z Z (J 1 Z (Zn (fun x1 y1=>[(3,.val (.map (some m6))),(7,sP l1),(8,iP (l1.length:Int)),(9,iP x1)]) (fun x1 y1=>[.obj m6 (vV y1)]) (fun bP x1 y1=>oK l1 bP x1 y1=some r0) BIG 0 [] Z Z hf (fun _ _ hz=>bG hz) ?_))))))))); intro bP x1 y1 hf; rw [oK] at hf; refine V 1 Z (C hf Z (fun h1 hf=>?_) fun h1 hf=>?_)
 ·
  refine B1 hf fun s1 h2 hf=>W 0 Z (AS Z (AO.aJ h2 Z Z Z Z fE Z Z (U 4 Z (AS Z (AO.Ka (i:=0) (l:=y1) Z Z Z Z GJ d9 acj (U 1 Z (AR.bQ Z Z (AO.Ld (i:=0) (l:=y1) Z Z Z Z Z GJ d9 (U 2 Z (AS Z (AO.Ka (i:=0) (l:=(rz y1 s1 (bW ((nN y1 s1) + 1)))) Z Z Z Z GJ d9 acj ?_))))))))))); refine J 1 Z (C hf Z (fun h3 hf=>?_) fun h3 hf=>?_)
  · cases hf; exact M 1 Z (Y Z h)
  exact M 2 Z ⟨(bW (x1 + 1)),(rz y1 s1 (bW ((nN y1 s1) + 1))),Z,Z,Z,hf⟩
 cases hf; exact M 1 Z (Y Z h)
theorem TT (e1:ak) (bE:Int) {r0:Int} (hf:Ba e1 bE=some r0) (h:Q (.ret (iP r0)) τ):PC 139 [.agg (bf e1),iP bE] τ Q:=by
 unfold Ba at hf; refine BN 65 [.tmp 4] [0,1] Tryz.func139 Z Z Z Z Z (V 5 Z (C hf Z (fun h1 hf=>?_) fun h1 hf=>?_))
 · cases hf; exact M 1 Z (Y Z h)
 refine W 4 Z (On 4 12 16 [2] (decide (10 < e1.kind)) Z Z Z Z ?_); refine B1 hf fun b1 h4 hf=>U 1 Z (AR.cZ 10 17 27 false [2] b1 Z Z (fun h3=>?_) (fun h3=>?_) ?_)
 ·
  refine IF 17 h3 h4 Z fun h4=>?_; refine BR h4 fun b2 h6 h4=>?_; refine U 4 Z (AR.cZ 5 21 26 true [2,17] b2 Z Z (fun h5=>?_) (fun h5=>?_) ?_)
  · refine IT 21 h5 h6 Z fun h6=>?_; refine B1 h6 fun x1 h7 h6=>U 2 Z (GO Z (AO.call Z _ Z Z ajz (TQ _ h7 ?_))); cases h6; exact dY 2 Z (En [26,2,17] Z)
  · refine IF 21 h5 h6 Z fun h6=>?_; cases h6; exact dY 5 Z (En [26,2,17] Z)
  cases h4; exact dY 1 Z (En [27,2] Z)
 · refine IT 17 h3 h4 Z fun h4=>?_; cases h4; exact dY 10 Z (En [27,2] Z)
 refine B1 hf fun b3 h9 hf=>U 1 Z (AR.cZ 4 28 32 false [2] b3 Z Z (fun h8=>?_) (fun h8=>?_) ?_)
 · refine IF 28 h8 h9 Z fun h9=>?_; refine B1 h9 fun x2 h10 h9=>U 1 Z (GO Z (AO.call Z _ Z Z ajy (Sc _ h10 ?_))); cases h9; exact dY 2 Z (En [32,2] Z)
 · refine IT 28 h8 h9 Z fun h9=>?_; cases h9; exact dY 4 Z (En [32,2] Z)
 refine B1 hf fun b4 h12 hf=>U 1 Z (AR.cZ 4 33 37 false [2] b4 Z Z (fun h11=>?_) (fun h11=>?_) ?_)
 · refine IF 33 h11 h12 Z fun h12=>?_; refine B1 h12 fun x3 kQ h12=>U 1 Z (GO Z (AO.call Z _ Z Z ajx (Sg _ kQ ?_))); cases h12; exact dY 2 Z (En [37,2] Z)
 · refine IT 33 h11 h12 Z fun h12=>?_; cases h12; exact dY 4 Z (En [37,2] Z)
 refine B1 hf fun b5 ng hf=>U 1 Z (AR.cZ 4 38 42 false [2] b5 Z Z (fun lQ=>?_) (fun lQ=>?_) ?_)
 · refine IF 38 lQ ng Z fun ng=>?_; refine B1 ng fun x4 h16 ng=>U 1 Z (GO Z (AO.call Z _ Z Z ajw (Sd _ h16 ?_))); cases ng; exact dY 2 Z (En [42,2] Z)
 · refine IT 38 lQ ng Z fun ng=>?_; cases ng; exact dY 4 Z (En [42,2] Z)
 refine J 1 Z (C hf Z (fun vG hf=>?_) fun vG hf=>?_)
 · cases hf; exact M 1 Z (Y Z h)
 refine B1 hf fun b6 h19 hf=>W 4 Z (AR.cZ 5 47 52 true [2] b6 Z Z (fun h18=>?_) (fun h18=>?_) ?_)
 · refine IT 47 h18 h19 Z fun h19=>?_; refine B1 h19 fun x5 h20 h19=>U 2 Z (GO Z (AO.call Z _ Z Z ajJ (qD _ h20 ?_))); cases h19; exact dY 2 Z (En [52,2] Z)
 · refine IF 47 h18 h19 Z fun h19=>?_; cases h19; exact dY 5 Z (En [52,2] Z)
 refine J 1 Z (C hf Z (fun h21 hf=>?_) fun h21 hf=>?_)
 · refine BR hf fun x6 h22 hf=>?_; refine W 2 Z (CL Z (qD _ h22 ?_)); cases hf; exact N 1 Z (Y Z h)
 refine W 2 Z (AS Z (AO.aM (l:=e1.args) Z Z Z Z g_ Z (ak.aA _) (J 2 Z (C hf Z (fun h23 hf=>?_) fun h23 hf=>?_))))
 · cases hf; exact M 1 Z (Y Z h)
 refine B1 hf fun x7 Fb hf=>W 2 Z (CL Z (Nr _ Fb (J 1 Z (C hf Z (fun DV hf=>?_) fun DV hf=>?_))))
 · cases hf; exact M 1 Z (Y Z h)
 cases hf; exact M 1 Z (Y Z h)
abbrev JY (jI:ak→Int→Option Int):Prop:=∀ (iO:ak) (dZ:Int) {aO:Int},jI iO dZ=some aO→∀ {τ:List bg} {Q:eD→List bg→Prop} (h:Q (.ret (iP aO)) τ),PC 83 [.agg (bf iO),iP dZ] τ Q
theorem Qq (jI) (Od:JY jI) (e1:ak) (bE:Int) {r0:Int} (hf:yK jI e1 bE=some r0) (h:Q (.ret (iP r0)) τ):PC 83 [.agg (bf e1),iP bE] τ Q:=by
 unfold yK at hf; refine BN 30 [.tmp 4] [0,1] Tryz.func83 Z Z Z Z Z ?_; refine B1 hf fun f1 h1 hf=>W 4 Z (CL Z (TT _ _ h1 (J 3 Z (C hf Z (fun h2 hf=>?_) fun h2 hf=>?_))))
 · cases hf; exact M 2 Z (Y Z h)
 refine W 2 Z (AS Z (AO.aM (l:=e1.args) Z Z Z Z g_ Z (ak.aA _) (J 1 Z (E_ (fun x1=>[(1,iP bE),(16,.list (ak.aT e1.args)),(17,iP (e1.args.length:Int)),(18,iP x1)]) (fun x1=>[]) (fun bP x1=>rW jI e1 bE bP x1=some r0) BIG 0 Z Z hf (fun _ hz=>bG hz) ?_)))); intro bP x1 hf; rw [rW] at hf; refine V 1 Z (C hf Z (fun h3 hf=>?_) fun h3 hf=>?_)
 ·
  refine B1 hf fun e2 h4 hf=>W 0 Z (AS Z (AO.aJ h4 Z Z (ak.aA _) Z g_ (ak.aC _) Z (U 1 Z (AS Z (AO.aF Z qG (fun b7=>?_)))))); refine B1 hf fun f2 h5 hf=>Rr 4 [0,0] Z Z (CL Z (Od _ _ h5 (J 3 Z (C hf Z (fun h6 hf=>?_) fun h6 hf=>?_))))
  · cases hf; exact M 2 Z (Y Z h)
  refine Wn0 2 Z (AR.drop1 ?_); exact N 0 Z ⟨(bW (x1 + 1)),Z,Z,Z,hf⟩
 cases hf; exact M 1 Z (Y Z h)
theorem Q8 :∀ k:Nat,(JY (kU k)):=by
 intro k
 induction k with
 | zero=>exact fun _ _ _ hz=>by first | cases hz | (unfold kU at hz; cases hz)
 | succ k ih=>exact fun iO dZ aO hz τ Q hq=>Qq (kU k) ih iO dZ hz hq
theorem Sb (iO:ak) (dZ:Int) {aO:Int} (hf:GD iO dZ=some aO) (h:Q (.ret (iP aO)) τ):PC 83 [.agg (bf iO),iP dZ] τ Q:=
 ((Q8 BIG)) iO dZ hf h
theorem uI (e1:ak) {r0:Int} (hf:jh e1=some r0) (h:Q (.ret (iP r0)) τ):PC 56 [.agg (bf e1)] τ Q:=by
 unfold jh at hf; refine BN 8 [.tmp 2] [0] Tryz.func56 Z Z Z Z Z ?_; refine B1 hf fun x1 h1 hf=>W 3 Z (CL Z (Si _ h1 (J 1 Z (C hf Z (fun h2 hf=>?_) fun h2 hf=>?_))))
 · cases hf; exact M 1 Z (Y Z h)
 refine BR hf fun x2 h3 hf=>?_; refine W 1 Z (CL Z (Sb _ _ h3 ?_)); cases hf; exact N 1 Z (Y Z h)
section
variable [Hf]
theorem TU (xC:List aS) {r0:ak} {r1:Int} {r2:Int} (hf:Ja xC=some (r0,r1,r2)) (h:Q (.ret (.tuple [.agg (bf r0),iP r1,iP r2])) τ):PC 44 [.list (List.map aS.cells xC)] τ Q:=by
 unfold Ja at hf; refine BN 27 [.cell 2 34,.tmp 3,.tmp 4] [0] Tryz.func44 Z Z Z Z Z (W 0 Z (AS Z (AO.aF Z qG (fun b2=>?_)))); obtain ⟨x1,n1,EC,h1,hf⟩:=vM hf; refine U 3 Z (CL Z (TS _ h1 (U 4 Z (AS Z (AO.aF Z qG (fun b5=>(Rw 5 [0] Z Z (C hf Z (fun h2 hf=>?_) fun h2 hf=>?_))))))))
 · cases hf; exact Wx 6 [1] Z Z (ZC [1] Z Z h)
 refine B1 hf fun U7 h3 hf=>Wr 1 [0] Z Z (CL Z (uI _ h3 (J 3 Z (C hf Z (fun h4 hf=>?_) fun h4 hf=>?_))))
 · cases hf; exact Wx 5 [1] Z Z (ZC [1] Z Z h)
 cases hf; exact Wx 5 [0,1] Z Z (ZC [1] Z Z h)
end
section
variable [Hf]
theorem JL (iM:Str) {r0:ak} {r1:Int} {r2:Int} (hf:vw iM=some (r0,r1,r2)) (h:Q (.ret (.tuple [.agg (bf r0),iP r1,iP r2])) τ):PC 24 [.str iM] τ Q:=by
 unfold vw at hf; refine BN 46 [.cell 2 34,.tmp 3,.tmp 4] [0] Tryz.func24 Z Z Z Z Z (W 0 Z (AS Z (AO.aF Z qG (fun b2=>?_)))); obtain ⟨xC,nL,EC,h1,hf⟩:=vM hf; refine U 3 Z (CL Z (Sn _ h1 (J 9 Z (C hf Z (fun h2 hf=>?_) fun h2 hf=>?_))))
 · cases hf; exact Wx 6 [0] Z Z (ZC [0] Z Z h)
 obtain ⟨x1,n1,U7,h3,hf⟩:=vM hf; refine W 1 Z (CL Z (TU _ h3 (U 4 Z (AS Z (AO.aF Z qG (fun b8=>(Rw 5 [0] Z Z (C hf Z (fun h4 hf=>?_) fun h4 hf=>?_))))))))
 · exact bG hf
 refine W 2 Z (AS Z (AO.aM (l:=xC) Z Z Z Z Hw Z Z (J 1 Z (C hf Z (fun h5 hf=>?_) fun h5 hf=>?_))))
 ·
  refine V 0 Z (AW.zF 1 6 7 1 mixed (by kernel_rfl) (by kernel_rfl) (by kernel_rfl) Z Z Z Z ?_); refine Ev.cons Z Z Z (AO.build Z qG aen Z zg) (Ev.nil ?_); show Ev _ _ _ _ _ _ _; refine Ev.cs aH 2 Z ?_; refine B1 hf fun e1 h6 hf=>Ev.cons Z Z Z (AO.aJ h6 Z Z Z Z Hw (aS.aC _) Z zg) (Ev.cs aH 2 Z (Ev.nil (TF.bQ Z Z (AO.cO (i:=0) Z Z Z vO Z Z Z Z Z ?_)))); refine TF.nil ?_; show AR _ _ _ _ _ _ _ _; cases hf; exact N 2 Z (ZC [1] Z Z h)
 cases hf; exact Wx 4 [0,1] Z Z (ZC [1] Z Z h)
end
theorem Il (bR:List Int) {r0:aW} (hf:nS bR=some r0) (h:Q (.ret (.agg (yY r0))) τ):PC 27 [.list (List.map FQ bR)] τ Q:=by
 unfold nS at hf; refine BN 30 [.cell 2 64] [0] Tryz.func27 Z Z Z Z Z (W 0 Z (AS Z (AO.aF Z adQ (fun b2=>(U 1 Z (AS Z (AO.aF Z adQ (fun b3=>(Rr 2 [0] Z Z (AS Z (AO.aM (l:=bR) Z Z Z Z Ju Z Z ?_))))))))))); refine J 1 Z (Zn (fun x1 s1=>[(2,pP b2),(3,pP b3),(7,.list (List.map FQ bR)),(8,iP (bR.length:Int)),(9,iP x1)]) (fun x1 s1=>[.box b3 (yY s1),.box b2 [.bool false,.bool false,.bool false,.bool false]]) (fun bP x1 s1=>fT bR bP x1 s1=some r0) BIG 0 (aW.mk false false false true) Z Z hf (fun _ _ hz=>bG hz) ?_); intro bP x1 s1 hf; rw [fT] at hf; refine V 1 Z (C hf Z (fun h1 hf=>?_) fun h1 hf=>?_)
 ·
  refine B1 hf fun kC h2 hf=>W 0 Z (AS Z (AO.aJ h2 Z Z Z Z Ju Z Z (J 5 Z (C hf Z (fun h3 hf=>?_) fun h3 hf=>?_))))
  · exact M 2 Z ⟨(bW (x1 + 1)),s1,Z,Z,Z,hf⟩
  refine V 2 Z (C hf Z (fun h4 hf=>?_) fun h4 hf=>?_)
  · exact Wx 6 [0,0] Z Z ⟨(bW (x1 + 1)),(aW.mk s1.cancelled s1.failure true false),Z,Z,Z,hf⟩
  refine V 2 Z (C hf Z (fun h5 hf=>?_) fun h5 hf=>?_)
  · exact Wx 6 [0,0] Z Z ⟨(bW (x1 + 1)),(aW.mk true s1.failure s1.skipped false),Z,Z,Z,hf⟩
  refine V 2 Z (C hf Z (fun h6 hf=>?_) fun h6 hf=>?_)
  · exact Wx 6 [0,0] Z Z ⟨(bW (x1 + 1)),(aW.mk s1.cancelled true s1.skipped false),Z,Z,Z,hf⟩
  exact Wx 4 [0] Z Z ⟨(bW (x1 + 1)),(aW.mk s1.cancelled s1.failure s1.skipped false),Z,Z,Z,hf⟩
 cases hf; exact Wx 2 [0,1] Z Z (ZC [1] Z Z h)
theorem qw (name1:Str) (b1:Bool) {r0:aB} (hf:lK name1 b1=some r0) (h:Q (.ret (.agg (Et r0))) τ):PC 28 [.str name1,.bool b1] τ Q:=by
 unfold lK at hf; refine BN 9 [.cell 4 51] [0,1] Tryz.func28 Z Z Z Z Z (W 0 Z (AS Z (AO.aF Z L9 (fun b4=>?_)))); cases hf; exact Rx 5 [0] Z Z (ZC [0] Z Z h)
theorem ru (s1:List Str) {r0:List Str} (hf:kD s1=some r0) (h:Q (.ret (sP r0)) τ):PC 48 [sP s1] τ Q:=by
 unfold kD at hf; refine BN 8 [.tmp 2] [0] Tryz.func48 Z Z Z Z Z (W 0 Z (AS Z (AO.kI Z Z (U 1 Z (AS Z (AO.Co Z Z ak3 (fun b hb=>(J 0 Z (AW.cond Z (fun h1=>?_) (fun h1=>?_))))))))))
 · obtain rfl:s1=[]:=List.map_eq_nil_iff.1 (hb h1); obtain ⟨_,rfl⟩:=Gi hf; refine W 0 Z (AS Z (AO.kI Z Z ?_)); exact N 0 rfl ⟨rfl,_,⟨_,_,rfl,rfl,rfl⟩,_,List.Sublist.refl _,h⟩
 refine W 0 Z (AS Z (AO.nK [] Z Eb Z Z Z Z Z (fun v1=>(U 1 Z (AS Z (AO.iC (i:=0) (l:=[]) (m:=s1) hf Z Z Z Z Z Z Z Eb fE Z Z Z (fun _=>Z) (fun _=>Z) (by decide) (fun v2 s2 hs2=>?_))))))); cases hs2; exact N 1 Z (Y Z h)
theorem sQ (s1:List ah) (hl:s1.length≤xX) {Q:eD→List bg→Prop} (h:∀ v,Q (.ret (.val v)) [.buf v s1.length 6 31 (s1.flatMap ah.cells)]):PC 49 [.list (ah.aT s1)] [] Q:=by
 rw [ah.aA]; have hlen:∀ x:ah,(ah.cells x).length=6:=ah.dL; have hone:∀ x:ah,(ah.cells x).all PV.one=true:=ah.cells_one; refine AC.vB 8 [.tmp 2] [0] Tryz.func49 Z Z Z Z Z (AW.sr (AR.step Z Z Z (AO.kI Z Z (AR.nil [0] Z ?_)))); refine AW.seq (AW.sr (cs 1 Z (AR.step Z Z Z (AO.Co Z Z ak4 (fun b hb=>?_))))); refine AR.nil [0,4] Z (AW.cond Z (fun h1=>?_) (fun h1=>?_))
 · obtain rfl:s1=[]:=List.map_eq_nil_iff.1 (hb h1); refine AW.sr (AR.step Z Z Z (AO.abx Z Z (AR.nil [2] Z (AW.ame 6 31 ?_)))); refine AW.ret ?_; exact ⟨rfl,_,⟨_,_,rfl,rfl,rfl⟩,_,List.Sublist.refl _,h _⟩
 refine AW.skip (AW.sr (AR.step Z Z Z (AO.nK [] Z Ec Z Z Z Z Z (fun v1=>(cs 1 Z ?_))))); refine AR.step Z Z Z (AO.SB (i:=0) (l2:=List.map ah.cells s1) Z Z Z Z Z Z Z Ec fB (fun y hy=>?_) (fun y hy=>?_) ?_ ?_ (fun v2 s1 hs1=>?_))
 · obtain ⟨s,_,rfl⟩:=List.mem_map.1 hy; exact hlen s
 · obtain ⟨s,_,rfl⟩:=List.mem_map.1 hy; exact hone s
 · rw [List.length_map]; unfold xX at hl; unfold maxLen; omega
 · rw [List.length_map]; unfold xX at hl; omega
 cases hs1; refine cs 1 Z (AR.nil [2] Z (AW.ret ?_)); have hv:=h v2; rw [List.flatMap_def,show s1.length=(List.map ah.cells s1).length from (List.length_map _).symm] at hv; exact ⟨rfl,_,⟨_,_,rfl,rfl,rfl⟩,_,List.Sublist.refl _,hv⟩
theorem afh :∀ {l:List ah} {x:ah},x∈l→x.bulk≤(l.map ah.bulk).sum
 | y :: l,x,h=>by
  rw [List.map_cons,List.sum_cons]; rcases List.mem_cons.1 h with rfl | h
  ·
   omega
  ·
   have:=afh h; omega
theorem Di :∀ (n:Nat) (v1:ah),v1.bulk≤n→v1.bulk≤xX→∀ {τ:List bg} {Q:eD→List bg→Prop},Q (.ret (.agg (aL v1))) τ→PC 29 [.agg (aL v1)] τ Q
 | 0,v1,hb,_,_,_,_=>by rw [v1.lu] at hb; omega
 | n + 1,v1,hb,hL,τ,Q,h=>by
  have hbe:=v1.lu; rw [ah.nT] at hbe
  have hlist:v1.aI.length≤(v1.aI.map ah.bulk).sum:=by
   have:∀ l:List ah,l.length≤(l.map ah.bulk).sum:=by
    intro l
    induction l with
    | nil=>simp
    | cons x r ih=>have:=x.lu; simp only [List.length_cons,List.map_cons,List.sum_cons]; omega
   exact this _
  have hkeys:v1.keys.length≤(List.map (fun z:Str=>z.length + 1) v1.keys).sum:=by
   have:∀ l:List Str,l.length≤(List.map (fun z:Str=>z.length + 1) l).sum:=by
    intro l
    induction l with
    | nil=>simp
    | cons x r ih=>simp only [List.length_cons,List.map_cons,List.sum_cons]; omega
   exact this _
  have mem:∀ x∈v1.aI,x.bulk≤(v1.aI.map ah.bulk).sum:=fun x hx=>afh hx; have hll:v1.aI.length≤xX:=by omega
  have hlk:v1.keys.length≤xX:=by omega
  have aft:xX=4294967296:=Z; have yg:∀ i:Nat,i < v1.aI.length→IntKind.i64.wrap ((i:Int) + 1)=((i + 1:Nat):Int):=fun i hi=>(aiU (n:=(i:Int) + 1) (by omega) (by omega)).trans (by omega); refine AC.none (AC.vB 30 [.cell 2 31] [0] Tryz.func29 Z Z Z Z Z (AW.sr (AR.step Z Z Z (AO.WW Z Z (fun b1=>?_))))); refine AR.step Z Z Z (AO.aF Z gV (fun b2=>(AR.nil [1,2] Z (AW.sr (cs 1 Z ?_))))); refine AR.step Z Z Z (AO.aP (i:=1) Z Z Z aic Z Z (AR.step Z Z Z (AO.call Z _ Z Z alj (ru v1.keys (r0:=v1.keys) (uQ (by simp; omega)) ?_)))); refine cs 1 Z (AR.bQ Z Z (AO.cO (i:=1) Z Z Z aic Z Z Z Z Z (AR.nil [1,2] Z (AW.sr ?_)))); refine cs 1 Z (AR.step Z Z Z (AO.aP (i:=1) Z Z Z KA Z Z (AR.step Z Z Z (AO.call Z _ Z Z ali (AC.none (sQ v1.aI hll (fun v3=>(cs 1 Z ?_)))))))); refine AR.ahR 0 Z (fun hv1 hv2=>(AR.bQ Z Z (AO.cO (i:=2) Z Z Z KA hv1 hv2 Z Z Z (AR.nil [1,2] Z (AW.seq ?_))))); refine AW.sr (cs 1 Z (AR.step Z Z Z (AO.aP (i:=2) Z Z Z KA Z Z (AR.step Z Z Z (AO.ahz (i:=0) Z Z Z Z fB Z Z ?_))))); refine cs 1 Z (AR.nil [1,2,14,15] Z (AW.block (AW.settle [1,2,14,15] Z ?_))); refine AW.aj1 (fun (i:Nat)=>[(1,pP b1),(2,pP b2),(14,iP (v1.aI.length:Int)),(15,iP (i:Int))]) (fun (i:Nat)=>_) (fun kk i=>i≤v1.aI.length∧kk + i=v1.aI.length + 1) (v1.aI.length + 1) 0 Z Z ⟨by omega,by omega⟩ (fun _ hz=>by omega) ?_; intro kk i hi; refine AW.sr (cs 1 Z (AR.nil [1,2,14,15,16] Z (AW.seq ?_))); refine AW.cond Z (fun h1=>?_) (fun h1=>?_)
  ·
   have hlt:i < v1.aI.length:=by simpa using h1
   refine AW.skip (AW.seq (AW.block (AW.sr ?_))); refine cs 2 Z (AR.nil [1,2,3,14,15] Z (AW.draw 10 mixed (by kernel_rfl) Z ?_)); refine Ev.cs aH 1 Z (Ev.cons Z Z Z (AO.aP (i:=2) Z Z Z KA Z Z zg) (Ev.cs aH 2 Z (Ev.cons Z Z Z (AO.aP (i:=2) Z Z Z KA Z Z zg) ?_))); refine Ev.cs aH 1 Z (Ev.cons Z Z Z (AO.KH (i:=0) (sz:=6) Z Z Z Z fB (by omega) (by simpa using hlt) zg) ?_); refine Ev.cons Z Z Z (AO.acZ (i:=0) Z Z Z o8 (by rw [RD ah.dL]; simp only [Int.toNat_natCast]; omega) (by rw [Int.toNat_natCast,Og ah.dL v1.aI i hlt,ah.aC]; rfl) zg) ?_; refine Ev.cons Z Z Z (AO.call Z _ Z Z ail (Di n v1.aI[i] (by have:=mem _ (List.getElem_mem hlt); omega) (by have:=mem _ (List.getElem_mem hlt); omega) zg)) ?_; refine Ev.cons Z Z Z (AO.KH (i:=0) (sz:=6) Z Z Z Z fB (by omega) (by simpa using hlt) zg) ?_; refine Ev.nil ?_; show AR _ _ _ _ _ _ _ _; refine AR.bQ Z Z (AO.ZL (i:=0) (cs':=List.flatMap ah.cells v1.aI) Z Z Z o8 Z Z Z (Nat.succ_pos _) (by rw [RD ah.dL,Int.toNat_natCast]; simp only [List.length_cons,List.length_nil]; omega) (by rw [Int.toNat_natCast]; exact (congrArg (putCells _ _) (ah.aC _).symm).trans (afv ah.dL v1.aI i hlt)) Z ?_); refine AR.nil [1,2,14,15] Z (AW.region (cs 2 Z (AR.nil [1,2,14,15] Z ?_))); exact ⟨i + 1,by rw [yg i hlt],Z,Z,by omega,by omega⟩
  ·
   refine AW.exit (AW.ahG (q:=4) 0 2 (List.map ah.cells v1.aI) rfl rfl rfl (List.flatMap_def ..).symm (fun x hx=>by obtain ⟨s,_,rfl⟩:=List.mem_map.1 hx; exact ah.dL s) (by rw [List.length_map]) ?_); refine AW.sr (AR.step Z Z Z (AO.aP (i:=2) Z Z Z o8 Z Z (AR.bQ Z Z (AO.cO (i:=1) Z Z Z o8 Z Z Z Z Z (AR.nil [2] Z ?_))))); refine AW.ret ?_; have h':Q (.ret (.agg [iP v1.kind,.bool v1.dM,iP v1.dO,.str v1.bO,.list (List.map ah.cells v1.aI),sP v1.keys])) τ:=by rw [←ah.aA]; exact h
   exact ⟨rfl,_,⟨_,_,rfl,⟨_,_,1,_,_,rfl,rfl,o8,rfl⟩,rfl⟩,[],List.nil_sublist _,h'⟩
theorem LU (v1:ah) {r0:ah} (hf:mo v1=some r0) (h:Q (.ret (.agg (aL r0))) τ):PC 29 [.agg (aL v1)] τ Q:=by
 unfold mo at hf; split at hf
 · rename_i hL; cases hf; exact Di _ v1 (Nat.le_refl _) hL h
 cases hf
theorem H6 (bR:List Int) (bU:List aB) {r0:List aB} (hf:sH bR bU=some r0) (h:Q (.ret (.list (List.map aB.cells r0))) τ):PC 11 [.list (List.map FQ bR),.list (List.map aB.cells bU)] τ Q:=by
 unfold sH at hf; refine BN 42 [.tmp 4] [0,1] Tryz.func11 Z Z Z Z Z (W 0 Z (AS Z (AO.kI Z Z ?_))); refine B1 hf fun x1 h1 hf=>U 1 Z (CL Z (Il _ h1 (AS Z (AO.aF Z adQ (fun b5=>(Rw 1 [0] Z Z (AW.draw 13 mixed (by kernel_rfl) Z ?_))))))); refine B1 hf fun x2 h2 hf=>Ev.cons Z Z Z (AO.call Z _ Z Z X4 (qw _ _ h2 zg)) (Ev.cs aH 1 Z (Ev.cons Z Z Z (AO.aP (i:=0) Z Z Z agM Z Z zg) ?_)); refine B1 hf fun x3 h3 hf=>Ev.cons Z Z Z (AO.call Z _ Z Z X4 (qw _ _ h3 zg)) (Ev.cs aH 1 Z (Ev.cons Z Z Z (AO.aP (i:=0) Z Z Z agM Z Z zg) ?_)); refine B1 hf fun x4 h4 hf=>Ev.cons Z Z Z (AO.call Z _ Z Z X4 (qw _ _ h4 zg)) (Ev.cs aH 1 Z (Ev.cons Z Z Z (AO.aP (i:=0) Z Z Z agM Z Z zg) ?_)); refine B1 hf fun x5 h5 hf=>Ev.cons Z Z Z (AO.call Z _ Z Z X4 (qw _ _ h5 zg)) (Ev.cs aH 1 Z (Ev.cons Z Z Z (AO.aP (i:=0) Z Z Z agM Z Z zg) ?_)); refine B1 hf fun x6 h6 hf=>Ev.cons Z Z Z (AO.call Z _ Z Z X4 (qw _ _ h6 zg)) (Ev.nil ?_); show AR _ _ _ _ _ _ _ _; refine AS rfl (AO.nK (List.map aB.cells [x2,x3,x4,x5,x6]) rfl yx rfl rfl rfl rfl (by first | rfl | simp only [List.map,aB.aC]) (fun v1=>?_))
 refine U 2 Z (AS Z (AO.aM (l:=bU) Z Z Z Z nA Z Z (J 1 Z (LK3 (fun bM v2 x7=>[(6,.own v2 (List.map aB.cells bM)),(25,.list (List.map aB.cells bU)),(26,iP (bU.length:Int)),(27,iP x7)]) (fun bM v2 x7=>[.row v2 (List.map aB.cells bM).length 7 51,.box b5 (yY x1)]) (fun bP bM v2 x7=>qW bU bP bM x7=some r0) BIG [x2,x3,x4,x5,x6] v1 0 Z Z hf (fun _ _ _ hz=>bG hz) ?_)))); intro bP bM v2 x7 hf; rw [qW] at hf; refine V 1 Z (C hf Z (fun h7 hf=>?_) fun h7 hf=>?_)
 ·
  refine B1 hf fun e1 h8 hf=>W 0 Z (AS Z (AO.aJ h8 Z Z Z Z nA (aB.aC _) Z (U 1 Z (AS Z (AO.aF Z L9 (fun b8=>(Rw 1 [0] Z Z (AW.draw 8 mixed (by kernel_rfl) Z ?_)))))))); refine Ev.cs aH 2 Z (Ev.cons Z Z Z (AO.aP (i:=0) Z Z Z Xw Z Z zg) (Ev.cs aH 1 Z (Ev.cons Z Z Z (AO.aP (i:=0) Z Z Z o8 Z Z zg) ?_))); refine B1 hf fun x8 h9 hf=>?_; refine Ev.cons rfl rfl rfl (AO.call rfl _ rfl rfl ail (LU _ h9 ⟨rfl,rfl⟩)) (Ev.cons rfl rfl rfl (AO.build rfl L9 aem rfl ⟨rfl,rfl⟩) (Ev.cons rfl rfl rfl (AO.aX (List.map aB.cells [(aB.mk e1.name x8)]) rfl yx rfl rfl rfl (by first | rfl | simp only [List.map,aB.aC]) ⟨rfl,rfl⟩) ?_)); refine Ev.nil ?_; show AR _ _ _ _ _ _ _ _
  refine B1 hf fun zW h10 hf=>AS Z (AO.iC (i:=1) (l:=bM) (m:=[(aB.mk e1.name x8)]) h10 Z Z Z Z Z Z Z yx nA Z Z Z (aB.dL) (aB.cells_one) (by decide) (fun v3 s1 hs1=>?_)); cases hs1; refine dY 3 Z (AR.drop1 ?_); exact N 0 Z ⟨zW,v3,(bW (x7 + 1)),Z,Z,Z,hf⟩
 cases hf; exact M 2 Z (Y Z h)
theorem aaU (b_:List aB) {r0:Int} (hf:Js b_=some r0) (h:Q (.ret (iP r0)) τ):PC 74 [.list (List.map aB.cells b_)] τ Q:=by
 unfold Js at hf; refine BN 39 [.tmp 2] [0] Tryz.func74 Z Z Z Z Z (W 2 Z (AS Z (AO.aM (l:=b_) Z Z Z Z nA Z Z (J 1 Z (C hf Z (fun h1 hf=>?_) fun h1 hf=>?_)))))
 · cases hf; exact M 1 Z (Y Z h)
 refine W 0 Z (AS Z (AO.Rb Z (fun m10=>(U 2 Z (AS Z (AO.aM (l:=b_) Z Z Z Z nA Z Z (J 1 Z (Zn (fun x1 y1=>[(3,.val (.map (some m10))),(11,.list (List.map aB.cells b_)),(12,iP (b_.length:Int)),(13,iP x1)]) (fun x1 y1=>[.obj m10 (vV y1)]) (fun bP x1 y1=>Bl b_ bP x1 y1=some r0) BIG 0 [] Z Z hf (fun _ _ hz=>bG hz) ?_)))))))); intro bP x1 y1 hf; rw [Bl] at hf; refine V 1 Z (C hf Z (fun h2 hf=>?_) fun h2 hf=>?_)
 ·
  refine B1 hf fun e1 h3 hf=>W 0 Z (AS Z (AO.aJ h3 Z Z Z Z nA (aB.aC _) Z (U 1 Z (AS Z (AO.aF Z L9 (fun b5=>?_)))))); refine B1 hf fun x2 h4 hf=>Rr 4 [0,0] Z Z (CL Z (uI _ h4 (J 1 Z (C hf Z (fun h5 hf=>?_) fun h5 hf=>?_))))
  · cases hf; exact M 1 Z (Y Z h)
  refine B1 hf fun e2 h6 hf=>Wr 2 [0] Z Z (CL Z (qD _ h6 (J 3 Z (C hf Z (fun h7 hf=>?_) fun h7 hf=>?_))))
  · cases hf; exact M 2 Z (Y Z h)
  refine Wr 3 [0] Z Z (AS Z (AO.Ka (i:=1) (l:=y1) Z Z Z Z GJ d9 acj (U 1 Z (AR.bQ Z Z (AO.Ld (i:=1) (l:=y1) Z Z Z Z Z GJ d9 (Rr 3 [0] Z Z (AS Z (AO.Ka (i:=1) (l:=(rz y1 e1.name (bW ((nN y1 e1.name) + 1)))) Z Z Z Z GJ d9 acj (J 1 Z (C hf Z (fun h8 hf=>?_) fun h8 hf=>?_))))))))))
  · cases hf; exact M 1 Z (Y Z h)
  refine Wn0 2 Z (AR.drop1 ?_); exact N 0 Z ⟨(bW (x1 + 1)),(rz y1 e1.name (bW ((nN y1 e1.name) + 1))),Z,Z,Z,hf⟩
 cases hf; exact M 1 Z (Y Z h)
theorem T9 (e1:ak) (b_:List aB) {r0:List aB} {r1:Int} (hf:Ez e1 b_=some (r0,r1)) (h:Q (.ret (.tuple [.list (List.map aB.cells r0),iP r1])) τ):PC 50 [.agg (bf e1),.list (List.map aB.cells b_)] τ Q:=by
 unfold Ez at hf; refine BN 19 [.tmp 4,.tmp 5] [0,1] Tryz.func50 Z Z Z Z Z (W 1 Z (AS Z (AO.kI Z Z ?_))); refine B1 hf fun f1 h1 hf=>U 2 Z (CL Z (aaU _ h1 (J 3 Z (C hf Z (fun h2 hf=>?_) fun h2 hf=>?_))))
 · refine W 1 Z (AS Z (AO.kI Z Z ?_)); cases hf; exact N 1 Z (Y Z h)
 refine B1 hf fun f2 h3 hf=>W 1 Z (CL Z (uI _ h3 (J 3 Z (C hf Z (fun h4 hf=>?_) fun h4 hf=>?_))))
 · refine W 1 Z (AS Z (AO.kI Z Z ?_)); cases hf; exact N 1 Z (Y Z h)
 cases hf; exact M 3 Z (Y Z h)
@[reducible] def Xf :fJ aD Unit→eD
 | .ok r=>.ret (.tuple [])
 | .bad e=>.panic (.iface 111 (.agg [iP e.code]))
theorem EJ (e1:Int) {rX:fJ aD Unit} (hf:Ab e1=some rX) (h:Q (Xf rX) τ):PC 175 [iP e1] τ Q:=by
 unfold Ab at hf; refine BN 5 [] [0] Tryz.func175 Z Z Z Z Z (W 2 Z (AS Z (AO.ahv Z ajX Z (AR.bQ Z Z (AO.ajQ Z Z ?_))))); cases hf; exact ⟨Z,[],List.nil_sublist _,h⟩
@[reducible] def Ma :fJ aD ah→eD
 | .ok r=>.ret (.agg (aL r))
 | .bad e=>.panic (.iface 111 (.agg [iP e.code]))
theorem EH (s1:List aB) (name1:Str) {rX:fJ aD ah} (hf:r_ s1 name1=some rX) (h:Q (Ma rX) τ):PC 115 [.list (List.map aB.cells s1),.str name1] τ Q:=by
 unfold r_ at hf; refine BN 22 [.cell 4 31] [0,1] Tryz.func115 Z Z Z Z Z (W 0 Z (AS Z (AO.aF Z gV (fun b4=>(U 1 Z (AS Z (AO.aM (l:=s1) Z Z Z Z aiE Z Z (J 1 Z (E_ (fun x1=>[(1,.str name1),(4,pP b4),(7,.list (List.map aB.cells s1)),(8,iP (s1.length:Int)),(9,iP x1)]) (fun x1=>[.box b4 [iP 0,.bool false,iP 0,.str ([]:Str),.own (.slice none 0 0) [],.own (.slice none 0 0) []]]) (fun bP x1=>oP s1 name1 bP x1=some rX) BIG 0 Z Z hf (fun _ hz=>bG hz) ?_))))))))); intro bP x1 hf; rw [oP] at hf; refine V 1 Z (C hf Z (fun h1 hf=>?_) fun h1 hf=>?_)
 ·
  refine B1 hf fun e1 h2 hf=>W 0 Z (AS Z (AO.aJ h2 Z Z Z Z aiE (aB.aC _) Z (U 1 Z (AS Z (AO.aF Z L9 (fun b6=>(Rw 5 [0,0] Z Z (C hf Z (fun h3 hf=>?_) fun h3 hf=>?_))))))))
  · cases hf; exact Wx 3 [0,1] Z Z (ZC [1] Z Z h)
  refine Wn0 2 Z (AR.drop1 ?_); exact N 0 Z ⟨(bW (x1 + 1)),Z,Z,Z,hf⟩
 rcases bD hf with ⟨e2,h4,hf⟩ | ⟨_,h4,hf⟩
 · refine W 0 Z (CL Z (EJ _ h4 ?_)); cases hf; exact ⟨Z,[],List.nil_sublist _,h⟩
 refine W 0 Z (CL Z (EJ _ h4 ?_)); cases hf; exact Rx 2 [0] Z Z (ZC [0] Z Z h)
theorem uJ (s1:Str) {r0:ah} (hf:mh s1=some r0) (h:Q (.ret (.agg (aL r0))) τ):PC 117 [.str s1] τ Q:=by
 unfold mh at hf; refine BN 5 [.cell 2 31] [0] Tryz.func117 Z Z Z Z Z (W 0 Z (AS Z (AO.aF Z gV (fun b2=>?_)))); cases hf; exact Rx 3 [0] Z Z (ZC [0] Z Z h)
theorem j3 (v1:ah) (dJ:Int) {r0:Bool} (hf:iB v1 dJ=some r0) (h:Q (.ret (.bool r0)) τ):PC 176 [.agg (aL v1),iP dJ] τ Q:=by
 unfold iB at hf; refine BN 9 [.tmp 4] [0,1] Tryz.func176 Z Z Z Z Z ?_; cases hf; exact M 7 Z (Y Z h)
@[reducible] def Xe :fJ aD Unit→eD
 | .ok r=>.ret (.tuple [])
 | .bad e=>.panic (.iface 111 (.agg [iP e.code]))
theorem bB (ok1:Bool) (e1:Int) {rX:fJ aD Unit} (hf:dK ok1 e1=some rX) (h:Q (Xe rX) τ):PC 125 [.bool ok1,iP e1] τ Q:=by
 unfold dK at hf; refine BN 8 [] [0,1] Tryz.func125 Z Z Z Z Z (V 2 Z (C hf Z (fun h1 hf=>?_) fun h1 hf=>?_))
 ·
  rcases bD hf with ⟨e2,h2,hf⟩ | ⟨_,h2,hf⟩
  · refine W 1 Z (CL Z (EJ _ h2 ?_)); cases hf; exact ⟨Z,[],List.nil_sublist _,h⟩
  refine W 1 Z (CL Z (EJ _ h2 ?_)); cases hf; exact N 0 Z (ZN Z h)
 cases hf; exact M 0 Z (ZN Z h)
theorem Ad (s1:List Str) (v1:Str) {r0:Int} (hf:iQ s1 v1=some r0) (h:Q (.ret (iP r0)) τ):PC 229 [sP s1,.str v1] τ Q:=by
 unfold iQ at hf; refine BN 19 [.tmp 4] [0,1] Tryz.func229 Z Z Z Z Z (W 2 Z (AS Z (AO.aM (l:=s1) Z Z Z Z fE Z Z (J 1 Z (E_ (fun i1=>[(0,sP s1),(1,.str v1),(7,iP (s1.length:Int)),(8,iP i1)]) (fun i1=>[]) (fun bP i1=>gW s1 v1 bP i1=some r0) BIG 0 Z Z hf (fun _ hz=>bG hz) ?_))))); intro bP i1 hf; rw [gW] at hf; refine V 1 Z (C hf Z (fun h1 hf=>?_) fun h1 hf=>?_)
 ·
  refine B1 hf fun e1 h2 hf=>W 5 Z (AS Z (AO.aJ h2 Z Z Z Z fE Z Z (J 2 Z (C hf Z (fun h3 hf=>?_) fun h3 hf=>?_))))
  · cases hf; exact M 2 Z (Y Z h)
  exact M 2 Z ⟨(bW (i1 + 1)),Z,Z,Z,hf⟩
 cases hf; exact M 1 Z (Y Z h)
abbrev KV (j_:ah→Option ah):Prop:=∀ (qH:ah) {aO:ah},j_ qH=some aO→∀ {τ:List bg} {Q:eD→List bg→Prop} (h:Q (.ret (.agg (aL aO))) τ),PC 230 [.agg (aL qH)] τ Q
theorem SY (j_) (Py:KV j_) (v1:ah) {r0:ah} (hf:Af j_ v1=some r0) (h:Q (.ret (.agg (aL r0))) τ):PC 230 [.agg (aL v1)] τ Q:=by
 unfold Af at hf; refine BN 28 [.cell 2 31] [0] Tryz.func230 Z Z Z Z Z (W 1 Z (AS Z (AO.aF Z gV (fun b2=>(U 1 Z (AS Z (AO.aF Z gV (fun b3=>?_)))))))); refine B1 hf fun x1 h1 hf=>Rr 3 [0] Z Z (CL Z (ru _ h1 (Rr 6 [0,0] Z Z (AS Z (AO.aM (l:=v1.aI) Z Z Z Z fB Z (ah.aA _) ?_))))); refine J 1 Z (AW.row 6 31 (LK3 (fun x2 bM v2=>[(2,pP b2),(3,pP b3),(13,.list (ah.aT v1.aI)),(14,iP (v1.aI.length:Int)),(15,iP x2)]) (fun x2 bM v2=>[.row v2 (ah.aT bM.aI).length 6 31,.box b3 [iP bM.kind,.bool bM.dM,iP bM.dO,.str bM.bO,.own v2 (ah.aT bM.aI),sP bM.keys],.box b2 [iP 0,.bool false,iP 0,.str ([]:Str),.own (.slice none 0 0) [],.own (.slice none 0 0) []]]) (fun bP x2 bM v2=>tO j_ v1 bP x2 bM=some r0) BIG 0 (ah.mk v1.kind v1.dM v1.dO v1.bO [] x1) (.slice none 0 0) Z Z hf (fun _ _ _ hz=>bG hz) ?_)); intro bP x2 bM v2 hf; rw [tO] at hf; refine V 1 Z (C hf Z (fun h2 hf=>?_) fun h2 hf=>?_)
 ·
  refine B1 hf fun e1 h3 hf=>W 0 Z (AS Z (AO.aJ h3 Z Z (ah.aA _) Z fB (ah.aC _) Z (U 1 Z (AS Z (AO.aF Z gV (fun b5=>(Rw 1 [0] Z Z (AW.draw 5 mixed (by kernel_rfl) Z ?_)))))))); refine Ev.cs aH 1 Z (Ev.cons Z Z Z (AO.aP (i:=2) Z Z Z KA Z Z zg) (Ev.cons Z Z Z (AO.aP (i:=0) Z Z Z o8 Z Z zg) ?_)); refine B1 hf fun x3 h4 hf=>Ev.cons rfl rfl rfl (AO.call rfl _ rfl rfl aeO (Py _ h4 ⟨rfl,rfl⟩)) (Ev.cons rfl rfl rfl (AO.aX (ah.aT [x3]) rfl Ec rfl rfl rfl (by first | rfl | simp only [List.map,ah.aC,ah.aT]) ⟨rfl,rfl⟩) ?_)
  refine Ev.nil ?_; show AR _ _ _ _ _ _ _ _; refine B1 hf fun x4 h5 hf=>AS Z (AO.iC (i:=1) (l:=bM.aI) (m:=[x3]) h5 Z Z Z Z Z Z Z Ec fB (ah.aA _) (ah.aA _) (ah.aA _).symm (ah.dL) (ah.cells_one) (by decide) (fun v3 s1 hs1=>?_)); cases hs1; refine Rn 4 [2] Z Z (AR.drop1 ?_); exact N 0 Z ⟨(bW (x2 + 1)),(ah.mk bM.kind bM.dM bM.dO bM.bO x4 bM.keys),v3,Z,Z,Z,hf⟩
 cases hf; exact Wx 2 [1,2] Z Z (ZC [2] Z Z h)
theorem Tg :∀ k:Nat,(KV (kN k)):=by
 intro k
 induction k with
 | zero=>exact fun _ _ hz=>by first | cases hz | (unfold kN at hz; cases hz)
 | succ k ih=>exact fun qH aO hz τ Q hq=>SY (kN k) ih qH hz hq
theorem KN (qH:ah) {aO:ah} (hf:mR qH=some aO) (h:Q (.ret (.agg (aL aO))) τ):PC 230 [.agg (aL qH)] τ Q:=
 ((Tg BIG)) qH hf h
theorem O0 (v1:ah) (key1:Str) {r0:ah} {r1:Bool} (hf:zJ v1 key1=some (r0,r1)) (h:Q (.ret (.tuple [.agg (aL r0),.bool r1])) τ):PC 177 [.agg (aL v1),.str key1] τ Q:=by
 unfold zJ at hf; refine BN 32 [.cell 4 31,.tmp 5] [0,1] Tryz.func177 Z Z Z Z Z (W 1 Z (AS Z (AO.aF Z gV (fun b4=>?_)))); refine B1 hf fun i1 h1 hf=>U 4 Z (CL Z (Ad _ _ h1 (U 5 Z (On 3 14 17 [2,4,6] (decide (i1 < 0)) Z Z Z Z (U 1 Z (AR.or 6 18 24 [2,4,6] (x:=(decide ((v1.aI.length:Int)≤i1))) Z Z (fun h3=>?_) (fun h3=>?_) ?_))))))
 · refine Is 18 h3 Z (U 3 Z (GO Z (AO.aM (l:=v1.aI) Z Z Z Z fB Z (ah.aA _) ?_))); exact dY 2 Z (En [24,2,4,6] Z)
 · refine Is 18 h3 Z ?_; exact dY 6 Z (En [24,2,4,6] Z)
 refine J 0 Z (C hf Z (fun h4 hf=>?_) fun h4 hf=>?_)
 · cases hf; exact Wx 3 [0] Z Z (ZC [0] Z Z h)
 refine B1 hf fun e1 h5 hf=>W 3 Z (AS Z (AO.aJ h5 Z Z (ah.aA _) Z fB (ah.aC _) Z ?_)); refine B1 hf fun x1 h6 hf=>U 1 Z (CL Z (KN _ h6 ?_)); cases hf; exact Rx 2 [0] Z Z (ZC [0] Z Z h)
@[reducible] def Vp :fJ aD ah→eD
 | .ok r=>.ret (.agg (aL r))
 | .bad e=>.panic (.iface 111 (.agg [iP e.code]))
theorem Cw (m1:ah) (key1:ah) {rX:fJ aD ah} (hf:w_ m1 key1=some rX) (h:Q (Vp rX) τ):PC 116 [.agg (aL m1),.agg (aL key1)] τ Q:=by
 unfold w_ at hf; refine BN 24 [.cell 4 31] [0,1] Tryz.func116 Z Z Z Z Z (W 2 Z (AS Z (AO.aF Z gV (fun b4=>?_)))); refine B1 hf fun x1 h1 hf=>U 1 Z (CL Z (j3 _ _ h1 ?_)); refine B1 hf fun b1 h3 hf=>U 1 Z (AR.cZ 3 9 12 true [2,3,4] b1 Z Z (fun h2=>?_) (fun h2=>?_) ?_)
 · refine IT 9 h2 h3 Z fun h3=>?_; refine BR h3 fun x2 h4 h3=>?_; refine U 1 Z (GO Z (AO.call Z _ Z Z NU (j3 _ _ h4 ?_))); cases h3; exact dY 1 Z (En [12,2,3,4] Z)
 · refine IF 9 h2 h3 Z fun h3=>?_; cases h3; exact dY 3 Z (En [12,2,3,4] Z)
 rcases bD hf with ⟨e1,h5,hf⟩ | ⟨_,h5,hf⟩
 · refine CL Z (bB _ _ h5 ?_); cases hf; exact ⟨Z,[],List.nil_sublist _,h⟩
 refine CL Z (bB _ _ h5 ?_); obtain ⟨x3,ok1,h6,hf⟩:=bK hf; refine U 3 Z (CL Z (O0 _ _ h6 (U 3 Z (AS Z (AO.aF Z gV (fun b5=>?_)))))); rcases bD hf with ⟨e2,h7,hf⟩ | ⟨_,h7,hf⟩
 · refine Rr 3 [0] Z Z (CL Z (bB _ _ h7 ?_)); cases hf; exact ⟨Z,[],List.nil_sublist _,h⟩
 refine Rr 3 [0] Z Z (CL Z (bB _ _ h7 ?_)); cases hf; exact Rx 2 [0,1] Z Z (ZC [1] Z Z h)
@[reducible] def Qj :fJ aD ah→eD
 | .ok r=>.ret (.agg (aL r))
 | .bad e=>.panic (.iface 111 (.agg [iP e.code]))
theorem JQ (a1:ah) (i1:ah) {rX:fJ aD ah} (hf:vI a1 i1=some rX) (h:Q (Qj rX) τ):PC 118 [.agg (aL a1),.agg (aL i1)] τ Q:=by
 unfold vI at hf; refine BN 32 [.cell 4 31] [0,1] Tryz.func118 Z Z Z Z Z (W 2 Z (AS Z (AO.aF Z gV (fun b4=>?_)))); refine B1 hf fun x1 h1 hf=>U 1 Z (CL Z (j3 _ _ h1 ?_)); refine B1 hf fun b1 h3 hf=>U 1 Z (AR.cZ 3 7 10 true [2,3,4] b1 Z Z (fun h2=>?_) (fun h2=>?_) ?_)
 · refine IT 7 h2 h3 Z fun h3=>?_; refine BR h3 fun x2 h4 h3=>?_; refine U 1 Z (GO Z (AO.call Z _ Z Z NU (j3 _ _ h4 ?_))); cases h3; exact dY 1 Z (En [10,2,3,4] Z)
 · refine IF 7 h2 h3 Z fun h3=>?_; cases h3; exact dY 3 Z (En [10,2,3,4] Z)
 refine J 0 Z (C hf Z (fun h5 hf=>?_) fun h5 hf=>?_)
 ·
  refine W 4 Z (AR.and 7 14 21 [2,3,4] (x:=(decide (i1.dO < (a1.aI.length:Int)))) Z Z (fun h6=>?_) (fun h6=>?_) ?_)
  · refine Is 14 h6 Z (U 4 Z (GO Z (AO.aM (l:=a1.aI) Z Z Z Z fB Z (ah.aA _) ?_))); exact dY 2 Z (En [21,2,3,4] Z)
  · refine Is 14 h6 Z ?_; exact dY 7 Z (En [21,2,3,4] Z)
  rcases bD hf with ⟨e1,h7,hf⟩ | ⟨_,h7,hf⟩
  · refine CL Z (bB _ _ h7 ?_); cases hf; exact ⟨Z,[],List.nil_sublist _,h⟩
  refine CL Z (bB _ _ h7 ?_); refine B1 hf fun e2 h8 hf=>U 4 Z (AS Z (AO.aJ h8 Z Z (ah.aA _) Z fB (ah.aC _) Z ?_)); cases hf; exact Rx 2 [0] Z Z (ZC [0] Z Z h)
 rcases bD hf with ⟨e3,h9,hf⟩ | ⟨x3,h9,hf⟩
 · refine W 2 Z (CL Z (Cw _ _ h9 ?_)); cases hf; exact ⟨Z,[],List.nil_sublist _,h⟩
 refine W 2 Z (CL Z (Cw _ _ h9 ?_)); cases hf; exact Rx 1 [0] Z Z (ZC [0] Z Z h)
theorem WR (name1:Str) {r0:Int} (hf:xg name1=some r0) (h:Q (.ret (iP r0)) τ):PC 178 [.str name1] τ Q:=by
 unfold xg at hf; refine BN 18 [.tmp 2] [0] Tryz.func178 Z Z Z Z Z (V 4 Z (C hf Z (fun h1 hf=>?_) fun h1 hf=>?_))
 ·
  refine V 0 Z (AW.cond Z (fun h2=>?_) (fun h2=>?_))
  · cases hf; exact M 1 Z (Y Z h)
  cases h1.symm.trans h2
 refine V 2 Z (C hf Z (fun h3 hf=>?_) fun h3 hf=>?_)
 ·
  refine V 0 Z (AW.cond Z (fun h4=>?_) (fun h4=>?_))
  · cases hf; exact M 1 Z (Y Z h)
  cases h3.symm.trans h4
 refine V 2 Z (C hf Z (fun h5 hf=>?_) fun h5 hf=>?_)
 ·
  refine V 0 Z (AW.cond Z (fun h6=>?_) (fun h6=>?_))
  · cases hf; exact M 1 Z (Y Z h)
  cases h5.symm.trans h6
 refine V 2 Z (C hf Z (fun h7 hf=>?_) fun h7 hf=>?_)
 ·
  refine V 0 Z (AW.cond Z (fun h8=>?_) (fun h8=>?_))
  · cases hf; exact M 1 Z (Y Z h)
  cases h7.symm.trans h8
 refine V 2 Z (C hf Z (fun h9 hf=>?_) fun h9 hf=>?_)
 ·
  refine V 0 Z (AW.cond Z (fun h10=>?_) (fun h10=>?_))
  · cases hf; exact M 1 Z (Y Z h)
  cases h9.symm.trans h10
 refine V 2 Z (C hf Z (fun h11 hf=>?_) fun h11 hf=>?_)
 · cases hf; exact M 1 Z (Y Z h)
 refine V 2 Z (C hf Z (fun h12 hf=>?_) fun h12 hf=>?_)
 ·
  refine V 0 Z (AW.cond Z (fun kQ=>?_) (fun kQ=>?_))
  · cases hf; exact M 1 Z (Y Z h)
  cases h12.symm.trans kQ
 refine V 2 Z (C hf Z (fun lQ hf=>?_) fun lQ hf=>?_)
 ·
  refine V 0 Z (AW.cond Z (fun ng=>?_) (fun ng=>?_))
  · cases hf; exact M 1 Z (Y Z h)
  cases lQ.symm.trans ng
 refine V 2 Z (C hf Z (fun h16 hf=>?_) fun h16 hf=>?_)
 ·
  refine V 0 Z (AW.cond Z (fun vG=>?_) (fun vG=>?_))
  · cases hf; exact M 1 Z (Y Z h)
  cases h16.symm.trans vG
 refine V 2 Z (C hf Z (fun h18 hf=>?_) fun h18 hf=>?_)
 ·
  refine V 0 Z (AW.cond Z (fun h19=>?_) (fun h19=>?_))
  · cases hf; exact M 1 Z (Y Z h)
  cases h18.symm.trans h19
 refine V 2 Z (C hf Z (fun h20 hf=>?_) fun h20 hf=>?_)
 ·
  refine V 0 Z (AW.cond Z (fun h21=>?_) (fun h21=>?_))
  · cases hf; exact M 1 Z (Y Z h)
  cases h20.symm.trans h21
 refine V 2 Z (C hf Z (fun h22 hf=>?_) fun h22 hf=>?_)
 · cases hf; exact M 1 Z (Y Z h)
 cases hf; exact M 1 Z (Y Z h)
theorem uK (n1:Int) {r0:ah} (hf:qg n1=some r0) (h:Q (.ret (.agg (aL r0))) τ):PC 182 [iP n1] τ Q:=by
 unfold qg at hf; refine BN 5 [.cell 2 31] [0] Tryz.func182 Z Z Z Z Z (W 0 Z (AS Z (AO.aF Z gV (fun b2=>?_)))); cases hf; exact Rx 3 [0] Z Z (ZC [0] Z Z h)
theorem Nt (l1:List ah) {r0:ah} (hf:Dv l1=some r0) (h:Q (.ret (.agg (aL r0))) τ):PC 123 [.list (ah.aT l1)] τ Q:=by
 unfold Dv at hf; refine BN 5 [.cell 2 31] [0] Tryz.func123 Z Z Z Z Z (W 0 Z (AS Z (AO.aF Z gV (fun b2=>?_)))); cases hf; exact Rx 3 [0] Z Z (ZC [0] Z Z h)
theorem Oz (h:Q (.ret (.agg [iP 4,.bool false,iP 0,.str ([]:Str),.own (.slice none 0 0) [],.own (.slice none 0 0) []])) τ):PC 123 [.own (.slice none 0 0) []] τ Q:=by
 refine AC.none (AC.ae8 5 [.cell 2 31] [0] Tryz.func123 Z Z Z Z Z (AW.sr (AR.step Z Z Z (AO.aF Z gV (fun b2=>?_))))); refine AR.nil [0,2] Z (AW.sr (cs 1 Z (AR.step Z Z Z (AO.build Z gV ZO Z ?_)))); refine AR.bQ Z Z (AO.cO (i:=0) Z Z Z o8 Z Z Z Z Z (AR.nil [2] Z (AW.ret ?_))); exact ⟨rfl,_,⟨_,_,rfl,⟨_,_,0,_,_,rfl,rfl,o8,rfl⟩,rfl⟩,[],List.nil_sublist _,h⟩
theorem O6 (l1:List Str) {r0:ah} (hf:z_ l1=some r0) (h:Q (.ret (.agg (aL r0))) τ):PC 231 [sP l1] τ Q:=by
 unfold z_ at hf; refine BN 22 [.cell 2 31] [0] Tryz.func231 Z Z Z Z Z (W 0 Z (AS Z (AO.aF Z gV (fun b2=>(U 0 Z (AS Z (AO.amd Z _ Z Z ajI (Oz (AS Z (AO.aF Z gV (fun b3=>?_))))))))))); refine Rr 2 [0] Z Z (AS Z (AO.aM (l:=l1) Z Z Z Z fE Z Z ?_)); refine J 1 Z (AW.row 6 31 (AW.settle [2,3,7,8,9] Z (AW.CU 1 [false,false,false,false,false,true] Z (LK3 (fun x1 bM v1=>[(2,pP b2),(3,pP b3),(7,sP l1),(8,iP (l1.length:Int)),(9,iP x1)]) (fun x1 bM v1=>[.row v1 (ah.aT bM.aI).length 6 31,.box b3 [iP bM.kind,.bool bM.dM,iP bM.dO,.str bM.bO,.own v1 (ah.aT bM.aI),sP bM.keys],.box b2 [iP 0,.bool false,iP 0,.str ([]:Str),.own (.slice none 0 0) [],.own (.slice none 0 0) []]]) (fun bP x1 bM v1=>zi l1 bP x1 bM=some r0) BIG 0 (ah.mk 4 false 0 ([]:Str) [] []) (.slice none 0 0) Z Z hf (fun _ _ _ hz=>bG hz) ?_)))); intro bP x1 bM v1 hf; rw [zi] at hf; refine V 1 Z (C hf Z (fun h1 hf=>?_) fun h1 hf=>?_)
 ·
  refine B1 hf fun s1 h2 hf=>W 0 Z (AS Z (AO.aJ h2 Z Z Z Z fE Z Z (J 2 Z (AW.draw 5 mixed (by kernel_rfl) Z ?_)))); refine Ev.cs aH 1 Z (Ev.cons Z Z Z (AO.aP (i:=1) Z Z Z KA Z Z zg) (Ev.cs aH 1 Z ?_)); refine B1 hf fun x2 h3 hf=>Ev.cons rfl rfl rfl (AO.call rfl _ rfl rfl aeZ (uJ _ h3 ⟨rfl,rfl⟩)) (Ev.cons rfl rfl rfl (AO.aX (ah.aT [x2]) rfl Ec rfl rfl rfl (by first | rfl | simp only [List.map,ah.aC,ah.aT]) ⟨rfl,rfl⟩) ?_); refine Ev.nil ?_
  show AR _ _ _ _ _ _ _ _; refine B1 hf fun x3 h4 hf=>AS Z (AO.iC (i:=0) (l:=bM.aI) (m:=[x2]) h4 Z Z Z Z Z Z Z Ec fB (ah.aA _) (ah.aA _) (ah.aA _).symm (ah.dL) (ah.cells_one) (by decide) (fun v2 s2 hs2=>?_)); cases hs2; exact Rx 4 [1] Z Z ⟨(bW (x1 + 1)),(ah.mk bM.kind bM.dM bM.dO bM.bO x3 bM.keys),v2,Z,Z,Z,hf⟩
 cases hf; exact Wx 2 [1,2] Z Z (ZC [2] Z Z h)
theorem G6 (b1:Bool) {r0:Str} (hf:qc b1=some r0) (h:Q (.ret (.str r0)) τ):PC 330 [.bool b1] τ Q:=by
 unfold qc at hf; refine BN 4 [.tmp 2] [0] Tryz.func330 Z Z Z Z Z (V 2 Z (C hf Z (fun h1 hf=>?_) fun h1 hf=>?_))
 · cases hf; exact M 1 Z (Y Z h)
 cases hf; exact M 1 Z (Y Z h)
theorem JH (b1:Bool) {r0:Str} (hf:strconv_FormatBool b1=some r0) (h:Q (.ret (.str r0)) τ):PC 294 [.bool b1] τ Q:=by
 unfold strconv_FormatBool at hf; refine BN 5 [.tmp 2] [0] Tryz.func294 Z Z Z Z Z ?_; refine BR hf fun x1 h1 hf=>?_; refine W 2 Z (CL Z (G6 _ h1 ?_)); cases hf; exact N 1 Z (Y Z h)
theorem EY (s1:Str) {r0:Str} (hf:AA s1=some r0) (h:Q (.ret (.str r0)) τ):PC 295 [.str s1] τ Q:=by
 unfold AA at hf; refine BN 54 [.tmp 2] [0] Tryz.func295 Z Z Z Z Z (W 1 Z (AS Z (AO.Vj (eu:=5) Z adU Z (fun b3=>?_)))); refine B1 hf fun b1 h1 hf=>U 0 Z (CL Z (AC.one 0 Z (kF h1 (fun v1=>⟨_,Z,(J 1 Z (LK3 (fun i1 b2 v2=>[(0,.str s1),(3,pP b3),(4,iP i1)]) (fun i1 b2 v2=>[.NC b3 v2 170 5 b2]) (fun bP i1 b2 v2=>mQ s1 bP i1 b2=some r0) BIG 0 b1 v1 Z Z hf (fun _ _ _ hz=>bG hz) ?_))⟩)))); intro bP i1 b2 v2 hf; rw [mQ] at hf; refine W 2 Z (AS Z (AO.cB Z Z Z Z d9 Z (J 1 Z (C hf Z (fun h2 hf=>?_) fun h2 hf=>?_))))
 ·
  refine B1 hf fun c1 h3 hf=>W 2 Z (AS Z (AO.gM h3 Z d9 Z Z (U 4 Z (On 3 28 31 [0,3,4,5] ((c1.toNat:Int) == 92) Z Z Z Z (J 1 Z (C hf Z (fun h5 hf=>?_) fun h5 hf=>?_))))))
  · refine B1 hf fun b3 h6 hf=>W 0 Z (CL Z (AC.one 0 Z (kF h6 (fun v3=>⟨_,Z,?_⟩)))); refine B1 hf fun b4 h7 hf=>U 1 Z (CL Z (AC.one 0 Z (kF h7 (fun v4=>⟨_,Z,?_⟩)))); exact N 3 Z ⟨(bW (i1 + 1)),b4,v4,Z,Z,Z,hf⟩
  refine V 3 Z (C hf Z (fun h8 hf=>?_) fun h8 hf=>?_)
  · refine B1 hf fun b5 h9 hf=>W 0 Z (CL Z (AC.one 0 Z (zx h9 (fun v5=>⟨_,Z,?_⟩)))); exact N 3 Z ⟨(bW (i1 + 1)),b5,v5,Z,Z,Z,hf⟩
  refine V 3 Z (C hf Z (fun h10 hf=>?_) fun h10 hf=>?_)
  · refine B1 hf fun b6 h11 hf=>W 0 Z (CL Z (AC.one 0 Z (zx h11 (fun v6=>⟨_,Z,?_⟩)))); exact N 3 Z ⟨(bW (i1 + 1)),b6,v6,Z,Z,Z,hf⟩
  refine W 3 Z (An 3 46 49 [0,3,4,5] (decide ((c1.toNat:Int)≤126)) Z Z Z Z (J 1 Z (C hf Z (fun kQ hf=>?_) fun kQ hf=>?_)))
  · refine B1 hf fun b7 lQ hf=>W 1 Z (CL Z (AC.one 0 Z (kF lQ (fun v7=>⟨_,Z,?_⟩)))); exact N 3 Z ⟨(bW (i1 + 1)),b7,v7,Z,Z,Z,hf⟩
  refine B1 hf fun b8 ng hf=>W 0 Z (CL Z (AC.one 0 Z (zx ng (fun v8=>⟨_,Z,(U 1 Z (AS Z (AO.u8_quo c1 16 Z Z Z Z Z (by decide) ?_)))⟩)))); refine B1 hf fun x1 h16 hf=>AS Z (AO.gM h16 Z d9 Z Z ?_); refine B1 hf fun b9 vG hf=>CL Z (AC.one 0 Z (kF vG (fun v9=>⟨_,Z,(U 1 Z (AS Z (AO.ai3 c1 16 Z Z Z Z Z (by decide) ?_)))⟩))); refine B1 hf fun x2 h18 hf=>AS Z (AO.gM h18 Z d9 Z Z ?_); refine B1 hf fun b10 h19 hf=>CL Z (AC.one 0 Z (kF h19 (fun v10=>⟨_,Z,?_⟩))); exact N 3 Z ⟨(bW (i1 + 1)),b10,v10,Z,Z,Z,hf⟩
 refine BR hf fun b11 h20 hf=>?_; refine W 0 Z (CL Z (AC.one 0 Z (kF h20 (fun v11=>⟨_,Z,(U 0 Z (CL Z (AC.abC 0 Z (Nu ?_))))⟩)))); cases hf; exact N 1 Z (Y Z h)
section
variable [Hf]
def UW :Go.Shelf.Ren:=⟨fun | 156=>265 | 165=>300 | 166=>301 | 169=>163 | 240=>218 | 241=>338 | 276=>258 | 277=>362 | n=>n,fun | 31=>29 | 9=>9 | 3=>3 | 4=>4 | 0=>0 | 20=>20 | 72=>170 | 76=>231 | 70=>167 | 37=>168 | 75=>177 | 127=>207 | 164=>228 | 5=>5 | 80=>172 | n=>n,fun | n=>n⟩
theorem joinL :Go.Proofs.Lays.n156 Tryz.prog UW:={
 mixed:=by kernel_rfl
 f156:=Tryz.func265.trans (congrArg some (by kernel_rfl))
 f165:=Tryz.func300.trans (congrArg some (by kernel_rfl))
 f166:=Tryz.func301.trans (congrArg some (by kernel_rfl))
 f169:=Tryz.func163.trans (congrArg some (by kernel_rfl))
 f240:=Tryz.func218.trans (congrArg some (by kernel_rfl))
 f241:=Tryz.func338.trans (congrArg some (by kernel_rfl))
 f276:=Tryz.func258.trans (congrArg some (by kernel_rfl))
 f277:=Tryz.func362.trans (congrArg some (by kernel_rfl))
 t0:=Tryz.underlying0
 a0:=Tryz.isAgg0
 z0:=Tryz.sizeOf0
 v0:=Tryz.zeroValue0
 t3:=Tryz.underlying3
 a3:=Tryz.isAgg3
 z3:=Tryz.sizeOf3
 v3:=Tryz.zeroValue3
 t4:=Tryz.underlying4
 a4:=Tryz.isAgg4
 z4:=Tryz.sizeOf4
 v4:=Tryz.zeroValue4
 t9:=Tryz.underlying9
 a9:=Tryz.isAgg9
 z9:=Tryz.sizeOf9
 v9:=Tryz.zeroValue9
 t20:=Tryz.underlying20
 a20:=Tryz.isAgg20
 z20:=Tryz.sizeOf20
 v20:=Tryz.zeroValue20
 t31:=Tryz.underlying29
 a31:=Tryz.isAgg29
 z31:=Tryz.sizeOf29
 v31:=Tryz.zeroValue29
 t37:=Tryz.underlying168
 a37:=Tryz.isAgg168
 z37:=Tryz.sizeOf168
 v37:=Tryz.zeroValue168
 t70:=Tryz.underlying167
 a70:=Tryz.isAgg167
 z70:=Tryz.sizeOf167
 v70:=Tryz.zeroValue167
 t72:=Tryz.underlying170
 a72:=Tryz.isAgg170
 z72:=Tryz.sizeOf170
 v72:=Tryz.zeroValue170
 t75:=Tryz.underlying177
 a75:=Tryz.isAgg177
 z75:=Tryz.sizeOf177
 v75:=Tryz.zeroValue177
 t76:=Tryz.underlying231
 a76:=Tryz.isAgg231
 z76:=Tryz.sizeOf231
 v76:=Tryz.zeroValue231
 t127:=Tryz.underlying207
 a127:=Tryz.isAgg207
 z127:=Tryz.sizeOf207
 v127:=Tryz.zeroValue207
 t164:=Tryz.underlying228
 a164:=Tryz.isAgg228
 z164:=Tryz.sizeOf228
 v164:=Tryz.zeroValue228}
theorem alI :Go.Proofs.Builder.Extra Tryz.prog UW:={
 sizeBuilder:=by kernel_rfl
 liesBuilder:=by kernel_rfl
 t5:=Tryz.underlying5
 a5:=fun w=>by kernel_rfl
 z5:=fun w=>by kernel_rfl
 v5:=fun w=>by kernel_rfl
 infoByte:=by kernel_rfl
 cellsByte:=by kernel_rfl
 sizeByte:=by kernel_rfl
 neB5:=by decide}
theorem DI (l1:List Str) (t1:Str) {r0:Str} (hf:strings_Join l1 t1=some r0) (h:Q (.ret (.str r0)) τ):PC 265 [sP l1,.str t1] τ Q:=by
 unfold strings_Join at hf; split at hf
 case isFalse=>cases hf
 rename_i hg; cases hf; refine AC.none ?_; exact AC.join Hf.hD joinL alI hg.1 hg.2 h
end
section
variable [Hf]
abbrev Ib (eG:ah→Option Str):Prop:=∀ (qH:ah) {aO:Str},eG qH=some aO→∀ {τ:List bg} {Q:eD→List bg→Prop} (h:Q (.ret (.str aO)) τ),PC 261 [.agg (aL qH)] τ Q
theorem Pj (eG) (za:Ib eG) (v1:ah) {r0:Str} (hf:wH eG v1=some r0) (h:Q (.ret (.str r0)) τ):PC 261 [.agg (aL v1)] τ Q:=by
 unfold wH at hf; refine BN 68 [.tmp 2] [0] Tryz.func261 Z Z Z Z Z (V 6 Z (C hf Z (fun h1 hf=>?_) fun h1 hf=>?_))
 · refine BR hf fun x1 h2 hf=>?_; refine W 2 Z (CL Z (JH _ h2 ?_)); cases hf; exact N 1 Z (Y Z h)
 refine V 2 Z (C hf Z (fun h3 hf=>?_) fun h3 hf=>?_)
 · refine BR hf fun x2 h4 hf=>?_; refine W 2 Z (CL Z (JG _ h4 ?_)); cases hf; exact N 1 Z (Y Z h)
 refine V 2 Z (C hf Z (fun h5 hf=>?_) fun h5 hf=>?_)
 · refine BR hf fun x3 h6 hf=>?_; refine W 2 Z (CL Z (EY _ h6 ?_)); cases hf; exact N 1 Z (Y Z h)
 refine V 2 Z (C hf Z (fun h7 hf=>?_) fun h7 hf=>?_)
 ·
  refine V 0 Z (AW.cond Z (fun h8=>?_) (fun h8=>?_))
  ·
   refine W 3 Z (AS Z (AO.aM (l:=v1.aI) Z Z Z Z fB Z (ah.aA _) (J 1 Z (AW.row 1 9 (LK3 (fun BJ v2 i1=>[(1,.ref (aL v1)),(3,.own v2 (List.map wR BJ)),(28,.list (ah.aT v1.aI)),(29,iP (v1.aI.length:Int)),(30,iP i1)]) (fun BJ v2 i1=>[.row v2 (List.map wR BJ).length 1 9]) (fun bP BJ v2 i1=>qK eG v1 bP BJ i1=some r0) BIG [] (.slice none 0 0) 0 Z Z hf (fun _ _ _ hz=>bG hz) ?_))))); intro bP BJ v2 i1 hf; rw [qK] at hf; refine V 1 Z (C hf Z (fun h9 hf=>?_) fun h9 hf=>?_)
   ·
    refine B1 hf fun e1 h10 hf=>W 1 Z (AS Z (AO.aJ h10 Z Z (ah.aA _) Z fB (ah.aC _) Z (U 1 Z (AS Z (AO.aF Z gV (fun b5=>(Rw 5 [0] Z Z (C hf Z (fun h11 hf=>?_) fun h11 hf=>?_))))))))
    ·
     refine AW.draw 12 mixed (by kernel_rfl) Z ?_; refine Ev.cs aH 4 Z ?_; refine B1 hf fun e2 h12 hf=>Ev.cons Z Z Z (AO.aJ h12 Z Z Z Z fE Z Z zg) (Ev.cs aH 1 Z ?_); refine B1 hf fun x4 kQ hf=>Ev.cons Z Z Z (AO.call Z _ Z Z aeH (EY _ kQ zg)) ?_; refine B1 hf fun x5 lQ hf=>Ev.cons Z Z Z (AO.R3 lQ Z Z Z zg) (Ev.cons Z Z Z (AO.aP (i:=0) Z Z Z o8 Z Z zg) ?_); refine B1 hf fun x6 ng hf=>Ev.cons Z Z Z (AO.call Z _ Z Z aeK (za _ ng zg)) ?_; refine B1 hf fun x7 h16 hf=>Ev.cons Z Z Z (AO.R3 h16 Z Z Z zg) (Ev.cons Z Z Z (AO.aX (List.map wR ([x7]:List Str)) Z Eb Z Z Z Z zg) (Ev.nil ?_)); show AR _ _ _ _ _ _ _ _; refine B1 hf fun Z9 vG hf=>AS Z (AO.iC (i:=1) (l:=BJ) (m:=([x7]:List Str)) vG Z Z Z Z Z Z Z Eb fE Z Z Z (fun _=>Z) (fun _=>Z) (by decide) (fun v3 s1 hs1=>?_)); cases hs1; refine dY 3 Z (AR.drop1 ?_); exact N 0 Z ⟨Z9,v3,(bW (i1 + 1)),Z,Z,Z,hf⟩
    refine B1 hf fun x8 h18 hf=>Wr 2 [0] Z Z (CL Z (za _ h18 (AS Z (AO.aX (List.map wR ([x8]:List Str)) Z Eb Z Z Z Z ?_)))); refine B1 hf fun Z8 h19 hf=>AS Z (AO.iC (i:=1) (l:=BJ) (m:=([x8]:List Str)) h19 Z Z Z Z Z Z Z Eb fE Z Z Z (fun _=>Z) (fun _=>Z) (by decide) (fun v4 s2 hs2=>?_)); cases hs2; refine dY 3 Z (AR.drop1 ?_); exact N 0 Z ⟨Z8,v4,(bW (i1 + 1)),Z,Z,Z,hf⟩
   refine B1 hf fun s3 h20 hf=>W 1 Z (CL Z (DI _ _ h20 (J 4 Z (C hf Z (fun h21 hf=>?_) fun h21 hf=>?_))))
   · refine B1 hf fun x9 h22 hf=>W 1 Z (AS Z (AO.R3 h22 Z Z Z ?_)); refine BR hf fun BH h23 hf=>?_; refine AS Z (AO.R3 h23 Z Z Z ?_); cases hf; exact N 1 Z (Y Z h)
   refine B1 hf fun Hl Fb hf=>W 1 Z (AS Z (AO.R3 Fb Z Z Z ?_)); refine BR hf fun Kn DV hf=>?_; refine AS Z (AO.R3 DV Z Z Z ?_); cases hf; exact N 1 Z (Y Z h)
  cases h7.symm.trans h8
 refine V 2 Z (C hf Z (fun Ij hf=>?_) fun Ij hf=>?_)
 ·
  refine W 3 Z (AS Z (AO.aM (l:=v1.aI) Z Z Z Z fB Z (ah.aA _) (J 1 Z (AW.row 1 9 (LK3 (fun EW v5 i2=>[(1,.ref (aL v1)),(3,.own v5 (List.map wR EW)),(28,.list (ah.aT v1.aI)),(29,iP (v1.aI.length:Int)),(30,iP i2)]) (fun EW v5 i2=>[.row v5 (List.map wR EW).length 1 9]) (fun Ke EW v5 i2=>uW eG v1 Ke EW i2=some r0) BIG [] (.slice none 0 0) 0 Z Z hf (fun _ _ _ hz=>bG hz) ?_))))); intro Ke EW v5 i2 hf; rw [uW] at hf; refine V 1 Z (C hf Z (fun h27 hf=>?_) fun h27 hf=>?_)
  ·
   refine B1 hf fun e3 Qb hf=>W 1 Z (AS Z (AO.aJ Qb Z Z (ah.aA _) Z fB (ah.aC _) Z (U 1 Z (AS Z (AO.aF Z gV (fun aon=>(Rw 5 [0] Z Z (AW.cond Z (fun Ll=>?_) (fun Ll=>?_)))))))))
   ·
    refine AW.draw 12 mixed (by kernel_rfl) Z ?_; refine Ev.cs aH 4 Z ?_; refine B1 hf fun e4 Lj hf=>Ev.cons Z Z Z (AO.aJ Lj Z Z Z Z fE Z Z zg) (Ev.cs aH 1 Z ?_); refine B1 hf fun KZ h31 hf=>Ev.cons Z Z Z (AO.call Z _ Z Z aeH (EY _ h31 zg)) ?_; refine B1 hf fun SQ h32 hf=>Ev.cons Z Z Z (AO.R3 h32 Z Z Z zg) (Ev.cons Z Z Z (AO.aP (i:=0) Z Z Z o8 Z Z zg) ?_); refine B1 hf fun OI Io hf=>Ev.cons Z Z Z (AO.call Z _ Z Z aeK (za _ Io zg)) ?_; refine B1 hf fun Iu Xa hf=>Ev.cons Z Z Z (AO.R3 Xa Z Z Z zg) (Ev.cons Z Z Z (AO.aX (List.map wR ([Iu]:List Str)) Z Eb Z Z Z Z zg) (Ev.nil ?_)); show AR _ _ _ _ _ _ _ _; refine B1 hf fun Z7 Ru hf=>AS Z (AO.iC (i:=1) (l:=EW) (m:=([Iu]:List Str)) Ru Z Z Z Z Z Z Z Eb fE Z Z Z (fun _=>Z) (fun _=>Z) (by decide) (fun v6 s4 hs4=>?_)); cases hs4; refine dY 3 Z (AR.drop1 ?_); exact N 0 Z ⟨Z7,v6,(bW (i2 + 1)),Z,Z,Z,hf⟩
   cases Ij.symm.trans Ll
  refine B1 hf fun s5 Rt hf=>W 1 Z (CL Z (DI _ _ Rt (J 4 Z (AW.cond Z (fun h37=>?_) (fun h37=>?_)))))
  · refine B1 hf fun SN UZ hf=>W 1 Z (AS Z (AO.R3 UZ Z Z Z ?_)); refine BR hf fun Zp M0 hf=>?_; refine AS Z (AO.R3 M0 Z Z Z ?_); cases hf; exact N 1 Z (Y Z h)
  cases Ij.symm.trans h37
 cases hf; exact M 1 Z (Y Z h)
theorem Pq :∀ k:Nat,(Ib (pF k)):=by
 intro k
 induction k with
 | zero=>exact fun _ _ hz=>by first | cases hz | (unfold pF at hz; cases hz)
 | succ k ih=>exact fun qH aO hz τ Q hq=>Pj (pF k) ih qH hz hq
theorem PG (qH:ah) {aO:Str} (hf:ER qH=some aO) (h:Q (.ret (.str aO)) τ):PC 261 [.agg (aL qH)] τ Q:=
 ((Pq BIG)) qH hf h
end
section
variable [Hf]
theorem WI (v1:ah) {r0:Str} {r1:Int} (hf:CY v1=some (r0,r1)) (h:Q (.ret (.tuple [.str r0,iP r1])) τ):PC 232 [.agg (aL v1)] τ Q:=by
 unfold CY at hf; refine BN 28 [.tmp 2,.tmp 3] [0] Tryz.func232 Z Z Z Z Z (W 7 Z (On 4 8 12 [1] (v1.kind == 5) Z Z Z Z (J 0 Z (C hf Z (fun h2 hf=>?_) fun h2 hf=>?_))))
 · cases hf; exact M 2 Z (Y Z h)
 refine B1 hf fun e1 h3 hf=>W 1 Z (CL Z (qD _ h3 (J 3 Z (C hf Z (fun h4 hf=>?_) fun h4 hf=>?_))))
 · cases hf; exact M 3 Z (Y Z h)
 refine V 4 Z (C hf Z (fun h5 hf=>?_) fun h5 hf=>?_)
 · cases hf; exact M 2 Z (Y Z h)
 refine V 2 Z (C hf Z (fun h6 hf=>?_) fun h6 hf=>?_)
 · cases hf; exact M 4 Z (Y Z h)
 refine B1 hf fun x1 h7 hf=>W 1 Z (CL Z (PG _ h7 ?_)); cases hf; exact N 2 Z (Y Z h)
end
theorem KS (s1:Str) (lo1:UInt8) (hi1:UInt8) (Fe:Int) {r0:Str} (hf:xS s1 lo1 hi1 Fe=some r0) (h:Q (.ret (.str r0)) τ):PC 233 [.str s1,.int .u8 (lo1.toNat:Int),.int .u8 (hi1.toNat:Int),iP Fe] τ Q:=by
 unfold xS at hf; refine BN 42 [.tmp 8] [0,1,2,3] Tryz.func233 Z Z Z Z Z (W 1 Z (AS Z (AO.Vj (eu:=5) Z adU Z (fun b9=>(J 1 Z (LK3 (fun i1 b1 v1=>[(0,.str s1),(1,.int .u8 (lo1.toNat:Int)),(2,.int .u8 (hi1.toNat:Int)),(3,iP Fe),(9,pP b9),(10,iP i1)]) (fun i1 b1 v1=>[.NC b9 v1 170 5 b1]) (fun bP i1 b1 v1=>qV s1 lo1 hi1 Fe bP i1 b1=some r0) BIG 0 [] (.slice none 0 0) Z Z hf (fun _ _ _ hz=>bG hz) ?_)))))); intro bP i1 b1 v1 hf; rw [qV] at hf; refine W 2 Z (AS Z (AO.cB Z Z Z Z d9 Z (J 1 Z (C hf Z (fun h1 hf=>?_) fun h1 hf=>?_))))
 ·
  refine B1 hf fun x1 h2 hf=>W 2 Z (AS Z (AO.gM h2 Z d9 Z Z ?_)); refine B1 hf fun b2 h4 hf=>U 3 Z (AR.cZ 6 22 28 true [0,1,2,3,9,10] b2 Z Z (fun h3=>?_) (fun h3=>?_) ?_)
  · refine IT 22 h3 h4 Z fun h4=>?_; refine B1 h4 fun x2 h5 h4=>U 2 Z (GO Z (AO.gM h5 Z d9 Z Z ?_)); cases h4; exact dY 3 Z (En [28,0,1,2,3,9,10] Z)
  · refine IF 22 h3 h4 Z fun h4=>?_; cases h4; exact dY 6 Z (En [28,0,1,2,3,9,10] Z)
  refine J 0 Z (C hf Z (fun h6 hf=>?_) fun h6 hf=>?_)
  · refine B1 hf fun x3 h7 hf=>W 2 Z (AS Z (AO.gM h7 Z d9 Z Z (AS Z (AO.U6 Z aiY ZI Z Z (U 2 Z (AS Z (AO.afM Z ZI aiY Z ?_))))))); refine B1 hf fun b3 h8 hf=>CL Z (AC.one 0 Z (kF h8 (fun v2=>⟨_,Z,?_⟩))); exact N 3 Z ⟨(bW (i1 + 1)),b3,v2,Z,Z,Z,hf⟩
  refine B1 hf fun x4 h9 hf=>W 2 Z (AS Z (AO.gM h9 Z d9 Z Z ?_)); refine B1 hf fun b4 h10 hf=>CL Z (AC.one 0 Z (kF h10 (fun v3=>⟨_,Z,?_⟩))); exact N 3 Z ⟨(bW (i1 + 1)),b4,v3,Z,Z,Z,hf⟩
 refine W 0 Z (CL Z (AC.abC 0 Z (Nu ?_))); cases hf; exact N 1 Z (Y Z h)
section
variable [Hf]
theorem T_ (s1:Str) {r0:Int} {r1:Bool} (hf:uz s1=some (r0,r1)) (h:Q (.ret (.tuple [iP r0,.bool r1])) τ):PC 234 [.str s1] τ Q:=by
 unfold uz at hf; refine BN 28 [.tmp 2,.tmp 3] [0] Tryz.func234 Z Z Z Z Z ?_; obtain ⟨n1,afF,h1,hf⟩:=bK hf; refine W 3 Z (CL Z (DJ _ h1 (U 6 Z (AS Z (AO.eqNil Z afq Z Z ?_))))); refine B1 hf fun b1 h3 hf=>U 1 Z (AR.cZ 5 13 18 false [4] b1 Z Z (fun h2=>?_) (fun h2=>?_) ?_)
 · refine IF 13 h2 h3 Z fun h3=>?_; refine B1 h3 fun x1 h4 h3=>U 1 Z (GO Z (AO.call Z _ Z Z ajk (JG _ h4 ?_))); cases h3; exact dY 3 Z (En [18,4] Z)
 · refine IT 13 h2 h3 Z fun h3=>?_; cases h3; exact dY 5 Z (En [18,4] Z)
 refine U 1 Z (On 3 19 22 [4] (decide (n1 < (-9007199254740992))) Z Z Z Z (U 1 Z (On 3 23 26 [4] (decide (9007199254740992 < n1)) Z Z Z Z (J 0 Z (C hf Z (fun h7 hf=>?_) fun h7 hf=>?_)))))
 · cases hf; exact M 2 Z (Y Z h)
 cases hf; exact M 3 Z (Y Z h)
end
section
variable [Hf]
@[reducible] def Zw :fJ aD ah→eD
 | .ok r=>.ret (.agg (aL r))
 | .bad e=>.panic (.iface 111 (.agg [iP e.code]))
theorem Sv (name1:Str) (v1:ah) {rX:fJ aD ah} (hf:Jr name1 v1=some rX) (h:Q (Zw rX) τ):PC 179 [.str name1,.agg (aL v1)] τ Q:=by
 unfold Jr at hf; refine BN 78 [.cell 4 31] [0,1] Tryz.func179 Z Z Z Z Z (W 1 Z (AS Z (AO.aF Z gV (fun b4=>(J 3 Z (C hf Z (fun h1 hf=>?_) fun h1 hf=>?_))))))
 ·
  refine B1 hf fun x1 h2 hf=>W 1 Z (CL Z (j3 _ _ h2 ?_)); refine B1 hf fun b1 h4 hf=>U 1 Z (AR.cZ 3 14 17 false [3,4] b1 Z Z (fun h3=>?_) (fun h3=>?_) ?_)
  · refine IF 14 h3 h4 Z fun h4=>?_; refine BR h4 fun x2 h5 h4=>?_; refine U 1 Z (GO Z (AO.call Z _ Z Z NU (j3 _ _ h5 ?_))); cases h4; exact dY 1 Z (En [17,3,4] Z)
  · refine IT 14 h3 h4 Z fun h4=>?_; cases h4; exact dY 3 Z (En [17,3,4] Z)
  refine B1 hf fun b2 h7 hf=>U 1 Z (AR.cZ 3 18 21 false [3,4] b2 Z Z (fun h6=>?_) (fun h6=>?_) ?_)
  · refine IF 18 h6 h7 Z fun h7=>?_; refine BR h7 fun x3 h8 h7=>?_; refine U 1 Z (GO Z (AO.call Z _ Z Z NU (j3 _ _ h8 ?_))); cases h7; exact dY 1 Z (En [21,3,4] Z)
  · refine IT 18 h6 h7 Z fun h7=>?_; cases h7; exact dY 3 Z (En [21,3,4] Z)
  rcases bD hf with ⟨e1,h9,hf⟩ | ⟨_,h9,hf⟩
  · refine CL Z (bB _ _ h9 ?_); cases hf; exact ⟨Z,[],List.nil_sublist _,h⟩
  refine CL Z (bB _ _ h9 (U 2 Z (AS Z (AO.cB Z Z Z Z d9 Z (U 2 Z (AS Z (AO.aM (l:=v1.aI) Z Z Z Z fB Z (ah.aA _) ?_))))))); refine B1 hf fun x4 h10 hf=>U 1 Z (CL Z (uK _ h10 ?_)); cases hf; exact Rx 1 [0] Z Z (ZC [0] Z Z h)
 refine V 2 Z (C hf Z (fun h11 hf=>?_) fun h11 hf=>?_)
 ·
  refine B1 hf fun x5 h12 hf=>W 1 Z (CL Z (j3 _ _ h12 ?_)); rcases bD hf with ⟨e2,kQ,hf⟩ | ⟨_,kQ,hf⟩
  · refine CL Z (bB _ _ kQ ?_); cases hf; exact ⟨Z,[],List.nil_sublist _,h⟩
  refine CL Z (bB _ _ kQ ?_); refine B1 hf fun x6 lQ hf=>U 2 Z (CL Z (O6 _ lQ ?_)); cases hf; exact Rx 1 [0] Z Z (ZC [0] Z Z h)
 refine V 2 Z (C hf Z (fun ng hf=>?_) fun ng hf=>?_)
 ·
  obtain ⟨t1,e3,h16,hf⟩:=bK hf; refine W 1 Z (CL Z (WI _ h16 ?_)); rcases bD hf with ⟨e4,vG,hf⟩ | ⟨_,vG,hf⟩
  · refine U 8 Z (CL Z (bB _ _ vG ?_)); cases hf; exact ⟨Z,[],List.nil_sublist _,h⟩
  refine U 8 Z (CL Z (bB _ _ vG ?_)); refine B1 hf fun x7 h18 hf=>U 1 Z (CL Z (uJ _ h18 ?_)); cases hf; exact Rx 1 [0] Z Z (ZC [0] Z Z h)
 refine B1 hf fun x8 h19 hf=>W 1 Z (CL Z (j3 _ _ h19 ?_)); rcases bD hf with ⟨e5,h20,hf⟩ | ⟨_,h20,hf⟩
 · refine CL Z (bB _ _ h20 ?_); cases hf; exact ⟨Z,[],List.nil_sublist _,h⟩
 refine CL Z (bB _ _ h20 (J 3 Z (C hf Z (fun h21 hf=>?_) fun h21 hf=>?_)))
 · refine B1 hf fun x9 h22 hf=>W 2 Z (CL Z (KS _ _ _ _ h22 ?_)); refine B1 hf fun BH h23 hf=>CL Z (uJ _ h23 ?_); cases hf; exact Rx 1 [0] Z Z (ZC [0] Z Z h)
 refine V 2 Z (C hf Z (fun Fb hf=>?_) fun Fb hf=>?_)
 · refine B1 hf fun Hl DV hf=>W 2 Z (CL Z (KS _ _ _ _ DV ?_)); refine B1 hf fun Kn Ij hf=>CL Z (uJ _ Ij ?_); cases hf; exact Rx 1 [0] Z Z (ZC [0] Z Z h)
 obtain ⟨n1,ok1,h27,hf⟩:=bK hf; refine W 2 Z (CL Z (T_ _ h27 ?_)); rcases bD hf with ⟨e6,Qb,hf⟩ | ⟨_,Qb,hf⟩
 · refine U 6 Z (CL Z (bB _ _ Qb ?_)); cases hf; exact ⟨Z,[],List.nil_sublist _,h⟩
 refine U 6 Z (CL Z (bB _ _ Qb ?_)); refine B1 hf fun KZ Ll hf=>U 1 Z (CL Z (uK _ Ll ?_)); cases hf; exact Rx 1 [0] Z Z (ZC [0] Z Z h)
end
theorem KL (b1:Bool) {r0:Int} (hf:tN b1=some r0) (h:Q (.ret (iP r0)) τ):PC 270 [.bool b1] τ Q:=by
 unfold tN at hf; refine BN 4 [.tmp 2] [0] Tryz.func270 Z Z Z Z Z (V 2 Z (C hf Z (fun h1 hf=>?_) fun h1 hf=>?_))
 · cases hf; exact M 1 Z (Y Z h)
 cases hf; exact M 1 Z (Y Z h)
theorem gH (wT:List ah) (zL:List ah) (JC:ah→ah→Option Int) (Np:FuncId) (RU:List PV) (afR:aV Tryz.prog Np=true) (afS:∀ a0 a1 b0,JC a0 a1=some b0→∀ {τ:List bg} {Q:eD→List bg→Prop},Q (.ret (iP b0)) τ→PC Np ([.agg (aL a0),.agg (aL a1)] ++ RU) τ Q) {r0:Int} (hf:bL wT zL JC=some r0) (h:Q (.ret (iP r0)) τ):PC 272 [.list (ah.aT wT),.list (ah.aT zL),.fn Np RU] τ Q:=by
 unfold bL at hf; refine BN 39 [.tmp 6] [0,1,2] Tryz.func272 Z Z Z Z Z (W 2 Z (AS Z (AO.aM (l:=wT) Z Z Z Z fB Z (ah.aA _) (J 1 Z (E_ (fun i1=>[(0,.list (ah.aT wT)),(1,.list (ah.aT zL)),(2,.fn Np RU),(11,.list (ah.aT wT)),(12,iP (wT.length:Int)),(13,iP i1)]) (fun i1=>[]) (fun bP i1=>bS wT zL JC bP i1=some r0) BIG 0 Z Z hf (fun _ hz=>bG hz) ?_))))); intro bP i1 hf; rw [bS] at hf; refine V 1 Z (C hf Z (fun h1 hf=>?_) fun h1 hf=>?_)
 ·
  refine B1 hf fun e1 h2 hf=>W 1 Z (AS Z (AO.aJ h2 Z Z (ah.aA _) Z fB (ah.aC _) Z (U 1 Z (AS Z (AO.aF Z gV (fun b8=>(Rr 4 [0] Z Z (AS Z (AO.aM (l:=zL) Z Z Z Z fB Z (ah.aA _) (J 1 Z (C hf Z (fun h3 hf=>?_) fun h3 hf=>?_)))))))))))
  · cases hf; exact M 1 Z (Y Z h)
  refine B1 hf fun e2 h4 hf=>W 2 Z (AS Z (AO.aJ h4 Z Z (ah.aA _) Z fB (ah.aC _) Z (U 1 Z (AS Z (AO.aF Z gV (fun b9=>?_)))))); refine B1 hf fun c1 h5 hf=>Rr 4 [0,1,0] Z Z (AS Z (AO.call Z _ Z Z afR (afS _ _ _ h5 (J 3 Z (C hf Z (fun h6 hf=>?_) fun h6 hf=>?_)))))
  · cases hf; exact M 2 Z (Y Z h)
  refine Wn0 2 Z (AR.drop1 (AR.drop1 ?_)); exact N 0 Z ⟨(bW (i1 + 1)),Z,Z,Z,hf⟩
 refine W 1 Z (AS Z (AO.aM (l:=wT) Z Z Z Z fB Z (ah.aA _) (U 1 Z (AS Z (AO.aM (l:=zL) Z Z Z Z fB Z (ah.aA _) (J 1 Z (C hf Z (fun h7 hf=>?_) fun h7 hf=>?_)))))))
 · cases hf; exact M 1 Z (Y Z h)
 cases hf; exact M 1 Z (Y Z h)
theorem n_ (wT:List Str) (zL:List Str) (JC:Str→Str→Option Int) (Np:FuncId) (RU:List PV) (afR:aV Tryz.prog Np=true) (afS:∀ a0 a1 b0,JC a0 a1=some b0→∀ {τ:List bg} {Q:eD→List bg→Prop},Q (.ret (iP b0)) τ→PC Np ([.str a0,.str a1] ++ RU) τ Q) {r0:Int} (hf:dP wT zL JC=some r0) (h:Q (.ret (iP r0)) τ):PC 273 [sP wT,sP zL,.fn Np RU] τ Q:=by
 unfold dP at hf; refine BN 39 [.tmp 6] [0,1,2] Tryz.func273 Z Z Z Z Z (W 2 Z (AS Z (AO.aM (l:=wT) Z Z Z Z fE Z Z (J 1 Z (E_ (fun i1=>[(0,sP wT),(1,sP zL),(2,.fn Np RU),(11,sP wT),(12,iP (wT.length:Int)),(13,iP i1)]) (fun i1=>[]) (fun bP i1=>dH wT zL JC bP i1=some r0) BIG 0 Z Z hf (fun _ hz=>bG hz) ?_))))); intro bP i1 hf; rw [dH] at hf; refine V 1 Z (C hf Z (fun h1 hf=>?_) fun h1 hf=>?_)
 ·
  refine B1 hf fun ak2 h2 hf=>W 1 Z (AS Z (AO.aJ h2 Z Z Z Z fE Z Z (U 5 Z (AS Z (AO.aM (l:=zL) Z Z Z Z fE Z Z (J 1 Z (C hf Z (fun h3 hf=>?_) fun h3 hf=>?_)))))))
  · cases hf; exact M 1 Z (Y Z h)
  refine B1 hf fun ak1 h4 hf=>W 2 Z (AS Z (AO.aJ h4 Z Z Z Z fE Z Z ?_)); refine B1 hf fun c1 h5 hf=>U 5 Z (AS Z (AO.call Z _ Z Z afR (afS _ _ _ h5 (J 3 Z (C hf Z (fun h6 hf=>?_) fun h6 hf=>?_)))))
  · cases hf; exact M 2 Z (Y Z h)
  exact M 2 Z ⟨(bW (i1 + 1)),Z,Z,Z,hf⟩
 refine W 1 Z (AS Z (AO.aM (l:=wT) Z Z Z Z fE Z Z (U 1 Z (AS Z (AO.aM (l:=zL) Z Z Z Z fE Z Z (J 1 Z (C hf Z (fun h7 hf=>?_) fun h7 hf=>?_)))))))
 · cases hf; exact M 1 Z (Y Z h)
 cases hf; exact M 1 Z (Y Z h)
abbrev Ic (jR:ah→ah→Option Int):Prop:=∀ (pI:ah) (pG:ah) {aO:Int},jR pI pG=some aO→∀ {τ:List bg} {Q:eD→List bg→Prop} (h:Q (.ret (iP aO)) τ),PC 241 [.agg (aL pI),.agg (aL pG)] τ Q
theorem Pk (jR) (Ey:Ic jR) (a1:ah) (b1:ah) {r0:Int} (hf:wI jR a1 b1=some r0) (h:Q (.ret (iP r0)) τ):PC 241 [.agg (aL a1),.agg (aL b1)] τ Q:=by
 unfold wI at hf; refine BN 62 [.tmp 4] [0,1] Tryz.func241 Z Z Z Z Z ?_; refine B1 hf fun c1 h1 hf=>W 7 Z (CL Z (nD _ _ h1 (J 3 Z (C hf Z (fun h2 hf=>?_) fun h2 hf=>?_))))
 · cases hf; exact M 2 Z (Y Z h)
 refine V 4 Z (C hf Z (fun h3 hf=>?_) fun h3 hf=>?_)
 ·
  refine V 0 Z (AW.draw 8 mixed (by kernel_rfl) Z ?_); refine Ev.cs aH 2 Z ?_; refine B1 hf fun x1 h4 hf=>Ev.cons Z Z Z (AO.call Z _ Z Z aeJ (KL _ h4 zg)) (Ev.cs aH 2 Z ?_); refine B1 hf fun x2 h5 hf=>Ev.cons Z Z Z (AO.call Z _ Z Z aeJ (KL _ h5 zg)) ?_; refine BR hf fun x3 h6 hf=>?_; refine Ev.cons Z Z Z (AO.call Z _ Z Z ajj (nD _ _ h6 zg)) (Ev.cs aH 1 Z (Ev.nil ?_)); show AR _ _ _ _ _ _ _ _; cases hf; exact N 0 Z (Y Z h)
 refine V 2 Z (C hf Z (fun h7 hf=>?_) fun h7 hf=>?_)
 · refine BR hf fun x4 h8 hf=>?_; refine W 4 Z (CL Z (nD _ _ h8 ?_)); cases hf; exact N 1 Z (Y Z h)
 refine V 2 Z (C hf Z (fun h9 hf=>?_) fun h9 hf=>?_)
 · refine BR hf fun x5 h10 hf=>?_; refine W 4 Z (CL Z (Bv _ _ h10 ?_)); cases hf; exact N 1 Z (Y Z h)
 refine V 2 Z (C hf Z (fun h11 hf=>?_) fun h11 hf=>?_)
 · refine BR hf fun x6 h12 hf=>?_; refine W 4 Z (CL Z (gH _ _ jR 241 [] aeN (fun _ _ _ hz=>Ey _ _  hz) h12 ?_)); cases hf; exact N 1 Z (Y Z h)
 refine V 2 Z (C hf Z (fun kQ hf=>?_) fun kQ hf=>?_)
 ·
  refine B1 hf fun c2 lQ hf=>W 4 Z (CL Z (n_ _ _ iW 248 [] aeM (fun _ _ _ hz=>BP _ _  hz) lQ (J 3 Z (C hf Z (fun ng hf=>?_) fun ng hf=>?_))))
  · cases hf; exact M 2 Z (Y Z h)
  refine BR hf fun x7 h16 hf=>?_; refine W 4 Z (CL Z (gH _ _ jR 241 [] aeN (fun _ _ _ hz=>Ey _ _  hz) h16 ?_)); cases hf; exact N 1 Z (Y Z h)
 cases hf; exact M 1 Z (Y Z h)
theorem Pt :∀ k:Nat,(Ic (iN k)):=by
 intro k
 induction k with
 | zero=>exact fun _ _ _ hz=>by first | cases hz | (unfold iN at hz; cases hz)
 | succ k ih=>exact fun pI pG aO hz τ Q hq=>Pk (iN k) ih pI pG hz hq
theorem HV (pI:ah) (pG:ah) {aO:Int} (hf:wh pI pG=some aO) (h:Q (.ret (iP aO)) τ):PC 241 [.agg (aL pI),.agg (aL pG)] τ Q:=
 ((Pt BIG)) pI pG hf h
theorem EZ (a1:ah) (b1:ah) {r0:Bool} (hf:mU a1 b1=some r0) (h:Q (.ret (.bool r0)) τ):PC 183 [.agg (aL a1),.agg (aL b1)] τ Q:=by
 unfold mU at hf; refine BN 9 [.tmp 4] [0,1] Tryz.func183 Z Z Z Z Z ?_; refine B1 hf fun x1 h1 hf=>W 5 Z (CL Z (HV _ _ h1 ?_)); cases hf; exact N 2 Z (Y Z h)
theorem rF (a1:ah) (b1:ah) (oZ:Int) {r0:Bool} (hf:pK a1 b1 oZ=some r0) (h:Q (.ret (.bool r0)) τ):PC 237 [.agg (aL a1),.agg (aL b1),iP oZ] τ Q:=by
 unfold pK at hf; refine BN 17 [.tmp 6] [0,1,2] Tryz.func237 Z Z Z Z Z (W 8 Z (An 5 11 16 [] (b1.kind == oZ) Z Z Z Z ?_)); cases hf; exact N 1 Z (Y Z h)
section
variable [Hf]
def TD :Go.Shelf.Ren:=⟨fun | 144=>264 | 143=>299 | 219=>337 | 217=>358 | 225=>359 | 224=>360 | 267=>361 | 266=>373 | 314=>374 | n=>n,fun | 9=>9 | 4=>4 | 3=>3 | 5=>5 | 46=>247 | 146=>320 | 51=>268 | n=>n,fun | 1=>2 | n=>n⟩
theorem adi :Go.Proofs.Lays.n144 Tryz.prog TD:={
 mixed:=by kernel_rfl
 f143:=Tryz.func299.trans (congrArg some (by kernel_rfl))
 f144:=Tryz.func264.trans (congrArg some (by kernel_rfl))
 f217:=Tryz.func358.trans (congrArg some (by kernel_rfl))
 f219:=Tryz.func337.trans (congrArg some (by kernel_rfl))
 f224:=Tryz.func360.trans (congrArg some (by kernel_rfl))
 f225:=Tryz.func359.trans (congrArg some (by kernel_rfl))
 f266:=Tryz.func373.trans (congrArg some (by kernel_rfl))
 f267:=Tryz.func361.trans (congrArg some (by kernel_rfl))
 f314:=Tryz.func374.trans (congrArg some (by kernel_rfl))
 t3:=Tryz.underlying3
 a3:=Tryz.isAgg3
 z3:=Tryz.sizeOf3
 v3:=Tryz.zeroValue3
 t4:=Tryz.underlying4
 a4:=Tryz.isAgg4
 z4:=Tryz.sizeOf4
 v4:=Tryz.zeroValue4
 t5:=Tryz.underlying5
 a5:=Tryz.isAgg5
 z5:=Tryz.sizeOf5
 v5:=Tryz.zeroValue5
 t9:=Tryz.underlying9
 a9:=Tryz.isAgg9
 z9:=Tryz.sizeOf9
 v9:=Tryz.zeroValue9
 t46:=Tryz.underlying247
 a46:=Tryz.isAgg247
 z46:=Tryz.sizeOf247
 v46:=Tryz.zeroValue247
 t51:=Tryz.underlying268
 a51:=Tryz.isAgg268
 z51:=Tryz.sizeOf268
 v51:=Tryz.zeroValue268
 t146:=Tryz.underlying320
 a146:=Tryz.isAgg320
 z146:=Tryz.sizeOf320
 v146:=Tryz.zeroValue320
 g1:=by kernel_rfl}
theorem LJ (s1:Str) (t1:Str) {r0:Bool} (hf:strings_Contains s1 t1=some r0) (h:Q (.ret (.bool r0)) τ):PC 264 [.str s1,.str t1] τ Q:=by
 unfold strings_Contains at hf; split at hf
 case isFalse=>cases hf
 rename_i hg; cases hf; refine AC.none ?_; exact AC.contains adi hg Hf.max h
end
section
variable [Hf]
@[reducible] def Ph :fJ aD Bool→eD
 | .ok r=>.ret (.bool r)
 | .bad e=>.panic (.iface 111 (.agg [iP e.code]))
theorem HZ (a1:ah) (b1:ah) {rX:fJ aD Bool} (hf:wE a1 b1=some rX) (h:Q (Ph rX) τ):PC 235 [.agg (aL a1),.agg (aL b1)] τ Q:=by
 unfold wE at hf; refine BN 47 [.tmp 4] [0,1] Tryz.func235 Z Z Z Z Z ?_; refine B1 hf fun x1 h1 hf=>W 4 Z (CL Z (j3 _ _ h1 (J 1 Z (C hf Z (fun h2 hf=>?_) fun h2 hf=>?_))))
 ·
  refine W 2 Z (AS Z (AO.aM (l:=a1.aI) Z Z Z Z fB Z (ah.aA _) (J 1 Z (E_ (fun x2=>[(3,.ref (aL b1)),(13,.list (ah.aT a1.aI)),(14,iP (a1.aI.length:Int)),(15,iP x2)]) (fun x2=>[]) (fun bP x2=>oF a1 b1 bP x2=some rX) BIG 0 Z Z hf (fun _ hz=>bG hz) ?_)))); intro bP x2 hf; rw [oF] at hf; refine V 1 Z (C hf Z (fun h3 hf=>?_) fun h3 hf=>?_)
  ·
   refine B1 hf fun e1 h4 hf=>W 0 Z (AS Z (AO.aJ h4 Z Z (ah.aA _) Z fB (ah.aC _) Z (U 1 Z (AS Z (AO.aF Z gV (fun b6=>?_)))))); refine B1 hf fun x3 h5 hf=>Rr 3 [0,0] Z Z (CL Z (EZ _ _ h5 (J 0 Z (C hf Z (fun h6 hf=>?_) fun h6 hf=>?_))))
   · cases hf; exact M 1 Z (Y Z h)
   refine Wn0 2 Z (AR.drop1 ?_); exact N 0 Z ⟨(bW (x2 + 1)),Z,Z,Z,hf⟩
  cases hf; exact M 1 Z (Y Z h)
 refine B1 hf fun x4 h7 hf=>W 2 Z (CL Z (rF _ _ _ h7 (J 1 Z (C hf Z (fun h8 hf=>?_) fun h8 hf=>?_))))
 · refine B1 hf fun x5 h9 hf=>W 4 Z (CL Z (LJ _ _ h9 ?_)); cases hf; exact N 1 Z (Y Z h)
 refine B1 hf fun x6 h10 hf=>W 1 Z (CL Z (j3 _ _ h10 ?_)); refine B1 hf fun b2 h12 hf=>U 1 Z (AR.cZ 3 34 37 true [2,3] b2 Z Z (fun h11=>?_) (fun h11=>?_) ?_)
 · refine IT 34 h11 h12 Z fun h12=>?_; refine BR h12 fun x7 kQ h12=>?_; refine U 1 Z (GO Z (AO.call Z _ Z Z NU (j3 _ _ kQ ?_))); cases h12; exact dY 1 Z (En [37,2,3] Z)
 · refine IF 34 h11 h12 Z fun h12=>?_; cases h12; exact dY 3 Z (En [37,2,3] Z)
 rcases bD hf with ⟨e2,lQ,hf⟩ | ⟨_,lQ,hf⟩
 · refine CL Z (bB _ _ lQ ?_); cases hf; exact ⟨Z,[],List.nil_sublist _,h⟩
 refine CL Z (bB _ _ lQ ?_); obtain ⟨x8,ok1,ng,hf⟩:=bK hf; refine U 3 Z (CL Z (O0 _ _ ng (U 3 Z (AS Z (AO.aF Z gV (fun b7=>?_)))))); cases hf; exact Rx 4 [0] Z Z (Y Z h)
end
theorem jE (b1:Bool) {r0:ah} (hf:eT b1=some r0) (h:Q (.ret (.agg (aL r0))) τ):PC 181 [.bool b1] τ Q:=by
 unfold eT at hf; refine BN 5 [.cell 2 31] [0] Tryz.func181 Z Z Z Z Z (W 0 Z (AS Z (AO.aF Z gV (fun b2=>?_)))); cases hf; exact Rx 3 [0] Z Z (ZC [0] Z Z h)
section
variable [Hf]
@[reducible] def SX :fJ aD ah→eD
 | .ok r=>.ret (.agg (aL r))
 | .bad e=>.panic (.iface 111 (.agg [iP e.code]))
theorem KT (a1:ah) (b1:ah) {rX:fJ aD ah} (hf:Bj a1 b1=some rX) (h:Q (SX rX) τ):PC 236 [.agg (aL a1),.agg (aL b1)] τ Q:=by
 unfold Bj at hf; refine BN 54 [.cell 4 31] [0,1] Tryz.func236 Z Z Z Z Z (W 2 Z (AS Z (AO.aF Z gV (fun b4=>?_)))); refine B1 hf fun x1 h1 hf=>U 1 Z (CL Z (j3 _ _ h1 ?_)); refine B1 hf fun b2 h3 hf=>U 1 Z (AR.cZ 3 11 14 true [2,3,4] b2 Z Z (fun h2=>?_) (fun h2=>?_) ?_)
 · refine IT 11 h2 h3 Z fun h3=>?_; refine BR h3 fun x2 h4 h3=>?_; refine U 1 Z (GO Z (AO.call Z _ Z Z NU (j3 _ _ h4 ?_))); cases h3; exact dY 1 Z (En [14,2,3,4] Z)
 · refine IF 11 h2 h3 Z fun h3=>?_; cases h3; exact dY 3 Z (En [14,2,3,4] Z)
 rcases bD hf with ⟨e1,h5,hf⟩ | ⟨_,h5,hf⟩
 · refine CL Z (bB _ _ h5 ?_); cases hf; exact ⟨Z,[],List.nil_sublist _,h⟩
 refine CL Z (bB _ _ h5 (U 4 Z (AS Z (AO.aM (l:=a1.aI) Z Z Z Z fB Z (ah.aA _) ?_)))); refine J 1 Z (AW.row 1 9 (LK4 (fun n1 l1 v1 x3=>[(3,.ref (aL b1)),(4,pP b4),(5,iP n1),(6,.own v1 (List.map wR l1)),(17,.list (ah.aT a1.aI)),(18,iP (a1.aI.length:Int)),(19,iP x3)]) (fun n1 l1 v1 x3=>[.row v1 (List.map wR l1).length 1 9,.box b4 [iP 0,.bool false,iP 0,.str ([]:Str),.own (.slice none 0 0) [],.own (.slice none 0 0) []]]) (fun bP n1 l1 v1 x3=>uD a1 b1 bP n1 l1 x3=some rX) BIG 0 [] (.slice none 0 0) 0 Z Z hf (fun _ _ _ _ hz=>bG hz) ?_)); intro bP n1 l1 v1 x3 hf; rw [uD] at hf; refine V 1 Z (C hf Z (fun h6 hf=>?_) fun h6 hf=>?_)
 ·
  refine B1 hf fun e2 h7 hf=>W 0 Z (AS Z (AO.aJ h7 Z Z (ah.aA _) Z fB (ah.aC _) Z (U 1 Z (AS Z (AO.aF Z gV (fun b8=>?_)))))); refine B1 hf fun x4 h8 hf=>Rr 2 [0,0] Z Z (CL Z (j3 _ _ h8 ?_)); rcases bD hf with ⟨e3,h9,hf⟩ | ⟨_,h9,hf⟩
  · refine CL Z (bB _ _ h9 ?_); cases hf; exact ⟨Z,[],List.nil_sublist _,h⟩
  refine CL Z (bB _ _ h9 (Rr 3 [0] Z Z (AS Z (AO.aX (List.map wR ([e2.bO]:List Str)) Z Eb Z Z Z Z ?_)))); refine B1 hf fun l2 h10 hf=>AS Z (AO.iC (i:=1) (l:=l1) (m:=([e2.bO]:List Str)) h10 Z Z Z Z Z Z Z Eb fE Z Z Z (fun _=>Z) (fun _=>Z) (by decide) (fun v2 s1 hs1=>?_)); cases hs1; refine Rr 4 [0] Z Z (AS Z (AO.cB Z Z Z Z d9 Z (dY 4 Z (AR.drop1 ?_)))); exact N 0 Z ⟨(bW (n1 + (e2.bO.length:Int))),l2,v2,(bW (x3 + 1)),Z,Z,Z,hf⟩
 refine W 3 Z (AS Z (AO.cB Z Z Z Z d9 Z (U 1 Z (AS Z (AO.aM (l:=l1) Z Z Z Z fE Z Z (U 1 Z (AS Z (AO.max2 Z Z Z Z Z ?_)))))))); rcases bD hf with ⟨e4,h11,hf⟩ | ⟨_,h11,hf⟩
 · refine U 3 Z (CL Z (bB _ _ h11 ?_)); cases hf; exact ⟨Z,[],List.nil_sublist _,h⟩
 refine U 3 Z (CL Z (bB _ _ h11 ?_)); refine B1 hf fun x5 h12 hf=>U 3 Z (CL Z (DI _ _ h12 ?_)); refine B1 hf fun x6 kQ hf=>CL Z (uJ _ kQ ?_); cases hf; exact Rx 1 [1] Z Z (ZC [1] Z Z h)
end
theorem D7 (s1:Str) (yJ:Str) {r0:Bool} (hf:qR s1 yJ=some r0) (h:Q (.ret (.bool r0)) τ):PC 266 [.str s1,.str yJ] τ Q:=by
 unfold qR at hf; refine BN 18 [.tmp 4] [0,1] Tryz.func266 Z Z Z Z Z (W 2 Z (AS Z (AO.cB Z Z Z Z d9 Z (U 1 Z (AS Z (AO.cB Z Z Z Z d9 Z ?_)))))); refine BR hf fun b1 h2 hf=>?_; refine U 2 Z (AR.cZ 7 10 17 true [] b1 Z Z (fun h1=>?_) (fun h1=>?_) ?_)
 · replace h2:=jN h1 h2; refine Is 10 h1 Z (U 2 Z (GO Z (AO.cB Z Z Z Z d9 Z ?_))); refine B1 h2 fun x1 h3 h2=>GO Z (AO.wS h3 Z d9 Z Z ⟨_,Z⟩ ?_); cases h2; exact dY 3 Z (En [17] Z)
 · refine IF 10 h1 h2 Z fun h2=>?_; cases h2; exact dY 7 Z (En [17] Z)
 cases hf; exact N 1 Z (Y Z h)
theorem Ky (s1:Str) (yJ:Str) {r0:Bool} (hf:strings_HasPrefix s1 yJ=some r0) (h:Q (.ret (.bool r0)) τ):PC 238 [.str s1,.str yJ] τ Q:=by
 unfold strings_HasPrefix at hf; refine BN 8 [.tmp 4] [0,1] Tryz.func238 Z Z Z Z Z ?_; refine BR hf fun x1 h1 hf=>?_; refine W 3 Z (CL Z (D7 _ _ h1 ?_)); cases hf; exact N 1 Z (Y Z h)
theorem D6 (s1:Str) (yu:Str) {r0:Bool} (hf:qQ s1 yu=some r0) (h:Q (.ret (.bool r0)) τ):PC 267 [.str s1,.str yu] τ Q:=by
 unfold qQ at hf; refine BN 21 [.tmp 4] [0,1] Tryz.func267 Z Z Z Z Z (W 2 Z (AS Z (AO.cB Z Z Z Z d9 Z (U 1 Z (AS Z (AO.cB Z Z Z Z d9 Z ?_)))))); refine BR hf fun b1 h2 hf=>?_; refine U 2 Z (AR.cZ 10 10 20 true [] b1 Z Z (fun h1=>?_) (fun h1=>?_) ?_)
 · replace h2:=jN h1 h2; refine Is 10 h1 Z (U 2 Z (GO Z (AO.cB Z Z Z Z d9 Z (U 1 Z (GO Z (AO.cB Z Z Z Z d9 Z ?_)))))); refine B1 h2 fun x1 h3 h2=>U 1 Z (GO Z (AO.wS h3 Z d9 Z ⟨_,Z⟩ Z ?_)); cases h2; exact dY 3 Z (En [20] Z)
 · refine IF 10 h1 h2 Z fun h2=>?_; cases h2; exact dY 10 Z (En [20] Z)
 cases hf; exact N 1 Z (Y Z h)
theorem Kw (s1:Str) (yu:Str) {r0:Bool} (hf:strings_HasSuffix s1 yu=some r0) (h:Q (.ret (.bool r0)) τ):PC 239 [.str s1,.str yu] τ Q:=by
 unfold strings_HasSuffix at hf; refine BN 8 [.tmp 4] [0,1] Tryz.func239 Z Z Z Z Z ?_; refine BR hf fun x1 h1 hf=>?_; refine W 3 Z (CL Z (D6 _ _ h1 ?_)); cases hf; exact N 1 Z (Y Z h)
section
variable [Hf]
def ZM :Go.Shelf.Ren:=⟨fun | 146=>240 | 221=>268 | 268=>302 | 138=>303 | 143=>299 | 195=>339 | 197=>340 | 218=>341 | 219=>337 | 260=>363 | 217=>358 | 225=>359 | 224=>360 | 267=>361 | 266=>373 | 314=>374 | n=>n,fun | 9=>9 | 31=>29 | 3=>3 | 4=>4 | 0=>0 | 105=>283 | 21=>21 | 5=>5 | 46=>247 | 119=>322 | 139=>325 | 138=>324 | 146=>320 | 51=>268 | n=>n,fun | 1=>2 | 3=>4 | 4=>5 | n=>n⟩
theorem ai8 :Go.Proofs.Lays.n146 Tryz.prog ZM:={
 mixed:=by kernel_rfl
 f138:=Tryz.func303.trans (congrArg some (by kernel_rfl))
 f143:=Tryz.func299.trans (congrArg some (by kernel_rfl))
 f146:=Tryz.func240.trans (congrArg some (by kernel_rfl))
 f195:=Tryz.func339.trans (congrArg some (by kernel_rfl))
 f197:=Tryz.func340.trans (congrArg some (by kernel_rfl))
 f217:=Tryz.func358.trans (congrArg some (by kernel_rfl))
 f218:=Tryz.func341.trans (congrArg some (by kernel_rfl))
 f219:=Tryz.func337.trans (congrArg some (by kernel_rfl))
 f221:=Tryz.func268.trans (congrArg some (by kernel_rfl))
 f224:=Tryz.func360.trans (congrArg some (by kernel_rfl))
 f225:=Tryz.func359.trans (congrArg some (by kernel_rfl))
 f260:=Tryz.func363.trans (congrArg some (by kernel_rfl))
 f266:=Tryz.func373.trans (congrArg some (by kernel_rfl))
 f267:=Tryz.func361.trans (congrArg some (by kernel_rfl))
 f268:=Tryz.func302.trans (congrArg some (by kernel_rfl))
 f314:=Tryz.func374.trans (congrArg some (by kernel_rfl))
 t0:=Tryz.underlying0
 a0:=Tryz.isAgg0
 z0:=Tryz.sizeOf0
 v0:=Tryz.zeroValue0
 t3:=Tryz.underlying3
 a3:=Tryz.isAgg3
 z3:=Tryz.sizeOf3
 v3:=Tryz.zeroValue3
 t4:=Tryz.underlying4
 a4:=Tryz.isAgg4
 z4:=Tryz.sizeOf4
 v4:=Tryz.zeroValue4
 t5:=Tryz.underlying5
 a5:=Tryz.isAgg5
 z5:=Tryz.sizeOf5
 v5:=Tryz.zeroValue5
 t9:=Tryz.underlying9
 a9:=Tryz.isAgg9
 z9:=Tryz.sizeOf9
 v9:=Tryz.zeroValue9
 t21:=Tryz.underlying21
 a21:=Tryz.isAgg21
 z21:=Tryz.sizeOf21
 v21:=Tryz.zeroValue21
 t31:=Tryz.underlying29
 a31:=Tryz.isAgg29
 z31:=Tryz.sizeOf29
 v31:=Tryz.zeroValue29
 t46:=Tryz.underlying247
 a46:=Tryz.isAgg247
 z46:=Tryz.sizeOf247
 v46:=Tryz.zeroValue247
 t51:=Tryz.underlying268
 a51:=Tryz.isAgg268
 z51:=Tryz.sizeOf268
 v51:=Tryz.zeroValue268
 t105:=Tryz.underlying283
 a105:=Tryz.isAgg283
 z105:=Tryz.sizeOf283
 v105:=Tryz.zeroValue283
 t119:=Tryz.underlying322
 a119:=Tryz.isAgg322
 z119:=Tryz.sizeOf322
 t138:=Tryz.underlying324
 a138:=Tryz.isAgg324
 z138:=Tryz.sizeOf324
 v138:=Tryz.zeroValue324
 t139:=Tryz.underlying325
 a139:=Tryz.isAgg325
 z139:=Tryz.sizeOf325
 v139:=Tryz.zeroValue325
 t146:=Tryz.underlying320
 a146:=Tryz.isAgg320
 z146:=Tryz.sizeOf320
 v146:=Tryz.zeroValue320
 g1:=by kernel_rfl
 g3:=by kernel_rfl
 g4:=by kernel_rfl}
theorem PK (s1:Str) (t1:Str) {r0:List Str} (hf:strings_Split s1 t1=some r0) (h:Q (.ret (sP r0)) τ):PC 240 [.str s1,.str t1] τ Q:=by
 unfold strings_Split at hf; split at hf
 case isFalse=>cases hf
 rename_i hg; cases hf; refine AC.none ?_; exact AC.split ai8 (by kernel_rfl) hg.1 hg.2 Hf.max h
end
section
variable [Hf]
@[reducible] def Zu :fJ aD ah→eD
 | .ok r=>.ret (.agg (aL r))
 | .bad e=>.panic (.iface 111 (.agg [iP e.code]))
theorem Sq (name1:Str) (a1:ah) (b1:ah) {rX:fJ aD ah} (hf:Jq name1 a1 b1=some rX) (h:Q (Zu rX) τ):PC 180 [.str name1,.agg (aL a1),.agg (aL b1)] τ Q:=by
 unfold Jq at hf; refine BN 62 [.cell 6 31] [0,1,2] Tryz.func180 Z Z Z Z Z (W 2 Z (AS Z (AO.aF Z gV (fun b6=>(J 3 Z (C hf Z (fun h1 hf=>?_) fun h1 hf=>?_))))))
 ·
  refine B1 hf fun x1 h2 hf=>W 1 Z (CL Z (j3 _ _ h2 (J 0 Z (C hf Z (fun h3 hf=>?_) fun h3 hf=>?_))))
  · cases hf; exact Wx 2 [0] Z Z (ZC [0] Z Z h)
  cases hf; exact Wx 2 [0] Z Z (ZC [0] Z Z h)
 refine V 2 Z (C hf Z (fun h4 hf=>?_) fun h4 hf=>?_)
 ·
  rcases bD hf with ⟨e1,h5,hf⟩ | ⟨x2,h5,hf⟩
  · refine W 2 Z (CL Z (HZ _ _ h5 ?_)); cases hf; exact ⟨Z,[],List.nil_sublist _,h⟩
  refine W 2 Z (CL Z (HZ _ _ h5 ?_)); refine B1 hf fun x3 h6 hf=>CL Z (jE _ h6 ?_); cases hf; exact Rx 1 [0] Z Z (ZC [0] Z Z h)
 refine V 2 Z (C hf Z (fun h7 hf=>?_) fun h7 hf=>?_)
 ·
  rcases bD hf with ⟨e2,h8,hf⟩ | ⟨x4,h8,hf⟩
  · refine W 2 Z (CL Z (KT _ _ h8 ?_)); cases hf; exact ⟨Z,[],List.nil_sublist _,h⟩
  refine W 2 Z (CL Z (KT _ _ h8 ?_)); cases hf; exact Rx 1 [0] Z Z (ZC [0] Z Z h)
 refine B1 hf fun x5 h9 hf=>W 2 Z (CL Z (rF _ _ _ h9 ?_)); rcases bD hf with ⟨e3,h10,hf⟩ | ⟨_,h10,hf⟩
 · refine CL Z (bB _ _ h10 ?_); cases hf; exact ⟨Z,[],List.nil_sublist _,h⟩
 refine CL Z (bB _ _ h10 (J 3 Z (C hf Z (fun h11 hf=>?_) fun h11 hf=>?_)))
 · refine B1 hf fun x6 h12 hf=>W 4 Z (CL Z (Ky _ _ h12 ?_)); refine B1 hf fun x7 kQ hf=>CL Z (jE _ kQ ?_); cases hf; exact Rx 1 [0] Z Z (ZC [0] Z Z h)
 refine V 2 Z (C hf Z (fun lQ hf=>?_) fun lQ hf=>?_)
 · refine B1 hf fun x8 ng hf=>W 4 Z (CL Z (Kw _ _ ng ?_)); refine B1 hf fun x9 h16 hf=>CL Z (jE _ h16 ?_); cases hf; exact Rx 1 [0] Z Z (ZC [0] Z Z h)
 rcases bD hf with ⟨e4,vG,hf⟩ | ⟨_,vG,hf⟩
 · refine W 3 Z (CL Z (bB _ _ vG ?_)); cases hf; exact ⟨Z,[],List.nil_sublist _,h⟩
 refine W 3 Z (CL Z (bB _ _ vG ?_)); refine B1 hf fun l1 h18 hf=>U 4 Z (CL Z (PK _ _ h18 (U 2 Z (AS Z (AO.aM (l:=l1) Z Z Z Z fE Z Z ?_))))); rcases bD hf with ⟨e5,h19,hf⟩ | ⟨_,h19,hf⟩
 · refine U 1 Z (CL Z (bB _ _ h19 ?_)); cases hf; exact ⟨Z,[],List.nil_sublist _,h⟩
 refine U 1 Z (CL Z (bB _ _ h19 ?_)); refine B1 hf fun BH h20 hf=>U 1 Z (CL Z (O6 _ h20 ?_)); cases hf; exact Rx 1 [0] Z Z (ZC [0] Z Z h)
end
@[reducible] def Vn :fJ aD Bool→eD
 | .ok r=>.ret (.bool r)
 | .bad e=>.panic (.iface 111 (.agg [iP e.code]))
theorem qo (v1:ah) {rX:fJ aD Bool} (hf:uy v1=some rX) (h:Q (Vn rX) τ):PC 122 [.agg (aL v1)] τ Q:=by
 unfold uy at hf; refine BN 8 [.tmp 2] [0] Tryz.func122 Z Z Z Z Z ?_; refine B1 hf fun x1 h1 hf=>W 3 Z (CL Z (j3 _ _ h1 ?_)); rcases bD hf with ⟨e1,h2,hf⟩ | ⟨_,h2,hf⟩
 · refine CL Z (bB _ _ h2 ?_); cases hf; exact ⟨Z,[],List.nil_sublist _,h⟩
 refine CL Z (bB _ _ h2 ?_); cases hf; exact N 3 Z (Y Z h)
@[reducible] def Vm :fJ aD ah→eD
 | .ok r=>.ret (.agg (aL r))
 | .bad e=>.panic (.iface 111 (.agg [iP e.code]))
theorem Ns (op1:Str) (v1:ah) {rX:fJ aD ah} (hf:Du op1 v1=some rX) (h:Q (Vm rX) τ):PC 120 [.str op1,.agg (aL v1)] τ Q:=by
 unfold Du at hf; refine BN 18 [.cell 4 31] [0,1] Tryz.func120 Z Z Z Z Z (W 1 Z (AS Z (AO.aF Z gV (fun b4=>(J 2 Z (C hf Z (fun h1 hf=>?_) fun h1 hf=>?_))))))
 ·
  rcases bD hf with ⟨e1,h2,hf⟩ | ⟨x1,h2,hf⟩
  · refine W 1 Z (CL Z (qo _ h2 ?_)); cases hf; exact ⟨Z,[],List.nil_sublist _,h⟩
  refine W 1 Z (CL Z (qo _ h2 ?_)); refine B1 hf fun x2 h3 hf=>U 1 Z (CL Z (jE _ h3 ?_)); cases hf; exact Rx 1 [0] Z Z (ZC [0] Z Z h)
 refine B1 hf fun x3 h4 hf=>W 1 Z (CL Z (j3 _ _ h4 ?_)); rcases bD hf with ⟨e2,h5,hf⟩ | ⟨_,h5,hf⟩
 · refine CL Z (bB _ _ h5 ?_); cases hf; exact ⟨Z,[],List.nil_sublist _,h⟩
 refine CL Z (bB _ _ h5 ?_); refine B1 hf fun x4 h6 hf=>U 3 Z (CL Z (uK _ h6 ?_)); cases hf; exact Rx 1 [0] Z Z (ZC [0] Z Z h)
@[reducible] def Vo :fJ aD Int→eD
 | .ok r=>.ret (iP r)
 | .bad e=>.panic (.iface 111 (.agg [iP e.code]))
theorem qp (a1:ah) (b1:ah) {rX:fJ aD Int} (hf:nJ a1 b1=some rX) (h:Q (Vo rX) τ):PC 184 [.agg (aL a1),.agg (aL b1)] τ Q:=by
 unfold nJ at hf; refine BN 17 [.tmp 4] [0,1] Tryz.func184 Z Z Z Z Z ?_; refine B1 hf fun x1 h1 hf=>W 5 Z (CL Z (rF _ _ _ h1 ?_)); refine B1 hf fun b2 h3 hf=>U 1 Z (AR.cZ 4 8 12 false [2,3] b2 Z Z (fun h2=>?_) (fun h2=>?_) ?_)
 · refine IF 8 h2 h3 Z fun h3=>?_; refine BR h3 fun x2 h4 h3=>?_; refine U 2 Z (GO Z (AO.call Z _ Z Z ajp (rF _ _ _ h4 ?_))); cases h3; exact dY 1 Z (En [12,2,3] Z)
 · refine IT 8 h2 h3 Z fun h3=>?_; cases h3; exact dY 4 Z (En [12,2,3] Z)
 rcases bD hf with ⟨e1,h5,hf⟩ | ⟨_,h5,hf⟩
 · refine CL Z (bB _ _ h5 ?_); cases hf; exact ⟨Z,[],List.nil_sublist _,h⟩
 refine CL Z (bB _ _ h5 ?_); refine B1 hf fun x3 h6 hf=>U 2 Z (CL Z (HV _ _ h6 ?_)); cases hf; exact N 1 Z (Y Z h)
@[reducible] def SV :fJ aD ah→eD
 | .ok r=>.ret (.agg (aL r))
 | .bad e=>.panic (.iface 111 (.agg [iP e.code]))
theorem ow (n1:Int) {rX:fJ aD ah} (hf:rE n1=some rX) (h:Q (SV rX) τ):PC 242 [iP n1] τ Q:=by
 unfold rE at hf; refine BN 12 [.cell 2 31] [0] Tryz.func242 Z Z Z Z Z (W 0 Z (AS Z (AO.aF Z gV (fun b2=>(U 3 Z (An 3 5 8 [0,2] (decide (n1≤9007199254740992)) Z Z Z Z ?_)))))); rcases bD hf with ⟨e1,h2,hf⟩ | ⟨_,h2,hf⟩
 · refine CL Z (bB _ _ h2 ?_); cases hf; exact ⟨Z,[],List.nil_sublist _,h⟩
 refine CL Z (bB _ _ h2 ?_); refine B1 hf fun x1 h3 hf=>U 1 Z (CL Z (uK _ h3 ?_)); cases hf; exact Rx 1 [0] Z Z (ZC [0] Z Z h)
@[reducible] def Zv :fJ aD ah→eD
 | .ok r=>.ret (.agg (aL r))
 | .bad e=>.panic (.iface 111 (.agg [iP e.code]))
theorem Sr (a1:ah) (b1:ah) {rX:fJ aD ah} (hf:F4 a1 b1=some rX) (h:Q (Zv rX) τ):PC 185 [.agg (aL a1),.agg (aL b1)] τ Q:=by
 unfold F4 at hf; refine BN 57 [.cell 4 31] [0,1] Tryz.func185 Z Z Z Z Z (W 2 Z (AS Z (AO.aF Z gV (fun b4=>?_)))); refine B1 hf fun x1 h1 hf=>U 2 Z (CL Z (rF _ _ _ h1 (J 1 Z (C hf Z (fun h2 hf=>?_) fun h2 hf=>?_))))
 ·
  rcases bD hf with ⟨e1,h3,hf⟩ | ⟨x2,h3,hf⟩
  · refine W 5 Z (CL Z (ow _ h3 ?_)); cases hf; exact ⟨Z,[],List.nil_sublist _,h⟩
  refine W 5 Z (CL Z (ow _ h3 ?_)); cases hf; exact Rx 1 [0] Z Z (ZC [0] Z Z h)
 refine B1 hf fun x3 h4 hf=>W 2 Z (CL Z (rF _ _ _ h4 (J 1 Z (C hf Z (fun h5 hf=>?_) fun h5 hf=>?_))))
 ·
  refine W 2 Z (AS Z (AO.cB Z Z Z Z d9 Z (U 2 Z (AS Z (AO.cB Z Z Z Z d9 Z ?_))))); rcases bD hf with ⟨e2,h6,hf⟩ | ⟨_,h6,hf⟩
  · refine U 2 Z (CL Z (bB _ _ h6 ?_)); cases hf; exact ⟨Z,[],List.nil_sublist _,h⟩
  refine U 2 Z (CL Z (bB _ _ h6 ?_)); refine B1 hf fun x4 h7 hf=>U 4 Z (AS Z (AO.R3 h7 Z Z Z ?_)); refine B1 hf fun x5 h8 hf=>CL Z (uJ _ h8 ?_); cases hf; exact Rx 1 [0] Z Z (ZC [0] Z Z h)
 refine B1 hf fun x6 h9 hf=>W 2 Z (CL Z (rF _ _ _ h9 ?_)); rcases bD hf with ⟨e3,h10,hf⟩ | ⟨_,h10,hf⟩
 · refine CL Z (bB _ _ h10 ?_); cases hf; exact ⟨Z,[],List.nil_sublist _,h⟩
 refine CL Z (bB _ _ h10 (U 2 Z (AS Z (AO.aM (l:=a1.aI) Z Z Z Z fB Z (ah.aA _) (U 2 Z (AS Z (AO.aM (l:=b1.aI) Z Z Z Z fB Z (ah.aA _) ?_))))))); rcases bD hf with ⟨e4,h11,hf⟩ | ⟨_,h11,hf⟩
 · refine U 2 Z (CL Z (bB _ _ h11 ?_)); cases hf; exact ⟨Z,[],List.nil_sublist _,h⟩
 refine U 2 Z (CL Z (bB _ _ h11 (U 4 Z (AR.row 6 31 ?_)))); refine B1 hf fun l1 h12 hf=>AS Z (AO.iC (i:=0) (l:=[]) (m:=a1.aI) h12 Z Z Z Z Z Z Z Ec fB (show ([]:List (List PV))=List.map ah.cells [] from Z) (ah.aA _) (ah.aA _).symm (ah.dL) (ah.cells_one) (by decide) (fun v1 s1 hs1=>?_)); cases hs1; refine B1 hf fun x7 kQ hf=>U 4 Z (AS Z (AO.iC (i:=0) (l:=l1) (m:=b1.aI) kQ Z Z Z Z Z Z Z Ec fB (ah.aA _) (ah.aA _) (ah.aA _).symm (ah.dL) (ah.cells_one) (by decide) (fun v2 s2 hs2=>?_))); cases hs2; refine B1 hf fun x8 lQ hf=>CL Z (Nt _ lQ ?_); cases hf; exact Rx 1 [1] Z Z (ZC [1] Z Z h)
theorem Sj (n1:Int) {r0:BitVec 64} (hf:Jc n1=some r0) (h:Q (.ret (.int .u64 (r0.toNat:Int))) τ):PC 306 [iP n1] τ Q:=by
 unfold Jc at hf; refine BN 10 [.tmp 2] [0] Tryz.func306 Z Z Z Z Z (V 3 Z (C hf Z (fun h1 hf=>?_) fun h1 hf=>?_))
 · refine W 1 Z (AS Z (AO.aec Z ZI Qv Z (AS Z (AO.u64_neg (BitVec.ofInt 64 n1) Z Z Z ?_)))); cases hf; exact N 1 Z (Y Z h)
 refine W 1 Z (AS Z (AO.aec Z ZI Qv Z ?_)); cases hf; exact N 1 Z (Y Z h)
theorem Sk (a1:Int) (b1:Int) {r0:iI} (hf:Ci a1 b1=some r0) (h:Q (.ret (.agg (OY r0))) τ):PC 274 [iP a1,iP b1] τ Q:=by
 unfold Ci at hf; refine BN 71 [.cell 4 240] [0,1] Tryz.func274 Z Z Z Z Z (W 0 Z (AS Z (AO.aF Z Zt (fun b4=>?_)))); refine B1 hf fun x1 h1 hf=>U 1 Z (CL Z (Sj _ h1 ?_)); refine B1 hf fun y1 h2 hf=>U 1 Z (CL Z (Sj _ h2 (U 3 Z (AS Z (AO.Mh x1 32 Z Z Z Z Z (U 1 Z (AS Z (AO.u64_and x1 (4294967295:BitVec 64) Z Z Z Z Z (U 1 Z (AS Z (AO.Mh y1 32 Z Z Z Z Z ?_))))))))))); refine U 1 Z (AS Z (AO.u64_and y1 (4294967295:BitVec 64) Z Z Z Z Z ?_)); refine B1 hf fun Rc h3 hf=>U 6 Z (AS Z (AO.Qw (x1 &&& (4294967295:BitVec 64)) (y1 &&& (4294967295:BitVec 64)) h3 Z Z Z Z Z ?_)); refine B1 hf fun x2 h4 hf=>U 3 Z (AS Z (AO.Qw (x1 >>> 32) (y1 &&& (4294967295:BitVec 64)) h4 Z Z Z Z Z (U 1 Z (AS Z (AO.Mh Rc 32 Z Z Z Z Z (AS Z (AO.PW x2 (Rc >>> 32) Z Z Z Z Z ?_))))))); refine B1 hf fun x3 h5 hf=>U 3 Z (AS Z (AO.Qw (x1 &&& (4294967295:BitVec 64)) (y1 >>> 32) h5 Z Z Z Z Z ?_)); refine B1 hf fun x4 h6 hf=>?_; refine U 1 Z (AS Z (AO.ad8 (x2 + (Rc >>> 32)) (4294967295:BitVec 64) h6 Z Z Z Z Z (AS Z (AO.PW x3 x4 Z Z Z Z Z (U 3 Z (AS Z (AO.abf (x1 >>> 32) (y1 >>> 32) Z Z Z Z Z (U 1 Z (AS Z (AO.Mh (x2 + (Rc >>> 32)) 32 Z Z Z Z Z ?_)))))))))); refine B1 hf fun x5 h7 hf=>AS Z (AO.ad9 ((x1 >>> 32) * (y1 >>> 32)) ((x2 + (Rc >>> 32)) >>> 32) h7 Z Z Z Z Z (U 1 Z (AS Z (AO.Mh (x3 + x4) 32 Z Z Z Z Z (AS Z (AO.PW x5 ((x3 + x4) >>> 32) Z Z Z Z Z (U 1 Z (AS Z (AO.agH (x3 + x4) 32 Z Z Z Z Z ?_))))))))); refine U 1 Z (AS Z (AO.u64_and Rc (4294967295:BitVec 64) Z Z Z Z Z ?_)); refine B1 hf fun x6 h8 hf=>AS Z (AO.agI ((x3 + x4) <<< 32) (Rc &&& (4294967295:BitVec 64)) h8 Z Z Z Z Z (AS Z (AO.OB Z adS LY Z (U 1 Z (AS Z (AO.aF Z Zt (fun b14=>(Rr 5 [0] Z Z (AS Z (AO.SA Z agF Z Z ?_)))))))))); refine U 1 Z (AR.and 5 63 68 [4,14] (x:=(!decide (([((x5 + ((x3 + x4) >>> 32)).toNat:Int),(x6.toNat:Int)]:List Int)=([0,0]:List Int)))) Z Z (fun h9=>?_) (fun h9=>?_) ?_)
 · refine Is 63 h9 Z (U 1 Z (GO Z (AO.aP (i:=0) Z Z Z ai4 Z Z (GO Z (AO.OB Z adS LY Z (GO Z (AO.afc ([((x5 + ((x3 + x4) >>> 32)).toNat:Int),(x6.toNat:Int)]:List Int) ([0,0]:List Int) Z aiZ Qv akq akp akl Z Z Z Z Z Z (aa8 [(x5 + ((x3 + x4) >>> 32)),x6]) (aa8 [(0:BitVec 64),(0:BitVec 64)]) ?_))))))); exact dY 1 Z (En [68,4,14] Z)
 · refine Is 63 h9 Z ?_; exact dY 5 Z (En [68,4,14] Z)
 cases hf; exact Rx 4 [0,0,1] Z Z (ZC [1] Z Z h)
theorem JM (p1:iI) {r0:Int} {r1:Bool} (hf:rO p1=some (r0,r1)) (h:Q (.ret (.tuple [iP r0,.bool r1])) τ):PC 275 [.agg (OY p1)] τ Q:=by
 unfold rO at hf; refine BN 37 [.tmp 2,.tmp 3] [0] Tryz.func275 Z Z Z Z Z (W 4 Z (AS Z (AO.uo (sz:=1) 0 Z LY Z Z (by decide) Z ?_))); refine J 3 Z (C hf Z (fun h1 hf=>?_) fun h1 hf=>?_)
 · cases hf; exact M 2 Z (Y Z h)
 refine W 3 Z (AR.and 5 12 17 [1] (x:=(decide (((p1.half.getD 1 0).toNat:Int)≤9223372036854775808))) Z Z (fun h2=>?_) (fun h2=>?_) ?_)
 · refine Is 12 h2 Z (U 1 Z (GO Z (AO.uo (sz:=1) 1 Z LY Z Z (by decide) Z ?_))); exact dY 3 Z (En [17,1] Z)
 · refine Is 12 h2 Z ?_; exact dY 5 Z (En [17,1] Z)
 refine J 1 Z (C hf Z (fun h3 hf=>?_) fun h3 hf=>?_)
 · refine W 1 Z (AS Z (AO.uo (sz:=1) 1 Z LY Z Z (by decide) Z ?_)); refine U 1 Z (AS Z (AO.u64_neg (p1.half.getD 1 0) Z Z Z (AS Z (AO.Jz Z Qv ZI Z ?_)))); cases hf; exact N 2 Z (Y Z h)
 refine W 4 Z (AR.and 5 27 32 [1] (x:=(decide (((p1.half.getD 1 0).toNat:Int)≤9223372036854775807))) Z Z (fun h4=>?_) (fun h4=>?_) ?_)
 · refine Is 27 h4 Z (U 1 Z (GO Z (AO.uo (sz:=1) 1 Z LY Z Z (by decide) Z ?_))); exact dY 3 Z (En [32,1] Z)
 · refine Is 27 h4 Z ?_; exact dY 5 Z (En [32,1] Z)
 refine J 1 Z (C hf Z (fun h5 hf=>?_) fun h5 hf=>?_)
 · refine W 1 Z (AS Z (AO.uo (sz:=1) 1 Z LY Z Z (by decide) Z ?_)); refine U 1 Z (AS Z (AO.Jz Z Qv ZI Z ?_)); cases hf; exact N 2 Z (Y Z h)
 cases hf; exact M 2 Z (Y Z h)
theorem adB (aht:Bool) {r0:Int} (hf:VU aht=some r0) (h:Q (.ret (iP r0)) τ):PC 276 [.bool aht] τ Q:=by
 unfold VU at hf; refine BN 4 [.tmp 2] [0] Tryz.func276 Z Z Z Z Z (V 2 Z (C hf Z (fun h1 hf=>?_) fun h1 hf=>?_))
 · cases hf; exact M 1 Z (Y Z h)
 cases hf; exact M 1 Z (Y Z h)
theorem adC (a1:Int) (b1:Int) {r0:Int} (hf:MP a1 b1=some r0) (h:Q (.ret (iP r0)) τ):PC 243 [iP a1,iP b1] τ Q:=by
 unfold MP at hf; refine BN 21 [.tmp 4] [0,1] Tryz.func243 Z Z Z Z Z ?_; refine B1 hf fun x1 h1 hf=>W 3 Z (CL Z (Sk _ _ h1 (AS Z (AO.aF Z Zt (fun b5=>?_))))); obtain ⟨n1,ok1,h2,hf⟩:=bK hf; refine Rr 2 [0,0] Z Z (CL Z (JM _ h2 (J 6 Z (C hf Z (fun h3 hf=>?_) fun h3 hf=>?_))))
 · cases hf; exact M 2 Z (Y Z h)
 refine BR hf fun x2 h4 hf=>?_; refine Wr 2 [0] Z Z (CL Z (adB _ h4 ?_)); cases hf; exact N 1 Z (Y Z h)
end Go.Proofs.YtggpjlegajicnaaGreatDoor
