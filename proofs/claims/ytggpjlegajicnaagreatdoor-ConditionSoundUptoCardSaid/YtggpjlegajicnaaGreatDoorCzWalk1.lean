/- Proved here: each function does what its functional text says (part 1). -/
import Derived.Test.YtggpjlegajicnaaGreatDoorCzA2
import Derived.Test.YtggpjlegajicnaaGreatDoorCzPre1
import Derived.Test.YtggpjlegajicnaaGreatDoorCzFt1
import Derived.Test.YtggpjlegajicnaaGreatDoorCzPool1
import Derived.Test.YtggpjlegajicnaaGreatDoorProg
import Derived.KernelRfl
set_option linter.unusedVariables false
set_option linter.unusedSimpArgs false
set_option linter.unusedSectionVars false
namespace Go.Ft
open Go Go.Abs
mutual
def ah.cells :ah→List PV
  | ⟨a0,a1,a2,a3,a4,a5⟩=>[.int .i64 a0,.bool a1,.int .i64 a2,.str a3,.list (ah.aU a4),.list (List.map qC a5)]
def ah.aU :List ah→List (List PV)
  | []=>[]
  | x :: xs=>ah.cells x :: ah.aU xs
end
theorem ah.aD (x:ah):ah.cells x=[.int .i64 x.kind,.bool x.dO,.int .i64 x.dI,.str x.bR,.list (ah.aU x.aO),.list (List.map qC x.keys)]:=by cases x; rfl
theorem ah.aB :∀ l:List ah,ah.aU l=l.map ah.cells
  | []=>rfl
  | _ :: l=>congrArg _ (ah.aB l)
def ah.uz (l:List ah):List PV:=[.list (ah.aU l)]
theorem ah.dD (x:ah):(ah.cells x).length=6:=by rw [ah.aD]; rfl
theorem ah.cells_one (x:ah):(ah.cells x).all PV.one=true:=by rw [ah.aD]; rfl
mutual
def aj.cells :aj→List PV
  | ⟨a0,a1,a2,a3,a4⟩=>[.int .i64 a0,.str a1,.int .i64 a2.kind,.bool a2.dO,.int .i64 a2.dI,.str a2.bR,.list (ah.aU a2.aO),.list (List.map qC a2.keys),.list (aj.aU a3),.list (List.map qC a4)]
def aj.aU :List aj→List (List PV)
  | []=>[]
  | x :: xs=>aj.cells x :: aj.aU xs
end
theorem aj.aD (x:aj):aj.cells x=[.int .i64 x.kind,.str x.name,.int .i64 x.value.kind,.bool x.value.dO,.int .i64 x.value.dI,.str x.value.bR,.list (ah.aU x.value.aO),.list (List.map qC x.value.keys),.list (aj.aU x.args),.list (List.map qC x.keys)]:=by cases x; rfl
theorem aj.aB :∀ l:List aj,aj.aU l=l.map aj.cells
  | []=>rfl
  | _ :: l=>congrArg _ (aj.aB l)
def aj.uz (l:List aj):List PV:=[.list (aj.aU l)]
theorem aj.dD (x:aj):(aj.cells x).length=10:=by rw [aj.aD]; rfl
theorem aj.cells_one (x:aj):(aj.cells x).all PV.one=true:=by rw [aj.aD]; rfl
@[reducible] def aA.cells (x:aA):List PV:=[.str x.name,.int .i64 x.value.kind,.bool x.value.dO,.int .i64 x.value.dI,.str x.value.bR,.list (ah.aU x.value.aO),.list (List.map qC x.value.keys)]
theorem aA.aD (x:aA):aA.cells x=[.str x.name,.int .i64 x.value.kind,.bool x.value.dO,.int .i64 x.value.dI,.str x.value.bR,.list (ah.aU x.value.aO),.list (List.map qC x.value.keys)]:=rfl
theorem aA.dD (x:aA):(aA.cells x).length=7:=by rw [aA.aD]; rfl
theorem aA.cells_one (x:aA):(aA.cells x).all PV.one=true:=by rw [aA.aD]; rfl
@[reducible] def bq.cells (x:bq):List PV:=[.int .i64 x.kind,.str x.text,.int .i64 x.at_]
theorem bq.aD (x:bq):bq.cells x=[.int .i64 x.kind,.str x.text,.int .i64 x.at_]:=rfl
theorem bq.dD (x:bq):(bq.cells x).length=3:=by rw [bq.aD]; rfl
theorem bq.cells_one (x:bq):(bq.cells x).all PV.one=true:=by rw [bq.aD]; rfl
@[reducible] def av.cells (x:av):List PV:=[.list (List.map bq.cells x.ts),.int .i64 x.at_]
theorem av.aD (x:av):av.cells x=[.list (List.map bq.cells x.ts),.int .i64 x.at_]:=rfl
theorem av.dD (x:av):(av.cells x).length=2:=by rw [av.aD]; rfl
theorem av.cells_one (x:av):(av.cells x).all PV.one=true:=by rw [av.aD]; rfl
@[reducible] def aC.cells (x:aC):List PV:=[.int .i64 x.at_,.int .i64 x.code]
theorem aC.aD (x:aC):aC.cells x=[.int .i64 x.at_,.int .i64 x.code]:=rfl
theorem aC.dD (x:aC):(aC.cells x).length=2:=by rw [aC.aD]; rfl
theorem aC.cells_one (x:aC):(aC.cells x).all PV.one=true:=by rw [aC.aD]; rfl
@[reducible] def bL.cells (x:bL):List PV:=[.bool x.cancelled,.bool x.failure,.bool x.skipped,.bool x.success]
theorem bL.aD (x:bL):bL.cells x=[.bool x.cancelled,.bool x.failure,.bool x.skipped,.bool x.success]:=rfl
theorem bL.dD (x:bL):(bL.cells x).length=4:=by rw [bL.aD]; rfl
theorem bL.cells_one (x:bL):(bL.cells x).all PV.one=true:=by rw [bL.aD]; rfl
@[reducible] def aM.cells (x:aM):List PV:=[.int .i64 x.code]
theorem aM.aD (x:aM):aM.cells x=[.int .i64 x.code]:=rfl
theorem aM.dD (x:aM):(aM.cells x).length=1:=by rw [aM.aD]; rfl
theorem aM.cells_one (x:aM):(aM.cells x).all PV.one=true:=by rw [aM.aD]; rfl
@[reducible] def j_.cells (x:j_):List PV:=[.int .u64 ((x.half.getD 0 0).toNat:Int),.int .u64 ((x.half.getD 1 0).toNat:Int),.bool x.neg]
theorem j_.aD (x:j_):j_.cells x=[.int .u64 ((x.half.getD 0 0).toNat:Int),.int .u64 ((x.half.getD 1 0).toNat:Int),.bool x.neg]:=rfl
theorem j_.dD (x:j_):(j_.cells x).length=3:=by rw [j_.aD]; rfl
theorem j_.cells_one (x:j_):(j_.cells x).all PV.one=true:=by rw [j_.aD]; rfl
mutual
def ak.cells :ak→List PV
  | ⟨a0,a1⟩=>[.int .i64 a0,.list (ak.aU a1)]
def ak.aU :List ak→List (List PV)
  | []=>[]
  | x :: xs=>ak.cells x :: ak.aU xs
end
theorem ak.aD (x:ak):ak.cells x=[.int .i64 x.kind,.list (ak.aU x.elem)]:=by cases x; rfl
theorem ak.aB :∀ l:List ak,ak.aU l=l.map ak.cells
  | []=>rfl
  | _ :: l=>congrArg _ (ak.aB l)
def ak.uz (l:List ak):List PV:=[.list (ak.aU l)]
theorem ak.dD (x:ak):(ak.cells x).length=2:=by rw [ak.aD]; rfl
theorem ak.cells_one (x:ak):(ak.cells x).all PV.one=true:=by rw [ak.aD]; rfl
@[reducible] def aH.cells (x:aH):List PV:=[.str x.name,.int .i64 x.rY.kind,.list (ak.aU x.rY.elem)]
theorem aH.aD (x:aH):aH.cells x=[.str x.name,.int .i64 x.rY.kind,.list (ak.aU x.rY.elem)]:=rfl
theorem aH.dD (x:aH):(aH.cells x).length=3:=by rw [aH.aD]; rfl
theorem aH.cells_one (x:aH):(aH.cells x).all PV.one=true:=by rw [aH.aD]; rfl
end Go.Ft
namespace Go.Proofs.YtggpjlegajicnaaGreatDoor
open Go Go.Abs Go.Ft
set_option maxRecDepth 20000
attribute [local irreducible] AO AR AW AC
class FR [gX]:Prop where
  hD:¬ gX.D
  max:∀ (w:World) (m:lV),gX.G w m→∃ n:Int,w.cell? ⟨2,0,none⟩=some (.int .i64 n)
  pow:∀ (w:World) (m:lV),gX.G w m→Lib.TabIs Tryz.prog w "internal/strconv.uint64pow10" .u64 Lib.pow10Tab
  syn:∀ (w:World) (m:lV),gX.G w m→∃ ev,w.cell? ⟨0,0,none⟩=some ev∧(ev=.nilIface∨∃ te pe,ev=.iface te pe)
  rng:∀ (w:World) (m:lV),gX.G w m→∃ ev,w.cell? ⟨1,0,none⟩=some ev∧(ev=.nilIface∨∃ te pe,ev=.iface te pe)
variable [gX]
theorem aqP (w:World):(isAgg 51).run Tryz.prog w=.ok true w:=by kernel_rfl
theorem akC :DY Tryz.prog 204=some (8,1):=by kernel_rfl
theorem Qg :DY Tryz.prog 238=some (2,1):=by kernel_rfl
theorem aoM :Tryz.prog.cellsOf 237=1:=by kernel_rfl
theorem aoL :Tryz.prog.cellsOf 238=2:=by kernel_rfl
theorem ar5 :Tryz.prog.cellsOf 5=1:=by kernel_rfl
theorem aoH :Tryz.prog.eqGuardType Tryz.prog.depth 238=false:=by kernel_rfl
theorem aa3 :elemSize Tryz.prog 155=some 1:=by kernel_rfl
theorem Wv :elemSize Tryz.prog 168=some 1:=by kernel_rfl
theorem xU :elemSize Tryz.prog 22=some 1:=by kernel_rfl
theorem jN :elemSize Tryz.prog 23=some 7:=by kernel_rfl
theorem dX :elemSize Tryz.prog 28=some 6:=by kernel_rfl
theorem f_ :elemSize Tryz.prog 29=some 1:=by kernel_rfl
theorem iT :elemSize Tryz.prog 32=some 10:=by kernel_rfl
theorem Bb :elemSize Tryz.prog 42=some 3:=by kernel_rfl
theorem fZ :elemSize Tryz.prog 52=some 2:=by kernel_rfl
theorem am3 :elemSize Tryz.prog 92=some 7:=by kernel_rfl
theorem Ra :Ey Tryz.prog 170 0=some 0:=by kernel_rfl
theorem G8 :Ey Tryz.prog 170 1=some 1:=by kernel_rfl
theorem ajT :Tryz.prog.underlying 177=some (.interface (Tryz.prog.methodsAt 177)):=by kernel_rfl
theorem inB :∃ j,Tryz.prog.info? 170=some j∧(j.size != 0)=true:=sized (n:=2) (by kernel_rfl) rfl
theorem ap8 :liesAt Tryz.prog Tryz.prog.depth 170 (2 / Tryz.prog.cellsOf 170) 0 170 1=true:=by kernel_rfl
theorem mixed :Tryz.prog.follows .mixedOrders=true:=by kernel_rfl
theorem KJ :Tryz.prog.underlying 117=some (.map 9 3):=by kernel_rfl
theorem aoo :concrete Tryz.prog 111=true:=by kernel_rfl
theorem aoi :bB Tryz.prog 101=true:=by kernel_rfl
theorem aoh :bB Tryz.prog 102=true:=by kernel_rfl
theorem aog :bB Tryz.prog 103=true:=by kernel_rfl
theorem amO :bB Tryz.prog 11=true:=by kernel_rfl
theorem aod :bB Tryz.prog 113=true:=by kernel_rfl
theorem aoc :bB Tryz.prog 114=true:=by kernel_rfl
theorem ajs :bB Tryz.prog 117=true:=by kernel_rfl
theorem amN :bB Tryz.prog 12=true:=by kernel_rfl
theorem ajr :bB Tryz.prog 122=true:=by kernel_rfl
theorem aob :bB Tryz.prog 123=true:=by kernel_rfl
theorem ajo :bB Tryz.prog 138=true:=by kernel_rfl
theorem an8 :bB Tryz.prog 142=true:=by kernel_rfl
theorem R9 :bB Tryz.prog 143=true:=by kernel_rfl
theorem MW :bB Tryz.prog 145=true:=by kernel_rfl
theorem aaA :bB Tryz.prog 147=true:=by kernel_rfl
theorem an7 :bB Tryz.prog 148=true:=by kernel_rfl
theorem ajn :bB Tryz.prog 149=true:=by kernel_rfl
theorem GD :bB Tryz.prog 151=true:=by kernel_rfl
theorem an6 :bB Tryz.prog 152=true:=by kernel_rfl
theorem Aj :bB Tryz.prog 154=true:=by kernel_rfl
theorem pU :bB Tryz.prog 155=true:=by kernel_rfl
theorem an5 :bB Tryz.prog 156=true:=by kernel_rfl
theorem aeF :bB Tryz.prog 157=true:=by kernel_rfl
theorem an4 :bB Tryz.prog 158=true:=by kernel_rfl
theorem aeE :bB Tryz.prog 159=true:=by kernel_rfl
theorem ajm :bB Tryz.prog 16=true:=by kernel_rfl
theorem ajk :bB Tryz.prog 173=true:=by kernel_rfl
theorem an1 :bB Tryz.prog 174=true:=by kernel_rfl
theorem R8 :bB Tryz.prog 176=true:=by kernel_rfl
theorem amM :bB Tryz.prog 18=true:=by kernel_rfl
theorem an0 :bB Tryz.prog 189=true:=by kernel_rfl
theorem ap1 :bB Tryz.prog 20=true:=by kernel_rfl
theorem anX :bB Tryz.prog 202=true:=by kernel_rfl
theorem anW :bB Tryz.prog 203=true:=by kernel_rfl
theorem anV :bB Tryz.prog 204=true:=by kernel_rfl
theorem anU :bB Tryz.prog 205=true:=by kernel_rfl
theorem ajj :bB Tryz.prog 207=true:=by kernel_rfl
theorem MV :bB Tryz.prog 208=true:=by kernel_rfl
theorem VF :bB Tryz.prog 209=true:=by kernel_rfl
theorem ap0 :bB Tryz.prog 21=true:=by kernel_rfl
theorem anT :bB Tryz.prog 213=true:=by kernel_rfl
theorem aji :bB Tryz.prog 214=true:=by kernel_rfl
theorem anS :bB Tryz.prog 216=true:=by kernel_rfl
theorem ajh :bB Tryz.prog 218=true:=by kernel_rfl
theorem apZ :bB Tryz.prog 22=true:=by kernel_rfl
theorem ajg :bB Tryz.prog 225=true:=by kernel_rfl
theorem anQ :bB Tryz.prog 226=true:=by kernel_rfl
theorem anP :bB Tryz.prog 227=true:=by kernel_rfl
theorem anO :bB Tryz.prog 228=true:=by kernel_rfl
theorem amL :bB Tryz.prog 23=true:=by kernel_rfl
theorem ajf :bB Tryz.prog 230=true:=by kernel_rfl
theorem anN :bB Tryz.prog 237=true:=by kernel_rfl
theorem aje :bB Tryz.prog 241=true:=by kernel_rfl
theorem anM :bB Tryz.prog 247=true:=by kernel_rfl
theorem ajd :bB Tryz.prog 248=true:=by kernel_rfl
theorem apY :bB Tryz.prog 25=true:=by kernel_rfl
theorem anL :bB Tryz.prog 254=true:=by kernel_rfl
theorem anK :bB Tryz.prog 255=true:=by kernel_rfl
theorem ajc :bB Tryz.prog 256=true:=by kernel_rfl
theorem ajb :bB Tryz.prog 26=true:=by kernel_rfl
theorem aja :bB Tryz.prog 261=true:=by kernel_rfl
theorem anI :bB Tryz.prog 263=true:=by kernel_rfl
theorem anH :bB Tryz.prog 269=true:=by kernel_rfl
theorem ai_ :bB Tryz.prog 270=true:=by kernel_rfl
theorem anG :bB Tryz.prog 279=true:=by kernel_rfl
theorem acF :bB Tryz.prog 28=true:=by kernel_rfl
theorem anF :bB Tryz.prog 283=true:=by kernel_rfl
theorem anE :bB Tryz.prog 284=true:=by kernel_rfl
theorem amK :bB Tryz.prog 29=true:=by kernel_rfl
theorem ai8 :bB Tryz.prog 290=true:=by kernel_rfl
theorem ai7 :bB Tryz.prog 295=true:=by kernel_rfl
theorem anD :bB Tryz.prog 318=true:=by kernel_rfl
theorem anC :bB Tryz.prog 324=true:=by kernel_rfl
theorem anB :bB Tryz.prog 325=true:=by kernel_rfl
theorem apX :bB Tryz.prog 34=true:=by kernel_rfl
theorem apV :bB Tryz.prog 36=true:=by kernel_rfl
theorem apT :bB Tryz.prog 41=true:=by kernel_rfl
theorem apS :bB Tryz.prog 42=true:=by kernel_rfl
theorem amJ :bB Tryz.prog 46=true:=by kernel_rfl
theorem apR :bB Tryz.prog 47=true:=by kernel_rfl
theorem apQ :bB Tryz.prog 48=true:=by kernel_rfl
theorem apP :bB Tryz.prog 49=true:=by kernel_rfl
theorem apO :bB Tryz.prog 52=true:=by kernel_rfl
theorem ai6 :bB Tryz.prog 58=true:=by kernel_rfl
theorem VD :bB Tryz.prog 59=true:=by kernel_rfl
theorem amI :bB Tryz.prog 64=true:=by kernel_rfl
theorem acE :bB Tryz.prog 65=true:=by kernel_rfl
theorem amH :bB Tryz.prog 66=true:=by kernel_rfl
theorem amG :bB Tryz.prog 73=true:=by kernel_rfl
theorem apL :bB Tryz.prog 75=true:=by kernel_rfl
theorem Tx :bB Tryz.prog 76=true:=by kernel_rfl
theorem af9 :bB Tryz.prog 79=true:=by kernel_rfl
theorem apK :bB Tryz.prog 81=true:=by kernel_rfl
theorem apJ :bB Tryz.prog 89=true:=by kernel_rfl
theorem ahf :bB Tryz.prog 9=true:=by kernel_rfl
theorem apI :bB Tryz.prog 90=true:=by kernel_rfl
theorem apH :bB Tryz.prog 91=true:=by kernel_rfl
theorem VB :bB Tryz.prog 92=true:=by kernel_rfl
theorem amF :bB Tryz.prog 96=true:=by kernel_rfl
theorem apG :bB Tryz.prog 97=true:=by kernel_rfl
theorem ER :kL Tryz.prog 155 52 1 24:=vY (by kernel_rfl)
theorem vB :kL Tryz.prog 168 5 1 1:=vY (by kernel_rfl)
theorem Y4 :kL Tryz.prog 22 3 1 8:=vY (by kernel_rfl)
theorem zK :kL Tryz.prog 23 51 7 104:=vY (by kernel_rfl)
theorem qM :kL Tryz.prog 28 31 6 88:=vY (by kernel_rfl)
theorem u6 :kL Tryz.prog 29 9 1 16:=vY (by kernel_rfl)
theorem Qy :kL Tryz.prog 42 57 3 48:=vY (by kernel_rfl)
theorem uZ :kL Tryz.prog 52 54 2 32:=vY (by kernel_rfl)
theorem aep :Bl Tryz.prog 31=some [(0,1),(1,1),(2,1),(3,1),(4,1),(5,1)]:=by kernel_rfl
theorem aeo :Bl Tryz.prog 51=some [(0,1),(1,6)]:=by kernel_rfl
theorem anv :Bl Tryz.prog 54=some [(0,1),(1,1)]:=by kernel_rfl
theorem aiN :Bl Tryz.prog 57=some [(0,1),(1,2)]:=by kernel_rfl
theorem alh (w:Go.World):(Instr.typeAssert .nilIface 20 111 true).run Tryz.prog w=.ok (.tuple #[.agg #[.int .i64 0],.bool false]) w:=by kernel_rfl
theorem alf (v:Value) (w:Go.World):(Instr.typeAssert (.iface 111 v) 20 111 true).run Tryz.prog w=.ok (.tuple #[v,.bool true]) w:=by kernel_rfl
theorem aiF :kr Tryz.prog 111=some (true,1):=by kernel_rfl
theorem aai :kr Tryz.prog 167=some (false,1):=by kernel_rfl
theorem Pg :kr Tryz.prog 168=some (false,1):=by kernel_rfl
theorem anq :kr Tryz.prog 238=some (true,2):=by kernel_rfl
theorem Jy :kr Tryz.prog 28=some (false,1):=by kernel_rfl
theorem afR :kr Tryz.prog 29=some (false,1):=by kernel_rfl
theorem EP :kr Tryz.prog 3=some (false,1):=by kernel_rfl
theorem dF :kr Tryz.prog 31=some (true,6):=by kernel_rfl
theorem nX :kr Tryz.prog 34=some (true,10):=by kernel_rfl
theorem Io :kr Tryz.prog 36=some (false,1):=by kernel_rfl
theorem alc :kr Tryz.prog 4=some (false,1):=by kernel_rfl
theorem apv :kr Tryz.prog 51=some (true,7):=by kernel_rfl
theorem amC :kr Tryz.prog 52=some (false,1):=by kernel_rfl
theorem bI :kr Tryz.prog 54=some (true,2):=by kernel_rfl
theorem abZ :kr Tryz.prog 9=some (false,1):=by kernel_rfl
theorem amA :Tryz.prog.underlying 23=some (.slice 51):=by kernel_rfl
theorem Kl :Tryz.prog.underlying 237=some (.int .u64):=by kernel_rfl
theorem anm :Tryz.prog.underlying 238=some (.array 2 237):=by kernel_rfl
theorem apu :Tryz.prog.underlying 28=some (.slice 31):=by kernel_rfl
theorem apt :Tryz.prog.underlying 29=some (.slice 9):=by kernel_rfl
theorem Ib :Tryz.prog.underlying 3=some (.int .i64):=by kernel_rfl
theorem XQ :Tryz.prog.underlying 4=some (.bool):=by kernel_rfl
theorem CP :Tryz.prog.underlying 5=some (.int .u8):=by kernel_rfl
theorem dM :Tryz.prog.underlying 9=some (.string):=by kernel_rfl
theorem Vf :Tryz.prog.underlying 167=some (.pointer 170):=by kernel_rfl
theorem anl :Tryz.prog.underlying 207=some (.pointer 5):=by kernel_rfl
theorem ais :Tryz.prog.underlying 228=some .unsafePointer:=by kernel_rfl
theorem apg (w:World):(Go.sizeOf 51).run Tryz.prog w=.ok 7 w:=by kernel_rfl
theorem agO :(Tryz.prog.info? 3).map (·.zero)=some (some (.int .i64 0)):=by kernel_rfl
theorem aii :pE Tryz.prog 111=some [.int .i64 0]:=by kernel_rfl
theorem ad6 :pE Tryz.prog 170=some [.val (.pointer none),.own (.slice none 0 0) []]:=by kernel_rfl
theorem aie :pE Tryz.prog 204=some [.str [],.str [],.str [],.str [],.str [],.str [],.str [],.str []]:=by kernel_rfl
theorem aic :pE Tryz.prog 238=some [.int .u64 0,.int .u64 0]:=by kernel_rfl
theorem ad5 :pE Tryz.prog 240=some [.int .u64 0,.int .u64 0,.bool false]:=by kernel_rfl
theorem apf :pE Tryz.prog 3=some [.int .i64 0]:=by kernel_rfl
theorem gq :pE Tryz.prog 31=some [.int .i64 0,.bool false,.int .i64 0,.str [],.own (.slice none 0 0) [],.own (.slice none 0 0) []]:=by kernel_rfl
theorem rC :pE Tryz.prog 34=some [.int .i64 0,.str [],.int .i64 0,.bool false,.int .i64 0,.str [],.own (.slice none 0 0) [],.own (.slice none 0 0) [],.own (.slice none 0 0) [],.own (.slice none 0 0) []]:=by kernel_rfl
theorem aib :pE Tryz.prog 36=some [.int .i64 0]:=by kernel_rfl
theorem OH :pE Tryz.prog 51=some [.str [],.int .i64 0,.bool false,.int .i64 0,.str [],.own (.slice none 0 0) [],.own (.slice none 0 0) []]:=by kernel_rfl
theorem jk :pE Tryz.prog 54=some [.int .i64 0,.own (.slice none 0 0) []]:=by kernel_rfl
theorem afF :pE Tryz.prog 57=some [.str [],.int .i64 0,.own (.slice none 0 0) []]:=by kernel_rfl
theorem aia :pE Tryz.prog 64=some [.bool false,.bool false,.bool false,.bool false]:=by kernel_rfl
def FX :Facts:={ti:=[(3,false,1),(4,false,1),(5,false,1),(9,false,1),(28,false,1),(29,false,1),(31,true,6),(32,false,1),(34,true,10),(36,false,1),(51,true,7),(52,false,1),(54,true,2),(57,true,3),(88,true,3),(111,true,1),(136,true,2),(138,true,2),(237,false,1)],fo:=[(31,0,0),(31,1,1),(31,2,2),(31,3,3),(31,4,4),(31,5,5),(34,0,0),(34,1,1),(34,2,2),(34,3,8),(34,4,9),(51,0,0),(51,1,1),(54,0,0),(54,1,1),(57,0,0),(57,1,1),(64,0,0),(64,1,1),(64,2,2),(64,3,3),(88,0,0),(88,1,1),(111,0,0),(136,0,0),(136,1,1),(138,0,0),(138,1,1),(240,0,0),(240,1,2)],fd:=[],str:=[]}
theorem aG :FX.okB Tryz.prog=true:=by kernel_rfl
theorem cs {n:Nat} {all:Array Oper} {σ:List bJ} {ds:List Deferred} {Q:Post} (k:Nat) {l l':List Oper} {env env':Env} (h:Uj FX all n k l env=some (env',l')) (hr:AR Tryz.prog n all l' env' σ ds Q):AR Tryz.prog n all l env σ ds Q:=AR.cs aG k h hr

def FY :FB:=⟨{FX with ti:=FX.ti ++ [(3,false,1),(4,false,1),(9,false,1),(28,false,1),(29,false,1),(31,true,6),(34,true,10),(51,true,7),(52,false,1),(54,true,2),(57,true,3),(64,true,4),(204,true,8),(240,true,3)]},[(31,[.int .i64 0,.bool false,.int .i64 0,.str [],.own (.slice none 0 0) [],.own (.slice none 0 0) []]),(34,[.int .i64 0,.str [],.int .i64 0,.bool false,.int .i64 0,.str [],.own (.slice none 0 0) [],.own (.slice none 0 0) [],.own (.slice none 0 0) [],.own (.slice none 0 0) []]),(51,[.str [],.int .i64 0,.bool false,.int .i64 0,.str [],.own (.slice none 0 0) [],.own (.slice none 0 0) []]),(54,[.int .i64 0,.own (.slice none 0 0) []]),(57,[.str [],.int .i64 0,.own (.slice none 0 0) []]),(64,[.bool false,.bool false,.bool false,.bool false]),(111,[.int .i64 0]),(240,[.int .u64 0,.int .u64 0,.bool false])],[(31,[(0,1),(1,1),(2,1),(3,1),(4,1),(5,1)]),(34,[(0,1),(1,1),(2,6),(8,1),(9,1)]),(51,[(0,1),(1,6)]),(54,[(0,1),(1,1)]),(57,[(0,1),(1,2)]),(64,[(0,1),(1,1),(2,1),(3,1)]),(111,[(0,1)]),(240,[(0,2),(2,1)])]⟩
instance : FK Tryz.prog:=⟨FY,⟨by kernel_rfl,by kernel_rfl,by kernel_rfl⟩,[9,13,14,16,18,19,21,24,27,30,31,32,33,37,38,39,40,41,42,48,50,51,52,53,55,56,57,58,59,60,61,62,63,64,65,74,76,77,81,82,83,84,85,86,87,88,92,93,94,95,96,97,98,99,100,104,113,114,115,116,117,118,119,120,121,122,123,124,125,126,127,128,137,138,139,140,141,142,143,144,145,146,147,148,149,150,151,153,154,163,166,170,171,172,175,176,177,178,179,180,181,182,183,184,185,186,187,188,197,206,210,211,212,213,214,215,221,226,229,230,231,232,233,234,235,236,237,238,239,240,241,242,243,244,245,246,248,253,257,261,262,263,264,265,266,267,269,271,272,273,274,275,276,277,278,282,289,291,294,295,301,304,305,306,307,319,320,321,324,330,347],by kernel_rfl⟩
variable {τ : List bJ} {Q : eT → List bJ → Prop}
abbrev PC :=AC Tryz.prog
@[reducible] def iP (x:Int):PV:=.int .i64 x
@[reducible] def sP (x:List Str):PV:=.list (List.map qC x)
@[reducible] def pP (b:Nat):PV:=.val (.pointer (some ⟨b,0,none⟩))
@[reducible] def aK (x:ah):List PV:=[.int .i64 x.kind,.bool x.dO,.int .i64 x.dI,.str x.bR,.list (ah.aU x.aO),.list (List.map qC x.keys)]
@[reducible] def bA (x:aj):List PV:=[.int .i64 x.kind,.str x.name,.int .i64 x.value.kind,.bool x.value.dO,.int .i64 x.value.dI,.str x.value.bR,.list (ah.aU x.value.aO),.list (List.map qC x.value.keys),.list (aj.aU x.args),.list (List.map qC x.keys)]
@[reducible] def DT (x:aA):List PV:=[.str x.name,.int .i64 x.value.kind,.bool x.value.dO,.int .i64 x.value.dI,.str x.value.bR,.list (ah.aU x.value.aO),.list (List.map qC x.value.keys)]
@[reducible] def aW (x:ak):List PV:=[.int .i64 x.kind,.list (ak.aU x.elem)]
@[reducible] def ap9 (x:aH):List PV:=[.str x.name,.int .i64 x.rY.kind,.list (ak.aU x.rY.elem)]
@[reducible] def Ca (x:bL):List PV:=[.bool x.cancelled,.bool x.failure,.bool x.skipped,.bool x.success]
@[reducible] def AV (x:bq):List PV:=[.int .i64 x.kind,.str x.text,.int .i64 x.at_]
@[reducible] def bg (x:av):List PV:=[.list (List.map bq.cells x.ts),.int .i64 x.at_]
@[reducible] def lG (x:aC):List PV:=[.int .i64 x.at_,.int .i64 x.code]
@[reducible] def TA (x:j_):List PV:=[.int .u64 ((x.half.getD 0 0).toNat:Int),.int .u64 ((x.half.getD 1 0).toNat:Int),.bool x.neg]
theorem LG {b:Nat} {v p:Value} {bs:List UInt8} (hp:p=Value.pointer none∨p=.pointer (some ⟨b,0,none⟩)) {R:eT→List bJ→Prop} (h:R (.ret (.tuple [])) [.Bd b 170 [.val (.pointer (some ⟨b,0,none⟩)),.own v (bs.map ny)],.row v bs.length 1 5]):
    AC Tryz.prog 218 [.val (.pointer (some ⟨b,0,none⟩))] [.Bd b 170 [.val p,.own v (bs.map ny)],.row v bs.length 1 5] R:=by
  obtain ⟨j,hj1,hj2⟩:=inB
  rcases hp with rfl | rfl
  · skip
    refine AC.yU 20 [] [0] Tryz.func218 rfl rfl rfl rfl rfl ?_
    refine AW.seq ?_
    refine AW.region ?_
    refine AR.step rfl rfl rfl (AO.calc' rfl ?_)
    refine AR.step rfl rfl rfl (AO.nilCheck rfl rfl ?_)
    refine AR.step rfl rfl rfl (AO.lT rfl rfl Ra ?_)
    refine AR.step rfl rfl rfl (AO.AU (i:=0) rfl rfl rfl aai rfl rfl ?_)
    refine AR.step rfl rfl rfl (AO.af8 rfl Vf rfl rfl ?_)
    refine AR.nil [0,6] rfl ?_
    refine AW.cond rfl (fun h1=>?_) (fun h1=>?_)
    · refine AW.region ?_
      refine AR.step rfl rfl rfl (AO.calc' rfl ?_)
      refine AR.step rfl rfl rfl (AO.calc' rfl ?_)
      refine AR.step rfl rfl rfl (AO.agW (i:=0) rfl Vf ais hj1 hj2 rfl rfl rfl ?_)
      refine AR.step rfl rfl rfl (AO.ajF rfl rfl rfl rfl Tryz.func258 (by kernel_rfl) (by kernel_rfl) (by kernel_rfl) (by kernel_rfl) rfl ?_)
      refine AR.step rfl rfl rfl (AO.ac9 (i:=0) rfl ais Vf hj1 rfl rfl rfl ap8 ?_)
      refine AR.step rfl rfl rfl (AO.nilCheck rfl rfl ?_)
      refine AR.step rfl rfl rfl (AO.lT rfl rfl Ra ?_)
      refine AR.dh rfl rfl (AO.Ph (i:=0) rfl rfl rfl aai rfl rfl rfl rfl rfl ?_)
      refine AR.nil [] rfl ?_
      exact ⟨rfl,[],rfl,_,List.Sublist.refl _,h⟩
    · cases h1
  · skip
    refine AC.yU 20 [] [0] Tryz.func218 rfl rfl rfl rfl rfl ?_
    refine AW.seq ?_
    refine AW.region ?_
    refine AR.step rfl rfl rfl (AO.calc' rfl ?_)
    refine AR.step rfl rfl rfl (AO.nilCheck rfl rfl ?_)
    refine AR.step rfl rfl rfl (AO.lT rfl rfl Ra ?_)
    refine AR.step rfl rfl rfl (AO.AU (i:=0) rfl rfl rfl aai rfl rfl ?_)
    refine AR.step rfl rfl rfl (AO.af8 rfl Vf rfl rfl ?_)
    refine AR.nil [0,6] rfl ?_
    refine AW.cond rfl (fun h1=>?_) (fun h1=>?_)
    · cases h1
    · refine AW.seq ?_
      refine AW.region ?_
      refine AR.step rfl rfl rfl (AO.calc' rfl ?_)
      refine AR.step rfl rfl rfl (AO.nilCheck rfl rfl ?_)
      refine AR.step rfl rfl rfl (AO.lT rfl rfl Ra ?_)
      refine AR.step rfl rfl rfl (AO.AU (i:=0) rfl rfl rfl aai rfl rfl ?_)
      refine AR.step rfl rfl rfl (AO.calc' rfl ?_)
      refine AR.step rfl rfl rfl (AO.aay rfl Vf hj1 rfl rfl ?_)
      refine AR.nil [19] rfl ?_
      refine AW.cond rfl (fun h2=>?_) (fun h2=>?_)
      · cases h2
      · refine AW.skip ?_
        exact ⟨rfl,[],rfl,_,List.Sublist.refl _,h⟩

theorem kD {b:Nat} {v:Value} {bs r:List UInt8} {c:UInt8} (hv:app bs [c]=some r) {R:eT→List bJ→Prop} (h:∀ v',R (.ret (.val .nilIface)) [.RF b v' 170 5 r]):AC Tryz.prog 166 [.val (.pointer (some ⟨b,0,none⟩)),.int .u8 (c.toNat:Int)] [.RF b v 170 5 bs] R:=by
  refine AC.RF fun p hp hroom=>?_
  refine AC.yU 17 [.tmp 4] [0,1] Tryz.func166 rfl rfl rfl rfl rfl ?_
  refine AW.seq ?_
  refine AW.region ?_
  refine AR.step rfl rfl rfl (AO.calc' rfl ?_)
  refine AR.nil [0,1] rfl ?_
  refine AW.seq ?_
  refine AW.region ?_
  refine AR.step rfl rfl rfl (AO.calc' rfl ?_)
  refine AR.step rfl rfl rfl (AO.call rfl _ rfl rfl ajh (LG hp ?_))
  refine AR.nil [0,1] rfl ?_
  refine AW.seq ?_
  refine AW.region ?_
  refine AR.step rfl rfl rfl (AO.calc' rfl ?_)
  refine AR.step rfl rfl rfl (AO.calc' rfl ?_)
  refine AR.step rfl rfl rfl (AO.nilCheck rfl rfl ?_)
  refine AR.step rfl rfl rfl (AO.lT rfl rfl G8 ?_)
  refine AR.step rfl rfl rfl (AO.AU (i:=0) rfl rfl rfl Pg rfl rfl ?_)
  refine AR.step rfl rfl rfl (AO.calc' rfl ?_)
  refine AR.step rfl rfl rfl (AO.buildSlice rfl vB rfl rfl rfl ?_)
  refine AR.step rfl rfl rfl (AO.ZM (i:=1) hv rfl rfl rfl rfl rfl (RI.list rfl Wv (by simp [ny]) (by simp [ny,PV.one])) rfl vB (fun v' s1 hs1 hr1=>?_))
  cases hs1
  refine AR.step rfl rfl rfl (AO.nilCheck rfl rfl ?_)
  refine AR.step rfl rfl rfl (AO.lT rfl rfl G8 ?_)
  refine AR.dh rfl rfl (AO.Ph (i:=0) rfl rfl rfl Pg rfl rfl rfl rfl rfl ?_)
  refine AR.nil [1] rfl ?_
  refine AW.seq ?_
  refine AW.region ?_
  refine AR.step rfl rfl rfl (AO.calc' rfl ?_)
  refine AR.nil [4] rfl ?_
  refine AW.ret ?_
  exact ⟨rfl,_,⟨_,_,rfl,rfl,rfl⟩,_,List.Sublist.refl _,_,v',r,rfl,.inr rfl,hr1 hroom,h v'⟩

theorem Ct {b:Nat} {v:Value} {bs r:List UInt8} {s:List UInt8} (hv:app bs s=some r) {R:eT→List bJ→Prop} (h:∀ v',R (.ret (.tuple [.int .i64 (s.length:Int),.val .nilIface])) [.RF b v' 170 5 r]):AC Tryz.prog 301 [.val (.pointer (some ⟨b,0,none⟩)),.str s] [.RF b v 170 5 bs] R:=by
  refine AC.RF fun p hp hroom=>?_
  refine AC.yU 19 [.tmp 4,.tmp 5] [0,1] Tryz.func301 rfl rfl rfl rfl rfl ?_
  refine AW.seq ?_
  refine AW.region ?_
  refine AR.step rfl rfl rfl (AO.calc' rfl ?_)
  refine AR.step rfl rfl rfl (AO.calc' rfl ?_)
  refine AR.nil [0,1] rfl ?_
  refine AW.seq ?_
  refine AW.region ?_
  refine AR.step rfl rfl rfl (AO.calc' rfl ?_)
  refine AR.step rfl rfl rfl (AO.call rfl _ rfl rfl ajh (LG hp ?_))
  refine AR.nil [0,1] rfl ?_
  refine AW.seq ?_
  refine AW.region ?_
  refine AR.step rfl rfl rfl (AO.calc' rfl ?_)
  refine AR.step rfl rfl rfl (AO.calc' rfl ?_)
  refine AR.step rfl rfl rfl (AO.nilCheck rfl rfl ?_)
  refine AR.step rfl rfl rfl (AO.lT rfl rfl G8 ?_)
  refine AR.step rfl rfl rfl (AO.AU (i:=0) rfl rfl rfl Pg rfl rfl ?_)
  refine AR.step rfl rfl rfl (AO.calc' rfl ?_)
  refine AR.step rfl rfl rfl (AO.ZM (i:=1) hv rfl rfl rfl rfl rfl (RI.str dM) rfl vB (fun v' s1 hs1 hr1=>?_))
  cases hs1
  refine AR.step rfl rfl rfl (AO.nilCheck rfl rfl ?_)
  refine AR.step rfl rfl rfl (AO.lT rfl rfl G8 ?_)
  refine AR.dh rfl rfl (AO.Ph (i:=0) rfl rfl rfl Pg rfl rfl rfl rfl rfl ?_)
  refine AR.nil [1] rfl ?_
  refine AW.seq ?_
  refine AW.region ?_
  refine AR.step rfl rfl rfl (AO.calc' rfl ?_)
  refine AR.step rfl rfl rfl (AO.b_ rfl rfl rfl rfl dM rfl ?_)
  refine AR.step rfl rfl rfl (AO.calc' rfl ?_)
  refine AR.step rfl rfl rfl (AO.calc' rfl ?_)
  refine AR.nil [4,5] rfl ?_
  refine AW.ret ?_
  exact ⟨rfl,_,⟨_,_,rfl,rfl,_,_,rfl,rfl,rfl⟩,_,List.Sublist.refl _,_,v',r,rfl,.inr rfl,hr1 hroom,h v'⟩

theorem ahY {b:Nat} {v:Value} {bs:List UInt8} {R:eT→List bJ→Prop} (h:R (.ret (.int .i64 (bs.length:Int))) [.RF b v 170 5 bs]):AC Tryz.prog 162 [.val (.pointer (some ⟨b,0,none⟩))] [.RF b v 170 5 bs] R:=by
  refine AC.RF fun p hp hroom=>?_
  refine AC.yU 8 [.tmp 2] [0] Tryz.func162 rfl rfl rfl rfl rfl ?_
  refine AW.seq ?_
  refine AW.region ?_
  refine AR.step rfl rfl rfl (AO.calc' rfl ?_)
  refine AR.nil [0] rfl ?_
  refine AW.seq ?_
  refine AW.region ?_
  refine AR.step rfl rfl rfl (AO.calc' rfl ?_)
  refine AR.step rfl rfl rfl (AO.nilCheck rfl rfl ?_)
  refine AR.step rfl rfl rfl (AO.lT rfl rfl G8 ?_)
  refine AR.step rfl rfl rfl (AO.AU (i:=0) rfl rfl rfl Pg rfl rfl ?_)
  refine AR.step rfl rfl rfl (AO.aP (l:=bs) rfl rfl rfl rfl Wv rfl rfl ?_)
  refine AR.step rfl rfl rfl (AO.calc' rfl ?_)
  refine AR.nil [2] rfl ?_
  refine AW.ret ?_
  exact ⟨rfl,_,⟨_,_,rfl,rfl,rfl⟩,_,List.Sublist.refl _,p,v,bs,rfl,hp,hroom,h⟩

theorem K8 {b:Nat} {v:Value} {bs:List UInt8} {R:eT→List bJ→Prop} (h:R (.ret (.str bs)) []):AC Tryz.prog 163 [.val (.pointer (some ⟨b,0,none⟩))] [.RF b v 170 5 bs] R:=by
  refine AC.amh fun p hroom=>?_
  refine AC.yU 14 [.tmp 2] [0] Tryz.func163 rfl rfl rfl rfl rfl ?_
  refine AW.seq ?_
  refine AW.region ?_
  refine AR.step rfl rfl rfl (AO.calc' rfl ?_)
  refine AR.nil [0] rfl ?_
  refine AW.seq ?_
  refine AW.draw 10 mixed (by kernel_rfl) rfl ?_
  refine Ev.cons rfl rfl rfl (AO.calc' rfl ⟨rfl,rfl⟩) ?_
  refine Ev.cons rfl rfl rfl (AO.nilCheck rfl rfl ⟨rfl,rfl⟩) ?_
  refine Ev.cons rfl rfl rfl (AO.lT rfl rfl G8 ⟨rfl,rfl⟩) ?_
  refine Ev.cons rfl rfl rfl (AO.AU (i:=0) rfl rfl rfl Pg rfl rfl ⟨rfl,rfl⟩) ?_
  refine Ev.cons rfl rfl rfl (AO.sliceData rfl rfl rfl rfl hroom ⟨rfl,rfl⟩) ?_
  refine Ev.cons rfl rfl rfl (AO.calc' rfl ⟨rfl,rfl⟩) ?_
  refine Ev.cons rfl rfl rfl (AO.nilCheck rfl rfl ⟨rfl,rfl⟩) ?_
  refine Ev.cons rfl rfl rfl (AO.lT rfl rfl G8 ⟨rfl,rfl⟩) ?_
  refine Ev.cons rfl rfl rfl (AO.AU (i:=0) rfl rfl rfl Pg rfl rfl ⟨rfl,rfl⟩) ?_
  refine Ev.cons rfl rfl rfl (AO.aP (l:=bs) rfl rfl rfl rfl Wv rfl rfl ⟨rfl,rfl⟩) ?_
  refine Ev.nil ?_
  show AR _ _ _ _ _ _ _ _
  refine AR.step rfl rfl rfl (AO.unsafeString rfl rfl rfl rfl anl ar5 rfl rfl rfl ?_)
  refine AR.step rfl rfl rfl (AO.calc' rfl ?_)
  refine AR.nil [2] rfl ?_
  refine AW.ret ?_
  exact ⟨rfl,_,⟨_,_,rfl,rfl,rfl⟩,[],List.nil_sublist _,h⟩


abbrev T_ (o8:aj→Option Int):Prop:=∀ (iY:aj) {aR:Int},o8 iY=some aR→∀ {τ:List bJ} {Q:eT→List bJ→Prop} (h:Q (.ret (iP aR)) τ),PC 33 [.agg (bA iY)] τ Q
theorem abM (o8) (X9:T_ o8) (e1:aj) {r0:Int} (hf:Iw o8 e1=some r0) (h:Q (.ret (iP r0)) τ):PC 33 [.agg (bA e1)] τ Q:=by
 unfold Iw at hf; refine BN 21 [.tmp 2] [0] Tryz.func33 Z Z Z Z Z (V 4 Z (Xy (fun n1 i1=>[(1,.ref (bA e1)),(3,iP n1),(4,iP i1)]) (fun n1 i1=>[]) (fun bT n1 i1=>Bw o8 e1 bT n1 i1=some r0) BIG 1 0 Z Z hf (fun _ _ hz=>bQ hz) ?_)); intro bT n1 i1 hf; rw [Bw] at hf; refine W 3 Z (AS Z (AO.aP (l:=e1.args) Z Z Z Z iT Z (aj.aB _) (J 1 Z (C hf Z (fun h1 hf=>?_) fun h1 hf=>?_))))
 · refine B1 hf fun e2 h2 hf=>W 4 Z (AS Z (AO.aI h2 Z Z (aj.aB _) Z iT (aj.aD _) Z ?_)); refine B1 hf fun x1 h3 hf=>U 1 Z (CL Z (X9 _ h3 ?_)); exact N 5 Z ⟨(bZ (n1 + x1)),(bZ (i1 + 1)),Z,Z,Z,hf⟩
 cases hf; exact M 2 Z (Y Z h)
theorem acQ :∀ k:Nat,(T_ (sQ k)):=by
 intro k
 induction k with
 | zero=>exact fun _ _ hz=>by first | cases hz | (unfold sQ at hz; cases hz)
 | succ k ih=>exact fun iY aR hz τ Q hq=>abM (sQ k) ih iY hz hq
theorem TL (iY:aj) {aR:Int} (hf:JJ iY=some aR) (h:Q (.ret (iP aR)) τ):PC 33 [.agg (bA iY)] τ Q:=
 ((acQ BIG)) iY hf h

theorem I7 (e1:aj) (n1:Int) {r0:Bool} (hf:yX e1 n1=some r0) (h:Q (.ret (.bool r0)) τ):PC 13 [.agg (bA e1),iP n1] τ Q:=by
 unfold yX at hf; refine BN 12 [.tmp 4] [0,1] Tryz.func13 Z Z Z Z Z ?_; refine B1 hf fun x1 h1 hf=>W 3 Z (CL Z (TL _ h1 (U 2 Z (An 3 8 11 [] (decide (n1≤300)) Z Z Z Z ?_)))); cases hf; exact N 1 Z (Y Z h)

theorem lH (b1:Bool) {r0:ah} (hf:jf b1=some r0) (h:Q (.ret (.agg (aK r0))) τ):PC 30 [.bool b1] τ Q:=by
 unfold jf at hf; refine BN 5 [.cell 2 31] [0] Tryz.func30 Z Z Z Z Z (W 0 Z (AS Z (AO.aF Z gq (fun b2=>?_)))); cases hf; exact Rx 3 [0] Z Z (ZC [0] Z Z h)

theorem P9 (bC:List Int) (mR:Int) {r0:Bool} (hf:JB bC mR=some r0) (h:Q (.ret (.bool r0)) τ):PC 31 [.list (List.map vT bC),iP mR] τ Q:=by
 unfold JB at hf; refine BN 18 [.tmp 4] [0,1] Tryz.func31 Z Z Z Z Z (V 2 Z (Gh (fun i1=>[(0,.list (List.map vT bC)),(1,iP mR),(5,iP i1)]) (fun i1=>[]) (fun bT i1=>Aw bC mR bT i1=some r0) BIG 0 Z Z hf (fun _ hz=>bQ hz) ?_)); intro bT i1 hf; rw [Aw] at hf; refine W 2 Z (AS Z (AO.aP (l:=bC) Z Z Z Z xU Z Z (J 1 Z (C hf Z (fun h1 hf=>?_) fun h1 hf=>?_))))
 ·
  refine B1 hf fun e1 h2 hf=>W 2 Z (AS Z (AO.aI h2 Z Z Z Z xU Z Z (J 3 Z (C hf Z (fun h3 hf=>?_) fun h3 hf=>?_))))
  · cases hf; exact M 1 Z (Y Z h)
  exact M 3 Z ⟨(bZ (i1 + 1)),Z,Z,Z,hf⟩
 cases hf; exact M 1 Z (Y Z h)

theorem ahO (bC:List Int) (mR:Int) {r0:Bool} (hf:UK bC mR=some r0) (h:Q (.ret (.bool r0)) τ):PC 32 [.list (List.map vT bC),iP mR] τ Q:=by
 unfold UK at hf; refine BN 18 [.tmp 4] [0,1] Tryz.func32 Z Z Z Z Z (V 2 Z (Gh (fun i1=>[(0,.list (List.map vT bC)),(1,iP mR),(5,iP i1)]) (fun i1=>[]) (fun bT i1=>CW bC mR bT i1=some r0) BIG 0 Z Z hf (fun _ hz=>bQ hz) ?_)); intro bT i1 hf; rw [CW] at hf; refine W 2 Z (AS Z (AO.aP (l:=bC) Z Z Z Z xU Z Z (J 1 Z (C hf Z (fun h1 hf=>?_) fun h1 hf=>?_))))
 ·
  refine B1 hf fun e1 h2 hf=>W 2 Z (AS Z (AO.aI h2 Z Z Z Z xU Z Z (J 3 Z (C hf Z (fun h3 hf=>?_) fun h3 hf=>?_))))
  · cases hf; exact M 1 Z (Y Z h)
  exact M 3 Z ⟨(bZ (i1 + 1)),Z,Z,Z,hf⟩
 cases hf; exact M 1 Z (Y Z h)

theorem SI (bC:List Int) (bG:List aA) {r0:List aA} (hf:Kr bC bG=some r0) (h:Q (.ret (.list (List.map aA.cells r0))) τ):PC 12 [.list (List.map vT bC),.list (List.map aA.cells bG)] τ Q:=by
 unfold Kr at hf; refine BN 40 [.tmp 4] [0,1] Tryz.func12 Z Z Z Z Z (W 0 Z (AS Z (AO.mh Z Z ?_))); refine B1 hf fun x1 h1 hf=>U 0 rfl (CL rfl (lH _ h1 (U 1 rfl (AS rfl (AO.qo (List.map aA.cells [(aA.mk ([97,108,119,97,121,115]:Str) x1)]) rfl zK rfl rfl rfl rfl (by first | rfl | simp only [List.map,aA.aD]) (fun v1=>?_)))))); refine B1 hf fun x2 h2 hf=>U 3 Z (CL Z (P9 _ _ h2 ?_)); refine B1 hf fun x3 h3 hf=>CL rfl (lH _ h3 (U 1 rfl (AS rfl (AO.aS (List.map aA.cells [(aA.mk ([99,97,110,99,101,108,108,101,100]:Str) x3)]) rfl zK rfl rfl rfl (by first | rfl | simp only [List.map,aA.aD]) ?_))))
 refine B1 hf fun l1 h4 hf=>AS Z (AO.fK (i:=0) (l:=[(aA.mk ([97,108,119,97,121,115]:Str) x1)]) (m:=[(aA.mk ([99,97,110,99,101,108,108,101,100]:Str) x3)]) h4 Z Z Z Z Z Z Z zK jN Z Z Z (aA.dD) (aA.cells_one) (by decide) (fun v2 s1 hs1=>?_)); cases hs1; refine B1 hf fun x4 h5 hf=>U 3 Z (CL Z (P9 _ _ h5 ?_)); refine B1 hf fun x5 h6 hf=>CL rfl (lH _ h6 (U 1 rfl (AS rfl (AO.aS (List.map aA.cells [(aA.mk ([102,97,105,108,117,114,101]:Str) x5)]) rfl zK rfl rfl rfl (by first | rfl | simp only [List.map,aA.aD]) ?_))))
 refine B1 hf fun l2 h7 hf=>AS Z (AO.fK (i:=0) (l:=l1) (m:=[(aA.mk ([102,97,105,108,117,114,101]:Str) x5)]) h7 Z Z Z Z Z Z Z zK jN Z Z Z (aA.dD) (aA.cells_one) (by decide) (fun v3 s2 hs2=>?_)); cases hs2; refine B1 hf fun x6 h8 hf=>U 3 Z (CL Z (P9 _ _ h8 ?_)); refine B1 hf fun x7 h9 hf=>CL rfl (lH _ h9 (U 1 rfl (AS rfl (AO.aS (List.map aA.cells [(aA.mk ([115,107,105,112,112,101,100]:Str) x7)]) rfl zK rfl rfl rfl (by first | rfl | simp only [List.map,aA.aD]) ?_))))
 refine B1 hf fun l3 h10 hf=>AS Z (AO.fK (i:=0) (l:=l2) (m:=[(aA.mk ([115,107,105,112,112,101,100]:Str) x7)]) h10 Z Z Z Z Z Z Z zK jN Z Z Z (aA.dD) (aA.cells_one) (by decide) (fun v4 s3 hs3=>?_)); cases hs3; refine B1 hf fun x8 h11 hf=>U 3 Z (CL Z (ahO _ _ h11 ?_)); refine B1 hf fun x9 h12 hf=>CL rfl (lH _ h12 (U 1 rfl (AS rfl (AO.aS (List.map aA.cells [(aA.mk ([115,117,99,99,101,115,115]:Str) x9)]) rfl zK rfl rfl rfl (by first | rfl | simp only [List.map,aA.aD]) ?_))))
 refine B1 hf fun l4 jJ hf=>AS Z (AO.fK (i:=0) (l:=l3) (m:=[(aA.mk ([115,117,99,99,101,115,115]:Str) x9)]) jJ Z Z Z Z Z Z Z zK jN Z Z Z (aA.dD) (aA.cells_one) (by decide) (fun v5 s4 hs4=>?_)); cases hs4; refine BR hf fun wS j5 hf=>?_; refine U 3 Z (AS Z (AO.fK (i:=0) (l:=l4) (m:=bG) j5 Z Z Z Z Z Z Z zK jN Z Z Z (aA.dD) (aA.cells_one) (by decide) (fun v6 s5 hs5=>?_))); cases hs5; cases hf; exact N 1 Z (Y Z h)

theorem abq (c1:UInt8) {r0:Bool} (hf:Ku c1=some r0) (h:Q (.ret (.bool r0)) τ):PC 100 [.int .u8 (c1.toNat:Int)] τ Q:=by
 unfold Ku at hf; refine BN 21 [.tmp 2] [0] Tryz.func100 Z Z Z Z Z (W 4 Z (An 3 5 8 [0] (decide ((c1.toNat:Int)≤122)) Z Z Z Z (U 1 Z (AR.or 7 9 16 [0] (x:=((decide (65≤(c1.toNat:Int))) && (decide ((c1.toNat:Int)≤90)))) Z Z (fun h2=>?_) (fun h2=>?_) ?_))))
 · refine Is 9 h2 Z (U 3 Z (An 3 12 15 [0,9] (decide ((c1.toNat:Int)≤90)) Z Z Z Z ?_)); exact eG 1 Z (En [16,0] Z)
 · refine Is 9 h2 Z ?_; exact eG 7 Z (En [16,0] Z)
 refine U 1 Z (On 3 17 20 [] ((c1.toNat:Int) == 95) Z Z Z Z ?_); cases hf; exact N 1 Z (Y Z h)

theorem TM (c1:UInt8) {r0:Bool} (hf:Db c1=some r0) (h:Q (.ret (.bool r0)) τ):PC 101 [.int .u8 (c1.toNat:Int)] τ Q:=by
 unfold Db at hf; refine BN 9 [.tmp 2] [0] Tryz.func101 Z Z Z Z Z (W 4 Z (An 3 5 8 [] (decide ((c1.toNat:Int)≤57)) Z Z Z Z ?_)); cases hf; exact N 1 Z (Y Z h)

theorem afp (s1:Str) {r0:Bool} (hf:ML s1=some r0) (h:Q (.ret (.bool r0)) τ):PC 62 [.str s1] τ Q:=by
 unfold ML at hf; refine BN 34 [.tmp 2] [0] Tryz.func62 Z Z Z Z Z (V 2 Z (Gh (fun i1=>[(0,.str s1),(3,iP i1)]) (fun i1=>[]) (fun bT i1=>El s1 bT i1=some r0) BIG 0 Z Z hf (fun _ hz=>bQ hz) ?_)); intro bT i1 hf; rw [El] at hf; refine W 2 Z (AS Z (AO.b_ Z Z Z Z dM Z (J 1 Z (C hf Z (fun h1 hf=>?_) fun h1 hf=>?_))))
 ·
  refine B1 hf fun x1 h2 hf=>W 2 Z (AS Z (AO.gy h2 Z dM Z Z ?_)); refine B1 hf fun x2 h3 hf=>CL Z (abq _ h3 ?_); refine B1 hf fun b1 h5 hf=>U 2 Z (AR.dB 10 15 25 true [0,3] b1 Z Z (fun h4=>?_) (fun h4=>?_) ?_)
  ·
   refine IT 15 h4 h5 Z fun h5=>?_; refine BR h5 fun b2 h7 h5=>?_; refine U 3 Z (AR.dB 6 18 24 false [0,3,15] b2 Z Z (fun h6=>?_) (fun h6=>?_) ?_)
   · refine IF 18 h6 h7 Z fun h7=>?_; refine B1 h7 fun x3 h8 h7=>U 2 Z (GO Z (AO.gy h8 Z dM Z Z ?_)); refine B1 h7 fun x4 h9 h7=>GO Z (AO.call Z _ Z Z aoi (TM _ h9 ?_)); cases h7; exact eG 2 Z (En [24,0,3,15] Z)
   · refine IT 18 h6 h7 Z fun h7=>?_; cases h7; exact eG 6 Z (En [24,0,3,15] Z)
   cases h5; exact eG 1 Z (En [25,0,3] Z)
  · refine IF 15 h4 h5 Z fun h5=>?_; cases h5; exact eG 10 Z (En [25,0,3] Z)
  refine J 0 Z (C hf Z (fun h10 hf=>?_) fun h10 hf=>?_)
  · cases hf; exact M 1 Z (Y Z h)
  exact M 3 Z ⟨(bZ (i1 + 1)),Z,Z,Z,hf⟩
 refine W 1 Z (AS Z (AO.b_ Z Z Z Z dM Z (U 2 Z (AR.and 4 29 33 [] (x:=(decide ((s1.length:Int)≤64))) Z Z (fun h11=>?_) (fun h11=>?_) ?_))))
 · refine Is 29 h11 Z (U 1 Z (GO Z (AO.b_ Z Z Z Z dM Z ?_))); exact eG 2 Z (En [33] Z)
 · refine Is 29 h11 Z ?_; exact eG 4 Z (En [33] Z)
 cases hf; exact N 1 Z (Y Z h)

theorem EH (s1:Str) {r0:Bool} (hf:yK s1=some r0) (h:Q (.ret (.bool r0)) τ):PC 38 [.str s1] τ Q:=by
 unfold yK at hf; refine BN 17 [.tmp 2] [0] Tryz.func38 Z Z Z Z Z ?_; refine B1 hf fun x1 h1 hf=>W 2 Z (CL Z (afp _ h1 (U 1 Z (An 3 5 8 [0] (!(s1 == ([116,114,117,101]:Str))) Z Z Z Z (U 1 Z (An 3 9 12 [0] (!(s1 == ([102,97,108,115,101]:Str))) Z Z Z Z (U 1 Z (An 3 13 16 [] (!(s1 == ([110,117,108,108]:Str))) Z Z Z Z ?_)))))))); cases hf; exact N 1 Z (Y Z h)

theorem adI (v1:ah) {r0:Bool} (hf:JL v1=some r0) (h:Q (.ret (.bool r0)) τ):PC 102 [.agg (aK v1)] τ Q:=by
 unfold JL at hf; refine BN 53 [.tmp 2] [0] Tryz.func102 Z Z Z Z Z (W 5 Z (An 4 5 9 [1] (v1.kind != 1) Z Z Z Z (U 1 Z (AR.or 9 10 19 [1] (x:=((v1.dI != 0) && (v1.kind != 2))) Z Z (fun h2=>?_) (fun h2=>?_) ?_))))
 · refine Is 10 h2 Z (U 4 Z (An 4 14 18 [1,10] (v1.kind != 2) Z Z Z Z ?_)); exact eG 1 Z (En [19,1] Z)
 · refine Is 10 h2 Z ?_; exact eG 9 Z (En [19,1] Z)
 refine U 1 Z (AR.or 9 20 29 [1] (x:=((!(v1.bR == ([]:Str))) && (v1.kind != 3))) Z Z (fun h4=>?_) (fun h4=>?_) ?_)
 · refine Is 20 h4 Z (U 4 Z (An 4 24 28 [1,20] (v1.kind != 3) Z Z Z Z ?_)); exact eG 1 Z (En [29,1] Z)
 · refine Is 20 h4 Z ?_; exact eG 9 Z (En [29,1] Z)
 refine J 0 Z (C hf Z (fun h6 hf=>?_) fun h6 hf=>?_)
 · cases hf; exact M 1 Z (Y Z h)
 refine W 2 Z (AS Z (AO.aP (l:=v1.aO) Z Z Z Z dX Z (ah.aB _) (U 2 Z (An 4 34 38 [1] (v1.kind != 4) Z Z Z Z (U 1 Z (An 4 39 43 [1] (v1.kind != 5) Z Z Z Z (J 0 Z (C hf Z (fun h9 hf=>?_) fun h9 hf=>?_))))))))
 · cases hf; exact M 1 Z (Y Z h)
 refine W 2 Z (AS Z (AO.aP (l:=v1.keys) Z Z Z Z f_ Z Z (U 2 Z (On 4 48 52 [] (v1.kind == 5) Z Z Z Z ?_)))); cases hf; exact N 1 Z (Y Z h)

theorem ZH (s1:Str) {r0:Bool} (hf:Ob s1=some r0) (h:Q (.ret (.bool r0)) τ):PC 158 [.str s1] τ Q:=by
 unfold Ob at hf; refine BN 11 [.tmp 2] [0] Tryz.func158 Z Z Z Z Z (W 2 Z (AS Z (AO.b_ Z Z Z Z dM Z (U 2 Z (AR.and 4 6 10 [] (x:=(decide ((s1.length:Int)≤64))) Z Z (fun h1=>?_) (fun h1=>?_) ?_)))))
 · refine Is 6 h1 Z (U 1 Z (GO Z (AO.b_ Z Z Z Z dM Z ?_))); exact eG 2 Z (En [10] Z)
 · refine Is 6 h1 Z ?_; exact eG 4 Z (En [10] Z)
 cases hf; exact N 1 Z (Y Z h)

theorem EJ (OP:Bool) (Q0:Bool) {r0:Int} (hf:yR OP Q0=some r0) (h:Q (.ret (iP r0)) τ):PC 213 [.bool OP,.bool Q0] τ Q:=by
 unfold yR at hf; refine BN 7 [.tmp 4] [0,1] Tryz.func213 Z Z Z Z Z (V 2 Z (C hf Z (fun h1 hf=>?_) fun h1 hf=>?_))
 · cases hf; exact M 1 Z (Y Z h)
 refine V 1 Z (C hf Z (fun h2 hf=>?_) fun h2 hf=>?_)
 · cases hf; exact M 1 Z (Y Z h)
 cases hf; exact M 1 Z (Y Z h)

theorem NC (c1:UInt8) {r0:Bool} (hf:F8 c1=some r0) (h:Q (.ret (.bool r0)) τ):PC 214 [.int .u8 (c1.toNat:Int)] τ Q:=by
 unfold F8 at hf; refine BN 9 [.tmp 2] [0] Tryz.func214 Z Z Z Z Z (W 4 Z (An 3 5 8 [] (decide ((c1.toNat:Int)≤57)) Z Z Z Z ?_)); cases hf; exact N 1 Z (Y Z h)

theorem ZI (s1:Str) (mE:Int) {r0:Int} (hf:QK s1 mE=some r0) (h:Q (.ret (iP r0)) τ):PC 215 [.str s1,iP mE] τ Q:=by
 unfold QK at hf; refine BN 18 [.tmp 4] [0,1] Tryz.func215 Z Z Z Z Z (V 1 Z (Gh (fun at2=>[(0,.str s1),(1,iP at2)]) (fun at2=>[]) (fun bT at2=>GA s1 bT at2=some r0) BIG mE Z Z hf (fun _ hz=>bQ hz) ?_)); intro bT at2 hf; rw [GA] at hf; refine W 2 Z (AS Z (AO.b_ Z Z Z Z dM Z ?_)); refine B1 hf fun b1 h2 hf=>U 2 Z (AR.dB 5 9 14 true [0,1] b1 Z Z (fun h1=>?_) (fun h1=>?_) ?_)
 · refine IT 9 h1 h2 Z fun h2=>?_; refine B1 h2 fun x1 h3 h2=>U 2 Z (GO Z (AO.gy h3 Z dM Z Z ?_)); refine BR h2 fun x2 h4 h2=>?_; refine GO Z (AO.call Z _ Z Z aji (NC _ h4 ?_)); cases h2; exact eG 1 Z (En [14,0,1] Z)
 · refine IF 9 h1 h2 Z fun h2=>?_; cases h2; exact eG 5 Z (En [14,0,1] Z)
 refine J 0 Z (C hf Z (fun h5 hf=>?_) fun h5 hf=>?_)
 · exact M 3 Z ⟨(bZ (at2 + 1)),Z,Z,Z,hf⟩
 cases hf; exact M 2 Z (Y Z h)

theorem TP (s1:Str) {r0:Str} (hf:F7 s1=some r0) (h:Q (.ret (.str r0)) τ):PC 257 [.str s1] τ Q:=by
 unfold F7 at hf; refine BN 19 [.tmp 2] [0] Tryz.func257 Z Z Z Z Z (V 2 Z (Gh (fun i1=>[(0,.str s1),(3,iP i1)]) (fun i1=>[]) (fun bT i1=>yQ s1 bT i1=some r0) BIG 0 Z Z hf (fun _ hz=>bQ hz) ?_)); intro bT i1 hf; rw [yQ] at hf; refine W 2 Z (AS Z (AO.b_ Z Z Z Z dM Z ?_)); refine B1 hf fun b1 h2 hf=>U 2 Z (AR.dB 5 8 13 true [0,3] b1 Z Z (fun h1=>?_) (fun h1=>?_) ?_)
 · refine IT 8 h1 h2 Z fun h2=>?_; refine B1 h2 fun x1 h3 h2=>U 2 Z (GO Z (AO.gy h3 Z dM Z Z ?_)); cases h2; exact eG 2 Z (En [13,0,3] Z)
 · refine IF 8 h1 h2 Z fun h2=>?_; cases h2; exact eG 5 Z (En [13,0,3] Z)
 refine J 0 Z (C hf Z (fun h4 hf=>?_) fun h4 hf=>?_)
 · exact M 3 Z ⟨(bZ (i1 + 1)),Z,Z,Z,hf⟩
 refine BR hf fun x2 h5 hf=>?_; refine W 2 Z (AS Z (AO.r_ h5 Z dM Z ⟨_,Z⟩ Z ?_)); cases hf; exact N 1 Z (Y Z h)

theorem aft (a1:Str) (b1:Str) {r0:Int} (hf:MS a1 b1=some r0) (h:Q (.ret (iP r0)) τ):PC 216 [.str a1,.str b1] τ Q:=by
 unfold MS at hf; refine BN 48 [.tmp 4] [0,1] Tryz.func216 Z Z Z Z Z ?_; refine B1 hf fun x1 h1 hf=>W 2 Z (CL Z (TP _ h1 ?_)); refine B1 hf fun y1 h2 hf=>U 1 Z (CL Z (TP _ h2 (U 3 Z (AS Z (AO.b_ Z Z Z Z dM Z (U 1 Z (AS Z (AO.b_ Z Z Z Z dM Z (J 1 Z (C hf Z (fun h3 hf=>?_) fun h3 hf=>?_))))))))))
 · refine W 1 Z (AS Z (AO.b_ Z Z Z Z dM Z (U 1 Z (AS Z (AO.b_ Z Z Z Z dM Z (U 2 Z (AS Z (AO.b_ Z Z Z Z dM Z (U 1 Z (AS Z (AO.b_ Z Z Z Z dM Z ?_))))))))))); refine BR hf fun x2 h4 hf=>?_; refine U 1 Z (CL Z (EJ _ _ h4 ?_)); cases hf; exact N 1 Z (Y Z h)
 refine V 3 Z (C hf Z (fun h5 hf=>?_) fun h5 hf=>?_)
 · refine BR hf fun x3 h6 hf=>?_; refine W 6 Z (CL Z (EJ _ _ h6 ?_)); cases hf; exact N 1 Z (Y Z h)
 refine W 1 Z (AS Z (AO.b_ Z Z Z Z dM Z (U 1 Z (AS Z (AO.b_ Z Z Z Z dM Z (U 2 Z (AS Z (AO.b_ Z Z Z Z dM Z (U 1 Z (AS Z (AO.b_ Z Z Z Z dM Z ?_))))))))))); refine BR hf fun x4 h7 hf=>?_; refine U 1 Z (CL Z (EJ _ _ h7 ?_)); cases hf; exact N 1 Z (Y Z h)

theorem Jm (a1:Str) (b1:Str) {r0:Int} (hf:qN a1 b1=some r0) (h:Q (.ret (iP r0)) τ):PC 159 [.str a1,.str b1] τ Q:=by
 unfold qN at hf; refine BN 78 [.tmp 4] [0,1] Tryz.func159 Z Z Z Z Z (V 3 Z (Xy (fun i1 rV=>[(0,.str a1),(1,.str b1),(5,iP i1),(6,iP rV)]) (fun i1 rV=>[]) (fun bT i1 rV=>pR a1 b1 bT i1 rV=some r0) BIG 0 0 Z Z hf (fun _ _ hz=>bQ hz) ?_)); intro bT i1 rV hf; rw [pR] at hf; refine W 2 Z (AS Z (AO.b_ Z Z Z Z dM Z (U 2 Z (AR.and 5 14 19 [0,1,5,6] (x:=(decide (rV < (b1.length:Int)))) Z Z (fun h1=>?_) (fun h1=>?_) ?_))))
 · refine Is 14 h1 Z (U 2 Z (GO Z (AO.b_ Z Z Z Z dM Z ?_))); exact eG 2 Z (En [19,0,1,5,6] Z)
 · refine Is 14 h1 Z ?_; exact eG 5 Z (En [19,0,1,5,6] Z)
 refine J 0 Z (C hf Z (fun h2 hf=>?_) fun h2 hf=>?_)
 ·
  refine V 0 Z (AW.draw 16 mixed (by kernel_rfl) Z ?_); refine Ev.cs aG 2 Z ?_; refine B1 hf fun x1 h3 hf=>Ev.cons Z Z Z (AO.gy h3 Z dM Z Z zg) (Ev.cs aG 2 Z ?_); refine B1 hf fun x2 h4 hf=>Ev.cons Z Z Z (AO.gy h4 Z dM Z Z zg) (Ev.cs aG 3 Z ?_); refine B1 hf fun x3 h5 hf=>Ev.cons Z Z Z (AO.gy h5 Z dM Z Z zg) (Ev.cs aG 2 Z ?_); refine B1 hf fun x4 h6 hf=>Ev.cons Z Z Z (AO.gy h6 Z dM Z Z zg) (Ev.cs aG 1 Z ?_); refine B1 hf fun c1 h7 hf=>Ev.cons Z Z Z (AO.call Z _ Z Z anT (EJ _ _ h7 zg)) (Ev.cs aG 1 Z (Ev.nil ?_))
  show AR _ _ _ _ _ _ _ _
  refine B1 hf fun x5 h8 hf=>U 8 Z (AS Z (AO.gy h8 Z dM Z Z ?_)); refine B1 hf fun x6 h9 hf=>CL Z (NC _ h9 ?_); refine B1 hf fun b2 h11 hf=>U 1 Z (AR.dB 5 43 48 true [0,1,5,6,7,8,9] b2 Z Z (fun h10=>?_) (fun h10=>?_) ?_)
  · refine IT 43 h10 h11 Z fun h11=>?_; refine B1 h11 fun x7 h12 h11=>U 2 Z (GO Z (AO.gy h12 Z dM Z Z ?_)); refine BR h11 fun x8 jJ h11=>?_; refine GO Z (AO.call Z _ Z Z aji (NC _ jJ ?_)); cases h11; exact eG 1 Z (En [48,0,1,5,6,7,8,9] Z)
  · refine IF 43 h10 h11 Z fun h11=>?_; cases h11; exact eG 5 Z (En [48,0,1,5,6,7,8,9] Z)
  refine J 0 Z (C hf Z (fun j5 hf=>?_) fun j5 hf=>?_)
  ·
   refine B1 hf fun m1 mo hf=>W 2 Z (CL Z (ZI _ _ mo ?_)); refine B1 hf fun n1 h16 hf=>U 2 Z (CL Z (ZI _ _ h16 (J 2 Z (AW.draw 10 mixed (by kernel_rfl) Z ?_)))); refine Ev.cs aG 3 Z ?_; refine B1 hf fun x9 qB hf=>Ev.cons Z Z Z (AO.r_ qB Z dM Z ⟨_,Z⟩ ⟨_,Z⟩ zg) (Ev.cs aG 3 Z ?_); refine B1 hf fun wS h18 hf=>Ev.cons Z Z Z (AO.r_ h18 Z dM Z ⟨_,Z⟩ ⟨_,Z⟩ zg) ?_; refine B1 hf fun c2 h19 hf=>Ev.cons Z Z Z (AO.call Z _ Z Z anS (aft _ _ h19 zg)) (Ev.cs aG 1 Z (Ev.nil ?_))
   show AR _ _ _ _ _ _ _ _
   refine J 2 Z (C hf Z (fun h20 hf=>?_) fun h20 hf=>?_)
   · cases hf; exact M 2 Z (Y Z h)
   exact M 4 Z ⟨m1,n1,Z,Z,Z,hf⟩
  refine V 2 Z (C hf Z (fun h21 hf=>?_) fun h21 hf=>?_)
  · cases hf; exact M 2 Z (Y Z h)
  exact M 4 Z ⟨(bZ (i1 + 1)),(bZ (rV + 1)),Z,Z,Z,hf⟩
 refine W 2 Z (AS Z (AO.b_ Z Z Z Z dM Z (U 3 Z (AS Z (AO.b_ Z Z Z Z dM Z ?_))))); refine BR hf fun H8 h22 hf=>?_; refine U 1 Z (CL Z (EJ _ _ h22 ?_)); cases hf; exact N 1 Z (Y Z h)

theorem Uw (v1:ah) {r0:Bool} (hf:zN v1=some r0) (h:Q (.ret (.bool r0)) τ):PC 103 [.agg (aK v1)] τ Q:=by
 unfold zN at hf; refine BN 44 [.tmp 2] [0] Tryz.func103 Z Z Z Z Z (V 3 Z (Gh (fun i1=>[(1,.ref (aK v1)),(3,iP i1)]) (fun i1=>[]) (fun bT i1=>qW v1 bT i1=some r0) BIG 0 Z Z hf (fun _ hz=>bQ hz) ?_)); intro bT i1 hf; rw [qW] at hf; refine W 3 Z (AS Z (AO.aP (l:=v1.keys) Z Z Z Z f_ Z Z (J 1 Z (C hf Z (fun h1 hf=>?_) fun h1 hf=>?_))))
 ·
  refine V 0 Z (AW.draw 26 mixed (by kernel_rfl) Z ?_); refine Ev.cs aG 3 Z ?_; refine B1 hf fun e1 h2 hf=>Ev.cons Z Z Z (AO.aI h2 Z Z Z Z f_ Z Z zg) (Ev.cs aG 1 Z ?_); refine B1 hf fun x1 h3 hf=>Ev.cons Z Z Z (AO.call Z _ Z Z an4 (ZH _ h3 zg)) (Ev.cs aG 2 Z ?_); refine B1 hf fun b1 h5 hf=>Ev.dB hKA 18 18 36 false [1,3] (.bool b1) Z Z (fun h4=>?_) (fun h4=>?_) ?_
  ·
   replace h5:=cZ h4 h5; refine Ev.is uq 18 h4 Z (Ev.cs aG 3 Z ?_); refine BR h5 fun b2 h7 h5=>?_; refine Ev.dB uq 14 21 35 true [1,3,18] (.bool b2) Z Z (fun h6=>?_) (fun h6=>?_) ?_
   ·
    replace h7:=cO h6 h7; refine Ev.is uq 21 h6 Z (Ev.cs aG 4 Z ?_); refine B1 h7 fun e2 h8 h7=>Ev.run Z Z Z Z Z Z Z (AO.aI h8 Z Z Z Z f_ Z Z zg) (Ev.cs aG 4 Z ?_); refine B1 h7 fun e3 h9 h7=>Ev.run Z Z Z Z Z Z Z (AO.aI h9 Z Z Z Z f_ Z Z zg) (Ev.cs aG 1 Z ?_); refine B1 h7 fun x2 h10 h7=>Ev.run Z Z Z Z Z Z Z (AO.call Z _ Z Z aeE (Jm _ _ h10 zg)) (Ev.cs aG 1 Z ?_); cases h7; refine Ev.cs aG 1 Z ?_
    exact Ev.nil (Less.settle (ps:=[35,1,3,18]) Z)
   · replace h7:=cZ h6 h7; refine Ev.is uq 21 h6 Z ?_; cases h7; refine Ev.cs aG 14 Z ?_; exact Ev.nil (Less.settle (ps:=[35,1,3,18]) Z)
   cases h5; refine Ev.cs aG 1 Z ?_; exact Ev.nil (Less.settle (ps:=[36,1,3]) Z)
  · replace h5:=cO h4 h5; refine Ev.is uq 18 h4 Z ?_; cases h5; refine Ev.cs aG 18 Z ?_; exact Ev.nil (Less.settle (ps:=[36,1,3]) Z)
  refine Ev.nil ?_; show AR _ _ _ _ _ _ _ _
  refine J 0 Z (C hf Z (fun h11 hf=>?_) fun h11 hf=>?_)
  · cases hf; exact M 1 Z (Y Z h)
  exact M 3 Z ⟨(bZ (i1 + 1)),Z,Z,Z,hf⟩
 refine W 2 Z (AS Z (AO.aP (l:=v1.keys) Z Z Z Z f_ Z Z (U 2 Z (AS Z (AO.aP (l:=v1.aO) Z Z Z Z dX Z (ah.aB _) ?_))))); cases hf; exact N 2 Z (Y Z h)


abbrev Ub (o9:ah→Int→Option Int):Prop:=∀ (qg:ah) (gu:Int) {aR:Int},o9 qg gu=some aR→∀ {τ:List bJ} {Q:eT→List bJ→Prop} (h:Q (.ret (iP aR)) τ),PC 63 [.agg (aK qg),iP gu] τ Q
theorem abP (o9) (Ya:Ub o9) (v1:ah) (bV:Int) {r0:Int} (hf:IB o9 v1 bV=some r0) (h:Q (.ret (iP r0)) τ):PC 63 [.agg (aK v1),iP bV] τ Q:=by
 unfold IB at hf; refine BN 85 [.tmp 4] [0,1] Tryz.func63 Z Z Z Z Z (V 4 Z (C hf Z (fun h1 hf=>?_) fun h1 hf=>?_))
 · cases hf; exact M 1 Z (Y Z h)
 refine W 4 Z (On 4 12 16 [1,2] (decide (5 < v1.kind)) Z Z Z Z ?_); refine B1 hf fun b1 h4 hf=>U 1 Z (AR.dB 4 17 21 false [1,2] b1 Z Z (fun h3=>?_) (fun h3=>?_) ?_)
 · refine IF 17 h3 h4 Z fun h4=>?_; refine B1 h4 fun x1 h5 h4=>U 1 Z (GO Z (AO.call Z _ Z Z aoh (adI _ h5 ?_))); cases h4; exact eG 2 Z (En [21,1,2] Z)
 · refine IT 17 h3 h4 Z fun h4=>?_; cases h4; exact eG 4 Z (En [21,1,2] Z)
 refine J 0 Z (C hf Z (fun h6 hf=>?_) fun h6 hf=>?_)
 · cases hf; exact M 1 Z (Y Z h)
 refine W 4 Z (On 4 25 29 [1,2] (decide (9007199254740992 < v1.dI)) Z Z Z Z (J 0 Z (C hf Z (fun h8 hf=>?_) fun h8 hf=>?_)))
 · cases hf; exact M 1 Z (Y Z h)
 refine W 2 Z (AS Z (AO.b_ Z Z Z Z dM Z (U 2 Z (AR.or 5 34 39 [1,2] (x:=(decide (1024 < (v1.aO.length:Int)))) Z Z (fun h9=>?_) (fun h9=>?_) ?_))))
 · refine Is 34 h9 Z (U 2 Z (GO Z (AO.aP (l:=v1.aO) Z Z Z Z dX Z (ah.aB _) ?_))); exact eG 2 Z (En [39,1,2] Z)
 · refine Is 34 h9 Z ?_; exact eG 5 Z (En [39,1,2] Z)
 refine U 1 Z (AR.or 5 40 45 [1,2] (x:=(decide (1024 < (v1.keys.length:Int)))) Z Z (fun h10=>?_) (fun h10=>?_) ?_)
 · refine Is 40 h10 Z (U 2 Z (GO Z (AO.aP (l:=v1.keys) Z Z Z Z f_ Z Z ?_))); exact eG 2 Z (En [45,1,2] Z)
 · refine Is 40 h10 Z ?_; exact eG 5 Z (En [45,1,2] Z)
 refine J 0 Z (C hf Z (fun h11 hf=>?_) fun h11 hf=>?_)
 · cases hf; exact M 1 Z (Y Z h)
 refine B1 hf fun b2 jJ hf=>W 4 Z (AR.dB 4 49 53 true [1,2] b2 Z Z (fun h12=>?_) (fun h12=>?_) ?_)
 · refine IT 49 h12 jJ Z fun jJ=>?_; refine B1 jJ fun x2 j5 jJ=>U 1 Z (GO Z (AO.call Z _ Z Z aog (Uw _ j5 ?_))); cases jJ; exact eG 2 Z (En [53,1,2] Z)
 · refine IF 49 h12 jJ Z fun jJ=>?_; cases jJ; exact eG 4 Z (En [53,1,2] Z)
 refine J 0 Z (C hf Z (fun mo hf=>?_) fun mo hf=>?_)
 · cases hf; exact M 1 Z (Y Z h)
 refine W 4 Z (AR.and 5 57 62 [1,2] (x:=((v1.aO.length:Int) == 0)) Z Z (fun h16=>?_) (fun h16=>?_) ?_)
 · refine Is 57 h16 Z (U 2 Z (GO Z (AO.aP (l:=v1.aO) Z Z Z Z dX Z (ah.aB _) ?_))); exact eG 2 Z (En [62,1,2] Z)
 · refine Is 57 h16 Z ?_; exact eG 5 Z (En [62,1,2] Z)
 refine U 1 Z (An 3 63 66 [1,2] (bV == 16) Z Z Z Z (J 0 Z (C hf Z (fun h18 hf=>?_) fun h18 hf=>?_)))
 · cases hf; exact M 1 Z (Y Z h)
 refine V 1 Z (Gh (fun i1=>[(1,iP bV),(2,.ref (aK v1)),(5,iP i1)]) (fun i1=>[]) (fun bT i1=>BF o9 v1 bV bT i1=some r0) BIG 0 Z Z hf (fun _ hz=>bQ hz) ?_); intro bT i1 hf; rw [BF] at hf; refine W 3 Z (AS Z (AO.aP (l:=v1.aO) Z Z Z Z dX Z (ah.aB _) (J 1 Z (C hf Z (fun h19 hf=>?_) fun h19 hf=>?_))))
 ·
  refine B1 hf fun e1 h20 hf=>W 3 Z (AS Z (AO.aI h20 Z Z (ah.aB _) Z dX (ah.aD _) Z ?_)); refine B1 hf fun e2 h21 hf=>U 3 Z (CL Z (Ya _ _ h21 (J 3 Z (C hf Z (fun h22 hf=>?_) fun h22 hf=>?_))))
  · cases hf; exact M 2 Z (Y Z h)
  exact M 3 Z ⟨(bZ (i1 + 1)),Z,Z,Z,hf⟩
 cases hf; exact M 1 Z (Y Z h)
theorem acS :∀ k:Nat,(Ub (sS k)):=by
 intro k
 induction k with
 | zero=>exact fun _ _ _ hz=>by first | cases hz | (unfold sS at hz; cases hz)
 | succ k ih=>exact fun qg gu aR hz τ Q hq=>abP (sS k) ih qg gu hz hq
theorem adK (qg:ah) (gu:Int) {aR:Int} (hf:R6 qg gu=some aR) (h:Q (.ret (iP aR)) τ):PC 63 [.agg (aK qg),iP gu] τ Q:=
 ((acS BIG)) qg gu hf h

theorem EI (v1:ah) {r0:Int} (hf:yO v1=some r0) (h:Q (.ret (iP r0)) τ):PC 39 [.agg (aK v1)] τ Q:=by
 unfold yO at hf; refine BN 5 [.tmp 2] [0] Tryz.func39 Z Z Z Z Z ?_; refine BR hf fun x1 h1 hf=>?_; refine W 3 Z (CL Z (adK _ _ h1 ?_)); cases hf; exact N 1 Z (Y Z h)

theorem ZF (cB:List aA) {r0:Int} (hf:N_ cB=some r0) (h:Q (.ret (iP r0)) τ):PC 20 [.list (List.map aA.cells cB)] τ Q:=by
 unfold N_ at hf; refine BN 47 [.tmp 2] [0] Tryz.func20 Z Z Z Z Z (W 2 Z (AS Z (AO.aP (l:=cB) Z Z Z Z jN Z Z (J 1 Z (C hf Z (fun h1 hf=>?_) fun h1 hf=>?_)))))
 · cases hf; exact M 1 Z (Y Z h)
 refine V 1 Z (Gh (fun i1=>[(0,.list (List.map aA.cells cB)),(3,iP i1)]) (fun i1=>[]) (fun bT i1=>xk cB bT i1=some r0) BIG 0 Z Z hf (fun _ hz=>bQ hz) ?_); intro bT i1 hf; rw [xk] at hf; refine W 2 Z (AS Z (AO.aP (l:=cB) Z Z Z Z jN Z Z (J 1 Z (C hf Z (fun h2 hf=>?_) fun h2 hf=>?_))))
 ·
  refine B1 hf fun e1 h3 hf=>W 2 Z (AS Z (AO.aI h3 Z Z Z Z jN (aA.aD _) Z ?_)); refine B1 hf fun x1 h4 hf=>U 2 Z (CL Z (EH _ h4 (J 1 Z (C hf Z (fun h5 hf=>?_) fun h5 hf=>?_))))
  · cases hf; exact M 1 Z (Y Z h)
  refine B1 hf fun e2 h6 hf=>W 2 Z (AS Z (AO.aI h6 Z Z Z Z jN (aA.aD _) Z ?_)); refine B1 hf fun e3 h7 hf=>U 2 Z (CL Z (EI _ h7 (J 3 Z (C hf Z (fun h8 hf=>?_) fun h8 hf=>?_))))
  · cases hf; exact M 2 Z (Y Z h)
  refine V 1 Z (Gh (fun rV=>[(0,.list (List.map aA.cells cB)),(3,iP i1),(5,iP rV)]) (fun rV=>[]) (fun KQ rV=>C8 cB i1 (xk cB bT) KQ rV=some r0) BIG 0 Z Z hf (fun _ hz=>bQ hz) ?_); intro KQ rV hf; rw [C8] at hf; refine V 3 Z (C hf Z (fun h9 hf=>?_) fun h9 hf=>?_)
  ·
   refine V 0 Z (AW.draw 11 mixed (by kernel_rfl) Z ?_); refine Ev.cs aG 2 Z ?_; refine B1 hf fun e4 h10 hf=>Ev.cons Z Z Z (AO.aI h10 Z Z Z Z jN (aA.aD _) Z zg) (Ev.cs aG 4 Z ?_); refine B1 hf fun e5 h11 hf=>Ev.cons Z Z Z (AO.aI h11 Z Z Z Z jN (aA.aD _) Z zg) (Ev.cs aG 3 Z (Ev.nil ?_)); show AR _ _ _ _ _ _ _ _
   refine J 0 Z (C hf Z (fun h12 hf=>?_) fun h12 hf=>?_)
   · cases hf; exact M 1 Z (Y Z h)
   exact M 3 Z ⟨(bZ (rV + 1)),Z,Z,Z,hf⟩
  exact M 3 Z ⟨(bZ (i1 + 1)),Z,Z,Z,hf⟩
 cases hf; exact M 1 Z (Y Z h)

theorem LA (c1:UInt8) {r0:Bool} (hf:zP c1=some r0) (h:Q (.ret (.bool r0)) τ):PC 324 [.int .u8 (c1.toNat:Int)] τ Q:=by
 unfold zP at hf; refine BN 21 [.tmp 2] [0] Tryz.func324 Z Z Z Z Z (W 4 Z (An 3 5 8 [0] (decide ((c1.toNat:Int)≤122)) Z Z Z Z (U 1 Z (AR.or 7 9 16 [0] (x:=((decide (65≤(c1.toNat:Int))) && (decide ((c1.toNat:Int)≤90)))) Z Z (fun h2=>?_) (fun h2=>?_) ?_))))
 · refine Is 9 h2 Z (U 3 Z (An 3 12 15 [0,9] (decide ((c1.toNat:Int)≤90)) Z Z Z Z ?_)); exact eG 1 Z (En [16,0] Z)
 · refine Is 9 h2 Z ?_; exact eG 7 Z (En [16,0] Z)
 refine U 1 Z (On 3 17 20 [] ((c1.toNat:Int) == 95) Z Z Z Z ?_); cases hf; exact N 1 Z (Y Z h)

theorem ND (c1:UInt8) {r0:Bool} (hf:BL c1=some r0) (h:Q (.ret (.bool r0)) τ):PC 325 [.int .u8 (c1.toNat:Int)] τ Q:=by
 unfold BL at hf; refine BN 9 [.tmp 2] [0] Tryz.func325 Z Z Z Z Z (W 4 Z (An 3 5 8 [] (decide ((c1.toNat:Int)≤57)) Z Z Z Z ?_)); cases hf; exact N 1 Z (Y Z h)

theorem O3 (s1:Str) {r0:Bool} (hf:AQ s1=some r0) (h:Q (.ret (.bool r0)) τ):PC 289 [.str s1] τ Q:=by
 unfold AQ at hf; refine BN 36 [.tmp 2] [0] Tryz.func289 Z Z Z Z Z (W 2 Z (AS Z (AO.b_ Z Z Z Z dM Z (U 2 Z (AR.or 4 7 11 [0] (x:=(decide (64 < (s1.length:Int)))) Z Z (fun h1=>?_) (fun h1=>?_) ?_)))))
 · refine Is 7 h1 Z (U 1 Z (GO Z (AO.b_ Z Z Z Z dM Z ?_))); exact eG 2 Z (En [11,0] Z)
 · refine Is 7 h1 Z ?_; exact eG 4 Z (En [11,0] Z)
 refine B1 hf fun b1 h3 hf=>U 1 Z (AR.dB 5 12 17 false [0] b1 Z Z (fun h2=>?_) (fun h2=>?_) ?_)
 · refine IF 12 h2 h3 Z fun h3=>?_; refine B1 h3 fun x1 h4 h3=>U 1 Z (GO Z (AO.gy h4 Z dM Z Z ?_)); refine B1 h3 fun x2 h5 h3=>GO Z (AO.call Z _ Z Z anC (LA _ h5 ?_)); cases h3; exact eG 2 Z (En [17,0] Z)
 · refine IT 12 h2 h3 Z fun h3=>?_; cases h3; exact eG 5 Z (En [17,0] Z)
 refine J 0 Z (C hf Z (fun h6 hf=>?_) fun h6 hf=>?_)
 · cases hf; exact M 1 Z (Y Z h)
 refine V 1 Z (Gh (fun i1=>[(0,.str s1),(3,iP i1)]) (fun i1=>[]) (fun bT i1=>uJ s1 bT i1=some r0) BIG 0 Z Z hf (fun _ hz=>bQ hz) ?_); intro bT i1 hf; rw [uJ] at hf; refine W 2 Z (AS Z (AO.b_ Z Z Z Z dM Z (J 1 Z (C hf Z (fun h7 hf=>?_) fun h7 hf=>?_))))
 ·
  refine B1 hf fun x3 h8 hf=>W 2 Z (AS Z (AO.gy h8 Z dM Z Z ?_)); refine B1 hf fun x4 h9 hf=>CL Z (LA _ h9 ?_); refine B1 hf fun b2 h11 hf=>U 2 Z (AR.dB 6 29 35 true [0,3] b2 Z Z (fun h10=>?_) (fun h10=>?_) ?_)
  · refine IT 29 h10 h11 Z fun h11=>?_; refine B1 h11 fun x5 h12 h11=>U 2 Z (GO Z (AO.gy h12 Z dM Z Z ?_)); refine B1 h11 fun x6 jJ h11=>GO Z (AO.call Z _ Z Z anB (ND _ jJ ?_)); cases h11; exact eG 2 Z (En [35,0,3] Z)
  · refine IF 29 h10 h11 Z fun h11=>?_; cases h11; exact eG 6 Z (En [35,0,3] Z)
  refine J 0 Z (C hf Z (fun j5 hf=>?_) fun j5 hf=>?_)
  · cases hf; exact M 1 Z (Y Z h)
  exact M 3 Z ⟨(bZ (i1 + 1)),Z,Z,Z,hf⟩
 cases hf; exact M 1 Z (Y Z h)

section
variable [FR]
def ahs :Go.Shelf.Ren:=⟨fun | 171=>263 | 243=>298 | 246=>336 | 283=>354 | 284=>355 | 285=>356 | 286=>357 | 129=>317 | 317=>369 | 318=>370 | 319=>371 | 320=>372 | 337=>376 | 338=>377 | n=>n,fun | 3=>3 | 9=>9 | 2=>2 | 4=>4 | 171=>304 | 0=>0 | 53=>237 | 37=>168 | 5=>5 | 173=>306 | 212=>318 | 51=>268 | 20=>20 | 213=>319 | 46=>247 | 232=>327 | 233=>328 | n=>n,fun | 17=>3 | 18=>6 | 19=>7 | n=>n⟩
theorem aqd :Go.Proofs.LaysM.n171 Tryz.prog ahs:={
 mixed:=by kernel_rfl
 f129:=Tryz.func317.trans (congrArg some (by kernel_rfl))
 f171:=Tryz.func263.trans (congrArg some (by kernel_rfl))
 f243:=Tryz.func298.trans (congrArg some (by kernel_rfl))
 f246:=Tryz.func336.trans (congrArg some (by kernel_rfl))
 f283:=Tryz.func354.trans (congrArg some (by kernel_rfl))
 f284:=Tryz.func355.trans (congrArg some (by kernel_rfl))
 f285:=Tryz.func356.trans (congrArg some (by kernel_rfl))
 f286:=Tryz.func357.trans (congrArg some (by kernel_rfl))
 f317:=Tryz.func369.trans (congrArg some (by kernel_rfl))
 f318:=Tryz.func370.trans (congrArg some (by kernel_rfl))
 f319:=Tryz.func371.trans (congrArg some (by kernel_rfl))
 f320:=Tryz.func372.trans (congrArg some (by kernel_rfl))
 f337:=Tryz.func376.trans (congrArg some (by kernel_rfl))
 f338:=Tryz.func377.trans (congrArg some (by kernel_rfl))
 t0:=Tryz.underlying0
 a0:=Tryz.isAgg0
 z0:=Tryz.sizeOf0
 v0:=Tryz.zeroValue0
 t2:=Tryz.underlying2
 a2:=Tryz.isAgg2
 z2:=Tryz.sizeOf2
 v2:=Tryz.zeroValue2
 t3:=Tryz.underlying3
 a3:=Tryz.isAgg3
 z3:=Tryz.sizeOf3
 v3:=Tryz.zeroValue3
 t4:=Tryz.underlying4
 a4:=Tryz.isAgg4
 z4:=Tryz.sizeOf4
 v4:=Tryz.zeroValue4
 t5:=Tryz.underlying5
 a5:=Tryz.isAgg5
 z5:=Tryz.sizeOf5
 v5:=Tryz.zeroValue5
 t9:=Tryz.underlying9
 a9:=Tryz.isAgg9
 z9:=Tryz.sizeOf9
 v9:=Tryz.zeroValue9
 t20:=Tryz.underlying20
 a20:=Tryz.isAgg20
 z20:=Tryz.sizeOf20
 v20:=Tryz.zeroValue20
 t37:=Tryz.underlying168
 a37:=Tryz.isAgg168
 z37:=Tryz.sizeOf168
 v37:=Tryz.zeroValue168
 t46:=Tryz.underlying247
 a46:=Tryz.isAgg247
 z46:=Tryz.sizeOf247
 v46:=Tryz.zeroValue247
 t51:=Tryz.underlying268
 a51:=Tryz.isAgg268
 z51:=Tryz.sizeOf268
 v51:=Tryz.zeroValue268
 t53:=Tryz.underlying237
 a53:=Tryz.isAgg237
 z53:=Tryz.sizeOf237
 v53:=Tryz.zeroValue237
 t171:=Tryz.underlying304
 a171:=Tryz.isAgg304
 z171:=Tryz.sizeOf304
 v171:=Tryz.zeroValue304
 t173:=Tryz.underlying306
 a173:=Tryz.isAgg306
 z173:=Tryz.sizeOf306
 v173:=Tryz.zeroValue306
 t212:=Tryz.underlying318
 a212:=Tryz.isAgg318
 z212:=Tryz.sizeOf318
 v212:=Tryz.zeroValue318
 t213:=Tryz.underlying319
 a213:=Tryz.isAgg319
 z213:=Tryz.sizeOf319
 t232:=Tryz.underlying327
 a232:=Tryz.isAgg327
 z232:=Tryz.sizeOf327
 v232:=Tryz.zeroValue327
 t233:=Tryz.underlying328
 a233:=Tryz.isAgg328
 z233:=Tryz.sizeOf328
 v233:=Tryz.zeroValue328
 g17:=by kernel_rfl
 g18:=by kernel_rfl
 g19:=by kernel_rfl
 i0:=by kernel_rfl
 i2:=by kernel_rfl
 i3:=by kernel_rfl
 i4:=by kernel_rfl
 i5:=by kernel_rfl
 i9:=by kernel_rfl
 i20:=by kernel_rfl
 i37:=by kernel_rfl
 i46:=by kernel_rfl
 i51:=by kernel_rfl
 i53:=by kernel_rfl
 i171:=by kernel_rfl
 i173:=by kernel_rfl
 i212:=by kernel_rfl
 i232:=by kernel_rfl
 i233:=by kernel_rfl
 m17:=by kernel_rfl
 m18:=by kernel_rfl
 m19:=by kernel_rfl}


theorem Nv (n1:Int) {r0:Str} (hf:strconv_Itoa n1=some r0) (h:Q (.ret (.str r0)) τ):PC 263 [iP n1] τ Q:=by
 unfold strconv_Itoa at hf
 split at hf
 case isFalse=>cases hf
 rename_i hg
 cases hf
 refine AC.none ?_
 exact AC.itoa FR.hD aqd hg.1 hg.2 FR.pow h
end

section
variable [FR]
def ah1 :Go.Shelf.Ren:=⟨fun | 172=>262 | 244=>296 | 245=>297 | 247=>331 | 279=>332 | 280=>333 | 281=>334 | 282=>335 | 287=>351 | 316=>352 | 171=>263 | 205=>353 | 321=>367 | 322=>368 | 243=>298 | 246=>336 | 283=>354 | 284=>355 | 285=>356 | 286=>357 | 129=>317 | 317=>369 | 318=>370 | 319=>371 | 320=>372 | 337=>376 | 338=>377 | n=>n,fun | 9=>9 | 3=>3 | 75=>177 | 76=>231 | 4=>4 | 5=>5 | 167=>276 | 37=>168 | 0=>0 | 85=>277 | 2=>2 | 168=>279 | 53=>237 | 175=>299 | 46=>247 | 210=>302 | 127=>207 | 145=>317 | 143=>315 | 21=>21 | 171=>304 | 173=>306 | 212=>318 | 51=>268 | 20=>20 | 213=>319 | 232=>327 | 233=>328 | 80=>172 | n=>n,fun | 15=>0 | 16=>1 | 17=>3 | 18=>6 | 19=>7 | n=>n⟩
theorem aqL :Go.Proofs.LaysC.n172 Tryz.prog ah1:={
 mixed:=by kernel_rfl
 f129:=Tryz.func317.trans (congrArg some (by kernel_rfl))
 f171:=Tryz.func263.trans (congrArg some (by kernel_rfl))
 f172:=Tryz.func262.trans (congrArg some (by kernel_rfl))
 f205:=Tryz.func353.trans (congrArg some (by kernel_rfl))
 f243:=Tryz.func298.trans (congrArg some (by kernel_rfl))
 f244:=Tryz.func296.trans (congrArg some (by kernel_rfl))
 f245:=Tryz.func297.trans (congrArg some (by kernel_rfl))
 f246:=Tryz.func336.trans (congrArg some (by kernel_rfl))
 f247:=Tryz.func331.trans (congrArg some (by kernel_rfl))
 f279:=Tryz.func332.trans (congrArg some (by kernel_rfl))
 f280:=Tryz.func333.trans (congrArg some (by kernel_rfl))
 f281:=Tryz.func334.trans (congrArg some (by kernel_rfl))
 f282:=Tryz.func335.trans (congrArg some (by kernel_rfl))
 f283:=Tryz.func354.trans (congrArg some (by kernel_rfl))
 f284:=Tryz.func355.trans (congrArg some (by kernel_rfl))
 f285:=Tryz.func356.trans (congrArg some (by kernel_rfl))
 f286:=Tryz.func357.trans (congrArg some (by kernel_rfl))
 f287:=Tryz.func351.trans (congrArg some (by kernel_rfl))
 f316:=Tryz.func352.trans (congrArg some (by kernel_rfl))
 f317:=Tryz.func369.trans (congrArg some (by kernel_rfl))
 f318:=Tryz.func370.trans (congrArg some (by kernel_rfl))
 f319:=Tryz.func371.trans (congrArg some (by kernel_rfl))
 f320:=Tryz.func372.trans (congrArg some (by kernel_rfl))
 f321:=Tryz.func367.trans (congrArg some (by kernel_rfl))
 f322:=Tryz.func368.trans (congrArg some (by kernel_rfl))
 f337:=Tryz.func376.trans (congrArg some (by kernel_rfl))
 f338:=Tryz.func377.trans (congrArg some (by kernel_rfl))
 t0:=Tryz.underlying0
 a0:=Tryz.isAgg0
 z0:=Tryz.sizeOf0
 v0:=Tryz.zeroValue0
 t2:=Tryz.underlying2
 a2:=Tryz.isAgg2
 z2:=Tryz.sizeOf2
 v2:=Tryz.zeroValue2
 t3:=Tryz.underlying3
 a3:=Tryz.isAgg3
 z3:=Tryz.sizeOf3
 v3:=Tryz.zeroValue3
 t4:=Tryz.underlying4
 a4:=Tryz.isAgg4
 z4:=Tryz.sizeOf4
 v4:=Tryz.zeroValue4
 t5:=Tryz.underlying5
 a5:=Tryz.isAgg5
 z5:=Tryz.sizeOf5
 v5:=Tryz.zeroValue5
 t9:=Tryz.underlying9
 a9:=Tryz.isAgg9
 z9:=Tryz.sizeOf9
 v9:=Tryz.zeroValue9
 t20:=Tryz.underlying20
 a20:=Tryz.isAgg20
 z20:=Tryz.sizeOf20
 v20:=Tryz.zeroValue20
 t21:=Tryz.underlying21
 a21:=Tryz.isAgg21
 z21:=Tryz.sizeOf21
 v21:=Tryz.zeroValue21
 t37:=Tryz.underlying168
 a37:=Tryz.isAgg168
 z37:=Tryz.sizeOf168
 v37:=Tryz.zeroValue168
 t46:=Tryz.underlying247
 a46:=Tryz.isAgg247
 z46:=Tryz.sizeOf247
 v46:=Tryz.zeroValue247
 t51:=Tryz.underlying268
 a51:=Tryz.isAgg268
 z51:=Tryz.sizeOf268
 v51:=Tryz.zeroValue268
 t53:=Tryz.underlying237
 a53:=Tryz.isAgg237
 z53:=Tryz.sizeOf237
 v53:=Tryz.zeroValue237
 t75:=Tryz.underlying177
 a75:=Tryz.isAgg177
 z75:=Tryz.sizeOf177
 v75:=Tryz.zeroValue177
 t76:=Tryz.underlying231
 a76:=Tryz.isAgg231
 z76:=Tryz.sizeOf231
 v76:=Tryz.zeroValue231
 t85:=Tryz.underlying277
 a85:=Tryz.isAgg277
 z85:=Tryz.sizeOf277
 v85:=Tryz.zeroValue277
 t127:=Tryz.underlying207
 a127:=Tryz.isAgg207
 z127:=Tryz.sizeOf207
 v127:=Tryz.zeroValue207
 t143:=Tryz.underlying315
 a143:=Tryz.isAgg315
 z143:=Tryz.sizeOf315
 v143:=Tryz.zeroValue315
 t145:=Tryz.underlying317
 a145:=Tryz.isAgg317
 z145:=Tryz.sizeOf317
 v145:=Tryz.zeroValue317
 t167:=Tryz.underlying276
 a167:=Tryz.isAgg276
 z167:=Tryz.sizeOf276
 v167:=Tryz.zeroValue276
 t168:=Tryz.underlying279
 a168:=Tryz.isAgg279
 z168:=Tryz.sizeOf279
 v168:=Tryz.zeroValue279
 t171:=Tryz.underlying304
 a171:=Tryz.isAgg304
 z171:=Tryz.sizeOf304
 v171:=Tryz.zeroValue304
 t173:=Tryz.underlying306
 a173:=Tryz.isAgg306
 z173:=Tryz.sizeOf306
 v173:=Tryz.zeroValue306
 t175:=Tryz.underlying299
 a175:=Tryz.isAgg299
 z175:=Tryz.sizeOf299
 v175:=Tryz.zeroValue299
 t210:=Tryz.underlying302
 a210:=Tryz.isAgg302
 z210:=Tryz.sizeOf302
 v210:=Tryz.zeroValue302
 t212:=Tryz.underlying318
 a212:=Tryz.isAgg318
 z212:=Tryz.sizeOf318
 v212:=Tryz.zeroValue318
 t213:=Tryz.underlying319
 a213:=Tryz.isAgg319
 z213:=Tryz.sizeOf319
 t232:=Tryz.underlying327
 a232:=Tryz.isAgg327
 z232:=Tryz.sizeOf327
 v232:=Tryz.zeroValue327
 t233:=Tryz.underlying328
 a233:=Tryz.isAgg328
 z233:=Tryz.sizeOf328
 v233:=Tryz.zeroValue328
 g15:=by kernel_rfl
 g16:=by kernel_rfl
 g17:=by kernel_rfl
 g18:=by kernel_rfl
 g19:=by kernel_rfl
 t80:=Tryz.underlying172
 a80:=Tryz.isAgg172
 z80:=Tryz.sizeOf172
 v80:=Tryz.zeroValue172
 i0:=by kernel_rfl
 i2:=by kernel_rfl
 i3:=by kernel_rfl
 i4:=by kernel_rfl
 i5:=by kernel_rfl
 i9:=by kernel_rfl
 i20:=by kernel_rfl
 i21:=by kernel_rfl
 i37:=by kernel_rfl
 i46:=by kernel_rfl
 i51:=by kernel_rfl
 i53:=by kernel_rfl
 i75:=by kernel_rfl
 i76:=by kernel_rfl
 i80:=by kernel_rfl
 i85:=by kernel_rfl
 i127:=by kernel_rfl
 i143:=by kernel_rfl
 i145:=by kernel_rfl
 i167:=by kernel_rfl
 i168:=by kernel_rfl
 i171:=by kernel_rfl
 i173:=by kernel_rfl
 i175:=by kernel_rfl
 i210:=by kernel_rfl
 i212:=by kernel_rfl
 i232:=by kernel_rfl
 i233:=by kernel_rfl
 m15:=by kernel_rfl
 m16:=by kernel_rfl
 m17:=by kernel_rfl
 m18:=by kernel_rfl
 m19:=by kernel_rfl
 c0:=by kernel_rfl
 c2:=by kernel_rfl
 c3:=by kernel_rfl
 c4:=by kernel_rfl
 c5:=by kernel_rfl
 c9:=by kernel_rfl
 c20:=by kernel_rfl
 c21:=by kernel_rfl
 c37:=by kernel_rfl
 c46:=by kernel_rfl
 c51:=by kernel_rfl
 c53:=by kernel_rfl
 c75:=by kernel_rfl
 c76:=by kernel_rfl
 c80:=by kernel_rfl
 c85:=by kernel_rfl
 c127:=by kernel_rfl
 c143:=by kernel_rfl
 c145:=by kernel_rfl
 c167:=by kernel_rfl
 c168:=by kernel_rfl
 c171:=by kernel_rfl
 c173:=by kernel_rfl
 c175:=by kernel_rfl
 c210:=by kernel_rfl
 c212:=by kernel_rfl
 c213:=by kernel_rfl
 c232:=by kernel_rfl
 c233:=by kernel_rfl}


theorem Hz (s1:Str) {r0:Int} {r1:Option Nat} (hf:strconv_Atoi s1=some (r0,r1)) (h:Q (.ret (.tuple [iP r0,.err r1])) τ):PC 262 [.str s1] τ Q:=by
 unfold strconv_Atoi at hf
 split at hf
 case isFalse=>cases hf
 rename_i hg
 cases hf
 refine AC.none ?_
 exact AC.atoi FR.hD aqL hg Z FR.syn FR.rng h
end

theorem Jo (s1:Str) {r0:Bool} (hf:AL s1=some r0) (h:Q (.ret (.bool r0)) τ):PC 290 [.str s1] τ Q:=by
 unfold AL at hf; refine BN 13 [.tmp 2] [0] Tryz.func290 Z Z Z Z Z (W 4 Z (On 3 5 8 [0] (s1 == ([102,97,108,115,101]:Str)) Z Z Z Z (U 1 Z (On 3 9 12 [] (s1 == ([110,117,108,108]:Str)) Z Z Z Z ?_)))); cases hf; exact N 1 Z (Y Z h)

theorem I6 (op1:Str) {r0:Int} (hf:iZ op1=some r0) (h:Q (.ret (iP r0)) τ):PC 221 [.str op1] τ Q:=by
 unfold iZ at hf; refine BN 22 [.tmp 2] [0] Tryz.func221 Z Z Z Z Z (V 4 Z (C hf Z (fun h1 hf=>?_) fun h1 hf=>?_))
 · cases hf; exact M 1 Z (Y Z h)
 refine V 2 Z (C hf Z (fun h2 hf=>?_) fun h2 hf=>?_)
 · cases hf; exact M 1 Z (Y Z h)
 refine V 2 Z (C hf Z (fun h3 hf=>?_) fun h3 hf=>?_)
 ·
  refine V 0 Z (AW.cond Z (fun h4=>?_) (fun h4=>?_))
  · cases hf; exact M 1 Z (Y Z h)
  cases h3.symm.trans h4
 refine V 2 Z (C hf Z (fun h5 hf=>?_) fun h5 hf=>?_)
 ·
  refine V 0 Z (AW.cond Z (fun h6=>?_) (fun h6=>?_))
  · cases hf; exact M 1 Z (Y Z h)
  cases h5.symm.trans h6
 refine V 2 Z (C hf Z (fun h7 hf=>?_) fun h7 hf=>?_)
 ·
  refine V 0 Z (AW.cond Z (fun h8=>?_) (fun h8=>?_))
  · cases hf; exact M 1 Z (Y Z h)
  cases h7.symm.trans h8
 refine V 2 Z (C hf Z (fun h9 hf=>?_) fun h9 hf=>?_)
 ·
  refine V 0 Z (AW.cond Z (fun h10=>?_) (fun h10=>?_))
  · cases hf; exact M 1 Z (Y Z h)
  cases h9.symm.trans h10
 refine V 2 Z (C hf Z (fun h11 hf=>?_) fun h11 hf=>?_)
 ·
  refine V 0 Z (AW.cond Z (fun h12=>?_) (fun h12=>?_))
  · cases hf; exact M 1 Z (Y Z h)
  cases h11.symm.trans h12
 refine V 2 Z (C hf Z (fun jJ hf=>?_) fun jJ hf=>?_)
 · cases hf; exact M 1 Z (Y Z h)
 refine V 2 Z (C hf Z (fun j5 hf=>?_) fun j5 hf=>?_)
 ·
  refine V 0 Z (AW.cond Z (fun mo=>?_) (fun mo=>?_))
  · cases hf; exact M 1 Z (Y Z h)
  cases j5.symm.trans mo
 refine V 2 Z (C hf Z (fun h16 hf=>?_) fun h16 hf=>?_)
 · cases hf; exact M 1 Z (Y Z h)
 refine V 2 Z (C hf Z (fun qB hf=>?_) fun qB hf=>?_)
 ·
  refine V 0 Z (AW.cond Z (fun h18=>?_) (fun h18=>?_))
  · cases hf; exact M 1 Z (Y Z h)
  cases qB.symm.trans h18
 refine V 2 Z (C hf Z (fun h19 hf=>?_) fun h19 hf=>?_)
 ·
  refine V 0 Z (AW.cond Z (fun h20=>?_) (fun h20=>?_))
  · cases hf; exact M 1 Z (Y Z h)
  cases h19.symm.trans h20
 refine V 2 Z (C hf Z (fun h21 hf=>?_) fun h21 hf=>?_)
 · cases hf; exact M 1 Z (Y Z h)
 cases hf; exact M 1 Z (Y Z h)


abbrev NV (lS:aj→Option Int):Prop:=∀ (iY:aj) {aR:Int},lS iY=some aR→∀ {τ:List bJ} {Q:eT→List bJ→Prop} (h:Q (.ret (iP aR)) τ),PC 82 [.agg (bA iY)] τ Q
theorem Vb (lS) (Sy:NV lS) (e1:aj) {r0:Int} (hf:BO lS e1=some r0) (h:Q (.ret (iP r0)) τ):PC 82 [.agg (bA e1)] τ Q:=by
 unfold BO at hf; refine BN 19 [.tmp 2] [0] Tryz.func82 Z Z Z Z Z (W 5 Z (AS Z (AO.aP (l:=e1.args) Z Z Z Z iT Z (aj.aB _) (J 1 Z (Xy (fun n1 x1=>[(3,iP n1),(7,.list (aj.aU e1.args)),(8,iP (e1.args.length:Int)),(9,iP x1)]) (fun n1 x1=>[]) (fun bT n1 x1=>vS lS e1 bT n1 x1=some r0) BIG 1 0 Z Z hf (fun _ _ hz=>bQ hz) ?_))))); intro bT n1 x1 hf; rw [vS] at hf; refine V 1 Z (C hf Z (fun h1 hf=>?_) fun h1 hf=>?_)
 · refine B1 hf fun e2 h2 hf=>W 0 Z (AS Z (AO.aI h2 Z Z (aj.aB _) Z iT (aj.aD _) Z (U 1 Z (AS Z (AO.aF Z rC (fun b5=>?_)))))); refine B1 hf fun x2 h3 hf=>Rr 3 [0,0] Z Z (CL Z (Sy _ h3 (eG 4 Z (AR.drop1 ?_)))); exact N 0 Z ⟨(bZ (n1 + x2)),(bZ (x1 + 1)),Z,Z,Z,hf⟩
 cases hf; exact M 2 Z (Y Z h)
theorem VR :∀ k:Nat,(NV (nM k)):=by
 intro k
 induction k with
 | zero=>exact fun _ _ hz=>by first | cases hz | (unfold nM at hz; cases hz)
 | succ k ih=>exact fun iY aR hz τ Q hq=>Vb (nM k) ih iY hz hq
theorem Xf (iY:aj) {aR:Int} (hf:Fu iY=some aR) (h:Q (.ret (iP aR)) τ):PC 82 [.agg (bA iY)] τ Q:=
 ((VR BIG)) iY hf h

theorem Yq (v1:ah) {r0:Bool} (hf:IG v1=some r0) (h:Q (.ret (.bool r0)) τ):PC 202 [.agg (aK v1)] τ Q:=by
 unfold IG at hf; refine BN 33 [.tmp 2] [0] Tryz.func202 Z Z Z Z Z (W 6 Z (An 4 6 10 [1] (!v1.dO) Z Z Z Z (U 1 Z (An 4 11 15 [1] (v1.dI == 0) Z Z Z Z (U 1 Z (An 4 16 20 [1] (v1.bR == ([]:Str)) Z Z Z Z ?_)))))); refine U 1 Z (AR.and 5 21 26 [1] (x:=((v1.aO.length:Int) == 0)) Z Z (fun h4=>?_) (fun h4=>?_) ?_)
 · refine Is 21 h4 Z (U 2 Z (GO Z (AO.aP (l:=v1.aO) Z Z Z Z dX Z (ah.aB _) ?_))); exact eG 2 Z (En [26,1] Z)
 · refine Is 21 h4 Z ?_; exact eG 5 Z (En [26,1] Z)
 refine U 1 Z (AR.and 5 27 32 [] (x:=((v1.keys.length:Int) == 0)) Z Z (fun h5=>?_) (fun h5=>?_) ?_)
 · refine Is 27 h5 Z (U 2 Z (GO Z (AO.aP (l:=v1.keys) Z Z Z Z f_ Z Z ?_))); exact eG 2 Z (En [32] Z)
 · refine Is 27 h5 Z ?_; exact eG 5 Z (En [32] Z)
 cases hf; exact N 1 Z (Y Z h)

theorem HV (s1:Str) {r0:Bool} (hf:vD s1=some r0) (h:Q (.ret (.bool r0)) τ):PC 253 [.str s1] τ Q:=by
 unfold vD at hf; refine BN 10 [.tmp 2] [0] Tryz.func253 Z Z Z Z Z ?_; refine B1 hf fun x1 h1 hf=>W 2 Z (CL Z (O3 _ h1 ?_)); refine BR hf fun b1 h3 hf=>?_; refine U 1 Z (AR.dB 4 5 9 true [] b1 Z Z (fun h2=>?_) (fun h2=>?_) ?_)
 · refine IT 5 h2 h3 Z fun h3=>?_; refine B1 h3 fun x2 h4 h3=>U 1 Z (GO Z (AO.call Z _ Z Z ai8 (Jo _ h4 ?_))); cases h3; exact eG 2 Z (En [9] Z)
 · refine IF 5 h2 h3 Z fun h3=>?_; cases h3; exact eG 4 Z (En [9] Z)
 cases hf; exact N 1 Z (Y Z h)

theorem Xc (e1:aj) {r0:Bool} (hf:BJ e1=some r0) (h:Q (.ret (.bool r0)) τ):PC 203 [.agg (bA e1)] τ Q:=by
 unfold BJ at hf; refine BN 31 [.tmp 2] [0] Tryz.func203 Z Z Z Z Z (V 6 Z (C hf Z (fun h1 hf=>?_) fun h1 hf=>?_))
 ·
  refine V 0 Z (AW.cond Z (fun h2=>?_) (fun h2=>?_))
  · refine BR hf fun x1 h3 hf=>?_; refine W 2 Z (CL Z (HV _ h3 ?_)); cases hf; exact N 1 Z (Y Z h)
  cases h1.symm.trans h2
 refine V 2 Z (C hf Z (fun h4 hf=>?_) fun h4 hf=>?_)
 ·
  refine V 0 Z (AW.cond Z (fun h5=>?_) (fun h5=>?_))
  · refine BR hf fun x2 h6 hf=>?_; refine W 2 Z (CL Z (HV _ h6 ?_)); cases hf; exact N 1 Z (Y Z h)
  cases h4.symm.trans h5
 refine V 2 Z (C hf Z (fun h7 hf=>?_) fun h7 hf=>?_)
 · refine BR hf fun x3 h8 hf=>?_; refine W 2 Z (CL Z (HV _ h8 ?_)); cases hf; exact N 1 Z (Y Z h)
 refine V 2 Z (C hf Z (fun h9 hf=>?_) fun h9 hf=>?_)
 · refine W 4 Z (On 4 17 21 [] (e1.name == ([45]:Str)) Z Z Z Z ?_); cases hf; exact N 1 Z (Y Z h)
 refine V 2 Z (C hf Z (fun h11 hf=>?_) fun h11 hf=>?_)
 · refine B1 hf fun x4 h12 hf=>W 2 Z (CL Z (I6 _ h12 ?_)); cases hf; exact N 2 Z (Y Z h)
 cases hf; exact M 4 Z (Y Z h)

theorem Xe (e1:aj) {r0:Bool} (hf:BM e1=some r0) (h:Q (.ret (.bool r0)) τ):PC 204 [.agg (bA e1)] τ Q:=by
 unfold BM at hf; refine BN 32 [.tmp 2] [0] Tryz.func204 Z Z Z Z Z (V 6 Z (C hf Z (fun h1 hf=>?_) fun h1 hf=>?_))
 ·
  refine V 0 Z (AW.cond Z (fun h2=>?_) (fun h2=>?_))
  · refine W 2 Z (AS Z (AO.aP (l:=e1.args) Z Z Z Z iT Z (aj.aB _) ?_)); cases hf; exact N 2 Z (Y Z h)
  cases h1.symm.trans h2
 refine V 2 Z (C hf Z (fun h3 hf=>?_) fun h3 hf=>?_)
 · refine W 2 Z (AS Z (AO.aP (l:=e1.args) Z Z Z Z iT Z (aj.aB _) ?_)); cases hf; exact N 2 Z (Y Z h)
 refine V 2 Z (C hf Z (fun h4 hf=>?_) fun h4 hf=>?_)
 ·
  refine V 0 Z (AW.cond Z (fun h5=>?_) (fun h5=>?_))
  · refine W 2 Z (AS Z (AO.aP (l:=e1.args) Z Z Z Z iT Z (aj.aB _) ?_)); cases hf; exact N 2 Z (Y Z h)
  cases h4.symm.trans h5
 refine V 2 Z (C hf Z (fun h6 hf=>?_) fun h6 hf=>?_)
 · refine W 2 Z (AS Z (AO.aP (l:=e1.args) Z Z Z Z iT Z (aj.aB _) ?_)); cases hf; exact N 2 Z (Y Z h)
 refine V 2 Z (C hf Z (fun h7 hf=>?_) fun h7 hf=>?_)
 ·
  refine V 0 Z (AW.cond Z (fun h8=>?_) (fun h8=>?_))
  · refine W 2 Z (AS Z (AO.aP (l:=e1.args) Z Z Z Z iT Z (aj.aB _) ?_)); cases hf; exact N 2 Z (Y Z h)
  cases h7.symm.trans h8
 refine V 2 Z (C hf Z (fun h9 hf=>?_) fun h9 hf=>?_)
 · refine W 2 Z (AS Z (AO.aP (l:=e1.args) Z Z Z Z iT Z (aj.aB _) ?_)); cases hf; exact N 2 Z (Y Z h)
 refine V 2 Z (C hf Z (fun h10 hf=>?_) fun h10 hf=>?_)
 · refine W 2 Z (AS Z (AO.aP (l:=e1.args) Z Z Z Z iT Z (aj.aB _) ?_)); cases hf; exact N 2 Z (Y Z h)
 cases hf; exact M 1 Z (Y Z h)

theorem Aq (s1:List Str) (f1:Str→Option Bool) (y5:FuncId) (Rv:List PV) (f1P:bB Tryz.prog y5=true) (f1H:∀ a0 b0,f1 a0=some b0→∀ {τ:List bJ} {Q:eT→List bJ→Prop},Q (.ret (.bool b0)) τ→PC y5 ([.str a0] ++ Rv) τ Q) {r0:Int} (hf:kN s1 f1=some r0) (h:Q (.ret (iP r0)) τ):PC 291 [sP s1,.fn y5 Rv] τ Q:=by
 unfold kN at hf; refine BN 19 [.tmp 4] [0,1] Tryz.func291 Z Z Z Z Z (W 2 Z (AS Z (AO.aP (l:=s1) Z Z Z Z f_ Z Z (J 1 Z (Gh (fun i1=>[(0,sP s1),(1,.fn y5 Rv),(7,iP (s1.length:Int)),(8,iP i1)]) (fun i1=>[]) (fun bT i1=>iO s1 f1 bT i1=some r0) BIG 0 Z Z hf (fun _ hz=>bQ hz) ?_))))); intro bT i1 hf; rw [iO] at hf; refine V 1 Z (C hf Z (fun h1 hf=>?_) fun h1 hf=>?_)
 ·
  refine B1 hf fun e1 h2 hf=>W 5 Z (AS Z (AO.aI h2 Z Z Z Z f_ Z Z ?_)); refine B1 hf fun x1 h3 hf=>U 1 Z (AS Z (AO.call Z _ Z Z f1P (f1H _ _ h3 (J 0 Z (C hf Z (fun h4 hf=>?_) fun h4 hf=>?_)))))
  · cases hf; exact M 2 Z (Y Z h)
  exact M 2 Z ⟨(bZ (i1 + 1)),Z,Z,Z,hf⟩
 cases hf; exact M 1 Z (Y Z h)

theorem zl (s1:List Str) (f1:Str→Option Bool) (y5:FuncId) (Rv:List PV) (f1P:bB Tryz.prog y5=true) (f1H:∀ a0 b0,f1 a0=some b0→∀ {τ:List bJ} {Q:eT→List bJ→Prop},Q (.ret (.bool b0)) τ→PC y5 ([.str a0] ++ Rv) τ Q) {r0:Bool} (hf:iQ s1 f1=some r0) (h:Q (.ret (.bool r0)) τ):PC 254 [sP s1,.fn y5 Rv] τ Q:=by
 unfold iQ at hf; refine BN 9 [.tmp 4] [0,1] Tryz.func254 Z Z Z Z Z ?_; refine B1 hf fun x1 h1 hf=>W 3 Z (CL Z (Aq _ f1 y5 Rv f1P @f1H h1 ?_)); cases hf; exact N 2 Z (Y Z h)

theorem SL (rV:Str) {r0:Bool} (hf:mM rV=some r0) (h:Q (.ret (.bool r0)) τ):PC 255 [.str rV] τ Q:=by
 unfold mM at hf; refine BN 11 [.tmp 2] [0] Tryz.func255 Z Z Z Z Z (W 2 Z (AS Z (AO.b_ Z Z Z Z dM Z (U 2 Z (AR.or 4 6 10 [] (x:=(decide (64 < (rV.length:Int)))) Z Z (fun h1=>?_) (fun h1=>?_) ?_)))))
 · refine Is 6 h1 Z (U 1 Z (GO Z (AO.b_ Z Z Z Z dM Z ?_))); exact eG 2 Z (En [10] Z)
 · refine Is 6 h1 Z ?_; exact eG 4 Z (En [10] Z)
 cases hf; exact N 1 Z (Y Z h)

theorem Xd (e1:aj) {r0:Bool} (hf:BK e1=some r0) (h:Q (.ret (.bool r0)) τ):PC 205 [.agg (bA e1)] τ Q:=by
 unfold BK at hf; refine BN 23 [.tmp 2] [0] Tryz.func205 Z Z Z Z Z (V 5 Z (C hf Z (fun h1 hf=>?_) fun h1 hf=>?_))
 · refine W 2 Z (AS Z (AO.aP (l:=e1.keys) Z Z Z Z f_ Z Z ?_)); cases hf; exact N 2 Z (Y Z h)
 refine W 2 Z (AS Z (AO.aP (l:=e1.keys) Z Z Z Z f_ Z Z (U 2 Z (AS Z (AO.aP (l:=e1.args) Z Z Z Z iT Z (aj.aB _) ?_))))); refine BR hf fun b1 h3 hf=>?_; refine U 2 Z (AR.dB 5 17 22 true [] b1 Z Z (fun h2=>?_) (fun h2=>?_) ?_)
 · refine IT 17 h2 h3 Z fun h3=>?_; refine B1 h3 fun x1 h4 h3=>U 2 Z (GO Z (AO.call Z _ Z Z anL (zl _ mM 255 [] anK (fun _ _ hz=>SL _  hz) h4 ?_))); cases h3; exact eG 2 Z (En [22] Z)
 · refine IF 17 h2 h3 Z fun h3=>?_; cases h3; exact eG 5 Z (En [22] Z)
 cases hf; exact N 1 Z (Y Z h)

theorem Z7 {β:Type} (l:Nat) (T:β→List bJ) (go:β→ah→Int→Option (Bool × β))
  (goH:∀ s1 v1 bV b s2,go s1 v1 bV=some (b,s2)→∀ {Q:eT→List bJ→Prop},Q (.ret (.bool b)) (T s2)→PC 226 [.agg (aK v1),iP bV,.val (.func (.yield l) #[] #[])] (T s1) Q)
  (y:β→Int→ah→Option (Bool × β)) (hy:∀ s1 bV v1 b s2,y s1 bV v1=some (b,s2)→AY Tryz.prog l [iP bV,.agg (aK v1)] (T s1) (fun out σ'=>out=.ret (.bool b)∧σ'=T s2))
  (s1:β) (v1:ah) (bV:Int) {b:Bool} {s2:β} (hf:yC go y s1 v1 bV=some (b,s2)) {Q:eT→List bJ→Prop} (h:Q (.ret (.bool b)) (T s2)):
  PC 226 [.agg (aK v1),iP bV,.val (.func (.yield l) #[] #[])] (T s1) Q:=by
 unfold yC at hf; refine AC.yU 28 [.tmp 6] [0,1,2] Tryz.func226 Z Z Z Z Z (AW.sr (AR.step Z Z Z (AO.Ot Z Z Z (cs 1 Z ?_)))); refine AR.nil [1,2,3] Z (AW.seq (AW.seq (AW.alE ?_))); refine ARI.step Z Z Z Z (AO.calc' Z (ARI.step Z Z Z Z (AO.calc' Z (ARI.step Z Z Z Z (AO.VZ Z Z dF Z ?_))))); obtain ⟨b1,s3,h1,hf⟩:=aV hf; refine ARI.yield Z Z Z Z Z _ Z Z (hy _ _ _ _ _ h1) (ARI.of Z (cs 1 Z (AR.nil [1,2,3,13] Z ?_))); refine AW.cond Z (fun h2=>?_) (fun h2=>?_)
 · replace hf:=cO h2 hf; refine AW.sr (cs 1 Z (AR.nil [6] Z (AW.ret ?_))); cases hf; exact ⟨rfl,_,⟨_,_,rfl,rfl,rfl⟩,_,List.Sublist.refl _,h⟩
 replace hf:=cZ h2 hf; refine AW.skip (AW.seq (AW.sr (cs 2 Z ?_))); refine AR.step Z Z Z (AO.aP (l:=v1.aO) Z Z Z Z dX Z ((ah.aB _)) (cs 1 Z (AR.nil [1,2,15,16,17] Z (AW.block ?_)))); refine AW.aoq (fun (_:β) i1=>[(1,iP bV),(2,.val (.func (.yield l) #[] #[])),(15,.list (ah.aU v1.aO)),(16,iP (v1.aO.length:Int)),(17,iP i1)]) (fun s1 _=>T s1) (fun bT s1 i1=>nA go v1 bV bT s1 i1=some (b,s2)) BIG s3 0 Z Z hf (fun _ _ hz=>bQ hz) ?_; intro bT s4 i1 hf
 rw [nA] at hf; refine AW.sr (cs 1 Z (AR.nil [1,2,15,16,17,18] Z (AW.seq ?_))); refine AW.cond Z (fun h1=>?_) (fun h1=>?_)
 ·
  replace hf:=cO h1 hf; refine AW.skip (AW.seq (AW.block (AW.sr ?_))); refine B1 hf fun x1 h3 hf=>AR.step Z Z Z (AO.aI h3 Z Z ((ah.aB _)) Z dX ((ah.aD _)) Z (cs 1 Z (AR.step Z Z Z (AO.aF Z gq (fun b8=>(AR.dh Z Z (AO.dW (i:=0) Z Z Z dF Z Z Z Z Z ?_))))))); refine AR.nil [1,2,8,15,16,17] Z (AW.sr (AR.step Z Z Z (AO.aY (i:=0) Z Z Z dF Z Z (cs 3 Z ?_)))); obtain ⟨b2,s5,h4,hf⟩:=aV hf
  refine AR.drop1 (AR.step Z Z Z (AO.call Z _ Z Z anQ (goH _ _ _ _ _ h4 (cs 1 Z (AR.nil [1,2,15,16,17,26] Z ?_))))); refine AW.cond Z (fun h5=>?_) (fun h5=>?_)
  · replace hf:=cO h5 hf; refine AW.sr (cs 1 Z (AR.nil [6] Z (AW.ret ?_))); cases hf; exact ⟨rfl,_,⟨_,_,rfl,rfl,rfl⟩,_,List.Sublist.refl _,h⟩
  replace hf:=cZ h5 hf; refine AW.skip (AW.region (cs 2 Z (AR.nil [1,2,15,16,17] Z ?_))); exact ⟨s5,(bZ (i1 + 1)),Z,Z,Z,hf⟩
 replace hf:=cZ h1 hf; refine AW.exit (AW.sr (cs 1 Z (AR.nil [6] Z ?_))); refine AW.ret ?_; cases hf; exact ⟨rfl,_,⟨_,_,rfl,rfl,rfl⟩,_,List.Sublist.refl _,h⟩
theorem QT {β:Type} (l:Nat) (T:β→List bJ) (y:β→Int→ah→Option (Bool × β)) (hy:∀ s1 bV v1 b s2,y s1 bV v1=some (b,s2)→AY Tryz.prog l [iP bV,.agg (aK v1)] (T s1) (fun out σ'=>out=.ret (.bool b)∧σ'=T s2)):
  ∀ (k:Nat) (s1:β) (v1:ah) (bV:Int) (b:Bool) (s2:β),iJ y k s1 v1 bV=some (b,s2)→∀ {Q:eT→List bJ→Prop},Q (.ret (.bool b)) (T s2)→PC 226 [.agg (aK v1),iP bV,.val (.func (.yield l) #[] #[])] (T s1) Q
 | 0,_,_,_,_,_,hz=>by cases hz
 | k + 1,s1,v1,bV,b,s2,hz=>fun h=>Z7 l T (iJ y k) (fun s1 v1 bV b s2 hz=>QT l T y hy k s1 v1 bV b s2 hz) y hy s1 v1 bV hz h

theorem Lv {β:Type} (l:Nat) (T:β→List bJ) (y:β→Int→ah→Option (Bool × β)) (hy:∀ s1 bV v1 b s2,y s1 bV v1=some (b,s2)→AY Tryz.prog l [iP bV,.agg (aK v1)] (T s1) (fun out σ'=>out=.ret (.bool b)∧σ'=T s2))
    (s1:β) (v1:ah) (bV:Int) {b:Bool} {s2:β} (hf:Gm y s1 v1 bV=some (b,s2)) {Q:eT→List bJ→Prop} (h:Q (.ret (.tuple [])) (T s2)):
    PC 225 [.val (.func (.yield l) #[] #[]),.ref (aK v1),.ref [iP bV]] (T s1) Q:=by
 refine BD 8 [] [0,1,2] Tryz.func225 Z Z Z Z Z (W 3 Z (CL Z (QT l T y hy BIG _ _ _ _ _ hf ?_))); exact N 0 rfl ⟨rfl,_,rfl,_,List.Sublist.refl _,h⟩
theorem OY (v1:ah) (bV:Int) (h:Q (.ret (.fn 225 [.ref (aK v1),.ref [iP bV]])) τ):PC 173 [.agg (aK v1),iP bV] τ Q:=by
 refine BN 6 [.tmp 4] [0,1] Tryz.func173 Z Z Z Z Z ?_; exact M 5 Z (Y Z h)

theorem WT (v1:ah) {r0:Bool} (hf:Fa v1=some r0) (h:Q (.ret (.bool r0)) τ):PC 227 [.agg (aK v1)] τ Q:=by
 unfold Fa at hf; refine BN 58 [.tmp 2] [0] Tryz.func227 Z Z Z Z Z (W 6 Z (On 4 6 10 [1] (!v1.dO) Z Z Z Z (U 1 Z (AR.and 9 11 20 [1] (x:=((v1.kind == 2) || (v1.dI == 0))) Z Z (fun h2=>?_) (fun h2=>?_) ?_))))
 · refine Is 11 h2 Z (U 4 Z (On 4 15 19 [1,11] (v1.dI == 0) Z Z Z Z ?_)); exact eG 1 Z (En [20,1] Z)
 · refine Is 11 h2 Z ?_; exact eG 9 Z (En [20,1] Z)
 refine U 1 Z (AR.and 9 21 30 [1] (x:=((v1.kind == 3) || (v1.bR == ([]:Str)))) Z Z (fun h4=>?_) (fun h4=>?_) ?_)
 · refine Is 21 h4 Z (U 4 Z (On 4 25 29 [1,21] (v1.bR == ([]:Str)) Z Z Z Z ?_)); exact eG 1 Z (En [30,1] Z)
 · refine Is 21 h4 Z ?_; exact eG 9 Z (En [30,1] Z)
 refine U 1 Z (AR.and 15 31 46 [1] (x:=(((v1.kind == 4) || (v1.kind == 5)) || ((v1.aO.length:Int) == 0))) Z Z (fun h6=>?_) (fun h6=>?_) ?_)
 ·
  refine Is 31 h6 Z (U 4 Z (On 4 35 39 [1,31] (v1.kind == 5) Z Z Z Z (U 1 Z (AR.or 5 40 45 [1,31] (x:=((v1.aO.length:Int) == 0)) Z Z (fun h8=>?_) (fun h8=>?_) ?_))))
  · refine Is 40 h8 Z (U 2 Z (GO Z (AO.aP (l:=v1.aO) Z Z Z Z dX Z (ah.aB _) ?_))); exact eG 2 Z (En [45,1,31] Z)
  · refine Is 40 h8 Z ?_; exact eG 5 Z (En [45,1,31] Z)
  exact eG 1 Z (En [46,1] Z)
 · refine Is 31 h6 Z ?_; exact eG 15 Z (En [46,1] Z)
 refine U 1 Z (AR.and 10 47 57 [] (x:=((v1.kind == 5) || ((v1.keys.length:Int) == 0))) Z Z (fun h9=>?_) (fun h9=>?_) ?_)
 ·
  refine Is 47 h9 Z (U 4 Z (AR.or 5 51 56 [47] (x:=((v1.keys.length:Int) == 0)) Z Z (fun h10=>?_) (fun h10=>?_) ?_))
  · refine Is 51 h10 Z (U 2 Z (GO Z (AO.aP (l:=v1.keys) Z Z Z Z f_ Z Z ?_))); exact eG 2 Z (En [56,47] Z)
  · refine Is 51 h10 Z ?_; exact eG 5 Z (En [56,47] Z)
  exact eG 1 Z (En [57] Z)
 · refine Is 47 h9 Z ?_; exact eG 10 Z (En [57] Z)
 cases hf; exact N 1 Z (Y Z h)

theorem Yz (c1:UInt8) {r0:Bool} (hf:IJ c1=some r0) (h:Q (.ret (.bool r0)) τ):PC 318 [.int .u8 (c1.toNat:Int)] τ Q:=by
 unfold IJ at hf; refine BN 9 [.tmp 2] [0] Tryz.func318 Z Z Z Z Z (W 4 Z (An 3 5 8 [] (decide ((c1.toNat:Int)≤57)) Z Z Z Z ?_)); cases hf; exact N 1 Z (Y Z h)

theorem TQ (s1:Str) {r0:Int} (hf:Gc s1=some r0) (h:Q (.ret (iP r0)) τ):PC 282 [.str s1] τ Q:=by
 unfold Gc at hf; refine BN 17 [.tmp 2] [0] Tryz.func282 Z Z Z Z Z (V 2 Z (Gh (fun n1=>[(0,.str s1),(3,iP n1)]) (fun n1=>[]) (fun bT n1=>Cb s1 bT n1=some r0) BIG 0 Z Z hf (fun _ hz=>bQ hz) ?_)); intro bT n1 hf; rw [Cb] at hf; refine W 2 Z (AS Z (AO.b_ Z Z Z Z dM Z ?_)); refine B1 hf fun b1 h2 hf=>U 2 Z (AR.dB 5 8 13 true [0,3] b1 Z Z (fun h1=>?_) (fun h1=>?_) ?_)
 · refine IT 8 h1 h2 Z fun h2=>?_; refine B1 h2 fun x1 h3 h2=>U 2 Z (GO Z (AO.gy h3 Z dM Z Z ?_)); refine BR h2 fun x2 h4 h2=>?_; refine GO Z (AO.call Z _ Z Z anD (Yz _ h4 ?_)); cases h2; exact eG 1 Z (En [13,0,3] Z)
 · refine IF 8 h1 h2 Z fun h2=>?_; cases h2; exact eG 5 Z (En [13,0,3] Z)
 refine J 0 Z (C hf Z (fun h5 hf=>?_) fun h5 hf=>?_)
 · exact M 3 Z ⟨(bZ (n1 + 1)),Z,Z,Z,hf⟩
 cases hf; exact M 2 Z (Y Z h)

theorem K5 (s1:Str) (c1:UInt8) {r0:Str} (hf:strings_trimLeftByte s1 c1=some r0) (h:Q (.ret (.str r0)) τ):PC 347 [.str s1,.int .u8 (c1.toNat:Int)] τ Q:=by
 unfold strings_trimLeftByte at hf; refine BN 17 [.tmp 4] [0,1] Tryz.func347 Z Z Z Z Z (V 1 Z (Gh (fun s2=>[(0,.str s2),(1,.int .u8 (c1.toNat:Int))]) (fun s2=>[]) (fun bT s2=>jL c1 bT s2=some r0) BIG s1 Z Z hf (fun _ hz=>bQ hz) ?_)); intro bT s2 hf; rw [jL] at hf; refine W 1 Z (AS Z (AO.b_ Z Z Z Z dM Z ?_)); refine B1 hf fun b1 h2 hf=>U 2 Z (AR.dB 5 8 13 true [0,1] b1 Z Z (fun h1=>?_) (fun h1=>?_) ?_)
 · refine IT 8 h1 h2 Z fun h2=>?_; refine B1 h2 fun x1 h3 h2=>U 1 Z (GO Z (AO.gy h3 Z dM Z Z ?_)); cases h2; exact eG 3 Z (En [13,0,1] Z)
 · refine IF 8 h1 h2 Z fun h2=>?_; cases h2; exact eG 5 Z (En [13,0,1] Z)
 refine J 0 Z (C hf Z (fun h4 hf=>?_) fun h4 hf=>?_)
 · refine B1 hf fun s3 h5 hf=>W 1 Z (AS Z (AO.r_ h5 Z dM Z ⟨_,Z⟩ Z ?_)); exact N 1 Z ⟨s3,Z,Z,Z,hf⟩
 cases hf; exact M 2 Z (Y Z h)

theorem Hw (s1:Str) (IY:Str) {r0:Str} (hf:qV s1 IY=some r0) (h:Q (.ret (.str r0)) τ):PC 319 [.str s1,.str IY] τ Q:=by
 unfold qV at hf; refine BN 37 [.tmp 4] [0,1] Tryz.func319 Z Z Z Z Z (W 4 Z (On 3 9 12 [0,1] (IY == ([]:Str)) Z Z Z Z (J 0 Z (C hf Z (fun h2 hf=>?_) fun h2 hf=>?_))))
 · cases hf; exact M 2 Z (Y Z h)
 refine W 1 Z (AS Z (AO.b_ Z Z Z Z dM Z ?_)); refine B1 hf fun b1 h4 hf=>U 2 Z (AR.dB 4 17 21 true [0,1] b1 Z Z (fun h3=>?_) (fun h3=>?_) ?_)
 · refine IT 17 h3 h4 Z fun h4=>?_; refine B1 h4 fun x1 h5 h4=>U 1 Z (GO Z (AO.gy h5 Z dM Z Z ?_)); cases h4; exact eG 2 Z (En [21,0,1] Z)
 · refine IF 17 h3 h4 Z fun h4=>?_; cases h4; exact eG 4 Z (En [21,0,1] Z)
 refine J 0 Z (C hf Z (fun h6 hf=>?_) fun h6 hf=>?_)
 · refine B1 hf fun x2 h7 hf=>W 2 Z (AS Z (AO.gy h7 Z dM Z Z ?_)); refine BR hf fun x3 h8 hf=>?_; refine CL Z (K5 _ _ h8 ?_); cases hf; exact N 1 Z (Y Z h)
 exact bQ hf

theorem LC (x1:Int) {r0:Bool} (hf:cmp_isNaN_int x1=some r0) (h:Q (.ret (.bool r0)) τ):PC 304 [iP x1] τ Q:=by
 unfold cmp_isNaN_int at hf; refine BN 6 [.tmp 2] [0] Tryz.func304 Z Z Z Z Z ?_; cases hf; exact M 5 Z (Y Z h)

theorem p8 (x1:Int) (y1:Int) {r0:Int} (hf:cmp_Compare_int x1 y1=some r0) (h:Q (.ret (iP r0)) τ):PC 269 [iP x1,iP y1] τ Q:=by
 unfold cmp_Compare_int at hf; refine BN 20 [.tmp 4] [0,1] Tryz.func269 Z Z Z Z Z ?_; refine B1 hf fun Tf h1 hf=>W 2 Z (CL Z (LC _ h1 ?_)); refine B1 hf fun Md h2 hf=>U 2 Z (CL Z (LC _ h2 (J 2 Z (C hf Z (fun h3 hf=>?_) fun h3 hf=>?_))))
 ·
  refine V 1 Z (C hf Z (fun h4 hf=>?_) fun h4 hf=>?_)
  · cases hf; exact M 1 Z (Y Z h)
  cases hf; exact M 1 Z (Y Z h)
 refine V 1 Z (C hf Z (fun h5 hf=>?_) fun h5 hf=>?_)
 · cases hf; exact M 1 Z (Y Z h)
 refine V 3 Z (C hf Z (fun h6 hf=>?_) fun h6 hf=>?_)
 · cases hf; exact M 1 Z (Y Z h)
 refine V 3 Z (C hf Z (fun h7 hf=>?_) fun h7 hf=>?_)
 · cases hf; exact M 1 Z (Y Z h)
 cases hf; exact M 1 Z (Y Z h)

theorem HZ (x1:Str) {r0:Bool} (hf:cmp_isNaN_string x1=some r0) (h:Q (.ret (.bool r0)) τ):PC 305 [.str x1] τ Q:=by
 unfold cmp_isNaN_string at hf; refine BN 6 [.tmp 2] [0] Tryz.func305 Z Z Z Z Z ?_; cases hf; exact M 5 Z (Y Z h)

theorem EL (x1:Str) (y1:Str) {r0:Int} (hf:oN x1 y1=some r0) (h:Q (.ret (iP r0)) τ):PC 271 [.str x1,.str y1] τ Q:=by
 unfold oN at hf; refine BN 20 [.tmp 4] [0,1] Tryz.func271 Z Z Z Z Z ?_; refine B1 hf fun Tf h1 hf=>W 2 Z (CL Z (HZ _ h1 ?_)); refine B1 hf fun Md h2 hf=>U 2 Z (CL Z (HZ _ h2 (J 2 Z (C hf Z (fun h3 hf=>?_) fun h3 hf=>?_))))
 ·
  refine V 1 Z (C hf Z (fun h4 hf=>?_) fun h4 hf=>?_)
  · cases hf; exact M 1 Z (Y Z h)
  cases hf; exact M 1 Z (Y Z h)
 refine V 1 Z (C hf Z (fun h5 hf=>?_) fun h5 hf=>?_)
 · cases hf; exact M 1 Z (Y Z h)
 refine V 3 Z (C hf Z (fun h6 hf=>?_) fun h6 hf=>?_)
 · cases hf; exact M 1 Z (Y Z h)
 refine V 3 Z (C hf Z (fun h7 hf=>?_) fun h7 hf=>?_)
 · cases hf; exact M 1 Z (Y Z h)
 cases hf; exact M 1 Z (Y Z h)

theorem abx (Lh:List Int) {r0:Int} (hf:Ht Lh=some r0) (h:Q (.ret (iP r0)) τ):PC 320 [.list (List.map vT Lh)] τ Q:=by
 unfold Ht at hf; refine BN 18 [.tmp 2] [0] Tryz.func320 Z Z Z Z Z (W 3 Z (AS Z (AO.aP (l:=Lh) Z Z Z Z xU Z Z (J 1 Z (Gh (fun x1=>[(3,iP 0),(6,.list (List.map vT Lh)),(7,iP (Lh.length:Int)),(8,iP x1)]) (fun x1=>[]) (fun bT x1=>zY Lh bT x1=some r0) BIG 0 Z Z hf (fun _ hz=>bQ hz) ?_))))); intro bT x1 hf; rw [zY] at hf; refine V 1 Z (C hf Z (fun h1 hf=>?_) fun h1 hf=>?_)
 ·
  refine B1 hf fun agS h2 hf=>W 0 Z (AS Z (AO.aI h2 Z Z Z Z xU Z Z (J 5 Z (C hf Z (fun h3 hf=>?_) fun h3 hf=>?_))))
  · cases hf; exact M 2 Z (Y Z h)
  exact M 2 Z ⟨(bZ (x1 + 1)),Z,Z,Z,hf⟩
 cases hf; exact M 2 Z (Y Z h)

theorem Uy (a1:Str) (b1:Str) {r0:Int} (hf:zV a1 b1=some r0) (h:Q (.ret (iP r0)) τ):PC 283 [.str a1,.str b1] τ Q:=by
 unfold zV at hf; refine BN 26 [.tmp 4] [0,1] Tryz.func283 Z Z Z Z Z ?_; refine B1 hf fun x1 h1 hf=>W 2 Z (CL Z (Hw _ _ h1 ?_)); refine B1 hf fun y1 h2 hf=>U 1 Z (CL Z (Hw _ _ h2 (U 3 Z (AS Z (AO.b_ Z Z Z Z dM Z (U 1 Z (AS Z (AO.b_ Z Z Z Z dM Z ?_)))))))); refine B1 hf fun x2 h3 hf=>CL Z (p8 _ _ h3 ?_); refine B1 hf fun x3 h4 hf=>U 2 Z (CL Z (EL _ _ h4 (U 1 Z (AS Z (AO.b_ Z Z Z Z dM Z (U 1 Z (AS Z (AO.b_ Z Z Z Z dM Z ?_))))))))
 refine B1 hf fun x4 h5 hf=>CL Z (p8 _ _ h5 (AS Z (AO.aS (List.map vT ([x2,x3,x4]:List Int)) Z Y4 Z Z Z Z ?_))); refine BR hf fun x5 h6 hf=>?_; refine CL Z (abx _ h6 ?_); cases hf; exact N 1 Z (Y Z h)

theorem J7 (x1:UInt8) {r0:Bool} (hf:xV x1=some r0) (h:Q (.ret (.bool r0)) τ):PC 321 [.int .u8 (x1.toNat:Int)] τ Q:=by
 unfold xV at hf; refine BN 6 [.tmp 2] [0] Tryz.func321 Z Z Z Z Z ?_; cases hf; exact M 5 Z (Y Z h)

theorem Qe (x1:UInt8) (y1:UInt8) {r0:Int} (hf:uQ x1 y1=some r0) (h:Q (.ret (iP r0)) τ):PC 284 [.int .u8 (x1.toNat:Int),.int .u8 (y1.toNat:Int)] τ Q:=by
 unfold uQ at hf; refine BN 20 [.tmp 4] [0,1] Tryz.func284 Z Z Z Z Z ?_; refine B1 hf fun Tf h1 hf=>W 2 Z (CL Z (J7 _ h1 ?_)); refine B1 hf fun Md h2 hf=>U 2 Z (CL Z (J7 _ h2 (J 2 Z (C hf Z (fun h3 hf=>?_) fun h3 hf=>?_))))
 ·
  refine V 1 Z (C hf Z (fun h4 hf=>?_) fun h4 hf=>?_)
  · cases hf; exact M 1 Z (Y Z h)
  cases hf; exact M 1 Z (Y Z h)
 refine V 1 Z (C hf Z (fun h5 hf=>?_) fun h5 hf=>?_)
 · cases hf; exact M 1 Z (Y Z h)
 refine V 3 Z (C hf Z (fun h6 hf=>?_) fun h6 hf=>?_)
 · cases hf; exact M 1 Z (Y Z h)
 refine V 3 Z (C hf Z (fun h7 hf=>?_) fun h7 hf=>?_)
 · cases hf; exact M 1 Z (Y Z h)
 cases hf; exact M 1 Z (Y Z h)

theorem E5 (a1:Str) (b1:Str) {r0:Int} (hf:kI a1 b1=some r0) (h:Q (.ret (iP r0)) τ):PC 248 [.str a1,.str b1] τ Q:=by
 unfold kI at hf; refine BN 59 [.tmp 4] [0,1] Tryz.func248 Z Z Z Z Z (V 1 Z (Xy (fun a2 b2=>[(0,.str a2),(1,.str b2)]) (fun a2 b2=>[]) (fun bT a2 b2=>l7 bT a2 b2=some r0) BIG a1 b1 Z Z hf (fun _ _ hz=>bQ hz) ?_)); intro bT a2 b2 hf; rw [l7] at hf; refine W 3 Z (An 3 10 13 [0,1] (!(b2 == ([]:Str))) Z Z Z Z (J 0 Z (C hf Z (fun h2 hf=>?_) fun h2 hf=>?_)))
 ·
  refine B1 hf fun n1 h3 hf=>W 1 Z (CL Z (TQ _ h3 ?_)); refine B1 hf fun m1 h4 hf=>U 1 Z (CL Z (TQ _ h4 (U 5 Z (An 3 20 23 [0,1,5,6] (decide (0 < m1)) Z Z Z Z (J 0 Z (C hf Z (fun h6 hf=>?_) fun h6 hf=>?_))))))
  ·
   refine V 0 Z (AW.draw 8 mixed (by kernel_rfl) Z ?_); refine Ev.cs aG 2 Z ?_; refine B1 hf fun x1 h7 hf=>Ev.cons Z Z Z (AO.r_ h7 Z dM Z Z ⟨_,Z⟩ zg) (Ev.cs aG 2 Z ?_); refine B1 hf fun x2 h8 hf=>Ev.cons Z Z Z (AO.r_ h8 Z dM Z Z ⟨_,Z⟩ zg) ?_; refine B1 hf fun c1 h9 hf=>Ev.cons Z Z Z (AO.call Z _ Z Z anF (Uy _ _ h9 zg)) (Ev.cs aG 1 Z (Ev.nil ?_)); show AR _ _ _ _ _ _ _ _
   refine J 2 Z (C hf Z (fun h10 hf=>?_) fun h10 hf=>?_)
   · cases hf; exact M 2 Z (Y Z h)
   refine V 0 Z (AW.draw 8 mixed (by kernel_rfl) Z ?_); refine Ev.cs aG 2 Z ?_; refine B1 hf fun a3 h11 hf=>Ev.cons Z Z Z (AO.r_ h11 Z dM Z ⟨_,Z⟩ Z zg) (Ev.cs aG 2 Z ?_); refine B1 hf fun b3 h12 hf=>Ev.cons Z Z Z (AO.r_ h12 Z dM Z ⟨_,Z⟩ Z zg) (Ev.cs aG 2 Z (Ev.nil ?_)); show AR _ _ _ _ _ _ _ _
   exact N 0 Z ⟨a3,b3,Z,Z,Z,hf⟩
  refine V 0 Z (AW.draw 5 mixed (by kernel_rfl) Z ?_); refine Ev.cs aG 1 Z ?_; refine B1 hf fun x3 jJ hf=>Ev.cons Z Z Z (AO.gy jJ Z dM Z Z zg) (Ev.cs aG 1 Z ?_); refine B1 hf fun x4 j5 hf=>Ev.cons Z Z Z (AO.gy j5 Z dM Z Z zg) (Ev.cs aG 1 Z (Ev.nil ?_)); show AR _ _ _ _ _ _ _ _
  refine J 0 Z (C hf Z (fun mo hf=>?_) fun mo hf=>?_)
  ·
   refine V 0 Z (AW.draw 6 mixed (by kernel_rfl) Z ?_); refine Ev.cs aG 1 Z ?_; refine B1 hf fun x5 h16 hf=>Ev.cons Z Z Z (AO.gy h16 Z dM Z Z zg) (Ev.cs aG 1 Z ?_); refine B1 hf fun x6 qB hf=>Ev.cons Z Z Z (AO.gy qB Z dM Z Z zg) ?_; refine BR hf fun x7 h18 hf=>?_; refine Ev.cons Z Z Z (AO.call Z _ Z Z anE (Qe _ _ h18 zg)) (Ev.cs aG 1 Z (Ev.nil ?_)); show AR _ _ _ _ _ _ _ _
   cases hf; exact N 0 Z (Y Z h)
  refine V 0 Z (AW.draw 6 mixed (by kernel_rfl) Z ?_); refine Ev.cs aG 1 Z ?_; refine B1 hf fun a4 h19 hf=>Ev.cons Z Z Z (AO.r_ h19 Z dM Z ⟨_,Z⟩ Z zg) (Ev.cs aG 1 Z ?_); refine B1 hf fun b4 h20 hf=>Ev.cons Z Z Z (AO.r_ h20 Z dM Z ⟨_,Z⟩ Z zg) (Ev.cs aG 2 Z (Ev.nil ?_)); show AR _ _ _ _ _ _ _ _
  exact N 0 Z ⟨a4,b4,Z,Z,Z,hf⟩
 refine W 1 Z (AS Z (AO.b_ Z Z Z Z dM Z (U 1 Z (AS Z (AO.b_ Z Z Z Z dM Z ?_))))); refine BR hf fun x8 h21 hf=>?_; refine CL Z (p8 _ _ h21 ?_); cases hf; exact N 1 Z (Y Z h)

theorem Yf (v1:ah) {r0:Bool} (hf:D9 v1=some r0) (h:Q (.ret (.bool r0)) τ):PC 228 [.agg (aK v1)] τ Q:=by
 unfold D9 at hf; refine BN 44 [.tmp 2] [0] Tryz.func228 Z Z Z Z Z (W 4 Z (AS Z (AO.aP (l:=v1.keys) Z Z Z Z f_ Z Z (U 2 Z (AS Z (AO.aP (l:=v1.aO) Z Z Z Z dX Z (ah.aB _) (J 1 Z (C hf Z (fun h1 hf=>?_) fun h1 hf=>?_))))))))
 · cases hf; exact M 1 Z (Y Z h)
 refine W 2 Z (AS Z (AO.aP (l:=v1.keys) Z Z Z Z f_ Z Z (J 1 Z (Gh (fun i1=>[(1,.ref (aK v1)),(13,sP v1.keys),(14,iP (v1.keys.length:Int)),(15,iP i1)]) (fun i1=>[]) (fun bT i1=>uG v1 bT i1=some r0) BIG 0 Z Z hf (fun _ hz=>bQ hz) ?_)))); intro bT i1 hf; rw [uG] at hf; refine V 1 Z (C hf Z (fun h2 hf=>?_) fun h2 hf=>?_)
 ·
  refine B1 hf fun rV h3 hf=>W 1 Z (AS Z (AO.aI h3 Z Z Z Z f_ Z Z (U 4 Z (AS Z (AO.b_ Z Z Z Z dM Z (U 2 Z (AR.or 4 23 27 [1,3,4,13,14,15] (x:=(decide (64 < (rV.length:Int)))) Z Z (fun h4=>?_) (fun h4=>?_) ?_)))))))
  · refine Is 23 h4 Z (U 1 Z (GO Z (AO.b_ Z Z Z Z dM Z ?_))); exact eG 2 Z (En [27,1,3,4,13,14,15] Z)
  · refine Is 23 h4 Z ?_; exact eG 4 Z (En [27,1,3,4,13,14,15] Z)
  refine B1 hf fun b1 h6 hf=>U 1 Z (AR.dB 14 28 42 false [1,13,14,15] b1 Z Z (fun h5=>?_) (fun h5=>?_) ?_)
  ·
   refine IF 28 h5 h6 Z fun h6=>?_; refine BR h6 fun b2 h8 h6=>?_; refine U 3 Z (AR.dB 10 31 41 true [1,13,14,15,28] b2 Z Z (fun h7=>?_) (fun h7=>?_) ?_)
   · refine IT 31 h7 h8 Z fun h8=>?_; refine B1 h8 fun e1 h9 h8=>U 4 Z (GO Z (AO.aI h9 Z Z Z Z f_ Z Z ?_)); refine B1 h8 fun x1 h10 h8=>U 2 Z (GO Z (AO.call Z _ Z Z ajd (E5 _ _ h10 ?_))); cases h8; exact eG 2 Z (En [41,1,13,14,15,28] Z)
   · refine IF 31 h7 h8 Z fun h8=>?_; cases h8; exact eG 10 Z (En [41,1,13,14,15,28] Z)
   cases h6; exact eG 1 Z (En [42,1,13,14,15] Z)
  · refine IT 28 h5 h6 Z fun h6=>?_; cases h6; exact eG 14 Z (En [42,1,13,14,15] Z)
  refine J 0 Z (C hf Z (fun h11 hf=>?_) fun h11 hf=>?_)
  · cases hf; exact M 1 Z (Y Z h)
  exact M 2 Z ⟨(bZ (i1 + 1)),Z,Z,Z,hf⟩
 cases hf; exact M 1 Z (Y Z h)

theorem abh (v1:ah) (bV:Int) {r0:Int} (hf:Gn v1 bV=some r0) (h:Q (.ret (iP r0)) τ):PC 174 [.agg (aK v1),iP bV] τ Q:=by
 unfold Gn at hf; refine BN 78 [.tmp 4] [0,1] Tryz.func174 Z Z Z Z Z (W 6 Z (On 4 9 13 [1,2] (v1.kind == 5) Z Z Z Z (J 4 Z (C hf Z (fun h2 hf=>?_) fun h2 hf=>?_))))
 · cases hf; exact M 1 Z (Y Z h)
 refine W 4 Z (On 4 21 25 [1,2,5] (decide (5 < v1.kind)) Z Z Z Z ?_); refine B1 hf fun b1 h5 hf=>U 1 Z (AR.dB 4 26 30 false [1,2,5] b1 Z Z (fun h4=>?_) (fun h4=>?_) ?_)
 · refine IF 26 h4 h5 Z fun h5=>?_; refine B1 h5 fun x1 h6 h5=>U 1 Z (GO Z (AO.call Z _ Z Z anP (WT _ h6 ?_))); cases h5; exact eG 2 Z (En [30,1,2,5] Z)
 · refine IT 26 h4 h5 Z fun h5=>?_; cases h5; exact eG 4 Z (En [30,1,2,5] Z)
 refine J 1 Z (C hf Z (fun h7 hf=>?_) fun h7 hf=>?_)
 · cases hf; exact M 1 Z (Y Z h)
 refine W 4 Z (On 4 35 39 [1,2,5] (decide (9007199254740992 < v1.dI)) Z Z Z Z (J 1 Z (C hf Z (fun h9 hf=>?_) fun h9 hf=>?_)))
 · cases hf; exact M 1 Z (Y Z h)
 refine W 2 Z (AS Z (AO.b_ Z Z Z Z dM Z (U 2 Z (AR.or 5 45 50 [1,2,5] (x:=(decide (1024 < (v1.aO.length:Int)))) Z Z (fun h10=>?_) (fun h10=>?_) ?_))))
 · refine Is 45 h10 Z (U 2 Z (GO Z (AO.aP (l:=v1.aO) Z Z Z Z dX Z (ah.aB _) ?_))); exact eG 2 Z (En [50,1,2,5] Z)
 · refine Is 45 h10 Z ?_; exact eG 5 Z (En [50,1,2,5] Z)
 refine U 1 Z (AR.or 5 51 56 [1,2,5] (x:=(decide (1024 < (v1.keys.length:Int)))) Z Z (fun h11=>?_) (fun h11=>?_) ?_)
 · refine Is 51 h11 Z (U 2 Z (GO Z (AO.aP (l:=v1.keys) Z Z Z Z f_ Z Z ?_))); exact eG 2 Z (En [56,1,2,5] Z)
 · refine Is 51 h11 Z ?_; exact eG 5 Z (En [56,1,2,5] Z)
 refine J 1 Z (C hf Z (fun h12 hf=>?_) fun h12 hf=>?_)
 · cases hf; exact M 1 Z (Y Z h)
 refine B1 hf fun b2 j5 hf=>W 4 Z (AR.dB 4 61 65 true [1,2,5] b2 Z Z (fun jJ=>?_) (fun jJ=>?_) ?_)
 · refine IT 61 jJ j5 Z fun j5=>?_; refine B1 j5 fun x2 mo j5=>U 1 Z (GO Z (AO.call Z _ Z Z anO (Yf _ mo ?_))); cases j5; exact eG 2 Z (En [65,1,2,5] Z)
 · refine IF 61 jJ j5 Z fun j5=>?_; cases j5; exact eG 4 Z (En [65,1,2,5] Z)
 refine J 1 Z (C hf Z (fun h16 hf=>?_) fun h16 hf=>?_)
 · cases hf; exact M 1 Z (Y Z h)
 refine W 2 Z (AR.and 5 68 73 [1] (x:=((v1.aO.length:Int) == 0)) Z Z (fun qB=>?_) (fun qB=>?_) ?_)
 · refine Is 68 qB Z (U 2 Z (GO Z (AO.aP (l:=v1.aO) Z Z Z Z dX Z (ah.aB _) ?_))); exact eG 2 Z (En [73,1] Z)
 · refine Is 68 qB Z ?_; exact eG 5 Z (En [73,1] Z)
 refine U 1 Z (An 3 74 77 [] (bV == 16) Z Z Z Z (J 1 Z (C hf Z (fun h19 hf=>?_) fun h19 hf=>?_)))
 · cases hf; exact M 1 Z (Y Z h)
 cases hf; exact M 1 Z (Y Z h)

theorem uh (v1:ah) {r0:Int} (hf:mY v1=some r0) (h:Q (.ret (iP r0)) τ):PC 114 [.agg (aK v1)] τ Q:=by
 unfold mY at hf
 refine AC.none (AC.OL 16 [.cell 2 36] [0] Tryz.func114 Z Z Z Z Z ?_)
 obtain ⟨b1,s1,h1,hf⟩:=aV hf
 cases hf
 refine AW.sr (AR.step Z Z Z (AO.Ot Z Z Z (AR.step Z Z Z (AO.aF Z aib (fun b2=>(AR.nil [1,2] Z ?_))))))
 refine AW.seq (AW.sr (cs 1 Z (AR.step Z Z Z (AO.call Z _ Z Z ajk (OY _ _ ?_)))))
 refine AR.nil [2,7] Z (AW.block (AW.rangeFunc (β:=Option Int) (X:=Int × ah) Z ajg (fun x=>[iP x.1,.agg (aK x.2)]) (fun _=>Z) (by decide) (fun s x=>oU s x.1 x.2) (fun s=>[.box b2 [iP (s.getD 0)]]) (fun s=>s.map fun _=>.ret) (s0:=none) (s1:=s1) Z Z ?_ ?_ ?_))
 ·
  intro l T' hy
  refine Lv l T' oU (fun s1 bV v1 b s2 hh=>hy s1 (bV,v1) b s2 hh) none v1 1 h1 ⟨⟨_,Z⟩,Z⟩
 ·
  rintro l s ⟨bV,x1⟩ b s2 hh
  unfold oU at hh
  cases s with
  | some e=>cases hh
  | none=>
  refine ⟨Z,?_⟩
  refine B1 hh fun e1 h2 hh=>?_
  refine Cx.seq (Cx.region Z (cs 1 Z (AR.nil [2,3,9] Z ?_)))
  refine Cx.region Z (AR.step Z Z Z (AO.aF Z gq (fun b4=>(AR.dh Z Z (AO.dW (i:=0) Z Z Z dF Z Z Z Z Z (AR.nil [2,3,4] Z ?_))))))
  refine ⟨Z,(Cx.block (Cx.seq (Cx.region Z ?_)))⟩
  refine AR.step Z Z Z (AO.aY (i:=0) Z Z Z dF Z Z (cs 1 Z (AR.step Z Z Z (AO.call Z _ Z Z an1 (abh _ _ h2 (cs 1 Z ?_))))))
  refine AR.nil [2,5] Z (Cx.seq (Cx.region Z (cs 2 Z ?_)))
  refine AR.nil [2,5,14] Z (Cx.cond Z (fun h3=>?_) (fun h3=>?_))
  ·
   replace hh:=cO h3 hh
   cases hh
   refine Cx.seq (Cx.region Z (cs 1 Z (AR.dh Z Z (AO.dW (i:=1) Z Z Z Io Z Z Z Z Z ?_))))
   refine AR.nil [] Z (Cx.ret ?_)
   exact ⟨Z,.cons _ (List.Sublist.refl _),Z,Z⟩
  ·
   replace hh:=cZ h3 hh
   cases hh
   refine Cx.skip ?_
   exact ⟨Z,.cons _ (List.Sublist.refl _),Z,Z⟩
 ·
  intro D
  cases s1 with
  | some e=>exact ⟨D,_,Z,Z,_,⟨_,_,Z,⟨_,_,0,_,_,Z,Z,Io,Z⟩,Z⟩,[],List.nil_sublist _,h⟩
  | none=>
   show AW _ _ _ _ _ _ _
   refine AW.sr (AR.dh Z Z (AO.dW (i:=0) Z Z Z Io Z Z Z Z Z (AR.nil [2] Z (AW.ret ?_))))
   exact ⟨D,[_],Z,Z,_,⟨_,_,Z,⟨_,_,0,_,_,Z,Z,Io,Z⟩,Z⟩,[],List.nil_sublist _,h⟩

theorem Ry (l1:List Str) {r0:Bool} (hf:vR l1=some r0) (h:Q (.ret (.bool r0)) τ):PC 206 [sP l1] τ Q:=by
 unfold vR at hf; refine BN 22 [.tmp 2] [0] Tryz.func206 Z Z Z Z Z (W 1 Z (AS Z (AO.VY Z (fun m6=>(U 2 Z (AS Z (AO.aP (l:=l1) Z Z Z Z f_ Z Z (J 1 Z (Xy (fun x1 y1=>[(3,.val (.map (some m6))),(7,sP l1),(8,iP (l1.length:Int)),(9,iP x1)]) (fun x1 y1=>[.obj m6 (zC y1)]) (fun bT x1 y1=>rG l1 bT x1 y1=some r0) BIG 0 [] Z Z hf (fun _ _ hz=>bQ hz) ?_))))))))); intro bT x1 y1 hf; rw [rG] at hf; refine V 1 Z (C hf Z (fun h1 hf=>?_) fun h1 hf=>?_)
 ·
  refine B1 hf fun s1 h2 hf=>W 0 Z (AS Z (AO.aI h2 Z Z Z Z f_ Z Z (U 4 Z (AS Z (AO.Oi (i:=0) (l:=y1) Z Z Z Z KJ dM agO (U 1 Z (AR.dh Z Z (AO.Pw (i:=0) (l:=y1) Z Z Z Z Z KJ dM (U 2 Z (AS Z (AO.Oi (i:=0) (l:=(uX y1 s1 (bZ ((qp y1 s1) + 1)))) Z Z Z Z KJ dM agO ?_))))))))))); refine J 1 Z (C hf Z (fun h3 hf=>?_) fun h3 hf=>?_)
  · cases hf; exact M 1 Z (Y Z h)
  exact M 2 Z ⟨(bZ (x1 + 1)),(uX y1 s1 (bZ ((qp y1 s1) + 1))),Z,Z,Z,hf⟩
 cases hf; exact M 1 Z (Y Z h)

theorem Yu (e1:aj) (bV:Int) {r0:Int} (hf:Ep e1 bV=some r0) (h:Q (.ret (iP r0)) τ):PC 139 [.agg (bA e1),iP bV] τ Q:=by
 unfold Ep at hf; refine BN 65 [.tmp 4] [0,1] Tryz.func139 Z Z Z Z Z (V 5 Z (C hf Z (fun h1 hf=>?_) fun h1 hf=>?_))
 · cases hf; exact M 1 Z (Y Z h)
 refine W 4 Z (On 4 12 16 [2] (decide (10 < e1.kind)) Z Z Z Z ?_); refine B1 hf fun b1 h4 hf=>U 1 Z (AR.dB 10 17 27 false [2] b1 Z Z (fun h3=>?_) (fun h3=>?_) ?_)
 ·
  refine IF 17 h3 h4 Z fun h4=>?_; refine BR h4 fun b2 h6 h4=>?_; refine U 4 Z (AR.dB 5 21 26 true [2,17] b2 Z Z (fun h5=>?_) (fun h5=>?_) ?_)
  · refine IT 21 h5 h6 Z fun h6=>?_; refine B1 h6 fun x1 h7 h6=>U 2 Z (GO Z (AO.call Z _ Z Z anX (Yq _ h7 ?_))); cases h6; exact eG 2 Z (En [26,2,17] Z)
  · refine IF 21 h5 h6 Z fun h6=>?_; cases h6; exact eG 5 Z (En [26,2,17] Z)
  cases h4; exact eG 1 Z (En [27,2] Z)
 · refine IT 17 h3 h4 Z fun h4=>?_; cases h4; exact eG 10 Z (En [27,2] Z)
 refine B1 hf fun b3 h9 hf=>U 1 Z (AR.dB 4 28 32 false [2] b3 Z Z (fun h8=>?_) (fun h8=>?_) ?_)
 · refine IF 28 h8 h9 Z fun h9=>?_; refine B1 h9 fun x2 h10 h9=>U 1 Z (GO Z (AO.call Z _ Z Z anW (Xc _ h10 ?_))); cases h9; exact eG 2 Z (En [32,2] Z)
 · refine IT 28 h8 h9 Z fun h9=>?_; cases h9; exact eG 4 Z (En [32,2] Z)
 refine B1 hf fun b4 h12 hf=>U 1 Z (AR.dB 4 33 37 false [2] b4 Z Z (fun h11=>?_) (fun h11=>?_) ?_)
 · refine IF 33 h11 h12 Z fun h12=>?_; refine B1 h12 fun x3 jJ h12=>U 1 Z (GO Z (AO.call Z _ Z Z anV (Xe _ jJ ?_))); cases h12; exact eG 2 Z (En [37,2] Z)
 · refine IT 33 h11 h12 Z fun h12=>?_; cases h12; exact eG 4 Z (En [37,2] Z)
 refine B1 hf fun b5 mo hf=>U 1 Z (AR.dB 4 38 42 false [2] b5 Z Z (fun j5=>?_) (fun j5=>?_) ?_)
 · refine IF 38 j5 mo Z fun mo=>?_; refine B1 mo fun x4 h16 mo=>U 1 Z (GO Z (AO.call Z _ Z Z anU (Xd _ h16 ?_))); cases mo; exact eG 2 Z (En [42,2] Z)
 · refine IT 38 j5 mo Z fun mo=>?_; cases mo; exact eG 4 Z (En [42,2] Z)
 refine J 1 Z (C hf Z (fun qB hf=>?_) fun qB hf=>?_)
 · cases hf; exact M 1 Z (Y Z h)
 refine B1 hf fun b6 h19 hf=>W 4 Z (AR.dB 5 47 52 true [2] b6 Z Z (fun h18=>?_) (fun h18=>?_) ?_)
 · refine IT 47 h18 h19 Z fun h19=>?_; refine B1 h19 fun x5 h20 h19=>U 2 Z (GO Z (AO.call Z _ Z Z aoc (uh _ h20 ?_))); cases h19; exact eG 2 Z (En [52,2] Z)
 · refine IF 47 h18 h19 Z fun h19=>?_; cases h19; exact eG 5 Z (En [52,2] Z)
 refine J 1 Z (C hf Z (fun h21 hf=>?_) fun h21 hf=>?_)
 · refine BR hf fun x6 h22 hf=>?_; refine W 2 Z (CL Z (uh _ h22 ?_)); cases hf; exact N 1 Z (Y Z h)
 refine W 2 Z (AS Z (AO.aP (l:=e1.args) Z Z Z Z iT Z (aj.aB _) (J 2 Z (C hf Z (fun h23 hf=>?_) fun h23 hf=>?_))))
 · cases hf; exact M 1 Z (Y Z h)
 refine B1 hf fun x7 wT hf=>W 2 Z (CL Z (Ry _ wT (J 1 Z (C hf Z (fun Cv hf=>?_) fun Cv hf=>?_))))
 · cases hf; exact M 1 Z (Y Z h)
 cases hf; exact M 1 Z (Y Z h)


abbrev NU (lQ:aj→Int→Option Int):Prop:=∀ (iY:aj) (gu:Int) {aR:Int},lQ iY gu=some aR→∀ {τ:List bJ} {Q:eT→List bJ→Prop} (h:Q (.ret (iP aR)) τ),PC 83 [.agg (bA iY),iP gu] τ Q
theorem Va (lQ) (Sw:NU lQ) (e1:aj) (bV:Int) {r0:Int} (hf:BI lQ e1 bV=some r0) (h:Q (.ret (iP r0)) τ):PC 83 [.agg (bA e1),iP bV] τ Q:=by
 unfold BI at hf; refine BN 30 [.tmp 4] [0,1] Tryz.func83 Z Z Z Z Z ?_; refine B1 hf fun f1 h1 hf=>W 4 Z (CL Z (Yu _ _ h1 (J 3 Z (C hf Z (fun h2 hf=>?_) fun h2 hf=>?_))))
 · cases hf; exact M 2 Z (Y Z h)
 refine W 2 Z (AS Z (AO.aP (l:=e1.args) Z Z Z Z iT Z (aj.aB _) (J 1 Z (Gh (fun x1=>[(1,iP bV),(16,.list (aj.aU e1.args)),(17,iP (e1.args.length:Int)),(18,iP x1)]) (fun x1=>[]) (fun bT x1=>vQ lQ e1 bV bT x1=some r0) BIG 0 Z Z hf (fun _ hz=>bQ hz) ?_)))); intro bT x1 hf; rw [vQ] at hf; refine V 1 Z (C hf Z (fun h3 hf=>?_) fun h3 hf=>?_)
 ·
  refine B1 hf fun e2 h4 hf=>W 0 Z (AS Z (AO.aI h4 Z Z (aj.aB _) Z iT (aj.aD _) Z (U 1 Z (AS Z (AO.aF Z rC (fun b7=>?_)))))); refine B1 hf fun f2 h5 hf=>Rr 4 [0,0] Z Z (CL Z (Sw _ _ h5 (J 3 Z (C hf Z (fun h6 hf=>?_) fun h6 hf=>?_))))
  · cases hf; exact M 2 Z (Y Z h)
  refine Wn0 2 Z (AR.drop1 ?_); exact N 0 Z ⟨(bZ (x1 + 1)),Z,Z,Z,hf⟩
 cases hf; exact M 1 Z (Y Z h)
theorem VQ :∀ k:Nat,(NU (nK k)):=by
 intro k
 induction k with
 | zero=>exact fun _ _ _ hz=>by first | cases hz | (unfold nK at hz; cases hz)
 | succ k ih=>exact fun iY gu aR hz τ Q hq=>Va (nK k) ih iY gu hz hq
theorem Xa (iY:aj) (gu:Int) {aR:Int} (hf:Kz iY gu=some aR) (h:Q (.ret (iP aR)) τ):PC 83 [.agg (bA iY),iP gu] τ Q:=
 ((VQ BIG)) iY gu hf h

theorem xY (e1:aj) {r0:Int} (hf:kQ e1=some r0) (h:Q (.ret (iP r0)) τ):PC 56 [.agg (bA e1)] τ Q:=by
 unfold kQ at hf; refine BN 8 [.tmp 2] [0] Tryz.func56 Z Z Z Z Z ?_; refine B1 hf fun x1 h1 hf=>W 3 Z (CL Z (Xf _ h1 (J 1 Z (C hf Z (fun h2 hf=>?_) fun h2 hf=>?_))))
 · cases hf; exact M 1 Z (Y Z h)
 refine BR hf fun x2 h3 hf=>?_; refine W 1 Z (CL Z (Xa _ _ h3 ?_)); cases hf; exact N 1 Z (Y Z h)

theorem NG (gM:Str) {r0:aj} {r1:Int} {r2:Int} (hf:oW gM=some (r0,r1,r2)) (h:Q (.ret (.tuple [.agg (bA r0),iP r1,iP r2])) τ):PC 24 [.str gM] τ Q:=by
 unfold oW at hf; refine BN 46 [.cell 2 34,.tmp 3,.tmp 4] [0] Tryz.func24 Z Z Z Z Z (W 0 Z (AS Z (AO.aF Z rC (fun b2=>?_)))); exact bQ hf

theorem Ma (bC:List Int) {r0:bL} (hf:qA bC=some r0) (h:Q (.ret (.agg (Ca r0))) τ):PC 27 [.list (List.map vT bC)] τ Q:=by
 unfold qA at hf; refine BN 30 [.cell 2 64] [0] Tryz.func27 Z Z Z Z Z (W 0 Z (AS Z (AO.aF Z aia (fun b2=>(U 1 Z (AS Z (AO.aF Z aia (fun b3=>(Rr 2 [0] Z Z (AS Z (AO.aP (l:=bC) Z Z Z Z xU Z Z ?_)))))))))))
 refine J 1 Z (Xy (fun x1 s1=>[(2,pP b2),(3,pP b3),(7,.list (List.map vT bC)),(8,iP (bC.length:Int)),(9,iP x1)]) (fun x1 s1=>[.box b3 (Ca s1),.box b2 [.bool false,.bool false,.bool false,.bool false]]) (fun bT x1 s1=>iM bC bT x1 s1=some r0) BIG 0 (bL.mk false false false true) Z Z hf (fun _ _ hz=>bQ hz) ?_); intro bT x1 s1 hf; rw [iM] at hf; refine V 1 Z (C hf Z (fun h1 hf=>?_) fun h1 hf=>?_)
 ·
  refine B1 hf fun mR h2 hf=>W 0 Z (AS Z (AO.aI h2 Z Z Z Z xU Z Z (J 5 Z (C hf Z (fun h3 hf=>?_) fun h3 hf=>?_))))
  · exact M 2 Z ⟨(bZ (x1 + 1)),s1,Z,Z,Z,hf⟩
  refine V 2 Z (C hf Z (fun h4 hf=>?_) fun h4 hf=>?_)
  · exact Wx 6 [0,0] Z Z ⟨(bZ (x1 + 1)),(bL.mk s1.cancelled s1.failure true false),Z,Z,Z,hf⟩
  refine V 2 Z (C hf Z (fun h5 hf=>?_) fun h5 hf=>?_)
  · exact Wx 6 [0,0] Z Z ⟨(bZ (x1 + 1)),(bL.mk true s1.failure s1.skipped false),Z,Z,Z,hf⟩
  refine V 2 Z (C hf Z (fun h6 hf=>?_) fun h6 hf=>?_)
  · exact Wx 6 [0,0] Z Z ⟨(bZ (x1 + 1)),(bL.mk s1.cancelled true s1.skipped false),Z,Z,Z,hf⟩
  exact Wx 4 [0] Z Z ⟨(bZ (x1 + 1)),(bL.mk s1.cancelled s1.failure s1.skipped false),Z,Z,Z,hf⟩
 cases hf; exact Wx 2 [0,1] Z Z (ZC [1] Z Z h)

theorem tN (name1:Str) (b1:Bool) {r0:aA} (hf:nY name1 b1=some r0) (h:Q (.ret (.agg (DT r0))) τ):PC 28 [.str name1,.bool b1] τ Q:=by
 unfold nY at hf; refine BN 9 [.cell 4 51] [0,1] Tryz.func28 Z Z Z Z Z (W 0 Z (AS Z (AO.aF Z OH (fun b4=>?_)))); cases hf; exact Rx 5 [0] Z Z (ZC [0] Z Z h)

theorem uT (s1:List Str) {r0:List Str} (hf:mU s1=some r0) (h:Q (.ret (sP r0)) τ):PC 48 [sP s1] τ Q:=by
 unfold mU at hf; refine BN 8 [.tmp 2] [0] Tryz.func48 Z Z Z Z Z (W 0 Z (AS Z (AO.mh Z Z (U 1 Z (AS Z (AO.FC Z Z apt (fun b hb=>(J 0 Z (AW.cond Z (fun h1=>?_) (fun h1=>?_))))))))))
 · obtain rfl:s1=[]:=List.map_eq_nil_iff.1 (hb h1); obtain ⟨_,rfl⟩:=Ke hf; refine W 0 Z (AS Z (AO.mh Z Z ?_)); exact N 0 rfl ⟨rfl,_,⟨_,_,rfl,rfl,rfl⟩,_,List.Sublist.refl _,h⟩
 refine W 0 Z (AS Z (AO.qo [] Z u6 Z Z Z Z Z (fun v1=>(U 1 Z (AS Z (AO.fK (i:=0) (l:=[]) (m:=s1) hf Z Z Z Z Z Z Z u6 f_ Z Z Z (fun _=>Z) (fun _=>Z) (by decide) (fun v2 s2 hs2=>?_))))))); cases hs2; exact N 1 Z (Y Z h)

theorem wG (s1:List ah) (hl:s1.length≤wB) {Q:eT→List bJ→Prop} (h:∀ v,Q (.ret (.val v)) [.buf v s1.length 6 31 (s1.flatMap ah.cells)]):PC 49 [.list (ah.aU s1)] [] Q:=by
 rw [ah.aB]; have hlen:∀ x:ah,(ah.cells x).length=6:=ah.dD; have hone:∀ x:ah,(ah.cells x).all PV.one=true:=ah.cells_one; refine AC.yU 8 [.tmp 2] [0] Tryz.func49 Z Z Z Z Z (AW.sr (AR.step Z Z Z (AO.mh Z Z (AR.nil [0] Z ?_)))); refine AW.seq (AW.sr (cs 1 Z (AR.step Z Z Z (AO.FC Z Z apu (fun b hb=>?_))))); refine AR.nil [0,4] Z (AW.cond Z (fun h1=>?_) (fun h1=>?_))
 · obtain rfl:s1=[]:=List.map_eq_nil_iff.1 (hb h1); refine AW.sr (AR.step Z Z Z (AO.af_ Z Z (AR.nil [2] Z (AW.aqK 6 31 ?_)))); refine AW.ret ?_; exact ⟨rfl,_,⟨_,_,rfl,rfl,rfl⟩,_,List.Sublist.refl _,h _⟩
 refine AW.skip (AW.sr (AR.step Z Z Z (AO.qo [] Z qM Z Z Z Z Z (fun v1=>(cs 1 Z ?_))))); refine AR.step Z Z Z (AO.Xu (i:=0) (l2:=List.map ah.cells s1) Z Z Z Z Z Z Z qM dX (fun y hy=>?_) (fun y hy=>?_) ?_ ?_ (fun v2 s1 hs1=>?_))
 · obtain ⟨s,_,rfl⟩:=List.mem_map.1 hy; exact hlen s
 · obtain ⟨s,_,rfl⟩:=List.mem_map.1 hy; exact hone s
 · rw [List.length_map]; unfold wB at hl; unfold maxLen; omega
 · rw [List.length_map]; unfold wB at hl; omega
 cases hs1; refine cs 1 Z (AR.nil [2] Z (AW.ret ?_)); have hv:=h v2; rw [List.flatMap_def,show s1.length=(List.map ah.cells s1).length from (List.length_map _).symm] at hv; exact ⟨rfl,_,⟨_,_,rfl,rfl,rfl⟩,_,List.Sublist.refl _,hv⟩
theorem ajM :∀ {l:List ah} {x:ah},x∈l→x.bulk≤(l.map ah.bulk).sum
 | y :: l,x,h=>by
  rw [List.map_cons,List.sum_cons]
  rcases List.mem_cons.1 h with rfl | h
  ·
   omega
  ·
   have:=ajM h; omega
theorem GK :∀ (n:Nat) (v1:ah),v1.bulk≤n→v1.bulk≤wB→∀ {τ:List bJ} {Q:eT→List bJ→Prop},Q (.ret (.agg (aK v1))) τ→PC 29 [.agg (aK v1)] τ Q
 | 0,v1,hb,_,_,_,_=>by rw [v1.jA] at hb; omega
 | n + 1,v1,hb,hL,τ,Q,h=>by
  have hbe:=v1.jA
  rw [ah.kE] at hbe
  have hlist:v1.aO.length≤(v1.aO.map ah.bulk).sum:=by
   have:∀ l:List ah,l.length≤(l.map ah.bulk).sum:=by
    intro l
    induction l with
    | nil=>simp
    | cons x r ih=>have:=x.jA; simp only [List.length_cons,List.map_cons,List.sum_cons]; omega
   exact this _
  have hkeys:v1.keys.length≤(List.map (fun z:Str=>z.length + 1) v1.keys).sum:=by
   have:∀ l:List Str,l.length≤(List.map (fun z:Str=>z.length + 1) l).sum:=by
    intro l
    induction l with
    | nil=>simp
    | cons x r ih=>simp only [List.length_cons,List.map_cons,List.sum_cons]; omega
   exact this _
  have mem:∀ x∈v1.aO,x.bulk≤(v1.aO.map ah.bulk).sum:=fun x hx=>ajM hx
  have hll:v1.aO.length≤wB:=by omega
  have hlk:v1.keys.length≤wB:=by omega
  have ae0:wB=4294967296:=Z
  have zy:∀ i:Nat,i < v1.aO.length→IntKind.i64.wrap ((i:Int) + 1)=((i + 1:Nat):Int):=fun i hi=>(aeg (n:=(i:Int) + 1) (by omega) (by omega)).trans (by omega)
  refine AC.none (AC.yU 30 [.cell 2 31] [0] Tryz.func29 Z Z Z Z Z (AW.sr (AR.step Z Z Z (AO.abA Z Z (fun b1=>?_)))))
  refine AR.step Z Z Z (AO.aF Z gq (fun b2=>(AR.nil [1,2] Z (AW.sr (cs 1 Z ?_)))))
  refine AR.step Z Z Z (AO.aY (i:=1) Z Z Z afR Z Z (AR.step Z Z Z (AO.call Z _ Z Z apQ (uT v1.keys (r0:=v1.keys) (vN (by simp; omega)) ?_))))
  refine cs 1 Z (AR.dh Z Z (AO.dW (i:=1) Z Z Z afR Z Z Z Z Z (AR.nil [1,2] Z (AW.sr ?_))))
  refine cs 1 Z (AR.step Z Z Z (AO.aY (i:=1) Z Z Z Jy Z Z (AR.step Z Z Z (AO.call Z _ Z Z apP (AC.none (wG v1.aO hll (fun v3=>(cs 1 Z ?_))))))))
  refine AR.amg 0 Z (fun hv1 hv2=>(AR.dh Z Z (AO.dW (i:=2) Z Z Z Jy hv1 hv2 Z Z Z (AR.nil [1,2] Z (AW.seq ?_)))))
  refine AW.sr (cs 1 Z (AR.step Z Z Z (AO.aY (i:=2) Z Z Z Jy Z Z (AR.step Z Z Z (AO.alX (i:=0) Z Z Z Z dX Z Z ?_)))))
  refine cs 1 Z (AR.nil [1,2,14,15] Z (AW.block (AW.settle [1,2,14,15] Z ?_)))
  refine AW.aor (fun (i:Nat)=>[(1,pP b1),(2,pP b2),(14,iP (v1.aO.length:Int)),(15,iP (i:Int))]) (fun (i:Nat)=>_) (fun kk i=>i≤v1.aO.length∧kk + i=v1.aO.length + 1) (v1.aO.length + 1) 0 Z Z ⟨by omega,by omega⟩ (fun _ hz=>by omega) ?_
  intro kk i hi
  refine AW.sr (cs 1 Z (AR.nil [1,2,14,15,16] Z (AW.seq ?_)))
  refine AW.cond Z (fun h1=>?_) (fun h1=>?_)
  ·
   have hlt:i < v1.aO.length:=by simpa using h1
   refine AW.skip (AW.seq (AW.block (AW.sr ?_)))
   refine cs 2 Z (AR.nil [1,2,3,14,15] Z (AW.draw 10 mixed (by kernel_rfl) Z ?_))
   refine Ev.cs aG 1 Z (Ev.cons Z Z Z (AO.aY (i:=2) Z Z Z Jy Z Z zg) (Ev.cs aG 2 Z (Ev.cons Z Z Z (AO.aY (i:=2) Z Z Z Jy Z Z zg) ?_)))
   refine Ev.cs aG 1 Z (Ev.cons Z Z Z (AO.OQ (i:=0) (sz:=6) Z Z Z Z dX (by omega) (by simpa using hlt) zg) ?_)
   refine Ev.cons Z Z Z (AO.aho (i:=0) Z Z Z dF (by rw [Wq ah.dD]; simp only [Int.toNat_natCast]; omega) (by rw [Int.toNat_natCast,Sz ah.dD v1.aO i hlt,ah.aD]; rfl) zg) ?_
   refine Ev.cons Z Z Z (AO.call Z _ Z Z amK (GK n v1.aO[i] (by have:=mem _ (List.getElem_mem hlt); omega) (by have:=mem _ (List.getElem_mem hlt); omega) zg)) ?_
   refine Ev.cons Z Z Z (AO.OQ (i:=0) (sz:=6) Z Z Z Z dX (by omega) (by simpa using hlt) zg) ?_
   refine Ev.nil ?_
   show AR _ _ _ _ _ _ _ _
   refine AR.dh Z Z (AO.aem (i:=0) (cs':=List.flatMap ah.cells v1.aO) Z Z Z dF Z Z Z (Nat.succ_pos _) (by rw [Wq ah.dD,Int.toNat_natCast]; simp only [List.length_cons,List.length_nil]; omega) (by rw [Int.toNat_natCast]; exact (congrArg (putCells _ _) (ah.aD _).symm).trans (aj0 ah.dD v1.aO i hlt)) Z ?_)
   refine AR.nil [1,2,14,15] Z (AW.region (cs 2 Z (AR.nil [1,2,14,15] Z ?_)))
   exact ⟨i + 1,by rw [zy i hlt],Z,Z,by omega,by omega⟩
  ·
   refine AW.exit (AW.al4 (q:=4) 0 2 (List.map ah.cells v1.aO) rfl rfl rfl (List.flatMap_def ..).symm (fun x hx=>by obtain ⟨s,_,rfl⟩:=List.mem_map.1 hx; exact ah.dD s) (by rw [List.length_map]) ?_)
   refine AW.sr (AR.step Z Z Z (AO.aY (i:=2) Z Z Z dF Z Z (AR.dh Z Z (AO.dW (i:=1) Z Z Z dF Z Z Z Z Z (AR.nil [2] Z ?_)))))
   refine AW.ret ?_
   have h':Q (.ret (.agg [iP v1.kind,.bool v1.dO,iP v1.dI,.str v1.bR,.list (List.map ah.cells v1.aO),sP v1.keys])) τ:=by rw [←ah.aB]; exact h
   exact ⟨rfl,_,⟨_,_,rfl,⟨_,_,1,_,_,rfl,rfl,dF,rfl⟩,rfl⟩,[],List.nil_sublist _,h'⟩
theorem Qd (v1:ah) {r0:ah} (hf:oM v1=some r0) (h:Q (.ret (.agg (aK r0))) τ):PC 29 [.agg (aK v1)] τ Q:=by
 unfold oM at hf; split at hf
 · rename_i hL; cases hf; exact GK _ v1 (Nat.le_refl _) hL h
 cases hf

theorem E8 (bC:List Int) (bG:List aA) {r0:List aA} (hf:uf bC bG=some r0) (h:Q (.ret (.list (List.map aA.cells r0))) τ):PC 11 [.list (List.map vT bC),.list (List.map aA.cells bG)] τ Q:=by
 unfold uf at hf; refine BN 42 [.tmp 4] [0,1] Tryz.func11 Z Z Z Z Z (W 0 Z (AS Z (AO.mh Z Z ?_))); refine B1 hf fun x1 h1 hf=>U 1 Z (CL Z (Ma _ h1 (AS Z (AO.aF Z aia (fun b5=>(Rw 1 [0] Z Z (AW.draw 13 mixed (by kernel_rfl) Z ?_))))))); refine B1 hf fun x2 h2 hf=>Ev.cons Z Z Z (AO.call Z _ Z Z acF (tN _ _ h2 zg)) (Ev.cs aG 1 Z (Ev.cons Z Z Z (AO.aY (i:=0) Z Z Z alc Z Z zg) ?_)); refine B1 hf fun x3 h3 hf=>Ev.cons Z Z Z (AO.call Z _ Z Z acF (tN _ _ h3 zg)) (Ev.cs aG 1 Z (Ev.cons Z Z Z (AO.aY (i:=0) Z Z Z alc Z Z zg) ?_))
 refine B1 hf fun x4 h4 hf=>Ev.cons Z Z Z (AO.call Z _ Z Z acF (tN _ _ h4 zg)) (Ev.cs aG 1 Z (Ev.cons Z Z Z (AO.aY (i:=0) Z Z Z alc Z Z zg) ?_)); refine B1 hf fun x5 h5 hf=>Ev.cons Z Z Z (AO.call Z _ Z Z acF (tN _ _ h5 zg)) (Ev.cs aG 1 Z (Ev.cons Z Z Z (AO.aY (i:=0) Z Z Z alc Z Z zg) ?_)); refine B1 hf fun x6 h6 hf=>Ev.cons Z Z Z (AO.call Z _ Z Z acF (tN _ _ h6 zg)) (Ev.nil ?_); show AR _ _ _ _ _ _ _ _
 refine AS rfl (AO.qo (List.map aA.cells [x2,x3,x4,x5,x6]) rfl zK rfl rfl rfl rfl (by first | rfl | simp only [List.map,aA.aD]) (fun v1=>?_))
 refine U 2 Z (AS Z (AO.aP (l:=bG) Z Z Z Z jN Z Z (J 1 Z (ZU (fun bH v2 x7=>[(6,.own v2 (List.map aA.cells bH)),(25,.list (List.map aA.cells bG)),(26,iP (bG.length:Int)),(27,iP x7)]) (fun bH v2 x7=>[.row v2 (List.map aA.cells bH).length 7 51,.box b5 (Ca x1)]) (fun bT bH v2 x7=>uP bG bT bH x7=some r0) BIG [x2,x3,x4,x5,x6] v1 0 Z Z hf (fun _ _ _ hz=>bQ hz) ?_)))); intro bT bH v2 x7 hf; rw [uP] at hf
 refine V 1 Z (C hf Z (fun h7 hf=>?_) fun h7 hf=>?_)
 ·
  refine B1 hf fun e1 h8 hf=>W 0 Z (AS Z (AO.aI h8 Z Z Z Z jN (aA.aD _) Z (U 1 Z (AS Z (AO.aF Z OH (fun b8=>(Rw 1 [0] Z Z (AW.draw 8 mixed (by kernel_rfl) Z ?_)))))))); refine Ev.cs aG 2 Z (Ev.cons Z Z Z (AO.aY (i:=0) Z Z Z abZ Z Z zg) (Ev.cs aG 1 Z (Ev.cons Z Z Z (AO.aY (i:=0) Z Z Z dF Z Z zg) ?_))); refine B1 hf fun x8 h9 hf=>?_
  refine Ev.cons rfl rfl rfl (AO.call rfl _ rfl rfl amK (Qd _ h9 ⟨rfl,rfl⟩)) (Ev.cons rfl rfl rfl (AO.build rfl OH aeo rfl ⟨rfl,rfl⟩) (Ev.cons rfl rfl rfl (AO.aS (List.map aA.cells [(aA.mk e1.name x8)]) rfl zK rfl rfl rfl (by first | rfl | simp only [List.map,aA.aD]) ⟨rfl,rfl⟩) ?_)); refine Ev.nil ?_; show AR _ _ _ _ _ _ _ _
  refine B1 hf fun yS h10 hf=>AS Z (AO.fK (i:=1) (l:=bH) (m:=[(aA.mk e1.name x8)]) h10 Z Z Z Z Z Z Z zK jN Z Z Z (aA.dD) (aA.cells_one) (by decide) (fun v3 s1 hs1=>?_)); cases hs1; refine eG 3 Z (AR.drop1 ?_); exact N 0 Z ⟨yS,v3,(bZ (x7 + 1)),Z,Z,Z,hf⟩
 cases hf; exact M 2 Z (Y Z h)

theorem afu (cB:List aA) {r0:Int} (hf:Ni cB=some r0) (h:Q (.ret (iP r0)) τ):PC 74 [.list (List.map aA.cells cB)] τ Q:=by
 unfold Ni at hf; refine BN 39 [.tmp 2] [0] Tryz.func74 Z Z Z Z Z (W 2 Z (AS Z (AO.aP (l:=cB) Z Z Z Z jN Z Z (J 1 Z (C hf Z (fun h1 hf=>?_) fun h1 hf=>?_)))))
 · cases hf; exact M 1 Z (Y Z h)
 refine W 0 Z (AS Z (AO.VY Z (fun m10=>(U 2 Z (AS Z (AO.aP (l:=cB) Z Z Z Z jN Z Z (J 1 Z (Xy (fun x1 y1=>[(3,.val (.map (some m10))),(11,.list (List.map aA.cells cB)),(12,iP (cB.length:Int)),(13,iP x1)]) (fun x1 y1=>[.obj m10 (zC y1)]) (fun bT x1 y1=>EB cB bT x1 y1=some r0) BIG 0 [] Z Z hf (fun _ _ hz=>bQ hz) ?_)))))))); intro bT x1 y1 hf; rw [EB] at hf; refine V 1 Z (C hf Z (fun h2 hf=>?_) fun h2 hf=>?_)
 ·
  refine B1 hf fun e1 h3 hf=>W 0 Z (AS Z (AO.aI h3 Z Z Z Z jN (aA.aD _) Z (U 1 Z (AS Z (AO.aF Z OH (fun b5=>?_)))))); refine B1 hf fun x2 h4 hf=>Rr 4 [0,0] Z Z (CL Z (xY _ h4 (J 1 Z (C hf Z (fun h5 hf=>?_) fun h5 hf=>?_))))
  · cases hf; exact M 1 Z (Y Z h)
  refine B1 hf fun e2 h6 hf=>Wr 2 [0] Z Z (CL Z (uh _ h6 (J 3 Z (C hf Z (fun h7 hf=>?_) fun h7 hf=>?_))))
  · cases hf; exact M 2 Z (Y Z h)
  refine Wr 3 [0] Z Z (AS Z (AO.Oi (i:=1) (l:=y1) Z Z Z Z KJ dM agO (U 1 Z (AR.dh Z Z (AO.Pw (i:=1) (l:=y1) Z Z Z Z Z KJ dM (Rr 3 [0] Z Z (AS Z (AO.Oi (i:=1) (l:=(uX y1 e1.name (bZ ((qp y1 e1.name) + 1)))) Z Z Z Z KJ dM agO (J 1 Z (C hf Z (fun h8 hf=>?_) fun h8 hf=>?_))))))))))
  · cases hf; exact M 1 Z (Y Z h)
  refine Wn0 2 Z (AR.drop1 ?_); exact N 0 Z ⟨(bZ (x1 + 1)),(uX y1 e1.name (bZ ((qp y1 e1.name) + 1))),Z,Z,Z,hf⟩
 cases hf; exact M 1 Z (Y Z h)

theorem YA (e1:aj) (cB:List aA) {r0:List aA} {r1:Int} (hf:IV e1 cB=some (r0,r1)) (h:Q (.ret (.tuple [.list (List.map aA.cells r0),iP r1])) τ):PC 50 [.agg (bA e1),.list (List.map aA.cells cB)] τ Q:=by
 unfold IV at hf; refine BN 19 [.tmp 4,.tmp 5] [0,1] Tryz.func50 Z Z Z Z Z (W 1 Z (AS Z (AO.mh Z Z ?_))); refine B1 hf fun f1 h1 hf=>U 2 Z (CL Z (afu _ h1 (J 3 Z (C hf Z (fun h2 hf=>?_) fun h2 hf=>?_))))
 · refine W 1 Z (AS Z (AO.mh Z Z ?_)); cases hf; exact N 1 Z (Y Z h)
 refine B1 hf fun f2 h3 hf=>W 1 Z (CL Z (xY _ h3 (J 3 Z (C hf Z (fun h4 hf=>?_) fun h4 hf=>?_))))
 · refine W 1 Z (AS Z (AO.mh Z Z ?_)); cases hf; exact N 1 Z (Y Z h)
 cases hf; exact M 3 Z (Y Z h)

@[reducible] def abJ :fO aM Unit→eT
 | .ok r=>.ret (.tuple [])
 | .bad e=>.panic (.iface 111 (.agg [iP e.code]))

theorem I_ (e1:Int) {rX:fO aM Unit} (hf:Dq e1=some rX) (h:Q (abJ rX) τ):PC 175 [iP e1] τ Q:=by
 unfold Dq at hf; refine BN 5 [] [0] Tryz.func175 Z Z Z Z Z (W 2 Z (AS Z (AO.agh Z aoo Z (AR.dh Z Z (AO.ajy Z Z ?_))))); cases hf; exact ⟨Z,[],List.nil_sublist _,h⟩

@[reducible] def Qk :fO aM ah→eT
 | .ok r=>.ret (.agg (aK r))
 | .bad e=>.panic (.iface 111 (.agg [iP e.code]))

theorem I8 (s1:List aA) (name1:Str) {rX:fO aM ah} (hf:vU s1 name1=some rX) (h:Q (Qk rX) τ):PC 115 [.list (List.map aA.cells s1),.str name1] τ Q:=by
 unfold vU at hf; refine BN 22 [.cell 4 31] [0,1] Tryz.func115 Z Z Z Z Z (W 0 Z (AS Z (AO.aF Z gq (fun b4=>(U 1 Z (AS Z (AO.aP (l:=s1) Z Z Z Z am3 Z Z (J 1 Z (Gh (fun x1=>[(1,.str name1),(4,pP b4),(7,.list (List.map aA.cells s1)),(8,iP (s1.length:Int)),(9,iP x1)]) (fun x1=>[.box b4 [iP 0,.bool false,iP 0,.str ([]:Str),.own (.slice none 0 0) [],.own (.slice none 0 0) []]]) (fun bT x1=>rO s1 name1 bT x1=some rX) BIG 0 Z Z hf (fun _ hz=>bQ hz) ?_)))))))))
 intro bT x1 hf; rw [rO] at hf; refine V 1 Z (C hf Z (fun h1 hf=>?_) fun h1 hf=>?_)
 ·
  refine B1 hf fun e1 h2 hf=>W 0 Z (AS Z (AO.aI h2 Z Z Z Z am3 (aA.aD _) Z (U 1 Z (AS Z (AO.aF Z OH (fun b6=>(Rw 5 [0,0] Z Z (C hf Z (fun h3 hf=>?_) fun h3 hf=>?_))))))))
  · cases hf; exact Wx 3 [0,1] Z Z (ZC [1] Z Z h)
  refine Wn0 2 Z (AR.drop1 ?_); exact N 0 Z ⟨(bZ (x1 + 1)),Z,Z,Z,hf⟩
 rcases bS hf with ⟨e2,h4,hf⟩ | ⟨_,h4,hf⟩
 · refine W 0 Z (CL Z (I_ _ h4 ?_)); cases hf; exact ⟨Z,[],List.nil_sublist _,h⟩
 refine W 0 Z (CL Z (I_ _ h4 ?_)); cases hf; exact Rx 2 [0] Z Z (ZC [0] Z Z h)

theorem xZ (s1:Str) {r0:ah} (hf:oL s1=some r0) (h:Q (.ret (.agg (aK r0))) τ):PC 117 [.str s1] τ Q:=by
 unfold oL at hf; refine BN 5 [.cell 2 31] [0] Tryz.func117 Z Z Z Z Z (W 0 Z (AS Z (AO.aF Z gq (fun b2=>?_)))); cases hf; exact Rx 3 [0] Z Z (ZC [0] Z Z h)

theorem mI (v1:ah) (fE:Int) {r0:Bool} (hf:jU v1 fE=some r0) (h:Q (.ret (.bool r0)) τ):PC 176 [.agg (aK v1),iP fE] τ Q:=by
 unfold jU at hf; refine BN 9 [.tmp 4] [0,1] Tryz.func176 Z Z Z Z Z ?_; cases hf; exact M 7 Z (Y Z h)

@[reducible] def abI :fO aM Unit→eT
 | .ok r=>.ret (.tuple [])
 | .bad e=>.panic (.iface 111 (.agg [iP e.code]))

theorem bP (ok1:Bool) (e1:Int) {rX:fO aM Unit} (hf:fF ok1 e1=some rX) (h:Q (abI rX) τ):PC 125 [.bool ok1,iP e1] τ Q:=by
 unfold fF at hf; refine BN 8 [] [0,1] Tryz.func125 Z Z Z Z Z (V 2 Z (C hf Z (fun h1 hf=>?_) fun h1 hf=>?_))
 ·
  rcases bS hf with ⟨e2,h2,hf⟩ | ⟨_,h2,hf⟩
  · refine W 1 Z (CL Z (I_ _ h2 ?_)); cases hf; exact ⟨Z,[],List.nil_sublist _,h⟩
  refine W 1 Z (CL Z (I_ _ h2 ?_)); cases hf; exact N 0 Z (ZN Z h)
 cases hf; exact M 0 Z (ZN Z h)

theorem Dv (s1:List Str) (v1:Str) {r0:Int} (hf:ku s1 v1=some r0) (h:Q (.ret (iP r0)) τ):PC 229 [sP s1,.str v1] τ Q:=by
 unfold ku at hf; refine BN 19 [.tmp 4] [0,1] Tryz.func229 Z Z Z Z Z (W 2 Z (AS Z (AO.aP (l:=s1) Z Z Z Z f_ Z Z (J 1 Z (Gh (fun i1=>[(0,sP s1),(1,.str v1),(7,iP (s1.length:Int)),(8,iP i1)]) (fun i1=>[]) (fun bT i1=>jH s1 v1 bT i1=some r0) BIG 0 Z Z hf (fun _ hz=>bQ hz) ?_))))); intro bT i1 hf; rw [jH] at hf; refine V 1 Z (C hf Z (fun h1 hf=>?_) fun h1 hf=>?_)
 ·
  refine B1 hf fun e1 h2 hf=>W 5 Z (AS Z (AO.aI h2 Z Z Z Z f_ Z Z (J 2 Z (C hf Z (fun h3 hf=>?_) fun h3 hf=>?_))))
  · cases hf; exact M 2 Z (Y Z h)
  exact M 2 Z ⟨(bZ (i1 + 1)),Z,Z,Z,hf⟩
 cases hf; exact M 1 Z (Y Z h)


abbrev O7 (mO:ah→Option ah):Prop:=∀ (qg:ah) {aR:ah},mO qg=some aR→∀ {τ:List bJ} {Q:eT→List bJ→Prop} (h:Q (.ret (.agg (aK aR))) τ),PC 230 [.agg (aK qg)] τ Q
theorem XI (mO) (Un:O7 mO) (v1:ah) {r0:ah} (hf:Dx mO v1=some r0) (h:Q (.ret (.agg (aK r0))) τ):PC 230 [.agg (aK v1)] τ Q:=by
 unfold Dx at hf; refine BN 28 [.cell 2 31] [0] Tryz.func230 Z Z Z Z Z (W 1 Z (AS Z (AO.aF Z gq (fun b2=>(U 1 Z (AS Z (AO.aF Z gq (fun b3=>?_)))))))); refine B1 hf fun x1 h1 hf=>Rr 3 [0] Z Z (CL Z (uT _ h1 (Rr 6 [0,0] Z Z (AS Z (AO.aP (l:=v1.aO) Z Z Z Z dX Z (ah.aB _) ?_)))))
 refine J 1 Z (AW.row 6 31 (ZU (fun x2 bH v2=>[(2,pP b2),(3,pP b3),(13,.list (ah.aU v1.aO)),(14,iP (v1.aO.length:Int)),(15,iP x2)]) (fun x2 bH v2=>[.row v2 (ah.aU bH.aO).length 6 31,.box b3 [iP bH.kind,.bool bH.dO,iP bH.dI,.str bH.bR,.own v2 (ah.aU bH.aO),sP bH.keys],.box b2 [iP 0,.bool false,iP 0,.str ([]:Str),.own (.slice none 0 0) [],.own (.slice none 0 0) []]]) (fun bT x2 bH v2=>wZ mO v1 bT x2 bH=some r0) BIG 0 (ah.mk v1.kind v1.dO v1.dI v1.bR [] x1) (.slice none 0 0) Z Z hf (fun _ _ _ hz=>bQ hz) ?_))
 intro bT x2 bH v2 hf; rw [wZ] at hf; refine V 1 Z (C hf Z (fun h2 hf=>?_) fun h2 hf=>?_)
 ·
  refine B1 hf fun e1 h3 hf=>W 0 Z (AS Z (AO.aI h3 Z Z (ah.aB _) Z dX (ah.aD _) Z (U 1 Z (AS Z (AO.aF Z gq (fun b5=>(Rw 1 [0] Z Z (AW.draw 5 mixed (by kernel_rfl) Z ?_)))))))); refine Ev.cs aG 1 Z (Ev.cons Z Z Z (AO.aY (i:=2) Z Z Z Jy Z Z zg) (Ev.cons Z Z Z (AO.aY (i:=0) Z Z Z dF Z Z zg) ?_)); refine B1 hf fun x3 h4 hf=>Ev.cons rfl rfl rfl (AO.call rfl _ rfl rfl ajf (Un _ h4 ⟨rfl,rfl⟩)) (Ev.cons rfl rfl rfl (AO.aS (ah.aU [x3]) rfl qM rfl rfl rfl (by first | rfl | simp only [List.map,ah.aD,ah.aU]) ⟨rfl,rfl⟩) ?_)
  refine Ev.nil ?_; show AR _ _ _ _ _ _ _ _
  refine B1 hf fun x4 h5 hf=>AS Z (AO.fK (i:=1) (l:=bH.aO) (m:=[x3]) h5 Z Z Z Z Z Z Z qM dX (ah.aB _) (ah.aB _) (ah.aB _).symm (ah.dD) (ah.cells_one) (by decide) (fun v3 s1 hs1=>?_)); cases hs1; refine Rn 4 [2] Z Z (AR.drop1 ?_); exact N 0 Z ⟨(bZ (x2 + 1)),(ah.mk bH.kind bH.dO bH.dI bH.bR x4 bH.keys),v3,Z,Z,Z,hf⟩
 cases hf; exact Wx 2 [1,2] Z Z (ZC [2] Z Z h)
theorem XU :∀ k:Nat,(O7 (nC k)):=by
 intro k
 induction k with
 | zero=>exact fun _ _ hz=>by first | cases hz | (unfold nC at hz; cases hz)
 | succ k ih=>exact fun qg aR hz τ Q hq=>XI (nC k) ih qg hz hq
theorem OZ (qg:ah) {aR:ah} (hf:pG qg=some aR) (h:Q (.ret (.agg (aK aR))) τ):PC 230 [.agg (aK qg)] τ Q:=
 ((XU BIG)) qg hf h

theorem TG (v1:ah) (key1:Str) {r0:ah} {r1:Bool} (hf:CO v1 key1=some (r0,r1)) (h:Q (.ret (.tuple [.agg (aK r0),.bool r1])) τ):PC 177 [.agg (aK v1),.str key1] τ Q:=by
 unfold CO at hf; refine BN 32 [.cell 4 31,.tmp 5] [0,1] Tryz.func177 Z Z Z Z Z (W 1 Z (AS Z (AO.aF Z gq (fun b4=>?_)))); refine B1 hf fun i1 h1 hf=>U 4 Z (CL Z (Dv _ _ h1 (U 5 Z (On 3 14 17 [2,4,6] (decide (i1 < 0)) Z Z Z Z (U 1 Z (AR.or 6 18 24 [2,4,6] (x:=(decide ((v1.aO.length:Int)≤i1))) Z Z (fun h3=>?_) (fun h3=>?_) ?_))))))
 · refine Is 18 h3 Z (U 3 Z (GO Z (AO.aP (l:=v1.aO) Z Z Z Z dX Z (ah.aB _) ?_))); exact eG 2 Z (En [24,2,4,6] Z)
 · refine Is 18 h3 Z ?_; exact eG 6 Z (En [24,2,4,6] Z)
 refine J 0 Z (C hf Z (fun h4 hf=>?_) fun h4 hf=>?_)
 · cases hf; exact Wx 3 [0] Z Z (ZC [0] Z Z h)
 refine B1 hf fun e1 h5 hf=>W 3 Z (AS Z (AO.aI h5 Z Z (ah.aB _) Z dX (ah.aD _) Z ?_)); refine B1 hf fun x1 h6 hf=>U 1 Z (CL Z (OZ _ h6 ?_)); cases hf; exact Rx 2 [0] Z Z (ZC [0] Z Z h)

@[reducible] def Z5 :fO aM ah→eT
 | .ok r=>.ret (.agg (aK r))
 | .bad e=>.panic (.iface 111 (.agg [iP e.code]))

theorem FL (m1:ah) (key1:ah) {rX:fO aM ah} (hf:Am m1 key1=some rX) (h:Q (Z5 rX) τ):PC 116 [.agg (aK m1),.agg (aK key1)] τ Q:=by
 unfold Am at hf; refine BN 24 [.cell 4 31] [0,1] Tryz.func116 Z Z Z Z Z (W 2 Z (AS Z (AO.aF Z gq (fun b4=>?_)))); refine B1 hf fun x1 h1 hf=>U 1 Z (CL Z (mI _ _ h1 ?_)); refine B1 hf fun b1 h3 hf=>U 1 Z (AR.dB 3 9 12 true [2,3,4] b1 Z Z (fun h2=>?_) (fun h2=>?_) ?_)
 · refine IT 9 h2 h3 Z fun h3=>?_; refine BR h3 fun x2 h4 h3=>?_; refine U 1 Z (GO Z (AO.call Z _ Z Z R8 (mI _ _ h4 ?_))); cases h3; exact eG 1 Z (En [12,2,3,4] Z)
 · refine IF 9 h2 h3 Z fun h3=>?_; cases h3; exact eG 3 Z (En [12,2,3,4] Z)
 rcases bS hf with ⟨e1,h5,hf⟩ | ⟨_,h5,hf⟩
 · refine CL Z (bP _ _ h5 ?_); cases hf; exact ⟨Z,[],List.nil_sublist _,h⟩
 refine CL Z (bP _ _ h5 ?_); obtain ⟨x3,ok1,h6,hf⟩:=aV hf; refine U 3 Z (CL Z (TG _ _ h6 (U 3 Z (AS Z (AO.aF Z gq (fun b5=>?_)))))); rcases bS hf with ⟨e2,h7,hf⟩ | ⟨_,h7,hf⟩
 · refine Rr 3 [0] Z Z (CL Z (bP _ _ h7 ?_)); cases hf; exact ⟨Z,[],List.nil_sublist _,h⟩
 refine Rr 3 [0] Z Z (CL Z (bP _ _ h7 ?_)); cases hf; exact Rx 2 [0,1] Z Z (ZC [1] Z Z h)

@[reducible] def U4 :fO aM ah→eT
 | .ok r=>.ret (.agg (aK r))
 | .bad e=>.panic (.iface 111 (.agg [iP e.code]))

theorem NM (a1:ah) (i1:ah) {rX:fO aM ah} (hf:zi a1 i1=some rX) (h:Q (U4 rX) τ):PC 118 [.agg (aK a1),.agg (aK i1)] τ Q:=by
 unfold zi at hf; refine BN 32 [.cell 4 31] [0,1] Tryz.func118 Z Z Z Z Z (W 2 Z (AS Z (AO.aF Z gq (fun b4=>?_)))); refine B1 hf fun x1 h1 hf=>U 1 Z (CL Z (mI _ _ h1 ?_)); refine B1 hf fun b1 h3 hf=>U 1 Z (AR.dB 3 7 10 true [2,3,4] b1 Z Z (fun h2=>?_) (fun h2=>?_) ?_)
 · refine IT 7 h2 h3 Z fun h3=>?_; refine BR h3 fun x2 h4 h3=>?_; refine U 1 Z (GO Z (AO.call Z _ Z Z R8 (mI _ _ h4 ?_))); cases h3; exact eG 1 Z (En [10,2,3,4] Z)
 · refine IF 7 h2 h3 Z fun h3=>?_; cases h3; exact eG 3 Z (En [10,2,3,4] Z)
 refine J 0 Z (C hf Z (fun h5 hf=>?_) fun h5 hf=>?_)
 ·
  refine W 4 Z (AR.and 7 14 21 [2,3,4] (x:=(decide (i1.dI < (a1.aO.length:Int)))) Z Z (fun h6=>?_) (fun h6=>?_) ?_)
  · refine Is 14 h6 Z (U 4 Z (GO Z (AO.aP (l:=a1.aO) Z Z Z Z dX Z (ah.aB _) ?_))); exact eG 2 Z (En [21,2,3,4] Z)
  · refine Is 14 h6 Z ?_; exact eG 7 Z (En [21,2,3,4] Z)
  rcases bS hf with ⟨e1,h7,hf⟩ | ⟨_,h7,hf⟩
  · refine CL Z (bP _ _ h7 ?_); cases hf; exact ⟨Z,[],List.nil_sublist _,h⟩
  refine CL Z (bP _ _ h7 ?_); refine B1 hf fun e2 h8 hf=>U 4 Z (AS Z (AO.aI h8 Z Z (ah.aB _) Z dX (ah.aD _) Z ?_)); cases hf; exact Rx 2 [0] Z Z (ZC [0] Z Z h)
 rcases bS hf with ⟨e3,h9,hf⟩ | ⟨x3,h9,hf⟩
 · refine W 2 Z (CL Z (FL _ _ h9 ?_)); cases hf; exact ⟨Z,[],List.nil_sublist _,h⟩
 refine W 2 Z (CL Z (FL _ _ h9 ?_)); cases hf; exact Rx 1 [0] Z Z (ZC [0] Z Z h)

theorem abv (name1:Str) {r0:Int} (hf:Ao name1=some r0) (h:Q (.ret (iP r0)) τ):PC 178 [.str name1] τ Q:=by
 unfold Ao at hf; refine BN 18 [.tmp 2] [0] Tryz.func178 Z Z Z Z Z (V 4 Z (C hf Z (fun h1 hf=>?_) fun h1 hf=>?_))
 ·
  refine V 0 Z (AW.cond Z (fun h2=>?_) (fun h2=>?_))
  · cases hf; exact M 1 Z (Y Z h)
  cases h1.symm.trans h2
 refine V 2 Z (C hf Z (fun h3 hf=>?_) fun h3 hf=>?_)
 ·
  refine V 0 Z (AW.cond Z (fun h4=>?_) (fun h4=>?_))
  · cases hf; exact M 1 Z (Y Z h)
  cases h3.symm.trans h4
 refine V 2 Z (C hf Z (fun h5 hf=>?_) fun h5 hf=>?_)
 ·
  refine V 0 Z (AW.cond Z (fun h6=>?_) (fun h6=>?_))
  · cases hf; exact M 1 Z (Y Z h)
  cases h5.symm.trans h6
 refine V 2 Z (C hf Z (fun h7 hf=>?_) fun h7 hf=>?_)
 ·
  refine V 0 Z (AW.cond Z (fun h8=>?_) (fun h8=>?_))
  · cases hf; exact M 1 Z (Y Z h)
  cases h7.symm.trans h8
 refine V 2 Z (C hf Z (fun h9 hf=>?_) fun h9 hf=>?_)
 ·
  refine V 0 Z (AW.cond Z (fun h10=>?_) (fun h10=>?_))
  · cases hf; exact M 1 Z (Y Z h)
  cases h9.symm.trans h10
 refine V 2 Z (C hf Z (fun h11 hf=>?_) fun h11 hf=>?_)
 · cases hf; exact M 1 Z (Y Z h)
 refine V 2 Z (C hf Z (fun h12 hf=>?_) fun h12 hf=>?_)
 ·
  refine V 0 Z (AW.cond Z (fun jJ=>?_) (fun jJ=>?_))
  · cases hf; exact M 1 Z (Y Z h)
  cases h12.symm.trans jJ
 refine V 2 Z (C hf Z (fun j5 hf=>?_) fun j5 hf=>?_)
 ·
  refine V 0 Z (AW.cond Z (fun mo=>?_) (fun mo=>?_))
  · cases hf; exact M 1 Z (Y Z h)
  cases j5.symm.trans mo
 refine V 2 Z (C hf Z (fun h16 hf=>?_) fun h16 hf=>?_)
 ·
  refine V 0 Z (AW.cond Z (fun qB=>?_) (fun qB=>?_))
  · cases hf; exact M 1 Z (Y Z h)
  cases h16.symm.trans qB
 refine V 2 Z (C hf Z (fun h18 hf=>?_) fun h18 hf=>?_)
 ·
  refine V 0 Z (AW.cond Z (fun h19=>?_) (fun h19=>?_))
  · cases hf; exact M 1 Z (Y Z h)
  cases h18.symm.trans h19
 refine V 2 Z (C hf Z (fun h20 hf=>?_) fun h20 hf=>?_)
 ·
  refine V 0 Z (AW.cond Z (fun h21=>?_) (fun h21=>?_))
  · cases hf; exact M 1 Z (Y Z h)
  cases h20.symm.trans h21
 refine V 2 Z (C hf Z (fun h22 hf=>?_) fun h22 hf=>?_)
 · cases hf; exact M 1 Z (Y Z h)
 cases hf; exact M 1 Z (Y Z h)

theorem yc (n1:Int) {r0:ah} (hf:tu n1=some r0) (h:Q (.ret (.agg (aK r0))) τ):PC 182 [iP n1] τ Q:=by
 unfold tu at hf; refine BN 5 [.cell 2 31] [0] Tryz.func182 Z Z Z Z Z (W 0 Z (AS Z (AO.aF Z gq (fun b2=>?_)))); cases hf; exact Rx 3 [0] Z Z (ZC [0] Z Z h)

theorem RA (l1:List ah) {r0:ah} (hf:Hf l1=some r0) (h:Q (.ret (.agg (aK r0))) τ):PC 123 [.list (ah.aU l1)] τ Q:=by
 unfold Hf at hf; refine BN 5 [.cell 2 31] [0] Tryz.func123 Z Z Z Z Z (W 0 Z (AS Z (AO.aF Z gq (fun b2=>?_)))); cases hf; exact Rx 3 [0] Z Z (ZC [0] Z Z h)
theorem S9 (h:Q (.ret (.agg [iP 4,.bool false,iP 0,.str ([]:Str),.own (.slice none 0 0) [],.own (.slice none 0 0) []])) τ):PC 123 [.own (.slice none 0 0) []] τ Q:=by
 refine AC.none (AC.ajD 5 [.cell 2 31] [0] Tryz.func123 Z Z Z Z Z (AW.sr (AR.step Z Z Z (AO.aF Z gq (fun b2=>?_))))); refine AR.nil [0,2] Z (AW.sr (cs 1 Z (AR.step Z Z Z (AO.build Z gq aep Z ?_)))); refine AR.dh Z Z (AO.dW (i:=0) Z Z Z dF Z Z Z Z Z (AR.nil [2] Z (AW.ret ?_))); exact ⟨rfl,_,⟨_,_,rfl,⟨_,_,0,_,_,rfl,rfl,dF,rfl⟩,rfl⟩,[],List.nil_sublist _,h⟩

theorem TR (l1:List Str) {r0:ah} (hf:Dn l1=some r0) (h:Q (.ret (.agg (aK r0))) τ):PC 231 [sP l1] τ Q:=by
 unfold Dn at hf; refine BN 22 [.cell 2 31] [0] Tryz.func231 Z Z Z Z Z (W 0 Z (AS Z (AO.aF Z gq (fun b2=>(U 0 Z (AS Z (AO.aqJ Z _ Z Z aob (S9 (AS Z (AO.aF Z gq (fun b3=>?_))))))))))); refine Rr 2 [0] Z Z (AS Z (AO.aP (l:=l1) Z Z Z Z f_ Z Z ?_))
 refine J 1 Z (AW.row 6 31 (AW.settle [2,3,7,8,9] Z (AW.D6 1 [false,false,false,false,false,true] Z (ZU (fun x1 bH v1=>[(2,pP b2),(3,pP b3),(7,sP l1),(8,iP (l1.length:Int)),(9,iP x1)]) (fun x1 bH v1=>[.row v1 (ah.aU bH.aO).length 6 31,.box b3 [iP bH.kind,.bool bH.dO,iP bH.dI,.str bH.bR,.own v1 (ah.aU bH.aO),sP bH.keys],.box b2 [iP 0,.bool false,iP 0,.str ([]:Str),.own (.slice none 0 0) [],.own (.slice none 0 0) []]]) (fun bT x1 bH v1=>Ci l1 bT x1 bH=some r0) BIG 0 (ah.mk 4 false 0 ([]:Str) [] []) (.slice none 0 0) Z Z hf (fun _ _ _ hz=>bQ hz) ?_))))
 intro bT x1 bH v1 hf; rw [Ci] at hf; refine V 1 Z (C hf Z (fun h1 hf=>?_) fun h1 hf=>?_)
 ·
  refine B1 hf fun s1 h2 hf=>W 0 Z (AS Z (AO.aI h2 Z Z Z Z f_ Z Z (J 2 Z (AW.draw 5 mixed (by kernel_rfl) Z ?_)))); refine Ev.cs aG 1 Z (Ev.cons Z Z Z (AO.aY (i:=1) Z Z Z Jy Z Z zg) (Ev.cs aG 1 Z ?_)); refine B1 hf fun x2 h3 hf=>Ev.cons rfl rfl rfl (AO.call rfl _ rfl rfl ajs (xZ _ h3 ⟨rfl,rfl⟩)) (Ev.cons rfl rfl rfl (AO.aS (ah.aU [x2]) rfl qM rfl rfl rfl (by first | rfl | simp only [List.map,ah.aD,ah.aU]) ⟨rfl,rfl⟩) ?_); refine Ev.nil ?_
  show AR _ _ _ _ _ _ _ _
  refine B1 hf fun x3 h4 hf=>AS Z (AO.fK (i:=0) (l:=bH.aO) (m:=[x2]) h4 Z Z Z Z Z Z Z qM dX (ah.aB _) (ah.aB _) (ah.aB _).symm (ah.dD) (ah.cells_one) (by decide) (fun v2 s2 hs2=>?_)); cases hs2; exact Rx 4 [1] Z Z ⟨(bZ (x1 + 1)),(ah.mk bH.kind bH.dO bH.dI bH.bR x3 bH.keys),v2,Z,Z,Z,hf⟩
 cases hf; exact Wx 2 [1,2] Z Z (ZC [2] Z Z h)

theorem K7 (b1:Bool) {r0:Str} (hf:sZ b1=some r0) (h:Q (.ret (.str r0)) τ):PC 330 [.bool b1] τ Q:=by
 unfold sZ at hf; refine BN 4 [.tmp 2] [0] Tryz.func330 Z Z Z Z Z (V 2 Z (C hf Z (fun h1 hf=>?_) fun h1 hf=>?_))
 · cases hf; exact M 1 Z (Y Z h)
 cases hf; exact M 1 Z (Y Z h)

theorem Nw (b1:Bool) {r0:Str} (hf:strconv_FormatBool b1=some r0) (h:Q (.ret (.str r0)) τ):PC 294 [.bool b1] τ Q:=by
 unfold strconv_FormatBool at hf; refine BN 5 [.tmp 2] [0] Tryz.func294 Z Z Z Z Z ?_; refine BR hf fun x1 h1 hf=>?_; refine W 2 Z (CL Z (K7 _ h1 ?_)); cases hf; exact N 1 Z (Y Z h)

theorem Jk (s1:Str) {r0:Str} (hf:D8 s1=some r0) (h:Q (.ret (.str r0)) τ):PC 295 [.str s1] τ Q:=by
 unfold D8 at hf; refine BN 54 [.tmp 2] [0] Tryz.func295 Z Z Z Z Z (W 1 Z (AS Z (AO.Td (eu:=5) Z ad6 Z (fun b3=>?_)))); refine B1 hf fun b1 h1 hf=>U 0 Z (CL Z (AC.one 0 Z (kD h1 (fun v1=>⟨_,Z,(J 1 Z (ZU (fun i1 b2 v2=>[(0,.str s1),(3,pP b3),(4,iP i1)]) (fun i1 b2 v2=>[.RF b3 v2 170 5 b2]) (fun bT i1 b2 v2=>pF s1 bT i1 b2=some r0) BIG 0 b1 v1 Z Z hf (fun _ _ _ hz=>bQ hz) ?_))⟩)))); intro bT i1 b2 v2 hf; rw [pF] at hf
 refine W 2 Z (AS Z (AO.b_ Z Z Z Z dM Z (J 1 Z (C hf Z (fun h2 hf=>?_) fun h2 hf=>?_))))
 ·
  refine B1 hf fun c1 h3 hf=>W 2 Z (AS Z (AO.gy h3 Z dM Z Z (U 4 Z (On 3 28 31 [0,3,4,5] ((c1.toNat:Int) == 92) Z Z Z Z (J 1 Z (C hf Z (fun h5 hf=>?_) fun h5 hf=>?_))))))
  · refine B1 hf fun b3 h6 hf=>W 0 Z (CL Z (AC.one 0 Z (kD h6 (fun v3=>⟨_,Z,?_⟩)))); refine B1 hf fun b4 h7 hf=>U 1 Z (CL Z (AC.one 0 Z (kD h7 (fun v4=>⟨_,Z,?_⟩)))); exact N 3 Z ⟨(bZ (i1 + 1)),b4,v4,Z,Z,Z,hf⟩
  refine V 3 Z (C hf Z (fun h8 hf=>?_) fun h8 hf=>?_)
  · refine B1 hf fun b5 h9 hf=>W 0 Z (CL Z (AC.one 0 Z (Ct h9 (fun v5=>⟨_,Z,?_⟩)))); exact N 3 Z ⟨(bZ (i1 + 1)),b5,v5,Z,Z,Z,hf⟩
  refine V 3 Z (C hf Z (fun h10 hf=>?_) fun h10 hf=>?_)
  · refine B1 hf fun b6 h11 hf=>W 0 Z (CL Z (AC.one 0 Z (Ct h11 (fun v6=>⟨_,Z,?_⟩)))); exact N 3 Z ⟨(bZ (i1 + 1)),b6,v6,Z,Z,Z,hf⟩
  refine W 3 Z (An 3 46 49 [0,3,4,5] (decide ((c1.toNat:Int)≤126)) Z Z Z Z (J 1 Z (C hf Z (fun jJ hf=>?_) fun jJ hf=>?_)))
  · refine B1 hf fun b7 j5 hf=>W 1 Z (CL Z (AC.one 0 Z (kD j5 (fun v7=>⟨_,Z,?_⟩)))); exact N 3 Z ⟨(bZ (i1 + 1)),b7,v7,Z,Z,Z,hf⟩
  refine B1 hf fun b8 mo hf=>W 0 Z (CL Z (AC.one 0 Z (Ct mo (fun v8=>⟨_,Z,(U 1 Z (AS Z (AO.u8_quo c1 16 Z Z Z Z Z (by decide) ?_)))⟩)))); refine B1 hf fun x1 h16 hf=>AS Z (AO.gy h16 Z dM Z Z ?_); refine B1 hf fun b9 qB hf=>CL Z (AC.one 0 Z (kD qB (fun v9=>⟨_,Z,(U 1 Z (AS Z (AO.aiv c1 16 Z Z Z Z Z (by decide) ?_)))⟩))); refine B1 hf fun x2 h18 hf=>AS Z (AO.gy h18 Z dM Z Z ?_); refine B1 hf fun b10 h19 hf=>CL Z (AC.one 0 Z (kD h19 (fun v10=>⟨_,Z,?_⟩)))
  exact N 3 Z ⟨(bZ (i1 + 1)),b10,v10,Z,Z,Z,hf⟩
 refine BR hf fun b11 h20 hf=>?_; refine W 0 Z (CL Z (AC.one 0 Z (kD h20 (fun v11=>⟨_,Z,(U 0 Z (CL Z (AC.aaD 0 Z (K8 ?_))))⟩)))); cases hf; exact N 1 Z (Y Z h)

section
variable [FR]
def Zp :Go.Shelf.Ren:=⟨fun | 156=>265 | 165=>300 | 166=>301 | 169=>163 | 240=>218 | 241=>338 | 276=>258 | 277=>362 | n=>n,fun | 31=>29 | 9=>9 | 3=>3 | 4=>4 | 0=>0 | 20=>20 | 72=>170 | 76=>231 | 70=>167 | 37=>168 | 75=>177 | 127=>207 | 164=>228 | 5=>5 | 80=>172 | n=>n,fun | n=>n⟩
theorem joinL :Go.Proofs.Lays.n156 Tryz.prog Zp:={
 mixed:=by kernel_rfl
 f156:=Tryz.func265.trans (congrArg some (by kernel_rfl))
 f165:=Tryz.func300.trans (congrArg some (by kernel_rfl))
 f166:=Tryz.func301.trans (congrArg some (by kernel_rfl))
 f169:=Tryz.func163.trans (congrArg some (by kernel_rfl))
 f240:=Tryz.func218.trans (congrArg some (by kernel_rfl))
 f241:=Tryz.func338.trans (congrArg some (by kernel_rfl))
 f276:=Tryz.func258.trans (congrArg some (by kernel_rfl))
 f277:=Tryz.func362.trans (congrArg some (by kernel_rfl))
 t0:=Tryz.underlying0
 a0:=Tryz.isAgg0
 z0:=Tryz.sizeOf0
 v0:=Tryz.zeroValue0
 t3:=Tryz.underlying3
 a3:=Tryz.isAgg3
 z3:=Tryz.sizeOf3
 v3:=Tryz.zeroValue3
 t4:=Tryz.underlying4
 a4:=Tryz.isAgg4
 z4:=Tryz.sizeOf4
 v4:=Tryz.zeroValue4
 t9:=Tryz.underlying9
 a9:=Tryz.isAgg9
 z9:=Tryz.sizeOf9
 v9:=Tryz.zeroValue9
 t20:=Tryz.underlying20
 a20:=Tryz.isAgg20
 z20:=Tryz.sizeOf20
 v20:=Tryz.zeroValue20
 t31:=Tryz.underlying29
 a31:=Tryz.isAgg29
 z31:=Tryz.sizeOf29
 v31:=Tryz.zeroValue29
 t37:=Tryz.underlying168
 a37:=Tryz.isAgg168
 z37:=Tryz.sizeOf168
 v37:=Tryz.zeroValue168
 t70:=Tryz.underlying167
 a70:=Tryz.isAgg167
 z70:=Tryz.sizeOf167
 v70:=Tryz.zeroValue167
 t72:=Tryz.underlying170
 a72:=Tryz.isAgg170
 z72:=Tryz.sizeOf170
 v72:=Tryz.zeroValue170
 t75:=Tryz.underlying177
 a75:=Tryz.isAgg177
 z75:=Tryz.sizeOf177
 v75:=Tryz.zeroValue177
 t76:=Tryz.underlying231
 a76:=Tryz.isAgg231
 z76:=Tryz.sizeOf231
 v76:=Tryz.zeroValue231
 t127:=Tryz.underlying207
 a127:=Tryz.isAgg207
 z127:=Tryz.sizeOf207
 v127:=Tryz.zeroValue207
 t164:=Tryz.underlying228
 a164:=Tryz.isAgg228
 z164:=Tryz.sizeOf228
 v164:=Tryz.zeroValue228}

theorem aqc :Go.Proofs.Builder.Extra Tryz.prog Zp:={
 sizeBuilder:=by kernel_rfl
 liesBuilder:=by kernel_rfl
 t5:=Tryz.underlying5
 a5:=fun w=>by kernel_rfl
 z5:=fun w=>by kernel_rfl
 v5:=fun w=>by kernel_rfl
 infoByte:=by kernel_rfl
 cellsByte:=by kernel_rfl
 sizeByte:=by kernel_rfl
 neB5:=by decide}


theorem Hy (l1:List Str) (t1:Str) {r0:Str} (hf:strings_Join l1 t1=some r0) (h:Q (.ret (.str r0)) τ):PC 265 [sP l1,.str t1] τ Q:=by
 unfold strings_Join at hf
 split at hf
 case isFalse=>cases hf
 rename_i hg
 cases hf
 refine AC.none ?_
 exact AC.join FR.hD joinL aqc hg.1 hg.2 h
end

section
variable [FR]

abbrev LK (gD:ah→Option Str):Prop:=∀ (qg:ah) {aR:Str},gD qg=some aR→∀ {τ:List bJ} {Q:eT→List bJ→Prop} (h:Q (.ret (.str aR)) τ),PC 261 [.agg (aK qg)] τ Q
theorem Ud (gD) (Cc:LK gD) (v1:ah) {r0:Str} (hf:zZ gD v1=some r0) (h:Q (.ret (.str r0)) τ):PC 261 [.agg (aK v1)] τ Q:=by
 unfold zZ at hf; refine BN 68 [.tmp 2] [0] Tryz.func261 Z Z Z Z Z (V 6 Z (C hf Z (fun h1 hf=>?_) fun h1 hf=>?_))
 · refine BR hf fun x1 h2 hf=>?_; refine W 2 Z (CL Z (Nw _ h2 ?_)); cases hf; exact N 1 Z (Y Z h)
 refine V 2 Z (C hf Z (fun h3 hf=>?_) fun h3 hf=>?_)
 · refine BR hf fun x2 h4 hf=>?_; refine W 2 Z (CL Z (Nv _ h4 ?_)); cases hf; exact N 1 Z (Y Z h)
 refine V 2 Z (C hf Z (fun h5 hf=>?_) fun h5 hf=>?_)
 · refine BR hf fun x3 h6 hf=>?_; refine W 2 Z (CL Z (Jk _ h6 ?_)); cases hf; exact N 1 Z (Y Z h)
 refine V 2 Z (C hf Z (fun h7 hf=>?_) fun h7 hf=>?_)
 ·
  refine V 0 Z (AW.cond Z (fun h8=>?_) (fun h8=>?_))
  ·
   refine W 3 Z (AS Z (AO.aP (l:=v1.aO) Z Z Z Z dX Z (ah.aB _) (J 1 Z (AW.row 1 9 (ZU (fun ES v2 i1=>[(1,.ref (aK v1)),(3,.own v2 (List.map qC ES)),(28,.list (ah.aU v1.aO)),(29,iP (v1.aO.length:Int)),(30,iP i1)]) (fun ES v2 i1=>[.row v2 (List.map qC ES).length 1 9]) (fun bT ES v2 i1=>uF gD v1 bT ES i1=some r0) BIG [] (.slice none 0 0) 0 Z Z hf (fun _ _ _ hz=>bQ hz) ?_))))); intro bT ES v2 i1 hf; rw [uF] at hf
   refine V 1 Z (C hf Z (fun h9 hf=>?_) fun h9 hf=>?_)
   ·
    refine B1 hf fun e1 h10 hf=>W 1 Z (AS Z (AO.aI h10 Z Z (ah.aB _) Z dX (ah.aD _) Z (U 1 Z (AS Z (AO.aF Z gq (fun b5=>(Rw 5 [0] Z Z (C hf Z (fun h11 hf=>?_) fun h11 hf=>?_))))))))
    ·
     refine AW.draw 12 mixed (by kernel_rfl) Z ?_; refine Ev.cs aG 4 Z ?_; refine B1 hf fun e2 h12 hf=>Ev.cons Z Z Z (AO.aI h12 Z Z Z Z f_ Z Z zg) (Ev.cs aG 1 Z ?_); refine B1 hf fun x4 jJ hf=>Ev.cons Z Z Z (AO.call Z _ Z Z ai7 (Jk _ jJ zg)) ?_; refine B1 hf fun x5 j5 hf=>Ev.cons Z Z Z (AO.zF j5 Z Z Z zg) (Ev.cons Z Z Z (AO.aY (i:=0) Z Z Z dF Z Z zg) ?_); refine B1 hf fun x6 mo hf=>Ev.cons Z Z Z (AO.call Z _ Z Z aja (Cc _ mo zg)) ?_
     refine B1 hf fun x7 h16 hf=>Ev.cons Z Z Z (AO.zF h16 Z Z Z zg) (Ev.cons Z Z Z (AO.aS (List.map qC ([x7]:List Str)) Z u6 Z Z Z Z zg) (Ev.nil ?_)); show AR _ _ _ _ _ _ _ _
     refine B1 hf fun aeI qB hf=>AS Z (AO.fK (i:=1) (l:=ES) (m:=([x7]:List Str)) qB Z Z Z Z Z Z Z u6 f_ Z Z Z (fun _=>Z) (fun _=>Z) (by decide) (fun v3 s1 hs1=>?_)); cases hs1; refine eG 3 Z (AR.drop1 ?_); exact N 0 Z ⟨aeI,v3,(bZ (i1 + 1)),Z,Z,Z,hf⟩
    refine B1 hf fun x8 h18 hf=>Wr 2 [0] Z Z (CL Z (Cc _ h18 (AS Z (AO.aS (List.map qC ([x8]:List Str)) Z u6 Z Z Z Z ?_)))); refine B1 hf fun aeH h19 hf=>AS Z (AO.fK (i:=1) (l:=ES) (m:=([x8]:List Str)) h19 Z Z Z Z Z Z Z u6 f_ Z Z Z (fun _=>Z) (fun _=>Z) (by decide) (fun v4 s2 hs2=>?_)); cases hs2; refine eG 3 Z (AR.drop1 ?_); exact N 0 Z ⟨aeH,v4,(bZ (i1 + 1)),Z,Z,Z,hf⟩
   refine B1 hf fun s3 h20 hf=>W 1 Z (CL Z (Hy _ _ h20 (J 4 Z (C hf Z (fun h21 hf=>?_) fun h21 hf=>?_))))
   · refine B1 hf fun x9 h22 hf=>W 1 Z (AS Z (AO.zF h22 Z Z Z ?_)); refine BR hf fun wS h23 hf=>?_; refine AS Z (AO.zF h23 Z Z Z ?_); cases hf; exact N 1 Z (Y Z h)
   refine B1 hf fun H8 wT hf=>W 1 Z (AS Z (AO.zF wT Z Z Z ?_)); refine BR hf fun LQ Cv hf=>?_; refine AS Z (AO.zF Cv Z Z Z ?_); cases hf; exact N 1 Z (Y Z h)
  cases h7.symm.trans h8
 refine V 2 Z (C hf Z (fun Ic hf=>?_) fun Ic hf=>?_)
 ·
  refine W 3 Z (AS Z (AO.aP (l:=v1.aO) Z Z Z Z dX Z (ah.aB _) (J 1 Z (AW.row 1 9 (ZU (fun Jg v5 i2=>[(1,.ref (aK v1)),(3,.own v5 (List.map qC Jg)),(28,.list (ah.aU v1.aO)),(29,iP (v1.aO.length:Int)),(30,iP i2)]) (fun Jg v5 i2=>[.row v5 (List.map qC Jg).length 1 9]) (fun KQ Jg v5 i2=>yD gD v1 KQ Jg i2=some r0) BIG [] (.slice none 0 0) 0 Z Z hf (fun _ _ _ hz=>bQ hz) ?_))))); intro KQ Jg v5 i2 hf; rw [yD] at hf
  refine V 1 Z (C hf Z (fun h27 hf=>?_) fun h27 hf=>?_)
  ·
   refine B1 hf fun e3 RQ hf=>W 1 Z (AS Z (AO.aI RQ Z Z (ah.aB _) Z dX (ah.aD _) Z (U 1 Z (AS Z (AO.aF Z gq (fun as5=>(Rw 5 [0] Z Z (AW.cond Z (fun Na=>?_) (fun Na=>?_)))))))))
   ·
    refine AW.draw 12 mixed (by kernel_rfl) Z ?_; refine Ev.cs aG 4 Z ?_; refine B1 hf fun e4 LY hf=>Ev.cons Z Z Z (AO.aI LY Z Z Z Z f_ Z Z zg) (Ev.cs aG 1 Z ?_); refine B1 hf fun Mg h31 hf=>Ev.cons Z Z Z (AO.call Z _ Z Z ai7 (Jk _ h31 zg)) ?_; refine B1 hf fun RP h32 hf=>Ev.cons Z Z Z (AO.zF h32 Z Z Z zg) (Ev.cons Z Z Z (AO.aY (i:=0) Z Z Z dF Z Z zg) ?_); refine B1 hf fun RO Js hf=>Ev.cons Z Z Z (AO.call Z _ Z Z aja (Cc _ Js zg)) ?_
    refine B1 hf fun LP XE hf=>Ev.cons Z Z Z (AO.zF XE Z Z Z zg) (Ev.cons Z Z Z (AO.aS (List.map qC ([LP]:List Str)) Z u6 Z Z Z Z zg) (Ev.nil ?_)); show AR _ _ _ _ _ _ _ _
    refine B1 hf fun aeG PK hf=>AS Z (AO.fK (i:=1) (l:=Jg) (m:=([LP]:List Str)) PK Z Z Z Z Z Z Z u6 f_ Z Z Z (fun _=>Z) (fun _=>Z) (by decide) (fun v6 s4 hs4=>?_)); cases hs4; refine eG 3 Z (AR.drop1 ?_); exact N 0 Z ⟨aeG,v6,(bZ (i2 + 1)),Z,Z,Z,hf⟩
   cases Ic.symm.trans Na
  refine B1 hf fun s5 QZ hf=>W 1 Z (CL Z (Hy _ _ QZ (J 4 Z (AW.cond Z (fun h37=>?_) (fun h37=>?_)))))
  · refine B1 hf fun XD UO hf=>W 1 Z (AS Z (AO.zF UO Z Z Z ?_)); refine BR hf fun y8 OC hf=>?_; refine AS Z (AO.zF OC Z Z Z ?_); cases hf; exact N 1 Z (Y Z h)
  cases Ic.symm.trans h37
 cases hf; exact M 1 Z (Y Z h)
theorem Uk :∀ k:Nat,(LK (sw k)):=by
 intro k
 induction k with
 | zero=>exact fun _ _ hz=>by first | cases hz | (unfold sw at hz; cases hz)
 | succ k ih=>exact fun qg aR hz τ Q hq=>Ud (sw k) ih qg hz hq
theorem Us (qg:ah) {aR:Str} (hf:Je qg=some aR) (h:Q (.ret (.str aR)) τ):PC 261 [.agg (aK qg)] τ Q:=
 ((Uk BIG)) qg hf h
end

section
variable [FR]
theorem abj (v1:ah) {r0:Str} {r1:Int} (hf:Gp v1=some (r0,r1)) (h:Q (.ret (.tuple [.str r0,iP r1])) τ):PC 232 [.agg (aK v1)] τ Q:=by
 unfold Gp at hf; refine BN 28 [.tmp 2,.tmp 3] [0] Tryz.func232 Z Z Z Z Z (W 7 Z (On 4 8 12 [1] (v1.kind == 5) Z Z Z Z (J 0 Z (C hf Z (fun h2 hf=>?_) fun h2 hf=>?_))))
 · cases hf; exact M 2 Z (Y Z h)
 refine B1 hf fun e1 h3 hf=>W 1 Z (CL Z (uh _ h3 (J 3 Z (C hf Z (fun h4 hf=>?_) fun h4 hf=>?_))))
 · cases hf; exact M 3 Z (Y Z h)
 refine V 4 Z (C hf Z (fun h5 hf=>?_) fun h5 hf=>?_)
 · cases hf; exact M 2 Z (Y Z h)
 refine V 2 Z (C hf Z (fun h6 hf=>?_) fun h6 hf=>?_)
 · cases hf; exact M 4 Z (Y Z h)
 refine B1 hf fun x1 h7 hf=>W 1 Z (CL Z (Us _ h7 ?_)); cases hf; exact N 2 Z (Y Z h)
end

theorem O4 (s1:Str) (lo1:UInt8) (hi1:UInt8) (Cw:Int) {r0:Str} (hf:A_ s1 lo1 hi1 Cw=some r0) (h:Q (.ret (.str r0)) τ):PC 233 [.str s1,.int .u8 (lo1.toNat:Int),.int .u8 (hi1.toNat:Int),iP Cw] τ Q:=by
 unfold A_ at hf; refine BN 42 [.tmp 8] [0,1,2,3] Tryz.func233 Z Z Z Z Z (W 1 Z (AS Z (AO.Td (eu:=5) Z ad6 Z (fun b9=>(J 1 Z (ZU (fun i1 b1 v1=>[(0,.str s1),(1,.int .u8 (lo1.toNat:Int)),(2,.int .u8 (hi1.toNat:Int)),(3,iP Cw),(9,pP b9),(10,iP i1)]) (fun i1 b1 v1=>[.RF b9 v1 170 5 b1]) (fun bT i1 b1 v1=>uO s1 lo1 hi1 Cw bT i1 b1=some r0) BIG 0 [] (.slice none 0 0) Z Z hf (fun _ _ _ hz=>bQ hz) ?_)))))); intro bT i1 b1 v1 hf; rw [uO] at hf
 refine W 2 Z (AS Z (AO.b_ Z Z Z Z dM Z (J 1 Z (C hf Z (fun h1 hf=>?_) fun h1 hf=>?_))))
 ·
  refine B1 hf fun x1 h2 hf=>W 2 Z (AS Z (AO.gy h2 Z dM Z Z ?_)); refine B1 hf fun b2 h4 hf=>U 3 Z (AR.dB 6 22 28 true [0,1,2,3,9,10] b2 Z Z (fun h3=>?_) (fun h3=>?_) ?_)
  · refine IT 22 h3 h4 Z fun h4=>?_; refine B1 h4 fun x2 h5 h4=>U 2 Z (GO Z (AO.gy h5 Z dM Z Z ?_)); cases h4; exact eG 3 Z (En [28,0,1,2,3,9,10] Z)
  · refine IF 22 h3 h4 Z fun h4=>?_; cases h4; exact eG 6 Z (En [28,0,1,2,3,9,10] Z)
  refine J 0 Z (C hf Z (fun h6 hf=>?_) fun h6 hf=>?_)
  · refine B1 hf fun x3 h7 hf=>W 2 Z (AS Z (AO.gy h7 Z dM Z Z (AS Z (AO.Du Z CP Ib Z Z (U 2 Z (AS Z (AO.Hq Z Ib CP Z ?_))))))); refine B1 hf fun b3 h8 hf=>CL Z (AC.one 0 Z (kD h8 (fun v2=>⟨_,Z,?_⟩))); exact N 3 Z ⟨(bZ (i1 + 1)),b3,v2,Z,Z,Z,hf⟩
  refine B1 hf fun x4 h9 hf=>W 2 Z (AS Z (AO.gy h9 Z dM Z Z ?_)); refine B1 hf fun b4 h10 hf=>CL Z (AC.one 0 Z (kD h10 (fun v3=>⟨_,Z,?_⟩))); exact N 3 Z ⟨(bZ (i1 + 1)),b4,v3,Z,Z,Z,hf⟩
 refine W 0 Z (CL Z (AC.aaD 0 Z (K8 ?_))); cases hf; exact N 1 Z (Y Z h)

section
variable [FR]
theorem YB (s1:Str) {r0:Int} {r1:Bool} (hf:xR s1=some (r0,r1)) (h:Q (.ret (.tuple [iP r0,.bool r1])) τ):PC 234 [.str s1] τ Q:=by
 unfold xR at hf; refine BN 28 [.tmp 2,.tmp 3] [0] Tryz.func234 Z Z Z Z Z ?_; obtain ⟨n1,aj9,h1,hf⟩:=aV hf; refine W 3 Z (CL Z (Hz _ h1 (U 6 Z (AS Z (AO.eqNil Z ajT Z Z ?_))))); refine B1 hf fun b1 h3 hf=>U 1 Z (AR.dB 5 13 18 false [4] b1 Z Z (fun h2=>?_) (fun h2=>?_) ?_)
 · refine IF 13 h2 h3 Z fun h3=>?_; refine B1 h3 fun x1 h4 h3=>U 1 Z (GO Z (AO.call Z _ Z Z anI (Nv _ h4 ?_))); cases h3; exact eG 3 Z (En [18,4] Z)
 · refine IT 13 h2 h3 Z fun h3=>?_; cases h3; exact eG 5 Z (En [18,4] Z)
 refine U 1 Z (On 3 19 22 [4] (decide (n1 < (-9007199254740992))) Z Z Z Z (U 1 Z (On 3 23 26 [4] (decide (9007199254740992 < n1)) Z Z Z Z (J 0 Z (C hf Z (fun h7 hf=>?_) fun h7 hf=>?_)))))
 · cases hf; exact M 2 Z (Y Z h)
 cases hf; exact M 3 Z (Y Z h)
end

section
variable [FR]
@[reducible] def ad9 :fO aM ah→eT
 | .ok r=>.ret (.agg (aK r))
 | .bad e=>.panic (.iface 111 (.agg [iP e.code]))

theorem Xn (name1:Str) (v1:ah) {rX:fO aM ah} (hf:Nh name1 v1=some rX) (h:Q (ad9 rX) τ):PC 179 [.str name1,.agg (aK v1)] τ Q:=by
 unfold Nh at hf; refine BN 78 [.cell 4 31] [0,1] Tryz.func179 Z Z Z Z Z (W 1 Z (AS Z (AO.aF Z gq (fun b4=>(J 3 Z (C hf Z (fun h1 hf=>?_) fun h1 hf=>?_))))))
 ·
  refine B1 hf fun x1 h2 hf=>W 1 Z (CL Z (mI _ _ h2 ?_)); refine B1 hf fun b1 h4 hf=>U 1 Z (AR.dB 3 14 17 false [3,4] b1 Z Z (fun h3=>?_) (fun h3=>?_) ?_)
  · refine IF 14 h3 h4 Z fun h4=>?_; refine BR h4 fun x2 h5 h4=>?_; refine U 1 Z (GO Z (AO.call Z _ Z Z R8 (mI _ _ h5 ?_))); cases h4; exact eG 1 Z (En [17,3,4] Z)
  · refine IT 14 h3 h4 Z fun h4=>?_; cases h4; exact eG 3 Z (En [17,3,4] Z)
  refine B1 hf fun b2 h7 hf=>U 1 Z (AR.dB 3 18 21 false [3,4] b2 Z Z (fun h6=>?_) (fun h6=>?_) ?_)
  · refine IF 18 h6 h7 Z fun h7=>?_; refine BR h7 fun x3 h8 h7=>?_; refine U 1 Z (GO Z (AO.call Z _ Z Z R8 (mI _ _ h8 ?_))); cases h7; exact eG 1 Z (En [21,3,4] Z)
  · refine IT 18 h6 h7 Z fun h7=>?_; cases h7; exact eG 3 Z (En [21,3,4] Z)
  rcases bS hf with ⟨e1,h9,hf⟩ | ⟨_,h9,hf⟩
  · refine CL Z (bP _ _ h9 ?_); cases hf; exact ⟨Z,[],List.nil_sublist _,h⟩
  refine CL Z (bP _ _ h9 (U 2 Z (AS Z (AO.b_ Z Z Z Z dM Z (U 2 Z (AS Z (AO.aP (l:=v1.aO) Z Z Z Z dX Z (ah.aB _) ?_))))))); refine B1 hf fun x4 h10 hf=>U 1 Z (CL Z (yc _ h10 ?_)); cases hf; exact Rx 1 [0] Z Z (ZC [0] Z Z h)
 refine V 2 Z (C hf Z (fun h11 hf=>?_) fun h11 hf=>?_)
 ·
  refine B1 hf fun x5 h12 hf=>W 1 Z (CL Z (mI _ _ h12 ?_)); rcases bS hf with ⟨e2,jJ,hf⟩ | ⟨_,jJ,hf⟩
  · refine CL Z (bP _ _ jJ ?_); cases hf; exact ⟨Z,[],List.nil_sublist _,h⟩
  refine CL Z (bP _ _ jJ ?_); refine B1 hf fun x6 j5 hf=>U 2 Z (CL Z (TR _ j5 ?_)); cases hf; exact Rx 1 [0] Z Z (ZC [0] Z Z h)
 refine V 2 Z (C hf Z (fun mo hf=>?_) fun mo hf=>?_)
 ·
  obtain ⟨t1,e3,h16,hf⟩:=aV hf; refine W 1 Z (CL Z (abj _ h16 ?_)); rcases bS hf with ⟨e4,qB,hf⟩ | ⟨_,qB,hf⟩
  · refine U 8 Z (CL Z (bP _ _ qB ?_)); cases hf; exact ⟨Z,[],List.nil_sublist _,h⟩
  refine U 8 Z (CL Z (bP _ _ qB ?_)); refine B1 hf fun x7 h18 hf=>U 1 Z (CL Z (xZ _ h18 ?_)); cases hf; exact Rx 1 [0] Z Z (ZC [0] Z Z h)
 refine B1 hf fun x8 h19 hf=>W 1 Z (CL Z (mI _ _ h19 ?_)); rcases bS hf with ⟨e5,h20,hf⟩ | ⟨_,h20,hf⟩
 · refine CL Z (bP _ _ h20 ?_); cases hf; exact ⟨Z,[],List.nil_sublist _,h⟩
 refine CL Z (bP _ _ h20 (J 3 Z (C hf Z (fun h21 hf=>?_) fun h21 hf=>?_)))
 · refine B1 hf fun x9 h22 hf=>W 2 Z (CL Z (O4 _ _ _ _ h22 ?_)); refine B1 hf fun wS h23 hf=>CL Z (xZ _ h23 ?_); cases hf; exact Rx 1 [0] Z Z (ZC [0] Z Z h)
 refine V 2 Z (C hf Z (fun wT hf=>?_) fun wT hf=>?_)
 · refine B1 hf fun H8 Cv hf=>W 2 Z (CL Z (O4 _ _ _ _ Cv ?_)); refine B1 hf fun LQ Ic hf=>CL Z (xZ _ Ic ?_); cases hf; exact Rx 1 [0] Z Z (ZC [0] Z Z h)
 obtain ⟨n1,ok1,h27,hf⟩:=aV hf; refine W 2 Z (CL Z (YB _ h27 ?_)); rcases bS hf with ⟨e6,RQ,hf⟩ | ⟨_,RQ,hf⟩
 · refine U 6 Z (CL Z (bP _ _ RQ ?_)); cases hf; exact ⟨Z,[],List.nil_sublist _,h⟩
 refine U 6 Z (CL Z (bP _ _ RQ ?_)); refine B1 hf fun Mg Na hf=>U 1 Z (CL Z (yc _ Na ?_)); cases hf; exact Rx 1 [0] Z Z (ZC [0] Z Z h)
end

theorem OX (b1:Bool) {r0:Int} (hf:wY b1=some r0) (h:Q (.ret (iP r0)) τ):PC 270 [.bool b1] τ Q:=by
 unfold wY at hf; refine BN 4 [.tmp 2] [0] Tryz.func270 Z Z Z Z Z (V 2 Z (C hf Z (fun h1 hf=>?_) fun h1 hf=>?_))
 · cases hf; exact M 1 Z (Y Z h)
 cases hf; exact M 1 Z (Y Z h)

theorem jo (Af:List ah) (CS:List ah) (Nr:ah→ah→Option Int) (Rq:FuncId) (WL:List PV) (akl:bB Tryz.prog Rq=true) (akm:∀ a0 a1 b0,Nr a0 a1=some b0→∀ {τ:List bJ} {Q:eT→List bJ→Prop},Q (.ret (iP b0)) τ→PC Rq ([.agg (aK a0),.agg (aK a1)] ++ WL) τ Q) {r0:Int} (hf:dw Af CS Nr=some r0) (h:Q (.ret (iP r0)) τ):PC 272 [.list (ah.aU Af),.list (ah.aU CS),.fn Rq WL] τ Q:=by
 unfold dw at hf
 refine BN 39 [.tmp 6] [0,1,2] Tryz.func272 Z Z Z Z Z (W 2 Z (AS Z (AO.aP (l:=Af) Z Z Z Z dX Z (ah.aB _) (J 1 Z (Gh (fun i1=>[(0,.list (ah.aU Af)),(1,.list (ah.aU CS)),(2,.fn Rq WL),(11,.list (ah.aU Af)),(12,iP (Af.length:Int)),(13,iP i1)]) (fun i1=>[]) (fun bT i1=>dL Af CS Nr bT i1=some r0) BIG 0 Z Z hf (fun _ hz=>bQ hz) ?_))))); intro bT i1 hf
 rw [dL] at hf; refine V 1 Z (C hf Z (fun h1 hf=>?_) fun h1 hf=>?_)
 ·
  refine B1 hf fun e1 h2 hf=>W 1 Z (AS Z (AO.aI h2 Z Z (ah.aB _) Z dX (ah.aD _) Z (U 1 Z (AS Z (AO.aF Z gq (fun b8=>(Rr 4 [0] Z Z (AS Z (AO.aP (l:=CS) Z Z Z Z dX Z (ah.aB _) (J 1 Z (C hf Z (fun h3 hf=>?_) fun h3 hf=>?_)))))))))))
  · cases hf; exact M 1 Z (Y Z h)
  refine B1 hf fun e2 h4 hf=>W 2 Z (AS Z (AO.aI h4 Z Z (ah.aB _) Z dX (ah.aD _) Z (U 1 Z (AS Z (AO.aF Z gq (fun b9=>?_)))))); refine B1 hf fun c1 h5 hf=>Rr 4 [0,1,0] Z Z (AS Z (AO.call Z _ Z Z akl (akm _ _ _ h5 (J 3 Z (C hf Z (fun h6 hf=>?_) fun h6 hf=>?_)))))
  · cases hf; exact M 2 Z (Y Z h)
  refine Wn0 2 Z (AR.drop1 (AR.drop1 ?_)); exact N 0 Z ⟨(bZ (i1 + 1)),Z,Z,Z,hf⟩
 refine W 1 Z (AS Z (AO.aP (l:=Af) Z Z Z Z dX Z (ah.aB _) (U 1 Z (AS Z (AO.aP (l:=CS) Z Z Z Z dX Z (ah.aB _) (J 1 Z (C hf Z (fun h7 hf=>?_) fun h7 hf=>?_)))))))
 · cases hf; exact M 1 Z (Y Z h)
 cases hf; exact M 1 Z (Y Z h)

theorem qK (Af:List Str) (CS:List Str) (Nr:Str→Str→Option Int) (Rq:FuncId) (WL:List PV) (akl:bB Tryz.prog Rq=true) (akm:∀ a0 a1 b0,Nr a0 a1=some b0→∀ {τ:List bJ} {Q:eT→List bJ→Prop},Q (.ret (iP b0)) τ→PC Rq ([.str a0,.str a1] ++ WL) τ Q) {r0:Int} (hf:fI Af CS Nr=some r0) (h:Q (.ret (iP r0)) τ):PC 273 [sP Af,sP CS,.fn Rq WL] τ Q:=by
 unfold fI at hf; refine BN 39 [.tmp 6] [0,1,2] Tryz.func273 Z Z Z Z Z (W 2 Z (AS Z (AO.aP (l:=Af) Z Z Z Z f_ Z Z (J 1 Z (Gh (fun i1=>[(0,sP Af),(1,sP CS),(2,.fn Rq WL),(11,sP Af),(12,iP (Af.length:Int)),(13,iP i1)]) (fun i1=>[]) (fun bT i1=>fq Af CS Nr bT i1=some r0) BIG 0 Z Z hf (fun _ hz=>bQ hz) ?_))))); intro bT i1 hf; rw [fq] at hf
 refine V 1 Z (C hf Z (fun h1 hf=>?_) fun h1 hf=>?_)
 ·
  refine B1 hf fun aps h2 hf=>W 1 Z (AS Z (AO.aI h2 Z Z Z Z f_ Z Z (U 5 Z (AS Z (AO.aP (l:=CS) Z Z Z Z f_ Z Z (J 1 Z (C hf Z (fun h3 hf=>?_) fun h3 hf=>?_)))))))
  · cases hf; exact M 1 Z (Y Z h)
  refine B1 hf fun apr h4 hf=>W 2 Z (AS Z (AO.aI h4 Z Z Z Z f_ Z Z ?_)); refine B1 hf fun c1 h5 hf=>U 5 Z (AS Z (AO.call Z _ Z Z akl (akm _ _ _ h5 (J 3 Z (C hf Z (fun h6 hf=>?_) fun h6 hf=>?_)))))
  · cases hf; exact M 2 Z (Y Z h)
  exact M 2 Z ⟨(bZ (i1 + 1)),Z,Z,Z,hf⟩
 refine W 1 Z (AS Z (AO.aP (l:=Af) Z Z Z Z f_ Z Z (U 1 Z (AS Z (AO.aP (l:=CS) Z Z Z Z f_ Z Z (J 1 Z (C hf Z (fun h7 hf=>?_) fun h7 hf=>?_)))))))
 · cases hf; exact M 1 Z (Y Z h)
 cases hf; exact M 1 Z (Y Z h)


abbrev LM (l8:ah→ah→Option Int):Prop:=∀ (sF:ah) (sD:ah) {aR:Int},l8 sF sD=some aR→∀ {τ:List bJ} {Q:eT→List bJ→Prop} (h:Q (.ret (iP aR)) τ),PC 241 [.agg (aK sF),.agg (aK sD)] τ Q
theorem Ue (l8) (IL:LM l8) (a1:ah) (b1:ah) {r0:Int} (hf:z8 l8 a1 b1=some r0) (h:Q (.ret (iP r0)) τ):PC 241 [.agg (aK a1),.agg (aK b1)] τ Q:=by
 unfold z8 at hf; refine BN 62 [.tmp 4] [0,1] Tryz.func241 Z Z Z Z Z ?_; refine B1 hf fun c1 h1 hf=>W 7 Z (CL Z (p8 _ _ h1 (J 3 Z (C hf Z (fun h2 hf=>?_) fun h2 hf=>?_))))
 · cases hf; exact M 2 Z (Y Z h)
 refine V 4 Z (C hf Z (fun h3 hf=>?_) fun h3 hf=>?_)
 ·
  refine V 0 Z (AW.draw 8 mixed (by kernel_rfl) Z ?_); refine Ev.cs aG 2 Z ?_; refine B1 hf fun x1 h4 hf=>Ev.cons Z Z Z (AO.call Z _ Z Z ai_ (OX _ h4 zg)) (Ev.cs aG 2 Z ?_); refine B1 hf fun x2 h5 hf=>Ev.cons Z Z Z (AO.call Z _ Z Z ai_ (OX _ h5 zg)) ?_; refine BR hf fun x3 h6 hf=>?_; refine Ev.cons Z Z Z (AO.call Z _ Z Z anH (p8 _ _ h6 zg)) (Ev.cs aG 1 Z (Ev.nil ?_)); show AR _ _ _ _ _ _ _ _
  cases hf; exact N 0 Z (Y Z h)
 refine V 2 Z (C hf Z (fun h7 hf=>?_) fun h7 hf=>?_)
 · refine BR hf fun x4 h8 hf=>?_; refine W 4 Z (CL Z (p8 _ _ h8 ?_)); cases hf; exact N 1 Z (Y Z h)
 refine V 2 Z (C hf Z (fun h9 hf=>?_) fun h9 hf=>?_)
 · refine BR hf fun x5 h10 hf=>?_; refine W 4 Z (CL Z (EL _ _ h10 ?_)); cases hf; exact N 1 Z (Y Z h)
 refine V 2 Z (C hf Z (fun h11 hf=>?_) fun h11 hf=>?_)
 · refine BR hf fun x6 h12 hf=>?_; refine W 4 Z (CL Z (jo _ _ l8 241 [] aje (fun _ _ _ hz=>IL _ _  hz) h12 ?_)); cases hf; exact N 1 Z (Y Z h)
 refine V 2 Z (C hf Z (fun jJ hf=>?_) fun jJ hf=>?_)
 ·
  refine B1 hf fun c2 j5 hf=>W 4 Z (CL Z (qK _ _ kI 248 [] ajd (fun _ _ _ hz=>E5 _ _  hz) j5 (J 3 Z (C hf Z (fun mo hf=>?_) fun mo hf=>?_))))
  · cases hf; exact M 2 Z (Y Z h)
  refine BR hf fun x7 h16 hf=>?_; refine W 4 Z (CL Z (jo _ _ l8 241 [] aje (fun _ _ _ hz=>IL _ _  hz) h16 ?_)); cases hf; exact N 1 Z (Y Z h)
 cases hf; exact M 1 Z (Y Z h)
theorem Ul :∀ k:Nat,(LM (ko k)):=by
 intro k
 induction k with
 | zero=>exact fun _ _ _ hz=>by first | cases hz | (unfold ko at hz; cases hz)
 | succ k ih=>exact fun sF sD aR hz τ Q hq=>Ue (ko k) ih sF sD hz hq
theorem Lx (sF:ah) (sD:ah) {aR:Int} (hf:zJ sF sD=some aR) (h:Q (.ret (iP aR)) τ):PC 241 [.agg (aK sF),.agg (aK sD)] τ Q:=
 ((Ul BIG)) sF sD hf h

theorem Jl (a1:ah) (b1:ah) {r0:Bool} (hf:pI a1 b1=some r0) (h:Q (.ret (.bool r0)) τ):PC 183 [.agg (aK a1),.agg (aK b1)] τ Q:=by
 unfold pI at hf; refine BN 9 [.tmp 4] [0,1] Tryz.func183 Z Z Z Z Z ?_; refine B1 hf fun x1 h1 hf=>W 5 Z (CL Z (Lx _ _ h1 ?_)); cases hf; exact N 2 Z (Y Z h)

theorem vk (a1:ah) (b1:ah) (rV:Int) {r0:Bool} (hf:sJ a1 b1 rV=some r0) (h:Q (.ret (.bool r0)) τ):PC 237 [.agg (aK a1),.agg (aK b1),iP rV] τ Q:=by
 unfold sJ at hf; refine BN 17 [.tmp 6] [0,1,2] Tryz.func237 Z Z Z Z Z (W 8 Z (An 5 11 16 [] (b1.kind == rV) Z Z Z Z ?_)); cases hf; exact N 1 Z (Y Z h)

section
variable [FR]
def Yd :Go.Shelf.Ren:=⟨fun | 144=>264 | 143=>299 | 219=>337 | 217=>358 | 225=>359 | 224=>360 | 267=>361 | 266=>373 | 314=>374 | n=>n,fun | 9=>9 | 4=>4 | 3=>3 | 5=>5 | 46=>247 | 146=>320 | 51=>268 | n=>n,fun | 1=>2 | n=>n⟩
theorem ahE :Go.Proofs.Lays.n144 Tryz.prog Yd:={
 mixed:=by kernel_rfl
 f143:=Tryz.func299.trans (congrArg some (by kernel_rfl))
 f144:=Tryz.func264.trans (congrArg some (by kernel_rfl))
 f217:=Tryz.func358.trans (congrArg some (by kernel_rfl))
 f219:=Tryz.func337.trans (congrArg some (by kernel_rfl))
 f224:=Tryz.func360.trans (congrArg some (by kernel_rfl))
 f225:=Tryz.func359.trans (congrArg some (by kernel_rfl))
 f266:=Tryz.func373.trans (congrArg some (by kernel_rfl))
 f267:=Tryz.func361.trans (congrArg some (by kernel_rfl))
 f314:=Tryz.func374.trans (congrArg some (by kernel_rfl))
 t3:=Tryz.underlying3
 a3:=Tryz.isAgg3
 z3:=Tryz.sizeOf3
 v3:=Tryz.zeroValue3
 t4:=Tryz.underlying4
 a4:=Tryz.isAgg4
 z4:=Tryz.sizeOf4
 v4:=Tryz.zeroValue4
 t5:=Tryz.underlying5
 a5:=Tryz.isAgg5
 z5:=Tryz.sizeOf5
 v5:=Tryz.zeroValue5
 t9:=Tryz.underlying9
 a9:=Tryz.isAgg9
 z9:=Tryz.sizeOf9
 v9:=Tryz.zeroValue9
 t46:=Tryz.underlying247
 a46:=Tryz.isAgg247
 z46:=Tryz.sizeOf247
 v46:=Tryz.zeroValue247
 t51:=Tryz.underlying268
 a51:=Tryz.isAgg268
 z51:=Tryz.sizeOf268
 v51:=Tryz.zeroValue268
 t146:=Tryz.underlying320
 a146:=Tryz.isAgg320
 z146:=Tryz.sizeOf320
 v146:=Tryz.zeroValue320
 g1:=by kernel_rfl}


theorem P7 (s1:Str) (t1:Str) {r0:Bool} (hf:strings_Contains s1 t1=some r0) (h:Q (.ret (.bool r0)) τ):PC 264 [.str s1,.str t1] τ Q:=by
 unfold strings_Contains at hf
 split at hf
 case isFalse=>cases hf
 rename_i hg
 cases hf
 refine AC.none ?_
 exact AC.contains ahE hg FR.max h
end

section
variable [FR]
@[reducible] def Uc :fO aM Bool→eT
 | .ok r=>.ret (.bool r)
 | .bad e=>.panic (.iface 111 (.agg [iP e.code]))

theorem LB (a1:ah) (b1:ah) {rX:fO aM Bool} (hf:zW a1 b1=some rX) (h:Q (Uc rX) τ):PC 235 [.agg (aK a1),.agg (aK b1)] τ Q:=by
 unfold zW at hf; refine BN 47 [.tmp 4] [0,1] Tryz.func235 Z Z Z Z Z ?_; refine B1 hf fun x1 h1 hf=>W 4 Z (CL Z (mI _ _ h1 (J 1 Z (C hf Z (fun h2 hf=>?_) fun h2 hf=>?_))))
 ·
  refine W 2 Z (AS Z (AO.aP (l:=a1.aO) Z Z Z Z dX Z (ah.aB _) (J 1 Z (Gh (fun x2=>[(3,.ref (aK b1)),(13,.list (ah.aU a1.aO)),(14,iP (a1.aO.length:Int)),(15,iP x2)]) (fun x2=>[]) (fun bT x2=>qX a1 b1 bT x2=some rX) BIG 0 Z Z hf (fun _ hz=>bQ hz) ?_)))); intro bT x2 hf; rw [qX] at hf; refine V 1 Z (C hf Z (fun h3 hf=>?_) fun h3 hf=>?_)
  ·
   refine B1 hf fun e1 h4 hf=>W 0 Z (AS Z (AO.aI h4 Z Z (ah.aB _) Z dX (ah.aD _) Z (U 1 Z (AS Z (AO.aF Z gq (fun b6=>?_)))))); refine B1 hf fun x3 h5 hf=>Rr 3 [0,0] Z Z (CL Z (Jl _ _ h5 (J 0 Z (C hf Z (fun h6 hf=>?_) fun h6 hf=>?_))))
   · cases hf; exact M 1 Z (Y Z h)
   refine Wn0 2 Z (AR.drop1 ?_); exact N 0 Z ⟨(bZ (x2 + 1)),Z,Z,Z,hf⟩
  cases hf; exact M 1 Z (Y Z h)
 refine B1 hf fun x4 h7 hf=>W 2 Z (CL Z (vk _ _ _ h7 (J 1 Z (C hf Z (fun h8 hf=>?_) fun h8 hf=>?_))))
 · refine B1 hf fun x5 h9 hf=>W 4 Z (CL Z (P7 _ _ h9 ?_)); cases hf; exact N 1 Z (Y Z h)
 refine B1 hf fun x6 h10 hf=>W 1 Z (CL Z (mI _ _ h10 ?_)); refine B1 hf fun b2 h12 hf=>U 1 Z (AR.dB 3 34 37 true [2,3] b2 Z Z (fun h11=>?_) (fun h11=>?_) ?_)
 · refine IT 34 h11 h12 Z fun h12=>?_; refine BR h12 fun x7 jJ h12=>?_; refine U 1 Z (GO Z (AO.call Z _ Z Z R8 (mI _ _ jJ ?_))); cases h12; exact eG 1 Z (En [37,2,3] Z)
 · refine IF 34 h11 h12 Z fun h12=>?_; cases h12; exact eG 3 Z (En [37,2,3] Z)
 rcases bS hf with ⟨e2,j5,hf⟩ | ⟨_,j5,hf⟩
 · refine CL Z (bP _ _ j5 ?_); cases hf; exact ⟨Z,[],List.nil_sublist _,h⟩
 refine CL Z (bP _ _ j5 ?_); obtain ⟨x8,ok1,mo,hf⟩:=aV hf; refine U 3 Z (CL Z (TG _ _ mo (U 3 Z (AS Z (AO.aF Z gq (fun b7=>?_)))))); cases hf; exact Rx 4 [0] Z Z (Y Z h)
end

theorem lI (b1:Bool) {r0:ah} (hf:gK b1=some r0) (h:Q (.ret (.agg (aK r0))) τ):PC 181 [.bool b1] τ Q:=by
 unfold gK at hf; refine BN 5 [.cell 2 31] [0] Tryz.func181 Z Z Z Z Z (W 0 Z (AS Z (AO.aF Z gq (fun b2=>?_)))); cases hf; exact Rx 3 [0] Z Z (ZC [0] Z Z h)

section
variable [FR]
@[reducible] def XH :fO aM ah→eT
 | .ok r=>.ret (.agg (aK r))
 | .bad e=>.panic (.iface 111 (.agg [iP e.code]))

theorem O5 (a1:ah) (b1:ah) {rX:fO aM ah} (hf:EA a1 b1=some rX) (h:Q (XH rX) τ):PC 236 [.agg (aK a1),.agg (aK b1)] τ Q:=by
 unfold EA at hf; refine BN 54 [.cell 4 31] [0,1] Tryz.func236 Z Z Z Z Z (W 2 Z (AS Z (AO.aF Z gq (fun b4=>?_)))); refine B1 hf fun x1 h1 hf=>U 1 Z (CL Z (mI _ _ h1 ?_)); refine B1 hf fun b2 h3 hf=>U 1 Z (AR.dB 3 11 14 true [2,3,4] b2 Z Z (fun h2=>?_) (fun h2=>?_) ?_)
 · refine IT 11 h2 h3 Z fun h3=>?_; refine BR h3 fun x2 h4 h3=>?_; refine U 1 Z (GO Z (AO.call Z _ Z Z R8 (mI _ _ h4 ?_))); cases h3; exact eG 1 Z (En [14,2,3,4] Z)
 · refine IF 11 h2 h3 Z fun h3=>?_; cases h3; exact eG 3 Z (En [14,2,3,4] Z)
 rcases bS hf with ⟨e1,h5,hf⟩ | ⟨_,h5,hf⟩
 · refine CL Z (bP _ _ h5 ?_); cases hf; exact ⟨Z,[],List.nil_sublist _,h⟩
 refine CL Z (bP _ _ h5 (U 4 Z (AS Z (AO.aP (l:=a1.aO) Z Z Z Z dX Z (ah.aB _) ?_))))
 refine J 1 Z (AW.row 1 9 (LK4 (fun n1 l1 v1 x3=>[(3,.ref (aK b1)),(4,pP b4),(5,iP n1),(6,.own v1 (List.map qC l1)),(17,.list (ah.aU a1.aO)),(18,iP (a1.aO.length:Int)),(19,iP x3)]) (fun n1 l1 v1 x3=>[.row v1 (List.map qC l1).length 1 9,.box b4 [iP 0,.bool false,iP 0,.str ([]:Str),.own (.slice none 0 0) [],.own (.slice none 0 0) []]]) (fun bT n1 l1 v1 x3=>xS a1 b1 bT n1 l1 x3=some rX) BIG 0 [] (.slice none 0 0) 0 Z Z hf (fun _ _ _ _ hz=>bQ hz) ?_)); intro bT n1 l1 v1 x3 hf; rw [xS] at hf
 refine V 1 Z (C hf Z (fun h6 hf=>?_) fun h6 hf=>?_)
 ·
  refine B1 hf fun e2 h7 hf=>W 0 Z (AS Z (AO.aI h7 Z Z (ah.aB _) Z dX (ah.aD _) Z (U 1 Z (AS Z (AO.aF Z gq (fun b8=>?_)))))); refine B1 hf fun x4 h8 hf=>Rr 2 [0,0] Z Z (CL Z (mI _ _ h8 ?_)); rcases bS hf with ⟨e3,h9,hf⟩ | ⟨_,h9,hf⟩
  · refine CL Z (bP _ _ h9 ?_); cases hf; exact ⟨Z,[],List.nil_sublist _,h⟩
  refine CL Z (bP _ _ h9 (Rr 3 [0] Z Z (AS Z (AO.aS (List.map qC ([e2.bR]:List Str)) Z u6 Z Z Z Z ?_)))); refine B1 hf fun l2 h10 hf=>AS Z (AO.fK (i:=1) (l:=l1) (m:=([e2.bR]:List Str)) h10 Z Z Z Z Z Z Z u6 f_ Z Z Z (fun _=>Z) (fun _=>Z) (by decide) (fun v2 s1 hs1=>?_)); cases hs1; refine Rr 4 [0] Z Z (AS Z (AO.b_ Z Z Z Z dM Z (eG 4 Z (AR.drop1 ?_)))); exact N 0 Z ⟨(bZ (n1 + (e2.bR.length:Int))),l2,v2,(bZ (x3 + 1)),Z,Z,Z,hf⟩
 refine W 3 Z (AS Z (AO.b_ Z Z Z Z dM Z (U 1 Z (AS Z (AO.aP (l:=l1) Z Z Z Z f_ Z Z (U 1 Z (AS Z (AO.max2 Z Z Z Z Z ?_)))))))); rcases bS hf with ⟨e4,h11,hf⟩ | ⟨_,h11,hf⟩
 · refine U 3 Z (CL Z (bP _ _ h11 ?_)); cases hf; exact ⟨Z,[],List.nil_sublist _,h⟩
 refine U 3 Z (CL Z (bP _ _ h11 ?_)); refine B1 hf fun x5 h12 hf=>U 3 Z (CL Z (Hy _ _ h12 ?_)); refine B1 hf fun x6 jJ hf=>CL Z (xZ _ jJ ?_); cases hf; exact Rx 1 [1] Z Z (ZC [1] Z Z h)
end

theorem Ii (s1:Str) (BH:Str) {r0:Bool} (hf:uM s1 BH=some r0) (h:Q (.ret (.bool r0)) τ):PC 266 [.str s1,.str BH] τ Q:=by
 unfold uM at hf; refine BN 18 [.tmp 4] [0,1] Tryz.func266 Z Z Z Z Z (W 2 Z (AS Z (AO.b_ Z Z Z Z dM Z (U 1 Z (AS Z (AO.b_ Z Z Z Z dM Z ?_)))))); refine BR hf fun b1 h2 hf=>?_; refine U 2 Z (AR.dB 7 10 17 true [] b1 Z Z (fun h1=>?_) (fun h1=>?_) ?_)
 · replace h2:=cO h1 h2; refine Is 10 h1 Z (U 2 Z (GO Z (AO.b_ Z Z Z Z dM Z ?_))); refine B1 h2 fun x1 h3 h2=>GO Z (AO.r_ h3 Z dM Z Z ⟨_,Z⟩ ?_); cases h2; exact eG 3 Z (En [17] Z)
 · refine IF 10 h1 h2 Z fun h2=>?_; cases h2; exact eG 7 Z (En [17] Z)
 cases hf; exact N 1 Z (Y Z h)

theorem OG (s1:Str) (BH:Str) {r0:Bool} (hf:strings_HasPrefix s1 BH=some r0) (h:Q (.ret (.bool r0)) τ):PC 238 [.str s1,.str BH] τ Q:=by
 unfold strings_HasPrefix at hf; refine BN 8 [.tmp 4] [0,1] Tryz.func238 Z Z Z Z Z ?_; refine BR hf fun x1 h1 hf=>?_; refine W 3 Z (CL Z (Ii _ _ h1 ?_)); cases hf; exact N 1 Z (Y Z h)

theorem Ih (s1:Str) (Bj:Str) {r0:Bool} (hf:uL s1 Bj=some r0) (h:Q (.ret (.bool r0)) τ):PC 267 [.str s1,.str Bj] τ Q:=by
 unfold uL at hf; refine BN 21 [.tmp 4] [0,1] Tryz.func267 Z Z Z Z Z (W 2 Z (AS Z (AO.b_ Z Z Z Z dM Z (U 1 Z (AS Z (AO.b_ Z Z Z Z dM Z ?_)))))); refine BR hf fun b1 h2 hf=>?_; refine U 2 Z (AR.dB 10 10 20 true [] b1 Z Z (fun h1=>?_) (fun h1=>?_) ?_)
 · replace h2:=cO h1 h2; refine Is 10 h1 Z (U 2 Z (GO Z (AO.b_ Z Z Z Z dM Z (U 1 Z (GO Z (AO.b_ Z Z Z Z dM Z ?_)))))); refine B1 h2 fun x1 h3 h2=>U 1 Z (GO Z (AO.r_ h3 Z dM Z ⟨_,Z⟩ Z ?_)); cases h2; exact eG 3 Z (En [20] Z)
 · refine IF 10 h1 h2 Z fun h2=>?_; cases h2; exact eG 10 Z (En [20] Z)
 cases hf; exact N 1 Z (Y Z h)

theorem OE (s1:Str) (Bj:Str) {r0:Bool} (hf:strings_HasSuffix s1 Bj=some r0) (h:Q (.ret (.bool r0)) τ):PC 239 [.str s1,.str Bj] τ Q:=by
 unfold strings_HasSuffix at hf; refine BN 8 [.tmp 4] [0,1] Tryz.func239 Z Z Z Z Z ?_; refine BR hf fun x1 h1 hf=>?_; refine W 3 Z (CL Z (Ih _ _ h1 ?_)); cases hf; exact N 1 Z (Y Z h)

section
variable [FR]
def aen :Go.Shelf.Ren:=⟨fun | 146=>240 | 221=>268 | 268=>302 | 138=>303 | 143=>299 | 195=>339 | 197=>340 | 218=>341 | 219=>337 | 260=>363 | 217=>358 | 225=>359 | 224=>360 | 267=>361 | 266=>373 | 314=>374 | n=>n,fun | 9=>9 | 31=>29 | 3=>3 | 4=>4 | 0=>0 | 105=>283 | 21=>21 | 5=>5 | 46=>247 | 119=>322 | 139=>325 | 138=>324 | 146=>320 | 51=>268 | n=>n,fun | 1=>2 | 3=>4 | 4=>5 | n=>n⟩
theorem anu :Go.Proofs.Lays.n146 Tryz.prog aen:={
 mixed:=by kernel_rfl
 f138:=Tryz.func303.trans (congrArg some (by kernel_rfl))
 f143:=Tryz.func299.trans (congrArg some (by kernel_rfl))
 f146:=Tryz.func240.trans (congrArg some (by kernel_rfl))
 f195:=Tryz.func339.trans (congrArg some (by kernel_rfl))
 f197:=Tryz.func340.trans (congrArg some (by kernel_rfl))
 f217:=Tryz.func358.trans (congrArg some (by kernel_rfl))
 f218:=Tryz.func341.trans (congrArg some (by kernel_rfl))
 f219:=Tryz.func337.trans (congrArg some (by kernel_rfl))
 f221:=Tryz.func268.trans (congrArg some (by kernel_rfl))
 f224:=Tryz.func360.trans (congrArg some (by kernel_rfl))
 f225:=Tryz.func359.trans (congrArg some (by kernel_rfl))
 f260:=Tryz.func363.trans (congrArg some (by kernel_rfl))
 f266:=Tryz.func373.trans (congrArg some (by kernel_rfl))
 f267:=Tryz.func361.trans (congrArg some (by kernel_rfl))
 f268:=Tryz.func302.trans (congrArg some (by kernel_rfl))
 f314:=Tryz.func374.trans (congrArg some (by kernel_rfl))
 t0:=Tryz.underlying0
 a0:=Tryz.isAgg0
 z0:=Tryz.sizeOf0
 v0:=Tryz.zeroValue0
 t3:=Tryz.underlying3
 a3:=Tryz.isAgg3
 z3:=Tryz.sizeOf3
 v3:=Tryz.zeroValue3
 t4:=Tryz.underlying4
 a4:=Tryz.isAgg4
 z4:=Tryz.sizeOf4
 v4:=Tryz.zeroValue4
 t5:=Tryz.underlying5
 a5:=Tryz.isAgg5
 z5:=Tryz.sizeOf5
 v5:=Tryz.zeroValue5
 t9:=Tryz.underlying9
 a9:=Tryz.isAgg9
 z9:=Tryz.sizeOf9
 v9:=Tryz.zeroValue9
 t21:=Tryz.underlying21
 a21:=Tryz.isAgg21
 z21:=Tryz.sizeOf21
 v21:=Tryz.zeroValue21
 t31:=Tryz.underlying29
 a31:=Tryz.isAgg29
 z31:=Tryz.sizeOf29
 v31:=Tryz.zeroValue29
 t46:=Tryz.underlying247
 a46:=Tryz.isAgg247
 z46:=Tryz.sizeOf247
 v46:=Tryz.zeroValue247
 t51:=Tryz.underlying268
 a51:=Tryz.isAgg268
 z51:=Tryz.sizeOf268
 v51:=Tryz.zeroValue268
 t105:=Tryz.underlying283
 a105:=Tryz.isAgg283
 z105:=Tryz.sizeOf283
 v105:=Tryz.zeroValue283
 t119:=Tryz.underlying322
 a119:=Tryz.isAgg322
 z119:=Tryz.sizeOf322
 t138:=Tryz.underlying324
 a138:=Tryz.isAgg324
 z138:=Tryz.sizeOf324
 v138:=Tryz.zeroValue324
 t139:=Tryz.underlying325
 a139:=Tryz.isAgg325
 z139:=Tryz.sizeOf325
 v139:=Tryz.zeroValue325
 t146:=Tryz.underlying320
 a146:=Tryz.isAgg320
 z146:=Tryz.sizeOf320
 v146:=Tryz.zeroValue320
 g1:=by kernel_rfl
 g3:=by kernel_rfl
 g4:=by kernel_rfl}


theorem Uu (s1:Str) (t1:Str) {r0:List Str} (hf:strings_Split s1 t1=some r0) (h:Q (.ret (sP r0)) τ):PC 240 [.str s1,.str t1] τ Q:=by
 unfold strings_Split at hf
 split at hf
 case isFalse=>cases hf
 rename_i hg
 cases hf
 refine AC.none ?_
 exact AC.split anu (by kernel_rfl) hg.1 hg.2 FR.max h
end

section
variable [FR]
@[reducible] def ad7 :fO aM ah→eT
 | .ok r=>.ret (.agg (aK r))
 | .bad e=>.panic (.iface 111 (.agg [iP e.code]))

theorem Xl (name1:Str) (a1:ah) (b1:ah) {rX:fO aM ah} (hf:Ng name1 a1 b1=some rX) (h:Q (ad7 rX) τ):PC 180 [.str name1,.agg (aK a1),.agg (aK b1)] τ Q:=by
 unfold Ng at hf; refine BN 62 [.cell 6 31] [0,1,2] Tryz.func180 Z Z Z Z Z (W 2 Z (AS Z (AO.aF Z gq (fun b6=>(J 3 Z (C hf Z (fun h1 hf=>?_) fun h1 hf=>?_))))))
 ·
  refine B1 hf fun x1 h2 hf=>W 1 Z (CL Z (mI _ _ h2 (J 0 Z (C hf Z (fun h3 hf=>?_) fun h3 hf=>?_))))
  · cases hf; exact Wx 2 [0] Z Z (ZC [0] Z Z h)
  cases hf; exact Wx 2 [0] Z Z (ZC [0] Z Z h)
 refine V 2 Z (C hf Z (fun h4 hf=>?_) fun h4 hf=>?_)
 ·
  rcases bS hf with ⟨e1,h5,hf⟩ | ⟨x2,h5,hf⟩
  · refine W 2 Z (CL Z (LB _ _ h5 ?_)); cases hf; exact ⟨Z,[],List.nil_sublist _,h⟩
  refine W 2 Z (CL Z (LB _ _ h5 ?_)); refine B1 hf fun x3 h6 hf=>CL Z (lI _ h6 ?_); cases hf; exact Rx 1 [0] Z Z (ZC [0] Z Z h)
 refine V 2 Z (C hf Z (fun h7 hf=>?_) fun h7 hf=>?_)
 ·
  rcases bS hf with ⟨e2,h8,hf⟩ | ⟨x4,h8,hf⟩
  · refine W 2 Z (CL Z (O5 _ _ h8 ?_)); cases hf; exact ⟨Z,[],List.nil_sublist _,h⟩
  refine W 2 Z (CL Z (O5 _ _ h8 ?_)); cases hf; exact Rx 1 [0] Z Z (ZC [0] Z Z h)
 refine B1 hf fun x5 h9 hf=>W 2 Z (CL Z (vk _ _ _ h9 ?_)); rcases bS hf with ⟨e3,h10,hf⟩ | ⟨_,h10,hf⟩
 · refine CL Z (bP _ _ h10 ?_); cases hf; exact ⟨Z,[],List.nil_sublist _,h⟩
 refine CL Z (bP _ _ h10 (J 3 Z (C hf Z (fun h11 hf=>?_) fun h11 hf=>?_)))
 · refine B1 hf fun x6 h12 hf=>W 4 Z (CL Z (OG _ _ h12 ?_)); refine B1 hf fun x7 jJ hf=>CL Z (lI _ jJ ?_); cases hf; exact Rx 1 [0] Z Z (ZC [0] Z Z h)
 refine V 2 Z (C hf Z (fun j5 hf=>?_) fun j5 hf=>?_)
 · refine B1 hf fun x8 mo hf=>W 4 Z (CL Z (OE _ _ mo ?_)); refine B1 hf fun x9 h16 hf=>CL Z (lI _ h16 ?_); cases hf; exact Rx 1 [0] Z Z (ZC [0] Z Z h)
 rcases bS hf with ⟨e4,qB,hf⟩ | ⟨_,qB,hf⟩
 · refine W 3 Z (CL Z (bP _ _ qB ?_)); cases hf; exact ⟨Z,[],List.nil_sublist _,h⟩
 refine W 3 Z (CL Z (bP _ _ qB ?_)); refine B1 hf fun l1 h18 hf=>U 4 Z (CL Z (Uu _ _ h18 (U 2 Z (AS Z (AO.aP (l:=l1) Z Z Z Z f_ Z Z ?_))))); rcases bS hf with ⟨e5,h19,hf⟩ | ⟨_,h19,hf⟩
 · refine U 1 Z (CL Z (bP _ _ h19 ?_)); cases hf; exact ⟨Z,[],List.nil_sublist _,h⟩
 refine U 1 Z (CL Z (bP _ _ h19 ?_)); refine B1 hf fun wS h20 hf=>U 1 Z (CL Z (TR _ h20 ?_)); cases hf; exact Rx 1 [0] Z Z (ZC [0] Z Z h)
end

@[reducible] def Z0 :fO aM Bool→eT
 | .ok r=>.ret (.bool r)
 | .bad e=>.panic (.iface 111 (.agg [iP e.code]))

theorem tK (v1:ah) {rX:fO aM Bool} (hf:xQ v1=some rX) (h:Q (Z0 rX) τ):PC 122 [.agg (aK v1)] τ Q:=by
 unfold xQ at hf; refine BN 8 [.tmp 2] [0] Tryz.func122 Z Z Z Z Z ?_; refine B1 hf fun x1 h1 hf=>W 3 Z (CL Z (mI _ _ h1 ?_)); rcases bS hf with ⟨e1,h2,hf⟩ | ⟨_,h2,hf⟩
 · refine CL Z (bP _ _ h2 ?_); cases hf; exact ⟨Z,[],List.nil_sublist _,h⟩
 refine CL Z (bP _ _ h2 ?_); cases hf; exact N 3 Z (Y Z h)

@[reducible] def ZY :fO aM ah→eT
 | .ok r=>.ret (.agg (aK r))
 | .bad e=>.panic (.iface 111 (.agg [iP e.code]))

theorem Rz (op1:Str) (v1:ah) {rX:fO aM ah} (hf:He op1 v1=some rX) (h:Q (ZY rX) τ):PC 120 [.str op1,.agg (aK v1)] τ Q:=by
 unfold He at hf; refine BN 18 [.cell 4 31] [0,1] Tryz.func120 Z Z Z Z Z (W 1 Z (AS Z (AO.aF Z gq (fun b4=>(J 2 Z (C hf Z (fun h1 hf=>?_) fun h1 hf=>?_))))))
 ·
  rcases bS hf with ⟨e1,h2,hf⟩ | ⟨x1,h2,hf⟩
  · refine W 1 Z (CL Z (tK _ h2 ?_)); cases hf; exact ⟨Z,[],List.nil_sublist _,h⟩
  refine W 1 Z (CL Z (tK _ h2 ?_)); refine B1 hf fun x2 h3 hf=>U 1 Z (CL Z (lI _ h3 ?_)); cases hf; exact Rx 1 [0] Z Z (ZC [0] Z Z h)
 refine B1 hf fun x3 h4 hf=>W 1 Z (CL Z (mI _ _ h4 ?_)); rcases bS hf with ⟨e2,h5,hf⟩ | ⟨_,h5,hf⟩
 · refine CL Z (bP _ _ h5 ?_); cases hf; exact ⟨Z,[],List.nil_sublist _,h⟩
 refine CL Z (bP _ _ h5 ?_); refine B1 hf fun x4 h6 hf=>U 3 Z (CL Z (yc _ h6 ?_)); cases hf; exact Rx 1 [0] Z Z (ZC [0] Z Z h)

@[reducible] def Z4 :fO aM Int→eT
 | .ok r=>.ret (iP r)
 | .bad e=>.panic (.iface 111 (.agg [iP e.code]))

theorem tL (a1:ah) (b1:ah) {rX:fO aM Int} (hf:qm a1 b1=some rX) (h:Q (Z4 rX) τ):PC 184 [.agg (aK a1),.agg (aK b1)] τ Q:=by
 unfold qm at hf; refine BN 17 [.tmp 4] [0,1] Tryz.func184 Z Z Z Z Z ?_; refine B1 hf fun x1 h1 hf=>W 5 Z (CL Z (vk _ _ _ h1 ?_)); refine B1 hf fun b2 h3 hf=>U 1 Z (AR.dB 4 8 12 false [2,3] b2 Z Z (fun h2=>?_) (fun h2=>?_) ?_)
 · refine IF 8 h2 h3 Z fun h3=>?_; refine BR h3 fun x2 h4 h3=>?_; refine U 2 Z (GO Z (AO.call Z _ Z Z anN (vk _ _ _ h4 ?_))); cases h3; exact eG 1 Z (En [12,2,3] Z)
 · refine IT 8 h2 h3 Z fun h3=>?_; cases h3; exact eG 4 Z (En [12,2,3] Z)
 rcases bS hf with ⟨e1,h5,hf⟩ | ⟨_,h5,hf⟩
 · refine CL Z (bP _ _ h5 ?_); cases hf; exact ⟨Z,[],List.nil_sublist _,h⟩
 refine CL Z (bP _ _ h5 ?_); refine B1 hf fun x3 h6 hf=>U 2 Z (CL Z (Lx _ _ h6 ?_)); cases hf; exact N 1 Z (Y Z h)

@[reducible] def XG :fO aM ah→eT
 | .ok r=>.ret (.agg (aK r))
 | .bad e=>.panic (.iface 111 (.agg [iP e.code]))

theorem qR (n1:Int) {rX:fO aM ah} (hf:vg n1=some rX) (h:Q (XG rX) τ):PC 242 [iP n1] τ Q:=by
 unfold vg at hf; refine BN 12 [.cell 2 31] [0] Tryz.func242 Z Z Z Z Z (W 0 Z (AS Z (AO.aF Z gq (fun b2=>(U 3 Z (An 3 5 8 [0,2] (decide (n1≤9007199254740992)) Z Z Z Z ?_)))))); rcases bS hf with ⟨e1,h2,hf⟩ | ⟨_,h2,hf⟩
 · refine CL Z (bP _ _ h2 ?_); cases hf; exact ⟨Z,[],List.nil_sublist _,h⟩
 refine CL Z (bP _ _ h2 ?_); refine B1 hf fun x1 h3 hf=>U 1 Z (CL Z (yc _ h3 ?_)); cases hf; exact Rx 1 [0] Z Z (ZC [0] Z Z h)

@[reducible] def ad8 :fO aM ah→eT
 | .ok r=>.ret (.agg (aK r))
 | .bad e=>.panic (.iface 111 (.agg [iP e.code]))

theorem Xm (a1:ah) (b1:ah) {rX:fO aM ah} (hf:JZ a1 b1=some rX) (h:Q (ad8 rX) τ):PC 185 [.agg (aK a1),.agg (aK b1)] τ Q:=by
 unfold JZ at hf; refine BN 57 [.cell 4 31] [0,1] Tryz.func185 Z Z Z Z Z (W 2 Z (AS Z (AO.aF Z gq (fun b4=>?_)))); refine B1 hf fun x1 h1 hf=>U 2 Z (CL Z (vk _ _ _ h1 (J 1 Z (C hf Z (fun h2 hf=>?_) fun h2 hf=>?_))))
 ·
  rcases bS hf with ⟨e1,h3,hf⟩ | ⟨x2,h3,hf⟩
  · refine W 5 Z (CL Z (qR _ h3 ?_)); cases hf; exact ⟨Z,[],List.nil_sublist _,h⟩
  refine W 5 Z (CL Z (qR _ h3 ?_)); cases hf; exact Rx 1 [0] Z Z (ZC [0] Z Z h)
 refine B1 hf fun x3 h4 hf=>W 2 Z (CL Z (vk _ _ _ h4 (J 1 Z (C hf Z (fun h5 hf=>?_) fun h5 hf=>?_))))
 ·
  refine W 2 Z (AS Z (AO.b_ Z Z Z Z dM Z (U 2 Z (AS Z (AO.b_ Z Z Z Z dM Z ?_))))); rcases bS hf with ⟨e2,h6,hf⟩ | ⟨_,h6,hf⟩
  · refine U 2 Z (CL Z (bP _ _ h6 ?_)); cases hf; exact ⟨Z,[],List.nil_sublist _,h⟩
  refine U 2 Z (CL Z (bP _ _ h6 ?_)); refine B1 hf fun x4 h7 hf=>U 4 Z (AS Z (AO.zF h7 Z Z Z ?_)); refine B1 hf fun x5 h8 hf=>CL Z (xZ _ h8 ?_); cases hf; exact Rx 1 [0] Z Z (ZC [0] Z Z h)
 refine B1 hf fun x6 h9 hf=>W 2 Z (CL Z (vk _ _ _ h9 ?_)); rcases bS hf with ⟨e3,h10,hf⟩ | ⟨_,h10,hf⟩
 · refine CL Z (bP _ _ h10 ?_); cases hf; exact ⟨Z,[],List.nil_sublist _,h⟩
 refine CL Z (bP _ _ h10 (U 2 Z (AS Z (AO.aP (l:=a1.aO) Z Z Z Z dX Z (ah.aB _) (U 2 Z (AS Z (AO.aP (l:=b1.aO) Z Z Z Z dX Z (ah.aB _) ?_))))))); rcases bS hf with ⟨e4,h11,hf⟩ | ⟨_,h11,hf⟩
 · refine U 2 Z (CL Z (bP _ _ h11 ?_)); cases hf; exact ⟨Z,[],List.nil_sublist _,h⟩
 refine U 2 Z (CL Z (bP _ _ h11 (U 4 Z (AR.row 6 31 ?_)))); refine B1 hf fun l1 h12 hf=>AS Z (AO.fK (i:=0) (l:=[]) (m:=a1.aO) h12 Z Z Z Z Z Z Z qM dX (show ([]:List (List PV))=List.map ah.cells [] from Z) (ah.aB _) (ah.aB _).symm (ah.dD) (ah.cells_one) (by decide) (fun v1 s1 hs1=>?_)); cases hs1; refine B1 hf fun x7 jJ hf=>U 4 Z (AS Z (AO.fK (i:=0) (l:=l1) (m:=b1.aO) jJ Z Z Z Z Z Z Z qM dX (ah.aB _) (ah.aB _) (ah.aB _).symm (ah.dD) (ah.cells_one) (by decide) (fun v2 s2 hs2=>?_)))
 cases hs2; refine B1 hf fun x8 j5 hf=>CL Z (RA _ j5 ?_); cases hf; exact Rx 1 [1] Z Z (ZC [1] Z Z h)

theorem Xg (n1:Int) {r0:BitVec 64} (hf:M4 n1=some r0) (h:Q (.ret (.int .u64 (r0.toNat:Int))) τ):PC 306 [iP n1] τ Q:=by
 unfold M4 at hf; refine BN 10 [.tmp 2] [0] Tryz.func306 Z Z Z Z Z (V 3 Z (C hf Z (fun h1 hf=>?_) fun h1 hf=>?_))
 · refine W 1 Z (AS Z (AO.aah Z Ib Kl Z (AS Z (AO.u64_neg (BitVec.ofInt 64 n1) Z Z Z ?_)))); cases hf; exact N 1 Z (Y Z h)
 refine W 1 Z (AS Z (AO.aah Z Ib Kl Z ?_)); cases hf; exact N 1 Z (Y Z h)

theorem Xh (a1:Int) (b1:Int) {r0:j_} (hf:Fw a1 b1=some r0) (h:Q (.ret (.agg (TA r0))) τ):PC 274 [iP a1,iP b1] τ Q:=by
 unfold Fw at hf; refine BN 71 [.cell 4 240] [0,1] Tryz.func274 Z Z Z Z Z (W 0 Z (AS Z (AO.aF Z ad5 (fun b4=>?_)))); refine B1 hf fun x1 h1 hf=>U 1 Z (CL Z (Xg _ h1 ?_)); refine B1 hf fun y1 h2 hf=>U 1 Z (CL Z (Xg _ h2 (U 3 Z (AS Z (AO.Qr x1 32 Z Z Z Z Z (U 1 Z (AS Z (AO.u64_and x1 (4294967295:BitVec 64) Z Z Z Z Z (U 1 Z (AS Z (AO.Qr y1 32 Z Z Z Z Z ?_))))))))))); refine U 1 Z (AS Z (AO.u64_and y1 (4294967295:BitVec 64) Z Z Z Z Z ?_))
 refine B1 hf fun ET h3 hf=>U 6 Z (AS Z (AO.Eb (x1 &&& (4294967295:BitVec 64)) (y1 &&& (4294967295:BitVec 64)) h3 Z Z Z Z Z ?_)); refine B1 hf fun x2 h4 hf=>U 3 Z (AS Z (AO.Eb (x1 >>> 32) (y1 &&& (4294967295:BitVec 64)) h4 Z Z Z Z Z (U 1 Z (AS Z (AO.Qr ET 32 Z Z Z Z Z (AS Z (AO.Il x2 (ET >>> 32) Z Z Z Z Z ?_))))))); refine B1 hf fun x3 h5 hf=>U 3 Z (AS Z (AO.Eb (x1 &&& (4294967295:BitVec 64)) (y1 >>> 32) h5 Z Z Z Z Z ?_)); refine B1 hf fun x4 h6 hf=>?_
 refine U 1 Z (AS Z (AO.aiy (x2 + (ET >>> 32)) (4294967295:BitVec 64) h6 Z Z Z Z Z (AS Z (AO.Il x3 x4 Z Z Z Z Z (U 3 Z (AS Z (AO.afM (x1 >>> 32) (y1 >>> 32) Z Z Z Z Z (U 1 Z (AS Z (AO.Qr (x2 + (ET >>> 32)) 32 Z Z Z Z Z ?_)))))))))); refine B1 hf fun x5 h7 hf=>AS Z (AO.Vg ((x1 >>> 32) * (y1 >>> 32)) ((x2 + (ET >>> 32)) >>> 32) h7 Z Z Z Z Z (U 1 Z (AS Z (AO.Qr (x3 + x4) 32 Z Z Z Z Z (AS Z (AO.Il x5 ((x3 + x4) >>> 32) Z Z Z Z Z (U 1 Z (AS Z (AO.ak9 (x3 + x4) 32 Z Z Z Z Z ?_)))))))))
 refine U 1 Z (AS Z (AO.u64_and ET (4294967295:BitVec 64) Z Z Z Z Z ?_)); refine B1 hf fun x6 h8 hf=>AS Z (AO.ak_ ((x3 + x4) <<< 32) (ET &&& (4294967295:BitVec 64)) h8 Z Z Z Z Z (AS Z (AO.Ta Z aic Qg Z (U 1 Z (AS Z (AO.aF Z ad5 (fun b14=>(Rr 5 [0] Z Z (AS Z (AO.RD Z XQ Z Z ?_)))))))))); refine U 1 Z (AR.and 5 63 68 [4,14] (x:=(!decide (([((x5 + ((x3 + x4) >>> 32)).toNat:Int),(x6.toNat:Int)]:List Int)=([0,0]:List Int)))) Z Z (fun h9=>?_) (fun h9=>?_) ?_)
 · refine Is 63 h9 Z (U 1 Z (GO Z (AO.aY (i:=0) Z Z Z anq Z Z (GO Z (AO.Ta Z aic Qg Z (GO Z (AO.ajI ([((x5 + ((x3 + x4) >>> 32)).toNat:Int),(x6.toNat:Int)]:List Int) ([0,0]:List Int) Z anm Kl aoM aoL aoH Z Z Z Z Z Z (afH [(x5 + ((x3 + x4) >>> 32)),x6]) (afH [(0:BitVec 64),(0:BitVec 64)]) ?_))))))); exact eG 1 Z (En [68,4,14] Z)
 · refine Is 63 h9 Z ?_; exact eG 5 Z (En [68,4,14] Z)
 cases hf; exact Rx 4 [0,0,1] Z Z (ZC [1] Z Z h)

theorem NH (p1:j_) {r0:Int} {r1:Bool} (hf:vE p1=some (r0,r1)) (h:Q (.ret (.tuple [iP r0,.bool r1])) τ):PC 275 [.agg (TA p1)] τ Q:=by
 unfold vE at hf; refine BN 37 [.tmp 2,.tmp 3] [0] Tryz.func275 Z Z Z Z Z (W 4 Z (AS Z (AO.xM (sz:=1) 0 Z Qg Z Z (by decide) Z ?_))); refine J 3 Z (C hf Z (fun h1 hf=>?_) fun h1 hf=>?_)
 · cases hf; exact M 2 Z (Y Z h)
 refine W 3 Z (AR.and 5 12 17 [1] (x:=(decide (((p1.half.getD 1 0).toNat:Int)≤9223372036854775808))) Z Z (fun h2=>?_) (fun h2=>?_) ?_)
 · refine Is 12 h2 Z (U 1 Z (GO Z (AO.xM (sz:=1) 1 Z Qg Z Z (by decide) Z ?_))); exact eG 3 Z (En [17,1] Z)
 · refine Is 12 h2 Z ?_; exact eG 5 Z (En [17,1] Z)
 refine J 1 Z (C hf Z (fun h3 hf=>?_) fun h3 hf=>?_)
 · refine W 1 Z (AS Z (AO.xM (sz:=1) 1 Z Qg Z Z (by decide) Z ?_)); refine U 1 Z (AS Z (AO.u64_neg (p1.half.getD 1 0) Z Z Z (AS Z (AO.Hr Z Kl Ib Z ?_)))); cases hf; exact N 2 Z (Y Z h)
 refine W 4 Z (AR.and 5 27 32 [1] (x:=(decide (((p1.half.getD 1 0).toNat:Int)≤9223372036854775807))) Z Z (fun h4=>?_) (fun h4=>?_) ?_)
 · refine Is 27 h4 Z (U 1 Z (GO Z (AO.xM (sz:=1) 1 Z Qg Z Z (by decide) Z ?_))); exact eG 3 Z (En [32,1] Z)
 · refine Is 27 h4 Z ?_; exact eG 5 Z (En [32,1] Z)
 refine J 1 Z (C hf Z (fun h5 hf=>?_) fun h5 hf=>?_)
 · refine W 1 Z (AS Z (AO.xM (sz:=1) 1 Z Qg Z Z (by decide) Z ?_)); refine U 1 Z (AS Z (AO.Hr Z Kl Ib Z ?_)); cases hf; exact N 2 Z (Y Z h)
 cases hf; exact M 2 Z (Y Z h)

theorem ahV (alS:Bool) {r0:Int} (hf:aaE alS=some r0) (h:Q (.ret (iP r0)) τ):PC 276 [.bool alS] τ Q:=by
 unfold aaE at hf; refine BN 4 [.tmp 2] [0] Tryz.func276 Z Z Z Z Z (V 2 Z (C hf Z (fun h1 hf=>?_) fun h1 hf=>?_))
 · cases hf; exact M 1 Z (Y Z h)
 cases hf; exact M 1 Z (Y Z h)

theorem ahW (a1:Int) (b1:Int) {r0:Int} (hf:QS a1 b1=some r0) (h:Q (.ret (iP r0)) τ):PC 243 [iP a1,iP b1] τ Q:=by
 unfold QS at hf; refine BN 21 [.tmp 4] [0,1] Tryz.func243 Z Z Z Z Z ?_; refine B1 hf fun x1 h1 hf=>W 3 Z (CL Z (Xh _ _ h1 (AS Z (AO.aF Z ad5 (fun b5=>?_))))); obtain ⟨n1,ok1,h2,hf⟩:=aV hf; refine Rr 2 [0,0] Z Z (CL Z (NH _ h2 (J 6 Z (C hf Z (fun h3 hf=>?_) fun h3 hf=>?_))))
 · cases hf; exact M 2 Z (Y Z h)
 refine BR hf fun x2 h4 hf=>?_; refine Wr 2 [0] Z Z (CL Z (ahV _ h4 ?_)); cases hf; exact N 1 Z (Y Z h)


end Go.Proofs.YtggpjlegajicnaaGreatDoor
