/- Proved here: each function does what its functional text says (part 1). -/
import Derived.Test.YtcohpegjnpcgcaaGreatDoorTvA3
import Derived.Test.YtcohpegjnpcgcaaGreatDoorTvPre1
import Derived.Test.YtcohpegjnpcgcaaGreatDoorTvFt1
import Derived.Test.YtcohpegjnpcgcaaGreatDoorTvPool1
import Derived.Test.YtcohpegjnpcgcaaGreatDoorProg
import Derived.KernelRfl
set_option linter.unusedVariables false
set_option linter.unusedSimpArgs false
set_option linter.unusedSectionVars false
namespace Go.Ft
open Go Go.Abs
mutual
def ah.cells :ah→List PV
  | ⟨a0,a1,a2,a3,a4,a5⟩=>[.int .i64 a0,.bool a1,.int .i64 a2,.str a3,.list (ah.aM a4),.list (List.map nD a5)]
def ah.aM :List ah→List (List PV)
  | []=>[]
  | x :: xs=>ah.cells x :: ah.aM xs
end
theorem ah.aD (x:ah):ah.cells x=[.int .i64 x.kind,.bool x.eB,.int .i64 x.gI,.str x.fM,.list (ah.aM x.aW),.list (List.map nD x.keys)]:=by cases x; rfl
theorem ah.aB :∀ l:List ah,ah.aM l=l.map ah.cells
  | []=>rfl
  | _ :: l=>congrArg _ (ah.aB l)
def ah.VH (l:List ah):List PV:=[.list (ah.aM l)]
theorem ah.bG (x:ah):(ah.cells x).length=6:=by rw [ah.aD]; rfl
theorem ah.cells_one (x:ah):(ah.cells x).all PV.one=true:=by rw [ah.aD]; rfl
mutual
def aj.cells :aj→List PV
  | ⟨a0,a1,a2,a3,a4⟩=>[.int .i64 a0,.str a1,.int .i64 a2.kind,.bool a2.eB,.int .i64 a2.gI,.str a2.fM,.list (ah.aM a2.aW),.list (List.map nD a2.keys),.list (aj.aM a3),.list (List.map nD a4)]
def aj.aM :List aj→List (List PV)
  | []=>[]
  | x :: xs=>aj.cells x :: aj.aM xs
end
theorem aj.aD (x:aj):aj.cells x=[.int .i64 x.kind,.str x.name,.int .i64 x.value.kind,.bool x.value.eB,.int .i64 x.value.gI,.str x.value.fM,.list (ah.aM x.value.aW),.list (List.map nD x.value.keys),.list (aj.aM x.args),.list (List.map nD x.keys)]:=by cases x; rfl
theorem aj.aB :∀ l:List aj,aj.aM l=l.map aj.cells
  | []=>rfl
  | _ :: l=>congrArg _ (aj.aB l)
def aj.VH (l:List aj):List PV:=[.list (aj.aM l)]
theorem aj.bG (x:aj):(aj.cells x).length=10:=by rw [aj.aD]; rfl
theorem aj.cells_one (x:aj):(aj.cells x).all PV.one=true:=by rw [aj.aD]; rfl
@[reducible] def aK.cells (x:aK):List PV:=[.str x.name,.int .i64 x.expr.kind,.str x.expr.name,.int .i64 x.expr.value.kind,.bool x.expr.value.eB,.int .i64 x.expr.value.gI,.str x.expr.value.fM,.list (ah.aM x.expr.value.aW),.list (List.map nD x.expr.value.keys),.list (aj.aM x.expr.args),.list (List.map nD x.expr.keys)]
theorem aK.aD (x:aK):aK.cells x=[.str x.name,.int .i64 x.expr.kind,.str x.expr.name,.int .i64 x.expr.value.kind,.bool x.expr.value.eB,.int .i64 x.expr.value.gI,.str x.expr.value.fM,.list (ah.aM x.expr.value.aW),.list (List.map nD x.expr.value.keys),.list (aj.aM x.expr.args),.list (List.map nD x.expr.keys)]:=rfl
theorem aK.bG (x:aK):(aK.cells x).length=11:=by rw [aK.aD]; rfl
theorem aK.cells_one (x:aK):(aK.cells x).all PV.one=true:=by rw [aK.aD]; rfl
mutual
def au.cells :au→List PV
  | ⟨a0,a1,a2,a3⟩=>[.str a0,.str a1,.list (List.map aK.cells a2),.list (au.aM a3)]
def au.aM :List au→List (List PV)
  | []=>[]
  | x :: xs=>au.cells x :: au.aM xs
end
theorem au.aD (x:au):au.cells x=[.str x.kind,.str x.name,.list (List.map aK.cells x.attrs),.list (au.aM x.blocks)]:=by cases x; rfl
theorem au.aB :∀ l:List au,au.aM l=l.map au.cells
  | []=>rfl
  | _ :: l=>congrArg _ (au.aB l)
def au.VH (l:List au):List PV:=[.list (au.aM l)]
theorem au.bG (x:au):(au.cells x).length=4:=by rw [au.aD]; rfl
theorem au.cells_one (x:au):(au.cells x).all PV.one=true:=by rw [au.aD]; rfl
@[reducible] def cO.cells (x:cO):List PV:=[.list (au.aM x.blocks)]
theorem cO.aD (x:cO):cO.cells x=[.list (au.aM x.blocks)]:=rfl
theorem cO.bG (x:cO):(cO.cells x).length=1:=by rw [cO.aD]; rfl
theorem cO.cells_one (x:cO):(cO.cells x).all PV.one=true:=by rw [cO.aD]; rfl
@[reducible] def aA.cells (x:aA):List PV:=[.str x.name,.int .i64 x.value.kind,.bool x.value.eB,.int .i64 x.value.gI,.str x.value.fM,.list (ah.aM x.value.aW),.list (List.map nD x.value.keys)]
theorem aA.aD (x:aA):aA.cells x=[.str x.name,.int .i64 x.value.kind,.bool x.value.eB,.int .i64 x.value.gI,.str x.value.fM,.list (ah.aM x.value.aW),.list (List.map nD x.value.keys)]:=rfl
theorem aA.bG (x:aA):(aA.cells x).length=7:=by rw [aA.aD]; rfl
theorem aA.cells_one (x:aA):(aA.cells x).all PV.one=true:=by rw [aA.aD]; rfl
mutual
def aJ.cells :aJ→List PV
  | ⟨a0,a1⟩=>[.int .i64 a0,.list (aJ.aM a1)]
def aJ.aM :List aJ→List (List PV)
  | []=>[]
  | x :: xs=>aJ.cells x :: aJ.aM xs
end
theorem aJ.aD (x:aJ):aJ.cells x=[.int .i64 x.kind,.list (aJ.aM x.elem)]:=by cases x; rfl
theorem aJ.aB :∀ l:List aJ,aJ.aM l=l.map aJ.cells
  | []=>rfl
  | _ :: l=>congrArg _ (aJ.aB l)
def aJ.VH (l:List aJ):List PV:=[.list (aJ.aM l)]
theorem aJ.bG (x:aJ):(aJ.cells x).length=2:=by rw [aJ.aD]; rfl
theorem aJ.cells_one (x:aJ):(aJ.cells x).all PV.one=true:=by rw [aJ.aD]; rfl
@[reducible] def aI.cells (x:aI):List PV:=[.int .i64 x.code]
theorem aI.aD (x:aI):aI.cells x=[.int .i64 x.code]:=rfl
theorem aI.bG (x:aI):(aI.cells x).length=1:=by rw [aI.aD]; rfl
theorem aI.cells_one (x:aI):(aI.cells x).all PV.one=true:=by rw [aI.aD]; rfl
@[reducible] def jQ.cells (x:jQ):List PV:=[.int .u64 ((x.half.getD 0 0).toNat:Int),.int .u64 ((x.half.getD 1 0).toNat:Int),.bool x.neg]
theorem jQ.aD (x:jQ):jQ.cells x=[.int .u64 ((x.half.getD 0 0).toNat:Int),.int .u64 ((x.half.getD 1 0).toNat:Int),.bool x.neg]:=rfl
theorem jQ.bG (x:jQ):(jQ.cells x).length=3:=by rw [jQ.aD]; rfl
theorem jQ.cells_one (x:jQ):(jQ.cells x).all PV.one=true:=by rw [jQ.aD]; rfl
@[reducible] def bN.cells (x:bN):List PV:=[.str x.name,.int .i64 x.KR.kind,.list (aJ.aM x.KR.elem),.bool x.has,.int .i64 x.default.kind,.bool x.default.eB,.int .i64 x.default.gI,.str x.default.fM,.list (ah.aM x.default.aW),.list (List.map nD x.default.keys)]
theorem bN.aD (x:bN):bN.cells x=[.str x.name,.int .i64 x.KR.kind,.list (aJ.aM x.KR.elem),.bool x.has,.int .i64 x.default.kind,.bool x.default.eB,.int .i64 x.default.gI,.str x.default.fM,.list (ah.aM x.default.aW),.list (List.map nD x.default.keys)]:=rfl
theorem bN.bG (x:bN):(bN.cells x).length=10:=by rw [bN.aD]; rfl
theorem bN.cells_one (x:bN):(bN.cells x).all PV.one=true:=by rw [bN.aD]; rfl
@[reducible] def bI.cells (x:bI):List PV:=[.str x.name,.list (List.map bN.cells x.params),.str x.body.kind,.str x.body.name,.list (List.map aK.cells x.body.attrs),.list (au.aM x.body.blocks)]
theorem bI.aD (x:bI):bI.cells x=[.str x.name,.list (List.map bN.cells x.params),.str x.body.kind,.str x.body.name,.list (List.map aK.cells x.body.attrs),.list (au.aM x.body.blocks)]:=rfl
theorem bI.bG (x:bI):(bI.cells x).length=6:=by rw [bI.aD]; rfl
theorem bI.cells_one (x:bI):(bI.cells x).all PV.one=true:=by rw [bI.aD]; rfl
@[reducible] def aX.cells (x:aX):List PV:=[.int .i64 x.kind,.str x.text,.int .i64 x.at_]
theorem aX.aD (x:aX):aX.cells x=[.int .i64 x.kind,.str x.text,.int .i64 x.at_]:=rfl
theorem aX.bG (x:aX):(aX.cells x).length=3:=by rw [aX.aD]; rfl
theorem aX.cells_one (x:aX):(aX.cells x).all PV.one=true:=by rw [aX.aD]; rfl
@[reducible] def ak.cells (x:ak):List PV:=[.list (List.map aX.cells x.ts),.int .i64 x.at_]
theorem ak.aD (x:ak):ak.cells x=[.list (List.map aX.cells x.ts),.int .i64 x.at_]:=rfl
theorem ak.bG (x:ak):(ak.cells x).length=2:=by rw [ak.aD]; rfl
theorem ak.cells_one (x:ak):(ak.cells x).all PV.one=true:=by rw [ak.aD]; rfl
@[reducible] def ay.cells (x:ay):List PV:=[.int .i64 x.at_,.int .i64 x.code]
theorem ay.aD (x:ay):ay.cells x=[.int .i64 x.at_,.int .i64 x.code]:=rfl
theorem ay.bG (x:ay):(ay.cells x).length=2:=by rw [ay.aD]; rfl
theorem ay.cells_one (x:ay):(ay.cells x).all PV.one=true:=by rw [ay.aD]; rfl
@[reducible] def aY.cells (x:aY):List PV:=[.str x.text,.bool x.is_,.int .i64 x.expr.kind,.str x.expr.name,.int .i64 x.expr.value.kind,.bool x.expr.value.eB,.int .i64 x.expr.value.gI,.str x.expr.value.fM,.list (ah.aM x.expr.value.aW),.list (List.map nD x.expr.value.keys),.list (aj.aM x.expr.args),.list (List.map nD x.expr.keys)]
theorem aY.aD (x:aY):aY.cells x=[.str x.text,.bool x.is_,.int .i64 x.expr.kind,.str x.expr.name,.int .i64 x.expr.value.kind,.bool x.expr.value.eB,.int .i64 x.expr.value.gI,.str x.expr.value.fM,.list (ah.aM x.expr.value.aW),.list (List.map nD x.expr.value.keys),.list (aj.aM x.expr.args),.list (List.map nD x.expr.keys)]:=rfl
theorem aY.bG (x:aY):(aY.cells x).length=12:=by rw [aY.aD]; rfl
theorem aY.cells_one (x:aY):(aY.cells x).all PV.one=true:=by rw [aY.aD]; rfl
@[reducible] def aH.cells (x:aH):List PV:=[.list (List.map bI.cells x.templates),.list (List.map aA.cells x.env),.int .i64 x.uses]
theorem aH.aD (x:aH):aH.cells x=[.list (List.map bI.cells x.templates),.list (List.map aA.cells x.env),.int .i64 x.uses]:=rfl
theorem aH.bG (x:aH):(aH.cells x).length=3:=by rw [aH.aD]; rfl
theorem aH.cells_one (x:aH):(aH.cells x).all PV.one=true:=by rw [aH.aD]; rfl
end Go.Ft
namespace Go.Proofs.YtcohpegjnpcgcaaGreatDoor
open Go Go.Abs Go.Ft
set_option maxRecDepth 20000
attribute [local irreducible] AO AR AW AC
class Am [iJ]:Prop where
  hD:¬ iJ.D
  max:∀ (w:World) (m:ko),iJ.G w m→∃ n:Int,w.cell? ⟨0,0,none⟩=some (.int .i64 n)
  pow:∀ (w:World) (m:ko),iJ.G w m→Lib.TabIs Tryz.prog w "internal/strconv.uint64pow10" .u64 Lib.pow10Tab
  syn:∀ (w:World) (m:ko),iJ.G w m→∃ ev,w.cell? ⟨6,0,none⟩=some ev∧(ev=.nilIface∨∃ te pe,ev=.iface te pe)
  rng:∀ (w:World) (m:ko),iJ.G w m→∃ ev,w.cell? ⟨7,0,none⟩=some ev∧(ev=.nilIface∨∃ te pe,ev=.iface te pe)
variable [iJ]
theorem ahN (w:World):(isAgg 54).run Tryz.prog w=.ok true w:=by kernel_rfl
theorem acw :Bq Tryz.prog 197=some (8,1):=by kernel_rfl
theorem Mk :Bq Tryz.prog 281=some (2,1):=by kernel_rfl
theorem afJ :Tryz.prog.cellsOf 252=1:=by kernel_rfl
theorem afI :Tryz.prog.cellsOf 281=2:=by kernel_rfl
theorem ahH :Tryz.prog.cellsOf 5=1:=by kernel_rfl
theorem afG :Tryz.prog.eqGuardType Tryz.prog.depth 281=false:=by kernel_rfl
theorem ab7 :elemSize Tryz.prog 151=some 7:=by kernel_rfl
theorem Fj :elemSize Tryz.prog 177=some 1:=by kernel_rfl
theorem DZ :elemSize Tryz.prog 184=some 12:=by kernel_rfl
theorem Uz :elemSize Tryz.prog 22=some 10:=by kernel_rfl
theorem wC :elemSize Tryz.prog 23=some 7:=by kernel_rfl
theorem z_ :elemSize Tryz.prog 237=some 3:=by kernel_rfl
theorem jG :elemSize Tryz.prog 32=some 4:=by kernel_rfl
theorem o9 :elemSize Tryz.prog 36=some 11:=by kernel_rfl
theorem iK :elemSize Tryz.prog 39=some 6:=by kernel_rfl
theorem jm :elemSize Tryz.prog 40=some 1:=by kernel_rfl
theorem iQ :elemSize Tryz.prog 43=some 10:=by kernel_rfl
theorem O3 :elemSize Tryz.prog 59=some 2:=by kernel_rfl
theorem O1 :elemSize Tryz.prog 73=some 1:=by kernel_rfl
theorem Xg :elemSize Tryz.prog 74=some 6:=by kernel_rfl
theorem zW :xW Tryz.prog 167 0=some 0:=by kernel_rfl
theorem sK :xW Tryz.prog 167 1=some 1:=by kernel_rfl
theorem M6 :xW Tryz.prog 209 0=some 0:=by kernel_rfl
theorem FR :xW Tryz.prog 209 1=some 1:=by kernel_rfl
theorem abX :Tryz.prog.underlying 169=some (.interface (Tryz.prog.methodsAt 169)):=by kernel_rfl
theorem inB :∃ j,Tryz.prog.info? 167=some j∧(j.size != 0)=true:=sized (n:=2) (by kernel_rfl) rfl
theorem ag8 :liesAt Tryz.prog Tryz.prog.depth 167 (2 / Tryz.prog.cellsOf 167) 0 167 1=true:=by kernel_rfl
theorem ag7 :liesAt Tryz.prog Tryz.prog.depth 209 (3 / Tryz.prog.cellsOf 209) 1 167 1=true:=by kernel_rfl
theorem mixed :Tryz.prog.follows .mixedOrders=true:=by kernel_rfl
theorem Gw :Tryz.prog.underlying 131=some (.map 9 3):=by kernel_rfl
theorem afm :concrete Tryz.prog 181=true:=by kernel_rfl
theorem afl :concrete Tryz.prog 292=true:=by kernel_rfl
theorem abG :aU Tryz.prog 100=true:=by kernel_rfl
theorem abF :aU Tryz.prog 104=true:=by kernel_rfl
theorem afc :aU Tryz.prog 105=true:=by kernel_rfl
theorem afb :aU Tryz.prog 106=true:=by kernel_rfl
theorem afa :aU Tryz.prog 107=true:=by kernel_rfl
theorem ae_ :aU Tryz.prog 108=true:=by kernel_rfl
theorem abE :aU Tryz.prog 109=true:=by kernel_rfl
theorem ad2 :aU Tryz.prog 11=true:=by kernel_rfl
theorem ae9 :aU Tryz.prog 110=true:=by kernel_rfl
theorem ae8 :aU Tryz.prog 113=true:=by kernel_rfl
theorem ae7 :aU Tryz.prog 114=true:=by kernel_rfl
theorem ae6 :aU Tryz.prog 117=true:=by kernel_rfl
theorem ae5 :aU Tryz.prog 120=true:=by kernel_rfl
theorem ae4 :aU Tryz.prog 123=true:=by kernel_rfl
theorem abD :aU Tryz.prog 124=true:=by kernel_rfl
theorem ae3 :aU Tryz.prog 126=true:=by kernel_rfl
theorem ae2 :aU Tryz.prog 130=true:=by kernel_rfl
theorem ae1 :aU Tryz.prog 131=true:=by kernel_rfl
theorem ae0 :aU Tryz.prog 132=true:=by kernel_rfl
theorem aeZ :aU Tryz.prog 133=true:=by kernel_rfl
theorem aeY :aU Tryz.prog 134=true:=by kernel_rfl
theorem aeX :aU Tryz.prog 135=true:=by kernel_rfl
theorem aeW :aU Tryz.prog 138=true:=by kernel_rfl
theorem abC :aU Tryz.prog 139=true:=by kernel_rfl
theorem abB :aU Tryz.prog 140=true:=by kernel_rfl
theorem aeV :aU Tryz.prog 142=true:=by kernel_rfl
theorem aeU :aU Tryz.prog 144=true:=by kernel_rfl
theorem X9 :aU Tryz.prog 145=true:=by kernel_rfl
theorem aeT :aU Tryz.prog 146=true:=by kernel_rfl
theorem aeS :aU Tryz.prog 148=true:=by kernel_rfl
theorem aeR :aU Tryz.prog 149=true:=by kernel_rfl
theorem abA :aU Tryz.prog 15=true:=by kernel_rfl
theorem I9 :aU Tryz.prog 150=true:=by kernel_rfl
theorem abz :aU Tryz.prog 151=true:=by kernel_rfl
theorem aeQ :aU Tryz.prog 152=true:=by kernel_rfl
theorem aby :aU Tryz.prog 153=true:=by kernel_rfl
theorem aeP :aU Tryz.prog 154=true:=by kernel_rfl
theorem aeO :aU Tryz.prog 156=true:=by kernel_rfl
theorem WG :aU Tryz.prog 16=true:=by kernel_rfl
theorem aeN :aU Tryz.prog 162=true:=by kernel_rfl
theorem aeM :aU Tryz.prog 163=true:=by kernel_rfl
theorem X8 :aU Tryz.prog 166=true:=by kernel_rfl
theorem aeL :aU Tryz.prog 168=true:=by kernel_rfl
theorem abx :aU Tryz.prog 173=true:=by kernel_rfl
theorem abw :aU Tryz.prog 178=true:=by kernel_rfl
theorem aeK :aU Tryz.prog 179=true:=by kernel_rfl
theorem abv :aU Tryz.prog 183=true:=by kernel_rfl
theorem aeJ :aU Tryz.prog 184=true:=by kernel_rfl
theorem aeI :aU Tryz.prog 185=true:=by kernel_rfl
theorem abu :aU Tryz.prog 186=true:=by kernel_rfl
theorem aeH :aU Tryz.prog 188=true:=by kernel_rfl
theorem aeG :aU Tryz.prog 189=true:=by kernel_rfl
theorem ag2 :aU Tryz.prog 19=true:=by kernel_rfl
theorem abt :aU Tryz.prog 197=true:=by kernel_rfl
theorem ag1 :aU Tryz.prog 20=true:=by kernel_rfl
theorem NS :aU Tryz.prog 205=true:=by kernel_rfl
theorem abr :aU Tryz.prog 21=true:=by kernel_rfl
theorem ag0 :aU Tryz.prog 22=true:=by kernel_rfl
theorem abq :aU Tryz.prog 221=true:=by kernel_rfl
theorem aeF :aU Tryz.prog 224=true:=by kernel_rfl
theorem aeE :aU Tryz.prog 229=true:=by kernel_rfl
theorem Y0 :aU Tryz.prog 23=true:=by kernel_rfl
theorem aeD :aU Tryz.prog 230=true:=by kernel_rfl
theorem abp :aU Tryz.prog 237=true:=by kernel_rfl
theorem aeC :aU Tryz.prog 243=true:=by kernel_rfl
theorem aeB :aU Tryz.prog 251=true:=by kernel_rfl
theorem aeA :aU Tryz.prog 252=true:=by kernel_rfl
theorem aez :aU Tryz.prog 254=true:=by kernel_rfl
theorem aey :aU Tryz.prog 276=true:=by kernel_rfl
theorem aex :aU Tryz.prog 279=true:=by kernel_rfl
theorem abo :aU Tryz.prog 281=true:=by kernel_rfl
theorem aew :aU Tryz.prog 285=true:=by kernel_rfl
theorem NR :aU Tryz.prog 286=true:=by kernel_rfl
theorem aev :aU Tryz.prog 309=true:=by kernel_rfl
theorem agZ :aU Tryz.prog 31=true:=by kernel_rfl
theorem aeu :aU Tryz.prog 312=true:=by kernel_rfl
theorem abn :aU Tryz.prog 313=true:=by kernel_rfl
theorem agY :aU Tryz.prog 32=true:=by kernel_rfl
theorem QS :aU Tryz.prog 328=true:=by kernel_rfl
theorem agX :aU Tryz.prog 33=true:=by kernel_rfl
theorem agW :aU Tryz.prog 34=true:=by kernel_rfl
theorem aes :aU Tryz.prog 341=true:=by kernel_rfl
theorem agV :aU Tryz.prog 38=true:=by kernel_rfl
theorem ad1 :aU Tryz.prog 39=true:=by kernel_rfl
theorem agU :aU Tryz.prog 40=true:=by kernel_rfl
theorem adZ :aU Tryz.prog 41=true:=by kernel_rfl
theorem adY :aU Tryz.prog 42=true:=by kernel_rfl
theorem agT :aU Tryz.prog 43=true:=by kernel_rfl
theorem abm :aU Tryz.prog 48=true:=by kernel_rfl
theorem agS :aU Tryz.prog 52=true:=by kernel_rfl
theorem agR :aU Tryz.prog 54=true:=by kernel_rfl
theorem agQ :aU Tryz.prog 55=true:=by kernel_rfl
theorem agP :aU Tryz.prog 56=true:=by kernel_rfl
theorem agO :aU Tryz.prog 57=true:=by kernel_rfl
theorem adX :aU Tryz.prog 58=true:=by kernel_rfl
theorem agN :aU Tryz.prog 6=true:=by kernel_rfl
theorem I8 :aU Tryz.prog 62=true:=by kernel_rfl
theorem agM :aU Tryz.prog 63=true:=by kernel_rfl
theorem agL :aU Tryz.prog 64=true:=by kernel_rfl
theorem adW :aU Tryz.prog 65=true:=by kernel_rfl
theorem agK :aU Tryz.prog 66=true:=by kernel_rfl
theorem adV :aU Tryz.prog 68=true:=by kernel_rfl
theorem adU :aU Tryz.prog 70=true:=by kernel_rfl
theorem abl :aU Tryz.prog 71=true:=by kernel_rfl
theorem abk :aU Tryz.prog 78=true:=by kernel_rfl
theorem agJ :aU Tryz.prog 79=true:=by kernel_rfl
theorem agI :aU Tryz.prog 80=true:=by kernel_rfl
theorem agH :aU Tryz.prog 81=true:=by kernel_rfl
theorem adT :aU Tryz.prog 82=true:=by kernel_rfl
theorem agG :aU Tryz.prog 85=true:=by kernel_rfl
theorem agF :aU Tryz.prog 87=true:=by kernel_rfl
theorem agE :aU Tryz.prog 88=true:=by kernel_rfl
theorem agD :aU Tryz.prog 89=true:=by kernel_rfl
theorem agC :aU Tryz.prog 91=true:=by kernel_rfl
theorem agB :aU Tryz.prog 92=true:=by kernel_rfl
theorem agA :aU Tryz.prog 93=true:=by kernel_rfl
theorem adS :aU Tryz.prog 94=true:=by kernel_rfl
theorem adR :aU Tryz.prog 98=true:=by kernel_rfl
theorem QB :iL Tryz.prog 177 3 1 8:=pY (by kernel_rfl)
theorem U9 :iL Tryz.prog 184 189 12 184:=pY (by kernel_rfl)
theorem abb :iL Tryz.prog 22 63 10 144:=pY (by kernel_rfl)
theorem DC :iL Tryz.prog 23 54 7 104:=pY (by kernel_rfl)
theorem ND :iL Tryz.prog 237 243 3 32:=pY (by kernel_rfl)
theorem tJ :iL Tryz.prog 32 38 4 80:=pY (by kernel_rfl)
theorem xq :iL Tryz.prog 36 48 11 176:=pY (by kernel_rfl)
theorem yY :iL Tryz.prog 39 42 6 88:=pY (by kernel_rfl)
theorem tH :iL Tryz.prog 40 9 1 16:=pY (by kernel_rfl)
theorem u_ :iL Tryz.prog 43 45 10 160:=pY (by kernel_rfl)
theorem agv :iL Tryz.prog 59 61 2 32:=pY (by kernel_rfl)
theorem Wq :iL Tryz.prog 73 5 1 1:=pY (by kernel_rfl)
theorem adQ :iL Tryz.prog 74 98 6 120:=pY (by kernel_rfl)
theorem YP :xL Tryz.prog 189=some [(0,1),(1,1),(2,10)]:=by kernel_rfl
theorem ac_ :xL Tryz.prog 290=some [(0,1),(1,1)]:=by kernel_rfl
theorem Lv :xL Tryz.prog 38=some [(0,1),(1,1),(2,1),(3,1)]:=by kernel_rfl
theorem U8 :xL Tryz.prog 42=some [(0,1),(1,1),(2,1),(3,1),(4,1),(5,1)]:=by kernel_rfl
theorem E5 :xL Tryz.prog 45=some [(0,1),(1,1),(2,6),(8,1),(9,1)]:=by kernel_rfl
theorem aa8 :xL Tryz.prog 48=some [(0,1),(1,10)]:=by kernel_rfl
theorem aa7 :xL Tryz.prog 54=some [(0,1),(1,6)]:=by kernel_rfl
theorem ac8 (w:Go.World):(Instr.typeAssert .nilIface 20 181 true).run Tryz.prog w=.ok (.tuple #[.agg #[.int .i64 0],.bool false]) w:=by kernel_rfl
theorem ac7 (w:Go.World):(Instr.typeAssert .nilIface 20 292 true).run Tryz.prog w=.ok (.tuple #[.agg #[.int .i64 0,.int .i64 0],.bool false]) w:=by kernel_rfl
theorem ac6 (v:Value) (w:Go.World):(Instr.typeAssert (.iface 181 v) 20 181 true).run Tryz.prog w=.ok (.tuple #[v,.bool true]) w:=by kernel_rfl
theorem ac5 (v:Value) (w:Go.World):(Instr.typeAssert (.iface 292 v) 20 292 true).run Tryz.prog w=.ok (.tuple #[v,.bool true]) w:=by kernel_rfl
theorem Gf :iD Tryz.prog 165=some (false,1):=by kernel_rfl
theorem ael :iD Tryz.prog 176=some (false,1):=by kernel_rfl
theorem aa3 :iD Tryz.prog 181=some (true,1):=by kernel_rfl
theorem Nz :iD Tryz.prog 184=some (false,1):=by kernel_rfl
theorem aa2 :iD Tryz.prog 189=some (true,12):=by kernel_rfl
theorem agu :iD Tryz.prog 23=some (false,1):=by kernel_rfl
theorem U5 :iD Tryz.prog 237=some (false,1):=by kernel_rfl
theorem Ny :iD Tryz.prog 243=some (true,3):=by kernel_rfl
theorem EA :iD Tryz.prog 25=some (false,1):=by kernel_rfl
theorem aek :iD Tryz.prog 281=some (true,2):=by kernel_rfl
theorem aa1 :iD Tryz.prog 292=some (true,2):=by kernel_rfl
theorem Ep :iD Tryz.prog 3=some (false,1):=by kernel_rfl
theorem rZ :iD Tryz.prog 32=some (false,1):=by kernel_rfl
theorem agt :iD Tryz.prog 34=some (true,1):=by kernel_rfl
theorem Wj :iD Tryz.prog 36=some (false,1):=by kernel_rfl
theorem nQ :iD Tryz.prog 38=some (true,4):=by kernel_rfl
theorem IJ :iD Tryz.prog 39=some (false,1):=by kernel_rfl
theorem ags :iD Tryz.prog 4=some (false,1):=by kernel_rfl
theorem YK :iD Tryz.prog 40=some (false,1):=by kernel_rfl
theorem mK :iD Tryz.prog 42=some (true,6):=by kernel_rfl
theorem OI :iD Tryz.prog 43=some (false,1):=by kernel_rfl
theorem gM :iD Tryz.prog 45=some (true,10):=by kernel_rfl
theorem adO :iD Tryz.prog 48=some (true,11):=by kernel_rfl
theorem agr :iD Tryz.prog 54=some (true,7):=by kernel_rfl
theorem adN :iD Tryz.prog 59=some (false,1):=by kernel_rfl
theorem adM :iD Tryz.prog 61=some (true,2):=by kernel_rfl
theorem agq :iD Tryz.prog 63=some (true,10):=by kernel_rfl
theorem Fz :iD Tryz.prog 73=some (false,1):=by kernel_rfl
theorem Qw :iD Tryz.prog 9=some (false,1):=by kernel_rfl
theorem aaU :Tryz.prog.underlying 23=some (.slice 54):=by kernel_rfl
theorem Qt :Tryz.prog.underlying 252=some (.int .u64):=by kernel_rfl
theorem aei :Tryz.prog.underlying 281=some (.array 2 252):=by kernel_rfl
theorem Qs :Tryz.prog.underlying 3=some (.int .i64):=by kernel_rfl
theorem aaT :Tryz.prog.underlying 32=some (.slice 38):=by kernel_rfl
theorem YF :Tryz.prog.underlying 36=some (.slice 48):=by kernel_rfl
theorem aaS :Tryz.prog.underlying 39=some (.slice 42):=by kernel_rfl
theorem agp :Tryz.prog.underlying 4=some (.bool):=by kernel_rfl
theorem adK :Tryz.prog.underlying 40=some (.slice 9):=by kernel_rfl
theorem aaR :Tryz.prog.underlying 43=some (.slice 45):=by kernel_rfl
theorem Wd :Tryz.prog.underlying 5=some (.int .u8):=by kernel_rfl
theorem agn :Tryz.prog.underlying 73=some (.slice 5):=by kernel_rfl
theorem dR :Tryz.prog.underlying 9=some (.string):=by kernel_rfl
theorem EX :Tryz.prog.underlying 165=some (.pointer 167):=by kernel_rfl
theorem aaQ :Tryz.prog.underlying 196=some (.pointer 5):=by kernel_rfl
theorem U3 :Tryz.prog.underlying 227=some .unsafePointer:=by kernel_rfl
theorem agb (w:World):(Go.sizeOf 54).run Tryz.prog w=.ok 7 w:=by kernel_rfl
theorem Zt :(Tryz.prog.info? 3).map (·.zero)=some (some (.int .i64 0)):=by kernel_rfl
theorem Ns :lW Tryz.prog 167=some [.val (.pointer none),.own (.slice none 0 0) []]:=by kernel_rfl
theorem aef :lW Tryz.prog 176=some [.val .nilFunc]:=by kernel_rfl
theorem aaH :lW Tryz.prog 181=some [.int .i64 0]:=by kernel_rfl
theorem Qc :lW Tryz.prog 189=some [.str [],.bool false,.int .i64 0,.str [],.int .i64 0,.bool false,.int .i64 0,.str [],.own (.slice none 0 0) [],.own (.slice none 0 0) [],.own (.slice none 0 0) [],.own (.slice none 0 0) []]:=by kernel_rfl
theorem aaG :lW Tryz.prog 197=some [.str [],.str [],.str [],.str [],.str [],.str [],.str [],.str []]:=by kernel_rfl
theorem aee :lW Tryz.prog 209=some [.own (.slice none 0 0) [],.val (.pointer none),.own (.slice none 0 0) []]:=by kernel_rfl
theorem yI :lW Tryz.prog 243=some [.int .i64 0,.str [],.int .i64 0]:=by kernel_rfl
theorem aaF :lW Tryz.prog 25=some [.int .i64 0]:=by kernel_rfl
theorem aaE :lW Tryz.prog 281=some [.int .u64 0,.int .u64 0]:=by kernel_rfl
theorem XL :lW Tryz.prog 283=some [.int .u64 0,.int .u64 0,.bool false]:=by kernel_rfl
theorem aed :lW Tryz.prog 290=some [.own (.slice none 0 0) [],.int .i64 0]:=by kernel_rfl
theorem aaD :lW Tryz.prog 292=some [.int .i64 0,.int .i64 0]:=by kernel_rfl
theorem aga :lW Tryz.prog 3=some [.int .i64 0]:=by kernel_rfl
theorem Dt :lW Tryz.prog 34=some [.own (.slice none 0 0) []]:=by kernel_rfl
theorem nP :lW Tryz.prog 38=some [.str [],.str [],.own (.slice none 0 0) [],.own (.slice none 0 0) []]:=by kernel_rfl
theorem gY :lW Tryz.prog 42=some [.int .i64 0,.bool false,.int .i64 0,.str [],.own (.slice none 0 0) [],.own (.slice none 0 0) []]:=by kernel_rfl
theorem iO :lW Tryz.prog 45=some [.int .i64 0,.str [],.int .i64 0,.bool false,.int .i64 0,.str [],.own (.slice none 0 0) [],.own (.slice none 0 0) [],.own (.slice none 0 0) [],.own (.slice none 0 0) []]:=by kernel_rfl
theorem OA :lW Tryz.prog 48=some [.str [],.int .i64 0,.str [],.int .i64 0,.bool false,.int .i64 0,.str [],.own (.slice none 0 0) [],.own (.slice none 0 0) [],.own (.slice none 0 0) [],.own (.slice none 0 0) []]:=by kernel_rfl
theorem Qb :lW Tryz.prog 54=some [.str [],.int .i64 0,.bool false,.int .i64 0,.str [],.own (.slice none 0 0) [],.own (.slice none 0 0) []]:=by kernel_rfl
theorem Ml :lW Tryz.prog 61=some [.int .i64 0,.own (.slice none 0 0) []]:=by kernel_rfl
theorem Yz :lW Tryz.prog 63=some [.str [],.int .i64 0,.own (.slice none 0 0) [],.bool false,.int .i64 0,.bool false,.int .i64 0,.str [],.own (.slice none 0 0) [],.own (.slice none 0 0) []]:=by kernel_rfl
def FX :Facts:={ti:=[(3,false,1),(4,false,1),(5,false,1),(9,false,1),(22,false,1),(23,false,1),(25,false,1),(32,false,1),(34,true,1),(36,false,1),(38,true,4),(39,false,1),(40,false,1),(42,true,6),(43,false,1),(45,true,10),(48,true,11),(54,true,7),(59,false,1),(61,true,2),(63,true,10),(98,true,6),(176,false,1),(181,true,1),(189,true,12),(243,true,3),(252,false,1),(290,true,2),(292,true,2)],fo:=[(34,0,0),(38,0,0),(38,1,1),(38,2,2),(38,3,3),(42,0,0),(42,1,1),(42,2,2),(42,3,3),(42,4,4),(42,5,5),(45,0,0),(45,1,1),(45,2,2),(45,3,8),(45,4,9),(48,0,0),(48,1,1),(54,0,0),(54,1,1),(61,0,0),(61,1,1),(63,0,0),(63,1,1),(63,2,3),(63,3,4),(98,0,0),(98,1,1),(98,2,2),(103,0,0),(103,1,1),(103,2,2),(181,0,0),(189,0,0),(189,1,1),(189,2,2),(209,0,0),(209,1,1),(243,0,0),(243,1,1),(243,2,2),(283,0,0),(283,1,2),(290,0,0),(290,1,1),(292,0,0),(292,1,1)],fd:=[],str:=[]}
theorem bC :FX.okB Tryz.prog=true:=by kernel_rfl
theorem cs {n:Nat} {all:Array Oper} {σ:List bf} {ds:List Deferred} {Q:Post} (k:Nat) {l l':List Oper} {env env':Env} (h:Pp FX all n k l env=some (env',l')) (hr:AR Tryz.prog n all l' env' σ ds Q):AR Tryz.prog n all l env σ ds Q:=AR.cs bC k h hr
def FY :FB:=⟨{FX with ti:=FX.ti ++ [(3,false,1),(4,false,1),(9,false,1),(32,false,1),(34,true,1),(36,false,1),(38,true,4),(39,false,1),(40,false,1),(42,true,6),(43,false,1),(45,true,10),(48,true,11),(54,true,7),(59,false,1),(61,true,2),(63,true,10),(74,false,1),(176,false,1),(189,true,12),(197,true,8),(243,true,3),(283,true,3)]},[(34,[.own (.slice none 0 0) []]),(38,[.str [],.str [],.own (.slice none 0 0) [],.own (.slice none 0 0) []]),(42,[.int .i64 0,.bool false,.int .i64 0,.str [],.own (.slice none 0 0) [],.own (.slice none 0 0) []]),(45,[.int .i64 0,.str [],.int .i64 0,.bool false,.int .i64 0,.str [],.own (.slice none 0 0) [],.own (.slice none 0 0) [],.own (.slice none 0 0) [],.own (.slice none 0 0) []]),(48,[.str [],.int .i64 0,.str [],.int .i64 0,.bool false,.int .i64 0,.str [],.own (.slice none 0 0) [],.own (.slice none 0 0) [],.own (.slice none 0 0) [],.own (.slice none 0 0) []]),(54,[.str [],.int .i64 0,.bool false,.int .i64 0,.str [],.own (.slice none 0 0) [],.own (.slice none 0 0) []]),(61,[.int .i64 0,.own (.slice none 0 0) []]),(63,[.str [],.int .i64 0,.own (.slice none 0 0) [],.bool false,.int .i64 0,.bool false,.int .i64 0,.str [],.own (.slice none 0 0) [],.own (.slice none 0 0) []]),(98,[.str [],.own (.slice none 0 0) [],.str [],.str [],.own (.slice none 0 0) [],.own (.slice none 0 0) []]),(103,[.own (.slice none 0 0) [],.own (.slice none 0 0) [],.int .i64 0]),(181,[.int .i64 0]),(243,[.int .i64 0,.str [],.int .i64 0]),(283,[.int .u64 0,.int .u64 0,.bool false]),(292,[.int .i64 0,.int .i64 0])],[(34,[(0,1)]),(38,[(0,1),(1,1),(2,1),(3,1)]),(42,[(0,1),(1,1),(2,1),(3,1),(4,1),(5,1)]),(45,[(0,1),(1,1),(2,6),(8,1),(9,1)]),(48,[(0,1),(1,10)]),(54,[(0,1),(1,6)]),(61,[(0,1),(1,1)]),(63,[(0,1),(1,2),(3,1),(4,6)]),(98,[(0,1),(1,1),(2,4)]),(103,[(0,1),(1,1),(2,1)]),(181,[(0,1)]),(243,[(0,1),(1,1),(2,1)]),(283,[(0,2),(2,1)]),(292,[(0,1),(1,1)])]⟩
instance : FK Tryz.prog:=⟨FY,⟨by kernel_rfl,by kernel_rfl,by kernel_rfl⟩,[6,7,11,12,13,14,15,17,18,19,21,22,23,28,29,30,32,35,36,37,39,42,43,47,49,50,51,53,54,55,58,59,60,61,62,63,64,67,69,71,77,78,79,83,84,86,87,89,90,93,95,96,97,98,99,100,101,102,103,105,108,109,110,111,112,115,116,117,118,119,120,121,122,123,124,125,127,128,129,136,137,138,139,140,141,142,144,145,147,148,150,152,155,156,157,158,159,160,161,164,169,170,171,172,173,174,175,176,177,178,179,180,181,182,183,187,189,190,191,192,196,197,198,202,203,204,205,206,207,208,209,210,211,212,213,214,215,216,217,218,219,220,222,223,229,230,235,236,237,238,239,240,241,242,243,244,245,246,247,248,249,250,253,255,256,257,258,268,269,271,272,273,274,275,279,280,281,282,283,284,286,299,310,311,313,314,315,329,330,331,332,333,340,344,345,346,347,348,349],by kernel_rfl⟩
variable {τ : List bf} {Q : dx → List bf → Prop}
abbrev PC :=AC Tryz.prog
@[reducible] def iP (x:Int):PV:=.int .i64 x
@[reducible] def sP (x:List Str):PV:=.list (List.map nD x)
@[reducible] def pP (b:Nat):PV:=.val (.pointer (some ⟨b,0,none⟩))
@[reducible] def dY (x:au):List PV:=[.str x.kind,.str x.name,.list (List.map aK.cells x.attrs),.list (au.aM x.blocks)]
@[reducible] def aN (x:ah):List PV:=[.int .i64 x.kind,.bool x.eB,.int .i64 x.gI,.str x.fM,.list (ah.aM x.aW),.list (List.map nD x.keys)]
@[reducible] def bE (x:aj):List PV:=[.int .i64 x.kind,.str x.name,.int .i64 x.value.kind,.bool x.value.eB,.int .i64 x.value.gI,.str x.value.fM,.list (ah.aM x.value.aW),.list (List.map nD x.value.keys),.list (aj.aM x.args),.list (List.map nD x.keys)]
@[reducible] def ag_ (x:aK):List PV:=[.str x.name,.int .i64 x.expr.kind,.str x.expr.name,.int .i64 x.expr.value.kind,.bool x.expr.value.eB,.int .i64 x.expr.value.gI,.str x.expr.value.fM,.list (ah.aM x.expr.value.aW),.list (List.map nD x.expr.value.keys),.list (aj.aM x.expr.args),.list (List.map nD x.expr.keys)]
@[reducible] def Bl (x:aA):List PV:=[.str x.name,.int .i64 x.value.kind,.bool x.value.eB,.int .i64 x.value.gI,.str x.value.fM,.list (ah.aM x.value.aW),.list (List.map nD x.value.keys)]
@[reducible] def gu (x:aJ):List PV:=[.int .i64 x.kind,.list (aJ.aM x.elem)]
@[reducible] def zl (x:bN):List PV:=[.str x.name,.int .i64 x.KR.kind,.list (aJ.aM x.KR.elem),.bool x.has,.int .i64 x.default.kind,.bool x.default.eB,.int .i64 x.default.gI,.str x.default.fM,.list (ah.aM x.default.aW),.list (List.map nD x.default.keys)]
@[reducible] def CU (x:bI):List PV:=[.str x.name,.list (List.map bN.cells x.params),.str x.body.kind,.str x.body.name,.list (List.map aK.cells x.body.attrs),.list (au.aM x.body.blocks)]
@[reducible] def eU (x:aH):List PV:=[.list (List.map bI.cells x.templates),.list (List.map aA.cells x.env),.int .i64 x.uses]
@[reducible] def Dm (x:aY):List PV:=[.str x.text,.bool x.is_,.int .i64 x.expr.kind,.str x.expr.name,.int .i64 x.expr.value.kind,.bool x.expr.value.eB,.int .i64 x.expr.value.gI,.str x.expr.value.fM,.list (ah.aM x.expr.value.aW),.list (List.map nD x.expr.value.keys),.list (aj.aM x.expr.args),.list (List.map nD x.expr.keys)]
@[reducible] def zk (x:aX):List PV:=[.int .i64 x.kind,.str x.text,.int .i64 x.at_]
@[reducible] def OX (x:jQ):List PV:=[.int .u64 ((x.half.getD 0 0).toNat:Int),.int .u64 ((x.half.getD 1 0).toNat:Int),.bool x.neg]
@[reducible] def aV (x:ak):List PV:=[.list (List.map aX.cells x.ts),.int .i64 x.at_]
@[reducible] def kD (x:ay):List PV:=[.int .i64 x.at_,.int .i64 x.code]
theorem H7 {b:Nat} {v p:Value} {bs:List UInt8} (hp:p=Value.pointer none∨p=.pointer (some ⟨b,0,none⟩)) {R:dx→List bf→Prop} (h:R (.ret (.tuple [])) [.kV b 167 [.val (.pointer (some ⟨b,0,none⟩)),.own v (bs.map jK)],.row v bs.length 1 5]):
    AC Tryz.prog 166 [.val (.pointer (some ⟨b,0,none⟩))] [.kV b 167 [.val p,.own v (bs.map jK)],.row v bs.length 1 5] R:=by
  obtain ⟨j,hj1,hj2⟩:=inB; rcases hp with rfl | rfl
  · skip
    refine AC.jX 20 [] [0] Tryz.func166 rfl rfl rfl rfl rfl ?_; refine AW.seq ?_; refine AW.region ?_; refine AR.step rfl rfl rfl (AO.calc' rfl ?_); refine AR.step rfl rfl rfl (AO.nilCheck rfl rfl ?_); refine AR.step rfl rfl rfl (AO.dB rfl rfl zW ?_); refine AR.step rfl rfl rfl (AO.kN (i:=0) rfl rfl rfl Gf rfl rfl ?_); refine AR.step rfl rfl rfl (AO.P8 rfl EX rfl rfl ?_); refine AR.nil [0,6] rfl ?_; refine AW.cond rfl (fun h1=>?_) (fun h1=>?_)
    · refine AW.region ?_; refine AR.step rfl rfl rfl (AO.calc' rfl ?_); refine AR.step rfl rfl rfl (AO.calc' rfl ?_); refine AR.step rfl rfl rfl (AO.ZA (i:=0) rfl EX U3 hj1 hj2 rfl rfl rfl ?_); refine AR.step rfl rfl rfl (AO.WL rfl rfl rfl rfl Tryz.func200 (by kernel_rfl) (by kernel_rfl) (by kernel_rfl) (by kernel_rfl) rfl ?_); refine AR.step rfl rfl rfl (AO.Xd (i:=0) rfl U3 EX hj1 rfl rfl rfl ag8 ?_); refine AR.step rfl rfl rfl (AO.nilCheck rfl rfl ?_); refine AR.step rfl rfl rfl (AO.dB rfl rfl zW ?_); refine AR.bF rfl rfl (AO.tX (i:=0) rfl rfl rfl Gf rfl rfl rfl rfl rfl ?_); refine AR.nil [] rfl ?_; exact ⟨rfl,[],rfl,_,List.Sublist.refl _,h⟩
    · cases h1
  · skip
    refine AC.jX 20 [] [0] Tryz.func166 rfl rfl rfl rfl rfl ?_; refine AW.seq ?_; refine AW.region ?_; refine AR.step rfl rfl rfl (AO.calc' rfl ?_); refine AR.step rfl rfl rfl (AO.nilCheck rfl rfl ?_); refine AR.step rfl rfl rfl (AO.dB rfl rfl zW ?_); refine AR.step rfl rfl rfl (AO.kN (i:=0) rfl rfl rfl Gf rfl rfl ?_); refine AR.step rfl rfl rfl (AO.P8 rfl EX rfl rfl ?_); refine AR.nil [0,6] rfl ?_; refine AW.cond rfl (fun h1=>?_) (fun h1=>?_)
    · cases h1
    · refine AW.seq ?_; refine AW.region ?_; refine AR.step rfl rfl rfl (AO.calc' rfl ?_); refine AR.step rfl rfl rfl (AO.nilCheck rfl rfl ?_); refine AR.step rfl rfl rfl (AO.dB rfl rfl zW ?_); refine AR.step rfl rfl rfl (AO.kN (i:=0) rfl rfl rfl Gf rfl rfl ?_); refine AR.step rfl rfl rfl (AO.calc' rfl ?_); refine AR.step rfl rfl rfl (AO.MO rfl EX hj1 rfl rfl ?_); refine AR.nil [19] rfl ?_; refine AW.cond rfl (fun h2=>?_) (fun h2=>?_)
      · cases h2
      · refine AW.skip ?_; exact ⟨rfl,[],rfl,_,List.Sublist.refl _,h⟩
theorem iC {b:Nat} {v:Value} {bs r:List UInt8} {c:UInt8} (hv:app bs [c]=some r) {R:dx→List bf→Prop} (h:∀ v',R (.ret (.val .nilIface)) [.K_ b v' 167 5 r]):AC Tryz.prog 140 [.val (.pointer (some ⟨b,0,none⟩)),.int .u8 (c.toNat:Int)] [.K_ b v 167 5 bs] R:=by
  refine AC.K_ fun p hp hroom=>?_; refine AC.jX 17 [.tmp 4] [0,1] Tryz.func140 rfl rfl rfl rfl rfl ?_; refine AW.seq ?_; refine AW.region ?_; refine AR.step rfl rfl rfl (AO.calc' rfl ?_); refine AR.nil [0,1] rfl ?_; refine AW.seq ?_; refine AW.region ?_; refine AR.step rfl rfl rfl (AO.calc' rfl ?_); refine AR.step rfl rfl rfl (AO.call rfl _ rfl rfl X8 (H7 hp ?_)); refine AR.nil [0,1] rfl ?_; refine AW.seq ?_; refine AW.region ?_; refine AR.step rfl rfl rfl (AO.calc' rfl ?_); refine AR.step rfl rfl rfl (AO.calc' rfl ?_); refine AR.step rfl rfl rfl (AO.nilCheck rfl rfl ?_); refine AR.step rfl rfl rfl (AO.dB rfl rfl sK ?_); refine AR.step rfl rfl rfl (AO.kN (i:=0) rfl rfl rfl Fz rfl rfl ?_); refine AR.step rfl rfl rfl (AO.calc' rfl ?_); refine AR.step rfl rfl rfl (AO.buildSlice rfl Wq rfl rfl rfl ?_); refine AR.step rfl rfl rfl (AO.Oz (i:=1) hv rfl rfl rfl rfl rfl (Lb.list rfl O1 (by simp [jK]) (by simp [jK,PV.one])) rfl Wq (fun v' s1 hs1 hr1=>?_)); cases hs1; refine AR.step rfl rfl rfl (AO.nilCheck rfl rfl ?_); refine AR.step rfl rfl rfl (AO.dB rfl rfl sK ?_); refine AR.bF rfl rfl (AO.tX (i:=0) rfl rfl rfl Fz rfl rfl rfl rfl rfl ?_); refine AR.nil [1] rfl ?_; refine AW.seq ?_; refine AW.region ?_; refine AR.step rfl rfl rfl (AO.calc' rfl ?_); refine AR.nil [4] rfl ?_; refine AW.ret ?_; exact ⟨rfl,_,⟨_,_,rfl,rfl,rfl⟩,_,List.Sublist.refl _,_,v',r,rfl,.inr rfl,hr1 hroom,h v'⟩
theorem jH {b:Nat} {v:Value} {bs r:List UInt8} {s:List UInt8} (hv:app bs s=some r) {R:dx→List bf→Prop} (h:∀ v',R (.ret (.tuple [.int .i64 (s.length:Int),.val .nilIface])) [.K_ b v' 167 5 r]):AC Tryz.prog 141 [.val (.pointer (some ⟨b,0,none⟩)),.str s] [.K_ b v 167 5 bs] R:=by
  refine AC.K_ fun p hp hroom=>?_; refine AC.jX 19 [.tmp 4,.tmp 5] [0,1] Tryz.func141 rfl rfl rfl rfl rfl ?_; refine AW.seq ?_; refine AW.region ?_; refine AR.step rfl rfl rfl (AO.calc' rfl ?_); refine AR.step rfl rfl rfl (AO.calc' rfl ?_); refine AR.nil [0,1] rfl ?_; refine AW.seq ?_; refine AW.region ?_; refine AR.step rfl rfl rfl (AO.calc' rfl ?_); refine AR.step rfl rfl rfl (AO.call rfl _ rfl rfl X8 (H7 hp ?_)); refine AR.nil [0,1] rfl ?_; refine AW.seq ?_; refine AW.region ?_; refine AR.step rfl rfl rfl (AO.calc' rfl ?_); refine AR.step rfl rfl rfl (AO.calc' rfl ?_); refine AR.step rfl rfl rfl (AO.nilCheck rfl rfl ?_); refine AR.step rfl rfl rfl (AO.dB rfl rfl sK ?_); refine AR.step rfl rfl rfl (AO.kN (i:=0) rfl rfl rfl Fz rfl rfl ?_); refine AR.step rfl rfl rfl (AO.calc' rfl ?_); refine AR.step rfl rfl rfl (AO.Oz (i:=1) hv rfl rfl rfl rfl rfl (Lb.str dR) rfl Wq (fun v' s1 hs1 hr1=>?_)); cases hs1; refine AR.step rfl rfl rfl (AO.nilCheck rfl rfl ?_); refine AR.step rfl rfl rfl (AO.dB rfl rfl sK ?_); refine AR.bF rfl rfl (AO.tX (i:=0) rfl rfl rfl Fz rfl rfl rfl rfl rfl ?_); refine AR.nil [1] rfl ?_; refine AW.seq ?_; refine AW.region ?_; refine AR.step rfl rfl rfl (AO.calc' rfl ?_); refine AR.step rfl rfl rfl (AO.cK rfl rfl rfl rfl dR rfl ?_); refine AR.step rfl rfl rfl (AO.calc' rfl ?_); refine AR.step rfl rfl rfl (AO.calc' rfl ?_); refine AR.nil [4,5] rfl ?_; refine AW.ret ?_; exact ⟨rfl,_,⟨_,_,rfl,rfl,_,_,rfl,rfl,rfl⟩,_,List.Sublist.refl _,_,v',r,rfl,.inr rfl,hr1 hroom,h v'⟩
theorem UJ {b:Nat} {v:Value} {bs:List UInt8} {R:dx→List bf→Prop} (h:R (.ret (.int .i64 (bs.length:Int))) [.K_ b v 167 5 bs]):AC Tryz.prog 156 [.val (.pointer (some ⟨b,0,none⟩))] [.K_ b v 167 5 bs] R:=by
  refine AC.K_ fun p hp hroom=>?_; refine AC.jX 8 [.tmp 2] [0] Tryz.func156 rfl rfl rfl rfl rfl ?_; refine AW.seq ?_; refine AW.region ?_; refine AR.step rfl rfl rfl (AO.calc' rfl ?_); refine AR.nil [0] rfl ?_; refine AW.seq ?_; refine AW.region ?_; refine AR.step rfl rfl rfl (AO.calc' rfl ?_); refine AR.step rfl rfl rfl (AO.nilCheck rfl rfl ?_); refine AR.step rfl rfl rfl (AO.dB rfl rfl sK ?_); refine AR.step rfl rfl rfl (AO.kN (i:=0) rfl rfl rfl Fz rfl rfl ?_); refine AR.step rfl rfl rfl (AO.aO (l:=bs) rfl rfl rfl rfl O1 rfl rfl ?_); refine AR.step rfl rfl rfl (AO.calc' rfl ?_); refine AR.nil [2] rfl ?_; refine AW.ret ?_; exact ⟨rfl,_,⟨_,_,rfl,rfl,rfl⟩,_,List.Sublist.refl _,p,v,bs,rfl,hp,hroom,h⟩
theorem w_ {b:Nat} {v:Value} {bs:List UInt8} {R:dx→List bf→Prop} (h:R (.ret (.str bs)) []):AC Tryz.prog 142 [.val (.pointer (some ⟨b,0,none⟩))] [.K_ b v 167 5 bs] R:=by
  refine AC.adz fun p hroom=>?_; refine AC.jX 14 [.tmp 2] [0] Tryz.func142 rfl rfl rfl rfl rfl ?_; refine AW.seq ?_; refine AW.region ?_; refine AR.step rfl rfl rfl (AO.calc' rfl ?_); refine AR.nil [0] rfl ?_; refine AW.seq ?_; refine AW.draw 10 mixed (by kernel_rfl) rfl ?_; refine Ev.cons rfl rfl rfl (AO.calc' rfl ⟨rfl,rfl⟩) ?_; refine Ev.cons rfl rfl rfl (AO.nilCheck rfl rfl ⟨rfl,rfl⟩) ?_; refine Ev.cons rfl rfl rfl (AO.dB rfl rfl sK ⟨rfl,rfl⟩) ?_; refine Ev.cons rfl rfl rfl (AO.kN (i:=0) rfl rfl rfl Fz rfl rfl ⟨rfl,rfl⟩) ?_; refine Ev.cons rfl rfl rfl (AO.sliceData rfl rfl rfl rfl hroom ⟨rfl,rfl⟩) ?_; refine Ev.cons rfl rfl rfl (AO.calc' rfl ⟨rfl,rfl⟩) ?_; refine Ev.cons rfl rfl rfl (AO.nilCheck rfl rfl ⟨rfl,rfl⟩) ?_; refine Ev.cons rfl rfl rfl (AO.dB rfl rfl sK ⟨rfl,rfl⟩) ?_; refine Ev.cons rfl rfl rfl (AO.kN (i:=0) rfl rfl rfl Fz rfl rfl ⟨rfl,rfl⟩) ?_; refine Ev.cons rfl rfl rfl (AO.aO (l:=bs) rfl rfl rfl rfl O1 rfl rfl ⟨rfl,rfl⟩) ?_; refine Ev.nil ?_; show AR _ _ _ _ _ _ _ _; refine AR.step rfl rfl rfl (AO.unsafeString rfl rfl rfl rfl aaQ ahH rfl rfl rfl ?_); refine AR.step rfl rfl rfl (AO.calc' rfl ?_); refine AR.nil [2] rfl ?_; refine AW.ret ?_; exact ⟨rfl,_,⟨_,_,rfl,rfl,rfl⟩,[],List.nil_sublist _,h⟩
theorem Sn {b:Nat} {q:PV} {v p:Value} {bs:List UInt8} (hp:p=Value.pointer none∨p=.pointer (some ⟨b,1,none⟩)) {R:dx→List bf→Prop} (h:R (.ret (.tuple [])) [.row v (List.length bs) 1 5,.kV b 209 [q,.val (.pointer (some ⟨b,1,none⟩)),.own v (List.map jK bs)]]):
    AC Tryz.prog 166 [.val (.pointer (some ⟨b,1,none⟩))] [.row v (List.length bs) 1 5,.kV b 209 [q,.val p,.own v (List.map jK bs)]] R:=by
  obtain ⟨j,hj1,hj2⟩:=inB; rcases hp with rfl | rfl
  · skip
    refine AC.jX 20 [] [0] Tryz.func166 rfl rfl rfl rfl rfl ?_; refine AW.seq ?_; refine AW.region ?_; refine AR.step rfl rfl rfl (AO.calc' rfl ?_); refine AR.step rfl rfl rfl (AO.nilCheck rfl rfl ?_); refine AR.step rfl rfl rfl (AO.dB rfl rfl zW ?_); refine AR.step rfl rfl rfl (AO.kN (i:=1) rfl rfl rfl Gf rfl rfl ?_); refine AR.step rfl rfl rfl (AO.P8 rfl EX rfl rfl ?_); refine AR.nil [0,6] rfl ?_; refine AW.cond rfl (fun h1=>?_) (fun h1=>?_)
    · refine AW.region ?_; refine AR.step rfl rfl rfl (AO.calc' rfl ?_); refine AR.step rfl rfl rfl (AO.calc' rfl ?_); refine AR.step rfl rfl rfl (AO.X0 (i:=1) (n:=1) rfl EX U3 hj1 hj2 rfl rfl rfl ?_); refine AR.step rfl rfl rfl (AO.WL rfl rfl rfl rfl Tryz.func200 (by kernel_rfl) (by kernel_rfl) (by kernel_rfl) (by kernel_rfl) rfl ?_); refine AR.step rfl rfl rfl (AO.Vs (i:=1) rfl U3 EX hj1 rfl rfl rfl ag7 ?_); refine AR.step rfl rfl rfl (AO.nilCheck rfl rfl ?_); refine AR.step rfl rfl rfl (AO.dB rfl rfl zW ?_); refine AR.bF rfl rfl (AO.tX (i:=1) rfl rfl rfl Gf rfl rfl rfl rfl rfl ?_); refine AR.nil [] rfl ?_; exact ⟨rfl,[],rfl,_,List.Sublist.refl _,h⟩
    · cases h1
  · skip
    refine AC.jX 20 [] [0] Tryz.func166 rfl rfl rfl rfl rfl ?_; refine AW.seq ?_; refine AW.region ?_; refine AR.step rfl rfl rfl (AO.calc' rfl ?_); refine AR.step rfl rfl rfl (AO.nilCheck rfl rfl ?_); refine AR.step rfl rfl rfl (AO.dB rfl rfl zW ?_); refine AR.step rfl rfl rfl (AO.kN (i:=1) rfl rfl rfl Gf rfl rfl ?_); refine AR.step rfl rfl rfl (AO.P8 rfl EX rfl rfl ?_); refine AR.nil [0,6] rfl ?_; refine AW.cond rfl (fun h1=>?_) (fun h1=>?_)
    · cases h1
    · refine AW.seq ?_; refine AW.region ?_; refine AR.step rfl rfl rfl (AO.calc' rfl ?_); refine AR.step rfl rfl rfl (AO.nilCheck rfl rfl ?_); refine AR.step rfl rfl rfl (AO.dB rfl rfl zW ?_); refine AR.step rfl rfl rfl (AO.kN (i:=1) rfl rfl rfl Gf rfl rfl ?_); refine AR.step rfl rfl rfl (AO.calc' rfl ?_); refine AR.step rfl rfl rfl (AO.MO rfl EX hj1 rfl rfl ?_); refine AR.nil [19] rfl ?_; refine AW.cond rfl (fun h2=>?_) (fun h2=>?_)
      · cases h2
      · refine AW.skip ?_; exact ⟨rfl,[],rfl,_,List.Sublist.refl _,h⟩
theorem JR {b:Nat} {q:PV} {v p:Value} {bs r:List UInt8} (hp:p=Value.pointer none∨p=.pointer (some ⟨b,1,none⟩)) (hroom:roomy v=true) {c:UInt8} (hv:app bs [c]=some r) {R:dx→List bf→Prop} (h:∀ v',roomy v'=true→R (.ret (.val .nilIface)) [.row v' (List.length r) 1 5,.kV b 209 [q,.val (.pointer (some ⟨b,1,none⟩)),.own v' (List.map jK r)]]):AC Tryz.prog 140 [.val (.pointer (some ⟨b,1,none⟩)),.int .u8 (c.toNat:Int)] [.row v (List.length bs) 1 5,.kV b 209 [q,.val p,.own v (List.map jK bs)]] R:=by
  refine AC.jX 17 [.tmp 4] [0,1] Tryz.func140 rfl rfl rfl rfl rfl ?_; refine AW.seq ?_; refine AW.region ?_; refine AR.step rfl rfl rfl (AO.calc' rfl ?_); refine AR.nil [0,1] rfl ?_; refine AW.seq ?_; refine AW.region ?_; refine AR.step rfl rfl rfl (AO.calc' rfl ?_); refine AR.step rfl rfl rfl (AO.call rfl _ rfl rfl X8 (Sn hp ?_)); refine AR.nil [0,1] rfl ?_; refine AW.seq ?_; refine AW.region ?_; refine AR.step rfl rfl rfl (AO.calc' rfl ?_); refine AR.step rfl rfl rfl (AO.calc' rfl ?_); refine AR.step rfl rfl rfl (AO.nilCheck rfl rfl ?_); refine AR.step rfl rfl rfl (AO.dB rfl rfl sK ?_); refine AR.step rfl rfl rfl (AO.kN (i:=1) rfl rfl rfl Fz rfl rfl ?_); refine AR.step rfl rfl rfl (AO.calc' rfl ?_); refine AR.step rfl rfl rfl (AO.buildSlice rfl Wq rfl rfl rfl ?_); refine AR.step rfl rfl rfl (AO.Oz (i:=0) hv rfl rfl rfl rfl rfl (Lb.list rfl O1 (by simp [jK]) (by simp [jK,PV.one])) rfl Wq (fun v' s1 hs1 hr1=>?_)); cases hs1; refine AR.step rfl rfl rfl (AO.nilCheck rfl rfl ?_); refine AR.step rfl rfl rfl (AO.dB rfl rfl sK ?_); refine AR.bF rfl rfl (AO.tX (i:=1) rfl rfl rfl Fz rfl rfl rfl rfl rfl ?_); refine AR.nil [1] rfl ?_; refine AW.seq ?_; refine AW.region ?_; refine AR.step rfl rfl rfl (AO.calc' rfl ?_); refine AR.nil [4] rfl ?_; refine AW.ret ?_; exact ⟨rfl,_,⟨_,_,rfl,rfl,rfl⟩,_,List.Sublist.refl _,h v' (hr1 hroom)⟩
theorem acn {b:Nat} {q:PV} {v p:Value} {bs:List UInt8} {R:dx→List bf→Prop} (h:R (.ret (.int .i64 (bs.length:Int))) [.row v (List.length bs) 1 5,.kV b 209 [q,.val p,.own v (List.map jK bs)]]):AC Tryz.prog 156 [.val (.pointer (some ⟨b,1,none⟩))] [.row v (List.length bs) 1 5,.kV b 209 [q,.val p,.own v (List.map jK bs)]] R:=by
  refine AC.jX 8 [.tmp 2] [0] Tryz.func156 rfl rfl rfl rfl rfl ?_; refine AW.seq ?_; refine AW.region ?_; refine AR.step rfl rfl rfl (AO.calc' rfl ?_); refine AR.nil [0] rfl ?_; refine AW.seq ?_; refine AW.region ?_; refine AR.step rfl rfl rfl (AO.calc' rfl ?_); refine AR.step rfl rfl rfl (AO.nilCheck rfl rfl ?_); refine AR.step rfl rfl rfl (AO.dB rfl rfl sK ?_); refine AR.step rfl rfl rfl (AO.kN (i:=1) rfl rfl rfl Fz rfl rfl ?_); refine AR.step rfl rfl rfl (AO.aO (l:=bs) rfl rfl rfl rfl O1 rfl rfl ?_); refine AR.step rfl rfl rfl (AO.calc' rfl ?_); refine AR.nil [2] rfl ?_; refine AW.ret ?_; exact ⟨rfl,_,⟨_,_,rfl,rfl,rfl⟩,_,List.Sublist.refl _,h⟩
theorem XA {b:Nat} {q:PV} {v p:Value} {bs:List UInt8} (hroom:roomy v=true) {R:dx→List bf→Prop} (h:R (.ret (.str bs)) [.kV b 209 [q,.val p,.own v (List.map jK bs)]]):AC Tryz.prog 142 [.val (.pointer (some ⟨b,1,none⟩))] [.row v (List.length bs) 1 5,.kV b 209 [q,.val p,.own v (List.map jK bs)]] R:=by
  refine AC.jX 14 [.tmp 2] [0] Tryz.func142 rfl rfl rfl rfl rfl ?_; refine AW.seq ?_; refine AW.region ?_; refine AR.step rfl rfl rfl (AO.calc' rfl ?_); refine AR.nil [0] rfl ?_; refine AW.seq ?_; refine AW.draw 10 mixed (by kernel_rfl) rfl ?_; refine Ev.cons rfl rfl rfl (AO.calc' rfl ⟨rfl,rfl⟩) ?_; refine Ev.cons rfl rfl rfl (AO.nilCheck rfl rfl ⟨rfl,rfl⟩) ?_; refine Ev.cons rfl rfl rfl (AO.dB rfl rfl sK ⟨rfl,rfl⟩) ?_; refine Ev.cons rfl rfl rfl (AO.kN (i:=1) rfl rfl rfl Fz rfl rfl ⟨rfl,rfl⟩) ?_; refine Ev.cons rfl rfl rfl (AO.sliceData rfl rfl rfl rfl hroom ⟨rfl,rfl⟩) ?_; refine Ev.cons rfl rfl rfl (AO.calc' rfl ⟨rfl,rfl⟩) ?_; refine Ev.cons rfl rfl rfl (AO.nilCheck rfl rfl ⟨rfl,rfl⟩) ?_; refine Ev.cons rfl rfl rfl (AO.dB rfl rfl sK ⟨rfl,rfl⟩) ?_; refine Ev.cons rfl rfl rfl (AO.kN (i:=1) rfl rfl rfl Fz rfl rfl ⟨rfl,rfl⟩) ?_; refine Ev.cons rfl rfl rfl (AO.aO (l:=bs) rfl rfl rfl rfl O1 rfl rfl ⟨rfl,rfl⟩) ?_; refine Ev.nil ?_; show AR _ _ _ _ _ _ _ _; refine AR.step rfl rfl rfl (AO.SQ rfl rfl rfl rfl aaQ ahH rfl rfl rfl ?_); refine AR.step rfl rfl rfl (AO.calc' rfl ?_); refine AR.nil [2] rfl ?_; refine AW.ret ?_; exact ⟨rfl,_,⟨_,_,rfl,rfl,rfl⟩,_,List.Sublist.refl _,h⟩
theorem Sq {b:Nat} {q:PV} {v p:Value} {bs:List UInt8} {R:dx→List bf→Prop} (h:R (.ret (.tuple [])) [.kV b 209 [q,.val (.pointer none),.own (.slice none 0 0) (List.map jK [])]]):AC Tryz.prog 221 [.val (.pointer (some ⟨b,1,none⟩))] [.kV b 209 [q,.val p,.own v (List.map jK bs)]] R:=by
  refine AC.jX 8 [] [0] Tryz.func221 rfl rfl rfl rfl rfl ?_; refine AW.seq ?_; refine AW.region ?_; refine AR.step rfl rfl rfl (AO.calc' rfl ?_); refine AR.step rfl rfl rfl (AO.nilCheck rfl rfl ?_); refine AR.step rfl rfl rfl (AO.dB rfl rfl zW ?_); refine AR.bF rfl rfl (AO.tX (i:=0) rfl rfl rfl Gf rfl rfl rfl rfl rfl ?_); refine AR.nil [0] rfl ?_; refine AW.region ?_; refine AR.step rfl rfl rfl (AO.calc' rfl ?_); refine AR.step rfl rfl rfl (AO.nilCheck rfl rfl ?_); refine AR.step rfl rfl rfl (AO.dB rfl rfl sK ?_); refine AR.bF rfl rfl (AO.tX (i:=0) rfl rfl rfl Fz rfl rfl rfl rfl rfl ?_); refine AR.nil [] rfl ?_; exact ⟨rfl,[],rfl,_,List.Sublist.refl _,h⟩
theorem Xt (v1:ah) {r0:Bool} (hf:FI v1=some r0) (h:Q (.ret (.bool r0)) τ):PC 56 [.agg (aN v1)] τ Q:=by
 unfold FI at hf; refine BN 53 [.tmp 2] [0] Tryz.func56 Z Z Z Z Z (W 5 Z (An 4 5 9 [1] (v1.kind != 1) Z Z Z Z (U 1 Z (AR.or 9 10 19 [1] (x:=((v1.gI != 0) && (v1.kind != 2))) Z Z (fun h2=>?_) (fun h2=>?_) ?_))))
 · refine Is 10 h2 Z (U 4 Z (An 4 14 18 [1,10] (v1.kind != 2) Z Z Z Z ?_)); exact fI 1 Z (En [19,1] Z)
 · refine Is 10 h2 Z ?_; exact fI 9 Z (En [19,1] Z)
 refine U 1 Z (AR.or 9 20 29 [1] (x:=((!(v1.fM == ([]:Str))) && (v1.kind != 3))) Z Z (fun h4=>?_) (fun h4=>?_) ?_)
 · refine Is 20 h4 Z (U 4 Z (An 4 24 28 [1,20] (v1.kind != 3) Z Z Z Z ?_)); exact fI 1 Z (En [29,1] Z)
 · refine Is 20 h4 Z ?_; exact fI 9 Z (En [29,1] Z)
 refine J 0 Z (C hf Z (fun h6 hf=>?_) fun h6 hf=>?_)
 · cases hf; exact M 1 Z (Y Z h)
 refine W 2 Z (AS Z (AO.aO (l:=v1.aW) Z Z Z Z iK Z (ah.aB _) (U 2 Z (An 4 34 38 [1] (v1.kind != 4) Z Z Z Z (U 1 Z (An 4 39 43 [1] (v1.kind != 5) Z Z Z Z (J 0 Z (C hf Z (fun h9 hf=>?_) fun h9 hf=>?_))))))))
 · cases hf; exact M 1 Z (Y Z h)
 refine W 2 Z (AS Z (AO.aO (l:=v1.keys) Z Z Z Z jm Z Z (U 2 Z (On 4 48 52 [] (v1.kind == 5) Z Z Z Z ?_)))); cases hf; exact N 1 Z (Y Z h)
theorem aan (s1:Str) {r0:Bool} (hf:MK s1=some r0) (h:Q (.ret (.bool r0)) τ):PC 91 [.str s1] τ Q:=by
 unfold MK at hf; refine BN 11 [.tmp 2] [0] Tryz.func91 Z Z Z Z Z (W 2 Z (AS Z (AO.cK Z Z Z Z dR Z (U 2 Z (AR.and 4 6 10 [] (x:=(decide ((s1.length:Int)≤64))) Z Z (fun h1=>?_) (fun h1=>?_) ?_)))))
 · refine Is 6 h1 Z (U 1 Z (GO Z (AO.cK Z Z Z Z dR Z ?_))); exact fI 2 Z (En [10] Z)
 · refine Is 6 h1 Z ?_; exact fI 4 Z (En [10] Z)
 cases hf; exact N 1 Z (Y Z h)
theorem BU (Y5:Bool) (M0:Bool) {r0:Int} (hf:wP Y5 M0=some r0) (h:Q (.ret (iP r0)) τ):PC 123 [.bool Y5,.bool M0] τ Q:=by
 unfold wP at hf; refine BN 7 [.tmp 4] [0,1] Tryz.func123 Z Z Z Z Z (V 2 Z (C hf Z (fun h1 hf=>?_) fun h1 hf=>?_))
 · cases hf; exact M 1 Z (Y Z h)
 refine V 1 Z (C hf Z (fun h2 hf=>?_) fun h2 hf=>?_)
 · cases hf; exact M 1 Z (Y Z h)
 cases hf; exact M 1 Z (Y Z h)
theorem JH (c1:UInt8) {r0:Bool} (hf:Dl c1=some r0) (h:Q (.ret (.bool r0)) τ):PC 124 [.int .u8 (c1.toNat:Int)] τ Q:=by
 unfold Dl at hf; refine BN 9 [.tmp 2] [0] Tryz.func124 Z Z Z Z Z (W 4 Z (An 3 5 8 [] (decide ((c1.toNat:Int)≤57)) Z Z Z Z ?_)); cases hf; exact N 1 Z (Y Z h)
theorem UG (s1:Str) (jL:Int) {r0:Int} (hf:ML s1 jL=some r0) (h:Q (.ret (iP r0)) τ):PC 125 [.str s1,iP jL] τ Q:=by
 unfold ML at hf; refine BN 18 [.tmp 4] [0,1] Tryz.func125 Z Z Z Z Z (V 1 Z (JY (fun at2=>[(0,.str s1),(1,iP at2)]) (fun at2=>[]) (fun bX at2=>DK s1 bX at2=some r0) BIG jL Z Z hf (fun _ hz=>bT hz) ?_)); intro bX at2 hf; rw [DK] at hf; refine W 2 Z (AS Z (AO.cK Z Z Z Z dR Z ?_)); refine B1 hf fun b1 h2 hf=>U 2 Z (AR.fK 5 9 14 true [0,1] b1 Z Z (fun h1=>?_) (fun h1=>?_) ?_)
 · refine IT 9 h1 h2 Z fun h2=>?_; refine B1 h2 fun x1 h3 h2=>U 2 Z (GO Z (AO.fV h3 Z dR Z Z ?_)); refine BR h2 fun x2 h4 h2=>?_; refine GO Z (AO.call Z _ Z Z abD (JH _ h4 ?_)); cases h2; exact fI 1 Z (En [14,0,1] Z)
 · refine IF 9 h1 h2 Z fun h2=>?_; cases h2; exact fI 5 Z (En [14,0,1] Z)
 refine J 0 Z (C hf Z (fun h5 hf=>?_) fun h5 hf=>?_)
 · exact M 3 Z ⟨(cZ (at2 + 1)),Z,Z,Z,hf⟩
 cases hf; exact M 2 Z (Y Z h)
theorem O6 (s1:Str) {r0:Str} (hf:Dk s1=some r0) (h:Q (.ret (.str r0)) τ):PC 157 [.str s1] τ Q:=by
 unfold Dk at hf; refine BN 19 [.tmp 2] [0] Tryz.func157 Z Z Z Z Z (V 2 Z (JY (fun i1=>[(0,.str s1),(3,iP i1)]) (fun i1=>[]) (fun bX i1=>wO s1 bX i1=some r0) BIG 0 Z Z hf (fun _ hz=>bT hz) ?_)); intro bX i1 hf; rw [wO] at hf; refine W 2 Z (AS Z (AO.cK Z Z Z Z dR Z ?_)); refine B1 hf fun b1 h2 hf=>U 2 Z (AR.fK 5 8 13 true [0,3] b1 Z Z (fun h1=>?_) (fun h1=>?_) ?_)
 · refine IT 8 h1 h2 Z fun h2=>?_; refine B1 h2 fun x1 h3 h2=>U 2 Z (GO Z (AO.fV h3 Z dR Z Z ?_)); cases h2; exact fI 2 Z (En [13,0,3] Z)
 · refine IF 8 h1 h2 Z fun h2=>?_; cases h2; exact fI 5 Z (En [13,0,3] Z)
 refine J 0 Z (C hf Z (fun h4 hf=>?_) fun h4 hf=>?_)
 · exact M 3 Z ⟨(cZ (i1 + 1)),Z,Z,Z,hf⟩
 refine BR hf fun x2 h5 hf=>?_; refine W 2 Z (AS Z (AO.qd h5 Z dR Z ⟨_,Z⟩ Z ?_)); cases hf; exact N 1 Z (Y Z h)
theorem Yq (a1:Str) (b1:Str) {r0:Int} (hf:I5 a1 b1=some r0) (h:Q (.ret (iP r0)) τ):PC 126 [.str a1,.str b1] τ Q:=by
 unfold I5 at hf; refine BN 48 [.tmp 4] [0,1] Tryz.func126 Z Z Z Z Z ?_; refine B1 hf fun x1 h1 hf=>W 2 Z (CL Z (O6 _ h1 ?_)); refine B1 hf fun y1 h2 hf=>U 1 Z (CL Z (O6 _ h2 (U 3 Z (AS Z (AO.cK Z Z Z Z dR Z (U 1 Z (AS Z (AO.cK Z Z Z Z dR Z (J 1 Z (C hf Z (fun h3 hf=>?_) fun h3 hf=>?_))))))))))
 · refine W 1 Z (AS Z (AO.cK Z Z Z Z dR Z (U 1 Z (AS Z (AO.cK Z Z Z Z dR Z (U 2 Z (AS Z (AO.cK Z Z Z Z dR Z (U 1 Z (AS Z (AO.cK Z Z Z Z dR Z ?_))))))))))); refine BR hf fun x2 h4 hf=>?_; refine U 1 Z (CL Z (BU _ _ h4 ?_)); cases hf; exact N 1 Z (Y Z h)
 refine V 3 Z (C hf Z (fun h5 hf=>?_) fun h5 hf=>?_)
 · refine BR hf fun x3 h6 hf=>?_; refine W 6 Z (CL Z (BU _ _ h6 ?_)); cases hf; exact N 1 Z (Y Z h)
 refine W 1 Z (AS Z (AO.cK Z Z Z Z dR Z (U 1 Z (AS Z (AO.cK Z Z Z Z dR Z (U 2 Z (AS Z (AO.cK Z Z Z Z dR Z (U 1 Z (AS Z (AO.cK Z Z Z Z dR Z ?_))))))))))); refine BR hf fun x4 h7 hf=>?_; refine U 1 Z (CL Z (BU _ _ h7 ?_)); cases hf; exact N 1 Z (Y Z h)
theorem TA (a1:Str) (b1:Str) {r0:Int} (hf:qU a1 b1=some r0) (h:Q (.ret (iP r0)) τ):PC 92 [.str a1,.str b1] τ Q:=by
 unfold qU at hf; refine BN 78 [.tmp 4] [0,1] Tryz.func92 Z Z Z Z Z (V 3 Z (Zq (fun i1 Al=>[(0,.str a1),(1,.str b1),(5,iP i1),(6,iP Al)]) (fun i1 Al=>[]) (fun bX i1 Al=>oh a1 b1 bX i1 Al=some r0) BIG 0 0 Z Z hf (fun _ _ hz=>bT hz) ?_)); intro bX i1 Al hf; rw [oh] at hf; refine W 2 Z (AS Z (AO.cK Z Z Z Z dR Z (U 2 Z (AR.and 5 14 19 [0,1,5,6] (x:=(decide (Al < (b1.length:Int)))) Z Z (fun h1=>?_) (fun h1=>?_) ?_))))
 · refine Is 14 h1 Z (U 2 Z (GO Z (AO.cK Z Z Z Z dR Z ?_))); exact fI 2 Z (En [19,0,1,5,6] Z)
 · refine Is 14 h1 Z ?_; exact fI 5 Z (En [19,0,1,5,6] Z)
 refine J 0 Z (C hf Z (fun h2 hf=>?_) fun h2 hf=>?_)
 ·
  refine V 0 Z (AW.draw 16 mixed (by kernel_rfl) Z ?_); refine Ev.cs bC 2 Z ?_; refine B1 hf fun x1 h3 hf=>Ev.cons Z Z Z (AO.fV h3 Z dR Z Z zg) (Ev.cs bC 2 Z ?_); refine B1 hf fun x2 h4 hf=>Ev.cons Z Z Z (AO.fV h4 Z dR Z Z zg) (Ev.cs bC 3 Z ?_); refine B1 hf fun x3 h5 hf=>Ev.cons Z Z Z (AO.fV h5 Z dR Z Z zg) (Ev.cs bC 2 Z ?_); refine B1 hf fun x4 h6 hf=>Ev.cons Z Z Z (AO.fV h6 Z dR Z Z zg) (Ev.cs bC 1 Z ?_); refine B1 hf fun c1 h7 hf=>Ev.cons Z Z Z (AO.call Z _ Z Z ae4 (BU _ _ h7 zg)) (Ev.cs bC 1 Z (Ev.nil ?_)); show AR _ _ _ _ _ _ _ _; refine B1 hf fun x5 h8 hf=>U 8 Z (AS Z (AO.fV h8 Z dR Z Z ?_)); refine B1 hf fun x6 h9 hf=>CL Z (JH _ h9 ?_); refine B1 hf fun b2 h11 hf=>U 1 Z (AR.fK 5 43 48 true [0,1,5,6,7,8,9] b2 Z Z (fun h10=>?_) (fun h10=>?_) ?_)
  · refine IT 43 h10 h11 Z fun h11=>?_; refine B1 h11 fun x7 h12 h11=>U 2 Z (GO Z (AO.fV h12 Z dR Z Z ?_)); refine BR h11 fun x8 lZ h11=>?_; refine GO Z (AO.call Z _ Z Z abD (JH _ lZ ?_)); cases h11; exact fI 1 Z (En [48,0,1,5,6,7,8,9] Z)
  · refine IF 43 h10 h11 Z fun h11=>?_; cases h11; exact fI 5 Z (En [48,0,1,5,6,7,8,9] Z)
  refine J 0 Z (C hf Z (fun nu hf=>?_) fun nu hf=>?_)
  ·
   refine B1 hf fun m1 tq hf=>W 2 Z (CL Z (UG _ _ tq ?_)); refine B1 hf fun n1 h16 hf=>U 2 Z (CL Z (UG _ _ h16 (J 2 Z (AW.draw 10 mixed (by kernel_rfl) Z ?_)))); refine Ev.cs bC 3 Z ?_; refine B1 hf fun x9 Ao hf=>Ev.cons Z Z Z (AO.qd Ao Z dR Z ⟨_,Z⟩ ⟨_,Z⟩ zg) (Ev.cs bC 3 Z ?_); refine B1 hf fun Il h18 hf=>Ev.cons Z Z Z (AO.qd h18 Z dR Z ⟨_,Z⟩ ⟨_,Z⟩ zg) ?_; refine B1 hf fun c2 h19 hf=>Ev.cons Z Z Z (AO.call Z _ Z Z ae3 (Yq _ _ h19 zg)) (Ev.cs bC 1 Z (Ev.nil ?_)); show AR _ _ _ _ _ _ _ _; refine J 2 Z (C hf Z (fun h20 hf=>?_) fun h20 hf=>?_)
   · cases hf; exact M 2 Z (Y Z h)
   exact M 4 Z ⟨m1,n1,Z,Z,Z,hf⟩
  refine V 2 Z (C hf Z (fun h21 hf=>?_) fun h21 hf=>?_)
  · cases hf; exact M 2 Z (Y Z h)
  exact M 4 Z ⟨(cZ (i1 + 1)),(cZ (Al + 1)),Z,Z,Z,hf⟩
 refine W 2 Z (AS Z (AO.cK Z Z Z Z dR Z (U 3 Z (AS Z (AO.cK Z Z Z Z dR Z ?_))))); refine BR hf fun Li h22 hf=>?_; refine U 1 Z (CL Z (BU _ _ h22 ?_)); cases hf; exact N 1 Z (Y Z h)
theorem PO (v1:ah) {r0:Bool} (hf:xM v1=some r0) (h:Q (.ret (.bool r0)) τ):PC 57 [.agg (aN v1)] τ Q:=by
 unfold xM at hf; refine BN 44 [.tmp 2] [0] Tryz.func57 Z Z Z Z Z (V 3 Z (JY (fun i1=>[(1,.ref (aN v1)),(3,iP i1)]) (fun i1=>[]) (fun bX i1=>p8 v1 bX i1=some r0) BIG 0 Z Z hf (fun _ hz=>bT hz) ?_)); intro bX i1 hf; rw [p8] at hf; refine W 3 Z (AS Z (AO.aO (l:=v1.keys) Z Z Z Z jm Z Z (J 1 Z (C hf Z (fun h1 hf=>?_) fun h1 hf=>?_))))
 ·
  refine V 0 Z (AW.draw 26 mixed (by kernel_rfl) Z ?_); refine Ev.cs bC 3 Z ?_; refine B1 hf fun e1 h2 hf=>Ev.cons Z Z Z (AO.aP h2 Z Z Z Z jm Z Z zg) (Ev.cs bC 1 Z ?_); refine B1 hf fun x1 h3 hf=>Ev.cons Z Z Z (AO.call Z _ Z Z agC (aan _ h3 zg)) (Ev.cs bC 2 Z ?_); refine B1 hf fun b1 h5 hf=>Ev.fK hKA 18 18 36 false [1,3] (.bool b1) Z Z (fun h4=>?_) (fun h4=>?_) ?_
  ·
   replace h5:=iw h4 h5; refine Ev.is W_ 18 h4 Z (Ev.cs bC 3 Z ?_); refine BR h5 fun b2 h7 h5=>?_; refine Ev.fK W_ 14 21 35 true [1,3,18] (.bool b2) Z Z (fun h6=>?_) (fun h6=>?_) ?_
   ·
    replace h7:=jF h6 h7; refine Ev.is W_ 21 h6 Z (Ev.cs bC 4 Z ?_); refine B1 h7 fun e2 h8 h7=>Ev.run Z Z Z Z Z Z Z (AO.aP h8 Z Z Z Z jm Z Z zg) (Ev.cs bC 4 Z ?_); refine B1 h7 fun e3 h9 h7=>Ev.run Z Z Z Z Z Z Z (AO.aP h9 Z Z Z Z jm Z Z zg) (Ev.cs bC 1 Z ?_); refine B1 h7 fun x2 h10 h7=>Ev.run Z Z Z Z Z Z Z (AO.call Z _ Z Z agB (TA _ _ h10 zg)) (Ev.cs bC 1 Z ?_); cases h7; refine Ev.cs bC 1 Z ?_; exact Ev.nil (Less.settle (ps:=[35,1,3,18]) Z)
   · replace h7:=iw h6 h7; refine Ev.is W_ 21 h6 Z ?_; cases h7; refine Ev.cs bC 14 Z ?_; exact Ev.nil (Less.settle (ps:=[35,1,3,18]) Z)
   cases h5; refine Ev.cs bC 1 Z ?_; exact Ev.nil (Less.settle (ps:=[36,1,3]) Z)
  · replace h5:=jF h4 h5; refine Ev.is W_ 18 h4 Z ?_; cases h5; refine Ev.cs bC 18 Z ?_; exact Ev.nil (Less.settle (ps:=[36,1,3]) Z)
  refine Ev.nil ?_; show AR _ _ _ _ _ _ _ _; refine J 0 Z (C hf Z (fun h11 hf=>?_) fun h11 hf=>?_)
  · cases hf; exact M 1 Z (Y Z h)
  exact M 3 Z ⟨(cZ (i1 + 1)),Z,Z,Z,hf⟩
 refine W 2 Z (AS Z (AO.aO (l:=v1.keys) Z Z Z Z jm Z Z (U 2 Z (AS Z (AO.aO (l:=v1.aW) Z Z Z Z iK Z (ah.aB _) ?_))))); cases hf; exact N 2 Z (Y Z h)
abbrev Pb (nW:ah→Int→Option Int):Prop:=∀ (tO:ah) (fT:Int) {aZ:Int},nW tO fT=some aZ→∀ {τ:List bf} {Q:dx→List bf→Prop} (h:Q (.ret (iP aZ)) τ),PC 30 [.agg (aN tO),iP fT] τ Q
theorem V9 (nW) (Tj:Pb nW) (v1:ah) (bS:Int) {r0:Int} (hf:ED nW v1 bS=some r0) (h:Q (.ret (iP r0)) τ):PC 30 [.agg (aN v1),iP bS] τ Q:=by
 unfold ED at hf; refine BN 85 [.tmp 4] [0,1] Tryz.func30 Z Z Z Z Z (V 4 Z (C hf Z (fun h1 hf=>?_) fun h1 hf=>?_))
 · cases hf; exact M 1 Z (Y Z h)
 refine W 4 Z (On 4 12 16 [1,2] (decide (5 < v1.kind)) Z Z Z Z ?_); refine B1 hf fun b1 h4 hf=>U 1 Z (AR.fK 4 17 21 false [1,2] b1 Z Z (fun h3=>?_) (fun h3=>?_) ?_)
 · refine IF 17 h3 h4 Z fun h4=>?_; refine B1 h4 fun x1 h5 h4=>U 1 Z (GO Z (AO.call Z _ Z Z agP (Xt _ h5 ?_))); cases h4; exact fI 2 Z (En [21,1,2] Z)
 · refine IT 17 h3 h4 Z fun h4=>?_; cases h4; exact fI 4 Z (En [21,1,2] Z)
 refine J 0 Z (C hf Z (fun h6 hf=>?_) fun h6 hf=>?_)
 · cases hf; exact M 1 Z (Y Z h)
 refine W 4 Z (On 4 25 29 [1,2] (decide (9007199254740992 < v1.gI)) Z Z Z Z (J 0 Z (C hf Z (fun h8 hf=>?_) fun h8 hf=>?_)))
 · cases hf; exact M 1 Z (Y Z h)
 refine W 2 Z (AS Z (AO.cK Z Z Z Z dR Z (U 2 Z (AR.or 5 34 39 [1,2] (x:=(decide (1024 < (v1.aW.length:Int)))) Z Z (fun h9=>?_) (fun h9=>?_) ?_))))
 · refine Is 34 h9 Z (U 2 Z (GO Z (AO.aO (l:=v1.aW) Z Z Z Z iK Z (ah.aB _) ?_))); exact fI 2 Z (En [39,1,2] Z)
 · refine Is 34 h9 Z ?_; exact fI 5 Z (En [39,1,2] Z)
 refine U 1 Z (AR.or 5 40 45 [1,2] (x:=(decide (1024 < (v1.keys.length:Int)))) Z Z (fun h10=>?_) (fun h10=>?_) ?_)
 · refine Is 40 h10 Z (U 2 Z (GO Z (AO.aO (l:=v1.keys) Z Z Z Z jm Z Z ?_))); exact fI 2 Z (En [45,1,2] Z)
 · refine Is 40 h10 Z ?_; exact fI 5 Z (En [45,1,2] Z)
 refine J 0 Z (C hf Z (fun h11 hf=>?_) fun h11 hf=>?_)
 · cases hf; exact M 1 Z (Y Z h)
 refine B1 hf fun b2 lZ hf=>W 4 Z (AR.fK 4 49 53 true [1,2] b2 Z Z (fun h12=>?_) (fun h12=>?_) ?_)
 · refine IT 49 h12 lZ Z fun lZ=>?_; refine B1 lZ fun x2 nu lZ=>U 1 Z (GO Z (AO.call Z _ Z Z agO (PO _ nu ?_))); cases lZ; exact fI 2 Z (En [53,1,2] Z)
 · refine IF 49 h12 lZ Z fun lZ=>?_; cases lZ; exact fI 4 Z (En [53,1,2] Z)
 refine J 0 Z (C hf Z (fun tq hf=>?_) fun tq hf=>?_)
 · cases hf; exact M 1 Z (Y Z h)
 refine W 4 Z (AR.and 5 57 62 [1,2] (x:=((v1.aW.length:Int) == 0)) Z Z (fun h16=>?_) (fun h16=>?_) ?_)
 · refine Is 57 h16 Z (U 2 Z (GO Z (AO.aO (l:=v1.aW) Z Z Z Z iK Z (ah.aB _) ?_))); exact fI 2 Z (En [62,1,2] Z)
 · refine Is 57 h16 Z ?_; exact fI 5 Z (En [62,1,2] Z)
 refine U 1 Z (An 3 63 66 [1,2] (bS == 16) Z Z Z Z (J 0 Z (C hf Z (fun h18 hf=>?_) fun h18 hf=>?_)))
 · cases hf; exact M 1 Z (Y Z h)
 refine V 1 Z (JY (fun i1=>[(1,iP bS),(2,.ref (aN v1)),(5,iP i1)]) (fun i1=>[]) (fun bX i1=>zF nW v1 bS bX i1=some r0) BIG 0 Z Z hf (fun _ hz=>bT hz) ?_); intro bX i1 hf; rw [zF] at hf; refine W 3 Z (AS Z (AO.aO (l:=v1.aW) Z Z Z Z iK Z (ah.aB _) (J 1 Z (C hf Z (fun h19 hf=>?_) fun h19 hf=>?_))))
 ·
  refine B1 hf fun e1 h20 hf=>W 3 Z (AS Z (AO.aP h20 Z Z (ah.aB _) Z iK (ah.aD _) Z ?_)); refine B1 hf fun e2 h21 hf=>U 3 Z (CL Z (Tj _ _ h21 (J 3 Z (C hf Z (fun h22 hf=>?_) fun h22 hf=>?_))))
  · cases hf; exact M 2 Z (Y Z h)
  exact M 3 Z ⟨(cZ (i1 + 1)),Z,Z,Z,hf⟩
 cases hf; exact M 1 Z (Y Z h)
theorem WR :∀ k:Nat,(Pb (qR k)):=by
 intro k
 induction k with
 | zero=>exact fun _ _ _ hz=>by first | cases hz | (unfold qR at hz; cases hz)
 | succ k ih=>exact fun tO fT aZ hz τ Q hq=>V9 (qR k) ih tO fT hz hq
theorem Xu (tO:ah) (fT:Int) {aZ:Int} (hf:NP tO fT=some aZ) (h:Q (.ret (iP aZ)) τ):PC 30 [.agg (aN tO),iP fT] τ Q:=
 ((WR BIG)) tO fT hf h
theorem Xv (v1:ah) {r0:Int} (hf:Dj v1=some r0) (h:Q (.ret (iP r0)) τ):PC 13 [.agg (aN v1)] τ Q:=by
 unfold Dj at hf; refine BN 5 [.tmp 2] [0] Tryz.func13 Z Z Z Z Z ?_; refine BR hf fun x1 h1 hf=>?_; refine W 3 Z (CL Z (Xu _ _ h1 ?_)); cases hf; exact N 1 Z (Y Z h)
theorem rM (v1:ah) {r0:aj} (hf:nk v1=some r0) (h:Q (.ret (.agg (bE r0))) τ):PC 15 [.agg (aN v1)] τ Q:=by
 unfold nk at hf; refine BN 5 [.cell 2 45] [0] Tryz.func15 Z Z Z Z Z (W 1 Z (AS Z (AO.aC Z iO (fun b2=>?_)))); cases hf; exact Rx 3 [0] Z Z (ZC [0] Z Z h)
theorem Mh (s1:Str) {r0:aj} (hf:FP s1=some r0) (h:Q (.ret (.agg (bE r0))) τ):PC 14 [.str s1] τ Q:=by
 unfold FP at hf; refine BN 6 [.cell 2 45] [0] Tryz.func14 Z Z Z Z Z (W 0 Z (AS Z (AO.aC Z iO (fun b2=>?_)))); refine BR hf fun x1 h1 hf=>?_; refine U 2 Z (CL Z (rM _ h1 ?_)); cases hf; exact Rx 1 [0] Z Z (ZC [0] Z Z h)
theorem wJ (s1:Str) {r0:aj} (hf:qX s1=some r0) (h:Q (.ret (.agg (bE r0))) τ):PC 11 [.str s1] τ Q:=by
 unfold qX at hf; refine BN 5 [.cell 2 45] [0] Tryz.func11 Z Z Z Z Z (W 0 Z (AS Z (AO.aC Z iO (fun b2=>?_)))); cases hf; exact Rx 3 [0] Z Z (ZC [0] Z Z h)
theorem aaq (e1:aj) {r0:aj} (hf:Vn e1=some r0) (h:Q (.ret (.agg (bE r0))) τ):PC 34 [.agg (bE e1)] τ Q:=by
 unfold Vn at hf; refine BN 8 [.cell 2 45] [0] Tryz.func34 Z Z Z Z Z (W 1 Z (AS Z (AO.aC Z iO (fun b2=>(J 0 Z (AW.draw 5 mixed (by kernel_rfl) Z ?_)))))); refine Ev.cs bC 1 Z (Ev.cons Z Z Z (AO.build Z gY U8 Z zg) ?_); refine B1 hf fun x1 h1 hf=>Ev.cons rfl rfl rfl (AO.call rfl _ rfl rfl abA (rM _ h1 ⟨rfl,rfl⟩)) (Ev.cons rfl rfl rfl (AO.bq (aj.aM [e1,x1]) rfl u_ rfl rfl rfl (by first | rfl | simp only [List.map,aj.aD,aj.aM]) ⟨rfl,rfl⟩) ?_)
 refine Ev.cons Z Z Z (AO.build Z iO E5 Z zg) (Ev.nil ?_); show AR _ _ _ _ _ _ _ _; cases hf; exact Rx 1 [0] Z Z (ZC [0] Z Z h)
theorem G5 (args1:List aK) {r0:cO} (hf:FQ args1=some r0) (h:Q (.ret (.agg [.list (au.aM r0.blocks)])) τ):PC 17 [.list (List.map aK.cells args1)] τ Q:=by
 unfold FQ at hf; refine BN 23 [.cell 2 34] [0] Tryz.func17 Z Z Z Z Z (W 0 Z (AS Z (AO.aC Z Dt (fun b2=>?_)))); refine B1 hf fun x1 h1 hf=>U 0 rfl (CL rfl (Mh _ h1 (U 1 rfl (AS rfl (AO.bq (List.map aK.cells [(aK.mk ([116,121,112,101]:Str) x1)]) rfl xq rfl rfl rfl (by first | rfl | simp only [List.map,aK.aD]) ?_))))); refine U 1 Z (AS Z (AO.aC Z nP (fun b3=>(Rw 1 [0] Z Z (AW.ab9 7 38 [4] mixed (by kernel_rfl) Z nP Z (by kernel_rfl) (by decide) ?_)))))
 refine B1 hf fun x2 h2 hf=>Ev.cons Z Z Z (AO.call Z _ Z Z ad2 (wJ _ h2 zg)) ?_; refine B1 hf fun x3 h3 hf=>Ev.cons rfl rfl rfl (AO.call rfl _ rfl rfl agW (aaq _ h3 ⟨rfl,rfl⟩)) (Ev.cons rfl rfl rfl (AO.build rfl OA aa8 rfl ⟨rfl,rfl⟩) (Ev.cons rfl rfl rfl (AO.bq (List.map aK.cells [(aK.mk ([120]:Str) x3)]) rfl xq rfl rfl rfl (by first | rfl | simp only [List.map,aK.aD]) ⟨rfl,rfl⟩) ?_))
 refine Ev.cons rfl rfl rfl (AO.aR (i:=0) rfl rfl rfl nQ rfl rfl ⟨rfl,rfl⟩) (Ev.cons rfl rfl rfl (AO.bq (au.aM [(au.mk ([112,97,114,97,109]:Str) ([110]:Str) [(aK.mk ([116,121,112,101]:Str) x1)] [])]) rfl tJ rfl rfl rfl (by first | rfl | simp only [List.map,au.aD,au.aM]) ⟨rfl,rfl⟩) ?_); refine Ev.cons Z Z Z (AO.build Z nP Lv Z zg) (Ev.nil ?_); intro b4; show AR _ _ _ _ _ _ _ _
 refine Rr 4 [0,0] rfl rfl (AS rfl (AO.bq (au.aM [(au.mk ([117,115,101]:Str) ([116]:Str) args1 [])]) rfl tJ rfl rfl rfl (by first | rfl | simp only [List.map,au.aD,au.aM]) ?_))
 refine U 1 rfl (AS rfl (AO.bq (au.aM [(au.mk ([116,101,109,112,108,97,116,101]:Str) ([116]:Str) [(aK.mk ([120]:Str) x3)] [(au.mk ([112,97,114,97,109]:Str) ([110]:Str) [(aK.mk ([116,121,112,101]:Str) x1)] [])]),(au.mk ([106,111,98]:Str) ([]:Str) [] [(au.mk ([117,115,101]:Str) ([116]:Str) args1 [])])]) rfl tJ rfl rfl rfl (by first | rfl | simp only [List.map,au.aD,au.aM]) ?_)); cases hf; exact Rx 2 [2] Z Z (ZC [2] Z Z h)
abbrev J4 (kH:aj→Option Int):Prop:=∀ (j3:aj) {aZ:Int},kH j3=some aZ→∀ {τ:List bf} {Q:dx→List bf→Prop} (h:Q (.ret (iP aZ)) τ),PC 59 [.agg (bE j3)] τ Q
theorem Qo (kH) (N_:J4 kH) (e1:aj) {r0:Int} (hf:zL kH e1=some r0) (h:Q (.ret (iP r0)) τ):PC 59 [.agg (bE e1)] τ Q:=by
 unfold zL at hf; refine BN 19 [.tmp 2] [0] Tryz.func59 Z Z Z Z Z (W 5 Z (AS Z (AO.aO (l:=e1.args) Z Z Z Z iQ Z (aj.aB _) (J 1 Z (Zq (fun n1 x1=>[(3,iP n1),(7,.list (aj.aM e1.args)),(8,iP (e1.args.length:Int)),(9,iP x1)]) (fun n1 x1=>[]) (fun bX n1 x1=>uH kH e1 bX n1 x1=some r0) BIG 1 0 Z Z hf (fun _ _ hz=>bT hz) ?_))))); intro bX n1 x1 hf; rw [uH] at hf; refine V 1 Z (C hf Z (fun h1 hf=>?_) fun h1 hf=>?_)
 · refine B1 hf fun e2 h2 hf=>W 0 Z (AS Z (AO.aP h2 Z Z (aj.aB _) Z iQ (aj.aD _) Z (U 1 Z (AS Z (AO.aC Z iO (fun b5=>?_)))))); refine B1 hf fun x2 h3 hf=>Rr 3 [0,0] Z Z (CL Z (N_ _ h3 (fI 4 Z (AR.drop1 ?_)))); exact N 0 Z ⟨(cZ (n1 + x2)),(cZ (x1 + 1)),Z,Z,Z,hf⟩
 cases hf; exact M 2 Z (Y Z h)
theorem Q9 :∀ k:Nat,(J4 (mV k)):=by
 intro k
 induction k with
 | zero=>exact fun _ _ hz=>by first | cases hz | (unfold mV at hz; cases hz)
 | succ k ih=>exact fun j3 aZ hz τ Q hq=>Qo (mV k) ih j3 hz hq
theorem R8 (j3:aj) {aZ:Int} (hf:CR j3=some aZ) (h:Q (.ret (iP aZ)) τ):PC 59 [.agg (bE j3)] τ Q:=
 ((Q9 BIG)) j3 hf h
theorem TB (v1:ah) {r0:Bool} (hf:EF v1=some r0) (h:Q (.ret (.bool r0)) τ):PC 132 [.agg (aN v1)] τ Q:=by
 unfold EF at hf; refine BN 33 [.tmp 2] [0] Tryz.func132 Z Z Z Z Z (W 6 Z (An 4 6 10 [1] (!v1.eB) Z Z Z Z (U 1 Z (An 4 11 15 [1] (v1.gI == 0) Z Z Z Z (U 1 Z (An 4 16 20 [1] (v1.fM == ([]:Str)) Z Z Z Z ?_)))))); refine U 1 Z (AR.and 5 21 26 [1] (x:=((v1.aW.length:Int) == 0)) Z Z (fun h4=>?_) (fun h4=>?_) ?_)
 · refine Is 21 h4 Z (U 2 Z (GO Z (AO.aO (l:=v1.aW) Z Z Z Z iK Z (ah.aB _) ?_))); exact fI 2 Z (En [26,1] Z)
 · refine Is 21 h4 Z ?_; exact fI 5 Z (En [26,1] Z)
 refine U 1 Z (AR.and 5 27 32 [] (x:=((v1.keys.length:Int) == 0)) Z Z (fun h5=>?_) (fun h5=>?_) ?_)
 · refine Is 27 h5 Z (U 2 Z (GO Z (AO.aO (l:=v1.keys) Z Z Z Z jm Z Z ?_))); exact fI 2 Z (En [32] Z)
 · refine Is 27 h5 Z ?_; exact fI 5 Z (En [32] Z)
 cases hf; exact N 1 Z (Y Z h)
theorem HY (c1:UInt8) {r0:Bool} (hf:xO c1=some r0) (h:Q (.ret (.bool r0)) τ):PC 229 [.int .u8 (c1.toNat:Int)] τ Q:=by
 unfold xO at hf; refine BN 21 [.tmp 2] [0] Tryz.func229 Z Z Z Z Z (W 4 Z (An 3 5 8 [0] (decide ((c1.toNat:Int)≤122)) Z Z Z Z (U 1 Z (AR.or 7 9 16 [0] (x:=((decide (65≤(c1.toNat:Int))) && (decide ((c1.toNat:Int)≤90)))) Z Z (fun h2=>?_) (fun h2=>?_) ?_))))
 · refine Is 9 h2 Z (U 3 Z (An 3 12 15 [0,9] (decide ((c1.toNat:Int)≤90)) Z Z Z Z ?_)); exact fI 1 Z (En [16,0] Z)
 · refine Is 9 h2 Z ?_; exact fI 7 Z (En [16,0] Z)
 refine U 1 Z (On 3 17 20 [] ((c1.toNat:Int) == 95) Z Z Z Z ?_); cases hf; exact N 1 Z (Y Z h)
theorem JI (c1:UInt8) {r0:Bool} (hf:zJ c1=some r0) (h:Q (.ret (.bool r0)) τ):PC 230 [.int .u8 (c1.toNat:Int)] τ Q:=by
 unfold zJ at hf; refine BN 9 [.tmp 2] [0] Tryz.func230 Z Z Z Z Z (W 4 Z (An 3 5 8 [] (decide ((c1.toNat:Int)≤57)) Z Z Z Z ?_)); cases hf; exact N 1 Z (Y Z h)
theorem K5 (s1:Str) {r0:Bool} (hf:zi s1=some r0) (h:Q (.ret (.bool r0)) τ):PC 196 [.str s1] τ Q:=by
 unfold zi at hf; refine BN 36 [.tmp 2] [0] Tryz.func196 Z Z Z Z Z (W 2 Z (AS Z (AO.cK Z Z Z Z dR Z (U 2 Z (AR.or 4 7 11 [0] (x:=(decide (64 < (s1.length:Int)))) Z Z (fun h1=>?_) (fun h1=>?_) ?_)))))
 · refine Is 7 h1 Z (U 1 Z (GO Z (AO.cK Z Z Z Z dR Z ?_))); exact fI 2 Z (En [11,0] Z)
 · refine Is 7 h1 Z ?_; exact fI 4 Z (En [11,0] Z)
 refine B1 hf fun b1 h3 hf=>U 1 Z (AR.fK 5 12 17 false [0] b1 Z Z (fun h2=>?_) (fun h2=>?_) ?_)
 · refine IF 12 h2 h3 Z fun h3=>?_; refine B1 h3 fun x1 h4 h3=>U 1 Z (GO Z (AO.fV h4 Z dR Z Z ?_)); refine B1 h3 fun x2 h5 h3=>GO Z (AO.call Z _ Z Z aeE (HY _ h5 ?_)); cases h3; exact fI 2 Z (En [17,0] Z)
 · refine IT 12 h2 h3 Z fun h3=>?_; cases h3; exact fI 5 Z (En [17,0] Z)
 refine J 0 Z (C hf Z (fun h6 hf=>?_) fun h6 hf=>?_)
 · cases hf; exact M 1 Z (Y Z h)
 refine V 1 Z (JY (fun i1=>[(0,.str s1),(3,iP i1)]) (fun i1=>[]) (fun bX i1=>sw s1 bX i1=some r0) BIG 0 Z Z hf (fun _ hz=>bT hz) ?_); intro bX i1 hf; rw [sw] at hf; refine W 2 Z (AS Z (AO.cK Z Z Z Z dR Z (J 1 Z (C hf Z (fun h7 hf=>?_) fun h7 hf=>?_))))
 ·
  refine B1 hf fun x3 h8 hf=>W 2 Z (AS Z (AO.fV h8 Z dR Z Z ?_)); refine B1 hf fun x4 h9 hf=>CL Z (HY _ h9 ?_); refine B1 hf fun b2 h11 hf=>U 2 Z (AR.fK 6 29 35 true [0,3] b2 Z Z (fun h10=>?_) (fun h10=>?_) ?_)
  · refine IT 29 h10 h11 Z fun h11=>?_; refine B1 h11 fun x5 h12 h11=>U 2 Z (GO Z (AO.fV h12 Z dR Z Z ?_)); refine B1 h11 fun x6 lZ h11=>GO Z (AO.call Z _ Z Z aeD (JI _ lZ ?_)); cases h11; exact fI 2 Z (En [35,0,3] Z)
  · refine IF 29 h10 h11 Z fun h11=>?_; cases h11; exact fI 6 Z (En [35,0,3] Z)
  refine J 0 Z (C hf Z (fun nu hf=>?_) fun nu hf=>?_)
  · cases hf; exact M 1 Z (Y Z h)
  exact M 3 Z ⟨(cZ (i1 + 1)),Z,Z,Z,hf⟩
 cases hf; exact M 1 Z (Y Z h)
theorem Fv (s1:Str) {r0:Bool} (hf:ze s1=some r0) (h:Q (.ret (.bool r0)) τ):PC 197 [.str s1] τ Q:=by
 unfold ze at hf; refine BN 13 [.tmp 2] [0] Tryz.func197 Z Z Z Z Z (W 4 Z (On 3 5 8 [0] (s1 == ([102,97,108,115,101]:Str)) Z Z Z Z (U 1 Z (On 3 9 12 [] (s1 == ([110,117,108,108]:Str)) Z Z Z Z ?_)))); cases hf; exact N 1 Z (Y Z h)
theorem Ec (s1:Str) {r0:Bool} (hf:tY s1=some r0) (h:Q (.ret (.bool r0)) τ):PC 161 [.str s1] τ Q:=by
 unfold tY at hf; refine BN 10 [.tmp 2] [0] Tryz.func161 Z Z Z Z Z ?_; refine B1 hf fun x1 h1 hf=>W 2 Z (CL Z (K5 _ h1 ?_)); refine BR hf fun b1 h3 hf=>?_; refine U 1 Z (AR.fK 4 5 9 true [] b1 Z Z (fun h2=>?_) (fun h2=>?_) ?_)
 · refine IT 5 h2 h3 Z fun h3=>?_; refine B1 h3 fun x2 h4 h3=>U 1 Z (GO Z (AO.call Z _ Z Z abt (Fv _ h4 ?_))); cases h3; exact fI 2 Z (En [9] Z)
 · refine IF 5 h2 h3 Z fun h3=>?_; cases h3; exact fI 4 Z (En [9] Z)
 cases hf; exact N 1 Z (Y Z h)
theorem vw (op1:Str) {r0:Int} (hf:jr op1=some r0) (h:Q (.ret (iP r0)) τ):PC 64 [.str op1] τ Q:=by
 unfold jr at hf; refine BN 22 [.tmp 2] [0] Tryz.func64 Z Z Z Z Z (V 4 Z (C hf Z (fun h1 hf=>?_) fun h1 hf=>?_))
 · cases hf; exact M 1 Z (Y Z h)
 refine V 2 Z (C hf Z (fun h2 hf=>?_) fun h2 hf=>?_)
 · cases hf; exact M 1 Z (Y Z h)
 refine V 2 Z (C hf Z (fun h3 hf=>?_) fun h3 hf=>?_)
 ·
  refine V 0 Z (AW.cond Z (fun h4=>?_) (fun h4=>?_))
  · cases hf; exact M 1 Z (Y Z h)
  cases h3.symm.trans h4
 refine V 2 Z (C hf Z (fun h5 hf=>?_) fun h5 hf=>?_)
 ·
  refine V 0 Z (AW.cond Z (fun h6=>?_) (fun h6=>?_))
  · cases hf; exact M 1 Z (Y Z h)
  cases h5.symm.trans h6
 refine V 2 Z (C hf Z (fun h7 hf=>?_) fun h7 hf=>?_)
 ·
  refine V 0 Z (AW.cond Z (fun h8=>?_) (fun h8=>?_))
  · cases hf; exact M 1 Z (Y Z h)
  cases h7.symm.trans h8
 refine V 2 Z (C hf Z (fun h9 hf=>?_) fun h9 hf=>?_)
 ·
  refine V 0 Z (AW.cond Z (fun h10=>?_) (fun h10=>?_))
  · cases hf; exact M 1 Z (Y Z h)
  cases h9.symm.trans h10
 refine V 2 Z (C hf Z (fun h11 hf=>?_) fun h11 hf=>?_)
 ·
  refine V 0 Z (AW.cond Z (fun h12=>?_) (fun h12=>?_))
  · cases hf; exact M 1 Z (Y Z h)
  cases h11.symm.trans h12
 refine V 2 Z (C hf Z (fun lZ hf=>?_) fun lZ hf=>?_)
 · cases hf; exact M 1 Z (Y Z h)
 refine V 2 Z (C hf Z (fun nu hf=>?_) fun nu hf=>?_)
 ·
  refine V 0 Z (AW.cond Z (fun tq=>?_) (fun tq=>?_))
  · cases hf; exact M 1 Z (Y Z h)
  cases nu.symm.trans tq
 refine V 2 Z (C hf Z (fun h16 hf=>?_) fun h16 hf=>?_)
 · cases hf; exact M 1 Z (Y Z h)
 refine V 2 Z (C hf Z (fun Ao hf=>?_) fun Ao hf=>?_)
 ·
  refine V 0 Z (AW.cond Z (fun h18=>?_) (fun h18=>?_))
  · cases hf; exact M 1 Z (Y Z h)
  cases Ao.symm.trans h18
 refine V 2 Z (C hf Z (fun h19 hf=>?_) fun h19 hf=>?_)
 ·
  refine V 0 Z (AW.cond Z (fun h20=>?_) (fun h20=>?_))
  · cases hf; exact M 1 Z (Y Z h)
  cases h19.symm.trans h20
 refine V 2 Z (C hf Z (fun h21 hf=>?_) fun h21 hf=>?_)
 · cases hf; exact M 1 Z (Y Z h)
 cases hf; exact M 1 Z (Y Z h)
theorem R3 (e1:aj) {r0:Bool} (hf:zH e1=some r0) (h:Q (.ret (.bool r0)) τ):PC 133 [.agg (bE e1)] τ Q:=by
 unfold zH at hf; refine BN 31 [.tmp 2] [0] Tryz.func133 Z Z Z Z Z (V 6 Z (C hf Z (fun h1 hf=>?_) fun h1 hf=>?_))
 ·
  refine V 0 Z (AW.cond Z (fun h2=>?_) (fun h2=>?_))
  · refine BR hf fun x1 h3 hf=>?_; refine W 2 Z (CL Z (Ec _ h3 ?_)); cases hf; exact N 1 Z (Y Z h)
  cases h1.symm.trans h2
 refine V 2 Z (C hf Z (fun h4 hf=>?_) fun h4 hf=>?_)
 ·
  refine V 0 Z (AW.cond Z (fun h5=>?_) (fun h5=>?_))
  · refine BR hf fun x2 h6 hf=>?_; refine W 2 Z (CL Z (Ec _ h6 ?_)); cases hf; exact N 1 Z (Y Z h)
  cases h4.symm.trans h5
 refine V 2 Z (C hf Z (fun h7 hf=>?_) fun h7 hf=>?_)
 · refine BR hf fun x3 h8 hf=>?_; refine W 2 Z (CL Z (Ec _ h8 ?_)); cases hf; exact N 1 Z (Y Z h)
 refine V 2 Z (C hf Z (fun h9 hf=>?_) fun h9 hf=>?_)
 · refine W 4 Z (On 4 17 21 [] (e1.name == ([45]:Str)) Z Z Z Z ?_); cases hf; exact N 1 Z (Y Z h)
 refine V 2 Z (C hf Z (fun h11 hf=>?_) fun h11 hf=>?_)
 · refine B1 hf fun x4 h12 hf=>W 2 Z (CL Z (vw _ h12 ?_)); cases hf; exact N 2 Z (Y Z h)
 cases hf; exact M 4 Z (Y Z h)
theorem R6 (e1:aj) {r0:Bool} (hf:zK e1=some r0) (h:Q (.ret (.bool r0)) τ):PC 134 [.agg (bE e1)] τ Q:=by
 unfold zK at hf; refine BN 32 [.tmp 2] [0] Tryz.func134 Z Z Z Z Z (V 6 Z (C hf Z (fun h1 hf=>?_) fun h1 hf=>?_))
 ·
  refine V 0 Z (AW.cond Z (fun h2=>?_) (fun h2=>?_))
  · refine W 2 Z (AS Z (AO.aO (l:=e1.args) Z Z Z Z iQ Z (aj.aB _) ?_)); cases hf; exact N 2 Z (Y Z h)
  cases h1.symm.trans h2
 refine V 2 Z (C hf Z (fun h3 hf=>?_) fun h3 hf=>?_)
 · refine W 2 Z (AS Z (AO.aO (l:=e1.args) Z Z Z Z iQ Z (aj.aB _) ?_)); cases hf; exact N 2 Z (Y Z h)
 refine V 2 Z (C hf Z (fun h4 hf=>?_) fun h4 hf=>?_)
 ·
  refine V 0 Z (AW.cond Z (fun h5=>?_) (fun h5=>?_))
  · refine W 2 Z (AS Z (AO.aO (l:=e1.args) Z Z Z Z iQ Z (aj.aB _) ?_)); cases hf; exact N 2 Z (Y Z h)
  cases h4.symm.trans h5
 refine V 2 Z (C hf Z (fun h6 hf=>?_) fun h6 hf=>?_)
 · refine W 2 Z (AS Z (AO.aO (l:=e1.args) Z Z Z Z iQ Z (aj.aB _) ?_)); cases hf; exact N 2 Z (Y Z h)
 refine V 2 Z (C hf Z (fun h7 hf=>?_) fun h7 hf=>?_)
 ·
  refine V 0 Z (AW.cond Z (fun h8=>?_) (fun h8=>?_))
  · refine W 2 Z (AS Z (AO.aO (l:=e1.args) Z Z Z Z iQ Z (aj.aB _) ?_)); cases hf; exact N 2 Z (Y Z h)
  cases h7.symm.trans h8
 refine V 2 Z (C hf Z (fun h9 hf=>?_) fun h9 hf=>?_)
 · refine W 2 Z (AS Z (AO.aO (l:=e1.args) Z Z Z Z iQ Z (aj.aB _) ?_)); cases hf; exact N 2 Z (Y Z h)
 refine V 2 Z (C hf Z (fun h10 hf=>?_) fun h10 hf=>?_)
 · refine W 2 Z (AS Z (AO.aO (l:=e1.args) Z Z Z Z iQ Z (aj.aB _) ?_)); cases hf; exact N 2 Z (Y Z h)
 cases hf; exact M 1 Z (Y Z h)
theorem yS (s1:List Str) (f1:Str→Option Bool) (zX:FuncId) (DY:List PV) (Ru:aU Tryz.prog zX=true) (Rv:∀ a0 b0,f1 a0=some b0→∀ {τ:List bf} {Q:dx→List bf→Prop},Q (.ret (.bool b0)) τ→PC zX ([.str a0] ++ DY) τ Q) {r0:Int} (hf:j5 s1 f1=some r0) (h:Q (.ret (iP r0)) τ):PC 198 [sP s1,.fn zX DY] τ Q:=by
 unfold j5 at hf; refine BN 19 [.tmp 4] [0,1] Tryz.func198 Z Z Z Z Z (W 2 Z (AS Z (AO.aO (l:=s1) Z Z Z Z jm Z Z (J 1 Z (JY (fun i1=>[(0,sP s1),(1,.fn zX DY),(7,iP (s1.length:Int)),(8,iP i1)]) (fun i1=>[]) (fun bX i1=>h_ s1 f1 bX i1=some r0) BIG 0 Z Z hf (fun _ hz=>bT hz) ?_))))); intro bX i1 hf; rw [h_] at hf; refine V 1 Z (C hf Z (fun h1 hf=>?_) fun h1 hf=>?_)
 ·
  refine B1 hf fun e1 h2 hf=>W 5 Z (AS Z (AO.aP h2 Z Z Z Z jm Z Z ?_)); refine B1 hf fun x1 h3 hf=>U 1 Z (AS Z (AO.call Z _ Z Z Ru (Rv _ _ h3 (J 0 Z (C hf Z (fun h4 hf=>?_) fun h4 hf=>?_)))))
  · cases hf; exact M 2 Z (Y Z h)
  exact M 2 Z ⟨(cZ (i1 + 1)),Z,Z,Z,hf⟩
 cases hf; exact M 1 Z (Y Z h)
theorem wW (s1:List Str) (f1:Str→Option Bool) (zX:FuncId) (DY:List PV) (Ru:aU Tryz.prog zX=true) (Rv:∀ a0 b0,f1 a0=some b0→∀ {τ:List bf} {Q:dx→List bf→Prop},Q (.ret (.bool b0)) τ→PC zX ([.str a0] ++ DY) τ Q) {r0:Bool} (hf:ig s1 f1=some r0) (h:Q (.ret (.bool r0)) τ):PC 162 [sP s1,.fn zX DY] τ Q:=by
 unfold ig at hf; refine BN 9 [.tmp 4] [0,1] Tryz.func162 Z Z Z Z Z ?_; refine B1 hf fun x1 h1 hf=>W 3 Z (CL Z (yS _ f1 zX DY Ru @Rv h1 ?_)); cases hf; exact N 2 Z (Y Z h)
theorem Oj (Al:Str) {r0:Bool} (hf:lG Al=some r0) (h:Q (.ret (.bool r0)) τ):PC 163 [.str Al] τ Q:=by
 unfold lG at hf; refine BN 11 [.tmp 2] [0] Tryz.func163 Z Z Z Z Z (W 2 Z (AS Z (AO.cK Z Z Z Z dR Z (U 2 Z (AR.or 4 6 10 [] (x:=(decide (64 < (Al.length:Int)))) Z Z (fun h1=>?_) (fun h1=>?_) ?_)))))
 · refine Is 6 h1 Z (U 1 Z (GO Z (AO.cK Z Z Z Z dR Z ?_))); exact fI 2 Z (En [10] Z)
 · refine Is 6 h1 Z ?_; exact fI 4 Z (En [10] Z)
 cases hf; exact N 1 Z (Y Z h)
theorem R4 (e1:aj) {r0:Bool} (hf:zI e1=some r0) (h:Q (.ret (.bool r0)) τ):PC 135 [.agg (bE e1)] τ Q:=by
 unfold zI at hf; refine BN 23 [.tmp 2] [0] Tryz.func135 Z Z Z Z Z (V 5 Z (C hf Z (fun h1 hf=>?_) fun h1 hf=>?_))
 · refine W 2 Z (AS Z (AO.aO (l:=e1.keys) Z Z Z Z jm Z Z ?_)); cases hf; exact N 2 Z (Y Z h)
 refine W 2 Z (AS Z (AO.aO (l:=e1.keys) Z Z Z Z jm Z Z (U 2 Z (AS Z (AO.aO (l:=e1.args) Z Z Z Z iQ Z (aj.aB _) ?_))))); refine BR hf fun b1 h3 hf=>?_; refine U 2 Z (AR.fK 5 17 22 true [] b1 Z Z (fun h2=>?_) (fun h2=>?_) ?_)
 · refine IT 17 h2 h3 Z fun h3=>?_; refine B1 h3 fun x1 h4 h3=>U 2 Z (GO Z (AO.call Z _ Z Z aeN (wW _ lG 163 [] aeM (fun _ _ hz=>Oj _  hz) h4 ?_))); cases h3; exact fI 2 Z (En [22] Z)
 · refine IF 17 h2 h3 Z fun h3=>?_; cases h3; exact fI 5 Z (En [22] Z)
 cases hf; exact N 1 Z (Y Z h)
theorem UY {β:Type} (l:Nat) (T:β→List bf) (go:β→ah→Int→Option (Bool × β))
  (goH:∀ s1 v1 bS b s2,go s1 v1 bS=some (b,s2)→∀ {Q:dx→List bf→Prop},Q (.ret (.bool b)) (T s2)→PC 105 [.agg (aN v1),iP bS,.val (.func (.yield l) #[] #[])] (T s1) Q)
  (y:β→Int→ah→Option (Bool × β)) (hy:∀ s1 bS v1 b s2,y s1 bS v1=some (b,s2)→AY Tryz.prog l [iP bS,.agg (aN v1)] (T s1) (fun out σ'=>out=.ret (.bool b)∧σ'=T s2))
  (s1:β) (v1:ah) (bS:Int) {b:Bool} {s2:β} (hf:Cy go y s1 v1 bS=some (b,s2)) {Q:dx→List bf→Prop} (h:Q (.ret (.bool b)) (T s2)):
  PC 105 [.agg (aN v1),iP bS,.val (.func (.yield l) #[] #[])] (T s1) Q:=by
 unfold Cy at hf; refine AC.jX 28 [.tmp 6] [0,1,2] Tryz.func105 Z Z Z Z Z (AW.sr (AR.step Z Z Z (AO.Dc Z Z Z (cs 1 Z ?_)))); refine AR.nil [1,2,3] Z (AW.seq (AW.seq (AW.ade ?_))); refine SA.step Z Z Z Z (AO.calc' Z (SA.step Z Z Z Z (AO.calc' Z (SA.step Z Z Z Z (AO.Rh Z Z mK Z ?_))))); obtain ⟨b1,s3,h1,hf⟩:=bP hf; refine SA.yield Z Z Z Z Z _ Z Z (hy _ _ _ _ _ h1) (SA.of Z (cs 1 Z (AR.nil [1,2,3,13] Z ?_))); refine AW.cond Z (fun h2=>?_) (fun h2=>?_)
 · replace hf:=jF h2 hf; refine AW.sr (cs 1 Z (AR.nil [6] Z (AW.ret ?_))); cases hf; exact ⟨rfl,_,⟨_,_,rfl,rfl,rfl⟩,_,List.Sublist.refl _,h⟩
 replace hf:=iw h2 hf; refine AW.skip (AW.seq (AW.sr (cs 2 Z ?_))); refine AR.step Z Z Z (AO.aO (l:=v1.aW) Z Z Z Z iK Z ((ah.aB _)) (cs 1 Z (AR.nil [1,2,15,16,17] Z (AW.block ?_)))); refine AW.NU (fun (_:β) i1=>[(1,iP bS),(2,.val (.func (.yield l) #[] #[])),(15,.list (ah.aM v1.aW)),(16,iP (v1.aW.length:Int)),(17,iP i1)]) (fun s1 _=>T s1) (fun bX s1 i1=>xJ go v1 bS bX s1 i1=some (b,s2)) BIG s3 0 Z Z hf (fun _ _ hz=>bT hz) ?_; intro bX s4 i1 hf; rw [xJ] at hf; refine AW.sr (cs 1 Z (AR.nil [1,2,15,16,17,18] Z (AW.seq ?_))); refine AW.cond Z (fun h1=>?_) (fun h1=>?_)
 ·
  replace hf:=jF h1 hf; refine AW.skip (AW.seq (AW.block (AW.sr ?_))); refine B1 hf fun x1 h3 hf=>AR.step Z Z Z (AO.aP h3 Z Z ((ah.aB _)) Z iK ((ah.aD _)) Z (cs 1 Z (AR.step Z Z Z (AO.aC Z gY (fun b8=>(AR.bF Z Z (AO.bR (i:=0) Z Z Z mK Z Z Z Z Z ?_))))))); refine AR.nil [1,2,8,15,16,17] Z (AW.sr (AR.step Z Z Z (AO.aR (i:=0) Z Z Z mK Z Z (cs 3 Z ?_)))); obtain ⟨b2,s5,h4,hf⟩:=bP hf; refine AR.drop1 (AR.step Z Z Z (AO.call Z _ Z Z afc (goH _ _ _ _ _ h4 (cs 1 Z (AR.nil [1,2,15,16,17,26] Z ?_))))); refine AW.cond Z (fun h5=>?_) (fun h5=>?_)
  · replace hf:=jF h5 hf; refine AW.sr (cs 1 Z (AR.nil [6] Z (AW.ret ?_))); cases hf; exact ⟨rfl,_,⟨_,_,rfl,rfl,rfl⟩,_,List.Sublist.refl _,h⟩
  replace hf:=iw h5 hf; refine AW.skip (AW.region (cs 2 Z (AR.nil [1,2,15,16,17] Z ?_))); exact ⟨s5,(cZ (i1 + 1)),Z,Z,Z,hf⟩
 replace hf:=iw h1 hf; refine AW.exit (AW.sr (cs 1 Z (AR.nil [6] Z ?_))); refine AW.ret ?_; cases hf; exact ⟨rfl,_,⟨_,_,rfl,rfl,rfl⟩,_,List.Sublist.refl _,h⟩
theorem MR {β:Type} (l:Nat) (T:β→List bf) (y:β→Int→ah→Option (Bool × β)) (hy:∀ s1 bS v1 b s2,y s1 bS v1=some (b,s2)→AY Tryz.prog l [iP bS,.agg (aN v1)] (T s1) (fun out σ'=>out=.ret (.bool b)∧σ'=T s2)):
  ∀ (k:Nat) (s1:β) (v1:ah) (bS:Int) (b:Bool) (s2:β),qM y k s1 v1 bS=some (b,s2)→∀ {Q:dx→List bf→Prop},Q (.ret (.bool b)) (T s2)→PC 105 [.agg (aN v1),iP bS,.val (.func (.yield l) #[] #[])] (T s1) Q
 | 0,_,_,_,_,_,hz=>by cases hz
 | k + 1,s1,v1,bS,b,s2,hz=>fun h=>UY l T (qM y k) (fun s1 v1 bS b s2 hz=>MR l T y hy k s1 v1 bS b s2 hz) y hy s1 v1 bS hz h
theorem Hw {β:Type} (l:Nat) (T:β→List bf) (y:β→Int→ah→Option (Bool × β)) (hy:∀ s1 bS v1 b s2,y s1 bS v1=some (b,s2)→AY Tryz.prog l [iP bS,.agg (aN v1)] (T s1) (fun out σ'=>out=.ret (.bool b)∧σ'=T s2))
    (s1:β) (v1:ah) (bS:Int) {b:Bool} {s2:β} (hf:F9 y s1 v1 bS=some (b,s2)) {Q:dx→List bf→Prop} (h:Q (.ret (.tuple [])) (T s2)):
    PC 104 [.val (.func (.yield l) #[] #[]),.ref (aN v1),.ref [iP bS]] (T s1) Q:=by
 refine BD 8 [] [0,1,2] Tryz.func104 Z Z Z Z Z (W 3 Z (CL Z (MR l T y hy BIG _ _ _ _ _ hf ?_))); exact N 0 rfl ⟨rfl,_,rfl,_,List.Sublist.refl _,h⟩
theorem KZ (v1:ah) (bS:Int) (h:Q (.ret (.fn 104 [.ref (aN v1),.ref [iP bS]])) τ):PC 65 [.agg (aN v1),iP bS] τ Q:=by
 refine BN 6 [.tmp 4] [0,1] Tryz.func65 Z Z Z Z Z ?_; exact M 5 Z (Y Z h)
theorem RU (v1:ah) {r0:Bool} (hf:Cz v1=some r0) (h:Q (.ret (.bool r0)) τ):PC 106 [.agg (aN v1)] τ Q:=by
 unfold Cz at hf; refine BN 58 [.tmp 2] [0] Tryz.func106 Z Z Z Z Z (W 6 Z (On 4 6 10 [1] (!v1.eB) Z Z Z Z (U 1 Z (AR.and 9 11 20 [1] (x:=((v1.kind == 2) || (v1.gI == 0))) Z Z (fun h2=>?_) (fun h2=>?_) ?_))))
 · refine Is 11 h2 Z (U 4 Z (On 4 15 19 [1,11] (v1.gI == 0) Z Z Z Z ?_)); exact fI 1 Z (En [20,1] Z)
 · refine Is 11 h2 Z ?_; exact fI 9 Z (En [20,1] Z)
 refine U 1 Z (AR.and 9 21 30 [1] (x:=((v1.kind == 3) || (v1.fM == ([]:Str)))) Z Z (fun h4=>?_) (fun h4=>?_) ?_)
 · refine Is 21 h4 Z (U 4 Z (On 4 25 29 [1,21] (v1.fM == ([]:Str)) Z Z Z Z ?_)); exact fI 1 Z (En [30,1] Z)
 · refine Is 21 h4 Z ?_; exact fI 9 Z (En [30,1] Z)
 refine U 1 Z (AR.and 15 31 46 [1] (x:=(((v1.kind == 4) || (v1.kind == 5)) || ((v1.aW.length:Int) == 0))) Z Z (fun h6=>?_) (fun h6=>?_) ?_)
 ·
  refine Is 31 h6 Z (U 4 Z (On 4 35 39 [1,31] (v1.kind == 5) Z Z Z Z (U 1 Z (AR.or 5 40 45 [1,31] (x:=((v1.aW.length:Int) == 0)) Z Z (fun h8=>?_) (fun h8=>?_) ?_))))
  · refine Is 40 h8 Z (U 2 Z (GO Z (AO.aO (l:=v1.aW) Z Z Z Z iK Z (ah.aB _) ?_))); exact fI 2 Z (En [45,1,31] Z)
  · refine Is 40 h8 Z ?_; exact fI 5 Z (En [45,1,31] Z)
  exact fI 1 Z (En [46,1] Z)
 · refine Is 31 h6 Z ?_; exact fI 15 Z (En [46,1] Z)
 refine U 1 Z (AR.and 10 47 57 [] (x:=((v1.kind == 5) || ((v1.keys.length:Int) == 0))) Z Z (fun h9=>?_) (fun h9=>?_) ?_)
 ·
  refine Is 47 h9 Z (U 4 Z (AR.or 5 51 56 [47] (x:=((v1.keys.length:Int) == 0)) Z Z (fun h10=>?_) (fun h10=>?_) ?_))
  · refine Is 51 h10 Z (U 2 Z (GO Z (AO.aO (l:=v1.keys) Z Z Z Z jm Z Z ?_))); exact fI 2 Z (En [56,47] Z)
  · refine Is 51 h10 Z ?_; exact fI 5 Z (En [56,47] Z)
  exact fI 1 Z (En [57] Z)
 · refine Is 47 h9 Z ?_; exact fI 10 Z (En [57] Z)
 cases hf; exact N 1 Z (Y Z h)
theorem K7 (c1:UInt8) {r0:Bool} (hf:BI c1=some r0) (h:Q (.ret (.bool r0)) τ):PC 82 [.int .u8 (c1.toNat:Int)] τ Q:=by
 unfold BI at hf; refine BN 9 [.tmp 2] [0] Tryz.func82 Z Z Z Z Z (W 4 Z (An 3 5 8 [] (decide ((c1.toNat:Int)≤57)) Z Z Z Z ?_)); cases hf; exact N 1 Z (Y Z h)
theorem O7 (s1:Str) {r0:Int} (hf:Dn s1=some r0) (h:Q (.ret (iP r0)) τ):PC 129 [.str s1] τ Q:=by
 unfold Dn at hf; refine BN 17 [.tmp 2] [0] Tryz.func129 Z Z Z Z Z (V 2 Z (JY (fun n1=>[(0,.str s1),(3,iP n1)]) (fun n1=>[]) (fun bX n1=>zT s1 bX n1=some r0) BIG 0 Z Z hf (fun _ hz=>bT hz) ?_)); intro bX n1 hf; rw [zT] at hf; refine W 2 Z (AS Z (AO.cK Z Z Z Z dR Z ?_)); refine B1 hf fun b1 h2 hf=>U 2 Z (AR.fK 5 8 13 true [0,3] b1 Z Z (fun h1=>?_) (fun h1=>?_) ?_)
 · refine IT 8 h1 h2 Z fun h2=>?_; refine B1 h2 fun x1 h3 h2=>U 2 Z (GO Z (AO.fV h3 Z dR Z Z ?_)); refine BR h2 fun x2 h4 h2=>?_; refine GO Z (AO.call Z _ Z Z adT (K7 _ h4 ?_)); cases h2; exact fI 1 Z (En [13,0,3] Z)
 · refine IF 8 h1 h2 Z fun h2=>?_; cases h2; exact fI 5 Z (En [13,0,3] Z)
 refine J 0 Z (C hf Z (fun h5 hf=>?_) fun h5 hf=>?_)
 · exact M 3 Z ⟨(cZ (n1 + 1)),Z,Z,Z,hf⟩
 cases hf; exact M 2 Z (Y Z h)
theorem GZ (s1:Str) (c1:UInt8) {r0:Str} (hf:strings_trimLeftByte s1 c1=some r0) (h:Q (.ret (.str r0)) τ):PC 192 [.str s1,.int .u8 (c1.toNat:Int)] τ Q:=by
 unfold strings_trimLeftByte at hf; refine BN 17 [.tmp 4] [0,1] Tryz.func192 Z Z Z Z Z (V 1 Z (JY (fun s2=>[(0,.str s2),(1,.int .u8 (c1.toNat:Int))]) (fun s2=>[]) (fun bX s2=>jC c1 bX s2=some r0) BIG s1 Z Z hf (fun _ hz=>bT hz) ?_)); intro bX s2 hf; rw [jC] at hf; refine W 1 Z (AS Z (AO.cK Z Z Z Z dR Z ?_)); refine B1 hf fun b1 h2 hf=>U 2 Z (AR.fK 5 8 13 true [0,1] b1 Z Z (fun h1=>?_) (fun h1=>?_) ?_)
 · refine IT 8 h1 h2 Z fun h2=>?_; refine B1 h2 fun x1 h3 h2=>U 1 Z (GO Z (AO.fV h3 Z dR Z Z ?_)); cases h2; exact fI 3 Z (En [13,0,1] Z)
 · refine IF 8 h1 h2 Z fun h2=>?_; cases h2; exact fI 5 Z (En [13,0,1] Z)
 refine J 0 Z (C hf Z (fun h4 hf=>?_) fun h4 hf=>?_)
 · refine B1 hf fun s3 h5 hf=>W 1 Z (AS Z (AO.qd h5 Z dR Z ⟨_,Z⟩ Z ?_)); exact N 1 Z ⟨s3,Z,Z,Z,hf⟩
 cases hf; exact M 2 Z (Y Z h)
theorem Ea (s1:Str) (EM:Str) {r0:Str} (hf:pX s1 EM=some r0) (h:Q (.ret (.str r0)) τ):PC 158 [.str s1,.str EM] τ Q:=by
 unfold pX at hf; refine BN 37 [.tmp 4] [0,1] Tryz.func158 Z Z Z Z Z (W 4 Z (On 3 9 12 [0,1] (EM == ([]:Str)) Z Z Z Z (J 0 Z (C hf Z (fun h2 hf=>?_) fun h2 hf=>?_))))
 · cases hf; exact M 2 Z (Y Z h)
 refine W 1 Z (AS Z (AO.cK Z Z Z Z dR Z ?_)); refine B1 hf fun b1 h4 hf=>U 2 Z (AR.fK 4 17 21 true [0,1] b1 Z Z (fun h3=>?_) (fun h3=>?_) ?_)
 · refine IT 17 h3 h4 Z fun h4=>?_; refine B1 h4 fun x1 h5 h4=>U 1 Z (GO Z (AO.fV h5 Z dR Z Z ?_)); cases h4; exact fI 2 Z (En [21,0,1] Z)
 · refine IF 17 h3 h4 Z fun h4=>?_; cases h4; exact fI 4 Z (En [21,0,1] Z)
 refine J 0 Z (C hf Z (fun h6 hf=>?_) fun h6 hf=>?_)
 · refine B1 hf fun x2 h7 hf=>W 2 Z (AS Z (AO.fV h7 Z dR Z Z ?_)); refine BR hf fun x3 h8 hf=>?_; refine CL Z (GZ _ _ h8 ?_); cases hf; exact N 1 Z (Y Z h)
 exact bT hf
theorem H6 (x1:Int) {r0:Bool} (hf:cmp_isNaN_int x1=some r0) (h:Q (.ret (.bool r0)) τ):PC 127 [iP x1] τ Q:=by
 unfold cmp_isNaN_int at hf; refine BN 6 [.tmp 2] [0] Tryz.func127 Z Z Z Z Z ?_; cases hf; exact M 5 Z (Y Z h)
theorem oI (x1:Int) (y1:Int) {r0:Int} (hf:cmp_Compare_int x1 y1=some r0) (h:Q (.ret (iP r0)) τ):PC 93 [iP x1,iP y1] τ Q:=by
 unfold cmp_Compare_int at hf; refine BN 20 [.tmp 4] [0,1] Tryz.func93 Z Z Z Z Z ?_; refine B1 hf fun OC h1 hf=>W 2 Z (CL Z (H6 _ h1 ?_)); refine B1 hf fun Im h2 hf=>U 2 Z (CL Z (H6 _ h2 (J 2 Z (C hf Z (fun h3 hf=>?_) fun h3 hf=>?_))))
 ·
  refine V 1 Z (C hf Z (fun h4 hf=>?_) fun h4 hf=>?_)
  · cases hf; exact M 1 Z (Y Z h)
  cases hf; exact M 1 Z (Y Z h)
 refine V 1 Z (C hf Z (fun h5 hf=>?_) fun h5 hf=>?_)
 · cases hf; exact M 1 Z (Y Z h)
 refine V 3 Z (C hf Z (fun h6 hf=>?_) fun h6 hf=>?_)
 · cases hf; exact M 1 Z (Y Z h)
 refine V 3 Z (C hf Z (fun h7 hf=>?_) fun h7 hf=>?_)
 · cases hf; exact M 1 Z (Y Z h)
 cases hf; exact M 1 Z (Y Z h)
theorem Ef (x1:Str) {r0:Bool} (hf:cmp_isNaN_string x1=some r0) (h:Q (.ret (.bool r0)) τ):PC 128 [.str x1] τ Q:=by
 unfold cmp_isNaN_string at hf; refine BN 6 [.tmp 2] [0] Tryz.func128 Z Z Z Z Z ?_; cases hf; exact M 5 Z (Y Z h)
theorem BZ (x1:Str) (y1:Str) {r0:Int} (hf:nM x1 y1=some r0) (h:Q (.ret (iP r0)) τ):PC 95 [.str x1,.str y1] τ Q:=by
 unfold nM at hf; refine BN 20 [.tmp 4] [0,1] Tryz.func95 Z Z Z Z Z ?_; refine B1 hf fun OC h1 hf=>W 2 Z (CL Z (Ef _ h1 ?_)); refine B1 hf fun Im h2 hf=>U 2 Z (CL Z (Ef _ h2 (J 2 Z (C hf Z (fun h3 hf=>?_) fun h3 hf=>?_))))
 ·
  refine V 1 Z (C hf Z (fun h4 hf=>?_) fun h4 hf=>?_)
  · cases hf; exact M 1 Z (Y Z h)
  cases hf; exact M 1 Z (Y Z h)
 refine V 1 Z (C hf Z (fun h5 hf=>?_) fun h5 hf=>?_)
 · cases hf; exact M 1 Z (Y Z h)
 refine V 3 Z (C hf Z (fun h6 hf=>?_) fun h6 hf=>?_)
 · cases hf; exact M 1 Z (Y Z h)
 refine V 3 Z (C hf Z (fun h7 hf=>?_) fun h7 hf=>?_)
 · cases hf; exact M 1 Z (Y Z h)
 cases hf; exact M 1 Z (Y Z h)
theorem VR (Hf:List Int) {r0:Int} (hf:D9 Hf=some r0) (h:Q (.ret (iP r0)) τ):PC 159 [.list (List.map MX Hf)] τ Q:=by
 unfold D9 at hf; refine BN 18 [.tmp 2] [0] Tryz.func159 Z Z Z Z Z (W 3 Z (AS Z (AO.aO (l:=Hf) Z Z Z Z Fj Z Z (J 1 Z (JY (fun x1=>[(3,iP 0),(6,.list (List.map MX Hf)),(7,iP (Hf.length:Int)),(8,iP x1)]) (fun x1=>[]) (fun bX x1=>xZ Hf bX x1=some r0) BIG 0 Z Z hf (fun _ hz=>bT hz) ?_))))); intro bX x1 hf; rw [xZ] at hf; refine V 1 Z (C hf Z (fun h1 hf=>?_) fun h1 hf=>?_)
 ·
  refine B1 hf fun Zy h2 hf=>W 0 Z (AS Z (AO.aP h2 Z Z Z Z Fj Z Z (J 5 Z (C hf Z (fun h3 hf=>?_) fun h3 hf=>?_))))
  · cases hf; exact M 2 Z (Y Z h)
  exact M 2 Z ⟨(cZ (x1 + 1)),Z,Z,Z,hf⟩
 cases hf; exact M 2 Z (Y Z h)
theorem PY (a1:Str) (b1:Str) {r0:Int} (hf:xV a1 b1=some r0) (h:Q (.ret (iP r0)) τ):PC 130 [.str a1,.str b1] τ Q:=by
 unfold xV at hf; refine BN 26 [.tmp 4] [0,1] Tryz.func130 Z Z Z Z Z ?_; refine B1 hf fun x1 h1 hf=>W 2 Z (CL Z (Ea _ _ h1 ?_)); refine B1 hf fun y1 h2 hf=>U 1 Z (CL Z (Ea _ _ h2 (U 3 Z (AS Z (AO.cK Z Z Z Z dR Z (U 1 Z (AS Z (AO.cK Z Z Z Z dR Z ?_)))))))); refine B1 hf fun x2 h3 hf=>CL Z (oI _ _ h3 ?_); refine B1 hf fun x3 h4 hf=>U 2 Z (CL Z (BZ _ _ h4 (U 1 Z (AS Z (AO.cK Z Z Z Z dR Z (U 1 Z (AS Z (AO.cK Z Z Z Z dR Z ?_)))))))); refine B1 hf fun x4 h5 hf=>CL Z (oI _ _ h5 (AS Z (AO.bq (List.map MX ([x2,x3,x4]:List Int)) Z QB Z Z Z Z ?_))); refine BR hf fun x5 h6 hf=>?_; refine CL Z (VR _ h6 ?_); cases hf; exact N 1 Z (Y Z h)
theorem FW (x1:UInt8) {r0:Bool} (hf:wG x1=some r0) (h:Q (.ret (.bool r0)) τ):PC 160 [.int .u8 (x1.toNat:Int)] τ Q:=by
 unfold wG at hf; refine BN 6 [.tmp 2] [0] Tryz.func160 Z Z Z Z Z ?_; cases hf; exact M 5 Z (Y Z h)
theorem Mj (x1:UInt8) (y1:UInt8) {r0:Int} (hf:sQ x1 y1=some r0) (h:Q (.ret (iP r0)) τ):PC 131 [.int .u8 (x1.toNat:Int),.int .u8 (y1.toNat:Int)] τ Q:=by
 unfold sQ at hf; refine BN 20 [.tmp 4] [0,1] Tryz.func131 Z Z Z Z Z ?_; refine B1 hf fun OC h1 hf=>W 2 Z (CL Z (FW _ h1 ?_)); refine B1 hf fun Im h2 hf=>U 2 Z (CL Z (FW _ h2 (J 2 Z (C hf Z (fun h3 hf=>?_) fun h3 hf=>?_))))
 ·
  refine V 1 Z (C hf Z (fun h4 hf=>?_) fun h4 hf=>?_)
  · cases hf; exact M 1 Z (Y Z h)
  cases hf; exact M 1 Z (Y Z h)
 refine V 1 Z (C hf Z (fun h5 hf=>?_) fun h5 hf=>?_)
 · cases hf; exact M 1 Z (Y Z h)
 refine V 3 Z (C hf Z (fun h6 hf=>?_) fun h6 hf=>?_)
 · cases hf; exact M 1 Z (Y Z h)
 refine V 3 Z (C hf Z (fun h7 hf=>?_) fun h7 hf=>?_)
 · cases hf; exact M 1 Z (Y Z h)
 cases hf; exact M 1 Z (Y Z h)
theorem Cq (a1:Str) (b1:Str) {r0:Int} (hf:jY a1 b1=some r0) (h:Q (.ret (iP r0)) τ):PC 98 [.str a1,.str b1] τ Q:=by
 unfold jY at hf; refine BN 59 [.tmp 4] [0,1] Tryz.func98 Z Z Z Z Z (V 1 Z (Zq (fun a2 b2=>[(0,.str a2),(1,.str b2)]) (fun a2 b2=>[]) (fun bX a2 b2=>kP bX a2 b2=some r0) BIG a1 b1 Z Z hf (fun _ _ hz=>bT hz) ?_)); intro bX a2 b2 hf; rw [kP] at hf; refine W 3 Z (An 3 10 13 [0,1] (!(b2 == ([]:Str))) Z Z Z Z (J 0 Z (C hf Z (fun h2 hf=>?_) fun h2 hf=>?_)))
 ·
  refine B1 hf fun n1 h3 hf=>W 1 Z (CL Z (O7 _ h3 ?_)); refine B1 hf fun m1 h4 hf=>U 1 Z (CL Z (O7 _ h4 (U 5 Z (An 3 20 23 [0,1,5,6] (decide (0 < m1)) Z Z Z Z (J 0 Z (C hf Z (fun h6 hf=>?_) fun h6 hf=>?_))))))
  ·
   refine V 0 Z (AW.draw 8 mixed (by kernel_rfl) Z ?_); refine Ev.cs bC 2 Z ?_; refine B1 hf fun x1 h7 hf=>Ev.cons Z Z Z (AO.qd h7 Z dR Z Z ⟨_,Z⟩ zg) (Ev.cs bC 2 Z ?_); refine B1 hf fun x2 h8 hf=>Ev.cons Z Z Z (AO.qd h8 Z dR Z Z ⟨_,Z⟩ zg) ?_; refine B1 hf fun c1 h9 hf=>Ev.cons Z Z Z (AO.call Z _ Z Z ae2 (PY _ _ h9 zg)) (Ev.cs bC 1 Z (Ev.nil ?_)); show AR _ _ _ _ _ _ _ _; refine J 2 Z (C hf Z (fun h10 hf=>?_) fun h10 hf=>?_)
   · cases hf; exact M 2 Z (Y Z h)
   refine V 0 Z (AW.draw 8 mixed (by kernel_rfl) Z ?_); refine Ev.cs bC 2 Z ?_; refine B1 hf fun a3 h11 hf=>Ev.cons Z Z Z (AO.qd h11 Z dR Z ⟨_,Z⟩ Z zg) (Ev.cs bC 2 Z ?_); refine B1 hf fun b3 h12 hf=>Ev.cons Z Z Z (AO.qd h12 Z dR Z ⟨_,Z⟩ Z zg) (Ev.cs bC 2 Z (Ev.nil ?_)); show AR _ _ _ _ _ _ _ _; exact N 0 Z ⟨a3,b3,Z,Z,Z,hf⟩
  refine V 0 Z (AW.draw 5 mixed (by kernel_rfl) Z ?_); refine Ev.cs bC 1 Z ?_; refine B1 hf fun x3 lZ hf=>Ev.cons Z Z Z (AO.fV lZ Z dR Z Z zg) (Ev.cs bC 1 Z ?_); refine B1 hf fun x4 nu hf=>Ev.cons Z Z Z (AO.fV nu Z dR Z Z zg) (Ev.cs bC 1 Z (Ev.nil ?_)); show AR _ _ _ _ _ _ _ _; refine J 0 Z (C hf Z (fun tq hf=>?_) fun tq hf=>?_)
  ·
   refine V 0 Z (AW.draw 6 mixed (by kernel_rfl) Z ?_); refine Ev.cs bC 1 Z ?_; refine B1 hf fun x5 h16 hf=>Ev.cons Z Z Z (AO.fV h16 Z dR Z Z zg) (Ev.cs bC 1 Z ?_); refine B1 hf fun x6 Ao hf=>Ev.cons Z Z Z (AO.fV Ao Z dR Z Z zg) ?_; refine BR hf fun x7 h18 hf=>?_; refine Ev.cons Z Z Z (AO.call Z _ Z Z ae1 (Mj _ _ h18 zg)) (Ev.cs bC 1 Z (Ev.nil ?_)); show AR _ _ _ _ _ _ _ _; cases hf; exact N 0 Z (Y Z h)
  refine V 0 Z (AW.draw 6 mixed (by kernel_rfl) Z ?_); refine Ev.cs bC 1 Z ?_; refine B1 hf fun a4 h19 hf=>Ev.cons Z Z Z (AO.qd h19 Z dR Z ⟨_,Z⟩ Z zg) (Ev.cs bC 1 Z ?_); refine B1 hf fun b4 h20 hf=>Ev.cons Z Z Z (AO.qd h20 Z dR Z ⟨_,Z⟩ Z zg) (Ev.cs bC 2 Z (Ev.nil ?_)); show AR _ _ _ _ _ _ _ _; exact N 0 Z ⟨a4,b4,Z,Z,Z,hf⟩
 refine W 1 Z (AS Z (AO.cK Z Z Z Z dR Z (U 1 Z (AS Z (AO.cK Z Z Z Z dR Z ?_))))); refine BR hf fun x8 h21 hf=>?_; refine CL Z (oI _ _ h21 ?_); cases hf; exact N 1 Z (Y Z h)
theorem Tq (v1:ah) {r0:Bool} (hf:Bu v1=some r0) (h:Q (.ret (.bool r0)) τ):PC 107 [.agg (aN v1)] τ Q:=by
 unfold Bu at hf; refine BN 44 [.tmp 2] [0] Tryz.func107 Z Z Z Z Z (W 4 Z (AS Z (AO.aO (l:=v1.keys) Z Z Z Z jm Z Z (U 2 Z (AS Z (AO.aO (l:=v1.aW) Z Z Z Z iK Z (ah.aB _) (J 1 Z (C hf Z (fun h1 hf=>?_) fun h1 hf=>?_))))))))
 · cases hf; exact M 1 Z (Y Z h)
 refine W 2 Z (AS Z (AO.aO (l:=v1.keys) Z Z Z Z jm Z Z (J 1 Z (JY (fun i1=>[(1,.ref (aN v1)),(13,sP v1.keys),(14,iP (v1.keys.length:Int)),(15,iP i1)]) (fun i1=>[]) (fun bX i1=>rV v1 bX i1=some r0) BIG 0 Z Z hf (fun _ hz=>bT hz) ?_)))); intro bX i1 hf; rw [rV] at hf; refine V 1 Z (C hf Z (fun h2 hf=>?_) fun h2 hf=>?_)
 ·
  refine B1 hf fun Al h3 hf=>W 1 Z (AS Z (AO.aP h3 Z Z Z Z jm Z Z (U 4 Z (AS Z (AO.cK Z Z Z Z dR Z (U 2 Z (AR.or 4 23 27 [1,3,4,13,14,15] (x:=(decide (64 < (Al.length:Int)))) Z Z (fun h4=>?_) (fun h4=>?_) ?_)))))))
  · refine Is 23 h4 Z (U 1 Z (GO Z (AO.cK Z Z Z Z dR Z ?_))); exact fI 2 Z (En [27,1,3,4,13,14,15] Z)
  · refine Is 23 h4 Z ?_; exact fI 4 Z (En [27,1,3,4,13,14,15] Z)
  refine B1 hf fun b1 h6 hf=>U 1 Z (AR.fK 14 28 42 false [1,13,14,15] b1 Z Z (fun h5=>?_) (fun h5=>?_) ?_)
  ·
   refine IF 28 h5 h6 Z fun h6=>?_; refine BR h6 fun b2 h8 h6=>?_; refine U 3 Z (AR.fK 10 31 41 true [1,13,14,15,28] b2 Z Z (fun h7=>?_) (fun h7=>?_) ?_)
   · refine IT 31 h7 h8 Z fun h8=>?_; refine B1 h8 fun e1 h9 h8=>U 4 Z (GO Z (AO.aP h9 Z Z Z Z jm Z Z ?_)); refine B1 h8 fun x1 h10 h8=>U 2 Z (GO Z (AO.call Z _ Z Z adR (Cq _ _ h10 ?_))); cases h8; exact fI 2 Z (En [41,1,13,14,15,28] Z)
   · refine IF 31 h7 h8 Z fun h8=>?_; cases h8; exact fI 10 Z (En [41,1,13,14,15,28] Z)
   cases h6; exact fI 1 Z (En [42,1,13,14,15] Z)
  · refine IT 28 h5 h6 Z fun h6=>?_; cases h6; exact fI 14 Z (En [42,1,13,14,15] Z)
  refine J 0 Z (C hf Z (fun h11 hf=>?_) fun h11 hf=>?_)
  · cases hf; exact M 1 Z (Y Z h)
  exact M 2 Z ⟨(cZ (i1 + 1)),Z,Z,Z,hf⟩
 cases hf; exact M 1 Z (Y Z h)
theorem VI (v1:ah) (bS:Int) {r0:Int} (hf:Dv v1 bS=some r0) (h:Q (.ret (iP r0)) τ):PC 66 [.agg (aN v1),iP bS] τ Q:=by
 unfold Dv at hf; refine BN 78 [.tmp 4] [0,1] Tryz.func66 Z Z Z Z Z (W 6 Z (On 4 9 13 [1,2] (v1.kind == 5) Z Z Z Z (J 4 Z (C hf Z (fun h2 hf=>?_) fun h2 hf=>?_))))
 · cases hf; exact M 1 Z (Y Z h)
 refine W 4 Z (On 4 21 25 [1,2,5] (decide (5 < v1.kind)) Z Z Z Z ?_); refine B1 hf fun b1 h5 hf=>U 1 Z (AR.fK 4 26 30 false [1,2,5] b1 Z Z (fun h4=>?_) (fun h4=>?_) ?_)
 · refine IF 26 h4 h5 Z fun h5=>?_; refine B1 h5 fun x1 h6 h5=>U 1 Z (GO Z (AO.call Z _ Z Z afb (RU _ h6 ?_))); cases h5; exact fI 2 Z (En [30,1,2,5] Z)
 · refine IT 26 h4 h5 Z fun h5=>?_; cases h5; exact fI 4 Z (En [30,1,2,5] Z)
 refine J 1 Z (C hf Z (fun h7 hf=>?_) fun h7 hf=>?_)
 · cases hf; exact M 1 Z (Y Z h)
 refine W 4 Z (On 4 35 39 [1,2,5] (decide (9007199254740992 < v1.gI)) Z Z Z Z (J 1 Z (C hf Z (fun h9 hf=>?_) fun h9 hf=>?_)))
 · cases hf; exact M 1 Z (Y Z h)
 refine W 2 Z (AS Z (AO.cK Z Z Z Z dR Z (U 2 Z (AR.or 5 45 50 [1,2,5] (x:=(decide (1024 < (v1.aW.length:Int)))) Z Z (fun h10=>?_) (fun h10=>?_) ?_))))
 · refine Is 45 h10 Z (U 2 Z (GO Z (AO.aO (l:=v1.aW) Z Z Z Z iK Z (ah.aB _) ?_))); exact fI 2 Z (En [50,1,2,5] Z)
 · refine Is 45 h10 Z ?_; exact fI 5 Z (En [50,1,2,5] Z)
 refine U 1 Z (AR.or 5 51 56 [1,2,5] (x:=(decide (1024 < (v1.keys.length:Int)))) Z Z (fun h11=>?_) (fun h11=>?_) ?_)
 · refine Is 51 h11 Z (U 2 Z (GO Z (AO.aO (l:=v1.keys) Z Z Z Z jm Z Z ?_))); exact fI 2 Z (En [56,1,2,5] Z)
 · refine Is 51 h11 Z ?_; exact fI 5 Z (En [56,1,2,5] Z)
 refine J 1 Z (C hf Z (fun h12 hf=>?_) fun h12 hf=>?_)
 · cases hf; exact M 1 Z (Y Z h)
 refine B1 hf fun b2 nu hf=>W 4 Z (AR.fK 4 61 65 true [1,2,5] b2 Z Z (fun lZ=>?_) (fun lZ=>?_) ?_)
 · refine IT 61 lZ nu Z fun nu=>?_; refine B1 nu fun x2 tq nu=>U 1 Z (GO Z (AO.call Z _ Z Z afa (Tq _ tq ?_))); cases nu; exact fI 2 Z (En [65,1,2,5] Z)
 · refine IF 61 lZ nu Z fun nu=>?_; cases nu; exact fI 4 Z (En [65,1,2,5] Z)
 refine J 1 Z (C hf Z (fun h16 hf=>?_) fun h16 hf=>?_)
 · cases hf; exact M 1 Z (Y Z h)
 refine W 2 Z (AR.and 5 68 73 [1] (x:=((v1.aW.length:Int) == 0)) Z Z (fun Ao=>?_) (fun Ao=>?_) ?_)
 · refine Is 68 Ao Z (U 2 Z (GO Z (AO.aO (l:=v1.aW) Z Z Z Z iK Z (ah.aB _) ?_))); exact fI 2 Z (En [73,1] Z)
 · refine Is 68 Ao Z ?_; exact fI 5 Z (En [73,1] Z)
 refine U 1 Z (An 3 74 77 [] (bS == 16) Z Z Z Z (J 1 Z (C hf Z (fun h19 hf=>?_) fun h19 hf=>?_)))
 · cases hf; exact M 1 Z (Y Z h)
 cases hf; exact M 1 Z (Y Z h)
theorem pU (v1:ah) {r0:Int} (hf:l5 v1=some r0) (h:Q (.ret (iP r0)) τ):PC 39 [.agg (aN v1)] τ Q:=by
 unfold l5 at hf; refine AC.none (AC.KW 16 [.cell 2 25] [0] Tryz.func39 Z Z Z Z Z ?_); obtain ⟨b1,s1,h1,hf⟩:=bP hf; cases hf; refine AW.sr (AR.step Z Z Z (AO.Dc Z Z Z (AR.step Z Z Z (AO.aC Z aaF (fun b2=>(AR.nil [1,2] Z ?_)))))); refine AW.seq (AW.sr (cs 1 Z (AR.step Z Z Z (AO.call Z _ Z Z adW (KZ _ _ ?_))))); refine AR.nil [2,7] Z (AW.block (AW.rangeFunc (β:=Option Int) (X:=Int × ah) Z abF (fun x=>[iP x.1,.agg (aN x.2)]) (fun _=>Z) (by decide) (fun s x=>nR s x.1 x.2) (fun s=>[.box b2 [iP (s.getD 0)]]) (fun s=>s.map fun _=>.ret) (s0:=none) (s1:=s1) Z Z ?_ ?_ ?_))
 ·
  intro l T' hy; refine Hw l T' nR (fun s1 bS v1 b s2 hh=>hy s1 (bS,v1) b s2 hh) none v1 1 h1 ⟨⟨_,Z⟩,Z⟩
 ·
  rintro l s ⟨bS,x1⟩ b s2 hh; unfold nR at hh; cases s with
  | some e=>cases hh
  | none=>
  refine ⟨Z,?_⟩; refine B1 hh fun e1 h2 hh=>?_; refine Ak.seq (Ak.region Z (cs 1 Z (AR.nil [2,3,9] Z ?_))); refine Ak.region Z (AR.step Z Z Z (AO.aC Z gY (fun b4=>(AR.bF Z Z (AO.bR (i:=0) Z Z Z mK Z Z Z Z Z (AR.nil [2,3,4] Z ?_)))))); refine ⟨Z,(Ak.block (Ak.seq (Ak.region Z ?_)))⟩; refine AR.step Z Z Z (AO.aR (i:=0) Z Z Z mK Z Z (cs 1 Z (AR.step Z Z Z (AO.call Z _ Z Z agK (VI _ _ h2 (cs 1 Z ?_)))))); refine AR.nil [2,5] Z (Ak.seq (Ak.region Z (cs 2 Z ?_))); refine AR.nil [2,5,14] Z (Ak.cond Z (fun h3=>?_) (fun h3=>?_))
  ·
   replace hh:=jF h3 hh; cases hh; refine Ak.seq (Ak.region Z (cs 1 Z (AR.bF Z Z (AO.bR (i:=1) Z Z Z EA Z Z Z Z Z ?_)))); refine AR.nil [] Z (Ak.ret ?_); exact ⟨Z,.cons _ (List.Sublist.refl _),Z,Z⟩
  ·
   replace hh:=iw h3 hh; cases hh; refine Ak.skip ?_; exact ⟨Z,.cons _ (List.Sublist.refl _),Z,Z⟩
 ·
  intro D; cases s1 with
  | some e=>exact ⟨D,_,Z,Z,_,⟨_,_,Z,⟨_,_,0,_,_,Z,Z,EA,Z⟩,Z⟩,[],List.nil_sublist _,h⟩
  | none=>
   show AW _ _ _ _ _ _ _; refine AW.sr (AR.bF Z Z (AO.bR (i:=0) Z Z Z EA Z Z Z Z Z (AR.nil [2] Z (AW.ret ?_)))); exact ⟨D,[_],Z,Z,_,⟨_,_,Z,⟨_,_,0,_,_,Z,Z,EA,Z⟩,Z⟩,[],List.nil_sublist _,h⟩
theorem Nj (l1:List Str) {r0:Bool} (hf:uG l1=some r0) (h:Q (.ret (.bool r0)) τ):PC 136 [sP l1] τ Q:=by
 unfold uG at hf; refine BN 22 [.tmp 2] [0] Tryz.func136 Z Z Z Z Z (W 1 Z (AS Z (AO.Rc Z (fun m6=>(U 2 Z (AS Z (AO.aO (l:=l1) Z Z Z Z jm Z Z (J 1 Z (Zq (fun x1 y1=>[(3,.val (.map (some m6))),(7,sP l1),(8,iP (l1.length:Int)),(9,iP x1)]) (fun x1 y1=>[.obj m6 (xE y1)]) (fun bX x1 y1=>qh l1 bX x1 y1=some r0) BIG 0 [] Z Z hf (fun _ _ hz=>bT hz) ?_))))))))); intro bX x1 y1 hf; rw [qh] at hf; refine V 1 Z (C hf Z (fun h1 hf=>?_) fun h1 hf=>?_)
 ·
  refine B1 hf fun s1 h2 hf=>W 0 Z (AS Z (AO.aP h2 Z Z Z Z jm Z Z (U 4 Z (AS Z (AO.Kg (i:=0) (l:=y1) Z Z Z Z Gw dR Zt (U 1 Z (AR.bF Z Z (AO.LJ (i:=0) (l:=y1) Z Z Z Z Z Gw dR (U 2 Z (AS Z (AO.Kg (i:=0) (l:=(xQ y1 s1 (cZ ((wQ y1 s1) + 1)))) Z Z Z Z Gw dR Zt ?_))))))))))); refine J 1 Z (C hf Z (fun h3 hf=>?_) fun h3 hf=>?_)
  · cases hf; exact M 1 Z (Y Z h)
  exact M 2 Z ⟨(cZ (x1 + 1)),(xQ y1 s1 (cZ ((wQ y1 s1) + 1))),Z,Z,Z,hf⟩
 cases hf; exact M 1 Z (Y Z h)
theorem TH (e1:aj) (bS:Int) {r0:Int} (hf:Bw e1 bS=some r0) (h:Q (.ret (iP r0)) τ):PC 99 [.agg (bE e1),iP bS] τ Q:=by
 unfold Bw at hf; refine BN 65 [.tmp 4] [0,1] Tryz.func99 Z Z Z Z Z (V 5 Z (C hf Z (fun h1 hf=>?_) fun h1 hf=>?_))
 · cases hf; exact M 1 Z (Y Z h)
 refine W 4 Z (On 4 12 16 [2] (decide (10 < e1.kind)) Z Z Z Z ?_); refine B1 hf fun b1 h4 hf=>U 1 Z (AR.fK 10 17 27 false [2] b1 Z Z (fun h3=>?_) (fun h3=>?_) ?_)
 ·
  refine IF 17 h3 h4 Z fun h4=>?_; refine BR h4 fun b2 h6 h4=>?_; refine U 4 Z (AR.fK 5 21 26 true [2,17] b2 Z Z (fun h5=>?_) (fun h5=>?_) ?_)
  · refine IT 21 h5 h6 Z fun h6=>?_; refine B1 h6 fun x1 h7 h6=>U 2 Z (GO Z (AO.call Z _ Z Z ae0 (TB _ h7 ?_))); cases h6; exact fI 2 Z (En [26,2,17] Z)
  · refine IF 21 h5 h6 Z fun h6=>?_; cases h6; exact fI 5 Z (En [26,2,17] Z)
  cases h4; exact fI 1 Z (En [27,2] Z)
 · refine IT 17 h3 h4 Z fun h4=>?_; cases h4; exact fI 10 Z (En [27,2] Z)
 refine B1 hf fun b3 h9 hf=>U 1 Z (AR.fK 4 28 32 false [2] b3 Z Z (fun h8=>?_) (fun h8=>?_) ?_)
 · refine IF 28 h8 h9 Z fun h9=>?_; refine B1 h9 fun x2 h10 h9=>U 1 Z (GO Z (AO.call Z _ Z Z aeZ (R3 _ h10 ?_))); cases h9; exact fI 2 Z (En [32,2] Z)
 · refine IT 28 h8 h9 Z fun h9=>?_; cases h9; exact fI 4 Z (En [32,2] Z)
 refine B1 hf fun b4 h12 hf=>U 1 Z (AR.fK 4 33 37 false [2] b4 Z Z (fun h11=>?_) (fun h11=>?_) ?_)
 · refine IF 33 h11 h12 Z fun h12=>?_; refine B1 h12 fun x3 lZ h12=>U 1 Z (GO Z (AO.call Z _ Z Z aeY (R6 _ lZ ?_))); cases h12; exact fI 2 Z (En [37,2] Z)
 · refine IT 33 h11 h12 Z fun h12=>?_; cases h12; exact fI 4 Z (En [37,2] Z)
 refine B1 hf fun b5 tq hf=>U 1 Z (AR.fK 4 38 42 false [2] b5 Z Z (fun nu=>?_) (fun nu=>?_) ?_)
 · refine IF 38 nu tq Z fun tq=>?_; refine B1 tq fun x4 h16 tq=>U 1 Z (GO Z (AO.call Z _ Z Z aeX (R4 _ h16 ?_))); cases tq; exact fI 2 Z (En [42,2] Z)
 · refine IT 38 nu tq Z fun tq=>?_; cases tq; exact fI 4 Z (En [42,2] Z)
 refine J 1 Z (C hf Z (fun Ao hf=>?_) fun Ao hf=>?_)
 · cases hf; exact M 1 Z (Y Z h)
 refine B1 hf fun b6 h19 hf=>W 4 Z (AR.fK 5 47 52 true [2] b6 Z Z (fun h18=>?_) (fun h18=>?_) ?_)
 · refine IT 47 h18 h19 Z fun h19=>?_; refine B1 h19 fun x5 h20 h19=>U 2 Z (GO Z (AO.call Z _ Z Z ad1 (pU _ h20 ?_))); cases h19; exact fI 2 Z (En [52,2] Z)
 · refine IF 47 h18 h19 Z fun h19=>?_; cases h19; exact fI 5 Z (En [52,2] Z)
 refine J 1 Z (C hf Z (fun h21 hf=>?_) fun h21 hf=>?_)
 · refine BR hf fun x6 h22 hf=>?_; refine W 2 Z (CL Z (pU _ h22 ?_)); cases hf; exact N 1 Z (Y Z h)
 refine W 2 Z (AS Z (AO.aO (l:=e1.args) Z Z Z Z iQ Z (aj.aB _) (J 2 Z (C hf Z (fun h23 hf=>?_) fun h23 hf=>?_))))
 · cases hf; exact M 1 Z (Y Z h)
 refine B1 hf fun x7 Ti hf=>W 2 Z (CL Z (Nj _ Ti (J 1 Z (C hf Z (fun Ux hf=>?_) fun Ux hf=>?_))))
 · cases hf; exact M 1 Z (Y Z h)
 cases hf; exact M 1 Z (Y Z h)
abbrev J2 (kG:aj→Int→Option Int):Prop:=∀ (j3:aj) (fT:Int) {aZ:Int},kG j3 fT=some aZ→∀ {τ:List bf} {Q:dx→List bf→Prop} (h:Q (.ret (iP aZ)) τ),PC 60 [.agg (bE j3),iP fT] τ Q
theorem Qm (kG) (N8:J2 kG) (e1:aj) (bS:Int) {r0:Int} (hf:zG kG e1 bS=some r0) (h:Q (.ret (iP r0)) τ):PC 60 [.agg (bE e1),iP bS] τ Q:=by
 unfold zG at hf; refine BN 30 [.tmp 4] [0,1] Tryz.func60 Z Z Z Z Z ?_; refine B1 hf fun f1 h1 hf=>W 4 Z (CL Z (TH _ _ h1 (J 3 Z (C hf Z (fun h2 hf=>?_) fun h2 hf=>?_))))
 · cases hf; exact M 2 Z (Y Z h)
 refine W 2 Z (AS Z (AO.aO (l:=e1.args) Z Z Z Z iQ Z (aj.aB _) (J 1 Z (JY (fun x1=>[(1,iP bS),(16,.list (aj.aM e1.args)),(17,iP (e1.args.length:Int)),(18,iP x1)]) (fun x1=>[]) (fun bX x1=>uF kG e1 bS bX x1=some r0) BIG 0 Z Z hf (fun _ hz=>bT hz) ?_)))); intro bX x1 hf; rw [uF] at hf; refine V 1 Z (C hf Z (fun h3 hf=>?_) fun h3 hf=>?_)
 ·
  refine B1 hf fun e2 h4 hf=>W 0 Z (AS Z (AO.aP h4 Z Z (aj.aB _) Z iQ (aj.aD _) Z (U 1 Z (AS Z (AO.aC Z iO (fun b7=>?_)))))); refine B1 hf fun f2 h5 hf=>Rr 4 [0,0] Z Z (CL Z (N8 _ _ h5 (J 3 Z (C hf Z (fun h6 hf=>?_) fun h6 hf=>?_))))
  · cases hf; exact M 2 Z (Y Z h)
  refine Wn0 2 Z (AR.drop1 ?_); exact N 0 Z ⟨(cZ (x1 + 1)),Z,Z,Z,hf⟩
 cases hf; exact M 1 Z (Y Z h)
theorem Q7 :∀ k:Nat,(J2 (mQ k)):=by
 intro k
 induction k with
 | zero=>exact fun _ _ _ hz=>by first | cases hz | (unfold mQ at hz; cases hz)
 | succ k ih=>exact fun j3 fT aZ hz τ Q hq=>Qm (mQ k) ih j3 fT hz hq
theorem RY (j3:aj) (fT:Int) {aZ:Int} (hf:Gl j3 fT=some aZ) (h:Q (.ret (iP aZ)) τ):PC 60 [.agg (bE j3),iP fT] τ Q:=
 ((Q7 BIG)) j3 fT hf h
theorem sU (e1:aj) {r0:Int} (hf:jq e1=some r0) (h:Q (.ret (iP r0)) τ):PC 35 [.agg (bE e1)] τ Q:=by
 unfold jq at hf; refine BN 8 [.tmp 2] [0] Tryz.func35 Z Z Z Z Z ?_; refine B1 hf fun x1 h1 hf=>W 3 Z (CL Z (R8 _ h1 (J 1 Z (C hf Z (fun h2 hf=>?_) fun h2 hf=>?_))))
 · cases hf; exact M 1 Z (Y Z h)
 refine BR hf fun x2 h3 hf=>?_; refine W 1 Z (CL Z (RY _ _ h3 ?_)); cases hf; exact N 1 Z (Y Z h)
theorem JQ (s1:Str) {r0:Bool} (hf:ru s1=some r0) (h:Q (.ret (.bool r0)) τ):PC 111 [.str s1] τ Q:=by
 unfold ru at hf; refine BN 7 [.tmp 2] [0] Tryz.func111 Z Z Z Z Z ?_; refine B1 hf fun x1 h1 hf=>W 3 Z (CL Z (sU _ h1 ?_)); cases hf; exact N 2 Z (Y Z h)
theorem KP (b1:au) {r0:Int} (hf:mX b1=some r0) (h:Q (.ret (iP r0)) τ):PC 112 [.agg (dY b1)] τ Q:=by
 unfold mX at hf; refine BN 36 [.tmp 2] [0] Tryz.func112 Z Z Z Z Z (W 2 Z (AS Z (AO.Rc Z (fun m7=>(U 3 Z (AS Z (AO.aO (l:=b1.attrs) Z Z Z Z o9 Z Z (J 1 Z (Zq (fun x1 y1=>[(3,.val (.map (some m7))),(9,.list (List.map aK.cells b1.attrs)),(10,iP (b1.attrs.length:Int)),(11,iP x1)]) (fun x1 y1=>[.obj m7 (xE y1)]) (fun bX x1 y1=>l9 b1 bX x1 y1=some r0) BIG 0 [] Z Z hf (fun _ _ hz=>bT hz) ?_))))))))); intro bX x1 y1 hf; rw [l9] at hf; refine V 1 Z (C hf Z (fun h1 hf=>?_) fun h1 hf=>?_)
 ·
  refine B1 hf fun e1 h2 hf=>W 0 Z (AS Z (AO.aP h2 Z Z Z Z o9 (aK.aD _) Z (U 1 Z (AS Z (AO.aC Z OA (fun b5=>?_)))))); refine B1 hf fun x2 h3 hf=>Rr 3 [0,0] Z Z (CL Z (JQ _ h3 (J 1 Z (C hf Z (fun h4 hf=>?_) fun h4 hf=>?_))))
  · cases hf; exact M 1 Z (Y Z h)
  refine B1 hf fun e2 h5 hf=>Wr 2 [0] Z Z (CL Z (sU _ h5 (J 3 Z (C hf Z (fun h6 hf=>?_) fun h6 hf=>?_))))
  · cases hf; exact M 2 Z (Y Z h)
  refine Wr 3 [0] Z Z (AS Z (AO.Kg (i:=1) (l:=y1) Z Z Z Z Gw dR Zt (U 1 Z (AR.bF Z Z (AO.LJ (i:=1) (l:=y1) Z Z Z Z Z Gw dR (Rr 3 [0] Z Z (AS Z (AO.Kg (i:=1) (l:=(xQ y1 e1.name (cZ ((wQ y1 e1.name) + 1)))) Z Z Z Z Gw dR Zt (J 1 Z (C hf Z (fun h7 hf=>?_) fun h7 hf=>?_))))))))))
  · cases hf; exact M 1 Z (Y Z h)
  refine Wn0 2 Z (AR.drop1 ?_); exact N 0 Z ⟨(cZ (x1 + 1)),(xQ y1 e1.name (cZ ((wQ y1 e1.name) + 1))),Z,Z,Z,hf⟩
 cases hf; exact M 1 Z (Y Z h)
abbrev J6 (kJ:au→Int→Option Int):Prop:=∀ (oz:au) (fT:Int) {aZ:Int},kJ oz fT=some aZ→∀ {τ:List bf} {Q:dx→List bf→Prop} (h:Q (.ret (iP aZ)) τ),PC 77 [.agg (dY oz),iP fT] τ Q
theorem Qq (kJ) (Ob:J6 kJ) (b1:au) (bS:Int) {r0:Int} (hf:wE kJ b1 bS=some r0) (h:Q (.ret (iP r0)) τ):PC 77 [.agg (dY b1),iP bS] τ Q:=by
 unfold wE at hf; refine BN 54 [.tmp 4] [0,1] Tryz.func77 Z Z Z Z Z (V 5 Z (C hf Z (fun h1 hf=>?_) fun h1 hf=>?_))
 · cases hf; exact M 1 Z (Y Z h)
 refine B1 hf fun x1 h2 hf=>W 2 Z (CL Z (JQ _ h2 (U 2 Z (AR.or 5 17 22 [1,2] (x:=(decide (64 < (b1.name.length:Int)))) Z Z (fun h3=>?_) (fun h3=>?_) ?_))))
 · refine Is 17 h3 Z (U 2 Z (GO Z (AO.cK Z Z Z Z dR Z ?_))); exact fI 2 Z (En [22,1,2] Z)
 · refine Is 17 h3 Z ?_; exact fI 5 Z (En [22,1,2] Z)
 refine J 1 Z (C hf Z (fun h4 hf=>?_) fun h4 hf=>?_)
 · cases hf; exact M 1 Z (Y Z h)
 refine W 2 Z (AS Z (AO.aO (l:=b1.attrs) Z Z Z Z o9 Z Z (U 2 Z (AR.or 5 28 33 [1,2] (x:=(decide (1024 < (b1.blocks.length:Int)))) Z Z (fun h5=>?_) (fun h5=>?_) ?_))))
 · refine Is 28 h5 Z (U 2 Z (GO Z (AO.aO (l:=b1.blocks) Z Z Z Z jG Z (au.aB _) ?_))); exact fI 2 Z (En [33,1,2] Z)
 · refine Is 28 h5 Z ?_; exact fI 5 Z (En [33,1,2] Z)
 refine J 1 Z (C hf Z (fun h6 hf=>?_) fun h6 hf=>?_)
 · cases hf; exact M 1 Z (Y Z h)
 refine B1 hf fun e1 h7 hf=>W 1 Z (CL Z (KP _ h7 (J 3 Z (C hf Z (fun h8 hf=>?_) fun h8 hf=>?_))))
 · cases hf; exact M 2 Z (Y Z h)
 refine W 2 Z (AS Z (AO.aO (l:=b1.blocks) Z Z Z Z jG Z (au.aB _) (J 1 Z (JY (fun x2=>[(1,iP bS),(40,.list (au.aM b1.blocks)),(41,iP (b1.blocks.length:Int)),(42,iP x2)]) (fun x2=>[]) (fun bX x2=>uM kJ b1 bS bX x2=some r0) BIG 0 Z Z hf (fun _ hz=>bT hz) ?_)))); intro bX x2 hf; rw [uM] at hf; refine V 1 Z (C hf Z (fun h9 hf=>?_) fun h9 hf=>?_)
 ·
  refine B1 hf fun e2 h10 hf=>W 0 Z (AS Z (AO.aP h10 Z Z (au.aB _) Z jG (au.aD _) Z (U 1 Z (AS Z (AO.aC Z nP (fun b7=>?_)))))); refine B1 hf fun e3 h11 hf=>Rr 4 [0,0] Z Z (CL Z (Ob _ _ h11 (J 3 Z (C hf Z (fun h12 hf=>?_) fun h12 hf=>?_))))
  · cases hf; exact M 2 Z (Y Z h)
  refine Wn0 2 Z (AR.drop1 ?_); exact N 0 Z ⟨(cZ (x2 + 1)),Z,Z,Z,hf⟩
 cases hf; exact M 1 Z (Y Z h)
theorem Ra :∀ k:Nat,(J6 (ow k)):=by
 intro k
 induction k with
 | zero=>exact fun _ _ _ hz=>by first | cases hz | (unfold ow at hz; cases hz)
 | succ k ih=>exact fun oz fT aZ hz τ Q hq=>Qq (ow k) ih oz fT hz hq
theorem Sm (oz:au) (fT:Int) {aZ:Int} (hf:C_ oz fT=some aZ) (h:Q (.ret (iP aZ)) τ):PC 77 [.agg (dY oz),iP fT] τ Q:=
 ((Ra BIG)) oz fT hf h
theorem Ee (f1:cO) {r0:Int} (hf:rz f1=some r0) (h:Q (.ret (iP r0)) τ):PC 47 [.agg [.list (au.aM f1.blocks)]] τ Q:=by
 unfold rz at hf; refine BN 23 [.tmp 2] [0] Tryz.func47 Z Z Z Z Z (W 4 Z (AS Z (AO.aO (l:=f1.blocks) Z Z Z Z jG Z (au.aB _) (J 1 Z (C hf Z (fun h1 hf=>?_) fun h1 hf=>?_)))))
 · cases hf; exact M 1 Z (Y Z h)
 refine W 2 Z (AS Z (AO.aO (l:=f1.blocks) Z Z Z Z jG Z (au.aB _) (J 1 Z (JY (fun x1=>[(11,.list (au.aM f1.blocks)),(12,iP (f1.blocks.length:Int)),(13,iP x1)]) (fun x1=>[]) (fun bX x1=>uN f1 bX x1=some r0) BIG 0 Z Z hf (fun _ hz=>bT hz) ?_)))); intro bX x1 hf; rw [uN] at hf; refine V 1 Z (C hf Z (fun h2 hf=>?_) fun h2 hf=>?_)
 ·
  refine B1 hf fun e1 h3 hf=>W 0 Z (AS Z (AO.aP h3 Z Z (au.aB _) Z jG (au.aD _) Z (U 1 Z (AS Z (AO.aC Z nP (fun b4=>?_)))))); refine B1 hf fun e2 h4 hf=>Rr 2 [0,0] Z Z (CL Z (Sm _ _ h4 (J 3 Z (C hf Z (fun h5 hf=>?_) fun h5 hf=>?_))))
  · cases hf; exact M 2 Z (Y Z h)
  refine Wn0 2 Z (AR.drop1 ?_); exact N 0 Z ⟨(cZ (x1 + 1)),Z,Z,Z,hf⟩
 cases hf; exact M 1 Z (Y Z h)
theorem Mf (s1:List aK) {r0:List aK} (hf:dF s1=some r0) (h:Q (.ret (.list (List.map aK.cells r0))) τ):PC 113 [.list (List.map aK.cells s1)] τ Q:=by
 unfold dF at hf; refine BN 8 [.tmp 2] [0] Tryz.func113 Z Z Z Z Z (W 0 Z (AS Z (AO.eO Z Z (U 1 Z (AS Z (AO.iG Z Z YF (fun b hb=>(J 0 Z (AW.cond Z (fun h1=>?_) (fun h1=>?_))))))))))
 · obtain rfl:s1=[]:=List.map_eq_nil_iff.1 (hb h1); obtain ⟨_,rfl⟩:=kF hf; refine W 0 Z (AS Z (AO.eO Z Z ?_)); exact N 0 rfl ⟨rfl,_,⟨_,_,rfl,rfl,rfl⟩,_,List.Sublist.refl _,h⟩
 refine W 0 Z (AS Z (AO.fO [] Z xq Z Z Z Z Z (fun v1=>(U 1 Z (AS Z (AO.eZ (i:=0) (l:=[]) (m:=s1) hf Z Z Z Z Z Z Z xq o9 Z Z Z (aK.bG) (aK.cells_one) (by decide) (fun v2 s2 hs2=>?_))))))); cases hs2; exact N 1 Z (Y Z h)
theorem JG (s1:List aK) {r0:List aK} (hf:dF s1=some r0) {Q:dx→List bf→Prop} (h:∀ v,Q (.ret (.val v)) [.buf v r0.length 11 48 (r0.flatMap aK.cells)]):PC 113 [.list (List.map aK.cells s1)] [] Q:=by
 unfold dF at hf; obtain ⟨hl,e0⟩:=kF hf; rw [List.nil_append] at e0; subst e0; simp only [List.length_nil,Nat.zero_add] at hl; have hlen:∀ x:aK,(aK.cells x).length=11:=fun _=>Z; have hone:∀ x:aK,(aK.cells x).all PV.one=true:=fun _=>Z; refine AC.jX 8 [.tmp 2] [0] Tryz.func113 Z Z Z Z Z (AW.sr (AR.step Z Z Z (AO.eO Z Z (AR.nil [0] Z ?_)))); refine AW.seq (AW.sr (cs 1 Z (AR.step Z Z Z (AO.iG Z Z YF (fun b hb=>?_))))); refine AR.nil [0,4] Z (AW.cond Z (fun h1=>?_) (fun h1=>?_))
 · obtain rfl:r0=[]:=List.map_eq_nil_iff.1 (hb h1); refine AW.sr (AR.step Z Z Z (AO.zM Z Z (AR.nil [2] Z (AW.TS 11 48 ?_)))); refine AW.ret ?_; exact ⟨rfl,_,⟨_,_,rfl,rfl,rfl⟩,_,List.Sublist.refl _,h _⟩
 refine AW.skip (AW.sr (AR.step Z Z Z (AO.fO [] Z xq Z Z Z Z Z (fun v1=>(cs 1 Z ?_))))); refine AR.step Z Z Z (AO.Bb (i:=0) (l2:=List.map aK.cells r0) Z Z Z Z Z Z Z xq o9 (fun y hy=>?_) (fun y hy=>?_) ?_ ?_ (fun v2 s1 hs1=>?_))
 · obtain ⟨s,_,rfl⟩:=List.mem_map.1 hy; exact hlen s
 · obtain ⟨s,_,rfl⟩:=List.mem_map.1 hy; exact hone s
 · rw [List.length_map]; unfold Ik at hl; unfold maxLen; omega
 · rw [List.length_map]; unfold Ik at hl; omega
 cases hs1; refine cs 1 Z (AR.nil [2] Z (AW.ret ?_)); have hv:=h v2; rw [List.flatMap_def,show r0.length=(List.map aK.cells r0).length from (List.length_map _).symm] at hv; exact ⟨rfl,_,⟨_,_,rfl,rfl,rfl⟩,_,List.Sublist.refl _,hv⟩
theorem JF (s1:List aK) {r0:List aK} (hf:dF s1=some r0) {Q:dx→List bf→Prop} (h:∀ v,Q (.ret (.own v (List.map aK.cells r0))) [.row v (List.map aK.cells r0).length 11 48]):PC 113 [.list (List.map aK.cells s1)] [] Q:=by
 unfold dF at hf; refine AC.Bz 8 [.tmp 2] [0] Tryz.func113 Z Z Z Z Z (AW.sr (AR.step Z Z Z (AO.eO Z Z (AR.nil [0] Z ?_)))); refine AW.seq (AW.sr (cs 1 Z (AR.step Z Z Z (AO.iG Z Z YF (fun b hb=>?_))))); refine AR.nil [0,4] Z (AW.cond Z (fun h1=>?_) (fun h1=>?_))
 · obtain rfl:s1=[]:=List.map_eq_nil_iff.1 (hb h1); obtain ⟨_,rfl⟩:=kF hf; refine AW.sr (cs 1 Z (AR.nil [2] Z (AW.row 11 48 ?_))); refine AW.ret ?_; exact ⟨rfl,_,⟨_,_,rfl,rfl,rfl⟩,_,List.Sublist.refl _,h _⟩
 refine AW.skip (AW.sr (AR.step Z Z Z (AO.fO [] Z xq Z Z Z Z Z (fun v1=>(cs 1 Z ?_))))); refine AR.step Z Z Z (AO.eZ (i:=0) (l:=[]) (m:=s1) hf Z Z Z Z Z Z Z xq o9 Z Z Z (aK.bG) (aK.cells_one) (by decide) (fun v2 s2 hs2=>?_)); cases hs2; refine cs 1 Z (AR.nil [2] Z (AW.ret ?_)); exact ⟨rfl,_,⟨_,_,rfl,rfl,rfl⟩,_,List.Sublist.refl _,h v2⟩
theorem nO (s1:List Str) {r0:List Str} (hf:dW s1=some r0) (h:Q (.ret (sP r0)) τ):PC 42 [sP s1] τ Q:=by
 unfold dW at hf; refine BN 8 [.tmp 2] [0] Tryz.func42 Z Z Z Z Z (W 0 Z (AS Z (AO.eO Z Z (U 1 Z (AS Z (AO.iG Z Z adK (fun b hb=>(J 0 Z (AW.cond Z (fun h1=>?_) (fun h1=>?_))))))))))
 · obtain rfl:s1=[]:=List.map_eq_nil_iff.1 (hb h1); obtain ⟨_,rfl⟩:=kF hf; refine W 0 Z (AS Z (AO.eO Z Z ?_)); exact N 0 rfl ⟨rfl,_,⟨_,_,rfl,rfl,rfl⟩,_,List.Sublist.refl _,h⟩
 refine W 0 Z (AS Z (AO.fO [] Z tH Z Z Z Z Z (fun v1=>(U 1 Z (AS Z (AO.eZ (i:=0) (l:=[]) (m:=s1) hf Z Z Z Z Z Z Z tH jm Z Z Z (fun _=>Z) (fun _=>Z) (by decide) (fun v2 s2 hs2=>?_))))))); cases hs2; exact N 1 Z (Y Z h)
theorem Md (s1:List Str) {r0:List Str} (hf:dW s1=some r0) {Q:dx→List bf→Prop} (h:∀ v,Q (.ret (.own v (List.map nD r0))) [.row v (List.map nD r0).length 1 9]):PC 42 [sP s1] [] Q:=by
 unfold dW at hf; refine AC.Bz 8 [.tmp 2] [0] Tryz.func42 Z Z Z Z Z (AW.sr (AR.step Z Z Z (AO.eO Z Z (AR.nil [0] Z ?_)))); refine AW.seq (AW.sr (cs 1 Z (AR.step Z Z Z (AO.iG Z Z adK (fun b hb=>?_))))); refine AR.nil [0,4] Z (AW.cond Z (fun h1=>?_) (fun h1=>?_))
 · obtain rfl:s1=[]:=List.map_eq_nil_iff.1 (hb h1); obtain ⟨_,rfl⟩:=kF hf; refine AW.sr (cs 1 Z (AR.nil [2] Z (AW.row 1 9 ?_))); refine AW.ret ?_; exact ⟨rfl,_,⟨_,_,rfl,rfl,rfl⟩,_,List.Sublist.refl _,h _⟩
 refine AW.skip (AW.sr (AR.step Z Z Z (AO.fO [] Z tH Z Z Z Z Z (fun v1=>(cs 1 Z ?_))))); refine AR.step Z Z Z (AO.eZ (i:=0) (l:=[]) (m:=s1) hf Z Z Z Z Z Z Z tH jm Z Z Z (fun _=>Z) (fun _=>Z) (by decide) (fun v2 s2 hs2=>?_)); cases hs2; refine cs 1 Z (AR.nil [2] Z (AW.ret ?_)); exact ⟨rfl,_,⟨_,_,rfl,rfl,rfl⟩,_,List.Sublist.refl _,h v2⟩
theorem KN (s1:List ah) {r0:List ah} (hf:eT s1=some r0) (h:Q (.ret (.list (ah.aM r0))) τ):PC 43 [.list (ah.aM s1)] τ Q:=by
 unfold eT at hf; refine BN 8 [.tmp 2] [0] Tryz.func43 Z Z Z Z Z (W 0 Z (AS Z (AO.eO Z Z (U 1 Z (AS Z (AO.iG Z Z aaS (fun b hb=>(J 0 Z (AW.cond Z (fun h1=>?_) (fun h1=>?_))))))))))
 · have hb1:=hb h1; rw [ah.aB] at hb1; obtain rfl:s1=[]:=List.map_eq_nil_iff.1 hb1; obtain ⟨_,rfl⟩:=kF hf; refine W 0 Z (AS Z (AO.eO Z Z ?_)); exact N 0 rfl ⟨rfl,_,⟨_,_,rfl,rfl,rfl⟩,_,List.Sublist.refl _,h⟩
 refine W 0 Z (AS Z (AO.fO [] Z yY Z Z Z Z Z (fun v1=>(U 1 Z (AS Z (AO.eZ (i:=0) (l:=[]) (m:=s1) hf Z Z Z Z Z Z Z yY iK (show ([]:List (List PV))=List.map ah.cells [] from Z) (ah.aB _) (ah.aB _).symm (ah.bG) (ah.cells_one) (by decide) (fun v2 s2 hs2=>?_))))))); cases hs2; exact N 1 Z (Y Z h)
theorem Ii (s1:List ah) {r0:List ah} (hf:eT s1=some r0) {Q:dx→List bf→Prop} (h:∀ v,Q (.ret (.own v (ah.aM r0))) [.row v (ah.aM r0).length 6 42]):PC 43 [.list (ah.aM s1)] [] Q:=by
 unfold eT at hf; refine AC.Bz 8 [.tmp 2] [0] Tryz.func43 Z Z Z Z Z (AW.sr (AR.step Z Z Z (AO.eO Z Z (AR.nil [0] Z ?_)))); refine AW.seq (AW.sr (cs 1 Z (AR.step Z Z Z (AO.iG Z Z aaS (fun b hb=>?_))))); refine AR.nil [0,4] Z (AW.cond Z (fun h1=>?_) (fun h1=>?_))
 · have hb1:=hb h1; rw [ah.aB] at hb1; obtain rfl:s1=[]:=List.map_eq_nil_iff.1 hb1; obtain ⟨_,rfl⟩:=kF hf; refine AW.sr (cs 1 Z (AR.nil [2] Z (AW.row 6 42 ?_))); refine AW.ret ?_; exact ⟨rfl,_,⟨_,_,rfl,rfl,rfl⟩,_,List.Sublist.refl _,h _⟩
 refine AW.skip (AW.sr (AR.step Z Z Z (AO.fO [] Z yY Z Z Z Z Z (fun v1=>(cs 1 Z ?_))))); refine AR.step Z Z Z (AO.eZ (i:=0) (l:=[]) (m:=s1) hf Z Z Z Z Z Z Z yY iK (show ([]:List (List PV))=List.map ah.cells [] from Z) (ah.aB _) (ah.aB _).symm (ah.bG) (ah.cells_one) (by decide) (fun v2 s2 hs2=>?_)); cases hs2; refine cs 1 Z (AR.nil [2] Z (AW.ret ?_)); exact ⟨rfl,_,⟨_,_,rfl,rfl,rfl⟩,_,List.Sublist.refl _,h v2⟩
theorem vC (s1:List ah) {r0:List ah} (hf:eT s1=some r0) {Q:dx→List bf→Prop} (h:∀ v,Q (.ret (.val v)) [.buf v r0.length 6 42 (r0.flatMap ah.cells)]):PC 43 [.list (ah.aM s1)] [] Q:=by
 unfold eT at hf; obtain ⟨hl,hr⟩:=kF hf; rw [hr,List.nil_append] at h; rw [List.length_nil,Nat.zero_add] at hl; rw [ah.aB]; refine AC.jX 8 [.tmp 2] [0] Tryz.func43 Z Z Z Z Z (AW.sr (AR.step Z Z Z (AO.eO Z Z (AR.nil [0] Z ?_)))); refine AW.seq (AW.sr (cs 1 Z (AR.step Z Z Z (AO.iG Z Z aaS (fun b hb=>?_))))); refine AR.nil [0,4] Z (AW.cond Z (fun h1=>?_) (fun h1=>?_))
 · obtain rfl:s1=[]:=List.map_eq_nil_iff.1 (hb h1); refine AW.sr (AR.step Z Z Z (AO.zM Z Z (AR.nil [2] Z (AW.TS 6 42 ?_)))); refine AW.ret ?_; exact ⟨rfl,_,⟨_,_,rfl,rfl,rfl⟩,_,List.Sublist.refl _,h _⟩
 refine AW.skip (AW.sr (AR.step Z Z Z (AO.fO [] Z yY Z Z Z Z Z (fun v1=>(cs 1 Z ?_))))); refine AR.step Z Z Z (AO.Bb (i:=0) (l2:=List.map ah.cells s1) Z Z Z Z Z Z Z yY iK (fun y hy=>?_) (fun y hy=>?_) ?_ ?_ (fun v2 s1 hs1=>?_))
 · obtain ⟨s,_,rfl⟩:=List.mem_map.1 hy; exact ah.bG s
 · obtain ⟨s,_,rfl⟩:=List.mem_map.1 hy; exact ah.cells_one s
 · rw [List.length_map]; unfold Ik at hl; unfold maxLen; omega
 · rw [List.length_map]; unfold Ik at hl; omega
 cases hs1; refine cs 1 Z (AR.nil [2] Z (AW.ret ?_)); have hv:=h v2; rw [List.flatMap_def,show s1.length=(List.map ah.cells s1).length from (List.length_map _).symm] at hv; exact ⟨rfl,_,⟨_,_,rfl,rfl,rfl⟩,_,List.Sublist.refl _,hv⟩
theorem Ir (go:ah→Option ah) (goH:∀ (x:ah) {r0:ah},go x=some r0→∀ {τ:List bf} {Q:dx→List bf→Prop},Q (.ret (.agg (aN r0))) τ→PC 23 [.agg (aN x)] τ Q) (v1:ah) {r0:ah} (hf:qO go v1=some r0) (h:Q (.ret (.agg (aN r0))) τ):PC 23 [.agg (aN v1)] τ Q:=by
 unfold qO at hf; refine B1 hf fun k1 hk1 hf=>B1 hf fun l1 hl1 hf=>B1 hf fun l2 hl2 hf=>?_; cases hf; refine AC.none (AC.jX 30 [.cell 2 42] [0] Tryz.func23 Z Z Z Z Z (AW.sr (AR.step Z Z Z (AO.Kr Z Z (fun b1=>?_))))); refine AR.step Z Z Z (AO.aC Z gY (fun b2=>(AR.nil [1,2] Z (AW.sr (cs 1 Z ?_))))); refine AR.step Z Z Z (AO.aR (i:=1) Z Z Z YK Z Z (AR.step Z Z Z (AO.call Z _ Z Z adY (nO _ hk1 (cs 1 Z (AR.bF Z Z (AO.bR (i:=1) Z Z Z YK Z Z Z Z Z ?_))))))); refine AR.nil [1,2] Z (AW.sr (cs 1 Z (AR.step Z Z Z (AO.aR (i:=1) Z Z Z IJ Z Z ?_)))); refine AR.step Z Z Z (AO.call Z _ Z Z agT (AC.none (vC _ hl1 (fun v3=>(cs 1 Z (AR.Kq 0 Z (fun hv1 hv2=>(AR.bF Z Z (AO.bR (i:=2) Z Z Z IJ hv1 hv2 Z Z Z ?_))))))))); refine AR.nil [1,2] Z (AW.seq (AW.sr (cs 1 Z ?_))); refine AR.step Z Z Z (AO.aR (i:=2) Z Z Z IJ Z Z (AR.step Z Z Z (AO.MU (i:=0) Z Z Z Z iK Z Z (cs 1 Z (AR.nil [1,2,14,15] Z ?_))))); refine AW.block (AW.settle [1,2,14,15] Z ?_); refine AW.NU (fun (l:List ah) (i:Int)=>[(1,pP b1),(2,pP b2),(14,iP (l1.length:Int)),(15,iP i)]) (fun (l:List ah) (i:Int)=>[.buf v3 l1.length 6 42 (l.flatMap ah.cells),.box b2 [iP 0,.bool false,iP 0,.str ([]:Str),.own (.slice none 0 0) [],.own (.slice none 0 0) []],.box b1 [iP v1.kind,.bool v1.eB,iP v1.gI,.str v1.fM,.val v3,sP k1]]) (fun kk l i=>l.length=l1.length∧lg go (l1.length:Int) kk l i=some l2) BIG l1 0 Z Z ⟨Z,hl2⟩ (fun _ _ hz=>bT hz.2) ?_; rintro kk l i ⟨hlen,hf⟩; rw [lg] at hf; refine AW.sr (cs 1 Z (AR.nil [1,2,14,15,16] Z (AW.seq ?_))); refine AW.cond Z (fun h1=>?_) (fun h1=>?_)
 ·
  replace hf:=jF h1 hf; refine B1 hf fun e1 he1 hf=>B1 hf fun x1 hx1 hf=>?_; obtain ⟨hi0,he1⟩:=vX he1; obtain ⟨hlt,he1⟩:=List.getElem?_eq_some_iff.1 he1; refine AW.skip (AW.seq (AW.block (AW.sr ?_))); refine cs 2 Z (AR.nil [1,2,3,14,15] Z (AW.draw 10 mixed (by kernel_rfl) Z ?_)); refine Ev.cs bC 1 Z (Ev.cons Z Z Z (AO.aR (i:=2) Z Z Z IJ Z Z zg) (Ev.cs bC 2 Z (Ev.cons Z Z Z (AO.aR (i:=2) Z Z Z IJ Z Z zg) ?_))); refine Ev.cs bC 1 Z (Ev.cons Z Z Z (AO.mI (i:=0) (sz:=6) Z Z Z Z iK hi0 (by omega) zg) ?_); refine Ev.cons Z Z Z (AO.FN (i:=0) Z Z Z mK (by rw [sO ah.bG]; omega) (by rw [AJ ah.bG l i.toNat hlt,he1,ah.aD]; rfl) zg) ?_; refine Ev.cons Z Z Z (AO.call Z _ Z Z Y0 (goH _ hx1 zg)) (Ev.cons Z Z Z (AO.mI (i:=0) (sz:=6) Z Z Z Z iK hi0 (by omega) zg) ?_); refine Ev.nil ?_; show AR _ _ _ _ _ _ _ _; refine AR.bF Z Z (AO.Dz (i:=0) (cs':=(l.set i.toNat x1).flatMap ah.cells) Z Z Z mK Z Z Z (Nat.succ_pos _) (by rw [sO ah.bG]; simp only [List.length_cons,List.length_nil]; omega) (Oc ah.bG l _ hlt _ x1 (ah.aD _).symm) Z ?_); refine AR.nil [1,2,14,15] Z (AW.region (cs 2 Z (AR.nil [1,2,14,15] Z ?_))); exact ⟨_,_,Z,Z,Z,(List.length_set ..).trans hlen,hf⟩
 obtain rfl:=Option.some.inj (iw h1 hf); refine AW.exit (AW.Vt (q:=4) 0 2 (List.map ah.cells l) rfl rfl rfl (List.flatMap_def ..).symm (fun x hx=>by obtain ⟨s,_,rfl⟩:=List.mem_map.1 hx; exact ah.bG s) (by rw [List.length_map,hlen]) ?_); refine AW.sr (AR.step Z Z Z (AO.aR (i:=2) Z Z Z mK Z Z (AR.bF Z Z (AO.bR (i:=1) Z Z Z mK Z Z Z Z Z (AR.nil [2] Z ?_))))); refine AW.ret ?_; have h':Q (.ret (.agg [iP v1.kind,.bool v1.eB,iP v1.gI,.str v1.fM,.list (List.map ah.cells l),sP k1])) τ:=by rw [←ah.aB]; exact h
 exact ⟨rfl,_,⟨_,_,rfl,⟨_,_,1,_,_,rfl,rfl,mK,rfl⟩,rfl⟩,[],List.nil_sublist _,h'⟩
theorem BA :∀ (k:Nat) (x:ah) {r0:ah},l8 k x=some r0→∀ {τ:List bf} {Q:dx→List bf→Prop},Q (.ret (.agg (aN r0))) τ→PC 23 [.agg (aN x)] τ Q
 | 0,_,_,hz,_,_,_=>bT hz
 | k + 1,x,_,hz,_,_,hq=>Ir (l8 k) (BA k) x hz hq
theorem wH (v1:ah) {r0:ah} (hf:jM v1=some r0) (h:Q (.ret (.agg (aN r0))) τ):PC 23 [.agg (aN v1)] τ Q:=by
 exact BA BIG v1 hf h
theorem Me (s1:List aj) {r0:List aj} (hf:eF s1=some r0) (h:Q (.ret (.list (aj.aM r0))) τ):PC 168 [.list (aj.aM s1)] τ Q:=by
 unfold eF at hf; refine BN 8 [.tmp 2] [0] Tryz.func168 Z Z Z Z Z (W 0 Z (AS Z (AO.eO Z Z (U 1 Z (AS Z (AO.iG Z Z aaR (fun b hb=>(J 0 Z (AW.cond Z (fun h1=>?_) (fun h1=>?_))))))))))
 · have hb1:=hb h1; rw [aj.aB] at hb1; obtain rfl:s1=[]:=List.map_eq_nil_iff.1 hb1; obtain ⟨_,rfl⟩:=kF hf; refine W 0 Z (AS Z (AO.eO Z Z ?_)); exact N 0 rfl ⟨rfl,_,⟨_,_,rfl,rfl,rfl⟩,_,List.Sublist.refl _,h⟩
 refine W 0 Z (AS Z (AO.fO [] Z u_ Z Z Z Z Z (fun v1=>(U 1 Z (AS Z (AO.eZ (i:=0) (l:=[]) (m:=s1) hf Z Z Z Z Z Z Z u_ iQ (show ([]:List (List PV))=List.map aj.cells [] from Z) (aj.aB _) (aj.aB _).symm (aj.bG) (aj.cells_one) (by decide) (fun v2 s2 hs2=>?_))))))); cases hs2; exact N 1 Z (Y Z h)
theorem JE (s1:List aj) {r0:List aj} (hf:eF s1=some r0) {Q:dx→List bf→Prop} (h:∀ v,Q (.ret (.own v (aj.aM r0))) [.row v (aj.aM r0).length 10 45]):PC 168 [.list (aj.aM s1)] [] Q:=by
 unfold eF at hf; refine AC.Bz 8 [.tmp 2] [0] Tryz.func168 Z Z Z Z Z (AW.sr (AR.step Z Z Z (AO.eO Z Z (AR.nil [0] Z ?_)))); refine AW.seq (AW.sr (cs 1 Z (AR.step Z Z Z (AO.iG Z Z aaR (fun b hb=>?_))))); refine AR.nil [0,4] Z (AW.cond Z (fun h1=>?_) (fun h1=>?_))
 · have hb1:=hb h1; rw [aj.aB] at hb1; obtain rfl:s1=[]:=List.map_eq_nil_iff.1 hb1; obtain ⟨_,rfl⟩:=kF hf; refine AW.sr (cs 1 Z (AR.nil [2] Z (AW.row 10 45 ?_))); refine AW.ret ?_; exact ⟨rfl,_,⟨_,_,rfl,rfl,rfl⟩,_,List.Sublist.refl _,h _⟩
 refine AW.skip (AW.sr (AR.step Z Z Z (AO.fO [] Z u_ Z Z Z Z Z (fun v1=>(cs 1 Z ?_))))); refine AR.step Z Z Z (AO.eZ (i:=0) (l:=[]) (m:=s1) hf Z Z Z Z Z Z Z u_ iQ (show ([]:List (List PV))=List.map aj.cells [] from Z) (aj.aB _) (aj.aB _).symm (aj.bG) (aj.cells_one) (by decide) (fun v2 s2 hs2=>?_)); cases hs2; refine cs 1 Z (AR.nil [2] Z (AW.ret ?_)); exact ⟨rfl,_,⟨_,_,rfl,rfl,rfl⟩,_,List.Sublist.refl _,h v2⟩
theorem wX (s1:List aj) {r0:List aj} (hf:eF s1=some r0) {Q:dx→List bf→Prop} (h:∀ v,Q (.ret (.val v)) [.buf v r0.length 10 45 (r0.flatMap aj.cells)]):PC 168 [.list (aj.aM s1)] [] Q:=by
 unfold eF at hf; obtain ⟨hl,hr⟩:=kF hf; rw [hr,List.nil_append] at h; rw [List.length_nil,Nat.zero_add] at hl; rw [aj.aB]; refine AC.jX 8 [.tmp 2] [0] Tryz.func168 Z Z Z Z Z (AW.sr (AR.step Z Z Z (AO.eO Z Z (AR.nil [0] Z ?_)))); refine AW.seq (AW.sr (cs 1 Z (AR.step Z Z Z (AO.iG Z Z aaR (fun b hb=>?_))))); refine AR.nil [0,4] Z (AW.cond Z (fun h1=>?_) (fun h1=>?_))
 · obtain rfl:s1=[]:=List.map_eq_nil_iff.1 (hb h1); refine AW.sr (AR.step Z Z Z (AO.zM Z Z (AR.nil [2] Z (AW.TS 10 45 ?_)))); refine AW.ret ?_; exact ⟨rfl,_,⟨_,_,rfl,rfl,rfl⟩,_,List.Sublist.refl _,h _⟩
 refine AW.skip (AW.sr (AR.step Z Z Z (AO.fO [] Z u_ Z Z Z Z Z (fun v1=>(cs 1 Z ?_))))); refine AR.step Z Z Z (AO.Bb (i:=0) (l2:=List.map aj.cells s1) Z Z Z Z Z Z Z u_ iQ (fun y hy=>?_) (fun y hy=>?_) ?_ ?_ (fun v2 s1 hs1=>?_))
 · obtain ⟨s,_,rfl⟩:=List.mem_map.1 hy; exact aj.bG s
 · obtain ⟨s,_,rfl⟩:=List.mem_map.1 hy; exact aj.cells_one s
 · rw [List.length_map]; unfold Ik at hl; unfold maxLen; omega
 · rw [List.length_map]; unfold Ik at hl; omega
 cases hs1; refine cs 1 Z (AR.nil [2] Z (AW.ret ?_)); have hv:=h v2; rw [List.flatMap_def,show s1.length=(List.map aj.cells s1).length from (List.length_map _).symm] at hv; exact ⟨rfl,_,⟨_,_,rfl,rfl,rfl⟩,_,List.Sublist.refl _,hv⟩
theorem Lj (go:aj→(aj→Option (aj × Bool × Int))→Option (aj × Int)) (mY:aj→Option (aj × Bool × Int)) (o_:FuncId) (sS:List PV) (FU:aU Tryz.prog o_=true) (FV:∀ a0 b0 b1 b2,mY a0=some (b0,b1,b2)→∀ {τ:List bf} {Q:dx→List bf→Prop},Q (.ret (.tuple [.agg (bE b0),.bool b1,iP b2])) τ→PC o_ ([.agg (bE a0)] ++ sS) τ Q) (goH:∀ (a0:aj) {r0:aj} {r1:Int},go a0 mY=some (r0,r1)→∀ {τ:List bf} {Q:dx→List bf→Prop},Q (.ret (.tuple [.agg (bE r0),iP r1])) τ→PC 145 [.agg (bE a0),.fn o_ sS] τ Q) (e1:aj) {r0:aj} {r1:Int} (hf:lX go e1 mY=some (r0,r1)) (h:Q (.ret (.tuple [.agg (bE r0),iP r1])) τ):PC 145 [.agg (bE e1),.fn o_ sS] τ Q:=by
 unfold lX at hf; refine AC.none (AC.jX 65 [.cell 4 45,.tmp 5] [0,1] Tryz.func145 Z Z Z Z Z (AW.sr (AR.step Z Z Z (AO.Kr Z Z (fun b2=>?_))))); refine AR.step Z Z Z (AO.aC Z iO (fun b4=>(cs 1 Z (AR.nil [1,2,4] Z (AW.seq ?_))))); refine AW.sr (cs 1 Z (AR.step Z Z Z (AO.aR (i:=1) Z Z Z gM Z Z ?_))); obtain ⟨x1,known1,Er,h1,hf⟩:=kg hf; refine AR.step Z Z Z (AO.call Z _ Z Z FU (FV _ _ _ _ h1 (cs 4 Z (AR.step Z Z Z (AO.aC Z iO (fun b6=>(AR.bF Z Z (AO.bR (i:=0) Z Z Z gM Z Z Z Z Z ?_)))))))); refine cs 2 Z (AR.nil [1,2,4,6,7,8] Z (AW.sr (cs 2 Z ?_))); refine AR.or 3 20 23 [1,2,4,6,8] (x:=(Er != 0)) Z Z (fun h2=>?_) (fun h2=>?_) ?_
 · refine AR.is 20 h2 Z (cs 3 Z (AR.nil [23,1,2,4,6,8] Z ?_)); exact ⟨Z,Z,Z,Z⟩
 · refine AR.is 20 h2 Z (cs 3 Z (AR.nil [23,1,2,4,6,8] Z ?_)); exact ⟨Z,Z,Z,Z⟩
 refine AR.nil [1,2,4,6,8,23] Z (AW.cond Z (fun h3=>?_) (fun h3=>?_))
 · replace hf:=jF h3 hf; refine AW.sr (AR.step Z Z Z (AO.aR (i:=0) Z Z Z gM Z Z (cs 1 Z (AR.bF Z Z (AO.bR (i:=1) Z Z Z gM Z Z Z Z Z ?_))))); refine cs 1 Z (AR.nil [4,5] Z (AW.ret ?_)); cases hf; exact ⟨rfl,_,⟨_,_,rfl,⟨_,_,1,_,_,rfl,rfl,gM,rfl⟩,_,_,rfl,rfl,rfl⟩,[],List.nil_sublist _,h⟩
 replace hf:=iw h3 hf; refine B1 hf fun x2 hx2 hf=>B1 hf fun k2 hk2 hf=>B1 hf fun l1 hl1 hf=>?_; obtain ⟨l2,Vw,hl2,hf⟩:=bP hf; refine AW.skip (AW.GR 0 Z (AW.sr (cs 1 Z ?_))); refine AR.step Z Z Z (AO.aR (i:=1) Z Z Z mK Z Z (AR.step Z Z Z (AO.call Z _ Z Z Y0 (wH _ hx2 (cs 1 Z (AR.bF Z Z (AO.bR (i:=1) Z Z Z mK Z Z Z Z Z ?_))))))); refine AR.nil [1,2,4] Z (AW.sr (cs 1 Z (AR.step Z Z Z (AO.aR (i:=1) Z Z Z YK Z Z ?_)))); refine AR.step Z Z Z (AO.call Z _ Z Z adY (nO _ hk2 (cs 1 Z (AR.bF Z Z (AO.bR (i:=1) Z Z Z YK Z Z Z Z Z (AR.nil [1,2,4] Z ?_)))))); refine AW.sr (cs 1 Z (AR.step Z Z Z (AO.aR (i:=1) Z Z Z OI Z Z (AR.step Z Z Z (AO.call Z _ Z Z aeL (AC.none (wX _ hl1 (fun v3=>?_)))))))); refine cs 1 Z (AR.Kq 0 Z (fun hv1 hv2=>(AR.bF Z Z (AO.bR (i:=2) Z Z Z OI hv1 hv2 Z Z Z (AR.nil [1,2,4] Z ?_))))); refine AW.seq (AW.sr (cs 1 Z (AR.step Z Z Z (AO.aR (i:=2) Z Z Z OI Z Z ?_)))); refine AR.step Z Z Z (AO.MU (i:=0) Z Z Z Z iQ Z Z (cs 1 Z (AR.nil [1,2,4,40,41] Z (AW.block ?_)))); refine AW.settle [1,2,4,40,41] Z ?_; refine AW.NU (fun (l:List aj) (i:Int)=>[(1,.fn o_ sS),(2,pP b2),(4,pP b4),(40,iP (l1.length:Int)),(41,iP i)]) (fun (l:List aj) (i:Int)=>[.buf v3 l1.length 10 45 (l.flatMap aj.cells),.box b4 [iP 0,.str ([]:Str),iP 0,.bool false,iP 0,.str ([]:Str),.own (.slice none 0 0) [],.own (.slice none 0 0) [],.own (.slice none 0 0) [],.own (.slice none 0 0) []],.box b2 [iP e1.kind,.str e1.name,iP x2.kind,.bool x2.eB,iP x2.gI,.str x2.fM,.list (ah.aM x2.aW),sP x2.keys,.val v3,sP k2]]) (fun kk l i=>l.length=l1.length∧mZ go mY (l1.length:Int) kk l i=some (l2,Vw)) BIG l1 0 Z Z ⟨Z,hl2⟩ (fun _ _ hz=>bT hz.2) ?_
 rintro kk l i ⟨hlen,hg⟩; rw [mZ] at hg; refine AW.sr (cs 1 Z (AR.nil [1,2,4,40,41,42] Z (AW.seq ?_))); refine AW.cond Z (fun h4=>?_) (fun h4=>?_)
 ·
  replace hg:=jF h4 hg; obtain ⟨e2,he2,hg⟩:=Ku hg; obtain ⟨x3,aiE,hx3,hg⟩:=bP hg; obtain ⟨hi0,he2⟩:=vX he2; obtain ⟨hlt,he2⟩:=List.getElem?_eq_some_iff.1 he2; refine AW.skip (AW.seq (AW.block (AW.sr ?_))); refine cs 2 Z (AR.nil [1,2,4,9,40,41] Z (AW.sr (cs 1 Z ?_))); refine AR.step Z Z Z (AO.aR (i:=2) Z Z Z OI Z Z (cs 1 Z (AR.step Z Z Z (AO.mI (i:=0) (sz:=10) Z Z Z Z iQ hi0 (by omega) ?_)))); refine AR.step Z Z Z (AO.FN (i:=0) Z Z Z gM (by rw [sO aj.bG]; omega) (by rw [AJ aj.bG l i.toNat hlt,he2,aj.aD]; rfl) ?_); refine cs 1 Z (AR.step Z Z Z (AO.call Z _ Z Z X9 (goH _ hx3 (cs 3 Z (AR.step Z Z Z (AO.aC Z iO (fun b10=>?_))))))); refine AR.bF Z Z (AO.bR (i:=0) Z Z Z gM Z Z Z Z Z (cs 1 Z (AR.nil [1,2,4,9,10,11,40,41] Z (AW.seq ?_)))); refine AW.sr (cs 2 Z (AR.nil [1,2,4,9,10,11,40,41,55] Z (AW.cond Z (fun h5=>?_) (fun h5=>?_))))
  · cases jF h5 hg; replace hf:=jF h5 hf; refine AW.sr (AR.step Z Z Z (AO.build Z iO E5 Z (cs 1 Z (AR.bF Z Z (AO.bR (i:=2) Z Z Z gM Z Z Z Z Z ?_))))); refine cs 1 Z (AR.nil [4,5] Z (AW.ret ?_)); cases hf; exact ⟨rfl,_,⟨_,_,rfl,⟨_,_,2,_,_,rfl,rfl,gM,rfl⟩,_,_,rfl,rfl,rfl⟩,[],List.nil_sublist _,h⟩
  replace hg:=iw h5 hg; refine AW.skip (AW.region (cs 1 Z (AR.step Z Z Z (AO.aR (i:=3) Z Z Z OI Z Z ?_)))); refine cs 1 Z (AR.step Z Z Z (AO.aR (i:=0) Z Z Z gM Z Z (AR.step Z Z Z (AO.mI (i:=1) (sz:=10) Z Z Z Z iQ hi0 (by omega) ?_)))); refine AR.bF Z Z (AO.Dz (i:=1) (cs':=(l.set i.toNat x3).flatMap aj.cells) Z Z Z gM Z Z Z (Nat.succ_pos _) (by rw [sO aj.bG]; simp only [List.length_cons,List.length_nil]; omega) (Oc aj.bG l _ hlt _ x3 (aj.aD _).symm) Z ?_); refine AR.nil [1,2,4,40,41] Z (AW.GR 0 Z (AW.region (cs 2 Z ?_))); refine AR.nil [1,2,4,40,41] Z ?_; exact ⟨_,_,Z,Z,Z,(List.length_set ..).trans hlen,hg⟩
 cases iw h4 hg; refine AW.exit (AW.Vt (q:=8) 0 2 (List.map aj.cells l2) rfl rfl rfl (List.flatMap_def ..).symm (fun x hx=>by obtain ⟨s,_,rfl⟩:=List.mem_map.1 hx; exact aj.bG s) (by rw [List.length_map,hlen]) ?_); refine AW.sr (AR.step Z Z Z (AO.aR (i:=2) Z Z Z gM Z Z (AR.bF Z Z (AO.bR (i:=1) Z Z Z gM Z Z Z Z Z (cs 1 Z ?_))))); refine AR.nil [4,5] Z (AW.ret ?_); cases hf; have h':Q (.ret (.tuple [.agg [iP e1.kind,.str e1.name,iP x2.kind,.bool x2.eB,iP x2.gI,.str x2.fM,.list (ah.aM x2.aW),sP x2.keys,.list (List.map aj.cells l2),sP k2],iP 0])) τ:=by rw [←aj.aB]; exact h
 exact ⟨rfl,_,⟨_,_,rfl,⟨_,_,1,_,_,rfl,rfl,gM,rfl⟩,_,_,rfl,rfl,rfl⟩,[],List.nil_sublist _,h'⟩
theorem DR (mY:aj→Option (aj × Bool × Int)) (o_:FuncId) (sS:List PV) (FU:aU Tryz.prog o_=true) (FV:∀ a0 b0 b1 b2,mY a0=some (b0,b1,b2)→∀ {τ:List bf} {Q:dx→List bf→Prop},Q (.ret (.tuple [.agg (bE b0),.bool b1,iP b2])) τ→PC o_ ([.agg (bE a0)] ++ sS) τ Q):∀ (k:Nat) (a0:aj) {r0:aj} {r1:Int},ji k a0 mY=some (r0,r1)→∀ {τ:List bf} {Q:dx→List bf→Prop},Q (.ret (.tuple [.agg (bE r0),iP r1])) τ→PC 145 [.agg (bE a0),.fn o_ sS] τ Q
 | 0,_,_,_,hz,_,_,_=>bT hz
 | k + 1,x,_,_,hz,_,_,hq=>Lj (ji k) mY o_ sS FU FV (DR mY o_ sS FU FV k) x hz hq
theorem yR (e1:aj) (mY:aj→Option (aj × Bool × Int)) (o_:FuncId) (sS:List PV) (FU:aU Tryz.prog o_=true) (FV:∀ a0 b0 b1 b2,mY a0=some (b0,b1,b2)→∀ {τ:List bf} {Q:dx→List bf→Prop},Q (.ret (.tuple [.agg (bE b0),.bool b1,iP b2])) τ→PC o_ ([.agg (bE a0)] ++ sS) τ Q) {r0:aj} {r1:Int} (hf:l6 e1 mY=some (r0,r1)) (h:Q (.ret (.tuple [.agg (bE r0),iP r1])) τ):PC 145 [.agg (bE e1),.fn o_ sS] τ Q:=by
 exact DR mY o_ sS FU FV BIG e1 hf h
theorem Ih (a1:aj) {r0:aj} {r1:Bool} {r2:Int} (hf:kU a1=some (r0,r1,r2)) (h:Q (.ret (.tuple [.agg (bE r0),.bool r1,iP r2])) τ):PC 146 [.agg (bE a1)] τ Q:=by
 unfold kU at hf; refine BN 6 [.cell 2 45,.tmp 3,.tmp 4] [0] Tryz.func146 Z Z Z Z Z (W 1 Z (AS Z (AO.aC Z iO (fun b2=>?_)))); cases hf; exact Rx 6 [0] Z Z (ZC [0] Z Z h)
theorem KG (e1:aj) {r0:aj} (hf:mO e1=some r0) (h:Q (.ret (.agg (bE r0))) τ):PC 114 [.agg (bE e1)] τ Q:=by
 unfold mO at hf; refine BN 11 [.cell 2 45] [0] Tryz.func114 Z Z Z Z Z (W 1 Z (AS Z (AO.aC Z iO (fun b2=>?_)))); obtain ⟨x1,x2,h1,hf⟩:=bP hf; refine U 1 Z (CL Z (yR _ kU 146 [] aeT (fun _ _ _ _ hz=>Ih _  hz) h1 (U 3 Z (AS Z (AO.aC Z iO (fun b3=>?_)))))); cases hf; exact Rx 4 [0,0,1] Z Z (ZC [1] Z Z h)
theorem wY (s1:List aK) {r0:List aK} (hf:dF s1=some r0) {Q:dx→List bf→Prop} (h:∀ v,Q (.ret (.val v)) [.buf v r0.length 11 48 (r0.flatMap aK.cells)]):PC 113 [.list (List.map aK.cells s1)] [] Q:=by
 unfold dF at hf; obtain ⟨hl,hr⟩:=kF hf; rw [hr,List.nil_append] at h; rw [List.length_nil,Nat.zero_add] at hl; refine AC.jX 8 [.tmp 2] [0] Tryz.func113 Z Z Z Z Z (AW.sr (AR.step Z Z Z (AO.eO Z Z (AR.nil [0] Z ?_)))); refine AW.seq (AW.sr (cs 1 Z (AR.step Z Z Z (AO.iG Z Z YF (fun b hb=>?_))))); refine AR.nil [0,4] Z (AW.cond Z (fun h1=>?_) (fun h1=>?_))
 · obtain rfl:s1=[]:=List.map_eq_nil_iff.1 (hb h1); refine AW.sr (AR.step Z Z Z (AO.zM Z Z (AR.nil [2] Z (AW.TS 11 48 ?_)))); refine AW.ret ?_; exact ⟨rfl,_,⟨_,_,rfl,rfl,rfl⟩,_,List.Sublist.refl _,h _⟩
 refine AW.skip (AW.sr (AR.step Z Z Z (AO.fO [] Z xq Z Z Z Z Z (fun v1=>(cs 1 Z ?_))))); refine AR.step Z Z Z (AO.Bb (i:=0) (l2:=List.map aK.cells s1) Z Z Z Z Z Z Z xq o9 (fun y hy=>?_) (fun y hy=>?_) ?_ ?_ (fun v2 s1 hs1=>?_))
 · obtain ⟨s,_,rfl⟩:=List.mem_map.1 hy; exact aK.bG s
 · obtain ⟨s,_,rfl⟩:=List.mem_map.1 hy; exact aK.cells_one s
 · rw [List.length_map]; unfold Ik at hl; unfold maxLen; omega
 · rw [List.length_map]; unfold Ik at hl; omega
 cases hs1; refine cs 1 Z (AR.nil [2] Z (AW.ret ?_)); have hv:=h v2; rw [List.flatMap_def,show s1.length=(List.map aK.cells s1).length from (List.length_map _).symm] at hv; exact ⟨rfl,_,⟨_,_,rfl,rfl,rfl⟩,_,List.Sublist.refl _,hv⟩
theorem yc (l0:List aK) {r0:List aK} (hf:iF l0=some r0) {Q:dx→List bf→Prop} (h:∀ v,Q (.ret (.own v (List.map aK.cells r0))) [.row v (List.map aK.cells r0).length 11 48]):PC 78 [.list (List.map aK.cells l0)] [] Q:=by
 unfold iF at hf; refine B1 hf fun l1 hl1 hf=>AC.Bz 24 [.tmp 2] [0] Tryz.func78 Z Z Z Z Z (AW.sr (AR.step Z Z Z (AO.eO Z Z (AR.nil [0] Z ?_)))); refine AW.sr (cs 1 Z (AR.step Z Z Z (AO.call Z _ Z Z ae8 (AC.none (wY _ hl1 (fun v3=>(AR.step Z Z Z (AO.calc' Z ?_)))))))); refine AR.nil [3] Z (AW.seq (AW.sr (cs 1 Z ?_))); refine AR.step Z Z Z (AO.MU (i:=0) Z Z Z Z o9 Z Z (cs 1 Z (AR.nil [3,8,9] Z (AW.block ?_)))); refine AW.settle [3,8,9] Z (AW.NU (fun (l:List aK) (i:Int)=>[(3,.val v3),(8,iP (l1.length:Int)),(9,iP i)]) (fun (l:List aK) (i:Int)=>[.buf v3 l1.length 11 48 (l.flatMap aK.cells)]) (fun kk l i=>l.length=l1.length∧lq (l1.length:Int) kk l i=some r0) BIG l1 0 Z Z ⟨Z,hf⟩ (fun _ _ hz=>bT hz.2) ?_); rintro kk l i ⟨hlen,hf⟩; rw [lq] at hf; refine AW.sr (cs 1 Z (AR.nil [3,8,9,10] Z (AW.seq ?_))); refine AW.cond Z (fun h1=>?_) (fun h1=>?_)
 ·
  replace hf:=jF h1 hf; refine B1 hf fun e1 he1 hf=>B1 hf fun x1 hx1 hf=>?_; obtain ⟨hi0,he1⟩:=vX he1; obtain ⟨hlt,he1⟩:=List.getElem?_eq_some_iff.1 he1; refine AW.skip (AW.seq (AW.block (AW.sr ?_))); refine cs 2 Z (AR.nil [3,4,8,9] Z (AW.region (cs 4 Z ?_))); refine AR.step Z Z Z (AO.mI (i:=0) (sz:=11) Z Z Z Z o9 hi0 (by omega) ?_); refine cs 1 Z (AR.step Z Z Z (AO.FN (i:=0) Z Z Z gM (by rw [sO aK.bG]; omega) (by rw [←List.drop_drop,AJ aK.bG l i.toNat hlt,he1,aK.aD]; rfl) ?_)); refine AR.step Z Z Z (AO.call Z _ Z Z ae7 (KG _ hx1 (AR.step Z Z Z (AO.mI (i:=0) (sz:=11) Z Z Z Z o9 hi0 (by omega) ?_)))); refine cs 1 Z (AR.bF Z Z (AO.Dz (i:=0) (cs':=(l.set i.toNat (aK.mk e1.name x1)).flatMap aK.cells) Z Z Z gM Z Z Z (Nat.succ_pos _) (by rw [sO aK.bG]; simp only [List.length_cons,List.length_nil]; omega) (Rs aK.bG l _ 1 hlt _ (aK.mk e1.name x1) (by rw [he1,aK.aD,aK.aD]; rfl) (by simp only [List.length_cons,List.length_nil]; omega)) Z ?_)); refine AR.nil [3,8,9] Z (AW.region (cs 2 Z (AR.nil [3,8,9] Z ?_))); exact ⟨_,_,Z,Z,Z,(List.length_set ..).trans hlen,hf⟩
 obtain rfl:=Option.some.inj (iw h1 hf); refine AW.exit (AW.freeze 3 0 (List.map aK.cells l) rfl rfl (List.flatMap_def ..).symm (fun x hx=>by obtain ⟨s,_,rfl⟩:=List.mem_map.1 hx; exact aK.bG s) (by rw [List.length_map,hlen]) ?_); refine AW.sr (cs 2 Z (AR.nil [2] Z (AW.ret ?_))); have h':=h v3; rw [List.length_map,hlen] at h'; exact ⟨rfl,_,⟨_,_,rfl,rfl,rfl⟩,_,List.Sublist.refl _,h'⟩
theorem BS (l0:List aK) {r0:List aK} (hf:iF l0=some r0) (h:Q (.ret (.list (List.map aK.cells r0))) τ):PC 78 [.list (List.map aK.cells l0)] τ Q:=by
 exact AC.none (AC.agm (yc l0 hf fun v=>⟨v,_,_,_,Z,Z⟩) h)
theorem KO (s1:List au) {r0:List au} (hf:fD s1=some r0) (h:Q (.ret (.list (au.aM r0))) τ):PC 79 [.list (au.aM s1)] τ Q:=by
 unfold fD at hf; refine BN 8 [.tmp 2] [0] Tryz.func79 Z Z Z Z Z (W 0 Z (AS Z (AO.eO Z Z (U 1 Z (AS Z (AO.iG Z Z aaT (fun b hb=>(J 0 Z (AW.cond Z (fun h1=>?_) (fun h1=>?_))))))))))
 · have hb1:=hb h1; rw [au.aB] at hb1; obtain rfl:s1=[]:=List.map_eq_nil_iff.1 hb1; obtain ⟨_,rfl⟩:=kF hf; refine W 0 Z (AS Z (AO.eO Z Z ?_)); exact N 0 rfl ⟨rfl,_,⟨_,_,rfl,rfl,rfl⟩,_,List.Sublist.refl _,h⟩
 refine W 0 Z (AS Z (AO.fO [] Z tJ Z Z Z Z Z (fun v1=>(U 1 Z (AS Z (AO.eZ (i:=0) (l:=[]) (m:=s1) hf Z Z Z Z Z Z Z tJ jG (show ([]:List (List PV))=List.map au.cells [] from Z) (au.aB _) (au.aB _).symm (au.bG) (au.cells_one) (by decide) (fun v2 s2 hs2=>?_))))))); cases hs2; exact N 1 Z (Y Z h)
theorem Ij (s1:List au) {r0:List au} (hf:fD s1=some r0) {Q:dx→List bf→Prop} (h:∀ v,Q (.ret (.own v (au.aM r0))) [.row v (au.aM r0).length 4 38]):PC 79 [.list (au.aM s1)] [] Q:=by
 unfold fD at hf; refine AC.Bz 8 [.tmp 2] [0] Tryz.func79 Z Z Z Z Z (AW.sr (AR.step Z Z Z (AO.eO Z Z (AR.nil [0] Z ?_)))); refine AW.seq (AW.sr (cs 1 Z (AR.step Z Z Z (AO.iG Z Z aaT (fun b hb=>?_))))); refine AR.nil [0,4] Z (AW.cond Z (fun h1=>?_) (fun h1=>?_))
 · have hb1:=hb h1; rw [au.aB] at hb1; obtain rfl:s1=[]:=List.map_eq_nil_iff.1 hb1; obtain ⟨_,rfl⟩:=kF hf; refine AW.sr (cs 1 Z (AR.nil [2] Z (AW.row 4 38 ?_))); refine AW.ret ?_; exact ⟨rfl,_,⟨_,_,rfl,rfl,rfl⟩,_,List.Sublist.refl _,h _⟩
 refine AW.skip (AW.sr (AR.step Z Z Z (AO.fO [] Z tJ Z Z Z Z Z (fun v1=>(cs 1 Z ?_))))); refine AR.step Z Z Z (AO.eZ (i:=0) (l:=[]) (m:=s1) hf Z Z Z Z Z Z Z tJ jG (show ([]:List (List PV))=List.map au.cells [] from Z) (au.aB _) (au.aB _).symm (au.bG) (au.cells_one) (by decide) (fun v2 s2 hs2=>?_)); cases hs2; refine cs 1 Z (AR.nil [2] Z (AW.ret ?_)); exact ⟨rfl,_,⟨_,_,rfl,rfl,rfl⟩,_,List.Sublist.refl _,h v2⟩
theorem vD (s1:List au) {r0:List au} (hf:fD s1=some r0) {Q:dx→List bf→Prop} (h:∀ v,Q (.ret (.val v)) [.buf v r0.length 4 38 (r0.flatMap au.cells)]):PC 79 [.list (au.aM s1)] [] Q:=by
 unfold fD at hf; obtain ⟨hl,hr⟩:=kF hf; rw [hr,List.nil_append] at h; rw [List.length_nil,Nat.zero_add] at hl; rw [au.aB]; refine AC.jX 8 [.tmp 2] [0] Tryz.func79 Z Z Z Z Z (AW.sr (AR.step Z Z Z (AO.eO Z Z (AR.nil [0] Z ?_)))); refine AW.seq (AW.sr (cs 1 Z (AR.step Z Z Z (AO.iG Z Z aaT (fun b hb=>?_))))); refine AR.nil [0,4] Z (AW.cond Z (fun h1=>?_) (fun h1=>?_))
 · obtain rfl:s1=[]:=List.map_eq_nil_iff.1 (hb h1); refine AW.sr (AR.step Z Z Z (AO.zM Z Z (AR.nil [2] Z (AW.TS 4 38 ?_)))); refine AW.ret ?_; exact ⟨rfl,_,⟨_,_,rfl,rfl,rfl⟩,_,List.Sublist.refl _,h _⟩
 refine AW.skip (AW.sr (AR.step Z Z Z (AO.fO [] Z tJ Z Z Z Z Z (fun v1=>(cs 1 Z ?_))))); refine AR.step Z Z Z (AO.Bb (i:=0) (l2:=List.map au.cells s1) Z Z Z Z Z Z Z tJ jG (fun y hy=>?_) (fun y hy=>?_) ?_ ?_ (fun v2 s1 hs1=>?_))
 · obtain ⟨s,_,rfl⟩:=List.mem_map.1 hy; exact au.bG s
 · obtain ⟨s,_,rfl⟩:=List.mem_map.1 hy; exact au.cells_one s
 · rw [List.length_map]; unfold Ik at hl; unfold maxLen; omega
 · rw [List.length_map]; unfold Ik at hl; omega
 cases hs1; refine cs 1 Z (AR.nil [2] Z (AW.ret ?_)); have hv:=h v2; rw [List.flatMap_def,show s1.length=(List.map au.cells s1).length from (List.length_map _).symm] at hv; exact ⟨rfl,_,⟨_,_,rfl,rfl,rfl⟩,_,List.Sublist.refl _,hv⟩
theorem Iu (go:au→Option au) (goH:∀ (x:au) {r0:au},go x=some r0→∀ {τ:List bf} {Q:dx→List bf→Prop},Q (.ret (.agg (dY r0))) τ→PC 48 [.agg (dY x)] τ Q) (v1:au) {r0:au} (hf:vN go v1=some r0) (h:Q (.ret (.agg (dY r0))) τ):PC 48 [.agg (dY v1)] τ Q:=by
 unfold vN at hf; refine B1 hf fun k1 hk1 hf=>B1 hf fun l1 hl1 hf=>B1 hf fun l2 hl2 hf=>?_; cases hf; refine AC.none (AC.jX 30 [.cell 2 38] [0] Tryz.func48 Z Z Z Z Z (AW.sr (AR.step Z Z Z (AO.Kr Z Z (fun b1=>?_))))); refine AR.step Z Z Z (AO.aC Z nP (fun b2=>(AR.nil [1,2] Z (AW.sr (cs 1 Z ?_))))); refine AR.step Z Z Z (AO.aR (i:=1) Z Z Z Wj Z Z (AR.step Z Z Z (AO.call Z _ Z Z abk (BS _ hk1 (cs 1 Z (AR.bF Z Z (AO.bR (i:=1) Z Z Z Wj Z Z Z Z Z ?_))))))); refine AR.nil [1,2] Z (AW.sr (cs 1 Z (AR.step Z Z Z (AO.aR (i:=1) Z Z Z rZ Z Z ?_)))); refine AR.step Z Z Z (AO.call Z _ Z Z agJ (AC.none (vD _ hl1 (fun v3=>(cs 1 Z (AR.Kq 0 Z (fun hv1 hv2=>(AR.bF Z Z (AO.bR (i:=2) Z Z Z rZ hv1 hv2 Z Z Z ?_))))))))); refine AR.nil [1,2] Z (AW.seq (AW.sr (cs 1 Z ?_))); refine AR.step Z Z Z (AO.aR (i:=2) Z Z Z rZ Z Z (AR.step Z Z Z (AO.MU (i:=0) Z Z Z Z jG Z Z (cs 1 Z (AR.nil [1,2,14,15] Z ?_))))); refine AW.block (AW.settle [1,2,14,15] Z (AW.NU (fun (l:List au) (i:Int)=>[(1,pP b1),(2,pP b2),(14,iP (l1.length:Int)),(15,iP i)]) (fun (l:List au) (i:Int)=>[.buf v3 l1.length 4 38 (l.flatMap au.cells),.box b2 [.str ([]:Str),.str ([]:Str),.own (.slice none 0 0) [],.own (.slice none 0 0) []],.box b1 [.str v1.kind,.str v1.name,.list (List.map aK.cells k1),.val v3]]) (fun kk l i=>l.length=l1.length∧qx go (l1.length:Int) kk l i=some l2) BIG l1 0 Z Z ⟨Z,hl2⟩ (fun _ _ hz=>bT hz.2) ?_)); rintro kk l i ⟨hlen,hf⟩; rw [qx] at hf; refine AW.sr (cs 1 Z (AR.nil [1,2,14,15,16] Z (AW.seq ?_))); refine AW.cond Z (fun h1=>?_) (fun h1=>?_)
 ·
  replace hf:=jF h1 hf; refine B1 hf fun e1 he1 hf=>B1 hf fun x1 hx1 hf=>?_; obtain ⟨hi0,he1⟩:=vX he1; obtain ⟨hlt,he1⟩:=List.getElem?_eq_some_iff.1 he1; refine AW.skip (AW.seq (AW.block (AW.sr ?_))); refine cs 2 Z (AR.nil [1,2,3,14,15] Z (AW.draw 10 mixed (by kernel_rfl) Z ?_)); refine Ev.cs bC 1 Z (Ev.cons Z Z Z (AO.aR (i:=2) Z Z Z rZ Z Z zg) (Ev.cs bC 2 Z (Ev.cons Z Z Z (AO.aR (i:=2) Z Z Z rZ Z Z zg) ?_))); refine Ev.cs bC 1 Z (Ev.cons Z Z Z (AO.mI (i:=0) (sz:=4) Z Z Z Z jG hi0 (by omega) zg) ?_); refine Ev.cons Z Z Z (AO.FN (i:=0) Z Z Z nQ (by rw [sO au.bG]; omega) (by rw [AJ au.bG l i.toNat hlt,he1,au.aD]; rfl) zg) ?_; refine Ev.cons Z Z Z (AO.call Z _ Z Z abm (goH _ hx1 zg)) (Ev.cons Z Z Z (AO.mI (i:=0) (sz:=4) Z Z Z Z jG hi0 (by omega) zg) ?_); refine Ev.nil ?_; show AR _ _ _ _ _ _ _ _; refine AR.bF Z Z (AO.Dz (i:=0) (cs':=(l.set i.toNat x1).flatMap au.cells) Z Z Z nQ Z Z Z (Nat.succ_pos _) (by rw [sO au.bG]; simp only [List.length_cons,List.length_nil]; omega) (Oc au.bG l _ hlt _ x1 (au.aD _).symm) Z ?_); refine AR.nil [1,2,14,15] Z (AW.region (cs 2 Z (AR.nil [1,2,14,15] Z ?_))); exact ⟨_,_,Z,Z,Z,(List.length_set ..).trans hlen,hf⟩
 obtain rfl:=Option.some.inj (iw h1 hf); refine AW.exit (AW.Vt (q:=3) 0 2 (List.map au.cells l) rfl rfl rfl (List.flatMap_def ..).symm (fun x hx=>by obtain ⟨s,_,rfl⟩:=List.mem_map.1 hx; exact au.bG s) (by rw [List.length_map,hlen]) ?_); refine AW.sr (AR.step Z Z Z (AO.aR (i:=2) Z Z Z nQ Z Z (AR.bF Z Z (AO.bR (i:=1) Z Z Z nQ Z Z Z Z Z (AR.nil [2] Z ?_))))); refine AW.ret ?_; have h':Q (.ret (.agg [.str v1.kind,.str v1.name,.list (List.map aK.cells k1),.list (List.map au.cells l)])) τ:=by rw [←au.aB]; exact h
 exact ⟨rfl,_,⟨_,_,rfl,⟨_,_,1,_,_,rfl,rfl,nQ,rfl⟩,rfl⟩,[],List.nil_sublist _,h'⟩
theorem BF :∀ (k:Nat) (x:au) {r0:au},qP k x=some r0→∀ {τ:List bf} {Q:dx→List bf→Prop},Q (.ret (.agg (dY r0))) τ→PC 48 [.agg (dY x)] τ Q
 | 0,_,_,hz,_,_,_=>bT hz
 | k + 1,x,_,hz,_,_,hq=>Iu (qP k) (BF k) x hz hq
theorem BQ (v1:au) {r0:au} (hf:yK v1=some r0) (h:Q (.ret (.agg (dY r0))) τ):PC 48 [.agg (dY v1)] τ Q:=by
 exact BF BIG v1 hf h
theorem Mi (l1:List UInt8) (W9:Int→UInt8→Option Bool) (Y7:FuncId) (ab1:List PV) (ahu:aU Tryz.prog Y7=true) (ahv:∀ a0 a1 b0,W9 a0 a1=some b0→∀ {τ:List bf} {Q:dx→List bf→Prop},Q (.ret (.bool b0)) τ→PC Y7 ([iP a0,.int .u8 (a1.toNat:Int)] ++ ab1) τ Q) {r0:Bool} (hf:AB l1 W9=some r0) (h:Q (.ret (.bool r0)) τ):PC 80 [.list (List.map jK l1),.fn Y7 ab1] τ Q:=by
 unfold AB at hf; refine BN 20 [.tmp 4] [0,1] Tryz.func80 Z Z Z Z Z (W 2 Z (AS Z (AO.aO (l:=l1) Z Z Z Z O1 Z Z (J 1 Z (JY (fun i1=>[(1,.fn Y7 ab1),(7,.list (List.map jK l1)),(8,iP (l1.length:Int)),(9,iP i1)]) (fun i1=>[]) (fun bX i1=>rQ l1 W9 bX i1=some r0) BIG 0 Z Z hf (fun _ hz=>bT hz) ?_))))); intro bX i1 hf; rw [rQ] at hf; refine V 1 Z (C hf Z (fun h1 hf=>?_) fun h1 hf=>?_)
 ·
  refine B1 hf fun e1 h2 hf=>W 1 Z (AS Z (AO.aP h2 Z Z Z Z O1 Z Z ?_)); refine B1 hf fun x1 h3 hf=>U 6 Z (AS Z (AO.call Z _ Z Z ahu (ahv _ _ _ h3 (J 1 Z (C hf Z (fun h4 hf=>?_) fun h4 hf=>?_)))))
  · cases hf; exact M 1 Z (Y Z h)
  exact M 2 Z ⟨(cZ (i1 + 1)),Z,Z,Z,hf⟩
 cases hf; exact M 1 Z (Y Z h)
theorem Sg (i1:Int) (c1:UInt8) {r0:Bool} (hf:CW i1 c1=some r0) (h:Q (.ret (.bool r0)) τ):PC 81 [iP i1,.int .u8 (c1.toNat:Int)] τ Q:=by
 unfold CW at hf; refine BN 31 [.tmp 4] [0,1] Tryz.func81 Z Z Z Z Z (W 4 Z (An 3 7 10 [0,1] (decide ((c1.toNat:Int)≤122)) Z Z Z Z ?_)); refine B1 hf fun b1 h3 hf=>U 1 Z (AR.fK 3 11 14 false [0,1] b1 Z Z (fun h2=>?_) (fun h2=>?_) ?_)
 · refine IF 11 h2 h3 Z fun h3=>?_; refine BR h3 fun x1 h4 h3=>?_; refine U 1 Z (GO Z (AO.call Z _ Z Z adT (K7 _ h4 ?_))); cases h3; exact fI 1 Z (En [14,0,1] Z)
 · refine IT 11 h2 h3 Z fun h3=>?_; cases h3; exact fI 3 Z (En [14,0,1] Z)
 refine U 1 Z (AR.or 15 15 30 [] (x:=((decide (0 < i1)) && ((((c1.toNat:Int) == 95) || ((c1.toNat:Int) == 45)) || ((c1.toNat:Int) == 46)))) Z Z (fun h5=>?_) (fun h5=>?_) ?_)
 ·
  refine Is 15 h5 Z (U 3 Z (AR.and 11 18 29 [15] (x:=((((c1.toNat:Int) == 95) || ((c1.toNat:Int) == 45)) || ((c1.toNat:Int) == 46))) Z Z (fun h6=>?_) (fun h6=>?_) ?_))
  · refine Is 18 h6 Z (U 3 Z (On 3 21 24 [1,15,18] ((c1.toNat:Int) == 45) Z Z Z Z (U 1 Z (On 3 25 28 [15,18] ((c1.toNat:Int) == 46) Z Z Z Z ?_)))); exact fI 1 Z (En [29,15] Z)
  · refine Is 18 h6 Z ?_; exact fI 11 Z (En [29,15] Z)
  exact fI 1 Z (En [30] Z)
 · refine Is 15 h5 Z ?_; exact fI 15 Z (En [30] Z)
 cases hf; exact N 1 Z (Y Z h)
theorem VO (s1:Str) {r0:Bool} (hf:LQ s1=some r0) (h:Q (.ret (.bool r0)) τ):PC 49 [.str s1] τ Q:=by
 unfold LQ at hf; refine BN 16 [.tmp 2] [0] Tryz.func49 Z Z Z Z Z (W 2 Z (AS Z (AO.cK Z Z Z Z dR Z (U 2 Z (AR.and 4 6 10 [0] (x:=(decide ((s1.length:Int)≤64))) Z Z (fun h1=>?_) (fun h1=>?_) ?_)))))
 · refine Is 6 h1 Z (U 1 Z (GO Z (AO.cK Z Z Z Z dR Z ?_))); exact fI 2 Z (En [10,0] Z)
 · refine Is 6 h1 Z ?_; exact fI 4 Z (En [10,0] Z)
 refine BR hf fun b1 h3 hf=>?_; refine U 1 Z (AR.fK 4 11 15 true [] b1 Z Z (fun h2=>?_) (fun h2=>?_) ?_)
 · refine IT 11 h2 h3 Z fun h3=>?_; refine B1 h3 fun x1 h4 h3=>U 1 Z (GO Z (AO.X3 h4 Z dR agn Wd Z (fun v1=>?_))); refine BR h3 fun x2 h5 h3=>?_; refine GO Z (AO.call Z _ Z Z agI (Mi _ CW 81 [] agH (fun _ _ _ hz=>Sg _ _  hz) h5 ?_)); cases h3; refine fI 1 Z (AR.drop1 ?_); exact En [15] Z
 · refine IF 11 h2 h3 Z fun h3=>?_; cases h3; exact fI 4 Z (En [15] Z)
 cases hf; exact N 1 Z (Y Z h)
theorem G7 (ou:List aA) {r0:Int} (hf:BK ou=some r0) (h:Q (.ret (iP r0)) τ):PC 53 [.list (List.map aA.cells ou)] τ Q:=by
 unfold BK at hf; refine BN 39 [.tmp 2] [0] Tryz.func53 Z Z Z Z Z (W 2 Z (AS Z (AO.aO (l:=ou) Z Z Z Z wC Z Z (J 1 Z (C hf Z (fun h1 hf=>?_) fun h1 hf=>?_)))))
 · cases hf; exact M 1 Z (Y Z h)
 refine W 0 Z (AS Z (AO.Rc Z (fun m10=>(U 2 Z (AS Z (AO.aO (l:=ou) Z Z Z Z wC Z Z (J 1 Z (Zq (fun x1 y1=>[(3,.val (.map (some m10))),(11,.list (List.map aA.cells ou)),(12,iP (ou.length:Int)),(13,iP x1)]) (fun x1 y1=>[.obj m10 (xE y1)]) (fun bX x1 y1=>BJ ou bX x1 y1=some r0) BIG 0 [] Z Z hf (fun _ _ hz=>bT hz) ?_)))))))); intro bX x1 y1 hf; rw [BJ] at hf; refine V 1 Z (C hf Z (fun h2 hf=>?_) fun h2 hf=>?_)
 ·
  refine B1 hf fun e1 h3 hf=>W 0 Z (AS Z (AO.aP h3 Z Z Z Z wC (aA.aD _) Z (U 1 Z (AS Z (AO.aC Z Qb (fun b5=>?_)))))); refine B1 hf fun x2 h4 hf=>Rr 4 [0,0] Z Z (CL Z (sU _ h4 (J 1 Z (C hf Z (fun h5 hf=>?_) fun h5 hf=>?_))))
  · cases hf; exact M 1 Z (Y Z h)
  refine B1 hf fun e2 h6 hf=>Wr 2 [0] Z Z (CL Z (pU _ h6 (J 3 Z (C hf Z (fun h7 hf=>?_) fun h7 hf=>?_))))
  · cases hf; exact M 2 Z (Y Z h)
  refine Wr 3 [0] Z Z (AS Z (AO.Kg (i:=1) (l:=y1) Z Z Z Z Gw dR Zt (U 1 Z (AR.bF Z Z (AO.LJ (i:=1) (l:=y1) Z Z Z Z Z Gw dR (Rr 3 [0] Z Z (AS Z (AO.Kg (i:=1) (l:=(xQ y1 e1.name (cZ ((wQ y1 e1.name) + 1)))) Z Z Z Z Gw dR Zt (J 1 Z (C hf Z (fun h8 hf=>?_) fun h8 hf=>?_))))))))))
  · cases hf; exact M 1 Z (Y Z h)
  refine Wn0 2 Z (AR.drop1 ?_); exact N 0 Z ⟨(cZ (x1 + 1)),(xQ y1 e1.name (cZ ((wQ y1 e1.name) + 1))),Z,Z,Z,hf⟩
 cases hf; exact M 1 Z (Y Z h)
theorem Oh (s1:Str) {r0:Bool} (hf:Dw s1=some r0) (h:Q (.ret (.bool r0)) τ):PC 115 [.str s1] τ Q:=by
 unfold Dw at hf; refine BN 8 [.tmp 2] [0] Tryz.func115 rfl rfl rfl rfl rfl (W 3 rfl (AS rfl (AO.bq (List.map aA.cells [(aA.mk s1 (ah.mk 0 false 0 ([]:Str) [] []))]) rfl DC rfl rfl rfl (by first | rfl | simp only [List.map,aA.aD]) ?_))); refine B1 hf fun x1 h1 hf=>CL Z (G7 _ h1 ?_); cases hf; exact N 2 Z (Y Z h)
abbrev J5 (kI:ah→Option ah):Prop:=∀ (tO:ah) {aZ:ah},kI tO=some aZ→∀ {τ:List bf} {Q:dx→List bf→Prop} (h:Q (.ret (.agg (aN aZ))) τ),PC 148 [.agg (aN tO)] τ Q
theorem Qp (kI) (Oa:J5 kI) (v1:ah) {r0:ah} (hf:D8 kI v1=some r0) (h:Q (.ret (.agg (aN r0))) τ):PC 148 [.agg (aN v1)] τ Q:=by
 unfold D8 at hf; refine BN 28 [.cell 2 42] [0] Tryz.func148 Z Z Z Z Z (W 1 Z (AS Z (AO.aC Z gY (fun b2=>(U 1 Z (AS Z (AO.aC Z gY (fun b3=>(Rr 5 [0,0] Z Z (AS Z (AO.aO (l:=v1.aW) Z Z Z Z iK Z (ah.aB _) ?_))))))))))); refine J 1 Z (AW.row 6 42 (V5 (fun x1 bn v2=>[(1,.ref (aN v1)),(2,pP b2),(3,pP b3),(9,.list (ah.aM v1.aW)),(10,iP (v1.aW.length:Int)),(11,iP x1)]) (fun x1 bn v2=>[.row v2 (ah.aM bn.aW).length 6 42,.box b3 [iP bn.kind,.bool bn.eB,iP bn.gI,.str bn.fM,.own v2 (ah.aM bn.aW),sP bn.keys],.box b2 [iP 0,.bool false,iP 0,.str ([]:Str),.own (.slice none 0 0) [],.own (.slice none 0 0) []]]) (fun bX x1 bn v2=>yF kI v1 bX x1 bn=some r0) BIG 0 (ah.mk v1.kind v1.eB v1.gI v1.fM [] v1.keys) (.slice none 0 0) Z Z hf (fun _ _ _ hz=>bT hz) ?_)); intro bX x1 bn v2 hf; rw [yF] at hf; refine V 1 Z (C hf Z (fun h1 hf=>?_) fun h1 hf=>?_)
 ·
  refine B1 hf fun e1 h2 hf=>W 0 Z (AS Z (AO.aP h2 Z Z (ah.aB _) Z iK (ah.aD _) Z (U 1 Z (AS Z (AO.aC Z gY (fun b5=>(Rw 1 [0] Z Z (AW.draw 5 mixed (by kernel_rfl) Z ?_)))))))); refine Ev.cs bC 1 Z (Ev.cons Z Z Z (AO.aR (i:=2) Z Z Z IJ Z Z zg) (Ev.cons Z Z Z (AO.aR (i:=0) Z Z Z mK Z Z zg) ?_)); refine B1 hf fun x2 h3 hf=>Ev.cons rfl rfl rfl (AO.call rfl _ rfl rfl aeS (Oa _ h3 ⟨rfl,rfl⟩)) (Ev.cons rfl rfl rfl (AO.bq (ah.aM [x2]) rfl yY rfl rfl rfl (by first | rfl | simp only [List.map,ah.aD,ah.aM]) ⟨rfl,rfl⟩) ?_)
  refine Ev.nil ?_; show AR _ _ _ _ _ _ _ _; refine B1 hf fun x3 h4 hf=>AS Z (AO.eZ (i:=1) (l:=bn.aW) (m:=[x2]) h4 Z Z Z Z Z Z Z yY iK (ah.aB _) (ah.aB _) (ah.aB _).symm (ah.bG) (ah.cells_one) (by decide) (fun v3 s1 hs1=>?_)); cases hs1; refine Rn 4 [2] Z Z (AR.drop1 ?_); exact N 0 Z ⟨(cZ (x1 + 1)),(ah.mk bn.kind bn.eB bn.gI bn.fM x3 bn.keys),v3,Z,Z,Z,hf⟩
 refine W 2 Z (AR.row 1 9 ?_); refine B1 hf fun x4 h5 hf=>AS Z (AO.eZ (i:=0) (l:=[]) (m:=v1.keys) h5 Z Z Z Z Z Z Z tH jm Z Z Z (fun _=>Z) (fun _=>Z) (by decide) (fun v4 s2 hs2=>?_)); cases hs2; cases hf; exact Rx 4 [2,2,3] Z Z (ZC [3] Z Z h)
theorem Q_ :∀ k:Nat,(J5 (wD k)):=by
 intro k
 induction k with
 | zero=>exact fun _ _ hz=>by first | cases hz | (unfold wD at hz; cases hz)
 | succ k ih=>exact fun tO aZ hz τ Q hq=>Qp (wD k) ih tO hz hq
theorem Sl (tO:ah) {aZ:ah} (hf:M9 tO=some aZ) (h:Q (.ret (.agg (aN aZ))) τ):PC 148 [.agg (aN tO)] τ Q:=
 ((Q_ BIG)) tO hf h
abbrev Lg (lJ:aj→Option aj):Prop:=∀ (j3:aj) {aZ:aj},lJ j3=some aZ→∀ {τ:List bf} {Q:dx→List bf→Prop} (h:Q (.ret (.agg (bE aZ))) τ),PC 117 [.agg (bE j3)] τ Q
theorem SN (lJ) (Pz:Lg lJ) (e1:aj) {r0:aj} (hf:Fp lJ e1=some r0) (h:Q (.ret (.agg (bE r0))) τ):PC 117 [.agg (bE e1)] τ Q:=by
 unfold Fp at hf; refine BN 32 [.cell 2 45] [0] Tryz.func117 Z Z Z Z Z (W 1 Z (AS Z (AO.aC Z iO (fun b2=>(U 1 Z (AS Z (AO.aC Z iO (fun b3=>?_)))))))); refine B1 hf fun x1 h1 hf=>Rr 3 [0] Z Z (CL Z (Sl _ h1 (Rr 6 [0,0] Z Z (AS Z (AO.aO (l:=e1.args) Z Z Z Z iQ Z (aj.aB _) ?_))))); refine J 1 Z (AW.row 10 45 (V5 (fun x2 bn v1=>[(1,.ref (bE e1)),(2,pP b2),(3,pP b3),(13,.list (aj.aM e1.args)),(14,iP (e1.args.length:Int)),(15,iP x2)]) (fun x2 bn v1=>[.row v1 (aj.aM bn.args).length 10 45,.box b3 [iP bn.kind,.str bn.name,iP bn.value.kind,.bool bn.value.eB,iP bn.value.gI,.str bn.value.fM,.list (ah.aM bn.value.aW),sP bn.value.keys,.own v1 (aj.aM bn.args),sP bn.keys],.box b2 [iP 0,.str ([]:Str),iP 0,.bool false,iP 0,.str ([]:Str),.own (.slice none 0 0) [],.own (.slice none 0 0) [],.own (.slice none 0 0) [],.own (.slice none 0 0) []]]) (fun bX x2 bn v1=>Ab lJ e1 bX x2 bn=some r0) BIG 0 (aj.mk e1.kind e1.name x1 [] e1.keys) (.slice none 0 0) Z Z hf (fun _ _ _ hz=>bT hz) ?_)); intro bX x2 bn v1 hf; rw [Ab] at hf; refine V 1 Z (C hf Z (fun h2 hf=>?_) fun h2 hf=>?_)
 ·
  refine B1 hf fun e2 h3 hf=>W 0 Z (AS Z (AO.aP h3 Z Z (aj.aB _) Z iQ (aj.aD _) Z (U 1 Z (AS Z (AO.aC Z iO (fun b5=>(Rw 1 [0] Z Z (AW.draw 5 mixed (by kernel_rfl) Z ?_)))))))); refine Ev.cs bC 1 Z (Ev.cons Z Z Z (AO.aR (i:=2) Z Z Z OI Z Z zg) (Ev.cons Z Z Z (AO.aR (i:=0) Z Z Z gM Z Z zg) ?_)); refine B1 hf fun x3 h4 hf=>Ev.cons rfl rfl rfl (AO.call rfl _ rfl rfl ae6 (Pz _ h4 ⟨rfl,rfl⟩)) (Ev.cons rfl rfl rfl (AO.bq (aj.aM [x3]) rfl u_ rfl rfl rfl (by first | rfl | simp only [List.map,aj.aD,aj.aM]) ⟨rfl,rfl⟩) ?_)
  refine Ev.nil ?_; show AR _ _ _ _ _ _ _ _; refine B1 hf fun x4 h5 hf=>AS Z (AO.eZ (i:=1) (l:=bn.args) (m:=[x3]) h5 Z Z Z Z Z Z Z u_ iQ (aj.aB _) (aj.aB _) (aj.aB _).symm (aj.bG) (aj.cells_one) (by decide) (fun v2 s1 hs1=>?_)); cases hs1; refine Rn 4 [2] Z Z (AR.drop1 ?_); exact N 0 Z ⟨(cZ (x2 + 1)),(aj.mk bn.kind bn.name bn.value x4 bn.keys),v2,Z,Z,Z,hf⟩
 refine W 2 Z (AR.row 1 9 ?_); refine B1 hf fun x5 h6 hf=>AS Z (AO.eZ (i:=0) (l:=[]) (m:=e1.keys) h6 Z Z Z Z Z Z Z tH jm Z Z Z (fun _=>Z) (fun _=>Z) (by decide) (fun v3 s2 hs2=>?_)); cases hs2; cases hf; exact Rx 4 [2,2,3] Z Z (ZC [3] Z Z h)
theorem Tc :∀ k:Nat,(Lg (xY k)):=by
 intro k
 induction k with
 | zero=>exact fun _ _ hz=>by first | cases hz | (unfold xY at hz; cases hz)
 | succ k ih=>exact fun j3 aZ hz τ Q hq=>SN (xY k) ih j3 hz hq
theorem TR (j3:aj) {aZ:aj} (hf:O4 j3=some aZ) (h:Q (.ret (.agg (bE aZ))) τ):PC 117 [.agg (bE j3)] τ Q:=
 ((Tc BIG)) j3 hf h
theorem Fx (b1:au) (name1:Str) {r0:aj} {r1:Bool} (hf:BL b1 name1=some (r0,r1)) (h:Q (.ret (.tuple [.agg (bE r0),.bool r1])) τ):PC 87 [.agg (dY b1),.str name1] τ Q:=by
 unfold BL at hf; refine BN 24 [.cell 4 45,.tmp 5] [0,1] Tryz.func87 Z Z Z Z Z (W 1 Z (AS Z (AO.aC Z iO (fun b4=>(U 3 Z (AS Z (AO.aO (l:=b1.attrs) Z Z Z Z o9 Z Z ?_))))))); refine J 1 Z (JY (fun x1=>[(1,.str name1),(4,pP b4),(9,.list (List.map aK.cells b1.attrs)),(10,iP (b1.attrs.length:Int)),(11,iP x1)]) (fun x1=>[.box b4 [iP 0,.str ([]:Str),iP 0,.bool false,iP 0,.str ([]:Str),.own (.slice none 0 0) [],.own (.slice none 0 0) [],.own (.slice none 0 0) [],.own (.slice none 0 0) []]]) (fun bX x1=>Ac b1 name1 bX x1=some (r0,r1)) BIG 0 Z Z hf (fun _ hz=>bT hz) ?_); intro bX x1 hf; rw [Ac] at hf; refine V 1 Z (C hf Z (fun h1 hf=>?_) fun h1 hf=>?_)
 ·
  refine B1 hf fun e1 h2 hf=>W 0 Z (AS Z (AO.aP h2 Z Z Z Z o9 (aK.aD _) Z (U 1 Z (AS Z (AO.aC Z OA (fun b7=>(Rw 5 [0,0] Z Z (C hf Z (fun h3 hf=>?_) fun h3 hf=>?_))))))))
  · refine B1 hf fun x2 h4 hf=>Wr 2 [0] Z Z (CL Z (TR _ h4 ?_)); cases hf; exact Rx 2 [1] Z Z (ZC [1] Z Z h)
  refine Wn0 2 Z (AR.drop1 ?_); exact N 0 Z ⟨(cZ (x1 + 1)),Z,Z,Z,hf⟩
 cases hf; exact Wx 3 [0] Z Z (ZC [0] Z Z h)
theorem Fu (kK:Int) {r0:Str} (hf:tF kK=some r0) (h:Q (.ret (.str r0)) τ):PC 144 [iP kK] τ Q:=by
 unfold tF at hf; refine BN 14 [.tmp 2] [0] Tryz.func144 Z Z Z Z Z (W 1 Z (AS Z (AO.Ox Z aaG acw Z (AS Z (AO.aC Z aaG (fun b3=>(Rr 4 [0] Z Z (On 3 7 10 [0,3] (decide (8≤kK)) Z Z Z Z ?_)))))))); refine J 0 Z (C hf Z (fun h2 hf=>?_) fun h2 hf=>?_)
 · cases hf; exact M 1 Z (Y Z h)
 refine BR hf fun e1 h3 hf=>?_; refine W 1 Z (AS Z (AO.Rp h3 Z acw Z Z Z (AS Z (AO.Z4 (i:=0) (fun z:Str=>.str z) h3 Z Z Z Qw Z ?_)))); cases hf; exact N 1 Z (Y Z h)
theorem xB (s1:Str) (nA:Str) {r0:Bool} (hf:oG s1 nA=some r0) (h:Q (.ret (.bool r0)) τ):PC 216 [.str s1,.str nA] τ Q:=by
 unfold oG at hf; refine BN 18 [.tmp 4] [0,1] Tryz.func216 Z Z Z Z Z (W 2 Z (AS Z (AO.cK Z Z Z Z dR Z (U 1 Z (AS Z (AO.cK Z Z Z Z dR Z ?_)))))); refine BR hf fun b1 h2 hf=>?_; refine U 2 Z (AR.fK 7 10 17 true [] b1 Z Z (fun h1=>?_) (fun h1=>?_) ?_)
 · replace h2:=jF h1 h2; refine Is 10 h1 Z (U 2 Z (GO Z (AO.cK Z Z Z Z dR Z ?_))); refine B1 h2 fun x1 h3 h2=>GO Z (AO.qd h3 Z dR Z Z ⟨_,Z⟩ ?_); cases h2; exact fI 3 Z (En [17] Z)
 · refine IF 10 h1 h2 Z fun h2=>?_; cases h2; exact fI 7 Z (En [17] Z)
 cases hf; exact N 1 Z (Y Z h)
theorem Et (s1:Str) (nA:Str) {r0:Str} {r1:Bool} (hf:sH s1 nA=some (r0,r1)) (h:Q (.ret (.tuple [.str r0,.bool r1])) τ):PC 202 [.str s1,.str nA] τ Q:=by
 unfold sH at hf; refine BN 15 [.tmp 4,.tmp 5] [0,1] Tryz.func202 Z Z Z Z Z ?_; refine B1 hf fun x1 h1 hf=>W 4 Z (CL Z (xB _ _ h1 (J 1 Z (C hf Z (fun h2 hf=>?_) fun h2 hf=>?_))))
 · cases hf; exact M 3 Z (Y Z h)
 refine W 2 Z (AS Z (AO.cK Z Z Z Z dR Z ?_)); refine B1 hf fun Yv h3 hf=>AS Z (AO.qd h3 Z dR Z ⟨_,Z⟩ Z ?_); cases hf; exact N 2 Z (Y Z h)
theorem KL (s1:Str) (nA:Str) {r0:Str} {r1:Bool} (hf:strings_CutPrefix s1 nA=some (r0,r1)) (h:Q (.ret (.tuple [.str r0,.bool r1])) τ):PC 169 [.str s1,.str nA] τ Q:=by
 unfold strings_CutPrefix at hf; refine BN 11 [.tmp 4,.tmp 5] [0,1] Tryz.func169 Z Z Z Z Z ?_; replace hf:=(Kt _).trans hf; obtain ⟨Yv,afC,h1,hf⟩:=bP hf; refine W 4 Z (CL Z (Et _ _ h1 ?_)); cases hf; exact N 4 Z (Y Z h)
theorem xA (s1:Str) (ny:Str) {r0:Bool} (hf:oF s1 ny=some r0) (h:Q (.ret (.bool r0)) τ):PC 235 [.str s1,.str ny] τ Q:=by
 unfold oF at hf; refine BN 21 [.tmp 4] [0,1] Tryz.func235 Z Z Z Z Z (W 2 Z (AS Z (AO.cK Z Z Z Z dR Z (U 1 Z (AS Z (AO.cK Z Z Z Z dR Z ?_)))))); refine BR hf fun b1 h2 hf=>?_; refine U 2 Z (AR.fK 10 10 20 true [] b1 Z Z (fun h1=>?_) (fun h1=>?_) ?_)
 · replace h2:=jF h1 h2; refine Is 10 h1 Z (U 2 Z (GO Z (AO.cK Z Z Z Z dR Z (U 1 Z (GO Z (AO.cK Z Z Z Z dR Z ?_)))))); refine B1 h2 fun x1 h3 h2=>U 1 Z (GO Z (AO.qd h3 Z dR Z ⟨_,Z⟩ Z ?_)); cases h2; exact fI 3 Z (En [20] Z)
 · refine IF 10 h1 h2 Z fun h2=>?_; cases h2; exact fI 10 Z (En [20] Z)
 cases hf; exact N 1 Z (Y Z h)
theorem Es (s1:Str) (ny:Str) {r0:Str} {r1:Bool} (hf:sG s1 ny=some (r0,r1)) (h:Q (.ret (.tuple [.str r0,.bool r1])) τ):PC 203 [.str s1,.str ny] τ Q:=by
 unfold sG at hf; refine BN 18 [.tmp 4,.tmp 5] [0,1] Tryz.func203 Z Z Z Z Z ?_; refine B1 hf fun x1 h1 hf=>W 4 Z (CL Z (xA _ _ h1 (J 1 Z (C hf Z (fun h2 hf=>?_) fun h2 hf=>?_))))
 · cases hf; exact M 3 Z (Y Z h)
 refine W 2 Z (AS Z (AO.cK Z Z Z Z dR Z (U 1 Z (AS Z (AO.cK Z Z Z Z dR Z ?_))))); refine B1 hf fun Np h3 hf=>U 1 Z (AS Z (AO.qd h3 Z dR Z Z ⟨_,Z⟩ ?_)); cases hf; exact N 2 Z (Y Z h)
theorem KJ (s1:Str) (ny:Str) {r0:Str} {r1:Bool} (hf:strings_CutSuffix s1 ny=some (r0,r1)) (h:Q (.ret (.tuple [.str r0,.bool r1])) τ):PC 170 [.str s1,.str ny] τ Q:=by
 unfold strings_CutSuffix at hf; refine BN 11 [.tmp 4,.tmp 5] [0,1] Tryz.func170 Z Z Z Z Z ?_; replace hf:=(Kt _).trans hf; obtain ⟨Np,afC,h1,hf⟩:=bP hf; refine W 4 Z (CL Z (Es _ _ h1 ?_)); cases hf; exact N 4 Z (Y Z h)
theorem PK (s1:Str) {r0:Int} {r1:Str} (hf:EZ s1=some (r0,r1)) (h:Q (.ret (.tuple [iP r0,.str r1])) τ):PC 147 [.str s1] τ Q:=by
 unfold EZ at hf; refine BN 35 [.tmp 2,.tmp 3] [0] Tryz.func147 Z Z Z Z Z (W 2 Z (AS Z (AO.bq (List.map MX ([5,6]:List Int)) Z QB Z Z Z Z (AS Z (AO.aO (l:=([5,6]:List Int)) Z Z Z Z Fj Z Z (J 1 Z (JY (fun x1=>[(0,.str s1),(10,.list (List.map MX ([5,6]:List Int))),(11,iP (([5,6]:List Int).length:Int)),(12,iP x1)]) (fun x1=>[]) (fun bX x1=>rY s1 bX x1=some (r0,r1)) BIG 0 Z Z hf (fun _ hz=>bT hz) ?_))))))); intro bX x1 hf; rw [rY] at hf; refine V 1 Z (C hf Z (fun h1 hf=>?_) fun h1 hf=>?_)
 ·
  refine B1 hf fun kK h2 hf=>W 0 Z (AS Z (AO.aP h2 Z Z Z Z Fj Z Z ?_)); refine B1 hf fun x2 h3 hf=>U 4 Z (CL Z (Fu _ h3 ?_)); refine B1 hf fun x3 h4 hf=>AS Z (AO.qC h4 Z Z Z ?_); obtain ⟨jI,ok1,h5,hf⟩:=bP hf; refine CL Z (KL _ _ h5 (J 7 Z (C hf Z (fun h6 hf=>?_) fun h6 hf=>?_)))
  · exact M 2 Z ⟨(cZ (x1 + 1)),Z,Z,Z,hf⟩
  obtain ⟨qE,ok2,h7,hf⟩:=bP hf; refine W 1 Z (CL Z (KJ _ _ h7 (J 6 Z (C hf Z (fun h8 hf=>?_) fun h8 hf=>?_))))
  · cases hf; exact M 4 Z (Y Z h)
  exact M 2 Z ⟨(cZ (x1 + 1)),Z,Z,Z,hf⟩
 cases hf; exact M 2 Z (Y Z h)
theorem o7 (kK:Int) {r0:Bool} (hf:iM kK=some r0) (h:Q (.ret (.bool r0)) τ):PC 109 [iP kK] τ Q:=by
 unfold iM at hf; refine BN 9 [.tmp 2] [0] Tryz.func109 Z Z Z Z Z (W 4 Z (On 3 5 8 [] (kK == 6) Z Z Z Z ?_)); cases hf; exact N 1 Z (Y Z h)
theorem lV (kK:Int) {r0:aJ} (hf:gU kK=some r0) (h:Q (.ret (.agg (gu r0))) τ):PC 69 [iP kK] τ Q:=by
 unfold gU at hf; refine BN 5 [.cell 2 61] [0] Tryz.func69 Z Z Z Z Z (W 0 Z (AS Z (AO.aC Z Ml (fun b2=>?_)))); cases hf; exact Rx 3 [0] Z Z (ZC [0] Z Z h)
theorem BO (kK:Int) (qE:aJ) {r0:aJ} (hf:oC kK qE=some r0) (h:Q (.ret (.agg (gu r0))) τ):PC 71 [iP kK,.agg (gu qE)] τ Q:=by
 unfold oC at hf; refine BN 9 [.cell 4 61] [0,1] Tryz.func71 rfl rfl rfl rfl rfl (W 1 rfl (AS rfl (AO.aC rfl Ml (fun b4=>(U 2 rfl (AS rfl (AO.bq (aJ.aM [qE]) rfl agv rfl rfl rfl (by first | rfl | simp only [List.map,aJ.aD,aJ.aM]) ?_))))))); cases hf; exact Rx 2 [0] Z Z (ZC [0] Z Z h)
theorem RX (s1:Str) {r0:aJ} {r1:Int} (hf:Gd s1=some (r0,r1)) (h:Q (.ret (.tuple [.agg (gu r0),iP r1])) τ):PC 116 [.str s1] τ Q:=by
 unfold Gd at hf; refine BN 59 [.cell 2 61,.tmp 3] [0] Tryz.func116 Z Z Z Z Z (W 0 Z (AS Z (AO.aC Z Ml (fun b2=>(U 2 Z (AS Z (AO.cK Z Z Z Z dR Z (J 1 Z (C hf Z (fun h1 hf=>?_) fun h1 hf=>?_)))))))))
 · cases hf; exact Wx 3 [0] Z Z (ZC [0] Z Z h)
 refine V 1 Z (AW.row 1 3 (V5 (fun s2 nL v1=>[(0,.str s2),(2,pP b2),(4,.own v1 (List.map MX nL))]) (fun s2 nL v1=>[.row v1 (List.map MX nL).length 1 3,.box b2 [iP 0,.own (.slice none 0 0) []]]) (fun bX s2 nL v1=>yA bX s2 nL=some (r0,r1)) BIG s1 [] (.slice none 0 0) Z Z hf (fun _ _ _ hz=>bT hz) ?_)); intro bX s2 nL v1 hf; rw [yA] at hf; obtain ⟨kK,jI,h2,hf⟩:=bP hf; refine W 1 Z (CL Z (PK _ h2 (J 7 Z (C hf Z (fun h3 hf=>?_) fun h3 hf=>?_))))
 ·
  refine V 1 Z (JY (fun Hr=>[(0,.str s2),(2,pP b2),(4,.own v1 (List.map MX nL)),(26,iP Hr)]) (fun Hr=>[.row v1 (List.map MX nL).length 1 3,.box b2 [iP 0,.own (.slice none 0 0) []]]) (fun Jj Hr=>yx s2 nL Jj Hr=some (r0,r1)) BIG 0 Z Z hf (fun _ hz=>bT hz) ?_); intro Jj Hr hf; rw [yx] at hf; refine V 1 Z (C hf Z (fun h4 hf=>?_) fun h4 hf=>?_)
  ·
   refine B1 hf fun x1 h5 hf=>W 3 Z (CL Z (o7 _ h5 ?_)); refine B1 hf fun b1 h7 hf=>U 1 Z (AR.fK 5 31 36 false [0,2,4,7,26] b1 Z Z (fun h6=>?_) (fun h6=>?_) ?_)
   · refine IF 31 h6 h7 Z fun h7=>?_; refine B1 h7 fun x2 h8 h7=>U 1 Z (GO Z (AO.call Z _ Z Z aeU (Fu _ h8 ?_))); cases h7; exact fI 3 Z (En [36,0,2,4,7,26] Z)
   · refine IT 31 h6 h7 Z fun h7=>?_; cases h7; exact fI 5 Z (En [36,0,2,4,7,26] Z)
   refine J 0 Z (C hf Z (fun h9 hf=>?_) fun h9 hf=>?_)
   · exact M 2 Z ⟨(cZ (Hr + 1)),Z,Z,Z,hf⟩
   refine W 1 Z (AS Z (AO.aO (l:=nL) Z Z Z Z Fj Z Z (J 1 Z (C hf Z (fun h10 hf=>?_) fun h10 hf=>?_))))
   · cases hf; exact Wx 3 [1] Z Z (ZC [1] Z Z h)
   refine B1 hf fun x3 h11 hf=>W 1 Z (CL Z (lV _ h11 (AS Z (AO.aC Z Ml (fun b8=>(Rr 2 [0] Z Z (AS Z (AO.aO (l:=nL) Z Z Z Z Fj Z Z ?_)))))))); refine J 2 Z (Zq (fun i1 t1=>[(2,pP b2),(4,.own v1 (List.map MX nL)),(8,pP b8),(9,iP i1)]) (fun i1 t1=>[.box b8 (gu t1),.row v1 (List.map MX nL).length 1 3,.box b2 [iP 0,.own (.slice none 0 0) []]]) (fun kk3 i1 t1=>yw nL kk3 i1 t1=some (r0,r1)) BIG (cZ ((nL.length:Int) - 1)) x3 Z Z hf (fun _ _ hz=>bT hz) ?_); intro kk3 i1 t1 hf; rw [yw] at hf; refine V 2 Z (C hf Z (fun h12 hf=>?_) fun h12 hf=>?_)
   ·
    refine V 0 Z (AW.draw 6 mixed (by kernel_rfl) Z ?_); refine Ev.cs bC 2 Z ?_; refine B1 hf fun e1 lZ hf=>Ev.cons Z Z Z (AO.aP lZ Z Z Z Z Fj Z Z zg) (Ev.cs bC 1 Z (Ev.cons Z Z Z (AO.aR (i:=0) Z Z Z adM Z Z zg) ?_)); refine B1 hf fun x4 nu hf=>Ev.cons Z Z Z (AO.call Z _ Z Z abl (BO _ _ nu zg)) (Ev.nil ?_); show AR _ _ _ _ _ _ _ _; exact Rx 4 [0] Z Z ⟨(cZ (i1 - 1)),x4,Z,Z,Z,hf⟩
   cases hf; exact Wx 3 [0,2] Z Z (ZC [2] Z Z h)
  cases hf; exact Wx 3 [1] Z Z (ZC [1] Z Z h)
 refine W 2 Z (AS Z (AO.bq (List.map MX ([kK]:List Int)) Z QB Z Z Z Z ?_)); refine B1 hf fun Yb tq hf=>AS Z (AO.eZ (i:=0) (l:=nL) (m:=([kK]:List Int)) tq Z Z Z Z Z Z Z QB Fj Z Z Z (fun _=>Z) (fun _=>Z) (by decide) (fun v2 s3 hs3=>?_)); cases hs3; exact N 3 Z ⟨jI,Yb,v2,Z,Z,Z,hf⟩
theorem TP (e1:aj) (ou:List aA) {r0:List aA} {r1:Int} (hf:EJ e1 ou=some (r0,r1)) (h:Q (.ret (.tuple [.list (List.map aA.cells r0),iP r1])) τ):PC 118 [.agg (bE e1),.list (List.map aA.cells ou)] τ Q:=by
 unfold EJ at hf; refine BN 19 [.tmp 4,.tmp 5] [0,1] Tryz.func118 Z Z Z Z Z (W 1 Z (AS Z (AO.eO Z Z ?_))); refine B1 hf fun f1 h1 hf=>U 2 Z (CL Z (G7 _ h1 (J 3 Z (C hf Z (fun h2 hf=>?_) fun h2 hf=>?_))))
 · refine W 1 Z (AS Z (AO.eO Z Z ?_)); cases hf; exact N 1 Z (Y Z h)
 refine B1 hf fun f2 h3 hf=>W 1 Z (CL Z (sU _ h3 (J 3 Z (C hf Z (fun h4 hf=>?_) fun h4 hf=>?_))))
 · refine W 1 Z (AS Z (AO.eO Z Z ?_)); cases hf; exact N 1 Z (Y Z h)
 cases hf; exact M 3 Z (Y Z h)
@[reducible] def V7 :fB aI Unit→dx
 | .ok r=>.ret (.tuple [])
 | .bad e=>.panic (.iface 181 (.agg [iP e.code]))
theorem ER (e1:Int) {rX:fB aI Unit} (hf:Kl e1=some rX) (h:Q (V7 rX) τ):PC 204 [iP e1] τ Q:=by
 unfold Kl at hf; refine BN 5 [] [0] Tryz.func204 Z Z Z Z Z (W 2 Z (AS Z (AO.Y3 Z afm Z (AR.bF Z Z (AO.abI Z Z ?_))))); cases hf; exact ⟨Z,[],List.nil_sublist _,h⟩
@[reducible] def Mq :fB aI ah→dx
 | .ok r=>.ret (.agg (aN r))
 | .bad e=>.panic (.iface 181 (.agg [iP e.code]))
theorem EO (s1:List aA) (name1:Str) {rX:fB aI ah} (hf:Cn s1 name1=some rX) (h:Q (Mq rX) τ):PC 171 [.list (List.map aA.cells s1),.str name1] τ Q:=by
 unfold Cn at hf; refine BN 22 [.cell 4 42] [0,1] Tryz.func171 Z Z Z Z Z (W 0 Z (AS Z (AO.aC Z gY (fun b4=>(U 1 Z (AS Z (AO.aO (l:=s1) Z Z Z Z ab7 Z Z (J 1 Z (JY (fun x1=>[(1,.str name1),(4,pP b4),(7,.list (List.map aA.cells s1)),(8,iP (s1.length:Int)),(9,iP x1)]) (fun x1=>[.box b4 [iP 0,.bool false,iP 0,.str ([]:Str),.own (.slice none 0 0) [],.own (.slice none 0 0) []]]) (fun bX x1=>uh s1 name1 bX x1=some rX) BIG 0 Z Z hf (fun _ hz=>bT hz) ?_))))))))); intro bX x1 hf; rw [uh] at hf; refine V 1 Z (C hf Z (fun h1 hf=>?_) fun h1 hf=>?_)
 ·
  refine B1 hf fun e1 h2 hf=>W 0 Z (AS Z (AO.aP h2 Z Z Z Z ab7 (aA.aD _) Z (U 1 Z (AS Z (AO.aC Z Qb (fun b6=>(Rw 5 [0,0] Z Z (C hf Z (fun h3 hf=>?_) fun h3 hf=>?_))))))))
  · cases hf; exact Wx 3 [0,1] Z Z (ZC [1] Z Z h)
  refine Wn0 2 Z (AR.drop1 ?_); exact N 0 Z ⟨(cZ (x1 + 1)),Z,Z,Z,hf⟩
 rcases bQ hf with ⟨e2,h4,hf⟩ | ⟨_,h4,hf⟩
 · refine W 0 Z (CL Z (ER _ h4 ?_)); cases hf; exact ⟨Z,[],List.nil_sublist _,h⟩
 refine W 0 Z (CL Z (ER _ h4 ?_)); cases hf; exact Rx 2 [0] Z Z (ZC [0] Z Z h)
theorem wK (s1:Str) {r0:ah} (hf:wS s1=some r0) (h:Q (.ret (.agg (aN r0))) τ):PC 173 [.str s1] τ Q:=by
 unfold wS at hf; refine BN 5 [.cell 2 42] [0] Tryz.func173 Z Z Z Z Z (W 0 Z (AS Z (AO.aC Z gY (fun b2=>?_)))); cases hf; exact Rx 3 [0] Z Z (ZC [0] Z Z h)
theorem lD (v1:ah) (kK:Int) {r0:Bool} (hf:oH v1 kK=some r0) (h:Q (.ret (.bool r0)) τ):PC 205 [.agg (aN v1),iP kK] τ Q:=by
 unfold oH at hf; refine BN 9 [.tmp 4] [0,1] Tryz.func205 Z Z Z Z Z ?_; cases hf; exact M 7 Z (Y Z h)
@[reducible] def V6 :fB aI Unit→dx
 | .ok r=>.ret (.tuple [])
 | .bad e=>.panic (.iface 181 (.agg [iP e.code]))
theorem bO (ok1:Bool) (e1:Int) {rX:fB aI Unit} (hf:gK ok1 e1=some rX) (h:Q (V6 rX) τ):PC 181 [.bool ok1,iP e1] τ Q:=by
 unfold gK at hf; refine BN 8 [] [0,1] Tryz.func181 Z Z Z Z Z (V 2 Z (C hf Z (fun h1 hf=>?_) fun h1 hf=>?_))
 ·
  rcases bQ hf with ⟨e2,h2,hf⟩ | ⟨_,h2,hf⟩
  · refine W 1 Z (CL Z (ER _ h2 ?_)); cases hf; exact ⟨Z,[],List.nil_sublist _,h⟩
  refine W 1 Z (CL Z (ER _ h2 ?_)); cases hf; exact N 0 Z (ZN Z h)
 cases hf; exact M 0 Z (ZN Z h)
theorem A8 (s1:List Str) (v1:Str) {r0:Int} (hf:oO s1 v1=some r0) (h:Q (.ret (iP r0)) τ):PC 236 [sP s1,.str v1] τ Q:=by
 unfold oO at hf; refine BN 19 [.tmp 4] [0,1] Tryz.func236 Z Z Z Z Z (W 2 Z (AS Z (AO.aO (l:=s1) Z Z Z Z jm Z Z (J 1 Z (JY (fun i1=>[(0,sP s1),(1,.str v1),(7,iP (s1.length:Int)),(8,iP i1)]) (fun i1=>[]) (fun bX i1=>kr s1 v1 bX i1=some r0) BIG 0 Z Z hf (fun _ hz=>bT hz) ?_))))); intro bX i1 hf; rw [kr] at hf; refine V 1 Z (C hf Z (fun h1 hf=>?_) fun h1 hf=>?_)
 ·
  refine B1 hf fun e1 h2 hf=>W 5 Z (AS Z (AO.aP h2 Z Z Z Z jm Z Z (J 2 Z (C hf Z (fun h3 hf=>?_) fun h3 hf=>?_))))
  · cases hf; exact M 2 Z (Y Z h)
  exact M 2 Z ⟨(cZ (i1 + 1)),Z,Z,Z,hf⟩
 cases hf; exact M 1 Z (Y Z h)
abbrev Lc (lH:ah→Option ah):Prop:=∀ (tO:ah) {aZ:ah},lH tO=some aZ→∀ {τ:List bf} {Q:dx→List bf→Prop} (h:Q (.ret (.agg (aN aZ))) τ),PC 237 [.agg (aN tO)] τ Q
theorem SH (lH) (Pw:Lc lH) (v1:ah) {r0:ah} (hf:Bd lH v1=some r0) (h:Q (.ret (.agg (aN r0))) τ):PC 237 [.agg (aN v1)] τ Q:=by
 unfold Bd at hf; refine BN 28 [.cell 2 42] [0] Tryz.func237 Z Z Z Z Z (W 1 Z (AS Z (AO.aC Z gY (fun b2=>(U 1 Z (AS Z (AO.aC Z gY (fun b3=>?_)))))))); refine B1 hf fun x1 h1 hf=>Rr 3 [0] Z Z (CL Z (nO _ h1 (Rr 6 [0,0] Z Z (AS Z (AO.aO (l:=v1.aW) Z Z Z Z iK Z (ah.aB _) ?_))))); refine J 1 Z (AW.row 6 42 (V5 (fun x2 bn v2=>[(2,pP b2),(3,pP b3),(13,.list (ah.aM v1.aW)),(14,iP (v1.aW.length:Int)),(15,iP x2)]) (fun x2 bn v2=>[.row v2 (ah.aM bn.aW).length 6 42,.box b3 [iP bn.kind,.bool bn.eB,iP bn.gI,.str bn.fM,.own v2 (ah.aM bn.aW),sP bn.keys],.box b2 [iP 0,.bool false,iP 0,.str ([]:Str),.own (.slice none 0 0) [],.own (.slice none 0 0) []]]) (fun bX x2 bn v2=>vK lH v1 bX x2 bn=some r0) BIG 0 (ah.mk v1.kind v1.eB v1.gI v1.fM [] x1) (.slice none 0 0) Z Z hf (fun _ _ _ hz=>bT hz) ?_)); intro bX x2 bn v2 hf; rw [vK] at hf; refine V 1 Z (C hf Z (fun h2 hf=>?_) fun h2 hf=>?_)
 ·
  refine B1 hf fun e1 h3 hf=>W 0 Z (AS Z (AO.aP h3 Z Z (ah.aB _) Z iK (ah.aD _) Z (U 1 Z (AS Z (AO.aC Z gY (fun b5=>(Rw 1 [0] Z Z (AW.draw 5 mixed (by kernel_rfl) Z ?_)))))))); refine Ev.cs bC 1 Z (Ev.cons Z Z Z (AO.aR (i:=2) Z Z Z IJ Z Z zg) (Ev.cons Z Z Z (AO.aR (i:=0) Z Z Z mK Z Z zg) ?_)); refine B1 hf fun x3 h4 hf=>Ev.cons rfl rfl rfl (AO.call rfl _ rfl rfl abp (Pw _ h4 ⟨rfl,rfl⟩)) (Ev.cons rfl rfl rfl (AO.bq (ah.aM [x3]) rfl yY rfl rfl rfl (by first | rfl | simp only [List.map,ah.aD,ah.aM]) ⟨rfl,rfl⟩) ?_)
  refine Ev.nil ?_; show AR _ _ _ _ _ _ _ _; refine B1 hf fun x4 h5 hf=>AS Z (AO.eZ (i:=1) (l:=bn.aW) (m:=[x3]) h5 Z Z Z Z Z Z Z yY iK (ah.aB _) (ah.aB _) (ah.aB _).symm (ah.bG) (ah.cells_one) (by decide) (fun v3 s1 hs1=>?_)); cases hs1; refine Rn 4 [2] Z Z (AR.drop1 ?_); exact N 0 Z ⟨(cZ (x2 + 1)),(ah.mk bn.kind bn.eB bn.gI bn.fM x4 bn.keys),v3,Z,Z,Z,hf⟩
 cases hf; exact Wx 2 [1,2] Z Z (ZC [2] Z Z h)
theorem S9 :∀ k:Nat,(Lc (mG k)):=by
 intro k
 induction k with
 | zero=>exact fun _ _ hz=>by first | cases hz | (unfold mG at hz; cases hz)
 | succ k ih=>exact fun tO aZ hz τ Q hq=>SH (mG k) ih tO hz hq
theorem K3 (tO:ah) {aZ:ah} (hf:yV tO=some aZ) (h:Q (.ret (.agg (aN aZ))) τ):PC 237 [.agg (aN tO)] τ Q:=
 ((S9 BIG)) tO hf h
theorem O5 (v1:ah) (key1:Str) {r0:ah} {r1:Bool} (hf:J9 v1 key1=some (r0,r1)) (h:Q (.ret (.tuple [.agg (aN r0),.bool r1])) τ):PC 206 [.agg (aN v1),.str key1] τ Q:=by
 unfold J9 at hf; refine BN 32 [.cell 4 42,.tmp 5] [0,1] Tryz.func206 Z Z Z Z Z (W 1 Z (AS Z (AO.aC Z gY (fun b4=>?_)))); refine B1 hf fun i1 h1 hf=>U 4 Z (CL Z (A8 _ _ h1 (U 5 Z (On 3 14 17 [2,4,6] (decide (i1 < 0)) Z Z Z Z (U 1 Z (AR.or 6 18 24 [2,4,6] (x:=(decide ((v1.aW.length:Int)≤i1))) Z Z (fun h3=>?_) (fun h3=>?_) ?_))))))
 · refine Is 18 h3 Z (U 3 Z (GO Z (AO.aO (l:=v1.aW) Z Z Z Z iK Z (ah.aB _) ?_))); exact fI 2 Z (En [24,2,4,6] Z)
 · refine Is 18 h3 Z ?_; exact fI 6 Z (En [24,2,4,6] Z)
 refine J 0 Z (C hf Z (fun h4 hf=>?_) fun h4 hf=>?_)
 · cases hf; exact Wx 3 [0] Z Z (ZC [0] Z Z h)
 refine B1 hf fun e1 h5 hf=>W 3 Z (AS Z (AO.aP h5 Z Z (ah.aB _) Z iK (ah.aD _) Z ?_)); refine B1 hf fun x1 h6 hf=>U 1 Z (CL Z (K3 _ h6 ?_)); cases hf; exact Rx 2 [0] Z Z (ZC [0] Z Z h)
@[reducible] def UW :fB aI ah→dx
 | .ok r=>.ret (.agg (aN r))
 | .bad e=>.panic (.iface 181 (.agg [iP e.code]))
theorem Db (m1:ah) (key1:ah) {rX:fB aI ah} (hf:GI m1 key1=some rX) (h:Q (UW rX) τ):PC 172 [.agg (aN m1),.agg (aN key1)] τ Q:=by
 unfold GI at hf; refine BN 24 [.cell 4 42] [0,1] Tryz.func172 Z Z Z Z Z (W 2 Z (AS Z (AO.aC Z gY (fun b4=>?_)))); refine B1 hf fun x1 h1 hf=>U 1 Z (CL Z (lD _ _ h1 ?_)); refine B1 hf fun b1 h3 hf=>U 1 Z (AR.fK 3 9 12 true [2,3,4] b1 Z Z (fun h2=>?_) (fun h2=>?_) ?_)
 · refine IT 9 h2 h3 Z fun h3=>?_; refine BR h3 fun x2 h4 h3=>?_; refine U 1 Z (GO Z (AO.call Z _ Z Z NS (lD _ _ h4 ?_))); cases h3; exact fI 1 Z (En [12,2,3,4] Z)
 · refine IF 9 h2 h3 Z fun h3=>?_; cases h3; exact fI 3 Z (En [12,2,3,4] Z)
 rcases bQ hf with ⟨e1,h5,hf⟩ | ⟨_,h5,hf⟩
 · refine CL Z (bO _ _ h5 ?_); cases hf; exact ⟨Z,[],List.nil_sublist _,h⟩
 refine CL Z (bO _ _ h5 ?_); obtain ⟨x3,ok1,h6,hf⟩:=bP hf; refine U 3 Z (CL Z (O5 _ _ h6 (U 3 Z (AS Z (AO.aC Z gY (fun b5=>?_)))))); rcases bQ hf with ⟨e2,h7,hf⟩ | ⟨_,h7,hf⟩
 · refine Rr 3 [0] Z Z (CL Z (bO _ _ h7 ?_)); cases hf; exact ⟨Z,[],List.nil_sublist _,h⟩
 refine Rr 3 [0] Z Z (CL Z (bO _ _ h7 ?_)); cases hf; exact Rx 2 [0,1] Z Z (ZC [1] Z Z h)
@[reducible] def Qf :fB aI ah→dx
 | .ok r=>.ret (.agg (aN r))
 | .bad e=>.panic (.iface 181 (.agg [iP e.code]))
theorem JN (a1:ah) (i1:ah) {rX:fB aI ah} (hf:GJ a1 i1=some rX) (h:Q (Qf rX) τ):PC 174 [.agg (aN a1),.agg (aN i1)] τ Q:=by
 unfold GJ at hf; refine BN 32 [.cell 4 42] [0,1] Tryz.func174 Z Z Z Z Z (W 2 Z (AS Z (AO.aC Z gY (fun b4=>?_)))); refine B1 hf fun x1 h1 hf=>U 1 Z (CL Z (lD _ _ h1 ?_)); refine B1 hf fun b1 h3 hf=>U 1 Z (AR.fK 3 7 10 true [2,3,4] b1 Z Z (fun h2=>?_) (fun h2=>?_) ?_)
 · refine IT 7 h2 h3 Z fun h3=>?_; refine BR h3 fun x2 h4 h3=>?_; refine U 1 Z (GO Z (AO.call Z _ Z Z NS (lD _ _ h4 ?_))); cases h3; exact fI 1 Z (En [10,2,3,4] Z)
 · refine IF 7 h2 h3 Z fun h3=>?_; cases h3; exact fI 3 Z (En [10,2,3,4] Z)
 refine J 0 Z (C hf Z (fun h5 hf=>?_) fun h5 hf=>?_)
 ·
  refine W 4 Z (AR.and 7 14 21 [2,3,4] (x:=(decide (i1.gI < (a1.aW.length:Int)))) Z Z (fun h6=>?_) (fun h6=>?_) ?_)
  · refine Is 14 h6 Z (U 4 Z (GO Z (AO.aO (l:=a1.aW) Z Z Z Z iK Z (ah.aB _) ?_))); exact fI 2 Z (En [21,2,3,4] Z)
  · refine Is 14 h6 Z ?_; exact fI 7 Z (En [21,2,3,4] Z)
  rcases bQ hf with ⟨e1,h7,hf⟩ | ⟨_,h7,hf⟩
  · refine CL Z (bO _ _ h7 ?_); cases hf; exact ⟨Z,[],List.nil_sublist _,h⟩
  refine CL Z (bO _ _ h7 ?_); refine B1 hf fun e2 h8 hf=>U 4 Z (AS Z (AO.aP h8 Z Z (ah.aB _) Z iK (ah.aD _) Z ?_)); cases hf; exact Rx 2 [0] Z Z (ZC [0] Z Z h)
 rcases bQ hf with ⟨e3,h9,hf⟩ | ⟨x3,h9,hf⟩
 · refine W 2 Z (CL Z (Db _ _ h9 ?_)); cases hf; exact ⟨Z,[],List.nil_sublist _,h⟩
 refine W 2 Z (CL Z (Db _ _ h9 ?_)); cases hf; exact Rx 1 [0] Z Z (ZC [0] Z Z h)
theorem VP (name1:Str) {r0:Int} (hf:LZ name1=some r0) (h:Q (.ret (iP r0)) τ):PC 207 [.str name1] τ Q:=by
 unfold LZ at hf; refine BN 18 [.tmp 2] [0] Tryz.func207 Z Z Z Z Z (V 4 Z (C hf Z (fun h1 hf=>?_) fun h1 hf=>?_))
 ·
  refine V 0 Z (AW.cond Z (fun h2=>?_) (fun h2=>?_))
  · cases hf; exact M 1 Z (Y Z h)
  cases h1.symm.trans h2
 refine V 2 Z (C hf Z (fun h3 hf=>?_) fun h3 hf=>?_)
 ·
  refine V 0 Z (AW.cond Z (fun h4=>?_) (fun h4=>?_))
  · cases hf; exact M 1 Z (Y Z h)
  cases h3.symm.trans h4
 refine V 2 Z (C hf Z (fun h5 hf=>?_) fun h5 hf=>?_)
 ·
  refine V 0 Z (AW.cond Z (fun h6=>?_) (fun h6=>?_))
  · cases hf; exact M 1 Z (Y Z h)
  cases h5.symm.trans h6
 refine V 2 Z (C hf Z (fun h7 hf=>?_) fun h7 hf=>?_)
 ·
  refine V 0 Z (AW.cond Z (fun h8=>?_) (fun h8=>?_))
  · cases hf; exact M 1 Z (Y Z h)
  cases h7.symm.trans h8
 refine V 2 Z (C hf Z (fun h9 hf=>?_) fun h9 hf=>?_)
 ·
  refine V 0 Z (AW.cond Z (fun h10=>?_) (fun h10=>?_))
  · cases hf; exact M 1 Z (Y Z h)
  cases h9.symm.trans h10
 refine V 2 Z (C hf Z (fun h11 hf=>?_) fun h11 hf=>?_)
 · cases hf; exact M 1 Z (Y Z h)
 refine V 2 Z (C hf Z (fun h12 hf=>?_) fun h12 hf=>?_)
 ·
  refine V 0 Z (AW.cond Z (fun lZ=>?_) (fun lZ=>?_))
  · cases hf; exact M 1 Z (Y Z h)
  cases h12.symm.trans lZ
 refine V 2 Z (C hf Z (fun nu hf=>?_) fun nu hf=>?_)
 ·
  refine V 0 Z (AW.cond Z (fun tq=>?_) (fun tq=>?_))
  · cases hf; exact M 1 Z (Y Z h)
  cases nu.symm.trans tq
 refine V 2 Z (C hf Z (fun h16 hf=>?_) fun h16 hf=>?_)
 ·
  refine V 0 Z (AW.cond Z (fun Ao=>?_) (fun Ao=>?_))
  · cases hf; exact M 1 Z (Y Z h)
  cases h16.symm.trans Ao
 refine V 2 Z (C hf Z (fun h18 hf=>?_) fun h18 hf=>?_)
 ·
  refine V 0 Z (AW.cond Z (fun h19=>?_) (fun h19=>?_))
  · cases hf; exact M 1 Z (Y Z h)
  cases h18.symm.trans h19
 refine V 2 Z (C hf Z (fun h20 hf=>?_) fun h20 hf=>?_)
 ·
  refine V 0 Z (AW.cond Z (fun h21=>?_) (fun h21=>?_))
  · cases hf; exact M 1 Z (Y Z h)
  cases h20.symm.trans h21
 refine V 2 Z (C hf Z (fun h22 hf=>?_) fun h22 hf=>?_)
 · cases hf; exact M 1 Z (Y Z h)
 cases hf; exact M 1 Z (Y Z h)
theorem wL (n1:Int) {r0:ah} (hf:uj n1=some r0) (h:Q (.ret (.agg (aN r0))) τ):PC 211 [iP n1] τ Q:=by
 unfold uj at hf; refine BN 5 [.cell 2 42] [0] Tryz.func211 Z Z Z Z Z (W 0 Z (AS Z (AO.aC Z gY (fun b2=>?_)))); cases hf; exact Rx 3 [0] Z Z (ZC [0] Z Z h)
theorem Nn (l1:List ah) {r0:ah} (hf:GK l1=some r0) (h:Q (.ret (.agg (aN r0))) τ):PC 179 [.list (ah.aM l1)] τ Q:=by
 unfold GK at hf; refine BN 5 [.cell 2 42] [0] Tryz.func179 Z Z Z Z Z (W 0 Z (AS Z (AO.aC Z gY (fun b2=>?_)))); cases hf; exact Rx 3 [0] Z Z (ZC [0] Z Z h)
theorem Ow (h:Q (.ret (.agg [iP 4,.bool false,iP 0,.str ([]:Str),.own (.slice none 0 0) [],.own (.slice none 0 0) []])) τ):PC 179 [.own (.slice none 0 0) []] τ Q:=by
 refine AC.none (AC.Bz 5 [.cell 2 42] [0] Tryz.func179 Z Z Z Z Z (AW.sr (AR.step Z Z Z (AO.aC Z gY (fun b2=>?_))))); refine AR.nil [0,2] Z (AW.sr (cs 1 Z (AR.step Z Z Z (AO.build Z gY U8 Z ?_)))); refine AR.bF Z Z (AO.bR (i:=0) Z Z Z mK Z Z Z Z Z (AR.nil [2] Z (AW.ret ?_))); exact ⟨rfl,_,⟨_,_,rfl,⟨_,_,0,_,_,rfl,rfl,mK,rfl⟩,rfl⟩,[],List.nil_sublist _,h⟩
theorem O8 (l1:List Str) {r0:ah} (hf:Kk l1=some r0) (h:Q (.ret (.agg (aN r0))) τ):PC 238 [sP l1] τ Q:=by
 unfold Kk at hf; refine BN 22 [.cell 2 42] [0] Tryz.func238 Z Z Z Z Z (W 0 Z (AS Z (AO.aC Z gY (fun b2=>(U 0 Z (AS Z (AO.aeb Z _ Z Z aeK (Ow (AS Z (AO.aC Z gY (fun b3=>?_))))))))))); refine Rr 2 [0] Z Z (AS Z (AO.aO (l:=l1) Z Z Z Z jm Z Z ?_)); refine J 1 Z (AW.row 6 42 (AW.settle [2,3,7,8,9] Z (AW.Ct 1 [false,false,false,false,false,true] Z (V5 (fun x1 bn v1=>[(2,pP b2),(3,pP b3),(7,sP l1),(8,iP (l1.length:Int)),(9,iP x1)]) (fun x1 bn v1=>[.row v1 (ah.aM bn.aW).length 6 42,.box b3 [iP bn.kind,.bool bn.eB,iP bn.gI,.str bn.fM,.own v1 (ah.aM bn.aW),sP bn.keys],.box b2 [iP 0,.bool false,iP 0,.str ([]:Str),.own (.slice none 0 0) [],.own (.slice none 0 0) []]]) (fun bX x1 bn v1=>CZ l1 bX x1 bn=some r0) BIG 0 (ah.mk 4 false 0 ([]:Str) [] []) (.slice none 0 0) Z Z hf (fun _ _ _ hz=>bT hz) ?_)))); intro bX x1 bn v1 hf; rw [CZ] at hf; refine V 1 Z (C hf Z (fun h1 hf=>?_) fun h1 hf=>?_)
 ·
  refine B1 hf fun s1 h2 hf=>W 0 Z (AS Z (AO.aP h2 Z Z Z Z jm Z Z (J 2 Z (AW.draw 5 mixed (by kernel_rfl) Z ?_)))); refine Ev.cs bC 1 Z (Ev.cons Z Z Z (AO.aR (i:=1) Z Z Z IJ Z Z zg) (Ev.cs bC 1 Z ?_)); refine B1 hf fun x2 h3 hf=>Ev.cons rfl rfl rfl (AO.call rfl _ rfl rfl abx (wK _ h3 ⟨rfl,rfl⟩)) (Ev.cons rfl rfl rfl (AO.bq (ah.aM [x2]) rfl yY rfl rfl rfl (by first | rfl | simp only [List.map,ah.aD,ah.aM]) ⟨rfl,rfl⟩) ?_); refine Ev.nil ?_
  show AR _ _ _ _ _ _ _ _; refine B1 hf fun x3 h4 hf=>AS Z (AO.eZ (i:=0) (l:=bn.aW) (m:=[x2]) h4 Z Z Z Z Z Z Z yY iK (ah.aB _) (ah.aB _) (ah.aB _).symm (ah.bG) (ah.cells_one) (by decide) (fun v2 s2 hs2=>?_)); cases hs2; exact Rx 4 [1] Z Z ⟨(cZ (x1 + 1)),(ah.mk bn.kind bn.eB bn.gI bn.fM x3 bn.keys),v2,Z,Z,Z,hf⟩
 cases hf; exact Wx 2 [1,2] Z Z (ZC [2] Z Z h)
theorem G6 (b1:Bool) {r0:Str} (hf:vY b1=some r0) (h:Q (.ret (.str r0)) τ):PC 164 [.bool b1] τ Q:=by
 unfold vY at hf; refine BN 4 [.tmp 2] [0] Tryz.func164 Z Z Z Z Z (V 2 Z (C hf Z (fun h1 hf=>?_) fun h1 hf=>?_))
 · cases hf; exact M 1 Z (Y Z h)
 cases hf; exact M 1 Z (Y Z h)
theorem JD (b1:Bool) {r0:Str} (hf:strconv_FormatBool b1=some r0) (h:Q (.ret (.str r0)) τ):PC 137 [.bool b1] τ Q:=by
 unfold strconv_FormatBool at hf; refine BN 5 [.tmp 2] [0] Tryz.func137 Z Z Z Z Z ?_; refine BR hf fun x1 h1 hf=>?_; refine W 2 Z (CL Z (G6 _ h1 ?_)); cases hf; exact N 1 Z (Y Z h)
section
variable [Am]
def Z7 :Go.Shelf.Ren:=⟨fun | 171=>138 | 243=>165 | 246=>199 | 283=>231 | 284=>232 | 285=>233 | 286=>234 | 129=>264 | 317=>263 | 318=>265 | 319=>266 | 320=>267 | 337=>294 | 338=>295 | n=>n,fun | 3=>3 | 9=>9 | 2=>2 | 4=>4 | 171=>251 | 0=>0 | 53=>252 | 37=>73 | 5=>5 | 173=>255 | 212=>275 | 51=>276 | 20=>20 | 213=>277 | 46=>278 | 232=>316 | 233=>317 | n=>n,fun | 17=>1 | 18=>4 | 19=>5 | n=>n⟩
theorem ahc :Go.Proofs.LaysM.n171 Tryz.prog Z7:=by repeat' first | (intros; kernel_rfl) | constructor | decide
theorem JC (n1:Int) {r0:Str} (hf:strconv_Itoa n1=some r0) (h:Q (.ret (.str r0)) τ):PC 138 [iP n1] τ Q:=by
 unfold strconv_Itoa at hf; split at hf
 case isFalse=>cases hf
 rename_i hg; cases hf; refine AC.none ?_; exact AC.itoa Am.hD ahc hg.1 hg.2 Am.pow h
end
theorem Fq (s1:Str) {r0:Str} (hf:Bt s1=some r0) (h:Q (.ret (.str r0)) τ):PC 139 [.str s1] τ Q:=by
 unfold Bt at hf; refine BN 54 [.tmp 2] [0] Tryz.func139 Z Z Z Z Z (W 1 Z (AS Z (AO.Dr (eu:=5) Z Ns Z (fun b3=>?_)))); refine B1 hf fun b1 h1 hf=>U 0 Z (CL Z (AC.one 0 Z (iC h1 (fun v1=>⟨_,Z,(J 1 Z (V5 (fun i1 b2 v2=>[(0,.str s1),(3,pP b3),(4,iP i1)]) (fun i1 b2 v2=>[.K_ b3 v2 167 5 b2]) (fun bX i1 b2 v2=>nY s1 bX i1 b2=some r0) BIG 0 b1 v1 Z Z hf (fun _ _ _ hz=>bT hz) ?_))⟩)))); intro bX i1 b2 v2 hf; rw [nY] at hf; refine W 2 Z (AS Z (AO.cK Z Z Z Z dR Z (J 1 Z (C hf Z (fun h2 hf=>?_) fun h2 hf=>?_))))
 ·
  refine B1 hf fun c1 h3 hf=>W 2 Z (AS Z (AO.fV h3 Z dR Z Z (U 4 Z (On 3 28 31 [0,3,4,5] ((c1.toNat:Int) == 92) Z Z Z Z (J 1 Z (C hf Z (fun h5 hf=>?_) fun h5 hf=>?_))))))
  · refine B1 hf fun b3 h6 hf=>W 0 Z (CL Z (AC.one 0 Z (iC h6 (fun v3=>⟨_,Z,?_⟩)))); refine B1 hf fun b4 h7 hf=>U 1 Z (CL Z (AC.one 0 Z (iC h7 (fun v4=>⟨_,Z,?_⟩)))); exact N 3 Z ⟨(cZ (i1 + 1)),b4,v4,Z,Z,Z,hf⟩
  refine V 3 Z (C hf Z (fun h8 hf=>?_) fun h8 hf=>?_)
  · refine B1 hf fun b5 h9 hf=>W 0 Z (CL Z (AC.one 0 Z (jH h9 (fun v5=>⟨_,Z,?_⟩)))); exact N 3 Z ⟨(cZ (i1 + 1)),b5,v5,Z,Z,Z,hf⟩
  refine V 3 Z (C hf Z (fun h10 hf=>?_) fun h10 hf=>?_)
  · refine B1 hf fun b6 h11 hf=>W 0 Z (CL Z (AC.one 0 Z (jH h11 (fun v6=>⟨_,Z,?_⟩)))); exact N 3 Z ⟨(cZ (i1 + 1)),b6,v6,Z,Z,Z,hf⟩
  refine W 3 Z (An 3 46 49 [0,3,4,5] (decide ((c1.toNat:Int)≤126)) Z Z Z Z (J 1 Z (C hf Z (fun lZ hf=>?_) fun lZ hf=>?_)))
  · refine B1 hf fun b7 nu hf=>W 1 Z (CL Z (AC.one 0 Z (iC nu (fun v7=>⟨_,Z,?_⟩)))); exact N 3 Z ⟨(cZ (i1 + 1)),b7,v7,Z,Z,Z,hf⟩
  refine B1 hf fun b8 tq hf=>W 0 Z (CL Z (AC.one 0 Z (jH tq (fun v8=>⟨_,Z,(U 1 Z (AS Z (AO.u8_quo c1 16 Z Z Z Z Z (by decide) ?_)))⟩)))); refine B1 hf fun x1 h16 hf=>AS Z (AO.fV h16 Z dR Z Z ?_); refine B1 hf fun b9 Ao hf=>CL Z (AC.one 0 Z (iC Ao (fun v9=>⟨_,Z,(U 1 Z (AS Z (AO.XW c1 16 Z Z Z Z Z (by decide) ?_)))⟩))); refine B1 hf fun x2 h18 hf=>AS Z (AO.fV h18 Z dR Z Z ?_); refine B1 hf fun b10 h19 hf=>CL Z (AC.one 0 Z (iC h19 (fun v10=>⟨_,Z,?_⟩))); exact N 3 Z ⟨(cZ (i1 + 1)),b10,v10,Z,Z,Z,hf⟩
 refine BR hf fun b11 h20 hf=>?_; refine W 0 Z (CL Z (AC.one 0 Z (iC h20 (fun v11=>⟨_,Z,(U 0 Z (CL Z (AC.Kc 0 Z (w_ ?_))))⟩)))); cases hf; exact N 1 Z (Y Z h)
section
variable [Am]
def Uu :Go.Shelf.Ren:=⟨fun | 156=>103 | 165=>143 | 166=>141 | 169=>142 | 240=>166 | 241=>167 | 276=>200 | 277=>201 | n=>n,fun | 31=>40 | 9=>9 | 3=>3 | 4=>4 | 0=>0 | 20=>20 | 72=>167 | 76=>171 | 70=>165 | 37=>73 | 75=>169 | 127=>196 | 164=>227 | 5=>5 | 80=>173 | n=>n,fun | n=>n⟩
theorem joinL :Go.Proofs.Lays.n156 Tryz.prog Uu:=by repeat' first | (intros; kernel_rfl) | constructor | decide
theorem aha :Go.Proofs.Builder.Extra Tryz.prog Uu:=by repeat' first | (intros; kernel_rfl) | constructor | decide
theorem Ae (l1:List Str) (t1:Str) {r0:Str} (hf:strings_Join l1 t1=some r0) (h:Q (.ret (.str r0)) τ):PC 103 [sP l1,.str t1] τ Q:=by
 unfold strings_Join at hf; split at hf
 case isFalse=>cases hf
 rename_i hg; cases hf; refine AC.none ?_; exact AC.join Am.hD joinL aha hg.1 hg.2 h
end
section
variable [Am]
abbrev H9 (fF:ah→Option Str):Prop:=∀ (tO:ah) {aZ:Str},fF tO=some aZ→∀ {τ:List bf} {Q:dx→List bf→Prop} (h:Q (.ret (.str aZ)) τ),PC 100 [.agg (aN tO)] τ Q
theorem Pe (fF) (zU:H9 fF) (v1:ah) {r0:Str} (hf:Cc fF v1=some r0) (h:Q (.ret (.str r0)) τ):PC 100 [.agg (aN v1)] τ Q:=by
 unfold Cc at hf; refine BN 68 [.tmp 2] [0] Tryz.func100 Z Z Z Z Z (V 6 Z (C hf Z (fun h1 hf=>?_) fun h1 hf=>?_))
 · refine BR hf fun x1 h2 hf=>?_; refine W 2 Z (CL Z (JD _ h2 ?_)); cases hf; exact N 1 Z (Y Z h)
 refine V 2 Z (C hf Z (fun h3 hf=>?_) fun h3 hf=>?_)
 · refine BR hf fun x2 h4 hf=>?_; refine W 2 Z (CL Z (JC _ h4 ?_)); cases hf; exact N 1 Z (Y Z h)
 refine V 2 Z (C hf Z (fun h5 hf=>?_) fun h5 hf=>?_)
 · refine BR hf fun x3 h6 hf=>?_; refine W 2 Z (CL Z (Fq _ h6 ?_)); cases hf; exact N 1 Z (Y Z h)
 refine V 2 Z (C hf Z (fun h7 hf=>?_) fun h7 hf=>?_)
 ·
  refine V 0 Z (AW.cond Z (fun h8=>?_) (fun h8=>?_))
  ·
   refine W 3 Z (AS Z (AO.aO (l:=v1.aW) Z Z Z Z iK Z (ah.aB _) (J 1 Z (AW.row 1 9 (V5 (fun oQ v2 i1=>[(1,.ref (aN v1)),(3,.own v2 (List.map nD oQ)),(28,.list (ah.aM v1.aW)),(29,iP (v1.aW.length:Int)),(30,iP i1)]) (fun oQ v2 i1=>[.row v2 (List.map nD oQ).length 1 9]) (fun bX oQ v2 i1=>rU fF v1 bX oQ i1=some r0) BIG [] (.slice none 0 0) 0 Z Z hf (fun _ _ _ hz=>bT hz) ?_))))); intro bX oQ v2 i1 hf; rw [rU] at hf; refine V 1 Z (C hf Z (fun h9 hf=>?_) fun h9 hf=>?_)
   ·
    refine B1 hf fun e1 h10 hf=>W 1 Z (AS Z (AO.aP h10 Z Z (ah.aB _) Z iK (ah.aD _) Z (U 1 Z (AS Z (AO.aC Z gY (fun b5=>(Rw 5 [0] Z Z (C hf Z (fun h11 hf=>?_) fun h11 hf=>?_))))))))
    ·
     refine AW.draw 12 mixed (by kernel_rfl) Z ?_; refine Ev.cs bC 4 Z ?_; refine B1 hf fun e2 h12 hf=>Ev.cons Z Z Z (AO.aP h12 Z Z Z Z jm Z Z zg) (Ev.cs bC 1 Z ?_); refine B1 hf fun x4 lZ hf=>Ev.cons Z Z Z (AO.call Z _ Z Z abC (Fq _ lZ zg)) ?_; refine B1 hf fun x5 nu hf=>Ev.cons Z Z Z (AO.qC nu Z Z Z zg) (Ev.cons Z Z Z (AO.aR (i:=0) Z Z Z mK Z Z zg) ?_); refine B1 hf fun x6 tq hf=>Ev.cons Z Z Z (AO.call Z _ Z Z abG (zU _ tq zg)) ?_; refine B1 hf fun x7 h16 hf=>Ev.cons Z Z Z (AO.qC h16 Z Z Z zg) (Ev.cons Z Z Z (AO.bq (List.map nD ([x7]:List Str)) Z tH Z Z Z Z zg) (Ev.nil ?_)); show AR _ _ _ _ _ _ _ _; refine B1 hf fun LC Ao hf=>AS Z (AO.eZ (i:=1) (l:=oQ) (m:=([x7]:List Str)) Ao Z Z Z Z Z Z Z tH jm Z Z Z (fun _=>Z) (fun _=>Z) (by decide) (fun v3 s1 hs1=>?_)); cases hs1; refine fI 3 Z (AR.drop1 ?_); exact N 0 Z ⟨LC,v3,(cZ (i1 + 1)),Z,Z,Z,hf⟩
    refine B1 hf fun x8 h18 hf=>Wr 2 [0] Z Z (CL Z (zU _ h18 (AS Z (AO.bq (List.map nD ([x8]:List Str)) Z tH Z Z Z Z ?_)))); refine B1 hf fun LB h19 hf=>AS Z (AO.eZ (i:=1) (l:=oQ) (m:=([x8]:List Str)) h19 Z Z Z Z Z Z Z tH jm Z Z Z (fun _=>Z) (fun _=>Z) (by decide) (fun v4 s2 hs2=>?_)); cases hs2; refine fI 3 Z (AR.drop1 ?_); exact N 0 Z ⟨LB,v4,(cZ (i1 + 1)),Z,Z,Z,hf⟩
   refine B1 hf fun s3 h20 hf=>W 1 Z (CL Z (Ae _ _ h20 (J 4 Z (C hf Z (fun h21 hf=>?_) fun h21 hf=>?_))))
   · refine B1 hf fun x9 h22 hf=>W 1 Z (AS Z (AO.qC h22 Z Z Z ?_)); refine BR hf fun Il h23 hf=>?_; refine AS Z (AO.qC h23 Z Z Z ?_); cases hf; exact N 1 Z (Y Z h)
   refine B1 hf fun Li Ti hf=>W 1 Z (AS Z (AO.qC Ti Z Z Z ?_)); refine BR hf fun SB Ux hf=>?_; refine AS Z (AO.qC Ux Z Z Z ?_); cases hf; exact N 1 Z (Y Z h)
  cases h7.symm.trans h8
 refine V 2 Z (C hf Z (fun Uw hf=>?_) fun Uw hf=>?_)
 ·
  refine W 3 Z (AS Z (AO.aO (l:=v1.aW) Z Z Z Z iK Z (ah.aB _) (J 1 Z (AW.row 1 9 (V5 (fun E8 v5 i2=>[(1,.ref (aN v1)),(3,.own v5 (List.map nD E8)),(28,.list (ah.aM v1.aW)),(29,iP (v1.aW.length:Int)),(30,iP i2)]) (fun E8 v5 i2=>[.row v5 (List.map nD E8).length 1 9]) (fun Jj E8 v5 i2=>wN fF v1 Jj E8 i2=some r0) BIG [] (.slice none 0 0) 0 Z Z hf (fun _ _ _ hz=>bT hz) ?_))))); intro Jj E8 v5 i2 hf; rw [wN] at hf; refine V 1 Z (C hf Z (fun h27 hf=>?_) fun h27 hf=>?_)
  ·
   refine B1 hf fun e3 Uv hf=>W 1 Z (AS Z (AO.aP Uv Z Z (ah.aB _) Z iK (ah.aD _) Z (U 1 Z (AS Z (AO.aC Z gY (fun ajH=>(Rw 5 [0] Z Z (AW.cond Z (fun KX=>?_) (fun KX=>?_)))))))))
   ·
    refine AW.draw 12 mixed (by kernel_rfl) Z ?_; refine Ev.cs bC 4 Z ?_; refine B1 hf fun e4 NZ hf=>Ev.cons Z Z Z (AO.aP NZ Z Z Z Z jm Z Z zg) (Ev.cs bC 1 Z ?_); refine B1 hf fun YB h31 hf=>Ev.cons Z Z Z (AO.call Z _ Z Z abC (Fq _ h31 zg)) ?_; refine B1 hf fun Zv h32 hf=>Ev.cons Z Z Z (AO.qC h32 Z Z Z zg) (Ev.cons Z Z Z (AO.aR (i:=0) Z Z Z mK Z Z zg) ?_); refine B1 hf fun XQ XJ hf=>Ev.cons Z Z Z (AO.call Z _ Z Z abG (zU _ XJ zg)) ?_; refine B1 hf fun Qg h34 hf=>Ev.cons Z Z Z (AO.qC h34 Z Z Z zg) (Ev.cons Z Z Z (AO.bq (List.map nD ([Qg]:List Str)) Z tH Z Z Z Z zg) (Ev.nil ?_)); show AR _ _ _ _ _ _ _ _; refine B1 hf fun X_ Y8 hf=>AS Z (AO.eZ (i:=1) (l:=E8) (m:=([Qg]:List Str)) Y8 Z Z Z Z Z Z Z tH jm Z Z Z (fun _=>Z) (fun _=>Z) (by decide) (fun v6 s4 hs4=>?_)); cases hs4; refine fI 3 Z (AR.drop1 ?_); exact N 0 Z ⟨X_,v6,(cZ (i2 + 1)),Z,Z,Z,hf⟩
   cases Uw.symm.trans KX
  refine B1 hf fun s5 Vp hf=>W 1 Z (CL Z (Ae _ _ Vp (J 4 Z (AW.cond Z (fun h37=>?_) (fun h37=>?_)))))
  · refine B1 hf fun XG h38 hf=>W 1 Z (AS Z (AO.qC h38 Z Z Z ?_)); refine BR hf fun Zu h39 hf=>?_; refine AS Z (AO.qC h39 Z Z Z ?_); cases hf; exact N 1 Z (Y Z h)
  cases Uw.symm.trans h37
 cases hf; exact M 1 Z (Y Z h)
theorem Pq :∀ k:Nat,(H9 (uz k)):=by
 intro k
 induction k with
 | zero=>exact fun _ _ hz=>by first | cases hz | (unfold uz at hz; cases hz)
 | succ k ih=>exact fun tO aZ hz τ Q hq=>Pe (uz k) ih tO hz hq
theorem Hy (tO:ah) {aZ:Str} (hf:EW tO=some aZ) (h:Q (.ret (.str aZ)) τ):PC 100 [.agg (aN tO)] τ Q:=
 ((Pq BIG)) tO hf h
end
section
variable [Am]
theorem Na (v1:ah) {r0:Str} {r1:Int} (hf:Gb v1=some (r0,r1)) (h:Q (.ret (.tuple [.str r0,iP r1])) τ):PC 191 [.agg (aN v1)] τ Q:=by
 unfold Gb at hf; refine BN 28 [.tmp 2,.tmp 3] [0] Tryz.func191 Z Z Z Z Z (W 7 Z (On 4 8 12 [1] (v1.kind == 5) Z Z Z Z (J 0 Z (C hf Z (fun h2 hf=>?_) fun h2 hf=>?_))))
 · cases hf; exact M 2 Z (Y Z h)
 refine B1 hf fun e1 h3 hf=>W 1 Z (CL Z (pU _ h3 (J 3 Z (C hf Z (fun h4 hf=>?_) fun h4 hf=>?_))))
 · cases hf; exact M 3 Z (Y Z h)
 refine V 4 Z (C hf Z (fun h5 hf=>?_) fun h5 hf=>?_)
 · cases hf; exact M 2 Z (Y Z h)
 refine V 2 Z (C hf Z (fun h6 hf=>?_) fun h6 hf=>?_)
 · cases hf; exact M 4 Z (Y Z h)
 refine B1 hf fun x1 h7 hf=>W 1 Z (CL Z (Hy _ h7 ?_)); cases hf; exact N 2 Z (Y Z h)
end
theorem K8 (s1:Str) (lo1:UInt8) (hi1:UInt8) (by1:Int) {r0:Str} (hf:EK s1 lo1 hi1 by1=some r0) (h:Q (.ret (.str r0)) τ):PC 239 [.str s1,.int .u8 (lo1.toNat:Int),.int .u8 (hi1.toNat:Int),iP by1] τ Q:=by
 unfold EK at hf; refine BN 42 [.tmp 8] [0,1,2,3] Tryz.func239 Z Z Z Z Z (W 1 Z (AS Z (AO.Dr (eu:=5) Z Ns Z (fun b9=>(J 1 Z (V5 (fun i1 b1 v1=>[(0,.str s1),(1,.int .u8 (lo1.toNat:Int)),(2,.int .u8 (hi1.toNat:Int)),(3,iP by1),(9,pP b9),(10,iP i1)]) (fun i1 b1 v1=>[.K_ b9 v1 167 5 b1]) (fun bX i1 b1 v1=>wB s1 lo1 hi1 by1 bX i1 b1=some r0) BIG 0 [] (.slice none 0 0) Z Z hf (fun _ _ _ hz=>bT hz) ?_)))))); intro bX i1 b1 v1 hf; rw [wB] at hf; refine W 2 Z (AS Z (AO.cK Z Z Z Z dR Z (J 1 Z (C hf Z (fun h1 hf=>?_) fun h1 hf=>?_))))
 ·
  refine B1 hf fun x1 h2 hf=>W 2 Z (AS Z (AO.fV h2 Z dR Z Z ?_)); refine B1 hf fun b2 h4 hf=>U 3 Z (AR.fK 6 22 28 true [0,1,2,3,9,10] b2 Z Z (fun h3=>?_) (fun h3=>?_) ?_)
  · refine IT 22 h3 h4 Z fun h4=>?_; refine B1 h4 fun x2 h5 h4=>U 2 Z (GO Z (AO.fV h5 Z dR Z Z ?_)); cases h4; exact fI 3 Z (En [28,0,1,2,3,9,10] Z)
  · refine IF 22 h3 h4 Z fun h4=>?_; cases h4; exact fI 6 Z (En [28,0,1,2,3,9,10] Z)
  refine J 0 Z (C hf Z (fun h6 hf=>?_) fun h6 hf=>?_)
  · refine B1 hf fun x3 h7 hf=>W 2 Z (AS Z (AO.fV h7 Z dR Z Z (AS Z (AO.FT Z Wd Qs Z Z (U 2 Z (AS Z (AO.Xl Z Qs Wd Z ?_))))))); refine B1 hf fun b3 h8 hf=>CL Z (AC.one 0 Z (iC h8 (fun v2=>⟨_,Z,?_⟩))); exact N 3 Z ⟨(cZ (i1 + 1)),b3,v2,Z,Z,Z,hf⟩
  refine B1 hf fun x4 h9 hf=>W 2 Z (AS Z (AO.fV h9 Z dR Z Z ?_)); refine B1 hf fun b4 h10 hf=>CL Z (AC.one 0 Z (iC h10 (fun v3=>⟨_,Z,?_⟩))); exact N 3 Z ⟨(cZ (i1 + 1)),b4,v3,Z,Z,Z,hf⟩
 refine W 0 Z (CL Z (AC.Kc 0 Z (w_ ?_))); cases hf; exact N 1 Z (Y Z h)
section
variable [Am]
def aat :Go.Shelf.Ren:=⟨fun | 172=>268 | 244=>296 | 245=>297 | 247=>318 | 279=>319 | 280=>320 | 281=>321 | 282=>322 | 287=>336 | 316=>337 | 171=>138 | 205=>338 | 321=>342 | 322=>343 | 243=>165 | 246=>199 | 283=>231 | 284=>232 | 285=>233 | 286=>234 | 129=>264 | 317=>263 | 318=>265 | 319=>266 | 320=>267 | 337=>294 | 338=>295 | n=>n,fun | 9=>9 | 3=>3 | 75=>169 | 76=>171 | 4=>4 | 5=>5 | 167=>318 | 37=>73 | 0=>0 | 85=>319 | 2=>2 | 168=>321 | 53=>252 | 175=>334 | 46=>278 | 210=>337 | 127=>196 | 145=>346 | 143=>344 | 21=>21 | 171=>251 | 173=>255 | 212=>275 | 51=>276 | 20=>20 | 213=>277 | 232=>316 | 233=>317 | 80=>173 | n=>n,fun | 15=>6 | 16=>7 | 17=>1 | 18=>4 | 19=>5 | n=>n⟩
theorem ahK :Go.Proofs.LaysC.n172 Tryz.prog aat:=by repeat' first | (intros; kernel_rfl) | constructor | decide
theorem Eb (s1:Str) {r0:Int} {r1:Option Nat} (hf:strconv_Atoi s1=some (r0,r1)) (h:Q (.ret (.tuple [iP r0,.err r1])) τ):PC 268 [.str s1] τ Q:=by
 unfold strconv_Atoi at hf; split at hf
 case isFalse=>cases hf
 rename_i hg; cases hf; refine AC.none ?_; exact AC.atoi Am.hD ahK hg Z Am.syn Am.rng h
end
section
variable [Am]
theorem TQ (s1:Str) {r0:Int} {r1:Bool} (hf:Jl s1=some (r0,r1)) (h:Q (.ret (.tuple [iP r0,.bool r1])) τ):PC 240 [.str s1] τ Q:=by
 unfold Jl at hf; refine BN 28 [.tmp 2,.tmp 3] [0] Tryz.func240 Z Z Z Z Z ?_; obtain ⟨n1,Er,h1,hf⟩:=bP hf; refine W 3 Z (CL Z (Eb _ h1 (U 6 Z (AS Z (AO.eqNil Z abX Z Z ?_))))); refine B1 hf fun b1 h3 hf=>U 1 Z (AR.fK 5 13 18 false [4] b1 Z Z (fun h2=>?_) (fun h2=>?_) ?_)
 · refine IF 13 h2 h3 Z fun h3=>?_; refine B1 h3 fun x1 h4 h3=>U 1 Z (GO Z (AO.call Z _ Z Z aeW (JC _ h4 ?_))); cases h3; exact fI 3 Z (En [18,4] Z)
 · refine IT 13 h2 h3 Z fun h3=>?_; cases h3; exact fI 5 Z (En [18,4] Z)
 refine U 1 Z (On 3 19 22 [4] (decide (n1 < (-9007199254740992))) Z Z Z Z (U 1 Z (On 3 23 26 [4] (decide (9007199254740992 < n1)) Z Z Z Z (J 0 Z (C hf Z (fun h7 hf=>?_) fun h7 hf=>?_)))))
 · cases hf; exact M 2 Z (Y Z h)
 cases hf; exact M 3 Z (Y Z h)
end
section
variable [Am]
@[reducible] def XP :fB aI ah→dx
 | .ok r=>.ret (.agg (aN r))
 | .bad e=>.panic (.iface 181 (.agg [iP e.code]))
theorem Sk (name1:Str) (v1:ah) {rX:fB aI ah} (hf:RB name1 v1=some rX) (h:Q (XP rX) τ):PC 208 [.str name1,.agg (aN v1)] τ Q:=by
 unfold RB at hf; refine BN 78 [.cell 4 42] [0,1] Tryz.func208 Z Z Z Z Z (W 1 Z (AS Z (AO.aC Z gY (fun b4=>(J 3 Z (C hf Z (fun h1 hf=>?_) fun h1 hf=>?_))))))
 ·
  refine B1 hf fun x1 h2 hf=>W 1 Z (CL Z (lD _ _ h2 ?_)); refine B1 hf fun b1 h4 hf=>U 1 Z (AR.fK 3 14 17 false [3,4] b1 Z Z (fun h3=>?_) (fun h3=>?_) ?_)
  · refine IF 14 h3 h4 Z fun h4=>?_; refine BR h4 fun x2 h5 h4=>?_; refine U 1 Z (GO Z (AO.call Z _ Z Z NS (lD _ _ h5 ?_))); cases h4; exact fI 1 Z (En [17,3,4] Z)
  · refine IT 14 h3 h4 Z fun h4=>?_; cases h4; exact fI 3 Z (En [17,3,4] Z)
  refine B1 hf fun b2 h7 hf=>U 1 Z (AR.fK 3 18 21 false [3,4] b2 Z Z (fun h6=>?_) (fun h6=>?_) ?_)
  · refine IF 18 h6 h7 Z fun h7=>?_; refine BR h7 fun x3 h8 h7=>?_; refine U 1 Z (GO Z (AO.call Z _ Z Z NS (lD _ _ h8 ?_))); cases h7; exact fI 1 Z (En [21,3,4] Z)
  · refine IT 18 h6 h7 Z fun h7=>?_; cases h7; exact fI 3 Z (En [21,3,4] Z)
  rcases bQ hf with ⟨e1,h9,hf⟩ | ⟨_,h9,hf⟩
  · refine CL Z (bO _ _ h9 ?_); cases hf; exact ⟨Z,[],List.nil_sublist _,h⟩
  refine CL Z (bO _ _ h9 (U 2 Z (AS Z (AO.cK Z Z Z Z dR Z (U 2 Z (AS Z (AO.aO (l:=v1.aW) Z Z Z Z iK Z (ah.aB _) ?_))))))); refine B1 hf fun x4 h10 hf=>U 1 Z (CL Z (wL _ h10 ?_)); cases hf; exact Rx 1 [0] Z Z (ZC [0] Z Z h)
 refine V 2 Z (C hf Z (fun h11 hf=>?_) fun h11 hf=>?_)
 ·
  refine B1 hf fun x5 h12 hf=>W 1 Z (CL Z (lD _ _ h12 ?_)); rcases bQ hf with ⟨e2,lZ,hf⟩ | ⟨_,lZ,hf⟩
  · refine CL Z (bO _ _ lZ ?_); cases hf; exact ⟨Z,[],List.nil_sublist _,h⟩
  refine CL Z (bO _ _ lZ ?_); refine B1 hf fun x6 nu hf=>U 2 Z (CL Z (O8 _ nu ?_)); cases hf; exact Rx 1 [0] Z Z (ZC [0] Z Z h)
 refine V 2 Z (C hf Z (fun tq hf=>?_) fun tq hf=>?_)
 ·
  obtain ⟨t1,e3,h16,hf⟩:=bP hf; refine W 1 Z (CL Z (Na _ h16 ?_)); rcases bQ hf with ⟨e4,Ao,hf⟩ | ⟨_,Ao,hf⟩
  · refine U 8 Z (CL Z (bO _ _ Ao ?_)); cases hf; exact ⟨Z,[],List.nil_sublist _,h⟩
  refine U 8 Z (CL Z (bO _ _ Ao ?_)); refine B1 hf fun x7 h18 hf=>U 1 Z (CL Z (wK _ h18 ?_)); cases hf; exact Rx 1 [0] Z Z (ZC [0] Z Z h)
 refine B1 hf fun x8 h19 hf=>W 1 Z (CL Z (lD _ _ h19 ?_)); rcases bQ hf with ⟨e5,h20,hf⟩ | ⟨_,h20,hf⟩
 · refine CL Z (bO _ _ h20 ?_); cases hf; exact ⟨Z,[],List.nil_sublist _,h⟩
 refine CL Z (bO _ _ h20 (J 3 Z (C hf Z (fun h21 hf=>?_) fun h21 hf=>?_)))
 · refine B1 hf fun x9 h22 hf=>W 2 Z (CL Z (K8 _ _ _ _ h22 ?_)); refine B1 hf fun Il h23 hf=>CL Z (wK _ h23 ?_); cases hf; exact Rx 1 [0] Z Z (ZC [0] Z Z h)
 refine V 2 Z (C hf Z (fun Ti hf=>?_) fun Ti hf=>?_)
 · refine B1 hf fun Li Ux hf=>W 2 Z (CL Z (K8 _ _ _ _ Ux ?_)); refine B1 hf fun SB Uw hf=>CL Z (wK _ Uw ?_); cases hf; exact Rx 1 [0] Z Z (ZC [0] Z Z h)
 obtain ⟨n1,ok1,h27,hf⟩:=bP hf; refine W 2 Z (CL Z (TQ _ h27 ?_)); rcases bQ hf with ⟨e6,Uv,hf⟩ | ⟨_,Uv,hf⟩
 · refine U 6 Z (CL Z (bO _ _ Uv ?_)); cases hf; exact ⟨Z,[],List.nil_sublist _,h⟩
 refine U 6 Z (CL Z (bO _ _ Uv ?_)); refine B1 hf fun YB KX hf=>U 1 Z (CL Z (wL _ KX ?_)); cases hf; exact Rx 1 [0] Z Z (ZC [0] Z Z h)
end
theorem KY (b1:Bool) {r0:Int} (hf:vJ b1=some r0) (h:Q (.ret (iP r0)) τ):PC 94 [.bool b1] τ Q:=by
 unfold vJ at hf; refine BN 4 [.tmp 2] [0] Tryz.func94 Z Z Z Z Z (V 2 Z (C hf Z (fun h1 hf=>?_) fun h1 hf=>?_))
 · cases hf; exact M 1 Z (Y Z h)
 cases hf; exact M 1 Z (Y Z h)
theorem iR (mD:List ah) (oP:List ah) (Jv:ah→ah→Option Int) (M_:FuncId) (RN:List PV) (ach:aU Tryz.prog M_=true) (aci:∀ a0 a1 b0,Jv a0 a1=some b0→∀ {τ:List bf} {Q:dx→List bf→Prop},Q (.ret (iP b0)) τ→PC M_ ([.agg (aN a0),.agg (aN a1)] ++ RN) τ Q) {r0:Int} (hf:b_ mD oP Jv=some r0) (h:Q (.ret (iP r0)) τ):PC 96 [.list (ah.aM mD),.list (ah.aM oP),.fn M_ RN] τ Q:=by
 unfold b_ at hf; refine BN 39 [.tmp 6] [0,1,2] Tryz.func96 Z Z Z Z Z (W 2 Z (AS Z (AO.aO (l:=mD) Z Z Z Z iK Z (ah.aB _) (J 1 Z (JY (fun i1=>[(0,.list (ah.aM mD)),(1,.list (ah.aM oP)),(2,.fn M_ RN),(11,.list (ah.aM mD)),(12,iP (mD.length:Int)),(13,iP i1)]) (fun i1=>[]) (fun bX i1=>dw mD oP Jv bX i1=some r0) BIG 0 Z Z hf (fun _ hz=>bT hz) ?_))))); intro bX i1 hf; rw [dw] at hf; refine V 1 Z (C hf Z (fun h1 hf=>?_) fun h1 hf=>?_)
 ·
  refine B1 hf fun e1 h2 hf=>W 1 Z (AS Z (AO.aP h2 Z Z (ah.aB _) Z iK (ah.aD _) Z (U 1 Z (AS Z (AO.aC Z gY (fun b8=>(Rr 4 [0] Z Z (AS Z (AO.aO (l:=oP) Z Z Z Z iK Z (ah.aB _) (J 1 Z (C hf Z (fun h3 hf=>?_) fun h3 hf=>?_)))))))))))
  · cases hf; exact M 1 Z (Y Z h)
  refine B1 hf fun e2 h4 hf=>W 2 Z (AS Z (AO.aP h4 Z Z (ah.aB _) Z iK (ah.aD _) Z (U 1 Z (AS Z (AO.aC Z gY (fun b9=>?_)))))); refine B1 hf fun c1 h5 hf=>Rr 4 [0,1,0] Z Z (AS Z (AO.call Z _ Z Z ach (aci _ _ _ h5 (J 3 Z (C hf Z (fun h6 hf=>?_) fun h6 hf=>?_)))))
  · cases hf; exact M 2 Z (Y Z h)
  refine Wn0 2 Z (AR.drop1 (AR.drop1 ?_)); exact N 0 Z ⟨(cZ (i1 + 1)),Z,Z,Z,hf⟩
 refine W 1 Z (AS Z (AO.aO (l:=mD) Z Z Z Z iK Z (ah.aB _) (U 1 Z (AS Z (AO.aO (l:=oP) Z Z Z Z iK Z (ah.aB _) (J 1 Z (C hf Z (fun h7 hf=>?_) fun h7 hf=>?_)))))))
 · cases hf; exact M 1 Z (Y Z h)
 cases hf; exact M 1 Z (Y Z h)
theorem pJ (mD:List Str) (oP:List Str) (Jv:Str→Str→Option Int) (M_:FuncId) (RN:List PV) (ach:aU Tryz.prog M_=true) (aci:∀ a0 a1 b0,Jv a0 a1=some b0→∀ {τ:List bf} {Q:dx→List bf→Prop},Q (.ret (iP b0)) τ→PC M_ ([.str a0,.str a1] ++ RN) τ Q) {r0:Int} (hf:eP mD oP Jv=some r0) (h:Q (.ret (iP r0)) τ):PC 97 [sP mD,sP oP,.fn M_ RN] τ Q:=by
 unfold eP at hf; refine BN 39 [.tmp 6] [0,1,2] Tryz.func97 Z Z Z Z Z (W 2 Z (AS Z (AO.aO (l:=mD) Z Z Z Z jm Z Z (J 1 Z (JY (fun i1=>[(0,sP mD),(1,sP oP),(2,.fn M_ RN),(11,sP mD),(12,iP (mD.length:Int)),(13,iP i1)]) (fun i1=>[]) (fun bX i1=>dZ mD oP Jv bX i1=some r0) BIG 0 Z Z hf (fun _ hz=>bT hz) ?_))))); intro bX i1 hf; rw [dZ] at hf; refine V 1 Z (C hf Z (fun h1 hf=>?_) fun h1 hf=>?_)
 ·
  refine B1 hf fun agl h2 hf=>W 1 Z (AS Z (AO.aP h2 Z Z Z Z jm Z Z (U 5 Z (AS Z (AO.aO (l:=oP) Z Z Z Z jm Z Z (J 1 Z (C hf Z (fun h3 hf=>?_) fun h3 hf=>?_)))))))
  · cases hf; exact M 1 Z (Y Z h)
  refine B1 hf fun agk h4 hf=>W 2 Z (AS Z (AO.aP h4 Z Z Z Z jm Z Z ?_)); refine B1 hf fun c1 h5 hf=>U 5 Z (AS Z (AO.call Z _ Z Z ach (aci _ _ _ h5 (J 3 Z (C hf Z (fun h6 hf=>?_) fun h6 hf=>?_)))))
  · cases hf; exact M 2 Z (Y Z h)
  exact M 2 Z ⟨(cZ (i1 + 1)),Z,Z,Z,hf⟩
 refine W 1 Z (AS Z (AO.aO (l:=mD) Z Z Z Z jm Z Z (U 1 Z (AS Z (AO.aO (l:=oP) Z Z Z Z jm Z Z (J 1 Z (C hf Z (fun h7 hf=>?_) fun h7 hf=>?_)))))))
 · cases hf; exact M 1 Z (Y Z h)
 cases hf; exact M 1 Z (Y Z h)
abbrev H_ (kQ:ah→ah→Option Int):Prop:=∀ (uy:ah) (oz:ah) {aZ:Int},kQ uy oz=some aZ→∀ {τ:List bf} {Q:dx→List bf→Prop} (h:Q (.ret (iP aZ)) τ),PC 58 [.agg (aN uy),.agg (aN oz)] τ Q
theorem Pf (kQ) (EI:H_ kQ) (a1:ah) (b1:ah) {r0:Int} (hf:yj kQ a1 b1=some r0) (h:Q (.ret (iP r0)) τ):PC 58 [.agg (aN a1),.agg (aN b1)] τ Q:=by
 unfold yj at hf; refine BN 62 [.tmp 4] [0,1] Tryz.func58 Z Z Z Z Z ?_; refine B1 hf fun c1 h1 hf=>W 7 Z (CL Z (oI _ _ h1 (J 3 Z (C hf Z (fun h2 hf=>?_) fun h2 hf=>?_))))
 · cases hf; exact M 2 Z (Y Z h)
 refine V 4 Z (C hf Z (fun h3 hf=>?_) fun h3 hf=>?_)
 ·
  refine V 0 Z (AW.draw 8 mixed (by kernel_rfl) Z ?_); refine Ev.cs bC 2 Z ?_; refine B1 hf fun x1 h4 hf=>Ev.cons Z Z Z (AO.call Z _ Z Z adS (KY _ h4 zg)) (Ev.cs bC 2 Z ?_); refine B1 hf fun x2 h5 hf=>Ev.cons Z Z Z (AO.call Z _ Z Z adS (KY _ h5 zg)) ?_; refine BR hf fun x3 h6 hf=>?_; refine Ev.cons Z Z Z (AO.call Z _ Z Z agA (oI _ _ h6 zg)) (Ev.cs bC 1 Z (Ev.nil ?_)); show AR _ _ _ _ _ _ _ _; cases hf; exact N 0 Z (Y Z h)
 refine V 2 Z (C hf Z (fun h7 hf=>?_) fun h7 hf=>?_)
 · refine BR hf fun x4 h8 hf=>?_; refine W 4 Z (CL Z (oI _ _ h8 ?_)); cases hf; exact N 1 Z (Y Z h)
 refine V 2 Z (C hf Z (fun h9 hf=>?_) fun h9 hf=>?_)
 · refine BR hf fun x5 h10 hf=>?_; refine W 4 Z (CL Z (BZ _ _ h10 ?_)); cases hf; exact N 1 Z (Y Z h)
 refine V 2 Z (C hf Z (fun h11 hf=>?_) fun h11 hf=>?_)
 · refine BR hf fun x6 h12 hf=>?_; refine W 4 Z (CL Z (iR _ _ kQ 58 [] adX (fun _ _ _ hz=>EI _ _  hz) h12 ?_)); cases hf; exact N 1 Z (Y Z h)
 refine V 2 Z (C hf Z (fun lZ hf=>?_) fun lZ hf=>?_)
 ·
  refine B1 hf fun c2 nu hf=>W 4 Z (CL Z (pJ _ _ jY 98 [] adR (fun _ _ _ hz=>Cq _ _  hz) nu (J 3 Z (C hf Z (fun tq hf=>?_) fun tq hf=>?_))))
  · cases hf; exact M 2 Z (Y Z h)
  refine BR hf fun x7 h16 hf=>?_; refine W 4 Z (CL Z (iR _ _ kQ 58 [] adX (fun _ _ _ hz=>EI _ _  hz) h16 ?_)); cases hf; exact N 1 Z (Y Z h)
 cases hf; exact M 1 Z (Y Z h)
theorem Pt :∀ k:Nat,(H_ (jR k)):=by
 intro k
 induction k with
 | zero=>exact fun _ _ _ hz=>by first | cases hz | (unfold jR at hz; cases hz)
 | succ k ih=>exact fun uy oz aZ hz τ Q hq=>Pf (jR k) ih uy oz hz hq
theorem Hz (uy:ah) (oz:ah) {aZ:Int} (hf:xK uy oz=some aZ) (h:Q (.ret (iP aZ)) τ):PC 58 [.agg (aN uy),.agg (aN oz)] τ Q:=
 ((Pt BIG)) uy oz hf h
theorem Bo (a1:ah) (b1:ah) {r0:Bool} (hf:pQ a1 b1=some r0) (h:Q (.ret (.bool r0)) τ):PC 32 [.agg (aN a1),.agg (aN b1)] τ Q:=by
 unfold pQ at hf; refine BN 9 [.tmp 4] [0,1] Tryz.func32 Z Z Z Z Z ?_; refine B1 hf fun x1 h1 hf=>W 5 Z (CL Z (Hz _ _ h1 ?_)); cases hf; exact N 2 Z (Y Z h)
theorem tL (a1:ah) (b1:ah) (Al:Int) {r0:Bool} (hf:uR a1 b1 Al=some r0) (h:Q (.ret (.bool r0)) τ):PC 243 [.agg (aN a1),.agg (aN b1),iP Al] τ Q:=by
 unfold uR at hf; refine BN 17 [.tmp 6] [0,1,2] Tryz.func243 Z Z Z Z Z (W 8 Z (An 5 11 16 [] (b1.kind == Al) Z Z Z Z ?_)); cases hf; exact N 1 Z (Y Z h)
section
variable [Am]
def Tp :Go.Shelf.Ren:=⟨fun | 144=>269 | 143=>260 | 219=>289 | 217=>316 | 225=>293 | 224=>292 | 267=>317 | 266=>334 | 314=>335 | n=>n,fun | 9=>9 | 4=>4 | 3=>3 | 5=>5 | 46=>278 | 146=>332 | 51=>276 | n=>n,fun | 1=>0 | n=>n⟩
theorem aah :Go.Proofs.Lays.n144 Tryz.prog Tp:=by repeat' first | (intros; kernel_rfl) | constructor | decide
theorem Ma (s1:Str) (t1:Str) {r0:Bool} (hf:strings_Contains s1 t1=some r0) (h:Q (.ret (.bool r0)) τ):PC 269 [.str s1,.str t1] τ Q:=by
 unfold strings_Contains at hf; split at hf
 case isFalse=>cases hf
 rename_i hg; cases hf; refine AC.none ?_; exact AC.contains aah hg Am.max h
end
section
variable [Am]
@[reducible] def Pd :fB aI Bool→dx
 | .ok r=>.ret (.bool r)
 | .bad e=>.panic (.iface 181 (.agg [iP e.code]))
theorem HZ (a1:ah) (b1:ah) {rX:fB aI Bool} (hf:Fh a1 b1=some rX) (h:Q (Pd rX) τ):PC 241 [.agg (aN a1),.agg (aN b1)] τ Q:=by
 unfold Fh at hf; refine BN 47 [.tmp 4] [0,1] Tryz.func241 Z Z Z Z Z ?_; refine B1 hf fun x1 h1 hf=>W 4 Z (CL Z (lD _ _ h1 (J 1 Z (C hf Z (fun h2 hf=>?_) fun h2 hf=>?_))))
 ·
  refine W 2 Z (AS Z (AO.aO (l:=a1.aW) Z Z Z Z iK Z (ah.aB _) (J 1 Z (JY (fun x2=>[(3,.ref (aN b1)),(13,.list (ah.aM a1.aW)),(14,iP (a1.aW.length:Int)),(15,iP x2)]) (fun x2=>[]) (fun bX x2=>wT a1 b1 bX x2=some rX) BIG 0 Z Z hf (fun _ hz=>bT hz) ?_)))); intro bX x2 hf; rw [wT] at hf; refine V 1 Z (C hf Z (fun h3 hf=>?_) fun h3 hf=>?_)
  ·
   refine B1 hf fun e1 h4 hf=>W 0 Z (AS Z (AO.aP h4 Z Z (ah.aB _) Z iK (ah.aD _) Z (U 1 Z (AS Z (AO.aC Z gY (fun b6=>?_)))))); refine B1 hf fun x3 h5 hf=>Rr 3 [0,0] Z Z (CL Z (Bo _ _ h5 (J 0 Z (C hf Z (fun h6 hf=>?_) fun h6 hf=>?_))))
   · cases hf; exact M 1 Z (Y Z h)
   refine Wn0 2 Z (AR.drop1 ?_); exact N 0 Z ⟨(cZ (x2 + 1)),Z,Z,Z,hf⟩
  cases hf; exact M 1 Z (Y Z h)
 refine B1 hf fun x4 h7 hf=>W 2 Z (CL Z (tL _ _ _ h7 (J 1 Z (C hf Z (fun h8 hf=>?_) fun h8 hf=>?_))))
 · refine B1 hf fun x5 h9 hf=>W 4 Z (CL Z (Ma _ _ h9 ?_)); cases hf; exact N 1 Z (Y Z h)
 refine B1 hf fun x6 h10 hf=>W 1 Z (CL Z (lD _ _ h10 ?_)); refine B1 hf fun b2 h12 hf=>U 1 Z (AR.fK 3 34 37 true [2,3] b2 Z Z (fun h11=>?_) (fun h11=>?_) ?_)
 · refine IT 34 h11 h12 Z fun h12=>?_; refine BR h12 fun x7 lZ h12=>?_; refine U 1 Z (GO Z (AO.call Z _ Z Z NS (lD _ _ lZ ?_))); cases h12; exact fI 1 Z (En [37,2,3] Z)
 · refine IF 34 h11 h12 Z fun h12=>?_; cases h12; exact fI 3 Z (En [37,2,3] Z)
 rcases bQ hf with ⟨e2,nu,hf⟩ | ⟨_,nu,hf⟩
 · refine CL Z (bO _ _ nu ?_); cases hf; exact ⟨Z,[],List.nil_sublist _,h⟩
 refine CL Z (bO _ _ nu ?_); obtain ⟨x8,ok1,tq,hf⟩:=bP hf; refine U 3 Z (CL Z (O5 _ _ tq (U 3 Z (AS Z (AO.aC Z gY (fun b7=>?_)))))); cases hf; exact Rx 4 [0] Z Z (Y Z h)
end
theorem kE (b1:Bool) {r0:ah} (hf:kS b1=some r0) (h:Q (.ret (.agg (aN r0))) τ):PC 210 [.bool b1] τ Q:=by
 unfold kS at hf; refine BN 5 [.cell 2 42] [0] Tryz.func210 Z Z Z Z Z (W 0 Z (AS Z (AO.aC Z gY (fun b2=>?_)))); cases hf; exact Rx 3 [0] Z Z (ZC [0] Z Z h)
section
variable [Am]
@[reducible] def SG :fB aI ah→dx
 | .ok r=>.ret (.agg (aN r))
 | .bad e=>.panic (.iface 181 (.agg [iP e.code]))
theorem K9 (a1:ah) (b1:ah) {rX:fB aI ah} (hf:Jm a1 b1=some rX) (h:Q (SG rX) τ):PC 242 [.agg (aN a1),.agg (aN b1)] τ Q:=by
 unfold Jm at hf; refine BN 54 [.cell 4 42] [0,1] Tryz.func242 Z Z Z Z Z (W 2 Z (AS Z (AO.aC Z gY (fun b4=>?_)))); refine B1 hf fun x1 h1 hf=>U 1 Z (CL Z (lD _ _ h1 ?_)); refine B1 hf fun b2 h3 hf=>U 1 Z (AR.fK 3 11 14 true [2,3,4] b2 Z Z (fun h2=>?_) (fun h2=>?_) ?_)
 · refine IT 11 h2 h3 Z fun h3=>?_; refine BR h3 fun x2 h4 h3=>?_; refine U 1 Z (GO Z (AO.call Z _ Z Z NS (lD _ _ h4 ?_))); cases h3; exact fI 1 Z (En [14,2,3,4] Z)
 · refine IF 11 h2 h3 Z fun h3=>?_; cases h3; exact fI 3 Z (En [14,2,3,4] Z)
 rcases bQ hf with ⟨e1,h5,hf⟩ | ⟨_,h5,hf⟩
 · refine CL Z (bO _ _ h5 ?_); cases hf; exact ⟨Z,[],List.nil_sublist _,h⟩
 refine CL Z (bO _ _ h5 (U 4 Z (AS Z (AO.aO (l:=a1.aW) Z Z Z Z iK Z (ah.aB _) ?_)))); refine J 1 Z (AW.row 1 9 (LK4 (fun n1 l1 v1 x3=>[(3,.ref (aN b1)),(4,pP b4),(5,iP n1),(6,.own v1 (List.map nD l1)),(17,.list (ah.aM a1.aW)),(18,iP (a1.aW.length:Int)),(19,iP x3)]) (fun n1 l1 v1 x3=>[.row v1 (List.map nD l1).length 1 9,.box b4 [iP 0,.bool false,iP 0,.str ([]:Str),.own (.slice none 0 0) [],.own (.slice none 0 0) []]]) (fun bX n1 l1 v1 x3=>z8 a1 b1 bX n1 l1 x3=some rX) BIG 0 [] (.slice none 0 0) 0 Z Z hf (fun _ _ _ _ hz=>bT hz) ?_)); intro bX n1 l1 v1 x3 hf; rw [z8] at hf; refine V 1 Z (C hf Z (fun h6 hf=>?_) fun h6 hf=>?_)
 ·
  refine B1 hf fun e2 h7 hf=>W 0 Z (AS Z (AO.aP h7 Z Z (ah.aB _) Z iK (ah.aD _) Z (U 1 Z (AS Z (AO.aC Z gY (fun b8=>?_)))))); refine B1 hf fun x4 h8 hf=>Rr 2 [0,0] Z Z (CL Z (lD _ _ h8 ?_)); rcases bQ hf with ⟨e3,h9,hf⟩ | ⟨_,h9,hf⟩
  · refine CL Z (bO _ _ h9 ?_); cases hf; exact ⟨Z,[],List.nil_sublist _,h⟩
  refine CL Z (bO _ _ h9 (Rr 3 [0] Z Z (AS Z (AO.bq (List.map nD ([e2.fM]:List Str)) Z tH Z Z Z Z ?_)))); refine B1 hf fun l2 h10 hf=>AS Z (AO.eZ (i:=1) (l:=l1) (m:=([e2.fM]:List Str)) h10 Z Z Z Z Z Z Z tH jm Z Z Z (fun _=>Z) (fun _=>Z) (by decide) (fun v2 s1 hs1=>?_)); cases hs1; refine Rr 4 [0] Z Z (AS Z (AO.cK Z Z Z Z dR Z (fI 4 Z (AR.drop1 ?_)))); exact N 0 Z ⟨(cZ (n1 + (e2.fM.length:Int))),l2,v2,(cZ (x3 + 1)),Z,Z,Z,hf⟩
 refine W 3 Z (AS Z (AO.cK Z Z Z Z dR Z (U 1 Z (AS Z (AO.aO (l:=l1) Z Z Z Z jm Z Z (U 1 Z (AS Z (AO.max2 Z Z Z Z Z ?_)))))))); rcases bQ hf with ⟨e4,h11,hf⟩ | ⟨_,h11,hf⟩
 · refine U 3 Z (CL Z (bO _ _ h11 ?_)); cases hf; exact ⟨Z,[],List.nil_sublist _,h⟩
 refine U 3 Z (CL Z (bO _ _ h11 ?_)); refine B1 hf fun x5 h12 hf=>U 3 Z (CL Z (Ae _ _ h12 ?_)); refine B1 hf fun x6 lZ hf=>CL Z (wK _ lZ ?_); cases hf; exact Rx 1 [1] Z Z (ZC [1] Z Z h)
end
theorem xH (s1:Str) (nA:Str) {r0:Bool} (hf:strings_HasPrefix s1 nA=some r0) (h:Q (.ret (.bool r0)) τ):PC 183 [.str s1,.str nA] τ Q:=by
 unfold strings_HasPrefix at hf; refine BN 8 [.tmp 4] [0,1] Tryz.func183 Z Z Z Z Z ?_; refine BR hf fun x1 h1 hf=>?_; refine W 3 Z (CL Z (xB _ _ h1 ?_)); cases hf; exact N 1 Z (Y Z h)
theorem KI (s1:Str) (ny:Str) {r0:Bool} (hf:strings_HasSuffix s1 ny=some r0) (h:Q (.ret (.bool r0)) τ):PC 244 [.str s1,.str ny] τ Q:=by
 unfold strings_HasSuffix at hf; refine BN 8 [.tmp 4] [0,1] Tryz.func244 Z Z Z Z Z ?_; refine BR hf fun x1 h1 hf=>?_; refine W 3 Z (CL Z (xA _ _ h1 ?_)); cases hf; exact N 1 Z (Y Z h)
section
variable [Am]
def X4 :Go.Shelf.Ren:=⟨fun | 146=>245 | 221=>270 | 268=>298 | 138=>259 | 143=>260 | 195=>287 | 197=>227 | 218=>288 | 219=>289 | 260=>261 | 217=>316 | 225=>293 | 224=>292 | 267=>317 | 266=>334 | 314=>335 | n=>n,fun | 9=>9 | 31=>40 | 3=>3 | 4=>4 | 0=>0 | 105=>248 | 21=>21 | 5=>5 | 46=>278 | 119=>296 | 139=>299 | 138=>298 | 146=>332 | 51=>276 | n=>n,fun | 1=>0 | 3=>2 | 4=>3 | n=>n⟩
theorem aem :Go.Proofs.Lays.n146 Tryz.prog X4:=by repeat' first | (intros; kernel_rfl) | constructor | decide
theorem PN (s1:Str) (t1:Str) {r0:List Str} (hf:strings_Split s1 t1=some r0) (h:Q (.ret (sP r0)) τ):PC 245 [.str s1,.str t1] τ Q:=by
 unfold strings_Split at hf; split at hf
 case isFalse=>cases hf
 rename_i hg; cases hf; refine AC.none ?_; exact AC.split aem (by kernel_rfl) hg.1 hg.2 Am.max h
end
section
variable [Am]
@[reducible] def XM :fB aI ah→dx
 | .ok r=>.ret (.agg (aN r))
 | .bad e=>.panic (.iface 181 (.agg [iP e.code]))
theorem Si (name1:Str) (a1:ah) (b1:ah) {rX:fB aI ah} (hf:Ry name1 a1 b1=some rX) (h:Q (XM rX) τ):PC 209 [.str name1,.agg (aN a1),.agg (aN b1)] τ Q:=by
 unfold Ry at hf; refine BN 62 [.cell 6 42] [0,1,2] Tryz.func209 Z Z Z Z Z (W 2 Z (AS Z (AO.aC Z gY (fun b6=>(J 3 Z (C hf Z (fun h1 hf=>?_) fun h1 hf=>?_))))))
 ·
  refine B1 hf fun x1 h2 hf=>W 1 Z (CL Z (lD _ _ h2 (J 0 Z (C hf Z (fun h3 hf=>?_) fun h3 hf=>?_))))
  · cases hf; exact Wx 2 [0] Z Z (ZC [0] Z Z h)
  cases hf; exact Wx 2 [0] Z Z (ZC [0] Z Z h)
 refine V 2 Z (C hf Z (fun h4 hf=>?_) fun h4 hf=>?_)
 ·
  rcases bQ hf with ⟨e1,h5,hf⟩ | ⟨x2,h5,hf⟩
  · refine W 2 Z (CL Z (HZ _ _ h5 ?_)); cases hf; exact ⟨Z,[],List.nil_sublist _,h⟩
  refine W 2 Z (CL Z (HZ _ _ h5 ?_)); refine B1 hf fun x3 h6 hf=>CL Z (kE _ h6 ?_); cases hf; exact Rx 1 [0] Z Z (ZC [0] Z Z h)
 refine V 2 Z (C hf Z (fun h7 hf=>?_) fun h7 hf=>?_)
 ·
  rcases bQ hf with ⟨e2,h8,hf⟩ | ⟨x4,h8,hf⟩
  · refine W 2 Z (CL Z (K9 _ _ h8 ?_)); cases hf; exact ⟨Z,[],List.nil_sublist _,h⟩
  refine W 2 Z (CL Z (K9 _ _ h8 ?_)); cases hf; exact Rx 1 [0] Z Z (ZC [0] Z Z h)
 refine B1 hf fun x5 h9 hf=>W 2 Z (CL Z (tL _ _ _ h9 ?_)); rcases bQ hf with ⟨e3,h10,hf⟩ | ⟨_,h10,hf⟩
 · refine CL Z (bO _ _ h10 ?_); cases hf; exact ⟨Z,[],List.nil_sublist _,h⟩
 refine CL Z (bO _ _ h10 (J 3 Z (C hf Z (fun h11 hf=>?_) fun h11 hf=>?_)))
 · refine B1 hf fun x6 h12 hf=>W 4 Z (CL Z (xH _ _ h12 ?_)); refine B1 hf fun x7 lZ hf=>CL Z (kE _ lZ ?_); cases hf; exact Rx 1 [0] Z Z (ZC [0] Z Z h)
 refine V 2 Z (C hf Z (fun nu hf=>?_) fun nu hf=>?_)
 · refine B1 hf fun x8 tq hf=>W 4 Z (CL Z (KI _ _ tq ?_)); refine B1 hf fun x9 h16 hf=>CL Z (kE _ h16 ?_); cases hf; exact Rx 1 [0] Z Z (ZC [0] Z Z h)
 rcases bQ hf with ⟨e4,Ao,hf⟩ | ⟨_,Ao,hf⟩
 · refine W 3 Z (CL Z (bO _ _ Ao ?_)); cases hf; exact ⟨Z,[],List.nil_sublist _,h⟩
 refine W 3 Z (CL Z (bO _ _ Ao ?_)); refine B1 hf fun l1 h18 hf=>U 4 Z (CL Z (PN _ _ h18 (U 2 Z (AS Z (AO.aO (l:=l1) Z Z Z Z jm Z Z ?_))))); rcases bQ hf with ⟨e5,h19,hf⟩ | ⟨_,h19,hf⟩
 · refine U 1 Z (CL Z (bO _ _ h19 ?_)); cases hf; exact ⟨Z,[],List.nil_sublist _,h⟩
 refine U 1 Z (CL Z (bO _ _ h19 ?_)); refine B1 hf fun Il h20 hf=>U 1 Z (CL Z (O8 _ h20 ?_)); cases hf; exact Rx 1 [0] Z Z (ZC [0] Z Z h)
end
@[reducible] def UR :fB aI Bool→dx
 | .ok r=>.ret (.bool r)
 | .bad e=>.panic (.iface 181 (.agg [iP e.code]))
theorem rC (v1:ah) {rX:fB aI Bool} (hf:AL v1=some rX) (h:Q (UR rX) τ):PC 178 [.agg (aN v1)] τ Q:=by
 unfold AL at hf; refine BN 8 [.tmp 2] [0] Tryz.func178 Z Z Z Z Z ?_; refine B1 hf fun x1 h1 hf=>W 3 Z (CL Z (lD _ _ h1 ?_)); rcases bQ hf with ⟨e1,h2,hf⟩ | ⟨_,h2,hf⟩
 · refine CL Z (bO _ _ h2 ?_); cases hf; exact ⟨Z,[],List.nil_sublist _,h⟩
 refine CL Z (bO _ _ h2 ?_); cases hf; exact N 3 Z (Y Z h)
@[reducible] def UQ :fB aI ah→dx
 | .ok r=>.ret (.agg (aN r))
 | .bad e=>.panic (.iface 181 (.agg [iP e.code]))
theorem Nl (op1:Str) (v1:ah) {rX:fB aI ah} (hf:LX op1 v1=some rX) (h:Q (UQ rX) τ):PC 176 [.str op1,.agg (aN v1)] τ Q:=by
 unfold LX at hf; refine BN 18 [.cell 4 42] [0,1] Tryz.func176 Z Z Z Z Z (W 1 Z (AS Z (AO.aC Z gY (fun b4=>(J 2 Z (C hf Z (fun h1 hf=>?_) fun h1 hf=>?_))))))
 ·
  rcases bQ hf with ⟨e1,h2,hf⟩ | ⟨x1,h2,hf⟩
  · refine W 1 Z (CL Z (rC _ h2 ?_)); cases hf; exact ⟨Z,[],List.nil_sublist _,h⟩
  refine W 1 Z (CL Z (rC _ h2 ?_)); refine B1 hf fun x2 h3 hf=>U 1 Z (CL Z (kE _ h3 ?_)); cases hf; exact Rx 1 [0] Z Z (ZC [0] Z Z h)
 refine B1 hf fun x3 h4 hf=>W 1 Z (CL Z (lD _ _ h4 ?_)); rcases bQ hf with ⟨e2,h5,hf⟩ | ⟨_,h5,hf⟩
 · refine CL Z (bO _ _ h5 ?_); cases hf; exact ⟨Z,[],List.nil_sublist _,h⟩
 refine CL Z (bO _ _ h5 ?_); refine B1 hf fun x4 h6 hf=>U 3 Z (CL Z (wL _ h6 ?_)); cases hf; exact Rx 1 [0] Z Z (ZC [0] Z Z h)
@[reducible] def UU :fB aI Int→dx
 | .ok r=>.ret (iP r)
 | .bad e=>.panic (.iface 181 (.agg [iP e.code]))
theorem rD (a1:ah) (b1:ah) {rX:fB aI Int} (hf:AQ a1 b1=some rX) (h:Q (UU rX) τ):PC 212 [.agg (aN a1),.agg (aN b1)] τ Q:=by
 unfold AQ at hf; refine BN 17 [.tmp 4] [0,1] Tryz.func212 Z Z Z Z Z ?_; refine B1 hf fun x1 h1 hf=>W 5 Z (CL Z (tL _ _ _ h1 ?_)); refine B1 hf fun b2 h3 hf=>U 1 Z (AR.fK 4 8 12 false [2,3] b2 Z Z (fun h2=>?_) (fun h2=>?_) ?_)
 · refine IF 8 h2 h3 Z fun h3=>?_; refine BR h3 fun x2 h4 h3=>?_; refine U 2 Z (GO Z (AO.call Z _ Z Z aeC (tL _ _ _ h4 ?_))); cases h3; exact fI 1 Z (En [12,2,3] Z)
 · refine IT 8 h2 h3 Z fun h3=>?_; cases h3; exact fI 4 Z (En [12,2,3] Z)
 rcases bQ hf with ⟨e1,h5,hf⟩ | ⟨_,h5,hf⟩
 · refine CL Z (bO _ _ h5 ?_); cases hf; exact ⟨Z,[],List.nil_sublist _,h⟩
 refine CL Z (bO _ _ h5 ?_); refine B1 hf fun x3 h6 hf=>U 2 Z (CL Z (Hz _ _ h6 ?_)); cases hf; exact N 1 Z (Y Z h)
@[reducible] def SF :fB aI ah→dx
 | .ok r=>.ret (.agg (aN r))
 | .bad e=>.panic (.iface 181 (.agg [iP e.code]))
theorem pV (n1:Int) {rX:fB aI ah} (hf:zm n1=some rX) (h:Q (SF rX) τ):PC 246 [iP n1] τ Q:=by
 unfold zm at hf; refine BN 12 [.cell 2 42] [0] Tryz.func246 Z Z Z Z Z (W 0 Z (AS Z (AO.aC Z gY (fun b2=>(U 3 Z (An 3 5 8 [0,2] (decide (n1≤9007199254740992)) Z Z Z Z ?_)))))); rcases bQ hf with ⟨e1,h2,hf⟩ | ⟨_,h2,hf⟩
 · refine CL Z (bO _ _ h2 ?_); cases hf; exact ⟨Z,[],List.nil_sublist _,h⟩
 refine CL Z (bO _ _ h2 ?_); refine B1 hf fun x1 h3 hf=>U 1 Z (CL Z (wL _ h3 ?_)); cases hf; exact Rx 1 [0] Z Z (ZC [0] Z Z h)
@[reducible] def XO :fB aI ah→dx
 | .ok r=>.ret (.agg (aN r))
 | .bad e=>.panic (.iface 181 (.agg [iP e.code]))
theorem Sj (a1:ah) (b1:ah) {rX:fB aI ah} (hf:Rz a1 b1=some rX) (h:Q (XO rX) τ):PC 213 [.agg (aN a1),.agg (aN b1)] τ Q:=by
 unfold Rz at hf; refine BN 57 [.cell 4 42] [0,1] Tryz.func213 Z Z Z Z Z (W 2 Z (AS Z (AO.aC Z gY (fun b4=>?_)))); refine B1 hf fun x1 h1 hf=>U 2 Z (CL Z (tL _ _ _ h1 (J 1 Z (C hf Z (fun h2 hf=>?_) fun h2 hf=>?_))))
 ·
  rcases bQ hf with ⟨e1,h3,hf⟩ | ⟨x2,h3,hf⟩
  · refine W 5 Z (CL Z (pV _ h3 ?_)); cases hf; exact ⟨Z,[],List.nil_sublist _,h⟩
  refine W 5 Z (CL Z (pV _ h3 ?_)); cases hf; exact Rx 1 [0] Z Z (ZC [0] Z Z h)
 refine B1 hf fun x3 h4 hf=>W 2 Z (CL Z (tL _ _ _ h4 (J 1 Z (C hf Z (fun h5 hf=>?_) fun h5 hf=>?_))))
 ·
  refine W 2 Z (AS Z (AO.cK Z Z Z Z dR Z (U 2 Z (AS Z (AO.cK Z Z Z Z dR Z ?_))))); rcases bQ hf with ⟨e2,h6,hf⟩ | ⟨_,h6,hf⟩
  · refine U 2 Z (CL Z (bO _ _ h6 ?_)); cases hf; exact ⟨Z,[],List.nil_sublist _,h⟩
  refine U 2 Z (CL Z (bO _ _ h6 ?_)); refine B1 hf fun x4 h7 hf=>U 4 Z (AS Z (AO.qC h7 Z Z Z ?_)); refine B1 hf fun x5 h8 hf=>CL Z (wK _ h8 ?_); cases hf; exact Rx 1 [0] Z Z (ZC [0] Z Z h)
 refine B1 hf fun x6 h9 hf=>W 2 Z (CL Z (tL _ _ _ h9 ?_)); rcases bQ hf with ⟨e3,h10,hf⟩ | ⟨_,h10,hf⟩
 · refine CL Z (bO _ _ h10 ?_); cases hf; exact ⟨Z,[],List.nil_sublist _,h⟩
 refine CL Z (bO _ _ h10 (U 2 Z (AS Z (AO.aO (l:=a1.aW) Z Z Z Z iK Z (ah.aB _) (U 2 Z (AS Z (AO.aO (l:=b1.aW) Z Z Z Z iK Z (ah.aB _) ?_))))))); rcases bQ hf with ⟨e4,h11,hf⟩ | ⟨_,h11,hf⟩
 · refine U 2 Z (CL Z (bO _ _ h11 ?_)); cases hf; exact ⟨Z,[],List.nil_sublist _,h⟩
 refine U 2 Z (CL Z (bO _ _ h11 (U 4 Z (AR.row 6 42 ?_)))); refine B1 hf fun l1 h12 hf=>AS Z (AO.eZ (i:=0) (l:=[]) (m:=a1.aW) h12 Z Z Z Z Z Z Z yY iK (show ([]:List (List PV))=List.map ah.cells [] from Z) (ah.aB _) (ah.aB _).symm (ah.bG) (ah.cells_one) (by decide) (fun v1 s1 hs1=>?_)); cases hs1; refine B1 hf fun x7 lZ hf=>U 4 Z (AS Z (AO.eZ (i:=0) (l:=l1) (m:=b1.aW) lZ Z Z Z Z Z Z Z yY iK (ah.aB _) (ah.aB _) (ah.aB _).symm (ah.bG) (ah.cells_one) (by decide) (fun v2 s2 hs2=>?_))); cases hs2; refine B1 hf fun x8 nu hf=>CL Z (Nn _ nu ?_); cases hf; exact Rx 1 [1] Z Z (ZC [1] Z Z h)
theorem R9 (n1:Int) {r0:BitVec 64} (hf:MP n1=some r0) (h:Q (.ret (.int .u64 (r0.toNat:Int))) τ):PC 299 [iP n1] τ Q:=by
 unfold MP at hf; refine BN 10 [.tmp 2] [0] Tryz.func299 Z Z Z Z Z (V 3 Z (C hf Z (fun h1 hf=>?_) fun h1 hf=>?_))
 · refine W 1 Z (AS Z (AO.aa0 Z Qs Qt Z (AS Z (AO.u64_neg (BitVec.ofInt 64 n1) Z Z Z ?_)))); cases hf; exact N 1 Z (Y Z h)
 refine W 1 Z (AS Z (AO.aa0 Z Qs Qt Z ?_)); cases hf; exact N 1 Z (Y Z h)
theorem R_ (a1:Int) (b1:Int) {r0:jQ} (hf:Gt a1 b1=some r0) (h:Q (.ret (.agg (OX r0))) τ):PC 271 [iP a1,iP b1] τ Q:=by
 unfold Gt at hf; refine BN 71 [.cell 4 283] [0,1] Tryz.func271 Z Z Z Z Z (W 0 Z (AS Z (AO.aC Z XL (fun b4=>?_)))); refine B1 hf fun x1 h1 hf=>U 1 Z (CL Z (R9 _ h1 ?_)); refine B1 hf fun y1 h2 hf=>U 1 Z (CL Z (R9 _ h2 (U 3 Z (AS Z (AO.Mx x1 32 Z Z Z Z Z (U 1 Z (AS Z (AO.u64_and x1 (4294967295:BitVec 64) Z Z Z Z Z (U 1 Z (AS Z (AO.Mx y1 32 Z Z Z Z Z ?_))))))))))); refine U 1 Z (AS Z (AO.u64_and y1 (4294967295:BitVec 64) Z Z Z Z Z ?_)); refine B1 hf fun Rf h3 hf=>U 6 Z (AS Z (AO.Qu (x1 &&& (4294967295:BitVec 64)) (y1 &&& (4294967295:BitVec 64)) h3 Z Z Z Z Z ?_)); refine B1 hf fun x2 h4 hf=>U 3 Z (AS Z (AO.Qu (x1 >>> 32) (y1 &&& (4294967295:BitVec 64)) h4 Z Z Z Z Z (U 1 Z (AS Z (AO.Mx Rf 32 Z Z Z Z Z (AS Z (AO.P6 x2 (Rf >>> 32) Z Z Z Z Z ?_))))))); refine B1 hf fun x3 h5 hf=>U 3 Z (AS Z (AO.Qu (x1 &&& (4294967295:BitVec 64)) (y1 >>> 32) h5 Z Z Z Z Z ?_)); refine B1 hf fun x4 h6 hf=>?_; refine U 1 Z (AS Z (AO.aaW (x2 + (Rf >>> 32)) (4294967295:BitVec 64) h6 Z Z Z Z Z (AS Z (AO.P6 x3 x4 Z Z Z Z Z (U 3 Z (AS Z (AO.YG (x1 >>> 32) (y1 >>> 32) Z Z Z Z Z (U 1 Z (AS Z (AO.Mx (x2 + (Rf >>> 32)) 32 Z Z Z Z Z ?_)))))))))); refine B1 hf fun x5 h7 hf=>AS Z (AO.aaX ((x1 >>> 32) * (y1 >>> 32)) ((x2 + (Rf >>> 32)) >>> 32) h7 Z Z Z Z Z (U 1 Z (AS Z (AO.Mx (x3 + x4) 32 Z Z Z Z Z (AS Z (AO.P6 x5 ((x3 + x4) >>> 32) Z Z Z Z Z (U 1 Z (AS Z (AO.ac2 (x3 + x4) 32 Z Z Z Z Z ?_))))))))); refine U 1 Z (AS Z (AO.u64_and Rf (4294967295:BitVec 64) Z Z Z Z Z ?_)); refine B1 hf fun x6 h8 hf=>AS Z (AO.ac3 ((x3 + x4) <<< 32) (Rf &&& (4294967295:BitVec 64)) h8 Z Z Z Z Z (AS Z (AO.Ox Z aaE Mk Z (U 1 Z (AS Z (AO.aC Z XL (fun b14=>(Rr 5 [0] Z Z (AS Z (AO.acr Z agp Z Z ?_)))))))))); refine U 1 Z (AR.and 5 63 68 [4,14] (x:=(!decide (([((x5 + ((x3 + x4) >>> 32)).toNat:Int),(x6.toNat:Int)]:List Int)=([0,0]:List Int)))) Z Z (fun h9=>?_) (fun h9=>?_) ?_)
 · refine Is 63 h9 Z (U 1 Z (GO Z (AO.aR (i:=0) Z Z Z aek Z Z (GO Z (AO.Ox Z aaE Mk Z (GO Z (AO.abP ([((x5 + ((x3 + x4) >>> 32)).toNat:Int),(x6.toNat:Int)]:List Int) ([0,0]:List Int) Z aei Qt afJ afI afG Z Z Z Z Z Z (YD [(x5 + ((x3 + x4) >>> 32)),x6]) (YD [(0:BitVec 64),(0:BitVec 64)]) ?_))))))); exact fI 1 Z (En [68,4,14] Z)
 · refine Is 63 h9 Z ?_; exact fI 5 Z (En [68,4,14] Z)
 cases hf; exact Rx 4 [0,0,1] Z Z (ZC [1] Z Z h)
theorem JJ (p1:jQ) {r0:Int} {r1:Bool} (hf:yN p1=some (r0,r1)) (h:Q (.ret (.tuple [iP r0,.bool r1])) τ):PC 272 [.agg (OX p1)] τ Q:=by
 unfold yN at hf; refine BN 37 [.tmp 2,.tmp 3] [0] Tryz.func272 Z Z Z Z Z (W 4 Z (AS Z (AO.vW (sz:=1) 0 Z Mk Z Z (by decide) Z ?_))); refine J 3 Z (C hf Z (fun h1 hf=>?_) fun h1 hf=>?_)
 · cases hf; exact M 2 Z (Y Z h)
 refine W 3 Z (AR.and 5 12 17 [1] (x:=(decide (((p1.half.getD 1 0).toNat:Int)≤9223372036854775808))) Z Z (fun h2=>?_) (fun h2=>?_) ?_)
 · refine Is 12 h2 Z (U 1 Z (GO Z (AO.vW (sz:=1) 1 Z Mk Z Z (by decide) Z ?_))); exact fI 3 Z (En [17,1] Z)
 · refine Is 12 h2 Z ?_; exact fI 5 Z (En [17,1] Z)
 refine J 1 Z (C hf Z (fun h3 hf=>?_) fun h3 hf=>?_)
 · refine W 1 Z (AS Z (AO.vW (sz:=1) 1 Z Mk Z Z (by decide) Z ?_)); refine U 1 Z (AS Z (AO.u64_neg (p1.half.getD 1 0) Z Z Z (AS Z (AO.Jr Z Qt Qs Z ?_)))); cases hf; exact N 2 Z (Y Z h)
 refine W 4 Z (AR.and 5 27 32 [1] (x:=(decide (((p1.half.getD 1 0).toNat:Int)≤9223372036854775807))) Z Z (fun h4=>?_) (fun h4=>?_) ?_)
 · refine Is 27 h4 Z (U 1 Z (GO Z (AO.vW (sz:=1) 1 Z Mk Z Z (by decide) Z ?_))); exact fI 3 Z (En [32,1] Z)
 · refine Is 27 h4 Z ?_; exact fI 5 Z (En [32,1] Z)
 refine J 1 Z (C hf Z (fun h5 hf=>?_) fun h5 hf=>?_)
 · refine W 1 Z (AS Z (AO.vW (sz:=1) 1 Z Mk Z Z (by decide) Z ?_)); refine U 1 Z (AS Z (AO.Jr Z Qt Qs Z ?_)); cases hf; exact N 2 Z (Y Z h)
 cases hf; exact M 2 Z (Y Z h)
theorem aao (adj:Bool) {r0:Int} (hf:Vj adj=some r0) (h:Q (.ret (iP r0)) τ):PC 273 [.bool adj] τ Q:=by
 unfold Vj at hf; refine BN 4 [.tmp 2] [0] Tryz.func273 Z Z Z Z Z (V 2 Z (C hf Z (fun h1 hf=>?_) fun h1 hf=>?_))
 · cases hf; exact M 1 Z (Y Z h)
 cases hf; exact M 1 Z (Y Z h)
theorem aap (a1:Int) (b1:Int) {r0:Int} (hf:Vk a1 b1=some r0) (h:Q (.ret (iP r0)) τ):PC 247 [iP a1,iP b1] τ Q:=by
 unfold Vk at hf; refine BN 21 [.tmp 4] [0,1] Tryz.func247 Z Z Z Z Z ?_; refine B1 hf fun x1 h1 hf=>W 3 Z (CL Z (R_ _ _ h1 (AS Z (AO.aC Z XL (fun b5=>?_))))); obtain ⟨n1,ok1,h2,hf⟩:=bP hf; refine Rr 2 [0,0] Z Z (CL Z (JJ _ h2 (J 6 Z (C hf Z (fun h3 hf=>?_) fun h3 hf=>?_))))
 · cases hf; exact M 2 Z (Y Z h)
 refine BR hf fun x2 h4 hf=>?_; refine Wr 2 [0] Z Z (CL Z (aao _ h4 ?_)); cases hf; exact N 1 Z (Y Z h)
@[reducible] def Mr :fB aI ah→dx
 | .ok r=>.ret (.agg (aN r))
 | .bad e=>.panic (.iface 181 (.agg [iP e.code]))
theorem ES (op1:Str) (a1:ah) (b1:ah) {rX:fB aI ah} (hf:Co op1 a1 b1=some rX) (h:Q (Mr rX) τ):PC 214 [.str op1,.agg (aN a1),.agg (aN b1)] τ Q:=by
 unfold Co at hf; refine BN 46 [.cell 6 42] [0,1,2] Tryz.func214 Z Z Z Z Z (W 2 Z (AS Z (AO.aC Z gY (fun b6=>?_)))); refine B1 hf fun x1 h1 hf=>U 2 Z (CL Z (tL _ _ _ h1 ?_)); rcases bQ hf with ⟨e1,h2,hf⟩ | ⟨_,h2,hf⟩
 · refine CL Z (bO _ _ h2 ?_); cases hf; exact ⟨Z,[],List.nil_sublist _,h⟩
 refine CL Z (bO _ _ h2 (J 3 Z (C hf Z (fun h3 hf=>?_) fun h3 hf=>?_)))
 ·
  rcases bQ hf with ⟨e2,h4,hf⟩ | ⟨x2,h4,hf⟩
  · refine W 5 Z (CL Z (pV _ h4 ?_)); cases hf; exact ⟨Z,[],List.nil_sublist _,h⟩
  refine W 5 Z (CL Z (pV _ h4 ?_)); cases hf; exact Rx 1 [0] Z Z (ZC [0] Z Z h)
 refine V 2 Z (C hf Z (fun h5 hf=>?_) fun h5 hf=>?_)
 ·
  refine B1 hf fun x3 h6 hf=>W 4 Z (CL Z (aap _ _ h6 ?_)); rcases bQ hf with ⟨e3,h7,hf⟩ | ⟨x4,h7,hf⟩
  · refine CL Z (pV _ h7 ?_); cases hf; exact ⟨Z,[],List.nil_sublist _,h⟩
  refine CL Z (pV _ h7 ?_); cases hf; exact Rx 1 [0] Z Z (ZC [0] Z Z h)
 rcases bQ hf with ⟨e4,h8,hf⟩ | ⟨_,h8,hf⟩
 · refine W 3 Z (CL Z (bO _ _ h8 ?_)); cases hf; exact ⟨Z,[],List.nil_sublist _,h⟩
 refine W 3 Z (CL Z (bO _ _ h8 (J 2 Z (C hf Z (fun h9 hf=>?_) fun h9 hf=>?_))))
 ·
  refine B1 hf fun _ h10 hf=>W 4 Z (AS Z (AO.ah4 h10 Z Z Z ?_)); rcases bQ hf with ⟨e5,h11,hf⟩ | ⟨x5,h11,hf⟩
  · refine CL Z (pV _ h11 ?_); cases hf; exact ⟨Z,[],List.nil_sublist _,h⟩
  refine CL Z (pV _ h11 ?_); cases hf; exact Rx 1 [0] Z Z (ZC [0] Z Z h)
 refine B1 hf fun _ h12 hf=>W 4 Z (AS Z (AO.ah3 h12 Z Z Z ?_)); refine B1 hf fun x6 lZ hf=>CL Z (wL _ lZ ?_); cases hf; exact Rx 1 [0] Z Z (ZC [0] Z Z h)
theorem RV (v1:ah) {r0:Int} (hf:Ga v1=some r0) (h:Q (.ret (iP r0)) τ):PC 274 [.agg (aN v1)] τ Q:=by
 unfold Ga at hf; refine AC.none (AC.KW 30 [.tmp 2] [0] Tryz.func274 Z Z Z Z Z ?_); obtain ⟨b1,s1,h1,hf⟩:=bP hf; cases hf; refine AW.sr (AR.step Z Z Z (AO.Dc Z Z Z (cs 1 Z (AR.nil [1] Z ?_)))); refine AW.sr (AR.step Z Z Z (AO.aC Z aga (fun b3=>(AR.bF Z Z (AO.bR (i:=0) Z Z Z Ep Z Z Z Z Z (AR.nil [1,3] Z ?_)))))); refine AW.seq (AW.sr (cs 1 Z (AR.step Z Z Z (AO.call Z _ Z Z adW (KZ _ _ ?_))))); refine AR.nil [3,7] Z (AW.block (AW.rangeFunc (β:=Int) (X:=Int × ah) Z abF (fun x=>[iP x.1,.agg (aN x.2)]) (fun _=>Z) (by decide) (fun s x=>zu s x.1 x.2) (fun s=>[.box b3 [iP s]]) (fun _=>none) (s0:=0) (s1:=r0) Z Z ?_ ?_ ?_))
 · intro l T' hy; refine Hw l T' zu (fun s1 bS v1 b s2 hh=>hy s1 (bS,v1) b s2 hh) 0 v1 1 h1 ⟨⟨_,Z⟩,Z⟩
 ·
  rintro l s ⟨bS,x1⟩ b s2 hh; unfold zu at hh; refine ⟨Z,?_⟩; cases hh; refine Ak.seq (Ak.region Z (cs 1 Z (AR.nil [3,4,9] Z ?_))); refine Ak.region Z (AR.step Z Z Z (AO.aC Z gY (fun b5=>(AR.bF Z Z (AO.bR (i:=0) Z Z Z mK Z Z Z Z Z (AR.nil [3,4,5] Z ?_)))))); refine ⟨Z,(Ak.block (Ak.seq (Ak.seq ?_)))⟩; refine Ak.region Z (cs 1 Z (AR.step Z Z Z (AO.aR (i:=0) Z Z Z Ep Z Z (cs 2 Z ?_)))); refine AR.or 4 13 17 [3,4,5] (x:=(x1.kind == 5)) Z Z (fun h2=>?_) (fun h2=>?_) ?_
  · refine AR.is 13 h2 Z (cs 1 Z (AR.go Z Z Z Z Z Z (AO.aR (i:=0) Z Z Z Ep Z Z (cs 2 Z ?_)))); refine AR.nil [17,3,4,5] Z ?_; exact ⟨Z,Z,Z,Z⟩
  · refine AR.is 13 h2 Z (cs 4 Z (AR.nil [17,3,4,5] Z ?_)); exact ⟨Z,Z,Z,Z⟩
  refine cs 1 Z (AR.and 5 18 23 [3,4,5] (x:=((x1.aW.length:Int) == 0)) Z Z (fun h2=>?_) (fun h2=>?_) ?_)
  · refine AR.is 18 h2 Z (cs 1 Z (AR.go Z Z Z Z Z Z (AO.aR (i:=0) Z Z Z IJ Z Z (AR.go Z Z Z Z Z Z (AO.aO (l:=x1.aW) Z Z Z Z iK Z (ah.aB _) ?_))))); refine cs 2 Z (AR.nil [23,3,4,5] Z ?_); exact ⟨Z,Z,Z,Z⟩
  · refine AR.is 18 h2 Z (cs 5 Z (AR.nil [23,3,4,5] Z ?_)); exact ⟨Z,Z,Z,Z⟩
  refine AR.nil [3,4,23] Z (Ak.cond Z (fun h3=>?_) (fun h3=>?_))
  · rw [show yh bS x1=cZ (bS + 1) from if_pos h3]; refine Ak.region Z (cs 3 Z (AR.nil [3,4] Z (Ak.region Z ?_))); refine AR.step Z Z Z (AO.aR (i:=1) Z Z Z Ep Z Z (cs 1 Z (AR.step Z Z Z (AO.max2 Z Z Z Z Z (AR.bF Z Z (AO.bR (i:=1) Z Z Z Ep Z Z Z Z Z ?_)))))); refine AR.nil [] Z ?_; exact ⟨Z,.cons _ (List.Sublist.refl _),Z,Z⟩
  rw [show yh bS x1=bS from if_neg (by rw [h3]; simp)]; refine Ak.skip (Ak.region Z (AR.step Z Z Z (AO.aR (i:=1) Z Z Z Ep Z Z (cs 1 Z ?_)))); refine AR.step Z Z Z (AO.max2 Z Z Z Z Z (AR.bF Z Z (AO.bR (i:=1) Z Z Z Ep Z Z Z Z Z (AR.nil [] Z ?_)))); exact ⟨Z,.cons _ (List.Sublist.refl _),Z,Z⟩
 intro D; show AW _ _ _ _ _ _ _; refine AW.sr (AR.step Z Z Z (AO.aR (i:=0) Z Z Z Ep Z Z (cs 1 Z (AR.nil [2] Z ?_)))); refine AW.ret ?_; exact ⟨D,[_],Z,Z,_,⟨_,_,Z,Z,Z⟩,[],List.nil_sublist _,h⟩
theorem PG (y1:aA) (c1:aA) {r0:Bool} (hf:Bc y1 c1=some r0) (h:Q (.ret (.bool r0)) τ):PC 276 [.agg (Bl y1),.ref (Bl c1)] τ Q:=by
 unfold Bc at hf; refine BN 9 [.tmp 3] [0,1] Tryz.func276 Z Z Z Z Z ?_; cases hf; exact M 8 Z (Y Z h)
theorem pq (s1:List aA) (f1:aA→Option Bool) (zX:FuncId) (DY:List PV) (Ru:aU Tryz.prog zX=true) (Rv:∀ a0 b0,f1 a0=some b0→∀ {τ:List bf} {Q:dx→List bf→Prop},Q (.ret (.bool b0)) τ→PC zX ([.agg (Bl a0)] ++ DY) τ Q) {r0:Int} (hf:jN s1 f1=some r0) (h:Q (.ret (iP r0)) τ):PC 37 [.list (List.map aA.cells s1),.fn zX DY] τ Q:=by
 unfold jN at hf; refine BN 19 [.tmp 4] [0,1] Tryz.func37 Z Z Z Z Z (W 2 Z (AS Z (AO.aO (l:=s1) Z Z Z Z wC Z Z (J 1 Z (JY (fun i1=>[(0,.list (List.map aA.cells s1)),(1,.fn zX DY),(7,iP (s1.length:Int)),(8,iP i1)]) (fun i1=>[]) (fun bX i1=>jl s1 f1 bX i1=some r0) BIG 0 Z Z hf (fun _ hz=>bT hz) ?_))))); intro bX i1 hf; rw [jl] at hf; refine V 1 Z (C hf Z (fun h1 hf=>?_) fun h1 hf=>?_)
 ·
  refine B1 hf fun e1 h2 hf=>W 5 Z (AS Z (AO.aP h2 Z Z Z Z wC (aA.aD _) Z ?_)); refine B1 hf fun x1 h3 hf=>U 1 Z (AS Z (AO.call Z _ Z Z Ru (Rv _ _ h3 (J 0 Z (C hf Z (fun h4 hf=>?_) fun h4 hf=>?_)))))
  · cases hf; exact M 2 Z (Y Z h)
  exact M 2 Z ⟨(cZ (i1 + 1)),Z,Z,Z,hf⟩
 cases hf; exact M 1 Z (Y Z h)
theorem vB (s1:List aA) (f1:aA→Option Bool) (zX:FuncId) (DY:List PV) (Ru:aU Tryz.prog zX=true) (Rv:∀ a0 b0,f1 a0=some b0→∀ {τ:List bf} {Q:dx→List bf→Prop},Q (.ret (.bool b0)) τ→PC zX ([.agg (Bl a0)] ++ DY) τ Q) {r0:Bool} (hf:kL s1 f1=some r0) (h:Q (.ret (.bool r0)) τ):PC 275 [.list (List.map aA.cells s1),.fn zX DY] τ Q:=by
 unfold kL at hf; refine BN 9 [.tmp 4] [0,1] Tryz.func275 Z Z Z Z Z ?_; refine B1 hf fun x1 h1 hf=>W 3 Z (CL Z (pq _ f1 zX DY Ru @Rv h1 ?_)); cases hf; exact N 2 Z (Y Z h)
end Go.Proofs.YtcohpegjnpcgcaaGreatDoor
