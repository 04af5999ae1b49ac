/- Proved here: each function does what its functional text says (part 1). -/
import Derived.Test.YtpbjbkhfpjckoaaGreatDoorIsA2
import Derived.Test.YtpbjbkhfpjckoaaGreatDoorIsPre1
import Derived.Test.YtpbjbkhfpjckoaaGreatDoorIsFt1
import Derived.Test.YtpbjbkhfpjckoaaGreatDoorIsPool1
import Derived.Test.YtpbjbkhfpjckoaaGreatDoorProg
import Derived.KernelRfl
set_option linter.unusedVariables false
set_option linter.unusedSimpArgs false
set_option linter.unusedSectionVars false
namespace Go.Ft
open Go Go.Abs
mutual
def aj.cells :aj→List PV
  | ⟨a0,a1,a2,a3,a4,a5⟩=>[.int .i64 a0,.bool a1,.int .i64 a2,.str a3,.list (aj.bL a4),.list (List.map iW a5)]
def aj.bL :List aj→List (List PV)
  | []=>[]
  | x :: xs=>aj.cells x :: aj.bL xs
end
theorem aj.aF (x:aj):aj.cells x=[.int .i64 x.kind,.bool x.jd,.int .i64 x.iG,.str x.jK,.list (aj.bL x.aW),.list (List.map iW x.keys)]:=by cases x; rfl
theorem aj.aC :∀ l:List aj,aj.bL l=l.map aj.cells
  | []=>rfl
  | _ :: l=>congrArg _ (aj.aC l)
def aj.PX (l:List aj):List PV:=[.list (aj.bL l)]
theorem aj.gI (x:aj):(aj.cells x).length=6:=by rw [aj.aF]; rfl
theorem aj.cells_one (x:aj):(aj.cells x).all PV.one=true:=by rw [aj.aF]; rfl
mutual
def ah.cells :ah→List PV
  | ⟨a0,a1,a2,a3,a4⟩=>[.int .i64 a0,.str a1,.int .i64 a2.kind,.bool a2.jd,.int .i64 a2.iG,.str a2.jK,.list (aj.bL a2.aW),.list (List.map iW a2.keys),.list (ah.bL a3),.list (List.map iW a4)]
def ah.bL :List ah→List (List PV)
  | []=>[]
  | x :: xs=>ah.cells x :: ah.bL xs
end
theorem ah.aF (x:ah):ah.cells x=[.int .i64 x.kind,.str x.name,.int .i64 x.value.kind,.bool x.value.jd,.int .i64 x.value.iG,.str x.value.jK,.list (aj.bL x.value.aW),.list (List.map iW x.value.keys),.list (ah.bL x.args),.list (List.map iW x.keys)]:=by cases x; rfl
theorem ah.aC :∀ l:List ah,ah.bL l=l.map ah.cells
  | []=>rfl
  | _ :: l=>congrArg _ (ah.aC l)
def ah.PX (l:List ah):List PV:=[.list (ah.bL l)]
theorem ah.gI (x:ah):(ah.cells x).length=10:=by rw [ah.aF]; rfl
theorem ah.cells_one (x:ah):(ah.cells x).all PV.one=true:=by rw [ah.aF]; rfl
@[reducible] def aI.cells (x:aI):List PV:=[.int .i64 x.kind,.str x.text,.int .i64 x.at_]
theorem aI.aF (x:aI):aI.cells x=[.int .i64 x.kind,.str x.text,.int .i64 x.at_]:=rfl
theorem aI.gI (x:aI):(aI.cells x).length=3:=by rw [aI.aF]; rfl
theorem aI.cells_one (x:aI):(aI.cells x).all PV.one=true:=by rw [aI.aF]; rfl
@[reducible] def au.cells (x:au):List PV:=[.list (List.map aI.cells x.ts),.int .i64 x.at_]
theorem au.aF (x:au):au.cells x=[.list (List.map aI.cells x.ts),.int .i64 x.at_]:=rfl
theorem au.gI (x:au):(au.cells x).length=2:=by rw [au.aF]; rfl
theorem au.cells_one (x:au):(au.cells x).all PV.one=true:=by rw [au.aF]; rfl
@[reducible] def aA.cells (x:aA):List PV:=[.int .i64 x.at_,.int .i64 x.code]
theorem aA.aF (x:aA):aA.cells x=[.int .i64 x.at_,.int .i64 x.code]:=rfl
theorem aA.gI (x:aA):(aA.cells x).length=2:=by rw [aA.aF]; rfl
theorem aA.cells_one (x:aA):(aA.cells x).all PV.one=true:=by rw [aA.aF]; rfl
@[reducible] def aB.cells (x:aB):List PV:=[.str x.text,.bool x.Oz,.int .i64 x.expr.kind,.str x.expr.name,.int .i64 x.expr.value.kind,.bool x.expr.value.jd,.int .i64 x.expr.value.iG,.str x.expr.value.jK,.list (aj.bL x.expr.value.aW),.list (List.map iW x.expr.value.keys),.list (ah.bL x.expr.args),.list (List.map iW x.expr.keys)]
theorem aB.aF (x:aB):aB.cells x=[.str x.text,.bool x.Oz,.int .i64 x.expr.kind,.str x.expr.name,.int .i64 x.expr.value.kind,.bool x.expr.value.jd,.int .i64 x.expr.value.iG,.str x.expr.value.jK,.list (aj.bL x.expr.value.aW),.list (List.map iW x.expr.value.keys),.list (ah.bL x.expr.args),.list (List.map iW x.expr.keys)]:=rfl
theorem aB.gI (x:aB):(aB.cells x).length=12:=by rw [aB.aF]; rfl
theorem aB.cells_one (x:aB):(aB.cells x).all PV.one=true:=by rw [aB.aF]; rfl
@[reducible] def bO.cells (x:bO):List PV:=[.str x.name,.int .i64 x.value.kind,.bool x.value.jd,.int .i64 x.value.iG,.str x.value.jK,.list (aj.bL x.value.aW),.list (List.map iW x.value.keys)]
theorem bO.aF (x:bO):bO.cells x=[.str x.name,.int .i64 x.value.kind,.bool x.value.jd,.int .i64 x.value.iG,.str x.value.jK,.list (aj.bL x.value.aW),.list (List.map iW x.value.keys)]:=rfl
theorem bO.gI (x:bO):(bO.cells x).length=7:=by rw [bO.aF]; rfl
theorem bO.cells_one (x:bO):(bO.cells x).all PV.one=true:=by rw [bO.aF]; rfl
@[reducible] def aY.cells (x:aY):List PV:=[.int .i64 x.code]
theorem aY.aF (x:aY):aY.cells x=[.int .i64 x.code]:=rfl
theorem aY.gI (x:aY):(aY.cells x).length=1:=by rw [aY.aF]; rfl
theorem aY.cells_one (x:aY):(aY.cells x).all PV.one=true:=by rw [aY.aF]; rfl
mutual
def ay.cells :ay→List PV
  | ⟨a0,a1⟩=>[.int .i64 a0,.list (ay.bL a1)]
def ay.bL :List ay→List (List PV)
  | []=>[]
  | x :: xs=>ay.cells x :: ay.bL xs
end
theorem ay.aF (x:ay):ay.cells x=[.int .i64 x.kind,.list (ay.bL x.elem)]:=by cases x; rfl
theorem ay.aC :∀ l:List ay,ay.bL l=l.map ay.cells
  | []=>rfl
  | _ :: l=>congrArg _ (ay.aC l)
def ay.PX (l:List ay):List PV:=[.list (ay.bL l)]
theorem ay.gI (x:ay):(ay.cells x).length=2:=by rw [ay.aF]; rfl
theorem ay.cells_one (x:ay):(ay.cells x).all PV.one=true:=by rw [ay.aF]; rfl
@[reducible] def bF.cells (x:bF):List PV:=[.str x.name,.int .i64 x.zU.kind,.list (ay.bL x.zU.elem)]
theorem bF.aF (x:bF):bF.cells x=[.str x.name,.int .i64 x.zU.kind,.list (ay.bL x.zU.elem)]:=rfl
theorem bF.gI (x:bF):(bF.cells x).length=3:=by rw [bF.aF]; rfl
theorem bF.cells_one (x:bF):(bF.cells x).all PV.one=true:=by rw [bF.aF]; rfl
end Go.Ft
namespace Go.Proofs.YtpbjbkhfpjckoaaGreatDoor
open Go Go.Abs Go.Ft
set_option maxRecDepth 20000
attribute [local irreducible] AO AR AW AC
class zL [d9]:Prop where
  hD:¬ d9.D
  max:∀ (w:World) (m:gL),d9.G w m→∃ n:Int,w.cell? ⟨0,0,none⟩=some (.int .i64 n)
  pow:∀ (w:World) (m:gL),d9.G w m→Lib.TabIs Tryz.prog w "internal/strconv.uint64pow10" .u64 Lib.pow10Tab
  syn:∀ (w:World) (m:gL),d9.G w m→∃ ev,w.cell? ⟨6,0,none⟩=some ev∧(ev=.nilIface∨∃ te pe,ev=.iface te pe)
  rng:∀ (w:World) (m:gL),d9.G w m→∃ ev,w.cell? ⟨7,0,none⟩=some ev∧(ev=.nilIface∨∃ te pe,ev=.iface te pe)
variable [d9]
theorem TN :zi Tryz.prog 221=some (8,1):=by kernel_rfl
theorem Za :Tryz.prog.cellsOf 5=1:=by kernel_rfl
theorem ru :elemSize Tryz.prog 110=some 3:=by kernel_rfl
theorem Tq :elemSize Tryz.prog 161=some 7:=by kernel_rfl
theorem oo :elemSize Tryz.prog 23=some 12:=by kernel_rfl
theorem Lx :elemSize Tryz.prog 236=some 1:=by kernel_rfl
theorem jC :elemSize Tryz.prog 31=some 6:=by kernel_rfl
theorem eO :elemSize Tryz.prog 32=some 1:=by kernel_rfl
theorem dQ :elemSize Tryz.prog 35=some 10:=by kernel_rfl
theorem Tp :elemSize Tryz.prog 43=some 7:=by kernel_rfl
theorem Nn :elemSize Tryz.prog 49=some 3:=by kernel_rfl
theorem KE :elemSize Tryz.prog 61=some 2:=by kernel_rfl
theorem KD :elemSize Tryz.prog 68=some 1:=by kernel_rfl
theorem PI :lM Tryz.prog 37 3=some 8:=by kernel_rfl
theorem U7 :lM Tryz.prog 39 1=some 1:=by kernel_rfl
theorem U6 :lM Tryz.prog 39 2=some 2:=by kernel_rfl
theorem Gl :lM Tryz.prog 72 0=some 0:=by kernel_rfl
theorem uG :lM Tryz.prog 72 1=some 1:=by kernel_rfl
theorem Gj :lM Tryz.prog 74 0=some 0:=by kernel_rfl
theorem Bv :lM Tryz.prog 74 1=some 1:=by kernel_rfl
theorem YN :Tryz.prog.underlying 77=some (.interface (Tryz.prog.methodsAt 77)):=by kernel_rfl
theorem inB :∃ j,Tryz.prog.info? 72=some j∧(j.size != 0)=true:=sized (n:=2) (by kernel_rfl) rfl
theorem YI :liesAt Tryz.prog Tryz.prog.depth 72 (2 / Tryz.prog.cellsOf 72) 0 72 1=true:=by kernel_rfl
theorem YH :liesAt Tryz.prog Tryz.prog.depth 74 (3 / Tryz.prog.cellsOf 74) 1 72 1=true:=by kernel_rfl
theorem mixed :Tryz.prog.follows .mixedOrders=true:=by kernel_rfl
theorem yK :Tryz.prog.underlying 125=some (.map 9 3):=by kernel_rfl
theorem Xh :concrete Tryz.prog 189=true:=by kernel_rfl
theorem YE :aV Tryz.prog 10=true:=by kernel_rfl
theorem VL :aV Tryz.prog 11=true:=by kernel_rfl
theorem vw :aV Tryz.prog 111=true:=by kernel_rfl
theorem Xd :aV Tryz.prog 112=true:=by kernel_rfl
theorem Xc :aV Tryz.prog 113=true:=by kernel_rfl
theorem Ae :aV Tryz.prog 120=true:=by kernel_rfl
theorem Xb :aV Tryz.prog 121=true:=by kernel_rfl
theorem Xa :aV Tryz.prog 123=true:=by kernel_rfl
theorem W_ :aV Tryz.prog 124=true:=by kernel_rfl
theorem W9 :aV Tryz.prog 127=true:=by kernel_rfl
theorem SB :aV Tryz.prog 128=true:=by kernel_rfl
theorem SA :aV Tryz.prog 132=true:=by kernel_rfl
theorem WZ :aV Tryz.prog 134=true:=by kernel_rfl
theorem WY :aV Tryz.prog 135=true:=by kernel_rfl
theorem Sz :aV Tryz.prog 136=true:=by kernel_rfl
theorem WX :aV Tryz.prog 137=true:=by kernel_rfl
theorem WW :aV Tryz.prog 138=true:=by kernel_rfl
theorem WV :aV Tryz.prog 139=true:=by kernel_rfl
theorem YD :aV Tryz.prog 14=true:=by kernel_rfl
theorem Sy :aV Tryz.prog 140=true:=by kernel_rfl
theorem WU :aV Tryz.prog 142=true:=by kernel_rfl
theorem Sw :aV Tryz.prog 144=true:=by kernel_rfl
theorem YC :aV Tryz.prog 15=true:=by kernel_rfl
theorem WT :aV Tryz.prog 152=true:=by kernel_rfl
theorem WS :aV Tryz.prog 157=true:=by kernel_rfl
theorem WR :aV Tryz.prog 162=true:=by kernel_rfl
theorem WQ :aV Tryz.prog 163=true:=by kernel_rfl
theorem WO :aV Tryz.prog 164=true:=by kernel_rfl
theorem WM :aV Tryz.prog 166=true:=by kernel_rfl
theorem Sv :aV Tryz.prog 168=true:=by kernel_rfl
theorem WL :aV Tryz.prog 172=true:=by kernel_rfl
theorem Sr :aV Tryz.prog 173=true:=by kernel_rfl
theorem WK :aV Tryz.prog 196=true:=by kernel_rfl
theorem WJ :aV Tryz.prog 197=true:=by kernel_rfl
theorem WI :aV Tryz.prog 198=true:=by kernel_rfl
theorem WH :aV Tryz.prog 199=true:=by kernel_rfl
theorem WG :aV Tryz.prog 200=true:=by kernel_rfl
theorem Sq :aV Tryz.prog 201=true:=by kernel_rfl
theorem Sn :aV Tryz.prog 204=true:=by kernel_rfl
theorem VK :aV Tryz.prog 21=true:=by kernel_rfl
theorem WE :aV Tryz.prog 218=true:=by kernel_rfl
theorem WC :aV Tryz.prog 219=true:=by kernel_rfl
theorem WB :aV Tryz.prog 224=true:=by kernel_rfl
theorem Ep :aV Tryz.prog 225=true:=by kernel_rfl
theorem Ad :aV Tryz.prog 227=true:=by kernel_rfl
theorem WA :aV Tryz.prog 239=true:=by kernel_rfl
theorem Wz :aV Tryz.prog 240=true:=by kernel_rfl
theorem Sm :aV Tryz.prog 244=true:=by kernel_rfl
theorem Wy :aV Tryz.prog 251=true:=by kernel_rfl
theorem Wv :aV Tryz.prog 252=true:=by kernel_rfl
theorem Wu :aV Tryz.prog 253=true:=by kernel_rfl
theorem Wt :aV Tryz.prog 254=true:=by kernel_rfl
theorem Ws :aV Tryz.prog 262=true:=by kernel_rfl
theorem Sl :aV Tryz.prog 263=true:=by kernel_rfl
theorem VJ :aV Tryz.prog 27=true:=by kernel_rfl
theorem VI :aV Tryz.prog 28=true:=by kernel_rfl
theorem YB :aV Tryz.prog 29=true:=by kernel_rfl
theorem Wq :aV Tryz.prog 298=true:=by kernel_rfl
theorem YA :aV Tryz.prog 30=true:=by kernel_rfl
theorem VH :aV Tryz.prog 31=true:=by kernel_rfl
theorem Wp :aV Tryz.prog 319=true:=by kernel_rfl
theorem Wo :aV Tryz.prog 320=true:=by kernel_rfl
theorem Wn :aV Tryz.prog 351=true:=by kernel_rfl
theorem Sk :aV Tryz.prog 355=true:=by kernel_rfl
theorem Wm :aV Tryz.prog 388=true:=by kernel_rfl
theorem Wj :aV Tryz.prog 389=true:=by kernel_rfl
theorem Yz :aV Tryz.prog 39=true:=by kernel_rfl
theorem Yy :aV Tryz.prog 40=true:=by kernel_rfl
theorem Yx :aV Tryz.prog 43=true:=by kernel_rfl
theorem VG :aV Tryz.prog 46=true:=by kernel_rfl
theorem Yw :aV Tryz.prog 47=true:=by kernel_rfl
theorem Yv :aV Tryz.prog 50=true:=by kernel_rfl
theorem Yu :aV Tryz.prog 51=true:=by kernel_rfl
theorem VF :aV Tryz.prog 60=true:=by kernel_rfl
theorem VE :aV Tryz.prog 65=true:=by kernel_rfl
theorem Sj :aV Tryz.prog 74=true:=by kernel_rfl
theorem Yt :aV Tryz.prog 75=true:=by kernel_rfl
theorem VD :aV Tryz.prog 80=true:=by kernel_rfl
theorem Yr :aV Tryz.prog 81=true:=by kernel_rfl
theorem Yq :aV Tryz.prog 84=true:=by kernel_rfl
theorem Yp :aV Tryz.prog 85=true:=by kernel_rfl
theorem Yo :aV Tryz.prog 87=true:=by kernel_rfl
theorem Yn :aV Tryz.prog 88=true:=by kernel_rfl
theorem Ym :aV Tryz.prog 97=true:=by kernel_rfl
theorem Yl :aV Tryz.prog 99=true:=by kernel_rfl
theorem Ei :eU Tryz.prog 110 116 3 32:=mM (by kernel_rfl)
theorem Pn :eU Tryz.prog 23 39 12 184:=mM (by kernel_rfl)
theorem R5 :eU Tryz.prog 236 3 1 8:=mM (by kernel_rfl)
theorem R4 :eU Tryz.prog 31 34 6 88:=mM (by kernel_rfl)
theorem tY :eU Tryz.prog 32 9 1 16:=mM (by kernel_rfl)
theorem Kn :eU Tryz.prog 35 37 10 160:=mM (by kernel_rfl)
theorem Yi :eU Tryz.prog 43 60 7 104:=mM (by kernel_rfl)
theorem Yh :eU Tryz.prog 49 66 3 48:=mM (by kernel_rfl)
theorem Vz :eU Tryz.prog 61 63 2 32:=mM (by kernel_rfl)
theorem mY :eU Tryz.prog 68 5 1 1:=mM (by kernel_rfl)
theorem Ux :u7 Tryz.prog 187=some [(0,1),(1,1)]:=by kernel_rfl
theorem RZ :u7 Tryz.prog 34=some [(0,1),(1,1),(2,1),(3,1),(4,1),(5,1)]:=by kernel_rfl
theorem Oj :u7 Tryz.prog 37=some [(0,1),(1,1),(2,6),(8,1),(9,1)]:=by kernel_rfl
theorem RY :u7 Tryz.prog 39=some [(0,1),(1,1),(2,10)]:=by kernel_rfl
theorem Uv (w:Go.World):(Instr.typeAssert .nilIface 20 189 true).run Tryz.prog w=.ok (.tuple #[.agg #[.int .i64 0,.int .i64 0],.bool false]) w:=by kernel_rfl
theorem Uu (w:Go.World):(Instr.typeAssert .nilIface 20 204 true).run Tryz.prog w=.ok (.tuple #[.agg #[.int .i64 0],.bool false]) w:=by kernel_rfl
theorem Ut (v:Value) (w:Go.World):(Instr.typeAssert (.iface 189 v) 20 189 true).run Tryz.prog w=.ok (.tuple #[v,.bool true]) w:=by kernel_rfl
theorem Us (v:Value) (w:Go.World):(Instr.typeAssert (.iface 204 v) 20 204 true).run Tryz.prog w=.ok (.tuple #[v,.bool true]) w:=by kernel_rfl
theorem KX :fu Tryz.prog 110=some (false,1):=by kernel_rfl
theorem Ed :fu Tryz.prog 116=some (true,3):=by kernel_rfl
theorem V_ :fu Tryz.prog 131=some (false,1):=by kernel_rfl
theorem RO :fu Tryz.prog 189=some (true,2):=by kernel_rfl
theorem RN :fu Tryz.prog 204=some (true,1):=by kernel_rfl
theorem GL :fu Tryz.prog 23=some (false,1):=by kernel_rfl
theorem nE :fu Tryz.prog 24=some (false,1):=by kernel_rfl
theorem Dh :fu Tryz.prog 3=some (false,1):=by kernel_rfl
theorem Ye :fu Tryz.prog 31=some (false,1):=by kernel_rfl
theorem Vx :fu Tryz.prog 32=some (false,1):=by kernel_rfl
theorem xE :fu Tryz.prog 34=some (true,6):=by kernel_rfl
theorem Vw :fu Tryz.prog 35=some (false,1):=by kernel_rfl
theorem jF :fu Tryz.prog 37=some (true,10):=by kernel_rfl
theorem Yd :fu Tryz.prog 39=some (true,12):=by kernel_rfl
theorem Zw :fu Tryz.prog 4=some (false,1):=by kernel_rfl
theorem Vv :fu Tryz.prog 49=some (false,1):=by kernel_rfl
theorem Vu :fu Tryz.prog 61=some (false,1):=by kernel_rfl
theorem RL :fu Tryz.prog 63=some (true,2):=by kernel_rfl
theorem xD :fu Tryz.prog 68=some (false,1):=by kernel_rfl
theorem Dg :fu Tryz.prog 70=some (false,1):=by kernel_rfl
theorem RJ :fu Tryz.prog 9=some (false,1):=by kernel_rfl
theorem RF :Tryz.prog.underlying 3=some (.int .i64):=by kernel_rfl
theorem Yc :Tryz.prog.underlying 32=some (.slice 9):=by kernel_rfl
theorem Zt :Tryz.prog.underlying 4=some (.bool):=by kernel_rfl
theorem uj :Tryz.prog.underlying 5=some (.int .u8):=by kernel_rfl
theorem ql :Tryz.prog.underlying 68=some (.slice 5):=by kernel_rfl
theorem bN :Tryz.prog.underlying 9=some (.string):=by kernel_rfl
theorem BX :Tryz.prog.underlying 70=some (.pointer 72):=by kernel_rfl
theorem RD :Tryz.prog.underlying 124=some (.pointer 5):=by kernel_rfl
theorem KV :Tryz.prog.underlying 138=some .unsafePointer:=by kernel_rfl
theorem P9 :(Tryz.prog.info? 3).map (·.zero)=some (some (.int .i64 0)):=by kernel_rfl
theorem rJ :jq Tryz.prog 116=some [.int .i64 0,.str [],.int .i64 0]:=by kernel_rfl
theorem V5 :jq Tryz.prog 131=some [.val .nilFunc]:=by kernel_rfl
theorem V4 :jq Tryz.prog 187=some [.own (.slice none 0 0) [],.int .i64 0]:=by kernel_rfl
theorem Rt :jq Tryz.prog 189=some [.int .i64 0,.int .i64 0]:=by kernel_rfl
theorem Rs :jq Tryz.prog 204=some [.int .i64 0]:=by kernel_rfl
theorem Rq :jq Tryz.prog 221=some [.str [],.str [],.str [],.str [],.str [],.str [],.str [],.str []]:=by kernel_rfl
theorem O8 :jq Tryz.prog 24=some [.int .i64 0]:=by kernel_rfl
theorem Zr :jq Tryz.prog 3=some [.int .i64 0]:=by kernel_rfl
theorem X_ :jq Tryz.prog 32=some [.own (.slice none 0 0) []]:=by kernel_rfl
theorem nA :jq Tryz.prog 34=some [.int .i64 0,.bool false,.int .i64 0,.str [],.own (.slice none 0 0) [],.own (.slice none 0 0) []]:=by kernel_rfl
theorem j_ :jq Tryz.prog 37=some [.int .i64 0,.str [],.int .i64 0,.bool false,.int .i64 0,.str [],.own (.slice none 0 0) [],.own (.slice none 0 0) [],.own (.slice none 0 0) [],.own (.slice none 0 0) []]:=by kernel_rfl
theorem Mk :jq Tryz.prog 39=some [.str [],.bool false,.int .i64 0,.str [],.int .i64 0,.bool false,.int .i64 0,.str [],.own (.slice none 0 0) [],.own (.slice none 0 0) [],.own (.slice none 0 0) [],.own (.slice none 0 0) []]:=by kernel_rfl
theorem Vm :jq Tryz.prog 60=some [.str [],.int .i64 0,.bool false,.int .i64 0,.str [],.own (.slice none 0 0) [],.own (.slice none 0 0) []]:=by kernel_rfl
theorem tX :jq Tryz.prog 63=some [.int .i64 0,.own (.slice none 0 0) []]:=by kernel_rfl
theorem Vl :jq Tryz.prog 66=some [.str [],.int .i64 0,.own (.slice none 0 0) []]:=by kernel_rfl
theorem O7 :jq Tryz.prog 72=some [.val (.pointer none),.own (.slice none 0 0) []]:=by kernel_rfl
theorem X9 :jq Tryz.prog 74=some [.own (.slice none 0 0) [],.val (.pointer none),.own (.slice none 0 0) []]:=by kernel_rfl
def FX :Facts:={ti:=[(3,false,1),(4,false,1),(5,false,1),(9,false,1),(23,false,1),(24,false,1),(31,false,1),(32,false,1),(34,true,6),(35,false,1),(37,true,10),(39,true,12),(49,false,1),(60,true,7),(63,true,2),(66,true,3),(116,true,3),(187,true,2),(189,true,2),(204,true,1)],fo:=[(34,0,0),(34,1,1),(34,2,2),(34,3,3),(34,4,4),(34,5,5),(37,0,0),(37,1,1),(37,2,2),(37,3,8),(37,4,9),(39,0,0),(39,1,1),(39,2,2),(60,0,0),(60,1,1),(63,0,0),(63,1,1),(66,0,0),(66,1,1),(74,0,0),(74,1,1),(116,0,0),(116,1,1),(116,2,2),(187,0,0),(187,1,1),(189,0,0),(189,1,1),(204,0,0)],fd:=[],str:=[]}
theorem aR :FX.okB Tryz.prog=true:=by kernel_rfl
theorem cs {n:Nat} {all:Array Oper} {σ:List aJ} {ds:List Deferred} {Q:Post} (k:Nat) {l l':List Oper} {env env':Env} (h:FQ FX all n k l env=some (env',l')) (hr:AR Tryz.prog n all l' env' σ ds Q):AR Tryz.prog n all l env σ ds Q:=AR.cs aR k h hr
def FY :FB:=⟨{FX with ti:=FX.ti ++ [(3,false,1),(4,false,1),(9,false,1),(31,false,1),(32,false,1),(34,true,6),(37,true,10),(39,true,12),(60,true,7),(61,false,1),(63,true,2),(66,true,3),(116,true,3),(131,false,1),(221,true,8)]},[(34,[.int .i64 0,.bool false,.int .i64 0,.str [],.own (.slice none 0 0) [],.own (.slice none 0 0) []]),(37,[.int .i64 0,.str [],.int .i64 0,.bool false,.int .i64 0,.str [],.own (.slice none 0 0) [],.own (.slice none 0 0) [],.own (.slice none 0 0) [],.own (.slice none 0 0) []]),(39,[.str [],.bool false,.int .i64 0,.str [],.int .i64 0,.bool false,.int .i64 0,.str [],.own (.slice none 0 0) [],.own (.slice none 0 0) [],.own (.slice none 0 0) [],.own (.slice none 0 0) []]),(60,[.str [],.int .i64 0,.bool false,.int .i64 0,.str [],.own (.slice none 0 0) [],.own (.slice none 0 0) []]),(63,[.int .i64 0,.own (.slice none 0 0) []]),(66,[.str [],.int .i64 0,.own (.slice none 0 0) []]),(116,[.int .i64 0,.str [],.int .i64 0]),(189,[.int .i64 0,.int .i64 0])],[(34,[(0,1),(1,1),(2,1),(3,1),(4,1),(5,1)]),(37,[(0,1),(1,1),(2,6),(8,1),(9,1)]),(39,[(0,1),(1,1),(2,10)]),(60,[(0,1),(1,6)]),(63,[(0,1),(1,1)]),(66,[(0,1),(1,2)]),(116,[(0,1),(1,1),(2,1)]),(189,[(0,1),(1,1)])]⟩
instance : FK Tryz.prog:=⟨FY,⟨by kernel_rfl,by kernel_rfl,by kernel_rfl⟩,[10,11,14,15,16,17,19,26,27,28,29,30,31,36,37,38,39,41,42,43,50,55,56,59,62,63,64,70,71,73,74,75,76,77,79,81,82,85,86,88,92,93,98,100,101,102,108,109,110,111,112,113,118,119,121,122,125,126,127,128,132,133,139,140,141,143,144,146,147,148,155,156,157,161,166,167,168,169,171,173,184,185,186,187,193,194,195,197,201,202,203,204,214,217,220,221,224,225,226,227,228,230,241,244,245,255,261,264,270,274,276,299,300,301,302,303,311,312,313,314,315,318,330,333,344,348,350,354,355,356,364,368,383,384,388,389,390,410,411],by kernel_rfl⟩
variable {τ : List aJ} {Q : cK → List aJ → Prop}
abbrev PC :=AC Tryz.prog
@[reducible] def iP (x:Int):PV:=.int .i64 x
@[reducible] def sP (x:List Str):PV:=.list (List.map iW x)
@[reducible] def pP (b:Nat):PV:=.val (.pointer (some ⟨b,0,none⟩))
@[reducible] def aT (x:aj):List PV:=[.int .i64 x.kind,.bool x.jd,.int .i64 x.iG,.str x.jK,.list (aj.bL x.aW),.list (List.map iW x.keys)]
@[reducible] def aQ (x:ah):List PV:=[.int .i64 x.kind,.str x.name,.int .i64 x.value.kind,.bool x.value.jd,.int .i64 x.value.iG,.str x.value.jK,.list (aj.bL x.value.aW),.list (List.map iW x.value.keys),.list (ah.bL x.args),.list (List.map iW x.keys)]
@[reducible] def QG (x:aB):List PV:=[.str x.text,.bool x.Oz,.int .i64 x.expr.kind,.str x.expr.name,.int .i64 x.expr.value.kind,.bool x.expr.value.jd,.int .i64 x.expr.value.iG,.str x.expr.value.jK,.list (aj.bL x.expr.value.aW),.list (List.map iW x.expr.value.keys),.list (ah.bL x.expr.args),.list (List.map iW x.expr.keys)]
@[reducible] def Zl (x:bO):List PV:=[.str x.name,.int .i64 x.value.kind,.bool x.value.jd,.int .i64 x.value.iG,.str x.value.jK,.list (aj.bL x.value.aW),.list (List.map iW x.value.keys)]
@[reducible] def bS (x:ay):List PV:=[.int .i64 x.kind,.list (ay.bL x.elem)]
@[reducible] def YJ (x:bF):List PV:=[.str x.name,.int .i64 x.zU.kind,.list (ay.bL x.zU.elem)]
@[reducible] def rY (x:aI):List PV:=[.int .i64 x.kind,.str x.text,.int .i64 x.at_]
@[reducible] def aS (x:au):List PV:=[.list (List.map aI.cells x.ts),.int .i64 x.at_]
@[reducible] def jA (x:aA):List PV:=[.int .i64 x.at_,.int .i64 x.code]
theorem zF {b:Nat} {v p:Value} {bs:List UInt8} (hp:p=Value.pointer none∨p=.pointer (some ⟨b,0,none⟩)) {R:cK→List aJ→Prop} (h:R (.ret (.tuple [])) [.iU b 72 [.val (.pointer (some ⟨b,0,none⟩)),.own v (bs.map dL)],.row v bs.length 1 5]):
    AC Tryz.prog 60 [.val (.pointer (some ⟨b,0,none⟩))] [.iU b 72 [.val p,.own v (bs.map dL)],.row v bs.length 1 5] R:=by
  obtain ⟨j,hj1,hj2⟩:=inB; rcases hp with rfl | rfl
  · skip
    refine AC.lZ 20 [] [0] Tryz.func60 rfl rfl rfl rfl rfl ?_; refine AW.seq ?_; refine AW.region ?_; refine AR.step rfl rfl rfl (AO.calc' rfl ?_); refine AR.step rfl rfl rfl (AO.nilCheck rfl rfl ?_); refine AR.step rfl rfl rfl (AO.bK rfl rfl Gl ?_); refine AR.step rfl rfl rfl (AO.gD (i:=0) rfl rfl rfl Dg rfl rfl ?_); refine AR.step rfl rfl rfl (AO.Gf rfl BX rfl rfl ?_); refine AR.nil [0,6] rfl ?_; refine AW.cond rfl (fun h1=>?_) (fun h1=>?_)
    · refine AW.region ?_; refine AR.step rfl rfl rfl (AO.calc' rfl ?_); refine AR.step rfl rfl rfl (AO.calc' rfl ?_); refine AR.step rfl rfl rfl (AO.Qh (i:=0) rfl BX KV hj1 hj2 rfl rfl rfl ?_); refine AR.step rfl rfl rfl (AO.M0 rfl rfl rfl rfl Tryz.func96 (by kernel_rfl) (by kernel_rfl) (by kernel_rfl) (by kernel_rfl) rfl ?_); refine AR.step rfl rfl rfl (AO.Nj (i:=0) rfl KV BX hj1 rfl rfl rfl YI ?_); refine AR.step rfl rfl rfl (AO.nilCheck rfl rfl ?_); refine AR.step rfl rfl rfl (AO.bK rfl rfl Gl ?_); refine AR.bD rfl rfl (AO.lV (i:=0) rfl rfl rfl Dg rfl rfl rfl rfl rfl ?_); refine AR.nil [] rfl ?_; exact ⟨rfl,[],rfl,_,List.Sublist.refl _,h⟩
    · cases h1
  · skip
    refine AC.lZ 20 [] [0] Tryz.func60 rfl rfl rfl rfl rfl ?_; refine AW.seq ?_; refine AW.region ?_; refine AR.step rfl rfl rfl (AO.calc' rfl ?_); refine AR.step rfl rfl rfl (AO.nilCheck rfl rfl ?_); refine AR.step rfl rfl rfl (AO.bK rfl rfl Gl ?_); refine AR.step rfl rfl rfl (AO.gD (i:=0) rfl rfl rfl Dg rfl rfl ?_); refine AR.step rfl rfl rfl (AO.Gf rfl BX rfl rfl ?_); refine AR.nil [0,6] rfl ?_; refine AW.cond rfl (fun h1=>?_) (fun h1=>?_)
    · cases h1
    · refine AW.seq ?_; refine AW.region ?_; refine AR.step rfl rfl rfl (AO.calc' rfl ?_); refine AR.step rfl rfl rfl (AO.nilCheck rfl rfl ?_); refine AR.step rfl rfl rfl (AO.bK rfl rfl Gl ?_); refine AR.step rfl rfl rfl (AO.gD (i:=0) rfl rfl rfl Dg rfl rfl ?_); refine AR.step rfl rfl rfl (AO.calc' rfl ?_); refine AR.step rfl rfl rfl (AO.Dv rfl BX hj1 rfl rfl ?_); refine AR.nil [19] rfl ?_; refine AW.cond rfl (fun h2=>?_) (fun h2=>?_)
      · cases h2
      · refine AW.skip ?_; exact ⟨rfl,[],rfl,_,List.Sublist.refl _,h⟩
theorem gB {b:Nat} {v:Value} {bs r:List UInt8} {c:UInt8} (hv:app bs [c]=some r) {R:cK→List aJ→Prop} (h:∀ v',R (.ret (.val .nilIface)) [.Da b v' 72 5 r]):AC Tryz.prog 28 [.val (.pointer (some ⟨b,0,none⟩)),.int .u8 (c.toNat:Int)] [.Da b v 72 5 bs] R:=by
  refine AC.Da fun p hp hroom=>?_; refine AC.lZ 17 [.tmp 4] [0,1] Tryz.func28 rfl rfl rfl rfl rfl ?_; refine AW.seq ?_; refine AW.region ?_; refine AR.step rfl rfl rfl (AO.calc' rfl ?_); refine AR.nil [0,1] rfl ?_; refine AW.seq ?_; refine AW.region ?_; refine AR.step rfl rfl rfl (AO.calc' rfl ?_); refine AR.step rfl rfl rfl (AO.call rfl _ rfl rfl VF (zF hp ?_)); refine AR.nil [0,1] rfl ?_; refine AW.seq ?_; refine AW.region ?_; refine AR.step rfl rfl rfl (AO.calc' rfl ?_); refine AR.step rfl rfl rfl (AO.calc' rfl ?_); refine AR.step rfl rfl rfl (AO.nilCheck rfl rfl ?_); refine AR.step rfl rfl rfl (AO.bK rfl rfl uG ?_); refine AR.step rfl rfl rfl (AO.gD (i:=0) rfl rfl rfl xD rfl rfl ?_); refine AR.step rfl rfl rfl (AO.calc' rfl ?_); refine AR.step rfl rfl rfl (AO.buildSlice rfl mY rfl rfl rfl ?_); refine AR.step rfl rfl rfl (AO.EW (i:=1) hv rfl rfl rfl rfl rfl (Ck.list rfl KD (by simp [dL]) (by simp [dL,PV.one])) rfl mY (fun v' s1 hs1 hr1=>?_)); cases hs1; refine AR.step rfl rfl rfl (AO.nilCheck rfl rfl ?_); refine AR.step rfl rfl rfl (AO.bK rfl rfl uG ?_); refine AR.bD rfl rfl (AO.lV (i:=0) rfl rfl rfl xD rfl rfl rfl rfl rfl ?_); refine AR.nil [1] rfl ?_; refine AW.seq ?_; refine AW.region ?_; refine AR.step rfl rfl rfl (AO.calc' rfl ?_); refine AR.nil [4] rfl ?_; refine AW.ret ?_; exact ⟨rfl,_,⟨_,_,rfl,rfl,rfl⟩,_,List.Sublist.refl _,_,v',r,rfl,.inr rfl,hr1 hroom,h v'⟩
theorem eT {b:Nat} {v:Value} {bs r:List UInt8} {s:List UInt8} (hv:app bs s=some r) {R:cK→List aJ→Prop} (h:∀ v',R (.ret (.tuple [.int .i64 (s.length:Int),.val .nilIface])) [.Da b v' 72 5 r]):AC Tryz.prog 36 [.val (.pointer (some ⟨b,0,none⟩)),.str s] [.Da b v 72 5 bs] R:=by
  refine AC.Da fun p hp hroom=>?_; refine AC.lZ 19 [.tmp 4,.tmp 5] [0,1] Tryz.func36 rfl rfl rfl rfl rfl ?_; refine AW.seq ?_; refine AW.region ?_; refine AR.step rfl rfl rfl (AO.calc' rfl ?_); refine AR.step rfl rfl rfl (AO.calc' rfl ?_); refine AR.nil [0,1] rfl ?_; refine AW.seq ?_; refine AW.region ?_; refine AR.step rfl rfl rfl (AO.calc' rfl ?_); refine AR.step rfl rfl rfl (AO.call rfl _ rfl rfl VF (zF hp ?_)); refine AR.nil [0,1] rfl ?_; refine AW.seq ?_; refine AW.region ?_; refine AR.step rfl rfl rfl (AO.calc' rfl ?_); refine AR.step rfl rfl rfl (AO.calc' rfl ?_); refine AR.step rfl rfl rfl (AO.nilCheck rfl rfl ?_); refine AR.step rfl rfl rfl (AO.bK rfl rfl uG ?_); refine AR.step rfl rfl rfl (AO.gD (i:=0) rfl rfl rfl xD rfl rfl ?_); refine AR.step rfl rfl rfl (AO.calc' rfl ?_); refine AR.step rfl rfl rfl (AO.EW (i:=1) hv rfl rfl rfl rfl rfl (Ck.str bN) rfl mY (fun v' s1 hs1 hr1=>?_)); cases hs1; refine AR.step rfl rfl rfl (AO.nilCheck rfl rfl ?_); refine AR.step rfl rfl rfl (AO.bK rfl rfl uG ?_); refine AR.bD rfl rfl (AO.lV (i:=0) rfl rfl rfl xD rfl rfl rfl rfl rfl ?_); refine AR.nil [1] rfl ?_; refine AW.seq ?_; refine AW.region ?_; refine AR.step rfl rfl rfl (AO.calc' rfl ?_); refine AR.step rfl rfl rfl (AO.bG rfl rfl rfl rfl bN rfl ?_); refine AR.step rfl rfl rfl (AO.calc' rfl ?_); refine AR.step rfl rfl rfl (AO.calc' rfl ?_); refine AR.nil [4,5] rfl ?_; refine AW.ret ?_; exact ⟨rfl,_,⟨_,_,rfl,rfl,_,_,rfl,rfl,rfl⟩,_,List.Sublist.refl _,_,v',r,rfl,.inr rfl,hr1 hroom,h v'⟩
theorem Q8 {b:Nat} {v:Value} {bs:List UInt8} {R:cK→List aJ→Prop} (h:R (.ret (.int .i64 (bs.length:Int))) [.Da b v 72 5 bs]):AC Tryz.prog 43 [.val (.pointer (some ⟨b,0,none⟩))] [.Da b v 72 5 bs] R:=by
  refine AC.Da fun p hp hroom=>?_; refine AC.lZ 8 [.tmp 2] [0] Tryz.func43 rfl rfl rfl rfl rfl ?_; refine AW.seq ?_; refine AW.region ?_; refine AR.step rfl rfl rfl (AO.calc' rfl ?_); refine AR.nil [0] rfl ?_; refine AW.seq ?_; refine AW.region ?_; refine AR.step rfl rfl rfl (AO.calc' rfl ?_); refine AR.step rfl rfl rfl (AO.nilCheck rfl rfl ?_); refine AR.step rfl rfl rfl (AO.bK rfl rfl uG ?_); refine AR.step rfl rfl rfl (AO.gD (i:=0) rfl rfl rfl xD rfl rfl ?_); refine AR.step rfl rfl rfl (AO.aM (l:=bs) rfl rfl rfl rfl KD rfl rfl ?_); refine AR.step rfl rfl rfl (AO.calc' rfl ?_); refine AR.nil [2] rfl ?_; refine AW.ret ?_; exact ⟨rfl,_,⟨_,_,rfl,rfl,rfl⟩,_,List.Sublist.refl _,p,v,bs,rfl,hp,hroom,h⟩
theorem uK {b:Nat} {v:Value} {bs:List UInt8} {R:cK→List aJ→Prop} (h:R (.ret (.str bs)) []):AC Tryz.prog 39 [.val (.pointer (some ⟨b,0,none⟩))] [.Da b v 72 5 bs] R:=by
  refine AC.Ve fun p hroom=>?_; refine AC.lZ 14 [.tmp 2] [0] Tryz.func39 rfl rfl rfl rfl rfl ?_; refine AW.seq ?_; refine AW.region ?_; refine AR.step rfl rfl rfl (AO.calc' rfl ?_); refine AR.nil [0] rfl ?_; refine AW.seq ?_; refine AW.draw 10 mixed (by kernel_rfl) rfl ?_; refine Ev.cons rfl rfl rfl (AO.calc' rfl ⟨rfl,rfl⟩) ?_; refine Ev.cons rfl rfl rfl (AO.nilCheck rfl rfl ⟨rfl,rfl⟩) ?_; refine Ev.cons rfl rfl rfl (AO.bK rfl rfl uG ⟨rfl,rfl⟩) ?_; refine Ev.cons rfl rfl rfl (AO.gD (i:=0) rfl rfl rfl xD rfl rfl ⟨rfl,rfl⟩) ?_; refine Ev.cons rfl rfl rfl (AO.sliceData rfl rfl rfl rfl hroom ⟨rfl,rfl⟩) ?_; refine Ev.cons rfl rfl rfl (AO.calc' rfl ⟨rfl,rfl⟩) ?_; refine Ev.cons rfl rfl rfl (AO.nilCheck rfl rfl ⟨rfl,rfl⟩) ?_; refine Ev.cons rfl rfl rfl (AO.bK rfl rfl uG ⟨rfl,rfl⟩) ?_; refine Ev.cons rfl rfl rfl (AO.gD (i:=0) rfl rfl rfl xD rfl rfl ⟨rfl,rfl⟩) ?_; refine Ev.cons rfl rfl rfl (AO.aM (l:=bs) rfl rfl rfl rfl KD rfl rfl ⟨rfl,rfl⟩) ?_; refine Ev.nil ?_; show AR _ _ _ _ _ _ _ _; refine AR.step rfl rfl rfl (AO.unsafeString rfl rfl rfl rfl RD Za rfl rfl rfl ?_); refine AR.step rfl rfl rfl (AO.calc' rfl ?_); refine AR.nil [2] rfl ?_; refine AW.ret ?_; exact ⟨rfl,_,⟨_,_,rfl,rfl,rfl⟩,[],List.nil_sublist _,h⟩
theorem Ja {b:Nat} {q:PV} {v p:Value} {bs:List UInt8} (hp:p=Value.pointer none∨p=.pointer (some ⟨b,1,none⟩)) {R:cK→List aJ→Prop} (h:R (.ret (.tuple [])) [.row v (List.length bs) 1 5,.iU b 74 [q,.val (.pointer (some ⟨b,1,none⟩)),.own v (List.map dL bs)]]):
    AC Tryz.prog 60 [.val (.pointer (some ⟨b,1,none⟩))] [.row v (List.length bs) 1 5,.iU b 74 [q,.val p,.own v (List.map dL bs)]] R:=by
  obtain ⟨j,hj1,hj2⟩:=inB; rcases hp with rfl | rfl
  · skip
    refine AC.lZ 20 [] [0] Tryz.func60 rfl rfl rfl rfl rfl ?_; refine AW.seq ?_; refine AW.region ?_; refine AR.step rfl rfl rfl (AO.calc' rfl ?_); refine AR.step rfl rfl rfl (AO.nilCheck rfl rfl ?_); refine AR.step rfl rfl rfl (AO.bK rfl rfl Gl ?_); refine AR.step rfl rfl rfl (AO.gD (i:=1) rfl rfl rfl Dg rfl rfl ?_); refine AR.step rfl rfl rfl (AO.Gf rfl BX rfl rfl ?_); refine AR.nil [0,6] rfl ?_; refine AW.cond rfl (fun h1=>?_) (fun h1=>?_)
    · refine AW.region ?_; refine AR.step rfl rfl rfl (AO.calc' rfl ?_); refine AR.step rfl rfl rfl (AO.calc' rfl ?_); refine AR.step rfl rfl rfl (AO.Oh (i:=1) (n:=1) rfl BX KV hj1 hj2 rfl rfl rfl ?_); refine AR.step rfl rfl rfl (AO.M0 rfl rfl rfl rfl Tryz.func96 (by kernel_rfl) (by kernel_rfl) (by kernel_rfl) (by kernel_rfl) rfl ?_); refine AR.step rfl rfl rfl (AO.Ls (i:=1) rfl KV BX hj1 rfl rfl rfl YH ?_); refine AR.step rfl rfl rfl (AO.nilCheck rfl rfl ?_); refine AR.step rfl rfl rfl (AO.bK rfl rfl Gl ?_); refine AR.bD rfl rfl (AO.lV (i:=1) rfl rfl rfl Dg rfl rfl rfl rfl rfl ?_); refine AR.nil [] rfl ?_; exact ⟨rfl,[],rfl,_,List.Sublist.refl _,h⟩
    · cases h1
  · skip
    refine AC.lZ 20 [] [0] Tryz.func60 rfl rfl rfl rfl rfl ?_; refine AW.seq ?_; refine AW.region ?_; refine AR.step rfl rfl rfl (AO.calc' rfl ?_); refine AR.step rfl rfl rfl (AO.nilCheck rfl rfl ?_); refine AR.step rfl rfl rfl (AO.bK rfl rfl Gl ?_); refine AR.step rfl rfl rfl (AO.gD (i:=1) rfl rfl rfl Dg rfl rfl ?_); refine AR.step rfl rfl rfl (AO.Gf rfl BX rfl rfl ?_); refine AR.nil [0,6] rfl ?_; refine AW.cond rfl (fun h1=>?_) (fun h1=>?_)
    · cases h1
    · refine AW.seq ?_; refine AW.region ?_; refine AR.step rfl rfl rfl (AO.calc' rfl ?_); refine AR.step rfl rfl rfl (AO.nilCheck rfl rfl ?_); refine AR.step rfl rfl rfl (AO.bK rfl rfl Gl ?_); refine AR.step rfl rfl rfl (AO.gD (i:=1) rfl rfl rfl Dg rfl rfl ?_); refine AR.step rfl rfl rfl (AO.calc' rfl ?_); refine AR.step rfl rfl rfl (AO.Dv rfl BX hj1 rfl rfl ?_); refine AR.nil [19] rfl ?_; refine AW.cond rfl (fun h2=>?_) (fun h2=>?_)
      · cases h2
      · refine AW.skip ?_; exact ⟨rfl,[],rfl,_,List.Sublist.refl _,h⟩
theorem Bc {b:Nat} {q:PV} {v p:Value} {bs r:List UInt8} (hp:p=Value.pointer none∨p=.pointer (some ⟨b,1,none⟩)) (hroom:roomy v=true) {c:UInt8} (hv:app bs [c]=some r) {R:cK→List aJ→Prop} (h:∀ v',roomy v'=true→R (.ret (.val .nilIface)) [.row v' (List.length r) 1 5,.iU b 74 [q,.val (.pointer (some ⟨b,1,none⟩)),.own v' (List.map dL r)]]):AC Tryz.prog 28 [.val (.pointer (some ⟨b,1,none⟩)),.int .u8 (c.toNat:Int)] [.row v (List.length bs) 1 5,.iU b 74 [q,.val p,.own v (List.map dL bs)]] R:=by
  refine AC.lZ 17 [.tmp 4] [0,1] Tryz.func28 rfl rfl rfl rfl rfl ?_; refine AW.seq ?_; refine AW.region ?_; refine AR.step rfl rfl rfl (AO.calc' rfl ?_); refine AR.nil [0,1] rfl ?_; refine AW.seq ?_; refine AW.region ?_; refine AR.step rfl rfl rfl (AO.calc' rfl ?_); refine AR.step rfl rfl rfl (AO.call rfl _ rfl rfl VF (Ja hp ?_)); refine AR.nil [0,1] rfl ?_; refine AW.seq ?_; refine AW.region ?_; refine AR.step rfl rfl rfl (AO.calc' rfl ?_); refine AR.step rfl rfl rfl (AO.calc' rfl ?_); refine AR.step rfl rfl rfl (AO.nilCheck rfl rfl ?_); refine AR.step rfl rfl rfl (AO.bK rfl rfl uG ?_); refine AR.step rfl rfl rfl (AO.gD (i:=1) rfl rfl rfl xD rfl rfl ?_); refine AR.step rfl rfl rfl (AO.calc' rfl ?_); refine AR.step rfl rfl rfl (AO.buildSlice rfl mY rfl rfl rfl ?_); refine AR.step rfl rfl rfl (AO.EW (i:=0) hv rfl rfl rfl rfl rfl (Ck.list rfl KD (by simp [dL]) (by simp [dL,PV.one])) rfl mY (fun v' s1 hs1 hr1=>?_)); cases hs1; refine AR.step rfl rfl rfl (AO.nilCheck rfl rfl ?_); refine AR.step rfl rfl rfl (AO.bK rfl rfl uG ?_); refine AR.bD rfl rfl (AO.lV (i:=1) rfl rfl rfl xD rfl rfl rfl rfl rfl ?_); refine AR.nil [1] rfl ?_; refine AW.seq ?_; refine AW.region ?_; refine AR.step rfl rfl rfl (AO.calc' rfl ?_); refine AR.nil [4] rfl ?_; refine AW.ret ?_; exact ⟨rfl,_,⟨_,_,rfl,rfl,rfl⟩,_,List.Sublist.refl _,h v' (hr1 hroom)⟩
theorem TI {b:Nat} {q:PV} {v p:Value} {bs:List UInt8} {R:cK→List aJ→Prop} (h:R (.ret (.int .i64 (bs.length:Int))) [.row v (List.length bs) 1 5,.iU b 74 [q,.val p,.own v (List.map dL bs)]]):AC Tryz.prog 43 [.val (.pointer (some ⟨b,1,none⟩))] [.row v (List.length bs) 1 5,.iU b 74 [q,.val p,.own v (List.map dL bs)]] R:=by
  refine AC.lZ 8 [.tmp 2] [0] Tryz.func43 rfl rfl rfl rfl rfl ?_; refine AW.seq ?_; refine AW.region ?_; refine AR.step rfl rfl rfl (AO.calc' rfl ?_); refine AR.nil [0] rfl ?_; refine AW.seq ?_; refine AW.region ?_; refine AR.step rfl rfl rfl (AO.calc' rfl ?_); refine AR.step rfl rfl rfl (AO.nilCheck rfl rfl ?_); refine AR.step rfl rfl rfl (AO.bK rfl rfl uG ?_); refine AR.step rfl rfl rfl (AO.gD (i:=1) rfl rfl rfl xD rfl rfl ?_); refine AR.step rfl rfl rfl (AO.aM (l:=bs) rfl rfl rfl rfl KD rfl rfl ?_); refine AR.step rfl rfl rfl (AO.calc' rfl ?_); refine AR.nil [2] rfl ?_; refine AW.ret ?_; exact ⟨rfl,_,⟨_,_,rfl,rfl,rfl⟩,_,List.Sublist.refl _,h⟩
theorem NN {b:Nat} {q:PV} {v p:Value} {bs:List UInt8} (hroom:roomy v=true) {R:cK→List aJ→Prop} (h:R (.ret (.str bs)) [.iU b 74 [q,.val p,.own v (List.map dL bs)]]):AC Tryz.prog 39 [.val (.pointer (some ⟨b,1,none⟩))] [.row v (List.length bs) 1 5,.iU b 74 [q,.val p,.own v (List.map dL bs)]] R:=by
  refine AC.lZ 14 [.tmp 2] [0] Tryz.func39 rfl rfl rfl rfl rfl ?_; refine AW.seq ?_; refine AW.region ?_; refine AR.step rfl rfl rfl (AO.calc' rfl ?_); refine AR.nil [0] rfl ?_; refine AW.seq ?_; refine AW.draw 10 mixed (by kernel_rfl) rfl ?_; refine Ev.cons rfl rfl rfl (AO.calc' rfl ⟨rfl,rfl⟩) ?_; refine Ev.cons rfl rfl rfl (AO.nilCheck rfl rfl ⟨rfl,rfl⟩) ?_; refine Ev.cons rfl rfl rfl (AO.bK rfl rfl uG ⟨rfl,rfl⟩) ?_; refine Ev.cons rfl rfl rfl (AO.gD (i:=1) rfl rfl rfl xD rfl rfl ⟨rfl,rfl⟩) ?_; refine Ev.cons rfl rfl rfl (AO.sliceData rfl rfl rfl rfl hroom ⟨rfl,rfl⟩) ?_; refine Ev.cons rfl rfl rfl (AO.calc' rfl ⟨rfl,rfl⟩) ?_; refine Ev.cons rfl rfl rfl (AO.nilCheck rfl rfl ⟨rfl,rfl⟩) ?_; refine Ev.cons rfl rfl rfl (AO.bK rfl rfl uG ⟨rfl,rfl⟩) ?_; refine Ev.cons rfl rfl rfl (AO.gD (i:=1) rfl rfl rfl xD rfl rfl ⟨rfl,rfl⟩) ?_; refine Ev.cons rfl rfl rfl (AO.aM (l:=bs) rfl rfl rfl rfl KD rfl rfl ⟨rfl,rfl⟩) ?_; refine Ev.nil ?_; show AR _ _ _ _ _ _ _ _; refine AR.step rfl rfl rfl (AO.Jr rfl rfl rfl rfl RD Za rfl rfl rfl ?_); refine AR.step rfl rfl rfl (AO.calc' rfl ?_); refine AR.nil [2] rfl ?_; refine AW.ret ?_; exact ⟨rfl,_,⟨_,_,rfl,rfl,rfl⟩,_,List.Sublist.refl _,h⟩
theorem Jb {b:Nat} {q:PV} {v p:Value} {bs:List UInt8} {R:cK→List aJ→Prop} (h:R (.ret (.tuple [])) [.iU b 74 [q,.val (.pointer none),.own (.slice none 0 0) (List.map dL [])]]):AC Tryz.prog 65 [.val (.pointer (some ⟨b,1,none⟩))] [.iU b 74 [q,.val p,.own v (List.map dL bs)]] R:=by
  refine AC.lZ 8 [] [0] Tryz.func65 rfl rfl rfl rfl rfl ?_; refine AW.seq ?_; refine AW.region ?_; refine AR.step rfl rfl rfl (AO.calc' rfl ?_); refine AR.step rfl rfl rfl (AO.nilCheck rfl rfl ?_); refine AR.step rfl rfl rfl (AO.bK rfl rfl Gl ?_); refine AR.bD rfl rfl (AO.lV (i:=0) rfl rfl rfl Dg rfl rfl rfl rfl rfl ?_); refine AR.nil [0] rfl ?_; refine AW.region ?_; refine AR.step rfl rfl rfl (AO.calc' rfl ?_); refine AR.step rfl rfl rfl (AO.nilCheck rfl rfl ?_); refine AR.step rfl rfl rfl (AO.bK rfl rfl uG ?_); refine AR.bD rfl rfl (AO.lV (i:=0) rfl rfl rfl xD rfl rfl rfl rfl rfl ?_); refine AR.nil [] rfl ?_; exact ⟨rfl,[],rfl,_,List.Sublist.refl _,h⟩
abbrev Fy (jl:ah→Option Int):Prop:=∀ (eD:ah) {aL:Int},jl eD=some aL→∀ {τ:List aJ} {Q:cK→List aJ→Prop} (h:Q (.ret (iP aL)) τ),PC 14 [.agg (aQ eD)] τ Q
theorem Ms (jl) (JG:Fy jl) (e1:ah) {r0:Int} (hf:wG jl e1=some r0) (h:Q (.ret (iP r0)) τ):PC 14 [.agg (aQ e1)] τ Q:=by
 unfold wG at hf; refine BN 21 [.tmp 2] [0] Tryz.func14 Z Z Z Z Z (V 4 Z (KN (fun n1 i1=>[(1,.ref (aQ e1)),(3,iP n1),(4,iP i1)]) (fun n1 i1=>[]) (fun bP n1 i1=>qz jl e1 bP n1 i1=some r0) BIG 1 0 Z Z hf (fun _ _ hz=>aU hz) ?_)); intro bP n1 i1 hf; rw [qz] at hf; refine W 3 Z (AS Z (AO.aM (l:=e1.args) Z Z Z Z dQ Z (ah.aC _) (J 1 Z (C hf Z (fun h1 hf=>?_) fun h1 hf=>?_))))
 · refine B1 hf fun e2 h2 hf=>W 4 Z (AS Z (AO.aK h2 Z Z (ah.aC _) Z dQ (ah.aF _) Z ?_)); refine B1 hf fun x1 h3 hf=>U 1 Z (CL Z (JG _ h3 ?_)); exact N 5 Z ⟨(bQ (n1 + x1)),(bQ (i1 + 1)),Z,Z,Z,hf⟩
 cases hf; exact M 2 Z (Y Z h)
theorem M8 :∀ k:Nat,(Fy (kQ k)):=by
 intro k
 induction k with
 | zero=>exact fun _ _ hz=>by first | cases hz | (unfold kQ at hz; cases hz)
 | succ k ih=>exact fun eD aL hz τ Q hq=>Ms (kQ k) ih eD hz hq
theorem Fh (eD:ah) {aL:Int} (hf:xM eD=some aL) (h:Q (.ret (iP aL)) τ):PC 14 [.agg (aQ eD)] τ Q:=
 ((M8 BIG)) eD hf h
theorem I4 {r0:Str} (hf:DC=some r0) (h:Q (.ret (.str r0)) τ):PC 26 [] τ Q:=by
 unfold DC at hf; refine BN 3 [.tmp 0] [] Tryz.func26 Z Z Z Z Z (W 1 Z (AS Z (AO.bn (List.map dL ([36,123]:List UInt8)) Z mY Z Z Z Z (AS Z (AO.gJ Z ql uj bN Z Z ?_))))); cases hf; exact N 1 Z (Y Z h)
theorem wz (s1:Str) (qB:Str) {r0:Bool} (hf:lK s1 qB=some r0) (h:Q (.ret (.bool r0)) τ):PC 59 [.str s1,.str qB] τ Q:=by
 unfold lK at hf; refine BN 18 [.tmp 4] [0,1] Tryz.func59 Z Z Z Z Z (W 2 Z (AS Z (AO.bG Z Z Z Z bN Z (U 1 Z (AS Z (AO.bG Z Z Z Z bN Z ?_)))))); refine BR hf fun b1 h2 hf=>?_; refine U 2 Z (AR.dx 7 10 17 true [] b1 Z Z (fun h1=>?_) (fun h1=>?_) ?_)
 · replace h2:=kg h1 h2; refine Is 10 h1 Z (U 2 Z (GO Z (AO.bG Z Z Z Z bN Z ?_))); refine B1 h2 fun x1 h3 h2=>GO Z (AO.lW h3 Z bN Z Z ⟨_,Z⟩ ?_); cases h2; exact dB 3 Z (En [17] Z)
 · refine IF 10 h1 h2 Z fun h2=>?_; cases h2; exact dB 7 Z (En [17] Z)
 cases hf; exact N 1 Z (Y Z h)
theorem tZ (s1:Str) (qB:Str) {r0:Bool} (hf:strings_HasPrefix s1 qB=some r0) (h:Q (.ret (.bool r0)) τ):PC 27 [.str s1,.str qB] τ Q:=by
 unfold strings_HasPrefix at hf; refine BN 8 [.tmp 4] [0,1] Tryz.func27 Z Z Z Z Z ?_; refine BR hf fun x1 h1 hf=>?_; refine W 3 Z (CL Z (wz _ _ h1 ?_)); cases hf; exact N 1 Z (Y Z h)
theorem ER (s1:Str) (ig:Int) {r0:Int} (hf:vG s1 ig=some r0) (h:Q (.ret (iP r0)) τ):PC 29 [.str s1,iP ig] τ Q:=by
 unfold vG at hf; refine BN 31 [.tmp 4] [0,1] Tryz.func29 Z Z Z Z Z (V 2 Z (KN (fun at2 g_=>[(0,.str s1),(1,iP at2),(5,iP g_)]) (fun at2 g_=>[]) (fun bP at2 g_=>jI s1 bP at2 g_=some r0) BIG ig 0 Z Z hf (fun _ _ hz=>aU hz) ?_)); intro bP at2 g_ hf; rw [jI] at hf; refine W 2 Z (AS Z (AO.bG Z Z Z Z bN Z (J 1 Z (C hf Z (fun h1 hf=>?_) fun h1 hf=>?_))))
 ·
  refine B1 hf fun x1 h2 hf=>W 2 Z (AS Z (AO.dH h2 Z bN Z Z (J 2 Z (C hf Z (fun h3 hf=>?_) fun h3 hf=>?_))))
  · exact aU hf
  refine V 2 Z (C hf Z (fun h4 hf=>?_) fun h4 hf=>?_)
  · exact M 6 Z ⟨(bQ (at2 + 1)),(bQ (g_ + 1)),Z,Z,Z,hf⟩
  refine V 2 Z (C hf Z (fun h5 hf=>?_) fun h5 hf=>?_)
  ·
   refine V 2 Z (C hf Z (fun h6 hf=>?_) fun h6 hf=>?_)
   · cases hf; exact M 2 Z (Y Z h)
   exact M 6 Z ⟨(bQ (at2 + 1)),(bQ (g_ - 1)),Z,Z,Z,hf⟩
  exact M 3 Z ⟨(bQ (at2 + 1)),g_,Z,Z,Z,hf⟩
 cases hf; exact M 1 Z (Y Z h)
theorem EP (mq:Int) {r0:Bool} (hf:vF mq=some r0) (h:Q (.ret (.bool r0)) τ):PC 97 [.int .i32 mq] τ Q:=by
 unfold vF at hf; refine BN 9 [.tmp 2] [0] Tryz.func97 Z Z Z Z Z (W 4 Z (On 3 5 8 [] (mq == 9) Z Z Z Z ?_)); cases hf; exact N 1 Z (Y Z h)
theorem xw (s1:Str) (ig:Int) (AB:UInt8→Option Bool) (Gm:FuncId) (LK:List PV) (Va:aV Tryz.prog Gm=true) (Vb:∀ a0 b0,AB a0=some b0→∀ {τ:List aJ} {Q:cK→List aJ→Prop},Q (.ret (.bool b0)) τ→PC Gm ([.int .u8 (a0.toNat:Int)] ++ LK) τ Q) {r0:Int} (hf:sQ s1 ig AB=some r0) (h:Q (.ret (iP r0)) τ):PC 98 [.str s1,iP ig,.fn Gm LK] τ Q:=by
 unfold sQ at hf; refine BN 21 [.tmp 6] [0,1,2] Tryz.func98 Z Z Z Z Z (V 1 Z (Jh (fun at2=>[(0,.str s1),(1,iP at2),(2,.fn Gm LK)]) (fun at2=>[]) (fun bP at2=>qM s1 AB bP at2=some r0) BIG ig Z Z hf (fun _ hz=>aU hz) ?_)); intro bP at2 hf; rw [qM] at hf; refine W 2 Z (AS Z (AO.bG Z Z Z Z bN Z ?_)); refine B1 hf fun b1 h2 hf=>U 2 Z (AR.dx 6 11 17 true [0,1,2] b1 Z Z (fun h1=>?_) (fun h1=>?_) ?_)
 · refine IT 11 h1 h2 Z fun h2=>?_; refine B1 h2 fun x1 h3 h2=>U 3 Z (GO Z (AO.dH h3 Z bN Z Z ?_)); refine BR h2 fun x2 h4 h2=>?_; refine GO Z (AO.call Z _ Z Z Va (Vb _ _ h4 ?_)); cases h2; exact dB 1 Z (En [17,0,1,2] Z)
 · refine IF 11 h1 h2 Z fun h2=>?_; cases h2; exact dB 6 Z (En [17,0,1,2] Z)
 refine J 0 Z (C hf Z (fun h5 hf=>?_) fun h5 hf=>?_)
 · exact M 3 Z ⟨(bQ (at2 + 1)),Z,Z,Z,hf⟩
 cases hf; exact M 2 Z (Y Z h)
theorem EO (c1:UInt8) {r0:Bool} (hf:qP c1=some r0) (h:Q (.ret (.bool r0)) τ):PC 99 [.int .u8 (c1.toNat:Int)] τ Q:=by
 unfold qP at hf; refine BN 5 [.tmp 2] [0] Tryz.func99 Z Z Z Z Z ?_; cases hf; exact M 4 Z (Y Z h)
theorem vU (c1:UInt8) {r0:Bool} (hf:qN c1=some r0) (h:Q (.ret (.bool r0)) τ):PC 166 [.int .u8 (c1.toNat:Int)] τ Q:=by
 unfold qN at hf; refine BN 21 [.tmp 2] [0] Tryz.func166 Z Z Z Z Z (W 4 Z (An 3 5 8 [0] (decide ((c1.toNat:Int)≤122)) Z Z Z Z (U 1 Z (AR.or 7 9 16 [0] (x:=((decide (65≤(c1.toNat:Int))) && (decide ((c1.toNat:Int)≤90)))) Z Z (fun h2=>?_) (fun h2=>?_) ?_))))
 · refine Is 9 h2 Z (U 3 Z (An 3 12 15 [0,9] (decide ((c1.toNat:Int)≤90)) Z Z Z Z ?_)); exact dB 1 Z (En [16,0] Z)
 · refine Is 9 h2 Z ?_; exact dB 7 Z (En [16,0] Z)
 refine U 1 Z (On 3 17 20 [] ((c1.toNat:Int) == 95) Z Z Z Z ?_); cases hf; exact N 1 Z (Y Z h)
theorem xA (c1:UInt8) {r0:Bool} (hf:qb c1=some r0) (h:Q (.ret (.bool r0)) τ):PC 168 [.int .u8 (c1.toNat:Int)] τ Q:=by
 unfold qb at hf; refine BN 9 [.tmp 2] [0] Tryz.func168 Z Z Z Z Z (W 4 Z (An 3 5 8 [] (decide ((c1.toNat:Int)≤57)) Z Z Z Z ?_)); cases hf; exact N 1 Z (Y Z h)
theorem IY (c1:UInt8) {r0:Bool} (hf:uD c1=some r0) (h:Q (.ret (.bool r0)) τ):PC 240 [.int .u8 (c1.toNat:Int)] τ Q:=by
 unfold uD at hf; refine BN 9 [.tmp 2] [0] Tryz.func240 Z Z Z Z Z ?_; refine B1 hf fun x1 h1 hf=>W 2 Z (CL Z (vU _ h1 ?_)); refine BR hf fun b1 h3 hf=>?_; refine U 1 Z (AR.dx 3 5 8 false [] b1 Z Z (fun h2=>?_) (fun h2=>?_) ?_)
 · refine IF 5 h2 h3 Z fun h3=>?_; refine BR h3 fun x2 h4 h3=>?_; refine U 1 Z (GO Z (AO.call Z _ Z Z Sv (xA _ h4 ?_))); cases h3; exact dB 1 Z (En [8] Z)
 · refine IT 5 h2 h3 Z fun h3=>?_; cases h3; exact dB 3 Z (En [8] Z)
 cases hf; exact N 1 Z (Y Z h)
theorem LZ (eZ:Str) (ig:Int) {r0:aI} {r1:Int} {r2:Int} (hf:CP eZ ig=some (r0,r1,r2)) (h:Q (.ret (.tuple [.agg (rY r0),iP r1,iP r2])) τ):PC 167 [.str eZ,iP ig] τ Q:=by
 unfold CP at hf; refine BN 23 [.cell 4 116,.tmp 5,.tmp 6] [0,1] Tryz.func167 Z Z Z Z Z (W 0 Z (AS Z (AO.aH Z rJ (fun b4=>?_)))); refine B1 hf fun wo h1 hf=>U 4 Z (CL Z (xw _ _ uD 240 [] Wz (fun _ _ hz=>IY _  hz) h1 (J 5 Z (C hf Z (fun h2 hf=>?_) fun h2 hf=>?_))))
 · cases hf; exact Wx 4 [0] Z Z (ZC [0] Z Z h)
 refine B1 hf fun x1 h3 hf=>W 3 Z (AS Z (AO.lW h3 Z bN Z ⟨_,Z⟩ ⟨_,Z⟩ ?_)); cases hf; exact Rx 6 [0] Z Z (ZC [0] Z Z h)
theorem J5 (sF:Str) {r0:Bool} (hf:Aq sF=some r0) (h:Q (.ret (.bool r0)) τ):PC 241 [.str sF] τ Q:=by
 unfold Aq at hf; refine BN 25 [.tmp 2] [0] Tryz.func241 Z Z Z Z Z (V 3 Z (KN (fun n1 i1=>[(0,.str sF),(3,iP n1),(4,iP i1)]) (fun n1 i1=>[]) (fun bP n1 i1=>qO sF bP n1 i1=some r0) BIG 0 0 Z Z hf (fun _ _ hz=>aU hz) ?_)); intro bP n1 i1 hf; rw [qO] at hf; refine W 2 Z (AS Z (AO.bG Z Z Z Z bN Z (U 2 Z (An 3 9 12 [0,3,4] (decide (n1≤9007199254740992)) Z Z Z Z (J 0 Z (C hf Z (fun h2 hf=>?_) fun h2 hf=>?_))))))
 · refine B1 hf fun x1 h3 hf=>W 4 Z (AS Z (AO.dH h3 Z bN Z Z (AS Z (AO.V9 x1 48 Z Z Z Z Z (AS Z (AO.QW Z uj RF Z Z ?_)))))); exact N 5 Z ⟨(bQ ((bQ (10 * n1)) + ((x1 - 48).toNat:Int))),(bQ (i1 + 1)),Z,Z,Z,hf⟩
 cases hf; exact M 3 Z (Y Z h)
theorem IX (eZ:Str) (ig:Int) {r0:aI} {r1:Int} {r2:Int} (hf:yL eZ ig=some (r0,r1,r2)) (h:Q (.ret (.tuple [.agg (rY r0),iP r1,iP r2])) τ):PC 169 [.str eZ,iP ig] τ Q:=by
 unfold yL at hf; refine BN 44 [.cell 4 116,.tmp 5,.tmp 6] [0,1] Tryz.func169 Z Z Z Z Z (W 0 Z (AS Z (AO.aH Z rJ (fun b4=>?_)))); refine B1 hf fun wo h1 hf=>U 4 Z (CL Z (xw _ _ qb 168 [] Sv (fun _ _ hz=>xA _  hz) h1 ?_)); refine B1 hf fun text1 h2 hf=>U 4 Z (AS Z (AO.lW h2 Z bN Z ⟨_,Z⟩ ⟨_,Z⟩ (U 2 Z (AS Z (AO.bG Z Z Z Z bN Z ?_))))); refine B1 hf fun b1 h4 hf=>U 2 Z (AR.dx 4 19 23 true [0,1,4,7,8] b1 Z Z (fun h3=>?_) (fun h3=>?_) ?_)
 · refine IT 19 h3 h4 Z fun h4=>?_; refine B1 h4 fun x1 h5 h4=>U 1 Z (GO Z (AO.dH h5 Z bN Z Z ?_)); cases h4; exact dB 2 Z (En [23,0,1,4,7,8] Z)
 · refine IF 19 h3 h4 Z fun h4=>?_; cases h4; exact dB 4 Z (En [23,0,1,4,7,8] Z)
 refine B1 hf fun b2 h7 hf=>U 1 Z (AR.dx 11 24 35 false [1,4,7,8] b2 Z Z (fun h6=>?_) (fun h6=>?_) ?_)
 ·
  replace h7:=jH h6 h7; refine Is 24 h6 Z (U 2 Z (GO Z (AO.bG Z Z Z Z bN Z ?_))); refine BR h7 fun b3 h9 h7=>?_; refine U 2 Z (AR.dx 5 29 34 true [1,4,7,8,24] b3 Z Z (fun h8=>?_) (fun h8=>?_) ?_)
  · refine IT 29 h8 h9 Z fun h9=>?_; refine B1 h9 fun x2 h10 h9=>U 2 Z (GO Z (AO.dH h10 Z bN Z Z ?_)); refine BR h9 fun x3 h11 h9=>?_; refine GO Z (AO.call Z _ Z Z WM (vU _ h11 ?_)); cases h9; exact dB 1 Z (En [34,1,4,7,8,24] Z)
  · refine IF 29 h8 h9 Z fun h9=>?_; cases h9; exact dB 5 Z (En [34,1,4,7,8,24] Z)
  cases h7; exact dB 1 Z (En [35,1,4,7,8] Z)
 · refine IT 24 h6 h7 Z fun h7=>?_; cases h7; exact dB 11 Z (En [35,1,4,7,8] Z)
 refine J 0 Z (C hf Z (fun h12 hf=>?_) fun h12 hf=>?_)
 · cases hf; exact Wx 4 [0] Z Z (ZC [0] Z Z h)
 refine B1 hf fun x4 m_ hf=>W 1 Z (CL Z (J5 _ m_ (J 0 Z (C hf Z (fun lC hf=>?_) fun lC hf=>?_))))
 · cases hf; exact Wx 4 [0] Z Z (ZC [0] Z Z h)
 cases hf; exact Wx 7 [0] Z Z (ZC [0] Z Z h)
theorem EM (eZ:Str) (ig:Int) {r0:aI} {r1:Int} {r2:Int} (hf:vD eZ ig=some (r0,r1,r2)) (h:Q (.ret (.tuple [.agg (rY r0),iP r1,iP r2])) τ):PC 171 [.str eZ,iP ig] τ Q:=by
 unfold vD at hf; refine BN 63 [.cell 4 116,.tmp 5,.tmp 6] [0,1] Tryz.func171 Z Z Z Z Z (W 0 Z (AS Z (AO.aH Z rJ (fun b4=>(U 2 Z (AS Z (AO.bn (List.map Te ([2,1]:List Int)) Z R5 Z Z Z Z (AS Z (AO.aM (l:=([2,1]:List Int)) Z Z Z Z Lx Z Z ?_))))))))); refine J 1 Z (Jh (fun x1=>[(0,.str eZ),(1,iP ig),(4,pP b4),(10,.list (List.map Te ([2,1]:List Int))),(11,iP (([2,1]:List Int).length:Int)),(12,iP x1)]) (fun x1=>[.box b4 [iP 0,.str ([]:Str),iP 0]]) (fun bP x1=>kT eZ ig bP x1=some (r0,r1,r2)) BIG 0 Z Z hf (fun _ hz=>aU hz) ?_); intro bP x1 hf; rw [kT] at hf; refine V 1 Z (C hf Z (fun h1 hf=>?_) fun h1 hf=>?_)
 ·
  refine B1 hf fun n1 h2 hf=>W 0 Z (AS Z (AO.aK h2 Z Z Z Z Lx Z Z (U 6 Z (AS Z (AO.bG Z Z Z Z bN Z (J 1 Z (C hf Z (fun h3 hf=>?_) fun h3 hf=>?_)))))))
  · exact M 2 Z ⟨(bQ (x1 + 1)),Z,Z,Z,hf⟩
  refine B1 hf fun s1 h4 hf=>W 5 Z (AS Z (AO.lW h4 Z bN Z ⟨_,Z⟩ ⟨_,Z⟩ (J 4 Z (C hf Z (fun h5 hf=>?_) fun h5 hf=>?_))))
  ·
   refine V 0 Z (AW.cond Z (fun h6=>?_) (fun h6=>?_))
   · cases hf; exact Wx 9 [0] Z Z (ZC [0] Z Z h)
   cases h5.symm.trans h6
  refine V 2 Z (C hf Z (fun h7 hf=>?_) fun h7 hf=>?_)
  ·
   refine V 0 Z (AW.cond Z (fun h8=>?_) (fun h8=>?_))
   · cases hf; exact Wx 9 [0] Z Z (ZC [0] Z Z h)
   cases h7.symm.trans h8
  refine V 2 Z (C hf Z (fun h9 hf=>?_) fun h9 hf=>?_)
  ·
   refine V 0 Z (AW.cond Z (fun h10=>?_) (fun h10=>?_))
   · cases hf; exact Wx 9 [0] Z Z (ZC [0] Z Z h)
   cases h9.symm.trans h10
  refine V 2 Z (C hf Z (fun h11 hf=>?_) fun h11 hf=>?_)
  ·
   refine V 0 Z (AW.cond Z (fun h12=>?_) (fun h12=>?_))
   · cases hf; exact Wx 9 [0] Z Z (ZC [0] Z Z h)
   cases h11.symm.trans h12
  refine V 2 Z (C hf Z (fun m_ hf=>?_) fun m_ hf=>?_)
  ·
   refine V 0 Z (AW.cond Z (fun lC=>?_) (fun lC=>?_))
   · cases hf; exact Wx 9 [0] Z Z (ZC [0] Z Z h)
   cases m_.symm.trans lC
  refine V 2 Z (C hf Z (fun nR hf=>?_) fun nR hf=>?_)
  ·
   refine V 0 Z (AW.cond Z (fun h16=>?_) (fun h16=>?_))
   · cases hf; exact Wx 9 [0] Z Z (ZC [0] Z Z h)
   cases nR.symm.trans h16
  refine V 2 Z (C hf Z (fun wP hf=>?_) fun wP hf=>?_)
  ·
   refine V 0 Z (AW.cond Z (fun h18=>?_) (fun h18=>?_))
   · cases hf; exact Wx 9 [0] Z Z (ZC [0] Z Z h)
   cases wP.symm.trans h18
  refine V 2 Z (C hf Z (fun h19 hf=>?_) fun h19 hf=>?_)
  ·
   refine V 0 Z (AW.cond Z (fun h20=>?_) (fun h20=>?_))
   · cases hf; exact Wx 9 [0] Z Z (ZC [0] Z Z h)
   cases h19.symm.trans h20
  refine V 2 Z (C hf Z (fun h21 hf=>?_) fun h21 hf=>?_)
  ·
   refine V 0 Z (AW.cond Z (fun h22=>?_) (fun h22=>?_))
   · cases hf; exact Wx 9 [0] Z Z (ZC [0] Z Z h)
   cases h21.symm.trans h22
  refine V 2 Z (C hf Z (fun h23 hf=>?_) fun h23 hf=>?_)
  ·
   refine V 0 Z (AW.cond Z (fun C_=>?_) (fun C_=>?_))
   · cases hf; exact Wx 9 [0] Z Z (ZC [0] Z Z h)
   cases h23.symm.trans C_
  refine V 2 Z (C hf Z (fun FV hf=>?_) fun FV hf=>?_)
  ·
   refine V 0 Z (AW.cond Z (fun PE=>?_) (fun PE=>?_))
   · cases hf; exact Wx 9 [0] Z Z (ZC [0] Z Z h)
   cases FV.symm.trans PE
  refine V 2 Z (C hf Z (fun h27 hf=>?_) fun h27 hf=>?_)
  ·
   refine V 0 Z (AW.cond Z (fun Ic=>?_) (fun Ic=>?_))
   · cases hf; exact Wx 9 [0] Z Z (ZC [0] Z Z h)
   cases h27.symm.trans Ic
  refine V 2 Z (C hf Z (fun NZ hf=>?_) fun NZ hf=>?_)
  ·
   refine V 0 Z (AW.cond Z (fun OD=>?_) (fun OD=>?_))
   · cases hf; exact Wx 9 [0] Z Z (ZC [0] Z Z h)
   cases NZ.symm.trans OD
  refine V 2 Z (C hf Z (fun h31 hf=>?_) fun h31 hf=>?_)
  ·
   refine V 0 Z (AW.cond Z (fun h32=>?_) (fun h32=>?_))
   · cases hf; exact Wx 9 [0] Z Z (ZC [0] Z Z h)
   cases h31.symm.trans h32
  refine V 2 Z (C hf Z (fun Ib hf=>?_) fun Ib hf=>?_)
  ·
   refine V 0 Z (AW.cond Z (fun JE=>?_) (fun JE=>?_))
   · cases hf; exact Wx 9 [0] Z Z (ZC [0] Z Z h)
   cases Ib.symm.trans JE
  refine V 2 Z (C hf Z (fun NY hf=>?_) fun NY hf=>?_)
  ·
   refine V 0 Z (AW.cond Z (fun Lj=>?_) (fun Lj=>?_))
   · cases hf; exact Wx 9 [0] Z Z (ZC [0] Z Z h)
   cases NY.symm.trans Lj
  refine V 2 Z (C hf Z (fun h37 hf=>?_) fun h37 hf=>?_)
  ·
   refine V 0 Z (AW.cond Z (fun NW=>?_) (fun NW=>?_))
   · cases hf; exact Wx 9 [0] Z Z (ZC [0] Z Z h)
   cases h37.symm.trans NW
  refine V 2 Z (C hf Z (fun Fe hf=>?_) fun Fe hf=>?_)
  ·
   refine V 0 Z (AW.cond Z (fun Uj=>?_) (fun Uj=>?_))
   · cases hf; exact Wx 9 [0] Z Z (ZC [0] Z Z h)
   cases Fe.symm.trans Uj
  refine V 2 Z (C hf Z (fun Rl hf=>?_) fun Rl hf=>?_)
  ·
   refine V 0 Z (AW.cond Z (fun Ni=>?_) (fun Ni=>?_))
   · cases hf; exact Wx 9 [0] Z Z (ZC [0] Z Z h)
   cases Rl.symm.trans Ni
  refine V 2 Z (C hf Z (fun h43 hf=>?_) fun h43 hf=>?_)
  ·
   refine V 0 Z (AW.cond Z (fun QL=>?_) (fun QL=>?_))
   · cases hf; exact Wx 9 [0] Z Z (ZC [0] Z Z h)
   cases h43.symm.trans QL
  refine V 2 Z (C hf Z (fun h45 hf=>?_) fun h45 hf=>?_)
  ·
   refine V 0 Z (AW.cond Z (fun h46=>?_) (fun h46=>?_))
   · cases hf; exact Wx 9 [0] Z Z (ZC [0] Z Z h)
   cases h45.symm.trans h46
  refine V 2 Z (C hf Z (fun h47 hf=>?_) fun h47 hf=>?_)
  ·
   refine V 0 Z (AW.cond Z (fun h48=>?_) (fun h48=>?_))
   · cases hf; exact Wx 9 [0] Z Z (ZC [0] Z Z h)
   cases h47.symm.trans h48
  refine V 2 Z (C hf Z (fun Ui hf=>?_) fun Ui hf=>?_)
  ·
   refine V 0 Z (AW.cond Z (fun h50=>?_) (fun h50=>?_))
   · cases hf; exact Wx 9 [0] Z Z (ZC [0] Z Z h)
   cases Ui.symm.trans h50
  refine V 2 Z (C hf Z (fun VT hf=>?_) fun VT hf=>?_)
  ·
   refine V 0 Z (AW.cond Z (fun Uh=>?_) (fun Uh=>?_))
   · cases hf; exact Wx 9 [0] Z Z (ZC [0] Z Z h)
   cases VT.symm.trans Uh
  refine V 2 Z (C hf Z (fun PD hf=>?_) fun PD hf=>?_)
  · cases hf; exact Wx 9 [0] Z Z (ZC [0] Z Z h)
  exact M 2 Z ⟨(bQ (x1 + 1)),Z,Z,Z,hf⟩
 cases hf; exact Wx 4 [0] Z Z (ZC [0] Z Z h)
theorem J4 (eZ:Str) (ig:Int) {r0:aI} {r1:Int} {r2:Int} (hf:Ap eZ ig=some (r0,r1,r2)) (h:Q (.ret (.tuple [.agg (rY r0),iP r1,iP r2])) τ):PC 100 [.str eZ,iP ig] τ Q:=by
 unfold Ap at hf; refine BN 44 [.cell 4 116,.tmp 5,.tmp 6] [0,1] Tryz.func100 Z Z Z Z Z (W 0 Z (AS Z (AO.aH Z rJ (fun b4=>?_)))); refine B1 hf fun c1 h1 hf=>U 4 Z (AS Z (AO.dH h1 Z bN Z Z ?_)); refine B1 hf fun x1 h2 hf=>U 2 Z (CL Z (vU _ h2 (J 1 Z (C hf Z (fun h3 hf=>?_) fun h3 hf=>?_))))
 · replace hf:=(EU _).trans hf; obtain ⟨x2,x3,x4,h4,hf⟩:=jY hf; refine W 2 Z (CL Z (LZ _ _ h4 ?_)); cases hf; exact Rx 6 [0] Z Z (ZC [0] Z Z h)
 refine B1 hf fun x5 h5 hf=>W 1 Z (CL Z (xA _ h5 (J 1 Z (C hf Z (fun h6 hf=>?_) fun h6 hf=>?_))))
 · replace hf:=(EU _).trans hf; obtain ⟨x6,x7,x8,h7,hf⟩:=jY hf; refine W 2 Z (CL Z (IX _ _ h7 ?_)); cases hf; exact Rx 6 [0] Z Z (ZC [0] Z Z h)
 refine V 3 Z (C hf Z (fun h8 hf=>?_) fun h8 hf=>?_)
 · exact aU hf
 replace hf:=(EU _).trans hf; obtain ⟨x9,NU,Cu,h9,hf⟩:=jY hf; refine W 2 Z (CL Z (EM _ _ h9 ?_)); cases hf; exact Rx 6 [0] Z Z (ZC [0] Z Z h)
theorem EN (op1:Str) (g_:Int) {r0:Int} (hf:vE op1 g_=some r0) (h:Q (.ret (iP r0)) τ):PC 101 [.str op1,iP g_] τ Q:=by
 unfold vE at hf; refine BN 18 [.tmp 4] [0,1] Tryz.func101 Z Z Z Z Z (V 4 Z (C hf Z (fun h1 hf=>?_) fun h1 hf=>?_))
 ·
  refine V 0 Z (AW.cond Z (fun h2=>?_) (fun h2=>?_))
  · cases hf; exact M 3 Z (Y Z h)
  cases h1.symm.trans h2
 refine V 2 Z (C hf Z (fun h3 hf=>?_) fun h3 hf=>?_)
 · cases hf; exact M 3 Z (Y Z h)
 refine V 2 Z (C hf Z (fun h4 hf=>?_) fun h4 hf=>?_)
 ·
  refine V 0 Z (AW.cond Z (fun h5=>?_) (fun h5=>?_))
  · refine W 2 Z (AS Z (AO.max2 Z Z Z Z Z ?_)); cases hf; exact N 1 Z (Y Z h)
  cases h4.symm.trans h5
 refine V 2 Z (C hf Z (fun h6 hf=>?_) fun h6 hf=>?_)
 · refine W 2 Z (AS Z (AO.max2 Z Z Z Z Z ?_)); cases hf; exact N 1 Z (Y Z h)
 cases hf; exact M 2 Z (Y Z h)
theorem IZ (eZ:Str) {r0:List aI} {r1:Int} {r2:Int} (hf:yM eZ=some (r0,r1,r2)) (h:Q (.ret (.tuple [.list (List.map aI.cells r0),iP r1,iP r2])) τ):PC 62 [.str eZ] τ Q:=by
 unfold yM at hf; refine BN 84 [.tmp 2,.tmp 3,.tmp 4] [0] Tryz.func62 Z Z Z Z Z (W 0 Z (AS Z (AO.jy Z Z (U 3 Z (AS Z (AO.bG Z Z Z Z bN Z (J 1 Z (C hf Z (fun h1 hf=>?_) fun h1 hf=>?_))))))))
 · refine W 0 Z (AS Z (AO.jy Z Z ?_)); cases hf; exact N 2 Z (Y Z h)
 refine W 5 Z (AS Z (AO.Qr Z bN Z (fun YM=>(J 0 Z (AW.row 3 116 (LK5 (fun dw v1 xR g_ pos1=>[(0,.str eZ),(5,.own v1 (List.map aI.cells dw)),(6,.fn 97 []),(7,iP xR),(8,iP g_),(18,pP YM)]) (fun dw v1 xR g_ pos1=>[.row v1 (List.map aI.cells dw).length 3 116,.obj YM (.stringIter ⟨List.toArray eZ⟩ pos1)]) (fun bP dw v1 xR g_ pos1=>iy eZ bP dw xR g_ pos1=some (r0,r1,r2)) BIG [] (.slice none 0 0) 0 0 0 Z Z hf (fun _ _ _ _ _ hz=>aU hz) ?_)))))); intro bP dw v1 xR g_ pos1 hf; rw [iy] at hf; rcases Bool.eq_false_or_eq_true (decide (pos1 < eZ.length)) with h2 | h2
 ·
  replace hf:=kg h2 hf; refine W 0 Z (AS Z (AO.SL (i:=1) Z Z Z h2 (J 1 Z (AW.cond Z (fun h3=>?_) (fun h3=>?_)))))
  ·
   refine B1 hf fun b1 h5 hf=>W 8 Z (AR.dx 4 26 30 false [0,5,6,7,8,9,10,18] b1 Z Z (fun h4=>?_) (fun h4=>?_) ?_)
   · refine IF 26 h4 h5 Z fun h5=>?_; refine BR h5 fun x1 h6 h5=>?_; refine U 2 Z (GO Z (AO.call Z _ Z Z Ym (EP _ h6 ?_))); cases h5; exact dB 1 Z (En [30,0,5,6,7,8,9,10,18] Z)
   · refine IT 26 h4 h5 Z fun h5=>?_; cases h5; exact dB 4 Z (En [30,0,5,6,7,8,9,10,18] Z)
   refine J 0 Z (C hf Z (fun h7 hf=>?_) fun h7 hf=>?_)
   · exact M 0 Z ⟨dw,v1,xR,g_,(pos1 + (dec eZ pos1).2),Z,Z,Z,hf⟩
   refine V 2 Z (C hf Z (fun h8 hf=>?_) fun h8 hf=>?_)
   · refine B1 hf fun SN h9 hf=>W 2 Z (CL Z (xw _ _ qP 99 [] Yl (fun _ _ hz=>EO _  hz) h9 ?_)); exact N 1 Z ⟨dw,v1,SN,g_,(pos1 + (dec eZ pos1).2),Z,Z,Z,hf⟩
   refine V 2 Z (C hf Z (fun h10 hf=>?_) fun h10 hf=>?_)
   ·
    refine B1 hf fun b2 h12 hf=>W 3 Z (AR.dx 14 40 54 true [0,5,6,7,8,9,18] b2 Z Z (fun h11=>?_) (fun h11=>?_) ?_)
    ·
     replace h12:=kg h11 h12; refine Is 40 h11 Z (U 1 Z (GO Z (AO.aM (l:=dw) Z Z Z Z ru Z Z ?_))); refine BR h12 fun b3 lC h12=>?_; refine U 2 Z (AR.dx 9 44 53 false [0,5,6,7,8,9,18,40] b3 Z Z (fun m_=>?_) (fun m_=>?_) ?_)
     · replace lC:=jH m_ lC; refine Is 44 m_ Z (U 2 Z (GO Z (AO.aM (l:=dw) Z Z Z Z ru Z Z ?_))); refine B1 lC fun e1 nR lC=>U 1 Z (GO Z (AO.aK nR Z Z Z Z ru (aI.aF _) Z ?_)); cases lC; exact dB 4 Z (En [53,0,5,6,7,8,9,18,40] Z)
     · refine IT 44 m_ lC Z fun lC=>?_; cases lC; exact dB 9 Z (En [53,0,5,6,7,8,9,18,40] Z)
     cases h12; exact dB 1 Z (En [54,0,5,6,7,8,9,18] Z)
    · refine IF 40 h11 h12 Z fun h12=>?_; cases h12; exact dB 14 Z (En [54,0,5,6,7,8,9,18] Z)
    refine J 0 Z (C hf Z (fun h16 hf=>?_) fun h16 hf=>?_)
    · refine W 3 rfl (AS rfl (AO.bn (List.map aI.cells [(aI.mk 5 ([]:Str) (pos1:Int))]) rfl Ei rfl rfl rfl (by first | rfl | simp only [List.map,aI.aF]) ?_)); refine B1 hf fun yG wP hf=>AS Z (AO.mg (i:=0) (l:=dw) (m:=[(aI.mk 5 ([]:Str) (pos1:Int))]) wP Z Z Z Z Z Z Z Ei ru Z Z Z (aI.gI) (aI.cells_one) (by decide) (fun v2 s1 hs1=>?_)); cases hs1; exact N 1 Z ⟨yG,v2,xR,g_,(pos1 + (dec eZ pos1).2),Z,Z,Z,hf⟩
    exact M 0 Z ⟨dw,v1,xR,g_,(pos1 + (dec eZ pos1).2),Z,Z,Z,hf⟩
   obtain ⟨x2,wo,e2,h18,hf⟩:=jY hf; refine W 2 Z (CL Z (J4 _ _ h18 (U 4 Z (AS Z (AO.aH Z rJ (fun b11=>(Rw 5 [0] Z Z (C hf Z (fun h19 hf=>?_) fun h19 hf=>?_))))))))
   · refine W 2 Z (AS Z (AO.jy Z Z ?_)); cases hf; exact N 2 Z (Y Z h)
   refine Ww 3 [0] Z Z (C hf Z (fun h20 hf=>?_) fun h20 hf=>?_)
   · refine B1 hf fun SI h21 hf=>Wr 3 [0] rfl rfl (CL rfl (EN _ _ h21 (Rr 3 [0] rfl rfl (AS rfl (AO.bn (List.map aI.cells [x2]) rfl Ei rfl rfl rfl (by first | rfl | simp only [List.map,aI.aF]) ?_))))); refine B1 hf fun UE h22 hf=>AS Z (AO.mg (i:=1) (l:=dw) (m:=[x2]) h22 Z Z Z Z Z Z Z Ei ru Z Z Z (aI.gI) (aI.cells_one) (by decide) (fun v3 s2 hs2=>?_)); cases hs2; refine dB 3 Z (AR.drop1 ?_); exact N 0 Z ⟨UE,v3,wo,SI,(pos1 + (dec eZ pos1).2),Z,Z,Z,hf⟩
   refine Wr 2 [0] rfl rfl (AS rfl (AO.bn (List.map aI.cells [x2]) rfl Ei rfl rfl rfl (by first | rfl | simp only [List.map,aI.aF]) ?_)); refine B1 hf fun SF h23 hf=>AS Z (AO.mg (i:=1) (l:=dw) (m:=[x2]) h23 Z Z Z Z Z Z Z Ei ru Z Z Z (aI.gI) (aI.cells_one) (by decide) (fun v4 s3 hs3=>?_)); cases hs3; refine dB 3 Z (AR.drop1 ?_); exact N 0 Z ⟨SF,v4,wo,g_,(pos1 + (dec eZ pos1).2),Z,Z,Z,hf⟩
  cases h3
 replace hf:=jH h2 hf; refine W 0 Z (AS Z (AO.Qz (i:=1) Z Z Z h2 (J 1 Z (AW.cond Z (fun C_=>?_) (fun C_=>?_)))))
 · cases C_
 cases hf; exact M 4 Z (Y Z h)
theorem zB (c1:UInt8) {r0:Bool} (hf:oP c1=some r0) (h:Q (.ret (.bool r0)) τ):PC 388 [.int .u8 (c1.toNat:Int)] τ Q:=by
 unfold oP at hf; refine BN 21 [.tmp 2] [0] Tryz.func388 Z Z Z Z Z (W 4 Z (An 3 5 8 [0] (decide ((c1.toNat:Int)≤122)) Z Z Z Z (U 1 Z (AR.or 7 9 16 [0] (x:=((decide (65≤(c1.toNat:Int))) && (decide ((c1.toNat:Int)≤90)))) Z Z (fun h2=>?_) (fun h2=>?_) ?_))))
 · refine Is 9 h2 Z (U 3 Z (An 3 12 15 [0,9] (decide ((c1.toNat:Int)≤90)) Z Z Z Z ?_)); exact dB 1 Z (En [16,0] Z)
 · refine Is 9 h2 Z ?_; exact dB 7 Z (En [16,0] Z)
 refine U 1 Z (On 3 17 20 [] ((c1.toNat:Int) == 95) Z Z Z Z ?_); cases hf; exact N 1 Z (Y Z h)
theorem A9 (c1:UInt8) {r0:Bool} (hf:qG c1=some r0) (h:Q (.ret (.bool r0)) τ):PC 389 [.int .u8 (c1.toNat:Int)] τ Q:=by
 unfold qG at hf; refine BN 9 [.tmp 2] [0] Tryz.func389 Z Z Z Z Z (W 4 Z (An 3 5 8 [] (decide ((c1.toNat:Int)≤57)) Z Z Z Z ?_)); cases hf; exact N 1 Z (Y Z h)
theorem Cg (s1:Str) {r0:Bool} (hf:p9 s1=some r0) (h:Q (.ret (.bool r0)) τ):PC 354 [.str s1] τ Q:=by
 unfold p9 at hf; refine BN 36 [.tmp 2] [0] Tryz.func354 Z Z Z Z Z (W 2 Z (AS Z (AO.bG Z Z Z Z bN Z (U 2 Z (AR.or 4 7 11 [0] (x:=(decide (64 < (s1.length:Int)))) Z Z (fun h1=>?_) (fun h1=>?_) ?_)))))
 · refine Is 7 h1 Z (U 1 Z (GO Z (AO.bG Z Z Z Z bN Z ?_))); exact dB 2 Z (En [11,0] Z)
 · refine Is 7 h1 Z ?_; exact dB 4 Z (En [11,0] Z)
 refine B1 hf fun b1 h3 hf=>U 1 Z (AR.dx 5 12 17 false [0] b1 Z Z (fun h2=>?_) (fun h2=>?_) ?_)
 · refine IF 12 h2 h3 Z fun h3=>?_; refine B1 h3 fun x1 h4 h3=>U 1 Z (GO Z (AO.dH h4 Z bN Z Z ?_)); refine B1 h3 fun x2 h5 h3=>GO Z (AO.call Z _ Z Z Wm (zB _ h5 ?_)); cases h3; exact dB 2 Z (En [17,0] Z)
 · refine IT 12 h2 h3 Z fun h3=>?_; cases h3; exact dB 5 Z (En [17,0] Z)
 refine J 0 Z (C hf Z (fun h6 hf=>?_) fun h6 hf=>?_)
 · cases hf; exact M 1 Z (Y Z h)
 refine V 1 Z (Jh (fun i1=>[(0,.str s1),(3,iP i1)]) (fun i1=>[]) (fun bP i1=>lH s1 bP i1=some r0) BIG 0 Z Z hf (fun _ hz=>aU hz) ?_); intro bP i1 hf; rw [lH] at hf; refine W 2 Z (AS Z (AO.bG Z Z Z Z bN Z (J 1 Z (C hf Z (fun h7 hf=>?_) fun h7 hf=>?_))))
 ·
  refine B1 hf fun x3 h8 hf=>W 2 Z (AS Z (AO.dH h8 Z bN Z Z ?_)); refine B1 hf fun x4 h9 hf=>CL Z (zB _ h9 ?_); refine B1 hf fun b2 h11 hf=>U 2 Z (AR.dx 6 29 35 true [0,3] b2 Z Z (fun h10=>?_) (fun h10=>?_) ?_)
  · refine IT 29 h10 h11 Z fun h11=>?_; refine B1 h11 fun x5 h12 h11=>U 2 Z (GO Z (AO.dH h12 Z bN Z Z ?_)); refine B1 h11 fun x6 m_ h11=>GO Z (AO.call Z _ Z Z Wj (A9 _ m_ ?_)); cases h11; exact dB 2 Z (En [35,0,3] Z)
  · refine IF 29 h10 h11 Z fun h11=>?_; cases h11; exact dB 6 Z (En [35,0,3] Z)
  refine J 0 Z (C hf Z (fun lC hf=>?_) fun lC hf=>?_)
  · cases hf; exact M 1 Z (Y Z h)
  exact M 3 Z ⟨(bQ (i1 + 1)),Z,Z,Z,hf⟩
 cases hf; exact M 1 Z (Y Z h)
section
variable [zL]
def QI :Go.Shelf.Ren:=⟨fun | 171=>203 | 243=>277 | 246=>336 | 283=>374 | 284=>375 | 285=>376 | 286=>377 | 129=>297 | 317=>404 | 318=>405 | 319=>406 | 320=>407 | 337=>428 | 338=>429 | n=>n,fun | 3=>3 | 9=>9 | 2=>2 | 4=>4 | 171=>310 | 0=>0 | 53=>271 | 37=>68 | 5=>5 | 173=>312 | 212=>334 | 51=>269 | 20=>20 | 213=>335 | 46=>218 | 232=>358 | 233=>359 | n=>n,fun | 17=>3 | 18=>4 | 19=>5 | n=>n⟩
theorem YL :Go.Proofs.LaysM.n171 Tryz.prog QI:={
 mixed:=by kernel_rfl
 f129:=Tryz.func297.trans (congrArg some (by kernel_rfl))
 f171:=Tryz.func203.trans (congrArg some (by kernel_rfl))
 f243:=Tryz.func277.trans (congrArg some (by kernel_rfl))
 f246:=Tryz.func336.trans (congrArg some (by kernel_rfl))
 f283:=Tryz.func374.trans (congrArg some (by kernel_rfl))
 f284:=Tryz.func375.trans (congrArg some (by kernel_rfl))
 f285:=Tryz.func376.trans (congrArg some (by kernel_rfl))
 f286:=Tryz.func377.trans (congrArg some (by kernel_rfl))
 f317:=Tryz.func404.trans (congrArg some (by kernel_rfl))
 f318:=Tryz.func405.trans (congrArg some (by kernel_rfl))
 f319:=Tryz.func406.trans (congrArg some (by kernel_rfl))
 f320:=Tryz.func407.trans (congrArg some (by kernel_rfl))
 f337:=Tryz.func428.trans (congrArg some (by kernel_rfl))
 f338:=Tryz.func429.trans (congrArg some (by kernel_rfl))
 t0:=Tryz.underlying0
 a0:=Tryz.isAgg0
 z0:=Tryz.sizeOf0
 v0:=Tryz.zeroValue0
 t2:=Tryz.underlying2
 a2:=Tryz.isAgg2
 z2:=Tryz.sizeOf2
 v2:=Tryz.zeroValue2
 t3:=Tryz.underlying3
 a3:=Tryz.isAgg3
 z3:=Tryz.sizeOf3
 v3:=Tryz.zeroValue3
 t4:=Tryz.underlying4
 a4:=Tryz.isAgg4
 z4:=Tryz.sizeOf4
 v4:=Tryz.zeroValue4
 t5:=Tryz.underlying5
 a5:=Tryz.isAgg5
 z5:=Tryz.sizeOf5
 v5:=Tryz.zeroValue5
 t9:=Tryz.underlying9
 a9:=Tryz.isAgg9
 z9:=Tryz.sizeOf9
 v9:=Tryz.zeroValue9
 t20:=Tryz.underlying20
 a20:=Tryz.isAgg20
 z20:=Tryz.sizeOf20
 v20:=Tryz.zeroValue20
 t37:=Tryz.underlying68
 a37:=Tryz.isAgg68
 z37:=Tryz.sizeOf68
 v37:=Tryz.zeroValue68
 t46:=Tryz.underlying218
 a46:=Tryz.isAgg218
 z46:=Tryz.sizeOf218
 v46:=Tryz.zeroValue218
 t51:=Tryz.underlying269
 a51:=Tryz.isAgg269
 z51:=Tryz.sizeOf269
 v51:=Tryz.zeroValue269
 t53:=Tryz.underlying271
 a53:=Tryz.isAgg271
 z53:=Tryz.sizeOf271
 v53:=Tryz.zeroValue271
 t171:=Tryz.underlying310
 a171:=Tryz.isAgg310
 z171:=Tryz.sizeOf310
 v171:=Tryz.zeroValue310
 t173:=Tryz.underlying312
 a173:=Tryz.isAgg312
 z173:=Tryz.sizeOf312
 v173:=Tryz.zeroValue312
 t212:=Tryz.underlying334
 a212:=Tryz.isAgg334
 z212:=Tryz.sizeOf334
 v212:=Tryz.zeroValue334
 t213:=Tryz.underlying335
 a213:=Tryz.isAgg335
 z213:=Tryz.sizeOf335
 t232:=Tryz.underlying358
 a232:=Tryz.isAgg358
 z232:=Tryz.sizeOf358
 v232:=Tryz.zeroValue358
 t233:=Tryz.underlying359
 a233:=Tryz.isAgg359
 z233:=Tryz.sizeOf359
 v233:=Tryz.zeroValue359
 g17:=by kernel_rfl
 g18:=by kernel_rfl
 g19:=by kernel_rfl
 i0:=by kernel_rfl
 i2:=by kernel_rfl
 i3:=by kernel_rfl
 i4:=by kernel_rfl
 i5:=by kernel_rfl
 i9:=by kernel_rfl
 i20:=by kernel_rfl
 i37:=by kernel_rfl
 i46:=by kernel_rfl
 i51:=by kernel_rfl
 i53:=by kernel_rfl
 i171:=by kernel_rfl
 i173:=by kernel_rfl
 i212:=by kernel_rfl
 i232:=by kernel_rfl
 i233:=by kernel_rfl
 m17:=by kernel_rfl
 m18:=by kernel_rfl
 m19:=by kernel_rfl}
theorem IE (n1:Int) {r0:Str} (hf:strconv_Itoa n1=some r0) (h:Q (.ret (.str r0)) τ):PC 203 [iP n1] τ Q:=by
 unfold strconv_Itoa at hf; split at hf
 case isFalse=>cases hf
 rename_i hg; cases hf; refine AC.none ?_; exact AC.itoa zL.hD YL hg.1 hg.2 zL.pow h
end
section
variable [zL]
def Rb :Go.Shelf.Ren:=⟨fun | 172=>390 | 244=>415 | 245=>416 | 247=>433 | 279=>434 | 280=>435 | 281=>436 | 282=>437 | 287=>441 | 316=>442 | 171=>203 | 205=>443 | 321=>445 | 322=>446 | 243=>277 | 246=>336 | 283=>374 | 284=>375 | 285=>376 | 286=>377 | 129=>297 | 317=>404 | 318=>405 | 319=>406 | 320=>407 | 337=>428 | 338=>429 | n=>n,fun | 9=>9 | 3=>3 | 75=>77 | 76=>86 | 4=>4 | 5=>5 | 167=>350 | 37=>68 | 0=>0 | 85=>351 | 2=>2 | 168=>353 | 53=>271 | 175=>360 | 46=>218 | 210=>363 | 127=>124 | 145=>369 | 143=>367 | 21=>21 | 171=>310 | 173=>312 | 212=>334 | 51=>269 | 20=>20 | 213=>335 | 232=>358 | 233=>359 | 80=>69 | n=>n,fun | 15=>6 | 16=>7 | 17=>3 | 18=>4 | 19=>5 | n=>n⟩
theorem Ze :Go.Proofs.LaysC.n172 Tryz.prog Rb:={
 mixed:=by kernel_rfl
 f129:=Tryz.func297.trans (congrArg some (by kernel_rfl))
 f171:=Tryz.func203.trans (congrArg some (by kernel_rfl))
 f172:=Tryz.func390.trans (congrArg some (by kernel_rfl))
 f205:=Tryz.func443.trans (congrArg some (by kernel_rfl))
 f243:=Tryz.func277.trans (congrArg some (by kernel_rfl))
 f244:=Tryz.func415.trans (congrArg some (by kernel_rfl))
 f245:=Tryz.func416.trans (congrArg some (by kernel_rfl))
 f246:=Tryz.func336.trans (congrArg some (by kernel_rfl))
 f247:=Tryz.func433.trans (congrArg some (by kernel_rfl))
 f279:=Tryz.func434.trans (congrArg some (by kernel_rfl))
 f280:=Tryz.func435.trans (congrArg some (by kernel_rfl))
 f281:=Tryz.func436.trans (congrArg some (by kernel_rfl))
 f282:=Tryz.func437.trans (congrArg some (by kernel_rfl))
 f283:=Tryz.func374.trans (congrArg some (by kernel_rfl))
 f284:=Tryz.func375.trans (congrArg some (by kernel_rfl))
 f285:=Tryz.func376.trans (congrArg some (by kernel_rfl))
 f286:=Tryz.func377.trans (congrArg some (by kernel_rfl))
 f287:=Tryz.func441.trans (congrArg some (by kernel_rfl))
 f316:=Tryz.func442.trans (congrArg some (by kernel_rfl))
 f317:=Tryz.func404.trans (congrArg some (by kernel_rfl))
 f318:=Tryz.func405.trans (congrArg some (by kernel_rfl))
 f319:=Tryz.func406.trans (congrArg some (by kernel_rfl))
 f320:=Tryz.func407.trans (congrArg some (by kernel_rfl))
 f321:=Tryz.func445.trans (congrArg some (by kernel_rfl))
 f322:=Tryz.func446.trans (congrArg some (by kernel_rfl))
 f337:=Tryz.func428.trans (congrArg some (by kernel_rfl))
 f338:=Tryz.func429.trans (congrArg some (by kernel_rfl))
 t0:=Tryz.underlying0
 a0:=Tryz.isAgg0
 z0:=Tryz.sizeOf0
 v0:=Tryz.zeroValue0
 t2:=Tryz.underlying2
 a2:=Tryz.isAgg2
 z2:=Tryz.sizeOf2
 v2:=Tryz.zeroValue2
 t3:=Tryz.underlying3
 a3:=Tryz.isAgg3
 z3:=Tryz.sizeOf3
 v3:=Tryz.zeroValue3
 t4:=Tryz.underlying4
 a4:=Tryz.isAgg4
 z4:=Tryz.sizeOf4
 v4:=Tryz.zeroValue4
 t5:=Tryz.underlying5
 a5:=Tryz.isAgg5
 z5:=Tryz.sizeOf5
 v5:=Tryz.zeroValue5
 t9:=Tryz.underlying9
 a9:=Tryz.isAgg9
 z9:=Tryz.sizeOf9
 v9:=Tryz.zeroValue9
 t20:=Tryz.underlying20
 a20:=Tryz.isAgg20
 z20:=Tryz.sizeOf20
 v20:=Tryz.zeroValue20
 t21:=Tryz.underlying21
 a21:=Tryz.isAgg21
 z21:=Tryz.sizeOf21
 v21:=Tryz.zeroValue21
 t37:=Tryz.underlying68
 a37:=Tryz.isAgg68
 z37:=Tryz.sizeOf68
 v37:=Tryz.zeroValue68
 t46:=Tryz.underlying218
 a46:=Tryz.isAgg218
 z46:=Tryz.sizeOf218
 v46:=Tryz.zeroValue218
 t51:=Tryz.underlying269
 a51:=Tryz.isAgg269
 z51:=Tryz.sizeOf269
 v51:=Tryz.zeroValue269
 t53:=Tryz.underlying271
 a53:=Tryz.isAgg271
 z53:=Tryz.sizeOf271
 v53:=Tryz.zeroValue271
 t75:=Tryz.underlying77
 a75:=Tryz.isAgg77
 z75:=Tryz.sizeOf77
 v75:=Tryz.zeroValue77
 t76:=Tryz.underlying86
 a76:=Tryz.isAgg86
 z76:=Tryz.sizeOf86
 v76:=Tryz.zeroValue86
 t85:=Tryz.underlying351
 a85:=Tryz.isAgg351
 z85:=Tryz.sizeOf351
 v85:=Tryz.zeroValue351
 t127:=Tryz.underlying124
 a127:=Tryz.isAgg124
 z127:=Tryz.sizeOf124
 v127:=Tryz.zeroValue124
 t143:=Tryz.underlying367
 a143:=Tryz.isAgg367
 z143:=Tryz.sizeOf367
 v143:=Tryz.zeroValue367
 t145:=Tryz.underlying369
 a145:=Tryz.isAgg369
 z145:=Tryz.sizeOf369
 v145:=Tryz.zeroValue369
 t167:=Tryz.underlying350
 a167:=Tryz.isAgg350
 z167:=Tryz.sizeOf350
 v167:=Tryz.zeroValue350
 t168:=Tryz.underlying353
 a168:=Tryz.isAgg353
 z168:=Tryz.sizeOf353
 v168:=Tryz.zeroValue353
 t171:=Tryz.underlying310
 a171:=Tryz.isAgg310
 z171:=Tryz.sizeOf310
 v171:=Tryz.zeroValue310
 t173:=Tryz.underlying312
 a173:=Tryz.isAgg312
 z173:=Tryz.sizeOf312
 v173:=Tryz.zeroValue312
 t175:=Tryz.underlying360
 a175:=Tryz.isAgg360
 z175:=Tryz.sizeOf360
 v175:=Tryz.zeroValue360
 t210:=Tryz.underlying363
 a210:=Tryz.isAgg363
 z210:=Tryz.sizeOf363
 v210:=Tryz.zeroValue363
 t212:=Tryz.underlying334
 a212:=Tryz.isAgg334
 z212:=Tryz.sizeOf334
 v212:=Tryz.zeroValue334
 t213:=Tryz.underlying335
 a213:=Tryz.isAgg335
 z213:=Tryz.sizeOf335
 t232:=Tryz.underlying358
 a232:=Tryz.isAgg358
 z232:=Tryz.sizeOf358
 v232:=Tryz.zeroValue358
 t233:=Tryz.underlying359
 a233:=Tryz.isAgg359
 z233:=Tryz.sizeOf359
 v233:=Tryz.zeroValue359
 g15:=by kernel_rfl
 g16:=by kernel_rfl
 g17:=by kernel_rfl
 g18:=by kernel_rfl
 g19:=by kernel_rfl
 t80:=Tryz.underlying69
 a80:=Tryz.isAgg69
 z80:=Tryz.sizeOf69
 v80:=Tryz.zeroValue69
 i0:=by kernel_rfl
 i2:=by kernel_rfl
 i3:=by kernel_rfl
 i4:=by kernel_rfl
 i5:=by kernel_rfl
 i9:=by kernel_rfl
 i20:=by kernel_rfl
 i21:=by kernel_rfl
 i37:=by kernel_rfl
 i46:=by kernel_rfl
 i51:=by kernel_rfl
 i53:=by kernel_rfl
 i75:=by kernel_rfl
 i76:=by kernel_rfl
 i80:=by kernel_rfl
 i85:=by kernel_rfl
 i127:=by kernel_rfl
 i143:=by kernel_rfl
 i145:=by kernel_rfl
 i167:=by kernel_rfl
 i168:=by kernel_rfl
 i171:=by kernel_rfl
 i173:=by kernel_rfl
 i175:=by kernel_rfl
 i210:=by kernel_rfl
 i212:=by kernel_rfl
 i232:=by kernel_rfl
 i233:=by kernel_rfl
 m15:=by kernel_rfl
 m16:=by kernel_rfl
 m17:=by kernel_rfl
 m18:=by kernel_rfl
 m19:=by kernel_rfl
 c0:=by kernel_rfl
 c2:=by kernel_rfl
 c3:=by kernel_rfl
 c4:=by kernel_rfl
 c5:=by kernel_rfl
 c9:=by kernel_rfl
 c20:=by kernel_rfl
 c21:=by kernel_rfl
 c37:=by kernel_rfl
 c46:=by kernel_rfl
 c51:=by kernel_rfl
 c53:=by kernel_rfl
 c75:=by kernel_rfl
 c76:=by kernel_rfl
 c80:=by kernel_rfl
 c85:=by kernel_rfl
 c127:=by kernel_rfl
 c143:=by kernel_rfl
 c145:=by kernel_rfl
 c167:=by kernel_rfl
 c168:=by kernel_rfl
 c171:=by kernel_rfl
 c173:=by kernel_rfl
 c175:=by kernel_rfl
 c210:=by kernel_rfl
 c212:=by kernel_rfl
 c213:=by kernel_rfl
 c232:=by kernel_rfl
 c233:=by kernel_rfl}
theorem AV (s1:Str) {r0:Int} {r1:Option Nat} (hf:strconv_Atoi s1=some (r0,r1)) (h:Q (.ret (.tuple [iP r0,.err r1])) τ):PC 390 [.str s1] τ Q:=by
 unfold strconv_Atoi at hf; split at hf
 case isFalse=>cases hf
 rename_i hg; cases hf; refine AC.none ?_; exact AC.atoi zL.hD Ze hg Z zL.syn zL.rng h
end
section
variable [zL]
theorem EL (s1:Str) {r0:Bool} (hf:vC s1=some r0) (h:Q (.ret (.bool r0)) τ):PC 384 [.str s1] τ Q:=by
 unfold vC at hf; refine BN 40 [.tmp 2] [0] Tryz.func384 Z Z Z Z Z ?_; refine B1 hf fun b1 h2 hf=>W 4 Z (AR.dx 9 8 17 false [0] b1 Z Z (fun h1=>?_) (fun h1=>?_) ?_)
 ·
  replace h2:=jH h1 h2; refine Is 8 h1 Z (U 1 Z (GO Z (AO.bG Z Z Z Z bN Z ?_))); refine BR h2 fun b2 h4 h2=>?_; refine U 2 Z (AR.dx 4 12 16 true [0,8] b2 Z Z (fun h3=>?_) (fun h3=>?_) ?_)
  · refine IT 12 h3 h4 Z fun h4=>?_; refine B1 h4 fun x1 h5 h4=>U 1 Z (GO Z (AO.dH h5 Z bN Z Z ?_)); cases h4; exact dB 2 Z (En [16,0,8] Z)
  · refine IF 12 h3 h4 Z fun h4=>?_; cases h4; exact dB 4 Z (En [16,0,8] Z)
  cases h2; exact dB 1 Z (En [17,0] Z)
 · refine IT 8 h1 h2 Z fun h2=>?_; cases h2; exact dB 9 Z (En [17,0] Z)
 refine J 0 Z (C hf Z (fun h6 hf=>?_) fun h6 hf=>?_)
 · cases hf; exact M 1 Z (Y Z h)
 refine V 1 Z (Jh (fun i1=>[(0,.str s1),(3,iP i1)]) (fun i1=>[]) (fun bP i1=>mZ s1 bP i1=some r0) BIG 0 Z Z hf (fun _ hz=>aU hz) ?_); intro bP i1 hf; rw [mZ] at hf; refine W 2 Z (AS Z (AO.bG Z Z Z Z bN Z (J 1 Z (C hf Z (fun h7 hf=>?_) fun h7 hf=>?_))))
 ·
  refine B1 hf fun x2 h8 hf=>W 2 Z (AS Z (AO.dH h8 Z bN Z Z ?_)); refine B1 hf fun x3 h9 hf=>CL Z (A9 _ h9 (J 1 Z (C hf Z (fun h10 hf=>?_) fun h10 hf=>?_)))
  · cases hf; exact M 1 Z (Y Z h)
  exact M 3 Z ⟨(bQ (i1 + 1)),Z,Z,Z,hf⟩
 obtain ⟨n1,Y7,h11,hf⟩:=cu hf; refine W 1 Z (CL Z (AV _ h11 (U 6 Z (AS Z (AO.eqNil Z YN Z Z (U 1 Z (An 3 36 39 [] (decide (n1≤9007199254740992)) Z Z Z Z ?_))))))); cases hf; exact N 1 Z (Y Z h)
end
section
variable [zL]
theorem JX (t1:aI) {r0:Bool} (hf:Af t1=some r0) (h:Q (.ret (.bool r0)) τ):PC 351 [.agg (rY t1)] τ Q:=by
 unfold Af at hf; refine BN 23 [.tmp 2] [0] Tryz.func351 Z Z Z Z Z (V 6 Z (C hf Z (fun h1 hf=>?_) fun h1 hf=>?_))
 · refine BR hf fun x1 h2 hf=>?_; refine W 2 Z (CL Z (Cg _ h2 ?_)); cases hf; exact N 1 Z (Y Z h)
 refine V 2 Z (C hf Z (fun h3 hf=>?_) fun h3 hf=>?_)
 · refine BR hf fun x2 h4 hf=>?_; refine W 2 Z (CL Z (EL _ h4 ?_)); cases hf; exact N 1 Z (Y Z h)
 refine V 2 Z (C hf Z (fun h5 hf=>?_) fun h5 hf=>?_)
 · refine W 2 Z (AS Z (AO.bG Z Z Z Z bN Z ?_)); cases hf; exact N 2 Z (Y Z h)
 refine V 2 Z (C hf Z (fun h6 hf=>?_) fun h6 hf=>?_)
 · cases hf; exact M 1 Z (Y Z h)
 cases hf; exact M 1 Z (Y Z h)
end
section
variable [zL]
theorem kV (p1:Nat) (mq:au) {r0:aI} {nG:au} (hf:je mq=some (r0,nG)) {Q:cK→List aJ→Prop} (h:Q (.ret (.agg (rY r0))) [.box p1 (aS nG)]):PC 312 [pP p1] [.box p1 (aS mq)] Q:=by
 unfold je at hf; refine BD 37 [.cell 2 116] [0] Tryz.func312 Z Z Z Z Z (W 0 Z (AS Z (AO.aH Z rJ (fun b2=>(J 0 Z (AW.draw 23 mixed (by kernel_rfl) Z ?_)))))); refine Ev.cs aR 3 Z (Ev.cons Z Z Z (AO.bV (i:=1) Z Z Z Dh Z Z zg) (Ev.cs aR 3 Z (Ev.cons Z Z Z (AO.bV (i:=1) Z Z Z KX Z Z zg) ?_))); refine Ev.cons Z Z Z (AO.aM (l:=mq.ts) Z Z Z Z ru Z Z zg) (Ev.cs aR 2 Z ?_); refine B1 hf fun b1 h2 hf=>Ev.dx hKA 12 13 25 true [0,2] (.bool b1) Z Z (fun h1=>?_) (fun h1=>?_) ?_
 ·
  replace h2:=kg h1 h2; refine Ev.is Xo 13 h1 Z (Ev.cs aR 3 Z (Ev.run Z Z Z Z Z Z Z (AO.bV (i:=1) Z Z Z KX Z Z zg) (Ev.cs aR 3 Z ?_))); refine Ev.run Z Z Z Z Z Z Z (AO.bV (i:=1) Z Z Z Dh Z Z zg) ?_; refine B1 h2 fun e1 h3 h2=>Ev.run Z Z Z Z Z Z Z (AO.aK h3 Z Z Z Z ru (aI.aF _) Z zg) (Ev.cs aR 1 Z ?_); refine BR h2 fun x1 h4 h2=>?_; refine Ev.run Z Z Z Z Z Z Z (AO.call Z _ Z Z Wn (JX _ h4 zg)) ?_; cases h2; refine Ev.cs aR 1 Z ?_; exact Ev.nil (Less.settle (ps:=[25,0,2]) Z)
 · replace h2:=jH h1 h2; refine Ev.is Xo 13 h1 Z ?_; cases h2; refine Ev.cs aR 12 Z ?_; exact Ev.nil (Less.settle (ps:=[25,0,2]) Z)
 refine Ev.nil ?_; show AR _ _ _ _ _ _ _ _; refine J 0 Z (C hf Z (fun h5 hf=>?_) fun h5 hf=>?_)
 ·
  refine V 0 Z (AW.draw 10 mixed (by kernel_rfl) Z ?_); refine Ev.cs aR 3 Z (Ev.cons Z Z Z (AO.bV (i:=1) Z Z Z KX Z Z zg) (Ev.cs aR 3 Z (Ev.cons Z Z Z (AO.bV (i:=1) Z Z Z Dh Z Z zg) ?_))); refine B1 hf fun e2 h6 hf=>Ev.cons Z Z Z (AO.aK h6 Z Z Z Z ru (aI.aF _) Z zg) (Ev.cs aR 1 Z (Ev.nil ?_)); show AR _ _ _ _ _ _ _ _; cases hf; exact Rx 1 [0] rfl rfl ⟨rfl,_,⟨_,_,rfl,⟨_,_,0,_,_,rfl,rfl,Ed,rfl⟩,rfl⟩,_,(.cons _ (.cons_cons _ (List.nil_sublist _))),h⟩
 cases hf; exact Wx 2 [0] rfl rfl ⟨rfl,_,⟨_,_,rfl,⟨_,_,0,_,_,rfl,rfl,Ed,rfl⟩,rfl⟩,_,(.cons _ (.cons_cons _ (List.nil_sublist _))),h⟩
end
section
variable [zL]
theorem CZ (p1:Nat) (mq:au) (op1:Str) {r0:Bool} {nG:au} (hf:rU mq op1=some (r0,nG)) {Q:cK→List aJ→Prop} (h:Q (.ret (.bool r0)) [.box p1 (aS nG)]):PC 313 [pP p1,.str op1] [.box p1 (aS mq)] Q:=by
 unfold rU at hf; refine BD 17 [.tmp 4] [0,1] Tryz.func313 Z Z Z Z Z ?_; obtain ⟨x1,y1,h1,hf⟩:=cu hf; refine W 2 Z (CL Z (AC.one 0 Z (kV _ _ h1 ⟨_,Z,(AS Z (AO.aH Z rJ (fun b5=>(Rr 5 [0,0] Z Z (AR.and 5 11 16 [] (x:=(x1.text == op1)) Z Z (fun h2=>?_) (fun h2=>?_) ?_)))))⟩)))
 · refine Is 11 h2 Z (U 1 Z (GO Z (AO.bV (i:=0) Z Z Z RJ Z Z ?_))); exact dB 3 Z (En [16] Z)
 · refine Is 11 h2 Z ?_; exact dB 5 Z (En [16] Z)
 cases hf; exact N 1 rfl ⟨rfl,_,⟨_,_,rfl,rfl,rfl⟩,_,(.cons _ (.cons_cons _ (List.nil_sublist _))),h⟩
end
section
variable [zL]
theorem dZ (p1:Nat) (mq:au) (op1:Str) {r0:Bool} {nG:au} (hf:dO mq op1=some (r0,nG)) {Q:cK→List aJ→Prop} (h:Q (.ret (.bool r0)) [.box p1 (aS nG)]):PC 245 [pP p1,.str op1] [.box p1 (aS mq)] Q:=by
 unfold dO at hf; refine BD 16 [.tmp 4] [0,1] Tryz.func245 Z Z Z Z Z ?_; obtain ⟨x1,y1,h1,hf⟩:=cu hf; refine W 3 Z (CL Z (AC.one 0 Z (CZ _ _ _ h1 ⟨_,Z,(J 1 Z (C hf Z (fun h2 hf=>?_) fun h2 hf=>?_))⟩)))
 · cases hf; exact M 1 rfl ⟨rfl,_,⟨_,_,rfl,rfl,rfl⟩,_,(.cons_cons _ (List.nil_sublist _)),h⟩
 cases hf; exact Wx 9 [0,0] rfl rfl ⟨rfl,_,⟨_,_,rfl,rfl,rfl⟩,_,(.cons_cons _ (List.nil_sublist _)),h⟩
end
@[reducible] def zP :iT aA Unit→cK
 | .ok r=>.ret (.tuple [])
 | .bad e=>.panic (.iface 189 (.agg (jA e)))
theorem dR (p1:Nat) (mq:au) (e1:Int) {rX:iT aA Unit} {nG:au} (hf:iA mq e1=some (rX,nG)) {Q:cK→List aJ→Prop} (h:Q (zP rX) [.box p1 (aS nG)]):PC 315 [pP p1,iP e1] [.box p1 (aS mq)] Q:=by
 unfold iA at hf; refine BD 11 [] [0,1] Tryz.func315 Z Z Z Z Z (Wr 6 [0] Z Z (AS Z (AO.UO Z Xh Z (AR.bD Z Z (AO.Xf Z Z ?_))))); cases hf; exact ⟨rfl,_,(.cons_cons _ (List.nil_sublist _)),h⟩
section
variable [zL]
@[reducible] def zN :iT aA aI→cK
 | .ok r=>.ret (.agg (rY r))
 | .bad e=>.panic (.iface 189 (.agg (jA e)))
theorem kW (p1:Nat) (mq:au) {rX:iT aA aI} {nG:au} (hf:lX mq=some (rX,nG)) {Q:cK→List aJ→Prop} (h:Q (zN rX) [.box p1 (aS nG)]):PC 314 [pP p1] [.box p1 (aS mq)] Q:=by
 unfold lX at hf; refine BD 24 [.cell 2 116] [0] Tryz.func314 Z Z Z Z Z (W 0 Z (AS Z (AO.aH Z rJ (fun b2=>(J 0 Z (AW.draw 10 mixed (by kernel_rfl) Z ?_)))))); refine Ev.cs aR 3 Z (Ev.cons Z Z Z (AO.bV (i:=1) Z Z Z Dh Z Z zg) (Ev.cs aR 3 Z (Ev.cons Z Z Z (AO.bV (i:=1) Z Z Z KX Z Z zg) ?_))); refine Ev.cons Z Z Z (AO.aM (l:=mq.ts) Z Z Z Z ru Z Z zg) (Ev.cs aR 1 Z (Ev.nil ?_)); show AR _ _ _ _ _ _ _ _; refine J 0 Z (C hf Z (fun h1 hf=>?_) fun h1 hf=>?_)
 ·
  rcases fq hf with ⟨e1,y2,h2,hf⟩ | ⟨_,y1,h2,hf⟩
  · refine W 1 Z (CL Z (AC.one 1 Z (dR _ _ _ h2 ⟨_,Z,?_⟩))); cases hf; exact ⟨rfl,_,(.cons _ (.cons_cons _ (List.nil_sublist _))),h⟩
  refine W 1 Z (CL Z (AC.one 1 Z (dR _ _ _ h2 ⟨_,Z,?_⟩))); obtain ⟨x1,y3,h3,hf⟩:=cu hf; refine U 1 Z (CL Z (AC.one 1 Z (kV _ _ h3 ⟨_,Z,(AS Z (AO.aH Z rJ (fun b3=>(Rw 4 [0,0] Z Z (C hf Z (fun h4 hf=>?_) fun h4 hf=>?_)))))⟩)))
  ·
   rcases fq hf with ⟨e2,y5,h5,hf⟩ | ⟨_,y4,h5,hf⟩
   · refine W 1 Z (CL Z (AC.one 2 Z (dR _ _ _ h5 ⟨_,Z,?_⟩))); cases hf; exact ⟨rfl,_,(.cons _ (.cons _ (.cons_cons _ (List.nil_sublist _)))),h⟩
   refine W 1 Z (CL Z (AC.one 2 Z (dR _ _ _ h5 ⟨_,Z,?_⟩))); cases hf; exact Rx 2 [0,1] rfl rfl ⟨rfl,_,⟨_,_,rfl,⟨_,_,1,_,_,rfl,rfl,Ed,rfl⟩,rfl⟩,_,(.cons _ (.cons _ (.cons_cons _ (List.nil_sublist _)))),h⟩
  cases hf; exact Wx 2 [0,1] rfl rfl ⟨rfl,_,⟨_,_,rfl,⟨_,_,1,_,_,rfl,rfl,Ed,rfl⟩,rfl⟩,_,(.cons _ (.cons _ (.cons_cons _ (List.nil_sublist _)))),h⟩
 obtain ⟨x2,y6,h6,hf⟩:=cu hf; refine W 1 Z (CL Z (AC.one 1 Z (kV _ _ h6 ⟨_,Z,(AS Z (AO.aH Z rJ (fun aa3=>(Rw 4 [0,0] Z Z (C hf Z (fun h7 hf=>?_) fun h7 hf=>?_)))))⟩)))
 ·
  rcases fq hf with ⟨e3,y8,h8,hf⟩ | ⟨_,y7,h8,hf⟩
  · refine W 1 Z (CL Z (AC.one 2 Z (dR _ _ _ h8 ⟨_,Z,?_⟩))); cases hf; exact ⟨rfl,_,(.cons _ (.cons _ (.cons_cons _ (List.nil_sublist _)))),h⟩
  refine W 1 Z (CL Z (AC.one 2 Z (dR _ _ _ h8 ⟨_,Z,?_⟩))); cases hf; exact Rx 2 [0,1] rfl rfl ⟨rfl,_,⟨_,_,rfl,⟨_,_,1,_,_,rfl,rfl,Ed,rfl⟩,rfl⟩,_,(.cons _ (.cons _ (.cons_cons _ (List.nil_sublist _)))),h⟩
 cases hf; exact Wx 2 [0,1] rfl rfl ⟨rfl,_,⟨_,_,rfl,⟨_,_,1,_,_,rfl,rfl,Ed,rfl⟩,rfl⟩,_,(.cons _ (.cons _ (.cons_cons _ (List.nil_sublist _)))),h⟩
end
theorem oh (v1:aj) {r0:ah} (hf:lI v1=some r0) (h:Q (.ret (.agg (aQ r0))) τ):PC 410 [.agg (aT v1)] τ Q:=by
 unfold lI at hf; refine BN 5 [.cell 2 37] [0] Tryz.func410 Z Z Z Z Z (W 1 Z (AS Z (AO.aH Z j_ (fun b2=>?_)))); cases hf; exact Rx 3 [0] Z Z (ZC [0] Z Z h)
theorem xu (s1:Str) {r0:Bool} (hf:pX s1=some r0) (h:Q (.ret (.bool r0)) τ):PC 355 [.str s1] τ Q:=by
 unfold pX at hf; refine BN 13 [.tmp 2] [0] Tryz.func355 Z Z Z Z Z (W 4 Z (On 3 5 8 [0] (s1 == ([102,97,108,115,101]:Str)) Z Z Z Z (U 1 Z (On 3 9 12 [] (s1 == ([110,117,108,108]:Str)) Z Z Z Z ?_)))); cases hf; exact N 1 Z (Y Z h)
section
variable [zL]
@[reducible] def zO :iT aA ah→cK
 | .ok r=>.ret (.agg (aQ r))
 | .bad e=>.panic (.iface 189 (.agg (jA e)))
theorem sZ (p1:Nat) (mq:au) (s1:Str) {rX:iT aA ah} {nG:au} (hf:pI mq s1=some (rX,nG)) {Q:cK→List aJ→Prop} (h:Q (zO rX) [.box p1 (aS nG)]):PC 411 [pP p1,.str s1] [.box p1 (aS mq)] Q:=by
 unfold pI at hf; refine BD 26 [.cell 4 37] [0,1] Tryz.func411 Z Z Z Z Z (W 0 Z (AS Z (AO.aH Z j_ (fun b4=>(J 3 Z (C hf Z (fun h1 hf=>?_) fun h1 hf=>?_))))))
 · refine B1 hf fun x1 h2 hf=>W 1 Z (CL Z (oh _ h2 ?_)); cases hf; exact Rx 1 [0] rfl rfl ⟨rfl,_,⟨_,_,rfl,⟨_,_,0,_,_,rfl,rfl,jF,rfl⟩,rfl⟩,_,(.cons _ (.cons_cons _ (List.nil_sublist _))),h⟩
 refine B1 hf fun x2 h3 hf=>W 1 Z (CL Z (xu _ h3 (J 1 Z (C hf Z (fun h4 hf=>?_) fun h4 hf=>?_))))
 · refine B1 hf fun x3 h5 hf=>W 3 Z (CL Z (oh _ h5 ?_)); cases hf; exact Rx 1 [0] rfl rfl ⟨rfl,_,⟨_,_,rfl,⟨_,_,0,_,_,rfl,rfl,jF,rfl⟩,rfl⟩,_,(.cons _ (.cons_cons _ (List.nil_sublist _))),h⟩
 obtain ⟨x4,y1,h6,hf⟩:=cu hf; refine W 1 Z (CL Z (AC.one 1 Z (dZ _ _ _ h6 ⟨_,Z,(J 1 Z (C hf Z (fun h7 hf=>?_) fun h7 hf=>?_))⟩)))
 · exact aU hf
 cases hf; exact Wx 3 [0] rfl rfl ⟨rfl,_,⟨_,_,rfl,⟨_,_,0,_,_,rfl,rfl,jF,rfl⟩,rfl⟩,_,(.cons _ (.cons_cons _ (List.nil_sublist _))),h⟩
end
theorem nk (op1:Str) {r0:Int} (hf:eF op1=some r0) (h:Q (.ret (iP r0)) τ):PC 113 [.str op1] τ Q:=by
 unfold eF at hf; refine BN 22 [.tmp 2] [0] Tryz.func113 Z Z Z Z Z (V 4 Z (C hf Z (fun h1 hf=>?_) fun h1 hf=>?_))
 · cases hf; exact M 1 Z (Y Z h)
 refine V 2 Z (C hf Z (fun h2 hf=>?_) fun h2 hf=>?_)
 · cases hf; exact M 1 Z (Y Z h)
 refine V 2 Z (C hf Z (fun h3 hf=>?_) fun h3 hf=>?_)
 ·
  refine V 0 Z (AW.cond Z (fun h4=>?_) (fun h4=>?_))
  · cases hf; exact M 1 Z (Y Z h)
  cases h3.symm.trans h4
 refine V 2 Z (C hf Z (fun h5 hf=>?_) fun h5 hf=>?_)
 ·
  refine V 0 Z (AW.cond Z (fun h6=>?_) (fun h6=>?_))
  · cases hf; exact M 1 Z (Y Z h)
  cases h5.symm.trans h6
 refine V 2 Z (C hf Z (fun h7 hf=>?_) fun h7 hf=>?_)
 ·
  refine V 0 Z (AW.cond Z (fun h8=>?_) (fun h8=>?_))
  · cases hf; exact M 1 Z (Y Z h)
  cases h7.symm.trans h8
 refine V 2 Z (C hf Z (fun h9 hf=>?_) fun h9 hf=>?_)
 ·
  refine V 0 Z (AW.cond Z (fun h10=>?_) (fun h10=>?_))
  · cases hf; exact M 1 Z (Y Z h)
  cases h9.symm.trans h10
 refine V 2 Z (C hf Z (fun h11 hf=>?_) fun h11 hf=>?_)
 ·
  refine V 0 Z (AW.cond Z (fun h12=>?_) (fun h12=>?_))
  · cases hf; exact M 1 Z (Y Z h)
  cases h11.symm.trans h12
 refine V 2 Z (C hf Z (fun m_ hf=>?_) fun m_ hf=>?_)
 · cases hf; exact M 1 Z (Y Z h)
 refine V 2 Z (C hf Z (fun lC hf=>?_) fun lC hf=>?_)
 ·
  refine V 0 Z (AW.cond Z (fun nR=>?_) (fun nR=>?_))
  · cases hf; exact M 1 Z (Y Z h)
  cases lC.symm.trans nR
 refine V 2 Z (C hf Z (fun h16 hf=>?_) fun h16 hf=>?_)
 · cases hf; exact M 1 Z (Y Z h)
 refine V 2 Z (C hf Z (fun wP hf=>?_) fun wP hf=>?_)
 ·
  refine V 0 Z (AW.cond Z (fun h18=>?_) (fun h18=>?_))
  · cases hf; exact M 1 Z (Y Z h)
  cases wP.symm.trans h18
 refine V 2 Z (C hf Z (fun h19 hf=>?_) fun h19 hf=>?_)
 ·
  refine V 0 Z (AW.cond Z (fun h20=>?_) (fun h20=>?_))
  · cases hf; exact M 1 Z (Y Z h)
  cases h19.symm.trans h20
 refine V 2 Z (C hf Z (fun h21 hf=>?_) fun h21 hf=>?_)
 · cases hf; exact M 1 Z (Y Z h)
 cases hf; exact M 1 Z (Y Z h)
section
variable [zL]
@[reducible] def ku :iT aA ah→cK
 | .ok r=>.ret (.agg (aQ r))
 | .bad e=>.panic (.iface 189 (.agg (jA e)))
@[reducible] def kr :iT aA ah→cK
 | .ok r=>.ret (.agg (aQ r))
 | .bad e=>.panic (.iface 189 (.agg (jA e)))
@[reducible] def mR :iT aA ah→cK
 | .ok r=>.ret (.agg (aQ r))
 | .bad e=>.panic (.iface 189 (.agg (jA e)))
@[reducible] def mU :iT aA ah→cK
 | .ok r=>.ret (.agg (aQ r))
 | .bad e=>.panic (.iface 189 (.agg (jA e)))
@[reducible] def nC :iT aA ah→cK
 | .ok r=>.ret (.agg (aQ r))
 | .bad e=>.panic (.iface 189 (.agg (jA e)))
abbrev eY (aD:au→Option (iT aA ah × au)):Prop:=∀ (sj:Nat) (iq:au) {fG:iT aA ah} {jE:au},aD iq=some (fG,jE)→∀ {Q:cK→List aJ→Prop} (h:Q (ku fG) [.box sj (aS jE)]),PC 173 [pP sj] [.box sj (aS iq)] Q
abbrev eX (aG:au→Int→Option (iT aA ah × au)):Prop:=∀ (sj:Nat) (iq:au) (FI:Int) {fG:iT aA ah} {jE:au},aG iq FI=some (fG,jE)→∀ {Q:cK→List aJ→Prop} (h:Q (kr fG) [.box sj (aS jE)]),PC 244 [pP sj,iP FI] [.box sj (aS iq)] Q
abbrev gX (aO:au→Option (iT aA ah × au)):Prop:=∀ (sj:Nat) (iq:au) {fG:iT aA ah} {jE:au},aO iq=some (fG,jE)→∀ {Q:cK→List aJ→Prop} (h:Q (mR fG) [.box sj (aS jE)]),PC 311 [pP sj] [.box sj (aS iq)] Q
abbrev gY (aP:au→Option (iT aA ah × au)):Prop:=∀ (sj:Nat) (iq:au) {fG:iT aA ah} {jE:au},aP iq=some (fG,jE)→∀ {Q:cK→List aJ→Prop} (h:Q (mU fG) [.box sj (aS jE)]),PC 350 [pP sj] [.box sj (aS iq)] Q
abbrev iF (aZ:au→Option (iT aA ah × au)):Prop:=∀ (sj:Nat) (iq:au) {fG:iT aA ah} {jE:au},aZ iq=some (fG,jE)→∀ {Q:cK→List aJ→Prop} (h:Q (nC fG) [.box sj (aS jE)]),PC 383 [pP sj] [.box sj (aS iq)] Q
theorem wm (aD) (bU:eY aD) (aG) (bT:eX aG) (aO) (dW:gX aO) (aP) (fI:gY aP) (aZ) (gG:iF aZ) (p1:Nat) (mq:au) {rX:iT aA ah} {nG:au} (hf:kD aD aG aO aP aZ mq=some (rX,nG)) {Q:cK→List aJ→Prop} (h:Q (ku rX) [.box p1 (aS nG)]):PC 173 [pP p1] [.box p1 (aS mq)] Q:=by
 unfold kD at hf; refine BD 23 [.cell 2 37] [0] Tryz.func173 Z Z Z Z Z (W 0 Z (AS Z (AO.aH Z j_ (fun b2=>?_)))); rcases fq hf with ⟨e1,y2,h1,hf⟩ | ⟨x1,y1,h1,hf⟩
 · refine U 1 Z (CL Z (AC.one 1 Z (bT _ _ _ h1 ⟨_,Z,?_⟩))); cases hf; exact ⟨rfl,_,(.cons _ (.cons_cons _ (List.nil_sublist _))),h⟩
 refine U 1 Z (CL Z (AC.one 1 Z (bT _ _ _ h1 ⟨_,Z,(AS Z (AO.aH Z j_ (fun b3=>?_)))⟩))); obtain ⟨x2,y3,h2,hf⟩:=cu hf; refine Rr 2 [0] Z Z (CL Z (AC.one 2 Z (dZ _ _ _ h2 ⟨_,Z,(J 1 Z (C hf Z (fun h3 hf=>?_) fun h3 hf=>?_))⟩)))
 · cases hf; exact Wx 2 [0,1] rfl rfl ⟨rfl,_,⟨_,_,rfl,⟨_,_,1,_,_,rfl,rfl,jF,rfl⟩,rfl⟩,_,(.cons _ (.cons _ (.cons_cons _ (List.nil_sublist _)))),h⟩
 rcases fq hf with ⟨e2,y5,h4,hf⟩ | ⟨x3,y4,h4,hf⟩
 · refine W 1 Z (CL Z (AC.one 2 Z (bU _ _ h4 ⟨_,Z,?_⟩))); cases hf; exact ⟨rfl,_,(.cons _ (.cons _ (.cons_cons _ (List.nil_sublist _)))),h⟩
 refine W 1 Z (CL Z (AC.one 2 Z (bU _ _ h4 ⟨_,Z,(AS Z (AO.aH Z j_ (fun b4=>?_)))⟩))); exact aU hf
theorem wh (aD) (bU:eY aD) (aG) (bT:eX aG) (aO) (dW:gX aO) (aP) (fI:gY aP) (aZ) (gG:iF aZ) (p1:Nat) (mq:au) (n1:Int) {rX:iT aA ah} {nG:au} (hf:kC aD aG aO aP aZ mq n1=some (rX,nG)) {Q:cK→List aJ→Prop} (h:Q (kr rX) [.box p1 (aS nG)]):PC 244 [pP p1,iP n1] [.box p1 (aS mq)] Q:=by
 unfold kC at hf; refine BD 47 [.cell 4 37] [0,1] Tryz.func244 Z Z Z Z Z (W 0 Z (AS Z (AO.aH Z j_ (fun b4=>(J 2 Z (C hf Z (fun h1 hf=>?_) fun h1 hf=>?_))))))
 ·
  rcases fq hf with ⟨e1,y2,h2,hf⟩ | ⟨x1,y1,h2,hf⟩
  · refine W 1 Z (CL Z (AC.one 1 Z (dW _ _ h2 ⟨_,Z,?_⟩))); cases hf; exact ⟨rfl,_,(.cons _ (.cons_cons _ (List.nil_sublist _))),h⟩
  refine W 1 Z (CL Z (AC.one 1 Z (dW _ _ h2 ⟨_,Z,?_⟩))); cases hf; exact Rx 1 [0] rfl rfl ⟨rfl,_,⟨_,_,rfl,⟨_,_,0,_,_,rfl,rfl,jF,rfl⟩,rfl⟩,_,(.cons _ (.cons_cons _ (List.nil_sublist _))),h⟩
 rcases fq hf with ⟨e2,y4,h3,hf⟩ | ⟨x2,y3,h3,hf⟩
 · refine W 3 Z (CL Z (AC.one 1 Z (bT _ _ _ h3 ⟨_,Z,?_⟩))); cases hf; exact ⟨rfl,_,(.cons _ (.cons_cons _ (List.nil_sublist _))),h⟩
 refine W 3 Z (CL Z (AC.one 1 Z (bT _ _ _ h3 ⟨_,Z,(AS Z (AO.aH Z j_ (fun b5=>?_)))⟩))); refine Rw 1 [0] Z Z (KN (fun e3 y5=>[(0,pP p1),(1,iP n1),(4,pP b4),(5,pP b5)]) (fun e3 y5=>[.box b5 (aQ e3),.box b4 [iP 0,.str ([]:Str),iP 0,.bool false,iP 0,.str ([]:Str),.own (.slice none 0 0) [],.own (.slice none 0 0) [],.own (.slice none 0 0) [],.own (.slice none 0 0) []],.box p1 (aS y5)]) (fun bP e3 y5=>iK aG n1 bP e3 y5=some (rX,nG)) BIG x2 y3 Z Z hf (fun _ _ hz=>aU hz) ?_); intro bP e3 y5 hf; rw [iK] at hf; obtain ⟨x3,y6,h4,hf⟩:=cu hf; refine W 1 Z (CL Z (AC.one 2 Z (kV _ _ h4 ⟨_,Z,(AS Z (AO.aH Z rJ (fun b6=>?_)))⟩))); refine B1 hf fun b1 h6 hf=>Rr 5 [0,0] Z Z (AR.dx 6 20 26 false [0,1,4,5,6] b1 Z Z (fun h5=>?_) (fun h5=>?_) ?_)
 · replace h6:=jH h5 h6; refine Is 20 h5 Z (U 1 Z (GO Z (AO.bV (i:=0) Z Z Z RJ Z Z ?_))); refine B1 h6 fun x4 h7 h6=>GO Z (AO.call Z _ Z Z Xc (nk _ h7 ?_)); cases h6; exact dB 3 Z (En [26,0,1,4,5,6] Z)
 · refine IT 20 h5 h6 Z fun h6=>?_; cases h6; exact dB 6 Z (En [26,0,1,4,5,6] Z)
 refine J 0 Z (C hf Z (fun h8 hf=>?_) fun h8 hf=>?_)
 · cases hf; exact Wx 2 [1,2] rfl rfl ⟨rfl,_,⟨_,_,rfl,⟨_,_,2,_,_,rfl,rfl,jF,rfl⟩,rfl⟩,_,(.cons _ (.cons _ (.cons _ (.cons_cons _ (List.nil_sublist _))))),h⟩
 refine Ww 8 [3,3] Z Z (AW.Tw 0 6 8 3 mixed (by kernel_rfl) (by kernel_rfl) (by kernel_rfl) Z Z Z Z ?_); refine Ev.nil ?_; show Ev _ _ _ _ _ _ _; refine Ev.cs aR 1 Z (Ev.cons Z Z Z (AO.bV (i:=0) Z Z Z RJ Z Z zg) (Ev.cons Z Z Z (AO.bV (i:=1) Z Z Z jF Z Z zg) (Ev.cs aR 3 Z ?_))); refine Ev.nil ?_; rcases fq hf with ⟨e4,y8,h9,hf⟩ | ⟨x5,y7,h9,hf⟩
 · refine TF.step Z Z Z (AO.call Z _ Z Z Sm (AC.one 0 Z (bT _ _ _ h9 ⟨_,Z,?_⟩))); cases hf; exact ⟨rfl,_,(.cons _ (.cons _ (.cons _ (.cons_cons _ (List.nil_sublist _))))),h⟩
 refine TF.step rfl rfl rfl (AO.call rfl _ rfl rfl Sm (AC.one 0 rfl (bT _ _ _ h9 ⟨_,rfl,(TF.step rfl rfl rfl (AO.bn (ah.bL [e3,x5]) rfl Kn rfl rfl rfl (by first | rfl | simp only [List.map,ah.aF,ah.bL]) ?_))⟩))); refine TF.nil ?_; show AR _ _ _ _ _ _ _ _
 refine Rw 4 [1] Z Z (C hf Z (fun h10 hf=>?_) fun h10 hf=>?_)
 · cases hf; exact Wx 2 [1,2] rfl rfl ⟨rfl,_,⟨_,_,rfl,⟨_,_,2,_,_,rfl,rfl,jF,rfl⟩,rfl⟩,_,(.cons _ (.cons _ (.cons _ (.cons_cons _ (List.nil_sublist _))))),h⟩
 refine AW.drop1 (AW.Pb 0 Z ?_); exact M 0 Z ⟨(ah.mk 7 x3.text (aj.mk 0 false 0 ([]:Str) [] []) [e3,x5] []),y7,Z,Z,Z,hf⟩
theorem zI (aD) (bU:eY aD) (aG) (bT:eX aG) (aO) (dW:gX aO) (aP) (fI:gY aP) (aZ) (gG:iF aZ) (p1:Nat) (mq:au) {rX:iT aA ah} {nG:au} (hf:mV aD aG aO aP aZ mq=some (rX,nG)) {Q:cK→List aJ→Prop} (h:Q (mR rX) [.box p1 (aS nG)]):PC 311 [pP p1] [.box p1 (aS mq)] Q:=by
 unfold mV at hf; refine BD 22 [.cell 2 37] [0] Tryz.func311 Z Z Z Z Z (W 0 Z (AS Z (AO.aH Z j_ (fun b2=>(U 0 Z (AS Z (AO.bn (List.map iW ([([33]:Str),([45]:Str)]:List Str)) Z tY Z Z Z Z (AS Z (AO.aM (l:=([([33]:Str),([45]:Str)]:List Str)) Z Z Z Z eO Z Z ?_))))))))); refine J 1 Z (KN (fun x1 y1=>[(0,pP p1),(2,pP b2),(5,sP (([([33]:Str),([45]:Str)]:List Str))),(6,iP (([([33]:Str),([45]:Str)]:List Str).length:Int)),(7,iP x1)]) (fun x1 y1=>[.box b2 [iP 0,.str ([]:Str),iP 0,.bool false,iP 0,.str ([]:Str),.own (.slice none 0 0) [],.own (.slice none 0 0) [],.own (.slice none 0 0) [],.own (.slice none 0 0) []],.box p1 (aS y1)]) (fun bP x1 y1=>jQ aO aP bP x1 y1=some (rX,nG)) BIG 0 mq Z Z hf (fun _ _ hz=>aU hz) ?_); intro bP x1 y1 hf; rw [jQ] at hf; refine V 1 Z (C hf Z (fun h1 hf=>?_) fun h1 hf=>?_)
 ·
  refine B1 hf fun op1 h2 hf=>W 0 Z (AS Z (AO.aK h2 Z Z Z Z eO Z Z ?_)); obtain ⟨x2,y2,h3,hf⟩:=cu hf; refine U 4 Z (CL Z (AC.one 1 Z (dZ _ _ _ h3 ⟨_,Z,(J 0 Z (C hf Z (fun h4 hf=>?_) fun h4 hf=>?_))⟩)))
  ·
   rcases fq hf with ⟨e1,y4,h5,hf⟩ | ⟨x3,y3,h5,hf⟩
   · refine W 2 Z (CL Z (AC.one 1 Z (dW _ _ h5 ⟨_,Z,?_⟩))); cases hf; exact ⟨rfl,_,(.cons _ (.cons_cons _ (List.nil_sublist _))),h⟩
   refine W 2 rfl (CL rfl (AC.one 1 rfl (dW _ _ h5 ⟨_,rfl,(AS rfl (AO.bn (ah.bL [x3]) rfl Kn rfl rfl rfl (by first | rfl | simp only [List.map,ah.aF,ah.bL]) ?_))⟩))); cases hf; exact Rx 2 [0] rfl rfl ⟨rfl,_,⟨_,_,rfl,⟨_,_,0,_,_,rfl,rfl,jF,rfl⟩,rfl⟩,_,(.cons _ (.cons_cons _ (List.nil_sublist _))),h⟩
  exact M 2 Z ⟨(bQ (x1 + 1)),y2,Z,Z,Z,hf⟩
 rcases fq hf with ⟨e2,y6,h6,hf⟩ | ⟨x4,y5,h6,hf⟩
 · refine W 1 Z (CL Z (AC.one 1 Z (fI _ _ h6 ⟨_,Z,?_⟩))); cases hf; exact ⟨rfl,_,(.cons _ (.cons_cons _ (List.nil_sublist _))),h⟩
 refine W 1 Z (CL Z (AC.one 1 Z (fI _ _ h6 ⟨_,Z,?_⟩))); cases hf; exact Rx 1 [0] rfl rfl ⟨rfl,_,⟨_,_,rfl,⟨_,_,0,_,_,rfl,rfl,jF,rfl⟩,rfl⟩,_,(.cons _ (.cons_cons _ (List.nil_sublist _))),h⟩
theorem zJ (aD) (bU:eY aD) (aG) (bT:eX aG) (aO) (dW:gX aO) (aP) (fI:gY aP) (aZ) (gG:iF aZ) (p1:Nat) (mq:au) {rX:iT aA ah} {nG:au} (hf:mW aD aG aO aP aZ mq=some (rX,nG)) {Q:cK→List aJ→Prop} (h:Q (mU rX) [.box p1 (aS nG)]):PC 350 [pP p1] [.box p1 (aS mq)] Q:=by
 unfold mW at hf; refine BD 47 [.cell 2 37] [0] Tryz.func350 Z Z Z Z Z (W 0 Z (AS Z (AO.aH Z j_ (fun b2=>?_)))); rcases fq hf with ⟨e1,y2,h1,hf⟩ | ⟨x1,y1,h1,hf⟩
 · refine U 1 Z (CL Z (AC.one 1 Z (gG _ _ h1 ⟨_,Z,?_⟩))); cases hf; exact ⟨rfl,_,(.cons _ (.cons_cons _ (List.nil_sublist _))),h⟩
 refine U 1 Z (CL Z (AC.one 1 Z (gG _ _ h1 ⟨_,Z,(AS Z (AO.aH Z j_ (fun b3=>?_)))⟩))); refine Rw 1 [0] Z Z (KN (fun e2 y3=>[(0,pP p1),(2,pP b2),(3,pP b3)]) (fun e2 y3=>[.box b3 (aQ e2),.box b2 [iP 0,.str ([]:Str),iP 0,.bool false,iP 0,.str ([]:Str),.own (.slice none 0 0) [],.own (.slice none 0 0) [],.own (.slice none 0 0) [],.own (.slice none 0 0) []],.box p1 (aS y3)]) (fun bP e2 y3=>iL aD bP e2 y3=some (rX,nG)) BIG x1 y1 Z Z hf (fun _ _ hz=>aU hz) ?_); intro bP e2 y3 hf; rw [iL] at hf; obtain ⟨x2,y4,h2,hf⟩:=cu hf; refine W 1 Z (CL Z (AC.one 2 Z (dZ _ _ _ h2 ⟨_,Z,(J 1 Z (C hf Z (fun h3 hf=>?_) fun h3 hf=>?_))⟩)))
 ·
  rcases fq hf with ⟨e3,y6,h4,hf⟩ | ⟨x3,y5,h4,hf⟩
  · refine W 1 Z (CL Z (AC.one 2 Z (kW _ _ h4 ⟨_,Z,?_⟩))); cases hf; exact ⟨rfl,_,(.cons _ (.cons _ (.cons_cons _ (List.nil_sublist _)))),h⟩
  refine W 1 Z (CL Z (AC.one 2 Z (kW _ _ h4 ⟨_,Z,(AS Z (AO.aH Z rJ (fun b4=>?_)))⟩))); refine B1 hf fun b1 h6 hf=>Rr 5 [0,0] Z Z (AR.dx 4 17 21 false [0,2,3,4] b1 Z Z (fun h5=>?_) (fun h5=>?_) ?_)
  · replace h6:=jH h5 h6; refine Is 17 h5 Z (U 1 Z (GO Z (AO.bV (i:=0) Z Z Z RJ Z Z ?_))); refine BR h6 fun x4 h7 h6=>?_; refine GO Z (AO.call Z _ Z Z Sk (xu _ h7 ?_)); cases h6; exact dB 1 Z (En [21,0,2,3,4] Z)
  · refine IT 17 h5 h6 Z fun h6=>?_; cases h6; exact dB 4 Z (En [21,0,2,3,4] Z)
  refine J 0 Z (C hf Z (fun h8 hf=>?_) fun h8 hf=>?_)
  ·
   rcases fq hf with ⟨e4,y8,h9,hf⟩ | ⟨_,y7,h9,hf⟩
   · refine W 1 Z (CL Z (AC.one 3 Z (dR _ _ _ h9 ⟨_,Z,?_⟩))); cases hf; exact ⟨rfl,_,(.cons _ (.cons _ (.cons _ (.cons_cons _ (List.nil_sublist _))))),h⟩
   refine W 1 rfl (CL rfl (AC.one 3 rfl (dR _ _ _ h9 ⟨_,rfl,(Rr 11 [3,3,0,1] rfl rfl (AS rfl (AO.bn (ah.bL [e2]) rfl Kn rfl rfl rfl (by first | rfl | simp only [List.map,ah.aF,ah.bL]) ?_)))⟩))); refine Rn 2 [1] Z Z (AR.drop1 (AR.Pb 0 Z ?_)); exact N 0 Z ⟨(ah.mk 3 x3.text (aj.mk 0 false 0 ([]:Str) [] []) [e2] []),(au.mk y7.ts (bQ (y7.at_ + 1))),Z,Z,Z,hf⟩
  refine Wr 11 [3,3,0,1] rfl rfl (AS rfl (AO.bn (ah.bL [e2]) rfl Kn rfl rfl rfl (by first | rfl | simp only [List.map,ah.aF,ah.bL]) ?_)); refine Rn 2 [1] Z Z (AR.drop1 (AR.Pb 0 Z ?_)); exact N 0 Z ⟨(ah.mk 3 x3.text (aj.mk 0 false 0 ([]:Str) [] []) [e2] []),(au.mk y5.ts (bQ (y5.at_ + 1))),Z,Z,Z,hf⟩
 obtain ⟨x5,y9,h10,hf⟩:=cu hf; refine W 1 Z (CL Z (AC.one 2 Z (dZ _ _ _ h10 ⟨_,Z,(J 1 Z (C hf Z (fun h11 hf=>?_) fun h11 hf=>?_))⟩)))
 ·
  rcases fq hf with ⟨e5,Ya,h12,hf⟩ | ⟨x6,Zi,h12,hf⟩
  · refine W 1 Z (CL Z (AC.one 2 Z (bU _ _ h12 ⟨_,Z,?_⟩))); cases hf; exact ⟨rfl,_,(.cons _ (.cons _ (.cons_cons _ (List.nil_sublist _)))),h⟩
  refine W 1 Z (CL Z (AC.one 2 Z (bU _ _ h12 ⟨_,Z,(AS Z (AO.aH Z j_ (fun b5=>?_)))⟩))); exact aU hf
 cases hf; exact Wx 2 [0,1] rfl rfl ⟨rfl,_,⟨_,_,rfl,⟨_,_,1,_,_,rfl,rfl,jF,rfl⟩,rfl⟩,_,(.cons _ (.cons _ (.cons_cons _ (List.nil_sublist _)))),h⟩
theorem zQ (aD) (bU:eY aD) (aG) (bT:eX aG) (aO) (dW:gX aO) (aP) (fI:gY aP) (aZ) (gG:iF aZ) (p1:Nat) (mq:au) {rX:iT aA ah} {nG:au} (hf:nJ aD aG aO aP aZ mq=some (rX,nG)) {Q:cK→List aJ→Prop} (h:Q (nC rX) [.box p1 (aS nG)]):PC 383 [pP p1] [.box p1 (aS mq)] Q:=by
 unfold nJ at hf; refine BD 77 [.cell 2 37] [0] Tryz.func383 Z Z Z Z Z (W 0 Z (AS Z (AO.aH Z j_ (fun b2=>?_)))); rcases fq hf with ⟨e1,y2,h1,hf⟩ | ⟨x1,y1,h1,hf⟩
 · refine U 1 Z (CL Z (AC.one 1 Z (kW _ _ h1 ⟨_,Z,?_⟩))); cases hf; exact ⟨rfl,_,(.cons _ (.cons_cons _ (List.nil_sublist _))),h⟩
 refine U 1 Z (CL Z (AC.one 1 Z (kW _ _ h1 ⟨_,Z,(AS Z (AO.aH Z rJ (fun b3=>(Rw 5 [0,0] Z Z (C hf Z (fun h2 hf=>?_) fun h2 hf=>?_)))))⟩)))
 · obtain ⟨n1,x2,h3,hf⟩:=cu hf; refine Wr 10 [2,2,0] Z Z (CL Z (AV _ h3 ?_)); refine B1 hf fun x3 h4 hf=>U 7 Z (CL Z (oh _ h4 ?_)); cases hf; exact Rx 1 [1] rfl rfl ⟨rfl,_,⟨_,_,rfl,⟨_,_,1,_,_,rfl,rfl,jF,rfl⟩,rfl⟩,_,(.cons _ (.cons _ (.cons_cons _ (List.nil_sublist _)))),h⟩
 refine V 2 Z (C hf Z (fun h5 hf=>?_) fun h5 hf=>?_)
 · refine B1 hf fun x4 h6 hf=>Wr 11 [2,2,0] Z Z (CL Z (oh _ h6 ?_)); cases hf; exact Rx 1 [1] rfl rfl ⟨rfl,_,⟨_,_,rfl,⟨_,_,1,_,_,rfl,rfl,jF,rfl⟩,rfl⟩,_,(.cons _ (.cons _ (.cons_cons _ (List.nil_sublist _)))),h⟩
 refine V 2 Z (C hf Z (fun h7 hf=>?_) fun h7 hf=>?_)
 ·
  rcases fq hf with ⟨e2,y4,h8,hf⟩ | ⟨x5,y3,h8,hf⟩
  · refine Wr 11 [2,2,0] Z Z (CL Z (AC.one 2 Z (sZ _ _ _ h8 ⟨_,Z,?_⟩))); cases hf; exact ⟨rfl,_,(.cons _ (.cons _ (.cons_cons _ (List.nil_sublist _)))),h⟩
  refine Wr 11 [2,2,0] Z Z (CL Z (AC.one 2 Z (sZ _ _ _ h8 ⟨_,Z,?_⟩))); cases hf; exact Rx 1 [1] rfl rfl ⟨rfl,_,⟨_,_,rfl,⟨_,_,1,_,_,rfl,rfl,jF,rfl⟩,rfl⟩,_,(.cons _ (.cons _ (.cons_cons _ (List.nil_sublist _)))),h⟩
 obtain ⟨x6,y5,h9,hf⟩:=cu hf; refine W 1 Z (CL Z (AC.one 2 Z (dZ _ _ _ h9 ⟨_,Z,(J 1 Z (C hf Z (fun h10 hf=>?_) fun h10 hf=>?_))⟩)))
 ·
  rcases fq hf with ⟨e3,y7,h11,hf⟩ | ⟨x7,y6,h11,hf⟩
  · refine W 1 Z (CL Z (AC.one 2 Z (bU _ _ h11 ⟨_,Z,?_⟩))); cases hf; exact ⟨rfl,_,(.cons _ (.cons _ (.cons_cons _ (List.nil_sublist _)))),h⟩
  refine W 1 Z (CL Z (AC.one 2 Z (bU _ _ h11 ⟨_,Z,(AS Z (AO.aH Z j_ (fun b6=>?_)))⟩))); exact aU hf
 obtain ⟨x8,y8,h12,hf⟩:=cu hf; refine W 1 Z (CL Z (AC.one 2 Z (dZ _ _ _ h12 ⟨_,Z,(J 1 Z (C hf Z (fun m_ hf=>?_) fun m_ hf=>?_))⟩)))
 · exact aU hf
 obtain ⟨x9,y9,lC,hf⟩:=cu hf; refine W 1 Z (CL Z (AC.one 2 Z (dZ _ _ _ lC ⟨_,Z,(J 1 Z (C hf Z (fun nR hf=>?_) fun nR hf=>?_))⟩)))
 · exact aU hf
 rcases fq hf with ⟨e4,Ya,h16,hf⟩ | ⟨_,Zi,h16,hf⟩
 · refine W 1 Z (CL Z (AC.one 2 Z (dR _ _ _ h16 ⟨_,Z,?_⟩))); cases hf; exact ⟨rfl,_,(.cons _ (.cons _ (.cons_cons _ (List.nil_sublist _)))),h⟩
 refine W 1 Z (CL Z (AC.one 2 Z (dR _ _ _ h16 ⟨_,Z,?_⟩))); cases hf; exact Rx 2 [1] rfl rfl ⟨rfl,_,⟨_,_,rfl,⟨_,_,1,_,_,rfl,rfl,jF,rfl⟩,rfl⟩,_,(.cons _ (.cons _ (.cons_cons _ (List.nil_sublist _)))),h⟩
theorem gK :∀ k:Nat,(eY (bJ k))∧(eX (bI k))∧(gX (bW k))∧(gY (bX k))∧(iF (bZ k)):=by
 intro k
 induction k with
 | zero=>exact ⟨fun _ _ _ _ hz=>by first | cases hz | (unfold bJ at hz; cases hz),fun _ _ _ _ _ hz=>by first | cases hz | (unfold bI at hz; cases hz),fun _ _ _ _ hz=>by first | cases hz | (unfold bW at hz; cases hz),fun _ _ _ _ hz=>by first | cases hz | (unfold bX at hz; cases hz),fun _ _ _ _ hz=>by first | cases hz | (unfold bZ at hz; cases hz)⟩
 | succ k ih=>exact ⟨fun sj iq fG jE hz  Q hq=>wm (bJ k) ih.1 (bI k) ih.2.1 (bW k) ih.2.2.1 (bX k) ih.2.2.2.1 (bZ k) ih.2.2.2.2 sj iq hz hq,fun sj iq FI fG jE hz  Q hq=>wh (bJ k) ih.1 (bI k) ih.2.1 (bW k) ih.2.2.1 (bX k) ih.2.2.2.1 (bZ k) ih.2.2.2.2 sj iq FI hz hq,fun sj iq fG jE hz  Q hq=>zI (bJ k) ih.1 (bI k) ih.2.1 (bW k) ih.2.2.1 (bX k) ih.2.2.2.1 (bZ k) ih.2.2.2.2 sj iq hz hq,fun sj iq fG jE hz  Q hq=>zJ (bJ k) ih.1 (bI k) ih.2.1 (bW k) ih.2.2.1 (bX k) ih.2.2.2.1 (bZ k) ih.2.2.2.2 sj iq hz hq,fun sj iq fG jE hz  Q hq=>zQ (bJ k) ih.1 (bI k) ih.2.1 (bW k) ih.2.2.1 (bX k) ih.2.2.2.1 (bZ k) ih.2.2.2.2 sj iq hz hq⟩
theorem ou (sj:Nat) (iq:au) {fG:iT aA ah} {jE:au} (hf:pY iq=some (fG,jE)) {Q:cK→List aJ→Prop} (h:Q (ku fG) [.box sj (aS jE)]):PC 173 [pP sj] [.box sj (aS iq)] Q:=
 ((gK BIG).1) sj iq hf h
theorem Jj (sj:Nat) (iq:au) (FI:Int) {fG:iT aA ah} {jE:au} (hf:xP iq FI=some (fG,jE)) {Q:cK→List aJ→Prop} (h:Q (kr fG) [.box sj (aS jE)]):PC 244 [pP sj,iP FI] [.box sj (aS iq)] Q:=
 ((gK BIG).2.1) sj iq FI hf h
theorem Mi (sj:Nat) (iq:au) {fG:iT aA ah} {jE:au} (hf:BQ iq=some (fG,jE)) {Q:cK→List aJ→Prop} (h:Q (mR fG) [.box sj (aS jE)]):PC 311 [pP sj] [.box sj (aS iq)] Q:=
 ((gK BIG).2.2.1) sj iq hf h
theorem Mj (sj:Nat) (iq:au) {fG:iT aA ah} {jE:au} (hf:BS iq=some (fG,jE)) {Q:cK→List aJ→Prop} (h:Q (mU fG) [.box sj (aS jE)]):PC 350 [pP sj] [.box sj (aS iq)] Q:=
 ((gK BIG).2.2.2.1) sj iq hf h
theorem NJ (sj:Nat) (iq:au) {fG:iT aA ah} {jE:au} (hf:CJ iq=some (fG,jE)) {Q:cK→List aJ→Prop} (h:Q (nC fG) [.box sj (aS jE)]):PC 383 [pP sj] [.box sj (aS iq)] Q:=
 ((gK BIG).2.2.2.2) sj iq hf h
end
section
variable [zL]
theorem JY (Ec:List aI) {r0:ah} {r1 r2:Int} (hf:Ag Ec=some (r0,r1,r2)) (h:Q (.ret (.tuple [.agg (aQ r0),iP r1,iP r2])) τ):PC 102 [.list (List.map aI.cells Ec)] τ Q:=by
 unfold Ag at hf; refine AC.none (AC.Fb 17 [.cell 2 37,.cell 3 3,.cell 4 24] [0] [0,1,2] Tryz.func102 Z Z Z Z Z Tryz.func172 Z Z Z Z Z Z Z WL (AW.sr (AR.step Z Z Z (AO.aH Z j_ (fun b2=>?_))))); refine AR.step Z Z Z (AO.aH Z Zr (fun b3=>(AR.step Z Z Z (AO.aH Z O8 (fun b4=>(AR.nil [0,2,3,4] Z (AW.sr ?_))))))); refine cs 1 Z (AR.step Z Z Z (AO.build Z V4 Ux Z (AR.step Z Z Z (AO.P5 Z Z (fun b8=>(cs 1 Z ?_)))))); refine AR.nil [2,3,4,5] Z (AW.sr (cs 1 Z (AR.defer (vs:=[.pointer (some ⟨b2,0,none⟩),.pointer (some ⟨b3,0,none⟩),.pointer (some ⟨b4,0,none⟩)]) Z Z Z Z Z Z ?_))); refine AR.nil [2,3,4,5] Z (AW.sr (cs 1 Z ?_)); rcases fq hf with ⟨f1,s1,h1,hf⟩ | ⟨e1,s1,h1,hf⟩
 ·
  refine AR.step Z Z Z (AO.call Z _ Z Z Sr (AC.one 0 Z (ou _ _ h1 ⟨_,Z,?_⟩))); cases hf; refine ⟨[.pointer (some ⟨b2,0,none⟩),.pointer (some ⟨b3,0,none⟩),.pointer (some ⟨b4,0,none⟩)],_,Z,Z,Z,(AR.step Z Z Z (AO.Pf Z Z Ut (cs 3 Z (AR.step Z Z Z (AO.aH Z Rt (fun b5=>?_))))))⟩; refine AR.bD Z Z (AO.bY (i:=0) Z Z Z RO Z Z Z Z Z (cs 1 Z (AR.nil [0,1,2,3,4] Z (AW.sr ?_)))); refine cs 1 Z (AR.nil [0,1,2,3,10] Z (AW.cond Z (fun _=>?_) (fun hh=>by cases hh))); refine AW.Tv 1 5 7 [_] [_,_,_,_] mixed (by kernel_rfl) (by kernel_rfl) (by kernel_rfl) Z Z Z (List.Perm.refl _) ?_; refine Ev.cons Z Z Z (AO.build Z j_ Oj Z zg) (Ev.nil ?_); show Ev _ _ _ _ _ _ _; refine Ev.cs aR 1 Z (Ev.cons Z Z Z (AO.bV (i:=0) Z Z Z Dh Z Z zg) (Ev.cs aR 1 Z (Ev.cons Z Z Z (AO.bV (i:=0) Z Z Z nE Z Z zg) ?_))); refine Ev.nil (TF.bD Z Z (AO.bY (i:=3) Z Z Z jF Z Z Z Z Z (TF.bD Z Z (AO.bY (i:=2) Z Z Z Dh Z Z Z Z Z (TF.nil ?_))))); show AR _ _ _ _ _ _ _ _; refine AR.bD Z Z (AO.bY (i:=2) Z Z Z nE Z Z Z Z Z (AR.nil [] Z ?_)); exact ⟨rfl,_,⟨_,_,rfl,⟨_,_,4,_,_,rfl,rfl,jF,rfl⟩,⟨_,_,rfl,⟨_,_,3,_,_,rfl,rfl,Dh,rfl⟩,⟨_,_,rfl,⟨_,_,2,_,_,rfl,rfl,nE,rfl⟩,rfl⟩⟩⟩,[],List.nil_sublist _,h⟩
 refine AR.step Z Z Z (AO.call Z _ Z Z Sr (AC.one 0 Z (ou _ _ h1 ⟨_,Z,?_⟩))); cases hf; refine AR.bD Z Z (AO.bY (i:=3) Z Z Z jF Z Z Z Z Z (AR.nil [2,3,4,5] Z (AW.seq (AW.Tw 1 5 6 3 mixed (by kernel_rfl) (by kernel_rfl) (by kernel_rfl) Z Z Z Z ?_)))); refine Ev.cons Z Z Z (AO.bV (i:=3) Z Z Z jF Z Z zg) (Ev.nil ?_); show Ev _ _ _ _ _ _ _; refine Ev.cs aR 3 Z (Ev.cons Z Z Z (AO.bV (i:=0) Z Z Z Dh Z Z zg) (Ev.nil (TF.bD Z Z (AO.bY (i:=0) Z Z Z jF Z Z Z Z Z ?_)))); refine TF.nil ?_; show AR _ _ _ _ _ _ _ _; refine AR.bD Z Z (AO.bY (i:=2) Z Z Z Dh Z Z Z Z Z (AR.bD Z Z (AO.bY (i:=1) Z Z Z nE Z Z Z Z Z (AR.nil [2,3,4] Z (AW.ret ?_))))); refine ⟨[.pointer (some ⟨b2,0,none⟩),.pointer (some ⟨b3,0,none⟩),.pointer (some ⟨b4,0,none⟩)],_,Z,Z,Z,(AR.step Z Z Z (AO.MF (p:=.agg [iP 0,iP 0]) Z Z Uv (fun _ _=>by simp only [bM]; exact ⟨[.int .i64 0,.int .i64 0],Z,aN.cons (by simp [bM]) (aN.cons (by simp [bM]) aN.nil)⟩) ?_))⟩; refine cs 3 Z (AR.step Z Z Z (AO.aH Z Rt (fun b5=>(AR.bD Z Z (AO.bY (i:=0) Z Z Z RO Z Z Z Z Z (cs 1 Z ?_)))))); refine AR.nil [4] Z (AW.sr (cs 1 Z (AR.nil [10] Z ?_))); refine AW.cond Z (fun hh=>by cases hh) (fun _=>?_); refine AW.skip ?_; exact ⟨rfl,_,⟨_,_,rfl,⟨_,_,4,_,_,rfl,rfl,jF,rfl⟩,⟨_,_,rfl,⟨_,_,3,_,_,rfl,rfl,Dh,rfl⟩,⟨_,_,rfl,⟨_,_,2,_,_,rfl,rfl,nE,rfl⟩,rfl⟩⟩⟩,[],List.nil_sublist _,h⟩
end
abbrev Bh (gq:ah→Option Int):Prop:=∀ (eD:ah) {aL:Int},gq eD=some aL→∀ {τ:List aJ} {Q:cK→List aJ→Prop} (h:Q (.ret (iP aL)) τ),PC 108 [.agg (aQ eD)] τ Q
theorem GI (gq) (Ey:Bh gq) (e1:ah) {r0:Int} (hf:qI gq e1=some r0) (h:Q (.ret (iP r0)) τ):PC 108 [.agg (aQ e1)] τ Q:=by
 unfold qI at hf; refine BN 19 [.tmp 2] [0] Tryz.func108 Z Z Z Z Z (W 5 Z (AS Z (AO.aM (l:=e1.args) Z Z Z Z dQ Z (ah.aC _) (J 1 Z (KN (fun n1 x1=>[(3,iP n1),(7,.list (ah.bL e1.args)),(8,iP (e1.args.length:Int)),(9,iP x1)]) (fun n1 x1=>[]) (fun bP n1 x1=>mG gq e1 bP n1 x1=some r0) BIG 1 0 Z Z hf (fun _ _ hz=>aU hz) ?_))))); intro bP n1 x1 hf; rw [mG] at hf; refine V 1 Z (C hf Z (fun h1 hf=>?_) fun h1 hf=>?_)
 · refine B1 hf fun e2 h2 hf=>W 0 Z (AS Z (AO.aK h2 Z Z (ah.aC _) Z dQ (ah.aF _) Z (U 1 Z (AS Z (AO.aH Z j_ (fun b5=>?_)))))); refine B1 hf fun x2 h3 hf=>Rr 3 [0,0] Z Z (CL Z (Ey _ h3 (dB 4 Z (AR.drop1 ?_)))); exact N 0 Z ⟨(bQ (n1 + x2)),(bQ (x1 + 1)),Z,Z,Z,hf⟩
 cases hf; exact M 2 Z (Y Z h)
theorem Hy :∀ k:Nat,(Bh (iN k)):=by
 intro k
 induction k with
 | zero=>exact fun _ _ hz=>by first | cases hz | (unfold iN at hz; cases hz)
 | succ k ih=>exact fun eD aL hz τ Q hq=>GI (iN k) ih eD hz hq
theorem IW (eD:ah) {aL:Int} (hf:uy eD=some aL) (h:Q (.ret (iP aL)) τ):PC 108 [.agg (aQ eD)] τ Q:=
 ((Hy BIG)) eD hf h
theorem JW (v1:aj) {r0:Bool} (hf:wK v1=some r0) (h:Q (.ret (.bool r0)) τ):PC 251 [.agg (aT v1)] τ Q:=by
 unfold wK at hf; refine BN 33 [.tmp 2] [0] Tryz.func251 Z Z Z Z Z (W 6 Z (An 4 6 10 [1] (!v1.jd) Z Z Z Z (U 1 Z (An 4 11 15 [1] (v1.iG == 0) Z Z Z Z (U 1 Z (An 4 16 20 [1] (v1.jK == ([]:Str)) Z Z Z Z ?_)))))); refine U 1 Z (AR.and 5 21 26 [1] (x:=((v1.aW.length:Int) == 0)) Z Z (fun h4=>?_) (fun h4=>?_) ?_)
 · refine Is 21 h4 Z (U 2 Z (GO Z (AO.aM (l:=v1.aW) Z Z Z Z jC Z (aj.aC _) ?_))); exact dB 2 Z (En [26,1] Z)
 · refine Is 21 h4 Z ?_; exact dB 5 Z (En [26,1] Z)
 refine U 1 Z (AR.and 5 27 32 [] (x:=((v1.keys.length:Int) == 0)) Z Z (fun h5=>?_) (fun h5=>?_) ?_)
 · refine Is 27 h5 Z (U 2 Z (GO Z (AO.aM (l:=v1.keys) Z Z Z Z eO Z Z ?_))); exact dB 2 Z (En [32] Z)
 · refine Is 27 h5 Z ?_; exact dB 5 Z (En [32] Z)
 cases hf; exact N 1 Z (Y Z h)
theorem vT (s1:Str) {r0:Bool} (hf:lY s1=some r0) (h:Q (.ret (.bool r0)) τ):PC 318 [.str s1] τ Q:=by
 unfold lY at hf; refine BN 10 [.tmp 2] [0] Tryz.func318 Z Z Z Z Z ?_; refine B1 hf fun x1 h1 hf=>W 2 Z (CL Z (Cg _ h1 ?_)); refine BR hf fun b1 h3 hf=>?_; refine U 1 Z (AR.dx 4 5 9 true [] b1 Z Z (fun h2=>?_) (fun h2=>?_) ?_)
 · refine IT 5 h2 h3 Z fun h3=>?_; refine B1 h3 fun x2 h4 h3=>U 1 Z (GO Z (AO.call Z _ Z Z Sk (xu _ h4 ?_))); cases h3; exact dB 2 Z (En [9] Z)
 · refine IF 5 h2 h3 Z fun h3=>?_; cases h3; exact dB 4 Z (En [9] Z)
 cases hf; exact N 1 Z (Y Z h)
theorem IK (e1:ah) {r0:Bool} (hf:qD e1=some r0) (h:Q (.ret (.bool r0)) τ):PC 252 [.agg (aQ e1)] τ Q:=by
 unfold qD at hf; refine BN 31 [.tmp 2] [0] Tryz.func252 Z Z Z Z Z (V 6 Z (C hf Z (fun h1 hf=>?_) fun h1 hf=>?_))
 ·
  refine V 0 Z (AW.cond Z (fun h2=>?_) (fun h2=>?_))
  · refine BR hf fun x1 h3 hf=>?_; refine W 2 Z (CL Z (vT _ h3 ?_)); cases hf; exact N 1 Z (Y Z h)
  cases h1.symm.trans h2
 refine V 2 Z (C hf Z (fun h4 hf=>?_) fun h4 hf=>?_)
 ·
  refine V 0 Z (AW.cond Z (fun h5=>?_) (fun h5=>?_))
  · refine BR hf fun x2 h6 hf=>?_; refine W 2 Z (CL Z (vT _ h6 ?_)); cases hf; exact N 1 Z (Y Z h)
  cases h4.symm.trans h5
 refine V 2 Z (C hf Z (fun h7 hf=>?_) fun h7 hf=>?_)
 · refine BR hf fun x3 h8 hf=>?_; refine W 2 Z (CL Z (vT _ h8 ?_)); cases hf; exact N 1 Z (Y Z h)
 refine V 2 Z (C hf Z (fun h9 hf=>?_) fun h9 hf=>?_)
 · refine W 4 Z (On 4 17 21 [] (e1.name == ([45]:Str)) Z Z Z Z ?_); cases hf; exact N 1 Z (Y Z h)
 refine V 2 Z (C hf Z (fun h11 hf=>?_) fun h11 hf=>?_)
 · refine B1 hf fun x4 h12 hf=>W 2 Z (CL Z (nk _ h12 ?_)); cases hf; exact N 2 Z (Y Z h)
 cases hf; exact M 4 Z (Y Z h)
theorem IU (e1:ah) {r0:Bool} (hf:qH e1=some r0) (h:Q (.ret (.bool r0)) τ):PC 253 [.agg (aQ e1)] τ Q:=by
 unfold qH at hf; refine BN 32 [.tmp 2] [0] Tryz.func253 Z Z Z Z Z (V 6 Z (C hf Z (fun h1 hf=>?_) fun h1 hf=>?_))
 ·
  refine V 0 Z (AW.cond Z (fun h2=>?_) (fun h2=>?_))
  · refine W 2 Z (AS Z (AO.aM (l:=e1.args) Z Z Z Z dQ Z (ah.aC _) ?_)); cases hf; exact N 2 Z (Y Z h)
  cases h1.symm.trans h2
 refine V 2 Z (C hf Z (fun h3 hf=>?_) fun h3 hf=>?_)
 · refine W 2 Z (AS Z (AO.aM (l:=e1.args) Z Z Z Z dQ Z (ah.aC _) ?_)); cases hf; exact N 2 Z (Y Z h)
 refine V 2 Z (C hf Z (fun h4 hf=>?_) fun h4 hf=>?_)
 ·
  refine V 0 Z (AW.cond Z (fun h5=>?_) (fun h5=>?_))
  · refine W 2 Z (AS Z (AO.aM (l:=e1.args) Z Z Z Z dQ Z (ah.aC _) ?_)); cases hf; exact N 2 Z (Y Z h)
  cases h4.symm.trans h5
 refine V 2 Z (C hf Z (fun h6 hf=>?_) fun h6 hf=>?_)
 · refine W 2 Z (AS Z (AO.aM (l:=e1.args) Z Z Z Z dQ Z (ah.aC _) ?_)); cases hf; exact N 2 Z (Y Z h)
 refine V 2 Z (C hf Z (fun h7 hf=>?_) fun h7 hf=>?_)
 ·
  refine V 0 Z (AW.cond Z (fun h8=>?_) (fun h8=>?_))
  · refine W 2 Z (AS Z (AO.aM (l:=e1.args) Z Z Z Z dQ Z (ah.aC _) ?_)); cases hf; exact N 2 Z (Y Z h)
  cases h7.symm.trans h8
 refine V 2 Z (C hf Z (fun h9 hf=>?_) fun h9 hf=>?_)
 · refine W 2 Z (AS Z (AO.aM (l:=e1.args) Z Z Z Z dQ Z (ah.aC _) ?_)); cases hf; exact N 2 Z (Y Z h)
 refine V 2 Z (C hf Z (fun h10 hf=>?_) fun h10 hf=>?_)
 · refine W 2 Z (AS Z (AO.aM (l:=e1.args) Z Z Z Z dQ Z (ah.aC _) ?_)); cases hf; exact N 2 Z (Y Z h)
 cases hf; exact M 1 Z (Y Z h)
theorem pO (s1:List Str) (f1:Str→Option Bool) (U8:FuncId) (Xv:List PV) (Z9:aV Tryz.prog U8=true) (Z_:∀ a0 b0,f1 a0=some b0→∀ {τ:List aJ} {Q:cK→List aJ→Prop},Q (.ret (.bool b0)) τ→PC U8 ([.str a0] ++ Xv) τ Q) {r0:Int} (hf:fE s1 f1=some r0) (h:Q (.ret (iP r0)) τ):PC 356 [sP s1,.fn U8 Xv] τ Q:=by
 unfold fE at hf; refine BN 19 [.tmp 4] [0,1] Tryz.func356 Z Z Z Z Z (W 2 Z (AS Z (AO.aM (l:=s1) Z Z Z Z eO Z Z (J 1 Z (Jh (fun i1=>[(0,sP s1),(1,.fn U8 Xv),(7,iP (s1.length:Int)),(8,iP i1)]) (fun i1=>[]) (fun bP i1=>dM s1 f1 bP i1=some r0) BIG 0 Z Z hf (fun _ hz=>aU hz) ?_))))); intro bP i1 hf; rw [dM] at hf; refine V 1 Z (C hf Z (fun h1 hf=>?_) fun h1 hf=>?_)
 ·
  refine B1 hf fun e1 h2 hf=>W 5 Z (AS Z (AO.aK h2 Z Z Z Z eO Z Z ?_)); refine B1 hf fun x1 h3 hf=>U 1 Z (AS Z (AO.call Z _ Z Z Z9 (Z_ _ _ h3 (J 0 Z (C hf Z (fun h4 hf=>?_) fun h4 hf=>?_)))))
  · cases hf; exact M 2 Z (Y Z h)
  exact M 2 Z ⟨(bQ (i1 + 1)),Z,Z,Z,hf⟩
 cases hf; exact M 1 Z (Y Z h)
theorem n_ (s1:List Str) (f1:Str→Option Bool) (U8:FuncId) (Xv:List PV) (Z9:aV Tryz.prog U8=true) (Z_:∀ a0 b0,f1 a0=some b0→∀ {τ:List aJ} {Q:cK→List aJ→Prop},Q (.ret (.bool b0)) τ→PC U8 ([.str a0] ++ Xv) τ Q) {r0:Bool} (hf:dN s1 f1=some r0) (h:Q (.ret (.bool r0)) τ):PC 319 [sP s1,.fn U8 Xv] τ Q:=by
 unfold dN at hf; refine BN 9 [.tmp 4] [0,1] Tryz.func319 Z Z Z Z Z ?_; refine B1 hf fun x1 h1 hf=>W 3 Z (CL Z (pO _ f1 U8 Xv Z9 @Z_ h1 ?_)); cases hf; exact N 2 Z (Y Z h)
theorem EK (qc:Str) {r0:Bool} (hf:gZ qc=some r0) (h:Q (.ret (.bool r0)) τ):PC 320 [.str qc] τ Q:=by
 unfold gZ at hf; refine BN 11 [.tmp 2] [0] Tryz.func320 Z Z Z Z Z (W 2 Z (AS Z (AO.bG Z Z Z Z bN Z (U 2 Z (AR.or 4 6 10 [] (x:=(decide (64 < (qc.length:Int)))) Z Z (fun h1=>?_) (fun h1=>?_) ?_)))))
 · refine Is 6 h1 Z (U 1 Z (GO Z (AO.bG Z Z Z Z bN Z ?_))); exact dB 2 Z (En [10] Z)
 · refine Is 6 h1 Z ?_; exact dB 4 Z (En [10] Z)
 cases hf; exact N 1 Z (Y Z h)
theorem IL (e1:ah) {r0:Bool} (hf:qE e1=some r0) (h:Q (.ret (.bool r0)) τ):PC 254 [.agg (aQ e1)] τ Q:=by
 unfold qE at hf; refine BN 23 [.tmp 2] [0] Tryz.func254 Z Z Z Z Z (V 5 Z (C hf Z (fun h1 hf=>?_) fun h1 hf=>?_))
 · refine W 2 Z (AS Z (AO.aM (l:=e1.keys) Z Z Z Z eO Z Z ?_)); cases hf; exact N 2 Z (Y Z h)
 refine W 2 Z (AS Z (AO.aM (l:=e1.keys) Z Z Z Z eO Z Z (U 2 Z (AS Z (AO.aM (l:=e1.args) Z Z Z Z dQ Z (ah.aC _) ?_))))); refine BR hf fun b1 h3 hf=>?_; refine U 2 Z (AR.dx 5 17 22 true [] b1 Z Z (fun h2=>?_) (fun h2=>?_) ?_)
 · refine IT 17 h2 h3 Z fun h3=>?_; refine B1 h3 fun x1 h4 h3=>U 2 Z (GO Z (AO.call Z _ Z Z Wp (n_ _ gZ 320 [] Wo (fun _ _ hz=>EK _  hz) h4 ?_))); cases h3; exact dB 2 Z (En [22] Z)
 · refine IF 17 h2 h3 Z fun h3=>?_; cases h3; exact dB 5 Z (En [22] Z)
 cases hf; exact N 1 Z (Y Z h)
theorem KP {β:Type} (l:Nat) (T:β→List aJ) (go:β→aj→Int→Option (Bool × β))
  (goH:∀ s1 v1 bf b s2,go s1 v1 bf=some (b,s2)→∀ {Q:cK→List aJ→Prop},Q (.ret (.bool b)) (T s2)→PC 197 [.agg (aT v1),iP bf,.val (.func (.yield l) #[] #[])] (T s1) Q)
  (y:β→Int→aj→Option (Bool × β)) (hy:∀ s1 bf v1 b s2,y s1 bf v1=some (b,s2)→AY Tryz.prog l [iP bf,.agg (aT v1)] (T s1) (fun out σ'=>out=.ret (.bool b)∧σ'=T s2))
  (s1:β) (v1:aj) (bf:Int) {b:Bool} {s2:β} (hf:ug go y s1 v1 bf=some (b,s2)) {Q:cK→List aJ→Prop} (h:Q (.ret (.bool b)) (T s2)):
  PC 197 [.agg (aT v1),iP bf,.val (.func (.yield l) #[] #[])] (T s1) Q:=by
 unfold ug at hf; refine AC.lZ 28 [.tmp 6] [0,1,2] Tryz.func197 Z Z Z Z Z (AW.sr (AR.step Z Z Z (AO.BI Z Z Z (cs 1 Z ?_)))); refine AR.nil [1,2,3] Z (AW.seq (AW.seq (AW.Po ?_))); refine yj.step Z Z Z Z (AO.calc' Z (yj.step Z Z Z Z (AO.calc' Z (yj.step Z Z Z Z (AO.xS Z Z xE Z ?_))))); obtain ⟨b1,s3,h1,hf⟩:=cu hf; refine yj.yield Z Z Z Z Z _ Z Z (hy _ _ _ _ _ h1) (yj.of Z (cs 1 Z (AR.nil [1,2,3,13] Z ?_))); refine AW.cond Z (fun h2=>?_) (fun h2=>?_)
 · replace hf:=kg h2 hf; refine AW.sr (cs 1 Z (AR.nil [6] Z (AW.ret ?_))); cases hf; exact ⟨rfl,_,⟨_,_,rfl,rfl,rfl⟩,_,List.Sublist.refl _,h⟩
 replace hf:=jH h2 hf; refine AW.skip (AW.seq (AW.sr (cs 2 Z ?_))); refine AR.step Z Z Z (AO.aM (l:=v1.aW) Z Z Z Z jC Z ((aj.aC _)) (cs 1 Z (AR.nil [1,2,15,16,17] Z (AW.block ?_)))); refine AW.Xj (fun (_:β) i1=>[(1,iP bf),(2,.val (.func (.yield l) #[] #[])),(15,.list (aj.bL v1.aW)),(16,iP (v1.aW.length:Int)),(17,iP i1)]) (fun s1 _=>T s1) (fun bP s1 i1=>oJ go v1 bf bP s1 i1=some (b,s2)) BIG s3 0 Z Z hf (fun _ _ hz=>aU hz) ?_; intro bP s4 i1 hf; rw [oJ] at hf; refine AW.sr (cs 1 Z (AR.nil [1,2,15,16,17,18] Z (AW.seq ?_))); refine AW.cond Z (fun h1=>?_) (fun h1=>?_)
 ·
  replace hf:=kg h1 hf; refine AW.skip (AW.seq (AW.block (AW.sr ?_))); refine B1 hf fun x1 h3 hf=>AR.step Z Z Z (AO.aK h3 Z Z ((aj.aC _)) Z jC ((aj.aF _)) Z (cs 1 Z (AR.step Z Z Z (AO.aH Z nA (fun b8=>(AR.bD Z Z (AO.bY (i:=0) Z Z Z xE Z Z Z Z Z ?_))))))); refine AR.nil [1,2,8,15,16,17] Z (AW.sr (AR.step Z Z Z (AO.bV (i:=0) Z Z Z xE Z Z (cs 3 Z ?_)))); obtain ⟨b2,s5,h4,hf⟩:=cu hf; refine AR.drop1 (AR.step Z Z Z (AO.call Z _ Z Z WJ (goH _ _ _ _ _ h4 (cs 1 Z (AR.nil [1,2,15,16,17,26] Z ?_))))); refine AW.cond Z (fun h5=>?_) (fun h5=>?_)
  · replace hf:=kg h5 hf; refine AW.sr (cs 1 Z (AR.nil [6] Z (AW.ret ?_))); cases hf; exact ⟨rfl,_,⟨_,_,rfl,rfl,rfl⟩,_,List.Sublist.refl _,h⟩
  replace hf:=jH h5 hf; refine AW.skip (AW.region (cs 2 Z (AR.nil [1,2,15,16,17] Z ?_))); exact ⟨s5,(bQ (i1 + 1)),Z,Z,Z,hf⟩
 replace hf:=jH h1 hf; refine AW.exit (AW.sr (cs 1 Z (AR.nil [6] Z ?_))); refine AW.ret ?_; cases hf; exact ⟨rfl,_,⟨_,_,rfl,rfl,rfl⟩,_,List.Sublist.refl _,h⟩
theorem Dx {β:Type} (l:Nat) (T:β→List aJ) (y:β→Int→aj→Option (Bool × β)) (hy:∀ s1 bf v1 b s2,y s1 bf v1=some (b,s2)→AY Tryz.prog l [iP bf,.agg (aT v1)] (T s1) (fun out σ'=>out=.ret (.bool b)∧σ'=T s2)):
  ∀ (k:Nat) (s1:β) (v1:aj) (bf:Int) (b:Bool) (s2:β),kJ y k s1 v1 bf=some (b,s2)→∀ {Q:cK→List aJ→Prop},Q (.ret (.bool b)) (T s2)→PC 197 [.agg (aT v1),iP bf,.val (.func (.yield l) #[] #[])] (T s1) Q
 | 0,_,_,_,_,_,hz=>by cases hz
 | k + 1,s1,v1,bf,b,s2,hz=>fun h=>KP l T (kJ y k) (fun s1 v1 bf b s2 hz=>Dx l T y hy k s1 v1 bf b s2 hz) y hy s1 v1 bf hz h
theorem F3 {β:Type} (l:Nat) (T:β→List aJ) (y:β→Int→aj→Option (Bool × β)) (hy:∀ s1 bf v1 b s2,y s1 bf v1=some (b,s2)→AY Tryz.prog l [iP bf,.agg (aT v1)] (T s1) (fun out σ'=>out=.ret (.bool b)∧σ'=T s2))
    (s1:β) (v1:aj) (bf:Int) {b:Bool} {s2:β} (hf:Cw y s1 v1 bf=some (b,s2)) {Q:cK→List aJ→Prop} (h:Q (.ret (.tuple [])) (T s2)):
    PC 196 [.val (.func (.yield l) #[] #[]),.ref (aT v1),.ref [iP bf]] (T s1) Q:=by
 refine BD 8 [] [0,1,2] Tryz.func196 Z Z Z Z Z (W 3 Z (CL Z (Dx l T y hy BIG _ _ _ _ _ hf ?_))); exact N 0 rfl ⟨rfl,_,rfl,_,List.Sublist.refl _,h⟩
theorem JK (v1:aj) (bf:Int) (h:Q (.ret (.fn 196 [.ref (aT v1),.ref [iP bf]])) τ):PC 123 [.agg (aT v1),iP bf] τ Q:=by
 refine BN 6 [.tmp 4] [0,1] Tryz.func123 Z Z Z Z Z ?_; exact M 5 Z (Y Z h)
theorem IC (v1:aj) {r0:Bool} (hf:uh v1=some r0) (h:Q (.ret (.bool r0)) τ):PC 198 [.agg (aT v1)] τ Q:=by
 unfold uh at hf; refine BN 58 [.tmp 2] [0] Tryz.func198 Z Z Z Z Z (W 6 Z (On 4 6 10 [1] (!v1.jd) Z Z Z Z (U 1 Z (AR.and 9 11 20 [1] (x:=((v1.kind == 2) || (v1.iG == 0))) Z Z (fun h2=>?_) (fun h2=>?_) ?_))))
 · refine Is 11 h2 Z (U 4 Z (On 4 15 19 [1,11] (v1.iG == 0) Z Z Z Z ?_)); exact dB 1 Z (En [20,1] Z)
 · refine Is 11 h2 Z ?_; exact dB 9 Z (En [20,1] Z)
 refine U 1 Z (AR.and 9 21 30 [1] (x:=((v1.kind == 3) || (v1.jK == ([]:Str)))) Z Z (fun h4=>?_) (fun h4=>?_) ?_)
 · refine Is 21 h4 Z (U 4 Z (On 4 25 29 [1,21] (v1.jK == ([]:Str)) Z Z Z Z ?_)); exact dB 1 Z (En [30,1] Z)
 · refine Is 21 h4 Z ?_; exact dB 9 Z (En [30,1] Z)
 refine U 1 Z (AR.and 15 31 46 [1] (x:=(((v1.kind == 4) || (v1.kind == 5)) || ((v1.aW.length:Int) == 0))) Z Z (fun h6=>?_) (fun h6=>?_) ?_)
 ·
  refine Is 31 h6 Z (U 4 Z (On 4 35 39 [1,31] (v1.kind == 5) Z Z Z Z (U 1 Z (AR.or 5 40 45 [1,31] (x:=((v1.aW.length:Int) == 0)) Z Z (fun h8=>?_) (fun h8=>?_) ?_))))
  · refine Is 40 h8 Z (U 2 Z (GO Z (AO.aM (l:=v1.aW) Z Z Z Z jC Z (aj.aC _) ?_))); exact dB 2 Z (En [45,1,31] Z)
  · refine Is 40 h8 Z ?_; exact dB 5 Z (En [45,1,31] Z)
  exact dB 1 Z (En [46,1] Z)
 · refine Is 31 h6 Z ?_; exact dB 15 Z (En [46,1] Z)
 refine U 1 Z (AR.and 10 47 57 [] (x:=((v1.kind == 5) || ((v1.keys.length:Int) == 0))) Z Z (fun h9=>?_) (fun h9=>?_) ?_)
 ·
  refine Is 47 h9 Z (U 4 Z (AR.or 5 51 56 [47] (x:=((v1.keys.length:Int) == 0)) Z Z (fun h10=>?_) (fun h10=>?_) ?_))
  · refine Is 51 h10 Z (U 2 Z (GO Z (AO.aM (l:=v1.keys) Z Z Z Z eO Z Z ?_))); exact dB 2 Z (En [56,47] Z)
  · refine Is 51 h10 Z ?_; exact dB 5 Z (En [56,47] Z)
  exact dB 1 Z (En [57] Z)
 · refine Is 47 h9 Z ?_; exact dB 10 Z (En [57] Z)
 cases hf; exact N 1 Z (Y Z h)
theorem J7 (c1:UInt8) {r0:Bool} (hf:wN c1=some r0) (h:Q (.ret (.bool r0)) τ):PC 298 [.int .u8 (c1.toNat:Int)] τ Q:=by
 unfold wN at hf; refine BN 9 [.tmp 2] [0] Tryz.func298 Z Z Z Z Z (W 4 Z (An 3 5 8 [] (decide ((c1.toNat:Int)≤57)) Z Z Z Z ?_)); cases hf; exact N 1 Z (Y Z h)
theorem Fu (s1:Str) {r0:Int} (hf:uS s1=some r0) (h:Q (.ret (iP r0)) τ):PC 217 [.str s1] τ Q:=by
 unfold uS at hf; refine BN 17 [.tmp 2] [0] Tryz.func217 Z Z Z Z Z (V 2 Z (Jh (fun n1=>[(0,.str s1),(3,iP n1)]) (fun n1=>[]) (fun bP n1=>qU s1 bP n1=some r0) BIG 0 Z Z hf (fun _ hz=>aU hz) ?_)); intro bP n1 hf; rw [qU] at hf; refine W 2 Z (AS Z (AO.bG Z Z Z Z bN Z ?_)); refine B1 hf fun b1 h2 hf=>U 2 Z (AR.dx 5 8 13 true [0,3] b1 Z Z (fun h1=>?_) (fun h1=>?_) ?_)
 · refine IT 8 h1 h2 Z fun h2=>?_; refine B1 h2 fun x1 h3 h2=>U 2 Z (GO Z (AO.dH h3 Z bN Z Z ?_)); refine BR h2 fun x2 h4 h2=>?_; refine GO Z (AO.call Z _ Z Z Wq (J7 _ h4 ?_)); cases h2; exact dB 1 Z (En [13,0,3] Z)
 · refine IF 8 h1 h2 Z fun h2=>?_; cases h2; exact dB 5 Z (En [13,0,3] Z)
 refine J 0 Z (C hf Z (fun h5 hf=>?_) fun h5 hf=>?_)
 · exact M 3 Z ⟨(bQ (n1 + 1)),Z,Z,Z,hf⟩
 cases hf; exact M 2 Z (Y Z h)
theorem ze (s1:Str) (c1:UInt8) {r0:Str} (hf:strings_trimLeftByte s1 c1=some r0) (h:Q (.ret (.str r0)) τ):PC 344 [.str s1,.int .u8 (c1.toNat:Int)] τ Q:=by
 unfold strings_trimLeftByte at hf; refine BN 17 [.tmp 4] [0,1] Tryz.func344 Z Z Z Z Z (V 1 Z (Jh (fun s2=>[(0,.str s2),(1,.int .u8 (c1.toNat:Int))]) (fun s2=>[]) (fun bP s2=>eG c1 bP s2=some r0) BIG s1 Z Z hf (fun _ hz=>aU hz) ?_)); intro bP s2 hf; rw [eG] at hf; refine W 1 Z (AS Z (AO.bG Z Z Z Z bN Z ?_)); refine B1 hf fun b1 h2 hf=>U 2 Z (AR.dx 5 8 13 true [0,1] b1 Z Z (fun h1=>?_) (fun h1=>?_) ?_)
 · refine IT 8 h1 h2 Z fun h2=>?_; refine B1 h2 fun x1 h3 h2=>U 1 Z (GO Z (AO.dH h3 Z bN Z Z ?_)); cases h2; exact dB 3 Z (En [13,0,1] Z)
 · refine IF 8 h1 h2 Z fun h2=>?_; cases h2; exact dB 5 Z (En [13,0,1] Z)
 refine J 0 Z (C hf Z (fun h4 hf=>?_) fun h4 hf=>?_)
 · refine B1 hf fun s3 h5 hf=>W 1 Z (AS Z (AO.lW h5 Z bN Z ⟨_,Z⟩ Z ?_)); exact N 1 Z ⟨s3,Z,Z,Z,hf⟩
 cases hf; exact M 2 Z (Y Z h)
theorem vQ (s1:Str) (wT:Str) {r0:Str} (hf:jU s1 wT=some r0) (h:Q (.ret (.str r0)) τ):PC 299 [.str s1,.str wT] τ Q:=by
 unfold jU at hf; refine BN 37 [.tmp 4] [0,1] Tryz.func299 Z Z Z Z Z (W 4 Z (On 3 9 12 [0,1] (wT == ([]:Str)) Z Z Z Z (J 0 Z (C hf Z (fun h2 hf=>?_) fun h2 hf=>?_))))
 · cases hf; exact M 2 Z (Y Z h)
 refine W 1 Z (AS Z (AO.bG Z Z Z Z bN Z ?_)); refine B1 hf fun b1 h4 hf=>U 2 Z (AR.dx 4 17 21 true [0,1] b1 Z Z (fun h3=>?_) (fun h3=>?_) ?_)
 · refine IT 17 h3 h4 Z fun h4=>?_; refine B1 h4 fun x1 h5 h4=>U 1 Z (GO Z (AO.dH h5 Z bN Z Z ?_)); cases h4; exact dB 2 Z (En [21,0,1] Z)
 · refine IF 17 h3 h4 Z fun h4=>?_; cases h4; exact dB 4 Z (En [21,0,1] Z)
 refine J 0 Z (C hf Z (fun h6 hf=>?_) fun h6 hf=>?_)
 · refine B1 hf fun x2 h7 hf=>W 2 Z (AS Z (AO.dH h7 Z bN Z Z ?_)); refine BR hf fun x3 h8 hf=>?_; refine CL Z (ze _ _ h8 ?_); cases hf; exact N 1 Z (Y Z h)
 exact aU hf
theorem zD (x1:Int) {r0:Bool} (hf:cmp_isNaN_int x1=some r0) (h:Q (.ret (.bool r0)) τ):PC 303 [iP x1] τ Q:=by
 unfold cmp_isNaN_int at hf; refine BN 6 [.tmp 2] [0] Tryz.func303 Z Z Z Z Z ?_; cases hf; exact M 5 Z (Y Z h)
theorem rE (x1:Int) (y1:Int) {r0:Int} (hf:cmp_Compare_int x1 y1=some r0) (h:Q (.ret (iP r0)) τ):PC 220 [iP x1,iP y1] τ Q:=by
 unfold cmp_Compare_int at hf; refine BN 20 [.tmp 4] [0,1] Tryz.func220 Z Z Z Z Z ?_; refine B1 hf fun EY h1 hf=>W 2 Z (CL Z (zD _ h1 ?_)); refine B1 hf fun zM h2 hf=>U 2 Z (CL Z (zD _ h2 (J 2 Z (C hf Z (fun h3 hf=>?_) fun h3 hf=>?_))))
 ·
  refine V 1 Z (C hf Z (fun h4 hf=>?_) fun h4 hf=>?_)
  · cases hf; exact M 1 Z (Y Z h)
  cases hf; exact M 1 Z (Y Z h)
 refine V 1 Z (C hf Z (fun h5 hf=>?_) fun h5 hf=>?_)
 · cases hf; exact M 1 Z (Y Z h)
 refine V 3 Z (C hf Z (fun h6 hf=>?_) fun h6 hf=>?_)
 · cases hf; exact M 1 Z (Y Z h)
 refine V 3 Z (C hf Z (fun h7 hf=>?_) fun h7 hf=>?_)
 · cases hf; exact M 1 Z (Y Z h)
 cases hf; exact M 1 Z (Y Z h)
theorem vV (x1:Str) {r0:Bool} (hf:cmp_isNaN_string x1=some r0) (h:Q (.ret (.bool r0)) τ):PC 348 [.str x1] τ Q:=by
 unfold cmp_isNaN_string at hf; refine BN 6 [.tmp 2] [0] Tryz.func348 Z Z Z Z Z ?_; cases hf; exact M 5 Z (Y Z h)
theorem Bb (x1:Str) (y1:Str) {r0:Int} (hf:j5 x1 y1=some r0) (h:Q (.ret (iP r0)) τ):PC 301 [.str x1,.str y1] τ Q:=by
 unfold j5 at hf; refine BN 20 [.tmp 4] [0,1] Tryz.func301 Z Z Z Z Z ?_; refine B1 hf fun EY h1 hf=>W 2 Z (CL Z (vV _ h1 ?_)); refine B1 hf fun zM h2 hf=>U 2 Z (CL Z (vV _ h2 (J 2 Z (C hf Z (fun h3 hf=>?_) fun h3 hf=>?_))))
 ·
  refine V 1 Z (C hf Z (fun h4 hf=>?_) fun h4 hf=>?_)
  · cases hf; exact M 1 Z (Y Z h)
  cases hf; exact M 1 Z (Y Z h)
 refine V 1 Z (C hf Z (fun h5 hf=>?_) fun h5 hf=>?_)
 · cases hf; exact M 1 Z (Y Z h)
 refine V 3 Z (C hf Z (fun h6 hf=>?_) fun h6 hf=>?_)
 · cases hf; exact M 1 Z (Y Z h)
 refine V 3 Z (C hf Z (fun h7 hf=>?_) fun h7 hf=>?_)
 · cases hf; exact M 1 Z (Y Z h)
 cases hf; exact M 1 Z (Y Z h)
theorem L8 (zo:List Int) {r0:Int} (hf:vN zo=some r0) (h:Q (.ret (iP r0)) τ):PC 300 [.list (List.map Te zo)] τ Q:=by
 unfold vN at hf; refine BN 18 [.tmp 2] [0] Tryz.func300 Z Z Z Z Z (W 3 Z (AS Z (AO.aM (l:=zo) Z Z Z Z Lx Z Z (J 1 Z (Jh (fun x1=>[(3,iP 0),(6,.list (List.map Te zo)),(7,iP (zo.length:Int)),(8,iP x1)]) (fun x1=>[]) (fun bP x1=>oW zo bP x1=some r0) BIG 0 Z Z hf (fun _ hz=>aU hz) ?_))))); intro bP x1 hf; rw [oW] at hf; refine V 1 Z (C hf Z (fun h1 hf=>?_) fun h1 hf=>?_)
 ·
  refine B1 hf fun Qf h2 hf=>W 0 Z (AS Z (AO.aK h2 Z Z Z Z Lx Z Z (J 5 Z (C hf Z (fun h3 hf=>?_) fun h3 hf=>?_))))
  · cases hf; exact M 2 Z (Y Z h)
  exact M 2 Z ⟨(bQ (x1 + 1)),Z,Z,Z,hf⟩
 cases hf; exact M 2 Z (Y Z h)
theorem F9 (a1:Str) (b1:Str) {r0:Int} (hf:oV a1 b1=some r0) (h:Q (.ret (iP r0)) τ):PC 218 [.str a1,.str b1] τ Q:=by
 unfold oV at hf; refine BN 26 [.tmp 4] [0,1] Tryz.func218 Z Z Z Z Z ?_; refine B1 hf fun x1 h1 hf=>W 2 Z (CL Z (vQ _ _ h1 ?_)); refine B1 hf fun y1 h2 hf=>U 1 Z (CL Z (vQ _ _ h2 (U 3 Z (AS Z (AO.bG Z Z Z Z bN Z (U 1 Z (AS Z (AO.bG Z Z Z Z bN Z ?_)))))))); refine B1 hf fun x2 h3 hf=>CL Z (rE _ _ h3 ?_); refine B1 hf fun x3 h4 hf=>U 2 Z (CL Z (Bb _ _ h4 (U 1 Z (AS Z (AO.bG Z Z Z Z bN Z (U 1 Z (AS Z (AO.bG Z Z Z Z bN Z ?_)))))))); refine B1 hf fun x4 h5 hf=>CL Z (rE _ _ h5 (AS Z (AO.bn (List.map Te ([x2,x3,x4]:List Int)) Z R5 Z Z Z Z ?_))); refine BR hf fun x5 h6 hf=>?_; refine CL Z (L8 _ h6 ?_); cases hf; exact N 1 Z (Y Z h)
theorem xY (x1:UInt8) {r0:Bool} (hf:nO x1=some r0) (h:Q (.ret (.bool r0)) τ):PC 302 [.int .u8 (x1.toNat:Int)] τ Q:=by
 unfold nO at hf; refine BN 6 [.tmp 2] [0] Tryz.func302 Z Z Z Z Z ?_; cases hf; exact M 5 Z (Y Z h)
theorem C8 (x1:UInt8) (y1:UInt8) {r0:Int} (hf:lN x1 y1=some r0) (h:Q (.ret (iP r0)) τ):PC 219 [.int .u8 (x1.toNat:Int),.int .u8 (y1.toNat:Int)] τ Q:=by
 unfold lN at hf; refine BN 20 [.tmp 4] [0,1] Tryz.func219 Z Z Z Z Z ?_; refine B1 hf fun EY h1 hf=>W 2 Z (CL Z (xY _ h1 ?_)); refine B1 hf fun zM h2 hf=>U 2 Z (CL Z (xY _ h2 (J 2 Z (C hf Z (fun h3 hf=>?_) fun h3 hf=>?_))))
 ·
  refine V 1 Z (C hf Z (fun h4 hf=>?_) fun h4 hf=>?_)
  · cases hf; exact M 1 Z (Y Z h)
  cases hf; exact M 1 Z (Y Z h)
 refine V 1 Z (C hf Z (fun h5 hf=>?_) fun h5 hf=>?_)
 · cases hf; exact M 1 Z (Y Z h)
 refine V 3 Z (C hf Z (fun h6 hf=>?_) fun h6 hf=>?_)
 · cases hf; exact M 1 Z (Y Z h)
 refine V 3 Z (C hf Z (fun h7 hf=>?_) fun h7 hf=>?_)
 · cases hf; exact M 1 Z (Y Z h)
 cases hf; exact M 1 Z (Y Z h)
theorem zC (a1:Str) (b1:Str) {r0:Int} (hf:lg a1 b1=some r0) (h:Q (.ret (iP r0)) τ):PC 136 [.str a1,.str b1] τ Q:=by
 unfold lg at hf; refine BN 59 [.tmp 4] [0,1] Tryz.func136 Z Z Z Z Z (V 1 Z (KN (fun a2 b2=>[(0,.str a2),(1,.str b2)]) (fun a2 b2=>[]) (fun bP a2 b2=>gF bP a2 b2=some r0) BIG a1 b1 Z Z hf (fun _ _ hz=>aU hz) ?_)); intro bP a2 b2 hf; rw [gF] at hf; refine W 3 Z (An 3 10 13 [0,1] (!(b2 == ([]:Str))) Z Z Z Z (J 0 Z (C hf Z (fun h2 hf=>?_) fun h2 hf=>?_)))
 ·
  refine B1 hf fun n1 h3 hf=>W 1 Z (CL Z (Fu _ h3 ?_)); refine B1 hf fun m1 h4 hf=>U 1 Z (CL Z (Fu _ h4 (U 5 Z (An 3 20 23 [0,1,5,6] (decide (0 < m1)) Z Z Z Z (J 0 Z (C hf Z (fun h6 hf=>?_) fun h6 hf=>?_))))))
  ·
   refine V 0 Z (AW.draw 8 mixed (by kernel_rfl) Z ?_); refine Ev.cs aR 2 Z ?_; refine B1 hf fun x1 h7 hf=>Ev.cons Z Z Z (AO.lW h7 Z bN Z Z ⟨_,Z⟩ zg) (Ev.cs aR 2 Z ?_); refine B1 hf fun x2 h8 hf=>Ev.cons Z Z Z (AO.lW h8 Z bN Z Z ⟨_,Z⟩ zg) ?_; refine B1 hf fun c1 h9 hf=>Ev.cons Z Z Z (AO.call Z _ Z Z WE (F9 _ _ h9 zg)) (Ev.cs aR 1 Z (Ev.nil ?_)); show AR _ _ _ _ _ _ _ _; refine J 2 Z (C hf Z (fun h10 hf=>?_) fun h10 hf=>?_)
   · cases hf; exact M 2 Z (Y Z h)
   refine V 0 Z (AW.draw 8 mixed (by kernel_rfl) Z ?_); refine Ev.cs aR 2 Z ?_; refine B1 hf fun a3 h11 hf=>Ev.cons Z Z Z (AO.lW h11 Z bN Z ⟨_,Z⟩ Z zg) (Ev.cs aR 2 Z ?_); refine B1 hf fun b3 h12 hf=>Ev.cons Z Z Z (AO.lW h12 Z bN Z ⟨_,Z⟩ Z zg) (Ev.cs aR 2 Z (Ev.nil ?_)); show AR _ _ _ _ _ _ _ _; exact N 0 Z ⟨a3,b3,Z,Z,Z,hf⟩
  refine V 0 Z (AW.draw 5 mixed (by kernel_rfl) Z ?_); refine Ev.cs aR 1 Z ?_; refine B1 hf fun x3 m_ hf=>Ev.cons Z Z Z (AO.dH m_ Z bN Z Z zg) (Ev.cs aR 1 Z ?_); refine B1 hf fun x4 lC hf=>Ev.cons Z Z Z (AO.dH lC Z bN Z Z zg) (Ev.cs aR 1 Z (Ev.nil ?_)); show AR _ _ _ _ _ _ _ _; refine J 0 Z (C hf Z (fun nR hf=>?_) fun nR hf=>?_)
  ·
   refine V 0 Z (AW.draw 6 mixed (by kernel_rfl) Z ?_); refine Ev.cs aR 1 Z ?_; refine B1 hf fun x5 h16 hf=>Ev.cons Z Z Z (AO.dH h16 Z bN Z Z zg) (Ev.cs aR 1 Z ?_); refine B1 hf fun x6 wP hf=>Ev.cons Z Z Z (AO.dH wP Z bN Z Z zg) ?_; refine BR hf fun x7 h18 hf=>?_; refine Ev.cons Z Z Z (AO.call Z _ Z Z WC (C8 _ _ h18 zg)) (Ev.cs aR 1 Z (Ev.nil ?_)); show AR _ _ _ _ _ _ _ _; cases hf; exact N 0 Z (Y Z h)
  refine V 0 Z (AW.draw 6 mixed (by kernel_rfl) Z ?_); refine Ev.cs aR 1 Z ?_; refine B1 hf fun a4 h19 hf=>Ev.cons Z Z Z (AO.lW h19 Z bN Z ⟨_,Z⟩ Z zg) (Ev.cs aR 1 Z ?_); refine B1 hf fun b4 h20 hf=>Ev.cons Z Z Z (AO.lW h20 Z bN Z ⟨_,Z⟩ Z zg) (Ev.cs aR 2 Z (Ev.nil ?_)); show AR _ _ _ _ _ _ _ _; exact N 0 Z ⟨a4,b4,Z,Z,Z,hf⟩
 refine W 1 Z (AS Z (AO.bG Z Z Z Z bN Z (U 1 Z (AS Z (AO.bG Z Z Z Z bN Z ?_))))); refine BR hf fun x8 h21 hf=>?_; refine CL Z (rE _ _ h21 ?_); cases hf; exact N 1 Z (Y Z h)
theorem JL (v1:aj) {r0:Bool} (hf:sH v1=some r0) (h:Q (.ret (.bool r0)) τ):PC 199 [.agg (aT v1)] τ Q:=by
 unfold sH at hf; refine BN 44 [.tmp 2] [0] Tryz.func199 Z Z Z Z Z (W 4 Z (AS Z (AO.aM (l:=v1.keys) Z Z Z Z eO Z Z (U 2 Z (AS Z (AO.aM (l:=v1.aW) Z Z Z Z jC Z (aj.aC _) (J 1 Z (C hf Z (fun h1 hf=>?_) fun h1 hf=>?_))))))))
 · cases hf; exact M 1 Z (Y Z h)
 refine W 2 Z (AS Z (AO.aM (l:=v1.keys) Z Z Z Z eO Z Z (J 1 Z (Jh (fun i1=>[(1,.ref (aT v1)),(13,sP v1.keys),(14,iP (v1.keys.length:Int)),(15,iP i1)]) (fun i1=>[]) (fun bP i1=>lG v1 bP i1=some r0) BIG 0 Z Z hf (fun _ hz=>aU hz) ?_)))); intro bP i1 hf; rw [lG] at hf; refine V 1 Z (C hf Z (fun h2 hf=>?_) fun h2 hf=>?_)
 ·
  refine B1 hf fun qc h3 hf=>W 1 Z (AS Z (AO.aK h3 Z Z Z Z eO Z Z (U 4 Z (AS Z (AO.bG Z Z Z Z bN Z (U 2 Z (AR.or 4 23 27 [1,3,4,13,14,15] (x:=(decide (64 < (qc.length:Int)))) Z Z (fun h4=>?_) (fun h4=>?_) ?_)))))))
  · refine Is 23 h4 Z (U 1 Z (GO Z (AO.bG Z Z Z Z bN Z ?_))); exact dB 2 Z (En [27,1,3,4,13,14,15] Z)
  · refine Is 23 h4 Z ?_; exact dB 4 Z (En [27,1,3,4,13,14,15] Z)
  refine B1 hf fun b1 h6 hf=>U 1 Z (AR.dx 14 28 42 false [1,13,14,15] b1 Z Z (fun h5=>?_) (fun h5=>?_) ?_)
  ·
   refine IF 28 h5 h6 Z fun h6=>?_; refine BR h6 fun b2 h8 h6=>?_; refine U 3 Z (AR.dx 10 31 41 true [1,13,14,15,28] b2 Z Z (fun h7=>?_) (fun h7=>?_) ?_)
   · refine IT 31 h7 h8 Z fun h8=>?_; refine B1 h8 fun e1 h9 h8=>U 4 Z (GO Z (AO.aK h9 Z Z Z Z eO Z Z ?_)); refine B1 h8 fun x1 h10 h8=>U 2 Z (GO Z (AO.call Z _ Z Z Sz (zC _ _ h10 ?_))); cases h8; exact dB 2 Z (En [41,1,13,14,15,28] Z)
   · refine IF 31 h7 h8 Z fun h8=>?_; cases h8; exact dB 10 Z (En [41,1,13,14,15,28] Z)
   cases h6; exact dB 1 Z (En [42,1,13,14,15] Z)
  · refine IT 28 h5 h6 Z fun h6=>?_; cases h6; exact dB 14 Z (En [42,1,13,14,15] Z)
  refine J 0 Z (C hf Z (fun h11 hf=>?_) fun h11 hf=>?_)
  · cases hf; exact M 1 Z (Y Z h)
  exact M 2 Z ⟨(bQ (i1 + 1)),Z,Z,Z,hf⟩
 cases hf; exact M 1 Z (Y Z h)
theorem LQ (v1:aj) (bf:Int) {r0:Int} (hf:uY v1 bf=some r0) (h:Q (.ret (iP r0)) τ):PC 124 [.agg (aT v1),iP bf] τ Q:=by
 unfold uY at hf; refine BN 78 [.tmp 4] [0,1] Tryz.func124 Z Z Z Z Z (W 6 Z (On 4 9 13 [1,2] (v1.kind == 5) Z Z Z Z (J 4 Z (C hf Z (fun h2 hf=>?_) fun h2 hf=>?_))))
 · cases hf; exact M 1 Z (Y Z h)
 refine W 4 Z (On 4 21 25 [1,2,5] (decide (5 < v1.kind)) Z Z Z Z ?_); refine B1 hf fun b1 h5 hf=>U 1 Z (AR.dx 4 26 30 false [1,2,5] b1 Z Z (fun h4=>?_) (fun h4=>?_) ?_)
 · refine IF 26 h4 h5 Z fun h5=>?_; refine B1 h5 fun x1 h6 h5=>U 1 Z (GO Z (AO.call Z _ Z Z WI (IC _ h6 ?_))); cases h5; exact dB 2 Z (En [30,1,2,5] Z)
 · refine IT 26 h4 h5 Z fun h5=>?_; cases h5; exact dB 4 Z (En [30,1,2,5] Z)
 refine J 1 Z (C hf Z (fun h7 hf=>?_) fun h7 hf=>?_)
 · cases hf; exact M 1 Z (Y Z h)
 refine W 4 Z (On 4 35 39 [1,2,5] (decide (9007199254740992 < v1.iG)) Z Z Z Z (J 1 Z (C hf Z (fun h9 hf=>?_) fun h9 hf=>?_)))
 · cases hf; exact M 1 Z (Y Z h)
 refine W 2 Z (AS Z (AO.bG Z Z Z Z bN Z (U 2 Z (AR.or 5 45 50 [1,2,5] (x:=(decide (1024 < (v1.aW.length:Int)))) Z Z (fun h10=>?_) (fun h10=>?_) ?_))))
 · refine Is 45 h10 Z (U 2 Z (GO Z (AO.aM (l:=v1.aW) Z Z Z Z jC Z (aj.aC _) ?_))); exact dB 2 Z (En [50,1,2,5] Z)
 · refine Is 45 h10 Z ?_; exact dB 5 Z (En [50,1,2,5] Z)
 refine U 1 Z (AR.or 5 51 56 [1,2,5] (x:=(decide (1024 < (v1.keys.length:Int)))) Z Z (fun h11=>?_) (fun h11=>?_) ?_)
 · refine Is 51 h11 Z (U 2 Z (GO Z (AO.aM (l:=v1.keys) Z Z Z Z eO Z Z ?_))); exact dB 2 Z (En [56,1,2,5] Z)
 · refine Is 51 h11 Z ?_; exact dB 5 Z (En [56,1,2,5] Z)
 refine J 1 Z (C hf Z (fun h12 hf=>?_) fun h12 hf=>?_)
 · cases hf; exact M 1 Z (Y Z h)
 refine B1 hf fun b2 lC hf=>W 4 Z (AR.dx 4 61 65 true [1,2,5] b2 Z Z (fun m_=>?_) (fun m_=>?_) ?_)
 · refine IT 61 m_ lC Z fun lC=>?_; refine B1 lC fun x2 nR lC=>U 1 Z (GO Z (AO.call Z _ Z Z WH (JL _ nR ?_))); cases lC; exact dB 2 Z (En [65,1,2,5] Z)
 · refine IF 61 m_ lC Z fun lC=>?_; cases lC; exact dB 4 Z (En [65,1,2,5] Z)
 refine J 1 Z (C hf Z (fun h16 hf=>?_) fun h16 hf=>?_)
 · cases hf; exact M 1 Z (Y Z h)
 refine W 2 Z (AR.and 5 68 73 [1] (x:=((v1.aW.length:Int) == 0)) Z Z (fun wP=>?_) (fun wP=>?_) ?_)
 · refine Is 68 wP Z (U 2 Z (GO Z (AO.aM (l:=v1.aW) Z Z Z Z jC Z (aj.aC _) ?_))); exact dB 2 Z (En [73,1] Z)
 · refine Is 68 wP Z ?_; exact dB 5 Z (En [73,1] Z)
 refine U 1 Z (An 3 74 77 [] (bf == 16) Z Z Z Z (J 1 Z (C hf Z (fun h19 hf=>?_) fun h19 hf=>?_)))
 · cases hf; exact M 1 Z (Y Z h)
 cases hf; exact M 1 Z (Y Z h)
theorem mQ (v1:aj) {r0:Int} (hf:jR v1=some r0) (h:Q (.ret (iP r0)) τ):PC 75 [.agg (aT v1)] τ Q:=by
 unfold jR at hf; refine AC.none (AC.Jt 16 [.cell 2 24] [0] Tryz.func75 Z Z Z Z Z ?_); obtain ⟨b1,s1,h1,hf⟩:=cu hf; cases hf; refine AW.sr (AR.step Z Z Z (AO.BI Z Z Z (AR.step Z Z Z (AO.aH Z O8 (fun b2=>(AR.nil [1,2] Z ?_)))))); refine AW.seq (AW.sr (cs 1 Z (AR.step Z Z Z (AO.call Z _ Z Z Xa (JK _ _ ?_))))); refine AR.nil [2,7] Z (AW.block (AW.rangeFunc (β:=Option Int) (X:=Int × aj) Z WK (fun x=>[iP x.1,.agg (aT x.2)]) (fun _=>Z) (by decide) (fun s x=>jh s x.1 x.2) (fun s=>[.box b2 [iP (s.getD 0)]]) (fun s=>s.map fun _=>.ret) (s0:=none) (s1:=s1) Z Z ?_ ?_ ?_))
 ·
  intro l T' hy; refine F3 l T' jh (fun s1 bf v1 b s2 hh=>hy s1 (bf,v1) b s2 hh) none v1 1 h1 ⟨⟨_,Z⟩,Z⟩
 ·
  rintro l s ⟨bf,x1⟩ b s2 hh; unfold jh at hh; cases s with
  | some e=>cases hh
  | none=>
  refine ⟨Z,?_⟩; refine B1 hh fun e1 h2 hh=>?_; refine ny.seq (ny.region Z (cs 1 Z (AR.nil [2,3,9] Z ?_))); refine ny.region Z (AR.step Z Z Z (AO.aH Z nA (fun b4=>(AR.bD Z Z (AO.bY (i:=0) Z Z Z xE Z Z Z Z Z (AR.nil [2,3,4] Z ?_)))))); refine ⟨Z,(ny.block (ny.seq (ny.region Z ?_)))⟩; refine AR.step Z Z Z (AO.bV (i:=0) Z Z Z xE Z Z (cs 1 Z (AR.step Z Z Z (AO.call Z _ Z Z W_ (LQ _ _ h2 (cs 1 Z ?_)))))); refine AR.nil [2,5] Z (ny.seq (ny.region Z (cs 2 Z ?_))); refine AR.nil [2,5,14] Z (ny.cond Z (fun h3=>?_) (fun h3=>?_))
  ·
   replace hh:=kg h3 hh; cases hh; refine ny.seq (ny.region Z (cs 1 Z (AR.bD Z Z (AO.bY (i:=1) Z Z Z nE Z Z Z Z Z ?_)))); refine AR.nil [] Z (ny.ret ?_); exact ⟨Z,.cons _ (List.Sublist.refl _),Z,Z⟩
  ·
   replace hh:=jH h3 hh; cases hh; refine ny.skip ?_; exact ⟨Z,.cons _ (List.Sublist.refl _),Z,Z⟩
 ·
  intro D; cases s1 with
  | some e=>exact ⟨D,_,Z,Z,_,⟨_,_,Z,⟨_,_,0,_,_,Z,Z,nE,Z⟩,Z⟩,[],List.nil_sublist _,h⟩
  | none=>
   show AW _ _ _ _ _ _ _; refine AW.sr (AR.bD Z Z (AO.bY (i:=0) Z Z Z nE Z Z Z Z Z (AR.nil [2] Z (AW.ret ?_)))); exact ⟨D,[_],Z,Z,_,⟨_,_,Z,⟨_,_,0,_,_,Z,Z,nE,Z⟩,Z⟩,[],List.nil_sublist _,h⟩
theorem DY (l1:List Str) {r0:Bool} (hf:mF l1=some r0) (h:Q (.ret (.bool r0)) τ):PC 255 [sP l1] τ Q:=by
 unfold mF at hf; refine BN 22 [.tmp 2] [0] Tryz.func255 Z Z Z Z Z (W 1 Z (AS Z (AO.Hz Z (fun m6=>(U 2 Z (AS Z (AO.aM (l:=l1) Z Z Z Z eO Z Z (J 1 Z (KN (fun x1 y1=>[(3,.val (.map (some m6))),(7,sP l1),(8,iP (l1.length:Int)),(9,iP x1)]) (fun x1 y1=>[.obj m6 (oF y1)]) (fun bP x1 y1=>jZ l1 bP x1 y1=some r0) BIG 0 [] Z Z hf (fun _ _ hz=>aU hz) ?_))))))))); intro bP x1 y1 hf; rw [jZ] at hf; refine V 1 Z (C hf Z (fun h1 hf=>?_) fun h1 hf=>?_)
 ·
  refine B1 hf fun s1 h2 hf=>W 0 Z (AS Z (AO.aK h2 Z Z Z Z eO Z Z (U 4 Z (AS Z (AO.Br (i:=0) (l:=y1) Z Z Z Z yK bN P9 (U 1 Z (AR.bD Z Z (AO.CO (i:=0) (l:=y1) Z Z Z Z Z yK bN (U 2 Z (AS Z (AO.Br (i:=0) (l:=(oQ y1 s1 (bQ ((nX y1 s1) + 1)))) Z Z Z Z yK bN P9 ?_))))))))))); refine J 1 Z (C hf Z (fun h3 hf=>?_) fun h3 hf=>?_)
  · cases hf; exact M 1 Z (Y Z h)
  exact M 2 Z ⟨(bQ (x1 + 1)),(oQ y1 s1 (bQ ((nX y1 s1) + 1))),Z,Z,Z,hf⟩
 cases hf; exact M 1 Z (Y Z h)
theorem JZ (e1:ah) (bf:Int) {r0:Int} (hf:sN e1 bf=some r0) (h:Q (.ret (iP r0)) τ):PC 184 [.agg (aQ e1),iP bf] τ Q:=by
 unfold sN at hf; refine BN 65 [.tmp 4] [0,1] Tryz.func184 Z Z Z Z Z (V 5 Z (C hf Z (fun h1 hf=>?_) fun h1 hf=>?_))
 · cases hf; exact M 1 Z (Y Z h)
 refine W 4 Z (On 4 12 16 [2] (decide (10 < e1.kind)) Z Z Z Z ?_); refine B1 hf fun b1 h4 hf=>U 1 Z (AR.dx 10 17 27 false [2] b1 Z Z (fun h3=>?_) (fun h3=>?_) ?_)
 ·
  refine IF 17 h3 h4 Z fun h4=>?_; refine BR h4 fun b2 h6 h4=>?_; refine U 4 Z (AR.dx 5 21 26 true [2,17] b2 Z Z (fun h5=>?_) (fun h5=>?_) ?_)
  · refine IT 21 h5 h6 Z fun h6=>?_; refine B1 h6 fun x1 h7 h6=>U 2 Z (GO Z (AO.call Z _ Z Z Wy (JW _ h7 ?_))); cases h6; exact dB 2 Z (En [26,2,17] Z)
  · refine IF 21 h5 h6 Z fun h6=>?_; cases h6; exact dB 5 Z (En [26,2,17] Z)
  cases h4; exact dB 1 Z (En [27,2] Z)
 · refine IT 17 h3 h4 Z fun h4=>?_; cases h4; exact dB 10 Z (En [27,2] Z)
 refine B1 hf fun b3 h9 hf=>U 1 Z (AR.dx 4 28 32 false [2] b3 Z Z (fun h8=>?_) (fun h8=>?_) ?_)
 · refine IF 28 h8 h9 Z fun h9=>?_; refine B1 h9 fun x2 h10 h9=>U 1 Z (GO Z (AO.call Z _ Z Z Wv (IK _ h10 ?_))); cases h9; exact dB 2 Z (En [32,2] Z)
 · refine IT 28 h8 h9 Z fun h9=>?_; cases h9; exact dB 4 Z (En [32,2] Z)
 refine B1 hf fun b4 h12 hf=>U 1 Z (AR.dx 4 33 37 false [2] b4 Z Z (fun h11=>?_) (fun h11=>?_) ?_)
 · refine IF 33 h11 h12 Z fun h12=>?_; refine B1 h12 fun x3 m_ h12=>U 1 Z (GO Z (AO.call Z _ Z Z Wu (IU _ m_ ?_))); cases h12; exact dB 2 Z (En [37,2] Z)
 · refine IT 33 h11 h12 Z fun h12=>?_; cases h12; exact dB 4 Z (En [37,2] Z)
 refine B1 hf fun b5 nR hf=>U 1 Z (AR.dx 4 38 42 false [2] b5 Z Z (fun lC=>?_) (fun lC=>?_) ?_)
 · refine IF 38 lC nR Z fun nR=>?_; refine B1 nR fun x4 h16 nR=>U 1 Z (GO Z (AO.call Z _ Z Z Wt (IL _ h16 ?_))); cases nR; exact dB 2 Z (En [42,2] Z)
 · refine IT 38 lC nR Z fun nR=>?_; cases nR; exact dB 4 Z (En [42,2] Z)
 refine J 1 Z (C hf Z (fun wP hf=>?_) fun wP hf=>?_)
 · cases hf; exact M 1 Z (Y Z h)
 refine B1 hf fun b6 h19 hf=>W 4 Z (AR.dx 5 47 52 true [2] b6 Z Z (fun h18=>?_) (fun h18=>?_) ?_)
 · refine IT 47 h18 h19 Z fun h19=>?_; refine B1 h19 fun x5 h20 h19=>U 2 Z (GO Z (AO.call Z _ Z Z Yt (mQ _ h20 ?_))); cases h19; exact dB 2 Z (En [52,2] Z)
 · refine IF 47 h18 h19 Z fun h19=>?_; cases h19; exact dB 5 Z (En [52,2] Z)
 refine J 1 Z (C hf Z (fun h21 hf=>?_) fun h21 hf=>?_)
 · refine BR hf fun x6 h22 hf=>?_; refine W 2 Z (CL Z (mQ _ h22 ?_)); cases hf; exact N 1 Z (Y Z h)
 refine W 2 Z (AS Z (AO.aM (l:=e1.args) Z Z Z Z dQ Z (ah.aC _) (J 2 Z (C hf Z (fun h23 hf=>?_) fun h23 hf=>?_))))
 · cases hf; exact M 1 Z (Y Z h)
 refine B1 hf fun x7 C_ hf=>W 2 Z (CL Z (DY _ C_ (J 1 Z (C hf Z (fun FV hf=>?_) fun FV hf=>?_))))
 · cases hf; exact M 1 Z (Y Z h)
 cases hf; exact M 1 Z (Y Z h)
abbrev Bg (f_:ah→Int→Option Int):Prop:=∀ (eD:ah) (dA:Int) {aL:Int},f_ eD dA=some aL→∀ {τ:List aJ} {Q:cK→List aJ→Prop} (h:Q (.ret (iP aL)) τ),PC 109 [.agg (aQ eD),iP dA] τ Q
theorem GH (f_) (Ew:Bg f_) (e1:ah) (bf:Int) {r0:Int} (hf:qC f_ e1 bf=some r0) (h:Q (.ret (iP r0)) τ):PC 109 [.agg (aQ e1),iP bf] τ Q:=by
 unfold qC at hf; refine BN 30 [.tmp 4] [0,1] Tryz.func109 Z Z Z Z Z ?_; refine B1 hf fun f1 h1 hf=>W 4 Z (CL Z (JZ _ _ h1 (J 3 Z (C hf Z (fun h2 hf=>?_) fun h2 hf=>?_))))
 · cases hf; exact M 2 Z (Y Z h)
 refine W 2 Z (AS Z (AO.aM (l:=e1.args) Z Z Z Z dQ Z (ah.aC _) (J 1 Z (Jh (fun x1=>[(1,iP bf),(16,.list (ah.bL e1.args)),(17,iP (e1.args.length:Int)),(18,iP x1)]) (fun x1=>[]) (fun bP x1=>mE f_ e1 bf bP x1=some r0) BIG 0 Z Z hf (fun _ hz=>aU hz) ?_)))); intro bP x1 hf; rw [mE] at hf; refine V 1 Z (C hf Z (fun h3 hf=>?_) fun h3 hf=>?_)
 ·
  refine B1 hf fun e2 h4 hf=>W 0 Z (AS Z (AO.aK h4 Z Z (ah.aC _) Z dQ (ah.aF _) Z (U 1 Z (AS Z (AO.aH Z j_ (fun b7=>?_)))))); refine B1 hf fun f2 h5 hf=>Rr 4 [0,0] Z Z (CL Z (Ew _ _ h5 (J 3 Z (C hf Z (fun h6 hf=>?_) fun h6 hf=>?_))))
  · cases hf; exact M 2 Z (Y Z h)
  refine Zg 2 Z (AR.drop1 ?_); exact N 0 Z ⟨(bQ (x1 + 1)),Z,Z,Z,hf⟩
 cases hf; exact M 1 Z (Y Z h)
theorem Hw :∀ k:Nat,(Bg (iJ k)):=by
 intro k
 induction k with
 | zero=>exact fun _ _ _ hz=>by first | cases hz | (unfold iJ at hz; cases hz)
 | succ k ih=>exact fun eD dA aL hz τ Q hq=>GH (iJ k) ih eD dA hz hq
theorem II (eD:ah) (dA:Int) {aL:Int} (hf:yD eD dA=some aL) (h:Q (.ret (iP aL)) τ):PC 109 [.agg (aQ eD),iP dA] τ Q:=
 ((Hw BIG)) eD dA hf h
theorem lQ (e1:ah) {r0:Int} (hf:ji e1=some r0) (h:Q (.ret (iP r0)) τ):PC 70 [.agg (aQ e1)] τ Q:=by
 unfold ji at hf; refine BN 8 [.tmp 2] [0] Tryz.func70 Z Z Z Z Z ?_; refine B1 hf fun x1 h1 hf=>W 3 Z (CL Z (IW _ h1 (J 1 Z (C hf Z (fun h2 hf=>?_) fun h2 hf=>?_))))
 · cases hf; exact M 1 Z (Y Z h)
 refine BR hf fun x2 h3 hf=>?_; refine W 1 Z (CL Z (II _ _ h3 ?_)); cases hf; exact N 1 Z (Y Z h)
section
variable [zL]
theorem J2 (Ec:List aI) {r0:ah} {r1:Int} {r2:Int} (hf:Ah Ec=some (r0,r1,r2)) (h:Q (.ret (.tuple [.agg (aQ r0),iP r1,iP r2])) τ):PC 63 [.list (List.map aI.cells Ec)] τ Q:=by
 unfold Ah at hf; refine BN 27 [.cell 2 37,.tmp 3,.tmp 4] [0] Tryz.func63 Z Z Z Z Z (W 0 Z (AS Z (AO.aH Z j_ (fun b2=>?_)))); obtain ⟨x1,n1,ko,h1,hf⟩:=jY hf; refine U 3 Z (CL Z (JY _ h1 (U 4 Z (AS Z (AO.aH Z j_ (fun b5=>(Rw 5 [0] Z Z (C hf Z (fun h2 hf=>?_) fun h2 hf=>?_))))))))
 · cases hf; exact Wx 6 [1] Z Z (ZC [1] Z Z h)
 refine B1 hf fun vM h3 hf=>Wr 1 [0] Z Z (CL Z (lQ _ h3 (J 3 Z (C hf Z (fun h4 hf=>?_) fun h4 hf=>?_))))
 · cases hf; exact Wx 5 [1] Z Z (ZC [1] Z Z h)
 cases hf; exact Wx 5 [0,1] Z Z (ZC [1] Z Z h)
end
theorem IJ (Ec:List aI) (n1:Int) (eZ:Str) {r0:Int} (hf:yE Ec n1 eZ=some r0) (h:Q (.ret (iP r0)) τ):PC 64 [.list (List.map aI.cells Ec),iP n1,.str eZ] τ Q:=by
 unfold yE at hf; refine BN 18 [.tmp 6] [0,1,2] Tryz.func64 Z Z Z Z Z (W 3 Z (AS Z (AO.aM (l:=Ec) Z Z Z Z ru Z Z (J 1 Z (C hf Z (fun h1 hf=>?_) fun h1 hf=>?_)))))
 · refine B1 hf fun e1 h2 hf=>W 2 Z (AS Z (AO.aK h2 Z Z Z Z ru (aI.aF _) Z ?_)); cases hf; exact N 3 Z (Y Z h)
 refine W 1 Z (AS Z (AO.bG Z Z Z Z bN Z ?_)); cases hf; exact N 1 Z (Y Z h)
section
variable [zL]
theorem IV (eZ:Str) {r0:ah} {r1:Int} {r2:Int} (hf:yF eZ=some (r0,r1,r2)) (h:Q (.ret (.tuple [.agg (aQ r0),iP r1,iP r2])) τ):PC 30 [.str eZ] τ Q:=by
 unfold yF at hf; refine BN 46 [.cell 2 37,.tmp 3,.tmp 4] [0] Tryz.func30 Z Z Z Z Z (W 0 Z (AS Z (AO.aH Z j_ (fun b2=>?_)))); obtain ⟨Ec,ig,ko,h1,hf⟩:=jY hf; refine U 3 Z (CL Z (IZ _ h1 (J 9 Z (C hf Z (fun h2 hf=>?_) fun h2 hf=>?_))))
 · cases hf; exact Wx 6 [0] Z Z (ZC [0] Z Z h)
 obtain ⟨x1,n1,vM,h3,hf⟩:=jY hf; refine W 1 Z (CL Z (J2 _ h3 (U 4 Z (AS Z (AO.aH Z j_ (fun b8=>(Rw 5 [0] Z Z (C hf Z (fun h4 hf=>?_) fun h4 hf=>?_))))))))
 · refine B1 hf fun x2 h5 hf=>W 4 Z (CL Z (IJ _ _ _ h5 ?_)); cases hf; exact Rx 4 [1] Z Z (ZC [1] Z Z h)
 refine W 2 Z (AS Z (AO.aM (l:=Ec) Z Z Z Z ru Z Z (J 1 Z (C hf Z (fun h6 hf=>?_) fun h6 hf=>?_))))
 ·
  refine V 0 Z (AW.Tw 1 6 7 1 mixed (by kernel_rfl) (by kernel_rfl) (by kernel_rfl) Z Z Z Z ?_); refine Ev.cons Z Z Z (AO.build Z j_ Oj Z zg) (Ev.nil ?_); show Ev _ _ _ _ _ _ _; refine Ev.cs aR 2 Z ?_; refine B1 hf fun e1 h7 hf=>Ev.cons Z Z Z (AO.aK h7 Z Z Z Z ru (aI.aF _) Z zg) (Ev.cs aR 2 Z (Ev.nil (TF.bD Z Z (AO.bY (i:=0) Z Z Z jF Z Z Z Z Z ?_)))); refine TF.nil ?_; show AR _ _ _ _ _ _ _ _; cases hf; exact N 2 Z (ZC [1] Z Z h)
 cases hf; exact Wx 4 [0,1] Z Z (ZC [1] Z Z h)
end
section
variable [zL]
theorem rD {b:Nat} {vp v p:Value} {gQ r0:List aB} {text1:Str} (hf:kU gQ text1=some r0) (hroom:roomy v=true) {R:cK→List aJ→Prop} (h:∀ vp',R (.ret (.tuple [])) [.iU b 74 [(.own vp' ((List.map aB.cells r0))),.val (.pointer none),.own (.slice none 0 0) (List.map dL [])],.row vp' ((List.map aB.cells r0)).length 12 39]):PC 31 [pP b] [.row v (List.length text1) 1 5,.iU b 74 [(.own vp ((List.map aB.cells gQ))),.val p,.own v (List.map dL text1)],.row vp ((List.map aB.cells gQ)).length 12 39] R:=by
 unfold kU at hf; refine AC.lZ 25 [] [0] Tryz.func31 Z Z Z Z Z (AW.seq (AW.sr (AR.step Z Z Z (AO.calc' Z ?_)))); refine AR.step Z Z Z (AO.nilCheck Z Z (AR.step Z Z Z (AO.bK Z Z Bv (AR.step Z Z Z (AO.call Z _ Z Z Yx (AC.frame (σ:=[_,_]) (τ:=[_]) (TI (AR.step Z Z Z (AO.calc' Z ?_))))))))); refine AR.nil [0,6] Z (AW.cond Z (fun h1=>?_) (fun h1=>?_))
 ·
  replace hf:=kg h1 hf; refine AW.PL 4 12 [] [.row v (List.length text1) 1 5,.iU b 74 [(.own vp ((List.map aB.cells gQ))),.val p,.own v (List.map dL text1)],.row vp ((List.map aB.cells gQ)).length 12 39] (fun S e s=>∃ v2:Value,e.get 0=pP b∧e.get 7=pP b∧e.get 10=pP b∧(S 4=true→e.get 11=.own vp ((List.map aB.cells gQ)))∧(S 5=true→e.get 12=pP b)∧(S 6=true→e.get 13=pP b)∧(S 7=true→e.get 14=.val (.pointer (some ⟨b,1,none⟩)))∧(S 8=true→e.get 15=.str text1)∧(S 9=true→e.get 16=.agg [.str text1,.bool false,iP 0,.str ([]:Str),iP 0,.bool false,iP 0,.str ([]:Str),.own (.slice none 0 0) [],.own (.slice none 0 0) [],.own (.slice none 0 0) [],.own (.slice none 0 0) []])∧(S 10=true→e.get 17=.list ((List.map aB.cells [(aB.mk text1 false (ah.mk 0 ([]:Str) (aj.mk 0 false 0 ([]:Str) [] []) [] []))])))∧(S 11=true→e.get 18=.own v2 ((List.map aB.cells r0)))∧s=(bif S 8 then [] else [.row v (List.length text1) 1 5]) ++ [.iU b 74 [(.own vp ((List.map aB.cells gQ))),.val p,.own v (List.map dL text1)],bif S 11 then .row v2 ((List.map aB.cells r0)).length 12 39 else .row vp ((List.map aB.cells gQ)).length 12 39]) mixed (by kernel_rfl) Z Z (List.Perm.refl _) ?_ ?_ ?_ ?_
  ·
   refine Ev.cs aR 4 Z (Ev.nil ?_); exact ⟨.nilIface,Z,Z,Z,(fun h=>by cases h),(fun h=>by cases h),(fun h=>by cases h),(fun h=>by cases h),(fun h=>by cases h),(fun h=>by cases h),(fun h=>by cases h),(fun h=>by cases h),Z⟩
  ·
   rintro S S' e s hS ⟨v2,p0,p7,Qx,q4,q5,q6,q7,q8,q9,Rj,Ri,qs⟩; have z:=fun i h1 h2=>(hS i h1 h2).symm; refine ⟨v2,p0,p7,Qx,?_,?_,?_,?_,?_,?_,?_,?_,?_⟩
   ·
    rw [z 4 (by decide) (by decide)]; exact q4
   ·
    rw [z 5 (by decide) (by decide)]; exact q5
   ·
    rw [z 6 (by decide) (by decide)]; exact q6
   ·
    rw [z 7 (by decide) (by decide)]; exact q7
   ·
    rw [z 8 (by decide) (by decide)]; exact q8
   ·
    rw [z 9 (by decide) (by decide)]; exact q9
   ·
    rw [z 10 (by decide) (by decide)]; exact Rj
   ·
    rw [z 11 (by decide) (by decide)]; exact Ri
   ·
    rw [z 8 (by decide) (by decide),z 11 (by decide) (by decide)]; exact qs
  ·
   rintro S e s i o ⟨v2,p0,p7,Qx,q4,q5,q6,q7,q8,q9,Rj,Ri,rfl⟩ hi1 hi2 Mh hp' ho; have hi:i=4∨i=5∨i=6∨i=7∨i=8∨i=9∨i=10∨i=11:=by omega
   rcases hi with rfl | rfl | rfl | rfl | rfl | rfl | rfl | rfl
   ·
    cases ho; refine ⟨Z,(fun t ht=>by cases ht; decide),AO.less (Less.add Qx Less.nil) ?_⟩; cases h8:S 8 with
    | false=>
     refine AO.gD (i:=1) Z Z Z GL Z Z ?_; exact ⟨v2,p0,p7,Qx,(fun _=>Z),q5,q6,q7,(fun h=>by rw [show S 8=true from h] at h8; cases h8),q9,Rj,Ri,by simp [h8]⟩
    | true=>
     refine AO.gD (i:=0) Z Z Z GL Z Z ?_; exact ⟨v2,p0,p7,Qx,(fun _=>Z),q5,q6,q7,q8,q9,Rj,Ri,by simp [h8]⟩
   ·
    cases ho; refine ⟨Z,(fun t ht=>by cases ht; decide),AO.less (Less.add p0 Less.nil) (AO.calc' Z ?_)⟩; exact ⟨v2,p0,p7,Qx,q4,(fun _=>Z),q6,q7,q8,q9,Rj,Ri,Z⟩
   ·
    cases ho; have s5:=hp' 5 (any_beq.1 Z) (by decide); refine ⟨Z,(fun t ht=>by cases ht; decide),AO.less (Less.add (q5 s5) Less.nil) (AO.nilCheck Z Z ?_)⟩; exact ⟨v2,p0,p7,Qx,q4,q5,(fun _=>Z),q7,q8,q9,Rj,Ri,Z⟩
   ·
    cases ho; have s6:=hp' 6 (any_beq.1 Z) (by decide); refine ⟨Z,(fun t ht=>by cases ht; decide),AO.less (Less.add (q6 s6) Less.nil) (AO.bK Z Z Bv ?_)⟩; exact ⟨v2,p0,p7,Qx,q4,q5,q6,(fun _=>Z),q8,q9,Rj,Ri,Z⟩
   ·
    cases ho; have s7:=hp' 7 (any_beq.1 Z) (by decide); rw [Mh]; refine ⟨Z,(fun t ht=>by cases ht; decide),AO.less (Less.add (q7 s7) Less.nil) ?_⟩; refine AO.call Z _ Z Z Yz (AC.frame (σ:=[_,_]) (τ:=[_]) (NN hroom ?_)); exact ⟨v2,p0,p7,Qx,q4,q5,q6,q7,(fun _=>Z),q9,Rj,Ri,Z⟩
   ·
    cases ho; have s8:=hp' 8 (any_beq.1 Z) (by decide); refine ⟨Z,(fun t ht=>by cases ht; decide),AO.less (Less.add (q8 s8) Less.nil) (AO.build Z Mk RY Z ?_)⟩; exact ⟨v2,p0,p7,Qx,q4,q5,q6,q7,q8,(fun _=>Z),Rj,Ri,Z⟩
   ·
    cases ho; have s9:=hp' 9 (any_beq.1 Z) (by decide); refine ⟨Z,(fun t ht=>by cases ht; decide),AO.less (Less.add (q9 s9) Less.nil) (AO.bn ((List.map aB.cells [(aB.mk text1 false (ah.mk 0 ([]:Str) (aj.mk 0 false 0 ([]:Str) [] []) [] []))])) rfl Pn rfl rfl rfl (by first | rfl | simp only [List.map,aB.aF]) ?_)⟩
    exact ⟨v2,p0,p7,Qx,q4,q5,q6,q7,q8,q9,(fun _=>Z),Ri,Z⟩
   ·
    cases ho; have s4:=hp' 4 (any_beq.1 Z) (by decide); have s8:=hp' 8 (any_beq.1 Z) (by decide); have s10:=hp' 10 (any_beq.1 Z) (by decide); rw [Mh,s8]; refine ⟨Z,(fun t ht=>by cases ht; decide),AO.less (Less.add (q4 s4) (Less.add (Rj s10) Less.nil)) ?_⟩; refine AO.mg (i:=1) (l:=gQ) (m:=[(aB.mk text1 false (ah.mk 0 ([]:Str) (aj.mk 0 false 0 ([]:Str) [] []) [] []))]) hf Z Z Z Z Z Z Z Pn oo Z Z Z (aB.gI) (aB.cells_one) (by decide) (fun v3 s2 hs2=>?_); cases hs2; exact ⟨v3,p0,p7,Qx,q4,q5,q6,q7,q8,q9,Rj,(fun _=>Z),by simp [s8]⟩
  rintro S e s hS ⟨v2,p0,p7,Qx,q4,q5,q6,q7,q8,q9,Rj,Ri,rfl⟩; rw [hS 8 (by decide) (by decide),hS 11 (by decide) (by decide)]; refine AR.less (Less.add p0 (Less.add p7 (Less.add (Ri (hS 11 (by decide) (by decide))) Less.nil))) ?_; refine AR.step Z Z Z (AO.nilCheck Z Z (AR.step Z Z Z (AO.bK Z Z Gj ?_))); refine AR.bD Z Z (AO.lV (i:=0) Z Z Z GL Z Z Z Z Z ?_); refine AR.nil [0] Z (AW.region (AR.step Z Z Z (AO.calc' Z (AR.step Z Z Z (AO.nilCheck Z Z ?_))))); refine AR.step Z Z Z (AO.bK Z Z Bv (AR.step Z Z Z (AO.call Z _ Z Z VE (AC.frame (σ:=[_]) (τ:=[_]) (Jb (AR.nil [] Z ?_)))))); exact ⟨Z,[],Z,_,List.Sublist.refl _,h v2⟩
 ·
  obtain rfl:=Option.some.inj (jH h1 hf); refine AW.skip (AW.drop1 (AW.region (AR.step Z Z Z (AO.calc' Z ?_)))); refine AR.step Z Z Z (AO.nilCheck Z Z (AR.step Z Z Z (AO.bK Z Z Bv (AR.step Z Z Z (AO.call Z _ Z Z VE (AC.frame (σ:=[_]) (τ:=[_]) (Jb (AR.nil [] Z ?_)))))))); exact ⟨Z,[],Z,_,List.Sublist.refl _,h vp⟩
theorem nQ (s1:Str) {r0:List aB} {r1:Int} {r2:Int} (hf:l6 s1=some (r0,r1,r2)) (h:Q (.ret (.tuple [.list (List.map aB.cells r0),iP r1,iP r2])) τ):PC 11 [.str s1] τ Q:=by
 unfold l6 at hf; refine AC.none (AC.lZ 76 [.tmp 2,.tmp 3,.tmp 4] [0] Tryz.func11 Z Z Z Z Z (AW.sr (AR.step Z Z Z (AO.jy Z Z ?_)))); refine cs 2 Z (AR.nil [0] Z (AW.seq (AW.sr ?_))); refine cs 1 Z (AR.step Z Z Z (AO.bG Z Z Z Z bN Z (cs 1 Z (AR.nil [0,14] Z ?_)))); refine AW.cond Z (fun h1=>?_) (fun h1=>?_)
 · replace hf:=kg h1 hf; refine AW.sr (AR.step Z Z Z (AO.jy Z Z (cs 2 Z (AR.nil [2,3,4] Z ?_)))); refine AW.ret ?_; cases hf; exact ⟨rfl,_,⟨_,_,rfl,rfl,_,_,rfl,rfl,_,_,rfl,rfl,rfl⟩,[],List.nil_sublist _,h⟩
 replace hf:=jH h1 hf; refine AW.skip (AW.row 12 39 (AW.sr ?_)); refine AR.step Z Z Z (AO.O1 Z X9 (fun b=>?_)); refine AR.nil [0,5] Z (AW.row 1 5 (AW.seq (AW.sr ?_))); refine cs 1 Z (AR.nil [0,5,6] Z (AW.block (AW.settle [0,5,6] Z ?_))); refine AW.Xi (fun ig gQ vp text1 vt p=>[(0,.str s1),(5,pP b),(6,iP ig)]) (fun ig gQ vp text1 vt p=>[.row vt (List.length text1) 1 5,.iU b 74 [(.own vp ((List.map aB.cells gQ))),.val p,.own vt (List.map dL text1)],.row vp ((List.map aB.cells gQ)).length 12 39]) (fun bP ig gQ vp text1 vt p=>kG s1 bP ig gQ text1=some (r0,r1,r2)∧(p=Value.pointer none∨p=.pointer (some ⟨b,1,none⟩))∧roomy vt=true) BIG 0 [] (.slice none 0 0) [] (.slice none 0 0) (.pointer none) Z Z ⟨hf,.inl Z,Z⟩ (fun _ _ _ _ _ _ hz=>aU hz.1) ?_; intro bP ig gQ vp text1 vt p Z0; obtain ⟨hf,hp,hroom⟩:=Z0; rw [kG] at hf; refine AW.seq (AW.sr (cs 2 Z (AR.step Z Z Z (AO.bG Z Z Z Z bN Z ?_)))); refine cs 1 Z (AR.nil [0,5,6,18] Z (AW.cond Z (fun h2=>?_) (fun h2=>?_)))
 ·
  replace hf:=kg h2 hf; refine AW.skip (AW.block (AW.sr (cs 2 Z ?_))); refine B1 hf fun R7 h3 hf=>AR.step Z Z Z (AO.lW h3 Z bN Z ⟨_,Z⟩ Z (cs 1 Z (AR.nil [0,5,6,7] Z (AW.block ?_)))); refine AW.sr (cs 1 Z ?_); refine B1 hf fun b1 h4 hf=>AR.step Z Z Z (AO.call Z _ Z Z VJ (tZ _ _ h4 (cs 1 Z (AR.nil [0,5,6,7,29] Z (AW.cond Z (fun h5=>?_) (fun h5=>?_))))))
  · replace hf:=kg h5 hf; refine B1 hf fun RQ h6 hf=>AW.sr (AR.step Z Z Z (AO.bK Z Z Bv (AR.step Z Z Z (AO.call Z _ Z Z VI (AC.frame (σ:=[_,_]) (τ:=[_]) (Bc hp hroom h6 (fun v2 hr2=>(AR.nil [0,5,6] Z ?_)))))))); refine AW.region (cs 3 Z (AR.nil [0,5,6] Z ?_)); exact ⟨(bQ (ig + 2)),gQ,vp,RQ,v2,_,Z,Z,Z,hf,.inr Z,hr2⟩
  replace hf:=jH h5 hf; refine B1 hf fun b2 h6 hf=>AW.sr (cs 1 Z (AR.step Z Z Z (AO.call Z _ Z Z VJ (tZ _ _ h6 (cs 1 Z ?_))))); refine AR.nil [0,5,6,36] Z (AW.cond Z (fun h7=>?_) (fun h7=>?_))
  ·
   replace hf:=kg h7 hf; refine AW.sr (cs 3 Z ?_); refine B1 hf fun wo h8 hf=>AR.step Z Z Z (AO.call Z _ Z Z YB (ER _ _ h8 (cs 1 Z (AR.nil [0,5,6,8] Z (AW.seq ?_))))); refine AW.sr (cs 2 Z (AR.nil [0,5,6,8,44] Z (AW.cond Z (fun h9=>?_) (fun h9=>?_))))
   · replace hf:=kg h9 hf; refine AW.sr (cs 1 Z (AR.step Z Z Z (AO.jy Z Z (cs 2 Z ?_)))); refine AR.nil [2,3,4] Z (AW.ret ?_); cases hf; exact ⟨rfl,_,⟨_,_,rfl,rfl,_,_,rfl,rfl,_,_,rfl,rfl,rfl⟩,[],List.nil_sublist _,h⟩
   replace hf:=jH h9 hf; refine AW.skip (AW.sr (cs 4 Z ?_)); refine B1 hf fun x1 h10 hf=>AR.step Z Z Z (AO.lW h10 Z bN Z ⟨_,Z⟩ ⟨_,Z⟩ ?_); obtain ⟨e1,n1,ko,h11,hf⟩:=jY hf; refine AR.step Z Z Z (AO.call Z _ Z Z YA (IV _ h11 (cs 4 Z (AR.step Z Z Z (AO.aH Z j_ (fun b9=>(AR.bD Z Z (AO.bY (i:=0) Z Z Z jF Z Z Z Z Z ?_)))))))); refine cs 2 Z (AR.nil [0,5,6,8,9,10,11] Z (AW.seq (AW.sr ?_))); refine cs 2 Z (AR.nil [0,5,6,8,9,10,11,57] Z (AW.cond Z (fun h12=>?_) (fun h12=>?_)))
   · replace hf:=kg h12 hf; refine AW.sr (cs 5 Z (AR.step Z Z Z (AO.jy Z Z (cs 2 Z ?_)))); refine AR.nil [2,3,4] Z (AW.ret ?_); cases hf; exact ⟨rfl,_,⟨_,_,rfl,rfl,_,_,rfl,rfl,_,_,rfl,rfl,rfl⟩,[],List.nil_sublist _,h⟩
   replace hf:=jH h12 hf; refine B1 hf fun K_ m_ hf=>B1 hf fun K9 lC hf=>AW.skip (AW.sr (AR.step Z Z Z (AO.call Z _ Z Z VH (AC.perm (Qw _ _ _ _) (AC.frame (σ:=[_,_,_]) (τ:=[_]) (rD m_ hroom (fun vp2=>(AR.nil [0,5,8,9] Z ?_)))))))); refine AW.row 1 5 (AW.sr (AR.step Z Z Z (AO.bK Z Z Gj ?_))); refine AR.step Z Z Z (AO.gD (i:=1) Z Z Z GL Z Z ?_); refine AR.step rfl rfl rfl (AO.bV (i:=3) rfl rfl rfl jF rfl rfl (AR.step rfl rfl rfl (AO.build rfl Mk RY rfl (AR.step rfl rfl rfl (AO.bn ((List.map aB.cells [(aB.mk ([]:Str) true e1)])) rfl Pn rfl rfl rfl (by first | rfl | simp only [List.map,aB.aF]) ?_))))); refine AR.step Z Z Z (AO.mg (i:=2) (l:=K_) (m:=[(aB.mk ([]:Str) true e1)]) lC Z Z Z Z Z Z Z Pn oo Z Z Z (aB.gI) (aB.cells_one) (by decide) (fun vp3 s2 hs2=>?_)); cases hs2
   refine AR.step Z Z Z (AO.bK Z Z Gj ?_); refine AR.bD Z Z (AO.lV (i:=1) Z Z Z GL Z Z Z Z Z ?_); refine AR.nil [0,5,8] Z (AW.Tt 3 Z (AW.region (cs 3 Z ?_))); refine AR.nil [0,5,6] Z ?_; exact ⟨(bQ (wo + 1)),K9,vp3,[],.slice none 0 0,_,Z,Z,Z,hf,.inl Z,Z⟩
  replace hf:=jH h7 hf; refine B1 hf fun c1 h8 hf=>B1 hf fun RP h9 hf=>AW.sr (AR.step Z Z Z (AO.bK Z Z Bv (cs 2 Z (AR.step Z Z Z (AO.dH h8 Z bN Z Z ?_))))); refine AR.step Z Z Z (AO.call Z _ Z Z VI (AC.frame (σ:=[_,_]) (τ:=[_]) (Bc hp hroom h9 (fun v2 hr2=>(AR.nil [0,5,6] Z (AW.region (cs 3 Z ?_))))))); refine AR.nil [0,5,6] Z ?_; exact ⟨(bQ (ig + 1)),gQ,vp,RP,v2,_,Z,Z,Z,hf,.inr Z,hr2⟩
 replace hf:=jH h2 hf; refine B1 hf fun Pp h3 hf=>AW.exit (AW.sr (AR.step Z Z Z (AO.call Z _ Z Z VH (rD h3 hroom (fun vp2=>(AR.nil [5] Z ?_)))))); refine AW.sr (AR.step Z Z Z (AO.bK Z Z Gj ?_)); refine AR.step Z Z Z (AO.gD (i:=0) Z Z Z GL Z Z ?_); refine cs 3 Z (AR.nil [2,3,4] Z (AW.ret ?_)); cases hf; exact ⟨rfl,_,⟨_,_,rfl,rfl,_,_,rfl,rfl,_,_,rfl,rfl,rfl⟩,[],List.nil_sublist _,h⟩
end
theorem I9 (dK:List bO) {r0:Int} (hf:DR dK=some r0) (h:Q (.ret (iP r0)) τ):PC 41 [.list (List.map bO.cells dK)] τ Q:=by
 unfold DR at hf; refine BN 39 [.tmp 2] [0] Tryz.func41 Z Z Z Z Z (W 2 Z (AS Z (AO.aM (l:=dK) Z Z Z Z Tp Z Z (J 1 Z (C hf Z (fun h1 hf=>?_) fun h1 hf=>?_)))))
 · cases hf; exact M 1 Z (Y Z h)
 refine W 0 Z (AS Z (AO.Hz Z (fun m10=>(U 2 Z (AS Z (AO.aM (l:=dK) Z Z Z Z Tp Z Z (J 1 Z (KN (fun x1 y1=>[(3,.val (.map (some m10))),(11,.list (List.map bO.cells dK)),(12,iP (dK.length:Int)),(13,iP x1)]) (fun x1 y1=>[.obj m10 (oF y1)]) (fun bP x1 y1=>wR dK bP x1 y1=some r0) BIG 0 [] Z Z hf (fun _ _ hz=>aU hz) ?_)))))))); intro bP x1 y1 hf; rw [wR] at hf; refine V 1 Z (C hf Z (fun h2 hf=>?_) fun h2 hf=>?_)
 ·
  refine B1 hf fun e1 h3 hf=>W 0 Z (AS Z (AO.aK h3 Z Z Z Z Tp (bO.aF _) Z (U 1 Z (AS Z (AO.aH Z Vm (fun b5=>?_)))))); refine B1 hf fun x2 h4 hf=>Rr 4 [0,0] Z Z (CL Z (lQ _ h4 (J 1 Z (C hf Z (fun h5 hf=>?_) fun h5 hf=>?_))))
  · cases hf; exact M 1 Z (Y Z h)
  refine B1 hf fun e2 h6 hf=>Wr 2 [0] Z Z (CL Z (mQ _ h6 (J 3 Z (C hf Z (fun h7 hf=>?_) fun h7 hf=>?_))))
  · cases hf; exact M 2 Z (Y Z h)
  refine Wr 3 [0] Z Z (AS Z (AO.Br (i:=1) (l:=y1) Z Z Z Z yK bN P9 (U 1 Z (AR.bD Z Z (AO.CO (i:=1) (l:=y1) Z Z Z Z Z yK bN (Rr 3 [0] Z Z (AS Z (AO.Br (i:=1) (l:=(oQ y1 e1.name (bQ ((nX y1 e1.name) + 1)))) Z Z Z Z yK bN P9 (J 1 Z (C hf Z (fun h8 hf=>?_) fun h8 hf=>?_))))))))))
  · cases hf; exact M 1 Z (Y Z h)
  refine Zg 2 Z (AR.drop1 ?_); exact N 0 Z ⟨(bQ (x1 + 1)),(oQ y1 e1.name (bQ ((nX y1 e1.name) + 1))),Z,Z,Z,hf⟩
 cases hf; exact M 1 Z (Y Z h)
theorem J8 (e1:ah) (dK:List bO) {r0:List bO} {r1:Int} (hf:Aw e1 dK=some (r0,r1)) (h:Q (.ret (.tuple [.list (List.map bO.cells r0),iP r1])) τ):PC 125 [.agg (aQ e1),.list (List.map bO.cells dK)] τ Q:=by
 unfold Aw at hf; refine BN 19 [.tmp 4,.tmp 5] [0,1] Tryz.func125 Z Z Z Z Z (W 1 Z (AS Z (AO.jy Z Z ?_))); refine B1 hf fun f1 h1 hf=>U 2 Z (CL Z (I9 _ h1 (J 3 Z (C hf Z (fun h2 hf=>?_) fun h2 hf=>?_))))
 · refine W 1 Z (AS Z (AO.jy Z Z ?_)); cases hf; exact N 1 Z (Y Z h)
 refine B1 hf fun f2 h3 hf=>W 1 Z (CL Z (lQ _ h3 (J 3 Z (C hf Z (fun h4 hf=>?_) fun h4 hf=>?_))))
 · refine W 1 Z (AS Z (AO.jy Z Z ?_)); cases hf; exact N 1 Z (Y Z h)
 cases hf; exact M 3 Z (Y Z h)
@[reducible] def Dc :iT aY aj→cK
 | .ok r=>.ret (.agg (aT r))
 | .bad e=>.panic (.iface 204 (.agg [iP e.code]))
theorem wU (s1:List bO) (name1:Str) {rX:iT aY aj} (hf:tL s1 name1=some rX) (h:Q (Dc rX) τ):PC 264 [.list (List.map bO.cells s1),.str name1] τ Q:=by
 unfold tL at hf; refine BN 22 [.cell 4 34] [0,1] Tryz.func264 Z Z Z Z Z (W 0 Z (AS Z (AO.aH Z nA (fun b4=>(U 1 Z (AS Z (AO.aM (l:=s1) Z Z Z Z Tq Z Z (J 1 Z (Jh (fun x1=>[(1,.str name1),(4,pP b4),(7,.list (List.map bO.cells s1)),(8,iP (s1.length:Int)),(9,iP x1)]) (fun x1=>[.box b4 [iP 0,.bool false,iP 0,.str ([]:Str),.own (.slice none 0 0) [],.own (.slice none 0 0) []]]) (fun bP x1=>l8 s1 name1 bP x1=some rX) BIG 0 Z Z hf (fun _ hz=>aU hz) ?_))))))))); intro bP x1 hf; rw [l8] at hf; refine V 1 Z (C hf Z (fun h1 hf=>?_) fun h1 hf=>?_)
 ·
  refine B1 hf fun e1 h2 hf=>W 0 Z (AS Z (AO.aK h2 Z Z Z Z Tq (bO.aF _) Z (U 1 Z (AS Z (AO.aH Z Vm (fun b6=>(Rw 5 [0,0] Z Z (C hf Z (fun h3 hf=>?_) fun h3 hf=>?_))))))))
  · cases hf; exact Wx 3 [0,1] Z Z (ZC [1] Z Z h)
  refine Zg 2 Z (AR.drop1 ?_); exact N 0 Z ⟨(bQ (x1 + 1)),Z,Z,Z,hf⟩
 exact aU hf
theorem Ba (a1:aj) (b1:aj) (qc:Int) {r0:Bool} (hf:xW a1 b1 qc=some r0) (h:Q (.ret (.bool r0)) τ):PC 364 [.agg (aT a1),.agg (aT b1),iP qc] τ Q:=by
 unfold xW at hf; refine BN 17 [.tmp 6] [0,1,2] Tryz.func364 Z Z Z Z Z (W 8 Z (An 5 11 16 [] (b1.kind == qc) Z Z Z Z ?_)); cases hf; exact N 1 Z (Y Z h)
@[reducible] def Ml :iT aY Unit→cK
 | .ok r=>.ret (.tuple [])
 | .bad e=>.panic (.iface 204 (.agg [iP e.code]))
theorem lU (ok1:Bool) (e1:Int) {rX:iT aY Unit} (hf:uT ok1 e1=some rX) (h:Q (Ml rX) τ):PC 274 [.bool ok1,iP e1] τ Q:=by
 unfold uT at hf; refine BN 8 [] [0,1] Tryz.func274 Z Z Z Z Z (V 2 Z (C hf Z (fun h1 hf=>?_) fun h1 hf=>?_))
 · exact aU hf
 cases hf; exact M 0 Z (ZN Z h)
theorem I8 (n1:Int) {r0:aj} (hf:yS n1=some r0) (h:Q (.ret (.agg (aT r0))) τ):PC 330 [iP n1] τ Q:=by
 unfold yS at hf; refine BN 5 [.cell 2 34] [0] Tryz.func330 Z Z Z Z Z (W 0 Z (AS Z (AO.aH Z nA (fun b2=>?_)))); cases hf; exact Rx 3 [0] Z Z (ZC [0] Z Z h)
@[reducible] def Jk :iT aY aj→cK
 | .ok r=>.ret (.agg (aT r))
 | .bad e=>.panic (.iface 204 (.agg [iP e.code]))
theorem Ci (n1:Int) {rX:iT aY aj} (hf:Av n1=some rX) (h:Q (Jk rX) τ):PC 368 [iP n1] τ Q:=by
 unfold Av at hf; refine BN 12 [.cell 2 34] [0] Tryz.func368 Z Z Z Z Z (W 0 Z (AS Z (AO.aH Z nA (fun b2=>(U 3 Z (An 3 5 8 [0,2] (decide (n1≤9007199254740992)) Z Z Z Z ?_)))))); rcases kH hf with ⟨e1,h2,hf⟩ | ⟨_,h2,hf⟩
 · refine CL Z (lU _ _ h2 ?_); cases hf; exact ⟨Z,[],List.nil_sublist _,h⟩
 refine CL Z (lU _ _ h2 ?_); refine B1 hf fun x1 h3 hf=>U 1 Z (CL Z (I8 _ h3 ?_)); cases hf; exact Rx 1 [0] Z Z (ZC [0] Z Z h)
@[reducible] def N8 :iT aY aj→cK
 | .ok r=>.ret (.agg (aT r))
 | .bad e=>.panic (.iface 204 (.agg [iP e.code]))
theorem I7 (a1:aj) (b1:aj) {rX:iT aY aj} (hf:Ij a1 b1=some rX) (h:Q (N8 rX) τ):PC 333 [.agg (aT a1),.agg (aT b1)] τ Q:=by
 unfold Ij at hf; refine BN 57 [.cell 4 34] [0,1] Tryz.func333 Z Z Z Z Z (W 2 Z (AS Z (AO.aH Z nA (fun b4=>?_)))); refine B1 hf fun x1 h1 hf=>U 2 Z (CL Z (Ba _ _ _ h1 (J 1 Z (C hf Z (fun h2 hf=>?_) fun h2 hf=>?_))))
 ·
  rcases kH hf with ⟨e1,h3,hf⟩ | ⟨x2,h3,hf⟩
  · refine W 5 Z (CL Z (Ci _ h3 ?_)); cases hf; exact ⟨Z,[],List.nil_sublist _,h⟩
  refine W 5 Z (CL Z (Ci _ h3 ?_)); cases hf; exact Rx 1 [0] Z Z (ZC [0] Z Z h)
 refine B1 hf fun x3 h4 hf=>W 2 Z (CL Z (Ba _ _ _ h4 (J 1 Z (C hf Z (fun h5 hf=>?_) fun h5 hf=>?_))))
 ·
  refine W 2 Z (AS Z (AO.bG Z Z Z Z bN Z (U 2 Z (AS Z (AO.bG Z Z Z Z bN Z ?_))))); rcases kH hf with ⟨e2,h6,hf⟩ | ⟨_,h6,hf⟩
  · refine U 2 Z (CL Z (lU _ _ h6 ?_)); cases hf; exact ⟨Z,[],List.nil_sublist _,h⟩
  refine U 2 Z (CL Z (lU _ _ h6 ?_)); exact aU hf
 refine B1 hf fun x4 h7 hf=>W 2 Z (CL Z (Ba _ _ _ h7 ?_)); rcases kH hf with ⟨e3,h8,hf⟩ | ⟨_,h8,hf⟩
 · refine CL Z (lU _ _ h8 ?_); cases hf; exact ⟨Z,[],List.nil_sublist _,h⟩
 refine CL Z (lU _ _ h8 (U 2 Z (AS Z (AO.aM (l:=a1.aW) Z Z Z Z jC Z (aj.aC _) (U 2 Z (AS Z (AO.aM (l:=b1.aW) Z Z Z Z jC Z (aj.aC _) ?_))))))); rcases kH hf with ⟨e4,h9,hf⟩ | ⟨_,h9,hf⟩
 · refine U 2 Z (CL Z (lU _ _ h9 ?_)); cases hf; exact ⟨Z,[],List.nil_sublist _,h⟩
 refine U 2 Z (CL Z (lU _ _ h9 (U 4 Z (AR.row 6 34 ?_)))); refine B1 hf fun l1 h10 hf=>AS Z (AO.mg (i:=0) (l:=[]) (m:=a1.aW) h10 Z Z Z Z Z Z Z R4 jC (show ([]:List (List PV))=List.map aj.cells [] from Z) (aj.aC _) (aj.aC _).symm (aj.gI) (aj.cells_one) (by decide) (fun v1 s1 hs1=>?_)); cases hs1; exact aU hf
@[reducible] def qh :iT aY aj→cK
 | .ok r=>.ret (.agg (aT r))
 | .bad e=>.panic (.iface 204 (.agg [iP e.code]))
@[reducible] def oC :iT aY aj→cK
 | .ok r=>.ret (.agg (aT r))
 | .bad e=>.panic (.iface 204 (.agg [iP e.code]))
abbrev rG (dG:List bO→ah→Option (iT aY aj)):Prop:=∀ (FH:List bO) (eD:ah) {fG:iT aY aj},dG FH eD=some fG→∀ {τ:List aJ} {Q:cK→List aJ→Prop} (h:Q (qh fG) τ),PC 201 [.list (List.map bO.cells FH),.agg (aQ eD)] τ Q
abbrev oI (dP:List bO→ah→Option (iT aY aj)):Prop:=∀ (FH:List bO) (eD:ah) {fG:iT aY aj},dP FH eD=some fG→∀ {τ:List aJ} {Q:cK→List aJ→Prop} (h:Q (oC fG) τ),PC 270 [.list (List.map bO.cells FH),.agg (aQ eD)] τ Q
theorem Df (dG) (gM:rG dG) (dP) (mX:oI dP) (s1:List bO) (e1:ah) {rX:iT aY aj} (hf:qY dG dP s1 e1=some rX) (h:Q (qh rX) τ):PC 201 [.list (List.map bO.cells s1),.agg (aQ e1)] τ Q:=by
 unfold qY at hf; refine BN 104 [.cell 4 34] [0,1] Tryz.func201 Z Z Z Z Z (W 1 Z (AS Z (AO.aH Z nA (fun b4=>(J 4 Z (C hf Z (fun h1 hf=>?_) fun h1 hf=>?_))))))
 · cases hf; exact Wx 3 [0] Z Z (ZC [0] Z Z h)
 refine V 2 Z (C hf Z (fun h2 hf=>?_) fun h2 hf=>?_)
 ·
  rcases kH hf with ⟨e2,h3,hf⟩ | ⟨x1,h3,hf⟩
  · refine W 3 Z (CL Z (wU _ _ h3 ?_)); cases hf; exact ⟨Z,[],List.nil_sublist _,h⟩
  refine W 3 Z (CL Z (wU _ _ h3 ?_)); cases hf; exact Rx 1 [0] Z Z (ZC [0] Z Z h)
 refine V 2 Z (C hf Z (fun h4 hf=>?_) fun h4 hf=>?_)
 · exact aU hf
 refine V 2 Z (C hf Z (fun h5 hf=>?_) fun h5 hf=>?_)
 ·
  refine B1 hf fun e3 h6 hf=>W 3 Z (AS Z (AO.aK h6 Z Z (ah.aC _) Z dQ (ah.aF _) Z ?_)); rcases kH hf with ⟨e4,h7,hf⟩ | ⟨x2,h7,hf⟩
  · refine U 1 Z (CL Z (gM _ _ h7 ?_)); cases hf; exact ⟨Z,[],List.nil_sublist _,h⟩
  refine U 1 Z (CL Z (gM _ _ h7 (AS Z (AO.aH Z nA (fun b5=>?_))))); exact aU hf
 refine V 2 Z (C hf Z (fun h8 hf=>?_) fun h8 hf=>?_)
 · exact aU hf
 refine V 2 Z (C hf Z (fun h9 hf=>?_) fun h9 hf=>?_)
 · exact aU hf
 refine V 2 Z (C hf Z (fun h10 hf=>?_) fun h10 hf=>?_)
 ·
  rcases kH hf with ⟨e5,h11,hf⟩ | ⟨x3,h11,hf⟩
  · refine W 2 Z (CL Z (mX _ _ h11 ?_)); cases hf; exact ⟨Z,[],List.nil_sublist _,h⟩
  refine W 2 Z (CL Z (mX _ _ h11 ?_)); cases hf; exact Rx 1 [0] Z Z (ZC [0] Z Z h)
 refine V 2 Z (C hf Z (fun h12 hf=>?_) fun h12 hf=>?_)
 · exact aU hf
 refine V 2 Z (C hf Z (fun m_ hf=>?_) fun m_ hf=>?_)
 · exact aU hf
 exact aU hf
theorem BO (dG) (gM:rG dG) (dP) (mX:oI dP) (s1:List bO) (e1:ah) {rX:iT aY aj} (hf:oG dG dP s1 e1=some rX) (h:Q (oC rX) τ):PC 270 [.list (List.map bO.cells s1),.agg (aQ e1)] τ Q:=by
 unfold oG at hf; refine BN 95 [.cell 4 34] [0,1] Tryz.func270 Z Z Z Z Z (W 1 Z (AS Z (AO.aH Z nA (fun b4=>?_)))); refine B1 hf fun e2 h1 hf=>U 3 Z (AS Z (AO.aK h1 Z Z (ah.aC _) Z dQ (ah.aF _) Z ?_)); rcases kH hf with ⟨e3,h2,hf⟩ | ⟨x1,h2,hf⟩
 · refine U 1 Z (CL Z (gM _ _ h2 ?_)); cases hf; exact ⟨Z,[],List.nil_sublist _,h⟩
 refine U 1 Z (CL Z (gM _ _ h2 (AS Z (AO.aH Z nA (fun b5=>(Rr 5 [0] Z Z (On 4 16 20 [0,3,4,5] (e1.name == ([124,124]:Str)) Z Z Z Z (J 0 Z (C hf Z (fun h4 hf=>?_) fun h4 hf=>?_)))))))))
 · exact aU hf
 refine B1 hf fun e4 h5 hf=>W 3 Z (AS Z (AO.aK h5 Z Z (ah.aC _) Z dQ (ah.aF _) Z ?_)); rcases kH hf with ⟨e5,h6,hf⟩ | ⟨x2,h6,hf⟩
 · refine U 1 Z (CL Z (gM _ _ h6 ?_)); cases hf; exact ⟨Z,[],List.nil_sublist _,h⟩
 refine U 1 Z (CL Z (gM _ _ h6 (AS Z (AO.aH Z nA (fun b6=>(Rw 5 [0] Z Z (C hf Z (fun h7 hf=>?_) fun h7 hf=>?_)))))))
 · exact aU hf
 refine V 2 Z (C hf Z (fun h8 hf=>?_) fun h8 hf=>?_)
 · exact aU hf
 refine V 2 Z (C hf Z (fun h9 hf=>?_) fun h9 hf=>?_)
 · exact aU hf
 refine V 2 Z (C hf Z (fun h10 hf=>?_) fun h10 hf=>?_)
 · exact aU hf
 refine V 2 Z (C hf Z (fun h11 hf=>?_) fun h11 hf=>?_)
 · exact aU hf
 refine V 2 Z (C hf Z (fun h12 hf=>?_) fun h12 hf=>?_)
 · exact aU hf
 refine V 2 Z (C hf Z (fun m_ hf=>?_) fun m_ hf=>?_)
 ·
  rcases kH hf with ⟨e6,lC,hf⟩ | ⟨x3,lC,hf⟩
  · refine Wr 2 [1,0] Z Z (CL Z (I7 _ _ lC ?_)); cases hf; exact ⟨Z,[],List.nil_sublist _,h⟩
  refine Wr 2 [1,0] Z Z (CL Z (I7 _ _ lC ?_)); cases hf; exact Rx 1 [2] Z Z (ZC [2] Z Z h)
 exact aU hf
theorem wL :∀ k:Nat,(rG (iQ k))∧(oI (gN k)):=by
 intro k
 induction k with
 | zero=>exact ⟨fun _ _ _ hz=>by first | cases hz | (unfold iQ at hz; cases hz),fun _ _ _ hz=>by first | cases hz | (unfold gN at hz; cases hz)⟩
 | succ k ih=>exact ⟨fun FH eD fG hz τ Q hq=>Df (iQ k) ih.1 (gN k) ih.2 FH eD hz hq,fun FH eD fG hz τ Q hq=>BO (iQ k) ih.1 (gN k) ih.2 FH eD hz hq⟩
theorem wV (FH:List bO) (eD:ah) {fG:iT aY aj} (hf:zx FH eD=some fG) (h:Q (qh fG) τ):PC 201 [.list (List.map bO.cells FH),.agg (aQ eD)] τ Q:=
 ((wL BIG).1) FH eD hf h
theorem N7 (FH:List bO) (eD:ah) {fG:iT aY aj} (hf:DN FH eD=some fG) (h:Q (oC fG) τ):PC 270 [.list (List.map bO.cells FH),.agg (aQ eD)] τ Q:=
 ((wL BIG).2) FH eD hf h
theorem ES (s1:List bO) (e1:ah) {r0:aj} {r1:Int} (hf:vK s1 e1=some (r0,r1)) (h:Q (.ret (.tuple [.agg (aT r0),iP r1])) τ):PC 126 [.list (List.map bO.cells s1),.agg (aQ e1)] τ Q:=by
 unfold vK at hf; refine AC.none (AC.Fb 10 [.cell 4 34,.cell 5 24] [0,1] [0,1] Tryz.func126 Z Z Z Z Z Tryz.func200 Z Z Z Z Z Z Z WG (AW.sr (AR.step Z Z Z (AO.BI Z Z Z ?_)))); refine AR.step Z Z Z (AO.aH Z nA (fun b4=>(AR.step Z Z Z (AO.aH Z O8 (fun b5=>(AR.nil [0,3,4,5] Z (AW.sr ?_))))))); refine cs 1 Z (AR.defer (vs:=[.pointer (some ⟨b4,0,none⟩),.pointer (some ⟨b5,0,none⟩)]) Z Z Z Z Z Z (AR.nil [0,3,4,5] Z (AW.sr ?_))); refine cs 2 Z ?_; rcases kH hf with ⟨f1,h1,hf⟩ | ⟨v1,h1,hf⟩
 ·
  refine AR.step Z Z Z (AO.call Z _ Z Z Sq (wV _ _ h1 ?_)); cases hf; refine ⟨[.pointer (some ⟨b4,0,none⟩),.pointer (some ⟨b5,0,none⟩)],_,Z,Z,Z,(AR.step Z Z Z (AO.Pf Z Z Us (cs 3 Z (AR.step Z Z Z (AO.aH Z Rs (fun b6=>?_))))))⟩; refine AR.bD Z Z (AO.bY (i:=0) Z Z Z RN Z Z Z Z Z (cs 1 Z (AR.nil [0,1,2,3] Z (AW.sr ?_)))); refine cs 1 Z (AR.nil [0,1,2,9] Z (AW.cond Z (fun _=>?_) (fun hh=>by cases hh))); refine AW.Tv 1 3 4 [_] [_,_] mixed (by kernel_rfl) (by kernel_rfl) (by kernel_rfl) Z Z Z (List.Perm.refl _) ?_; refine Ev.cons Z Z Z (AO.build Z nA RZ Z zg) (Ev.nil ?_); show Ev _ _ _ _ _ _ _; refine Ev.cs aR 1 Z (Ev.cons Z Z Z (AO.bV (i:=0) Z Z Z nE Z Z zg) (Ev.nil (TF.bD Z Z (AO.bY (i:=1) Z Z Z xE Z Z Z Z Z ?_)))); refine TF.nil ?_; show AR _ _ _ _ _ _ _ _; refine AR.bD Z Z (AO.bY (i:=1) Z Z Z nE Z Z Z Z Z (AR.nil [] Z ?_)); exact ⟨rfl,_,⟨_,_,rfl,⟨_,_,2,_,_,rfl,rfl,xE,rfl⟩,⟨_,_,rfl,⟨_,_,1,_,_,rfl,rfl,nE,rfl⟩,rfl⟩⟩,[],List.nil_sublist _,h⟩
 refine AR.step Z Z Z (AO.call Z _ Z Z Sq (wV _ _ h1 ?_)); cases hf; refine AR.bD Z Z (AO.bY (i:=1) Z Z Z xE Z Z Z Z Z (AR.bD Z Z (AO.bY (i:=0) Z Z Z nE Z Z Z Z Z (AR.nil [4,5] Z (AW.ret ?_))))); refine ⟨[.pointer (some ⟨b4,0,none⟩),.pointer (some ⟨b5,0,none⟩)],_,Z,Z,Z,(AR.step Z Z Z (AO.MF (p:=.agg [iP 0]) Z Z Uu (fun _ _=>by simp only [bM]; exact ⟨[.int .i64 0],Z,aN.cons (by simp [bM]) aN.nil⟩) ?_))⟩; refine cs 3 Z (AR.step Z Z Z (AO.aH Z Rs (fun b6=>(AR.bD Z Z (AO.bY (i:=0) Z Z Z RN Z Z Z Z Z (cs 1 Z ?_)))))); refine AR.nil [3] Z (AW.sr (cs 1 Z (AR.nil [9] Z ?_))); refine AW.cond Z (fun hh=>by cases hh) (fun _=>?_); refine AW.skip ?_; exact ⟨rfl,_,⟨_,_,rfl,⟨_,_,2,_,_,rfl,rfl,xE,rfl⟩,⟨_,_,rfl,⟨_,_,1,_,_,rfl,rfl,nE,rfl⟩,rfl⟩⟩,[],List.nil_sublist _,h⟩
abbrev D8 (iI:aj→Option aj):Prop:=∀ (o8:aj) {aL:aj},iI o8=some aL→∀ {τ:List aJ} {Q:cK→List aJ→Prop} (h:Q (.ret (.agg (aT aL))) τ),PC 127 [.agg (aT o8)] τ Q
theorem KS (iI) (Ie:D8 iI) (v1:aj) {r0:aj} (hf:yT iI v1=some r0) (h:Q (.ret (.agg (aT r0))) τ):PC 127 [.agg (aT v1)] τ Q:=by
 unfold yT at hf; refine BN 31 [.cell 2 34] [0] Tryz.func127 Z Z Z Z Z (W 1 Z (AS Z (AO.aH Z nA (fun b2=>(U 1 Z (AS Z (AO.aH Z nA (fun b3=>(Rr 7 [0,0,0] Z Z (AS Z (AO.aM (l:=v1.aW) Z Z Z Z jC Z (aj.aC _) ?_))))))))))); refine J 1 Z (AW.row 6 34 (AW.row 1 9 (LK4 (fun x1 dw v2 v3=>[(1,.ref (aT v1)),(2,pP b2),(3,pP b3),(10,.list (aj.bL v1.aW)),(11,iP (v1.aW.length:Int)),(12,iP x1)]) (fun x1 dw v2 v3=>[.row v3 (List.map iW dw.keys).length 1 9,.row v2 (aj.bL dw.aW).length 6 34,.box b3 [iP dw.kind,.bool dw.jd,iP dw.iG,.str dw.jK,.own v2 (aj.bL dw.aW),.own v3 (List.map iW dw.keys)],.box b2 [iP 0,.bool false,iP 0,.str ([]:Str),.own (.slice none 0 0) [],.own (.slice none 0 0) []]]) (fun bP x1 dw v2 v3=>sD iI v1 bP x1 dw=some r0) BIG 0 (aj.mk v1.kind v1.jd v1.iG v1.jK [] []) (.slice none 0 0) (.slice none 0 0) Z Z hf (fun _ _ _ _ hz=>aU hz) ?_))); intro bP x1 dw v2 v3 hf; rw [sD] at hf; refine V 1 Z (C hf Z (fun h1 hf=>?_) fun h1 hf=>?_)
 ·
  refine B1 hf fun e1 h2 hf=>W 0 Z (AS Z (AO.aK h2 Z Z (aj.aC _) Z jC (aj.aF _) Z (U 1 Z (AS Z (AO.aH Z nA (fun b5=>(Rw 1 [0] Z Z (AW.draw 5 mixed (by kernel_rfl) Z ?_)))))))); refine Ev.cs aR 1 Z (Ev.cons Z Z Z (AO.bV (i:=3) Z Z Z Ye Z Z zg) (Ev.cons Z Z Z (AO.bV (i:=0) Z Z Z xE Z Z zg) ?_)); refine B1 hf fun x2 h3 hf=>Ev.cons rfl rfl rfl (AO.call rfl _ rfl rfl W9 (Ie _ h3 ⟨rfl,rfl⟩)) (Ev.cons rfl rfl rfl (AO.bn (aj.bL [x2]) rfl R4 rfl rfl rfl (by first | rfl | simp only [List.map,aj.aF,aj.bL]) ⟨rfl,rfl⟩) ?_)
  refine Ev.nil ?_; show AR _ _ _ _ _ _ _ _; refine B1 hf fun x3 h4 hf=>AS Z (AO.mg (i:=2) (l:=dw.aW) (m:=[x2]) h4 Z Z Z Z Z Z Z R4 jC (aj.aC _) (aj.aC _) (aj.aC _).symm (aj.gI) (aj.cells_one) (by decide) (fun v4 s1 hs1=>?_)); cases hs1; refine Rn 4 [3] Z Z (AR.drop1 ?_); exact N 0 Z ⟨(bQ (x1 + 1)),(aj.mk dw.kind dw.jd dw.iG dw.jK x3 dw.keys),v4,v3,Z,Z,Z,hf⟩
 refine B1 hf fun x4 h5 hf=>Wr 4 [2] Z Z (AS Z (AO.mg (i:=0) (l:=dw.keys) (m:=v1.keys) h5 Z Z Z Z Z Z Z tY eO Z Z Z (fun _=>Z) (fun _=>Z) (by decide) (fun v5 s2 hs2=>?_))); cases hs2; cases hf; exact Rx 4 [2,2,3] Z Z (ZC [3] Z Z h)
theorem Lf :∀ k:Nat,(D8 (qZ k)):=by
 intro k
 induction k with
 | zero=>exact fun _ _ hz=>by first | cases hz | (unfold qZ at hz; cases hz)
 | succ k ih=>exact fun o8 aL hz τ Q hq=>KS (qZ k) ih o8 hz hq
theorem L6 (o8:aj) {aL:aj} (hf:Ik o8=some aL) (h:Q (.ret (.agg (aT aL))) τ):PC 127 [.agg (aT o8)] τ Q:=
 ((Lf BIG)) o8 hf h
theorem NK (e1:ah) (dK:List bO) {r0:aj} {r1:Int} (hf:EC e1 dK=some (r0,r1)) (h:Q (.ret (.tuple [.agg (aT r0),iP r1])) τ):PC 76 [.agg (aQ e1),.list (List.map bO.cells dK)] τ Q:=by
 unfold EC at hf; refine BN 28 [.cell 4 34,.tmp 5] [0,1] Tryz.func76 Z Z Z Z Z (W 1 Z (AS Z (AO.aH Z nA (fun b4=>?_)))); obtain ⟨s1,f1,h1,hf⟩:=cu hf; refine U 3 Z (CL Z (J8 _ _ h1 (J 7 Z (C hf Z (fun h2 hf=>?_) fun h2 hf=>?_))))
 · cases hf; exact Wx 4 [0] Z Z (ZC [0] Z Z h)
 obtain ⟨x1,f2,h3,hf⟩:=cu hf; refine W 2 Z (CL Z (ES _ _ h3 (U 3 Z (AS Z (AO.aH Z nA (fun b8=>?_)))))); refine B1 hf fun x2 h4 hf=>Rr 3 [0,0] Z Z (CL Z (L6 _ h4 ?_)); cases hf; exact Rx 3 [1] Z Z (ZC [1] Z Z h)
theorem zh (b1:Bool) {r0:Str} (hf:jB b1=some r0) (h:Q (.ret (.str r0)) τ):PC 276 [.bool b1] τ Q:=by
 unfold jB at hf; refine BN 4 [.tmp 2] [0] Tryz.func276 Z Z Z Z Z (V 2 Z (C hf Z (fun h1 hf=>?_) fun h1 hf=>?_))
 · cases hf; exact M 1 Z (Y Z h)
 cases hf; exact M 1 Z (Y Z h)
theorem AU (b1:Bool) {r0:Str} (hf:strconv_FormatBool b1=some r0) (h:Q (.ret (.str r0)) τ):PC 202 [.bool b1] τ Q:=by
 unfold strconv_FormatBool at hf; refine BN 5 [.tmp 2] [0] Tryz.func202 Z Z Z Z Z ?_; refine BR hf fun x1 h1 hf=>?_; refine W 2 Z (CL Z (zh _ h1 ?_)); cases hf; exact N 1 Z (Y Z h)
theorem xq (s1:Str) {r0:Str} (hf:kK s1=some r0) (h:Q (.ret (.str r0)) τ):PC 204 [.str s1] τ Q:=by
 unfold kK at hf; refine BN 54 [.tmp 2] [0] Tryz.func204 Z Z Z Z Z (W 1 Z (AS Z (AO.BL (eu:=5) Z O7 Z (fun b3=>?_)))); refine B1 hf fun b1 h1 hf=>U 0 Z (CL Z (AC.one 0 Z (gB h1 (fun v1=>⟨_,Z,(J 1 Z (V3 (fun i1 b2 v2=>[(0,.str s1),(3,pP b3),(4,iP i1)]) (fun i1 b2 v2=>[.Da b3 v2 72 5 b2]) (fun bP i1 b2 v2=>fJ s1 bP i1 b2=some r0) BIG 0 b1 v1 Z Z hf (fun _ _ _ hz=>aU hz) ?_))⟩)))); intro bP i1 b2 v2 hf; rw [fJ] at hf; refine W 2 Z (AS Z (AO.bG Z Z Z Z bN Z (J 1 Z (C hf Z (fun h2 hf=>?_) fun h2 hf=>?_))))
 ·
  refine B1 hf fun c1 h3 hf=>W 2 Z (AS Z (AO.dH h3 Z bN Z Z (U 4 Z (On 3 28 31 [0,3,4,5] ((c1.toNat:Int) == 92) Z Z Z Z (J 1 Z (C hf Z (fun h5 hf=>?_) fun h5 hf=>?_))))))
  · refine B1 hf fun b3 h6 hf=>W 0 Z (CL Z (AC.one 0 Z (gB h6 (fun v3=>⟨_,Z,?_⟩)))); refine B1 hf fun b4 h7 hf=>U 1 Z (CL Z (AC.one 0 Z (gB h7 (fun v4=>⟨_,Z,?_⟩)))); exact N 3 Z ⟨(bQ (i1 + 1)),b4,v4,Z,Z,Z,hf⟩
  refine V 3 Z (C hf Z (fun h8 hf=>?_) fun h8 hf=>?_)
  · refine B1 hf fun b5 h9 hf=>W 0 Z (CL Z (AC.one 0 Z (eT h9 (fun v5=>⟨_,Z,?_⟩)))); exact N 3 Z ⟨(bQ (i1 + 1)),b5,v5,Z,Z,Z,hf⟩
  refine V 3 Z (C hf Z (fun h10 hf=>?_) fun h10 hf=>?_)
  · refine B1 hf fun b6 h11 hf=>W 0 Z (CL Z (AC.one 0 Z (eT h11 (fun v6=>⟨_,Z,?_⟩)))); exact N 3 Z ⟨(bQ (i1 + 1)),b6,v6,Z,Z,Z,hf⟩
  refine W 3 Z (An 3 46 49 [0,3,4,5] (decide ((c1.toNat:Int)≤126)) Z Z Z Z (J 1 Z (C hf Z (fun m_ hf=>?_) fun m_ hf=>?_)))
  · refine B1 hf fun b7 lC hf=>W 1 Z (CL Z (AC.one 0 Z (gB lC (fun v7=>⟨_,Z,?_⟩)))); exact N 3 Z ⟨(bQ (i1 + 1)),b7,v7,Z,Z,Z,hf⟩
  refine B1 hf fun b8 nR hf=>W 0 Z (CL Z (AC.one 0 Z (eT nR (fun v8=>⟨_,Z,(U 1 Z (AS Z (AO.u8_quo c1 16 Z Z Z Z Z (by decide) ?_)))⟩)))); refine B1 hf fun x1 h16 hf=>AS Z (AO.dH h16 Z bN Z Z ?_); refine B1 hf fun b9 wP hf=>CL Z (AC.one 0 Z (gB wP (fun v9=>⟨_,Z,(U 1 Z (AS Z (AO.KW c1 16 Z Z Z Z Z (by decide) ?_)))⟩))); refine B1 hf fun x2 h18 hf=>AS Z (AO.dH h18 Z bN Z Z ?_); refine B1 hf fun b10 h19 hf=>CL Z (AC.one 0 Z (gB h19 (fun v10=>⟨_,Z,?_⟩))); exact N 3 Z ⟨(bQ (i1 + 1)),b10,v10,Z,Z,Z,hf⟩
 refine BR hf fun b11 h20 hf=>?_; refine W 0 Z (CL Z (AC.one 0 Z (gB h20 (fun v11=>⟨_,Z,(U 0 Z (CL Z (AC.Gh 0 Z (uK ?_))))⟩)))); cases hf; exact N 1 Z (Y Z h)
section
variable [zL]
def KC :Go.Shelf.Ren:=⟨fun | 156=>187 | 165=>115 | 166=>36 | 169=>39 | 240=>60 | 241=>190 | 276=>96 | 277=>256 | n=>n,fun | 31=>32 | 9=>9 | 3=>3 | 4=>4 | 0=>0 | 20=>20 | 72=>72 | 76=>86 | 70=>70 | 37=>68 | 75=>77 | 127=>124 | 164=>138 | 5=>5 | 80=>69 | n=>n,fun | n=>n⟩
theorem joinL :Go.Proofs.Lays.n156 Tryz.prog KC:={
 mixed:=by kernel_rfl
 f156:=Tryz.func187.trans (congrArg some (by kernel_rfl))
 f165:=Tryz.func115.trans (congrArg some (by kernel_rfl))
 f166:=Tryz.func36.trans (congrArg some (by kernel_rfl))
 f169:=Tryz.func39.trans (congrArg some (by kernel_rfl))
 f240:=Tryz.func60.trans (congrArg some (by kernel_rfl))
 f241:=Tryz.func190.trans (congrArg some (by kernel_rfl))
 f276:=Tryz.func96.trans (congrArg some (by kernel_rfl))
 f277:=Tryz.func256.trans (congrArg some (by kernel_rfl))
 t0:=Tryz.underlying0
 a0:=Tryz.isAgg0
 z0:=Tryz.sizeOf0
 v0:=Tryz.zeroValue0
 t3:=Tryz.underlying3
 a3:=Tryz.isAgg3
 z3:=Tryz.sizeOf3
 v3:=Tryz.zeroValue3
 t4:=Tryz.underlying4
 a4:=Tryz.isAgg4
 z4:=Tryz.sizeOf4
 v4:=Tryz.zeroValue4
 t9:=Tryz.underlying9
 a9:=Tryz.isAgg9
 z9:=Tryz.sizeOf9
 v9:=Tryz.zeroValue9
 t20:=Tryz.underlying20
 a20:=Tryz.isAgg20
 z20:=Tryz.sizeOf20
 v20:=Tryz.zeroValue20
 t31:=Tryz.underlying32
 a31:=Tryz.isAgg32
 z31:=Tryz.sizeOf32
 v31:=Tryz.zeroValue32
 t37:=Tryz.underlying68
 a37:=Tryz.isAgg68
 z37:=Tryz.sizeOf68
 v37:=Tryz.zeroValue68
 t70:=Tryz.underlying70
 a70:=Tryz.isAgg70
 z70:=Tryz.sizeOf70
 v70:=Tryz.zeroValue70
 t72:=Tryz.underlying72
 a72:=Tryz.isAgg72
 z72:=Tryz.sizeOf72
 v72:=Tryz.zeroValue72
 t75:=Tryz.underlying77
 a75:=Tryz.isAgg77
 z75:=Tryz.sizeOf77
 v75:=Tryz.zeroValue77
 t76:=Tryz.underlying86
 a76:=Tryz.isAgg86
 z76:=Tryz.sizeOf86
 v76:=Tryz.zeroValue86
 t127:=Tryz.underlying124
 a127:=Tryz.isAgg124
 z127:=Tryz.sizeOf124
 v127:=Tryz.zeroValue124
 t164:=Tryz.underlying138
 a164:=Tryz.isAgg138
 z164:=Tryz.sizeOf138
 v164:=Tryz.zeroValue138}
theorem YK :Go.Proofs.Builder.Extra Tryz.prog KC:={
 sizeBuilder:=by kernel_rfl
 liesBuilder:=by kernel_rfl
 t5:=Tryz.underlying5
 a5:=fun w=>by kernel_rfl
 z5:=fun w=>by kernel_rfl
 v5:=fun w=>by kernel_rfl
 infoByte:=by kernel_rfl
 cellsByte:=by kernel_rfl
 sizeByte:=by kernel_rfl
 neB5:=by decide}
theorem vR (l1:List Str) (t1:Str) {r0:Str} (hf:strings_Join l1 t1=some r0) (h:Q (.ret (.str r0)) τ):PC 187 [sP l1,.str t1] τ Q:=by
 unfold strings_Join at hf; split at hf
 case isFalse=>cases hf
 rename_i hg; cases hf; refine AC.none ?_; exact AC.join zL.hD joinL YK hg.1 hg.2 h
end
section
variable [zL]
abbrev zH (b_:aj→Option Str):Prop:=∀ (o8:aj) {aL:Str},b_ o8=some aL→∀ {τ:List aJ} {Q:cK→List aJ→Prop} (h:Q (.ret (.str aL)) τ),PC 128 [.agg (aT o8)] τ Q
theorem FC (b_) (qV:zH b_) (v1:aj) {r0:Str} (hf:o7 b_ v1=some r0) (h:Q (.ret (.str r0)) τ):PC 128 [.agg (aT v1)] τ Q:=by
 unfold o7 at hf; refine BN 68 [.tmp 2] [0] Tryz.func128 Z Z Z Z Z (V 6 Z (C hf Z (fun h1 hf=>?_) fun h1 hf=>?_))
 · refine BR hf fun x1 h2 hf=>?_; refine W 2 Z (CL Z (AU _ h2 ?_)); cases hf; exact N 1 Z (Y Z h)
 refine V 2 Z (C hf Z (fun h3 hf=>?_) fun h3 hf=>?_)
 · refine BR hf fun x2 h4 hf=>?_; refine W 2 Z (CL Z (IE _ h4 ?_)); cases hf; exact N 1 Z (Y Z h)
 refine V 2 Z (C hf Z (fun h5 hf=>?_) fun h5 hf=>?_)
 · refine BR hf fun x3 h6 hf=>?_; refine W 2 Z (CL Z (xq _ h6 ?_)); cases hf; exact N 1 Z (Y Z h)
 refine V 2 Z (C hf Z (fun h7 hf=>?_) fun h7 hf=>?_)
 ·
  refine V 0 Z (AW.cond Z (fun h8=>?_) (fun h8=>?_))
  ·
   refine W 3 Z (AS Z (AO.aM (l:=v1.aW) Z Z Z Z jC Z (aj.aC _) (J 1 Z (AW.row 1 9 (V3 (fun jM v2 i1=>[(1,.ref (aT v1)),(3,.own v2 (List.map iW jM)),(28,.list (aj.bL v1.aW)),(29,iP (v1.aW.length:Int)),(30,iP i1)]) (fun jM v2 i1=>[.row v2 (List.map iW jM).length 1 9]) (fun bP jM v2 i1=>iC b_ v1 bP jM i1=some r0) BIG [] (.slice none 0 0) 0 Z Z hf (fun _ _ _ hz=>aU hz) ?_))))); intro bP jM v2 i1 hf; rw [iC] at hf; refine V 1 Z (C hf Z (fun h9 hf=>?_) fun h9 hf=>?_)
   ·
    refine B1 hf fun e1 h10 hf=>W 1 Z (AS Z (AO.aK h10 Z Z (aj.aC _) Z jC (aj.aF _) Z (U 1 Z (AS Z (AO.aH Z nA (fun b5=>(Rw 5 [0] Z Z (C hf Z (fun h11 hf=>?_) fun h11 hf=>?_))))))))
    ·
     refine AW.draw 12 mixed (by kernel_rfl) Z ?_; refine Ev.cs aR 4 Z ?_; refine B1 hf fun e2 h12 hf=>Ev.cons Z Z Z (AO.aK h12 Z Z Z Z eO Z Z zg) (Ev.cs aR 1 Z ?_); refine B1 hf fun x4 m_ hf=>Ev.cons Z Z Z (AO.call Z _ Z Z Sn (xq _ m_ zg)) ?_; refine B1 hf fun x5 lC hf=>Ev.cons Z Z Z (AO.cB lC Z Z Z zg) (Ev.cons Z Z Z (AO.bV (i:=0) Z Z Z xE Z Z zg) ?_); refine B1 hf fun x6 nR hf=>Ev.cons Z Z Z (AO.call Z _ Z Z SB (qV _ nR zg)) ?_; refine B1 hf fun x7 h16 hf=>Ev.cons Z Z Z (AO.cB h16 Z Z Z zg) (Ev.cons Z Z Z (AO.bn (List.map iW ([x7]:List Str)) Z tY Z Z Z Z zg) (Ev.nil ?_)); show AR _ _ _ _ _ _ _ _; refine B1 hf fun CG wP hf=>AS Z (AO.mg (i:=1) (l:=jM) (m:=([x7]:List Str)) wP Z Z Z Z Z Z Z tY eO Z Z Z (fun _=>Z) (fun _=>Z) (by decide) (fun v3 s1 hs1=>?_)); cases hs1; refine dB 3 Z (AR.drop1 ?_); exact N 0 Z ⟨CG,v3,(bQ (i1 + 1)),Z,Z,Z,hf⟩
    refine B1 hf fun x8 h18 hf=>Wr 2 [0] Z Z (CL Z (qV _ h18 (AS Z (AO.bn (List.map iW ([x8]:List Str)) Z tY Z Z Z Z ?_)))); refine B1 hf fun CB h19 hf=>AS Z (AO.mg (i:=1) (l:=jM) (m:=([x8]:List Str)) h19 Z Z Z Z Z Z Z tY eO Z Z Z (fun _=>Z) (fun _=>Z) (by decide) (fun v4 s2 hs2=>?_)); cases hs2; refine dB 3 Z (AR.drop1 ?_); exact N 0 Z ⟨CB,v4,(bQ (i1 + 1)),Z,Z,Z,hf⟩
   refine B1 hf fun s3 h20 hf=>W 1 Z (CL Z (vR _ _ h20 (J 4 Z (C hf Z (fun h21 hf=>?_) fun h21 hf=>?_))))
   · refine B1 hf fun x9 h22 hf=>W 1 Z (AS Z (AO.cB h22 Z Z Z ?_)); refine BR hf fun NU h23 hf=>?_; refine AS Z (AO.cB h23 Z Z Z ?_); cases hf; exact N 1 Z (Y Z h)
   refine B1 hf fun Cu C_ hf=>W 1 Z (AS Z (AO.cB C_ Z Z Z ?_)); refine BR hf fun Qa FV hf=>?_; refine AS Z (AO.cB FV Z Z Z ?_); cases hf; exact N 1 Z (Y Z h)
  cases h7.symm.trans h8
 refine V 2 Z (C hf Z (fun PE hf=>?_) fun PE hf=>?_)
 ·
  refine W 3 Z (AS Z (AO.aM (l:=v1.aW) Z Z Z Z jC Z (aj.aC _) (J 1 Z (AW.row 1 9 (V3 (fun w_ v5 i2=>[(1,.ref (aT v1)),(3,.own v5 (List.map iW w_)),(28,.list (aj.bL v1.aW)),(29,iP (v1.aW.length:Int)),(30,iP i2)]) (fun w_ v5 i2=>[.row v5 (List.map iW w_).length 1 9]) (fun KA w_ v5 i2=>jT b_ v1 KA w_ i2=some r0) BIG [] (.slice none 0 0) 0 Z Z hf (fun _ _ _ hz=>aU hz) ?_))))); intro KA w_ v5 i2 hf; rw [jT] at hf; refine V 1 Z (C hf Z (fun h27 hf=>?_) fun h27 hf=>?_)
  ·
   refine B1 hf fun e3 Ic hf=>W 1 Z (AS Z (AO.aK Ic Z Z (aj.aC _) Z jC (aj.aF _) Z (U 1 Z (AS Z (AO.aH Z nA (fun aa2=>(Rw 5 [0] Z Z (AW.cond Z (fun NZ=>?_) (fun NZ=>?_)))))))))
   ·
    refine AW.draw 12 mixed (by kernel_rfl) Z ?_; refine Ev.cs aR 4 Z ?_; refine B1 hf fun e4 OD hf=>Ev.cons Z Z Z (AO.aK OD Z Z Z Z eO Z Z zg) (Ev.cs aR 1 Z ?_); refine B1 hf fun N9 h31 hf=>Ev.cons Z Z Z (AO.call Z _ Z Z Sn (xq _ h31 zg)) ?_; refine B1 hf fun Mq h32 hf=>Ev.cons Z Z Z (AO.cB h32 Z Z Z zg) (Ev.cons Z Z Z (AO.bV (i:=0) Z Z Z xE Z Z zg) ?_); refine B1 hf fun Rf Ib hf=>Ev.cons Z Z Z (AO.call Z _ Z Z SB (qV _ Ib zg)) ?_; refine B1 hf fun Kc JE hf=>Ev.cons Z Z Z (AO.cB JE Z Z Z zg) (Ev.cons Z Z Z (AO.bn (List.map iW ([Kc]:List Str)) Z tY Z Z Z Z zg) (Ev.nil ?_)); show AR _ _ _ _ _ _ _ _; refine B1 hf fun Oo NY hf=>AS Z (AO.mg (i:=1) (l:=w_) (m:=([Kc]:List Str)) NY Z Z Z Z Z Z Z tY eO Z Z Z (fun _=>Z) (fun _=>Z) (by decide) (fun v6 s4 hs4=>?_)); cases hs4; refine dB 3 Z (AR.drop1 ?_); exact N 0 Z ⟨Oo,v6,(bQ (i2 + 1)),Z,Z,Z,hf⟩
   cases PE.symm.trans NZ
  refine B1 hf fun s5 Lj hf=>W 1 Z (CL Z (vR _ _ Lj (J 4 Z (AW.cond Z (fun h37=>?_) (fun h37=>?_)))))
  · refine B1 hf fun Mg NW hf=>W 1 Z (AS Z (AO.cB NW Z Z Z ?_)); refine BR hf fun V7 Fe hf=>?_; refine AS Z (AO.cB Fe Z Z Z ?_); cases hf; exact N 1 Z (Y Z h)
  cases PE.symm.trans h37
 cases hf; exact M 1 Z (Y Z h)
theorem FR :∀ k:Nat,(zH (dF k)):=by
 intro k
 induction k with
 | zero=>exact fun _ _ hz=>by first | cases hz | (unfold dF at hz; cases hz)
 | succ k ih=>exact fun o8 aL hz τ Q hq=>FC (dF k) ih o8 hz hq
theorem zA (o8:aj) {aL:Str} (hf:r_ o8=some aL) (h:Q (.ret (.str aL)) τ):PC 128 [.agg (aT o8)] τ Q:=
 ((FR BIG)) o8 hf h
end
section
variable [zL]
theorem LU (v1:aj) {r0:Str} {r1:Int} (hf:Cx v1=some (r0,r1)) (h:Q (.ret (.tuple [.str r0,iP r1])) τ):PC 77 [.agg (aT v1)] τ Q:=by
 unfold Cx at hf; refine BN 28 [.tmp 2,.tmp 3] [0] Tryz.func77 Z Z Z Z Z (W 7 Z (On 4 8 12 [1] (v1.kind == 5) Z Z Z Z (J 0 Z (C hf Z (fun h2 hf=>?_) fun h2 hf=>?_))))
 · cases hf; exact M 2 Z (Y Z h)
 refine B1 hf fun e1 h3 hf=>W 1 Z (CL Z (mQ _ h3 (J 3 Z (C hf Z (fun h4 hf=>?_) fun h4 hf=>?_))))
 · cases hf; exact M 3 Z (Y Z h)
 refine V 4 Z (C hf Z (fun h5 hf=>?_) fun h5 hf=>?_)
 · cases hf; exact M 2 Z (Y Z h)
 refine V 2 Z (C hf Z (fun h6 hf=>?_) fun h6 hf=>?_)
 · cases hf; exact M 4 Z (Y Z h)
 refine B1 hf fun x1 h7 hf=>W 1 Z (CL Z (zA _ h7 ?_)); cases hf; exact N 2 Z (Y Z h)
end
section
variable [zL]
theorem D5 (p1:aB) (dK:List bO) {r0:Str} {r1:Int} (hf:tK p1 dK=some (r0,r1)) (h:Q (.ret (.tuple [.str r0,iP r1])) τ):PC 42 [.agg (QG p1),.list (List.map bO.cells dK)] τ Q:=by
 unfold tK at hf; refine BN 27 [.tmp 4,.tmp 5] [0,1] Tryz.func42 Z Z Z Z Z (V 6 Z (C hf Z (fun h1 hf=>?_) fun h1 hf=>?_))
 · cases hf; exact M 4 Z (Y Z h)
 obtain ⟨x1,ko,h2,hf⟩:=cu hf; refine W 3 Z (CL Z (NK _ _ h2 (U 3 Z (AS Z (AO.aH Z nA (fun b6=>(Rw 4 [0] Z Z (C hf Z (fun h3 hf=>?_) fun h3 hf=>?_))))))))
 · cases hf; exact M 3 Z (Y Z h)
 replace hf:=(BJ _).trans hf; obtain ⟨x2,x3,h4,hf⟩:=cu hf; refine Wr 1 [0] Z Z (CL Z (LU _ h4 ?_)); cases hf; exact N 4 Z (Y Z h)
end
section
variable [zL]
theorem F8 (s1:Str) (dK:List bO) {r0:Str} {r1:Int} (hf:xk s1 dK=some (r0,r1)) (h:Q (.ret (.tuple [.str r0,iP r1])) τ):PC 17 [.str s1,.list (List.map bO.cells dK)] τ Q:=by
 unfold xk at hf; refine BN 50 [.tmp 4,.tmp 5] [0,1] Tryz.func17 Z Z Z Z Z ?_; obtain ⟨ps1,x1,ko,h1,hf⟩:=jY hf; refine W 3 Z (CL Z (nQ _ h1 (J 9 Z (C hf Z (fun h2 hf=>?_) fun h2 hf=>?_))))
 · cases hf; exact M 3 Z (Y Z h)
 refine B1 hf fun vM h3 hf=>W 1 Z (CL Z (I9 _ h3 (J 3 Z (C hf Z (fun h4 hf=>?_) fun h4 hf=>?_))))
 · cases hf; exact M 3 Z (Y Z h)
 refine W 0 Z (AS Z (AO.BL (eu:=5) Z O7 Z (fun b10=>(U 1 Z (AS Z (AO.aM (l:=ps1) Z Z Z Z oo Z Z (J 1 Z (V3 (fun x2 b1 v1=>[(1,.list (List.map bO.cells dK)),(10,pP b10),(29,.list (List.map aB.cells ps1)),(30,iP (ps1.length:Int)),(31,iP x2)]) (fun x2 b1 v1=>[.Da b10 v1 72 5 b1]) (fun bP x2 b1 v1=>nY dK ps1 bP x2 b1=some (r0,r1)) BIG 0 [] (.slice none 0 0) Z Z hf (fun _ _ _ hz=>aU hz) ?_)))))))); intro bP x2 b1 v1 hf; rw [nY] at hf; refine V 1 Z (C hf Z (fun h5 hf=>?_) fun h5 hf=>?_)
 ·
  refine B1 hf fun e1 h6 hf=>W 0 Z (AS Z (AO.aK h6 Z Z Z Z oo (aB.aF _) Z (U 1 Z (AS Z (AO.aH Z Mk (fun b12=>?_)))))); obtain ⟨t1,PS,h7,hf⟩:=cu hf; refine Rr 3 [0,0] Z Z (CL Z (D5 _ _ h7 (J 7 Z (C hf Z (fun h8 hf=>?_) fun h8 hf=>?_))))
  · cases hf; exact M 3 Z (Y Z h)
  refine B1 hf fun b2 h9 hf=>W 1 Z (CL Z (AC.one 1 Z (eT h9 (fun v2=>⟨_,Z,(dB 2 Z (AR.drop1 ?_))⟩)))); exact N 0 Z ⟨(bQ (x2 + 1)),b2,v2,Z,Z,Z,hf⟩
 refine W 0 Z (CL Z (AC.one 0 Z (Q8 ⟨_,Z,(J 1 Z (C hf Z (fun h10 hf=>?_) fun h10 hf=>?_))⟩)))
 · cases hf; exact M 2 Z (Y Z h)
 refine W 0 Z (CL Z (AC.Gh 0 Z (uK ?_))); cases hf; exact N 2 Z (Y Z h)
end
theorem rC {β:Type} (l:Nat) (T:β→List aJ→Prop) (y:β→ah→Option (Bool × β)) (hy:∀ s x1 b s2 τ,y s x1=some (b,s2)→T s τ→AY Tryz.prog l [.agg (aQ x1)] τ (fun out σ'=>out=.ret (.bool b)∧T s2 σ'))
  (ps1:List aB) {s1 s2:β} (hf:l5 y s1 ps1=some s2) {τ:List aJ} (hT:T s1 τ) {Q:cK→List aJ→Prop} (h:∀ τ',T s2 τ'→Q (.ret (.tuple [])) τ'):
  PC 80 [.val (.func (.yield l) #[] #[]),.ref [.list (List.map aB.cells ps1)]] τ Q:=by
 unfold l5 at hf; refine AC.lZ 21 [] [0,1] Tryz.func80 Z Z Z Z Z (AW.sr (AR.step Z Z Z (AO.xS Z Z GL Z (AR.step Z Z Z (AO.aM (l:=ps1) Z Z Z Z oo Z Z ?_))))); refine cs 1 Z (AR.nil [0,5,6,7] Z (AW.block (AW.S_ (fun (s:β) (τ0:List aJ) (i1:Int)=>[(0,.val (.func (.yield l) #[] #[])),(5,.list (List.map aB.cells ps1)),(6,iP (ps1.length:Int)),(7,iP i1)]) (fun s τ0 i1=>τ0) (fun bP s τ0 i1=>iZ y ps1 bP s i1=some s2∧T s τ0) BIG s1 τ 0 Z Z ⟨hf,hT⟩ (fun _ _ _ hz=>aU hz.1) ?_))); intro bP s3 τ3 i1 Z0; obtain ⟨hf,hT⟩:=Z0; rw [iZ] at hf; refine AW.sr (cs 1 Z (AR.nil [0,5,6,7,8] Z (AW.seq ?_))); refine AW.cond Z (fun h1=>?_) (fun h1=>?_)
 ·
  replace hf:=kg h1 hf; refine AW.skip (AW.seq (AW.block (AW.sr ?_))); refine B1 hf fun p1 h2 hf=>?_; refine AR.step Z Z Z (AO.aK h2 Z Z Z Z oo (aB.aF _) Z (cs 1 Z (AR.step Z Z Z (AO.aH Z Mk (fun b4=>(AR.bD Z Z (AO.bY (i:=0) Z Z Z Yd Z Z Z Z Z ?_))))))); refine AR.nil [0,4,5,6,7] Z (AW.seq (AW.Po (yj.step Z Z Z Z (AO.bK Z Z U7 ?_)))); refine yj.step Z Z Z Z (AO.bV (i:=0) Z Z Z Zw Z Z (yj.step Z Z Z Z (AO.calc' Z ?_))); cases hp:p1.Oz with
  | false=>
   replace hf:=jH hp hf; refine yj.of Z (cs 6 Z (AR.drop1 (AR.nil [0,5,6,7,19] Z ?_))); refine AW.cond Z (fun hh=>by cases hh) (fun _=>?_); refine AW.skip (AW.region (cs 2 Z (AR.nil [0,5,6,7] Z ?_))); exact ⟨s3,τ3,(bQ (i1 + 1)),Z,Z,Z,hf,hT⟩
  | true=>
   replace hf:=kg hp hf; obtain ⟨b1,s4,h3,hf⟩:=cu hf; refine yj.run Z Z Z Z (yj.step Z Z Z Z (AO.calc' Z (yj.run Z Z Z Z (yj.step Z Z Z Z (AO.bK Z Z U6 ?_))))); refine yj.run Z Z Z Z (yj.step Z Z Z Z (AO.bV (i:=0) Z Z Z jF Z Z (yj.drop1 (yj.run Z Z Z Z ?_)))); refine yj.V6 Z Z Z Z Z _ Z Z (hy _ _ _ _ _ h3 hT) fun τ4 hT4=>(yj.of Z (cs 2 Z (AR.nil [0,5,6,7,19] Z ?_))); refine AW.cond Z (fun h5=>?_) (fun h5=>?_)
   ·
    cases kg h5 hf; refine AW.ret ?_; exact ⟨rfl,_,rfl,_,List.Sublist.refl _,h _ hT4⟩
   ·
    replace hf:=jH h5 hf; refine AW.skip (AW.region (cs 2 Z (AR.nil [0,5,6,7] Z ?_))); exact ⟨s4,τ4,(bQ (i1 + 1)),Z,Z,Z,hf,hT4⟩
 ·
  cases jH h1 hf; refine AW.exit ?_; exact ⟨rfl,_,rfl,_,List.Sublist.refl _,h _ hT⟩
theorem tq (ps1:List aB) (h:Q (.ret (.fn 80 [.ref [.list (List.map aB.cells ps1)]])) τ):PC 46 [.list (List.map aB.cells ps1)] τ Q:=by
 refine BN 4 [.tmp 2] [0] Tryz.func46 Z Z Z Z Z ?_; exact M 4 Z (Y Z h)
def Qk :Go.Shelf.Ren:=⟨fun | 6=>135 | 15=>216 | 14=>215 | 28=>296 | 29=>297 | 20=>288 | 21=>289 | 22=>290 | 23=>291 | 24=>292 | 25=>293 | 26=>294 | 27=>295 | 46=>339 | 47=>340 | 48=>341 | 49=>342 | 50=>343 | 57=>380 | n=>n,fun | 22=>32 | 24=>9 | 25=>132 | 3=>3 | 39=>218 | 0=>0 | 53=>269 | 55=>271 | 4=>4 | 46=>263 | 45=>262 | 50=>239 | 5=>5 | 9=>9 | 66=>287 | 70=>291 | 76=>318 | 77=>319 | n=>n,fun | n=>n⟩
theorem Yf :Go.Proofs.SlLaysF.n6 Tryz.prog Qk:={
 mixed:=by kernel_rfl
 f6:=⟨Tryz.f135.name,by decide,Tryz.func135.trans (congrArg some (by kernel_rfl))⟩
 f14:=⟨Tryz.f215.name,by decide,Tryz.func215.trans (congrArg some (by kernel_rfl))⟩
 f15:=Tryz.func216.trans (congrArg some (by kernel_rfl))
 f20:=⟨Tryz.f288.name,by decide,Tryz.func288.trans (congrArg some (by kernel_rfl))⟩
 f21:=⟨Tryz.f289.name,by decide,Tryz.func289.trans (congrArg some (by kernel_rfl))⟩
 f22:=⟨Tryz.f290.name,by decide,Tryz.func290.trans (congrArg some (by kernel_rfl))⟩
 f23:=⟨Tryz.f291.name,by decide,Tryz.func291.trans (congrArg some (by kernel_rfl))⟩
 f24:=⟨Tryz.f292.name,by decide,Tryz.func292.trans (congrArg some (by kernel_rfl))⟩
 f25:=⟨Tryz.f293.name,by decide,Tryz.func293.trans (congrArg some (by kernel_rfl))⟩
 f26:=⟨Tryz.f294.name,by decide,Tryz.func294.trans (congrArg some (by kernel_rfl))⟩
 f27:=⟨Tryz.f295.name,by decide,Tryz.func295.trans (congrArg some (by kernel_rfl))⟩
 f28:=Tryz.func296.trans (congrArg some (by kernel_rfl))
 f29:=Tryz.func297.trans (congrArg some (by kernel_rfl))
 f46:=⟨Tryz.f339.name,by decide,Tryz.func339.trans (congrArg some (by kernel_rfl))⟩
 f47:=Tryz.func340.trans (congrArg some (by kernel_rfl))
 f48:=Tryz.func341.trans (congrArg some (by kernel_rfl))
 f49:=⟨Tryz.f342.name,by decide,Tryz.func342.trans (congrArg some (by kernel_rfl))⟩
 f50:=⟨Tryz.f343.name,by decide,Tryz.func343.trans (congrArg some (by kernel_rfl))⟩
 f57:=⟨Tryz.f380.name,by decide,Tryz.func380.trans (congrArg some (by kernel_rfl))⟩
 t0:=Tryz.underlying0
 a0:=Tryz.isAgg0
 z0:=Tryz.sizeOf0
 v0:=Tryz.zeroValue0
 t3:=Tryz.underlying3
 a3:=Tryz.isAgg3
 z3:=Tryz.sizeOf3
 v3:=Tryz.zeroValue3
 t4:=Tryz.underlying4
 a4:=Tryz.isAgg4
 z4:=Tryz.sizeOf4
 v4:=Tryz.zeroValue4
 t5:=Tryz.underlying5
 a5:=Tryz.isAgg5
 z5:=Tryz.sizeOf5
 v5:=Tryz.zeroValue5
 t9:=Tryz.underlying9
 a9:=Tryz.isAgg9
 z9:=Tryz.sizeOf9
 v9:=Tryz.zeroValue9
 t22:=Tryz.underlying32
 a22:=Tryz.isAgg32
 z22:=Tryz.sizeOf32
 v22:=Tryz.zeroValue32
 a24:=Tryz.isAgg9
 z24:=Tryz.sizeOf9
 t25:=Tryz.underlying132
 a25:=Tryz.isAgg132
 z25:=Tryz.sizeOf132
 v25:=Tryz.zeroValue132
 t39:=Tryz.underlying218
 a39:=Tryz.isAgg218
 z39:=Tryz.sizeOf218
 v39:=Tryz.zeroValue218
 t45:=Tryz.underlying262
 a45:=Tryz.isAgg262
 z45:=Tryz.sizeOf262
 v45:=Tryz.zeroValue262
 t46:=Tryz.underlying263
 a46:=Tryz.isAgg263
 z46:=Tryz.sizeOf263
 v46:=Tryz.zeroValue263
 t50:=Tryz.underlying239
 a50:=Tryz.isAgg239
 z50:=Tryz.sizeOf239
 v50:=Tryz.zeroValue239
 t53:=Tryz.underlying269
 a53:=Tryz.isAgg269
 z53:=Tryz.sizeOf269
 v53:=Tryz.zeroValue269
 t55:=Tryz.underlying271
 a55:=Tryz.isAgg271
 z55:=Tryz.sizeOf271
 v55:=Tryz.zeroValue271
 t66:=Tryz.underlying287
 a66:=Tryz.isAgg287
 z66:=Tryz.sizeOf287
 v66:=Tryz.zeroValue287
 t70:=Tryz.underlying291
 a70:=Tryz.isAgg291
 z70:=Tryz.sizeOf291
 v70:=Tryz.zeroValue291
 t76:=Tryz.underlying318
 a76:=Tryz.isAgg318
 z76:=Tryz.sizeOf318
 v76:=Tryz.zeroValue318
 t77:=Tryz.underlying319
 a77:=Tryz.isAgg319
 z77:=Tryz.sizeOf319
 v77:=Tryz.zeroValue319}
def LJ :Go.Shelf.Ren:=⟨fun | 194=>138 | n=>n,fun | 31=>32 | 9=>9 | 3=>3 | 4=>4 | 0=>0 | n=>n,fun | n=>n⟩
theorem TD :Go.Proofs.Lays.n194 Tryz.prog LJ:={
 mixed:=by kernel_rfl
 f194:=Tryz.func138.trans (congrArg some (by kernel_rfl))
 t0:=Tryz.underlying0
 a0:=Tryz.isAgg0
 z0:=Tryz.sizeOf0
 v0:=Tryz.zeroValue0
 t3:=Tryz.underlying3
 a3:=Tryz.isAgg3
 z3:=Tryz.sizeOf3
 v3:=Tryz.zeroValue3
 t4:=Tryz.underlying4
 a4:=Tryz.isAgg4
 z4:=Tryz.sizeOf4
 v4:=Tryz.zeroValue4
 t9:=Tryz.underlying9
 a9:=Tryz.isAgg9
 z9:=Tryz.sizeOf9
 v9:=Tryz.zeroValue9
 t31:=Tryz.underlying32
 a31:=Tryz.isAgg32
 z31:=Tryz.sizeOf32
 v31:=Tryz.zeroValue32}
theorem Ef :∀ l:List Str,(List.map iW l).flatten=l.map PV.str
 | []=>Z
 | s :: l=>congrArg (PV.str s :: ·) (Ef l)
theorem EJ (l:List Str) (hl:l.length≤zl) {Q:cK→List aJ→Prop} (h:∀ v,Q (.ret (.val v)) [.buf v l.length 1 9 (l.map PV.str)]):PC 134 [sP l] [] Q:=by
 refine AC.lZ 8 [.tmp 2] [0] Tryz.func134 Z Z Z Z Z (AW.sr (AR.step Z Z Z (AO.jy Z Z (AR.nil [0] Z ?_)))); refine AW.seq (AW.sr (cs 1 Z (AR.step Z Z Z (AO.LA Z Z Yc (fun b hb=>?_))))); refine AR.nil [0,4] Z (AW.cond Z (fun h1=>?_) (fun h1=>?_))
 · obtain rfl:l=[]:=List.map_eq_nil_iff.1 (hb h1); refine AW.sr (AR.step Z Z Z (AO.Gg Z Z (AR.nil [2] Z (AW.Zb 1 9 ?_)))); refine AW.ret ?_; exact ⟨rfl,_,⟨_,_,rfl,rfl,rfl⟩,_,List.Sublist.refl _,h _⟩
 refine AW.skip (AW.sr (AR.step Z Z Z (AO.Ga [] Z tY Z Z Z Z Z (fun v1=>(cs 1 Z ?_))))); refine AR.step Z Z Z (AO.O0 (i:=0) (l2:=List.map iW l) Z Z Z Z Z Z Z tY eO (fun y hy=>?_) (fun y hy=>?_) ?_ ?_ (fun v2 s1 hs1=>?_))
 · obtain ⟨s,_,rfl⟩:=List.mem_map.1 hy; rfl
 · obtain ⟨s,_,rfl⟩:=List.mem_map.1 hy; rfl
 · rw [List.length_map]; unfold zl at hl; unfold maxLen; omega
 · rw [List.length_map]; unfold zl at hl; omega
 cases hs1; refine cs 1 Z (AR.nil [2] Z (AW.ret ?_)); have hv:=h v2; rw [←Ef,show l.length=(List.map iW l).length from (List.length_map _).symm] at hv; exact ⟨rfl,_,⟨_,_,rfl,rfl,rfl⟩,_,List.Sublist.refl _,hv⟩
theorem F4 (l:List Str) {Q:cK→List aJ→Prop} (h:Q (.ret (sP l)) []):PC 137 [sP l] [] Q:=by
 refine BD 9 [.tmp 2] [0] Tryz.func137 Z Z Z Z Z (W 0 Z (AS Z (AO.jy Z Z (U 2 Z (AS Z (AO.aM (l:=l) Z Z Z Z eO Z Z (U 1 Z (AS Z (AO.aM (l:=l) Z Z Z Z eO Z Z ?_))))))))); refine AS Z (AO.clip (l:=List.map iW l) Z eO Z (by rw [List.length_map]; rfl) (by rw [List.length_map]; rfl) ?_); exact N 1 rfl ⟨rfl,_,⟨_,_,rfl,rfl,rfl⟩,_,List.Sublist.refl _,h⟩
theorem SS :Go.Sort.SWO (Go.Proofs.ltOf fun a b:pG=>iX a.1 b.1) where
 irrefl:=fun x=>by simp [Go.Proofs.ltOf,M5]
 trans:=fun x y z h1 h2=>by
  simp only [Go.Proofs.ltOf,decide_eq_true_eq] at *; exact Dw h1 h2
 ntrans:=fun x y z h1 h2=>by
  simp only [Go.Proofs.ltOf,decide_eq_false_iff_not] at *; exact Ju h1 h2
theorem I6 (Am:List Str) {r0:List Str} (hf:yQ Am=some r0) (h:Q (.ret (sP r0)) τ):PC 82 [sP Am] τ Q:=by
 unfold yQ at hf; split at hf
 case isFalse=>cases hf
 rename_i hg; simp only [Bool.and_eq_true,List.all_eq_true,decide_eq_true_eq] at hg; obtain ⟨hg1,hg2⟩:=hg; cases hf; refine AC.none (AC.lZ 11 [.tmp 2] [0] Tryz.func82 Z Z Z Z Z (AW.sr (AR.step Z Z Z (AO.jy Z Z ?_)))); refine AR.nil [0] Z (AW.sr (cs 1 Z (AR.step Z Z Z (AO.call Z _ Z Z WZ (EJ Am hg2 fun v=>?_))))); refine cs 1 Z (AR.nil [3] Z (AW.sr (cs 1 Z ?_))); refine AR.step Z Z Z (AO.call Z _ Z Z WY (AC.R3 Yf Sz (cf:=iX) (fun a b ha hb=>by letI:d9:=PG; exact zC a b (QA ha hb) Z) SS (fun x y h1 h2=>Ak (by have:=yH x.1 y.1; omega)) hg1 (by unfold zl at hg2; omega) ?_)); refine AR.nil [3] Z (AW.sr (cs 1 Z (AR.step Z Z Z (AO.call Z _ Z Z WW (AC.TB TD (by rw [List.length_mergeSort]; unfold zl at hg2; omega) fun v2=>?_))))); refine AR.freeze 9 0 (List.map iW (SQ Am)) rfl rfl (Ef _) (fun x hx=>by obtain ⟨s,_,rfl⟩:=List.mem_map.1 hx; rfl) (List.length_map _) ?_; refine AR.step Z Z Z (AO.call Z _ Z Z WX (AC.none (F4 _ (cs 1 Z (AR.nil [2] Z (AW.ret ?_)))))); exact ⟨rfl,_,⟨_,_,rfl,rfl,rfl⟩,[],List.nil_sublist _,h⟩
theorem FE (bo bv:Nat) (go:ah→List Str→Option (List Str)) (hgo:∀ (e1:ah) (dw:List Str) {r0:List Str},go e1 dw=some r0→∀ {v1:Value} {Q:cK→List aJ→Prop},(∀ vr,Q (.ret (.tuple [])) [.row vr (List.map iW r0).length 1 9,.box bo [.own vr (List.map iW r0)],.box bv [.fn 81 [pP bo,pP bv]]])→PC 81 [.agg (aQ e1),pP bo,pP bv] [.row v1 (List.map iW dw).length 1 9,.box bo [.own v1 (List.map iW dw)],.box bv [.fn 81 [pP bo,pP bv]]] Q)
  (e1:ah) (dw:List Str) {r0:List Str} (hf:tO go e1 dw=some r0) {v1:Value} {Q:cK→List aJ→Prop} (h:∀ vr,Q (.ret (.tuple [])) [.row vr (List.map iW r0).length 1 9,.box bo [.own vr (List.map iW r0)],.box bv [.fn 81 [pP bo,pP bv]]]):PC 81 [.agg (aQ e1),pP bo,pP bv] [.row v1 (List.map iW dw).length 1 9,.box bo [.own v1 (List.map iW dw)],.box bv [.fn 81 [pP bo,pP bv]]] Q:=by
 unfold tO at hf; refine AC.lZ 25 [] [0,1,2] Tryz.func81 Z Z Z Z Z (AW.sr (AR.step Z Z Z (AO.BI Z Z Z (AR.nil [1,2,3] Z ?_)))); refine AW.seq (AW.Y9 (fun (l:List Str) (v:Value)=>[(1,pP bo),(2,pP bv),(3,.ref (aQ e1))]) (fun l v=>[.row v (List.map iW l).length 1 9,.box bo [.own v (List.map iW l)],.box bv [.fn 81 [pP bo,pP bv]]]) (fun l v=>jW go e1 BIG l 0=some r0) ?_ ?_)
 ·
  refine AW.sr (cs 3 Z (AR.nil [1,2,3,8] Z (AW.cond Z (fun h1=>?_) (fun h1=>?_))))
  ·
   replace hf:=kg h1 hf; refine AW.region (AR.step Z Z Z (AO.bV (i:=1) Z Z Z Vx Z Z (cs 2 Z (AR.step Z Z Z (AO.bn (List.map iW ([e1.name]:List Str)) Z tY Z Z Z Z ?_))))); refine B1 hf fun yG h2 hf=>AR.step Z Z Z (AO.mg (i:=0) (l:=dw) (m:=[e1.name]) h2 Z Z Z Z Z Z Z tY eO Z Z Z (fun _=>Z) (fun _=>Z) (by decide) (fun v2 s1 hs1=>?_)); cases hs1; refine AR.bD Z Z (AO.bY (i:=1) Z Z Z Vx Z Z Z Z Z (AR.nil [1,2,3] Z ?_)); exact ⟨yG,v2,Z,Z,Z,hf⟩
  replace hf:=jH h1 hf; refine AW.settle [1,2,3] Z (AW.skip ?_); exact ⟨dw,v1,Z,Z,Z,hf⟩
 intro yG v2 hf; refine AW.sr (cs 2 Z (AR.step Z Z Z (AO.aM (l:=e1.args) Z Z Z Z dQ Z (ah.aC _) (cs 1 Z ?_)))); refine AR.nil [1,2,15,16,17] Z (AW.block (AW.settle [1,2,15,16,17] Z (AW.S_ (fun (l:List Str) (v:Value) (i1:Int)=>[(1,pP bo),(2,pP bv),(15,.list (ah.bL e1.args)),(16,iP (e1.args.length:Int)),(17,iP i1)]) (fun l v i1=>[.row v (List.map iW l).length 1 9,.box bo [.own v (List.map iW l)],.box bv [.fn 81 [pP bo,pP bv]]]) (fun bP l v i1=>jW go e1 bP l i1=some r0) BIG yG v2 0 Z Z hf (fun _ _ _ hz=>aU hz) ?_))); intro bP UE v3 i1 hf; rw [jW] at hf; refine AW.sr (cs 1 Z (AR.nil [1,2,15,16,17,18] Z (AW.seq ?_))); refine AW.cond Z (fun h1=>?_) (fun h1=>?_)
 ·
  replace hf:=kg h1 hf; refine AW.skip (AW.seq (AW.block (AW.sr ?_))); refine B1 hf fun a1 h2 hf=>AR.step Z Z Z (AO.aK h2 Z Z (ah.aC _) Z dQ (ah.aF _) Z (cs 1 Z (AR.step Z Z Z (AO.aH Z j_ (fun b5=>(AR.bD Z Z (AO.bY (i:=0) Z Z Z jF Z Z Z Z Z ?_))))))); refine AR.nil [1,2,5,15,16,17] Z (AW.region (AR.step Z Z Z (AO.bV (i:=3) Z Z Z V_ Z Z (AR.step Z Z Z (AO.bV (i:=0) Z Z Z jF Z Z ?_))))); refine AR.drop1 ?_; refine B1 hf fun SF h3 hf=>AR.step Z Z Z (AO.call Z _ Z Z Yr (hgo _ _ h3 fun v4=>(AR.nil [1,2,15,16,17] Z (AW.region (cs 2 Z ?_))))); refine AR.nil [1,2,15,16,17] Z ?_; exact ⟨SF,v4,(bQ (i1 + 1)),Z,Z,Z,hf⟩
 replace hf:=jH h1 hf; refine AW.exit ?_; cases hf; exact ⟨rfl,_,rfl,_,List.Sublist.refl _,h v3⟩
theorem zq (bo bv:Nat):∀ (k:Nat) (e1:ah) (dw:List Str) {r0:List Str},pz k e1 dw=some r0→∀ {v1:Value} {Q:cK→List aJ→Prop},(∀ vr,Q (.ret (.tuple [])) [.row vr (List.map iW r0).length 1 9,.box bo [.own vr (List.map iW r0)],.box bv [.fn 81 [pP bo,pP bv]]])→PC 81 [.agg (aQ e1),pP bo,pP bv] [.row v1 (List.map iW dw).length 1 9,.box bo [.own v1 (List.map iW dw)],.box bv [.fn 81 [pP bo,pP bv]]] Q
 | 0,_,_,_,hz=>aU hz
 | k + 1,e1,dw,r0,hz=>by
  intro h; exact FE bo bv (pz k) (fun e1 dw r0 hz=>zq bo bv k e1 dw hz) e1 dw hz h
theorem J9 (e1:ah) {r0:List Str} (hf:AL e1=some r0) (h:Q (.ret (sP r0)) τ):PC 47 [.agg (aQ e1)] τ Q:=by
 unfold AL at hf; refine BN 11 [.tmp 2] [0] Tryz.func47 Z Z Z Z Z (W 1 Z (AS Z (AO.jy Z Z (U 0 Z (AR.row 1 9 (AS Z (AO.aH Z X_ (fun bo=>(U 0 Z (AS Z (AO.aH Z V5 (fun bv=>?_)))))))))))); refine B1 hf fun dw h1 hf=>Rr 4 [0,0] Z Z (CL Z (AC.perm ((List.Perm.swap _ _ _).trans ((List.Perm.cons _ (List.Perm.swap _ _ _)).trans (List.Perm.swap _ _ _))) (zq bo bv BIG e1 [] h1 fun v1=>(Rr 1 [1] Z Z (CL Z (I6 _ hf ?_)))))); exact N 1 Z (Y Z h)
section
variable [zL]
theorem I5 (s1:Str) {r0:List Str} {r1:Int} (hf:yP s1=some (r0,r1)) (h:Q (.ret (.tuple [sP r0,iP r1])) τ):PC 19 [.str s1] τ Q:=by
 unfold yP at hf; refine AC.none (AC.Ho 32 [.tmp 2,.tmp 3] [0] Tryz.func19 Z Z Z Z Z (AW.sr (cs 2 Z ?_))); refine AR.nil [0] Z (AW.sr (cs 1 Z ?_)); obtain ⟨ps1,ig,ko,h1,hf⟩:=jY hf; refine AR.step Z Z Z (AO.call Z _ Z Z VL (nQ _ h1 (cs 7 Z (AR.nil [0,4,6] Z (AW.seq ?_))))); refine AW.sr (cs 2 Z (AR.nil [0,4,6,16] Z (AW.cond Z (fun h2=>?_) (fun h2=>?_))))
 ·
  cases kg h2 hf; refine AW.sr (cs 1 Z (AR.step Z Z Z (AO.jy Z Z (cs 1 Z ?_)))); refine AR.nil [2,3] Z (AW.ret ?_); exact .inl ⟨rfl,_,⟨_,_,rfl,rfl,_,_,rfl,rfl,rfl⟩,[],List.nil_sublist _,h⟩
 replace hf:=jH h2 hf; refine B1 hf fun a1 h3 hf=>?_; refine B1 hf fun x1 h4 hf=>?_; cases hf; refine AW.skip (AW.sr (AR.step Z Z Z (AO.build Z j_ Oj Z (AR.step Z Z Z (AO.aH Z j_ (fun b7=>?_)))))); refine AR.bD Z Z (AO.bY (i:=0) Z Z Z jF Z Z Z Z Z (AR.nil [4,7] Z (AW.Xz 0 [iP 9,.str ([]:Str),iP 0,.bool false,iP 0,.str ([]:Str),.own (.slice none 0 0) [],.own (.slice none 0 0) [],.val (.slice none 0 0),.own (.slice none 0 0) []] Z (fun w m vs hv=>aN.Gg 8 _ vs Z hv) (AW.Zb 10 37 ?_)))); refine AW.seq (AW.sr (cs 1 Z (AR.step Z Z Z (AO.call Z _ Z Z VG (tq _ ?_))))); refine AR.nil [7,20] Z (AW.block ?_); refine AW.G8 (β:=List ah) (X:=ah) Z VD (fun x1=>[.agg (aQ x1)]) (fun _=>Z) (by decide) qQ (fun l τ=>∃ v,τ=[.buf v l.length 10 37 (List.flatMap ah.cells l),.box b7 [iP 9,.str ([]:Str),iP 0,.bool false,iP 0,.str ([]:Str),.own (.slice none 0 0) [],.own (.slice none 0 0) [],.val v,.own (.slice none 0 0) []]]) (fun _=>none) (s0:=[]) (s1:=a1) ⟨_,Z⟩ Z ?_ ?_ ?_
 ·
  intro l T' hy τ hT; refine rC l T' qQ hy ps1 h3 hT fun τ' hT'=>?_; exact ⟨⟨_,Z⟩,hT'⟩
 ·
  rintro l s x1 b s2 _ hh ⟨v0,rfl⟩; unfold qQ at hh; obtain ⟨a2,h5,hh⟩:=BK hh; cases hh; obtain ⟨U1,rfl⟩:=D6 h5; refine ⟨Z,(ny.region Z (AR.step Z Z Z (AO.aH Z j_ (fun b8=>(AR.bD Z Z (AO.bY (i:=0) Z Z Z jF Z Z Z Z Z ?_))))))⟩; refine AR.nil [7,8] Z (⟨Z,(ny.block (ny.drawn mixed Z ?_))⟩)
  refine AD.PL 0 10 [] [.box b8 (aQ x1),.buf v0 s.length 10 37 (List.flatMap ah.cells s),.box b7 [iP 9,.str ([]:Str),iP 0,.bool false,iP 0,.str ([]:Str),.own (.slice none 0 0) [],.own (.slice none 0 0) [],.val v0,.own (.slice none 0 0) []]] (fun S e σ=>∃ v2:Value,e.get 7=pP b7∧e.get 8=pP b8∧(S 0=true→e.get 22=.val (.pointer (some ⟨b7,8,none⟩)))∧(S 1=true→e.get 23=.val v0)∧(S 2=true→e.get 24=.agg (aQ x1))∧(S 3=true→e.get 25=iP (s.length:Int))∧(S 4=true→e.get 26=.list [[iP 0,.str ([]:Str),iP 0,.bool false,iP 0,.str ([]:Str),.list (aj.bL []),sP ([]),.list (ah.bL []),sP ([])]])
    ∧(S 5=true→e.get 27=.val v2)∧(S 6=true→e.get 28=.val (.pointer (some ⟨v2.blk,s.length * 10,none⟩)))∧(S 8=true→e.get 29=.val (.pointer (some ⟨b7,8,none⟩)))∧(S 6=true→S 5=true)∧(S 9=true→S 5=true)∧(S 7=true→S 5=true)∧(S 5=true→S 1=true∧S 3=true)
    ∧σ=[.box b8 (aQ x1),bif S 5 then .buf v2 (s.length + 1) 10 37 (List.flatMap ah.cells s ++ bif S 7 then (aQ x1) else [iP 0,.str ([]:Str),iP 0,.bool false,iP 0,.str ([]:Str),.list (aj.bL []),sP ([]),.list (ah.bL []),sP ([])]) else .buf v0 s.length 10 37 (List.flatMap ah.cells s),.box b7 (bif S 9 then [iP 9,.str ([]:Str),iP 0,.bool false,iP 0,.str ([]:Str),.own (.slice none 0 0) [],.own (.slice none 0 0) [],.val v2,.own (.slice none 0 0) []] else [iP 9,.str ([]:Str),iP 0,.bool false,iP 0,.str ([]:Str),.own (.slice none 0 0) [],.own (.slice none 0 0) [],.val v0,.own (.slice none 0 0) []])]) (by kernel_rfl) Z Z (List.Perm.refl _) ?_ ?_ ?_ ?_
  ·
   refine Ev.nil ?_; exact ⟨.nilIface,Z,Z,(fun h=>by cases h),(fun h=>by cases h),(fun h=>by cases h),(fun h=>by cases h),(fun h=>by cases h),(fun h=>by cases h),(fun h=>by cases h),(fun h=>by cases h),(fun h=>by cases h),(fun h=>by cases h),(fun h=>by cases h),(fun h=>by cases h),Z⟩
  ·
   rintro S S' e σ hS ⟨v2,p7,p8,q0,q1,q2,q3,q4,q5,q6,q8,g6,g9,g7,g5,qs⟩; have z:=fun i h1 h2=>(hS i h1 h2).symm; refine ⟨v2,p7,p8,?_,?_,?_,?_,?_,?_,?_,?_,?_,?_,?_,?_,?_⟩
   ·
    rw [z 0 (by decide) (by decide)]; exact q0
   ·
    rw [z 1 (by decide) (by decide)]; exact q1
   ·
    rw [z 2 (by decide) (by decide)]; exact q2
   ·
    rw [z 3 (by decide) (by decide)]; exact q3
   ·
    rw [z 4 (by decide) (by decide)]; exact q4
   ·
    rw [z 5 (by decide) (by decide)]; exact q5
   ·
    rw [z 6 (by decide) (by decide)]; exact q6
   ·
    rw [z 8 (by decide) (by decide)]; exact q8
   ·
    rw [z 6 (by decide) (by decide),z 5 (by decide) (by decide)]; exact g6
   ·
    rw [z 9 (by decide) (by decide),z 5 (by decide) (by decide)]; exact g9
   ·
    rw [z 7 (by decide) (by decide),z 5 (by decide) (by decide)]; exact g7
   ·
    rw [z 5 (by decide) (by decide),z 1 (by decide) (by decide),z 3 (by decide) (by decide)]; exact g5
   ·
    rw [z 5 (by decide) (by decide),z 7 (by decide) (by decide),z 9 (by decide) (by decide)]; exact qs
  ·
   rintro S e σ i o ⟨v2,p7,p8,q0,q1,q2,q3,q4,q5,q6,q8,g6,g9,g7,g5,rfl⟩ hi1 hi2 Mh hp ho; have hi:i=0∨i=1∨i=2∨i=3∨i=4∨i=5∨i=6∨i=7∨i=8∨i=9:=by omega
   rcases hi with rfl | rfl | rfl | rfl | rfl | rfl | rfl | rfl | rfl | rfl
   ·
    cases ho; refine ⟨Z,(fun t ht=>by cases ht; decide),AO.less (Less.add p7 Less.nil) (AO.bK Z Z PI ?_)⟩; exact ⟨v2,p7,p8,(fun _=>Z),q1,q2,q3,q4,q5,q6,q8,g6,g9,g7,g5,Z⟩
   ·
    cases ho; have s0:=hp 0 (any_beq.1 Z) (by decide); have n5:S 5=false:=Bool.eq_false_iff.2 fun h=>by rw [(g5 h).1] at Mh; cases Mh
    have n9:S 9=false:=Bool.eq_false_iff.2 fun h=>by rw [g9 h] at n5; cases n5
    rw [n9,n5]; refine ⟨Z,(fun t ht=>by cases ht; decide),AO.less (Less.add (q0 s0) Less.nil) ?_⟩; refine AO.bV (i:=2) Z Z Z Vw Z Z ?_; exact ⟨v2,p7,p8,q0,(fun _=>Z),q2,q3,q4,q5,q6,q8,g6,g9,g7,(fun h=>by rw [show S 5=true from h] at n5; cases n5),by simp [n9,n5]⟩
   ·
    cases ho; refine ⟨Z,(fun t ht=>by cases ht; decide),AO.less (Less.add p8 Less.nil) (AO.bV (i:=0) Z Z Z jF Z Z ?_)⟩; exact ⟨v2,p7,p8,q0,q1,(fun _=>Z),q3,q4,q5,q6,q8,g6,g9,g7,g5,Z⟩
   ·
    cases ho; have s1:=hp 1 (any_beq.1 Z) (by decide); have n5:S 5=false:=Bool.eq_false_iff.2 fun h=>by rw [(g5 h).2] at Mh; cases Mh
    rw [n5]; refine ⟨Z,(fun t ht=>by cases ht; decide),AO.less (Less.add (q1 s1) Less.nil) ?_⟩; refine AO.UW (i:=1) Z Z Z Z dQ Z Z ?_; exact ⟨v2,p7,p8,q0,q1,q2,(fun _=>Z),q4,q5,q6,q8,g6,g9,g7,(fun h=>by rw [show S 5=true from h] at n5; cases n5),by simp [n5]⟩
   ·
    cases ho; refine ⟨Z,(fun t ht=>by cases ht; decide),AO.less Less.nil (AO.bn [[iP 0,.str ([]:Str),iP 0,.bool false,iP 0,.str ([]:Str),.list (aj.bL []),sP ([]),.list (ah.bL []),sP ([])]] Z Kn Z Z Z Z ?_)⟩; exact ⟨v2,p7,p8,q0,q1,q2,q3,(fun _=>Z),q5,q6,q8,g6,g9,g7,g5,Z⟩
   ·
    cases ho; have s1:=hp 1 (any_beq.1 Z) (by decide); have s3:=hp 3 (any_beq.1 Z) (by decide); have s4:=hp 4 (any_beq.1 Z) (by decide); have n6:S 6=false:=Bool.eq_false_iff.2 fun h=>by rw [g6 h] at Mh; cases Mh
    have n7:S 7=false:=Bool.eq_false_iff.2 fun h=>by rw [g7 h] at Mh; cases Mh
    have n9:S 9=false:=Bool.eq_false_iff.2 fun h=>by rw [g9 h] at Mh; cases Mh
    rw [Mh,n9]; refine ⟨Z,(fun t ht=>by cases ht; decide),AO.less (Less.add (q1 s1) (Less.add (q4 s4) Less.nil)) ?_⟩; refine AO.TM (i:=1) (l2:=[[iP 0,.str ([]:Str),iP 0,.bool false,iP 0,.str ([]:Str),.list (aj.bL []),sP ([]),.list (ah.bL []),sP ([])]]) Z Z Z Z Z Z Z Kn dQ (by intro y hy; cases List.mem_singleton.1 hy; rfl) (by intro y hy; cases List.mem_singleton.1 hy; rfl) (by simp only [List.length_singleton] at U1 ⊢; unfold zl at U1; unfold maxLen; omega) (by simp only [List.length_singleton] at U1 ⊢; unfold zl at U1; omega) (fun v3 s2 hs2=>?_); cases hs2; exact ⟨v3,p7,p8,q0,q1,q2,q3,q4,(fun _=>Z),(fun h=>by rw [show S 6=true from h] at n6; cases n6),q8,(fun h=>by rw [show S 6=true from h] at n6; cases n6),(fun h=>by rw [show S 9=true from h] at n9; cases n9),(fun h=>by rw [show S 7=true from h] at n7; cases n7),(fun _=>⟨s1,s3⟩),by simp [n7,n9]⟩
   ·
    cases ho; have s3:=hp 3 (any_beq.1 Z) (by decide); have s5:=hp 5 (any_beq.1 Z) (by decide); rw [s5]; refine ⟨Z,(fun t ht=>by cases ht; decide),AO.less (Less.add (q5 s5) (Less.add (q3 s3) Less.nil)) ?_⟩; refine AO.JC (i:=1) (sz:=10) Z Z Z Z dQ (by omega) (by simp) ?_; exact ⟨v2,p7,p8,q0,q1,q2,q3,q4,q5,(fun _=>by simp [FP,Env.get]),q8,(fun _=>s5),g9,g7,g5,by simp [s5]⟩
   ·
    cases ho; have s2:=hp 2 (any_beq.1 Z) (by decide); have s6:=hp 6 (any_beq.1 Z) (by decide); have s5:=g6 s6; rw [s5,Mh]; refine ⟨Z,(fun t ht=>by cases ht),AO.less (Less.add (q6 s6) (Less.add (q2 s2) Less.nil)) ?_⟩; have hFl:(List.flatMap ah.cells s).length=s.length * 10:=Nk ah.gI s; refine AO.Oi (i:=1) (new:=(aQ x1)) (cs':=List.flatMap ah.cells s ++ (aQ x1)) Z Z Z jF Z Z Z (by simp) (by simp [hFl]) ?_ Z ?_
    ·
     unfold putCells; rw [List.take_append_of_le_length (by omega),List.take_of_length_le (by omega),List.drop_of_length_le (by simp [hFl]),List.append_nil]
    exact ⟨v2,p7,p8,q0,q1,q2,q3,q4,q5,q6,q8,g6,g9,(fun _=>s5),g5,by simp [s5]⟩
   ·
    cases ho; refine ⟨Z,(fun t ht=>by cases ht; decide),AO.less (Less.add p7 Less.nil) (AO.bK Z Z PI ?_)⟩; exact ⟨v2,p7,p8,q0,q1,q2,q3,q4,q5,q6,(fun _=>Z),g6,g9,g7,g5,Z⟩
   ·
    cases ho; have s8:=hp 8 (any_beq.1 Z) (by decide); have s5:=hp 5 (any_beq.1 Z) (by decide); rw [s5,Mh]; refine ⟨Z,(fun t ht=>by cases ht),AO.less (Less.add (q8 s8) (Less.add (q5 s5) Less.nil)) ?_⟩; simp only [cond_true,cond_false]; refine AO.PZ 1 Z fun hv1 hv2=>(AO.bY (i:=2) Z Z Z Vw hv1 hv2 Z Z Z ?_); exact ⟨v2,p7,p8,q0,q1,q2,q3,q4,q5,q6,q8,g6,(fun _=>s5),g7,g5,by simp [s5]⟩
  rintro S e σ hS ⟨v2,p7,p8,q0,q1,q2,q3,q4,q5,q6,q8,g6,g9,g7,g5,rfl⟩; rw [hS 5 (by decide) (by decide),hS 7 (by decide) (by decide),hS 9 (by decide) (by decide)]; refine AR.nil [] Z (⟨Z,⟨_,.cons _ (List.Sublist.refl _),v2,?_⟩,Z,Z⟩); simp [ah.aF]
 ·
  rintro D _ ⟨v0,rfl⟩; show AW _ _ _ _ _ _ _; refine AW.U2 0 1 (ah.bL a1) Z Z (q:=8) Z (by rw [ah.aC,List.flatMap_def]) (by rw [ah.aC]; intro x hx; obtain ⟨y,_,rfl⟩:=List.mem_map.1 hx; exact ah.gI y) (by rw [ah.aC,List.length_map]) ?_; refine AW.sr (AR.step Z Z Z (AO.bV (i:=1) Z Z Z jF Z Z (AR.step Z Z Z (AO.call Z _ Z Z Yw (J9 _ h4 (cs 2 Z ?_)))))); refine AR.nil [2,3] Z (AW.ret ?_); exact .inr ⟨D,[_,_],Z,Z,_,⟨_,_,Z,Z,_,_,Z,Z,Z⟩,[],List.nil_sublist _,h⟩
end
section
variable [zL]
theorem LV (v1:aj) {r0:Str} (hf:uZ v1=some r0) (h:Q (.ret (.str r0)) τ):PC 110 [.agg (aT v1)] τ Q:=by
 unfold uZ at hf; refine BN 8 [.tmp 2] [0] Tryz.func110 Z Z Z Z Z ?_; refine B1 hf fun x1 h1 hf=>W 3 Z (CL Z (mQ _ h1 (J 1 Z (C hf Z (fun h2 hf=>?_) fun h2 hf=>?_))))
 · cases hf; exact M 1 Z (Y Z h)
 refine BR hf fun x2 h3 hf=>?_; refine W 1 Z (CL Z (zA _ h3 ?_)); cases hf; exact N 1 Z (Y Z h)
end
theorem IQ (e1:ah) {r0:Int} (hf:qF e1=some r0) (h:Q (.ret (iP r0)) τ):PC 185 [.agg (aQ e1)] τ Q:=by
 unfold qF at hf; refine BN 33 [.tmp 2] [0] Tryz.func185 Z Z Z Z Z (V 6 Z (C hf Z (fun h1 hf=>?_) fun h1 hf=>?_))
 · cases hf; exact M 1 Z (Y Z h)
 refine V 4 Z (C hf Z (fun h2 hf=>?_) fun h2 hf=>?_)
 · refine BR hf fun x1 h3 hf=>?_; refine W 2 Z (CL Z (nk _ h3 ?_)); cases hf; exact N 1 Z (Y Z h)
 refine V 4 Z (C hf Z (fun h4 hf=>?_) fun h4 hf=>?_)
 ·
  refine V 0 Z (AW.cond Z (fun h5=>?_) (fun h5=>?_))
  · cases hf; exact M 1 Z (Y Z h)
  cases h4.symm.trans h5
 refine W 4 Z (An 5 21 26 [1,14] (e1.value.kind == 2) Z Z Z Z (U 1 Z (An 5 27 32 [14] (decide (e1.value.iG < 0)) Z Z Z Z (J 1 Z (C hf Z (fun h8 hf=>?_) fun h8 hf=>?_)))))
 · cases hf; exact M 1 Z (Y Z h)
 cases hf; exact M 1 Z (Y Z h)
theorem J6 (s1:Str) {r0:Str} (hf:nK s1=some r0) (h:Q (.ret (.str r0)) τ):PC 186 [.str s1] τ Q:=by
 unfold nK at hf; refine BN 64 [.tmp 2] [0] Tryz.func186 Z Z Z Z Z (W 1 Z (AS Z (AO.BL (eu:=5) Z O7 Z (fun b3=>?_)))); refine B1 hf fun b1 h1 hf=>U 0 Z (CL Z (AC.one 0 Z (gB h1 (fun v1=>⟨_,Z,(J 1 Z (V3 (fun i1 b2 v2=>[(0,.str s1),(3,pP b3),(4,iP i1)]) (fun i1 b2 v2=>[.Da b3 v2 72 5 b2]) (fun bP i1 b2 v2=>fK s1 bP i1 b2=some r0) BIG 0 b1 v1 Z Z hf (fun _ _ _ hz=>aU hz) ?_))⟩)))); intro bP i1 b2 v2 hf; rw [fK] at hf; refine W 2 Z (AS Z (AO.bG Z Z Z Z bN Z (J 1 Z (C hf Z (fun h2 hf=>?_) fun h2 hf=>?_))))
 ·
  refine B1 hf fun c1 h3 hf=>W 2 Z (AS Z (AO.dH h3 Z bN Z Z (U 4 Z (On 3 21 24 [0,3,4,5] ((c1.toNat:Int) == 92) Z Z Z Z (J 1 Z (C hf Z (fun h5 hf=>?_) fun h5 hf=>?_))))))
  · refine B1 hf fun x1 h6 hf=>W 4 Z (AS Z (AO.lW h6 Z bN Z ⟨_,Z⟩ ⟨_,Z⟩ ?_)); refine B1 hf fun x2 h7 hf=>AS Z (AO.cB h7 Z Z Z ?_); refine B1 hf fun b3 h8 hf=>CL Z (AC.one 0 Z (eT h8 (fun v3=>⟨_,Z,?_⟩))); exact N 3 Z ⟨(bQ (i1 + 1)),b3,v3,Z,Z,Z,hf⟩
  refine V 3 Z (C hf Z (fun h9 hf=>?_) fun h9 hf=>?_)
  · refine B1 hf fun b4 h10 hf=>W 0 Z (CL Z (AC.one 0 Z (eT h10 (fun v4=>⟨_,Z,?_⟩)))); exact N 3 Z ⟨(bQ (i1 + 1)),b4,v4,Z,Z,Z,hf⟩
  refine V 3 Z (C hf Z (fun h11 hf=>?_) fun h11 hf=>?_)
  · refine B1 hf fun b5 h12 hf=>W 0 Z (CL Z (AC.one 0 Z (eT h12 (fun v5=>⟨_,Z,?_⟩)))); exact N 3 Z ⟨(bQ (i1 + 1)),b5,v5,Z,Z,Z,hf⟩
  refine W 3 Z (On 3 43 46 [0,3,4,5] (decide (126 < (c1.toNat:Int))) Z Z Z Z (J 1 Z (C hf Z (fun lC hf=>?_) fun lC hf=>?_)))
  ·
   refine AW.draw 14 mixed (by kernel_rfl) Z ?_; refine Ev.cs aR 1 Z (Ev.cons Z Z Z (AO.u8_quo c1 16 Z Z Z Z Z (by decide) zg) ?_); refine Ev.cs aR 1 Z (Ev.cons Z Z Z (AO.u8_quo c1 16 Z Z Z Z Z (by decide) zg) ?_); refine Ev.cons Z Z Z (AO.RG (c1 / 16) 1 Z Z Z Z Z zg) ?_; refine B1 hf fun x3 nR hf=>Ev.cons Z Z Z (AO.lW nR Z bN Z ⟨_,Z⟩ ⟨_,Z⟩ zg) ?_; refine B1 hf fun x4 h16 hf=>Ev.cons Z Z Z (AO.cB h16 Z Z Z zg) (Ev.cs aR 1 Z (Ev.cons Z Z Z (AO.KW c1 16 Z Z Z Z Z (by decide) zg) ?_)); refine Ev.cs aR 1 Z (Ev.cons Z Z Z (AO.KW c1 16 Z Z Z Z Z (by decide) zg) ?_); refine Ev.cons Z Z Z (AO.RG (c1 % 16) 1 Z Z Z Z Z zg) ?_; refine B1 hf fun x5 wP hf=>Ev.cons Z Z Z (AO.lW wP Z bN Z ⟨_,Z⟩ ⟨_,Z⟩ zg) ?_; refine B1 hf fun x6 h18 hf=>Ev.cons Z Z Z (AO.cB h18 Z Z Z zg) (Ev.nil ?_); show AR _ _ _ _ _ _ _ _; refine B1 hf fun b6 h19 hf=>CL Z (AC.one 0 Z (eT h19 (fun v6=>⟨_,Z,?_⟩))); exact N 3 Z ⟨(bQ (i1 + 1)),b6,v6,Z,Z,Z,hf⟩
  refine B1 hf fun b7 h20 hf=>W 1 Z (CL Z (AC.one 0 Z (gB h20 (fun v7=>⟨_,Z,?_⟩)))); exact N 3 Z ⟨(bQ (i1 + 1)),b7,v7,Z,Z,Z,hf⟩
 refine BR hf fun b8 h21 hf=>?_; refine W 0 Z (CL Z (AC.one 0 Z (gB h21 (fun v8=>⟨_,Z,(U 0 Z (CL Z (AC.Gh 0 Z (uK ?_))))⟩)))); cases hf; exact N 1 Z (Y Z h)
section
variable [zL]
abbrev pE (cO:ah→Option Str):Prop:=∀ (eD:ah) {aL:Str},cO eD=some aL→∀ {τ:List aJ} {Q:cK→List aJ→Prop} (h:Q (.ret (.str aL)) τ),PC 71 [.agg (aQ eD)] τ Q
abbrev uM (bE:ah→Int→Option Str):Prop:=∀ (eD:ah) (jJ:Int) {aL:Str},bE eD jJ=some aL→∀ {τ:List aJ} {Q:cK→List aJ→Prop} (h:Q (.ret (.str aL)) τ),PC 111 [.agg (aQ eD),iP jJ] τ Q
abbrev sG (dJ:ah→Option Str):Prop:=∀ (eD:ah) {aL:Str},dJ eD=some aL→∀ {τ:List aJ} {Q:cK→List aJ→Prop} (h:Q (.ret (.str aL)) τ),PC 112 [.agg (aQ eD)] τ Q
theorem FD (cO) (ng:pE cO) (bE) (dY:uM bE) (dJ) (mJ:sG dJ) (e1:ah) {r0:Str} (hf:dU cO bE dJ e1=some r0) (h:Q (.ret (.str r0)) τ):PC 71 [.agg (aQ e1)] τ Q:=by
 unfold dU at hf; refine BN 121 [.tmp 2] [0] Tryz.func71 Z Z Z Z Z (V 6 Z (C hf Z (fun h1 hf=>?_) fun h1 hf=>?_))
 · refine BR hf fun x1 h2 hf=>?_; refine W 2 Z (CL Z (LV _ h2 ?_)); cases hf; exact N 1 Z (Y Z h)
 refine V 2 Z (C hf Z (fun h3 hf=>?_) fun h3 hf=>?_)
 · cases hf; exact M 3 Z (Y Z h)
 refine V 2 Z (C hf Z (fun h4 hf=>?_) fun h4 hf=>?_)
 ·
  refine V 0 Z (AW.draw 10 mixed (by kernel_rfl) Z ?_); refine Ev.cs aR 2 Z ?_; refine B1 hf fun e2 h5 hf=>Ev.cons Z Z Z (AO.aK h5 Z Z (ah.aC _) Z dQ (ah.aF _) Z zg) (Ev.cs aR 1 Z ?_); refine B1 hf fun x2 h6 hf=>Ev.cons Z Z Z (AO.call Z _ Z Z vw (dY _ _ h6 zg)) ?_; refine B1 hf fun x3 h7 hf=>Ev.cons Z Z Z (AO.cB h7 Z Z Z zg) (Ev.cs aR 2 Z ?_); refine BR hf fun x4 h8 hf=>?_; refine Ev.cons Z Z Z (AO.cB h8 Z Z Z zg) (Ev.cs aR 1 Z (Ev.nil ?_)); show AR _ _ _ _ _ _ _ _; cases hf; exact N 0 Z (Y Z h)
 refine V 2 Z (C hf Z (fun h9 hf=>?_) fun h9 hf=>?_)
 ·
  refine V 0 Z (AW.draw 14 mixed (by kernel_rfl) Z ?_); refine Ev.cs aR 2 Z ?_; refine B1 hf fun e3 h10 hf=>Ev.cons Z Z Z (AO.aK h10 Z Z (ah.aC _) Z dQ (ah.aF _) Z zg) (Ev.cs aR 1 Z ?_); refine B1 hf fun x5 h11 hf=>Ev.cons Z Z Z (AO.call Z _ Z Z vw (dY _ _ h11 zg)) ?_; refine B1 hf fun x6 h12 hf=>Ev.cons Z Z Z (AO.cB h12 Z Z Z zg) (Ev.cs aR 2 Z ?_); refine B1 hf fun e4 m_ hf=>Ev.cons Z Z Z (AO.aK m_ Z Z (ah.aC _) Z dQ (ah.aF _) Z zg) (Ev.cs aR 1 Z ?_); refine B1 hf fun x7 lC hf=>Ev.cons Z Z Z (AO.call Z _ Z Z vw (dY _ _ lC zg)) ?_; refine B1 hf fun x8 nR hf=>Ev.cons Z Z Z (AO.cB nR Z Z Z zg) ?_; refine BR hf fun x9 h16 hf=>?_; refine Ev.cons Z Z Z (AO.cB h16 Z Z Z zg) (Ev.cs aR 1 Z (Ev.nil ?_)); show AR _ _ _ _ _ _ _ _; cases hf; exact N 0 Z (Y Z h)
 refine V 2 Z (C hf Z (fun wP hf=>?_) fun wP hf=>?_)
 ·
  refine V 0 Z (AW.draw 8 mixed (by kernel_rfl) Z ?_); refine Ev.cs aR 2 Z ?_; refine B1 hf fun NU h18 hf=>Ev.cons Z Z Z (AO.cB h18 Z Z Z zg) (Ev.cs aR 1 Z ?_); refine B1 hf fun Cu h19 hf=>Ev.cons Z Z Z (AO.call Z _ Z Z Xd (mJ _ h19 zg)) ?_; refine B1 hf fun Qa h20 hf=>Ev.cons Z Z Z (AO.cB h20 Z Z Z zg) ?_; refine BR hf fun N9 h21 hf=>?_; refine Ev.cons Z Z Z (AO.cB h21 Z Z Z zg) (Ev.cs aR 1 Z (Ev.nil ?_)); show AR _ _ _ _ _ _ _ _; cases hf; exact N 0 Z (Y Z h)
 refine V 2 Z (C hf Z (fun h22 hf=>?_) fun h22 hf=>?_)
 ·
  refine V 0 Z (AW.draw 9 mixed (by kernel_rfl) Z ?_); refine Ev.cs aR 4 Z ?_; refine B1 hf fun e5 h23 hf=>Ev.cons Z Z Z (AO.aK h23 Z Z (ah.aC _) Z dQ (ah.aF _) Z zg) (Ev.cs aR 1 Z ?_); refine B1 hf fun Mq C_ hf=>Ev.cons Z Z Z (AO.call Z _ Z Z vw (dY _ _ C_ zg)) ?_; refine BR hf fun Rf FV hf=>?_; refine Ev.cons Z Z Z (AO.cB FV Z Z Z zg) (Ev.cs aR 1 Z (Ev.nil ?_)); show AR _ _ _ _ _ _ _ _; cases hf; exact N 0 Z (Y Z h)
 refine V 2 Z (C hf Z (fun PE hf=>?_) fun PE hf=>?_)
 ·
  refine B1 hf fun n1 h27 hf=>W 2 Z (CL Z (nk _ h27 (J 5 Z (C hf Z (fun Ic hf=>?_) fun Ic hf=>?_))))
  ·
   refine V 3 Z (AW.draw 20 mixed (by kernel_rfl) Z ?_); refine Ev.cs aR 2 Z ?_; refine B1 hf fun e6 NZ hf=>Ev.cons Z Z Z (AO.aK NZ Z Z (ah.aC _) Z dQ (ah.aF _) Z zg) (Ev.cs aR 2 Z ?_); refine B1 hf fun Kc OD hf=>Ev.cons Z Z Z (AO.call Z _ Z Z vw (dY _ _ OD zg)) ?_; refine B1 hf fun Mg h31 hf=>Ev.cons Z Z Z (AO.cB h31 Z Z Z zg) (Ev.cs aR 2 Z ?_); refine B1 hf fun V7 h32 hf=>Ev.cons Z Z Z (AO.cB h32 Z Z Z zg) ?_; refine B1 hf fun XW Ib hf=>Ev.cons Z Z Z (AO.cB Ib Z Z Z zg) (Ev.cs aR 2 Z ?_); refine B1 hf fun e7 JE hf=>Ev.cons Z Z Z (AO.aK JE Z Z (ah.aC _) Z dQ (ah.aF _) Z zg) (Ev.cs aR 3 Z ?_); refine B1 hf fun XV NY hf=>Ev.cons Z Z Z (AO.call Z _ Z Z vw (dY _ _ NY zg)) ?_; refine BR hf fun x21 Lj hf=>?_; refine Ev.cons Z Z Z (AO.cB Lj Z Z Z zg) (Ev.cs aR 1 Z (Ev.nil ?_)); show AR _ _ _ _ _ _ _ _; cases hf; exact N 0 Z (Y Z h)
  refine V 0 Z (AW.draw 20 mixed (by kernel_rfl) Z ?_); refine Ev.cs aR 2 Z ?_; refine B1 hf fun e8 h37 hf=>Ev.cons Z Z Z (AO.aK h37 Z Z (ah.aC _) Z dQ (ah.aF _) Z zg) (Ev.cs aR 2 Z ?_); refine B1 hf fun Vq NW hf=>Ev.cons Z Z Z (AO.call Z _ Z Z vw (dY _ _ NW zg)) ?_; refine B1 hf fun x23 Fe hf=>Ev.cons Z Z Z (AO.cB Fe Z Z Z zg) (Ev.cs aR 2 Z ?_); refine B1 hf fun x24 Uj hf=>Ev.cons Z Z Z (AO.cB Uj Z Z Z zg) ?_; refine B1 hf fun x25 Rl hf=>Ev.cons Z Z Z (AO.cB Rl Z Z Z zg) (Ev.cs aR 2 Z ?_); refine B1 hf fun e9 Ni hf=>Ev.cons Z Z Z (AO.aK Ni Z Z (ah.aC _) Z dQ (ah.aF _) Z zg) (Ev.cs aR 3 Z ?_); refine B1 hf fun Vp h43 hf=>Ev.cons Z Z Z (AO.call Z _ Z Z vw (dY _ _ h43 zg)) ?_; refine BR hf fun x27 QL hf=>?_; refine Ev.cons Z Z Z (AO.cB QL Z Z Z zg) (Ev.cs aR 1 Z (Ev.nil ?_)); show AR _ _ _ _ _ _ _ _; cases hf; exact N 0 Z (Y Z h)
 refine V 2 Z (C hf Z (fun h45 hf=>?_) fun h45 hf=>?_)
 ·
  refine V 0 Z (AW.draw 20 mixed (by kernel_rfl) Z ?_); refine Ev.cs aR 2 Z ?_; refine B1 hf fun e10 h46 hf=>Ev.cons Z Z Z (AO.aK h46 Z Z (ah.aC _) Z dQ (ah.aF _) Z zg) (Ev.cs aR 1 Z ?_); refine B1 hf fun x28 h47 hf=>Ev.cons Z Z Z (AO.call Z _ Z Z vw (dY _ _ h47 zg)) ?_; refine B1 hf fun x29 h48 hf=>Ev.cons Z Z Z (AO.cB h48 Z Z Z zg) (Ev.cs aR 2 Z ?_); refine B1 hf fun e11 Ui hf=>Ev.cons Z Z Z (AO.aK Ui Z Z (ah.aC _) Z dQ (ah.aF _) Z zg) (Ev.cs aR 1 Z ?_); refine B1 hf fun Vo h50 hf=>Ev.cons Z Z Z (AO.call Z _ Z Z vw (dY _ _ h50 zg)) ?_; refine B1 hf fun x31 VT hf=>Ev.cons Z Z Z (AO.cB VT Z Z Z zg) ?_; refine B1 hf fun x32 Uh hf=>Ev.cons Z Z Z (AO.cB Uh Z Z Z zg) (Ev.cs aR 2 Z ?_); refine B1 hf fun e12 PD hf=>Ev.cons Z Z Z (AO.aK PD Z Z (ah.aC _) Z dQ (ah.aF _) Z zg) (Ev.cs aR 1 Z ?_); refine B1 hf fun Vn Y3 hf=>Ev.cons Z Z Z (AO.call Z _ Z Z vw (dY _ _ Y3 zg)) ?_; refine BR hf fun x34 Y2 hf=>?_; refine Ev.cons Z Z Z (AO.cB Y2 Z Z Z zg) (Ev.cs aR 1 Z (Ev.nil ?_)); show AR _ _ _ _ _ _ _ _; cases hf; exact N 0 Z (Y Z h)
 refine V 2 Z (C hf Z (fun Y1 hf=>?_) fun Y1 hf=>?_)
 · refine B1 hf fun XU h57 hf=>W 1 Z (CL Z (mJ _ h57 ?_)); refine B1 hf fun XT Y0 hf=>AS Z (AO.cB Y0 Z Z Z ?_); refine BR hf fun x37 Xq hf=>?_; refine AS Z (AO.cB Xq Z Z Z ?_); cases hf; exact N 1 Z (Y Z h)
 refine B1 hf fun x38 Rk hf=>W 1 Z (CL Z (mJ _ Rk ?_)); refine B1 hf fun x39 YZ hf=>AS Z (AO.cB YZ Z Z Z ?_); refine BR hf fun x40 Xp hf=>?_; refine AS Z (AO.cB Xp Z Z Z ?_); cases hf; exact N 1 Z (Y Z h)
theorem KR (cO) (ng:pE cO) (bE) (dY:uM bE) (dJ) (mJ:sG dJ) (e1:ah) (Bo:Int) {r0:Str} (hf:uw cO bE dJ e1 Bo=some r0) (h:Q (.ret (.str r0)) τ):PC 111 [.agg (aQ e1),iP Bo] τ Q:=by
 unfold uw at hf; refine BN 15 [.tmp 4] [0,1] Tryz.func111 Z Z Z Z Z ?_; refine B1 hf fun x1 h1 hf=>W 3 Z (CL Z (IQ _ h1 (J 2 Z (C hf Z (fun h2 hf=>?_) fun h2 hf=>?_))))
 · refine B1 hf fun x2 h3 hf=>W 1 Z (CL Z (ng _ h3 ?_)); refine B1 hf fun x3 h4 hf=>AS Z (AO.cB h4 Z Z Z ?_); refine BR hf fun x4 h5 hf=>?_; refine AS Z (AO.cB h5 Z Z Z ?_); cases hf; exact N 1 Z (Y Z h)
 refine BR hf fun x5 h6 hf=>?_; refine W 1 Z (CL Z (ng _ h6 ?_)); cases hf; exact N 1 Z (Y Z h)
theorem Jq (cO) (ng:pE cO) (bE) (dY:uM bE) (dJ) (mJ:sG dJ) (e1:ah) {r0:Str} (hf:oO cO bE dJ e1=some r0) (h:Q (.ret (.str r0)) τ):PC 112 [.agg (aQ e1)] τ Q:=by
 unfold oO at hf; refine BN 36 [.tmp 2] [0] Tryz.func112 Z Z Z Z Z (W 5 Z (AS Z (AO.aM (l:=e1.args) Z Z Z Z dQ Z (ah.aC _) ?_))); refine J 1 Z (AW.row 1 9 (V3 (fun jM v1 i1=>[(1,.ref (aQ e1)),(3,.own v1 (List.map iW jM)),(8,.list (ah.bL e1.args)),(9,iP (e1.args.length:Int)),(10,iP i1)]) (fun jM v1 i1=>[.row v1 (List.map iW jM).length 1 9]) (fun bP jM v1 i1=>iM bE e1 bP jM i1=some r0) BIG [] (.slice none 0 0) 0 Z Z hf (fun _ _ _ hz=>aU hz) ?_)); intro bP jM v1 i1 hf; rw [iM] at hf; refine V 1 Z (C hf Z (fun h1 hf=>?_) fun h1 hf=>?_)
 ·
  refine B1 hf fun e2 h2 hf=>W 1 Z (AS Z (AO.aK h2 Z Z (ah.aC _) Z dQ (ah.aF _) Z (U 1 Z (AS Z (AO.aH Z j_ (fun b5=>?_)))))); refine B1 hf fun s1 h3 hf=>Rr 3 [0,0] Z Z (CL Z (dY _ _ h3 (J 4 Z (C hf Z (fun h4 hf=>?_) fun h4 hf=>?_))))
  ·
   refine B1 hf fun e3 h5 hf=>W 3 Z (AS Z (AO.aK h5 Z Z Z Z eO Z Z ?_)); refine B1 hf fun x1 h6 hf=>U 1 Z (CL Z (J6 _ h6 ?_)); refine B1 hf fun x2 h7 hf=>AS Z (AO.cB h7 Z Z Z ?_); refine B1 hf fun s2 h8 hf=>U 1 Z (AS Z (AO.cB h8 Z Z Z (U 3 Z (AS Z (AO.bn (List.map iW ([s2]:List Str)) Z tY Z Z Z Z ?_))))); refine B1 hf fun CG h9 hf=>AS Z (AO.mg (i:=1) (l:=jM) (m:=([s2]:List Str)) h9 Z Z Z Z Z Z Z tY eO Z Z Z (fun _=>Z) (fun _=>Z) (by decide) (fun v2 s3 hs3=>?_)); cases hs3; refine dB 3 Z (AR.drop1 ?_); exact N 0 Z ⟨CG,v2,(bQ (i1 + 1)),Z,Z,Z,hf⟩
  refine W 2 Z (AS Z (AO.bn (List.map iW ([s1]:List Str)) Z tY Z Z Z Z ?_)); refine B1 hf fun CB h10 hf=>AS Z (AO.mg (i:=1) (l:=jM) (m:=([s1]:List Str)) h10 Z Z Z Z Z Z Z tY eO Z Z Z (fun _=>Z) (fun _=>Z) (by decide) (fun v3 s4 hs4=>?_)); cases hs4; refine dB 3 Z (AR.drop1 ?_); exact N 0 Z ⟨CB,v3,(bQ (i1 + 1)),Z,Z,Z,hf⟩
 refine BR hf fun x3 h11 hf=>?_; refine W 1 Z (CL Z (vR _ _ h11 ?_)); cases hf; exact N 1 Z (Y Z h)
theorem tH :∀ k:Nat,(pE (bC k))∧(uM (dV k))∧(sG (fZ k)):=by
 intro k
 induction k with
 | zero=>exact ⟨fun _ _ hz=>by first | cases hz | (unfold bC at hz; cases hz),fun _ _ _ hz=>by first | cases hz | (unfold dV at hz; cases hz),fun _ _ hz=>by first | cases hz | (unfold fZ at hz; cases hz)⟩
 | succ k ih=>exact ⟨fun eD aL hz τ Q hq=>FD (bC k) ih.1 (dV k) ih.2.1 (fZ k) ih.2.2 eD hz hq,fun eD jJ aL hz τ Q hq=>KR (bC k) ih.1 (dV k) ih.2.1 (fZ k) ih.2.2 eD jJ hz hq,fun eD aL hz τ Q hq=>Jq (bC k) ih.1 (dV k) ih.2.1 (fZ k) ih.2.2 eD hz hq⟩
theorem F7 (eD:ah) {aL:Str} (hf:Ca eD=some aL) (h:Q (.ret (.str aL)) τ):PC 71 [.agg (aQ eD)] τ Q:=
 ((tH BIG).1) eD hf h
theorem Vd (eD:ah) (jJ:Int) {aL:Str} (hf:Oq eD jJ=some aL) (h:Q (.ret (.str aL)) τ):PC 111 [.agg (aQ eD),iP jJ] τ Q:=
 ((tH BIG).2.1) eD jJ hf h
theorem Uk (eD:ah) {aL:Str} (hf:MW eD=some aL) (h:Q (.ret (.str aL)) τ):PC 112 [.agg (aQ eD)] τ Q:=
 ((tH BIG).2.2) eD hf h
end
section
variable [zL]
theorem J3 (e1:ah) {r0:Str} (hf:kS e1=some r0) (h:Q (.ret (.str r0)) τ):PC 37 [.agg (aQ e1)] τ Q:=by
 unfold kS at hf; refine BN 8 [.tmp 2] [0] Tryz.func37 Z Z Z Z Z ?_; refine B1 hf fun x1 h1 hf=>W 3 Z (CL Z (lQ _ h1 (J 1 Z (C hf Z (fun h2 hf=>?_) fun h2 hf=>?_))))
 · cases hf; exact M 1 Z (Y Z h)
 refine BR hf fun x2 h3 hf=>?_; refine W 1 Z (CL Z (F7 _ h3 ?_)); cases hf; exact N 1 Z (Y Z h)
end
section
variable [zL]
def Dl :Go.Shelf.Ren:=⟨fun | 155=>38 | 154=>72 | 138=>114 | 165=>115 | 143=>116 | 166=>36 | 197=>117 | 169=>39 | 195=>188 | 218=>189 | 240=>60 | 241=>190 | 219=>191 | 260=>192 | 276=>96 | 277=>256 | 217=>257 | 225=>258 | 224=>259 | 267=>260 | 266=>321 | 314=>322 | n=>n,fun | 9=>9 | 3=>3 | 4=>4 | 72=>72 | 0=>0 | 76=>86 | 105=>154 | 21=>21 | 5=>5 | 70=>70 | 20=>20 | 37=>68 | 75=>77 | 127=>124 | 164=>138 | 46=>218 | 119=>245 | 139=>248 | 138=>247 | 146=>279 | 51=>269 | 80=>69 | n=>n,fun | 1=>0 | 3=>1 | 4=>2 | n=>n⟩
theorem R9 :Go.Proofs.Lays.n155 Tryz.prog Dl:={
 mixed:=by kernel_rfl
 f138:=Tryz.func114.trans (congrArg some (by kernel_rfl))
 f143:=Tryz.func116.trans (congrArg some (by kernel_rfl))
 f154:=Tryz.func72.trans (congrArg some (by kernel_rfl))
 f155:=Tryz.func38.trans (congrArg some (by kernel_rfl))
 f165:=Tryz.func115.trans (congrArg some (by kernel_rfl))
 f166:=Tryz.func36.trans (congrArg some (by kernel_rfl))
 f169:=Tryz.func39.trans (congrArg some (by kernel_rfl))
 f195:=Tryz.func188.trans (congrArg some (by kernel_rfl))
 f197:=Tryz.func117.trans (congrArg some (by kernel_rfl))
 f217:=Tryz.func257.trans (congrArg some (by kernel_rfl))
 f218:=Tryz.func189.trans (congrArg some (by kernel_rfl))
 f219:=Tryz.func191.trans (congrArg some (by kernel_rfl))
 f224:=Tryz.func259.trans (congrArg some (by kernel_rfl))
 f225:=Tryz.func258.trans (congrArg some (by kernel_rfl))
 f240:=Tryz.func60.trans (congrArg some (by kernel_rfl))
 f241:=Tryz.func190.trans (congrArg some (by kernel_rfl))
 f260:=Tryz.func192.trans (congrArg some (by kernel_rfl))
 f266:=Tryz.func321.trans (congrArg some (by kernel_rfl))
 f267:=Tryz.func260.trans (congrArg some (by kernel_rfl))
 f276:=Tryz.func96.trans (congrArg some (by kernel_rfl))
 f277:=Tryz.func256.trans (congrArg some (by kernel_rfl))
 f314:=Tryz.func322.trans (congrArg some (by kernel_rfl))
 t0:=Tryz.underlying0
 a0:=Tryz.isAgg0
 z0:=Tryz.sizeOf0
 v0:=Tryz.zeroValue0
 t3:=Tryz.underlying3
 a3:=Tryz.isAgg3
 z3:=Tryz.sizeOf3
 v3:=Tryz.zeroValue3
 t4:=Tryz.underlying4
 a4:=Tryz.isAgg4
 z4:=Tryz.sizeOf4
 v4:=Tryz.zeroValue4
 t5:=Tryz.underlying5
 a5:=Tryz.isAgg5
 z5:=Tryz.sizeOf5
 v5:=Tryz.zeroValue5
 t9:=Tryz.underlying9
 a9:=Tryz.isAgg9
 z9:=Tryz.sizeOf9
 v9:=Tryz.zeroValue9
 t20:=Tryz.underlying20
 a20:=Tryz.isAgg20
 z20:=Tryz.sizeOf20
 v20:=Tryz.zeroValue20
 t21:=Tryz.underlying21
 a21:=Tryz.isAgg21
 z21:=Tryz.sizeOf21
 v21:=Tryz.zeroValue21
 t37:=Tryz.underlying68
 a37:=Tryz.isAgg68
 z37:=Tryz.sizeOf68
 v37:=Tryz.zeroValue68
 t46:=Tryz.underlying218
 a46:=Tryz.isAgg218
 z46:=Tryz.sizeOf218
 v46:=Tryz.zeroValue218
 t51:=Tryz.underlying269
 a51:=Tryz.isAgg269
 z51:=Tryz.sizeOf269
 v51:=Tryz.zeroValue269
 t70:=Tryz.underlying70
 a70:=Tryz.isAgg70
 z70:=Tryz.sizeOf70
 v70:=Tryz.zeroValue70
 t72:=Tryz.underlying72
 a72:=Tryz.isAgg72
 z72:=Tryz.sizeOf72
 v72:=Tryz.zeroValue72
 t75:=Tryz.underlying77
 a75:=Tryz.isAgg77
 z75:=Tryz.sizeOf77
 v75:=Tryz.zeroValue77
 t76:=Tryz.underlying86
 a76:=Tryz.isAgg86
 z76:=Tryz.sizeOf86
 v76:=Tryz.zeroValue86
 t105:=Tryz.underlying154
 a105:=Tryz.isAgg154
 z105:=Tryz.sizeOf154
 v105:=Tryz.zeroValue154
 t119:=Tryz.underlying245
 a119:=Tryz.isAgg245
 z119:=Tryz.sizeOf245
 t127:=Tryz.underlying124
 a127:=Tryz.isAgg124
 z127:=Tryz.sizeOf124
 v127:=Tryz.zeroValue124
 t138:=Tryz.underlying247
 a138:=Tryz.isAgg247
 z138:=Tryz.sizeOf247
 v138:=Tryz.zeroValue247
 t139:=Tryz.underlying248
 a139:=Tryz.isAgg248
 z139:=Tryz.sizeOf248
 v139:=Tryz.zeroValue248
 t146:=Tryz.underlying279
 a146:=Tryz.isAgg279
 z146:=Tryz.sizeOf279
 v146:=Tryz.zeroValue279
 t164:=Tryz.underlying138
 a164:=Tryz.isAgg138
 z164:=Tryz.sizeOf138
 v164:=Tryz.zeroValue138
 g1:=by kernel_rfl
 g3:=by kernel_rfl
 g4:=by kernel_rfl}
theorem R8 :Go.Proofs.Builder.Extra Tryz.prog Dl:={
 sizeBuilder:=by kernel_rfl
 liesBuilder:=by kernel_rfl
 t5:=Tryz.underlying5
 a5:=fun w=>by kernel_rfl
 z5:=fun w=>by kernel_rfl
 v5:=fun w=>by kernel_rfl
 infoByte:=by kernel_rfl
 cellsByte:=by kernel_rfl
 sizeByte:=by kernel_rfl
 neB5:=by decide}
theorem AQ (s1:Str) (UK:Str) (new1:Str) {r0:Str} (hf:strings_ReplaceAll s1 UK new1=some r0) (h:Q (.ret (.str r0)) τ):PC 38 [.str s1,.str UK,.str new1] τ Q:=by
 unfold strings_ReplaceAll at hf; split at hf
 case isFalse=>cases hf
 rename_i hg; obtain ⟨hg,rfl,rfl⟩:=hg; rw [←GY (by decide)] at hf; cases hf; refine AC.none ?_; exact AC.replaceAll zL.hD R9 R8 hg (by decide) zL.max (by rw [Lib.count_one]; have:=List.count_le_length (a:=(36:UInt8)) (l:=s1); simp only [List.length_cons,List.length_nil]; omega) h
end
section
variable [zL]
theorem Ch (ps1:List aB) {r0:Str} (hf:qd ps1=some r0) (h:Q (.ret (.str r0)) τ):PC 15 [.list (List.map aB.cells ps1)] τ Q:=by
 unfold qd at hf; refine BN 26 [.tmp 2] [0] Tryz.func15 Z Z Z Z Z (W 1 Z (AS Z (AO.BL (eu:=5) Z O7 Z (fun b3=>(U 1 Z (AS Z (AO.aM (l:=ps1) Z Z Z Z oo Z Z (J 1 Z (V3 (fun x1 b1 v1=>[(3,pP b3),(6,.list (List.map aB.cells ps1)),(7,iP (ps1.length:Int)),(8,iP x1)]) (fun x1 b1 v1=>[.Da b3 v1 72 5 b1]) (fun bP x1 b1 v1=>lJ ps1 bP x1 b1=some r0) BIG 0 [] (.slice none 0 0) Z Z hf (fun _ _ _ hz=>aU hz) ?_))))))))); intro bP x1 b1 v1 hf; rw [lJ] at hf; refine V 1 Z (C hf Z (fun h1 hf=>?_) fun h1 hf=>?_)
 ·
  refine B1 hf fun e1 h2 hf=>W 0 Z (AS Z (AO.aK h2 Z Z Z Z oo (aB.aF _) Z (U 1 Z (AS Z (AO.aH Z Mk (fun b5=>(Rw 3 [0,0] Z Z (C hf Z (fun h3 hf=>?_) fun h3 hf=>?_))))))))
  · refine B1 hf fun x2 h4 hf=>Wr 2 [0] Z Z (CL Z (J3 _ h4 ?_)); refine B1 hf fun x3 h5 hf=>AS Z (AO.cB h5 Z Z Z ?_); refine B1 hf fun x4 h6 hf=>AS Z (AO.cB h6 Z Z Z ?_); refine B1 hf fun b2 h7 hf=>CL Z (AC.one 1 Z (eT h7 (fun v2=>⟨_,Z,(dB 2 Z (AR.drop1 ?_))⟩))); exact N 0 Z ⟨(bQ (x1 + 1)),b2,v2,Z,Z,Z,hf⟩
  refine B1 hf fun x5 h8 hf=>Wr 2 [0] Z Z (CL Z (AQ _ _ _ h8 ?_)); refine B1 hf fun b3 h9 hf=>CL Z (AC.one 1 Z (eT h9 (fun v3=>⟨_,Z,(dB 2 Z (AR.drop1 ?_))⟩))); exact N 0 Z ⟨(bQ (x1 + 1)),b3,v3,Z,Z,Z,hf⟩
 refine W 0 Z (CL Z (AC.Gh 0 Z (uK ?_))); cases hf; exact N 1 Z (Y Z h)
end
theorem JM (gT:Int) {r0:Str} (hf:pW gT=some r0) (h:Q (.ret (.str r0)) τ):PC 143 [iP gT] τ Q:=by
 unfold pW at hf; refine BN 14 [.tmp 2] [0] Tryz.func143 Z Z Z Z Z (W 1 Z (AS Z (AO.Q_ Z Rq TN Z (AS Z (AO.aH Z Rq (fun b3=>(Rr 4 [0] Z Z (On 3 7 10 [0,3] (decide (8≤gT)) Z Z Z Z ?_)))))))); refine J 0 Z (C hf Z (fun h2 hf=>?_) fun h2 hf=>?_)
 · cases hf; exact M 1 Z (Y Z h)
 refine BR hf fun e1 h3 hf=>?_; refine W 1 Z (AS Z (AO.H8 h3 Z TN Z Z Z (AS Z (AO.QB (i:=0) (fun z:Str=>.str z) h3 Z Z Z RJ Z ?_)))); cases hf; exact N 1 Z (Y Z h)
theorem mK (gT:Int) {r0:Bool} (hf:iH gT=some r0) (h:Q (.ret (.bool r0)) τ):PC 144 [iP gT] τ Q:=by
 unfold iH at hf; refine BN 9 [.tmp 2] [0] Tryz.func144 Z Z Z Z Z (W 4 Z (On 3 5 8 [] (gT == 6) Z Z Z Z ?_)); cases hf; exact N 1 Z (Y Z h)
end Go.Proofs.YtpbjbkhfpjckoaaGreatDoor
