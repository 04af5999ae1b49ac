/- Proved here: each function does what its functional text says (part 1). -/
import Derived.Test.YtpbjbkhfpjckoaaGreatDoorIpA2
import Derived.Test.YtpbjbkhfpjckoaaGreatDoorIpPre1
import Derived.Test.YtpbjbkhfpjckoaaGreatDoorIpFt1
import Derived.Test.YtpbjbkhfpjckoaaGreatDoorIpPool1
import Derived.Test.YtpbjbkhfpjckoaaGreatDoorProg
import Derived.KernelRfl
set_option linter.unusedVariables false
set_option linter.unusedSimpArgs false
set_option linter.unusedSectionVars false
namespace Go.Ft
open Go Go.Abs
@[reducible] def av.cells (x:av):List PV:=[.int .i64 x.kind,.str x.text,.int .i64 x.at_]
theorem av.aP (x:av):av.cells x=[.int .i64 x.kind,.str x.text,.int .i64 x.at_]:=rfl
theorem av.fu (x:av):(av.cells x).length=3:=by rw [av.aP]; rfl
theorem av.cells_one (x:av):(av.cells x).all PV.one=true:=by rw [av.aP]; rfl
@[reducible] def aj.cells (x:aj):List PV:=[.list (List.map av.cells x.ts),.int .i64 x.at_]
theorem aj.aP (x:aj):aj.cells x=[.list (List.map av.cells x.ts),.int .i64 x.at_]:=rfl
theorem aj.fu (x:aj):(aj.cells x).length=2:=by rw [aj.aP]; rfl
theorem aj.cells_one (x:aj):(aj.cells x).all PV.one=true:=by rw [aj.aP]; rfl
@[reducible] def aA.cells (x:aA):List PV:=[.int .i64 x.at_,.int .i64 x.code]
theorem aA.aP (x:aA):aA.cells x=[.int .i64 x.at_,.int .i64 x.code]:=rfl
theorem aA.fu (x:aA):(aA.cells x).length=2:=by rw [aA.aP]; rfl
theorem aA.cells_one (x:aA):(aA.cells x).all PV.one=true:=by rw [aA.aP]; rfl
mutual
def ak.cells :ak→List PV
  | ⟨a0,a1,a2,a3,a4,a5⟩=>[.int .i64 a0,.bool a1,.int .i64 a2,.str a3,.list (ak.bR a4),.list (List.map lI a5)]
def ak.bR :List ak→List (List PV)
  | []=>[]
  | x :: xs=>ak.cells x :: ak.bR xs
end
theorem ak.aP (x:ak):ak.cells x=[.int .i64 x.kind,.bool x.fU,.int .i64 x.kF,.str x.kC,.list (ak.bR x.bT),.list (List.map lI x.keys)]:=by cases x; rfl
theorem ak.aO :∀ l:List ak,ak.bR l=l.map ak.cells
  | []=>rfl
  | _ :: l=>congrArg _ (ak.aO l)
def ak.VP (l:List ak):List PV:=[.list (ak.bR l)]
theorem ak.fu (x:ak):(ak.cells x).length=6:=by rw [ak.aP]; rfl
theorem ak.cells_one (x:ak):(ak.cells x).all PV.one=true:=by rw [ak.aP]; rfl
mutual
def ah.cells :ah→List PV
  | ⟨a0,a1,a2,a3,a4⟩=>[.int .i64 a0,.str a1,.int .i64 a2.kind,.bool a2.fU,.int .i64 a2.kF,.str a2.kC,.list (ak.bR a2.bT),.list (List.map lI a2.keys),.list (ah.bR a3),.list (List.map lI a4)]
def ah.bR :List ah→List (List PV)
  | []=>[]
  | x :: xs=>ah.cells x :: ah.bR xs
end
theorem ah.aP (x:ah):ah.cells x=[.int .i64 x.kind,.str x.name,.int .i64 x.value.kind,.bool x.value.fU,.int .i64 x.value.kF,.str x.value.kC,.list (ak.bR x.value.bT),.list (List.map lI x.value.keys),.list (ah.bR x.args),.list (List.map lI x.keys)]:=by cases x; rfl
theorem ah.aO :∀ l:List ah,ah.bR l=l.map ah.cells
  | []=>rfl
  | _ :: l=>congrArg _ (ah.aO l)
def ah.VP (l:List ah):List PV:=[.list (ah.bR l)]
theorem ah.fu (x:ah):(ah.cells x).length=10:=by rw [ah.aP]; rfl
theorem ah.cells_one (x:ah):(ah.cells x).all PV.one=true:=by rw [ah.aP]; rfl
@[reducible] def aM.cells (x:aM):List PV:=[.str x.text,.bool x.Oh,.int .i64 x.expr.kind,.str x.expr.name,.int .i64 x.expr.value.kind,.bool x.expr.value.fU,.int .i64 x.expr.value.kF,.str x.expr.value.kC,.list (ak.bR x.expr.value.bT),.list (List.map lI x.expr.value.keys),.list (ah.bR x.expr.args),.list (List.map lI x.expr.keys)]
theorem aM.aP (x:aM):aM.cells x=[.str x.text,.bool x.Oh,.int .i64 x.expr.kind,.str x.expr.name,.int .i64 x.expr.value.kind,.bool x.expr.value.fU,.int .i64 x.expr.value.kF,.str x.expr.value.kC,.list (ak.bR x.expr.value.bT),.list (List.map lI x.expr.value.keys),.list (ah.bR x.expr.args),.list (List.map lI x.expr.keys)]:=rfl
theorem aM.fu (x:aM):(aM.cells x).length=12:=by rw [aM.aP]; rfl
theorem aM.cells_one (x:aM):(aM.cells x).all PV.one=true:=by rw [aM.aP]; rfl
@[reducible] def dV.cells (x:dV):List PV:=[.str x.name,.int .i64 x.value.kind,.bool x.value.fU,.int .i64 x.value.kF,.str x.value.kC,.list (ak.bR x.value.bT),.list (List.map lI x.value.keys)]
theorem dV.aP (x:dV):dV.cells x=[.str x.name,.int .i64 x.value.kind,.bool x.value.fU,.int .i64 x.value.kF,.str x.value.kC,.list (ak.bR x.value.bT),.list (List.map lI x.value.keys)]:=rfl
theorem dV.fu (x:dV):(dV.cells x).length=7:=by rw [dV.aP]; rfl
theorem dV.cells_one (x:dV):(dV.cells x).all PV.one=true:=by rw [dV.aP]; rfl
@[reducible] def bY.cells (x:bY):List PV:=[.int .i64 x.code]
theorem bY.aP (x:bY):bY.cells x=[.int .i64 x.code]:=rfl
theorem bY.fu (x:bY):(bY.cells x).length=1:=by rw [bY.aP]; rfl
theorem bY.cells_one (x:bY):(bY.cells x).all PV.one=true:=by rw [bY.aP]; rfl
mutual
def aG.cells :aG→List PV
  | ⟨a0,a1⟩=>[.int .i64 a0,.list (aG.bR a1)]
def aG.bR :List aG→List (List PV)
  | []=>[]
  | x :: xs=>aG.cells x :: aG.bR xs
end
theorem aG.aP (x:aG):aG.cells x=[.int .i64 x.kind,.list (aG.bR x.elem)]:=by cases x; rfl
theorem aG.aO :∀ l:List aG,aG.bR l=l.map aG.cells
  | []=>rfl
  | _ :: l=>congrArg _ (aG.aO l)
def aG.VP (l:List aG):List PV:=[.list (aG.bR l)]
theorem aG.fu (x:aG):(aG.cells x).length=2:=by rw [aG.aP]; rfl
theorem aG.cells_one (x:aG):(aG.cells x).all PV.one=true:=by rw [aG.aP]; rfl
@[reducible] def dM.cells (x:dM):List PV:=[.str x.name,.int .i64 x.D_.kind,.list (aG.bR x.D_.elem)]
theorem dM.aP (x:dM):dM.cells x=[.str x.name,.int .i64 x.D_.kind,.list (aG.bR x.D_.elem)]:=rfl
theorem dM.fu (x:dM):(dM.cells x).length=3:=by rw [dM.aP]; rfl
theorem dM.cells_one (x:dM):(dM.cells x).all PV.one=true:=by rw [dM.aP]; rfl
end Go.Ft
namespace Go.Proofs.YtpbjbkhfpjckoaaGreatDoor
open Go Go.Abs Go.Ft
set_option maxRecDepth 20000
attribute [local irreducible] AO AR AW AC
class DU [iG]:Prop where
  hD:¬ iG.D
  max:∀ (w:World) (m:jO),iG.G w m→∃ n:Int,w.cell? ⟨0,0,none⟩=some (.int .i64 n)
  pow:∀ (w:World) (m:jO),iG.G w m→Lib.TabIs Tryz.prog w "internal/strconv.uint64pow10" .u64 Lib.pow10Tab
  syn:∀ (w:World) (m:jO),iG.G w m→∃ ev,w.cell? ⟨6,0,none⟩=some ev∧(ev=.nilIface∨∃ te pe,ev=.iface te pe)
  rng:∀ (w:World) (m:jO),iG.G w m→∃ ev,w.cell? ⟨7,0,none⟩=some ev∧(ev=.nilIface∨∃ te pe,ev=.iface te pe)
variable [iG]
theorem Zk :Dh Tryz.prog 221=some (8,1):=by kernel_rfl
theorem aex :Tryz.prog.cellsOf 5=1:=by kernel_rfl
theorem gX :elemSize Tryz.prog 110=some 3:=by kernel_rfl
theorem Y2 :elemSize Tryz.prog 161=some 7:=by kernel_rfl
theorem nM :elemSize Tryz.prog 23=some 12:=by kernel_rfl
theorem QF :elemSize Tryz.prog 236=some 1:=by kernel_rfl
theorem lC :elemSize Tryz.prog 31=some 6:=by kernel_rfl
theorem iy :elemSize Tryz.prog 32=some 1:=by kernel_rfl
theorem iI :elemSize Tryz.prog 35=some 10:=by kernel_rfl
theorem Y1 :elemSize Tryz.prog 43=some 7:=by kernel_rfl
theorem SV :elemSize Tryz.prog 49=some 3:=by kernel_rfl
theorem Pt :elemSize Tryz.prog 61=some 2:=by kernel_rfl
theorem J8 :elemSize Tryz.prog 68=some 1:=by kernel_rfl
theorem VE :pK Tryz.prog 37 3=some 8:=by kernel_rfl
theorem aaw :pK Tryz.prog 39 1=some 1:=by kernel_rfl
theorem aav :pK Tryz.prog 39 2=some 2:=by kernel_rfl
theorem yR :pK Tryz.prog 72 0=some 0:=by kernel_rfl
theorem tq :pK Tryz.prog 72 1=some 1:=by kernel_rfl
theorem KU :pK Tryz.prog 74 0=some 0:=by kernel_rfl
theorem FL :pK Tryz.prog 74 1=some 1:=by kernel_rfl
theorem aea :Tryz.prog.underlying 77=some (.interface (Tryz.prog.methodsAt 77)):=by kernel_rfl
theorem inB :∃ j,Tryz.prog.info? 72=some j∧(j.size != 0)=true:=sized (n:=2) (by kernel_rfl) rfl
theorem ad5 :liesAt Tryz.prog Tryz.prog.depth 72 (2 / Tryz.prog.cellsOf 72) 0 72 1=true:=by kernel_rfl
theorem ad4 :liesAt Tryz.prog Tryz.prog.depth 74 (3 / Tryz.prog.cellsOf 74) 1 72 1=true:=by kernel_rfl
theorem mixed :Tryz.prog.follows .mixedOrders=true:=by kernel_rfl
theorem CQ :Tryz.prog.underlying 125=some (.map 9 3):=by kernel_rfl
theorem acB :concrete Tryz.prog 189=true:=by kernel_rfl
theorem adZ :bM Tryz.prog 10=true:=by kernel_rfl
theorem acv :bM Tryz.prog 107=true:=by kernel_rfl
theorem aa9 :bM Tryz.prog 11=true:=by kernel_rfl
theorem zL :bM Tryz.prog 111=true:=by kernel_rfl
theorem acu :bM Tryz.prog 113=true:=by kernel_rfl
theorem acs :bM Tryz.prog 122=true:=by kernel_rfl
theorem acr :bM Tryz.prog 123=true:=by kernel_rfl
theorem acp :bM Tryz.prog 124=true:=by kernel_rfl
theorem aco :bM Tryz.prog 127=true:=by kernel_rfl
theorem acn :bM Tryz.prog 134=true:=by kernel_rfl
theorem acj :bM Tryz.prog 135=true:=by kernel_rfl
theorem Yt :bM Tryz.prog 136=true:=by kernel_rfl
theorem aci :bM Tryz.prog 137=true:=by kernel_rfl
theorem ach :bM Tryz.prog 138=true:=by kernel_rfl
theorem acg :bM Tryz.prog 139=true:=by kernel_rfl
theorem Yr :bM Tryz.prog 140=true:=by kernel_rfl
theorem acf :bM Tryz.prog 142=true:=by kernel_rfl
theorem Yq :bM Tryz.prog 144=true:=by kernel_rfl
theorem adY :bM Tryz.prog 15=true:=by kernel_rfl
theorem ace :bM Tryz.prog 152=true:=by kernel_rfl
theorem acd :bM Tryz.prog 157=true:=by kernel_rfl
theorem ab_ :bM Tryz.prog 161=true:=by kernel_rfl
theorem Uq :bM Tryz.prog 162=true:=by kernel_rfl
theorem ab9 :bM Tryz.prog 163=true:=by kernel_rfl
theorem ab8 :bM Tryz.prog 164=true:=by kernel_rfl
theorem ab7 :bM Tryz.prog 166=true:=by kernel_rfl
theorem Yp :bM Tryz.prog 168=true:=by kernel_rfl
theorem ab6 :bM Tryz.prog 172=true:=by kernel_rfl
theorem I_ :bM Tryz.prog 173=true:=by kernel_rfl
theorem LX :bM Tryz.prog 179=true:=by kernel_rfl
theorem ab5 :bM Tryz.prog 196=true:=by kernel_rfl
theorem ab4 :bM Tryz.prog 197=true:=by kernel_rfl
theorem ab3 :bM Tryz.prog 198=true:=by kernel_rfl
theorem ab2 :bM Tryz.prog 199=true:=by kernel_rfl
theorem ab1 :bM Tryz.prog 200=true:=by kernel_rfl
theorem Yo :bM Tryz.prog 201=true:=by kernel_rfl
theorem aa8 :bM Tryz.prog 21=true:=by kernel_rfl
theorem ab0 :bM Tryz.prog 218=true:=by kernel_rfl
theorem abZ :bM Tryz.prog 219=true:=by kernel_rfl
theorem abY :bM Tryz.prog 224=true:=by kernel_rfl
theorem I9 :bM Tryz.prog 225=true:=by kernel_rfl
theorem Es :bM Tryz.prog 227=true:=by kernel_rfl
theorem abX :bM Tryz.prog 239=true:=by kernel_rfl
theorem abW :bM Tryz.prog 240=true:=by kernel_rfl
theorem abV :bM Tryz.prog 243=true:=by kernel_rfl
theorem Yn :bM Tryz.prog 244=true:=by kernel_rfl
theorem abU :bM Tryz.prog 251=true:=by kernel_rfl
theorem abT :bM Tryz.prog 252=true:=by kernel_rfl
theorem abS :bM Tryz.prog 253=true:=by kernel_rfl
theorem abR :bM Tryz.prog 254=true:=by kernel_rfl
theorem abQ :bM Tryz.prog 262=true:=by kernel_rfl
theorem Ym :bM Tryz.prog 263=true:=by kernel_rfl
theorem aa7 :bM Tryz.prog 27=true:=by kernel_rfl
theorem aa6 :bM Tryz.prog 28=true:=by kernel_rfl
theorem adX :bM Tryz.prog 29=true:=by kernel_rfl
theorem abP :bM Tryz.prog 298=true:=by kernel_rfl
theorem adW :bM Tryz.prog 30=true:=by kernel_rfl
theorem aa5 :bM Tryz.prog 31=true:=by kernel_rfl
theorem LW :bM Tryz.prog 310=true:=by kernel_rfl
theorem abO :bM Tryz.prog 319=true:=by kernel_rfl
theorem aa4 :bM Tryz.prog 32=true:=by kernel_rfl
theorem abN :bM Tryz.prog 320=true:=by kernel_rfl
theorem adV :bM Tryz.prog 33=true:=by kernel_rfl
theorem adU :bM Tryz.prog 34=true:=by kernel_rfl
theorem aa3 :bM Tryz.prog 35=true:=by kernel_rfl
theorem abM :bM Tryz.prog 351=true:=by kernel_rfl
theorem Yl :bM Tryz.prog 355=true:=by kernel_rfl
theorem abL :bM Tryz.prog 388=true:=by kernel_rfl
theorem abK :bM Tryz.prog 389=true:=by kernel_rfl
theorem adT :bM Tryz.prog 39=true:=by kernel_rfl
theorem adS :bM Tryz.prog 43=true:=by kernel_rfl
theorem abJ :bM Tryz.prog 432=true:=by kernel_rfl
theorem aa2 :bM Tryz.prog 46=true:=by kernel_rfl
theorem adR :bM Tryz.prog 47=true:=by kernel_rfl
theorem adQ :bM Tryz.prog 50=true:=by kernel_rfl
theorem adP :bM Tryz.prog 51=true:=by kernel_rfl
theorem adO :bM Tryz.prog 55=true:=by kernel_rfl
theorem Yk :bM Tryz.prog 60=true:=by kernel_rfl
theorem aa1 :bM Tryz.prog 65=true:=by kernel_rfl
theorem adN :bM Tryz.prog 69=true:=by kernel_rfl
theorem adM :bM Tryz.prog 75=true:=by kernel_rfl
theorem aa0 :bM Tryz.prog 80=true:=by kernel_rfl
theorem adL :bM Tryz.prog 81=true:=by kernel_rfl
theorem aaZ :bM Tryz.prog 84=true:=by kernel_rfl
theorem adK :bM Tryz.prog 85=true:=by kernel_rfl
theorem adJ :bM Tryz.prog 87=true:=by kernel_rfl
theorem adI :bM Tryz.prog 88=true:=by kernel_rfl
theorem adH :bM Tryz.prog 92=true:=by kernel_rfl
theorem adG :bM Tryz.prog 97=true:=by kernel_rfl
theorem adF :bM Tryz.prog 99=true:=by kernel_rfl
theorem Bg :iV Tryz.prog 110 116 3 32:=qP (by kernel_rfl)
theorem JV :iV Tryz.prog 23 39 12 184:=qP (by kernel_rfl)
theorem X9 :iV Tryz.prog 236 3 1 8:=qP (by kernel_rfl)
theorem X8 :iV Tryz.prog 31 34 6 88:=qP (by kernel_rfl)
theorem Ag :iV Tryz.prog 32 9 1 16:=qP (by kernel_rfl)
theorem rQ :iV Tryz.prog 35 37 10 160:=qP (by kernel_rfl)
theorem adz :iV Tryz.prog 43 60 7 104:=qP (by kernel_rfl)
theorem ady :iV Tryz.prog 49 66 3 48:=qP (by kernel_rfl)
theorem aaY :iV Tryz.prog 61 63 2 32:=qP (by kernel_rfl)
theorem Ef :iV Tryz.prog 68 5 1 1:=qP (by kernel_rfl)
theorem Z8 :zA Tryz.prog 187=some [(0,1),(1,1)]:=by kernel_rfl
theorem X6 :zA Tryz.prog 34=some [(0,1),(1,1),(2,1),(3,1),(4,1),(5,1)]:=by kernel_rfl
theorem Ed :zA Tryz.prog 37=some [(0,1),(1,1),(2,6),(8,1),(9,1)]:=by kernel_rfl
theorem Qa :zA Tryz.prog 39=some [(0,1),(1,1),(2,10)]:=by kernel_rfl
theorem Z6 (w:Go.World):(Instr.typeAssert .nilIface 20 189 true).run Tryz.prog w=.ok (.tuple #[.agg #[.int .i64 0,.int .i64 0],.bool false]) w:=by kernel_rfl
theorem Z5 (w:Go.World):(Instr.typeAssert .nilIface 20 204 true).run Tryz.prog w=.ok (.tuple #[.agg #[.int .i64 0],.bool false]) w:=by kernel_rfl
theorem Z4 (v:Value) (w:Go.World):(Instr.typeAssert (.iface 189 v) 20 189 true).run Tryz.prog w=.ok (.tuple #[v,.bool true]) w:=by kernel_rfl
theorem Z0 (v:Value) (w:Go.World):(Instr.typeAssert (.iface 204 v) 20 204 true).run Tryz.prog w=.ok (.tuple #[v,.bool true]) w:=by kernel_rfl
theorem P9 :iW Tryz.prog 110=some (false,1):=by kernel_rfl
theorem IL :iW Tryz.prog 116=some (true,3):=by kernel_rfl
theorem abF :iW Tryz.prog 131=some (false,1):=by kernel_rfl
theorem X0 :iW Tryz.prog 189=some (true,2):=by kernel_rfl
theorem XZ :iW Tryz.prog 204=some (true,1):=by kernel_rfl
theorem Ll :iW Tryz.prog 23=some (false,1):=by kernel_rfl
theorem rP :iW Tryz.prog 24=some (false,1):=by kernel_rfl
theorem Gx :iW Tryz.prog 3=some (false,1):=by kernel_rfl
theorem adv :iW Tryz.prog 31=some (false,1):=by kernel_rfl
theorem aaX :iW Tryz.prog 32=some (false,1):=by kernel_rfl
theorem Ea :iW Tryz.prog 34=some (true,6):=by kernel_rfl
theorem Vl :iW Tryz.prog 35=some (false,1):=by kernel_rfl
theorem iY :iW Tryz.prog 37=some (true,10):=by kernel_rfl
theorem adu :iW Tryz.prog 39=some (true,12):=by kernel_rfl
theorem adt :iW Tryz.prog 4=some (false,1):=by kernel_rfl
theorem aaW :iW Tryz.prog 49=some (false,1):=by kernel_rfl
theorem aaV :iW Tryz.prog 61=some (false,1):=by kernel_rfl
theorem XY :iW Tryz.prog 63=some (true,2):=by kernel_rfl
theorem Bw :iW Tryz.prog 68=some (false,1):=by kernel_rfl
theorem G8 :iW Tryz.prog 70=some (false,1):=by kernel_rfl
theorem Uk :iW Tryz.prog 9=some (false,1):=by kernel_rfl
theorem N7 :Tryz.prog.underlying 3=some (.int .i64):=by kernel_rfl
theorem ads :Tryz.prog.underlying 32=some (.slice 9):=by kernel_rfl
theorem abD :Tryz.prog.underlying 4=some (.bool):=by kernel_rfl
theorem Gw :Tryz.prog.underlying 5=some (.int .u8):=by kernel_rfl
theorem RJ :Tryz.prog.underlying 68=some (.slice 5):=by kernel_rfl
theorem dh :Tryz.prog.underlying 9=some (.string):=by kernel_rfl
theorem F7 :Tryz.prog.underlying 70=some (.pointer 72):=by kernel_rfl
theorem XT :Tryz.prog.underlying 124=some (.pointer 5):=by kernel_rfl
theorem P7 :Tryz.prog.underlying 138=some .unsafePointer:=by kernel_rfl
theorem VY :(Tryz.prog.info? 3).map (·.zero)=some (some (.int .i64 0)):=by kernel_rfl
theorem oQ :l6 Tryz.prog 116=some [.int .i64 0,.str [],.int .i64 0]:=by kernel_rfl
theorem abz :l6 Tryz.prog 131=some [.val .nilFunc]:=by kernel_rfl
theorem aby :l6 Tryz.prog 187=some [.own (.slice none 0 0) [],.int .i64 0]:=by kernel_rfl
theorem XL :l6 Tryz.prog 189=some [.int .i64 0,.int .i64 0]:=by kernel_rfl
theorem XK :l6 Tryz.prog 204=some [.int .i64 0]:=by kernel_rfl
theorem XJ :l6 Tryz.prog 221=some [.str [],.str [],.str [],.str [],.str [],.str [],.str [],.str []]:=by kernel_rfl
theorem Va :l6 Tryz.prog 24=some [.int .i64 0]:=by kernel_rfl
theorem aeO :l6 Tryz.prog 3=some [.int .i64 0]:=by kernel_rfl
theorem adi :l6 Tryz.prog 32=some [.own (.slice none 0 0) []]:=by kernel_rfl
theorem rG :l6 Tryz.prog 34=some [.int .i64 0,.bool false,.int .i64 0,.str [],.own (.slice none 0 0) [],.own (.slice none 0 0) []]:=by kernel_rfl
theorem iq :l6 Tryz.prog 37=some [.int .i64 0,.str [],.int .i64 0,.bool false,.int .i64 0,.str [],.own (.slice none 0 0) [],.own (.slice none 0 0) [],.own (.slice none 0 0) [],.own (.slice none 0 0) []]:=by kernel_rfl
theorem KZ :l6 Tryz.prog 39=some [.str [],.bool false,.int .i64 0,.str [],.int .i64 0,.bool false,.int .i64 0,.str [],.own (.slice none 0 0) [],.own (.slice none 0 0) [],.own (.slice none 0 0) [],.own (.slice none 0 0) []]:=by kernel_rfl
theorem aaQ :l6 Tryz.prog 60=some [.str [],.int .i64 0,.bool false,.int .i64 0,.str [],.own (.slice none 0 0) [],.own (.slice none 0 0) []]:=by kernel_rfl
theorem yB :l6 Tryz.prog 63=some [.int .i64 0,.own (.slice none 0 0) []]:=by kernel_rfl
theorem aaP :l6 Tryz.prog 66=some [.str [],.int .i64 0,.own (.slice none 0 0) []]:=by kernel_rfl
theorem XI :l6 Tryz.prog 72=some [.val (.pointer none),.own (.slice none 0 0) []]:=by kernel_rfl
theorem adh :l6 Tryz.prog 74=some [.own (.slice none 0 0) [],.val (.pointer none),.own (.slice none 0 0) []]:=by kernel_rfl
def FX :Facts:={ti:=[(3,false,1),(4,false,1),(5,false,1),(9,false,1),(23,false,1),(24,false,1),(31,false,1),(32,false,1),(34,true,6),(35,false,1),(37,true,10),(39,true,12),(49,false,1),(60,true,7),(63,true,2),(66,true,3),(116,true,3),(187,true,2),(189,true,2),(204,true,1)],fo:=[(34,0,0),(34,1,1),(34,2,2),(34,3,3),(34,4,4),(34,5,5),(37,0,0),(37,1,1),(37,2,2),(37,3,8),(37,4,9),(39,0,0),(39,1,1),(39,2,2),(60,0,0),(60,1,1),(63,0,0),(63,1,1),(66,0,0),(66,1,1),(74,0,0),(74,1,1),(116,0,0),(116,1,1),(116,2,2),(187,0,0),(187,1,1),(189,0,0),(189,1,1),(204,0,0)],fd:=[],str:=[]}
theorem bL :FX.okB Tryz.prog=true:=by kernel_rfl
theorem cs {n:Nat} {all:Array Oper} {σ:List bA} {ds:List Deferred} {Q:Post} (k:Nat) {l l':List Oper} {env env':Env} (h:Kv FX all n k l env=some (env',l')) (hr:AR Tryz.prog n all l' env' σ ds Q):AR Tryz.prog n all l env σ ds Q:=AR.cs bL k h hr
def FY :FB:=⟨{FX with ti:=FX.ti ++ [(3,false,1),(4,false,1),(9,false,1),(31,false,1),(32,false,1),(34,true,6),(35,false,1),(37,true,10),(39,true,12),(60,true,7),(61,false,1),(63,true,2),(66,true,3),(116,true,3),(131,false,1),(221,true,8)]},[(34,[.int .i64 0,.bool false,.int .i64 0,.str [],.own (.slice none 0 0) [],.own (.slice none 0 0) []]),(37,[.int .i64 0,.str [],.int .i64 0,.bool false,.int .i64 0,.str [],.own (.slice none 0 0) [],.own (.slice none 0 0) [],.own (.slice none 0 0) [],.own (.slice none 0 0) []]),(39,[.str [],.bool false,.int .i64 0,.str [],.int .i64 0,.bool false,.int .i64 0,.str [],.own (.slice none 0 0) [],.own (.slice none 0 0) [],.own (.slice none 0 0) [],.own (.slice none 0 0) []]),(60,[.str [],.int .i64 0,.bool false,.int .i64 0,.str [],.own (.slice none 0 0) [],.own (.slice none 0 0) []]),(63,[.int .i64 0,.own (.slice none 0 0) []]),(66,[.str [],.int .i64 0,.own (.slice none 0 0) []]),(116,[.int .i64 0,.str [],.int .i64 0]),(189,[.int .i64 0,.int .i64 0])],[(34,[(0,1),(1,1),(2,1),(3,1),(4,1),(5,1)]),(37,[(0,1),(1,1),(2,6),(8,1),(9,1)]),(39,[(0,1),(1,1),(2,10)]),(60,[(0,1),(1,6)]),(63,[(0,1),(1,1)]),(66,[(0,1),(1,2)]),(116,[(0,1),(1,1),(2,1)]),(189,[(0,1),(1,1)])]⟩
instance : FK Tryz.prog:=⟨FY,⟨by kernel_rfl,by kernel_rfl,by kernel_rfl⟩,[10,11,12,13,14,17,19,26,27,28,29,30,31,36,37,38,39,41,42,43,50,55,56,59,61,62,63,64,66,67,68,70,71,73,75,76,77,81,82,85,86,88,92,93,98,100,101,102,103,104,105,106,107,108,109,110,113,118,122,125,126,127,128,139,140,141,143,144,146,147,148,155,156,157,161,162,166,167,168,169,170,171,173,174,175,176,177,178,179,180,181,182,183,184,185,187,193,194,197,201,202,203,217,220,221,224,225,226,227,228,230,241,242,244,245,246,247,248,249,250,255,261,264,270,274,276,299,300,301,302,303,311,312,313,314,315,316,317,318,330,333,344,348,350,352,353,354,355,356,364,368,383,384,385,386,387,388,389,390,410,411,412,413,414],by kernel_rfl⟩
variable {τ : List bA} {Q : eT → List bA → Prop}
abbrev PC :=AC Tryz.prog
@[reducible] def iP (x:Int):PV:=.int .i64 x
@[reducible] def sP (x:List Str):PV:=.list (List.map lI x)
@[reducible] def pP (b:Nat):PV:=.val (.pointer (some ⟨b,0,none⟩))
@[reducible] def bK (x:ak):List PV:=[.int .i64 x.kind,.bool x.fU,.int .i64 x.kF,.str x.kC,.list (ak.bR x.bT),.list (List.map lI x.keys)]
@[reducible] def bn (x:ah):List PV:=[.int .i64 x.kind,.str x.name,.int .i64 x.value.kind,.bool x.value.fU,.int .i64 x.value.kF,.str x.value.kC,.list (ak.bR x.value.bT),.list (List.map lI x.value.keys),.list (ah.bR x.args),.list (List.map lI x.keys)]
@[reducible] def WT (x:aM):List PV:=[.str x.text,.bool x.Oh,.int .i64 x.expr.kind,.str x.expr.name,.int .i64 x.expr.value.kind,.bool x.expr.value.fU,.int .i64 x.expr.value.kF,.str x.expr.value.kC,.list (ak.bR x.expr.value.bT),.list (List.map lI x.expr.value.keys),.list (ah.bR x.expr.args),.list (List.map lI x.expr.keys)]
@[reducible] def aeH (x:dV):List PV:=[.str x.name,.int .i64 x.value.kind,.bool x.value.fU,.int .i64 x.value.kF,.str x.value.kC,.list (ak.bR x.value.bT),.list (List.map lI x.value.keys)]
@[reducible] def eO (x:aG):List PV:=[.int .i64 x.kind,.list (aG.bR x.elem)]
@[reducible] def ad7 (x:dM):List PV:=[.str x.name,.int .i64 x.D_.kind,.list (aG.bR x.D_.elem)]
@[reducible] def ny (x:av):List PV:=[.int .i64 x.kind,.str x.text,.int .i64 x.at_]
@[reducible] def aW (x:aj):List PV:=[.list (List.map av.cells x.ts),.int .i64 x.at_]
@[reducible] def jA (x:aA):List PV:=[.int .i64 x.at_,.int .i64 x.code]
theorem DI {b:Nat} {v p:Value} {bs:List UInt8} (hp:p=Value.pointer none∨p=.pointer (some ⟨b,0,none⟩)) {R:eT→List bA→Prop} (h:R (.ret (.tuple [])) [.kY b 72 [.val (.pointer (some ⟨b,0,none⟩)),.own v (bs.map iQ)],.row v bs.length 1 5]):
    AC Tryz.prog 60 [.val (.pointer (some ⟨b,0,none⟩))] [.kY b 72 [.val p,.own v (bs.map iQ)],.row v bs.length 1 5] R:=by
  obtain ⟨j,hj1,hj2⟩:=inB; rcases hp with rfl | rfl
  · skip
    refine AC.kS 20 [] [0] Tryz.func60 rfl rfl rfl rfl rfl ?_; refine AW.seq ?_; refine AW.region ?_; refine AR.step rfl rfl rfl (AO.calc' rfl ?_); refine AR.step rfl rfl rfl (AO.nilCheck rfl rfl ?_); refine AR.step rfl rfl rfl (AO.cK rfl rfl yR ?_); refine AR.step rfl rfl rfl (AO.jL (i:=0) rfl rfl rfl G8 rfl rfl ?_); refine AR.step rfl rfl rfl (AO.KQ rfl F7 rfl rfl ?_); refine AR.nil [0,6] rfl ?_; refine AW.cond rfl (fun h1=>?_) (fun h1=>?_)
    · refine AW.region ?_; refine AR.step rfl rfl rfl (AO.calc' rfl ?_); refine AR.step rfl rfl rfl (AO.calc' rfl ?_); refine AR.step rfl rfl rfl (AO.V8 (i:=0) rfl F7 P7 hj1 hj2 rfl rfl rfl ?_); refine AR.step rfl rfl rfl (AO.Sm rfl rfl rfl rfl Tryz.func96 (by kernel_rfl) (by kernel_rfl) (by kernel_rfl) (by kernel_rfl) rfl ?_); refine AR.step rfl rfl rfl (AO.SN (i:=0) rfl P7 F7 hj1 rfl rfl rfl ad5 ?_); refine AR.step rfl rfl rfl (AO.nilCheck rfl rfl ?_); refine AR.step rfl rfl rfl (AO.cK rfl rfl yR ?_); refine AR.dx rfl rfl (AO.qg (i:=0) rfl rfl rfl G8 rfl rfl rfl rfl rfl ?_); refine AR.nil [] rfl ?_; exact ⟨rfl,[],rfl,_,List.Sublist.refl _,h⟩
    · cases h1
  · skip
    refine AC.kS 20 [] [0] Tryz.func60 rfl rfl rfl rfl rfl ?_; refine AW.seq ?_; refine AW.region ?_; refine AR.step rfl rfl rfl (AO.calc' rfl ?_); refine AR.step rfl rfl rfl (AO.nilCheck rfl rfl ?_); refine AR.step rfl rfl rfl (AO.cK rfl rfl yR ?_); refine AR.step rfl rfl rfl (AO.jL (i:=0) rfl rfl rfl G8 rfl rfl ?_); refine AR.step rfl rfl rfl (AO.KQ rfl F7 rfl rfl ?_); refine AR.nil [0,6] rfl ?_; refine AW.cond rfl (fun h1=>?_) (fun h1=>?_)
    · cases h1
    · refine AW.seq ?_; refine AW.region ?_; refine AR.step rfl rfl rfl (AO.calc' rfl ?_); refine AR.step rfl rfl rfl (AO.nilCheck rfl rfl ?_); refine AR.step rfl rfl rfl (AO.cK rfl rfl yR ?_); refine AR.step rfl rfl rfl (AO.jL (i:=0) rfl rfl rfl G8 rfl rfl ?_); refine AR.step rfl rfl rfl (AO.calc' rfl ?_); refine AR.step rfl rfl rfl (AO.HV rfl F7 hj1 rfl rfl ?_); refine AR.nil [19] rfl ?_; refine AW.cond rfl (fun h2=>?_) (fun h2=>?_)
      · cases h2
      · refine AW.skip ?_; exact ⟨rfl,[],rfl,_,List.Sublist.refl _,h⟩
theorem DJ {b:Nat} {v:Value} {bs r:List UInt8} {c:UInt8} (hv:app bs [c]=some r) {R:eT→List bA→Prop} (h:∀ v',R (.ret (.val .nilIface)) [.Ir b v' 72 5 r]):AC Tryz.prog 28 [.val (.pointer (some ⟨b,0,none⟩)),.int .u8 (c.toNat:Int)] [.Ir b v 72 5 bs] R:=by
  refine AC.Ir fun p hp hroom=>?_; refine AC.kS 17 [.tmp 4] [0,1] Tryz.func28 rfl rfl rfl rfl rfl ?_; refine AW.seq ?_; refine AW.region ?_; refine AR.step rfl rfl rfl (AO.calc' rfl ?_); refine AR.nil [0,1] rfl ?_; refine AW.seq ?_; refine AW.region ?_; refine AR.step rfl rfl rfl (AO.calc' rfl ?_); refine AR.step rfl rfl rfl (AO.call rfl _ rfl rfl Yk (DI hp ?_)); refine AR.nil [0,1] rfl ?_; refine AW.seq ?_; refine AW.region ?_; refine AR.step rfl rfl rfl (AO.calc' rfl ?_); refine AR.step rfl rfl rfl (AO.calc' rfl ?_); refine AR.step rfl rfl rfl (AO.nilCheck rfl rfl ?_); refine AR.step rfl rfl rfl (AO.cK rfl rfl tq ?_); refine AR.step rfl rfl rfl (AO.jL (i:=0) rfl rfl rfl Bw rfl rfl ?_); refine AR.step rfl rfl rfl (AO.calc' rfl ?_); refine AR.step rfl rfl rfl (AO.buildSlice rfl Ef rfl rfl rfl ?_); refine AR.step rfl rfl rfl (AO.JH (i:=1) hv rfl rfl rfl rfl rfl (Gl.list rfl J8 (by simp [iQ]) (by simp [iQ,PV.one])) rfl Ef (fun v' s1 hs1 hr1=>?_)); cases hs1; refine AR.step rfl rfl rfl (AO.nilCheck rfl rfl ?_); refine AR.step rfl rfl rfl (AO.cK rfl rfl tq ?_); refine AR.dx rfl rfl (AO.qg (i:=0) rfl rfl rfl Bw rfl rfl rfl rfl rfl ?_); refine AR.nil [1] rfl ?_; refine AW.seq ?_; refine AW.region ?_; refine AR.step rfl rfl rfl (AO.calc' rfl ?_); refine AR.nil [4] rfl ?_; refine AW.ret ?_; exact ⟨rfl,_,⟨_,_,rfl,rfl,rfl⟩,_,List.Sublist.refl _,_,v',r,rfl,.inr rfl,hr1 hroom,h v'⟩
theorem wK {b:Nat} {v:Value} {bs r:List UInt8} {s:List UInt8} (hv:app bs s=some r) {R:eT→List bA→Prop} (h:∀ v',R (.ret (.tuple [.int .i64 (s.length:Int),.val .nilIface])) [.Ir b v' 72 5 r]):AC Tryz.prog 36 [.val (.pointer (some ⟨b,0,none⟩)),.str s] [.Ir b v 72 5 bs] R:=by
  refine AC.Ir fun p hp hroom=>?_; refine AC.kS 19 [.tmp 4,.tmp 5] [0,1] Tryz.func36 rfl rfl rfl rfl rfl ?_; refine AW.seq ?_; refine AW.region ?_; refine AR.step rfl rfl rfl (AO.calc' rfl ?_); refine AR.step rfl rfl rfl (AO.calc' rfl ?_); refine AR.nil [0,1] rfl ?_; refine AW.seq ?_; refine AW.region ?_; refine AR.step rfl rfl rfl (AO.calc' rfl ?_); refine AR.step rfl rfl rfl (AO.call rfl _ rfl rfl Yk (DI hp ?_)); refine AR.nil [0,1] rfl ?_; refine AW.seq ?_; refine AW.region ?_; refine AR.step rfl rfl rfl (AO.calc' rfl ?_); refine AR.step rfl rfl rfl (AO.calc' rfl ?_); refine AR.step rfl rfl rfl (AO.nilCheck rfl rfl ?_); refine AR.step rfl rfl rfl (AO.cK rfl rfl tq ?_); refine AR.step rfl rfl rfl (AO.jL (i:=0) rfl rfl rfl Bw rfl rfl ?_); refine AR.step rfl rfl rfl (AO.calc' rfl ?_); refine AR.step rfl rfl rfl (AO.JH (i:=1) hv rfl rfl rfl rfl rfl (Gl.str dh) rfl Ef (fun v' s1 hs1 hr1=>?_)); cases hs1; refine AR.step rfl rfl rfl (AO.nilCheck rfl rfl ?_); refine AR.step rfl rfl rfl (AO.cK rfl rfl tq ?_); refine AR.dx rfl rfl (AO.qg (i:=0) rfl rfl rfl Bw rfl rfl rfl rfl rfl ?_); refine AR.nil [1] rfl ?_; refine AW.seq ?_; refine AW.region ?_; refine AR.step rfl rfl rfl (AO.calc' rfl ?_); refine AR.step rfl rfl rfl (AO.bZ rfl rfl rfl rfl dh rfl ?_); refine AR.step rfl rfl rfl (AO.calc' rfl ?_); refine AR.step rfl rfl rfl (AO.calc' rfl ?_); refine AR.nil [4,5] rfl ?_; refine AW.ret ?_; exact ⟨rfl,_,⟨_,_,rfl,rfl,_,_,rfl,rfl,rfl⟩,_,List.Sublist.refl _,_,v',r,rfl,.inr rfl,hr1 hroom,h v'⟩
theorem PI {b:Nat} {v:Value} {bs:List UInt8} {R:eT→List bA→Prop} (h:R (.ret (.int .i64 (bs.length:Int))) [.Ir b v 72 5 bs]):AC Tryz.prog 43 [.val (.pointer (some ⟨b,0,none⟩))] [.Ir b v 72 5 bs] R:=by
  refine AC.Ir fun p hp hroom=>?_; refine AC.kS 8 [.tmp 2] [0] Tryz.func43 rfl rfl rfl rfl rfl ?_; refine AW.seq ?_; refine AW.region ?_; refine AR.step rfl rfl rfl (AO.calc' rfl ?_); refine AR.nil [0] rfl ?_; refine AW.seq ?_; refine AW.region ?_; refine AR.step rfl rfl rfl (AO.calc' rfl ?_); refine AR.step rfl rfl rfl (AO.nilCheck rfl rfl ?_); refine AR.step rfl rfl rfl (AO.cK rfl rfl tq ?_); refine AR.step rfl rfl rfl (AO.jL (i:=0) rfl rfl rfl Bw rfl rfl ?_); refine AR.step rfl rfl rfl (AO.aU (l:=bs) rfl rfl rfl rfl J8 rfl rfl ?_); refine AR.step rfl rfl rfl (AO.calc' rfl ?_); refine AR.nil [2] rfl ?_; refine AW.ret ?_; exact ⟨rfl,_,⟨_,_,rfl,rfl,rfl⟩,_,List.Sublist.refl _,p,v,bs,rfl,hp,hroom,h⟩
theorem Dg {b:Nat} {v:Value} {bs:List UInt8} {R:eT→List bA→Prop} (h:R (.ret (.str bs)) []):AC Tryz.prog 39 [.val (.pointer (some ⟨b,0,none⟩))] [.Ir b v 72 5 bs] R:=by
  refine AC.aaI fun p hroom=>?_; refine AC.kS 14 [.tmp 2] [0] Tryz.func39 rfl rfl rfl rfl rfl ?_; refine AW.seq ?_; refine AW.region ?_; refine AR.step rfl rfl rfl (AO.calc' rfl ?_); refine AR.nil [0] rfl ?_; refine AW.seq ?_; refine AW.draw 10 mixed (by kernel_rfl) rfl ?_; refine Ev.cons rfl rfl rfl (AO.calc' rfl ⟨rfl,rfl⟩) ?_; refine Ev.cons rfl rfl rfl (AO.nilCheck rfl rfl ⟨rfl,rfl⟩) ?_; refine Ev.cons rfl rfl rfl (AO.cK rfl rfl tq ⟨rfl,rfl⟩) ?_; refine Ev.cons rfl rfl rfl (AO.jL (i:=0) rfl rfl rfl Bw rfl rfl ⟨rfl,rfl⟩) ?_; refine Ev.cons rfl rfl rfl (AO.sliceData rfl rfl rfl rfl hroom ⟨rfl,rfl⟩) ?_; refine Ev.cons rfl rfl rfl (AO.calc' rfl ⟨rfl,rfl⟩) ?_; refine Ev.cons rfl rfl rfl (AO.nilCheck rfl rfl ⟨rfl,rfl⟩) ?_; refine Ev.cons rfl rfl rfl (AO.cK rfl rfl tq ⟨rfl,rfl⟩) ?_; refine Ev.cons rfl rfl rfl (AO.jL (i:=0) rfl rfl rfl Bw rfl rfl ⟨rfl,rfl⟩) ?_; refine Ev.cons rfl rfl rfl (AO.aU (l:=bs) rfl rfl rfl rfl J8 rfl rfl ⟨rfl,rfl⟩) ?_; refine Ev.nil ?_; show AR _ _ _ _ _ _ _ _; refine AR.step rfl rfl rfl (AO.unsafeString rfl rfl rfl rfl XT aex rfl rfl rfl ?_); refine AR.step rfl rfl rfl (AO.calc' rfl ?_); refine AR.nil [2] rfl ?_; refine AW.ret ?_; exact ⟨rfl,_,⟨_,_,rfl,rfl,rfl⟩,[],List.nil_sublist _,h⟩
theorem ND {b:Nat} {q:PV} {v p:Value} {bs:List UInt8} (hp:p=Value.pointer none∨p=.pointer (some ⟨b,1,none⟩)) {R:eT→List bA→Prop} (h:R (.ret (.tuple [])) [.row v (List.length bs) 1 5,.kY b 74 [q,.val (.pointer (some ⟨b,1,none⟩)),.own v (List.map iQ bs)]]):
    AC Tryz.prog 60 [.val (.pointer (some ⟨b,1,none⟩))] [.row v (List.length bs) 1 5,.kY b 74 [q,.val p,.own v (List.map iQ bs)]] R:=by
  obtain ⟨j,hj1,hj2⟩:=inB; rcases hp with rfl | rfl
  · skip
    refine AC.kS 20 [] [0] Tryz.func60 rfl rfl rfl rfl rfl ?_; refine AW.seq ?_; refine AW.region ?_; refine AR.step rfl rfl rfl (AO.calc' rfl ?_); refine AR.step rfl rfl rfl (AO.nilCheck rfl rfl ?_); refine AR.step rfl rfl rfl (AO.cK rfl rfl yR ?_); refine AR.step rfl rfl rfl (AO.jL (i:=1) rfl rfl rfl G8 rfl rfl ?_); refine AR.step rfl rfl rfl (AO.KQ rfl F7 rfl rfl ?_); refine AR.nil [0,6] rfl ?_; refine AW.cond rfl (fun h1=>?_) (fun h1=>?_)
    · refine AW.region ?_; refine AR.step rfl rfl rfl (AO.calc' rfl ?_); refine AR.step rfl rfl rfl (AO.calc' rfl ?_); refine AR.step rfl rfl rfl (AO.Uj (i:=1) (n:=1) rfl F7 P7 hj1 hj2 rfl rfl rfl ?_); refine AR.step rfl rfl rfl (AO.Sm rfl rfl rfl rfl Tryz.func96 (by kernel_rfl) (by kernel_rfl) (by kernel_rfl) (by kernel_rfl) rfl ?_); refine AR.step rfl rfl rfl (AO.QA (i:=1) rfl P7 F7 hj1 rfl rfl rfl ad4 ?_); refine AR.step rfl rfl rfl (AO.nilCheck rfl rfl ?_); refine AR.step rfl rfl rfl (AO.cK rfl rfl yR ?_); refine AR.dx rfl rfl (AO.qg (i:=1) rfl rfl rfl G8 rfl rfl rfl rfl rfl ?_); refine AR.nil [] rfl ?_; exact ⟨rfl,[],rfl,_,List.Sublist.refl _,h⟩
    · cases h1
  · skip
    refine AC.kS 20 [] [0] Tryz.func60 rfl rfl rfl rfl rfl ?_; refine AW.seq ?_; refine AW.region ?_; refine AR.step rfl rfl rfl (AO.calc' rfl ?_); refine AR.step rfl rfl rfl (AO.nilCheck rfl rfl ?_); refine AR.step rfl rfl rfl (AO.cK rfl rfl yR ?_); refine AR.step rfl rfl rfl (AO.jL (i:=1) rfl rfl rfl G8 rfl rfl ?_); refine AR.step rfl rfl rfl (AO.KQ rfl F7 rfl rfl ?_); refine AR.nil [0,6] rfl ?_; refine AW.cond rfl (fun h1=>?_) (fun h1=>?_)
    · cases h1
    · refine AW.seq ?_; refine AW.region ?_; refine AR.step rfl rfl rfl (AO.calc' rfl ?_); refine AR.step rfl rfl rfl (AO.nilCheck rfl rfl ?_); refine AR.step rfl rfl rfl (AO.cK rfl rfl yR ?_); refine AR.step rfl rfl rfl (AO.jL (i:=1) rfl rfl rfl G8 rfl rfl ?_); refine AR.step rfl rfl rfl (AO.calc' rfl ?_); refine AR.step rfl rfl rfl (AO.HV rfl F7 hj1 rfl rfl ?_); refine AR.nil [19] rfl ?_; refine AW.cond rfl (fun h2=>?_) (fun h2=>?_)
      · cases h2
      · refine AW.skip ?_; exact ⟨rfl,[],rfl,_,List.Sublist.refl _,h⟩
theorem Fe {b:Nat} {q:PV} {v p:Value} {bs r:List UInt8} (hp:p=Value.pointer none∨p=.pointer (some ⟨b,1,none⟩)) (hroom:roomy v=true) {c:UInt8} (hv:app bs [c]=some r) {R:eT→List bA→Prop} (h:∀ v',roomy v'=true→R (.ret (.val .nilIface)) [.row v' (List.length r) 1 5,.kY b 74 [q,.val (.pointer (some ⟨b,1,none⟩)),.own v' (List.map iQ r)]]):AC Tryz.prog 28 [.val (.pointer (some ⟨b,1,none⟩)),.int .u8 (c.toNat:Int)] [.row v (List.length bs) 1 5,.kY b 74 [q,.val p,.own v (List.map iQ bs)]] R:=by
  refine AC.kS 17 [.tmp 4] [0,1] Tryz.func28 rfl rfl rfl rfl rfl ?_; refine AW.seq ?_; refine AW.region ?_; refine AR.step rfl rfl rfl (AO.calc' rfl ?_); refine AR.nil [0,1] rfl ?_; refine AW.seq ?_; refine AW.region ?_; refine AR.step rfl rfl rfl (AO.calc' rfl ?_); refine AR.step rfl rfl rfl (AO.call rfl _ rfl rfl Yk (ND hp ?_)); refine AR.nil [0,1] rfl ?_; refine AW.seq ?_; refine AW.region ?_; refine AR.step rfl rfl rfl (AO.calc' rfl ?_); refine AR.step rfl rfl rfl (AO.calc' rfl ?_); refine AR.step rfl rfl rfl (AO.nilCheck rfl rfl ?_); refine AR.step rfl rfl rfl (AO.cK rfl rfl tq ?_); refine AR.step rfl rfl rfl (AO.jL (i:=1) rfl rfl rfl Bw rfl rfl ?_); refine AR.step rfl rfl rfl (AO.calc' rfl ?_); refine AR.step rfl rfl rfl (AO.buildSlice rfl Ef rfl rfl rfl ?_); refine AR.step rfl rfl rfl (AO.JH (i:=0) hv rfl rfl rfl rfl rfl (Gl.list rfl J8 (by simp [iQ]) (by simp [iQ,PV.one])) rfl Ef (fun v' s1 hs1 hr1=>?_)); cases hs1; refine AR.step rfl rfl rfl (AO.nilCheck rfl rfl ?_); refine AR.step rfl rfl rfl (AO.cK rfl rfl tq ?_); refine AR.dx rfl rfl (AO.qg (i:=1) rfl rfl rfl Bw rfl rfl rfl rfl rfl ?_); refine AR.nil [1] rfl ?_; refine AW.seq ?_; refine AW.region ?_; refine AR.step rfl rfl rfl (AO.calc' rfl ?_); refine AR.nil [4] rfl ?_; refine AW.ret ?_; exact ⟨rfl,_,⟨_,_,rfl,rfl,rfl⟩,_,List.Sublist.refl _,h v' (hr1 hroom)⟩
theorem Zg {b:Nat} {q:PV} {v p:Value} {bs:List UInt8} {R:eT→List bA→Prop} (h:R (.ret (.int .i64 (bs.length:Int))) [.row v (List.length bs) 1 5,.kY b 74 [q,.val p,.own v (List.map iQ bs)]]):AC Tryz.prog 43 [.val (.pointer (some ⟨b,1,none⟩))] [.row v (List.length bs) 1 5,.kY b 74 [q,.val p,.own v (List.map iQ bs)]] R:=by
  refine AC.kS 8 [.tmp 2] [0] Tryz.func43 rfl rfl rfl rfl rfl ?_; refine AW.seq ?_; refine AW.region ?_; refine AR.step rfl rfl rfl (AO.calc' rfl ?_); refine AR.nil [0] rfl ?_; refine AW.seq ?_; refine AW.region ?_; refine AR.step rfl rfl rfl (AO.calc' rfl ?_); refine AR.step rfl rfl rfl (AO.nilCheck rfl rfl ?_); refine AR.step rfl rfl rfl (AO.cK rfl rfl tq ?_); refine AR.step rfl rfl rfl (AO.jL (i:=1) rfl rfl rfl Bw rfl rfl ?_); refine AR.step rfl rfl rfl (AO.aU (l:=bs) rfl rfl rfl rfl J8 rfl rfl ?_); refine AR.step rfl rfl rfl (AO.calc' rfl ?_); refine AR.nil [2] rfl ?_; refine AW.ret ?_; exact ⟨rfl,_,⟨_,_,rfl,rfl,rfl⟩,_,List.Sublist.refl _,h⟩
theorem TP {b:Nat} {q:PV} {v p:Value} {bs:List UInt8} (hroom:roomy v=true) {R:eT→List bA→Prop} (h:R (.ret (.str bs)) [.kY b 74 [q,.val p,.own v (List.map iQ bs)]]):AC Tryz.prog 39 [.val (.pointer (some ⟨b,1,none⟩))] [.row v (List.length bs) 1 5,.kY b 74 [q,.val p,.own v (List.map iQ bs)]] R:=by
  refine AC.kS 14 [.tmp 2] [0] Tryz.func39 rfl rfl rfl rfl rfl ?_; refine AW.seq ?_; refine AW.region ?_; refine AR.step rfl rfl rfl (AO.calc' rfl ?_); refine AR.nil [0] rfl ?_; refine AW.seq ?_; refine AW.draw 10 mixed (by kernel_rfl) rfl ?_; refine Ev.cons rfl rfl rfl (AO.calc' rfl ⟨rfl,rfl⟩) ?_; refine Ev.cons rfl rfl rfl (AO.nilCheck rfl rfl ⟨rfl,rfl⟩) ?_; refine Ev.cons rfl rfl rfl (AO.cK rfl rfl tq ⟨rfl,rfl⟩) ?_; refine Ev.cons rfl rfl rfl (AO.jL (i:=1) rfl rfl rfl Bw rfl rfl ⟨rfl,rfl⟩) ?_; refine Ev.cons rfl rfl rfl (AO.sliceData rfl rfl rfl rfl hroom ⟨rfl,rfl⟩) ?_; refine Ev.cons rfl rfl rfl (AO.calc' rfl ⟨rfl,rfl⟩) ?_; refine Ev.cons rfl rfl rfl (AO.nilCheck rfl rfl ⟨rfl,rfl⟩) ?_; refine Ev.cons rfl rfl rfl (AO.cK rfl rfl tq ⟨rfl,rfl⟩) ?_; refine Ev.cons rfl rfl rfl (AO.jL (i:=1) rfl rfl rfl Bw rfl rfl ⟨rfl,rfl⟩) ?_; refine Ev.cons rfl rfl rfl (AO.aU (l:=bs) rfl rfl rfl rfl J8 rfl rfl ⟨rfl,rfl⟩) ?_; refine Ev.nil ?_; show AR _ _ _ _ _ _ _ _; refine AR.step rfl rfl rfl (AO.NZ rfl rfl rfl rfl XT aex rfl rfl rfl ?_); refine AR.step rfl rfl rfl (AO.calc' rfl ?_); refine AR.nil [2] rfl ?_; refine AW.ret ?_; exact ⟨rfl,_,⟨_,_,rfl,rfl,rfl⟩,_,List.Sublist.refl _,h⟩
theorem NG {b:Nat} {q:PV} {v p:Value} {bs:List UInt8} {R:eT→List bA→Prop} (h:R (.ret (.tuple [])) [.kY b 74 [q,.val (.pointer none),.own (.slice none 0 0) (List.map iQ [])]]):AC Tryz.prog 65 [.val (.pointer (some ⟨b,1,none⟩))] [.kY b 74 [q,.val p,.own v (List.map iQ bs)]] R:=by
  refine AC.kS 8 [] [0] Tryz.func65 rfl rfl rfl rfl rfl ?_; refine AW.seq ?_; refine AW.region ?_; refine AR.step rfl rfl rfl (AO.calc' rfl ?_); refine AR.step rfl rfl rfl (AO.nilCheck rfl rfl ?_); refine AR.step rfl rfl rfl (AO.cK rfl rfl yR ?_); refine AR.dx rfl rfl (AO.qg (i:=0) rfl rfl rfl G8 rfl rfl rfl rfl rfl ?_); refine AR.nil [0] rfl ?_; refine AW.region ?_; refine AR.step rfl rfl rfl (AO.calc' rfl ?_); refine AR.step rfl rfl rfl (AO.nilCheck rfl rfl ?_); refine AR.step rfl rfl rfl (AO.cK rfl rfl tq ?_); refine AR.dx rfl rfl (AO.qg (i:=0) rfl rfl rfl Bw rfl rfl rfl rfl rfl ?_); refine AR.nil [] rfl ?_; exact ⟨rfl,[],rfl,_,List.Sublist.refl _,h⟩
theorem Nu {r0:Str} (hf:Ia=some r0) (h:Q (.ret (.str r0)) τ):PC 26 [] τ Q:=by
 unfold Ia at hf; refine BN 3 [.tmp 0] [] Tryz.func26 Z Z Z Z Z (W 1 Z (AS Z (AO.dw (List.map iQ ([36,123]:List UInt8)) Z Ef Z Z Z Z (AS Z (AO.Cm Z RJ Gw dh Z Z ?_))))); cases hf; exact N 1 Z (Y Z h)
theorem Ae (s1:Str) (vQ:Str) {r0:Bool} (hf:mD s1 vQ=some r0) (h:Q (.ret (.bool r0)) τ):PC 59 [.str s1,.str vQ] τ Q:=by
 unfold mD at hf; refine BN 18 [.tmp 4] [0,1] Tryz.func59 Z Z Z Z Z (W 2 Z (AS Z (AO.bZ Z Z Z Z dh Z (U 1 Z (AS Z (AO.bZ Z Z Z Z dh Z ?_)))))); refine BR hf fun b1 h2 hf=>?_; refine U 2 Z (AR.dH 7 10 17 true [] b1 Z Z (fun h1=>?_) (fun h1=>?_) ?_)
 · replace h2:=jV h1 h2; refine Is 10 h1 Z (U 2 Z (GO Z (AO.bZ Z Z Z Z dh Z ?_))); refine B1 h2 fun x1 h3 h2=>GO Z (AO.mP h3 Z dh Z Z ⟨_,Z⟩ ?_); cases h2; exact dP 3 Z (En [17] Z)
 · refine IF 10 h1 h2 Z fun h2=>?_; cases h2; exact dP 7 Z (En [17] Z)
 cases hf; exact N 1 Z (Y Z h)
theorem yD (s1:Str) (vQ:Str) {r0:Bool} (hf:strings_HasPrefix s1 vQ=some r0) (h:Q (.ret (.bool r0)) τ):PC 27 [.str s1,.str vQ] τ Q:=by
 unfold strings_HasPrefix at hf; refine BN 8 [.tmp 4] [0,1] Tryz.func27 Z Z Z Z Z ?_; refine BR hf fun x1 h1 hf=>?_; refine W 3 Z (CL Z (Ae _ _ h1 ?_)); cases hf; exact N 1 Z (Y Z h)
theorem KJ (s1:Str) (cZ:Int) {r0:Int} (hf:w_ s1 cZ=some r0) (h:Q (.ret (iP r0)) τ):PC 61 [.str s1,iP cZ] τ Q:=by
 unfold w_ at hf; refine BN 27 [.tmp 4] [0,1] Tryz.func61 Z Z Z Z Z (V 4 Z (FT (fun i1=>[(0,.str s1),(5,iP i1)]) (fun i1=>[]) (fun dA i1=>lM s1 dA i1=some r0) BIG (bV (cZ + 1)) Z Z hf (fun _ hz=>bI hz) ?_)); intro dA i1 hf; rw [lM] at hf; refine W 2 Z (AS Z (AO.bZ Z Z Z Z dh Z (J 1 Z (C hf Z (fun h1 hf=>?_) fun h1 hf=>?_))))
 ·
  refine B1 hf fun x1 h2 hf=>W 2 Z (AS Z (AO.dB h2 Z dh Z Z (J 2 Z (C hf Z (fun h3 hf=>?_) fun h3 hf=>?_))))
  · exact M 6 Z ⟨(bV ((bV (i1 + 1)) + 1)),Z,Z,Z,hf⟩
  refine V 2 Z (C hf Z (fun h4 hf=>?_) fun h4 hf=>?_)
  · cases hf; exact M 3 Z (Y Z h)
  exact M 3 Z ⟨(bV (i1 + 1)),Z,Z,Z,hf⟩
 refine W 1 Z (AS Z (AO.bZ Z Z Z Z dh Z ?_)); cases hf; exact N 1 Z (Y Z h)
theorem JC (s1:Str) (cZ:Int) {r0:Int} (hf:wo s1 cZ=some r0) (h:Q (.ret (iP r0)) τ):PC 29 [.str s1,iP cZ] τ Q:=by
 unfold wo at hf; refine BN 31 [.tmp 4] [0,1] Tryz.func29 Z Z Z Z Z (V 2 Z (Rk (fun at2 eY=>[(0,.str s1),(1,iP at2),(5,iP eY)]) (fun at2 eY=>[]) (fun dA at2 eY=>iB s1 dA at2 eY=some r0) BIG cZ 0 Z Z hf (fun _ _ hz=>bI hz) ?_)); intro dA at2 eY hf; rw [iB] at hf; refine W 2 Z (AS Z (AO.bZ Z Z Z Z dh Z (J 1 Z (C hf Z (fun h1 hf=>?_) fun h1 hf=>?_))))
 ·
  refine B1 hf fun x1 h2 hf=>W 2 Z (AS Z (AO.dB h2 Z dh Z Z (J 2 Z (C hf Z (fun h3 hf=>?_) fun h3 hf=>?_))))
  · refine B1 hf fun at3 h4 hf=>W 2 Z (CL Z (KJ _ _ h4 ?_)); exact N 1 Z ⟨at3,eY,Z,Z,Z,hf⟩
  refine V 2 Z (C hf Z (fun h5 hf=>?_) fun h5 hf=>?_)
  · exact M 6 Z ⟨(bV (at2 + 1)),(bV (eY + 1)),Z,Z,Z,hf⟩
  refine V 2 Z (C hf Z (fun h6 hf=>?_) fun h6 hf=>?_)
  ·
   refine V 2 Z (C hf Z (fun h7 hf=>?_) fun h7 hf=>?_)
   · cases hf; exact M 2 Z (Y Z h)
   exact M 6 Z ⟨(bV (at2 + 1)),(bV (eY - 1)),Z,Z,Z,hf⟩
  exact M 3 Z ⟨(bV (at2 + 1)),eY,Z,Z,Z,hf⟩
 cases hf; exact M 1 Z (Y Z h)
theorem JB (nL:Int) {r0:Bool} (hf:wm nL=some r0) (h:Q (.ret (.bool r0)) τ):PC 97 [.int .i32 nL] τ Q:=by
 unfold wm at hf; refine BN 9 [.tmp 2] [0] Tryz.func97 Z Z Z Z Z (W 4 Z (On 3 5 8 [] (nL == 9) Z Z Z Z ?_)); cases hf; exact N 1 Z (Y Z h)
theorem Bp (s1:Str) (cZ:Int) (ER:UInt8→Option Bool) (KW:FuncId) (QS:List PV) (aaB:bM Tryz.prog KW=true) (aaC:∀ a0 b0,ER a0=some b0→∀ {τ:List bA} {Q:eT→List bA→Prop},Q (.ret (.bool b0)) τ→PC KW ([.int .u8 (a0.toNat:Int)] ++ QS) τ Q) {r0:Int} (hf:vw s1 cZ ER=some r0) (h:Q (.ret (iP r0)) τ):PC 98 [.str s1,iP cZ,.fn KW QS] τ Q:=by
 unfold vw at hf; refine BN 21 [.tmp 6] [0,1,2] Tryz.func98 Z Z Z Z Z (V 1 Z (FT (fun at2=>[(0,.str s1),(1,iP at2),(2,.fn KW QS)]) (fun at2=>[]) (fun dA at2=>pI s1 ER dA at2=some r0) BIG cZ Z Z hf (fun _ hz=>bI hz) ?_)); intro dA at2 hf; rw [pI] at hf; refine W 2 Z (AS Z (AO.bZ Z Z Z Z dh Z ?_)); refine B1 hf fun b1 h2 hf=>U 2 Z (AR.dH 6 11 17 true [0,1,2] b1 Z Z (fun h1=>?_) (fun h1=>?_) ?_)
 · refine IT 11 h1 h2 Z fun h2=>?_; refine B1 h2 fun x1 h3 h2=>U 3 Z (GO Z (AO.dB h3 Z dh Z Z ?_)); refine BR h2 fun x2 h4 h2=>?_; refine GO Z (AO.call Z _ Z Z aaB (aaC _ _ h4 ?_)); cases h2; exact dP 1 Z (En [17,0,1,2] Z)
 · refine IF 11 h1 h2 Z fun h2=>?_; cases h2; exact dP 6 Z (En [17,0,1,2] Z)
 refine J 0 Z (C hf Z (fun h5 hf=>?_) fun h5 hf=>?_)
 · exact M 3 Z ⟨(bV (at2 + 1)),Z,Z,Z,hf⟩
 cases hf; exact M 2 Z (Y Z h)
theorem JA (c1:UInt8) {r0:Bool} (hf:r_ c1=some r0) (h:Q (.ret (.bool r0)) τ):PC 99 [.int .u8 (c1.toNat:Int)] τ Q:=by
 unfold r_ at hf; refine BN 5 [.tmp 2] [0] Tryz.func99 Z Z Z Z Z ?_; cases hf; exact M 4 Z (Y Z h)
theorem zY (c1:UInt8) {r0:Bool} (hf:ql c1=some r0) (h:Q (.ret (.bool r0)) τ):PC 166 [.int .u8 (c1.toNat:Int)] τ Q:=by
 unfold ql at hf; refine BN 21 [.tmp 2] [0] Tryz.func166 Z Z Z Z Z (W 4 Z (An 3 5 8 [0] (decide ((c1.toNat:Int)≤122)) Z Z Z Z (U 1 Z (AR.or 7 9 16 [0] (x:=((decide (65≤(c1.toNat:Int))) && (decide ((c1.toNat:Int)≤90)))) Z Z (fun h2=>?_) (fun h2=>?_) ?_))))
 · refine Is 9 h2 Z (U 3 Z (An 3 12 15 [0,9] (decide ((c1.toNat:Int)≤90)) Z Z Z Z ?_)); exact dP 1 Z (En [16,0] Z)
 · refine Is 9 h2 Z ?_; exact dP 7 Z (En [16,0] Z)
 refine U 1 Z (On 3 17 20 [] ((c1.toNat:Int) == 95) Z Z Z Z ?_); cases hf; exact N 1 Z (Y Z h)
theorem xu (c1:UInt8) {r0:Bool} (hf:qc c1=some r0) (h:Q (.ret (.bool r0)) τ):PC 168 [.int .u8 (c1.toNat:Int)] τ Q:=by
 unfold qc at hf; refine BN 9 [.tmp 2] [0] Tryz.func168 Z Z Z Z Z (W 4 Z (An 3 5 8 [] (decide ((c1.toNat:Int)≤57)) Z Z Z Z ?_)); cases hf; exact N 1 Z (Y Z h)
theorem Ns (c1:UInt8) {r0:Bool} (hf:sV c1=some r0) (h:Q (.ret (.bool r0)) τ):PC 240 [.int .u8 (c1.toNat:Int)] τ Q:=by
 unfold sV at hf; refine BN 9 [.tmp 2] [0] Tryz.func240 Z Z Z Z Z ?_; refine B1 hf fun x1 h1 hf=>W 2 Z (CL Z (zY _ h1 ?_)); refine BR hf fun b1 h3 hf=>?_; refine U 1 Z (AR.dH 3 5 8 false [] b1 Z Z (fun h2=>?_) (fun h2=>?_) ?_)
 · refine IF 5 h2 h3 Z fun h3=>?_; refine BR h3 fun x2 h4 h3=>?_; refine U 1 Z (GO Z (AO.call Z _ Z Z Yp (xu _ h4 ?_))); cases h3; exact dP 1 Z (En [8] Z)
 · refine IT 5 h2 h3 Z fun h3=>?_; cases h3; exact dP 3 Z (En [8] Z)
 cases hf; exact N 1 Z (Y Z h)
theorem Q8 (bN:Str) (cZ:Int) {r0:av} {r1:Int} {r2:Int} (hf:zO bN cZ=some (r0,r1,r2)) (h:Q (.ret (.tuple [.agg (ny r0),iP r1,iP r2])) τ):PC 167 [.str bN,iP cZ] τ Q:=by
 unfold zO at hf; refine BN 23 [.cell 4 116,.tmp 5,.tmp 6] [0,1] Tryz.func167 Z Z Z Z Z (W 0 Z (AS Z (AO.aN Z oQ (fun b4=>?_)))); refine B1 hf fun qx h1 hf=>U 4 Z (CL Z (Bp _ _ sV 240 [] abW (fun _ _ hz=>Ns _  hz) h1 (J 5 Z (C hf Z (fun h2 hf=>?_) fun h2 hf=>?_))))
 · cases hf; exact Wx 4 [0] Z Z (ZC [0] Z Z h)
 refine B1 hf fun x1 h3 hf=>W 3 Z (AS Z (AO.mP h3 Z dh Z ⟨_,Z⟩ ⟨_,Z⟩ ?_)); cases hf; exact Rx 6 [0] Z Z (ZC [0] Z Z h)
theorem OQ (xq:Str) {r0:Bool} (hf:Ay xq=some r0) (h:Q (.ret (.bool r0)) τ):PC 241 [.str xq] τ Q:=by
 unfold Ay at hf; refine BN 25 [.tmp 2] [0] Tryz.func241 Z Z Z Z Z (V 3 Z (Rk (fun n1 i1=>[(0,.str xq),(3,iP n1),(4,iP i1)]) (fun n1 i1=>[]) (fun dA n1 i1=>pJ xq dA n1 i1=some r0) BIG 0 0 Z Z hf (fun _ _ hz=>bI hz) ?_)); intro dA n1 i1 hf; rw [pJ] at hf; refine W 2 Z (AS Z (AO.bZ Z Z Z Z dh Z (U 2 Z (An 3 9 12 [0,3,4] (decide (n1≤9007199254740992)) Z Z Z Z (J 0 Z (C hf Z (fun h2 hf=>?_) fun h2 hf=>?_))))))
 · refine B1 hf fun x1 h3 hf=>W 4 Z (AS Z (AO.dB h3 Z dh Z Z (AS Z (AO.P8 x1 48 Z Z Z Z Z (AS Z (AO.vB Z Gw N7 Z Z ?_)))))); exact N 5 Z ⟨(bV ((bV (10 * n1)) + ((x1 - 48).toNat:Int))),(bV (i1 + 1)),Z,Z,Z,hf⟩
 cases hf; exact M 3 Z (Y Z h)
theorem Nr (bN:Str) (cZ:Int) {r0:av} {r1:Int} {r2:Int} (hf:wh bN cZ=some (r0,r1,r2)) (h:Q (.ret (.tuple [.agg (ny r0),iP r1,iP r2])) τ):PC 169 [.str bN,iP cZ] τ Q:=by
 unfold wh at hf; refine BN 44 [.cell 4 116,.tmp 5,.tmp 6] [0,1] Tryz.func169 Z Z Z Z Z (W 0 Z (AS Z (AO.aN Z oQ (fun b4=>?_)))); refine B1 hf fun qx h1 hf=>U 4 Z (CL Z (Bp _ _ qc 168 [] Yp (fun _ _ hz=>xu _  hz) h1 ?_)); refine B1 hf fun text1 h2 hf=>U 4 Z (AS Z (AO.mP h2 Z dh Z ⟨_,Z⟩ ⟨_,Z⟩ (U 2 Z (AS Z (AO.bZ Z Z Z Z dh Z ?_))))); refine B1 hf fun b1 h4 hf=>U 2 Z (AR.dH 4 19 23 true [0,1,4,7,8] b1 Z Z (fun h3=>?_) (fun h3=>?_) ?_)
 · refine IT 19 h3 h4 Z fun h4=>?_; refine B1 h4 fun x1 h5 h4=>U 1 Z (GO Z (AO.dB h5 Z dh Z Z ?_)); cases h4; exact dP 2 Z (En [23,0,1,4,7,8] Z)
 · refine IF 19 h3 h4 Z fun h4=>?_; cases h4; exact dP 4 Z (En [23,0,1,4,7,8] Z)
 refine B1 hf fun b2 h7 hf=>U 1 Z (AR.dH 11 24 35 false [1,4,7,8] b2 Z Z (fun h6=>?_) (fun h6=>?_) ?_)
 ·
  replace h7:=jg h6 h7; refine Is 24 h6 Z (U 2 Z (GO Z (AO.bZ Z Z Z Z dh Z ?_))); refine BR h7 fun b3 h9 h7=>?_; refine U 2 Z (AR.dH 5 29 34 true [1,4,7,8,24] b3 Z Z (fun h8=>?_) (fun h8=>?_) ?_)
  · refine IT 29 h8 h9 Z fun h9=>?_; refine B1 h9 fun x2 h10 h9=>U 2 Z (GO Z (AO.dB h10 Z dh Z Z ?_)); refine BR h9 fun x3 h11 h9=>?_; refine GO Z (AO.call Z _ Z Z ab7 (zY _ h11 ?_)); cases h9; exact dP 1 Z (En [34,1,4,7,8,24] Z)
  · refine IF 29 h8 h9 Z fun h9=>?_; cases h9; exact dP 5 Z (En [34,1,4,7,8,24] Z)
  cases h7; exact dP 1 Z (En [35,1,4,7,8] Z)
 · refine IT 24 h6 h7 Z fun h7=>?_; cases h7; exact dP 11 Z (En [35,1,4,7,8] Z)
 refine J 0 Z (C hf Z (fun h12 hf=>?_) fun h12 hf=>?_)
 · cases hf; exact Wx 4 [0] Z Z (ZC [0] Z Z h)
 refine B1 hf fun x4 kL hf=>W 1 Z (CL Z (OQ _ kL (J 0 Z (C hf Z (fun lD hf=>?_) fun lD hf=>?_))))
 · cases hf; exact Wx 4 [0] Z Z (ZC [0] Z Z h)
 cases hf; exact Wx 7 [0] Z Z (ZC [0] Z Z h)
theorem xW (c1:UInt8) {r0:Int} (hf:sW c1=some r0) (h:Q (.ret (iP r0)) τ):PC 310 [.int .u8 (c1.toNat:Int)] τ Q:=by
 unfold sW at hf; refine BN 31 [.tmp 2] [0] Tryz.func310 Z Z Z Z Z ?_; refine B1 hf fun x1 h1 hf=>W 2 Z (CL Z (xu _ h1 (J 1 Z (C hf Z (fun h2 hf=>?_) fun h2 hf=>?_))))
 · refine W 1 Z (AS Z (AO.P8 c1 48 Z Z Z Z Z (AS Z (AO.vB Z Gw N7 Z Z ?_)))); cases hf; exact N 1 Z (Y Z h)
 refine W 3 Z (An 3 12 15 [0] (decide ((c1.toNat:Int)≤102)) Z Z Z Z (J 1 Z (C hf Z (fun h4 hf=>?_) fun h4 hf=>?_)))
 · refine W 1 Z (AS Z (AO.P8 c1 97 Z Z Z Z Z (AS Z (AO.vB Z Gw N7 Z Z ?_)))); cases hf; exact N 2 Z (Y Z h)
 refine W 3 Z (An 3 23 26 [0] (decide ((c1.toNat:Int)≤70)) Z Z Z Z (J 1 Z (C hf Z (fun h6 hf=>?_) fun h6 hf=>?_)))
 · refine W 1 Z (AS Z (AO.P8 c1 65 Z Z Z Z Z (AS Z (AO.vB Z Gw N7 Z Z ?_)))); cases hf; exact N 2 Z (Y Z h)
 cases hf; exact M 1 Z (Y Z h)
theorem KI (bN:Str) (cZ:Int) {r0:UInt8} {r1:Int} (hf:uy bN cZ=some (r0,r1)) (h:Q (.ret (.tuple [.int .u8 (r0.toNat:Int),iP r1])) τ):PC 242 [.str bN,iP cZ] τ Q:=by
 unfold uy at hf; refine BN 61 [.tmp 4,.tmp 5] [0,1] Tryz.func242 Z Z Z Z Z (W 5 Z (AS Z (AO.bZ Z Z Z Z dh Z (J 1 Z (C hf Z (fun h1 hf=>?_) fun h1 hf=>?_)))))
 · cases hf; exact M 2 Z (Y Z h)
 refine B1 hf fun c1 h2 hf=>W 3 Z (AS Z (AO.dB h2 Z dh Z Z (J 4 Z (C hf Z (fun h3 hf=>?_) fun h3 hf=>?_))))
 ·
  refine V 0 Z (AW.cond Z (fun h4=>?_) (fun h4=>?_))
  · cases hf; exact M 3 Z (Y Z h)
  cases h3.symm.trans h4
 refine V 2 Z (C hf Z (fun h5 hf=>?_) fun h5 hf=>?_)
 · cases hf; exact M 3 Z (Y Z h)
 refine V 2 Z (C hf Z (fun h6 hf=>?_) fun h6 hf=>?_)
 · cases hf; exact M 2 Z (Y Z h)
 refine V 2 Z (C hf Z (fun h7 hf=>?_) fun h7 hf=>?_)
 · cases hf; exact M 2 Z (Y Z h)
 refine V 2 Z (C hf Z (fun h8 hf=>?_) fun h8 hf=>?_)
 ·
  refine W 3 Z (AS Z (AO.bZ Z Z Z Z dh Z ?_)); refine B1 hf fun b1 h10 hf=>U 2 Z (AR.dH 7 32 39 true [0,1] b1 Z Z (fun h9=>?_) (fun h9=>?_) ?_)
  · refine IT 32 h9 h10 Z fun h10=>?_; refine B1 h10 fun x1 h11 h10=>U 3 Z (GO Z (AO.dB h11 Z dh Z Z ?_)); refine B1 h10 fun x2 h12 h10=>GO Z (AO.call Z _ Z Z LW (xW _ h12 ?_)); cases h10; exact dP 2 Z (En [39,0,1] Z)
  · refine IF 32 h9 h10 Z fun h10=>?_; cases h10; exact dP 7 Z (En [39,0,1] Z)
  refine B1 hf fun b2 lD hf=>U 1 Z (AR.dH 7 40 47 true [0,1] b2 Z Z (fun kL=>?_) (fun kL=>?_) ?_)
  · refine IT 40 kL lD Z fun lD=>?_; refine B1 lD fun x3 nT lD=>U 3 Z (GO Z (AO.dB nT Z dh Z Z ?_)); refine B1 lD fun x4 h16 lD=>GO Z (AO.call Z _ Z Z LW (xW _ h16 ?_)); cases lD; exact dP 2 Z (En [47,0,1] Z)
  · refine IF 40 kL lD Z fun lD=>?_; cases lD; exact dP 7 Z (En [47,0,1] Z)
  refine J 0 Z (C hf Z (fun wP hf=>?_) fun wP hf=>?_)
  ·
   refine V 0 Z (AW.draw 15 mixed (by kernel_rfl) Z ?_); refine Ev.cs bL 3 Z ?_; refine B1 hf fun x5 h18 hf=>Ev.cons Z Z Z (AO.dB h18 Z dh Z Z zg) ?_; refine B1 hf fun x6 h19 hf=>Ev.cons Z Z Z (AO.call Z _ Z Z LW (xW _ h19 zg)) (Ev.cs bL 4 Z ?_); refine B1 hf fun x7 h20 hf=>Ev.cons Z Z Z (AO.dB h20 Z dh Z Z zg) ?_; refine B1 hf fun x8 h21 hf=>Ev.cons Z Z Z (AO.call Z _ Z Z LW (xW _ h21 zg)) (Ev.cs bL 1 Z (Ev.cons Z Z Z (AO.Td Z N7 Gw Z zg) (Ev.cs bL 2 Z ?_))); refine Ev.nil ?_; show AR _ _ _ _ _ _ _ _; cases hf; exact N 0 Z (Y Z h)
  cases hf; exact M 2 Z (Y Z h)
 cases hf; exact M 2 Z (Y Z h)
theorem OP (bN:Str) (cZ:Int) {r0:Bool} (hf:xP bN cZ=some r0) (h:Q (.ret (.bool r0)) τ):PC 243 [.str bN,iP cZ] τ Q:=by
 unfold xP at hf; refine BN 32 [.tmp 4] [0,1] Tryz.func243 Z Z Z Z Z ?_; refine B1 hf fun Ei h1 hf=>W 4 Z (AS Z (AO.mP h1 Z dh Z ⟨_,Z⟩ Z (U 4 Z (On 3 12 15 [5] (Ei == ([120]:Str)) Z Z Z Z ?_)))); refine BR hf fun b1 h4 hf=>?_; refine U 1 Z (AR.dH 15 16 31 false [] b1 Z Z (fun h3=>?_) (fun h3=>?_) ?_)
 ·
  replace h4:=jg h3 h4; refine Is 16 h3 Z (U 1 Z (GO Z (AO.bZ Z Z Z Z dh Z ?_))); refine B1 h4 fun b2 h6 h4=>U 2 Z (AR.dH 4 20 24 true [5,16] b2 Z Z (fun h5=>?_) (fun h5=>?_) ?_)
  · refine IT 20 h5 h6 Z fun h6=>?_; refine B1 h6 fun x1 h7 h6=>U 1 Z (GO Z (AO.dB h7 Z dh Z Z ?_)); cases h6; exact dP 2 Z (En [24,5,16] Z)
  · refine IF 20 h5 h6 Z fun h6=>?_; cases h6; exact dP 4 Z (En [24,5,16] Z)
  refine BR h4 fun b3 h9 h4=>?_; refine U 1 Z (AR.dH 5 25 30 true [16] b3 Z Z (fun h8=>?_) (fun h8=>?_) ?_)
  · refine IT 25 h8 h9 Z fun h9=>?_; refine B1 h9 fun x2 h10 h9=>U 1 Z (GO Z (AO.dB h10 Z dh Z Z ?_)); refine B1 h9 fun x3 h11 h9=>GO Z (AO.call Z _ Z Z LW (xW _ h11 ?_)); cases h9; exact dP 2 Z (En [30,16] Z)
  · refine IF 25 h8 h9 Z fun h9=>?_; cases h9; exact dP 5 Z (En [30,16] Z)
  cases h4; exact dP 1 Z (En [31] Z)
 · refine IT 16 h3 h4 Z fun h4=>?_; cases h4; exact dP 15 Z (En [31] Z)
 cases hf; exact N 1 Z (Y Z h)
theorem Q7 (bN:Str) (cZ:Int) {r0:av} {r1:Int} {r2:Int} (hf:zN bN cZ=some (r0,r1,r2)) (h:Q (.ret (.tuple [.agg (ny r0),iP r1,iP r2])) τ):PC 170 [.str bN,iP cZ] τ Q:=by
 unfold zN at hf; refine BN 68 [.cell 4 116,.tmp 5,.tmp 6] [0,1] Tryz.func170 Z Z Z Z Z (W 0 Z (AS Z (AO.aN Z oQ (fun b4=>(U 2 Z (AS Z (AO.JI (eu:=5) Z XI Z (fun b7=>(J 3 Z (LK3 (fun i1 b1 v1=>[(0,.str bN),(1,iP cZ),(4,pP b4),(7,pP b7),(8,iP i1)]) (fun i1 b1 v1=>[.Ir b7 v1 72 5 b1,.box b4 [iP 0,.str ([]:Str),iP 0]]) (fun dA i1 b1 v1=>oW bN cZ dA i1 b1=some (r0,r1,r2)) BIG (bV (cZ + 1)) [] (.slice none 0 0) Z Z hf (fun _ _ _ hz=>bI hz) ?_)))))))))); intro dA i1 b1 v1 hf; rw [oW] at hf; refine W 2 Z (AS Z (AO.bZ Z Z Z Z dh Z (J 1 Z (C hf Z (fun h1 hf=>?_) fun h1 hf=>?_))))
 ·
  refine B1 hf fun c1 h2 hf=>W 2 Z (AS Z (AO.dB h2 Z dh Z Z (J 4 Z (C hf Z (fun h3 hf=>?_) fun h3 hf=>?_))))
  ·
   refine W 0 Z (CL Z (AC.one 0 Z (PI ⟨_,Z,(J 1 Z (C hf Z (fun h4 hf=>?_) fun h4 hf=>?_))⟩)))
   · cases hf; exact Wx 4 [1] Z Z (ZC [1] Z Z h)
   refine W 0 Z (CL Z (AC.Qq 0 Z (Dg ?_))); cases hf; exact Rx 7 [0] Z Z (ZC [0] Z Z h)
  refine V 3 Z (C hf Z (fun h5 hf=>?_) fun h5 hf=>?_)
  · cases hf; exact Wx 4 [1] Z Z (ZC [1] Z Z h)
  refine V 3 Z (C hf Z (fun h6 hf=>?_) fun h6 hf=>?_)
  ·
   obtain ⟨x1,n1,h7,hf⟩:=dX hf; refine W 2 Z (CL Z (KI _ _ h7 ?_)); refine B1 hf fun b2 h9 hf=>U 8 Z (AR.dH 4 52 56 true [0,1,4,7,8,10,11] b2 Z Z (fun h8=>?_) (fun h8=>?_) ?_)
   · refine IT 52 h8 h9 Z fun h9=>?_; refine BR h9 fun x2 h10 h9=>?_; refine U 2 Z (GO Z (AO.call Z _ Z Z abV (OP _ _ h10 ?_))); cases h9; exact dP 1 Z (En [56,0,1,4,7,8,10,11] Z)
   · refine IF 52 h8 h9 Z fun h9=>?_; cases h9; exact dP 4 Z (En [56,0,1,4,7,8,10,11] Z)
   refine J 1 Z (C hf Z (fun h11 hf=>?_) fun h11 hf=>?_)
   · cases hf; exact Wx 4 [1] Z Z (ZC [1] Z Z h)
   refine V 3 Z (C hf Z (fun h12 hf=>?_) fun h12 hf=>?_)
   · cases hf; exact Wx 4 [1] Z Z (ZC [1] Z Z h)
   refine B1 hf fun b3 kL hf=>W 1 Z (CL Z (AC.one 0 Z (DJ kL (fun v2=>⟨_,Z,?_⟩)))); exact N 4 Z ⟨(bV (i1 + n1)),b3,v2,Z,Z,Z,hf⟩
  refine B1 hf fun b4 lD hf=>W 1 Z (CL Z (AC.one 0 Z (DJ lD (fun v3=>⟨_,Z,?_⟩)))); exact N 3 Z ⟨(bV (i1 + 1)),b4,v3,Z,Z,Z,hf⟩
 cases hf; exact Wx 4 [1] Z Z (ZC [1] Z Z h)
theorem Jy (bN:Str) (cZ:Int) {r0:av} {r1:Int} {r2:Int} (hf:rZ bN cZ=some (r0,r1,r2)) (h:Q (.ret (.tuple [.agg (ny r0),iP r1,iP r2])) τ):PC 171 [.str bN,iP cZ] τ Q:=by
 unfold rZ at hf; refine BN 63 [.cell 4 116,.tmp 5,.tmp 6] [0,1] Tryz.func171 Z Z Z Z Z (W 0 Z (AS Z (AO.aN Z oQ (fun b4=>(U 2 Z (AS Z (AO.dw (List.map YP ([2,1]:List Int)) Z X9 Z Z Z Z (AS Z (AO.aU (l:=([2,1]:List Int)) Z Z Z Z QF Z Z ?_))))))))); refine J 1 Z (FT (fun x1=>[(0,.str bN),(1,iP cZ),(4,pP b4),(10,.list (List.map YP ([2,1]:List Int))),(11,iP (([2,1]:List Int).length:Int)),(12,iP x1)]) (fun x1=>[.box b4 [iP 0,.str ([]:Str),iP 0]]) (fun dA x1=>jk bN cZ dA x1=some (r0,r1,r2)) BIG 0 Z Z hf (fun _ hz=>bI hz) ?_); intro dA x1 hf; rw [jk] at hf; refine V 1 Z (C hf Z (fun h1 hf=>?_) fun h1 hf=>?_)
 ·
  refine B1 hf fun n1 h2 hf=>W 0 Z (AS Z (AO.bF h2 Z Z Z Z QF Z Z (U 6 Z (AS Z (AO.bZ Z Z Z Z dh Z (J 1 Z (C hf Z (fun h3 hf=>?_) fun h3 hf=>?_)))))))
  · exact M 2 Z ⟨(bV (x1 + 1)),Z,Z,Z,hf⟩
  refine B1 hf fun s1 h4 hf=>W 5 Z (AS Z (AO.mP h4 Z dh Z ⟨_,Z⟩ ⟨_,Z⟩ (J 4 Z (C hf Z (fun h5 hf=>?_) fun h5 hf=>?_))))
  ·
   refine V 0 Z (AW.cond Z (fun h6=>?_) (fun h6=>?_))
   · cases hf; exact Wx 9 [0] Z Z (ZC [0] Z Z h)
   cases h5.symm.trans h6
  refine V 2 Z (C hf Z (fun h7 hf=>?_) fun h7 hf=>?_)
  ·
   refine V 0 Z (AW.cond Z (fun h8=>?_) (fun h8=>?_))
   · cases hf; exact Wx 9 [0] Z Z (ZC [0] Z Z h)
   cases h7.symm.trans h8
  refine V 2 Z (C hf Z (fun h9 hf=>?_) fun h9 hf=>?_)
  ·
   refine V 0 Z (AW.cond Z (fun h10=>?_) (fun h10=>?_))
   · cases hf; exact Wx 9 [0] Z Z (ZC [0] Z Z h)
   cases h9.symm.trans h10
  refine V 2 Z (C hf Z (fun h11 hf=>?_) fun h11 hf=>?_)
  ·
   refine V 0 Z (AW.cond Z (fun h12=>?_) (fun h12=>?_))
   · cases hf; exact Wx 9 [0] Z Z (ZC [0] Z Z h)
   cases h11.symm.trans h12
  refine V 2 Z (C hf Z (fun kL hf=>?_) fun kL hf=>?_)
  ·
   refine V 0 Z (AW.cond Z (fun lD=>?_) (fun lD=>?_))
   · cases hf; exact Wx 9 [0] Z Z (ZC [0] Z Z h)
   cases kL.symm.trans lD
  refine V 2 Z (C hf Z (fun nT hf=>?_) fun nT hf=>?_)
  ·
   refine V 0 Z (AW.cond Z (fun h16=>?_) (fun h16=>?_))
   · cases hf; exact Wx 9 [0] Z Z (ZC [0] Z Z h)
   cases nT.symm.trans h16
  refine V 2 Z (C hf Z (fun wP hf=>?_) fun wP hf=>?_)
  ·
   refine V 0 Z (AW.cond Z (fun h18=>?_) (fun h18=>?_))
   · cases hf; exact Wx 9 [0] Z Z (ZC [0] Z Z h)
   cases wP.symm.trans h18
  refine V 2 Z (C hf Z (fun h19 hf=>?_) fun h19 hf=>?_)
  ·
   refine V 0 Z (AW.cond Z (fun h20=>?_) (fun h20=>?_))
   · cases hf; exact Wx 9 [0] Z Z (ZC [0] Z Z h)
   cases h19.symm.trans h20
  refine V 2 Z (C hf Z (fun h21 hf=>?_) fun h21 hf=>?_)
  ·
   refine V 0 Z (AW.cond Z (fun h22=>?_) (fun h22=>?_))
   · cases hf; exact Wx 9 [0] Z Z (ZC [0] Z Z h)
   cases h21.symm.trans h22
  refine V 2 Z (C hf Z (fun h23 hf=>?_) fun h23 hf=>?_)
  ·
   refine V 0 Z (AW.cond Z (fun Du=>?_) (fun Du=>?_))
   · cases hf; exact Wx 9 [0] Z Z (ZC [0] Z Z h)
   cases h23.symm.trans Du
  refine V 2 Z (C hf Z (fun IB hf=>?_) fun IB hf=>?_)
  ·
   refine V 0 Z (AW.cond Z (fun Qw=>?_) (fun Qw=>?_))
   · cases hf; exact Wx 9 [0] Z Z (ZC [0] Z Z h)
   cases IB.symm.trans Qw
  refine V 2 Z (C hf Z (fun h27 hf=>?_) fun h27 hf=>?_)
  ·
   refine V 0 Z (AW.cond Z (fun Ol=>?_) (fun Ol=>?_))
   · cases hf; exact Wx 9 [0] Z Z (ZC [0] Z Z h)
   cases h27.symm.trans Ol
  refine V 2 Z (C hf Z (fun W9 hf=>?_) fun W9 hf=>?_)
  ·
   refine V 0 Z (AW.cond Z (fun WZ=>?_) (fun WZ=>?_))
   · cases hf; exact Wx 9 [0] Z Z (ZC [0] Z Z h)
   cases W9.symm.trans WZ
  refine V 2 Z (C hf Z (fun h31 hf=>?_) fun h31 hf=>?_)
  ·
   refine V 0 Z (AW.cond Z (fun h32=>?_) (fun h32=>?_))
   · cases hf; exact Wx 9 [0] Z Z (ZC [0] Z Z h)
   cases h31.symm.trans h32
  refine V 2 Z (C hf Z (fun Qv hf=>?_) fun Qv hf=>?_)
  ·
   refine V 0 Z (AW.cond Z (fun F3=>?_) (fun F3=>?_))
   · cases hf; exact Wx 9 [0] Z Z (ZC [0] Z Z h)
   cases Qv.symm.trans F3
  refine V 2 Z (C hf Z (fun Pp hf=>?_) fun Pp hf=>?_)
  ·
   refine V 0 Z (AW.cond Z (fun WY=>?_) (fun WY=>?_))
   · cases hf; exact Wx 9 [0] Z Z (ZC [0] Z Z h)
   cases Pp.symm.trans WY
  refine V 2 Z (C hf Z (fun h37 hf=>?_) fun h37 hf=>?_)
  ·
   refine V 0 Z (AW.cond Z (fun XE=>?_) (fun XE=>?_))
   · cases hf; exact Wx 9 [0] Z Z (ZC [0] Z Z h)
   cases h37.symm.trans XE
  refine V 2 Z (C hf Z (fun NS hf=>?_) fun NS hf=>?_)
  ·
   refine V 0 Z (AW.cond Z (fun YX=>?_) (fun YX=>?_))
   · cases hf; exact Wx 9 [0] Z Z (ZC [0] Z Z h)
   cases NS.symm.trans YX
  refine V 2 Z (C hf Z (fun ZK hf=>?_) fun ZK hf=>?_)
  ·
   refine V 0 Z (AW.cond Z (fun UK=>?_) (fun UK=>?_))
   · cases hf; exact Wx 9 [0] Z Z (ZC [0] Z Z h)
   cases ZK.symm.trans UK
  refine V 2 Z (C hf Z (fun h43 hf=>?_) fun h43 hf=>?_)
  ·
   refine V 0 Z (AW.cond Z (fun YW=>?_) (fun YW=>?_))
   · cases hf; exact Wx 9 [0] Z Z (ZC [0] Z Z h)
   cases h43.symm.trans YW
  refine V 2 Z (C hf Z (fun h45 hf=>?_) fun h45 hf=>?_)
  ·
   refine V 0 Z (AW.cond Z (fun h46=>?_) (fun h46=>?_))
   · cases hf; exact Wx 9 [0] Z Z (ZC [0] Z Z h)
   cases h45.symm.trans h46
  refine V 2 Z (C hf Z (fun h47 hf=>?_) fun h47 hf=>?_)
  ·
   refine V 0 Z (AW.cond Z (fun h48=>?_) (fun h48=>?_))
   · cases hf; exact Wx 9 [0] Z Z (ZC [0] Z Z h)
   cases h47.symm.trans h48
  refine V 2 Z (C hf Z (fun h49 hf=>?_) fun h49 hf=>?_)
  ·
   refine V 0 Z (AW.cond Z (fun h50=>?_) (fun h50=>?_))
   · cases hf; exact Wx 9 [0] Z Z (ZC [0] Z Z h)
   cases h49.symm.trans h50
  refine V 2 Z (C hf Z (fun h51 hf=>?_) fun h51 hf=>?_)
  ·
   refine V 0 Z (AW.cond Z (fun h52=>?_) (fun h52=>?_))
   · cases hf; exact Wx 9 [0] Z Z (ZC [0] Z Z h)
   cases h51.symm.trans h52
  refine V 2 Z (C hf Z (fun ZJ hf=>?_) fun ZJ hf=>?_)
  · cases hf; exact Wx 9 [0] Z Z (ZC [0] Z Z h)
  exact M 2 Z ⟨(bV (x1 + 1)),Z,Z,Z,hf⟩
 cases hf; exact Wx 4 [0] Z Z (ZC [0] Z Z h)
theorem OO (bN:Str) (cZ:Int) {r0:av} {r1:Int} {r2:Int} (hf:xO bN cZ=some (r0,r1,r2)) (h:Q (.ret (.tuple [.agg (ny r0),iP r1,iP r2])) τ):PC 100 [.str bN,iP cZ] τ Q:=by
 unfold xO at hf; refine BN 44 [.cell 4 116,.tmp 5,.tmp 6] [0,1] Tryz.func100 Z Z Z Z Z (W 0 Z (AS Z (AO.aN Z oQ (fun b4=>?_)))); refine B1 hf fun c1 h1 hf=>U 4 Z (AS Z (AO.dB h1 Z dh Z Z ?_)); refine B1 hf fun x1 h2 hf=>U 2 Z (CL Z (zY _ h2 (J 1 Z (C hf Z (fun h3 hf=>?_) fun h3 hf=>?_))))
 · replace hf:=(pW _).trans hf; obtain ⟨x2,x3,x4,h4,hf⟩:=eD hf; refine W 2 Z (CL Z (Q8 _ _ h4 ?_)); cases hf; exact Rx 6 [0] Z Z (ZC [0] Z Z h)
 refine B1 hf fun x5 h5 hf=>W 1 Z (CL Z (xu _ h5 (J 1 Z (C hf Z (fun h6 hf=>?_) fun h6 hf=>?_))))
 · replace hf:=(pW _).trans hf; obtain ⟨x6,x7,x8,h7,hf⟩:=eD hf; refine W 2 Z (CL Z (Nr _ _ h7 ?_)); cases hf; exact Rx 6 [0] Z Z (ZC [0] Z Z h)
 refine V 3 Z (C hf Z (fun h8 hf=>?_) fun h8 hf=>?_)
 · replace hf:=(pW _).trans hf; obtain ⟨x9,JK,Rs,h9,hf⟩:=eD hf; refine W 2 Z (CL Z (Q7 _ _ h9 ?_)); cases hf; exact Rx 6 [0] Z Z (ZC [0] Z Z h)
 replace hf:=(pW _).trans hf; obtain ⟨Xz,ZH,x14,h10,hf⟩:=eD hf; refine W 2 Z (CL Z (Jy _ _ h10 ?_)); cases hf; exact Rx 6 [0] Z Z (ZC [0] Z Z h)
theorem Jz (op1:Str) (eY:Int) {r0:Int} (hf:r9 op1 eY=some r0) (h:Q (.ret (iP r0)) τ):PC 101 [.str op1,iP eY] τ Q:=by
 unfold r9 at hf; refine BN 18 [.tmp 4] [0,1] Tryz.func101 Z Z Z Z Z (V 4 Z (C hf Z (fun h1 hf=>?_) fun h1 hf=>?_))
 ·
  refine V 0 Z (AW.cond Z (fun h2=>?_) (fun h2=>?_))
  · cases hf; exact M 3 Z (Y Z h)
  cases h1.symm.trans h2
 refine V 2 Z (C hf Z (fun h3 hf=>?_) fun h3 hf=>?_)
 · cases hf; exact M 3 Z (Y Z h)
 refine V 2 Z (C hf Z (fun h4 hf=>?_) fun h4 hf=>?_)
 ·
  refine V 0 Z (AW.cond Z (fun h5=>?_) (fun h5=>?_))
  · refine W 2 Z (AS Z (AO.max2 Z Z Z Z Z ?_)); cases hf; exact N 1 Z (Y Z h)
  cases h4.symm.trans h5
 refine V 2 Z (C hf Z (fun h6 hf=>?_) fun h6 hf=>?_)
 · refine W 2 Z (AS Z (AO.max2 Z Z Z Z Z ?_)); cases hf; exact N 1 Z (Y Z h)
 cases hf; exact M 2 Z (Y Z h)
theorem Nt (bN:Str) {r0:List av} {r1:Int} {r2:Int} (hf:mW bN=some (r0,r1,r2)) (h:Q (.ret (.tuple [.list (List.map av.cells r0),iP r1,iP r2])) τ):PC 62 [.str bN] τ Q:=by
 unfold mW at hf; refine BN 84 [.tmp 2,.tmp 3,.tmp 4] [0] Tryz.func62 Z Z Z Z Z (W 0 Z (AS Z (AO.fq Z Z (U 3 Z (AS Z (AO.bZ Z Z Z Z dh Z (J 1 Z (C hf Z (fun h1 hf=>?_) fun h1 hf=>?_))))))))
 · refine W 0 Z (AS Z (AO.fq Z Z ?_)); cases hf; exact N 2 Z (Y Z h)
 refine W 5 Z (AS Z (AO.Wt Z dh Z (fun ad_=>(J 0 Z (AW.row 3 116 (LK5 (fun dF v1 iZ eY pos1=>[(0,.str bN),(5,.own v1 (List.map av.cells dF)),(6,.fn 97 []),(7,iP iZ),(8,iP eY),(18,pP ad_)]) (fun dF v1 iZ eY pos1=>[.row v1 (List.map av.cells dF).length 3 116,.obj ad_ (.stringIter ⟨List.toArray bN⟩ pos1)]) (fun dA dF v1 iZ eY pos1=>jc bN dA dF iZ eY pos1=some (r0,r1,r2)) BIG [] (.slice none 0 0) 0 0 0 Z Z hf (fun _ _ _ _ _ hz=>bI hz) ?_)))))); intro dA dF v1 iZ eY pos1 hf; rw [jc] at hf; rcases Bool.eq_false_or_eq_true (decide (pos1 < bN.length)) with h2 | h2
 ·
  replace hf:=jV h2 hf; refine W 0 Z (AS Z (AO.YD (i:=1) Z Z Z h2 (J 1 Z (AW.cond Z (fun h3=>?_) (fun h3=>?_)))))
  ·
   refine B1 hf fun b1 h5 hf=>W 8 Z (AR.dH 4 26 30 false [0,5,6,7,8,9,10,18] b1 Z Z (fun h4=>?_) (fun h4=>?_) ?_)
   · refine IF 26 h4 h5 Z fun h5=>?_; refine BR h5 fun x1 h6 h5=>?_; refine U 2 Z (GO Z (AO.call Z _ Z Z adG (JB _ h6 ?_))); cases h5; exact dP 1 Z (En [30,0,5,6,7,8,9,10,18] Z)
   · refine IT 26 h4 h5 Z fun h5=>?_; cases h5; exact dP 4 Z (En [30,0,5,6,7,8,9,10,18] Z)
   refine J 0 Z (C hf Z (fun h7 hf=>?_) fun h7 hf=>?_)
   · exact M 0 Z ⟨dF,v1,iZ,eY,(pos1 + (dec bN pos1).2),Z,Z,Z,hf⟩
   refine V 2 Z (C hf Z (fun h8 hf=>?_) fun h8 hf=>?_)
   · refine B1 hf fun yC h9 hf=>W 2 Z (CL Z (Bp _ _ r_ 99 [] adF (fun _ _ hz=>JA _  hz) h9 ?_)); exact N 1 Z ⟨dF,v1,yC,eY,(pos1 + (dec bN pos1).2),Z,Z,Z,hf⟩
   refine V 2 Z (C hf Z (fun h10 hf=>?_) fun h10 hf=>?_)
   ·
    refine B1 hf fun b2 h12 hf=>W 3 Z (AR.dH 14 40 54 true [0,5,6,7,8,9,18] b2 Z Z (fun h11=>?_) (fun h11=>?_) ?_)
    ·
     replace h12:=jV h11 h12; refine Is 40 h11 Z (U 1 Z (GO Z (AO.aU (l:=dF) Z Z Z Z gX Z Z ?_))); refine BR h12 fun b3 lD h12=>?_; refine U 2 Z (AR.dH 9 44 53 false [0,5,6,7,8,9,18,40] b3 Z Z (fun kL=>?_) (fun kL=>?_) ?_)
     · replace lD:=jg kL lD; refine Is 44 kL Z (U 2 Z (GO Z (AO.aU (l:=dF) Z Z Z Z gX Z Z ?_))); refine B1 lD fun e1 nT lD=>U 1 Z (GO Z (AO.bF nT Z Z Z Z gX (av.aP _) Z ?_)); cases lD; exact dP 4 Z (En [53,0,5,6,7,8,9,18,40] Z)
     · refine IT 44 kL lD Z fun lD=>?_; cases lD; exact dP 9 Z (En [53,0,5,6,7,8,9,18,40] Z)
     cases h12; exact dP 1 Z (En [54,0,5,6,7,8,9,18] Z)
    · refine IF 40 h11 h12 Z fun h12=>?_; cases h12; exact dP 14 Z (En [54,0,5,6,7,8,9,18] Z)
    refine J 0 Z (C hf Z (fun h16 hf=>?_) fun h16 hf=>?_)
    · refine W 3 rfl (AS rfl (AO.dw (List.map av.cells [(av.mk 5 ([]:Str) (pos1:Int))]) rfl Bg rfl rfl rfl (by first | rfl | simp only [List.map,av.aP]) ?_)); refine B1 hf fun yM wP hf=>AS Z (AO.lH (i:=0) (l:=dF) (m:=[(av.mk 5 ([]:Str) (pos1:Int))]) wP Z Z Z Z Z Z Z Bg gX Z Z Z (av.fu) (av.cells_one) (by decide) (fun v2 s1 hs1=>?_)); cases hs1; exact N 1 Z ⟨yM,v2,iZ,eY,(pos1 + (dec bN pos1).2),Z,Z,Z,hf⟩
    exact M 0 Z ⟨dF,v1,iZ,eY,(pos1 + (dec bN pos1).2),Z,Z,Z,hf⟩
   obtain ⟨x2,qx,e2,h18,hf⟩:=eD hf; refine W 2 Z (CL Z (OO _ _ h18 (U 4 Z (AS Z (AO.aN Z oQ (fun b11=>(Rw 5 [0] Z Z (C hf Z (fun h19 hf=>?_) fun h19 hf=>?_))))))))
   · refine W 2 Z (AS Z (AO.fq Z Z ?_)); cases hf; exact N 2 Z (Y Z h)
   refine Ww 3 [0] Z Z (C hf Z (fun h20 hf=>?_) fun h20 hf=>?_)
   · refine B1 hf fun L9 h21 hf=>Wr 3 [0] rfl rfl (CL rfl (Jz _ _ h21 (Rr 3 [0] rfl rfl (AS rfl (AO.dw (List.map av.cells [x2]) rfl Bg rfl rfl rfl (by first | rfl | simp only [List.map,av.aP]) ?_))))); refine B1 hf fun Sk h22 hf=>AS Z (AO.lH (i:=1) (l:=dF) (m:=[x2]) h22 Z Z Z Z Z Z Z Bg gX Z Z Z (av.fu) (av.cells_one) (by decide) (fun v3 s2 hs2=>?_)); cases hs2; refine dP 3 Z (AR.drop1 ?_); exact N 0 Z ⟨Sk,v3,qx,L9,(pos1 + (dec bN pos1).2),Z,Z,Z,hf⟩
   refine Wr 2 [0] rfl rfl (AS rfl (AO.dw (List.map av.cells [x2]) rfl Bg rfl rfl rfl (by first | rfl | simp only [List.map,av.aP]) ?_)); refine B1 hf fun Yw h23 hf=>AS Z (AO.lH (i:=1) (l:=dF) (m:=[x2]) h23 Z Z Z Z Z Z Z Bg gX Z Z Z (av.fu) (av.cells_one) (by decide) (fun v4 s3 hs3=>?_)); cases hs3; refine dP 3 Z (AR.drop1 ?_); exact N 0 Z ⟨Yw,v4,qx,eY,(pos1 + (dec bN pos1).2),Z,Z,Z,hf⟩
  cases h3
 replace hf:=jg h2 hf; refine W 0 Z (AS Z (AO.WJ (i:=1) Z Z Z h2 (J 1 Z (AW.cond Z (fun Du=>?_) (fun Du=>?_)))))
 · cases Du
 cases hf; exact M 4 Z (Y Z h)
theorem Dz (c1:UInt8) {r0:Bool} (hf:uo c1=some r0) (h:Q (.ret (.bool r0)) τ):PC 388 [.int .u8 (c1.toNat:Int)] τ Q:=by
 unfold uo at hf; refine BN 21 [.tmp 2] [0] Tryz.func388 Z Z Z Z Z (W 4 Z (An 3 5 8 [0] (decide ((c1.toNat:Int)≤122)) Z Z Z Z (U 1 Z (AR.or 7 9 16 [0] (x:=((decide (65≤(c1.toNat:Int))) && (decide ((c1.toNat:Int)≤90)))) Z Z (fun h2=>?_) (fun h2=>?_) ?_))))
 · refine Is 9 h2 Z (U 3 Z (An 3 12 15 [0,9] (decide ((c1.toNat:Int)≤90)) Z Z Z Z ?_)); exact dP 1 Z (En [16,0] Z)
 · refine Is 9 h2 Z ?_; exact dP 7 Z (En [16,0] Z)
 refine U 1 Z (On 3 17 20 [] ((c1.toNat:Int) == 95) Z Z Z Z ?_); cases hf; exact N 1 Z (Y Z h)
theorem E9 (c1:UInt8) {r0:Bool} (hf:mV c1=some r0) (h:Q (.ret (.bool r0)) τ):PC 389 [.int .u8 (c1.toNat:Int)] τ Q:=by
 unfold mV at hf; refine BN 9 [.tmp 2] [0] Tryz.func389 Z Z Z Z Z (W 4 Z (An 3 5 8 [] (decide ((c1.toNat:Int)≤57)) Z Z Z Z ?_)); cases hf; exact N 1 Z (Y Z h)
theorem Gh (s1:Str) {r0:Bool} (hf:vv s1=some r0) (h:Q (.ret (.bool r0)) τ):PC 354 [.str s1] τ Q:=by
 unfold vv at hf; refine BN 36 [.tmp 2] [0] Tryz.func354 Z Z Z Z Z (W 2 Z (AS Z (AO.bZ Z Z Z Z dh Z (U 2 Z (AR.or 4 7 11 [0] (x:=(decide (64 < (s1.length:Int)))) Z Z (fun h1=>?_) (fun h1=>?_) ?_)))))
 · refine Is 7 h1 Z (U 1 Z (GO Z (AO.bZ Z Z Z Z dh Z ?_))); exact dP 2 Z (En [11,0] Z)
 · refine Is 7 h1 Z ?_; exact dP 4 Z (En [11,0] Z)
 refine B1 hf fun b1 h3 hf=>U 1 Z (AR.dH 5 12 17 false [0] b1 Z Z (fun h2=>?_) (fun h2=>?_) ?_)
 · refine IF 12 h2 h3 Z fun h3=>?_; refine B1 h3 fun x1 h4 h3=>U 1 Z (GO Z (AO.dB h4 Z dh Z Z ?_)); refine B1 h3 fun x2 h5 h3=>GO Z (AO.call Z _ Z Z abL (Dz _ h5 ?_)); cases h3; exact dP 2 Z (En [17,0] Z)
 · refine IT 12 h2 h3 Z fun h3=>?_; cases h3; exact dP 5 Z (En [17,0] Z)
 refine J 0 Z (C hf Z (fun h6 hf=>?_) fun h6 hf=>?_)
 · cases hf; exact M 1 Z (Y Z h)
 refine V 1 Z (FT (fun i1=>[(0,.str s1),(3,iP i1)]) (fun i1=>[]) (fun dA i1=>pF s1 dA i1=some r0) BIG 0 Z Z hf (fun _ hz=>bI hz) ?_); intro dA i1 hf; rw [pF] at hf; refine W 2 Z (AS Z (AO.bZ Z Z Z Z dh Z (J 1 Z (C hf Z (fun h7 hf=>?_) fun h7 hf=>?_))))
 ·
  refine B1 hf fun x3 h8 hf=>W 2 Z (AS Z (AO.dB h8 Z dh Z Z ?_)); refine B1 hf fun x4 h9 hf=>CL Z (Dz _ h9 ?_); refine B1 hf fun b2 h11 hf=>U 2 Z (AR.dH 6 29 35 true [0,3] b2 Z Z (fun h10=>?_) (fun h10=>?_) ?_)
  · refine IT 29 h10 h11 Z fun h11=>?_; refine B1 h11 fun x5 h12 h11=>U 2 Z (GO Z (AO.dB h12 Z dh Z Z ?_)); refine B1 h11 fun x6 kL h11=>GO Z (AO.call Z _ Z Z abK (E9 _ kL ?_)); cases h11; exact dP 2 Z (En [35,0,3] Z)
  · refine IF 29 h10 h11 Z fun h11=>?_; cases h11; exact dP 6 Z (En [35,0,3] Z)
  refine J 0 Z (C hf Z (fun lD hf=>?_) fun lD hf=>?_)
  · cases hf; exact M 1 Z (Y Z h)
  exact M 3 Z ⟨(bV (i1 + 1)),Z,Z,Z,hf⟩
 cases hf; exact M 1 Z (Y Z h)
section
variable [DU]
def WU :Go.Shelf.Ren:=⟨fun | 171=>203 | 243=>277 | 246=>336 | 283=>374 | 284=>375 | 285=>376 | 286=>377 | 129=>297 | 317=>404 | 318=>405 | 319=>406 | 320=>407 | 337=>428 | 338=>429 | n=>n,fun | 3=>3 | 9=>9 | 2=>2 | 4=>4 | 171=>310 | 0=>0 | 53=>271 | 37=>68 | 5=>5 | 173=>312 | 212=>334 | 51=>269 | 20=>20 | 213=>335 | 46=>218 | 232=>358 | 233=>359 | n=>n,fun | 17=>3 | 18=>4 | 19=>5 | n=>n⟩
theorem ad9 :Go.Proofs.LaysM.n171 Tryz.prog WU:={
 mixed:=by kernel_rfl
 f129:=Tryz.func297.trans (congrArg some (by kernel_rfl))
 f171:=Tryz.func203.trans (congrArg some (by kernel_rfl))
 f243:=Tryz.func277.trans (congrArg some (by kernel_rfl))
 f246:=Tryz.func336.trans (congrArg some (by kernel_rfl))
 f283:=Tryz.func374.trans (congrArg some (by kernel_rfl))
 f284:=Tryz.func375.trans (congrArg some (by kernel_rfl))
 f285:=Tryz.func376.trans (congrArg some (by kernel_rfl))
 f286:=Tryz.func377.trans (congrArg some (by kernel_rfl))
 f317:=Tryz.func404.trans (congrArg some (by kernel_rfl))
 f318:=Tryz.func405.trans (congrArg some (by kernel_rfl))
 f319:=Tryz.func406.trans (congrArg some (by kernel_rfl))
 f320:=Tryz.func407.trans (congrArg some (by kernel_rfl))
 f337:=Tryz.func428.trans (congrArg some (by kernel_rfl))
 f338:=Tryz.func429.trans (congrArg some (by kernel_rfl))
 t0:=Tryz.underlying0
 a0:=Tryz.isAgg0
 z0:=Tryz.sizeOf0
 v0:=Tryz.zeroValue0
 t2:=Tryz.underlying2
 a2:=Tryz.isAgg2
 z2:=Tryz.sizeOf2
 v2:=Tryz.zeroValue2
 t3:=Tryz.underlying3
 a3:=Tryz.isAgg3
 z3:=Tryz.sizeOf3
 v3:=Tryz.zeroValue3
 t4:=Tryz.underlying4
 a4:=Tryz.isAgg4
 z4:=Tryz.sizeOf4
 v4:=Tryz.zeroValue4
 t5:=Tryz.underlying5
 a5:=Tryz.isAgg5
 z5:=Tryz.sizeOf5
 v5:=Tryz.zeroValue5
 t9:=Tryz.underlying9
 a9:=Tryz.isAgg9
 z9:=Tryz.sizeOf9
 v9:=Tryz.zeroValue9
 t20:=Tryz.underlying20
 a20:=Tryz.isAgg20
 z20:=Tryz.sizeOf20
 v20:=Tryz.zeroValue20
 t37:=Tryz.underlying68
 a37:=Tryz.isAgg68
 z37:=Tryz.sizeOf68
 v37:=Tryz.zeroValue68
 t46:=Tryz.underlying218
 a46:=Tryz.isAgg218
 z46:=Tryz.sizeOf218
 v46:=Tryz.zeroValue218
 t51:=Tryz.underlying269
 a51:=Tryz.isAgg269
 z51:=Tryz.sizeOf269
 v51:=Tryz.zeroValue269
 t53:=Tryz.underlying271
 a53:=Tryz.isAgg271
 z53:=Tryz.sizeOf271
 v53:=Tryz.zeroValue271
 t171:=Tryz.underlying310
 a171:=Tryz.isAgg310
 z171:=Tryz.sizeOf310
 v171:=Tryz.zeroValue310
 t173:=Tryz.underlying312
 a173:=Tryz.isAgg312
 z173:=Tryz.sizeOf312
 v173:=Tryz.zeroValue312
 t212:=Tryz.underlying334
 a212:=Tryz.isAgg334
 z212:=Tryz.sizeOf334
 v212:=Tryz.zeroValue334
 t213:=Tryz.underlying335
 a213:=Tryz.isAgg335
 z213:=Tryz.sizeOf335
 t232:=Tryz.underlying358
 a232:=Tryz.isAgg358
 z232:=Tryz.sizeOf358
 v232:=Tryz.zeroValue358
 t233:=Tryz.underlying359
 a233:=Tryz.isAgg359
 z233:=Tryz.sizeOf359
 v233:=Tryz.zeroValue359
 g17:=by kernel_rfl
 g18:=by kernel_rfl
 g19:=by kernel_rfl
 i0:=by kernel_rfl
 i2:=by kernel_rfl
 i3:=by kernel_rfl
 i4:=by kernel_rfl
 i5:=by kernel_rfl
 i9:=by kernel_rfl
 i20:=by kernel_rfl
 i37:=by kernel_rfl
 i46:=by kernel_rfl
 i51:=by kernel_rfl
 i53:=by kernel_rfl
 i171:=by kernel_rfl
 i173:=by kernel_rfl
 i212:=by kernel_rfl
 i232:=by kernel_rfl
 i233:=by kernel_rfl
 m17:=by kernel_rfl
 m18:=by kernel_rfl
 m19:=by kernel_rfl}
theorem Na (n1:Int) {r0:Str} (hf:strconv_Itoa n1=some r0) (h:Q (.ret (.str r0)) τ):PC 203 [iP n1] τ Q:=by
 unfold strconv_Itoa at hf; split at hf
 case isFalse=>cases hf
 rename_i hg; cases hf; refine AC.none ?_; exact AC.itoa DU.hD ad9 hg.1 hg.2 DU.pow h
end
section
variable [DU]
def Xw :Go.Shelf.Ren:=⟨fun | 172=>390 | 244=>415 | 245=>416 | 247=>433 | 279=>434 | 280=>435 | 281=>436 | 282=>437 | 287=>441 | 316=>442 | 171=>203 | 205=>443 | 321=>445 | 322=>446 | 243=>277 | 246=>336 | 283=>374 | 284=>375 | 285=>376 | 286=>377 | 129=>297 | 317=>404 | 318=>405 | 319=>406 | 320=>407 | 337=>428 | 338=>429 | n=>n,fun | 9=>9 | 3=>3 | 75=>77 | 76=>86 | 4=>4 | 5=>5 | 167=>350 | 37=>68 | 0=>0 | 85=>351 | 2=>2 | 168=>353 | 53=>271 | 175=>360 | 46=>218 | 210=>363 | 127=>124 | 145=>369 | 143=>367 | 21=>21 | 171=>310 | 173=>312 | 212=>334 | 51=>269 | 20=>20 | 213=>335 | 232=>358 | 233=>359 | 80=>69 | n=>n,fun | 15=>6 | 16=>7 | 17=>3 | 18=>4 | 19=>5 | n=>n⟩
theorem aeD :Go.Proofs.LaysC.n172 Tryz.prog Xw:={
 mixed:=by kernel_rfl
 f129:=Tryz.func297.trans (congrArg some (by kernel_rfl))
 f171:=Tryz.func203.trans (congrArg some (by kernel_rfl))
 f172:=Tryz.func390.trans (congrArg some (by kernel_rfl))
 f205:=Tryz.func443.trans (congrArg some (by kernel_rfl))
 f243:=Tryz.func277.trans (congrArg some (by kernel_rfl))
 f244:=Tryz.func415.trans (congrArg some (by kernel_rfl))
 f245:=Tryz.func416.trans (congrArg some (by kernel_rfl))
 f246:=Tryz.func336.trans (congrArg some (by kernel_rfl))
 f247:=Tryz.func433.trans (congrArg some (by kernel_rfl))
 f279:=Tryz.func434.trans (congrArg some (by kernel_rfl))
 f280:=Tryz.func435.trans (congrArg some (by kernel_rfl))
 f281:=Tryz.func436.trans (congrArg some (by kernel_rfl))
 f282:=Tryz.func437.trans (congrArg some (by kernel_rfl))
 f283:=Tryz.func374.trans (congrArg some (by kernel_rfl))
 f284:=Tryz.func375.trans (congrArg some (by kernel_rfl))
 f285:=Tryz.func376.trans (congrArg some (by kernel_rfl))
 f286:=Tryz.func377.trans (congrArg some (by kernel_rfl))
 f287:=Tryz.func441.trans (congrArg some (by kernel_rfl))
 f316:=Tryz.func442.trans (congrArg some (by kernel_rfl))
 f317:=Tryz.func404.trans (congrArg some (by kernel_rfl))
 f318:=Tryz.func405.trans (congrArg some (by kernel_rfl))
 f319:=Tryz.func406.trans (congrArg some (by kernel_rfl))
 f320:=Tryz.func407.trans (congrArg some (by kernel_rfl))
 f321:=Tryz.func445.trans (congrArg some (by kernel_rfl))
 f322:=Tryz.func446.trans (congrArg some (by kernel_rfl))
 f337:=Tryz.func428.trans (congrArg some (by kernel_rfl))
 f338:=Tryz.func429.trans (congrArg some (by kernel_rfl))
 t0:=Tryz.underlying0
 a0:=Tryz.isAgg0
 z0:=Tryz.sizeOf0
 v0:=Tryz.zeroValue0
 t2:=Tryz.underlying2
 a2:=Tryz.isAgg2
 z2:=Tryz.sizeOf2
 v2:=Tryz.zeroValue2
 t3:=Tryz.underlying3
 a3:=Tryz.isAgg3
 z3:=Tryz.sizeOf3
 v3:=Tryz.zeroValue3
 t4:=Tryz.underlying4
 a4:=Tryz.isAgg4
 z4:=Tryz.sizeOf4
 v4:=Tryz.zeroValue4
 t5:=Tryz.underlying5
 a5:=Tryz.isAgg5
 z5:=Tryz.sizeOf5
 v5:=Tryz.zeroValue5
 t9:=Tryz.underlying9
 a9:=Tryz.isAgg9
 z9:=Tryz.sizeOf9
 v9:=Tryz.zeroValue9
 t20:=Tryz.underlying20
 a20:=Tryz.isAgg20
 z20:=Tryz.sizeOf20
 v20:=Tryz.zeroValue20
 t21:=Tryz.underlying21
 a21:=Tryz.isAgg21
 z21:=Tryz.sizeOf21
 v21:=Tryz.zeroValue21
 t37:=Tryz.underlying68
 a37:=Tryz.isAgg68
 z37:=Tryz.sizeOf68
 v37:=Tryz.zeroValue68
 t46:=Tryz.underlying218
 a46:=Tryz.isAgg218
 z46:=Tryz.sizeOf218
 v46:=Tryz.zeroValue218
 t51:=Tryz.underlying269
 a51:=Tryz.isAgg269
 z51:=Tryz.sizeOf269
 v51:=Tryz.zeroValue269
 t53:=Tryz.underlying271
 a53:=Tryz.isAgg271
 z53:=Tryz.sizeOf271
 v53:=Tryz.zeroValue271
 t75:=Tryz.underlying77
 a75:=Tryz.isAgg77
 z75:=Tryz.sizeOf77
 v75:=Tryz.zeroValue77
 t76:=Tryz.underlying86
 a76:=Tryz.isAgg86
 z76:=Tryz.sizeOf86
 v76:=Tryz.zeroValue86
 t85:=Tryz.underlying351
 a85:=Tryz.isAgg351
 z85:=Tryz.sizeOf351
 v85:=Tryz.zeroValue351
 t127:=Tryz.underlying124
 a127:=Tryz.isAgg124
 z127:=Tryz.sizeOf124
 v127:=Tryz.zeroValue124
 t143:=Tryz.underlying367
 a143:=Tryz.isAgg367
 z143:=Tryz.sizeOf367
 v143:=Tryz.zeroValue367
 t145:=Tryz.underlying369
 a145:=Tryz.isAgg369
 z145:=Tryz.sizeOf369
 v145:=Tryz.zeroValue369
 t167:=Tryz.underlying350
 a167:=Tryz.isAgg350
 z167:=Tryz.sizeOf350
 v167:=Tryz.zeroValue350
 t168:=Tryz.underlying353
 a168:=Tryz.isAgg353
 z168:=Tryz.sizeOf353
 v168:=Tryz.zeroValue353
 t171:=Tryz.underlying310
 a171:=Tryz.isAgg310
 z171:=Tryz.sizeOf310
 v171:=Tryz.zeroValue310
 t173:=Tryz.underlying312
 a173:=Tryz.isAgg312
 z173:=Tryz.sizeOf312
 v173:=Tryz.zeroValue312
 t175:=Tryz.underlying360
 a175:=Tryz.isAgg360
 z175:=Tryz.sizeOf360
 v175:=Tryz.zeroValue360
 t210:=Tryz.underlying363
 a210:=Tryz.isAgg363
 z210:=Tryz.sizeOf363
 v210:=Tryz.zeroValue363
 t212:=Tryz.underlying334
 a212:=Tryz.isAgg334
 z212:=Tryz.sizeOf334
 v212:=Tryz.zeroValue334
 t213:=Tryz.underlying335
 a213:=Tryz.isAgg335
 z213:=Tryz.sizeOf335
 t232:=Tryz.underlying358
 a232:=Tryz.isAgg358
 z232:=Tryz.sizeOf358
 v232:=Tryz.zeroValue358
 t233:=Tryz.underlying359
 a233:=Tryz.isAgg359
 z233:=Tryz.sizeOf359
 v233:=Tryz.zeroValue359
 g15:=by kernel_rfl
 g16:=by kernel_rfl
 g17:=by kernel_rfl
 g18:=by kernel_rfl
 g19:=by kernel_rfl
 t80:=Tryz.underlying69
 a80:=Tryz.isAgg69
 z80:=Tryz.sizeOf69
 v80:=Tryz.zeroValue69
 i0:=by kernel_rfl
 i2:=by kernel_rfl
 i3:=by kernel_rfl
 i4:=by kernel_rfl
 i5:=by kernel_rfl
 i9:=by kernel_rfl
 i20:=by kernel_rfl
 i21:=by kernel_rfl
 i37:=by kernel_rfl
 i46:=by kernel_rfl
 i51:=by kernel_rfl
 i53:=by kernel_rfl
 i75:=by kernel_rfl
 i76:=by kernel_rfl
 i80:=by kernel_rfl
 i85:=by kernel_rfl
 i127:=by kernel_rfl
 i143:=by kernel_rfl
 i145:=by kernel_rfl
 i167:=by kernel_rfl
 i168:=by kernel_rfl
 i171:=by kernel_rfl
 i173:=by kernel_rfl
 i175:=by kernel_rfl
 i210:=by kernel_rfl
 i212:=by kernel_rfl
 i232:=by kernel_rfl
 i233:=by kernel_rfl
 m15:=by kernel_rfl
 m16:=by kernel_rfl
 m17:=by kernel_rfl
 m18:=by kernel_rfl
 m19:=by kernel_rfl
 c0:=by kernel_rfl
 c2:=by kernel_rfl
 c3:=by kernel_rfl
 c4:=by kernel_rfl
 c5:=by kernel_rfl
 c9:=by kernel_rfl
 c20:=by kernel_rfl
 c21:=by kernel_rfl
 c37:=by kernel_rfl
 c46:=by kernel_rfl
 c51:=by kernel_rfl
 c53:=by kernel_rfl
 c75:=by kernel_rfl
 c76:=by kernel_rfl
 c80:=by kernel_rfl
 c85:=by kernel_rfl
 c127:=by kernel_rfl
 c143:=by kernel_rfl
 c145:=by kernel_rfl
 c167:=by kernel_rfl
 c168:=by kernel_rfl
 c171:=by kernel_rfl
 c173:=by kernel_rfl
 c175:=by kernel_rfl
 c210:=by kernel_rfl
 c212:=by kernel_rfl
 c213:=by kernel_rfl
 c232:=by kernel_rfl
 c233:=by kernel_rfl}
theorem EZ (s1:Str) {r0:Int} {r1:Option Nat} (hf:strconv_Atoi s1=some (r0,r1)) (h:Q (.ret (.tuple [iP r0,.err r1])) τ):PC 390 [.str s1] τ Q:=by
 unfold strconv_Atoi at hf; split at hf
 case isFalse=>cases hf
 rename_i hg; cases hf; refine AC.none ?_; exact AC.atoi DU.hD aeD hg Z DU.syn DU.rng h
end
section
variable [DU]
theorem Jw (s1:Str) {r0:Bool} (hf:rW s1=some r0) (h:Q (.ret (.bool r0)) τ):PC 384 [.str s1] τ Q:=by
 unfold rW at hf; refine BN 40 [.tmp 2] [0] Tryz.func384 Z Z Z Z Z ?_; refine B1 hf fun b1 h2 hf=>W 4 Z (AR.dH 9 8 17 false [0] b1 Z Z (fun h1=>?_) (fun h1=>?_) ?_)
 ·
  replace h2:=jg h1 h2; refine Is 8 h1 Z (U 1 Z (GO Z (AO.bZ Z Z Z Z dh Z ?_))); refine BR h2 fun b2 h4 h2=>?_; refine U 2 Z (AR.dH 4 12 16 true [0,8] b2 Z Z (fun h3=>?_) (fun h3=>?_) ?_)
  · refine IT 12 h3 h4 Z fun h4=>?_; refine B1 h4 fun x1 h5 h4=>U 1 Z (GO Z (AO.dB h5 Z dh Z Z ?_)); cases h4; exact dP 2 Z (En [16,0,8] Z)
  · refine IF 12 h3 h4 Z fun h4=>?_; cases h4; exact dP 4 Z (En [16,0,8] Z)
  cases h2; exact dP 1 Z (En [17,0] Z)
 · refine IT 8 h1 h2 Z fun h2=>?_; cases h2; exact dP 9 Z (En [17,0] Z)
 refine J 0 Z (C hf Z (fun h6 hf=>?_) fun h6 hf=>?_)
 · cases hf; exact M 1 Z (Y Z h)
 refine V 1 Z (FT (fun i1=>[(0,.str s1),(3,iP i1)]) (fun i1=>[]) (fun dA i1=>kQ s1 dA i1=some r0) BIG 0 Z Z hf (fun _ hz=>bI hz) ?_); intro dA i1 hf; rw [kQ] at hf; refine W 2 Z (AS Z (AO.bZ Z Z Z Z dh Z (J 1 Z (C hf Z (fun h7 hf=>?_) fun h7 hf=>?_))))
 ·
  refine B1 hf fun x2 h8 hf=>W 2 Z (AS Z (AO.dB h8 Z dh Z Z ?_)); refine B1 hf fun x3 h9 hf=>CL Z (E9 _ h9 (J 1 Z (C hf Z (fun h10 hf=>?_) fun h10 hf=>?_)))
  · cases hf; exact M 1 Z (Y Z h)
  exact M 3 Z ⟨(bV (i1 + 1)),Z,Z,Z,hf⟩
 obtain ⟨n1,SX,h11,hf⟩:=dX hf; refine W 1 Z (CL Z (EZ _ h11 (U 6 Z (AS Z (AO.eqNil Z aea Z Z (U 1 Z (An 3 36 39 [] (decide (n1≤9007199254740992)) Z Z Z Z ?_))))))); cases hf; exact N 1 Z (Y Z h)
end
section
variable [DU]
theorem OH (t1:av) {r0:Bool} (hf:jr t1=some r0) (h:Q (.ret (.bool r0)) τ):PC 351 [.agg (ny t1)] τ Q:=by
 unfold jr at hf; refine BN 23 [.tmp 2] [0] Tryz.func351 Z Z Z Z Z (V 6 Z (C hf Z (fun h1 hf=>?_) fun h1 hf=>?_))
 · refine BR hf fun x1 h2 hf=>?_; refine W 2 Z (CL Z (Gh _ h2 ?_)); cases hf; exact N 1 Z (Y Z h)
 refine V 2 Z (C hf Z (fun h3 hf=>?_) fun h3 hf=>?_)
 · refine BR hf fun x2 h4 hf=>?_; refine W 2 Z (CL Z (Jw _ h4 ?_)); cases hf; exact N 1 Z (Y Z h)
 refine V 2 Z (C hf Z (fun h5 hf=>?_) fun h5 hf=>?_)
 · refine W 2 Z (AS Z (AO.bZ Z Z Z Z dh Z ?_)); cases hf; exact N 2 Z (Y Z h)
 refine V 2 Z (C hf Z (fun h6 hf=>?_) fun h6 hf=>?_)
 · cases hf; exact M 1 Z (Y Z h)
 cases hf; exact M 1 Z (Y Z h)
end
section
variable [DU]
theorem oK (p1:Nat) (nL:aj) {r0:av} {nK:aj} (hf:jv nL=some (r0,nK)) {Q:eT→List bA→Prop} (h:Q (.ret (.agg (ny r0))) [.box p1 (aW nK)]):PC 312 [pP p1] [.box p1 (aW nL)] Q:=by
 unfold jv at hf; refine BD 37 [.cell 2 116] [0] Tryz.func312 Z Z Z Z Z (W 0 Z (AS Z (AO.aN Z oQ (fun b2=>(J 0 Z (AW.draw 23 mixed (by kernel_rfl) Z ?_)))))); refine Ev.cs bL 3 Z (Ev.cons Z Z Z (AO.dW (i:=1) Z Z Z Gx Z Z zg) (Ev.cs bL 3 Z (Ev.cons Z Z Z (AO.dW (i:=1) Z Z Z P9 Z Z zg) ?_))); refine Ev.cons Z Z Z (AO.aU (l:=nL.ts) Z Z Z Z gX Z Z zg) (Ev.cs bL 2 Z ?_); refine B1 hf fun b1 h2 hf=>Ev.dH hKA 12 13 25 true [0,2] (.bool b1) Z Z (fun h1=>?_) (fun h1=>?_) ?_
 ·
  replace h2:=jV h1 h2; refine Ev.is WW 13 h1 Z (Ev.cs bL 3 Z (Ev.run Z Z Z Z Z Z Z (AO.dW (i:=1) Z Z Z P9 Z Z zg) (Ev.cs bL 3 Z ?_))); refine Ev.run Z Z Z Z Z Z Z (AO.dW (i:=1) Z Z Z Gx Z Z zg) ?_; refine B1 h2 fun e1 h3 h2=>Ev.run Z Z Z Z Z Z Z (AO.bF h3 Z Z Z Z gX (av.aP _) Z zg) (Ev.cs bL 1 Z ?_); refine BR h2 fun x1 h4 h2=>?_; refine Ev.run Z Z Z Z Z Z Z (AO.call Z _ Z Z abM (OH _ h4 zg)) ?_; cases h2; refine Ev.cs bL 1 Z ?_; exact Ev.nil (Less.settle (ps:=[25,0,2]) Z)
 · replace h2:=jg h1 h2; refine Ev.is WW 13 h1 Z ?_; cases h2; refine Ev.cs bL 12 Z ?_; exact Ev.nil (Less.settle (ps:=[25,0,2]) Z)
 refine Ev.nil ?_; show AR _ _ _ _ _ _ _ _; refine J 0 Z (C hf Z (fun h5 hf=>?_) fun h5 hf=>?_)
 ·
  refine V 0 Z (AW.draw 10 mixed (by kernel_rfl) Z ?_); refine Ev.cs bL 3 Z (Ev.cons Z Z Z (AO.dW (i:=1) Z Z Z P9 Z Z zg) (Ev.cs bL 3 Z (Ev.cons Z Z Z (AO.dW (i:=1) Z Z Z Gx Z Z zg) ?_))); refine B1 hf fun e2 h6 hf=>Ev.cons Z Z Z (AO.bF h6 Z Z Z Z gX (av.aP _) Z zg) (Ev.cs bL 1 Z (Ev.nil ?_)); show AR _ _ _ _ _ _ _ _; cases hf; exact Rx 1 [0] rfl rfl ⟨rfl,_,⟨_,_,rfl,⟨_,_,0,_,_,rfl,rfl,IL,rfl⟩,rfl⟩,_,(.cons _ (.cons_cons _ (List.nil_sublist _))),h⟩
 cases hf; exact Wx 2 [0] rfl rfl ⟨rfl,_,⟨_,_,rfl,⟨_,_,0,_,_,rfl,rfl,IL,rfl⟩,rfl⟩,_,(.cons _ (.cons_cons _ (List.nil_sublist _))),h⟩
end
section
variable [DU]
theorem GY (p1:Nat) (nL:aj) (op1:Str) {r0:Bool} {nK:aj} (hf:sS nL op1=some (r0,nK)) {Q:eT→List bA→Prop} (h:Q (.ret (.bool r0)) [.box p1 (aW nK)]):PC 313 [pP p1,.str op1] [.box p1 (aW nL)] Q:=by
 unfold sS at hf; refine BD 17 [.tmp 4] [0,1] Tryz.func313 Z Z Z Z Z ?_; obtain ⟨x1,y1,h1,hf⟩:=dX hf; refine W 2 Z (CL Z (AC.one 0 Z (oK _ _ h1 ⟨_,Z,(AS Z (AO.aN Z oQ (fun b5=>(Rr 5 [0,0] Z Z (AR.and 5 11 16 [] (x:=(x1.text == op1)) Z Z (fun h2=>?_) (fun h2=>?_) ?_)))))⟩)))
 · refine Is 11 h2 Z (U 1 Z (GO Z (AO.dW (i:=0) Z Z Z Uk Z Z ?_))); exact dP 3 Z (En [16] Z)
 · refine Is 11 h2 Z ?_; exact dP 5 Z (En [16] Z)
 cases hf; exact N 1 rfl ⟨rfl,_,⟨_,_,rfl,rfl,rfl⟩,_,(.cons _ (.cons_cons _ (List.nil_sublist _))),h⟩
end
section
variable [DU]
theorem dZ (p1:Nat) (nL:aj) (op1:Str) {r0:Bool} {nK:aj} (hf:dK nL op1=some (r0,nK)) {Q:eT→List bA→Prop} (h:Q (.ret (.bool r0)) [.box p1 (aW nK)]):PC 245 [pP p1,.str op1] [.box p1 (aW nL)] Q:=by
 unfold dK at hf; refine BD 16 [.tmp 4] [0,1] Tryz.func245 Z Z Z Z Z ?_; obtain ⟨x1,y1,h1,hf⟩:=dX hf; refine W 3 Z (CL Z (AC.one 0 Z (GY _ _ _ h1 ⟨_,Z,(J 1 Z (C hf Z (fun h2 hf=>?_) fun h2 hf=>?_))⟩)))
 · cases hf; exact M 1 rfl ⟨rfl,_,⟨_,_,rfl,rfl,rfl⟩,_,(.cons_cons _ (List.nil_sublist _)),h⟩
 cases hf; exact Wx 9 [0,0] rfl rfl ⟨rfl,_,⟨_,_,rfl,rfl,rfl⟩,_,(.cons_cons _ (List.nil_sublist _)),h⟩
end
@[reducible] def DY :g_ aA Unit→eT
 | .ok r=>.ret (.tuple [])
 | .bad e=>.panic (.iface 189 (.agg (jA e)))
theorem eP (p1:Nat) (nL:aj) (e1:Int) {rX:g_ aA Unit} {nK:aj} (hf:gW nL e1=some (rX,nK)) {Q:eT→List bA→Prop} (h:Q (DY rX) [.box p1 (aW nK)]):PC 315 [pP p1,iP e1] [.box p1 (aW nL)] Q:=by
 unfold gW at hf; refine BD 11 [] [0,1] Tryz.func315 Z Z Z Z Z (Wr 6 [0] Z Z (AS Z (AO.aaq Z acB Z (AR.dx Z Z (AO.acw Z Z ?_))))); cases hf; exact ⟨rfl,_,(.cons_cons _ (List.nil_sublist _)),h⟩
section
variable [DU]
@[reducible] def DX :g_ aA av→eT
 | .ok r=>.ret (.agg (ny r))
 | .bad e=>.panic (.iface 189 (.agg (jA e)))
theorem iU (p1:Nat) (nL:aj) {rX:g_ aA av} {nK:aj} (hf:jy nL=some (rX,nK)) {Q:eT→List bA→Prop} (h:Q (DX rX) [.box p1 (aW nK)]):PC 314 [pP p1] [.box p1 (aW nL)] Q:=by
 unfold jy at hf; refine BD 24 [.cell 2 116] [0] Tryz.func314 Z Z Z Z Z (W 0 Z (AS Z (AO.aN Z oQ (fun b2=>(J 0 Z (AW.draw 10 mixed (by kernel_rfl) Z ?_)))))); refine Ev.cs bL 3 Z (Ev.cons Z Z Z (AO.dW (i:=1) Z Z Z Gx Z Z zg) (Ev.cs bL 3 Z (Ev.cons Z Z Z (AO.dW (i:=1) Z Z Z P9 Z Z zg) ?_))); refine Ev.cons Z Z Z (AO.aU (l:=nL.ts) Z Z Z Z gX Z Z zg) (Ev.cs bL 1 Z (Ev.nil ?_)); show AR _ _ _ _ _ _ _ _; refine J 0 Z (C hf Z (fun h1 hf=>?_) fun h1 hf=>?_)
 ·
  rcases dS hf with ⟨e1,y2,h2,hf⟩ | ⟨_,y1,h2,hf⟩
  · refine W 1 Z (CL Z (AC.one 1 Z (eP _ _ _ h2 ⟨_,Z,?_⟩))); cases hf; exact ⟨rfl,_,(.cons _ (.cons_cons _ (List.nil_sublist _))),h⟩
  refine W 1 Z (CL Z (AC.one 1 Z (eP _ _ _ h2 ⟨_,Z,?_⟩))); obtain ⟨x1,y3,h3,hf⟩:=dX hf; refine U 1 Z (CL Z (AC.one 1 Z (oK _ _ h3 ⟨_,Z,(AS Z (AO.aN Z oQ (fun b3=>(Rw 4 [0,0] Z Z (C hf Z (fun h4 hf=>?_) fun h4 hf=>?_)))))⟩)))
  ·
   rcases dS hf with ⟨e2,y5,h5,hf⟩ | ⟨_,y4,h5,hf⟩
   · refine W 1 Z (CL Z (AC.one 2 Z (eP _ _ _ h5 ⟨_,Z,?_⟩))); cases hf; exact ⟨rfl,_,(.cons _ (.cons _ (.cons_cons _ (List.nil_sublist _)))),h⟩
   refine W 1 Z (CL Z (AC.one 2 Z (eP _ _ _ h5 ⟨_,Z,?_⟩))); cases hf; exact Rx 2 [0,1] rfl rfl ⟨rfl,_,⟨_,_,rfl,⟨_,_,1,_,_,rfl,rfl,IL,rfl⟩,rfl⟩,_,(.cons _ (.cons _ (.cons_cons _ (List.nil_sublist _)))),h⟩
  cases hf; exact Wx 2 [0,1] rfl rfl ⟨rfl,_,⟨_,_,rfl,⟨_,_,1,_,_,rfl,rfl,IL,rfl⟩,rfl⟩,_,(.cons _ (.cons _ (.cons_cons _ (List.nil_sublist _)))),h⟩
 obtain ⟨x2,y6,h6,hf⟩:=dX hf; refine W 1 Z (CL Z (AC.one 1 Z (oK _ _ h6 ⟨_,Z,(AS Z (AO.aN Z oQ (fun agT=>(Rw 4 [0,0] Z Z (C hf Z (fun h7 hf=>?_) fun h7 hf=>?_)))))⟩)))
 ·
  rcases dS hf with ⟨e3,y8,h8,hf⟩ | ⟨_,y7,h8,hf⟩
  · refine W 1 Z (CL Z (AC.one 2 Z (eP _ _ _ h8 ⟨_,Z,?_⟩))); cases hf; exact ⟨rfl,_,(.cons _ (.cons _ (.cons_cons _ (List.nil_sublist _)))),h⟩
  refine W 1 Z (CL Z (AC.one 2 Z (eP _ _ _ h8 ⟨_,Z,?_⟩))); cases hf; exact Rx 2 [0,1] rfl rfl ⟨rfl,_,⟨_,_,rfl,⟨_,_,1,_,_,rfl,rfl,IL,rfl⟩,rfl⟩,_,(.cons _ (.cons _ (.cons_cons _ (List.nil_sublist _)))),h⟩
 cases hf; exact Wx 2 [0,1] rfl rfl ⟨rfl,_,⟨_,_,rfl,⟨_,_,1,_,_,rfl,rfl,IL,rfl⟩,rfl⟩,_,(.cons _ (.cons _ (.cons_cons _ (List.nil_sublist _)))),h⟩
end
theorem tF (v1:ak) {r0:ah} (hf:pG v1=some r0) (h:Q (.ret (.agg (bn r0))) τ):PC 410 [.agg (bK v1)] τ Q:=by
 unfold pG at hf; refine BN 5 [.cell 2 37] [0] Tryz.func410 Z Z Z Z Z (W 1 Z (AS Z (AO.aN Z iq (fun b2=>?_)))); cases hf; exact Rx 3 [0] Z Z (ZC [0] Z Z h)
theorem Bo (s1:Str) {r0:Bool} (hf:oC s1=some r0) (h:Q (.ret (.bool r0)) τ):PC 355 [.str s1] τ Q:=by
 unfold oC at hf; refine BN 13 [.tmp 2] [0] Tryz.func355 Z Z Z Z Z (W 4 Z (On 3 5 8 [0] (s1 == ([102,97,108,115,101]:Str)) Z Z Z Z (U 1 Z (On 3 9 12 [] (s1 == ([110,117,108,108]:Str)) Z Z Z Z ?_)))); cases hf; exact N 1 Z (Y Z h)
section
variable [DU]
@[reducible] def Cu :g_ aA Unit→eT
 | .ok r=>.ret (.tuple [])
 | .bad e=>.panic (.iface 189 (.agg (jA e)))
theorem dL (p1:Nat) (nL:aj) (op1:Str) {rX:g_ aA Unit} {nK:aj} (hf:fD nL op1=some (rX,nK)) {Q:eT→List bA→Prop} (h:Q (Cu rX) [.box p1 (aW nK)]):PC 246 [pP p1,.str op1] [.box p1 (aW nL)] Q:=by
 unfold fD at hf; refine BD 12 [] [0,1] Tryz.func246 Z Z Z Z Z ?_; rcases dS hf with ⟨e1,y2,h1,hf⟩ | ⟨x1,y1,h1,hf⟩
 · refine W 1 Z (CL Z (AC.one 0 Z (iU _ _ h1 ⟨_,Z,?_⟩))); cases hf; exact ⟨rfl,_,(.cons_cons _ (List.nil_sublist _)),h⟩
 refine W 1 Z (CL Z (AC.one 0 Z (iU _ _ h1 ⟨_,Z,?_⟩))); obtain ⟨x2,y3,h2,hf⟩:=dX hf; refine U 2 Z (CL Z (AC.one 0 Z (dZ _ _ _ h2 ⟨_,Z,(J 1 Z (C hf Z (fun h3 hf=>?_) fun h3 hf=>?_))⟩)))
 ·
  rcases dS hf with ⟨e2,y5,h4,hf⟩ | ⟨_,y4,h4,hf⟩
  · refine W 1 Z (CL Z (AC.one 0 Z (eP _ _ _ h4 ⟨_,Z,?_⟩))); cases hf; exact ⟨rfl,_,(.cons_cons _ (List.nil_sublist _)),h⟩
  refine W 1 Z (CL Z (AC.one 0 Z (eP _ _ _ h4 ⟨_,Z,?_⟩))); cases hf; exact N 0 rfl ⟨rfl,_,rfl,_,(.cons_cons _ (List.nil_sublist _)),h⟩
 cases hf; exact M 0 rfl ⟨rfl,_,rfl,_,(.cons_cons _ (List.nil_sublist _)),h⟩
end
theorem rC (op1:Str) {r0:Int} (hf:iA op1=some r0) (h:Q (.ret (iP r0)) τ):PC 113 [.str op1] τ Q:=by
 unfold iA at hf; refine BN 22 [.tmp 2] [0] Tryz.func113 Z Z Z Z Z (V 4 Z (C hf Z (fun h1 hf=>?_) fun h1 hf=>?_))
 · cases hf; exact M 1 Z (Y Z h)
 refine V 2 Z (C hf Z (fun h2 hf=>?_) fun h2 hf=>?_)
 · cases hf; exact M 1 Z (Y Z h)
 refine V 2 Z (C hf Z (fun h3 hf=>?_) fun h3 hf=>?_)
 ·
  refine V 0 Z (AW.cond Z (fun h4=>?_) (fun h4=>?_))
  · cases hf; exact M 1 Z (Y Z h)
  cases h3.symm.trans h4
 refine V 2 Z (C hf Z (fun h5 hf=>?_) fun h5 hf=>?_)
 ·
  refine V 0 Z (AW.cond Z (fun h6=>?_) (fun h6=>?_))
  · cases hf; exact M 1 Z (Y Z h)
  cases h5.symm.trans h6
 refine V 2 Z (C hf Z (fun h7 hf=>?_) fun h7 hf=>?_)
 ·
  refine V 0 Z (AW.cond Z (fun h8=>?_) (fun h8=>?_))
  · cases hf; exact M 1 Z (Y Z h)
  cases h7.symm.trans h8
 refine V 2 Z (C hf Z (fun h9 hf=>?_) fun h9 hf=>?_)
 ·
  refine V 0 Z (AW.cond Z (fun h10=>?_) (fun h10=>?_))
  · cases hf; exact M 1 Z (Y Z h)
  cases h9.symm.trans h10
 refine V 2 Z (C hf Z (fun h11 hf=>?_) fun h11 hf=>?_)
 ·
  refine V 0 Z (AW.cond Z (fun h12=>?_) (fun h12=>?_))
  · cases hf; exact M 1 Z (Y Z h)
  cases h11.symm.trans h12
 refine V 2 Z (C hf Z (fun kL hf=>?_) fun kL hf=>?_)
 · cases hf; exact M 1 Z (Y Z h)
 refine V 2 Z (C hf Z (fun lD hf=>?_) fun lD hf=>?_)
 ·
  refine V 0 Z (AW.cond Z (fun nT=>?_) (fun nT=>?_))
  · cases hf; exact M 1 Z (Y Z h)
  cases lD.symm.trans nT
 refine V 2 Z (C hf Z (fun h16 hf=>?_) fun h16 hf=>?_)
 · cases hf; exact M 1 Z (Y Z h)
 refine V 2 Z (C hf Z (fun wP hf=>?_) fun wP hf=>?_)
 ·
  refine V 0 Z (AW.cond Z (fun h18=>?_) (fun h18=>?_))
  · cases hf; exact M 1 Z (Y Z h)
  cases wP.symm.trans h18
 refine V 2 Z (C hf Z (fun h19 hf=>?_) fun h19 hf=>?_)
 ·
  refine V 0 Z (AW.cond Z (fun h20=>?_) (fun h20=>?_))
  · cases hf; exact M 1 Z (Y Z h)
  cases h19.symm.trans h20
 refine V 2 Z (C hf Z (fun h21 hf=>?_) fun h21 hf=>?_)
 · cases hf; exact M 1 Z (Y Z h)
 cases hf; exact M 1 Z (Y Z h)
section
variable [DU]
@[reducible] def nP :g_ aA ah→eT
 | .ok r=>.ret (.agg (bn r))
 | .bad e=>.panic (.iface 189 (.agg (jA e)))
@[reducible] def nO :g_ aA ah→eT
 | .ok r=>.ret (.agg (bn r))
 | .bad e=>.panic (.iface 189 (.agg (jA e)))
@[reducible] def qX :g_ aA ah→eT
 | .ok r=>.ret (.agg (bn r))
 | .bad e=>.panic (.iface 189 (.agg (jA e)))
@[reducible] def qY :g_ aA ah→eT
 | .ok r=>.ret (.agg (bn r))
 | .bad e=>.panic (.iface 189 (.agg (jA e)))
@[reducible] def rJ :g_ aA ah→eT
 | .ok r=>.ret (.agg (bn r))
 | .bad e=>.panic (.iface 189 (.agg (jA e)))
@[reducible] def rH :g_ aA ah→eT
 | .ok r=>.ret (.agg (bn r))
 | .bad e=>.panic (.iface 189 (.agg (jA e)))
@[reducible] def rM :g_ aA (List ah)→eT
 | .ok r=>.ret (.list (ah.bR r))
 | .bad e=>.panic (.iface 189 (.agg (jA e)))
@[reducible] def o_ :g_ aA ah→eT
 | .ok r=>.ret (.agg (bn r))
 | .bad e=>.panic (.iface 189 (.agg (jA e)))
abbrev fH (aD:aj→Option (g_ aA ah × aj)):Prop:=∀ (oU:Nat) (f_:aj) {fO:g_ aA ah} {iL:aj},aD f_=some (fO,iL)→∀ {Q:eT→List bA→Prop} (h:Q (nP fO) [.box oU (aW iL)]),PC 173 [pP oU] [.box oU (aW f_)] Q
abbrev fG (aL:aj→Int→Option (g_ aA ah × aj)):Prop:=∀ (oU:Nat) (f_:aj) (XA:Int) {fO:g_ aA ah} {iL:aj},aL f_ XA=some (fO,iL)→∀ {Q:eT→List bA→Prop} (h:Q (nO fO) [.box oU (aW iL)]),PC 244 [pP oU,iP XA] [.box oU (aW f_)] Q
abbrev gY (aR:aj→Option (g_ aA ah × aj)):Prop:=∀ (oU:Nat) (f_:aj) {fO:g_ aA ah} {iL:aj},aR f_=some (fO,iL)→∀ {Q:eT→List bA→Prop} (h:Q (qX fO) [.box oU (aW iL)]),PC 311 [pP oU] [.box oU (aW f_)] Q
abbrev gZ (aS:aj→Option (g_ aA ah × aj)):Prop:=∀ (oU:Nat) (f_:aj) {fO:g_ aA ah} {iL:aj},aS f_=some (fO,iL)→∀ {Q:eT→List bA→Prop} (h:Q (qY fO) [.box oU (aW iL)]),PC 350 [pP oU] [.box oU (aW f_)] Q
abbrev iE (bg:aj→Option (g_ aA ah × aj)):Prop:=∀ (oU:Nat) (f_:aj) {fO:g_ aA ah} {iL:aj},bg f_=some (fO,iL)→∀ {Q:eT→List bA→Prop} (h:Q (rJ fO) [.box oU (aW iL)]),PC 383 [pP oU] [.box oU (aW f_)] Q
abbrev iD (bf:aj→Str→Option (g_ aA ah × aj)):Prop:=∀ (oU:Nat) (f_:aj) (Dp:Str) {fO:g_ aA ah} {iL:aj},bf f_ Dp=some (fO,iL)→∀ {Q:eT→List bA→Prop} (h:Q (rH fO) [.box oU (aW iL)]),PC 411 [pP oU,.str Dp] [.box oU (aW f_)] Q
abbrev iF (aZ:aj→Str→Option (g_ aA (List ah) × aj)):Prop:=∀ (oU:Nat) (f_:aj) (Dq:Str) {fO:g_ aA (List ah)} {iL:aj},aZ f_ Dq=some (fO,iL)→∀ {Q:eT→List bA→Prop} (h:Q (rM fO) [.box oU (aW iL)]),PC 412 [pP oU,.str Dq] [.box oU (aW f_)] Q
abbrev fV (aT:aj→Option (g_ aA ah × aj)):Prop:=∀ (oU:Nat) (f_:aj) {fO:g_ aA ah} {iL:aj},aT f_=some (fO,iL)→∀ {Q:eT→List bA→Prop} (h:Q (o_ fO) [.box oU (aW iL)]),PC 413 [pP oU] [.box oU (aW f_)] Q
theorem Ac (aD) (bJ:fH aD) (aL) (dJ:fG aL) (aR) (eZ:gY aR) (aS) (fT:gZ aS) (bg) (gJ:iE bg) (bf) (gI:iD bf) (aZ) (fB:iF aZ) (aT) (fF:fV aT) (p1:Nat) (nL:aj) {rX:g_ aA ah} {nK:aj} (hf:lF aD aL aR aS bg bf aZ aT nL=some (rX,nK)) {Q:eT→List bA→Prop} (h:Q (nP rX) [.box p1 (aW nK)]):PC 173 [pP p1] [.box p1 (aW nL)] Q:=by
 unfold lF at hf; refine BD 23 [.cell 2 37] [0] Tryz.func173 Z Z Z Z Z (W 0 Z (AS Z (AO.aN Z iq (fun b2=>?_)))); rcases dS hf with ⟨e1,y2,h1,hf⟩ | ⟨x1,y1,h1,hf⟩
 · refine U 1 Z (CL Z (AC.one 1 Z (dJ _ _ _ h1 ⟨_,Z,?_⟩))); cases hf; exact ⟨rfl,_,(.cons _ (.cons_cons _ (List.nil_sublist _))),h⟩
 refine U 1 Z (CL Z (AC.one 1 Z (dJ _ _ _ h1 ⟨_,Z,(AS Z (AO.aN Z iq (fun b3=>?_)))⟩))); obtain ⟨x2,y3,h2,hf⟩:=dX hf; refine Rr 2 [0] Z Z (CL Z (AC.one 2 Z (dZ _ _ _ h2 ⟨_,Z,(J 1 Z (C hf Z (fun h3 hf=>?_) fun h3 hf=>?_))⟩)))
 · cases hf; exact Wx 2 [0,1] rfl rfl ⟨rfl,_,⟨_,_,rfl,⟨_,_,1,_,_,rfl,rfl,iY,rfl⟩,rfl⟩,_,(.cons _ (.cons _ (.cons_cons _ (List.nil_sublist _)))),h⟩
 rcases dS hf with ⟨e2,y5,h4,hf⟩ | ⟨x3,y4,h4,hf⟩
 · refine W 1 Z (CL Z (AC.one 2 Z (bJ _ _ h4 ⟨_,Z,?_⟩))); cases hf; exact ⟨rfl,_,(.cons _ (.cons _ (.cons_cons _ (List.nil_sublist _)))),h⟩
 refine W 1 Z (CL Z (AC.one 2 Z (bJ _ _ h4 ⟨_,Z,(AS Z (AO.aN Z iq (fun b4=>?_)))⟩))); rcases dS hf with ⟨e3,y7,h5,hf⟩ | ⟨_,y6,h5,hf⟩
 · refine Rr 2 [0] Z Z (CL Z (AC.one 3 Z (dL _ _ _ h5 ⟨_,Z,?_⟩))); cases hf; exact ⟨rfl,_,(.cons _ (.cons _ (.cons _ (.cons_cons _ (List.nil_sublist _))))),h⟩
 refine Rr 2 [0] Z Z (CL Z (AC.one 3 Z (dL _ _ _ h5 ⟨_,Z,?_⟩))); rcases dS hf with ⟨e4,y9,h6,hf⟩ | ⟨x4,y8,h6,hf⟩
 · refine U 1 Z (CL Z (AC.one 3 Z (bJ _ _ h6 ⟨_,Z,?_⟩))); cases hf; exact ⟨rfl,_,(.cons _ (.cons _ (.cons _ (.cons_cons _ (List.nil_sublist _))))),h⟩
 refine U 1 rfl (CL rfl (AC.one 3 rfl (bJ _ _ h6 ⟨_,rfl,(AS rfl (AO.aN rfl iq (fun b5=>(Rr 4 [0,2,1,0] rfl rfl (AS rfl (AO.dw (ah.bR [x1,x3,x4]) rfl rQ rfl rfl rfl (by first | rfl | simp only [List.map,ah.aP,ah.bR]) ?_))))))⟩))); cases hf; exact Rx 2 [3] rfl rfl ⟨rfl,_,⟨_,_,rfl,⟨_,_,3,_,_,rfl,rfl,iY,rfl⟩,rfl⟩,_,(.cons _ (.cons _ (.cons _ (.cons _ (.cons_cons _ (List.nil_sublist _)))))),h⟩
theorem Ab (aD) (bJ:fH aD) (aL) (dJ:fG aL) (aR) (eZ:gY aR) (aS) (fT:gZ aS) (bg) (gJ:iE bg) (bf) (gI:iD bf) (aZ) (fB:iF aZ) (aT) (fF:fV aT) (p1:Nat) (nL:aj) (n1:Int) {rX:g_ aA ah} {nK:aj} (hf:jP aD aL aR aS bg bf aZ aT nL n1=some (rX,nK)) {Q:eT→List bA→Prop} (h:Q (nO rX) [.box p1 (aW nK)]):PC 244 [pP p1,iP n1] [.box p1 (aW nL)] Q:=by
 unfold jP at hf; refine BD 47 [.cell 4 37] [0,1] Tryz.func244 Z Z Z Z Z (W 0 Z (AS Z (AO.aN Z iq (fun b4=>(J 2 Z (C hf Z (fun h1 hf=>?_) fun h1 hf=>?_))))))
 ·
  rcases dS hf with ⟨e1,y2,h2,hf⟩ | ⟨x1,y1,h2,hf⟩
  · refine W 1 Z (CL Z (AC.one 1 Z (eZ _ _ h2 ⟨_,Z,?_⟩))); cases hf; exact ⟨rfl,_,(.cons _ (.cons_cons _ (List.nil_sublist _))),h⟩
  refine W 1 Z (CL Z (AC.one 1 Z (eZ _ _ h2 ⟨_,Z,?_⟩))); cases hf; exact Rx 1 [0] rfl rfl ⟨rfl,_,⟨_,_,rfl,⟨_,_,0,_,_,rfl,rfl,iY,rfl⟩,rfl⟩,_,(.cons _ (.cons_cons _ (List.nil_sublist _))),h⟩
 rcases dS hf with ⟨e2,y4,h3,hf⟩ | ⟨x2,y3,h3,hf⟩
 · refine W 3 Z (CL Z (AC.one 1 Z (dJ _ _ _ h3 ⟨_,Z,?_⟩))); cases hf; exact ⟨rfl,_,(.cons _ (.cons_cons _ (List.nil_sublist _))),h⟩
 refine W 3 Z (CL Z (AC.one 1 Z (dJ _ _ _ h3 ⟨_,Z,(AS Z (AO.aN Z iq (fun b5=>?_)))⟩))); refine Rw 1 [0] Z Z (Rk (fun e3 y5=>[(0,pP p1),(1,iP n1),(4,pP b4),(5,pP b5)]) (fun e3 y5=>[.box b5 (bn e3),.box b4 [iP 0,.str ([]:Str),iP 0,.bool false,iP 0,.str ([]:Str),.own (.slice none 0 0) [],.own (.slice none 0 0) [],.own (.slice none 0 0) [],.own (.slice none 0 0) []],.box p1 (aW y5)]) (fun dA e3 y5=>iN aL n1 dA e3 y5=some (rX,nK)) BIG x2 y3 Z Z hf (fun _ _ hz=>bI hz) ?_); intro dA e3 y5 hf; rw [iN] at hf; obtain ⟨x3,y6,h4,hf⟩:=dX hf; refine W 1 Z (CL Z (AC.one 2 Z (oK _ _ h4 ⟨_,Z,(AS Z (AO.aN Z oQ (fun b6=>?_)))⟩))); refine B1 hf fun b1 h6 hf=>Rr 5 [0,0] Z Z (AR.dH 6 20 26 false [0,1,4,5,6] b1 Z Z (fun h5=>?_) (fun h5=>?_) ?_)
 · replace h6:=jg h5 h6; refine Is 20 h5 Z (U 1 Z (GO Z (AO.dW (i:=0) Z Z Z Uk Z Z ?_))); refine B1 h6 fun x4 h7 h6=>GO Z (AO.call Z _ Z Z acu (rC _ h7 ?_)); cases h6; exact dP 3 Z (En [26,0,1,4,5,6] Z)
 · refine IT 20 h5 h6 Z fun h6=>?_; cases h6; exact dP 6 Z (En [26,0,1,4,5,6] Z)
 refine J 0 Z (C hf Z (fun h8 hf=>?_) fun h8 hf=>?_)
 · cases hf; exact Wx 2 [1,2] rfl rfl ⟨rfl,_,⟨_,_,rfl,⟨_,_,2,_,_,rfl,rfl,iY,rfl⟩,rfl⟩,_,(.cons _ (.cons _ (.cons _ (.cons_cons _ (List.nil_sublist _))))),h⟩
 refine Ww 8 [3,3] Z Z (AW.J9 0 6 8 3 mixed (by kernel_rfl) (by kernel_rfl) (by kernel_rfl) Z Z Z Z ?_); refine Ev.nil ?_; show Ev _ _ _ _ _ _ _; refine Ev.cs bL 1 Z (Ev.cons Z Z Z (AO.dW (i:=0) Z Z Z Uk Z Z zg) (Ev.cons Z Z Z (AO.dW (i:=1) Z Z Z iY Z Z zg) (Ev.cs bL 3 Z ?_))); refine Ev.nil ?_; rcases dS hf with ⟨e4,y8,h9,hf⟩ | ⟨x5,y7,h9,hf⟩
 · refine TF.step Z Z Z (AO.call Z _ Z Z Yn (AC.one 0 Z (dJ _ _ _ h9 ⟨_,Z,?_⟩))); cases hf; exact ⟨rfl,_,(.cons _ (.cons _ (.cons _ (.cons_cons _ (List.nil_sublist _))))),h⟩
 refine TF.step rfl rfl rfl (AO.call rfl _ rfl rfl Yn (AC.one 0 rfl (dJ _ _ _ h9 ⟨_,rfl,(TF.step rfl rfl rfl (AO.dw (ah.bR [e3,x5]) rfl rQ rfl rfl rfl (by first | rfl | simp only [List.map,ah.aP,ah.bR]) ?_))⟩))); refine TF.nil ?_; show AR _ _ _ _ _ _ _ _
 refine Rw 4 [1] Z Z (C hf Z (fun h10 hf=>?_) fun h10 hf=>?_)
 · cases hf; exact Wx 2 [1,2] rfl rfl ⟨rfl,_,⟨_,_,rfl,⟨_,_,2,_,_,rfl,rfl,iY,rfl⟩,rfl⟩,_,(.cons _ (.cons _ (.cons _ (.cons_cons _ (List.nil_sublist _))))),h⟩
 refine AW.drop1 (AW.JL 0 Z ?_); exact M 0 Z ⟨(ah.mk 7 x3.text (ak.mk 0 false 0 ([]:Str) [] []) [e3,x5] []),y7,Z,Z,Z,hf⟩
theorem DN (aD) (bJ:fH aD) (aL) (dJ:fG aL) (aR) (eZ:gY aR) (aS) (fT:gZ aS) (bg) (gJ:iE bg) (bf) (gI:iD bf) (aZ) (fB:iF aZ) (aT) (fF:fV aT) (p1:Nat) (nL:aj) {rX:g_ aA ah} {nK:aj} (hf:nH aD aL aR aS bg bf aZ aT nL=some (rX,nK)) {Q:eT→List bA→Prop} (h:Q (qX rX) [.box p1 (aW nK)]):PC 311 [pP p1] [.box p1 (aW nL)] Q:=by
 unfold nH at hf; refine BD 22 [.cell 2 37] [0] Tryz.func311 Z Z Z Z Z (W 0 Z (AS Z (AO.aN Z iq (fun b2=>(U 0 Z (AS Z (AO.dw (List.map lI ([([33]:Str),([45]:Str)]:List Str)) Z Ag Z Z Z Z (AS Z (AO.aU (l:=([([33]:Str),([45]:Str)]:List Str)) Z Z Z Z iy Z Z ?_))))))))); refine J 1 Z (Rk (fun x1 y1=>[(0,pP p1),(2,pP b2),(5,sP (([([33]:Str),([45]:Str)]:List Str))),(6,iP (([([33]:Str),([45]:Str)]:List Str).length:Int)),(7,iP x1)]) (fun x1 y1=>[.box b2 [iP 0,.str ([]:Str),iP 0,.bool false,iP 0,.str ([]:Str),.own (.slice none 0 0) [],.own (.slice none 0 0) [],.own (.slice none 0 0) [],.own (.slice none 0 0) []],.box p1 (aW y1)]) (fun dA x1 y1=>iX aR aS dA x1 y1=some (rX,nK)) BIG 0 nL Z Z hf (fun _ _ hz=>bI hz) ?_); intro dA x1 y1 hf; rw [iX] at hf; refine V 1 Z (C hf Z (fun h1 hf=>?_) fun h1 hf=>?_)
 ·
  refine B1 hf fun op1 h2 hf=>W 0 Z (AS Z (AO.bF h2 Z Z Z Z iy Z Z ?_)); obtain ⟨x2,y2,h3,hf⟩:=dX hf; refine U 4 Z (CL Z (AC.one 1 Z (dZ _ _ _ h3 ⟨_,Z,(J 0 Z (C hf Z (fun h4 hf=>?_) fun h4 hf=>?_))⟩)))
  ·
   rcases dS hf with ⟨e1,y4,h5,hf⟩ | ⟨x3,y3,h5,hf⟩
   · refine W 2 Z (CL Z (AC.one 1 Z (eZ _ _ h5 ⟨_,Z,?_⟩))); cases hf; exact ⟨rfl,_,(.cons _ (.cons_cons _ (List.nil_sublist _))),h⟩
   refine W 2 rfl (CL rfl (AC.one 1 rfl (eZ _ _ h5 ⟨_,rfl,(AS rfl (AO.dw (ah.bR [x3]) rfl rQ rfl rfl rfl (by first | rfl | simp only [List.map,ah.aP,ah.bR]) ?_))⟩))); cases hf; exact Rx 2 [0] rfl rfl ⟨rfl,_,⟨_,_,rfl,⟨_,_,0,_,_,rfl,rfl,iY,rfl⟩,rfl⟩,_,(.cons _ (.cons_cons _ (List.nil_sublist _))),h⟩
  exact M 2 Z ⟨(bV (x1 + 1)),y2,Z,Z,Z,hf⟩
 rcases dS hf with ⟨e2,y6,h6,hf⟩ | ⟨x4,y5,h6,hf⟩
 · refine W 1 Z (CL Z (AC.one 1 Z (fT _ _ h6 ⟨_,Z,?_⟩))); cases hf; exact ⟨rfl,_,(.cons _ (.cons_cons _ (List.nil_sublist _))),h⟩
 refine W 1 Z (CL Z (AC.one 1 Z (fT _ _ h6 ⟨_,Z,?_⟩))); cases hf; exact Rx 1 [0] rfl rfl ⟨rfl,_,⟨_,_,rfl,⟨_,_,0,_,_,rfl,rfl,iY,rfl⟩,rfl⟩,_,(.cons _ (.cons_cons _ (List.nil_sublist _))),h⟩
theorem DR (aD) (bJ:fH aD) (aL) (dJ:fG aL) (aR) (eZ:gY aR) (aS) (fT:gZ aS) (bg) (gJ:iE bg) (bf) (gI:iD bf) (aZ) (fB:iF aZ) (aT) (fF:fV aT) (p1:Nat) (nL:aj) {rX:g_ aA ah} {nK:aj} (hf:nI aD aL aR aS bg bf aZ aT nL=some (rX,nK)) {Q:eT→List bA→Prop} (h:Q (qY rX) [.box p1 (aW nK)]):PC 350 [pP p1] [.box p1 (aW nL)] Q:=by
 unfold nI at hf; refine BD 47 [.cell 2 37] [0] Tryz.func350 Z Z Z Z Z (W 0 Z (AS Z (AO.aN Z iq (fun b2=>?_)))); rcases dS hf with ⟨e1,y2,h1,hf⟩ | ⟨x1,y1,h1,hf⟩
 · refine U 1 Z (CL Z (AC.one 1 Z (gJ _ _ h1 ⟨_,Z,?_⟩))); cases hf; exact ⟨rfl,_,(.cons _ (.cons_cons _ (List.nil_sublist _))),h⟩
 refine U 1 Z (CL Z (AC.one 1 Z (gJ _ _ h1 ⟨_,Z,(AS Z (AO.aN Z iq (fun b3=>?_)))⟩))); refine Rw 1 [0] Z Z (Rk (fun e2 y3=>[(0,pP p1),(2,pP b2),(3,pP b3)]) (fun e2 y3=>[.box b3 (bn e2),.box b2 [iP 0,.str ([]:Str),iP 0,.bool false,iP 0,.str ([]:Str),.own (.slice none 0 0) [],.own (.slice none 0 0) [],.own (.slice none 0 0) [],.own (.slice none 0 0) []],.box p1 (aW y3)]) (fun dA e2 y3=>gH aD dA e2 y3=some (rX,nK)) BIG x1 y1 Z Z hf (fun _ _ hz=>bI hz) ?_); intro dA e2 y3 hf; rw [gH] at hf; obtain ⟨x2,y4,h2,hf⟩:=dX hf; refine W 1 Z (CL Z (AC.one 2 Z (dZ _ _ _ h2 ⟨_,Z,(J 1 Z (C hf Z (fun h3 hf=>?_) fun h3 hf=>?_))⟩)))
 ·
  rcases dS hf with ⟨e3,y6,h4,hf⟩ | ⟨x3,y5,h4,hf⟩
  · refine W 1 Z (CL Z (AC.one 2 Z (iU _ _ h4 ⟨_,Z,?_⟩))); cases hf; exact ⟨rfl,_,(.cons _ (.cons _ (.cons_cons _ (List.nil_sublist _)))),h⟩
  refine W 1 Z (CL Z (AC.one 2 Z (iU _ _ h4 ⟨_,Z,(AS Z (AO.aN Z oQ (fun b4=>?_)))⟩))); refine B1 hf fun b1 h6 hf=>Rr 5 [0,0] Z Z (AR.dH 4 17 21 false [0,2,3,4] b1 Z Z (fun h5=>?_) (fun h5=>?_) ?_)
  · replace h6:=jg h5 h6; refine Is 17 h5 Z (U 1 Z (GO Z (AO.dW (i:=0) Z Z Z Uk Z Z ?_))); refine BR h6 fun x4 h7 h6=>?_; refine GO Z (AO.call Z _ Z Z Yl (Bo _ h7 ?_)); cases h6; exact dP 1 Z (En [21,0,2,3,4] Z)
  · refine IT 17 h5 h6 Z fun h6=>?_; cases h6; exact dP 4 Z (En [21,0,2,3,4] Z)
  refine J 0 Z (C hf Z (fun h8 hf=>?_) fun h8 hf=>?_)
  ·
   rcases dS hf with ⟨e4,y8,h9,hf⟩ | ⟨_,y7,h9,hf⟩
   · refine W 1 Z (CL Z (AC.one 3 Z (eP _ _ _ h9 ⟨_,Z,?_⟩))); cases hf; exact ⟨rfl,_,(.cons _ (.cons _ (.cons _ (.cons_cons _ (List.nil_sublist _))))),h⟩
   refine W 1 rfl (CL rfl (AC.one 3 rfl (eP _ _ _ h9 ⟨_,rfl,(Rr 11 [3,3,0,1] rfl rfl (AS rfl (AO.dw (ah.bR [e2]) rfl rQ rfl rfl rfl (by first | rfl | simp only [List.map,ah.aP,ah.bR]) ?_)))⟩))); refine Rn 2 [1] Z Z (AR.drop1 (AR.JL 0 Z ?_)); exact N 0 Z ⟨(ah.mk 3 x3.text (ak.mk 0 false 0 ([]:Str) [] []) [e2] []),(aj.mk y7.ts (bV (y7.at_ + 1))),Z,Z,Z,hf⟩
  refine Wr 11 [3,3,0,1] rfl rfl (AS rfl (AO.dw (ah.bR [e2]) rfl rQ rfl rfl rfl (by first | rfl | simp only [List.map,ah.aP,ah.bR]) ?_)); refine Rn 2 [1] Z Z (AR.drop1 (AR.JL 0 Z ?_)); exact N 0 Z ⟨(ah.mk 3 x3.text (ak.mk 0 false 0 ([]:Str) [] []) [e2] []),(aj.mk y5.ts (bV (y5.at_ + 1))),Z,Z,Z,hf⟩
 obtain ⟨x5,y9,h10,hf⟩:=dX hf; refine W 1 Z (CL Z (AC.one 2 Z (dZ _ _ _ h10 ⟨_,Z,(J 1 Z (C hf Z (fun h11 hf=>?_) fun h11 hf=>?_))⟩)))
 ·
  rcases dS hf with ⟨e5,ZG,h12,hf⟩ | ⟨x6,ZO,h12,hf⟩
  · refine W 1 Z (CL Z (AC.one 2 Z (bJ _ _ h12 ⟨_,Z,?_⟩))); cases hf; exact ⟨rfl,_,(.cons _ (.cons _ (.cons_cons _ (List.nil_sublist _)))),h⟩
  refine W 1 Z (CL Z (AC.one 2 Z (bJ _ _ h12 ⟨_,Z,(AS Z (AO.aN Z iq (fun b5=>?_)))⟩))); rcases dS hf with ⟨e6,y13,kL,hf⟩ | ⟨_,ZM,kL,hf⟩
  · refine Rr 2 [0] Z Z (CL Z (AC.one 3 Z (dL _ _ _ kL ⟨_,Z,?_⟩))); cases hf; exact ⟨rfl,_,(.cons _ (.cons _ (.cons _ (.cons_cons _ (List.nil_sublist _))))),h⟩
  refine Rr 2 [0] rfl rfl (CL rfl (AC.one 3 rfl (dL _ _ _ kL ⟨_,rfl,(Rr 2 [1,0] rfl rfl (AS rfl (AO.dw (ah.bR [e2,x6]) rfl rQ rfl rfl rfl (by first | rfl | simp only [List.map,ah.aP,ah.bR]) ?_)))⟩))); refine Rn 2 [1] Z Z (AR.drop1 (AR.JL 0 Z ?_)); exact N 0 Z ⟨(ah.mk 4 ([]:Str) (ak.mk 0 false 0 ([]:Str) [] []) [e2,x6] []),ZM,Z,Z,Z,hf⟩
 cases hf; exact Wx 2 [0,1] rfl rfl ⟨rfl,_,⟨_,_,rfl,⟨_,_,1,_,_,rfl,rfl,iY,rfl⟩,rfl⟩,_,(.cons _ (.cons _ (.cons_cons _ (List.nil_sublist _)))),h⟩
theorem D5 (aD) (bJ:fH aD) (aL) (dJ:fG aL) (aR) (eZ:gY aR) (aS) (fT:gZ aS) (bg) (gJ:iE bg) (bf) (gI:iD bf) (aZ) (fB:iF aZ) (aT) (fF:fV aT) (p1:Nat) (nL:aj) {rX:g_ aA ah} {nK:aj} (hf:oF aD aL aR aS bg bf aZ aT nL=some (rX,nK)) {Q:eT→List bA→Prop} (h:Q (rJ rX) [.box p1 (aW nK)]):PC 383 [pP p1] [.box p1 (aW nL)] Q:=by
 unfold oF at hf; refine BD 77 [.cell 2 37] [0] Tryz.func383 Z Z Z Z Z (W 0 Z (AS Z (AO.aN Z iq (fun b2=>?_)))); rcases dS hf with ⟨e1,y2,h1,hf⟩ | ⟨x1,y1,h1,hf⟩
 · refine U 1 Z (CL Z (AC.one 1 Z (iU _ _ h1 ⟨_,Z,?_⟩))); cases hf; exact ⟨rfl,_,(.cons _ (.cons_cons _ (List.nil_sublist _))),h⟩
 refine U 1 Z (CL Z (AC.one 1 Z (iU _ _ h1 ⟨_,Z,(AS Z (AO.aN Z oQ (fun b3=>(Rw 5 [0,0] Z Z (C hf Z (fun h2 hf=>?_) fun h2 hf=>?_)))))⟩)))
 · obtain ⟨n1,x2,h3,hf⟩:=dX hf; refine Wr 10 [2,2,0] Z Z (CL Z (EZ _ h3 ?_)); refine B1 hf fun x3 h4 hf=>U 7 Z (CL Z (tF _ h4 ?_)); cases hf; exact Rx 1 [1] rfl rfl ⟨rfl,_,⟨_,_,rfl,⟨_,_,1,_,_,rfl,rfl,iY,rfl⟩,rfl⟩,_,(.cons _ (.cons _ (.cons_cons _ (List.nil_sublist _)))),h⟩
 refine V 2 Z (C hf Z (fun h5 hf=>?_) fun h5 hf=>?_)
 · refine B1 hf fun x4 h6 hf=>Wr 11 [2,2,0] Z Z (CL Z (tF _ h6 ?_)); cases hf; exact Rx 1 [1] rfl rfl ⟨rfl,_,⟨_,_,rfl,⟨_,_,1,_,_,rfl,rfl,iY,rfl⟩,rfl⟩,_,(.cons _ (.cons _ (.cons_cons _ (List.nil_sublist _)))),h⟩
 refine V 2 Z (C hf Z (fun h7 hf=>?_) fun h7 hf=>?_)
 ·
  rcases dS hf with ⟨e2,y4,h8,hf⟩ | ⟨x5,y3,h8,hf⟩
  · refine Wr 11 [2,2,0] Z Z (CL Z (AC.one 2 Z (gI _ _ _ h8 ⟨_,Z,?_⟩))); cases hf; exact ⟨rfl,_,(.cons _ (.cons _ (.cons_cons _ (List.nil_sublist _)))),h⟩
  refine Wr 11 [2,2,0] Z Z (CL Z (AC.one 2 Z (gI _ _ _ h8 ⟨_,Z,?_⟩))); cases hf; exact Rx 1 [1] rfl rfl ⟨rfl,_,⟨_,_,rfl,⟨_,_,1,_,_,rfl,rfl,iY,rfl⟩,rfl⟩,_,(.cons _ (.cons _ (.cons_cons _ (List.nil_sublist _)))),h⟩
 obtain ⟨x6,y5,h9,hf⟩:=dX hf; refine W 1 Z (CL Z (AC.one 2 Z (dZ _ _ _ h9 ⟨_,Z,(J 1 Z (C hf Z (fun h10 hf=>?_) fun h10 hf=>?_))⟩)))
 ·
  rcases dS hf with ⟨e3,y7,h11,hf⟩ | ⟨x7,y6,h11,hf⟩
  · refine W 1 Z (CL Z (AC.one 2 Z (bJ _ _ h11 ⟨_,Z,?_⟩))); cases hf; exact ⟨rfl,_,(.cons _ (.cons _ (.cons_cons _ (List.nil_sublist _)))),h⟩
  refine W 1 Z (CL Z (AC.one 2 Z (bJ _ _ h11 ⟨_,Z,(AS Z (AO.aN Z iq (fun b6=>?_)))⟩))); rcases dS hf with ⟨e4,y9,h12,hf⟩ | ⟨_,y8,h12,hf⟩
  · refine Rr 2 [0] Z Z (CL Z (AC.one 3 Z (dL _ _ _ h12 ⟨_,Z,?_⟩))); cases hf; exact ⟨rfl,_,(.cons _ (.cons _ (.cons _ (.cons_cons _ (List.nil_sublist _))))),h⟩
  refine Rr 2 [0] Z Z (CL Z (AC.one 3 Z (dL _ _ _ h12 ⟨_,Z,?_⟩))); cases hf; exact Rx 2 [0,2] rfl rfl ⟨rfl,_,⟨_,_,rfl,⟨_,_,2,_,_,rfl,rfl,iY,rfl⟩,rfl⟩,_,(.cons _ (.cons _ (.cons _ (.cons_cons _ (List.nil_sublist _))))),h⟩
 obtain ⟨x8,ZO,kL,hf⟩:=dX hf; refine W 1 Z (CL Z (AC.one 2 Z (dZ _ _ _ kL ⟨_,Z,(J 1 Z (C hf Z (fun lD hf=>?_) fun lD hf=>?_))⟩)))
 ·
  rcases dS hf with ⟨e5,ZM,nT,hf⟩ | ⟨x9,ZG,nT,hf⟩
  · refine W 1 Z (CL Z (AC.one 2 Z (fB _ _ _ nT ⟨_,Z,?_⟩))); cases hf; exact ⟨rfl,_,(.cons _ (.cons _ (.cons_cons _ (List.nil_sublist _)))),h⟩
  refine W 1 Z (CL Z (AC.one 2 Z (fB _ _ _ nT ⟨_,Z,?_⟩))); cases hf; exact Rx 2 [1] rfl rfl ⟨rfl,_,⟨_,_,rfl,⟨_,_,1,_,_,rfl,rfl,iY,rfl⟩,rfl⟩,_,(.cons _ (.cons _ (.cons_cons _ (List.nil_sublist _)))),h⟩
 obtain ⟨JK,y13,h16,hf⟩:=dX hf; refine W 1 Z (CL Z (AC.one 2 Z (dZ _ _ _ h16 ⟨_,Z,(J 1 Z (C hf Z (fun wP hf=>?_) fun wP hf=>?_))⟩)))
 ·
  rcases dS hf with ⟨e6,y15,h18,hf⟩ | ⟨Rs,y14,h18,hf⟩
  · refine W 1 Z (CL Z (AC.one 2 Z (fF _ _ h18 ⟨_,Z,?_⟩))); cases hf; exact ⟨rfl,_,(.cons _ (.cons _ (.cons_cons _ (List.nil_sublist _)))),h⟩
  refine W 1 Z (CL Z (AC.one 2 Z (fF _ _ h18 ⟨_,Z,?_⟩))); cases hf; exact Rx 1 [1] rfl rfl ⟨rfl,_,⟨_,_,rfl,⟨_,_,1,_,_,rfl,rfl,iY,rfl⟩,rfl⟩,_,(.cons _ (.cons _ (.cons_cons _ (List.nil_sublist _)))),h⟩
 rcases dS hf with ⟨e7,y17,h19,hf⟩ | ⟨_,y16,h19,hf⟩
 · refine W 1 Z (CL Z (AC.one 2 Z (eP _ _ _ h19 ⟨_,Z,?_⟩))); cases hf; exact ⟨rfl,_,(.cons _ (.cons _ (.cons_cons _ (List.nil_sublist _)))),h⟩
 refine W 1 Z (CL Z (AC.one 2 Z (eP _ _ _ h19 ⟨_,Z,?_⟩))); cases hf; exact Rx 2 [1] rfl rfl ⟨rfl,_,⟨_,_,rfl,⟨_,_,1,_,_,rfl,rfl,iY,rfl⟩,rfl⟩,_,(.cons _ (.cons _ (.cons_cons _ (List.nil_sublist _)))),h⟩
theorem DZ (aD) (bJ:fH aD) (aL) (dJ:fG aL) (aR) (eZ:gY aR) (aS) (fT:gZ aS) (bg) (gJ:iE bg) (bf) (gI:iD bf) (aZ) (fB:iF aZ) (aT) (fF:fV aT) (p1:Nat) (nL:aj) (s1:Str) {rX:g_ aA ah} {nK:aj} (hf:oD aD aL aR aS bg bf aZ aT nL s1=some (rX,nK)) {Q:eT→List bA→Prop} (h:Q (rH rX) [.box p1 (aW nK)]):PC 411 [pP p1,.str s1] [.box p1 (aW nL)] Q:=by
 unfold oD at hf; refine BD 26 [.cell 4 37] [0,1] Tryz.func411 Z Z Z Z Z (W 0 Z (AS Z (AO.aN Z iq (fun b4=>(J 3 Z (C hf Z (fun h1 hf=>?_) fun h1 hf=>?_))))))
 · refine B1 hf fun x1 h2 hf=>W 1 Z (CL Z (tF _ h2 ?_)); cases hf; exact Rx 1 [0] rfl rfl ⟨rfl,_,⟨_,_,rfl,⟨_,_,0,_,_,rfl,rfl,iY,rfl⟩,rfl⟩,_,(.cons _ (.cons_cons _ (List.nil_sublist _))),h⟩
 refine B1 hf fun x2 h3 hf=>W 1 Z (CL Z (Bo _ h3 (J 1 Z (C hf Z (fun h4 hf=>?_) fun h4 hf=>?_))))
 · refine B1 hf fun x3 h5 hf=>W 3 Z (CL Z (tF _ h5 ?_)); cases hf; exact Rx 1 [0] rfl rfl ⟨rfl,_,⟨_,_,rfl,⟨_,_,0,_,_,rfl,rfl,iY,rfl⟩,rfl⟩,_,(.cons _ (.cons_cons _ (List.nil_sublist _))),h⟩
 obtain ⟨x4,y1,h6,hf⟩:=dX hf; refine W 1 Z (CL Z (AC.one 1 Z (dZ _ _ _ h6 ⟨_,Z,(J 1 Z (C hf Z (fun h7 hf=>?_) fun h7 hf=>?_))⟩)))
 ·
  rcases dS hf with ⟨e1,y3,h8,hf⟩ | ⟨x5,y2,h8,hf⟩
  · refine W 2 Z (CL Z (AC.one 1 Z (fB _ _ _ h8 ⟨_,Z,?_⟩))); cases hf; exact ⟨rfl,_,(.cons _ (.cons_cons _ (List.nil_sublist _))),h⟩
  refine W 2 Z (CL Z (AC.one 1 Z (fB _ _ _ h8 ⟨_,Z,?_⟩))); cases hf; exact Rx 2 [0] rfl rfl ⟨rfl,_,⟨_,_,rfl,⟨_,_,0,_,_,rfl,rfl,iY,rfl⟩,rfl⟩,_,(.cons _ (.cons_cons _ (List.nil_sublist _))),h⟩
 cases hf; exact Wx 3 [0] rfl rfl ⟨rfl,_,⟨_,_,rfl,⟨_,_,0,_,_,rfl,rfl,iY,rfl⟩,rfl⟩,_,(.cons _ (.cons_cons _ (List.nil_sublist _))),h⟩
theorem D6 (aD) (bJ:fH aD) (aL) (dJ:fG aL) (aR) (eZ:gY aR) (aS) (fT:gZ aS) (bg) (gJ:iE bg) (bf) (gI:iD bf) (aZ) (fB:iF aZ) (aT) (fF:fV aT) (p1:Nat) (nL:aj) (qx:Str) {rX:g_ aA (List ah)} {nK:aj} (hf:oG aD aL aR aS bg bf aZ aT nL qx=some (rX,nK)) {Q:eT→List bA→Prop} (h:Q (rM rX) [.box p1 (aW nK)]):PC 412 [pP p1,.str qx] [.box p1 (aW nL)] Q:=by
 unfold oG at hf; refine BD 21 [.tmp 4] [0,1] Tryz.func412 Z Z Z Z Z (W 0 Z (AS Z (AO.fq Z Z ?_))); obtain ⟨x1,y1,h1,hf⟩:=dX hf; refine U 2 Z (CL Z (AC.one 0 Z (dZ _ _ _ h1 ⟨_,Z,(J 0 Z (C hf Z (fun h2 hf=>?_) fun h2 hf=>?_))⟩)))
 · refine W 0 Z (AS Z (AO.fq Z Z ?_)); cases hf; exact N 0 rfl ⟨rfl,_,⟨_,_,rfl,rfl,rfl⟩,_,(.cons_cons _ (List.nil_sublist _)),h⟩
 refine V 1 Z (AW.row 10 37 (LK3 (fun dF v1 y2=>[(0,pP p1),(1,.str qx),(5,.own v1 (ah.bR dF))]) (fun dF v1 y2=>[.row v1 (ah.bR dF).length 10 37,.box p1 (aW y2)]) (fun dA dF v1 y2=>jZ aD qx dA dF y2=some (rX,nK)) BIG [] (.slice none 0 0) y1 Z Z hf (fun _ _ _ hz=>bI hz) ?_)); intro dA dF v1 y2 hf; rw [jZ] at hf; rcases dS hf with ⟨e1,y4,h3,hf⟩ | ⟨x2,y3,h3,hf⟩
 · refine W 2 Z (CL Z (AC.one 1 Z (bJ _ _ h3 ⟨_,Z,?_⟩))); cases hf; exact ⟨rfl,_,(.cons _ (.cons_cons _ (List.nil_sublist _))),h⟩
 refine W 2 rfl (CL rfl (AC.one 1 rfl (bJ _ _ h3 ⟨_,rfl,(AS rfl (AO.dw (ah.bR [x2]) rfl rQ rfl rfl rfl (by first | rfl | simp only [List.map,ah.aP,ah.bR]) ?_))⟩))); refine B1 hf fun yM h4 hf=>AS Z (AO.lH (i:=0) (l:=dF) (m:=[x2]) h4 Z Z Z Z Z Z Z rQ iI (ah.aO _) (ah.aO _) (ah.aO _).symm (ah.fu) (ah.cells_one) (by decide) (fun v2 s1 hs1=>?_)); cases hs1; obtain ⟨x3,y5,h5,hf⟩:=dX hf
 refine U 2 Z (CL Z (AC.one 1 Z (dZ _ _ _ h5 ⟨_,Z,(J 1 Z (C hf Z (fun h6 hf=>?_) fun h6 hf=>?_))⟩)))
 ·
  rcases dS hf with ⟨e2,y7,h7,hf⟩ | ⟨_,y6,h7,hf⟩
  · refine W 2 Z (CL Z (AC.one 1 Z (dL _ _ _ h7 ⟨_,Z,?_⟩))); cases hf; exact ⟨rfl,_,(.cons _ (.cons_cons _ (List.nil_sublist _))),h⟩
  refine W 2 Z (CL Z (AC.one 1 Z (dL _ _ _ h7 ⟨_,Z,?_⟩))); cases hf; exact N 2 rfl ⟨rfl,_,⟨_,_,rfl,rfl,rfl⟩,_,(.cons _ (.cons_cons _ (List.nil_sublist _))),h⟩
 exact M 0 Z ⟨yM,v2,y5,Z,Z,Z,hf⟩
theorem Bv (aD) (bJ:fH aD) (aL) (dJ:fG aL) (aR) (eZ:gY aR) (aS) (fT:gZ aS) (bg) (gJ:iE bg) (bf) (gI:iD bf) (aZ) (fB:iF aZ) (aT) (fF:fV aT) (p1:Nat) (nL:aj) {rX:g_ aA ah} {nK:aj} (hf:mh aD aL aR aS bg bf aZ aT nL=some (rX,nK)) {Q:eT→List bA→Prop} (h:Q (o_ rX) [.box p1 (aW nK)]):PC 413 [pP p1] [.box p1 (aW nL)] Q:=by
 unfold mh at hf; refine BD 50 [.cell 2 37] [0] Tryz.func413 Z Z Z Z Z (W 0 Z (AS Z (AO.aN Z iq (fun b2=>(U 1 Z (AS Z (AO.aN Z iq (fun b3=>?_)))))))); obtain ⟨x1,y1,h1,hf⟩:=dX hf; refine Rr 2 [0] Z Z (CL Z (AC.one 2 Z (dZ _ _ _ h1 ⟨_,Z,(J 0 Z (C hf Z (fun h2 hf=>?_) fun h2 hf=>?_))⟩)))
 · cases hf; exact Wx 2 [0,1] rfl rfl ⟨rfl,_,⟨_,_,rfl,⟨_,_,1,_,_,rfl,rfl,iY,rfl⟩,rfl⟩,_,(.cons _ (.cons _ (.cons_cons _ (List.nil_sublist _)))),h⟩
 refine V 0 Z (AW.row 10 37 (AW.row 1 9 (AW.settle [0,2,3] Z (AW.zw 2 [false,false,false,false,false,false,true,true] Z (LK4 (fun dF v1 v2 y2=>[(0,pP p1),(2,pP b2),(3,pP b3)]) (fun dF v1 v2 y2=>[.row v2 (List.map lI dF.keys).length 1 9,.row v1 (ah.bR dF.args).length 10 37,.box b3 [iP dF.kind,.str dF.name,iP dF.value.kind,.bool dF.value.fU,iP dF.value.kF,.str dF.value.kC,.list (ak.bR dF.value.bT),sP dF.value.keys,.own v1 (ah.bR dF.args),.own v2 (List.map lI dF.keys)],.box b2 [iP 0,.str ([]:Str),iP 0,.bool false,iP 0,.str ([]:Str),.own (.slice none 0 0) [],.own (.slice none 0 0) [],.own (.slice none 0 0) [],.own (.slice none 0 0) []],.box p1 (aW y2)]) (fun dA dF v1 v2 y2=>iH aD dA dF y2=some (rX,nK)) BIG (ah.mk 10 ([]:Str) (ak.mk 0 false 0 ([]:Str) [] []) [] []) (.slice none 0 0) (.slice none 0 0) y1 Z Z hf (fun _ _ _ _ hz=>bI hz) ?_))))); intro dA dF v1 v2 y2 hf; rw [iH] at hf; rcases dS hf with ⟨e1,y4,h3,hf⟩ | ⟨x2,y3,h3,hf⟩
 · refine W 1 Z (CL Z (AC.one 4 Z (iU _ _ h3 ⟨_,Z,?_⟩))); cases hf; exact ⟨rfl,_,(.cons _ (.cons _ (.cons _ (.cons _ (.cons_cons _ (List.nil_sublist _)))))),h⟩
 refine W 1 Z (CL Z (AC.one 4 Z (iU _ _ h3 ⟨_,Z,(AS Z (AO.aN Z oQ (fun b4=>(Rr 5 [0,0] Z Z (AR.and 4 14 18 [0,2,3,4] (x:=(x2.kind != 3)) Z Z (fun h4=>?_) (fun h4=>?_) ?_)))))⟩)))
 · refine Is 14 h4 Z (U 1 Z (GO Z (AO.dW (i:=0) Z Z Z Gx Z Z ?_))); exact dP 2 Z (En [18,0,2,3,4] Z)
 · refine Is 14 h4 Z ?_; exact dP 4 Z (En [18,0,2,3,4] Z)
 refine J 0 Z (C hf Z (fun h5 hf=>?_) fun h5 hf=>?_)
 ·
  rcases dS hf with ⟨e2,y6,h6,hf⟩ | ⟨_,y5,h6,hf⟩
  · refine W 1 Z (CL Z (AC.one 5 Z (eP _ _ _ h6 ⟨_,Z,?_⟩))); cases hf; exact ⟨rfl,_,(.cons _ (.cons _ (.cons _ (.cons _ (.cons _ (.cons_cons _ (List.nil_sublist _))))))),h⟩
  refine W 1 Z (CL Z (AC.one 5 Z (eP _ _ _ h6 ⟨_,Z,?_⟩))); rcases dS hf with ⟨e3,y8,h7,hf⟩ | ⟨_,y7,h7,hf⟩
  · refine Rr 9 [5,5] Z Z (CL Z (AC.one 5 Z (dL _ _ _ h7 ⟨_,Z,?_⟩))); cases hf; exact ⟨rfl,_,(.cons _ (.cons _ (.cons _ (.cons _ (.cons _ (.cons_cons _ (List.nil_sublist _))))))),h⟩
  refine Rr 9 [5,5] Z Z (CL Z (AC.one 5 Z (dL _ _ _ h7 ⟨_,Z,(Rr 4 [3,0] Z Z (AS Z (AO.dw (List.map lI ([x2.text]:List Str)) Z Ag Z Z Z Z ?_)))⟩))); refine B1 hf fun x3 h8 hf=>AS Z (AO.lH (i:=1) (l:=dF.keys) (m:=([x2.text]:List Str)) h8 Z Z Z Z Z Z Z Ag iy Z Z Z (fun _=>Z) (fun _=>Z) (by decide) (fun v3 s1 hs1=>?_)); cases hs1; refine Rw 2 [3] Z Z (AW.J9 0 3 5 5 mixed (by kernel_rfl) (by kernel_rfl) (by kernel_rfl) Z Z Z Z ?_); refine Ev.nil ?_; show Ev _ _ _ _ _ _ _; refine Ev.cs bL 1 Z (Ev.cons Z Z Z (AO.dW (i:=3) Z Z Z Vl Z Z zg) (Ev.cs bL 1 Z (Ev.nil ?_))); rcases dS hf with ⟨e4,ZO,h9,hf⟩ | ⟨x4,y9,h9,hf⟩
  · refine TF.step Z Z Z (AO.call Z _ Z Z I_ (AC.one 0 Z (bJ _ _ h9 ⟨_,Z,?_⟩))); cases hf; exact ⟨rfl,_,(.cons _ (.cons _ (.cons _ (.cons _ (.cons _ (.cons_cons _ (List.nil_sublist _))))))),h⟩
  refine TF.step rfl rfl rfl (AO.call rfl _ rfl rfl I_ (AC.one 0 rfl (bJ _ _ h9 ⟨_,rfl,(TF.step rfl rfl rfl (AO.dw (ah.bR [x4]) rfl rQ rfl rfl rfl (by first | rfl | simp only [List.map,ah.aP,ah.bR]) ?_))⟩))); refine TF.nil ?_; show AR _ _ _ _ _ _ _ _
  refine B1 hf fun x5 h10 hf=>AS Z (AO.lH (i:=2) (l:=dF.args) (m:=[x4]) h10 Z Z Z Z Z Z Z rQ iI (ah.aO _) (ah.aO _) (ah.aO _).symm (ah.fu) (ah.cells_one) (by decide) (fun v4 s2 hs2=>?_)); cases hs2; obtain ⟨x6,ZG,h11,hf⟩:=dX hf; refine Rr 3 [3] Z Z (CL Z (AC.one 5 Z (dZ _ _ _ h11 ⟨_,Z,(J 1 Z (C hf Z (fun h12 hf=>?_) fun h12 hf=>?_))⟩)))
  ·
   rcases dS hf with ⟨e5,y13,kL,hf⟩ | ⟨_,ZM,kL,hf⟩
   · refine W 1 Z (CL Z (AC.one 5 Z (dL _ _ _ kL ⟨_,Z,?_⟩))); cases hf; exact ⟨rfl,_,(.cons _ (.cons _ (.cons _ (.cons _ (.cons _ (.cons_cons _ (List.nil_sublist _))))))),h⟩
   refine W 1 Z (CL Z (AC.one 5 Z (dL _ _ _ kL ⟨_,Z,?_⟩))); cases hf; exact Rx 2 [3,4] rfl rfl ⟨rfl,_,⟨_,_,rfl,⟨_,_,4,_,_,rfl,rfl,iY,rfl⟩,rfl⟩,_,(.cons _ (.cons _ (.cons _ (.cons _ (.cons _ (.cons_cons _ (List.nil_sublist _))))))),h⟩
  refine AW.drop1 ?_; exact M 0 Z ⟨(ah.mk dF.kind dF.name dF.value x5 x3),v4,v3,ZG,Z,Z,Z,hf⟩
 rcases dS hf with ⟨e6,y15,lD,hf⟩ | ⟨_,y14,lD,hf⟩
 · refine Wr 9 [5,5] Z Z (CL Z (AC.one 5 Z (dL _ _ _ lD ⟨_,Z,?_⟩))); cases hf; exact ⟨rfl,_,(.cons _ (.cons _ (.cons _ (.cons _ (.cons _ (.cons_cons _ (List.nil_sublist _))))))),h⟩
 refine Wr 9 [5,5] Z Z (CL Z (AC.one 5 Z (dL _ _ _ lD ⟨_,Z,(Rr 4 [3,0] Z Z (AS Z (AO.dw (List.map lI ([x2.text]:List Str)) Z Ag Z Z Z Z ?_)))⟩))); refine B1 hf fun x7 nT hf=>AS Z (AO.lH (i:=1) (l:=dF.keys) (m:=([x2.text]:List Str)) nT Z Z Z Z Z Z Z Ag iy Z Z Z (fun _=>Z) (fun _=>Z) (by decide) (fun v5 s3 hs3=>?_)); cases hs3; refine Rw 2 [3] Z Z (AW.J9 0 3 5 5 mixed (by kernel_rfl) (by kernel_rfl) (by kernel_rfl) Z Z Z Z ?_); refine Ev.nil ?_; show Ev _ _ _ _ _ _ _; refine Ev.cs bL 1 Z (Ev.cons Z Z Z (AO.dW (i:=3) Z Z Z Vl Z Z zg) (Ev.cs bL 1 Z (Ev.nil ?_))); rcases dS hf with ⟨e7,y17,h16,hf⟩ | ⟨x8,y16,h16,hf⟩
 · refine TF.step Z Z Z (AO.call Z _ Z Z I_ (AC.one 0 Z (bJ _ _ h16 ⟨_,Z,?_⟩))); cases hf; exact ⟨rfl,_,(.cons _ (.cons _ (.cons _ (.cons _ (.cons _ (.cons_cons _ (List.nil_sublist _))))))),h⟩
 refine TF.step rfl rfl rfl (AO.call rfl _ rfl rfl I_ (AC.one 0 rfl (bJ _ _ h16 ⟨_,rfl,(TF.step rfl rfl rfl (AO.dw (ah.bR [x8]) rfl rQ rfl rfl rfl (by first | rfl | simp only [List.map,ah.aP,ah.bR]) ?_))⟩))); refine TF.nil ?_; show AR _ _ _ _ _ _ _ _
 refine B1 hf fun x9 wP hf=>AS Z (AO.lH (i:=2) (l:=dF.args) (m:=[x8]) wP Z Z Z Z Z Z Z rQ iI (ah.aO _) (ah.aO _) (ah.aO _).symm (ah.fu) (ah.cells_one) (by decide) (fun v6 s4 hs4=>?_)); cases hs4; obtain ⟨JK,y18,h18,hf⟩:=dX hf; refine Rr 3 [3] Z Z (CL Z (AC.one 5 Z (dZ _ _ _ h18 ⟨_,Z,(J 1 Z (C hf Z (fun h19 hf=>?_) fun h19 hf=>?_))⟩)))
 ·
  rcases dS hf with ⟨e8,y20,h20,hf⟩ | ⟨_,y19,h20,hf⟩
  · refine W 1 Z (CL Z (AC.one 5 Z (dL _ _ _ h20 ⟨_,Z,?_⟩))); cases hf; exact ⟨rfl,_,(.cons _ (.cons _ (.cons _ (.cons _ (.cons _ (.cons_cons _ (List.nil_sublist _))))))),h⟩
  refine W 1 Z (CL Z (AC.one 5 Z (dL _ _ _ h20 ⟨_,Z,?_⟩))); cases hf; exact Rx 2 [3,4] rfl rfl ⟨rfl,_,⟨_,_,rfl,⟨_,_,4,_,_,rfl,rfl,iY,rfl⟩,rfl⟩,_,(.cons _ (.cons _ (.cons _ (.cons _ (.cons _ (.cons_cons _ (List.nil_sublist _))))))),h⟩
 refine AW.drop1 ?_; exact M 0 Z ⟨(ah.mk dF.kind dF.name dF.value x9 x7),v6,v5,y18,Z,Z,Z,hf⟩
theorem gB :∀ k:Nat,(fH (aQ k))∧(fG (aX k))∧(gY (bQ k))∧(gZ (bU k))∧(iE (cu k))∧(iD (cO k))∧(iF (bS k))∧(fV (bO k)):=by
 intro k
 induction k with
 | zero=>exact ⟨fun _ _ _ _ hz=>by first | cases hz | (unfold aQ at hz; cases hz),fun _ _ _ _ _ hz=>by first | cases hz | (unfold aX at hz; cases hz),fun _ _ _ _ hz=>by first | cases hz | (unfold bQ at hz; cases hz),fun _ _ _ _ hz=>by first | cases hz | (unfold bU at hz; cases hz),fun _ _ _ _ hz=>by first | cases hz | (unfold cu at hz; cases hz),fun _ _ _ _ _ hz=>by first | cases hz | (unfold cO at hz; cases hz),fun _ _ _ _ _ hz=>by first | cases hz | (unfold bS at hz; cases hz),fun _ _ _ _ hz=>by first | cases hz | (unfold bO at hz; cases hz)⟩
 | succ k ih=>exact ⟨fun oU f_ fO iL hz  Q hq=>Ac (aQ k) ih.1 (aX k) ih.2.1 (bQ k) ih.2.2.1 (bU k) ih.2.2.2.1 (cu k) ih.2.2.2.2.1 (cO k) ih.2.2.2.2.2.1 (bS k) ih.2.2.2.2.2.2.1 (bO k) ih.2.2.2.2.2.2.2 oU f_ hz hq,fun oU f_ XA fO iL hz  Q hq=>Ab (aQ k) ih.1 (aX k) ih.2.1 (bQ k) ih.2.2.1 (bU k) ih.2.2.2.1 (cu k) ih.2.2.2.2.1 (cO k) ih.2.2.2.2.2.1 (bS k) ih.2.2.2.2.2.2.1 (bO k) ih.2.2.2.2.2.2.2 oU f_ XA hz hq,fun oU f_ fO iL hz  Q hq=>DN (aQ k) ih.1 (aX k) ih.2.1 (bQ k) ih.2.2.1 (bU k) ih.2.2.2.1 (cu k) ih.2.2.2.2.1 (cO k) ih.2.2.2.2.2.1 (bS k) ih.2.2.2.2.2.2.1 (bO k) ih.2.2.2.2.2.2.2 oU f_ hz hq,fun oU f_ fO iL hz  Q hq=>DR (aQ k) ih.1 (aX k) ih.2.1 (bQ k) ih.2.2.1 (bU k) ih.2.2.2.1 (cu k) ih.2.2.2.2.1 (cO k) ih.2.2.2.2.2.1 (bS k) ih.2.2.2.2.2.2.1 (bO k) ih.2.2.2.2.2.2.2 oU f_ hz hq,fun oU f_ fO iL hz  Q hq=>D5 (aQ k) ih.1 (aX k) ih.2.1 (bQ k) ih.2.2.1 (bU k) ih.2.2.2.1 (cu k) ih.2.2.2.2.1 (cO k) ih.2.2.2.2.2.1 (bS k) ih.2.2.2.2.2.2.1 (bO k) ih.2.2.2.2.2.2.2 oU f_ hz hq,fun oU f_ Dp fO iL hz  Q hq=>DZ (aQ k) ih.1 (aX k) ih.2.1 (bQ k) ih.2.2.1 (bU k) ih.2.2.2.1 (cu k) ih.2.2.2.2.1 (cO k) ih.2.2.2.2.2.1 (bS k) ih.2.2.2.2.2.2.1 (bO k) ih.2.2.2.2.2.2.2 oU f_ Dp hz hq,fun oU f_ Dq fO iL hz  Q hq=>D6 (aQ k) ih.1 (aX k) ih.2.1 (bQ k) ih.2.2.1 (bU k) ih.2.2.2.1 (cu k) ih.2.2.2.2.1 (cO k) ih.2.2.2.2.2.1 (bS k) ih.2.2.2.2.2.2.1 (bO k) ih.2.2.2.2.2.2.2 oU f_ Dq hz hq,fun oU f_ fO iL hz  Q hq=>Bv (aQ k) ih.1 (aX k) ih.2.1 (bQ k) ih.2.2.1 (bU k) ih.2.2.2.1 (cu k) ih.2.2.2.2.1 (cO k) ih.2.2.2.2.2.1 (bS k) ih.2.2.2.2.2.2.1 (bO k) ih.2.2.2.2.2.2.2 oU f_ hz hq⟩
theorem tL (oU:Nat) (f_:aj) {fO:g_ aA ah} {iL:aj} (hf:pE f_=some (fO,iL)) {Q:eT→List bA→Prop} (h:Q (nP fO) [.box oU (aW iL)]):PC 173 [pP oU] [.box oU (aW f_)] Q:=
 ((gB BIG).1) oU f_ hf h
theorem NT (oU:Nat) (f_:aj) (XA:Int) {fO:g_ aA ah} {iL:aj} (hf:BZ f_ XA=some (fO,iL)) {Q:eT→List bA→Prop} (h:Q (nO fO) [.box oU (aW iL)]):PC 244 [pP oU,iP XA] [.box oU (aW f_)] Q:=
 ((gB BIG).2.1) oU f_ XA hf h
theorem Rm (oU:Nat) (f_:aj) {fO:g_ aA ah} {iL:aj} (hf:FW f_=some (fO,iL)) {Q:eT→List bA→Prop} (h:Q (qX fO) [.box oU (aW iL)]):PC 311 [pP oU] [.box oU (aW f_)] Q:=
 ((gB BIG).2.2.1) oU f_ hf h
theorem Ro (oU:Nat) (f_:aj) {fO:g_ aA ah} {iL:aj} (hf:FZ f_=some (fO,iL)) {Q:eT→List bA→Prop} (h:Q (qY fO) [.box oU (aW iL)]):PC 350 [pP oU] [.box oU (aW f_)] Q:=
 ((gB BIG).2.2.2.1) oU f_ hf h
theorem TK (oU:Nat) (f_:aj) {fO:g_ aA ah} {iL:aj} (hf:GA f_=some (fO,iL)) {Q:eT→List bA→Prop} (h:Q (rJ fO) [.box oU (aW iL)]):PC 383 [pP oU] [.box oU (aW f_)] Q:=
 ((gB BIG).2.2.2.2.1) oU f_ hf h
theorem TJ (oU:Nat) (f_:aj) (Dp:Str) {fO:g_ aA ah} {iL:aj} (hf:Gz f_ Dp=some (fO,iL)) {Q:eT→List bA→Prop} (h:Q (rH fO) [.box oU (aW iL)]):PC 411 [pP oU,.str Dp] [.box oU (aW f_)] Q:=
 ((gB BIG).2.2.2.2.2.1) oU f_ Dp hf h
theorem TL (oU:Nat) (f_:aj) (Dq:Str) {fO:g_ aA (List ah)} {iL:aj} (hf:GD f_ Dq=some (fO,iL)) {Q:eT→List bA→Prop} (h:Q (rM fO) [.box oU (aW iL)]):PC 412 [pP oU,.str Dq] [.box oU (aW f_)] Q:=
 ((gB BIG).2.2.2.2.2.2.1) oU f_ Dq hf h
theorem PG (oU:Nat) (f_:aj) {fO:g_ aA ah} {iL:aj} (hf:DT f_=some (fO,iL)) {Q:eT→List bA→Prop} (h:Q (o_ fO) [.box oU (aW iL)]):PC 413 [pP oU] [.box oU (aW f_)] Q:=
 ((gB BIG).2.2.2.2.2.2.2) oU f_ hf h
end
section
variable [DU]
theorem OI (iK:List av) {r0:ah} {r1 r2:Int} (hf:Av iK=some (r0,r1,r2)) (h:Q (.ret (.tuple [.agg (bn r0),iP r1,iP r2])) τ):PC 102 [.list (List.map av.cells iK)] τ Q:=by
 unfold Av at hf; refine AC.none (AC.J3 17 [.cell 2 37,.cell 3 3,.cell 4 24] [0] [0,1,2] Tryz.func102 Z Z Z Z Z Tryz.func172 Z Z Z Z Z Z Z ab6 (AW.sr (AR.step Z Z Z (AO.aN Z iq (fun b2=>?_))))); refine AR.step Z Z Z (AO.aN Z aeO (fun b3=>(AR.step Z Z Z (AO.aN Z Va (fun b4=>(AR.nil [0,2,3,4] Z (AW.sr ?_))))))); refine cs 1 Z (AR.step Z Z Z (AO.build Z aby Z8 Z (AR.step Z Z Z (AO.VT Z Z (fun b8=>(cs 1 Z ?_)))))); refine AR.nil [2,3,4,5] Z (AW.sr (cs 1 Z (AR.defer (vs:=[.pointer (some ⟨b2,0,none⟩),.pointer (some ⟨b3,0,none⟩),.pointer (some ⟨b4,0,none⟩)]) Z Z Z Z Z Z ?_))); refine AR.nil [2,3,4,5] Z (AW.sr (cs 1 Z ?_)); rcases dS hf with ⟨f1,s1,h1,hf⟩ | ⟨e1,s1,h1,hf⟩
 ·
  refine AR.step Z Z Z (AO.call Z _ Z Z I_ (AC.one 0 Z (tL _ _ h1 ⟨_,Z,?_⟩))); cases hf; refine ⟨[.pointer (some ⟨b2,0,none⟩),.pointer (some ⟨b3,0,none⟩),.pointer (some ⟨b4,0,none⟩)],_,Z,Z,Z,(AR.step Z Z Z (AO.Vm Z Z Z4 (cs 3 Z (AR.step Z Z Z (AO.aN Z XL (fun b5=>?_))))))⟩; refine AR.dx Z Z (AO.eH (i:=0) Z Z Z X0 Z Z Z Z Z (cs 1 Z (AR.nil [0,1,2,3,4] Z (AW.sr ?_)))); refine cs 1 Z (AR.nil [0,1,2,3,10] Z (AW.cond Z (fun _=>?_) (fun hh=>by cases hh))); refine AW.Y4 1 5 7 [_] [_,_,_,_] mixed (by kernel_rfl) (by kernel_rfl) (by kernel_rfl) Z Z Z (List.Perm.refl _) ?_; refine Ev.cons Z Z Z (AO.build Z iq Ed Z zg) (Ev.nil ?_); show Ev _ _ _ _ _ _ _; refine Ev.cs bL 1 Z (Ev.cons Z Z Z (AO.dW (i:=0) Z Z Z Gx Z Z zg) (Ev.cs bL 1 Z (Ev.cons Z Z Z (AO.dW (i:=0) Z Z Z rP Z Z zg) ?_))); refine Ev.nil (TF.dx Z Z (AO.eH (i:=3) Z Z Z iY Z Z Z Z Z (TF.dx Z Z (AO.eH (i:=2) Z Z Z Gx Z Z Z Z Z (TF.nil ?_))))); show AR _ _ _ _ _ _ _ _; refine AR.dx Z Z (AO.eH (i:=2) Z Z Z rP Z Z Z Z Z (AR.nil [] Z ?_)); exact ⟨rfl,_,⟨_,_,rfl,⟨_,_,4,_,_,rfl,rfl,iY,rfl⟩,⟨_,_,rfl,⟨_,_,3,_,_,rfl,rfl,Gx,rfl⟩,⟨_,_,rfl,⟨_,_,2,_,_,rfl,rfl,rP,rfl⟩,rfl⟩⟩⟩,[],List.nil_sublist _,h⟩
 refine AR.step Z Z Z (AO.call Z _ Z Z I_ (AC.one 0 Z (tL _ _ h1 ⟨_,Z,?_⟩))); cases hf; refine AR.dx Z Z (AO.eH (i:=3) Z Z Z iY Z Z Z Z Z (AR.nil [2,3,4,5] Z (AW.seq (AW.J9 1 5 6 3 mixed (by kernel_rfl) (by kernel_rfl) (by kernel_rfl) Z Z Z Z ?_)))); refine Ev.cons Z Z Z (AO.dW (i:=3) Z Z Z iY Z Z zg) (Ev.nil ?_); show Ev _ _ _ _ _ _ _; refine Ev.cs bL 3 Z (Ev.cons Z Z Z (AO.dW (i:=0) Z Z Z Gx Z Z zg) (Ev.nil (TF.dx Z Z (AO.eH (i:=0) Z Z Z iY Z Z Z Z Z ?_)))); refine TF.nil ?_; show AR _ _ _ _ _ _ _ _; refine AR.dx Z Z (AO.eH (i:=2) Z Z Z Gx Z Z Z Z Z (AR.dx Z Z (AO.eH (i:=1) Z Z Z rP Z Z Z Z Z (AR.nil [2,3,4] Z (AW.ret ?_))))); refine ⟨[.pointer (some ⟨b2,0,none⟩),.pointer (some ⟨b3,0,none⟩),.pointer (some ⟨b4,0,none⟩)],_,Z,Z,Z,(AR.step Z Z Z (AO.RY (p:=.agg [iP 0,iP 0]) Z Z Z6 (fun _ _=>by simp only [dU]; exact ⟨[.int .i64 0,.int .i64 0],Z,bC.cons (by simp [dU]) (bC.cons (by simp [dU]) bC.nil)⟩) ?_))⟩; refine cs 3 Z (AR.step Z Z Z (AO.aN Z XL (fun b5=>(AR.dx Z Z (AO.eH (i:=0) Z Z Z X0 Z Z Z Z Z (cs 1 Z ?_)))))); refine AR.nil [4] Z (AW.sr (cs 1 Z (AR.nil [10] Z ?_))); refine AW.cond Z (fun hh=>by cases hh) (fun _=>?_); refine AW.skip ?_; exact ⟨rfl,_,⟨_,_,rfl,⟨_,_,4,_,_,rfl,rfl,iY,rfl⟩,⟨_,_,rfl,⟨_,_,3,_,_,rfl,rfl,Gx,rfl⟩,⟨_,_,rfl,⟨_,_,2,_,_,rfl,rfl,rP,rfl⟩,rfl⟩⟩⟩,[],List.nil_sublist _,h⟩
end
abbrev Fq (jH:ah→Option Int):Prop:=∀ (lg:ah) {aV:Int},jH lg=some aV→∀ {τ:List bA} {Q:eT→List bA→Prop} (h:Q (.ret (iP aV)) τ),PC 108 [.agg (bn lg)] τ Q
theorem Lh (jH) (Jh:Fq jH) (e1:ah) {r0:Int} (hf:vW jH e1=some r0) (h:Q (.ret (iP r0)) τ):PC 108 [.agg (bn e1)] τ Q:=by
 unfold vW at hf; refine BN 19 [.tmp 2] [0] Tryz.func108 Z Z Z Z Z (W 5 Z (AS Z (AO.aU (l:=e1.args) Z Z Z Z iI Z (ah.aO _) (J 1 Z (Rk (fun n1 x1=>[(3,iP n1),(7,.list (ah.bR e1.args)),(8,iP (e1.args.length:Int)),(9,iP x1)]) (fun n1 x1=>[]) (fun dA n1 x1=>qJ jH e1 dA n1 x1=some r0) BIG 1 0 Z Z hf (fun _ _ hz=>bI hz) ?_))))); intro dA n1 x1 hf; rw [qJ] at hf; refine V 1 Z (C hf Z (fun h1 hf=>?_) fun h1 hf=>?_)
 · refine B1 hf fun e2 h2 hf=>W 0 Z (AS Z (AO.bF h2 Z Z (ah.aO _) Z iI (ah.aP _) Z (U 1 Z (AS Z (AO.aN Z iq (fun b5=>?_)))))); refine B1 hf fun x2 h3 hf=>Rr 3 [0,0] Z Z (CL Z (Jh _ h3 (dP 4 Z (AR.drop1 ?_)))); exact N 0 Z ⟨(bV (n1 + x2)),(bV (x1 + 1)),Z,Z,Z,hf⟩
 cases hf; exact M 2 Z (Y Z h)
theorem Mh :∀ k:Nat,(Fq (kR k)):=by
 intro k
 induction k with
 | zero=>exact fun _ _ hz=>by first | cases hz | (unfold kR at hz; cases hz)
 | succ k ih=>exact fun lg aV hz τ Q hq=>Lh (kR k) ih lg hz hq
theorem Nq (lg:ah) {aV:Int} (hf:yL lg=some aV) (h:Q (.ret (iP aV)) τ):PC 108 [.agg (bn lg)] τ Q:=
 ((Mh BIG)) lg hf h
theorem OG (v1:ak) {r0:Bool} (hf:Au v1=some r0) (h:Q (.ret (.bool r0)) τ):PC 251 [.agg (bK v1)] τ Q:=by
 unfold Au at hf; refine BN 33 [.tmp 2] [0] Tryz.func251 Z Z Z Z Z (W 6 Z (An 4 6 10 [1] (!v1.fU) Z Z Z Z (U 1 Z (An 4 11 15 [1] (v1.kF == 0) Z Z Z Z (U 1 Z (An 4 16 20 [1] (v1.kC == ([]:Str)) Z Z Z Z ?_)))))); refine U 1 Z (AR.and 5 21 26 [1] (x:=((v1.bT.length:Int) == 0)) Z Z (fun h4=>?_) (fun h4=>?_) ?_)
 · refine Is 21 h4 Z (U 2 Z (GO Z (AO.aU (l:=v1.bT) Z Z Z Z lC Z (ak.aO _) ?_))); exact dP 2 Z (En [26,1] Z)
 · refine Is 21 h4 Z ?_; exact dP 5 Z (En [26,1] Z)
 refine U 1 Z (AR.and 5 27 32 [] (x:=((v1.keys.length:Int) == 0)) Z Z (fun h5=>?_) (fun h5=>?_) ?_)
 · refine Is 27 h5 Z (U 2 Z (GO Z (AO.aU (l:=v1.keys) Z Z Z Z iy Z Z ?_))); exact dP 2 Z (En [32] Z)
 · refine Is 27 h5 Z ?_; exact dP 5 Z (En [32] Z)
 cases hf; exact N 1 Z (Y Z h)
theorem zX (s1:Str) {r0:Bool} (hf:mU s1=some r0) (h:Q (.ret (.bool r0)) τ):PC 318 [.str s1] τ Q:=by
 unfold mU at hf; refine BN 10 [.tmp 2] [0] Tryz.func318 Z Z Z Z Z ?_; refine B1 hf fun x1 h1 hf=>W 2 Z (CL Z (Gh _ h1 ?_)); refine BR hf fun b1 h3 hf=>?_; refine U 1 Z (AR.dH 4 5 9 true [] b1 Z Z (fun h2=>?_) (fun h2=>?_) ?_)
 · refine IT 5 h2 h3 Z fun h3=>?_; refine B1 h3 fun x2 h4 h3=>U 1 Z (GO Z (AO.call Z _ Z Z Yl (Bo _ h4 ?_))); cases h3; exact dP 2 Z (En [9] Z)
 · refine IF 5 h2 h3 Z fun h3=>?_; cases h3; exact dP 4 Z (En [9] Z)
 cases hf; exact N 1 Z (Y Z h)
theorem Nj (e1:ah) {r0:Bool} (hf:vS e1=some r0) (h:Q (.ret (.bool r0)) τ):PC 252 [.agg (bn e1)] τ Q:=by
 unfold vS at hf; refine BN 31 [.tmp 2] [0] Tryz.func252 Z Z Z Z Z (V 6 Z (C hf Z (fun h1 hf=>?_) fun h1 hf=>?_))
 ·
  refine V 0 Z (AW.cond Z (fun h2=>?_) (fun h2=>?_))
  · refine BR hf fun x1 h3 hf=>?_; refine W 2 Z (CL Z (zX _ h3 ?_)); cases hf; exact N 1 Z (Y Z h)
  cases h1.symm.trans h2
 refine V 2 Z (C hf Z (fun h4 hf=>?_) fun h4 hf=>?_)
 ·
  refine V 0 Z (AW.cond Z (fun h5=>?_) (fun h5=>?_))
  · refine BR hf fun x2 h6 hf=>?_; refine W 2 Z (CL Z (zX _ h6 ?_)); cases hf; exact N 1 Z (Y Z h)
  cases h4.symm.trans h5
 refine V 2 Z (C hf Z (fun h7 hf=>?_) fun h7 hf=>?_)
 · refine BR hf fun x3 h8 hf=>?_; refine W 2 Z (CL Z (zX _ h8 ?_)); cases hf; exact N 1 Z (Y Z h)
 refine V 2 Z (C hf Z (fun h9 hf=>?_) fun h9 hf=>?_)
 · refine W 4 Z (On 4 17 21 [] (e1.name == ([45]:Str)) Z Z Z Z ?_); cases hf; exact N 1 Z (Y Z h)
 refine V 2 Z (C hf Z (fun h11 hf=>?_) fun h11 hf=>?_)
 · refine B1 hf fun x4 h12 hf=>W 2 Z (CL Z (rC _ h12 ?_)); cases hf; exact N 2 Z (Y Z h)
 cases hf; exact M 4 Z (Y Z h)
theorem Nn (e1:ah) {r0:Bool} (hf:vU e1=some r0) (h:Q (.ret (.bool r0)) τ):PC 253 [.agg (bn e1)] τ Q:=by
 unfold vU at hf; refine BN 32 [.tmp 2] [0] Tryz.func253 Z Z Z Z Z (V 6 Z (C hf Z (fun h1 hf=>?_) fun h1 hf=>?_))
 ·
  refine V 0 Z (AW.cond Z (fun h2=>?_) (fun h2=>?_))
  · refine W 2 Z (AS Z (AO.aU (l:=e1.args) Z Z Z Z iI Z (ah.aO _) ?_)); cases hf; exact N 2 Z (Y Z h)
  cases h1.symm.trans h2
 refine V 2 Z (C hf Z (fun h3 hf=>?_) fun h3 hf=>?_)
 · refine W 2 Z (AS Z (AO.aU (l:=e1.args) Z Z Z Z iI Z (ah.aO _) ?_)); cases hf; exact N 2 Z (Y Z h)
 refine V 2 Z (C hf Z (fun h4 hf=>?_) fun h4 hf=>?_)
 ·
  refine V 0 Z (AW.cond Z (fun h5=>?_) (fun h5=>?_))
  · refine W 2 Z (AS Z (AO.aU (l:=e1.args) Z Z Z Z iI Z (ah.aO _) ?_)); cases hf; exact N 2 Z (Y Z h)
  cases h4.symm.trans h5
 refine V 2 Z (C hf Z (fun h6 hf=>?_) fun h6 hf=>?_)
 · refine W 2 Z (AS Z (AO.aU (l:=e1.args) Z Z Z Z iI Z (ah.aO _) ?_)); cases hf; exact N 2 Z (Y Z h)
 refine V 2 Z (C hf Z (fun h7 hf=>?_) fun h7 hf=>?_)
 ·
  refine V 0 Z (AW.cond Z (fun h8=>?_) (fun h8=>?_))
  · refine W 2 Z (AS Z (AO.aU (l:=e1.args) Z Z Z Z iI Z (ah.aO _) ?_)); cases hf; exact N 2 Z (Y Z h)
  cases h7.symm.trans h8
 refine V 2 Z (C hf Z (fun h9 hf=>?_) fun h9 hf=>?_)
 · refine W 2 Z (AS Z (AO.aU (l:=e1.args) Z Z Z Z iI Z (ah.aO _) ?_)); cases hf; exact N 2 Z (Y Z h)
 refine V 2 Z (C hf Z (fun h10 hf=>?_) fun h10 hf=>?_)
 · refine W 2 Z (AS Z (AO.aU (l:=e1.args) Z Z Z Z iI Z (ah.aO _) ?_)); cases hf; exact N 2 Z (Y Z h)
 cases hf; exact M 1 Z (Y Z h)
theorem uU (s1:List Str) (f1:Str→Option Bool) (f1F:FuncId) (f1C:List PV) (f1P:bM Tryz.prog f1F=true) (f1H:∀ a0 b0,f1 a0=some b0→∀ {τ:List bA} {Q:eT→List bA→Prop},Q (.ret (.bool b0)) τ→PC f1F ([.str a0] ++ f1C) τ Q) {r0:Int} (hf:ji s1 f1=some r0) (h:Q (.ret (iP r0)) τ):PC 356 [sP s1,.fn f1F f1C] τ Q:=by
 unfold ji at hf; refine BN 19 [.tmp 4] [0,1] Tryz.func356 Z Z Z Z Z (W 2 Z (AS Z (AO.aU (l:=s1) Z Z Z Z iy Z Z (J 1 Z (FT (fun i1=>[(0,sP s1),(1,.fn f1F f1C),(7,iP (s1.length:Int)),(8,iP i1)]) (fun i1=>[]) (fun dA i1=>gK s1 f1 dA i1=some r0) BIG 0 Z Z hf (fun _ hz=>bI hz) ?_))))); intro dA i1 hf; rw [gK] at hf; refine V 1 Z (C hf Z (fun h1 hf=>?_) fun h1 hf=>?_)
 ·
  refine B1 hf fun e1 h2 hf=>W 5 Z (AS Z (AO.bF h2 Z Z Z Z iy Z Z ?_)); refine B1 hf fun x1 h3 hf=>U 1 Z (AS Z (AO.call Z _ Z Z f1P (f1H _ _ h3 (J 0 Z (C hf Z (fun h4 hf=>?_) fun h4 hf=>?_)))))
  · cases hf; exact M 2 Z (Y Z h)
  exact M 2 Z ⟨(bV (i1 + 1)),Z,Z,Z,hf⟩
 cases hf; exact M 1 Z (Y Z h)
theorem tC (s1:List Str) (f1:Str→Option Bool) (f1F:FuncId) (f1C:List PV) (f1P:bM Tryz.prog f1F=true) (f1H:∀ a0 b0,f1 a0=some b0→∀ {τ:List bA} {Q:eT→List bA→Prop},Q (.ret (.bool b0)) τ→PC f1F ([.str a0] ++ f1C) τ Q) {r0:Bool} (hf:gL s1 f1=some r0) (h:Q (.ret (.bool r0)) τ):PC 319 [sP s1,.fn f1F f1C] τ Q:=by
 unfold gL at hf; refine BN 9 [.tmp 4] [0,1] Tryz.func319 Z Z Z Z Z ?_; refine B1 hf fun x1 h1 hf=>W 3 Z (CL Z (uU _ f1 f1F f1C f1P @f1H h1 ?_)); cases hf; exact N 2 Z (Y Z h)
theorem Jv (wO:Str) {r0:Bool} (hf:j5 wO=some r0) (h:Q (.ret (.bool r0)) τ):PC 320 [.str wO] τ Q:=by
 unfold j5 at hf; refine BN 11 [.tmp 2] [0] Tryz.func320 Z Z Z Z Z (W 2 Z (AS Z (AO.bZ Z Z Z Z dh Z (U 2 Z (AR.or 4 6 10 [] (x:=(decide (64 < (wO.length:Int)))) Z Z (fun h1=>?_) (fun h1=>?_) ?_)))))
 · refine Is 6 h1 Z (U 1 Z (GO Z (AO.bZ Z Z Z Z dh Z ?_))); exact dP 2 Z (En [10] Z)
 · refine Is 6 h1 Z ?_; exact dP 4 Z (En [10] Z)
 cases hf; exact N 1 Z (Y Z h)
theorem Nk (e1:ah) {r0:Bool} (hf:vT e1=some r0) (h:Q (.ret (.bool r0)) τ):PC 254 [.agg (bn e1)] τ Q:=by
 unfold vT at hf; refine BN 23 [.tmp 2] [0] Tryz.func254 Z Z Z Z Z (V 5 Z (C hf Z (fun h1 hf=>?_) fun h1 hf=>?_))
 · refine W 2 Z (AS Z (AO.aU (l:=e1.keys) Z Z Z Z iy Z Z ?_)); cases hf; exact N 2 Z (Y Z h)
 refine W 2 Z (AS Z (AO.aU (l:=e1.keys) Z Z Z Z iy Z Z (U 2 Z (AS Z (AO.aU (l:=e1.args) Z Z Z Z iI Z (ah.aO _) ?_))))); refine BR hf fun b1 h3 hf=>?_; refine U 2 Z (AR.dH 5 17 22 true [] b1 Z Z (fun h2=>?_) (fun h2=>?_) ?_)
 · refine IT 17 h2 h3 Z fun h3=>?_; refine B1 h3 fun x1 h4 h3=>U 2 Z (GO Z (AO.call Z _ Z Z abO (tC _ j5 320 [] abN (fun _ _ hz=>Jv _  hz) h4 ?_))); cases h3; exact dP 2 Z (En [22] Z)
 · refine IF 17 h2 h3 Z fun h3=>?_; cases h3; exact dP 5 Z (En [22] Z)
 cases hf; exact N 1 Z (Y Z h)
theorem PX {β:Type} (l:Nat) (T:β→List bA) (go:β→ak→Int→Option (Bool × β))
  (goH:∀ s1 v1 cB b s2,go s1 v1 cB=some (b,s2)→∀ {Q:eT→List bA→Prop},Q (.ret (.bool b)) (T s2)→PC 197 [.agg (bK v1),iP cB,.val (.func (.yield l) #[] #[])] (T s1) Q)
  (y:β→Int→ak→Option (Bool × β)) (hy:∀ s1 cB v1 b s2,y s1 cB v1=some (b,s2)→AY Tryz.prog l [iP cB,.agg (bK v1)] (T s1) (fun out σ'=>out=.ret (.bool b)∧σ'=T s2))
  (s1:β) (v1:ak) (cB:Int) {b:Bool} {s2:β} (hf:yF go y s1 v1 cB=some (b,s2)) {Q:eT→List bA→Prop} (h:Q (.ret (.bool b)) (T s2)):
  PC 197 [.agg (bK v1),iP cB,.val (.func (.yield l) #[] #[])] (T s1) Q:=by
 unfold yF at hf; refine AC.kS 28 [.tmp 6] [0,1,2] Tryz.func197 Z Z Z Z Z (AW.sr (AR.step Z Z Z (AO.FQ Z Z Z (cs 1 Z ?_)))); refine AR.nil [1,2,3] Z (AW.seq (AW.seq (AW.Vr ?_))); refine Ct.step Z Z Z Z (AO.calc' Z (Ct.step Z Z Z Z (AO.calc' Z (Ct.step Z Z Z Z (AO.Ca Z Z Ea Z ?_))))); obtain ⟨b1,s3,h1,hf⟩:=dX hf; refine Ct.yield Z Z Z Z Z _ Z Z (hy _ _ _ _ _ h1) (Ct.of Z (cs 1 Z (AR.nil [1,2,3,13] Z ?_))); refine AW.cond Z (fun h2=>?_) (fun h2=>?_)
 · replace hf:=jV h2 hf; refine AW.sr (cs 1 Z (AR.nil [6] Z (AW.ret ?_))); cases hf; exact ⟨rfl,_,⟨_,_,rfl,rfl,rfl⟩,_,List.Sublist.refl _,h⟩
 replace hf:=jg h2 hf; refine AW.skip (AW.seq (AW.sr (cs 2 Z ?_))); refine AR.step Z Z Z (AO.aU (l:=v1.bT) Z Z Z Z lC Z ((ak.aO _)) (cs 1 Z (AR.nil [1,2,15,16,17] Z (AW.block ?_)))); refine AW.acE (fun (_:β) i1=>[(1,iP cB),(2,.val (.func (.yield l) #[] #[])),(15,.list (ak.bR v1.bT)),(16,iP (v1.bT.length:Int)),(17,iP i1)]) (fun s1 _=>T s1) (fun dA s1 i1=>ug go v1 cB dA s1 i1=some (b,s2)) BIG s3 0 Z Z hf (fun _ _ hz=>bI hz) ?_; intro dA s4 i1 hf; rw [ug] at hf; refine AW.sr (cs 1 Z (AR.nil [1,2,15,16,17,18] Z (AW.seq ?_))); refine AW.cond Z (fun h1=>?_) (fun h1=>?_)
 ·
  replace hf:=jV h1 hf; refine AW.skip (AW.seq (AW.block (AW.sr ?_))); refine B1 hf fun x1 h3 hf=>AR.step Z Z Z (AO.bF h3 Z Z ((ak.aO _)) Z lC ((ak.aP _)) Z (cs 1 Z (AR.step Z Z Z (AO.aN Z rG (fun b8=>(AR.dx Z Z (AO.eH (i:=0) Z Z Z Ea Z Z Z Z Z ?_))))))); refine AR.nil [1,2,8,15,16,17] Z (AW.sr (AR.step Z Z Z (AO.dW (i:=0) Z Z Z Ea Z Z (cs 3 Z ?_)))); obtain ⟨b2,s5,h4,hf⟩:=dX hf; refine AR.drop1 (AR.step Z Z Z (AO.call Z _ Z Z ab4 (goH _ _ _ _ _ h4 (cs 1 Z (AR.nil [1,2,15,16,17,26] Z ?_))))); refine AW.cond Z (fun h5=>?_) (fun h5=>?_)
  · replace hf:=jV h5 hf; refine AW.sr (cs 1 Z (AR.nil [6] Z (AW.ret ?_))); cases hf; exact ⟨rfl,_,⟨_,_,rfl,rfl,rfl⟩,_,List.Sublist.refl _,h⟩
  replace hf:=jg h5 hf; refine AW.skip (AW.region (cs 2 Z (AR.nil [1,2,15,16,17] Z ?_))); exact ⟨s5,(bV (i1 + 1)),Z,Z,Z,hf⟩
 replace hf:=jg h1 hf; refine AW.exit (AW.sr (cs 1 Z (AR.nil [6] Z ?_))); refine AW.ret ?_; cases hf; exact ⟨rfl,_,⟨_,_,rfl,rfl,rfl⟩,_,List.Sublist.refl _,h⟩
theorem H7 {β:Type} (l:Nat) (T:β→List bA) (y:β→Int→ak→Option (Bool × β)) (hy:∀ s1 cB v1 b s2,y s1 cB v1=some (b,s2)→AY Tryz.prog l [iP cB,.agg (bK v1)] (T s1) (fun out σ'=>out=.ret (.bool b)∧σ'=T s2)):
  ∀ (k:Nat) (s1:β) (v1:ak) (cB:Int) (b:Bool) (s2:β),nX y k s1 v1 cB=some (b,s2)→∀ {Q:eT→List bA→Prop},Q (.ret (.bool b)) (T s2)→PC 197 [.agg (bK v1),iP cB,.val (.func (.yield l) #[] #[])] (T s1) Q
 | 0,_,_,_,_,_,hz=>by cases hz
 | k + 1,s1,v1,cB,b,s2,hz=>fun h=>PX l T (nX y k) (fun s1 v1 cB b s2 hz=>H7 l T y hy k s1 v1 cB b s2 hz) y hy s1 v1 cB hz h
theorem KC {β:Type} (l:Nat) (T:β→List bA) (y:β→Int→ak→Option (Bool × β)) (hy:∀ s1 cB v1 b s2,y s1 cB v1=some (b,s2)→AY Tryz.prog l [iP cB,.agg (bK v1)] (T s1) (fun out σ'=>out=.ret (.bool b)∧σ'=T s2))
    (s1:β) (v1:ak) (cB:Int) {b:Bool} {s2:β} (hf:Gt y s1 v1 cB=some (b,s2)) {Q:eT→List bA→Prop} (h:Q (.ret (.tuple [])) (T s2)):
    PC 196 [.val (.func (.yield l) #[] #[]),.ref (bK v1),.ref [iP cB]] (T s1) Q:=by
 refine BD 8 [] [0,1,2] Tryz.func196 Z Z Z Z Z (W 3 Z (CL Z (H7 l T y hy BIG _ _ _ _ _ hf ?_))); exact N 0 rfl ⟨rfl,_,rfl,_,List.Sublist.refl _,h⟩
theorem Ow (v1:ak) (cB:Int) (h:Q (.ret (.fn 196 [.ref (bK v1),.ref [iP cB]])) τ):PC 123 [.agg (bK v1),iP cB] τ Q:=by
 refine BN 6 [.tmp 4] [0,1] Tryz.func123 Z Z Z Z Z ?_; exact M 5 Z (Y Z h)
theorem M_ (v1:ak) {r0:Bool} (hf:yG v1=some r0) (h:Q (.ret (.bool r0)) τ):PC 198 [.agg (bK v1)] τ Q:=by
 unfold yG at hf; refine BN 58 [.tmp 2] [0] Tryz.func198 Z Z Z Z Z (W 6 Z (On 4 6 10 [1] (!v1.fU) Z Z Z Z (U 1 Z (AR.and 9 11 20 [1] (x:=((v1.kind == 2) || (v1.kF == 0))) Z Z (fun h2=>?_) (fun h2=>?_) ?_))))
 · refine Is 11 h2 Z (U 4 Z (On 4 15 19 [1,11] (v1.kF == 0) Z Z Z Z ?_)); exact dP 1 Z (En [20,1] Z)
 · refine Is 11 h2 Z ?_; exact dP 9 Z (En [20,1] Z)
 refine U 1 Z (AR.and 9 21 30 [1] (x:=((v1.kind == 3) || (v1.kC == ([]:Str)))) Z Z (fun h4=>?_) (fun h4=>?_) ?_)
 · refine Is 21 h4 Z (U 4 Z (On 4 25 29 [1,21] (v1.kC == ([]:Str)) Z Z Z Z ?_)); exact dP 1 Z (En [30,1] Z)
 · refine Is 21 h4 Z ?_; exact dP 9 Z (En [30,1] Z)
 refine U 1 Z (AR.and 15 31 46 [1] (x:=(((v1.kind == 4) || (v1.kind == 5)) || ((v1.bT.length:Int) == 0))) Z Z (fun h6=>?_) (fun h6=>?_) ?_)
 ·
  refine Is 31 h6 Z (U 4 Z (On 4 35 39 [1,31] (v1.kind == 5) Z Z Z Z (U 1 Z (AR.or 5 40 45 [1,31] (x:=((v1.bT.length:Int) == 0)) Z Z (fun h8=>?_) (fun h8=>?_) ?_))))
  · refine Is 40 h8 Z (U 2 Z (GO Z (AO.aU (l:=v1.bT) Z Z Z Z lC Z (ak.aO _) ?_))); exact dP 2 Z (En [45,1,31] Z)
  · refine Is 40 h8 Z ?_; exact dP 5 Z (En [45,1,31] Z)
  exact dP 1 Z (En [46,1] Z)
 · refine Is 31 h6 Z ?_; exact dP 15 Z (En [46,1] Z)
 refine U 1 Z (AR.and 10 47 57 [] (x:=((v1.kind == 5) || ((v1.keys.length:Int) == 0))) Z Z (fun h9=>?_) (fun h9=>?_) ?_)
 ·
  refine Is 47 h9 Z (U 4 Z (AR.or 5 51 56 [47] (x:=((v1.keys.length:Int) == 0)) Z Z (fun h10=>?_) (fun h10=>?_) ?_))
  · refine Is 51 h10 Z (U 2 Z (GO Z (AO.aU (l:=v1.keys) Z Z Z Z iy Z Z ?_))); exact dP 2 Z (En [56,47] Z)
  · refine Is 51 h10 Z ?_; exact dP 5 Z (En [56,47] Z)
  exact dP 1 Z (En [57] Z)
 · refine Is 47 h9 Z ?_; exact dP 10 Z (En [57] Z)
 cases hf; exact N 1 Z (Y Z h)
theorem OU (c1:UInt8) {r0:Bool} (hf:Az c1=some r0) (h:Q (.ret (.bool r0)) τ):PC 298 [.int .u8 (c1.toNat:Int)] τ Q:=by
 unfold Az at hf; refine BN 9 [.tmp 2] [0] Tryz.func298 Z Z Z Z Z (W 4 Z (An 3 5 8 [] (decide ((c1.toNat:Int)≤57)) Z Z Z Z ?_)); cases hf; exact N 1 Z (Y Z h)
theorem Kc (s1:Str) {r0:Int} (hf:zi s1=some r0) (h:Q (.ret (iP r0)) τ):PC 217 [.str s1] τ Q:=by
 unfold zi at hf; refine BN 17 [.tmp 2] [0] Tryz.func217 Z Z Z Z Z (V 2 Z (FT (fun n1=>[(0,.str s1),(3,iP n1)]) (fun n1=>[]) (fun dA n1=>wB s1 dA n1=some r0) BIG 0 Z Z hf (fun _ hz=>bI hz) ?_)); intro dA n1 hf; rw [wB] at hf; refine W 2 Z (AS Z (AO.bZ Z Z Z Z dh Z ?_)); refine B1 hf fun b1 h2 hf=>U 2 Z (AR.dH 5 8 13 true [0,3] b1 Z Z (fun h1=>?_) (fun h1=>?_) ?_)
 · refine IT 8 h1 h2 Z fun h2=>?_; refine B1 h2 fun x1 h3 h2=>U 2 Z (GO Z (AO.dB h3 Z dh Z Z ?_)); refine BR h2 fun x2 h4 h2=>?_; refine GO Z (AO.call Z _ Z Z abP (OU _ h4 ?_)); cases h2; exact dP 1 Z (En [13,0,3] Z)
 · refine IF 8 h1 h2 Z fun h2=>?_; cases h2; exact dP 5 Z (En [13,0,3] Z)
 refine J 0 Z (C hf Z (fun h5 hf=>?_) fun h5 hf=>?_)
 · exact M 3 Z ⟨(bV (n1 + 1)),Z,Z,Z,hf⟩
 cases hf; exact M 2 Z (Y Z h)
theorem Dc (s1:Str) (c1:UInt8) {r0:Str} (hf:strings_trimLeftByte s1 c1=some r0) (h:Q (.ret (.str r0)) τ):PC 344 [.str s1,.int .u8 (c1.toNat:Int)] τ Q:=by
 unfold strings_trimLeftByte at hf; refine BN 17 [.tmp 4] [0,1] Tryz.func344 Z Z Z Z Z (V 1 Z (FT (fun s2=>[(0,.str s2),(1,.int .u8 (c1.toNat:Int))]) (fun s2=>[]) (fun dA s2=>iM c1 dA s2=some r0) BIG s1 Z Z hf (fun _ hz=>bI hz) ?_)); intro dA s2 hf; rw [iM] at hf; refine W 1 Z (AS Z (AO.bZ Z Z Z Z dh Z ?_)); refine B1 hf fun b1 h2 hf=>U 2 Z (AR.dH 5 8 13 true [0,1] b1 Z Z (fun h1=>?_) (fun h1=>?_) ?_)
 · refine IT 8 h1 h2 Z fun h2=>?_; refine B1 h2 fun x1 h3 h2=>U 1 Z (GO Z (AO.dB h3 Z dh Z Z ?_)); cases h2; exact dP 3 Z (En [13,0,1] Z)
 · refine IF 8 h1 h2 Z fun h2=>?_; cases h2; exact dP 5 Z (En [13,0,1] Z)
 refine J 0 Z (C hf Z (fun h4 hf=>?_) fun h4 hf=>?_)
 · refine B1 hf fun s3 h5 hf=>W 1 Z (AS Z (AO.mP h5 Z dh Z ⟨_,Z⟩ Z ?_)); exact N 1 Z ⟨s3,Z,Z,Z,hf⟩
 cases hf; exact M 2 Z (Y Z h)
theorem zW (s1:Str) (AU:Str) {r0:Str} (hf:nk s1 AU=some r0) (h:Q (.ret (.str r0)) τ):PC 299 [.str s1,.str AU] τ Q:=by
 unfold nk at hf; refine BN 37 [.tmp 4] [0,1] Tryz.func299 Z Z Z Z Z (W 4 Z (On 3 9 12 [0,1] (AU == ([]:Str)) Z Z Z Z (J 0 Z (C hf Z (fun h2 hf=>?_) fun h2 hf=>?_))))
 · cases hf; exact M 2 Z (Y Z h)
 refine W 1 Z (AS Z (AO.bZ Z Z Z Z dh Z ?_)); refine B1 hf fun b1 h4 hf=>U 2 Z (AR.dH 4 17 21 true [0,1] b1 Z Z (fun h3=>?_) (fun h3=>?_) ?_)
 · refine IT 17 h3 h4 Z fun h4=>?_; refine B1 h4 fun x1 h5 h4=>U 1 Z (GO Z (AO.dB h5 Z dh Z Z ?_)); cases h4; exact dP 2 Z (En [21,0,1] Z)
 · refine IF 17 h3 h4 Z fun h4=>?_; cases h4; exact dP 4 Z (En [21,0,1] Z)
 refine J 0 Z (C hf Z (fun h6 hf=>?_) fun h6 hf=>?_)
 · refine B1 hf fun x2 h7 hf=>W 2 Z (AS Z (AO.dB h7 Z dh Z Z ?_)); refine BR hf fun x3 h8 hf=>?_; refine CL Z (Dc _ _ h8 ?_); cases hf; exact N 1 Z (Y Z h)
 exact bI hf
theorem DF (x1:Int) {r0:Bool} (hf:cmp_isNaN_int x1=some r0) (h:Q (.ret (.bool r0)) τ):PC 303 [iP x1] τ Q:=by
 unfold cmp_isNaN_int at hf; refine BN 6 [.tmp 2] [0] Tryz.func303 Z Z Z Z Z ?_; cases hf; exact M 5 Z (Y Z h)
theorem wJ (x1:Int) (y1:Int) {r0:Int} (hf:cmp_Compare_int x1 y1=some r0) (h:Q (.ret (iP r0)) τ):PC 220 [iP x1,iP y1] τ Q:=by
 unfold cmp_Compare_int at hf; refine BN 20 [.tmp 4] [0,1] Tryz.func220 Z Z Z Z Z ?_; refine B1 hf fun JJ h1 hf=>W 2 Z (CL Z (DF _ h1 ?_)); refine B1 hf fun DW h2 hf=>U 2 Z (CL Z (DF _ h2 (J 2 Z (C hf Z (fun h3 hf=>?_) fun h3 hf=>?_))))
 ·
  refine V 1 Z (C hf Z (fun h4 hf=>?_) fun h4 hf=>?_)
  · cases hf; exact M 1 Z (Y Z h)
  cases hf; exact M 1 Z (Y Z h)
 refine V 1 Z (C hf Z (fun h5 hf=>?_) fun h5 hf=>?_)
 · cases hf; exact M 1 Z (Y Z h)
 refine V 3 Z (C hf Z (fun h6 hf=>?_) fun h6 hf=>?_)
 · cases hf; exact M 1 Z (Y Z h)
 refine V 3 Z (C hf Z (fun h7 hf=>?_) fun h7 hf=>?_)
 · cases hf; exact M 1 Z (Y Z h)
 cases hf; exact M 1 Z (Y Z h)
theorem zZ (x1:Str) {r0:Bool} (hf:cmp_isNaN_string x1=some r0) (h:Q (.ret (.bool r0)) τ):PC 348 [.str x1] τ Q:=by
 unfold cmp_isNaN_string at hf; refine BN 6 [.tmp 2] [0] Tryz.func348 Z Z Z Z Z ?_; cases hf; exact M 5 Z (Y Z h)
theorem Fb (x1:Str) (y1:Str) {r0:Int} (hf:lN x1 y1=some r0) (h:Q (.ret (iP r0)) τ):PC 301 [.str x1,.str y1] τ Q:=by
 unfold lN at hf; refine BN 20 [.tmp 4] [0,1] Tryz.func301 Z Z Z Z Z ?_; refine B1 hf fun JJ h1 hf=>W 2 Z (CL Z (zZ _ h1 ?_)); refine B1 hf fun DW h2 hf=>U 2 Z (CL Z (zZ _ h2 (J 2 Z (C hf Z (fun h3 hf=>?_) fun h3 hf=>?_))))
 ·
  refine V 1 Z (C hf Z (fun h4 hf=>?_) fun h4 hf=>?_)
  · cases hf; exact M 1 Z (Y Z h)
  cases hf; exact M 1 Z (Y Z h)
 refine V 1 Z (C hf Z (fun h5 hf=>?_) fun h5 hf=>?_)
 · cases hf; exact M 1 Z (Y Z h)
 refine V 3 Z (C hf Z (fun h6 hf=>?_) fun h6 hf=>?_)
 · cases hf; exact M 1 Z (Y Z h)
 refine V 3 Z (C hf Z (fun h7 hf=>?_) fun h7 hf=>?_)
 · cases hf; exact M 1 Z (Y Z h)
 cases hf; exact M 1 Z (Y Z h)
theorem Q_ (Dn:List Int) {r0:Int} (hf:zT Dn=some r0) (h:Q (.ret (iP r0)) τ):PC 300 [.list (List.map YP Dn)] τ Q:=by
 unfold zT at hf; refine BN 18 [.tmp 2] [0] Tryz.func300 Z Z Z Z Z (W 3 Z (AS Z (AO.aU (l:=Dn) Z Z Z Z QF Z Z (J 1 Z (FT (fun x1=>[(3,iP 0),(6,.list (List.map YP Dn)),(7,iP (Dn.length:Int)),(8,iP x1)]) (fun x1=>[]) (fun dA x1=>uE Dn dA x1=some r0) BIG 0 Z Z hf (fun _ hz=>bI hz) ?_))))); intro dA x1 hf; rw [uE] at hf; refine V 1 Z (C hf Z (fun h1 hf=>?_) fun h1 hf=>?_)
 ·
  refine B1 hf fun V6 h2 hf=>W 0 Z (AS Z (AO.bF h2 Z Z Z Z QF Z Z (J 5 Z (C hf Z (fun h3 hf=>?_) fun h3 hf=>?_))))
  · cases hf; exact M 2 Z (Y Z h)
  exact M 2 Z ⟨(bV (x1 + 1)),Z,Z,Z,hf⟩
 cases hf; exact M 2 Z (Y Z h)
theorem KM (a1:Str) (b1:Str) {r0:Int} (hf:uz a1 b1=some r0) (h:Q (.ret (iP r0)) τ):PC 218 [.str a1,.str b1] τ Q:=by
 unfold uz at hf; refine BN 26 [.tmp 4] [0,1] Tryz.func218 Z Z Z Z Z ?_; refine B1 hf fun x1 h1 hf=>W 2 Z (CL Z (zW _ _ h1 ?_)); refine B1 hf fun y1 h2 hf=>U 1 Z (CL Z (zW _ _ h2 (U 3 Z (AS Z (AO.bZ Z Z Z Z dh Z (U 1 Z (AS Z (AO.bZ Z Z Z Z dh Z ?_)))))))); refine B1 hf fun x2 h3 hf=>CL Z (wJ _ _ h3 ?_); refine B1 hf fun x3 h4 hf=>U 2 Z (CL Z (Fb _ _ h4 (U 1 Z (AS Z (AO.bZ Z Z Z Z dh Z (U 1 Z (AS Z (AO.bZ Z Z Z Z dh Z ?_)))))))); refine B1 hf fun x4 h5 hf=>CL Z (wJ _ _ h5 (AS Z (AO.dw (List.map YP ([x2,x3,x4]:List Int)) Z X9 Z Z Z Z ?_))); refine BR hf fun x5 h6 hf=>?_; refine CL Z (Q_ _ h6 ?_); cases hf; exact N 1 Z (Y Z h)
theorem Ck (x1:UInt8) {r0:Bool} (hf:sF x1=some r0) (h:Q (.ret (.bool r0)) τ):PC 302 [.int .u8 (x1.toNat:Int)] τ Q:=by
 unfold sF at hf; refine BN 6 [.tmp 2] [0] Tryz.func302 Z Z Z Z Z ?_; cases hf; exact M 5 Z (Y Z h)
theorem GZ (x1:UInt8) (y1:UInt8) {r0:Int} (hf:pR x1 y1=some r0) (h:Q (.ret (iP r0)) τ):PC 219 [.int .u8 (x1.toNat:Int),.int .u8 (y1.toNat:Int)] τ Q:=by
 unfold pR at hf; refine BN 20 [.tmp 4] [0,1] Tryz.func219 Z Z Z Z Z ?_; refine B1 hf fun JJ h1 hf=>W 2 Z (CL Z (Ck _ h1 ?_)); refine B1 hf fun DW h2 hf=>U 2 Z (CL Z (Ck _ h2 (J 2 Z (C hf Z (fun h3 hf=>?_) fun h3 hf=>?_))))
 ·
  refine V 1 Z (C hf Z (fun h4 hf=>?_) fun h4 hf=>?_)
  · cases hf; exact M 1 Z (Y Z h)
  cases hf; exact M 1 Z (Y Z h)
 refine V 1 Z (C hf Z (fun h5 hf=>?_) fun h5 hf=>?_)
 · cases hf; exact M 1 Z (Y Z h)
 refine V 3 Z (C hf Z (fun h6 hf=>?_) fun h6 hf=>?_)
 · cases hf; exact M 1 Z (Y Z h)
 refine V 3 Z (C hf Z (fun h7 hf=>?_) fun h7 hf=>?_)
 · cases hf; exact M 1 Z (Y Z h)
 cases hf; exact M 1 Z (Y Z h)
theorem DC (a1:Str) (b1:Str) {r0:Int} (hf:j6 a1 b1=some r0) (h:Q (.ret (iP r0)) τ):PC 136 [.str a1,.str b1] τ Q:=by
 unfold j6 at hf; refine BN 59 [.tmp 4] [0,1] Tryz.func136 Z Z Z Z Z (V 1 Z (Rk (fun a2 b2=>[(0,.str a2),(1,.str b2)]) (fun a2 b2=>[]) (fun dA a2 b2=>jM dA a2 b2=some r0) BIG a1 b1 Z Z hf (fun _ _ hz=>bI hz) ?_)); intro dA a2 b2 hf; rw [jM] at hf; refine W 3 Z (An 3 10 13 [0,1] (!(b2 == ([]:Str))) Z Z Z Z (J 0 Z (C hf Z (fun h2 hf=>?_) fun h2 hf=>?_)))
 ·
  refine B1 hf fun n1 h3 hf=>W 1 Z (CL Z (Kc _ h3 ?_)); refine B1 hf fun m1 h4 hf=>U 1 Z (CL Z (Kc _ h4 (U 5 Z (An 3 20 23 [0,1,5,6] (decide (0 < m1)) Z Z Z Z (J 0 Z (C hf Z (fun h6 hf=>?_) fun h6 hf=>?_))))))
  ·
   refine V 0 Z (AW.draw 8 mixed (by kernel_rfl) Z ?_); refine Ev.cs bL 2 Z ?_; refine B1 hf fun x1 h7 hf=>Ev.cons Z Z Z (AO.mP h7 Z dh Z Z ⟨_,Z⟩ zg) (Ev.cs bL 2 Z ?_); refine B1 hf fun x2 h8 hf=>Ev.cons Z Z Z (AO.mP h8 Z dh Z Z ⟨_,Z⟩ zg) ?_; refine B1 hf fun c1 h9 hf=>Ev.cons Z Z Z (AO.call Z _ Z Z ab0 (KM _ _ h9 zg)) (Ev.cs bL 1 Z (Ev.nil ?_)); show AR _ _ _ _ _ _ _ _; refine J 2 Z (C hf Z (fun h10 hf=>?_) fun h10 hf=>?_)
   · cases hf; exact M 2 Z (Y Z h)
   refine V 0 Z (AW.draw 8 mixed (by kernel_rfl) Z ?_); refine Ev.cs bL 2 Z ?_; refine B1 hf fun a3 h11 hf=>Ev.cons Z Z Z (AO.mP h11 Z dh Z ⟨_,Z⟩ Z zg) (Ev.cs bL 2 Z ?_); refine B1 hf fun b3 h12 hf=>Ev.cons Z Z Z (AO.mP h12 Z dh Z ⟨_,Z⟩ Z zg) (Ev.cs bL 2 Z (Ev.nil ?_)); show AR _ _ _ _ _ _ _ _; exact N 0 Z ⟨a3,b3,Z,Z,Z,hf⟩
  refine V 0 Z (AW.draw 5 mixed (by kernel_rfl) Z ?_); refine Ev.cs bL 1 Z ?_; refine B1 hf fun x3 kL hf=>Ev.cons Z Z Z (AO.dB kL Z dh Z Z zg) (Ev.cs bL 1 Z ?_); refine B1 hf fun x4 lD hf=>Ev.cons Z Z Z (AO.dB lD Z dh Z Z zg) (Ev.cs bL 1 Z (Ev.nil ?_)); show AR _ _ _ _ _ _ _ _; refine J 0 Z (C hf Z (fun nT hf=>?_) fun nT hf=>?_)
  ·
   refine V 0 Z (AW.draw 6 mixed (by kernel_rfl) Z ?_); refine Ev.cs bL 1 Z ?_; refine B1 hf fun x5 h16 hf=>Ev.cons Z Z Z (AO.dB h16 Z dh Z Z zg) (Ev.cs bL 1 Z ?_); refine B1 hf fun x6 wP hf=>Ev.cons Z Z Z (AO.dB wP Z dh Z Z zg) ?_; refine BR hf fun x7 h18 hf=>?_; refine Ev.cons Z Z Z (AO.call Z _ Z Z abZ (GZ _ _ h18 zg)) (Ev.cs bL 1 Z (Ev.nil ?_)); show AR _ _ _ _ _ _ _ _; cases hf; exact N 0 Z (Y Z h)
  refine V 0 Z (AW.draw 6 mixed (by kernel_rfl) Z ?_); refine Ev.cs bL 1 Z ?_; refine B1 hf fun a4 h19 hf=>Ev.cons Z Z Z (AO.mP h19 Z dh Z ⟨_,Z⟩ Z zg) (Ev.cs bL 1 Z ?_); refine B1 hf fun b4 h20 hf=>Ev.cons Z Z Z (AO.mP h20 Z dh Z ⟨_,Z⟩ Z zg) (Ev.cs bL 2 Z (Ev.nil ?_)); show AR _ _ _ _ _ _ _ _; exact N 0 Z ⟨a4,b4,Z,Z,Z,hf⟩
 refine W 1 Z (AS Z (AO.bZ Z Z Z Z dh Z (U 1 Z (AS Z (AO.bZ Z Z Z Z dh Z ?_))))); refine BR hf fun x8 h21 hf=>?_; refine CL Z (wJ _ _ h21 ?_); cases hf; exact N 1 Z (Y Z h)
theorem Ox (v1:ak) {r0:Bool} (hf:xA v1=some r0) (h:Q (.ret (.bool r0)) τ):PC 199 [.agg (bK v1)] τ Q:=by
 unfold xA at hf; refine BN 44 [.tmp 2] [0] Tryz.func199 Z Z Z Z Z (W 4 Z (AS Z (AO.aU (l:=v1.keys) Z Z Z Z iy Z Z (U 2 Z (AS Z (AO.aU (l:=v1.bT) Z Z Z Z lC Z (ak.aO _) (J 1 Z (C hf Z (fun h1 hf=>?_) fun h1 hf=>?_))))))))
 · cases hf; exact M 1 Z (Y Z h)
 refine W 2 Z (AS Z (AO.aU (l:=v1.keys) Z Z Z Z iy Z Z (J 1 Z (FT (fun i1=>[(1,.ref (bK v1)),(13,sP v1.keys),(14,iP (v1.keys.length:Int)),(15,iP i1)]) (fun i1=>[]) (fun dA i1=>pq v1 dA i1=some r0) BIG 0 Z Z hf (fun _ hz=>bI hz) ?_)))); intro dA i1 hf; rw [pq] at hf; refine V 1 Z (C hf Z (fun h2 hf=>?_) fun h2 hf=>?_)
 ·
  refine B1 hf fun wO h3 hf=>W 1 Z (AS Z (AO.bF h3 Z Z Z Z iy Z Z (U 4 Z (AS Z (AO.bZ Z Z Z Z dh Z (U 2 Z (AR.or 4 23 27 [1,3,4,13,14,15] (x:=(decide (64 < (wO.length:Int)))) Z Z (fun h4=>?_) (fun h4=>?_) ?_)))))))
  · refine Is 23 h4 Z (U 1 Z (GO Z (AO.bZ Z Z Z Z dh Z ?_))); exact dP 2 Z (En [27,1,3,4,13,14,15] Z)
  · refine Is 23 h4 Z ?_; exact dP 4 Z (En [27,1,3,4,13,14,15] Z)
  refine B1 hf fun b1 h6 hf=>U 1 Z (AR.dH 14 28 42 false [1,13,14,15] b1 Z Z (fun h5=>?_) (fun h5=>?_) ?_)
  ·
   refine IF 28 h5 h6 Z fun h6=>?_; refine BR h6 fun b2 h8 h6=>?_; refine U 3 Z (AR.dH 10 31 41 true [1,13,14,15,28] b2 Z Z (fun h7=>?_) (fun h7=>?_) ?_)
   · refine IT 31 h7 h8 Z fun h8=>?_; refine B1 h8 fun e1 h9 h8=>U 4 Z (GO Z (AO.bF h9 Z Z Z Z iy Z Z ?_)); refine B1 h8 fun x1 h10 h8=>U 2 Z (GO Z (AO.call Z _ Z Z Yt (DC _ _ h10 ?_))); cases h8; exact dP 2 Z (En [41,1,13,14,15,28] Z)
   · refine IF 31 h7 h8 Z fun h8=>?_; cases h8; exact dP 10 Z (En [41,1,13,14,15,28] Z)
   cases h6; exact dP 1 Z (En [42,1,13,14,15] Z)
  · refine IT 28 h5 h6 Z fun h6=>?_; cases h6; exact dP 14 Z (En [42,1,13,14,15] Z)
  refine J 0 Z (C hf Z (fun h11 hf=>?_) fun h11 hf=>?_)
  · cases hf; exact M 1 Z (Y Z h)
  exact M 2 Z ⟨(bV (i1 + 1)),Z,Z,Z,hf⟩
 cases hf; exact M 1 Z (Y Z h)
theorem QV (v1:ak) (cB:Int) {r0:Int} (hf:zx v1 cB=some r0) (h:Q (.ret (iP r0)) τ):PC 124 [.agg (bK v1),iP cB] τ Q:=by
 unfold zx at hf; refine BN 78 [.tmp 4] [0,1] Tryz.func124 Z Z Z Z Z (W 6 Z (On 4 9 13 [1,2] (v1.kind == 5) Z Z Z Z (J 4 Z (C hf Z (fun h2 hf=>?_) fun h2 hf=>?_))))
 · cases hf; exact M 1 Z (Y Z h)
 refine W 4 Z (On 4 21 25 [1,2,5] (decide (5 < v1.kind)) Z Z Z Z ?_); refine B1 hf fun b1 h5 hf=>U 1 Z (AR.dH 4 26 30 false [1,2,5] b1 Z Z (fun h4=>?_) (fun h4=>?_) ?_)
 · refine IF 26 h4 h5 Z fun h5=>?_; refine B1 h5 fun x1 h6 h5=>U 1 Z (GO Z (AO.call Z _ Z Z ab3 (M_ _ h6 ?_))); cases h5; exact dP 2 Z (En [30,1,2,5] Z)
 · refine IT 26 h4 h5 Z fun h5=>?_; cases h5; exact dP 4 Z (En [30,1,2,5] Z)
 refine J 1 Z (C hf Z (fun h7 hf=>?_) fun h7 hf=>?_)
 · cases hf; exact M 1 Z (Y Z h)
 refine W 4 Z (On 4 35 39 [1,2,5] (decide (9007199254740992 < v1.kF)) Z Z Z Z (J 1 Z (C hf Z (fun h9 hf=>?_) fun h9 hf=>?_)))
 · cases hf; exact M 1 Z (Y Z h)
 refine W 2 Z (AS Z (AO.bZ Z Z Z Z dh Z (U 2 Z (AR.or 5 45 50 [1,2,5] (x:=(decide (1024 < (v1.bT.length:Int)))) Z Z (fun h10=>?_) (fun h10=>?_) ?_))))
 · refine Is 45 h10 Z (U 2 Z (GO Z (AO.aU (l:=v1.bT) Z Z Z Z lC Z (ak.aO _) ?_))); exact dP 2 Z (En [50,1,2,5] Z)
 · refine Is 45 h10 Z ?_; exact dP 5 Z (En [50,1,2,5] Z)
 refine U 1 Z (AR.or 5 51 56 [1,2,5] (x:=(decide (1024 < (v1.keys.length:Int)))) Z Z (fun h11=>?_) (fun h11=>?_) ?_)
 · refine Is 51 h11 Z (U 2 Z (GO Z (AO.aU (l:=v1.keys) Z Z Z Z iy Z Z ?_))); exact dP 2 Z (En [56,1,2,5] Z)
 · refine Is 51 h11 Z ?_; exact dP 5 Z (En [56,1,2,5] Z)
 refine J 1 Z (C hf Z (fun h12 hf=>?_) fun h12 hf=>?_)
 · cases hf; exact M 1 Z (Y Z h)
 refine B1 hf fun b2 lD hf=>W 4 Z (AR.dH 4 61 65 true [1,2,5] b2 Z Z (fun kL=>?_) (fun kL=>?_) ?_)
 · refine IT 61 kL lD Z fun lD=>?_; refine B1 lD fun x2 nT lD=>U 1 Z (GO Z (AO.call Z _ Z Z ab2 (Ox _ nT ?_))); cases lD; exact dP 2 Z (En [65,1,2,5] Z)
 · refine IF 61 kL lD Z fun lD=>?_; cases lD; exact dP 4 Z (En [65,1,2,5] Z)
 refine J 1 Z (C hf Z (fun h16 hf=>?_) fun h16 hf=>?_)
 · cases hf; exact M 1 Z (Y Z h)
 refine W 2 Z (AR.and 5 68 73 [1] (x:=((v1.bT.length:Int) == 0)) Z Z (fun wP=>?_) (fun wP=>?_) ?_)
 · refine Is 68 wP Z (U 2 Z (GO Z (AO.aU (l:=v1.bT) Z Z Z Z lC Z (ak.aO _) ?_))); exact dP 2 Z (En [73,1] Z)
 · refine Is 68 wP Z ?_; exact dP 5 Z (En [73,1] Z)
 refine U 1 Z (An 3 74 77 [] (cB == 16) Z Z Z Z (J 1 Z (C hf Z (fun h19 hf=>?_) fun h19 hf=>?_)))
 · cases hf; exact M 1 Z (Y Z h)
 cases hf; exact M 1 Z (Y Z h)
theorem qW (v1:ak) {r0:Int} (hf:mX v1=some r0) (h:Q (.ret (iP r0)) τ):PC 75 [.agg (bK v1)] τ Q:=by
 unfold mX at hf; refine AC.none (AC.N_ 16 [.cell 2 24] [0] Tryz.func75 Z Z Z Z Z ?_); obtain ⟨b1,s1,h1,hf⟩:=dX hf; cases hf; refine AW.sr (AR.step Z Z Z (AO.FQ Z Z Z (AR.step Z Z Z (AO.aN Z Va (fun b2=>(AR.nil [1,2] Z ?_)))))); refine AW.seq (AW.sr (cs 1 Z (AR.step Z Z Z (AO.call Z _ Z Z acr (Ow _ _ ?_))))); refine AR.nil [2,7] Z (AW.block (AW.rangeFunc (β:=Option Int) (X:=Int × ak) Z ab5 (fun x=>[iP x.1,.agg (bK x.2)]) (fun _=>Z) (by decide) (fun s x=>lS s x.1 x.2) (fun s=>[.box b2 [iP (s.getD 0)]]) (fun s=>s.map fun _=>.ret) (s0:=none) (s1:=s1) Z Z ?_ ?_ ?_))
 ·
  intro l T' hy; refine KC l T' lS (fun s1 cB v1 b s2 hh=>hy s1 (cB,v1) b s2 hh) none v1 1 h1 ⟨⟨_,Z⟩,Z⟩
 ·
  rintro l s ⟨cB,x1⟩ b s2 hh; unfold lS at hh; cases s with
  | some e=>cases hh
  | none=>
  refine ⟨Z,?_⟩; refine B1 hh fun e1 h2 hh=>?_; refine rF.seq (rF.region Z (cs 1 Z (AR.nil [2,3,9] Z ?_))); refine rF.region Z (AR.step Z Z Z (AO.aN Z rG (fun b4=>(AR.dx Z Z (AO.eH (i:=0) Z Z Z Ea Z Z Z Z Z (AR.nil [2,3,4] Z ?_)))))); refine ⟨Z,(rF.block (rF.seq (rF.region Z ?_)))⟩; refine AR.step Z Z Z (AO.dW (i:=0) Z Z Z Ea Z Z (cs 1 Z (AR.step Z Z Z (AO.call Z _ Z Z acp (QV _ _ h2 (cs 1 Z ?_)))))); refine AR.nil [2,5] Z (rF.seq (rF.region Z (cs 2 Z ?_))); refine AR.nil [2,5,14] Z (rF.cond Z (fun h3=>?_) (fun h3=>?_))
  ·
   replace hh:=jV h3 hh; cases hh; refine rF.seq (rF.region Z (cs 1 Z (AR.dx Z Z (AO.eH (i:=1) Z Z Z rP Z Z Z Z Z ?_)))); refine AR.nil [] Z (rF.ret ?_); exact ⟨Z,.cons _ (List.Sublist.refl _),Z,Z⟩
  ·
   replace hh:=jg h3 hh; cases hh; refine rF.skip ?_; exact ⟨Z,.cons _ (List.Sublist.refl _),Z,Z⟩
 ·
  intro D; cases s1 with
  | some e=>exact ⟨D,_,Z,Z,_,⟨_,_,Z,⟨_,_,0,_,_,Z,Z,rP,Z⟩,Z⟩,[],List.nil_sublist _,h⟩
  | none=>
   show AW _ _ _ _ _ _ _; refine AW.sr (AR.dx Z Z (AO.eH (i:=0) Z Z Z rP Z Z Z Z Z (AR.nil [2] Z (AW.ret ?_)))); exact ⟨D,[_],Z,Z,_,⟨_,_,Z,⟨_,_,0,_,_,Z,Z,rP,Z⟩,Z⟩,[],List.nil_sublist _,h⟩
theorem Io (l1:List Str) {r0:Bool} (hf:qI l1=some r0) (h:Q (.ret (.bool r0)) τ):PC 255 [sP l1] τ Q:=by
 unfold qI at hf; refine BN 22 [.tmp 2] [0] Tryz.func255 Z Z Z Z Z (W 1 Z (AS Z (AO.Mi Z (fun m6=>(U 2 Z (AS Z (AO.aU (l:=l1) Z Z Z Z iy Z Z (J 1 Z (Rk (fun x1 y1=>[(3,.val (.map (some m6))),(7,sP l1),(8,iP (l1.length:Int)),(9,iP x1)]) (fun x1 y1=>[.obj m6 (tV y1)]) (fun dA x1 y1=>nE l1 dA x1 y1=some r0) BIG 0 [] Z Z hf (fun _ _ hz=>bI hz) ?_))))))))); intro dA x1 y1 hf; rw [nE] at hf; refine V 1 Z (C hf Z (fun h1 hf=>?_) fun h1 hf=>?_)
 ·
  refine B1 hf fun s1 h2 hf=>W 0 Z (AS Z (AO.bF h2 Z Z Z Z iy Z Z (U 4 Z (AS Z (AO.FI (i:=0) (l:=y1) Z Z Z Z CQ dh VY (U 1 Z (AR.dx Z Z (AO.GJ (i:=0) (l:=y1) Z Z Z Z Z CQ dh (U 2 Z (AS Z (AO.FI (i:=0) (l:=(uq y1 s1 (bV ((sU y1 s1) + 1)))) Z Z Z Z CQ dh VY ?_))))))))))); refine J 1 Z (C hf Z (fun h3 hf=>?_) fun h3 hf=>?_)
  · cases hf; exact M 1 Z (Y Z h)
  exact M 2 Z ⟨(bV (x1 + 1)),(uq y1 s1 (bV ((sU y1 s1) + 1))),Z,Z,Z,hf⟩
 cases hf; exact M 1 Z (Y Z h)
theorem OJ (e1:ah) (cB:Int) {r0:Int} (hf:xK e1 cB=some r0) (h:Q (.ret (iP r0)) τ):PC 184 [.agg (bn e1),iP cB] τ Q:=by
 unfold xK at hf; refine BN 65 [.tmp 4] [0,1] Tryz.func184 Z Z Z Z Z (V 5 Z (C hf Z (fun h1 hf=>?_) fun h1 hf=>?_))
 · cases hf; exact M 1 Z (Y Z h)
 refine W 4 Z (On 4 12 16 [2] (decide (10 < e1.kind)) Z Z Z Z ?_); refine B1 hf fun b1 h4 hf=>U 1 Z (AR.dH 10 17 27 false [2] b1 Z Z (fun h3=>?_) (fun h3=>?_) ?_)
 ·
  refine IF 17 h3 h4 Z fun h4=>?_; refine BR h4 fun b2 h6 h4=>?_; refine U 4 Z (AR.dH 5 21 26 true [2,17] b2 Z Z (fun h5=>?_) (fun h5=>?_) ?_)
  · refine IT 21 h5 h6 Z fun h6=>?_; refine B1 h6 fun x1 h7 h6=>U 2 Z (GO Z (AO.call Z _ Z Z abU (OG _ h7 ?_))); cases h6; exact dP 2 Z (En [26,2,17] Z)
  · refine IF 21 h5 h6 Z fun h6=>?_; cases h6; exact dP 5 Z (En [26,2,17] Z)
  cases h4; exact dP 1 Z (En [27,2] Z)
 · refine IT 17 h3 h4 Z fun h4=>?_; cases h4; exact dP 10 Z (En [27,2] Z)
 refine B1 hf fun b3 h9 hf=>U 1 Z (AR.dH 4 28 32 false [2] b3 Z Z (fun h8=>?_) (fun h8=>?_) ?_)
 · refine IF 28 h8 h9 Z fun h9=>?_; refine B1 h9 fun x2 h10 h9=>U 1 Z (GO Z (AO.call Z _ Z Z abT (Nj _ h10 ?_))); cases h9; exact dP 2 Z (En [32,2] Z)
 · refine IT 28 h8 h9 Z fun h9=>?_; cases h9; exact dP 4 Z (En [32,2] Z)
 refine B1 hf fun b4 h12 hf=>U 1 Z (AR.dH 4 33 37 false [2] b4 Z Z (fun h11=>?_) (fun h11=>?_) ?_)
 · refine IF 33 h11 h12 Z fun h12=>?_; refine B1 h12 fun x3 kL h12=>U 1 Z (GO Z (AO.call Z _ Z Z abS (Nn _ kL ?_))); cases h12; exact dP 2 Z (En [37,2] Z)
 · refine IT 33 h11 h12 Z fun h12=>?_; cases h12; exact dP 4 Z (En [37,2] Z)
 refine B1 hf fun b5 nT hf=>U 1 Z (AR.dH 4 38 42 false [2] b5 Z Z (fun lD=>?_) (fun lD=>?_) ?_)
 · refine IF 38 lD nT Z fun nT=>?_; refine B1 nT fun x4 h16 nT=>U 1 Z (GO Z (AO.call Z _ Z Z abR (Nk _ h16 ?_))); cases nT; exact dP 2 Z (En [42,2] Z)
 · refine IT 38 lD nT Z fun nT=>?_; cases nT; exact dP 4 Z (En [42,2] Z)
 refine J 1 Z (C hf Z (fun wP hf=>?_) fun wP hf=>?_)
 · cases hf; exact M 1 Z (Y Z h)
 refine B1 hf fun b6 h19 hf=>W 4 Z (AR.dH 5 47 52 true [2] b6 Z Z (fun h18=>?_) (fun h18=>?_) ?_)
 · refine IT 47 h18 h19 Z fun h19=>?_; refine B1 h19 fun x5 h20 h19=>U 2 Z (GO Z (AO.call Z _ Z Z adM (qW _ h20 ?_))); cases h19; exact dP 2 Z (En [52,2] Z)
 · refine IF 47 h18 h19 Z fun h19=>?_; cases h19; exact dP 5 Z (En [52,2] Z)
 refine J 1 Z (C hf Z (fun h21 hf=>?_) fun h21 hf=>?_)
 · refine BR hf fun x6 h22 hf=>?_; refine W 2 Z (CL Z (qW _ h22 ?_)); cases hf; exact N 1 Z (Y Z h)
 refine W 2 Z (AS Z (AO.aU (l:=e1.args) Z Z Z Z iI Z (ah.aO _) (J 2 Z (C hf Z (fun h23 hf=>?_) fun h23 hf=>?_))))
 · cases hf; exact M 1 Z (Y Z h)
 refine B1 hf fun x7 Du hf=>W 2 Z (CL Z (Io _ Du (J 1 Z (C hf Z (fun IB hf=>?_) fun IB hf=>?_))))
 · cases hf; exact M 1 Z (Y Z h)
 cases hf; exact M 1 Z (Y Z h)
abbrev Fp (jG:ah→Int→Option Int):Prop:=∀ (lg:ah) (fM:Int) {aV:Int},jG lg fM=some aV→∀ {τ:List bA} {Q:eT→List bA→Prop} (h:Q (.ret (iP aV)) τ),PC 109 [.agg (bn lg),iP fM] τ Q
theorem Lg (jG) (Jg:Fp jG) (e1:ah) (cB:Int) {r0:Int} (hf:vR jG e1 cB=some r0) (h:Q (.ret (iP r0)) τ):PC 109 [.agg (bn e1),iP cB] τ Q:=by
 unfold vR at hf; refine BN 30 [.tmp 4] [0,1] Tryz.func109 Z Z Z Z Z ?_; refine B1 hf fun f1 h1 hf=>W 4 Z (CL Z (OJ _ _ h1 (J 3 Z (C hf Z (fun h2 hf=>?_) fun h2 hf=>?_))))
 · cases hf; exact M 2 Z (Y Z h)
 refine W 2 Z (AS Z (AO.aU (l:=e1.args) Z Z Z Z iI Z (ah.aO _) (J 1 Z (FT (fun x1=>[(1,iP cB),(16,.list (ah.bR e1.args)),(17,iP (e1.args.length:Int)),(18,iP x1)]) (fun x1=>[]) (fun dA x1=>qH jG e1 cB dA x1=some r0) BIG 0 Z Z hf (fun _ hz=>bI hz) ?_)))); intro dA x1 hf; rw [qH] at hf; refine V 1 Z (C hf Z (fun h3 hf=>?_) fun h3 hf=>?_)
 ·
  refine B1 hf fun e2 h4 hf=>W 0 Z (AS Z (AO.bF h4 Z Z (ah.aO _) Z iI (ah.aP _) Z (U 1 Z (AS Z (AO.aN Z iq (fun b7=>?_)))))); refine B1 hf fun f2 h5 hf=>Rr 4 [0,0] Z Z (CL Z (Jg _ _ h5 (J 3 Z (C hf Z (fun h6 hf=>?_) fun h6 hf=>?_))))
  · cases hf; exact M 2 Z (Y Z h)
  refine Wn0 2 Z (AR.drop1 ?_); exact N 0 Z ⟨(bV (x1 + 1)),Z,Z,Z,hf⟩
 cases hf; exact M 1 Z (Y Z h)
theorem Mg :∀ k:Nat,(Fp (kP k)):=by
 intro k
 induction k with
 | zero=>exact fun _ _ _ hz=>by first | cases hz | (unfold kP at hz; cases hz)
 | succ k ih=>exact fun lg fM aV hz τ Q hq=>Lg (kP k) ih lg fM hz hq
theorem Nh (lg:ah) (fM:Int) {aV:Int} (hf:CG lg fM=some aV) (h:Q (.ret (iP aV)) τ):PC 109 [.agg (bn lg),iP fM] τ Q:=
 ((Mg BIG)) lg fM hf h
theorem pU (e1:ah) {r0:Int} (hf:lT e1=some r0) (h:Q (.ret (iP r0)) τ):PC 70 [.agg (bn e1)] τ Q:=by
 unfold lT at hf; refine BN 8 [.tmp 2] [0] Tryz.func70 Z Z Z Z Z ?_; refine B1 hf fun x1 h1 hf=>W 3 Z (CL Z (Nq _ h1 (J 1 Z (C hf Z (fun h2 hf=>?_) fun h2 hf=>?_))))
 · cases hf; exact M 1 Z (Y Z h)
 refine BR hf fun x2 h3 hf=>?_; refine W 1 Z (CL Z (Nh _ _ h3 ?_)); cases hf; exact N 1 Z (Y Z h)
section
variable [DU]
theorem OL (iK:List av) {r0:ah} {r1:Int} {r2:Int} (hf:xL iK=some (r0,r1,r2)) (h:Q (.ret (.tuple [.agg (bn r0),iP r1,iP r2])) τ):PC 63 [.list (List.map av.cells iK)] τ Q:=by
 unfold xL at hf; refine BN 27 [.cell 2 37,.tmp 3,.tmp 4] [0] Tryz.func63 Z Z Z Z Z (W 0 Z (AS Z (AO.aN Z iq (fun b2=>?_)))); obtain ⟨x1,n1,nN,h1,hf⟩:=eD hf; refine U 3 Z (CL Z (OI _ h1 (U 4 Z (AS Z (AO.aN Z iq (fun b5=>(Rw 5 [0] Z Z (C hf Z (fun h2 hf=>?_) fun h2 hf=>?_))))))))
 · cases hf; exact Wx 6 [1] Z Z (ZC [1] Z Z h)
 refine B1 hf fun zS h3 hf=>Wr 1 [0] Z Z (CL Z (pU _ h3 (J 3 Z (C hf Z (fun h4 hf=>?_) fun h4 hf=>?_))))
 · cases hf; exact Wx 5 [1] Z Z (ZC [1] Z Z h)
 cases hf; exact Wx 5 [0,1] Z Z (ZC [1] Z Z h)
end
theorem Ni (iK:List av) (n1:Int) (bN:Str) {r0:Int} (hf:yK iK n1 bN=some r0) (h:Q (.ret (iP r0)) τ):PC 64 [.list (List.map av.cells iK),iP n1,.str bN] τ Q:=by
 unfold yK at hf; refine BN 18 [.tmp 6] [0,1,2] Tryz.func64 Z Z Z Z Z (W 3 Z (AS Z (AO.aU (l:=iK) Z Z Z Z gX Z Z (J 1 Z (C hf Z (fun h1 hf=>?_) fun h1 hf=>?_)))))
 · refine B1 hf fun e1 h2 hf=>W 2 Z (AS Z (AO.bF h2 Z Z Z Z gX (av.aP _) Z ?_)); cases hf; exact N 3 Z (Y Z h)
 refine W 1 Z (AS Z (AO.bZ Z Z Z Z dh Z ?_)); cases hf; exact N 1 Z (Y Z h)
section
variable [DU]
theorem Np (bN:Str) {r0:ah} {r1:Int} {r2:Int} (hf:vV bN=some (r0,r1,r2)) (h:Q (.ret (.tuple [.agg (bn r0),iP r1,iP r2])) τ):PC 30 [.str bN] τ Q:=by
 unfold vV at hf; refine BN 46 [.cell 2 37,.tmp 3,.tmp 4] [0] Tryz.func30 Z Z Z Z Z (W 0 Z (AS Z (AO.aN Z iq (fun b2=>?_)))); obtain ⟨iK,cZ,nN,h1,hf⟩:=eD hf; refine U 3 Z (CL Z (Nt _ h1 (J 9 Z (C hf Z (fun h2 hf=>?_) fun h2 hf=>?_))))
 · cases hf; exact Wx 6 [0] Z Z (ZC [0] Z Z h)
 obtain ⟨x1,n1,zS,h3,hf⟩:=eD hf; refine W 1 Z (CL Z (OL _ h3 (U 4 Z (AS Z (AO.aN Z iq (fun b8=>(Rw 5 [0] Z Z (C hf Z (fun h4 hf=>?_) fun h4 hf=>?_))))))))
 · refine B1 hf fun x2 h5 hf=>W 4 Z (CL Z (Ni _ _ _ h5 ?_)); cases hf; exact Rx 4 [1] Z Z (ZC [1] Z Z h)
 refine W 2 Z (AS Z (AO.aU (l:=iK) Z Z Z Z gX Z Z (J 1 Z (C hf Z (fun h6 hf=>?_) fun h6 hf=>?_))))
 ·
  refine V 0 Z (AW.J9 1 6 7 1 mixed (by kernel_rfl) (by kernel_rfl) (by kernel_rfl) Z Z Z Z ?_); refine Ev.cons Z Z Z (AO.build Z iq Ed Z zg) (Ev.nil ?_); show Ev _ _ _ _ _ _ _; refine Ev.cs bL 2 Z ?_; refine B1 hf fun e1 h7 hf=>Ev.cons Z Z Z (AO.bF h7 Z Z Z Z gX (av.aP _) Z zg) (Ev.cs bL 2 Z (Ev.nil (TF.dx Z Z (AO.eH (i:=0) Z Z Z iY Z Z Z Z Z ?_)))); refine TF.nil ?_; show AR _ _ _ _ _ _ _ _; cases hf; exact N 2 Z (ZC [1] Z Z h)
 cases hf; exact Wx 4 [0,1] Z Z (ZC [1] Z Z h)
end
section
variable [DU]
theorem wI {b:Nat} {vp v p:Value} {jT r0:List aM} {text1:Str} (hf:kE jT text1=some r0) (hroom:roomy v=true) {R:eT→List bA→Prop} (h:∀ vp',R (.ret (.tuple [])) [.kY b 74 [(.own vp' ((List.map aM.cells r0))),.val (.pointer none),.own (.slice none 0 0) (List.map iQ [])],.row vp' ((List.map aM.cells r0)).length 12 39]):PC 31 [pP b] [.row v (List.length text1) 1 5,.kY b 74 [(.own vp ((List.map aM.cells jT))),.val p,.own v (List.map iQ text1)],.row vp ((List.map aM.cells jT)).length 12 39] R:=by
 unfold kE at hf; refine AC.kS 25 [] [0] Tryz.func31 Z Z Z Z Z (AW.seq (AW.sr (AR.step Z Z Z (AO.calc' Z ?_)))); refine AR.step Z Z Z (AO.nilCheck Z Z (AR.step Z Z Z (AO.cK Z Z FL (AR.step Z Z Z (AO.call Z _ Z Z adS (AC.frame (σ:=[_,_]) (τ:=[_]) (Zg (AR.step Z Z Z (AO.calc' Z ?_))))))))); refine AR.nil [0,6] Z (AW.cond Z (fun h1=>?_) (fun h1=>?_))
 ·
  replace hf:=jV h1 hf; refine AW.VG 4 12 [] [.row v (List.length text1) 1 5,.kY b 74 [(.own vp ((List.map aM.cells jT))),.val p,.own v (List.map iQ text1)],.row vp ((List.map aM.cells jT)).length 12 39] (fun S e s=>∃ v2:Value,e.get 0=pP b∧e.get 7=pP b∧e.get 10=pP b∧(S 4=true→e.get 11=.own vp ((List.map aM.cells jT)))∧(S 5=true→e.get 12=pP b)∧(S 6=true→e.get 13=pP b)∧(S 7=true→e.get 14=.val (.pointer (some ⟨b,1,none⟩)))∧(S 8=true→e.get 15=.str text1)∧(S 9=true→e.get 16=.agg [.str text1,.bool false,iP 0,.str ([]:Str),iP 0,.bool false,iP 0,.str ([]:Str),.own (.slice none 0 0) [],.own (.slice none 0 0) [],.own (.slice none 0 0) [],.own (.slice none 0 0) []])∧(S 10=true→e.get 17=.list ((List.map aM.cells [(aM.mk text1 false (ah.mk 0 ([]:Str) (ak.mk 0 false 0 ([]:Str) [] []) [] []))])))∧(S 11=true→e.get 18=.own v2 ((List.map aM.cells r0)))∧s=(bif S 8 then [] else [.row v (List.length text1) 1 5]) ++ [.kY b 74 [(.own vp ((List.map aM.cells jT))),.val p,.own v (List.map iQ text1)],bif S 11 then .row v2 ((List.map aM.cells r0)).length 12 39 else .row vp ((List.map aM.cells jT)).length 12 39]) mixed (by kernel_rfl) Z Z (List.Perm.refl _) ?_ ?_ ?_ ?_
  ·
   refine Ev.cs bL 4 Z (Ev.nil ?_); exact ⟨.nilIface,Z,Z,Z,(fun h=>by cases h),(fun h=>by cases h),(fun h=>by cases h),(fun h=>by cases h),(fun h=>by cases h),(fun h=>by cases h),(fun h=>by cases h),(fun h=>by cases h),Z⟩
  ·
   rintro S S' e s hS ⟨v2,p0,p7,WH,q4,q5,q6,q7,q8,q9,XD,XC,qs⟩; have z:=fun i h1 h2=>(hS i h1 h2).symm; refine ⟨v2,p0,p7,WH,?_,?_,?_,?_,?_,?_,?_,?_,?_⟩
   ·
    rw [z 4 (by decide) (by decide)]; exact q4
   ·
    rw [z 5 (by decide) (by decide)]; exact q5
   ·
    rw [z 6 (by decide) (by decide)]; exact q6
   ·
    rw [z 7 (by decide) (by decide)]; exact q7
   ·
    rw [z 8 (by decide) (by decide)]; exact q8
   ·
    rw [z 9 (by decide) (by decide)]; exact q9
   ·
    rw [z 10 (by decide) (by decide)]; exact XD
   ·
    rw [z 11 (by decide) (by decide)]; exact XC
   ·
    rw [z 8 (by decide) (by decide),z 11 (by decide) (by decide)]; exact qs
  ·
   rintro S e s i o ⟨v2,p0,p7,WH,q4,q5,q6,q7,q8,q9,XD,XC,rfl⟩ hi1 hi2 Rl hp' ho; have hi:i=4∨i=5∨i=6∨i=7∨i=8∨i=9∨i=10∨i=11:=by omega
   rcases hi with rfl | rfl | rfl | rfl | rfl | rfl | rfl | rfl
   ·
    cases ho; refine ⟨Z,(fun t ht=>by cases ht; decide),AO.less (Less.add WH Less.nil) ?_⟩; cases h8:S 8 with
    | false=>
     refine AO.jL (i:=1) Z Z Z Ll Z Z ?_; exact ⟨v2,p0,p7,WH,(fun _=>Z),q5,q6,q7,(fun h=>by rw [show S 8=true from h] at h8; cases h8),q9,XD,XC,by simp [h8]⟩
    | true=>
     refine AO.jL (i:=0) Z Z Z Ll Z Z ?_; exact ⟨v2,p0,p7,WH,(fun _=>Z),q5,q6,q7,q8,q9,XD,XC,by simp [h8]⟩
   ·
    cases ho; refine ⟨Z,(fun t ht=>by cases ht; decide),AO.less (Less.add p0 Less.nil) (AO.calc' Z ?_)⟩; exact ⟨v2,p0,p7,WH,q4,(fun _=>Z),q6,q7,q8,q9,XD,XC,Z⟩
   ·
    cases ho; have s5:=hp' 5 (any_beq.1 Z) (by decide); refine ⟨Z,(fun t ht=>by cases ht; decide),AO.less (Less.add (q5 s5) Less.nil) (AO.nilCheck Z Z ?_)⟩; exact ⟨v2,p0,p7,WH,q4,q5,(fun _=>Z),q7,q8,q9,XD,XC,Z⟩
   ·
    cases ho; have s6:=hp' 6 (any_beq.1 Z) (by decide); refine ⟨Z,(fun t ht=>by cases ht; decide),AO.less (Less.add (q6 s6) Less.nil) (AO.cK Z Z FL ?_)⟩; exact ⟨v2,p0,p7,WH,q4,q5,q6,(fun _=>Z),q8,q9,XD,XC,Z⟩
   ·
    cases ho; have s7:=hp' 7 (any_beq.1 Z) (by decide); rw [Rl]; refine ⟨Z,(fun t ht=>by cases ht; decide),AO.less (Less.add (q7 s7) Less.nil) ?_⟩; refine AO.call Z _ Z Z adT (AC.frame (σ:=[_,_]) (τ:=[_]) (TP hroom ?_)); exact ⟨v2,p0,p7,WH,q4,q5,q6,q7,(fun _=>Z),q9,XD,XC,Z⟩
   ·
    cases ho; have s8:=hp' 8 (any_beq.1 Z) (by decide); refine ⟨Z,(fun t ht=>by cases ht; decide),AO.less (Less.add (q8 s8) Less.nil) (AO.build Z KZ Qa Z ?_)⟩; exact ⟨v2,p0,p7,WH,q4,q5,q6,q7,q8,(fun _=>Z),XD,XC,Z⟩
   ·
    cases ho; have s9:=hp' 9 (any_beq.1 Z) (by decide); refine ⟨Z,(fun t ht=>by cases ht; decide),AO.less (Less.add (q9 s9) Less.nil) (AO.dw ((List.map aM.cells [(aM.mk text1 false (ah.mk 0 ([]:Str) (ak.mk 0 false 0 ([]:Str) [] []) [] []))])) rfl JV rfl rfl rfl (by first | rfl | simp only [List.map,aM.aP]) ?_)⟩
    exact ⟨v2,p0,p7,WH,q4,q5,q6,q7,q8,q9,(fun _=>Z),XC,Z⟩
   ·
    cases ho; have s4:=hp' 4 (any_beq.1 Z) (by decide); have s8:=hp' 8 (any_beq.1 Z) (by decide); have s10:=hp' 10 (any_beq.1 Z) (by decide); rw [Rl,s8]; refine ⟨Z,(fun t ht=>by cases ht; decide),AO.less (Less.add (q4 s4) (Less.add (XD s10) Less.nil)) ?_⟩; refine AO.lH (i:=1) (l:=jT) (m:=[(aM.mk text1 false (ah.mk 0 ([]:Str) (ak.mk 0 false 0 ([]:Str) [] []) [] []))]) hf Z Z Z Z Z Z Z JV nM Z Z Z (aM.fu) (aM.cells_one) (by decide) (fun v3 s2 hs2=>?_); cases hs2; exact ⟨v3,p0,p7,WH,q4,q5,q6,q7,q8,q9,XD,(fun _=>Z),by simp [s8]⟩
  rintro S e s hS ⟨v2,p0,p7,WH,q4,q5,q6,q7,q8,q9,XD,XC,rfl⟩; rw [hS 8 (by decide) (by decide),hS 11 (by decide) (by decide)]; refine AR.less (Less.add p0 (Less.add p7 (Less.add (XC (hS 11 (by decide) (by decide))) Less.nil))) ?_; refine AR.step Z Z Z (AO.nilCheck Z Z (AR.step Z Z Z (AO.cK Z Z KU ?_))); refine AR.dx Z Z (AO.qg (i:=0) Z Z Z Ll Z Z Z Z Z ?_); refine AR.nil [0] Z (AW.region (AR.step Z Z Z (AO.calc' Z (AR.step Z Z Z (AO.nilCheck Z Z ?_))))); refine AR.step Z Z Z (AO.cK Z Z FL (AR.step Z Z Z (AO.call Z _ Z Z aa1 (AC.frame (σ:=[_]) (τ:=[_]) (NG (AR.nil [] Z ?_)))))); exact ⟨Z,[],Z,_,List.Sublist.refl _,h v2⟩
 ·
  obtain rfl:=Option.some.inj (jg h1 hf); refine AW.skip (AW.drop1 (AW.region (AR.step Z Z Z (AO.calc' Z ?_)))); refine AR.step Z Z Z (AO.nilCheck Z Z (AR.step Z Z Z (AO.cK Z Z FL (AR.step Z Z Z (AO.call Z _ Z Z aa1 (AC.frame (σ:=[_]) (τ:=[_]) (NG (AR.nil [] Z ?_)))))))); exact ⟨Z,[],Z,_,List.Sublist.refl _,h vp⟩
theorem pV (s1:Str) {r0:List aM} {r1:Int} {r2:Int} (hf:lU s1=some (r0,r1,r2)) (h:Q (.ret (.tuple [.list (List.map aM.cells r0),iP r1,iP r2])) τ):PC 11 [.str s1] τ Q:=by
 unfold lU at hf; refine AC.none (AC.kS 76 [.tmp 2,.tmp 3,.tmp 4] [0] Tryz.func11 Z Z Z Z Z (AW.sr (AR.step Z Z Z (AO.fq Z Z ?_)))); refine cs 2 Z (AR.nil [0] Z (AW.seq (AW.sr ?_))); refine cs 1 Z (AR.step Z Z Z (AO.bZ Z Z Z Z dh Z (cs 1 Z (AR.nil [0,14] Z ?_)))); refine AW.cond Z (fun h1=>?_) (fun h1=>?_)
 · replace hf:=jV h1 hf; refine AW.sr (AR.step Z Z Z (AO.fq Z Z (cs 2 Z (AR.nil [2,3,4] Z ?_)))); refine AW.ret ?_; cases hf; exact ⟨rfl,_,⟨_,_,rfl,rfl,_,_,rfl,rfl,_,_,rfl,rfl,rfl⟩,[],List.nil_sublist _,h⟩
 replace hf:=jg h1 hf; refine AW.skip (AW.row 12 39 (AW.sr ?_)); refine AR.step Z Z Z (AO.U6 Z adh (fun b=>?_)); refine AR.nil [0,5] Z (AW.row 1 5 (AW.seq (AW.sr ?_))); refine cs 1 Z (AR.nil [0,5,6] Z (AW.block (AW.settle [0,5,6] Z ?_))); refine AW.acD (fun cZ jT vp text1 vt p=>[(0,.str s1),(5,pP b),(6,iP cZ)]) (fun cZ jT vp text1 vt p=>[.row vt (List.length text1) 1 5,.kY b 74 [(.own vp ((List.map aM.cells jT))),.val p,.own vt (List.map iQ text1)],.row vp ((List.map aM.cells jT)).length 12 39]) (fun dA cZ jT vp text1 vt p=>ko s1 dA cZ jT text1=some (r0,r1,r2)∧(p=Value.pointer none∨p=.pointer (some ⟨b,1,none⟩))∧roomy vt=true) BIG 0 [] (.slice none 0 0) [] (.slice none 0 0) (.pointer none) Z Z ⟨hf,.inl Z,Z⟩ (fun _ _ _ _ _ _ hz=>bI hz.1) ?_; intro dA cZ jT vp text1 vt p hfI; obtain ⟨hf,hp,hroom⟩:=hfI; rw [ko] at hf; refine AW.seq (AW.sr (cs 2 Z (AR.step Z Z Z (AO.bZ Z Z Z Z dh Z ?_)))); refine cs 1 Z (AR.nil [0,5,6,18] Z (AW.cond Z (fun h2=>?_) (fun h2=>?_)))
 ·
  replace hf:=jV h2 hf; refine AW.skip (AW.block (AW.sr (cs 2 Z ?_))); refine B1 hf fun Ei h3 hf=>AR.step Z Z Z (AO.mP h3 Z dh Z ⟨_,Z⟩ Z (cs 1 Z (AR.nil [0,5,6,7] Z (AW.block ?_)))); refine AW.sr (cs 1 Z ?_); refine B1 hf fun b1 h4 hf=>AR.step Z Z Z (AO.call Z _ Z Z aa7 (yD _ _ h4 (cs 1 Z (AR.nil [0,5,6,7,29] Z (AW.cond Z (fun h5=>?_) (fun h5=>?_))))))
  · replace hf:=jV h5 hf; refine B1 hf fun RV h6 hf=>AW.sr (AR.step Z Z Z (AO.cK Z Z FL (AR.step Z Z Z (AO.call Z _ Z Z aa6 (AC.frame (σ:=[_,_]) (τ:=[_]) (Fe hp hroom h6 (fun v2 hr2=>(AR.nil [0,5,6] Z ?_)))))))); refine AW.region (cs 3 Z (AR.nil [0,5,6] Z ?_)); exact ⟨(bV (cZ + 2)),jT,vp,RV,v2,_,Z,Z,Z,hf,.inr Z,hr2⟩
  replace hf:=jg h5 hf; refine B1 hf fun b2 h6 hf=>AW.sr (cs 1 Z (AR.step Z Z Z (AO.call Z _ Z Z aa7 (yD _ _ h6 (cs 1 Z ?_))))); refine AR.nil [0,5,6,36] Z (AW.cond Z (fun h7=>?_) (fun h7=>?_))
  ·
   replace hf:=jV h7 hf; refine AW.sr (cs 3 Z ?_); refine B1 hf fun qx h8 hf=>AR.step Z Z Z (AO.call Z _ Z Z adX (JC _ _ h8 (cs 1 Z (AR.nil [0,5,6,8] Z (AW.seq ?_))))); refine AW.sr (cs 2 Z (AR.nil [0,5,6,8,44] Z (AW.cond Z (fun h9=>?_) (fun h9=>?_))))
   · replace hf:=jV h9 hf; refine AW.sr (cs 1 Z (AR.step Z Z Z (AO.fq Z Z (cs 2 Z ?_)))); refine AR.nil [2,3,4] Z (AW.ret ?_); cases hf; exact ⟨rfl,_,⟨_,_,rfl,rfl,_,_,rfl,rfl,_,_,rfl,rfl,rfl⟩,[],List.nil_sublist _,h⟩
   replace hf:=jg h9 hf; refine AW.skip (AW.sr (cs 4 Z ?_)); refine B1 hf fun x1 h10 hf=>AR.step Z Z Z (AO.mP h10 Z dh Z ⟨_,Z⟩ ⟨_,Z⟩ ?_); obtain ⟨e1,n1,nN,h11,hf⟩:=eD hf; refine AR.step Z Z Z (AO.call Z _ Z Z adW (Np _ h11 (cs 4 Z (AR.step Z Z Z (AO.aN Z iq (fun b9=>(AR.dx Z Z (AO.eH (i:=0) Z Z Z iY Z Z Z Z Z ?_)))))))); refine cs 2 Z (AR.nil [0,5,6,8,9,10,11] Z (AW.seq (AW.sr ?_))); refine cs 2 Z (AR.nil [0,5,6,8,9,10,11,57] Z (AW.cond Z (fun h12=>?_) (fun h12=>?_)))
   · replace hf:=jV h12 hf; refine AW.sr (cs 5 Z (AR.step Z Z Z (AO.fq Z Z (cs 2 Z ?_)))); refine AR.nil [2,3,4] Z (AW.ret ?_); cases hf; exact ⟨rfl,_,⟨_,_,rfl,rfl,_,_,rfl,rfl,_,_,rfl,rfl,rfl⟩,[],List.nil_sublist _,h⟩
   replace hf:=jg h12 hf; refine B1 hf fun Ql kL hf=>B1 hf fun Qk lD hf=>AW.skip (AW.sr (AR.step Z Z Z (AO.call Z _ Z Z aa5 (AC.perm (WE _ _ _ _) (AC.frame (σ:=[_,_,_]) (τ:=[_]) (wI kL hroom (fun vp2=>(AR.nil [0,5,8,9] Z ?_)))))))); refine AW.row 1 5 (AW.sr (AR.step Z Z Z (AO.cK Z Z KU ?_))); refine AR.step Z Z Z (AO.jL (i:=1) Z Z Z Ll Z Z ?_); refine AR.step rfl rfl rfl (AO.dW (i:=3) rfl rfl rfl iY rfl rfl (AR.step rfl rfl rfl (AO.build rfl KZ Qa rfl (AR.step rfl rfl rfl (AO.dw ((List.map aM.cells [(aM.mk ([]:Str) true e1)])) rfl JV rfl rfl rfl (by first | rfl | simp only [List.map,aM.aP]) ?_))))); refine AR.step Z Z Z (AO.lH (i:=2) (l:=Ql) (m:=[(aM.mk ([]:Str) true e1)]) lD Z Z Z Z Z Z Z JV nM Z Z Z (aM.fu) (aM.cells_one) (by decide) (fun vp3 s2 hs2=>?_)); cases hs2
   refine AR.step Z Z Z (AO.cK Z Z KU ?_); refine AR.dx Z Z (AO.qg (i:=1) Z Z Z Ll Z Z Z Z Z ?_); refine AR.nil [0,5,8] Z (AW.Y3 3 Z (AW.region (cs 3 Z ?_))); refine AR.nil [0,5,6] Z ?_; exact ⟨(bV (qx + 1)),Qk,vp3,[],.slice none 0 0,_,Z,Z,Z,hf,.inl Z,Z⟩
  replace hf:=jg h7 hf; refine B1 hf fun c1 h8 hf=>B1 hf fun X3 h9 hf=>AW.sr (AR.step Z Z Z (AO.cK Z Z FL (cs 2 Z (AR.step Z Z Z (AO.dB h8 Z dh Z Z ?_))))); refine AR.step Z Z Z (AO.call Z _ Z Z aa6 (AC.frame (σ:=[_,_]) (τ:=[_]) (Fe hp hroom h9 (fun v2 hr2=>(AR.nil [0,5,6] Z (AW.region (cs 3 Z ?_))))))); refine AR.nil [0,5,6] Z ?_; exact ⟨(bV (cZ + 1)),jT,vp,X3,v2,_,Z,Z,Z,hf,.inr Z,hr2⟩
 replace hf:=jg h2 hf; refine B1 hf fun Vs h3 hf=>AW.exit (AW.sr (AR.step Z Z Z (AO.call Z _ Z Z aa5 (wI h3 hroom (fun vp2=>(AR.nil [5] Z ?_)))))); refine AW.sr (AR.step Z Z Z (AO.cK Z Z KU ?_)); refine AR.step Z Z Z (AO.jL (i:=0) Z Z Z Ll Z Z ?_); refine cs 3 Z (AR.nil [2,3,4] Z (AW.ret ?_)); cases hf; exact ⟨rfl,_,⟨_,_,rfl,rfl,_,_,rfl,rfl,_,_,rfl,rfl,rfl⟩,[],List.nil_sublist _,h⟩
end
theorem NA (gF:List dV) {r0:Int} (hf:Ik gF=some r0) (h:Q (.ret (iP r0)) τ):PC 41 [.list (List.map dV.cells gF)] τ Q:=by
 unfold Ik at hf; refine BN 39 [.tmp 2] [0] Tryz.func41 Z Z Z Z Z (W 2 Z (AS Z (AO.aU (l:=gF) Z Z Z Z Y1 Z Z (J 1 Z (C hf Z (fun h1 hf=>?_) fun h1 hf=>?_)))))
 · cases hf; exact M 1 Z (Y Z h)
 refine W 0 Z (AS Z (AO.Mi Z (fun m10=>(U 2 Z (AS Z (AO.aU (l:=gF) Z Z Z Z Y1 Z Z (J 1 Z (Rk (fun x1 y1=>[(3,.val (.map (some m10))),(11,.list (List.map dV.cells gF)),(12,iP (gF.length:Int)),(13,iP x1)]) (fun x1 y1=>[.obj m10 (tV y1)]) (fun dA x1 y1=>AJ gF dA x1 y1=some r0) BIG 0 [] Z Z hf (fun _ _ hz=>bI hz) ?_)))))))); intro dA x1 y1 hf; rw [AJ] at hf; refine V 1 Z (C hf Z (fun h2 hf=>?_) fun h2 hf=>?_)
 ·
  refine B1 hf fun e1 h3 hf=>W 0 Z (AS Z (AO.bF h3 Z Z Z Z Y1 (dV.aP _) Z (U 1 Z (AS Z (AO.aN Z aaQ (fun b5=>?_)))))); refine B1 hf fun x2 h4 hf=>Rr 4 [0,0] Z Z (CL Z (pU _ h4 (J 1 Z (C hf Z (fun h5 hf=>?_) fun h5 hf=>?_))))
  · cases hf; exact M 1 Z (Y Z h)
  refine B1 hf fun e2 h6 hf=>Wr 2 [0] Z Z (CL Z (qW _ h6 (J 3 Z (C hf Z (fun h7 hf=>?_) fun h7 hf=>?_))))
  · cases hf; exact M 2 Z (Y Z h)
  refine Wr 3 [0] Z Z (AS Z (AO.FI (i:=1) (l:=y1) Z Z Z Z CQ dh VY (U 1 Z (AR.dx Z Z (AO.GJ (i:=1) (l:=y1) Z Z Z Z Z CQ dh (Rr 3 [0] Z Z (AS Z (AO.FI (i:=1) (l:=(uq y1 e1.name (bV ((sU y1 e1.name) + 1)))) Z Z Z Z CQ dh VY (J 1 Z (C hf Z (fun h8 hf=>?_) fun h8 hf=>?_))))))))))
  · cases hf; exact M 1 Z (Y Z h)
  refine Wn0 2 Z (AR.drop1 ?_); exact N 0 Z ⟨(bV (x1 + 1)),(uq y1 e1.name (bV ((sU y1 e1.name) + 1))),Z,Z,Z,hf⟩
 cases hf; exact M 1 Z (Y Z h)
theorem OV (e1:ah) (gF:List dV) {r0:List dV} {r1:Int} (hf:EM e1 gF=some (r0,r1)) (h:Q (.ret (.tuple [.list (List.map dV.cells r0),iP r1])) τ):PC 125 [.agg (bn e1),.list (List.map dV.cells gF)] τ Q:=by
 unfold EM at hf; refine BN 19 [.tmp 4,.tmp 5] [0,1] Tryz.func125 Z Z Z Z Z (W 1 Z (AS Z (AO.fq Z Z ?_))); refine B1 hf fun f1 h1 hf=>U 2 Z (CL Z (NA _ h1 (J 3 Z (C hf Z (fun h2 hf=>?_) fun h2 hf=>?_))))
 · refine W 1 Z (AS Z (AO.fq Z Z ?_)); cases hf; exact N 1 Z (Y Z h)
 refine B1 hf fun f2 h3 hf=>W 1 Z (CL Z (pU _ h3 (J 3 Z (C hf Z (fun h4 hf=>?_) fun h4 hf=>?_))))
 · refine W 1 Z (AS Z (AO.fq Z Z ?_)); cases hf; exact N 1 Z (Y Z h)
 cases hf; exact M 3 Z (Y Z h)
@[reducible] def G5 :g_ bY ak→eT
 | .ok r=>.ret (.agg (bK r))
 | .bad e=>.panic (.iface 204 (.agg [iP e.code]))
theorem AV (s1:List dV) (name1:Str) {rX:g_ bY ak} (hf:yu s1 name1=some rX) (h:Q (G5 rX) τ):PC 264 [.list (List.map dV.cells s1),.str name1] τ Q:=by
 unfold yu at hf; refine BN 22 [.cell 4 34] [0,1] Tryz.func264 Z Z Z Z Z (W 0 Z (AS Z (AO.aN Z rG (fun b4=>(U 1 Z (AS Z (AO.aU (l:=s1) Z Z Z Z Y2 Z Z (J 1 Z (FT (fun x1=>[(1,.str name1),(4,pP b4),(7,.list (List.map dV.cells s1)),(8,iP (s1.length:Int)),(9,iP x1)]) (fun x1=>[.box b4 [iP 0,.bool false,iP 0,.str ([]:Str),.own (.slice none 0 0) [],.own (.slice none 0 0) []]]) (fun dA x1=>qw s1 name1 dA x1=some rX) BIG 0 Z Z hf (fun _ hz=>bI hz) ?_))))))))); intro dA x1 hf; rw [qw] at hf; refine V 1 Z (C hf Z (fun h1 hf=>?_) fun h1 hf=>?_)
 ·
  refine B1 hf fun e1 h2 hf=>W 0 Z (AS Z (AO.bF h2 Z Z Z Z Y2 (dV.aP _) Z (U 1 Z (AS Z (AO.aN Z aaQ (fun b6=>(Rw 5 [0,0] Z Z (C hf Z (fun h3 hf=>?_) fun h3 hf=>?_))))))))
  · cases hf; exact Wx 3 [0,1] Z Z (ZC [1] Z Z h)
  refine Wn0 2 Z (AR.drop1 ?_); exact N 0 Z ⟨(bV (x1 + 1)),Z,Z,Z,hf⟩
 exact bI hf
theorem Fa (a1:ak) (b1:ak) (wO:Int) {r0:Bool} (hf:Ch a1 b1 wO=some r0) (h:Q (.ret (.bool r0)) τ):PC 364 [.agg (bK a1),.agg (bK b1),iP wO] τ Q:=by
 unfold Ch at hf; refine BN 17 [.tmp 6] [0,1,2] Tryz.func364 Z Z Z Z Z (W 8 Z (An 5 11 16 [] (b1.kind == wO) Z Z Z Z ?_)); cases hf; exact N 1 Z (Y Z h)
@[reducible] def Rq :g_ bY Unit→eT
 | .ok r=>.ret (.tuple [])
 | .bad e=>.panic (.iface 204 (.agg [iP e.code]))
theorem qd (ok1:Bool) (e1:Int) {rX:g_ bY Unit} (hf:zm ok1 e1=some rX) (h:Q (Rq rX) τ):PC 274 [.bool ok1,iP e1] τ Q:=by
 unfold zm at hf; refine BN 8 [] [0,1] Tryz.func274 Z Z Z Z Z (V 2 Z (C hf Z (fun h1 hf=>?_) fun h1 hf=>?_))
 · exact bI hf
 cases hf; exact M 0 Z (ZN Z h)
theorem Nz (n1:Int) {r0:ak} (hf:CX n1=some r0) (h:Q (.ret (.agg (bK r0))) τ):PC 330 [iP n1] τ Q:=by
 unfold CX at hf; refine BN 5 [.cell 2 34] [0] Tryz.func330 Z Z Z Z Z (W 0 Z (AS Z (AO.aN Z rG (fun b2=>?_)))); cases hf; exact Rx 3 [0] Z Z (ZC [0] Z Z h)
@[reducible] def NU :g_ bY ak→eT
 | .ok r=>.ret (.agg (bK r))
 | .bad e=>.panic (.iface 204 (.agg [iP e.code]))
theorem Gi (n1:Int) {rX:g_ bY ak} (hf:EL n1=some rX) (h:Q (NU rX) τ):PC 368 [iP n1] τ Q:=by
 unfold EL at hf; refine BN 12 [.cell 2 34] [0] Tryz.func368 Z Z Z Z Z (W 0 Z (AS Z (AO.aN Z rG (fun b2=>(U 3 Z (An 3 5 8 [0,2] (decide (n1≤9007199254740992)) Z Z Z Z ?_)))))); rcases nU hf with ⟨e1,h2,hf⟩ | ⟨_,h2,hf⟩
 · refine CL Z (qd _ _ h2 ?_); cases hf; exact ⟨Z,[],List.nil_sublist _,h⟩
 refine CL Z (qd _ _ h2 ?_); refine B1 hf fun x1 h3 hf=>U 1 Z (CL Z (Nz _ h3 ?_)); cases hf; exact Rx 1 [0] Z Z (ZC [0] Z Z h)
@[reducible] def T_ :g_ bY ak→eT
 | .ok r=>.ret (.agg (bK r))
 | .bad e=>.panic (.iface 204 (.agg [iP e.code]))
theorem Ny (a1:ak) (b1:ak) {rX:g_ bY ak} (hf:MN a1 b1=some rX) (h:Q (T_ rX) τ):PC 333 [.agg (bK a1),.agg (bK b1)] τ Q:=by
 unfold MN at hf; refine BN 57 [.cell 4 34] [0,1] Tryz.func333 Z Z Z Z Z (W 2 Z (AS Z (AO.aN Z rG (fun b4=>?_)))); refine B1 hf fun x1 h1 hf=>U 2 Z (CL Z (Fa _ _ _ h1 (J 1 Z (C hf Z (fun h2 hf=>?_) fun h2 hf=>?_))))
 ·
  rcases nU hf with ⟨e1,h3,hf⟩ | ⟨x2,h3,hf⟩
  · refine W 5 Z (CL Z (Gi _ h3 ?_)); cases hf; exact ⟨Z,[],List.nil_sublist _,h⟩
  refine W 5 Z (CL Z (Gi _ h3 ?_)); cases hf; exact Rx 1 [0] Z Z (ZC [0] Z Z h)
 refine B1 hf fun x3 h4 hf=>W 2 Z (CL Z (Fa _ _ _ h4 (J 1 Z (C hf Z (fun h5 hf=>?_) fun h5 hf=>?_))))
 ·
  refine W 2 Z (AS Z (AO.bZ Z Z Z Z dh Z (U 2 Z (AS Z (AO.bZ Z Z Z Z dh Z ?_))))); rcases nU hf with ⟨e2,h6,hf⟩ | ⟨_,h6,hf⟩
  · refine U 2 Z (CL Z (qd _ _ h6 ?_)); cases hf; exact ⟨Z,[],List.nil_sublist _,h⟩
  refine U 2 Z (CL Z (qd _ _ h6 ?_)); exact bI hf
 refine B1 hf fun x4 h7 hf=>W 2 Z (CL Z (Fa _ _ _ h7 ?_)); rcases nU hf with ⟨e3,h8,hf⟩ | ⟨_,h8,hf⟩
 · refine CL Z (qd _ _ h8 ?_); cases hf; exact ⟨Z,[],List.nil_sublist _,h⟩
 refine CL Z (qd _ _ h8 (U 2 Z (AS Z (AO.aU (l:=a1.bT) Z Z Z Z lC Z (ak.aO _) (U 2 Z (AS Z (AO.aU (l:=b1.bT) Z Z Z Z lC Z (ak.aO _) ?_))))))); rcases nU hf with ⟨e4,h9,hf⟩ | ⟨_,h9,hf⟩
 · refine U 2 Z (CL Z (qd _ _ h9 ?_)); cases hf; exact ⟨Z,[],List.nil_sublist _,h⟩
 refine U 2 Z (CL Z (qd _ _ h9 (U 4 Z (AR.row 6 34 ?_)))); refine B1 hf fun l1 h10 hf=>AS Z (AO.lH (i:=0) (l:=[]) (m:=a1.bT) h10 Z Z Z Z Z Z Z X8 lC (show ([]:List (List PV))=List.map ak.cells [] from Z) (ak.aO _) (ak.aO _).symm (ak.fu) (ak.cells_one) (by decide) (fun v1 s1 hs1=>?_)); cases hs1; exact bI hf
@[reducible] def vE :g_ bY ak→eT
 | .ok r=>.ret (.agg (bK r))
 | .bad e=>.panic (.iface 204 (.agg [iP e.code]))
@[reducible] def tO :g_ bY ak→eT
 | .ok r=>.ret (.agg (bK r))
 | .bad e=>.panic (.iface 204 (.agg [iP e.code]))
abbrev wM (gy:List dV→ah→Option (g_ bY ak)):Prop:=∀ (Dp:List dV) (lg:ah) {fO:g_ bY ak},gy Dp lg=some fO→∀ {τ:List bA} {Q:eT→List bA→Prop} (h:Q (vE fO) τ),PC 201 [.list (List.map dV.cells Dp),.agg (bn lg)] τ Q
abbrev t_ (gM:List dV→ah→Option (g_ bY ak)):Prop:=∀ (Dp:List dV) (lg:ah) {fO:g_ bY ak},gM Dp lg=some fO→∀ {τ:List bA} {Q:eT→List bA→Prop} (h:Q (tO fO) τ),PC 270 [.list (List.map dV.cells Dp),.agg (bn lg)] τ Q
theorem G6 (gy) (jR:wM gy) (gM) (qZ:t_ gM) (s1:List dV) (e1:ah) {rX:g_ bY ak} (hf:wE gy gM s1 e1=some rX) (h:Q (vE rX) τ):PC 201 [.list (List.map dV.cells s1),.agg (bn e1)] τ Q:=by
 unfold wE at hf; refine BN 104 [.cell 4 34] [0,1] Tryz.func201 Z Z Z Z Z (W 1 Z (AS Z (AO.aN Z rG (fun b4=>(J 4 Z (C hf Z (fun h1 hf=>?_) fun h1 hf=>?_))))))
 · cases hf; exact Wx 3 [0] Z Z (ZC [0] Z Z h)
 refine V 2 Z (C hf Z (fun h2 hf=>?_) fun h2 hf=>?_)
 ·
  rcases nU hf with ⟨e2,h3,hf⟩ | ⟨x1,h3,hf⟩
  · refine W 3 Z (CL Z (AV _ _ h3 ?_)); cases hf; exact ⟨Z,[],List.nil_sublist _,h⟩
  refine W 3 Z (CL Z (AV _ _ h3 ?_)); cases hf; exact Rx 1 [0] Z Z (ZC [0] Z Z h)
 refine V 2 Z (C hf Z (fun h4 hf=>?_) fun h4 hf=>?_)
 · exact bI hf
 refine V 2 Z (C hf Z (fun h5 hf=>?_) fun h5 hf=>?_)
 ·
  refine B1 hf fun e3 h6 hf=>W 3 Z (AS Z (AO.bF h6 Z Z (ah.aO _) Z iI (ah.aP _) Z ?_)); rcases nU hf with ⟨e4,h7,hf⟩ | ⟨x2,h7,hf⟩
  · refine U 1 Z (CL Z (jR _ _ h7 ?_)); cases hf; exact ⟨Z,[],List.nil_sublist _,h⟩
  refine U 1 Z (CL Z (jR _ _ h7 (AS Z (AO.aN Z rG (fun b5=>?_))))); exact bI hf
 refine V 2 Z (C hf Z (fun h8 hf=>?_) fun h8 hf=>?_)
 · exact bI hf
 refine V 2 Z (C hf Z (fun h9 hf=>?_) fun h9 hf=>?_)
 · exact bI hf
 refine V 2 Z (C hf Z (fun h10 hf=>?_) fun h10 hf=>?_)
 ·
  rcases nU hf with ⟨e5,h11,hf⟩ | ⟨x3,h11,hf⟩
  · refine W 2 Z (CL Z (qZ _ _ h11 ?_)); cases hf; exact ⟨Z,[],List.nil_sublist _,h⟩
  refine W 2 Z (CL Z (qZ _ _ h11 ?_)); cases hf; exact Rx 1 [0] Z Z (ZC [0] Z Z h)
 refine V 2 Z (C hf Z (fun h12 hf=>?_) fun h12 hf=>?_)
 · exact bI hf
 refine V 2 Z (C hf Z (fun kL hf=>?_) fun kL hf=>?_)
 · exact bI hf
 exact bI hf
theorem FU (gy) (jR:wM gy) (gM) (qZ:t_ gM) (s1:List dV) (e1:ah) {rX:g_ bY ak} (hf:tX gy gM s1 e1=some rX) (h:Q (tO rX) τ):PC 270 [.list (List.map dV.cells s1),.agg (bn e1)] τ Q:=by
 unfold tX at hf; refine BN 95 [.cell 4 34] [0,1] Tryz.func270 Z Z Z Z Z (W 1 Z (AS Z (AO.aN Z rG (fun b4=>?_)))); refine B1 hf fun e2 h1 hf=>U 3 Z (AS Z (AO.bF h1 Z Z (ah.aO _) Z iI (ah.aP _) Z ?_)); rcases nU hf with ⟨e3,h2,hf⟩ | ⟨x1,h2,hf⟩
 · refine U 1 Z (CL Z (jR _ _ h2 ?_)); cases hf; exact ⟨Z,[],List.nil_sublist _,h⟩
 refine U 1 Z (CL Z (jR _ _ h2 (AS Z (AO.aN Z rG (fun b5=>(Rr 5 [0] Z Z (On 4 16 20 [0,3,4,5] (e1.name == ([124,124]:Str)) Z Z Z Z (J 0 Z (C hf Z (fun h4 hf=>?_) fun h4 hf=>?_)))))))))
 · exact bI hf
 refine B1 hf fun e4 h5 hf=>W 3 Z (AS Z (AO.bF h5 Z Z (ah.aO _) Z iI (ah.aP _) Z ?_)); rcases nU hf with ⟨e5,h6,hf⟩ | ⟨x2,h6,hf⟩
 · refine U 1 Z (CL Z (jR _ _ h6 ?_)); cases hf; exact ⟨Z,[],List.nil_sublist _,h⟩
 refine U 1 Z (CL Z (jR _ _ h6 (AS Z (AO.aN Z rG (fun b6=>(Rw 5 [0] Z Z (C hf Z (fun h7 hf=>?_) fun h7 hf=>?_)))))))
 · exact bI hf
 refine V 2 Z (C hf Z (fun h8 hf=>?_) fun h8 hf=>?_)
 · exact bI hf
 refine V 2 Z (C hf Z (fun h9 hf=>?_) fun h9 hf=>?_)
 · exact bI hf
 refine V 2 Z (C hf Z (fun h10 hf=>?_) fun h10 hf=>?_)
 · exact bI hf
 refine V 2 Z (C hf Z (fun h11 hf=>?_) fun h11 hf=>?_)
 · exact bI hf
 refine V 2 Z (C hf Z (fun h12 hf=>?_) fun h12 hf=>?_)
 · exact bI hf
 refine V 2 Z (C hf Z (fun kL hf=>?_) fun kL hf=>?_)
 ·
  rcases nU hf with ⟨e6,lD,hf⟩ | ⟨x3,lD,hf⟩
  · refine Wr 2 [1,0] Z Z (CL Z (Ny _ _ lD ?_)); cases hf; exact ⟨Z,[],List.nil_sublist _,h⟩
  refine Wr 2 [1,0] Z Z (CL Z (Ny _ _ lD ?_)); cases hf; exact Rx 1 [2] Z Z (ZC [2] Z Z h)
 exact bI hf
theorem Aw :∀ k:Nat,(wM (kU k))∧(t_ (jS k)):=by
 intro k
 induction k with
 | zero=>exact ⟨fun _ _ _ hz=>by first | cases hz | (unfold kU at hz; cases hz),fun _ _ _ hz=>by first | cases hz | (unfold jS at hz; cases hz)⟩
 | succ k ih=>exact ⟨fun Dp lg fO hz τ Q hq=>G6 (kU k) ih.1 (jS k) ih.2 Dp lg hz hq,fun Dp lg fO hz τ Q hq=>FU (kU k) ih.1 (jS k) ih.2 Dp lg hz hq⟩
theorem AZ (Dp:List dV) (lg:ah) {fO:g_ bY ak} (hf:Dx Dp lg=some fO) (h:Q (vE fO) τ):PC 201 [.list (List.map dV.cells Dp),.agg (bn lg)] τ Q:=
 ((Aw BIG).1) Dp lg hf h
theorem T9 (Dp:List dV) (lg:ah) {fO:g_ bY ak} (hf:Ij Dp lg=some fO) (h:Q (tO fO) τ):PC 270 [.list (List.map dV.cells Dp),.agg (bn lg)] τ Q:=
 ((Aw BIG).2) Dp lg hf h
theorem JD (s1:List dV) (e1:ah) {r0:ak} {r1:Int} (hf:zR s1 e1=some (r0,r1)) (h:Q (.ret (.tuple [.agg (bK r0),iP r1])) τ):PC 126 [.list (List.map dV.cells s1),.agg (bn e1)] τ Q:=by
 unfold zR at hf; refine AC.none (AC.J3 10 [.cell 4 34,.cell 5 24] [0,1] [0,1] Tryz.func126 Z Z Z Z Z Tryz.func200 Z Z Z Z Z Z Z ab1 (AW.sr (AR.step Z Z Z (AO.FQ Z Z Z ?_)))); refine AR.step Z Z Z (AO.aN Z rG (fun b4=>(AR.step Z Z Z (AO.aN Z Va (fun b5=>(AR.nil [0,3,4,5] Z (AW.sr ?_))))))); refine cs 1 Z (AR.defer (vs:=[.pointer (some ⟨b4,0,none⟩),.pointer (some ⟨b5,0,none⟩)]) Z Z Z Z Z Z (AR.nil [0,3,4,5] Z (AW.sr ?_))); refine cs 2 Z ?_; rcases nU hf with ⟨f1,h1,hf⟩ | ⟨v1,h1,hf⟩
 ·
  refine AR.step Z Z Z (AO.call Z _ Z Z Yo (AZ _ _ h1 ?_)); cases hf; refine ⟨[.pointer (some ⟨b4,0,none⟩),.pointer (some ⟨b5,0,none⟩)],_,Z,Z,Z,(AR.step Z Z Z (AO.Vm Z Z Z0 (cs 3 Z (AR.step Z Z Z (AO.aN Z XK (fun b6=>?_))))))⟩; refine AR.dx Z Z (AO.eH (i:=0) Z Z Z XZ Z Z Z Z Z (cs 1 Z (AR.nil [0,1,2,3] Z (AW.sr ?_)))); refine cs 1 Z (AR.nil [0,1,2,9] Z (AW.cond Z (fun _=>?_) (fun hh=>by cases hh))); refine AW.Y4 1 3 4 [_] [_,_] mixed (by kernel_rfl) (by kernel_rfl) (by kernel_rfl) Z Z Z (List.Perm.refl _) ?_; refine Ev.cons Z Z Z (AO.build Z rG X6 Z zg) (Ev.nil ?_); show Ev _ _ _ _ _ _ _; refine Ev.cs bL 1 Z (Ev.cons Z Z Z (AO.dW (i:=0) Z Z Z rP Z Z zg) (Ev.nil (TF.dx Z Z (AO.eH (i:=1) Z Z Z Ea Z Z Z Z Z ?_)))); refine TF.nil ?_; show AR _ _ _ _ _ _ _ _; refine AR.dx Z Z (AO.eH (i:=1) Z Z Z rP Z Z Z Z Z (AR.nil [] Z ?_)); exact ⟨rfl,_,⟨_,_,rfl,⟨_,_,2,_,_,rfl,rfl,Ea,rfl⟩,⟨_,_,rfl,⟨_,_,1,_,_,rfl,rfl,rP,rfl⟩,rfl⟩⟩,[],List.nil_sublist _,h⟩
 refine AR.step Z Z Z (AO.call Z _ Z Z Yo (AZ _ _ h1 ?_)); cases hf; refine AR.dx Z Z (AO.eH (i:=1) Z Z Z Ea Z Z Z Z Z (AR.dx Z Z (AO.eH (i:=0) Z Z Z rP Z Z Z Z Z (AR.nil [4,5] Z (AW.ret ?_))))); refine ⟨[.pointer (some ⟨b4,0,none⟩),.pointer (some ⟨b5,0,none⟩)],_,Z,Z,Z,(AR.step Z Z Z (AO.RY (p:=.agg [iP 0]) Z Z Z5 (fun _ _=>by simp only [dU]; exact ⟨[.int .i64 0],Z,bC.cons (by simp [dU]) bC.nil⟩) ?_))⟩; refine cs 3 Z (AR.step Z Z Z (AO.aN Z XK (fun b6=>(AR.dx Z Z (AO.eH (i:=0) Z Z Z XZ Z Z Z Z Z (cs 1 Z ?_)))))); refine AR.nil [3] Z (AW.sr (cs 1 Z (AR.nil [9] Z ?_))); refine AW.cond Z (fun hh=>by cases hh) (fun _=>?_); refine AW.skip ?_; exact ⟨rfl,_,⟨_,_,rfl,⟨_,_,2,_,_,rfl,rfl,Ea,rfl⟩,⟨_,_,rfl,⟨_,_,1,_,_,rfl,rfl,rP,rfl⟩,rfl⟩⟩,[],List.nil_sublist _,h⟩
abbrev Iz (kM:ak→Option ak):Prop:=∀ (yc:ak) {aV:ak},kM yc=some aV→∀ {τ:List bA} {Q:eT→List bA→Prop} (h:Q (.ret (.agg (bK aV))) τ),PC 127 [.agg (bK yc)] τ Q
theorem PZ (kM) (MJ:Iz kM) (v1:ak) {r0:ak} (hf:CY kM v1=some r0) (h:Q (.ret (.agg (bK r0))) τ):PC 127 [.agg (bK v1)] τ Q:=by
 unfold CY at hf; refine BN 31 [.cell 2 34] [0] Tryz.func127 Z Z Z Z Z (W 1 Z (AS Z (AO.aN Z rG (fun b2=>(U 1 Z (AS Z (AO.aN Z rG (fun b3=>(Rr 7 [0,0,0] Z Z (AS Z (AO.aU (l:=v1.bT) Z Z Z Z lC Z (ak.aO _) ?_))))))))))); refine J 1 Z (AW.row 6 34 (AW.row 1 9 (LK4 (fun x1 dF v2 v3=>[(1,.ref (bK v1)),(2,pP b2),(3,pP b3),(10,.list (ak.bR v1.bT)),(11,iP (v1.bT.length:Int)),(12,iP x1)]) (fun x1 dF v2 v3=>[.row v3 (List.map lI dF.keys).length 1 9,.row v2 (ak.bR dF.bT).length 6 34,.box b3 [iP dF.kind,.bool dF.fU,iP dF.kF,.str dF.kC,.own v2 (ak.bR dF.bT),.own v3 (List.map lI dF.keys)],.box b2 [iP 0,.bool false,iP 0,.str ([]:Str),.own (.slice none 0 0) [],.own (.slice none 0 0) []]]) (fun dA x1 dF v2 v3=>xk kM v1 dA x1 dF=some r0) BIG 0 (ak.mk v1.kind v1.fU v1.kF v1.kC [] []) (.slice none 0 0) (.slice none 0 0) Z Z hf (fun _ _ _ _ hz=>bI hz) ?_))); intro dA x1 dF v2 v3 hf; rw [xk] at hf; refine V 1 Z (C hf Z (fun h1 hf=>?_) fun h1 hf=>?_)
 ·
  refine B1 hf fun e1 h2 hf=>W 0 Z (AS Z (AO.bF h2 Z Z (ak.aO _) Z lC (ak.aP _) Z (U 1 Z (AS Z (AO.aN Z rG (fun b5=>(Rw 1 [0] Z Z (AW.draw 5 mixed (by kernel_rfl) Z ?_)))))))); refine Ev.cs bL 1 Z (Ev.cons Z Z Z (AO.dW (i:=3) Z Z Z adv Z Z zg) (Ev.cons Z Z Z (AO.dW (i:=0) Z Z Z Ea Z Z zg) ?_)); refine B1 hf fun x2 h3 hf=>Ev.cons rfl rfl rfl (AO.call rfl _ rfl rfl aco (MJ _ h3 ⟨rfl,rfl⟩)) (Ev.cons rfl rfl rfl (AO.dw (ak.bR [x2]) rfl X8 rfl rfl rfl (by first | rfl | simp only [List.map,ak.aP,ak.bR]) ⟨rfl,rfl⟩) ?_)
  refine Ev.nil ?_; show AR _ _ _ _ _ _ _ _; refine B1 hf fun x3 h4 hf=>AS Z (AO.lH (i:=2) (l:=dF.bT) (m:=[x2]) h4 Z Z Z Z Z Z Z X8 lC (ak.aO _) (ak.aO _) (ak.aO _).symm (ak.fu) (ak.cells_one) (by decide) (fun v4 s1 hs1=>?_)); cases hs1; refine Rn 4 [3] Z Z (AR.drop1 ?_); exact N 0 Z ⟨(bV (x1 + 1)),(ak.mk dF.kind dF.fU dF.kF dF.kC x3 dF.keys),v4,v3,Z,Z,Z,hf⟩
 refine B1 hf fun x4 h5 hf=>Wr 4 [2] Z Z (AS Z (AO.lH (i:=0) (l:=dF.keys) (m:=v1.keys) h5 Z Z Z Z Z Z Z Ag iy Z Z Z (fun _=>Z) (fun _=>Z) (by decide) (fun v5 s2 hs2=>?_))); cases hs2; cases hf; exact Rx 4 [2,2,3] Z Z (ZC [3] Z Z h)
theorem Qs :∀ k:Nat,(Iz (wF k)):=by
 intro k
 induction k with
 | zero=>exact fun _ _ hz=>by first | cases hz | (unfold wF at hz; cases hz)
 | succ k ih=>exact fun yc aV hz τ Q hq=>PZ (wF k) ih yc hz hq
theorem Q9 (yc:ak) {aV:ak} (hf:MO yc=some aV) (h:Q (.ret (.agg (bK aV))) τ):PC 127 [.agg (bK yc)] τ Q:=
 ((Qs BIG)) yc hf h
theorem TM (e1:ah) (gF:List dV) {r0:ak} {r1:Int} (hf:Jl e1 gF=some (r0,r1)) (h:Q (.ret (.tuple [.agg (bK r0),iP r1])) τ):PC 76 [.agg (bn e1),.list (List.map dV.cells gF)] τ Q:=by
 unfold Jl at hf; refine BN 28 [.cell 4 34,.tmp 5] [0,1] Tryz.func76 Z Z Z Z Z (W 1 Z (AS Z (AO.aN Z rG (fun b4=>?_)))); obtain ⟨s1,f1,h1,hf⟩:=dX hf; refine U 3 Z (CL Z (OV _ _ h1 (J 7 Z (C hf Z (fun h2 hf=>?_) fun h2 hf=>?_))))
 · cases hf; exact Wx 4 [0] Z Z (ZC [0] Z Z h)
 obtain ⟨x1,f2,h3,hf⟩:=dX hf; refine W 2 Z (CL Z (JD _ _ h3 (U 3 Z (AS Z (AO.aN Z rG (fun b8=>?_)))))); refine B1 hf fun x2 h4 hf=>Rr 3 [0,0] Z Z (CL Z (Q9 _ h4 ?_)); cases hf; exact Rx 3 [1] Z Z (ZC [1] Z Z h)
theorem Df (b1:Bool) {r0:Str} (hf:su b1=some r0) (h:Q (.ret (.str r0)) τ):PC 276 [.bool b1] τ Q:=by
 unfold su at hf; refine BN 4 [.tmp 2] [0] Tryz.func276 Z Z Z Z Z (V 2 Z (C hf Z (fun h1 hf=>?_) fun h1 hf=>?_))
 · cases hf; exact M 1 Z (Y Z h)
 cases hf; exact M 1 Z (Y Z h)
theorem EY (b1:Bool) {r0:Str} (hf:strconv_FormatBool b1=some r0) (h:Q (.ret (.str r0)) τ):PC 202 [.bool b1] τ Q:=by
 unfold strconv_FormatBool at hf; refine BN 5 [.tmp 2] [0] Tryz.func202 Z Z Z Z Z ?_; refine BR hf fun x1 h1 hf=>?_; refine W 2 Z (CL Z (Df _ h1 ?_)); cases hf; exact N 1 Z (Y Z h)
section
variable [DU]
def Po :Go.Shelf.Ren:=⟨fun | 156=>187 | 165=>115 | 166=>36 | 169=>39 | 240=>60 | 241=>190 | 276=>96 | 277=>256 | n=>n,fun | 31=>32 | 9=>9 | 3=>3 | 4=>4 | 0=>0 | 20=>20 | 72=>72 | 76=>86 | 70=>70 | 37=>68 | 75=>77 | 127=>124 | 164=>138 | 5=>5 | 80=>69 | n=>n,fun | n=>n⟩
theorem joinL :Go.Proofs.Lays.n156 Tryz.prog Po:={
 mixed:=by kernel_rfl
 f156:=Tryz.func187.trans (congrArg some (by kernel_rfl))
 f165:=Tryz.func115.trans (congrArg some (by kernel_rfl))
 f166:=Tryz.func36.trans (congrArg some (by kernel_rfl))
 f169:=Tryz.func39.trans (congrArg some (by kernel_rfl))
 f240:=Tryz.func60.trans (congrArg some (by kernel_rfl))
 f241:=Tryz.func190.trans (congrArg some (by kernel_rfl))
 f276:=Tryz.func96.trans (congrArg some (by kernel_rfl))
 f277:=Tryz.func256.trans (congrArg some (by kernel_rfl))
 t0:=Tryz.underlying0
 a0:=Tryz.isAgg0
 z0:=Tryz.sizeOf0
 v0:=Tryz.zeroValue0
 t3:=Tryz.underlying3
 a3:=Tryz.isAgg3
 z3:=Tryz.sizeOf3
 v3:=Tryz.zeroValue3
 t4:=Tryz.underlying4
 a4:=Tryz.isAgg4
 z4:=Tryz.sizeOf4
 v4:=Tryz.zeroValue4
 t9:=Tryz.underlying9
 a9:=Tryz.isAgg9
 z9:=Tryz.sizeOf9
 v9:=Tryz.zeroValue9
 t20:=Tryz.underlying20
 a20:=Tryz.isAgg20
 z20:=Tryz.sizeOf20
 v20:=Tryz.zeroValue20
 t31:=Tryz.underlying32
 a31:=Tryz.isAgg32
 z31:=Tryz.sizeOf32
 v31:=Tryz.zeroValue32
 t37:=Tryz.underlying68
 a37:=Tryz.isAgg68
 z37:=Tryz.sizeOf68
 v37:=Tryz.zeroValue68
 t70:=Tryz.underlying70
 a70:=Tryz.isAgg70
 z70:=Tryz.sizeOf70
 v70:=Tryz.zeroValue70
 t72:=Tryz.underlying72
 a72:=Tryz.isAgg72
 z72:=Tryz.sizeOf72
 v72:=Tryz.zeroValue72
 t75:=Tryz.underlying77
 a75:=Tryz.isAgg77
 z75:=Tryz.sizeOf77
 v75:=Tryz.zeroValue77
 t76:=Tryz.underlying86
 a76:=Tryz.isAgg86
 z76:=Tryz.sizeOf86
 v76:=Tryz.zeroValue86
 t127:=Tryz.underlying124
 a127:=Tryz.isAgg124
 z127:=Tryz.sizeOf124
 v127:=Tryz.zeroValue124
 t164:=Tryz.underlying138
 a164:=Tryz.isAgg138
 z164:=Tryz.sizeOf138
 v164:=Tryz.zeroValue138}
theorem ad8 :Go.Proofs.Builder.Extra Tryz.prog Po:={
 sizeBuilder:=by kernel_rfl
 liesBuilder:=by kernel_rfl
 t5:=Tryz.underlying5
 a5:=fun w=>by kernel_rfl
 z5:=fun w=>by kernel_rfl
 v5:=fun w=>by kernel_rfl
 infoByte:=by kernel_rfl
 cellsByte:=by kernel_rfl
 sizeByte:=by kernel_rfl
 neB5:=by decide}
theorem EX (l1:List Str) (t1:Str) {r0:Str} (hf:strings_Join l1 t1=some r0) (h:Q (.ret (.str r0)) τ):PC 187 [sP l1,.str t1] τ Q:=by
 unfold strings_Join at hf; split at hf
 case isFalse=>cases hf
 rename_i hg; cases hf; refine AC.none ?_; exact AC.join DU.hD joinL ad8 hg.1 hg.2 h
end
section
variable [DU]
abbrev DL (jf:ak→Option Str):Prop:=∀ (yc:ak) {aV:Str},jf yc=some aV→∀ {τ:List bA} {Q:eT→List bA→Prop} (h:Q (.ret (.str aV)) τ),PC 128 [.agg (bK yc)] τ Q
theorem Kl (jf) (Ig:DL jf) (v1:ak) {r0:Str} (hf:xZ jf v1=some r0) (h:Q (.ret (.str r0)) τ):PC 128 [.agg (bK v1)] τ Q:=by
 unfold xZ at hf; refine BN 68 [.tmp 2] [0] Tryz.func128 Z Z Z Z Z (V 6 Z (C hf Z (fun h1 hf=>?_) fun h1 hf=>?_))
 · refine BR hf fun x1 h2 hf=>?_; refine W 2 Z (CL Z (EY _ h2 ?_)); cases hf; exact N 1 Z (Y Z h)
 refine V 2 Z (C hf Z (fun h3 hf=>?_) fun h3 hf=>?_)
 · refine BR hf fun x2 h4 hf=>?_; refine W 2 Z (CL Z (Na _ h4 ?_)); cases hf; exact N 1 Z (Y Z h)
 refine V 2 Z (C hf Z (fun h5 hf=>?_) fun h5 hf=>?_)
 · exact bI hf
 refine V 2 Z (C hf Z (fun h6 hf=>?_) fun h6 hf=>?_)
 ·
  refine V 0 Z (AW.cond Z (fun h7=>?_) (fun h7=>?_))
  ·
   refine W 3 Z (AS Z (AO.aU (l:=v1.bT) Z Z Z Z lC Z (ak.aO _) (J 1 Z (AW.row 1 9 (LK3 (fun Bj v2 i1=>[(1,.ref (bK v1)),(3,.own v2 (List.map lI Bj)),(28,.list (ak.bR v1.bT)),(29,iP (v1.bT.length:Int)),(30,iP i1)]) (fun Bj v2 i1=>[.row v2 (List.map lI Bj).length 1 9]) (fun dA Bj v2 i1=>sI jf v1 dA Bj i1=some r0) BIG [] (.slice none 0 0) 0 Z Z hf (fun _ _ _ hz=>bI hz) ?_))))); intro dA Bj v2 i1 hf; rw [sI] at hf; refine V 1 Z (C hf Z (fun h8 hf=>?_) fun h8 hf=>?_)
   ·
    refine B1 hf fun e1 h9 hf=>W 1 Z (AS Z (AO.bF h9 Z Z (ak.aO _) Z lC (ak.aP _) Z (U 1 Z (AS Z (AO.aN Z rG (fun b5=>(Rw 5 [0] Z Z (C hf Z (fun h10 hf=>?_) fun h10 hf=>?_))))))))
    · exact bI hf
    refine B1 hf fun x3 h11 hf=>Wr 2 [0] Z Z (CL Z (Ig _ h11 (AS Z (AO.dw (List.map lI ([x3]:List Str)) Z Ag Z Z Z Z ?_)))); refine B1 hf fun Ur h12 hf=>AS Z (AO.lH (i:=1) (l:=Bj) (m:=([x3]:List Str)) h12 Z Z Z Z Z Z Z Ag iy Z Z Z (fun _=>Z) (fun _=>Z) (by decide) (fun v3 s1 hs1=>?_)); cases hs1; refine dP 3 Z (AR.drop1 ?_); exact N 0 Z ⟨Ur,v3,(bV (i1 + 1)),Z,Z,Z,hf⟩
   refine B1 hf fun s2 kL hf=>W 1 Z (CL Z (EX _ _ kL (J 4 Z (C hf Z (fun lD hf=>?_) fun lD hf=>?_))))
   · refine B1 hf fun x4 nT hf=>W 1 Z (AS Z (AO.pY nT Z Z Z ?_)); refine BR hf fun x5 h16 hf=>?_; refine AS Z (AO.pY h16 Z Z Z ?_); cases hf; exact N 1 Z (Y Z h)
   refine B1 hf fun x6 wP hf=>W 1 Z (AS Z (AO.pY wP Z Z Z ?_)); refine BR hf fun x7 h18 hf=>?_; refine AS Z (AO.pY h18 Z Z Z ?_); cases hf; exact N 1 Z (Y Z h)
  cases h6.symm.trans h7
 refine V 2 Z (C hf Z (fun h19 hf=>?_) fun h19 hf=>?_)
 ·
  refine W 3 Z (AS Z (AO.aU (l:=v1.bT) Z Z Z Z lC Z (ak.aO _) (J 1 Z (AW.row 1 9 (LK3 (fun Et v4 i2=>[(1,.ref (bK v1)),(3,.own v4 (List.map lI Et)),(28,.list (ak.bR v1.bT)),(29,iP (v1.bT.length:Int)),(30,iP i2)]) (fun Et v4 i2=>[.row v4 (List.map lI Et).length 1 9]) (fun Mw Et v4 i2=>wQ v1 Mw Et i2=some r0) BIG [] (.slice none 0 0) 0 Z Z hf (fun _ _ _ hz=>bI hz) ?_))))); intro Mw Et v4 i2 hf; rw [wQ] at hf; refine V 1 Z (C hf Z (fun h20 hf=>?_) fun h20 hf=>?_)
  ·
   refine B1 hf fun e2 h21 hf=>W 1 Z (AS Z (AO.bF h21 Z Z (ak.aO _) Z lC (ak.aP _) Z (U 1 Z (AS Z (AO.aN Z rG (fun agS=>(Rw 5 [0] Z Z (AW.cond Z (fun h22=>?_) (fun h22=>?_)))))))))
   · exact bI hf
   cases h19.symm.trans h22
  refine B1 hf fun s3 h23 hf=>W 1 Z (CL Z (EX _ _ h23 (J 4 Z (AW.cond Z (fun Du=>?_) (fun Du=>?_)))))
  · refine B1 hf fun x8 IB hf=>W 1 Z (AS Z (AO.pY IB Z Z Z ?_)); refine BR hf fun x9 Qw hf=>?_; refine AS Z (AO.pY Qw Z Z Z ?_); cases hf; exact N 1 Z (Y Z h)
  cases h19.symm.trans Du
 cases hf; exact M 1 Z (Y Z h)
theorem Kw :∀ k:Nat,(DL (qE k)):=by
 intro k
 induction k with
 | zero=>exact fun _ _ hz=>by first | cases hz | (unfold qE at hz; cases hz)
 | succ k ih=>exact fun yc aV hz τ Q hq=>Kl (qE k) ih yc hz hq
theorem Dy (yc:ak) {aV:Str} (hf:Ba yc=some aV) (h:Q (.ret (.str aV)) τ):PC 128 [.agg (bK yc)] τ Q:=
 ((Kw BIG)) yc hf h
end
section
variable [DU]
theorem QW (v1:ak) {r0:Str} {r1:Int} (hf:Gu v1=some (r0,r1)) (h:Q (.ret (.tuple [.str r0,iP r1])) τ):PC 77 [.agg (bK v1)] τ Q:=by
 unfold Gu at hf; refine BN 28 [.tmp 2,.tmp 3] [0] Tryz.func77 Z Z Z Z Z (W 7 Z (On 4 8 12 [1] (v1.kind == 5) Z Z Z Z (J 0 Z (C hf Z (fun h2 hf=>?_) fun h2 hf=>?_))))
 · cases hf; exact M 2 Z (Y Z h)
 refine B1 hf fun e1 h3 hf=>W 1 Z (CL Z (qW _ h3 (J 3 Z (C hf Z (fun h4 hf=>?_) fun h4 hf=>?_))))
 · cases hf; exact M 3 Z (Y Z h)
 refine V 4 Z (C hf Z (fun h5 hf=>?_) fun h5 hf=>?_)
 · cases hf; exact M 2 Z (Y Z h)
 refine V 2 Z (C hf Z (fun h6 hf=>?_) fun h6 hf=>?_)
 · cases hf; exact M 4 Z (Y Z h)
 refine B1 hf fun x1 h7 hf=>W 1 Z (CL Z (Dy _ h7 ?_)); cases hf; exact N 2 Z (Y Z h)
end
section
variable [DU]
theorem Iq (p1:aM) (gF:List dV) {r0:Str} {r1:Int} (hf:yj p1 gF=some (r0,r1)) (h:Q (.ret (.tuple [.str r0,iP r1])) τ):PC 42 [.agg (WT p1),.list (List.map dV.cells gF)] τ Q:=by
 unfold yj at hf; refine BN 27 [.tmp 4,.tmp 5] [0,1] Tryz.func42 Z Z Z Z Z (V 6 Z (C hf Z (fun h1 hf=>?_) fun h1 hf=>?_))
 · cases hf; exact M 4 Z (Y Z h)
 obtain ⟨x1,nN,h2,hf⟩:=dX hf; refine W 3 Z (CL Z (TM _ _ h2 (U 3 Z (AS Z (AO.aN Z rG (fun b6=>(Rw 4 [0] Z Z (C hf Z (fun h3 hf=>?_) fun h3 hf=>?_))))))))
 · cases hf; exact M 3 Z (Y Z h)
 replace hf:=(FR _).trans hf; obtain ⟨x2,x3,h4,hf⟩:=dX hf; refine Wr 1 [0] Z Z (CL Z (QW _ h4 ?_)); cases hf; exact N 4 Z (Y Z h)
end
section
variable [DU]
theorem KL (s1:Str) (gF:List dV) {r0:Str} {r1:Int} (hf:Bl s1 gF=some (r0,r1)) (h:Q (.ret (.tuple [.str r0,iP r1])) τ):PC 17 [.str s1,.list (List.map dV.cells gF)] τ Q:=by
 unfold Bl at hf; refine BN 50 [.tmp 4,.tmp 5] [0,1] Tryz.func17 Z Z Z Z Z ?_; obtain ⟨ps1,x1,nN,h1,hf⟩:=eD hf; refine W 3 Z (CL Z (pV _ h1 (J 9 Z (C hf Z (fun h2 hf=>?_) fun h2 hf=>?_))))
 · cases hf; exact M 3 Z (Y Z h)
 refine B1 hf fun zS h3 hf=>W 1 Z (CL Z (NA _ h3 (J 3 Z (C hf Z (fun h4 hf=>?_) fun h4 hf=>?_))))
 · cases hf; exact M 3 Z (Y Z h)
 refine W 0 Z (AS Z (AO.JI (eu:=5) Z XI Z (fun b10=>(U 1 Z (AS Z (AO.aU (l:=ps1) Z Z Z Z nM Z Z (J 1 Z (LK3 (fun x2 b1 v1=>[(1,.list (List.map dV.cells gF)),(10,pP b10),(29,.list (List.map aM.cells ps1)),(30,iP (ps1.length:Int)),(31,iP x2)]) (fun x2 b1 v1=>[.Ir b10 v1 72 5 b1]) (fun dA x2 b1 v1=>sZ gF ps1 dA x2 b1=some (r0,r1)) BIG 0 [] (.slice none 0 0) Z Z hf (fun _ _ _ hz=>bI hz) ?_)))))))); intro dA x2 b1 v1 hf; rw [sZ] at hf; refine V 1 Z (C hf Z (fun h5 hf=>?_) fun h5 hf=>?_)
 ·
  refine B1 hf fun e1 h6 hf=>W 0 Z (AS Z (AO.bF h6 Z Z Z Z nM (aM.aP _) Z (U 1 Z (AS Z (AO.aN Z KZ (fun b12=>?_)))))); obtain ⟨t1,VJ,h7,hf⟩:=dX hf; refine Rr 3 [0,0] Z Z (CL Z (Iq _ _ h7 (J 7 Z (C hf Z (fun h8 hf=>?_) fun h8 hf=>?_))))
  · cases hf; exact M 3 Z (Y Z h)
  refine B1 hf fun b2 h9 hf=>W 1 Z (CL Z (AC.one 1 Z (wK h9 (fun v2=>⟨_,Z,(dP 2 Z (AR.drop1 ?_))⟩)))); exact N 0 Z ⟨(bV (x2 + 1)),b2,v2,Z,Z,Z,hf⟩
 refine W 0 Z (CL Z (AC.one 0 Z (PI ⟨_,Z,(J 1 Z (C hf Z (fun h10 hf=>?_) fun h10 hf=>?_))⟩)))
 · cases hf; exact M 2 Z (Y Z h)
 refine W 0 Z (CL Z (AC.Qq 0 Z (Dg ?_))); cases hf; exact N 2 Z (Y Z h)
end
theorem wH {β:Type} (l:Nat) (T:β→List bA→Prop) (y:β→ah→Option (Bool × β)) (hy:∀ s x1 b s2 τ,y s x1=some (b,s2)→T s τ→AY Tryz.prog l [.agg (bn x1)] τ (fun out σ'=>out=.ret (.bool b)∧T s2 σ'))
  (ps1:List aM) {s1 s2:β} (hf:qo y s1 ps1=some s2) {τ:List bA} (hT:T s1 τ) {Q:eT→List bA→Prop} (h:∀ τ',T s2 τ'→Q (.ret (.tuple [])) τ'):
  PC 80 [.val (.func (.yield l) #[] #[]),.ref [.list (List.map aM.cells ps1)]] τ Q:=by
 unfold qo at hf; refine AC.kS 21 [] [0,1] Tryz.func80 Z Z Z Z Z (AW.sr (AR.step Z Z Z (AO.Ca Z Z Ll Z (AR.step Z Z Z (AO.aU (l:=ps1) Z Z Z Z nM Z Z ?_))))); refine cs 1 Z (AR.nil [0,5,6,7] Z (AW.block (AW.Uz (fun (s:β) (τ0:List bA) (i1:Int)=>[(0,.val (.func (.yield l) #[] #[])),(5,.list (List.map aM.cells ps1)),(6,iP (ps1.length:Int)),(7,iP i1)]) (fun s τ0 i1=>τ0) (fun dA s τ0 i1=>lJ y ps1 dA s i1=some s2∧T s τ0) BIG s1 τ 0 Z Z ⟨hf,hT⟩ (fun _ _ _ hz=>bI hz.1) ?_))); intro dA s3 τ3 i1 hfI; obtain ⟨hf,hT⟩:=hfI; rw [lJ] at hf; refine AW.sr (cs 1 Z (AR.nil [0,5,6,7,8] Z (AW.seq ?_))); refine AW.cond Z (fun h1=>?_) (fun h1=>?_)
 ·
  replace hf:=jV h1 hf; refine AW.skip (AW.seq (AW.block (AW.sr ?_))); refine B1 hf fun p1 h2 hf=>?_; refine AR.step Z Z Z (AO.bF h2 Z Z Z Z nM (aM.aP _) Z (cs 1 Z (AR.step Z Z Z (AO.aN Z KZ (fun b4=>(AR.dx Z Z (AO.eH (i:=0) Z Z Z adu Z Z Z Z Z ?_))))))); refine AR.nil [0,4,5,6,7] Z (AW.seq (AW.Vr (Ct.step Z Z Z Z (AO.cK Z Z aaw ?_)))); refine Ct.step Z Z Z Z (AO.dW (i:=0) Z Z Z adt Z Z (Ct.step Z Z Z Z (AO.calc' Z ?_))); cases hp:p1.Oh with
  | false=>
   replace hf:=jg hp hf; refine Ct.of Z (cs 6 Z (AR.drop1 (AR.nil [0,5,6,7,19] Z ?_))); refine AW.cond Z (fun hh=>by cases hh) (fun _=>?_); refine AW.skip (AW.region (cs 2 Z (AR.nil [0,5,6,7] Z ?_))); exact ⟨s3,τ3,(bV (i1 + 1)),Z,Z,Z,hf,hT⟩
  | true=>
   replace hf:=jV hp hf; obtain ⟨b1,s4,h3,hf⟩:=dX hf; refine Ct.run Z Z Z Z (Ct.step Z Z Z Z (AO.calc' Z (Ct.run Z Z Z Z (Ct.step Z Z Z Z (AO.cK Z Z aav ?_))))); refine Ct.run Z Z Z Z (Ct.step Z Z Z Z (AO.dW (i:=0) Z Z Z iY Z Z (Ct.drop1 (Ct.run Z Z Z Z ?_)))); refine Ct.abA Z Z Z Z Z _ Z Z (hy _ _ _ _ _ h3 hT) fun τ4 hT4=>(Ct.of Z (cs 2 Z (AR.nil [0,5,6,7,19] Z ?_))); refine AW.cond Z (fun h5=>?_) (fun h5=>?_)
   ·
    cases jV h5 hf; refine AW.ret ?_; exact ⟨rfl,_,rfl,_,List.Sublist.refl _,h _ hT4⟩
   ·
    replace hf:=jg h5 hf; refine AW.skip (AW.region (cs 2 Z (AR.nil [0,5,6,7] Z ?_))); exact ⟨s4,τ4,(bV (i1 + 1)),Z,Z,Z,hf,hT4⟩
 ·
  cases jg h1 hf; refine AW.exit ?_; exact ⟨rfl,_,rfl,_,List.Sublist.refl _,h _ hT⟩
theorem xX (ps1:List aM) (h:Q (.ret (.fn 80 [.ref [.list (List.map aM.cells ps1)]])) τ):PC 46 [.list (List.map aM.cells ps1)] τ Q:=by
 refine BN 4 [.tmp 2] [0] Tryz.func46 Z Z Z Z Z ?_; exact M 4 Z (Y Z h)
def Wd :Go.Shelf.Ren:=⟨fun | 6=>135 | 15=>216 | 14=>215 | 28=>296 | 29=>297 | 20=>288 | 21=>289 | 22=>290 | 23=>291 | 24=>292 | 25=>293 | 26=>294 | 27=>295 | 46=>339 | 47=>340 | 48=>341 | 49=>342 | 50=>343 | 57=>380 | n=>n,fun | 22=>32 | 24=>9 | 25=>132 | 3=>3 | 39=>218 | 0=>0 | 53=>269 | 55=>271 | 4=>4 | 46=>263 | 45=>262 | 50=>239 | 5=>5 | 9=>9 | 66=>287 | 70=>291 | 76=>318 | 77=>319 | n=>n,fun | n=>n⟩
theorem adx :Go.Proofs.SlLaysF.n6 Tryz.prog Wd:={
 mixed:=by kernel_rfl
 f6:=⟨Tryz.f135.name,by decide,Tryz.func135.trans (congrArg some (by kernel_rfl))⟩
 f14:=⟨Tryz.f215.name,by decide,Tryz.func215.trans (congrArg some (by kernel_rfl))⟩
 f15:=Tryz.func216.trans (congrArg some (by kernel_rfl))
 f20:=⟨Tryz.f288.name,by decide,Tryz.func288.trans (congrArg some (by kernel_rfl))⟩
 f21:=⟨Tryz.f289.name,by decide,Tryz.func289.trans (congrArg some (by kernel_rfl))⟩
 f22:=⟨Tryz.f290.name,by decide,Tryz.func290.trans (congrArg some (by kernel_rfl))⟩
 f23:=⟨Tryz.f291.name,by decide,Tryz.func291.trans (congrArg some (by kernel_rfl))⟩
 f24:=⟨Tryz.f292.name,by decide,Tryz.func292.trans (congrArg some (by kernel_rfl))⟩
 f25:=⟨Tryz.f293.name,by decide,Tryz.func293.trans (congrArg some (by kernel_rfl))⟩
 f26:=⟨Tryz.f294.name,by decide,Tryz.func294.trans (congrArg some (by kernel_rfl))⟩
 f27:=⟨Tryz.f295.name,by decide,Tryz.func295.trans (congrArg some (by kernel_rfl))⟩
 f28:=Tryz.func296.trans (congrArg some (by kernel_rfl))
 f29:=Tryz.func297.trans (congrArg some (by kernel_rfl))
 f46:=⟨Tryz.f339.name,by decide,Tryz.func339.trans (congrArg some (by kernel_rfl))⟩
 f47:=Tryz.func340.trans (congrArg some (by kernel_rfl))
 f48:=Tryz.func341.trans (congrArg some (by kernel_rfl))
 f49:=⟨Tryz.f342.name,by decide,Tryz.func342.trans (congrArg some (by kernel_rfl))⟩
 f50:=⟨Tryz.f343.name,by decide,Tryz.func343.trans (congrArg some (by kernel_rfl))⟩
 f57:=⟨Tryz.f380.name,by decide,Tryz.func380.trans (congrArg some (by kernel_rfl))⟩
 t0:=Tryz.underlying0
 a0:=Tryz.isAgg0
 z0:=Tryz.sizeOf0
 v0:=Tryz.zeroValue0
 t3:=Tryz.underlying3
 a3:=Tryz.isAgg3
 z3:=Tryz.sizeOf3
 v3:=Tryz.zeroValue3
 t4:=Tryz.underlying4
 a4:=Tryz.isAgg4
 z4:=Tryz.sizeOf4
 v4:=Tryz.zeroValue4
 t5:=Tryz.underlying5
 a5:=Tryz.isAgg5
 z5:=Tryz.sizeOf5
 v5:=Tryz.zeroValue5
 t9:=Tryz.underlying9
 a9:=Tryz.isAgg9
 z9:=Tryz.sizeOf9
 v9:=Tryz.zeroValue9
 t22:=Tryz.underlying32
 a22:=Tryz.isAgg32
 z22:=Tryz.sizeOf32
 v22:=Tryz.zeroValue32
 a24:=Tryz.isAgg9
 z24:=Tryz.sizeOf9
 t25:=Tryz.underlying132
 a25:=Tryz.isAgg132
 z25:=Tryz.sizeOf132
 v25:=Tryz.zeroValue132
 t39:=Tryz.underlying218
 a39:=Tryz.isAgg218
 z39:=Tryz.sizeOf218
 v39:=Tryz.zeroValue218
 t45:=Tryz.underlying262
 a45:=Tryz.isAgg262
 z45:=Tryz.sizeOf262
 v45:=Tryz.zeroValue262
 t46:=Tryz.underlying263
 a46:=Tryz.isAgg263
 z46:=Tryz.sizeOf263
 v46:=Tryz.zeroValue263
 t50:=Tryz.underlying239
 a50:=Tryz.isAgg239
 z50:=Tryz.sizeOf239
 v50:=Tryz.zeroValue239
 t53:=Tryz.underlying269
 a53:=Tryz.isAgg269
 z53:=Tryz.sizeOf269
 v53:=Tryz.zeroValue269
 t55:=Tryz.underlying271
 a55:=Tryz.isAgg271
 z55:=Tryz.sizeOf271
 v55:=Tryz.zeroValue271
 t66:=Tryz.underlying287
 a66:=Tryz.isAgg287
 z66:=Tryz.sizeOf287
 v66:=Tryz.zeroValue287
 t70:=Tryz.underlying291
 a70:=Tryz.isAgg291
 z70:=Tryz.sizeOf291
 v70:=Tryz.zeroValue291
 t76:=Tryz.underlying318
 a76:=Tryz.isAgg318
 z76:=Tryz.sizeOf318
 v76:=Tryz.zeroValue318
 t77:=Tryz.underlying319
 a77:=Tryz.isAgg319
 z77:=Tryz.sizeOf319
 v77:=Tryz.zeroValue319}
def QN :Go.Shelf.Ren:=⟨fun | 194=>138 | n=>n,fun | 31=>32 | 9=>9 | 3=>3 | 4=>4 | 0=>0 | n=>n,fun | n=>n⟩
theorem Zb :Go.Proofs.Lays.n194 Tryz.prog QN:={
 mixed:=by kernel_rfl
 f194:=Tryz.func138.trans (congrArg some (by kernel_rfl))
 t0:=Tryz.underlying0
 a0:=Tryz.isAgg0
 z0:=Tryz.sizeOf0
 v0:=Tryz.zeroValue0
 t3:=Tryz.underlying3
 a3:=Tryz.isAgg3
 z3:=Tryz.sizeOf3
 v3:=Tryz.zeroValue3
 t4:=Tryz.underlying4
 a4:=Tryz.isAgg4
 z4:=Tryz.sizeOf4
 v4:=Tryz.zeroValue4
 t9:=Tryz.underlying9
 a9:=Tryz.isAgg9
 z9:=Tryz.sizeOf9
 v9:=Tryz.zeroValue9
 t31:=Tryz.underlying32
 a31:=Tryz.isAgg32
 z31:=Tryz.sizeOf32
 v31:=Tryz.zeroValue32}
theorem IU :∀ l:List Str,(List.map lI l).flatten=l.map PV.str
 | []=>Z
 | s :: l=>congrArg (PV.str s :: ·) (IU l)
theorem Ju (l:List Str) (hl:l.length≤Gm) {Q:eT→List bA→Prop} (h:∀ v,Q (.ret (.val v)) [.buf v l.length 1 9 (l.map PV.str)]):PC 134 [sP l] [] Q:=by
 refine AC.kS 8 [.tmp 2] [0] Tryz.func134 Z Z Z Z Z (AW.sr (AR.step Z Z Z (AO.fq Z Z (AR.nil [0] Z ?_)))); refine AW.seq (AW.sr (cs 1 Z (AR.step Z Z Z (AO.QH Z Z ads (fun b hb=>?_))))); refine AR.nil [0,4] Z (AW.cond Z (fun h1=>?_) (fun h1=>?_))
 · obtain rfl:l=[]:=List.map_eq_nil_iff.1 (hb h1); refine AW.sr (AR.step Z Z Z (AO.HY Z Z (AR.nil [2] Z (AW.acU 1 9 ?_)))); refine AW.ret ?_; exact ⟨rfl,_,⟨_,_,rfl,rfl,rfl⟩,_,List.Sublist.refl _,h _⟩
 refine AW.skip (AW.sr (AR.step Z Z Z (AO.KN [] Z Ag Z Z Z Z Z (fun v1=>(cs 1 Z ?_))))); refine AR.step Z Z Z (AO.U5 (i:=0) (l2:=List.map lI l) Z Z Z Z Z Z Z Ag iy (fun y hy=>?_) (fun y hy=>?_) ?_ ?_ (fun v2 s1 hs1=>?_))
 · obtain ⟨s,_,rfl⟩:=List.mem_map.1 hy; rfl
 · obtain ⟨s,_,rfl⟩:=List.mem_map.1 hy; rfl
 · rw [List.length_map]; unfold Gm at hl; unfold maxLen; omega
 · rw [List.length_map]; unfold Gm at hl; omega
 cases hs1; refine cs 1 Z (AR.nil [2] Z (AW.ret ?_)); have hv:=h v2; rw [←IU,show l.length=(List.map lI l).length from (List.length_map _).symm] at hv; exact ⟨rfl,_,⟨_,_,rfl,rfl,rfl⟩,_,List.Sublist.refl _,hv⟩
theorem KD (l:List Str) {Q:eT→List bA→Prop} (h:Q (.ret (sP l)) []):PC 137 [sP l] [] Q:=by
 refine BD 9 [.tmp 2] [0] Tryz.func137 Z Z Z Z Z (W 0 Z (AS Z (AO.fq Z Z (U 2 Z (AS Z (AO.aU (l:=l) Z Z Z Z iy Z Z (U 1 Z (AS Z (AO.aU (l:=l) Z Z Z Z iy Z Z ?_))))))))); refine AS Z (AO.clip (l:=List.map lI l) Z iy Z (by rw [List.length_map]; rfl) (by rw [List.length_map]; rfl) ?_); exact N 1 rfl ⟨rfl,_,⟨_,_,rfl,rfl,rfl⟩,_,List.Sublist.refl _,h⟩
theorem YF :Go.Sort.SWO (Go.Proofs.ltOf fun a b:uP=>iJ a.1 b.1) where
 irrefl:=fun x=>by simp [Go.Proofs.ltOf,J4]
 trans:=fun x y z h1 h2=>by
  simp only [Go.Proofs.ltOf,decide_eq_true_eq] at *; exact H6 h1 h2
 ntrans:=fun x y z h1 h2=>by
  simp only [Go.Proofs.ltOf,decide_eq_false_iff_not] at *; exact Oc h1 h2
theorem Nw (EB:List Str) {r0:List Str} (hf:CV EB=some r0) (h:Q (.ret (sP r0)) τ):PC 82 [sP EB] τ Q:=by
 unfold CV at hf; split at hf
 case isFalse=>cases hf
 rename_i hg; simp only [Bool.and_eq_true,List.all_eq_true,decide_eq_true_eq] at hg; obtain ⟨hg1,hg2⟩:=hg; cases hf; refine AC.none (AC.kS 11 [.tmp 2] [0] Tryz.func82 Z Z Z Z Z (AW.sr (AR.step Z Z Z (AO.fq Z Z ?_)))); refine AR.nil [0] Z (AW.sr (cs 1 Z (AR.step Z Z Z (AO.call Z _ Z Z acn (Ju EB hg2 fun v=>?_))))); refine cs 1 Z (AR.nil [3] Z (AW.sr (cs 1 Z ?_))); refine AR.step Z Z Z (AO.call Z _ Z Z acj (AC.X7 adx Yt (cf:=iJ) (fun a b ha hb=>by letI:iG:=VD; exact DC a b (Jb ha hb) Z) YF (fun x y h1 h2=>Ez (by have:=CO x.1 y.1; omega)) hg1 (by unfold Gm at hg2; omega) ?_)); refine AR.nil [3] Z (AW.sr (cs 1 Z (AR.step Z Z Z (AO.call Z _ Z Z ach (AC.Za Zb (by rw [List.length_mergeSort]; unfold Gm at hg2; omega) fun v2=>?_))))); refine AR.freeze 9 0 (List.map lI (YE EB)) rfl rfl (IU _) (fun x hx=>by obtain ⟨s,_,rfl⟩:=List.mem_map.1 hx; rfl) (List.length_map _) ?_; refine AR.step Z Z Z (AO.call Z _ Z Z aci (AC.none (KD _ (cs 1 Z (AR.nil [2] Z (AW.ret ?_)))))); exact ⟨rfl,_,⟨_,_,rfl,rfl,rfl⟩,[],List.nil_sublist _,h⟩
theorem Kq (bo bv:Nat) (go:ah→List Str→Option (List Str)) (hgo:∀ (e1:ah) (dF:List Str) {r0:List Str},go e1 dF=some r0→∀ {v1:Value} {Q:eT→List bA→Prop},(∀ vr,Q (.ret (.tuple [])) [.row vr (List.map lI r0).length 1 9,.box bo [.own vr (List.map lI r0)],.box bv [.fn 81 [pP bo,pP bv]]])→PC 81 [.agg (bn e1),pP bo,pP bv] [.row v1 (List.map lI dF).length 1 9,.box bo [.own v1 (List.map lI dF)],.box bv [.fn 81 [pP bo,pP bv]]] Q)
  (e1:ah) (dF:List Str) {r0:List Str} (hf:yw go e1 dF=some r0) {v1:Value} {Q:eT→List bA→Prop} (h:∀ vr,Q (.ret (.tuple [])) [.row vr (List.map lI r0).length 1 9,.box bo [.own vr (List.map lI r0)],.box bv [.fn 81 [pP bo,pP bv]]]):PC 81 [.agg (bn e1),pP bo,pP bv] [.row v1 (List.map lI dF).length 1 9,.box bo [.own v1 (List.map lI dF)],.box bv [.fn 81 [pP bo,pP bv]]] Q:=by
 unfold yw at hf; refine AC.kS 25 [] [0,1,2] Tryz.func81 Z Z Z Z Z (AW.sr (AR.step Z Z Z (AO.FQ Z Z Z (AR.nil [1,2,3] Z ?_)))); refine AW.seq (AW.aev (fun (l:List Str) (v:Value)=>[(1,pP bo),(2,pP bv),(3,.ref (bn e1))]) (fun l v=>[.row v (List.map lI l).length 1 9,.box bo [.own v (List.map lI l)],.box bv [.fn 81 [pP bo,pP bv]]]) (fun l v=>nA go e1 BIG l 0=some r0) ?_ ?_)
 ·
  refine AW.sr (cs 3 Z (AR.nil [1,2,3,8] Z (AW.cond Z (fun h1=>?_) (fun h1=>?_))))
  ·
   replace hf:=jV h1 hf; refine AW.region (AR.step Z Z Z (AO.dW (i:=1) Z Z Z aaX Z Z (cs 2 Z (AR.step Z Z Z (AO.dw (List.map lI ([e1.name]:List Str)) Z Ag Z Z Z Z ?_))))); refine B1 hf fun yM h2 hf=>AR.step Z Z Z (AO.lH (i:=0) (l:=dF) (m:=[e1.name]) h2 Z Z Z Z Z Z Z Ag iy Z Z Z (fun _=>Z) (fun _=>Z) (by decide) (fun v2 s1 hs1=>?_)); cases hs1; refine AR.dx Z Z (AO.eH (i:=1) Z Z Z aaX Z Z Z Z Z (AR.nil [1,2,3] Z ?_)); exact ⟨yM,v2,Z,Z,Z,hf⟩
  replace hf:=jg h1 hf; refine AW.settle [1,2,3] Z (AW.skip ?_); exact ⟨dF,v1,Z,Z,Z,hf⟩
 intro yM v2 hf; refine AW.sr (cs 2 Z (AR.step Z Z Z (AO.aU (l:=e1.args) Z Z Z Z iI Z (ah.aO _) (cs 1 Z ?_)))); refine AR.nil [1,2,15,16,17] Z (AW.block (AW.settle [1,2,15,16,17] Z (AW.Uz (fun (l:List Str) (v:Value) (i1:Int)=>[(1,pP bo),(2,pP bv),(15,.list (ah.bR e1.args)),(16,iP (e1.args.length:Int)),(17,iP i1)]) (fun l v i1=>[.row v (List.map lI l).length 1 9,.box bo [.own v (List.map lI l)],.box bv [.fn 81 [pP bo,pP bv]]]) (fun dA l v i1=>nA go e1 dA l i1=some r0) BIG yM v2 0 Z Z hf (fun _ _ _ hz=>bI hz) ?_))); intro dA Sk v3 i1 hf; rw [nA] at hf; refine AW.sr (cs 1 Z (AR.nil [1,2,15,16,17,18] Z (AW.seq ?_))); refine AW.cond Z (fun h1=>?_) (fun h1=>?_)
 ·
  replace hf:=jV h1 hf; refine AW.skip (AW.seq (AW.block (AW.sr ?_))); refine B1 hf fun a1 h2 hf=>AR.step Z Z Z (AO.bF h2 Z Z (ah.aO _) Z iI (ah.aP _) Z (cs 1 Z (AR.step Z Z Z (AO.aN Z iq (fun b5=>(AR.dx Z Z (AO.eH (i:=0) Z Z Z iY Z Z Z Z Z ?_))))))); refine AR.nil [1,2,5,15,16,17] Z (AW.region (AR.step Z Z Z (AO.dW (i:=3) Z Z Z abF Z Z (AR.step Z Z Z (AO.dW (i:=0) Z Z Z iY Z Z ?_))))); refine AR.drop1 ?_; refine B1 hf fun Yw h3 hf=>AR.step Z Z Z (AO.call Z _ Z Z adL (hgo _ _ h3 fun v4=>(AR.nil [1,2,15,16,17] Z (AW.region (cs 2 Z ?_))))); refine AR.nil [1,2,15,16,17] Z ?_; exact ⟨Yw,v4,(bV (i1 + 1)),Z,Z,Z,hf⟩
 replace hf:=jg h1 hf; refine AW.exit ?_; cases hf; exact ⟨rfl,_,rfl,_,List.Sublist.refl _,h v3⟩
theorem Dt (bo bv:Nat):∀ (k:Nat) (e1:ah) (dF:List Str) {r0:List Str},uM k e1 dF=some r0→∀ {v1:Value} {Q:eT→List bA→Prop},(∀ vr,Q (.ret (.tuple [])) [.row vr (List.map lI r0).length 1 9,.box bo [.own vr (List.map lI r0)],.box bv [.fn 81 [pP bo,pP bv]]])→PC 81 [.agg (bn e1),pP bo,pP bv] [.row v1 (List.map lI dF).length 1 9,.box bo [.own v1 (List.map lI dF)],.box bv [.fn 81 [pP bo,pP bv]]] Q
 | 0,_,_,_,hz=>bI hz
 | k + 1,e1,dF,r0,hz=>by
  intro h; exact Kq bo bv (uM k) (fun e1 dF r0 hz=>Dt bo bv k e1 dF hz) e1 dF hz h
theorem OW (e1:ah) {r0:List Str} (hf:ET e1=some r0) (h:Q (.ret (sP r0)) τ):PC 47 [.agg (bn e1)] τ Q:=by
 unfold ET at hf; refine BN 11 [.tmp 2] [0] Tryz.func47 Z Z Z Z Z (W 1 Z (AS Z (AO.fq Z Z (U 0 Z (AR.row 1 9 (AS Z (AO.aN Z adi (fun bo=>(U 0 Z (AS Z (AO.aN Z abz (fun bv=>?_)))))))))))); refine B1 hf fun dF h1 hf=>Rr 4 [0,0] Z Z (CL Z (AC.perm ((List.Perm.swap _ _ _).trans ((List.Perm.cons _ (List.Perm.swap _ _ _)).trans (List.Perm.swap _ _ _))) (Dt bo bv BIG e1 [] h1 fun v1=>(Rr 1 [1] Z Z (CL Z (Nw _ hf ?_)))))); exact N 1 Z (Y Z h)
end Go.Proofs.YtpbjbkhfpjckoaaGreatDoor
