/- Proved here: each function does what its functional text says (part 1). -/
import Derived.Test.YtpbjbkhfpjckoaaGreatDoorIcA3
import Derived.Test.YtpbjbkhfpjckoaaGreatDoorIcPre1
import Derived.Test.YtpbjbkhfpjckoaaGreatDoorIcFt1
import Derived.Test.YtpbjbkhfpjckoaaGreatDoorProg
import Derived.KernelRfl
set_option linter.unusedVariables false
set_option linter.unusedSimpArgs false
set_option linter.unusedSectionVars false
namespace Go.Ft
open Go Go.Abs
@[reducible] def aA.cells (x:aA):List PV:=[.int .i64 x.kind,.str x.text,.int .i64 x.at_]
theorem aA.aS (x:aA):aA.cells x=[.int .i64 x.kind,.str x.text,.int .i64 x.at_]:=rfl
theorem aA.dK (x:aA):(aA.cells x).length=3:=by rw [aA.aS]; rfl
theorem aA.cells_one (x:aA):(aA.cells x).all PV.one=true:=by rw [aA.aS]; rfl
@[reducible] def aj.cells (x:aj):List PV:=[.list (List.map aA.cells x.ts),.int .i64 x.at_]
theorem aj.aS (x:aj):aj.cells x=[.list (List.map aA.cells x.ts),.int .i64 x.at_]:=rfl
theorem aj.dK (x:aj):(aj.cells x).length=2:=by rw [aj.aS]; rfl
theorem aj.cells_one (x:aj):(aj.cells x).all PV.one=true:=by rw [aj.aS]; rfl
@[reducible] def aB.cells (x:aB):List PV:=[.int .i64 x.at_,.int .i64 x.code]
theorem aB.aS (x:aB):aB.cells x=[.int .i64 x.at_,.int .i64 x.code]:=rfl
theorem aB.dK (x:aB):(aB.cells x).length=2:=by rw [aB.aS]; rfl
theorem aB.cells_one (x:aB):(aB.cells x).all PV.one=true:=by rw [aB.aS]; rfl
mutual
def av.cells :av→List PV
  | ⟨a0,a1,a2,a3,a4,a5⟩=>[.int .i64 a0,.bool a1,.int .i64 a2,.str a3,.list (av.bC a4),.list (List.map iC a5)]
def av.bC :List av→List (List PV)
  | []=>[]
  | x :: xs=>av.cells x :: av.bC xs
end
theorem av.aS (x:av):av.cells x=[.int .i64 x.kind,.bool x.lJ,.int .i64 x.mZ,.str x.pF,.list (av.bC x.dh),.list (List.map iC x.keys)]:=by cases x; rfl
theorem av.bV :∀ l:List av,av.bC l=l.map av.cells
  | []=>rfl
  | _ :: l=>congrArg _ (av.bV l)
def av.oH (l:List av):List PV:=[.list (av.bC l)]
theorem av.dK (x:av):(av.cells x).length=6:=by rw [av.aS]; rfl
theorem av.cells_one (x:av):(av.cells x).all PV.one=true:=by rw [av.aS]; rfl
mutual
def ah.cells :ah→List PV
  | ⟨a0,a1,a2,a3,a4⟩=>[.int .i64 a0,.str a1,.int .i64 a2.kind,.bool a2.lJ,.int .i64 a2.mZ,.str a2.pF,.list (av.bC a2.dh),.list (List.map iC a2.keys),.list (ah.bC a3),.list (List.map iC a4)]
def ah.bC :List ah→List (List PV)
  | []=>[]
  | x :: xs=>ah.cells x :: ah.bC xs
end
theorem ah.aS (x:ah):ah.cells x=[.int .i64 x.kind,.str x.name,.int .i64 x.value.kind,.bool x.value.lJ,.int .i64 x.value.mZ,.str x.value.pF,.list (av.bC x.value.dh),.list (List.map iC x.value.keys),.list (ah.bC x.args),.list (List.map iC x.keys)]:=by cases x; rfl
theorem ah.bV :∀ l:List ah,ah.bC l=l.map ah.cells
  | []=>rfl
  | _ :: l=>congrArg _ (ah.bV l)
def ah.oH (l:List ah):List PV:=[.list (ah.bC l)]
theorem ah.dK (x:ah):(ah.cells x).length=10:=by rw [ah.aS]; rfl
theorem ah.cells_one (x:ah):(ah.cells x).all PV.one=true:=by rw [ah.aS]; rfl
@[reducible] def aK.cells (x:aK):List PV:=[.str x.text,.bool x.EM,.int .i64 x.expr.kind,.str x.expr.name,.int .i64 x.expr.value.kind,.bool x.expr.value.lJ,.int .i64 x.expr.value.mZ,.str x.expr.value.pF,.list (av.bC x.expr.value.dh),.list (List.map iC x.expr.value.keys),.list (ah.bC x.expr.args),.list (List.map iC x.expr.keys)]
theorem aK.aS (x:aK):aK.cells x=[.str x.text,.bool x.EM,.int .i64 x.expr.kind,.str x.expr.name,.int .i64 x.expr.value.kind,.bool x.expr.value.lJ,.int .i64 x.expr.value.mZ,.str x.expr.value.pF,.list (av.bC x.expr.value.dh),.list (List.map iC x.expr.value.keys),.list (ah.bC x.expr.args),.list (List.map iC x.expr.keys)]:=rfl
theorem aK.dK (x:aK):(aK.cells x).length=12:=by rw [aK.aS]; rfl
theorem aK.cells_one (x:aK):(aK.cells x).all PV.one=true:=by rw [aK.aS]; rfl
@[reducible] def bT.cells (x:bT):List PV:=[.str x.name,.int .i64 x.value.kind,.bool x.value.lJ,.int .i64 x.value.mZ,.str x.value.pF,.list (av.bC x.value.dh),.list (List.map iC x.value.keys)]
theorem bT.aS (x:bT):bT.cells x=[.str x.name,.int .i64 x.value.kind,.bool x.value.lJ,.int .i64 x.value.mZ,.str x.value.pF,.list (av.bC x.value.dh),.list (List.map iC x.value.keys)]:=rfl
theorem bT.dK (x:bT):(bT.cells x).length=7:=by rw [bT.aS]; rfl
theorem bT.cells_one (x:bT):(bT.cells x).all PV.one=true:=by rw [bT.aS]; rfl
@[reducible] def bq.cells (x:bq):List PV:=[.int .i64 x.code]
theorem bq.aS (x:bq):bq.cells x=[.int .i64 x.code]:=rfl
theorem bq.dK (x:bq):(bq.cells x).length=1:=by rw [bq.aS]; rfl
theorem bq.cells_one (x:bq):(bq.cells x).all PV.one=true:=by rw [bq.aS]; rfl
mutual
def au.cells :au→List PV
  | ⟨a0,a1⟩=>[.int .i64 a0,.list (au.bC a1)]
def au.bC :List au→List (List PV)
  | []=>[]
  | x :: xs=>au.cells x :: au.bC xs
end
theorem au.aS (x:au):au.cells x=[.int .i64 x.kind,.list (au.bC x.elem)]:=by cases x; rfl
theorem au.bV :∀ l:List au,au.bC l=l.map au.cells
  | []=>rfl
  | _ :: l=>congrArg _ (au.bV l)
def au.oH (l:List au):List PV:=[.list (au.bC l)]
theorem au.dK (x:au):(au.cells x).length=2:=by rw [au.aS]; rfl
theorem au.cells_one (x:au):(au.cells x).all PV.one=true:=by rw [au.aS]; rfl
@[reducible] def aO.cells (x:aO):List PV:=[.str x.name,.int .i64 x.nG.kind,.list (au.bC x.nG.elem)]
theorem aO.aS (x:aO):aO.cells x=[.str x.name,.int .i64 x.nG.kind,.list (au.bC x.nG.elem)]:=rfl
theorem aO.dK (x:aO):(aO.cells x).length=3:=by rw [aO.aS]; rfl
theorem aO.cells_one (x:aO):(aO.cells x).all PV.one=true:=by rw [aO.aS]; rfl
end Go.Ft
namespace Go.Proofs.YtpbjbkhfpjckoaaGreatDoor
open Go Go.Abs Go.Ft
set_option maxRecDepth 20000
set_option maxHeartbeats 8000000
attribute [local irreducible] AO AR AW AC ay dX j_ yh dZ idx sl app
class I6 [fJ]:Prop where
  hD:¬ fJ.D
  max:∀ (w:World) (m:iY),fJ.G w m→∃ n:Int,w.cell? ⟨0,0,none⟩=some (.int .i64 n)
  pow:∀ (w:World) (m:iY),fJ.G w m→Lib.TabIs Tryz.prog w "internal/strconv.uint64pow10" .u64 Lib.pow10Tab
  syn:∀ (w:World) (m:iY),fJ.G w m→∃ ev,w.cell? ⟨6,0,none⟩=some ev∧(ev=.nilIface∨∃ te pe,ev=.iface te pe)
  rng:∀ (w:World) (m:iY),fJ.G w m→∃ ev,w.cell? ⟨7,0,none⟩=some ev∧(ev=.nilIface∨∃ te pe,ev=.iface te pe)
variable [fJ]
theorem aas :DT Tryz.prog 221=some (8,1):=by kernel_rfl
theorem ahC :Tryz.prog.cellsOf 5=1:=by kernel_rfl
theorem JD :elemSize Tryz.prog 110=some 3:=by kernel_rfl
theorem QG :elemSize Tryz.prog 222=some 1:=by kernel_rfl
theorem tO :elemSize Tryz.prog 23=some 12:=by kernel_rfl
theorem ady :elemSize Tryz.prog 31=some 6:=by kernel_rfl
theorem tN :elemSize Tryz.prog 32=some 1:=by kernel_rfl
theorem EU :elemSize Tryz.prog 35=some 10:=by kernel_rfl
theorem ZP :elemSize Tryz.prog 43=some 7:=by kernel_rfl
theorem ZO :elemSize Tryz.prog 49=some 3:=by kernel_rfl
theorem xU :elemSize Tryz.prog 61=some 2:=by kernel_rfl
theorem Pp :elemSize Tryz.prog 68=some 1:=by kernel_rfl
theorem VO :oZ Tryz.prog 37 3=some 8:=by kernel_rfl
theorem acn :oZ Tryz.prog 39 1=some 1:=by kernel_rfl
theorem acj :oZ Tryz.prog 39 2=some 2:=by kernel_rfl
theorem zk :oZ Tryz.prog 72 0=some 0:=by kernel_rfl
theorem sD :oZ Tryz.prog 72 1=some 1:=by kernel_rfl
theorem K7 :oZ Tryz.prog 74 0=some 0:=by kernel_rfl
theorem FD :oZ Tryz.prog 74 1=some 1:=by kernel_rfl
theorem aha :Tryz.prog.underlying 77=some (.interface (Tryz.prog.methodsAt 77)):=by kernel_rfl
theorem inB :∃ j,Tryz.prog.info? 72=some j∧(j.size != 0)=true:=sized (n:=2) (by kernel_rfl) rfl
theorem ag6 :liesAt Tryz.prog Tryz.prog.depth 72 (2 / Tryz.prog.cellsOf 72) 0 72 1=true:=by kernel_rfl
theorem ag5 :liesAt Tryz.prog Tryz.prog.depth 74 (3 / Tryz.prog.cellsOf 74) 1 72 1=true:=by kernel_rfl
theorem mixed :Tryz.prog.follows .mixedOrders=true:=by kernel_rfl
theorem Dq :Tryz.prog.underlying 125=some (.map 9 3):=by kernel_rfl
theorem adn :cZ Tryz.prog 11=true:=by kernel_rfl
theorem aeV :cZ Tryz.prog 123=true:=by kernel_rfl
theorem aeU :cZ Tryz.prog 124=true:=by kernel_rfl
theorem aeT :cZ Tryz.prog 134=true:=by kernel_rfl
theorem aeS :cZ Tryz.prog 135=true:=by kernel_rfl
theorem aeR :cZ Tryz.prog 136=true:=by kernel_rfl
theorem aeQ :cZ Tryz.prog 137=true:=by kernel_rfl
theorem aeP :cZ Tryz.prog 138=true:=by kernel_rfl
theorem Zb :cZ Tryz.prog 144=true:=by kernel_rfl
theorem agT :cZ Tryz.prog 15=true:=by kernel_rfl
theorem aeO :cZ Tryz.prog 150=true:=by kernel_rfl
theorem aeN :cZ Tryz.prog 151=true:=by kernel_rfl
theorem aeM :cZ Tryz.prog 152=true:=by kernel_rfl
theorem aeL :cZ Tryz.prog 153=true:=by kernel_rfl
theorem aeK :cZ Tryz.prog 172=true:=by kernel_rfl
theorem Za :cZ Tryz.prog 173=true:=by kernel_rfl
theorem aeJ :cZ Tryz.prog 196=true:=by kernel_rfl
theorem aeI :cZ Tryz.prog 197=true:=by kernel_rfl
theorem aeH :cZ Tryz.prog 200=true:=by kernel_rfl
theorem Y_ :cZ Tryz.prog 201=true:=by kernel_rfl
theorem adl :cZ Tryz.prog 21=true:=by kernel_rfl
theorem T_ :cZ Tryz.prog 229=true:=by kernel_rfl
theorem aeG :cZ Tryz.prog 243=true:=by kernel_rfl
theorem adk :cZ Tryz.prog 27=true:=by kernel_rfl
theorem adj :cZ Tryz.prog 28=true:=by kernel_rfl
theorem agS :cZ Tryz.prog 29=true:=by kernel_rfl
theorem agR :cZ Tryz.prog 30=true:=by kernel_rfl
theorem adi :cZ Tryz.prog 31=true:=by kernel_rfl
theorem adh :cZ Tryz.prog 32=true:=by kernel_rfl
theorem agQ :cZ Tryz.prog 33=true:=by kernel_rfl
theorem agP :cZ Tryz.prog 34=true:=by kernel_rfl
theorem agO :cZ Tryz.prog 39=true:=by kernel_rfl
theorem agN :cZ Tryz.prog 43=true:=by kernel_rfl
theorem adg :cZ Tryz.prog 46=true:=by kernel_rfl
theorem agM :cZ Tryz.prog 47=true:=by kernel_rfl
theorem agL :cZ Tryz.prog 50=true:=by kernel_rfl
theorem agK :cZ Tryz.prog 51=true:=by kernel_rfl
theorem Y9 :cZ Tryz.prog 60=true:=by kernel_rfl
theorem adf :cZ Tryz.prog 65=true:=by kernel_rfl
theorem ade :cZ Tryz.prog 80=true:=by kernel_rfl
theorem agJ :cZ Tryz.prog 81=true:=by kernel_rfl
theorem agI :cZ Tryz.prog 84=true:=by kernel_rfl
theorem agH :cZ Tryz.prog 87=true:=by kernel_rfl
theorem adb :cZ Tryz.prog 88=true:=by kernel_rfl
theorem agG :cZ Tryz.prog 97=true:=by kernel_rfl
theorem agF :cZ Tryz.prog 99=true:=by kernel_rfl
theorem Jg :iq Tryz.prog 110 116 3 32:=oK (by kernel_rfl)
theorem yB :iq Tryz.prog 222 61 1 24:=oK (by kernel_rfl)
theorem Ka :iq Tryz.prog 23 39 12 184:=oK (by kernel_rfl)
theorem Hu :iq Tryz.prog 32 9 1 16:=oK (by kernel_rfl)
theorem ada :iq Tryz.prog 35 37 10 160:=oK (by kernel_rfl)
theorem agy :iq Tryz.prog 43 60 7 104:=oK (by kernel_rfl)
theorem agx :iq Tryz.prog 49 66 3 48:=oK (by kernel_rfl)
theorem tu :iq Tryz.prog 61 63 2 32:=oK (by kernel_rfl)
theorem J_ :iq Tryz.prog 68 5 1 1:=oK (by kernel_rfl)
theorem abM :zY Tryz.prog 187=some [(0,1),(1,1)]:=by kernel_rfl
theorem aeA :zY Tryz.prog 34=some [(0,1),(1,1),(2,1),(3,1),(4,1),(5,1)]:=by kernel_rfl
theorem YU :zY Tryz.prog 37=some [(0,1),(1,1),(2,6),(8,1),(9,1)]:=by kernel_rfl
theorem P_ :zY Tryz.prog 39=some [(0,1),(1,1),(2,10)]:=by kernel_rfl
theorem abJ (w:Go.World):(Instr.typeAssert .nilIface 20 189 true).run Tryz.prog w=.ok (.tuple #[.agg #[.int .i64 0,.int .i64 0],.bool false]) w:=by kernel_rfl
theorem abI (w:Go.World):(Instr.typeAssert .nilIface 20 204 true).run Tryz.prog w=.ok (.tuple #[.agg #[.int .i64 0],.bool false]) w:=by kernel_rfl
theorem abH (v:Value) (w:Go.World):(Instr.typeAssert (.iface 189 v) 20 189 true).run Tryz.prog w=.ok (.tuple #[v,.bool true]) w:=by kernel_rfl
theorem abG (v:Value) (w:Go.World):(Instr.typeAssert (.iface 204 v) 20 204 true).run Tryz.prog w=.ok (.tuple #[v,.bool true]) w:=by kernel_rfl
theorem aey :iG Tryz.prog 131=some (false,1):=by kernel_rfl
theorem YP :iG Tryz.prog 189=some (true,2):=by kernel_rfl
theorem YO :iG Tryz.prog 204=some (true,1):=by kernel_rfl
theorem Lu :iG Tryz.prog 23=some (false,1):=by kernel_rfl
theorem qO :iG Tryz.prog 24=some (false,1):=by kernel_rfl
theorem NS :iG Tryz.prog 3=some (false,1):=by kernel_rfl
theorem ac_ :iG Tryz.prog 32=some (false,1):=by kernel_rfl
theorem Hr :iG Tryz.prog 34=some (true,6):=by kernel_rfl
theorem ac9 :iG Tryz.prog 35=some (false,1):=by kernel_rfl
theorem uJ :iG Tryz.prog 37=some (true,10):=by kernel_rfl
theorem agr :iG Tryz.prog 39=some (true,12):=by kernel_rfl
theorem agq :iG Tryz.prog 4=some (false,1):=by kernel_rfl
theorem ac8 :iG Tryz.prog 49=some (false,1):=by kernel_rfl
theorem ac7 :iG Tryz.prog 61=some (false,1):=by kernel_rfl
theorem jr :iG Tryz.prog 63=some (true,2):=by kernel_rfl
theorem Ca :iG Tryz.prog 68=some (false,1):=by kernel_rfl
theorem Hq :iG Tryz.prog 70=some (false,1):=by kernel_rfl
theorem aex :iG Tryz.prog 9=some (false,1):=by kernel_rfl
theorem agp :Tryz.prog.underlying 32=some (.slice 9):=by kernel_rfl
theorem aev :Tryz.prog.underlying 5=some (.int .u8):=by kernel_rfl
theorem YI :Tryz.prog.underlying 68=some (.slice 5):=by kernel_rfl
theorem qG :Tryz.prog.underlying 9=some (.string):=by kernel_rfl
theorem F6 :Tryz.prog.underlying 70=some (.pointer 72):=by kernel_rfl
theorem YH :Tryz.prog.underlying 124=some (.pointer 5):=by kernel_rfl
theorem P5 :Tryz.prog.underlying 138=some .unsafePointer:=by kernel_rfl
theorem Wo :(Tryz.prog.info? 3).map (·.zero)=some (some (.int .i64 0)):=by kernel_rfl
theorem Yy :kL Tryz.prog 116=some [.int .i64 0,.str [],.int .i64 0]:=by kernel_rfl
theorem aeo :kL Tryz.prog 131=some [.val .nilFunc]:=by kernel_rfl
theorem aen :kL Tryz.prog 187=some [.own (.slice none 0 0) [],.int .i64 0]:=by kernel_rfl
theorem Yx :kL Tryz.prog 189=some [.int .i64 0,.int .i64 0]:=by kernel_rfl
theorem Yw :kL Tryz.prog 204=some [.int .i64 0]:=by kernel_rfl
theorem Yv :kL Tryz.prog 221=some [.str [],.str [],.str [],.str [],.str [],.str [],.str [],.str []]:=by kernel_rfl
theorem Va :kL Tryz.prog 24=some [.int .i64 0]:=by kernel_rfl
theorem ah_ :kL Tryz.prog 3=some [.int .i64 0]:=by kernel_rfl
theorem agj :kL Tryz.prog 32=some [.own (.slice none 0 0) []]:=by kernel_rfl
theorem He :kL Tryz.prog 34=some [.int .i64 0,.bool false,.int .i64 0,.str [],.own (.slice none 0 0) [],.own (.slice none 0 0) []]:=by kernel_rfl
theorem F3 :kL Tryz.prog 37=some [.int .i64 0,.str [],.int .i64 0,.bool false,.int .i64 0,.str [],.own (.slice none 0 0) [],.own (.slice none 0 0) [],.own (.slice none 0 0) [],.own (.slice none 0 0) []]:=by kernel_rfl
theorem K_ :kL Tryz.prog 39=some [.str [],.bool false,.int .i64 0,.str [],.int .i64 0,.bool false,.int .i64 0,.str [],.own (.slice none 0 0) [],.own (.slice none 0 0) [],.own (.slice none 0 0) [],.own (.slice none 0 0) []]:=by kernel_rfl
theorem agi :kL Tryz.prog 60=some [.str [],.int .i64 0,.bool false,.int .i64 0,.str [],.own (.slice none 0 0) [],.own (.slice none 0 0) []]:=by kernel_rfl
theorem Ef :kL Tryz.prog 63=some [.int .i64 0,.own (.slice none 0 0) []]:=by kernel_rfl
theorem agh :kL Tryz.prog 66=some [.str [],.int .i64 0,.own (.slice none 0 0) []]:=by kernel_rfl
theorem Yu :kL Tryz.prog 72=some [.val (.pointer none),.own (.slice none 0 0) []]:=by kernel_rfl
theorem agf :kL Tryz.prog 74=some [.own (.slice none 0 0) [],.val (.pointer none),.own (.slice none 0 0) []]:=by kernel_rfl
def FX :Facts:={ti:=[(3,false,1),(4,false,1),(5,false,1),(9,false,1),(23,false,1),(24,false,1),(31,false,1),(32,false,1),(34,true,6),(35,false,1),(37,true,10),(39,true,12),(49,false,1),(60,true,7),(61,false,1),(63,true,2),(66,true,3),(116,true,3),(187,true,2),(189,true,2),(204,true,1)],fo:=[(34,0,0),(34,1,1),(34,2,2),(34,3,3),(34,4,4),(34,5,5),(37,0,0),(37,1,1),(37,2,2),(37,3,8),(37,4,9),(39,0,0),(39,1,1),(39,2,2),(60,0,0),(60,1,1),(63,0,0),(63,1,1),(66,0,0),(66,1,1),(74,0,0),(74,1,1),(116,0,0),(116,1,1),(116,2,2),(187,0,0),(187,1,1),(189,0,0),(189,1,1),(204,0,0)],fd:=[],str:=[]}
theorem gq :FX.okB Tryz.prog=true:=by kernel_rfl
theorem cs {n:Nat} {all:Array Oper} {σ:List aQ} {ds:List Deferred} {Q:Post} (k:Nat) {l l':List Oper} {env env':Env} (h:KE FX all n k l env=some (env',l')) (hr:AR Tryz.prog n all l' env' σ ds Q):AR Tryz.prog n all l env σ ds Q:=AR.cs gq k h hr
variable {τ : List aQ} {Q : dL → List aQ → Prop}
abbrev PC :=AC Tryz.prog
@[reducible] def iP (x:Int):PV:=.int .i64 x
@[reducible] def sP (x:List Str):PV:=.list (List.map iC x)
@[reducible] def pP (b:Nat):PV:=.val (.pointer (some ⟨b,0,none⟩))
@[reducible] def bA (x:av):List PV:=[.int .i64 x.kind,.bool x.lJ,.int .i64 x.mZ,.str x.pF,.list (av.bC x.dh),.list (List.map iC x.keys)]
@[reducible] def aP (x:ah):List PV:=[.int .i64 x.kind,.str x.name,.int .i64 x.value.kind,.bool x.value.lJ,.int .i64 x.value.mZ,.str x.value.pF,.list (av.bC x.value.dh),.list (List.map iC x.value.keys),.list (ah.bC x.args),.list (List.map iC x.keys)]
@[reducible] def Jt (x:aK):List PV:=[.str x.text,.bool x.EM,.int .i64 x.expr.kind,.str x.expr.name,.int .i64 x.expr.value.kind,.bool x.expr.value.lJ,.int .i64 x.expr.value.mZ,.str x.expr.value.pF,.list (av.bC x.expr.value.dh),.list (List.map iC x.expr.value.keys),.list (ah.bC x.expr.args),.list (List.map iC x.expr.keys)]
@[reducible] def VE (x:bT):List PV:=[.str x.name,.int .i64 x.value.kind,.bool x.value.lJ,.int .i64 x.value.mZ,.str x.value.pF,.list (av.bC x.value.dh),.list (List.map iC x.value.keys)]
@[reducible] def aN (x:au):List PV:=[.int .i64 x.kind,.list (au.bC x.elem)]
@[reducible] def Si (x:aO):List PV:=[.str x.name,.int .i64 x.nG.kind,.list (au.bC x.nG.elem)]
@[reducible] def mG (x:aA):List PV:=[.int .i64 x.kind,.str x.text,.int .i64 x.at_]
@[reducible] def aM (x:aj):List PV:=[.list (List.map aA.cells x.ts),.int .i64 x.at_]
@[reducible] def iO (x:aB):List PV:=[.int .i64 x.at_,.int .i64 x.code]
def FZ :FB:=⟨{FX with ti:=FX.ti ++ [(3,false,1),(4,false,1),(9,false,1),(23,false,1),(24,false,1),(31,false,1),(32,false,1),(34,true,6),(35,false,1),(37,true,10),(39,true,12),(49,false,1),(60,true,7),(61,false,1),(63,true,2),(66,true,3),(68,false,1),(70,false,1),(110,false,1),(116,true,3),(131,false,1),(187,true,2),(189,true,2),(204,true,1),(221,true,8),(287,false,1)],fo:=FX.fo ++ [(37,3,8),(39,0,0),(39,1,1),(39,2,2),(63,0,0),(72,0,0),(72,1,1),(74,0,0),(74,1,1)],str:=[9]},[(3,[.int .i64 0]),(24,[.int .i64 0]),(32,[.own (.slice none 0 0) []]),(34,[.int .i64 0,.bool false,.int .i64 0,.str [],.own (.slice none 0 0) [],.own (.slice none 0 0) []]),(37,[.int .i64 0,.str [],.int .i64 0,.bool false,.int .i64 0,.str [],.own (.slice none 0 0) [],.own (.slice none 0 0) [],.own (.slice none 0 0) [],.own (.slice none 0 0) []]),(39,[.str [],.bool false,.int .i64 0,.str [],.int .i64 0,.bool false,.int .i64 0,.str [],.own (.slice none 0 0) [],.own (.slice none 0 0) [],.own (.slice none 0 0) [],.own (.slice none 0 0) []]),(60,[.str [],.int .i64 0,.bool false,.int .i64 0,.str [],.own (.slice none 0 0) [],.own (.slice none 0 0) []]),(63,[.int .i64 0,.own (.slice none 0 0) []]),(66,[.str [],.int .i64 0,.own (.slice none 0 0) []]),(72,[.val (.pointer none),.own (.slice none 0 0) []]),(74,[.own (.slice none 0 0) [],.val (.pointer none),.own (.slice none 0 0) []]),(116,[.int .i64 0,.str [],.int .i64 0]),(131,[.val .nilFunc]),(187,[.own (.slice none 0 0) [],.int .i64 0]),(189,[.int .i64 0,.int .i64 0]),(204,[.int .i64 0]),(221,[.str [],.str [],.str [],.str [],.str [],.str [],.str [],.str []]),(287,[.int .u64 0]),(369,[.str []])],[(34,[(0,1),(1,1),(2,1),(3,1),(4,1),(5,1)]),(37,[(0,1),(1,1),(2,6),(8,1),(9,1)]),(39,[(0,1),(1,1),(2,10)]),(60,[(0,1),(1,6)]),(63,[(0,1),(1,1)]),(66,[(0,1),(1,2)]),(116,[(0,1),(1,1),(2,1)]),(187,[(0,1),(1,1)]),(189,[(0,1),(1,1)]),(369,[(0,1)])]⟩
instance iFA :FA Tryz.prog:={F:=FZ,ok:=⟨by kernel_rfl,by kernel_rfl,by kernel_rfl⟩,mix:=by kernel_rfl,es:=[(23,12),(31,6),(32,1),(35,10),(43,7),(49,3),(61,2),(68,1),(110,3),(161,7),(222,1),(236,1)],eok:=by kernel_rfl,sf:=[(110,116,3,32),(222,61,1,24),(23,39,12,184),(236,3,1,8),(31,34,6,88),(32,9,1,16),(35,37,10,160),(43,60,7,104),(49,66,3,48),(61,63,2,32),(68,5,1,1)],sok:=by kernel_rfl,bs:=[(68,5)],ahJ:=by kernel_rfl,un:=[(21,.i32),(218,.u64),(269,.u32),(271,.u64),(287,.u64),(3,.i64),(5,.u8)],uok:=by kernel_rfl,ic:=[189,350,367],iok:=by kernel_rfl,bo:=[4],bok:=by kernel_rfl,pf:=[6,10,11,12,14,15,17,19,20,21,22,25,26,27,28,29,30,31,32,33,34,36,37,38,39,41,42,43,46,47,48,49,50,51,52,53,55,56,57,58,59,60,61,62,63,64,65,66,67,68,70,71,73,75,76,77,80,81,82,83,84,85,86,87,88,89,90,92,93,94,95,97,98,99,100,101,102,103,104,105,106,108,109,110,111,113,117,118,122,123,124,125,126,127,128,130,134,135,136,137,138,139,140,141,142,143,144,145,146,147,148,149,150,151,152,153,154,155,156,157,158,159,160,161,162,163,164,165,166,167,168,169,170,171,172,173,174,175,176,177,178,179,180,184,185,193,194,196,197,198,199,200,201,203,216,217,218,219,220,221,222,223,224,225,226,227,228,229,230,231,232,233,234,235,236,237,238,239,240,241,242,243,244,245,246,247,248,249,250,251,252,253,254,255,257,261,262,263,264,270,274,290,291,297,298,299,300,301,302,303,304,305,306,307,308,309,310,311,312,313,314,315,316,317,318,319,320,330,333,340,344,348,349,350,351,352,353,354,355,356,364,368,374,382,383,384,385,386,387,388,389,390,410,411,412,413,414,432,433],pk:=by kernel_rfl}
instance (l :List Str):ML (List.map iC l) l iC:=⟨rfl⟩
instance (l :List Int):ML (List.map Uo l) l Uo:=⟨rfl⟩
instance (l :List UInt8):ML (List.map fG l) l fG:=⟨rfl⟩
instance (l :List aA):ML (List.map aA.cells l) l aA.cells:=⟨rfl⟩
instance : CE aA.cells (fun x:aA=>[.int .i64 x.kind,.str x.text,.int .i64 x.at_]):=⟨aA.aS⟩
instance : Ri aA.cells 3:=⟨aA.dK,aA.cells_one⟩
instance : TC aA aA.cells:=⟨trivial⟩
instance (l :List aj):ML (List.map aj.cells l) l aj.cells:=⟨rfl⟩
instance : CE aj.cells (fun x:aj=>[.list (List.map aA.cells x.ts),.int .i64 x.at_]):=⟨aj.aS⟩
instance : Ri aj.cells 2:=⟨aj.dK,aj.cells_one⟩
instance : TC aj aj.cells:=⟨trivial⟩
instance (l :List aB):ML (List.map aB.cells l) l aB.cells:=⟨rfl⟩
instance : CE aB.cells (fun x:aB=>[.int .i64 x.at_,.int .i64 x.code]):=⟨aB.aS⟩
instance : Ri aB.cells 2:=⟨aB.dK,aB.cells_one⟩
instance : TC aB aB.cells:=⟨trivial⟩
instance (l :List av):ML (av.bC l) l av.cells:=⟨av.bV l⟩
instance (l :List av):ML (List.map av.cells l) l av.cells:=⟨rfl⟩
instance : CE av.cells (fun x:av=>[.int .i64 x.kind,.bool x.lJ,.int .i64 x.mZ,.str x.pF,.list (av.bC x.dh),.list (List.map iC x.keys)]):=⟨av.aS⟩
instance : Ri av.cells 6:=⟨av.dK,av.cells_one⟩
instance : TC av av.cells:=⟨trivial⟩
instance (l :List ah):ML (ah.bC l) l ah.cells:=⟨ah.bV l⟩
instance (l :List ah):ML (List.map ah.cells l) l ah.cells:=⟨rfl⟩
instance : CE ah.cells (fun x:ah=>[.int .i64 x.kind,.str x.name,.int .i64 x.value.kind,.bool x.value.lJ,.int .i64 x.value.mZ,.str x.value.pF,.list (av.bC x.value.dh),.list (List.map iC x.value.keys),.list (ah.bC x.args),.list (List.map iC x.keys)]):=⟨ah.aS⟩
instance : Ri ah.cells 10:=⟨ah.dK,ah.cells_one⟩
instance : TC ah ah.cells:=⟨trivial⟩
instance (l :List aK):ML (List.map aK.cells l) l aK.cells:=⟨rfl⟩
instance : CE aK.cells (fun x:aK=>[.str x.text,.bool x.EM,.int .i64 x.expr.kind,.str x.expr.name,.int .i64 x.expr.value.kind,.bool x.expr.value.lJ,.int .i64 x.expr.value.mZ,.str x.expr.value.pF,.list (av.bC x.expr.value.dh),.list (List.map iC x.expr.value.keys),.list (ah.bC x.expr.args),.list (List.map iC x.expr.keys)]):=⟨aK.aS⟩
instance : Ri aK.cells 12:=⟨aK.dK,aK.cells_one⟩
instance : TC aK aK.cells:=⟨trivial⟩
instance (l :List bT):ML (List.map bT.cells l) l bT.cells:=⟨rfl⟩
instance : CE bT.cells (fun x:bT=>[.str x.name,.int .i64 x.value.kind,.bool x.value.lJ,.int .i64 x.value.mZ,.str x.value.pF,.list (av.bC x.value.dh),.list (List.map iC x.value.keys)]):=⟨bT.aS⟩
instance : Ri bT.cells 7:=⟨bT.dK,bT.cells_one⟩
instance : TC bT bT.cells:=⟨trivial⟩
instance (l :List bq):ML (List.map bq.cells l) l bq.cells:=⟨rfl⟩
instance : CE bq.cells (fun x:bq=>[.int .i64 x.code]):=⟨bq.aS⟩
instance : Ri bq.cells 1:=⟨bq.dK,bq.cells_one⟩
instance : TC bq bq.cells:=⟨trivial⟩
instance (l :List au):ML (au.bC l) l au.cells:=⟨au.bV l⟩
instance (l :List au):ML (List.map au.cells l) l au.cells:=⟨rfl⟩
instance : CE au.cells (fun x:au=>[.int .i64 x.kind,.list (au.bC x.elem)]):=⟨au.aS⟩
instance : Ri au.cells 2:=⟨au.dK,au.cells_one⟩
instance : TC au au.cells:=⟨trivial⟩
instance (l :List aO):ML (List.map aO.cells l) l aO.cells:=⟨rfl⟩
instance : CE aO.cells (fun x:aO=>[.str x.name,.int .i64 x.nG.kind,.list (au.bC x.nG.elem)]):=⟨aO.aS⟩
instance : Ri aO.cells 3:=⟨aO.dK,aO.cells_one⟩
instance : TC aO aO.cells:=⟨trivial⟩
instance : CE iC iC:=⟨fun _=>rfl⟩
instance : Ri iC 1:=⟨fun _=>rfl,fun _=>rfl⟩
instance : TC Str iC:=⟨trivial⟩
instance : CE Uo Uo:=⟨fun _=>rfl⟩
instance : Ri Uo 1:=⟨fun _=>rfl,fun _=>rfl⟩
instance : TC Int Uo:=⟨trivial⟩
instance : CE fG fG:=⟨fun _=>rfl⟩
instance : Ri fG 1:=⟨fun _=>rfl,fun _=>rfl⟩
instance : TC UInt8 fG:=⟨trivial⟩
instance : CE V7 V7:=⟨fun _=>rfl⟩
instance : Ri V7 1:=⟨fun _=>rfl,fun _=>rfl⟩
instance : TC Bool V7:=⟨trivial⟩
theorem zP {m:Nat} (h:qz (FK.pf Tryz.prog) m=true):cZ Tryz.prog m=true:=vM FK.pk h
theorem Z1 {R:Type} {x:Option R} {e:R→dL} {m:Nat} {a:List PV} {fn:Func} {c:Code} {env:Env} (cf:Cf) (hp:qz (FK.pf Tryz.prog) m=true) (hf:Tryz.prog.funcs[m]?=some fn) (hb:fn.body=some c) (hn:fn.ntmps=cf.n) (hl:Nat.ble a.length cf.n=true)
    (BP:Abs.settle (List.range a.length) (sU 0 a)=some env) (h:∀ r,WN Tryz.prog cf (.body fn.results.toList) R e (fun _=>[]) r (NX Tryz.prog cf (.body fn.results.toList) ⟨.w c [] env [],[]⟩) x:=by repeat' first | (show WN _ _ _ _ _ _ _ (NX _ _ _ _) _; conv=>arg @10; whnf) | intro _ | exact KR.mk (by kernel_rfl) | exact KB.mk (by first | assumption | rfl) | constructor | rfl | simp only [jW,List.map,PV.weak,PV.xq,dL.ret.injEq,av.aS,av.bV,ah.aS,ah.bV,au.aS,au.bV,Jt,aP,VE,bA,Si,aN]):CT Tryz.prog x e m a:=CT.of cf hp hf hb hn hl BP h
theorem Z2 {R:Type} {x:Option R} {e:R→dL} {m:Nat} {a:Nat→List PV} {c0:List PV} {c1:R→List PV} {fn:Func} {c:Code} {env:Nat→Env} (cf:Cf) (i:Nat) (hp:qz (FK.pf Tryz.prog) m=true) (hf:Tryz.prog.funcs[m]?=some fn) (hb:fn.body=some c) (hn:fn.ntmps=cf.n) (hl:∀ b,Nat.ble (a b).length cf.n=true)
    (BP:∀ b,Abs.settle (List.range (a b).length) (sU 0 (a b))=some (env b)) (h:∀ b r,WN Tryz.prog cf (.body fn.results.toList) R e (fun r=>[.box b (c1 r)]) r (NX Tryz.prog cf (.body fn.results.toList) ⟨.w c [] (env b) [.box b c0],[(i,0)]⟩) x:=by repeat' first | (show WN _ _ _ _ _ _ _ (NX _ _ _ _) _; conv=>arg @10; whnf) | intro _ | exact KR.mk (by kernel_rfl) | exact KB.mk (by first | assumption | rfl) | constructor | rfl | simp only [jW,List.map,PV.weak,PV.xq,dL.ret.injEq,av.aS,av.bV,ah.aS,ah.bV,au.aS,au.bV,Jt,aP,VE,bA,Si,aN]):CB Tryz.prog x e m a c0 c1:=CB.of cf i hp hf hb hn hl BP h
theorem D8 {b:Nat} {v p:Value} {bs:List UInt8} (hp:p=Value.pointer none∨p=.pointer (some ⟨b,0,none⟩)) {R:dL→List aQ→Prop} (h:R (.ret (.tuple [])) [.ku b 72 [.val (.pointer (some ⟨b,0,none⟩)),.own v (bs.map fG)],.row v bs.length 1 5]):
    AC Tryz.prog 60 [.val (.pointer (some ⟨b,0,none⟩))] [.ku b 72 [.val p,.own v (bs.map fG)],.row v bs.length 1 5] R:=by
  obtain ⟨j,hj1,hj2⟩:=inB; rcases hp with rfl | rfl
  · skip
    refine AC.jC 20 [] [0] Tryz.func60 rfl rfl rfl rfl rfl ?_; refine AW.seq ?_; refine AW.region ?_; refine AR.step rfl rfl rfl (AO.calc' rfl ?_); refine AR.step rfl rfl rfl (AO.nilCheck rfl rfl ?_); refine AR.step rfl rfl rfl (AO.bI rfl rfl zk ?_); refine AR.step rfl rfl rfl (AO.iV (i:=0) rfl rfl rfl Hq rfl rfl ?_); refine AR.step rfl rfl rfl (AO.KX rfl F6 rfl rfl ?_); refine AR.nil [0,6] rfl ?_; refine AW.cond rfl (fun h1=>?_) (fun h1=>?_)
    · refine AW.region ?_; refine AR.step rfl rfl rfl (AO.calc' rfl ?_); refine AR.step rfl rfl rfl (AO.calc' rfl ?_); refine AR.step rfl rfl rfl (AO.WA (i:=0) rfl F6 P5 hj1 hj2 rfl rfl rfl ?_); refine AR.step rfl rfl rfl (AO.R8 rfl rfl rfl rfl Tryz.func96 (by kernel_rfl) (by kernel_rfl) (by kernel_rfl) (by kernel_rfl) rfl ?_); refine AR.step rfl rfl rfl (AO.Sy (i:=0) rfl P5 F6 hj1 rfl rfl rfl ag6 ?_); refine AR.step rfl rfl rfl (AO.nilCheck rfl rfl ?_); refine AR.step rfl rfl rfl (AO.bI rfl rfl zk ?_); refine AR.bR rfl rfl (AO.pJ (i:=0) rfl rfl rfl Hq rfl rfl rfl rfl rfl ?_); refine AR.nil [] rfl ?_; exact ⟨rfl,[],rfl,_,List.Sublist.refl _,h⟩
    · cases h1
  · skip
    refine AC.jC 20 [] [0] Tryz.func60 rfl rfl rfl rfl rfl ?_; refine AW.seq ?_; refine AW.region ?_; refine AR.step rfl rfl rfl (AO.calc' rfl ?_); refine AR.step rfl rfl rfl (AO.nilCheck rfl rfl ?_); refine AR.step rfl rfl rfl (AO.bI rfl rfl zk ?_); refine AR.step rfl rfl rfl (AO.iV (i:=0) rfl rfl rfl Hq rfl rfl ?_); refine AR.step rfl rfl rfl (AO.KX rfl F6 rfl rfl ?_); refine AR.nil [0,6] rfl ?_; refine AW.cond rfl (fun h1=>?_) (fun h1=>?_)
    · cases h1
    · refine AW.seq ?_; refine AW.region ?_; refine AR.step rfl rfl rfl (AO.calc' rfl ?_); refine AR.step rfl rfl rfl (AO.nilCheck rfl rfl ?_); refine AR.step rfl rfl rfl (AO.bI rfl rfl zk ?_); refine AR.step rfl rfl rfl (AO.iV (i:=0) rfl rfl rfl Hq rfl rfl ?_); refine AR.step rfl rfl rfl (AO.calc' rfl ?_); refine AR.step rfl rfl rfl (AO.Ii rfl F6 hj1 rfl rfl ?_); refine AR.nil [19] rfl ?_; refine AW.cond rfl (fun h2=>?_) (fun h2=>?_)
      · cases h2
      · refine AW.skip ?_; exact ⟨rfl,[],rfl,_,List.Sublist.refl _,h⟩
theorem D9 {b:Nat} {v:Value} {bs r:List UInt8} {c:UInt8} (hv:app bs [c]=some r) {R:dL→List aQ→Prop} (h:∀ v',R (.ret (.val .nilIface)) [.IU b v' 72 5 r]):AC Tryz.prog 28 [.val (.pointer (some ⟨b,0,none⟩)),.int .u8 (c.toNat:Int)] [.IU b v 72 5 bs] R:=by
  refine AC.IU fun p hp hroom=>?_; refine AC.jC 17 [.tmp 4] [0,1] Tryz.func28 rfl rfl rfl rfl rfl ?_; refine AW.seq ?_; refine AW.region ?_; refine AR.step rfl rfl rfl (AO.calc' rfl ?_); refine AR.nil [0,1] rfl ?_; refine AW.seq ?_; refine AW.region ?_; refine AR.step rfl rfl rfl (AO.calc' rfl ?_); refine AR.step rfl rfl rfl (AO.call rfl _ rfl rfl Y9 (D8 hp ?_)); refine AR.nil [0,1] rfl ?_; refine AW.seq ?_; refine AW.region ?_; refine AR.step rfl rfl rfl (AO.calc' rfl ?_); refine AR.step rfl rfl rfl (AO.calc' rfl ?_); refine AR.step rfl rfl rfl (AO.nilCheck rfl rfl ?_); refine AR.step rfl rfl rfl (AO.bI rfl rfl sD ?_); refine AR.step rfl rfl rfl (AO.iV (i:=0) rfl rfl rfl Ca rfl rfl ?_); refine AR.step rfl rfl rfl (AO.calc' rfl ?_); refine AR.step rfl rfl rfl (AO.buildSlice rfl J_ rfl rfl rfl ?_); refine AR.step rfl rfl rfl (AO.JQ (i:=1) hv rfl rfl rfl rfl rfl (Gi.list rfl Pp (by simp [fG]) (by simp [fG,PV.one])) rfl J_ (fun v' s1 hs1 hr1=>?_)); cases hs1; refine AR.step rfl rfl rfl (AO.nilCheck rfl rfl ?_); refine AR.step rfl rfl rfl (AO.bI rfl rfl sD ?_); refine AR.bR rfl rfl (AO.pJ (i:=0) rfl rfl rfl Ca rfl rfl rfl rfl rfl ?_); refine AR.nil [1] rfl ?_; refine AW.seq ?_; refine AW.region ?_; refine AR.step rfl rfl rfl (AO.calc' rfl ?_); refine AR.nil [4] rfl ?_; refine AW.ret ?_; exact ⟨rfl,_,⟨_,_,rfl,rfl,rfl⟩,_,List.Sublist.refl _,_,v',r,rfl,.inr rfl,hr1 hroom,h v'⟩
theorem V3 {b:Nat} {v:Value} {bs r:List UInt8} {s:List UInt8} (hv:app bs s=some r) {R:dL→List aQ→Prop} (h:∀ v',R (.ret (.tuple [.int .i64 (s.length:Int),.val .nilIface])) [.IU b v' 72 5 r]):AC Tryz.prog 36 [.val (.pointer (some ⟨b,0,none⟩)),.str s] [.IU b v 72 5 bs] R:=by
  refine AC.IU fun p hp hroom=>?_; refine AC.jC 19 [.tmp 4,.tmp 5] [0,1] Tryz.func36 rfl rfl rfl rfl rfl ?_; refine AW.seq ?_; refine AW.region ?_; refine AR.step rfl rfl rfl (AO.calc' rfl ?_); refine AR.step rfl rfl rfl (AO.calc' rfl ?_); refine AR.nil [0,1] rfl ?_; refine AW.seq ?_; refine AW.region ?_; refine AR.step rfl rfl rfl (AO.calc' rfl ?_); refine AR.step rfl rfl rfl (AO.call rfl _ rfl rfl Y9 (D8 hp ?_)); refine AR.nil [0,1] rfl ?_; refine AW.seq ?_; refine AW.region ?_; refine AR.step rfl rfl rfl (AO.calc' rfl ?_); refine AR.step rfl rfl rfl (AO.calc' rfl ?_); refine AR.step rfl rfl rfl (AO.nilCheck rfl rfl ?_); refine AR.step rfl rfl rfl (AO.bI rfl rfl sD ?_); refine AR.step rfl rfl rfl (AO.iV (i:=0) rfl rfl rfl Ca rfl rfl ?_); refine AR.step rfl rfl rfl (AO.calc' rfl ?_); refine AR.step rfl rfl rfl (AO.JQ (i:=1) hv rfl rfl rfl rfl rfl (Gi.str qG) rfl J_ (fun v' s1 hs1 hr1=>?_)); cases hs1; refine AR.step rfl rfl rfl (AO.nilCheck rfl rfl ?_); refine AR.step rfl rfl rfl (AO.bI rfl rfl sD ?_); refine AR.bR rfl rfl (AO.pJ (i:=0) rfl rfl rfl Ca rfl rfl rfl rfl rfl ?_); refine AR.nil [1] rfl ?_; refine AW.seq ?_; refine AW.region ?_; refine AR.step rfl rfl rfl (AO.calc' rfl ?_); refine AR.step rfl rfl rfl (AO.tZ rfl rfl rfl rfl qG rfl ?_); refine AR.step rfl rfl rfl (AO.calc' rfl ?_); refine AR.step rfl rfl rfl (AO.calc' rfl ?_); refine AR.nil [4,5] rfl ?_; refine AW.ret ?_; exact ⟨rfl,_,⟨_,_,rfl,rfl,_,_,rfl,rfl,rfl⟩,_,List.Sublist.refl _,_,v',r,rfl,.inr rfl,hr1 hroom,h v'⟩
theorem Py {b:Nat} {v:Value} {bs:List UInt8} {R:dL→List aQ→Prop} (h:R (.ret (.int .i64 (bs.length:Int))) [.IU b v 72 5 bs]):AC Tryz.prog 43 [.val (.pointer (some ⟨b,0,none⟩))] [.IU b v 72 5 bs] R:=by
  refine AC.IU fun p hp hroom=>?_; refine AC.jC 8 [.tmp 2] [0] Tryz.func43 rfl rfl rfl rfl rfl ?_; refine AW.seq ?_; refine AW.region ?_; refine AR.step rfl rfl rfl (AO.calc' rfl ?_); refine AR.nil [0] rfl ?_; refine AW.seq ?_; refine AW.region ?_; refine AR.step rfl rfl rfl (AO.calc' rfl ?_); refine AR.step rfl rfl rfl (AO.nilCheck rfl rfl ?_); refine AR.step rfl rfl rfl (AO.bI rfl rfl sD ?_); refine AR.step rfl rfl rfl (AO.iV (i:=0) rfl rfl rfl Ca rfl rfl ?_); refine AR.step rfl rfl rfl (AO.fI (l:=bs) rfl rfl rfl rfl Pp rfl rfl ?_); refine AR.step rfl rfl rfl (AO.calc' rfl ?_); refine AR.nil [2] rfl ?_; refine AW.ret ?_; exact ⟨rfl,_,⟨_,_,rfl,rfl,rfl⟩,_,List.Sublist.refl _,p,v,bs,rfl,hp,hroom,h⟩
theorem DL {b:Nat} {v:Value} {bs:List UInt8} {R:dL→List aQ→Prop} (h:R (.ret (.str bs)) []):AC Tryz.prog 39 [.val (.pointer (some ⟨b,0,none⟩))] [.IU b v 72 5 bs] R:=by
  refine AC.acC fun p hroom=>?_; refine AC.jC 14 [.tmp 2] [0] Tryz.func39 rfl rfl rfl rfl rfl ?_; refine AW.seq ?_; refine AW.region ?_; refine AR.step rfl rfl rfl (AO.calc' rfl ?_); refine AR.nil [0] rfl ?_; refine AW.seq ?_; refine AW.draw 10 mixed (by kernel_rfl) rfl ?_; refine Ev.cons rfl rfl rfl (AO.calc' rfl ⟨rfl,rfl⟩) ?_; refine Ev.cons rfl rfl rfl (AO.nilCheck rfl rfl ⟨rfl,rfl⟩) ?_; refine Ev.cons rfl rfl rfl (AO.bI rfl rfl sD ⟨rfl,rfl⟩) ?_; refine Ev.cons rfl rfl rfl (AO.iV (i:=0) rfl rfl rfl Ca rfl rfl ⟨rfl,rfl⟩) ?_; refine Ev.cons rfl rfl rfl (AO.sliceData rfl rfl rfl rfl hroom ⟨rfl,rfl⟩) ?_; refine Ev.cons rfl rfl rfl (AO.calc' rfl ⟨rfl,rfl⟩) ?_; refine Ev.cons rfl rfl rfl (AO.nilCheck rfl rfl ⟨rfl,rfl⟩) ?_; refine Ev.cons rfl rfl rfl (AO.bI rfl rfl sD ⟨rfl,rfl⟩) ?_; refine Ev.cons rfl rfl rfl (AO.iV (i:=0) rfl rfl rfl Ca rfl rfl ⟨rfl,rfl⟩) ?_; refine Ev.cons rfl rfl rfl (AO.fI (l:=bs) rfl rfl rfl rfl Pp rfl rfl ⟨rfl,rfl⟩) ?_; refine Ev.nil ?_; show AR _ _ _ _ _ _ _ _; refine AR.step rfl rfl rfl (AO.unsafeString rfl rfl rfl rfl YH ahC rfl rfl rfl ?_); refine AR.step rfl rfl rfl (AO.calc' rfl ?_); refine AR.nil [2] rfl ?_; refine AW.ret ?_; exact ⟨rfl,_,⟨_,_,rfl,rfl,rfl⟩,[],List.nil_sublist _,h⟩
theorem Nj {b:Nat} {q:PV} {v p:Value} {bs:List UInt8} (hp:p=Value.pointer none∨p=.pointer (some ⟨b,1,none⟩)) {R:dL→List aQ→Prop} (h:R (.ret (.tuple [])) [.row v (List.length bs) 1 5,.ku b 74 [q,.val (.pointer (some ⟨b,1,none⟩)),.own v (List.map fG bs)]]):
    AC Tryz.prog 60 [.val (.pointer (some ⟨b,1,none⟩))] [.row v (List.length bs) 1 5,.ku b 74 [q,.val p,.own v (List.map fG bs)]] R:=by
  obtain ⟨j,hj1,hj2⟩:=inB; rcases hp with rfl | rfl
  · skip
    refine AC.jC 20 [] [0] Tryz.func60 rfl rfl rfl rfl rfl ?_; refine AW.seq ?_; refine AW.region ?_; refine AR.step rfl rfl rfl (AO.calc' rfl ?_); refine AR.step rfl rfl rfl (AO.nilCheck rfl rfl ?_); refine AR.step rfl rfl rfl (AO.bI rfl rfl zk ?_); refine AR.step rfl rfl rfl (AO.iV (i:=1) rfl rfl rfl Hq rfl rfl ?_); refine AR.step rfl rfl rfl (AO.KX rfl F6 rfl rfl ?_); refine AR.nil [0,6] rfl ?_; refine AW.cond rfl (fun h1=>?_) (fun h1=>?_)
    · refine AW.region ?_; refine AR.step rfl rfl rfl (AO.calc' rfl ?_); refine AR.step rfl rfl rfl (AO.calc' rfl ?_); refine AR.step rfl rfl rfl (AO.TQ (i:=1) (n:=1) rfl F6 P5 hj1 hj2 rfl rfl rfl ?_); refine AR.step rfl rfl rfl (AO.R8 rfl rfl rfl rfl Tryz.func96 (by kernel_rfl) (by kernel_rfl) (by kernel_rfl) (by kernel_rfl) rfl ?_); refine AR.step rfl rfl rfl (AO.Qy (i:=1) rfl P5 F6 hj1 rfl rfl rfl ag5 ?_); refine AR.step rfl rfl rfl (AO.nilCheck rfl rfl ?_); refine AR.step rfl rfl rfl (AO.bI rfl rfl zk ?_); refine AR.bR rfl rfl (AO.pJ (i:=1) rfl rfl rfl Hq rfl rfl rfl rfl rfl ?_); refine AR.nil [] rfl ?_; exact ⟨rfl,[],rfl,_,List.Sublist.refl _,h⟩
    · cases h1
  · skip
    refine AC.jC 20 [] [0] Tryz.func60 rfl rfl rfl rfl rfl ?_; refine AW.seq ?_; refine AW.region ?_; refine AR.step rfl rfl rfl (AO.calc' rfl ?_); refine AR.step rfl rfl rfl (AO.nilCheck rfl rfl ?_); refine AR.step rfl rfl rfl (AO.bI rfl rfl zk ?_); refine AR.step rfl rfl rfl (AO.iV (i:=1) rfl rfl rfl Hq rfl rfl ?_); refine AR.step rfl rfl rfl (AO.KX rfl F6 rfl rfl ?_); refine AR.nil [0,6] rfl ?_; refine AW.cond rfl (fun h1=>?_) (fun h1=>?_)
    · cases h1
    · refine AW.seq ?_; refine AW.region ?_; refine AR.step rfl rfl rfl (AO.calc' rfl ?_); refine AR.step rfl rfl rfl (AO.nilCheck rfl rfl ?_); refine AR.step rfl rfl rfl (AO.bI rfl rfl zk ?_); refine AR.step rfl rfl rfl (AO.iV (i:=1) rfl rfl rfl Hq rfl rfl ?_); refine AR.step rfl rfl rfl (AO.calc' rfl ?_); refine AR.step rfl rfl rfl (AO.Ii rfl F6 hj1 rfl rfl ?_); refine AR.nil [19] rfl ?_; refine AW.cond rfl (fun h2=>?_) (fun h2=>?_)
      · cases h2
      · refine AW.skip ?_; exact ⟨rfl,[],rfl,_,List.Sublist.refl _,h⟩
theorem E8 {b:Nat} {q:PV} {v p:Value} {bs r:List UInt8} (hp:p=Value.pointer none∨p=.pointer (some ⟨b,1,none⟩)) (hroom:roomy v=true) {c:UInt8} (hv:app bs [c]=some r) {R:dL→List aQ→Prop} (h:∀ v',roomy v'=true→R (.ret (.val .nilIface)) [.row v' (List.length r) 1 5,.ku b 74 [q,.val (.pointer (some ⟨b,1,none⟩)),.own v' (List.map fG r)]]):AC Tryz.prog 28 [.val (.pointer (some ⟨b,1,none⟩)),.int .u8 (c.toNat:Int)] [.row v (List.length bs) 1 5,.ku b 74 [q,.val p,.own v (List.map fG bs)]] R:=by
  refine AC.jC 17 [.tmp 4] [0,1] Tryz.func28 rfl rfl rfl rfl rfl ?_; refine AW.seq ?_; refine AW.region ?_; refine AR.step rfl rfl rfl (AO.calc' rfl ?_); refine AR.nil [0,1] rfl ?_; refine AW.seq ?_; refine AW.region ?_; refine AR.step rfl rfl rfl (AO.calc' rfl ?_); refine AR.step rfl rfl rfl (AO.call rfl _ rfl rfl Y9 (Nj hp ?_)); refine AR.nil [0,1] rfl ?_; refine AW.seq ?_; refine AW.region ?_; refine AR.step rfl rfl rfl (AO.calc' rfl ?_); refine AR.step rfl rfl rfl (AO.calc' rfl ?_); refine AR.step rfl rfl rfl (AO.nilCheck rfl rfl ?_); refine AR.step rfl rfl rfl (AO.bI rfl rfl sD ?_); refine AR.step rfl rfl rfl (AO.iV (i:=1) rfl rfl rfl Ca rfl rfl ?_); refine AR.step rfl rfl rfl (AO.calc' rfl ?_); refine AR.step rfl rfl rfl (AO.buildSlice rfl J_ rfl rfl rfl ?_); refine AR.step rfl rfl rfl (AO.JQ (i:=0) hv rfl rfl rfl rfl rfl (Gi.list rfl Pp (by simp [fG]) (by simp [fG,PV.one])) rfl J_ (fun v' s1 hs1 hr1=>?_)); cases hs1; refine AR.step rfl rfl rfl (AO.nilCheck rfl rfl ?_); refine AR.step rfl rfl rfl (AO.bI rfl rfl sD ?_); refine AR.bR rfl rfl (AO.pJ (i:=1) rfl rfl rfl Ca rfl rfl rfl rfl rfl ?_); refine AR.nil [1] rfl ?_; refine AW.seq ?_; refine AW.region ?_; refine AR.step rfl rfl rfl (AO.calc' rfl ?_); refine AR.nil [4] rfl ?_; refine AW.ret ?_; exact ⟨rfl,_,⟨_,_,rfl,rfl,rfl⟩,_,List.Sublist.refl _,h v' (hr1 hroom)⟩
theorem aal {b:Nat} {q:PV} {v p:Value} {bs:List UInt8} {R:dL→List aQ→Prop} (h:R (.ret (.int .i64 (bs.length:Int))) [.row v (List.length bs) 1 5,.ku b 74 [q,.val p,.own v (List.map fG bs)]]):AC Tryz.prog 43 [.val (.pointer (some ⟨b,1,none⟩))] [.row v (List.length bs) 1 5,.ku b 74 [q,.val p,.own v (List.map fG bs)]] R:=by
  refine AC.jC 8 [.tmp 2] [0] Tryz.func43 rfl rfl rfl rfl rfl ?_; refine AW.seq ?_; refine AW.region ?_; refine AR.step rfl rfl rfl (AO.calc' rfl ?_); refine AR.nil [0] rfl ?_; refine AW.seq ?_; refine AW.region ?_; refine AR.step rfl rfl rfl (AO.calc' rfl ?_); refine AR.step rfl rfl rfl (AO.nilCheck rfl rfl ?_); refine AR.step rfl rfl rfl (AO.bI rfl rfl sD ?_); refine AR.step rfl rfl rfl (AO.iV (i:=1) rfl rfl rfl Ca rfl rfl ?_); refine AR.step rfl rfl rfl (AO.fI (l:=bs) rfl rfl rfl rfl Pp rfl rfl ?_); refine AR.step rfl rfl rfl (AO.calc' rfl ?_); refine AR.nil [2] rfl ?_; refine AW.ret ?_; exact ⟨rfl,_,⟨_,_,rfl,rfl,rfl⟩,_,List.Sublist.refl _,h⟩
theorem Td {b:Nat} {q:PV} {v p:Value} {bs:List UInt8} (hroom:roomy v=true) {R:dL→List aQ→Prop} (h:R (.ret (.str bs)) [.ku b 74 [q,.val p,.own v (List.map fG bs)]]):AC Tryz.prog 39 [.val (.pointer (some ⟨b,1,none⟩))] [.row v (List.length bs) 1 5,.ku b 74 [q,.val p,.own v (List.map fG bs)]] R:=by
  refine AC.jC 14 [.tmp 2] [0] Tryz.func39 rfl rfl rfl rfl rfl ?_; refine AW.seq ?_; refine AW.region ?_; refine AR.step rfl rfl rfl (AO.calc' rfl ?_); refine AR.nil [0] rfl ?_; refine AW.seq ?_; refine AW.draw 10 mixed (by kernel_rfl) rfl ?_; refine Ev.cons rfl rfl rfl (AO.calc' rfl ⟨rfl,rfl⟩) ?_; refine Ev.cons rfl rfl rfl (AO.nilCheck rfl rfl ⟨rfl,rfl⟩) ?_; refine Ev.cons rfl rfl rfl (AO.bI rfl rfl sD ⟨rfl,rfl⟩) ?_; refine Ev.cons rfl rfl rfl (AO.iV (i:=1) rfl rfl rfl Ca rfl rfl ⟨rfl,rfl⟩) ?_; refine Ev.cons rfl rfl rfl (AO.sliceData rfl rfl rfl rfl hroom ⟨rfl,rfl⟩) ?_; refine Ev.cons rfl rfl rfl (AO.calc' rfl ⟨rfl,rfl⟩) ?_; refine Ev.cons rfl rfl rfl (AO.nilCheck rfl rfl ⟨rfl,rfl⟩) ?_; refine Ev.cons rfl rfl rfl (AO.bI rfl rfl sD ⟨rfl,rfl⟩) ?_; refine Ev.cons rfl rfl rfl (AO.iV (i:=1) rfl rfl rfl Ca rfl rfl ⟨rfl,rfl⟩) ?_; refine Ev.cons rfl rfl rfl (AO.fI (l:=bs) rfl rfl rfl rfl Pp rfl rfl ⟨rfl,rfl⟩) ?_; refine Ev.nil ?_; show AR _ _ _ _ _ _ _ _; refine AR.step rfl rfl rfl (AO.NR rfl rfl rfl rfl YH ahC rfl rfl rfl ?_); refine AR.step rfl rfl rfl (AO.calc' rfl ?_); refine AR.nil [2] rfl ?_; refine AW.ret ?_; exact ⟨rfl,_,⟨_,_,rfl,rfl,rfl⟩,_,List.Sublist.refl _,h⟩
theorem Nk {b:Nat} {q:PV} {v p:Value} {bs:List UInt8} {R:dL→List aQ→Prop} (h:R (.ret (.tuple [])) [.ku b 74 [q,.val (.pointer none),.own (.slice none 0 0) (List.map fG [])]]):AC Tryz.prog 65 [.val (.pointer (some ⟨b,1,none⟩))] [.ku b 74 [q,.val p,.own v (List.map fG bs)]] R:=by
  refine AC.jC 8 [] [0] Tryz.func65 rfl rfl rfl rfl rfl ?_; refine AW.seq ?_; refine AW.region ?_; refine AR.step rfl rfl rfl (AO.calc' rfl ?_); refine AR.step rfl rfl rfl (AO.nilCheck rfl rfl ?_); refine AR.step rfl rfl rfl (AO.bI rfl rfl zk ?_); refine AR.bR rfl rfl (AO.pJ (i:=0) rfl rfl rfl Hq rfl rfl rfl rfl rfl ?_); refine AR.nil [0] rfl ?_; refine AW.region ?_; refine AR.step rfl rfl rfl (AO.calc' rfl ?_); refine AR.step rfl rfl rfl (AO.nilCheck rfl rfl ?_); refine AR.step rfl rfl rfl (AO.bI rfl rfl sD ?_); refine AR.bR rfl rfl (AO.pJ (i:=0) rfl rfl rfl Ca rfl rfl rfl rfl rfl ?_); refine AR.nil [] rfl ?_; exact ⟨rfl,[],rfl,_,List.Sublist.refl _,h⟩
instance NA :CT Tryz.prog (Iw) (fun r=>.ret (.str r)) 26 []:=by
  unfold Iw; exact Z1 ⟨3,[],[]⟩ Z Tryz.func26 Z Z Z Z
instance NP (s1:Str) (vC:Str):CT Tryz.prog (lF s1 vC) (fun r=>.ret (.bool r)) 59 [.str s1,.str vC]:=by
  unfold lF; exact Z1 ⟨18,[],[]⟩ Z Tryz.func59 Z Z Z Z
instance yN (s1:Str) (vC:Str):CT Tryz.prog (strings_HasPrefix s1 vC) (fun r=>.ret (.bool r)) 27 [.str s1,.str vC]:=by
  unfold strings_HasPrefix; exact Z1 ⟨8,[],[]⟩ Z Tryz.func27 Z Z Z Z
instance (s1 :Str) (n_ eZ):LE (kR s1 n_ eZ) (fun j p=>kR s1 j p) n_ eZ [] [] [] [0] (fun v w p=>[(5,iP p)]) (fun v w p s=>s):=⟨Z⟩
instance Yo (s1:Str) (bK:Int):CT Tryz.prog (wZ s1 bK) (fun r=>.ret (iP r)) 61 [.str s1,iP bK]:=by
  unfold wZ; exact Z1 ⟨27,[],[]⟩ Z Tryz.func61 Z Z Z Z
instance (s1 :Str) (n_ eZ mY):LE (fK s1 n_ eZ mY) (fun j p=>fK s1 j p.1 p.2) n_ (eZ,mY) [] [] [] [0] (fun v w p=>[(1,iP p.1),(5,iP p.2)]) (fun v w p s=>s):=⟨Z⟩
instance J3 (s1:Str) (bK:Int):CT Tryz.prog (vP s1 bK) (fun r=>.ret (iP r)) 29 [.str s1,iP bK]:=by
  unfold vP; exact Z1 ⟨31,[],[]⟩ Z Tryz.func29 Z Z Z Z
instance J2 (nH:Int):CT Tryz.prog (vO nH) (fun r=>.ret (.bool r)) 97 [.int .i32 nH]:=by
  unfold vO; exact Z1 ⟨9,[],[]⟩ Z Tryz.func97 Z Z Z Z
instance (s1 :Str) (vZ:UInt8→Option Bool) (n_ eZ):LE (oQ s1 vZ n_ eZ) (fun j p=>oQ s1 vZ j p) n_ eZ [] [] [] [0,2] (fun v w p=>[(1,iP p)]) (fun v w p s=>s):=⟨Z⟩
instance abv (s1:Str) (bK:Int) (vZ:UInt8→Option Bool) {DK:FuncId} {FJ:List PV} [ah7:CF1 Tryz.prog vZ (fun a0=>.int .u8 (a0.toNat:Int)) (fun b0=>.ret (.bool b0)) DK FJ]:CT Tryz.prog (rC s1 bK vZ) (fun r=>.ret (iP r)) 98 [.str s1,iP bK,.fn DK FJ]:=by
  unfold rC; exact Z1 ⟨21,[],[]⟩ Z Tryz.func98 Z Z Z Z
theorem Oe (s1:Str) (bK:Int) (vZ:UInt8→Option Bool) (DK:FuncId) (FJ:List PV) (acu:cZ Tryz.prog DK=true) (acv:∀ a0 b0,vZ a0=some b0→∀ {τ:List aQ} {Q:dL→List aQ→Prop},Q (.ret (.bool b0)) τ→AC Tryz.prog DK ([.int .u8 (a0.toNat:Int)] ++ FJ) τ Q) {r0:Int} (hf:rC s1 bK vZ=some r0) {τ:List aQ} {Q:dL→List aQ→Prop} (h:Q (.ret (iP r0)) τ):AC Tryz.prog 98 [.str s1,iP bK,.fn DK FJ] τ Q:=letI:CF1 Tryz.prog vZ (fun a0=>.int .u8 (a0.toNat:Int)) (fun b0=>.ret (.bool b0)) DK FJ:=⟨fun a=>⟨acu,fun {r} hx {τ Q} h=>acv a r hx h⟩⟩; CT.h hf h
instance C9 (c1:UInt8):CT Tryz.prog (oV c1) (fun r=>.ret (.bool r)) 99 [.int .u8 (c1.toNat:Int)]:=by
  unfold oV; exact Z1 ⟨5,[],[]⟩ Z Tryz.func99 Z Z Z Z
instance : CF1 Tryz.prog oV (fun c1=>.int .u8 (c1.toNat:Int)) (fun r=>.ret (.bool r)) 99 []:=⟨fun x0=>C9 x0⟩
instance aaH (c1:UInt8):CT Tryz.prog (pU c1) (fun r=>.ret (.bool r)) 166 [.int .u8 (c1.toNat:Int)]:=by
  unfold pU; exact Z1 ⟨21,[],[]⟩ Z Tryz.func166 Z Z Z Z
instance OB (c1:UInt8):CT Tryz.prog (pG c1) (fun r=>.ret (.bool r)) 168 [.int .u8 (c1.toNat:Int)]:=by
  unfold pG; exact Z1 ⟨9,[],[]⟩ Z Tryz.func168 Z Z Z Z
instance : CF1 Tryz.prog pG (fun c1=>.int .u8 (c1.toNat:Int)) (fun r=>.ret (.bool r)) 168 []:=⟨fun x0=>OB x0⟩
instance Nz (c1:UInt8):CT Tryz.prog (r_ c1) (fun r=>.ret (.bool r)) 240 [.int .u8 (c1.toNat:Int)]:=by
  unfold r_; exact Z1 ⟨9,[],[]⟩ Z Tryz.func240 Z Z Z Z
instance : CF1 Tryz.prog r_ (fun c1=>.int .u8 (c1.toNat:Int)) (fun r=>.ret (.bool r)) 240 []:=⟨fun x0=>Nz x0⟩
instance acW (aZ:Str) (bK:Int):CT Tryz.prog (Ao aZ bK) (fun r=>.ret (.tuple [.agg (mG r.1),iP r.2.1,iP r.2.2])) 167 [.str aZ,iP bK]:=by
  unfold Ao; exact Z1 ⟨23,[],[]⟩ Z Tryz.func167 Z Z Z Z
instance (vY :Str) (n_ eZ mY):LE (oU vY n_ eZ mY) (fun j p=>oU vY j p.1 p.2) n_ (eZ,mY) [] [] [] [0] (fun v w p=>[(3,iP p.1),(4,iP p.2)]) (fun v w p s=>s):=⟨Z⟩
instance abw (vY:Str):CT Tryz.prog (Br vY) (fun r=>.ret (.bool r)) 241 [.str vY]:=by
  unfold Br; exact Z1 ⟨25,[],[]⟩ Z Tryz.func241 Z Z Z Z
instance aaG (aZ:Str) (bK:Int):CT Tryz.prog (vN aZ bK) (fun r=>.ret (.tuple [.agg (mG r.1),iP r.2.1,iP r.2.2])) 169 [.str aZ,iP bK]:=by
  unfold vN; exact Z1 ⟨44,[],[]⟩ Z Tryz.func169 Z Z Z Z
instance aef (c1:UInt8):CT Tryz.prog (sj c1) (fun r=>.ret (iP r)) 310 [.int .u8 (c1.toNat:Int)]:=by
  unfold sj; exact Z1 ⟨31,[],[]⟩ Z Tryz.func310 Z Z Z Z
instance KM (aZ:Str) (bK:Int):CT Tryz.prog (tJ aZ bK) (fun r=>.ret (.tuple [.int .u8 (r.1.toNat:Int),iP r.2])) 242 [.str aZ,iP bK]:=by
  unfold tJ; exact Z1 ⟨61,[],[]⟩ Z Tryz.func242 Z Z Z Z
instance OA (aZ:Str) (bK:Int):CT Tryz.prog (xR aZ bK) (fun r=>.ret (.bool r)) 243 [.str aZ,iP bK]:=by
  unfold xR; exact Z1 ⟨32,[],[]⟩ Z Tryz.func243 Z Z Z Z
instance acV (aZ:Str) (bK:Int):CT Tryz.prog (Am aZ bK) (fun r=>.ret (.tuple [.agg (mG r.1),iP r.2.1,iP r.2.2])) 170 [.str aZ,iP bK]:=⟨zP rfl,fun {r} hf {τ Q} h=>by
 obtain ⟨r0,r1,r2⟩:=r; unfold Am at hf; refine BN 68 [.cell 4 116,.tmp 5,.tmp 6] [0,1] Tryz.func170 Z Z Z Z Z (W 0 Z (AS Z (AO.bW Z Yy (fun b4=>(U 2 Z (AS Z (AO.JR (eu:=5) Z Yu Z (fun b7=>(J 3 Z (LK3 (fun i1 b1 v1=>[(0,.str aZ),(1,iP bK),(4,pP b4),(7,pP b7),(8,iP i1)]) (fun i1 b1 v1=>[.IU b7 v1 72 5 b1,.box b4 [iP 0,.str ([]:Str),iP 0]]) (fun dQ i1 b1 v1=>ou aZ bK dQ i1 b1=some (r0,r1,r2)) BIG (bL (bK + 1)) [] (.slice none 0 0) Z Z hf (fun _ _ _ hz=>fC hz) ?_)))))))))); intro dQ i1 b1 v1 hf; rw [ou] at hf; refine W 2 Z (AS Z (AO.tZ Z Z Z Z qG Z (J 1 Z (C hf Z (fun h1 hf=>?_) fun h1 hf=>?_))))
 ·
  refine B1 hf fun c1 h2 hf=>W 2 Z (AS Z (AO.w_ h2 Z qG Z Z (J 4 Z (C hf Z (fun h3 hf=>?_) fun h3 hf=>?_))))
  ·
   refine W 0 Z (CL Z (AC.one 0 Z (Py ⟨_,Z,(J 1 Z (C hf Z (fun h4 hf=>?_) fun h4 hf=>?_))⟩)))
   · cases hf; exact Wx 4 [1] Z Z (ZC [1] Z Z h)
   refine W 0 Z (CL Z (AC.Qp 0 Z (DL ?_))); cases hf; exact Rx 7 [0] Z Z (ZC [0] Z Z h)
  refine V 3 Z (C hf Z (fun h5 hf=>?_) fun h5 hf=>?_)
  · cases hf; exact Wx 4 [1] Z Z (ZC [1] Z Z h)
  refine V 3 Z (C hf Z (fun h6 hf=>?_) fun h6 hf=>?_)
  ·
   obtain ⟨x1,n1,h7,hf⟩:=f_ hf; refine W 2 Z (CL Z ((KM _ _).h h7 ?_)); refine B1 hf fun b2 h9 hf=>U 8 Z (AR.rF 4 52 56 true [0,1,4,7,8,10,11] b2 Z Z (fun h8=>?_) (fun h8=>?_) ?_)
   · refine IT 52 h8 h9 Z fun h9=>?_; refine BR h9 fun x2 h10 h9=>?_; refine U 2 Z (GO Z (AO.call Z _ Z Z aeG ((OA _ _).h h10 ?_))); cases h9; exact BG 1 Z (En [56,0,1,4,7,8,10,11] Z)
   · refine IF 52 h8 h9 Z fun h9=>?_; cases h9; exact BG 4 Z (En [56,0,1,4,7,8,10,11] Z)
   refine J 1 Z (C hf Z (fun h11 hf=>?_) fun h11 hf=>?_)
   · cases hf; exact Wx 4 [1] Z Z (ZC [1] Z Z h)
   refine V 3 Z (C hf Z (fun h12 hf=>?_) fun h12 hf=>?_)
   · cases hf; exact Wx 4 [1] Z Z (ZC [1] Z Z h)
   refine B1 hf fun b3 Gc hf=>W 1 Z (CL Z (AC.one 0 Z (D9 Gc (fun v2=>⟨_,Z,?_⟩)))); exact N 4 Z ⟨(bL (i1 + n1)),b3,v2,Z,Z,Z,hf⟩
  refine B1 hf fun b4 FW hf=>W 1 Z (CL Z (AC.one 0 Z (D9 FW (fun v3=>⟨_,Z,?_⟩)))); exact N 3 Z ⟨(bL (i1 + 1)),b4,v3,Z,Z,Z,hf⟩
 cases hf; exact Wx 4 [1] Z Z (ZC [1] Z Z h)⟩
instance (aZ :Str) (bK:Int) (n_ eZ):LE (iE aZ bK n_ eZ) (fun j p=>iE aZ bK j p) n_ eZ [] [] [] [0,1,4,10,11] (fun v w p=>[(12,iP p)]) (fun v w p s=>s):=⟨Z⟩
instance X4 (aZ:Str) (bK:Int):CT Tryz.prog (rD aZ bK) (fun r=>.ret (.tuple [.agg (mG r.1),iP r.2.1,iP r.2.2])) 171 [.str aZ,iP bK]:=by
  unfold rD; exact Z1 ⟨63,[],[]⟩ Z Tryz.func171 Z Z Z Z
instance Oz (aZ:Str) (bK:Int):CT Tryz.prog (xQ aZ bK) (fun r=>.ret (.tuple [.agg (mG r.1),iP r.2.1,iP r.2.2])) 100 [.str aZ,iP bK]:=by
  unfold xQ; exact Z1 ⟨44,[],[]⟩ Z Tryz.func100 Z Z Z Z
instance JZ (op1:Str) (gy:Int):CT Tryz.prog (rE op1 gy) (fun r=>.ret (iP r)) 101 [.str op1,iP gy]:=by
  unfold rE; exact Z1 ⟨18,[],[]⟩ Z Tryz.func101 Z Z Z Z
instance aaI (aZ:Str):CT Tryz.prog (lT aZ) (fun r=>.ret (.tuple [.list (List.map aA.cells r.1),iP r.2.1,iP r.2.2])) 62 [.str aZ]:=⟨zP rfl,fun {r} hf {τ Q} h=>by
 obtain ⟨r0,r1,r2⟩:=r; unfold lT at hf; refine BN 84 [.tmp 2,.tmp 3,.tmp 4] [0] Tryz.func62 Z Z Z Z Z (W 0 Z (AS Z (AO.jO Z Z (U 3 Z (AS Z (AO.tZ Z Z Z Z qG Z (J 1 Z (C hf Z (fun h1 hf=>?_) fun h1 hf=>?_))))))))
 · refine W 0 Z (AS Z (AO.jO Z Z ?_)); cases hf; exact N 2 Z (Y Z h)
 refine W 5 Z (AS Z (AO.WR Z qG Z (fun ag_=>(J 0 Z (AW.row 3 116 (LK5 (fun dx v1 iR gy pos1=>[(0,.str aZ),(5,.own v1 (List.map aA.cells dx)),(6,.fn 97 []),(7,iP iR),(8,iP gy),(18,pP ag_)]) (fun dx v1 iR gy pos1=>[.row v1 (List.map aA.cells dx).length 3 116,.obj ag_ (.stringIter ⟨List.toArray aZ⟩ pos1)]) (fun dQ dx v1 iR gy pos1=>gY aZ dQ dx iR gy pos1=some (r0,r1,r2)) BIG [] (.slice none 0 0) 0 0 0 Z Z hf (fun _ _ _ _ _ hz=>fC hz) ?_)))))); intro dQ dx v1 iR gy pos1 hf; rw [gY] at hf; rcases Bool.eq_false_or_eq_true (decide (pos1 < aZ.length)) with h2 | h2
 ·
  replace hf:=jP h2 hf; refine W 0 Z (AS Z (AO.Zl (i:=1) Z Z Z h2 (J 1 Z (AW.cond Z (fun h3=>?_) (fun h3=>?_)))))
  ·
   refine B1 hf fun b1 h5 hf=>W 8 Z (AR.rF 4 26 30 false [0,5,6,7,8,9,10,18] b1 Z Z (fun h4=>?_) (fun h4=>?_) ?_)
   · refine IF 26 h4 h5 Z fun h5=>?_; refine BR h5 fun x1 h6 h5=>?_; refine U 2 Z (GO Z (AO.call Z _ Z Z agG ((J2 _).h h6 ?_))); cases h5; exact BG 1 Z (En [30,0,5,6,7,8,9,10,18] Z)
   · refine IT 26 h4 h5 Z fun h5=>?_; cases h5; exact BG 4 Z (En [30,0,5,6,7,8,9,10,18] Z)
   refine J 0 Z (C hf Z (fun h7 hf=>?_) fun h7 hf=>?_)
   · exact M 0 Z ⟨dx,v1,iR,gy,(pos1 + (dec aZ pos1).2),Z,Z,Z,hf⟩
   refine V 2 Z (C hf Z (fun h8 hf=>?_) fun h8 hf=>?_)
   · refine B1 hf fun xP h9 hf=>W 2 Z (CL Z (Oe _ _ oV 99 [] agF (fun _ _ hz=>(C9 _).h hz) h9 ?_)); exact N 1 Z ⟨dx,v1,xP,gy,(pos1 + (dec aZ pos1).2),Z,Z,Z,hf⟩
   refine V 2 Z (C hf Z (fun h10 hf=>?_) fun h10 hf=>?_)
   ·
    refine B1 hf fun b2 h12 hf=>W 3 Z (AR.rF 14 40 54 true [0,5,6,7,8,9,18] b2 Z Z (fun h11=>?_) (fun h11=>?_) ?_)
    ·
     replace h12:=jP h11 h12; refine Is 40 h11 Z (U 1 Z (GO Z (AO.fI (l:=dx) Z Z Z Z JD Z Z ?_))); refine BR h12 fun b3 FW h12=>?_; refine U 2 Z (AR.rF 9 44 53 false [0,5,6,7,8,9,18,40] b3 Z Z (fun Gc=>?_) (fun Gc=>?_) ?_)
     · replace FW:=ji Gc FW; refine Is 44 Gc Z (U 2 Z (GO Z (AO.fI (l:=dx) Z Z Z Z JD Z Z ?_))); refine B1 FW fun e1 Sv FW=>U 1 Z (GO Z (AO.dP Sv Z Z Z Z JD (aA.aS _) Z ?_)); cases FW; exact BG 4 Z (En [53,0,5,6,7,8,9,18,40] Z)
     · refine IT 44 Gc FW Z fun FW=>?_; cases FW; exact BG 9 Z (En [53,0,5,6,7,8,9,18,40] Z)
     cases h12; exact BG 1 Z (En [54,0,5,6,7,8,9,18] Z)
    · refine IF 40 h11 h12 Z fun h12=>?_; cases h12; exact BG 14 Z (En [54,0,5,6,7,8,9,18] Z)
    refine J 0 Z (C hf Z (fun h16 hf=>?_) fun h16 hf=>?_)
    · refine W 3 rfl (AS rfl (AO.bF (List.map aA.cells [(aA.mk 5 ([]:Str) (pos1:Int))]) rfl Jg rfl rfl rfl (by first | rfl | simp only [List.map,aA.aS]) ?_)); refine B1 hf fun wE Yd hf=>AS Z (AO.wC (i:=0) (l:=dx) (m:=[(aA.mk 5 ([]:Str) (pos1:Int))]) Yd Z Z Z Z Z Z Z Jg JD Z Z Z (aA.dK) (aA.cells_one) (by decide) (fun v2 s1 hs1=>?_)); cases hs1; exact N 1 Z ⟨wE,v2,iR,gy,(pos1 + (dec aZ pos1).2),Z,Z,Z,hf⟩
    exact M 0 Z ⟨dx,v1,iR,gy,(pos1 + (dec aZ pos1).2),Z,Z,Z,hf⟩
   obtain ⟨x2,ql,e2,h18,hf⟩:=qy hf; refine W 2 Z (CL Z ((Oz _ _).h h18 (U 4 Z (AS Z (AO.bW Z Yy (fun b11=>(Rw 5 [0] Z Z (C hf Z (fun h19 hf=>?_) fun h19 hf=>?_))))))))
   · refine W 2 Z (AS Z (AO.jO Z Z ?_)); cases hf; exact N 2 Z (Y Z h)
   refine Ww 3 [0] Z Z (C hf Z (fun h20 hf=>?_) fun h20 hf=>?_)
   · refine B1 hf fun R6 h21 hf=>Wr 3 [0] rfl rfl (CL rfl ((JZ _ _).h h21 (Rr 3 [0] rfl rfl (AS rfl (AO.bF (List.map aA.cells [x2]) rfl Jg rfl rfl rfl (by first | rfl | simp only [List.map,aA.aS]) ?_))))); refine B1 hf fun W9 h22 hf=>AS Z (AO.wC (i:=1) (l:=dx) (m:=[x2]) h22 Z Z Z Z Z Z Z Jg JD Z Z Z (aA.dK) (aA.cells_one) (by decide) (fun v3 s2 hs2=>?_)); cases hs2; refine BG 3 Z (AR.drop1 ?_); exact N 0 Z ⟨W9,v3,ql,R6,(pos1 + (dec aZ pos1).2),Z,Z,Z,hf⟩
   refine Wr 2 [0] rfl rfl (AS rfl (AO.bF (List.map aA.cells [x2]) rfl Jg rfl rfl rfl (by first | rfl | simp only [List.map,aA.aS]) ?_)); refine B1 hf fun Ze h23 hf=>AS Z (AO.wC (i:=1) (l:=dx) (m:=[x2]) h23 Z Z Z Z Z Z Z Jg JD Z Z Z (aA.dK) (aA.cells_one) (by decide) (fun v4 s3 hs3=>?_)); cases hs3; refine BG 3 Z (AR.drop1 ?_); exact N 0 Z ⟨Ze,v4,ql,gy,(pos1 + (dec aZ pos1).2),Z,Z,Z,hf⟩
  cases h3
 replace hf:=ji h2 hf; refine W 0 Z (AS Z (AO.Xb (i:=1) Z Z Z h2 (J 1 Z (AW.cond Z (fun Xp=>?_) (fun Xp=>?_)))))
 · cases Xp
 cases hf; exact M 4 Z (Y Z h)⟩
instance Yn (c1:UInt8):CT Tryz.prog (tF c1) (fun r=>.ret (.bool r)) 388 [.int .u8 (c1.toNat:Int)]:=by
  unfold tF; exact Z1 ⟨21,[],[]⟩ Z Tryz.func388 Z Z Z Z
instance Nw (c1:UInt8):CT Tryz.prog (lS c1) (fun r=>.ret (.bool r)) 389 [.int .u8 (c1.toNat:Int)]:=by
  unfold lS; exact Z1 ⟨9,[],[]⟩ Z Tryz.func389 Z Z Z Z
instance (s1 :Str) (n_ eZ):LE (oO s1 n_ eZ) (fun j p=>oO s1 j p) n_ eZ [] [] [] [0] (fun v w p=>[(3,iP p)]) (fun v w p s=>s):=⟨Z⟩
instance abt (s1:Str):CT Tryz.prog (uP s1) (fun r=>.ret (.bool r)) 354 [.str s1]:=by
  unfold uP; exact Z1 ⟨36,[],[]⟩ Z Tryz.func354 Z Z Z Z
section
variable [I6]
def Xk :Go.Shelf.Ren:=⟨fun | 171=>203 | 243=>277 | 246=>336 | 283=>374 | 284=>375 | 285=>376 | 286=>377 | 129=>297 | 317=>404 | 318=>405 | 319=>406 | 320=>407 | 337=>428 | 338=>429 | n=>n,fun | 3=>3 | 9=>9 | 2=>2 | 4=>4 | 171=>310 | 0=>0 | 53=>271 | 37=>68 | 5=>5 | 173=>312 | 212=>334 | 51=>269 | 20=>20 | 213=>335 | 46=>218 | 232=>358 | 233=>359 | n=>n,fun | 17=>3 | 18=>4 | 19=>5 | n=>n⟩
theorem ag9 :Go.Proofs.LaysM.n171 Tryz.prog Xk:=by repeat' first | (intros; kernel_rfl) | constructor | decide
instance aav (n1:Int):CT Tryz.prog (strconv_Itoa n1) (fun r=>.ret (.str r)) 203 [iP n1]:=⟨zP rfl,fun {r0} hf {τ Q} h=>by
 unfold strconv_Itoa at hf; split at hf
 case isFalse=>cases hf
 rename_i hg; cases hf; refine AC.none ?_
 exact AC.itoa I6.hD ag9 hg.1 hg.2 I6.pow h⟩
end
section
variable [I6]
def XW :Go.Shelf.Ren:=⟨fun | 172=>390 | 244=>415 | 245=>416 | 247=>433 | 279=>434 | 280=>435 | 281=>436 | 282=>437 | 287=>441 | 316=>442 | 171=>203 | 205=>443 | 321=>445 | 322=>446 | 243=>277 | 246=>336 | 283=>374 | 284=>375 | 285=>376 | 286=>377 | 129=>297 | 317=>404 | 318=>405 | 319=>406 | 320=>407 | 337=>428 | 338=>429 | n=>n,fun | 9=>9 | 3=>3 | 75=>77 | 76=>86 | 4=>4 | 5=>5 | 167=>350 | 37=>68 | 0=>0 | 85=>351 | 2=>2 | 168=>353 | 53=>271 | 175=>360 | 46=>218 | 210=>363 | 127=>124 | 145=>369 | 143=>367 | 21=>21 | 171=>310 | 173=>312 | 212=>334 | 51=>269 | 20=>20 | 213=>335 | 232=>358 | 233=>359 | 80=>69 | n=>n,fun | 15=>6 | 16=>7 | 17=>3 | 18=>4 | 19=>5 | n=>n⟩
theorem ahN :Go.Proofs.LaysC.n172 Tryz.prog XW:=by repeat' first | (intros; kernel_rfl) | constructor | decide
instance Nv (s1:Str):CT Tryz.prog (strconv_Atoi s1) (fun r=>.ret (.tuple [iP r.1,.err r.2])) 390 [.str s1]:=⟨zP rfl,fun {r} hf {τ Q} h=>by
 obtain ⟨r0,r1⟩:=r; unfold strconv_Atoi at hf; split at hf
 case isFalse=>cases hf
 rename_i hg; cases hf; refine AC.none ?_
 exact AC.atoi I6.hD ahN hg Z I6.syn I6.rng h⟩
end
section
variable [I6]
instance X3 (s1:Str):CT Tryz.prog (rz s1) (fun r=>.ret (.bool r)) 384 [.str s1]:=⟨zP rfl,fun {r0} hf {τ Q} h=>by
 unfold rz at hf; refine BN 40 [.tmp 2] [0] Tryz.func384 Z Z Z Z Z ?_; refine B1 hf fun b1 h2 hf=>W 4 Z (AR.rF 9 8 17 false [0] b1 Z Z (fun h1=>?_) (fun h1=>?_) ?_)
 ·
  replace h2:=ji h1 h2; refine Is 8 h1 Z (U 1 Z (GO Z (AO.tZ Z Z Z Z qG Z ?_))); refine BR h2 fun b2 h4 h2=>?_; refine U 2 Z (AR.rF 4 12 16 true [0,8] b2 Z Z (fun h3=>?_) (fun h3=>?_) ?_)
  · refine IT 12 h3 h4 Z fun h4=>?_; refine B1 h4 fun x1 h5 h4=>U 1 Z (GO Z (AO.w_ h5 Z qG Z Z ?_)); cases h4; exact BG 2 Z (En [16,0,8] Z)
  · refine IF 12 h3 h4 Z fun h4=>?_; cases h4; exact BG 4 Z (En [16,0,8] Z)
  cases h2; exact BG 1 Z (En [17,0] Z)
 · refine IT 8 h1 h2 Z fun h2=>?_; cases h2; exact BG 9 Z (En [17,0] Z)
 refine J 0 Z (C hf Z (fun h6 hf=>?_) fun h6 hf=>?_)
 · cases hf; exact M 1 Z (Y Z h)
 refine V 1 Z (LK1 (fun i1=>[(0,.str s1),(3,iP i1)]) (fun i1=>[]) (fun dQ i1=>jV s1 dQ i1=some r0) BIG 0 Z Z hf (fun _ hz=>fC hz) ?_); intro dQ i1 hf; rw [jV] at hf; refine W 2 Z (AS Z (AO.tZ Z Z Z Z qG Z (J 1 Z (C hf Z (fun h7 hf=>?_) fun h7 hf=>?_))))
 ·
  refine B1 hf fun x2 h8 hf=>W 2 Z (AS Z (AO.w_ h8 Z qG Z Z ?_)); refine B1 hf fun x3 h9 hf=>CL Z ((Nw _).h h9 (J 1 Z (C hf Z (fun h10 hf=>?_) fun h10 hf=>?_)))
  · cases hf; exact M 1 Z (Y Z h)
  exact M 3 Z ⟨(bL (i1 + 1)),Z,Z,Z,hf⟩
 obtain ⟨n1,SF,h11,hf⟩:=f_ hf; refine W 1 Z (CL Z ((Nv _).h h11 (U 6 Z (AS Z (AO.eqNil Z aha Z Z (U 1 Z (An 3 36 39 [] (decide (n1≤9007199254740992)) Z Z Z Z ?_))))))); cases hf; exact N 1 Z (Y Z h)⟩
end
section
variable [I6]
instance abp (t1:aA):CT Tryz.prog (iL t1) (fun r=>.ret (.bool r)) 351 [.agg (mG t1)]:=by
  unfold iL; exact Z1 ⟨23,[],[]⟩ Z Tryz.func351 Z Z Z Z
end
section
variable [I6]
instance Tq (nH:aj):CB Tryz.prog (iM nH) (fun r=>.ret (.agg (mG r.1))) 312 (fun p1=>[pP p1]) (aM nH) (fun r=>(aM r.2)):=by
  unfold iM; exact Z2 ⟨37,[],[]⟩ 0 Z Tryz.func312 Z Z (fun _=>Z) (fun _=>Z)
end
section
variable [I6]
instance U1 (nH:aj) (op1:Str):CB Tryz.prog (r9 nH op1) (fun r=>.ret (.bool r.1)) 313 (fun p1=>[pP p1,.str op1]) (aM nH) (fun r=>(aM r.2)):=by
  unfold r9; exact Z2 ⟨17,[],[]⟩ 0 Z Tryz.func313 Z Z (fun _=>Z) (fun _=>Z)
end
section
variable [I6]
instance Q9 (nH:aj) (op1:Str):CB Tryz.prog (bU nH op1) (fun r=>.ret (.bool r.1)) 245 (fun p1=>[pP p1,.str op1]) (aM nH) (fun r=>(aM r.2)):=by
  unfold bU; exact Z2 ⟨16,[],[]⟩ 0 Z Tryz.func245 Z Z (fun _=>Z) (fun _=>Z)
end
@[reducible] def Ei :gT aB Unit→dL
  | .ok r=>.ret (.tuple [])
  | .bad e=>.panic (.iface 189 (.agg (iO e)))
instance Tw (nH:aj) (e1:Int):CB Tryz.prog (fB nH e1) (fun r=>Ei r.1) 315 (fun p1=>[pP p1,iP e1]) (aM nH) (fun r=>(aM r.2)):=by
  unfold fB; exact Z2 ⟨11,[],[]⟩ 0 Z Tryz.func315 Z Z (fun _=>Z) (fun _=>Z)
section
variable [I6]
@[reducible] def Eh :gT aB aA→dL
  | .ok r=>.ret (.agg (mG r))
  | .bad e=>.panic (.iface 189 (.agg (iO e)))
instance Tt (nH:aj):CB Tryz.prog (iN nH) (fun r=>Eh r.1) 314 (fun p1=>[pP p1]) (aM nH) (fun r=>(aM r.2)):=by
  unfold iN; exact Z2 ⟨24,[],[]⟩ 0 Z Tryz.func314 Z Z (fun _=>Z) (fun _=>Z)
end
instance X0 (v1:av):CT Tryz.prog (oP v1) (fun r=>.ret (.agg (aP r))) 410 [.agg (bA v1)]:=by
  unfold oP; exact Z1 ⟨5,[],[]⟩ Z Tryz.func410 Z Z Z Z
instance abo (s1:Str):CT Tryz.prog (nL s1) (fun r=>.ret (.bool r)) 355 [.str s1]:=by
  unfold nL; exact Z1 ⟨13,[],[]⟩ Z Tryz.func355 Z Z Z Z
section
variable [I6]
@[reducible] def Dc :gT aB Unit→dL
  | .ok r=>.ret (.tuple [])
  | .bad e=>.panic (.iface 189 (.agg (iO e)))
instance Q8 (nH:aj) (op1:Str):CB Tryz.prog (dO nH op1) (fun r=>Dc r.1) 246 (fun p1=>[pP p1,.str op1]) (aM nH) (fun r=>(aM r.2)):=by
  unfold dO; exact Z2 ⟨12,[],[]⟩ 0 Z Tryz.func246 Z Z (fun _=>Z) (fun _=>Z)
end
instance Wj (op1:Str):CT Tryz.prog (gF op1) (fun r=>.ret (iP r)) 113 [.str op1]:=by
  unfold gF; exact Z1 ⟨22,[],[]⟩ Z Tryz.func113 Z Z Z Z
section
variable [I6]
@[reducible] def kH :gT aB ah→dL
  | .ok r=>.ret (.agg (aP r))
  | .bad e=>.panic (.iface 189 (.agg (iO e)))
@[reducible] def kG :gT aB ah→dL
  | .ok r=>.ret (.agg (aP r))
  | .bad e=>.panic (.iface 189 (.agg (iO e)))
@[reducible] def mQ :gT aB ah→dL
  | .ok r=>.ret (.agg (aP r))
  | .bad e=>.panic (.iface 189 (.agg (iO e)))
@[reducible] def mR :gT aB ah→dL
  | .ok r=>.ret (.agg (aP r))
  | .bad e=>.panic (.iface 189 (.agg (iO e)))
@[reducible] def nA :gT aB ah→dL
  | .ok r=>.ret (.agg (aP r))
  | .bad e=>.panic (.iface 189 (.agg (iO e)))
@[reducible] def ny :gT aB ah→dL
  | .ok r=>.ret (.agg (aP r))
  | .bad e=>.panic (.iface 189 (.agg (iO e)))
@[reducible] def nC :gT aB (List ah)→dL
  | .ok r=>.ret (.list (ah.bC r))
  | .bad e=>.panic (.iface 189 (.agg (iO e)))
@[reducible] def lq :gT aB ah→dL
  | .ok r=>.ret (.agg (aP r))
  | .bad e=>.panic (.iface 189 (.agg (iO e)))
section
variable (aL : aj → Option (gT aB ah × aj)) [K6 : ∀ (dH : aj), CB Tryz.prog (aL dH) (fun r => kH r.1) 173 (fun zU => [pP zU]) (aM dH) (fun r => (aM r.2))] (aU : aj → Int → Option (gT aB ah × aj)) [K5 : ∀ (dH : aj) (TN : Int), CB Tryz.prog (aU dH TN) (fun r => kG r.1) 244 (fun zU => [pP zU, iP TN]) (aM dH) (fun r => (aM r.2))] (bn : aj → Option (gT aB ah × aj)) [Ph : ∀ (dH : aj), CB Tryz.prog (bn dH) (fun r => mQ r.1) 311 (fun zU => [pP zU]) (aM dH) (fun r => (aM r.2))] (bB : aj → Option (gT aB ah × aj)) [Pj : ∀ (dH : aj), CB Tryz.prog (bB dH) (fun r => mR r.1) 350 (fun zU => [pP zU]) (aM dH) (fun r => (aM r.2))] (bQ : aj → Option (gT aB ah × aj)) [Qw : ∀ (dH : aj), CB Tryz.prog (bQ dH) (fun r => nA r.1) 383 (fun zU => [pP zU]) (aM dH) (fun r => (aM r.2))] (bP : aj → Str → Option (gT aB ah × aj)) [Qv : ∀ (dH : aj) (BZ : Str), CB Tryz.prog (bP dH BZ) (fun r => ny r.1) 411 (fun zU => [pP zU, .str BZ]) (aM dH) (fun r => (aM r.2))] (bN : aj → Str → Option (gT aB (List ah) × aj)) [Qx : ∀ (dH : aj) (zV : Str), CB Tryz.prog (bN dH zV) (fun r => nC r.1) 412 (fun zU => [pP zU, .str zV]) (aM dH) (fun r => (aM r.2))] (bH : aj → Option (gT aB ah × aj)) [NM : ∀ (dH : aj), CB Tryz.prog (bH dH) (fun r => lq r.1) 413 (fun zU => [pP zU]) (aM dH) (fun r => (aM r.2))]
instance (n1 :Int) (n_ eZ mY):LE (gJ aU n1 n_ eZ mY) (fun j p=>gJ aU n1 j p.1 p.2) n_ (eZ,mY) [] [] [] [0,1,4,5] (fun v w p=>[]) (fun v w p s=>uz 2 (aM p.2) (uz 0 (aP p.1) (s))):=⟨Z⟩
instance (n_ eZ mY):LE (gU bn bB n_ eZ mY) (fun j p=>gU bn bB j p.1 p.2) n_ (eZ,mY) [] [] [] [0,2,5,6] (fun v w p=>[(7,iP p.1)]) (fun v w p s=>uz 1 (aM p.2) (s)):=⟨Z⟩
instance (n_ eZ mY):LE (eO aL n_ eZ mY) (fun j p=>eO aL j p.1 p.2) n_ (eZ,mY) [] [] [] [0,2,3] (fun v w p=>[]) (fun v w p s=>uz 2 (aM p.2) (uz 0 (aP p.1) (s))):=⟨Z⟩
instance (ql :Str) (n_ eZ mY):LE (jo aL ql n_ eZ mY) (fun j p=>jo aL ql j p.1 p.2) n_ (eZ,mY) [5] [] [(5,10,37)] [0,1] (fun v w p=>[(5,.own v (List.map ah.cells p.1))]) (fun v w p s=>uz 1 (aM p.2) (putRow 0 v ((List.map ah.cells p.1).length) (s))):=⟨Z⟩
instance (n_ eZ mY):LE (fT aL n_ eZ mY) (fun j p=>fT aL j p.1 p.2) n_ (eZ,mY) [] [(2,[8,9])] [(9999,10,37),(9999,1,9)] [0,2,3] (fun v w p=>[]) (fun v w p s=>uz 4 (aM p.2) (uz 2 [iP p.1.kind,.str p.1.name,iP p.1.value.kind,.bool p.1.value.lJ,iP p.1.value.mZ,.str p.1.value.pF,.list (av.bC p.1.value.dh),sP p.1.value.keys,.own v (List.map ah.cells p.1.args),.own w (List.map iC p.1.keys)] (putRow 1 v ((List.map ah.cells p.1.args).length) (putRow 0 w ((List.map iC p.1.keys).length) (s))))):=⟨Z⟩
instance zq (nH:aj):CB Tryz.prog (kI aL aU bn bB bQ bP bN bH nH) (fun r=>kH r.1) 173 (fun p1=>[pP p1]) (aM nH) (fun r=>(aM r.2)):=by
  unfold kI; exact Z2 ⟨23,[],[]⟩ 0 Z Tryz.func173 Z Z (fun _=>Z) (fun _=>Z)
instance zo (nH:aj) (n1:Int):CB Tryz.prog (iZ aL aU bn bB bQ bP bN bH nH n1) (fun r=>kG r.1) 244 (fun p1=>[pP p1,iP n1]) (aM nH) (fun r=>(aM r.2)):=by
  unfold iZ; exact Z2 ⟨47,[],[(8,0,6,8,0)]⟩ 0 Z Tryz.func244 Z Z (fun _=>Z) (fun _=>Z)
instance CZ (nH:aj):CB Tryz.prog (mU aL aU bn bB bQ bP bN bH nH) (fun r=>mQ r.1) 311 (fun p1=>[pP p1]) (aM nH) (fun r=>(aM r.2)):=by
  unfold mU; exact Z2 ⟨22,[],[]⟩ 0 Z Tryz.func311 Z Z (fun _=>Z) (fun _=>Z)
instance C8 (nH:aj):CB Tryz.prog (mV aL aU bn bB bQ bP bN bH nH) (fun r=>mR r.1) 350 (fun p1=>[pP p1]) (aM nH) (fun r=>(aM r.2)):=by
  unfold mV; exact Z2 ⟨47,[],[]⟩ 0 Z Tryz.func350 Z Z (fun _=>Z) (fun _=>Z)
instance DV (nH:aj):CB Tryz.prog (nN aL aU bn bB bQ bP bN bH nH) (fun r=>nA r.1) 383 (fun p1=>[pP p1]) (aM nH) (fun r=>(aM r.2)):=by
  unfold nN; exact Z2 ⟨77,[],[]⟩ 0 Z Tryz.func383 Z Z (fun _=>Z) (fun _=>Z)
instance DU (nH:aj) (s1:Str):CB Tryz.prog (nM aL aU bn bB bQ bP bN bH nH s1) (fun r=>ny r.1) 411 (fun p1=>[pP p1,.str s1]) (aM nH) (fun r=>(aM r.2)):=by
  unfold nM; exact Z2 ⟨26,[],[]⟩ 0 Z Tryz.func411 Z Z (fun _=>Z) (fun _=>Z)
instance DW (nH:aj) (ql:Str):CB Tryz.prog (nO aL aU bn bB bQ bP bN bH nH ql) (fun r=>nC r.1) 412 (fun p1=>[pP p1,.str ql]) (aM nH) (fun r=>(aM r.2)):=by
  unfold nO; exact Z2 ⟨21,[],[]⟩ 0 Z Tryz.func412 Z Z (fun _=>Z) (fun _=>Z)
instance AV (nH:aj):CB Tryz.prog (lC aL aU bn bB bQ bP bN bH nH) (fun r=>lq r.1) 413 (fun p1=>[pP p1]) (aM nH) (fun r=>(aM r.2)):=by
  unfold lC; exact Z2 ⟨50,[],[(10,0,3,5,0)]⟩ 0 Z Tryz.func413 Z Z (fun _=>Z) (fun _=>Z)
end
theorem dS :∀ k:Nat,(∀ (dH:aj),CB Tryz.prog (aV k dH) (fun r=>kH r.1) 173 (fun zU=>[pP zU]) (aM dH) (fun r=>(aM r.2)))∧(∀ (dH:aj) (TN:Int),CB Tryz.prog (bf k dH TN) (fun r=>kG r.1) 244 (fun zU=>[pP zU,iP TN]) (aM dH) (fun r=>(aM r.2)))∧(∀ (dH:aj),CB Tryz.prog (bZ k dH) (fun r=>mQ r.1) 311 (fun zU=>[pP zU]) (aM dH) (fun r=>(aM r.2)))∧(∀ (dH:aj),CB Tryz.prog (dw k dH) (fun r=>mR r.1) 350 (fun zU=>[pP zU]) (aM dH) (fun r=>(aM r.2)))∧(∀ (dH:aj),CB Tryz.prog (dA k dH) (fun r=>nA r.1) 383 (fun zU=>[pP zU]) (aM dH) (fun r=>(aM r.2)))∧(∀ (dH:aj) (BZ:Str),CB Tryz.prog (dJ k dH BZ) (fun r=>ny r.1) 411 (fun zU=>[pP zU,.str BZ]) (aM dH) (fun r=>(aM r.2)))∧(∀ (dH:aj) (zV:Str),CB Tryz.prog (cO k dH zV) (fun r=>nC r.1) 412 (fun zU=>[pP zU,.str zV]) (aM dH) (fun r=>(aM r.2)))∧(∀ (dH:aj),CB Tryz.prog (cB k dH) (fun r=>lq r.1) 413 (fun zU=>[pP zU]) (aM dH) (fun r=>(aM r.2)))
  | 0=>⟨fun _=>CB.none Z,fun _ _=>CB.none Z,fun _=>CB.none Z,fun _=>CB.none Z,fun _=>CB.none Z,fun _ _=>CB.none Z,fun _ _=>CB.none Z,fun _=>CB.none Z⟩
  | k + 1=>by
    obtain ⟨i0,i1,i2,i3,i4,i5,i6,i7⟩:=dS k; exact ⟨fun dH=>zq _ _ _ _ _ _ _ _ dH,fun dH TN=>zo _ _ _ _ _ _ _ _ dH TN,fun dH=>CZ _ _ _ _ _ _ _ _ dH,fun dH=>C8 _ _ _ _ _ _ _ _ dH,fun dH=>DV _ _ _ _ _ _ _ _ dH,fun dH BZ=>DU _ _ _ _ _ _ _ _ dH BZ,fun dH zV=>DW _ _ _ _ _ _ _ _ dH zV,fun dH=>AV _ _ _ _ _ _ _ _ dH⟩
instance sH (dH:aj):CB Tryz.prog (oN dH) (fun r=>kH r.1) 173 (fun zU=>[pP zU]) (aM dH) (fun r=>(aM r.2)):=(dS BIG).1 dH
instance NN (dH:aj) (TN:Int):CB Tryz.prog (Cv dH TN) (fun r=>kG r.1) 244 (fun zU=>[pP zU,iP TN]) (aM dH) (fun r=>(aM r.2)):=(dS BIG).2.1 dH TN
instance Rf (dH:aj):CB Tryz.prog (FT dH) (fun r=>mQ r.1) 311 (fun zU=>[pP zU]) (aM dH) (fun r=>(aM r.2)):=(dS BIG).2.2.1 dH
instance Rh (dH:aj):CB Tryz.prog (FU dH) (fun r=>mR r.1) 350 (fun zU=>[pP zU]) (aM dH) (fun r=>(aM r.2)):=(dS BIG).2.2.2.1 dH
instance Tx (dH:aj):CB Tryz.prog (Gw dH) (fun r=>nA r.1) 383 (fun zU=>[pP zU]) (aM dH) (fun r=>(aM r.2)):=(dS BIG).2.2.2.2.1 dH
instance Tv (dH:aj) (BZ:Str):CB Tryz.prog (Gv dH BZ) (fun r=>ny r.1) 411 (fun zU=>[pP zU,.str BZ]) (aM dH) (fun r=>(aM r.2)):=(dS BIG).2.2.2.2.2.1 dH BZ
instance Tz (dH:aj) (zV:Str):CB Tryz.prog (Gx dH zV) (fun r=>nC r.1) 412 (fun zU=>[pP zU,.str zV]) (aM dH) (fun r=>(aM r.2)):=(dS BIG).2.2.2.2.2.2.1 dH zV
instance PK (dH:aj):CB Tryz.prog (Eb dH) (fun r=>lq r.1) 413 (fun zU=>[pP zU]) (aM dH) (fun r=>(aM r.2)):=(dS BIG).2.2.2.2.2.2.2 dH
end
section
variable [I6]
instance abq (eH:List aA):CT Tryz.prog (Bo eH) (fun r=>.ret (.tuple [.agg (aP r.1),iP r.2.1,iP r.2.2])) 102 [.list (List.map aA.cells eH)]:=⟨zP rfl,fun {r} hf {τ Q} h=>by
 obtain ⟨r0,r1,r2⟩:=r; unfold Bo at hf; refine AC.none (AC.Kk 17 [.cell 2 37,.cell 3 3,.cell 4 24] [0] [0,1,2] Tryz.func102 Z Z Z Z Z Tryz.func172 Z Z Z Z Z Z Z aeK (AW.sr (AR.step Z Z Z (AO.bW Z F3 (fun b2=>?_))))); refine AR.step Z Z Z (AO.bW Z ah_ (fun b3=>(AR.step Z Z Z (AO.bW Z Va (fun b4=>(AR.nil [0,2,3,4] Z (AW.sr ?_))))))); refine cs 1 Z (AR.step Z Z Z (AO.build Z aen abM Z (AR.step Z Z Z (AO.V6 Z Z (fun b8=>(cs 1 Z ?_)))))); refine AR.nil [2,3,4,5] Z (AW.sr (cs 1 Z (AR.defer (vs:=[.pointer (some ⟨b2,0,none⟩),.pointer (some ⟨b3,0,none⟩),.pointer (some ⟨b4,0,none⟩)]) Z Z Z Z Z Z ?_))); refine AR.nil [2,3,4,5] Z (AW.sr (cs 1 Z ?_)); rcases Np hf with ⟨f1,s1,h1,hf⟩ | ⟨e1,s1,h1,hf⟩
 ·
  refine AR.step Z Z Z (AO.call Z _ Z Z Za (AC.one 0 Z ((sH _).h h1 _ ⟨_,Z,?_⟩))); cases hf; refine ⟨[.pointer (some ⟨b2,0,none⟩),.pointer (some ⟨b3,0,none⟩),.pointer (some ⟨b4,0,none⟩)],_,Z,Z,Z,(AR.step Z Z Z (AO.Vk Z Z abH (cs 3 Z (AR.step Z Z Z (AO.bW Z Yx (fun b5=>?_))))))⟩; refine AR.bR Z Z (AO.dD (i:=0) Z Z Z YP Z Z Z Z Z (cs 1 Z (AR.nil [0,1,2,3,4] Z (AW.sr ?_)))); refine cs 1 Z (AR.nil [0,1,2,3,10] Z (AW.cond Z (fun _=>?_) (fun hh=>by cases hh))); refine AW.ZY 1 5 7 [_] [_,_,_,_] mixed (by kernel_rfl) (by kernel_rfl) (by kernel_rfl) Z Z Z (List.Perm.refl _) ?_; refine Ev.cons Z Z Z (AO.build Z F3 YU Z zg) (Ev.nil ?_); show Ev _ _ _ _ _ _ _; refine Ev.cs gq 1 Z (Ev.cons Z Z Z (AO.bJ (i:=0) Z Z Z NS Z Z zg) (Ev.cs gq 1 Z (Ev.cons Z Z Z (AO.bJ (i:=0) Z Z Z qO Z Z zg) ?_))); refine Ev.nil (TF.bR Z Z (AO.dD (i:=3) Z Z Z uJ Z Z Z Z Z (TF.bR Z Z (AO.dD (i:=2) Z Z Z NS Z Z Z Z Z (TF.nil ?_))))); show AR _ _ _ _ _ _ _ _; refine AR.bR Z Z (AO.dD (i:=2) Z Z Z qO Z Z Z Z Z (AR.nil [] Z ?_)); exact ⟨rfl,_,⟨_,_,rfl,⟨_,_,4,_,_,rfl,rfl,uJ,rfl⟩,⟨_,_,rfl,⟨_,_,3,_,_,rfl,rfl,NS,rfl⟩,⟨_,_,rfl,⟨_,_,2,_,_,rfl,rfl,qO,rfl⟩,rfl⟩⟩⟩,[],List.nil_sublist _,h⟩
 refine AR.step Z Z Z (AO.call Z _ Z Z Za (AC.one 0 Z ((sH _).h h1 _ ⟨_,Z,?_⟩))); cases hf; refine AR.bR Z Z (AO.dD (i:=3) Z Z Z uJ Z Z Z Z Z (AR.nil [2,3,4,5] Z (AW.seq (AW.adB 1 5 6 3 mixed (by kernel_rfl) (by kernel_rfl) (by kernel_rfl) Z Z Z Z ?_)))); refine Ev.cons Z Z Z (AO.bJ (i:=3) Z Z Z uJ Z Z zg) (Ev.nil ?_); show Ev _ _ _ _ _ _ _; refine Ev.cs gq 3 Z (Ev.cons Z Z Z (AO.bJ (i:=0) Z Z Z NS Z Z zg) (Ev.nil (TF.bR Z Z (AO.dD (i:=0) Z Z Z uJ Z Z Z Z Z ?_)))); refine TF.nil ?_; show AR _ _ _ _ _ _ _ _; refine AR.bR Z Z (AO.dD (i:=2) Z Z Z NS Z Z Z Z Z (AR.bR Z Z (AO.dD (i:=1) Z Z Z qO Z Z Z Z Z (AR.nil [2,3,4] Z (AW.ret ?_))))); refine ⟨[.pointer (some ⟨b2,0,none⟩),.pointer (some ⟨b3,0,none⟩),.pointer (some ⟨b4,0,none⟩)],_,Z,Z,Z,(AR.step Z Z Z (AO.RD (p:=.agg [iP 0,iP 0]) Z Z abJ (fun _ _=>by simp only [cu]; exact ⟨[.int .i64 0,.int .i64 0],Z,aW.cons (by simp [cu]) (aW.cons (by simp [cu]) aW.nil)⟩) ?_))⟩
 refine cs 3 Z (AR.step Z Z Z (AO.bW Z Yx (fun b5=>(AR.bR Z Z (AO.dD (i:=0) Z Z Z YP Z Z Z Z Z (cs 1 Z ?_)))))); refine AR.nil [4] Z (AW.sr (cs 1 Z (AR.nil [10] Z ?_))); refine AW.cond Z (fun hh=>by cases hh) (fun _=>?_); refine AW.skip ?_; exact ⟨rfl,_,⟨_,_,rfl,⟨_,_,4,_,_,rfl,rfl,uJ,rfl⟩,⟨_,_,rfl,⟨_,_,3,_,_,rfl,rfl,NS,rfl⟩,⟨_,_,rfl,⟨_,_,2,_,_,rfl,rfl,qO,rfl⟩,rfl⟩⟩⟩,[],List.nil_sublist _,h⟩⟩
end
section
variable (jG : ah → Option Int) [Xv : ∀ (iF : ah), CT Tryz.prog (jG iF) (fun r => .ret (iP r)) 108 [.agg (aP iF)]]
instance (e1 :ah) (n_ eZ mY):LE (qd jG e1 n_ eZ mY) (fun j p=>qd jG e1 j p.1 p.2) n_ (eZ,mY) [] [] [] [7,8] (fun v w p=>[(3,iP p.1),(9,iP p.2)]) (fun v w p s=>s):=⟨Z⟩
instance JY (e1:ah):CT Tryz.prog (vI jG e1) (fun r=>.ret (iP r)) 108 [.agg (aP e1)]:=by
  unfold vI; exact Z1 ⟨19,[],[]⟩ Z Tryz.func108 Z Z Z Z
end
theorem EK :∀ k:Nat,(∀ (iF:ah),CT Tryz.prog (mK k iF) (fun r=>.ret (iP r)) 108 [.agg (aP iF)])
  | 0=>fun _=>CT.none Z
  | k + 1=>by
    obtain (i0):=EK k; exact fun iF=>JY _ iF
instance aaF (iF:ah):CT Tryz.prog (yY iF) (fun r=>.ret (iP r)) 108 [.agg (aP iF)]:=(EK BIG) iF
instance abn (v1:av):CT Tryz.prog (Bn v1) (fun r=>.ret (.bool r)) 251 [.agg (bA v1)]:=by
  unfold Bn; exact Z1 ⟨33,[],[]⟩ Z Tryz.func251 Z Z Z Z
instance aaA (s1:Str):CT Tryz.prog (lQ s1) (fun r=>.ret (.bool r)) 318 [.str s1]:=by
  unfold lQ; exact Z1 ⟨10,[],[]⟩ Z Tryz.func318 Z Z Z Z
instance aaC (e1:ah):CT Tryz.prog (vE e1) (fun r=>.ret (.bool r)) 252 [.agg (aP e1)]:=by
  unfold vE; exact Z1 ⟨31,[],[]⟩ Z Tryz.func252 Z Z Z Z
instance aaE (e1:ah):CT Tryz.prog (vG e1) (fun r=>.ret (.bool r)) 253 [.agg (aP e1)]:=by
  unfold vG; exact Z1 ⟨32,[],[]⟩ Z Tryz.func253 Z Z Z Z
instance (s1 :List Str) (f1:Str→Option Bool) (n_ eZ):LE (eU s1 f1 n_ eZ) (fun j p=>eU s1 f1 j p) n_ eZ [] [] [] [0,1,7] (fun v w p=>[(8,iP p)]) (fun v w p s=>s):=⟨Z⟩
instance G7 (s1:List Str) (f1:Str→Option Bool) {f1F:FuncId} {f1C:List PV} [f1I:CF1 Tryz.prog f1 (fun a0=>.str a0) (fun b0=>.ret (.bool b0)) f1F f1C]:CT Tryz.prog (iD s1 f1) (fun r=>.ret (iP r)) 356 [sP s1,.fn f1F f1C]:=by
  unfold iD; exact Z1 ⟨19,[],[]⟩ Z Tryz.func356 Z Z Z Z
instance FQ (s1:List Str) (f1:Str→Option Bool) {f1F:FuncId} {f1C:List PV} [f1I:CF1 Tryz.prog f1 (fun a0=>.str a0) (fun b0=>.ret (.bool b0)) f1F f1C]:CT Tryz.prog (eX s1 f1) (fun r=>.ret (.bool r)) 319 [sP s1,.fn f1F f1C]:=by
  unfold eX; exact Z1 ⟨9,[],[]⟩ Z Tryz.func319 Z Z Z Z
instance JX (yw:Str):CT Tryz.prog (jv yw) (fun r=>.ret (.bool r)) 320 [.str yw]:=by
  unfold jv; exact Z1 ⟨11,[],[]⟩ Z Tryz.func320 Z Z Z Z
instance : CF1 Tryz.prog jv (fun yw=>.str yw) (fun r=>.ret (.bool r)) 320 []:=⟨fun x0=>JX x0⟩
instance aaD (e1:ah):CT Tryz.prog (vF e1) (fun r=>.ret (.bool r)) 254 [.agg (aP e1)]:=by
  unfold vF; exact Z1 ⟨23,[],[]⟩ Z Tryz.func254 Z Z Z Z
theorem PW {β:Type} (l:Nat) (T:β→List aQ) (go:β→av→Int→Option (Bool × β))
  (goH:∀ s1 v1 bG b s2,go s1 v1 bG=some (b,s2)→∀ {Q:dL→List aQ→Prop},Q (.ret (.bool b)) (T s2)→PC 197 [.agg (bA v1),iP bG,.val (.func (.yield l) #[] #[])] (T s1) Q)
  (y:β→Int→av→Option (Bool × β)) (hy:∀ s1 bG v1 b s2,y s1 bG v1=some (b,s2)→AY Tryz.prog l [iP bG,.agg (bA v1)] (T s1) (fun out σ'=>out=.ret (.bool b)∧σ'=T s2))
  (s1:β) (v1:av) (bG:Int) {b:Bool} {s2:β} (hf:yQ go y s1 v1 bG=some (b,s2)) {Q:dL→List aQ→Prop} (h:Q (.ret (.bool b)) (T s2)):
  PC 197 [.agg (bA v1),iP bG,.val (.func (.yield l) #[] #[])] (T s1) Q:=by
 unfold yQ at hf; refine AC.jC 28 [.tmp 6] [0,1,2] Tryz.func197 Z Z Z Z Z (AW.sr (AR.step Z Z Z (AO.FN Z Z Z (cs 1 Z ?_)))); refine AR.nil [1,2,3] Z (AW.seq (AW.seq (AW.Vq ?_))); refine Db.step Z Z Z Z (AO.calc' Z (Db.step Z Z Z Z (AO.calc' Z (Db.step Z Z Z Z (AO.Cy Z Z Hr Z ?_))))); obtain ⟨b1,s3,h1,hf⟩:=f_ hf; refine Db.yield Z Z Z Z Z _ Z Z (hy _ _ _ _ _ h1) (Db.of Z (cs 1 Z (AR.nil [1,2,3,13] Z ?_))); refine AW.cond Z (fun h2=>?_) (fun h2=>?_)
 · replace hf:=jP h2 hf; refine AW.sr (cs 1 Z (AR.nil [6] Z (AW.ret ?_))); cases hf; exact ⟨rfl,_,⟨_,_,rfl,rfl,rfl⟩,_,List.Sublist.refl _,h⟩
 replace hf:=ji h2 hf; refine AW.skip (AW.seq (AW.sr (cs 2 Z ?_))); refine AR.step Z Z Z (AO.fI (l:=v1.dh) Z Z Z Z ady Z ((av.bV _)) (cs 1 Z (AR.nil [1,2,15,16,17] Z (AW.block ?_)))); refine AW.ae7 (fun (_:β) i1=>[(1,iP bG),(2,.val (.func (.yield l) #[] #[])),(15,.list (av.bC v1.dh)),(16,iP (v1.dh.length:Int)),(17,iP i1)]) (fun s1 _=>T s1) (fun dQ s1 i1=>tq go v1 bG dQ s1 i1=some (b,s2)) BIG s3 0 Z Z hf (fun _ _ hz=>fC hz) ?_; intro dQ s4 i1 hf; rw [tq] at hf; refine AW.sr (cs 1 Z (AR.nil [1,2,15,16,17,18] Z (AW.seq ?_))); refine AW.cond Z (fun h1=>?_) (fun h1=>?_)
 ·
  replace hf:=jP h1 hf; refine AW.skip (AW.seq (AW.block (AW.sr ?_))); refine B1 hf fun x1 h3 hf=>AR.step Z Z Z (AO.dP h3 Z Z ((av.bV _)) Z ady ((av.aS _)) Z (cs 1 Z (AR.step Z Z Z (AO.bW Z He (fun b8=>(AR.bR Z Z (AO.dD (i:=0) Z Z Z Hr Z Z Z Z Z ?_))))))); refine AR.nil [1,2,8,15,16,17] Z (AW.sr (AR.step Z Z Z (AO.bJ (i:=0) Z Z Z Hr Z Z (cs 3 Z ?_)))); obtain ⟨b2,s5,h4,hf⟩:=f_ hf; refine AR.drop1 (AR.step Z Z Z (AO.call Z _ Z Z aeI (goH _ _ _ _ _ h4 (cs 1 Z (AR.nil [1,2,15,16,17,26] Z ?_))))); refine AW.cond Z (fun h5=>?_) (fun h5=>?_)
  · replace hf:=jP h5 hf; refine AW.sr (cs 1 Z (AR.nil [6] Z (AW.ret ?_))); cases hf; exact ⟨rfl,_,⟨_,_,rfl,rfl,rfl⟩,_,List.Sublist.refl _,h⟩
  replace hf:=ji h5 hf; refine AW.skip (AW.region (cs 2 Z (AR.nil [1,2,15,16,17] Z ?_))); exact ⟨s5,(bL (i1 + 1)),Z,Z,Z,hf⟩
 replace hf:=ji h1 hf; refine AW.exit (AW.sr (cs 1 Z (AR.nil [6] Z ?_))); refine AW.ret ?_; cases hf; exact ⟨rfl,_,⟨_,_,rfl,rfl,rfl⟩,_,List.Sublist.refl _,h⟩
theorem Io {β:Type} (l:Nat) (T:β→List aQ) (y:β→Int→av→Option (Bool × β)) (hy:∀ s1 bG v1 b s2,y s1 bG v1=some (b,s2)→AY Tryz.prog l [iP bG,.agg (bA v1)] (T s1) (fun out σ'=>out=.ret (.bool b)∧σ'=T s2)):
  ∀ (k:Nat) (s1:β) (v1:av) (bG:Int) (b:Bool) (s2:β),nD y k s1 v1 bG=some (b,s2)→∀ {Q:dL→List aQ→Prop},Q (.ret (.bool b)) (T s2)→PC 197 [.agg (bA v1),iP bG,.val (.func (.yield l) #[] #[])] (T s1) Q
 | 0,_,_,_,_,_,hz=>by cases hz
 | k + 1,s1,v1,bG,b,s2,hz=>fun h=>PW l T (nD y k) (fun s1 v1 bG b s2 hz=>Io l T y hy k s1 v1 bG b s2 hz) y hy s1 v1 bG hz h
theorem KH {β:Type} (l:Nat) (T:β→List aQ) (y:β→Int→av→Option (Bool × β)) (hy:∀ s1 bG v1 b s2,y s1 bG v1=some (b,s2)→AY Tryz.prog l [iP bG,.agg (bA v1)] (T s1) (fun out σ'=>out=.ret (.bool b)∧σ'=T s2))
    (s1:β) (v1:av) (bG:Int) {b:Bool} {s2:β} (hf:Gp y s1 v1 bG=some (b,s2)) {Q:dL→List aQ→Prop} (h:Q (.ret (.tuple [])) (T s2)):
    PC 196 [.val (.func (.yield l) #[] #[]),.ref (bA v1),.ref [iP bG]] (T s1) Q:=by
 refine BD 8 [] [0,1,2] Tryz.func196 Z Z Z Z Z (W 3 Z (CL Z (Io l T y hy BIG _ _ _ _ _ hf ?_))); exact N 0 rfl ⟨rfl,_,rfl,_,List.Sublist.refl _,h⟩
theorem Od (v1:av) (bG:Int) (h:Q (.ret (.fn 196 [.ref (bA v1),.ref [iP bG]])) τ):PC 123 [.agg (bA v1),iP bG] τ Q:=by
 refine BN 6 [.tmp 4] [0,1] Tryz.func123 Z Z Z Z Z ?_; exact M 5 Z (Y Z h)
instance aat (v1:av):CT Tryz.prog (yR v1) (fun r=>.ret (.bool r)) 198 [.agg (bA v1)]:=by
  unfold yR; exact Z1 ⟨58,[],[]⟩ Z Tryz.func198 Z Z Z Z
instance abx (c1:UInt8):CT Tryz.prog (Bu c1) (fun r=>.ret (.bool r)) 298 [.int .u8 (c1.toNat:Int)]:=by
  unfold Bu; exact Z1 ⟨9,[],[]⟩ Z Tryz.func298 Z Z Z Z
instance (s1 :Str) (n_ eZ):LE (vQ s1 n_ eZ) (fun j p=>vQ s1 j p) n_ eZ [] [] [] [0] (fun v w p=>[(3,iP p)]) (fun v w p s=>s):=⟨Z⟩
instance aeh (s1:Str):CT Tryz.prog (zI s1) (fun r=>.ret (iP r)) 217 [.str s1]:=by
  unfold zI; exact Z1 ⟨17,[],[]⟩ Z Tryz.func217 Z Z Z Z
instance (c1 :UInt8) (n_ eZ):LE (gG c1 n_ eZ) (fun j p=>gG c1 j p) n_ eZ [] [] [] [1] (fun v w p=>[(0,.str p)]) (fun v w p s=>s):=⟨Z⟩
instance QX (s1:Str) (c1:UInt8):CT Tryz.prog (strings_trimLeftByte s1 c1) (fun r=>.ret (.str r)) 344 [.str s1,.int .u8 (c1.toNat:Int)]:=by
  unfold strings_trimLeftByte; exact Z1 ⟨17,[],[]⟩ Z Tryz.func344 Z Z Z Z
instance UZ (s1:Str) (DJ:Str):CT Tryz.prog (mE s1 DJ) (fun r=>.ret (.str r)) 299 [.str s1,.str DJ]:=by
  unfold mE; exact Z1 ⟨37,[],[]⟩ Z Tryz.func299 Z Z Z Z
instance Yq (x1:Int):CT Tryz.prog (cmp_isNaN_int x1) (fun r=>.ret (.bool r)) 303 [iP x1]:=by
  unfold cmp_isNaN_int; exact Z1 ⟨6,[],[]⟩ Z Tryz.func303 Z Z Z Z
instance Wn (x1:Int) (y1:Int):CT Tryz.prog (cmp_Compare_int x1 y1) (fun r=>.ret (iP r)) 220 [iP x1,iP y1]:=by
  unfold cmp_Compare_int; exact Z1 ⟨20,[],[]⟩ Z Tryz.func220 Z Z Z Z
instance U4 (x1:Str):CT Tryz.prog (cmp_isNaN_string x1) (fun r=>.ret (.bool r)) 348 [.str x1]:=by
  unfold cmp_isNaN_string; exact Z1 ⟨6,[],[]⟩ Z Tryz.func348 Z Z Z Z
instance TA (x1:Str) (y1:Str):CT Tryz.prog (mO x1 y1) (fun r=>.ret (iP r)) 301 [.str x1,.str y1]:=by
  unfold mO; exact Z1 ⟨20,[],[]⟩ Z Tryz.func301 Z Z Z Z
instance (El :List Int) (n_ eZ):LE (tQ El n_ eZ) (fun j p=>tQ El j p) n_ eZ [] [] [] [3,6,7] (fun v w p=>[(8,iP p)]) (fun v w p s=>s):=⟨Z⟩
instance acY (El:List Int):CT Tryz.prog (AB El) (fun r=>.ret (iP r)) 300 [.list (List.map Uo El)]:=by
  unfold AB; exact Z1 ⟨18,[],[]⟩ Z Tryz.func300 Z Z Z Z
instance Yp (a1:Str) (b1:Str):CT Tryz.prog (tK a1 b1) (fun r=>.ret (iP r)) 218 [.str a1,.str b1]:=by
  unfold tK; exact Z1 ⟨26,[],[]⟩ Z Tryz.func218 Z Z Z Z
instance X6 (x1:UInt8):CT Tryz.prog (rM x1) (fun r=>.ret (.bool r)) 302 [.int .u8 (x1.toNat:Int)]:=by
  unfold rM; exact Z1 ⟨6,[],[]⟩ Z Tryz.func302 Z Z Z Z
instance U5 (x1:UInt8) (y1:UInt8):CT Tryz.prog (o9 x1 y1) (fun r=>.ret (iP r)) 219 [.int .u8 (x1.toNat:Int),.int .u8 (y1.toNat:Int)]:=by
  unfold o9; exact Z1 ⟨20,[],[]⟩ Z Tryz.func219 Z Z Z Z
instance  (n_ eZ mY):LE (iW n_ eZ mY) (fun j p=>iW j p.1 p.2) n_ (eZ,mY) [] [] [] [] (fun v w p=>[(0,.str p.1),(1,.str p.2)]) (fun v w p s=>s):=⟨Z⟩
instance KO (a1:Str) (b1:Str):CT Tryz.prog (ow a1 b1) (fun r=>.ret (iP r)) 136 [.str a1,.str b1]:=by
  unfold ow; exact Z1 ⟨59,[],[]⟩ Z Tryz.func136 Z Z Z Z
instance (v1 :av) (n_ eZ):LE (oI v1 n_ eZ) (fun j p=>oI v1 j p) n_ eZ [] [] [] [1,13,14] (fun v w p=>[(15,iP p)]) (fun v w p s=>s):=⟨Z⟩
instance abd (v1:av):CT Tryz.prog (xu v1) (fun r=>.ret (.bool r)) 199 [.agg (bA v1)]:=by
  unfold xu; exact Z1 ⟨44,[],[]⟩ Z Tryz.func199 Z Z Z Z
instance QW (v1:av) (bG:Int):CT Tryz.prog (zR v1 bG) (fun r=>.ret (iP r)) 124 [.agg (bA v1),iP bG]:=by
  unfold zR; exact Z1 ⟨78,[],[]⟩ Z Tryz.func124 Z Z Z Z
instance Oi (v1:av):CT Tryz.prog (nE v1) (fun r=>.ret (iP r)) 75 [.agg (bA v1)]:=⟨zP rfl,fun {r0} hf {τ Q} h=>by
 unfold nE at hf; refine AC.none (AC.NW 16 [.cell 2 24] [0] Tryz.func75 Z Z Z Z Z ?_); obtain ⟨b1,s1,h1,hf⟩:=f_ hf; cases hf; refine AW.sr (AR.step Z Z Z (AO.FN Z Z Z (AR.step Z Z Z (AO.bW Z Va (fun b2=>(AR.nil [1,2] Z ?_)))))); refine AW.seq (AW.sr (cs 1 Z (AR.step Z Z Z (AO.call Z _ Z Z aeV (Od _ _ ?_))))); refine AR.nil [2,7] Z (AW.block (AW.rangeFunc (β:=Option Int) (X:=Int × av) Z aeJ (fun x=>[iP x.1,.agg (bA x.2)]) (fun _=>Z) (by decide) (fun s x=>kU s x.1 x.2) (fun s=>[.box b2 [iP (s.getD 0)]]) (fun s=>s.map fun _=>.ret) (s0:=none) (s1:=s1) Z Z ?_ ?_ ?_))
 ·
  intro l T' hy; refine KH l T' kU (fun s1 bG v1 b s2 hh=>hy s1 (bG,v1) b s2 hh) none v1 1 h1 ⟨⟨_,Z⟩,Z⟩
 ·
  rintro l s ⟨bG,x1⟩ b s2 hh; unfold kU at hh; cases s with
  | some e=>cases hh
  | none=>
  refine ⟨Z,?_⟩; refine B1 hh fun e1 h2 hh=>?_; refine qK.seq (qK.region Z (cs 1 Z (AR.nil [2,3,9] Z ?_))); refine qK.region Z (AR.step Z Z Z (AO.bW Z He (fun b4=>(AR.bR Z Z (AO.dD (i:=0) Z Z Z Hr Z Z Z Z Z (AR.nil [2,3,4] Z ?_)))))); refine ⟨Z,(qK.block (qK.seq (qK.region Z ?_)))⟩; refine AR.step Z Z Z (AO.bJ (i:=0) Z Z Z Hr Z Z (cs 1 Z (AR.step Z Z Z (AO.call Z _ Z Z aeU ((QW _ _).h h2 (cs 1 Z ?_)))))); refine AR.nil [2,5] Z (qK.seq (qK.region Z (cs 2 Z ?_))); refine AR.nil [2,5,14] Z (qK.cond Z (fun h3=>?_) (fun h3=>?_))
  ·
   replace hh:=jP h3 hh; cases hh; refine qK.seq (qK.region Z (cs 1 Z (AR.bR Z Z (AO.dD (i:=1) Z Z Z qO Z Z Z Z Z ?_)))); refine AR.nil [] Z (qK.ret ?_); exact ⟨Z,.cons _ (List.Sublist.refl _),Z,Z⟩
  ·
   replace hh:=ji h3 hh; cases hh; refine qK.skip ?_; exact ⟨Z,.cons _ (List.Sublist.refl _),Z,Z⟩
 ·
  intro D; cases s1 with
  | some e=>exact ⟨D,_,Z,Z,_,⟨_,_,Z,⟨_,_,0,_,_,Z,Z,qO,Z⟩,Z⟩,[],List.nil_sublist _,h⟩
  | none=>
   show AW _ _ _ _ _ _ _; refine AW.sr (AR.bR Z Z (AO.dD (i:=0) Z Z Z qO Z Z Z Z Z (AR.nil [2] Z (AW.ret ?_))))
   exact ⟨D,[_],Z,Z,_,⟨_,_,Z,⟨_,_,0,_,_,Z,Z,qO,Z⟩,Z⟩,[],List.nil_sublist _,h⟩⟩
instance Wm (l1:List Str):CT Tryz.prog (qc l1) (fun r=>.ret (.bool r)) 255 [sP l1]:=⟨zP rfl,fun {r0} hf {τ Q} h=>by
 unfold qc at hf; refine BN 22 [.tmp 2] [0] Tryz.func255 Z Z Z Z Z (W 1 Z (AS Z (AO.Mq Z (fun m6=>(U 2 Z (AS Z (AO.fI (l:=l1) Z Z Z Z tN Z Z (J 1 Z (LK2 (fun x1 y1=>[(3,.val (.map (some m6))),(7,sP l1),(8,iP (l1.length:Int)),(9,iP x1)]) (fun x1 y1=>[.obj m6 (sM y1)]) (fun dQ x1 y1=>mJ l1 dQ x1 y1=some r0) BIG 0 [] Z Z hf (fun _ _ hz=>fC hz) ?_))))))))); intro dQ x1 y1 hf; rw [mJ] at hf; refine V 1 Z (C hf Z (fun h1 hf=>?_) fun h1 hf=>?_)
 ·
  refine B1 hf fun s1 h2 hf=>W 0 Z (AS Z (AO.dP h2 Z Z Z Z tN Z Z (U 4 Z (AS Z (AO.Fz (i:=0) (l:=y1) Z Z Z Z Dq qG Wo (U 1 Z (AR.bR Z Z (AO.GD (i:=0) (l:=y1) Z Z Z Z Z Dq qG (U 2 Z (AS Z (AO.Fz (i:=0) (l:=(qH y1 s1 (bL ((oD y1 s1) + 1)))) Z Z Z Z Dq qG Wo ?_))))))))))); refine J 1 Z (C hf Z (fun h3 hf=>?_) fun h3 hf=>?_)
  · cases hf; exact M 1 Z (Y Z h)
  exact M 2 Z ⟨(bL (x1 + 1)),(qH y1 s1 (bL ((oD y1 s1) + 1))),Z,Z,Z,hf⟩
 cases hf; exact M 1 Z (Y Z h)⟩
instance abr (e1:ah) (bG:Int):CT Tryz.prog (xL e1 bG) (fun r=>.ret (iP r)) 184 [.agg (aP e1),iP bG]:=by
  unfold xL; exact Z1 ⟨65,[],[]⟩ Z Tryz.func184 Z Z Z Z
section
variable (jF : ah → Int → Option Int) [Xu : ∀ (iF : ah) (b_ : Int), CT Tryz.prog (jF iF b_) (fun r => .ret (iP r)) 109 [.agg (aP iF), iP b_]]
instance (e1 :ah) (bG:Int) (n_ eZ):LE (qb jF e1 bG n_ eZ) (fun j p=>qb jF e1 bG j p) n_ eZ [] [] [] [1,16,17] (fun v w p=>[(18,iP p)]) (fun v w p s=>s):=⟨Z⟩
instance JW (e1:ah) (bG:Int):CT Tryz.prog (vD jF e1 bG) (fun r=>.ret (iP r)) 109 [.agg (aP e1),iP bG]:=by
  unfold vD; exact Z1 ⟨30,[],[]⟩ Z Tryz.func109 Z Z Z Z
end
theorem EJ :∀ k:Nat,(∀ (iF:ah) (b_:Int),CT Tryz.prog (mI k iF b_) (fun r=>.ret (iP r)) 109 [.agg (aP iF),iP b_])
  | 0=>fun _ _=>CT.none Z
  | k + 1=>by
    obtain (i0):=EJ k; exact fun iF b_=>JW _ iF b_
instance aaz (iF:ah) (b_:Int):CT Tryz.prog (Dm iF b_) (fun r=>.ret (iP r)) 109 [.agg (aP iF),iP b_]:=(EJ BIG) iF b_
instance E_ (e1:ah):CT Tryz.prog (jB e1) (fun r=>.ret (iP r)) 70 [.agg (aP e1)]:=by
  unfold jB; exact Z1 ⟨8,[],[]⟩ Z Tryz.func70 Z Z Z Z
section
variable [I6]
instance abu (eH:List aA):CT Tryz.prog (xM eH) (fun r=>.ret (.tuple [.agg (aP r.1),iP r.2.1,iP r.2.2])) 63 [.list (List.map aA.cells eH)]:=by
  unfold xM; exact Z1 ⟨27,[],[]⟩ Z Tryz.func63 Z Z Z Z
end
instance aaB (eH:List aA) (n1:Int) (aZ:Str):CT Tryz.prog (yX eH n1 aZ) (fun r=>.ret (iP r)) 64 [.list (List.map aA.cells eH),iP n1,.str aZ]:=by
  unfold yX; exact Z1 ⟨18,[],[]⟩ Z Tryz.func64 Z Z Z Z
section
variable [I6]
instance Ny (aZ:Str):CT Tryz.prog (vH aZ) (fun r=>.ret (.tuple [.agg (aP r.1),iP r.2.1,iP r.2.2])) 30 [.str aZ]:=by
  unfold vH; exact Z1 ⟨46,[],[(8,1,6,7,0)]⟩ Z Tryz.func30 Z Z Z Z
end
section
variable [I6]
theorem wz {b:Nat} {vp v p:Value} {jh r0:List aK} {text1:Str} (hf:jQ jh text1=some r0) (hroom:roomy v=true) {R:dL→List aQ→Prop} (h:∀ vp',R (.ret (.tuple [])) [.ku b 74 [(.own vp' ((List.map aK.cells r0))),.val (.pointer none),.own (.slice none 0 0) (List.map fG [])],.row vp' ((List.map aK.cells r0)).length 12 39]):PC 31 [pP b] [.row v (List.length text1) 1 5,.ku b 74 [(.own vp ((List.map aK.cells jh))),.val p,.own v (List.map fG text1)],.row vp ((List.map aK.cells jh)).length 12 39] R:=by
 unfold jQ at hf; refine AC.jC 25 [] [0] Tryz.func31 Z Z Z Z Z (AW.seq (AW.sr (AR.step Z Z Z (AO.calc' Z ?_)))); refine AR.step Z Z Z (AO.nilCheck Z Z (AR.step Z Z Z (AO.bI Z Z FD (AR.step Z Z Z (AO.call Z _ Z Z agN (AC.frame (σ:=[_,_]) (τ:=[_]) (aal (AR.step Z Z Z (AO.calc' Z ?_))))))))); refine AR.nil [0,6] Z (AW.cond Z (fun h1=>?_) (fun h1=>?_))
 ·
  replace hf:=jP h1 hf; refine AW.VQ 4 12 [] [.row v (List.length text1) 1 5,.ku b 74 [(.own vp ((List.map aK.cells jh))),.val p,.own v (List.map fG text1)],.row vp ((List.map aK.cells jh)).length 12 39] (fun S e s=>∃ v2:Value,e.get 0=pP b∧e.get 7=pP b∧e.get 10=pP b∧(S 4=true→e.get 11=.own vp ((List.map aK.cells jh)))∧(S 5=true→e.get 12=pP b)∧(S 6=true→e.get 13=pP b)∧(S 7=true→e.get 14=.val (.pointer (some ⟨b,1,none⟩)))∧(S 8=true→e.get 15=.str text1)∧(S 9=true→e.get 16=.agg [.str text1,.bool false,iP 0,.str ([]:Str),iP 0,.bool false,iP 0,.str ([]:Str),.own (.slice none 0 0) [],.own (.slice none 0 0) [],.own (.slice none 0 0) [],.own (.slice none 0 0) []])∧(S 10=true→e.get 17=.list ((List.map aK.cells [(aK.mk text1 false (ah.mk 0 ([]:Str) (av.mk 0 false 0 ([]:Str) [] []) [] []))])))∧(S 11=true→e.get 18=.own v2 ((List.map aK.cells r0)))∧s=(bif S 8 then [] else [.row v (List.length text1) 1 5]) ++ [.ku b 74 [(.own vp ((List.map aK.cells jh))),.val p,.own v (List.map fG text1)],bif S 11 then .row v2 ((List.map aK.cells r0)).length 12 39 else .row vp ((List.map aK.cells jh)).length 12 39]) mixed (by kernel_rfl) Z Z (List.Perm.refl _) ?_ ?_ ?_ ?_
  ·
   refine Ev.cs gq 4 Z (Ev.nil ?_); exact ⟨.nilIface,Z,Z,Z,(fun h=>by cases h),(fun h=>by cases h),(fun h=>by cases h),(fun h=>by cases h),(fun h=>by cases h),(fun h=>by cases h),(fun h=>by cases h),(fun h=>by cases h),Z⟩
  ·
   rintro S S' e s hS ⟨v2,p0,p7,WZ,q4,q5,q6,q7,q8,q9,Yb,Ya,qs⟩; have z:=fun i h1 h2=>(hS i h1 h2).symm; refine ⟨v2,p0,p7,WZ,?_,?_,?_,?_,?_,?_,?_,?_,?_⟩
   ·
    rw [z 4 (by decide) (by decide)]; exact q4
   ·
    rw [z 5 (by decide) (by decide)]; exact q5
   ·
    rw [z 6 (by decide) (by decide)]; exact q6
   ·
    rw [z 7 (by decide) (by decide)]; exact q7
   ·
    rw [z 8 (by decide) (by decide)]; exact q8
   ·
    rw [z 9 (by decide) (by decide)]; exact q9
   ·
    rw [z 10 (by decide) (by decide)]; exact Yb
   ·
    rw [z 11 (by decide) (by decide)]; exact Ya
   ·
    rw [z 8 (by decide) (by decide),z 11 (by decide) (by decide)]; exact qs
  ·
   rintro S e s i o ⟨v2,p0,p7,WZ,q4,q5,q6,q7,q8,q9,Yb,Ya,rfl⟩ hi1 hi2 N9 hp' ho; have hi:i=4∨i=5∨i=6∨i=7∨i=8∨i=9∨i=10∨i=11:=by omega
   rcases hi with rfl | rfl | rfl | rfl | rfl | rfl | rfl | rfl
   ·
    cases ho; refine ⟨Z,(fun t ht=>by cases ht; decide),AO.less (Less.add WZ Less.nil) ?_⟩; cases h8:S 8 with
    | false=>
     refine AO.iV (i:=1) Z Z Z Lu Z Z ?_; exact ⟨v2,p0,p7,WZ,(fun _=>Z),q5,q6,q7,(fun h=>by rw [show S 8=true from h] at h8; cases h8),q9,Yb,Ya,by simp [h8]⟩
    | true=>
     refine AO.iV (i:=0) Z Z Z Lu Z Z ?_; exact ⟨v2,p0,p7,WZ,(fun _=>Z),q5,q6,q7,q8,q9,Yb,Ya,by simp [h8]⟩
   ·
    cases ho; refine ⟨Z,(fun t ht=>by cases ht; decide),AO.less (Less.add p0 Less.nil) (AO.calc' Z ?_)⟩; exact ⟨v2,p0,p7,WZ,q4,(fun _=>Z),q6,q7,q8,q9,Yb,Ya,Z⟩
   ·
    cases ho; have s5:=hp' 5 (any_beq.1 Z) (by decide); refine ⟨Z,(fun t ht=>by cases ht; decide),AO.less (Less.add (q5 s5) Less.nil) (AO.nilCheck Z Z ?_)⟩; exact ⟨v2,p0,p7,WZ,q4,q5,(fun _=>Z),q7,q8,q9,Yb,Ya,Z⟩
   ·
    cases ho; have s6:=hp' 6 (any_beq.1 Z) (by decide); refine ⟨Z,(fun t ht=>by cases ht; decide),AO.less (Less.add (q6 s6) Less.nil) (AO.bI Z Z FD ?_)⟩; exact ⟨v2,p0,p7,WZ,q4,q5,q6,(fun _=>Z),q8,q9,Yb,Ya,Z⟩
   ·
    cases ho; have s7:=hp' 7 (any_beq.1 Z) (by decide); rw [N9]; refine ⟨Z,(fun t ht=>by cases ht; decide),AO.less (Less.add (q7 s7) Less.nil) ?_⟩; refine AO.call Z _ Z Z agO (AC.frame (σ:=[_,_]) (τ:=[_]) (Td hroom ?_)); exact ⟨v2,p0,p7,WZ,q4,q5,q6,q7,(fun _=>Z),q9,Yb,Ya,Z⟩
   ·
    cases ho; have s8:=hp' 8 (any_beq.1 Z) (by decide); refine ⟨Z,(fun t ht=>by cases ht; decide),AO.less (Less.add (q8 s8) Less.nil) (AO.build Z K_ P_ Z ?_)⟩; exact ⟨v2,p0,p7,WZ,q4,q5,q6,q7,q8,(fun _=>Z),Yb,Ya,Z⟩
   ·
    cases ho; have s9:=hp' 9 (any_beq.1 Z) (by decide); refine ⟨Z,(fun t ht=>by cases ht; decide),AO.less (Less.add (q9 s9) Less.nil) (AO.bF ((List.map aK.cells [(aK.mk text1 false (ah.mk 0 ([]:Str) (av.mk 0 false 0 ([]:Str) [] []) [] []))])) rfl Ka rfl rfl rfl (by first | rfl | simp only [List.map,aK.aS]) ?_)⟩
    exact ⟨v2,p0,p7,WZ,q4,q5,q6,q7,q8,q9,(fun _=>Z),Ya,Z⟩
   ·
    cases ho; have s4:=hp' 4 (any_beq.1 Z) (by decide); have s8:=hp' 8 (any_beq.1 Z) (by decide); have s10:=hp' 10 (any_beq.1 Z) (by decide); rw [N9,s8]; refine ⟨Z,(fun t ht=>by cases ht; decide),AO.less (Less.add (q4 s4) (Less.add (Yb s10) Less.nil)) ?_⟩; refine AO.wC (i:=1) (l:=jh) (m:=[(aK.mk text1 false (ah.mk 0 ([]:Str) (av.mk 0 false 0 ([]:Str) [] []) [] []))]) hf Z Z Z Z Z Z Z Ka tO Z Z Z (aK.dK) (aK.cells_one) (by decide) (fun v3 s2 hs2=>?_); cases hs2; exact ⟨v3,p0,p7,WZ,q4,q5,q6,q7,q8,q9,Yb,(fun _=>Z),by simp [s8]⟩
  rintro S e s hS ⟨v2,p0,p7,WZ,q4,q5,q6,q7,q8,q9,Yb,Ya,rfl⟩; rw [hS 8 (by decide) (by decide),hS 11 (by decide) (by decide)]; refine AR.less (Less.add p0 (Less.add p7 (Less.add (Ya (hS 11 (by decide) (by decide))) Less.nil))) ?_; refine AR.step Z Z Z (AO.nilCheck Z Z (AR.step Z Z Z (AO.bI Z Z K7 ?_))); refine AR.bR Z Z (AO.pJ (i:=0) Z Z Z Lu Z Z Z Z Z ?_); refine AR.nil [0] Z (AW.region (AR.step Z Z Z (AO.calc' Z (AR.step Z Z Z (AO.nilCheck Z Z ?_))))); refine AR.step Z Z Z (AO.bI Z Z FD (AR.step Z Z Z (AO.call Z _ Z Z adf (AC.frame (σ:=[_]) (τ:=[_]) (Nk (AR.nil [] Z ?_)))))); exact ⟨Z,[],Z,_,List.Sublist.refl _,h v2⟩
 ·
  obtain rfl:=Option.some.inj (ji h1 hf); refine AW.skip (AW.drop1 (AW.region (AR.step Z Z Z (AO.calc' Z ?_)))); refine AR.step Z Z Z (AO.nilCheck Z Z (AR.step Z Z Z (AO.bI Z Z FD (AR.step Z Z Z (AO.call Z _ Z Z adf (AC.frame (σ:=[_]) (τ:=[_]) (Nk (AR.nil [] Z ?_)))))))); exact ⟨Z,[],Z,_,List.Sublist.refl _,h vp⟩
instance rP (s1:Str):CT Tryz.prog (lU s1) (fun r=>.ret (.tuple [.list (List.map aK.cells r.1),iP r.2.1,iP r.2.2])) 11 [.str s1]:=⟨zP rfl,fun {r} hf {τ Q} h=>by
 obtain ⟨r0,r1,r2⟩:=r; unfold lU at hf; refine AC.none (AC.jC 76 [.tmp 2,.tmp 3,.tmp 4] [0] Tryz.func11 Z Z Z Z Z (AW.sr (AR.step Z Z Z (AO.jO Z Z ?_)))); refine cs 2 Z (AR.nil [0] Z (AW.seq (AW.sr ?_))); refine cs 1 Z (AR.step Z Z Z (AO.tZ Z Z Z Z qG Z (cs 1 Z (AR.nil [0,14] Z ?_)))); refine AW.cond Z (fun h1=>?_) (fun h1=>?_)
 · replace hf:=jP h1 hf; refine AW.sr (AR.step Z Z Z (AO.jO Z Z (cs 2 Z (AR.nil [2,3,4] Z ?_)))); refine AW.ret ?_; cases hf; exact ⟨rfl,_,⟨_,_,rfl,rfl,_,_,rfl,rfl,_,_,rfl,rfl,rfl⟩,[],List.nil_sublist _,h⟩
 replace hf:=ji h1 hf; refine AW.skip (AW.row 12 39 (AW.sr ?_)); refine AR.step Z Z Z (AO.UY Z agf (fun b=>?_)); refine AR.nil [0,5] Z (AW.row 1 5 (AW.seq (AW.sr ?_))); refine cs 1 Z (AR.nil [0,5,6] Z (AW.block (AW.settle [0,5,6] Z ?_))); refine AW.ae6 (fun bK jh vp text1 vt p=>[(0,.str s1),(5,pP b),(6,iP bK)]) (fun bK jh vp text1 vt p=>[.row vt (List.length text1) 1 5,.ku b 74 [(.own vp ((List.map aK.cells jh))),.val p,.own vt (List.map fG text1)],.row vp ((List.map aK.cells jh)).length 12 39]) (fun dQ bK jh vp text1 vt p=>jE s1 dQ bK jh text1=some (r0,r1,r2)∧(p=Value.pointer none∨p=.pointer (some ⟨b,1,none⟩))∧roomy vt=true) BIG 0 [] (.slice none 0 0) [] (.slice none 0 0) (.pointer none) Z Z ⟨hf,.inl Z,Z⟩ (fun _ _ _ _ _ _ hz=>fC hz.1) ?_; intro dQ bK jh vp text1 vt p hfI; obtain ⟨hf,hp,hroom⟩:=hfI; rw [jE] at hf; refine AW.seq (AW.sr (cs 2 Z (AR.step Z Z Z (AO.tZ Z Z Z Z qG Z ?_)))); refine cs 1 Z (AR.nil [0,5,6,18] Z (AW.cond Z (fun h2=>?_) (fun h2=>?_)))
 ·
  replace hf:=jP h2 hf; refine AW.skip (AW.block (AW.sr (cs 2 Z ?_))); refine B1 hf fun HV h3 hf=>AR.step Z Z Z (AO.Qb h3 Z qG Z ⟨_,Z⟩ Z (cs 1 Z (AR.nil [0,5,6,7] Z (AW.block ?_)))); refine AW.sr (cs 1 Z ?_); refine B1 hf fun b1 h4 hf=>AR.step Z Z Z (AO.call Z _ Z Z adk ((yN _ _).h h4 (cs 1 Z (AR.nil [0,5,6,7,29] Z (AW.cond Z (fun h5=>?_) (fun h5=>?_))))))
  · replace hf:=jP h5 hf; refine B1 hf fun RB h6 hf=>AW.sr (AR.step Z Z Z (AO.bI Z Z FD (AR.step Z Z Z (AO.call Z _ Z Z adj (AC.frame (σ:=[_,_]) (τ:=[_]) (E8 hp hroom h6 (fun v2 hr2=>(AR.nil [0,5,6] Z ?_)))))))); refine AW.region (cs 3 Z (AR.nil [0,5,6] Z ?_)); exact ⟨(bL (bK + 2)),jh,vp,RB,v2,_,Z,Z,Z,hf,.inr Z,hr2⟩
  replace hf:=ji h5 hf; refine B1 hf fun b2 h6 hf=>AW.sr (cs 1 Z (AR.step Z Z Z (AO.call Z _ Z Z adk ((yN _ _).h h6 (cs 1 Z ?_))))); refine AR.nil [0,5,6,36] Z (AW.cond Z (fun h7=>?_) (fun h7=>?_))
  ·
   replace hf:=jP h7 hf; refine AW.sr (cs 3 Z ?_); refine B1 hf fun ql h8 hf=>AR.step Z Z Z (AO.call Z _ Z Z agS ((J3 _ _).h h8 (cs 1 Z (AR.nil [0,5,6,8] Z (AW.seq ?_))))); refine AW.sr (cs 2 Z (AR.nil [0,5,6,8,44] Z (AW.cond Z (fun h9=>?_) (fun h9=>?_))))
   · replace hf:=jP h9 hf; refine AW.sr (cs 1 Z (AR.step Z Z Z (AO.jO Z Z (cs 2 Z ?_)))); refine AR.nil [2,3,4] Z (AW.ret ?_); cases hf; exact ⟨rfl,_,⟨_,_,rfl,rfl,_,_,rfl,rfl,_,_,rfl,rfl,rfl⟩,[],List.nil_sublist _,h⟩
   replace hf:=ji h9 hf; refine AW.skip (AW.sr (cs 4 Z ?_)); refine B1 hf fun x1 h10 hf=>AR.step Z Z Z (AO.Qb h10 Z qG Z ⟨_,Z⟩ ⟨_,Z⟩ ?_); obtain ⟨e1,n1,o8,h11,hf⟩:=qy hf; refine AR.step Z Z Z (AO.call Z _ Z Z agR ((Ny _).h h11 (cs 4 Z (AR.step Z Z Z (AO.bW Z F3 (fun b9=>(AR.bR Z Z (AO.dD (i:=0) Z Z Z uJ Z Z Z Z Z ?_)))))))); refine cs 2 Z (AR.nil [0,5,6,8,9,10,11] Z (AW.seq (AW.sr ?_))); refine cs 2 Z (AR.nil [0,5,6,8,9,10,11,57] Z (AW.cond Z (fun h12=>?_) (fun h12=>?_)))
   · replace hf:=jP h12 hf; refine AW.sr (cs 5 Z (AR.step Z Z Z (AO.jO Z Z (cs 2 Z ?_)))); refine AR.nil [2,3,4] Z (AW.ret ?_); cases hf; exact ⟨rfl,_,⟨_,_,rfl,rfl,_,_,rfl,rfl,_,_,rfl,rfl,rfl⟩,[],List.nil_sublist _,h⟩
   replace hf:=ji h12 hf; refine B1 hf fun Qk Gc hf=>B1 hf fun Qj FW hf=>AW.skip (AW.sr (AR.step Z Z Z (AO.call Z _ Z Z adi (AC.perm (WX _ _ _ _) (AC.frame (σ:=[_,_,_]) (τ:=[_]) (wz Gc hroom (fun vp2=>(AR.nil [0,5,8,9] Z ?_)))))))); refine AW.row 1 5 (AW.sr (AR.step Z Z Z (AO.bI Z Z K7 ?_))); refine AR.step Z Z Z (AO.iV (i:=1) Z Z Z Lu Z Z ?_); refine AR.step rfl rfl rfl (AO.bJ (i:=3) rfl rfl rfl uJ rfl rfl (AR.step rfl rfl rfl (AO.build rfl K_ P_ rfl (AR.step rfl rfl rfl (AO.bF ((List.map aK.cells [(aK.mk ([]:Str) true e1)])) rfl Ka rfl rfl rfl (by first | rfl | simp only [List.map,aK.aS]) ?_))))); refine AR.step Z Z Z (AO.wC (i:=2) (l:=Qk) (m:=[(aK.mk ([]:Str) true e1)]) FW Z Z Z Z Z Z Z Ka tO Z Z Z (aK.dK) (aK.cells_one) (by decide) (fun vp3 s2 hs2=>?_)); cases hs2
   refine AR.step Z Z Z (AO.bI Z Z K7 ?_); refine AR.bR Z Z (AO.pJ (i:=1) Z Z Z Lu Z Z Z Z Z ?_); refine AR.nil [0,5,8] Z (AW.Uy 3 Z (AW.region (cs 3 Z ?_))); refine AR.nil [0,5,6] Z ?_; exact ⟨(bL (ql + 1)),Qj,vp3,[],.slice none 0 0,_,Z,Z,Z,hf,.inl Z,Z⟩
  replace hf:=ji h7 hf; refine B1 hf fun c1 h8 hf=>B1 hf fun YQ h9 hf=>AW.sr (AR.step Z Z Z (AO.bI Z Z FD (cs 2 Z (AR.step Z Z Z (AO.w_ h8 Z qG Z Z ?_))))); refine AR.step Z Z Z (AO.call Z _ Z Z adj (AC.frame (σ:=[_,_]) (τ:=[_]) (E8 hp hroom h9 (fun v2 hr2=>(AR.nil [0,5,6] Z (AW.region (cs 3 Z ?_))))))); refine AR.nil [0,5,6] Z ?_; exact ⟨(bL (bK + 1)),jh,vp,YQ,v2,_,Z,Z,Z,hf,.inr Z,hr2⟩
 replace hf:=ji h2 hf; refine B1 hf fun Vr h3 hf=>AW.exit (AW.sr (AR.step Z Z Z (AO.call Z _ Z Z adi (wz h3 hroom (fun vp2=>(AR.nil [5] Z ?_)))))); refine AW.sr (AR.step Z Z Z (AO.bI Z Z K7 ?_)); refine AR.step Z Z Z (AO.iV (i:=0) Z Z Z Lu Z Z ?_); refine cs 3 Z (AR.nil [2,3,4] Z (AW.ret ?_)); cases hf; exact ⟨rfl,_,⟨_,_,rfl,rfl,_,_,rfl,rfl,_,_,rfl,rfl,rfl⟩,[],List.nil_sublist _,h⟩⟩
end
instance U3 (bM:List bT):CT Tryz.prog (IQ bM) (fun r=>.ret (iP r)) 41 [.list (List.map bT.cells bM)]:=⟨zP rfl,fun {r0} hf {τ Q} h=>by
 unfold IQ at hf; refine BN 39 [.tmp 2] [0] Tryz.func41 Z Z Z Z Z (W 2 Z (AS Z (AO.fI (l:=bM) Z Z Z Z ZP Z Z (J 1 Z (C hf Z (fun h1 hf=>?_) fun h1 hf=>?_)))))
 · cases hf; exact M 1 Z (Y Z h)
 refine W 0 Z (AS Z (AO.Mq Z (fun m10=>(U 2 Z (AS Z (AO.fI (l:=bM) Z Z Z Z ZP Z Z (J 1 Z (LK2 (fun x1 y1=>[(3,.val (.map (some m10))),(11,.list (List.map bT.cells bM)),(12,iP (bM.length:Int)),(13,iP x1)]) (fun x1 y1=>[.obj m10 (sM y1)]) (fun dQ x1 y1=>Bw bM dQ x1 y1=some r0) BIG 0 [] Z Z hf (fun _ _ hz=>fC hz) ?_)))))))); intro dQ x1 y1 hf; rw [Bw] at hf; refine V 1 Z (C hf Z (fun h2 hf=>?_) fun h2 hf=>?_)
 ·
  refine B1 hf fun e1 h3 hf=>W 0 Z (AS Z (AO.dP h3 Z Z Z Z ZP (bT.aS _) Z (U 1 Z (AS Z (AO.bW Z agi (fun b5=>?_)))))); refine B1 hf fun x2 h4 hf=>Rr 4 [0,0] Z Z (CL Z ((E_ _).h h4 (J 1 Z (C hf Z (fun h5 hf=>?_) fun h5 hf=>?_))))
  · cases hf; exact M 1 Z (Y Z h)
  refine B1 hf fun e2 h6 hf=>Wr 2 [0] Z Z (CL Z ((Oi _).h h6 (J 3 Z (C hf Z (fun h7 hf=>?_) fun h7 hf=>?_))))
  · cases hf; exact M 2 Z (Y Z h)
  refine Wr 3 [0] Z Z (AS Z (AO.Fz (i:=1) (l:=y1) Z Z Z Z Dq qG Wo (U 1 Z (AR.bR Z Z (AO.GD (i:=1) (l:=y1) Z Z Z Z Z Dq qG (Rr 3 [0] Z Z (AS Z (AO.Fz (i:=1) (l:=(qH y1 e1.name (bL ((oD y1 e1.name) + 1)))) Z Z Z Z Dq qG Wo (J 1 Z (C hf Z (fun h8 hf=>?_) fun h8 hf=>?_))))))))))
  · cases hf; exact M 1 Z (Y Z h)
  refine Wn0 2 Z (AR.drop1 ?_); exact N 0 Z ⟨(bL (x1 + 1)),(qH y1 e1.name (bL ((oD y1 e1.name) + 1))),Z,Z,Z,hf⟩
 cases hf; exact M 1 Z (Y Z h)⟩
instance abz (e1:ah) (bM:List bT):CT Tryz.prog (ET e1 bM) (fun r=>.ret (.tuple [.list (List.map bT.cells r.1),iP r.2])) 125 [.agg (aP e1),.list (List.map bT.cells bM)]:=by
  unfold ET; exact Z1 ⟨19,[],[]⟩ Z Tryz.func125 Z Z Z Z
@[reducible] def Hl :gT bq av→dL
  | .ok r=>.ret (.agg (bA r))
  | .bad e=>.panic (.iface 204 (.agg [iP e.code]))
instance (s1 :List bT) (name1:Str) (n_ eZ):LE (pW s1 name1 n_ eZ) (fun j p=>pW s1 name1 j p) n_ eZ [] [] [] [1,4,7,8] (fun v w p=>[(9,iP p)]) (fun v w p s=>s):=⟨Z⟩
instance BA (s1:List bT) (name1:Str):CT Tryz.prog (yF s1 name1) (fun r=>Hl r) 264 [.list (List.map bT.cells s1),.str name1]:=by
  unfold yF; exact Z1 ⟨22,[],[]⟩ Z Tryz.func264 Z Z Z Z
instance aej (a1:av) (b1:av) (yw:Int):CT Tryz.prog (CO a1 b1 yw) (fun r=>.ret (.bool r)) 364 [.agg (bA a1),.agg (bA b1),iP yw]:=by
  unfold CO; exact Z1 ⟨17,[],[]⟩ Z Tryz.func364 Z Z Z Z
@[reducible] def Rj :gT bq Unit→dL
  | .ok r=>.ret (.tuple [])
  | .bad e=>.panic (.iface 204 (.agg [iP e.code]))
instance aei (ok1:Bool) (e1:Int):CT Tryz.prog (zL ok1 e1) (fun r=>Rj r) 274 [.bool ok1,iP e1]:=by
  unfold zL; exact Z1 ⟨8,[],[]⟩ Z Tryz.func274 Z Z Z Z
instance aaJ (n1:Int):CT Tryz.prog (Dw n1) (fun r=>.ret (.agg (bA r))) 330 [iP n1]:=by
  unfold Dw; exact Z1 ⟨5,[],[]⟩ Z Tryz.func330 Z Z Z Z
@[reducible] def NQ :gT bq av→dL
  | .ok r=>.ret (.agg (bA r))
  | .bad e=>.panic (.iface 204 (.agg [iP e.code]))
instance aby (n1:Int):CT Tryz.prog (ES n1) (fun r=>NQ r) 368 [iP n1]:=by
  unfold ES; exact Z1 ⟨12,[],[]⟩ Z Tryz.func368 Z Z Z Z
@[reducible] def TJ :gT bq av→dL
  | .ok r=>.ret (.agg (bA r))
  | .bad e=>.panic (.iface 204 (.agg [iP e.code]))
instance NG (a1:av) (b1:av):CT Tryz.prog (MR a1 b1) (fun r=>TJ r) 333 [.agg (bA a1),.agg (bA b1)]:=by
  unfold MR; exact Z1 ⟨57,[],[]⟩ Z Tryz.func333 Z Z Z Z
@[reducible] def uV :gT bq av→dL
 | .ok r=>.ret (.agg (bA r))
 | .bad e=>.panic (.iface 204 (.agg [iP e.code]))
@[reducible] def sJ :gT bq av→dL
 | .ok r=>.ret (.agg (bA r))
 | .bad e=>.panic (.iface 204 (.agg [iP e.code]))
abbrev wD (eG:List bT→ah→Option (gT bq av)):Prop:=∀ (BZ:List bT) (iF:ah) {Lp:gT bq av},eG BZ iF=some Lp→∀ {τ:List aQ} {Q:dL→List aQ→Prop} (h:Q (uV Lp) τ),PC 201 [.list (List.map bT.cells BZ),.agg (aP iF)] τ Q
abbrev sZ (eY:List bT→ah→Option (gT bq av)):Prop:=∀ (BZ:List bT) (iF:ah) {Lp:gT bq av},eY BZ iF=some Lp→∀ {τ:List aQ} {Q:dL→List aQ→Prop} (h:Q (sJ Lp) τ),PC 270 [.list (List.map bT.cells BZ),.agg (aP iF)] τ Q
theorem Ho (eG) (je:wD eG) (eY) (qA:sZ eY) (s1:List bT) (e1:ah) {rX:gT bq av} (hf:vW eG eY s1 e1=some rX) (h:Q (uV rX) τ):PC 201 [.list (List.map bT.cells s1),.agg (aP e1)] τ Q:=by
 unfold vW at hf; refine BN 104 [.cell 4 34] [0,1] Tryz.func201 Z Z Z Z Z (W 1 Z (AS Z (AO.bW Z He (fun b4=>(J 4 Z (C hf Z (fun h1 hf=>?_) fun h1 hf=>?_))))))
 · cases hf; exact Wx 3 [0] Z Z (ZC [0] Z Z h)
 refine V 2 Z (C hf Z (fun h2 hf=>?_) fun h2 hf=>?_)
 ·
  rcases uS hf with ⟨e2,h3,hf⟩ | ⟨x1,h3,hf⟩
  · refine W 3 Z (CL Z ((BA _ _).h h3 ?_)); cases hf; exact ⟨Z,[],List.nil_sublist _,h⟩
  refine W 3 Z (CL Z ((BA _ _).h h3 ?_)); cases hf; exact Rx 1 [0] Z Z (ZC [0] Z Z h)
 refine V 2 Z (C hf Z (fun h4 hf=>?_) fun h4 hf=>?_)
 · exact fC hf
 refine V 2 Z (C hf Z (fun h5 hf=>?_) fun h5 hf=>?_)
 ·
  refine B1 hf fun e3 h6 hf=>W 3 Z (AS Z (AO.dP h6 Z Z (ah.bV _) Z EU (ah.aS _) Z ?_)); rcases uS hf with ⟨e4,h7,hf⟩ | ⟨x2,h7,hf⟩
  · refine U 1 Z (CL Z (je _ _ h7 ?_)); cases hf; exact ⟨Z,[],List.nil_sublist _,h⟩
  refine U 1 Z (CL Z (je _ _ h7 (AS Z (AO.bW Z He (fun b5=>?_))))); exact fC hf
 refine V 2 Z (C hf Z (fun h8 hf=>?_) fun h8 hf=>?_)
 · exact fC hf
 refine V 2 Z (C hf Z (fun h9 hf=>?_) fun h9 hf=>?_)
 · exact fC hf
 refine V 2 Z (C hf Z (fun h10 hf=>?_) fun h10 hf=>?_)
 ·
  rcases uS hf with ⟨e5,h11,hf⟩ | ⟨x3,h11,hf⟩
  · refine W 2 Z (CL Z (qA _ _ h11 ?_)); cases hf; exact ⟨Z,[],List.nil_sublist _,h⟩
  refine W 2 Z (CL Z (qA _ _ h11 ?_)); cases hf; exact Rx 1 [0] Z Z (ZC [0] Z Z h)
 refine V 2 Z (C hf Z (fun h12 hf=>?_) fun h12 hf=>?_)
 · exact fC hf
 refine V 2 Z (C hf Z (fun Gc hf=>?_) fun Gc hf=>?_)
 · exact fC hf
 exact fC hf
theorem FR (eG) (je:wD eG) (eY) (qA:sZ eY) (s1:List bT) (e1:ah) {rX:gT bq av} (hf:sO eG eY s1 e1=some rX) (h:Q (sJ rX) τ):PC 270 [.list (List.map bT.cells s1),.agg (aP e1)] τ Q:=by
 unfold sO at hf; refine BN 95 [.cell 4 34] [0,1] Tryz.func270 Z Z Z Z Z (W 1 Z (AS Z (AO.bW Z He (fun b4=>?_)))); refine B1 hf fun e2 h1 hf=>U 3 Z (AS Z (AO.dP h1 Z Z (ah.bV _) Z EU (ah.aS _) Z ?_)); rcases uS hf with ⟨e3,h2,hf⟩ | ⟨x1,h2,hf⟩
 · refine U 1 Z (CL Z (je _ _ h2 ?_)); cases hf; exact ⟨Z,[],List.nil_sublist _,h⟩
 refine U 1 Z (CL Z (je _ _ h2 (AS Z (AO.bW Z He (fun b5=>(Rr 5 [0] Z Z (On 4 16 20 [0,3,4,5] (e1.name == ([124,124]:Str)) Z Z Z Z (J 0 Z (C hf Z (fun h4 hf=>?_) fun h4 hf=>?_)))))))))
 · exact fC hf
 refine B1 hf fun e4 h5 hf=>W 3 Z (AS Z (AO.dP h5 Z Z (ah.bV _) Z EU (ah.aS _) Z ?_)); rcases uS hf with ⟨e5,h6,hf⟩ | ⟨x2,h6,hf⟩
 · refine U 1 Z (CL Z (je _ _ h6 ?_)); cases hf; exact ⟨Z,[],List.nil_sublist _,h⟩
 refine U 1 Z (CL Z (je _ _ h6 (AS Z (AO.bW Z He (fun b6=>(Rw 5 [0] Z Z (C hf Z (fun h7 hf=>?_) fun h7 hf=>?_)))))))
 · exact fC hf
 refine V 2 Z (C hf Z (fun h8 hf=>?_) fun h8 hf=>?_)
 · exact fC hf
 refine V 2 Z (C hf Z (fun h9 hf=>?_) fun h9 hf=>?_)
 · exact fC hf
 refine V 2 Z (C hf Z (fun h10 hf=>?_) fun h10 hf=>?_)
 · exact fC hf
 refine V 2 Z (C hf Z (fun h11 hf=>?_) fun h11 hf=>?_)
 · exact fC hf
 refine V 2 Z (C hf Z (fun h12 hf=>?_) fun h12 hf=>?_)
 · exact fC hf
 refine V 2 Z (C hf Z (fun Gc hf=>?_) fun Gc hf=>?_)
 ·
  rcases uS hf with ⟨e6,FW,hf⟩ | ⟨x3,FW,hf⟩
  · refine Wr 2 [1,0] Z Z (CL Z ((NG _ _).h FW ?_)); cases hf; exact ⟨Z,[],List.nil_sublist _,h⟩
  refine Wr 2 [1,0] Z Z (CL Z ((NG _ _).h FW ?_)); cases hf; exact Rx 1 [2] Z Z (ZC [2] Z Z h)
 exact fC hf
theorem Bq :∀ k:Nat,(wD (j4 k))∧(sZ (jf k)):=by
 intro k
 induction k with
 | zero=>exact ⟨fun _ _ _ hz=>by first | cases hz | (unfold j4 at hz; cases hz),fun _ _ _ hz=>by first | cases hz | (unfold jf at hz; cases hz)⟩
 | succ k ih=>exact ⟨fun BZ iF Lp hz τ Q hq=>Ho (j4 k) ih.1 (jf k) ih.2 BZ iF hz hq,fun BZ iF Lp hz τ Q hq=>FR (j4 k) ih.1 (jf k) ih.2 BZ iF hz hq⟩
instance BF (BZ:List bT) (iF:ah):CT Tryz.prog (D7 BZ iF) (fun r=>uV r) 201 [.list (List.map bT.cells BZ),.agg (aP iF)]:=⟨zP rfl,fun {r} hf {τ Q} h=>((Bq BIG).1) BZ iF hf h⟩
instance TH (BZ:List bT) (iF:ah):CT Tryz.prog (IL BZ iF) (fun r=>sJ r) 270 [.list (List.map bT.cells BZ),.agg (aP iF)]:=⟨zP rfl,fun {r} hf {τ Q} h=>((Bq BIG).2) BZ iF hf h⟩
instance X5 (s1:List bT) (e1:ah):CT Tryz.prog (Ay s1 e1) (fun r=>.ret (.tuple [.agg (bA r.1),iP r.2])) 126 [.list (List.map bT.cells s1),.agg (aP e1)]:=⟨zP rfl,fun {r} hf {τ Q} h=>by
 obtain ⟨r0,r1⟩:=r; unfold Ay at hf; refine AC.none (AC.Kk 10 [.cell 4 34,.cell 5 24] [0,1] [0,1] Tryz.func126 Z Z Z Z Z Tryz.func200 Z Z Z Z Z Z Z aeH (AW.sr (AR.step Z Z Z (AO.FN Z Z Z ?_)))); refine AR.step Z Z Z (AO.bW Z He (fun b4=>(AR.step Z Z Z (AO.bW Z Va (fun b5=>(AR.nil [0,3,4,5] Z (AW.sr ?_))))))); refine cs 1 Z (AR.defer (vs:=[.pointer (some ⟨b4,0,none⟩),.pointer (some ⟨b5,0,none⟩)]) Z Z Z Z Z Z (AR.nil [0,3,4,5] Z (AW.sr ?_))); refine cs 2 Z ?_; rcases uS hf with ⟨f1,h1,hf⟩ | ⟨v1,h1,hf⟩
 ·
  refine AR.step Z Z Z (AO.call Z _ Z Z Y_ ((BF _ _).h h1 ?_)); cases hf; refine ⟨[.pointer (some ⟨b4,0,none⟩),.pointer (some ⟨b5,0,none⟩)],_,Z,Z,Z,(AR.step Z Z Z (AO.Vk Z Z abG (cs 3 Z (AR.step Z Z Z (AO.bW Z Yw (fun b6=>?_))))))⟩; refine AR.bR Z Z (AO.dD (i:=0) Z Z Z YO Z Z Z Z Z (cs 1 Z (AR.nil [0,1,2,3] Z (AW.sr ?_)))); refine cs 1 Z (AR.nil [0,1,2,9] Z (AW.cond Z (fun _=>?_) (fun hh=>by cases hh))); refine AW.ZY 1 3 4 [_] [_,_] mixed (by kernel_rfl) (by kernel_rfl) (by kernel_rfl) Z Z Z (List.Perm.refl _) ?_; refine Ev.cons Z Z Z (AO.build Z He aeA Z zg) (Ev.nil ?_); show Ev _ _ _ _ _ _ _; refine Ev.cs gq 1 Z (Ev.cons Z Z Z (AO.bJ (i:=0) Z Z Z qO Z Z zg) (Ev.nil (TF.bR Z Z (AO.dD (i:=1) Z Z Z Hr Z Z Z Z Z ?_)))); refine TF.nil ?_; show AR _ _ _ _ _ _ _ _; refine AR.bR Z Z (AO.dD (i:=1) Z Z Z qO Z Z Z Z Z (AR.nil [] Z ?_)); exact ⟨rfl,_,⟨_,_,rfl,⟨_,_,2,_,_,rfl,rfl,Hr,rfl⟩,⟨_,_,rfl,⟨_,_,1,_,_,rfl,rfl,qO,rfl⟩,rfl⟩⟩,[],List.nil_sublist _,h⟩
 refine AR.step Z Z Z (AO.call Z _ Z Z Y_ ((BF _ _).h h1 ?_)); cases hf; refine AR.bR Z Z (AO.dD (i:=1) Z Z Z Hr Z Z Z Z Z (AR.bR Z Z (AO.dD (i:=0) Z Z Z qO Z Z Z Z Z (AR.nil [4,5] Z (AW.ret ?_))))); refine ⟨[.pointer (some ⟨b4,0,none⟩),.pointer (some ⟨b5,0,none⟩)],_,Z,Z,Z,(AR.step Z Z Z (AO.RD (p:=.agg [iP 0]) Z Z abI (fun _ _=>by simp only [cu]; exact ⟨[.int .i64 0],Z,aW.cons (by simp [cu]) aW.nil⟩) ?_))⟩
 refine cs 3 Z (AR.step Z Z Z (AO.bW Z Yw (fun b6=>(AR.bR Z Z (AO.dD (i:=0) Z Z Z YO Z Z Z Z Z (cs 1 Z ?_)))))); refine AR.nil [3] Z (AW.sr (cs 1 Z (AR.nil [9] Z ?_))); refine AW.cond Z (fun hh=>by cases hh) (fun _=>?_); refine AW.skip ?_; exact ⟨rfl,_,⟨_,_,rfl,⟨_,_,2,_,_,rfl,rfl,Hr,rfl⟩,⟨_,_,rfl,⟨_,_,1,_,_,rfl,rfl,qO,rfl⟩,rfl⟩⟩,[],List.nil_sublist _,h⟩⟩
section
variable (kV : av → Option av) [ZJ : ∀ (pI : av), CT Tryz.prog (kV pI) (fun r => .ret (.agg (bA r))) 127 [.agg (bA pI)]]
instance (v1 :av) (n_ eZ mY):LE (xk kV v1 n_ eZ mY) (fun j p=>xk kV v1 j p.1 p.2) n_ (eZ,mY) [] [(1,[4,5])] [(9999,6,34),(9999,1,9)] [1,2,3,10,11] (fun v w p=>[(12,iP p.1)]) (fun v w p s=>uz 2 [iP p.2.kind,.bool p.2.lJ,iP p.2.mZ,.str p.2.pF,.own v (List.map av.cells p.2.dh),.own w (List.map iC p.2.keys)] (putRow 1 v ((List.map av.cells p.2.dh).length) (putRow 0 w ((List.map iC p.2.keys).length) (s)))):=⟨Z⟩
instance NH (v1:av):CT Tryz.prog (Dy kV v1) (fun r=>.ret (.agg (bA r))) 127 [.agg (bA v1)]:=by
  unfold Dy; exact Z1 ⟨31,[],[]⟩ Z Tryz.func127 Z Z Z Z
end
theorem Ip :∀ k:Nat,(∀ (pI:av),CT Tryz.prog (Dx k pI) (fun r=>.ret (.agg (bA r))) 127 [.agg (bA pI)])
  | 0=>fun _=>CT.none Z
  | k + 1=>by
    obtain (i0):=Ip k; exact fun pI=>NH _ pI
instance acX (pI:av):CT Tryz.prog (MS pI) (fun r=>.ret (.agg (bA r))) 127 [.agg (bA pI)]:=(Ip BIG) pI
instance aek (e1:ah) (bM:List bT):CT Tryz.prog (JC e1 bM) (fun r=>.ret (.tuple [.agg (bA r.1),iP r.2])) 76 [.agg (aP e1),.list (List.map bT.cells bM)]:=by
  unfold JC; exact Z1 ⟨28,[],[]⟩ Z Tryz.func76 Z Z Z Z
section
variable [I6]
section
variable (iX : av → Option Str) [VI : ∀ (pI : av), CT Tryz.prog (iX pI) (fun r => .ret (.str r)) 128 [.agg (bA pI)]]
instance (v1 :av) (n_ eZ mY):LE (rR iX v1 n_ eZ mY) (fun j p=>rR iX v1 j p.1 p.2) n_ (eZ,mY) [3] [] [(3,1,9)] [1,28,29] (fun v w p=>[(3,.own v (List.map iC p.1)),(30,iP p.2)]) (fun v w p s=>putRow 0 v ((List.map iC p.1).length) (s)):=⟨Z⟩
instance (v1 :av) (n_ eZ mY):LE (wG v1 n_ eZ mY) (fun j p=>wG v1 j p.1 p.2) n_ (eZ,mY) [3] [] [(3,1,9)] [1,28,29] (fun v w p=>[(3,.own v (List.map iC p.1)),(30,iP p.2)]) (fun v w p s=>putRow 0 v ((List.map iC p.1).length) (s)):=⟨Z⟩
instance IV (v1:av):CT Tryz.prog (yA iX v1) (fun r=>.ret (.str r)) 128 [.agg (bA v1)]:=by
  unfold yA; exact Z1 ⟨68,[],[]⟩ Z Tryz.func128 Z Z Z Z
end
theorem D5 :∀ k:Nat,(∀ (pI:av),CT Tryz.prog (yx k pI) (fun r=>.ret (.str r)) 128 [.agg (bA pI)])
  | 0=>fun _=>CT.none Z
  | k + 1=>by
    obtain (i0):=D5 k; exact fun pI=>IV _ pI
instance Yh (pI:av):CT Tryz.prog (F5 pI) (fun r=>.ret (.str r)) 128 [.agg (bA pI)]:=(D5 BIG) pI
end
section
variable [I6]
instance acK (v1:av):CT Tryz.prog (Gq v1) (fun r=>.ret (.tuple [.str r.1,iP r.2])) 77 [.agg (bA v1)]:=by
  unfold Gq; exact Z1 ⟨28,[],[]⟩ Z Tryz.func77 Z Z Z Z
end
section
variable [I6]
instance IY (p1:aK) (bM:List bT):CT Tryz.prog (yE p1 bM) (fun r=>.ret (.tuple [.str r.1,iP r.2])) 42 [.agg (Jt p1),.list (List.map bT.cells bM)]:=by
  unfold yE; exact Z1 ⟨27,[],[]⟩ Z Tryz.func42 Z Z Z Z
end
section
variable [I6]
instance KN (s1:Str) (bM:List bT):CT Tryz.prog (BO s1 bM) (fun r=>.ret (.tuple [.str r.1,iP r.2])) 17 [.str s1,.list (List.map bT.cells bM)]:=⟨zP rfl,fun {r} hf {τ Q} h=>by
 obtain ⟨r0,r1⟩:=r; unfold BO at hf; refine BN 50 [.tmp 4,.tmp 5] [0,1] Tryz.func17 Z Z Z Z Z ?_; obtain ⟨ps1,x1,o8,h1,hf⟩:=qy hf; refine W 3 Z (CL Z ((rP _).h h1 (J 9 Z (C hf Z (fun h2 hf=>?_) fun h2 hf=>?_))))
 · cases hf; exact M 3 Z (Y Z h)
 refine B1 hf fun CR h3 hf=>W 1 Z (CL Z ((U3 _).h h3 (J 3 Z (C hf Z (fun h4 hf=>?_) fun h4 hf=>?_))))
 · cases hf; exact M 3 Z (Y Z h)
 refine W 0 Z (AS Z (AO.JR (eu:=5) Z Yu Z (fun b10=>(U 1 Z (AS Z (AO.fI (l:=ps1) Z Z Z Z tO Z Z (J 1 Z (LK3 (fun x2 b1 v1=>[(1,.list (List.map bT.cells bM)),(10,pP b10),(29,.list (List.map aK.cells ps1)),(30,iP (ps1.length:Int)),(31,iP x2)]) (fun x2 b1 v1=>[.IU b10 v1 72 5 b1]) (fun dQ x2 b1 v1=>wQ bM ps1 dQ x2 b1=some (r0,r1)) BIG 0 [] (.slice none 0 0) Z Z hf (fun _ _ _ hz=>fC hz) ?_)))))))); intro dQ x2 b1 v1 hf; rw [wQ] at hf; refine V 1 Z (C hf Z (fun h5 hf=>?_) fun h5 hf=>?_)
 ·
  refine B1 hf fun e1 h6 hf=>W 0 Z (AS Z (AO.dP h6 Z Z Z Z tO (aK.aS _) Z (U 1 Z (AS Z (AO.bW Z K_ (fun b12=>?_)))))); obtain ⟨t1,VT,h7,hf⟩:=f_ hf; refine Rr 3 [0,0] Z Z (CL Z ((IY _ _).h h7 (J 7 Z (C hf Z (fun h8 hf=>?_) fun h8 hf=>?_))))
  · cases hf; exact M 3 Z (Y Z h)
  refine B1 hf fun b2 h9 hf=>W 1 Z (CL Z (AC.one 1 Z (V3 h9 (fun v2=>⟨_,Z,(BG 2 Z (AR.drop1 ?_))⟩)))); exact N 0 Z ⟨(bL (x2 + 1)),b2,v2,Z,Z,Z,hf⟩
 refine W 0 Z (CL Z (AC.one 0 Z (Py ⟨_,Z,(J 1 Z (C hf Z (fun h10 hf=>?_) fun h10 hf=>?_))⟩)))
 · cases hf; exact M 2 Z (Y Z h)
 refine W 0 Z (CL Z (AC.Qp 0 Z (DL ?_))); cases hf; exact N 2 Z (Y Z h)⟩
end
theorem wu {β:Type} (l:Nat) (T:β→List aQ→Prop) (y:β→ah→Option (Bool × β)) (hy:∀ s x1 b s2 τ,y s x1=some (b,s2)→T s τ→AY Tryz.prog l [.agg (aP x1)] τ (fun out σ'=>out=.ret (.bool b)∧T s2 σ'))
  (ps1:List aK) {s1 s2:β} (hf:jJ y s1 ps1=some s2) {τ:List aQ} (hT:T s1 τ) {Q:dL→List aQ→Prop} (h:∀ τ',T s2 τ'→Q (.ret (.tuple [])) τ'):
  PC 80 [.val (.func (.yield l) #[] #[]),.ref [.list (List.map aK.cells ps1)]] τ Q:=by
 unfold jJ at hf; refine AC.jC 21 [] [0,1] Tryz.func80 Z Z Z Z Z (AW.sr (AR.step Z Z Z (AO.Cy Z Z Lu Z (AR.step Z Z Z (AO.fI (l:=ps1) Z Z Z Z tO Z Z ?_))))); refine cs 1 Z (AR.nil [0,5,6,7] Z (AW.block (AW.Ui (fun (s:β) (τ0:List aQ) (i1:Int)=>[(0,.val (.func (.yield l) #[] #[])),(5,.list (List.map aK.cells ps1)),(6,iP (ps1.length:Int)),(7,iP i1)]) (fun s τ0 i1=>τ0) (fun dQ s τ0 i1=>iA y ps1 dQ s i1=some s2∧T s τ0) BIG s1 τ 0 Z Z ⟨hf,hT⟩ (fun _ _ _ hz=>fC hz.1) ?_))); intro dQ s3 τ3 i1 hfI; obtain ⟨hf,hT⟩:=hfI; rw [iA] at hf; refine AW.sr (cs 1 Z (AR.nil [0,5,6,7,8] Z (AW.seq ?_))); refine AW.cond Z (fun h1=>?_) (fun h1=>?_)
 ·
  replace hf:=jP h1 hf; refine AW.skip (AW.seq (AW.block (AW.sr ?_))); refine B1 hf fun p1 h2 hf=>?_; refine AR.step Z Z Z (AO.dP h2 Z Z Z Z tO (aK.aS _) Z (cs 1 Z (AR.step Z Z Z (AO.bW Z K_ (fun b4=>(AR.bR Z Z (AO.dD (i:=0) Z Z Z agr Z Z Z Z Z ?_))))))); refine AR.nil [0,4,5,6,7] Z (AW.seq (AW.Vq (Db.step Z Z Z Z (AO.bI Z Z acn ?_)))); refine Db.step Z Z Z Z (AO.bJ (i:=0) Z Z Z agq Z Z (Db.step Z Z Z Z (AO.calc' Z ?_))); cases hp:p1.EM with
  | false=>
   replace hf:=ji hp hf; refine Db.of Z (cs 6 Z (AR.drop1 (AR.nil [0,5,6,7,19] Z ?_))); refine AW.cond Z (fun hh=>by cases hh) (fun _=>?_); refine AW.skip (AW.region (cs 2 Z (AR.nil [0,5,6,7] Z ?_))); exact ⟨s3,τ3,(bL (i1 + 1)),Z,Z,Z,hf,hT⟩
  | true=>
   replace hf:=jP hp hf; obtain ⟨b1,s4,h3,hf⟩:=f_ hf; refine Db.run Z Z Z Z (Db.step Z Z Z Z (AO.calc' Z (Db.run Z Z Z Z (Db.step Z Z Z Z (AO.bI Z Z acj ?_))))); refine Db.run Z Z Z Z (Db.step Z Z Z Z (AO.bJ (i:=0) Z Z Z uJ Z Z (Db.drop1 (Db.run Z Z Z Z ?_)))); refine Db.aep Z Z Z Z Z _ Z Z (hy _ _ _ _ _ h3 hT) fun τ4 hT4=>(Db.of Z (cs 2 Z (AR.nil [0,5,6,7,19] Z ?_))); refine AW.cond Z (fun h5=>?_) (fun h5=>?_)
   ·
    cases jP h5 hf; refine AW.ret ?_; exact ⟨rfl,_,rfl,_,List.Sublist.refl _,h _ hT4⟩
   ·
    replace hf:=ji h5 hf; refine AW.skip (AW.region (cs 2 Z (AR.nil [0,5,6,7] Z ?_))); exact ⟨s4,τ4,(bL (i1 + 1)),Z,Z,Z,hf,hT4⟩
 ·
  cases ji h1 hf; refine AW.exit ?_; exact ⟨rfl,_,rfl,_,List.Sublist.refl _,h _ hT⟩
theorem yc (ps1:List aK) (h:Q (.ret (.fn 80 [.ref [.list (List.map aK.cells ps1)]])) τ):PC 46 [.list (List.map aK.cells ps1)] τ Q:=by
 refine BN 4 [.tmp 2] [0] Tryz.func46 Z Z Z Z Z ?_; exact M 4 Z (Y Z h)
def WG :Go.Shelf.Ren:=⟨fun | 6=>135 | 15=>216 | 14=>215 | 28=>296 | 29=>297 | 20=>288 | 21=>289 | 22=>290 | 23=>291 | 24=>292 | 25=>293 | 26=>294 | 27=>295 | 46=>339 | 47=>340 | 48=>341 | 49=>342 | 50=>343 | 57=>380 | n=>n,fun | 22=>32 | 24=>9 | 25=>132 | 3=>3 | 39=>218 | 0=>0 | 53=>269 | 55=>271 | 4=>4 | 46=>263 | 45=>262 | 50=>239 | 5=>5 | 9=>9 | 66=>287 | 70=>291 | 76=>318 | 77=>319 | n=>n,fun | n=>n⟩
theorem agw :Go.Proofs.SlLaysF.n6 Tryz.prog WG:={
 mixed:=by kernel_rfl
 f6:=⟨Tryz.f135.name,by decide,Tryz.func135.trans (congrArg some (by kernel_rfl))⟩
 f14:=⟨Tryz.f215.name,by decide,Tryz.func215.trans (congrArg some (by kernel_rfl))⟩
 f15:=Tryz.func216.trans (congrArg some (by kernel_rfl))
 f20:=⟨Tryz.f288.name,by decide,Tryz.func288.trans (congrArg some (by kernel_rfl))⟩
 f21:=⟨Tryz.f289.name,by decide,Tryz.func289.trans (congrArg some (by kernel_rfl))⟩
 f22:=⟨Tryz.f290.name,by decide,Tryz.func290.trans (congrArg some (by kernel_rfl))⟩
 f23:=⟨Tryz.f291.name,by decide,Tryz.func291.trans (congrArg some (by kernel_rfl))⟩
 f24:=⟨Tryz.f292.name,by decide,Tryz.func292.trans (congrArg some (by kernel_rfl))⟩
 f25:=⟨Tryz.f293.name,by decide,Tryz.func293.trans (congrArg some (by kernel_rfl))⟩
 f26:=⟨Tryz.f294.name,by decide,Tryz.func294.trans (congrArg some (by kernel_rfl))⟩
 f27:=⟨Tryz.f295.name,by decide,Tryz.func295.trans (congrArg some (by kernel_rfl))⟩
 f28:=Tryz.func296.trans (congrArg some (by kernel_rfl))
 f29:=Tryz.func297.trans (congrArg some (by kernel_rfl))
 f46:=⟨Tryz.f339.name,by decide,Tryz.func339.trans (congrArg some (by kernel_rfl))⟩
 f47:=Tryz.func340.trans (congrArg some (by kernel_rfl))
 f48:=Tryz.func341.trans (congrArg some (by kernel_rfl))
 f49:=⟨Tryz.f342.name,by decide,Tryz.func342.trans (congrArg some (by kernel_rfl))⟩
 f50:=⟨Tryz.f343.name,by decide,Tryz.func343.trans (congrArg some (by kernel_rfl))⟩
 f57:=⟨Tryz.f380.name,by decide,Tryz.func380.trans (congrArg some (by kernel_rfl))⟩
 t0:=Tryz.underlying0
 a0:=Tryz.isAgg0
 z0:=Tryz.sizeOf0
 v0:=Tryz.zeroValue0
 t3:=Tryz.underlying3
 a3:=Tryz.isAgg3
 z3:=Tryz.sizeOf3
 v3:=Tryz.zeroValue3
 t4:=Tryz.underlying4
 a4:=Tryz.isAgg4
 z4:=Tryz.sizeOf4
 v4:=Tryz.zeroValue4
 t5:=Tryz.underlying5
 a5:=Tryz.isAgg5
 z5:=Tryz.sizeOf5
 v5:=Tryz.zeroValue5
 t9:=Tryz.underlying9
 a9:=Tryz.isAgg9
 z9:=Tryz.sizeOf9
 v9:=Tryz.zeroValue9
 t22:=Tryz.underlying32
 a22:=Tryz.isAgg32
 z22:=Tryz.sizeOf32
 v22:=Tryz.zeroValue32
 a24:=Tryz.isAgg9
 z24:=Tryz.sizeOf9
 t25:=Tryz.underlying132
 a25:=Tryz.isAgg132
 z25:=Tryz.sizeOf132
 v25:=Tryz.zeroValue132
 t39:=Tryz.underlying218
 a39:=Tryz.isAgg218
 z39:=Tryz.sizeOf218
 v39:=Tryz.zeroValue218
 t45:=Tryz.underlying262
 a45:=Tryz.isAgg262
 z45:=Tryz.sizeOf262
 v45:=Tryz.zeroValue262
 t46:=Tryz.underlying263
 a46:=Tryz.isAgg263
 z46:=Tryz.sizeOf263
 v46:=Tryz.zeroValue263
 t50:=Tryz.underlying239
 a50:=Tryz.isAgg239
 z50:=Tryz.sizeOf239
 v50:=Tryz.zeroValue239
 t53:=Tryz.underlying269
 a53:=Tryz.isAgg269
 z53:=Tryz.sizeOf269
 v53:=Tryz.zeroValue269
 t55:=Tryz.underlying271
 a55:=Tryz.isAgg271
 z55:=Tryz.sizeOf271
 v55:=Tryz.zeroValue271
 t66:=Tryz.underlying287
 a66:=Tryz.isAgg287
 z66:=Tryz.sizeOf287
 v66:=Tryz.zeroValue287
 t70:=Tryz.underlying291
 a70:=Tryz.isAgg291
 z70:=Tryz.sizeOf291
 v70:=Tryz.zeroValue291
 t76:=Tryz.underlying318
 a76:=Tryz.isAgg318
 z76:=Tryz.sizeOf318
 v76:=Tryz.zeroValue318
 t77:=Tryz.underlying319
 a77:=Tryz.isAgg319
 z77:=Tryz.sizeOf319
 v77:=Tryz.zeroValue319}
def QN :Go.Shelf.Ren:=⟨fun | 194=>138 | n=>n,fun | 31=>32 | 9=>9 | 3=>3 | 4=>4 | 0=>0 | n=>n,fun | n=>n⟩
theorem aad :Go.Proofs.Lays.n194 Tryz.prog QN:=by repeat' first | (intros; kernel_rfl) | constructor | decide
theorem Jc :∀ l:List Str,(List.map iC l).flatten=l.map PV.str
 | []=>Z
 | s :: l=>congrArg (PV.str s :: ·) (Jc l)
theorem JM (l:List Str) (hl:l.length≤uU) {Q:dL→List aQ→Prop} (h:∀ v,Q (.ret (.val v)) [.buf v l.length 1 9 (l.map PV.str)]):PC 134 [sP l] [] Q:=by
 refine AC.jC 8 [.tmp 2] [0] Tryz.func134 Z Z Z Z Z (AW.sr (AR.step Z Z Z (AO.jO Z Z (AR.nil [0] Z ?_)))); refine AW.seq (AW.sr (cs 1 Z (AR.step Z Z Z (AO.QH Z Z agp (fun b hb=>?_))))); refine AR.nil [0,4] Z (AW.cond Z (fun h1=>?_) (fun h1=>?_))
 · obtain rfl:l=[]:=List.map_eq_nil_iff.1 (hb h1); refine AW.sr (AR.step Z Z Z (AO.Ij Z Z (AR.nil [2] Z (AW.afq 1 9 ?_)))); refine AW.ret ?_; exact ⟨rfl,_,⟨_,_,rfl,rfl,rfl⟩,_,List.Sublist.refl _,h _⟩
 refine AW.skip (AW.sr (AR.step Z Z Z (AO.D_ [] Z Hu Z Z Z Z Z (fun v1=>(cs 1 Z ?_))))); refine AR.step Z Z Z (AO.UW (i:=0) (l2:=List.map iC l) Z Z Z Z Z Z Z Hu tN (fun y hy=>?_) (fun y hy=>?_) ?_ ?_ (fun v2 s1 hs1=>?_))
 · obtain ⟨s,_,rfl⟩:=List.mem_map.1 hy; rfl
 · obtain ⟨s,_,rfl⟩:=List.mem_map.1 hy; rfl
 · rw [List.length_map]; unfold uU at hl; unfold maxLen; omega
 · rw [List.length_map]; unfold uU at hl; omega
 cases hs1; refine cs 1 Z (AR.nil [2] Z (AW.ret ?_)); have hv:=h v2; rw [←Jc,show l.length=(List.map iC l).length from (List.length_map _).symm] at hv; exact ⟨rfl,_,⟨_,_,rfl,rfl,rfl⟩,_,List.Sublist.refl _,hv⟩
theorem KI (l:List Str) {Q:dL→List aQ→Prop} (h:Q (.ret (sP l)) []):PC 137 [sP l] [] Q:=by
 refine BD 9 [.tmp 2] [0] Tryz.func137 Z Z Z Z Z (W 0 Z (AS Z (AO.jO Z Z (U 2 Z (AS Z (AO.fI (l:=l) Z Z Z Z tN Z Z (U 1 Z (AS Z (AO.fI (l:=l) Z Z Z Z tN Z Z ?_))))))))); refine AS Z (AO.clip (l:=List.map iC l) Z tN Z (by rw [List.length_map]; rfl) (by rw [List.length_map]; rfl) ?_); exact N 1 rfl ⟨rfl,_,⟨_,_,rfl,rfl,rfl⟩,_,List.Sublist.refl _,h⟩
theorem Zm :Go.Sort.SWO (Go.Proofs.ltOf fun a b:uo=>fU a.1 b.1) where
 irrefl:=fun x=>by simp [Go.Proofs.ltOf,EG]
 trans:=fun x y z h1 h2=>by
  simp only [Go.Proofs.ltOf,decide_eq_true_eq] at *; exact vL h1 h2
 ntrans:=fun x y z h1 h2=>by
  simp only [Go.Proofs.ltOf,decide_eq_false_iff_not] at *; exact F9 h1 h2
instance ND (kF:List Str):CT Tryz.prog (vR kF) (fun r=>.ret (sP r)) 82 [sP kF]:=⟨zP rfl,fun {r0} hf {τ Q} h=>by
 unfold vR at hf; split at hf
 case isFalse=>cases hf
 rename_i hg; simp only [Bool.and_eq_true,List.all_eq_true,decide_eq_true_eq] at hg; obtain ⟨hg1,hg2⟩:=hg; cases hf; refine AC.none (AC.jC 11 [.tmp 2] [0] Tryz.func82 Z Z Z Z Z (AW.sr (AR.step Z Z Z (AO.jO Z Z ?_)))); refine AR.nil [0] Z (AW.sr (cs 1 Z (AR.step Z Z Z (AO.call Z _ Z Z aeT (JM kF hg2 fun v=>?_))))); refine cs 1 Z (AR.nil [3] Z (AW.sr (cs 1 Z ?_))); refine AR.step Z Z Z (AO.call Z _ Z Z aeS (AC.YV agw aeR (cf:=fU) (fun a b ha hb=>by letI:fJ:=VL; exact (KO _ _).h (O_ ha hb) Z) Zm (fun x y h1 h2=>uR (by have:=pR x.1 y.1; omega)) hg1 (by unfold uU at hg2; omega) ?_)); refine AR.nil [3] Z (AW.sr (cs 1 Z (AR.step Z Z Z (AO.call Z _ Z Z aeP (AC.aac aad (by rw [List.length_mergeSort]; unfold uU at hg2; omega) fun v2=>?_))))); refine AR.freeze 9 0 (List.map iC (uD kF)) rfl rfl (Jc _) (fun x hx=>by obtain ⟨s,_,rfl⟩:=List.mem_map.1 hx; rfl) (List.length_map _) ?_; refine AR.step Z Z Z (AO.call Z _ Z Z aeQ (AC.none (KI _ (cs 1 Z (AR.nil [2] Z (AW.ret ?_))))))
 exact ⟨rfl,_,⟨_,_,rfl,rfl,rfl⟩,[],List.nil_sublist _,h⟩⟩
theorem KC (bo bv:Nat) (go:ah→List Str→Option (List Str)) (hgo:∀ (e1:ah) (dx:List Str) {r0:List Str},go e1 dx=some r0→∀ {v1:Value} {Q:dL→List aQ→Prop},(∀ vr,Q (.ret (.tuple [])) [.row vr (List.map iC r0).length 1 9,.box bo [.own vr (List.map iC r0)],.box bv [.fn 81 [pP bo,pP bv]]])→PC 81 [.agg (aP e1),pP bo,pP bv] [.row v1 (List.map iC dx).length 1 9,.box bo [.own v1 (List.map iC dx)],.box bv [.fn 81 [pP bo,pP bv]]] Q)
  (e1:ah) (dx:List Str) {r0:List Str} (hf:ug go e1 dx=some r0) {v1:Value} {Q:dL→List aQ→Prop} (h:∀ vr,Q (.ret (.tuple [])) [.row vr (List.map iC r0).length 1 9,.box bo [.own vr (List.map iC r0)],.box bv [.fn 81 [pP bo,pP bv]]]):PC 81 [.agg (aP e1),pP bo,pP bv] [.row v1 (List.map iC dx).length 1 9,.box bo [.own v1 (List.map iC dx)],.box bv [.fn 81 [pP bo,pP bv]]] Q:=by
 unfold ug at hf; refine AC.jC 25 [] [0,1,2] Tryz.func81 Z Z Z Z Z (AW.sr (AR.step Z Z Z (AO.FN Z Z Z (AR.nil [1,2,3] Z ?_)))); refine AW.seq (AW.ahA (fun (l:List Str) (v:Value)=>[(1,pP bo),(2,pP bv),(3,.ref (aP e1))]) (fun l v=>[.row v (List.map iC l).length 1 9,.box bo [.own v (List.map iC l)],.box bv [.fn 81 [pP bo,pP bv]]]) (fun l v=>kS go e1 BIG l 0=some r0) ?_ ?_)
 ·
  refine AW.sr (cs 3 Z (AR.nil [1,2,3,8] Z (AW.cond Z (fun h1=>?_) (fun h1=>?_))))
  ·
   replace hf:=jP h1 hf; refine AW.region (AR.step Z Z Z (AO.bJ (i:=1) Z Z Z ac_ Z Z (cs 2 Z (AR.step Z Z Z (AO.bF (List.map iC ([e1.name]:List Str)) Z Hu Z Z Z Z ?_))))); refine B1 hf fun wE h2 hf=>AR.step Z Z Z (AO.wC (i:=0) (l:=dx) (m:=[e1.name]) h2 Z Z Z Z Z Z Z Hu tN Z Z Z (fun _=>Z) (fun _=>Z) (by decide) (fun v2 s1 hs1=>?_)); cases hs1; refine AR.bR Z Z (AO.dD (i:=1) Z Z Z ac_ Z Z Z Z Z (AR.nil [1,2,3] Z ?_)); exact ⟨wE,v2,Z,Z,Z,hf⟩
  replace hf:=ji h1 hf; refine AW.settle [1,2,3] Z (AW.skip ?_); exact ⟨dx,v1,Z,Z,Z,hf⟩
 intro wE v2 hf; refine AW.sr (cs 2 Z (AR.step Z Z Z (AO.fI (l:=e1.args) Z Z Z Z EU Z (ah.bV _) (cs 1 Z ?_)))); refine AR.nil [1,2,15,16,17] Z (AW.block (AW.settle [1,2,15,16,17] Z (AW.Ui (fun (l:List Str) (v:Value) (i1:Int)=>[(1,pP bo),(2,pP bv),(15,.list (ah.bC e1.args)),(16,iP (e1.args.length:Int)),(17,iP i1)]) (fun l v i1=>[.row v (List.map iC l).length 1 9,.box bo [.own v (List.map iC l)],.box bv [.fn 81 [pP bo,pP bv]]]) (fun dQ l v i1=>kS go e1 dQ l i1=some r0) BIG wE v2 0 Z Z hf (fun _ _ _ hz=>fC hz) ?_))); intro dQ W9 v3 i1 hf; rw [kS] at hf; refine AW.sr (cs 1 Z (AR.nil [1,2,15,16,17,18] Z (AW.seq ?_))); refine AW.cond Z (fun h1=>?_) (fun h1=>?_)
 ·
  replace hf:=jP h1 hf; refine AW.skip (AW.seq (AW.block (AW.sr ?_))); refine B1 hf fun a1 h2 hf=>AR.step Z Z Z (AO.dP h2 Z Z (ah.bV _) Z EU (ah.aS _) Z (cs 1 Z (AR.step Z Z Z (AO.bW Z F3 (fun b5=>(AR.bR Z Z (AO.dD (i:=0) Z Z Z uJ Z Z Z Z Z ?_))))))); refine AR.nil [1,2,5,15,16,17] Z (AW.region (AR.step Z Z Z (AO.bJ (i:=3) Z Z Z aey Z Z (AR.step Z Z Z (AO.bJ (i:=0) Z Z Z uJ Z Z ?_))))); refine AR.drop1 ?_; refine B1 hf fun Ze h3 hf=>AR.step Z Z Z (AO.call Z _ Z Z agJ (hgo _ _ h3 fun v4=>(AR.nil [1,2,15,16,17] Z (AW.region (cs 2 Z ?_))))); refine AR.nil [1,2,15,16,17] Z ?_; exact ⟨Ze,v4,(bL (i1 + 1)),Z,Z,Z,hf⟩
 replace hf:=ji h1 hf; refine AW.exit ?_; cases hf; exact ⟨rfl,_,rfl,_,List.Sublist.refl _,h v3⟩
theorem D6 (bo bv:Nat):∀ (k:Nat) (e1:ah) (dx:List Str) {r0:List Str},jH k e1 dx=some r0→∀ {v1:Value} {Q:dL→List aQ→Prop},(∀ vr,Q (.ret (.tuple [])) [.row vr (List.map iC r0).length 1 9,.box bo [.own vr (List.map iC r0)],.box bv [.fn 81 [pP bo,pP bv]]])→PC 81 [.agg (aP e1),pP bo,pP bv] [.row v1 (List.map iC dx).length 1 9,.box bo [.own v1 (List.map iC dx)],.box bv [.fn 81 [pP bo,pP bv]]] Q
 | 0,_,_,_,hz=>fC hz
 | k + 1,e1,dx,r0,hz=>by
  intro h; exact KC bo bv (jH k) (fun e1 dx r0 hz=>D6 bo bv k e1 dx hz) e1 dx hz h
instance OH (e1:ah):CT Tryz.prog (xZ e1) (fun r=>.ret (sP r)) 47 [.agg (aP e1)]:=⟨zP rfl,fun {r0} hf {τ Q} h=>by
 unfold xZ at hf; refine BN 11 [.tmp 2] [0] Tryz.func47 Z Z Z Z Z (W 1 Z (AS Z (AO.jO Z Z (U 0 Z (AR.row 1 9 (AS Z (AO.bW Z agj (fun bo=>(U 0 Z (AS Z (AO.bW Z aeo (fun bv=>?_)))))))))))); refine B1 hf fun dx h1 hf=>Rr 4 [0,0] Z Z (CL Z (AC.perm ((List.Perm.swap _ _ _).trans ((List.Perm.cons _ (List.Perm.swap _ _ _)).trans (List.Perm.swap _ _ _))) (D6 bo bv BIG e1 [] h1 fun v1=>(Rr 1 [1] Z Z (CL Z ((ND _).h hf ?_)))))); exact N 1 Z (Y Z h)⟩
section
variable [I6]
instance NC (s1:Str):CT Tryz.prog (su s1) (fun r=>.ret (.tuple [sP r.1,iP r.2])) 19 [.str s1]:=⟨zP rfl,fun {r} hf {τ Q} h=>by
 obtain ⟨r0,r1⟩:=r; unfold su at hf; refine AC.none (AC.Mc 32 [.tmp 2,.tmp 3] [0] Tryz.func19 Z Z Z Z Z (AW.sr (cs 2 Z ?_))); refine AR.nil [0] Z (AW.sr (cs 1 Z ?_)); obtain ⟨ps1,bK,o8,h1,hf⟩:=qy hf; refine AR.step Z Z Z (AO.call Z _ Z Z adn ((rP _).h h1 (cs 7 Z (AR.nil [0,4,6] Z (AW.seq ?_))))); refine AW.sr (cs 2 Z (AR.nil [0,4,6,16] Z (AW.cond Z (fun h2=>?_) (fun h2=>?_))))
 ·
  cases jP h2 hf; refine AW.sr (cs 1 Z (AR.step Z Z Z (AO.jO Z Z (cs 1 Z ?_)))); refine AR.nil [2,3] Z (AW.ret ?_); exact .inl ⟨rfl,_,⟨_,_,rfl,rfl,_,_,rfl,rfl,rfl⟩,[],List.nil_sublist _,h⟩
 replace hf:=ji h2 hf; refine B1 hf fun a1 h3 hf=>?_; refine B1 hf fun x1 h4 hf=>?_; cases hf; refine AW.skip (AW.sr (AR.step Z Z Z (AO.build Z F3 YU Z (AR.step Z Z Z (AO.bW Z F3 (fun b7=>?_)))))); refine AR.bR Z Z (AO.dD (i:=0) Z Z Z uJ Z Z Z Z Z (AR.nil [4,7] Z (AW.afp 0 [iP 9,.str ([]:Str),iP 0,.bool false,iP 0,.str ([]:Str),.own (.slice none 0 0) [],.own (.slice none 0 0) [],.val (.slice none 0 0),.own (.slice none 0 0) []] Z (fun w m vs hv=>aW.Ij 8 _ vs Z hv) (AW.afq 10 37 ?_)))); refine AW.seq (AW.sr (cs 1 Z (AR.step Z Z Z (AO.call Z _ Z Z adg (yc _ ?_))))); refine AR.nil [7,20] Z (AW.block ?_); refine AW.LX (β:=List ah) (X:=ah) Z ade (fun x1=>[.agg (aP x1)]) (fun _=>Z) (by decide) jy (fun l τ=>∃ v,τ=[.buf v l.length 10 37 (List.flatMap ah.cells l),.box b7 [iP 9,.str ([]:Str),iP 0,.bool false,iP 0,.str ([]:Str),.own (.slice none 0 0) [],.own (.slice none 0 0) [],.val v,.own (.slice none 0 0) []]]) (fun _=>none) (s0:=[]) (s1:=a1) ⟨_,Z⟩ Z ?_ ?_ ?_
 ·
  intro l T' hy τ hT; refine wu l T' jy hy ps1 h3 hT fun τ' hT'=>?_; exact ⟨⟨_,Z⟩,hT'⟩
 ·
  rintro l s x1 b s2 _ hh ⟨v0,rfl⟩; unfold jy at hh; obtain ⟨a2,h5,hh⟩:=lG hh; cases hh; obtain ⟨IB,rfl⟩:=CW h5; refine ⟨Z,(qK.region Z (AR.step Z Z Z (AO.bW Z F3 (fun b8=>(AR.bR Z Z (AO.dD (i:=0) Z Z Z uJ Z Z Z Z Z ?_))))))⟩; refine AR.nil [7,8] Z (⟨Z,(qK.block (qK.drawn mixed Z ?_))⟩)
  refine AD.VQ 0 10 [] [.box b8 (aP x1),.buf v0 s.length 10 37 (List.flatMap ah.cells s),.box b7 [iP 9,.str ([]:Str),iP 0,.bool false,iP 0,.str ([]:Str),.own (.slice none 0 0) [],.own (.slice none 0 0) [],.val v0,.own (.slice none 0 0) []]] (fun S e σ=>∃ v2:Value,e.get 7=pP b7∧e.get 8=pP b8∧(S 0=true→e.get 22=.val (.pointer (some ⟨b7,8,none⟩)))∧(S 1=true→e.get 23=.val v0)∧(S 2=true→e.get 24=.agg (aP x1))∧(S 3=true→e.get 25=iP (s.length:Int))∧(S 4=true→e.get 26=.list [[iP 0,.str ([]:Str),iP 0,.bool false,iP 0,.str ([]:Str),.list (av.bC []),sP ([]),.list (ah.bC []),sP ([])]])
    ∧(S 5=true→e.get 27=.val v2)∧(S 6=true→e.get 28=.val (.pointer (some ⟨v2.blk,s.length * 10,none⟩)))∧(S 8=true→e.get 29=.val (.pointer (some ⟨b7,8,none⟩)))∧(S 6=true→S 5=true)∧(S 9=true→S 5=true)∧(S 7=true→S 5=true)∧(S 5=true→S 1=true∧S 3=true)
    ∧σ=[.box b8 (aP x1),bif S 5 then .buf v2 (s.length + 1) 10 37 (List.flatMap ah.cells s ++ bif S 7 then (aP x1) else [iP 0,.str ([]:Str),iP 0,.bool false,iP 0,.str ([]:Str),.list (av.bC []),sP ([]),.list (ah.bC []),sP ([])]) else .buf v0 s.length 10 37 (List.flatMap ah.cells s),.box b7 (bif S 9 then [iP 9,.str ([]:Str),iP 0,.bool false,iP 0,.str ([]:Str),.own (.slice none 0 0) [],.own (.slice none 0 0) [],.val v2,.own (.slice none 0 0) []] else [iP 9,.str ([]:Str),iP 0,.bool false,iP 0,.str ([]:Str),.own (.slice none 0 0) [],.own (.slice none 0 0) [],.val v0,.own (.slice none 0 0) []])]) (by kernel_rfl) Z Z (List.Perm.refl _) ?_ ?_ ?_ ?_
  ·
   refine Ev.nil ?_; exact ⟨.nilIface,Z,Z,(fun h=>by cases h),(fun h=>by cases h),(fun h=>by cases h),(fun h=>by cases h),(fun h=>by cases h),(fun h=>by cases h),(fun h=>by cases h),(fun h=>by cases h),(fun h=>by cases h),(fun h=>by cases h),(fun h=>by cases h),(fun h=>by cases h),Z⟩
  ·
   rintro S S' e σ hS ⟨v2,p7,p8,q0,q1,q2,q3,q4,q5,q6,q8,g6,g9,g7,g5,qs⟩; have z:=fun i h1 h2=>(hS i h1 h2).symm; refine ⟨v2,p7,p8,?_,?_,?_,?_,?_,?_,?_,?_,?_,?_,?_,?_,?_⟩
   ·
    rw [z 0 (by decide) (by decide)]; exact q0
   ·
    rw [z 1 (by decide) (by decide)]; exact q1
   ·
    rw [z 2 (by decide) (by decide)]; exact q2
   ·
    rw [z 3 (by decide) (by decide)]; exact q3
   ·
    rw [z 4 (by decide) (by decide)]; exact q4
   ·
    rw [z 5 (by decide) (by decide)]; exact q5
   ·
    rw [z 6 (by decide) (by decide)]; exact q6
   ·
    rw [z 8 (by decide) (by decide)]; exact q8
   ·
    rw [z 6 (by decide) (by decide),z 5 (by decide) (by decide)]; exact g6
   ·
    rw [z 9 (by decide) (by decide),z 5 (by decide) (by decide)]; exact g9
   ·
    rw [z 7 (by decide) (by decide),z 5 (by decide) (by decide)]; exact g7
   ·
    rw [z 5 (by decide) (by decide),z 1 (by decide) (by decide),z 3 (by decide) (by decide)]; exact g5
   ·
    rw [z 5 (by decide) (by decide),z 7 (by decide) (by decide),z 9 (by decide) (by decide)]; exact qs
  ·
   rintro S e σ i o ⟨v2,p7,p8,q0,q1,q2,q3,q4,q5,q6,q8,g6,g9,g7,g5,rfl⟩ hi1 hi2 N9 hp ho; have hi:i=0∨i=1∨i=2∨i=3∨i=4∨i=5∨i=6∨i=7∨i=8∨i=9:=by omega
   rcases hi with rfl | rfl | rfl | rfl | rfl | rfl | rfl | rfl | rfl | rfl
   ·
    cases ho; refine ⟨Z,(fun t ht=>by cases ht; decide),AO.less (Less.add p7 Less.nil) (AO.bI Z Z VO ?_)⟩; exact ⟨v2,p7,p8,(fun _=>Z),q1,q2,q3,q4,q5,q6,q8,g6,g9,g7,g5,Z⟩
   ·
    cases ho; have s0:=hp 0 (any_beq.1 Z) (by decide); have n5:S 5=false:=Bool.eq_false_iff.2 fun h=>by rw [(g5 h).1] at N9; cases N9
    have n9:S 9=false:=Bool.eq_false_iff.2 fun h=>by rw [g9 h] at n5; cases n5
    rw [n9,n5]; refine ⟨Z,(fun t ht=>by cases ht; decide),AO.less (Less.add (q0 s0) Less.nil) ?_⟩; refine AO.bJ (i:=2) Z Z Z ac9 Z Z ?_; exact ⟨v2,p7,p8,q0,(fun _=>Z),q2,q3,q4,q5,q6,q8,g6,g9,g7,(fun h=>by rw [show S 5=true from h] at n5; cases n5),by simp [n9,n5]⟩
   ·
    cases ho; refine ⟨Z,(fun t ht=>by cases ht; decide),AO.less (Less.add p8 Less.nil) (AO.bJ (i:=0) Z Z Z uJ Z Z ?_)⟩; exact ⟨v2,p7,p8,q0,q1,(fun _=>Z),q3,q4,q5,q6,q8,g6,g9,g7,g5,Z⟩
   ·
    cases ho; have s1:=hp 1 (any_beq.1 Z) (by decide); have n5:S 5=false:=Bool.eq_false_iff.2 fun h=>by rw [(g5 h).2] at N9; cases N9
    rw [n5]; refine ⟨Z,(fun t ht=>by cases ht; decide),AO.less (Less.add (q1 s1) Less.nil) ?_⟩; refine AO.Iu (i:=1) Z Z Z Z EU Z Z ?_; exact ⟨v2,p7,p8,q0,q1,q2,(fun _=>Z),q4,q5,q6,q8,g6,g9,g7,(fun h=>by rw [show S 5=true from h] at n5; cases n5),by simp [n5]⟩
   ·
    cases ho; refine ⟨Z,(fun t ht=>by cases ht; decide),AO.less Less.nil (AO.bF [[iP 0,.str ([]:Str),iP 0,.bool false,iP 0,.str ([]:Str),.list (av.bC []),sP ([]),.list (ah.bC []),sP ([])]] Z ada Z Z Z Z ?_)⟩; exact ⟨v2,p7,p8,q0,q1,q2,q3,(fun _=>Z),q5,q6,q8,g6,g9,g7,g5,Z⟩
   ·
    cases ho; have s1:=hp 1 (any_beq.1 Z) (by decide); have s3:=hp 3 (any_beq.1 Z) (by decide); have s4:=hp 4 (any_beq.1 Z) (by decide); have n6:S 6=false:=Bool.eq_false_iff.2 fun h=>by rw [g6 h] at N9; cases N9
    have n7:S 7=false:=Bool.eq_false_iff.2 fun h=>by rw [g7 h] at N9; cases N9
    have n9:S 9=false:=Bool.eq_false_iff.2 fun h=>by rw [g9 h] at N9; cases N9
    rw [N9,n9]; refine ⟨Z,(fun t ht=>by cases ht; decide),AO.less (Less.add (q1 s1) (Less.add (q4 s4) Less.nil)) ?_⟩; refine AO.Ns (i:=1) (l2:=[[iP 0,.str ([]:Str),iP 0,.bool false,iP 0,.str ([]:Str),.list (av.bC []),sP ([]),.list (ah.bC []),sP ([])]]) Z Z Z Z Z Z Z ada EU (by intro y hy; cases List.mem_singleton.1 hy; rfl) (by intro y hy; cases List.mem_singleton.1 hy; rfl) (by simp only [List.length_singleton] at IB ⊢; unfold uU at IB; unfold maxLen; omega) (by simp only [List.length_singleton] at IB ⊢; unfold uU at IB; omega) (fun v3 s2 hs2=>?_); cases hs2; exact ⟨v3,p7,p8,q0,q1,q2,q3,q4,(fun _=>Z),(fun h=>by rw [show S 6=true from h] at n6; cases n6),q8,(fun h=>by rw [show S 6=true from h] at n6; cases n6),(fun h=>by rw [show S 9=true from h] at n9; cases n9),(fun h=>by rw [show S 7=true from h] at n7; cases n7),(fun _=>⟨s1,s3⟩),by simp [n7,n9]⟩
   ·
    cases ho; have s3:=hp 3 (any_beq.1 Z) (by decide); have s5:=hp 5 (any_beq.1 Z) (by decide); rw [s5]; refine ⟨Z,(fun t ht=>by cases ht; decide),AO.less (Less.add (q5 s5) (Less.add (q3 s3) Less.nil)) ?_⟩; refine AO.w9 (i:=1) (sz:=10) Z Z Z Z EU (by omega) (by simp) ?_; exact ⟨v2,p7,p8,q0,q1,q2,q3,q4,q5,(fun _=>by simp [BM,Env.get]),q8,(fun _=>s5),g9,g7,g5,by simp [s5]⟩
   ·
    cases ho; have s2:=hp 2 (any_beq.1 Z) (by decide); have s6:=hp 6 (any_beq.1 Z) (by decide); have s5:=g6 s6; rw [s5,N9]; refine ⟨Z,(fun t ht=>by cases ht),AO.less (Less.add (q6 s6) (Less.add (q2 s2) Less.nil)) ?_⟩; have ZH:(List.flatMap ah.cells s).length=s.length * 10:=IJ ah.dK s; refine AO.LB (i:=1) (new:=(aP x1)) (cs':=List.flatMap ah.cells s ++ (aP x1)) Z Z Z uJ Z Z Z (by simp) (by simp [ZH]) ?_ Z ?_
    ·
     unfold putCells; rw [List.take_append_of_le_length (by omega),List.take_of_length_le (by omega),List.drop_of_length_le (by simp [ZH]),List.append_nil]
    exact ⟨v2,p7,p8,q0,q1,q2,q3,q4,q5,q6,q8,g6,g9,(fun _=>s5),g5,by simp [s5]⟩
   ·
    cases ho; refine ⟨Z,(fun t ht=>by cases ht; decide),AO.less (Less.add p7 Less.nil) (AO.bI Z Z VO ?_)⟩; exact ⟨v2,p7,p8,q0,q1,q2,q3,q4,q5,q6,(fun _=>Z),g6,g9,g7,g5,Z⟩
   ·
    cases ho; have s8:=hp 8 (any_beq.1 Z) (by decide); have s5:=hp 5 (any_beq.1 Z) (by decide); rw [s5,N9]; refine ⟨Z,(fun t ht=>by cases ht),AO.less (Less.add (q8 s8) (Less.add (q5 s5) Less.nil)) ?_⟩; simp only [cond_true,cond_false]; refine AO.V5 1 Z fun hv1 hv2=>(AO.dD (i:=2) Z Z Z ac9 hv1 hv2 Z Z Z ?_); exact ⟨v2,p7,p8,q0,q1,q2,q3,q4,q5,q6,q8,g6,(fun _=>s5),g7,g5,by simp [s5]⟩
  rintro S e σ hS ⟨v2,p7,p8,q0,q1,q2,q3,q4,q5,q6,q8,g6,g9,g7,g5,rfl⟩; rw [hS 5 (by decide) (by decide),hS 7 (by decide) (by decide),hS 9 (by decide) (by decide)]; refine AR.nil [] Z (⟨Z,⟨_,.cons _ (List.Sublist.refl _),v2,?_⟩,Z,Z⟩); simp [ah.aS]
 ·
  rintro D _ ⟨v0,rfl⟩; show AW _ _ _ _ _ _ _; refine AW.acg 0 1 (ah.bC a1) Z Z (q:=8) Z (by rw [ah.bV,List.flatMap_def]) (by rw [ah.bV]; intro x hx; obtain ⟨y,_,rfl⟩:=List.mem_map.1 hx; exact ah.dK y) (by rw [ah.bV,List.length_map]) ?_; refine AW.sr (AR.step Z Z Z (AO.bJ (i:=1) Z Z Z uJ Z Z (AR.step Z Z Z (AO.call Z _ Z Z agM ((OH _).h h4 (cs 2 Z ?_)))))); refine AR.nil [2,3] Z (AW.ret ?_)
  exact .inr ⟨D,[_,_],Z,Z,_,⟨_,_,Z,Z,_,_,Z,Z,Z⟩,[],List.nil_sublist _,h⟩⟩
end
section
variable [I6]
instance ahx (v1:av):CT Tryz.prog (aes v1) (fun r=>.ret (.str r)) 110 [.agg (bA v1)]:=by
  unfold aes; exact Z1 ⟨8,[],[]⟩ Z Tryz.func110 Z Z Z Z
end
instance agl (e1:ah):CT Tryz.prog (ac2 e1) (fun r=>.ret (iP r)) 185 [.agg (aP e1)]:=by
  unfold ac2; exact Z1 ⟨33,[],[]⟩ Z Tryz.func185 Z Z Z Z
section
variable [I6]
section
variable (abb : ah → Option Str) [afW : ∀ (iF : ah), CT Tryz.prog (abb iF) (fun r => .ret (.str r)) 71 [.agg (aP iF)]] (aa2 : ah → Int → Option Str) [agk : ∀ (iF : ah) (aa3 : Int), CT Tryz.prog (aa2 iF aa3) (fun r => .ret (.str r)) 111 [.agg (aP iF), iP aa3]]
instance aeW (e1:ah):CT Tryz.prog (abC abb aa2 e1) (fun r=>.ret (.str r)) 71 [.agg (aP e1)]:=by
  unfold abC; exact Z1 ⟨121,[],[]⟩ Z Tryz.func71 Z Z Z Z
instance afT (e1:ah) (adv:Int):CT Tryz.prog (ac3 abb aa2 e1 adv) (fun r=>.ret (.str r)) 111 [.agg (aP e1),iP adv]:=by
  unfold ac3; exact Z1 ⟨15,[],[]⟩ Z Tryz.func111 Z Z Z Z
end
theorem abD :∀ k:Nat,(∀ (iF:ah),CT Tryz.prog (abB k iF) (fun r=>.ret (.str r)) 71 [.agg (aP iF)])∧(∀ (iF:ah) (aa3:Int),CT Tryz.prog (ab2 k iF aa3) (fun r=>.ret (.str r)) 111 [.agg (aP iF),iP aa3])
  | 0=>⟨fun _=>CT.none Z,fun _ _=>CT.none Z⟩
  | k + 1=>by
    obtain ⟨i0,i1⟩:=abD k; exact ⟨fun iF=>aeW _ _ iF,fun iF aa3=>afT _ _ iF aa3⟩
instance afX (iF:ah):CT Tryz.prog (adw iF) (fun r=>.ret (.str r)) 71 [.agg (aP iF)]:=(abD BIG).1 iF
instance ahV (iF:ah) (aa3:Int):CT Tryz.prog (afV iF aa3) (fun r=>.ret (.str r)) 111 [.agg (aP iF),iP aa3]:=(abD BIG).2 iF aa3
end
section
variable [I6]
instance afU (e1:ah):CT Tryz.prog (ado e1) (fun r=>.ret (.str r)) 37 [.agg (aP e1)]:=by
  unfold ado; exact Z1 ⟨8,[],[]⟩ Z Tryz.func37 Z Z Z Z
end
section
variable [I6]
def aeB :Go.Shelf.Ren:=⟨fun | 155=>38 | 154=>72 | 138=>114 | 165=>115 | 143=>116 | 166=>36 | 197=>117 | 169=>39 | 195=>188 | 218=>189 | 240=>60 | 241=>190 | 219=>191 | 260=>192 | 276=>96 | 277=>256 | 217=>257 | 225=>258 | 224=>259 | 267=>260 | 266=>321 | 314=>322 | n=>n,fun | 9=>9 | 3=>3 | 4=>4 | 72=>72 | 0=>0 | 76=>86 | 105=>154 | 21=>21 | 5=>5 | 70=>70 | 20=>20 | 37=>68 | 75=>77 | 127=>124 | 164=>138 | 46=>218 | 119=>245 | 139=>248 | 138=>247 | 146=>279 | 51=>269 | 80=>69 | n=>n,fun | 1=>0 | 3=>1 | 4=>2 | n=>n⟩
theorem af6 :Go.Proofs.Lays.n155 Tryz.prog aeB:=by repeat' first | (intros; kernel_rfl) | constructor | decide
theorem afZ :Go.Proofs.Builder.Extra Tryz.prog aeB:=by repeat' first | (intros; kernel_rfl) | constructor | decide
instance adq (s1:Str) (ahu:Str) (new1:Str):CT Tryz.prog (strings_ReplaceAll s1 ahu new1) (fun r=>.ret (.str r)) 38 [.str s1,.str ahu,.str new1]:=⟨zP rfl,fun {r0} hf {τ Q} h=>by
 unfold strings_ReplaceAll at hf; split at hf
 case isFalse=>cases hf
 rename_i hg; obtain ⟨hg,rfl,rfl⟩:=hg; rw [←afo (by decide)] at hf; cases hf; refine AC.none ?_
 exact AC.replaceAll I6.hD af6 afZ hg (by decide) I6.max (by rw [Lib.count_one]; have:=List.count_le_length (a:=(36:UInt8)) (l:=s1); simp only [List.length_cons,List.length_nil]; omega) h⟩
end
section
variable [I6]
instance OC (ps1:List aK):CT Tryz.prog (EN ps1) (fun r=>.ret (.str r)) 15 [.list (List.map aK.cells ps1)]:=⟨zP rfl,fun {r0} hf {τ Q} h=>by
 unfold EN at hf; refine BN 26 [.tmp 2] [0] Tryz.func15 Z Z Z Z Z (W 1 Z (AS Z (AO.JR (eu:=5) Z Yu Z (fun b3=>(U 1 Z (AS Z (AO.fI (l:=ps1) Z Z Z Z tO Z Z (J 1 Z (LK3 (fun x1 b1 v1=>[(3,pP b3),(6,.list (List.map aK.cells ps1)),(7,iP (ps1.length:Int)),(8,iP x1)]) (fun x1 b1 v1=>[.IU b3 v1 72 5 b1]) (fun dQ x1 b1 v1=>Ar ps1 dQ x1 b1=some r0) BIG 0 [] (.slice none 0 0) Z Z hf (fun _ _ _ hz=>fC hz) ?_))))))))); intro dQ x1 b1 v1 hf; rw [Ar] at hf; refine V 1 Z (C hf Z (fun h1 hf=>?_) fun h1 hf=>?_)
 ·
  refine B1 hf fun e1 h2 hf=>W 0 Z (AS Z (AO.dP h2 Z Z Z Z tO (aK.aS _) Z (U 1 Z (AS Z (AO.bW Z K_ (fun b5=>(Rw 3 [0,0] Z Z (C hf Z (fun h3 hf=>?_) fun h3 hf=>?_))))))))
  · refine B1 hf fun x2 h4 hf=>Wr 2 [0] Z Z (CL Z ((afU _).h h4 ?_)); refine B1 hf fun x3 h5 hf=>AS Z (AO.JL h5 Z Z Z ?_); refine B1 hf fun x4 h6 hf=>AS Z (AO.JL h6 Z Z Z ?_); refine B1 hf fun b2 h7 hf=>CL Z (AC.one 1 Z (V3 h7 (fun v2=>⟨_,Z,(BG 2 Z (AR.drop1 ?_))⟩))); exact N 0 Z ⟨(bL (x1 + 1)),b2,v2,Z,Z,Z,hf⟩
  refine B1 hf fun x5 h8 hf=>Wr 2 [0] Z Z (CL Z ((adq _ _ _).h h8 ?_)); refine B1 hf fun b3 h9 hf=>CL Z (AC.one 1 Z (V3 h9 (fun v3=>⟨_,Z,(BG 2 Z (AR.drop1 ?_))⟩))); exact N 0 Z ⟨(bL (x1 + 1)),b3,v3,Z,Z,Z,hf⟩
 refine W 0 Z (CL Z (AC.Qp 0 Z (DL ?_))); cases hf; exact N 1 Z (Y Z h)⟩
end
instance Oj (dB:Int):CT Tryz.prog (uI dB) (fun r=>.ret (.str r)) 143 [iP dB]:=⟨zP rfl,fun {r0} hf {τ Q} h=>by
 unfold uI at hf; refine BN 14 [.tmp 2] [0] Tryz.func143 Z Z Z Z Z (W 1 Z (AS Z (AO.XQ Z Yv aas Z (AS Z (AO.bW Z Yv (fun b3=>(Rr 4 [0] Z Z (On 3 7 10 [0,3] (decide (8≤dB)) Z Z Z Z ?_)))))))); refine J 0 Z (C hf Z (fun h2 hf=>?_) fun h2 hf=>?_)
 · cases hf; exact M 1 Z (Y Z h)
 refine BR hf fun e1 h3 hf=>?_; refine W 1 Z (AS Z (AO.MH h3 Z aas Z Z Z (AS Z (AO.Xh (i:=0) (fun z:Str=>.str z) h3 Z Z Z aex Z ?_)))); cases hf; exact N 1 Z (Y Z h)⟩
instance yH (dB:Int):CT Tryz.prog (gN dB) (fun r=>.ret (.bool r)) 144 [iP dB]:=by
  unfold gN; exact Z1 ⟨9,[],[]⟩ Z Tryz.func144 Z Z Z Z
instance Nu (t1:au):CT Tryz.prog (iT t1) (fun r=>.ret (iP r)) 85 [.agg (aN t1)]:=⟨zP rfl,fun {r0} hf {τ Q} h=>by
 unfold iT at hf; refine BN 43 [.tmp 2] [0] Tryz.func85 Z Z Z Z Z (W 0 Z (AS Z (AO.V6 Z Z (fun b1=>(J 2 Z (LK2 (fun bG t2=>[(1,pP b1),(3,iP bG)]) (fun bG t2=>[.box b1 (aN t2)]) (fun dQ bG t2=>jA dQ bG t2=some r0) BIG 1 t1 Z Z hf (fun _ _ hz=>fC hz) ?_)))))); intro dQ bG t2 hf; rw [jA] at hf; refine V 2 Z (C hf Z (fun h1 hf=>?_) fun h1 hf=>?_)
 · cases hf; exact M 1 Z (Y Z h)
 refine B1 hf fun x1 h2 hf=>Wr 2 [0] Z Z (CL Z ((Oj _).h h2 ?_)); refine B1 hf fun b1 h4 hf=>U 2 Z (AR.rF 10 12 22 false [1,3] b1 Z Z (fun h3=>?_) (fun h3=>?_) ?_)
 ·
  replace h4:=ji h3 h4; refine Is 12 h3 Z (U 1 Z (GO Z (AO.bJ (i:=0) Z Z Z NS Z Z ?_))); refine B1 h4 fun x2 h5 h4=>GO Z (AO.call Z _ Z Z Zb ((yH _).h h5 (U 1 Z (AR.and 5 16 21 [1,3,12] (x:=((t2.elem.length:Int) != 1)) Z Z (fun h6=>?_) (fun h6=>?_) ?_))))
  · refine Is 16 h6 Z (U 1 Z (GO Z (AO.bJ (i:=0) Z Z Z ac7 Z Z (GO Z (AO.fI (l:=t2.elem) Z Z Z Z xU Z (au.bV _) ?_))))); exact BG 2 Z (En [21,1,3,12] Z)
  · refine Is 16 h6 Z ?_; exact BG 5 Z (En [21,1,3,12] Z)
  cases h4; exact BG 1 Z (En [22,1,3] Z)
 · refine IT 12 h3 h4 Z fun h4=>?_; cases h4; exact BG 10 Z (En [22,1,3] Z)
 refine B1 hf fun b2 h8 hf=>U 1 Z (AR.rF 11 23 34 false [1,3] b2 Z Z (fun h7=>?_) (fun h7=>?_) ?_)
 ·
  replace h8:=ji h7 h8; refine Is 23 h7 Z (U 1 Z (GO Z (AO.bJ (i:=0) Z Z Z NS Z Z ?_))); refine B1 h8 fun x3 h9 h8=>GO Z (AO.call Z _ Z Z Zb ((yH _).h h9 (U 2 Z (AR.and 5 28 33 [1,3,23] (x:=((t2.elem.length:Int) != 0)) Z Z (fun h10=>?_) (fun h10=>?_) ?_))))
  · refine Is 28 h10 Z (U 1 Z (GO Z (AO.bJ (i:=0) Z Z Z ac7 Z Z (GO Z (AO.fI (l:=t2.elem) Z Z Z Z xU Z (au.bV _) ?_))))); exact BG 2 Z (En [33,1,3,23] Z)
  · refine Is 28 h10 Z ?_; exact BG 5 Z (En [33,1,3,23] Z)
  cases h8; exact BG 1 Z (En [34,1,3] Z)
 · refine IT 23 h7 h8 Z fun h8=>?_; cases h8; exact BG 11 Z (En [34,1,3] Z)
 refine J 0 Z (C hf Z (fun h11 hf=>?_) fun h11 hf=>?_)
 · cases hf; exact M 1 Z (Y Z h)
 refine B1 hf fun x4 h12 hf=>Wr 2 [0] Z Z (CL Z ((yH _).h h12 (J 1 Z (C hf Z (fun Gc hf=>?_) fun Gc hf=>?_))))
 · cases hf; exact M 1 Z (Y Z h)
 refine B1 hf fun e1 FW hf=>Wr 2 [0] Z Z (AS Z (AO.dP FW Z Z (au.bV _) Z xU (au.aS _) Z ?_)); exact Rx 5 [0] Z Z ⟨(bL (bG + 1)),e1,Z,Z,Z,hf⟩⟩
instance TB (bM:List aO):CT Tryz.prog (zM bM) (fun r=>.ret (iP r)) 50 [.list (List.map aO.cells bM)]:=⟨zP rfl,fun {r0} hf {τ Q} h=>by
 unfold zM at hf; refine BN 39 [.tmp 2] [0] Tryz.func50 Z Z Z Z Z (W 2 Z (AS Z (AO.fI (l:=bM) Z Z Z Z ZO Z Z (J 1 Z (C hf Z (fun h1 hf=>?_) fun h1 hf=>?_)))))
 · cases hf; exact M 1 Z (Y Z h)
 refine W 0 Z (AS Z (AO.Mq Z (fun m10=>(U 2 Z (AS Z (AO.fI (l:=bM) Z Z Z Z ZO Z Z (J 1 Z (LK2 (fun x1 y1=>[(3,.val (.map (some m10))),(11,.list (List.map aO.cells bM)),(12,iP (bM.length:Int)),(13,iP x1)]) (fun x1 y1=>[.obj m10 (sM y1)]) (fun dQ x1 y1=>wo bM dQ x1 y1=some r0) BIG 0 [] Z Z hf (fun _ _ hz=>fC hz) ?_)))))))); intro dQ x1 y1 hf; rw [wo] at hf; refine V 1 Z (C hf Z (fun h2 hf=>?_) fun h2 hf=>?_)
 ·
  refine B1 hf fun e1 h3 hf=>W 0 Z (AS Z (AO.dP h3 Z Z Z Z ZO (aO.aS _) Z (U 1 Z (AS Z (AO.bW Z agh (fun b5=>?_)))))); refine B1 hf fun x2 h4 hf=>Rr 4 [0,0] Z Z (CL Z ((E_ _).h h4 (J 1 Z (C hf Z (fun h5 hf=>?_) fun h5 hf=>?_))))
  · cases hf; exact M 1 Z (Y Z h)
  refine B1 hf fun e2 h6 hf=>Wr 2 [0] Z Z (CL Z ((Nu _).h h6 (J 3 Z (C hf Z (fun h7 hf=>?_) fun h7 hf=>?_))))
  · cases hf; exact M 2 Z (Y Z h)
  refine Wr 3 [0] Z Z (AS Z (AO.Fz (i:=1) (l:=y1) Z Z Z Z Dq qG Wo (U 1 Z (AR.bR Z Z (AO.GD (i:=1) (l:=y1) Z Z Z Z Z Dq qG (Rr 3 [0] Z Z (AS Z (AO.Fz (i:=1) (l:=(qH y1 e1.name (bL ((oD y1 e1.name) + 1)))) Z Z Z Z Dq qG Wo (J 1 Z (C hf Z (fun h8 hf=>?_) fun h8 hf=>?_))))))))))
  · cases hf; exact M 1 Z (Y Z h)
  refine Wn0 2 Z (AR.drop1 ?_); exact N 0 Z ⟨(bL (x1 + 1)),(qH y1 e1.name (bL ((oD y1 e1.name) + 1))),Z,Z,Z,hf⟩
 cases hf; exact M 1 Z (Y Z h)⟩
instance wV (dB:Int):CT Tryz.prog (dF dB) (fun r=>.ret (.agg (aN r))) 88 [iP dB]:=by
  unfold dF; exact Z1 ⟨5,[],[]⟩ Z Tryz.func88 Z Z Z Z
instance AL (dB:Int) (kE:au):CT Tryz.prog (j5 dB kE) (fun r=>.ret (.agg (aN r))) 229 [iP dB,.agg (aN kE)]:=by
  unfold j5; exact Z1 ⟨9,[],[]⟩ Z Tryz.func229 Z Z Z Z
instance G9 (name1:Str):CT Tryz.prog (h_ name1) (fun r=>.ret (.tuple [.list (List.map au.oH r.1),.agg (aN r.2)])) 222 [.str name1]:=⟨zP rfl,fun {r} hf {τ Q} h=>by
 obtain ⟨r0,r1⟩:=r; unfold h_ at hf; refine BN 106 [.tmp 2,.cell 3 63] [0] Tryz.func222 Z Z Z Z Z (W 0 Z (AS Z (AO.jO Z Z (AS Z (AO.bW Z Ef (fun b3=>?_)))))); refine B1 hf fun x1 h1 hf=>U 0 Z (CL Z ((wV _).h h1 ?_)); refine B1 hf fun x2 h2 hf=>CL Z ((wV _).h h2 ?_); refine B1 hf fun x3 h3 hf=>CL Z ((wV _).h h3 ?_); refine B1 hf fun x4 h4 hf=>CL Z ((wV _).h h4 (AS Z (AO.bW Z Ef (fun b4=>(AS Z (AO.bW Z Ef (fun b5=>(AS Z (AO.bW Z Ef (fun b6=>?_)))))))))); refine AS Z (AO.bW Z Ef (fun b7=>(Rw 4 [3,2,1,0] Z Z (AW.ahz 6 63 [8,9,10] mixed (by kernel_rfl) Z Ef Z (by kernel_rfl) (by decide) ?_)))); refine Ev.cons Z Z Z (AO.bJ (i:=3) Z Z Z jr Z Z zg) ?_; refine B1 hf fun x5 h5 hf=>Ev.cons Z Z Z (AO.call Z _ Z Z T_ ((AL _ _).h h5 zg)) (Ev.cons Z Z Z (AO.bJ (i:=3) Z Z Z jr Z Z zg) ?_); refine B1 hf fun x6 h6 hf=>Ev.cons Z Z Z (AO.call Z _ Z Z T_ ((AL _ _).h h6 zg)) (Ev.cons Z Z Z (AO.bJ (i:=1) Z Z Z jr Z Z zg) ?_); refine B1 hf fun x7 h7 hf=>Ev.cons Z Z Z (AO.call Z _ Z Z T_ ((AL _ _).h h7 zg)) (Ev.nil ?_); intro b8 b9 b10; show AR _ _ _ _ _ _ _ _; refine Rw 6 [2,1,0] Z Z (C hf Z (fun h8 hf=>?_) fun h8 hf=>?_)
 ·
  refine V 0 Z (AW.draw 9 mixed (by kernel_rfl) Z ?_); refine Ev.cons rfl rfl rfl (AO.bJ (i:=4) rfl rfl rfl jr rfl rfl ⟨rfl,rfl⟩) (Ev.cons rfl rfl rfl (AO.bF (au.bC [x3]) rfl tu rfl rfl rfl (by first | rfl | simp only [List.map,au.aS,au.bC]) ⟨rfl,rfl⟩) ?_); refine Ev.cons rfl rfl rfl (AO.bJ (i:=2) rfl rfl rfl jr rfl rfl ⟨rfl,rfl⟩) (Ev.cons rfl rfl rfl (AO.bF (au.bC [x5]) rfl tu rfl rfl rfl (by first | rfl | simp only [List.map,au.aS,au.bC]) ⟨rfl,rfl⟩) ?_)
  refine Ev.cons rfl rfl rfl (AO.bJ (i:=1) rfl rfl rfl jr rfl rfl ⟨rfl,rfl⟩) (Ev.cons rfl rfl rfl (AO.bF (au.bC [x6]) rfl tu rfl rfl rfl (by first | rfl | simp only [List.map,au.aS,au.bC]) ⟨rfl,rfl⟩) ?_); refine Ev.cons Z Z Z (AO.bF (List.map au.oH [[x3],[x5],[x6]]) Z yB Z Z Z Z zg) (Ev.cons Z Z Z (AO.bJ (i:=5) Z Z Z jr Z Z zg) (Ev.cs gq 1 Z (Ev.nil ?_))); show AR _ _ _ _ _ _ _ _
  cases hf; exact Rx 1 [7] Z Z (ZC [7] Z Z h)
 refine V 2 Z (C hf Z (fun h9 hf=>?_) fun h9 hf=>?_)
 ·
  refine V 0 Z (AW.draw 12 mixed (by kernel_rfl) Z ?_); refine Ev.cons rfl rfl rfl (AO.bJ (i:=2) rfl rfl rfl jr rfl rfl ⟨rfl,rfl⟩) (Ev.cons rfl rfl rfl (AO.bJ (i:=6) rfl rfl rfl jr rfl rfl ⟨rfl,rfl⟩) (Ev.cons rfl rfl rfl (AO.bF (au.bC [x5,x1]) rfl tu rfl rfl rfl (by first | rfl | simp only [List.map,au.aS,au.bC]) ⟨rfl,rfl⟩) ?_))
  refine Ev.cons rfl rfl rfl (AO.bJ (i:=4) rfl rfl rfl jr rfl rfl ⟨rfl,rfl⟩) (Ev.cons rfl rfl rfl (AO.bJ (i:=4) rfl rfl rfl jr rfl rfl ⟨rfl,rfl⟩) (Ev.cons rfl rfl rfl (AO.bF (au.bC [x3,x3]) rfl tu rfl rfl rfl (by first | rfl | simp only [List.map,au.aS,au.bC]) ⟨rfl,rfl⟩) ?_))
  refine Ev.cons rfl rfl rfl (AO.bJ (i:=1) rfl rfl rfl jr rfl rfl ⟨rfl,rfl⟩) (Ev.cons rfl rfl rfl (AO.bJ (i:=4) rfl rfl rfl jr rfl rfl ⟨rfl,rfl⟩) (Ev.cons rfl rfl rfl (AO.bF (au.bC [x6,x3]) rfl tu rfl rfl rfl (by first | rfl | simp only [List.map,au.aS,au.bC]) ⟨rfl,rfl⟩) ?_)); refine Ev.cons Z Z Z (AO.bF (List.map au.oH [[x5,x1],[x3,x3],[x6,x3]]) Z yB Z Z Z Z zg) (Ev.cons Z Z Z (AO.bJ (i:=3) Z Z Z jr Z Z zg) (Ev.cs gq 1 Z (Ev.nil ?_)))
  show AR _ _ _ _ _ _ _ _; cases hf; exact Rx 1 [7] Z Z (ZC [7] Z Z h)
 refine V 2 Z (C hf Z (fun h10 hf=>?_) fun h10 hf=>?_)
 ·
  refine V 0 Z (AW.draw 6 mixed (by kernel_rfl) Z ?_); refine Ev.cons rfl rfl rfl (AO.bJ (i:=0) rfl rfl rfl jr rfl rfl ⟨rfl,rfl⟩) (Ev.cons rfl rfl rfl (AO.bJ (i:=4) rfl rfl rfl jr rfl rfl ⟨rfl,rfl⟩) (Ev.cons rfl rfl rfl (AO.bF (au.bC [x7,x3]) rfl tu rfl rfl rfl (by first | rfl | simp only [List.map,au.aS,au.bC]) ⟨rfl,rfl⟩) ?_))
  refine Ev.cons Z Z Z (AO.bF (List.map au.oH [[x7,x3]]) Z yB Z Z Z Z zg) (Ev.cons Z Z Z (AO.bJ (i:=4) Z Z Z jr Z Z zg) (Ev.cs gq 1 Z (Ev.nil ?_))); show AR _ _ _ _ _ _ _ _; cases hf; exact Rx 1 [7] Z Z (ZC [7] Z Z h)
 refine V 2 Z (C hf Z (fun h11 hf=>?_) fun h11 hf=>?_)
 ·
  refine V 0 Z (AW.draw 11 mixed (by kernel_rfl) Z ?_); refine B1 hf fun x8 h12 hf=>Ev.cons rfl rfl rfl (AO.call rfl _ rfl rfl adb ((wV _).h h12 ⟨rfl,rfl⟩)) (Ev.cons rfl rfl rfl (AO.bF (au.bC [x8]) rfl tu rfl rfl rfl (by first | rfl | simp only [List.map,au.aS,au.bC]) ⟨rfl,rfl⟩) ?_); refine Ev.cons rfl rfl rfl (AO.bJ (i:=3) rfl rfl rfl jr rfl rfl ⟨rfl,rfl⟩) (Ev.cons rfl rfl rfl (AO.bF (au.bC [x4]) rfl tu rfl rfl rfl (by first | rfl | simp only [List.map,au.aS,au.bC]) ⟨rfl,rfl⟩) ?_)
  refine Ev.cons rfl rfl rfl (AO.bJ (i:=5) rfl rfl rfl jr rfl rfl ⟨rfl,rfl⟩) (Ev.cons rfl rfl rfl (AO.bF (au.bC [x2]) rfl tu rfl rfl rfl (by first | rfl | simp only [List.map,au.aS,au.bC]) ⟨rfl,rfl⟩) ?_); refine Ev.cons rfl rfl rfl (AO.bJ (i:=4) rfl rfl rfl jr rfl rfl ⟨rfl,rfl⟩) (Ev.cons rfl rfl rfl (AO.bF (au.bC [x3]) rfl tu rfl rfl rfl (by first | rfl | simp only [List.map,au.aS,au.bC]) ⟨rfl,rfl⟩) ?_)
  refine Ev.cons Z Z Z (AO.bF (List.map au.oH [[x8],[x4],[x2],[x3]]) Z yB Z Z Z Z zg) (Ev.cons Z Z Z (AO.bJ (i:=4) Z Z Z jr Z Z zg) (Ev.cs gq 1 Z (Ev.nil ?_))); show AR _ _ _ _ _ _ _ _; cases hf; exact Rx 1 [7] Z Z (ZC [7] Z Z h)
 refine V 2 Z (C hf Z (fun Gc hf=>?_) fun Gc hf=>?_)
 ·
  refine V 0 Z (AW.cond Z (fun FW=>?_) (fun FW=>?_))
  ·
   refine V 0 Z (AW.draw 5 mixed (by kernel_rfl) Z ?_); refine Ev.cons rfl rfl rfl (AO.bJ (i:=4) rfl rfl rfl jr rfl rfl ⟨rfl,rfl⟩) (Ev.cons rfl rfl rfl (AO.bF (au.bC [x3]) rfl tu rfl rfl rfl (by first | rfl | simp only [List.map,au.aS,au.bC]) ⟨rfl,rfl⟩) ?_); refine Ev.cons Z Z Z (AO.bF (List.map au.oH [[x3]]) Z yB Z Z Z Z zg) (Ev.cons Z Z Z (AO.bJ (i:=4) Z Z Z jr Z Z zg) (Ev.cs gq 1 Z (Ev.nil ?_))); show AR _ _ _ _ _ _ _ _
   cases hf; exact Rx 1 [7] Z Z (ZC [7] Z Z h)
  cases Gc.symm.trans FW
 refine V 2 Z (C hf Z (fun Sv hf=>?_) fun Sv hf=>?_)
 ·
  refine V 0 Z (AW.draw 5 mixed (by kernel_rfl) Z ?_); refine Ev.cons rfl rfl rfl (AO.bJ (i:=4) rfl rfl rfl jr rfl rfl ⟨rfl,rfl⟩) (Ev.cons rfl rfl rfl (AO.bF (au.bC [x3]) rfl tu rfl rfl rfl (by first | rfl | simp only [List.map,au.aS,au.bC]) ⟨rfl,rfl⟩) ?_); refine Ev.cons Z Z Z (AO.bF (List.map au.oH [[x3]]) Z yB Z Z Z Z zg) (Ev.cons Z Z Z (AO.bJ (i:=4) Z Z Z jr Z Z zg) (Ev.cs gq 1 Z (Ev.nil ?_))); show AR _ _ _ _ _ _ _ _
  cases hf; exact Rx 1 [7] Z Z (ZC [7] Z Z h)
 refine V 2 Z (C hf Z (fun h16 hf=>?_) fun h16 hf=>?_)
 ·
  refine V 0 Z (AW.draw 6 mixed (by kernel_rfl) Z ?_); refine Ev.cons rfl rfl rfl (AO.bJ (i:=4) rfl rfl rfl jr rfl rfl ⟨rfl,rfl⟩) (Ev.cons rfl rfl rfl (AO.bJ (i:=4) rfl rfl rfl jr rfl rfl ⟨rfl,rfl⟩) (Ev.cons rfl rfl rfl (AO.bF (au.bC [x3,x3]) rfl tu rfl rfl rfl (by first | rfl | simp only [List.map,au.aS,au.bC]) ⟨rfl,rfl⟩) ?_))
  refine Ev.cons Z Z Z (AO.bF (List.map au.oH [[x3,x3]]) Z yB Z Z Z Z zg) (Ev.cons Z Z Z (AO.bJ (i:=0) Z Z Z jr Z Z zg) (Ev.cs gq 1 Z (Ev.nil ?_))); show AR _ _ _ _ _ _ _ _; cases hf; exact Rx 1 [7] Z Z (ZC [7] Z Z h)
 refine V 2 Z (C hf Z (fun Yd hf=>?_) fun Yd hf=>?_)
 ·
  refine V 0 Z (AW.cond Z (fun h18=>?_) (fun h18=>?_))
  ·
   refine V 0 Z (AW.draw 6 mixed (by kernel_rfl) Z ?_); refine Ev.cons rfl rfl rfl (AO.bJ (i:=4) rfl rfl rfl jr rfl rfl ⟨rfl,rfl⟩) (Ev.cons rfl rfl rfl (AO.bJ (i:=4) rfl rfl rfl jr rfl rfl ⟨rfl,rfl⟩) (Ev.cons rfl rfl rfl (AO.bF (au.bC [x3,x3]) rfl tu rfl rfl rfl (by first | rfl | simp only [List.map,au.aS,au.bC]) ⟨rfl,rfl⟩) ?_))
   refine Ev.cons Z Z Z (AO.bF (List.map au.oH [[x3,x3]]) Z yB Z Z Z Z zg) (Ev.cons Z Z Z (AO.bJ (i:=3) Z Z Z jr Z Z zg) (Ev.cs gq 1 Z (Ev.nil ?_))); show AR _ _ _ _ _ _ _ _; cases hf; exact Rx 1 [7] Z Z (ZC [7] Z Z h)
  cases Yd.symm.trans h18
 refine V 2 Z (C hf Z (fun h19 hf=>?_) fun h19 hf=>?_)
 ·
  refine V 0 Z (AW.draw 6 mixed (by kernel_rfl) Z ?_); refine Ev.cons rfl rfl rfl (AO.bJ (i:=4) rfl rfl rfl jr rfl rfl ⟨rfl,rfl⟩) (Ev.cons rfl rfl rfl (AO.bJ (i:=4) rfl rfl rfl jr rfl rfl ⟨rfl,rfl⟩) (Ev.cons rfl rfl rfl (AO.bF (au.bC [x3,x3]) rfl tu rfl rfl rfl (by first | rfl | simp only [List.map,au.aS,au.bC]) ⟨rfl,rfl⟩) ?_))
  refine Ev.cons Z Z Z (AO.bF (List.map au.oH [[x3,x3]]) Z yB Z Z Z Z zg) (Ev.cons Z Z Z (AO.bJ (i:=3) Z Z Z jr Z Z zg) (Ev.cs gq 1 Z (Ev.nil ?_))); show AR _ _ _ _ _ _ _ _; cases hf; exact Rx 1 [7] Z Z (ZC [7] Z Z h)
 refine V 2 Z (C hf Z (fun h20 hf=>?_) fun h20 hf=>?_)
 ·
  refine V 0 Z (AW.draw 5 mixed (by kernel_rfl) Z ?_); refine Ev.cons rfl rfl rfl (AO.bJ (i:=4) rfl rfl rfl jr rfl rfl ⟨rfl,rfl⟩) (Ev.cons rfl rfl rfl (AO.bF (au.bC [x3]) rfl tu rfl rfl rfl (by first | rfl | simp only [List.map,au.aS,au.bC]) ⟨rfl,rfl⟩) ?_); refine Ev.cons Z Z Z (AO.bF (List.map au.oH [[x3]]) Z yB Z Z Z Z zg) (Ev.cons Z Z Z (AO.bJ (i:=5) Z Z Z jr Z Z zg) (Ev.cs gq 1 Z (Ev.nil ?_))); show AR _ _ _ _ _ _ _ _
  cases hf; exact Rx 1 [7] Z Z (ZC [7] Z Z h)
 refine V 2 Z (C hf Z (fun h21 hf=>?_) fun h21 hf=>?_)
 ·
  refine V 0 Z (AW.draw 6 mixed (by kernel_rfl) Z ?_); refine Ev.cons rfl rfl rfl (AO.bJ (i:=6) rfl rfl rfl jr rfl rfl ⟨rfl,rfl⟩) (Ev.cons rfl rfl rfl (AO.bJ (i:=6) rfl rfl rfl jr rfl rfl ⟨rfl,rfl⟩) (Ev.cons rfl rfl rfl (AO.bF (au.bC [x1,x1]) rfl tu rfl rfl rfl (by first | rfl | simp only [List.map,au.aS,au.bC]) ⟨rfl,rfl⟩) ?_))
  refine Ev.cons Z Z Z (AO.bF (List.map au.oH [[x1,x1]]) Z yB Z Z Z Z zg) (Ev.cons Z Z Z (AO.bJ (i:=6) Z Z Z jr Z Z zg) (Ev.cs gq 1 Z (Ev.nil ?_))); show AR _ _ _ _ _ _ _ _; cases hf; exact Rx 1 [7] Z Z (ZC [7] Z Z h)
 refine V 2 Z (C hf Z (fun h22 hf=>?_) fun h22 hf=>?_)
 ·
  refine V 0 Z (AW.draw 5 mixed (by kernel_rfl) Z ?_); refine Ev.cons rfl rfl rfl (AO.bJ (i:=1) rfl rfl rfl jr rfl rfl ⟨rfl,rfl⟩) (Ev.cons rfl rfl rfl (AO.bF (au.bC [x6]) rfl tu rfl rfl rfl (by first | rfl | simp only [List.map,au.aS,au.bC]) ⟨rfl,rfl⟩) ?_); refine Ev.cons Z Z Z (AO.bF (List.map au.oH [[x6]]) Z yB Z Z Z Z zg) (Ev.cons Z Z Z (AO.bJ (i:=0) Z Z Z jr Z Z zg) (Ev.cs gq 1 Z (Ev.nil ?_))); show AR _ _ _ _ _ _ _ _
  cases hf; exact Rx 1 [7] Z Z (ZC [7] Z Z h)
 refine V 0 Z (AW.draw 2 mixed (by kernel_rfl) Z ?_); refine Ev.cons Z Z Z (AO.bJ (i:=6) Z Z Z jr Z Z zg) (Ev.cons Z Z Z (AO.jO Z Z zg) (Ev.nil ?_)); show AR _ _ _ _ _ _ _ _
 cases hf; exact Rx 1 [7] Z Z (ZC [7] Z Z h)⟩
instance abA (t1:au):CT Tryz.prog (dN t1) (fun r=>.ret (.bool r)) 225 [.agg (aN t1)]:=by
  unfold dN; exact Z1 ⟨11,[],[]⟩ Z Tryz.func225 Z Z Z Z
section
variable (oG : au → au → Option Bool) [Sw : ∀ (um : au) (Gs : au), CT Tryz.prog (oG um Gs) (fun r => .ret (.bool r)) 153 [.agg (aN um), .agg (aN Gs)]]
instance Fb (t1:au) (u1:au):CT Tryz.prog (jK oG t1 u1) (fun r=>.ret (.bool r)) 153 [.agg (aN t1),.agg (aN u1)]:=by
  unfold jK; exact Z1 ⟨39,[],[]⟩ Z Tryz.func153 Z Z Z Z
end
theorem Ak :∀ k:Nat,(∀ (um:au) (Gs:au),CT Tryz.prog (iQ k um Gs) (fun r=>.ret (.bool r)) 153 [.agg (aN um),.agg (aN Gs)])
  | 0=>fun _ _=>CT.none Z
  | k + 1=>by
    obtain (i0):=Ak k; exact fun um Gs=>Fb _ um Gs
instance G_ (um:au) (Gs:au):CT Tryz.prog (gL um Gs) (fun r=>.ret (.bool r)) 153 [.agg (aN um),.agg (aN Gs)]:=(Ak BIG) um Gs
instance (eH :List au) (yJ:List au) (n_ eZ):LE (pq eH yJ n_ eZ) (fun j p=>pq eH yJ j p) n_ eZ [] [] [] [0,1,7] (fun v w p=>[(8,iP p)]) (fun v w p s=>s):=⟨Z⟩
instance OE (eH:List au) (yJ:List au):CT Tryz.prog (nS eH yJ) (fun r=>.ret (.bool r)) 223 [.list (au.bC eH),.list (au.bC yJ)]:=by
  unfold nS; exact Z1 ⟨22,[],[]⟩ Z Tryz.func223 Z Z Z Z
instance Yi (dB:Int):CT Tryz.prog (dY dB) (fun r=>.ret (.agg (aN r))) 156 [iP dB]:=by
  unfold dY; exact Z1 ⟨5,[],[]⟩ Z Tryz.func156 Z Z Z Z
instance adK (dB:Int) (kE:au):CT Tryz.prog (mq dB kE) (fun r=>.ret (.agg (aN r))) 231 [iP dB,.agg (aN kE)]:=by
  unfold mq; exact Z1 ⟨9,[],[]⟩ Z Tryz.func231 Z Z Z Z
section
variable (uf : au → Option au) [Xr : ∀ (um : au), CT Tryz.prog (uf um) (fun r => .ret (.agg (aN r))) 230 [.agg (aN um)]]
instance JU (t1:au):CT Tryz.prog (qN uf t1) (fun r=>.ret (.agg (aN r))) 230 [.agg (aN t1)]:=by
  unfold qN; exact Z1 ⟨18,[],[]⟩ Z Tryz.func230 Z Z Z Z
end
theorem EI :∀ k:Nat,(∀ (um:au),CT Tryz.prog (oJ k um) (fun r=>.ret (.agg (aN r))) 230 [.agg (aN um)])
  | 0=>fun _=>CT.none Z
  | k + 1=>by
    obtain (i0):=EI k; exact fun um=>JU _ um
instance aau (um:au):CT Tryz.prog (yS um) (fun r=>.ret (.agg (aN r))) 230 [.agg (aN um)]:=(EI BIG) um
section
variable (vT : au → au → Option au) [Ye : ∀ (zX : au) (zW : au), CT Tryz.prog (vT zX zW) (fun r => .ret (.agg (aN r))) 157 [.agg (aN zX), .agg (aN zW)]]
instance KJ (a1:au) (b1:au):CT Tryz.prog (nX vT a1 b1) (fun r=>.ret (.agg (aN r))) 157 [.agg (aN a1),.agg (aN b1)]:=by
  unfold nX; exact Z1 ⟨43,[],[]⟩ Z Tryz.func157 Z Z Z Z
end
theorem Ga :∀ k:Nat,(∀ (zX:au) (zW:au),CT Tryz.prog (l7 k zX zW) (fun r=>.ret (.agg (aN r))) 157 [.agg (aN zX),.agg (aN zW)])
  | 0=>fun _ _=>CT.none Z
  | k + 1=>by
    obtain (i0):=Ga k; exact fun zX zW=>KJ _ zX zW
instance abe (zX:au) (zW:au):CT Tryz.prog (xA zX zW) (fun r=>.ret (.agg (aN r))) 157 [.agg (aN zX),.agg (aN zW)]:=(Ga BIG) zX zW
section
variable (jZ : av → Option au) [Yf : ∀ (pI : av), CT Tryz.prog (jZ pI) (fun r => .ret (.agg (aN r))) 224 [.agg (bA pI)]]
instance (v1 :av) (n_ eZ mY):LE (qM jZ v1 n_ eZ mY) (fun j p=>qM jZ v1 j p.1 p.2) n_ (eZ,mY) [] [] [] [1,2,3,22,23] (fun v w p=>[(24,iP p.1)]) (fun v w p s=>uz 0 (aN p.2) (s)):=⟨Z⟩
instance KL (v1:av):CT Tryz.prog (wW jZ v1) (fun r=>.ret (.agg (aN r))) 224 [.agg (bA v1)]:=by
  unfold wW; exact Z1 ⟨40,[],[]⟩ Z Tryz.func224 Z Z Z Z
end
theorem Gb :∀ k:Nat,(∀ (pI:av),CT Tryz.prog (nY k pI) (fun r=>.ret (.agg (aN r))) 224 [.agg (bA pI)])
  | 0=>fun _=>CT.none Z
  | k + 1=>by
    obtain (i0):=Gb k; exact fun pI=>KL _ pI
instance abf (pI:av):CT Tryz.prog (Em pI) (fun r=>.ret (.agg (aN r))) 224 [.agg (bA pI)]:=(Gb BIG) pI
instance Tn (v1:av):CT Tryz.prog (B_ v1) (fun r=>.ret (.agg (aN r))) 147 [.agg (bA v1)]:=by
  unfold B_; exact Z1 ⟨9,[],[]⟩ Z Tryz.func147 Z Z Z Z
instance (bM :List aO) (name1:Str) (n_ eZ):LE (nU bM name1 n_ eZ) (fun j p=>nU bM name1 j p) n_ eZ [] [] [] [1,4,8,9] (fun v w p=>[(10,iP p)]) (fun v w p s=>s):=⟨Z⟩
instance J4 (bM:List aO) (name1:Str):CT Tryz.prog (rO bM name1) (fun r=>.ret (.tuple [.agg (aN r.1),iP r.2])) 148 [.list (List.map aO.cells bM),.str name1]:=by
  unfold rO; exact Z1 ⟨22,[],[]⟩ Z Tryz.func148 Z Z Z Z
instance NI (t1:au):CT Tryz.prog (wh t1) (fun r=>.ret (.tuple [.agg (aN r.1),iP r.2])) 149 [.agg (aN t1)]:=by
  unfold wh; exact Z1 ⟨17,[],[]⟩ Z Tryz.func149 Z Z Z Z
instance OG (t1:au) (i1:au):CT Tryz.prog (xY t1 i1) (fun r=>.ret (.tuple [.agg (aN r.1),iP r.2])) 150 [.agg (aN t1),.agg (aN i1)]:=by
  unfold xY; exact Z1 ⟨42,[],[]⟩ Z Tryz.func150 Z Z Z Z
instance OD (op1:Str) (t1:au):CT Tryz.prog (xX op1 t1) (fun r=>.ret (.tuple [.agg (aN r.1),iP r.2])) 151 [.str op1,.agg (aN t1)]:=by
  unfold xX; exact Z1 ⟨17,[],[]⟩ Z Tryz.func151 Z Z Z Z
instance X7 (dB:Int) (c1:au) (c2:au):CT Tryz.prog (g_ dB c1 c2) (fun r=>.ret (.bool r)) 226 [iP dB,.ref (aN c1),.ref (aN c2)]:=by
  unfold g_; exact Z1 ⟨15,[],[]⟩ Z Tryz.func226 Z Z Z Z
instance aaK (a1:au) (b1:au) (dB:Int):CT Tryz.prog (fO a1 b1 dB) (fun r=>.ret (.bool r)) 227 [.agg (aN a1),.agg (aN b1),iP dB]:=by
  unfold fO; exact Z1 ⟨37,[],[]⟩ Z Tryz.func227 Z Z Z Z
instance Yr (t1:au):CT Tryz.prog (qx t1) (fun r=>.ret (.agg (aN r))) 304 [.agg (aN t1)]:=by
  unfold qx; exact Z1 ⟨10,[],[]⟩ Z Tryz.func304 Z Z Z Z
instance abg (a1:au) (b1:au):CT Tryz.prog (A9 a1 b1) (fun r=>.ret (.bool r)) 155 [.agg (aN a1),.agg (aN b1)]:=by
  unfold A9; exact Z1 ⟨13,[],[]⟩ Z Tryz.func155 Z Z Z Z
instance Ol (a1:au) (b1:au):CT Tryz.prog (kC a1 b1) (fun r=>.ret (.agg (aN r))) 87 [.agg (aN a1),.agg (aN b1)]:=by
  unfold kC; exact Z1 ⟨13,[],[]⟩ Z Tryz.func87 Z Z Z Z
instance ael (a1:au) (b1:au):CT Tryz.prog (CS a1 b1) (fun r=>.ret (.tuple [.agg (aN r.1),iP r.2])) 228 [.agg (aN a1),.agg (aN b1)]:=by
  unfold CS; exact Z1 ⟨44,[],[]⟩ Z Tryz.func228 Z Z Z Z
instance NJ (op1:Str) (a1:au) (b1:au):CT Tryz.prog (zn op1 a1 b1) (fun r=>.ret (.tuple [.agg (aN r.1),iP r.2])) 152 [.str op1,.agg (aN a1),.agg (aN b1)]:=by
  unfold zn; exact Z1 ⟨59,[],[]⟩ Z Tryz.func152 Z Z Z Z
instance (dB :Int) (eH:List au) (n_ eZ mY):LE (nT dB eH n_ eZ mY) (fun j p=>nT dB eH j p.1 p.2) n_ (eZ,mY) [] [] [] [0,4,6,11,12] (fun v w p=>[(13,iP p.1)]) (fun v w p s=>uz 0 (aN p.2) (s)):=⟨Z⟩
instance C_ (dB:Int) (eH:List au):CT Tryz.prog (pz dB eH) (fun r=>.ret (.tuple [.agg (aN r.1),iP r.2])) 154 [iP dB,.list (au.bC eH)]:=by
  unfold pz; exact Z1 ⟨29,[],[]⟩ Z Tryz.func154 Z Z Z Z
abbrev zw (eD:ah→List aO→Option (au × Int)):Prop:=∀ (iF:ah) (gM:List aO) {zT:au} {zS:Int},eD iF gM=some (zT,zS)→∀ {τ:List aQ} {Q:dL→List aQ→Prop} (h:Q (.ret (.tuple [.agg (aN zT),iP zS])) τ),PC 86 [.agg (aP iF),.list (List.map aO.cells gM)] τ Q
abbrev zx (gQ:ah→List aO→Option (au × Int)):Prop:=∀ (iF:ah) (gM:List aO) {zT:au} {zS:Int},gQ iF gM=some (zT,zS)→∀ {τ:List aQ} {Q:dL→List aQ→Prop} (h:Q (.ret (.tuple [.agg (aN zT),iP zS])) τ),PC 145 [.agg (aP iF),.list (List.map aO.cells gM)] τ Q
abbrev BJ (gW:List ah→List aO→Option (List au × Int)):Prop:=∀ (X_:List ah) (gM:List aO) {zT:List au} {zS:Int},gW X_ gM=some (zT,zS)→∀ {τ:List aQ} {Q:dL→List aQ→Prop} (h:Q (.ret (.tuple [.list (au.bC zT),iP zS])) τ),PC 146 [.list (ah.bC X_),.list (List.map aO.cells gM)] τ Q
theorem PX (eD) (Av:zw eD) (gQ) (Aw:zx gQ) (gW) (xg:BJ gW) (e1:ah) (bM:List aO) {r0:au} {r1:Int} (hf:zm eD gQ gW e1 bM=some (r0,r1)) (h:Q (.ret (.tuple [.agg (aN r0),iP r1])) τ):PC 86 [.agg (aP e1),.list (List.map aO.cells bM)] τ Q:=by
 unfold zm at hf; refine BN 110 [.cell 4 63,.tmp 5] [0,1] Tryz.func86 Z Z Z Z Z (W 1 Z (AS Z (AO.bW Z Ef (fun b4=>(J 4 Z (C hf Z (fun h1 hf=>?_) fun h1 hf=>?_))))))
 · replace hf:=(uT _).trans hf; obtain ⟨x1,x2,h2,hf⟩:=f_ hf; refine W 2 Z (CL Z (Aw _ _ h2 ?_)); cases hf; exact Rx 4 [0] Z Z (ZC [0] Z Z h)
 obtain ⟨eH,f1,h3,hf⟩:=f_ hf; refine W 3 Z (CL Z (xg _ _ h3 (J 7 Z (C hf Z (fun h4 hf=>?_) fun h4 hf=>?_))))
 · cases hf; exact Wx 4 [0] Z Z (ZC [0] Z Z h)
 refine V 4 Z (C hf Z (fun h5 hf=>?_) fun h5 hf=>?_)
 · refine B1 hf fun x3 h6 hf=>W 2 Z (CL Z ((Tn _).h h6 ?_)); cases hf; exact Rx 2 [0] Z Z (ZC [0] Z Z h)
 refine V 2 Z (C hf Z (fun h7 hf=>?_) fun h7 hf=>?_)
 · replace hf:=(uT _).trans hf; obtain ⟨x4,x5,h8,hf⟩:=f_ hf; refine W 3 Z (CL Z ((J4 _ _).h h8 ?_)); cases hf; exact Rx 4 [0] Z Z (ZC [0] Z Z h)
 refine V 2 Z (C hf Z (fun h9 hf=>?_) fun h9 hf=>?_)
 · refine B1 hf fun e2 h10 hf=>W 1 Z (AS Z (AO.dP h10 Z Z (au.bV _) Z xU (au.aS _) Z ?_)); replace hf:=(uT _).trans hf; obtain ⟨x6,x7,h11,hf⟩:=f_ hf; refine U 1 Z (CL Z ((NI _).h h11 ?_)); cases hf; exact Rx 4 [0] Z Z (ZC [0] Z Z h)
 refine V 2 Z (C hf Z (fun h12 hf=>?_) fun h12 hf=>?_)
 ·
  refine V 0 Z (AW.draw 9 mixed (by kernel_rfl) Z ?_); refine Ev.cs gq 1 Z ?_; refine B1 hf fun e3 Gc hf=>Ev.cons Z Z Z (AO.dP Gc Z Z (au.bV _) Z xU (au.aS _) Z zg) (Ev.cs gq 2 Z ?_); refine B1 hf fun e4 FW hf=>Ev.cons Z Z Z (AO.dP FW Z Z (au.bV _) Z xU (au.aS _) Z zg) (Ev.cs gq 1 Z ?_); replace hf:=(uT _).trans hf; obtain ⟨x8,x9,Sv,hf⟩:=f_ hf; refine Ev.cons Z Z Z (AO.call Z _ Z Z aeO ((OG _ _).h Sv zg)) (Ev.cs gq 2 Z (Ev.nil ?_)); show AR _ _ _ _ _ _ _ _; cases hf; exact Rx 2 [0] Z Z (ZC [0] Z Z h)
 refine V 2 Z (C hf Z (fun h16 hf=>?_) fun h16 hf=>?_)
 ·
  refine V 0 Z (AW.draw 8 mixed (by kernel_rfl) Z ?_); refine Ev.cs gq 3 Z ?_; refine B1 hf fun e5 Yd hf=>Ev.cons Z Z Z (AO.dP Yd Z Z (au.bV _) Z xU (au.aS _) Z zg) (Ev.cs gq 1 Z ?_); replace hf:=(uT _).trans hf; obtain ⟨KQ,PO,h18,hf⟩:=f_ hf; refine Ev.cons Z Z Z (AO.call Z _ Z Z aeN ((OD _ _).h h18 zg)) (Ev.cs gq 2 Z (Ev.nil ?_)); show AR _ _ _ _ _ _ _ _; cases hf; exact Rx 2 [0] Z Z (ZC [0] Z Z h)
 refine V 2 Z (C hf Z (fun h19 hf=>?_) fun h19 hf=>?_)
 ·
  refine V 0 Z (AW.draw 11 mixed (by kernel_rfl) Z ?_); refine Ev.cs gq 3 Z ?_; refine B1 hf fun e6 h20 hf=>Ev.cons Z Z Z (AO.dP h20 Z Z (au.bV _) Z xU (au.aS _) Z zg) (Ev.cs gq 2 Z ?_); refine B1 hf fun e7 h21 hf=>Ev.cons Z Z Z (AO.dP h21 Z Z (au.bV _) Z xU (au.aS _) Z zg) (Ev.cs gq 1 Z ?_); replace hf:=(uT _).trans hf; obtain ⟨Rl,Wt,h22,hf⟩:=f_ hf; refine Ev.cons Z Z Z (AO.call Z _ Z Z aeM ((NJ _ _ _).h h22 zg)) (Ev.cs gq 2 Z (Ev.nil ?_)); show AR _ _ _ _ _ _ _ _; cases hf; exact Rx 2 [0] Z Z (ZC [0] Z Z h)
 refine V 2 Z (C hf Z (fun h23 hf=>?_) fun h23 hf=>?_)
 ·
  refine V 0 Z (AW.draw 6 mixed (by kernel_rfl) Z ?_); refine Ev.cs gq 1 Z ?_; refine B1 hf fun e8 Xp hf=>Ev.cons Z Z Z (AO.dP Xp Z Z (au.bV _) Z xU (au.aS _) Z zg) (Ev.cs gq 1 Z ?_); refine B1 hf fun x14 h25 hf=>Ev.cons Z Z Z (AO.call Z _ Z Z adb ((wV _).h h25 zg)) ?_; refine B1 hf fun Ws h26 hf=>Ev.cons Z Z Z (AO.call Z _ Z Z aeL ((G_ _ _).h h26 zg)) (Ev.cs gq 1 Z (Ev.nil ?_)); show AR _ _ _ _ _ _ _ _; refine J 0 Z (C hf Z (fun h27 hf=>?_) fun h27 hf=>?_)
  · cases hf; exact Wx 3 [0] Z Z (ZC [0] Z Z h)
  refine V 0 Z (AW.draw 7 mixed (by kernel_rfl) Z ?_); refine Ev.cs gq 1 Z ?_; refine B1 hf fun e9 Yc hf=>Ev.cons Z Z Z (AO.dP Yc Z Z (au.bV _) Z xU (au.aS _) Z zg) (Ev.cs gq 2 Z ?_); refine B1 hf fun e10 h29 hf=>Ev.cons Z Z Z (AO.dP h29 Z Z (au.bV _) Z xU (au.aS _) Z zg) (Ev.cs gq 1 Z ?_); refine B1 hf fun PN h30 hf=>Ev.cons Z Z Z (AO.call Z _ Z Z agH ((Ol _ _).h h30 zg)) (Ev.nil ?_); show AR _ _ _ _ _ _ _ _; cases hf; exact Rx 2 [0] Z Z (ZC [0] Z Z h)
 refine V 2 Z (C hf Z (fun h31 hf=>?_) fun h31 hf=>?_)
 · replace hf:=(uT _).trans hf; obtain ⟨x17,x18,h32,hf⟩:=f_ hf; refine W 1 Z (CL Z ((C_ _ _).h h32 ?_)); cases hf; exact Rx 4 [0] Z Z (ZC [0] Z Z h)
 replace hf:=(uT _).trans hf; obtain ⟨x19,x20,h33,hf⟩:=f_ hf; refine W 1 Z (CL Z ((C_ _ _).h h33 ?_)); cases hf; exact Rx 4 [0] Z Z (ZC [0] Z Z h)
theorem PY (eD) (Av:zw eD) (gQ) (Aw:zx gQ) (gW) (xg:BJ gW) (e1:ah) (bM:List aO) {r0:au} {r1:Int} (hf:wm eD gQ gW e1 bM=some (r0,r1)) (h:Q (.ret (.tuple [.agg (aN r0),iP r1])) τ):PC 145 [.agg (aP e1),.list (List.map aO.cells bM)] τ Q:=by
 unfold wm at hf; refine BN 69 [.cell 4 63,.tmp 5] [0,1] Tryz.func145 Z Z Z Z Z (W 1 Z (AS Z (AO.bW Z Ef (fun b4=>?_)))); obtain ⟨ig,x1,h1,hf⟩:=f_ hf; refine U 3 Z (CL Z ((G9 _).h h1 (U 3 Z (AS Z (AO.bW Z Ef (fun b7=>(Rr 3 [0] Z Z (AS Z (AO.fI (l:=ig) Z Z Z Z QG Z Z (J 1 Z (C hf Z (fun h2 hf=>?_) fun h2 hf=>?_)))))))))))
 · cases hf; exact Wx 3 [1] Z Z (ZC [1] Z Z h)
 refine V 0 Z (AW.draw 8 mixed (by kernel_rfl) Z ?_); refine Ev.cs gq 2 Z (Ev.cons Z Z Z (AO.fI (l:=e1.args) Z Z Z Z EU Z (ah.bV _) zg) (Ev.cs gq 1 Z ?_)); refine B1 hf fun e2 h3 hf=>Ev.cons Z Z Z (AO.dP h3 Z Z Z Z QG Z Z zg) (Ev.cs gq 1 Z (Ev.cons Z Z Z (AO.fI (l:=e2) Z Z Z Z xU Z (au.bV _) zg) (Ev.cs gq 1 Z ?_))); refine Ev.nil ?_; show AR _ _ _ _ _ _ _ _; refine J 0 Z (C hf Z (fun h4 hf=>?_) fun h4 hf=>?_)
 · cases hf; exact Wx 3 [1] Z Z (ZC [1] Z Z h)
 obtain ⟨eH,f1,h5,hf⟩:=f_ hf; refine W 3 Z (CL Z (xg _ _ h5 (J 7 Z (C hf Z (fun h6 hf=>?_) fun h6 hf=>?_))))
 · cases hf; exact Wx 4 [1] Z Z (ZC [1] Z Z h)
 refine W 1 Z (AS Z (AO.fI (l:=ig) Z Z Z Z QG Z Z ?_)); refine J 1 Z (LK1 (fun x2=>[(2,.ref (aP e1)),(4,pP b4),(7,pP b7),(8,.list (au.bC eH)),(42,.list (List.map au.oH ig)),(43,iP (ig.length:Int)),(44,iP x2)]) (fun x2=>[.box b7 (aN x1),.box b4 [iP 0,.own (.slice none 0 0) []]]) (fun dQ x2=>kW e1 ig x1 eH dQ x2=some (r0,r1)) BIG 0 Z Z hf (fun _ hz=>fC hz) ?_); intro dQ x2 hf; rw [kW] at hf; refine V 1 Z (C hf Z (fun h7 hf=>?_) fun h7 hf=>?_)
 ·
  refine B1 hf fun yJ h8 hf=>W 0 Z (AS Z (AO.dP h8 Z Z Z Z QG Z Z ?_)); refine B1 hf fun x3 h9 hf=>U 4 Z (CL Z ((OE _ _).h h9 (J 1 Z (C hf Z (fun h10 hf=>?_) fun h10 hf=>?_))))
  · exact M 2 Z ⟨(bL (x2 + 1)),Z,Z,Z,hf⟩
  refine V 3 Z (C hf Z (fun h11 hf=>?_) fun h11 hf=>?_)
  · cases hf; exact Wx 3 [0,1] Z Z (ZC [1] Z Z h)
  refine B1 hf fun e3 h12 hf=>W 1 Z (AS Z (AO.dP h12 Z Z (au.bV _) Z xU (au.aS _) Z (J 3 Z (C hf Z (fun Gc hf=>?_) fun Gc hf=>?_))))
  · refine B1 hf fun e4 FW hf=>W 1 Z (AS Z (AO.dP FW Z Z (au.bV _) Z xU (au.aS _) Z ?_)); cases hf; exact Rx 3 [1] Z Z (ZC [1] Z Z h)
  refine B1 hf fun e5 Sv hf=>W 1 Z (AS Z (AO.dP Sv Z Z (au.bV _) Z xU (au.aS _) Z ?_)); cases hf; exact Rx 3 [1] Z Z (ZC [1] Z Z h)
 cases hf; exact Wx 3 [1] Z Z (ZC [1] Z Z h)
theorem Ro (eD) (Av:zw eD) (gQ) (Aw:zx gQ) (gW) (xg:BJ gW) (l1:List ah) (bM:List aO) {r0:List au} {r1:Int} (hf:E5 eD gQ gW l1 bM=some (r0,r1)) (h:Q (.ret (.tuple [.list (au.bC r0),iP r1])) τ):PC 146 [.list (ah.bC l1),.list (List.map aO.cells bM)] τ Q:=by
 unfold E5 at hf; refine BN 32 [.tmp 4,.tmp 5] [0,1] Tryz.func146 Z Z Z Z Z (W 0 Z (AS Z (AO.jO Z Z (U 3 Z (AS Z (AO.fI (l:=l1) Z Z Z Z EU Z (ah.bV _) (J 1 Z (AW.row 2 63 (LK3 (fun dx v1 x1=>[(1,.list (List.map aO.cells bM)),(6,.own v1 (au.bC dx)),(11,.list (ah.bC l1)),(12,iP (l1.length:Int)),(13,iP x1)]) (fun dx v1 x1=>[.row v1 (au.bC dx).length 2 63]) (fun dQ dx v1 x1=>lY eD l1 bM dQ dx x1=some (r0,r1)) BIG [] (.slice none 0 0) 0 Z Z hf (fun _ _ _ hz=>fC hz) ?_))))))))); intro dQ dx v1 x1 hf; rw [lY] at hf; refine V 1 Z (C hf Z (fun h1 hf=>?_) fun h1 hf=>?_)
 ·
  refine B1 hf fun e1 h2 hf=>W 0 Z (AS Z (AO.dP h2 Z Z (ah.bV _) Z EU (ah.aS _) Z (U 1 Z (AS Z (AO.bW Z F3 (fun b8=>?_)))))); obtain ⟨x2,f1,h3,hf⟩:=f_ hf; refine Rr 3 [0,0] Z Z (CL Z (Av _ _ h3 (U 3 Z (AS Z (AO.bW Z Ef (fun b9=>(Rw 4 [0] Z Z (C hf Z (fun h4 hf=>?_) fun h4 hf=>?_))))))))
  · refine W 1 Z (AS Z (AO.jO Z Z ?_)); cases hf; exact N 1 Z (Y Z h)
  refine Wr 2 [0] rfl rfl (AS rfl (AO.bF (au.bC [x2]) rfl tu rfl rfl rfl (by first | rfl | simp only [List.map,au.aS,au.bC]) ?_)); refine B1 hf fun wE h5 hf=>AS Z (AO.wC (i:=2) (l:=dx) (m:=[x2]) h5 Z Z Z Z Z Z Z tu xU (au.bV _) (au.bV _) (au.bV _).symm (au.dK) (au.cells_one) (by decide) (fun v2 s1 hs1=>?_)); cases hs1; refine BG 3 Z (AR.drop1 (AR.drop1 ?_)); exact N 0 Z ⟨wE,v2,(bL (x1 + 1)),Z,Z,Z,hf⟩
 cases hf; exact M 3 Z (Y Z h)
theorem Dp :∀ k:Nat,(zw (eT k))∧(zx (j6 k))∧(BJ (jl k)):=by
 intro k
 induction k with
 | zero=>exact ⟨fun _ _ _ _ hz=>by first | cases hz | (unfold eT at hz; cases hz),fun _ _ _ _ hz=>by first | cases hz | (unfold j6 at hz; cases hz),fun _ _ _ _ hz=>by first | cases hz | (unfold jl at hz; cases hz)⟩
 | succ k ih=>exact ⟨fun iF gM zT zS hz τ Q hq=>PX (eT k) ih.1 (j6 k) ih.2.1 (jl k) ih.2.2 iF gM hz hq,fun iF gM zT zS hz τ Q hq=>PY (eT k) ih.1 (j6 k) ih.2.1 (jl k) ih.2.2 iF gM hz hq,fun X_ gM zT zS hz τ Q hq=>Ro (eT k) ih.1 (j6 k) ih.2.1 (jl k) ih.2.2 X_ gM hz hq⟩
instance acZ (iF:ah) (gM:List aO):CT Tryz.prog (GR iF gM) (fun r=>.ret (.tuple [.agg (aN r.1),iP r.2])) 86 [.agg (aP iF),.list (List.map aO.cells gM)]:=⟨zP rfl,fun {r} hf {τ Q} h=>((Dp BIG).1) iF gM hf h⟩
instance ac0 (iF:ah) (gM:List aO):CT Tryz.prog (UH iF gM) (fun r=>.ret (.tuple [.agg (aN r.1),iP r.2])) 145 [.agg (aP iF),.list (List.map aO.cells gM)]:=⟨zP rfl,fun {r} hf {τ Q} h=>((Dp BIG).2.1) iF gM hf h⟩
instance aem (X_:List ah) (gM:List aO):CT Tryz.prog (XI X_ gM) (fun r=>.ret (.tuple [.list (au.bC r.1),iP r.2])) 146 [.list (ah.bC X_),.list (List.map aO.cells gM)]:=⟨zP rfl,fun {r} hf {τ Q} h=>((Dp BIG).2.2) X_ gM hf h⟩
instance Q_ (e1:ah) (bM:List aO):CT Tryz.prog (wU e1 bM) (fun r=>.ret (.tuple [.agg (aN r.1),iP r.2])) 51 [.agg (aP e1),.list (List.map aO.cells bM)]:=by
  unfold wU; exact Z1 ⟨35,[],[]⟩ Z Tryz.func51 Z Z Z Z
section
variable [I6]
instance Fa (s1:Str) (bM:List aO):CT Tryz.prog (pV s1 bM) (fun r=>.ret (iP r)) 21 [.str s1,.list (List.map aO.cells bM)]:=⟨zP rfl,fun {r0} hf {τ Q} h=>by
 unfold pV at hf; refine AC.none (AC.Mc 46 [.cell 4 24] [0,1] Tryz.func21 Z Z Z Z Z ?_); obtain ⟨ps1,bK,o8,h1,hf⟩:=qy hf; refine AW.sr (AR.step Z Z Z (AO.FN Z Z Z (AR.step Z Z Z (AO.bW Z Va (fun b4=>(AR.nil [0,3,4] Z ?_)))))); refine AW.sr (cs 1 Z (AR.step Z Z Z (AO.call Z _ Z Z adn ((rP _).h h1 (cs 7 Z ?_))))); refine AR.nil [3,4,5,7] Z (AW.seq (AW.sr (cs 2 Z ?_))); refine AR.nil [3,4,5,7,19] Z (AW.cond Z (fun h2=>?_) (fun h2=>?_))
 ·
  cases jP h2 hf; refine AW.sr (cs 1 Z (AR.bR Z Z (AO.dD (i:=0) Z Z Z qO Z Z Z Z Z (AR.nil [4] Z ?_)))); refine AW.ret ?_; exact .inl ⟨rfl,_,⟨_,_,rfl,⟨_,_,0,_,_,rfl,rfl,qO,rfl⟩,rfl⟩,[],List.nil_sublist _,h⟩
 replace hf:=ji h2 hf; refine B1 hf fun CR h3 hf=>?_; refine AW.skip (AW.seq (AW.sr (AR.step Z Z Z (AO.Cy Z Z ac8 Z ?_)))); refine AR.step Z Z Z (AO.call Z _ Z Z agL ((TB _).h h3 (cs 1 Z (AR.nil [3,4,5,8] Z (AW.sr ?_))))); refine cs 2 Z (AR.nil [3,4,5,8,24] Z (AW.cond Z (fun h4=>?_) (fun h4=>?_)))
 ·
  cases jP h4 hf; refine AW.sr (cs 1 Z (AR.bR Z Z (AO.dD (i:=0) Z Z Z qO Z Z Z Z Z (AR.nil [4] Z ?_)))); refine AW.ret ?_; exact .inl ⟨rfl,_,⟨_,_,rfl,⟨_,_,0,_,_,rfl,rfl,qO,rfl⟩,rfl⟩,[],List.nil_sublist _,h⟩
 replace hf:=ji h4 hf; refine B1 hf fun s2 h5 hf=>?_; cases hf; refine AW.skip (AW.seq (AW.sr (cs 1 Z ?_))); refine AR.step Z Z Z (AO.call Z _ Z Z adg (yc _ (AR.nil [3,4,27] Z (AW.block (AW.LX (β:=Option Int) (X:=ah) Z ade (fun x1=>[.agg (aP x1)]) (fun _=>Z) (by decide) (jX bM) (fun s τ=>τ=[.box b4 [iP (s.getD 0)]]) (fun s=>s.map fun _=>.ret) (s0:=none) (s1:=s2) Z Z ?_ ?_ ?_)))))
 ·
  intro l T' hy τ hT; refine wu l T' (jX bM) hy ps1 h5 hT fun τ' hT'=>?_; exact ⟨⟨_,Z⟩,hT'⟩
 ·
  rintro l s x1 b s3 _ hh rfl; unfold jX at hh; cases s with
  | some e=>cases hh
  | none=>
  refine ⟨Z,?_⟩; obtain ⟨t1,VT,h6,hh⟩:=f_ hh; refine qK.region Z (AR.step Z Z Z (AO.bW Z F3 (fun b9=>(AR.bR Z Z (AO.dD (i:=0) Z Z Z uJ Z Z Z Z Z (AR.nil [3,4,9] Z ?_)))))); refine ⟨Z,(qK.block (qK.seq (qK.region Z ?_)))⟩; refine AR.step Z Z Z (AO.bJ (i:=0) Z Z Z uJ Z Z (AR.step Z Z Z (AO.Cy Z Z ac8 Z (AR.step Z Z Z (AO.call Z _ Z Z agK ((Q_ _ _).h h6 (cs 3 Z ?_))))))); refine AR.step Z Z Z (AO.bW Z Ef (fun b10=>(AR.bR Z Z (AO.dD (i:=0) Z Z Z jr Z Z Z Z Z (cs 1 Z (AR.nil [4,10,11] Z ?_)))))); refine qK.seq (qK.seq (qK.region Z (cs 2 Z ?_))); refine AR.nil [4,10,11,36] Z (qK.cond Z (fun h7=>?_) (fun h7=>?_))
  ·
   cases jP h7 hh; refine qK.seq (qK.region Z (cs 1 Z (AR.bR Z Z (AO.dD (i:=2) Z Z Z qO Z Z Z Z Z ?_)))); refine AR.nil [] Z (qK.ret ?_); exact ⟨Z,⟨_,.cons _ (.cons _ (List.Sublist.refl _)),Z⟩,Z,Z⟩
  replace hh:=ji h7 hh; refine qK.skip (qK.seq (qK.region Z (cs 1 Z ?_))); refine AR.step Z Z Z (AO.bJ (i:=0) Z Z Z NS Z Z (cs 2 Z (AR.or 4 41 45 [4,10] (x:=(t1.kind == 6)) Z Z (fun h8=>?_) (fun h8=>?_) ?_)))
  ·
   refine AR.is 41 h8 Z (cs 1 Z (AR.go Z Z Z Z Z Z (AO.bJ (i:=0) Z Z Z NS Z Z (cs 2 Z ?_)))); refine AR.nil [45,4,10] Z ?_; exact ⟨Z,Z,Z,Z⟩
  ·
   refine AR.is 41 h8 Z (cs 4 Z (AR.nil [45,4,10] Z ?_)); exact ⟨Z,Z,Z,Z⟩
  refine AR.nil [4,45] Z (qK.cond Z (fun h9=>?_) (fun h9=>?_))
  ·
   cases jP h9 hh; refine qK.seq (qK.region Z (AR.bR Z Z (AO.dD (i:=2) Z Z Z qO Z Z Z Z Z (AR.nil [] Z ?_)))); refine qK.ret ?_; exact ⟨Z,⟨_,.cons _ (.cons _ (List.Sublist.refl _)),Z⟩,Z,Z⟩
  ·
   cases ji h9 hh; refine qK.skip ?_; exact ⟨Z,⟨_,.cons _ (.cons _ (List.Sublist.refl _)),Z⟩,Z,Z⟩
 ·
  rintro D _ rfl; cases s2 with
  | some e=>exact .inr ⟨D,_,Z,Z,_,⟨_,_,Z,⟨_,_,0,_,_,Z,Z,qO,Z⟩,Z⟩,[],List.nil_sublist _,h⟩
  | none=>
   show AW _ _ _ _ _ _ _; refine AW.sr (AR.bR Z Z (AO.dD (i:=0) Z Z Z qO Z Z Z Z Z (AR.nil [4] Z (AW.ret ?_))))
   exact .inr ⟨D,[_],Z,Z,_,⟨_,_,Z,⟨_,_,0,_,_,Z,Z,qO,Z⟩,Z⟩,[],List.nil_sublist _,h⟩⟩
end
section
variable [I6]
instance aeg :CT Tryz.prog (Cz) (fun r=>.ret (.bool r)) 10 []:=⟨zP rfl,fun {r0} hf {τ Q} h=>by
 unfold Cz at hf; refine BN 136 [.tmp 0] [] Tryz.func10 Z Z Z Z Z (W 1 Z (AS Z (AO.bF (List.map fG ([36]:List UInt8)) Z J_ Z Z Z Z (AS Z (AO.FM Z YI aev qG Z Z ?_))))); refine B1 hf fun x1 h1 hf=>U 2 Z (AS Z (AO.JL h1 Z Z Z ?_)); refine B1 hf fun x2 h2 hf=>U 1 Z (AS Z (AO.JL h2 Z Z Z ?_)); refine B1 hf fun x3 h3 hf=>AS Z (AO.JL h3 Z Z Z ?_); refine B1 hf fun x4 h4 hf=>CL Z ((NA).h h4 ?_); refine B1 hf fun x5 h5 hf=>AS Z (AO.JL h5 Z Z Z ?_); refine B1 hf fun s1 h6 hf=>AS rfl (AO.JL h6 rfl rfl rfl (U 3 rfl (AS rfl (AO.bF (List.map bT.cells [(bT.mk ([120]:Str) (av.mk 2 false 2 ([]:Str) [] []))]) rfl agy rfl rfl rfl (by first | rfl | simp only [List.map,bT.aS]) ?_)))); obtain ⟨l1,x6,e1,h7,hf⟩:=qy hf; refine U 2 Z (CL Z ((rP _).h h7 ?_)); obtain ⟨t1,f1,h8,hf⟩:=f_ hf; refine U 9 Z (CL Z ((KN _ _).h h8 ?_)); obtain ⟨n1,g1,h9,hf⟩:=f_ hf; refine U 6 Z (CL Z ((NC _).h h9 ?_)); refine B1 hf fun x7 h10 hf=>U 5 Z (CL Z ((NA).h h10 ?_))
 refine B1 hf fun x8 h11 hf=>AS Z (AO.JL h11 Z Z Z ?_); refine B1 hf fun x9 h12 hf=>AS Z (AO.JL h12 Z Z Z ?_); obtain ⟨KQ,bK,hx1,Gc,hf⟩:=qy hf; refine CL Z ((rP _).h Gc (U 10 Z (AR.or 4 55 59 [1,2,4,7,8,9,10,12,13] (x:=((l1.length:Int) != 3)) Z Z (fun FW=>?_) (fun FW=>?_) ?_)))
 · refine Is 55 FW Z (U 1 Z (GO Z (AO.fI (l:=l1) Z Z Z Z tO Z Z ?_))); exact BG 2 Z (En [59,1,2,4,7,8,9,10,12,13] Z)
 · refine Is 55 FW Z ?_; exact BG 4 Z (En [59,1,2,4,7,8,9,10,12,13] Z)
 refine B1 hf fun b1 h16 hf=>U 1 Z (AR.rF 9 60 69 false [1,2,4,7,8,9,10,12,13] b1 Z Z (fun Sv=>?_) (fun Sv=>?_) ?_)
 · refine IF 60 Sv h16 Z fun h16=>?_; refine B1 h16 fun e2 Yd h16=>U 1 Z (GO Z (AO.dP Yd Z Z Z Z tO (aK.aS _) Z ?_)); refine B1 h16 fun PO h18 h16=>U 3 Z (GO Z (AO.JL h18 Z Z Z ?_)); refine B1 h16 fun Rl h19 h16=>GO Z (AO.JL h19 Z Z Z ?_); cases h16; exact BG 2 Z (En [69,1,2,4,7,8,9,10,12,13] Z)
 · refine IT 60 Sv h16 Z fun h16=>?_; cases h16; exact BG 9 Z (En [69,1,2,4,7,8,9,10,12,13] Z)
 refine B1 hf fun b2 h21 hf=>U 1 Z (AR.rF 6 70 76 false [1,2,4,7,8,9,10,12,13] b2 Z Z (fun h20=>?_) (fun h20=>?_) ?_)
 · refine IF 70 h20 h21 Z fun h21=>?_; refine B1 h21 fun e3 h22 h21=>U 1 Z (GO Z (AO.dP h22 Z Z Z Z tO (aK.aS _) Z ?_)); cases h21; exact BG 4 Z (En [76,1,2,4,7,8,9,10,12,13] Z)
 · refine IT 70 h20 h21 Z fun h21=>?_; cases h21; exact BG 6 Z (En [76,1,2,4,7,8,9,10,12,13] Z)
 refine B1 hf fun b3 Xp hf=>U 1 Z (AR.rF 6 77 83 false [1,2,4,7,8,9,10,12,13] b3 Z Z (fun h23=>?_) (fun h23=>?_) ?_)
 · refine IF 77 h23 Xp Z fun Xp=>?_; refine B1 Xp fun e4 h25 Xp=>U 1 Z (GO Z (AO.dP h25 Z Z Z Z tO (aK.aS _) Z ?_)); cases Xp; exact BG 4 Z (En [83,1,2,4,7,8,9,10,12,13] Z)
 · refine IT 77 h23 Xp Z fun Xp=>?_; cases Xp; exact BG 6 Z (En [83,1,2,4,7,8,9,10,12,13] Z)
 refine U 1 Z (On 3 84 87 [1,2,4,7,9,10,12,13] (f1 != 0) Z Z Z Z ?_); refine B1 hf fun b4 Yc hf=>U 1 Z (AR.rF 6 88 94 false [2,4,9,10,12,13] b4 Z Z (fun h27=>?_) (fun h27=>?_) ?_)
 · refine IF 88 h27 Yc Z fun Yc=>?_; refine B1 Yc fun Wt h29 Yc=>U 2 Z (GO Z (AO.JL h29 Z Z Z ?_)); refine B1 Yc fun x14 h30 Yc=>GO Z (AO.JL h30 Z Z Z ?_); cases Yc; exact BG 2 Z (En [94,2,4,9,10,12,13] Z)
 · refine IT 88 h27 Yc Z fun Yc=>?_; cases Yc; exact BG 6 Z (En [94,2,4,9,10,12,13] Z)
 refine J 0 Z (C hf Z (fun h31 hf=>?_) fun h31 hf=>?_)
 · cases hf; exact M 1 Z (Y Z h)
 refine W 2 rfl (AS rfl (AO.bF (List.map aO.cells [(aO.mk ([120]:Str) (au.mk 3 []))]) rfl agx rfl rfl rfl (by first | rfl | simp only [List.map,aO.aS]) ?_)); refine U 4 Z (AR.and 4 100 104 [2,4,9,12,13,14] (x:=((n1.length:Int) == 1)) Z Z (fun h32=>?_) (fun h32=>?_) ?_)
 · refine Is 100 h32 Z (U 1 Z (GO Z (AO.fI (l:=n1) Z Z Z Z tN Z Z ?_))); exact BG 2 Z (En [104,2,4,9,12,13,14] Z)
 · refine Is 100 h32 Z ?_; exact BG 4 Z (En [104,2,4,9,12,13,14] Z)
 refine B1 hf fun b5 Kw hf=>U 1 Z (AR.rF 5 105 110 true [2,4,12,13,14] b5 Z Z (fun h33=>?_) (fun h33=>?_) ?_)
 · refine IT 105 h33 Kw Z fun Kw=>?_; refine B1 Kw fun e5 ZI Kw=>U 1 Z (GO Z (AO.dP ZI Z Z Z Z tN Z Z ?_)); cases Kw; exact BG 3 Z (En [110,2,4,12,13,14] Z)
 · refine IF 105 h33 Kw Z fun Kw=>?_; cases Kw; exact BG 5 Z (En [110,2,4,12,13,14] Z)
 refine U 1 Z (An 3 111 114 [2,4,13,14] (bK == 6) Z Z Z Z (U 1 Z (An 3 115 118 [2,4,14] (hx1 == 4) Z Z Z Z ?_))); refine B1 hf fun b6 h39 hf=>U 1 Z (AR.rF 5 119 124 true [2,14] b6 Z Z (fun h38=>?_) (fun h38=>?_) ?_)
 · refine IT 119 h38 h39 Z fun h39=>?_; refine B1 h39 fun Ws h40 h39=>U 1 Z (GO Z (AO.call Z _ Z Z agT ((OC _).h h40 ?_))); cases h39; exact BG 3 Z (En [124,2,14] Z)
 · refine IF 119 h38 h39 Z fun h39=>?_; cases h39; exact BG 5 Z (En [124,2,14] Z)
 refine B1 hf fun b7 h42 hf=>U 1 Z (AR.rF 5 125 130 true [2] b7 Z Z (fun h41=>?_) (fun h41=>?_) ?_)
 · refine IT 125 h41 h42 Z fun h42=>?_; refine B1 h42 fun PN h43 h42=>U 2 Z (GO Z (AO.call Z _ Z Z adl ((Fa _ _).h h43 ?_))); cases h42; exact BG 2 Z (En [130,2] Z)
 · refine IF 125 h41 h42 Z fun h42=>?_; cases h42; exact BG 5 Z (En [130,2] Z)
 refine BR hf fun b8 h45 hf=>?_; refine U 1 Z (AR.rF 4 131 135 true [] b8 Z Z (fun h44=>?_) (fun h44=>?_) ?_)
 · refine IT 131 h44 h45 Z fun h45=>?_; refine B1 h45 fun x17 h46 h45=>U 1 Z (GO Z (AO.call Z _ Z Z adl ((Fa _ _).h h46 ?_))); cases h45; exact BG 2 Z (En [135] Z)
 · refine IF 131 h44 h45 Z fun h45=>?_; cases h45; exact BG 4 Z (En [135] Z)
 cases hf; exact N 1 Z (Y Z h)⟩
end
theorem Ni (l1:List aK) (c1:UInt8) {r0:List aK} (hf:z_ l1 c1=some r0) {v:Value} {Q:dL→List aQ→Prop} (h:∀ v',Q (.ret (.val v')) [.buf v' r0.length 12 39 (List.flatMap aK.cells r0)]):
  PC 32 [.val v,.int .u8 (c1.toNat:Int)] [.buf v l1.length 12 39 (List.flatMap aK.cells l1)] Q:=by
 unfold z_ at hf
 have hL:l1.length≤uU:=by
  by_cases hL:l1.length≤uU
  ·
   exact hL
  ·
   rw [if_neg hL] at hf; cases hf
 rw [if_pos hL] at hf; unfold uU at hL; refine AC.jC 42 [.tmp 4] [0,1] Tryz.func32 Z Z Z Z Z (AW.sr (cs 1 Z (AR.nil [0,1] Z ?_))); refine AW.seq (AW.sr (cs 1 Z (AR.step Z Z Z (AO.Iu (i:=0) Z Z Z Z tO Z Z ?_)))); refine cs 2 Z (AR.or 8 8 16 [0,1] (x:=uq l1) Z Z (fun h1=>?_) (fun h1=>?_) ?_)
 ·
  refine AR.is 8 h1 Z ?_; rcases List.eq_nil_or_concat l1 with rfl | ⟨l0,p1,rfl⟩
  ·
   simp at h1
  rw [List.concat_eq_append] at *
  have hj:bL (((l0 ++ [p1]).length:Int) - 1)=(l0.length:Int):=by
   rw [List.length_append,List.length_singleton] at hL ⊢; rw [aT (by omega) (by omega)]; omega
  have ZH:(List.flatMap aK.cells l0).length=l0.length * 12:=IJ aK.dK l0; refine cs 2 Z (AR.go Z Z Z Z Z Z (AO.Iu (i:=0) Z Z Z Z tO Z Z (cs 1 Z (AR.go Z Z Z Z Z Z (AO.w9 (i:=0) (sz:=12) (j:=bL (((l0 ++ [p1]).length:Int) - 1)) Z Z Z Z tO (by rw [hj]; omega) (by rw [hj]; simp) ?_))))); refine cs 1 Z (AR.go Z Z Z Z Z Z (AO.Pd (i:=0) (p:=.bool p1.EM) Z Z Z agq ?_ ?_ ?_))
  ·
   rw [hj,Int.toNat_natCast,List.flatMap_append,List.length_append,ZH,List.flatMap_cons,List.flatMap_nil,List.append_nil,aK.dK]; omega
  ·
   rw [hj,Int.toNat_natCast,List.flatMap_append,List.drop_append,List.drop_of_length_le (by omega),ZH,Nat.add_sub_cancel_left,List.flatMap_cons,aK.aS]; rfl
  refine cs 1 Z (AR.nil [16,0,1] Z ?_); rw [show uq (l0 ++ [p1])=p1.EM from by simp [uq]]; exact ⟨Z,Z,Z,Z⟩
 ·
  refine AR.is 8 h1 Z (cs 8 Z (AR.nil [16,0,1] Z ?_)); exact ⟨Z,Z,Z,Z⟩
 refine AR.nil [0,1,16] Z (AW.cond Z (fun h2=>?_) (fun h2=>?_))
 ·
  obtain ⟨IB,rfl⟩:=CW (jP h2 hf); refine AW.sr (cs 2 Z (AR.step Z Z Z (AO.bF (List.map fG ([c1]:List UInt8)) Z J_ Z Z Z Z (AR.step Z Z Z (AO.FM Z YI aev qG Z Z ?_))))); refine AR.step rfl rfl rfl (AO.build rfl K_ P_ rfl (AR.step rfl rfl rfl (AO.bF (List.map aK.cells [(aK.mk [c1] false (ah.mk 0 ([]:Str) (av.mk 0 false 0 ([]:Str) [] []) [] []))]) rfl Ka rfl rfl rfl (by first | rfl | simp only [List.map,aK.aS]) ?_)))
  refine AR.step Z Z Z (AO.Ns (i:=0) (l2:=List.map aK.cells [(aK.mk [c1] false (ah.mk 0 ([]:Str) (av.mk 0 false 0 ([]:Str) [] []) [] []))]) Z Z Z Z Z Z Z Ka tO (by intro y hy; cases List.mem_singleton.1 hy; exact aK.dK _) (by intro y hy; cases List.mem_singleton.1 hy; exact aK.cells_one _) (by simp only [List.map_cons,List.map_nil,List.length_singleton] at IB ⊢; unfold uU at IB; unfold maxLen; omega) (by simp only [List.map_cons,List.map_nil,List.length_singleton] at IB ⊢; unfold uU at IB; omega) (fun v2 s2 hs2=>?_)); cases hs2; refine cs 1 Z (AR.nil [4] Z (AW.ret ?_)); have hv:=h v2; rw [List.flatMap_append,List.length_append] at hv; exact ⟨rfl,_,⟨_,_,rfl,rfl,rfl⟩,_,List.Sublist.refl _,show Q (.ret (.val v2)) _ by simpa using hv⟩
 ·
  replace hf:=ji h2 hf; refine B1 hf fun t1 h3 hf=>?_; rcases List.eq_nil_or_concat l1 with rfl | ⟨l0,p1,rfl⟩
  ·
   simp at h2
  rw [List.concat_eq_append] at *
  have hj:bL (((l0 ++ [p1]).length:Int) - 1)=(l0.length:Int):=by
   rw [List.length_append,List.length_singleton] at hL ⊢; rw [aT (by omega) (by omega)]; omega
  have ZH:(List.flatMap aK.cells l0).length=l0.length * 12:=IJ aK.dK l0; rw [show uZ (l0 ++ [p1])=p1.text from by simp [uZ]] at h3; rw [show A_ (l0 ++ [p1]) t1=l0 ++ [aK.mk t1 p1.EM p1.expr] from by simp [A_]] at hf; cases hf; refine AW.skip (AW.seq (AW.draw 15 mixed (by kernel_rfl) Z ?_)); refine Ev.cs gq 2 Z (Ev.cons Z Z Z (AO.Iu (i:=0) Z Z Z Z tO Z Z zg) (Ev.cs gq 3 Z (Ev.cons Z Z Z (AO.Iu (i:=0) Z Z Z Z tO Z Z zg) ?_))); refine Ev.cs gq 1 Z (Ev.cons Z Z Z (AO.w9 (i:=0) (sz:=12) (j:=bL (((l0 ++ [p1]).length:Int) - 1)) Z Z Z Z tO (by rw [hj]; omega) (by rw [hj]; simp) zg) ?_); refine Ev.cs gq 1 Z (Ev.cons Z Z Z (AO.Pd (i:=0) (p:=.str p1.text) Z Z Z aex ?_ ?_ zg) ?_)
  ·
   rw [hj,Int.toNat_natCast,List.flatMap_append,List.length_append,ZH,List.flatMap_cons,List.flatMap_nil,List.append_nil,aK.dK]; omega
  ·
   rw [hj,Int.toNat_natCast,List.flatMap_append,List.drop_append,List.drop_of_length_le (by omega),ZH,Nat.add_sub_cancel_left,List.flatMap_cons,aK.aS]; rfl
  refine Ev.cs gq 1 Z (Ev.cons Z Z Z (AO.bF (List.map fG ([c1]:List UInt8)) Z J_ Z Z Z Z zg) (Ev.cons Z Z Z (AO.FM Z YI aev qG Z Z zg) (Ev.cons Z Z Z (AO.JL h3 Z Z Z zg) ?_))); refine Ev.nil ?_; show AR _ _ _ _ _ _ _ _; refine AR.step Z Z Z (AO.w9 (i:=0) (sz:=12) (j:=bL (((l0 ++ [p1]).length:Int) - 1)) Z Z Z Z tO (by rw [hj]; omega) (by rw [hj]; simp) ?_); refine cs 1 Z (AR.bR Z Z (AO.LB (i:=0) (new:=[.str t1]) (cs':=List.flatMap aK.cells (l0 ++ [aK.mk t1 p1.EM p1.expr])) Z Z Z aex Z Z Z (by simp) ?_ ?_ Z ?_))
  ·
   rw [hj,Int.toNat_natCast,List.flatMap_append,List.length_append,ZH,List.flatMap_cons,List.flatMap_nil,List.append_nil,aK.dK,List.length_singleton]; omega
  ·
   unfold putCells; rw [hj,Int.toNat_natCast,List.flatMap_append,List.flatMap_append,Nat.add_zero,List.take_append_of_le_length (by omega),List.take_of_length_le (by omega),List.drop_append,List.drop_of_length_le (by rw [ZH]; omega),ZH,Nat.add_sub_cancel_left]; simp [aK.aS]
  refine AR.nil [0] Z (AW.sr (cs 2 Z (AR.nil [4] Z ?_))); refine AW.ret ?_; have hv:=h v; rw [List.length_append] at hv; rw [List.length_append]; exact ⟨rfl,_,⟨_,_,rfl,rfl,rfl⟩,_,List.Sublist.refl _,hv⟩
instance (s1 :Str) (n_ eZ):LE (nZ s1 n_ eZ) (fun j p=>nZ s1 j p) n_ eZ [] [] [] [0] (fun v w p=>[(1,iP p)]) (fun v w p s=>s):=⟨Z⟩
instance acL (s1:Str) (bK:Int):CT Tryz.prog (Dg s1 bK) (fun r=>.ret (iP r)) 66 [.str s1,iP bK]:=by
  unfold Dg; exact Z1 ⟨27,[],[]⟩ Z Tryz.func66 Z Z Z Z
instance (s1 :Str) (n_ eZ mY):LE (iI s1 n_ eZ mY) (fun j p=>iI s1 j p.1 p.2) n_ (eZ,mY) [] [] [] [0] (fun v w p=>[(1,iP p.1),(5,iP p.2)]) (fun v w p s=>s):=⟨Z⟩
instance Om (s1:Str) (bK:Int):CT Tryz.prog (Ba s1 bK) (fun r=>.ret (iP r)) 33 [.str s1,iP bK]:=by
  unfold Ba; exact Z1 ⟨31,[],[]⟩ Z Tryz.func33 Z Z Z Z
instance (aZ :Str) (n_ eZ mY):LE (mH aZ n_ eZ mY) (fun j p=>mH aZ j p.1 p.2) n_ (eZ,mY) [] [] [] [0] (fun v w p=>[(1,iP p.1),(5,.bool p.2)]) (fun v w p s=>s):=⟨Z⟩
instance abl (aZ:Str) (bK:Int):CT Tryz.prog (nJ aZ bK) (fun r=>.ret (iP r)) 103 [.str aZ,iP bK]:=by
  unfold nJ; exact Z1 ⟨47,[],[]⟩ Z Tryz.func103 Z Z Z Z
instance ad5 (c1:UInt8):CT Tryz.prog (nk c1) (fun r=>.ret (.bool r)) 162 [.int .u8 (c1.toNat:Int)]:=by
  unfold nk; exact Z1 ⟨9,[],[]⟩ Z Tryz.func162 Z Z Z Z
instance (aZ :Str) (bK:Int) (n_ eZ):LE (qp aZ bK n_ eZ) (fun j p=>qp aZ bK j p) n_ eZ [] [] [] [0,1] (fun v w p=>[(5,iP p)]) (fun v w p s=>s):=⟨Z⟩
instance acS (aZ:Str) (bK:Int):CT Tryz.prog (Af aZ bK) (fun r=>.ret (iP r)) 247 [.str aZ,iP bK]:=by
  unfold Af; exact Z1 ⟨23,[],[]⟩ Z Tryz.func247 Z Z Z Z
instance acR (c1:UInt8):CT Tryz.prog (wM c1) (fun r=>.ret (.bool r)) 161 [.int .u8 (c1.toNat:Int)]:=by
  unfold wM; exact Z1 ⟨21,[],[]⟩ Z Tryz.func161 Z Z Z Z
instance (aZ :Str) (bK:Int) (n_ eZ):LE (uM aZ bK n_ eZ) (fun j p=>uM aZ bK j p) n_ eZ [] [] [] [0,1] (fun v w p=>[(5,iP p)]) (fun v w p s=>s):=⟨Z⟩
instance afF (aZ:Str) (bK:Int):CT Tryz.prog (Co aZ bK) (fun r=>.ret (iP r)) 176 [.str aZ,iP bK]:=by
  unfold Co; exact Z1 ⟨31,[],[]⟩ Z Tryz.func176 Z Z Z Z
instance (s1 :Str) (n_ eZ mY):LE (qY s1 n_ eZ mY) (fun j p=>qY s1 j p.1 p.2) n_ (eZ,mY) [] [] [] [0] (fun v w p=>[(4,iP p.1),(5,iP p.2)]) (fun v w p s=>s):=⟨Z⟩
instance aga (s1:Str):CT Tryz.prog (wY s1) (fun r=>.ret (.tuple [iP r.1,.bool r.2])) 248 [.str s1]:=by
  unfold wY; exact Z1 ⟨45,[],[]⟩ Z Tryz.func248 Z Z Z Z
instance acQ (aZ:Str) (bK:Int):CT Tryz.prog (Ae aZ bK) (fun r=>.ret (.tuple [.agg (mG r.1),iP r.2.1,iP r.2.2])) 174 [.str aZ,iP bK]:=by
  unfold Ae; exact Z1 ⟨50,[],[]⟩ Z Tryz.func174 Z Z Z Z
instance af_ (c1:UInt8):CT Tryz.prog (Fv c1) (fun r=>.ret (iP r)) 352 [.int .u8 (c1.toNat:Int)]:=by
  unfold Fv; exact Z1 ⟨26,[],[]⟩ Z Tryz.func352 Z Z Z Z
instance (aZ :Str) (bK:Int) (n_ eZ mY):LE (jU aZ bK n_ eZ mY) (fun j p=>jU aZ bK j p.1 p.2) n_ (eZ,mY) [] [] [] [0,1] (fun v w p=>[(7,iP p.1),(8,iP p.2)]) (fun v w p s=>s):=⟨Z⟩
instance abm (aZ:Str) (bK:Int):CT Tryz.prog (xG aZ bK) (fun r=>.ret (.tuple [.int .u8 (r.1.toNat:Int),iP r.2.1,iP r.2.2])) 316 [.str aZ,iP bK]:=by
  unfold xG; exact Z1 ⟨35,[],[]⟩ Z Tryz.func316 Z Z Z Z
instance Yl (aZ:Str) (bK:Int):CT Tryz.prog (l9 aZ bK) (fun r=>.ret (.tuple [.int .u8 (r.1.toNat:Int),iP r.2.1,iP r.2.2])) 249 [.str aZ,iP bK]:=by
  unfold l9; exact Z1 ⟨46,[],[]⟩ Z Tryz.func249 Z Z Z Z
instance (aZ :Str) (bK:Int) (n_ eZ mY):LE (uN aZ bK n_ eZ mY) (fun j p=>uN aZ bK j p.1 p.2) n_ (eZ,mY) [7] [] [(7,1,5)] [0,1,4] (fun v w p=>[(7,.own v (List.map fG p.1)),(8,iP p.2)]) (fun v w p s=>putRow 0 v ((List.map fG p.1).length) (s)):=⟨Z⟩
instance afG (aZ:Str) (bK:Int):CT Tryz.prog (Ey aZ bK) (fun r=>.ret (.tuple [.agg (mG r.1),iP r.2.1,iP r.2.2])) 175 [.str aZ,iP bK]:=by
  unfold Ey; exact Z1 ⟨52,[],[]⟩ Z Tryz.func175 Z Z Z Z
instance (aZ :Str) (bK:Int) (n_ eZ):LE (eF aZ bK n_ eZ) (fun j p=>eF aZ bK j p) n_ eZ [] [] [] [0,1] (fun v w p=>[(5,iP p)]) (fun v w p s=>s):=⟨Z⟩
instance (aZ :Str) (bK:Int) (n_ eZ):LE (fq aZ bK n_ eZ) (fun j p=>fq aZ bK j p) n_ eZ [] [] [] [0,1] (fun v w p=>[(6,iP p)]) (fun v w p s=>s):=⟨Z⟩
instance aay (aZ:Str) (bK:Int):CT Tryz.prog (vv aZ bK) (fun r=>.ret (iP r)) 177 [.str aZ,iP bK]:=by
  unfold vv; exact Z1 ⟨38,[],[]⟩ Z Tryz.func177 Z Z Z Z
instance ad4 (aZ:Str) (bK:Int):CT Tryz.prog (Cq aZ bK) (fun r=>.ret (.tuple [.agg (mG r.1),iP r.2.1,iP r.2.2])) 104 [.str aZ,iP bK]:=by
  unfold Cq; exact Z1 ⟨59,[],[]⟩ Z Tryz.func104 Z Z Z Z
instance acP (gy:Int) (t1:aA):CT Tryz.prog (pO gy t1) (fun r=>.ret (iP r)) 105 [iP gy,.agg (mG t1)]:=by
  unfold pO; exact Z1 ⟨40,[],[]⟩ Z Tryz.func105 Z Z Z Z
instance (aZ :Str) (n_ eZ mY z2_):LE (jS aZ n_ eZ mY z2_) (fun j p=>jS aZ j p.1 p.2.1 p.2.2) n_ (eZ,mY,z2_) [5] [] [(5,3,116)] [0] (fun v w p=>[(5,.own v (List.map aA.cells p.1)),(6,iP p.2.1),(7,iP p.2.2)]) (fun v w p s=>putRow 0 v ((List.map aA.cells p.1).length) (s)):=⟨Z⟩
instance acT (aZ:Str):CT Tryz.prog (qX aZ) (fun r=>.ret (.tuple [.list (List.map aA.cells r.1),iP r.2.1,iP r.2.2])) 67 [.str aZ]:=by
  unfold qX; exact Z1 ⟨77,[],[]⟩ Z Tryz.func67 Z Z Z Z
instance ahQ (eH:List aA) (bK:Int) (s1:Str):CT Tryz.prog (oL eH bK s1) (fun r=>.ret (.bool r)) 179 [.list (List.map aA.cells eH),iP bK,.str s1]:=by
  unfold oL; exact Z1 ⟨28,[],[]⟩ Z Tryz.func179 Z Z Z Z
instance abk (v1:av):CT Tryz.prog (qU v1) (fun r=>.ret (.agg (aP r))) 385 [.agg (bA v1)]:=by
  unfold qU; exact Z1 ⟨5,[],[]⟩ Z Tryz.func385 Z Z Z Z
instance (s1 :Str) (n_ eZ):LE (xH s1 n_ eZ) (fun j p=>xH s1 j p) n_ eZ [] [] [] [0] (fun v w p=>[(3,iP p)]) (fun v w p s=>s):=⟨Z⟩
instance afH (s1:Str):CT Tryz.prog (Cr s1) (fun r=>.ret (.bool r)) 92 [.str s1]:=by
  unfold Cr; exact Z1 ⟨34,[],[]⟩ Z Tryz.func92 Z Z Z Z
instance ad2 (s1:Str):CT Tryz.prog (oM s1) (fun r=>.ret (.bool r)) 55 [.str s1]:=by
  unfold oM; exact Z1 ⟨17,[],[]⟩ Z Tryz.func55 Z Z Z Z
instance af9 (t1:aA):CT Tryz.prog (H_ t1) (fun r=>.ret (.bool r)) 432 [.agg (mG t1)]:=by
  unfold H_; exact Z1 ⟨22,[],[]⟩ Z Tryz.func432 Z Z Z Z
instance abj (eH:List aA) (bK:Int):CT Tryz.prog (kD eH bK) (fun r=>.ret (iP r)) 180 [.list (List.map aA.cells eH),iP bK]:=by
  unfold kD; exact Z1 ⟨9,[],[]⟩ Z Tryz.func180 Z Z Z Z
instance aax (op1:Str):CT Tryz.prog (rV op1) (fun r=>.ret (iP r)) 122 [.str op1]:=by
  unfold rV; exact Z1 ⟨22,[],[]⟩ Z Tryz.func122 Z Z Z Z
section
variable (bg : List aA → Int → Option (ah × Int × Int)) [VK : ∀ (dG : List aA) (dI : Int), CT Tryz.prog (bg dG dI) (fun r => .ret (.tuple [.agg (aP r.1), iP r.2.1, iP r.2.2])) 106 [.list (List.map aA.cells dG), iP dI]] (bO : List aA → Int → Int → Option (ah × Int × Int)) [VJ : ∀ (dG : List aA) (dI : Int) (jI : Int), CT Tryz.prog (bO dG dI jI) (fun r => .ret (.tuple [.agg (aP r.1), iP r.2.1, iP r.2.2])) 178 [.list (List.map aA.cells dG), iP dI, iP jI]] (eP : List aA → Int → Option (ah × Int × Int)) [aa5 : ∀ (dG : List aA) (dI : Int), CT Tryz.prog (eP dG dI) (fun r => .ret (.tuple [.agg (aP r.1), iP r.2.1, iP r.2.2])) 250 [.list (List.map aA.cells dG), iP dI]] (fD : List aA → Int → Option (ah × Int × Int)) [aa7 : ∀ (dG : List aA) (dI : Int), CT Tryz.prog (fD dG dI) (fun r => .ret (.tuple [.agg (aP r.1), iP r.2.1, iP r.2.2])) 317 [.list (List.map aA.cells dG), iP dI]] (gD : List aA → Int → Option (ah × Int × Int)) [acd : ∀ (dG : List aA) (dI : Int), CT Tryz.prog (gD dG dI) (fun r => .ret (.tuple [.agg (aP r.1), iP r.2.1, iP r.2.2])) 353 [.list (List.map aA.cells dG), iP dI]] (gB : List aA → Int → Option (ah × Int × Int)) [ab9 : ∀ (dG : List aA) (dI : Int), CT Tryz.prog (gB dG dI) (fun r => .ret (.tuple [.agg (aP r.1), iP r.2.1, iP r.2.2])) 386 [.list (List.map aA.cells dG), iP dI]] (fF : List aA → Int → Str → Bool → Option (List ah × List Str × Int × Int)) [ab_ : ∀ (dG : List aA) (dI : Int) (kN : Str) (kM : Bool), CT Tryz.prog (fF dG dI kN kM) (fun r => .ret (.tuple [.list (ah.bC r.1), sP r.2.1, iP r.2.2.1, iP r.2.2.2])) 414 [.list (List.map aA.cells dG), iP dI, .str kN, .bool kM]] (dM : List aA → Int → Option (ah × Int × Int)) [Xt : ∀ (dG : List aA) (dI : Int), CT Tryz.prog (dM dG dI) (fun r => .ret (.tuple [.agg (aP r.1), iP r.2.1, iP r.2.2])) 387 [.list (List.map aA.cells dG), iP dI]]
instance (eH :List aA) (lu:Int) (n_ eZ mY z2_ z3_):LE (iU bO eH lu n_ eZ mY z2_ z3_) (fun j p=>iU bO eH lu j p.1 p.2.1 p.2.2.1 p.2.2.2) n_ (eZ,mY,z2_,z3_) [] [] [] [0,2,6,9] (fun v w p=>[(1,iP p.1),(10,iP p.2.1),(11,iP p.2.2.1)]) (fun v w p s=>uz 0 (aP p.2.2.2) (s)):=⟨Z⟩
instance (eH :List aA) (e1:Int) (n_ eZ mY):LE (lN bg eH e1 n_ eZ mY) (fun j p=>lN bg eH e1 j p.1 p.2) n_ (eZ,mY) [] [] [] [0,4,7,8] (fun v w p=>[(1,iP p.1)]) (fun v w p s=>uz 0 (aP p.2) (s)):=⟨Z⟩
instance (eH :List aA) (o_:Str) (rJ:Bool) (n_ eZ mY z2_):LE (nI bg eH o_ rJ n_ eZ mY z2_) (fun j p=>nI bg eH o_ rJ j p.1 p.2.1 p.2.2) n_ (eZ,mY,z2_) [12,13] [] [(12,10,37),(13,1,9)] [0,2,3] (fun v w p=>[(1,iP p.1),(12,.own v (List.map ah.cells p.2.1)),(13,.own w (List.map iC p.2.2))]) (fun v w p s=>putRow 1 v ((List.map ah.cells p.2.1).length) (putRow 0 w ((List.map iC p.2.2).length) (s))):=⟨Z⟩
instance IX (eH:List aA) (bK:Int):CT Tryz.prog (tY bg bO eP fD gD gB fF dM eH bK) (fun r=>.ret (.tuple [.agg (aP r.1),iP r.2.1,iP r.2.2])) 106 [.list (List.map aA.cells eH),iP bK]:=by
  unfold tY; exact Z1 ⟨66,[],[]⟩ Z Tryz.func106 Z Z Z Z
instance IW (eH:List aA) (bK:Int) (lu:Int):CT Tryz.prog (p9 bg bO eP fD gD gB fF dM eH bK lu) (fun r=>.ret (.tuple [.agg (aP r.1),iP r.2.1,iP r.2.2])) 178 [.list (List.map aA.cells eH),iP bK,iP lu]:=by
  unfold p9; exact Z1 ⟨92,[],[]⟩ Z Tryz.func178 Z Z Z Z
instance Oq (eH:List aA) (bK:Int):CT Tryz.prog (Bc bg bO eP fD gD gB fF dM eH bK) (fun r=>.ret (.tuple [.agg (aP r.1),iP r.2.1,iP r.2.2])) 250 [.list (List.map aA.cells eH),iP bK]:=by
  unfold Bc; exact Z1 ⟨44,[],[(4,8,10,12,0)]⟩ Z Tryz.func250 Z Z Z Z
instance Ou (eH:List aA) (bK:Int):CT Tryz.prog (Bg bg bO eP fD gD gB fF dM eH bK) (fun r=>.ret (.tuple [.agg (aP r.1),iP r.2.1,iP r.2.2])) 317 [.list (List.map aA.cells eH),iP bK]:=by
  unfold Bg; exact Z1 ⟨103,[],[]⟩ Z Tryz.func317 Z Z Z Z
instance Q5 (eH:List aA) (bK:Int):CT Tryz.prog (Di bg bO eP fD gD gB fF dM eH bK) (fun r=>.ret (.tuple [.agg (aP r.1),iP r.2.1,iP r.2.2])) 353 [.list (List.map aA.cells eH),iP bK]:=by
  unfold Di; exact Z1 ⟨66,[],[]⟩ Z Tryz.func353 Z Z Z Z
instance QZ (eH:List aA) (bK:Int):CT Tryz.prog (Ab bg bO eP fD gD gB fF dM eH bK) (fun r=>.ret (.tuple [.agg (aP r.1),iP r.2.1,iP r.2.2])) 386 [.list (List.map aA.cells eH),iP bK]:=by
  unfold Ab; exact Z1 ⟨61,[],[]⟩ Z Tryz.func386 Z Z Z Z
instance Q0 (eH:List aA) (bK:Int) (o_:Str) (rJ:Bool):CT Tryz.prog (Ac bg bO eP fD gD gB fF dM eH bK o_ rJ) (fun r=>.ret (.tuple [.list (ah.bC r.1),sP r.2.1,iP r.2.2.1,iP r.2.2.2])) 414 [.list (List.map aA.cells eH),iP bK,.str o_,.bool rJ]:=by
  unfold Ac; exact Z1 ⟨95,[],[]⟩ Z Tryz.func414 Z Z Z Z
instance JV (eH:List aA) (bK:Int):CT Tryz.prog (vg bg bO eP fD gD gB fF dM eH bK) (fun r=>.ret (.tuple [.agg (aP r.1),iP r.2.1,iP r.2.2])) 387 [.list (List.map aA.cells eH),iP bK]:=by
  unfold vg; exact Z1 ⟨85,[],[]⟩ Z Tryz.func387 Z Z Z Z
end
theorem jD :∀ k:Nat,(∀ (dG:List aA) (dI:Int),CT Tryz.prog (bX k dG dI) (fun r=>.ret (.tuple [.agg (aP r.1),iP r.2.1,iP r.2.2])) 106 [.list (List.map aA.cells dG),iP dI])∧(∀ (dG:List aA) (dI:Int) (jI:Int),CT Tryz.prog (dn k dG dI jI) (fun r=>.ret (.tuple [.agg (aP r.1),iP r.2.1,iP r.2.2])) 178 [.list (List.map aA.cells dG),iP dI,iP jI])∧(∀ (dG:List aA) (dI:Int),CT Tryz.prog (iw k dG dI) (fun r=>.ret (.tuple [.agg (aP r.1),iP r.2.1,iP r.2.2])) 250 [.list (List.map aA.cells dG),iP dI])∧(∀ (dG:List aA) (dI:Int),CT Tryz.prog (jg k dG dI) (fun r=>.ret (.tuple [.agg (aP r.1),iP r.2.1,iP r.2.2])) 317 [.list (List.map aA.cells dG),iP dI])∧(∀ (dG:List aA) (dI:Int),CT Tryz.prog (jT k dG dI) (fun r=>.ret (.tuple [.agg (aP r.1),iP r.2.1,iP r.2.2])) 353 [.list (List.map aA.cells dG),iP dI])∧(∀ (dG:List aA) (dI:Int),CT Tryz.prog (kQ k dG dI) (fun r=>.ret (.tuple [.agg (aP r.1),iP r.2.1,iP r.2.2])) 386 [.list (List.map aA.cells dG),iP dI])∧(∀ (dG:List aA) (dI:Int) (kN:Str) (kM:Bool),CT Tryz.prog (gI k dG dI kN kM) (fun r=>.ret (.tuple [.list (ah.bC r.1),sP r.2.1,iP r.2.2.1,iP r.2.2.2])) 414 [.list (List.map aA.cells dG),iP dI,.str kN,.bool kM])∧(∀ (dG:List aA) (dI:Int),CT Tryz.prog (iJ k dG dI) (fun r=>.ret (.tuple [.agg (aP r.1),iP r.2.1,iP r.2.2])) 387 [.list (List.map aA.cells dG),iP dI])
  | 0=>⟨fun _ _=>CT.none Z,fun _ _ _=>CT.none Z,fun _ _=>CT.none Z,fun _ _=>CT.none Z,fun _ _=>CT.none Z,fun _ _=>CT.none Z,fun _ _ _ _=>CT.none Z,fun _ _=>CT.none Z⟩
  | k + 1=>by
    obtain ⟨i0,i1,i2,i3,i4,i5,i6,i7⟩:=jD k; exact ⟨fun dG dI=>IX _ _ _ _ _ _ _ _ dG dI,fun dG dI jI=>IW _ _ _ _ _ _ _ _ dG dI jI,fun dG dI=>Oq _ _ _ _ _ _ _ _ dG dI,fun dG dI=>Ou _ _ _ _ _ _ _ _ dG dI,fun dG dI=>Q5 _ _ _ _ _ _ _ _ dG dI,fun dG dI=>QZ _ _ _ _ _ _ _ _ dG dI,fun dG dI kN kM=>Q0 _ _ _ _ _ _ _ _ dG dI kN kM,fun dG dI=>JV _ _ _ _ _ _ _ _ dG dI⟩
instance Yk (dG:List aA) (dI:Int):CT Tryz.prog (BL dG dI) (fun r=>.ret (.tuple [.agg (aP r.1),iP r.2.1,iP r.2.2])) 106 [.list (List.map aA.cells dG),iP dI]:=(jD BIG).1 dG dI
instance Yj (dG:List aA) (dI:Int) (jI:Int):CT Tryz.prog (NU dG dI jI) (fun r=>.ret (.tuple [.agg (aP r.1),iP r.2.1,iP r.2.2])) 178 [.list (List.map aA.cells dG),iP dI,iP jI]:=(jD BIG).2.1 dG dI jI
instance adU (dG:List aA) (dI:Int):CT Tryz.prog (WS dG dI) (fun r=>.ret (.tuple [.agg (aP r.1),iP r.2.1,iP r.2.2])) 250 [.list (List.map aA.cells dG),iP dI]:=(jD BIG).2.2.1 dG dI
instance adY (dG:List aA) (dI:Int):CT Tryz.prog (WT dG dI) (fun r=>.ret (.tuple [.agg (aP r.1),iP r.2.1,iP r.2.2])) 317 [.list (List.map aA.cells dG),iP dI]:=(jD BIG).2.2.2.1 dG dI
instance afD (dG:List aA) (dI:Int):CT Tryz.prog (Y7 dG dI) (fun r=>.ret (.tuple [.agg (aP r.1),iP r.2.1,iP r.2.2])) 353 [.list (List.map aA.cells dG),iP dI]:=(jD BIG).2.2.2.2.1 dG dI
instance afB (dG:List aA) (dI:Int):CT Tryz.prog (Y5 dG dI) (fun r=>.ret (.tuple [.agg (aP r.1),iP r.2.1,iP r.2.2])) 386 [.list (List.map aA.cells dG),iP dI]:=(jD BIG).2.2.2.2.2.1 dG dI
instance afC (dG:List aA) (dI:Int) (kN:Str) (kM:Bool):CT Tryz.prog (Y6 dG dI kN kM) (fun r=>.ret (.tuple [.list (ah.bC r.1),sP r.2.1,iP r.2.2.1,iP r.2.2.2])) 414 [.list (List.map aA.cells dG),iP dI,.str kN,.bool kM]:=(jD BIG).2.2.2.2.2.2.1 dG dI kN kM
instance aaw (dG:List aA) (dI:Int):CT Tryz.prog (Qh dG dI) (fun r=>.ret (.tuple [.agg (aP r.1),iP r.2.1,iP r.2.2])) 387 [.list (List.map aA.cells dG),iP dI]:=(jD BIG).2.2.2.2.2.2.2 dG dI
section
variable (lW : ah → Option Int) [aa8 : ∀ (iF : ah), CT Tryz.prog (lW iF) (fun r => .ret (iP r)) 14 [.agg (aP iF)]]
instance (e1 :ah) (n_ eZ mY):LE (vo lW e1 n_ eZ mY) (fun j p=>vo lW e1 j p.1 p.2) n_ (eZ,mY) [] [] [] [1] (fun v w p=>[(3,iP p.1),(4,iP p.2)]) (fun v w p s=>s):=⟨Z⟩
instance Ov (e1:ah):CT Tryz.prog (Bh lW e1) (fun r=>.ret (iP r)) 14 [.agg (aP e1)]:=by
  unfold Bh; exact Z1 ⟨21,[],[]⟩ Z Tryz.func14 Z Z Z Z
end
theorem Kn :∀ k:Nat,(∀ (iF:ah),CT Tryz.prog (qW k iF) (fun r=>.ret (iP r)) 14 [.agg (aP iF)])
  | 0=>fun _=>CT.none Z
  | k + 1=>by
    obtain (i0):=Kn k; exact fun iF=>Ov _ iF
instance ad3 (iF:ah):CT Tryz.prog (Fu iF) (fun r=>.ret (iP r)) 14 [.agg (aP iF)]:=(Kn BIG) iF
instance adZ (e1:ah):CT Tryz.prog (Cm e1) (fun r=>.ret (.bool r)) 261 [.agg (aP e1)]:=by
  unfold Cm; exact Z1 ⟨45,[],[]⟩ Z Tryz.func261 Z Z Z Z
instance adW (e1:ah):CT Tryz.prog (Ck e1) (fun r=>.ret (.bool r)) 262 [.agg (aP e1)]:=by
  unfold Ck; exact Z1 ⟨31,[],[]⟩ Z Tryz.func262 Z Z Z Z
section
variable (jk : av → av → Option Bool) [acf : ∀ (zX : av) (zW : av), CT Tryz.prog (jk zX zW) (fun r => .ret (.bool r)) 263 [.agg (bA zX), .agg (bA zW)]]
instance (a1 :av) (b1:av) (n_ eZ):LE (xK jk a1 b1 n_ eZ) (fun j p=>xK jk a1 b1 j p) n_ eZ [] [] [] [2,3] (fun v w p=>[(5,iP p)]) (fun v w p s=>s):=⟨Z⟩
instance (a1 :av) (b1:av) (n_ eZ):LE (xJ jk a1 b1 n_ eZ) (fun j p=>xJ jk a1 b1 j p) n_ eZ [] [] [] [2,3] (fun v w p=>[(6,iP p)]) (fun v w p s=>s):=⟨Z⟩
instance Q7 (a1:av) (b1:av):CT Tryz.prog (Dk jk a1 b1) (fun r=>.ret (.bool r)) 263 [.agg (bA a1),.agg (bA b1)]:=by
  unfold Dk; exact Z1 ⟨88,[],[]⟩ Z Tryz.func263 Z Z Z Z
end
theorem Ml :∀ k:Nat,(∀ (zX:av) (zW:av),CT Tryz.prog (Dj k zX zW) (fun r=>.ret (.bool r)) 263 [.agg (bA zX),.agg (bA zW)])
  | 0=>fun _ _=>CT.none Z
  | k + 1=>by
    obtain (i0):=Ml k; exact fun zX zW=>Q7 _ zX zW
instance afM (zX:av) (zW:av):CT Tryz.prog (Ie zX zW) (fun r=>.ret (.bool r)) 263 [.agg (bA zX),.agg (bA zW)]:=(Ml BIG) zX zW
instance (e1 :ah) (n_ eZ):LE (qo e1 n_ eZ) (fun j p=>qo e1 j p) n_ eZ [] [] [] [1] (fun v w p=>[(3,iP p)]) (fun v w p s=>s):=⟨Z⟩
instance acO (e1:ah):CT Tryz.prog (Ad e1) (fun r=>.ret (.bool r)) 193 [.agg (aP e1)]:=by
  unfold Ad; exact Z1 ⟨61,[],[]⟩ Z Tryz.func193 Z Z Z Z
instance ad_ (v1:av):CT Tryz.prog (Cu v1) (fun r=>.ret (.bool r)) 163 [.agg (bA v1)]:=by
  unfold Cu; exact Z1 ⟨53,[],[]⟩ Z Tryz.func163 Z Z Z Z
instance agb (s1:Str):CT Tryz.prog (Ic s1) (fun r=>.ret (.bool r)) 239 [.str s1]:=by
  unfold Ic; exact Z1 ⟨11,[],[]⟩ Z Tryz.func239 Z Z Z Z
instance aed (VD:Bool) (IC:Bool):CT Tryz.prog (rZ VD IC) (fun r=>.ret (iP r)) 139 [.bool VD,.bool IC]:=by
  unfold rZ; exact Z1 ⟨7,[],[]⟩ Z Tryz.func139 Z Z Z Z
instance aee (c1:UInt8):CT Tryz.prog (zH c1) (fun r=>.ret (.bool r)) 140 [.int .u8 (c1.toNat:Int)]:=by
  unfold zH; exact Z1 ⟨9,[],[]⟩ Z Tryz.func140 Z Z Z Z
instance (s1 :Str) (n_ eZ):LE (Ah s1 n_ eZ) (fun j p=>Ah s1 j p) n_ eZ [] [] [] [0] (fun v w p=>[(1,iP p)]) (fun v w p s=>s):=⟨Z⟩
instance agc (s1:Str) (bK:Int):CT Tryz.prog (Ig s1 bK) (fun r=>.ret (iP r)) 141 [.str s1,iP bK]:=by
  unfold Ig; exact Z1 ⟨18,[],[]⟩ Z Tryz.func141 Z Z Z Z
instance (s1 :Str) (n_ eZ):LE (rY s1 n_ eZ) (fun j p=>rY s1 j p) n_ eZ [] [] [] [0] (fun v w p=>[(3,iP p)]) (fun v w p s=>s):=⟨Z⟩
instance aec (s1:Str):CT Tryz.prog (zG s1) (fun r=>.ret (.str r)) 221 [.str s1]:=by
  unfold zG; exact Z1 ⟨19,[],[]⟩ Z Tryz.func221 Z Z Z Z
instance afN (a1:Str) (b1:Str):CT Tryz.prog (EA a1 b1) (fun r=>.ret (iP r)) 142 [.str a1,.str b1]:=by
  unfold EA; exact Z1 ⟨48,[],[]⟩ Z Tryz.func142 Z Z Z Z
instance (a1 :Str) (b1:Str) (n_ eZ mY):LE (kY a1 b1 n_ eZ mY) (fun j p=>kY a1 b1 j p.1 p.2) n_ (eZ,mY) [] [] [] [0,1] (fun v w p=>[(5,iP p.1),(6,iP p.2)]) (fun v w p s=>s):=⟨Z⟩
instance Oy (a1:Str) (b1:Str):CT Tryz.prog (nK a1 b1) (fun r=>.ret (iP r)) 84 [.str a1,.str b1]:=by
  unfold nK; exact Z1 ⟨78,[],[]⟩ Z Tryz.func84 Z Z Z Z
instance (v1 :av) (n_ eZ):LE (mF v1 n_ eZ) (fun j p=>mF v1 j p) n_ eZ [] [] [] [1] (fun v w p=>[(3,iP p)]) (fun v w p s=>s):=⟨Z⟩
instance Ym (v1:av):CT Tryz.prog (tC v1) (fun r=>.ret (.bool r)) 164 [.agg (bA v1)]:=by
  unfold tC; exact Z1 ⟨44,[],[]⟩ Z Tryz.func164 Z Z Z Z
section
variable (lX : av → Int → Option Int) [aa_ : ∀ (pI : av) (b_ : Int), CT Tryz.prog (lX pI b_) (fun r => .ret (iP r)) 93 [.agg (bA pI), iP b_]]
instance (v1 :av) (bG:Int) (n_ eZ):LE (vB lX v1 bG n_ eZ) (fun j p=>vB lX v1 bG j p) n_ eZ [] [] [] [1,2] (fun v w p=>[(5,iP p)]) (fun v w p s=>s):=⟨Z⟩
instance Ox (v1:av) (bG:Int):CT Tryz.prog (Bl lX v1 bG) (fun r=>.ret (iP r)) 93 [.agg (bA v1),iP bG]:=by
  unfold Bl; exact Z1 ⟨85,[],[]⟩ Z Tryz.func93 Z Z Z Z
end
theorem Kq :∀ k:Nat,(∀ (pI:av) (b_:Int),CT Tryz.prog (ru k pI b_) (fun r=>.ret (iP r)) 93 [.agg (bA pI),iP b_])
  | 0=>fun _ _=>CT.none Z
  | k + 1=>by
    obtain (i0):=Kq k; exact fun pI b_=>Ox _ pI b_
instance aea (pI:av) (b_:Int):CT Tryz.prog (Jk pI b_) (fun r=>.ret (iP r)) 93 [.agg (bA pI),iP b_]:=(Kq BIG) pI b_
instance aeb (v1:av):CT Tryz.prog (zF v1) (fun r=>.ret (iP r)) 56 [.agg (bA v1)]:=by
  unfold zF; exact Z1 ⟨5,[],[]⟩ Z Tryz.func56 Z Z Z Z
instance (qD :List Str) (n_ eZ):LE (pK qD n_ eZ) (fun j p=>pK qD j p) n_ eZ [] [] [] [0] (fun v w p=>[(3,iP p)]) (fun v w p s=>s):=⟨Z⟩
instance (qD :List Str) (i1:Int) (qh:Int→Option Bool) (n_ eZ):LE (rU qD i1 qh n_ eZ) (fun j p=>rU qD i1 qh j p) n_ eZ [] [] [] [0,3] (fun v w p=>[(4,iP p)]) (fun v w p s=>s):=⟨Z⟩
instance adV (qD:List Str):CT Tryz.prog (Cj qD) (fun r=>.ret (.bool r)) 194 [sP qD]:=by
  unfold Cj; exact Z1 ⟨25,[],[]⟩ Z Tryz.func194 Z Z Z Z
section
variable (lV : ah → Int → Option Int) [aa6 : ∀ (iF : ah) (b_ : Int), CT Tryz.prog (lV iF b_) (fun r => .ret (iP r)) 118 [.agg (aP iF), iP b_]]
instance (e1 :ah) (bG:Int) (n_ eZ):LE (vk lV e1 bG n_ eZ) (fun j p=>vk lV e1 bG j p) n_ eZ [] [] [] [1,2] (fun v w p=>[(6,iP p)]) (fun v w p s=>s):=⟨Z⟩
instance Ot (e1:ah) (bG:Int):CT Tryz.prog (Bf lV e1 bG) (fun r=>.ret (iP r)) 118 [.agg (aP e1),iP bG]:=by
  unfold Bf; exact Z1 ⟨49,[],[]⟩ Z Tryz.func118 Z Z Z Z
end
theorem Km :∀ k:Nat,(∀ (iF:ah) (b_:Int),CT Tryz.prog (qV k iF b_) (fun r=>.ret (iP r)) 118 [.agg (aP iF),iP b_])
  | 0=>fun _ _=>CT.none Z
  | k + 1=>by
    obtain (i0):=Km k; exact fun iF b_=>Ot _ iF b_
instance adX (iF:ah) (b_:Int):CT Tryz.prog (Jj iF b_) (fun r=>.ret (iP r)) 118 [.agg (aP iF),iP b_]:=(Km BIG) iF b_
instance ad1 (e1:ah):CT Tryz.prog (zD e1) (fun r=>.ret (iP r)) 73 [.agg (aP e1)]:=by
  unfold zD; exact Z1 ⟨8,[],[]⟩ Z Tryz.func73 Z Z Z Z
instance afE (eH:List aA):CT Tryz.prog (Ew eH) (fun r=>.ret (.tuple [.agg (aP r.1),iP r.2.1,iP r.2.2])) 68 [.list (List.map aA.cells eH)]:=by
  unfold Ew; exact Z1 ⟨28,[],[]⟩ Z Tryz.func68 Z Z Z Z
instance Tp (aZ:Str):CT Tryz.prog (Cn aZ) (fun r=>.ret (.tuple [.agg (aP r.1),iP r.2.1,iP r.2.2])) 34 [.str aZ]:=by
  unfold Cn; exact Z1 ⟨53,[],[(10,1,7,9,0)]⟩ Z Tryz.func34 Z Z Z Z
instance adL (s1:Str):CT Tryz.prog (zC s1) (fun r=>.ret (.tuple [.list (List.map aK.cells r.1),iP r.2.1,iP r.2.2])) 12 [.str s1]:=⟨zP rfl,fun {r} hf {τ Q} h=>by
 obtain ⟨r0,r1,r2⟩:=r; unfold zC at hf; refine AC.none (AC.jC 91 [.tmp 2,.tmp 3,.tmp 4] [0] Tryz.func12 Z Z Z Z Z (AW.sr (AR.step Z Z Z (AO.jO Z Z ?_)))); refine cs 2 Z (AR.nil [0] Z (AW.seq (AW.sr ?_))); refine cs 1 Z (AR.step Z Z Z (AO.tZ Z Z Z Z qG Z (cs 1 Z (AR.nil [0,13] Z ?_)))); refine AW.cond Z (fun h1=>?_) (fun h1=>?_)
 · replace hf:=jP h1 hf; refine AW.sr (AR.step Z Z Z (AO.jO Z Z (cs 2 Z (AR.nil [2,3,4] Z ?_)))); refine AW.ret ?_; cases hf; exact ⟨rfl,_,⟨_,_,rfl,rfl,_,_,rfl,rfl,_,_,rfl,rfl,rfl⟩,[],List.nil_sublist _,h⟩
 replace hf:=ji h1 hf; refine AW.skip (AW.sr (AR.step Z Z Z (AO.Ij Z Z (AR.nil [0,5] Z ?_)))); refine AW.sr (cs 1 Z (AR.nil [0,5,6] Z (AW.seq ?_))); refine AW.block (AW.afq 12 39 (AW.settle [0,5,6] Z (AW.Ui (fun l1 v1 bK=>[(0,.str s1),(5,.val v1),(6,iP bK)]) (fun l1 v1 bK=>[.buf v1 l1.length 12 39 (List.flatMap aK.cells l1)]) (fun dQ l1 v1 bK=>lM s1 dQ l1 bK=some (r0,r1,r2)) BIG [] (.slice none 0 0) 0 Z Z hf (fun _ _ _ hz=>fC hz) ?_))); intro dQ l1 v1 bK hf; rw [lM] at hf; refine AW.seq (AW.sr (cs 2 Z (AR.step Z Z Z (AO.tZ Z Z Z Z qG Z ?_)))); refine cs 1 Z (AR.nil [0,5,6,17] Z (AW.cond Z (fun h2=>?_) (fun h2=>?_)))
 ·
  replace hf:=jP h2 hf; refine AW.skip (AW.block (AW.seq (AW.sr ?_))); refine cs 2 Z ?_; refine B1 hf fun x1 h3 hf=>AR.step Z Z Z (AO.w_ h3 Z qG Z Z (cs 2 Z (AR.or 6 22 28 [0,5,6] (x:=(decide ((s1.length:Int)≤(bL (bK + 1))))) Z Z (fun h4=>?_) (fun h4=>?_) ?_)))
  · refine AR.is 22 h4 Z (cs 3 Z (AR.go Z Z Z Z Z Z (AO.tZ Z Z Z Z qG Z (cs 2 Z ?_)))); refine AR.nil [28,0,5,6] Z ?_; exact ⟨Z,Z,Z,Z⟩
  · refine AR.is 22 h4 Z (cs 6 Z (AR.nil [28,0,5,6] Z ?_)); exact ⟨Z,Z,Z,Z⟩
  refine cs 1 Z ?_; refine B1 hf fun b1 h6 hf=>AR.rF 13 29 42 false [0,5,6] b1 Z Z (fun h5=>?_) (fun h5=>?_) ?_
  ·
   replace h6:=ji h5 h6; refine AR.is 29 h5 Z (cs 3 Z ?_); refine B1 h6 fun x2 h7 h6=>AR.go Z Z Z Z Z Z (AO.w_ h7 Z qG Z Z (cs 2 Z ?_)); refine BR h6 fun b2 h9 h6=>?_; refine AR.rF 6 35 41 true [0,5,6,29] b2 Z Z (fun h8=>?_) (fun h8=>?_) ?_
   · replace h9:=jP h8 h9; refine AR.is 35 h8 Z (cs 3 Z ?_); refine B1 h9 fun x3 h10 h9=>AR.go Z Z Z Z Z Z (AO.w_ h10 Z qG Z Z (cs 1 Z ?_)); cases h9; refine cs 1 Z (AR.nil [41,0,5,6,29] Z ?_); exact ⟨Z,Z,Z,Z⟩
   · replace h9:=ji h8 h9; refine AR.is 35 h8 Z ?_; cases h9; refine cs 6 Z (AR.nil [41,0,5,6,29] Z ?_); exact ⟨Z,Z,Z,Z⟩
   cases h6; refine cs 1 Z (AR.nil [42,0,5,6] Z ?_); exact ⟨Z,Z,Z,Z⟩
  · replace h6:=jP h5 h6; refine AR.is 29 h5 Z ?_; cases h6; refine cs 13 Z (AR.nil [42,0,5,6] Z ?_); exact ⟨Z,Z,Z,Z⟩
  refine AR.nil [0,5,6,42] Z (AW.cond Z (fun h11=>?_) (fun h11=>?_))
  · replace hf:=jP h11 hf; refine B1 hf fun c1 hw1 hf=>B1 hf fun l2 hw2 hf=>AW.sr (cs 3 Z (AR.step Z Z Z (AO.w_ hw1 Z qG Z Z (AR.step Z Z Z (AO.call Z _ Z Z adh (Ni _ _ hw2 (fun v2=>?_))))))); refine cs 1 Z (AR.nil [0,5,6] Z (AW.sr (cs 3 Z ?_))); refine AR.nil [0,5,6] Z (AW.exit ?_); exact ⟨l2,v2,(bL (bK + 1)),Z,Z,Z,hf⟩
  replace hf:=ji h11 hf; refine AW.skip (AW.seq (AW.sr (cs 3 Z ?_))); refine B1 hf fun x4 h12 hf=>AR.step Z Z Z (AO.w_ h12 Z qG Z Z (cs 1 Z (AR.nil [0,5,6,54] Z (AW.cond Z (fun Gc=>?_) (fun Gc=>?_)))))
  · replace hf:=jP Gc hf; refine B1 hf fun l2 hw2 hf=>AW.sr (cs 1 Z (AR.step Z Z Z (AO.call Z _ Z Z adh (Ni _ _ hw2 (fun v2=>(cs 1 Z ?_)))))); refine AR.nil [0,5,6] Z (AW.sr (cs 3 Z (AR.nil [0,5,6] Z ?_))); refine AW.exit ?_; exact ⟨l2,v2,(bL (bK + 2)),Z,Z,Z,hf⟩
  replace hf:=ji Gc hf; refine AW.skip (AW.sr (cs 3 Z ?_)); refine B1 hf fun ql FW hf=>AR.step Z Z Z (AO.call Z _ Z Z agQ ((Om _ _).h FW (cs 1 Z (AR.nil [0,5,6,7] Z (AW.seq ?_))))); refine AW.sr (cs 2 Z (AR.nil [0,5,6,7,64] Z (AW.cond Z (fun Sv=>?_) (fun Sv=>?_))))
  · replace hf:=jP Sv hf; refine AW.sr (cs 1 Z (AR.step Z Z Z (AO.jO Z Z (cs 2 Z ?_)))); refine AR.nil [2,3,4] Z (AW.ret ?_); cases hf; exact ⟨rfl,_,⟨_,_,rfl,rfl,_,_,rfl,rfl,_,_,rfl,rfl,rfl⟩,[],List.nil_sublist _,h⟩
  replace hf:=ji Sv hf; refine AW.skip (AW.sr (cs 4 Z ?_)); refine B1 hf fun x5 h16 hf=>AR.step Z Z Z (AO.Qb h16 Z qG Z ⟨_,Z⟩ ⟨_,Z⟩ ?_); obtain ⟨x6,yw,e1,Yd,hf⟩:=qy hf; refine AR.step Z Z Z (AO.call Z _ Z Z agP ((Tp _).h Yd (cs 4 Z (AR.step Z Z Z (AO.bW Z F3 (fun b8=>(AR.bR Z Z (AO.dD (i:=0) Z Z Z uJ Z Z Z Z Z ?_)))))))); refine cs 2 Z (AR.nil [0,5,6,7,8,9,10] Z (AW.seq (AW.sr ?_))); refine cs 2 Z (AR.nil [0,5,6,7,8,9,10,77] Z (AW.cond Z (fun h18=>?_) (fun h18=>?_)))
  · replace hf:=jP h18 hf; refine AW.sr (cs 5 Z (AR.step Z Z Z (AO.jO Z Z (cs 2 Z ?_)))); refine AR.nil [2,3,4] Z (AW.ret ?_); cases hf; exact ⟨rfl,_,⟨_,_,rfl,rfl,_,_,rfl,rfl,_,_,rfl,rfl,rfl⟩,[],List.nil_sublist _,h⟩
  replace hf:=ji h18 hf; refine AW.skip (AW.sr (cs 1 Z (AR.step Z Z Z (AO.bJ (i:=0) Z Z Z uJ Z Z ?_)))); refine AR.step rfl rfl rfl (AO.build rfl K_ P_ rfl (AR.step rfl rfl rfl (AO.bF (List.map aK.cells [(aK.mk ([]:Str) true x6)]) rfl Ka rfl rfl rfl (by first | rfl | simp only [List.map,aK.aS]) ?_))); refine B1 hf fun l2 h19 hf=>?_; obtain ⟨IB,rfl⟩:=CW h19
  refine AR.step Z Z Z (AO.Ns (i:=1) (l2:=List.map aK.cells [(aK.mk ([]:Str) true x6)]) Z Z Z Z Z Z Z Ka tO (by intro y hy; cases List.mem_singleton.1 hy; exact aK.dK _) (by intro y hy; cases List.mem_singleton.1 hy; exact aK.cells_one _) (by simp only [List.map_cons,List.map_nil,List.length_singleton] at IB ⊢; unfold uU at IB; unfold maxLen; omega) (by simp only [List.map_cons,List.map_nil,List.length_singleton] at IB ⊢; unfold uU at IB; omega) (fun v2 s2 hs2=>?_)); cases hs2; refine cs 1 Z (AR.nil [0,5,7] Z (AW.region (cs 3 Z ?_))); refine AR.drop1 (AR.nil [0,5,6] Z ?_); exact ⟨l1 ++ [(aK.mk ([]:Str) true x6)],v2,(bL (ql + 1)),Z,by simp [List.flatMap_append],Z,hf⟩
 replace hf:=ji h2 hf; refine AW.exit (AW.freeze 5 0 (List.map aK.cells l1) Z Z (by rw [List.flatMap_def]) (by intro x hx; obtain ⟨y,_,rfl⟩:=List.mem_map.1 hx; exact aK.dK y) (by rw [List.length_map]) ?_); refine AW.sr (cs 4 Z (AR.nil [2,3,4] Z (AW.ret ?_))); cases hf; exact ⟨rfl,_,⟨_,_,rfl,rfl,_,_,rfl,rfl,_,_,rfl,rfl,rfl⟩,[],List.nil_sublist _,h⟩⟩
section
variable (gV : ah → Option (List Str)) [aa4 : ∀ (iF : ah), CT Tryz.prog (gV iF) (fun r => .ret (sP r)) 83 [.agg (aP iF)]]
instance (e1 :ah) (n_ eZ mY):LE (u_ gV e1 n_ eZ mY) (fun j p=>u_ gV e1 j p.1 p.2) n_ (eZ,mY) [3] [] [] [1] (fun v w p=>[(3,.own v (List.map iC p.1)),(4,iP p.2)]) (fun v w p s=>putRow 0 v ((List.map iC p.1).length) (s)):=⟨Z⟩
instance (e1 :ah) (n_ eZ mY):LE (u7 gV e1 n_ eZ mY) (fun j p=>u7 gV e1 j p.1 p.2) n_ (eZ,mY) [3] [] [(3,1,9)] [1] (fun v w p=>[(3,.own v (List.map iC p.1)),(4,iP p.2)]) (fun v w p s=>putRow 0 v ((List.map iC p.1).length) (s)):=⟨Z⟩
instance Oo (e1:ah):CT Tryz.prog (Bb gV e1) (fun r=>.ret (sP r)) 83 [.agg (aP e1)]:=by
  unfold Bb; exact Z1 ⟨29,[],[]⟩ Z Tryz.func83 Z Z Z Z
end
theorem Kl :∀ k:Nat,(∀ (iF:ah),CT Tryz.prog (l8 k iF) (fun r=>.ret (sP r)) 83 [.agg (aP iF)])
  | 0=>fun _=>CT.none Z
  | k + 1=>by
    obtain (i0):=Kl k; exact fun iF=>Oo _ iF
instance adP (iF:ah):CT Tryz.prog (Ji iF) (fun r=>.ret (sP r)) 83 [.agg (aP iF)]:=(Kl BIG) iF
instance acU (kF:List Str):CT Tryz.prog (pQ kF) (fun r=>.ret (sP r)) 49 [sP kF]:=⟨zP rfl,fun {r0} hf {τ Q} h=>by
 unfold pQ at hf; refine BN 64 [.tmp 2] [0] Tryz.func49 Z Z Z Z Z (V 3 Z (AW.row 1 9 (LK3 (fun dx v1 i1=>[(0,sP kF),(3,.own v1 (List.map iC dx)),(4,iP i1)]) (fun dx v1 i1=>[.row v1 (List.map iC dx).length 1 9]) (fun dQ dx v1 i1=>mg kF dQ dx i1=some r0) BIG [] (.slice none 0 0) 0 Z Z hf (fun _ _ _ hz=>fC hz) ?_))); intro dQ dx v1 i1 hf; rw [mg] at hf; refine W 2 Z (AS Z (AO.fI (l:=kF) Z Z Z Z tN Z Z (J 1 Z (C hf Z (fun h1 hf=>?_) fun h1 hf=>?_))))
 ·
  refine W 1 Z (AS Z (AO.fI (l:=dx) Z Z Z Z tN Z Z (J 1 Z (LK1 (fun bK=>[(0,sP kF),(3,.own v1 (List.map iC dx)),(4,iP i1),(5,iP bK)]) (fun bK=>[.row v1 (List.map iC dx).length 1 9]) (fun Ul bK=>oo kF dx i1 (mg kF dQ) Ul bK=some r0) BIG (dx.length:Int) Z Z hf (fun _ hz=>fC hz) ?_)))); intro Ul bK hf; rw [oo] at hf; refine V 0 Z (AW.draw 15 mixed (by kernel_rfl) Z ?_); refine Ev.cs gq 3 Z ?_; refine B1 hf fun b1 h3 hf=>Ev.rF hKA 12 17 29 true [0,3,4,5] (.bool b1) Z Z (fun h2=>?_) (fun h2=>?_) ?_
  ·
   replace h3:=jP h2 h3; refine Ev.is hKL 17 h2 Z (Ev.cs gq 2 Z ?_); refine B1 h3 fun e1 h4 h3=>Ev.run Z Z Z Z Z Z Z (AO.dP h4 Z Z Z Z tN Z Z zg) (Ev.cs gq 4 Z ?_); refine B1 h3 fun e2 h5 h3=>Ev.run Z Z Z Z Z Z Z (AO.dP h5 Z Z Z Z tN Z Z zg) (Ev.cs gq 1 Z ?_); refine B1 h3 fun x1 h6 h3=>Ev.run Z Z Z Z Z Z Z (AO.call Z _ Z Z agI ((Oy _ _).h h6 zg)) (Ev.cs gq 1 Z ?_); cases h3; refine Ev.cs gq 1 Z ?_; exact Ev.nil (Less.settle (ps:=[29,0,3,4,5]) Z)
  · replace h3:=ji h2 h3; refine Ev.is hKL 17 h2 Z ?_; cases h3; refine Ev.cs gq 12 Z ?_; exact Ev.nil (Less.settle (ps:=[29,0,3,4,5]) Z)
  refine Ev.nil ?_; show AR _ _ _ _ _ _ _ _; refine J 0 Z (C hf Z (fun h7 hf=>?_) fun h7 hf=>?_)
  · exact M 3 Z ⟨(bL (bK - 1)),Z,Z,Z,hf⟩
  refine V 0 Z (AW.draw 14 mixed (by kernel_rfl) Z ?_); refine Ev.cs gq 3 Z ?_; refine B1 hf fun b2 h9 hf=>Ev.rF hKA 11 34 45 true [0,3,4,5] (.bool b2) Z Z (fun h8=>?_) (fun h8=>?_) ?_
  · replace h9:=jP h8 h9; refine Ev.is hKL 34 h8 Z (Ev.cs gq 3 Z ?_); refine B1 h9 fun e3 h10 h9=>Ev.run Z Z Z Z Z Z Z (AO.dP h10 Z Z Z Z tN Z Z zg) (Ev.cs gq 3 Z ?_); refine B1 h9 fun e4 h11 h9=>Ev.run Z Z Z Z Z Z Z (AO.dP h11 Z Z Z Z tN Z Z zg) (Ev.cs gq 2 Z ?_); cases h9; refine Ev.cs gq 1 Z ?_; exact Ev.nil (Less.settle (ps:=[45,0,3,4,5]) Z)
  · replace h9:=ji h8 h9; refine Ev.is hKL 34 h8 Z ?_; cases h9; refine Ev.cs gq 11 Z ?_; exact Ev.nil (Less.settle (ps:=[45,0,3,4,5]) Z)
  refine Ev.nil ?_; show AR _ _ _ _ _ _ _ _; refine J 0 Z (C hf Z (fun h12 hf=>?_) fun h12 hf=>?_)
  · exact M 3 Z ⟨dx,v1,(bL (i1 + 1)),Z,Z,Z,hf⟩
  refine W 0 Z (AS Z (AO.D_ [] Z Hu Z Z Z Z Z (fun v2=>?_))); refine B1 hf fun x2 Gc hf=>U 2 Z (AS Z (AO.KU Gc Z tN Z Z Z (fun _=>Z) Z ⟨_,Z⟩ ?_)); refine B1 hf fun iR FW hf=>AS Z (AO.wC (i:=0) (l:=[]) (m:=x2) FW Z Z Z Z Z Z Z Hu tN Z Z Z (fun _=>Z) (fun _=>Z) (by decide) (fun v3 s1 hs1=>?_)); cases hs1; refine B1 hf fun e5 Sv hf=>U 4 Z (AS Z (AO.dP Sv Z Z Z Z tN Z Z (U 1 Z (AS Z (AO.bF (List.map iC ([e5]:List Str)) Z Hu Z Z Z Z ?_))))); refine B1 hf fun xP h16 hf=>AS Z (AO.wC (i:=0) (l:=iR) (m:=([e5]:List Str)) h16 Z Z Z Z Z Z Z Hu tN Z Z Z (fun _=>Z) (fun _=>Z) (by decide) (fun v4 s2 hs2=>?_)); cases hs2; refine B1 hf fun x3 Yd hf=>U 4 Z (AS Z (AO.KU Yd Z tN Z Z Z (fun _=>Z) ⟨_,Z⟩ Z ?_)); refine B1 hf fun wE h18 hf=>AS Z (AO.wC (i:=0) (l:=xP) (m:=x3) h18 Z Z Z Z Z Z Z Hu tN Z Z Z (fun _=>Z) (fun _=>Z) (by decide) (fun v5 s3 hs3=>?_)); cases hs3; refine BG 4 Z (AR.Uy 1 Z ?_); exact N 0 Z ⟨wE,v5,(bL (i1 + 1)),Z,Z,Z,hf⟩
 cases hf; exact M 2 Z (Y Z h)⟩
instance adT (e1:ah):CT Tryz.prog (wK e1) (fun r=>.ret (sP r)) 48 [.agg (aP e1)]:=by
  unfold wK; exact Z1 ⟨6,[],[]⟩ Z Tryz.func48 Z Z Z Z
instance (l1 :List aK) (n_ eZ mY):LE (u6 l1 n_ eZ mY) (fun j p=>u6 l1 j p.1 p.2) n_ (eZ,mY) [7] [] [(7,1,9)] [4] (fun v w p=>[(7,.own v (List.map iC p.1)),(8,iP p.2)]) (fun v w p s=>putRow 0 v ((List.map iC p.1).length) (s)):=⟨Z⟩
instance adM (s1:Str):CT Tryz.prog (Cg s1) (fun r=>.ret (.tuple [sP r.1,iP r.2])) 20 [.str s1]:=by
  unfold Cg; exact Z1 ⟨34,[],[]⟩ Z Tryz.func20 Z Z Z Z
instance ad6 (dB:Int):CT Tryz.prog (wN dB) (fun r=>.ret (.bool r)) 165 [iP dB]:=by
  unfold wN; exact Z1 ⟨9,[],[]⟩ Z Tryz.func165 Z Z Z Z
section
variable (zi : au → Int → Option Int) [aa9 : ∀ (um : au) (b_ : Int), CT Tryz.prog (zi um b_) (fun r => .ret (iP r)) 158 [.agg (aN um), iP b_]]
instance Ow (t1:au) (bG:Int):CT Tryz.prog (Bj zi t1 bG) (fun r=>.ret (iP r)) 158 [.agg (aN t1),iP bG]:=by
  unfold Bj; exact Z1 ⟨34,[],[]⟩ Z Tryz.func158 Z Z Z Z
end
theorem Ko :∀ k:Nat,(∀ (um:au) (b_:Int),CT Tryz.prog (xI k um b_) (fun r=>.ret (iP r)) 158 [.agg (aN um),iP b_])
  | 0=>fun _ _=>CT.none Z
  | k + 1=>by
    obtain (i0):=Ko k; exact fun um b_=>Ow _ um b_
instance ad7 (um:au) (b_:Int):CT Tryz.prog (O6 um b_) (fun r=>.ret (iP r)) 158 [.agg (aN um),iP b_]:=(Ko BIG) um b_
instance ad8 (t1:au):CT Tryz.prog (rW t1) (fun r=>.ret (iP r)) 89 [.agg (aN t1)]:=by
  unfold rW; exact Z1 ⟨5,[],[]⟩ Z Tryz.func89 Z Z Z Z
instance (bM :List aO) (n_ eZ):LE (uw bM n_ eZ) (fun j p=>uw bM j p) n_ eZ [] [] [] [0] (fun v w p=>[(3,iP p)]) (fun v w p s=>s):=⟨Z⟩
instance (bM :List aO) (i1:Int) (tL:Int→Option Int) (n_ eZ):LE (wL bM i1 tL n_ eZ) (fun j p=>wL bM i1 tL j p) n_ eZ [] [] [] [0,3] (fun v w p=>[(5,iP p)]) (fun v w p s=>s):=⟨Z⟩
instance af8 (bM:List aO):CT Tryz.prog (Fq bM) (fun r=>.ret (iP r)) 52 [.list (List.map aO.cells bM)]:=by
  unfold Fq; exact Z1 ⟨47,[],[]⟩ Z Tryz.func52 Z Z Z Z
instance ad9 (dB:Int):CT Tryz.prog (jm dB) (fun r=>.ret (.agg (aN r))) 57 [iP dB]:=by
  unfold jm; exact Z1 ⟨5,[],[]⟩ Z Tryz.func57 Z Z Z Z
instance afK (dB:Int) (t1:au):CT Tryz.prog (iK dB t1) (fun r=>.ret (.agg (aN r))) 95 [iP dB,.agg (aN t1)]:=by
  unfold iK; exact Z1 ⟨9,[],[]⟩ Z Tryz.func95 Z Z Z Z
section
variable (Bv : au → au → Option au) [ace : ∀ (zX : au) (zW : au), CT Tryz.prog (Bv zX zW) (fun r => .ret (.agg (aN r))) 94 [.agg (aN zX), .agg (aN zW)]]
instance Q6 (a1:au) (b1:au):CT Tryz.prog (uy Bv a1 b1) (fun r=>.ret (.agg (aN r))) 94 [.agg (aN a1),.agg (aN b1)]:=by
  unfold uy; exact Z1 ⟨35,[],[]⟩ Z Tryz.func94 Z Z Z Z
end
theorem Mk :∀ k:Nat,(∀ (zX:au) (zW:au),CT Tryz.prog (qZ k zX zW) (fun r=>.ret (.agg (aN r))) 94 [.agg (aN zX),.agg (aN zW)])
  | 0=>fun _ _=>CT.none Z
  | k + 1=>by
    obtain (i0):=Mk k; exact fun zX zW=>Q6 _ zX zW
instance afI (zX:au) (zW:au):CT Tryz.prog (Ez zX zW) (fun r=>.ret (.agg (aN r))) 94 [.agg (aN zX),.agg (aN zW)]:=(Mk BIG) zX zW
section
variable (sw : av → Option au) [afj : ∀ (pI : av), CT Tryz.prog (sw pI) (fun r => .ret (.agg (aN r))) 58 [.agg (bA pI)]]
instance (v1 :av) (n_ eZ mY):LE (Ct sw v1 n_ eZ mY) (fun j p=>Ct sw v1 j p.1 p.2) n_ (eZ,mY) [] [] [] [1,2,3] (fun v w p=>[(4,iP p.1)]) (fun v w p s=>uz 0 (aN p.2) (s)):=⟨Z⟩
instance U0 (v1:av):CT Tryz.prog (Ia sw v1) (fun r=>.ret (.agg (aN r))) 58 [.agg (bA v1)]:=by
  unfold Ia; exact Z1 ⟨42,[],[]⟩ Z Tryz.func58 Z Z Z Z
end
theorem Sb :∀ k:Nat,(∀ (pI:av),CT Tryz.prog (Ag k pI) (fun r=>.ret (.agg (aN r))) 58 [.agg (bA pI)])
  | 0=>fun _=>CT.none Z
  | k + 1=>by
    obtain (i0):=Sb k; exact fun pI=>U0 _ pI
instance ahR (pI:av):CT Tryz.prog (TY pI) (fun r=>.ret (.agg (aN r))) 58 [.agg (bA pI)]:=(Sb BIG) pI
instance ahS (v1:av):CT Tryz.prog (LY v1) (fun r=>.ret (.agg (aN r))) 25 [.agg (bA v1)]:=by
  unfold LY; exact Z1 ⟨9,[],[]⟩ Z Tryz.func25 Z Z Z Z
instance (e1 :ah) (bM:List aO) (n_ eZ):LE (xF e1 bM n_ eZ) (fun j p=>xF e1 bM j p) n_ eZ [] [] [] [1,2,4] (fun v w p=>[(6,iP p)]) (fun v w p s=>s):=⟨Z⟩
instance afw (e1:ah) (bM:List aO):CT Tryz.prog (Ci e1 bM) (fun r=>.ret (.tuple [.agg (aN r.1),iP r.2])) 159 [.agg (aP e1),.list (List.map aO.cells bM)]:=by
  unfold Ci; exact Z1 ⟨33,[],[]⟩ Z Tryz.func159 Z Z Z Z
instance afA (name1:Str):CT Tryz.prog (qR name1) (fun r=>.ret (iP r)) 130 [.str name1]:=by
  unfold qR; exact Z1 ⟨18,[],[]⟩ Z Tryz.func130 Z Z Z Z
instance adQ (t1:au):CT Tryz.prog (fE t1) (fun r=>.ret (.bool r)) 232 [.agg (aN t1)]:=by
  unfold fE; exact Z1 ⟨11,[],[]⟩ Z Tryz.func232 Z Z Z Z
instance adO (dB:Int):CT Tryz.prog (eB dB) (fun r=>.ret (.agg (aN r))) 235 [iP dB]:=by
  unfold eB; exact Z1 ⟨5,[],[]⟩ Z Tryz.func235 Z Z Z Z
section
variable (qE : au → au → Option Bool) [Uw : ∀ (um : au) (Gs : au), CT Tryz.prog (qE um Gs) (fun r => .ret (.bool r)) 305 [.agg (aN um), .agg (aN Gs)]]
instance G8 (t1:au) (u1:au):CT Tryz.prog (kP qE t1 u1) (fun r=>.ret (.bool r)) 305 [.agg (aN t1),.agg (aN u1)]:=by
  unfold kP; exact Z1 ⟨32,[],[]⟩ Z Tryz.func305 Z Z Z Z
end
theorem Cx :∀ k:Nat,(∀ (um:au) (Gs:au),CT Tryz.prog (jN k um Gs) (fun r=>.ret (.bool r)) 305 [.agg (aN um),.agg (aN Gs)])
  | 0=>fun _ _=>CT.none Z
  | k + 1=>by
    obtain (i0):=Cx k; exact fun um Gs=>G8 _ um Gs
instance XZ (um:au) (Gs:au):CT Tryz.prog (fA um Gs) (fun r=>.ret (.bool r)) 305 [.agg (aN um),.agg (aN Gs)]:=(Cx BIG) um Gs
instance ahP (t1:au) (dB:Int):CT Tryz.prog (gH t1 dB) (fun r=>.ret (.bool r)) 236 [.agg (aN t1),iP dB]:=by
  unfold gH; exact Z1 ⟨9,[],[]⟩ Z Tryz.func236 Z Z Z Z
instance adS (a1:au) (b1:au):CT Tryz.prog (Fp a1 b1) (fun r=>.ret (.tuple [.agg (aN r.1),.bool r.2])) 233 [.agg (aN a1),.agg (aN b1)]:=by
  unfold Fp; exact Z1 ⟨37,[],[(5,4,11,12,0)]⟩ Z Tryz.func233 Z Z Z Z
instance adR (dB:Int):CT Tryz.prog (wJ dB) (fun r=>.ret (.agg (aN r))) 306 [iP dB]:=by
  unfold wJ; exact Z1 ⟨6,[],[]⟩ Z Tryz.func306 Z Z Z Z
instance afy (name1:Str) (l1:List au):CT Tryz.prog (kX name1 l1) (fun r=>.ret (.tuple [.agg (aN r.1),.bool r.2])) 234 [.str name1,.list (au.bC l1)]:=by
  unfold kX; exact Z1 ⟨150,[],[(4,13,19,20,0),(6,7,25,26,0),(8,8,13,14,0),(10,7,12,13,0),(16,6,11,12,0),(18,7,13,14,0)]⟩ Z Tryz.func234 Z Z Z Z
instance acM (a1:au) (b1:au):CT Tryz.prog (om a1 b1) (fun r=>.ret (iP r)) 307 [.agg (aN a1),.agg (aN b1)]:=by
  unfold om; exact Z1 ⟨20,[],[]⟩ Z Tryz.func307 Z Z Z Z
instance abh (t1:au):CT Tryz.prog (uL t1) (fun r=>.ret (.agg (aN r))) 349 [.agg (aN t1)]:=by
  unfold uL; exact Z1 ⟨10,[],[]⟩ Z Tryz.func349 Z Z Z Z
end Go.Proofs.YtpbjbkhfpjckoaaGreatDoor
