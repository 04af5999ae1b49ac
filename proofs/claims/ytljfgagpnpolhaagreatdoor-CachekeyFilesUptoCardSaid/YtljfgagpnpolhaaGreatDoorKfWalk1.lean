/- Proved here: each function does what its functional text says (part 1). -/
import Derived.Test.YtljfgagpnpolhaaGreatDoorKfA3
import Derived.Test.YtljfgagpnpolhaaGreatDoorKfFt1
import Derived.Test.YtljfgagpnpolhaaGreatDoorProg
import Derived.KernelRfl
set_option linter.unusedVariables false
set_option linter.unusedSimpArgs false
set_option linter.unusedSectionVars false
namespace Go.Ft
open Go Go.Abs
@[reducible] def av.cells (x:av):List PV:=[.str x.path,.int .u64 (x.digest.toNat:Int)]
theorem av.aQ (x:av):av.cells x=[.str x.path,.int .u64 (x.digest.toNat:Int)]:=rfl
theorem av.dG (x:av):(av.cells x).length=2:=by rw [av.aQ]; rfl
theorem av.cells_one (x:av):(av.cells x).all PV.one=true:=by rw [av.aQ]; rfl
@[reducible] def aN.cells (x:aN):List PV:=[.int .i64 x.kind,.str x.text,.int .i64 x.at_]
theorem aN.aQ (x:aN):aN.cells x=[.int .i64 x.kind,.str x.text,.int .i64 x.at_]:=rfl
theorem aN.dG (x:aN):(aN.cells x).length=3:=by rw [aN.aQ]; rfl
theorem aN.cells_one (x:aN):(aN.cells x).all PV.one=true:=by rw [aN.aQ]; rfl
@[reducible] def ah.cells (x:ah):List PV:=[.list (List.map aN.cells x.ts),.int .i64 x.at_]
theorem ah.aQ (x:ah):ah.cells x=[.list (List.map aN.cells x.ts),.int .i64 x.at_]:=rfl
theorem ah.dG (x:ah):(ah.cells x).length=2:=by rw [ah.aQ]; rfl
theorem ah.cells_one (x:ah):(ah.cells x).all PV.one=true:=by rw [ah.aQ]; rfl
@[reducible] def au.cells (x:au):List PV:=[.int .i64 x.at_,.int .i64 x.code]
theorem au.aQ (x:au):au.cells x=[.int .i64 x.at_,.int .i64 x.code]:=rfl
theorem au.dG (x:au):(au.cells x).length=2:=by rw [au.aQ]; rfl
theorem au.cells_one (x:au):(au.cells x).all PV.one=true:=by rw [au.aQ]; rfl
mutual
def aj.cells :aj→List PV
  | ⟨a0,a1,a2,a3,a4,a5⟩=>[.int .i64 a0,.bool a1,.int .i64 a2,.str a3,.list (aj.cZ a4),.list (List.map kF a5)]
def aj.cZ :List aj→List (List PV)
  | []=>[]
  | x :: xs=>aj.cells x :: aj.cZ xs
end
theorem aj.aQ (x:aj):aj.cells x=[.int .i64 x.kind,.bool x.jW,.int .i64 x.ng,.str x.l7,.list (aj.cZ x.dS),.list (List.map kF x.keys)]:=by cases x; rfl
theorem aj.bH :∀ l:List aj,aj.cZ l=l.map aj.cells
  | []=>rfl
  | _ :: l=>congrArg _ (aj.bH l)
def aj.JJ (l:List aj):List PV:=[.list (aj.cZ l)]
theorem aj.dG (x:aj):(aj.cells x).length=6:=by rw [aj.aQ]; rfl
theorem aj.cells_one (x:aj):(aj.cells x).all PV.one=true:=by rw [aj.aQ]; rfl
mutual
def ak.cells :ak→List PV
  | ⟨a0,a1,a2,a3,a4⟩=>[.int .i64 a0,.str a1,.int .i64 a2.kind,.bool a2.jW,.int .i64 a2.ng,.str a2.l7,.list (aj.cZ a2.dS),.list (List.map kF a2.keys),.list (ak.cZ a3),.list (List.map kF a4)]
def ak.cZ :List ak→List (List PV)
  | []=>[]
  | x :: xs=>ak.cells x :: ak.cZ xs
end
theorem ak.aQ (x:ak):ak.cells x=[.int .i64 x.kind,.str x.name,.int .i64 x.value.kind,.bool x.value.jW,.int .i64 x.value.ng,.str x.value.l7,.list (aj.cZ x.value.dS),.list (List.map kF x.value.keys),.list (ak.cZ x.args),.list (List.map kF x.keys)]:=by cases x; rfl
theorem ak.bH :∀ l:List ak,ak.cZ l=l.map ak.cells
  | []=>rfl
  | _ :: l=>congrArg _ (ak.bH l)
def ak.JJ (l:List ak):List PV:=[.list (ak.cZ l)]
theorem ak.dG (x:ak):(ak.cells x).length=10:=by rw [ak.aQ]; rfl
theorem ak.cells_one (x:ak):(ak.cells x).all PV.one=true:=by rw [ak.aQ]; rfl
@[reducible] def aT.cells (x:aT):List PV:=[.str x.text,.bool x.MS,.int .i64 x.expr.kind,.str x.expr.name,.int .i64 x.expr.value.kind,.bool x.expr.value.jW,.int .i64 x.expr.value.ng,.str x.expr.value.l7,.list (aj.cZ x.expr.value.dS),.list (List.map kF x.expr.value.keys),.list (ak.cZ x.expr.args),.list (List.map kF x.expr.keys)]
theorem aT.aQ (x:aT):aT.cells x=[.str x.text,.bool x.MS,.int .i64 x.expr.kind,.str x.expr.name,.int .i64 x.expr.value.kind,.bool x.expr.value.jW,.int .i64 x.expr.value.ng,.str x.expr.value.l7,.list (aj.cZ x.expr.value.dS),.list (List.map kF x.expr.value.keys),.list (ak.cZ x.expr.args),.list (List.map kF x.expr.keys)]:=rfl
theorem aT.dG (x:aT):(aT.cells x).length=12:=by rw [aT.aQ]; rfl
theorem aT.cells_one (x:aT):(aT.cells x).all PV.one=true:=by rw [aT.aQ]; rfl
@[reducible] def aX.cells (x:aX):List PV:=[.str x.key,.list (List.map kF x.restore),.list (List.map kF x.files)]
theorem aX.aQ (x:aX):aX.cells x=[.str x.key,.list (List.map kF x.restore),.list (List.map kF x.files)]:=rfl
theorem aX.dG (x:aX):(aX.cells x).length=3:=by rw [aX.aQ]; rfl
theorem aX.cells_one (x:aX):(aX.cells x).all PV.one=true:=by rw [aX.aQ]; rfl
@[reducible] def aH.cells (x:aH):List PV:=[.str x.name,.int .i64 x.value.kind,.bool x.value.jW,.int .i64 x.value.ng,.str x.value.l7,.list (aj.cZ x.value.dS),.list (List.map kF x.value.keys)]
theorem aH.aQ (x:aH):aH.cells x=[.str x.name,.int .i64 x.value.kind,.bool x.value.jW,.int .i64 x.value.ng,.str x.value.l7,.list (aj.cZ x.value.dS),.list (List.map kF x.value.keys)]:=rfl
theorem aH.dG (x:aH):(aH.cells x).length=7:=by rw [aH.aQ]; rfl
theorem aH.cells_one (x:aH):(aH.cells x).all PV.one=true:=by rw [aH.aQ]; rfl
@[reducible] def aG.cells (x:aG):List PV:=[.int .u64 ((x.set.getD 0 0).toNat:Int),.int .u64 ((x.set.getD 1 0).toNat:Int),.int .u64 ((x.set.getD 2 0).toNat:Int),.int .u64 ((x.set.getD 3 0).toNat:Int),.bool x.many,.bool x.literal,.int .u8 (x.char.toNat:Int)]
theorem aG.aQ (x:aG):aG.cells x=[.int .u64 ((x.set.getD 0 0).toNat:Int),.int .u64 ((x.set.getD 1 0).toNat:Int),.int .u64 ((x.set.getD 2 0).toNat:Int),.int .u64 ((x.set.getD 3 0).toNat:Int),.bool x.many,.bool x.literal,.int .u8 (x.char.toNat:Int)]:=rfl
theorem aG.dG (x:aG):(aG.cells x).length=7:=by rw [aG.aQ]; rfl
theorem aG.cells_one (x:aG):(aG.cells x).all PV.one=true:=by rw [aG.aQ]; rfl
@[reducible] def aZ.cells (x:aZ):List PV:=[.int .i64 x.code]
theorem aZ.aQ (x:aZ):aZ.cells x=[.int .i64 x.code]:=rfl
theorem aZ.dG (x:aZ):(aZ.cells x).length=1:=by rw [aZ.aQ]; rfl
theorem aZ.cells_one (x:aZ):(aZ.cells x).all PV.one=true:=by rw [aZ.aQ]; rfl
end Go.Ft
namespace Go.Proofs.YtljfgagpnpolhaaGreatDoor
open Go Go.Abs Go.Ft
set_option maxRecDepth 20000
attribute [local irreducible] AO AR AW AC
class OB [dn]:Prop where
  hD:¬ dn.D
variable [dn]
theorem Kk :l6 Tryz.prog 78=some (16,1):=by kernel_rfl
theorem xW :l6 Tryz.prog 93=some (4,1):=by kernel_rfl
theorem M6 :Tryz.prog.cellsOf 5=1:=by kernel_rfl
theorem lS :elemSize Tryz.prog 109=some 10:=by kernel_rfl
theorem oC :elemSize Tryz.prog 140=some 3:=by kernel_rfl
theorem Ip :elemSize Tryz.prog 194=some 7:=by kernel_rfl
theorem iJ :elemSize Tryz.prog 22=some 1:=by kernel_rfl
theorem wB :elemSize Tryz.prog 26=some 7:=by kernel_rfl
theorem wz :elemSize Tryz.prog 27=some 2:=by kernel_rfl
theorem uL :elemSize Tryz.prog 53=some 6:=by kernel_rfl
theorem Io :elemSize Tryz.prog 64=some 1:=by kernel_rfl
theorem oz :elemSize Tryz.prog 69=some 1:=by kernel_rfl
theorem Fw :elemSize Tryz.prog 79=some 12:=by kernel_rfl
theorem xP :elemSize Tryz.prog 82=some 7:=by kernel_rfl
theorem xO :elemSize Tryz.prog 91=some 1:=by kernel_rfl
theorem lM :jI Tryz.prog 102 0=some 0:=by kernel_rfl
theorem iI :jI Tryz.prog 102 1=some 1:=by kernel_rfl
theorem wo :jI Tryz.prog 104 0=some 0:=by kernel_rfl
theorem qw :jI Tryz.prog 104 1=some 1:=by kernel_rfl
theorem JE :jI Tryz.prog 43 0=some 0:=by kernel_rfl
theorem NZ :∃ j,Tryz.prog.info? 102=some j∧(j.size != 0)=true:=sized (n:=2) (by kernel_rfl) rfl
theorem MQ :liesAt Tryz.prog Tryz.prog.depth 102 (2 / Tryz.prog.cellsOf 102) 0 102 1=true:=by kernel_rfl
theorem MP :liesAt Tryz.prog Tryz.prog.depth 104 (3 / Tryz.prog.cellsOf 104) 1 102 1=true:=by kernel_rfl
theorem mixed :Tryz.prog.follows .mixedOrders=true:=by kernel_rfl
theorem wT :Tryz.prog.underlying 163=some (.map 9 3):=by kernel_rfl
theorem K7 :concrete Tryz.prog 218=true:=by kernel_rfl
theorem KX :aU Tryz.prog 107=true:=by kernel_rfl
theorem KW :aU Tryz.prog 109=true:=by kernel_rfl
theorem MN :aU Tryz.prog 11=true:=by kernel_rfl
theorem KV :aU Tryz.prog 123=true:=by kernel_rfl
theorem KU :aU Tryz.prog 124=true:=by kernel_rfl
theorem KT :aU Tryz.prog 127=true:=by kernel_rfl
theorem ML :aU Tryz.prog 13=true:=by kernel_rfl
theorem J_ :aU Tryz.prog 14=true:=by kernel_rfl
theorem KS :aU Tryz.prog 140=true:=by kernel_rfl
theorem KR :aU Tryz.prog 144=true:=by kernel_rfl
theorem HY :aU Tryz.prog 145=true:=by kernel_rfl
theorem KQ :aU Tryz.prog 155=true:=by kernel_rfl
theorem KP :aU Tryz.prog 156=true:=by kernel_rfl
theorem KO :aU Tryz.prog 157=true:=by kernel_rfl
theorem KN :aU Tryz.prog 158=true:=by kernel_rfl
theorem KM :aU Tryz.prog 159=true:=by kernel_rfl
theorem MK :aU Tryz.prog 16=true:=by kernel_rfl
theorem HV :aU Tryz.prog 160=true:=by kernel_rfl
theorem KL :aU Tryz.prog 180=true:=by kernel_rfl
theorem Hz :aU Tryz.prog 184=true:=by kernel_rfl
theorem KJ :aU Tryz.prog 192=true:=by kernel_rfl
theorem KI :aU Tryz.prog 193=true:=by kernel_rfl
theorem KH :aU Tryz.prog 194=true:=by kernel_rfl
theorem KG :aU Tryz.prog 195=true:=by kernel_rfl
theorem KF :aU Tryz.prog 197=true:=by kernel_rfl
theorem MJ :aU Tryz.prog 22=true:=by kernel_rfl
theorem KE :aU Tryz.prog 232=true:=by kernel_rfl
theorem KD :aU Tryz.prog 239=true:=by kernel_rfl
theorem KC :aU Tryz.prog 240=true:=by kernel_rfl
theorem KA :aU Tryz.prog 268=true:=by kernel_rfl
theorem Hy :aU Tryz.prog 272=true:=by kernel_rfl
theorem MI :aU Tryz.prog 29=true:=by kernel_rfl
theorem MH :aU Tryz.prog 30=true:=by kernel_rfl
theorem MG :aU Tryz.prog 31=true:=by kernel_rfl
theorem Kz :aU Tryz.prog 312=true:=by kernel_rfl
theorem Ky :aU Tryz.prog 313=true:=by kernel_rfl
theorem MF :aU Tryz.prog 41=true:=by kernel_rfl
theorem ME :aU Tryz.prog 45=true:=by kernel_rfl
theorem J9 :aU Tryz.prog 51=true:=by kernel_rfl
theorem MC :aU Tryz.prog 52=true:=by kernel_rfl
theorem MB :aU Tryz.prog 53=true:=by kernel_rfl
theorem Mx :aU Tryz.prog 54=true:=by kernel_rfl
theorem Mw :aU Tryz.prog 55=true:=by kernel_rfl
theorem J8 :aU Tryz.prog 59=true:=by kernel_rfl
theorem J7 :aU Tryz.prog 60=true:=by kernel_rfl
theorem Mv :aU Tryz.prog 61=true:=by kernel_rfl
theorem Mt :aU Tryz.prog 62=true:=by kernel_rfl
theorem J6 :aU Tryz.prog 63=true:=by kernel_rfl
theorem Ms :aU Tryz.prog 77=true:=by kernel_rfl
theorem Mr :aU Tryz.prog 78=true:=by kernel_rfl
theorem Hw :aU Tryz.prog 82=true:=by kernel_rfl
theorem J5 :aU Tryz.prog 87=true:=by kernel_rfl
theorem Nj :aU Tryz.prog 9=true:=by kernel_rfl
theorem Mq :aU Tryz.prog 98=true:=by kernel_rfl
theorem Eu :dx Tryz.prog 109 111 10 160:=iZ (by kernel_rfl)
theorem BU :dx Tryz.prog 140 146 3 32:=iZ (by kernel_rfl)
theorem Hq :dx Tryz.prog 22 9 1 16:=iZ (by kernel_rfl)
theorem vJ :dx Tryz.prog 26 57 7 104:=iZ (by kernel_rfl)
theorem J4 :dx Tryz.prog 27 43 2 24:=iZ (by kernel_rfl)
theorem J3 :dx Tryz.prog 53 55 6 88:=iZ (by kernel_rfl)
theorem J2 :dx Tryz.prog 64 38 1 8:=iZ (by kernel_rfl)
theorem vI :dx Tryz.prog 69 5 1 1:=iZ (by kernel_rfl)
theorem Fj :dx Tryz.prog 79 115 12 184:=iZ (by kernel_rfl)
theorem JZ :dx Tryz.prog 82 95 7 40:=iZ (by kernel_rfl)
theorem Fa :mZ Tryz.prog 111=some [(0,1),(1,1),(2,6),(8,1),(9,1)]:=by kernel_rfl
theorem E_ :mZ Tryz.prog 115=some [(0,1),(1,1),(2,10)]:=by kernel_rfl
theorem Jp :mZ Tryz.prog 205=some [(0,1),(1,1)]:=by kernel_rfl
theorem Hl :mZ Tryz.prog 55=some [(0,1),(1,1),(2,1),(3,1),(4,1),(5,1)]:=by kernel_rfl
theorem Kv :mZ Tryz.prog 57=some [(0,1),(1,6)]:=by kernel_rfl
theorem Jl (w:Go.World):(Instr.typeAssert .nilIface 20 207 true).run Tryz.prog w=.ok (.tuple #[.agg #[.int .i64 0,.int .i64 0],.bool false]) w:=by kernel_rfl
theorem Jk (w:Go.World):(Instr.typeAssert .nilIface 20 218 true).run Tryz.prog w=.ok (.tuple #[.agg #[.int .i64 0],.bool false]) w:=by kernel_rfl
theorem Jj (v:Value) (w:Go.World):(Instr.typeAssert (.iface 207 v) 20 207 true).run Tryz.prog w=.ok (.tuple #[v,.bool true]) w:=by kernel_rfl
theorem Ji (v:Value) (w:Go.World):(Instr.typeAssert (.iface 218 v) 20 218 true).run Tryz.prog w=.ok (.tuple #[v,.bool true]) w:=by kernel_rfl
theorem qH :bK Tryz.prog 100=some (false,1):=by kernel_rfl
theorem iN :bK Tryz.prog 111=some (true,10):=by kernel_rfl
theorem BO :bK Tryz.prog 140=some (false,1):=by kernel_rfl
theorem Eo :bK Tryz.prog 146=some (true,3):=by kernel_rfl
theorem G7 :bK Tryz.prog 207=some (true,2):=by kernel_rfl
theorem G6 :bK Tryz.prog 218=some (true,1):=by kernel_rfl
theorem Mj :bK Tryz.prog 22=some (false,1):=by kernel_rfl
theorem Mi :bK Tryz.prog 27=some (false,1):=by kernel_rfl
theorem Au :bK Tryz.prog 3=some (false,1):=by kernel_rfl
theorem oV :bK Tryz.prog 30=some (false,1):=by kernel_rfl
theorem Bg :bK Tryz.prog 37=some (false,1):=by kernel_rfl
theorem Mh :bK Tryz.prog 38=some (false,1):=by kernel_rfl
theorem Ar :bK Tryz.prog 4=some (false,1):=by kernel_rfl
theorem G5 :bK Tryz.prog 43=some (true,2):=by kernel_rfl
theorem Ng :bK Tryz.prog 5=some (false,1):=by kernel_rfl
theorem Mg :bK Tryz.prog 53=some (false,1):=by kernel_rfl
theorem qd :bK Tryz.prog 55=some (true,6):=by kernel_rfl
theorem GZ :bK Tryz.prog 64=some (false,1):=by kernel_rfl
theorem qc :bK Tryz.prog 69=some (false,1):=by kernel_rfl
theorem Bf :bK Tryz.prog 79=some (false,1):=by kernel_rfl
theorem Dh :bK Tryz.prog 82=some (false,1):=by kernel_rfl
theorem FJ :bK Tryz.prog 9=some (false,1):=by kernel_rfl
theorem xF :bK Tryz.prog 91=some (false,1):=by kernel_rfl
theorem Mf :bK Tryz.prog 93=some (true,4):=by kernel_rfl
theorem Me :bK Tryz.prog 95=some (true,7):=by kernel_rfl
theorem sD :Tryz.prog.underlying 124=some (.int .u32):=by kernel_rfl
theorem GU :Tryz.prog.underlying 26=some (.slice 57):=by kernel_rfl
theorem BK :Tryz.prog.underlying 3=some (.int .i64):=by kernel_rfl
theorem xE :Tryz.prog.underlying 37=some (.int .u64):=by kernel_rfl
theorem Md :Tryz.prog.underlying 38=some (.int .u64):=by kernel_rfl
theorem yR :Tryz.prog.underlying 5=some (.int .u8):=by kernel_rfl
theorem GR :Tryz.prog.underlying 69=some (.slice 5):=by kernel_rfl
theorem dL :Tryz.prog.underlying 9=some (.string):=by kernel_rfl
theorem JX :Tryz.prog.underlying 91=some (.slice 4):=by kernel_rfl
theorem pU :Tryz.prog.underlying 100=some (.pointer 102):=by kernel_rfl
theorem GQ :Tryz.prog.underlying 169=some (.pointer 5):=by kernel_rfl
theorem BJ :Tryz.prog.underlying 174=some .unsafePointer:=by kernel_rfl
theorem Mc :(Tryz.prog.info? 4).map (fun i=>(i.zero,i.size,i.bytes))=some (some (.bool false),1,1):=by kernel_rfl
theorem Ja :(Tryz.prog.info? 3).map (·.zero)=some (some (.int .i64 0)):=by kernel_rfl
theorem Kn :fB Tryz.prog 102=some [.val (.pointer none),.own (.slice none 0 0) []]:=by kernel_rfl
theorem Km :fB Tryz.prog 104=some [.own (.slice none 0 0) [],.val (.pointer none),.own (.slice none 0 0) []]:=by kernel_rfl
theorem gP :fB Tryz.prog 111=some [.int .i64 0,.str [],.int .i64 0,.bool false,.int .i64 0,.str [],.own (.slice none 0 0) [],.own (.slice none 0 0) [],.own (.slice none 0 0) [],.own (.slice none 0 0) []]:=by kernel_rfl
theorem Eh :fB Tryz.prog 115=some [.str [],.bool false,.int .i64 0,.str [],.int .i64 0,.bool false,.int .i64 0,.str [],.own (.slice none 0 0) [],.own (.slice none 0 0) [],.own (.slice none 0 0) [],.own (.slice none 0 0) []]:=by kernel_rfl
theorem pR :fB Tryz.prog 146=some [.int .i64 0,.str [],.int .i64 0]:=by kernel_rfl
theorem Kl :fB Tryz.prog 205=some [.own (.slice none 0 0) [],.int .i64 0]:=by kernel_rfl
theorem GK :fB Tryz.prog 207=some [.int .i64 0,.int .i64 0]:=by kernel_rfl
theorem GJ :fB Tryz.prog 218=some [.int .i64 0]:=by kernel_rfl
theorem Nc :fB Tryz.prog 3=some [.int .i64 0]:=by kernel_rfl
theorem GI :fB Tryz.prog 30=some [.int .i64 0]:=by kernel_rfl
theorem JW :fB Tryz.prog 43=some [.str [],.int .u64 0]:=by kernel_rfl
theorem nU :fB Tryz.prog 55=some [.int .i64 0,.bool false,.int .i64 0,.str [],.own (.slice none 0 0) [],.own (.slice none 0 0) []]:=by kernel_rfl
theorem GH :fB Tryz.prog 57=some [.str [],.int .i64 0,.bool false,.int .i64 0,.str [],.own (.slice none 0 0) [],.own (.slice none 0 0) []]:=by kernel_rfl
theorem Ma :fB Tryz.prog 64=some [.own (.slice none 0 0) []]:=by kernel_rfl
theorem L_ :fB Tryz.prog 78=some [.int .u8 0,.int .u8 0,.int .u8 0,.int .u8 0,.int .u8 0,.int .u8 0,.int .u8 0,.int .u8 0,.int .u8 0,.int .u8 0,.int .u8 0,.int .u8 0,.int .u8 0,.int .u8 0,.int .u8 0,.int .u8 0]:=by kernel_rfl
theorem L9 :fB Tryz.prog 82=some [.own (.slice none 0 0) []]:=by kernel_rfl
theorem L8 :fB Tryz.prog 91=some [.own (.slice none 0 0) []]:=by kernel_rfl
theorem Bc :fB Tryz.prog 93=some [.int .u64 0,.int .u64 0,.int .u64 0,.int .u64 0]:=by kernel_rfl
theorem Bb :fB Tryz.prog 95=some [.int .u64 0,.int .u64 0,.int .u64 0,.int .u64 0,.bool false,.bool false,.int .u8 0]:=by kernel_rfl
def FX :Facts:={ti:=[(3,false,1),(4,false,1),(5,false,1),(9,false,1),(22,false,1),(24,true,3),(27,false,1),(30,false,1),(37,false,1),(38,false,1),(43,true,2),(53,false,1),(55,true,6),(57,true,7),(64,false,1),(93,true,4),(95,true,7),(109,false,1),(111,true,10),(115,true,12),(146,true,3),(205,true,2),(207,true,2),(218,true,1)],fo:=[(24,0,0),(24,1,1),(24,2,2),(43,0,0),(43,1,1),(55,0,0),(55,1,1),(55,2,2),(55,3,3),(55,4,4),(55,5,5),(57,0,0),(57,1,1),(95,0,0),(95,1,4),(104,0,0),(104,1,1),(111,0,0),(111,1,1),(111,2,2),(111,3,8),(111,4,9),(115,0,0),(115,1,1),(115,2,2),(146,0,0),(146,1,1),(146,2,2),(205,0,0),(205,1,1),(207,0,0),(207,1,1),(218,0,0)],fd:=[],str:=[]}
theorem bZ :FX.okB Tryz.prog=true:=by kernel_rfl
theorem cs {n:Nat} {all:Array Oper} {σ:List aC} {ds:List Deferred} {Q:Post} (k:Nat) {l l':List Oper} {env env':Env} (h:xZ FX all n k l env=some (env',l')) (hr:AR Tryz.prog n all l' env' σ ds Q):AR Tryz.prog n all l env σ ds Q:=AR.cs bZ k h hr
def FY :FB:=⟨{FX with ti:=FX.ti ++ [(3,false,1),(9,false,1),(22,false,1),(53,false,1),(55,true,6),(57,true,7),(82,false,1),(91,false,1),(93,true,4),(95,true,7),(111,true,10),(115,true,12),(146,true,3)]},[(24,[.str [],.own (.slice none 0 0) [],.own (.slice none 0 0) []]),(55,[.int .i64 0,.bool false,.int .i64 0,.str [],.own (.slice none 0 0) [],.own (.slice none 0 0) []]),(57,[.str [],.int .i64 0,.bool false,.int .i64 0,.str [],.own (.slice none 0 0) [],.own (.slice none 0 0) []]),(95,[.int .u64 0,.int .u64 0,.int .u64 0,.int .u64 0,.bool false,.bool false,.int .u8 0]),(111,[.int .i64 0,.str [],.int .i64 0,.bool false,.int .i64 0,.str [],.own (.slice none 0 0) [],.own (.slice none 0 0) [],.own (.slice none 0 0) [],.own (.slice none 0 0) []]),(115,[.str [],.bool false,.int .i64 0,.str [],.int .i64 0,.bool false,.int .i64 0,.str [],.own (.slice none 0 0) [],.own (.slice none 0 0) [],.own (.slice none 0 0) [],.own (.slice none 0 0) []]),(146,[.int .i64 0,.str [],.int .i64 0]),(218,[.int .i64 0])],[(24,[(0,1),(1,1),(2,1)]),(55,[(0,1),(1,1),(2,1),(3,1),(4,1),(5,1)]),(57,[(0,1),(1,6)]),(95,[(0,4),(4,1),(5,1),(6,1)]),(111,[(0,1),(1,1),(2,6),(8,1),(9,1)]),(115,[(0,1),(1,1),(2,10)]),(146,[(0,1),(1,1),(2,1)]),(218,[(0,1)])]⟩
instance : FK Tryz.prog:=⟨FY,⟨by kernel_rfl,by kernel_rfl,by kernel_rfl⟩,[11,12,14,16,17,22,24,29,31,35,36,37,40,41,46,51,56,59,60,61,62,63,64,65,70,73,74,75,76,77,78,84,85,88,89,90,97,98,99,100,108,110,112,113,114,115,121,122,125,126,127,138,139,140,145,154,156,160,184,185,196,198,230,231,232,233,234,238,245,267,271,272,273,307,312,341],by kernel_rfl⟩
variable {τ : List aC} {Q : bV → List aC → Prop}
abbrev PC :=AC Tryz.prog
@[reducible] def iP (x:Int):PV:=.int .i64 x
@[reducible] def sP (x:List Str):PV:=.list (List.map kF x)
@[reducible] def pP (b:Nat):PV:=.val (.pointer (some ⟨b,0,none⟩))
@[reducible] def mV (x:aX):List PV:=[.str x.key,.list (List.map kF x.restore),.list (List.map kF x.files)]
@[reducible] def xL (x:av):List PV:=[.str x.path,.int .u64 (x.digest.toNat:Int)]
@[reducible] def bJ (x:aj):List PV:=[.int .i64 x.kind,.bool x.jW,.int .i64 x.ng,.str x.l7,.list (aj.cZ x.dS),.list (List.map kF x.keys)]
@[reducible] def Cm (x:aH):List PV:=[.str x.name,.int .i64 x.value.kind,.bool x.value.jW,.int .i64 x.value.ng,.str x.value.l7,.list (aj.cZ x.value.dS),.list (List.map kF x.value.keys)]
@[reducible] def vZ (x:aG):List PV:=[.int .u64 ((x.set.getD 0 0).toNat:Int),.int .u64 ((x.set.getD 1 0).toNat:Int),.int .u64 ((x.set.getD 2 0).toNat:Int),.int .u64 ((x.set.getD 3 0).toNat:Int),.bool x.many,.bool x.literal,.int .u8 (x.char.toNat:Int)]
@[reducible] def bY (x:ak):List PV:=[.int .i64 x.kind,.str x.name,.int .i64 x.value.kind,.bool x.value.jW,.int .i64 x.value.ng,.str x.value.l7,.list (aj.cZ x.value.dS),.list (List.map kF x.value.keys),.list (ak.cZ x.args),.list (List.map kF x.keys)]
@[reducible] def Ga (x:aT):List PV:=[.str x.text,.bool x.MS,.int .i64 x.expr.kind,.str x.expr.name,.int .i64 x.expr.value.kind,.bool x.expr.value.jW,.int .i64 x.expr.value.ng,.str x.expr.value.l7,.list (aj.cZ x.expr.value.dS),.list (List.map kF x.expr.value.keys),.list (ak.cZ x.expr.args),.list (List.map kF x.expr.keys)]
@[reducible] def qo (x:aN):List PV:=[.int .i64 x.kind,.str x.text,.int .i64 x.at_]
@[reducible] def aL (x:ah):List PV:=[.list (List.map aN.cells x.ts),.int .i64 x.at_]
@[reducible] def gI (x:au):List PV:=[.int .i64 x.at_,.int .i64 x.code]
theorem rR {b:Nat} {v p:Value} {bs:List UInt8} (hp:p=Value.pointer none∨p=.pointer (some ⟨b,0,none⟩)) {R:bV→List aC→Prop} (h:R (.ret (.tuple [])) [.fq b 102 [.val (.pointer (some ⟨b,0,none⟩)),.own v (bs.map bN)],.row v bs.length 1 5]):
    AC Tryz.prog 82 [.val (.pointer (some ⟨b,0,none⟩))] [.fq b 102 [.val p,.own v (bs.map bN)],.row v bs.length 1 5] R:=by
  obtain ⟨j,hj1,hj2⟩:=NZ; rcases hp with rfl | rfl
  · skip
    refine AC.fH 20 [] [0] Tryz.func82 rfl rfl rfl rfl rfl ?_; refine AW.seq ?_; refine AW.region ?_; refine AR.step rfl rfl rfl (AO.calc' rfl ?_); refine AR.step rfl rfl rfl (AO.nilCheck rfl rfl ?_); refine AR.step rfl rfl rfl (AO.aO rfl rfl lM ?_); refine AR.step rfl rfl rfl (AO.dO (i:=0) rfl rfl rfl qH rfl rfl ?_); refine AR.step rfl rfl rfl (AO.yB rfl pU rfl rfl ?_); refine AR.nil [0,6] rfl ?_; refine AW.cond rfl (fun h1=>?_) (fun h1=>?_)
    · refine AW.region ?_; refine AR.step rfl rfl rfl (AO.calc' rfl ?_); refine AR.step rfl rfl rfl (AO.calc' rfl ?_); refine AR.step rfl rfl rfl (AO.FI (i:=0) rfl pU BJ hj1 hj2 rfl rfl rfl ?_); refine AR.step rfl rfl rfl (AO.Dz rfl rfl rfl rfl Tryz.func106 (by kernel_rfl) (by kernel_rfl) (by kernel_rfl) (by kernel_rfl) rfl ?_); refine AR.step rfl rfl rfl (AO.DN (i:=0) rfl BJ pU hj1 rfl rfl rfl MQ ?_); refine AR.step rfl rfl rfl (AO.nilCheck rfl rfl ?_); refine AR.step rfl rfl rfl (AO.aO rfl rfl lM ?_); refine AR.aS rfl rfl (AO.iO (i:=0) rfl rfl rfl qH rfl rfl rfl rfl rfl ?_); refine AR.nil [] rfl ?_; exact ⟨rfl,[],rfl,_,List.Sublist.refl _,h⟩
    · cases h1
  · skip
    refine AC.fH 20 [] [0] Tryz.func82 rfl rfl rfl rfl rfl ?_; refine AW.seq ?_; refine AW.region ?_; refine AR.step rfl rfl rfl (AO.calc' rfl ?_); refine AR.step rfl rfl rfl (AO.nilCheck rfl rfl ?_); refine AR.step rfl rfl rfl (AO.aO rfl rfl lM ?_); refine AR.step rfl rfl rfl (AO.dO (i:=0) rfl rfl rfl qH rfl rfl ?_); refine AR.step rfl rfl rfl (AO.yB rfl pU rfl rfl ?_); refine AR.nil [0,6] rfl ?_; refine AW.cond rfl (fun h1=>?_) (fun h1=>?_)
    · cases h1
    · refine AW.seq ?_; refine AW.region ?_; refine AR.step rfl rfl rfl (AO.calc' rfl ?_); refine AR.step rfl rfl rfl (AO.nilCheck rfl rfl ?_); refine AR.step rfl rfl rfl (AO.aO rfl rfl lM ?_); refine AR.step rfl rfl rfl (AO.dO (i:=0) rfl rfl rfl qH rfl rfl ?_); refine AR.step rfl rfl rfl (AO.calc' rfl ?_); refine AR.step rfl rfl rfl (AO.vP rfl pU hj1 rfl rfl ?_); refine AR.nil [19] rfl ?_; refine AW.cond rfl (fun h2=>?_) (fun h2=>?_)
      · cases h2
      · refine AW.skip ?_; exact ⟨rfl,[],rfl,_,List.Sublist.refl _,h⟩
theorem Gy {b:Nat} {v:Value} {bs r:List UInt8} {c:UInt8} (hv:app bs [c]=some r) {R:bV→List aC→Prop} (h:∀ v',R (.ret (.val .nilIface)) [.xC b v' 102 5 r]):AC Tryz.prog 60 [.val (.pointer (some ⟨b,0,none⟩)),.int .u8 (c.toNat:Int)] [.xC b v 102 5 bs] R:=by
  refine AC.xC fun p hp hroom=>?_; refine AC.fH 17 [.tmp 4] [0,1] Tryz.func60 rfl rfl rfl rfl rfl ?_; refine AW.seq ?_; refine AW.region ?_; refine AR.step rfl rfl rfl (AO.calc' rfl ?_); refine AR.nil [0,1] rfl ?_; refine AW.seq ?_; refine AW.region ?_; refine AR.step rfl rfl rfl (AO.calc' rfl ?_); refine AR.step rfl rfl rfl (AO.call rfl _ rfl rfl Hw (rR hp ?_)); refine AR.nil [0,1] rfl ?_; refine AW.seq ?_; refine AW.region ?_; refine AR.step rfl rfl rfl (AO.calc' rfl ?_); refine AR.step rfl rfl rfl (AO.calc' rfl ?_); refine AR.step rfl rfl rfl (AO.nilCheck rfl rfl ?_); refine AR.step rfl rfl rfl (AO.aO rfl rfl iI ?_); refine AR.step rfl rfl rfl (AO.dO (i:=0) rfl rfl rfl qc rfl rfl ?_); refine AR.step rfl rfl rfl (AO.calc' rfl ?_); refine AR.step rfl rfl rfl (AO.buildSlice rfl vI rfl rfl rfl ?_); refine AR.step rfl rfl rfl (AO.xD (i:=1) hv rfl rfl rfl rfl rfl (uS.list rfl oz (by simp [bN]) (by simp [bN,PV.one])) rfl vI (fun v' s1 hs1 hr1=>?_)); cases hs1; refine AR.step rfl rfl rfl (AO.nilCheck rfl rfl ?_); refine AR.step rfl rfl rfl (AO.aO rfl rfl iI ?_); refine AR.aS rfl rfl (AO.iO (i:=0) rfl rfl rfl qc rfl rfl rfl rfl rfl ?_); refine AR.nil [1] rfl ?_; refine AW.seq ?_; refine AW.region ?_; refine AR.step rfl rfl rfl (AO.calc' rfl ?_); refine AR.nil [4] rfl ?_; refine AW.ret ?_; exact ⟨rfl,_,⟨_,_,rfl,rfl,rfl⟩,_,List.Sublist.refl _,_,v',r,rfl,.inr rfl,hr1 hroom,h v'⟩
theorem wK {b:Nat} {v:Value} {bs r:List UInt8} {s:List UInt8} (hv:app bs s=some r) {R:bV→List aC→Prop} (h:∀ v',R (.ret (.tuple [.int .i64 (s.length:Int),.val .nilIface])) [.xC b v' 102 5 r]):AC Tryz.prog 76 [.val (.pointer (some ⟨b,0,none⟩)),.str s] [.xC b v 102 5 bs] R:=by
  refine AC.xC fun p hp hroom=>?_; refine AC.fH 19 [.tmp 4,.tmp 5] [0,1] Tryz.func76 rfl rfl rfl rfl rfl ?_; refine AW.seq ?_; refine AW.region ?_; refine AR.step rfl rfl rfl (AO.calc' rfl ?_); refine AR.step rfl rfl rfl (AO.calc' rfl ?_); refine AR.nil [0,1] rfl ?_; refine AW.seq ?_; refine AW.region ?_; refine AR.step rfl rfl rfl (AO.calc' rfl ?_); refine AR.step rfl rfl rfl (AO.call rfl _ rfl rfl Hw (rR hp ?_)); refine AR.nil [0,1] rfl ?_; refine AW.seq ?_; refine AW.region ?_; refine AR.step rfl rfl rfl (AO.calc' rfl ?_); refine AR.step rfl rfl rfl (AO.calc' rfl ?_); refine AR.step rfl rfl rfl (AO.nilCheck rfl rfl ?_); refine AR.step rfl rfl rfl (AO.aO rfl rfl iI ?_); refine AR.step rfl rfl rfl (AO.dO (i:=0) rfl rfl rfl qc rfl rfl ?_); refine AR.step rfl rfl rfl (AO.calc' rfl ?_); refine AR.step rfl rfl rfl (AO.xD (i:=1) hv rfl rfl rfl rfl rfl (uS.str dL) rfl vI (fun v' s1 hs1 hr1=>?_)); cases hs1; refine AR.step rfl rfl rfl (AO.nilCheck rfl rfl ?_); refine AR.step rfl rfl rfl (AO.aO rfl rfl iI ?_); refine AR.aS rfl rfl (AO.iO (i:=0) rfl rfl rfl qc rfl rfl rfl rfl rfl ?_); refine AR.nil [1] rfl ?_; refine AW.seq ?_; refine AW.region ?_; refine AR.step rfl rfl rfl (AO.calc' rfl ?_); refine AR.step rfl rfl rfl (AO.dA rfl rfl rfl rfl dL rfl ?_); refine AR.step rfl rfl rfl (AO.calc' rfl ?_); refine AR.step rfl rfl rfl (AO.calc' rfl ?_); refine AR.nil [4,5] rfl ?_; refine AW.ret ?_; exact ⟨rfl,_,⟨_,_,rfl,rfl,_,_,rfl,rfl,rfl⟩,_,List.Sublist.refl _,_,v',r,rfl,.inr rfl,hr1 hroom,h v'⟩
theorem Gj {b:Nat} {v:Value} {bs:List UInt8} {R:bV→List aC→Prop} (h:R (.ret (.int .i64 (bs.length:Int))) [.xC b v 102 5 bs]):AC Tryz.prog 77 [.val (.pointer (some ⟨b,0,none⟩))] [.xC b v 102 5 bs] R:=by
  refine AC.xC fun p hp hroom=>?_; refine AC.fH 8 [.tmp 2] [0] Tryz.func77 rfl rfl rfl rfl rfl ?_; refine AW.seq ?_; refine AW.region ?_; refine AR.step rfl rfl rfl (AO.calc' rfl ?_); refine AR.nil [0] rfl ?_; refine AW.seq ?_; refine AW.region ?_; refine AR.step rfl rfl rfl (AO.calc' rfl ?_); refine AR.step rfl rfl rfl (AO.nilCheck rfl rfl ?_); refine AR.step rfl rfl rfl (AO.aO rfl rfl iI ?_); refine AR.step rfl rfl rfl (AO.dO (i:=0) rfl rfl rfl qc rfl rfl ?_); refine AR.step rfl rfl rfl (AO.aP (l:=bs) rfl rfl rfl rfl oz rfl rfl ?_); refine AR.step rfl rfl rfl (AO.calc' rfl ?_); refine AR.nil [2] rfl ?_; refine AW.ret ?_; exact ⟨rfl,_,⟨_,_,rfl,rfl,rfl⟩,_,List.Sublist.refl _,p,v,bs,rfl,hp,hroom,h⟩
theorem CU {b:Nat} {v:Value} {bs:List UInt8} {R:bV→List aC→Prop} (h:R (.ret (.str bs)) []):AC Tryz.prog 78 [.val (.pointer (some ⟨b,0,none⟩))] [.xC b v 102 5 bs] R:=by
  refine AC.JL fun p hroom=>?_; refine AC.fH 14 [.tmp 2] [0] Tryz.func78 rfl rfl rfl rfl rfl ?_; refine AW.seq ?_; refine AW.region ?_; refine AR.step rfl rfl rfl (AO.calc' rfl ?_); refine AR.nil [0] rfl ?_; refine AW.seq ?_; refine AW.draw 10 mixed (by kernel_rfl) rfl ?_; refine Ev.cons rfl rfl rfl (AO.calc' rfl ⟨rfl,rfl⟩) ?_; refine Ev.cons rfl rfl rfl (AO.nilCheck rfl rfl ⟨rfl,rfl⟩) ?_; refine Ev.cons rfl rfl rfl (AO.aO rfl rfl iI ⟨rfl,rfl⟩) ?_; refine Ev.cons rfl rfl rfl (AO.dO (i:=0) rfl rfl rfl qc rfl rfl ⟨rfl,rfl⟩) ?_; refine Ev.cons rfl rfl rfl (AO.sliceData rfl rfl rfl rfl hroom ⟨rfl,rfl⟩) ?_; refine Ev.cons rfl rfl rfl (AO.calc' rfl ⟨rfl,rfl⟩) ?_; refine Ev.cons rfl rfl rfl (AO.nilCheck rfl rfl ⟨rfl,rfl⟩) ?_; refine Ev.cons rfl rfl rfl (AO.aO rfl rfl iI ⟨rfl,rfl⟩) ?_; refine Ev.cons rfl rfl rfl (AO.dO (i:=0) rfl rfl rfl qc rfl rfl ⟨rfl,rfl⟩) ?_; refine Ev.cons rfl rfl rfl (AO.aP (l:=bs) rfl rfl rfl rfl oz rfl rfl ⟨rfl,rfl⟩) ?_; refine Ev.nil ?_; show AR _ _ _ _ _ _ _ _; refine AR.step rfl rfl rfl (AO.unsafeString rfl rfl rfl rfl GQ M6 rfl rfl rfl ?_); refine AR.step rfl rfl rfl (AO.calc' rfl ?_); refine AR.nil [2] rfl ?_; refine AW.ret ?_; exact ⟨rfl,_,⟨_,_,rfl,rfl,rfl⟩,[],List.nil_sublist _,h⟩
theorem Ag {b:Nat} {q:PV} {v p:Value} {bs:List UInt8} (hp:p=Value.pointer none∨p=.pointer (some ⟨b,1,none⟩)) {R:bV→List aC→Prop} (h:R (.ret (.tuple [])) [.row v (List.length bs) 1 5,.fq b 104 [q,.val (.pointer (some ⟨b,1,none⟩)),.own v (List.map bN bs)]]):
    AC Tryz.prog 82 [.val (.pointer (some ⟨b,1,none⟩))] [.row v (List.length bs) 1 5,.fq b 104 [q,.val p,.own v (List.map bN bs)]] R:=by
  obtain ⟨j,hj1,hj2⟩:=NZ; rcases hp with rfl | rfl
  · skip
    refine AC.fH 20 [] [0] Tryz.func82 rfl rfl rfl rfl rfl ?_; refine AW.seq ?_; refine AW.region ?_; refine AR.step rfl rfl rfl (AO.calc' rfl ?_); refine AR.step rfl rfl rfl (AO.nilCheck rfl rfl ?_); refine AR.step rfl rfl rfl (AO.aO rfl rfl lM ?_); refine AR.step rfl rfl rfl (AO.dO (i:=1) rfl rfl rfl qH rfl rfl ?_); refine AR.step rfl rfl rfl (AO.yB rfl pU rfl rfl ?_); refine AR.nil [0,6] rfl ?_; refine AW.cond rfl (fun h1=>?_) (fun h1=>?_)
    · refine AW.region ?_; refine AR.step rfl rfl rfl (AO.calc' rfl ?_); refine AR.step rfl rfl rfl (AO.calc' rfl ?_); refine AR.step rfl rfl rfl (AO.Em (i:=1) (n:=1) rfl pU BJ hj1 hj2 rfl rfl rfl ?_); refine AR.step rfl rfl rfl (AO.Dz rfl rfl rfl rfl Tryz.func106 (by kernel_rfl) (by kernel_rfl) (by kernel_rfl) (by kernel_rfl) rfl ?_); refine AR.step rfl rfl rfl (AO.Cr (i:=1) rfl BJ pU hj1 rfl rfl rfl MP ?_); refine AR.step rfl rfl rfl (AO.nilCheck rfl rfl ?_); refine AR.step rfl rfl rfl (AO.aO rfl rfl lM ?_); refine AR.aS rfl rfl (AO.iO (i:=1) rfl rfl rfl qH rfl rfl rfl rfl rfl ?_); refine AR.nil [] rfl ?_; exact ⟨rfl,[],rfl,_,List.Sublist.refl _,h⟩
    · cases h1
  · skip
    refine AC.fH 20 [] [0] Tryz.func82 rfl rfl rfl rfl rfl ?_; refine AW.seq ?_; refine AW.region ?_; refine AR.step rfl rfl rfl (AO.calc' rfl ?_); refine AR.step rfl rfl rfl (AO.nilCheck rfl rfl ?_); refine AR.step rfl rfl rfl (AO.aO rfl rfl lM ?_); refine AR.step rfl rfl rfl (AO.dO (i:=1) rfl rfl rfl qH rfl rfl ?_); refine AR.step rfl rfl rfl (AO.yB rfl pU rfl rfl ?_); refine AR.nil [0,6] rfl ?_; refine AW.cond rfl (fun h1=>?_) (fun h1=>?_)
    · cases h1
    · refine AW.seq ?_; refine AW.region ?_; refine AR.step rfl rfl rfl (AO.calc' rfl ?_); refine AR.step rfl rfl rfl (AO.nilCheck rfl rfl ?_); refine AR.step rfl rfl rfl (AO.aO rfl rfl lM ?_); refine AR.step rfl rfl rfl (AO.dO (i:=1) rfl rfl rfl qH rfl rfl ?_); refine AR.step rfl rfl rfl (AO.calc' rfl ?_); refine AR.step rfl rfl rfl (AO.vP rfl pU hj1 rfl rfl ?_); refine AR.nil [19] rfl ?_; refine AW.cond rfl (fun h2=>?_) (fun h2=>?_)
      · cases h2
      · refine AW.skip ?_; exact ⟨rfl,[],rfl,_,List.Sublist.refl _,h⟩
theorem tN {b:Nat} {q:PV} {v p:Value} {bs r:List UInt8} (hp:p=Value.pointer none∨p=.pointer (some ⟨b,1,none⟩)) (hroom:roomy v=true) {c:UInt8} (hv:app bs [c]=some r) {R:bV→List aC→Prop} (h:∀ v',roomy v'=true→R (.ret (.val .nilIface)) [.row v' (List.length r) 1 5,.fq b 104 [q,.val (.pointer (some ⟨b,1,none⟩)),.own v' (List.map bN r)]]):AC Tryz.prog 60 [.val (.pointer (some ⟨b,1,none⟩)),.int .u8 (c.toNat:Int)] [.row v (List.length bs) 1 5,.fq b 104 [q,.val p,.own v (List.map bN bs)]] R:=by
  refine AC.fH 17 [.tmp 4] [0,1] Tryz.func60 rfl rfl rfl rfl rfl ?_; refine AW.seq ?_; refine AW.region ?_; refine AR.step rfl rfl rfl (AO.calc' rfl ?_); refine AR.nil [0,1] rfl ?_; refine AW.seq ?_; refine AW.region ?_; refine AR.step rfl rfl rfl (AO.calc' rfl ?_); refine AR.step rfl rfl rfl (AO.call rfl _ rfl rfl Hw (Ag hp ?_)); refine AR.nil [0,1] rfl ?_; refine AW.seq ?_; refine AW.region ?_; refine AR.step rfl rfl rfl (AO.calc' rfl ?_); refine AR.step rfl rfl rfl (AO.calc' rfl ?_); refine AR.step rfl rfl rfl (AO.nilCheck rfl rfl ?_); refine AR.step rfl rfl rfl (AO.aO rfl rfl iI ?_); refine AR.step rfl rfl rfl (AO.dO (i:=1) rfl rfl rfl qc rfl rfl ?_); refine AR.step rfl rfl rfl (AO.calc' rfl ?_); refine AR.step rfl rfl rfl (AO.buildSlice rfl vI rfl rfl rfl ?_); refine AR.step rfl rfl rfl (AO.xD (i:=0) hv rfl rfl rfl rfl rfl (uS.list rfl oz (by simp [bN]) (by simp [bN,PV.one])) rfl vI (fun v' s1 hs1 hr1=>?_)); cases hs1; refine AR.step rfl rfl rfl (AO.nilCheck rfl rfl ?_); refine AR.step rfl rfl rfl (AO.aO rfl rfl iI ?_); refine AR.aS rfl rfl (AO.iO (i:=1) rfl rfl rfl qc rfl rfl rfl rfl rfl ?_); refine AR.nil [1] rfl ?_; refine AW.seq ?_; refine AW.region ?_; refine AR.step rfl rfl rfl (AO.calc' rfl ?_); refine AR.nil [4] rfl ?_; refine AW.ret ?_; exact ⟨rfl,_,⟨_,_,rfl,rfl,rfl⟩,_,List.Sublist.refl _,h v' (hr1 hroom)⟩
theorem Iz {b:Nat} {q:PV} {v p:Value} {bs:List UInt8} {R:bV→List aC→Prop} (h:R (.ret (.int .i64 (bs.length:Int))) [.row v (List.length bs) 1 5,.fq b 104 [q,.val p,.own v (List.map bN bs)]]):AC Tryz.prog 77 [.val (.pointer (some ⟨b,1,none⟩))] [.row v (List.length bs) 1 5,.fq b 104 [q,.val p,.own v (List.map bN bs)]] R:=by
  refine AC.fH 8 [.tmp 2] [0] Tryz.func77 rfl rfl rfl rfl rfl ?_; refine AW.seq ?_; refine AW.region ?_; refine AR.step rfl rfl rfl (AO.calc' rfl ?_); refine AR.nil [0] rfl ?_; refine AW.seq ?_; refine AW.region ?_; refine AR.step rfl rfl rfl (AO.calc' rfl ?_); refine AR.step rfl rfl rfl (AO.nilCheck rfl rfl ?_); refine AR.step rfl rfl rfl (AO.aO rfl rfl iI ?_); refine AR.step rfl rfl rfl (AO.dO (i:=1) rfl rfl rfl qc rfl rfl ?_); refine AR.step rfl rfl rfl (AO.aP (l:=bs) rfl rfl rfl rfl oz rfl rfl ?_); refine AR.step rfl rfl rfl (AO.calc' rfl ?_); refine AR.nil [2] rfl ?_; refine AW.ret ?_; exact ⟨rfl,_,⟨_,_,rfl,rfl,rfl⟩,_,List.Sublist.refl _,h⟩
theorem D9 {b:Nat} {q:PV} {v p:Value} {bs:List UInt8} (hroom:roomy v=true) {R:bV→List aC→Prop} (h:R (.ret (.str bs)) [.fq b 104 [q,.val p,.own v (List.map bN bs)]]):AC Tryz.prog 78 [.val (.pointer (some ⟨b,1,none⟩))] [.row v (List.length bs) 1 5,.fq b 104 [q,.val p,.own v (List.map bN bs)]] R:=by
  refine AC.fH 14 [.tmp 2] [0] Tryz.func78 rfl rfl rfl rfl rfl ?_; refine AW.seq ?_; refine AW.region ?_; refine AR.step rfl rfl rfl (AO.calc' rfl ?_); refine AR.nil [0] rfl ?_; refine AW.seq ?_; refine AW.draw 10 mixed (by kernel_rfl) rfl ?_; refine Ev.cons rfl rfl rfl (AO.calc' rfl ⟨rfl,rfl⟩) ?_; refine Ev.cons rfl rfl rfl (AO.nilCheck rfl rfl ⟨rfl,rfl⟩) ?_; refine Ev.cons rfl rfl rfl (AO.aO rfl rfl iI ⟨rfl,rfl⟩) ?_; refine Ev.cons rfl rfl rfl (AO.dO (i:=1) rfl rfl rfl qc rfl rfl ⟨rfl,rfl⟩) ?_; refine Ev.cons rfl rfl rfl (AO.sliceData rfl rfl rfl rfl hroom ⟨rfl,rfl⟩) ?_; refine Ev.cons rfl rfl rfl (AO.calc' rfl ⟨rfl,rfl⟩) ?_; refine Ev.cons rfl rfl rfl (AO.nilCheck rfl rfl ⟨rfl,rfl⟩) ?_; refine Ev.cons rfl rfl rfl (AO.aO rfl rfl iI ⟨rfl,rfl⟩) ?_; refine Ev.cons rfl rfl rfl (AO.dO (i:=1) rfl rfl rfl qc rfl rfl ⟨rfl,rfl⟩) ?_; refine Ev.cons rfl rfl rfl (AO.aP (l:=bs) rfl rfl rfl rfl oz rfl rfl ⟨rfl,rfl⟩) ?_; refine Ev.nil ?_; show AR _ _ _ _ _ _ _ _; refine AR.step rfl rfl rfl (AO.Aq rfl rfl rfl rfl GQ M6 rfl rfl rfl ?_); refine AR.step rfl rfl rfl (AO.calc' rfl ?_); refine AR.nil [2] rfl ?_; refine AW.ret ?_; exact ⟨rfl,_,⟨_,_,rfl,rfl,rfl⟩,_,List.Sublist.refl _,h⟩
theorem Ah {b:Nat} {q:PV} {v p:Value} {bs:List UInt8} {R:bV→List aC→Prop} (h:R (.ret (.tuple [])) [.fq b 104 [q,.val (.pointer none),.own (.slice none 0 0) (List.map bN [])]]):AC Tryz.prog 87 [.val (.pointer (some ⟨b,1,none⟩))] [.fq b 104 [q,.val p,.own v (List.map bN bs)]] R:=by
  refine AC.fH 8 [] [0] Tryz.func87 rfl rfl rfl rfl rfl ?_; refine AW.seq ?_; refine AW.region ?_; refine AR.step rfl rfl rfl (AO.calc' rfl ?_); refine AR.step rfl rfl rfl (AO.nilCheck rfl rfl ?_); refine AR.step rfl rfl rfl (AO.aO rfl rfl lM ?_); refine AR.aS rfl rfl (AO.iO (i:=0) rfl rfl rfl qH rfl rfl rfl rfl rfl ?_); refine AR.nil [0] rfl ?_; refine AW.region ?_; refine AR.step rfl rfl rfl (AO.calc' rfl ?_); refine AR.step rfl rfl rfl (AO.nilCheck rfl rfl ?_); refine AR.step rfl rfl rfl (AO.aO rfl rfl iI ?_); refine AR.aS rfl rfl (AO.iO (i:=0) rfl rfl rfl qc rfl rfl rfl rfl rfl ?_); refine AR.nil [] rfl ?_; exact ⟨rfl,[],rfl,_,List.Sublist.refl _,h⟩
theorem D7 (l1:List av) {r0:Bool} (hf:tZ l1=some r0) (h:Q (.ret (.bool r0)) τ):PC 12 [.list (List.map av.cells l1)] τ Q:=by
 unfold tZ at hf; refine BN 24 [.tmp 2] [0] Tryz.func12 Z Z Z Z Z (V 2 Z (GA (fun i1=>[(0,.list (List.map av.cells l1)),(3,iP i1)]) (fun i1=>[]) (fun bQ i1=>jO l1 bQ i1=some r0) BIG 0 Z Z hf (fun _ hz=>aR hz) ?_)); intro bQ i1 hf; rw [jO] at hf; refine W 2 Z (AS Z (AO.aP (l:=l1) Z Z Z Z wz Z Z (U 2 Z (An 3 8 11 [0,3] (decide (i1 < 20)) Z Z Z Z (J 0 Z (C hf Z (fun h2 hf=>?_) fun h2 hf=>?_))))))
 ·
  refine B1 hf fun e1 h3 hf=>W 2 Z (AS Z (AO.bR h3 Z Z Z Z wz (av.aQ _) Z (U 2 Z (AS Z (AO.dA Z Z Z Z dL Z (J 1 Z (C hf Z (fun h4 hf=>?_) fun h4 hf=>?_)))))))
  · cases hf; exact M 1 Z (Y Z h)
  exact M 3 Z ⟨(bW (i1 + 1)),Z,Z,Z,hf⟩
 refine W 1 Z (AS Z (AO.aP (l:=l1) Z Z Z Z wz Z Z ?_)); cases hf; exact N 2 Z (Y Z h)
theorem Ac (l1:List Str) {r0:Bool} (hf:nN l1=some r0) (h:Q (.ret (.bool r0)) τ):PC 13 [sP l1] τ Q:=by
 unfold nN at hf; refine BN 23 [.tmp 2] [0] Tryz.func13 Z Z Z Z Z (V 2 Z (GA (fun i1=>[(0,sP l1),(3,iP i1)]) (fun i1=>[]) (fun bQ i1=>gW l1 bQ i1=some r0) BIG 0 Z Z hf (fun _ hz=>aR hz) ?_)); intro bQ i1 hf; rw [gW] at hf; refine W 2 Z (AS Z (AO.aP (l:=l1) Z Z Z Z iJ Z Z (U 2 Z (An 3 8 11 [0,3] (decide (i1 < 10)) Z Z Z Z (J 0 Z (C hf Z (fun h2 hf=>?_) fun h2 hf=>?_))))))
 ·
  refine B1 hf fun e1 h3 hf=>W 2 Z (AS Z (AO.bR h3 Z Z Z Z iJ Z Z (U 1 Z (AS Z (AO.dA Z Z Z Z dL Z (J 1 Z (C hf Z (fun h4 hf=>?_) fun h4 hf=>?_)))))))
  · cases hf; exact M 1 Z (Y Z h)
  exact M 3 Z ⟨(bW (i1 + 1)),Z,Z,Z,hf⟩
 refine W 1 Z (AS Z (AO.aP (l:=l1) Z Z Z Z iJ Z Z ?_)); cases hf; exact N 2 Z (Y Z h)
theorem oU (s1:Str) (lg:Str) {r0:Bool} (hf:iG s1 lg=some r0) (h:Q (.ret (.bool r0)) τ):PC 65 [.str s1,.str lg] τ Q:=by
 unfold iG at hf; refine BN 18 [.tmp 4] [0,1] Tryz.func65 Z Z Z Z Z (W 2 Z (AS Z (AO.dA Z Z Z Z dL Z (U 1 Z (AS Z (AO.dA Z Z Z Z dL Z ?_)))))); refine BR hf fun b1 h2 hf=>?_; refine U 2 Z (AR.fA 7 10 17 true [] b1 Z Z (fun h1=>?_) (fun h1=>?_) ?_)
 · replace h2:=gN h1 h2; refine Is 10 h1 Z (U 2 Z (GO Z (AO.dA Z Z Z Z dL Z ?_))); refine B1 h2 fun x1 h3 h2=>GO Z (AO.sH h3 Z dL Z Z ⟨_,Z⟩ ?_); cases h2; exact fO 3 Z (En [17] Z)
 · refine IF 10 h1 h2 Z fun h2=>?_; cases h2; exact fO 7 Z (En [17] Z)
 cases hf; exact N 1 Z (Y Z h)
theorem nH (s1:Str) (lg:Str) {r0:Bool} (hf:strings_HasPrefix s1 lg=some r0) (h:Q (.ret (.bool r0)) τ):PC 59 [.str s1,.str lg] τ Q:=by
 unfold strings_HasPrefix at hf; refine BN 8 [.tmp 4] [0,1] Tryz.func59 Z Z Z Z Z ?_; refine BR hf fun x1 h1 hf=>?_; refine W 3 Z (CL Z (oU _ _ h1 ?_)); cases hf; exact N 1 Z (Y Z h)
theorem xu (s1:Str) (iC:Int) {r0:Int} (hf:oh s1 iC=some r0) (h:Q (.ret (iP r0)) τ):PC 61 [.str s1,iP iC] τ Q:=by
 unfold oh at hf; refine BN 31 [.tmp 4] [0,1] Tryz.func61 Z Z Z Z Z (V 2 Z (EU (fun at2 gH=>[(0,.str s1),(1,iP at2),(5,iP gH)]) (fun at2 gH=>[]) (fun bQ at2 gH=>fM s1 bQ at2 gH=some r0) BIG iC 0 Z Z hf (fun _ _ hz=>aR hz) ?_)); intro bQ at2 gH hf; rw [fM] at hf; refine W 2 Z (AS Z (AO.dA Z Z Z Z dL Z (J 1 Z (C hf Z (fun h1 hf=>?_) fun h1 hf=>?_))))
 ·
  refine B1 hf fun x1 h2 hf=>W 2 Z (AS Z (AO.fI h2 Z dL Z Z (J 2 Z (C hf Z (fun h3 hf=>?_) fun h3 hf=>?_))))
  · exact aR hf
  refine V 2 Z (C hf Z (fun h4 hf=>?_) fun h4 hf=>?_)
  · exact M 6 Z ⟨(bW (at2 + 1)),(bW (gH + 1)),Z,Z,Z,hf⟩
  refine V 2 Z (C hf Z (fun h5 hf=>?_) fun h5 hf=>?_)
  ·
   refine V 2 Z (C hf Z (fun h6 hf=>?_) fun h6 hf=>?_)
   · cases hf; exact M 2 Z (Y Z h)
   exact M 6 Z ⟨(bW (at2 + 1)),(bW (gH - 1)),Z,Z,Z,hf⟩
  exact M 3 Z ⟨(bW (at2 + 1)),gH,Z,Z,Z,hf⟩
 cases hf; exact M 1 Z (Y Z h)
theorem xq (gM:Int) {r0:Bool} (hf:n_ gM=some r0) (h:Q (.ret (.bool r0)) τ):PC 107 [.int .i32 gM] τ Q:=by
 unfold n_ at hf; refine BN 9 [.tmp 2] [0] Tryz.func107 Z Z Z Z Z (W 4 Z (On 3 5 8 [] (gM == 9) Z Z Z Z ?_)); cases hf; exact N 1 Z (Y Z h)
theorem uO (s1:Str) (iC:Int) (tu:UInt8→Option Bool) (yF:FuncId) (CB:List PV) (JH:aU Tryz.prog yF=true) (JI:∀ a0 b0,tu a0=some b0→∀ {τ:List aC} {Q:bV→List aC→Prop},Q (.ret (.bool b0)) τ→PC yF ([.int .u8 (a0.toNat:Int)] ++ CB) τ Q) {r0:Int} (hf:o7 s1 iC tu=some r0) (h:Q (.ret (iP r0)) τ):PC 108 [.str s1,iP iC,.fn yF CB] τ Q:=by
 unfold o7 at hf; refine BN 21 [.tmp 6] [0,1,2] Tryz.func108 Z Z Z Z Z (V 1 Z (GA (fun at2=>[(0,.str s1),(1,iP at2),(2,.fn yF CB)]) (fun at2=>[]) (fun bQ at2=>lH s1 tu bQ at2=some r0) BIG iC Z Z hf (fun _ hz=>aR hz) ?_)); intro bQ at2 hf; rw [lH] at hf; refine W 2 Z (AS Z (AO.dA Z Z Z Z dL Z ?_)); refine B1 hf fun b1 h2 hf=>U 2 Z (AR.fA 6 11 17 true [0,1,2] b1 Z Z (fun h1=>?_) (fun h1=>?_) ?_)
 · refine IT 11 h1 h2 Z fun h2=>?_; refine B1 h2 fun x1 h3 h2=>U 3 Z (GO Z (AO.fI h3 Z dL Z Z ?_)); refine BR h2 fun x2 h4 h2=>?_; refine GO Z (AO.call Z _ Z Z JH (JI _ _ h4 ?_)); cases h2; exact fO 1 Z (En [17,0,1,2] Z)
 · refine IF 11 h1 h2 Z fun h2=>?_; cases h2; exact fO 6 Z (En [17,0,1,2] Z)
 refine J 0 Z (C hf Z (fun h5 hf=>?_) fun h5 hf=>?_)
 · exact M 3 Z ⟨(bW (at2 + 1)),Z,Z,Z,hf⟩
 cases hf; exact M 2 Z (Y Z h)
theorem xk (c1:UInt8) {r0:Bool} (hf:lI c1=some r0) (h:Q (.ret (.bool r0)) τ):PC 109 [.int .u8 (c1.toNat:Int)] τ Q:=by
 unfold lI at hf; refine BN 5 [.tmp 2] [0] Tryz.func109 Z Z Z Z Z ?_; cases hf; exact M 4 Z (Y Z h)
theorem tC (c1:UInt8) {r0:Bool} (hf:nM c1=some r0) (h:Q (.ret (.bool r0)) τ):PC 138 [.int .u8 (c1.toNat:Int)] τ Q:=by
 unfold nM at hf; refine BN 21 [.tmp 2] [0] Tryz.func138 Z Z Z Z Z (W 4 Z (An 3 5 8 [0] (decide ((c1.toNat:Int)≤122)) Z Z Z Z (U 1 Z (AR.or 7 9 16 [0] (x:=((decide (65≤(c1.toNat:Int))) && (decide ((c1.toNat:Int)≤90)))) Z Z (fun h2=>?_) (fun h2=>?_) ?_))))
 · refine Is 9 h2 Z (U 3 Z (An 3 12 15 [0,9] (decide ((c1.toNat:Int)≤90)) Z Z Z Z ?_)); exact fO 1 Z (En [16,0] Z)
 · refine Is 9 h2 Z ?_; exact fO 7 Z (En [16,0] Z)
 refine U 1 Z (On 3 17 20 [] ((c1.toNat:Int) == 95) Z Z Z Z ?_); cases hf; exact N 1 Z (Y Z h)
theorem uP (c1:UInt8) {r0:Bool} (hf:o8 c1=some r0) (h:Q (.ret (.bool r0)) τ):PC 140 [.int .u8 (c1.toNat:Int)] τ Q:=by
 unfold o8 at hf; refine BN 9 [.tmp 2] [0] Tryz.func140 Z Z Z Z Z (W 4 Z (An 3 5 8 [] (decide ((c1.toNat:Int)≤57)) Z Z Z Z ?_)); cases hf; exact N 1 Z (Y Z h)
theorem Aa (c1:UInt8) {r0:Bool} (hf:nL c1=some r0) (h:Q (.ret (.bool r0)) τ):PC 180 [.int .u8 (c1.toNat:Int)] τ Q:=by
 unfold nL at hf; refine BN 9 [.tmp 2] [0] Tryz.func180 Z Z Z Z Z ?_; refine B1 hf fun x1 h1 hf=>W 2 Z (CL Z (tC _ h1 ?_)); refine BR hf fun b1 h3 hf=>?_; refine U 1 Z (AR.fA 3 5 8 false [] b1 Z Z (fun h2=>?_) (fun h2=>?_) ?_)
 · refine IF 5 h2 h3 Z fun h3=>?_; refine BR h3 fun x2 h4 h3=>?_; refine U 1 Z (GO Z (AO.call Z _ Z Z KS (uP _ h4 ?_))); cases h3; exact fO 1 Z (En [8] Z)
 · refine IT 5 h2 h3 Z fun h3=>?_; cases h3; exact fO 3 Z (En [8] Z)
 cases hf; exact N 1 Z (Y Z h)
theorem CO (gD:Str) (iC:Int) {r0:aN} {r1:Int} {r2:Int} (hf:uZ gD iC=some (r0,r1,r2)) (h:Q (.ret (.tuple [.agg (qo r0),iP r1,iP r2])) τ):PC 139 [.str gD,iP iC] τ Q:=by
 unfold uZ at hf; refine BN 23 [.cell 4 146,.tmp 5,.tmp 6] [0,1] Tryz.func139 Z Z Z Z Z (W 0 Z (AS Z (AO.aK Z pR (fun b4=>?_)))); refine B1 hf fun wC h1 hf=>U 4 Z (CL Z (uO _ _ nL 180 [] KL (fun _ _ hz=>Aa _  hz) h1 (J 5 Z (C hf Z (fun h2 hf=>?_) fun h2 hf=>?_))))
 · cases hf; exact Wx 4 [0] Z Z (ZC [0] Z Z h)
 refine B1 hf fun x1 h3 hf=>W 3 Z (AS Z (AO.sH h3 Z dL Z ⟨_,Z⟩ ⟨_,Z⟩ ?_)); cases hf; exact Rx 6 [0] Z Z (ZC [0] Z Z h)
theorem A8 (gD:Str) (iC:Int) {r0:aN} {r1:Int} {r2:Int} (hf:sU gD iC=some (r0,r1,r2)) (h:Q (.ret (.tuple [.agg (qo r0),iP r1,iP r2])) τ):PC 110 [.str gD,iP iC] τ Q:=by
 unfold sU at hf; refine BN 44 [.cell 4 146,.tmp 5,.tmp 6] [0,1] Tryz.func110 Z Z Z Z Z (W 0 Z (AS Z (AO.aK Z pR (fun b4=>?_)))); refine B1 hf fun c1 h1 hf=>U 4 Z (AS Z (AO.fI h1 Z dL Z Z ?_)); refine B1 hf fun x1 h2 hf=>U 2 Z (CL Z (tC _ h2 (J 1 Z (C hf Z (fun h3 hf=>?_) fun h3 hf=>?_))))
 · replace hf:=(Gm _).trans hf; obtain ⟨x2,x3,x4,h4,hf⟩:=kU hf; refine W 2 Z (CL Z (CO _ _ h4 ?_)); cases hf; exact Rx 6 [0] Z Z (ZC [0] Z Z h)
 refine B1 hf fun x5 h5 hf=>W 1 Z (CL Z (uP _ h5 (J 1 Z (C hf Z (fun h6 hf=>?_) fun h6 hf=>?_))))
 · exact aR hf
 refine V 3 Z (C hf Z (fun h7 hf=>?_) fun h7 hf=>?_)
 · exact aR hf
 exact aR hf
theorem Ab (gD:Str) {r0:List aN} {r1:Int} {r2:Int} (hf:qU gD=some (r0,r1,r2)) (h:Q (.ret (.tuple [.list (List.map aN.cells r0),iP r1,iP r2])) τ):PC 84 [.str gD] τ Q:=by
 unfold qU at hf; refine BN 84 [.tmp 2,.tmp 3,.tmp 4] [0] Tryz.func84 Z Z Z Z Z (W 0 Z (AS Z (AO.eF Z Z (U 3 Z (AS Z (AO.dA Z Z Z Z dL Z (J 1 Z (C hf Z (fun h1 hf=>?_) fun h1 hf=>?_))))))))
 · refine W 0 Z (AS Z (AO.eF Z Z ?_)); cases hf; exact N 2 Z (Y Z h)
 refine W 5 Z (AS Z (AO.FT Z dL Z (fun MR=>(J 0 Z (AW.row 3 146 (Oz (fun bI v1 qm gH pos1=>[(0,.str gD),(5,.own v1 (List.map aN.cells bI)),(6,.fn 107 []),(7,iP qm),(8,iP gH),(18,pP MR)]) (fun bI v1 qm gH pos1=>[.row v1 (List.map aN.cells bI).length 3 146,.obj MR (.stringIter ⟨List.toArray gD⟩ pos1)]) (fun bQ bI v1 qm gH pos1=>fu gD bQ bI qm gH pos1=some (r0,r1,r2)) BIG [] (.slice none 0 0) 0 0 0 Z Z hf (fun _ _ _ _ _ hz=>aR hz) ?_)))))); intro bQ bI v1 qm gH pos1 hf; rw [fu] at hf; rcases Bool.eq_false_or_eq_true (decide (pos1 < gD.length)) with h2 | h2
 ·
  replace hf:=gN h2 hf; refine W 0 Z (AS Z (AO.H8 (i:=1) Z Z Z h2 (J 1 Z (AW.cond Z (fun h3=>?_) (fun h3=>?_)))))
  ·
   refine B1 hf fun b1 h5 hf=>W 8 Z (AR.fA 4 26 30 false [0,5,6,7,8,9,10,18] b1 Z Z (fun h4=>?_) (fun h4=>?_) ?_)
   · refine IF 26 h4 h5 Z fun h5=>?_; refine BR h5 fun x1 h6 h5=>?_; refine U 2 Z (GO Z (AO.call Z _ Z Z KX (xq _ h6 ?_))); cases h5; exact fO 1 Z (En [30,0,5,6,7,8,9,10,18] Z)
   · refine IT 26 h4 h5 Z fun h5=>?_; cases h5; exact fO 4 Z (En [30,0,5,6,7,8,9,10,18] Z)
   refine J 0 Z (C hf Z (fun h7 hf=>?_) fun h7 hf=>?_)
   · exact M 0 Z ⟨bI,v1,qm,gH,(pos1 + (dec gD pos1).2),Z,Z,Z,hf⟩
   refine V 2 Z (C hf Z (fun h8 hf=>?_) fun h8 hf=>?_)
   · refine B1 hf fun H9 h9 hf=>W 2 Z (CL Z (uO _ _ lI 109 [] KW (fun _ _ hz=>xk _  hz) h9 ?_)); exact N 1 Z ⟨bI,v1,H9,gH,(pos1 + (dec gD pos1).2),Z,Z,Z,hf⟩
   refine V 2 Z (C hf Z (fun h10 hf=>?_) fun h10 hf=>?_)
   ·
    refine B1 hf fun b2 h12 hf=>W 3 Z (AR.fA 14 40 54 true [0,5,6,7,8,9,18] b2 Z Z (fun h11=>?_) (fun h11=>?_) ?_)
    ·
     replace h12:=gN h11 h12; refine Is 40 h11 Z (U 1 Z (GO Z (AO.aP (l:=bI) Z Z Z Z oC Z Z ?_))); refine BR h12 fun b3 rY h12=>?_; refine U 2 Z (AR.fA 9 44 53 false [0,5,6,7,8,9,18,40] b3 Z Z (fun wO=>?_) (fun wO=>?_) ?_)
     · replace rY:=gJ wO rY; refine Is 44 wO Z (U 2 Z (GO Z (AO.aP (l:=bI) Z Z Z Z oC Z Z ?_))); refine B1 rY fun e1 xM rY=>U 1 Z (GO Z (AO.bR xM Z Z Z Z oC (aN.aQ _) Z ?_)); cases rY; exact fO 4 Z (En [53,0,5,6,7,8,9,18,40] Z)
     · refine IT 44 wO rY Z fun rY=>?_; cases rY; exact fO 9 Z (En [53,0,5,6,7,8,9,18,40] Z)
     cases h12; exact fO 1 Z (En [54,0,5,6,7,8,9,18] Z)
    · refine IF 40 h11 h12 Z fun h12=>?_; cases h12; exact fO 14 Z (En [54,0,5,6,7,8,9,18] Z)
    refine J 0 Z (C hf Z (fun h16 hf=>?_) fun h16 hf=>?_)
    · refine W 3 rfl (AS rfl (AO.cu (List.map aN.cells [(aN.mk 5 ([]:Str) (pos1:Int))]) rfl BU rfl rfl rfl (by first | rfl | simp only [List.map,aN.aQ]) ?_)); refine B1 hf fun nA Bv hf=>AS Z (AO.jA (i:=0) (l:=bI) (m:=[(aN.mk 5 ([]:Str) (pos1:Int))]) Bv Z Z Z Z Z Z Z BU oC Z Z Z (aN.dG) (aN.cells_one) (by decide) (fun v2 s1 hs1=>?_)); cases hs1; exact N 1 Z ⟨nA,v2,qm,gH,(pos1 + (dec gD pos1).2),Z,Z,Z,hf⟩
    exact M 0 Z ⟨bI,v1,qm,gH,(pos1 + (dec gD pos1).2),Z,Z,Z,hf⟩
   obtain ⟨x2,wC,e2,h18,hf⟩:=kU hf; refine W 2 Z (CL Z (A8 _ _ h18 (U 4 Z (AS Z (AO.aK Z pR (fun b11=>(Rw 5 [0] Z Z (C hf Z (fun h19 hf=>?_) fun h19 hf=>?_))))))))
   · refine W 2 Z (AS Z (AO.eF Z Z ?_)); cases hf; exact N 2 Z (Y Z h)
   refine Ww 3 [0] Z Z (C hf Z (fun h20 hf=>?_) fun h20 hf=>?_)
   · exact aR hf
   refine Wr 2 [0] rfl rfl (AS rfl (AO.cu (List.map aN.cells [x2]) rfl BU rfl rfl rfl (by first | rfl | simp only [List.map,aN.aQ]) ?_)); refine B1 hf fun ny h21 hf=>AS Z (AO.jA (i:=1) (l:=bI) (m:=[x2]) h21 Z Z Z Z Z Z Z BU oC Z Z Z (aN.dG) (aN.cells_one) (by decide) (fun v3 s2 hs2=>?_)); cases hs2; refine fO 3 Z (AR.drop1 ?_); exact N 0 Z ⟨ny,v3,wC,gH,(pos1 + (dec gD pos1).2),Z,Z,Z,hf⟩
  cases h3
 replace hf:=gJ h2 hf; refine W 0 Z (AS Z (AO.F6 (i:=1) Z Z Z h2 (J 1 Z (AW.cond Z (fun h22=>?_) (fun h22=>?_)))))
 · cases h22
 cases hf; exact M 4 Z (Y Z h)
theorem rP (c1:UInt8) {r0:Bool} (hf:mU c1=some r0) (h:Q (.ret (.bool r0)) τ):PC 312 [.int .u8 (c1.toNat:Int)] τ Q:=by
 unfold mU at hf; refine BN 21 [.tmp 2] [0] Tryz.func312 Z Z Z Z Z (W 4 Z (An 3 5 8 [0] (decide ((c1.toNat:Int)≤122)) Z Z Z Z (U 1 Z (AR.or 7 9 16 [0] (x:=((decide (65≤(c1.toNat:Int))) && (decide ((c1.toNat:Int)≤90)))) Z Z (fun h2=>?_) (fun h2=>?_) ?_))))
 · refine Is 9 h2 Z (U 3 Z (An 3 12 15 [0,9] (decide ((c1.toNat:Int)≤90)) Z Z Z Z ?_)); exact fO 1 Z (En [16,0] Z)
 · refine Is 9 h2 Z ?_; exact fO 7 Z (En [16,0] Z)
 refine U 1 Z (On 3 17 20 [] ((c1.toNat:Int) == 95) Z Z Z Z ?_); cases hf; exact N 1 Z (Y Z h)
theorem zY (c1:UInt8) {r0:Bool} (hf:qN c1=some r0) (h:Q (.ret (.bool r0)) τ):PC 313 [.int .u8 (c1.toNat:Int)] τ Q:=by
 unfold qN at hf; refine BN 9 [.tmp 2] [0] Tryz.func313 Z Z Z Z Z (W 4 Z (An 3 5 8 [] (decide ((c1.toNat:Int)≤57)) Z Z Z Z ?_)); cases hf; exact N 1 Z (Y Z h)
theorem uN (s1:Str) {r0:Bool} (hf:oZ s1=some r0) (h:Q (.ret (.bool r0)) τ):PC 271 [.str s1] τ Q:=by
 unfold oZ at hf; refine BN 36 [.tmp 2] [0] Tryz.func271 Z Z Z Z Z (W 2 Z (AS Z (AO.dA Z Z Z Z dL Z (U 2 Z (AR.or 4 7 11 [0] (x:=(decide (64 < (s1.length:Int)))) Z Z (fun h1=>?_) (fun h1=>?_) ?_)))))
 · refine Is 7 h1 Z (U 1 Z (GO Z (AO.dA Z Z Z Z dL Z ?_))); exact fO 2 Z (En [11,0] Z)
 · refine Is 7 h1 Z ?_; exact fO 4 Z (En [11,0] Z)
 refine B1 hf fun b1 h3 hf=>U 1 Z (AR.fA 5 12 17 false [0] b1 Z Z (fun h2=>?_) (fun h2=>?_) ?_)
 · refine IF 12 h2 h3 Z fun h3=>?_; refine B1 h3 fun x1 h4 h3=>U 1 Z (GO Z (AO.fI h4 Z dL Z Z ?_)); refine B1 h3 fun x2 h5 h3=>GO Z (AO.call Z _ Z Z Kz (rP _ h5 ?_)); cases h3; exact fO 2 Z (En [17,0] Z)
 · refine IT 12 h2 h3 Z fun h3=>?_; cases h3; exact fO 5 Z (En [17,0] Z)
 refine J 0 Z (C hf Z (fun h6 hf=>?_) fun h6 hf=>?_)
 · cases hf; exact M 1 Z (Y Z h)
 refine V 1 Z (GA (fun i1=>[(0,.str s1),(3,iP i1)]) (fun i1=>[]) (fun bQ i1=>lu s1 bQ i1=some r0) BIG 0 Z Z hf (fun _ hz=>aR hz) ?_); intro bQ i1 hf; rw [lu] at hf; refine W 2 Z (AS Z (AO.dA Z Z Z Z dL Z (J 1 Z (C hf Z (fun h7 hf=>?_) fun h7 hf=>?_))))
 ·
  refine B1 hf fun x3 h8 hf=>W 2 Z (AS Z (AO.fI h8 Z dL Z Z ?_)); refine B1 hf fun x4 h9 hf=>CL Z (rP _ h9 ?_); refine B1 hf fun b2 h11 hf=>U 2 Z (AR.fA 6 29 35 true [0,3] b2 Z Z (fun h10=>?_) (fun h10=>?_) ?_)
  · refine IT 29 h10 h11 Z fun h11=>?_; refine B1 h11 fun x5 h12 h11=>U 2 Z (GO Z (AO.fI h12 Z dL Z Z ?_)); refine B1 h11 fun x6 wO h11=>GO Z (AO.call Z _ Z Z Ky (zY _ wO ?_)); cases h11; exact fO 2 Z (En [35,0,3] Z)
  · refine IF 29 h10 h11 Z fun h11=>?_; cases h11; exact fO 6 Z (En [35,0,3] Z)
  refine J 0 Z (C hf Z (fun rY hf=>?_) fun rY hf=>?_)
  · cases hf; exact M 1 Z (Y Z h)
  exact M 3 Z ⟨(bW (i1 + 1)),Z,Z,Z,hf⟩
 cases hf; exact M 1 Z (Y Z h)
theorem AQ (t1:aN) {r0:Bool} (hf:sM t1=some r0) (h:Q (.ret (.bool r0)) τ):PC 268 [.agg (qo t1)] τ Q:=by
 unfold sM at hf; refine BN 23 [.tmp 2] [0] Tryz.func268 Z Z Z Z Z (V 6 Z (C hf Z (fun h1 hf=>?_) fun h1 hf=>?_))
 · refine BR hf fun x1 h2 hf=>?_; refine W 2 Z (CL Z (uN _ h2 ?_)); cases hf; exact N 1 Z (Y Z h)
 refine V 2 Z (C hf Z (fun h3 hf=>?_) fun h3 hf=>?_)
 · exact aR hf
 refine V 2 Z (C hf Z (fun h4 hf=>?_) fun h4 hf=>?_)
 · refine W 2 Z (AS Z (AO.dA Z Z Z Z dL Z ?_)); cases hf; exact N 2 Z (Y Z h)
 refine V 2 Z (C hf Z (fun h5 hf=>?_) fun h5 hf=>?_)
 · cases hf; exact M 1 Z (Y Z h)
 cases hf; exact M 1 Z (Y Z h)
theorem jL (p1:Nat) (gM:ah) {r0:aN} {j4:ah} (hf:gG gM=some (r0,j4)) {Q:bV→List aC→Prop} (h:Q (.ret (.agg (qo r0))) [.box p1 (aL j4)]):PC 231 [pP p1] [.box p1 (aL gM)] Q:=by
 unfold gG at hf; refine BD 37 [.cell 2 146] [0] Tryz.func231 Z Z Z Z Z (W 0 Z (AS Z (AO.aK Z pR (fun b2=>(J 0 Z (AW.draw 23 mixed (by kernel_rfl) Z ?_)))))); refine Ev.cs bZ 3 Z (Ev.cons Z Z Z (AO.bf (i:=1) Z Z Z Au Z Z zg) (Ev.cs bZ 3 Z (Ev.cons Z Z Z (AO.bf (i:=1) Z Z Z BO Z Z zg) ?_))); refine Ev.cons Z Z Z (AO.aP (l:=gM.ts) Z Z Z Z oC Z Z zg) (Ev.cs bZ 2 Z ?_); refine B1 hf fun b1 h2 hf=>Ev.fA NJ 12 13 25 true [0,2] (.bool b1) Z Z (fun h1=>?_) (fun h1=>?_) ?_
 ·
  replace h2:=gN h1 h2; refine Ev.is JC 13 h1 Z (Ev.cs bZ 3 Z (Ev.run Z Z Z Z Z Z Z (AO.bf (i:=1) Z Z Z BO Z Z zg) (Ev.cs bZ 3 Z ?_))); refine Ev.run Z Z Z Z Z Z Z (AO.bf (i:=1) Z Z Z Au Z Z zg) ?_; refine B1 h2 fun e1 h3 h2=>Ev.run Z Z Z Z Z Z Z (AO.bR h3 Z Z Z Z oC (aN.aQ _) Z zg) (Ev.cs bZ 1 Z ?_); refine BR h2 fun x1 h4 h2=>?_; refine Ev.run Z Z Z Z Z Z Z (AO.call Z _ Z Z KA (AQ _ h4 zg)) ?_; cases h2; refine Ev.cs bZ 1 Z ?_; exact Ev.nil (Less.settle (ps:=[25,0,2]) Z)
 · replace h2:=gJ h1 h2; refine Ev.is JC 13 h1 Z ?_; cases h2; refine Ev.cs bZ 12 Z ?_; exact Ev.nil (Less.settle (ps:=[25,0,2]) Z)
 refine Ev.nil ?_; show AR _ _ _ _ _ _ _ _; refine J 0 Z (C hf Z (fun h5 hf=>?_) fun h5 hf=>?_)
 ·
  refine V 0 Z (AW.draw 10 mixed (by kernel_rfl) Z ?_); refine Ev.cs bZ 3 Z (Ev.cons Z Z Z (AO.bf (i:=1) Z Z Z BO Z Z zg) (Ev.cs bZ 3 Z (Ev.cons Z Z Z (AO.bf (i:=1) Z Z Z Au Z Z zg) ?_))); refine B1 hf fun e2 h6 hf=>Ev.cons Z Z Z (AO.bR h6 Z Z Z Z oC (aN.aQ _) Z zg) (Ev.cs bZ 1 Z (Ev.nil ?_)); show AR _ _ _ _ _ _ _ _; cases hf; exact Rx 1 [0] rfl rfl ⟨rfl,_,⟨_,_,rfl,⟨_,_,0,_,_,rfl,rfl,Eo,rfl⟩,rfl⟩,_,(.cons _ (.cons_cons _ (List.nil_sublist _))),h⟩
 cases hf; exact Wx 2 [0] rfl rfl ⟨rfl,_,⟨_,_,rfl,⟨_,_,0,_,_,rfl,rfl,Eo,rfl⟩,rfl⟩,_,(.cons _ (.cons_cons _ (List.nil_sublist _))),h⟩
theorem vv (p1:Nat) (gM:ah) (op1:Str) {r0:Bool} {j4:ah} (hf:l9 gM op1=some (r0,j4)) {Q:bV→List aC→Prop} (h:Q (.ret (.bool r0)) [.box p1 (aL j4)]):PC 233 [pP p1,.str op1] [.box p1 (aL gM)] Q:=by
 unfold l9 at hf; refine BD 17 [.tmp 4] [0,1] Tryz.func233 Z Z Z Z Z ?_; obtain ⟨x1,y1,h1,hf⟩:=bE hf; refine W 2 Z (CL Z (AC.one 0 Z (jL _ _ h1 ⟨_,Z,(AS Z (AO.aK Z pR (fun b5=>(Rr 5 [0,0] Z Z (AR.and 5 11 16 [] (x:=(x1.text == op1)) Z Z (fun h2=>?_) (fun h2=>?_) ?_)))))⟩)))
 · refine Is 11 h2 Z (U 1 Z (GO Z (AO.bf (i:=0) Z Z Z FJ Z Z ?_))); exact fO 3 Z (En [16] Z)
 · refine Is 11 h2 Z ?_; exact fO 5 Z (En [16] Z)
 cases hf; exact N 1 rfl ⟨rfl,_,⟨_,_,rfl,rfl,rfl⟩,_,(.cons _ (.cons_cons _ (List.nil_sublist _))),h⟩
theorem bT (p1:Nat) (gM:ah) (op1:Str) {r0:Bool} {j4:ah} (hf:bL gM op1=some (r0,j4)) {Q:bV→List aC→Prop} (h:Q (.ret (.bool r0)) [.box p1 (aL j4)]):PC 185 [pP p1,.str op1] [.box p1 (aL gM)] Q:=by
 unfold bL at hf; refine BD 16 [.tmp 4] [0,1] Tryz.func185 Z Z Z Z Z ?_; obtain ⟨x1,y1,h1,hf⟩:=bE hf; refine W 3 Z (CL Z (AC.one 0 Z (vv _ _ _ h1 ⟨_,Z,(J 1 Z (C hf Z (fun h2 hf=>?_) fun h2 hf=>?_))⟩)))
 · cases hf; exact M 1 rfl ⟨rfl,_,⟨_,_,rfl,rfl,rfl⟩,_,(.cons_cons _ (List.nil_sublist _)),h⟩
 cases hf; exact Wx 9 [0,0] rfl rfl ⟨rfl,_,⟨_,_,rfl,rfl,rfl⟩,_,(.cons_cons _ (List.nil_sublist _)),h⟩
@[reducible] def rZ :gB au aN→bV
 | .ok r=>.ret (.agg (qo r))
 | .bad e=>.panic (.iface 207 (.agg (gI e)))
theorem iq (p1:Nat) (gM:ah) {rX:gB au aN} {j4:ah} (hf:iT gM=some (rX,j4)) {Q:bV→List aC→Prop} (h:Q (rZ rX) [.box p1 (aL j4)]):PC 234 [pP p1] [.box p1 (aL gM)] Q:=by
 unfold iT at hf; refine BD 24 [.cell 2 146] [0] Tryz.func234 Z Z Z Z Z (W 0 Z (AS Z (AO.aK Z pR (fun b2=>(J 0 Z (AW.draw 10 mixed (by kernel_rfl) Z ?_)))))); refine Ev.cs bZ 3 Z (Ev.cons Z Z Z (AO.bf (i:=1) Z Z Z Au Z Z zg) (Ev.cs bZ 3 Z (Ev.cons Z Z Z (AO.bf (i:=1) Z Z Z BO Z Z zg) ?_))); refine Ev.cons Z Z Z (AO.aP (l:=gM.ts) Z Z Z Z oC Z Z zg) (Ev.cs bZ 1 Z (Ev.nil ?_)); show AR _ _ _ _ _ _ _ _; refine J 0 Z (C hf Z (fun h1 hf=>?_) fun h1 hf=>?_)
 · exact aR hf
 obtain ⟨x1,y1,h2,hf⟩:=bE hf; refine W 1 Z (CL Z (AC.one 1 Z (jL _ _ h2 ⟨_,Z,(AS Z (AO.aK Z pR (fun b3=>(Rw 4 [0,0] Z Z (C hf Z (fun h3 hf=>?_) fun h3 hf=>?_)))))⟩)))
 · exact aR hf
 cases hf; exact Wx 2 [0,1] rfl rfl ⟨rfl,_,⟨_,_,rfl,⟨_,_,1,_,_,rfl,rfl,Eo,rfl⟩,rfl⟩,_,(.cons _ (.cons _ (.cons_cons _ (List.nil_sublist _)))),h⟩
theorem p9 (s1:Str) {r0:Bool} (hf:m_ s1=some r0) (h:Q (.ret (.bool r0)) τ):PC 272 [.str s1] τ Q:=by
 unfold m_ at hf; refine BN 13 [.tmp 2] [0] Tryz.func272 Z Z Z Z Z (W 4 Z (On 3 5 8 [0] (s1 == ([102,97,108,115,101]:Str)) Z Z Z Z (U 1 Z (On 3 9 12 [] (s1 == ([110,117,108,108]:Str)) Z Z Z Z ?_)))); cases hf; exact N 1 Z (Y Z h)
@[reducible] def r9 :gB au ak→bV
 | .ok r=>.ret (.agg (bY r))
 | .bad e=>.panic (.iface 207 (.agg (gI e)))
theorem ni (p1:Nat) (gM:ah) (s1:Str) {rX:gB au ak} {j4:ah} (hf:kH gM s1=some (rX,j4)) {Q:bV→List aC→Prop} (h:Q (r9 rX) [.box p1 (aL j4)]):PC 341 [pP p1,.str s1] [.box p1 (aL gM)] Q:=by
 unfold kH at hf; refine BD 26 [.cell 4 111] [0,1] Tryz.func341 Z Z Z Z Z (W 0 Z (AS Z (AO.aK Z gP (fun b4=>(J 3 Z (C hf Z (fun h1 hf=>?_) fun h1 hf=>?_))))))
 · exact aR hf
 refine B1 hf fun x1 h2 hf=>W 1 Z (CL Z (p9 _ h2 (J 1 Z (C hf Z (fun h3 hf=>?_) fun h3 hf=>?_))))
 · exact aR hf
 obtain ⟨x2,y1,h4,hf⟩:=bE hf; refine W 1 Z (CL Z (AC.one 1 Z (bT _ _ _ h4 ⟨_,Z,(J 1 Z (C hf Z (fun h5 hf=>?_) fun h5 hf=>?_))⟩)))
 · exact aR hf
 cases hf; exact Wx 3 [0] rfl rfl ⟨rfl,_,⟨_,_,rfl,⟨_,_,0,_,_,rfl,rfl,iN,rfl⟩,rfl⟩,_,(.cons _ (.cons_cons _ (List.nil_sublist _))),h⟩
theorem pF (op1:Str) {r0:Int} (hf:kr op1=some r0) (h:Q (.ret (iP r0)) τ):PC 232 [.str op1] τ Q:=by
 unfold kr at hf; refine BN 22 [.tmp 2] [0] Tryz.func232 Z Z Z Z Z (V 4 Z (C hf Z (fun h1 hf=>?_) fun h1 hf=>?_))
 · cases hf; exact M 1 Z (Y Z h)
 refine V 2 Z (C hf Z (fun h2 hf=>?_) fun h2 hf=>?_)
 · cases hf; exact M 1 Z (Y Z h)
 refine V 2 Z (C hf Z (fun h3 hf=>?_) fun h3 hf=>?_)
 ·
  refine V 0 Z (AW.cond Z (fun h4=>?_) (fun h4=>?_))
  · cases hf; exact M 1 Z (Y Z h)
  cases h3.symm.trans h4
 refine V 2 Z (C hf Z (fun h5 hf=>?_) fun h5 hf=>?_)
 ·
  refine V 0 Z (AW.cond Z (fun h6=>?_) (fun h6=>?_))
  · cases hf; exact M 1 Z (Y Z h)
  cases h5.symm.trans h6
 refine V 2 Z (C hf Z (fun h7 hf=>?_) fun h7 hf=>?_)
 ·
  refine V 0 Z (AW.cond Z (fun h8=>?_) (fun h8=>?_))
  · cases hf; exact M 1 Z (Y Z h)
  cases h7.symm.trans h8
 refine V 2 Z (C hf Z (fun h9 hf=>?_) fun h9 hf=>?_)
 ·
  refine V 0 Z (AW.cond Z (fun h10=>?_) (fun h10=>?_))
  · cases hf; exact M 1 Z (Y Z h)
  cases h9.symm.trans h10
 refine V 2 Z (C hf Z (fun h11 hf=>?_) fun h11 hf=>?_)
 ·
  refine V 0 Z (AW.cond Z (fun h12=>?_) (fun h12=>?_))
  · cases hf; exact M 1 Z (Y Z h)
  cases h11.symm.trans h12
 refine V 2 Z (C hf Z (fun wO hf=>?_) fun wO hf=>?_)
 · cases hf; exact M 1 Z (Y Z h)
 refine V 2 Z (C hf Z (fun rY hf=>?_) fun rY hf=>?_)
 ·
  refine V 0 Z (AW.cond Z (fun xM=>?_) (fun xM=>?_))
  · cases hf; exact M 1 Z (Y Z h)
  cases rY.symm.trans xM
 refine V 2 Z (C hf Z (fun h16 hf=>?_) fun h16 hf=>?_)
 · cases hf; exact M 1 Z (Y Z h)
 refine V 2 Z (C hf Z (fun Bv hf=>?_) fun Bv hf=>?_)
 ·
  refine V 0 Z (AW.cond Z (fun h18=>?_) (fun h18=>?_))
  · cases hf; exact M 1 Z (Y Z h)
  cases Bv.symm.trans h18
 refine V 2 Z (C hf Z (fun h19 hf=>?_) fun h19 hf=>?_)
 ·
  refine V 0 Z (AW.cond Z (fun h20=>?_) (fun h20=>?_))
  · cases hf; exact M 1 Z (Y Z h)
  cases h19.symm.trans h20
 refine V 2 Z (C hf Z (fun h21 hf=>?_) fun h21 hf=>?_)
 · cases hf; exact M 1 Z (Y Z h)
 cases hf; exact M 1 Z (Y Z h)
@[reducible] def gT :gB au ak→bV
 | .ok r=>.ret (.agg (bY r))
 | .bad e=>.panic (.iface 207 (.agg (gI e)))
@[reducible] def gQ :gB au ak→bV
 | .ok r=>.ret (.agg (bY r))
 | .bad e=>.panic (.iface 207 (.agg (gI e)))
@[reducible] def ji :gB au ak→bV
 | .ok r=>.ret (.agg (bY r))
 | .bad e=>.panic (.iface 207 (.agg (gI e)))
@[reducible] def jk :gB au ak→bV
 | .ok r=>.ret (.agg (bY r))
 | .bad e=>.panic (.iface 207 (.agg (gI e)))
@[reducible] def jC :gB au ak→bV
 | .ok r=>.ret (.agg (bY r))
 | .bad e=>.panic (.iface 207 (.agg (gI e)))
abbrev cO (aA:ah→Option (gB au ak × ah)):Prop:=∀ (mQ:Nat) (dY:ah) {eD:gB au ak} {fK:ah},aA dY=some (eD,fK)→∀ {Q:bV→List aC→Prop} (h:Q (gT eD) [.box mQ (aL fK)]),PC 145 [pP mQ] [.box mQ (aL dY)] Q
abbrev cK (ay:ah→Int→Option (gB au ak × ah)):Prop:=∀ (mQ:Nat) (dY:ah) (Gu:Int) {eD:gB au ak} {fK:ah},ay dY Gu=some (eD,fK)→∀ {Q:bV→List aC→Prop} (h:Q (gQ eD) [.box mQ (aL fK)]),PC 184 [pP mQ,iP Gu] [.box mQ (aL dY)] Q
abbrev dU (aD:ah→Option (gB au ak × ah)):Prop:=∀ (mQ:Nat) (dY:ah) {eD:gB au ak} {fK:ah},aD dY=some (eD,fK)→∀ {Q:bV→List aC→Prop} (h:Q (ji eD) [.box mQ (aL fK)]),PC 230 [pP mQ] [.box mQ (aL dY)] Q
abbrev dV (aF:ah→Option (gB au ak × ah)):Prop:=∀ (mQ:Nat) (dY:ah) {eD:gB au ak} {fK:ah},aF dY=some (eD,fK)→∀ {Q:bV→List aC→Prop} (h:Q (jk eD) [.box mQ (aL fK)]),PC 267 [pP mQ] [.box mQ (aL dY)] Q
abbrev eG (aM:ah→Option (gB au ak × ah)):Prop:=∀ (mQ:Nat) (dY:ah) {eD:gB au ak} {fK:ah},aM dY=some (eD,fK)→∀ {Q:bV→List aC→Prop} (h:Q (jC eD) [.box mQ (aL fK)]),PC 307 [pP mQ] [.box mQ (aL dY)] Q
theorem oQ (aA) (bn:cO aA) (ay) (bg:cK ay) (aD) (bP:dU aD) (aF) (dF:dV aF) (aM) (dP:eG aM) (p1:Nat) (gM:ah) {rX:gB au ak} {j4:ah} (hf:gV aA ay aD aF aM gM=some (rX,j4)) {Q:bV→List aC→Prop} (h:Q (gT rX) [.box p1 (aL j4)]):PC 145 [pP p1] [.box p1 (aL gM)] Q:=by
 unfold gV at hf; refine BD 23 [.cell 2 111] [0] Tryz.func145 Z Z Z Z Z (W 0 Z (AS Z (AO.aK Z gP (fun b2=>?_)))); rcases eZ hf with ⟨e1,y2,h1,hf⟩ | ⟨x1,y1,h1,hf⟩
 · refine U 1 Z (CL Z (AC.one 1 Z (bg _ _ _ h1 ⟨_,Z,?_⟩))); cases hf; exact ⟨rfl,_,(.cons _ (.cons_cons _ (List.nil_sublist _))),h⟩
 refine U 1 Z (CL Z (AC.one 1 Z (bg _ _ _ h1 ⟨_,Z,(AS Z (AO.aK Z gP (fun b3=>?_)))⟩))); obtain ⟨x2,y3,h2,hf⟩:=bE hf; refine Rr 2 [0] Z Z (CL Z (AC.one 2 Z (bT _ _ _ h2 ⟨_,Z,(J 1 Z (C hf Z (fun h3 hf=>?_) fun h3 hf=>?_))⟩)))
 · cases hf; exact Wx 2 [0,1] rfl rfl ⟨rfl,_,⟨_,_,rfl,⟨_,_,1,_,_,rfl,rfl,iN,rfl⟩,rfl⟩,_,(.cons _ (.cons _ (.cons_cons _ (List.nil_sublist _)))),h⟩
 rcases eZ hf with ⟨e2,y5,h4,hf⟩ | ⟨x3,y4,h4,hf⟩
 · refine W 1 Z (CL Z (AC.one 2 Z (bn _ _ h4 ⟨_,Z,?_⟩))); cases hf; exact ⟨rfl,_,(.cons _ (.cons _ (.cons_cons _ (List.nil_sublist _)))),h⟩
 refine W 1 Z (CL Z (AC.one 2 Z (bn _ _ h4 ⟨_,Z,(AS Z (AO.aK Z gP (fun b4=>?_)))⟩))); exact aR hf
theorem oP (aA) (bn:cO aA) (ay) (bg:cK ay) (aD) (bP:dU aD) (aF) (dF:dV aF) (aM) (dP:eG aM) (p1:Nat) (gM:ah) (n1:Int) {rX:gB au ak} {j4:ah} (hf:gU aA ay aD aF aM gM n1=some (rX,j4)) {Q:bV→List aC→Prop} (h:Q (gQ rX) [.box p1 (aL j4)]):PC 184 [pP p1,iP n1] [.box p1 (aL gM)] Q:=by
 unfold gU at hf; refine BD 47 [.cell 4 111] [0,1] Tryz.func184 Z Z Z Z Z (W 0 Z (AS Z (AO.aK Z gP (fun b4=>(J 2 Z (C hf Z (fun h1 hf=>?_) fun h1 hf=>?_))))))
 ·
  rcases eZ hf with ⟨e1,y2,h2,hf⟩ | ⟨x1,y1,h2,hf⟩
  · refine W 1 Z (CL Z (AC.one 1 Z (bP _ _ h2 ⟨_,Z,?_⟩))); cases hf; exact ⟨rfl,_,(.cons _ (.cons_cons _ (List.nil_sublist _))),h⟩
  refine W 1 Z (CL Z (AC.one 1 Z (bP _ _ h2 ⟨_,Z,?_⟩))); cases hf; exact Rx 1 [0] rfl rfl ⟨rfl,_,⟨_,_,rfl,⟨_,_,0,_,_,rfl,rfl,iN,rfl⟩,rfl⟩,_,(.cons _ (.cons_cons _ (List.nil_sublist _))),h⟩
 rcases eZ hf with ⟨e2,y4,h3,hf⟩ | ⟨x2,y3,h3,hf⟩
 · refine W 3 Z (CL Z (AC.one 1 Z (bg _ _ _ h3 ⟨_,Z,?_⟩))); cases hf; exact ⟨rfl,_,(.cons _ (.cons_cons _ (List.nil_sublist _))),h⟩
 refine W 3 Z (CL Z (AC.one 1 Z (bg _ _ _ h3 ⟨_,Z,(AS Z (AO.aK Z gP (fun b5=>?_)))⟩))); refine Rw 1 [0] Z Z (EU (fun e3 y5=>[(0,pP p1),(1,iP n1),(4,pP b4),(5,pP b5)]) (fun e3 y5=>[.box b5 (bY e3),.box b4 [iP 0,.str ([]:Str),iP 0,.bool false,iP 0,.str ([]:Str),.own (.slice none 0 0) [],.own (.slice none 0 0) [],.own (.slice none 0 0) [],.own (.slice none 0 0) []],.box p1 (aL y5)]) (fun bQ e3 y5=>eX ay n1 bQ e3 y5=some (rX,j4)) BIG x2 y3 Z Z hf (fun _ _ hz=>aR hz) ?_); intro bQ e3 y5 hf; rw [eX] at hf; obtain ⟨x3,y6,h4,hf⟩:=bE hf; refine W 1 Z (CL Z (AC.one 2 Z (jL _ _ h4 ⟨_,Z,(AS Z (AO.aK Z pR (fun b6=>?_)))⟩))); refine B1 hf fun b1 h6 hf=>Rr 5 [0,0] Z Z (AR.fA 6 20 26 false [0,1,4,5,6] b1 Z Z (fun h5=>?_) (fun h5=>?_) ?_)
 · replace h6:=gJ h5 h6; refine Is 20 h5 Z (U 1 Z (GO Z (AO.bf (i:=0) Z Z Z FJ Z Z ?_))); refine B1 h6 fun x4 h7 h6=>GO Z (AO.call Z _ Z Z KE (pF _ h7 ?_)); cases h6; exact fO 3 Z (En [26,0,1,4,5,6] Z)
 · refine IT 20 h5 h6 Z fun h6=>?_; cases h6; exact fO 6 Z (En [26,0,1,4,5,6] Z)
 refine J 0 Z (C hf Z (fun h8 hf=>?_) fun h8 hf=>?_)
 · cases hf; exact Wx 2 [1,2] rfl rfl ⟨rfl,_,⟨_,_,rfl,⟨_,_,2,_,_,rfl,rfl,iN,rfl⟩,rfl⟩,_,(.cons _ (.cons _ (.cons _ (.cons_cons _ (List.nil_sublist _))))),h⟩
 refine Ww 8 [3,3] Z Z (AW.Ir 0 6 8 3 mixed (by kernel_rfl) (by kernel_rfl) (by kernel_rfl) Z Z Z Z ?_); refine Ev.nil ?_; show Ev _ _ _ _ _ _ _; refine Ev.cs bZ 1 Z (Ev.cons Z Z Z (AO.bf (i:=0) Z Z Z FJ Z Z zg) (Ev.cons Z Z Z (AO.bf (i:=1) Z Z Z iN Z Z zg) (Ev.cs bZ 3 Z ?_))); refine Ev.nil ?_; rcases eZ hf with ⟨e4,y8,h9,hf⟩ | ⟨x5,y7,h9,hf⟩
 · refine TF.step Z Z Z (AO.call Z _ Z Z Hz (AC.one 0 Z (bg _ _ _ h9 ⟨_,Z,?_⟩))); cases hf; exact ⟨rfl,_,(.cons _ (.cons _ (.cons _ (.cons_cons _ (List.nil_sublist _))))),h⟩
 refine TF.step rfl rfl rfl (AO.call rfl _ rfl rfl Hz (AC.one 0 rfl (bg _ _ _ h9 ⟨_,rfl,(TF.step rfl rfl rfl (AO.cu (ak.cZ [e3,x5]) rfl Eu rfl rfl rfl (by first | rfl | simp only [List.map,ak.aQ,ak.cZ]) ?_))⟩))); refine TF.nil ?_; show AR _ _ _ _ _ _ _ _
 refine Rw 4 [1] Z Z (C hf Z (fun h10 hf=>?_) fun h10 hf=>?_)
 · cases hf; exact Wx 2 [1,2] rfl rfl ⟨rfl,_,⟨_,_,rfl,⟨_,_,2,_,_,rfl,rfl,iN,rfl⟩,rfl⟩,_,(.cons _ (.cons _ (.cons _ (.cons_cons _ (List.nil_sublist _))))),h⟩
 refine AW.drop1 (AW.GL 0 Z ?_); exact M 0 Z ⟨(ak.mk 7 x3.text (aj.mk 0 false 0 ([]:Str) [] []) [e3,x5] []),y7,Z,Z,Z,hf⟩
theorem rU (aA) (bn:cO aA) (ay) (bg:cK ay) (aD) (bP:dU aD) (aF) (dF:dV aF) (aM) (dP:eG aM) (p1:Nat) (gM:ah) {rX:gB au ak} {j4:ah} (hf:jl aA ay aD aF aM gM=some (rX,j4)) {Q:bV→List aC→Prop} (h:Q (ji rX) [.box p1 (aL j4)]):PC 230 [pP p1] [.box p1 (aL gM)] Q:=by
 unfold jl at hf; refine BD 22 [.cell 2 111] [0] Tryz.func230 Z Z Z Z Z (W 0 Z (AS Z (AO.aK Z gP (fun b2=>(U 0 Z (AS Z (AO.cu (List.map kF ([([33]:Str),([45]:Str)]:List Str)) Z Hq Z Z Z Z (AS Z (AO.aP (l:=([([33]:Str),([45]:Str)]:List Str)) Z Z Z Z iJ Z Z ?_))))))))); refine J 1 Z (EU (fun x1 y1=>[(0,pP p1),(2,pP b2),(5,sP (([([33]:Str),([45]:Str)]:List Str))),(6,iP (([([33]:Str),([45]:Str)]:List Str).length:Int)),(7,iP x1)]) (fun x1 y1=>[.box b2 [iP 0,.str ([]:Str),iP 0,.bool false,iP 0,.str ([]:Str),.own (.slice none 0 0) [],.own (.slice none 0 0) [],.own (.slice none 0 0) [],.own (.slice none 0 0) []],.box p1 (aL y1)]) (fun bQ x1 y1=>fT aD aF bQ x1 y1=some (rX,j4)) BIG 0 gM Z Z hf (fun _ _ hz=>aR hz) ?_); intro bQ x1 y1 hf; rw [fT] at hf; refine V 1 Z (C hf Z (fun h1 hf=>?_) fun h1 hf=>?_)
 ·
  refine B1 hf fun op1 h2 hf=>W 0 Z (AS Z (AO.bR h2 Z Z Z Z iJ Z Z ?_)); obtain ⟨x2,y2,h3,hf⟩:=bE hf; refine U 4 Z (CL Z (AC.one 1 Z (bT _ _ _ h3 ⟨_,Z,(J 0 Z (C hf Z (fun h4 hf=>?_) fun h4 hf=>?_))⟩)))
  ·
   rcases eZ hf with ⟨e1,y4,h5,hf⟩ | ⟨x3,y3,h5,hf⟩
   · refine W 2 Z (CL Z (AC.one 1 Z (bP _ _ h5 ⟨_,Z,?_⟩))); cases hf; exact ⟨rfl,_,(.cons _ (.cons_cons _ (List.nil_sublist _))),h⟩
   refine W 2 rfl (CL rfl (AC.one 1 rfl (bP _ _ h5 ⟨_,rfl,(AS rfl (AO.cu (ak.cZ [x3]) rfl Eu rfl rfl rfl (by first | rfl | simp only [List.map,ak.aQ,ak.cZ]) ?_))⟩))); cases hf; exact Rx 2 [0] rfl rfl ⟨rfl,_,⟨_,_,rfl,⟨_,_,0,_,_,rfl,rfl,iN,rfl⟩,rfl⟩,_,(.cons _ (.cons_cons _ (List.nil_sublist _))),h⟩
  exact M 2 Z ⟨(bW (x1 + 1)),y2,Z,Z,Z,hf⟩
 rcases eZ hf with ⟨e2,y6,h6,hf⟩ | ⟨x4,y5,h6,hf⟩
 · refine W 1 Z (CL Z (AC.one 1 Z (dF _ _ h6 ⟨_,Z,?_⟩))); cases hf; exact ⟨rfl,_,(.cons _ (.cons_cons _ (List.nil_sublist _))),h⟩
 refine W 1 Z (CL Z (AC.one 1 Z (dF _ _ h6 ⟨_,Z,?_⟩))); cases hf; exact Rx 1 [0] rfl rfl ⟨rfl,_,⟨_,_,rfl,⟨_,_,0,_,_,rfl,rfl,iN,rfl⟩,rfl⟩,_,(.cons _ (.cons_cons _ (List.nil_sublist _))),h⟩
theorem rV (aA) (bn:cO aA) (ay) (bg:cK ay) (aD) (bP:dU aD) (aF) (dF:dV aF) (aM) (dP:eG aM) (p1:Nat) (gM:ah) {rX:gB au ak} {j4:ah} (hf:jm aA ay aD aF aM gM=some (rX,j4)) {Q:bV→List aC→Prop} (h:Q (jk rX) [.box p1 (aL j4)]):PC 267 [pP p1] [.box p1 (aL gM)] Q:=by
 unfold jm at hf; refine BD 47 [.cell 2 111] [0] Tryz.func267 Z Z Z Z Z (W 0 Z (AS Z (AO.aK Z gP (fun b2=>?_)))); rcases eZ hf with ⟨e1,y2,h1,hf⟩ | ⟨x1,y1,h1,hf⟩
 · refine U 1 Z (CL Z (AC.one 1 Z (dP _ _ h1 ⟨_,Z,?_⟩))); cases hf; exact ⟨rfl,_,(.cons _ (.cons_cons _ (List.nil_sublist _))),h⟩
 refine U 1 Z (CL Z (AC.one 1 Z (dP _ _ h1 ⟨_,Z,(AS Z (AO.aK Z gP (fun b3=>?_)))⟩))); refine Rw 1 [0] Z Z (EU (fun e2 y3=>[(0,pP p1),(2,pP b2),(3,pP b3)]) (fun e2 y3=>[.box b3 (bY e2),.box b2 [iP 0,.str ([]:Str),iP 0,.bool false,iP 0,.str ([]:Str),.own (.slice none 0 0) [],.own (.slice none 0 0) [],.own (.slice none 0 0) [],.own (.slice none 0 0) []],.box p1 (aL y3)]) (fun bQ e2 y3=>fU aA bQ e2 y3=some (rX,j4)) BIG x1 y1 Z Z hf (fun _ _ hz=>aR hz) ?_); intro bQ e2 y3 hf; rw [fU] at hf; obtain ⟨x2,y4,h2,hf⟩:=bE hf; refine W 1 Z (CL Z (AC.one 2 Z (bT _ _ _ h2 ⟨_,Z,(J 1 Z (C hf Z (fun h3 hf=>?_) fun h3 hf=>?_))⟩)))
 ·
  rcases eZ hf with ⟨e3,y6,h4,hf⟩ | ⟨x3,y5,h4,hf⟩
  · refine W 1 Z (CL Z (AC.one 2 Z (iq _ _ h4 ⟨_,Z,?_⟩))); cases hf; exact ⟨rfl,_,(.cons _ (.cons _ (.cons_cons _ (List.nil_sublist _)))),h⟩
  refine W 1 Z (CL Z (AC.one 2 Z (iq _ _ h4 ⟨_,Z,(AS Z (AO.aK Z pR (fun b4=>?_)))⟩))); refine B1 hf fun b1 h6 hf=>Rr 5 [0,0] Z Z (AR.fA 4 17 21 false [0,2,3,4] b1 Z Z (fun h5=>?_) (fun h5=>?_) ?_)
  · replace h6:=gJ h5 h6; refine Is 17 h5 Z (U 1 Z (GO Z (AO.bf (i:=0) Z Z Z FJ Z Z ?_))); refine BR h6 fun x4 h7 h6=>?_; refine GO Z (AO.call Z _ Z Z Hy (p9 _ h7 ?_)); cases h6; exact fO 1 Z (En [21,0,2,3,4] Z)
  · refine IT 17 h5 h6 Z fun h6=>?_; cases h6; exact fO 4 Z (En [21,0,2,3,4] Z)
  refine J 0 Z (C hf Z (fun h8 hf=>?_) fun h8 hf=>?_)
  · exact aR hf
  refine Wr 11 [3,3,0,1] rfl rfl (AS rfl (AO.cu (ak.cZ [e2]) rfl Eu rfl rfl rfl (by first | rfl | simp only [List.map,ak.aQ,ak.cZ]) ?_)); refine Rn 2 [1] Z Z (AR.drop1 (AR.GL 0 Z ?_)); exact N 0 Z ⟨(ak.mk 3 x3.text (aj.mk 0 false 0 ([]:Str) [] []) [e2] []),(ah.mk y5.ts (bW (y5.at_ + 1))),Z,Z,Z,hf⟩
 obtain ⟨x5,y7,h9,hf⟩:=bE hf; refine W 1 Z (CL Z (AC.one 2 Z (bT _ _ _ h9 ⟨_,Z,(J 1 Z (C hf Z (fun h10 hf=>?_) fun h10 hf=>?_))⟩)))
 ·
  rcases eZ hf with ⟨e4,y9,h11,hf⟩ | ⟨x6,y8,h11,hf⟩
  · refine W 1 Z (CL Z (AC.one 2 Z (bn _ _ h11 ⟨_,Z,?_⟩))); cases hf; exact ⟨rfl,_,(.cons _ (.cons _ (.cons_cons _ (List.nil_sublist _)))),h⟩
  refine W 1 Z (CL Z (AC.one 2 Z (bn _ _ h11 ⟨_,Z,(AS Z (AO.aK Z gP (fun b5=>?_)))⟩))); exact aR hf
 cases hf; exact Wx 2 [0,1] rfl rfl ⟨rfl,_,⟨_,_,rfl,⟨_,_,1,_,_,rfl,rfl,iN,rfl⟩,rfl⟩,_,(.cons _ (.cons _ (.cons_cons _ (List.nil_sublist _)))),h⟩
theorem r_ (aA) (bn:cO aA) (ay) (bg:cK ay) (aD) (bP:dU aD) (aF) (dF:dV aF) (aM) (dP:eG aM) (p1:Nat) (gM:ah) {rX:gB au ak} {j4:ah} (hf:jE aA ay aD aF aM gM=some (rX,j4)) {Q:bV→List aC→Prop} (h:Q (jC rX) [.box p1 (aL j4)]):PC 307 [pP p1] [.box p1 (aL gM)] Q:=by
 unfold jE at hf; refine BD 77 [.cell 2 111] [0] Tryz.func307 Z Z Z Z Z (W 0 Z (AS Z (AO.aK Z gP (fun b2=>?_)))); rcases eZ hf with ⟨e1,y2,h1,hf⟩ | ⟨x1,y1,h1,hf⟩
 · refine U 1 Z (CL Z (AC.one 1 Z (iq _ _ h1 ⟨_,Z,?_⟩))); cases hf; exact ⟨rfl,_,(.cons _ (.cons_cons _ (List.nil_sublist _))),h⟩
 refine U 1 Z (CL Z (AC.one 1 Z (iq _ _ h1 ⟨_,Z,(AS Z (AO.aK Z pR (fun b3=>(Rw 5 [0,0] Z Z (C hf Z (fun h2 hf=>?_) fun h2 hf=>?_)))))⟩)))
 · exact aR hf
 refine V 2 Z (C hf Z (fun h3 hf=>?_) fun h3 hf=>?_)
 · exact aR hf
 refine V 2 Z (C hf Z (fun h4 hf=>?_) fun h4 hf=>?_)
 ·
  rcases eZ hf with ⟨e2,y4,h5,hf⟩ | ⟨x2,y3,h5,hf⟩
  · refine Wr 11 [2,2,0] Z Z (CL Z (AC.one 2 Z (ni _ _ _ h5 ⟨_,Z,?_⟩))); cases hf; exact ⟨rfl,_,(.cons _ (.cons _ (.cons_cons _ (List.nil_sublist _)))),h⟩
  refine Wr 11 [2,2,0] Z Z (CL Z (AC.one 2 Z (ni _ _ _ h5 ⟨_,Z,?_⟩))); cases hf; exact Rx 1 [1] rfl rfl ⟨rfl,_,⟨_,_,rfl,⟨_,_,1,_,_,rfl,rfl,iN,rfl⟩,rfl⟩,_,(.cons _ (.cons _ (.cons_cons _ (List.nil_sublist _)))),h⟩
 obtain ⟨x3,y5,h6,hf⟩:=bE hf; refine W 1 Z (CL Z (AC.one 2 Z (bT _ _ _ h6 ⟨_,Z,(J 1 Z (C hf Z (fun h7 hf=>?_) fun h7 hf=>?_))⟩)))
 ·
  rcases eZ hf with ⟨e3,y7,h8,hf⟩ | ⟨x4,y6,h8,hf⟩
  · refine W 1 Z (CL Z (AC.one 2 Z (bn _ _ h8 ⟨_,Z,?_⟩))); cases hf; exact ⟨rfl,_,(.cons _ (.cons _ (.cons_cons _ (List.nil_sublist _)))),h⟩
  refine W 1 Z (CL Z (AC.one 2 Z (bn _ _ h8 ⟨_,Z,(AS Z (AO.aK Z gP (fun b6=>?_)))⟩))); exact aR hf
 obtain ⟨x5,y8,h9,hf⟩:=bE hf; refine W 1 Z (CL Z (AC.one 2 Z (bT _ _ _ h9 ⟨_,Z,(J 1 Z (C hf Z (fun h10 hf=>?_) fun h10 hf=>?_))⟩)))
 · exact aR hf
 obtain ⟨x6,y9,h11,hf⟩:=bE hf; refine W 1 Z (CL Z (AC.one 2 Z (bT _ _ _ h11 ⟨_,Z,(J 1 Z (C hf Z (fun h12 hf=>?_) fun h12 hf=>?_))⟩)))
 · exact aR hf
 exact aR hf
theorem dQ :∀ k:Nat,(cO (aW k))∧(cK (aV k))∧(dU (bA k))∧(dV (bB k))∧(eG (bC k)):=by
 intro k
 induction k with
 | zero=>exact ⟨fun _ _ _ _ hz=>by first | cases hz | (unfold aW at hz; cases hz),fun _ _ _ _ _ hz=>by first | cases hz | (unfold aV at hz; cases hz),fun _ _ _ _ hz=>by first | cases hz | (unfold bA at hz; cases hz),fun _ _ _ _ hz=>by first | cases hz | (unfold bB at hz; cases hz),fun _ _ _ _ hz=>by first | cases hz | (unfold bC at hz; cases hz)⟩
 | succ k ih=>exact ⟨fun mQ dY eD fK hz  Q hq=>oQ (aW k) ih.1 (aV k) ih.2.1 (bA k) ih.2.2.1 (bB k) ih.2.2.2.1 (bC k) ih.2.2.2.2 mQ dY hz hq,fun mQ dY Gu eD fK hz  Q hq=>oP (aW k) ih.1 (aV k) ih.2.1 (bA k) ih.2.2.1 (bB k) ih.2.2.2.1 (bC k) ih.2.2.2.2 mQ dY Gu hz hq,fun mQ dY eD fK hz  Q hq=>rU (aW k) ih.1 (aV k) ih.2.1 (bA k) ih.2.2.1 (bB k) ih.2.2.2.1 (bC k) ih.2.2.2.2 mQ dY hz hq,fun mQ dY eD fK hz  Q hq=>rV (aW k) ih.1 (aV k) ih.2.1 (bA k) ih.2.2.1 (bB k) ih.2.2.2.1 (bC k) ih.2.2.2.2 mQ dY hz hq,fun mQ dY eD fK hz  Q hq=>r_ (aW k) ih.1 (aV k) ih.2.1 (bA k) ih.2.2.1 (bB k) ih.2.2.2.1 (bC k) ih.2.2.2.2 mQ dY hz hq⟩
theorem jV (mQ:Nat) (dY:ah) {eD:gB au ak} {fK:ah} (hf:kS dY=some (eD,fK)) {Q:bV→List aC→Prop} (h:Q (gT eD) [.box mQ (aL fK)]):PC 145 [pP mQ] [.box mQ (aL dY)] Q:=
 ((dQ BIG).1) mQ dY hf h
theorem Ap (mQ:Nat) (dY:ah) (Gu:Int) {eD:gB au ak} {fK:ah} (hf:qj dY Gu=some (eD,fK)) {Q:bV→List aC→Prop} (h:Q (gQ eD) [.box mQ (aL fK)]):PC 184 [pP mQ,iP Gu] [.box mQ (aL dY)] Q:=
 ((dQ BIG).2.1) mQ dY Gu hf h
theorem C8 (mQ:Nat) (dY:ah) {eD:gB au ak} {fK:ah} (hf:uo dY=some (eD,fK)) {Q:bV→List aC→Prop} (h:Q (ji eD) [.box mQ (aL fK)]):PC 230 [pP mQ] [.box mQ (aL dY)] Q:=
 ((dQ BIG).2.2.1) mQ dY hf h
theorem C9 (mQ:Nat) (dY:ah) {eD:gB au ak} {fK:ah} (hf:uq dY=some (eD,fK)) {Q:bV→List aC→Prop} (h:Q (jk eD) [.box mQ (aL fK)]):PC 267 [pP mQ] [.box mQ (aL dY)] Q:=
 ((dQ BIG).2.2.2.1) mQ dY hf h
theorem D6 (mQ:Nat) (dY:ah) {eD:gB au ak} {fK:ah} (hf:uX dY=some (eD,fK)) {Q:bV→List aC→Prop} (h:Q (jC eD) [.box mQ (aL fK)]):PC 307 [pP mQ] [.box mQ (aL dY)] Q:=
 ((dQ BIG).2.2.2.2) mQ dY hf h
theorem AU (El:List aN) {r0:ak} {r1 r2:Int} (hf:sN El=some (r0,r1,r2)) (h:Q (.ret (.tuple [.agg (bY r0),iP r1,iP r2])) τ):PC 112 [.list (List.map aN.cells El)] τ Q:=by
 unfold sN at hf; refine AC.none (AC.xJ 17 [.cell 2 111,.cell 3 3,.cell 4 30] [0] [0,1,2] Tryz.func112 Z Z Z Z Z Tryz.func144 Z Z Z Z Z Z Z KR (AW.sr (AR.step Z Z Z (AO.aK Z gP (fun b2=>?_))))); refine AR.step Z Z Z (AO.aK Z Nc (fun b3=>(AR.step Z Z Z (AO.aK Z GI (fun b4=>(AR.nil [0,2,3,4] Z (AW.sr ?_))))))); refine cs 1 Z (AR.step Z Z Z (AO.build Z Kl Jp Z (AR.step Z Z Z (AO.JK Z Z (fun b8=>(cs 1 Z ?_)))))); refine AR.nil [2,3,4,5] Z (AW.sr (cs 1 Z (AR.defer (vs:=[.pointer (some ⟨b2,0,none⟩),.pointer (some ⟨b3,0,none⟩),.pointer (some ⟨b4,0,none⟩)]) Z Z Z Z Z Z ?_))); refine AR.nil [2,3,4,5] Z (AW.sr (cs 1 Z ?_)); rcases eZ hf with ⟨f1,s1,h1,hf⟩ | ⟨e1,s1,h1,hf⟩
 ·
  refine AR.step Z Z Z (AO.call Z _ Z Z HY (AC.one 0 Z (jV _ _ h1 ⟨_,Z,?_⟩))); cases hf; refine ⟨[.pointer (some ⟨b2,0,none⟩),.pointer (some ⟨b3,0,none⟩),.pointer (some ⟨b4,0,none⟩)],_,Z,Z,Z,(AR.step Z Z Z (AO.EY Z Z Jj (cs 3 Z (AR.step Z Z Z (AO.aK Z GK (fun b5=>?_))))))⟩; refine AR.aS Z Z (AO.bG (i:=0) Z Z Z G7 Z Z Z Z Z (cs 1 Z (AR.nil [0,1,2,3,4] Z (AW.sr ?_)))); refine cs 1 Z (AR.nil [0,1,2,3,10] Z (AW.cond Z (fun _=>?_) (fun hh=>by cases hh))); refine AW.Iq 1 5 7 [_] [_,_,_,_] mixed (by kernel_rfl) (by kernel_rfl) (by kernel_rfl) Z Z Z (List.Perm.refl _) ?_; refine Ev.cons Z Z Z (AO.build Z gP Fa Z zg) (Ev.nil ?_); show Ev _ _ _ _ _ _ _; refine Ev.cs bZ 1 Z (Ev.cons Z Z Z (AO.bf (i:=0) Z Z Z Au Z Z zg) (Ev.cs bZ 1 Z (Ev.cons Z Z Z (AO.bf (i:=0) Z Z Z oV Z Z zg) ?_))); refine Ev.nil (TF.aS Z Z (AO.bG (i:=3) Z Z Z iN Z Z Z Z Z (TF.aS Z Z (AO.bG (i:=2) Z Z Z Au Z Z Z Z Z (TF.nil ?_))))); show AR _ _ _ _ _ _ _ _; refine AR.aS Z Z (AO.bG (i:=2) Z Z Z oV Z Z Z Z Z (AR.nil [] Z ?_)); exact ⟨rfl,_,⟨_,_,rfl,⟨_,_,4,_,_,rfl,rfl,iN,rfl⟩,⟨_,_,rfl,⟨_,_,3,_,_,rfl,rfl,Au,rfl⟩,⟨_,_,rfl,⟨_,_,2,_,_,rfl,rfl,oV,rfl⟩,rfl⟩⟩⟩,[],List.nil_sublist _,h⟩
 refine AR.step Z Z Z (AO.call Z _ Z Z HY (AC.one 0 Z (jV _ _ h1 ⟨_,Z,?_⟩))); cases hf; refine AR.aS Z Z (AO.bG (i:=3) Z Z Z iN Z Z Z Z Z (AR.nil [2,3,4,5] Z (AW.seq (AW.Ir 1 5 6 3 mixed (by kernel_rfl) (by kernel_rfl) (by kernel_rfl) Z Z Z Z ?_)))); refine Ev.cons Z Z Z (AO.bf (i:=3) Z Z Z iN Z Z zg) (Ev.nil ?_); show Ev _ _ _ _ _ _ _; refine Ev.cs bZ 3 Z (Ev.cons Z Z Z (AO.bf (i:=0) Z Z Z Au Z Z zg) (Ev.nil (TF.aS Z Z (AO.bG (i:=0) Z Z Z iN Z Z Z Z Z ?_)))); refine TF.nil ?_; show AR _ _ _ _ _ _ _ _; refine AR.aS Z Z (AO.bG (i:=2) Z Z Z Au Z Z Z Z Z (AR.aS Z Z (AO.bG (i:=1) Z Z Z oV Z Z Z Z Z (AR.nil [2,3,4] Z (AW.ret ?_))))); refine ⟨[.pointer (some ⟨b2,0,none⟩),.pointer (some ⟨b3,0,none⟩),.pointer (some ⟨b4,0,none⟩)],_,Z,Z,Z,(AR.step Z Z Z (AO.Di (p:=.agg [iP 0,iP 0]) Z Z Jl (fun _ _=>by simp only [aY]; exact ⟨[.int .i64 0,.int .i64 0],Z,aI.cons (by simp [aY]) (aI.cons (by simp [aY]) aI.nil)⟩) ?_))⟩; refine cs 3 Z (AR.step Z Z Z (AO.aK Z GK (fun b5=>(AR.aS Z Z (AO.bG (i:=0) Z Z Z G7 Z Z Z Z Z (cs 1 Z ?_)))))); refine AR.nil [4] Z (AW.sr (cs 1 Z (AR.nil [10] Z ?_))); refine AW.cond Z (fun hh=>by cases hh) (fun _=>?_); refine AW.skip ?_; exact ⟨rfl,_,⟨_,_,rfl,⟨_,_,4,_,_,rfl,rfl,iN,rfl⟩,⟨_,_,rfl,⟨_,_,3,_,_,rfl,rfl,Au,rfl⟩,⟨_,_,rfl,⟨_,_,2,_,_,rfl,rfl,oV,rfl⟩,rfl⟩⟩⟩,[],List.nil_sublist _,h⟩
abbrev tX (dK:ak→Option Int):Prop:=∀ (rF:ak) {iE:Int},dK rF=some iE→∀ {τ:List aC} {Q:bV→List aC→Prop} (h:Q (.ret (iP iE)) τ),PC 121 [.agg (bY rF)] τ Q
theorem yP (dK) (wV:tX dK) (e1:ak) {r0:Int} (hf:nY dK e1=some r0) (h:Q (.ret (iP r0)) τ):PC 121 [.agg (bY e1)] τ Q:=by
 unfold nY at hf; refine BN 19 [.tmp 2] [0] Tryz.func121 Z Z Z Z Z (W 5 Z (AS Z (AO.aP (l:=e1.args) Z Z Z Z lS Z (ak.bH _) (J 1 Z (EU (fun n1 x1=>[(3,iP n1),(7,.list (ak.cZ e1.args)),(8,iP (e1.args.length:Int)),(9,iP x1)]) (fun n1 x1=>[]) (fun bQ n1 x1=>ku dK e1 bQ n1 x1=some r0) BIG 1 0 Z Z hf (fun _ _ hz=>aR hz) ?_))))); intro bQ n1 x1 hf; rw [ku] at hf; refine V 1 Z (C hf Z (fun h1 hf=>?_) fun h1 hf=>?_)
 · refine B1 hf fun e2 h2 hf=>W 0 Z (AS Z (AO.bR h2 Z Z (ak.bH _) Z lS (ak.aQ _) Z (U 1 Z (AS Z (AO.aK Z gP (fun b5=>?_)))))); refine B1 hf fun x2 h3 hf=>Rr 3 [0,0] Z Z (CL Z (wV _ h3 (fO 4 Z (AR.drop1 ?_)))); exact N 0 Z ⟨(bW (n1 + x2)),(bW (x1 + 1)),Z,Z,Z,hf⟩
 cases hf; exact M 2 Z (Y Z h)
theorem zw :∀ k:Nat,(tX (jF k)):=by
 intro k
 induction k with
 | zero=>exact fun _ _ hz=>by first | cases hz | (unfold jF at hz; cases hz)
 | succ k ih=>exact fun rF iE hz τ Q hq=>yP (jF k) ih rF hz hq
theorem z_ (rF:ak) {iE:Int} (hf:vR rF=some iE) (h:Q (.ret (iP iE)) τ):PC 121 [.agg (bY rF)] τ Q:=
 ((zw BIG)) rF hf h
theorem AP (v1:aj) {r0:Bool} (hf:sK v1=some r0) (h:Q (.ret (.bool r0)) τ):PC 192 [.agg (bJ v1)] τ Q:=by
 unfold sK at hf; refine BN 33 [.tmp 2] [0] Tryz.func192 Z Z Z Z Z (W 6 Z (An 4 6 10 [1] (!v1.jW) Z Z Z Z (U 1 Z (An 4 11 15 [1] (v1.ng == 0) Z Z Z Z (U 1 Z (An 4 16 20 [1] (v1.l7 == ([]:Str)) Z Z Z Z ?_)))))); refine U 1 Z (AR.and 5 21 26 [1] (x:=((v1.dS.length:Int) == 0)) Z Z (fun h4=>?_) (fun h4=>?_) ?_)
 · refine Is 21 h4 Z (U 2 Z (GO Z (AO.aP (l:=v1.dS) Z Z Z Z uL Z (aj.bH _) ?_))); exact fO 2 Z (En [26,1] Z)
 · refine Is 21 h4 Z ?_; exact fO 5 Z (En [26,1] Z)
 refine U 1 Z (AR.and 5 27 32 [] (x:=((v1.keys.length:Int) == 0)) Z Z (fun h5=>?_) (fun h5=>?_) ?_)
 · refine Is 27 h5 Z (U 2 Z (GO Z (AO.aP (l:=v1.keys) Z Z Z Z iJ Z Z ?_))); exact fO 2 Z (En [32] Z)
 · refine Is 27 h5 Z ?_; exact fO 5 Z (En [32] Z)
 cases hf; exact N 1 Z (Y Z h)
theorem oF (s1:Str) {r0:Bool} (hf:lq s1=some r0) (h:Q (.ret (.bool r0)) τ):PC 238 [.str s1] τ Q:=by
 unfold lq at hf; refine BN 10 [.tmp 2] [0] Tryz.func238 Z Z Z Z Z ?_; refine B1 hf fun x1 h1 hf=>W 2 Z (CL Z (uN _ h1 ?_)); refine BR hf fun b1 h3 hf=>?_; refine U 1 Z (AR.fA 4 5 9 true [] b1 Z Z (fun h2=>?_) (fun h2=>?_) ?_)
 · refine IT 5 h2 h3 Z fun h3=>?_; refine B1 h3 fun x2 h4 h3=>U 1 Z (GO Z (AO.call Z _ Z Z Hy (p9 _ h4 ?_))); cases h3; exact fO 2 Z (En [9] Z)
 · refine IF 5 h2 h3 Z fun h3=>?_; cases h3; exact fO 4 Z (En [9] Z)
 cases hf; exact N 1 Z (Y Z h)
theorem zW (e1:ak) {r0:Bool} (hf:qL e1=some r0) (h:Q (.ret (.bool r0)) τ):PC 193 [.agg (bY e1)] τ Q:=by
 unfold qL at hf; refine BN 31 [.tmp 2] [0] Tryz.func193 Z Z Z Z Z (V 6 Z (C hf Z (fun h1 hf=>?_) fun h1 hf=>?_))
 ·
  refine V 0 Z (AW.cond Z (fun h2=>?_) (fun h2=>?_))
  · refine BR hf fun x1 h3 hf=>?_; refine W 2 Z (CL Z (oF _ h3 ?_)); cases hf; exact N 1 Z (Y Z h)
  cases h1.symm.trans h2
 refine V 2 Z (C hf Z (fun h4 hf=>?_) fun h4 hf=>?_)
 ·
  refine V 0 Z (AW.cond Z (fun h5=>?_) (fun h5=>?_))
  · refine BR hf fun x2 h6 hf=>?_; refine W 2 Z (CL Z (oF _ h6 ?_)); cases hf; exact N 1 Z (Y Z h)
  cases h4.symm.trans h5
 refine V 2 Z (C hf Z (fun h7 hf=>?_) fun h7 hf=>?_)
 · refine BR hf fun x3 h8 hf=>?_; refine W 2 Z (CL Z (oF _ h8 ?_)); cases hf; exact N 1 Z (Y Z h)
 refine V 2 Z (C hf Z (fun h9 hf=>?_) fun h9 hf=>?_)
 · refine W 4 Z (On 4 17 21 [] (e1.name == ([45]:Str)) Z Z Z Z ?_); cases hf; exact N 1 Z (Y Z h)
 refine V 2 Z (C hf Z (fun h11 hf=>?_) fun h11 hf=>?_)
 · refine B1 hf fun x4 h12 hf=>W 2 Z (CL Z (pF _ h12 ?_)); cases hf; exact N 2 Z (Y Z h)
 cases hf; exact M 4 Z (Y Z h)
theorem zZ (e1:ak) {r0:Bool} (hf:qO e1=some r0) (h:Q (.ret (.bool r0)) τ):PC 194 [.agg (bY e1)] τ Q:=by
 unfold qO at hf; refine BN 32 [.tmp 2] [0] Tryz.func194 Z Z Z Z Z (V 6 Z (C hf Z (fun h1 hf=>?_) fun h1 hf=>?_))
 ·
  refine V 0 Z (AW.cond Z (fun h2=>?_) (fun h2=>?_))
  · refine W 2 Z (AS Z (AO.aP (l:=e1.args) Z Z Z Z lS Z (ak.bH _) ?_)); cases hf; exact N 2 Z (Y Z h)
  cases h1.symm.trans h2
 refine V 2 Z (C hf Z (fun h3 hf=>?_) fun h3 hf=>?_)
 · refine W 2 Z (AS Z (AO.aP (l:=e1.args) Z Z Z Z lS Z (ak.bH _) ?_)); cases hf; exact N 2 Z (Y Z h)
 refine V 2 Z (C hf Z (fun h4 hf=>?_) fun h4 hf=>?_)
 ·
  refine V 0 Z (AW.cond Z (fun h5=>?_) (fun h5=>?_))
  · refine W 2 Z (AS Z (AO.aP (l:=e1.args) Z Z Z Z lS Z (ak.bH _) ?_)); cases hf; exact N 2 Z (Y Z h)
  cases h4.symm.trans h5
 refine V 2 Z (C hf Z (fun h6 hf=>?_) fun h6 hf=>?_)
 · refine W 2 Z (AS Z (AO.aP (l:=e1.args) Z Z Z Z lS Z (ak.bH _) ?_)); cases hf; exact N 2 Z (Y Z h)
 refine V 2 Z (C hf Z (fun h7 hf=>?_) fun h7 hf=>?_)
 ·
  refine V 0 Z (AW.cond Z (fun h8=>?_) (fun h8=>?_))
  · refine W 2 Z (AS Z (AO.aP (l:=e1.args) Z Z Z Z lS Z (ak.bH _) ?_)); cases hf; exact N 2 Z (Y Z h)
  cases h7.symm.trans h8
 refine V 2 Z (C hf Z (fun h9 hf=>?_) fun h9 hf=>?_)
 · refine W 2 Z (AS Z (AO.aP (l:=e1.args) Z Z Z Z lS Z (ak.bH _) ?_)); cases hf; exact N 2 Z (Y Z h)
 refine V 2 Z (C hf Z (fun h10 hf=>?_) fun h10 hf=>?_)
 · refine W 2 Z (AS Z (AO.aP (l:=e1.args) Z Z Z Z lS Z (ak.bH _) ?_)); cases hf; exact N 2 Z (Y Z h)
 cases hf; exact M 1 Z (Y Z h)
theorem kK (s1:List Str) (f1:Str→Option Bool) (Cv:FuncId) (EJ:List PV) (Lg:aU Tryz.prog Cv=true) (Lh:∀ a0 b0,f1 a0=some b0→∀ {τ:List aC} {Q:bV→List aC→Prop},Q (.ret (.bool b0)) τ→PC Cv ([.str a0] ++ EJ) τ Q) {r0:Int} (hf:eU s1 f1=some r0) (h:Q (.ret (iP r0)) τ):PC 273 [sP s1,.fn Cv EJ] τ Q:=by
 unfold eU at hf; refine BN 19 [.tmp 4] [0,1] Tryz.func273 Z Z Z Z Z (W 2 Z (AS Z (AO.aP (l:=s1) Z Z Z Z iJ Z Z (J 1 Z (GA (fun i1=>[(0,sP s1),(1,.fn Cv EJ),(7,iP (s1.length:Int)),(8,iP i1)]) (fun i1=>[]) (fun bQ i1=>b_ s1 f1 bQ i1=some r0) BIG 0 Z Z hf (fun _ hz=>aR hz) ?_))))); intro bQ i1 hf; rw [b_] at hf; refine V 1 Z (C hf Z (fun h1 hf=>?_) fun h1 hf=>?_)
 ·
  refine B1 hf fun e1 h2 hf=>W 5 Z (AS Z (AO.bR h2 Z Z Z Z iJ Z Z ?_)); refine B1 hf fun x1 h3 hf=>U 1 Z (AS Z (AO.call Z _ Z Z Lg (Lh _ _ h3 (J 0 Z (C hf Z (fun h4 hf=>?_) fun h4 hf=>?_)))))
  · cases hf; exact M 2 Z (Y Z h)
  exact M 2 Z ⟨(bW (i1 + 1)),Z,Z,Z,hf⟩
 cases hf; exact M 1 Z (Y Z h)
theorem jT (s1:List Str) (f1:Str→Option Bool) (Cv:FuncId) (EJ:List PV) (Lg:aU Tryz.prog Cv=true) (Lh:∀ a0 b0,f1 a0=some b0→∀ {τ:List aC} {Q:bV→List aC→Prop},Q (.ret (.bool b0)) τ→PC Cv ([.str a0] ++ EJ) τ Q) {r0:Bool} (hf:dW s1 f1=some r0) (h:Q (.ret (.bool r0)) τ):PC 239 [sP s1,.fn Cv EJ] τ Q:=by
 unfold dW at hf; refine BN 9 [.tmp 4] [0,1] Tryz.func239 Z Z Z Z Z ?_; refine B1 hf fun x1 h1 hf=>W 3 Z (CL Z (kK _ f1 Cv EJ Lg @Lh h1 ?_)); cases hf; exact N 2 Z (Y Z h)
theorem xg (Cn:Str) {r0:Bool} (hf:lC Cn=some r0) (h:Q (.ret (.bool r0)) τ):PC 240 [.str Cn] τ Q:=by
 unfold lC at hf; refine BN 11 [.tmp 2] [0] Tryz.func240 Z Z Z Z Z (W 2 Z (AS Z (AO.dA Z Z Z Z dL Z (U 2 Z (AR.or 4 6 10 [] (x:=(decide (64 < (Cn.length:Int)))) Z Z (fun h1=>?_) (fun h1=>?_) ?_)))))
 · refine Is 6 h1 Z (U 1 Z (GO Z (AO.dA Z Z Z Z dL Z ?_))); exact fO 2 Z (En [10] Z)
 · refine Is 6 h1 Z ?_; exact fO 4 Z (En [10] Z)
 cases hf; exact N 1 Z (Y Z h)
theorem zX (e1:ak) {r0:Bool} (hf:qM e1=some r0) (h:Q (.ret (.bool r0)) τ):PC 195 [.agg (bY e1)] τ Q:=by
 unfold qM at hf; refine BN 23 [.tmp 2] [0] Tryz.func195 Z Z Z Z Z (V 5 Z (C hf Z (fun h1 hf=>?_) fun h1 hf=>?_))
 · refine W 2 Z (AS Z (AO.aP (l:=e1.keys) Z Z Z Z iJ Z Z ?_)); cases hf; exact N 2 Z (Y Z h)
 refine W 2 Z (AS Z (AO.aP (l:=e1.keys) Z Z Z Z iJ Z Z (U 2 Z (AS Z (AO.aP (l:=e1.args) Z Z Z Z lS Z (ak.bH _) ?_))))); refine BR hf fun b1 h3 hf=>?_; refine U 2 Z (AR.fA 5 17 22 true [] b1 Z Z (fun h2=>?_) (fun h2=>?_) ?_)
 · refine IT 17 h2 h3 Z fun h3=>?_; refine B1 h3 fun x1 h4 h3=>U 2 Z (GO Z (AO.call Z _ Z Z KD (jT _ lC 240 [] KC (fun _ _ hz=>xg _  hz) h4 ?_))); cases h3; exact fO 2 Z (En [22] Z)
 · refine IF 17 h2 h3 Z fun h3=>?_; cases h3; exact fO 5 Z (En [22] Z)
 cases hf; exact N 1 Z (Y Z h)
theorem BH {β:Type} (l:Nat) (T:β→List aC) (go:β→aj→Int→Option (Bool × β))
  (Ow:∀ s1 v1 bq b s2,go s1 v1 bq=some (b,s2)→∀ {Q:bV→List aC→Prop},Q (.ret (.bool b)) (T s2)→PC 156 [.agg (bJ v1),iP bq,.val (.func (.yield l) #[] #[])] (T s1) Q)
  (y:β→Int→aj→Option (Bool × β)) (hy:∀ s1 bq v1 b s2,y s1 bq v1=some (b,s2)→AY Tryz.prog l [iP bq,.agg (bJ v1)] (T s1) (fun out σ'=>out=.ret (.bool b)∧σ'=T s2))
  (s1:β) (v1:aj) (bq:Int) {b:Bool} {s2:β} (hf:qF go y s1 v1 bq=some (b,s2)) {Q:bV→List aC→Prop} (h:Q (.ret (.bool b)) (T s2)):
  PC 156 [.agg (bJ v1),iP bq,.val (.func (.yield l) #[] #[])] (T s1) Q:=by
 unfold qF at hf; refine AC.fH 28 [.tmp 6] [0,1,2] Tryz.func156 Z Z Z Z Z (AW.sr (AR.step Z Z Z (AO.wL Z Z Z (cs 1 Z ?_)))); refine AR.nil [1,2,3] Z (AW.seq (AW.seq (AW.Fq ?_))); refine qE.step Z Z Z Z (AO.calc' Z (qE.step Z Z Z Z (AO.calc' Z (qE.step Z Z Z Z (AO.sS Z Z qd Z ?_))))); obtain ⟨b1,s3,h1,hf⟩:=bE hf; refine qE.yield Z Z Z Z Z _ Z Z (hy _ _ _ _ _ h1) (qE.of Z (cs 1 Z (AR.nil [1,2,3,13] Z ?_))); refine AW.cond Z (fun h2=>?_) (fun h2=>?_)
 · replace hf:=gN h2 hf; refine AW.sr (cs 1 Z (AR.nil [6] Z (AW.ret ?_))); cases hf; exact ⟨rfl,_,⟨_,_,rfl,rfl,rfl⟩,_,List.Sublist.refl _,h⟩
 replace hf:=gJ h2 hf; refine AW.skip (AW.seq (AW.sr (cs 2 Z ?_))); refine AR.step Z Z Z (AO.aP (l:=v1.dS) Z Z Z Z uL Z ((aj.bH _)) (cs 1 Z (AR.nil [1,2,15,16,17] Z (AW.block ?_)))); refine AW.Ic (fun (_:β) i1=>[(1,iP bq),(2,.val (.func (.yield l) #[] #[])),(15,.list (aj.cZ v1.dS)),(16,iP (v1.dS.length:Int)),(17,iP i1)]) (fun s1 _=>T s1) (fun bQ s1 i1=>mO go v1 bq bQ s1 i1=some (b,s2)) BIG s3 0 Z Z hf (fun _ _ hz=>aR hz) ?_; intro bQ s4 i1 hf; rw [mO] at hf; refine AW.sr (cs 1 Z (AR.nil [1,2,15,16,17,18] Z (AW.seq ?_))); refine AW.cond Z (fun h1=>?_) (fun h1=>?_)
 ·
  replace hf:=gN h1 hf; refine AW.skip (AW.seq (AW.block (AW.sr ?_))); refine B1 hf fun x1 h3 hf=>AR.step Z Z Z (AO.bR h3 Z Z ((aj.bH _)) Z uL ((aj.aQ _)) Z (cs 1 Z (AR.step Z Z Z (AO.aK Z nU (fun b8=>(AR.aS Z Z (AO.bG (i:=0) Z Z Z qd Z Z Z Z Z ?_))))))); refine AR.nil [1,2,8,15,16,17] Z (AW.sr (AR.step Z Z Z (AO.bf (i:=0) Z Z Z qd Z Z (cs 3 Z ?_)))); obtain ⟨b2,s5,h4,hf⟩:=bE hf; refine AR.drop1 (AR.step Z Z Z (AO.call Z _ Z Z KP (Ow _ _ _ _ _ h4 (cs 1 Z (AR.nil [1,2,15,16,17,26] Z ?_))))); refine AW.cond Z (fun h5=>?_) (fun h5=>?_)
  · replace hf:=gN h5 hf; refine AW.sr (cs 1 Z (AR.nil [6] Z (AW.ret ?_))); cases hf; exact ⟨rfl,_,⟨_,_,rfl,rfl,rfl⟩,_,List.Sublist.refl _,h⟩
  replace hf:=gJ h5 hf; refine AW.skip (AW.region (cs 2 Z (AR.nil [1,2,15,16,17] Z ?_))); exact ⟨s5,(bW (i1 + 1)),Z,Z,Z,hf⟩
 replace hf:=gJ h1 hf; refine AW.exit (AW.sr (cs 1 Z (AR.nil [6] Z ?_))); refine AW.ret ?_; cases hf; exact ⟨rfl,_,⟨_,_,rfl,rfl,rfl⟩,_,List.Sublist.refl _,h⟩
theorem vS {β:Type} (l:Nat) (T:β→List aC) (y:β→Int→aj→Option (Bool × β)) (hy:∀ s1 bq v1 b s2,y s1 bq v1=some (b,s2)→AY Tryz.prog l [iP bq,.agg (bJ v1)] (T s1) (fun out σ'=>out=.ret (.bool b)∧σ'=T s2)):
  ∀ (k:Nat) (s1:β) (v1:aj) (bq:Int) (b:Bool) (s2:β),nJ y k s1 v1 bq=some (b,s2)→∀ {Q:bV→List aC→Prop},Q (.ret (.bool b)) (T s2)→PC 156 [.agg (bJ v1),iP bq,.val (.func (.yield l) #[] #[])] (T s1) Q
 | 0,_,_,_,_,_,hz=>by cases hz
 | k + 1,s1,v1,bq,b,s2,hz=>fun h=>BH l T (nJ y k) (fun s1 v1 bq b s2 hz=>vS l T y hy k s1 v1 bq b s2 hz) y hy s1 v1 bq hz h
theorem yj {β:Type} (l:Nat) (T:β→List aC) (y:β→Int→aj→Option (Bool × β)) (hy:∀ s1 bq v1 b s2,y s1 bq v1=some (b,s2)→AY Tryz.prog l [iP bq,.agg (bJ v1)] (T s1) (fun out σ'=>out=.ret (.bool b)∧σ'=T s2))
    (s1:β) (v1:aj) (bq:Int) {b:Bool} {s2:β} (hf:yQ y s1 v1 bq=some (b,s2)) {Q:bV→List aC→Prop} (h:Q (.ret (.tuple [])) (T s2)):
    PC 155 [.val (.func (.yield l) #[] #[]),.ref (bJ v1),.ref [iP bq]] (T s1) Q:=by
 refine BD 8 [] [0,1,2] Tryz.func155 Z Z Z Z Z (W 3 Z (CL Z (vS l T y hy BIG _ _ _ _ _ hf ?_))); exact N 0 rfl ⟨rfl,_,rfl,_,List.Sublist.refl _,h⟩
theorem AJ (v1:aj) (bq:Int) (h:Q (.ret (.fn 155 [.ref (bJ v1),.ref [iP bq]])) τ):PC 123 [.agg (bJ v1),iP bq] τ Q:=by
 refine BN 6 [.tmp 4] [0,1] Tryz.func123 Z Z Z Z Z ?_; exact M 5 Z (Y Z h)
theorem zU (v1:aj) {r0:Bool} (hf:qG v1=some r0) (h:Q (.ret (.bool r0)) τ):PC 157 [.agg (bJ v1)] τ Q:=by
 unfold qG at hf; refine BN 58 [.tmp 2] [0] Tryz.func157 Z Z Z Z Z (W 6 Z (On 4 6 10 [1] (!v1.jW) Z Z Z Z (U 1 Z (AR.and 9 11 20 [1] (x:=((v1.kind == 2) || (v1.ng == 0))) Z Z (fun h2=>?_) (fun h2=>?_) ?_))))
 · refine Is 11 h2 Z (U 4 Z (On 4 15 19 [1,11] (v1.ng == 0) Z Z Z Z ?_)); exact fO 1 Z (En [20,1] Z)
 · refine Is 11 h2 Z ?_; exact fO 9 Z (En [20,1] Z)
 refine U 1 Z (AR.and 9 21 30 [1] (x:=((v1.kind == 3) || (v1.l7 == ([]:Str)))) Z Z (fun h4=>?_) (fun h4=>?_) ?_)
 · refine Is 21 h4 Z (U 4 Z (On 4 25 29 [1,21] (v1.l7 == ([]:Str)) Z Z Z Z ?_)); exact fO 1 Z (En [30,1] Z)
 · refine Is 21 h4 Z ?_; exact fO 9 Z (En [30,1] Z)
 refine U 1 Z (AR.and 15 31 46 [1] (x:=(((v1.kind == 4) || (v1.kind == 5)) || ((v1.dS.length:Int) == 0))) Z Z (fun h6=>?_) (fun h6=>?_) ?_)
 ·
  refine Is 31 h6 Z (U 4 Z (On 4 35 39 [1,31] (v1.kind == 5) Z Z Z Z (U 1 Z (AR.or 5 40 45 [1,31] (x:=((v1.dS.length:Int) == 0)) Z Z (fun h8=>?_) (fun h8=>?_) ?_))))
  · refine Is 40 h8 Z (U 2 Z (GO Z (AO.aP (l:=v1.dS) Z Z Z Z uL Z (aj.bH _) ?_))); exact fO 2 Z (En [45,1,31] Z)
  · refine Is 40 h8 Z ?_; exact fO 5 Z (En [45,1,31] Z)
  exact fO 1 Z (En [46,1] Z)
 · refine Is 31 h6 Z ?_; exact fO 15 Z (En [46,1] Z)
 refine U 1 Z (AR.and 10 47 57 [] (x:=((v1.kind == 5) || ((v1.keys.length:Int) == 0))) Z Z (fun h9=>?_) (fun h9=>?_) ?_)
 ·
  refine Is 47 h9 Z (U 4 Z (AR.or 5 51 56 [47] (x:=((v1.keys.length:Int) == 0)) Z Z (fun h10=>?_) (fun h10=>?_) ?_))
  · refine Is 51 h10 Z (U 2 Z (GO Z (AO.aP (l:=v1.keys) Z Z Z Z iJ Z Z ?_))); exact fO 2 Z (En [56,47] Z)
  · refine Is 51 h10 Z ?_; exact fO 5 Z (En [56,47] Z)
  exact fO 1 Z (En [57] Z)
 · refine Is 47 h9 Z ?_; exact fO 10 Z (En [57] Z)
 cases hf; exact N 1 Z (Y Z h)
theorem yw (a1:Str) (b1:Str) {r0:Int} (hf:p8 a1 b1=some r0) (h:Q (.ret (iP r0)) τ):PC 197 [.str a1,.str b1] τ Q:=by
 unfold p8 at hf; refine BN 59 [.tmp 4] [0,1] Tryz.func197 Z Z Z Z Z (V 1 Z (EU (fun a2 b2=>[(0,.str a2),(1,.str b2)]) (fun a2 b2=>[]) (fun bQ a2 b2=>mq bQ a2 b2=some r0) BIG a1 b1 Z Z hf (fun _ _ hz=>aR hz) ?_)); intro bQ a2 b2 hf; rw [mq] at hf; refine W 3 Z (An 3 10 13 [0,1] (!(b2 == ([]:Str))) Z Z Z Z (J 0 Z (C hf Z (fun h2 hf=>?_) fun h2 hf=>?_)))
 · exact aR hf
 exact aR hf
theorem AL (v1:aj) {r0:Bool} (hf:sw v1=some r0) (h:Q (.ret (.bool r0)) τ):PC 158 [.agg (bJ v1)] τ Q:=by
 unfold sw at hf; refine BN 44 [.tmp 2] [0] Tryz.func158 Z Z Z Z Z (W 4 Z (AS Z (AO.aP (l:=v1.keys) Z Z Z Z iJ Z Z (U 2 Z (AS Z (AO.aP (l:=v1.dS) Z Z Z Z uL Z (aj.bH _) (J 1 Z (C hf Z (fun h1 hf=>?_) fun h1 hf=>?_))))))))
 · cases hf; exact M 1 Z (Y Z h)
 refine W 2 Z (AS Z (AO.aP (l:=v1.keys) Z Z Z Z iJ Z Z (J 1 Z (GA (fun i1=>[(1,.ref (bJ v1)),(13,sP v1.keys),(14,iP (v1.keys.length:Int)),(15,iP i1)]) (fun i1=>[]) (fun bQ i1=>kX v1 bQ i1=some r0) BIG 0 Z Z hf (fun _ hz=>aR hz) ?_)))); intro bQ i1 hf; rw [kX] at hf; refine V 1 Z (C hf Z (fun h2 hf=>?_) fun h2 hf=>?_)
 ·
  refine B1 hf fun Cn h3 hf=>W 1 Z (AS Z (AO.bR h3 Z Z Z Z iJ Z Z (U 4 Z (AS Z (AO.dA Z Z Z Z dL Z (U 2 Z (AR.or 4 23 27 [1,3,4,13,14,15] (x:=(decide (64 < (Cn.length:Int)))) Z Z (fun h4=>?_) (fun h4=>?_) ?_)))))))
  · refine Is 23 h4 Z (U 1 Z (GO Z (AO.dA Z Z Z Z dL Z ?_))); exact fO 2 Z (En [27,1,3,4,13,14,15] Z)
  · refine Is 23 h4 Z ?_; exact fO 4 Z (En [27,1,3,4,13,14,15] Z)
  refine B1 hf fun b1 h6 hf=>U 1 Z (AR.fA 14 28 42 false [1,13,14,15] b1 Z Z (fun h5=>?_) (fun h5=>?_) ?_)
  ·
   refine IF 28 h5 h6 Z fun h6=>?_; refine BR h6 fun b2 h8 h6=>?_; refine U 3 Z (AR.fA 10 31 41 true [1,13,14,15,28] b2 Z Z (fun h7=>?_) (fun h7=>?_) ?_)
   · refine IT 31 h7 h8 Z fun h8=>?_; refine B1 h8 fun e1 h9 h8=>U 4 Z (GO Z (AO.bR h9 Z Z Z Z iJ Z Z ?_)); refine B1 h8 fun x1 h10 h8=>U 2 Z (GO Z (AO.call Z _ Z Z KF (yw _ _ h10 ?_))); cases h8; exact fO 2 Z (En [41,1,13,14,15,28] Z)
   · refine IF 31 h7 h8 Z fun h8=>?_; cases h8; exact fO 10 Z (En [41,1,13,14,15,28] Z)
   cases h6; exact fO 1 Z (En [42,1,13,14,15] Z)
  · refine IT 28 h5 h6 Z fun h6=>?_; cases h6; exact fO 14 Z (En [42,1,13,14,15] Z)
  refine J 0 Z (C hf Z (fun h11 hf=>?_) fun h11 hf=>?_)
  · cases hf; exact M 1 Z (Y Z h)
  exact M 2 Z ⟨(bW (i1 + 1)),Z,Z,Z,hf⟩
 cases hf; exact M 1 Z (Y Z h)
theorem CJ (v1:aj) (bq:Int) {r0:Int} (hf:uT v1 bq=some r0) (h:Q (.ret (iP r0)) τ):PC 124 [.agg (bJ v1),iP bq] τ Q:=by
 unfold uT at hf; refine BN 78 [.tmp 4] [0,1] Tryz.func124 Z Z Z Z Z (W 6 Z (On 4 9 13 [1,2] (v1.kind == 5) Z Z Z Z (J 4 Z (C hf Z (fun h2 hf=>?_) fun h2 hf=>?_))))
 · cases hf; exact M 1 Z (Y Z h)
 refine W 4 Z (On 4 21 25 [1,2,5] (decide (5 < v1.kind)) Z Z Z Z ?_); refine B1 hf fun b1 h5 hf=>U 1 Z (AR.fA 4 26 30 false [1,2,5] b1 Z Z (fun h4=>?_) (fun h4=>?_) ?_)
 · refine IF 26 h4 h5 Z fun h5=>?_; refine B1 h5 fun x1 h6 h5=>U 1 Z (GO Z (AO.call Z _ Z Z KO (zU _ h6 ?_))); cases h5; exact fO 2 Z (En [30,1,2,5] Z)
 · refine IT 26 h4 h5 Z fun h5=>?_; cases h5; exact fO 4 Z (En [30,1,2,5] Z)
 refine J 1 Z (C hf Z (fun h7 hf=>?_) fun h7 hf=>?_)
 · cases hf; exact M 1 Z (Y Z h)
 refine W 4 Z (On 4 35 39 [1,2,5] (decide (9007199254740992 < v1.ng)) Z Z Z Z (J 1 Z (C hf Z (fun h9 hf=>?_) fun h9 hf=>?_)))
 · cases hf; exact M 1 Z (Y Z h)
 refine W 2 Z (AS Z (AO.dA Z Z Z Z dL Z (U 2 Z (AR.or 5 45 50 [1,2,5] (x:=(decide (1024 < (v1.dS.length:Int)))) Z Z (fun h10=>?_) (fun h10=>?_) ?_))))
 · refine Is 45 h10 Z (U 2 Z (GO Z (AO.aP (l:=v1.dS) Z Z Z Z uL Z (aj.bH _) ?_))); exact fO 2 Z (En [50,1,2,5] Z)
 · refine Is 45 h10 Z ?_; exact fO 5 Z (En [50,1,2,5] Z)
 refine U 1 Z (AR.or 5 51 56 [1,2,5] (x:=(decide (1024 < (v1.keys.length:Int)))) Z Z (fun h11=>?_) (fun h11=>?_) ?_)
 · refine Is 51 h11 Z (U 2 Z (GO Z (AO.aP (l:=v1.keys) Z Z Z Z iJ Z Z ?_))); exact fO 2 Z (En [56,1,2,5] Z)
 · refine Is 51 h11 Z ?_; exact fO 5 Z (En [56,1,2,5] Z)
 refine J 1 Z (C hf Z (fun h12 hf=>?_) fun h12 hf=>?_)
 · cases hf; exact M 1 Z (Y Z h)
 refine B1 hf fun b2 rY hf=>W 4 Z (AR.fA 4 61 65 true [1,2,5] b2 Z Z (fun wO=>?_) (fun wO=>?_) ?_)
 · refine IT 61 wO rY Z fun rY=>?_; refine B1 rY fun x2 xM rY=>U 1 Z (GO Z (AO.call Z _ Z Z KN (AL _ xM ?_))); cases rY; exact fO 2 Z (En [65,1,2,5] Z)
 · refine IF 61 wO rY Z fun rY=>?_; cases rY; exact fO 4 Z (En [65,1,2,5] Z)
 refine J 1 Z (C hf Z (fun h16 hf=>?_) fun h16 hf=>?_)
 · cases hf; exact M 1 Z (Y Z h)
 refine W 2 Z (AR.and 5 68 73 [1] (x:=((v1.dS.length:Int) == 0)) Z Z (fun Bv=>?_) (fun Bv=>?_) ?_)
 · refine Is 68 Bv Z (U 2 Z (GO Z (AO.aP (l:=v1.dS) Z Z Z Z uL Z (aj.bH _) ?_))); exact fO 2 Z (En [73,1] Z)
 · refine Is 68 Bv Z ?_; exact fO 5 Z (En [73,1] Z)
 refine U 1 Z (An 3 74 77 [] (bq == 16) Z Z Z Z (J 1 Z (C hf Z (fun h19 hf=>?_) fun h19 hf=>?_)))
 · cases hf; exact M 1 Z (Y Z h)
 cases hf; exact M 1 Z (Y Z h)
theorem mX (v1:aj) {r0:Int} (hf:kQ v1=some r0) (h:Q (.ret (iP r0)) τ):PC 98 [.agg (bJ v1)] τ Q:=by
 unfold kQ at hf; refine AC.none (AC.Aw 16 [.cell 2 30] [0] Tryz.func98 Z Z Z Z Z ?_); obtain ⟨b1,s1,h1,hf⟩:=bE hf; cases hf; refine AW.sr (AR.step Z Z Z (AO.wL Z Z Z (AR.step Z Z Z (AO.aK Z GI (fun b2=>(AR.nil [1,2] Z ?_)))))); refine AW.seq (AW.sr (cs 1 Z (AR.step Z Z Z (AO.call Z _ Z Z KV (AJ _ _ ?_))))); refine AR.nil [2,7] Z (AW.block (AW.rangeFunc (β:=Option Int) (X:=Int × aj) Z KQ (fun x=>[iP x.1,.agg (bJ x.2)]) (fun _=>Z) (by decide) (fun s x=>mP s x.1 x.2) (fun s=>[.box b2 [iP (s.getD 0)]]) (fun s=>s.map fun _=>.ret) (s0:=none) (s1:=s1) Z Z ?_ ?_ ?_))
 ·
  intro l T' hy; refine yj l T' mP (fun s1 bq v1 b s2 hh=>hy s1 (bq,v1) b s2 hh) none v1 1 h1 ⟨⟨_,Z⟩,Z⟩
 ·
  rintro l s ⟨bq,x1⟩ b s2 hh; unfold mP at hh; cases s with
  | some e=>cases hh
  | none=>
  refine ⟨Z,?_⟩; refine B1 hh fun e1 h2 hh=>?_; refine mY.seq (mY.region Z (cs 1 Z (AR.nil [2,3,9] Z ?_))); refine mY.region Z (AR.step Z Z Z (AO.aK Z nU (fun b4=>(AR.aS Z Z (AO.bG (i:=0) Z Z Z qd Z Z Z Z Z (AR.nil [2,3,4] Z ?_)))))); refine ⟨Z,(mY.block (mY.seq (mY.region Z ?_)))⟩; refine AR.step Z Z Z (AO.bf (i:=0) Z Z Z qd Z Z (cs 1 Z (AR.step Z Z Z (AO.call Z _ Z Z KU (CJ _ _ h2 (cs 1 Z ?_)))))); refine AR.nil [2,5] Z (mY.seq (mY.region Z (cs 2 Z ?_))); refine AR.nil [2,5,14] Z (mY.cond Z (fun h3=>?_) (fun h3=>?_))
  ·
   replace hh:=gN h3 hh; cases hh; refine mY.seq (mY.region Z (cs 1 Z (AR.aS Z Z (AO.bG (i:=1) Z Z Z oV Z Z Z Z Z ?_)))); refine AR.nil [] Z (mY.ret ?_); exact ⟨Z,.cons _ (List.Sublist.refl _),Z,Z⟩
  ·
   replace hh:=gJ h3 hh; cases hh; refine mY.skip ?_; exact ⟨Z,.cons _ (List.Sublist.refl _),Z,Z⟩
 ·
  intro D; cases s1 with
  | some e=>exact ⟨D,_,Z,Z,_,⟨_,_,Z,⟨_,_,0,_,_,Z,Z,oV,Z⟩,Z⟩,[],List.nil_sublist _,h⟩
  | none=>
   show AW _ _ _ _ _ _ _; refine AW.sr (AR.aS Z Z (AO.bG (i:=0) Z Z Z oV Z Z Z Z Z (AR.nil [2] Z (AW.ret ?_)))); exact ⟨D,[_],Z,Z,_,⟨_,_,Z,⟨_,_,0,_,_,Z,Z,oV,Z⟩,Z⟩,[],List.nil_sublist _,h⟩
theorem wE (l1:List Str) {r0:Bool} (hf:nu l1=some r0) (h:Q (.ret (.bool r0)) τ):PC 196 [sP l1] τ Q:=by
 unfold nu at hf; refine BN 22 [.tmp 2] [0] Tryz.func196 Z Z Z Z Z (W 1 Z (AS Z (AO.DI Z (fun m6=>(U 2 Z (AS Z (AO.aP (l:=l1) Z Z Z Z iJ Z Z (J 1 Z (EU (fun x1 y1=>[(3,.val (.map (some m6))),(7,sP l1),(8,iP (l1.length:Int)),(9,iP x1)]) (fun x1 y1=>[.obj m6 (kI y1)]) (fun bQ x1 y1=>iR l1 bQ x1 y1=some r0) BIG 0 [] Z Z hf (fun _ _ hz=>aR hz) ?_))))))))); intro bQ x1 y1 hf; rw [iR] at hf; refine V 1 Z (C hf Z (fun h1 hf=>?_) fun h1 hf=>?_)
 ·
  refine B1 hf fun s1 h2 hf=>W 0 Z (AS Z (AO.bR h2 Z Z Z Z iJ Z Z (U 4 Z (AS Z (AO.yD (i:=0) (l:=y1) Z Z Z Z wT dL Ja (U 1 Z (AR.aS Z Z (AO.zy (i:=0) (l:=y1) Z Z Z Z Z wT dL (U 2 Z (AS Z (AO.yD (i:=0) (l:=(pW y1 s1 (bW ((uw y1 s1) + 1)))) Z Z Z Z wT dL Ja ?_))))))))))); refine J 1 Z (C hf Z (fun h3 hf=>?_) fun h3 hf=>?_)
  · cases hf; exact M 1 Z (Y Z h)
  exact M 2 Z ⟨(bW (x1 + 1)),(pW y1 s1 (bW ((uw y1 s1) + 1))),Z,Z,Z,hf⟩
 cases hf; exact M 1 Z (Y Z h)
theorem AV (e1:ak) (bq:Int) {r0:Int} (hf:sO e1 bq=some r0) (h:Q (.ret (iP r0)) τ):PC 154 [.agg (bY e1),iP bq] τ Q:=by
 unfold sO at hf; refine BN 65 [.tmp 4] [0,1] Tryz.func154 Z Z Z Z Z (V 5 Z (C hf Z (fun h1 hf=>?_) fun h1 hf=>?_))
 · cases hf; exact M 1 Z (Y Z h)
 refine W 4 Z (On 4 12 16 [2] (decide (10 < e1.kind)) Z Z Z Z ?_); refine B1 hf fun b1 h4 hf=>U 1 Z (AR.fA 10 17 27 false [2] b1 Z Z (fun h3=>?_) (fun h3=>?_) ?_)
 ·
  refine IF 17 h3 h4 Z fun h4=>?_; refine BR h4 fun b2 h6 h4=>?_; refine U 4 Z (AR.fA 5 21 26 true [2,17] b2 Z Z (fun h5=>?_) (fun h5=>?_) ?_)
  · refine IT 21 h5 h6 Z fun h6=>?_; refine B1 h6 fun x1 h7 h6=>U 2 Z (GO Z (AO.call Z _ Z Z KJ (AP _ h7 ?_))); cases h6; exact fO 2 Z (En [26,2,17] Z)
  · refine IF 21 h5 h6 Z fun h6=>?_; cases h6; exact fO 5 Z (En [26,2,17] Z)
  cases h4; exact fO 1 Z (En [27,2] Z)
 · refine IT 17 h3 h4 Z fun h4=>?_; cases h4; exact fO 10 Z (En [27,2] Z)
 refine B1 hf fun b3 h9 hf=>U 1 Z (AR.fA 4 28 32 false [2] b3 Z Z (fun h8=>?_) (fun h8=>?_) ?_)
 · refine IF 28 h8 h9 Z fun h9=>?_; refine B1 h9 fun x2 h10 h9=>U 1 Z (GO Z (AO.call Z _ Z Z KI (zW _ h10 ?_))); cases h9; exact fO 2 Z (En [32,2] Z)
 · refine IT 28 h8 h9 Z fun h9=>?_; cases h9; exact fO 4 Z (En [32,2] Z)
 refine B1 hf fun b4 h12 hf=>U 1 Z (AR.fA 4 33 37 false [2] b4 Z Z (fun h11=>?_) (fun h11=>?_) ?_)
 · refine IF 33 h11 h12 Z fun h12=>?_; refine B1 h12 fun x3 wO h12=>U 1 Z (GO Z (AO.call Z _ Z Z KH (zZ _ wO ?_))); cases h12; exact fO 2 Z (En [37,2] Z)
 · refine IT 33 h11 h12 Z fun h12=>?_; cases h12; exact fO 4 Z (En [37,2] Z)
 refine B1 hf fun b5 xM hf=>U 1 Z (AR.fA 4 38 42 false [2] b5 Z Z (fun rY=>?_) (fun rY=>?_) ?_)
 · refine IF 38 rY xM Z fun xM=>?_; refine B1 xM fun x4 h16 xM=>U 1 Z (GO Z (AO.call Z _ Z Z KG (zX _ h16 ?_))); cases xM; exact fO 2 Z (En [42,2] Z)
 · refine IT 38 rY xM Z fun xM=>?_; cases xM; exact fO 4 Z (En [42,2] Z)
 refine J 1 Z (C hf Z (fun Bv hf=>?_) fun Bv hf=>?_)
 · cases hf; exact M 1 Z (Y Z h)
 refine B1 hf fun b6 h19 hf=>W 4 Z (AR.fA 5 47 52 true [2] b6 Z Z (fun h18=>?_) (fun h18=>?_) ?_)
 · refine IT 47 h18 h19 Z fun h19=>?_; refine B1 h19 fun x5 h20 h19=>U 2 Z (GO Z (AO.call Z _ Z Z Mq (mX _ h20 ?_))); cases h19; exact fO 2 Z (En [52,2] Z)
 · refine IF 47 h18 h19 Z fun h19=>?_; cases h19; exact fO 5 Z (En [52,2] Z)
 refine J 1 Z (C hf Z (fun h21 hf=>?_) fun h21 hf=>?_)
 · refine BR hf fun x6 h22 hf=>?_; refine W 2 Z (CL Z (mX _ h22 ?_)); cases hf; exact N 1 Z (Y Z h)
 refine W 2 Z (AS Z (AO.aP (l:=e1.args) Z Z Z Z lS Z (ak.bH _) (J 2 Z (C hf Z (fun h23 hf=>?_) fun h23 hf=>?_))))
 · cases hf; exact M 1 Z (Y Z h)
 refine B1 hf fun x7 Ov hf=>W 2 Z (CL Z (wE _ Ov (J 1 Z (C hf Z (fun Ou hf=>?_) fun Ou hf=>?_))))
 · cases hf; exact M 1 Z (Y Z h)
 cases hf; exact M 1 Z (Y Z h)
abbrev tV (dJ:ak→Int→Option Int):Prop:=∀ (rF:ak) (kg:Int) {iE:Int},dJ rF kg=some iE→∀ {τ:List aC} {Q:bV→List aC→Prop} (h:Q (.ret (iP iE)) τ),PC 122 [.agg (bY rF),iP kg] τ Q
theorem yO (dJ) (wU:tV dJ) (e1:ak) (bq:Int) {r0:Int} (hf:nX dJ e1 bq=some r0) (h:Q (.ret (iP r0)) τ):PC 122 [.agg (bY e1),iP bq] τ Q:=by
 unfold nX at hf; refine BN 30 [.tmp 4] [0,1] Tryz.func122 Z Z Z Z Z ?_; refine B1 hf fun f1 h1 hf=>W 4 Z (CL Z (AV _ _ h1 (J 3 Z (C hf Z (fun h2 hf=>?_) fun h2 hf=>?_))))
 · cases hf; exact M 2 Z (Y Z h)
 refine W 2 Z (AS Z (AO.aP (l:=e1.args) Z Z Z Z lS Z (ak.bH _) (J 1 Z (GA (fun x1=>[(1,iP bq),(16,.list (ak.cZ e1.args)),(17,iP (e1.args.length:Int)),(18,iP x1)]) (fun x1=>[]) (fun bQ x1=>ko dJ e1 bq bQ x1=some r0) BIG 0 Z Z hf (fun _ hz=>aR hz) ?_)))); intro bQ x1 hf; rw [ko] at hf; refine V 1 Z (C hf Z (fun h3 hf=>?_) fun h3 hf=>?_)
 ·
  refine B1 hf fun e2 h4 hf=>W 0 Z (AS Z (AO.bR h4 Z Z (ak.bH _) Z lS (ak.aQ _) Z (U 1 Z (AS Z (AO.aK Z gP (fun b7=>?_)))))); refine B1 hf fun f2 h5 hf=>Rr 4 [0,0] Z Z (CL Z (wU _ _ h5 (J 3 Z (C hf Z (fun h6 hf=>?_) fun h6 hf=>?_))))
  · cases hf; exact M 2 Z (Y Z h)
  refine NQ 2 Z (AR.drop1 ?_); exact N 0 Z ⟨(bW (x1 + 1)),Z,Z,Z,hf⟩
 cases hf; exact M 1 Z (Y Z h)
theorem zu :∀ k:Nat,(tV (jD k)):=by
 intro k
 induction k with
 | zero=>exact fun _ _ _ hz=>by first | cases hz | (unfold jD at hz; cases hz)
 | succ k ih=>exact fun rF kg iE hz τ Q hq=>yO (jD k) ih rF kg hz hq
theorem zV (rF:ak) (kg:Int) {iE:Int} (hf:vQ rF kg=some iE) (h:Q (.ret (iP iE)) τ):PC 122 [.agg (bY rF),iP kg] τ Q:=
 ((zu BIG)) rF kg hf h
theorem oG (e1:ak) {r0:Int} (hf:lD e1=some r0) (h:Q (.ret (iP r0)) τ):PC 97 [.agg (bY e1)] τ Q:=by
 unfold lD at hf; refine BN 8 [.tmp 2] [0] Tryz.func97 Z Z Z Z Z ?_; refine B1 hf fun x1 h1 hf=>W 3 Z (CL Z (z_ _ h1 (J 1 Z (C hf Z (fun h2 hf=>?_) fun h2 hf=>?_))))
 · cases hf; exact M 1 Z (Y Z h)
 refine BR hf fun x2 h3 hf=>?_; refine W 1 Z (CL Z (zV _ _ h3 ?_)); cases hf; exact N 1 Z (Y Z h)
theorem AZ (El:List aN) {r0:ak} {r1:Int} {r2:Int} (hf:sQ El=some (r0,r1,r2)) (h:Q (.ret (.tuple [.agg (bY r0),iP r1,iP r2])) τ):PC 85 [.list (List.map aN.cells El)] τ Q:=by
 unfold sQ at hf; refine BN 27 [.cell 2 111,.tmp 3,.tmp 4] [0] Tryz.func85 Z Z Z Z Z (W 0 Z (AS Z (AO.aK Z gP (fun b2=>?_)))); obtain ⟨x1,n1,lV,h1,hf⟩:=kU hf; refine U 3 Z (CL Z (AU _ h1 (U 4 Z (AS Z (AO.aK Z gP (fun b5=>(Rw 5 [0] Z Z (C hf Z (fun h2 hf=>?_) fun h2 hf=>?_))))))))
 · cases hf; exact Wx 6 [1] Z Z (ZC [1] Z Z h)
 refine B1 hf fun uM h3 hf=>Wr 1 [0] Z Z (CL Z (oG _ h3 (J 3 Z (C hf Z (fun h4 hf=>?_) fun h4 hf=>?_))))
 · cases hf; exact Wx 5 [1] Z Z (ZC [1] Z Z h)
 cases hf; exact Wx 5 [0,1] Z Z (ZC [1] Z Z h)
theorem z8 (gD:Str) {r0:ak} {r1:Int} {r2:Int} (hf:qP gD=some (r0,r1,r2)) (h:Q (.ret (.tuple [.agg (bY r0),iP r1,iP r2])) τ):PC 62 [.str gD] τ Q:=by
 unfold qP at hf; refine BN 46 [.cell 2 111,.tmp 3,.tmp 4] [0] Tryz.func62 Z Z Z Z Z (W 0 Z (AS Z (AO.aK Z gP (fun b2=>?_)))); obtain ⟨El,iC,lV,h1,hf⟩:=kU hf; refine U 3 Z (CL Z (Ab _ h1 (J 9 Z (C hf Z (fun h2 hf=>?_) fun h2 hf=>?_))))
 · cases hf; exact Wx 6 [0] Z Z (ZC [0] Z Z h)
 obtain ⟨x1,n1,uM,h3,hf⟩:=kU hf; refine W 1 Z (CL Z (AZ _ h3 (U 4 Z (AS Z (AO.aK Z gP (fun b8=>(Rw 5 [0] Z Z (C hf Z (fun h4 hf=>?_) fun h4 hf=>?_))))))))
 · exact aR hf
 refine W 2 Z (AS Z (AO.aP (l:=El) Z Z Z Z oC Z Z (J 1 Z (C hf Z (fun h5 hf=>?_) fun h5 hf=>?_))))
 ·
  refine V 0 Z (AW.Ir 1 6 7 1 mixed (by kernel_rfl) (by kernel_rfl) (by kernel_rfl) Z Z Z Z ?_); refine Ev.cons Z Z Z (AO.build Z gP Fa Z zg) (Ev.nil ?_); show Ev _ _ _ _ _ _ _; refine Ev.cs bZ 2 Z ?_; refine B1 hf fun e1 h6 hf=>Ev.cons Z Z Z (AO.bR h6 Z Z Z Z oC (aN.aQ _) Z zg) (Ev.cs bZ 2 Z (Ev.nil (TF.aS Z Z (AO.bG (i:=0) Z Z Z iN Z Z Z Z Z ?_)))); refine TF.nil ?_; show AR _ _ _ _ _ _ _ _; cases hf; exact N 2 Z (ZC [1] Z Z h)
 cases hf; exact Wx 4 [0,1] Z Z (ZC [1] Z Z h)
theorem lZ {b:Nat} {vp v p:Value} {dR r0:List aT} {text1:Str} (hf:gY dR text1=some r0) (hroom:roomy v=true) {R:bV→List aC→Prop} (h:∀ NW,R (.ret (.tuple [])) [.fq b 104 [(.own NW ((List.map aT.cells r0))),.val (.pointer none),.own (.slice none 0 0) (List.map bN [])],.row NW ((List.map aT.cells r0)).length 12 115]):PC 63 [pP b] [.row v (List.length text1) 1 5,.fq b 104 [(.own vp ((List.map aT.cells dR))),.val p,.own v (List.map bN text1)],.row vp ((List.map aT.cells dR)).length 12 115] R:=by
 unfold gY at hf; refine AC.fH 25 [] [0] Tryz.func63 Z Z Z Z Z (AW.seq (AW.sr (AR.step Z Z Z (AO.calc' Z ?_)))); refine AR.step Z Z Z (AO.nilCheck Z Z (AR.step Z Z Z (AO.aO Z Z qw (AR.step Z Z Z (AO.call Z _ Z Z Ms (AC.frame (σ:=[_,_]) (τ:=[_]) (Iz (AR.step Z Z Z (AO.calc' Z ?_))))))))); refine AR.nil [0,6] Z (AW.cond Z (fun h1=>?_) (fun h1=>?_))
 ·
  replace hf:=gN h1 hf; refine AW.Fx 4 12 [] [.row v (List.length text1) 1 5,.fq b 104 [(.own vp ((List.map aT.cells dR))),.val p,.own v (List.map bN text1)],.row vp ((List.map aT.cells dR)).length 12 115] (fun S e s=>∃ v2:Value,e.get 0=pP b∧e.get 7=pP b∧e.get 10=pP b∧(S 4=true→e.get 11=.own vp ((List.map aT.cells dR)))∧(S 5=true→e.get 12=pP b)∧(S 6=true→e.get 13=pP b)∧(S 7=true→e.get 14=.val (.pointer (some ⟨b,1,none⟩)))∧(S 8=true→e.get 15=.str text1)∧(S 9=true→e.get 16=.agg [.str text1,.bool false,iP 0,.str ([]:Str),iP 0,.bool false,iP 0,.str ([]:Str),.own (.slice none 0 0) [],.own (.slice none 0 0) [],.own (.slice none 0 0) [],.own (.slice none 0 0) []])∧(S 10=true→e.get 17=.list ((List.map aT.cells [(aT.mk text1 false (ak.mk 0 ([]:Str) (aj.mk 0 false 0 ([]:Str) [] []) [] []))])))∧(S 11=true→e.get 18=.own v2 ((List.map aT.cells r0)))∧s=(bif S 8 then [] else [.row v (List.length text1) 1 5]) ++ [.fq b 104 [(.own vp ((List.map aT.cells dR))),.val p,.own v (List.map bN text1)],bif S 11 then .row v2 ((List.map aT.cells r0)).length 12 115 else .row vp ((List.map aT.cells dR)).length 12 115]) mixed (by kernel_rfl) Z Z (List.Perm.refl _) ?_ ?_ ?_ ?_
  ·
   refine Ev.cs bZ 4 Z (Ev.nil ?_); exact ⟨.nilIface,Z,Z,Z,(fun h=>by cases h),(fun h=>by cases h),(fun h=>by cases h),(fun h=>by cases h),(fun h=>by cases h),(fun h=>by cases h),(fun h=>by cases h),(fun h=>by cases h),Z⟩
  ·
   rintro S S' e s hS ⟨v2,p0,p7,F3,q4,q5,q6,q7,q8,q9,Gw,Gv,qs⟩; have z:=fun i h1 h2=>(hS i h1 h2).symm; refine ⟨v2,p0,p7,F3,?_,?_,?_,?_,?_,?_,?_,?_,?_⟩
   ·
    rw [z 4 (by decide) (by decide)]; exact q4
   ·
    rw [z 5 (by decide) (by decide)]; exact q5
   ·
    rw [z 6 (by decide) (by decide)]; exact q6
   ·
    rw [z 7 (by decide) (by decide)]; exact q7
   ·
    rw [z 8 (by decide) (by decide)]; exact q8
   ·
    rw [z 9 (by decide) (by decide)]; exact q9
   ·
    rw [z 10 (by decide) (by decide)]; exact Gw
   ·
    rw [z 11 (by decide) (by decide)]; exact Gv
   ·
    rw [z 8 (by decide) (by decide),z 11 (by decide) (by decide)]; exact qs
  ·
   rintro S e s i o ⟨v2,p0,p7,F3,q4,q5,q6,q7,q8,q9,Gw,Gv,rfl⟩ hi1 hi2 LP hp' ho; have hi:i=4∨i=5∨i=6∨i=7∨i=8∨i=9∨i=10∨i=11:=by omega
   rcases hi with rfl | rfl | rfl | rfl | rfl | rfl | rfl | rfl
   ·
    cases ho; refine ⟨Z,(fun t ht=>by cases ht; decide),AO.less (Less.add F3 Less.nil) ?_⟩; cases h8:S 8 with
    | false=>
     refine AO.dO (i:=1) Z Z Z Bf Z Z ?_; exact ⟨v2,p0,p7,F3,(fun _=>Z),q5,q6,q7,(fun h=>by rw [show S 8=true from h] at h8; cases h8),q9,Gw,Gv,by simp [h8]⟩
    | true=>
     refine AO.dO (i:=0) Z Z Z Bf Z Z ?_; exact ⟨v2,p0,p7,F3,(fun _=>Z),q5,q6,q7,q8,q9,Gw,Gv,by simp [h8]⟩
   ·
    cases ho; refine ⟨Z,(fun t ht=>by cases ht; decide),AO.less (Less.add p0 Less.nil) (AO.calc' Z ?_)⟩; exact ⟨v2,p0,p7,F3,q4,(fun _=>Z),q6,q7,q8,q9,Gw,Gv,Z⟩
   ·
    cases ho; have s5:=hp' 5 (any_beq.1 Z) (by decide); refine ⟨Z,(fun t ht=>by cases ht; decide),AO.less (Less.add (q5 s5) Less.nil) (AO.nilCheck Z Z ?_)⟩; exact ⟨v2,p0,p7,F3,q4,q5,(fun _=>Z),q7,q8,q9,Gw,Gv,Z⟩
   ·
    cases ho; have s6:=hp' 6 (any_beq.1 Z) (by decide); refine ⟨Z,(fun t ht=>by cases ht; decide),AO.less (Less.add (q6 s6) Less.nil) (AO.aO Z Z qw ?_)⟩; exact ⟨v2,p0,p7,F3,q4,q5,q6,(fun _=>Z),q8,q9,Gw,Gv,Z⟩
   ·
    cases ho; have s7:=hp' 7 (any_beq.1 Z) (by decide); rw [LP]; refine ⟨Z,(fun t ht=>by cases ht; decide),AO.less (Less.add (q7 s7) Less.nil) ?_⟩; refine AO.call Z _ Z Z Mr (AC.frame (σ:=[_,_]) (τ:=[_]) (D9 hroom ?_)); exact ⟨v2,p0,p7,F3,q4,q5,q6,q7,(fun _=>Z),q9,Gw,Gv,Z⟩
   ·
    cases ho; have s8:=hp' 8 (any_beq.1 Z) (by decide); refine ⟨Z,(fun t ht=>by cases ht; decide),AO.less (Less.add (q8 s8) Less.nil) (AO.build Z Eh E_ Z ?_)⟩; exact ⟨v2,p0,p7,F3,q4,q5,q6,q7,q8,(fun _=>Z),Gw,Gv,Z⟩
   ·
    cases ho; have s9:=hp' 9 (any_beq.1 Z) (by decide); refine ⟨Z,(fun t ht=>by cases ht; decide),AO.less (Less.add (q9 s9) Less.nil) (AO.cu ((List.map aT.cells [(aT.mk text1 false (ak.mk 0 ([]:Str) (aj.mk 0 false 0 ([]:Str) [] []) [] []))])) rfl Fj rfl rfl rfl (by first | rfl | simp only [List.map,aT.aQ]) ?_)⟩
    exact ⟨v2,p0,p7,F3,q4,q5,q6,q7,q8,q9,(fun _=>Z),Gv,Z⟩
   ·
    cases ho; have s4:=hp' 4 (any_beq.1 Z) (by decide); have s8:=hp' 8 (any_beq.1 Z) (by decide); have s10:=hp' 10 (any_beq.1 Z) (by decide); rw [LP,s8]; refine ⟨Z,(fun t ht=>by cases ht; decide),AO.less (Less.add (q4 s4) (Less.add (Gw s10) Less.nil)) ?_⟩; refine AO.jA (i:=1) (l:=dR) (m:=[(aT.mk text1 false (ak.mk 0 ([]:Str) (aj.mk 0 false 0 ([]:Str) [] []) [] []))]) hf Z Z Z Z Z Z Z Fj Fw Z Z Z (aT.dG) (aT.cells_one) (by decide) (fun v3 s2 hs2=>?_); cases hs2; exact ⟨v3,p0,p7,F3,q4,q5,q6,q7,q8,q9,Gw,(fun _=>Z),by simp [s8]⟩
  rintro S e s hS ⟨v2,p0,p7,F3,q4,q5,q6,q7,q8,q9,Gw,Gv,rfl⟩; rw [hS 8 (by decide) (by decide),hS 11 (by decide) (by decide)]; refine AR.less (Less.add p0 (Less.add p7 (Less.add (Gv (hS 11 (by decide) (by decide))) Less.nil))) ?_; refine AR.step Z Z Z (AO.nilCheck Z Z (AR.step Z Z Z (AO.aO Z Z wo ?_))); refine AR.aS Z Z (AO.iO (i:=0) Z Z Z Bf Z Z Z Z Z ?_); refine AR.nil [0] Z (AW.region (AR.step Z Z Z (AO.calc' Z (AR.step Z Z Z (AO.nilCheck Z Z ?_))))); refine AR.step Z Z Z (AO.aO Z Z qw (AR.step Z Z Z (AO.call Z _ Z Z J5 (AC.frame (σ:=[_]) (τ:=[_]) (Ah (AR.nil [] Z ?_)))))); exact ⟨Z,[],Z,_,List.Sublist.refl _,h v2⟩
 ·
  obtain rfl:=Option.some.inj (gJ h1 hf); refine AW.skip (AW.drop1 (AW.region (AR.step Z Z Z (AO.calc' Z ?_)))); refine AR.step Z Z Z (AO.nilCheck Z Z (AR.step Z Z Z (AO.aO Z Z qw (AR.step Z Z Z (AO.call Z _ Z Z J5 (AC.frame (σ:=[_]) (τ:=[_]) (Ah (AR.nil [] Z ?_)))))))); exact ⟨Z,[],Z,_,List.Sublist.refl _,h vp⟩
theorem tF (s1:Str) {r0:List aT} {r1:Int} {r2:Int} (hf:nO s1=some (r0,r1,r2)) (h:Q (.ret (.tuple [.list (List.map aT.cells r0),iP r1,iP r2])) τ):PC 40 [.str s1] τ Q:=by
 unfold nO at hf; refine AC.none (AC.fH 76 [.tmp 2,.tmp 3,.tmp 4] [0] Tryz.func40 Z Z Z Z Z (AW.sr (AR.step Z Z Z (AO.eF Z Z ?_)))); refine cs 2 Z (AR.nil [0] Z (AW.seq (AW.sr ?_))); refine cs 1 Z (AR.step Z Z Z (AO.dA Z Z Z Z dL Z (cs 1 Z (AR.nil [0,14] Z ?_)))); refine AW.cond Z (fun h1=>?_) (fun h1=>?_)
 · replace hf:=gN h1 hf; refine AW.sr (AR.step Z Z Z (AO.eF Z Z (cs 2 Z (AR.nil [2,3,4] Z ?_)))); refine AW.ret ?_; cases hf; exact ⟨rfl,_,⟨_,_,rfl,rfl,_,_,rfl,rfl,_,_,rfl,rfl,rfl⟩,[],List.nil_sublist _,h⟩
 replace hf:=gJ h1 hf; refine AW.skip (AW.row 12 115 (AW.sr ?_)); refine AR.step Z Z Z (AO.EO Z Km (fun b=>?_)); refine AR.nil [0,5] Z (AW.row 1 5 (AW.seq (AW.sr ?_))); refine cs 1 Z (AR.nil [0,5,6] Z (AW.block (AW.settle [0,5,6] Z ?_))); refine AW.K8 (fun iC dR vp text1 vt p=>[(0,.str s1),(5,pP b),(6,iP iC)]) (fun iC dR vp text1 vt p=>[.row vt (List.length text1) 1 5,.fq b 104 [(.own vp ((List.map aT.cells dR))),.val p,.own vt (List.map bN text1)],.row vp ((List.map aT.cells dR)).length 12 115]) (fun bQ iC dR vp text1 vt p=>gX s1 bQ iC dR text1=some (r0,r1,r2)∧(p=Value.pointer none∨p=.pointer (some ⟨b,1,none⟩))∧roomy vt=true) BIG 0 [] (.slice none 0 0) [] (.slice none 0 0) (.pointer none) Z Z ⟨hf,.inl Z,Z⟩ (fun _ _ _ _ _ _ hz=>aR hz.1) ?_; intro bQ iC dR vp text1 vt p ND; obtain ⟨hf,hp,hroom⟩:=ND; rw [gX] at hf; refine AW.seq (AW.sr (cs 2 Z (AR.step Z Z Z (AO.dA Z Z Z Z dL Z ?_)))); refine cs 1 Z (AR.nil [0,5,6,18] Z (AW.cond Z (fun h2=>?_) (fun h2=>?_)))
 ·
  replace hf:=gN h2 hf; refine AW.skip (AW.block (AW.sr (cs 2 Z ?_))); refine B1 hf fun Hr h3 hf=>AR.step Z Z Z (AO.sH h3 Z dL Z ⟨_,Z⟩ Z (cs 1 Z (AR.nil [0,5,6,7] Z (AW.block ?_)))); refine AW.sr (cs 1 Z ?_); refine B1 hf fun b1 h4 hf=>AR.step Z Z Z (AO.call Z _ Z Z J8 (nH _ _ h4 (cs 1 Z (AR.nil [0,5,6,7,29] Z (AW.cond Z (fun h5=>?_) (fun h5=>?_))))))
  · replace hf:=gN h5 hf; refine B1 hf fun G9 h6 hf=>AW.sr (AR.step Z Z Z (AO.aO Z Z qw (AR.step Z Z Z (AO.call Z _ Z Z J7 (AC.frame (σ:=[_,_]) (τ:=[_]) (tN hp hroom h6 (fun v2 hr2=>(AR.nil [0,5,6] Z ?_)))))))); refine AW.region (cs 3 Z (AR.nil [0,5,6] Z ?_)); exact ⟨(bW (iC + 2)),dR,vp,G9,v2,_,Z,Z,Z,hf,.inr Z,hr2⟩
  replace hf:=gJ h5 hf; refine B1 hf fun b2 h6 hf=>AW.sr (cs 1 Z (AR.step Z Z Z (AO.call Z _ Z Z J8 (nH _ _ h6 (cs 1 Z ?_))))); refine AR.nil [0,5,6,36] Z (AW.cond Z (fun h7=>?_) (fun h7=>?_))
  ·
   replace hf:=gN h7 hf; refine AW.sr (cs 3 Z ?_); refine B1 hf fun wC h8 hf=>AR.step Z Z Z (AO.call Z _ Z Z Mv (xu _ _ h8 (cs 1 Z (AR.nil [0,5,6,8] Z (AW.seq ?_))))); refine AW.sr (cs 2 Z (AR.nil [0,5,6,8,44] Z (AW.cond Z (fun h9=>?_) (fun h9=>?_))))
   · replace hf:=gN h9 hf; refine AW.sr (cs 1 Z (AR.step Z Z Z (AO.eF Z Z (cs 2 Z ?_)))); refine AR.nil [2,3,4] Z (AW.ret ?_); cases hf; exact ⟨rfl,_,⟨_,_,rfl,rfl,_,_,rfl,rfl,_,_,rfl,rfl,rfl⟩,[],List.nil_sublist _,h⟩
   replace hf:=gJ h9 hf; refine AW.skip (AW.sr (cs 4 Z ?_)); refine B1 hf fun x1 h10 hf=>AR.step Z Z Z (AO.sH h10 Z dL Z ⟨_,Z⟩ ⟨_,Z⟩ ?_); obtain ⟨e1,n1,lV,h11,hf⟩:=kU hf; refine AR.step Z Z Z (AO.call Z _ Z Z Mt (z8 _ h11 (cs 4 Z (AR.step Z Z Z (AO.aK Z gP (fun b9=>(AR.aS Z Z (AO.bG (i:=0) Z Z Z iN Z Z Z Z Z ?_)))))))); refine cs 2 Z (AR.nil [0,5,6,8,9,10,11] Z (AW.seq (AW.sr ?_))); refine cs 2 Z (AR.nil [0,5,6,8,9,10,11,57] Z (AW.cond Z (fun h12=>?_) (fun h12=>?_)))
   · replace hf:=gN h12 hf; refine AW.sr (cs 5 Z (AR.step Z Z Z (AO.eF Z Z (cs 2 Z ?_)))); refine AR.nil [2,3,4] Z (AW.ret ?_); cases hf; exact ⟨rfl,_,⟨_,_,rfl,rfl,_,_,rfl,rfl,_,_,rfl,rfl,rfl⟩,[],List.nil_sublist _,h⟩
   replace hf:=gJ h12 hf; refine B1 hf fun Cc wO hf=>B1 hf fun Cb rY hf=>AW.skip (AW.sr (AR.step Z Z Z (AO.call Z _ Z Z J6 (AC.perm (FW _ _ _ _) (AC.frame (σ:=[_,_,_]) (τ:=[_]) (lZ wO hroom (fun Og=>(AR.nil [0,5,8,9] Z ?_)))))))); refine AW.row 1 5 (AW.sr (AR.step Z Z Z (AO.aO Z Z wo ?_))); refine AR.step Z Z Z (AO.dO (i:=1) Z Z Z Bf Z Z ?_); refine AR.step rfl rfl rfl (AO.bf (i:=3) rfl rfl rfl iN rfl rfl (AR.step rfl rfl rfl (AO.build rfl Eh E_ rfl (AR.step rfl rfl rfl (AO.cu ((List.map aT.cells [(aT.mk ([]:Str) true e1)])) rfl Fj rfl rfl rfl (by first | rfl | simp only [List.map,aT.aQ]) ?_))))); refine AR.step Z Z Z (AO.jA (i:=2) (l:=Cc) (m:=[(aT.mk ([]:Str) true e1)]) rY Z Z Z Z Z Z Z Fj Fw Z Z Z (aT.dG) (aT.cells_one) (by decide) (fun Oe s2 hs2=>?_)); cases hs2
   refine AR.step Z Z Z (AO.aO Z Z wo ?_); refine AR.aS Z Z (AO.iO (i:=1) Z Z Z Bf Z Z Z Z Z ?_); refine AR.nil [0,5,8] Z (AW.Cy 3 Z (AW.region (cs 3 Z ?_))); refine AR.nil [0,5,6] Z ?_; exact ⟨(bW (wC + 1)),Cb,Oe,[],.slice none 0 0,_,Z,Z,Z,hf,.inl Z,Z⟩
  replace hf:=gJ h7 hf; refine B1 hf fun c1 h8 hf=>B1 hf fun G8 h9 hf=>AW.sr (AR.step Z Z Z (AO.aO Z Z qw (cs 2 Z (AR.step Z Z Z (AO.fI h8 Z dL Z Z ?_))))); refine AR.step Z Z Z (AO.call Z _ Z Z J7 (AC.frame (σ:=[_,_]) (τ:=[_]) (tN hp hroom h9 (fun v2 hr2=>(AR.nil [0,5,6] Z (AW.region (cs 3 Z ?_))))))); refine AR.nil [0,5,6] Z ?_; exact ⟨(bW (iC + 1)),dR,vp,G8,v2,_,Z,Z,Z,hf,.inr Z,hr2⟩
 replace hf:=gJ h2 hf; refine B1 hf fun Fu h3 hf=>AW.exit (AW.sr (AR.step Z Z Z (AO.call Z _ Z Z J6 (lZ h3 hroom (fun Og=>(AR.nil [5] Z ?_)))))); refine AW.sr (AR.step Z Z Z (AO.aO Z Z wo ?_)); refine AR.step Z Z Z (AO.dO (i:=0) Z Z Z Bf Z Z ?_); refine cs 3 Z (AR.nil [2,3,4] Z (AW.ret ?_)); cases hf; exact ⟨rfl,_,⟨_,_,rfl,rfl,_,_,rfl,rfl,_,_,rfl,rfl,rfl⟩,[],List.nil_sublist _,h⟩
theorem pJ (s1:Str) {r0:Int} (hf:kC s1=some r0) (h:Q (.ret (iP r0)) τ):PC 24 [.str s1] τ Q:=by
 unfold kC at hf; refine BN 15 [.tmp 2] [0] Tryz.func24 Z Z Z Z Z (V 3 Z (C hf Z (fun h1 hf=>?_) fun h1 hf=>?_))
 · cases hf; exact M 1 Z (Y Z h)
 obtain ⟨x1,x2,e1,h2,hf⟩:=kU hf; refine W 1 Z (CL Z (tF _ h2 ?_)); cases hf; exact N 9 Z (Y Z h)
theorem xA (c1:aX) {r0:Int} (hf:oD c1=some r0) (h:Q (.ret (iP r0)) τ):PC 9 [.agg (mV c1)] τ Q:=by
 unfold oD at hf; refine BN 53 [.tmp 2] [0] Tryz.func9 Z Z Z Z Z ?_; refine B1 hf fun e1 h1 hf=>W 4 Z (CL Z (pJ _ h1 (J 3 Z (C hf Z (fun h2 hf=>?_) fun h2 hf=>?_))))
 · cases hf; exact M 2 Z (Y Z h)
 refine W 2 Z (AS Z (AO.aP (l:=c1.restore) Z Z Z Z iJ Z Z (U 2 Z (AR.or 5 20 25 [1] (x:=(decide (1024 < (c1.files.length:Int)))) Z Z (fun h3=>?_) (fun h3=>?_) ?_))))
 · refine Is 20 h3 Z (U 2 Z (GO Z (AO.aP (l:=c1.files) Z Z Z Z iJ Z Z ?_))); exact fO 2 Z (En [25,1] Z)
 · refine Is 20 h3 Z ?_; exact fO 5 Z (En [25,1] Z)
 refine J 0 Z (C hf Z (fun h4 hf=>?_) fun h4 hf=>?_)
 · cases hf; exact M 1 Z (Y Z h)
 refine W 2 Z (AS Z (AO.aP (l:=c1.restore) Z Z Z Z iJ Z Z (J 1 Z (GA (fun x1=>[(1,.ref (mV c1)),(27,sP c1.restore),(28,iP (c1.restore.length:Int)),(29,iP x1)]) (fun x1=>[]) (fun bQ x1=>jy c1 bQ x1=some r0) BIG 0 Z Z hf (fun _ hz=>aR hz) ?_)))); intro bQ x1 hf; rw [jy] at hf; refine V 1 Z (C hf Z (fun h5 hf=>?_) fun h5 hf=>?_)
 ·
  refine B1 hf fun s1 h6 hf=>W 0 Z (AS Z (AO.bR h6 Z Z Z Z iJ Z Z ?_)); refine B1 hf fun e2 h7 hf=>U 3 Z (CL Z (pJ _ h7 (J 3 Z (C hf Z (fun h8 hf=>?_) fun h8 hf=>?_))))
  · cases hf; exact M 2 Z (Y Z h)
  exact M 2 Z ⟨(bW (x1 + 1)),Z,Z,Z,hf⟩
 refine W 2 Z (AS Z (AO.aP (l:=c1.files) Z Z Z Z iJ Z Z (J 1 Z (GA (fun x2=>[(40,sP c1.files),(41,iP (c1.files.length:Int)),(42,iP x2)]) (fun x2=>[]) (fun yc x2=>lX c1 yc x2=some r0) BIG 0 Z Z hf (fun _ hz=>aR hz) ?_)))); intro yc x2 hf; rw [lX] at hf; refine V 1 Z (C hf Z (fun h9 hf=>?_) fun h9 hf=>?_)
 · refine B1 hf fun s2 h10 hf=>W 0 Z (AS Z (AO.bR h10 Z Z Z Z iJ Z Z ?_)); exact aR hf
 cases hf; exact M 1 Z (Y Z h)
theorem jZ (s1:List aH) (f1:aH→Option Bool) (Cv:FuncId) (EJ:List PV) (Lg:aU Tryz.prog Cv=true) (Lh:∀ a0 b0,f1 a0=some b0→∀ {τ:List aC} {Q:bV→List aC→Prop},Q (.ret (.bool b0)) τ→PC Cv ([.agg (Cm a0)] ++ EJ) τ Q) {r0:Int} (hf:d9 s1 f1=some r0) (h:Q (.ret (iP r0)) τ):PC 73 [.list (List.map aH.cells s1),.fn Cv EJ] τ Q:=by
 unfold d9 at hf; refine BN 19 [.tmp 4] [0,1] Tryz.func73 Z Z Z Z Z (W 2 Z (AS Z (AO.aP (l:=s1) Z Z Z Z wB Z Z (J 1 Z (GA (fun i1=>[(0,.list (List.map aH.cells s1)),(1,.fn Cv EJ),(7,iP (s1.length:Int)),(8,iP i1)]) (fun i1=>[]) (fun bQ i1=>bX s1 f1 bQ i1=some r0) BIG 0 Z Z hf (fun _ hz=>aR hz) ?_))))); intro bQ i1 hf; rw [bX] at hf; refine V 1 Z (C hf Z (fun h1 hf=>?_) fun h1 hf=>?_)
 ·
  refine B1 hf fun e1 h2 hf=>W 5 Z (AS Z (AO.bR h2 Z Z Z Z wB (aH.aQ _) Z ?_)); refine B1 hf fun x1 h3 hf=>U 1 Z (AS Z (AO.call Z _ Z Z Lg (Lh _ _ h3 (J 0 Z (C hf Z (fun h4 hf=>?_) fun h4 hf=>?_)))))
  · cases hf; exact M 2 Z (Y Z h)
  exact M 2 Z ⟨(bW (i1 + 1)),Z,Z,Z,hf⟩
 cases hf; exact M 1 Z (Y Z h)
theorem jB (s1:List aH) (f1:aH→Option Bool) (Cv:FuncId) (EJ:List PV) (Lg:aU Tryz.prog Cv=true) (Lh:∀ a0 b0,f1 a0=some b0→∀ {τ:List aC} {Q:bV→List aC→Prop},Q (.ret (.bool b0)) τ→PC Cv ([.agg (Cm a0)] ++ EJ) τ Q) {r0:Bool} (hf:dM s1 f1=some r0) (h:Q (.ret (.bool r0)) τ):PC 53 [.list (List.map aH.cells s1),.fn Cv EJ] τ Q:=by
 unfold dM at hf; refine BN 9 [.tmp 4] [0,1] Tryz.func53 Z Z Z Z Z ?_; refine B1 hf fun x1 h1 hf=>W 3 Z (CL Z (jZ _ f1 Cv EJ Lg @Lh h1 ?_)); cases hf; exact N 2 Z (Y Z h)
theorem qb (x1:aH) {r0:Bool} (hf:f_ x1=some r0) (h:Q (.ret (.bool r0)) τ):PC 54 [.agg (Cm x1)] τ Q:=by
 unfold f_ at hf; refine BN 6 [.tmp 2] [0] Tryz.func54 Z Z Z Z Z ?_; cases hf; exact M 6 Z (Y Z h)
theorem rQ (p1:Nat) (s1:List (BitVec 64)) (c1:UInt8) {Dl:List (BitVec 64)} (hf:jd s1 c1=some Dl) {Q:bV→List aC→Prop} (h:Q (.ret (.tuple [])) [.box p1 [.int .u64 ((Dl.getD 0 0).toNat:Int),.int .u64 ((Dl.getD 1 0).toNat:Int),.int .u64 ((Dl.getD 2 0).toNat:Int),.int .u64 ((Dl.getD 3 0).toNat:Int)]]):PC 113 [pP p1,.int .u8 (c1.toNat:Int)] [.box p1 [.int .u64 ((s1.getD 0 0).toNat:Int),.int .u64 ((s1.getD 1 0).toNat:Int),.int .u64 ((s1.getD 2 0).toNat:Int),.int .u64 ((s1.getD 3 0).toNat:Int)]] Q:=by
 unfold jd at hf; refine BD 16 [] [0,1] Tryz.func113 Z Z Z Z Z (AW.draw 12 mixed (by kernel_rfl) Z ?_); refine Ev.cs bZ 2 Z (Ev.cons Z Z Z (AO.u8_quo c1 64 Z Z Z Z Z (by decide) zg) ?_); refine Ev.cs bZ 1 Z ?_; refine B1 hf fun e1 h1 hf=>Ev.cons Z Z Z (AO.iF h1 Z xW Z Z Z zg) (Ev.cons Z Z Z (AO.Bt (i:=0) (fun z:BitVec 64=>.int .u64 (z.toNat:Int)) h1 Z Z Z Bg Z zg) (Ev.cs bZ 1 Z (Ev.cons Z Z Z (AO.BL c1 64 Z Z Z Z Z (by decide) zg) ?_))); refine Ev.cons Z Z Z (AO.vE (1:BitVec 64) ((c1 % 64).toNat) Z Z Z Z Z zg) ?_; refine B1 hf fun x1 h2 hf=>Ev.cons Z Z Z (AO.Dc e1 ((1:BitVec 64) <<< (c1 % 64).toNat) h2 Z Z Z Z Z zg) (Ev.cs bZ 1 Z ?_); refine B1 hf fun e2 h3 hf=>Ev.cons Z Z Z (AO.iF h3 Z xW Z Z Z zg) (Ev.nil ?_); show AR _ _ _ _ _ _ _ _; refine B1 hf fun y1 h4 hf=>AR.aS Z Z (AO.uV (i:=0) (fun z:BitVec 64=>.int .u64 (z.toNat:Int)) 0 h3 h4 Z Z Z Bg Z Z Z Z Z Z ?_); cases hf; exact N 0 rfl ⟨rfl,_,rfl,_,(.cons_cons _ (List.nil_sublist _)),h⟩
theorem tJ (BQ:Bool) {r0:List (BitVec 64)} (hf:mE BQ=some r0) (h:Q (.ret (.agg [.int .u64 ((r0.getD 0 0).toNat:Int),.int .u64 ((r0.getD 1 0).toNat:Int),.int .u64 ((r0.getD 2 0).toNat:Int),.int .u64 ((r0.getD 3 0).toNat:Int)])) τ):PC 88 [.bool BQ] τ Q:=by
 unfold mE at hf; refine BN 9 [.cell 2 93] [0] Tryz.func88 Z Z Z Z Z (W 0 Z (AS Z (AO.aK Z Bc (fun b2=>(U 0 Z (AS Z (AO.Gl Z Bc xW Z (AS Z (AO.aK Z Bc (fun b3=>?_)))))))))); refine Rw 3 [0] Z Z (C hf Z (fun h1 hf=>?_) fun h1 hf=>?_)
 · refine B1 hf fun y1 h2 hf=>W 0 Z (CL Z (AC.one 0 Z (rQ _ _ _ h2 ⟨_,Z,?_⟩))); cases hf; exact Rx 2 [0,1] Z Z (ZC [1] Z Z h)
 cases hf; exact Wx 2 [0,1] Z Z (ZC [1] Z Z h)
theorem xS (s1:Str) {r0:UInt8} {r1:Int} (hf:nS s1=some (r0,r1)) (h:Q (.ret (.tuple [.int .u8 (r0.toNat:Int),iP r1])) τ):PC 114 [.str s1] τ Q:=by
 unfold nS at hf; refine BN 26 [.tmp 2,.tmp 3] [0] Tryz.func114 Z Z Z Z Z ?_; refine B1 hf fun b1 h2 hf=>W 5 Z (AR.fA 4 6 10 false [0] b1 Z Z (fun h1=>?_) (fun h1=>?_) ?_)
 · refine IF 6 h1 h2 Z fun h2=>?_; refine B1 h2 fun x1 h3 h2=>U 1 Z (GO Z (AO.fI h3 Z dL Z Z ?_)); cases h2; exact fO 2 Z (En [10,0] Z)
 · refine IT 6 h1 h2 Z fun h2=>?_; cases h2; exact fO 4 Z (En [10,0] Z)
 refine B1 hf fun b2 h5 hf=>U 1 Z (AR.fA 4 11 15 false [0] b2 Z Z (fun h4=>?_) (fun h4=>?_) ?_)
 · refine IF 11 h4 h5 Z fun h5=>?_; refine B1 h5 fun x2 h6 h5=>U 1 Z (GO Z (AO.fI h6 Z dL Z Z ?_)); cases h5; exact fO 2 Z (En [15,0] Z)
 · refine IT 11 h4 h5 Z fun h5=>?_; cases h5; exact fO 4 Z (En [15,0] Z)
 refine J 0 Z (C hf Z (fun h7 hf=>?_) fun h7 hf=>?_)
 · cases hf; exact M 2 Z (Y Z h)
 refine B1 hf fun x3 h8 hf=>W 1 Z (AS Z (AO.fI h8 Z dL Z Z (J 1 Z (C hf Z (fun h9 hf=>?_) fun h9 hf=>?_))))
 · refine B1 hf fun x4 h10 hf=>W 1 Z (AS Z (AO.fI h10 Z dL Z Z ?_)); cases hf; exact N 2 Z (Y Z h)
 refine W 1 Z (AS Z (AO.dA Z Z Z Z dL Z (J 1 Z (C hf Z (fun h11 hf=>?_) fun h11 hf=>?_))))
 · cases hf; exact M 2 Z (Y Z h)
 refine B1 hf fun x5 h12 hf=>W 1 Z (AS Z (AO.fI h12 Z dL Z Z ?_)); cases hf; exact N 2 Z (Y Z h)
theorem tH (p1:Nat) (s1:List (BitVec 64)) (c1:UInt8) {Dl:List (BitVec 64)} (hf:fV s1 c1=some Dl) {Q:bV→List aC→Prop} (h:Q (.ret (.tuple [])) [.box p1 [.int .u64 ((Dl.getD 0 0).toNat:Int),.int .u64 ((Dl.getD 1 0).toNat:Int),.int .u64 ((Dl.getD 2 0).toNat:Int),.int .u64 ((Dl.getD 3 0).toNat:Int)]]):PC 115 [pP p1,.int .u8 (c1.toNat:Int)] [.box p1 [.int .u64 ((s1.getD 0 0).toNat:Int),.int .u64 ((s1.getD 1 0).toNat:Int),.int .u64 ((s1.getD 2 0).toNat:Int),.int .u64 ((s1.getD 3 0).toNat:Int)]] Q:=by
 unfold fV at hf; refine BD 16 [] [0,1] Tryz.func115 Z Z Z Z Z (AW.draw 12 mixed (by kernel_rfl) Z ?_); refine Ev.cs bZ 2 Z (Ev.cons Z Z Z (AO.u8_quo c1 64 Z Z Z Z Z (by decide) zg) ?_); refine Ev.cs bZ 1 Z ?_; refine B1 hf fun e1 h1 hf=>Ev.cons Z Z Z (AO.iF h1 Z xW Z Z Z zg) (Ev.cons Z Z Z (AO.Bt (i:=0) (fun z:BitVec 64=>.int .u64 (z.toNat:Int)) h1 Z Z Z Bg Z zg) (Ev.cs bZ 1 Z (Ev.cons Z Z Z (AO.BL c1 64 Z Z Z Z Z (by decide) zg) ?_))); refine Ev.cons Z Z Z (AO.vE (1:BitVec 64) ((c1 % 64).toNat) Z Z Z Z Z zg) ?_; refine B1 hf fun x1 h2 hf=>Ev.cons Z Z Z (AO.yx e1 ((1:BitVec 64) <<< (c1 % 64).toNat) h2 Z Z Z Z Z zg) (Ev.cs bZ 1 Z ?_); refine B1 hf fun e2 h3 hf=>Ev.cons Z Z Z (AO.iF h3 Z xW Z Z Z zg) (Ev.nil ?_); show AR _ _ _ _ _ _ _ _; refine B1 hf fun y1 h4 hf=>AR.aS Z Z (AO.uV (i:=0) (fun z:BitVec 64=>.int .u64 (z.toNat:Int)) 0 h3 h4 Z Z Z Bg Z Z Z Z Z Z ?_); cases hf; exact N 0 rfl ⟨rfl,_,rfl,_,(.cons_cons _ (List.nil_sublist _)),h⟩
theorem wG (p1:Nat) (s1:List (BitVec 64)) (c1:UInt8) (more:List PV) {Dl:List (BitVec 64)} (hf:fV s1 c1=some Dl) {Q:bV→List aC→Prop} (h:Q (.ret (.tuple [])) [.box p1 (.int .u64 ((Dl.getD 0 0).toNat:Int) :: .int .u64 ((Dl.getD 1 0).toNat:Int) :: .int .u64 ((Dl.getD 2 0).toNat:Int) :: .int .u64 ((Dl.getD 3 0).toNat:Int) :: more)]):PC 115 [pP p1,.int .u8 (c1.toNat:Int)] [.box p1 (.int .u64 ((s1.getD 0 0).toNat:Int) :: .int .u64 ((s1.getD 1 0).toNat:Int) :: .int .u64 ((s1.getD 2 0).toNat:Int) :: .int .u64 ((s1.getD 3 0).toNat:Int) :: more)] Q:=by
 unfold fV at hf; refine BD 16 [] [0,1] Tryz.func115 Z Z Z Z Z (AW.draw 12 mixed (by kernel_rfl) Z ?_); refine Ev.cs bZ 2 Z (Ev.cons Z Z Z (AO.u8_quo c1 64 Z Z Z Z Z (by decide) zg) ?_); refine Ev.cs bZ 1 Z ?_; refine B1 hf fun e1 h1 hf=>Ev.cons Z Z Z (AO.iF h1 Z xW Z Z Z zg) (Ev.cons Z Z Z (AO.F7 (i:=0) (more:=more) (fun z:BitVec 64=>.int .u64 (z.toNat:Int)) h1 Z Z Z Bg Z zg) (Ev.cs bZ 1 Z (Ev.cons Z Z Z (AO.BL c1 64 Z Z Z Z Z (by decide) zg) ?_))); refine Ev.cons Z Z Z (AO.vE (1:BitVec 64) ((c1 % 64).toNat) Z Z Z Z Z zg) ?_; refine B1 hf fun x1 h2 hf=>Ev.cons Z Z Z (AO.yx e1 ((1:BitVec 64) <<< (c1 % 64).toNat) h2 Z Z Z Z Z zg) (Ev.cs bZ 1 Z ?_); refine B1 hf fun e2 h3 hf=>Ev.cons Z Z Z (AO.iF h3 Z xW Z Z Z zg) (Ev.nil ?_); show AR _ _ _ _ _ _ _ _; refine B1 hf fun y1 h4 hf=>AR.aS Z Z (AO.Er (i:=0) (more:=more) (fun z:BitVec 64=>.int .u64 (z.toNat:Int)) 0 h3 h4 Z Z Z Bg Z Z Z Z Z Z ?_); cases hf; exact N 0 rfl ⟨rfl,_,rfl,_,(.cons_cons _ (List.nil_sublist _)),h⟩
theorem CR (s1:Str) {r0:List (BitVec 64)} {r1:Int} (hf:qW s1=some (r0,r1)) (h:Q (.ret (.tuple [.agg [.int .u64 ((r0.getD 0 0).toNat:Int),.int .u64 ((r0.getD 1 0).toNat:Int),.int .u64 ((r0.getD 2 0).toNat:Int),.int .u64 ((r0.getD 3 0).toNat:Int)],iP r1])) τ):PC 89 [.str s1] τ Q:=by
 unfold qW at hf; refine BN 88 [.cell 2 93,.tmp 3] [0] Tryz.func89 Z Z Z Z Z (W 0 Z (AS Z (AO.aK Z Bc (fun b2=>(U 1 Z (AS Z (AO.aK Z Bc (fun b4=>?_)))))))); refine J 1 Z (EU (fun iC bI=>[(0,.str s1),(2,pP b2),(4,pP b4),(5,iP iC)]) (fun iC bI=>[.box b4 [.int .u64 ((bI.getD 0 0).toNat:Int),.int .u64 ((bI.getD 1 0).toNat:Int),.int .u64 ((bI.getD 2 0).toNat:Int),.int .u64 ((bI.getD 3 0).toNat:Int)],.box b2 [.int .u64 0,.int .u64 0,.int .u64 0,.int .u64 0]]) (fun bQ iC bI=>dX s1 bQ iC bI=some (r0,r1)) BIG 1 ([0,0,0,0]:List (BitVec 64)) Z Z hf (fun _ _ hz=>aR hz) ?_); intro bQ iC bI hf; rw [dX] at hf; refine B1 hf fun b1 h2 hf=>W 3 Z (AR.fA 11 12 23 false [0,2,4,5] b1 Z Z (fun h1=>?_) (fun h1=>?_) ?_)
 ·
  replace h2:=gJ h1 h2; refine Is 12 h1 Z (U 2 Z (GO Z (AO.dA Z Z Z Z dL Z ?_))); refine BR h2 fun b2 h4 h2=>?_; refine U 2 Z (AR.fA 5 17 22 true [0,2,4,5,12] b2 Z Z (fun h3=>?_) (fun h3=>?_) ?_)
  · refine IT 17 h3 h4 Z fun h4=>?_; refine B1 h4 fun x1 h5 h4=>U 2 Z (GO Z (AO.fI h5 Z dL Z Z ?_)); cases h4; exact fO 2 Z (En [22,0,2,4,5,12] Z)
  · refine IF 17 h3 h4 Z fun h4=>?_; cases h4; exact fO 5 Z (En [22,0,2,4,5,12] Z)
  cases h2; exact fO 1 Z (En [23,0,2,4,5] Z)
 · refine IT 12 h1 h2 Z fun h2=>?_; cases h2; exact fO 11 Z (En [23,0,2,4,5] Z)
 refine J 0 Z (C hf Z (fun h6 hf=>?_) fun h6 hf=>?_)
 ·
  refine B1 hf fun x2 h7 hf=>W 2 Z (AS Z (AO.sH h7 Z dL Z ⟨_,Z⟩ Z ?_)); obtain ⟨jo,n1,h8,hf⟩:=bE hf; refine CL Z (xS _ h8 (J 7 Z (C hf Z (fun h9 hf=>?_) fun h9 hf=>?_)))
  · cases hf; exact Wx 3 [0,1] Z Z (ZC [1] Z Z h)
  refine W 8 Z (AS Z (AO.dA Z Z Z Z dL Z ?_)); refine B1 hf fun b3 h11 hf=>U 2 Z (AR.fA 5 42 47 true [0,2,4,5,6,8] b3 Z Z (fun h10=>?_) (fun h10=>?_) ?_)
  · refine IT 42 h10 h11 Z fun h11=>?_; refine B1 h11 fun x3 h12 h11=>U 2 Z (GO Z (AO.fI h12 Z dL Z Z ?_)); cases h11; exact fO 2 Z (En [47,0,2,4,5,6,8] Z)
  · refine IF 42 h10 h11 Z fun h11=>?_; cases h11; exact fO 5 Z (En [47,0,2,4,5,6,8] Z)
  refine J 0 Z (C hf Z (fun wO hf=>?_) fun wO hf=>?_)
  ·
   refine B1 hf fun x4 rY hf=>W 3 Z (AS Z (AO.sH rY Z dL Z ⟨_,Z⟩ Z ?_)); obtain ⟨o9,n2,xM,hf⟩:=bE hf; refine CL Z (xS _ xM (U 8 Z (On 4 58 62 [0,2,4,5,6,7,8] (decide ((o9.toNat:Int) < (jo.toNat:Int))) Z Z Z Z (J 0 Z (C hf Z (fun Bv hf=>?_) fun Bv hf=>?_)))))
   · cases hf; exact Wx 3 [0,1] Z Z (ZC [1] Z Z h)
   refine W 6 Z (AS Z (AO.uf Z yR BK Z Z ?_)); refine J 1 Z (EU (fun c1 nA=>[(0,.str s1),(2,pP b2),(4,pP b4),(5,iP (bW ((bW (iC + n1)) + (bW (1 + n2))))),(8,.int .u8 (o9.toNat:Int)),(9,iP c1)]) (fun c1 nA=>[.box b4 [.int .u64 ((nA.getD 0 0).toNat:Int),.int .u64 ((nA.getD 1 0).toNat:Int),.int .u64 ((nA.getD 2 0).toNat:Int),.int .u64 ((nA.getD 3 0).toNat:Int)],.box b2 [.int .u64 0,.int .u64 0,.int .u64 0,.int .u64 0]]) (fun yc c1 nA=>jg iC n1 o9 n2 (dX s1 bQ) yc c1 nA=some (r0,r1)) BIG (jo.toNat:Int) ([(bI.getD 0 0),(bI.getD 1 0),(bI.getD 2 0),(bI.getD 3 0)]:List (BitVec 64)) Z Z hf (fun _ _ hz=>aR hz) ?_); intro yc c1 nA hf; rw [jg] at hf; refine W 2 Z (AS Z (AO.uf Z yR BK Z Z (J 1 Z (C hf Z (fun h18 hf=>?_) fun h18 hf=>?_))))
   · refine W 1 Z (AS Z (AO.DW Z BK yR Z ?_)); refine B1 hf fun y1 h19 hf=>CL Z (AC.one 0 Z (tH _ _ _ h19 ⟨_,Z,?_⟩)); exact N 3 Z ⟨(bW (c1 + 1)),([(y1.getD 0 0),(y1.getD 1 0),(y1.getD 2 0),(y1.getD 3 0)]:List (BitVec 64)),Z,Z,Z,hf⟩
   exact M 0 Z ⟨(bW ((bW (iC + n1)) + (bW (1 + n2)))),([(nA.getD 0 0),(nA.getD 1 0),(nA.getD 2 0),(nA.getD 3 0)]:List (BitVec 64)),Z,Z,Z,hf⟩
  refine W 1 Z (AS Z (AO.uf Z yR BK Z Z ?_)); refine J 1 Z (EU (fun c2 ny=>[(0,.str s1),(2,pP b2),(4,pP b4),(5,iP (bW (iC + n1))),(8,.int .u8 (jo.toNat:Int)),(9,iP c2)]) (fun c2 ny=>[.box b4 [.int .u64 ((ny.getD 0 0).toNat:Int),.int .u64 ((ny.getD 1 0).toNat:Int),.int .u64 ((ny.getD 2 0).toNat:Int),.int .u64 ((ny.getD 3 0).toNat:Int)],.box b2 [.int .u64 0,.int .u64 0,.int .u64 0,.int .u64 0]]) (fun M_ c2 ny=>jf iC jo n1 (dX s1 bQ) M_ c2 ny=some (r0,r1)) BIG (jo.toNat:Int) ([(bI.getD 0 0),(bI.getD 1 0),(bI.getD 2 0),(bI.getD 3 0)]:List (BitVec 64)) Z Z hf (fun _ _ hz=>aR hz) ?_); intro M_ c2 ny hf; rw [jf] at hf; refine W 2 Z (AS Z (AO.uf Z yR BK Z Z (J 1 Z (C hf Z (fun h20 hf=>?_) fun h20 hf=>?_))))
  · refine W 1 Z (AS Z (AO.DW Z BK yR Z ?_)); refine B1 hf fun y2 h21 hf=>CL Z (AC.one 0 Z (tH _ _ _ h21 ⟨_,Z,?_⟩)); exact N 3 Z ⟨(bW (c2 + 1)),([(y2.getD 0 0),(y2.getD 1 0),(y2.getD 2 0),(y2.getD 3 0)]:List (BitVec 64)),Z,Z,Z,hf⟩
  exact M 0 Z ⟨(bW (iC + n1)),([(ny.getD 0 0),(ny.getD 1 0),(ny.getD 2 0),(ny.getD 3 0)]:List (BitVec 64)),Z,Z,Z,hf⟩
 refine W 2 Z (AS Z (AO.dA Z Z Z Z dL Z (J 1 Z (C hf Z (fun h22 hf=>?_) fun h22 hf=>?_))))
 · cases hf; exact Wx 3 [0,1] Z Z (ZC [1] Z Z h)
 refine B1 hf fun y3 h23 hf=>W 0 Z (CL Z (AC.one 0 Z (rQ _ _ _ h23 ⟨_,Z,?_⟩))); cases hf; exact Rx 5 [0,1] Z Z (ZC [1] Z Z h)
theorem tK (c1:UInt8) {r0:aG} (hf:jR c1=some r0) (h:Q (.ret (.agg (vZ r0))) τ):PC 90 [.int .u8 (c1.toNat:Int)] τ Q:=by
 unfold jR at hf; refine BN 10 [.cell 2 95] [0] Tryz.func90 Z Z Z Z Z (W 0 Z (AS Z (AO.aK Z Bb (fun b2=>(U 2 Z (AS Z (AO.aK Z Bb (fun b3=>?_)))))))); refine B1 hf fun y1 h1 hf=>Rr 3 [0] Z Z (CL Z (AC.one 0 Z (wG _ _ _ _ h1 ⟨_,Z,?_⟩))); cases hf; exact Rx 2 [0,1] Z Z (ZC [1] Z Z h)
theorem CQ (p1:Str) {r0:aG} {r1:Int} (hf:oo p1=some (r0,r1)) (h:Q (.ret (.tuple [.agg (vZ r0),iP r1])) τ):PC 64 [.str p1] τ Q:=by
 unfold oo at hf; refine BN 48 [.cell 2 95,.tmp 3] [0] Tryz.func64 Z Z Z Z Z (W 0 Z (AS Z (AO.aK Z Bb (fun b2=>?_)))); refine B1 hf fun x1 h1 hf=>U 2 Z (AS Z (AO.fI h1 Z dL Z Z (J 2 Z (C hf Z (fun h2 hf=>?_) fun h2 hf=>?_))))
 ·
  refine W 1 Z (AS Z (AO.dA Z Z Z Z dL Z ?_)); refine B1 hf fun b1 h4 hf=>U 2 Z (AR.fA 4 13 17 true [2] b1 Z Z (fun h3=>?_) (fun h3=>?_) ?_)
  · refine IT 13 h3 h4 Z fun h4=>?_; refine B1 h4 fun x2 h5 h4=>U 1 Z (GO Z (AO.fI h5 Z dL Z Z ?_)); cases h4; exact fO 2 Z (En [17,2] Z)
  · refine IF 13 h3 h4 Z fun h4=>?_; cases h4; exact fO 4 Z (En [17,2] Z)
  refine J 0 Z (C hf Z (fun h6 hf=>?_) fun h6 hf=>?_)
  · refine B1 hf fun x3 h7 hf=>W 0 Z (CL Z (tJ _ h7 ?_)); cases hf; exact Rx 3 [0] Z Z (ZC [0] Z Z h)
  refine B1 hf fun x4 h8 hf=>W 0 Z (CL Z (tJ _ h8 ?_)); cases hf; exact Rx 3 [0] Z Z (ZC [0] Z Z h)
 refine V 2 Z (C hf Z (fun h9 hf=>?_) fun h9 hf=>?_)
 · refine B1 hf fun x5 h10 hf=>W 0 Z (CL Z (tJ _ h10 ?_)); cases hf; exact Rx 3 [0] Z Z (ZC [0] Z Z h)
 refine V 2 Z (C hf Z (fun h11 hf=>?_) fun h11 hf=>?_)
 · obtain ⟨x6,n1,h12,hf⟩:=bE hf; refine W 1 Z (CL Z (CR _ h12 (U 3 Z (AS Z (AO.aK Z Bc (fun b4=>?_)))))); cases hf; exact Rx 7 [0,0,1] Z Z (ZC [1] Z Z h)
 refine V 2 Z (C hf Z (fun wO hf=>?_) fun wO hf=>?_)
 ·
  refine W 1 Z (AS Z (AO.dA Z Z Z Z dL Z (J 1 Z (C hf Z (fun rY hf=>?_) fun rY hf=>?_))))
  · cases hf; exact Wx 3 [0] Z Z (ZC [0] Z Z h)
  refine B1 hf fun x7 xM hf=>W 1 Z (AS Z (AO.fI xM Z dL Z Z ?_)); refine B1 hf fun x8 h16 hf=>CL Z (tK _ h16 ?_); cases hf; exact Rx 2 [0] Z Z (ZC [0] Z Z h)
 refine B1 hf fun x9 Bv hf=>W 1 Z (AS Z (AO.fI Bv Z dL Z Z ?_)); refine B1 hf fun NV h18 hf=>CL Z (tK _ h18 ?_); cases hf; exact Rx 2 [0] Z Z (ZC [0] Z Z h)
theorem CP (p1:Str) {r0:List aG} {r1:Int} (hf:mD p1=some (r0,r1)) (h:Q (.ret (.tuple [.list (List.map aG.cells r0),iP r1])) τ):PC 41 [.str p1] τ Q:=by
 unfold mD at hf; refine BN 27 [.tmp 2,.tmp 3] [0] Tryz.func41 Z Z Z Z Z (W 0 Z (AS Z (AO.eF Z Z (U 2 Z (AS Z (AO.dA Z Z Z Z dL Z (J 1 Z (C hf Z (fun h1 hf=>?_) fun h1 hf=>?_))))))))
 · refine W 0 Z (AS Z (AO.eF Z Z ?_)); cases hf; exact N 1 Z (Y Z h)
 refine V 1 Z (AW.row 7 95 (LZ (fun p2 l1 v1=>[(0,.str p2),(4,.own v1 (List.map aG.cells l1))]) (fun p2 l1 v1=>[.row v1 (List.map aG.cells l1).length 7 95]) (fun bQ p2 l1 v1=>je bQ p2 l1=some (r0,r1)) BIG p1 [] (.slice none 0 0) Z Z hf (fun _ _ _ hz=>aR hz) ?_)); intro bQ p2 l1 v1 hf; rw [je] at hf; refine V 2 Z (C hf Z (fun h2 hf=>?_) fun h2 hf=>?_)
 ·
  obtain ⟨x1,n1,h3,hf⟩:=bE hf; refine W 1 Z (CL Z (CQ _ h3 (U 3 Z (AS Z (AO.aK Z Bb (fun b5=>(Rw 4 [0] Z Z (C hf Z (fun h4 hf=>?_) fun h4 hf=>?_))))))))
  · refine W 0 Z (AS Z (AO.eF Z Z ?_)); cases hf; exact N 1 Z (Y Z h)
  refine Wr 2 [0] rfl rfl (AS rfl (AO.cu (List.map aG.cells [x1]) rfl JZ rfl rfl rfl (by first | rfl | simp only [List.map,aG.aQ]) ?_)); refine B1 hf fun l2 h5 hf=>AS Z (AO.jA (i:=1) (l:=l1) (m:=[x1]) h5 Z Z Z Z Z Z Z JZ xP Z Z Z (aG.dG) (aG.cells_one) (by decide) (fun v2 s1 hs1=>?_)); cases hs1; refine B1 hf fun p3 h6 hf=>U 3 Z (AS Z (AO.sH h6 Z dL Z ⟨_,Z⟩ Z (fO 1 Z (AR.drop1 ?_)))); exact N 0 Z ⟨p3,l2,v2,Z,Z,Z,hf⟩
 cases hf; exact M 3 Z (Y Z h)
theorem Ad (s1:List (BitVec 64)) (c1:UInt8) {r0:Bool} (hf:gZ s1 c1=some r0) (h:Q (.ret (.bool r0)) τ):PC 52 [.agg [.int .u64 ((s1.getD 0 0).toNat:Int),.int .u64 ((s1.getD 1 0).toNat:Int),.int .u64 ((s1.getD 2 0).toNat:Int),.int .u64 ((s1.getD 3 0).toNat:Int)],.int .u8 (c1.toNat:Int)] τ Q:=by
 unfold gZ at hf; refine BN 14 [.tmp 4] [0,1] Tryz.func52 Z Z Z Z Z (W 3 Z (AS Z (AO.u8_quo c1 64 Z Z Z Z Z (by decide) ?_))); refine B1 hf fun e1 h1 hf=>AS Z (AO.zF (fun z:BitVec 64=>.int .u64 (z.toNat:Int)) h1 Z xW Z Z Z Z (U 2 Z (AS Z (AO.BL c1 64 Z Z Z Z Z (by decide) ?_)))); refine AS Z (AO.vD e1 ((c1 % 64).toNat) Z Z Z Z Z ?_); refine B1 hf fun x1 h2 hf=>AS Z (AO.Df (e1 >>> (c1 % 64).toNat) (1:BitVec 64) h2 Z Z Z Z Z ?_); cases hf; exact N 2 Z (Y Z h)
theorem xR (l1:List aG) (a0:List Bool) {r1:List Bool} (hf:kT l1 a0=some r1) {b5 b7:Nat} {v1:Value} {Q:bV→List aC→Prop} (h:Q (.ret (.tuple [])) [.box b5 [.list (List.map aG.cells l1)],.box b7 [.val v1],.buf v1 r1.length 1 4 (List.map PV.bool r1)]):PC 51 [pP b5,pP b7] [.box b5 [.list (List.map aG.cells l1)],.box b7 [.val v1],.buf v1 a0.length 1 4 (List.map PV.bool a0)] Q:=by
 unfold kT at hf; refine BD 31 [] [0,1] Tryz.func51 Z Z Z Z Z (Wr 1 [0] Z Z (AS Z (AO.aP (l:=l1) Z Z Z Z xP Z Z (J 1 Z (EU (fun i1 a1=>[(1,pP b7),(4,.list (List.map aG.cells l1)),(5,iP (l1.length:Int)),(6,iP i1)]) (fun i1 a1=>[.box b5 [.list (List.map aG.cells l1)],.box b7 [.val v1],.buf v1 a1.length 1 4 (List.map PV.bool a1)]) (fun bQ i1 a1=>jQ l1 bQ i1 a1=some r1) BIG 0 a0 Z Z hf (fun _ _ hz=>aR hz) ?_))))); intro bQ i1 a1 hf; rw [jQ] at hf; refine V 1 Z (C hf Z (fun h1 hf=>?_) fun h1 hf=>?_)
 ·
  refine B1 hf fun x1 h2 hf=>W 1 Z (AS Z (AO.bR h2 Z Z Z Z xP (aG.aQ _) Z (U 1 Z (AS Z (AO.aK Z Bb (fun b3=>(Rw 2 [0] Z Z (AW.draw 19 mixed (by kernel_rfl) Z ?_)))))))); refine Ev.cons Z Z Z (AO.bf (i:=2) Z Z Z xF Z Z zg) (Ev.cs bZ 2 Z (Ev.cons Z Z Z (AO.bf (i:=2) Z Z Z xF Z Z zg) (Ev.cs bZ 2 Z ?_))); refine B1 hf fun c1 h3 hf=>Ev.cons Z Z Z (AO.fJ (i:=3) h3 Z Z Z Z xO zg) (Ev.cons Z Z Z (AO.tY (i:=3) h3 Z Z Z Ar zg) (Ev.cs bZ 1 Z ?_)); refine B1 hf fun c3 h4 hf=>Ev.fA NJ 9 19 28 false [1,4,5,6,11,13] (.bool c3) Z Z (fun h5=>?_) (fun h5=>?_) ?_
  ·
   replace h4:=gJ h5 h4; refine Ev.is JC 19 h5 Z (Ev.run Z Z Z Z Z Z Z (AO.bf (i:=2) Z Z Z xF Z Z zg) (Ev.cs bZ 1 Z ?_)); refine B1 h4 fun c2 h6 h4=>Ev.run Z Z Z Z Z Z Z (AO.fJ (i:=3) h6 Z Z Z Z xO zg) (Ev.run Z Z Z Z Z Z Z (AO.tY (i:=3) h6 Z Z Z Ar zg) (Ev.cs bZ 1 Z (Ev.and1 JC 3 24 27 [1,4,5,6,11,13,19] (x1.many) Z Z (fun h7=>?_) (fun h7=>?_) ?_)))
   · refine Ev.is JC 24 h7 Z (Ev.cs bZ 1 Z (Ev.run Z Z Z Z Z Z Z (AO.bf (i:=0) Z Z Z Ar Z Z zg) (Ev.cs bZ 1 Z ?_))); exact Ev.nil (Less.settle (ps:=[27,1,4,5,6,11,13,19]) Z)
   · refine Ev.is JC 24 h7 Z (Ev.cs bZ 3 Z ?_); exact Ev.nil (Less.settle (ps:=[27,1,4,5,6,11,13,19]) Z)
   cases h4; refine Ev.cs bZ 1 Z ?_; exact Ev.nil (Less.settle (ps:=[28,1,4,5,6,11,13]) Z)
  · replace h4:=gN h5 h4; refine Ev.is JC 19 h5 Z ?_; cases h4; refine Ev.cs bZ 9 Z ?_; exact Ev.nil (Less.settle (ps:=[28,1,4,5,6,11,13]) Z)
  refine Ev.cons Z Z Z (AO.fJ (i:=3) h3 Z Z Z Z xO zg) (Ev.nil ?_); show AR _ _ _ _ _ _ _ _; refine B1 hf fun a2 h8 hf=>AR.aS Z Z (AO.qI (i:=3) h3 h8 Z Z Z Ar Z Z (AR.drop1 ?_)); exact N 2 Z ⟨(bW (i1 + 1)),a2,Z,Z,Z,hf⟩
 cases hf; exact M 0 rfl ⟨rfl,_,rfl,_,List.Sublist.refl _,h⟩
theorem vV {n1:Int} {l1:List Bool} (h:qR n1=some l1):(if 0≤n1∧n1≤281474976710656 then some (List.replicate n1.toNat false) else none)=some l1:=h
theorem wH (p1:Str) (s1:Str) {r0:Bool} (hf:jG p1 s1=some r0) (h:Q (.ret (.bool r0)) τ):PC 35 [.str p1,.str s1] τ Q:=by
 unfold jG at hf; refine AC.none (AC.fH 78 [.tmp 4] [0,1] Tryz.func35 Z Z Z Z Z (AW.sr (cs 1 Z ?_))); refine AR.nil [0,1] Z (AW.sr (cs 1 Z ?_)); obtain ⟨l1,e1,h1,hf⟩:=bE hf; refine AR.step Z Z Z (AO.call Z _ Z Z MF (CP _ h1 (cs 3 Z (AR.step Z Z Z (AO.aK Z L9 (fun b5=>(AR.aS Z Z (AO.bG (i:=0) Z Z Z Dh Z Z Z Z Z ?_)))))))); refine cs 1 Z (AR.nil [1,5,6] Z (AW.seq (AW.sr ?_))); refine cs 2 Z (AR.nil [1,5,19] Z (AW.cond Z (fun h2=>?_) (fun h2=>?_)))
 · replace hf:=gN h2 hf; refine AW.sr (cs 1 Z (AR.nil [4] Z (AW.ret ?_))); cases hf; exact ⟨rfl,_,⟨_,_,rfl,rfl,rfl⟩,[],List.nil_sublist _,h⟩
 replace hf:=gJ h2 hf; refine AW.skip (AW.sr (AR.step Z Z Z (AO.bf (i:=0) Z Z Z Dh Z Z (AR.step Z Z Z (AO.aP (l:=l1) Z Z Z Z xP Z Z ?_))))); refine cs 1 Z ?_; refine B1 hf fun a0 h3 hf=>AR.step Z Z Z (AO.rJ (vV h3) Z Z Z JX Mc (fun v1=>(AR.step Z Z Z (AO.aK Z L8 (fun b7=>(AR.CV 1 Z (fun hv1 hv2=>(AR.aS Z Z (AO.bG (i:=0) Z Z Z xF hv1 hv2 Z Z Z ?_))))))))); refine AR.nil [1,5,7] Z (AW.sr (AR.step Z Z Z (AO.bf (i:=0) Z Z Z xF Z Z ?_))); refine B1 hf fun c0 h4 hf=>AR.step Z Z Z (AO.fJ (i:=1) h4 Z Z Z Z xO ?_); refine B1 hf fun a1 h5 hf=>AR.aS Z Z (AO.qI (i:=1) h4 h5 Z Z Z Ar Z Z (AR.nil [1,5,7] Z (AW.sr (cs 2 Z ?_)))); refine AR.nil [1,5,7,8] Z (AW.sr (cs 1 Z ?_)); refine B1 hf fun a2 h6 hf=>AR.step Z Z Z (AO.call Z _ Z Z J9 (AC.perm (σ:=[.box b5 [.list (List.map aG.cells l1)],.box b7 [.val v1],.buf v1 a1.length 1 4 (List.map PV.bool a1)]) KZ (xR l1 a1 h6 (AR.nil [1,5,7,8] Z (AW.seq (AW.sr ?_)))))); refine cs 1 Z (AR.step Z Z Z (AO.dA Z Z Z Z dL Z (cs 1 Z (AR.nil [1,5,7,8,30,31] Z ?_)))); refine AW.block (AW.settle [1,5,7,8,30,31] Z (AW.Ib (fun i1 a1 v1=>[(1,.str s1),(5,pP b5),(7,pP b7),(8,.fn 51 [pP b5,pP b7]),(30,iP (s1.length:Int)),(31,iP i1)]) (fun i1 a1 v1=>[.box b5 [.list (List.map aG.cells l1)],.box b7 [.val v1],.buf v1 a1.length 1 4 (List.map PV.bool a1)]) (fun bQ i1 a1 v1=>eT l1 s1 bQ i1 a1=some r0) BIG 0 a2 v1 Z Z hf (fun _ _ _ hz=>aR hz) ?_)); intro bQ i1 a1 v1 hf; rw [eT] at hf; refine AW.sr (cs 1 Z (AR.nil [1,5,7,8,30,31,32] Z (AW.seq ?_))); refine AW.cond Z (fun h7=>?_) (fun h7=>?_)
 ·
  replace hf:=gN h7 hf; refine AW.skip (AW.seq (AW.block (AW.sr ?_))); refine cs 2 Z (AR.nil [1,5,7,8,9,30,31] Z (AW.sr (AR.step Z Z Z (AO.bf (i:=0) Z Z Z Dh Z Z ?_)))); refine AR.step Z Z Z (AO.aP (l:=l1) Z Z Z Z xP Z Z (cs 1 Z ?_)); refine B1 hf fun Oi h8 hf=>AR.step Z Z Z (AO.rJ (vV h8) Z Z Z JX Mc (fun v2=>(cs 1 Z (AR.nil [1,5,7,8,9,10,30,31] Z (AW.seq ?_))))); refine AW.sr (AR.step Z Z Z (AO.bf (i:=1) Z Z Z Dh Z Z (AR.step Z Z Z (AO.aP (l:=l1) Z Z Z Z xP Z Z (cs 1 Z ?_))))); refine AR.nil [1,5,7,8,9,10,30,31,38,39,40] Z (AW.block (AW.settle [1,5,7,8,9,10,30,31,38,39,40] Z ?_)); refine AW.Ic (fun k1 Ci=>[(1,.str s1),(5,pP b5),(7,pP b7),(8,.fn 51 [pP b5,pP b7]),(9,iP i1),(10,.val v2),(30,iP (s1.length:Int)),(31,iP i1),(38,.list (List.map aG.cells l1)),(39,iP (l1.length:Int)),(40,iP k1)]) (fun k1 Ci=>[.buf v2 Ci.length 1 4 (List.map PV.bool Ci),.box b5 [.list (List.map aG.cells l1)],.box b7 [.val v1],.buf v1 a1.length 1 4 (List.map PV.bool a1)]) (fun yc k1 Ci=>eP l1 s1 i1 a1 (eT l1 s1 bQ) yc k1 Ci=some r0) BIG 0 Oi Z Z hf (fun _ _ hz=>aR hz) ?_; intro yc k1 Ci hf; rw [eP] at hf; refine AW.sr (cs 1 Z (AR.nil [1,5,7,8,9,10,30,31,38,39,40,41] Z (AW.seq ?_))); refine AW.cond Z (fun h9=>?_) (fun h9=>?_)
  ·
   replace hf:=gN h9 hf; refine AW.skip (AW.seq (AW.block (AW.sr ?_))); refine cs 1 Z ?_; refine B1 hf fun x1 h10 hf=>AR.step Z Z Z (AO.bR h10 Z Z Z Z xP (aG.aQ _) Z (cs 1 Z (AR.step Z Z Z (AO.aK Z Bb (fun b12=>(cs 1 Z ?_)))))); refine AR.aS Z Z (AO.bG (i:=0) Z Z Z Me Z Z Z Z Z (AR.nil [1,5,7,8,9,10,11,12,30,31,38,39,40] Z (AW.seq (AW.seq ?_)))); refine AW.draw 14 mixed (by kernel_rfl) Z ?_; refine Ev.cons Z Z Z (AO.bf (i:=3) Z Z Z xF Z Z zg) (Ev.cs bZ 1 Z ?_); refine B1 hf fun c1 h11 hf=>Ev.cons Z Z Z (AO.fJ (i:=4) h11 Z Z Z Z xO zg) (Ev.cons Z Z Z (AO.tY (i:=4) h11 Z Z Z Ar zg) (Ev.cs bZ 2 Z ?_)); refine B1 hf fun c3 h12 hf=>Ev.fA NJ 8 50 58 false [1,5,7,8,9,10,11,12,30,31,38,39,40] (.bool c3) Z Z (fun wO=>?_) (fun wO=>?_) ?_
   · replace h12:=gJ wO h12; refine Ev.is JC 50 wO Z (Ev.cs bZ 1 Z (Ev.run Z Z Z Z Z Z Z (AO.bf (i:=0) Z Z Z Mf Z Z zg) (Ev.cs bZ 2 Z ?_))); refine B1 h12 fun c4 rY h12=>Ev.run Z Z Z Z Z Z Z (AO.fI rY Z dL Z Z zg) ?_; refine B1 h12 fun c2 xM h12=>Ev.run Z Z Z Z Z Z Z (AO.call Z _ Z Z MC (Ad _ _ xM zg)) (Ev.cs bZ 1 Z ?_); cases h12; refine Ev.cs bZ 1 Z ?_; exact Ev.nil (Less.settle (ps:=[58,1,5,7,8,9,10,11,12,30,31,38,39,40]) Z)
   · replace h12:=gN wO h12; refine Ev.is JC 50 wO Z ?_; cases h12; refine Ev.cs bZ 8 Z ?_; exact Ev.nil (Less.settle (ps:=[58,1,5,7,8,9,10,11,12,30,31,38,39,40]) Z)
   refine Ev.nil ?_; show AR _ _ _ _ _ _ _ _; refine AR.nil [1,5,7,8,9,10,11,12,30,31,38,39,40,58] Z (AW.cond Z (fun h16=>?_) (fun h16=>?_))
   · replace hf:=gN h16 hf; refine AW.exit (AW.Cy 0 Z (AW.region (cs 2 Z ?_))); refine AR.nil [1,5,7,8,9,10,30,31,38,39,40] Z ?_; exact ⟨(bW (k1 + 1)),Ci,Z,Z,Z,hf⟩
   replace hf:=gJ h16 hf; refine AW.skip (AW.sr (cs 1 Z (AR.step Z Z Z (AO.bf (i:=0) Z Z Z Ar Z Z ?_)))); refine AR.nil [1,5,7,8,9,10,11,30,31,38,39,40,60] Z (AW.cond Z (fun Bv=>?_) (fun Bv=>?_))
   · replace hf:=gN Bv hf; refine AW.region (cs 2 Z ?_); refine B1 hf fun c5 h18 hf=>AR.step Z Z Z (AO.fJ (i:=1) h18 Z Z Z Z xO ?_); refine B1 hf fun K6 h19 hf=>AR.aS Z Z (AO.qI (i:=1) h18 h19 Z Z Z Ar Z Z (AR.drop1 (AR.nil [1,5,7,8,9,10,30,31,38,39,40] Z (AW.region ?_)))); refine cs 2 Z (AR.nil [1,5,7,8,9,10,30,31,38,39,40] Z ?_); exact ⟨(bW (k1 + 1)),K6,Z,Z,Z,hf⟩
   replace hf:=gJ Bv hf; refine AW.region (cs 3 Z ?_); refine B1 hf fun c5 h18 hf=>AR.step Z Z Z (AO.fJ (i:=1) h18 Z Z Z Z xO ?_); refine B1 hf fun K6 h19 hf=>AR.aS Z Z (AO.qI (i:=1) h18 h19 Z Z Z Ar Z Z (AR.drop1 (AR.nil [1,5,7,8,9,10,30,31,38,39,40] Z (AW.region ?_)))); refine cs 2 Z (AR.nil [1,5,7,8,9,10,30,31,38,39,40] Z ?_); exact ⟨(bW (k1 + 1)),K6,Z,Z,Z,hf⟩
  replace hf:=gJ h9 hf; refine AW.exit (AW.Cy 3 Z (AW.sr (cs 1 Z ?_))); refine AR.CV 0 Z (fun hv3 hv4=>(AR.aS Z Z (AO.bG (i:=2) Z Z Z xF hv3 hv4 Z Z Z (AR.nil [1,5,7,8,30,31] Z (AW.region ?_))))); refine cs 1 Z ?_; refine B1 hf fun a3 h20 hf=>AR.step Z Z Z (AO.call Z _ Z Z J9 (AC.perm (σ:=[.box b5 [.list (List.map aG.cells l1)],.box b7 [.val v2],.buf v2 Ci.length 1 4 (List.map PV.bool Ci)]) KY (xR l1 Ci h20 (AR.nil [1,5,7,8,30,31] Z (AW.region (cs 2 Z ?_)))))); refine AR.nil [1,5,7,8,30,31] Z ?_; exact ⟨(bW (i1 + 1)),a3,v2,Z,Z,Z,hf⟩
 replace hf:=gJ h7 hf; refine AW.exit (AW.sr (AR.step Z Z Z (AO.bf (i:=1) Z Z Z xF Z Z (AR.step Z Z Z (AO.bf (i:=0) Z Z Z Dh Z Z ?_))))); refine AR.step Z Z Z (AO.aP (l:=l1) Z Z Z Z xP Z Z (AR.step Z Z Z (AO.fJ (i:=2) hf Z Z Z Z xO (AR.step Z Z Z (AO.tY (i:=2) hf Z Z Z Ar (cs 1 Z ?_)))))); refine AR.nil [4] Z (AW.ret ?_); exact ⟨rfl,_,⟨_,_,rfl,rfl,rfl⟩,[],List.nil_sublist _,h⟩
theorem Ae (dN:List Str) (s1:Str) {r0:Bool} (hf:j6 dN s1=some r0) (h:Q (.ret (.bool r0)) τ):PC 16 [sP dN,.str s1] τ Q:=by
 unfold j6 at hf; refine BN 34 [.tmp 4] [0,1] Tryz.func16 Z Z Z Z Z (W 2 Z (AS Z (AO.aP (l:=dN) Z Z Z Z iJ Z Z (J 2 Z (GA (fun i1=>[(0,sP dN),(1,.str s1),(5,iP i1)]) (fun i1=>[]) (fun bQ i1=>iM dN s1 bQ i1=some r0) BIG (bW ((dN.length:Int) - 1)) Z Z hf (fun _ hz=>aR hz) ?_))))); intro bQ i1 hf; rw [iM] at hf; refine V 2 Z (C hf Z (fun h1 hf=>?_) fun h1 hf=>?_)
 ·
  refine B1 hf fun p1 h2 hf=>W 2 Z (AS Z (AO.bR h2 Z Z Z Z iJ Z Z ?_)); refine B1 hf fun b1 h4 hf=>U 5 Z (AR.fA 4 21 25 true [0,1,5,6] b1 Z Z (fun h3=>?_) (fun h3=>?_) ?_)
  · refine IT 21 h3 h4 Z fun h4=>?_; refine B1 h4 fun x1 h5 h4=>U 1 Z (GO Z (AO.fI h5 Z dL Z Z ?_)); cases h4; exact fO 2 Z (En [25,0,1,5,6] Z)
  · refine IF 21 h3 h4 Z fun h4=>?_; cases h4; exact fO 4 Z (En [25,0,1,5,6] Z)
  refine J 2 Z (C hf Z (fun h6 hf=>?_) fun h6 hf=>?_)
  ·
   refine B1 hf fun p2 h7 hf=>W 1 Z (AS Z (AO.sH h7 Z dL Z ⟨_,Z⟩ Z ?_)); refine B1 hf fun x2 h8 hf=>U 3 Z (CL Z (wH _ _ h8 (J 0 Z (C hf Z (fun h9 hf=>?_) fun h9 hf=>?_))))
   · cases hf; exact M 3 Z (Y Z h)
   exact M 3 Z ⟨(bW (i1 - 1)),Z,Z,Z,hf⟩
  refine B1 hf fun x3 h10 hf=>W 2 Z (CL Z (wH _ _ h10 (J 0 Z (C hf Z (fun h11 hf=>?_) fun h11 hf=>?_))))
  · cases hf; exact M 3 Z (Y Z h)
  exact M 3 Z ⟨(bW (i1 - 1)),Z,Z,Z,hf⟩
 cases hf; exact M 1 Z (Y Z h)
theorem rW {β:Type} (l:Nat) (T:β→List aC→Prop) (y:β→av→Option (Bool × β)) (hy:∀ s x1 b s2 τ,y s x1=some (b,s2)→T s τ→AY Tryz.prog l [.agg (xL x1)] τ (fun out σ'=>out=.ret (.bool b)∧T s2 σ'))
  (fs1:List av) (ps1:List Str) {s1 s2:β} (hf:jv y s1 fs1 ps1=some s2) {τ:List aC} (hT:T s1 τ) {Q:bV→List aC→Prop} (h:∀ τ',T s2 τ'→Q (.ret (.tuple [])) τ'):
  PC 45 [.val (.func (.yield l) #[] #[]),.ref [.list (List.map av.cells fs1)],.ref [sP ps1]] τ Q:=by
 unfold jv at hf; refine AC.fH 23 [] [0,1,2] Tryz.func45 Z Z Z Z Z (AW.sr (AR.step Z Z Z (AO.sS Z Z Mi Z (AR.step Z Z Z (AO.aP (l:=fs1) Z Z Z Z wz Z Z ?_))))); refine cs 1 Z (AR.nil [0,2,6,7,8] Z (AW.block (AW.Ib (fun (s:β) (τ0:List aC) (i1:Int)=>[(0,.val (.func (.yield l) #[] #[])),(2,.ref [sP ps1]),(6,.list (List.map av.cells fs1)),(7,iP (fs1.length:Int)),(8,iP i1)]) (fun s τ0 i1=>τ0) (fun bQ s τ0 i1=>dI y fs1 ps1 bQ s i1=some s2∧T s τ0) BIG s1 τ 0 Z Z ⟨hf,hT⟩ (fun _ _ _ hz=>aR hz.1) ?_))); intro bQ s3 τ3 i1 ND; obtain ⟨hf,hT⟩:=ND; rw [dI] at hf; refine AW.sr (cs 1 Z (AR.nil [0,2,6,7,8,9] Z (AW.seq ?_))); refine AW.cond Z (fun h1=>?_) (fun h1=>?_)
 ·
  replace hf:=gN h1 hf; refine AW.skip (AW.seq (AW.block (AW.sr ?_))); refine B1 hf fun p1 h2 hf=>?_; refine AR.step Z Z Z (AO.bR h2 Z Z Z Z wz (av.aQ _) Z (cs 1 Z (AR.step Z Z Z (AO.aK Z JW (fun b5=>(AR.aS Z Z (AO.bG (i:=0) Z Z Z G5 Z Z Z Z Z ?_))))))); refine AR.nil [0,2,5,6,7,8] Z ?_; refine B1 hf fun b1 h3 hf=>?_; refine AW.seq (AW.Fq (qE.step Z Z Z Z (AO.sS Z Z Mj Z (qE.step Z Z Z Z (AO.aO Z Z JE ?_))))); refine qE.step Z Z Z Z (AO.bf (i:=0) Z Z Z FJ Z Z (qE.step Z Z Z Z (AO.call Z _ Z Z MK (Ae _ _ h3 (qE.step Z Z Z Z (AO.calc' Z ?_)))))); cases b1 with
  | false=>
   replace hf:=gJ Z hf; refine qE.of Z (cs 5 Z (AR.drop1 (AR.nil [0,2,6,7,8,21] Z ?_))); refine AW.cond Z (fun hh=>by cases hh) (fun _=>?_); refine AW.skip (AW.region (cs 2 Z (AR.nil [0,2,6,7,8] Z ?_))); exact ⟨s3,τ3,(bW (i1 + 1)),Z,Z,Z,hf,hT⟩
  | true=>
   replace hf:=gN Z hf; obtain ⟨b2,s4,h4,hf⟩:=bE hf; refine qE.run Z Z Z Z (qE.step Z Z Z Z (AO.calc' Z (qE.run Z Z Z Z (qE.step Z Z Z Z (AO.bf (i:=0) Z Z Z G5 Z Z ?_))))); refine qE.drop1 (qE.run Z Z Z Z (qE.Ko Z Z Z Z Z _ Z Z (hy _ _ _ _ _ h4 hT) fun τ4 N9=>(qE.of Z ?_))); refine cs 2 Z (AR.nil [0,2,6,7,8,21] Z (AW.cond Z (fun h5=>?_) (fun h5=>?_)))
   ·
    cases gN h5 hf; refine AW.ret ?_; exact ⟨rfl,_,rfl,_,List.Sublist.refl _,h _ N9⟩
   ·
    replace hf:=gJ h5 hf; refine AW.skip (AW.region (cs 2 Z (AR.nil [0,2,6,7,8] Z ?_))); exact ⟨s4,τ4,(bW (i1 + 1)),Z,Z,Z,hf,N9⟩
 ·
  cases gJ h1 hf; refine AW.exit ?_; exact ⟨rfl,_,rfl,_,List.Sublist.refl _,h _ hT⟩
theorem uD (fs1:List av) (ps1:List Str) (h:Q (.ret (.fn 45 [.ref [.list (List.map av.cells fs1)],.ref [sP ps1]])) τ):PC 30 [.list (List.map av.cells fs1),sP ps1] τ Q:=by
 refine BN 6 [.tmp 4] [0,1] Tryz.func30 Z Z Z Z Z ?_; exact M 5 Z (Y Z h)
theorem tL (gM:BitVec 32) (Cn:BitVec 32) (i1:BitVec 32) {r0:BitVec 32} (hf:lT gM Cn i1=some r0) (h:Q (.ret (.int .u32 (r0.toNat:Int))) τ):PC 70 [.int .u32 (gM.toNat:Int),.int .u32 (Cn.toNat:Int),.int .u32 (i1.toNat:Int)] τ Q:=by
 unfold lT at hf; refine BN 18 [.tmp 6] [0,1,2] Tryz.func70 Z Z Z Z Z (W 3 Z (AS Z (AO.u32_xor gM Cn Z Z Z Z Z ?_))); refine B1 hf fun x1 h1 hf=>AS Z (AO.GX (gM ^^^ Cn) (2654435761:BitVec 32) h1 Z Z Z Z Z (U 1 Z (AS Z (AO.Jg x1 i1 Z Z Z Z Z (U 3 Z (AS Z (AO.Je (x1 + i1) 16 Z Z Z Z Z (AS Z (AO.u32_xor (x1 + i1) ((x1 + i1) >>> 16) Z Z Z Z Z ?_))))))))); cases hf; exact N 1 Z (Y Z h)
theorem wJ (key1:BitVec 64) (x1:BitVec 64) {r0:BitVec 64} (hf:mH key1 x1=some r0) (h:Q (.ret (.int .u64 (r0.toNat:Int))) τ):PC 46 [.int .u64 (key1.toNat:Int),.int .u64 (x1.toNat:Int)] τ Q:=by
 unfold mH at hf; refine BN 41 [.tmp 4] [0,1] Tryz.func46 Z Z Z Z Z (W 2 Z (AS Z (AO.vD x1 32 Z Z Z Z Z (AS Z (AO.yA (x1 >>> 32) Z xE sD Z Z (U 1 Z (AS Z (AO.yA x1 Z xE sD Z Z ?_)))))))); refine J 3 Z (LZ (fun l1 gM i1=>[(0,.int .u64 (key1.toNat:Int)),(5,.int .u32 (l1.toNat:Int)),(6,.int .u32 (gM.toNat:Int)),(14,iP i1)]) (fun l1 gM i1=>[]) (fun bQ l1 gM i1=>iA key1 bQ l1 gM i1=some r0) BIG (BitVec.setWidth 32 (x1 >>> 32)) (BitVec.setWidth 32 x1) 0 Z Z hf (fun _ _ _ hz=>aR hz) ?_); intro bQ l1 gM i1 hf; rw [iA] at hf; refine V 1 Z (C hf Z (fun h1 hf=>?_) fun h1 hf=>?_)
 ·
  refine W 3 Z (AS Z (AO.yA key1 Z xE sD Z Z (U 2 Z (AS Z (AO.rem Z Z Z (by decide) ?_))))); refine J 1 Z (C hf Z (fun h2 hf=>?_) fun h2 hf=>?_)
  · refine W 1 Z (AS Z (AO.vD key1 32 Z Z Z Z Z (AS Z (AO.yA (key1 >>> 32) Z xE sD Z Z (U 7 Z (AS Z (AO.GY Z BK sD Z ?_))))))); refine B1 hf fun x2 h3 hf=>CL Z (tL _ _ _ h3 (AS Z (AO.u32_xor l1 x2 Z Z Z Z Z ?_))); exact N 4 Z ⟨gM,(l1 ^^^ x2),(bW (i1 + 1)),Z,Z,Z,hf⟩
  refine W 6 Z (AS Z (AO.GY Z BK sD Z ?_)); refine B1 hf fun x3 h4 hf=>CL Z (tL _ _ _ h4 (AS Z (AO.u32_xor l1 x3 Z Z Z Z Z ?_))); exact N 4 Z ⟨gM,(l1 ^^^ x3),(bW (i1 + 1)),Z,Z,Z,hf⟩
 refine W 1 Z (AS Z (AO.BM l1 Z sD xE Z Z (AS Z (AO.vE (BitVec.setWidth 64 l1) 32 Z Z Z Z Z (U 1 Z (AS Z (AO.BM gM Z sD xE Z Z ?_))))))); refine BR hf fun x4 h5 hf=>?_; refine AS Z (AO.yx ((BitVec.setWidth 64 l1) <<< 32) (BitVec.setWidth 64 gM) h5 Z Z Z Z Z ?_); cases hf; exact N 1 Z (Y Z h)
theorem wI (b1:List UInt8) {r0:BitVec 64} (hf:jJ b1=some r0) (h:Q (.ret (.int .u64 (r0.toNat:Int))) τ):PC 31 [.list (List.map bN b1)] τ Q:=by
 unfold jJ at hf; refine BN 44 [.tmp 2] [0] Tryz.func31 Z Z Z Z Z (W 2 Z (AS Z (AO.aP (l:=b1) Z Z Z Z oz Z Z (AS Z (AO.Kt Z BK xE Z ?_))))); refine B1 hf fun x1 h1 hf=>CL Z (wJ _ _ h1 (J 1 Z (EU (fun b2 x2=>[(0,.list (List.map bN b2)),(3,.int .u64 (x2.toNat:Int))]) (fun b2 x2=>[]) (fun bQ b2 x2=>gu bQ b2 x2=some r0) BIG b1 x1 Z Z hf (fun _ _ hz=>aR hz) ?_))); intro bQ b2 x2 hf; rw [gu] at hf; refine W 1 Z (AS Z (AO.aP (l:=b2) Z Z Z Z oz Z Z (J 1 Z (C hf Z (fun h2 hf=>?_) fun h2 hf=>?_))))
 ·
  refine W 1 Z (AS Z (AO.aP (l:=b2) Z Z Z Z oz Z Z (AS Z (AO.min2 Z Z Z Z Z ?_)))); refine B1 hf fun x3 h3 hf=>U 4 Z (AS Z (AO.Fg h3 Z oz Z Z Z (fun _=>Z) Z ⟨_,Z⟩ (AS Z (AO.aP (l:=x3) Z Z Z Z oz Z Z (J 1 Z (EU (fun g1 i1=>[(0,.list (List.map bN b2)),(3,.int .u64 (x2.toNat:Int)),(4,iP (if (b2.length:Int) < 8 then (b2.length:Int) else 8)),(5,.int .u64 (g1.toNat:Int)),(20,.list (List.map bN x3)),(21,iP (x3.length:Int)),(22,iP i1)]) (fun g1 i1=>[]) (fun yc g1 i1=>jh b2 x2 x3 (gu bQ) yc g1 i1=some r0) BIG 0 0 Z Z hf (fun _ _ hz=>aR hz) ?_)))))); intro yc g1 i1 hf; rw [jh] at hf; refine V 1 Z (C hf Z (fun h4 hf=>?_) fun h4 hf=>?_)
  ·
   refine B1 hf fun c1 h5 hf=>W 1 Z (AS Z (AO.bR h5 Z Z Z Z oz Z Z (U 5 Z (AS Z (AO.BM c1.toBitVec Z yR xE Z Z ?_))))); refine B1 hf fun _ h6 hf=>U 2 Z (AS Z (AO.vE (BitVec.setWidth 64 c1.toBitVec) (Int.toNat (bW (8 * i1))) Z Z Z Z (by have:=zR h6; simp only [decide_eq_true_eq] at this; exact (Int.toNat_of_nonneg this).symm) ?_)); refine B1 hf fun g2 h7 hf=>AS Z (AO.yx g1 ((BitVec.setWidth 64 c1.toBitVec) <<< (Int.toNat (bW (8 * i1)))) h7 Z Z Z Z Z ?_); exact N 3 Z ⟨g2,(bW (i1 + 1)),Z,Z,Z,hf⟩
  refine B1 hf fun x4 h8 hf=>W 2 Z (CL Z (wJ _ _ h8 (U 1 Z (AS Z (AO.u64_xor x4 g1 Z Z Z Z Z ?_))))); refine B1 hf fun b3 h9 hf=>U 3 Z (AS Z (AO.Fg h9 Z oz Z Z Z (fun _=>Z) ⟨_,Z⟩ Z ?_)); exact N 1 Z ⟨b3,(x4 ^^^ g1),Z,Z,Z,hf⟩
 cases hf; exact M 2 Z (Y Z h)
theorem xV (Ck:Str) (iQ:List (BitVec 64)) {r0:BitVec 64} (hf:mG Ck iQ=some r0) (h:Q (.ret (.int .u64 (r0.toNat:Int))) τ):PC 29 [.str Ck,.list (List.map FE iQ)] τ Q:=by
 unfold mG at hf; refine BN 34 [.tmp 4] [0,1] Tryz.func29 Z Z Z Z Z ?_; refine B1 hf fun x1 h1 hf=>W 2 Z (AS Z (AO.yT h1 Z dL GR yR Z (fun v1=>(AS Z (AO.cu (List.map bN ([0]:List UInt8)) Z vI Z Z Z Z ?_))))); refine B1 hf fun b1 h2 hf=>AS Z (AO.jA (i:=0) (l:=x1) (m:=([0]:List UInt8)) h2 Z Z Z Z Z Z Z vI oz Z Z Z (fun _=>Z) (fun _=>Z) (by decide) (fun v2 s1 hs1=>?_)); cases hs1; refine U 2 Z (AS Z (AO.aP (l:=iQ) Z Z Z Z Io Z Z (J 1 Z (LZ (fun b2 v3 x2=>[(5,.own v3 (List.map bN b2)),(13,.list (List.map FE iQ)),(14,iP (iQ.length:Int)),(15,iP x2)]) (fun b2 v3 x2=>[.row v3 (List.map bN b2).length 1 5]) (fun bQ b2 v3 x2=>ig iQ bQ b2 x2=some r0) BIG b1 v2 0 Z Z hf (fun _ _ _ hz=>aR hz) ?_)))); intro bQ b2 v3 x2 hf; rw [ig] at hf; refine V 1 Z (C hf Z (fun h3 hf=>?_) fun h3 hf=>?_)
 ·
  refine B1 hf fun d1 h4 hf=>W 0 Z (AS Z (AO.bR h4 Z Z Z Z Io Z Z (J 3 Z (LZ (fun b3 v4 i1=>[(5,.own v4 (List.map bN b3)),(7,.int .u64 (d1.toNat:Int)),(13,.list (List.map FE iQ)),(14,iP (iQ.length:Int)),(15,iP x2),(19,iP i1)]) (fun b3 v4 i1=>[.row v4 (List.map bN b3).length 1 5]) (fun yc b3 v4 i1=>jS x2 d1 (ig iQ bQ) yc b3 i1=some r0) BIG b2 v3 0 Z Z hf (fun _ _ _ hz=>aR hz) ?_)))); intro yc b3 v4 i1 hf; rw [jS] at hf; refine V 1 Z (C hf Z (fun h5 hf=>?_) fun h5 hf=>?_)
  ·
   refine B1 hf fun _ h6 hf=>W 6 Z (AS Z (AO.vD d1 (Int.toNat (bW (8 * i1))) Z Z Z Z (by have:=zR h6; simp only [decide_eq_true_eq] at this; exact (Int.toNat_of_nonneg this).symm) ?_)); refine AS Z (AO.Kr (d1 >>> (Int.toNat (bW (8 * i1)))) Z Md yR Z Z (AS Z (AO.cu (List.map bN ([(UInt8.ofBitVec (BitVec.setWidth 8 (d1 >>> (Int.toNat (bW (8 * i1))))))]:List UInt8)) Z vI Z Z Z Z ?_))); refine B1 hf fun b4 h7 hf=>AS Z (AO.jA (i:=0) (l:=b3) (m:=([(UInt8.ofBitVec (BitVec.setWidth 8 (d1 >>> (Int.toNat (bW (8 * i1))))))]:List UInt8)) h7 Z Z Z Z Z Z Z vI oz Z Z Z (fun _=>Z) (fun _=>Z) (by decide) (fun v5 s2 hs2=>?_)); cases hs2; exact N 3 Z ⟨b4,v5,(bW (i1 + 1)),Z,Z,Z,hf⟩
  exact M 2 Z ⟨b3,v4,(bW (x2 + 1)),Z,Z,Z,hf⟩
 refine BR hf fun x3 h8 hf=>?_; refine W 1 Z (CL Z (wI _ h8 ?_)); cases hf; exact N 1 Z (Y Z h)
theorem kD (dB:List av) (dN:List Str) {r0:BitVec 64} (hf:gy dB dN=some r0) (h:Q (.ret (.int .u64 (r0.toNat:Int))) τ):PC 14 [.list (List.map av.cells dB),sP dN] τ Q:=by
 unfold gy at hf; refine B1 hf fun iQ h1 hf=>AC.none (AC.EC 22 [.tmp 4] [0,1] Tryz.func14 Z Z Z Z Z (AW.sr (cs 1 Z ?_))); refine AR.nil [0,1] Z (AW.sr (AR.step Z Z Z (AO.aK Z Ma (fun b5=>(AR.nil [0,1,5] Z ?_))))); refine AW.row 1 38 (AW.seq (AW.sr (cs 2 Z ?_))); refine AR.step Z Z Z (AO.call Z _ Z Z MH (uD _ _ (AR.nil [5,9] Z (AW.block (AW.Ey (β:=List (BitVec 64)) (X:=av) Z ME (fun x1=>[.agg (xL x1)]) (fun _=>Z) (by decide) fP (fun l τ=>∃ v,τ=[.row v (List.map FE l).length 1 38,.box b5 [.own v (List.map FE l)]]) (fun _=>none) (s0:=[]) (s1:=iQ) ⟨.slice none 0 0,Z⟩ Z ?_ ?_ ?_)))))
 · intro l T' hy τ hT; refine rW l T' fP hy dB dN h1 hT fun τ' hT'=>?_; exact ⟨⟨_,Z⟩,hT'⟩
 ·
  rintro l s x1 b s2 _ hh ⟨v0,rfl⟩; unfold fP at hh; obtain ⟨b1,h2,hh⟩:=um hh; obtain ⟨d1,h3,hh⟩:=um hh; obtain ⟨s3,h4,hh⟩:=um hh; cases hh; refine ⟨Z,(mY.region Z (AR.step Z Z Z (AO.aK Z JW (fun b6=>(AR.aS Z Z (AO.bG (i:=0) Z Z Z G5 Z Z Z Z Z ?_))))))⟩; refine AR.nil [5,6] Z (⟨Z,(mY.block (mY.drawn mixed Z ?_))⟩); refine AD.draw 8 (by kernel_rfl) Z ?_; refine Ev.cons Z Z Z (AO.bf (i:=2) Z Z Z GZ Z Z zg) (Ev.cs bZ 1 Z (Ev.cons Z Z Z (AO.bf (i:=0) Z Z Z FJ Z Z zg) (Ev.cons Z Z Z (AO.Ep h2 Z dL GR yR Z zg) ?_))); refine Ev.cons Z Z Z (AO.call Z _ Z Z MG (wI _ h3 zg)) (Ev.cs bZ 1 Z (Ev.cons Z Z Z (AO.bf (i:=0) Z Z Z Mh Z Z zg) (Ev.cons Z Z Z (AO.cu (List.map FE ([d1,x1.digest]:List (BitVec 64))) Z J2 Z Z Z Z zg) ?_))); refine Ev.nil ?_; show AR _ _ _ _ _ _ _ _; refine AR.step Z Z Z (AO.jA (i:=1) (l:=s) (m:=([d1,x1.digest]:List (BitVec 64))) h4 Z Z Z Z Z Z Z J2 Io Z Z Z (fun _=>Z) (fun _=>Z) (by decide) (fun v2 s1 hs1=>?_)); cases hs1; refine AR.aS Z Z (AO.bG (i:=2) Z Z Z GZ Z Z Z Z Z (AR.nil [] Z ?_)); exact ⟨Z,⟨_,.cons _ (List.Sublist.refl _),v2,Z⟩,Z,Z⟩
 rintro D _ ⟨v0,rfl⟩; show AW _ _ _ _ _ _ _; refine AW.sr (AR.step Z Z Z (AO.bf (i:=1) Z Z Z GZ Z Z (AR.step Z Z Z (AO.call Z _ Z Z MI (xV _ _ hf (cs 1 Z ?_)))))); refine AR.nil [4] Z (AW.ret ?_); exact .inr ⟨D,[_,_],Z,Z,_,⟨_,_,Z,Z,Z⟩,[],List.nil_sublist _,h⟩
theorem uQ (d1:BitVec 64) {r0:Str} (hf:pE d1=some r0) (h:Q (.ret (.str r0)) τ):PC 22 [.int .u64 (d1.toNat:Int)] τ Q:=by
 unfold pE at hf; refine BN 20 [.tmp 2] [0] Tryz.func22 Z Z Z Z Z (W 1 Z (AS Z (AO.aK Z L_ (fun b3=>?_)))); refine J 1 Z (EU (fun i1 b1=>[(0,.int .u64 (d1.toNat:Int)),(3,pP b3),(5,iP i1)]) (fun i1 b1=>[.box b3 [.int .u8 ((b1.getD 0 0).toNat:Int),.int .u8 ((b1.getD 1 0).toNat:Int),.int .u8 ((b1.getD 2 0).toNat:Int),.int .u8 ((b1.getD 3 0).toNat:Int),.int .u8 ((b1.getD 4 0).toNat:Int),.int .u8 ((b1.getD 5 0).toNat:Int),.int .u8 ((b1.getD 6 0).toNat:Int),.int .u8 ((b1.getD 7 0).toNat:Int),.int .u8 ((b1.getD 8 0).toNat:Int),.int .u8 ((b1.getD 9 0).toNat:Int),.int .u8 ((b1.getD 10 0).toNat:Int),.int .u8 ((b1.getD 11 0).toNat:Int),.int .u8 ((b1.getD 12 0).toNat:Int),.int .u8 ((b1.getD 13 0).toNat:Int),.int .u8 ((b1.getD 14 0).toNat:Int),.int .u8 ((b1.getD 15 0).toNat:Int)]]) (fun bQ i1 b1=>lU d1 bQ i1 b1=some r0) BIG 0 ([0,0,0,0,0,0,0,0,0,0,0,0,0,0,0,0]:List UInt8) Z Z hf (fun _ _ hz=>aR hz) ?_); intro bQ i1 b1 hf; rw [lU] at hf; refine V 1 Z (C hf Z (fun h1 hf=>?_) fun h1 hf=>?_)
 ·
  refine B1 hf fun _ h2 hf=>W 7 Z (AS Z (AO.vD d1 (Int.toNat (bW (60 - (bW (4 * i1))))) Z Z Z Z (by have:=zR h2; simp only [decide_eq_true_eq] at this; exact (Int.toNat_of_nonneg this).symm) ?_)); refine B1 hf fun x1 h3 hf=>AS Z (AO.Df (d1 >>> (Int.toNat (bW (60 - (bW (4 * i1)))))) (15:BitVec 64) h3 Z Z Z Z Z ?_); refine B1 hf fun x2 h4 hf=>AS Z (AO.fI h4 Z dL Z Z ?_); refine B1 hf fun e1 h5 hf=>AS Z (AO.zG h5 Z Kk Z Z Z ?_); refine B1 hf fun b2 h6 hf=>AR.aS Z Z (AO.uV (i:=0) (fun z:UInt8=>.int .u8 (z.toNat:Int)) 0 h5 h6 Z Z Z Ng Z Z Z Z Z Z ?_); exact N 2 Z ⟨(bW (i1 + 1)),([(b2.getD 0 0),(b2.getD 1 0),(b2.getD 2 0),(b2.getD 3 0),(b2.getD 4 0),(b2.getD 5 0),(b2.getD 6 0),(b2.getD 7 0),(b2.getD 8 0),(b2.getD 9 0),(b2.getD 10 0),(b2.getD 11 0),(b2.getD 12 0),(b2.getD 13 0),(b2.getD 14 0),(b2.getD 15 0)]:List UInt8),Z,Z,Z,hf⟩
 refine W 0 Z (AS Z (AO.FP Z Kk Z (AS Z (AO.A_ (i:=0) (s:=([(b1.getD 0 0),(b1.getD 1 0),(b1.getD 2 0),(b1.getD 3 0),(b1.getD 4 0),(b1.getD 5 0),(b1.getD 6 0),(b1.getD 7 0),(b1.getD 8 0),(b1.getD 9 0),(b1.getD 10 0),(b1.getD 11 0),(b1.getD 12 0),(b1.getD 13 0),(b1.getD 14 0),(b1.getD 15 0)]:List UInt8)) Z GR yR dL Z Z Z Z ?_)))); cases hf; exact N 1 Z (Y Z h)
theorem wD (s1:List aH) {r0:List aH} (hf:bF s1=some r0) (h:Q (.ret (.list (List.map aH.cells r0))) τ):PC 55 [.list (List.map aH.cells s1)] τ Q:=by
 unfold bF at hf; refine BN 8 [.tmp 2] [0] Tryz.func55 Z Z Z Z Z (W 0 Z (AS Z (AO.eF Z Z (U 1 Z (AS Z (AO.ru Z Z GU (fun b hb=>(J 0 Z (AW.cond Z (fun h1=>?_) (fun h1=>?_))))))))))
 · obtain rfl:s1=[]:=List.map_eq_nil_iff.1 (hb h1); obtain ⟨_,rfl⟩:=oJ hf; refine W 0 Z (AS Z (AO.eF Z Z ?_)); exact N 0 rfl ⟨rfl,_,⟨_,_,rfl,rfl,rfl⟩,_,List.Sublist.refl _,h⟩
 refine W 0 Z (AS Z (AO.nE [] Z vJ Z Z Z Z Z (fun v1=>(U 1 Z (AS Z (AO.jA (i:=0) (l:=[]) (m:=s1) hf Z Z Z Z Z Z Z vJ wB Z Z Z (aH.dG) (aH.cells_one) (by decide) (fun v2 s2 hs2=>?_))))))); cases hs2; exact N 1 Z (Y Z h)
theorem uy (s1:List aH) {r0:List aH} (hf:bF s1=some r0) {Q:bV→List aC→Prop} (h:∀ v,Q (.ret (.val v)) [.buf v r0.length 7 57 (r0.flatMap aH.cells)]):PC 55 [.list (List.map aH.cells s1)] [] Q:=by
 unfold bF at hf; obtain ⟨hl,e0⟩:=oJ hf; rw [List.nil_append] at e0; subst e0; simp only [List.length_nil,Nat.zero_add] at hl; have hlen:∀ x:aH,(aH.cells x).length=7:=fun _=>Z; have hone:∀ x:aH,(aH.cells x).all PV.one=true:=fun _=>Z; refine AC.fH 8 [.tmp 2] [0] Tryz.func55 Z Z Z Z Z (AW.sr (AR.step Z Z Z (AO.eF Z Z (AR.nil [0] Z ?_)))); refine AW.seq (AW.sr (cs 1 Z (AR.step Z Z Z (AO.ru Z Z GU (fun b hb=>?_))))); refine AR.nil [0,4] Z (AW.cond Z (fun h1=>?_) (fun h1=>?_))
 · obtain rfl:r0=[]:=List.map_eq_nil_iff.1 (hb h1); refine AW.sr (AR.step Z Z Z (AO.Cg Z Z (AR.nil [2] Z (AW.NN 7 57 ?_)))); refine AW.ret ?_; exact ⟨rfl,_,⟨_,_,rfl,rfl,rfl⟩,_,List.Sublist.refl _,h _⟩
 refine AW.skip (AW.sr (AR.step Z Z Z (AO.nE [] Z vJ Z Z Z Z Z (fun v1=>(cs 1 Z ?_))))); refine AR.step Z Z Z (AO.EN (i:=0) (l2:=List.map aH.cells r0) Z Z Z Z Z Z Z vJ wB (fun y hy=>?_) (fun y hy=>?_) ?_ ?_ (fun v2 s1 hs1=>?_))
 · obtain ⟨s,_,rfl⟩:=List.mem_map.1 hy; exact hlen s
 · obtain ⟨s,_,rfl⟩:=List.mem_map.1 hy; exact hone s
 · rw [List.length_map]; unfold GD at hl; unfold maxLen; omega
 · rw [List.length_map]; unfold GD at hl; omega
 cases hs1; refine cs 1 Z (AR.nil [2] Z (AW.ret ?_)); have hv:=h v2; rw [List.flatMap_def,show r0.length=(List.map aH.cells r0).length from (List.length_map _).symm] at hv; exact ⟨rfl,_,⟨_,_,rfl,rfl,rfl⟩,_,List.Sublist.refl _,hv⟩
theorem j3 (s1:List aH) {r0:List aH} (hf:bF s1=some r0) {Q:bV→List aC→Prop} (h:∀ v,Q (.ret (.own v (List.map aH.cells r0))) [.row v (List.map aH.cells r0).length 7 57]):PC 55 [.list (List.map aH.cells s1)] [] Q:=by
 unfold bF at hf; refine AC.H7 8 [.tmp 2] [0] Tryz.func55 Z Z Z Z Z (AW.sr (AR.step Z Z Z (AO.eF Z Z (AR.nil [0] Z ?_)))); refine AW.seq (AW.sr (cs 1 Z (AR.step Z Z Z (AO.ru Z Z GU (fun b hb=>?_))))); refine AR.nil [0,4] Z (AW.cond Z (fun h1=>?_) (fun h1=>?_))
 · obtain rfl:s1=[]:=List.map_eq_nil_iff.1 (hb h1); obtain ⟨_,rfl⟩:=oJ hf; refine AW.sr (cs 1 Z (AR.nil [2] Z (AW.row 7 57 ?_))); refine AW.ret ?_; exact ⟨rfl,_,⟨_,_,rfl,rfl,rfl⟩,_,List.Sublist.refl _,h _⟩
 refine AW.skip (AW.sr (AR.step Z Z Z (AO.nE [] Z vJ Z Z Z Z Z (fun v1=>(cs 1 Z ?_))))); refine AR.step Z Z Z (AO.jA (i:=0) (l:=[]) (m:=s1) hf Z Z Z Z Z Z Z vJ wB Z Z Z (aH.dG) (aH.cells_one) (by decide) (fun v2 s2 hs2=>?_)); cases hs2; refine cs 1 Z (AR.nil [2] Z (AW.ret ?_)); exact ⟨rfl,_,⟨_,_,rfl,rfl,rfl⟩,_,List.Sublist.refl _,h v2⟩
theorem rD (c1:aX) (su:List aH) (dB:List av) {r0:List aH} {r1:Int} (hf:jK c1 su dB=some (r0,r1)) (h:Q (.ret (.tuple [.list (List.map aH.cells r0),iP r1])) τ):PC 36 [.agg (mV c1),.list (List.map aH.cells su),.list (List.map av.cells dB)] τ Q:=by
 unfold jK at hf; refine AC.none (AC.fH 29 [.tmp 6,.tmp 7] [0,1,2] Tryz.func36 Z Z Z Z Z (AW.sr (AR.step Z Z Z (AO.wL Z Z Z ?_)))); refine AR.step Z Z Z (AO.eF Z Z (cs 1 Z (AR.nil [1,2,3] Z (AW.seq ?_)))); refine AW.sr (cs 1 Z ?_); refine B1 hf fun e1 h1 hf=>?_; refine AR.step Z Z Z (AO.call Z _ Z Z Nj (xA _ h1 (cs 1 Z (AR.nil [1,2,3,8] Z (AW.sr ?_))))); refine cs 2 Z (AR.nil [1,2,3,8,13] Z (AW.cond Z (fun h2=>?_) (fun h2=>?_)))
 ·
  replace hf:=gN h2 hf; refine AW.sr (cs 1 Z (AR.step Z Z Z (AO.eF Z Z (cs 1 Z ?_)))); refine AR.nil [6,7] Z (AW.ret ?_); cases hf; exact ⟨rfl,_,⟨_,_,rfl,rfl,_,_,rfl,rfl,rfl⟩,[],List.nil_sublist _,h⟩
 ·
  replace hf:=gJ h2 hf; refine AW.skip (AW.seq (AW.sr (cs 1 Z ?_))); refine B1 hf fun x1 h3 hf=>?_; refine AR.step Z Z Z (AO.call Z _ Z Z MB (jB _ f_ 54 [] Mx (fun _ _ hz=>qb _  hz) h3 (AR.nil [1,2,3,16] Z (AW.cond Z (fun h4=>?_) (fun h4=>?_)))))
  ·
   replace hf:=gN h4 hf; refine AW.sr (AR.step Z Z Z (AO.eF Z Z (cs 1 Z (AR.nil [6,7] Z ?_)))); refine AW.ret ?_; cases hf; exact ⟨rfl,_,⟨_,_,rfl,rfl,_,_,rfl,rfl,rfl⟩,[],List.nil_sublist _,h⟩
  ·
   replace hf:=gJ h4 hf; refine AW.skip (AW.sr (cs 3 Z ?_)); refine B1 hf fun x2 h5 hf=>?_; refine AR.step Z Z Z (AO.call Z _ Z Z J_ (kD _ _ h5 ?_)); refine B1 hf fun x3 h6 hf=>?_; refine AR.step Z Z Z (AO.call Z _ Z Z MJ (uQ _ h6 (AR.step Z Z Z (AO.build Z nU Hl Z (AR.step Z Z Z (AO.aK Z nU (fun b9=>(AR.aS Z Z (AO.bG (i:=0) Z Z Z qd Z Z Z Z Z ?_))))))))); refine AR.nil [1,9] Z (AW.seq ?_); refine B1 hf fun x4 h7 hf=>?_; refine AW.Fx 1 5 [] [.box b9 [iP 3,.bool false,iP 0,.str x3,.own (.slice none 0 0) [],.own (.slice none 0 0) []]] (fun S e s=>∃ v':Value,e.get 23=.list (List.map aH.cells su)∧e.get 9=pP b9∧(S 1=true→e.get 24=.own v' (List.map aH.cells x4))∧(S 2=true→e.get 25=.agg [iP 3,.bool false,iP 0,.str x3,.own (.slice none 0 0) [],.own (.slice none 0 0) []])∧(S 3=true→e.get 26=.agg [.str ([102,105,108,101,115]:Str),iP 3,.bool false,iP 0,.str x3,.own (.slice none 0 0) [],.own (.slice none 0 0) []])∧(S 4=true→e.get 27=.list (List.map aH.cells [(aH.mk ([102,105,108,101,115]:Str) (aj.mk 3 false 0 x3 [] []))]))∧s=(bif S 1 then [.row v' (List.map aH.cells x4).length 7 57] else []) ++ [.box b9 [iP 3,.bool false,iP 0,.str x3,.own (.slice none 0 0) [],.own (.slice none 0 0) []]]) mixed (by kernel_rfl) Z Z (List.Perm.refl _) ?_ ?_ ?_ ?_
   ·
    refine Ev.cs bZ 1 Z (Ev.nil ?_); exact ⟨.nilIface,Z,Z,(fun h=>by cases h),(fun h=>by cases h),(fun h=>by cases h),(fun h=>by cases h),Z⟩
   ·
    rintro S S' e s hS ⟨v',q1,q2,q3,q4,q5,q6,qs⟩; have z:=fun i h1 h2=>(hS i h1 h2).symm; refine ⟨v',q1,q2,?_,?_,?_,?_,?_⟩
    ·
     rw [z 1 (by decide) (by decide)]; exact q3
    ·
     rw [z 2 (by decide) (by decide)]; exact q4
    ·
     rw [z 3 (by decide) (by decide)]; exact q5
    ·
     rw [z 4 (by decide) (by decide)]; exact q6
    ·
     rw [z 1 (by decide) (by decide)]; exact qs
   ·
    rintro S e s i o ⟨v',q1,q2,q3,q4,q5,q6,rfl⟩ hi1 hi2 LP hp ho; have hi:i=1∨i=2∨i=3∨i=4:=by omega
    rcases hi with rfl | rfl | rfl | rfl
    ·
     cases ho; refine ⟨Z,(fun t ht=>by cases ht; decide),AO.less (Less.add q1 Less.nil) ?_⟩; rw [LP]; refine AO.M7 Z _ Z Z Mw (AC.none (j3 _ h7 (fun v3=>?_))); exact ⟨v3,q1,q2,(fun _=>Z),q4,q5,q6,Z⟩
    ·
     cases ho; refine ⟨Z,(fun t ht=>by cases ht; decide),AO.less (Less.add q2 Less.nil) ?_⟩; cases h8:S 1 with
     | false=>
      refine AO.bf (i:=0) Z Z Z qd Z Z ?_; exact ⟨v',q1,q2,q3,(fun _=>Z),q5,q6,by simp [h8]⟩
     | true=>
      refine AO.bf (i:=1) Z Z Z qd Z Z ?_; exact ⟨v',q1,q2,q3,(fun _=>Z),q5,q6,by simp [h8]⟩
    ·
     cases ho; have s2:=hp 2 (any_beq.1 Z) (by decide); refine ⟨Z,(fun t ht=>by cases ht; decide),AO.less (Less.add (q4 s2) Less.nil) (AO.build Z GH Kv Z ?_)⟩; exact ⟨v',q1,q2,q3,q4,(fun _=>Z),q6,Z⟩
    ·
     cases ho; have s3:=hp 3 (any_beq.1 Z) (by decide); refine ⟨Z,(fun t ht=>by cases ht; decide),AO.less (Less.add (q5 s3) Less.nil) (AO.cu (List.map aH.cells [(aH.mk ([102,105,108,101,115]:Str) (aj.mk 3 false 0 x3 [] []))]) rfl vJ rfl rfl rfl (by first | rfl | simp only [List.map,aH.aQ]) ?_)⟩
     exact ⟨v',q1,q2,q3,q4,q5,(fun _=>Z),Z⟩
   rintro S e s hS ⟨v1,q1,q2,q3,q4,q5,q6,rfl⟩; rw [hS 1 (by decide) (by decide)]; refine AR.less (Less.add (q3 (hS 1 (by decide) (by decide))) (Less.add (q6 (hS 4 (by decide) (by decide))) Less.nil)) ?_; refine B1 hf fun x5 h8 hf=>?_; refine AR.step Z Z Z (AO.jA (i:=0) (l:=x4) (m:=[(aH.mk ([102,105,108,101,115]:Str) (aj.mk 3 false 0 x3 [] []))]) h8 Z Z Z Z Z Z Z vJ wB Z Z Z (aH.dG) (aH.cells_one) (by decide) (fun v2 s1 hs1=>?_)); cases hs1; refine cs 2 Z (AR.nil [6,7] Z (AW.ret ?_)); cases hf; exact ⟨rfl,_,⟨_,_,rfl,rfl,_,_,rfl,rfl,rfl⟩,[],List.nil_sublist _,h⟩
theorem Af (fZ:List aH) {r0:Int} (hf:wu fZ=some r0) (h:Q (.ret (iP r0)) τ):PC 74 [.list (List.map aH.cells fZ)] τ Q:=by
 unfold wu at hf; refine BN 39 [.tmp 2] [0] Tryz.func74 Z Z Z Z Z (W 2 Z (AS Z (AO.aP (l:=fZ) Z Z Z Z wB Z Z (J 1 Z (C hf Z (fun h1 hf=>?_) fun h1 hf=>?_)))))
 · cases hf; exact M 1 Z (Y Z h)
 refine W 0 Z (AS Z (AO.DI Z (fun m10=>(U 2 Z (AS Z (AO.aP (l:=fZ) Z Z Z Z wB Z Z (J 1 Z (EU (fun x1 y1=>[(3,.val (.map (some m10))),(11,.list (List.map aH.cells fZ)),(12,iP (fZ.length:Int)),(13,iP x1)]) (fun x1 y1=>[.obj m10 (kI y1)]) (fun bQ x1 y1=>pq fZ bQ x1 y1=some r0) BIG 0 [] Z Z hf (fun _ _ hz=>aR hz) ?_)))))))); intro bQ x1 y1 hf; rw [pq] at hf; refine V 1 Z (C hf Z (fun h2 hf=>?_) fun h2 hf=>?_)
 ·
  refine B1 hf fun e1 h3 hf=>W 0 Z (AS Z (AO.bR h3 Z Z Z Z wB (aH.aQ _) Z (U 1 Z (AS Z (AO.aK Z GH (fun b5=>?_)))))); refine B1 hf fun x2 h4 hf=>Rr 4 [0,0] Z Z (CL Z (oG _ h4 (J 1 Z (C hf Z (fun h5 hf=>?_) fun h5 hf=>?_))))
  · cases hf; exact M 1 Z (Y Z h)
  refine B1 hf fun e2 h6 hf=>Wr 2 [0] Z Z (CL Z (mX _ h6 (J 3 Z (C hf Z (fun h7 hf=>?_) fun h7 hf=>?_))))
  · cases hf; exact M 2 Z (Y Z h)
  refine Wr 3 [0] Z Z (AS Z (AO.yD (i:=1) (l:=y1) Z Z Z Z wT dL Ja (U 1 Z (AR.aS Z Z (AO.zy (i:=1) (l:=y1) Z Z Z Z Z wT dL (Rr 3 [0] Z Z (AS Z (AO.yD (i:=1) (l:=(pW y1 e1.name (bW ((uw y1 e1.name) + 1)))) Z Z Z Z wT dL Ja (J 1 Z (C hf Z (fun h8 hf=>?_) fun h8 hf=>?_))))))))))
  · cases hf; exact M 1 Z (Y Z h)
  refine NQ 2 Z (AR.drop1 ?_); exact N 0 Z ⟨(bW (x1 + 1)),(pW y1 e1.name (bW ((uw y1 e1.name) + 1))),Z,Z,Z,hf⟩
 cases hf; exact M 1 Z (Y Z h)
theorem A9 (e1:ak) (fZ:List aH) {r0:List aH} {r1:Int} (hf:sZ e1 fZ=some (r0,r1)) (h:Q (.ret (.tuple [.list (List.map aH.cells r0),iP r1])) τ):PC 125 [.agg (bY e1),.list (List.map aH.cells fZ)] τ Q:=by
 unfold sZ at hf; refine BN 19 [.tmp 4,.tmp 5] [0,1] Tryz.func125 Z Z Z Z Z (W 1 Z (AS Z (AO.eF Z Z ?_))); refine B1 hf fun f1 h1 hf=>U 2 Z (CL Z (Af _ h1 (J 3 Z (C hf Z (fun h2 hf=>?_) fun h2 hf=>?_))))
 · refine W 1 Z (AS Z (AO.eF Z Z ?_)); cases hf; exact N 1 Z (Y Z h)
 refine B1 hf fun f2 h3 hf=>W 1 Z (CL Z (oG _ h3 (J 3 Z (C hf Z (fun h4 hf=>?_) fun h4 hf=>?_))))
 · refine W 1 Z (AS Z (AO.eF Z Z ?_)); cases hf; exact N 1 Z (Y Z h)
 cases hf; exact M 3 Z (Y Z h)
@[reducible] def C_ :gB aZ Unit→bV
 | .ok r=>.ret (.tuple [])
 | .bad e=>.panic (.iface 218 (.agg [iP e.code]))
theorem xU (e1:Int) {rX:gB aZ Unit} (hf:wY e1=some rX) (h:Q (C_ rX) τ):PC 245 [iP e1] τ Q:=by
 unfold wY at hf; refine BN 5 [] [0] Tryz.func245 Z Z Z Z Z (W 2 Z (AS Z (AO.Jw Z K7 Z (AR.aS Z Z (AO.K3 Z Z ?_))))); cases hf; exact ⟨Z,[],List.nil_sublist _,h⟩
@[reducible] def vB :gB aZ aj→bV
 | .ok r=>.ret (.agg (bJ r))
 | .bad e=>.panic (.iface 218 (.agg [iP e.code]))
theorem pG (s1:List aH) (name1:Str) {rX:gB aZ aj} (hf:nD s1 name1=some rX) (h:Q (vB rX) τ):PC 198 [.list (List.map aH.cells s1),.str name1] τ Q:=by
 unfold nD at hf; refine BN 22 [.cell 4 55] [0,1] Tryz.func198 Z Z Z Z Z (W 0 Z (AS Z (AO.aK Z nU (fun b4=>(U 1 Z (AS Z (AO.aP (l:=s1) Z Z Z Z Ip Z Z (J 1 Z (GA (fun x1=>[(1,.str name1),(4,pP b4),(7,.list (List.map aH.cells s1)),(8,iP (s1.length:Int)),(9,iP x1)]) (fun x1=>[.box b4 [iP 0,.bool false,iP 0,.str ([]:Str),.own (.slice none 0 0) [],.own (.slice none 0 0) []]]) (fun bQ x1=>iW s1 name1 bQ x1=some rX) BIG 0 Z Z hf (fun _ hz=>aR hz) ?_))))))))); intro bQ x1 hf; rw [iW] at hf; refine V 1 Z (C hf Z (fun h1 hf=>?_) fun h1 hf=>?_)
 ·
  refine B1 hf fun e1 h2 hf=>W 0 Z (AS Z (AO.bR h2 Z Z Z Z Ip (aH.aQ _) Z (U 1 Z (AS Z (AO.aK Z GH (fun b6=>(Rw 5 [0,0] Z Z (C hf Z (fun h3 hf=>?_) fun h3 hf=>?_))))))))
  · cases hf; exact Wx 3 [0,1] Z Z (ZC [1] Z Z h)
  refine NQ 2 Z (AR.drop1 ?_); exact N 0 Z ⟨(bW (x1 + 1)),Z,Z,Z,hf⟩
 rcases uj hf with ⟨e2,h4,hf⟩ | ⟨_,h4,hf⟩
 · refine W 0 Z (CL Z (xU _ h4 ?_)); cases hf; exact ⟨Z,[],List.nil_sublist _,h⟩
 refine W 0 Z (CL Z (xU _ h4 ?_)); cases hf; exact Rx 2 [0] Z Z (ZC [0] Z Z h)
@[reducible] def kV :gB aZ aj→bV
 | .ok r=>.ret (.agg (bJ r))
 | .bad e=>.panic (.iface 218 (.agg [iP e.code]))
abbrev pO (fE:List aH→ak→Option (gB aZ aj)):Prop:=∀ (Gt:List aH) (rF:ak) {eD:gB aZ aj},fE Gt rF=some eD→∀ {τ:List aC} {Q:bV→List aC→Prop} (h:Q (kV eD) τ),PC 160 [.list (List.map aH.cells Gt),.agg (bY rF)] τ Q
theorem vC (fE) (nG:pO fE) (s1:List aH) (e1:ak) {rX:gB aZ aj} (hf:lN fE s1 e1=some rX) (h:Q (kV rX) τ):PC 160 [.list (List.map aH.cells s1),.agg (bY e1)] τ Q:=by
 unfold lN at hf; refine BN 104 [.cell 4 55] [0,1] Tryz.func160 Z Z Z Z Z (W 1 Z (AS Z (AO.aK Z nU (fun b4=>(J 4 Z (C hf Z (fun h1 hf=>?_) fun h1 hf=>?_))))))
 · cases hf; exact Wx 3 [0] Z Z (ZC [0] Z Z h)
 refine V 2 Z (C hf Z (fun h2 hf=>?_) fun h2 hf=>?_)
 ·
  rcases uj hf with ⟨e2,h3,hf⟩ | ⟨x1,h3,hf⟩
  · refine W 3 Z (CL Z (pG _ _ h3 ?_)); cases hf; exact ⟨Z,[],List.nil_sublist _,h⟩
  refine W 3 Z (CL Z (pG _ _ h3 ?_)); cases hf; exact Rx 1 [0] Z Z (ZC [0] Z Z h)
 refine V 2 Z (C hf Z (fun h4 hf=>?_) fun h4 hf=>?_)
 · exact aR hf
 refine V 2 Z (C hf Z (fun h5 hf=>?_) fun h5 hf=>?_)
 ·
  refine B1 hf fun e3 h6 hf=>W 3 Z (AS Z (AO.bR h6 Z Z (ak.bH _) Z lS (ak.aQ _) Z ?_)); rcases uj hf with ⟨e4,h7,hf⟩ | ⟨x2,h7,hf⟩
  · refine U 1 Z (CL Z (nG _ _ h7 ?_)); cases hf; exact ⟨Z,[],List.nil_sublist _,h⟩
  refine U 1 Z (CL Z (nG _ _ h7 (AS Z (AO.aK Z nU (fun b5=>?_))))); exact aR hf
 refine V 2 Z (C hf Z (fun h8 hf=>?_) fun h8 hf=>?_)
 · exact aR hf
 refine V 2 Z (C hf Z (fun h9 hf=>?_) fun h9 hf=>?_)
 · exact aR hf
 refine V 2 Z (C hf Z (fun h10 hf=>?_) fun h10 hf=>?_)
 · exact aR hf
 refine V 2 Z (C hf Z (fun h11 hf=>?_) fun h11 hf=>?_)
 · exact aR hf
 refine V 2 Z (C hf Z (fun h12 hf=>?_) fun h12 hf=>?_)
 · exact aR hf
 exact aR hf
theorem vT :∀ k:Nat,(pO (g_ k)):=by
 intro k
 induction k with
 | zero=>exact fun _ _ _ hz=>by first | cases hz | (unfold g_ at hz; cases hz)
 | succ k ih=>exact fun Gt rF eD hz τ Q hq=>vC (g_ k) ih Gt rF hz hq
theorem pI (Gt:List aH) (rF:ak) {eD:gB aZ aj} (hf:rO Gt rF=some eD) (h:Q (kV eD) τ):PC 160 [.list (List.map aH.cells Gt),.agg (bY rF)] τ Q:=
 ((vT BIG)) Gt rF hf h
theorem xw (s1:List aH) (e1:ak) {r0:aj} {r1:Int} (hf:ow s1 e1=some (r0,r1)) (h:Q (.ret (.tuple [.agg (bJ r0),iP r1])) τ):PC 126 [.list (List.map aH.cells s1),.agg (bY e1)] τ Q:=by
 unfold ow at hf; refine AC.none (AC.xJ 10 [.cell 4 55,.cell 5 30] [0,1] [0,1] Tryz.func126 Z Z Z Z Z Tryz.func159 Z Z Z Z Z Z Z KM (AW.sr (AR.step Z Z Z (AO.wL Z Z Z ?_)))); refine AR.step Z Z Z (AO.aK Z nU (fun b4=>(AR.step Z Z Z (AO.aK Z GI (fun b5=>(AR.nil [0,3,4,5] Z (AW.sr ?_))))))); refine cs 1 Z (AR.defer (vs:=[.pointer (some ⟨b4,0,none⟩),.pointer (some ⟨b5,0,none⟩)]) Z Z Z Z Z Z (AR.nil [0,3,4,5] Z (AW.sr ?_))); refine cs 2 Z ?_; rcases uj hf with ⟨f1,h1,hf⟩ | ⟨v1,h1,hf⟩
 ·
  refine AR.step Z Z Z (AO.call Z _ Z Z HV (pI _ _ h1 ?_)); cases hf; refine ⟨[.pointer (some ⟨b4,0,none⟩),.pointer (some ⟨b5,0,none⟩)],_,Z,Z,Z,(AR.step Z Z Z (AO.EY Z Z Ji (cs 3 Z (AR.step Z Z Z (AO.aK Z GJ (fun b6=>?_))))))⟩; refine AR.aS Z Z (AO.bG (i:=0) Z Z Z G6 Z Z Z Z Z (cs 1 Z (AR.nil [0,1,2,3] Z (AW.sr ?_)))); refine cs 1 Z (AR.nil [0,1,2,9] Z (AW.cond Z (fun _=>?_) (fun hh=>by cases hh))); refine AW.Iq 1 3 4 [_] [_,_] mixed (by kernel_rfl) (by kernel_rfl) (by kernel_rfl) Z Z Z (List.Perm.refl _) ?_; refine Ev.cons Z Z Z (AO.build Z nU Hl Z zg) (Ev.nil ?_); show Ev _ _ _ _ _ _ _; refine Ev.cs bZ 1 Z (Ev.cons Z Z Z (AO.bf (i:=0) Z Z Z oV Z Z zg) (Ev.nil (TF.aS Z Z (AO.bG (i:=1) Z Z Z qd Z Z Z Z Z ?_)))); refine TF.nil ?_; show AR _ _ _ _ _ _ _ _; refine AR.aS Z Z (AO.bG (i:=1) Z Z Z oV Z Z Z Z Z (AR.nil [] Z ?_)); exact ⟨rfl,_,⟨_,_,rfl,⟨_,_,2,_,_,rfl,rfl,qd,rfl⟩,⟨_,_,rfl,⟨_,_,1,_,_,rfl,rfl,oV,rfl⟩,rfl⟩⟩,[],List.nil_sublist _,h⟩
 refine AR.step Z Z Z (AO.call Z _ Z Z HV (pI _ _ h1 ?_)); cases hf; refine AR.aS Z Z (AO.bG (i:=1) Z Z Z qd Z Z Z Z Z (AR.aS Z Z (AO.bG (i:=0) Z Z Z oV Z Z Z Z Z (AR.nil [4,5] Z (AW.ret ?_))))); refine ⟨[.pointer (some ⟨b4,0,none⟩),.pointer (some ⟨b5,0,none⟩)],_,Z,Z,Z,(AR.step Z Z Z (AO.Di (p:=.agg [iP 0]) Z Z Jk (fun _ _=>by simp only [aY]; exact ⟨[.int .i64 0],Z,aI.cons (by simp [aY]) aI.nil⟩) ?_))⟩; refine cs 3 Z (AR.step Z Z Z (AO.aK Z GJ (fun b6=>(AR.aS Z Z (AO.bG (i:=0) Z Z Z G6 Z Z Z Z Z (cs 1 Z ?_)))))); refine AR.nil [3] Z (AW.sr (cs 1 Z (AR.nil [9] Z ?_))); refine AW.cond Z (fun hh=>by cases hh) (fun _=>?_); refine AW.skip ?_; exact ⟨rfl,_,⟨_,_,rfl,⟨_,_,2,_,_,rfl,rfl,qd,rfl⟩,⟨_,_,rfl,⟨_,_,1,_,_,rfl,rfl,oV,rfl⟩,rfl⟩⟩,[],List.nil_sublist _,h⟩
abbrev wN (eO:aj→Option aj):Prop:=∀ (Gs:aj) {iE:aj},eO Gs=some iE→∀ {τ:List aC} {Q:bV→List aC→Prop} (h:Q (.ret (.agg (bJ iE))) τ),PC 127 [.agg (bJ Gs)] τ Q
theorem BI (eO) (zJ:wN eO) (v1:aj) {r0:aj} (hf:qY eO v1=some r0) (h:Q (.ret (.agg (bJ r0))) τ):PC 127 [.agg (bJ v1)] τ Q:=by
 unfold qY at hf; refine BN 31 [.cell 2 55] [0] Tryz.func127 Z Z Z Z Z (W 1 Z (AS Z (AO.aK Z nU (fun b2=>(U 1 Z (AS Z (AO.aK Z nU (fun b3=>(Rr 7 [0,0,0] Z Z (AS Z (AO.aP (l:=v1.dS) Z Z Z Z uL Z (aj.bH _) ?_))))))))))); refine J 1 Z (AW.row 6 55 (AW.row 1 9 (OA (fun x1 bI v2 v3=>[(1,.ref (bJ v1)),(2,pP b2),(3,pP b3),(10,.list (aj.cZ v1.dS)),(11,iP (v1.dS.length:Int)),(12,iP x1)]) (fun x1 bI v2 v3=>[.row v3 (List.map kF bI.keys).length 1 9,.row v2 (aj.cZ bI.dS).length 6 55,.box b3 [iP bI.kind,.bool bI.jW,iP bI.ng,.str bI.l7,.own v2 (aj.cZ bI.dS),.own v3 (List.map kF bI.keys)],.box b2 [iP 0,.bool false,iP 0,.str ([]:Str),.own (.slice none 0 0) [],.own (.slice none 0 0) []]]) (fun bQ x1 bI v2 v3=>mW eO v1 bQ x1 bI=some r0) BIG 0 (aj.mk v1.kind v1.jW v1.ng v1.l7 [] []) (.slice none 0 0) (.slice none 0 0) Z Z hf (fun _ _ _ _ hz=>aR hz) ?_))); intro bQ x1 bI v2 v3 hf; rw [mW] at hf; refine V 1 Z (C hf Z (fun h1 hf=>?_) fun h1 hf=>?_)
 ·
  refine B1 hf fun e1 h2 hf=>W 0 Z (AS Z (AO.bR h2 Z Z (aj.bH _) Z uL (aj.aQ _) Z (U 1 Z (AS Z (AO.aK Z nU (fun b5=>(Rw 1 [0] Z Z (AW.draw 5 mixed (by kernel_rfl) Z ?_)))))))); refine Ev.cs bZ 1 Z (Ev.cons Z Z Z (AO.bf (i:=3) Z Z Z Mg Z Z zg) (Ev.cons Z Z Z (AO.bf (i:=0) Z Z Z qd Z Z zg) ?_)); refine B1 hf fun x2 h3 hf=>Ev.cons rfl rfl rfl (AO.call rfl _ rfl rfl KT (zJ _ h3 ⟨rfl,rfl⟩)) (Ev.cons rfl rfl rfl (AO.cu (aj.cZ [x2]) rfl J3 rfl rfl rfl (by first | rfl | simp only [List.map,aj.aQ,aj.cZ]) ⟨rfl,rfl⟩) ?_)
  refine Ev.nil ?_; show AR _ _ _ _ _ _ _ _; refine B1 hf fun x3 h4 hf=>AS Z (AO.jA (i:=2) (l:=bI.dS) (m:=[x2]) h4 Z Z Z Z Z Z Z J3 uL (aj.bH _) (aj.bH _) (aj.bH _).symm (aj.dG) (aj.cells_one) (by decide) (fun v4 s1 hs1=>?_)); cases hs1; refine Rn 4 [3] Z Z (AR.drop1 ?_); exact N 0 Z ⟨(bW (x1 + 1)),(aj.mk bI.kind bI.jW bI.ng bI.l7 x3 bI.keys),v4,v3,Z,Z,Z,hf⟩
 refine B1 hf fun x4 h5 hf=>Wr 4 [2] Z Z (AS Z (AO.jA (i:=0) (l:=bI.keys) (m:=v1.keys) h5 Z Z Z Z Z Z Z Hq iJ Z Z Z (fun _=>Z) (fun _=>Z) (by decide) (fun v5 s2 hs2=>?_))); cases hs2; cases hf; exact Rx 4 [2,2,3] Z Z (ZC [3] Z Z h)
theorem Cj :∀ k:Nat,(wN (lQ k)):=by
 intro k
 induction k with
 | zero=>exact fun _ _ hz=>by first | cases hz | (unfold lQ at hz; cases hz)
 | succ k ih=>exact fun Gs iE hz τ Q hq=>BI (lQ k) ih Gs hz hq
theorem CS (Gs:aj) {iE:aj} (hf:zM Gs=some iE) (h:Q (.ret (.agg (bJ iE))) τ):PC 127 [.agg (bJ Gs)] τ Q:=
 ((Cj BIG)) Gs hf h
theorem D8 (e1:ak) (fZ:List aH) {r0:aj} {r1:Int} (hf:wZ e1 fZ=some (r0,r1)) (h:Q (.ret (.tuple [.agg (bJ r0),iP r1])) τ):PC 99 [.agg (bY e1),.list (List.map aH.cells fZ)] τ Q:=by
 unfold wZ at hf; refine BN 28 [.cell 4 55,.tmp 5] [0,1] Tryz.func99 Z Z Z Z Z (W 1 Z (AS Z (AO.aK Z nU (fun b4=>?_)))); obtain ⟨s1,f1,h1,hf⟩:=bE hf; refine U 3 Z (CL Z (A9 _ _ h1 (J 7 Z (C hf Z (fun h2 hf=>?_) fun h2 hf=>?_))))
 · cases hf; exact Wx 4 [0] Z Z (ZC [0] Z Z h)
 obtain ⟨x1,f2,h3,hf⟩:=bE hf; refine W 2 Z (CL Z (xw _ _ h3 (U 3 Z (AS Z (AO.aK Z nU (fun b8=>?_)))))); refine B1 hf fun x2 h4 hf=>Rr 3 [0,0] Z Z (CL Z (CS _ h4 ?_)); cases hf; exact Rx 3 [1] Z Z (ZC [1] Z Z h)
theorem CK (v1:aj) {r0:Str} {r1:Int} (hf:uU v1=some (r0,r1)) (h:Q (.ret (.tuple [.str r0,iP r1])) τ):PC 100 [.agg (bJ v1)] τ Q:=by
 unfold uU at hf; refine BN 28 [.tmp 2,.tmp 3] [0] Tryz.func100 Z Z Z Z Z (W 7 Z (On 4 8 12 [1] (v1.kind == 5) Z Z Z Z (J 0 Z (C hf Z (fun h2 hf=>?_) fun h2 hf=>?_))))
 · cases hf; exact M 2 Z (Y Z h)
 refine B1 hf fun e1 h3 hf=>W 1 Z (CL Z (mX _ h3 (J 3 Z (C hf Z (fun h4 hf=>?_) fun h4 hf=>?_))))
 · cases hf; exact M 3 Z (Y Z h)
 refine V 4 Z (C hf Z (fun h5 hf=>?_) fun h5 hf=>?_)
 · cases hf; exact M 2 Z (Y Z h)
 refine V 2 Z (C hf Z (fun h6 hf=>?_) fun h6 hf=>?_)
 · cases hf; exact M 4 Z (Y Z h)
 exact aR hf
theorem wF (p1:aT) (fZ:List aH) {r0:Str} {r1:Int} (hf:nC p1 fZ=some (r0,r1)) (h:Q (.ret (.tuple [.str r0,iP r1])) τ):PC 75 [.agg (Ga p1),.list (List.map aH.cells fZ)] τ Q:=by
 unfold nC at hf; refine BN 27 [.tmp 4,.tmp 5] [0,1] Tryz.func75 Z Z Z Z Z (V 6 Z (C hf Z (fun h1 hf=>?_) fun h1 hf=>?_))
 · cases hf; exact M 4 Z (Y Z h)
 obtain ⟨x1,lV,h2,hf⟩:=bE hf; refine W 3 Z (CL Z (D8 _ _ h2 (U 3 Z (AS Z (AO.aK Z nU (fun b6=>(Rw 4 [0] Z Z (C hf Z (fun h3 hf=>?_) fun h3 hf=>?_))))))))
 · cases hf; exact M 3 Z (Y Z h)
 replace hf:=(BF _).trans hf; obtain ⟨x2,x3,h4,hf⟩:=bE hf; refine Wr 1 [0] Z Z (CL Z (CK _ h4 ?_)); cases hf; exact N 4 Z (Y Z h)
theorem yu (s1:Str) (fZ:List aH) {r0:Str} {r1:Int} (hf:pY s1 fZ=some (r0,r1)) (h:Q (.ret (.tuple [.str r0,iP r1])) τ):PC 56 [.str s1,.list (List.map aH.cells fZ)] τ Q:=by
 unfold pY at hf; refine BN 50 [.tmp 4,.tmp 5] [0,1] Tryz.func56 Z Z Z Z Z ?_; obtain ⟨ps1,x1,lV,h1,hf⟩:=kU hf; refine W 3 Z (CL Z (tF _ h1 (J 9 Z (C hf Z (fun h2 hf=>?_) fun h2 hf=>?_))))
 · cases hf; exact M 3 Z (Y Z h)
 refine B1 hf fun uM h3 hf=>W 1 Z (CL Z (Af _ h3 (J 3 Z (C hf Z (fun h4 hf=>?_) fun h4 hf=>?_))))
 · cases hf; exact M 3 Z (Y Z h)
 refine W 0 Z (AS Z (AO.Gn (eu:=5) Z Kn Z (fun b10=>(U 1 Z (AS Z (AO.aP (l:=ps1) Z Z Z Z Fw Z Z (J 1 Z (LZ (fun x2 b1 v1=>[(1,.list (List.map aH.cells fZ)),(10,pP b10),(29,.list (List.map aT.cells ps1)),(30,iP (ps1.length:Int)),(31,iP x2)]) (fun x2 b1 v1=>[.xC b10 v1 102 5 b1]) (fun bQ x2 b1 v1=>jP fZ ps1 bQ x2 b1=some (r0,r1)) BIG 0 [] (.slice none 0 0) Z Z hf (fun _ _ _ hz=>aR hz) ?_)))))))); intro bQ x2 b1 v1 hf; rw [jP] at hf; refine V 1 Z (C hf Z (fun h5 hf=>?_) fun h5 hf=>?_)
 ·
  refine B1 hf fun e1 h6 hf=>W 0 Z (AS Z (AO.bR h6 Z Z Z Z Fw (aT.aQ _) Z (U 1 Z (AS Z (AO.aK Z Eh (fun b12=>?_)))))); obtain ⟨t1,Iw,h7,hf⟩:=bE hf; refine Rr 3 [0,0] Z Z (CL Z (wF _ _ h7 (J 7 Z (C hf Z (fun h8 hf=>?_) fun h8 hf=>?_))))
  · cases hf; exact M 3 Z (Y Z h)
  refine B1 hf fun b2 h9 hf=>W 1 Z (CL Z (AC.one 1 Z (wK h9 (fun v2=>⟨_,Z,(fO 2 Z (AR.drop1 ?_))⟩)))); exact N 0 Z ⟨(bW (x2 + 1)),b2,v2,Z,Z,Z,hf⟩
 refine W 0 Z (CL Z (AC.one 0 Z (Gj ⟨_,Z,(J 1 Z (C hf Z (fun h10 hf=>?_) fun h10 hf=>?_))⟩)))
 · cases hf; exact M 2 Z (Y Z h)
 refine W 0 Z (CL Z (AC.Jv 0 Z (CU ?_))); cases hf; exact N 2 Z (Y Z h)
theorem uE (s1:Str) (fZ:List aH) {r0:Str} {r1:Int} (hf:lW s1 fZ=some (r0,r1)) (h:Q (.ret (.tuple [.str r0,iP r1])) τ):PC 37 [.str s1,.list (List.map aH.cells fZ)] τ Q:=by
 unfold lW at hf; refine BN 26 [.tmp 4,.tmp 5] [0,1] Tryz.func37 Z Z Z Z Z ?_; obtain ⟨bI,e1,h1,hf⟩:=bE hf; refine W 4 Z (CL Z (yu _ _ h1 (J 8 Z (C hf Z (fun h2 hf=>?_) fun h2 hf=>?_))))
 · cases hf; exact M 3 Z (Y Z h)
 refine V 3 Z (C hf Z (fun h3 hf=>?_) fun h3 hf=>?_)
 · cases hf; exact M 2 Z (Y Z h)
 refine W 1 Z (AS Z (AO.dA Z Z Z Z dL Z (J 2 Z (C hf Z (fun h4 hf=>?_) fun h4 hf=>?_))))
 · cases hf; exact M 2 Z (Y Z h)
 cases hf; exact M 3 Z (Y Z h)
theorem oH (c1:aX) (su:List aH) (dB:List av) {r0:Str} {r1:Int} (hf:lY c1 su dB=some (r0,r1)) (h:Q (.ret (.tuple [.str r0,iP r1])) τ):PC 17 [.agg (mV c1),.list (List.map aH.cells su),.list (List.map av.cells dB)] τ Q:=by
 unfold lY at hf; refine BN 26 [.tmp 6,.tmp 7] [0,1,2] Tryz.func17 Z Z Z Z Z ?_; obtain ⟨fZ,e1,h1,hf⟩:=bE hf; refine W 6 Z (CL Z (rD _ _ _ h1 (J 7 Z (C hf Z (fun h2 hf=>?_) fun h2 hf=>?_))))
 · cases hf; exact M 3 Z (Y Z h)
 replace hf:=(BF _).trans hf; obtain ⟨x1,x2,h3,hf⟩:=bE hf; refine W 3 Z (CL Z (uE _ _ h3 ?_)); cases hf; exact N 4 Z (Y Z h)
theorem xQ {r0:Bool} (hf:nR=some r0) (h:Q (.ret (.bool r0)) τ):PC 11 [] τ Q:=by
 unfold nR at hf; refine BN 46 [.tmp 0] [] Tryz.func11 Z Z Z Z Z ?_; obtain ⟨a1,e1,h1,hf⟩:=bE hf; refine W 2 rfl (CL rfl (oH _ _ _ h1 (U 8 rfl (AS rfl (AO.cu (List.map aH.cells [(aH.mk ([111,115]:Str) (aj.mk 3 false 0 ([108,105,110,117,120]:Str) [] []))]) rfl vJ rfl rfl rfl (by first | rfl | simp only [List.map,aH.aQ]) ?_))))); obtain ⟨b1,f1,h2,hf⟩:=bE hf; refine CL Z (oH _ _ _ h2 ?_); obtain ⟨x1,g1,h3,hf⟩:=bE hf; refine U 6 Z (CL Z (oH _ _ _ h3 ?_))
 refine B1 hf fun x2 h4 hf=>U 6 Z (CL Z (xV _ _ h4 ?_)); refine B1 hf fun x3 h5 hf=>CL Z (uQ _ h5 ?_); refine B1 hf fun x4 h6 hf=>AS Z (AO.NM h6 Z Z Z (U 2 Z (An 3 30 33 [3,4,6] (e1 == 0) Z Z Z Z (U 1 Z (An 3 34 37 [4,6] (b1 == ([108,105,110,117,120,47,49]:Str)) Z Z Z Z (U 1 Z (An 3 38 41 [6] (f1 == 0) Z Z Z Z ?_))))))); refine U 1 Z (An 3 42 45 [] (g1 != 0) Z Z Z Z ?_); cases hf; exact N 1 Z (Y Z h)
theorem uz (dB:List av) (l1:List Str) {r0:Bool} (hf:jr dB l1=some r0) (h:Q (.ret (.bool r0)) τ):PC 5 [.list (List.map av.cells dB),sP l1] τ Q:=by
 unfold jr at hf; refine BN 55 [.tmp 4] [0,1] Tryz.func5 Z Z Z Z Z ?_; refine B1 hf fun x1 h1 hf=>W 2 Z (CL Z (D7 _ h1 ?_)); refine B1 hf fun b1 h3 hf=>U 2 Z (AR.fA 4 11 15 false [0,1] b1 Z Z (fun h2=>?_) (fun h2=>?_) ?_)
 · refine IF 11 h2 h3 Z fun h3=>?_; refine B1 h3 fun x2 h4 h3=>U 1 Z (GO Z (AO.call Z _ Z Z ML (Ac _ h4 ?_))); cases h3; exact fO 2 Z (En [15,0,1] Z)
 · refine IT 11 h2 h3 Z fun h3=>?_; cases h3; exact fO 4 Z (En [15,0,1] Z)
 refine J 0 Z (C hf Z (fun h5 hf=>?_) fun h5 hf=>?_)
 · refine BR hf fun x3 h6 hf=>?_; refine W 0 Z (CL Z (xQ  h6 ?_)); cases hf; exact N 1 Z (Y Z h)
 refine V 2 Z (AW.row 2 43 (LZ (fun some1 v1 i1=>[(0,.list (List.map av.cells dB)),(1,sP l1),(5,.own v1 (List.map av.cells some1)),(6,iP i1)]) (fun some1 v1 i1=>[.row v1 (List.map av.cells some1).length 2 43]) (fun bQ some1 v1 i1=>dH dB l1 bQ some1 i1=some r0) BIG [] (.slice none 0 0) 0 Z Z hf (fun _ _ _ hz=>aR hz) ?_)); intro bQ some1 v1 i1 hf; rw [dH] at hf; refine W 2 Z (AS Z (AO.aP (l:=dB) Z Z Z Z wz Z Z (J 1 Z (C hf Z (fun h7 hf=>?_) fun h7 hf=>?_))))
 ·
  refine B1 hf fun e1 h8 hf=>W 3 Z (AS Z (AO.bR h8 Z Z Z Z wz (av.aQ _) Z ?_)); refine B1 hf fun x4 h9 hf=>U 2 Z (CL Z (Ae _ _ h9 (J 0 Z (C hf Z (fun h10 hf=>?_) fun h10 hf=>?_))))
  · refine B1 hf fun e2 h11 hf=>W 3 rfl (AS rfl (AO.bR h11 rfl rfl rfl rfl wz (av.aQ _) rfl (U 1 rfl (AS rfl (AO.cu (List.map av.cells [e2]) rfl J4 rfl rfl rfl (by first | rfl | simp only [List.map,av.aQ]) ?_))))); refine B1 hf fun Ho h12 hf=>AS Z (AO.jA (i:=0) (l:=some1) (m:=[e2]) h12 Z Z Z Z Z Z Z J4 wz Z Z Z (av.dG) (av.cells_one) (by decide) (fun v2 s1 hs1=>?_)); cases hs1; exact N 4 Z ⟨Ho,v2,(bW (i1 + 1)),Z,Z,Z,hf⟩
  exact M 3 Z ⟨some1,v1,(bW (i1 + 1)),Z,Z,Z,hf⟩
 refine B1 hf fun d1 wO hf=>W 2 Z (CL Z (kD _ _ wO ?_)); refine B1 hf fun x5 rY hf=>U 4 Z (CL Z (kD _ _ rY ?_)); refine B1 hf fun b2 h16 hf=>U 2 Z (AR.fA 6 45 51 true [] b2 Z Z (fun xM=>?_) (fun xM=>?_) ?_)
 · replace h16:=gN xM h16; refine Is 45 xM Z (U 2 Z (GO Z (AO.cu (List.map kF ([([42,42]:Str)]:List Str)) Z Hq Z Z Z Z ?_))); refine B1 h16 fun x6 Bv h16=>GO Z (AO.call Z _ Z Z J_ (kD _ _ Bv ?_)); cases h16; exact fO 2 Z (En [51] Z)
 · refine IF 45 xM h16 Z fun h16=>?_; cases h16; exact fO 6 Z (En [51] Z)
 refine BR hf fun b3 h19 hf=>?_; refine U 1 Z (AR.fA 2 52 54 true [] b3 Z Z (fun h18=>?_) (fun h18=>?_) ?_)
 · refine IT 52 h18 h19 Z fun h19=>?_; refine BR h19 fun x7 h20 h19=>?_; refine GO Z (AO.call Z _ Z Z MN (xQ  h20 ?_)); cases h19; exact fO 1 Z (En [54] Z)
 · refine IF 52 h18 h19 Z fun h19=>?_; cases h19; exact fO 2 Z (En [54] Z)
 cases hf; exact N 1 Z (Y Z h)
end Go.Proofs.YtljfgagpnpolhaaGreatDoor
