/- Proved here: each function does what its functional text says (part 1). -/
import Derived.Test.YtljfgagpnpolhaaGreatDoorKhA3
import Derived.Test.YtljfgagpnpolhaaGreatDoorKhFt1
import Derived.Test.YtljfgagpnpolhaaGreatDoorProg
import Derived.KernelRfl
set_option linter.unusedVariables false
set_option linter.unusedSimpArgs false
set_option linter.unusedSectionVars false
namespace Go.Ft
open Go Go.Abs
@[reducible] def aB.cells (x:aB):List PV:=[.str x.path,.int .u64 (x.digest.toNat:Int)]
theorem aB.aO (x:aB):aB.cells x=[.str x.path,.int .u64 (x.digest.toNat:Int)]:=rfl
theorem aB.cB (x:aB):(aB.cells x).length=2:=by rw [aB.aO]; rfl
theorem aB.cells_one (x:aB):(aB.cells x).all PV.one=true:=by rw [aB.aO]; rfl
@[reducible] def aF.cells (x:aF):List PV:=[.int .u64 ((x.set.getD 0 0).toNat:Int),.int .u64 ((x.set.getD 1 0).toNat:Int),.int .u64 ((x.set.getD 2 0).toNat:Int),.int .u64 ((x.set.getD 3 0).toNat:Int),.bool x.many,.bool x.literal,.int .u8 (x.char.toNat:Int)]
theorem aF.aO (x:aF):aF.cells x=[.int .u64 ((x.set.getD 0 0).toNat:Int),.int .u64 ((x.set.getD 1 0).toNat:Int),.int .u64 ((x.set.getD 2 0).toNat:Int),.int .u64 ((x.set.getD 3 0).toNat:Int),.bool x.many,.bool x.literal,.int .u8 (x.char.toNat:Int)]:=rfl
theorem aF.cB (x:aF):(aF.cells x).length=7:=by rw [aF.aO]; rfl
theorem aF.cells_one (x:aF):(aF.cells x).all PV.one=true:=by rw [aF.aO]; rfl
@[reducible] def aj.cells (x:aj):List PV:=[.int .i64 x.kind,.list (List.map MZ x.items)]
theorem aj.aO (x:aj):aj.cells x=[.int .i64 x.kind,.list (List.map MZ x.items)]:=rfl
theorem aj.cB (x:aj):(aj.cells x).length=2:=by rw [aj.aO]; rfl
theorem aj.cells_one (x:aj):(aj.cells x).all PV.one=true:=by rw [aj.aO]; rfl
@[reducible] def aR.cells (x:aR):List PV:=[.int .i64 x.kind,.str x.text,.int .i64 x.at_]
theorem aR.aO (x:aR):aR.cells x=[.int .i64 x.kind,.str x.text,.int .i64 x.at_]:=rfl
theorem aR.cB (x:aR):(aR.cells x).length=3:=by rw [aR.aO]; rfl
theorem aR.cells_one (x:aR):(aR.cells x).all PV.one=true:=by rw [aR.aO]; rfl
@[reducible] def ah.cells (x:ah):List PV:=[.list (List.map aR.cells x.ts),.int .i64 x.at_]
theorem ah.aO (x:ah):ah.cells x=[.list (List.map aR.cells x.ts),.int .i64 x.at_]:=rfl
theorem ah.cB (x:ah):(ah.cells x).length=2:=by rw [ah.aO]; rfl
theorem ah.cells_one (x:ah):(ah.cells x).all PV.one=true:=by rw [ah.aO]; rfl
@[reducible] def ay.cells (x:ay):List PV:=[.int .i64 x.at_,.int .i64 x.code]
theorem ay.aO (x:ay):ay.cells x=[.int .i64 x.at_,.int .i64 x.code]:=rfl
theorem ay.cB (x:ay):(ay.cells x).length=2:=by rw [ay.aO]; rfl
theorem ay.cells_one (x:ay):(ay.cells x).all PV.one=true:=by rw [ay.aO]; rfl
mutual
def au.cells :au→List PV
  | ⟨a0,a1,a2,a3,a4,a5⟩=>[.int .i64 a0,.bool a1,.int .i64 a2,.str a3,.list (au.dL a4),.list (List.map mg a5)]
def au.dL :List au→List (List PV)
  | []=>[]
  | x :: xs=>au.cells x :: au.dL xs
end
theorem au.aO (x:au):au.cells x=[.int .i64 x.kind,.bool x.kT,.int .i64 x.oo,.str x.nG,.list (au.dL x.eO),.list (List.map mg x.keys)]:=by cases x; rfl
theorem au.bS :∀ l:List au,au.dL l=l.map au.cells
  | []=>rfl
  | _ :: l=>congrArg _ (au.bS l)
def au.ML (l:List au):List PV:=[.list (au.dL l)]
theorem au.cB (x:au):(au.cells x).length=6:=by rw [au.aO]; rfl
theorem au.cells_one (x:au):(au.cells x).all PV.one=true:=by rw [au.aO]; rfl
mutual
def av.cells :av→List PV
  | ⟨a0,a1,a2,a3,a4⟩=>[.int .i64 a0,.str a1,.int .i64 a2.kind,.bool a2.kT,.int .i64 a2.oo,.str a2.nG,.list (au.dL a2.eO),.list (List.map mg a2.keys),.list (av.dL a3),.list (List.map mg a4)]
def av.dL :List av→List (List PV)
  | []=>[]
  | x :: xs=>av.cells x :: av.dL xs
end
theorem av.aO (x:av):av.cells x=[.int .i64 x.kind,.str x.name,.int .i64 x.value.kind,.bool x.value.kT,.int .i64 x.value.oo,.str x.value.nG,.list (au.dL x.value.eO),.list (List.map mg x.value.keys),.list (av.dL x.args),.list (List.map mg x.keys)]:=by cases x; rfl
theorem av.bS :∀ l:List av,av.dL l=l.map av.cells
  | []=>rfl
  | _ :: l=>congrArg _ (av.bS l)
def av.ML (l:List av):List PV:=[.list (av.dL l)]
theorem av.cB (x:av):(av.cells x).length=10:=by rw [av.aO]; rfl
theorem av.cells_one (x:av):(av.cells x).all PV.one=true:=by rw [av.aO]; rfl
@[reducible] def aV.cells (x:aV):List PV:=[.str x.text,.bool x.Qa,.int .i64 x.expr.kind,.str x.expr.name,.int .i64 x.expr.value.kind,.bool x.expr.value.kT,.int .i64 x.expr.value.oo,.str x.expr.value.nG,.list (au.dL x.expr.value.eO),.list (List.map mg x.expr.value.keys),.list (av.dL x.expr.args),.list (List.map mg x.expr.keys)]
theorem aV.aO (x:aV):aV.cells x=[.str x.text,.bool x.Qa,.int .i64 x.expr.kind,.str x.expr.name,.int .i64 x.expr.value.kind,.bool x.expr.value.kT,.int .i64 x.expr.value.oo,.str x.expr.value.nG,.list (au.dL x.expr.value.eO),.list (List.map mg x.expr.value.keys),.list (av.dL x.expr.args),.list (List.map mg x.expr.keys)]:=rfl
theorem aV.cB (x:aV):(aV.cells x).length=12:=by rw [aV.aO]; rfl
theorem aV.cells_one (x:aV):(aV.cells x).all PV.one=true:=by rw [aV.aO]; rfl
@[reducible] def aZ.cells (x:aZ):List PV:=[.str x.key,.list (List.map mg x.restore),.list (List.map mg x.files)]
theorem aZ.aO (x:aZ):aZ.cells x=[.str x.key,.list (List.map mg x.restore),.list (List.map mg x.files)]:=rfl
theorem aZ.cB (x:aZ):(aZ.cells x).length=3:=by rw [aZ.aO]; rfl
theorem aZ.cells_one (x:aZ):(aZ.cells x).all PV.one=true:=by rw [aZ.aO]; rfl
@[reducible] def aJ.cells (x:aJ):List PV:=[.str x.name,.int .i64 x.value.kind,.bool x.value.kT,.int .i64 x.value.oo,.str x.value.nG,.list (au.dL x.value.eO),.list (List.map mg x.value.keys)]
theorem aJ.aO (x:aJ):aJ.cells x=[.str x.name,.int .i64 x.value.kind,.bool x.value.kT,.int .i64 x.value.oo,.str x.value.nG,.list (au.dL x.value.eO),.list (List.map mg x.value.keys)]:=rfl
theorem aJ.cB (x:aJ):(aJ.cells x).length=7:=by rw [aJ.aO]; rfl
theorem aJ.cells_one (x:aJ):(aJ.cells x).all PV.one=true:=by rw [aJ.aO]; rfl
@[reducible] def bg.cells (x:bg):List PV:=[.int .i64 x.code]
theorem bg.aO (x:bg):bg.cells x=[.int .i64 x.code]:=rfl
theorem bg.cB (x:bg):(bg.cells x).length=1:=by rw [bg.aO]; rfl
theorem bg.cells_one (x:bg):(bg.cells x).all PV.one=true:=by rw [bg.aO]; rfl
end Go.Ft
namespace Go.Proofs.YtljfgagpnpolhaaGreatDoor
open Go Go.Abs Go.Ft
set_option maxRecDepth 20000
attribute [local irreducible] AO AR AW AC
class R5 [dN]:Prop where
  hD:¬ dN.D
variable [dN]
theorem zH :jW Tryz.prog 155=some (2,1):=by kernel_rfl
theorem Nu :jW Tryz.prog 78=some (16,1):=by kernel_rfl
theorem zX :jW Tryz.prog 93=some (4,1):=by kernel_rfl
theorem Qp :Tryz.prog.cellsOf 5=1:=by kernel_rfl
theorem ni :elemSize Tryz.prog 109=some 10:=by kernel_rfl
theorem ng :elemSize Tryz.prog 121=some 2:=by kernel_rfl
theorem pY :elemSize Tryz.prog 140=some 3:=by kernel_rfl
theorem zo :elemSize Tryz.prog 156=some 2:=by kernel_rfl
theorem La :elemSize Tryz.prog 194=some 7:=by kernel_rfl
theorem iV :elemSize Tryz.prog 22=some 1:=by kernel_rfl
theorem yC :elemSize Tryz.prog 26=some 7:=by kernel_rfl
theorem yB :elemSize Tryz.prog 27=some 2:=by kernel_rfl
theorem wG :elemSize Tryz.prog 53=some 6:=by kernel_rfl
theorem DT :elemSize Tryz.prog 64=some 1:=by kernel_rfl
theorem kR :elemSize Tryz.prog 69=some 1:=by kernel_rfl
theorem IW :elemSize Tryz.prog 79=some 12:=by kernel_rfl
theorem zP :elemSize Tryz.prog 82=some 7:=by kernel_rfl
theorem pX :elemSize Tryz.prog 91=some 1:=by kernel_rfl
theorem mY :ku Tryz.prog 102 0=some 0:=by kernel_rfl
theorem jq :ku Tryz.prog 102 1=some 1:=by kernel_rfl
theorem yw :ku Tryz.prog 104 0=some 0:=by kernel_rfl
theorem rT :ku Tryz.prog 104 1=some 1:=by kernel_rfl
theorem MF :ku Tryz.prog 43 0=some 0:=by kernel_rfl
theorem Rq :∃ j,Tryz.prog.info? 102=some j∧(j.size != 0)=true:=sized (n:=2) (by kernel_rfl) rfl
theorem P9 :liesAt Tryz.prog Tryz.prog.depth 102 (2 / Tryz.prog.cellsOf 102) 0 102 1=true:=by kernel_rfl
theorem P8 :liesAt Tryz.prog Tryz.prog.depth 104 (3 / Tryz.prog.cellsOf 104) 1 102 1=true:=by kernel_rfl
theorem mixed :Tryz.prog.follows .mixedOrders=true:=by kernel_rfl
theorem yZ :Tryz.prog.underlying 163=some (.map 9 3):=by kernel_rfl
theorem Ot :concrete Tryz.prog 218=true:=by kernel_rfl
theorem Od :aU Tryz.prog 107=true:=by kernel_rfl
theorem Oc :aU Tryz.prog 109=true:=by kernel_rfl
theorem P7 :aU Tryz.prog 11=true:=by kernel_rfl
theorem Ob :aU Tryz.prog 123=true:=by kernel_rfl
theorem Oa :aU Tryz.prog 124=true:=by kernel_rfl
theorem N_ :aU Tryz.prog 127=true:=by kernel_rfl
theorem P6 :aU Tryz.prog 13=true:=by kernel_rfl
theorem Nf :aU Tryz.prog 14=true:=by kernel_rfl
theorem N9 :aU Tryz.prog 140=true:=by kernel_rfl
theorem N8 :aU Tryz.prog 144=true:=by kernel_rfl
theorem KJ :aU Tryz.prog 145=true:=by kernel_rfl
theorem P5 :aU Tryz.prog 15=true:=by kernel_rfl
theorem N7 :aU Tryz.prog 155=true:=by kernel_rfl
theorem NZ :aU Tryz.prog 156=true:=by kernel_rfl
theorem NY :aU Tryz.prog 157=true:=by kernel_rfl
theorem NW :aU Tryz.prog 158=true:=by kernel_rfl
theorem NV :aU Tryz.prog 159=true:=by kernel_rfl
theorem PZ :aU Tryz.prog 16=true:=by kernel_rfl
theorem KI :aU Tryz.prog 160=true:=by kernel_rfl
theorem NU :aU Tryz.prog 180=true:=by kernel_rfl
theorem KH :aU Tryz.prog 184=true:=by kernel_rfl
theorem NT :aU Tryz.prog 192=true:=by kernel_rfl
theorem NS :aU Tryz.prog 193=true:=by kernel_rfl
theorem NR :aU Tryz.prog 194=true:=by kernel_rfl
theorem NQ :aU Tryz.prog 195=true:=by kernel_rfl
theorem NP :aU Tryz.prog 197=true:=by kernel_rfl
theorem PY :aU Tryz.prog 22=true:=by kernel_rfl
theorem NN :aU Tryz.prog 232=true:=by kernel_rfl
theorem NM :aU Tryz.prog 239=true:=by kernel_rfl
theorem NK :aU Tryz.prog 240=true:=by kernel_rfl
theorem NJ :aU Tryz.prog 268=true:=by kernel_rfl
theorem KG :aU Tryz.prog 272=true:=by kernel_rfl
theorem PX :aU Tryz.prog 29=true:=by kernel_rfl
theorem PW :aU Tryz.prog 30=true:=by kernel_rfl
theorem PU :aU Tryz.prog 31=true:=by kernel_rfl
theorem NI :aU Tryz.prog 312=true:=by kernel_rfl
theorem NH :aU Tryz.prog 313=true:=by kernel_rfl
theorem PS :aU Tryz.prog 33=true:=by kernel_rfl
theorem PO :aU Tryz.prog 41=true:=by kernel_rfl
theorem PN :aU Tryz.prog 45=true:=by kernel_rfl
theorem Nc :aU Tryz.prog 51=true:=by kernel_rfl
theorem PL :aU Tryz.prog 52=true:=by kernel_rfl
theorem PK :aU Tryz.prog 53=true:=by kernel_rfl
theorem PI :aU Tryz.prog 54=true:=by kernel_rfl
theorem PG :aU Tryz.prog 55=true:=by kernel_rfl
theorem Nb :aU Tryz.prog 59=true:=by kernel_rfl
theorem Na :aU Tryz.prog 60=true:=by kernel_rfl
theorem PE :aU Tryz.prog 61=true:=by kernel_rfl
theorem PD :aU Tryz.prog 62=true:=by kernel_rfl
theorem M_ :aU Tryz.prog 63=true:=by kernel_rfl
theorem Pz :aU Tryz.prog 71=true:=by kernel_rfl
theorem Py :aU Tryz.prog 77=true:=by kernel_rfl
theorem Px :aU Tryz.prog 78=true:=by kernel_rfl
theorem KF :aU Tryz.prog 82=true:=by kernel_rfl
theorem M9 :aU Tryz.prog 87=true:=by kernel_rfl
theorem QF :aU Tryz.prog 9=true:=by kernel_rfl
theorem Pw :aU Tryz.prog 95=true:=by kernel_rfl
theorem Pv :aU Tryz.prog 96=true:=by kernel_rfl
theorem Pt :aU Tryz.prog 98=true:=by kernel_rfl
theorem G6 :dH Tryz.prog 109 111 10 160:=jk (by kernel_rfl)
theorem oz :dH Tryz.prog 121 158 2 32:=jk (by kernel_rfl)
theorem El :dH Tryz.prog 140 146 3 32:=jk (by kernel_rfl)
theorem yU :dH Tryz.prog 156 155 2 2:=jk (by kernel_rfl)
theorem M8 :dH Tryz.prog 22 9 1 16:=jk (by kernel_rfl)
theorem xJ :dH Tryz.prog 26 57 7 104:=jk (by kernel_rfl)
theorem M7 :dH Tryz.prog 53 55 6 88:=jk (by kernel_rfl)
theorem IC :dH Tryz.prog 64 38 1 8:=jk (by kernel_rfl)
theorem pE :dH Tryz.prog 69 5 1 1:=jk (by kernel_rfl)
theorem IB :dH Tryz.prog 79 115 12 184:=jk (by kernel_rfl)
theorem M6 :dH Tryz.prog 82 95 7 40:=jk (by kernel_rfl)
theorem Iq :mD Tryz.prog 111=some [(0,1),(1,1),(2,6),(8,1),(9,1)]:=by kernel_rfl
theorem Ip :mD Tryz.prog 115=some [(0,1),(1,1),(2,10)]:=by kernel_rfl
theorem Mi :mD Tryz.prog 158=some [(0,1),(1,1)]:=by kernel_rfl
theorem Mh :mD Tryz.prog 205=some [(0,1),(1,1)]:=by kernel_rfl
theorem KA :mD Tryz.prog 55=some [(0,1),(1,1),(2,1),(3,1),(4,1),(5,1)]:=by kernel_rfl
theorem ND :mD Tryz.prog 57=some [(0,1),(1,6)]:=by kernel_rfl
theorem Me (w:Go.World):(Instr.typeAssert .nilIface 20 207 true).run Tryz.prog w=.ok (.tuple #[.agg #[.int .i64 0,.int .i64 0],.bool false]) w:=by kernel_rfl
theorem Md (w:Go.World):(Instr.typeAssert .nilIface 20 218 true).run Tryz.prog w=.ok (.tuple #[.agg #[.int .i64 0],.bool false]) w:=by kernel_rfl
theorem Mc (v:Value) (w:Go.World):(Instr.typeAssert (.iface 207 v) 20 207 true).run Tryz.prog w=.ok (.tuple #[v,.bool true]) w:=by kernel_rfl
theorem Ma (v:Value) (w:Go.World):(Instr.typeAssert (.iface 218 v) 20 218 true).run Tryz.prog w=.ok (.tuple #[v,.bool true]) w:=by kernel_rfl
theorem sF :bT Tryz.prog 100=some (false,1):=by kernel_rfl
theorem jy :bT Tryz.prog 111=some (true,10):=by kernel_rfl
theorem Ee :bT Tryz.prog 140=some (false,1):=by kernel_rfl
theorem GY :bT Tryz.prog 146=some (true,3):=by kernel_rfl
theorem NC :bT Tryz.prog 156=some (false,1):=by kernel_rfl
theorem GX :bT Tryz.prog 158=some (true,2):=by kernel_rfl
theorem Ko :bT Tryz.prog 207=some (true,2):=by kernel_rfl
theorem Kn :bT Tryz.prog 218=some (true,1):=by kernel_rfl
theorem Pp :bT Tryz.prog 22=some (false,1):=by kernel_rfl
theorem Po :bT Tryz.prog 27=some (false,1):=by kernel_rfl
theorem CX :bT Tryz.prog 3=some (false,1):=by kernel_rfl
theorem qB :bT Tryz.prog 30=some (false,1):=by kernel_rfl
theorem Dw :bT Tryz.prog 37=some (false,1):=by kernel_rfl
theorem Pn :bT Tryz.prog 38=some (false,1):=by kernel_rfl
theorem uJ :bT Tryz.prog 4=some (false,1):=by kernel_rfl
theorem Km :bT Tryz.prog 43=some (true,2):=by kernel_rfl
theorem QA :bT Tryz.prog 5=some (false,1):=by kernel_rfl
theorem Pm :bT Tryz.prog 53=some (false,1):=by kernel_rfl
theorem rE :bT Tryz.prog 55=some (true,6):=by kernel_rfl
theorem Kl :bT Tryz.prog 64=some (false,1):=by kernel_rfl
theorem rD :bT Tryz.prog 69=some (false,1):=by kernel_rfl
theorem Dv :bT Tryz.prog 79=some (false,1):=by kernel_rfl
theorem Fq :bT Tryz.prog 82=some (false,1):=by kernel_rfl
theorem Ja :bT Tryz.prog 9=some (false,1):=by kernel_rfl
theorem zI :bT Tryz.prog 91=some (false,1):=by kernel_rfl
theorem Pk :bT Tryz.prog 93=some (true,4):=by kernel_rfl
theorem Pj :bT Tryz.prog 95=some (true,7):=by kernel_rfl
theorem uI :Tryz.prog.underlying 124=some (.int .u32):=by kernel_rfl
theorem J8 :Tryz.prog.underlying 26=some (.slice 57):=by kernel_rfl
theorem CV :Tryz.prog.underlying 3=some (.int .i64):=by kernel_rfl
theorem uH :Tryz.prog.underlying 37=some (.int .u64):=by kernel_rfl
theorem Ph :Tryz.prog.underlying 38=some (.int .u64):=by kernel_rfl
theorem xC :Tryz.prog.underlying 5=some (.int .u8):=by kernel_rfl
theorem Ii :Tryz.prog.underlying 69=some (.slice 5):=by kernel_rfl
theorem cK :Tryz.prog.underlying 9=some (.string):=by kernel_rfl
theorem Ih :Tryz.prog.underlying 91=some (.slice 4):=by kernel_rfl
theorem qV :Tryz.prog.underlying 100=some (.pointer 102):=by kernel_rfl
theorem J7 :Tryz.prog.underlying 169=some (.pointer 5):=by kernel_rfl
theorem Eb :Tryz.prog.underlying 174=some .unsafePointer:=by kernel_rfl
theorem LW :(Tryz.prog.info? 4).map (fun i=>(i.zero,i.size,i.bytes))=some (some (.bool false),1,1):=by kernel_rfl
theorem LV :(Tryz.prog.info? 3).map (·.zero)=some (some (.int .i64 0)):=by kernel_rfl
theorem Ny :fF Tryz.prog 102=some [.val (.pointer none),.own (.slice none 0 0) []]:=by kernel_rfl
theorem Nw :fF Tryz.prog 104=some [.own (.slice none 0 0) [],.val (.pointer none),.own (.slice none 0 0) []]:=by kernel_rfl
theorem iG :fF Tryz.prog 111=some [.int .i64 0,.str [],.int .i64 0,.bool false,.int .i64 0,.str [],.own (.slice none 0 0) [],.own (.slice none 0 0) [],.own (.slice none 0 0) [],.own (.slice none 0 0) []]:=by kernel_rfl
theorem GQ :fF Tryz.prog 115=some [.str [],.bool false,.int .i64 0,.str [],.int .i64 0,.bool false,.int .i64 0,.str [],.own (.slice none 0 0) [],.own (.slice none 0 0) [],.own (.slice none 0 0) [],.own (.slice none 0 0) []]:=by kernel_rfl
theorem qU :fF Tryz.prog 146=some [.int .i64 0,.str [],.int .i64 0]:=by kernel_rfl
theorem D8 :fF Tryz.prog 155=some [.int .u8 0,.int .u8 0]:=by kernel_rfl
theorem D7 :fF Tryz.prog 158=some [.int .i64 0,.own (.slice none 0 0) []]:=by kernel_rfl
theorem Nv :fF Tryz.prog 205=some [.own (.slice none 0 0) [],.int .i64 0]:=by kernel_rfl
theorem J4 :fF Tryz.prog 207=some [.int .i64 0,.int .i64 0]:=by kernel_rfl
theorem J3 :fF Tryz.prog 218=some [.int .i64 0]:=by kernel_rfl
theorem Qy :fF Tryz.prog 3=some [.int .i64 0]:=by kernel_rfl
theorem J2 :fF Tryz.prog 30=some [.int .i64 0]:=by kernel_rfl
theorem M0 :fF Tryz.prog 43=some [.str [],.int .u64 0]:=by kernel_rfl
theorem pz :fF Tryz.prog 55=some [.int .i64 0,.bool false,.int .i64 0,.str [],.own (.slice none 0 0) [],.own (.slice none 0 0) []]:=by kernel_rfl
theorem JZ :fF Tryz.prog 57=some [.str [],.int .i64 0,.bool false,.int .i64 0,.str [],.own (.slice none 0 0) [],.own (.slice none 0 0) []]:=by kernel_rfl
theorem Pf :fF Tryz.prog 64=some [.own (.slice none 0 0) []]:=by kernel_rfl
theorem Pe :fF Tryz.prog 78=some [.int .u8 0,.int .u8 0,.int .u8 0,.int .u8 0,.int .u8 0,.int .u8 0,.int .u8 0,.int .u8 0,.int .u8 0,.int .u8 0,.int .u8 0,.int .u8 0,.int .u8 0,.int .u8 0,.int .u8 0,.int .u8 0]:=by kernel_rfl
theorem Pd :fF Tryz.prog 82=some [.own (.slice none 0 0) []]:=by kernel_rfl
theorem Pb :fF Tryz.prog 91=some [.own (.slice none 0 0) []]:=by kernel_rfl
theorem Dt :fF Tryz.prog 93=some [.int .u64 0,.int .u64 0,.int .u64 0,.int .u64 0]:=by kernel_rfl
theorem Dr :fF Tryz.prog 95=some [.int .u64 0,.int .u64 0,.int .u64 0,.int .u64 0,.bool false,.bool false,.int .u8 0]:=by kernel_rfl
def FX :Facts:={ti:=[(3,false,1),(4,false,1),(5,false,1),(9,false,1),(22,false,1),(24,true,3),(27,false,1),(30,false,1),(37,false,1),(38,false,1),(43,true,2),(53,false,1),(55,true,6),(57,true,7),(64,false,1),(93,true,4),(95,true,7),(109,false,1),(111,true,10),(115,true,12),(146,true,3),(156,false,1),(158,true,2),(205,true,2),(207,true,2),(218,true,1)],fo:=[(24,0,0),(24,1,1),(24,2,2),(43,0,0),(43,1,1),(55,0,0),(55,1,1),(55,2,2),(55,3,3),(55,4,4),(55,5,5),(57,0,0),(57,1,1),(95,0,0),(95,1,4),(104,0,0),(104,1,1),(111,0,0),(111,1,1),(111,2,2),(111,3,8),(111,4,9),(115,0,0),(115,1,1),(115,2,2),(146,0,0),(146,1,1),(146,2,2),(158,0,0),(158,1,1),(205,0,0),(205,1,1),(207,0,0),(207,1,1),(218,0,0)],fd:=[],str:=[]}
theorem bR :FX.okB Tryz.prog=true:=by kernel_rfl
theorem cs {n:Nat} {all:Array Oper} {σ:List aG} {ds:List Deferred} {Q:Post} (k:Nat) {l l':List Oper} {env env':Env} (h:z8 FX all n k l env=some (env',l')) (hr:AR Tryz.prog n all l' env' σ ds Q):AR Tryz.prog n all l env σ ds Q:=AR.cs bR k h hr
def FY :FB:=⟨{FX with ti:=FX.ti ++ [(3,false,1),(9,false,1),(22,false,1),(53,false,1),(55,true,6),(57,true,7),(82,false,1),(91,false,1),(93,true,4),(95,true,7),(111,true,10),(115,true,12),(146,true,3),(156,false,1),(158,true,2)]},[(24,[.str [],.own (.slice none 0 0) [],.own (.slice none 0 0) []]),(55,[.int .i64 0,.bool false,.int .i64 0,.str [],.own (.slice none 0 0) [],.own (.slice none 0 0) []]),(57,[.str [],.int .i64 0,.bool false,.int .i64 0,.str [],.own (.slice none 0 0) [],.own (.slice none 0 0) []]),(95,[.int .u64 0,.int .u64 0,.int .u64 0,.int .u64 0,.bool false,.bool false,.int .u8 0]),(111,[.int .i64 0,.str [],.int .i64 0,.bool false,.int .i64 0,.str [],.own (.slice none 0 0) [],.own (.slice none 0 0) [],.own (.slice none 0 0) [],.own (.slice none 0 0) []]),(115,[.str [],.bool false,.int .i64 0,.str [],.int .i64 0,.bool false,.int .i64 0,.str [],.own (.slice none 0 0) [],.own (.slice none 0 0) [],.own (.slice none 0 0) [],.own (.slice none 0 0) []]),(146,[.int .i64 0,.str [],.int .i64 0]),(158,[.int .i64 0,.own (.slice none 0 0) []]),(218,[.int .i64 0])],[(24,[(0,1),(1,1),(2,1)]),(55,[(0,1),(1,1),(2,1),(3,1),(4,1),(5,1)]),(57,[(0,1),(1,6)]),(95,[(0,4),(4,1),(5,1),(6,1)]),(111,[(0,1),(1,1),(2,6),(8,1),(9,1)]),(115,[(0,1),(1,1),(2,10)]),(146,[(0,1),(1,1),(2,1)]),(158,[(0,1),(1,1)]),(218,[(0,1)])]⟩
instance : FK Tryz.prog:=⟨FY,⟨by kernel_rfl,by kernel_rfl,by kernel_rfl⟩,[12,17,22,24,29,31,32,33,34,35,36,37,40,41,46,47,48,49,50,51,56,59,60,61,62,63,64,65,69,70,72,73,74,75,76,77,78,84,85,88,89,90,94,95,97,98,99,100,108,110,112,113,114,115,120,121,122,125,126,127,138,139,140,145,154,156,160,184,185,196,198,230,231,232,233,234,238,245,267,271,272,273,307,312,341],by kernel_rfl⟩
variable {τ : List aG} {Q : dh → List aG → Prop}
abbrev PC :=AC Tryz.prog
@[reducible] def iP (x:Int):PV:=.int .i64 x
@[reducible] def sP (x:List Str):PV:=.list (List.map mg x)
@[reducible] def pP (b:Nat):PV:=.val (.pointer (some ⟨b,0,none⟩))
@[reducible] def nY (x:aZ):List PV:=[.str x.key,.list (List.map mg x.restore),.list (List.map mg x.files)]
@[reducible] def zO (x:aB):List PV:=[.str x.path,.int .u64 (x.digest.toNat:Int)]
@[reducible] def bW (x:au):List PV:=[.int .i64 x.kind,.bool x.kT,.int .i64 x.oo,.str x.nG,.list (au.dL x.eO),.list (List.map mg x.keys)]
@[reducible] def EA (x:aJ):List PV:=[.str x.name,.int .i64 x.value.kind,.bool x.value.kT,.int .i64 x.value.oo,.str x.value.nG,.list (au.dL x.value.eO),.list (List.map mg x.value.keys)]
@[reducible] def yg (x:aF):List PV:=[.int .u64 ((x.set.getD 0 0).toNat:Int),.int .u64 ((x.set.getD 1 0).toNat:Int),.int .u64 ((x.set.getD 2 0).toNat:Int),.int .u64 ((x.set.getD 3 0).toNat:Int),.bool x.many,.bool x.literal,.int .u8 (x.char.toNat:Int)]
@[reducible] def dw (x:av):List PV:=[.int .i64 x.kind,.str x.name,.int .i64 x.value.kind,.bool x.value.kT,.int .i64 x.value.oo,.str x.value.nG,.list (au.dL x.value.eO),.list (List.map mg x.value.keys),.list (av.dL x.args),.list (List.map mg x.keys)]
@[reducible] def Jv (x:aV):List PV:=[.str x.text,.bool x.Qa,.int .i64 x.expr.kind,.str x.expr.name,.int .i64 x.expr.value.kind,.bool x.expr.value.kT,.int .i64 x.expr.value.oo,.str x.expr.value.nG,.list (au.dL x.expr.value.eO),.list (List.map mg x.expr.value.keys),.list (av.dL x.expr.args),.list (List.map mg x.expr.keys)]
@[reducible] def rQ (x:aR):List PV:=[.int .i64 x.kind,.str x.text,.int .i64 x.at_]
@[reducible] def jG (x:aj):List PV:=[.int .i64 x.kind,.list (List.map MZ x.items)]
@[reducible] def aM (x:ah):List PV:=[.list (List.map aR.cells x.ts),.int .i64 x.at_]
@[reducible] def iC (x:ay):List PV:=[.int .i64 x.at_,.int .i64 x.code]
theorem uh {b:Nat} {v p:Value} {bs:List UInt8} (hp:p=Value.pointer none∨p=.pointer (some ⟨b,0,none⟩)) {R:dh→List aG→Prop} (h:R (.ret (.tuple [])) [.fZ b 102 [.val (.pointer (some ⟨b,0,none⟩)),.own v (bs.map bN)],.row v bs.length 1 5]):
    AC Tryz.prog 82 [.val (.pointer (some ⟨b,0,none⟩))] [.fZ b 102 [.val p,.own v (bs.map bN)],.row v bs.length 1 5] R:=by
  obtain ⟨j,hj1,hj2⟩:=Rq; rcases hp with rfl | rfl
  · skip
    refine AC.gH 20 [] [0] Tryz.func82 rfl rfl rfl rfl rfl ?_; refine AW.seq ?_; refine AW.region ?_; refine AR.step rfl rfl rfl (AO.calc' rfl ?_); refine AR.step rfl rfl rfl (AO.nilCheck rfl rfl ?_); refine AR.step rfl rfl rfl (AO.aT rfl rfl mY ?_); refine AR.step rfl rfl rfl (AO.dY (i:=0) rfl rfl rfl sF rfl rfl ?_); refine AR.step rfl rfl rfl (AO.Ai rfl qV rfl rfl ?_); refine AR.nil [0,6] rfl ?_; refine AW.cond rfl (fun h1=>?_) (fun h1=>?_)
    · refine AW.region ?_; refine AR.step rfl rfl rfl (AO.calc' rfl ?_); refine AR.step rfl rfl rfl (AO.calc' rfl ?_); refine AR.step rfl rfl rfl (AO.I_ (i:=0) rfl qV Eb hj1 hj2 rfl rfl rfl ?_); refine AR.step rfl rfl rfl (AO.FU rfl rfl rfl rfl Tryz.func106 (by kernel_rfl) (by kernel_rfl) (by kernel_rfl) (by kernel_rfl) rfl ?_); refine AR.step rfl rfl rfl (AO.F9 (i:=0) rfl Eb qV hj1 rfl rfl rfl P9 ?_); refine AR.step rfl rfl rfl (AO.nilCheck rfl rfl ?_); refine AR.step rfl rfl rfl (AO.aT rfl rfl mY ?_); refine AR.aS rfl rfl (AO.jA (i:=0) rfl rfl rfl sF rfl rfl rfl rfl rfl ?_); refine AR.nil [] rfl ?_; exact ⟨rfl,[],rfl,_,List.Sublist.refl _,h⟩
    · cases h1
  · skip
    refine AC.gH 20 [] [0] Tryz.func82 rfl rfl rfl rfl rfl ?_; refine AW.seq ?_; refine AW.region ?_; refine AR.step rfl rfl rfl (AO.calc' rfl ?_); refine AR.step rfl rfl rfl (AO.nilCheck rfl rfl ?_); refine AR.step rfl rfl rfl (AO.aT rfl rfl mY ?_); refine AR.step rfl rfl rfl (AO.dY (i:=0) rfl rfl rfl sF rfl rfl ?_); refine AR.step rfl rfl rfl (AO.Ai rfl qV rfl rfl ?_); refine AR.nil [0,6] rfl ?_; refine AW.cond rfl (fun h1=>?_) (fun h1=>?_)
    · cases h1
    · refine AW.seq ?_; refine AW.region ?_; refine AR.step rfl rfl rfl (AO.calc' rfl ?_); refine AR.step rfl rfl rfl (AO.nilCheck rfl rfl ?_); refine AR.step rfl rfl rfl (AO.aT rfl rfl mY ?_); refine AR.step rfl rfl rfl (AO.dY (i:=0) rfl rfl rfl sF rfl rfl ?_); refine AR.step rfl rfl rfl (AO.calc' rfl ?_); refine AR.step rfl rfl rfl (AO.xR rfl qV hj1 rfl rfl ?_); refine AR.nil [19] rfl ?_; refine AW.cond rfl (fun h2=>?_) (fun h2=>?_)
      · cases h2
      · refine AW.skip ?_; exact ⟨rfl,[],rfl,_,List.Sublist.refl _,h⟩
theorem JW {b:Nat} {v:Value} {bs r:List UInt8} {c:UInt8} (hv:app bs [c]=some r) {R:dh→List aG→Prop} (h:∀ v',R (.ret (.val .nilIface)) [.zF b v' 102 5 r]):AC Tryz.prog 60 [.val (.pointer (some ⟨b,0,none⟩)),.int .u8 (c.toNat:Int)] [.zF b v 102 5 bs] R:=by
  refine AC.zF fun p hp hroom=>?_; refine AC.gH 17 [.tmp 4] [0,1] Tryz.func60 rfl rfl rfl rfl rfl ?_; refine AW.seq ?_; refine AW.region ?_; refine AR.step rfl rfl rfl (AO.calc' rfl ?_); refine AR.nil [0,1] rfl ?_; refine AW.seq ?_; refine AW.region ?_; refine AR.step rfl rfl rfl (AO.calc' rfl ?_); refine AR.step rfl rfl rfl (AO.call rfl _ rfl rfl KF (uh hp ?_)); refine AR.nil [0,1] rfl ?_; refine AW.seq ?_; refine AW.region ?_; refine AR.step rfl rfl rfl (AO.calc' rfl ?_); refine AR.step rfl rfl rfl (AO.calc' rfl ?_); refine AR.step rfl rfl rfl (AO.nilCheck rfl rfl ?_); refine AR.step rfl rfl rfl (AO.aT rfl rfl jq ?_); refine AR.step rfl rfl rfl (AO.dY (i:=0) rfl rfl rfl rD rfl rfl ?_); refine AR.step rfl rfl rfl (AO.calc' rfl ?_); refine AR.step rfl rfl rfl (AO.buildSlice rfl pE rfl rfl rfl ?_); refine AR.step rfl rfl rfl (AO.zG (i:=1) hv rfl rfl rfl rfl rfl (wO.list rfl kR (by simp [bN]) (by simp [bN,PV.one])) rfl pE (fun v' s1 hs1 hr1=>?_)); cases hs1; refine AR.step rfl rfl rfl (AO.nilCheck rfl rfl ?_); refine AR.step rfl rfl rfl (AO.aT rfl rfl jq ?_); refine AR.aS rfl rfl (AO.jA (i:=0) rfl rfl rfl rD rfl rfl rfl rfl rfl ?_); refine AR.nil [1] rfl ?_; refine AW.seq ?_; refine AW.region ?_; refine AR.step rfl rfl rfl (AO.calc' rfl ?_); refine AR.nil [4] rfl ?_; refine AW.ret ?_; exact ⟨rfl,_,⟨_,_,rfl,rfl,rfl⟩,_,List.Sublist.refl _,_,v',r,rfl,.inr rfl,hr1 hroom,h v'⟩
theorem yN {b:Nat} {v:Value} {bs r:List UInt8} {s:List UInt8} (hv:app bs s=some r) {R:dh→List aG→Prop} (h:∀ v',R (.ret (.tuple [.int .i64 (s.length:Int),.val .nilIface])) [.zF b v' 102 5 r]):AC Tryz.prog 76 [.val (.pointer (some ⟨b,0,none⟩)),.str s] [.zF b v 102 5 bs] R:=by
  refine AC.zF fun p hp hroom=>?_; refine AC.gH 19 [.tmp 4,.tmp 5] [0,1] Tryz.func76 rfl rfl rfl rfl rfl ?_; refine AW.seq ?_; refine AW.region ?_; refine AR.step rfl rfl rfl (AO.calc' rfl ?_); refine AR.step rfl rfl rfl (AO.calc' rfl ?_); refine AR.nil [0,1] rfl ?_; refine AW.seq ?_; refine AW.region ?_; refine AR.step rfl rfl rfl (AO.calc' rfl ?_); refine AR.step rfl rfl rfl (AO.call rfl _ rfl rfl KF (uh hp ?_)); refine AR.nil [0,1] rfl ?_; refine AW.seq ?_; refine AW.region ?_; refine AR.step rfl rfl rfl (AO.calc' rfl ?_); refine AR.step rfl rfl rfl (AO.calc' rfl ?_); refine AR.step rfl rfl rfl (AO.nilCheck rfl rfl ?_); refine AR.step rfl rfl rfl (AO.aT rfl rfl jq ?_); refine AR.step rfl rfl rfl (AO.dY (i:=0) rfl rfl rfl rD rfl rfl ?_); refine AR.step rfl rfl rfl (AO.calc' rfl ?_); refine AR.step rfl rfl rfl (AO.zG (i:=1) hv rfl rfl rfl rfl rfl (wO.str cK) rfl pE (fun v' s1 hs1 hr1=>?_)); cases hs1; refine AR.step rfl rfl rfl (AO.nilCheck rfl rfl ?_); refine AR.step rfl rfl rfl (AO.aT rfl rfl jq ?_); refine AR.aS rfl rfl (AO.jA (i:=0) rfl rfl rfl rD rfl rfl rfl rfl rfl ?_); refine AR.nil [1] rfl ?_; refine AW.seq ?_; refine AW.region ?_; refine AR.step rfl rfl rfl (AO.calc' rfl ?_); refine AR.step rfl rfl rfl (AO.bV rfl rfl rfl rfl cK rfl ?_); refine AR.step rfl rfl rfl (AO.calc' rfl ?_); refine AR.step rfl rfl rfl (AO.calc' rfl ?_); refine AR.nil [4,5] rfl ?_; refine AW.ret ?_; exact ⟨rfl,_,⟨_,_,rfl,rfl,_,_,rfl,rfl,rfl⟩,_,List.Sublist.refl _,_,v',r,rfl,.inr rfl,hr1 hroom,h v'⟩
theorem JG {b:Nat} {v:Value} {bs:List UInt8} {R:dh→List aG→Prop} (h:R (.ret (.int .i64 (bs.length:Int))) [.zF b v 102 5 bs]):AC Tryz.prog 77 [.val (.pointer (some ⟨b,0,none⟩))] [.zF b v 102 5 bs] R:=by
  refine AC.zF fun p hp hroom=>?_; refine AC.gH 8 [.tmp 2] [0] Tryz.func77 rfl rfl rfl rfl rfl ?_; refine AW.seq ?_; refine AW.region ?_; refine AR.step rfl rfl rfl (AO.calc' rfl ?_); refine AR.nil [0] rfl ?_; refine AW.seq ?_; refine AW.region ?_; refine AR.step rfl rfl rfl (AO.calc' rfl ?_); refine AR.step rfl rfl rfl (AO.nilCheck rfl rfl ?_); refine AR.step rfl rfl rfl (AO.aT rfl rfl jq ?_); refine AR.step rfl rfl rfl (AO.dY (i:=0) rfl rfl rfl rD rfl rfl ?_); refine AR.step rfl rfl rfl (AO.aN (l:=bs) rfl rfl rfl rfl kR rfl rfl ?_); refine AR.step rfl rfl rfl (AO.calc' rfl ?_); refine AR.nil [2] rfl ?_; refine AW.ret ?_; exact ⟨rfl,_,⟨_,_,rfl,rfl,rfl⟩,_,List.Sublist.refl _,p,v,bs,rfl,hp,hroom,h⟩
theorem EU {b:Nat} {v:Value} {bs:List UInt8} {R:dh→List aG→Prop} (h:R (.ret (.str bs)) []):AC Tryz.prog 78 [.val (.pointer (some ⟨b,0,none⟩))] [.zF b v 102 5 bs] R:=by
  refine AC.MP fun p hroom=>?_; refine AC.gH 14 [.tmp 2] [0] Tryz.func78 rfl rfl rfl rfl rfl ?_; refine AW.seq ?_; refine AW.region ?_; refine AR.step rfl rfl rfl (AO.calc' rfl ?_); refine AR.nil [0] rfl ?_; refine AW.seq ?_; refine AW.draw 10 mixed (by kernel_rfl) rfl ?_; refine Ev.cons rfl rfl rfl (AO.calc' rfl ⟨rfl,rfl⟩) ?_; refine Ev.cons rfl rfl rfl (AO.nilCheck rfl rfl ⟨rfl,rfl⟩) ?_; refine Ev.cons rfl rfl rfl (AO.aT rfl rfl jq ⟨rfl,rfl⟩) ?_; refine Ev.cons rfl rfl rfl (AO.dY (i:=0) rfl rfl rfl rD rfl rfl ⟨rfl,rfl⟩) ?_; refine Ev.cons rfl rfl rfl (AO.sliceData rfl rfl rfl rfl hroom ⟨rfl,rfl⟩) ?_; refine Ev.cons rfl rfl rfl (AO.calc' rfl ⟨rfl,rfl⟩) ?_; refine Ev.cons rfl rfl rfl (AO.nilCheck rfl rfl ⟨rfl,rfl⟩) ?_; refine Ev.cons rfl rfl rfl (AO.aT rfl rfl jq ⟨rfl,rfl⟩) ?_; refine Ev.cons rfl rfl rfl (AO.dY (i:=0) rfl rfl rfl rD rfl rfl ⟨rfl,rfl⟩) ?_; refine Ev.cons rfl rfl rfl (AO.aN (l:=bs) rfl rfl rfl rfl kR rfl rfl ⟨rfl,rfl⟩) ?_; refine Ev.nil ?_; show AR _ _ _ _ _ _ _ _; refine AR.step rfl rfl rfl (AO.unsafeString rfl rfl rfl rfl J7 Qp rfl rfl rfl ?_); refine AR.step rfl rfl rfl (AO.calc' rfl ?_); refine AR.nil [2] rfl ?_; refine AW.ret ?_; exact ⟨rfl,_,⟨_,_,rfl,rfl,rfl⟩,[],List.nil_sublist _,h⟩
theorem Cy {b:Nat} {q:PV} {v p:Value} {bs:List UInt8} (hp:p=Value.pointer none∨p=.pointer (some ⟨b,1,none⟩)) {R:dh→List aG→Prop} (h:R (.ret (.tuple [])) [.row v (List.length bs) 1 5,.fZ b 104 [q,.val (.pointer (some ⟨b,1,none⟩)),.own v (List.map bN bs)]]):
    AC Tryz.prog 82 [.val (.pointer (some ⟨b,1,none⟩))] [.row v (List.length bs) 1 5,.fZ b 104 [q,.val p,.own v (List.map bN bs)]] R:=by
  obtain ⟨j,hj1,hj2⟩:=Rq; rcases hp with rfl | rfl
  · skip
    refine AC.gH 20 [] [0] Tryz.func82 rfl rfl rfl rfl rfl ?_; refine AW.seq ?_; refine AW.region ?_; refine AR.step rfl rfl rfl (AO.calc' rfl ?_); refine AR.step rfl rfl rfl (AO.nilCheck rfl rfl ?_); refine AR.step rfl rfl rfl (AO.aT rfl rfl mY ?_); refine AR.step rfl rfl rfl (AO.dY (i:=1) rfl rfl rfl sF rfl rfl ?_); refine AR.step rfl rfl rfl (AO.Ai rfl qV rfl rfl ?_); refine AR.nil [0,6] rfl ?_; refine AW.cond rfl (fun h1=>?_) (fun h1=>?_)
    · refine AW.region ?_; refine AR.step rfl rfl rfl (AO.calc' rfl ?_); refine AR.step rfl rfl rfl (AO.calc' rfl ?_); refine AR.step rfl rfl rfl (AO.GV (i:=1) (n:=1) rfl qV Eb hj1 hj2 rfl rfl rfl ?_); refine AR.step rfl rfl rfl (AO.FU rfl rfl rfl rfl Tryz.func106 (by kernel_rfl) (by kernel_rfl) (by kernel_rfl) (by kernel_rfl) rfl ?_); refine AR.step rfl rfl rfl (AO.EC (i:=1) rfl Eb qV hj1 rfl rfl rfl P8 ?_); refine AR.step rfl rfl rfl (AO.nilCheck rfl rfl ?_); refine AR.step rfl rfl rfl (AO.aT rfl rfl mY ?_); refine AR.aS rfl rfl (AO.jA (i:=1) rfl rfl rfl sF rfl rfl rfl rfl rfl ?_); refine AR.nil [] rfl ?_; exact ⟨rfl,[],rfl,_,List.Sublist.refl _,h⟩
    · cases h1
  · skip
    refine AC.gH 20 [] [0] Tryz.func82 rfl rfl rfl rfl rfl ?_; refine AW.seq ?_; refine AW.region ?_; refine AR.step rfl rfl rfl (AO.calc' rfl ?_); refine AR.step rfl rfl rfl (AO.nilCheck rfl rfl ?_); refine AR.step rfl rfl rfl (AO.aT rfl rfl mY ?_); refine AR.step rfl rfl rfl (AO.dY (i:=1) rfl rfl rfl sF rfl rfl ?_); refine AR.step rfl rfl rfl (AO.Ai rfl qV rfl rfl ?_); refine AR.nil [0,6] rfl ?_; refine AW.cond rfl (fun h1=>?_) (fun h1=>?_)
    · cases h1
    · refine AW.seq ?_; refine AW.region ?_; refine AR.step rfl rfl rfl (AO.calc' rfl ?_); refine AR.step rfl rfl rfl (AO.nilCheck rfl rfl ?_); refine AR.step rfl rfl rfl (AO.aT rfl rfl mY ?_); refine AR.step rfl rfl rfl (AO.dY (i:=1) rfl rfl rfl sF rfl rfl ?_); refine AR.step rfl rfl rfl (AO.calc' rfl ?_); refine AR.step rfl rfl rfl (AO.xR rfl qV hj1 rfl rfl ?_); refine AR.nil [19] rfl ?_; refine AW.cond rfl (fun h2=>?_) (fun h2=>?_)
      · cases h2
      · refine AW.skip ?_; exact ⟨rfl,[],rfl,_,List.Sublist.refl _,h⟩
theorem vC {b:Nat} {q:PV} {v p:Value} {bs r:List UInt8} (hp:p=Value.pointer none∨p=.pointer (some ⟨b,1,none⟩)) (hroom:roomy v=true) {c:UInt8} (hv:app bs [c]=some r) {R:dh→List aG→Prop} (h:∀ v',roomy v'=true→R (.ret (.val .nilIface)) [.row v' (List.length r) 1 5,.fZ b 104 [q,.val (.pointer (some ⟨b,1,none⟩)),.own v' (List.map bN r)]]):AC Tryz.prog 60 [.val (.pointer (some ⟨b,1,none⟩)),.int .u8 (c.toNat:Int)] [.row v (List.length bs) 1 5,.fZ b 104 [q,.val p,.own v (List.map bN bs)]] R:=by
  refine AC.gH 17 [.tmp 4] [0,1] Tryz.func60 rfl rfl rfl rfl rfl ?_; refine AW.seq ?_; refine AW.region ?_; refine AR.step rfl rfl rfl (AO.calc' rfl ?_); refine AR.nil [0,1] rfl ?_; refine AW.seq ?_; refine AW.region ?_; refine AR.step rfl rfl rfl (AO.calc' rfl ?_); refine AR.step rfl rfl rfl (AO.call rfl _ rfl rfl KF (Cy hp ?_)); refine AR.nil [0,1] rfl ?_; refine AW.seq ?_; refine AW.region ?_; refine AR.step rfl rfl rfl (AO.calc' rfl ?_); refine AR.step rfl rfl rfl (AO.calc' rfl ?_); refine AR.step rfl rfl rfl (AO.nilCheck rfl rfl ?_); refine AR.step rfl rfl rfl (AO.aT rfl rfl jq ?_); refine AR.step rfl rfl rfl (AO.dY (i:=1) rfl rfl rfl rD rfl rfl ?_); refine AR.step rfl rfl rfl (AO.calc' rfl ?_); refine AR.step rfl rfl rfl (AO.buildSlice rfl pE rfl rfl rfl ?_); refine AR.step rfl rfl rfl (AO.zG (i:=0) hv rfl rfl rfl rfl rfl (wO.list rfl kR (by simp [bN]) (by simp [bN,PV.one])) rfl pE (fun v' s1 hs1 hr1=>?_)); cases hs1; refine AR.step rfl rfl rfl (AO.nilCheck rfl rfl ?_); refine AR.step rfl rfl rfl (AO.aT rfl rfl jq ?_); refine AR.aS rfl rfl (AO.jA (i:=1) rfl rfl rfl rD rfl rfl rfl rfl rfl ?_); refine AR.nil [1] rfl ?_; refine AW.seq ?_; refine AW.region ?_; refine AR.step rfl rfl rfl (AO.calc' rfl ?_); refine AR.nil [4] rfl ?_; refine AW.ret ?_; exact ⟨rfl,_,⟨_,_,rfl,rfl,rfl⟩,_,List.Sublist.refl _,h v' (hr1 hroom)⟩
theorem Lf {b:Nat} {q:PV} {v p:Value} {bs:List UInt8} {R:dh→List aG→Prop} (h:R (.ret (.int .i64 (bs.length:Int))) [.row v (List.length bs) 1 5,.fZ b 104 [q,.val p,.own v (List.map bN bs)]]):AC Tryz.prog 77 [.val (.pointer (some ⟨b,1,none⟩))] [.row v (List.length bs) 1 5,.fZ b 104 [q,.val p,.own v (List.map bN bs)]] R:=by
  refine AC.gH 8 [.tmp 2] [0] Tryz.func77 rfl rfl rfl rfl rfl ?_; refine AW.seq ?_; refine AW.region ?_; refine AR.step rfl rfl rfl (AO.calc' rfl ?_); refine AR.nil [0] rfl ?_; refine AW.seq ?_; refine AW.region ?_; refine AR.step rfl rfl rfl (AO.calc' rfl ?_); refine AR.step rfl rfl rfl (AO.nilCheck rfl rfl ?_); refine AR.step rfl rfl rfl (AO.aT rfl rfl jq ?_); refine AR.step rfl rfl rfl (AO.dY (i:=1) rfl rfl rfl rD rfl rfl ?_); refine AR.step rfl rfl rfl (AO.aN (l:=bs) rfl rfl rfl rfl kR rfl rfl ?_); refine AR.step rfl rfl rfl (AO.calc' rfl ?_); refine AR.nil [2] rfl ?_; refine AW.ret ?_; exact ⟨rfl,_,⟨_,_,rfl,rfl,rfl⟩,_,List.Sublist.refl _,h⟩
theorem Gw {b:Nat} {q:PV} {v p:Value} {bs:List UInt8} (hroom:roomy v=true) {R:dh→List aG→Prop} (h:R (.ret (.str bs)) [.fZ b 104 [q,.val p,.own v (List.map bN bs)]]):AC Tryz.prog 78 [.val (.pointer (some ⟨b,1,none⟩))] [.row v (List.length bs) 1 5,.fZ b 104 [q,.val p,.own v (List.map bN bs)]] R:=by
  refine AC.gH 14 [.tmp 2] [0] Tryz.func78 rfl rfl rfl rfl rfl ?_; refine AW.seq ?_; refine AW.region ?_; refine AR.step rfl rfl rfl (AO.calc' rfl ?_); refine AR.nil [0] rfl ?_; refine AW.seq ?_; refine AW.draw 10 mixed (by kernel_rfl) rfl ?_; refine Ev.cons rfl rfl rfl (AO.calc' rfl ⟨rfl,rfl⟩) ?_; refine Ev.cons rfl rfl rfl (AO.nilCheck rfl rfl ⟨rfl,rfl⟩) ?_; refine Ev.cons rfl rfl rfl (AO.aT rfl rfl jq ⟨rfl,rfl⟩) ?_; refine Ev.cons rfl rfl rfl (AO.dY (i:=1) rfl rfl rfl rD rfl rfl ⟨rfl,rfl⟩) ?_; refine Ev.cons rfl rfl rfl (AO.sliceData rfl rfl rfl rfl hroom ⟨rfl,rfl⟩) ?_; refine Ev.cons rfl rfl rfl (AO.calc' rfl ⟨rfl,rfl⟩) ?_; refine Ev.cons rfl rfl rfl (AO.nilCheck rfl rfl ⟨rfl,rfl⟩) ?_; refine Ev.cons rfl rfl rfl (AO.aT rfl rfl jq ⟨rfl,rfl⟩) ?_; refine Ev.cons rfl rfl rfl (AO.dY (i:=1) rfl rfl rfl rD rfl rfl ⟨rfl,rfl⟩) ?_; refine Ev.cons rfl rfl rfl (AO.aN (l:=bs) rfl rfl rfl rfl kR rfl rfl ⟨rfl,rfl⟩) ?_; refine Ev.nil ?_; show AR _ _ _ _ _ _ _ _; refine AR.step rfl rfl rfl (AO.CU rfl rfl rfl rfl J7 Qp rfl rfl rfl ?_); refine AR.step rfl rfl rfl (AO.calc' rfl ?_); refine AR.nil [2] rfl ?_; refine AW.ret ?_; exact ⟨rfl,_,⟨_,_,rfl,rfl,rfl⟩,_,List.Sublist.refl _,h⟩
theorem Cz {b:Nat} {q:PV} {v p:Value} {bs:List UInt8} {R:dh→List aG→Prop} (h:R (.ret (.tuple [])) [.fZ b 104 [q,.val (.pointer none),.own (.slice none 0 0) (List.map bN [])]]):AC Tryz.prog 87 [.val (.pointer (some ⟨b,1,none⟩))] [.fZ b 104 [q,.val p,.own v (List.map bN bs)]] R:=by
  refine AC.gH 8 [] [0] Tryz.func87 rfl rfl rfl rfl rfl ?_; refine AW.seq ?_; refine AW.region ?_; refine AR.step rfl rfl rfl (AO.calc' rfl ?_); refine AR.step rfl rfl rfl (AO.nilCheck rfl rfl ?_); refine AR.step rfl rfl rfl (AO.aT rfl rfl mY ?_); refine AR.aS rfl rfl (AO.jA (i:=0) rfl rfl rfl sF rfl rfl rfl rfl rfl ?_); refine AR.nil [0] rfl ?_; refine AW.region ?_; refine AR.step rfl rfl rfl (AO.calc' rfl ?_); refine AR.step rfl rfl rfl (AO.nilCheck rfl rfl ?_); refine AR.step rfl rfl rfl (AO.aT rfl rfl jq ?_); refine AR.aS rfl rfl (AO.jA (i:=0) rfl rfl rfl rD rfl rfl rfl rfl rfl ?_); refine AR.nil [] rfl ?_; exact ⟨rfl,[],rfl,_,List.Sublist.refl _,h⟩
theorem Gt (l1:List aB) {r0:Bool} (hf:vO l1=some r0) (h:Q (.ret (.bool r0)) τ):PC 12 [.list (List.map aB.cells l1)] τ Q:=by
 unfold vO at hf; refine BN 24 [.tmp 2] [0] Tryz.func12 Z Z Z Z Z (V 2 Z (JM (fun i1=>[(0,.list (List.map aB.cells l1)),(3,iP i1)]) (fun i1=>[]) (fun bJ i1=>kI l1 bJ i1=some r0) BIG 0 Z Z hf (fun _ hz=>aQ hz) ?_)); intro bJ i1 hf; rw [kI] at hf; refine W 2 Z (AS Z (AO.aN (l:=l1) Z Z Z Z yB Z Z (U 2 Z (An 3 8 11 [0,3] (decide (i1 < 20)) Z Z Z Z (J 0 Z (C hf Z (fun h2 hf=>?_) fun h2 hf=>?_))))))
 ·
  refine B1 hf fun e1 h3 hf=>W 2 Z (AS Z (AO.bK h3 Z Z Z Z yB (aB.aO _) Z (U 2 Z (AS Z (AO.bV Z Z Z Z cK Z (J 1 Z (C hf Z (fun h4 hf=>?_) fun h4 hf=>?_)))))))
  · cases hf; exact M 1 Z (Y Z h)
  exact M 3 Z ⟨(bE (i1 + 1)),Z,Z,Z,hf⟩
 refine W 1 Z (AS Z (AO.aN (l:=l1) Z Z Z Z yB Z Z ?_)); cases hf; exact N 2 Z (Y Z h)
theorem Cv (l1:List Str) {r0:Bool} (hf:oU l1=some r0) (h:Q (.ret (.bool r0)) τ):PC 13 [sP l1] τ Q:=by
 unfold oU at hf; refine BN 23 [.tmp 2] [0] Tryz.func13 Z Z Z Z Z (V 2 Z (JM (fun i1=>[(0,sP l1),(3,iP i1)]) (fun i1=>[]) (fun bJ i1=>iL l1 bJ i1=some r0) BIG 0 Z Z hf (fun _ hz=>aQ hz) ?_)); intro bJ i1 hf; rw [iL] at hf; refine W 2 Z (AS Z (AO.aN (l:=l1) Z Z Z Z iV Z Z (U 2 Z (An 3 8 11 [0,3] (decide (i1 < 10)) Z Z Z Z (J 0 Z (C hf Z (fun h2 hf=>?_) fun h2 hf=>?_))))))
 ·
  refine B1 hf fun e1 h3 hf=>W 2 Z (AS Z (AO.bK h3 Z Z Z Z iV Z Z (U 1 Z (AS Z (AO.bV Z Z Z Z cK Z (J 1 Z (C hf Z (fun h4 hf=>?_) fun h4 hf=>?_)))))))
  · cases hf; exact M 1 Z (Y Z h)
  exact M 3 Z ⟨(bE (i1 + 1)),Z,Z,Z,hf⟩
 refine W 1 Z (AS Z (AO.aN (l:=l1) Z Z Z Z iV Z Z ?_)); cases hf; exact N 2 Z (Y Z h)
theorem uf (p1:Nat) (s1:List (BitVec 64)) (c1:UInt8) {Fx:List (BitVec 64)} (hf:g_ s1 c1=some Fx) {Q:dh→List aG→Prop} (h:Q (.ret (.tuple [])) [.box p1 [.int .u64 ((Fx.getD 0 0).toNat:Int),.int .u64 ((Fx.getD 1 0).toNat:Int),.int .u64 ((Fx.getD 2 0).toNat:Int),.int .u64 ((Fx.getD 3 0).toNat:Int)]]):PC 113 [pP p1,.int .u8 (c1.toNat:Int)] [.box p1 [.int .u64 ((s1.getD 0 0).toNat:Int),.int .u64 ((s1.getD 1 0).toNat:Int),.int .u64 ((s1.getD 2 0).toNat:Int),.int .u64 ((s1.getD 3 0).toNat:Int)]] Q:=by
 unfold g_ at hf; refine BD 16 [] [0,1] Tryz.func113 Z Z Z Z Z (AW.draw 12 mixed (by kernel_rfl) Z ?_); refine Ev.cs bR 2 Z (Ev.cons Z Z Z (AO.u8_quo c1 64 Z Z Z Z Z (by decide) zg) ?_); refine Ev.cs bR 1 Z ?_; refine B1 hf fun e1 h1 hf=>Ev.cons Z Z Z (AO.jl h1 Z zX Z Z Z zg) (Ev.cons Z Z Z (AO.DL (i:=0) (fun z:BitVec 64=>.int .u64 (z.toNat:Int)) h1 Z Z Z Dw Z zg) (Ev.cs bR 1 Z (Ev.cons Z Z Z (AO.Ec c1 64 Z Z Z Z Z (by decide) zg) ?_))); refine Ev.cons Z Z Z (AO.xE (1:BitVec 64) ((c1 % 64).toNat) Z Z Z Z Z zg) ?_; refine B1 hf fun x1 h2 hf=>Ev.cons Z Z Z (AO.Fh e1 ((1:BitVec 64) <<< (c1 % 64).toNat) h2 Z Z Z Z Z zg) (Ev.cs bR 1 Z ?_); refine B1 hf fun e2 h3 hf=>Ev.cons Z Z Z (AO.jl h3 Z zX Z Z Z zg) (Ev.nil ?_); show AR _ _ _ _ _ _ _ _; refine B1 hf fun y1 h4 hf=>AR.aS Z Z (AO.wR (i:=0) (fun z:BitVec 64=>.int .u64 (z.toNat:Int)) 0 h3 h4 Z Z Z Dw Z Z Z Z Z Z ?_); cases hf; exact N 0 rfl ⟨rfl,_,rfl,_,(.cons_cons _ (List.nil_sublist _)),h⟩
theorem vv (Ei:Bool) {r0:List (BitVec 64)} (hf:jN Ei=some r0) (h:Q (.ret (.agg [.int .u64 ((r0.getD 0 0).toNat:Int),.int .u64 ((r0.getD 1 0).toNat:Int),.int .u64 ((r0.getD 2 0).toNat:Int),.int .u64 ((r0.getD 3 0).toNat:Int)])) τ):PC 88 [.bool Ei] τ Q:=by
 unfold jN at hf; refine BN 9 [.cell 2 93] [0] Tryz.func88 Z Z Z Z Z (W 0 Z (AS Z (AO.aL Z Dt (fun b2=>(U 0 Z (AS Z (AO.rW Z Dt zX Z (AS Z (AO.aL Z Dt (fun b3=>?_)))))))))); refine Rw 3 [0] Z Z (C hf Z (fun h1 hf=>?_) fun h1 hf=>?_)
 · refine B1 hf fun y1 h2 hf=>W 0 Z (CL Z (AC.one 0 Z (uf _ _ _ h2 ⟨_,Z,?_⟩))); cases hf; exact Rx 2 [0,1] Z Z (ZC [1] Z Z h)
 cases hf; exact Wx 2 [0,1] Z Z (ZC [1] Z Z h)
theorem zU (s1:Str) {r0:UInt8} {r1:Int} (hf:iN s1=some (r0,r1)) (h:Q (.ret (.tuple [.int .u8 (r0.toNat:Int),iP r1])) τ):PC 114 [.str s1] τ Q:=by
 unfold iN at hf; refine BN 26 [.tmp 2,.tmp 3] [0] Tryz.func114 Z Z Z Z Z ?_; refine B1 hf fun b1 h2 hf=>W 5 Z (AR.eD 4 6 10 false [0] b1 Z Z (fun h1=>?_) (fun h1=>?_) ?_)
 · refine IF 6 h1 h2 Z fun h2=>?_; refine B1 h2 fun x1 h3 h2=>U 1 Z (GO Z (AO.dK h3 Z cK Z Z ?_)); cases h2; exact fE 2 Z (En [10,0] Z)
 · refine IT 6 h1 h2 Z fun h2=>?_; cases h2; exact fE 4 Z (En [10,0] Z)
 refine B1 hf fun b2 h5 hf=>U 1 Z (AR.eD 4 11 15 false [0] b2 Z Z (fun h4=>?_) (fun h4=>?_) ?_)
 · refine IF 11 h4 h5 Z fun h5=>?_; refine B1 h5 fun x2 h6 h5=>U 1 Z (GO Z (AO.dK h6 Z cK Z Z ?_)); cases h5; exact fE 2 Z (En [15,0] Z)
 · refine IT 11 h4 h5 Z fun h5=>?_; cases h5; exact fE 4 Z (En [15,0] Z)
 refine J 0 Z (C hf Z (fun h7 hf=>?_) fun h7 hf=>?_)
 · cases hf; exact M 2 Z (Y Z h)
 refine B1 hf fun x3 h8 hf=>W 1 Z (AS Z (AO.dK h8 Z cK Z Z (J 1 Z (C hf Z (fun h9 hf=>?_) fun h9 hf=>?_))))
 · refine B1 hf fun x4 h10 hf=>W 1 Z (AS Z (AO.dK h10 Z cK Z Z ?_)); cases hf; exact N 2 Z (Y Z h)
 refine W 1 Z (AS Z (AO.bV Z Z Z Z cK Z (J 1 Z (C hf Z (fun h11 hf=>?_) fun h11 hf=>?_))))
 · cases hf; exact M 2 Z (Y Z h)
 refine B1 hf fun x5 h12 hf=>W 1 Z (AS Z (AO.dK h12 Z cK Z Z ?_)); cases hf; exact N 2 Z (Y Z h)
theorem vo (p1:Nat) (s1:List (BitVec 64)) (c1:UInt8) {Fx:List (BitVec 64)} (hf:fQ s1 c1=some Fx) {Q:dh→List aG→Prop} (h:Q (.ret (.tuple [])) [.box p1 [.int .u64 ((Fx.getD 0 0).toNat:Int),.int .u64 ((Fx.getD 1 0).toNat:Int),.int .u64 ((Fx.getD 2 0).toNat:Int),.int .u64 ((Fx.getD 3 0).toNat:Int)]]):PC 115 [pP p1,.int .u8 (c1.toNat:Int)] [.box p1 [.int .u64 ((s1.getD 0 0).toNat:Int),.int .u64 ((s1.getD 1 0).toNat:Int),.int .u64 ((s1.getD 2 0).toNat:Int),.int .u64 ((s1.getD 3 0).toNat:Int)]] Q:=by
 unfold fQ at hf; refine BD 16 [] [0,1] Tryz.func115 Z Z Z Z Z (AW.draw 12 mixed (by kernel_rfl) Z ?_); refine Ev.cs bR 2 Z (Ev.cons Z Z Z (AO.u8_quo c1 64 Z Z Z Z Z (by decide) zg) ?_); refine Ev.cs bR 1 Z ?_; refine B1 hf fun e1 h1 hf=>Ev.cons Z Z Z (AO.jl h1 Z zX Z Z Z zg) (Ev.cons Z Z Z (AO.DL (i:=0) (fun z:BitVec 64=>.int .u64 (z.toNat:Int)) h1 Z Z Z Dw Z zg) (Ev.cs bR 1 Z (Ev.cons Z Z Z (AO.Ec c1 64 Z Z Z Z Z (by decide) zg) ?_))); refine Ev.cons Z Z Z (AO.xE (1:BitVec 64) ((c1 % 64).toNat) Z Z Z Z Z zg) ?_; refine B1 hf fun x1 h2 hf=>Ev.cons Z Z Z (AO.Af e1 ((1:BitVec 64) <<< (c1 % 64).toNat) h2 Z Z Z Z Z zg) (Ev.cs bR 1 Z ?_); refine B1 hf fun e2 h3 hf=>Ev.cons Z Z Z (AO.jl h3 Z zX Z Z Z zg) (Ev.nil ?_); show AR _ _ _ _ _ _ _ _; refine B1 hf fun y1 h4 hf=>AR.aS Z Z (AO.wR (i:=0) (fun z:BitVec 64=>.int .u64 (z.toNat:Int)) 0 h3 h4 Z Z Z Dw Z Z Z Z Z Z ?_); cases hf; exact N 0 rfl ⟨rfl,_,rfl,_,(.cons_cons _ (List.nil_sublist _)),h⟩
theorem yJ (p1:Nat) (s1:List (BitVec 64)) (c1:UInt8) (more:List PV) {Fx:List (BitVec 64)} (hf:fQ s1 c1=some Fx) {Q:dh→List aG→Prop} (h:Q (.ret (.tuple [])) [.box p1 (.int .u64 ((Fx.getD 0 0).toNat:Int) :: .int .u64 ((Fx.getD 1 0).toNat:Int) :: .int .u64 ((Fx.getD 2 0).toNat:Int) :: .int .u64 ((Fx.getD 3 0).toNat:Int) :: more)]):PC 115 [pP p1,.int .u8 (c1.toNat:Int)] [.box p1 (.int .u64 ((s1.getD 0 0).toNat:Int) :: .int .u64 ((s1.getD 1 0).toNat:Int) :: .int .u64 ((s1.getD 2 0).toNat:Int) :: .int .u64 ((s1.getD 3 0).toNat:Int) :: more)] Q:=by
 unfold fQ at hf; refine BD 16 [] [0,1] Tryz.func115 Z Z Z Z Z (AW.draw 12 mixed (by kernel_rfl) Z ?_); refine Ev.cs bR 2 Z (Ev.cons Z Z Z (AO.u8_quo c1 64 Z Z Z Z Z (by decide) zg) ?_); refine Ev.cs bR 1 Z ?_; refine B1 hf fun e1 h1 hf=>Ev.cons Z Z Z (AO.jl h1 Z zX Z Z Z zg) (Ev.cons Z Z Z (AO.Js (i:=0) (more:=more) (fun z:BitVec 64=>.int .u64 (z.toNat:Int)) h1 Z Z Z Dw Z zg) (Ev.cs bR 1 Z (Ev.cons Z Z Z (AO.Ec c1 64 Z Z Z Z Z (by decide) zg) ?_))); refine Ev.cons Z Z Z (AO.xE (1:BitVec 64) ((c1 % 64).toNat) Z Z Z Z Z zg) ?_; refine B1 hf fun x1 h2 hf=>Ev.cons Z Z Z (AO.Af e1 ((1:BitVec 64) <<< (c1 % 64).toNat) h2 Z Z Z Z Z zg) (Ev.cs bR 1 Z ?_); refine B1 hf fun e2 h3 hf=>Ev.cons Z Z Z (AO.jl h3 Z zX Z Z Z zg) (Ev.nil ?_); show AR _ _ _ _ _ _ _ _; refine B1 hf fun y1 h4 hf=>AR.aS Z Z (AO.GZ (i:=0) (more:=more) (fun z:BitVec 64=>.int .u64 (z.toNat:Int)) 0 h3 h4 Z Z Z Dw Z Z Z Z Z Z ?_); cases hf; exact N 0 rfl ⟨rfl,_,rfl,_,(.cons_cons _ (List.nil_sublist _)),h⟩
theorem ES (s1:Str) {r0:List (BitVec 64)} {r1:Int} (hf:pU s1=some (r0,r1)) (h:Q (.ret (.tuple [.agg [.int .u64 ((r0.getD 0 0).toNat:Int),.int .u64 ((r0.getD 1 0).toNat:Int),.int .u64 ((r0.getD 2 0).toNat:Int),.int .u64 ((r0.getD 3 0).toNat:Int)],iP r1])) τ):PC 89 [.str s1] τ Q:=by
 unfold pU at hf; refine BN 88 [.cell 2 93,.tmp 3] [0] Tryz.func89 Z Z Z Z Z (W 0 Z (AS Z (AO.aL Z Dt (fun b2=>(U 1 Z (AS Z (AO.aL Z Dt (fun b4=>?_)))))))); refine J 1 Z (D5 (fun dB bI=>[(0,.str s1),(2,pP b2),(4,pP b4),(5,iP dB)]) (fun dB bI=>[.box b4 [.int .u64 ((bI.getD 0 0).toNat:Int),.int .u64 ((bI.getD 1 0).toNat:Int),.int .u64 ((bI.getD 2 0).toNat:Int),.int .u64 ((bI.getD 3 0).toNat:Int)],.box b2 [.int .u64 0,.int .u64 0,.int .u64 0,.int .u64 0]]) (fun bJ dB bI=>bY s1 bJ dB bI=some (r0,r1)) BIG 1 ([0,0,0,0]:List (BitVec 64)) Z Z hf (fun _ _ hz=>aQ hz) ?_); intro bJ dB bI hf; rw [bY] at hf; refine B1 hf fun b1 h2 hf=>W 3 Z (AR.eD 11 12 23 false [0,2,4,5] b1 Z Z (fun h1=>?_) (fun h1=>?_) ?_)
 ·
  replace h2:=gZ h1 h2; refine Is 12 h1 Z (U 2 Z (GO Z (AO.bV Z Z Z Z cK Z ?_))); refine BR h2 fun b2 h4 h2=>?_; refine U 2 Z (AR.eD 5 17 22 true [0,2,4,5,12] b2 Z Z (fun h3=>?_) (fun h3=>?_) ?_)
  · refine IT 17 h3 h4 Z fun h4=>?_; refine B1 h4 fun x1 h5 h4=>U 2 Z (GO Z (AO.dK h5 Z cK Z Z ?_)); cases h4; exact fE 2 Z (En [22,0,2,4,5,12] Z)
  · refine IF 17 h3 h4 Z fun h4=>?_; cases h4; exact fE 5 Z (En [22,0,2,4,5,12] Z)
  cases h2; exact fE 1 Z (En [23,0,2,4,5] Z)
 · refine IT 12 h1 h2 Z fun h2=>?_; cases h2; exact fE 11 Z (En [23,0,2,4,5] Z)
 refine J 0 Z (C hf Z (fun h6 hf=>?_) fun h6 hf=>?_)
 ·
  refine B1 hf fun x2 h7 hf=>W 2 Z (AS Z (AO.sG h7 Z cK Z ⟨_,Z⟩ Z ?_)); obtain ⟨fH,n1,h8,hf⟩:=bL hf; refine CL Z (zU _ h8 (J 7 Z (C hf Z (fun h9 hf=>?_) fun h9 hf=>?_)))
  · cases hf; exact Wx 3 [0,1] Z Z (ZC [1] Z Z h)
  refine W 8 Z (AS Z (AO.bV Z Z Z Z cK Z ?_)); refine B1 hf fun b3 h11 hf=>U 2 Z (AR.eD 5 42 47 true [0,2,4,5,6,8] b3 Z Z (fun h10=>?_) (fun h10=>?_) ?_)
  · refine IT 42 h10 h11 Z fun h11=>?_; refine B1 h11 fun x3 h12 h11=>U 2 Z (GO Z (AO.dK h12 Z cK Z Z ?_)); cases h11; exact fE 2 Z (En [47,0,2,4,5,6,8] Z)
  · refine IF 42 h10 h11 Z fun h11=>?_; cases h11; exact fE 5 Z (En [47,0,2,4,5,6,8] Z)
  refine J 0 Z (C hf Z (fun wh hf=>?_) fun wh hf=>?_)
  ·
   refine B1 hf fun x4 sZ hf=>W 3 Z (AS Z (AO.sG sZ Z cK Z ⟨_,Z⟩ Z ?_)); obtain ⟨jT,n2,Ab,hf⟩:=bL hf; refine CL Z (zU _ Ab (U 8 Z (On 4 58 62 [0,2,4,5,6,7,8] (decide ((jT.toNat:Int) < (fH.toNat:Int))) Z Z Z Z (J 0 Z (C hf Z (fun CQ hf=>?_) fun CQ hf=>?_)))))
   · cases hf; exact Wx 3 [0,1] Z Z (ZC [1] Z Z h)
   refine W 6 Z (AS Z (AO.vR Z xC CV Z Z ?_)); refine J 1 Z (D5 (fun c1 mO=>[(0,.str s1),(2,pP b2),(4,pP b4),(5,iP (bE ((bE (dB + n1)) + (bE (1 + n2))))),(8,.int .u8 (jT.toNat:Int)),(9,iP c1)]) (fun c1 mO=>[.box b4 [.int .u64 ((mO.getD 0 0).toNat:Int),.int .u64 ((mO.getD 1 0).toNat:Int),.int .u64 ((mO.getD 2 0).toNat:Int),.int .u64 ((mO.getD 3 0).toNat:Int)],.box b2 [.int .u64 0,.int .u64 0,.int .u64 0,.int .u64 0]]) (fun uq c1 mO=>gK dB n1 jT n2 (bY s1 bJ) uq c1 mO=some (r0,r1)) BIG (fH.toNat:Int) ([(bI.getD 0 0),(bI.getD 1 0),(bI.getD 2 0),(bI.getD 3 0)]:List (BitVec 64)) Z Z hf (fun _ _ hz=>aQ hz) ?_); intro uq c1 mO hf; rw [gK] at hf; refine W 2 Z (AS Z (AO.vR Z xC CV Z Z (J 1 Z (C hf Z (fun h18 hf=>?_) fun h18 hf=>?_))))
   · refine W 1 Z (AS Z (AO.Gg Z CV xC Z ?_)); refine B1 hf fun y1 h19 hf=>CL Z (AC.one 0 Z (vo _ _ _ h19 ⟨_,Z,?_⟩)); exact N 3 Z ⟨(bE (c1 + 1)),([(y1.getD 0 0),(y1.getD 1 0),(y1.getD 2 0),(y1.getD 3 0)]:List (BitVec 64)),Z,Z,Z,hf⟩
   exact M 0 Z ⟨(bE ((bE (dB + n1)) + (bE (1 + n2)))),([(mO.getD 0 0),(mO.getD 1 0),(mO.getD 2 0),(mO.getD 3 0)]:List (BitVec 64)),Z,Z,Z,hf⟩
  refine W 1 Z (AS Z (AO.vR Z xC CV Z Z ?_)); refine J 1 Z (D5 (fun c2 mM=>[(0,.str s1),(2,pP b2),(4,pP b4),(5,iP (bE (dB + n1))),(8,.int .u8 (fH.toNat:Int)),(9,iP c2)]) (fun c2 mM=>[.box b4 [.int .u64 ((mM.getD 0 0).toNat:Int),.int .u64 ((mM.getD 1 0).toNat:Int),.int .u64 ((mM.getD 2 0).toNat:Int),.int .u64 ((mM.getD 3 0).toNat:Int)],.box b2 [.int .u64 0,.int .u64 0,.int .u64 0,.int .u64 0]]) (fun GN c2 mM=>gJ dB fH n1 (bY s1 bJ) GN c2 mM=some (r0,r1)) BIG (fH.toNat:Int) ([(bI.getD 0 0),(bI.getD 1 0),(bI.getD 2 0),(bI.getD 3 0)]:List (BitVec 64)) Z Z hf (fun _ _ hz=>aQ hz) ?_); intro GN c2 mM hf; rw [gJ] at hf; refine W 2 Z (AS Z (AO.vR Z xC CV Z Z (J 1 Z (C hf Z (fun h20 hf=>?_) fun h20 hf=>?_))))
  · refine W 1 Z (AS Z (AO.Gg Z CV xC Z ?_)); refine B1 hf fun y2 h21 hf=>CL Z (AC.one 0 Z (vo _ _ _ h21 ⟨_,Z,?_⟩)); exact N 3 Z ⟨(bE (c2 + 1)),([(y2.getD 0 0),(y2.getD 1 0),(y2.getD 2 0),(y2.getD 3 0)]:List (BitVec 64)),Z,Z,Z,hf⟩
  exact M 0 Z ⟨(bE (dB + n1)),([(mM.getD 0 0),(mM.getD 1 0),(mM.getD 2 0),(mM.getD 3 0)]:List (BitVec 64)),Z,Z,Z,hf⟩
 refine W 2 Z (AS Z (AO.bV Z Z Z Z cK Z (J 1 Z (C hf Z (fun h22 hf=>?_) fun h22 hf=>?_))))
 · cases hf; exact Wx 3 [0,1] Z Z (ZC [1] Z Z h)
 refine B1 hf fun y3 h23 hf=>W 0 Z (CL Z (AC.one 0 Z (uf _ _ _ h23 ⟨_,Z,?_⟩))); cases hf; exact Rx 5 [0,1] Z Z (ZC [1] Z Z h)
theorem vw (c1:UInt8) {r0:aF} (hf:iR c1=some r0) (h:Q (.ret (.agg (yg r0))) τ):PC 90 [.int .u8 (c1.toNat:Int)] τ Q:=by
 unfold iR at hf; refine BN 10 [.cell 2 95] [0] Tryz.func90 Z Z Z Z Z (W 0 Z (AS Z (AO.aL Z Dr (fun b2=>(U 2 Z (AS Z (AO.aL Z Dr (fun b3=>?_)))))))); refine B1 hf fun y1 h1 hf=>Rr 3 [0] Z Z (CL Z (AC.one 0 Z (yJ _ _ _ _ h1 ⟨_,Z,?_⟩))); cases hf; exact Rx 2 [0,1] Z Z (ZC [1] Z Z h)
theorem ER (p1:Str) {r0:aF} {r1:Int} (hf:ko p1=some (r0,r1)) (h:Q (.ret (.tuple [.agg (yg r0),iP r1])) τ):PC 64 [.str p1] τ Q:=by
 unfold ko at hf; refine BN 48 [.cell 2 95,.tmp 3] [0] Tryz.func64 Z Z Z Z Z (W 0 Z (AS Z (AO.aL Z Dr (fun b2=>?_)))); refine B1 hf fun x1 h1 hf=>U 2 Z (AS Z (AO.dK h1 Z cK Z Z (J 2 Z (C hf Z (fun h2 hf=>?_) fun h2 hf=>?_))))
 ·
  refine W 1 Z (AS Z (AO.bV Z Z Z Z cK Z ?_)); refine B1 hf fun b1 h4 hf=>U 2 Z (AR.eD 4 13 17 true [2] b1 Z Z (fun h3=>?_) (fun h3=>?_) ?_)
  · refine IT 13 h3 h4 Z fun h4=>?_; refine B1 h4 fun x2 h5 h4=>U 1 Z (GO Z (AO.dK h5 Z cK Z Z ?_)); cases h4; exact fE 2 Z (En [17,2] Z)
  · refine IF 13 h3 h4 Z fun h4=>?_; cases h4; exact fE 4 Z (En [17,2] Z)
  refine J 0 Z (C hf Z (fun h6 hf=>?_) fun h6 hf=>?_)
  · refine B1 hf fun x3 h7 hf=>W 0 Z (CL Z (vv _ h7 ?_)); cases hf; exact Rx 3 [0] Z Z (ZC [0] Z Z h)
  refine B1 hf fun x4 h8 hf=>W 0 Z (CL Z (vv _ h8 ?_)); cases hf; exact Rx 3 [0] Z Z (ZC [0] Z Z h)
 refine V 2 Z (C hf Z (fun h9 hf=>?_) fun h9 hf=>?_)
 · refine B1 hf fun x5 h10 hf=>W 0 Z (CL Z (vv _ h10 ?_)); cases hf; exact Rx 3 [0] Z Z (ZC [0] Z Z h)
 refine V 2 Z (C hf Z (fun h11 hf=>?_) fun h11 hf=>?_)
 · obtain ⟨x6,n1,h12,hf⟩:=bL hf; refine W 1 Z (CL Z (ES _ h12 (U 3 Z (AS Z (AO.aL Z Dt (fun b4=>?_)))))); cases hf; exact Rx 7 [0,0,1] Z Z (ZC [1] Z Z h)
 refine V 2 Z (C hf Z (fun wh hf=>?_) fun wh hf=>?_)
 ·
  refine W 1 Z (AS Z (AO.bV Z Z Z Z cK Z (J 1 Z (C hf Z (fun sZ hf=>?_) fun sZ hf=>?_))))
  · cases hf; exact Wx 3 [0] Z Z (ZC [0] Z Z h)
  refine B1 hf fun x7 Ab hf=>W 1 Z (AS Z (AO.dK Ab Z cK Z Z ?_)); refine B1 hf fun x8 h16 hf=>CL Z (vw _ h16 ?_); cases hf; exact Rx 2 [0] Z Z (ZC [0] Z Z h)
 refine B1 hf fun x9 CQ hf=>W 1 Z (AS Z (AO.dK CQ Z cK Z Z ?_)); refine B1 hf fun Rm h18 hf=>CL Z (vw _ h18 ?_); cases hf; exact Rx 2 [0] Z Z (ZC [0] Z Z h)
theorem EP (p1:Str) {r0:List aF} {r1:Int} (hf:nN p1=some (r0,r1)) (h:Q (.ret (.tuple [.list (List.map aF.cells r0),iP r1])) τ):PC 41 [.str p1] τ Q:=by
 unfold nN at hf; refine BN 27 [.tmp 2,.tmp 3] [0] Tryz.func41 Z Z Z Z Z (W 0 Z (AS Z (AO.dP Z Z (U 2 Z (AS Z (AO.bV Z Z Z Z cK Z (J 1 Z (C hf Z (fun h1 hf=>?_) fun h1 hf=>?_))))))))
 · refine W 0 Z (AS Z (AO.dP Z Z ?_)); cases hf; exact N 1 Z (Y Z h)
 refine V 1 Z (AW.row 7 95 (JY (fun p2 l1 v1=>[(0,.str p2),(4,.own v1 (List.map aF.cells l1))]) (fun p2 l1 v1=>[.row v1 (List.map aF.cells l1).length 7 95]) (fun bJ p2 l1 v1=>fJ bJ p2 l1=some (r0,r1)) BIG p1 [] (.slice none 0 0) Z Z hf (fun _ _ _ hz=>aQ hz) ?_)); intro bJ p2 l1 v1 hf; rw [fJ] at hf; refine V 2 Z (C hf Z (fun h2 hf=>?_) fun h2 hf=>?_)
 ·
  obtain ⟨x1,n1,h3,hf⟩:=bL hf; refine W 1 Z (CL Z (ER _ h3 (U 3 Z (AS Z (AO.aL Z Dr (fun b5=>(Rw 4 [0] Z Z (C hf Z (fun h4 hf=>?_) fun h4 hf=>?_))))))))
  · refine W 0 Z (AS Z (AO.dP Z Z ?_)); cases hf; exact N 1 Z (Y Z h)
  refine Wr 2 [0] rfl rfl (AS rfl (AO.bD (List.map aF.cells [x1]) rfl M6 rfl rfl rfl (by first | rfl | simp only [List.map,aF.aO]) ?_)); refine B1 hf fun l2 h5 hf=>AS Z (AO.fu (i:=1) (l:=l1) (m:=[x1]) h5 Z Z Z Z Z Z Z M6 zP Z Z Z (aF.cB) (aF.cells_one) (by decide) (fun v2 s1 hs1=>?_)); cases hs1; refine B1 hf fun p3 h6 hf=>U 3 Z (AS Z (AO.sG h6 Z cK Z ⟨_,Z⟩ Z (fE 1 Z (AR.drop1 ?_)))); exact N 0 Z ⟨p3,l2,v2,Z,Z,Z,hf⟩
 cases hf; exact M 3 Z (Y Z h)
theorem Cw (s1:List (BitVec 64)) (c1:UInt8) {r0:Bool} (hf:gI s1 c1=some r0) (h:Q (.ret (.bool r0)) τ):PC 52 [.agg [.int .u64 ((s1.getD 0 0).toNat:Int),.int .u64 ((s1.getD 1 0).toNat:Int),.int .u64 ((s1.getD 2 0).toNat:Int),.int .u64 ((s1.getD 3 0).toNat:Int)],.int .u8 (c1.toNat:Int)] τ Q:=by
 unfold gI at hf; refine BN 14 [.tmp 4] [0,1] Tryz.func52 Z Z Z Z Z (W 3 Z (AS Z (AO.u8_quo c1 64 Z Z Z Z Z (by decide) ?_))); refine B1 hf fun e1 h1 hf=>AS Z (AO.BK (fun z:BitVec 64=>.int .u64 (z.toNat:Int)) h1 Z zX Z Z Z Z (U 2 Z (AS Z (AO.Ec c1 64 Z Z Z Z Z (by decide) ?_)))); refine AS Z (AO.xD e1 ((c1 % 64).toNat) Z Z Z Z Z ?_); refine B1 hf fun x1 h2 hf=>AS Z (AO.Fj (e1 >>> (c1 % 64).toNat) (1:BitVec 64) h2 Z Z Z Z Z ?_); cases hf; exact N 2 Z (Y Z h)
theorem zT (l1:List aF) (a0:List Bool) {r1:List Bool} (hf:kL l1 a0=some r1) {b5 b7:Nat} {v1:Value} {Q:dh→List aG→Prop} (h:Q (.ret (.tuple [])) [.box b5 [.list (List.map aF.cells l1)],.box b7 [.val v1],.buf v1 r1.length 1 4 (List.map PV.bool r1)]):PC 51 [pP b5,pP b7] [.box b5 [.list (List.map aF.cells l1)],.box b7 [.val v1],.buf v1 a0.length 1 4 (List.map PV.bool a0)] Q:=by
 unfold kL at hf; refine BD 31 [] [0,1] Tryz.func51 Z Z Z Z Z (Wr 1 [0] Z Z (AS Z (AO.aN (l:=l1) Z Z Z Z zP Z Z (J 1 Z (D5 (fun i1 a1=>[(1,pP b7),(4,.list (List.map aF.cells l1)),(5,iP (l1.length:Int)),(6,iP i1)]) (fun i1 a1=>[.box b5 [.list (List.map aF.cells l1)],.box b7 [.val v1],.buf v1 a1.length 1 4 (List.map PV.bool a1)]) (fun bJ i1 a1=>iQ l1 bJ i1 a1=some r1) BIG 0 a0 Z Z hf (fun _ _ hz=>aQ hz) ?_))))); intro bJ i1 a1 hf; rw [iQ] at hf; refine V 1 Z (C hf Z (fun h1 hf=>?_) fun h1 hf=>?_)
 ·
  refine B1 hf fun x1 h2 hf=>W 1 Z (AS Z (AO.bK h2 Z Z Z Z zP (aF.aO _) Z (U 1 Z (AS Z (AO.aL Z Dr (fun b3=>(Rw 2 [0] Z Z (AW.draw 19 mixed (by kernel_rfl) Z ?_)))))))); refine Ev.cons Z Z Z (AO.bq (i:=2) Z Z Z zI Z Z zg) (Ev.cs bR 2 Z (Ev.cons Z Z Z (AO.bq (i:=2) Z Z Z zI Z Z zg) (Ev.cs bR 2 Z ?_))); refine B1 hf fun c1 h3 hf=>Ev.cons Z Z Z (AO.b_ (i:=3) h3 Z Z Z Z pX zg) (Ev.cons Z Z Z (AO.nK (i:=3) h3 Z Z Z uJ zg) (Ev.cs bR 1 Z ?_)); refine B1 hf fun c3 h4 hf=>Ev.eD Qu 9 19 28 false [1,4,5,6,11,13] (.bool c3) Z Z (fun h5=>?_) (fun h5=>?_) ?_
  ·
   replace h4:=gZ h5 h4; refine Ev.is K7 19 h5 Z (Ev.run Z Z Z Z Z Z Z (AO.bq (i:=2) Z Z Z zI Z Z zg) (Ev.cs bR 1 Z ?_)); refine B1 h4 fun c2 h6 h4=>Ev.run Z Z Z Z Z Z Z (AO.b_ (i:=3) h6 Z Z Z Z pX zg) (Ev.run Z Z Z Z Z Z Z (AO.nK (i:=3) h6 Z Z Z uJ zg) (Ev.cs bR 1 Z (Ev.and1 K7 3 24 27 [1,4,5,6,11,13,19] (x1.many) Z Z (fun h7=>?_) (fun h7=>?_) ?_)))
   · refine Ev.is K7 24 h7 Z (Ev.cs bR 1 Z (Ev.run Z Z Z Z Z Z Z (AO.bq (i:=0) Z Z Z uJ Z Z zg) (Ev.cs bR 1 Z ?_))); exact Ev.nil (Less.settle (ps:=[27,1,4,5,6,11,13,19]) Z)
   · refine Ev.is K7 24 h7 Z (Ev.cs bR 3 Z ?_); exact Ev.nil (Less.settle (ps:=[27,1,4,5,6,11,13,19]) Z)
   cases h4; refine Ev.cs bR 1 Z ?_; exact Ev.nil (Less.settle (ps:=[28,1,4,5,6,11,13]) Z)
  · replace h4:=iF h5 h4; refine Ev.is K7 19 h5 Z ?_; cases h4; refine Ev.cs bR 9 Z ?_; exact Ev.nil (Less.settle (ps:=[28,1,4,5,6,11,13]) Z)
  refine Ev.cons Z Z Z (AO.b_ (i:=3) h3 Z Z Z Z pX zg) (Ev.nil ?_); show AR _ _ _ _ _ _ _ _; refine B1 hf fun a2 h8 hf=>AR.aS Z Z (AO.j3 (i:=3) h3 h8 Z Z Z uJ Z Z (AR.drop1 ?_)); exact N 2 Z ⟨(bE (i1 + 1)),a2,Z,Z,Z,hf⟩
 cases hf; exact M 0 rfl ⟨rfl,_,rfl,_,List.Sublist.refl _,h⟩
theorem oO {n1:Int} {l1:List Bool} (h:sS n1=some l1):(if 0≤n1∧n1≤281474976710656 then some (List.replicate n1.toNat false) else none)=some l1:=h
theorem yK (p1:Str) (s1:Str) {r0:Bool} (hf:je p1 s1=some r0) (h:Q (.ret (.bool r0)) τ):PC 35 [.str p1,.str s1] τ Q:=by
 unfold je at hf; refine AC.none (AC.gH 78 [.tmp 4] [0,1] Tryz.func35 Z Z Z Z Z (AW.sr (cs 1 Z ?_))); refine AR.nil [0,1] Z (AW.sr (cs 1 Z ?_)); obtain ⟨l1,e1,h1,hf⟩:=bL hf; refine AR.step Z Z Z (AO.call Z _ Z Z PO (EP _ h1 (cs 3 Z (AR.step Z Z Z (AO.aL Z Pd (fun b5=>(AR.aS Z Z (AO.bO (i:=0) Z Z Z Fq Z Z Z Z Z ?_)))))))); refine cs 1 Z (AR.nil [1,5,6] Z (AW.seq (AW.sr ?_))); refine cs 2 Z (AR.nil [1,5,19] Z (AW.cond Z (fun h2=>?_) (fun h2=>?_)))
 · replace hf:=iF h2 hf; refine AW.sr (cs 1 Z (AR.nil [4] Z (AW.ret ?_))); cases hf; exact ⟨rfl,_,⟨_,_,rfl,rfl,rfl⟩,[],List.nil_sublist _,h⟩
 replace hf:=gZ h2 hf; refine AW.skip (AW.sr (AR.step Z Z Z (AO.bq (i:=0) Z Z Z Fq Z Z (AR.step Z Z Z (AO.aN (l:=l1) Z Z Z Z zP Z Z ?_))))); refine cs 1 Z ?_; refine B1 hf fun a0 h3 hf=>AR.step Z Z Z (AO.lH (oO h3) Z Z Z Ih LW (fun v1=>(AR.step Z Z Z (AO.aL Z Pb (fun b7=>(AR.EW 1 Z (fun hv1 hv2=>(AR.aS Z Z (AO.bO (i:=0) Z Z Z zI hv1 hv2 Z Z Z ?_))))))))); refine AR.nil [1,5,7] Z (AW.sr (AR.step Z Z Z (AO.bq (i:=0) Z Z Z zI Z Z ?_))); refine B1 hf fun c0 h4 hf=>AR.step Z Z Z (AO.b_ (i:=1) h4 Z Z Z Z pX ?_); refine B1 hf fun a1 h5 hf=>AR.aS Z Z (AO.j3 (i:=1) h4 h5 Z Z Z uJ Z Z (AR.nil [1,5,7] Z (AW.sr (cs 2 Z ?_)))); refine AR.nil [1,5,7,8] Z (AW.sr (cs 1 Z ?_)); refine B1 hf fun a2 h6 hf=>AR.step Z Z Z (AO.call Z _ Z Z Nc (AC.perm (σ:=[.box b5 [.list (List.map aF.cells l1)],.box b7 [.val v1],.buf v1 a1.length 1 4 (List.map PV.bool a1)]) Og (zT l1 a1 h6 (AR.nil [1,5,7,8] Z (AW.seq (AW.sr ?_)))))); refine cs 1 Z (AR.step Z Z Z (AO.bV Z Z Z Z cK Z (cs 1 Z (AR.nil [1,5,7,8,30,31] Z ?_)))); refine AW.block (AW.settle [1,5,7,8,30,31] Z (AW.KR (fun i1 a1 v1=>[(1,.str s1),(5,pP b5),(7,pP b7),(8,.fn 51 [pP b5,pP b7]),(30,iP (s1.length:Int)),(31,iP i1)]) (fun i1 a1 v1=>[.box b5 [.list (List.map aF.cells l1)],.box b7 [.val v1],.buf v1 a1.length 1 4 (List.map PV.bool a1)]) (fun bJ i1 a1 v1=>eZ l1 s1 bJ i1 a1=some r0) BIG 0 a2 v1 Z Z hf (fun _ _ _ hz=>aQ hz) ?_)); intro bJ i1 a1 v1 hf; rw [eZ] at hf; refine AW.sr (cs 1 Z (AR.nil [1,5,7,8,30,31,32] Z (AW.seq ?_))); refine AW.cond Z (fun h7=>?_) (fun h7=>?_)
 ·
  replace hf:=iF h7 hf; refine AW.skip (AW.seq (AW.block (AW.sr ?_))); refine cs 2 Z (AR.nil [1,5,7,8,9,30,31] Z (AW.sr (AR.step Z Z Z (AO.bq (i:=0) Z Z Z Fq Z Z ?_)))); refine AR.step Z Z Z (AO.aN (l:=l1) Z Z Z Z zP Z Z (cs 1 Z ?_)); refine B1 hf fun QK h8 hf=>AR.step Z Z Z (AO.lH (oO h8) Z Z Z Ih LW (fun v2=>(cs 1 Z (AR.nil [1,5,7,8,9,10,30,31] Z (AW.seq ?_))))); refine AW.sr (AR.step Z Z Z (AO.bq (i:=1) Z Z Z Fq Z Z (AR.step Z Z Z (AO.aN (l:=l1) Z Z Z Z zP Z Z (cs 1 Z ?_))))); refine AR.nil [1,5,7,8,9,10,30,31,38,39,40] Z (AW.block (AW.settle [1,5,7,8,9,10,30,31,38,39,40] Z ?_)); refine AW.KS (fun k1 tX=>[(1,.str s1),(5,pP b5),(7,pP b7),(8,.fn 51 [pP b5,pP b7]),(9,iP i1),(10,.val v2),(30,iP (s1.length:Int)),(31,iP i1),(38,.list (List.map aF.cells l1)),(39,iP (l1.length:Int)),(40,iP k1)]) (fun k1 tX=>[.buf v2 tX.length 1 4 (List.map PV.bool tX),.box b5 [.list (List.map aF.cells l1)],.box b7 [.val v1],.buf v1 a1.length 1 4 (List.map PV.bool a1)]) (fun uq k1 tX=>fK l1 s1 i1 a1 (eZ l1 s1 bJ) uq k1 tX=some r0) BIG 0 QK Z Z hf (fun _ _ hz=>aQ hz) ?_; intro uq k1 tX hf; rw [fK] at hf; refine AW.sr (cs 1 Z (AR.nil [1,5,7,8,9,10,30,31,38,39,40,41] Z (AW.seq ?_))); refine AW.cond Z (fun h9=>?_) (fun h9=>?_)
  ·
   replace hf:=iF h9 hf; refine AW.skip (AW.seq (AW.block (AW.sr ?_))); refine cs 1 Z ?_; refine B1 hf fun x1 h10 hf=>AR.step Z Z Z (AO.bK h10 Z Z Z Z zP (aF.aO _) Z (cs 1 Z (AR.step Z Z Z (AO.aL Z Dr (fun b12=>(cs 1 Z ?_)))))); refine AR.aS Z Z (AO.bO (i:=0) Z Z Z Pj Z Z Z Z Z (AR.nil [1,5,7,8,9,10,11,12,30,31,38,39,40] Z (AW.seq (AW.seq ?_)))); refine AW.draw 14 mixed (by kernel_rfl) Z ?_; refine Ev.cons Z Z Z (AO.bq (i:=3) Z Z Z zI Z Z zg) (Ev.cs bR 1 Z ?_); refine B1 hf fun c1 h11 hf=>Ev.cons Z Z Z (AO.b_ (i:=4) h11 Z Z Z Z pX zg) (Ev.cons Z Z Z (AO.nK (i:=4) h11 Z Z Z uJ zg) (Ev.cs bR 2 Z ?_)); refine B1 hf fun c3 h12 hf=>Ev.eD Qu 8 50 58 false [1,5,7,8,9,10,11,12,30,31,38,39,40] (.bool c3) Z Z (fun wh=>?_) (fun wh=>?_) ?_
   · replace h12:=gZ wh h12; refine Ev.is K7 50 wh Z (Ev.cs bR 1 Z (Ev.run Z Z Z Z Z Z Z (AO.bq (i:=0) Z Z Z Pk Z Z zg) (Ev.cs bR 2 Z ?_))); refine B1 h12 fun c4 sZ h12=>Ev.run Z Z Z Z Z Z Z (AO.dK sZ Z cK Z Z zg) ?_; refine B1 h12 fun c2 Ab h12=>Ev.run Z Z Z Z Z Z Z (AO.call Z _ Z Z PL (Cw _ _ Ab zg)) (Ev.cs bR 1 Z ?_); cases h12; refine Ev.cs bR 1 Z ?_; exact Ev.nil (Less.settle (ps:=[58,1,5,7,8,9,10,11,12,30,31,38,39,40]) Z)
   · replace h12:=iF wh h12; refine Ev.is K7 50 wh Z ?_; cases h12; refine Ev.cs bR 8 Z ?_; exact Ev.nil (Less.settle (ps:=[58,1,5,7,8,9,10,11,12,30,31,38,39,40]) Z)
   refine Ev.nil ?_; show AR _ _ _ _ _ _ _ _; refine AR.nil [1,5,7,8,9,10,11,12,30,31,38,39,40,58] Z (AW.cond Z (fun h16=>?_) (fun h16=>?_))
   · replace hf:=iF h16 hf; refine AW.exit (AW.qb 0 Z (AW.region (cs 2 Z ?_))); refine AR.nil [1,5,7,8,9,10,30,31,38,39,40] Z ?_; exact ⟨(bE (k1 + 1)),tX,Z,Z,Z,hf⟩
   replace hf:=gZ h16 hf; refine AW.skip (AW.sr (cs 1 Z (AR.step Z Z Z (AO.bq (i:=0) Z Z Z uJ Z Z ?_)))); refine AR.nil [1,5,7,8,9,10,11,30,31,38,39,40,60] Z (AW.cond Z (fun CQ=>?_) (fun CQ=>?_))
   · replace hf:=iF CQ hf; refine AW.region (cs 2 Z ?_); refine B1 hf fun c5 h18 hf=>AR.step Z Z Z (AO.b_ (i:=1) h18 Z Z Z Z pX ?_); refine B1 hf fun GL h19 hf=>AR.aS Z Z (AO.j3 (i:=1) h18 h19 Z Z Z uJ Z Z (AR.drop1 (AR.nil [1,5,7,8,9,10,30,31,38,39,40] Z (AW.region ?_)))); refine cs 2 Z (AR.nil [1,5,7,8,9,10,30,31,38,39,40] Z ?_); exact ⟨(bE (k1 + 1)),GL,Z,Z,Z,hf⟩
   replace hf:=gZ CQ hf; refine AW.region (cs 3 Z ?_); refine B1 hf fun c5 h18 hf=>AR.step Z Z Z (AO.b_ (i:=1) h18 Z Z Z Z pX ?_); refine B1 hf fun GL h19 hf=>AR.aS Z Z (AO.j3 (i:=1) h18 h19 Z Z Z uJ Z Z (AR.drop1 (AR.nil [1,5,7,8,9,10,30,31,38,39,40] Z (AW.region ?_)))); refine cs 2 Z (AR.nil [1,5,7,8,9,10,30,31,38,39,40] Z ?_); exact ⟨(bE (k1 + 1)),GL,Z,Z,Z,hf⟩
  replace hf:=gZ h9 hf; refine AW.exit (AW.qb 3 Z (AW.sr (cs 1 Z ?_))); refine AR.EW 0 Z (fun hv3 hv4=>(AR.aS Z Z (AO.bO (i:=2) Z Z Z zI hv3 hv4 Z Z Z (AR.nil [1,5,7,8,30,31] Z (AW.region ?_))))); refine cs 1 Z ?_; refine B1 hf fun a3 h20 hf=>AR.step Z Z Z (AO.call Z _ Z Z Nc (AC.perm (σ:=[.box b5 [.list (List.map aF.cells l1)],.box b7 [.val v2],.buf v2 tX.length 1 4 (List.map PV.bool tX)]) Oe (zT l1 tX h20 (AR.nil [1,5,7,8,30,31] Z (AW.region (cs 2 Z ?_)))))); refine AR.nil [1,5,7,8,30,31] Z ?_; exact ⟨(bE (i1 + 1)),a3,v2,Z,Z,Z,hf⟩
 replace hf:=gZ h7 hf; refine AW.exit (AW.sr (AR.step Z Z Z (AO.bq (i:=1) Z Z Z zI Z Z (AR.step Z Z Z (AO.bq (i:=0) Z Z Z Fq Z Z ?_))))); refine AR.step Z Z Z (AO.aN (l:=l1) Z Z Z Z zP Z Z (AR.step Z Z Z (AO.b_ (i:=2) hf Z Z Z Z pX (AR.step Z Z Z (AO.nK (i:=2) hf Z Z Z uJ (cs 1 Z ?_)))))); refine AR.nil [4] Z (AW.ret ?_); exact ⟨rfl,_,⟨_,_,rfl,rfl,rfl⟩,[],List.nil_sublist _,h⟩
theorem H6 (aW:List Str) (s1:Str) {r0:Bool} (hf:mW aW s1=some r0) (h:Q (.ret (.bool r0)) τ):PC 16 [sP aW,.str s1] τ Q:=by
 unfold mW at hf; refine BN 34 [.tmp 4] [0,1] Tryz.func16 Z Z Z Z Z (W 2 Z (AS Z (AO.aN (l:=aW) Z Z Z Z iV Z Z (J 2 Z (JM (fun i1=>[(0,sP aW),(1,.str s1),(5,iP i1)]) (fun i1=>[]) (fun bJ i1=>iT aW s1 bJ i1=some r0) BIG (bE ((aW.length:Int) - 1)) Z Z hf (fun _ hz=>aQ hz) ?_))))); intro bJ i1 hf; rw [iT] at hf; refine V 2 Z (C hf Z (fun h1 hf=>?_) fun h1 hf=>?_)
 ·
  refine B1 hf fun p1 h2 hf=>W 2 Z (AS Z (AO.bK h2 Z Z Z Z iV Z Z ?_)); refine B1 hf fun b1 h4 hf=>U 5 Z (AR.eD 4 21 25 true [0,1,5,6] b1 Z Z (fun h3=>?_) (fun h3=>?_) ?_)
  · refine IT 21 h3 h4 Z fun h4=>?_; refine B1 h4 fun x1 h5 h4=>U 1 Z (GO Z (AO.dK h5 Z cK Z Z ?_)); cases h4; exact fE 2 Z (En [25,0,1,5,6] Z)
  · refine IF 21 h3 h4 Z fun h4=>?_; cases h4; exact fE 4 Z (En [25,0,1,5,6] Z)
  refine J 2 Z (C hf Z (fun h6 hf=>?_) fun h6 hf=>?_)
  ·
   refine B1 hf fun p2 h7 hf=>W 1 Z (AS Z (AO.sG h7 Z cK Z ⟨_,Z⟩ Z ?_)); refine B1 hf fun x2 h8 hf=>U 3 Z (CL Z (yK _ _ h8 (J 0 Z (C hf Z (fun h9 hf=>?_) fun h9 hf=>?_))))
   · cases hf; exact M 3 Z (Y Z h)
   exact M 3 Z ⟨(bE (i1 - 1)),Z,Z,Z,hf⟩
  refine B1 hf fun x3 h10 hf=>W 2 Z (CL Z (yK _ _ h10 (J 0 Z (C hf Z (fun h11 hf=>?_) fun h11 hf=>?_))))
  · cases hf; exact M 3 Z (Y Z h)
  exact M 3 Z ⟨(bE (i1 - 1)),Z,Z,Z,hf⟩
 cases hf; exact M 1 Z (Y Z h)
theorem uw {β:Type} (l:Nat) (T:β→List aG→Prop) (y:β→aB→Option (Bool × β)) (hy:∀ s x1 b s2 τ,y s x1=some (b,s2)→T s τ→AY Tryz.prog l [.agg (zO x1)] τ (fun out σ'=>out=.ret (.bool b)∧T s2 σ'))
  (fs1:List aB) (ps1:List Str) {s1 s2:β} (hf:jU y s1 fs1 ps1=some s2) {τ:List aG} (hT:T s1 τ) {Q:dh→List aG→Prop} (h:∀ τ',T s2 τ'→Q (.ret (.tuple [])) τ'):
  PC 45 [.val (.func (.yield l) #[] #[]),.ref [.list (List.map aB.cells fs1)],.ref [sP ps1]] τ Q:=by
 unfold jU at hf; refine AC.gH 23 [] [0,1,2] Tryz.func45 Z Z Z Z Z (AW.sr (AR.step Z Z Z (AO.uV Z Z Po Z (AR.step Z Z Z (AO.aN (l:=fs1) Z Z Z Z yB Z Z ?_))))); refine cs 1 Z (AR.nil [0,2,6,7,8] Z (AW.block (AW.KR (fun (s:β) (τ0:List aG) (i1:Int)=>[(0,.val (.func (.yield l) #[] #[])),(2,.ref [sP ps1]),(6,.list (List.map aB.cells fs1)),(7,iP (fs1.length:Int)),(8,iP i1)]) (fun s τ0 i1=>τ0) (fun bJ s τ0 i1=>dS y fs1 ps1 bJ s i1=some s2∧T s τ0) BIG s1 τ 0 Z Z ⟨hf,hT⟩ (fun _ _ _ hz=>aQ hz.1) ?_))); intro bJ s3 τ3 i1 Q6; obtain ⟨hf,hT⟩:=Q6; rw [dS] at hf; refine AW.sr (cs 1 Z (AR.nil [0,2,6,7,8,9] Z (AW.seq ?_))); refine AW.cond Z (fun h1=>?_) (fun h1=>?_)
 ·
  replace hf:=iF h1 hf; refine AW.skip (AW.seq (AW.block (AW.sr ?_))); refine B1 hf fun p1 h2 hf=>?_; refine AR.step Z Z Z (AO.bK h2 Z Z Z Z yB (aB.aO _) Z (cs 1 Z (AR.step Z Z Z (AO.aL Z M0 (fun b5=>(AR.aS Z Z (AO.bO (i:=0) Z Z Z Km Z Z Z Z Z ?_))))))); refine AR.nil [0,2,5,6,7,8] Z ?_; refine B1 hf fun b1 h3 hf=>?_; refine AW.seq (AW.IJ (sj.step Z Z Z Z (AO.uV Z Z Pp Z (sj.step Z Z Z Z (AO.aT Z Z MF ?_))))); refine sj.step Z Z Z Z (AO.bq (i:=0) Z Z Z Ja Z Z (sj.step Z Z Z Z (AO.call Z _ Z Z PZ (H6 _ _ h3 (sj.step Z Z Z Z (AO.calc' Z ?_)))))); cases b1 with
  | false=>
   replace hf:=gZ Z hf; refine sj.of Z (cs 5 Z (AR.drop1 (AR.nil [0,2,6,7,8,21] Z ?_))); refine AW.cond Z (fun hh=>by cases hh) (fun _=>?_); refine AW.skip (AW.region (cs 2 Z (AR.nil [0,2,6,7,8] Z ?_))); exact ⟨s3,τ3,(bE (i1 + 1)),Z,Z,Z,hf,hT⟩
  | true=>
   replace hf:=iF Z hf; obtain ⟨b2,s4,h4,hf⟩:=bL hf; refine sj.run Z Z Z Z (sj.step Z Z Z Z (AO.calc' Z (sj.run Z Z Z Z (sj.step Z Z Z Z (AO.bq (i:=0) Z Z Z Km Z Z ?_))))); refine sj.drop1 (sj.run Z Z Z Z (sj.Nz Z Z Z Z Z _ Z Z (hy _ _ _ _ _ h4 hT) fun τ4 Ru=>(sj.of Z ?_))); refine cs 2 Z (AR.nil [0,2,6,7,8,21] Z (AW.cond Z (fun h5=>?_) (fun h5=>?_)))
   ·
    cases iF h5 hf; refine AW.ret ?_; exact ⟨rfl,_,rfl,_,List.Sublist.refl _,h _ Ru⟩
   ·
    replace hf:=gZ h5 hf; refine AW.skip (AW.region (cs 2 Z (AR.nil [0,2,6,7,8] Z ?_))); exact ⟨s4,τ4,(bE (i1 + 1)),Z,Z,Z,hf,Ru⟩
 ·
  cases gZ h1 hf; refine AW.exit ?_; exact ⟨rfl,_,rfl,_,List.Sublist.refl _,h _ hT⟩
theorem wu (fs1:List aB) (ps1:List Str) (h:Q (.ret (.fn 45 [.ref [.list (List.map aB.cells fs1)],.ref [sP ps1]])) τ):PC 30 [.list (List.map aB.cells fs1),sP ps1] τ Q:=by
 refine BN 6 [.tmp 4] [0,1] Tryz.func30 Z Z Z Z Z ?_; exact M 5 Z (Y Z h)
theorem vB (gy:BitVec 32) (uy:BitVec 32) (i1:BitVec 32) {r0:BitVec 32} (hf:kM gy uy i1=some r0) (h:Q (.ret (.int .u32 (r0.toNat:Int))) τ):PC 70 [.int .u32 (gy.toNat:Int),.int .u32 (uy.toNat:Int),.int .u32 (i1.toNat:Int)] τ Q:=by
 unfold kM at hf; refine BN 18 [.tmp 6] [0,1,2] Tryz.func70 Z Z Z Z Z (W 3 Z (AS Z (AO.u32_xor gy uy Z Z Z Z Z ?_))); refine B1 hf fun x1 h1 hf=>AS Z (AO.Kg (gy ^^^ uy) (2654435761:BitVec 32) h1 Z Z Z Z Z (U 1 Z (AS Z (AO.L9 x1 i1 Z Z Z Z Z (U 3 Z (AS Z (AO.L6 (x1 + i1) 16 Z Z Z Z Z (AS Z (AO.u32_xor (x1 + i1) ((x1 + i1) >>> 16) Z Z Z Z Z ?_))))))))); cases hf; exact N 1 Z (Y Z h)
theorem yM (key1:BitVec 64) (x1:BitVec 64) {r0:BitVec 64} (hf:jK key1 x1=some r0) (h:Q (.ret (.int .u64 (r0.toNat:Int))) τ):PC 46 [.int .u64 (key1.toNat:Int),.int .u64 (x1.toNat:Int)] τ Q:=by
 unfold jK at hf; refine BN 41 [.tmp 4] [0,1] Tryz.func46 Z Z Z Z Z (W 2 Z (AS Z (AO.xD x1 32 Z Z Z Z Z (AS Z (AO.Ah (x1 >>> 32) Z uH uI Z Z (U 1 Z (AS Z (AO.Ah x1 Z uH uI Z Z ?_)))))))); refine J 3 Z (JY (fun l1 gy i1=>[(0,.int .u64 (key1.toNat:Int)),(5,.int .u32 (l1.toNat:Int)),(6,.int .u32 (gy.toNat:Int)),(14,iP i1)]) (fun l1 gy i1=>[]) (fun bJ l1 gy i1=>gL key1 bJ l1 gy i1=some r0) BIG (BitVec.setWidth 32 (x1 >>> 32)) (BitVec.setWidth 32 x1) 0 Z Z hf (fun _ _ _ hz=>aQ hz) ?_); intro bJ l1 gy i1 hf; rw [gL] at hf; refine V 1 Z (C hf Z (fun h1 hf=>?_) fun h1 hf=>?_)
 ·
  refine W 3 Z (AS Z (AO.Ah key1 Z uH uI Z Z (U 2 Z (AS Z (AO.rem Z Z Z (by decide) ?_))))); refine J 1 Z (C hf Z (fun h2 hf=>?_) fun h2 hf=>?_)
  · refine W 1 Z (AS Z (AO.xD key1 32 Z Z Z Z Z (AS Z (AO.Ah (key1 >>> 32) Z uH uI Z Z (U 7 Z (AS Z (AO.Kj Z CV uI Z ?_))))))); refine B1 hf fun x2 h3 hf=>CL Z (vB _ _ _ h3 (AS Z (AO.u32_xor l1 x2 Z Z Z Z Z ?_))); exact N 4 Z ⟨gy,(l1 ^^^ x2),(bE (i1 + 1)),Z,Z,Z,hf⟩
  refine W 6 Z (AS Z (AO.Kj Z CV uI Z ?_)); refine B1 hf fun x3 h4 hf=>CL Z (vB _ _ _ h4 (AS Z (AO.u32_xor l1 x3 Z Z Z Z Z ?_))); exact N 4 Z ⟨gy,(l1 ^^^ x3),(bE (i1 + 1)),Z,Z,Z,hf⟩
 refine W 1 Z (AS Z (AO.Ag l1 Z uI uH Z Z (AS Z (AO.xE (BitVec.setWidth 64 l1) 32 Z Z Z Z Z (U 1 Z (AS Z (AO.Ag gy Z uI uH Z Z ?_))))))); refine BR hf fun x4 h5 hf=>?_; refine AS Z (AO.Af ((BitVec.setWidth 64 l1) <<< 32) (BitVec.setWidth 64 gy) h5 Z Z Z Z Z ?_); cases hf; exact N 1 Z (Y Z h)
theorem yL (b1:List UInt8) {r0:BitVec 64} (hf:jf b1=some r0) (h:Q (.ret (.int .u64 (r0.toNat:Int))) τ):PC 31 [.list (List.map bN b1)] τ Q:=by
 unfold jf at hf; refine BN 44 [.tmp 2] [0] Tryz.func31 Z Z Z Z Z (W 2 Z (AS Z (AO.aN (l:=b1) Z Z Z Z kR Z Z (AS Z (AO.Ki Z CV uH Z ?_))))); refine B1 hf fun x1 h1 hf=>CL Z (yM _ _ h1 (J 1 Z (D5 (fun b2 x2=>[(0,.list (List.map bN b2)),(3,.int .u64 (x2.toNat:Int))]) (fun b2 x2=>[]) (fun bJ b2 x2=>dW bJ b2 x2=some r0) BIG b1 x1 Z Z hf (fun _ _ hz=>aQ hz) ?_))); intro bJ b2 x2 hf; rw [dW] at hf; refine W 1 Z (AS Z (AO.aN (l:=b2) Z Z Z Z kR Z Z (J 1 Z (C hf Z (fun h2 hf=>?_) fun h2 hf=>?_))))
 ·
  refine W 1 Z (AS Z (AO.aN (l:=b2) Z Z Z Z kR Z Z (AS Z (AO.min2 Z Z Z Z Z ?_)))); refine B1 hf fun x3 h3 hf=>U 4 Z (AS Z (AO.Iw h3 Z kR Z Z Z (fun _=>Z) Z ⟨_,Z⟩ (AS Z (AO.aN (l:=x3) Z Z Z Z kR Z Z (J 1 Z (D5 (fun g1 i1=>[(0,.list (List.map bN b2)),(3,.int .u64 (x2.toNat:Int)),(4,iP (if (b2.length:Int) < 8 then (b2.length:Int) else 8)),(5,.int .u64 (g1.toNat:Int)),(20,.list (List.map bN x3)),(21,iP (x3.length:Int)),(22,iP i1)]) (fun g1 i1=>[]) (fun uq g1 i1=>h_ b2 x2 x3 (dW bJ) uq g1 i1=some r0) BIG 0 0 Z Z hf (fun _ _ hz=>aQ hz) ?_)))))); intro uq g1 i1 hf; rw [h_] at hf; refine V 1 Z (C hf Z (fun h4 hf=>?_) fun h4 hf=>?_)
  ·
   refine B1 hf fun c1 h5 hf=>W 1 Z (AS Z (AO.bK h5 Z Z Z Z kR Z Z (U 5 Z (AS Z (AO.Ag c1.toBitVec Z xC uH Z Z ?_))))); refine B1 hf fun _ h6 hf=>U 2 Z (AS Z (AO.xE (BitVec.setWidth 64 c1.toBitVec) (Int.toNat (bE (8 * i1))) Z Z Z Z (by have:=Ce h6; simp only [decide_eq_true_eq] at this; exact (Int.toNat_of_nonneg this).symm) ?_)); refine B1 hf fun g2 h7 hf=>AS Z (AO.Af g1 ((BitVec.setWidth 64 c1.toBitVec) <<< (Int.toNat (bE (8 * i1)))) h7 Z Z Z Z Z ?_); exact N 3 Z ⟨g2,(bE (i1 + 1)),Z,Z,Z,hf⟩
  refine B1 hf fun x4 h8 hf=>W 2 Z (CL Z (yM _ _ h8 (U 1 Z (AS Z (AO.u64_xor x4 g1 Z Z Z Z Z ?_))))); refine B1 hf fun b3 h9 hf=>U 3 Z (AS Z (AO.Iw h9 Z kR Z Z Z (fun _=>Z) ⟨_,Z⟩ Z ?_)); exact N 1 Z ⟨b3,(x4 ^^^ g1),Z,Z,Z,hf⟩
 cases hf; exact M 2 Z (Y Z h)
theorem zW (lU:Str) (bU:List (BitVec 64)) {r0:BitVec 64} (hf:kN lU bU=some r0) (h:Q (.ret (.int .u64 (r0.toNat:Int))) τ):PC 29 [.str lU,.list (List.map yS bU)] τ Q:=by
 unfold kN at hf; refine BN 34 [.tmp 4] [0,1] Tryz.func29 Z Z Z Z Z ?_; refine B1 hf fun x1 h1 hf=>W 2 Z (AS Z (AO.AU h1 Z cK Ii xC Z (fun v1=>(AS Z (AO.bD (List.map bN ([0]:List UInt8)) Z pE Z Z Z Z ?_))))); refine B1 hf fun b1 h2 hf=>AS Z (AO.fu (i:=0) (l:=x1) (m:=([0]:List UInt8)) h2 Z Z Z Z Z Z Z pE kR Z Z Z (fun _=>Z) (fun _=>Z) (by decide) (fun v2 s1 hs1=>?_)); cases hs1; refine U 2 Z (AS Z (AO.aN (l:=bU) Z Z Z Z DT Z Z (J 1 Z (JY (fun b2 v3 x2=>[(5,.own v3 (List.map bN b2)),(13,.list (List.map yS bU)),(14,iP (bU.length:Int)),(15,iP x2)]) (fun b2 v3 x2=>[.row v3 (List.map bN b2).length 1 5]) (fun bJ b2 v3 x2=>fT bU bJ b2 x2=some r0) BIG b1 v2 0 Z Z hf (fun _ _ _ hz=>aQ hz) ?_)))); intro bJ b2 v3 x2 hf; rw [fT] at hf; refine V 1 Z (C hf Z (fun h3 hf=>?_) fun h3 hf=>?_)
 ·
  refine B1 hf fun d1 h4 hf=>W 0 Z (AS Z (AO.bK h4 Z Z Z Z DT Z Z (J 3 Z (JY (fun b3 v4 i1=>[(5,.own v4 (List.map bN b3)),(7,.int .u64 (d1.toNat:Int)),(13,.list (List.map yS bU)),(14,iP (bU.length:Int)),(15,iP x2),(19,iP i1)]) (fun b3 v4 i1=>[.row v4 (List.map bN b3).length 1 5]) (fun uq b3 v4 i1=>iX x2 d1 (fT bU bJ) uq b3 i1=some r0) BIG b2 v3 0 Z Z hf (fun _ _ _ hz=>aQ hz) ?_)))); intro uq b3 v4 i1 hf; rw [iX] at hf; refine V 1 Z (C hf Z (fun h5 hf=>?_) fun h5 hf=>?_)
  ·
   refine B1 hf fun _ h6 hf=>W 6 Z (AS Z (AO.xD d1 (Int.toNat (bE (8 * i1))) Z Z Z Z (by have:=Ce h6; simp only [decide_eq_true_eq] at this; exact (Int.toNat_of_nonneg this).symm) ?_)); refine AS Z (AO.Kh (d1 >>> (Int.toNat (bE (8 * i1)))) Z Ph xC Z Z (AS Z (AO.bD (List.map bN ([(UInt8.ofBitVec (BitVec.setWidth 8 (d1 >>> (Int.toNat (bE (8 * i1))))))]:List UInt8)) Z pE Z Z Z Z ?_))); refine B1 hf fun b4 h7 hf=>AS Z (AO.fu (i:=0) (l:=b3) (m:=([(UInt8.ofBitVec (BitVec.setWidth 8 (d1 >>> (Int.toNat (bE (8 * i1))))))]:List UInt8)) h7 Z Z Z Z Z Z Z pE kR Z Z Z (fun _=>Z) (fun _=>Z) (by decide) (fun v5 s2 hs2=>?_)); cases hs2; exact N 3 Z ⟨b4,v5,(bE (i1 + 1)),Z,Z,Z,hf⟩
  exact M 2 Z ⟨b3,v4,(bE (x2 + 1)),Z,Z,Z,hf⟩
 refine BR hf fun x3 h8 hf=>?_; refine W 1 Z (CL Z (yL _ h8 ?_)); cases hf; exact N 1 Z (Y Z h)
theorem ug (dx:List aB) (aW:List Str) {r0:BitVec 64} (hf:jg dx aW=some r0) (h:Q (.ret (.int .u64 (r0.toNat:Int))) τ):PC 14 [.list (List.map aB.cells dx),sP aW] τ Q:=by
 unfold jg at hf; refine B1 hf fun bU h1 hf=>AC.none (AC.Hf 22 [.tmp 4] [0,1] Tryz.func14 Z Z Z Z Z (AW.sr (cs 1 Z ?_))); refine AR.nil [0,1] Z (AW.sr (AR.step Z Z Z (AO.aL Z Pf (fun b5=>(AR.nil [0,1,5] Z ?_))))); refine AW.row 1 38 (AW.seq (AW.sr (cs 2 Z ?_))); refine AR.step Z Z Z (AO.call Z _ Z Z PW (wu _ _ (AR.nil [5,9] Z (AW.block (AW.G8 (β:=List (BitVec 64)) (X:=aB) Z PN (fun x1=>[.agg (zO x1)]) (fun _=>Z) (by decide) gQ (fun l τ=>∃ v,τ=[.row v (List.map yS l).length 1 38,.box b5 [.own v (List.map yS l)]]) (fun _=>none) (s0:=[]) (s1:=bU) ⟨.slice none 0 0,Z⟩ Z ?_ ?_ ?_)))))
 · intro l T' hy τ hT; refine uw l T' gQ hy dx aW h1 hT fun τ' hT'=>?_; exact ⟨⟨_,Z⟩,hT'⟩
 ·
  rintro l s x1 b s2 _ hh ⟨v0,rfl⟩; unfold gQ at hh; obtain ⟨b1,h2,hh⟩:=vW hh; obtain ⟨d1,h3,hh⟩:=vW hh; obtain ⟨s3,h4,hh⟩:=vW hh; cases hh; refine ⟨Z,(oh.region Z (AR.step Z Z Z (AO.aL Z M0 (fun b6=>(AR.aS Z Z (AO.bO (i:=0) Z Z Z Km Z Z Z Z Z ?_))))))⟩; refine AR.nil [5,6] Z (⟨Z,(oh.block (oh.drawn mixed Z ?_))⟩); refine AD.draw 8 (by kernel_rfl) Z ?_; refine Ev.cons Z Z Z (AO.bq (i:=2) Z Z Z Kl Z Z zg) (Ev.cs bR 1 Z (Ev.cons Z Z Z (AO.bq (i:=0) Z Z Z Ja Z Z zg) (Ev.cons Z Z Z (AO.AQ h2 Z cK Ii xC Z zg) ?_))); refine Ev.cons Z Z Z (AO.call Z _ Z Z PU (yL _ h3 zg)) (Ev.cs bR 1 Z (Ev.cons Z Z Z (AO.bq (i:=0) Z Z Z Pn Z Z zg) (Ev.cons Z Z Z (AO.bD (List.map yS ([d1,x1.digest]:List (BitVec 64))) Z IC Z Z Z Z zg) ?_))); refine Ev.nil ?_; show AR _ _ _ _ _ _ _ _; refine AR.step Z Z Z (AO.fu (i:=1) (l:=s) (m:=([d1,x1.digest]:List (BitVec 64))) h4 Z Z Z Z Z Z Z IC DT Z Z Z (fun _=>Z) (fun _=>Z) (by decide) (fun v2 s1 hs1=>?_)); cases hs1; refine AR.aS Z Z (AO.bO (i:=2) Z Z Z Kl Z Z Z Z Z (AR.nil [] Z ?_)); exact ⟨Z,⟨_,.cons _ (List.Sublist.refl _),v2,Z⟩,Z,Z⟩
 rintro D _ ⟨v0,rfl⟩; show AW _ _ _ _ _ _ _; refine AW.sr (AR.step Z Z Z (AO.bq (i:=1) Z Z Z Kl Z Z (AR.step Z Z Z (AO.call Z _ Z Z PX (zW _ _ hf (cs 1 Z ?_)))))); refine AR.nil [4] Z (AW.ret ?_); exact .inr ⟨D,[_,_],Z,Z,_,⟨_,_,Z,Z,Z⟩,[],List.nil_sublist _,h⟩
theorem lX (p1:Str) (dB:Int) {r0:UInt8} (hf:gT p1 dB=some r0) (h:Q (.ret (.int .u8 (r0.toNat:Int))) τ):PC 47 [.str p1,iP dB] τ Q:=by
 unfold gT at hf; refine BN 12 [.tmp 4] [0,1] Tryz.func47 Z Z Z Z Z (W 3 Z (AS Z (AO.bV Z Z Z Z cK Z (J 1 Z (C hf Z (fun h1 hf=>?_) fun h1 hf=>?_)))))
 · refine BR hf fun x1 h2 hf=>?_; refine W 2 Z (AS Z (AO.dK h2 Z cK Z Z ?_)); cases hf; exact N 1 Z (Y Z h)
 cases hf; exact M 1 Z (Y Z h)
theorem yG (p1:Str) (dB:Int) {r0:UInt8} {r1:Int} {r2:Bool} (hf:lM p1 dB=some (r0,r1,r2)) (h:Q (.ret (.tuple [.int .u8 (r0.toNat:Int),iP r1,.bool r2])) τ):PC 120 [.str p1,iP dB] τ Q:=by
 unfold lM at hf; refine BN 50 [.tmp 4,.tmp 5,.tmp 6] [0,1] Tryz.func120 Z Z Z Z Z (W 5 Z (AS Z (AO.bV Z Z Z Z cK Z ?_))); refine B1 hf fun b1 h2 hf=>U 2 Z (AR.eD 5 11 16 true [0,1] b1 Z Z (fun h1=>?_) (fun h1=>?_) ?_)
 · refine IT 11 h1 h2 Z fun h2=>?_; refine B1 h2 fun x1 h3 h2=>U 2 Z (GO Z (AO.dK h3 Z cK Z Z ?_)); cases h2; exact fE 2 Z (En [16,0,1] Z)
 · refine IF 11 h1 h2 Z fun h2=>?_; cases h2; exact fE 5 Z (En [16,0,1] Z)
 refine J 0 Z (C hf Z (fun h4 hf=>?_) fun h4 hf=>?_)
 · refine B1 hf fun x2 h5 hf=>W 5 Z (CL Z (lX _ _ h5 (U 4 Z (AS Z (AO.bV Z Z Z Z cK Z ?_))))); cases hf; exact N 4 Z (Y Z h)
 refine W 2 Z (AS Z (AO.bV Z Z Z Z cK Z ?_)); refine B1 hf fun b2 h7 hf=>U 2 Z (AR.eD 5 32 37 false [0,1] b2 Z Z (fun h6=>?_) (fun h6=>?_) ?_)
 · refine IF 32 h6 h7 Z fun h7=>?_; refine B1 h7 fun x3 h8 h7=>U 2 Z (GO Z (AO.dK h8 Z cK Z Z ?_)); cases h7; exact fE 2 Z (En [37,0,1] Z)
 · refine IT 32 h6 h7 Z fun h7=>?_; cases h7; exact fE 5 Z (En [37,0,1] Z)
 refine B1 hf fun b3 h10 hf=>U 1 Z (AR.eD 5 38 43 false [0,1] b3 Z Z (fun h9=>?_) (fun h9=>?_) ?_)
 · refine IF 38 h9 h10 Z fun h10=>?_; refine B1 h10 fun x4 h11 h10=>U 2 Z (GO Z (AO.dK h11 Z cK Z Z ?_)); cases h10; exact fE 2 Z (En [43,0,1] Z)
 · refine IT 38 h9 h10 Z fun h10=>?_; cases h10; exact fE 5 Z (En [43,0,1] Z)
 refine J 0 Z (C hf Z (fun h12 hf=>?_) fun h12 hf=>?_)
 · cases hf; exact M 4 Z (Y Z h)
 refine B1 hf fun x5 wh hf=>W 2 Z (AS Z (AO.dK wh Z cK Z Z ?_)); cases hf; exact N 5 Z (Y Z h)
theorem Gm (p1:Str) (dB:Int) {r0:aj} {r1:Int} {r2:Bool} (hf:vJ p1 dB=some (r0,r1,r2)) (h:Q (.ret (.tuple [.agg (jG r0),iP r1,.bool r2])) τ):PC 94 [.str p1,iP dB] τ Q:=by
 unfold vJ at hf; refine BN 72 [.cell 4 158,.tmp 5,.tmp 6] [0,1] Tryz.func94 Z Z Z Z Z (W 0 Z (AS Z (AO.aL Z D7 (fun b4=>(U 3 Z (AS Z (AO.aL Z D7 (fun b7=>?_)))))))); refine Rw 1 [0] Z Z (AW.row 2 155 (JY (fun at2 e1 v1=>[(0,.str p1),(1,iP at2),(4,pP b4),(7,pP b7)]) (fun at2 e1 v1=>[.row v1 (List.map MZ e1.items).length 2 155,.box b7 [iP e1.kind,.own v1 (List.map MZ e1.items)],.box b4 [iP 0,.own (.slice none 0 0) []]]) (fun bJ at2 e1 v1=>jB p1 bJ at2 e1=some (r0,r1,r2)) BIG dB (aj.mk 4 []) (.slice none 0 0) Z Z hf (fun _ _ _ hz=>aQ hz) ?_)); intro bJ at2 e1 v1 hf; rw [jB] at hf; refine B1 hf fun x1 h1 hf=>W 2 Z (CL Z (lX _ _ h1 (U 2 Z (AR.or 5 17 22 [0,1,4,7] (x:=(decide ((p1.length:Int)≤at2))) Z Z (fun h2=>?_) (fun h2=>?_) ?_))))
 · refine Is 17 h2 Z (U 2 Z (GO Z (AO.bV Z Z Z Z cK Z ?_))); exact fE 2 Z (En [22,0,1,4,7] Z)
 · refine Is 17 h2 Z ?_; exact fE 5 Z (En [22,0,1,4,7] Z)
 refine J 0 Z (C hf Z (fun h3 hf=>?_) fun h3 hf=>?_)
 ·
  obtain ⟨lo1,kg,ok1,h4,hf⟩:=jr hf; refine W 2 Z (CL Z (yG _ _ h4 (J 9 Z (C hf Z (fun h5 hf=>?_) fun h5 hf=>?_))))
  · cases hf; exact Wx 5 [1,2] Z Z (ZC [2] Z Z h)
  refine B1 hf fun x2 h6 hf=>W 4 Z (CL Z (lX _ _ h6 (J 1 Z (C hf Z (fun h7 hf=>?_) fun h7 hf=>?_))))
  ·
   obtain ⟨hi1,Bq,QJ,h8,hf⟩:=jr hf; refine W 3 Z (CL Z (yG _ _ h8 (U 10 Z (On 4 49 53 [0,1,4,7,8,9,11] (decide ((hi1.toNat:Int) < (lo1.toNat:Int))) Z Z Z Z (J 0 Z (C hf Z (fun h10 hf=>?_) fun h10 hf=>?_))))))
   · cases hf; exact Wx 5 [1,2] Z Z (ZC [2] Z Z h)
   refine Wr 4 [1] Z Z (AS Z (AO.rW Z D8 zH Z (AS Z (AO.bD (List.map MZ [([lo1,hi1]:List UInt8)]) Z yU Z Z Z Z ?_)))); refine B1 hf fun x3 h11 hf=>AS Z (AO.fu (i:=0) (l:=e1.items) (m:=[([lo1,hi1]:List UInt8)]) h11 Z Z Z Z Z Z Z yU zo Z Z Z (fun _=>Z) (fun _=>Z) (by decide) (fun v2 s1 hs1=>?_)); cases hs1; exact Rx 4 [1] Z Z ⟨Bq,(aj.mk e1.kind x3),v2,Z,Z,Z,hf⟩
  refine Wr 4 [1] Z Z (AS Z (AO.rW Z D8 zH Z (AS Z (AO.bD (List.map MZ [([lo1,lo1]:List UInt8)]) Z yU Z Z Z Z ?_)))); refine B1 hf fun x4 h12 hf=>AS Z (AO.fu (i:=0) (l:=e1.items) (m:=[([lo1,lo1]:List UInt8)]) h12 Z Z Z Z Z Z Z yU zo Z Z Z (fun _=>Z) (fun _=>Z) (by decide) (fun v3 s2 hs2=>?_)); cases hs2; exact Rx 4 [1] Z Z ⟨kg,(aj.mk e1.kind x4),v3,Z,Z,Z,hf⟩
 refine V 0 Z (AW.IZ 1 7 9 2 mixed (by kernel_rfl) (by kernel_rfl) (by kernel_rfl) Z Z Z Z ?_); refine Ev.cons Z Z Z (AO.bq (i:=1) Z Z Z GX Z Z zg) (Ev.nil ?_); show Ev _ _ _ _ _ _ _; refine Ev.cs bR 3 Z (Ev.cons Z Z Z (AO.bq (i:=1) Z Z Z NC Z Z zg) (Ev.cons Z Z Z (AO.aN (l:=e1.items) Z Z Z Z zo Z Z zg) (Ev.cs bR 1 Z ?_))); refine Ev.nil (TF.aS Z Z (AO.bO (i:=0) Z Z Z GX Z Z Z Z Z (TF.step Z Z Z (AO.calc' Z (TF.nil ?_))))); show AR _ _ _ _ _ _ _ _; cases hf; exact N 1 Z (ZC [2] Z Z h)
theorem Gn (p1:Str) {r0:List aj} {r1:Bool} (hf:vK p1=some (r0,r1)) (h:Q (.ret (.tuple [.list (List.map aj.cells r0),.bool r1])) τ):PC 69 [.str p1] τ Q:=by
 unfold vK at hf; refine BN 82 [.tmp 2,.tmp 3] [0] Tryz.func69 Z Z Z Z Z (W 0 Z (AS Z (AO.dP Z Z (U 3 Z (AS Z (AO.bV Z Z Z Z cK Z (J 1 Z (C hf Z (fun h1 hf=>?_) fun h1 hf=>?_))))))))
 · refine W 0 Z (AS Z (AO.dP Z Z ?_)); cases hf; exact N 1 Z (Y Z h)
 refine V 1 Z (AW.row 2 158 (JY (fun bI v1 dB=>[(0,.str p1),(4,.own v1 (List.map aj.cells bI)),(5,iP dB)]) (fun bI v1 dB=>[.row v1 (List.map aj.cells bI).length 2 158]) (fun bJ bI v1 dB=>dA p1 bJ bI dB=some (r0,r1)) BIG [] (.slice none 0 0) 0 Z Z hf (fun _ _ _ hz=>aQ hz) ?_)); intro bJ bI v1 dB hf; rw [dA] at hf; refine W 2 Z (AS Z (AO.bV Z Z Z Z cK Z (J 1 Z (C hf Z (fun h2 hf=>?_) fun h2 hf=>?_))))
 ·
  refine V 0 Z (AW.IX 0 11 13 [_] [] mixed (by kernel_rfl) (by kernel_rfl) (by kernel_rfl) Z Z Z (List.Perm.refl _) ?_); refine Ev.nil ?_; show Ev _ _ _ _ _ _ _; refine Ev.cs bR 2 Z ?_; refine B1 hf fun x1 h3 hf=>Ev.cons Z Z Z (AO.dK h3 Z cK Z Z zg) (Ev.cs bR 2 Z ?_); refine B1 hf fun x2 h4 hf=>Ev.cons Z Z Z (AO.dK h4 Z cK Z Z zg) (Ev.cons Z Z Z (AO.rW Z D8 zH Z zg) (Ev.cons Z Z Z (AO.bD (List.map MZ [([x1,x2]:List UInt8)]) Z yU Z Z Z Z zg) (Ev.cons Z Z Z (AO.build Z D7 Mi Z zg) ?_))); refine Ev.cs bR 2 Z (Ev.nil (TF.step Z Z Z (AO.aL Z D7 (fun b6=>(TF.aS Z Z (AO.bO (i:=0) Z Z Z GX Z Z Z Z Z ?_)))))); refine TF.nil ?_; show AR _ _ _ _ _ _ _ _; refine B1 hf fun x3 h5 hf=>U 4 Z (AS Z (AO.dK h5 Z cK Z Z (J 2 Z (C hf Z (fun h6 hf=>?_) fun h6 hf=>?_))))
  ·
   refine B1 hf fun x4 h7 hf=>Wr 5 [1] Z Z (CL Z (lX _ _ h7 (J 1 Z (C hf Z (fun h8 hf=>?_) fun h8 hf=>?_))))
   ·
    refine Ww 7 [1] Z Z (AW.cond Z (fun h9=>?_) (fun h9=>?_))
    · cases h9
    refine Wr 2 [1] rfl rfl (AS rfl (AO.bD (List.map aj.cells [(aj.mk 1 [])]) rfl oz rfl rfl rfl (by first | rfl | simp only [List.map,aj.aO]) ?_)); refine B1 hf fun mO h10 hf=>AS Z (AO.fu (i:=0) (l:=bI) (m:=[(aj.mk 1 [])]) h10 Z Z Z Z Z Z Z oz ng Z Z Z (aj.cB) (aj.cells_one) (by decide) (fun v2 s1 hs1=>?_)); cases hs1; refine fE 3 Z (AR.qb 1 Z ?_); exact N 0 Z ⟨mO,v2,(bE (dB + 2)),Z,Z,Z,hf⟩
   refine V 2 Z (AW.cond Z (fun h11=>?_) (fun h11=>?_))
   · cases h11
   refine Wr 2 [1] rfl rfl (AS rfl (AO.bD (List.map aj.cells [(aj.mk 2 [])]) rfl oz rfl rfl rfl (by first | rfl | simp only [List.map,aj.aO]) ?_)); refine B1 hf fun mM h12 hf=>AS Z (AO.fu (i:=0) (l:=bI) (m:=[(aj.mk 2 [])]) h12 Z Z Z Z Z Z Z oz ng Z Z Z (aj.cB) (aj.cells_one) (by decide) (fun v3 s2 hs2=>?_)); cases hs2; refine fE 3 Z (AR.qb 1 Z ?_); exact N 0 Z ⟨mM,v3,(bE (dB + 1)),Z,Z,Z,hf⟩
  refine V 2 Z (C hf Z (fun wh hf=>?_) fun wh hf=>?_)
  ·
   refine Ww 4 [1] Z Z (AW.cond Z (fun sZ=>?_) (fun sZ=>?_))
   · cases sZ
   refine Wr 2 [1] rfl rfl (AS rfl (AO.bD (List.map aj.cells [(aj.mk 3 [])]) rfl oz rfl rfl rfl (by first | rfl | simp only [List.map,aj.aO]) ?_)); refine B1 hf fun Om Ab hf=>AS Z (AO.fu (i:=0) (l:=bI) (m:=[(aj.mk 3 [])]) Ab Z Z Z Z Z Z Z oz ng Z Z Z (aj.cB) (aj.cells_one) (by decide) (fun v4 s3 hs3=>?_)); cases hs3; refine fE 3 Z (AR.qb 1 Z ?_); exact N 0 Z ⟨Om,v4,(bE (dB + 1)),Z,Z,Z,hf⟩
  refine V 2 Z (C hf Z (fun h16 hf=>?_) fun h16 hf=>?_)
  ·
   obtain ⟨x5,kg,ok1,CQ,hf⟩:=jr hf; refine W 3 Z (CL Z (Gm _ _ CQ (Rw 9 [1] Z Z (C hf Z (fun h18 hf=>?_) fun h18 hf=>?_))))
   · refine W 0 Z (AS Z (AO.dP Z Z ?_)); cases hf; exact N 1 Z (Y Z h)
   refine Wr 2 [1] rfl rfl (AS rfl (AO.bD (List.map aj.cells [x5]) rfl oz rfl rfl rfl (by first | rfl | simp only [List.map,aj.aO]) ?_)); refine B1 hf fun Ol h19 hf=>AS Z (AO.fu (i:=0) (l:=bI) (m:=[x5]) h19 Z Z Z Z Z Z Z oz ng Z Z Z (aj.cB) (aj.cells_one) (by decide) (fun v5 s4 hs4=>?_)); cases hs4; refine fE 3 Z (AR.qb 1 Z ?_); exact N 0 Z ⟨Ol,v5,kg,Z,Z,Z,hf⟩
  refine V 2 Z (C hf Z (fun h20 hf=>?_) fun h20 hf=>?_)
  ·
   refine B1 hf fun x6 h21 hf=>W 3 Z (CL Z (lX _ _ h21 ?_)); refine B1 hf fun x7 h22 hf=>U 3 Z (CL Z (lX _ _ h22 (AS Z (AO.rW Z D8 zH Z (AS Z (AO.bD (List.map MZ [([x6,x7]:List UInt8)]) Z yU Z Z Z Z (Rr 8 [1] Z Z (AS Z (AO.bV Z Z Z Z cK Z ?_))))))))); refine J 4 Z (C hf Z (fun h23 hf=>?_) fun h23 hf=>?_)
   · refine W 0 Z (AS Z (AO.dP Z Z ?_)); cases hf; exact N 1 Z (Y Z h)
   refine Wr 2 [1] rfl rfl (AS rfl (AO.bD (List.map aj.cells [(aj.mk 5 [([x6,x7]:List UInt8)])]) rfl oz rfl rfl rfl (by first | rfl | simp only [List.map,aj.aO]) ?_)); refine B1 hf fun Oj Ql hf=>AS Z (AO.fu (i:=0) (l:=bI) (m:=[(aj.mk 5 [([x6,x7]:List UInt8)])]) Ql Z Z Z Z Z Z Z oz ng Z Z Z (aj.cB) (aj.cells_one) (by decide) (fun v6 s5 hs5=>?_)); cases hs5; refine fE 3 Z (AR.qb 1 Z ?_)
   exact N 0 Z ⟨Oj,v6,(bE (dB + 2)),Z,Z,Z,hf⟩
  refine V 2 Z (AW.cond Z (fun O4=>?_) (fun O4=>?_))
  · cases O4
  refine Wr 2 [1] rfl rfl (AS rfl (AO.bD (List.map aj.cells [(aj.mk 5 [([x1,x2]:List UInt8)])]) rfl oz rfl rfl rfl (by first | rfl | simp only [List.map,aj.aO]) ?_)); refine B1 hf fun Oi Ra hf=>AS Z (AO.fu (i:=0) (l:=bI) (m:=[(aj.mk 5 [([x1,x2]:List UInt8)])]) Ra Z Z Z Z Z Z Z oz ng Z Z Z (aj.cB) (aj.cells_one) (by decide) (fun v7 s6 hs6=>?_)); cases hs6; refine fE 3 Z (AR.qb 1 Z ?_)
  exact N 0 Z ⟨Oi,v7,(bE (dB + 1)),Z,Z,Z,hf⟩
 cases hf; exact M 3 Z (Y Z h)
theorem Ci (e1:aj) {r0:Bool} (hf:uP e1=some r0) (h:Q (.ret (.bool r0)) τ):PC 95 [.agg (jG e1)] τ Q:=by
 unfold uP at hf; refine BN 11 [.tmp 2] [0] Tryz.func95 Z Z Z Z Z (W 6 Z (On 4 6 10 [] (e1.kind == 2) Z Z Z Z ?_)); cases hf; exact N 1 Z (Y Z h)
theorem HZ (e1:aj) (c1:UInt8) {r0:Bool} (hf:rH e1 c1=some r0) (h:Q (.ret (.bool r0)) τ):PC 96 [.agg (jG e1),.int .u8 (c1.toNat:Int)] τ Q:=by
 unfold rH at hf; refine BN 49 [.tmp 4] [0,1] Tryz.func96 Z Z Z Z Z (V 5 Z (C hf Z (fun h1 hf=>?_) fun h1 hf=>?_))
 · cases hf; exact M 1 Z (Y Z h)
 refine W 4 Z (An 3 12 15 [1,2] ((c1.toNat:Int) == 47) Z Z Z Z (J 0 Z (C hf Z (fun h3 hf=>?_) fun h3 hf=>?_)))
 · cases hf; exact M 1 Z (Y Z h)
 refine W 4 Z (On 4 19 23 [1,2] (e1.kind == 3) Z Z Z Z (J 0 Z (C hf Z (fun h5 hf=>?_) fun h5 hf=>?_)))
 · cases hf; exact M 1 Z (Y Z h)
 refine V 1 Z (JM (fun i1=>[(1,.int .u8 (c1.toNat:Int)),(2,.ref (jG e1)),(5,iP i1)]) (fun i1=>[]) (fun bJ i1=>l8 e1 c1 bJ i1=some r0) BIG 0 Z Z hf (fun _ hz=>aQ hz) ?_); intro bJ i1 hf; rw [l8] at hf; refine W 3 Z (AS Z (AO.aN (l:=e1.items) Z Z Z Z zo Z Z (J 1 Z (C hf Z (fun h6 hf=>?_) fun h6 hf=>?_))))
 ·
  refine B1 hf fun e2 h7 hf=>W 4 Z (AS Z (AO.bK h7 Z Z Z Z zo Z Z (AS Z (AO.uY (sz:=1) 0 Z zH Z Z (by decide) Z ?_)))); refine B1 hf fun b1 h9 hf=>U 3 Z (AR.eD 9 39 48 true [1,2,5] b1 Z Z (fun h8=>?_) (fun h8=>?_) ?_)
  · refine IT 39 h8 h9 Z fun h9=>?_; refine B1 h9 fun e3 h10 h9=>U 4 Z (GO Z (AO.bK h10 Z Z Z Z zo Z Z (GO Z (AO.uY (sz:=1) 1 Z zH Z Z (by decide) Z ?_)))); cases h9; exact fE 3 Z (En [48,1,2,5] Z)
  · refine IF 39 h8 h9 Z fun h9=>?_; cases h9; exact fE 9 Z (En [48,1,2,5] Z)
  refine J 0 Z (C hf Z (fun h11 hf=>?_) fun h11 hf=>?_)
  · cases hf; exact M 1 Z (Y Z h)
  exact M 3 Z ⟨(bE (i1 + 1)),Z,Z,Z,hf⟩
 cases hf; exact M 1 Z (Y Z h)
theorem Dh (l1:List aj) (s1:Str) {r0:Bool} (hf:qD l1 s1=some r0) (h:Q (.ret (.bool r0)) τ):PC 71 [.list (List.map aj.cells l1),.str s1] τ Q:=by
 unfold qD at hf; refine BN 89 [.tmp 4] [0,1] Tryz.func71 Z Z Z Z Z (W 2 Z (AS Z (AO.aN (l:=l1) Z Z Z Z ng Z Z ?_))); refine B1 hf fun a0 h3 hf=>U 1 Z (AS Z (AO.lH (oO h3) Z Z Z Ih LW (fun v1=>?_))); refine B1 hf fun c0 h4 hf=>U 2 Z (AS Z (AO.b_ (i:=0) h4 Z Z Z Z pX ?_)); refine B1 hf fun a1 h5 hf=>?_; refine AR.aS Z Z (AO.j3 (i:=0) h4 h5 Z Z Z uJ Z Z (J 1 Z (JY (fun k1 vN v1=>[(0,.list (List.map aj.cells l1)),(1,.str s1),(5,.val v1),(6,iP k1)]) (fun k1 vN v1=>[.buf v1 vN.length 1 4 (List.map PV.bool vN)]) (fun bJ k1 vN v1=>eY l1 s1 bJ k1 vN=some r0) BIG 0 a1 v1 Z Z hf (fun _ _ _ hz=>aQ hz) ?_))); intro bJ k1 vN v1 hf; rw [eY] at hf; refine W 2 Z (AS Z (AO.bV Z Z Z Z cK Z (J 1 Z (C hf Z (fun h6 hf=>?_) fun h6 hf=>?_))))
 ·
  refine V 1 Z (D5 (fun vN i1=>[(0,.list (List.map aj.cells l1)),(1,.str s1),(5,.val v1),(6,iP k1),(7,iP i1)]) (fun vN i1=>[.buf v1 vN.length 1 4 (List.map PV.bool vN)]) (fun uq vN i1=>iy l1 (kZ l1 s1 k1 (eY l1 s1 bJ (bE (k1 + 1)))) uq vN i1=some r0) BIG vN 0 Z Z hf (fun _ _ hz=>aQ hz) ?_); intro uq vN i1 hf; rw [iy] at hf; refine W 2 Z (AS Z (AO.aN (l:=l1) Z Z Z Z ng Z Z (J 1 Z (C hf Z (fun h7 hf=>?_) fun h7 hf=>?_))))
  ·
   refine B1 hf fun c1 h8 hf=>W 2 Z (AS Z (AO.b_ (i:=0) h8 Z Z Z Z pX (AS Z (AO.nK (i:=0) h8 Z Z Z uJ ?_)))); refine B1 hf fun c2 h9 hf=>U 1 Z (AR.eD 6 32 38 true [0,1,5,6,7] c2 Z Z (fun h10=>?_) (fun h10=>?_) ?_)
   · refine IT 32 h10 h9 Z fun h9=>?_; refine B1 h9 fun x1 h11 h9=>U 2 Z (GO Z (AO.bK h11 Z Z Z Z ng (aj.aO _) Z (U 1 Z (GO Z (AO.call Z _ Z Z Pw (Ci _ h9 ?_)))))); exact fE 1 Z (En [38,0,1,5,6,7] Z)
   · refine IF 32 h10 h9 Z fun h9=>?_; cases h9; exact fE 6 Z (En [38,0,1,5,6,7] Z)
   refine J 0 Z (C hf Z (fun h12 hf=>?_) fun h12 hf=>?_)
   · refine B1 hf fun c3 wh hf=>W 3 Z (AS Z (AO.b_ (i:=0) wh Z Z Z Z pX ?_)); refine B1 hf fun QH sZ hf=>AR.aS Z Z (AO.j3 (i:=0) wh sZ Z Z Z uJ Z Z ?_); exact N 3 Z ⟨QH,(bE (i1 + 1)),Z,Z,Z,hf⟩
   exact M 3 Z ⟨vN,(bE (i1 + 1)),Z,Z,Z,hf⟩
  unfold kZ at hf; refine W 2 Z (AS Z (AO.bV Z Z Z Z cK Z (J 1 Z (C hf Z (fun Ab hf=>?_) fun Ab hf=>?_))))
  · refine W 2 Z (AS Z (AO.aN (l:=l1) Z Z Z Z ng Z Z (AS Z (AO.b_ (i:=0) hf Z Z Z Z pX (AS Z (AO.nK (i:=0) hf Z Z Z uJ ?_)))))); exact N 1 Z (Y Z h)
  refine W 1 Z (AS Z (AO.aN (l:=l1) Z Z Z Z ng Z Z ?_)); refine B1 hf fun QK h16 hf=>U 1 Z (AS Z (AO.lH (oO h16) Z Z Z Ih LW (fun v2=>(J 2 Z (D5 (fun tX i1=>[(0,.list (List.map aj.cells l1)),(1,.str s1),(5,.val v1),(6,iP k1),(8,.val v2),(9,iP i1)]) (fun tX i1=>[.buf v2 tX.length 1 4 (List.map PV.bool tX),.buf v1 vN.length 1 4 (List.map PV.bool vN)]) (fun GN tX i1=>gM l1 s1 k1 vN (eY l1 s1 bJ (bE (k1 + 1))) GN tX i1=some r0) BIG QK 0 Z Z hf (fun _ _ hz=>aQ hz) ?_))))); intro GN tX i1 hf; rw [gM] at hf; refine W 2 Z (AS Z (AO.aN (l:=l1) Z Z Z Z ng Z Z (J 1 Z (C hf Z (fun CQ hf=>?_) fun CQ hf=>?_))))
  ·
   refine V 0 Z (AW.draw 14 mixed (by kernel_rfl) Z ?_); refine Ev.cs bR 2 Z ?_; refine B1 hf fun c1 h18 hf=>Ev.cons Z Z Z (AO.b_ (i:=1) h18 Z Z Z Z pX zg) (Ev.cons Z Z Z (AO.nK (i:=1) h18 Z Z Z uJ zg) (Ev.cs bR 1 Z ?_)); refine B1 hf fun c2 h19 hf=>Ev.eD Qu 9 66 75 true [0,1,5,6,8,9] (.bool c2) Z Z (fun h20=>?_) (fun h20=>?_) ?_
   · replace h19:=iF h20 h19; refine Ev.is K7 66 h20 Z (Ev.cs bR 2 Z ?_); refine B1 h19 fun x1 h21 h19=>Ev.run Z Z Z Z Z Z Z (AO.bK h21 Z Z Z Z ng (aj.aO _) Z zg) (Ev.cs bR 3 Z ?_); refine B1 h19 fun c4 h22 h19=>Ev.run Z Z Z Z Z Z Z (AO.dK h22 Z cK Z Z zg) (Ev.run Z Z Z Z Z Z Z (AO.call Z _ Z Z Pv (HZ _ _ h19 zg)) (Ev.cs bR 1 Z ?_)); exact Ev.nil (Less.settle (ps:=[75,0,1,5,6,8,9]) Z)
   · replace h19:=gZ h20 h19; refine Ev.is K7 66 h20 Z ?_; cases h19; refine Ev.cs bR 9 Z ?_; exact Ev.nil (Less.settle (ps:=[75,0,1,5,6,8,9]) Z)
   refine Ev.nil ?_; show AR _ _ _ _ _ _ _ _; refine J 0 Z (C hf Z (fun h23 hf=>?_) fun h23 hf=>?_)
   ·
    refine B1 hf fun x2 Ql hf=>W 2 Z (AS Z (AO.bK Ql Z Z Z Z ng (aj.aO _) Z ?_)); refine B1 hf fun c5 O4 hf=>U 1 Z (CL Z (Ci _ O4 (J 0 Z (C hf Z (fun Ra hf=>?_) fun Ra hf=>?_))))
    · refine B1 hf fun c6 h27 hf=>W 2 Z (AS Z (AO.b_ (i:=0) h27 Z Z Z Z pX ?_)); refine B1 hf fun GL Q_ hf=>AR.aS Z Z (AO.j3 (i:=0) h27 Q_ Z Z Z uJ Z Z ?_); exact N 3 Z ⟨GL,(bE (i1 + 1)),Z,Z,Z,hf⟩
    refine B1 hf fun c6 h27 hf=>W 3 Z (AS Z (AO.b_ (i:=0) h27 Z Z Z Z pX ?_)); refine B1 hf fun GL Q_ hf=>AR.aS Z Z (AO.j3 (i:=0) h27 Q_ Z Z Z uJ Z Z ?_); exact N 3 Z ⟨GL,(bE (i1 + 1)),Z,Z,Z,hf⟩
   exact M 3 Z ⟨tX,(bE (i1 + 1)),Z,Z,Z,hf⟩
  refine Qx 2 Z (AR.qb 1 Z ?_); exact N 3 Z ⟨(bE (k1 + 1)),tX,v2,Z,Z,Z,hf⟩
 cases hf; exact M 1 Z (Y Z h)
theorem zR (p1:Str) (s1:Str) {r0:Bool} (hf:o7 p1 s1=some r0) (h:Q (.ret (.bool r0)) τ):PC 48 [.str p1,.str s1] τ Q:=by
 unfold o7 at hf; refine BN 18 [.tmp 4] [0,1] Tryz.func48 Z Z Z Z Z ?_; obtain ⟨l1,ok1,h1,hf⟩:=bL hf; refine W 2 Z (CL Z (Gn _ h1 ?_)); refine BR hf fun b1 h3 hf=>?_; refine U 7 Z (AR.eD 4 13 17 true [] b1 Z Z (fun h2=>?_) (fun h2=>?_) ?_)
 · refine IT 13 h2 h3 Z fun h3=>?_; refine BR h3 fun x1 h4 h3=>?_; refine U 2 Z (GO Z (AO.call Z _ Z Z Pz (Dh _ _ h4 ?_))); cases h3; exact fE 1 Z (En [17] Z)
 · refine IF 13 h2 h3 Z fun h3=>?_; cases h3; exact fE 4 Z (En [17] Z)
 cases hf; exact N 1 Z (Y Z h)
theorem JF (aW:List Str) (s1:Str) {r0:Bool} (hf:xP aW s1=some r0) (h:Q (.ret (.bool r0)) τ):PC 32 [sP aW,.str s1] τ Q:=by
 unfold xP at hf; refine BN 29 [.tmp 4] [0,1] Tryz.func32 Z Z Z Z Z (V 3 Z (D5 (fun Aq i1=>[(0,sP aW),(1,.str s1),(5,.bool Aq),(6,iP i1)]) (fun Aq i1=>[]) (fun bJ Aq i1=>jC aW s1 bJ Aq i1=some r0) BIG false 0 Z Z hf (fun _ _ hz=>aQ hz) ?_)); intro bJ Aq i1 hf; rw [jC] at hf; refine W 2 Z (AS Z (AO.aN (l:=aW) Z Z Z Z iV Z Z (J 1 Z (C hf Z (fun h1 hf=>?_) fun h1 hf=>?_))))
 ·
  refine B1 hf fun p1 h2 hf=>W 2 Z (AS Z (AO.bK h2 Z Z Z Z iV Z Z ?_)); refine B1 hf fun x1 h3 hf=>U 3 Z (CL Z (lX _ _ h3 (J 1 Z (C hf Z (fun h4 hf=>?_) fun h4 hf=>?_))))
  ·
   refine B1 hf fun x2 h5 hf=>W 1 Z (AS Z (AO.sG h5 Z cK Z ⟨_,Z⟩ Z ?_)); refine B1 hf fun x3 h6 hf=>U 1 Z (CL Z (zR _ _ h6 (J 0 Z (C hf Z (fun h7 hf=>?_) fun h7 hf=>?_))))
   · exact M 4 Z ⟨false,(bE (i1 + 1)),Z,Z,Z,hf⟩
   exact M 3 Z ⟨Aq,(bE (i1 + 1)),Z,Z,Z,hf⟩
  refine B1 hf fun x4 h8 hf=>W 2 Z (CL Z (zR _ _ h8 (J 0 Z (C hf Z (fun h9 hf=>?_) fun h9 hf=>?_))))
  · exact M 4 Z ⟨true,(bE (i1 + 1)),Z,Z,Z,hf⟩
  exact M 3 Z ⟨Aq,(bE (i1 + 1)),Z,Z,Z,hf⟩
 cases hf; exact M 2 Z (Y Z h)
theorem zS (gy:BitVec 64) (uy:BitVec 64) (i1:BitVec 64) {r0:BitVec 64} (hf:o8 gy uy i1=some r0) (h:Q (.ret (.int .u64 (r0.toNat:Int))) τ):PC 72 [.int .u64 (gy.toNat:Int),.int .u64 (uy.toNat:Int),.int .u64 (i1.toNat:Int)] τ Q:=by
 unfold o8 at hf; refine BN 19 [.tmp 6] [0,1,2] Tryz.func72 Z Z Z Z Z (W 3 Z (AS Z (AO.u64_xor gy uy Z Z Z Z Z ?_))); refine B1 hf fun x1 h1 hf=>AS Z (AO.Ka (gy ^^^ uy) (2654435761:BitVec 64) h1 Z Z Z Z Z (U 1 Z (AS Z (AO.xG x1 i1 Z Z Z Z Z (AS Z (AO.xF (x1 + i1) (4294967296:BitVec 64) Z Z Z Z Z (by decide) ?_)))))); refine B1 hf fun x2 h2 hf=>U 3 Z (AS Z (AO.J_ ((x1 + i1) % (4294967296:BitVec 64)) (65536:BitVec 64) h2 Z Z Z Z Z (by decide) ?_)); refine BR hf fun x3 h3 hf=>?_; refine AS Z (AO.J9 ((x1 + i1) % (4294967296:BitVec 64)) x2 h3 Z Z Z Z Z ?_); cases hf; exact N 1 Z (Y Z h)
theorem DV (key1:BitVec 64) (x1:BitVec 64) {r0:BitVec 64} (hf:vM key1 x1=some r0) (h:Q (.ret (.int .u64 (r0.toNat:Int))) τ):PC 49 [.int .u64 (key1.toNat:Int),.int .u64 (x1.toNat:Int)] τ Q:=by
 unfold vM at hf; refine BN 37 [.tmp 4] [0,1] Tryz.func49 Z Z Z Z Z (W 2 Z (AS Z (AO.u64_quo x1 (4294967296:BitVec 64) Z Z Z Z Z (by decide) ?_))); refine U 1 Z (AS Z (AO.xF x1 (4294967296:BitVec 64) Z Z Z Z Z (by decide) ?_)); refine J 3 Z (JY (fun l1 gy i1=>[(0,.int .u64 (key1.toNat:Int)),(5,.int .u64 (l1.toNat:Int)),(6,.int .u64 (gy.toNat:Int)),(7,.int .u64 (i1.toNat:Int))]) (fun l1 gy i1=>[]) (fun bJ l1 gy i1=>lQ key1 bJ l1 gy i1=some r0) BIG (x1 / (4294967296:BitVec 64)) (x1 % (4294967296:BitVec 64)) 1 Z Z hf (fun _ _ _ hz=>aQ hz) ?_); intro bJ l1 gy i1 hf; rw [lQ] at hf; refine V 2 Z (C hf Z (fun h1 hf=>?_) fun h1 hf=>?_)
 ·
  refine W 1 Z (AS Z (AO.xF key1 (4294967296:BitVec 64) Z Z Z Z Z (by decide) ?_)); refine U 2 Z (AS Z (AO.xF i1 (2:BitVec 64) Z Z Z Z Z (by decide) ?_)); refine J 1 Z (C hf Z (fun h2 hf=>?_) fun h2 hf=>?_)
  · refine W 1 Z (AS Z (AO.u64_quo key1 (4294967296:BitVec 64) Z Z Z Z Z (by decide) ?_)); refine B1 hf fun x2 h3 hf=>U 5 Z (CL Z (zS _ _ _ h3 (AS Z (AO.u64_xor l1 x2 Z Z Z Z Z (U 6 Z (AS Z (AO.xG i1 (1:BitVec 64) Z Z Z Z Z ?_))))))); exact N 1 Z ⟨gy,(l1 ^^^ x2),(i1 + (1:BitVec 64)),Z,Z,Z,hf⟩
  refine B1 hf fun x3 h4 hf=>W 4 Z (CL Z (zS _ _ _ h4 (AS Z (AO.u64_xor l1 x3 Z Z Z Z Z (U 6 Z (AS Z (AO.xG i1 (1:BitVec 64) Z Z Z Z Z ?_))))))); exact N 1 Z ⟨gy,(l1 ^^^ x3),(i1 + (1:BitVec 64)),Z,Z,Z,hf⟩
 refine W 1 Z (AS Z (AO.Ed l1 (4294967296:BitVec 64) Z Z Z Z Z (U 1 Z (AS Z (AO.xG (l1 * (4294967296:BitVec 64)) gy Z Z Z Z Z ?_))))); cases hf; exact N 1 Z (Y Z h)
theorem Gp (b1:List UInt8) (dB:Int) {r0:BitVec 64} (hf:rJ b1 dB=some r0) (h:Q (.ret (.int .u64 (r0.toNat:Int))) τ):PC 50 [.list (List.map bN b1),iP dB] τ Q:=by
 unfold rJ at hf; refine BN 29 [.tmp 4] [0,1] Tryz.func50 Z Z Z Z Z (V 3 Z (D5 (fun g1 i1=>[(0,.list (List.map bN b1)),(1,iP dB),(5,.int .u64 (g1.toNat:Int)),(6,iP i1)]) (fun g1 i1=>[]) (fun bJ g1 i1=>jD b1 dB bJ g1 i1=some r0) BIG 0 7 Z Z hf (fun _ _ hz=>aQ hz) ?_)); intro bJ g1 i1 hf; rw [jD] at hf; refine V 2 Z (C hf Z (fun h1 hf=>?_) fun h1 hf=>?_)
 ·
  refine W 1 Z (AS Z (AO.Ed g1 (256:BitVec 64) Z Z Z Z Z (U 5 Z (AS Z (AO.aN (l:=b1) Z Z Z Z kR Z Z (J 1 Z (C hf Z (fun h2 hf=>?_) fun h2 hf=>?_)))))))
  · refine B1 hf fun e1 h3 hf=>W 5 Z (AS Z (AO.bK h3 Z Z Z Z kR Z Z (U 1 Z (AS Z (AO.Ag e1.toBitVec Z xC uH Z Z ?_))))); refine B1 hf fun g2 h4 hf=>AS Z (AO.Kc (g1 * (256:BitVec 64)) (BitVec.setWidth 64 e1.toBitVec) h4 Z Z Z Z Z ?_); exact N 4 Z ⟨g2,(bE (i1 - 1)),Z,Z,Z,hf⟩
  exact M 3 Z ⟨(g1 * (256:BitVec 64)),(bE (i1 - 1)),Z,Z,Z,hf⟩
 cases hf; exact M 2 Z (Y Z h)
theorem DU (b1:List UInt8) {r0:BitVec 64} (hf:vL b1=some r0) (h:Q (.ret (.int .u64 (r0.toNat:Int))) τ):PC 33 [.list (List.map bN b1)] τ Q:=by
 unfold vL at hf; refine BN 25 [.tmp 2] [0] Tryz.func33 Z Z Z Z Z (W 2 Z (AS Z (AO.aN (l:=b1) Z Z Z Z kR Z Z (AS Z (AO.Ki Z CV uH Z ?_))))); refine B1 hf fun x1 h1 hf=>CL Z (DV _ _ h1 (J 2 Z (D5 (fun x2 dB=>[(0,.list (List.map bN b1)),(3,.int .u64 (x2.toNat:Int)),(4,iP dB)]) (fun x2 dB=>[]) (fun bJ x2 dB=>lN b1 bJ x2 dB=some r0) BIG x1 0 Z Z hf (fun _ _ hz=>aQ hz) ?_))); intro bJ x2 dB hf; rw [lN] at hf; refine W 2 Z (AS Z (AO.aN (l:=b1) Z Z Z Z kR Z Z (J 1 Z (C hf Z (fun h2 hf=>?_) fun h2 hf=>?_))))
 · refine B1 hf fun g1 h3 hf=>W 2 Z (CL Z (Gp _ _ h3 ?_)); refine B1 hf fun x3 h4 hf=>U 3 Z (CL Z (DV _ _ h4 (U 1 Z (AS Z (AO.u64_xor x3 g1 Z Z Z Z Z ?_))))); exact N 4 Z ⟨(x3 ^^^ g1),(bE (dB + 8)),Z,Z,Z,hf⟩
 cases hf; exact M 2 Z (Y Z h)
theorem Ld (lU:Str) (bU:List (BitVec 64)) {r0:BitVec 64} (hf:yV lU bU=some r0) (h:Q (.ret (.int .u64 (r0.toNat:Int))) τ):PC 34 [.str lU,.list (List.map yS bU)] τ Q:=by
 unfold yV at hf; refine BN 49 [.tmp 4] [0,1] Tryz.func34 Z Z Z Z Z (V 3 Z (AW.row 1 5 (JY (fun b1 v1 i1=>[(0,.str lU),(1,.list (List.map yS bU)),(5,.own v1 (List.map bN b1)),(6,iP i1)]) (fun b1 v1 i1=>[.row v1 (List.map bN b1).length 1 5]) (fun bJ b1 v1 i1=>o_ lU bU bJ b1 i1=some r0) BIG [] (.slice none 0 0) 0 Z Z hf (fun _ _ _ hz=>aQ hz) ?_))); intro bJ b1 v1 i1 hf; rw [o_] at hf; refine W 2 Z (AS Z (AO.bV Z Z Z Z cK Z (J 1 Z (C hf Z (fun h1 hf=>?_) fun h1 hf=>?_))))
 · refine B1 hf fun x1 h2 hf=>W 3 Z (AS Z (AO.dK h2 Z cK Z Z (AS Z (AO.bD (List.map bN ([x1]:List UInt8)) Z pE Z Z Z Z ?_)))); refine B1 hf fun b2 h3 hf=>AS Z (AO.fu (i:=0) (l:=b1) (m:=([x1]:List UInt8)) h3 Z Z Z Z Z Z Z pE kR Z Z Z (fun _=>Z) (fun _=>Z) (by decide) (fun v2 s1 hs1=>?_)); cases hs1; exact N 4 Z ⟨b2,v2,(bE (i1 + 1)),Z,Z,Z,hf⟩
 refine W 1 Z (AS Z (AO.bD (List.map bN ([0]:List UInt8)) Z pE Z Z Z Z ?_)); refine B1 hf fun b3 h4 hf=>AS Z (AO.fu (i:=0) (l:=b1) (m:=([0]:List UInt8)) h4 Z Z Z Z Z Z Z pE kR Z Z Z (fun _=>Z) (fun _=>Z) (by decide) (fun v3 s2 hs2=>?_)); cases hs2; refine J 2 Z (JY (fun b4 v4 i2=>[(1,.list (List.map yS bU)),(5,.own v4 (List.map bN b4)),(7,iP i2)]) (fun b4 v4 i2=>[.row v4 (List.map bN b4).length 1 5]) (fun uq b4 v4 i2=>kH bU uq b4 i2=some r0) BIG b3 v3 0 Z Z hf (fun _ _ _ hz=>aQ hz) ?_); intro uq b4 v4 i2 hf; rw [kH] at hf; refine W 2 Z (AS Z (AO.aN (l:=bU) Z Z Z Z DT Z Z (J 1 Z (C hf Z (fun h5 hf=>?_) fun h5 hf=>?_))))
 ·
  refine B1 hf fun n1 h6 hf=>W 2 Z (AS Z (AO.bK h6 Z Z Z Z DT Z Z (J 3 Z (RH (fun b5 v5 n2 uy=>[(1,.list (List.map yS bU)),(5,.own v5 (List.map bN b5)),(7,iP i2),(8,.int .u64 (n2.toNat:Int)),(9,iP uy)]) (fun b5 v5 n2 uy=>[.row v5 (List.map bN b5).length 1 5]) (fun GN b5 v5 n2 uy=>o9 i2 (kH bU uq) GN b5 n2 uy=some r0) BIG b4 v4 n1 0 Z Z hf (fun _ _ _ _ hz=>aQ hz) ?_)))); intro GN b5 v5 n2 uy hf; rw [o9] at hf; refine V 2 Z (C hf Z (fun h7 hf=>?_) fun h7 hf=>?_)
  ·
   refine W 2 Z (AS Z (AO.xF n2 (256:BitVec 64) Z Z Z Z Z (by decide) ?_)); refine AS Z (AO.Kh (n2 % (256:BitVec 64)) Z uH xC Z Z (AS Z (AO.bD (List.map bN ([(UInt8.ofBitVec (BitVec.setWidth 8 (n2 % (256:BitVec 64))))]:List UInt8)) Z pE Z Z Z Z ?_))); refine B1 hf fun b6 h8 hf=>AS Z (AO.fu (i:=0) (l:=b5) (m:=([(UInt8.ofBitVec (BitVec.setWidth 8 (n2 % (256:BitVec 64))))]:List UInt8)) h8 Z Z Z Z Z Z Z pE kR Z Z Z (fun _=>Z) (fun _=>Z) (by decide) (fun v6 s3 hs3=>?_)); cases hs3; refine U 2 Z (AS Z (AO.u64_quo n2 (256:BitVec 64) Z Z Z Z Z (by decide) ?_)); exact N 4 Z ⟨b6,v6,(n2 / (256:BitVec 64)),(bE (uy + 1)),Z,Z,Z,hf⟩
  exact M 3 Z ⟨b5,v5,(bE (i2 + 1)),Z,Z,Z,hf⟩
 refine BR hf fun x2 h9 hf=>?_; refine W 1 Z (CL Z (DU _ h9 ?_)); cases hf; exact N 1 Z (Y Z h)
theorem HY (dx:List aB) (aW:List Str) {r0:BitVec 64} (hf:uO dx aW=some r0) (h:Q (.ret (.int .u64 (r0.toNat:Int))) τ):PC 15 [.list (List.map aB.cells dx),sP aW] τ Q:=by
 unfold uO at hf; refine BN 37 [.tmp 4] [0,1] Tryz.func15 Z Z Z Z Z (V 3 Z (AW.row 1 38 (JY (fun bU v1 i1=>[(0,.list (List.map aB.cells dx)),(1,sP aW),(5,.own v1 (List.map yS bU)),(6,iP i1)]) (fun bU v1 i1=>[.row v1 (List.map yS bU).length 1 38]) (fun bJ bU v1 i1=>j4 dx aW bJ bU i1=some r0) BIG [] (.slice none 0 0) 0 Z Z hf (fun _ _ _ hz=>aQ hz) ?_))); intro bJ bU v1 i1 hf; rw [j4] at hf; refine W 2 Z (AS Z (AO.aN (l:=dx) Z Z Z Z yB Z Z (J 1 Z (C hf Z (fun h1 hf=>?_) fun h1 hf=>?_))))
 ·
  refine B1 hf fun e1 h2 hf=>W 3 Z (AS Z (AO.bK h2 Z Z Z Z yB (aB.aO _) Z ?_)); refine B1 hf fun x1 h3 hf=>U 2 Z (CL Z (JF _ _ h3 (J 0 Z (C hf Z (fun h4 hf=>?_) fun h4 hf=>?_))))
  ·
   refine AW.draw 14 mixed (by kernel_rfl) Z ?_; refine Ev.cs bR 3 Z ?_; refine B1 hf fun e2 h5 hf=>Ev.cons Z Z Z (AO.bK h5 Z Z Z Z yB (aB.aO _) Z zg) (Ev.cs bR 2 Z ?_); refine B1 hf fun x2 h6 hf=>Ev.cons Z Z Z (AO.AQ h6 Z cK Ii xC Z zg) ?_; refine B1 hf fun x3 h7 hf=>Ev.cons Z Z Z (AO.call Z _ Z Z PS (DU _ h7 zg)) (Ev.cs bR 2 Z ?_); refine B1 hf fun e3 h8 hf=>Ev.cons Z Z Z (AO.bK h8 Z Z Z Z yB (aB.aO _) Z zg) (Ev.cs bR 2 Z (Ev.cons Z Z Z (AO.bD (List.map yS ([x3,e3.digest]:List (BitVec 64))) Z IC Z Z Z Z zg) (Ev.nil ?_))); show AR _ _ _ _ _ _ _ _; refine B1 hf fun He h9 hf=>AS Z (AO.fu (i:=0) (l:=bU) (m:=([x3,e3.digest]:List (BitVec 64))) h9 Z Z Z Z Z Z Z IC DT Z Z Z (fun _=>Z) (fun _=>Z) (by decide) (fun v2 s1 hs1=>?_)); cases hs1; exact N 4 Z ⟨He,v2,(bE (i1 + 1)),Z,Z,Z,hf⟩
  exact M 3 Z ⟨bU,v1,(bE (i1 + 1)),Z,Z,Z,hf⟩
 refine BR hf fun x4 h10 hf=>?_; refine W 1 Z (CL Z (Ld _ _ h10 ?_)); cases hf; exact N 1 Z (Y Z h)
theorem qA (s1:Str) (mG:Str) {r0:Bool} (hf:jm s1 mG=some r0) (h:Q (.ret (.bool r0)) τ):PC 65 [.str s1,.str mG] τ Q:=by
 unfold jm at hf; refine BN 18 [.tmp 4] [0,1] Tryz.func65 Z Z Z Z Z (W 2 Z (AS Z (AO.bV Z Z Z Z cK Z (U 1 Z (AS Z (AO.bV Z Z Z Z cK Z ?_)))))); refine BR hf fun b1 h2 hf=>?_; refine U 2 Z (AR.eD 7 10 17 true [] b1 Z Z (fun h1=>?_) (fun h1=>?_) ?_)
 · replace h2:=iF h1 h2; refine Is 10 h1 Z (U 2 Z (GO Z (AO.bV Z Z Z Z cK Z ?_))); refine B1 h2 fun x1 h3 h2=>GO Z (AO.sG h3 Z cK Z Z ⟨_,Z⟩ ?_); cases h2; exact fE 3 Z (En [17] Z)
 · refine IF 10 h1 h2 Z fun h2=>?_; cases h2; exact fE 7 Z (En [17] Z)
 cases hf; exact N 1 Z (Y Z h)
theorem oJ (s1:Str) (mG:Str) {r0:Bool} (hf:strings_HasPrefix s1 mG=some r0) (h:Q (.ret (.bool r0)) τ):PC 59 [.str s1,.str mG] τ Q:=by
 unfold strings_HasPrefix at hf; refine BN 8 [.tmp 4] [0,1] Tryz.func59 Z Z Z Z Z ?_; refine BR hf fun x1 h1 hf=>?_; refine W 3 Z (CL Z (qA _ _ h1 ?_)); cases hf; exact N 1 Z (Y Z h)
theorem zA (s1:Str) (dB:Int) {r0:Int} (hf:pQ s1 dB=some r0) (h:Q (.ret (iP r0)) τ):PC 61 [.str s1,iP dB] τ Q:=by
 unfold pQ at hf; refine BN 31 [.tmp 4] [0,1] Tryz.func61 Z Z Z Z Z (V 2 Z (D5 (fun at2 iB=>[(0,.str s1),(1,iP at2),(5,iP iB)]) (fun at2 iB=>[]) (fun bJ at2 iB=>gP s1 bJ at2 iB=some r0) BIG dB 0 Z Z hf (fun _ _ hz=>aQ hz) ?_)); intro bJ at2 iB hf; rw [gP] at hf; refine W 2 Z (AS Z (AO.bV Z Z Z Z cK Z (J 1 Z (C hf Z (fun h1 hf=>?_) fun h1 hf=>?_))))
 ·
  refine B1 hf fun x1 h2 hf=>W 2 Z (AS Z (AO.dK h2 Z cK Z Z (J 2 Z (C hf Z (fun h3 hf=>?_) fun h3 hf=>?_))))
  · exact aQ hf
  refine V 2 Z (C hf Z (fun h4 hf=>?_) fun h4 hf=>?_)
  · exact M 6 Z ⟨(bE (at2 + 1)),(bE (iB + 1)),Z,Z,Z,hf⟩
  refine V 2 Z (C hf Z (fun h5 hf=>?_) fun h5 hf=>?_)
  ·
   refine V 2 Z (C hf Z (fun h6 hf=>?_) fun h6 hf=>?_)
   · cases hf; exact M 2 Z (Y Z h)
   exact M 6 Z ⟨(bE (at2 + 1)),(bE (iB - 1)),Z,Z,Z,hf⟩
  exact M 3 Z ⟨(bE (at2 + 1)),iB,Z,Z,Z,hf⟩
 cases hf; exact M 1 Z (Y Z h)
theorem zy (gy:Int) {r0:Bool} (hf:pO gy=some r0) (h:Q (.ret (.bool r0)) τ):PC 107 [.int .i32 gy] τ Q:=by
 unfold pO at hf; refine BN 9 [.tmp 2] [0] Tryz.func107 Z Z Z Z Z (W 4 Z (On 3 5 8 [] (gy == 9) Z Z Z Z ?_)); cases hf; exact N 1 Z (Y Z h)
theorem wK (s1:Str) (dB:Int) (u_:UInt8→Option Bool) (Am:FuncId) (EK:List PV) (MI:aU Tryz.prog Am=true) (MJ:∀ a0 b0,u_ a0=some b0→∀ {τ:List aG} {Q:dh→List aG→Prop},Q (.ret (.bool b0)) τ→PC Am ([.int .u8 (a0.toNat:Int)] ++ EK) τ Q) {r0:Int} (hf:qF s1 dB u_=some r0) (h:Q (.ret (iP r0)) τ):PC 108 [.str s1,iP dB,.fn Am EK] τ Q:=by
 unfold qF at hf; refine BN 21 [.tmp 6] [0,1,2] Tryz.func108 Z Z Z Z Z (V 1 Z (JM (fun at2=>[(0,.str s1),(1,iP at2),(2,.fn Am EK)]) (fun at2=>[]) (fun bJ at2=>mR s1 u_ bJ at2=some r0) BIG dB Z Z hf (fun _ hz=>aQ hz) ?_)); intro bJ at2 hf; rw [mR] at hf; refine W 2 Z (AS Z (AO.bV Z Z Z Z cK Z ?_)); refine B1 hf fun b1 h2 hf=>U 2 Z (AR.eD 6 11 17 true [0,1,2] b1 Z Z (fun h1=>?_) (fun h1=>?_) ?_)
 · refine IT 11 h1 h2 Z fun h2=>?_; refine B1 h2 fun x1 h3 h2=>U 3 Z (GO Z (AO.dK h3 Z cK Z Z ?_)); refine BR h2 fun x2 h4 h2=>?_; refine GO Z (AO.call Z _ Z Z MI (MJ _ _ h4 ?_)); cases h2; exact fE 1 Z (En [17,0,1,2] Z)
 · refine IF 11 h1 h2 Z fun h2=>?_; cases h2; exact fE 6 Z (En [17,0,1,2] Z)
 refine J 0 Z (C hf Z (fun h5 hf=>?_) fun h5 hf=>?_)
 · exact M 3 Z ⟨(bE (at2 + 1)),Z,Z,Z,hf⟩
 cases hf; exact M 2 Z (Y Z h)
theorem zx (c1:UInt8) {r0:Bool} (hf:mU c1=some r0) (h:Q (.ret (.bool r0)) τ):PC 109 [.int .u8 (c1.toNat:Int)] τ Q:=by
 unfold mU at hf; refine BN 5 [.tmp 2] [0] Tryz.func109 Z Z Z Z Z ?_; cases hf; exact M 4 Z (Y Z h)
theorem vg (c1:UInt8) {r0:Bool} (hf:oQ c1=some r0) (h:Q (.ret (.bool r0)) τ):PC 138 [.int .u8 (c1.toNat:Int)] τ Q:=by
 unfold oQ at hf; refine BN 21 [.tmp 2] [0] Tryz.func138 Z Z Z Z Z (W 4 Z (An 3 5 8 [0] (decide ((c1.toNat:Int)≤122)) Z Z Z Z (U 1 Z (AR.or 7 9 16 [0] (x:=((decide (65≤(c1.toNat:Int))) && (decide ((c1.toNat:Int)≤90)))) Z Z (fun h2=>?_) (fun h2=>?_) ?_))))
 · refine Is 9 h2 Z (U 3 Z (An 3 12 15 [0,9] (decide ((c1.toNat:Int)≤90)) Z Z Z Z ?_)); exact fE 1 Z (En [16,0] Z)
 · refine Is 9 h2 Z ?_; exact fE 7 Z (En [16,0] Z)
 refine U 1 Z (On 3 17 20 [] ((c1.toNat:Int) == 95) Z Z Z Z ?_); cases hf; exact N 1 Z (Y Z h)
theorem wL (c1:UInt8) {r0:Bool} (hf:qG c1=some r0) (h:Q (.ret (.bool r0)) τ):PC 140 [.int .u8 (c1.toNat:Int)] τ Q:=by
 unfold qG at hf; refine BN 9 [.tmp 2] [0] Tryz.func140 Z Z Z Z Z (W 4 Z (An 3 5 8 [] (decide ((c1.toNat:Int)≤57)) Z Z Z Z ?_)); cases hf; exact N 1 Z (Y Z h)
theorem Ct (c1:UInt8) {r0:Bool} (hf:oP c1=some r0) (h:Q (.ret (.bool r0)) τ):PC 180 [.int .u8 (c1.toNat:Int)] τ Q:=by
 unfold oP at hf; refine BN 9 [.tmp 2] [0] Tryz.func180 Z Z Z Z Z ?_; refine B1 hf fun x1 h1 hf=>W 2 Z (CL Z (vg _ h1 ?_)); refine BR hf fun b1 h3 hf=>?_; refine U 1 Z (AR.eD 3 5 8 false [] b1 Z Z (fun h2=>?_) (fun h2=>?_) ?_)
 · refine IF 5 h2 h3 Z fun h3=>?_; refine BR h3 fun x2 h4 h3=>?_; refine U 1 Z (GO Z (AO.call Z _ Z Z N9 (wL _ h4 ?_))); cases h3; exact fE 1 Z (En [8] Z)
 · refine IT 5 h2 h3 Z fun h3=>?_; cases h3; exact fE 3 Z (En [8] Z)
 cases hf; exact N 1 Z (Y Z h)
theorem EO (iq:Str) (dB:Int) {r0:aR} {r1:Int} {r2:Int} (hf:wW iq dB=some (r0,r1,r2)) (h:Q (.ret (.tuple [.agg (rQ r0),iP r1,iP r2])) τ):PC 139 [.str iq,iP dB] τ Q:=by
 unfold wW at hf; refine BN 23 [.cell 4 146,.tmp 5,.tmp 6] [0,1] Tryz.func139 Z Z Z Z Z (W 0 Z (AS Z (AO.aL Z qU (fun b4=>?_)))); refine B1 hf fun yD h1 hf=>U 4 Z (CL Z (wK _ _ oP 180 [] NU (fun _ _ hz=>Ct _  hz) h1 (J 5 Z (C hf Z (fun h2 hf=>?_) fun h2 hf=>?_))))
 · cases hf; exact Wx 4 [0] Z Z (ZC [0] Z Z h)
 refine B1 hf fun x1 h3 hf=>W 3 Z (AS Z (AO.sG h3 Z cK Z ⟨_,Z⟩ ⟨_,Z⟩ ?_)); cases hf; exact Rx 6 [0] Z Z (ZC [0] Z Z h)
theorem Dn (iq:Str) (dB:Int) {r0:aR} {r1:Int} {r2:Int} (hf:uW iq dB=some (r0,r1,r2)) (h:Q (.ret (.tuple [.agg (rQ r0),iP r1,iP r2])) τ):PC 110 [.str iq,iP dB] τ Q:=by
 unfold uW at hf; refine BN 44 [.cell 4 146,.tmp 5,.tmp 6] [0,1] Tryz.func110 Z Z Z Z Z (W 0 Z (AS Z (AO.aL Z qU (fun b4=>?_)))); refine B1 hf fun c1 h1 hf=>U 4 Z (AS Z (AO.dK h1 Z cK Z Z ?_)); refine B1 hf fun x1 h2 hf=>U 2 Z (CL Z (vg _ h2 (J 1 Z (C hf Z (fun h3 hf=>?_) fun h3 hf=>?_))))
 · replace hf:=(JH _).trans hf; obtain ⟨x2,x3,x4,h4,hf⟩:=jr hf; refine W 2 Z (CL Z (EO _ _ h4 ?_)); cases hf; exact Rx 6 [0] Z Z (ZC [0] Z Z h)
 refine B1 hf fun x5 h5 hf=>W 1 Z (CL Z (wL _ h5 (J 1 Z (C hf Z (fun h6 hf=>?_) fun h6 hf=>?_))))
 · exact aQ hf
 refine V 3 Z (C hf Z (fun h7 hf=>?_) fun h7 hf=>?_)
 · exact aQ hf
 exact aQ hf
theorem Cu (iq:Str) {r0:List aR} {r1:Int} {r2:Int} (hf:sU iq=some (r0,r1,r2)) (h:Q (.ret (.tuple [.list (List.map aR.cells r0),iP r1,iP r2])) τ):PC 84 [.str iq] τ Q:=by
 unfold sU at hf; refine BN 84 [.tmp 2,.tmp 3,.tmp 4] [0] Tryz.func84 Z Z Z Z Z (W 0 Z (AS Z (AO.dP Z Z (U 3 Z (AS Z (AO.bV Z Z Z Z cK Z (J 1 Z (C hf Z (fun h1 hf=>?_) fun h1 hf=>?_))))))))
 · refine W 0 Z (AS Z (AO.dP Z Z ?_)); cases hf; exact N 2 Z (Y Z h)
 refine W 5 Z (AS Z (AO.Jh Z cK Z (fun P_=>(J 0 Z (AW.row 3 146 (R4 (fun bI v1 kg iB pos1=>[(0,.str iq),(5,.own v1 (List.map aR.cells bI)),(6,.fn 107 []),(7,iP kg),(8,iP iB),(18,pP P_)]) (fun bI v1 kg iB pos1=>[.row v1 (List.map aR.cells bI).length 3 146,.obj P_ (.stringIter ⟨List.toArray iq⟩ pos1)]) (fun bJ bI v1 kg iB pos1=>gu iq bJ bI kg iB pos1=some (r0,r1,r2)) BIG [] (.slice none 0 0) 0 0 0 Z Z hf (fun _ _ _ _ _ hz=>aQ hz) ?_)))))); intro bJ bI v1 kg iB pos1 hf; rw [gu] at hf; rcases Bool.eq_false_or_eq_true (decide (pos1 < iq.length)) with h2 | h2
 ·
  replace hf:=iF h2 hf; refine W 0 Z (AS Z (AO.KO (i:=1) Z Z Z h2 (J 1 Z (AW.cond Z (fun h3=>?_) (fun h3=>?_)))))
  ·
   refine B1 hf fun b1 h5 hf=>W 8 Z (AR.eD 4 26 30 false [0,5,6,7,8,9,10,18] b1 Z Z (fun h4=>?_) (fun h4=>?_) ?_)
   · refine IF 26 h4 h5 Z fun h5=>?_; refine BR h5 fun x1 h6 h5=>?_; refine U 2 Z (GO Z (AO.call Z _ Z Z Od (zy _ h6 ?_))); cases h5; exact fE 1 Z (En [30,0,5,6,7,8,9,10,18] Z)
   · refine IT 26 h4 h5 Z fun h5=>?_; cases h5; exact fE 4 Z (En [30,0,5,6,7,8,9,10,18] Z)
   refine J 0 Z (C hf Z (fun h7 hf=>?_) fun h7 hf=>?_)
   · exact M 0 Z ⟨bI,v1,kg,iB,(pos1 + (dec iq pos1).2),Z,Z,Z,hf⟩
   refine V 2 Z (C hf Z (fun h8 hf=>?_) fun h8 hf=>?_)
   · refine B1 hf fun Bq h9 hf=>W 2 Z (CL Z (wK _ _ mU 109 [] Oc (fun _ _ hz=>zx _  hz) h9 ?_)); exact N 1 Z ⟨bI,v1,Bq,iB,(pos1 + (dec iq pos1).2),Z,Z,Z,hf⟩
   refine V 2 Z (C hf Z (fun h10 hf=>?_) fun h10 hf=>?_)
   ·
    refine B1 hf fun b2 h12 hf=>W 3 Z (AR.eD 14 40 54 true [0,5,6,7,8,9,18] b2 Z Z (fun h11=>?_) (fun h11=>?_) ?_)
    ·
     replace h12:=iF h11 h12; refine Is 40 h11 Z (U 1 Z (GO Z (AO.aN (l:=bI) Z Z Z Z pY Z Z ?_))); refine BR h12 fun b3 sZ h12=>?_; refine U 2 Z (AR.eD 9 44 53 false [0,5,6,7,8,9,18,40] b3 Z Z (fun wh=>?_) (fun wh=>?_) ?_)
     · replace sZ:=gZ wh sZ; refine Is 44 wh Z (U 2 Z (GO Z (AO.aN (l:=bI) Z Z Z Z pY Z Z ?_))); refine B1 sZ fun e1 Ab sZ=>U 1 Z (GO Z (AO.bK Ab Z Z Z Z pY (aR.aO _) Z ?_)); cases sZ; exact fE 4 Z (En [53,0,5,6,7,8,9,18,40] Z)
     · refine IT 44 wh sZ Z fun sZ=>?_; cases sZ; exact fE 9 Z (En [53,0,5,6,7,8,9,18,40] Z)
     cases h12; exact fE 1 Z (En [54,0,5,6,7,8,9,18] Z)
    · refine IF 40 h11 h12 Z fun h12=>?_; cases h12; exact fE 14 Z (En [54,0,5,6,7,8,9,18] Z)
    refine J 0 Z (C hf Z (fun h16 hf=>?_) fun h16 hf=>?_)
    · refine W 3 rfl (AS rfl (AO.bD (List.map aR.cells [(aR.mk 5 ([]:Str) (pos1:Int))]) rfl El rfl rfl rfl (by first | rfl | simp only [List.map,aR.aO]) ?_)); refine B1 hf fun mO CQ hf=>AS Z (AO.fu (i:=0) (l:=bI) (m:=[(aR.mk 5 ([]:Str) (pos1:Int))]) CQ Z Z Z Z Z Z Z El pY Z Z Z (aR.cB) (aR.cells_one) (by decide) (fun v2 s1 hs1=>?_)); cases hs1; exact N 1 Z ⟨mO,v2,kg,iB,(pos1 + (dec iq pos1).2),Z,Z,Z,hf⟩
    exact M 0 Z ⟨bI,v1,kg,iB,(pos1 + (dec iq pos1).2),Z,Z,Z,hf⟩
   obtain ⟨x2,yD,e2,h18,hf⟩:=jr hf; refine W 2 Z (CL Z (Dn _ _ h18 (U 4 Z (AS Z (AO.aL Z qU (fun b11=>(Rw 5 [0] Z Z (C hf Z (fun h19 hf=>?_) fun h19 hf=>?_))))))))
   · refine W 2 Z (AS Z (AO.dP Z Z ?_)); cases hf; exact N 2 Z (Y Z h)
   refine Ww 3 [0] Z Z (C hf Z (fun h20 hf=>?_) fun h20 hf=>?_)
   · exact aQ hf
   refine Wr 2 [0] rfl rfl (AS rfl (AO.bD (List.map aR.cells [x2]) rfl El rfl rfl rfl (by first | rfl | simp only [List.map,aR.aO]) ?_)); refine B1 hf fun mM h21 hf=>AS Z (AO.fu (i:=1) (l:=bI) (m:=[x2]) h21 Z Z Z Z Z Z Z El pY Z Z Z (aR.cB) (aR.cells_one) (by decide) (fun v3 s2 hs2=>?_)); cases hs2; refine fE 3 Z (AR.drop1 ?_); exact N 0 Z ⟨mM,v3,yD,iB,(pos1 + (dec iq pos1).2),Z,Z,Z,hf⟩
  cases h3
 replace hf:=gZ h2 hf; refine W 0 Z (AS Z (AO.Jq (i:=1) Z Z Z h2 (J 1 Z (AW.cond Z (fun h22=>?_) (fun h22=>?_)))))
 · cases h22
 cases hf; exact M 4 Z (Y Z h)
theorem t_ (c1:UInt8) {r0:Bool} (hf:nX c1=some r0) (h:Q (.ret (.bool r0)) τ):PC 312 [.int .u8 (c1.toNat:Int)] τ Q:=by
 unfold nX at hf; refine BN 21 [.tmp 2] [0] Tryz.func312 Z Z Z Z Z (W 4 Z (An 3 5 8 [0] (decide ((c1.toNat:Int)≤122)) Z Z Z Z (U 1 Z (AR.or 7 9 16 [0] (x:=((decide (65≤(c1.toNat:Int))) && (decide ((c1.toNat:Int)≤90)))) Z Z (fun h2=>?_) (fun h2=>?_) ?_))))
 · refine Is 9 h2 Z (U 3 Z (An 3 12 15 [0,9] (decide ((c1.toNat:Int)≤90)) Z Z Z Z ?_)); exact fE 1 Z (En [16,0] Z)
 · refine Is 9 h2 Z ?_; exact fE 7 Z (En [16,0] Z)
 refine U 1 Z (On 3 17 20 [] ((c1.toNat:Int) == 95) Z Z Z Z ?_); cases hf; exact N 1 Z (Y Z h)
theorem Cn (c1:UInt8) {r0:Bool} (hf:sM c1=some r0) (h:Q (.ret (.bool r0)) τ):PC 313 [.int .u8 (c1.toNat:Int)] τ Q:=by
 unfold sM at hf; refine BN 9 [.tmp 2] [0] Tryz.func313 Z Z Z Z Z (W 4 Z (An 3 5 8 [] (decide ((c1.toNat:Int)≤57)) Z Z Z Z ?_)); cases hf; exact N 1 Z (Y Z h)
theorem wJ (s1:Str) {r0:Bool} (hf:qE s1=some r0) (h:Q (.ret (.bool r0)) τ):PC 271 [.str s1] τ Q:=by
 unfold qE at hf; refine BN 36 [.tmp 2] [0] Tryz.func271 Z Z Z Z Z (W 2 Z (AS Z (AO.bV Z Z Z Z cK Z (U 2 Z (AR.or 4 7 11 [0] (x:=(decide (64 < (s1.length:Int)))) Z Z (fun h1=>?_) (fun h1=>?_) ?_)))))
 · refine Is 7 h1 Z (U 1 Z (GO Z (AO.bV Z Z Z Z cK Z ?_))); exact fE 2 Z (En [11,0] Z)
 · refine Is 7 h1 Z ?_; exact fE 4 Z (En [11,0] Z)
 refine B1 hf fun b1 h3 hf=>U 1 Z (AR.eD 5 12 17 false [0] b1 Z Z (fun h2=>?_) (fun h2=>?_) ?_)
 · refine IF 12 h2 h3 Z fun h3=>?_; refine B1 h3 fun x1 h4 h3=>U 1 Z (GO Z (AO.dK h4 Z cK Z Z ?_)); refine B1 h3 fun x2 h5 h3=>GO Z (AO.call Z _ Z Z NI (t_ _ h5 ?_)); cases h3; exact fE 2 Z (En [17,0] Z)
 · refine IT 12 h2 h3 Z fun h3=>?_; cases h3; exact fE 5 Z (En [17,0] Z)
 refine J 0 Z (C hf Z (fun h6 hf=>?_) fun h6 hf=>?_)
 · cases hf; exact M 1 Z (Y Z h)
 refine V 1 Z (JM (fun i1=>[(0,.str s1),(3,iP i1)]) (fun i1=>[]) (fun bJ i1=>mI s1 bJ i1=some r0) BIG 0 Z Z hf (fun _ hz=>aQ hz) ?_); intro bJ i1 hf; rw [mI] at hf; refine W 2 Z (AS Z (AO.bV Z Z Z Z cK Z (J 1 Z (C hf Z (fun h7 hf=>?_) fun h7 hf=>?_))))
 ·
  refine B1 hf fun x3 h8 hf=>W 2 Z (AS Z (AO.dK h8 Z cK Z Z ?_)); refine B1 hf fun x4 h9 hf=>CL Z (t_ _ h9 ?_); refine B1 hf fun b2 h11 hf=>U 2 Z (AR.eD 6 29 35 true [0,3] b2 Z Z (fun h10=>?_) (fun h10=>?_) ?_)
  · refine IT 29 h10 h11 Z fun h11=>?_; refine B1 h11 fun x5 h12 h11=>U 2 Z (GO Z (AO.dK h12 Z cK Z Z ?_)); refine B1 h11 fun x6 wh h11=>GO Z (AO.call Z _ Z Z NH (Cn _ wh ?_)); cases h11; exact fE 2 Z (En [35,0,3] Z)
  · refine IF 29 h10 h11 Z fun h11=>?_; cases h11; exact fE 6 Z (En [35,0,3] Z)
  refine J 0 Z (C hf Z (fun sZ hf=>?_) fun sZ hf=>?_)
  · cases hf; exact M 1 Z (Y Z h)
  exact M 3 Z ⟨(bE (i1 + 1)),Z,Z,Z,hf⟩
 cases hf; exact M 1 Z (Y Z h)
theorem Dj (t1:aR) {r0:Bool} (hf:uR t1=some r0) (h:Q (.ret (.bool r0)) τ):PC 268 [.agg (rQ t1)] τ Q:=by
 unfold uR at hf; refine BN 23 [.tmp 2] [0] Tryz.func268 Z Z Z Z Z (V 6 Z (C hf Z (fun h1 hf=>?_) fun h1 hf=>?_))
 · refine BR hf fun x1 h2 hf=>?_; refine W 2 Z (CL Z (wJ _ h2 ?_)); cases hf; exact N 1 Z (Y Z h)
 refine V 2 Z (C hf Z (fun h3 hf=>?_) fun h3 hf=>?_)
 · exact aQ hf
 refine V 2 Z (C hf Z (fun h4 hf=>?_) fun h4 hf=>?_)
 · refine W 2 Z (AS Z (AO.bV Z Z Z Z cK Z ?_)); cases hf; exact N 2 Z (Y Z h)
 refine V 2 Z (C hf Z (fun h5 hf=>?_) fun h5 hf=>?_)
 · cases hf; exact M 1 Z (Y Z h)
 cases hf; exact M 1 Z (Y Z h)
theorem kD (p1:Nat) (gy:ah) {r0:aR} {kY:ah} (hf:iA gy=some (r0,kY)) {Q:dh→List aG→Prop} (h:Q (.ret (.agg (rQ r0))) [.box p1 (aM kY)]):PC 231 [pP p1] [.box p1 (aM gy)] Q:=by
 unfold iA at hf; refine BD 37 [.cell 2 146] [0] Tryz.func231 Z Z Z Z Z (W 0 Z (AS Z (AO.aL Z qU (fun b2=>(J 0 Z (AW.draw 23 mixed (by kernel_rfl) Z ?_)))))); refine Ev.cs bR 3 Z (Ev.cons Z Z Z (AO.bq (i:=1) Z Z Z CX Z Z zg) (Ev.cs bR 3 Z (Ev.cons Z Z Z (AO.bq (i:=1) Z Z Z Ee Z Z zg) ?_))); refine Ev.cons Z Z Z (AO.aN (l:=gy.ts) Z Z Z Z pY Z Z zg) (Ev.cs bR 2 Z ?_); refine B1 hf fun b1 h2 hf=>Ev.eD Qu 12 13 25 true [0,2] (.bool b1) Z Z (fun h1=>?_) (fun h1=>?_) ?_
 ·
  replace h2:=iF h1 h2; refine Ev.is K7 13 h1 Z (Ev.cs bR 3 Z (Ev.run Z Z Z Z Z Z Z (AO.bq (i:=1) Z Z Z Ee Z Z zg) (Ev.cs bR 3 Z ?_))); refine Ev.run Z Z Z Z Z Z Z (AO.bq (i:=1) Z Z Z CX Z Z zg) ?_; refine B1 h2 fun e1 h3 h2=>Ev.run Z Z Z Z Z Z Z (AO.bK h3 Z Z Z Z pY (aR.aO _) Z zg) (Ev.cs bR 1 Z ?_); refine BR h2 fun x1 h4 h2=>?_; refine Ev.run Z Z Z Z Z Z Z (AO.call Z _ Z Z NJ (Dj _ h4 zg)) ?_; cases h2; refine Ev.cs bR 1 Z ?_; exact Ev.nil (Less.settle (ps:=[25,0,2]) Z)
 · replace h2:=gZ h1 h2; refine Ev.is K7 13 h1 Z ?_; cases h2; refine Ev.cs bR 12 Z ?_; exact Ev.nil (Less.settle (ps:=[25,0,2]) Z)
 refine Ev.nil ?_; show AR _ _ _ _ _ _ _ _; refine J 0 Z (C hf Z (fun h5 hf=>?_) fun h5 hf=>?_)
 ·
  refine V 0 Z (AW.draw 10 mixed (by kernel_rfl) Z ?_); refine Ev.cs bR 3 Z (Ev.cons Z Z Z (AO.bq (i:=1) Z Z Z Ee Z Z zg) (Ev.cs bR 3 Z (Ev.cons Z Z Z (AO.bq (i:=1) Z Z Z CX Z Z zg) ?_))); refine B1 hf fun e2 h6 hf=>Ev.cons Z Z Z (AO.bK h6 Z Z Z Z pY (aR.aO _) Z zg) (Ev.cs bR 1 Z (Ev.nil ?_)); show AR _ _ _ _ _ _ _ _; cases hf; exact Rx 1 [0] rfl rfl ⟨rfl,_,⟨_,_,rfl,⟨_,_,0,_,_,rfl,rfl,GY,rfl⟩,rfl⟩,_,(.cons _ (.cons_cons _ (List.nil_sublist _))),h⟩
 cases hf; exact Wx 2 [0] rfl rfl ⟨rfl,_,⟨_,_,rfl,⟨_,_,0,_,_,rfl,rfl,GY,rfl⟩,rfl⟩,_,(.cons _ (.cons_cons _ (List.nil_sublist _))),h⟩
theorem xq (p1:Nat) (gy:ah) (op1:Str) {r0:Bool} {kY:ah} (hf:nI gy op1=some (r0,kY)) {Q:dh→List aG→Prop} (h:Q (.ret (.bool r0)) [.box p1 (aM kY)]):PC 233 [pP p1,.str op1] [.box p1 (aM gy)] Q:=by
 unfold nI at hf; refine BD 17 [.tmp 4] [0,1] Tryz.func233 Z Z Z Z Z ?_; obtain ⟨x1,y1,h1,hf⟩:=bL hf; refine W 2 Z (CL Z (AC.one 0 Z (kD _ _ h1 ⟨_,Z,(AS Z (AO.aL Z qU (fun b5=>(Rr 5 [0,0] Z Z (AR.and 5 11 16 [] (x:=(x1.text == op1)) Z Z (fun h2=>?_) (fun h2=>?_) ?_)))))⟩)))
 · refine Is 11 h2 Z (U 1 Z (GO Z (AO.bq (i:=0) Z Z Z Ja Z Z ?_))); exact fE 3 Z (En [16] Z)
 · refine Is 11 h2 Z ?_; exact fE 5 Z (En [16] Z)
 cases hf; exact N 1 rfl ⟨rfl,_,⟨_,_,rfl,rfl,rfl⟩,_,(.cons _ (.cons_cons _ (List.nil_sublist _))),h⟩
theorem cZ (p1:Nat) (gy:ah) (op1:Str) {r0:Bool} {kY:ah} (hf:bX gy op1=some (r0,kY)) {Q:dh→List aG→Prop} (h:Q (.ret (.bool r0)) [.box p1 (aM kY)]):PC 185 [pP p1,.str op1] [.box p1 (aM gy)] Q:=by
 unfold bX at hf; refine BD 16 [.tmp 4] [0,1] Tryz.func185 Z Z Z Z Z ?_; obtain ⟨x1,y1,h1,hf⟩:=bL hf; refine W 3 Z (CL Z (AC.one 0 Z (xq _ _ _ h1 ⟨_,Z,(J 1 Z (C hf Z (fun h2 hf=>?_) fun h2 hf=>?_))⟩)))
 · cases hf; exact M 1 rfl ⟨rfl,_,⟨_,_,rfl,rfl,rfl⟩,_,(.cons_cons _ (List.nil_sublist _)),h⟩
 cases hf; exact Wx 9 [0,0] rfl rfl ⟨rfl,_,⟨_,_,rfl,rfl,rfl⟩,_,(.cons_cons _ (List.nil_sublist _)),h⟩
@[reducible] def uz :ig ay aR→dh
 | .ok r=>.ret (.agg (rQ r))
 | .bad e=>.panic (.iface 207 (.agg (iC e)))
theorem iY (p1:Nat) (gy:ah) {rX:ig ay aR} {kY:ah} (hf:jF gy=some (rX,kY)) {Q:dh→List aG→Prop} (h:Q (uz rX) [.box p1 (aM kY)]):PC 234 [pP p1] [.box p1 (aM gy)] Q:=by
 unfold jF at hf; refine BD 24 [.cell 2 146] [0] Tryz.func234 Z Z Z Z Z (W 0 Z (AS Z (AO.aL Z qU (fun b2=>(J 0 Z (AW.draw 10 mixed (by kernel_rfl) Z ?_)))))); refine Ev.cs bR 3 Z (Ev.cons Z Z Z (AO.bq (i:=1) Z Z Z CX Z Z zg) (Ev.cs bR 3 Z (Ev.cons Z Z Z (AO.bq (i:=1) Z Z Z Ee Z Z zg) ?_))); refine Ev.cons Z Z Z (AO.aN (l:=gy.ts) Z Z Z Z pY Z Z zg) (Ev.cs bR 1 Z (Ev.nil ?_)); show AR _ _ _ _ _ _ _ _; refine J 0 Z (C hf Z (fun h1 hf=>?_) fun h1 hf=>?_)
 · exact aQ hf
 obtain ⟨x1,y1,h2,hf⟩:=bL hf; refine W 1 Z (CL Z (AC.one 1 Z (kD _ _ h2 ⟨_,Z,(AS Z (AO.aL Z qU (fun b3=>(Rw 4 [0,0] Z Z (C hf Z (fun h3 hf=>?_) fun h3 hf=>?_)))))⟩)))
 · exact aQ hf
 cases hf; exact Wx 2 [0,1] rfl rfl ⟨rfl,_,⟨_,_,rfl,⟨_,_,1,_,_,rfl,rfl,GY,rfl⟩,rfl⟩,_,(.cons _ (.cons _ (.cons_cons _ (List.nil_sublist _)))),h⟩
theorem rA (s1:Str) {r0:Bool} (hf:om s1=some r0) (h:Q (.ret (.bool r0)) τ):PC 272 [.str s1] τ Q:=by
 unfold om at hf; refine BN 13 [.tmp 2] [0] Tryz.func272 Z Z Z Z Z (W 4 Z (On 3 5 8 [0] (s1 == ([102,97,108,115,101]:Str)) Z Z Z Z (U 1 Z (On 3 9 12 [] (s1 == ([110,117,108,108]:Str)) Z Z Z Z ?_)))); cases hf; exact N 1 Z (Y Z h)
@[reducible] def uD :ig ay av→dh
 | .ok r=>.ret (.agg (dw r))
 | .bad e=>.panic (.iface 207 (.agg (iC e)))
theorem ou (p1:Nat) (gy:ah) (s1:Str) {rX:ig ay av} {kY:ah} (hf:lS gy s1=some (rX,kY)) {Q:dh→List aG→Prop} (h:Q (uD rX) [.box p1 (aM kY)]):PC 341 [pP p1,.str s1] [.box p1 (aM gy)] Q:=by
 unfold lS at hf; refine BD 26 [.cell 4 111] [0,1] Tryz.func341 Z Z Z Z Z (W 0 Z (AS Z (AO.aL Z iG (fun b4=>(J 3 Z (C hf Z (fun h1 hf=>?_) fun h1 hf=>?_))))))
 · exact aQ hf
 refine B1 hf fun x1 h2 hf=>W 1 Z (CL Z (rA _ h2 (J 1 Z (C hf Z (fun h3 hf=>?_) fun h3 hf=>?_))))
 · exact aQ hf
 obtain ⟨x2,y1,h4,hf⟩:=bL hf; refine W 1 Z (CL Z (AC.one 1 Z (cZ _ _ _ h4 ⟨_,Z,(J 1 Z (C hf Z (fun h5 hf=>?_) fun h5 hf=>?_))⟩)))
 · exact aQ hf
 cases hf; exact Wx 3 [0] rfl rfl ⟨rfl,_,⟨_,_,rfl,⟨_,_,0,_,_,rfl,rfl,jy,rfl⟩,rfl⟩,_,(.cons _ (.cons_cons _ (List.nil_sublist _))),h⟩
theorem qL (op1:Str) {r0:Int} (hf:lF op1=some r0) (h:Q (.ret (iP r0)) τ):PC 232 [.str op1] τ Q:=by
 unfold lF at hf; refine BN 22 [.tmp 2] [0] Tryz.func232 Z Z Z Z Z (V 4 Z (C hf Z (fun h1 hf=>?_) fun h1 hf=>?_))
 · cases hf; exact M 1 Z (Y Z h)
 refine V 2 Z (C hf Z (fun h2 hf=>?_) fun h2 hf=>?_)
 · cases hf; exact M 1 Z (Y Z h)
 refine V 2 Z (C hf Z (fun h3 hf=>?_) fun h3 hf=>?_)
 ·
  refine V 0 Z (AW.cond Z (fun h4=>?_) (fun h4=>?_))
  · cases hf; exact M 1 Z (Y Z h)
  cases h3.symm.trans h4
 refine V 2 Z (C hf Z (fun h5 hf=>?_) fun h5 hf=>?_)
 ·
  refine V 0 Z (AW.cond Z (fun h6=>?_) (fun h6=>?_))
  · cases hf; exact M 1 Z (Y Z h)
  cases h5.symm.trans h6
 refine V 2 Z (C hf Z (fun h7 hf=>?_) fun h7 hf=>?_)
 ·
  refine V 0 Z (AW.cond Z (fun h8=>?_) (fun h8=>?_))
  · cases hf; exact M 1 Z (Y Z h)
  cases h7.symm.trans h8
 refine V 2 Z (C hf Z (fun h9 hf=>?_) fun h9 hf=>?_)
 ·
  refine V 0 Z (AW.cond Z (fun h10=>?_) (fun h10=>?_))
  · cases hf; exact M 1 Z (Y Z h)
  cases h9.symm.trans h10
 refine V 2 Z (C hf Z (fun h11 hf=>?_) fun h11 hf=>?_)
 ·
  refine V 0 Z (AW.cond Z (fun h12=>?_) (fun h12=>?_))
  · cases hf; exact M 1 Z (Y Z h)
  cases h11.symm.trans h12
 refine V 2 Z (C hf Z (fun wh hf=>?_) fun wh hf=>?_)
 · cases hf; exact M 1 Z (Y Z h)
 refine V 2 Z (C hf Z (fun sZ hf=>?_) fun sZ hf=>?_)
 ·
  refine V 0 Z (AW.cond Z (fun Ab=>?_) (fun Ab=>?_))
  · cases hf; exact M 1 Z (Y Z h)
  cases sZ.symm.trans Ab
 refine V 2 Z (C hf Z (fun h16 hf=>?_) fun h16 hf=>?_)
 · cases hf; exact M 1 Z (Y Z h)
 refine V 2 Z (C hf Z (fun CQ hf=>?_) fun CQ hf=>?_)
 ·
  refine V 0 Z (AW.cond Z (fun h18=>?_) (fun h18=>?_))
  · cases hf; exact M 1 Z (Y Z h)
  cases CQ.symm.trans h18
 refine V 2 Z (C hf Z (fun h19 hf=>?_) fun h19 hf=>?_)
 ·
  refine V 0 Z (AW.cond Z (fun h20=>?_) (fun h20=>?_))
  · cases hf; exact M 1 Z (Y Z h)
  cases h19.symm.trans h20
 refine V 2 Z (C hf Z (fun h21 hf=>?_) fun h21 hf=>?_)
 · cases hf; exact M 1 Z (Y Z h)
 cases hf; exact M 1 Z (Y Z h)
@[reducible] def iI :ig ay av→dh
 | .ok r=>.ret (.agg (dw r))
 | .bad e=>.panic (.iface 207 (.agg (iC e)))
@[reducible] def iH :ig ay av→dh
 | .ok r=>.ret (.agg (dw r))
 | .bad e=>.panic (.iface 207 (.agg (iC e)))
@[reducible] def jO :ig ay av→dh
 | .ok r=>.ret (.agg (dw r))
 | .bad e=>.panic (.iface 207 (.agg (iC e)))
@[reducible] def jP :ig ay av→dh
 | .ok r=>.ret (.agg (dw r))
 | .bad e=>.panic (.iface 207 (.agg (iC e)))
@[reducible] def jY :ig ay av→dh
 | .ok r=>.ret (.agg (dw r))
 | .bad e=>.panic (.iface 207 (.agg (iC e)))
abbrev dJ (aD:ah→Option (ig ay av × ah)):Prop:=∀ (nV:Nat) (fq:ah) {fC:ig ay av} {gN:ah},aD fq=some (fC,gN)→∀ {Q:dh→List aG→Prop} (h:Q (iI fC) [.box nV (aM gN)]),PC 145 [pP nV] [.box nV (aM fq)] Q
abbrev dI (aC:ah→Int→Option (ig ay av × ah)):Prop:=∀ (nV:Nat) (fq:ah) (JQ:Int) {fC:ig ay av} {gN:ah},aC fq JQ=some (fC,gN)→∀ {Q:dh→List aG→Prop} (h:Q (iH fC) [.box nV (aM gN)]),PC 184 [pP nV,iP JQ] [.box nV (aM fq)] Q
abbrev eT (aH:ah→Option (ig ay av × ah)):Prop:=∀ (nV:Nat) (fq:ah) {fC:ig ay av} {gN:ah},aH fq=some (fC,gN)→∀ {Q:dh→List aG→Prop} (h:Q (jO fC) [.box nV (aM gN)]),PC 230 [pP nV] [.box nV (aM fq)] Q
abbrev eU (aI:ah→Option (ig ay av × ah)):Prop:=∀ (nV:Nat) (fq:ah) {fC:ig ay av} {gN:ah},aI fq=some (fC,gN)→∀ {Q:dh→List aG→Prop} (h:Q (jP fC) [.box nV (aM gN)]),PC 267 [pP nV] [.box nV (aM fq)] Q
abbrev fD (aP:ah→Option (ig ay av × ah)):Prop:=∀ (nV:Nat) (fq:ah) {fC:ig ay av} {gN:ah},aP fq=some (fC,gN)→∀ {Q:dh→List aG→Prop} (h:Q (jY fC) [.box nV (aM gN)]),PC 307 [pP nV] [.box nV (aM fq)] Q
theorem qz (aD) (bB:dJ aD) (aC) (bA:dI aC) (aH) (cu:eT aH) (aI) (dR:eU aI) (aP) (dZ:fD aP) (p1:Nat) (gy:ah) {rX:ig ay av} {kY:ah} (hf:iK aD aC aH aI aP gy=some (rX,kY)) {Q:dh→List aG→Prop} (h:Q (iI rX) [.box p1 (aM kY)]):PC 145 [pP p1] [.box p1 (aM gy)] Q:=by
 unfold iK at hf; refine BD 23 [.cell 2 111] [0] Tryz.func145 Z Z Z Z Z (W 0 Z (AS Z (AO.aL Z iG (fun b2=>?_)))); rcases fU hf with ⟨e1,y2,h1,hf⟩ | ⟨x1,y1,h1,hf⟩
 · refine U 1 Z (CL Z (AC.one 1 Z (bA _ _ _ h1 ⟨_,Z,?_⟩))); cases hf; exact ⟨rfl,_,(.cons _ (.cons_cons _ (List.nil_sublist _))),h⟩
 refine U 1 Z (CL Z (AC.one 1 Z (bA _ _ _ h1 ⟨_,Z,(AS Z (AO.aL Z iG (fun b3=>?_)))⟩))); obtain ⟨x2,y3,h2,hf⟩:=bL hf; refine Rr 2 [0] Z Z (CL Z (AC.one 2 Z (cZ _ _ _ h2 ⟨_,Z,(J 1 Z (C hf Z (fun h3 hf=>?_) fun h3 hf=>?_))⟩)))
 · cases hf; exact Wx 2 [0,1] rfl rfl ⟨rfl,_,⟨_,_,rfl,⟨_,_,1,_,_,rfl,rfl,jy,rfl⟩,rfl⟩,_,(.cons _ (.cons _ (.cons_cons _ (List.nil_sublist _)))),h⟩
 rcases fU hf with ⟨e2,y5,h4,hf⟩ | ⟨x3,y4,h4,hf⟩
 · refine W 1 Z (CL Z (AC.one 2 Z (bB _ _ h4 ⟨_,Z,?_⟩))); cases hf; exact ⟨rfl,_,(.cons _ (.cons _ (.cons_cons _ (List.nil_sublist _)))),h⟩
 refine W 1 Z (CL Z (AC.one 2 Z (bB _ _ h4 ⟨_,Z,(AS Z (AO.aL Z iG (fun b4=>?_)))⟩))); exact aQ hf
theorem qy (aD) (bB:dJ aD) (aC) (bA:dI aC) (aH) (cu:eT aH) (aI) (dR:eU aI) (aP) (dZ:fD aP) (p1:Nat) (gy:ah) (n1:Int) {rX:ig ay av} {kY:ah} (hf:iJ aD aC aH aI aP gy n1=some (rX,kY)) {Q:dh→List aG→Prop} (h:Q (iH rX) [.box p1 (aM kY)]):PC 184 [pP p1,iP n1] [.box p1 (aM gy)] Q:=by
 unfold iJ at hf; refine BD 47 [.cell 4 111] [0,1] Tryz.func184 Z Z Z Z Z (W 0 Z (AS Z (AO.aL Z iG (fun b4=>(J 2 Z (C hf Z (fun h1 hf=>?_) fun h1 hf=>?_))))))
 ·
  rcases fU hf with ⟨e1,y2,h2,hf⟩ | ⟨x1,y1,h2,hf⟩
  · refine W 1 Z (CL Z (AC.one 1 Z (cu _ _ h2 ⟨_,Z,?_⟩))); cases hf; exact ⟨rfl,_,(.cons _ (.cons_cons _ (List.nil_sublist _))),h⟩
  refine W 1 Z (CL Z (AC.one 1 Z (cu _ _ h2 ⟨_,Z,?_⟩))); cases hf; exact Rx 1 [0] rfl rfl ⟨rfl,_,⟨_,_,rfl,⟨_,_,0,_,_,rfl,rfl,jy,rfl⟩,rfl⟩,_,(.cons _ (.cons_cons _ (List.nil_sublist _))),h⟩
 rcases fU hf with ⟨e2,y4,h3,hf⟩ | ⟨x2,y3,h3,hf⟩
 · refine W 3 Z (CL Z (AC.one 1 Z (bA _ _ _ h3 ⟨_,Z,?_⟩))); cases hf; exact ⟨rfl,_,(.cons _ (.cons_cons _ (List.nil_sublist _))),h⟩
 refine W 3 Z (CL Z (AC.one 1 Z (bA _ _ _ h3 ⟨_,Z,(AS Z (AO.aL Z iG (fun b5=>?_)))⟩))); refine Rw 1 [0] Z Z (D5 (fun e3 y5=>[(0,pP p1),(1,iP n1),(4,pP b4),(5,pP b5)]) (fun e3 y5=>[.box b5 (dw e3),.box b4 [iP 0,.str ([]:Str),iP 0,.bool false,iP 0,.str ([]:Str),.own (.slice none 0 0) [],.own (.slice none 0 0) [],.own (.slice none 0 0) [],.own (.slice none 0 0) []],.box p1 (aM y5)]) (fun bJ e3 y5=>fO aC n1 bJ e3 y5=some (rX,kY)) BIG x2 y3 Z Z hf (fun _ _ hz=>aQ hz) ?_); intro bJ e3 y5 hf; rw [fO] at hf; obtain ⟨x3,y6,h4,hf⟩:=bL hf; refine W 1 Z (CL Z (AC.one 2 Z (kD _ _ h4 ⟨_,Z,(AS Z (AO.aL Z qU (fun b6=>?_)))⟩))); refine B1 hf fun b1 h6 hf=>Rr 5 [0,0] Z Z (AR.eD 6 20 26 false [0,1,4,5,6] b1 Z Z (fun h5=>?_) (fun h5=>?_) ?_)
 · replace h6:=gZ h5 h6; refine Is 20 h5 Z (U 1 Z (GO Z (AO.bq (i:=0) Z Z Z Ja Z Z ?_))); refine B1 h6 fun x4 h7 h6=>GO Z (AO.call Z _ Z Z NN (qL _ h7 ?_)); cases h6; exact fE 3 Z (En [26,0,1,4,5,6] Z)
 · refine IT 20 h5 h6 Z fun h6=>?_; cases h6; exact fE 6 Z (En [26,0,1,4,5,6] Z)
 refine J 0 Z (C hf Z (fun h8 hf=>?_) fun h8 hf=>?_)
 · cases hf; exact Wx 2 [1,2] rfl rfl ⟨rfl,_,⟨_,_,rfl,⟨_,_,2,_,_,rfl,rfl,jy,rfl⟩,rfl⟩,_,(.cons _ (.cons _ (.cons _ (.cons_cons _ (List.nil_sublist _))))),h⟩
 refine Ww 8 [3,3] Z Z (AW.IZ 0 6 8 3 mixed (by kernel_rfl) (by kernel_rfl) (by kernel_rfl) Z Z Z Z ?_); refine Ev.nil ?_; show Ev _ _ _ _ _ _ _; refine Ev.cs bR 1 Z (Ev.cons Z Z Z (AO.bq (i:=0) Z Z Z Ja Z Z zg) (Ev.cons Z Z Z (AO.bq (i:=1) Z Z Z jy Z Z zg) (Ev.cs bR 3 Z ?_))); refine Ev.nil ?_; rcases fU hf with ⟨e4,y8,h9,hf⟩ | ⟨x5,y7,h9,hf⟩
 · refine TF.step Z Z Z (AO.call Z _ Z Z KH (AC.one 0 Z (bA _ _ _ h9 ⟨_,Z,?_⟩))); cases hf; exact ⟨rfl,_,(.cons _ (.cons _ (.cons _ (.cons_cons _ (List.nil_sublist _))))),h⟩
 refine TF.step rfl rfl rfl (AO.call rfl _ rfl rfl KH (AC.one 0 rfl (bA _ _ _ h9 ⟨_,rfl,(TF.step rfl rfl rfl (AO.bD (av.dL [e3,x5]) rfl G6 rfl rfl rfl (by first | rfl | simp only [List.map,av.aO,av.dL]) ?_))⟩))); refine TF.nil ?_; show AR _ _ _ _ _ _ _ _
 refine Rw 4 [1] Z Z (C hf Z (fun h10 hf=>?_) fun h10 hf=>?_)
 · cases hf; exact Wx 2 [1,2] rfl rfl ⟨rfl,_,⟨_,_,rfl,⟨_,_,2,_,_,rfl,rfl,jy,rfl⟩,rfl⟩,_,(.cons _ (.cons _ (.cons _ (.cons_cons _ (List.nil_sublist _))))),h⟩
 refine AW.drop1 (AW.J5 0 Z ?_); exact M 0 Z ⟨(av.mk 7 x3.text (au.mk 0 false 0 ([]:Str) [] []) [e3,x5] []),y7,Z,Z,Z,hf⟩
theorem um (aD) (bB:dJ aD) (aC) (bA:dI aC) (aH) (cu:eT aH) (aI) (dR:eU aI) (aP) (dZ:fD aP) (p1:Nat) (gy:ah) {rX:ig ay av} {kY:ah} (hf:jQ aD aC aH aI aP gy=some (rX,kY)) {Q:dh→List aG→Prop} (h:Q (jO rX) [.box p1 (aM kY)]):PC 230 [pP p1] [.box p1 (aM gy)] Q:=by
 unfold jQ at hf; refine BD 22 [.cell 2 111] [0] Tryz.func230 Z Z Z Z Z (W 0 Z (AS Z (AO.aL Z iG (fun b2=>(U 0 Z (AS Z (AO.bD (List.map mg ([([33]:Str),([45]:Str)]:List Str)) Z M8 Z Z Z Z (AS Z (AO.aN (l:=([([33]:Str),([45]:Str)]:List Str)) Z Z Z Z iV Z Z ?_))))))))); refine J 1 Z (D5 (fun x1 y1=>[(0,pP p1),(2,pP b2),(5,sP (([([33]:Str),([45]:Str)]:List Str))),(6,iP (([([33]:Str),([45]:Str)]:List Str).length:Int)),(7,iP x1)]) (fun x1 y1=>[.box b2 [iP 0,.str ([]:Str),iP 0,.bool false,iP 0,.str ([]:Str),.own (.slice none 0 0) [],.own (.slice none 0 0) [],.own (.slice none 0 0) [],.own (.slice none 0 0) []],.box p1 (aM y1)]) (fun bJ x1 y1=>gV aH aI bJ x1 y1=some (rX,kY)) BIG 0 gy Z Z hf (fun _ _ hz=>aQ hz) ?_); intro bJ x1 y1 hf; rw [gV] at hf; refine V 1 Z (C hf Z (fun h1 hf=>?_) fun h1 hf=>?_)
 ·
  refine B1 hf fun op1 h2 hf=>W 0 Z (AS Z (AO.bK h2 Z Z Z Z iV Z Z ?_)); obtain ⟨x2,y2,h3,hf⟩:=bL hf; refine U 4 Z (CL Z (AC.one 1 Z (cZ _ _ _ h3 ⟨_,Z,(J 0 Z (C hf Z (fun h4 hf=>?_) fun h4 hf=>?_))⟩)))
  ·
   rcases fU hf with ⟨e1,y4,h5,hf⟩ | ⟨x3,y3,h5,hf⟩
   · refine W 2 Z (CL Z (AC.one 1 Z (cu _ _ h5 ⟨_,Z,?_⟩))); cases hf; exact ⟨rfl,_,(.cons _ (.cons_cons _ (List.nil_sublist _))),h⟩
   refine W 2 rfl (CL rfl (AC.one 1 rfl (cu _ _ h5 ⟨_,rfl,(AS rfl (AO.bD (av.dL [x3]) rfl G6 rfl rfl rfl (by first | rfl | simp only [List.map,av.aO,av.dL]) ?_))⟩))); cases hf; exact Rx 2 [0] rfl rfl ⟨rfl,_,⟨_,_,rfl,⟨_,_,0,_,_,rfl,rfl,jy,rfl⟩,rfl⟩,_,(.cons _ (.cons_cons _ (List.nil_sublist _))),h⟩
  exact M 2 Z ⟨(bE (x1 + 1)),y2,Z,Z,Z,hf⟩
 rcases fU hf with ⟨e2,y6,h6,hf⟩ | ⟨x4,y5,h6,hf⟩
 · refine W 1 Z (CL Z (AC.one 1 Z (dR _ _ h6 ⟨_,Z,?_⟩))); cases hf; exact ⟨rfl,_,(.cons _ (.cons_cons _ (List.nil_sublist _))),h⟩
 refine W 1 Z (CL Z (AC.one 1 Z (dR _ _ h6 ⟨_,Z,?_⟩))); cases hf; exact Rx 1 [0] rfl rfl ⟨rfl,_,⟨_,_,rfl,⟨_,_,0,_,_,rfl,rfl,jy,rfl⟩,rfl⟩,_,(.cons _ (.cons_cons _ (List.nil_sublist _))),h⟩
theorem uo (aD) (bB:dJ aD) (aC) (bA:dI aC) (aH) (cu:eT aH) (aI) (dR:eU aI) (aP) (dZ:fD aP) (p1:Nat) (gy:ah) {rX:ig ay av} {kY:ah} (hf:jR aD aC aH aI aP gy=some (rX,kY)) {Q:dh→List aG→Prop} (h:Q (jP rX) [.box p1 (aM kY)]):PC 267 [pP p1] [.box p1 (aM gy)] Q:=by
 unfold jR at hf; refine BD 47 [.cell 2 111] [0] Tryz.func267 Z Z Z Z Z (W 0 Z (AS Z (AO.aL Z iG (fun b2=>?_)))); rcases fU hf with ⟨e1,y2,h1,hf⟩ | ⟨x1,y1,h1,hf⟩
 · refine U 1 Z (CL Z (AC.one 1 Z (dZ _ _ h1 ⟨_,Z,?_⟩))); cases hf; exact ⟨rfl,_,(.cons _ (.cons_cons _ (List.nil_sublist _))),h⟩
 refine U 1 Z (CL Z (AC.one 1 Z (dZ _ _ h1 ⟨_,Z,(AS Z (AO.aL Z iG (fun b3=>?_)))⟩))); refine Rw 1 [0] Z Z (D5 (fun e2 y3=>[(0,pP p1),(2,pP b2),(3,pP b3)]) (fun e2 y3=>[.box b3 (dw e2),.box b2 [iP 0,.str ([]:Str),iP 0,.bool false,iP 0,.str ([]:Str),.own (.slice none 0 0) [],.own (.slice none 0 0) [],.own (.slice none 0 0) [],.own (.slice none 0 0) []],.box p1 (aM y3)]) (fun bJ e2 y3=>gW aD bJ e2 y3=some (rX,kY)) BIG x1 y1 Z Z hf (fun _ _ hz=>aQ hz) ?_); intro bJ e2 y3 hf; rw [gW] at hf; obtain ⟨x2,y4,h2,hf⟩:=bL hf; refine W 1 Z (CL Z (AC.one 2 Z (cZ _ _ _ h2 ⟨_,Z,(J 1 Z (C hf Z (fun h3 hf=>?_) fun h3 hf=>?_))⟩)))
 ·
  rcases fU hf with ⟨e3,y6,h4,hf⟩ | ⟨x3,y5,h4,hf⟩
  · refine W 1 Z (CL Z (AC.one 2 Z (iY _ _ h4 ⟨_,Z,?_⟩))); cases hf; exact ⟨rfl,_,(.cons _ (.cons _ (.cons_cons _ (List.nil_sublist _)))),h⟩
  refine W 1 Z (CL Z (AC.one 2 Z (iY _ _ h4 ⟨_,Z,(AS Z (AO.aL Z qU (fun b4=>?_)))⟩))); refine B1 hf fun b1 h6 hf=>Rr 5 [0,0] Z Z (AR.eD 4 17 21 false [0,2,3,4] b1 Z Z (fun h5=>?_) (fun h5=>?_) ?_)
  · replace h6:=gZ h5 h6; refine Is 17 h5 Z (U 1 Z (GO Z (AO.bq (i:=0) Z Z Z Ja Z Z ?_))); refine BR h6 fun x4 h7 h6=>?_; refine GO Z (AO.call Z _ Z Z KG (rA _ h7 ?_)); cases h6; exact fE 1 Z (En [21,0,2,3,4] Z)
  · refine IT 17 h5 h6 Z fun h6=>?_; cases h6; exact fE 4 Z (En [21,0,2,3,4] Z)
  refine J 0 Z (C hf Z (fun h8 hf=>?_) fun h8 hf=>?_)
  · exact aQ hf
  refine Wr 11 [3,3,0,1] rfl rfl (AS rfl (AO.bD (av.dL [e2]) rfl G6 rfl rfl rfl (by first | rfl | simp only [List.map,av.aO,av.dL]) ?_)); refine Rn 2 [1] Z Z (AR.drop1 (AR.J5 0 Z ?_)); exact N 0 Z ⟨(av.mk 3 x3.text (au.mk 0 false 0 ([]:Str) [] []) [e2] []),(ah.mk y5.ts (bE (y5.at_ + 1))),Z,Z,Z,hf⟩
 obtain ⟨x5,y7,h9,hf⟩:=bL hf; refine W 1 Z (CL Z (AC.one 2 Z (cZ _ _ _ h9 ⟨_,Z,(J 1 Z (C hf Z (fun h10 hf=>?_) fun h10 hf=>?_))⟩)))
 ·
  rcases fU hf with ⟨e4,y9,h11,hf⟩ | ⟨x6,y8,h11,hf⟩
  · refine W 1 Z (CL Z (AC.one 2 Z (bB _ _ h11 ⟨_,Z,?_⟩))); cases hf; exact ⟨rfl,_,(.cons _ (.cons _ (.cons_cons _ (List.nil_sublist _)))),h⟩
  refine W 1 Z (CL Z (AC.one 2 Z (bB _ _ h11 ⟨_,Z,(AS Z (AO.aL Z iG (fun b5=>?_)))⟩))); exact aQ hf
 cases hf; exact Wx 2 [0,1] rfl rfl ⟨rfl,_,⟨_,_,rfl,⟨_,_,1,_,_,rfl,rfl,jy,rfl⟩,rfl⟩,_,(.cons _ (.cons _ (.cons_cons _ (List.nil_sublist _)))),h⟩
theorem uE (aD) (bB:dJ aD) (aC) (bA:dI aC) (aH) (cu:eT aH) (aI) (dR:eU aI) (aP) (dZ:fD aP) (p1:Nat) (gy:ah) {rX:ig ay av} {kY:ah} (hf:j6 aD aC aH aI aP gy=some (rX,kY)) {Q:dh→List aG→Prop} (h:Q (jY rX) [.box p1 (aM kY)]):PC 307 [pP p1] [.box p1 (aM gy)] Q:=by
 unfold j6 at hf; refine BD 77 [.cell 2 111] [0] Tryz.func307 Z Z Z Z Z (W 0 Z (AS Z (AO.aL Z iG (fun b2=>?_)))); rcases fU hf with ⟨e1,y2,h1,hf⟩ | ⟨x1,y1,h1,hf⟩
 · refine U 1 Z (CL Z (AC.one 1 Z (iY _ _ h1 ⟨_,Z,?_⟩))); cases hf; exact ⟨rfl,_,(.cons _ (.cons_cons _ (List.nil_sublist _))),h⟩
 refine U 1 Z (CL Z (AC.one 1 Z (iY _ _ h1 ⟨_,Z,(AS Z (AO.aL Z qU (fun b3=>(Rw 5 [0,0] Z Z (C hf Z (fun h2 hf=>?_) fun h2 hf=>?_)))))⟩)))
 · exact aQ hf
 refine V 2 Z (C hf Z (fun h3 hf=>?_) fun h3 hf=>?_)
 · exact aQ hf
 refine V 2 Z (C hf Z (fun h4 hf=>?_) fun h4 hf=>?_)
 ·
  rcases fU hf with ⟨e2,y4,h5,hf⟩ | ⟨x2,y3,h5,hf⟩
  · refine Wr 11 [2,2,0] Z Z (CL Z (AC.one 2 Z (ou _ _ _ h5 ⟨_,Z,?_⟩))); cases hf; exact ⟨rfl,_,(.cons _ (.cons _ (.cons_cons _ (List.nil_sublist _)))),h⟩
  refine Wr 11 [2,2,0] Z Z (CL Z (AC.one 2 Z (ou _ _ _ h5 ⟨_,Z,?_⟩))); cases hf; exact Rx 1 [1] rfl rfl ⟨rfl,_,⟨_,_,rfl,⟨_,_,1,_,_,rfl,rfl,jy,rfl⟩,rfl⟩,_,(.cons _ (.cons _ (.cons_cons _ (List.nil_sublist _)))),h⟩
 obtain ⟨x3,y5,h6,hf⟩:=bL hf; refine W 1 Z (CL Z (AC.one 2 Z (cZ _ _ _ h6 ⟨_,Z,(J 1 Z (C hf Z (fun h7 hf=>?_) fun h7 hf=>?_))⟩)))
 ·
  rcases fU hf with ⟨e3,y7,h8,hf⟩ | ⟨x4,y6,h8,hf⟩
  · refine W 1 Z (CL Z (AC.one 2 Z (bB _ _ h8 ⟨_,Z,?_⟩))); cases hf; exact ⟨rfl,_,(.cons _ (.cons _ (.cons_cons _ (List.nil_sublist _)))),h⟩
  refine W 1 Z (CL Z (AC.one 2 Z (bB _ _ h8 ⟨_,Z,(AS Z (AO.aL Z iG (fun b6=>?_)))⟩))); exact aQ hf
 obtain ⟨x5,y8,h9,hf⟩:=bL hf; refine W 1 Z (CL Z (AC.one 2 Z (cZ _ _ _ h9 ⟨_,Z,(J 1 Z (C hf Z (fun h10 hf=>?_) fun h10 hf=>?_))⟩)))
 · exact aQ hf
 obtain ⟨x6,y9,h11,hf⟩:=bL hf; refine W 1 Z (CL Z (AC.one 2 Z (cZ _ _ _ h11 ⟨_,Z,(J 1 Z (C hf Z (fun h12 hf=>?_) fun h12 hf=>?_))⟩)))
 · exact aQ hf
 exact aQ hf
theorem eB :∀ k:Nat,(dJ (aY k))∧(dI (aX k))∧(eT (bF k))∧(eU (bG k))∧(fD (bH k)):=by
 intro k
 induction k with
 | zero=>exact ⟨fun _ _ _ _ hz=>by first | cases hz | (unfold aY at hz; cases hz),fun _ _ _ _ _ hz=>by first | cases hz | (unfold aX at hz; cases hz),fun _ _ _ _ hz=>by first | cases hz | (unfold bF at hz; cases hz),fun _ _ _ _ hz=>by first | cases hz | (unfold bG at hz; cases hz),fun _ _ _ _ hz=>by first | cases hz | (unfold bH at hz; cases hz)⟩
 | succ k ih=>exact ⟨fun nV fq fC gN hz  Q hq=>qz (aY k) ih.1 (aX k) ih.2.1 (bF k) ih.2.2.1 (bG k) ih.2.2.2.1 (bH k) ih.2.2.2.2 nV fq hz hq,fun nV fq JQ fC gN hz  Q hq=>qy (aY k) ih.1 (aX k) ih.2.1 (bF k) ih.2.2.1 (bG k) ih.2.2.2.1 (bH k) ih.2.2.2.2 nV fq JQ hz hq,fun nV fq fC gN hz  Q hq=>um (aY k) ih.1 (aX k) ih.2.1 (bF k) ih.2.2.1 (bG k) ih.2.2.2.1 (bH k) ih.2.2.2.2 nV fq hz hq,fun nV fq fC gN hz  Q hq=>uo (aY k) ih.1 (aX k) ih.2.1 (bF k) ih.2.2.1 (bG k) ih.2.2.2.1 (bH k) ih.2.2.2.2 nV fq hz hq,fun nV fq fC gN hz  Q hq=>uE (aY k) ih.1 (aX k) ih.2.1 (bF k) ih.2.2.1 (bG k) ih.2.2.2.1 (bH k) ih.2.2.2.2 nV fq hz hq⟩
theorem kS (nV:Nat) (fq:ah) {fC:ig ay av} {gN:ah} (hf:l9 fq=some (fC,gN)) {Q:dh→List aG→Prop} (h:Q (iI fC) [.box nV (aM gN)]):PC 145 [pP nV] [.box nV (aM fq)] Q:=
 ((eB BIG).1) nV fq hf h
theorem CS (nV:Nat) (fq:ah) (JQ:Int) {fC:ig ay av} {gN:ah} (hf:rM fq JQ=some (fC,gN)) {Q:dh→List aG→Prop} (h:Q (iH fC) [.box nV (aM gN)]):PC 184 [pP nV,iP JQ] [.box nV (aM fq)] Q:=
 ((eB BIG).2.1) nV fq JQ hf h
theorem E_ (nV:Nat) (fq:ah) {fC:ig ay av} {gN:ah} (hf:vX fq=some (fC,gN)) {Q:dh→List aG→Prop} (h:Q (jO fC) [.box nV (aM gN)]):PC 230 [pP nV] [.box nV (aM fq)] Q:=
 ((eB BIG).2.2.1) nV fq hf h
theorem Fa (nV:Nat) (fq:ah) {fC:ig ay av} {gN:ah} (hf:vY fq=some (fC,gN)) {Q:dh→List aG→Prop} (h:Q (jP fC) [.box nV (aM gN)]):PC 267 [pP nV] [.box nV (aM fq)] Q:=
 ((eB BIG).2.2.2.1) nV fq hf h
theorem Gq (nV:Nat) (fq:ah) {fC:ig ay av} {gN:ah} (hf:wT fq=some (fC,gN)) {Q:dh→List aG→Prop} (h:Q (jY fC) [.box nV (aM gN)]):PC 307 [pP nV] [.box nV (aM fq)] Q:=
 ((eB BIG).2.2.2.2) nV fq hf h
theorem Dk (GU:List aR) {r0:av} {r1 r2:Int} (hf:uS GU=some (r0,r1,r2)) (h:Q (.ret (.tuple [.agg (dw r0),iP r1,iP r2])) τ):PC 112 [.list (List.map aR.cells GU)] τ Q:=by
 unfold uS at hf; refine AC.none (AC.zM 17 [.cell 2 111,.cell 3 3,.cell 4 30] [0] [0,1,2] Tryz.func112 Z Z Z Z Z Tryz.func144 Z Z Z Z Z Z Z N8 (AW.sr (AR.step Z Z Z (AO.aL Z iG (fun b2=>?_))))); refine AR.step Z Z Z (AO.aL Z Qy (fun b3=>(AR.step Z Z Z (AO.aL Z J2 (fun b4=>(AR.nil [0,2,3,4] Z (AW.sr ?_))))))); refine cs 1 Z (AR.step Z Z Z (AO.build Z Nv Mh Z (AR.step Z Z Z (AO.MO Z Z (fun b8=>(cs 1 Z ?_)))))); refine AR.nil [2,3,4,5] Z (AW.sr (cs 1 Z (AR.defer (vs:=[.pointer (some ⟨b2,0,none⟩),.pointer (some ⟨b3,0,none⟩),.pointer (some ⟨b4,0,none⟩)]) Z Z Z Z Z Z ?_))); refine AR.nil [2,3,4,5] Z (AW.sr (cs 1 Z ?_)); rcases fU hf with ⟨f1,s1,h1,hf⟩ | ⟨e1,s1,h1,hf⟩
 ·
  refine AR.step Z Z Z (AO.call Z _ Z Z KJ (AC.one 0 Z (kS _ _ h1 ⟨_,Z,?_⟩))); cases hf; refine ⟨[.pointer (some ⟨b2,0,none⟩),.pointer (some ⟨b3,0,none⟩),.pointer (some ⟨b4,0,none⟩)],_,Z,Z,Z,(AR.step Z Z Z (AO.Ij Z Z Mc (cs 3 Z (AR.step Z Z Z (AO.aL Z J4 (fun b5=>?_))))))⟩; refine AR.aS Z Z (AO.bO (i:=0) Z Z Z Ko Z Z Z Z Z (cs 1 Z (AR.nil [0,1,2,3,4] Z (AW.sr ?_)))); refine cs 1 Z (AR.nil [0,1,2,3,10] Z (AW.cond Z (fun _=>?_) (fun hh=>by cases hh))); refine AW.IX 1 5 7 [_] [_,_,_,_] mixed (by kernel_rfl) (by kernel_rfl) (by kernel_rfl) Z Z Z (List.Perm.refl _) ?_; refine Ev.cons Z Z Z (AO.build Z iG Iq Z zg) (Ev.nil ?_); show Ev _ _ _ _ _ _ _; refine Ev.cs bR 1 Z (Ev.cons Z Z Z (AO.bq (i:=0) Z Z Z CX Z Z zg) (Ev.cs bR 1 Z (Ev.cons Z Z Z (AO.bq (i:=0) Z Z Z qB Z Z zg) ?_))); refine Ev.nil (TF.aS Z Z (AO.bO (i:=3) Z Z Z jy Z Z Z Z Z (TF.aS Z Z (AO.bO (i:=2) Z Z Z CX Z Z Z Z Z (TF.nil ?_))))); show AR _ _ _ _ _ _ _ _; refine AR.aS Z Z (AO.bO (i:=2) Z Z Z qB Z Z Z Z Z (AR.nil [] Z ?_)); exact ⟨rfl,_,⟨_,_,rfl,⟨_,_,4,_,_,rfl,rfl,jy,rfl⟩,⟨_,_,rfl,⟨_,_,3,_,_,rfl,rfl,CX,rfl⟩,⟨_,_,rfl,⟨_,_,2,_,_,rfl,rfl,qB,rfl⟩,rfl⟩⟩⟩,[],List.nil_sublist _,h⟩
 refine AR.step Z Z Z (AO.call Z _ Z Z KJ (AC.one 0 Z (kS _ _ h1 ⟨_,Z,?_⟩))); cases hf; refine AR.aS Z Z (AO.bO (i:=3) Z Z Z jy Z Z Z Z Z (AR.nil [2,3,4,5] Z (AW.seq (AW.IZ 1 5 6 3 mixed (by kernel_rfl) (by kernel_rfl) (by kernel_rfl) Z Z Z Z ?_)))); refine Ev.cons Z Z Z (AO.bq (i:=3) Z Z Z jy Z Z zg) (Ev.nil ?_); show Ev _ _ _ _ _ _ _; refine Ev.cs bR 3 Z (Ev.cons Z Z Z (AO.bq (i:=0) Z Z Z CX Z Z zg) (Ev.nil (TF.aS Z Z (AO.bO (i:=0) Z Z Z jy Z Z Z Z Z ?_)))); refine TF.nil ?_; show AR _ _ _ _ _ _ _ _; refine AR.aS Z Z (AO.bO (i:=2) Z Z Z CX Z Z Z Z Z (AR.aS Z Z (AO.bO (i:=1) Z Z Z qB Z Z Z Z Z (AR.nil [2,3,4] Z (AW.ret ?_))))); refine ⟨[.pointer (some ⟨b2,0,none⟩),.pointer (some ⟨b3,0,none⟩),.pointer (some ⟨b4,0,none⟩)],_,Z,Z,Z,(AR.step Z Z Z (AO.Fu (p:=.agg [iP 0,iP 0]) Z Z Me (fun _ _=>by simp only [bf]; exact ⟨[.int .i64 0,.int .i64 0],Z,aK.cons (by simp [bf]) (aK.cons (by simp [bf]) aK.nil)⟩) ?_))⟩; refine cs 3 Z (AR.step Z Z Z (AO.aL Z J4 (fun b5=>(AR.aS Z Z (AO.bO (i:=0) Z Z Z Ko Z Z Z Z Z (cs 1 Z ?_)))))); refine AR.nil [4] Z (AW.sr (cs 1 Z (AR.nil [10] Z ?_))); refine AW.cond Z (fun hh=>by cases hh) (fun _=>?_); refine AW.skip ?_; exact ⟨rfl,_,⟨_,_,rfl,⟨_,_,4,_,_,rfl,rfl,jy,rfl⟩,⟨_,_,rfl,⟨_,_,3,_,_,rfl,rfl,CX,rfl⟩,⟨_,_,rfl,⟨_,_,2,_,_,rfl,rfl,qB,rfl⟩,rfl⟩⟩⟩,[],List.nil_sublist _,h⟩
abbrev vH (dV:av→Option Int):Prop:=∀ (tQ:av) {ji:Int},dV tQ=some ji→∀ {τ:List aG} {Q:dh→List aG→Prop} (h:Q (.ret (iP ji)) τ),PC 121 [.agg (dw tQ)] τ Q
theorem AB (dV) (zi:vH dV) (e1:av) {r0:Int} (hf:pJ dV e1=some r0) (h:Q (.ret (iP r0)) τ):PC 121 [.agg (dw e1)] τ Q:=by
 unfold pJ at hf; refine BN 19 [.tmp 2] [0] Tryz.func121 Z Z Z Z Z (W 5 Z (AS Z (AO.aN (l:=e1.args) Z Z Z Z ni Z (av.bS _) (J 1 Z (D5 (fun n1 x1=>[(3,iP n1),(7,.list (av.dL e1.args)),(8,iP (e1.args.length:Int)),(9,iP x1)]) (fun n1 x1=>[]) (fun bJ n1 x1=>lG dV e1 bJ n1 x1=some r0) BIG 1 0 Z Z hf (fun _ _ hz=>aQ hz) ?_))))); intro bJ n1 x1 hf; rw [lG] at hf; refine V 1 Z (C hf Z (fun h1 hf=>?_) fun h1 hf=>?_)
 · refine B1 hf fun e2 h2 hf=>W 0 Z (AS Z (AO.bK h2 Z Z (av.bS _) Z ni (av.aO _) Z (U 1 Z (AS Z (AO.aL Z iG (fun b5=>?_)))))); refine B1 hf fun x2 h3 hf=>Rr 3 [0,0] Z Z (CL Z (zi _ h3 (fE 4 Z (AR.drop1 ?_)))); exact N 0 Z ⟨(bE (n1 + x2)),(bE (x1 + 1)),Z,Z,Z,hf⟩
 cases hf; exact M 2 Z (Y Z h)
theorem Bt :∀ k:Nat,(vH (j_ k)):=by
 intro k
 induction k with
 | zero=>exact fun _ _ hz=>by first | cases hz | (unfold j_ at hz; cases hz)
 | succ k ih=>exact fun tQ ji hz τ Q hq=>AB (j_ k) ih tQ hz hq
theorem Cr (tQ:av) {ji:Int} (hf:xU tQ=some ji) (h:Q (.ret (iP ji)) τ):PC 121 [.agg (dw tQ)] τ Q:=
 ((Bt BIG)) tQ hf h
theorem Di (v1:au) {r0:Bool} (hf:uQ v1=some r0) (h:Q (.ret (.bool r0)) τ):PC 192 [.agg (bW v1)] τ Q:=by
 unfold uQ at hf; refine BN 33 [.tmp 2] [0] Tryz.func192 Z Z Z Z Z (W 6 Z (An 4 6 10 [1] (!v1.kT) Z Z Z Z (U 1 Z (An 4 11 15 [1] (v1.oo == 0) Z Z Z Z (U 1 Z (An 4 16 20 [1] (v1.nG == ([]:Str)) Z Z Z Z ?_)))))); refine U 1 Z (AR.and 5 21 26 [1] (x:=((v1.eO.length:Int) == 0)) Z Z (fun h4=>?_) (fun h4=>?_) ?_)
 · refine Is 21 h4 Z (U 2 Z (GO Z (AO.aN (l:=v1.eO) Z Z Z Z wG Z (au.bS _) ?_))); exact fE 2 Z (En [26,1] Z)
 · refine Is 21 h4 Z ?_; exact fE 5 Z (En [26,1] Z)
 refine U 1 Z (AR.and 5 27 32 [] (x:=((v1.keys.length:Int) == 0)) Z Z (fun h5=>?_) (fun h5=>?_) ?_)
 · refine Is 27 h5 Z (U 2 Z (GO Z (AO.aN (l:=v1.keys) Z Z Z Z iV Z Z ?_))); exact fE 2 Z (En [32] Z)
 · refine Is 27 h5 Z ?_; exact fE 5 Z (En [32] Z)
 cases hf; exact N 1 Z (Y Z h)
theorem qd (s1:Str) {r0:Bool} (hf:mH s1=some r0) (h:Q (.ret (.bool r0)) τ):PC 238 [.str s1] τ Q:=by
 unfold mH at hf; refine BN 10 [.tmp 2] [0] Tryz.func238 Z Z Z Z Z ?_; refine B1 hf fun x1 h1 hf=>W 2 Z (CL Z (wJ _ h1 ?_)); refine BR hf fun b1 h3 hf=>?_; refine U 1 Z (AR.eD 4 5 9 true [] b1 Z Z (fun h2=>?_) (fun h2=>?_) ?_)
 · refine IT 5 h2 h3 Z fun h3=>?_; refine B1 h3 fun x2 h4 h3=>U 1 Z (GO Z (AO.call Z _ Z Z KG (rA _ h4 ?_))); cases h3; exact fE 2 Z (En [9] Z)
 · refine IF 5 h2 h3 Z fun h3=>?_; cases h3; exact fE 4 Z (En [9] Z)
 cases hf; exact N 1 Z (Y Z h)
theorem Ck (e1:av) {r0:Bool} (hf:sJ e1=some r0) (h:Q (.ret (.bool r0)) τ):PC 193 [.agg (dw e1)] τ Q:=by
 unfold sJ at hf; refine BN 31 [.tmp 2] [0] Tryz.func193 Z Z Z Z Z (V 6 Z (C hf Z (fun h1 hf=>?_) fun h1 hf=>?_))
 ·
  refine V 0 Z (AW.cond Z (fun h2=>?_) (fun h2=>?_))
  · refine BR hf fun x1 h3 hf=>?_; refine W 2 Z (CL Z (qd _ h3 ?_)); cases hf; exact N 1 Z (Y Z h)
  cases h1.symm.trans h2
 refine V 2 Z (C hf Z (fun h4 hf=>?_) fun h4 hf=>?_)
 ·
  refine V 0 Z (AW.cond Z (fun h5=>?_) (fun h5=>?_))
  · refine BR hf fun x2 h6 hf=>?_; refine W 2 Z (CL Z (qd _ h6 ?_)); cases hf; exact N 1 Z (Y Z h)
  cases h4.symm.trans h5
 refine V 2 Z (C hf Z (fun h7 hf=>?_) fun h7 hf=>?_)
 · refine BR hf fun x3 h8 hf=>?_; refine W 2 Z (CL Z (qd _ h8 ?_)); cases hf; exact N 1 Z (Y Z h)
 refine V 2 Z (C hf Z (fun h9 hf=>?_) fun h9 hf=>?_)
 · refine W 4 Z (On 4 17 21 [] (e1.name == ([45]:Str)) Z Z Z Z ?_); cases hf; exact N 1 Z (Y Z h)
 refine V 2 Z (C hf Z (fun h11 hf=>?_) fun h11 hf=>?_)
 · refine B1 hf fun x4 h12 hf=>W 2 Z (CL Z (qL _ h12 ?_)); cases hf; exact N 2 Z (Y Z h)
 cases hf; exact M 4 Z (Y Z h)
theorem Co (e1:av) {r0:Bool} (hf:sN e1=some r0) (h:Q (.ret (.bool r0)) τ):PC 194 [.agg (dw e1)] τ Q:=by
 unfold sN at hf; refine BN 32 [.tmp 2] [0] Tryz.func194 Z Z Z Z Z (V 6 Z (C hf Z (fun h1 hf=>?_) fun h1 hf=>?_))
 ·
  refine V 0 Z (AW.cond Z (fun h2=>?_) (fun h2=>?_))
  · refine W 2 Z (AS Z (AO.aN (l:=e1.args) Z Z Z Z ni Z (av.bS _) ?_)); cases hf; exact N 2 Z (Y Z h)
  cases h1.symm.trans h2
 refine V 2 Z (C hf Z (fun h3 hf=>?_) fun h3 hf=>?_)
 · refine W 2 Z (AS Z (AO.aN (l:=e1.args) Z Z Z Z ni Z (av.bS _) ?_)); cases hf; exact N 2 Z (Y Z h)
 refine V 2 Z (C hf Z (fun h4 hf=>?_) fun h4 hf=>?_)
 ·
  refine V 0 Z (AW.cond Z (fun h5=>?_) (fun h5=>?_))
  · refine W 2 Z (AS Z (AO.aN (l:=e1.args) Z Z Z Z ni Z (av.bS _) ?_)); cases hf; exact N 2 Z (Y Z h)
  cases h4.symm.trans h5
 refine V 2 Z (C hf Z (fun h6 hf=>?_) fun h6 hf=>?_)
 · refine W 2 Z (AS Z (AO.aN (l:=e1.args) Z Z Z Z ni Z (av.bS _) ?_)); cases hf; exact N 2 Z (Y Z h)
 refine V 2 Z (C hf Z (fun h7 hf=>?_) fun h7 hf=>?_)
 ·
  refine V 0 Z (AW.cond Z (fun h8=>?_) (fun h8=>?_))
  · refine W 2 Z (AS Z (AO.aN (l:=e1.args) Z Z Z Z ni Z (av.bS _) ?_)); cases hf; exact N 2 Z (Y Z h)
  cases h7.symm.trans h8
 refine V 2 Z (C hf Z (fun h9 hf=>?_) fun h9 hf=>?_)
 · refine W 2 Z (AS Z (AO.aN (l:=e1.args) Z Z Z Z ni Z (av.bS _) ?_)); cases hf; exact N 2 Z (Y Z h)
 refine V 2 Z (C hf Z (fun h10 hf=>?_) fun h10 hf=>?_)
 · refine W 2 Z (AS Z (AO.aN (l:=e1.args) Z Z Z Z ni Z (av.bS _) ?_)); cases hf; exact N 2 Z (Y Z h)
 cases hf; exact M 1 Z (Y Z h)
theorem lW (s1:List Str) (f1:Str→Option Bool) (EG:FuncId) (Hw:List PV) (OD:aU Tryz.prog EG=true) (OE:∀ a0 b0,f1 a0=some b0→∀ {τ:List aG} {Q:dh→List aG→Prop},Q (.ret (.bool b0)) τ→PC EG ([.str a0] ++ Hw) τ Q) {r0:Int} (hf:fM s1 f1=some r0) (h:Q (.ret (iP r0)) τ):PC 273 [sP s1,.fn EG Hw] τ Q:=by
 unfold fM at hf; refine BN 19 [.tmp 4] [0,1] Tryz.func273 Z Z Z Z Z (W 2 Z (AS Z (AO.aN (l:=s1) Z Z Z Z iV Z Z (J 1 Z (JM (fun i1=>[(0,sP s1),(1,.fn EG Hw),(7,iP (s1.length:Int)),(8,iP i1)]) (fun i1=>[]) (fun bJ i1=>dD s1 f1 bJ i1=some r0) BIG 0 Z Z hf (fun _ hz=>aQ hz) ?_))))); intro bJ i1 hf; rw [dD] at hf; refine V 1 Z (C hf Z (fun h1 hf=>?_) fun h1 hf=>?_)
 ·
  refine B1 hf fun e1 h2 hf=>W 5 Z (AS Z (AO.bK h2 Z Z Z Z iV Z Z ?_)); refine B1 hf fun x1 h3 hf=>U 1 Z (AS Z (AO.call Z _ Z Z OD (OE _ _ h3 (J 0 Z (C hf Z (fun h4 hf=>?_) fun h4 hf=>?_)))))
  · cases hf; exact M 2 Z (Y Z h)
  exact M 2 Z ⟨(bE (i1 + 1)),Z,Z,Z,hf⟩
 cases hf; exact M 1 Z (Y Z h)
theorem kP (s1:List Str) (f1:Str→Option Bool) (EG:FuncId) (Hw:List PV) (OD:aU Tryz.prog EG=true) (OE:∀ a0 b0,f1 a0=some b0→∀ {τ:List aG} {Q:dh→List aG→Prop},Q (.ret (.bool b0)) τ→PC EG ([.str a0] ++ Hw) τ Q) {r0:Bool} (hf:eX s1 f1=some r0) (h:Q (.ret (.bool r0)) τ):PC 239 [sP s1,.fn EG Hw] τ Q:=by
 unfold eX at hf; refine BN 9 [.tmp 4] [0,1] Tryz.func239 Z Z Z Z Z ?_; refine B1 hf fun x1 h1 hf=>W 3 Z (CL Z (lW _ f1 EG Hw OD @OE h1 ?_)); cases hf; exact N 2 Z (Y Z h)
theorem zw (uy:Str) {r0:Bool} (hf:mJ uy=some r0) (h:Q (.ret (.bool r0)) τ):PC 240 [.str uy] τ Q:=by
 unfold mJ at hf; refine BN 11 [.tmp 2] [0] Tryz.func240 Z Z Z Z Z (W 2 Z (AS Z (AO.bV Z Z Z Z cK Z (U 2 Z (AR.or 4 6 10 [] (x:=(decide (64 < (uy.length:Int)))) Z Z (fun h1=>?_) (fun h1=>?_) ?_)))))
 · refine Is 6 h1 Z (U 1 Z (GO Z (AO.bV Z Z Z Z cK Z ?_))); exact fE 2 Z (En [10] Z)
 · refine Is 6 h1 Z ?_; exact fE 4 Z (En [10] Z)
 cases hf; exact N 1 Z (Y Z h)
theorem Cm (e1:av) {r0:Bool} (hf:sK e1=some r0) (h:Q (.ret (.bool r0)) τ):PC 195 [.agg (dw e1)] τ Q:=by
 unfold sK at hf; refine BN 23 [.tmp 2] [0] Tryz.func195 Z Z Z Z Z (V 5 Z (C hf Z (fun h1 hf=>?_) fun h1 hf=>?_))
 · refine W 2 Z (AS Z (AO.aN (l:=e1.keys) Z Z Z Z iV Z Z ?_)); cases hf; exact N 2 Z (Y Z h)
 refine W 2 Z (AS Z (AO.aN (l:=e1.keys) Z Z Z Z iV Z Z (U 2 Z (AS Z (AO.aN (l:=e1.args) Z Z Z Z ni Z (av.bS _) ?_))))); refine BR hf fun b1 h3 hf=>?_; refine U 2 Z (AR.eD 5 17 22 true [] b1 Z Z (fun h2=>?_) (fun h2=>?_) ?_)
 · refine IT 17 h2 h3 Z fun h3=>?_; refine B1 h3 fun x1 h4 h3=>U 2 Z (GO Z (AO.call Z _ Z Z NM (kP _ mJ 240 [] NK (fun _ _ hz=>zw _  hz) h4 ?_))); cases h3; exact fE 2 Z (En [22] Z)
 · refine IF 17 h2 h3 Z fun h3=>?_; cases h3; exact fE 5 Z (En [22] Z)
 cases hf; exact N 1 Z (Y Z h)
theorem D_ {β:Type} (l:Nat) (T:β→List aG) (go:β→au→Int→Option (Bool × β))
  (RY:∀ s1 v1 bC b s2,go s1 v1 bC=some (b,s2)→∀ {Q:dh→List aG→Prop},Q (.ret (.bool b)) (T s2)→PC 156 [.agg (bW v1),iP bC,.val (.func (.yield l) #[] #[])] (T s1) Q)
  (y:β→Int→au→Option (Bool × β)) (hy:∀ s1 bC v1 b s2,y s1 bC v1=some (b,s2)→AY Tryz.prog l [iP bC,.agg (bW v1)] (T s1) (fun out σ'=>out=.ret (.bool b)∧σ'=T s2))
  (s1:β) (v1:au) (bC:Int) {b:Bool} {s2:β} (hf:sw go y s1 v1 bC=some (b,s2)) {Q:dh→List aG→Prop} (h:Q (.ret (.bool b)) (T s2)):
  PC 156 [.agg (bW v1),iP bC,.val (.func (.yield l) #[] #[])] (T s1) Q:=by
 unfold sw at hf; refine AC.gH 28 [.tmp 6] [0,1,2] Tryz.func156 Z Z Z Z Z (AW.sr (AR.step Z Z Z (AO.yO Z Z Z (cs 1 Z ?_)))); refine AR.nil [1,2,3] Z (AW.seq (AW.seq (AW.IJ ?_))); refine sj.step Z Z Z Z (AO.calc' Z (sj.step Z Z Z Z (AO.calc' Z (sj.step Z Z Z Z (AO.uV Z Z rE Z ?_))))); obtain ⟨b1,s3,h1,hf⟩:=bL hf; refine sj.yield Z Z Z Z Z _ Z Z (hy _ _ _ _ _ h1) (sj.of Z (cs 1 Z (AR.nil [1,2,3,13] Z ?_))); refine AW.cond Z (fun h2=>?_) (fun h2=>?_)
 · replace hf:=iF h2 hf; refine AW.sr (cs 1 Z (AR.nil [6] Z (AW.ret ?_))); cases hf; exact ⟨rfl,_,⟨_,_,rfl,rfl,rfl⟩,_,List.Sublist.refl _,h⟩
 replace hf:=gZ h2 hf; refine AW.skip (AW.seq (AW.sr (cs 2 Z ?_))); refine AR.step Z Z Z (AO.aN (l:=v1.eO) Z Z Z Z wG Z ((au.bS _)) (cs 1 Z (AR.nil [1,2,15,16,17] Z (AW.block ?_)))); refine AW.KS (fun (_:β) i1=>[(1,iP bC),(2,.val (.func (.yield l) #[] #[])),(15,.list (au.dL v1.eO)),(16,iP (v1.eO.length:Int)),(17,iP i1)]) (fun s1 _=>T s1) (fun bJ s1 i1=>nT go v1 bC bJ s1 i1=some (b,s2)) BIG s3 0 Z Z hf (fun _ _ hz=>aQ hz) ?_; intro bJ s4 i1 hf; rw [nT] at hf; refine AW.sr (cs 1 Z (AR.nil [1,2,15,16,17,18] Z (AW.seq ?_))); refine AW.cond Z (fun h1=>?_) (fun h1=>?_)
 ·
  replace hf:=iF h1 hf; refine AW.skip (AW.seq (AW.block (AW.sr ?_))); refine B1 hf fun x1 h3 hf=>AR.step Z Z Z (AO.bK h3 Z Z ((au.bS _)) Z wG ((au.aO _)) Z (cs 1 Z (AR.step Z Z Z (AO.aL Z pz (fun b8=>(AR.aS Z Z (AO.bO (i:=0) Z Z Z rE Z Z Z Z Z ?_))))))); refine AR.nil [1,2,8,15,16,17] Z (AW.sr (AR.step Z Z Z (AO.bq (i:=0) Z Z Z rE Z Z (cs 3 Z ?_)))); obtain ⟨b2,s5,h4,hf⟩:=bL hf; refine AR.drop1 (AR.step Z Z Z (AO.call Z _ Z Z NZ (RY _ _ _ _ _ h4 (cs 1 Z (AR.nil [1,2,15,16,17,26] Z ?_))))); refine AW.cond Z (fun h5=>?_) (fun h5=>?_)
  · replace hf:=iF h5 hf; refine AW.sr (cs 1 Z (AR.nil [6] Z (AW.ret ?_))); cases hf; exact ⟨rfl,_,⟨_,_,rfl,rfl,rfl⟩,_,List.Sublist.refl _,h⟩
  replace hf:=gZ h5 hf; refine AW.skip (AW.region (cs 2 Z (AR.nil [1,2,15,16,17] Z ?_))); exact ⟨s5,(bE (i1 + 1)),Z,Z,Z,hf⟩
 replace hf:=gZ h1 hf; refine AW.exit (AW.sr (cs 1 Z (AR.nil [6] Z ?_))); refine AW.ret ?_; cases hf; exact ⟨rfl,_,⟨_,_,rfl,rfl,rfl⟩,_,List.Sublist.refl _,h⟩
theorem xV {β:Type} (l:Nat) (T:β→List aG) (y:β→Int→au→Option (Bool × β)) (hy:∀ s1 bC v1 b s2,y s1 bC v1=some (b,s2)→AY Tryz.prog l [iP bC,.agg (bW v1)] (T s1) (fun out σ'=>out=.ret (.bool b)∧σ'=T s2)):
  ∀ (k:Nat) (s1:β) (v1:au) (bC:Int) (b:Bool) (s2:β),oM y k s1 v1 bC=some (b,s2)→∀ {Q:dh→List aG→Prop},Q (.ret (.bool b)) (T s2)→PC 156 [.agg (bW v1),iP bC,.val (.func (.yield l) #[] #[])] (T s1) Q
 | 0,_,_,_,_,_,hz=>by cases hz
 | k + 1,s1,v1,bC,b,s2,hz=>fun h=>D_ l T (oM y k) (fun s1 v1 bC b s2 hz=>xV l T y hy k s1 v1 bC b s2 hz) y hy s1 v1 bC hz h
theorem Ac {β:Type} (l:Nat) (T:β→List aG) (y:β→Int→au→Option (Bool × β)) (hy:∀ s1 bC v1 b s2,y s1 bC v1=some (b,s2)→AY Tryz.prog l [iP bC,.agg (bW v1)] (T s1) (fun out σ'=>out=.ret (.bool b)∧σ'=T s2))
    (s1:β) (v1:au) (bC:Int) {b:Bool} {s2:β} (hf:AJ y s1 v1 bC=some (b,s2)) {Q:dh→List aG→Prop} (h:Q (.ret (.tuple [])) (T s2)):
    PC 155 [.val (.func (.yield l) #[] #[]),.ref (bW v1),.ref [iP bC]] (T s1) Q:=by
 refine BD 8 [] [0,1,2] Tryz.func155 Z Z Z Z Z (W 3 Z (CL Z (xV l T y hy BIG _ _ _ _ _ hf ?_))); exact N 0 rfl ⟨rfl,_,rfl,_,List.Sublist.refl _,h⟩
theorem Df (v1:au) (bC:Int) (h:Q (.ret (.fn 155 [.ref (bW v1),.ref [iP bC]])) τ):PC 123 [.agg (bW v1),iP bC] τ Q:=by
 refine BN 6 [.tmp 4] [0,1] Tryz.func123 Z Z Z Z Z ?_; exact M 5 Z (Y Z h)
theorem Ch (v1:au) {r0:Bool} (hf:sD v1=some r0) (h:Q (.ret (.bool r0)) τ):PC 157 [.agg (bW v1)] τ Q:=by
 unfold sD at hf; refine BN 58 [.tmp 2] [0] Tryz.func157 Z Z Z Z Z (W 6 Z (On 4 6 10 [1] (!v1.kT) Z Z Z Z (U 1 Z (AR.and 9 11 20 [1] (x:=((v1.kind == 2) || (v1.oo == 0))) Z Z (fun h2=>?_) (fun h2=>?_) ?_))))
 · refine Is 11 h2 Z (U 4 Z (On 4 15 19 [1,11] (v1.oo == 0) Z Z Z Z ?_)); exact fE 1 Z (En [20,1] Z)
 · refine Is 11 h2 Z ?_; exact fE 9 Z (En [20,1] Z)
 refine U 1 Z (AR.and 9 21 30 [1] (x:=((v1.kind == 3) || (v1.nG == ([]:Str)))) Z Z (fun h4=>?_) (fun h4=>?_) ?_)
 · refine Is 21 h4 Z (U 4 Z (On 4 25 29 [1,21] (v1.nG == ([]:Str)) Z Z Z Z ?_)); exact fE 1 Z (En [30,1] Z)
 · refine Is 21 h4 Z ?_; exact fE 9 Z (En [30,1] Z)
 refine U 1 Z (AR.and 15 31 46 [1] (x:=(((v1.kind == 4) || (v1.kind == 5)) || ((v1.eO.length:Int) == 0))) Z Z (fun h6=>?_) (fun h6=>?_) ?_)
 ·
  refine Is 31 h6 Z (U 4 Z (On 4 35 39 [1,31] (v1.kind == 5) Z Z Z Z (U 1 Z (AR.or 5 40 45 [1,31] (x:=((v1.eO.length:Int) == 0)) Z Z (fun h8=>?_) (fun h8=>?_) ?_))))
  · refine Is 40 h8 Z (U 2 Z (GO Z (AO.aN (l:=v1.eO) Z Z Z Z wG Z (au.bS _) ?_))); exact fE 2 Z (En [45,1,31] Z)
  · refine Is 40 h8 Z ?_; exact fE 5 Z (En [45,1,31] Z)
  exact fE 1 Z (En [46,1] Z)
 · refine Is 31 h6 Z ?_; exact fE 15 Z (En [46,1] Z)
 refine U 1 Z (AR.and 10 47 57 [] (x:=((v1.kind == 5) || ((v1.keys.length:Int) == 0))) Z Z (fun h9=>?_) (fun h9=>?_) ?_)
 ·
  refine Is 47 h9 Z (U 4 Z (AR.or 5 51 56 [47] (x:=((v1.keys.length:Int) == 0)) Z Z (fun h10=>?_) (fun h10=>?_) ?_))
  · refine Is 51 h10 Z (U 2 Z (GO Z (AO.aN (l:=v1.keys) Z Z Z Z iV Z Z ?_))); exact fE 2 Z (En [56,47] Z)
  · refine Is 51 h10 Z ?_; exact fE 5 Z (En [56,47] Z)
  exact fE 1 Z (En [57] Z)
 · refine Is 47 h9 Z ?_; exact fE 10 Z (En [57] Z)
 cases hf; exact N 1 Z (Y Z h)
theorem Ae (a1:Str) (b1:Str) {r0:Int} (hf:rz a1 b1=some r0) (h:Q (.ret (iP r0)) τ):PC 197 [.str a1,.str b1] τ Q:=by
 unfold rz at hf; refine BN 59 [.tmp 4] [0,1] Tryz.func197 Z Z Z Z Z (V 1 Z (D5 (fun a2 b2=>[(0,.str a2),(1,.str b2)]) (fun a2 b2=>[]) (fun bJ a2 b2=>nM bJ a2 b2=some r0) BIG a1 b1 Z Z hf (fun _ _ hz=>aQ hz) ?_)); intro bJ a2 b2 hf; rw [nM] at hf; refine W 3 Z (An 3 10 13 [0,1] (!(b2 == ([]:Str))) Z Z Z Z (J 0 Z (C hf Z (fun h2 hf=>?_) fun h2 hf=>?_)))
 · exact aQ hf
 exact aQ hf
theorem Dg (v1:au) {r0:Bool} (hf:uG v1=some r0) (h:Q (.ret (.bool r0)) τ):PC 158 [.agg (bW v1)] τ Q:=by
 unfold uG at hf; refine BN 44 [.tmp 2] [0] Tryz.func158 Z Z Z Z Z (W 4 Z (AS Z (AO.aN (l:=v1.keys) Z Z Z Z iV Z Z (U 2 Z (AS Z (AO.aN (l:=v1.eO) Z Z Z Z wG Z (au.bS _) (J 1 Z (C hf Z (fun h1 hf=>?_) fun h1 hf=>?_))))))))
 · cases hf; exact M 1 Z (Y Z h)
 refine W 2 Z (AS Z (AO.aN (l:=v1.keys) Z Z Z Z iV Z Z (J 1 Z (JM (fun i1=>[(1,.ref (bW v1)),(13,sP v1.keys),(14,iP (v1.keys.length:Int)),(15,iP i1)]) (fun i1=>[]) (fun bJ i1=>mq v1 bJ i1=some r0) BIG 0 Z Z hf (fun _ hz=>aQ hz) ?_)))); intro bJ i1 hf; rw [mq] at hf; refine V 1 Z (C hf Z (fun h2 hf=>?_) fun h2 hf=>?_)
 ·
  refine B1 hf fun uy h3 hf=>W 1 Z (AS Z (AO.bK h3 Z Z Z Z iV Z Z (U 4 Z (AS Z (AO.bV Z Z Z Z cK Z (U 2 Z (AR.or 4 23 27 [1,3,4,13,14,15] (x:=(decide (64 < (uy.length:Int)))) Z Z (fun h4=>?_) (fun h4=>?_) ?_)))))))
  · refine Is 23 h4 Z (U 1 Z (GO Z (AO.bV Z Z Z Z cK Z ?_))); exact fE 2 Z (En [27,1,3,4,13,14,15] Z)
  · refine Is 23 h4 Z ?_; exact fE 4 Z (En [27,1,3,4,13,14,15] Z)
  refine B1 hf fun b1 h6 hf=>U 1 Z (AR.eD 14 28 42 false [1,13,14,15] b1 Z Z (fun h5=>?_) (fun h5=>?_) ?_)
  ·
   refine IF 28 h5 h6 Z fun h6=>?_; refine BR h6 fun b2 h8 h6=>?_; refine U 3 Z (AR.eD 10 31 41 true [1,13,14,15,28] b2 Z Z (fun h7=>?_) (fun h7=>?_) ?_)
   · refine IT 31 h7 h8 Z fun h8=>?_; refine B1 h8 fun e1 h9 h8=>U 4 Z (GO Z (AO.bK h9 Z Z Z Z iV Z Z ?_)); refine B1 h8 fun x1 h10 h8=>U 2 Z (GO Z (AO.call Z _ Z Z NP (Ae _ _ h10 ?_))); cases h8; exact fE 2 Z (En [41,1,13,14,15,28] Z)
   · refine IF 31 h7 h8 Z fun h8=>?_; cases h8; exact fE 10 Z (En [41,1,13,14,15,28] Z)
   cases h6; exact fE 1 Z (En [42,1,13,14,15] Z)
  · refine IT 28 h5 h6 Z fun h6=>?_; cases h6; exact fE 14 Z (En [42,1,13,14,15] Z)
  refine J 0 Z (C hf Z (fun h11 hf=>?_) fun h11 hf=>?_)
  · cases hf; exact M 1 Z (Y Z h)
  exact M 2 Z ⟨(bE (i1 + 1)),Z,Z,Z,hf⟩
 cases hf; exact M 1 Z (Y Z h)
theorem EM (v1:au) (bC:Int) {r0:Int} (hf:wP v1 bC=some r0) (h:Q (.ret (iP r0)) τ):PC 124 [.agg (bW v1),iP bC] τ Q:=by
 unfold wP at hf; refine BN 78 [.tmp 4] [0,1] Tryz.func124 Z Z Z Z Z (W 6 Z (On 4 9 13 [1,2] (v1.kind == 5) Z Z Z Z (J 4 Z (C hf Z (fun h2 hf=>?_) fun h2 hf=>?_))))
 · cases hf; exact M 1 Z (Y Z h)
 refine W 4 Z (On 4 21 25 [1,2,5] (decide (5 < v1.kind)) Z Z Z Z ?_); refine B1 hf fun b1 h5 hf=>U 1 Z (AR.eD 4 26 30 false [1,2,5] b1 Z Z (fun h4=>?_) (fun h4=>?_) ?_)
 · refine IF 26 h4 h5 Z fun h5=>?_; refine B1 h5 fun x1 h6 h5=>U 1 Z (GO Z (AO.call Z _ Z Z NY (Ch _ h6 ?_))); cases h5; exact fE 2 Z (En [30,1,2,5] Z)
 · refine IT 26 h4 h5 Z fun h5=>?_; cases h5; exact fE 4 Z (En [30,1,2,5] Z)
 refine J 1 Z (C hf Z (fun h7 hf=>?_) fun h7 hf=>?_)
 · cases hf; exact M 1 Z (Y Z h)
 refine W 4 Z (On 4 35 39 [1,2,5] (decide (9007199254740992 < v1.oo)) Z Z Z Z (J 1 Z (C hf Z (fun h9 hf=>?_) fun h9 hf=>?_)))
 · cases hf; exact M 1 Z (Y Z h)
 refine W 2 Z (AS Z (AO.bV Z Z Z Z cK Z (U 2 Z (AR.or 5 45 50 [1,2,5] (x:=(decide (1024 < (v1.eO.length:Int)))) Z Z (fun h10=>?_) (fun h10=>?_) ?_))))
 · refine Is 45 h10 Z (U 2 Z (GO Z (AO.aN (l:=v1.eO) Z Z Z Z wG Z (au.bS _) ?_))); exact fE 2 Z (En [50,1,2,5] Z)
 · refine Is 45 h10 Z ?_; exact fE 5 Z (En [50,1,2,5] Z)
 refine U 1 Z (AR.or 5 51 56 [1,2,5] (x:=(decide (1024 < (v1.keys.length:Int)))) Z Z (fun h11=>?_) (fun h11=>?_) ?_)
 · refine Is 51 h11 Z (U 2 Z (GO Z (AO.aN (l:=v1.keys) Z Z Z Z iV Z Z ?_))); exact fE 2 Z (En [56,1,2,5] Z)
 · refine Is 51 h11 Z ?_; exact fE 5 Z (En [56,1,2,5] Z)
 refine J 1 Z (C hf Z (fun h12 hf=>?_) fun h12 hf=>?_)
 · cases hf; exact M 1 Z (Y Z h)
 refine B1 hf fun b2 sZ hf=>W 4 Z (AR.eD 4 61 65 true [1,2,5] b2 Z Z (fun wh=>?_) (fun wh=>?_) ?_)
 · refine IT 61 wh sZ Z fun sZ=>?_; refine B1 sZ fun x2 Ab sZ=>U 1 Z (GO Z (AO.call Z _ Z Z NW (Dg _ Ab ?_))); cases sZ; exact fE 2 Z (En [65,1,2,5] Z)
 · refine IF 61 wh sZ Z fun sZ=>?_; cases sZ; exact fE 4 Z (En [65,1,2,5] Z)
 refine J 1 Z (C hf Z (fun h16 hf=>?_) fun h16 hf=>?_)
 · cases hf; exact M 1 Z (Y Z h)
 refine W 2 Z (AR.and 5 68 73 [1] (x:=((v1.eO.length:Int) == 0)) Z Z (fun CQ=>?_) (fun CQ=>?_) ?_)
 · refine Is 68 CQ Z (U 2 Z (GO Z (AO.aN (l:=v1.eO) Z Z Z Z wG Z (au.bS _) ?_))); exact fE 2 Z (En [73,1] Z)
 · refine Is 68 CQ Z ?_; exact fE 5 Z (En [73,1] Z)
 refine U 1 Z (An 3 74 77 [] (bC == 16) Z Z Z Z (J 1 Z (C hf Z (fun h19 hf=>?_) fun h19 hf=>?_)))
 · cases hf; exact M 1 Z (Y Z h)
 cases hf; exact M 1 Z (Y Z h)
theorem n_ (v1:au) {r0:Int} (hf:l6 v1=some r0) (h:Q (.ret (iP r0)) τ):PC 98 [.agg (bW v1)] τ Q:=by
 unfold l6 at hf; refine AC.none (AC.CZ 16 [.cell 2 30] [0] Tryz.func98 Z Z Z Z Z ?_); obtain ⟨b1,s1,h1,hf⟩:=bL hf; cases hf; refine AW.sr (AR.step Z Z Z (AO.yO Z Z Z (AR.step Z Z Z (AO.aL Z J2 (fun b2=>(AR.nil [1,2] Z ?_)))))); refine AW.seq (AW.sr (cs 1 Z (AR.step Z Z Z (AO.call Z _ Z Z Ob (Df _ _ ?_))))); refine AR.nil [2,7] Z (AW.block (AW.rangeFunc (β:=Option Int) (X:=Int × au) Z N7 (fun x=>[iP x.1,.agg (bW x.2)]) (fun _=>Z) (by decide) (fun s x=>nU s x.1 x.2) (fun s=>[.box b2 [iP (s.getD 0)]]) (fun s=>s.map fun _=>.ret) (s0:=none) (s1:=s1) Z Z ?_ ?_ ?_))
 ·
  intro l T' hy; refine Ac l T' nU (fun s1 bC v1 b s2 hh=>hy s1 (bC,v1) b s2 hh) none v1 1 h1 ⟨⟨_,Z⟩,Z⟩
 ·
  rintro l s ⟨bC,x1⟩ b s2 hh; unfold nU at hh; cases s with
  | some e=>cases hh
  | none=>
  refine ⟨Z,?_⟩; refine B1 hh fun e1 h2 hh=>?_; refine oh.seq (oh.region Z (cs 1 Z (AR.nil [2,3,9] Z ?_))); refine oh.region Z (AR.step Z Z Z (AO.aL Z pz (fun b4=>(AR.aS Z Z (AO.bO (i:=0) Z Z Z rE Z Z Z Z Z (AR.nil [2,3,4] Z ?_)))))); refine ⟨Z,(oh.block (oh.seq (oh.region Z ?_)))⟩; refine AR.step Z Z Z (AO.bq (i:=0) Z Z Z rE Z Z (cs 1 Z (AR.step Z Z Z (AO.call Z _ Z Z Oa (EM _ _ h2 (cs 1 Z ?_)))))); refine AR.nil [2,5] Z (oh.seq (oh.region Z (cs 2 Z ?_))); refine AR.nil [2,5,14] Z (oh.cond Z (fun h3=>?_) (fun h3=>?_))
  ·
   replace hh:=iF h3 hh; cases hh; refine oh.seq (oh.region Z (cs 1 Z (AR.aS Z Z (AO.bO (i:=1) Z Z Z qB Z Z Z Z Z ?_)))); refine AR.nil [] Z (oh.ret ?_); exact ⟨Z,.cons _ (List.Sublist.refl _),Z,Z⟩
  ·
   replace hh:=gZ h3 hh; cases hh; refine oh.skip ?_; exact ⟨Z,.cons _ (List.Sublist.refl _),Z,Z⟩
 ·
  intro D; cases s1 with
  | some e=>exact ⟨D,_,Z,Z,_,⟨_,_,Z,⟨_,_,0,_,_,Z,Z,qB,Z⟩,Z⟩,[],List.nil_sublist _,h⟩
  | none=>
   show AW _ _ _ _ _ _ _; refine AW.sr (AR.aS Z Z (AO.bO (i:=0) Z Z Z qB Z Z Z Z Z (AR.nil [2] Z (AW.ret ?_)))); exact ⟨D,[_],Z,Z,_,⟨_,_,Z,⟨_,_,0,_,_,Z,Z,qB,Z⟩,Z⟩,[],List.nil_sublist _,h⟩
theorem yH (l1:List Str) {r0:Bool} (hf:oD l1=some r0) (h:Q (.ret (.bool r0)) τ):PC 196 [sP l1] τ Q:=by
 unfold oD at hf; refine BN 22 [.tmp 2] [0] Tryz.func196 Z Z Z Z Z (W 1 Z (AS Z (AO.F3 Z (fun m6=>(U 2 Z (AS Z (AO.aN (l:=l1) Z Z Z Z iV Z Z (J 1 Z (D5 (fun x1 y1=>[(3,.val (.map (some m6))),(7,sP l1),(8,iP (l1.length:Int)),(9,iP x1)]) (fun x1 y1=>[.obj m6 (lT y1)]) (fun bJ x1 y1=>jE l1 bJ x1 y1=some r0) BIG 0 [] Z Z hf (fun _ _ hz=>aQ hz) ?_))))))))); intro bJ x1 y1 hf; rw [jE] at hf; refine V 1 Z (C hf Z (fun h1 hf=>?_) fun h1 hf=>?_)
 ·
  refine B1 hf fun s1 h2 hf=>W 0 Z (AS Z (AO.bK h2 Z Z Z Z iV Z Z (U 4 Z (AS Z (AO.Ak (i:=0) (l:=y1) Z Z Z Z yZ cK LV (U 1 Z (AR.aS Z Z (AO.Bz (i:=0) (l:=y1) Z Z Z Z Z yZ cK (U 2 Z (AS Z (AO.Ak (i:=0) (l:=(qY y1 s1 (bE ((vZ y1 s1) + 1)))) Z Z Z Z yZ cK LV ?_))))))))))); refine J 1 Z (C hf Z (fun h3 hf=>?_) fun h3 hf=>?_)
  · cases hf; exact M 1 Z (Y Z h)
  exact M 2 Z ⟨(bE (x1 + 1)),(qY y1 s1 (bE ((vZ y1 s1) + 1))),Z,Z,Z,hf⟩
 cases hf; exact M 1 Z (Y Z h)
theorem Dl (e1:av) (bC:Int) {r0:Int} (hf:uT e1 bC=some r0) (h:Q (.ret (iP r0)) τ):PC 154 [.agg (dw e1),iP bC] τ Q:=by
 unfold uT at hf; refine BN 65 [.tmp 4] [0,1] Tryz.func154 Z Z Z Z Z (V 5 Z (C hf Z (fun h1 hf=>?_) fun h1 hf=>?_))
 · cases hf; exact M 1 Z (Y Z h)
 refine W 4 Z (On 4 12 16 [2] (decide (10 < e1.kind)) Z Z Z Z ?_); refine B1 hf fun b1 h4 hf=>U 1 Z (AR.eD 10 17 27 false [2] b1 Z Z (fun h3=>?_) (fun h3=>?_) ?_)
 ·
  refine IF 17 h3 h4 Z fun h4=>?_; refine BR h4 fun b2 h6 h4=>?_; refine U 4 Z (AR.eD 5 21 26 true [2,17] b2 Z Z (fun h5=>?_) (fun h5=>?_) ?_)
  · refine IT 21 h5 h6 Z fun h6=>?_; refine B1 h6 fun x1 h7 h6=>U 2 Z (GO Z (AO.call Z _ Z Z NT (Di _ h7 ?_))); cases h6; exact fE 2 Z (En [26,2,17] Z)
  · refine IF 21 h5 h6 Z fun h6=>?_; cases h6; exact fE 5 Z (En [26,2,17] Z)
  cases h4; exact fE 1 Z (En [27,2] Z)
 · refine IT 17 h3 h4 Z fun h4=>?_; cases h4; exact fE 10 Z (En [27,2] Z)
 refine B1 hf fun b3 h9 hf=>U 1 Z (AR.eD 4 28 32 false [2] b3 Z Z (fun h8=>?_) (fun h8=>?_) ?_)
 · refine IF 28 h8 h9 Z fun h9=>?_; refine B1 h9 fun x2 h10 h9=>U 1 Z (GO Z (AO.call Z _ Z Z NS (Ck _ h10 ?_))); cases h9; exact fE 2 Z (En [32,2] Z)
 · refine IT 28 h8 h9 Z fun h9=>?_; cases h9; exact fE 4 Z (En [32,2] Z)
 refine B1 hf fun b4 h12 hf=>U 1 Z (AR.eD 4 33 37 false [2] b4 Z Z (fun h11=>?_) (fun h11=>?_) ?_)
 · refine IF 33 h11 h12 Z fun h12=>?_; refine B1 h12 fun x3 wh h12=>U 1 Z (GO Z (AO.call Z _ Z Z NR (Co _ wh ?_))); cases h12; exact fE 2 Z (En [37,2] Z)
 · refine IT 33 h11 h12 Z fun h12=>?_; cases h12; exact fE 4 Z (En [37,2] Z)
 refine B1 hf fun b5 Ab hf=>U 1 Z (AR.eD 4 38 42 false [2] b5 Z Z (fun sZ=>?_) (fun sZ=>?_) ?_)
 · refine IF 38 sZ Ab Z fun Ab=>?_; refine B1 Ab fun x4 h16 Ab=>U 1 Z (GO Z (AO.call Z _ Z Z NQ (Cm _ h16 ?_))); cases Ab; exact fE 2 Z (En [42,2] Z)
 · refine IT 38 sZ Ab Z fun Ab=>?_; cases Ab; exact fE 4 Z (En [42,2] Z)
 refine J 1 Z (C hf Z (fun CQ hf=>?_) fun CQ hf=>?_)
 · cases hf; exact M 1 Z (Y Z h)
 refine B1 hf fun b6 h19 hf=>W 4 Z (AR.eD 5 47 52 true [2] b6 Z Z (fun h18=>?_) (fun h18=>?_) ?_)
 · refine IT 47 h18 h19 Z fun h19=>?_; refine B1 h19 fun x5 h20 h19=>U 2 Z (GO Z (AO.call Z _ Z Z Pt (n_ _ h20 ?_))); cases h19; exact fE 2 Z (En [52,2] Z)
 · refine IF 47 h18 h19 Z fun h19=>?_; cases h19; exact fE 5 Z (En [52,2] Z)
 refine J 1 Z (C hf Z (fun h21 hf=>?_) fun h21 hf=>?_)
 · refine BR hf fun x6 h22 hf=>?_; refine W 2 Z (CL Z (n_ _ h22 ?_)); cases hf; exact N 1 Z (Y Z h)
 refine W 2 Z (AS Z (AO.aN (l:=e1.args) Z Z Z Z ni Z (av.bS _) (J 2 Z (C hf Z (fun h23 hf=>?_) fun h23 hf=>?_))))
 · cases hf; exact M 1 Z (Y Z h)
 refine B1 hf fun x7 Ql hf=>W 2 Z (CL Z (yH _ Ql (J 1 Z (C hf Z (fun O4 hf=>?_) fun O4 hf=>?_))))
 · cases hf; exact M 1 Z (Y Z h)
 cases hf; exact M 1 Z (Y Z h)
abbrev vG (dU:av→Int→Option Int):Prop:=∀ (tQ:av) (lu:Int) {ji:Int},dU tQ lu=some ji→∀ {τ:List aG} {Q:dh→List aG→Prop} (h:Q (.ret (iP ji)) τ),PC 122 [.agg (dw tQ),iP lu] τ Q
theorem AA (dU) (zh:vG dU) (e1:av) (bC:Int) {r0:Int} (hf:pI dU e1 bC=some r0) (h:Q (.ret (iP r0)) τ):PC 122 [.agg (dw e1),iP bC] τ Q:=by
 unfold pI at hf; refine BN 30 [.tmp 4] [0,1] Tryz.func122 Z Z Z Z Z ?_; refine B1 hf fun f1 h1 hf=>W 4 Z (CL Z (Dl _ _ h1 (J 3 Z (C hf Z (fun h2 hf=>?_) fun h2 hf=>?_))))
 · cases hf; exact M 2 Z (Y Z h)
 refine W 2 Z (AS Z (AO.aN (l:=e1.args) Z Z Z Z ni Z (av.bS _) (J 1 Z (JM (fun x1=>[(1,iP bC),(16,.list (av.dL e1.args)),(17,iP (e1.args.length:Int)),(18,iP x1)]) (fun x1=>[]) (fun bJ x1=>lD dU e1 bC bJ x1=some r0) BIG 0 Z Z hf (fun _ hz=>aQ hz) ?_)))); intro bJ x1 hf; rw [lD] at hf; refine V 1 Z (C hf Z (fun h3 hf=>?_) fun h3 hf=>?_)
 ·
  refine B1 hf fun e2 h4 hf=>W 0 Z (AS Z (AO.bK h4 Z Z (av.bS _) Z ni (av.aO _) Z (U 1 Z (AS Z (AO.aL Z iG (fun b7=>?_)))))); refine B1 hf fun f2 h5 hf=>Rr 4 [0,0] Z Z (CL Z (zh _ _ h5 (J 3 Z (C hf Z (fun h6 hf=>?_) fun h6 hf=>?_))))
  · cases hf; exact M 2 Z (Y Z h)
  refine Qx 2 Z (AR.drop1 ?_); exact N 0 Z ⟨(bE (x1 + 1)),Z,Z,Z,hf⟩
 cases hf; exact M 1 Z (Y Z h)
theorem Br :∀ k:Nat,(vG (j5 k)):=by
 intro k
 induction k with
 | zero=>exact fun _ _ _ hz=>by first | cases hz | (unfold j5 at hz; cases hz)
 | succ k ih=>exact fun tQ lu ji hz τ Q hq=>AA (j5 k) ih tQ lu hz hq
theorem Cj (tQ:av) (lu:Int) {ji:Int} (hf:xS tQ lu=some ji) (h:Q (.ret (iP ji)) τ):PC 122 [.agg (dw tQ),iP lu] τ Q:=
 ((Br BIG)) tQ lu hf h
theorem qg (e1:av) {r0:Int} (hf:mK e1=some r0) (h:Q (.ret (iP r0)) τ):PC 97 [.agg (dw e1)] τ Q:=by
 unfold mK at hf; refine BN 8 [.tmp 2] [0] Tryz.func97 Z Z Z Z Z ?_; refine B1 hf fun x1 h1 hf=>W 3 Z (CL Z (Cr _ h1 (J 1 Z (C hf Z (fun h2 hf=>?_) fun h2 hf=>?_))))
 · cases hf; exact M 1 Z (Y Z h)
 refine BR hf fun x2 h3 hf=>?_; refine W 1 Z (CL Z (Cj _ _ h3 ?_)); cases hf; exact N 1 Z (Y Z h)
theorem Dm (GU:List aR) {r0:av} {r1:Int} {r2:Int} (hf:uU GU=some (r0,r1,r2)) (h:Q (.ret (.tuple [.agg (dw r0),iP r1,iP r2])) τ):PC 85 [.list (List.map aR.cells GU)] τ Q:=by
 unfold uU at hf; refine BN 27 [.cell 2 111,.tmp 3,.tmp 4] [0] Tryz.func85 Z Z Z Z Z (W 0 Z (AS Z (AO.aL Z iG (fun b2=>?_)))); obtain ⟨x1,n1,nu,h1,hf⟩:=jr hf; refine U 3 Z (CL Z (Dk _ h1 (U 4 Z (AS Z (AO.aL Z iG (fun b5=>(Rw 5 [0] Z Z (C hf Z (fun h2 hf=>?_) fun h2 hf=>?_))))))))
 · cases hf; exact Wx 6 [1] Z Z (ZC [1] Z Z h)
 refine B1 hf fun wI h3 hf=>Wr 1 [0] Z Z (CL Z (qg _ h3 (J 3 Z (C hf Z (fun h4 hf=>?_) fun h4 hf=>?_))))
 · cases hf; exact Wx 5 [1] Z Z (ZC [1] Z Z h)
 cases hf; exact Wx 5 [0,1] Z Z (ZC [1] Z Z h)
theorem Cq (iq:Str) {r0:av} {r1:Int} {r2:Int} (hf:sO iq=some (r0,r1,r2)) (h:Q (.ret (.tuple [.agg (dw r0),iP r1,iP r2])) τ):PC 62 [.str iq] τ Q:=by
 unfold sO at hf; refine BN 46 [.cell 2 111,.tmp 3,.tmp 4] [0] Tryz.func62 Z Z Z Z Z (W 0 Z (AS Z (AO.aL Z iG (fun b2=>?_)))); obtain ⟨GU,dB,nu,h1,hf⟩:=jr hf; refine U 3 Z (CL Z (Cu _ h1 (J 9 Z (C hf Z (fun h2 hf=>?_) fun h2 hf=>?_))))
 · cases hf; exact Wx 6 [0] Z Z (ZC [0] Z Z h)
 obtain ⟨x1,n1,wI,h3,hf⟩:=jr hf; refine W 1 Z (CL Z (Dm _ h3 (U 4 Z (AS Z (AO.aL Z iG (fun b8=>(Rw 5 [0] Z Z (C hf Z (fun h4 hf=>?_) fun h4 hf=>?_))))))))
 · exact aQ hf
 refine W 2 Z (AS Z (AO.aN (l:=GU) Z Z Z Z pY Z Z (J 1 Z (C hf Z (fun h5 hf=>?_) fun h5 hf=>?_))))
 ·
  refine V 0 Z (AW.IZ 1 6 7 1 mixed (by kernel_rfl) (by kernel_rfl) (by kernel_rfl) Z Z Z Z ?_); refine Ev.cons Z Z Z (AO.build Z iG Iq Z zg) (Ev.nil ?_); show Ev _ _ _ _ _ _ _; refine Ev.cs bR 2 Z ?_; refine B1 hf fun e1 h6 hf=>Ev.cons Z Z Z (AO.bK h6 Z Z Z Z pY (aR.aO _) Z zg) (Ev.cs bR 2 Z (Ev.nil (TF.aS Z Z (AO.bO (i:=0) Z Z Z jy Z Z Z Z Z ?_)))); refine TF.nil ?_; show AR _ _ _ _ _ _ _ _; cases hf; exact N 2 Z (ZC [1] Z Z h)
 cases hf; exact Wx 4 [0,1] Z Z (ZC [1] Z Z h)
theorem nD {b:Nat} {vp v p:Value} {eH r0:List aV} {text1:Str} (hf:iO eH text1=some r0) (hroom:roomy v=true) {R:dh→List aG→Prop} (h:∀ Ro,R (.ret (.tuple [])) [.fZ b 104 [(.own Ro ((List.map aV.cells r0))),.val (.pointer none),.own (.slice none 0 0) (List.map bN [])],.row Ro ((List.map aV.cells r0)).length 12 115]):PC 63 [pP b] [.row v (List.length text1) 1 5,.fZ b 104 [(.own vp ((List.map aV.cells eH))),.val p,.own v (List.map bN text1)],.row vp ((List.map aV.cells eH)).length 12 115] R:=by
 unfold iO at hf; refine AC.gH 25 [] [0] Tryz.func63 Z Z Z Z Z (AW.seq (AW.sr (AR.step Z Z Z (AO.calc' Z ?_)))); refine AR.step Z Z Z (AO.nilCheck Z Z (AR.step Z Z Z (AO.aT Z Z rT (AR.step Z Z Z (AO.call Z _ Z Z Py (AC.frame (σ:=[_,_]) (τ:=[_]) (Lf (AR.step Z Z Z (AO.calc' Z ?_))))))))); refine AR.nil [0,6] Z (AW.cond Z (fun h1=>?_) (fun h1=>?_))
 ·
  replace hf:=iF h1 hf; refine AW.IY 4 12 [] [.row v (List.length text1) 1 5,.fZ b 104 [(.own vp ((List.map aV.cells eH))),.val p,.own v (List.map bN text1)],.row vp ((List.map aV.cells eH)).length 12 115] (fun S e s=>∃ v2:Value,e.get 0=pP b∧e.get 7=pP b∧e.get 10=pP b∧(S 4=true→e.get 11=.own vp ((List.map aV.cells eH)))∧(S 5=true→e.get 12=pP b)∧(S 6=true→e.get 13=pP b)∧(S 7=true→e.get 14=.val (.pointer (some ⟨b,1,none⟩)))∧(S 8=true→e.get 15=.str text1)∧(S 9=true→e.get 16=.agg [.str text1,.bool false,iP 0,.str ([]:Str),iP 0,.bool false,iP 0,.str ([]:Str),.own (.slice none 0 0) [],.own (.slice none 0 0) [],.own (.slice none 0 0) [],.own (.slice none 0 0) []])∧(S 10=true→e.get 17=.list ((List.map aV.cells [(aV.mk text1 false (av.mk 0 ([]:Str) (au.mk 0 false 0 ([]:Str) [] []) [] []))])))∧(S 11=true→e.get 18=.own v2 ((List.map aV.cells r0)))∧s=(bif S 8 then [] else [.row v (List.length text1) 1 5]) ++ [.fZ b 104 [(.own vp ((List.map aV.cells eH))),.val p,.own v (List.map bN text1)],bif S 11 then .row v2 ((List.map aV.cells r0)).length 12 115 else .row vp ((List.map aV.cells eH)).length 12 115]) mixed (by kernel_rfl) Z Z (List.Perm.refl _) ?_ ?_ ?_ ?_
  ·
   refine Ev.cs bR 4 Z (Ev.nil ?_); exact ⟨.nilIface,Z,Z,Z,(fun h=>by cases h),(fun h=>by cases h),(fun h=>by cases h),(fun h=>by cases h),(fun h=>by cases h),(fun h=>by cases h),(fun h=>by cases h),(fun h=>by cases h),Z⟩
  ·
   rintro S S' e s hS ⟨v2,p0,p7,Jm,q4,q5,q6,q7,q8,q9,JU,JR,qs⟩; have z:=fun i h1 h2=>(hS i h1 h2).symm; refine ⟨v2,p0,p7,Jm,?_,?_,?_,?_,?_,?_,?_,?_,?_⟩
   ·
    rw [z 4 (by decide) (by decide)]; exact q4
   ·
    rw [z 5 (by decide) (by decide)]; exact q5
   ·
    rw [z 6 (by decide) (by decide)]; exact q6
   ·
    rw [z 7 (by decide) (by decide)]; exact q7
   ·
    rw [z 8 (by decide) (by decide)]; exact q8
   ·
    rw [z 9 (by decide) (by decide)]; exact q9
   ·
    rw [z 10 (by decide) (by decide)]; exact JU
   ·
    rw [z 11 (by decide) (by decide)]; exact JR
   ·
    rw [z 8 (by decide) (by decide),z 11 (by decide) (by decide)]; exact qs
  ·
   rintro S e s i o ⟨v2,p0,p7,Jm,q4,q5,q6,q7,q8,q9,JU,JR,rfl⟩ hi1 hi2 O3 hp' ho; have hi:i=4∨i=5∨i=6∨i=7∨i=8∨i=9∨i=10∨i=11:=by omega
   rcases hi with rfl | rfl | rfl | rfl | rfl | rfl | rfl | rfl
   ·
    cases ho; refine ⟨Z,(fun t ht=>by cases ht; decide),AO.less (Less.add Jm Less.nil) ?_⟩; cases h8:S 8 with
    | false=>
     refine AO.dY (i:=1) Z Z Z Dv Z Z ?_; exact ⟨v2,p0,p7,Jm,(fun _=>Z),q5,q6,q7,(fun h=>by rw [show S 8=true from h] at h8; cases h8),q9,JU,JR,by simp [h8]⟩
    | true=>
     refine AO.dY (i:=0) Z Z Z Dv Z Z ?_; exact ⟨v2,p0,p7,Jm,(fun _=>Z),q5,q6,q7,q8,q9,JU,JR,by simp [h8]⟩
   ·
    cases ho; refine ⟨Z,(fun t ht=>by cases ht; decide),AO.less (Less.add p0 Less.nil) (AO.calc' Z ?_)⟩; exact ⟨v2,p0,p7,Jm,q4,(fun _=>Z),q6,q7,q8,q9,JU,JR,Z⟩
   ·
    cases ho; have s5:=hp' 5 (any_beq.1 Z) (by decide); refine ⟨Z,(fun t ht=>by cases ht; decide),AO.less (Less.add (q5 s5) Less.nil) (AO.nilCheck Z Z ?_)⟩; exact ⟨v2,p0,p7,Jm,q4,q5,(fun _=>Z),q7,q8,q9,JU,JR,Z⟩
   ·
    cases ho; have s6:=hp' 6 (any_beq.1 Z) (by decide); refine ⟨Z,(fun t ht=>by cases ht; decide),AO.less (Less.add (q6 s6) Less.nil) (AO.aT Z Z rT ?_)⟩; exact ⟨v2,p0,p7,Jm,q4,q5,q6,(fun _=>Z),q8,q9,JU,JR,Z⟩
   ·
    cases ho; have s7:=hp' 7 (any_beq.1 Z) (by decide); rw [O3]; refine ⟨Z,(fun t ht=>by cases ht; decide),AO.less (Less.add (q7 s7) Less.nil) ?_⟩; refine AO.call Z _ Z Z Px (AC.frame (σ:=[_,_]) (τ:=[_]) (Gw hroom ?_)); exact ⟨v2,p0,p7,Jm,q4,q5,q6,q7,(fun _=>Z),q9,JU,JR,Z⟩
   ·
    cases ho; have s8:=hp' 8 (any_beq.1 Z) (by decide); refine ⟨Z,(fun t ht=>by cases ht; decide),AO.less (Less.add (q8 s8) Less.nil) (AO.build Z GQ Ip Z ?_)⟩; exact ⟨v2,p0,p7,Jm,q4,q5,q6,q7,q8,(fun _=>Z),JU,JR,Z⟩
   ·
    cases ho; have s9:=hp' 9 (any_beq.1 Z) (by decide); refine ⟨Z,(fun t ht=>by cases ht; decide),AO.less (Less.add (q9 s9) Less.nil) (AO.bD ((List.map aV.cells [(aV.mk text1 false (av.mk 0 ([]:Str) (au.mk 0 false 0 ([]:Str) [] []) [] []))])) rfl IB rfl rfl rfl (by first | rfl | simp only [List.map,aV.aO]) ?_)⟩
    exact ⟨v2,p0,p7,Jm,q4,q5,q6,q7,q8,q9,(fun _=>Z),JR,Z⟩
   ·
    cases ho; have s4:=hp' 4 (any_beq.1 Z) (by decide); have s8:=hp' 8 (any_beq.1 Z) (by decide); have s10:=hp' 10 (any_beq.1 Z) (by decide); rw [O3,s8]; refine ⟨Z,(fun t ht=>by cases ht; decide),AO.less (Less.add (q4 s4) (Less.add (JU s10) Less.nil)) ?_⟩; refine AO.fu (i:=1) (l:=eH) (m:=[(aV.mk text1 false (av.mk 0 ([]:Str) (au.mk 0 false 0 ([]:Str) [] []) [] []))]) hf Z Z Z Z Z Z Z IB IW Z Z Z (aV.cB) (aV.cells_one) (by decide) (fun v3 s2 hs2=>?_); cases hs2; exact ⟨v3,p0,p7,Jm,q4,q5,q6,q7,q8,q9,JU,(fun _=>Z),by simp [s8]⟩
  rintro S e s hS ⟨v2,p0,p7,Jm,q4,q5,q6,q7,q8,q9,JU,JR,rfl⟩; rw [hS 8 (by decide) (by decide),hS 11 (by decide) (by decide)]; refine AR.less (Less.add p0 (Less.add p7 (Less.add (JR (hS 11 (by decide) (by decide))) Less.nil))) ?_; refine AR.step Z Z Z (AO.nilCheck Z Z (AR.step Z Z Z (AO.aT Z Z yw ?_))); refine AR.aS Z Z (AO.jA (i:=0) Z Z Z Dv Z Z Z Z Z ?_); refine AR.nil [0] Z (AW.region (AR.step Z Z Z (AO.calc' Z (AR.step Z Z Z (AO.nilCheck Z Z ?_))))); refine AR.step Z Z Z (AO.aT Z Z rT (AR.step Z Z Z (AO.call Z _ Z Z M9 (AC.frame (σ:=[_]) (τ:=[_]) (Cz (AR.nil [] Z ?_)))))); exact ⟨Z,[],Z,_,List.Sublist.refl _,h v2⟩
 ·
  obtain rfl:=Option.some.inj (gZ h1 hf); refine AW.skip (AW.drop1 (AW.region (AR.step Z Z Z (AO.calc' Z ?_)))); refine AR.step Z Z Z (AO.nilCheck Z Z (AR.step Z Z Z (AO.aT Z Z rT (AR.step Z Z Z (AO.call Z _ Z Z M9 (AC.frame (σ:=[_]) (τ:=[_]) (Cz (AR.nil [] Z ?_)))))))); exact ⟨Z,[],Z,_,List.Sublist.refl _,h vp⟩
theorem vk (s1:Str) {r0:List aV} {r1:Int} {r2:Int} (hf:oV s1=some (r0,r1,r2)) (h:Q (.ret (.tuple [.list (List.map aV.cells r0),iP r1,iP r2])) τ):PC 40 [.str s1] τ Q:=by
 unfold oV at hf; refine AC.none (AC.gH 76 [.tmp 2,.tmp 3,.tmp 4] [0] Tryz.func40 Z Z Z Z Z (AW.sr (AR.step Z Z Z (AO.dP Z Z ?_)))); refine cs 2 Z (AR.nil [0] Z (AW.seq (AW.sr ?_))); refine cs 1 Z (AR.step Z Z Z (AO.bV Z Z Z Z cK Z (cs 1 Z (AR.nil [0,14] Z ?_)))); refine AW.cond Z (fun h1=>?_) (fun h1=>?_)
 · replace hf:=iF h1 hf; refine AW.sr (AR.step Z Z Z (AO.dP Z Z (cs 2 Z (AR.nil [2,3,4] Z ?_)))); refine AW.ret ?_; cases hf; exact ⟨rfl,_,⟨_,_,rfl,rfl,_,_,rfl,rfl,_,_,rfl,rfl,rfl⟩,[],List.nil_sublist _,h⟩
 replace hf:=gZ h1 hf; refine AW.skip (AW.row 12 115 (AW.sr ?_)); refine AR.step Z Z Z (AO.H9 Z Nw (fun b=>?_)); refine AR.nil [0,5] Z (AW.row 1 5 (AW.seq (AW.sr ?_))); refine cs 1 Z (AR.nil [0,5,6] Z (AW.block (AW.settle [0,5,6] Z ?_))); refine AW.Ov (fun dB eH vp text1 vt p=>[(0,.str s1),(5,pP b),(6,iP dB)]) (fun dB eH vp text1 vt p=>[.row vt (List.length text1) 1 5,.fZ b 104 [(.own vp ((List.map aV.cells eH))),.val p,.own vt (List.map bN text1)],.row vp ((List.map aV.cells eH)).length 12 115]) (fun bJ dB eH vp text1 vt p=>iM s1 bJ dB eH text1=some (r0,r1,r2)∧(p=Value.pointer none∨p=.pointer (some ⟨b,1,none⟩))∧roomy vt=true) BIG 0 [] (.slice none 0 0) [] (.slice none 0 0) (.pointer none) Z Z ⟨hf,.inl Z,Z⟩ (fun _ _ _ _ _ _ hz=>aQ hz.1) ?_; intro bJ dB eH vp text1 vt p Q6; obtain ⟨hf,hp,hroom⟩:=Q6; rw [iM] at hf; refine AW.seq (AW.sr (cs 2 Z (AR.step Z Z Z (AO.bV Z Z Z Z cK Z ?_)))); refine cs 1 Z (AR.nil [0,5,6,18] Z (AW.cond Z (fun h2=>?_) (fun h2=>?_)))
 ·
  replace hf:=iF h2 hf; refine AW.skip (AW.block (AW.sr (cs 2 Z ?_))); refine B1 hf fun KC h3 hf=>AR.step Z Z Z (AO.sG h3 Z cK Z ⟨_,Z⟩ Z (cs 1 Z (AR.nil [0,5,6,7] Z (AW.block ?_)))); refine AW.sr (cs 1 Z ?_); refine B1 hf fun b1 h4 hf=>AR.step Z Z Z (AO.call Z _ Z Z Nb (oJ _ _ h4 (cs 1 Z (AR.nil [0,5,6,7,29] Z (AW.cond Z (fun h5=>?_) (fun h5=>?_))))))
  · replace hf:=iF h5 hf; refine B1 hf fun Kr h6 hf=>AW.sr (AR.step Z Z Z (AO.aT Z Z rT (AR.step Z Z Z (AO.call Z _ Z Z Na (AC.frame (σ:=[_,_]) (τ:=[_]) (vC hp hroom h6 (fun v2 hr2=>(AR.nil [0,5,6] Z ?_)))))))); refine AW.region (cs 3 Z (AR.nil [0,5,6] Z ?_)); exact ⟨(bE (dB + 2)),eH,vp,Kr,v2,_,Z,Z,Z,hf,.inr Z,hr2⟩
  replace hf:=gZ h5 hf; refine B1 hf fun b2 h6 hf=>AW.sr (cs 1 Z (AR.step Z Z Z (AO.call Z _ Z Z Nb (oJ _ _ h6 (cs 1 Z ?_))))); refine AR.nil [0,5,6,36] Z (AW.cond Z (fun h7=>?_) (fun h7=>?_))
  ·
   replace hf:=iF h7 hf; refine AW.sr (cs 3 Z ?_); refine B1 hf fun yD h8 hf=>AR.step Z Z Z (AO.call Z _ Z Z PE (zA _ _ h8 (cs 1 Z (AR.nil [0,5,6,8] Z (AW.seq ?_))))); refine AW.sr (cs 2 Z (AR.nil [0,5,6,8,44] Z (AW.cond Z (fun h9=>?_) (fun h9=>?_))))
   · replace hf:=iF h9 hf; refine AW.sr (cs 1 Z (AR.step Z Z Z (AO.dP Z Z (cs 2 Z ?_)))); refine AR.nil [2,3,4] Z (AW.ret ?_); cases hf; exact ⟨rfl,_,⟨_,_,rfl,rfl,_,_,rfl,rfl,_,_,rfl,rfl,rfl⟩,[],List.nil_sublist _,h⟩
   replace hf:=gZ h9 hf; refine AW.skip (AW.sr (cs 4 Z ?_)); refine B1 hf fun x1 h10 hf=>AR.step Z Z Z (AO.sG h10 Z cK Z ⟨_,Z⟩ ⟨_,Z⟩ ?_); obtain ⟨e1,n1,nu,h11,hf⟩:=jr hf; refine AR.step Z Z Z (AO.call Z _ Z Z PD (Cq _ h11 (cs 4 Z (AR.step Z Z Z (AO.aL Z iG (fun b9=>(AR.aS Z Z (AO.bO (i:=0) Z Z Z jy Z Z Z Z Z ?_)))))))); refine cs 2 Z (AR.nil [0,5,6,8,9,10,11] Z (AW.seq (AW.sr ?_))); refine cs 2 Z (AR.nil [0,5,6,8,9,10,11,57] Z (AW.cond Z (fun h12=>?_) (fun h12=>?_)))
   · replace hf:=iF h12 hf; refine AW.sr (cs 5 Z (AR.step Z Z Z (AO.dP Z Z (cs 2 Z ?_)))); refine AR.nil [2,3,4] Z (AW.ret ?_); cases hf; exact ⟨rfl,_,⟨_,_,rfl,rfl,_,_,rfl,rfl,_,_,rfl,rfl,rfl⟩,[],List.nil_sublist _,h⟩
   replace hf:=gZ h12 hf; refine B1 hf fun Et wh hf=>B1 hf fun Es sZ hf=>AW.skip (AW.sr (AR.step Z Z Z (AO.call Z _ Z Z M_ (AC.perm (Jk _ _ _ _) (AC.frame (σ:=[_,_,_]) (τ:=[_]) (nD wh hroom (fun RN=>(AR.nil [0,5,8,9] Z ?_)))))))); refine AW.row 1 5 (AW.sr (AR.step Z Z Z (AO.aT Z Z yw ?_))); refine AR.step Z Z Z (AO.dY (i:=1) Z Z Z Dv Z Z ?_); refine AR.step rfl rfl rfl (AO.bq (i:=3) rfl rfl rfl jy rfl rfl (AR.step rfl rfl rfl (AO.build rfl GQ Ip rfl (AR.step rfl rfl rfl (AO.bD ((List.map aV.cells [(aV.mk ([]:Str) true e1)])) rfl IB rfl rfl rfl (by first | rfl | simp only [List.map,aV.aO]) ?_))))); refine AR.step Z Z Z (AO.fu (i:=2) (l:=Et) (m:=[(aV.mk ([]:Str) true e1)]) sZ Z Z Z Z Z Z Z IB IW Z Z Z (aV.cB) (aV.cells_one) (by decide) (fun RL s2 hs2=>?_)); cases hs2
   refine AR.step Z Z Z (AO.aT Z Z yw ?_); refine AR.aS Z Z (AO.jA (i:=1) Z Z Z Dv Z Z Z Z Z ?_); refine AR.nil [0,5,8] Z (AW.qb 3 Z (AW.region (cs 3 Z ?_))); refine AR.nil [0,5,6] Z ?_; exact ⟨(bE (yD + 1)),Es,RL,[],.slice none 0 0,_,Z,Z,Z,hf,.inl Z,Z⟩
  replace hf:=gZ h7 hf; refine B1 hf fun c1 h8 hf=>B1 hf fun Kq h9 hf=>AW.sr (AR.step Z Z Z (AO.aT Z Z rT (cs 2 Z (AR.step Z Z Z (AO.dK h8 Z cK Z Z ?_))))); refine AR.step Z Z Z (AO.call Z _ Z Z Na (AC.frame (σ:=[_,_]) (τ:=[_]) (vC hp hroom h9 (fun v2 hr2=>(AR.nil [0,5,6] Z (AW.region (cs 3 Z ?_))))))); refine AR.nil [0,5,6] Z ?_; exact ⟨(bE (dB + 1)),eH,vp,Kq,v2,_,Z,Z,Z,hf,.inr Z,hr2⟩
 replace hf:=gZ h2 hf; refine B1 hf fun IK h3 hf=>AW.exit (AW.sr (AR.step Z Z Z (AO.call Z _ Z Z M_ (nD h3 hroom (fun RN=>(AR.nil [5] Z ?_)))))); refine AW.sr (AR.step Z Z Z (AO.aT Z Z yw ?_)); refine AR.step Z Z Z (AO.dY (i:=0) Z Z Z Dv Z Z ?_); refine cs 3 Z (AR.nil [2,3,4] Z (AW.ret ?_)); cases hf; exact ⟨rfl,_,⟨_,_,rfl,rfl,_,_,rfl,rfl,_,_,rfl,rfl,rfl⟩,[],List.nil_sublist _,h⟩
theorem qO (s1:Str) {r0:Int} (hf:lI s1=some r0) (h:Q (.ret (iP r0)) τ):PC 24 [.str s1] τ Q:=by
 unfold lI at hf; refine BN 15 [.tmp 2] [0] Tryz.func24 Z Z Z Z Z (V 3 Z (C hf Z (fun h1 hf=>?_) fun h1 hf=>?_))
 · cases hf; exact M 1 Z (Y Z h)
 obtain ⟨x1,x2,e1,h2,hf⟩:=jr hf; refine W 1 Z (CL Z (vk _ h2 ?_)); cases hf; exact N 9 Z (Y Z h)
theorem zC (c1:aZ) {r0:Int} (hf:qc c1=some r0) (h:Q (.ret (iP r0)) τ):PC 9 [.agg (nY c1)] τ Q:=by
 unfold qc at hf; refine BN 53 [.tmp 2] [0] Tryz.func9 Z Z Z Z Z ?_; refine B1 hf fun e1 h1 hf=>W 4 Z (CL Z (qO _ h1 (J 3 Z (C hf Z (fun h2 hf=>?_) fun h2 hf=>?_))))
 · cases hf; exact M 2 Z (Y Z h)
 refine W 2 Z (AS Z (AO.aN (l:=c1.restore) Z Z Z Z iV Z Z (U 2 Z (AR.or 5 20 25 [1] (x:=(decide (1024 < (c1.files.length:Int)))) Z Z (fun h3=>?_) (fun h3=>?_) ?_))))
 · refine Is 20 h3 Z (U 2 Z (GO Z (AO.aN (l:=c1.files) Z Z Z Z iV Z Z ?_))); exact fE 2 Z (En [25,1] Z)
 · refine Is 20 h3 Z ?_; exact fE 5 Z (En [25,1] Z)
 refine J 0 Z (C hf Z (fun h4 hf=>?_) fun h4 hf=>?_)
 · cases hf; exact M 1 Z (Y Z h)
 refine W 2 Z (AS Z (AO.aN (l:=c1.restore) Z Z Z Z iV Z Z (J 1 Z (JM (fun x1=>[(1,.ref (nY c1)),(27,sP c1.restore),(28,iP (c1.restore.length:Int)),(29,iP x1)]) (fun x1=>[]) (fun bJ x1=>jV c1 bJ x1=some r0) BIG 0 Z Z hf (fun _ hz=>aQ hz) ?_)))); intro bJ x1 hf; rw [jV] at hf; refine V 1 Z (C hf Z (fun h5 hf=>?_) fun h5 hf=>?_)
 ·
  refine B1 hf fun s1 h6 hf=>W 0 Z (AS Z (AO.bK h6 Z Z Z Z iV Z Z ?_)); refine B1 hf fun e2 h7 hf=>U 3 Z (CL Z (qO _ h7 (J 3 Z (C hf Z (fun h8 hf=>?_) fun h8 hf=>?_))))
  · cases hf; exact M 2 Z (Y Z h)
  exact M 2 Z ⟨(bE (x1 + 1)),Z,Z,Z,hf⟩
 refine W 2 Z (AS Z (AO.aN (l:=c1.files) Z Z Z Z iV Z Z (J 1 Z (JM (fun x2=>[(40,sP c1.files),(41,iP (c1.files.length:Int)),(42,iP x2)]) (fun x2=>[]) (fun uq x2=>nA c1 uq x2=some r0) BIG 0 Z Z hf (fun _ hz=>aQ hz) ?_)))); intro uq x2 hf; rw [nA] at hf; refine V 1 Z (C hf Z (fun h9 hf=>?_) fun h9 hf=>?_)
 · refine B1 hf fun s2 h10 hf=>W 0 Z (AS Z (AO.bK h10 Z Z Z Z iV Z Z ?_)); exact aQ hf
 cases hf; exact M 1 Z (Y Z h)
theorem kW (s1:List aJ) (f1:aJ→Option Bool) (EG:FuncId) (Hw:List PV) (OD:aU Tryz.prog EG=true) (OE:∀ a0 b0,f1 a0=some b0→∀ {τ:List aG} {Q:dh→List aG→Prop},Q (.ret (.bool b0)) τ→PC EG ([.agg (EA a0)] ++ Hw) τ Q) {r0:Int} (hf:fB s1 f1=some r0) (h:Q (.ret (iP r0)) τ):PC 73 [.list (List.map aJ.cells s1),.fn EG Hw] τ Q:=by
 unfold fB at hf; refine BN 19 [.tmp 4] [0,1] Tryz.func73 Z Z Z Z Z (W 2 Z (AS Z (AO.aN (l:=s1) Z Z Z Z yC Z Z (J 1 Z (JM (fun i1=>[(0,.list (List.map aJ.cells s1)),(1,.fn EG Hw),(7,iP (s1.length:Int)),(8,iP i1)]) (fun i1=>[]) (fun bJ i1=>dn s1 f1 bJ i1=some r0) BIG 0 Z Z hf (fun _ hz=>aQ hz) ?_))))); intro bJ i1 hf; rw [dn] at hf; refine V 1 Z (C hf Z (fun h1 hf=>?_) fun h1 hf=>?_)
 ·
  refine B1 hf fun e1 h2 hf=>W 5 Z (AS Z (AO.bK h2 Z Z Z Z yC (aJ.aO _) Z ?_)); refine B1 hf fun x1 h3 hf=>U 1 Z (AS Z (AO.call Z _ Z Z OD (OE _ _ h3 (J 0 Z (C hf Z (fun h4 hf=>?_) fun h4 hf=>?_)))))
  · cases hf; exact M 2 Z (Y Z h)
  exact M 2 Z ⟨(bE (i1 + 1)),Z,Z,Z,hf⟩
 cases hf; exact M 1 Z (Y Z h)
theorem jX (s1:List aJ) (f1:aJ→Option Bool) (EG:FuncId) (Hw:List PV) (OD:aU Tryz.prog EG=true) (OE:∀ a0 b0,f1 a0=some b0→∀ {τ:List aG} {Q:dh→List aG→Prop},Q (.ret (.bool b0)) τ→PC EG ([.agg (EA a0)] ++ Hw) τ Q) {r0:Bool} (hf:dX s1 f1=some r0) (h:Q (.ret (.bool r0)) τ):PC 53 [.list (List.map aJ.cells s1),.fn EG Hw] τ Q:=by
 unfold dX at hf; refine BN 9 [.tmp 4] [0,1] Tryz.func53 Z Z Z Z Z ?_; refine B1 hf fun x1 h1 hf=>W 3 Z (CL Z (kW _ f1 EG Hw OD @OE h1 ?_)); cases hf; exact N 2 Z (Y Z h)
theorem rC (x1:aJ) {r0:Bool} (hf:gY x1=some r0) (h:Q (.ret (.bool r0)) τ):PC 54 [.agg (EA x1)] τ Q:=by
 unfold gY at hf; refine BN 6 [.tmp 2] [0] Tryz.func54 Z Z Z Z Z ?_; cases hf; exact M 6 Z (Y Z h)
theorem wM (d1:BitVec 64) {r0:Str} (hf:qK d1=some r0) (h:Q (.ret (.str r0)) τ):PC 22 [.int .u64 (d1.toNat:Int)] τ Q:=by
 unfold qK at hf; refine BN 20 [.tmp 2] [0] Tryz.func22 Z Z Z Z Z (W 1 Z (AS Z (AO.aL Z Pe (fun b3=>?_)))); refine J 1 Z (D5 (fun i1 b1=>[(0,.int .u64 (d1.toNat:Int)),(3,pP b3),(5,iP i1)]) (fun i1 b1=>[.box b3 [.int .u8 ((b1.getD 0 0).toNat:Int),.int .u8 ((b1.getD 1 0).toNat:Int),.int .u8 ((b1.getD 2 0).toNat:Int),.int .u8 ((b1.getD 3 0).toNat:Int),.int .u8 ((b1.getD 4 0).toNat:Int),.int .u8 ((b1.getD 5 0).toNat:Int),.int .u8 ((b1.getD 6 0).toNat:Int),.int .u8 ((b1.getD 7 0).toNat:Int),.int .u8 ((b1.getD 8 0).toNat:Int),.int .u8 ((b1.getD 9 0).toNat:Int),.int .u8 ((b1.getD 10 0).toNat:Int),.int .u8 ((b1.getD 11 0).toNat:Int),.int .u8 ((b1.getD 12 0).toNat:Int),.int .u8 ((b1.getD 13 0).toNat:Int),.int .u8 ((b1.getD 14 0).toNat:Int),.int .u8 ((b1.getD 15 0).toNat:Int)]]) (fun bJ i1 b1=>nk d1 bJ i1 b1=some r0) BIG 0 ([0,0,0,0,0,0,0,0,0,0,0,0,0,0,0,0]:List UInt8) Z Z hf (fun _ _ hz=>aQ hz) ?_); intro bJ i1 b1 hf; rw [nk] at hf; refine V 1 Z (C hf Z (fun h1 hf=>?_) fun h1 hf=>?_)
 ·
  refine B1 hf fun _ h2 hf=>W 7 Z (AS Z (AO.xD d1 (Int.toNat (bE (60 - (bE (4 * i1))))) Z Z Z Z (by have:=Ce h2; simp only [decide_eq_true_eq] at this; exact (Int.toNat_of_nonneg this).symm) ?_)); refine B1 hf fun x1 h3 hf=>AS Z (AO.Fj (d1 >>> (Int.toNat (bE (60 - (bE (4 * i1)))))) (15:BitVec 64) h3 Z Z Z Z Z ?_); refine B1 hf fun x2 h4 hf=>AS Z (AO.dK h4 Z cK Z Z ?_); refine B1 hf fun e1 h5 hf=>AS Z (AO.BL h5 Z Nu Z Z Z ?_); refine B1 hf fun b2 h6 hf=>AR.aS Z Z (AO.wR (i:=0) (fun z:UInt8=>.int .u8 (z.toNat:Int)) 0 h5 h6 Z Z Z QA Z Z Z Z Z Z ?_); exact N 2 Z ⟨(bE (i1 + 1)),([(b2.getD 0 0),(b2.getD 1 0),(b2.getD 2 0),(b2.getD 3 0),(b2.getD 4 0),(b2.getD 5 0),(b2.getD 6 0),(b2.getD 7 0),(b2.getD 8 0),(b2.getD 9 0),(b2.getD 10 0),(b2.getD 11 0),(b2.getD 12 0),(b2.getD 13 0),(b2.getD 14 0),(b2.getD 15 0)]:List UInt8),Z,Z,Z,hf⟩
 refine W 0 Z (AS Z (AO.Je Z Nu Z (AS Z (AO.Dq (i:=0) (s:=([(b1.getD 0 0),(b1.getD 1 0),(b1.getD 2 0),(b1.getD 3 0),(b1.getD 4 0),(b1.getD 5 0),(b1.getD 6 0),(b1.getD 7 0),(b1.getD 8 0),(b1.getD 9 0),(b1.getD 10 0),(b1.getD 11 0),(b1.getD 12 0),(b1.getD 13 0),(b1.getD 14 0),(b1.getD 15 0)]:List UInt8)) Z Ii xC cK Z Z Z Z ?_)))); cases hf; exact N 1 Z (Y Z h)
theorem yF (s1:List aJ) {r0:List aJ} (hf:bP s1=some r0) (h:Q (.ret (.list (List.map aJ.cells r0))) τ):PC 55 [.list (List.map aJ.cells s1)] τ Q:=by
 unfold bP at hf; refine BN 8 [.tmp 2] [0] Tryz.func55 Z Z Z Z Z (W 0 Z (AS Z (AO.dP Z Z (U 1 Z (AS Z (AO.tF Z Z J8 (fun b hb=>(J 0 Z (AW.cond Z (fun h1=>?_) (fun h1=>?_))))))))))
 · obtain rfl:s1=[]:=List.map_eq_nil_iff.1 (hb h1); obtain ⟨_,rfl⟩:=ql hf; refine W 0 Z (AS Z (AO.dP Z Z ?_)); exact N 0 rfl ⟨rfl,_,⟨_,_,rfl,rfl,rfl⟩,_,List.Sublist.refl _,h⟩
 refine W 0 Z (AS Z (AO.oH [] Z xJ Z Z Z Z Z (fun v1=>(U 1 Z (AS Z (AO.fu (i:=0) (l:=[]) (m:=s1) hf Z Z Z Z Z Z Z xJ yC Z Z Z (aJ.cB) (aJ.cells_one) (by decide) (fun v2 s2 hs2=>?_))))))); cases hs2; exact N 1 Z (Y Z h)
theorem wo (s1:List aJ) {r0:List aJ} (hf:bP s1=some r0) {Q:dh→List aG→Prop} (h:∀ v,Q (.ret (.val v)) [.buf v r0.length 7 57 (r0.flatMap aJ.cells)]):PC 55 [.list (List.map aJ.cells s1)] [] Q:=by
 unfold bP at hf; obtain ⟨hl,e0⟩:=ql hf; rw [List.nil_append] at e0; subst e0; simp only [List.length_nil,Nat.zero_add] at hl; have hlen:∀ x:aJ,(aJ.cells x).length=7:=fun _=>Z; have hone:∀ x:aJ,(aJ.cells x).all PV.one=true:=fun _=>Z; refine AC.gH 8 [.tmp 2] [0] Tryz.func55 Z Z Z Z Z (AW.sr (AR.step Z Z Z (AO.dP Z Z (AR.nil [0] Z ?_)))); refine AW.seq (AW.sr (cs 1 Z (AR.step Z Z Z (AO.tF Z Z J8 (fun b hb=>?_))))); refine AR.nil [0,4] Z (AW.cond Z (fun h1=>?_) (fun h1=>?_))
 · obtain rfl:r0=[]:=List.map_eq_nil_iff.1 (hb h1); refine AW.sr (AR.step Z Z Z (AO.Ew Z Z (AR.nil [2] Z (AW.Rf 7 57 ?_)))); refine AW.ret ?_; exact ⟨rfl,_,⟨_,_,rfl,rfl,rfl⟩,_,List.Sublist.refl _,h _⟩
 refine AW.skip (AW.sr (AR.step Z Z Z (AO.oH [] Z xJ Z Z Z Z Z (fun v1=>(cs 1 Z ?_))))); refine AR.step Z Z Z (AO.H8 (i:=0) (l2:=List.map aJ.cells r0) Z Z Z Z Z Z Z xJ yC (fun y hy=>?_) (fun y hy=>?_) ?_ ?_ (fun v2 s1 hs1=>?_))
 · obtain ⟨s,_,rfl⟩:=List.mem_map.1 hy; exact hlen s
 · obtain ⟨s,_,rfl⟩:=List.mem_map.1 hy; exact hone s
 · rw [List.length_map]; unfold D6 at hl; unfold maxLen; omega
 · rw [List.length_map]; unfold D6 at hl; omega
 cases hs1; refine cs 1 Z (AR.nil [2] Z (AW.ret ?_)); have hv:=h v2; rw [List.flatMap_def,show r0.length=(List.map aJ.cells r0).length from (List.length_map _).symm] at hv; exact ⟨rfl,_,⟨_,_,rfl,rfl,rfl⟩,_,List.Sublist.refl _,hv⟩
theorem kX (s1:List aJ) {r0:List aJ} (hf:bP s1=some r0) {Q:dh→List aG→Prop} (h:∀ v,Q (.ret (.own v (List.map aJ.cells r0))) [.row v (List.map aJ.cells r0).length 7 57]):PC 55 [.list (List.map aJ.cells s1)] [] Q:=by
 unfold bP at hf; refine AC.KN 8 [.tmp 2] [0] Tryz.func55 Z Z Z Z Z (AW.sr (AR.step Z Z Z (AO.dP Z Z (AR.nil [0] Z ?_)))); refine AW.seq (AW.sr (cs 1 Z (AR.step Z Z Z (AO.tF Z Z J8 (fun b hb=>?_))))); refine AR.nil [0,4] Z (AW.cond Z (fun h1=>?_) (fun h1=>?_))
 · obtain rfl:s1=[]:=List.map_eq_nil_iff.1 (hb h1); obtain ⟨_,rfl⟩:=ql hf; refine AW.sr (cs 1 Z (AR.nil [2] Z (AW.row 7 57 ?_))); refine AW.ret ?_; exact ⟨rfl,_,⟨_,_,rfl,rfl,rfl⟩,_,List.Sublist.refl _,h _⟩
 refine AW.skip (AW.sr (AR.step Z Z Z (AO.oH [] Z xJ Z Z Z Z Z (fun v1=>(cs 1 Z ?_))))); refine AR.step Z Z Z (AO.fu (i:=0) (l:=[]) (m:=s1) hf Z Z Z Z Z Z Z xJ yC Z Z Z (aJ.cB) (aJ.cells_one) (by decide) (fun v2 s2 hs2=>?_)); cases hs2; refine cs 1 Z (AR.nil [2] Z (AW.ret ?_)); exact ⟨rfl,_,⟨_,_,rfl,rfl,rfl⟩,_,List.Sublist.refl _,h v2⟩
theorem tL (c1:aZ) (uF:List aJ) (dx:List aB) {r0:List aJ} {r1:Int} (hf:kC c1 uF dx=some (r0,r1)) (h:Q (.ret (.tuple [.list (List.map aJ.cells r0),iP r1])) τ):PC 36 [.agg (nY c1),.list (List.map aJ.cells uF),.list (List.map aB.cells dx)] τ Q:=by
 unfold kC at hf; refine AC.none (AC.gH 29 [.tmp 6,.tmp 7] [0,1,2] Tryz.func36 Z Z Z Z Z (AW.sr (AR.step Z Z Z (AO.yO Z Z Z ?_)))); refine AR.step Z Z Z (AO.dP Z Z (cs 1 Z (AR.nil [1,2,3] Z (AW.seq ?_)))); refine AW.sr (cs 1 Z ?_); refine B1 hf fun e1 h1 hf=>?_; refine AR.step Z Z Z (AO.call Z _ Z Z QF (zC _ h1 (cs 1 Z (AR.nil [1,2,3,8] Z (AW.sr ?_))))); refine cs 2 Z (AR.nil [1,2,3,8,13] Z (AW.cond Z (fun h2=>?_) (fun h2=>?_)))
 ·
  replace hf:=iF h2 hf; refine AW.sr (cs 1 Z (AR.step Z Z Z (AO.dP Z Z (cs 1 Z ?_)))); refine AR.nil [6,7] Z (AW.ret ?_); cases hf; exact ⟨rfl,_,⟨_,_,rfl,rfl,_,_,rfl,rfl,rfl⟩,[],List.nil_sublist _,h⟩
 ·
  replace hf:=gZ h2 hf; refine AW.skip (AW.seq (AW.sr (cs 1 Z ?_))); refine B1 hf fun x1 h3 hf=>?_; refine AR.step Z Z Z (AO.call Z _ Z Z PK (jX _ gY 54 [] PI (fun _ _ hz=>rC _  hz) h3 (AR.nil [1,2,3,16] Z (AW.cond Z (fun h4=>?_) (fun h4=>?_)))))
  ·
   replace hf:=iF h4 hf; refine AW.sr (AR.step Z Z Z (AO.dP Z Z (cs 1 Z (AR.nil [6,7] Z ?_)))); refine AW.ret ?_; cases hf; exact ⟨rfl,_,⟨_,_,rfl,rfl,_,_,rfl,rfl,rfl⟩,[],List.nil_sublist _,h⟩
  ·
   replace hf:=gZ h4 hf; refine AW.skip (AW.sr (cs 3 Z ?_)); refine B1 hf fun x2 h5 hf=>?_; refine AR.step Z Z Z (AO.call Z _ Z Z Nf (ug _ _ h5 ?_)); refine B1 hf fun x3 h6 hf=>?_; refine AR.step Z Z Z (AO.call Z _ Z Z PY (wM _ h6 (AR.step Z Z Z (AO.build Z pz KA Z (AR.step Z Z Z (AO.aL Z pz (fun b9=>(AR.aS Z Z (AO.bO (i:=0) Z Z Z rE Z Z Z Z Z ?_))))))))); refine AR.nil [1,9] Z (AW.seq ?_); refine B1 hf fun x4 h7 hf=>?_; refine AW.IY 1 5 [] [.box b9 [iP 3,.bool false,iP 0,.str x3,.own (.slice none 0 0) [],.own (.slice none 0 0) []]] (fun S e s=>∃ v':Value,e.get 23=.list (List.map aJ.cells uF)∧e.get 9=pP b9∧(S 1=true→e.get 24=.own v' (List.map aJ.cells x4))∧(S 2=true→e.get 25=.agg [iP 3,.bool false,iP 0,.str x3,.own (.slice none 0 0) [],.own (.slice none 0 0) []])∧(S 3=true→e.get 26=.agg [.str ([102,105,108,101,115]:Str),iP 3,.bool false,iP 0,.str x3,.own (.slice none 0 0) [],.own (.slice none 0 0) []])∧(S 4=true→e.get 27=.list (List.map aJ.cells [(aJ.mk ([102,105,108,101,115]:Str) (au.mk 3 false 0 x3 [] []))]))∧s=(bif S 1 then [.row v' (List.map aJ.cells x4).length 7 57] else []) ++ [.box b9 [iP 3,.bool false,iP 0,.str x3,.own (.slice none 0 0) [],.own (.slice none 0 0) []]]) mixed (by kernel_rfl) Z Z (List.Perm.refl _) ?_ ?_ ?_ ?_
   ·
    refine Ev.cs bR 1 Z (Ev.nil ?_); exact ⟨.nilIface,Z,Z,(fun h=>by cases h),(fun h=>by cases h),(fun h=>by cases h),(fun h=>by cases h),Z⟩
   ·
    rintro S S' e s hS ⟨v',q1,q2,q3,q4,q5,q6,qs⟩; have z:=fun i h1 h2=>(hS i h1 h2).symm; refine ⟨v',q1,q2,?_,?_,?_,?_,?_⟩
    ·
     rw [z 1 (by decide) (by decide)]; exact q3
    ·
     rw [z 2 (by decide) (by decide)]; exact q4
    ·
     rw [z 3 (by decide) (by decide)]; exact q5
    ·
     rw [z 4 (by decide) (by decide)]; exact q6
    ·
     rw [z 1 (by decide) (by decide)]; exact qs
   ·
    rintro S e s i o ⟨v',q1,q2,q3,q4,q5,q6,rfl⟩ hi1 hi2 O3 hp ho; have hi:i=1∨i=2∨i=3∨i=4:=by omega
    rcases hi with rfl | rfl | rfl | rfl
    ·
     cases ho; refine ⟨Z,(fun t ht=>by cases ht; decide),AO.less (Less.add q1 Less.nil) ?_⟩; rw [O3]; refine AO.Qq Z _ Z Z PG (AC.none (kX _ h7 (fun v3=>?_))); exact ⟨v3,q1,q2,(fun _=>Z),q4,q5,q6,Z⟩
    ·
     cases ho; refine ⟨Z,(fun t ht=>by cases ht; decide),AO.less (Less.add q2 Less.nil) ?_⟩; cases h8:S 1 with
     | false=>
      refine AO.bq (i:=0) Z Z Z rE Z Z ?_; exact ⟨v',q1,q2,q3,(fun _=>Z),q5,q6,by simp [h8]⟩
     | true=>
      refine AO.bq (i:=1) Z Z Z rE Z Z ?_; exact ⟨v',q1,q2,q3,(fun _=>Z),q5,q6,by simp [h8]⟩
    ·
     cases ho; have s2:=hp 2 (any_beq.1 Z) (by decide); refine ⟨Z,(fun t ht=>by cases ht; decide),AO.less (Less.add (q4 s2) Less.nil) (AO.build Z JZ ND Z ?_)⟩; exact ⟨v',q1,q2,q3,q4,(fun _=>Z),q6,Z⟩
    ·
     cases ho; have s3:=hp 3 (any_beq.1 Z) (by decide); refine ⟨Z,(fun t ht=>by cases ht; decide),AO.less (Less.add (q5 s3) Less.nil) (AO.bD (List.map aJ.cells [(aJ.mk ([102,105,108,101,115]:Str) (au.mk 3 false 0 x3 [] []))]) rfl xJ rfl rfl rfl (by first | rfl | simp only [List.map,aJ.aO]) ?_)⟩
     exact ⟨v',q1,q2,q3,q4,q5,(fun _=>Z),Z⟩
   rintro S e s hS ⟨v1,q1,q2,q3,q4,q5,q6,rfl⟩; rw [hS 1 (by decide) (by decide)]; refine AR.less (Less.add (q3 (hS 1 (by decide) (by decide))) (Less.add (q6 (hS 4 (by decide) (by decide))) Less.nil)) ?_; refine B1 hf fun x5 h8 hf=>?_; refine AR.step Z Z Z (AO.fu (i:=0) (l:=x4) (m:=[(aJ.mk ([102,105,108,101,115]:Str) (au.mk 3 false 0 x3 [] []))]) h8 Z Z Z Z Z Z Z xJ yC Z Z Z (aJ.cB) (aJ.cells_one) (by decide) (fun v2 s1 hs1=>?_)); cases hs1; refine cs 2 Z (AR.nil [6,7] Z (AW.ret ?_)); cases hf; exact ⟨rfl,_,⟨_,_,rfl,rfl,_,_,rfl,rfl,rfl⟩,[],List.nil_sublist _,h⟩
theorem Cx (gX:List aJ) {r0:Int} (hf:yA gX=some r0) (h:Q (.ret (iP r0)) τ):PC 74 [.list (List.map aJ.cells gX)] τ Q:=by
 unfold yA at hf; refine BN 39 [.tmp 2] [0] Tryz.func74 Z Z Z Z Z (W 2 Z (AS Z (AO.aN (l:=gX) Z Z Z Z yC Z Z (J 1 Z (C hf Z (fun h1 hf=>?_) fun h1 hf=>?_)))))
 · cases hf; exact M 1 Z (Y Z h)
 refine W 0 Z (AS Z (AO.F3 Z (fun m10=>(U 2 Z (AS Z (AO.aN (l:=gX) Z Z Z Z yC Z Z (J 1 Z (D5 (fun x1 y1=>[(3,.val (.map (some m10))),(11,.list (List.map aJ.cells gX)),(12,iP (gX.length:Int)),(13,iP x1)]) (fun x1 y1=>[.obj m10 (lT y1)]) (fun bJ x1 y1=>qJ gX bJ x1 y1=some r0) BIG 0 [] Z Z hf (fun _ _ hz=>aQ hz) ?_)))))))); intro bJ x1 y1 hf; rw [qJ] at hf; refine V 1 Z (C hf Z (fun h2 hf=>?_) fun h2 hf=>?_)
 ·
  refine B1 hf fun e1 h3 hf=>W 0 Z (AS Z (AO.bK h3 Z Z Z Z yC (aJ.aO _) Z (U 1 Z (AS Z (AO.aL Z JZ (fun b5=>?_)))))); refine B1 hf fun x2 h4 hf=>Rr 4 [0,0] Z Z (CL Z (qg _ h4 (J 1 Z (C hf Z (fun h5 hf=>?_) fun h5 hf=>?_))))
  · cases hf; exact M 1 Z (Y Z h)
  refine B1 hf fun e2 h6 hf=>Wr 2 [0] Z Z (CL Z (n_ _ h6 (J 3 Z (C hf Z (fun h7 hf=>?_) fun h7 hf=>?_))))
  · cases hf; exact M 2 Z (Y Z h)
  refine Wr 3 [0] Z Z (AS Z (AO.Ak (i:=1) (l:=y1) Z Z Z Z yZ cK LV (U 1 Z (AR.aS Z Z (AO.Bz (i:=1) (l:=y1) Z Z Z Z Z yZ cK (Rr 3 [0] Z Z (AS Z (AO.Ak (i:=1) (l:=(qY y1 e1.name (bE ((vZ y1 e1.name) + 1)))) Z Z Z Z yZ cK LV (J 1 Z (C hf Z (fun h8 hf=>?_) fun h8 hf=>?_))))))))))
  · cases hf; exact M 1 Z (Y Z h)
  refine Qx 2 Z (AR.drop1 ?_); exact N 0 Z ⟨(bE (x1 + 1)),(qY y1 e1.name (bE ((vZ y1 e1.name) + 1))),Z,Z,Z,hf⟩
 cases hf; exact M 1 Z (Y Z h)
theorem Dp (e1:av) (gX:List aJ) {r0:List aJ} {r1:Int} (hf:u7 e1 gX=some (r0,r1)) (h:Q (.ret (.tuple [.list (List.map aJ.cells r0),iP r1])) τ):PC 125 [.agg (dw e1),.list (List.map aJ.cells gX)] τ Q:=by
 unfold u7 at hf; refine BN 19 [.tmp 4,.tmp 5] [0,1] Tryz.func125 Z Z Z Z Z (W 1 Z (AS Z (AO.dP Z Z ?_))); refine B1 hf fun f1 h1 hf=>U 2 Z (CL Z (Cx _ h1 (J 3 Z (C hf Z (fun h2 hf=>?_) fun h2 hf=>?_))))
 · refine W 1 Z (AS Z (AO.dP Z Z ?_)); cases hf; exact N 1 Z (Y Z h)
 refine B1 hf fun f2 h3 hf=>W 1 Z (CL Z (qg _ h3 (J 3 Z (C hf Z (fun h4 hf=>?_) fun h4 hf=>?_))))
 · refine W 1 Z (AS Z (AO.dP Z Z ?_)); cases hf; exact N 1 Z (Y Z h)
 cases hf; exact M 3 Z (Y Z h)
@[reducible] def Fe :ig bg Unit→dh
 | .ok r=>.ret (.tuple [])
 | .bad e=>.panic (.iface 218 (.agg [iP e.code]))
theorem zV (e1:Int) {rX:ig bg Unit} (hf:zm e1=some rX) (h:Q (Fe rX) τ):PC 245 [iP e1] τ Q:=by
 unfold zm at hf; refine BN 5 [] [0] Tryz.func245 Z Z Z Z Z (W 2 Z (AS Z (AO.Mv Z Ot Z (AR.aS Z Z (AO.Oh Z Z ?_))))); cases hf; exact ⟨Z,[],List.nil_sublist _,h⟩
@[reducible] def xA :ig bg au→dh
 | .ok r=>.ret (.agg (bW r))
 | .bad e=>.panic (.iface 218 (.agg [iP e.code]))
theorem qM (s1:List aJ) (name1:Str) {rX:ig bg au} (hf:oG s1 name1=some rX) (h:Q (xA rX) τ):PC 198 [.list (List.map aJ.cells s1),.str name1] τ Q:=by
 unfold oG at hf; refine BN 22 [.cell 4 55] [0,1] Tryz.func198 Z Z Z Z Z (W 0 Z (AS Z (AO.aL Z pz (fun b4=>(U 1 Z (AS Z (AO.aN (l:=s1) Z Z Z Z La Z Z (J 1 Z (JM (fun x1=>[(1,.str name1),(4,pP b4),(7,.list (List.map aJ.cells s1)),(8,iP (s1.length:Int)),(9,iP x1)]) (fun x1=>[.box b4 [iP 0,.bool false,iP 0,.str ([]:Str),.own (.slice none 0 0) [],.own (.slice none 0 0) []]]) (fun bJ x1=>jJ s1 name1 bJ x1=some rX) BIG 0 Z Z hf (fun _ hz=>aQ hz) ?_))))))))); intro bJ x1 hf; rw [jJ] at hf; refine V 1 Z (C hf Z (fun h1 hf=>?_) fun h1 hf=>?_)
 ·
  refine B1 hf fun e1 h2 hf=>W 0 Z (AS Z (AO.bK h2 Z Z Z Z La (aJ.aO _) Z (U 1 Z (AS Z (AO.aL Z JZ (fun b6=>(Rw 5 [0,0] Z Z (C hf Z (fun h3 hf=>?_) fun h3 hf=>?_))))))))
  · cases hf; exact Wx 3 [0,1] Z Z (ZC [1] Z Z h)
  refine Qx 2 Z (AR.drop1 ?_); exact N 0 Z ⟨(bE (x1 + 1)),Z,Z,Z,hf⟩
 rcases vV hf with ⟨e2,h4,hf⟩ | ⟨_,h4,hf⟩
 · refine W 0 Z (CL Z (zV _ h4 ?_)); cases hf; exact ⟨Z,[],List.nil_sublist _,h⟩
 refine W 0 Z (CL Z (zV _ h4 ?_)); cases hf; exact Rx 2 [0] Z Z (ZC [0] Z Z h)
@[reducible] def mh :ig bg au→dh
 | .ok r=>.ret (.agg (bW r))
 | .bad e=>.panic (.iface 218 (.agg [iP e.code]))
abbrev qQ (gF:List aJ→av→Option (ig bg au)):Prop:=∀ (JO:List aJ) (tQ:av) {fC:ig bg au},gF JO tQ=some fC→∀ {τ:List aG} {Q:dh→List aG→Prop} (h:Q (mh fC) τ),PC 160 [.list (List.map aJ.cells JO),.agg (dw tQ)] τ Q
theorem xB (gF) (oI:qQ gF) (s1:List aJ) (e1:av) {rX:ig bg au} (hf:mZ gF s1 e1=some rX) (h:Q (mh rX) τ):PC 160 [.list (List.map aJ.cells s1),.agg (dw e1)] τ Q:=by
 unfold mZ at hf; refine BN 104 [.cell 4 55] [0,1] Tryz.func160 Z Z Z Z Z (W 1 Z (AS Z (AO.aL Z pz (fun b4=>(J 4 Z (C hf Z (fun h1 hf=>?_) fun h1 hf=>?_))))))
 · cases hf; exact Wx 3 [0] Z Z (ZC [0] Z Z h)
 refine V 2 Z (C hf Z (fun h2 hf=>?_) fun h2 hf=>?_)
 ·
  rcases vV hf with ⟨e2,h3,hf⟩ | ⟨x1,h3,hf⟩
  · refine W 3 Z (CL Z (qM _ _ h3 ?_)); cases hf; exact ⟨Z,[],List.nil_sublist _,h⟩
  refine W 3 Z (CL Z (qM _ _ h3 ?_)); cases hf; exact Rx 1 [0] Z Z (ZC [0] Z Z h)
 refine V 2 Z (C hf Z (fun h4 hf=>?_) fun h4 hf=>?_)
 · exact aQ hf
 refine V 2 Z (C hf Z (fun h5 hf=>?_) fun h5 hf=>?_)
 ·
  refine B1 hf fun e3 h6 hf=>W 3 Z (AS Z (AO.bK h6 Z Z (av.bS _) Z ni (av.aO _) Z ?_)); rcases vV hf with ⟨e4,h7,hf⟩ | ⟨x2,h7,hf⟩
  · refine U 1 Z (CL Z (oI _ _ h7 ?_)); cases hf; exact ⟨Z,[],List.nil_sublist _,h⟩
  refine U 1 Z (CL Z (oI _ _ h7 (AS Z (AO.aL Z pz (fun b5=>?_))))); exact aQ hf
 refine V 2 Z (C hf Z (fun h8 hf=>?_) fun h8 hf=>?_)
 · exact aQ hf
 refine V 2 Z (C hf Z (fun h9 hf=>?_) fun h9 hf=>?_)
 · exact aQ hf
 refine V 2 Z (C hf Z (fun h10 hf=>?_) fun h10 hf=>?_)
 · exact aQ hf
 refine V 2 Z (C hf Z (fun h11 hf=>?_) fun h11 hf=>?_)
 · exact aQ hf
 refine V 2 Z (C hf Z (fun h12 hf=>?_) fun h12 hf=>?_)
 · exact aQ hf
 exact aQ hf
theorem xW :∀ k:Nat,(qQ (iU k)):=by
 intro k
 induction k with
 | zero=>exact fun _ _ _ hz=>by first | cases hz | (unfold iU at hz; cases hz)
 | succ k ih=>exact fun JO tQ fC hz τ Q hq=>xB (iU k) ih JO tQ hz hq
theorem qN (JO:List aJ) (tQ:av) {fC:ig bg au} (hf:tZ JO tQ=some fC) (h:Q (mh fC) τ):PC 160 [.list (List.map aJ.cells JO),.agg (dw tQ)] τ Q:=
 ((xW BIG)) JO tQ hf h
theorem zB (s1:List aJ) (e1:av) {r0:au} {r1:Int} (hf:pW s1 e1=some (r0,r1)) (h:Q (.ret (.tuple [.agg (bW r0),iP r1])) τ):PC 126 [.list (List.map aJ.cells s1),.agg (dw e1)] τ Q:=by
 unfold pW at hf; refine AC.none (AC.zM 10 [.cell 4 55,.cell 5 30] [0,1] [0,1] Tryz.func126 Z Z Z Z Z Tryz.func159 Z Z Z Z Z Z Z NV (AW.sr (AR.step Z Z Z (AO.yO Z Z Z ?_)))); refine AR.step Z Z Z (AO.aL Z pz (fun b4=>(AR.step Z Z Z (AO.aL Z J2 (fun b5=>(AR.nil [0,3,4,5] Z (AW.sr ?_))))))); refine cs 1 Z (AR.defer (vs:=[.pointer (some ⟨b4,0,none⟩),.pointer (some ⟨b5,0,none⟩)]) Z Z Z Z Z Z (AR.nil [0,3,4,5] Z (AW.sr ?_))); refine cs 2 Z ?_; rcases vV hf with ⟨f1,h1,hf⟩ | ⟨v1,h1,hf⟩
 ·
  refine AR.step Z Z Z (AO.call Z _ Z Z KI (qN _ _ h1 ?_)); cases hf; refine ⟨[.pointer (some ⟨b4,0,none⟩),.pointer (some ⟨b5,0,none⟩)],_,Z,Z,Z,(AR.step Z Z Z (AO.Ij Z Z Ma (cs 3 Z (AR.step Z Z Z (AO.aL Z J3 (fun b6=>?_))))))⟩; refine AR.aS Z Z (AO.bO (i:=0) Z Z Z Kn Z Z Z Z Z (cs 1 Z (AR.nil [0,1,2,3] Z (AW.sr ?_)))); refine cs 1 Z (AR.nil [0,1,2,9] Z (AW.cond Z (fun _=>?_) (fun hh=>by cases hh))); refine AW.IX 1 3 4 [_] [_,_] mixed (by kernel_rfl) (by kernel_rfl) (by kernel_rfl) Z Z Z (List.Perm.refl _) ?_; refine Ev.cons Z Z Z (AO.build Z pz KA Z zg) (Ev.nil ?_); show Ev _ _ _ _ _ _ _; refine Ev.cs bR 1 Z (Ev.cons Z Z Z (AO.bq (i:=0) Z Z Z qB Z Z zg) (Ev.nil (TF.aS Z Z (AO.bO (i:=1) Z Z Z rE Z Z Z Z Z ?_)))); refine TF.nil ?_; show AR _ _ _ _ _ _ _ _; refine AR.aS Z Z (AO.bO (i:=1) Z Z Z qB Z Z Z Z Z (AR.nil [] Z ?_)); exact ⟨rfl,_,⟨_,_,rfl,⟨_,_,2,_,_,rfl,rfl,rE,rfl⟩,⟨_,_,rfl,⟨_,_,1,_,_,rfl,rfl,qB,rfl⟩,rfl⟩⟩,[],List.nil_sublist _,h⟩
 refine AR.step Z Z Z (AO.call Z _ Z Z KI (qN _ _ h1 ?_)); cases hf; refine AR.aS Z Z (AO.bO (i:=1) Z Z Z rE Z Z Z Z Z (AR.aS Z Z (AO.bO (i:=0) Z Z Z qB Z Z Z Z Z (AR.nil [4,5] Z (AW.ret ?_))))); refine ⟨[.pointer (some ⟨b4,0,none⟩),.pointer (some ⟨b5,0,none⟩)],_,Z,Z,Z,(AR.step Z Z Z (AO.Fu (p:=.agg [iP 0]) Z Z Md (fun _ _=>by simp only [bf]; exact ⟨[.int .i64 0],Z,aK.cons (by simp [bf]) aK.nil⟩) ?_))⟩; refine cs 3 Z (AR.step Z Z Z (AO.aL Z J3 (fun b6=>(AR.aS Z Z (AO.bO (i:=0) Z Z Z Kn Z Z Z Z Z (cs 1 Z ?_)))))); refine AR.nil [3] Z (AW.sr (cs 1 Z (AR.nil [9] Z ?_))); refine AW.cond Z (fun hh=>by cases hh) (fun _=>?_); refine AW.skip ?_; exact ⟨rfl,_,⟨_,_,rfl,⟨_,_,2,_,_,rfl,rfl,rE,rfl⟩,⟨_,_,rfl,⟨_,_,1,_,_,rfl,rfl,qB,rfl⟩,rfl⟩⟩,[],List.nil_sublist _,h⟩
abbrev yQ (fI:au→Option au):Prop:=∀ (JN:au) {ji:au},fI JN=some ji→∀ {τ:List aG} {Q:dh→List aG→Prop} (h:Q (.ret (.agg (bW ji))) τ),PC 127 [.agg (bW JN)] τ Q
theorem Ea (fI) (BP:yQ fI) (v1:au) {r0:au} (hf:tu fI v1=some r0) (h:Q (.ret (.agg (bW r0))) τ):PC 127 [.agg (bW v1)] τ Q:=by
 unfold tu at hf; refine BN 31 [.cell 2 55] [0] Tryz.func127 Z Z Z Z Z (W 1 Z (AS Z (AO.aL Z pz (fun b2=>(U 1 Z (AS Z (AO.aL Z pz (fun b3=>(Rr 7 [0,0,0] Z Z (AS Z (AO.aN (l:=v1.eO) Z Z Z Z wG Z (au.bS _) ?_))))))))))); refine J 1 Z (AW.row 6 55 (AW.row 1 9 (RH (fun x1 bI v2 v3=>[(1,.ref (bW v1)),(2,pP b2),(3,pP b3),(10,.list (au.dL v1.eO)),(11,iP (v1.eO.length:Int)),(12,iP x1)]) (fun x1 bI v2 v3=>[.row v3 (List.map mg bI.keys).length 1 9,.row v2 (au.dL bI.eO).length 6 55,.box b3 [iP bI.kind,.bool bI.kT,iP bI.oo,.str bI.nG,.own v2 (au.dL bI.eO),.own v3 (List.map mg bI.keys)],.box b2 [iP 0,.bool false,iP 0,.str ([]:Str),.own (.slice none 0 0) [],.own (.slice none 0 0) []]]) (fun bJ x1 bI v2 v3=>nZ fI v1 bJ x1 bI=some r0) BIG 0 (au.mk v1.kind v1.kT v1.oo v1.nG [] []) (.slice none 0 0) (.slice none 0 0) Z Z hf (fun _ _ _ _ hz=>aQ hz) ?_))); intro bJ x1 bI v2 v3 hf; rw [nZ] at hf; refine V 1 Z (C hf Z (fun h1 hf=>?_) fun h1 hf=>?_)
 ·
  refine B1 hf fun e1 h2 hf=>W 0 Z (AS Z (AO.bK h2 Z Z (au.bS _) Z wG (au.aO _) Z (U 1 Z (AS Z (AO.aL Z pz (fun b5=>(Rw 1 [0] Z Z (AW.draw 5 mixed (by kernel_rfl) Z ?_)))))))); refine Ev.cs bR 1 Z (Ev.cons Z Z Z (AO.bq (i:=3) Z Z Z Pm Z Z zg) (Ev.cons Z Z Z (AO.bq (i:=0) Z Z Z rE Z Z zg) ?_)); refine B1 hf fun x2 h3 hf=>Ev.cons rfl rfl rfl (AO.call rfl _ rfl rfl N_ (BP _ h3 ⟨rfl,rfl⟩)) (Ev.cons rfl rfl rfl (AO.bD (au.dL [x2]) rfl M7 rfl rfl rfl (by first | rfl | simp only [List.map,au.aO,au.dL]) ⟨rfl,rfl⟩) ?_)
  refine Ev.nil ?_; show AR _ _ _ _ _ _ _ _; refine B1 hf fun x3 h4 hf=>AS Z (AO.fu (i:=2) (l:=bI.eO) (m:=[x2]) h4 Z Z Z Z Z Z Z M7 wG (au.bS _) (au.bS _) (au.bS _).symm (au.cB) (au.cells_one) (by decide) (fun v4 s1 hs1=>?_)); cases hs1; refine Rn 4 [3] Z Z (AR.drop1 ?_); exact N 0 Z ⟨(bE (x1 + 1)),(au.mk bI.kind bI.kT bI.oo bI.nG x3 bI.keys),v4,v3,Z,Z,Z,hf⟩
 refine B1 hf fun x4 h5 hf=>Wr 4 [2] Z Z (AS Z (AO.fu (i:=0) (l:=bI.keys) (m:=v1.keys) h5 Z Z Z Z Z Z Z M8 iV Z Z Z (fun _=>Z) (fun _=>Z) (by decide) (fun v5 s2 hs2=>?_))); cases hs2; cases hf; exact Rx 4 [2,2,3] Z Z (ZC [3] Z Z h)
theorem Ez :∀ k:Nat,(yQ (m_ k)):=by
 intro k
 induction k with
 | zero=>exact fun _ _ hz=>by first | cases hz | (unfold m_ at hz; cases hz)
 | succ k ih=>exact fun JN ji hz τ Q hq=>Ea (m_ k) ih JN hz hq
theorem ET (JN:au) {ji:au} (hf:BZ JN=some ji) (h:Q (.ret (.agg (bW ji))) τ):PC 127 [.agg (bW JN)] τ Q:=
 ((Ez BIG)) JN hf h
theorem Gv (e1:av) (gX:List aJ) {r0:au} {r1:Int} (hf:zn e1 gX=some (r0,r1)) (h:Q (.ret (.tuple [.agg (bW r0),iP r1])) τ):PC 99 [.agg (dw e1),.list (List.map aJ.cells gX)] τ Q:=by
 unfold zn at hf; refine BN 28 [.cell 4 55,.tmp 5] [0,1] Tryz.func99 Z Z Z Z Z (W 1 Z (AS Z (AO.aL Z pz (fun b4=>?_)))); obtain ⟨s1,f1,h1,hf⟩:=bL hf; refine U 3 Z (CL Z (Dp _ _ h1 (J 7 Z (C hf Z (fun h2 hf=>?_) fun h2 hf=>?_))))
 · cases hf; exact Wx 4 [0] Z Z (ZC [0] Z Z h)
 obtain ⟨x1,f2,h3,hf⟩:=bL hf; refine W 2 Z (CL Z (zB _ _ h3 (U 3 Z (AS Z (AO.aL Z pz (fun b8=>?_)))))); refine B1 hf fun x2 h4 hf=>Rr 3 [0,0] Z Z (CL Z (ET _ h4 ?_)); cases hf; exact Rx 3 [1] Z Z (ZC [1] Z Z h)
theorem EN (v1:au) {r0:Str} {r1:Int} (hf:wQ v1=some (r0,r1)) (h:Q (.ret (.tuple [.str r0,iP r1])) τ):PC 100 [.agg (bW v1)] τ Q:=by
 unfold wQ at hf; refine BN 28 [.tmp 2,.tmp 3] [0] Tryz.func100 Z Z Z Z Z (W 7 Z (On 4 8 12 [1] (v1.kind == 5) Z Z Z Z (J 0 Z (C hf Z (fun h2 hf=>?_) fun h2 hf=>?_))))
 · cases hf; exact M 2 Z (Y Z h)
 refine B1 hf fun e1 h3 hf=>W 1 Z (CL Z (n_ _ h3 (J 3 Z (C hf Z (fun h4 hf=>?_) fun h4 hf=>?_))))
 · cases hf; exact M 3 Z (Y Z h)
 refine V 4 Z (C hf Z (fun h5 hf=>?_) fun h5 hf=>?_)
 · cases hf; exact M 2 Z (Y Z h)
 refine V 2 Z (C hf Z (fun h6 hf=>?_) fun h6 hf=>?_)
 · cases hf; exact M 4 Z (Y Z h)
 exact aQ hf
theorem yI (p1:aV) (gX:List aJ) {r0:Str} {r1:Int} (hf:oF p1 gX=some (r0,r1)) (h:Q (.ret (.tuple [.str r0,iP r1])) τ):PC 75 [.agg (Jv p1),.list (List.map aJ.cells gX)] τ Q:=by
 unfold oF at hf; refine BN 27 [.tmp 4,.tmp 5] [0,1] Tryz.func75 Z Z Z Z Z (V 6 Z (C hf Z (fun h1 hf=>?_) fun h1 hf=>?_))
 · cases hf; exact M 4 Z (Y Z h)
 obtain ⟨x1,nu,h2,hf⟩:=bL hf; refine W 3 Z (CL Z (Gv _ _ h2 (U 3 Z (AS Z (AO.aL Z pz (fun b6=>(Rw 4 [0] Z Z (C hf Z (fun h3 hf=>?_) fun h3 hf=>?_))))))))
 · cases hf; exact M 3 Z (Y Z h)
 replace hf:=(DY _).trans hf; obtain ⟨x2,x3,h4,hf⟩:=bL hf; refine Wr 1 [0] Z Z (CL Z (EN _ h4 ?_)); cases hf; exact N 4 Z (Y Z h)
theorem Ad (s1:Str) (gX:List aJ) {r0:Str} {r1:Int} (hf:ru s1 gX=some (r0,r1)) (h:Q (.ret (.tuple [.str r0,iP r1])) τ):PC 56 [.str s1,.list (List.map aJ.cells gX)] τ Q:=by
 unfold ru at hf; refine BN 50 [.tmp 4,.tmp 5] [0,1] Tryz.func56 Z Z Z Z Z ?_; obtain ⟨ps1,x1,nu,h1,hf⟩:=jr hf; refine W 3 Z (CL Z (vk _ h1 (J 9 Z (C hf Z (fun h2 hf=>?_) fun h2 hf=>?_))))
 · cases hf; exact M 3 Z (Y Z h)
 refine B1 hf fun wI h3 hf=>W 1 Z (CL Z (Cx _ h3 (J 3 Z (C hf Z (fun h4 hf=>?_) fun h4 hf=>?_))))
 · cases hf; exact M 3 Z (Y Z h)
 refine W 0 Z (AS Z (AO.JI (eu:=5) Z Ny Z (fun b10=>(U 1 Z (AS Z (AO.aN (l:=ps1) Z Z Z Z IW Z Z (J 1 Z (JY (fun x2 b1 v1=>[(1,.list (List.map aJ.cells gX)),(10,pP b10),(29,.list (List.map aV.cells ps1)),(30,iP (ps1.length:Int)),(31,iP x2)]) (fun x2 b1 v1=>[.zF b10 v1 102 5 b1]) (fun bJ x2 b1 v1=>kK gX ps1 bJ x2 b1=some (r0,r1)) BIG 0 [] (.slice none 0 0) Z Z hf (fun _ _ _ hz=>aQ hz) ?_)))))))); intro bJ x2 b1 v1 hf; rw [kK] at hf; refine V 1 Z (C hf Z (fun h5 hf=>?_) fun h5 hf=>?_)
 ·
  refine B1 hf fun e1 h6 hf=>W 0 Z (AS Z (AO.bK h6 Z Z Z Z IW (aV.aO _) Z (U 1 Z (AS Z (AO.aL Z GQ (fun b12=>?_)))))); obtain ⟨t1,Lb,h7,hf⟩:=bL hf; refine Rr 3 [0,0] Z Z (CL Z (yI _ _ h7 (J 7 Z (C hf Z (fun h8 hf=>?_) fun h8 hf=>?_))))
  · cases hf; exact M 3 Z (Y Z h)
  refine B1 hf fun b2 h9 hf=>W 1 Z (CL Z (AC.one 1 Z (yN h9 (fun v2=>⟨_,Z,(fE 2 Z (AR.drop1 ?_))⟩)))); exact N 0 Z ⟨(bE (x2 + 1)),b2,v2,Z,Z,Z,hf⟩
 refine W 0 Z (CL Z (AC.one 0 Z (JG ⟨_,Z,(J 1 Z (C hf Z (fun h10 hf=>?_) fun h10 hf=>?_))⟩)))
 · cases hf; exact M 2 Z (Y Z h)
 refine W 0 Z (CL Z (AC.Ms 0 Z (EU ?_))); cases hf; exact N 2 Z (Y Z h)
theorem wz (s1:Str) (gX:List aJ) {r0:Str} {r1:Int} (hf:ny s1 gX=some (r0,r1)) (h:Q (.ret (.tuple [.str r0,iP r1])) τ):PC 37 [.str s1,.list (List.map aJ.cells gX)] τ Q:=by
 unfold ny at hf; refine BN 26 [.tmp 4,.tmp 5] [0,1] Tryz.func37 Z Z Z Z Z ?_; obtain ⟨bI,e1,h1,hf⟩:=bL hf; refine W 4 Z (CL Z (Ad _ _ h1 (J 8 Z (C hf Z (fun h2 hf=>?_) fun h2 hf=>?_))))
 · cases hf; exact M 3 Z (Y Z h)
 refine V 3 Z (C hf Z (fun h3 hf=>?_) fun h3 hf=>?_)
 · cases hf; exact M 2 Z (Y Z h)
 refine W 1 Z (AS Z (AO.bV Z Z Z Z cK Z (J 2 Z (C hf Z (fun h4 hf=>?_) fun h4 hf=>?_))))
 · cases hf; exact M 2 Z (Y Z h)
 cases hf; exact M 3 Z (Y Z h)
theorem qh (c1:aZ) (uF:List aJ) (dx:List aB) {r0:Str} {r1:Int} (hf:nC c1 uF dx=some (r0,r1)) (h:Q (.ret (.tuple [.str r0,iP r1])) τ):PC 17 [.agg (nY c1),.list (List.map aJ.cells uF),.list (List.map aB.cells dx)] τ Q:=by
 unfold nC at hf; refine BN 26 [.tmp 6,.tmp 7] [0,1,2] Tryz.func17 Z Z Z Z Z ?_; obtain ⟨gX,e1,h1,hf⟩:=bL hf; refine W 6 Z (CL Z (tL _ _ _ h1 (J 7 Z (C hf Z (fun h2 hf=>?_) fun h2 hf=>?_))))
 · cases hf; exact M 3 Z (Y Z h)
 replace hf:=(DY _).trans hf; obtain ⟨x1,x2,h3,hf⟩:=bL hf; refine W 3 Z (CL Z (wz _ _ h3 ?_)); cases hf; exact N 4 Z (Y Z h)
theorem Gu {r0:Bool} (hf:vP=some r0) (h:Q (.ret (.bool r0)) τ):PC 11 [] τ Q:=by
 unfold vP at hf; refine BN 46 [.tmp 0] [] Tryz.func11 Z Z Z Z Z ?_; obtain ⟨a1,e1,h1,hf⟩:=bL hf; refine W 2 rfl (CL rfl (qh _ _ _ h1 (U 8 rfl (AS rfl (AO.bD (List.map aJ.cells [(aJ.mk ([111,115]:Str) (au.mk 3 false 0 ([108,105,110,117,120]:Str) [] []))]) rfl xJ rfl rfl rfl (by first | rfl | simp only [List.map,aJ.aO]) ?_))))); obtain ⟨b1,f1,h2,hf⟩:=bL hf; refine CL Z (qh _ _ _ h2 ?_); obtain ⟨x1,g1,h3,hf⟩:=bL hf; refine U 6 Z (CL Z (qh _ _ _ h3 ?_))
 refine B1 hf fun x2 h4 hf=>U 6 Z (CL Z (zW _ _ h4 ?_)); refine B1 hf fun x3 h5 hf=>CL Z (wM _ h5 ?_); refine B1 hf fun x4 h6 hf=>AS Z (AO.Rc h6 Z Z Z (U 2 Z (An 3 30 33 [3,4,6] (e1 == 0) Z Z Z Z (U 1 Z (An 3 34 37 [4,6] (b1 == ([108,105,110,117,120,47,49]:Str)) Z Z Z Z (U 1 Z (An 3 38 41 [6] (f1 == 0) Z Z Z Z ?_))))))); refine U 1 Z (An 3 42 45 [] (g1 != 0) Z Z Z Z ?_); cases hf; exact N 1 Z (Y Z h)
theorem xu (dx:List aB) (l1:List Str) {r0:Bool} (hf:kJ dx l1=some r0) (h:Q (.ret (.bool r0)) τ):PC 4 [.list (List.map aB.cells dx),sP l1] τ Q:=by
 unfold kJ at hf; refine BN 25 [.tmp 4] [0,1] Tryz.func4 Z Z Z Z Z ?_; refine B1 hf fun x1 h1 hf=>W 2 Z (CL Z (Gt _ h1 ?_)); refine B1 hf fun b1 h3 hf=>U 2 Z (AR.eD 4 8 12 false [0,1] b1 Z Z (fun h2=>?_) (fun h2=>?_) ?_)
 · refine IF 8 h2 h3 Z fun h3=>?_; refine B1 h3 fun x2 h4 h3=>U 1 Z (GO Z (AO.call Z _ Z Z P6 (Cv _ h4 ?_))); cases h3; exact fE 2 Z (En [12,0,1] Z)
 · refine IT 8 h2 h3 Z fun h3=>?_; cases h3; exact fE 4 Z (En [12,0,1] Z)
 refine B1 hf fun b2 h6 hf=>U 1 Z (AR.eD 8 13 21 false [] b2 Z Z (fun h5=>?_) (fun h5=>?_) ?_)
 · refine IF 13 h5 h6 Z fun h6=>?_; refine B1 h6 fun x3 h7 h6=>U 2 Z (GO Z (AO.call Z _ Z Z Nf (ug _ _ h7 ?_))); refine B1 h6 fun x4 h8 h6=>U 2 Z (GO Z (AO.call Z _ Z Z P5 (HY _ _ h8 ?_))); cases h6; exact fE 2 Z (En [21] Z)
 · refine IT 13 h5 h6 Z fun h6=>?_; cases h6; exact fE 8 Z (En [21] Z)
 refine BR hf fun b3 h10 hf=>?_; refine U 1 Z (AR.eD 2 22 24 true [] b3 Z Z (fun h9=>?_) (fun h9=>?_) ?_)
 · refine IT 22 h9 h10 Z fun h10=>?_; refine BR h10 fun x5 h11 h10=>?_; refine GO Z (AO.call Z _ Z Z P7 (Gu  h11 ?_)); cases h10; exact fE 1 Z (En [24] Z)
 · refine IF 22 h9 h10 Z fun h10=>?_; cases h10; exact fE 2 Z (En [24] Z)
 cases hf; exact N 1 Z (Y Z h)
end Go.Proofs.YtljfgagpnpolhaaGreatDoor
