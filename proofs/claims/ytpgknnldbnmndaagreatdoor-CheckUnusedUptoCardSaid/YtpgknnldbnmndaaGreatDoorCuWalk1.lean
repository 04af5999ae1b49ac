/- Proved here: each function does what its functional text says (part 1). -/
import Derived.Test.YtpgknnldbnmndaaGreatDoorCuA2
import Derived.Test.YtpgknnldbnmndaaGreatDoorCuFt
import Derived.Test.YtpgknnldbnmndaaGreatDoorCuPre
import Derived.Test.YtpgknnldbnmndaaGreatDoorProg
import Derived.KernelRfl
set_option linter.unusedVariables false
set_option linter.unusedSimpArgs false
namespace Go.Ft
open Go Go.Abs
mutual
def ApiValue.cells : ApiValue → List PV
  | ⟨a0, a1, a2, a3, a4, a5⟩ => [.int .i64 a0, .bool a1, .int .i64 a2, .str a3, .list (ApiValue.cellsL a4), .list (List.map strC a5)]
def ApiValue.cellsL : List ApiValue → List (List PV)
  | [] => []
  | x :: xs => ApiValue.cells x :: ApiValue.cellsL xs
end
theorem ApiValue.cells_eq (x : ApiValue) : ApiValue.cells x = [.int .i64 x.kind, .bool x.bool_, .int .i64 x.int_, .str x.str_, .list (ApiValue.cellsL x.list_), .list (List.map strC x.keys)] := by cases x; rfl
theorem ApiValue.cellsL_eq : ∀ l : List ApiValue, ApiValue.cellsL l = l.map ApiValue.cells
  | [] => rfl
  | _ :: l => congrArg _ (ApiValue.cellsL_eq l)
def ApiValue.cellsLC (l : List ApiValue) : List PV := [.list (ApiValue.cellsL l)]
theorem ApiValue.cells_len (x : ApiValue) : (ApiValue.cells x).length = 6 := by rw [ApiValue.cells_eq]; rfl
theorem ApiValue.cells_one (x : ApiValue) : (ApiValue.cells x).all PV.one = true := by rw [ApiValue.cells_eq]; rfl
mutual
def ApiExpr.cells : ApiExpr → List PV
  | ⟨a0, a1, a2, a3, a4⟩ => [.int .i64 a0, .str a1, .int .i64 a2.kind, .bool a2.bool_, .int .i64 a2.int_, .str a2.str_, .list (ApiValue.cellsL a2.list_), .list (List.map strC a2.keys), .list (ApiExpr.cellsL a3), .list (List.map strC a4)]
def ApiExpr.cellsL : List ApiExpr → List (List PV)
  | [] => []
  | x :: xs => ApiExpr.cells x :: ApiExpr.cellsL xs
end
theorem ApiExpr.cells_eq (x : ApiExpr) : ApiExpr.cells x = [.int .i64 x.kind, .str x.name, .int .i64 x.value.kind, .bool x.value.bool_, .int .i64 x.value.int_, .str x.value.str_, .list (ApiValue.cellsL x.value.list_), .list (List.map strC x.value.keys), .list (ApiExpr.cellsL x.args), .list (List.map strC x.keys)] := by cases x; rfl
theorem ApiExpr.cellsL_eq : ∀ l : List ApiExpr, ApiExpr.cellsL l = l.map ApiExpr.cells
  | [] => rfl
  | _ :: l => congrArg _ (ApiExpr.cellsL_eq l)
def ApiExpr.cellsLC (l : List ApiExpr) : List PV := [.list (ApiExpr.cellsL l)]
theorem ApiExpr.cells_len (x : ApiExpr) : (ApiExpr.cells x).length = 10 := by rw [ApiExpr.cells_eq]; rfl
theorem ApiExpr.cells_one (x : ApiExpr) : (ApiExpr.cells x).all PV.one = true := by rw [ApiExpr.cells_eq]; rfl
@[reducible] def ApiToken.cells (x : ApiToken) : List PV := [.int .i64 x.kind, .str x.text, .int .i64 x.at_]
theorem ApiToken.cells_eq (x : ApiToken) : ApiToken.cells x = [.int .i64 x.kind, .str x.text, .int .i64 x.at_] := rfl
theorem ApiToken.cells_len (x : ApiToken) : (ApiToken.cells x).length = 3 := by rw [ApiToken.cells_eq]; rfl
theorem ApiToken.cells_one (x : ApiToken) : (ApiToken.cells x).all PV.one = true := by rw [ApiToken.cells_eq]; rfl
@[reducible] def ParserReader.cells (x : ParserReader) : List PV := [.list (List.map ApiToken.cells x.ts), .int .i64 x.at_]
theorem ParserReader.cells_eq (x : ParserReader) : ParserReader.cells x = [.list (List.map ApiToken.cells x.ts), .int .i64 x.at_] := rfl
theorem ParserReader.cells_len (x : ParserReader) : (ParserReader.cells x).length = 2 := by rw [ParserReader.cells_eq]; rfl
theorem ParserReader.cells_one (x : ParserReader) : (ParserReader.cells x).all PV.one = true := by rw [ParserReader.cells_eq]; rfl
@[reducible] def ParserFailure.cells (x : ParserFailure) : List PV := [.int .i64 x.at_, .int .i64 x.code]
theorem ParserFailure.cells_eq (x : ParserFailure) : ParserFailure.cells x = [.int .i64 x.at_, .int .i64 x.code] := rfl
theorem ParserFailure.cells_len (x : ParserFailure) : (ParserFailure.cells x).length = 2 := by rw [ParserFailure.cells_eq]; rfl
theorem ParserFailure.cells_one (x : ParserFailure) : (ParserFailure.cells x).all PV.one = true := by rw [ParserFailure.cells_eq]; rfl
mutual
def ApiType.cells : ApiType → List PV
  | ⟨a0, a1⟩ => [.int .i64 a0, .list (ApiType.cellsL a1)]
def ApiType.cellsL : List ApiType → List (List PV)
  | [] => []
  | x :: xs => ApiType.cells x :: ApiType.cellsL xs
end
theorem ApiType.cells_eq (x : ApiType) : ApiType.cells x = [.int .i64 x.kind, .list (ApiType.cellsL x.elem)] := by cases x; rfl
theorem ApiType.cellsL_eq : ∀ l : List ApiType, ApiType.cellsL l = l.map ApiType.cells
  | [] => rfl
  | _ :: l => congrArg _ (ApiType.cellsL_eq l)
def ApiType.cellsLC (l : List ApiType) : List PV := [.list (ApiType.cellsL l)]
theorem ApiType.cells_len (x : ApiType) : (ApiType.cells x).length = 2 := by rw [ApiType.cells_eq]; rfl
theorem ApiType.cells_one (x : ApiType) : (ApiType.cells x).all PV.one = true := by rw [ApiType.cells_eq]; rfl
@[reducible] def ApiDecl.cells (x : ApiDecl) : List PV := [.str x.name, .int .i64 x.type_.kind, .list (ApiType.cellsL x.type_.elem)]
theorem ApiDecl.cells_eq (x : ApiDecl) : ApiDecl.cells x = [.str x.name, .int .i64 x.type_.kind, .list (ApiType.cellsL x.type_.elem)] := rfl
theorem ApiDecl.cells_len (x : ApiDecl) : (ApiDecl.cells x).length = 3 := by rw [ApiDecl.cells_eq]; rfl
theorem ApiDecl.cells_one (x : ApiDecl) : (ApiDecl.cells x).all PV.one = true := by rw [ApiDecl.cells_eq]; rfl
end Go.Ft
namespace Go.Proofs.YtpgknnldbnmndaaGreatDoor
open Go Go.Abs Go.Ft
set_option maxRecDepth 20000
attribute [local irreducible] AO AR AW AC
theorem ai_93 : arrInfo Tryz.prog 93 = some (8, 1) := by kernel_rfl
theorem ce_5 : Tryz.prog.cellsOf 5 = 1 := by kernel_rfl
theorem es_149 : elemSize Tryz.prog 149 = some 1 := by kernel_rfl
theorem es_22 : elemSize Tryz.prog 22 = some 6 := by kernel_rfl
theorem es_23 : elemSize Tryz.prog 23 = some 1 := by kernel_rfl
theorem es_26 : elemSize Tryz.prog 26 = some 10 := by kernel_rfl
theorem es_29 : elemSize Tryz.prog 29 = some 3 := by kernel_rfl
theorem es_37 : elemSize Tryz.prog 37 = some 2 := by kernel_rfl
theorem es_47 : elemSize Tryz.prog 47 = some 1 := by kernel_rfl
theorem es_77 : elemSize Tryz.prog 77 = some 3 := by kernel_rfl
theorem es_94 : elemSize Tryz.prog 94 = some 1 := by kernel_rfl
theorem fo_155_0 : fieldOff Tryz.prog 155 0 = some 0 := by kernel_rfl
theorem fo_155_1 : fieldOff Tryz.prog 155 1 = some 1 := by kernel_rfl
theorem if_162 : Tryz.prog.underlying 162 = some (.interface (Tryz.prog.methodsAt 162)) := by kernel_rfl
theorem inB : ∃ j, Tryz.prog.info? 155 = some j ∧ (j.size != 0) = true := sized (n := 2) (by kernel_rfl) rfl
theorem liesB : liesAt Tryz.prog Tryz.prog.depth 155 (2 / Tryz.prog.cellsOf 155) 0 155 1 = true := by kernel_rfl
theorem mixed : Tryz.prog.follows .mixedOrders = true := by kernel_rfl
theorem mp_52 : Tryz.prog.underlying 52 = some (.map 9 3) := by kernel_rfl
theorem nd_133 : concrete Tryz.prog 133 = true := by kernel_rfl
theorem nd_193 : concrete Tryz.prog 193 = true := by kernel_rfl
theorem pf_100 : plainFn Tryz.prog 100 = true := by kernel_rfl
theorem pf_101 : plainFn Tryz.prog 101 = true := by kernel_rfl
theorem pf_102 : plainFn Tryz.prog 102 = true := by kernel_rfl
theorem pf_104 : plainFn Tryz.prog 104 = true := by kernel_rfl
theorem pf_105 : plainFn Tryz.prog 105 = true := by kernel_rfl
theorem pf_106 : plainFn Tryz.prog 106 = true := by kernel_rfl
theorem pf_107 : plainFn Tryz.prog 107 = true := by kernel_rfl
theorem pf_108 : plainFn Tryz.prog 108 = true := by kernel_rfl
theorem pf_109 : plainFn Tryz.prog 109 = true := by kernel_rfl
theorem pf_11 : plainFn Tryz.prog 11 = true := by kernel_rfl
theorem pf_110 : plainFn Tryz.prog 110 = true := by kernel_rfl
theorem pf_111 : plainFn Tryz.prog 111 = true := by kernel_rfl
theorem pf_112 : plainFn Tryz.prog 112 = true := by kernel_rfl
theorem pf_113 : plainFn Tryz.prog 113 = true := by kernel_rfl
theorem pf_114 : plainFn Tryz.prog 114 = true := by kernel_rfl
theorem pf_115 : plainFn Tryz.prog 115 = true := by kernel_rfl
theorem pf_116 : plainFn Tryz.prog 116 = true := by kernel_rfl
theorem pf_117 : plainFn Tryz.prog 117 = true := by kernel_rfl
theorem pf_118 : plainFn Tryz.prog 118 = true := by kernel_rfl
theorem pf_119 : plainFn Tryz.prog 119 = true := by kernel_rfl
theorem pf_12 : plainFn Tryz.prog 12 = true := by kernel_rfl
theorem pf_125 : plainFn Tryz.prog 125 = true := by kernel_rfl
theorem pf_129 : plainFn Tryz.prog 129 = true := by kernel_rfl
theorem pf_13 : plainFn Tryz.prog 13 = true := by kernel_rfl
theorem pf_130 : plainFn Tryz.prog 130 = true := by kernel_rfl
theorem pf_131 : plainFn Tryz.prog 131 = true := by kernel_rfl
theorem pf_132 : plainFn Tryz.prog 132 = true := by kernel_rfl
theorem pf_133 : plainFn Tryz.prog 133 = true := by kernel_rfl
theorem pf_134 : plainFn Tryz.prog 134 = true := by kernel_rfl
theorem pf_135 : plainFn Tryz.prog 135 = true := by kernel_rfl
theorem pf_136 : plainFn Tryz.prog 136 = true := by kernel_rfl
theorem pf_137 : plainFn Tryz.prog 137 = true := by kernel_rfl
theorem pf_138 : plainFn Tryz.prog 138 = true := by kernel_rfl
theorem pf_139 : plainFn Tryz.prog 139 = true := by kernel_rfl
theorem pf_14 : plainFn Tryz.prog 14 = true := by kernel_rfl
theorem pf_140 : plainFn Tryz.prog 140 = true := by kernel_rfl
theorem pf_141 : plainFn Tryz.prog 141 = true := by kernel_rfl
theorem pf_142 : plainFn Tryz.prog 142 = true := by kernel_rfl
theorem pf_143 : plainFn Tryz.prog 143 = true := by kernel_rfl
theorem pf_144 : plainFn Tryz.prog 144 = true := by kernel_rfl
theorem pf_145 : plainFn Tryz.prog 145 = true := by kernel_rfl
theorem pf_146 : plainFn Tryz.prog 146 = true := by kernel_rfl
theorem pf_147 : plainFn Tryz.prog 147 = true := by kernel_rfl
theorem pf_15 : plainFn Tryz.prog 15 = true := by kernel_rfl
theorem pf_152 : plainFn Tryz.prog 152 = true := by kernel_rfl
theorem pf_153 : plainFn Tryz.prog 153 = true := by kernel_rfl
theorem pf_154 : plainFn Tryz.prog 154 = true := by kernel_rfl
theorem pf_155 : plainFn Tryz.prog 155 = true := by kernel_rfl
theorem pf_156 : plainFn Tryz.prog 156 = true := by kernel_rfl
theorem pf_157 : plainFn Tryz.prog 157 = true := by kernel_rfl
theorem pf_158 : plainFn Tryz.prog 158 = true := by kernel_rfl
theorem pf_159 : plainFn Tryz.prog 159 = true := by kernel_rfl
theorem pf_16 : plainFn Tryz.prog 16 = true := by kernel_rfl
theorem pf_160 : plainFn Tryz.prog 160 = true := by kernel_rfl
theorem pf_161 : plainFn Tryz.prog 161 = true := by kernel_rfl
theorem pf_164 : plainFn Tryz.prog 164 = true := by kernel_rfl
theorem pf_165 : plainFn Tryz.prog 165 = true := by kernel_rfl
theorem pf_167 : plainFn Tryz.prog 167 = true := by kernel_rfl
theorem pf_168 : plainFn Tryz.prog 168 = true := by kernel_rfl
theorem pf_173 : plainFn Tryz.prog 173 = true := by kernel_rfl
theorem pf_174 : plainFn Tryz.prog 174 = true := by kernel_rfl
theorem pf_176 : plainFn Tryz.prog 176 = true := by kernel_rfl
theorem pf_177 : plainFn Tryz.prog 177 = true := by kernel_rfl
theorem pf_178 : plainFn Tryz.prog 178 = true := by kernel_rfl
theorem pf_179 : plainFn Tryz.prog 179 = true := by kernel_rfl
theorem pf_182 : plainFn Tryz.prog 182 = true := by kernel_rfl
theorem pf_184 : plainFn Tryz.prog 184 = true := by kernel_rfl
theorem pf_19 : plainFn Tryz.prog 19 = true := by kernel_rfl
theorem pf_20 : plainFn Tryz.prog 20 = true := by kernel_rfl
theorem pf_23 : plainFn Tryz.prog 23 = true := by kernel_rfl
theorem pf_24 : plainFn Tryz.prog 24 = true := by kernel_rfl
theorem pf_25 : plainFn Tryz.prog 25 = true := by kernel_rfl
theorem pf_26 : plainFn Tryz.prog 26 = true := by kernel_rfl
theorem pf_27 : plainFn Tryz.prog 27 = true := by kernel_rfl
theorem pf_28 : plainFn Tryz.prog 28 = true := by kernel_rfl
theorem pf_29 : plainFn Tryz.prog 29 = true := by kernel_rfl
theorem pf_30 : plainFn Tryz.prog 30 = true := by kernel_rfl
theorem pf_31 : plainFn Tryz.prog 31 = true := by kernel_rfl
theorem pf_32 : plainFn Tryz.prog 32 = true := by kernel_rfl
theorem pf_34 : plainFn Tryz.prog 34 = true := by kernel_rfl
theorem pf_35 : plainFn Tryz.prog 35 = true := by kernel_rfl
theorem pf_36 : plainFn Tryz.prog 36 = true := by kernel_rfl
theorem pf_37 : plainFn Tryz.prog 37 = true := by kernel_rfl
theorem pf_40 : plainFn Tryz.prog 40 = true := by kernel_rfl
theorem pf_41 : plainFn Tryz.prog 41 = true := by kernel_rfl
theorem pf_42 : plainFn Tryz.prog 42 = true := by kernel_rfl
theorem pf_43 : plainFn Tryz.prog 43 = true := by kernel_rfl
theorem pf_44 : plainFn Tryz.prog 44 = true := by kernel_rfl
theorem pf_45 : plainFn Tryz.prog 45 = true := by kernel_rfl
theorem pf_46 : plainFn Tryz.prog 46 = true := by kernel_rfl
theorem pf_47 : plainFn Tryz.prog 47 = true := by kernel_rfl
theorem pf_48 : plainFn Tryz.prog 48 = true := by kernel_rfl
theorem pf_49 : plainFn Tryz.prog 49 = true := by kernel_rfl
theorem pf_5 : plainFn Tryz.prog 5 = true := by kernel_rfl
theorem pf_50 : plainFn Tryz.prog 50 = true := by kernel_rfl
theorem pf_51 : plainFn Tryz.prog 51 = true := by kernel_rfl
theorem pf_52 : plainFn Tryz.prog 52 = true := by kernel_rfl
theorem pf_53 : plainFn Tryz.prog 53 = true := by kernel_rfl
theorem pf_54 : plainFn Tryz.prog 54 = true := by kernel_rfl
theorem pf_55 : plainFn Tryz.prog 55 = true := by kernel_rfl
theorem pf_58 : plainFn Tryz.prog 58 = true := by kernel_rfl
theorem pf_59 : plainFn Tryz.prog 59 = true := by kernel_rfl
theorem pf_6 : plainFn Tryz.prog 6 = true := by kernel_rfl
theorem pf_60 : plainFn Tryz.prog 60 = true := by kernel_rfl
theorem pf_61 : plainFn Tryz.prog 61 = true := by kernel_rfl
theorem pf_66 : plainFn Tryz.prog 66 = true := by kernel_rfl
theorem pf_7 : plainFn Tryz.prog 7 = true := by kernel_rfl
theorem pf_70 : plainFn Tryz.prog 70 = true := by kernel_rfl
theorem pf_71 : plainFn Tryz.prog 71 = true := by kernel_rfl
theorem pf_72 : plainFn Tryz.prog 72 = true := by kernel_rfl
theorem pf_73 : plainFn Tryz.prog 73 = true := by kernel_rfl
theorem pf_74 : plainFn Tryz.prog 74 = true := by kernel_rfl
theorem pf_75 : plainFn Tryz.prog 75 = true := by kernel_rfl
theorem pf_76 : plainFn Tryz.prog 76 = true := by kernel_rfl
theorem pf_77 : plainFn Tryz.prog 77 = true := by kernel_rfl
theorem pf_78 : plainFn Tryz.prog 78 = true := by kernel_rfl
theorem pf_79 : plainFn Tryz.prog 79 = true := by kernel_rfl
theorem pf_80 : plainFn Tryz.prog 80 = true := by kernel_rfl
theorem pf_81 : plainFn Tryz.prog 81 = true := by kernel_rfl
theorem pf_82 : plainFn Tryz.prog 82 = true := by kernel_rfl
theorem pf_83 : plainFn Tryz.prog 83 = true := by kernel_rfl
theorem pf_84 : plainFn Tryz.prog 84 = true := by kernel_rfl
theorem pf_85 : plainFn Tryz.prog 85 = true := by kernel_rfl
theorem pf_86 : plainFn Tryz.prog 86 = true := by kernel_rfl
theorem pf_9 : plainFn Tryz.prog 9 = true := by kernel_rfl
theorem pf_97 : plainFn Tryz.prog 97 = true := by kernel_rfl
theorem pf_98 : plainFn Tryz.prog 98 = true := by kernel_rfl
theorem pf_99 : plainFn Tryz.prog 99 = true := by kernel_rfl
theorem sf_149 : SliceFact Tryz.prog 149 3 1 8 := sliceFact (by kernel_rfl)
theorem sf_23 : SliceFact Tryz.prog 23 9 1 16 := sliceFact (by kernel_rfl)
theorem sf_26 : SliceFact Tryz.prog 26 28 10 160 := sliceFact (by kernel_rfl)
theorem sf_29 : SliceFact Tryz.prog 29 41 3 48 := sliceFact (by kernel_rfl)
theorem sf_37 : SliceFact Tryz.prog 37 39 2 32 := sliceFact (by kernel_rfl)
theorem sf_47 : SliceFact Tryz.prog 47 5 1 1 := sliceFact (by kernel_rfl)
theorem sf_77 : SliceFact Tryz.prog 77 83 3 32 := sliceFact (by kernel_rfl)
theorem sf_94 : SliceFact Tryz.prog 94 37 1 24 := sliceFact (by kernel_rfl)
theorem spl_131 : structPl Tryz.prog 131 = some [(0, 1), (1, 1)] := by kernel_rfl
theorem spl_133 : structPl Tryz.prog 133 = some [(0, 1), (1, 1)] := by kernel_rfl
theorem spl_25 : structPl Tryz.prog 25 = some [(0, 1), (1, 1), (2, 1), (3, 1), (4, 1), (5, 1)] := by kernel_rfl
theorem spl_28 : structPl Tryz.prog 28 = some [(0, 1), (1, 1), (2, 6), (8, 1), (9, 1)] := by kernel_rfl
theorem spl_39 : structPl Tryz.prog 39 = some [(0, 1), (1, 1)] := by kernel_rfl
theorem spl_41 : structPl Tryz.prog 41 = some [(0, 1), (1, 2)] := by kernel_rfl
theorem spl_83 : structPl Tryz.prog 83 = some [(0, 1), (1, 1), (2, 1)] := by kernel_rfl
theorem taN_133 (w : Go.World) : (Instr.typeAssert .nilIface 20 133 true).run Tryz.prog w = .ok (.tuple #[.agg #[.int .i64 0, .int .i64 0], .bool false]) w := by kernel_rfl
theorem taY_133 (v : Value) (w : Go.World) : (Instr.typeAssert (.iface 133 v) 20 133 true).run Tryz.prog w = .ok (.tuple #[v, .bool true]) w := by kernel_rfl
theorem ti_133 : tyInfo Tryz.prog 133 = some (true, 2) := by kernel_rfl
theorem ti_153 : tyInfo Tryz.prog 153 = some (false, 1) := by kernel_rfl
theorem ti_23 : tyInfo Tryz.prog 23 = some (false, 1) := by kernel_rfl
theorem ti_25 : tyInfo Tryz.prog 25 = some (true, 6) := by kernel_rfl
theorem ti_28 : tyInfo Tryz.prog 28 = some (true, 10) := by kernel_rfl
theorem ti_3 : tyInfo Tryz.prog 3 = some (false, 1) := by kernel_rfl
theorem ti_33 : tyInfo Tryz.prog 33 = some (false, 1) := by kernel_rfl
theorem ti_37 : tyInfo Tryz.prog 37 = some (false, 1) := by kernel_rfl
theorem ti_39 : tyInfo Tryz.prog 39 = some (true, 2) := by kernel_rfl
theorem ti_41 : tyInfo Tryz.prog 41 = some (true, 3) := by kernel_rfl
theorem ti_47 : tyInfo Tryz.prog 47 = some (false, 1) := by kernel_rfl
theorem ti_50 : tyInfo Tryz.prog 50 = some (false, 1) := by kernel_rfl
theorem ti_77 : tyInfo Tryz.prog 77 = some (false, 1) := by kernel_rfl
theorem ti_83 : tyInfo Tryz.prog 83 = some (true, 3) := by kernel_rfl
theorem ti_9 : tyInfo Tryz.prog 9 = some (false, 1) := by kernel_rfl
theorem ti_93 : tyInfo Tryz.prog 93 = some (true, 8) := by kernel_rfl
theorem un_23 : Tryz.prog.underlying 23 = some (.slice 9) := by kernel_rfl
theorem un_3 : Tryz.prog.underlying 3 = some (.int .i64) := by kernel_rfl
theorem un_47 : Tryz.prog.underlying 47 = some (.slice 5) := by kernel_rfl
theorem un_5 : Tryz.prog.underlying 5 = some (.int .u8) := by kernel_rfl
theorem un_9 : Tryz.prog.underlying 9 = some (.string) := by kernel_rfl
theorem up_153 : Tryz.prog.underlying 153 = some (.pointer 155) := by kernel_rfl
theorem uq_173 : Tryz.prog.underlying 173 = some (.pointer 5) := by kernel_rfl
theorem uu_178 : Tryz.prog.underlying 178 = some .unsafePointer := by kernel_rfl
theorem zi_3 : (Tryz.prog.info? 3).map (·.zero) = some (some (.int .i64 0)) := by kernel_rfl
theorem zp_131 : zeroPV Tryz.prog 131 = some [.own (.slice none 0 0) [], .int .i64 0] := by kernel_rfl
theorem zp_133 : zeroPV Tryz.prog 133 = some [.int .i64 0, .int .i64 0] := by kernel_rfl
theorem zp_155 : zeroPV Tryz.prog 155 = some [.val (.pointer none), .own (.slice none 0 0) []] := by kernel_rfl
theorem zp_23 : zeroPV Tryz.prog 23 = some [.own (.slice none 0 0) []] := by kernel_rfl
theorem zp_25 : zeroPV Tryz.prog 25 = some [.int .i64 0, .bool false, .int .i64 0, .str [], .own (.slice none 0 0) [], .own (.slice none 0 0) []] := by kernel_rfl
theorem zp_28 : zeroPV Tryz.prog 28 = some [.int .i64 0, .str [], .int .i64 0, .bool false, .int .i64 0, .str [], .own (.slice none 0 0) [], .own (.slice none 0 0) [], .own (.slice none 0 0) [], .own (.slice none 0 0) []] := by kernel_rfl
theorem zp_3 : zeroPV Tryz.prog 3 = some [.int .i64 0] := by kernel_rfl
theorem zp_33 : zeroPV Tryz.prog 33 = some [.int .i64 0] := by kernel_rfl
theorem zp_39 : zeroPV Tryz.prog 39 = some [.int .i64 0, .own (.slice none 0 0) []] := by kernel_rfl
theorem zp_41 : zeroPV Tryz.prog 41 = some [.str [], .int .i64 0, .own (.slice none 0 0) []] := by kernel_rfl
theorem zp_50 : zeroPV Tryz.prog 50 = some [.val .nilFunc] := by kernel_rfl
theorem zp_83 : zeroPV Tryz.prog 83 = some [.int .i64 0, .str [], .int .i64 0] := by kernel_rfl
theorem zp_93 : zeroPV Tryz.prog 93 = some [.str [], .str [], .str [], .str [], .str [], .str [], .str [], .str []] := by kernel_rfl
def FX : Facts := { ti := [(3, false, 1), (4, false, 1), (5, false, 1), (9, false, 1), (22, false, 1), (23, false, 1), (25, true, 6), (26, false, 1), (28, true, 10), (33, false, 1), (37, false, 1), (39, true, 2), (41, true, 3), (83, true, 3), (131, true, 2), (133, true, 2)], fo := [(25, 0, 0), (25, 1, 1), (25, 2, 2), (25, 3, 3), (25, 4, 4), (25, 5, 5), (28, 0, 0), (28, 1, 1), (28, 2, 2), (28, 3, 8), (28, 4, 9), (39, 0, 0), (39, 1, 1), (41, 0, 0), (41, 1, 1), (83, 0, 0), (83, 1, 1), (83, 2, 2), (131, 0, 0), (131, 1, 1), (133, 0, 0), (133, 1, 1)], fd := [], str := [] }
theorem FX_ok : FX.okB Tryz.prog = true := by kernel_rfl
theorem cs {n : Nat} {all : Array Oper} {σ : List Res} {ds : List Deferred} {Q : Post} (k : Nat) {l l' : List Oper} {env env' : Env} (h : pevs FX all n k l env = some (env', l')) (hr : AR Tryz.prog n all l' env' σ ds Q) : AR Tryz.prog n all l env σ ds Q := AR.cs FX_ok k h hr

theorem c_bld_copyCheck {b : Nat} {v p : Value} {bs : List UInt8} (hp : p = Value.pointer none ∨ p = .pointer (some ⟨b, 0, none⟩)) {R : AOut → List Res → Prop} (h : R (.ret (.tuple [])) [.tbox b 155 [.val (.pointer (some ⟨b, 0, none⟩)), .own v (bs.map byteC)], .row v bs.length 1 5]) :
    AC Tryz.prog 156 [.val (.pointer (some ⟨b, 0, none⟩))] [.tbox b 155 [.val p, .own v (bs.map byteC)], .row v bs.length 1 5] R := by
  obtain ⟨j, hj1, hj2⟩ := inB
  rcases hp with rfl | rfl
  · skip
    refine AC.of_body 20 [] [0] Tryz.func156 rfl rfl rfl rfl rfl ?_
    refine AW.seq ?_
    refine AW.region ?_
    refine AR.step rfl rfl rfl (AO.calc' rfl ?_)
    refine AR.step rfl rfl rfl (AO.nilCheck rfl rfl ?_)
    refine AR.step rfl rfl rfl (AO.fieldAddr_ptr rfl rfl fo_155_0 ?_)
    refine AR.step rfl rfl rfl (AO.load_tbox (i := 0) rfl rfl rfl ti_153 rfl rfl ?_)
    refine AR.step rfl rfl rfl (AO.ptr_nil rfl up_153 rfl rfl ?_)
    refine AR.nil [0, 6] rfl ?_
    refine AW.cond rfl (fun h1 => ?_) (fun h1 => ?_)
    · refine AW.region ?_
      refine AR.step rfl rfl rfl (AO.calc' rfl ?_)
      refine AR.step rfl rfl rfl (AO.calc' rfl ?_)
      refine AR.step rfl rfl rfl (AO.to_unsafe (i := 0) rfl up_153 uu_178 hj1 hj2 rfl rfl rfl ?_)
      refine AR.step rfl rfl rfl (AO.noEscape rfl rfl rfl rfl Tryz.func166 (by kernel_rfl) (by kernel_rfl) (by kernel_rfl) (by kernel_rfl) rfl ?_)
      refine AR.step rfl rfl rfl (AO.from_unsafe (i := 0) rfl uu_178 up_153 hj1 rfl rfl rfl liesB ?_)
      refine AR.step rfl rfl rfl (AO.nilCheck rfl rfl ?_)
      refine AR.step rfl rfl rfl (AO.fieldAddr_ptr rfl rfl fo_155_0 ?_)
      refine AR.step_none rfl rfl (AO.store_tbox (i := 0) rfl rfl rfl ti_153 rfl rfl rfl rfl rfl ?_)
      refine AR.nil [] rfl ?_
      exact ⟨rfl, [], rfl, _, List.Sublist.refl _, h⟩
    · cases h1
  · skip
    refine AC.of_body 20 [] [0] Tryz.func156 rfl rfl rfl rfl rfl ?_
    refine AW.seq ?_
    refine AW.region ?_
    refine AR.step rfl rfl rfl (AO.calc' rfl ?_)
    refine AR.step rfl rfl rfl (AO.nilCheck rfl rfl ?_)
    refine AR.step rfl rfl rfl (AO.fieldAddr_ptr rfl rfl fo_155_0 ?_)
    refine AR.step rfl rfl rfl (AO.load_tbox (i := 0) rfl rfl rfl ti_153 rfl rfl ?_)
    refine AR.step rfl rfl rfl (AO.ptr_nil rfl up_153 rfl rfl ?_)
    refine AR.nil [0, 6] rfl ?_
    refine AW.cond rfl (fun h1 => ?_) (fun h1 => ?_)
    · cases h1
    · refine AW.seq ?_
      refine AW.region ?_
      refine AR.step rfl rfl rfl (AO.calc' rfl ?_)
      refine AR.step rfl rfl rfl (AO.nilCheck rfl rfl ?_)
      refine AR.step rfl rfl rfl (AO.fieldAddr_ptr rfl rfl fo_155_0 ?_)
      refine AR.step rfl rfl rfl (AO.load_tbox (i := 0) rfl rfl rfl ti_153 rfl rfl ?_)
      refine AR.step rfl rfl rfl (AO.calc' rfl ?_)
      refine AR.step rfl rfl rfl (AO.ptr_neq_same rfl up_153 hj1 rfl rfl ?_)
      refine AR.nil [19] rfl ?_
      refine AW.cond rfl (fun h2 => ?_) (fun h2 => ?_)
      · cases h2
      · refine AW.skip ?_
        exact ⟨rfl, [], rfl, _, List.Sublist.refl _, h⟩

theorem c_bld_WriteByte {b : Nat} {v : Value} {bs r : List UInt8} {c : UInt8} (hv : app bs [c] = some r) {R : AOut → List Res → Prop} (h : ∀ v', R (.ret (.val .nilIface)) [.bld b v' 155 5 r]) : AC Tryz.prog 144 [.val (.pointer (some ⟨b, 0, none⟩)), .int .u8 (c.toNat : Int)] [.bld b v 155 5 bs] R := by
  refine AC.bld fun p hp hroom => ?_
  refine AC.of_body 17 [.tmp 4] [0, 1] Tryz.func144 rfl rfl rfl rfl rfl ?_
  refine AW.seq ?_
  refine AW.region ?_
  refine AR.step rfl rfl rfl (AO.calc' rfl ?_)
  refine AR.nil [0, 1] rfl ?_
  refine AW.seq ?_
  refine AW.region ?_
  refine AR.step rfl rfl rfl (AO.calc' rfl ?_)
  refine AR.step rfl rfl rfl (AO.call rfl _ rfl rfl pf_156 (c_bld_copyCheck hp ?_))
  refine AR.nil [0, 1] rfl ?_
  refine AW.seq ?_
  refine AW.region ?_
  refine AR.step rfl rfl rfl (AO.calc' rfl ?_)
  refine AR.step rfl rfl rfl (AO.calc' rfl ?_)
  refine AR.step rfl rfl rfl (AO.nilCheck rfl rfl ?_)
  refine AR.step rfl rfl rfl (AO.fieldAddr_ptr rfl rfl fo_155_1 ?_)
  refine AR.step rfl rfl rfl (AO.load_tbox (i := 0) rfl rfl rfl ti_47 rfl rfl ?_)
  refine AR.step rfl rfl rfl (AO.calc' rfl ?_)
  refine AR.step rfl rfl rfl (AO.buildSlice rfl sf_47 rfl rfl rfl ?_)
  refine AR.step rfl rfl rfl (AO.app_bytes (i := 1) hv rfl rfl rfl rfl rfl (SrcPV.list rfl es_47 (by simp [byteC]) (by simp [byteC, PV.one])) rfl sf_47 (fun v' s1 hs1 hr1 => ?_))
  cases hs1
  refine AR.step rfl rfl rfl (AO.nilCheck rfl rfl ?_)
  refine AR.step rfl rfl rfl (AO.fieldAddr_ptr rfl rfl fo_155_1 ?_)
  refine AR.step_none rfl rfl (AO.store_tbox (i := 0) rfl rfl rfl ti_47 rfl rfl rfl rfl rfl ?_)
  refine AR.nil [1] rfl ?_
  refine AW.seq ?_
  refine AW.region ?_
  refine AR.step rfl rfl rfl (AO.calc' rfl ?_)
  refine AR.nil [4] rfl ?_
  refine AW.ret ?_
  exact ⟨rfl, _, ⟨_, _, rfl, rfl, rfl⟩, _, List.Sublist.refl _, _, v', r, rfl, .inr rfl, hr1 hroom, h v'⟩

theorem c_bld_Len {b : Nat} {v : Value} {bs : List UInt8} {R : AOut → List Res → Prop} (h : R (.ret (.int .i64 (bs.length : Int))) [.bld b v 155 5 bs]) : AC Tryz.prog 140 [.val (.pointer (some ⟨b, 0, none⟩))] [.bld b v 155 5 bs] R := by
  refine AC.bld fun p hp hroom => ?_
  refine AC.of_body 8 [.tmp 2] [0] Tryz.func140 rfl rfl rfl rfl rfl ?_
  refine AW.seq ?_
  refine AW.region ?_
  refine AR.step rfl rfl rfl (AO.calc' rfl ?_)
  refine AR.nil [0] rfl ?_
  refine AW.seq ?_
  refine AW.region ?_
  refine AR.step rfl rfl rfl (AO.calc' rfl ?_)
  refine AR.step rfl rfl rfl (AO.nilCheck rfl rfl ?_)
  refine AR.step rfl rfl rfl (AO.fieldAddr_ptr rfl rfl fo_155_1 ?_)
  refine AR.step rfl rfl rfl (AO.load_tbox (i := 0) rfl rfl rfl ti_47 rfl rfl ?_)
  refine AR.step rfl rfl rfl (AO.len_list (l := bs) rfl rfl rfl rfl es_47 rfl rfl ?_)
  refine AR.step rfl rfl rfl (AO.calc' rfl ?_)
  refine AR.nil [2] rfl ?_
  refine AW.ret ?_
  exact ⟨rfl, _, ⟨_, _, rfl, rfl, rfl⟩, _, List.Sublist.refl _, p, v, bs, rfl, hp, hroom, h⟩

theorem c_bld_String {b : Nat} {v : Value} {bs : List UInt8} {R : AOut → List Res → Prop} (h : R (.ret (.str bs)) []) : AC Tryz.prog 141 [.val (.pointer (some ⟨b, 0, none⟩))] [.bld b v 155 5 bs] R := by
  refine AC.bld_end fun p hroom => ?_
  refine AC.of_body 14 [.tmp 2] [0] Tryz.func141 rfl rfl rfl rfl rfl ?_
  refine AW.seq ?_
  refine AW.region ?_
  refine AR.step rfl rfl rfl (AO.calc' rfl ?_)
  refine AR.nil [0] rfl ?_
  refine AW.seq ?_
  refine AW.draw 10 mixed (by kernel_rfl) rfl ?_
  refine Ev.cons rfl rfl rfl (AO.calc' rfl ⟨rfl, rfl⟩) ?_
  refine Ev.cons rfl rfl rfl (AO.nilCheck rfl rfl ⟨rfl, rfl⟩) ?_
  refine Ev.cons rfl rfl rfl (AO.fieldAddr_ptr rfl rfl fo_155_1 ⟨rfl, rfl⟩) ?_
  refine Ev.cons rfl rfl rfl (AO.load_tbox (i := 0) rfl rfl rfl ti_47 rfl rfl ⟨rfl, rfl⟩) ?_
  refine Ev.cons rfl rfl rfl (AO.sliceData rfl rfl rfl rfl hroom ⟨rfl, rfl⟩) ?_
  refine Ev.cons rfl rfl rfl (AO.calc' rfl ⟨rfl, rfl⟩) ?_
  refine Ev.cons rfl rfl rfl (AO.nilCheck rfl rfl ⟨rfl, rfl⟩) ?_
  refine Ev.cons rfl rfl rfl (AO.fieldAddr_ptr rfl rfl fo_155_1 ⟨rfl, rfl⟩) ?_
  refine Ev.cons rfl rfl rfl (AO.load_tbox (i := 0) rfl rfl rfl ti_47 rfl rfl ⟨rfl, rfl⟩) ?_
  refine Ev.cons rfl rfl rfl (AO.len_list (l := bs) rfl rfl rfl rfl es_47 rfl rfl ⟨rfl, rfl⟩) ?_
  refine Ev.nil ?_
  show AR _ _ _ _ _ _ _ _
  refine AR.step rfl rfl rfl (AO.unsafeString rfl rfl rfl rfl uq_173 ce_5 rfl rfl rfl ?_)
  refine AR.step rfl rfl rfl (AO.calc' rfl ?_)
  refine AR.nil [2] rfl ?_
  refine AW.ret ?_
  exact ⟨rfl, _, ⟨_, _, rfl, rfl, rfl⟩, [], List.nil_sublist _, h⟩

theorem w_r10_Count (go_r10_Count : ApiExpr → Option Int) (go_r10_CountH : ∀ (ue1 : ApiExpr) {urr1x0 : Int}, go_r10_Count ue1 = some urr1x0 → ∀ {τ : List Res} {Q : AOut → List Res → Prop} (h : Q (.ret (.int .i64 urr1x0)) τ), AC Tryz.prog 13 [.agg [.int .i64 ue1.kind, .str ue1.name, .int .i64 ue1.value.kind, .bool ue1.value.bool_, .int .i64 ue1.value.int_, .str ue1.value.str_, .list (ApiValue.cellsL ue1.value.list_), .list (List.map strC ue1.value.keys), .list (ApiExpr.cellsL ue1.args), .list (List.map strC ue1.keys)]] τ Q) (e1 : ApiExpr) {r0 : Int} (hf : r10_Count_b go_r10_Count e1 = some r0) {τ : List Res} {Q : AOut → List Res → Prop} (h : Q (.ret (.int .i64 r0)) τ) : AC Tryz.prog 13 [.agg [.int .i64 e1.kind, .str e1.name, .int .i64 e1.value.kind, .bool e1.value.bool_, .int .i64 e1.value.int_, .str e1.value.str_, .list (ApiValue.cellsL e1.value.list_), .list (List.map strC e1.value.keys), .list (ApiExpr.cellsL e1.args), .list (List.map strC e1.keys)]] τ Q := by
 unfold r10_Count_b at hf
 refine AC.none (AC.of_body 21 [.tmp 2] [0] Tryz.func13 rfl rfl rfl rfl rfl (AW.sr (AR.step rfl rfl rfl (AO.box_ref rfl rfl rfl ?_))))
 refine cs 1 rfl (AR.nil [1] rfl (AW.sr (cs 1 rfl ?_)))
 refine AR.nil [1, 3] rfl (AW.seq (AW.sr (cs 1 rfl ?_)))
 refine AR.nil [1, 3, 4] rfl (AW.block (AW.settle [1, 3, 4] rfl (AW.loopF2 (fun n1 i1 => [(1, .ref [.int .i64 e1.kind, .str e1.name, .int .i64 e1.value.kind, .bool e1.value.bool_, .int .i64 e1.value.int_, .str e1.value.str_, .list (ApiValue.cellsL e1.value.list_), .list (List.map strC e1.value.keys), .list (ApiExpr.cellsL e1.args), .list (List.map strC e1.keys)]), (3, .int .i64 n1), (4, .int .i64 i1)]) (fun n1 i1 => []) (fun kk1 n1 i1 => r10_Count_l1 go_r10_Count e1 kk1 n1 i1 = some r0) BIG 1 0 rfl rfl hf (fun _ _ hz => none_no hz) ?_)))
 intro kk1 n1 i1 hf
 rw [r10_Count_l1] at hf
 refine AW.seq (AW.sr (cs 3 rfl (AR.step rfl rfl rfl (AO.len_list (l := e1.args) rfl rfl rfl rfl es_26 rfl (ApiExpr.cellsL_eq _) ?_))))
 refine cs 1 rfl (AR.nil [1, 3, 4, 9] rfl (AW.cond rfl (fun h1 => ?_) (fun h1 => ?_)))
 ·
  replace hf := ite_T h1 hf
  refine AW.skip (AW.seq (AW.block (AW.region ?_)))
  refine cs 4 rfl ?_
  obtain ⟨e2, h2, hf⟩ := bind1_inv hf
  refine AR.step rfl rfl rfl (AO.idx_list h2 rfl rfl (ApiExpr.cellsL_eq _) rfl es_26 (ApiExpr.cells_eq _) rfl (cs 1 rfl ?_))
  obtain ⟨x1, h3, hf⟩ := bind1_inv hf
  refine AR.step rfl rfl rfl (AO.call rfl _ rfl rfl pf_13 (go_r10_CountH _ h3 (cs 2 rfl (AR.nil [1, 3, 4] rfl (AW.region ?_)))))
  refine cs 3 rfl (AR.nil [1, 3, 4] rfl ?_)
  exact ⟨(w64 (n1 + x1)), (w64 (i1 + 1)), rfl, rfl, rfl, hf⟩
 ·
  replace hf := ite_F h1 hf
  refine AW.exit (AW.sr (cs 2 rfl (AR.nil [2] rfl ?_)))
  refine AW.ret ?_
  cases hf
  exact ⟨rfl, _, ⟨_, _, rfl, rfl, rfl⟩, [], List.nil_sublist _, h⟩

theorem n_r10_Count : ∀ k : Nat, (∀ (ue1 : ApiExpr) {urr1x0 : Int}, r10_Count_n k ue1 = some urr1x0 → ∀ {τ : List Res} {Q : AOut → List Res → Prop} (h : Q (.ret (.int .i64 urr1x0)) τ), AC Tryz.prog 13 [.agg [.int .i64 ue1.kind, .str ue1.name, .int .i64 ue1.value.kind, .bool ue1.value.bool_, .int .i64 ue1.value.int_, .str ue1.value.str_, .list (ApiValue.cellsL ue1.value.list_), .list (List.map strC ue1.value.keys), .list (ApiExpr.cellsL ue1.args), .list (List.map strC ue1.keys)]] τ Q) := by
 intro k
 induction k with
 | zero => exact fun _ _ hz => by first | cases hz | (unfold r10_Count_n at hz; cases hz)
 | succ k ih => exact fun ue1 urr1x0 hz τ Q hq => w_r10_Count (r10_Count_n k) ih ue1 hz hq
theorem c_r10_Count (ue1 : ApiExpr) {urr1x0 : Int} (hf : r10_Count ue1 = some urr1x0) {τ : List Res} {Q : AOut → List Res → Prop} (h : Q (.ret (.int .i64 urr1x0)) τ) : AC Tryz.prog 13 [.agg [.int .i64 ue1.kind, .str ue1.name, .int .i64 ue1.value.kind, .bool ue1.value.bool_, .int .i64 ue1.value.int_, .str ue1.value.str_, .list (ApiValue.cellsL ue1.value.list_), .list (List.map strC ue1.value.keys), .list (ApiExpr.cellsL ue1.args), .list (List.map strC ue1.keys)]] τ Q :=
 ((n_r10_Count BIG)) ue1 hf h

theorem c_l11_small  (e1 : ApiExpr) (n1 : Int) {r0 : Bool} (hf : l11_small e1 n1 = some r0) {τ : List Res} {Q : AOut → List Res → Prop} (h : Q (.ret (.bool r0)) τ) : AC Tryz.prog 5 [.agg [.int .i64 e1.kind, .str e1.name, .int .i64 e1.value.kind, .bool e1.value.bool_, .int .i64 e1.value.int_, .str e1.value.str_, .list (ApiValue.cellsL e1.value.list_), .list (List.map strC e1.value.keys), .list (ApiExpr.cellsL e1.args), .list (List.map strC e1.keys)], .int .i64 n1] τ Q := by
 unfold l11_small at hf
 refine AC.none (AC.of_body 12 [.tmp 4] [0, 1] Tryz.func5 rfl rfl rfl rfl rfl (AW.sr (AR.step rfl rfl rfl (AO.box_ref rfl rfl rfl ?_))))
 refine cs 1 rfl (AR.nil [1, 2] rfl (AW.sr (cs 1 rfl ?_)))
 obtain ⟨x1, h1, hf⟩ := bind1_inv hf
 refine AR.step rfl rfl rfl (AO.call rfl _ rfl rfl pf_13 (c_r10_Count _ h1 (cs 2 rfl (AR.and 3 8 11 [] (x := (decide (n1 ≤ 300))) rfl rfl (fun h2 => ?_) (fun h2 => ?_) ?_))))
 ·
  refine AR.is 8 h2 rfl (cs 3 rfl (AR.nil [11] rfl ?_))
  exact ⟨rfl, rfl, rfl, rfl⟩
 ·
  refine AR.is 8 h2 rfl (cs 3 rfl (AR.nil [11] rfl ?_))
  exact ⟨rfl, rfl, rfl, rfl⟩
 refine cs 1 rfl (AR.nil [4] rfl (AW.ret ?_))
 cases hf
 exact ⟨rfl, _, ⟨_, _, rfl, rfl, rfl⟩, [], List.nil_sublist _, h⟩

theorem c_lexer_Tokens_1  (rx1 : Int) {r0 : Bool} (hf : lexer_Tokens_1 rx1 = some r0) {τ : List Res} {Q : AOut → List Res → Prop} (h : Q (.ret (.bool r0)) τ) : AC Tryz.prog 81 [.int .i32 rx1] τ Q := by
 unfold lexer_Tokens_1 at hf
 refine AC.none (AC.of_body 9 [.tmp 2] [0] Tryz.func81 rfl rfl rfl rfl rfl (AW.sr (cs 1 rfl ?_)))
 refine AR.nil [0] rfl (AW.sr (cs 3 rfl (AR.or 3 5 8 [] (x := (rx1 == 9)) rfl rfl (fun h1 => ?_) (fun h1 => ?_) ?_)))
 ·
  refine AR.is 5 h1 rfl (cs 3 rfl (AR.nil [8] rfl ?_))
  exact ⟨rfl, rfl, rfl, rfl⟩
 ·
  refine AR.is 5 h1 rfl (cs 3 rfl (AR.nil [8] rfl ?_))
  exact ⟨rfl, rfl, rfl, rfl⟩
 refine cs 1 rfl (AR.nil [2] rfl (AW.ret ?_))
 cases hf
 exact ⟨rfl, _, ⟨_, _, rfl, rfl, rfl⟩, [], List.nil_sublist _, h⟩

theorem c_lexer_while  (s1 : Str) (at1 : Int) (class1 : UInt8 → Option Bool) (class1F : FuncId) (class1C : List PV) (class1P : plainFn Tryz.prog class1F = true) (class1H : ∀ a0 b0, class1 a0 = some b0 → ∀ {τ : List Res} {Q : AOut → List Res → Prop}, Q (.ret (.bool b0)) τ → AC Tryz.prog class1F ([.int .u8 (a0.toNat : Int)] ++ class1C) τ Q) {r0 : Int} (hf : lexer_while s1 at1 class1 = some r0) {τ : List Res} {Q : AOut → List Res → Prop} (h : Q (.ret (.int .i64 r0)) τ) : AC Tryz.prog 82 [.str s1, .int .i64 at1, .fn class1F class1C] τ Q := by
 unfold lexer_while at hf
 refine AC.none (AC.of_body 21 [.tmp 6] [0, 1, 2] Tryz.func82 rfl rfl rfl rfl rfl (AW.sr (cs 1 rfl ?_)))
 refine AR.nil [0, 1, 2] rfl (AW.seq (AW.block (AW.settle [0, 1, 2] rfl ?_)))
 refine AW.loopF1 (fun at2 => [(0, .str s1), (1, .int .i64 at2), (2, .fn class1F class1C)]) (fun at2 => []) (fun kk1 at2 => lexer_while_l1 s1 class1 kk1 at2 = some r0) BIG at1 rfl rfl hf (fun _ hz => none_no hz) ?_
 intro kk1 at2 hf
 rw [lexer_while_l1] at hf
 refine AW.seq (AW.sr (cs 2 rfl (AR.step rfl rfl rfl (AO.len_str rfl rfl rfl rfl un_9 rfl ?_))))
 refine cs 2 rfl ?_
 obtain ⟨b1, h2, hf⟩ := bind1_inv hf
 refine AR.join1 6 11 17 true [0, 1, 2] b1 rfl rfl (fun h1 => ?_) (fun h1 => ?_) ?_
 ·
  replace h2 := ite_T h1 h2
  refine AR.is 11 h1 rfl (cs 3 rfl ?_)
  obtain ⟨x1, h3, h2⟩ := bind1_inv h2
  refine AR.go rfl rfl rfl rfl rfl rfl (AO.idx_str h3 rfl un_9 rfl rfl ?_)
  replace h2 := (bind1_ret _).trans h2
  obtain ⟨x2, h4, h2⟩ := bind1_inv h2
  refine AR.go rfl rfl rfl rfl rfl rfl (AO.call rfl _ rfl rfl class1P (class1H _ _ h4 ?_))
  obtain rfl := Option.some.inj h2
  refine cs 1 rfl (AR.nil [17, 0, 1, 2] rfl ?_)
  exact ⟨rfl, rfl, rfl, rfl⟩
 ·
  replace h2 := ite_F h1 h2
  refine AR.is 11 h1 rfl ?_
  obtain rfl := Option.some.inj h2
  refine cs 6 rfl (AR.nil [17, 0, 1, 2] rfl ?_)
  exact ⟨rfl, rfl, rfl, rfl⟩
 refine AR.nil [0, 1, 2, 17] rfl (AW.cond rfl (fun h5 => ?_) (fun h5 => ?_))
 ·
  replace hf := ite_T h5 hf
  refine AW.skip (AW.block (AW.region (cs 3 rfl ?_)))
  refine AR.nil [0, 1, 2] rfl ?_
  exact ⟨(w64 (at2 + 1)), rfl, rfl, rfl, hf⟩
 ·
  replace hf := ite_F h5 hf
  refine AW.exit (AW.sr (cs 2 rfl (AR.nil [6] rfl ?_)))
  refine AW.ret ?_
  cases hf
  exact ⟨rfl, _, ⟨_, _, rfl, rfl, rfl⟩, [], List.nil_sublist _, h⟩

theorem c_lexer_Tokens_2  (c1 : UInt8) {r0 : Bool} (hf : lexer_Tokens_2 c1 = some r0) {τ : List Res} {Q : AOut → List Res → Prop} (h : Q (.ret (.bool r0)) τ) : AC Tryz.prog 83 [.int .u8 (c1.toNat : Int)] τ Q := by
 unfold lexer_Tokens_2 at hf
 refine AC.none (AC.of_body 5 [.tmp 2] [0] Tryz.func83 rfl rfl rfl rfl rfl (AW.sr (cs 1 rfl ?_)))
 refine AR.nil [0] rfl (AW.sr (cs 3 rfl (AR.nil [2] rfl ?_)))
 refine AW.ret ?_
 cases hf
 exact ⟨rfl, _, ⟨_, _, rfl, rfl, rfl⟩, [], List.nil_sublist _, h⟩

theorem c_lexer_letter  (c1 : UInt8) {r0 : Bool} (hf : lexer_letter c1 = some r0) {τ : List Res} {Q : AOut → List Res → Prop} (h : Q (.ret (.bool r0)) τ) : AC Tryz.prog 112 [.int .u8 (c1.toNat : Int)] τ Q := by
 unfold lexer_letter at hf
 refine AC.none (AC.of_body 21 [.tmp 2] [0] Tryz.func112 rfl rfl rfl rfl rfl (AW.sr (cs 1 rfl ?_)))
 refine AR.nil [0] rfl (AW.sr (cs 3 rfl (AR.and 3 5 8 [0] (x := (decide ((c1.toNat : Int) ≤ 122))) rfl rfl (fun h1 => ?_) (fun h1 => ?_) ?_)))
 ·
  refine AR.is 5 h1 rfl (cs 3 rfl (AR.nil [8, 0] rfl ?_))
  exact ⟨rfl, rfl, rfl, rfl⟩
 ·
  refine AR.is 5 h1 rfl (cs 3 rfl (AR.nil [8, 0] rfl ?_))
  exact ⟨rfl, rfl, rfl, rfl⟩
 refine cs 1 rfl (AR.or 7 9 16 [0] (x := ((decide (65 ≤ (c1.toNat : Int))) && (decide ((c1.toNat : Int) ≤ 90)))) rfl rfl (fun h2 => ?_) (fun h2 => ?_) ?_)
 ·
  refine AR.is 9 h2 rfl (cs 3 rfl (AR.and 3 12 15 [0, 9] (x := (decide ((c1.toNat : Int) ≤ 90))) rfl rfl (fun h3 => ?_) (fun h3 => ?_) ?_))
  ·
   refine AR.is 12 h3 rfl (cs 3 rfl (AR.nil [15, 0, 9] rfl ?_))
   exact ⟨rfl, rfl, rfl, rfl⟩
  ·
   refine AR.is 12 h3 rfl (cs 3 rfl (AR.nil [15, 0, 9] rfl ?_))
   exact ⟨rfl, rfl, rfl, rfl⟩
  refine cs 1 rfl (AR.nil [16, 0] rfl ?_)
  exact ⟨rfl, rfl, rfl, rfl⟩
 ·
  refine AR.is 9 h2 rfl (cs 7 rfl (AR.nil [16, 0] rfl ?_))
  exact ⟨rfl, rfl, rfl, rfl⟩
 refine cs 1 rfl (AR.or 3 17 20 [] (x := ((c1.toNat : Int) == 95)) rfl rfl (fun h4 => ?_) (fun h4 => ?_) ?_)
 ·
  refine AR.is 17 h4 rfl (cs 3 rfl (AR.nil [20] rfl ?_))
  exact ⟨rfl, rfl, rfl, rfl⟩
 ·
  refine AR.is 17 h4 rfl (cs 3 rfl (AR.nil [20] rfl ?_))
  exact ⟨rfl, rfl, rfl, rfl⟩
 refine cs 1 rfl (AR.nil [2] rfl (AW.ret ?_))
 cases hf
 exact ⟨rfl, _, ⟨_, _, rfl, rfl, rfl⟩, [], List.nil_sublist _, h⟩

theorem c_lexer_digit  (c1 : UInt8) {r0 : Bool} (hf : lexer_digit c1 = some r0) {τ : List Res} {Q : AOut → List Res → Prop} (h : Q (.ret (.bool r0)) τ) : AC Tryz.prog 114 [.int .u8 (c1.toNat : Int)] τ Q := by
 unfold lexer_digit at hf
 refine AC.none (AC.of_body 9 [.tmp 2] [0] Tryz.func114 rfl rfl rfl rfl rfl (AW.sr (cs 1 rfl ?_)))
 refine AR.nil [0] rfl (AW.sr (cs 3 rfl (AR.and 3 5 8 [] (x := (decide ((c1.toNat : Int) ≤ 57))) rfl rfl (fun h1 => ?_) (fun h1 => ?_) ?_)))
 ·
  refine AR.is 5 h1 rfl (cs 3 rfl (AR.nil [8] rfl ?_))
  exact ⟨rfl, rfl, rfl, rfl⟩
 ·
  refine AR.is 5 h1 rfl (cs 3 rfl (AR.nil [8] rfl ?_))
  exact ⟨rfl, rfl, rfl, rfl⟩
 refine cs 1 rfl (AR.nil [2] rfl (AW.ret ?_))
 cases hf
 exact ⟨rfl, _, ⟨_, _, rfl, rfl, rfl⟩, [], List.nil_sublist _, h⟩

theorem c_lexer_name_1  (c1 : UInt8) {r0 : Bool} (hf : lexer_name_1 c1 = some r0) {τ : List Res} {Q : AOut → List Res → Prop} (h : Q (.ret (.bool r0)) τ) : AC Tryz.prog 138 [.int .u8 (c1.toNat : Int)] τ Q := by
 unfold lexer_name_1 at hf
 refine AC.none (AC.of_body 9 [.tmp 2] [0] Tryz.func138 rfl rfl rfl rfl rfl (AW.sr (cs 1 rfl ?_)))
 refine AR.nil [0] rfl (AW.sr (cs 1 rfl ?_))
 obtain ⟨x1, h1, hf⟩ := bind1_inv hf
 refine AR.step rfl rfl rfl (AO.call rfl _ rfl rfl pf_112 (c_lexer_letter _ h1 (cs 1 rfl ?_)))
 replace hf := (bind1_ret _).trans hf
 obtain ⟨b1, h3, hf⟩ := bind1_inv hf
 refine AR.join1 3 5 8 false [] b1 rfl rfl (fun h2 => ?_) (fun h2 => ?_) ?_
 ·
  replace h3 := ite_F h2 h3
  refine AR.is 5 h2 rfl (cs 1 rfl ?_)
  replace h3 := (bind1_ret _).trans h3
  obtain ⟨x2, h4, h3⟩ := bind1_inv h3
  refine AR.go rfl rfl rfl rfl rfl rfl (AO.call rfl _ rfl rfl pf_114 (c_lexer_digit _ h4 ?_))
  obtain rfl := Option.some.inj h3
  refine cs 1 rfl (AR.nil [8] rfl ?_)
  exact ⟨rfl, rfl, rfl, rfl⟩
 ·
  replace h3 := ite_T h2 h3
  refine AR.is 5 h2 rfl ?_
  obtain rfl := Option.some.inj h3
  refine cs 3 rfl (AR.nil [8] rfl ?_)
  exact ⟨rfl, rfl, rfl, rfl⟩
 refine cs 1 rfl (AR.nil [2] rfl (AW.ret ?_))
 cases hf
 exact ⟨rfl, _, ⟨_, _, rfl, rfl, rfl⟩, [], List.nil_sublist _, h⟩

theorem c_lexer_name  (src1 : Str) (at1 : Int) {r0 : ApiToken} {r1 : Int} {r2 : Int} (hf : lexer_name src1 at1 = some (r0, r1, r2)) {τ : List Res} {Q : AOut → List Res → Prop} (h : Q (.ret (.tuple [.agg [.int .i64 r0.kind, .str r0.text, .int .i64 r0.at_], .int .i64 r1, .int .i64 r2])) τ) : AC Tryz.prog 113 [.str src1, .int .i64 at1] τ Q := by
 unfold lexer_name at hf
 refine AC.none (AC.of_body 23 [.cell 4 83, .tmp 5, .tmp 6] [0, 1] Tryz.func113 rfl rfl rfl rfl rfl (AW.sr (AR.step rfl rfl rfl (AO.alloc_own rfl zp_83 (fun b4 => ?_)))))
 refine cs 2 rfl (AR.nil [0, 1, 4] rfl (AW.sr (cs 2 rfl ?_)))
 obtain ⟨end1, h1, hf⟩ := bind1_inv hf
 refine AR.step rfl rfl rfl (AO.call rfl _ rfl rfl pf_82 (c_lexer_while _ _ lexer_name_1 138 [] pf_138 (fun _ _ hz => c_lexer_name_1 _  hz) h1 (cs 1 rfl (AR.nil [0, 1, 4, 7] rfl (AW.seq ?_)))))
 refine AW.sr (cs 4 rfl (AR.nil [0, 1, 4, 7, 14] rfl (AW.cond rfl (fun h2 => ?_) (fun h2 => ?_))))
 ·
  replace hf := ite_T h2 hf
  refine AW.sr (AR.step rfl rfl rfl (AO.build rfl zp_83 spl_83 rfl (AR.step_none rfl rfl (AO.store_box (i := 0) rfl rfl rfl ti_83 rfl rfl rfl rfl rfl (cs 2 rfl ?_)))))
  refine AR.nil [4, 5, 6] rfl (AW.ret ?_)
  cases hf
  exact ⟨rfl, _, ⟨_, _, rfl, ⟨_, _, 0, _, _, rfl, rfl, ti_83, rfl⟩, _, _, rfl, rfl, _, _, rfl, rfl, rfl⟩, [], List.nil_sublist _, h⟩
 ·
  replace hf := ite_F h2 hf
  refine AW.skip (AW.sr (cs 3 rfl ?_))
  obtain ⟨x1, h3, hf⟩ := bind1_inv hf
  refine AR.step rfl rfl rfl (AO.sl_str h3 rfl un_9 rfl ⟨_, rfl⟩ ⟨_, rfl⟩ (cs 1 rfl (AR.step rfl rfl rfl (AO.build rfl zp_83 spl_83 rfl (cs 1 rfl ?_)))))
  refine AR.step_none rfl rfl (AO.store_box (i := 0) rfl rfl rfl ti_83 rfl rfl rfl rfl rfl (cs 2 rfl (AR.nil [4, 5, 6] rfl (AW.ret ?_))))
  cases hf
  exact ⟨rfl, _, ⟨_, _, rfl, ⟨_, _, 0, _, _, rfl, rfl, ti_83, rfl⟩, _, _, rfl, rfl, _, _, rfl, rfl, rfl⟩, [], List.nil_sublist _, h⟩

theorem c_lexer_large  (digits1 : Str) {r0 : Bool} (hf : lexer_large digits1 = some r0) {τ : List Res} {Q : AOut → List Res → Prop} (h : Q (.ret (.bool r0)) τ) : AC Tryz.prog 139 [.str digits1] τ Q := by
 unfold lexer_large at hf
 refine AC.none (AC.of_body 25 [.tmp 2] [0] Tryz.func139 rfl rfl rfl rfl rfl (AW.sr (cs 1 rfl ?_)))
 refine AR.nil [0] rfl (AW.sr (cs 1 rfl (AR.nil [0, 3] rfl ?_)))
 refine AW.seq (AW.sr (cs 1 rfl (AR.nil [0, 3, 4] rfl ?_)))
 refine AW.block (AW.settle [0, 3, 4] rfl (AW.loopF2 (fun n1 i1 => [(0, .str digits1), (3, .int .i64 n1), (4, .int .i64 i1)]) (fun n1 i1 => []) (fun kk1 n1 i1 => lexer_large_l1 digits1 kk1 n1 i1 = some r0) BIG 0 0 rfl rfl hf (fun _ _ hz => none_no hz) ?_))
 intro kk1 n1 i1 hf
 rw [lexer_large_l1] at hf
 refine AW.seq (AW.sr (cs 2 rfl (AR.step rfl rfl rfl (AO.len_str rfl rfl rfl rfl un_9 rfl ?_))))
 refine cs 2 rfl (AR.and 3 9 12 [0, 3, 4] (x := (decide (n1 ≤ 9007199254740992))) rfl rfl (fun h1 => ?_) (fun h1 => ?_) ?_)
 ·
  refine AR.is 9 h1 rfl (cs 3 rfl (AR.nil [12, 0, 3, 4] rfl ?_))
  exact ⟨rfl, rfl, rfl, rfl⟩
 ·
  refine AR.is 9 h1 rfl (cs 3 rfl (AR.nil [12, 0, 3, 4] rfl ?_))
  exact ⟨rfl, rfl, rfl, rfl⟩
 refine AR.nil [0, 3, 4, 12] rfl (AW.cond rfl (fun h2 => ?_) (fun h2 => ?_))
 ·
  replace hf := ite_T h2 hf
  refine AW.skip (AW.seq (AW.block (AW.region ?_)))
  refine cs 4 rfl ?_
  obtain ⟨x1, h3, hf⟩ := bind1_inv hf
  refine AR.step rfl rfl rfl (AO.idx_str h3 rfl un_9 rfl rfl (AR.step rfl rfl rfl (AO.u8_sub x1 48 rfl rfl rfl rfl rfl (AR.step rfl rfl rfl (AO.conv_byte rfl un_5 un_3 rfl rfl (cs 2 rfl ?_))))))
  refine AR.nil [0, 3, 4] rfl (AW.region (cs 3 rfl (AR.nil [0, 3, 4] rfl ?_)))
  exact ⟨(w64 ((w64 (10 * n1)) + ((x1 - 48).toNat : Int))), (w64 (i1 + 1)), rfl, rfl, rfl, hf⟩
 ·
  replace hf := ite_F h2 hf
  refine AW.exit (AW.sr (cs 3 rfl (AR.nil [2] rfl ?_)))
  refine AW.ret ?_
  cases hf
  exact ⟨rfl, _, ⟨_, _, rfl, rfl, rfl⟩, [], List.nil_sublist _, h⟩

theorem c_lexer_number  (src1 : Str) (at1 : Int) {r0 : ApiToken} {r1 : Int} {r2 : Int} (hf : lexer_number src1 at1 = some (r0, r1, r2)) {τ : List Res} {Q : AOut → List Res → Prop} (h : Q (.ret (.tuple [.agg [.int .i64 r0.kind, .str r0.text, .int .i64 r0.at_], .int .i64 r1, .int .i64 r2])) τ) : AC Tryz.prog 115 [.str src1, .int .i64 at1] τ Q := by
 unfold lexer_number at hf
 refine AC.none (AC.of_body 44 [.cell 4 83, .tmp 5, .tmp 6] [0, 1] Tryz.func115 rfl rfl rfl rfl rfl (AW.sr (AR.step rfl rfl rfl (AO.alloc_own rfl zp_83 (fun b4 => ?_)))))
 refine cs 2 rfl (AR.nil [0, 1, 4] rfl (AW.sr (cs 2 rfl ?_)))
 obtain ⟨end1, h1, hf⟩ := bind1_inv hf
 refine AR.step rfl rfl rfl (AO.call rfl _ rfl rfl pf_82 (c_lexer_while _ _ lexer_digit 114 [] pf_114 (fun _ _ hz => c_lexer_digit _  hz) h1 (cs 1 rfl (AR.nil [0, 1, 4, 7] rfl (AW.sr ?_)))))
 refine cs 3 rfl ?_
 obtain ⟨text1, h2, hf⟩ := bind1_inv hf
 refine AR.step rfl rfl rfl (AO.sl_str h2 rfl un_9 rfl ⟨_, rfl⟩ ⟨_, rfl⟩ (cs 1 rfl (AR.nil [0, 1, 4, 7, 8] rfl (AW.seq ?_))))
 refine AW.sr (cs 1 rfl (AR.step rfl rfl rfl (AO.len_str rfl rfl rfl rfl un_9 rfl (cs 2 rfl ?_))))
 obtain ⟨b1, h4, hf⟩ := bind1_inv hf
 refine AR.join1 4 19 23 true [0, 1, 4, 7, 8] b1 rfl rfl (fun h3 => ?_) (fun h3 => ?_) ?_
 ·
  replace h4 := ite_T h3 h4
  refine AR.is 19 h3 rfl (cs 1 rfl ?_)
  obtain ⟨x1, h5, h4⟩ := bind1_inv h4
  refine AR.go rfl rfl rfl rfl rfl rfl (AO.idx_str h5 rfl un_9 rfl rfl (cs 1 rfl ?_))
  obtain rfl := Option.some.inj h4
  refine cs 1 rfl (AR.nil [23, 0, 1, 4, 7, 8] rfl ?_)
  exact ⟨rfl, rfl, rfl, rfl⟩
 ·
  replace h4 := ite_F h3 h4
  refine AR.is 19 h3 rfl ?_
  obtain rfl := Option.some.inj h4
  refine cs 4 rfl (AR.nil [23, 0, 1, 4, 7, 8] rfl ?_)
  exact ⟨rfl, rfl, rfl, rfl⟩
 refine cs 1 rfl ?_
 obtain ⟨b2, h7, hf⟩ := bind1_inv hf
 refine AR.join1 11 24 35 false [1, 4, 7, 8] b2 rfl rfl (fun h6 => ?_) (fun h6 => ?_) ?_
 ·
  replace h7 := ite_F h6 h7
  refine AR.is 24 h6 rfl (cs 2 rfl (AR.go rfl rfl rfl rfl rfl rfl (AO.len_str rfl rfl rfl rfl un_9 rfl (cs 2 rfl ?_))))
  replace h7 := (bind1_ret _).trans h7
  obtain ⟨b3, h9, h7⟩ := bind1_inv h7
  refine AR.join1 5 29 34 true [1, 4, 7, 8, 24] b3 rfl rfl (fun h8 => ?_) (fun h8 => ?_) ?_
  ·
   replace h9 := ite_T h8 h9
   refine AR.is 29 h8 rfl (cs 2 rfl ?_)
   obtain ⟨x2, h10, h9⟩ := bind1_inv h9
   refine AR.go rfl rfl rfl rfl rfl rfl (AO.idx_str h10 rfl un_9 rfl rfl ?_)
   replace h9 := (bind1_ret _).trans h9
   obtain ⟨x3, h11, h9⟩ := bind1_inv h9
   refine AR.go rfl rfl rfl rfl rfl rfl (AO.call rfl _ rfl rfl pf_112 (c_lexer_letter _ h11 ?_))
   obtain rfl := Option.some.inj h9
   refine cs 1 rfl (AR.nil [34, 1, 4, 7, 8, 24] rfl ?_)
   exact ⟨rfl, rfl, rfl, rfl⟩
  ·
   replace h9 := ite_F h8 h9
   refine AR.is 29 h8 rfl ?_
   obtain rfl := Option.some.inj h9
   refine cs 5 rfl (AR.nil [34, 1, 4, 7, 8, 24] rfl ?_)
   exact ⟨rfl, rfl, rfl, rfl⟩
  obtain rfl := Option.some.inj h7
  refine cs 1 rfl (AR.nil [35, 1, 4, 7, 8] rfl ?_)
  exact ⟨rfl, rfl, rfl, rfl⟩
 ·
  replace h7 := ite_T h6 h7
  refine AR.is 24 h6 rfl ?_
  obtain rfl := Option.some.inj h7
  refine cs 11 rfl (AR.nil [35, 1, 4, 7, 8] rfl ?_)
  exact ⟨rfl, rfl, rfl, rfl⟩
 refine AR.nil [1, 4, 7, 8, 35] rfl (AW.cond rfl (fun h12 => ?_) (fun h12 => ?_))
 ·
  replace hf := ite_T h12 hf
  refine AW.sr (AR.step rfl rfl rfl (AO.build rfl zp_83 spl_83 rfl (AR.step_none rfl rfl (AO.store_box (i := 0) rfl rfl rfl ti_83 rfl rfl rfl rfl rfl (cs 2 rfl ?_)))))
  refine AR.nil [4, 5, 6] rfl (AW.ret ?_)
  cases hf
  exact ⟨rfl, _, ⟨_, _, rfl, ⟨_, _, 0, _, _, rfl, rfl, ti_83, rfl⟩, _, _, rfl, rfl, _, _, rfl, rfl, rfl⟩, [], List.nil_sublist _, h⟩
 ·
  replace hf := ite_F h12 hf
  refine AW.skip (AW.seq (AW.sr (cs 1 rfl ?_)))
  obtain ⟨x4, h13, hf⟩ := bind1_inv hf
  refine AR.step rfl rfl rfl (AO.call rfl _ rfl rfl pf_139 (c_lexer_large _ h13 (AR.nil [1, 4, 7, 8, 38] rfl (AW.cond rfl (fun h14 => ?_) (fun h14 => ?_)))))
  ·
   replace hf := ite_T h14 hf
   refine AW.sr (AR.step rfl rfl rfl (AO.build rfl zp_83 spl_83 rfl (AR.step_none rfl rfl (AO.store_box (i := 0) rfl rfl rfl ti_83 rfl rfl rfl rfl rfl (cs 2 rfl ?_)))))
   refine AR.nil [4, 5, 6] rfl (AW.ret ?_)
   cases hf
   exact ⟨rfl, _, ⟨_, _, rfl, ⟨_, _, 0, _, _, rfl, rfl, ti_83, rfl⟩, _, _, rfl, rfl, _, _, rfl, rfl, rfl⟩, [], List.nil_sublist _, h⟩
  ·
   replace hf := ite_F h14 hf
   refine AW.skip (AW.sr (cs 2 rfl (AR.step rfl rfl rfl (AO.build rfl zp_83 spl_83 rfl ?_))))
   refine cs 1 rfl (AR.step_none rfl rfl (AO.store_box (i := 0) rfl rfl rfl ti_83 rfl rfl rfl rfl rfl (cs 2 rfl (AR.nil [4, 5, 6] rfl ?_))))
   refine AW.ret ?_
   cases hf
   exact ⟨rfl, _, ⟨_, _, rfl, ⟨_, _, 0, _, _, rfl, rfl, ti_83, rfl⟩, _, _, rfl, rfl, _, _, rfl, rfl, rfl⟩, [], List.nil_sublist _, h⟩

theorem c_lexer_hex  (c1 : UInt8) {r0 : Int} (hf : lexer_hex c1 = some r0) {τ : List Res} {Q : AOut → List Res → Prop} (h : Q (.ret (.int .i64 r0)) τ) : AC Tryz.prog 155 [.int .u8 (c1.toNat : Int)] τ Q := by
 unfold lexer_hex at hf
 refine AC.none (AC.of_body 31 [.tmp 2] [0] Tryz.func155 rfl rfl rfl rfl rfl (AW.sr (cs 1 rfl ?_)))
 refine AR.nil [0] rfl (AW.seq (AW.block (AW.sr ?_)))
 refine cs 1 rfl ?_
 obtain ⟨x1, h1, hf⟩ := bind1_inv hf
 refine AR.step rfl rfl rfl (AO.call rfl _ rfl rfl pf_114 (c_lexer_digit _ h1 (cs 1 rfl (AR.nil [0, 3] rfl (AW.cond rfl (fun h2 => ?_) (fun h2 => ?_))))))
 ·
  replace hf := ite_T h2 hf
  refine AW.sr (cs 1 rfl (AR.step rfl rfl rfl (AO.u8_sub c1 48 rfl rfl rfl rfl rfl (AR.step rfl rfl rfl (AO.conv_byte rfl un_5 un_3 rfl rfl ?_)))))
  refine cs 1 rfl (AR.nil [2] rfl (AW.ret ?_))
  cases hf
  exact ⟨rfl, _, ⟨_, _, rfl, rfl, rfl⟩, [], List.nil_sublist _, h⟩
 ·
  replace hf := ite_F h2 hf
  refine AW.sr (cs 3 rfl (AR.and 3 12 15 [0] (x := (decide ((c1.toNat : Int) ≤ 102))) rfl rfl (fun h3 => ?_) (fun h3 => ?_) ?_))
  ·
   refine AR.is 12 h3 rfl (cs 3 rfl (AR.nil [15, 0] rfl ?_))
   exact ⟨rfl, rfl, rfl, rfl⟩
  ·
   refine AR.is 12 h3 rfl (cs 3 rfl (AR.nil [15, 0] rfl ?_))
   exact ⟨rfl, rfl, rfl, rfl⟩
  refine cs 1 rfl (AR.nil [0, 9] rfl (AW.cond rfl (fun h4 => ?_) (fun h4 => ?_)))
  ·
   replace hf := ite_T h4 hf
   refine AW.sr (cs 1 rfl (AR.step rfl rfl rfl (AO.u8_sub c1 97 rfl rfl rfl rfl rfl (AR.step rfl rfl rfl (AO.conv_byte rfl un_5 un_3 rfl rfl ?_)))))
   refine cs 2 rfl (AR.nil [2] rfl (AW.ret ?_))
   cases hf
   exact ⟨rfl, _, ⟨_, _, rfl, rfl, rfl⟩, [], List.nil_sublist _, h⟩
  ·
   replace hf := ite_F h4 hf
   refine AW.sr (cs 3 rfl (AR.and 3 23 26 [0] (x := (decide ((c1.toNat : Int) ≤ 70))) rfl rfl (fun h5 => ?_) (fun h5 => ?_) ?_))
   ·
    refine AR.is 23 h5 rfl (cs 3 rfl (AR.nil [26, 0] rfl ?_))
    exact ⟨rfl, rfl, rfl, rfl⟩
   ·
    refine AR.is 23 h5 rfl (cs 3 rfl (AR.nil [26, 0] rfl ?_))
    exact ⟨rfl, rfl, rfl, rfl⟩
   refine cs 1 rfl (AR.nil [0, 20] rfl (AW.cond rfl (fun h6 => ?_) (fun h6 => ?_)))
   ·
    replace hf := ite_T h6 hf
    refine AW.sr (cs 1 rfl (AR.step rfl rfl rfl (AO.u8_sub c1 65 rfl rfl rfl rfl rfl (AR.step rfl rfl rfl (AO.conv_byte rfl un_5 un_3 rfl rfl ?_)))))
    refine cs 2 rfl (AR.nil [2] rfl (AW.ret ?_))
    cases hf
    exact ⟨rfl, _, ⟨_, _, rfl, rfl, rfl⟩, [], List.nil_sublist _, h⟩
   ·
    replace hf := ite_F h6 hf
    refine AW.skip (AW.sr (cs 1 rfl (AR.nil [2] rfl ?_)))
    refine AW.ret ?_
    cases hf
    exact ⟨rfl, _, ⟨_, _, rfl, rfl, rfl⟩, [], List.nil_sublist _, h⟩

theorem c_lexer_escaped  (src1 : Str) (at1 : Int) {r0 : UInt8} {r1 : Int} (hf : lexer_escaped src1 at1 = some (r0, r1)) {τ : List Res} {Q : AOut → List Res → Prop} (h : Q (.ret (.tuple [.int .u8 (r0.toNat : Int), .int .i64 r1])) τ) : AC Tryz.prog 142 [.str src1, .int .i64 at1] τ Q := by
 unfold lexer_escaped at hf
 refine AC.none (AC.of_body 61 [.tmp 4, .tmp 5] [0, 1] Tryz.func142 rfl rfl rfl rfl rfl (AW.sr (cs 2 rfl ?_)))
 refine AR.nil [0, 1] rfl (AW.seq (AW.sr (cs 3 rfl ?_)))
 refine AR.step rfl rfl rfl (AO.len_str rfl rfl rfl rfl un_9 rfl (cs 1 rfl (AR.nil [0, 1, 11] rfl (AW.cond rfl (fun h1 => ?_) (fun h1 => ?_)))))
 ·
  replace hf := ite_T h1 hf
  refine AW.sr (cs 2 rfl (AR.nil [4, 5] rfl (AW.ret ?_)))
  cases hf
  exact ⟨rfl, _, ⟨_, _, rfl, rfl, _, _, rfl, rfl, rfl⟩, [], List.nil_sublist _, h⟩
 ·
  replace hf := ite_F h1 hf
  refine AW.skip (AW.seq (AW.sr (cs 3 rfl ?_)))
  obtain ⟨c1, h2, hf⟩ := bind1_inv hf
  refine AR.step rfl rfl rfl (AO.idx_str h2 rfl un_9 rfl rfl (cs 1 rfl (AR.nil [0, 1, 6] rfl (AW.sr ?_))))
  refine cs 1 rfl (AR.nil [0, 1, 6, 16] rfl (AW.block (AW.seq ?_)))
  refine AW.sr (cs 2 rfl (AR.nil [0, 1, 6, 16, 17] rfl (AW.cond rfl (fun h3 => ?_) (fun h3 => ?_))))
  ·
   replace hf := ite_T h3 hf
   refine AW.skip (AW.cond rfl (fun h4 => ?_) (fun h4 => ?_))
   ·
    refine AW.sr (cs 3 rfl (AR.nil [4, 5] rfl (AW.ret ?_)))
    cases hf
    exact ⟨rfl, _, ⟨_, _, rfl, rfl, _, _, rfl, rfl, rfl⟩, [], List.nil_sublist _, h⟩
   ·
    cases h3.symm.trans h4
  ·
   replace hf := ite_F h3 hf
   refine AW.region (cs 2 rfl (AR.nil [0, 1, 6, 16, 17] rfl (AW.cond rfl (fun h5 => ?_) (fun h5 => ?_))))
   ·
    replace hf := ite_T h5 hf
    refine AW.sr (cs 3 rfl (AR.nil [4, 5] rfl (AW.ret ?_)))
    cases hf
    exact ⟨rfl, _, ⟨_, _, rfl, rfl, _, _, rfl, rfl, rfl⟩, [], List.nil_sublist _, h⟩
   ·
    replace hf := ite_F h5 hf
    refine AW.sr (cs 2 rfl (AR.nil [0, 1, 16, 21] rfl (AW.cond rfl (fun h6 => ?_) (fun h6 => ?_))))
    ·
     replace hf := ite_T h6 hf
     refine AW.sr (cs 2 rfl (AR.nil [4, 5] rfl (AW.ret ?_)))
     cases hf
     exact ⟨rfl, _, ⟨_, _, rfl, rfl, _, _, rfl, rfl, rfl⟩, [], List.nil_sublist _, h⟩
    ·
     replace hf := ite_F h6 hf
     refine AW.sr (cs 2 rfl (AR.nil [0, 1, 16, 23] rfl (AW.cond rfl (fun h7 => ?_) (fun h7 => ?_))))
     ·
      replace hf := ite_T h7 hf
      refine AW.sr (cs 2 rfl (AR.nil [4, 5] rfl (AW.ret ?_)))
      cases hf
      exact ⟨rfl, _, ⟨_, _, rfl, rfl, _, _, rfl, rfl, rfl⟩, [], List.nil_sublist _, h⟩
     ·
      replace hf := ite_F h7 hf
      refine AW.sr (cs 2 rfl (AR.nil [0, 1, 25] rfl (AW.cond rfl (fun h8 => ?_) (fun h8 => ?_))))
      ·
       replace hf := ite_T h8 hf
       refine AW.sr (cs 3 rfl (AR.step rfl rfl rfl (AO.len_str rfl rfl rfl rfl un_9 rfl (cs 2 rfl ?_))))
       obtain ⟨b1, h10, hf⟩ := bind1_inv hf
       refine AR.join1 7 32 39 true [0, 1] b1 rfl rfl (fun h9 => ?_) (fun h9 => ?_) ?_
       ·
        replace h10 := ite_T h9 h10
        refine AR.is 32 h9 rfl (cs 3 rfl ?_)
        obtain ⟨x1, h11, h10⟩ := bind1_inv h10
        refine AR.go rfl rfl rfl rfl rfl rfl (AO.idx_str h11 rfl un_9 rfl rfl ?_)
        obtain ⟨x2, h12, h10⟩ := bind1_inv h10
        refine AR.go rfl rfl rfl rfl rfl rfl (AO.call rfl _ rfl rfl pf_155 (c_lexer_hex _ h12 (cs 1 rfl ?_)))
        obtain rfl := Option.some.inj h10
        refine cs 1 rfl (AR.nil [39, 0, 1] rfl ?_)
        exact ⟨rfl, rfl, rfl, rfl⟩
       ·
        replace h10 := ite_F h9 h10
        refine AR.is 32 h9 rfl ?_
        obtain rfl := Option.some.inj h10
        refine cs 7 rfl (AR.nil [39, 0, 1] rfl ?_)
        exact ⟨rfl, rfl, rfl, rfl⟩
       refine cs 1 rfl ?_
       obtain ⟨b2, h14, hf⟩ := bind1_inv hf
       refine AR.join1 7 40 47 true [0, 1] b2 rfl rfl (fun h13 => ?_) (fun h13 => ?_) ?_
       ·
        replace h14 := ite_T h13 h14
        refine AR.is 40 h13 rfl (cs 3 rfl ?_)
        obtain ⟨x3, h15, h14⟩ := bind1_inv h14
        refine AR.go rfl rfl rfl rfl rfl rfl (AO.idx_str h15 rfl un_9 rfl rfl ?_)
        obtain ⟨x4, h16, h14⟩ := bind1_inv h14
        refine AR.go rfl rfl rfl rfl rfl rfl (AO.call rfl _ rfl rfl pf_155 (c_lexer_hex _ h16 (cs 1 rfl ?_)))
        obtain rfl := Option.some.inj h14
        refine cs 1 rfl (AR.nil [47, 0, 1] rfl ?_)
        exact ⟨rfl, rfl, rfl, rfl⟩
       ·
        replace h14 := ite_F h13 h14
        refine AR.is 40 h13 rfl ?_
        obtain rfl := Option.some.inj h14
        refine cs 7 rfl (AR.nil [47, 0, 1] rfl ?_)
        exact ⟨rfl, rfl, rfl, rfl⟩
       refine AR.nil [0, 1, 47] rfl (AW.cond rfl (fun h17 => ?_) (fun h17 => ?_))
       ·
        replace hf := ite_T h17 hf
        refine AW.seq (AW.draw 15 mixed (by kernel_rfl) rfl ?_)
        refine Ev.cs FX_ok 3 rfl ?_
        obtain ⟨x5, h18, hf⟩ := bind1_inv hf
        refine Ev.cons rfl rfl rfl (AO.idx_str h18 rfl un_9 rfl rfl ⟨rfl, rfl⟩) ?_
        obtain ⟨x6, h19, hf⟩ := bind1_inv hf
        refine Ev.cons rfl rfl rfl (AO.call rfl _ rfl rfl pf_155 (c_lexer_hex _ h19 ⟨rfl, rfl⟩)) (Ev.cs FX_ok 4 rfl ?_)
        obtain ⟨x7, h20, hf⟩ := bind1_inv hf
        refine Ev.cons rfl rfl rfl (AO.idx_str h20 rfl un_9 rfl rfl ⟨rfl, rfl⟩) ?_
        obtain ⟨x8, h21, hf⟩ := bind1_inv hf
        refine Ev.cons rfl rfl rfl (AO.call rfl _ rfl rfl pf_155 (c_lexer_hex _ h21 ⟨rfl, rfl⟩)) (Ev.cs FX_ok 1 rfl (Ev.cons rfl rfl rfl (AO.conv_u8F rfl un_3 un_5 rfl ⟨rfl, rfl⟩) (Ev.cs FX_ok 2 rfl ?_)))
        refine Ev.nil ?_
        show AR _ _ _ _ _ _ _ _
        refine AR.nil [4, 5] rfl (AW.ret ?_)
        cases hf
        exact ⟨rfl, _, ⟨_, _, rfl, rfl, _, _, rfl, rfl, rfl⟩, [], List.nil_sublist _, h⟩
       ·
        replace hf := ite_F h17 hf
        refine AW.skip (AW.sr (cs 2 rfl (AR.nil [4, 5] rfl ?_)))
        refine AW.ret ?_
        cases hf
        exact ⟨rfl, _, ⟨_, _, rfl, rfl, _, _, rfl, rfl, rfl⟩, [], List.nil_sublist _, h⟩
      ·
       replace hf := ite_F h8 hf
       refine AW.skip (AW.sr (cs 2 rfl (AR.nil [4, 5] rfl ?_)))
       refine AW.ret ?_
       cases hf
       exact ⟨rfl, _, ⟨_, _, rfl, rfl, _, _, rfl, rfl, rfl⟩, [], List.nil_sublist _, h⟩

theorem c_lexer_short  (src1 : Str) (at1 : Int) {r0 : Bool} (hf : lexer_short src1 at1 = some r0) {τ : List Res} {Q : AOut → List Res → Prop} (h : Q (.ret (.bool r0)) τ) : AC Tryz.prog 143 [.str src1, .int .i64 at1] τ Q := by
 unfold lexer_short at hf
 refine AC.none (AC.of_body 32 [.tmp 4] [0, 1] Tryz.func143 rfl rfl rfl rfl rfl (AW.sr (cs 1 rfl ?_)))
 refine AR.nil [0, 1] rfl (AW.sr (cs 3 rfl ?_))
 obtain ⟨rest1, h1, hf⟩ := bind1_inv hf
 refine AR.step rfl rfl rfl (AO.sl_str h1 rfl un_9 rfl ⟨_, rfl⟩ rfl (cs 1 rfl (AR.nil [5] rfl (AW.sr ?_))))
 refine cs 3 rfl (AR.or 3 12 15 [5] (x := (rest1 == ([120] : Str))) rfl rfl (fun h2 => ?_) (fun h2 => ?_) ?_)
 ·
  refine AR.is 12 h2 rfl (cs 3 rfl (AR.nil [15, 5] rfl ?_))
  exact ⟨rfl, rfl, rfl, rfl⟩
 ·
  refine AR.is 12 h2 rfl (cs 3 rfl (AR.nil [15, 5] rfl ?_))
  exact ⟨rfl, rfl, rfl, rfl⟩
 refine cs 1 rfl ?_
 replace hf := (bind1_ret _).trans hf
 obtain ⟨b1, h4, hf⟩ := bind1_inv hf
 refine AR.join1 15 16 31 false [] b1 rfl rfl (fun h3 => ?_) (fun h3 => ?_) ?_
 ·
  replace h4 := ite_F h3 h4
  refine AR.is 16 h3 rfl (cs 1 rfl (AR.go rfl rfl rfl rfl rfl rfl (AO.len_str rfl rfl rfl rfl un_9 rfl (cs 2 rfl ?_))))
  obtain ⟨b2, h6, h4⟩ := bind1_inv h4
  refine AR.join1 4 20 24 true [5, 16] b2 rfl rfl (fun h5 => ?_) (fun h5 => ?_) ?_
  ·
   replace h6 := ite_T h5 h6
   refine AR.is 20 h5 rfl (cs 1 rfl ?_)
   obtain ⟨x1, h7, h6⟩ := bind1_inv h6
   refine AR.go rfl rfl rfl rfl rfl rfl (AO.idx_str h7 rfl un_9 rfl rfl (cs 1 rfl ?_))
   obtain rfl := Option.some.inj h6
   refine cs 1 rfl (AR.nil [24, 5, 16] rfl ?_)
   exact ⟨rfl, rfl, rfl, rfl⟩
  ·
   replace h6 := ite_F h5 h6
   refine AR.is 20 h5 rfl ?_
   obtain rfl := Option.some.inj h6
   refine cs 4 rfl (AR.nil [24, 5, 16] rfl ?_)
   exact ⟨rfl, rfl, rfl, rfl⟩
  refine cs 1 rfl ?_
  replace h4 := (bind1_ret _).trans h4
  obtain ⟨b3, h9, h4⟩ := bind1_inv h4
  refine AR.join1 5 25 30 true [16] b3 rfl rfl (fun h8 => ?_) (fun h8 => ?_) ?_
  ·
   replace h9 := ite_T h8 h9
   refine AR.is 25 h8 rfl (cs 1 rfl ?_)
   obtain ⟨x2, h10, h9⟩ := bind1_inv h9
   refine AR.go rfl rfl rfl rfl rfl rfl (AO.idx_str h10 rfl un_9 rfl rfl ?_)
   obtain ⟨x3, h11, h9⟩ := bind1_inv h9
   refine AR.go rfl rfl rfl rfl rfl rfl (AO.call rfl _ rfl rfl pf_155 (c_lexer_hex _ h11 (cs 1 rfl ?_)))
   obtain rfl := Option.some.inj h9
   refine cs 1 rfl (AR.nil [30, 16] rfl ?_)
   exact ⟨rfl, rfl, rfl, rfl⟩
  ·
   replace h9 := ite_F h8 h9
   refine AR.is 25 h8 rfl ?_
   obtain rfl := Option.some.inj h9
   refine cs 5 rfl (AR.nil [30, 16] rfl ?_)
   exact ⟨rfl, rfl, rfl, rfl⟩
  obtain rfl := Option.some.inj h4
  refine cs 1 rfl (AR.nil [31] rfl ?_)
  exact ⟨rfl, rfl, rfl, rfl⟩
 ·
  replace h4 := ite_T h3 h4
  refine AR.is 16 h3 rfl ?_
  obtain rfl := Option.some.inj h4
  refine cs 15 rfl (AR.nil [31] rfl ?_)
  exact ⟨rfl, rfl, rfl, rfl⟩
 refine cs 1 rfl (AR.nil [4] rfl (AW.ret ?_))
 cases hf
 exact ⟨rfl, _, ⟨_, _, rfl, rfl, rfl⟩, [], List.nil_sublist _, h⟩

theorem c_lexer_text  (src1 : Str) (at1 : Int) {r0 : ApiToken} {r1 : Int} {r2 : Int} (hf : lexer_text src1 at1 = some (r0, r1, r2)) {τ : List Res} {Q : AOut → List Res → Prop} (h : Q (.ret (.tuple [.agg [.int .i64 r0.kind, .str r0.text, .int .i64 r0.at_], .int .i64 r1, .int .i64 r2])) τ) : AC Tryz.prog 116 [.str src1, .int .i64 at1] τ Q := by
 unfold lexer_text at hf
 refine AC.none (AC.of_body 68 [.cell 4 83, .tmp 5, .tmp 6] [0, 1] Tryz.func116 rfl rfl rfl rfl rfl (AW.sr (AR.step rfl rfl rfl (AO.alloc_own rfl zp_83 (fun b4 => ?_)))))
 refine cs 2 rfl (AR.nil [0, 1, 4] rfl (AW.sr (AR.step rfl rfl rfl (AO.alloc_bld (eu := 5) rfl zp_155 rfl (fun b7 => ?_)))))
 refine AR.nil [0, 1, 4, 7] rfl (AW.seq (AW.sr (cs 3 rfl ?_)))
 refine AR.nil [0, 1, 4, 7, 8] rfl (AW.block (AW.settle [0, 1, 4, 7, 8] rfl (AW.loopF3 (fun i1 b1 v1 => [(0, .str src1), (1, .int .i64 at1), (4, .val (.pointer (some ⟨b4, 0, none⟩))), (7, .val (.pointer (some ⟨b7, 0, none⟩))), (8, .int .i64 i1)]) (fun i1 b1 v1 => [.bld b7 v1 155 5 b1, .box b4 [.int .i64 0, .str ([] : Str), .int .i64 0]]) (fun kk1 i1 b1 v1 => lexer_text_l1 src1 at1 kk1 i1 b1 = some (r0, r1, r2)) BIG (w64 (at1 + 1)) [] (.slice none 0 0) rfl rfl hf (fun _ _ _ hz => none_no hz) ?_)))
 intro kk1 i1 b1 v1 hf
 rw [lexer_text_l1] at hf
 refine AW.seq (AW.sr (cs 2 rfl (AR.step rfl rfl rfl (AO.len_str rfl rfl rfl rfl un_9 rfl ?_))))
 refine cs 1 rfl (AR.nil [0, 1, 4, 7, 8, 17] rfl (AW.cond rfl (fun h1 => ?_) (fun h1 => ?_)))
 ·
  replace hf := ite_T h1 hf
  refine AW.skip (AW.block (AW.sr (cs 2 rfl ?_)))
  obtain ⟨c1, h2, hf⟩ := bind1_inv hf
  refine AR.step rfl rfl rfl (AO.idx_str h2 rfl un_9 rfl rfl (cs 1 rfl (AR.nil [0, 1, 4, 7, 8, 9] rfl (AW.block ?_))))
  refine AW.sr (cs 3 rfl (AR.nil [0, 1, 4, 7, 8, 9, 25] rfl (AW.cond rfl (fun h3 => ?_) (fun h3 => ?_))))
  ·
   replace hf := ite_T h3 hf
   refine AW.seq (AW.sr (AR.step rfl rfl rfl (AO.call rfl _ rfl rfl pf_140 (AC.one 0 rfl (c_bld_Len ⟨_, rfl, (cs 1 rfl ?_)⟩)))))
   refine AR.nil [1, 4, 7, 8, 29] rfl (AW.cond rfl (fun h4 => ?_) (fun h4 => ?_))
   ·
    replace hf := ite_T h4 hf
    refine AW.sr (AR.step rfl rfl rfl (AO.build rfl zp_83 spl_83 rfl (AR.step_none rfl rfl (AO.store_box (i := 1) rfl rfl rfl ti_83 rfl rfl rfl rfl rfl (cs 2 rfl ?_)))))
    refine AR.nil [4, 5, 6] rfl (AW.ret ?_)
    cases hf
    exact ⟨rfl, _, ⟨_, _, rfl, ⟨_, _, 1, _, _, rfl, rfl, ti_83, rfl⟩, _, _, rfl, rfl, _, _, rfl, rfl, rfl⟩, [], List.nil_sublist _, h⟩
   ·
    replace hf := ite_F h4 hf
    refine AW.skip (AW.sr (AR.step rfl rfl rfl (AO.call rfl _ rfl rfl pf_141 (AC.one_end 0 rfl (c_bld_String (cs 1 rfl ?_))))))
    refine AR.step rfl rfl rfl (AO.build rfl zp_83 spl_83 rfl (cs 2 rfl (AR.step_none rfl rfl (AO.store_box (i := 0) rfl rfl rfl ti_83 rfl rfl rfl rfl rfl (cs 2 rfl ?_)))))
    refine AR.nil [4, 5, 6] rfl (AW.ret ?_)
    cases hf
    exact ⟨rfl, _, ⟨_, _, rfl, ⟨_, _, 0, _, _, rfl, rfl, ti_83, rfl⟩, _, _, rfl, rfl, _, _, rfl, rfl, rfl⟩, [], List.nil_sublist _, h⟩
  ·
   replace hf := ite_F h3 hf
   refine AW.sr (cs 3 rfl (AR.nil [0, 1, 4, 7, 8, 9, 36] rfl (AW.cond rfl (fun h5 => ?_) (fun h5 => ?_))))
   ·
    replace hf := ite_T h5 hf
    refine AW.sr (AR.step rfl rfl rfl (AO.build rfl zp_83 spl_83 rfl (AR.step_none rfl rfl (AO.store_box (i := 1) rfl rfl rfl ti_83 rfl rfl rfl rfl rfl (cs 2 rfl ?_)))))
    refine AR.nil [4, 5, 6] rfl (AW.ret ?_)
    cases hf
    exact ⟨rfl, _, ⟨_, _, rfl, ⟨_, _, 1, _, _, rfl, rfl, ti_83, rfl⟩, _, _, rfl, rfl, _, _, rfl, rfl, rfl⟩, [], List.nil_sublist _, h⟩
   ·
    replace hf := ite_F h5 hf
    refine AW.sr (cs 3 rfl (AR.nil [0, 1, 4, 7, 8, 9, 40] rfl (AW.cond rfl (fun h6 => ?_) (fun h6 => ?_))))
    ·
     replace hf := ite_T h6 hf
     refine AW.sr (cs 2 rfl ?_)
     obtain ⟨x1, n1, h7, hf⟩ := bind2_inv hf
     refine AR.step rfl rfl rfl (AO.call rfl _ rfl rfl pf_142 (c_lexer_escaped _ _ h7 (cs 5 rfl (AR.nil [0, 1, 4, 7, 8, 10, 11] rfl (AW.seq ?_)))))
     refine AW.block (AW.sr (cs 3 rfl ?_))
     obtain ⟨b2, h9, hf⟩ := bind1_inv hf
     refine AR.join1 4 52 56 true [0, 1, 4, 7, 8, 10, 11] b2 rfl rfl (fun h8 => ?_) (fun h8 => ?_) ?_
     ·
      replace h9 := ite_T h8 h9
      refine AR.is 52 h8 rfl (cs 2 rfl ?_)
      replace h9 := (bind1_ret _).trans h9
      obtain ⟨x2, h10, h9⟩ := bind1_inv h9
      refine AR.go rfl rfl rfl rfl rfl rfl (AO.call rfl _ rfl rfl pf_143 (c_lexer_short _ _ h10 ?_))
      obtain rfl := Option.some.inj h9
      refine cs 1 rfl (AR.nil [56, 0, 1, 4, 7, 8, 10, 11] rfl ?_)
      exact ⟨rfl, rfl, rfl, rfl⟩
     ·
      replace h9 := ite_F h8 h9
      refine AR.is 52 h8 rfl ?_
      obtain rfl := Option.some.inj h9
      refine cs 4 rfl (AR.nil [56, 0, 1, 4, 7, 8, 10, 11] rfl ?_)
      exact ⟨rfl, rfl, rfl, rfl⟩
     refine cs 1 rfl (AR.nil [0, 1, 4, 7, 8, 10, 11, 49] rfl (AW.cond rfl (fun h11 => ?_) (fun h11 => ?_)))
     ·
      replace hf := ite_T h11 hf
      refine AW.sr (AR.step rfl rfl rfl (AO.build rfl zp_83 spl_83 rfl (AR.step_none rfl rfl (AO.store_box (i := 1) rfl rfl rfl ti_83 rfl rfl rfl rfl rfl (cs 2 rfl ?_)))))
      refine AR.nil [4, 5, 6] rfl (AW.ret ?_)
      cases hf
      exact ⟨rfl, _, ⟨_, _, rfl, ⟨_, _, 1, _, _, rfl, rfl, ti_83, rfl⟩, _, _, rfl, rfl, _, _, rfl, rfl, rfl⟩, [], List.nil_sublist _, h⟩
     ·
      replace hf := ite_F h11 hf
      refine AW.sr (cs 3 rfl (AR.nil [0, 1, 4, 7, 8, 10, 11, 58] rfl (AW.cond rfl (fun h12 => ?_) (fun h12 => ?_))))
      ·
       replace hf := ite_T h12 hf
       refine AW.sr (AR.step rfl rfl rfl (AO.build rfl zp_83 spl_83 rfl (AR.step_none rfl rfl (AO.store_box (i := 1) rfl rfl rfl ti_83 rfl rfl rfl rfl rfl (cs 2 rfl ?_)))))
       refine AR.nil [4, 5, 6] rfl (AW.ret ?_)
       cases hf
       exact ⟨rfl, _, ⟨_, _, rfl, ⟨_, _, 1, _, _, rfl, rfl, ti_83, rfl⟩, _, _, rfl, rfl, _, _, rfl, rfl, rfl⟩, [], List.nil_sublist _, h⟩
      ·
       replace hf := ite_F h12 hf
       refine AW.skip (AW.sr (cs 1 rfl ?_))
       obtain ⟨b3, h13, hf⟩ := bind1_inv hf
       refine AR.step rfl rfl rfl (AO.call rfl _ rfl rfl pf_144 (AC.one 0 rfl (c_bld_WriteByte h13 (fun v2 => ⟨_, rfl, (AR.nil [0, 1, 4, 7, 8, 11] rfl (AW.region (cs 4 rfl ?_)))⟩))))
       refine AR.nil [0, 1, 4, 7, 8] rfl ?_
       exact ⟨(w64 (i1 + n1)), b3, v2, rfl, rfl, rfl, hf⟩
    ·
     replace hf := ite_F h6 hf
     refine AW.sr (cs 1 rfl ?_)
     obtain ⟨b4, h14, hf⟩ := bind1_inv hf
     refine AR.step rfl rfl rfl (AO.call rfl _ rfl rfl pf_144 (AC.one 0 rfl (c_bld_WriteByte h14 (fun v3 => ⟨_, rfl, (AR.nil [0, 1, 4, 7, 8] rfl (AW.region (cs 3 rfl ?_)))⟩))))
     refine AR.nil [0, 1, 4, 7, 8] rfl ?_
     exact ⟨(w64 (i1 + 1)), b4, v3, rfl, rfl, rfl, hf⟩
 ·
  replace hf := ite_F h1 hf
  refine AW.exit (AW.sr (AR.step rfl rfl rfl (AO.build rfl zp_83 spl_83 rfl (AR.step_none rfl rfl (AO.store_box (i := 1) rfl rfl rfl ti_83 rfl rfl rfl rfl rfl ?_)))))
  refine cs 2 rfl (AR.nil [4, 5, 6] rfl (AW.ret ?_))
  cases hf
  exact ⟨rfl, _, ⟨_, _, rfl, ⟨_, _, 1, _, _, rfl, rfl, ti_83, rfl⟩, _, _, rfl, rfl, _, _, rfl, rfl, rfl⟩, [], List.nil_sublist _, h⟩

theorem c_lexer_operator  (src1 : Str) (at1 : Int) {r0 : ApiToken} {r1 : Int} {r2 : Int} (hf : lexer_operator src1 at1 = some (r0, r1, r2)) {τ : List Res} {Q : AOut → List Res → Prop} (h : Q (.ret (.tuple [.agg [.int .i64 r0.kind, .str r0.text, .int .i64 r0.at_], .int .i64 r1, .int .i64 r2])) τ) : AC Tryz.prog 117 [.str src1, .int .i64 at1] τ Q := by
 unfold lexer_operator at hf
 refine AC.none (AC.of_body 63 [.cell 4 83, .tmp 5, .tmp 6] [0, 1] Tryz.func117 rfl rfl rfl rfl rfl (AW.sr (AR.step rfl rfl rfl (AO.alloc_own rfl zp_83 (fun b4 => ?_)))))
 refine cs 2 rfl (AR.nil [0, 1, 4] rfl (AW.seq (AW.sr ?_)))
 refine AR.step rfl rfl rfl (AO.buildSliceF (List.map intC ([2, 1] : List Int)) rfl sf_149 rfl rfl rfl rfl (AR.step rfl rfl rfl (AO.len_list (l := ([2, 1] : List Int)) rfl rfl rfl rfl es_149 rfl rfl (cs 1 rfl (AR.nil [0, 1, 4, 10, 11, 12] rfl ?_)))))
 refine AW.block (AW.settle [0, 1, 4, 10, 11, 12] rfl (AW.loopF1 (fun x1 => [(0, .str src1), (1, .int .i64 at1), (4, .val (.pointer (some ⟨b4, 0, none⟩))), (10, .list (List.map intC ([2, 1] : List Int))), (11, .int .i64 (([2, 1] : List Int).length : Int)), (12, .int .i64 x1)]) (fun x1 => [.box b4 [.int .i64 0, .str ([] : Str), .int .i64 0]]) (fun kk1 x1 => lexer_operator_l1 src1 at1 kk1 x1 = some (r0, r1, r2)) BIG 0 rfl rfl hf (fun _ hz => none_no hz) ?_))
 intro kk1 x1 hf
 rw [lexer_operator_l1] at hf
 refine AW.sr (cs 1 rfl (AR.nil [0, 1, 4, 10, 11, 12, 13] rfl (AW.seq ?_)))
 refine AW.cond rfl (fun h1 => ?_) (fun h1 => ?_)
 ·
  replace hf := ite_T h1 hf
  refine AW.skip (AW.seq (AW.block (AW.sr ?_)))
  obtain ⟨n1, h2, hf⟩ := bind1_inv hf
  refine AR.step rfl rfl rfl (AO.idx_list h2 rfl rfl rfl rfl es_149 rfl rfl (cs 2 rfl (AR.nil [0, 1, 4, 8, 10, 11, 12] rfl (AW.seq ?_))))
  refine AW.sr (cs 4 rfl (AR.step rfl rfl rfl (AO.len_str rfl rfl rfl rfl un_9 rfl (cs 1 rfl ?_))))
  refine AR.nil [0, 1, 4, 8, 10, 11, 12, 21] rfl (AW.cond rfl (fun h3 => ?_) (fun h3 => ?_))
  ·
   replace hf := ite_T h3 hf
   refine AW.exit (AW.region (cs 2 rfl (AR.nil [0, 1, 4, 10, 11, 12] rfl ?_)))
   exact ⟨(w64 (x1 + 1)), rfl, rfl, rfl, hf⟩
  ·
   replace hf := ite_F h3 hf
   refine AW.skip (AW.sr (cs 5 rfl ?_))
   obtain ⟨s1, h4, hf⟩ := bind1_inv hf
   refine AR.step rfl rfl rfl (AO.sl_str h4 rfl un_9 rfl ⟨_, rfl⟩ ⟨_, rfl⟩ (cs 1 rfl (AR.nil [0, 1, 4, 8, 9, 10, 11, 12] rfl (AW.sr ?_))))
   refine cs 1 rfl (AR.nil [0, 1, 4, 8, 9, 10, 11, 12, 28] rfl (AW.block (AW.seq ?_)))
   refine AW.sr (cs 2 rfl (AR.nil [0, 1, 4, 8, 9, 10, 11, 12, 28, 29] rfl (AW.cond rfl (fun h5 => ?_) (fun h5 => ?_))))
   ·
    replace hf := ite_T h5 hf
    refine AW.skip (AW.cond rfl (fun h6 => ?_) (fun h6 => ?_))
    ·
     refine AW.sr (cs 2 rfl (AR.step rfl rfl rfl (AO.build rfl zp_83 spl_83 rfl (cs 3 rfl ?_))))
     refine AR.step_none rfl rfl (AO.store_box (i := 0) rfl rfl rfl ti_83 rfl rfl rfl rfl rfl (cs 2 rfl (AR.nil [4, 5, 6] rfl (AW.ret ?_))))
     cases hf
     exact ⟨rfl, _, ⟨_, _, rfl, ⟨_, _, 0, _, _, rfl, rfl, ti_83, rfl⟩, _, _, rfl, rfl, _, _, rfl, rfl, rfl⟩, [], List.nil_sublist _, h⟩
    ·
     cases h5.symm.trans h6
   ·
    replace hf := ite_F h5 hf
    refine AW.sr (cs 2 rfl (AR.nil [0, 1, 4, 8, 9, 10, 11, 12, 28, 29] rfl (AW.cond rfl (fun h7 => ?_) (fun h7 => ?_))))
    ·
     replace hf := ite_T h7 hf
     refine AW.skip (AW.cond rfl (fun h8 => ?_) (fun h8 => ?_))
     ·
      refine AW.sr (cs 2 rfl (AR.step rfl rfl rfl (AO.build rfl zp_83 spl_83 rfl (cs 3 rfl ?_))))
      refine AR.step_none rfl rfl (AO.store_box (i := 0) rfl rfl rfl ti_83 rfl rfl rfl rfl rfl (cs 2 rfl (AR.nil [4, 5, 6] rfl (AW.ret ?_))))
      cases hf
      exact ⟨rfl, _, ⟨_, _, rfl, ⟨_, _, 0, _, _, rfl, rfl, ti_83, rfl⟩, _, _, rfl, rfl, _, _, rfl, rfl, rfl⟩, [], List.nil_sublist _, h⟩
     ·
      cases h7.symm.trans h8
    ·
     replace hf := ite_F h7 hf
     refine AW.sr (cs 2 rfl (AR.nil [0, 1, 4, 8, 9, 10, 11, 12, 28, 29] rfl (AW.cond rfl (fun h9 => ?_) (fun h9 => ?_))))
     ·
      replace hf := ite_T h9 hf
      refine AW.skip (AW.cond rfl (fun h10 => ?_) (fun h10 => ?_))
      ·
       refine AW.sr (cs 2 rfl (AR.step rfl rfl rfl (AO.build rfl zp_83 spl_83 rfl (cs 3 rfl ?_))))
       refine AR.step_none rfl rfl (AO.store_box (i := 0) rfl rfl rfl ti_83 rfl rfl rfl rfl rfl (cs 2 rfl (AR.nil [4, 5, 6] rfl (AW.ret ?_))))
       cases hf
       exact ⟨rfl, _, ⟨_, _, rfl, ⟨_, _, 0, _, _, rfl, rfl, ti_83, rfl⟩, _, _, rfl, rfl, _, _, rfl, rfl, rfl⟩, [], List.nil_sublist _, h⟩
      ·
       cases h9.symm.trans h10
     ·
      replace hf := ite_F h9 hf
      refine AW.sr (cs 2 rfl (AR.nil [0, 1, 4, 8, 9, 10, 11, 12, 28, 29] rfl (AW.cond rfl (fun h11 => ?_) (fun h11 => ?_))))
      ·
       replace hf := ite_T h11 hf
       refine AW.skip (AW.cond rfl (fun h12 => ?_) (fun h12 => ?_))
       ·
        refine AW.sr (cs 2 rfl (AR.step rfl rfl rfl (AO.build rfl zp_83 spl_83 rfl (cs 3 rfl ?_))))
        refine AR.step_none rfl rfl (AO.store_box (i := 0) rfl rfl rfl ti_83 rfl rfl rfl rfl rfl (cs 2 rfl (AR.nil [4, 5, 6] rfl (AW.ret ?_))))
        cases hf
        exact ⟨rfl, _, ⟨_, _, rfl, ⟨_, _, 0, _, _, rfl, rfl, ti_83, rfl⟩, _, _, rfl, rfl, _, _, rfl, rfl, rfl⟩, [], List.nil_sublist _, h⟩
       ·
        cases h11.symm.trans h12
      ·
       replace hf := ite_F h11 hf
       refine AW.sr (cs 2 rfl (AR.nil [0, 1, 4, 8, 9, 10, 11, 12, 28, 29] rfl (AW.cond rfl (fun h13 => ?_) (fun h13 => ?_))))
       ·
        replace hf := ite_T h13 hf
        refine AW.skip (AW.cond rfl (fun h14 => ?_) (fun h14 => ?_))
        ·
         refine AW.sr (cs 2 rfl (AR.step rfl rfl rfl (AO.build rfl zp_83 spl_83 rfl (cs 3 rfl ?_))))
         refine AR.step_none rfl rfl (AO.store_box (i := 0) rfl rfl rfl ti_83 rfl rfl rfl rfl rfl (cs 2 rfl (AR.nil [4, 5, 6] rfl (AW.ret ?_))))
         cases hf
         exact ⟨rfl, _, ⟨_, _, rfl, ⟨_, _, 0, _, _, rfl, rfl, ti_83, rfl⟩, _, _, rfl, rfl, _, _, rfl, rfl, rfl⟩, [], List.nil_sublist _, h⟩
        ·
         cases h13.symm.trans h14
       ·
        replace hf := ite_F h13 hf
        refine AW.sr (cs 2 rfl (AR.nil [0, 1, 4, 8, 9, 10, 11, 12, 28, 29] rfl (AW.cond rfl (fun h15 => ?_) (fun h15 => ?_))))
        ·
         replace hf := ite_T h15 hf
         refine AW.skip (AW.cond rfl (fun h16 => ?_) (fun h16 => ?_))
         ·
          refine AW.sr (cs 2 rfl (AR.step rfl rfl rfl (AO.build rfl zp_83 spl_83 rfl (cs 3 rfl ?_))))
          refine AR.step_none rfl rfl (AO.store_box (i := 0) rfl rfl rfl ti_83 rfl rfl rfl rfl rfl (cs 2 rfl (AR.nil [4, 5, 6] rfl (AW.ret ?_))))
          cases hf
          exact ⟨rfl, _, ⟨_, _, rfl, ⟨_, _, 0, _, _, rfl, rfl, ti_83, rfl⟩, _, _, rfl, rfl, _, _, rfl, rfl, rfl⟩, [], List.nil_sublist _, h⟩
         ·
          cases h15.symm.trans h16
        ·
         replace hf := ite_F h15 hf
         refine AW.sr (cs 2 rfl (AR.nil [0, 1, 4, 8, 9, 10, 11, 12, 28, 29] rfl (AW.cond rfl (fun h17 => ?_) (fun h17 => ?_))))
         ·
          replace hf := ite_T h17 hf
          refine AW.skip (AW.cond rfl (fun h18 => ?_) (fun h18 => ?_))
          ·
           refine AW.sr (cs 2 rfl (AR.step rfl rfl rfl (AO.build rfl zp_83 spl_83 rfl (cs 3 rfl ?_))))
           refine AR.step_none rfl rfl (AO.store_box (i := 0) rfl rfl rfl ti_83 rfl rfl rfl rfl rfl (cs 2 rfl (AR.nil [4, 5, 6] rfl (AW.ret ?_))))
           cases hf
           exact ⟨rfl, _, ⟨_, _, rfl, ⟨_, _, 0, _, _, rfl, rfl, ti_83, rfl⟩, _, _, rfl, rfl, _, _, rfl, rfl, rfl⟩, [], List.nil_sublist _, h⟩
          ·
           cases h17.symm.trans h18
         ·
          replace hf := ite_F h17 hf
          refine AW.sr (cs 2 rfl (AR.nil [0, 1, 4, 8, 9, 10, 11, 12, 28, 29] rfl (AW.cond rfl (fun h19 => ?_) (fun h19 => ?_))))
          ·
           replace hf := ite_T h19 hf
           refine AW.skip (AW.cond rfl (fun h20 => ?_) (fun h20 => ?_))
           ·
            refine AW.sr (cs 2 rfl (AR.step rfl rfl rfl (AO.build rfl zp_83 spl_83 rfl (cs 3 rfl ?_))))
            refine AR.step_none rfl rfl (AO.store_box (i := 0) rfl rfl rfl ti_83 rfl rfl rfl rfl rfl (cs 2 rfl (AR.nil [4, 5, 6] rfl (AW.ret ?_))))
            cases hf
            exact ⟨rfl, _, ⟨_, _, rfl, ⟨_, _, 0, _, _, rfl, rfl, ti_83, rfl⟩, _, _, rfl, rfl, _, _, rfl, rfl, rfl⟩, [], List.nil_sublist _, h⟩
           ·
            cases h19.symm.trans h20
          ·
           replace hf := ite_F h19 hf
           refine AW.sr (cs 2 rfl (AR.nil [0, 1, 4, 8, 9, 10, 11, 12, 28, 29] rfl (AW.cond rfl (fun h21 => ?_) (fun h21 => ?_))))
           ·
            replace hf := ite_T h21 hf
            refine AW.skip (AW.cond rfl (fun h22 => ?_) (fun h22 => ?_))
            ·
             refine AW.sr (cs 2 rfl (AR.step rfl rfl rfl (AO.build rfl zp_83 spl_83 rfl (cs 3 rfl ?_))))
             refine AR.step_none rfl rfl (AO.store_box (i := 0) rfl rfl rfl ti_83 rfl rfl rfl rfl rfl (cs 2 rfl (AR.nil [4, 5, 6] rfl (AW.ret ?_))))
             cases hf
             exact ⟨rfl, _, ⟨_, _, rfl, ⟨_, _, 0, _, _, rfl, rfl, ti_83, rfl⟩, _, _, rfl, rfl, _, _, rfl, rfl, rfl⟩, [], List.nil_sublist _, h⟩
            ·
             cases h21.symm.trans h22
           ·
            replace hf := ite_F h21 hf
            refine AW.sr (cs 2 rfl (AR.nil [0, 1, 4, 8, 9, 10, 11, 12, 28, 29] rfl (AW.cond rfl (fun h23 => ?_) (fun h23 => ?_))))
            ·
             replace hf := ite_T h23 hf
             refine AW.skip (AW.cond rfl (fun h24 => ?_) (fun h24 => ?_))
             ·
              refine AW.sr (cs 2 rfl (AR.step rfl rfl rfl (AO.build rfl zp_83 spl_83 rfl (cs 3 rfl ?_))))
              refine AR.step_none rfl rfl (AO.store_box (i := 0) rfl rfl rfl ti_83 rfl rfl rfl rfl rfl (cs 2 rfl (AR.nil [4, 5, 6] rfl (AW.ret ?_))))
              cases hf
              exact ⟨rfl, _, ⟨_, _, rfl, ⟨_, _, 0, _, _, rfl, rfl, ti_83, rfl⟩, _, _, rfl, rfl, _, _, rfl, rfl, rfl⟩, [], List.nil_sublist _, h⟩
             ·
              cases h23.symm.trans h24
            ·
             replace hf := ite_F h23 hf
             refine AW.sr (cs 2 rfl (AR.nil [0, 1, 4, 8, 9, 10, 11, 12, 28, 29] rfl (AW.cond rfl (fun h25 => ?_) (fun h25 => ?_))))
             ·
              replace hf := ite_T h25 hf
              refine AW.skip (AW.cond rfl (fun h26 => ?_) (fun h26 => ?_))
              ·
               refine AW.sr (cs 2 rfl (AR.step rfl rfl rfl (AO.build rfl zp_83 spl_83 rfl (cs 3 rfl ?_))))
               refine AR.step_none rfl rfl (AO.store_box (i := 0) rfl rfl rfl ti_83 rfl rfl rfl rfl rfl (cs 2 rfl (AR.nil [4, 5, 6] rfl (AW.ret ?_))))
               cases hf
               exact ⟨rfl, _, ⟨_, _, rfl, ⟨_, _, 0, _, _, rfl, rfl, ti_83, rfl⟩, _, _, rfl, rfl, _, _, rfl, rfl, rfl⟩, [], List.nil_sublist _, h⟩
              ·
               cases h25.symm.trans h26
             ·
              replace hf := ite_F h25 hf
              refine AW.sr (cs 2 rfl (AR.nil [0, 1, 4, 8, 9, 10, 11, 12, 28, 29] rfl (AW.cond rfl (fun h27 => ?_) (fun h27 => ?_))))
              ·
               replace hf := ite_T h27 hf
               refine AW.skip (AW.cond rfl (fun h28 => ?_) (fun h28 => ?_))
               ·
                refine AW.sr (cs 2 rfl (AR.step rfl rfl rfl (AO.build rfl zp_83 spl_83 rfl (cs 3 rfl ?_))))
                refine AR.step_none rfl rfl (AO.store_box (i := 0) rfl rfl rfl ti_83 rfl rfl rfl rfl rfl (cs 2 rfl (AR.nil [4, 5, 6] rfl (AW.ret ?_))))
                cases hf
                exact ⟨rfl, _, ⟨_, _, rfl, ⟨_, _, 0, _, _, rfl, rfl, ti_83, rfl⟩, _, _, rfl, rfl, _, _, rfl, rfl, rfl⟩, [], List.nil_sublist _, h⟩
               ·
                cases h27.symm.trans h28
              ·
               replace hf := ite_F h27 hf
               refine AW.sr (cs 2 rfl (AR.nil [0, 1, 4, 8, 9, 10, 11, 12, 28, 29] rfl (AW.cond rfl (fun h29 => ?_) (fun h29 => ?_))))
               ·
                replace hf := ite_T h29 hf
                refine AW.skip (AW.cond rfl (fun h30 => ?_) (fun h30 => ?_))
                ·
                 refine AW.sr (cs 2 rfl (AR.step rfl rfl rfl (AO.build rfl zp_83 spl_83 rfl (cs 3 rfl ?_))))
                 refine AR.step_none rfl rfl (AO.store_box (i := 0) rfl rfl rfl ti_83 rfl rfl rfl rfl rfl (cs 2 rfl (AR.nil [4, 5, 6] rfl (AW.ret ?_))))
                 cases hf
                 exact ⟨rfl, _, ⟨_, _, rfl, ⟨_, _, 0, _, _, rfl, rfl, ti_83, rfl⟩, _, _, rfl, rfl, _, _, rfl, rfl, rfl⟩, [], List.nil_sublist _, h⟩
                ·
                 cases h29.symm.trans h30
               ·
                replace hf := ite_F h29 hf
                refine AW.sr (cs 2 rfl (AR.nil [0, 1, 4, 8, 9, 10, 11, 12, 28, 29] rfl (AW.cond rfl (fun h31 => ?_) (fun h31 => ?_))))
                ·
                 replace hf := ite_T h31 hf
                 refine AW.skip (AW.cond rfl (fun h32 => ?_) (fun h32 => ?_))
                 ·
                  refine AW.sr (cs 2 rfl (AR.step rfl rfl rfl (AO.build rfl zp_83 spl_83 rfl (cs 3 rfl ?_))))
                  refine AR.step_none rfl rfl (AO.store_box (i := 0) rfl rfl rfl ti_83 rfl rfl rfl rfl rfl (cs 2 rfl (AR.nil [4, 5, 6] rfl (AW.ret ?_))))
                  cases hf
                  exact ⟨rfl, _, ⟨_, _, rfl, ⟨_, _, 0, _, _, rfl, rfl, ti_83, rfl⟩, _, _, rfl, rfl, _, _, rfl, rfl, rfl⟩, [], List.nil_sublist _, h⟩
                 ·
                  cases h31.symm.trans h32
                ·
                 replace hf := ite_F h31 hf
                 refine AW.sr (cs 2 rfl (AR.nil [0, 1, 4, 8, 9, 10, 11, 12, 28, 29] rfl (AW.cond rfl (fun h33 => ?_) (fun h33 => ?_))))
                 ·
                  replace hf := ite_T h33 hf
                  refine AW.skip (AW.cond rfl (fun h34 => ?_) (fun h34 => ?_))
                  ·
                   refine AW.sr (cs 2 rfl (AR.step rfl rfl rfl (AO.build rfl zp_83 spl_83 rfl (cs 3 rfl ?_))))
                   refine AR.step_none rfl rfl (AO.store_box (i := 0) rfl rfl rfl ti_83 rfl rfl rfl rfl rfl (cs 2 rfl (AR.nil [4, 5, 6] rfl (AW.ret ?_))))
                   cases hf
                   exact ⟨rfl, _, ⟨_, _, rfl, ⟨_, _, 0, _, _, rfl, rfl, ti_83, rfl⟩, _, _, rfl, rfl, _, _, rfl, rfl, rfl⟩, [], List.nil_sublist _, h⟩
                  ·
                   cases h33.symm.trans h34
                 ·
                  replace hf := ite_F h33 hf
                  refine AW.sr (cs 2 rfl (AR.nil [0, 1, 4, 8, 9, 10, 11, 12, 28, 29] rfl (AW.cond rfl (fun h35 => ?_) (fun h35 => ?_))))
                  ·
                   replace hf := ite_T h35 hf
                   refine AW.skip (AW.cond rfl (fun h36 => ?_) (fun h36 => ?_))
                   ·
                    refine AW.sr (cs 2 rfl (AR.step rfl rfl rfl (AO.build rfl zp_83 spl_83 rfl (cs 3 rfl ?_))))
                    refine AR.step_none rfl rfl (AO.store_box (i := 0) rfl rfl rfl ti_83 rfl rfl rfl rfl rfl (cs 2 rfl (AR.nil [4, 5, 6] rfl (AW.ret ?_))))
                    cases hf
                    exact ⟨rfl, _, ⟨_, _, rfl, ⟨_, _, 0, _, _, rfl, rfl, ti_83, rfl⟩, _, _, rfl, rfl, _, _, rfl, rfl, rfl⟩, [], List.nil_sublist _, h⟩
                   ·
                    cases h35.symm.trans h36
                  ·
                   replace hf := ite_F h35 hf
                   refine AW.sr (cs 2 rfl (AR.nil [0, 1, 4, 8, 9, 10, 11, 12, 28, 29] rfl (AW.cond rfl (fun h37 => ?_) (fun h37 => ?_))))
                   ·
                    replace hf := ite_T h37 hf
                    refine AW.skip (AW.cond rfl (fun h38 => ?_) (fun h38 => ?_))
                    ·
                     refine AW.sr (cs 2 rfl (AR.step rfl rfl rfl (AO.build rfl zp_83 spl_83 rfl (cs 3 rfl ?_))))
                     refine AR.step_none rfl rfl (AO.store_box (i := 0) rfl rfl rfl ti_83 rfl rfl rfl rfl rfl (cs 2 rfl (AR.nil [4, 5, 6] rfl (AW.ret ?_))))
                     cases hf
                     exact ⟨rfl, _, ⟨_, _, rfl, ⟨_, _, 0, _, _, rfl, rfl, ti_83, rfl⟩, _, _, rfl, rfl, _, _, rfl, rfl, rfl⟩, [], List.nil_sublist _, h⟩
                    ·
                     cases h37.symm.trans h38
                   ·
                    replace hf := ite_F h37 hf
                    refine AW.sr (cs 2 rfl (AR.nil [0, 1, 4, 8, 9, 10, 11, 12, 28, 29] rfl (AW.cond rfl (fun h39 => ?_) (fun h39 => ?_))))
                    ·
                     replace hf := ite_T h39 hf
                     refine AW.skip (AW.cond rfl (fun h40 => ?_) (fun h40 => ?_))
                     ·
                      refine AW.sr (cs 2 rfl (AR.step rfl rfl rfl (AO.build rfl zp_83 spl_83 rfl (cs 3 rfl ?_))))
                      refine AR.step_none rfl rfl (AO.store_box (i := 0) rfl rfl rfl ti_83 rfl rfl rfl rfl rfl (cs 2 rfl (AR.nil [4, 5, 6] rfl (AW.ret ?_))))
                      cases hf
                      exact ⟨rfl, _, ⟨_, _, rfl, ⟨_, _, 0, _, _, rfl, rfl, ti_83, rfl⟩, _, _, rfl, rfl, _, _, rfl, rfl, rfl⟩, [], List.nil_sublist _, h⟩
                     ·
                      cases h39.symm.trans h40
                    ·
                     replace hf := ite_F h39 hf
                     refine AW.sr (cs 2 rfl (AR.nil [0, 1, 4, 8, 9, 10, 11, 12, 28, 29] rfl (AW.cond rfl (fun h41 => ?_) (fun h41 => ?_))))
                     ·
                      replace hf := ite_T h41 hf
                      refine AW.skip (AW.cond rfl (fun h42 => ?_) (fun h42 => ?_))
                      ·
                       refine AW.sr (cs 2 rfl (AR.step rfl rfl rfl (AO.build rfl zp_83 spl_83 rfl (cs 3 rfl ?_))))
                       refine AR.step_none rfl rfl (AO.store_box (i := 0) rfl rfl rfl ti_83 rfl rfl rfl rfl rfl (cs 2 rfl (AR.nil [4, 5, 6] rfl (AW.ret ?_))))
                       cases hf
                       exact ⟨rfl, _, ⟨_, _, rfl, ⟨_, _, 0, _, _, rfl, rfl, ti_83, rfl⟩, _, _, rfl, rfl, _, _, rfl, rfl, rfl⟩, [], List.nil_sublist _, h⟩
                      ·
                       cases h41.symm.trans h42
                     ·
                      replace hf := ite_F h41 hf
                      refine AW.sr (cs 2 rfl (AR.nil [0, 1, 4, 8, 9, 10, 11, 12, 28, 29] rfl (AW.cond rfl (fun h43 => ?_) (fun h43 => ?_))))
                      ·
                       replace hf := ite_T h43 hf
                       refine AW.skip (AW.cond rfl (fun h44 => ?_) (fun h44 => ?_))
                       ·
                        refine AW.sr (cs 2 rfl (AR.step rfl rfl rfl (AO.build rfl zp_83 spl_83 rfl (cs 3 rfl ?_))))
                        refine AR.step_none rfl rfl (AO.store_box (i := 0) rfl rfl rfl ti_83 rfl rfl rfl rfl rfl (cs 2 rfl (AR.nil [4, 5, 6] rfl (AW.ret ?_))))
                        cases hf
                        exact ⟨rfl, _, ⟨_, _, rfl, ⟨_, _, 0, _, _, rfl, rfl, ti_83, rfl⟩, _, _, rfl, rfl, _, _, rfl, rfl, rfl⟩, [], List.nil_sublist _, h⟩
                       ·
                        cases h43.symm.trans h44
                      ·
                       replace hf := ite_F h43 hf
                       refine AW.sr (cs 2 rfl (AR.nil [0, 1, 4, 8, 9, 10, 11, 12, 28, 29] rfl (AW.cond rfl (fun h45 => ?_) (fun h45 => ?_))))
                       ·
                        replace hf := ite_T h45 hf
                        refine AW.skip (AW.cond rfl (fun h46 => ?_) (fun h46 => ?_))
                        ·
                         refine AW.sr (cs 2 rfl (AR.step rfl rfl rfl (AO.build rfl zp_83 spl_83 rfl (cs 3 rfl ?_))))
                         refine AR.step_none rfl rfl (AO.store_box (i := 0) rfl rfl rfl ti_83 rfl rfl rfl rfl rfl (cs 2 rfl (AR.nil [4, 5, 6] rfl (AW.ret ?_))))
                         cases hf
                         exact ⟨rfl, _, ⟨_, _, rfl, ⟨_, _, 0, _, _, rfl, rfl, ti_83, rfl⟩, _, _, rfl, rfl, _, _, rfl, rfl, rfl⟩, [], List.nil_sublist _, h⟩
                        ·
                         cases h45.symm.trans h46
                       ·
                        replace hf := ite_F h45 hf
                        refine AW.sr (cs 2 rfl (AR.nil [0, 1, 4, 8, 9, 10, 11, 12, 28, 29] rfl (AW.cond rfl (fun h47 => ?_) (fun h47 => ?_))))
                        ·
                         replace hf := ite_T h47 hf
                         refine AW.skip (AW.cond rfl (fun h48 => ?_) (fun h48 => ?_))
                         ·
                          refine AW.sr (cs 2 rfl (AR.step rfl rfl rfl (AO.build rfl zp_83 spl_83 rfl (cs 3 rfl ?_))))
                          refine AR.step_none rfl rfl (AO.store_box (i := 0) rfl rfl rfl ti_83 rfl rfl rfl rfl rfl (cs 2 rfl (AR.nil [4, 5, 6] rfl (AW.ret ?_))))
                          cases hf
                          exact ⟨rfl, _, ⟨_, _, rfl, ⟨_, _, 0, _, _, rfl, rfl, ti_83, rfl⟩, _, _, rfl, rfl, _, _, rfl, rfl, rfl⟩, [], List.nil_sublist _, h⟩
                         ·
                          cases h47.symm.trans h48
                        ·
                         replace hf := ite_F h47 hf
                         refine AW.sr (cs 2 rfl (AR.nil [0, 1, 4, 8, 9, 10, 11, 12, 28, 29] rfl (AW.cond rfl (fun h49 => ?_) (fun h49 => ?_))))
                         ·
                          replace hf := ite_T h49 hf
                          refine AW.skip (AW.cond rfl (fun h50 => ?_) (fun h50 => ?_))
                          ·
                           refine AW.sr (cs 2 rfl (AR.step rfl rfl rfl (AO.build rfl zp_83 spl_83 rfl (cs 3 rfl ?_))))
                           refine AR.step_none rfl rfl (AO.store_box (i := 0) rfl rfl rfl ti_83 rfl rfl rfl rfl rfl (cs 2 rfl (AR.nil [4, 5, 6] rfl (AW.ret ?_))))
                           cases hf
                           exact ⟨rfl, _, ⟨_, _, rfl, ⟨_, _, 0, _, _, rfl, rfl, ti_83, rfl⟩, _, _, rfl, rfl, _, _, rfl, rfl, rfl⟩, [], List.nil_sublist _, h⟩
                          ·
                           cases h49.symm.trans h50
                         ·
                          replace hf := ite_F h49 hf
                          refine AW.sr (cs 2 rfl (AR.nil [0, 1, 4, 8, 9, 10, 11, 12, 28, 29] rfl (AW.cond rfl (fun h51 => ?_) (fun h51 => ?_))))
                          ·
                           replace hf := ite_T h51 hf
                           refine AW.skip (AW.cond rfl (fun h52 => ?_) (fun h52 => ?_))
                           ·
                            refine AW.sr (cs 2 rfl (AR.step rfl rfl rfl (AO.build rfl zp_83 spl_83 rfl (cs 3 rfl ?_))))
                            refine AR.step_none rfl rfl (AO.store_box (i := 0) rfl rfl rfl ti_83 rfl rfl rfl rfl rfl (cs 2 rfl (AR.nil [4, 5, 6] rfl (AW.ret ?_))))
                            cases hf
                            exact ⟨rfl, _, ⟨_, _, rfl, ⟨_, _, 0, _, _, rfl, rfl, ti_83, rfl⟩, _, _, rfl, rfl, _, _, rfl, rfl, rfl⟩, [], List.nil_sublist _, h⟩
                           ·
                            cases h51.symm.trans h52
                          ·
                           replace hf := ite_F h51 hf
                           refine AW.region (cs 2 rfl (AR.nil [0, 1, 4, 8, 9, 10, 11, 12, 29] rfl (AW.cond rfl (fun h53 => ?_) (fun h53 => ?_))))
                           ·
                            replace hf := ite_T h53 hf
                            refine AW.sr (cs 2 rfl (AR.step rfl rfl rfl (AO.build rfl zp_83 spl_83 rfl (cs 3 rfl ?_))))
                            refine AR.step_none rfl rfl (AO.store_box (i := 0) rfl rfl rfl ti_83 rfl rfl rfl rfl rfl (cs 2 rfl (AR.nil [4, 5, 6] rfl (AW.ret ?_))))
                            cases hf
                            exact ⟨rfl, _, ⟨_, _, rfl, ⟨_, _, 0, _, _, rfl, rfl, ti_83, rfl⟩, _, _, rfl, rfl, _, _, rfl, rfl, rfl⟩, [], List.nil_sublist _, h⟩
                           ·
                            replace hf := ite_F h53 hf
                            refine AW.skip (AW.region (cs 2 rfl (AR.nil [0, 1, 4, 10, 11, 12] rfl ?_)))
                            exact ⟨(w64 (x1 + 1)), rfl, rfl, rfl, hf⟩
 ·
  replace hf := ite_F h1 hf
  refine AW.exit (AW.sr (AR.step rfl rfl rfl (AO.build rfl zp_83 spl_83 rfl (AR.step_none rfl rfl (AO.store_box (i := 0) rfl rfl rfl ti_83 rfl rfl rfl rfl rfl ?_)))))
  refine cs 2 rfl (AR.nil [4, 5, 6] rfl (AW.ret ?_))
  cases hf
  exact ⟨rfl, _, ⟨_, _, rfl, ⟨_, _, 0, _, _, rfl, rfl, ti_83, rfl⟩, _, _, rfl, rfl, _, _, rfl, rfl, rfl⟩, [], List.nil_sublist _, h⟩

theorem c_lexer_token  (src1 : Str) (at1 : Int) {r0 : ApiToken} {r1 : Int} {r2 : Int} (hf : lexer_token src1 at1 = some (r0, r1, r2)) {τ : List Res} {Q : AOut → List Res → Prop} (h : Q (.ret (.tuple [.agg [.int .i64 r0.kind, .str r0.text, .int .i64 r0.at_], .int .i64 r1, .int .i64 r2])) τ) : AC Tryz.prog 84 [.str src1, .int .i64 at1] τ Q := by
 unfold lexer_token at hf
 refine AC.none (AC.of_body 44 [.cell 4 83, .tmp 5, .tmp 6] [0, 1] Tryz.func84 rfl rfl rfl rfl rfl (AW.sr (AR.step rfl rfl rfl (AO.alloc_own rfl zp_83 (fun b4 => ?_)))))
 refine cs 2 rfl (AR.nil [0, 1, 4] rfl (AW.seq (AW.sr ?_)))
 refine cs 2 rfl ?_
 obtain ⟨c1, h1, hf⟩ := bind1_inv hf
 refine AR.step rfl rfl rfl (AO.idx_str h1 rfl un_9 rfl rfl (cs 1 rfl (AR.nil [0, 1, 4, 7] rfl (AW.block ?_))))
 refine AW.sr (cs 1 rfl ?_)
 obtain ⟨x1, h2, hf⟩ := bind1_inv hf
 refine AR.step rfl rfl rfl (AO.call rfl _ rfl rfl pf_112 (c_lexer_letter _ h2 (cs 1 rfl (AR.nil [0, 1, 4, 7, 11] rfl (AW.cond rfl (fun h3 => ?_) (fun h3 => ?_))))))
 ·
  replace hf := ite_T h3 hf
  refine AW.sr (cs 2 rfl ?_)
  replace hf := (bind3_ret _).trans hf
  obtain ⟨x2, x3, x4, h4, hf⟩ := bind3_inv hf
  refine AR.step rfl rfl rfl (AO.call rfl _ rfl rfl pf_113 (c_lexer_name _ _ h4 (cs 3 rfl (AR.step_none rfl rfl (AO.store_box (i := 0) rfl rfl rfl ti_83 rfl rfl rfl rfl rfl (cs 2 rfl ?_))))))
  refine AR.nil [4, 5, 6] rfl (AW.ret ?_)
  cases hf
  exact ⟨rfl, _, ⟨_, _, rfl, ⟨_, _, 0, _, _, rfl, rfl, ti_83, rfl⟩, _, _, rfl, rfl, _, _, rfl, rfl, rfl⟩, [], List.nil_sublist _, h⟩
 ·
  replace hf := ite_F h3 hf
  refine AW.sr (cs 1 rfl ?_)
  obtain ⟨x5, h5, hf⟩ := bind1_inv hf
  refine AR.step rfl rfl rfl (AO.call rfl _ rfl rfl pf_114 (c_lexer_digit _ h5 (cs 1 rfl (AR.nil [0, 1, 4, 7, 20] rfl (AW.cond rfl (fun h6 => ?_) (fun h6 => ?_))))))
  ·
   replace hf := ite_T h6 hf
   refine AW.sr (cs 2 rfl ?_)
   replace hf := (bind3_ret _).trans hf
   obtain ⟨x6, x7, x8, h7, hf⟩ := bind3_inv hf
   refine AR.step rfl rfl rfl (AO.call rfl _ rfl rfl pf_115 (c_lexer_number _ _ h7 (cs 3 rfl (AR.step_none rfl rfl (AO.store_box (i := 0) rfl rfl rfl ti_83 rfl rfl rfl rfl rfl (cs 2 rfl ?_))))))
   refine AR.nil [4, 5, 6] rfl (AW.ret ?_)
   cases hf
   exact ⟨rfl, _, ⟨_, _, rfl, ⟨_, _, 0, _, _, rfl, rfl, ti_83, rfl⟩, _, _, rfl, rfl, _, _, rfl, rfl, rfl⟩, [], List.nil_sublist _, h⟩
  ·
   replace hf := ite_F h6 hf
   refine AW.sr (cs 3 rfl (AR.nil [0, 1, 4, 29] rfl (AW.cond rfl (fun h8 => ?_) (fun h8 => ?_))))
   ·
    replace hf := ite_T h8 hf
    refine AW.sr (cs 2 rfl ?_)
    replace hf := (bind3_ret _).trans hf
    obtain ⟨x9, x10, x11, h9, hf⟩ := bind3_inv hf
    refine AR.step rfl rfl rfl (AO.call rfl _ rfl rfl pf_116 (c_lexer_text _ _ h9 (cs 3 rfl (AR.step_none rfl rfl (AO.store_box (i := 0) rfl rfl rfl ti_83 rfl rfl rfl rfl rfl (cs 2 rfl ?_))))))
    refine AR.nil [4, 5, 6] rfl (AW.ret ?_)
    cases hf
    exact ⟨rfl, _, ⟨_, _, rfl, ⟨_, _, 0, _, _, rfl, rfl, ti_83, rfl⟩, _, _, rfl, rfl, _, _, rfl, rfl, rfl⟩, [], List.nil_sublist _, h⟩
   ·
    replace hf := ite_F h8 hf
    refine AW.skip (AW.sr (cs 2 rfl ?_))
    replace hf := (bind3_ret _).trans hf
    obtain ⟨x12, x13, x14, h10, hf⟩ := bind3_inv hf
    refine AR.step rfl rfl rfl (AO.call rfl _ rfl rfl pf_117 (c_lexer_operator _ _ h10 (cs 3 rfl (AR.step_none rfl rfl (AO.store_box (i := 0) rfl rfl rfl ti_83 rfl rfl rfl rfl rfl (cs 2 rfl ?_))))))
    refine AR.nil [4, 5, 6] rfl (AW.ret ?_)
    cases hf
    exact ⟨rfl, _, ⟨_, _, rfl, ⟨_, _, 0, _, _, rfl, rfl, ti_83, rfl⟩, _, _, rfl, rfl, _, _, rfl, rfl, rfl⟩, [], List.nil_sublist _, h⟩

theorem c_lexer_brackets  (op1 : Str) (open1 : Int) {r0 : Int} (hf : lexer_brackets op1 open1 = some r0) {τ : List Res} {Q : AOut → List Res → Prop} (h : Q (.ret (.int .i64 r0)) τ) : AC Tryz.prog 85 [.str op1, .int .i64 open1] τ Q := by
 unfold lexer_brackets at hf
 refine AC.none (AC.of_body 18 [.tmp 4] [0, 1] Tryz.func85 rfl rfl rfl rfl rfl (AW.sr (cs 1 rfl ?_)))
 refine AR.nil [0, 1] rfl (AW.seq (AW.sr (cs 1 rfl ?_)))
 refine AR.nil [1, 5] rfl (AW.block (AW.seq (AW.sr ?_)))
 refine cs 2 rfl (AR.nil [1, 5, 6] rfl (AW.cond rfl (fun h1 => ?_) (fun h1 => ?_)))
 ·
  replace hf := ite_T h1 hf
  refine AW.skip (AW.cond rfl (fun h2 => ?_) (fun h2 => ?_))
  ·
   refine AW.sr (cs 3 rfl (AR.nil [4] rfl (AW.ret ?_)))
   cases hf
   exact ⟨rfl, _, ⟨_, _, rfl, rfl, rfl⟩, [], List.nil_sublist _, h⟩
  ·
   cases h1.symm.trans h2
 ·
  replace hf := ite_F h1 hf
  refine AW.region (cs 2 rfl (AR.nil [1, 5, 6] rfl (AW.cond rfl (fun h3 => ?_) (fun h3 => ?_))))
  ·
   replace hf := ite_T h3 hf
   refine AW.sr (cs 3 rfl (AR.nil [4] rfl (AW.ret ?_)))
   cases hf
   exact ⟨rfl, _, ⟨_, _, rfl, rfl, rfl⟩, [], List.nil_sublist _, h⟩
  ·
   replace hf := ite_F h3 hf
   refine AW.seq (AW.sr (cs 2 rfl (AR.nil [1, 5, 11] rfl ?_)))
   refine AW.cond rfl (fun h4 => ?_) (fun h4 => ?_)
   ·
    replace hf := ite_T h4 hf
    refine AW.skip (AW.cond rfl (fun h5 => ?_) (fun h5 => ?_))
    ·
     refine AW.sr (cs 2 rfl (AR.step rfl rfl rfl (AO.max2 rfl rfl rfl rfl rfl (cs 1 rfl ?_))))
     refine AR.nil [4] rfl (AW.ret ?_)
     cases hf
     exact ⟨rfl, _, ⟨_, _, rfl, rfl, rfl⟩, [], List.nil_sublist _, h⟩
    ·
     cases h4.symm.trans h5
   ·
    replace hf := ite_F h4 hf
    refine AW.region (cs 2 rfl (AR.nil [1, 11] rfl (AW.cond rfl (fun h6 => ?_) (fun h6 => ?_))))
    ·
     replace hf := ite_T h6 hf
     refine AW.sr (cs 2 rfl (AR.step rfl rfl rfl (AO.max2 rfl rfl rfl rfl rfl (cs 1 rfl ?_))))
     refine AR.nil [4] rfl (AW.ret ?_)
     cases hf
     exact ⟨rfl, _, ⟨_, _, rfl, rfl, rfl⟩, [], List.nil_sublist _, h⟩
    ·
     replace hf := ite_F h6 hf
     refine AW.skip (AW.sr (cs 2 rfl (AR.nil [4] rfl ?_)))
     refine AW.ret ?_
     cases hf
     exact ⟨rfl, _, ⟨_, _, rfl, rfl, rfl⟩, [], List.nil_sublist _, h⟩

theorem c_lexer_Tokens  (src1 : Str) {r0 : List ApiToken} {r1 : Int} {r2 : Int} (hf : lexer_Tokens src1 = some (r0, r1, r2)) {τ : List Res} {Q : AOut → List Res → Prop} (h : Q (.ret (.tuple [.list (List.map ApiToken.cells r0), .int .i64 r1, .int .i64 r2])) τ) : AC Tryz.prog 53 [.str src1] τ Q := by
 unfold lexer_Tokens at hf
 refine AC.none (AC.of_body 84 [.tmp 2, .tmp 3, .tmp 4] [0] Tryz.func53 rfl rfl rfl rfl rfl (AW.sr (AR.step rfl rfl rfl (AO.nil_list rfl rfl ?_))))
 refine cs 2 rfl (AR.nil [0] rfl (AW.seq (AW.sr ?_)))
 refine cs 1 rfl (AR.step rfl rfl rfl (AO.len_str rfl rfl rfl rfl un_9 rfl (cs 1 rfl (AR.nil [0, 16] rfl ?_))))
 refine AW.cond rfl (fun h1 => ?_) (fun h1 => ?_)
 ·
  replace hf := ite_T h1 hf
  refine AW.sr (AR.step rfl rfl rfl (AO.nil_list rfl rfl (cs 2 rfl (AR.nil [2, 3, 4] rfl ?_))))
  refine AW.ret ?_
  cases hf
  exact ⟨rfl, _, ⟨_, _, rfl, rfl, _, _, rfl, rfl, _, _, rfl, rfl, rfl⟩, [], List.nil_sublist _, h⟩
 ·
  replace hf := ite_F h1 hf
  refine AW.skip (AW.sr (cs 1 rfl (AR.nil [0, 5] rfl ?_)))
  refine AW.sr (cs 1 rfl (AR.nil [0, 5, 6] rfl (AW.sr ?_)))
  refine cs 2 rfl (AR.nil [0, 5, 6, 7, 8] rfl (AW.seq (AW.sr ?_)))
  refine cs 1 rfl (AR.step rfl rfl rfl (AO.range_str rfl un_9 rfl (fun it18 => (AR.nil [0, 5, 6, 7, 8, 18] rfl (AW.block ?_)))))
  refine AW.row 3 83 (AW.settle [0, 5, 6, 7, 8, 18] rfl (AW.loopF5 (fun out1 v1 next1 open1 pos1 => [(0, .str src1), (5, .own v1 (List.map ApiToken.cells out1)), (6, .fn 81 []), (7, .int .i64 next1), (8, .int .i64 open1), (18, .val (.pointer (some ⟨it18, 0, none⟩)))]) (fun out1 v1 next1 open1 pos1 => [.row v1 (List.map ApiToken.cells out1).length 3 83, .obj it18 (.stringIter ⟨List.toArray src1⟩ pos1)]) (fun kk1 out1 v1 next1 open1 pos1 => lexer_Tokens_l1 src1 kk1 out1 next1 open1 pos1 = some (r0, r1, r2)) BIG [] (.slice none 0 0) 0 0 0 rfl rfl hf (fun _ _ _ _ _ hz => none_no hz) ?_))
  intro kk1 out1 v1 next1 open1 pos1 hf
  rw [lexer_Tokens_l1] at hf
  refine AW.sr ?_
  rcases Bool.eq_false_or_eq_true (decide (pos1 < src1.length)) with h2 | h2
  ·
   replace hf := ite_T h2 hf
   refine AR.step rfl rfl rfl (AO.next_str (i := 1) rfl rfl rfl h2 (cs 1 rfl (AR.nil [0, 5, 6, 7, 8, 18, 19, 20] rfl (AW.seq ?_))))
   refine AW.cond rfl (fun h3 => ?_) (fun h3 => ?_)
   ·
    refine AW.skip (AW.block (AW.sr (cs 4 rfl ?_)))
    refine AR.nil [0, 5, 6, 7, 8, 9, 10, 18] rfl (AW.seq (AW.sr (cs 4 rfl ?_)))
    obtain ⟨b1, h5, hf⟩ := bind1_inv hf
    refine AR.join1 4 26 30 false [0, 5, 6, 7, 8, 9, 10, 18] b1 rfl rfl (fun h4 => ?_) (fun h4 => ?_) ?_
    ·
     replace h5 := ite_F h4 h5
     refine AR.is 26 h4 rfl (cs 2 rfl ?_)
     replace h5 := (bind1_ret _).trans h5
     obtain ⟨x1, h6, h5⟩ := bind1_inv h5
     refine AR.go rfl rfl rfl rfl rfl rfl (AO.call rfl _ rfl rfl pf_81 (c_lexer_Tokens_1 _ h6 ?_))
     obtain rfl := Option.some.inj h5
     refine cs 1 rfl (AR.nil [30, 0, 5, 6, 7, 8, 9, 10, 18] rfl ?_)
     exact ⟨rfl, rfl, rfl, rfl⟩
    ·
     replace h5 := ite_T h4 h5
     refine AR.is 26 h4 rfl ?_
     obtain rfl := Option.some.inj h5
     refine cs 4 rfl (AR.nil [30, 0, 5, 6, 7, 8, 9, 10, 18] rfl ?_)
     exact ⟨rfl, rfl, rfl, rfl⟩
    refine AR.nil [0, 5, 6, 7, 8, 9, 10, 18, 30] rfl (AW.cond rfl (fun h7 => ?_) (fun h7 => ?_))
    ·
     replace hf := ite_T h7 hf
     refine AW.settle [0, 5, 6, 7, 8, 18] rfl (AW.exit ?_)
     exact ⟨out1, v1, next1, open1, (pos1 + (dec src1 pos1).2), rfl, rfl, rfl, hf⟩
    ·
     replace hf := ite_F h7 hf
     refine AW.skip (AW.seq (AW.sr (cs 2 rfl ?_)))
     refine AR.nil [0, 5, 6, 7, 8, 9, 10, 18, 32] rfl (AW.cond rfl (fun h8 => ?_) (fun h8 => ?_))
     ·
      replace hf := ite_T h8 hf
      refine AW.sr (cs 2 rfl ?_)
      obtain ⟨next2, h9, hf⟩ := bind1_inv hf
      refine AR.step rfl rfl rfl (AO.call rfl _ rfl rfl pf_82 (c_lexer_while _ _ lexer_Tokens_2 83 [] pf_83 (fun _ _ hz => c_lexer_Tokens_2 _  hz) h9 (cs 1 rfl (AR.nil [0, 5, 6, 7, 8, 18] rfl (AW.exit ?_)))))
      exact ⟨out1, v1, next2, open1, (pos1 + (dec src1 pos1).2), rfl, rfl, rfl, hf⟩
     ·
      replace hf := ite_F h8 hf
      refine AW.skip (AW.seq (AW.sr (cs 2 rfl ?_)))
      refine AR.nil [0, 5, 6, 7, 8, 9, 18, 37] rfl (AW.cond rfl (fun h10 => ?_) (fun h10 => ?_))
      ·
       replace hf := ite_T h10 hf
       refine AW.seq (AW.sr (cs 3 rfl ?_))
       obtain ⟨b2, h12, hf⟩ := bind1_inv hf
       refine AR.join1 14 40 54 true [0, 5, 6, 7, 8, 9, 18] b2 rfl rfl (fun h11 => ?_) (fun h11 => ?_) ?_
       ·
        replace h12 := ite_T h11 h12
        refine AR.is 40 h11 rfl (cs 1 rfl (AR.go rfl rfl rfl rfl rfl rfl (AO.len_list (l := out1) rfl rfl rfl rfl es_77 rfl rfl (cs 2 rfl ?_))))
        replace h12 := (bind1_ret _).trans h12
        obtain ⟨b3, h14, h12⟩ := bind1_inv h12
        refine AR.join1 9 44 53 false [0, 5, 6, 7, 8, 9, 18, 40] b3 rfl rfl (fun h13 => ?_) (fun h13 => ?_) ?_
        ·
         replace h14 := ite_F h13 h14
         refine AR.is 44 h13 rfl (cs 2 rfl (AR.go rfl rfl rfl rfl rfl rfl (AO.len_list (l := out1) rfl rfl rfl rfl es_77 rfl rfl (cs 1 rfl ?_))))
         obtain ⟨e1, h15, h14⟩ := bind1_inv h14
         refine AR.go rfl rfl rfl rfl rfl rfl (AO.idx_list h15 rfl rfl rfl rfl es_77 (ApiToken.cells_eq _) rfl (cs 3 rfl ?_))
         obtain rfl := Option.some.inj h14
         refine cs 1 rfl (AR.nil [53, 0, 5, 6, 7, 8, 9, 18, 40] rfl ?_)
         exact ⟨rfl, rfl, rfl, rfl⟩
        ·
         replace h14 := ite_T h13 h14
         refine AR.is 44 h13 rfl ?_
         obtain rfl := Option.some.inj h14
         refine cs 9 rfl (AR.nil [53, 0, 5, 6, 7, 8, 9, 18, 40] rfl ?_)
         exact ⟨rfl, rfl, rfl, rfl⟩
        obtain rfl := Option.some.inj h12
        refine cs 1 rfl (AR.nil [54, 0, 5, 6, 7, 8, 9, 18] rfl ?_)
        exact ⟨rfl, rfl, rfl, rfl⟩
       ·
        replace h12 := ite_F h11 h12
        refine AR.is 40 h11 rfl ?_
        obtain rfl := Option.some.inj h12
        refine cs 14 rfl (AR.nil [54, 0, 5, 6, 7, 8, 9, 18] rfl ?_)
        exact ⟨rfl, rfl, rfl, rfl⟩
       refine AR.nil [0, 5, 6, 7, 8, 9, 18, 54] rfl (AW.cond rfl (fun h16 => ?_) (fun h16 => ?_))
       ·
        replace hf := ite_T h16 hf
        refine AW.region (cs 2 rfl (AR.step rfl rfl rfl (AO.build rfl zp_83 spl_83 rfl (AR.step rfl rfl rfl (AO.buildSliceF (List.map ApiToken.cells [(ApiToken.mk 5 ([] : Str) (pos1 : Int))]) rfl sf_77 rfl rfl rfl (by first | rfl | simp only [List.map, ApiToken.cells_eq]) ?_)))))
        obtain ⟨out2, h17, hf⟩ := bind1_inv hf
        refine AR.step rfl rfl rfl (AO.app_own (i := 0) (l := out1) (m := [(ApiToken.mk 5 ([] : Str) (pos1 : Int))]) h17 rfl rfl rfl rfl rfl rfl rfl sf_77 es_77 rfl rfl rfl (ApiToken.cells_len) (ApiToken.cells_one) (by decide) (fun v2 s1 hs1 => ?_))
        cases hs1
        refine cs 1 rfl (AR.nil [0, 5, 6, 7, 8, 18] rfl (AW.exit ?_))
        exact ⟨out2, v2, next1, open1, (pos1 + (dec src1 pos1).2), rfl, rfl, rfl, hf⟩
       ·
        replace hf := ite_F h16 hf
        refine AW.skip (AW.settle [0, 5, 6, 7, 8, 18] rfl (AW.exit ?_))
        exact ⟨out1, v1, next1, open1, (pos1 + (dec src1 pos1).2), rfl, rfl, rfl, hf⟩
      ·
       replace hf := ite_F h10 hf
       refine AW.skip (AW.sr (cs 2 rfl ?_))
       obtain ⟨x2, end1, e2, h18, hf⟩ := bind3_inv hf
       refine AR.step rfl rfl rfl (AO.call rfl _ rfl rfl pf_84 (c_lexer_token _ _ h18 (cs 4 rfl (AR.step rfl rfl rfl (AO.alloc_own rfl zp_83 (fun b11 => (AR.step_none rfl rfl (AO.store_box (i := 0) rfl rfl rfl ti_83 rfl rfl rfl rfl rfl ?_))))))))
       refine cs 2 rfl (AR.nil [0, 5, 6, 8, 9, 11, 12, 13, 18] rfl (AW.seq (AW.sr ?_)))
       refine cs 2 rfl (AR.nil [0, 5, 6, 8, 9, 11, 12, 13, 18, 68] rfl (AW.cond rfl (fun h19 => ?_) (fun h19 => ?_)))
       ·
        replace hf := ite_T h19 hf
        refine AW.sr (cs 2 rfl (AR.step rfl rfl rfl (AO.nil_list rfl rfl (cs 2 rfl ?_))))
        refine AR.nil [2, 3, 4] rfl (AW.ret ?_)
        cases hf
        exact ⟨rfl, _, ⟨_, _, rfl, rfl, _, _, rfl, rfl, _, _, rfl, rfl, rfl⟩, [], List.nil_sublist _, h⟩
       ·
        replace hf := ite_F h19 hf
        refine AW.skip (AW.seq (AW.sr (cs 1 rfl ?_)))
        refine AR.step rfl rfl rfl (AO.load_box (i := 0) rfl rfl rfl ti_3 rfl rfl (cs 1 rfl (AR.nil [0, 5, 6, 8, 11, 12, 18, 73] rfl (AW.cond rfl (fun h20 => ?_) (fun h20 => ?_)))))
        ·
         replace hf := ite_T h20 hf
         refine AW.region (cs 1 rfl (AR.step rfl rfl rfl (AO.load_box (i := 0) rfl rfl rfl ti_9 rfl rfl (cs 1 rfl ?_))))
         obtain ⟨open2, h21, hf⟩ := bind1_inv hf
         refine AR.step rfl rfl rfl (AO.call rfl _ rfl rfl pf_85 (c_lexer_brackets _ _ h21 (cs 1 rfl (AR.nil [0, 5, 6, 8, 11, 12, 18] rfl (AW.sr ?_)))))
         refine cs 1 rfl (AR.step rfl rfl rfl (AO.load_box (i := 0) rfl rfl rfl ti_83 rfl rfl (AR.step rfl rfl rfl (AO.buildSliceF (List.map ApiToken.cells [x2]) rfl sf_77 rfl rfl rfl (by first | rfl | simp only [List.map, ApiToken.cells_eq]) ?_))))
         obtain ⟨out3, h22, hf⟩ := bind1_inv hf
         refine AR.step rfl rfl rfl (AO.app_own (i := 1) (l := out1) (m := [x2]) h22 rfl rfl rfl rfl rfl rfl rfl sf_77 es_77 rfl rfl rfl (ApiToken.cells_len) (ApiToken.cells_one) (by decide) (fun v3 s2 hs2 => ?_))
         cases hs2
         refine cs 1 rfl (AR.nil [0, 5, 6, 8, 12, 18] rfl (AW.region (cs 2 rfl ?_)))
         refine AR.drop1 (AR.nil [0, 5, 6, 7, 8, 18] rfl ?_)
         exact ⟨out3, v3, end1, open2, (pos1 + (dec src1 pos1).2), rfl, rfl, rfl, hf⟩
        ·
         replace hf := ite_F h20 hf
         refine AW.skip (AW.sr (cs 1 rfl (AR.step rfl rfl rfl (AO.load_box (i := 0) rfl rfl rfl ti_83 rfl rfl ?_))))
         refine AR.step rfl rfl rfl (AO.buildSliceF (List.map ApiToken.cells [x2]) rfl sf_77 rfl rfl rfl (by first | rfl | simp only [List.map, ApiToken.cells_eq]) ?_)
         obtain ⟨out4, h23, hf⟩ := bind1_inv hf
         refine AR.step rfl rfl rfl (AO.app_own (i := 1) (l := out1) (m := [x2]) h23 rfl rfl rfl rfl rfl rfl rfl sf_77 es_77 rfl rfl rfl (ApiToken.cells_len) (ApiToken.cells_one) (by decide) (fun v4 s3 hs3 => ?_))
         cases hs3
         refine cs 1 rfl (AR.nil [0, 5, 6, 8, 12, 18] rfl (AW.region (cs 2 rfl ?_)))
         refine AR.drop1 (AR.nil [0, 5, 6, 7, 8, 18] rfl ?_)
         exact ⟨out4, v4, end1, open1, (pos1 + (dec src1 pos1).2), rfl, rfl, rfl, hf⟩
   ·
    cases h3
  ·
   replace hf := ite_F h2 hf
   refine AR.step rfl rfl rfl (AO.next_over (i := 1) rfl rfl rfl h2 (cs 1 rfl (AR.nil [0, 5, 6, 7, 8, 18, 19, 20] rfl (AW.seq ?_))))
   refine AW.cond rfl (fun h24 => ?_) (fun h24 => ?_)
   ·
    cases h24
   ·
    refine AW.exit (AW.sr (cs 4 rfl (AR.nil [2, 3, 4] rfl ?_)))
    refine AW.ret ?_
    cases hf
    exact ⟨rfl, _, ⟨_, _, rfl, rfl, _, _, rfl, rfl, _, _, rfl, rfl, rfl⟩, [], List.nil_sublist _, h⟩

theorem c_parser_letter  (c1 : UInt8) {r0 : Bool} (hf : parser_letter c1 = some r0) {τ : List Res} {Q : AOut → List Res → Prop} (h : Q (.ret (.bool r0)) τ) : AC Tryz.prog 164 [.int .u8 (c1.toNat : Int)] τ Q := by
 unfold parser_letter at hf
 refine AC.none (AC.of_body 21 [.tmp 2] [0] Tryz.func164 rfl rfl rfl rfl rfl (AW.sr (cs 1 rfl ?_)))
 refine AR.nil [0] rfl (AW.sr (cs 3 rfl (AR.and 3 5 8 [0] (x := (decide ((c1.toNat : Int) ≤ 122))) rfl rfl (fun h1 => ?_) (fun h1 => ?_) ?_)))
 ·
  refine AR.is 5 h1 rfl (cs 3 rfl (AR.nil [8, 0] rfl ?_))
  exact ⟨rfl, rfl, rfl, rfl⟩
 ·
  refine AR.is 5 h1 rfl (cs 3 rfl (AR.nil [8, 0] rfl ?_))
  exact ⟨rfl, rfl, rfl, rfl⟩
 refine cs 1 rfl (AR.or 7 9 16 [0] (x := ((decide (65 ≤ (c1.toNat : Int))) && (decide ((c1.toNat : Int) ≤ 90)))) rfl rfl (fun h2 => ?_) (fun h2 => ?_) ?_)
 ·
  refine AR.is 9 h2 rfl (cs 3 rfl (AR.and 3 12 15 [0, 9] (x := (decide ((c1.toNat : Int) ≤ 90))) rfl rfl (fun h3 => ?_) (fun h3 => ?_) ?_))
  ·
   refine AR.is 12 h3 rfl (cs 3 rfl (AR.nil [15, 0, 9] rfl ?_))
   exact ⟨rfl, rfl, rfl, rfl⟩
  ·
   refine AR.is 12 h3 rfl (cs 3 rfl (AR.nil [15, 0, 9] rfl ?_))
   exact ⟨rfl, rfl, rfl, rfl⟩
  refine cs 1 rfl (AR.nil [16, 0] rfl ?_)
  exact ⟨rfl, rfl, rfl, rfl⟩
 ·
  refine AR.is 9 h2 rfl (cs 7 rfl (AR.nil [16, 0] rfl ?_))
  exact ⟨rfl, rfl, rfl, rfl⟩
 refine cs 1 rfl (AR.or 3 17 20 [] (x := ((c1.toNat : Int) == 95)) rfl rfl (fun h4 => ?_) (fun h4 => ?_) ?_)
 ·
  refine AR.is 17 h4 rfl (cs 3 rfl (AR.nil [20] rfl ?_))
  exact ⟨rfl, rfl, rfl, rfl⟩
 ·
  refine AR.is 17 h4 rfl (cs 3 rfl (AR.nil [20] rfl ?_))
  exact ⟨rfl, rfl, rfl, rfl⟩
 refine cs 1 rfl (AR.nil [2] rfl (AW.ret ?_))
 cases hf
 exact ⟨rfl, _, ⟨_, _, rfl, rfl, rfl⟩, [], List.nil_sublist _, h⟩

theorem c_parser_digit  (c1 : UInt8) {r0 : Bool} (hf : parser_digit c1 = some r0) {τ : List Res} {Q : AOut → List Res → Prop} (h : Q (.ret (.bool r0)) τ) : AC Tryz.prog 165 [.int .u8 (c1.toNat : Int)] τ Q := by
 unfold parser_digit at hf
 refine AC.none (AC.of_body 9 [.tmp 2] [0] Tryz.func165 rfl rfl rfl rfl rfl (AW.sr (cs 1 rfl ?_)))
 refine AR.nil [0] rfl (AW.sr (cs 3 rfl (AR.and 3 5 8 [] (x := (decide ((c1.toNat : Int) ≤ 57))) rfl rfl (fun h1 => ?_) (fun h1 => ?_) ?_)))
 ·
  refine AR.is 5 h1 rfl (cs 3 rfl (AR.nil [8] rfl ?_))
  exact ⟨rfl, rfl, rfl, rfl⟩
 ·
  refine AR.is 5 h1 rfl (cs 3 rfl (AR.nil [8] rfl ?_))
  exact ⟨rfl, rfl, rfl, rfl⟩
 refine cs 1 rfl (AR.nil [2] rfl (AW.ret ?_))
 cases hf
 exact ⟨rfl, _, ⟨_, _, rfl, rfl, rfl⟩, [], List.nil_sublist _, h⟩

theorem c_parser_name  (s1 : Str) {r0 : Bool} (hf : parser_name s1 = some r0) {τ : List Res} {Q : AOut → List Res → Prop} (h : Q (.ret (.bool r0)) τ) : AC Tryz.prog 152 [.str s1] τ Q := by
 unfold parser_name at hf
 refine AC.none (AC.of_body 36 [.tmp 2] [0] Tryz.func152 rfl rfl rfl rfl rfl (AW.sr (cs 1 rfl ?_)))
 refine AR.nil [0] rfl (AW.seq (AW.sr (cs 1 rfl ?_)))
 refine AR.step rfl rfl rfl (AO.len_str rfl rfl rfl rfl un_9 rfl (cs 2 rfl (AR.or 4 7 11 [0] (x := (decide (64 < (s1.length : Int)))) rfl rfl (fun h1 => ?_) (fun h1 => ?_) ?_)))
 ·
  refine AR.is 7 h1 rfl (cs 1 rfl (AR.go rfl rfl rfl rfl rfl rfl (AO.len_str rfl rfl rfl rfl un_9 rfl (cs 2 rfl ?_))))
  refine AR.nil [11, 0] rfl ?_
  exact ⟨rfl, rfl, rfl, rfl⟩
 ·
  refine AR.is 7 h1 rfl (cs 4 rfl (AR.nil [11, 0] rfl ?_))
  exact ⟨rfl, rfl, rfl, rfl⟩
 refine cs 1 rfl ?_
 obtain ⟨b1, h3, hf⟩ := bind1_inv hf
 refine AR.join1 5 12 17 false [0] b1 rfl rfl (fun h2 => ?_) (fun h2 => ?_) ?_
 ·
  replace h3 := ite_F h2 h3
  refine AR.is 12 h2 rfl (cs 1 rfl ?_)
  obtain ⟨x1, h4, h3⟩ := bind1_inv h3
  refine AR.go rfl rfl rfl rfl rfl rfl (AO.idx_str h4 rfl un_9 rfl rfl ?_)
  obtain ⟨x2, h5, h3⟩ := bind1_inv h3
  refine AR.go rfl rfl rfl rfl rfl rfl (AO.call rfl _ rfl rfl pf_164 (c_parser_letter _ h5 (cs 1 rfl ?_)))
  obtain rfl := Option.some.inj h3
  refine cs 1 rfl (AR.nil [17, 0] rfl ?_)
  exact ⟨rfl, rfl, rfl, rfl⟩
 ·
  replace h3 := ite_T h2 h3
  refine AR.is 12 h2 rfl ?_
  obtain rfl := Option.some.inj h3
  refine cs 5 rfl (AR.nil [17, 0] rfl ?_)
  exact ⟨rfl, rfl, rfl, rfl⟩
 refine AR.nil [0, 17] rfl (AW.cond rfl (fun h6 => ?_) (fun h6 => ?_))
 ·
  replace hf := ite_T h6 hf
  refine AW.sr (cs 1 rfl (AR.nil [2] rfl (AW.ret ?_)))
  cases hf
  exact ⟨rfl, _, ⟨_, _, rfl, rfl, rfl⟩, [], List.nil_sublist _, h⟩
 ·
  replace hf := ite_F h6 hf
  refine AW.skip (AW.seq (AW.sr (cs 1 rfl ?_)))
  refine AR.nil [0, 3] rfl (AW.block (AW.settle [0, 3] rfl (AW.loopF1 (fun i1 => [(0, .str s1), (3, .int .i64 i1)]) (fun i1 => []) (fun kk1 i1 => parser_name_l1 s1 kk1 i1 = some r0) BIG 0 rfl rfl hf (fun _ hz => none_no hz) ?_)))
  intro kk1 i1 hf
  rw [parser_name_l1] at hf
  refine AW.seq (AW.sr (cs 2 rfl (AR.step rfl rfl rfl (AO.len_str rfl rfl rfl rfl un_9 rfl ?_))))
  refine cs 1 rfl (AR.nil [0, 3, 21] rfl (AW.cond rfl (fun h7 => ?_) (fun h7 => ?_)))
  ·
   replace hf := ite_T h7 hf
   refine AW.skip (AW.seq (AW.block (AW.sr ?_)))
   refine cs 2 rfl ?_
   obtain ⟨x3, h8, hf⟩ := bind1_inv hf
   refine AR.step rfl rfl rfl (AO.idx_str h8 rfl un_9 rfl rfl ?_)
   obtain ⟨x4, h9, hf⟩ := bind1_inv hf
   refine AR.step rfl rfl rfl (AO.call rfl _ rfl rfl pf_164 (c_parser_letter _ h9 (cs 2 rfl ?_)))
   obtain ⟨b2, h11, hf⟩ := bind1_inv hf
   refine AR.join1 6 29 35 true [0, 3] b2 rfl rfl (fun h10 => ?_) (fun h10 => ?_) ?_
   ·
    replace h11 := ite_T h10 h11
    refine AR.is 29 h10 rfl (cs 2 rfl ?_)
    obtain ⟨x5, h12, h11⟩ := bind1_inv h11
    refine AR.go rfl rfl rfl rfl rfl rfl (AO.idx_str h12 rfl un_9 rfl rfl ?_)
    obtain ⟨x6, h13, h11⟩ := bind1_inv h11
    refine AR.go rfl rfl rfl rfl rfl rfl (AO.call rfl _ rfl rfl pf_165 (c_parser_digit _ h13 (cs 1 rfl ?_)))
    obtain rfl := Option.some.inj h11
    refine cs 1 rfl (AR.nil [35, 0, 3] rfl ?_)
    exact ⟨rfl, rfl, rfl, rfl⟩
   ·
    replace h11 := ite_F h10 h11
    refine AR.is 29 h10 rfl ?_
    obtain rfl := Option.some.inj h11
    refine cs 6 rfl (AR.nil [35, 0, 3] rfl ?_)
    exact ⟨rfl, rfl, rfl, rfl⟩
   refine AR.nil [0, 3, 35] rfl (AW.cond rfl (fun h14 => ?_) (fun h14 => ?_))
   ·
    replace hf := ite_T h14 hf
    refine AW.sr (cs 1 rfl (AR.nil [2] rfl (AW.ret ?_)))
    cases hf
    exact ⟨rfl, _, ⟨_, _, rfl, rfl, rfl⟩, [], List.nil_sublist _, h⟩
   ·
    replace hf := ite_F h14 hf
    refine AW.skip (AW.region (cs 3 rfl (AR.nil [0, 3] rfl ?_)))
    exact ⟨(w64 (i1 + 1)), rfl, rfl, rfl, hf⟩
  ·
   replace hf := ite_F h7 hf
   refine AW.exit (AW.sr (cs 1 rfl (AR.nil [2] rfl ?_)))
   refine AW.ret ?_
   cases hf
   exact ⟨rfl, _, ⟨_, _, rfl, rfl, rfl⟩, [], List.nil_sublist _, h⟩

theorem c_i_strconv_ParseInt  (s1 : Str) (base1 : Int) (bitSize1 : Int) {r0 : Int} {r1 : Option Nat} (hf : i_strconv_ParseInt s1 base1 bitSize1 = some (r0, r1)) {τ : List Res} {Q : AOut → List Res → Prop} (h : Q (.ret (.tuple [.int .i64 r0, .err r1])) τ) : AC Tryz.prog 184 [.str s1, .int .i64 base1, .int .i64 bitSize1] τ Q := by
 unfold i_strconv_ParseInt at hf
 refine AC.none (AC.of_body 73 [.tmp 6, .tmp 7] [0, 1, 2] Tryz.func184 rfl rfl rfl rfl rfl (AW.sr (cs 1 rfl ?_)))
 refine AR.step rfl rfl rfl (AO.nilErr rfl (AR.nil [0, 1, 2] rfl (AW.seq (AW.sr ?_))))
 refine cs 2 rfl (AR.nil [0, 1, 2, 13] rfl (AW.cond rfl (fun h1 => ?_) (fun h1 => ?_)))
 ·
  replace hf := ite_T h1 hf
  refine AW.sr (AR.step rfl rfl rfl (AO.mkErr rfl nd_193 (cs 2 rfl (AR.nil [6, 7] rfl ?_))))
  refine AW.ret ?_
  cases hf
  exact ⟨rfl, _, ⟨_, _, rfl, rfl, _, _, rfl, rfl, rfl⟩, [], List.nil_sublist _, h⟩
 ·
  replace hf := ite_F h1 hf
  refine AW.skip (AW.sr (cs 1 rfl (AR.nil [0, 1, 2, 8] rfl ?_)))
  refine AW.seq (AW.sr (cs 1 rfl ?_))
  obtain ⟨x1, h2, hf⟩ := bind1_inv hf
  refine AR.step rfl rfl rfl (AO.idx_str h2 rfl un_9 rfl rfl (AR.nil [0, 1, 2, 8, 16] rfl (AW.block (AW.sr ?_))))
  refine cs 2 rfl (AR.nil [0, 1, 2, 8, 16, 17] rfl (AW.cond rfl (fun h3 => ?_) (fun h3 => ?_)))
  ·
   replace hf := ite_T h3 hf
   refine AW.region (cs 1 rfl ?_)
   obtain ⟨s2, h4, hf⟩ := bind1_inv hf
   refine AR.step rfl rfl rfl (AO.sl_str h4 rfl un_9 rfl ⟨_, rfl⟩ rfl (cs 1 rfl (AR.nil [0, 1, 2, 8] rfl (AW.sr ?_))))
   refine cs 1 rfl (AR.nil [0, 1, 2, 8] rfl (AW.seq ?_))
   exact none_no hf
  ·
   replace hf := ite_F h3 hf
   refine AW.sr (cs 2 rfl (AR.nil [0, 1, 2, 8, 21] rfl (AW.cond rfl (fun h5 => ?_) (fun h5 => ?_))))
   ·
    replace hf := ite_T h5 hf
    refine AW.sr (cs 1 rfl ?_)
    obtain ⟨s3, h6, hf⟩ := bind1_inv hf
    refine AR.step rfl rfl rfl (AO.sl_str h6 rfl un_9 rfl ⟨_, rfl⟩ rfl (cs 1 rfl (AR.nil [0, 1, 2] rfl (AW.region ?_))))
    refine cs 1 rfl (AR.nil [0, 1, 2, 8] rfl (AW.sr (cs 1 rfl ?_)))
    refine AR.nil [0, 1, 2, 8] rfl (AW.seq ?_)
    exact none_no hf
   ·
    replace hf := ite_F h5 hf
    refine AW.skip (AW.sr (cs 1 rfl (AR.nil [0, 1, 2, 8] rfl ?_)))
    refine AW.seq ?_
    exact none_no hf

theorem c_i_strconv_Atoi  (s1 : Str) {r0 : Int} {r1 : Option Nat} (hf : i_strconv_Atoi s1 = some (r0, r1)) {τ : List Res} {Q : AOut → List Res → Prop} (h : Q (.ret (.tuple [.int .i64 r0, .err r1])) τ) : AC Tryz.prog 182 [.str s1] τ Q := by
 unfold i_strconv_Atoi at hf
 refine AC.none (AC.of_body 77 [.tmp 2, .tmp 3] [0] Tryz.func182 rfl rfl rfl rfl rfl (AW.sr (cs 1 rfl ?_)))
 refine AR.step rfl rfl rfl (AO.nilErr rfl (AR.nil [0] rfl (AW.sr (cs 1 rfl ?_))))
 refine AR.step rfl rfl rfl (AO.len_str rfl rfl rfl rfl un_9 rfl (cs 1 rfl (AR.nil [0, 4] rfl (AW.seq ?_))))
 refine AW.sr (cs 1 rfl (AR.and 7 13 20 [0, 4] (x := ((decide (0 < (s1.length : Int))) && (decide ((s1.length : Int) < 10)))) rfl rfl (fun h1 => ?_) (fun h1 => ?_) ?_))
 ·
  refine AR.is 13 h1 rfl (cs 3 rfl (AR.and 3 16 19 [0, 4, 13] (x := (decide ((s1.length : Int) < 10))) rfl rfl (fun h2 => ?_) (fun h2 => ?_) ?_))
  ·
   refine AR.is 16 h2 rfl (cs 3 rfl (AR.nil [19, 0, 4, 13] rfl ?_))
   exact ⟨rfl, rfl, rfl, rfl⟩
  ·
   refine AR.is 16 h2 rfl (cs 3 rfl (AR.nil [19, 0, 4, 13] rfl ?_))
   exact ⟨rfl, rfl, rfl, rfl⟩
  refine cs 1 rfl (AR.nil [20, 0, 4] rfl ?_)
  exact ⟨rfl, rfl, rfl, rfl⟩
 ·
  refine AR.is 13 h1 rfl (cs 7 rfl (AR.nil [20, 0, 4] rfl ?_))
  exact ⟨rfl, rfl, rfl, rfl⟩
 refine cs 1 rfl (AR.or 9 21 30 [0] (x := (true && ((decide (0 < (s1.length : Int))) && (decide ((s1.length : Int) < 19))))) rfl rfl (fun h3 => ?_) (fun h3 => ?_) ?_)
 ·
  refine AR.is 21 h3 rfl (cs 1 rfl (AR.and 7 22 29 [0, 21] (x := ((decide (0 < (s1.length : Int))) && (decide ((s1.length : Int) < 19)))) rfl rfl (fun h4 => ?_) (fun h4 => ?_) ?_))
  ·
   refine AR.is 22 h4 rfl (cs 3 rfl (AR.and 3 25 28 [0, 21, 22] (x := (decide ((s1.length : Int) < 19))) rfl rfl (fun h5 => ?_) (fun h5 => ?_) ?_))
   ·
    refine AR.is 25 h5 rfl (cs 3 rfl (AR.nil [28, 0, 21, 22] rfl ?_))
    exact ⟨rfl, rfl, rfl, rfl⟩
   ·
    refine AR.is 25 h5 rfl (cs 3 rfl (AR.nil [28, 0, 21, 22] rfl ?_))
    exact ⟨rfl, rfl, rfl, rfl⟩
   refine cs 1 rfl (AR.nil [29, 0, 21] rfl ?_)
   exact ⟨rfl, rfl, rfl, rfl⟩
  ·
   refine AR.is 22 h4 rfl (cs 7 rfl (AR.nil [29, 0, 21] rfl ?_))
   exact ⟨rfl, rfl, rfl, rfl⟩
  refine cs 1 rfl (AR.nil [30, 0] rfl ?_)
  exact ⟨rfl, rfl, rfl, rfl⟩
 ·
  refine AR.is 21 h3 rfl (cs 9 rfl (AR.nil [30, 0] rfl ?_))
  exact ⟨rfl, rfl, rfl, rfl⟩
 refine AR.nil [0, 30] rfl (AW.cond rfl (fun h6 => ?_) (fun h6 => ?_))
 ·
  replace hf := ite_T h6 hf
  refine AW.sr (cs 2 rfl (AR.nil [0, 5] rfl (AW.seq ?_)))
  refine AW.sr (cs 1 rfl ?_)
  obtain ⟨x1, h7, hf⟩ := bind1_inv hf
  refine AR.step rfl rfl rfl (AO.idx_str h7 rfl un_9 rfl rfl (cs 2 rfl ?_))
  obtain ⟨b1, h9, hf⟩ := bind1_inv hf
  refine AR.join1 4 35 39 false [0, 5] b1 rfl rfl (fun h8 => ?_) (fun h8 => ?_) ?_
  ·
   replace h9 := ite_F h8 h9
   refine AR.is 35 h8 rfl (cs 1 rfl ?_)
   obtain ⟨x2, h10, h9⟩ := bind1_inv h9
   refine AR.go rfl rfl rfl rfl rfl rfl (AO.idx_str h10 rfl un_9 rfl rfl (cs 1 rfl ?_))
   obtain rfl := Option.some.inj h9
   refine cs 1 rfl (AR.nil [39, 0, 5] rfl ?_)
   exact ⟨rfl, rfl, rfl, rfl⟩
  ·
   replace h9 := ite_T h8 h9
   refine AR.is 35 h8 rfl ?_
   obtain rfl := Option.some.inj h9
   refine cs 4 rfl (AR.nil [39, 0, 5] rfl ?_)
   exact ⟨rfl, rfl, rfl, rfl⟩
  refine AR.nil [0, 5, 39] rfl (AW.cond rfl (fun h11 => ?_) (fun h11 => ?_))
  ·
   replace hf := ite_T h11 hf
   refine AW.sr (cs 1 rfl ?_)
   obtain ⟨s2, h12, hf⟩ := bind1_inv hf
   refine AR.step rfl rfl rfl (AO.sl_str h12 rfl un_9 rfl ⟨_, rfl⟩ rfl (cs 1 rfl (AR.nil [0, 5] rfl (AW.sr ?_))))
   refine cs 1 rfl (AR.step rfl rfl rfl (AO.len_str rfl rfl rfl rfl un_9 rfl (cs 1 rfl (AR.nil [0, 5, 44] rfl ?_))))
   refine AW.cond rfl (fun h13 => ?_) (fun h13 => ?_)
   ·
    replace hf := ite_T h13 hf
    refine AW.sr (AR.step rfl rfl rfl (AO.mkErr rfl nd_193 (cs 2 rfl (AR.nil [2, 3] rfl ?_))))
    refine AW.ret ?_
    cases hf
    exact ⟨rfl, _, ⟨_, _, rfl, rfl, _, _, rfl, rfl, rfl⟩, [], List.nil_sublist _, h⟩
   ·
    replace hf := ite_F h13 hf
    refine AW.skip (AW.sr (cs 1 rfl (AR.nil [0, 5, 6] rfl ?_)))
    refine AW.seq (AW.sr (cs 1 rfl ?_))
    obtain ⟨x3, h14, hf⟩ := bind1_inv hf
    refine AR.step rfl rfl rfl (AO.str_bytesF h14 rfl un_9 un_47 un_5 rfl (fun v1 => (AR.step rfl rfl rfl (AO.len_list (l := x3) rfl rfl rfl rfl es_47 rfl rfl (cs 1 rfl (AR.nil [5, 6, 47, 48, 49] rfl ?_))))))
    refine AW.block (AW.settle [5, 6, 47, 48, 49] rfl (AW.loopF2 (fun n1 x4 => [(5, .str s1), (6, .int .i64 n1), (47, .own v1 (List.map byteC x3)), (48, .int .i64 (x3.length : Int)), (49, .int .i64 x4)]) (fun n1 x4 => [.row v1 (List.map byteC x3).length 1 5]) (fun kk1 n1 x4 => i_strconv_Atoi_l1 s1 x3 kk1 n1 x4 = some (r0, r1)) BIG 0 0 rfl rfl hf (fun _ _ hz => none_no hz) ?_))
    intro kk1 n1 x4 hf
    rw [i_strconv_Atoi_l1] at hf
    refine AW.sr (cs 1 rfl (AR.nil [5, 6, 47, 48, 49, 50] rfl (AW.seq ?_)))
    refine AW.cond rfl (fun h15 => ?_) (fun h15 => ?_)
    ·
     replace hf := ite_T h15 hf
     refine AW.skip (AW.seq (AW.block (AW.sr ?_)))
     obtain ⟨ch1, h16, hf⟩ := bind1_inv hf
     refine AR.step rfl rfl rfl (AO.idx_list h16 rfl rfl rfl rfl es_47 rfl rfl (cs 2 rfl (AR.nil [5, 6, 8, 47, 48, 49] rfl (AW.sr ?_))))
     refine cs 1 rfl (AR.step rfl rfl rfl (AO.u8_sub ch1 48 rfl rfl rfl rfl rfl (cs 1 rfl (AR.nil [5, 6, 8, 47, 48, 49] rfl ?_))))
     refine AW.seq (AW.sr (cs 2 rfl (AR.nil [5, 6, 8, 47, 48, 49, 56] rfl ?_)))
     refine AW.cond rfl (fun h17 => ?_) (fun h17 => ?_)
     ·
      replace hf := ite_T h17 hf
      refine AW.sr (AR.step rfl rfl rfl (AO.mkErr rfl nd_193 (cs 2 rfl (AR.nil [2, 3] rfl ?_))))
      refine AW.ret ?_
      cases hf
      exact ⟨rfl, _, ⟨_, _, rfl, rfl, _, _, rfl, rfl, rfl⟩, [], List.nil_sublist _, h⟩
     ·
      replace hf := ite_F h17 hf
      refine AW.skip (AW.region (cs 3 rfl (AR.step rfl rfl rfl (AO.conv_byte rfl un_5 un_3 rfl rfl ?_))))
      refine cs 2 rfl (AR.nil [5, 6, 47, 48, 49] rfl (AW.region (cs 2 rfl ?_)))
      refine AR.nil [5, 6, 47, 48, 49] rfl ?_
      exact ⟨(w64 ((w64 (n1 * 10)) + ((ch1 - 48).toNat : Int))), (w64 (x4 + 1)), rfl, rfl, rfl, hf⟩
    ·
     replace hf := ite_F h15 hf
     refine AW.exit (AW.seq (AW.sr (cs 1 rfl ?_)))
     obtain ⟨x5, h18, hf⟩ := bind1_inv hf
     refine AR.step rfl rfl rfl (AO.idx_str h18 rfl un_9 rfl rfl (cs 1 rfl (AR.nil [6, 66] rfl (AW.cond rfl (fun h19 => ?_) (fun h19 => ?_)))))
     ·
      replace hf := ite_T h19 hf
      refine AW.region (cs 3 rfl (AR.nil [6] rfl (AW.sr ?_)))
      refine cs 2 rfl (AR.step rfl rfl rfl (AO.nilErr rfl (AR.nil [2, 3] rfl (AW.ret ?_))))
      cases hf
      exact ⟨rfl, _, ⟨_, _, rfl, rfl, _, _, rfl, rfl, rfl⟩, [], List.nil_sublist _, h⟩
     ·
      replace hf := ite_F h19 hf
      refine AW.skip (AW.sr (cs 2 rfl (AR.step rfl rfl rfl (AO.nilErr rfl ?_))))
      refine AR.nil [2, 3] rfl (AW.ret ?_)
      cases hf
      exact ⟨rfl, _, ⟨_, _, rfl, rfl, _, _, rfl, rfl, rfl⟩, [], List.nil_sublist _, h⟩
  ·
   replace hf := ite_F h11 hf
   refine AW.skip (AW.sr (cs 1 rfl (AR.nil [0, 5, 6] rfl ?_)))
   refine AW.seq (AW.sr (cs 1 rfl ?_))
   obtain ⟨x6, h20, hf⟩ := bind1_inv hf
   refine AR.step rfl rfl rfl (AO.str_bytesF h20 rfl un_9 un_47 un_5 rfl (fun v2 => (AR.step rfl rfl rfl (AO.len_list (l := x6) rfl rfl rfl rfl es_47 rfl rfl (cs 1 rfl (AR.nil [5, 6, 47, 48, 49] rfl ?_))))))
   refine AW.block (AW.settle [5, 6, 47, 48, 49] rfl (AW.loopF2 (fun n2 x7 => [(5, .str s1), (6, .int .i64 n2), (47, .own v2 (List.map byteC x6)), (48, .int .i64 (x6.length : Int)), (49, .int .i64 x7)]) (fun n2 x7 => [.row v2 (List.map byteC x6).length 1 5]) (fun kk2 n2 x7 => i_strconv_Atoi_l2 s1 x6 kk2 n2 x7 = some (r0, r1)) BIG 0 0 rfl rfl hf (fun _ _ hz => none_no hz) ?_))
   intro kk2 n2 x7 hf
   rw [i_strconv_Atoi_l2] at hf
   refine AW.sr (cs 1 rfl (AR.nil [5, 6, 47, 48, 49, 50] rfl (AW.seq ?_)))
   refine AW.cond rfl (fun h21 => ?_) (fun h21 => ?_)
   ·
    replace hf := ite_T h21 hf
    refine AW.skip (AW.seq (AW.block (AW.sr ?_)))
    obtain ⟨ch2, h22, hf⟩ := bind1_inv hf
    refine AR.step rfl rfl rfl (AO.idx_list h22 rfl rfl rfl rfl es_47 rfl rfl (cs 2 rfl (AR.nil [5, 6, 8, 47, 48, 49] rfl (AW.sr ?_))))
    refine cs 1 rfl (AR.step rfl rfl rfl (AO.u8_sub ch2 48 rfl rfl rfl rfl rfl (cs 1 rfl (AR.nil [5, 6, 8, 47, 48, 49] rfl ?_))))
    refine AW.seq (AW.sr (cs 2 rfl (AR.nil [5, 6, 8, 47, 48, 49, 56] rfl ?_)))
    refine AW.cond rfl (fun h23 => ?_) (fun h23 => ?_)
    ·
     replace hf := ite_T h23 hf
     refine AW.sr (AR.step rfl rfl rfl (AO.mkErr rfl nd_193 (cs 2 rfl (AR.nil [2, 3] rfl ?_))))
     refine AW.ret ?_
     cases hf
     exact ⟨rfl, _, ⟨_, _, rfl, rfl, _, _, rfl, rfl, rfl⟩, [], List.nil_sublist _, h⟩
    ·
     replace hf := ite_F h23 hf
     refine AW.skip (AW.region (cs 3 rfl (AR.step rfl rfl rfl (AO.conv_byte rfl un_5 un_3 rfl rfl ?_))))
     refine cs 2 rfl (AR.nil [5, 6, 47, 48, 49] rfl (AW.region (cs 2 rfl ?_)))
     refine AR.nil [5, 6, 47, 48, 49] rfl ?_
     exact ⟨(w64 ((w64 (n2 * 10)) + ((ch2 - 48).toNat : Int))), (w64 (x7 + 1)), rfl, rfl, rfl, hf⟩
   ·
    replace hf := ite_F h21 hf
    refine AW.exit (AW.seq (AW.sr (cs 1 rfl ?_)))
    obtain ⟨x8, h24, hf⟩ := bind1_inv hf
    refine AR.step rfl rfl rfl (AO.idx_str h24 rfl un_9 rfl rfl (cs 1 rfl (AR.nil [6, 66] rfl (AW.cond rfl (fun h25 => ?_) (fun h25 => ?_)))))
    ·
     replace hf := ite_T h25 hf
     refine AW.region (cs 3 rfl (AR.nil [6] rfl (AW.sr ?_)))
     refine cs 2 rfl (AR.step rfl rfl rfl (AO.nilErr rfl (AR.nil [2, 3] rfl (AW.ret ?_))))
     cases hf
     exact ⟨rfl, _, ⟨_, _, rfl, rfl, _, _, rfl, rfl, rfl⟩, [], List.nil_sublist _, h⟩
    ·
     replace hf := ite_F h25 hf
     refine AW.skip (AW.sr (cs 2 rfl (AR.step rfl rfl rfl (AO.nilErr rfl ?_))))
     refine AR.nil [2, 3] rfl (AW.ret ?_)
     cases hf
     exact ⟨rfl, _, ⟨_, _, rfl, rfl, _, _, rfl, rfl, rfl⟩, [], List.nil_sublist _, h⟩
 ·
  replace hf := ite_F h6 hf
  refine AW.skip (AW.sr (cs 1 rfl ?_))
  replace hf := (bind2_ret _).trans hf
  obtain ⟨i64n1, err1, h26, hf⟩ := bind2_inv hf
  refine AR.step rfl rfl rfl (AO.call rfl _ rfl rfl pf_184 (c_i_strconv_ParseInt _ _ _ h26 (cs 5 rfl (AR.nil [9, 10] rfl (AW.sr ?_)))))
  refine cs 4 rfl (AR.nil [2, 3] rfl (AW.ret ?_))
  cases hf
  exact ⟨rfl, _, ⟨_, _, rfl, rfl, _, _, rfl, rfl, rfl⟩, [], List.nil_sublist _, h⟩

theorem c_strconv_Atoi  (s1 : Str) {r0 : Int} {r1 : Option Nat} (hf : strconv_Atoi s1 = some (r0, r1)) {τ : List Res} {Q : AOut → List Res → Prop} (h : Q (.ret (.tuple [.int .i64 r0, .err r1])) τ) : AC Tryz.prog 176 [.str s1] τ Q := by
 unfold strconv_Atoi at hf
 refine AC.none (AC.of_body 18 [.tmp 2, .tmp 3] [0] Tryz.func176 rfl rfl rfl rfl rfl (AW.sr (cs 1 rfl ?_)))
 refine AR.step rfl rfl rfl (AO.nilErr rfl (AR.nil [0] rfl (AW.sr (cs 1 rfl ?_))))
 obtain ⟨x1, err1, h1, hf⟩ := bind2_inv hf
 refine AR.step rfl rfl rfl (AO.call rfl _ rfl rfl pf_182 (c_i_strconv_Atoi _ h1 (cs 5 rfl (AR.nil [0, 4, 5] rfl (AW.seq ?_)))))
 refine AW.sr (cs 1 rfl (AR.step rfl rfl rfl (AO.eqNil rfl if_162 rfl rfl (AR.nil [0, 4, 5, 12] rfl ?_))))
 refine AW.cond rfl (fun h2 => ?_) (fun h2 => ?_)
 ·
  replace hf := ite_T h2 hf
  refine AW.seq ?_
  exact none_no hf
 ·
  replace hf := ite_F h2 hf
  refine AW.skip (AW.sr (cs 2 rfl (AR.step rfl rfl rfl (AO.nilErr rfl ?_))))
  refine AR.nil [2, 3] rfl (AW.ret ?_)
  cases hf
  exact ⟨rfl, _, ⟨_, _, rfl, rfl, _, _, rfl, rfl, rfl⟩, [], List.nil_sublist _, h⟩

theorem c_parser_decimal  (s1 : Str) {r0 : Bool} (hf : parser_decimal s1 = some r0) {τ : List Res} {Q : AOut → List Res → Prop} (h : Q (.ret (.bool r0)) τ) : AC Tryz.prog 174 [.str s1] τ Q := by
 unfold parser_decimal at hf
 refine AC.none (AC.of_body 40 [.tmp 2] [0] Tryz.func174 rfl rfl rfl rfl rfl (AW.sr (cs 1 rfl ?_)))
 refine AR.nil [0] rfl (AW.seq (AW.sr (cs 3 rfl ?_)))
 obtain ⟨b1, h2, hf⟩ := bind1_inv hf
 refine AR.join1 9 8 17 false [0] b1 rfl rfl (fun h1 => ?_) (fun h1 => ?_) ?_
 ·
  replace h2 := ite_F h1 h2
  refine AR.is 8 h1 rfl (cs 1 rfl (AR.go rfl rfl rfl rfl rfl rfl (AO.len_str rfl rfl rfl rfl un_9 rfl (cs 2 rfl ?_))))
  replace h2 := (bind1_ret _).trans h2
  obtain ⟨b2, h4, h2⟩ := bind1_inv h2
  refine AR.join1 4 12 16 true [0, 8] b2 rfl rfl (fun h3 => ?_) (fun h3 => ?_) ?_
  ·
   replace h4 := ite_T h3 h4
   refine AR.is 12 h3 rfl (cs 1 rfl ?_)
   obtain ⟨x1, h5, h4⟩ := bind1_inv h4
   refine AR.go rfl rfl rfl rfl rfl rfl (AO.idx_str h5 rfl un_9 rfl rfl (cs 1 rfl ?_))
   obtain rfl := Option.some.inj h4
   refine cs 1 rfl (AR.nil [16, 0, 8] rfl ?_)
   exact ⟨rfl, rfl, rfl, rfl⟩
  ·
   replace h4 := ite_F h3 h4
   refine AR.is 12 h3 rfl ?_
   obtain rfl := Option.some.inj h4
   refine cs 4 rfl (AR.nil [16, 0, 8] rfl ?_)
   exact ⟨rfl, rfl, rfl, rfl⟩
  obtain rfl := Option.some.inj h2
  refine cs 1 rfl (AR.nil [17, 0] rfl ?_)
  exact ⟨rfl, rfl, rfl, rfl⟩
 ·
  replace h2 := ite_T h1 h2
  refine AR.is 8 h1 rfl ?_
  obtain rfl := Option.some.inj h2
  refine cs 9 rfl (AR.nil [17, 0] rfl ?_)
  exact ⟨rfl, rfl, rfl, rfl⟩
 refine AR.nil [0, 17] rfl (AW.cond rfl (fun h6 => ?_) (fun h6 => ?_))
 ·
  replace hf := ite_T h6 hf
  refine AW.sr (cs 1 rfl (AR.nil [2] rfl (AW.ret ?_)))
  cases hf
  exact ⟨rfl, _, ⟨_, _, rfl, rfl, rfl⟩, [], List.nil_sublist _, h⟩
 ·
  replace hf := ite_F h6 hf
  refine AW.skip (AW.seq (AW.sr (cs 1 rfl ?_)))
  refine AR.nil [0, 3] rfl (AW.block (AW.settle [0, 3] rfl (AW.loopF1 (fun i1 => [(0, .str s1), (3, .int .i64 i1)]) (fun i1 => []) (fun kk1 i1 => parser_decimal_l1 s1 kk1 i1 = some r0) BIG 0 rfl rfl hf (fun _ hz => none_no hz) ?_)))
  intro kk1 i1 hf
  rw [parser_decimal_l1] at hf
  refine AW.seq (AW.sr (cs 2 rfl (AR.step rfl rfl rfl (AO.len_str rfl rfl rfl rfl un_9 rfl ?_))))
  refine cs 1 rfl (AR.nil [0, 3, 21] rfl (AW.cond rfl (fun h7 => ?_) (fun h7 => ?_)))
  ·
   replace hf := ite_T h7 hf
   refine AW.skip (AW.seq (AW.block (AW.sr ?_)))
   refine cs 2 rfl ?_
   obtain ⟨x2, h8, hf⟩ := bind1_inv hf
   refine AR.step rfl rfl rfl (AO.idx_str h8 rfl un_9 rfl rfl ?_)
   obtain ⟨x3, h9, hf⟩ := bind1_inv hf
   refine AR.step rfl rfl rfl (AO.call rfl _ rfl rfl pf_165 (c_parser_digit _ h9 (cs 1 rfl (AR.nil [0, 3, 28] rfl (AW.cond rfl (fun h10 => ?_) (fun h10 => ?_))))))
   ·
    replace hf := ite_T h10 hf
    refine AW.sr (cs 1 rfl (AR.nil [2] rfl (AW.ret ?_)))
    cases hf
    exact ⟨rfl, _, ⟨_, _, rfl, rfl, rfl⟩, [], List.nil_sublist _, h⟩
   ·
    replace hf := ite_F h10 hf
    refine AW.skip (AW.region (cs 3 rfl (AR.nil [0, 3] rfl ?_)))
    exact ⟨(w64 (i1 + 1)), rfl, rfl, rfl, hf⟩
  ·
   replace hf := ite_F h7 hf
   refine AW.exit (AW.sr (cs 1 rfl ?_))
   obtain ⟨n1, err1, h11, hf⟩ := bind2_inv hf
   refine AR.step rfl rfl rfl (AO.call rfl _ rfl rfl pf_176 (c_strconv_Atoi _ h11 (cs 5 rfl (AR.nil [4, 5] rfl (AW.sr ?_)))))
   refine cs 1 rfl (AR.step rfl rfl rfl (AO.eqNil rfl if_162 rfl rfl (cs 1 rfl (AR.and 3 36 39 [] (x := (decide (n1 ≤ 9007199254740992))) rfl rfl (fun h12 => ?_) (fun h12 => ?_) ?_))))
   ·
    refine AR.is 36 h12 rfl (cs 3 rfl (AR.nil [39] rfl ?_))
    exact ⟨rfl, rfl, rfl, rfl⟩
   ·
    refine AR.is 36 h12 rfl (cs 3 rfl (AR.nil [39] rfl ?_))
    exact ⟨rfl, rfl, rfl, rfl⟩
   refine cs 1 rfl (AR.nil [2] rfl (AW.ret ?_))
   cases hf
   exact ⟨rfl, _, ⟨_, _, rfl, rfl, rfl⟩, [], List.nil_sublist _, h⟩

theorem c_parser_real  (t1 : ApiToken) {r0 : Bool} (hf : parser_real t1 = some r0) {τ : List Res} {Q : AOut → List Res → Prop} (h : Q (.ret (.bool r0)) τ) : AC Tryz.prog 168 [.agg [.int .i64 t1.kind, .str t1.text, .int .i64 t1.at_]] τ Q := by
 unfold parser_real at hf
 refine AC.none (AC.of_body 23 [.tmp 2] [0] Tryz.func168 rfl rfl rfl rfl rfl (AW.sr (AR.step rfl rfl rfl (AO.box_ref rfl rfl rfl ?_))))
 refine cs 1 rfl (AR.nil [1] rfl (AW.seq (AW.sr ?_)))
 refine cs 2 rfl (AR.nil [1, 4] rfl (AW.block (AW.sr ?_)))
 refine cs 2 rfl (AR.nil [1, 4, 5] rfl (AW.cond rfl (fun h1 => ?_) (fun h1 => ?_)))
 ·
  replace hf := ite_T h1 hf
  refine AW.sr (cs 2 rfl ?_)
  replace hf := (bind1_ret _).trans hf
  obtain ⟨x1, h2, hf⟩ := bind1_inv hf
  refine AR.step rfl rfl rfl (AO.call rfl _ rfl rfl pf_152 (c_parser_name _ h2 (cs 1 rfl (AR.nil [2] rfl (AW.ret ?_)))))
  cases hf
  exact ⟨rfl, _, ⟨_, _, rfl, rfl, rfl⟩, [], List.nil_sublist _, h⟩
 ·
  replace hf := ite_F h1 hf
  refine AW.sr (cs 2 rfl (AR.nil [1, 4, 10] rfl (AW.cond rfl (fun h3 => ?_) (fun h3 => ?_))))
  ·
   replace hf := ite_T h3 hf
   refine AW.sr (cs 2 rfl ?_)
   replace hf := (bind1_ret _).trans hf
   obtain ⟨x2, h4, hf⟩ := bind1_inv hf
   refine AR.step rfl rfl rfl (AO.call rfl _ rfl rfl pf_174 (c_parser_decimal _ h4 (cs 1 rfl (AR.nil [2] rfl (AW.ret ?_)))))
   cases hf
   exact ⟨rfl, _, ⟨_, _, rfl, rfl, rfl⟩, [], List.nil_sublist _, h⟩
  ·
   replace hf := ite_F h3 hf
   refine AW.sr (cs 2 rfl (AR.nil [1, 4, 15] rfl (AW.cond rfl (fun h5 => ?_) (fun h5 => ?_))))
   ·
    replace hf := ite_T h5 hf
    refine AW.sr (cs 2 rfl (AR.step rfl rfl rfl (AO.len_str rfl rfl rfl rfl un_9 rfl (cs 2 rfl ?_))))
    refine AR.nil [2] rfl (AW.ret ?_)
    cases hf
    exact ⟨rfl, _, ⟨_, _, rfl, rfl, rfl⟩, [], List.nil_sublist _, h⟩
   ·
    replace hf := ite_F h5 hf
    refine AW.sr (cs 2 rfl (AR.nil [21] rfl (AW.cond rfl (fun h6 => ?_) (fun h6 => ?_))))
    ·
     replace hf := ite_T h6 hf
     refine AW.sr (cs 1 rfl (AR.nil [2] rfl (AW.ret ?_)))
     cases hf
     exact ⟨rfl, _, ⟨_, _, rfl, rfl, rfl⟩, [], List.nil_sublist _, h⟩
    ·
     replace hf := ite_F h6 hf
     refine AW.skip (AW.sr (cs 1 rfl (AR.nil [2] rfl ?_)))
     refine AW.ret ?_
     cases hf
     exact ⟨rfl, _, ⟨_, _, rfl, rfl, rfl⟩, [], List.nil_sublist _, h⟩

theorem c_parser_reader_peek  (p1 : Nat) (rx1 : ParserReader) {r0 : ApiToken} {rx1s : ParserReader} (hf : parser_reader_peek rx1 = some (r0, rx1s)) {Q : AOut → List Res → Prop} (h : Q (.ret (.agg [.int .i64 r0.kind, .str r0.text, .int .i64 r0.at_])) [.box p1 [.list (List.map ApiToken.cells rx1s.ts), .int .i64 rx1s.at_]]) : AC Tryz.prog 158 [.val (.pointer (some ⟨p1, 0, none⟩))] [.box p1 [.list (List.map ApiToken.cells rx1.ts), .int .i64 rx1.at_]] Q := by
 unfold parser_reader_peek at hf
 refine AC.of_body 37 [.cell 2 83] [0] Tryz.func158 rfl rfl rfl rfl rfl (AW.sr (AR.step rfl rfl rfl (AO.alloc_own rfl zp_83 (fun b2 => (AR.nil [0, 2] rfl ?_)))))
 refine AW.seq (AW.seq (AW.draw 23 mixed (by kernel_rfl) rfl ?_))
 refine Ev.cs FX_ok 3 rfl (Ev.cons rfl rfl rfl (AO.load_box (i := 1) rfl rfl rfl ti_3 rfl rfl ⟨rfl, rfl⟩) (Ev.cs FX_ok 3 rfl (Ev.cons rfl rfl rfl (AO.load_box (i := 1) rfl rfl rfl ti_77 rfl rfl ⟨rfl, rfl⟩) ?_)))
 refine Ev.cons rfl rfl rfl (AO.len_list (l := rx1.ts) rfl rfl rfl rfl es_77 rfl rfl ⟨rfl, rfl⟩) (Ev.cs FX_ok 2 rfl ?_)
 obtain ⟨b1, h2, hf⟩ := bind1_inv hf
 refine Ev.join1 hKA 12 13 25 true [0, 2] (.bool b1) rfl rfl (fun h1 => ?_) (fun h1 => ?_) ?_
 ·
  replace h2 := ite_T h1 h2
  refine Ev.is hKL 13 h1 rfl (Ev.cs FX_ok 3 rfl (Ev.run rfl rfl rfl rfl rfl rfl rfl (AO.load_box (i := 1) rfl rfl rfl ti_77 rfl rfl ⟨rfl, rfl⟩) (Ev.cs FX_ok 3 rfl ?_)))
  refine Ev.run rfl rfl rfl rfl rfl rfl rfl (AO.load_box (i := 1) rfl rfl rfl ti_3 rfl rfl ⟨rfl, rfl⟩) ?_
  obtain ⟨e1, h3, h2⟩ := bind1_inv h2
  refine Ev.run rfl rfl rfl rfl rfl rfl rfl (AO.idx_list h3 rfl rfl rfl rfl es_77 (ApiToken.cells_eq _) rfl ⟨rfl, rfl⟩) (Ev.cs FX_ok 1 rfl ?_)
  replace h2 := (bind1_ret _).trans h2
  obtain ⟨x1, h4, h2⟩ := bind1_inv h2
  refine Ev.run rfl rfl rfl rfl rfl rfl rfl (AO.call rfl _ rfl rfl pf_168 (c_parser_real _ h4 ⟨rfl, rfl⟩)) ?_
  obtain rfl := Option.some.inj h2
  refine Ev.cs FX_ok 1 rfl ?_
  exact Ev.nil (Less.settle (ps := [25, 0, 2]) rfl)
 ·
  replace h2 := ite_F h1 h2
  refine Ev.is hKL 13 h1 rfl ?_
  obtain rfl := Option.some.inj h2
  refine Ev.cs FX_ok 12 rfl ?_
  exact Ev.nil (Less.settle (ps := [25, 0, 2]) rfl)
 refine Ev.nil ?_
 show AR _ _ _ _ _ _ _ _
 refine AR.nil [0, 2, 25] rfl (AW.cond rfl (fun h5 => ?_) (fun h5 => ?_))
 ·
  replace hf := ite_T h5 hf
  refine AW.seq (AW.draw 10 mixed (by kernel_rfl) rfl ?_)
  refine Ev.cs FX_ok 3 rfl (Ev.cons rfl rfl rfl (AO.load_box (i := 1) rfl rfl rfl ti_77 rfl rfl ⟨rfl, rfl⟩) (Ev.cs FX_ok 3 rfl (Ev.cons rfl rfl rfl (AO.load_box (i := 1) rfl rfl rfl ti_3 rfl rfl ⟨rfl, rfl⟩) ?_)))
  obtain ⟨e2, h6, hf⟩ := bind1_inv hf
  refine Ev.cons rfl rfl rfl (AO.idx_list h6 rfl rfl rfl rfl es_77 (ApiToken.cells_eq _) rfl ⟨rfl, rfl⟩) (Ev.cs FX_ok 1 rfl (Ev.nil ?_))
  show AR _ _ _ _ _ _ _ _
  refine AR.step_none rfl rfl (AO.store_box (i := 0) rfl rfl rfl ti_83 rfl rfl rfl rfl rfl (AR.nil [2] rfl (AW.ret ?_)))
  cases hf
  exact ⟨rfl, _, ⟨_, _, rfl, ⟨_, _, 0, _, _, rfl, rfl, ti_83, rfl⟩, rfl⟩, _, (.cons _ (.cons_cons _ (List.nil_sublist _))), h⟩
 ·
  replace hf := ite_F h5 hf
  refine AW.skip (AW.sr (AR.step rfl rfl rfl (AO.build rfl zp_83 spl_83 rfl (AR.step_none rfl rfl (AO.store_box (i := 0) rfl rfl rfl ti_83 rfl rfl rfl rfl rfl ?_)))))
  refine AR.nil [2] rfl (AW.ret ?_)
  cases hf
  exact ⟨rfl, _, ⟨_, _, rfl, ⟨_, _, 0, _, _, rfl, rfl, ti_83, rfl⟩, rfl⟩, _, (.cons _ (.cons_cons _ (List.nil_sublist _))), h⟩

theorem c_parser_reader_is  (p1 : Nat) (rx1 : ParserReader) (op1 : Str) {r0 : Bool} {rx1s : ParserReader} (hf : parser_reader_is rx1 op1 = some (r0, rx1s)) {Q : AOut → List Res → Prop} (h : Q (.ret (.bool r0)) [.box p1 [.list (List.map ApiToken.cells rx1s.ts), .int .i64 rx1s.at_]]) : AC Tryz.prog 159 [.val (.pointer (some ⟨p1, 0, none⟩)), .str op1] [.box p1 [.list (List.map ApiToken.cells rx1.ts), .int .i64 rx1.at_]] Q := by
 unfold parser_reader_is at hf
 refine AC.of_body 17 [.tmp 4] [0, 1] Tryz.func159 rfl rfl rfl rfl rfl (AW.sr (cs 1 rfl (AR.nil [0, 1] rfl ?_)))
 refine AW.sr (cs 1 rfl ?_)
 obtain ⟨x1, y1, h1, hf⟩ := bind2_inv hf
 refine AR.step rfl rfl rfl (AO.call rfl _ rfl rfl pf_158 (AC.one 0 rfl (c_parser_reader_peek _ _ h1 ⟨_, rfl, (AR.step rfl rfl rfl (AO.alloc_own rfl zp_83 (fun b5 => (AR.step_none rfl rfl (AO.store_box (i := 0) rfl rfl rfl ti_83 rfl rfl rfl rfl rfl (AR.nil [1, 5] rfl ?_))))))⟩)))
 refine AW.sr (cs 1 rfl (AR.step rfl rfl rfl (AO.load_box (i := 0) rfl rfl rfl ti_3 rfl rfl (cs 2 rfl ?_))))
 refine AR.and 5 11 16 [] (x := (x1.text == op1)) rfl rfl (fun h2 => ?_) (fun h2 => ?_) ?_
 ·
  refine AR.is 11 h2 rfl (cs 1 rfl (AR.go rfl rfl rfl rfl rfl rfl (AO.load_box (i := 0) rfl rfl rfl ti_9 rfl rfl (cs 3 rfl ?_))))
  refine AR.nil [16] rfl ?_
  exact ⟨rfl, rfl, rfl, rfl⟩
 ·
  refine AR.is 11 h2 rfl (cs 5 rfl (AR.nil [16] rfl ?_))
  exact ⟨rfl, rfl, rfl, rfl⟩
 refine cs 1 rfl (AR.nil [4] rfl (AW.ret ?_))
 cases hf
 exact ⟨rfl, _, ⟨_, _, rfl, rfl, rfl⟩, _, (.cons _ (.cons_cons _ (List.nil_sublist _))), h⟩

theorem c_parser_reader_accept  (p1 : Nat) (rx1 : ParserReader) (op1 : Str) {r0 : Bool} {rx1s : ParserReader} (hf : parser_reader_accept rx1 op1 = some (r0, rx1s)) {Q : AOut → List Res → Prop} (h : Q (.ret (.bool r0)) [.box p1 [.list (List.map ApiToken.cells rx1s.ts), .int .i64 rx1s.at_]]) : AC Tryz.prog 146 [.val (.pointer (some ⟨p1, 0, none⟩)), .str op1] [.box p1 [.list (List.map ApiToken.cells rx1.ts), .int .i64 rx1.at_]] Q := by
 unfold parser_reader_accept at hf
 refine AC.of_body 16 [.tmp 4] [0, 1] Tryz.func146 rfl rfl rfl rfl rfl (AW.sr (cs 1 rfl (AR.nil [0, 1] rfl ?_)))
 refine AW.seq (AW.sr (cs 2 rfl ?_))
 obtain ⟨x1, y1, h1, hf⟩ := bind2_inv hf
 refine AR.step rfl rfl rfl (AO.call rfl _ rfl rfl pf_159 (AC.one 0 rfl (c_parser_reader_is _ _ _ h1 ⟨_, rfl, (cs 1 rfl (AR.nil [0, 8] rfl (AW.cond rfl (fun h2 => ?_) (fun h2 => ?_))))⟩)))
 ·
  replace hf := ite_T h2 hf
  refine AW.sr (cs 1 rfl (AR.nil [4] rfl (AW.ret ?_)))
  cases hf
  exact ⟨rfl, _, ⟨_, _, rfl, rfl, rfl⟩, _, (.cons_cons _ (List.nil_sublist _)), h⟩
 ·
  replace hf := ite_F h2 hf
  refine AW.skip (AW.sr (cs 3 rfl (AR.step rfl rfl rfl (AO.load_box (i := 0) rfl rfl rfl ti_3 rfl rfl ?_))))
  refine cs 3 rfl (AR.step_none rfl rfl (AO.store_box (i := 0) rfl rfl rfl ti_3 rfl rfl rfl rfl rfl (AR.nil [] rfl (AW.sr ?_))))
  refine cs 1 rfl (AR.nil [4] rfl (AW.ret ?_))
  cases hf
  exact ⟨rfl, _, ⟨_, _, rfl, rfl, rfl⟩, _, (.cons_cons _ (List.nil_sublist _)), h⟩

@[reducible] def x_parser_reader_fail : Exc ParserFailure Unit → AOut
 | .ok r => .ret (.tuple [])
 | .bad e => .panic (.iface 133 (.agg [.int .i64 e.at_, .int .i64 e.code]))

theorem c_parser_reader_fail  (p1 : Nat) (rx1 : ParserReader) (e1 : Int) {rX : Exc ParserFailure Unit} {rx1s : ParserReader} (hf : parser_reader_fail rx1 e1 = some (rX, rx1s)) {Q : AOut → List Res → Prop} (h : Q (x_parser_reader_fail rX) [.box p1 [.list (List.map ApiToken.cells rx1s.ts), .int .i64 rx1s.at_]]) : AC Tryz.prog 161 [.val (.pointer (some ⟨p1, 0, none⟩)), .int .i64 e1] [.box p1 [.list (List.map ApiToken.cells rx1.ts), .int .i64 rx1.at_]] Q := by
 unfold parser_reader_fail at hf
 refine AC.of_body 11 [] [0, 1] Tryz.func161 rfl rfl rfl rfl rfl (AW.region (cs 3 rfl (AR.step rfl rfl rfl (AO.load_box (i := 0) rfl rfl rfl ti_3 rfl rfl ?_))))
 refine cs 1 rfl (AR.step rfl rfl rfl (AO.build rfl zp_133 spl_133 rfl (AR.step rfl rfl rfl (AO.mkIface rfl nd_133 rfl (AR.step_none rfl rfl (AO.panicF rfl rfl ?_))))))
 cases hf
 exact ⟨rfl, _, (.cons_cons _ (List.nil_sublist _)), h⟩

@[reducible] def x_parser_reader_need : Exc ParserFailure ApiToken → AOut
 | .ok r => .ret (.agg [.int .i64 r.kind, .str r.text, .int .i64 r.at_])
 | .bad e => .panic (.iface 133 (.agg [.int .i64 e.at_, .int .i64 e.code]))

theorem c_parser_reader_need  (p1 : Nat) (rx1 : ParserReader) {rX : Exc ParserFailure ApiToken} {rx1s : ParserReader} (hf : parser_reader_need rx1 = some (rX, rx1s)) {Q : AOut → List Res → Prop} (h : Q (x_parser_reader_need rX) [.box p1 [.list (List.map ApiToken.cells rx1s.ts), .int .i64 rx1s.at_]]) : AC Tryz.prog 160 [.val (.pointer (some ⟨p1, 0, none⟩))] [.box p1 [.list (List.map ApiToken.cells rx1.ts), .int .i64 rx1.at_]] Q := by
 unfold parser_reader_need at hf
 refine AC.of_body 24 [.cell 2 83] [0] Tryz.func160 rfl rfl rfl rfl rfl (AW.sr (AR.step rfl rfl rfl (AO.alloc_own rfl zp_83 (fun b2 => (AR.nil [0, 2] rfl ?_)))))
 refine AW.seq (AW.seq (AW.draw 10 mixed (by kernel_rfl) rfl ?_))
 refine Ev.cs FX_ok 3 rfl (Ev.cons rfl rfl rfl (AO.load_box (i := 1) rfl rfl rfl ti_3 rfl rfl ⟨rfl, rfl⟩) (Ev.cs FX_ok 3 rfl (Ev.cons rfl rfl rfl (AO.load_box (i := 1) rfl rfl rfl ti_77 rfl rfl ⟨rfl, rfl⟩) ?_)))
 refine Ev.cons rfl rfl rfl (AO.len_list (l := rx1.ts) rfl rfl rfl rfl es_77 rfl rfl ⟨rfl, rfl⟩) (Ev.cs FX_ok 1 rfl (Ev.nil ?_))
 show AR _ _ _ _ _ _ _ _
 refine AR.nil [0, 2, 13] rfl (AW.cond rfl (fun h1 => ?_) (fun h1 => ?_))
 ·
  replace hf := ite_T h1 hf
  refine AW.region (cs 1 rfl ?_)
  rcases bindXS_inv hf with ⟨e1, y2, h2, hf⟩ | ⟨_, y1, h2, hf⟩
  ·
   refine AR.step rfl rfl rfl (AO.call rfl _ rfl rfl pf_161 (AC.one 1 rfl (c_parser_reader_fail _ _ _ h2 ⟨_, rfl, ?_⟩)))
   cases hf
   exact ⟨rfl, _, (.cons _ (.cons_cons _ (List.nil_sublist _))), h⟩
  refine AR.step rfl rfl rfl (AO.call rfl _ rfl rfl pf_161 (AC.one 1 rfl (c_parser_reader_fail _ _ _ h2 ⟨_, rfl, (AR.nil [0, 2] rfl (AW.sr (cs 1 rfl ?_)))⟩)))
  obtain ⟨x1, y3, h3, hf⟩ := bind2_inv hf
  refine AR.step rfl rfl rfl (AO.call rfl _ rfl rfl pf_158 (AC.one 1 rfl (c_parser_reader_peek _ _ h3 ⟨_, rfl, (AR.step rfl rfl rfl (AO.alloc_own rfl zp_83 (fun b3 => (AR.step_none rfl rfl (AO.store_box (i := 0) rfl rfl rfl ti_83 rfl rfl rfl rfl rfl (AR.nil [0, 2, 3] rfl ?_))))))⟩)))
  refine AW.seq (AW.sr (cs 1 rfl (AR.step rfl rfl rfl (AO.load_box (i := 0) rfl rfl rfl ti_3 rfl rfl ?_))))
  refine cs 1 rfl (AR.nil [0, 2, 3, 20] rfl (AW.cond rfl (fun h4 => ?_) (fun h4 => ?_)))
  ·
   replace hf := ite_T h4 hf
   refine AW.region (cs 1 rfl ?_)
   rcases bindXS_inv hf with ⟨e2, y5, h5, hf⟩ | ⟨_, y4, h5, hf⟩
   ·
    refine AR.step rfl rfl rfl (AO.call rfl _ rfl rfl pf_161 (AC.one 2 rfl (c_parser_reader_fail _ _ _ h5 ⟨_, rfl, ?_⟩)))
    cases hf
    exact ⟨rfl, _, (.cons _ (.cons _ (.cons_cons _ (List.nil_sublist _)))), h⟩
   refine AR.step rfl rfl rfl (AO.call rfl _ rfl rfl pf_161 (AC.one 2 rfl (c_parser_reader_fail _ _ _ h5 ⟨_, rfl, (AR.nil [2, 3] rfl (AW.sr (AR.step rfl rfl rfl (AO.load_box (i := 0) rfl rfl rfl ti_83 rfl rfl ?_))))⟩)))
   refine AR.step_none rfl rfl (AO.store_box (i := 1) rfl rfl rfl ti_83 rfl rfl rfl rfl rfl (AR.nil [2] rfl (AW.ret ?_)))
   cases hf
   exact ⟨rfl, _, ⟨_, _, rfl, ⟨_, _, 1, _, _, rfl, rfl, ti_83, rfl⟩, rfl⟩, _, (.cons _ (.cons _ (.cons_cons _ (List.nil_sublist _)))), h⟩
  ·
   replace hf := ite_F h4 hf
   refine AW.skip (AW.sr (AR.step rfl rfl rfl (AO.load_box (i := 0) rfl rfl rfl ti_83 rfl rfl (AR.step_none rfl rfl (AO.store_box (i := 1) rfl rfl rfl ti_83 rfl rfl rfl rfl rfl ?_)))))
   refine AR.nil [2] rfl (AW.ret ?_)
   cases hf
   exact ⟨rfl, _, ⟨_, _, rfl, ⟨_, _, 1, _, _, rfl, rfl, ti_83, rfl⟩, rfl⟩, _, (.cons _ (.cons _ (.cons_cons _ (List.nil_sublist _)))), h⟩
 ·
  replace hf := ite_F h1 hf
  refine AW.skip (AW.sr (cs 1 rfl ?_))
  obtain ⟨x2, y6, h6, hf⟩ := bind2_inv hf
  refine AR.step rfl rfl rfl (AO.call rfl _ rfl rfl pf_158 (AC.one 1 rfl (c_parser_reader_peek _ _ h6 ⟨_, rfl, (AR.step rfl rfl rfl (AO.alloc_own rfl zp_83 (fun b3_2 => (AR.step_none rfl rfl (AO.store_box (i := 0) rfl rfl rfl ti_83 rfl rfl rfl rfl rfl (AR.nil [0, 2, 3] rfl ?_))))))⟩)))
  refine AW.seq (AW.sr (cs 1 rfl (AR.step rfl rfl rfl (AO.load_box (i := 0) rfl rfl rfl ti_3 rfl rfl ?_))))
  refine cs 1 rfl (AR.nil [0, 2, 3, 20] rfl (AW.cond rfl (fun h7 => ?_) (fun h7 => ?_)))
  ·
   replace hf := ite_T h7 hf
   refine AW.region (cs 1 rfl ?_)
   rcases bindXS_inv hf with ⟨e3, y8, h8, hf⟩ | ⟨_, y7, h8, hf⟩
   ·
    refine AR.step rfl rfl rfl (AO.call rfl _ rfl rfl pf_161 (AC.one 2 rfl (c_parser_reader_fail _ _ _ h8 ⟨_, rfl, ?_⟩)))
    cases hf
    exact ⟨rfl, _, (.cons _ (.cons _ (.cons_cons _ (List.nil_sublist _)))), h⟩
   refine AR.step rfl rfl rfl (AO.call rfl _ rfl rfl pf_161 (AC.one 2 rfl (c_parser_reader_fail _ _ _ h8 ⟨_, rfl, (AR.nil [2, 3] rfl (AW.sr (AR.step rfl rfl rfl (AO.load_box (i := 0) rfl rfl rfl ti_83 rfl rfl ?_))))⟩)))
   refine AR.step_none rfl rfl (AO.store_box (i := 1) rfl rfl rfl ti_83 rfl rfl rfl rfl rfl (AR.nil [2] rfl (AW.ret ?_)))
   cases hf
   exact ⟨rfl, _, ⟨_, _, rfl, ⟨_, _, 1, _, _, rfl, rfl, ti_83, rfl⟩, rfl⟩, _, (.cons _ (.cons _ (.cons_cons _ (List.nil_sublist _)))), h⟩
  ·
   replace hf := ite_F h7 hf
   refine AW.skip (AW.sr (AR.step rfl rfl rfl (AO.load_box (i := 0) rfl rfl rfl ti_83 rfl rfl (AR.step_none rfl rfl (AO.store_box (i := 1) rfl rfl rfl ti_83 rfl rfl rfl rfl rfl ?_)))))
   refine AR.nil [2] rfl (AW.ret ?_)
   cases hf
   exact ⟨rfl, _, ⟨_, _, rfl, ⟨_, _, 1, _, _, rfl, rfl, ti_83, rfl⟩, rfl⟩, _, (.cons _ (.cons _ (.cons_cons _ (List.nil_sublist _)))), h⟩

theorem c_parser_literal  (v1 : ApiValue) {r0 : ApiExpr} (hf : parser_literal v1 = some r0) {τ : List Res} {Q : AOut → List Res → Prop} (h : Q (.ret (.agg [.int .i64 r0.kind, .str r0.name, .int .i64 r0.value.kind, .bool r0.value.bool_, .int .i64 r0.value.int_, .str r0.value.str_, .list (ApiValue.cellsL r0.value.list_), .list (List.map strC r0.value.keys), .list (ApiExpr.cellsL r0.args), .list (List.map strC r0.keys)])) τ) : AC Tryz.prog 177 [.agg [.int .i64 v1.kind, .bool v1.bool_, .int .i64 v1.int_, .str v1.str_, .list (ApiValue.cellsL v1.list_), .list (List.map strC v1.keys)]] τ Q := by
 unfold parser_literal at hf
 refine AC.none (AC.of_body 5 [.cell 2 28] [0] Tryz.func177 rfl rfl rfl rfl rfl (AW.sr (AR.step rfl rfl rfl (AO.box_ref rfl rfl rfl ?_))))
 refine AR.step rfl rfl rfl (AO.alloc_own rfl zp_28 (fun b2 => (AR.nil [1, 2] rfl (AW.sr (cs 1 rfl ?_)))))
 refine AR.step rfl rfl rfl (AO.build rfl zp_28 spl_28 rfl (AR.step_none rfl rfl (AO.store_box (i := 0) rfl rfl rfl ti_28 rfl rfl rfl rfl rfl (AR.nil [2] rfl (AW.ret ?_)))))
 cases hf
 exact ⟨rfl, _, ⟨_, _, rfl, ⟨_, _, 0, _, _, rfl, rfl, ti_28, rfl⟩, rfl⟩, [], List.nil_sublist _, h⟩

theorem c_parser_word  (s1 : Str) {r0 : Bool} (hf : parser_word s1 = some r0) {τ : List Res} {Q : AOut → List Res → Prop} (h : Q (.ret (.bool r0)) τ) : AC Tryz.prog 153 [.str s1] τ Q := by
 unfold parser_word at hf
 refine AC.none (AC.of_body 13 [.tmp 2] [0] Tryz.func153 rfl rfl rfl rfl rfl (AW.sr (cs 1 rfl ?_)))
 refine AR.nil [0] rfl (AW.sr (cs 3 rfl (AR.or 3 5 8 [0] (x := (s1 == ([102, 97, 108, 115, 101] : Str))) rfl rfl (fun h1 => ?_) (fun h1 => ?_) ?_)))
 ·
  refine AR.is 5 h1 rfl (cs 3 rfl (AR.nil [8, 0] rfl ?_))
  exact ⟨rfl, rfl, rfl, rfl⟩
 ·
  refine AR.is 5 h1 rfl (cs 3 rfl (AR.nil [8, 0] rfl ?_))
  exact ⟨rfl, rfl, rfl, rfl⟩
 refine cs 1 rfl (AR.or 3 9 12 [] (x := (s1 == ([110, 117, 108, 108] : Str))) rfl rfl (fun h2 => ?_) (fun h2 => ?_) ?_)
 ·
  refine AR.is 9 h2 rfl (cs 3 rfl (AR.nil [12] rfl ?_))
  exact ⟨rfl, rfl, rfl, rfl⟩
 ·
  refine AR.is 9 h2 rfl (cs 3 rfl (AR.nil [12] rfl ?_))
  exact ⟨rfl, rfl, rfl, rfl⟩
 refine cs 1 rfl (AR.nil [2] rfl (AW.ret ?_))
 cases hf
 exact ⟨rfl, _, ⟨_, _, rfl, rfl, rfl⟩, [], List.nil_sublist _, h⟩

@[reducible] def x_parser_reader_expect : Exc ParserFailure Unit → AOut
 | .ok r => .ret (.tuple [])
 | .bad e => .panic (.iface 133 (.agg [.int .i64 e.at_, .int .i64 e.code]))

theorem c_parser_reader_expect  (p1 : Nat) (rx1 : ParserReader) (op1 : Str) {rX : Exc ParserFailure Unit} {rx1s : ParserReader} (hf : parser_reader_expect rx1 op1 = some (rX, rx1s)) {Q : AOut → List Res → Prop} (h : Q (x_parser_reader_expect rX) [.box p1 [.list (List.map ApiToken.cells rx1s.ts), .int .i64 rx1s.at_]]) : AC Tryz.prog 147 [.val (.pointer (some ⟨p1, 0, none⟩)), .str op1] [.box p1 [.list (List.map ApiToken.cells rx1.ts), .int .i64 rx1.at_]] Q := by
 unfold parser_reader_expect at hf
 refine AC.of_body 12 [] [0, 1] Tryz.func147 rfl rfl rfl rfl rfl (AW.sr (cs 1 rfl ?_))
 rcases bindXS_inv hf with ⟨e1, y2, h1, hf⟩ | ⟨x1, y1, h1, hf⟩
 ·
  refine AR.step rfl rfl rfl (AO.call rfl _ rfl rfl pf_160 (AC.one 0 rfl (c_parser_reader_need _ _ h1 ⟨_, rfl, ?_⟩)))
  cases hf
  exact ⟨rfl, _, (.cons_cons _ (List.nil_sublist _)), h⟩
 refine AR.step rfl rfl rfl (AO.call rfl _ rfl rfl pf_160 (AC.one 0 rfl (c_parser_reader_need _ _ h1 ⟨_, rfl, (AR.nil [0, 1] rfl (AW.sr (cs 2 rfl ?_)))⟩)))
 obtain ⟨x2, y3, h2, hf⟩ := bind2_inv hf
 refine AR.step rfl rfl rfl (AO.call rfl _ rfl rfl pf_146 (AC.one 0 rfl (c_parser_reader_accept _ _ _ h2 ⟨_, rfl, (cs 1 rfl (AR.nil [0, 9] rfl (AW.cond rfl (fun h3 => ?_) (fun h3 => ?_))))⟩)))
 ·
  replace hf := ite_T h3 hf
  refine AW.region (cs 1 rfl ?_)
  rcases bindXS_inv hf with ⟨e2, y5, h4, hf⟩ | ⟨_, y4, h4, hf⟩
  ·
   refine AR.step rfl rfl rfl (AO.call rfl _ rfl rfl pf_161 (AC.one 0 rfl (c_parser_reader_fail _ _ _ h4 ⟨_, rfl, ?_⟩)))
   cases hf
   exact ⟨rfl, _, (.cons_cons _ (List.nil_sublist _)), h⟩
  refine AR.step rfl rfl rfl (AO.call rfl _ rfl rfl pf_161 (AC.one 0 rfl (c_parser_reader_fail _ _ _ h4 ⟨_, rfl, (AR.nil [] rfl ?_)⟩)))
  cases hf
  exact ⟨rfl, _, rfl, _, (.cons_cons _ (List.nil_sublist _)), h⟩
 ·
  replace hf := ite_F h3 hf
  refine AW.skip ?_
  cases hf
  exact ⟨rfl, _, rfl, _, (.cons_cons _ (List.nil_sublist _)), h⟩

theorem c_parser_strength  (op1 : Str) {r0 : Int} (hf : parser_strength op1 = some r0) {τ : List Res} {Q : AOut → List Res → Prop} (h : Q (.ret (.int .i64 r0)) τ) : AC Tryz.prog 131 [.str op1] τ Q := by
 unfold parser_strength at hf
 refine AC.none (AC.of_body 22 [.tmp 2] [0] Tryz.func131 rfl rfl rfl rfl rfl (AW.sr (cs 1 rfl ?_)))
 refine AR.nil [0] rfl (AW.seq (AW.sr (cs 1 rfl ?_)))
 refine AR.nil [3] rfl (AW.block (AW.sr (cs 2 rfl ?_)))
 refine AR.nil [3, 4] rfl (AW.cond rfl (fun h1 => ?_) (fun h1 => ?_))
 ·
  replace hf := ite_T h1 hf
  refine AW.sr (cs 1 rfl (AR.nil [2] rfl (AW.ret ?_)))
  cases hf
  exact ⟨rfl, _, ⟨_, _, rfl, rfl, rfl⟩, [], List.nil_sublist _, h⟩
 ·
  replace hf := ite_F h1 hf
  refine AW.sr (cs 2 rfl (AR.nil [3, 6] rfl (AW.cond rfl (fun h2 => ?_) (fun h2 => ?_))))
  ·
   replace hf := ite_T h2 hf
   refine AW.sr (cs 1 rfl (AR.nil [2] rfl (AW.ret ?_)))
   cases hf
   exact ⟨rfl, _, ⟨_, _, rfl, rfl, rfl⟩, [], List.nil_sublist _, h⟩
  ·
   replace hf := ite_F h2 hf
   refine AW.seq (AW.sr (cs 2 rfl (AR.nil [3, 8] rfl ?_)))
   refine AW.cond rfl (fun h3 => ?_) (fun h3 => ?_)
   ·
    replace hf := ite_T h3 hf
    refine AW.skip (AW.cond rfl (fun h4 => ?_) (fun h4 => ?_))
    ·
     refine AW.sr (cs 1 rfl (AR.nil [2] rfl (AW.ret ?_)))
     cases hf
     exact ⟨rfl, _, ⟨_, _, rfl, rfl, rfl⟩, [], List.nil_sublist _, h⟩
    ·
     cases h3.symm.trans h4
   ·
    replace hf := ite_F h3 hf
    refine AW.sr (cs 2 rfl (AR.nil [3, 8] rfl (AW.cond rfl (fun h5 => ?_) (fun h5 => ?_))))
    ·
     replace hf := ite_T h5 hf
     refine AW.skip (AW.cond rfl (fun h6 => ?_) (fun h6 => ?_))
     ·
      refine AW.sr (cs 1 rfl (AR.nil [2] rfl (AW.ret ?_)))
      cases hf
      exact ⟨rfl, _, ⟨_, _, rfl, rfl, rfl⟩, [], List.nil_sublist _, h⟩
     ·
      cases h5.symm.trans h6
    ·
     replace hf := ite_F h5 hf
     refine AW.sr (cs 2 rfl (AR.nil [3, 8] rfl (AW.cond rfl (fun h7 => ?_) (fun h7 => ?_))))
     ·
      replace hf := ite_T h7 hf
      refine AW.skip (AW.cond rfl (fun h8 => ?_) (fun h8 => ?_))
      ·
       refine AW.sr (cs 1 rfl (AR.nil [2] rfl (AW.ret ?_)))
       cases hf
       exact ⟨rfl, _, ⟨_, _, rfl, rfl, rfl⟩, [], List.nil_sublist _, h⟩
      ·
       cases h7.symm.trans h8
     ·
      replace hf := ite_F h7 hf
      refine AW.sr (cs 2 rfl (AR.nil [3, 8] rfl (AW.cond rfl (fun h9 => ?_) (fun h9 => ?_))))
      ·
       replace hf := ite_T h9 hf
       refine AW.skip (AW.cond rfl (fun h10 => ?_) (fun h10 => ?_))
       ·
        refine AW.sr (cs 1 rfl (AR.nil [2] rfl (AW.ret ?_)))
        cases hf
        exact ⟨rfl, _, ⟨_, _, rfl, rfl, rfl⟩, [], List.nil_sublist _, h⟩
       ·
        cases h9.symm.trans h10
      ·
       replace hf := ite_F h9 hf
       refine AW.sr (cs 2 rfl (AR.nil [3, 8] rfl (AW.cond rfl (fun h11 => ?_) (fun h11 => ?_))))
       ·
        replace hf := ite_T h11 hf
        refine AW.skip (AW.cond rfl (fun h12 => ?_) (fun h12 => ?_))
        ·
         refine AW.sr (cs 1 rfl (AR.nil [2] rfl (AW.ret ?_)))
         cases hf
         exact ⟨rfl, _, ⟨_, _, rfl, rfl, rfl⟩, [], List.nil_sublist _, h⟩
        ·
         cases h11.symm.trans h12
       ·
        replace hf := ite_F h11 hf
        refine AW.region (cs 2 rfl (AR.nil [3, 8] rfl (AW.cond rfl (fun h13 => ?_) (fun h13 => ?_))))
        ·
         replace hf := ite_T h13 hf
         refine AW.sr (cs 1 rfl (AR.nil [2] rfl (AW.ret ?_)))
         cases hf
         exact ⟨rfl, _, ⟨_, _, rfl, rfl, rfl⟩, [], List.nil_sublist _, h⟩
        ·
         replace hf := ite_F h13 hf
         refine AW.seq (AW.sr (cs 2 rfl (AR.nil [3, 15] rfl ?_)))
         refine AW.cond rfl (fun h14 => ?_) (fun h14 => ?_)
         ·
          replace hf := ite_T h14 hf
          refine AW.skip (AW.cond rfl (fun h15 => ?_) (fun h15 => ?_))
          ·
           refine AW.sr (cs 1 rfl (AR.nil [2] rfl (AW.ret ?_)))
           cases hf
           exact ⟨rfl, _, ⟨_, _, rfl, rfl, rfl⟩, [], List.nil_sublist _, h⟩
          ·
           cases h14.symm.trans h15
         ·
          replace hf := ite_F h14 hf
          refine AW.region (cs 2 rfl (AR.nil [3, 15] rfl (AW.cond rfl (fun h16 => ?_) (fun h16 => ?_))))
          ·
           replace hf := ite_T h16 hf
           refine AW.sr (cs 1 rfl (AR.nil [2] rfl (AW.ret ?_)))
           cases hf
           exact ⟨rfl, _, ⟨_, _, rfl, rfl, rfl⟩, [], List.nil_sublist _, h⟩
          ·
           replace hf := ite_F h16 hf
           refine AW.seq (AW.sr (cs 2 rfl (AR.nil [3, 18] rfl ?_)))
           refine AW.cond rfl (fun h17 => ?_) (fun h17 => ?_)
           ·
            replace hf := ite_T h17 hf
            refine AW.skip (AW.cond rfl (fun h18 => ?_) (fun h18 => ?_))
            ·
             refine AW.sr (cs 1 rfl (AR.nil [2] rfl (AW.ret ?_)))
             cases hf
             exact ⟨rfl, _, ⟨_, _, rfl, rfl, rfl⟩, [], List.nil_sublist _, h⟩
            ·
             cases h17.symm.trans h18
           ·
            replace hf := ite_F h17 hf
            refine AW.sr (cs 2 rfl (AR.nil [3, 18] rfl (AW.cond rfl (fun h19 => ?_) (fun h19 => ?_))))
            ·
             replace hf := ite_T h19 hf
             refine AW.skip (AW.cond rfl (fun h20 => ?_) (fun h20 => ?_))
             ·
              refine AW.sr (cs 1 rfl (AR.nil [2] rfl (AW.ret ?_)))
              cases hf
              exact ⟨rfl, _, ⟨_, _, rfl, rfl, rfl⟩, [], List.nil_sublist _, h⟩
             ·
              cases h19.symm.trans h20
            ·
             replace hf := ite_F h19 hf
             refine AW.region (cs 2 rfl (AR.nil [18] rfl (AW.cond rfl (fun h21 => ?_) (fun h21 => ?_))))
             ·
              replace hf := ite_T h21 hf
              refine AW.sr (cs 1 rfl (AR.nil [2] rfl (AW.ret ?_)))
              cases hf
              exact ⟨rfl, _, ⟨_, _, rfl, rfl, rfl⟩, [], List.nil_sublist _, h⟩
             ·
              replace hf := ite_F h21 hf
              refine AW.skip (AW.sr (cs 1 rfl (AR.nil [2] rfl ?_)))
              refine AW.ret ?_
              cases hf
              exact ⟨rfl, _, ⟨_, _, rfl, rfl, rfl⟩, [], List.nil_sublist _, h⟩

@[reducible] def x_parser_reader_condition : Exc ParserFailure ApiExpr → AOut
 | .ok r => .ret (.agg [.int .i64 r.kind, .str r.name, .int .i64 r.value.kind, .bool r.value.bool_, .int .i64 r.value.int_, .str r.value.str_, .list (ApiValue.cellsL r.value.list_), .list (List.map strC r.value.keys), .list (ApiExpr.cellsL r.args), .list (List.map strC r.keys)])
 | .bad e => .panic (.iface 133 (.agg [.int .i64 e.at_, .int .i64 e.code]))

@[reducible] def x_parser_reader_operation : Exc ParserFailure ApiExpr → AOut
 | .ok r => .ret (.agg [.int .i64 r.kind, .str r.name, .int .i64 r.value.kind, .bool r.value.bool_, .int .i64 r.value.int_, .str r.value.str_, .list (ApiValue.cellsL r.value.list_), .list (List.map strC r.value.keys), .list (ApiExpr.cellsL r.args), .list (List.map strC r.keys)])
 | .bad e => .panic (.iface 133 (.agg [.int .i64 e.at_, .int .i64 e.code]))

@[reducible] def x_parser_reader_unary : Exc ParserFailure ApiExpr → AOut
 | .ok r => .ret (.agg [.int .i64 r.kind, .str r.name, .int .i64 r.value.kind, .bool r.value.bool_, .int .i64 r.value.int_, .str r.value.str_, .list (ApiValue.cellsL r.value.list_), .list (List.map strC r.value.keys), .list (ApiExpr.cellsL r.args), .list (List.map strC r.keys)])
 | .bad e => .panic (.iface 133 (.agg [.int .i64 e.at_, .int .i64 e.code]))

@[reducible] def x_parser_reader_chain : Exc ParserFailure ApiExpr → AOut
 | .ok r => .ret (.agg [.int .i64 r.kind, .str r.name, .int .i64 r.value.kind, .bool r.value.bool_, .int .i64 r.value.int_, .str r.value.str_, .list (ApiValue.cellsL r.value.list_), .list (List.map strC r.value.keys), .list (ApiExpr.cellsL r.args), .list (List.map strC r.keys)])
 | .bad e => .panic (.iface 133 (.agg [.int .i64 e.at_, .int .i64 e.code]))

@[reducible] def x_parser_reader_atom : Exc ParserFailure ApiExpr → AOut
 | .ok r => .ret (.agg [.int .i64 r.kind, .str r.name, .int .i64 r.value.kind, .bool r.value.bool_, .int .i64 r.value.int_, .str r.value.str_, .list (ApiValue.cellsL r.value.list_), .list (List.map strC r.value.keys), .list (ApiExpr.cellsL r.args), .list (List.map strC r.keys)])
 | .bad e => .panic (.iface 133 (.agg [.int .i64 e.at_, .int .i64 e.code]))

@[reducible] def x_parser_reader_name : Exc ParserFailure ApiExpr → AOut
 | .ok r => .ret (.agg [.int .i64 r.kind, .str r.name, .int .i64 r.value.kind, .bool r.value.bool_, .int .i64 r.value.int_, .str r.value.str_, .list (ApiValue.cellsL r.value.list_), .list (List.map strC r.value.keys), .list (ApiExpr.cellsL r.args), .list (List.map strC r.keys)])
 | .bad e => .panic (.iface 133 (.agg [.int .i64 e.at_, .int .i64 e.code]))

@[reducible] def x_parser_reader_args : Exc ParserFailure (List ApiExpr) → AOut
 | .ok r => .ret (.list (ApiExpr.cellsL r))
 | .bad e => .panic (.iface 133 (.agg [.int .i64 e.at_, .int .i64 e.code]))

theorem w_parser_reader_condition (go_parser_reader_condition : ParserReader → Option (Exc ParserFailure ApiExpr × ParserReader)) (go_parser_reader_conditionH : ∀ (up1 : Nat) (urx1 : ParserReader) {urr1X : Exc ParserFailure ApiExpr} {urx1s : ParserReader}, go_parser_reader_condition urx1 = some (urr1X, urx1s) → ∀ {Q : AOut → List Res → Prop} (h : Q (x_parser_reader_condition urr1X) [.box up1 [.list (List.map ApiToken.cells urx1s.ts), .int .i64 urx1s.at_]]), AC Tryz.prog 119 [.val (.pointer (some ⟨up1, 0, none⟩))] [.box up1 [.list (List.map ApiToken.cells urx1.ts), .int .i64 urx1.at_]] Q) (go_parser_reader_operation : ParserReader → Int → Option (Exc ParserFailure ApiExpr × ParserReader)) (go_parser_reader_operationH : ∀ (up1 : Nat) (urx1 : ParserReader) (un1 : Int) {urr1X : Exc ParserFailure ApiExpr} {urx1s : ParserReader}, go_parser_reader_operation urx1 un1 = some (urr1X, urx1s) → ∀ {Q : AOut → List Res → Prop} (h : Q (x_parser_reader_operation urr1X) [.box up1 [.list (List.map ApiToken.cells urx1s.ts), .int .i64 urx1s.at_]]), AC Tryz.prog 145 [.val (.pointer (some ⟨up1, 0, none⟩)), .int .i64 un1] [.box up1 [.list (List.map ApiToken.cells urx1.ts), .int .i64 urx1.at_]] Q) (go_parser_reader_unary : ParserReader → Option (Exc ParserFailure ApiExpr × ParserReader)) (go_parser_reader_unaryH : ∀ (up1 : Nat) (urx1 : ParserReader) {urr1X : Exc ParserFailure ApiExpr} {urx1s : ParserReader}, go_parser_reader_unary urx1 = some (urr1X, urx1s) → ∀ {Q : AOut → List Res → Prop} (h : Q (x_parser_reader_unary urr1X) [.box up1 [.list (List.map ApiToken.cells urx1s.ts), .int .i64 urx1s.at_]]), AC Tryz.prog 157 [.val (.pointer (some ⟨up1, 0, none⟩))] [.box up1 [.list (List.map ApiToken.cells urx1.ts), .int .i64 urx1.at_]] Q) (go_parser_reader_chain : ParserReader → Option (Exc ParserFailure ApiExpr × ParserReader)) (go_parser_reader_chainH : ∀ (up1 : Nat) (urx1 : ParserReader) {urr1X : Exc ParserFailure ApiExpr} {urx1s : ParserReader}, go_parser_reader_chain urx1 = some (urr1X, urx1s) → ∀ {Q : AOut → List Res → Prop} (h : Q (x_parser_reader_chain urr1X) [.box up1 [.list (List.map ApiToken.cells urx1s.ts), .int .i64 urx1s.at_]]), AC Tryz.prog 167 [.val (.pointer (some ⟨up1, 0, none⟩))] [.box up1 [.list (List.map ApiToken.cells urx1.ts), .int .i64 urx1.at_]] Q) (go_parser_reader_atom : ParserReader → Option (Exc ParserFailure ApiExpr × ParserReader)) (go_parser_reader_atomH : ∀ (up1 : Nat) (urx1 : ParserReader) {urr1X : Exc ParserFailure ApiExpr} {urx1s : ParserReader}, go_parser_reader_atom urx1 = some (urr1X, urx1s) → ∀ {Q : AOut → List Res → Prop} (h : Q (x_parser_reader_atom urr1X) [.box up1 [.list (List.map ApiToken.cells urx1s.ts), .int .i64 urx1s.at_]]), AC Tryz.prog 173 [.val (.pointer (some ⟨up1, 0, none⟩))] [.box up1 [.list (List.map ApiToken.cells urx1.ts), .int .i64 urx1.at_]] Q) (go_parser_reader_name : ParserReader → Str → Option (Exc ParserFailure ApiExpr × ParserReader)) (go_parser_reader_nameH : ∀ (up1 : Nat) (urx1 : ParserReader) (us1 : Str) {urr1X : Exc ParserFailure ApiExpr} {urx1s : ParserReader}, go_parser_reader_name urx1 us1 = some (urr1X, urx1s) → ∀ {Q : AOut → List Res → Prop} (h : Q (x_parser_reader_name urr1X) [.box up1 [.list (List.map ApiToken.cells urx1s.ts), .int .i64 urx1s.at_]]), AC Tryz.prog 178 [.val (.pointer (some ⟨up1, 0, none⟩)), .str us1] [.box up1 [.list (List.map ApiToken.cells urx1.ts), .int .i64 urx1.at_]] Q) (go_parser_reader_args : ParserReader → Str → Option (Exc ParserFailure (List ApiExpr) × ParserReader)) (go_parser_reader_argsH : ∀ (up1 : Nat) (urx1 : ParserReader) (uend1 : Str) {urr1X : Exc ParserFailure (List ApiExpr)} {urx1s : ParserReader}, go_parser_reader_args urx1 uend1 = some (urr1X, urx1s) → ∀ {Q : AOut → List Res → Prop} (h : Q (x_parser_reader_args urr1X) [.box up1 [.list (List.map ApiToken.cells urx1s.ts), .int .i64 urx1s.at_]]), AC Tryz.prog 179 [.val (.pointer (some ⟨up1, 0, none⟩)), .str uend1] [.box up1 [.list (List.map ApiToken.cells urx1.ts), .int .i64 urx1.at_]] Q) (p1 : Nat) (rx1 : ParserReader) {rX : Exc ParserFailure ApiExpr} {rx1s : ParserReader} (hf : parser_reader_condition_b go_parser_reader_condition go_parser_reader_operation go_parser_reader_unary go_parser_reader_chain go_parser_reader_atom go_parser_reader_name go_parser_reader_args rx1 = some (rX, rx1s)) {Q : AOut → List Res → Prop} (h : Q (x_parser_reader_condition rX) [.box p1 [.list (List.map ApiToken.cells rx1s.ts), .int .i64 rx1s.at_]]) : AC Tryz.prog 119 [.val (.pointer (some ⟨p1, 0, none⟩))] [.box p1 [.list (List.map ApiToken.cells rx1.ts), .int .i64 rx1.at_]] Q := by
 unfold parser_reader_condition_b at hf
 refine AC.of_body 23 [.cell 2 28] [0] Tryz.func119 rfl rfl rfl rfl rfl (AW.sr (AR.step rfl rfl rfl (AO.alloc_own rfl zp_28 (fun b2 => (AR.nil [0, 2] rfl ?_)))))
 refine AW.sr (cs 1 rfl ?_)
 rcases bindXS_inv hf with ⟨e1, y2, h1, hf⟩ | ⟨x1, y1, h1, hf⟩
 ·
  refine AR.step rfl rfl rfl (AO.call rfl _ rfl rfl pf_145 (AC.one 1 rfl (go_parser_reader_operationH _ _ _ h1 ⟨_, rfl, ?_⟩)))
  cases hf
  exact ⟨rfl, _, (.cons _ (.cons_cons _ (List.nil_sublist _))), h⟩
 refine AR.step rfl rfl rfl (AO.call rfl _ rfl rfl pf_145 (AC.one 1 rfl (go_parser_reader_operationH _ _ _ h1 ⟨_, rfl, (AR.step rfl rfl rfl (AO.alloc_own rfl zp_28 (fun b3 => (AR.step_none rfl rfl (AO.store_box (i := 0) rfl rfl rfl ti_28 rfl rfl rfl rfl rfl (AR.nil [0, 2, 3] rfl ?_))))))⟩)))
 refine AW.seq (AW.sr (cs 1 rfl ?_))
 obtain ⟨x2, y3, h2, hf⟩ := bind2_inv hf
 refine AR.step rfl rfl rfl (AO.call rfl _ rfl rfl pf_146 (AC.one 2 rfl (c_parser_reader_accept _ _ _ h2 ⟨_, rfl, (cs 1 rfl (AR.nil [0, 2, 3, 10] rfl (AW.cond rfl (fun h3 => ?_) (fun h3 => ?_))))⟩)))
 ·
  replace hf := ite_T h3 hf
  refine AW.sr (AR.step rfl rfl rfl (AO.load_box (i := 0) rfl rfl rfl ti_28 rfl rfl (AR.step_none rfl rfl (AO.store_box (i := 1) rfl rfl rfl ti_28 rfl rfl rfl rfl rfl (AR.nil [2] rfl ?_)))))
  refine AW.ret ?_
  cases hf
  exact ⟨rfl, _, ⟨_, _, rfl, ⟨_, _, 1, _, _, rfl, rfl, ti_28, rfl⟩, rfl⟩, _, (.cons _ (.cons _ (.cons_cons _ (List.nil_sublist _)))), h⟩
 ·
  replace hf := ite_F h3 hf
  refine AW.skip (AW.sr (cs 1 rfl ?_))
  rcases bindXS_inv hf with ⟨e2, y5, h4, hf⟩ | ⟨x3, y4, h4, hf⟩
  ·
   refine AR.step rfl rfl rfl (AO.call rfl _ rfl rfl pf_119 (AC.one 2 rfl (go_parser_reader_conditionH _ _ h4 ⟨_, rfl, ?_⟩)))
   cases hf
   exact ⟨rfl, _, (.cons _ (.cons _ (.cons_cons _ (List.nil_sublist _)))), h⟩
  refine AR.step rfl rfl rfl (AO.call rfl _ rfl rfl pf_119 (AC.one 2 rfl (go_parser_reader_conditionH _ _ h4 ⟨_, rfl, (AR.step rfl rfl rfl (AO.alloc_own rfl zp_28 (fun b4 => (AR.step_none rfl rfl (AO.store_box (i := 0) rfl rfl rfl ti_28 rfl rfl rfl rfl rfl (AR.nil [0, 2, 3, 4] rfl ?_))))))⟩)))
  refine AW.sr (cs 1 rfl ?_)
  rcases bindXS_inv hf with ⟨e3, y7, h5, hf⟩ | ⟨_, y6, h5, hf⟩
  ·
   refine AR.step rfl rfl rfl (AO.call rfl _ rfl rfl pf_147 (AC.one 3 rfl (c_parser_reader_expect _ _ _ h5 ⟨_, rfl, ?_⟩)))
   cases hf
   exact ⟨rfl, _, (.cons _ (.cons _ (.cons _ (.cons_cons _ (List.nil_sublist _))))), h⟩
  refine AR.step rfl rfl rfl (AO.call rfl _ rfl rfl pf_147 (AC.one 3 rfl (c_parser_reader_expect _ _ _ h5 ⟨_, rfl, (AR.nil [0, 2, 3, 4] rfl (AW.sr (cs 1 rfl ?_)))⟩)))
  rcases bindXS_inv hf with ⟨e4, y9, h6, hf⟩ | ⟨x4, y8, h6, hf⟩
  ·
   refine AR.step rfl rfl rfl (AO.call rfl _ rfl rfl pf_119 (AC.one 3 rfl (go_parser_reader_conditionH _ _ h6 ⟨_, rfl, ?_⟩)))
   cases hf
   exact ⟨rfl, _, (.cons _ (.cons _ (.cons _ (.cons_cons _ (List.nil_sublist _))))), h⟩
  refine AR.step rfl rfl rfl (AO.call rfl _ rfl rfl pf_119 (AC.one 3 rfl (go_parser_reader_conditionH _ _ h6 ⟨_, rfl, (AR.step rfl rfl rfl (AO.alloc_own rfl zp_28 (fun b5 => (AR.step_none rfl rfl (AO.store_box (i := 0) rfl rfl rfl ti_28 rfl rfl rfl rfl rfl (AR.nil [2, 3, 4, 5] rfl ?_))))))⟩)))
  refine AW.sr (AR.step rfl rfl rfl (AO.load_box (i := 2) rfl rfl rfl ti_28 rfl rfl (AR.step rfl rfl rfl (AO.load_box (i := 1) rfl rfl rfl ti_28 rfl rfl (AR.step rfl rfl rfl (AO.load_box (i := 0) rfl rfl rfl ti_28 rfl rfl ?_))))))
  refine AR.step rfl rfl rfl (AO.buildSliceF (ApiExpr.cellsL [x1, x3, x4]) rfl sf_26 rfl rfl rfl (by first | rfl | simp only [List.map, ApiExpr.cells_eq, ApiExpr.cellsL]) ?_)
  refine AR.step rfl rfl rfl (AO.build rfl zp_28 spl_28 rfl (AR.step_none rfl rfl (AO.store_box (i := 3) rfl rfl rfl ti_28 rfl rfl rfl rfl rfl (AR.nil [2] rfl (AW.ret ?_)))))
  cases hf
  exact ⟨rfl, _, ⟨_, _, rfl, ⟨_, _, 3, _, _, rfl, rfl, ti_28, rfl⟩, rfl⟩, _, (.cons _ (.cons _ (.cons _ (.cons _ (.cons_cons _ (List.nil_sublist _)))))), h⟩

theorem w_parser_reader_operation (go_parser_reader_condition : ParserReader → Option (Exc ParserFailure ApiExpr × ParserReader)) (go_parser_reader_conditionH : ∀ (up1 : Nat) (urx1 : ParserReader) {urr1X : Exc ParserFailure ApiExpr} {urx1s : ParserReader}, go_parser_reader_condition urx1 = some (urr1X, urx1s) → ∀ {Q : AOut → List Res → Prop} (h : Q (x_parser_reader_condition urr1X) [.box up1 [.list (List.map ApiToken.cells urx1s.ts), .int .i64 urx1s.at_]]), AC Tryz.prog 119 [.val (.pointer (some ⟨up1, 0, none⟩))] [.box up1 [.list (List.map ApiToken.cells urx1.ts), .int .i64 urx1.at_]] Q) (go_parser_reader_operation : ParserReader → Int → Option (Exc ParserFailure ApiExpr × ParserReader)) (go_parser_reader_operationH : ∀ (up1 : Nat) (urx1 : ParserReader) (un1 : Int) {urr1X : Exc ParserFailure ApiExpr} {urx1s : ParserReader}, go_parser_reader_operation urx1 un1 = some (urr1X, urx1s) → ∀ {Q : AOut → List Res → Prop} (h : Q (x_parser_reader_operation urr1X) [.box up1 [.list (List.map ApiToken.cells urx1s.ts), .int .i64 urx1s.at_]]), AC Tryz.prog 145 [.val (.pointer (some ⟨up1, 0, none⟩)), .int .i64 un1] [.box up1 [.list (List.map ApiToken.cells urx1.ts), .int .i64 urx1.at_]] Q) (go_parser_reader_unary : ParserReader → Option (Exc ParserFailure ApiExpr × ParserReader)) (go_parser_reader_unaryH : ∀ (up1 : Nat) (urx1 : ParserReader) {urr1X : Exc ParserFailure ApiExpr} {urx1s : ParserReader}, go_parser_reader_unary urx1 = some (urr1X, urx1s) → ∀ {Q : AOut → List Res → Prop} (h : Q (x_parser_reader_unary urr1X) [.box up1 [.list (List.map ApiToken.cells urx1s.ts), .int .i64 urx1s.at_]]), AC Tryz.prog 157 [.val (.pointer (some ⟨up1, 0, none⟩))] [.box up1 [.list (List.map ApiToken.cells urx1.ts), .int .i64 urx1.at_]] Q) (go_parser_reader_chain : ParserReader → Option (Exc ParserFailure ApiExpr × ParserReader)) (go_parser_reader_chainH : ∀ (up1 : Nat) (urx1 : ParserReader) {urr1X : Exc ParserFailure ApiExpr} {urx1s : ParserReader}, go_parser_reader_chain urx1 = some (urr1X, urx1s) → ∀ {Q : AOut → List Res → Prop} (h : Q (x_parser_reader_chain urr1X) [.box up1 [.list (List.map ApiToken.cells urx1s.ts), .int .i64 urx1s.at_]]), AC Tryz.prog 167 [.val (.pointer (some ⟨up1, 0, none⟩))] [.box up1 [.list (List.map ApiToken.cells urx1.ts), .int .i64 urx1.at_]] Q) (go_parser_reader_atom : ParserReader → Option (Exc ParserFailure ApiExpr × ParserReader)) (go_parser_reader_atomH : ∀ (up1 : Nat) (urx1 : ParserReader) {urr1X : Exc ParserFailure ApiExpr} {urx1s : ParserReader}, go_parser_reader_atom urx1 = some (urr1X, urx1s) → ∀ {Q : AOut → List Res → Prop} (h : Q (x_parser_reader_atom urr1X) [.box up1 [.list (List.map ApiToken.cells urx1s.ts), .int .i64 urx1s.at_]]), AC Tryz.prog 173 [.val (.pointer (some ⟨up1, 0, none⟩))] [.box up1 [.list (List.map ApiToken.cells urx1.ts), .int .i64 urx1.at_]] Q) (go_parser_reader_name : ParserReader → Str → Option (Exc ParserFailure ApiExpr × ParserReader)) (go_parser_reader_nameH : ∀ (up1 : Nat) (urx1 : ParserReader) (us1 : Str) {urr1X : Exc ParserFailure ApiExpr} {urx1s : ParserReader}, go_parser_reader_name urx1 us1 = some (urr1X, urx1s) → ∀ {Q : AOut → List Res → Prop} (h : Q (x_parser_reader_name urr1X) [.box up1 [.list (List.map ApiToken.cells urx1s.ts), .int .i64 urx1s.at_]]), AC Tryz.prog 178 [.val (.pointer (some ⟨up1, 0, none⟩)), .str us1] [.box up1 [.list (List.map ApiToken.cells urx1.ts), .int .i64 urx1.at_]] Q) (go_parser_reader_args : ParserReader → Str → Option (Exc ParserFailure (List ApiExpr) × ParserReader)) (go_parser_reader_argsH : ∀ (up1 : Nat) (urx1 : ParserReader) (uend1 : Str) {urr1X : Exc ParserFailure (List ApiExpr)} {urx1s : ParserReader}, go_parser_reader_args urx1 uend1 = some (urr1X, urx1s) → ∀ {Q : AOut → List Res → Prop} (h : Q (x_parser_reader_args urr1X) [.box up1 [.list (List.map ApiToken.cells urx1s.ts), .int .i64 urx1s.at_]]), AC Tryz.prog 179 [.val (.pointer (some ⟨up1, 0, none⟩)), .str uend1] [.box up1 [.list (List.map ApiToken.cells urx1.ts), .int .i64 urx1.at_]] Q) (p1 : Nat) (rx1 : ParserReader) (n1 : Int) {rX : Exc ParserFailure ApiExpr} {rx1s : ParserReader} (hf : parser_reader_operation_b go_parser_reader_condition go_parser_reader_operation go_parser_reader_unary go_parser_reader_chain go_parser_reader_atom go_parser_reader_name go_parser_reader_args rx1 n1 = some (rX, rx1s)) {Q : AOut → List Res → Prop} (h : Q (x_parser_reader_operation rX) [.box p1 [.list (List.map ApiToken.cells rx1s.ts), .int .i64 rx1s.at_]]) : AC Tryz.prog 145 [.val (.pointer (some ⟨p1, 0, none⟩)), .int .i64 n1] [.box p1 [.list (List.map ApiToken.cells rx1.ts), .int .i64 rx1.at_]] Q := by
 unfold parser_reader_operation_b at hf
 refine AC.of_body 47 [.cell 4 28] [0, 1] Tryz.func145 rfl rfl rfl rfl rfl (AW.sr (AR.step rfl rfl rfl (AO.alloc_own rfl zp_28 (fun b4 => (AR.nil [0, 1, 4] rfl ?_)))))
 refine AW.seq (AW.sr (cs 2 rfl (AR.nil [0, 1, 4, 8] rfl ?_)))
 refine AW.cond rfl (fun h1 => ?_) (fun h1 => ?_)
 ·
  replace hf := ite_T h1 hf
  refine AW.sr (cs 1 rfl ?_)
  rcases bindXS_inv hf with ⟨e1, y2, h2, hf⟩ | ⟨x1, y1, h2, hf⟩
  ·
   refine AR.step rfl rfl rfl (AO.call rfl _ rfl rfl pf_157 (AC.one 1 rfl (go_parser_reader_unaryH _ _ h2 ⟨_, rfl, ?_⟩)))
   cases hf
   exact ⟨rfl, _, (.cons _ (.cons_cons _ (List.nil_sublist _))), h⟩
  refine AR.step rfl rfl rfl (AO.call rfl _ rfl rfl pf_157 (AC.one 1 rfl (go_parser_reader_unaryH _ _ h2 ⟨_, rfl, (AR.step_none rfl rfl (AO.store_box (i := 0) rfl rfl rfl ti_28 rfl rfl rfl rfl rfl (AR.nil [4] rfl (AW.ret ?_))))⟩)))
  cases hf
  exact ⟨rfl, _, ⟨_, _, rfl, ⟨_, _, 0, _, _, rfl, rfl, ti_28, rfl⟩, rfl⟩, _, (.cons _ (.cons_cons _ (List.nil_sublist _))), h⟩
 ·
  replace hf := ite_F h1 hf
  refine AW.skip (AW.sr (cs 3 rfl ?_))
  rcases bindXS_inv hf with ⟨e2, y4, h3, hf⟩ | ⟨x2, y3, h3, hf⟩
  ·
   refine AR.step rfl rfl rfl (AO.call rfl _ rfl rfl pf_145 (AC.one 1 rfl (go_parser_reader_operationH _ _ _ h3 ⟨_, rfl, ?_⟩)))
   cases hf
   exact ⟨rfl, _, (.cons _ (.cons_cons _ (List.nil_sublist _))), h⟩
  refine AR.step rfl rfl rfl (AO.call rfl _ rfl rfl pf_145 (AC.one 1 rfl (go_parser_reader_operationH _ _ _ h3 ⟨_, rfl, (AR.step rfl rfl rfl (AO.alloc_own rfl zp_28 (fun b5 => (AR.step_none rfl rfl (AO.store_box (i := 0) rfl rfl rfl ti_28 rfl rfl rfl rfl rfl (AR.nil [0, 1, 4, 5] rfl ?_))))))⟩)))
  refine AW.block (AW.settle [0, 1, 4, 5] rfl ?_)
  refine AW.loopF2 (fun e3 y5 => [(0, .val (.pointer (some ⟨p1, 0, none⟩))), (1, .int .i64 n1), (4, .val (.pointer (some ⟨b4, 0, none⟩))), (5, .val (.pointer (some ⟨b5, 0, none⟩)))]) (fun e3 y5 => [.box b5 [.int .i64 e3.kind, .str e3.name, .int .i64 e3.value.kind, .bool e3.value.bool_, .int .i64 e3.value.int_, .str e3.value.str_, .list (ApiValue.cellsL e3.value.list_), .list (List.map strC e3.value.keys), .list (ApiExpr.cellsL e3.args), .list (List.map strC e3.keys)], .box b4 [.int .i64 0, .str ([] : Str), .int .i64 0, .bool false, .int .i64 0, .str ([] : Str), .own (.slice none 0 0) [], .own (.slice none 0 0) [], .own (.slice none 0 0) [], .own (.slice none 0 0) []], .box p1 [.list (List.map ApiToken.cells y5.ts), .int .i64 y5.at_]]) (fun kk1 e3 y5 => parser_reader_operation_l1 go_parser_reader_operation n1 kk1 e3 y5 = some (rX, rx1s)) BIG x2 y3 rfl rfl hf (fun _ _ hz => none_no hz) ?_
  intro kk1 e3 y5 hf
  rw [parser_reader_operation_l1] at hf
  refine AW.block (AW.sr (cs 1 rfl ?_))
  obtain ⟨x3, y6, h4, hf⟩ := bind2_inv hf
  refine AR.step rfl rfl rfl (AO.call rfl _ rfl rfl pf_158 (AC.one 2 rfl (c_parser_reader_peek _ _ h4 ⟨_, rfl, (AR.step rfl rfl rfl (AO.alloc_own rfl zp_83 (fun b6 => (AR.step_none rfl rfl (AO.store_box (i := 0) rfl rfl rfl ti_83 rfl rfl rfl rfl rfl (AR.nil [0, 1, 4, 5, 6] rfl ?_))))))⟩)))
  refine AW.seq (AW.sr (cs 1 rfl (AR.step rfl rfl rfl (AO.load_box (i := 0) rfl rfl rfl ti_3 rfl rfl ?_))))
  refine cs 2 rfl ?_
  obtain ⟨b1, h6, hf⟩ := bind1_inv hf
  refine AR.join1 6 20 26 false [0, 1, 4, 5, 6] b1 rfl rfl (fun h5 => ?_) (fun h5 => ?_) ?_
  ·
   replace h6 := ite_F h5 h6
   refine AR.is 20 h5 rfl (cs 1 rfl (AR.go rfl rfl rfl rfl rfl rfl (AO.load_box (i := 0) rfl rfl rfl ti_9 rfl rfl ?_)))
   obtain ⟨x4, h7, h6⟩ := bind1_inv h6
   refine AR.go rfl rfl rfl rfl rfl rfl (AO.call rfl _ rfl rfl pf_131 (c_parser_strength _ h7 (cs 2 rfl ?_)))
   obtain rfl := Option.some.inj h6
   refine cs 1 rfl (AR.nil [26, 0, 1, 4, 5, 6] rfl ?_)
   exact ⟨rfl, rfl, rfl, rfl⟩
  ·
   replace h6 := ite_T h5 h6
   refine AR.is 20 h5 rfl ?_
   obtain rfl := Option.some.inj h6
   refine cs 6 rfl (AR.nil [26, 0, 1, 4, 5, 6] rfl ?_)
   exact ⟨rfl, rfl, rfl, rfl⟩
  refine AR.nil [0, 1, 4, 5, 6, 26] rfl (AW.cond rfl (fun h8 => ?_) (fun h8 => ?_))
  ·
   replace hf := ite_T h8 hf
   refine AW.sr (AR.step rfl rfl rfl (AO.load_box (i := 1) rfl rfl rfl ti_28 rfl rfl (AR.step_none rfl rfl (AO.store_box (i := 2) rfl rfl rfl ti_28 rfl rfl rfl rfl rfl (AR.nil [4] rfl ?_)))))
   refine AW.ret ?_
   cases hf
   exact ⟨rfl, _, ⟨_, _, rfl, ⟨_, _, 2, _, _, rfl, rfl, ti_28, rfl⟩, rfl⟩, _, (.cons _ (.cons _ (.cons _ (.cons_cons _ (List.nil_sublist _))))), h⟩
  ·
   replace hf := ite_F h8 hf
   refine AW.skip (AW.sr (cs 3 rfl (AR.step rfl rfl rfl (AO.load_box (i := 3) rfl rfl rfl ti_3 rfl rfl ?_))))
   refine cs 3 rfl (AR.step_none rfl rfl (AO.store_box (i := 3) rfl rfl rfl ti_3 rfl rfl rfl rfl rfl (AR.nil [0, 1, 4, 5, 6] rfl (AW.seq ?_))))
   refine AW.drawG 0 6 8 3 mixed (by kernel_rfl) (by kernel_rfl) (by kernel_rfl) rfl rfl rfl rfl ?_
   refine Ev.nil ?_
   show Ev _ _ _ _ _ _ _
   refine Ev.cs FX_ok 1 rfl (Ev.cons rfl rfl rfl (AO.load_box (i := 0) rfl rfl rfl ti_9 rfl rfl ⟨rfl, rfl⟩) (Ev.cons rfl rfl rfl (AO.load_box (i := 1) rfl rfl rfl ti_28 rfl rfl ⟨rfl, rfl⟩) (Ev.cs FX_ok 3 rfl ?_)))
   refine Ev.nil ?_
   rcases bindXS_inv hf with ⟨e4, y8, h9, hf⟩ | ⟨x5, y7, h9, hf⟩
   ·
    refine TF.step rfl rfl rfl (AO.call rfl _ rfl rfl pf_145 (AC.one 0 rfl (go_parser_reader_operationH _ _ _ h9 ⟨_, rfl, ?_⟩)))
    cases hf
    exact ⟨rfl, _, (.cons _ (.cons _ (.cons _ (.cons_cons _ (List.nil_sublist _))))), h⟩
   refine TF.step rfl rfl rfl (AO.call rfl _ rfl rfl pf_145 (AC.one 0 rfl (go_parser_reader_operationH _ _ _ h9 ⟨_, rfl, (TF.step rfl rfl rfl (AO.buildSliceF (ApiExpr.cellsL [e3, x5]) rfl sf_26 rfl rfl rfl (by first | rfl | simp only [List.map, ApiExpr.cells_eq, ApiExpr.cellsL]) ?_))⟩)))
   refine TF.nil ?_
   show AR _ _ _ _ _ _ _ _
   refine AR.step rfl rfl rfl (AO.build rfl zp_28 spl_28 rfl (AR.step_none rfl rfl (AO.store_box (i := 1) rfl rfl rfl ti_28 rfl rfl rfl rfl rfl (AR.nil [0, 1, 4, 5] rfl (AW.sr ?_)))))
   refine cs 2 rfl (AR.nil [0, 1, 4, 5, 45] rfl (AW.cond rfl (fun h10 => ?_) (fun h10 => ?_)))
   ·
    replace hf := ite_T h10 hf
    refine AW.sr (AR.step rfl rfl rfl (AO.load_box (i := 1) rfl rfl rfl ti_28 rfl rfl (AR.step_none rfl rfl (AO.store_box (i := 2) rfl rfl rfl ti_28 rfl rfl rfl rfl rfl (AR.nil [4] rfl ?_)))))
    refine AW.ret ?_
    cases hf
    exact ⟨rfl, _, ⟨_, _, rfl, ⟨_, _, 2, _, _, rfl, rfl, ti_28, rfl⟩, rfl⟩, _, (.cons _ (.cons _ (.cons _ (.cons_cons _ (List.nil_sublist _))))), h⟩
   ·
    replace hf := ite_F h10 hf
    refine AW.drop1 (AW.weakB 0 rfl (AW.settle [0, 1, 4, 5] rfl (AW.skip ?_)))
    exact ⟨(ApiExpr.mk 7 x3.text (ApiValue.mk 0 false 0 ([] : Str) [] []) [e3, x5] []), y7, rfl, rfl, rfl, hf⟩

theorem w_parser_reader_unary (go_parser_reader_condition : ParserReader → Option (Exc ParserFailure ApiExpr × ParserReader)) (go_parser_reader_conditionH : ∀ (up1 : Nat) (urx1 : ParserReader) {urr1X : Exc ParserFailure ApiExpr} {urx1s : ParserReader}, go_parser_reader_condition urx1 = some (urr1X, urx1s) → ∀ {Q : AOut → List Res → Prop} (h : Q (x_parser_reader_condition urr1X) [.box up1 [.list (List.map ApiToken.cells urx1s.ts), .int .i64 urx1s.at_]]), AC Tryz.prog 119 [.val (.pointer (some ⟨up1, 0, none⟩))] [.box up1 [.list (List.map ApiToken.cells urx1.ts), .int .i64 urx1.at_]] Q) (go_parser_reader_operation : ParserReader → Int → Option (Exc ParserFailure ApiExpr × ParserReader)) (go_parser_reader_operationH : ∀ (up1 : Nat) (urx1 : ParserReader) (un1 : Int) {urr1X : Exc ParserFailure ApiExpr} {urx1s : ParserReader}, go_parser_reader_operation urx1 un1 = some (urr1X, urx1s) → ∀ {Q : AOut → List Res → Prop} (h : Q (x_parser_reader_operation urr1X) [.box up1 [.list (List.map ApiToken.cells urx1s.ts), .int .i64 urx1s.at_]]), AC Tryz.prog 145 [.val (.pointer (some ⟨up1, 0, none⟩)), .int .i64 un1] [.box up1 [.list (List.map ApiToken.cells urx1.ts), .int .i64 urx1.at_]] Q) (go_parser_reader_unary : ParserReader → Option (Exc ParserFailure ApiExpr × ParserReader)) (go_parser_reader_unaryH : ∀ (up1 : Nat) (urx1 : ParserReader) {urr1X : Exc ParserFailure ApiExpr} {urx1s : ParserReader}, go_parser_reader_unary urx1 = some (urr1X, urx1s) → ∀ {Q : AOut → List Res → Prop} (h : Q (x_parser_reader_unary urr1X) [.box up1 [.list (List.map ApiToken.cells urx1s.ts), .int .i64 urx1s.at_]]), AC Tryz.prog 157 [.val (.pointer (some ⟨up1, 0, none⟩))] [.box up1 [.list (List.map ApiToken.cells urx1.ts), .int .i64 urx1.at_]] Q) (go_parser_reader_chain : ParserReader → Option (Exc ParserFailure ApiExpr × ParserReader)) (go_parser_reader_chainH : ∀ (up1 : Nat) (urx1 : ParserReader) {urr1X : Exc ParserFailure ApiExpr} {urx1s : ParserReader}, go_parser_reader_chain urx1 = some (urr1X, urx1s) → ∀ {Q : AOut → List Res → Prop} (h : Q (x_parser_reader_chain urr1X) [.box up1 [.list (List.map ApiToken.cells urx1s.ts), .int .i64 urx1s.at_]]), AC Tryz.prog 167 [.val (.pointer (some ⟨up1, 0, none⟩))] [.box up1 [.list (List.map ApiToken.cells urx1.ts), .int .i64 urx1.at_]] Q) (go_parser_reader_atom : ParserReader → Option (Exc ParserFailure ApiExpr × ParserReader)) (go_parser_reader_atomH : ∀ (up1 : Nat) (urx1 : ParserReader) {urr1X : Exc ParserFailure ApiExpr} {urx1s : ParserReader}, go_parser_reader_atom urx1 = some (urr1X, urx1s) → ∀ {Q : AOut → List Res → Prop} (h : Q (x_parser_reader_atom urr1X) [.box up1 [.list (List.map ApiToken.cells urx1s.ts), .int .i64 urx1s.at_]]), AC Tryz.prog 173 [.val (.pointer (some ⟨up1, 0, none⟩))] [.box up1 [.list (List.map ApiToken.cells urx1.ts), .int .i64 urx1.at_]] Q) (go_parser_reader_name : ParserReader → Str → Option (Exc ParserFailure ApiExpr × ParserReader)) (go_parser_reader_nameH : ∀ (up1 : Nat) (urx1 : ParserReader) (us1 : Str) {urr1X : Exc ParserFailure ApiExpr} {urx1s : ParserReader}, go_parser_reader_name urx1 us1 = some (urr1X, urx1s) → ∀ {Q : AOut → List Res → Prop} (h : Q (x_parser_reader_name urr1X) [.box up1 [.list (List.map ApiToken.cells urx1s.ts), .int .i64 urx1s.at_]]), AC Tryz.prog 178 [.val (.pointer (some ⟨up1, 0, none⟩)), .str us1] [.box up1 [.list (List.map ApiToken.cells urx1.ts), .int .i64 urx1.at_]] Q) (go_parser_reader_args : ParserReader → Str → Option (Exc ParserFailure (List ApiExpr) × ParserReader)) (go_parser_reader_argsH : ∀ (up1 : Nat) (urx1 : ParserReader) (uend1 : Str) {urr1X : Exc ParserFailure (List ApiExpr)} {urx1s : ParserReader}, go_parser_reader_args urx1 uend1 = some (urr1X, urx1s) → ∀ {Q : AOut → List Res → Prop} (h : Q (x_parser_reader_args urr1X) [.box up1 [.list (List.map ApiToken.cells urx1s.ts), .int .i64 urx1s.at_]]), AC Tryz.prog 179 [.val (.pointer (some ⟨up1, 0, none⟩)), .str uend1] [.box up1 [.list (List.map ApiToken.cells urx1.ts), .int .i64 urx1.at_]] Q) (p1 : Nat) (rx1 : ParserReader) {rX : Exc ParserFailure ApiExpr} {rx1s : ParserReader} (hf : parser_reader_unary_b go_parser_reader_condition go_parser_reader_operation go_parser_reader_unary go_parser_reader_chain go_parser_reader_atom go_parser_reader_name go_parser_reader_args rx1 = some (rX, rx1s)) {Q : AOut → List Res → Prop} (h : Q (x_parser_reader_unary rX) [.box p1 [.list (List.map ApiToken.cells rx1s.ts), .int .i64 rx1s.at_]]) : AC Tryz.prog 157 [.val (.pointer (some ⟨p1, 0, none⟩))] [.box p1 [.list (List.map ApiToken.cells rx1.ts), .int .i64 rx1.at_]] Q := by
 unfold parser_reader_unary_b at hf
 refine AC.of_body 22 [.cell 2 28] [0] Tryz.func157 rfl rfl rfl rfl rfl (AW.sr (AR.step rfl rfl rfl (AO.alloc_own rfl zp_28 (fun b2 => (AR.nil [0, 2] rfl ?_)))))
 refine AW.seq (AW.sr (AR.step rfl rfl rfl (AO.buildSliceF (List.map strC ([([33] : Str), ([45] : Str)] : List Str)) rfl sf_23 rfl rfl rfl rfl (AR.step rfl rfl rfl (AO.len_list (l := ([([33] : Str), ([45] : Str)] : List Str)) rfl rfl rfl rfl es_23 rfl rfl ?_)))))
 refine cs 1 rfl (AR.nil [0, 2, 5, 6, 7] rfl (AW.block (AW.settle [0, 2, 5, 6, 7] rfl ?_)))
 refine AW.loopF2 (fun x1 y1 => [(0, .val (.pointer (some ⟨p1, 0, none⟩))), (2, .val (.pointer (some ⟨b2, 0, none⟩))), (5, .list (List.map strC ([([33] : Str), ([45] : Str)] : List Str))), (6, .int .i64 (([([33] : Str), ([45] : Str)] : List Str).length : Int)), (7, .int .i64 x1)]) (fun x1 y1 => [.box b2 [.int .i64 0, .str ([] : Str), .int .i64 0, .bool false, .int .i64 0, .str ([] : Str), .own (.slice none 0 0) [], .own (.slice none 0 0) [], .own (.slice none 0 0) [], .own (.slice none 0 0) []], .box p1 [.list (List.map ApiToken.cells y1.ts), .int .i64 y1.at_]]) (fun kk1 x1 y1 => parser_reader_unary_l1 go_parser_reader_unary go_parser_reader_chain kk1 x1 y1 = some (rX, rx1s)) BIG 0 rx1 rfl rfl hf (fun _ _ hz => none_no hz) ?_
 intro kk1 x1 y1 hf
 rw [parser_reader_unary_l1] at hf
 refine AW.sr (cs 1 rfl (AR.nil [0, 2, 5, 6, 7, 8] rfl (AW.seq ?_)))
 refine AW.cond rfl (fun h1 => ?_) (fun h1 => ?_)
 ·
  replace hf := ite_T h1 hf
  refine AW.skip (AW.seq (AW.block (AW.sr ?_)))
  obtain ⟨op1, h2, hf⟩ := bind1_inv hf
  refine AR.step rfl rfl rfl (AO.idx_list h2 rfl rfl rfl rfl es_23 rfl rfl (cs 2 rfl (AR.nil [0, 2, 4, 5, 6, 7] rfl (AW.sr ?_))))
  refine cs 2 rfl ?_
  obtain ⟨x2, y2, h3, hf⟩ := bind2_inv hf
  refine AR.step rfl rfl rfl (AO.call rfl _ rfl rfl pf_146 (AC.one 1 rfl (c_parser_reader_accept _ _ _ h3 ⟨_, rfl, (AR.nil [0, 2, 4, 5, 6, 7, 13] rfl (AW.cond rfl (fun h4 => ?_) (fun h4 => ?_)))⟩)))
  ·
   replace hf := ite_T h4 hf
   refine AW.sr (cs 2 rfl ?_)
   rcases bindXS_inv hf with ⟨e1, y4, h5, hf⟩ | ⟨x3, y3, h5, hf⟩
   ·
    refine AR.step rfl rfl rfl (AO.call rfl _ rfl rfl pf_157 (AC.one 1 rfl (go_parser_reader_unaryH _ _ h5 ⟨_, rfl, ?_⟩)))
    cases hf
    exact ⟨rfl, _, (.cons _ (.cons_cons _ (List.nil_sublist _))), h⟩
   refine AR.step rfl rfl rfl (AO.call rfl _ rfl rfl pf_157 (AC.one 1 rfl (go_parser_reader_unaryH _ _ h5 ⟨_, rfl, (AR.step rfl rfl rfl (AO.buildSliceF (ApiExpr.cellsL [x3]) rfl sf_26 rfl rfl rfl (by first | rfl | simp only [List.map, ApiExpr.cells_eq, ApiExpr.cellsL]) ?_))⟩)))
   refine AR.step rfl rfl rfl (AO.build rfl zp_28 spl_28 rfl (AR.step_none rfl rfl (AO.store_box (i := 0) rfl rfl rfl ti_28 rfl rfl rfl rfl rfl (AR.nil [2] rfl (AW.ret ?_)))))
   cases hf
   exact ⟨rfl, _, ⟨_, _, rfl, ⟨_, _, 0, _, _, rfl, rfl, ti_28, rfl⟩, rfl⟩, _, (.cons _ (.cons_cons _ (List.nil_sublist _))), h⟩
  ·
   replace hf := ite_F h4 hf
   refine AW.skip (AW.region (cs 2 rfl (AR.nil [0, 2, 5, 6, 7] rfl ?_)))
   exact ⟨(w64 (x1 + 1)), y2, rfl, rfl, rfl, hf⟩
 ·
  replace hf := ite_F h1 hf
  refine AW.exit (AW.sr (cs 1 rfl ?_))
  rcases bindXS_inv hf with ⟨e2, y6, h6, hf⟩ | ⟨x4, y5, h6, hf⟩
  ·
   refine AR.step rfl rfl rfl (AO.call rfl _ rfl rfl pf_167 (AC.one 1 rfl (go_parser_reader_chainH _ _ h6 ⟨_, rfl, ?_⟩)))
   cases hf
   exact ⟨rfl, _, (.cons _ (.cons_cons _ (List.nil_sublist _))), h⟩
  refine AR.step rfl rfl rfl (AO.call rfl _ rfl rfl pf_167 (AC.one 1 rfl (go_parser_reader_chainH _ _ h6 ⟨_, rfl, (AR.step_none rfl rfl (AO.store_box (i := 0) rfl rfl rfl ti_28 rfl rfl rfl rfl rfl (AR.nil [2] rfl (AW.ret ?_))))⟩)))
  cases hf
  exact ⟨rfl, _, ⟨_, _, rfl, ⟨_, _, 0, _, _, rfl, rfl, ti_28, rfl⟩, rfl⟩, _, (.cons _ (.cons_cons _ (List.nil_sublist _))), h⟩

theorem w_parser_reader_chain (go_parser_reader_condition : ParserReader → Option (Exc ParserFailure ApiExpr × ParserReader)) (go_parser_reader_conditionH : ∀ (up1 : Nat) (urx1 : ParserReader) {urr1X : Exc ParserFailure ApiExpr} {urx1s : ParserReader}, go_parser_reader_condition urx1 = some (urr1X, urx1s) → ∀ {Q : AOut → List Res → Prop} (h : Q (x_parser_reader_condition urr1X) [.box up1 [.list (List.map ApiToken.cells urx1s.ts), .int .i64 urx1s.at_]]), AC Tryz.prog 119 [.val (.pointer (some ⟨up1, 0, none⟩))] [.box up1 [.list (List.map ApiToken.cells urx1.ts), .int .i64 urx1.at_]] Q) (go_parser_reader_operation : ParserReader → Int → Option (Exc ParserFailure ApiExpr × ParserReader)) (go_parser_reader_operationH : ∀ (up1 : Nat) (urx1 : ParserReader) (un1 : Int) {urr1X : Exc ParserFailure ApiExpr} {urx1s : ParserReader}, go_parser_reader_operation urx1 un1 = some (urr1X, urx1s) → ∀ {Q : AOut → List Res → Prop} (h : Q (x_parser_reader_operation urr1X) [.box up1 [.list (List.map ApiToken.cells urx1s.ts), .int .i64 urx1s.at_]]), AC Tryz.prog 145 [.val (.pointer (some ⟨up1, 0, none⟩)), .int .i64 un1] [.box up1 [.list (List.map ApiToken.cells urx1.ts), .int .i64 urx1.at_]] Q) (go_parser_reader_unary : ParserReader → Option (Exc ParserFailure ApiExpr × ParserReader)) (go_parser_reader_unaryH : ∀ (up1 : Nat) (urx1 : ParserReader) {urr1X : Exc ParserFailure ApiExpr} {urx1s : ParserReader}, go_parser_reader_unary urx1 = some (urr1X, urx1s) → ∀ {Q : AOut → List Res → Prop} (h : Q (x_parser_reader_unary urr1X) [.box up1 [.list (List.map ApiToken.cells urx1s.ts), .int .i64 urx1s.at_]]), AC Tryz.prog 157 [.val (.pointer (some ⟨up1, 0, none⟩))] [.box up1 [.list (List.map ApiToken.cells urx1.ts), .int .i64 urx1.at_]] Q) (go_parser_reader_chain : ParserReader → Option (Exc ParserFailure ApiExpr × ParserReader)) (go_parser_reader_chainH : ∀ (up1 : Nat) (urx1 : ParserReader) {urr1X : Exc ParserFailure ApiExpr} {urx1s : ParserReader}, go_parser_reader_chain urx1 = some (urr1X, urx1s) → ∀ {Q : AOut → List Res → Prop} (h : Q (x_parser_reader_chain urr1X) [.box up1 [.list (List.map ApiToken.cells urx1s.ts), .int .i64 urx1s.at_]]), AC Tryz.prog 167 [.val (.pointer (some ⟨up1, 0, none⟩))] [.box up1 [.list (List.map ApiToken.cells urx1.ts), .int .i64 urx1.at_]] Q) (go_parser_reader_atom : ParserReader → Option (Exc ParserFailure ApiExpr × ParserReader)) (go_parser_reader_atomH : ∀ (up1 : Nat) (urx1 : ParserReader) {urr1X : Exc ParserFailure ApiExpr} {urx1s : ParserReader}, go_parser_reader_atom urx1 = some (urr1X, urx1s) → ∀ {Q : AOut → List Res → Prop} (h : Q (x_parser_reader_atom urr1X) [.box up1 [.list (List.map ApiToken.cells urx1s.ts), .int .i64 urx1s.at_]]), AC Tryz.prog 173 [.val (.pointer (some ⟨up1, 0, none⟩))] [.box up1 [.list (List.map ApiToken.cells urx1.ts), .int .i64 urx1.at_]] Q) (go_parser_reader_name : ParserReader → Str → Option (Exc ParserFailure ApiExpr × ParserReader)) (go_parser_reader_nameH : ∀ (up1 : Nat) (urx1 : ParserReader) (us1 : Str) {urr1X : Exc ParserFailure ApiExpr} {urx1s : ParserReader}, go_parser_reader_name urx1 us1 = some (urr1X, urx1s) → ∀ {Q : AOut → List Res → Prop} (h : Q (x_parser_reader_name urr1X) [.box up1 [.list (List.map ApiToken.cells urx1s.ts), .int .i64 urx1s.at_]]), AC Tryz.prog 178 [.val (.pointer (some ⟨up1, 0, none⟩)), .str us1] [.box up1 [.list (List.map ApiToken.cells urx1.ts), .int .i64 urx1.at_]] Q) (go_parser_reader_args : ParserReader → Str → Option (Exc ParserFailure (List ApiExpr) × ParserReader)) (go_parser_reader_argsH : ∀ (up1 : Nat) (urx1 : ParserReader) (uend1 : Str) {urr1X : Exc ParserFailure (List ApiExpr)} {urx1s : ParserReader}, go_parser_reader_args urx1 uend1 = some (urr1X, urx1s) → ∀ {Q : AOut → List Res → Prop} (h : Q (x_parser_reader_args urr1X) [.box up1 [.list (List.map ApiToken.cells urx1s.ts), .int .i64 urx1s.at_]]), AC Tryz.prog 179 [.val (.pointer (some ⟨up1, 0, none⟩)), .str uend1] [.box up1 [.list (List.map ApiToken.cells urx1.ts), .int .i64 urx1.at_]] Q) (p1 : Nat) (rx1 : ParserReader) {rX : Exc ParserFailure ApiExpr} {rx1s : ParserReader} (hf : parser_reader_chain_b go_parser_reader_condition go_parser_reader_operation go_parser_reader_unary go_parser_reader_chain go_parser_reader_atom go_parser_reader_name go_parser_reader_args rx1 = some (rX, rx1s)) {Q : AOut → List Res → Prop} (h : Q (x_parser_reader_chain rX) [.box p1 [.list (List.map ApiToken.cells rx1s.ts), .int .i64 rx1s.at_]]) : AC Tryz.prog 167 [.val (.pointer (some ⟨p1, 0, none⟩))] [.box p1 [.list (List.map ApiToken.cells rx1.ts), .int .i64 rx1.at_]] Q := by
 unfold parser_reader_chain_b at hf
 refine AC.of_body 47 [.cell 2 28] [0] Tryz.func167 rfl rfl rfl rfl rfl (AW.sr (AR.step rfl rfl rfl (AO.alloc_own rfl zp_28 (fun b2 => (AR.nil [0, 2] rfl ?_)))))
 refine AW.sr (cs 1 rfl ?_)
 rcases bindXS_inv hf with ⟨e1, y2, h1, hf⟩ | ⟨x1, y1, h1, hf⟩
 ·
  refine AR.step rfl rfl rfl (AO.call rfl _ rfl rfl pf_173 (AC.one 1 rfl (go_parser_reader_atomH _ _ h1 ⟨_, rfl, ?_⟩)))
  cases hf
  exact ⟨rfl, _, (.cons _ (.cons_cons _ (List.nil_sublist _))), h⟩
 refine AR.step rfl rfl rfl (AO.call rfl _ rfl rfl pf_173 (AC.one 1 rfl (go_parser_reader_atomH _ _ h1 ⟨_, rfl, (AR.step rfl rfl rfl (AO.alloc_own rfl zp_28 (fun b3 => (AR.step_none rfl rfl (AO.store_box (i := 0) rfl rfl rfl ti_28 rfl rfl rfl rfl rfl (AR.nil [0, 2, 3] rfl ?_))))))⟩)))
 refine AW.block (AW.settle [0, 2, 3] rfl ?_)
 refine AW.loopF2 (fun e2 y3 => [(0, .val (.pointer (some ⟨p1, 0, none⟩))), (2, .val (.pointer (some ⟨b2, 0, none⟩))), (3, .val (.pointer (some ⟨b3, 0, none⟩)))]) (fun e2 y3 => [.box b3 [.int .i64 e2.kind, .str e2.name, .int .i64 e2.value.kind, .bool e2.value.bool_, .int .i64 e2.value.int_, .str e2.value.str_, .list (ApiValue.cellsL e2.value.list_), .list (List.map strC e2.value.keys), .list (ApiExpr.cellsL e2.args), .list (List.map strC e2.keys)], .box b2 [.int .i64 0, .str ([] : Str), .int .i64 0, .bool false, .int .i64 0, .str ([] : Str), .own (.slice none 0 0) [], .own (.slice none 0 0) [], .own (.slice none 0 0) [], .own (.slice none 0 0) []], .box p1 [.list (List.map ApiToken.cells y3.ts), .int .i64 y3.at_]]) (fun kk1 e2 y3 => parser_reader_chain_l1 go_parser_reader_condition kk1 e2 y3 = some (rX, rx1s)) BIG x1 y1 rfl rfl hf (fun _ _ hz => none_no hz) ?_
 intro kk1 e2 y3 hf
 rw [parser_reader_chain_l1] at hf
 refine AW.block (AW.block (AW.sr (cs 1 rfl ?_)))
 obtain ⟨x2, y4, h2, hf⟩ := bind2_inv hf
 refine AR.step rfl rfl rfl (AO.call rfl _ rfl rfl pf_146 (AC.one 2 rfl (c_parser_reader_accept _ _ _ h2 ⟨_, rfl, (cs 1 rfl (AR.nil [0, 2, 3, 9] rfl (AW.cond rfl (fun h3 => ?_) (fun h3 => ?_))))⟩)))
 ·
  replace hf := ite_T h3 hf
  refine AW.sr (cs 1 rfl ?_)
  rcases bindXS_inv hf with ⟨e3, y6, h4, hf⟩ | ⟨x3, y5, h4, hf⟩
  ·
   refine AR.step rfl rfl rfl (AO.call rfl _ rfl rfl pf_160 (AC.one 2 rfl (c_parser_reader_need _ _ h4 ⟨_, rfl, ?_⟩)))
   cases hf
   exact ⟨rfl, _, (.cons _ (.cons _ (.cons_cons _ (List.nil_sublist _)))), h⟩
  refine AR.step rfl rfl rfl (AO.call rfl _ rfl rfl pf_160 (AC.one 2 rfl (c_parser_reader_need _ _ h4 ⟨_, rfl, (AR.step rfl rfl rfl (AO.alloc_own rfl zp_83 (fun b4 => (AR.step_none rfl rfl (AO.store_box (i := 0) rfl rfl rfl ti_83 rfl rfl rfl rfl rfl (AR.nil [0, 2, 3, 4] rfl ?_))))))⟩)))
  refine AW.seq (AW.sr (cs 1 rfl (AR.step rfl rfl rfl (AO.load_box (i := 0) rfl rfl rfl ti_3 rfl rfl ?_))))
  refine cs 2 rfl ?_
  obtain ⟨b1, h6, hf⟩ := bind1_inv hf
  refine AR.join1 4 17 21 false [0, 2, 3, 4] b1 rfl rfl (fun h5 => ?_) (fun h5 => ?_) ?_
  ·
   replace h6 := ite_F h5 h6
   refine AR.is 17 h5 rfl (cs 1 rfl (AR.go rfl rfl rfl rfl rfl rfl (AO.load_box (i := 0) rfl rfl rfl ti_9 rfl rfl ?_)))
   replace h6 := (bind1_ret _).trans h6
   obtain ⟨x4, h7, h6⟩ := bind1_inv h6
   refine AR.go rfl rfl rfl rfl rfl rfl (AO.call rfl _ rfl rfl pf_153 (c_parser_word _ h7 ?_))
   obtain rfl := Option.some.inj h6
   refine cs 1 rfl (AR.nil [21, 0, 2, 3, 4] rfl ?_)
   exact ⟨rfl, rfl, rfl, rfl⟩
  ·
   replace h6 := ite_T h5 h6
   refine AR.is 17 h5 rfl ?_
   obtain rfl := Option.some.inj h6
   refine cs 4 rfl (AR.nil [21, 0, 2, 3, 4] rfl ?_)
   exact ⟨rfl, rfl, rfl, rfl⟩
  refine AR.nil [0, 2, 3, 4, 21] rfl (AW.cond rfl (fun h8 => ?_) (fun h8 => ?_))
  ·
   replace hf := ite_T h8 hf
   refine AW.region (cs 1 rfl ?_)
   rcases bindXS_inv hf with ⟨e4, y8, h9, hf⟩ | ⟨_, y7, h9, hf⟩
   ·
    refine AR.step rfl rfl rfl (AO.call rfl _ rfl rfl pf_161 (AC.one 3 rfl (c_parser_reader_fail _ _ _ h9 ⟨_, rfl, ?_⟩)))
    cases hf
    exact ⟨rfl, _, (.cons _ (.cons _ (.cons _ (.cons_cons _ (List.nil_sublist _))))), h⟩
   refine AR.step rfl rfl rfl (AO.call rfl _ rfl rfl pf_161 (AC.one 3 rfl (c_parser_reader_fail _ _ _ h9 ⟨_, rfl, (AR.nil [0, 2, 3, 4] rfl (AW.sr (cs 3 rfl ?_)))⟩)))
   refine AR.step rfl rfl rfl (AO.load_box (i := 3) rfl rfl rfl ti_3 rfl rfl (cs 3 rfl (AR.step_none rfl rfl (AO.store_box (i := 3) rfl rfl rfl ti_3 rfl rfl rfl rfl rfl (AR.nil [0, 2, 3, 4] rfl ?_)))))
   refine AW.region (cs 1 rfl (AR.step rfl rfl rfl (AO.load_box (i := 0) rfl rfl rfl ti_9 rfl rfl (AR.step rfl rfl rfl (AO.load_box (i := 1) rfl rfl rfl ti_28 rfl rfl ?_)))))
   refine AR.step rfl rfl rfl (AO.buildSliceF (ApiExpr.cellsL [e2]) rfl sf_26 rfl rfl rfl (by first | rfl | simp only [List.map, ApiExpr.cells_eq, ApiExpr.cellsL]) ?_)
   refine AR.step rfl rfl rfl (AO.build rfl zp_28 spl_28 rfl (AR.step_none rfl rfl (AO.store_box (i := 1) rfl rfl rfl ti_28 rfl rfl rfl rfl rfl (AR.drop1 (AR.weakB 0 rfl ?_)))))
   refine AR.nil [0, 2, 3] rfl ?_
   exact ⟨(ApiExpr.mk 3 x3.text (ApiValue.mk 0 false 0 ([] : Str) [] []) [e2] []), (ParserReader.mk y7.ts (w64 (y7.at_ + 1))), rfl, rfl, rfl, hf⟩
  ·
   replace hf := ite_F h8 hf
   refine AW.skip (AW.sr (cs 3 rfl (AR.step rfl rfl rfl (AO.load_box (i := 3) rfl rfl rfl ti_3 rfl rfl ?_))))
   refine cs 3 rfl (AR.step_none rfl rfl (AO.store_box (i := 3) rfl rfl rfl ti_3 rfl rfl rfl rfl rfl (AR.nil [0, 2, 3, 4] rfl (AW.region ?_))))
   refine cs 1 rfl (AR.step rfl rfl rfl (AO.load_box (i := 0) rfl rfl rfl ti_9 rfl rfl (AR.step rfl rfl rfl (AO.load_box (i := 1) rfl rfl rfl ti_28 rfl rfl (AR.step rfl rfl rfl (AO.buildSliceF (ApiExpr.cellsL [e2]) rfl sf_26 rfl rfl rfl (by first | rfl | simp only [List.map, ApiExpr.cells_eq, ApiExpr.cellsL]) ?_))))))
   refine AR.step rfl rfl rfl (AO.build rfl zp_28 spl_28 rfl (AR.step_none rfl rfl (AO.store_box (i := 1) rfl rfl rfl ti_28 rfl rfl rfl rfl rfl (AR.drop1 (AR.weakB 0 rfl ?_)))))
   refine AR.nil [0, 2, 3] rfl ?_
   exact ⟨(ApiExpr.mk 3 x3.text (ApiValue.mk 0 false 0 ([] : Str) [] []) [e2] []), (ParserReader.mk y5.ts (w64 (y5.at_ + 1))), rfl, rfl, rfl, hf⟩
 ·
  replace hf := ite_F h3 hf
  refine AW.sr (cs 1 rfl ?_)
  obtain ⟨x5, y9, h10, hf⟩ := bind2_inv hf
  refine AR.step rfl rfl rfl (AO.call rfl _ rfl rfl pf_146 (AC.one 2 rfl (c_parser_reader_accept _ _ _ h10 ⟨_, rfl, (cs 1 rfl (AR.nil [0, 2, 3, 36] rfl (AW.cond rfl (fun h11 => ?_) (fun h11 => ?_))))⟩)))
  ·
   replace hf := ite_T h11 hf
   refine AW.sr (cs 1 rfl ?_)
   rcases bindXS_inv hf with ⟨e5, y11, h12, hf⟩ | ⟨x6, y10, h12, hf⟩
   ·
    refine AR.step rfl rfl rfl (AO.call rfl _ rfl rfl pf_119 (AC.one 2 rfl (go_parser_reader_conditionH _ _ h12 ⟨_, rfl, ?_⟩)))
    cases hf
    exact ⟨rfl, _, (.cons _ (.cons _ (.cons_cons _ (List.nil_sublist _)))), h⟩
   refine AR.step rfl rfl rfl (AO.call rfl _ rfl rfl pf_119 (AC.one 2 rfl (go_parser_reader_conditionH _ _ h12 ⟨_, rfl, (AR.step rfl rfl rfl (AO.alloc_own rfl zp_28 (fun b5 => (AR.step_none rfl rfl (AO.store_box (i := 0) rfl rfl rfl ti_28 rfl rfl rfl rfl rfl (AR.nil [0, 2, 3, 5] rfl ?_))))))⟩)))
   refine AW.sr (cs 1 rfl ?_)
   rcases bindXS_inv hf with ⟨e6, y13, h13, hf⟩ | ⟨_, y12, h13, hf⟩
   ·
    refine AR.step rfl rfl rfl (AO.call rfl _ rfl rfl pf_147 (AC.one 3 rfl (c_parser_reader_expect _ _ _ h13 ⟨_, rfl, ?_⟩)))
    cases hf
    exact ⟨rfl, _, (.cons _ (.cons _ (.cons _ (.cons_cons _ (List.nil_sublist _))))), h⟩
   refine AR.step rfl rfl rfl (AO.call rfl _ rfl rfl pf_147 (AC.one 3 rfl (c_parser_reader_expect _ _ _ h13 ⟨_, rfl, (AR.nil [0, 2, 3, 5] rfl (AW.region (AR.step rfl rfl rfl (AO.load_box (i := 1) rfl rfl rfl ti_28 rfl rfl ?_))))⟩)))
   refine AR.step rfl rfl rfl (AO.load_box (i := 0) rfl rfl rfl ti_28 rfl rfl (AR.step rfl rfl rfl (AO.buildSliceF (ApiExpr.cellsL [e2, x6]) rfl sf_26 rfl rfl rfl (by first | rfl | simp only [List.map, ApiExpr.cells_eq, ApiExpr.cellsL]) ?_)))
   refine AR.step rfl rfl rfl (AO.build rfl zp_28 spl_28 rfl (AR.step_none rfl rfl (AO.store_box (i := 1) rfl rfl rfl ti_28 rfl rfl rfl rfl rfl (AR.drop1 (AR.weakB 0 rfl ?_)))))
   refine AR.nil [0, 2, 3] rfl ?_
   exact ⟨(ApiExpr.mk 4 ([] : Str) (ApiValue.mk 0 false 0 ([] : Str) [] []) [e2, x6] []), y12, rfl, rfl, rfl, hf⟩
  ·
   replace hf := ite_F h11 hf
   refine AW.sr (AR.step rfl rfl rfl (AO.load_box (i := 0) rfl rfl rfl ti_28 rfl rfl (AR.step_none rfl rfl (AO.store_box (i := 1) rfl rfl rfl ti_28 rfl rfl rfl rfl rfl (AR.nil [2] rfl ?_)))))
   refine AW.ret ?_
   cases hf
   exact ⟨rfl, _, ⟨_, _, rfl, ⟨_, _, 1, _, _, rfl, rfl, ti_28, rfl⟩, rfl⟩, _, (.cons _ (.cons _ (.cons_cons _ (List.nil_sublist _)))), h⟩

theorem w_parser_reader_atom (go_parser_reader_condition : ParserReader → Option (Exc ParserFailure ApiExpr × ParserReader)) (go_parser_reader_conditionH : ∀ (up1 : Nat) (urx1 : ParserReader) {urr1X : Exc ParserFailure ApiExpr} {urx1s : ParserReader}, go_parser_reader_condition urx1 = some (urr1X, urx1s) → ∀ {Q : AOut → List Res → Prop} (h : Q (x_parser_reader_condition urr1X) [.box up1 [.list (List.map ApiToken.cells urx1s.ts), .int .i64 urx1s.at_]]), AC Tryz.prog 119 [.val (.pointer (some ⟨up1, 0, none⟩))] [.box up1 [.list (List.map ApiToken.cells urx1.ts), .int .i64 urx1.at_]] Q) (go_parser_reader_operation : ParserReader → Int → Option (Exc ParserFailure ApiExpr × ParserReader)) (go_parser_reader_operationH : ∀ (up1 : Nat) (urx1 : ParserReader) (un1 : Int) {urr1X : Exc ParserFailure ApiExpr} {urx1s : ParserReader}, go_parser_reader_operation urx1 un1 = some (urr1X, urx1s) → ∀ {Q : AOut → List Res → Prop} (h : Q (x_parser_reader_operation urr1X) [.box up1 [.list (List.map ApiToken.cells urx1s.ts), .int .i64 urx1s.at_]]), AC Tryz.prog 145 [.val (.pointer (some ⟨up1, 0, none⟩)), .int .i64 un1] [.box up1 [.list (List.map ApiToken.cells urx1.ts), .int .i64 urx1.at_]] Q) (go_parser_reader_unary : ParserReader → Option (Exc ParserFailure ApiExpr × ParserReader)) (go_parser_reader_unaryH : ∀ (up1 : Nat) (urx1 : ParserReader) {urr1X : Exc ParserFailure ApiExpr} {urx1s : ParserReader}, go_parser_reader_unary urx1 = some (urr1X, urx1s) → ∀ {Q : AOut → List Res → Prop} (h : Q (x_parser_reader_unary urr1X) [.box up1 [.list (List.map ApiToken.cells urx1s.ts), .int .i64 urx1s.at_]]), AC Tryz.prog 157 [.val (.pointer (some ⟨up1, 0, none⟩))] [.box up1 [.list (List.map ApiToken.cells urx1.ts), .int .i64 urx1.at_]] Q) (go_parser_reader_chain : ParserReader → Option (Exc ParserFailure ApiExpr × ParserReader)) (go_parser_reader_chainH : ∀ (up1 : Nat) (urx1 : ParserReader) {urr1X : Exc ParserFailure ApiExpr} {urx1s : ParserReader}, go_parser_reader_chain urx1 = some (urr1X, urx1s) → ∀ {Q : AOut → List Res → Prop} (h : Q (x_parser_reader_chain urr1X) [.box up1 [.list (List.map ApiToken.cells urx1s.ts), .int .i64 urx1s.at_]]), AC Tryz.prog 167 [.val (.pointer (some ⟨up1, 0, none⟩))] [.box up1 [.list (List.map ApiToken.cells urx1.ts), .int .i64 urx1.at_]] Q) (go_parser_reader_atom : ParserReader → Option (Exc ParserFailure ApiExpr × ParserReader)) (go_parser_reader_atomH : ∀ (up1 : Nat) (urx1 : ParserReader) {urr1X : Exc ParserFailure ApiExpr} {urx1s : ParserReader}, go_parser_reader_atom urx1 = some (urr1X, urx1s) → ∀ {Q : AOut → List Res → Prop} (h : Q (x_parser_reader_atom urr1X) [.box up1 [.list (List.map ApiToken.cells urx1s.ts), .int .i64 urx1s.at_]]), AC Tryz.prog 173 [.val (.pointer (some ⟨up1, 0, none⟩))] [.box up1 [.list (List.map ApiToken.cells urx1.ts), .int .i64 urx1.at_]] Q) (go_parser_reader_name : ParserReader → Str → Option (Exc ParserFailure ApiExpr × ParserReader)) (go_parser_reader_nameH : ∀ (up1 : Nat) (urx1 : ParserReader) (us1 : Str) {urr1X : Exc ParserFailure ApiExpr} {urx1s : ParserReader}, go_parser_reader_name urx1 us1 = some (urr1X, urx1s) → ∀ {Q : AOut → List Res → Prop} (h : Q (x_parser_reader_name urr1X) [.box up1 [.list (List.map ApiToken.cells urx1s.ts), .int .i64 urx1s.at_]]), AC Tryz.prog 178 [.val (.pointer (some ⟨up1, 0, none⟩)), .str us1] [.box up1 [.list (List.map ApiToken.cells urx1.ts), .int .i64 urx1.at_]] Q) (go_parser_reader_args : ParserReader → Str → Option (Exc ParserFailure (List ApiExpr) × ParserReader)) (go_parser_reader_argsH : ∀ (up1 : Nat) (urx1 : ParserReader) (uend1 : Str) {urr1X : Exc ParserFailure (List ApiExpr)} {urx1s : ParserReader}, go_parser_reader_args urx1 uend1 = some (urr1X, urx1s) → ∀ {Q : AOut → List Res → Prop} (h : Q (x_parser_reader_args urr1X) [.box up1 [.list (List.map ApiToken.cells urx1s.ts), .int .i64 urx1s.at_]]), AC Tryz.prog 179 [.val (.pointer (some ⟨up1, 0, none⟩)), .str uend1] [.box up1 [.list (List.map ApiToken.cells urx1.ts), .int .i64 urx1.at_]] Q) (p1 : Nat) (rx1 : ParserReader) {rX : Exc ParserFailure ApiExpr} {rx1s : ParserReader} (hf : parser_reader_atom_b go_parser_reader_condition go_parser_reader_operation go_parser_reader_unary go_parser_reader_chain go_parser_reader_atom go_parser_reader_name go_parser_reader_args rx1 = some (rX, rx1s)) {Q : AOut → List Res → Prop} (h : Q (x_parser_reader_atom rX) [.box p1 [.list (List.map ApiToken.cells rx1s.ts), .int .i64 rx1s.at_]]) : AC Tryz.prog 173 [.val (.pointer (some ⟨p1, 0, none⟩))] [.box p1 [.list (List.map ApiToken.cells rx1.ts), .int .i64 rx1.at_]] Q := by
 unfold parser_reader_atom_b at hf
 refine AC.of_body 77 [.cell 2 28] [0] Tryz.func173 rfl rfl rfl rfl rfl (AW.sr (AR.step rfl rfl rfl (AO.alloc_own rfl zp_28 (fun b2 => (AR.nil [0, 2] rfl ?_)))))
 refine AW.sr (cs 1 rfl ?_)
 rcases bindXS_inv hf with ⟨e1, y2, h1, hf⟩ | ⟨x1, y1, h1, hf⟩
 ·
  refine AR.step rfl rfl rfl (AO.call rfl _ rfl rfl pf_160 (AC.one 1 rfl (c_parser_reader_need _ _ h1 ⟨_, rfl, ?_⟩)))
  cases hf
  exact ⟨rfl, _, (.cons _ (.cons_cons _ (List.nil_sublist _))), h⟩
 refine AR.step rfl rfl rfl (AO.call rfl _ rfl rfl pf_160 (AC.one 1 rfl (c_parser_reader_need _ _ h1 ⟨_, rfl, (AR.step rfl rfl rfl (AO.alloc_own rfl zp_83 (fun b3 => (AR.step_none rfl rfl (AO.store_box (i := 0) rfl rfl rfl ti_83 rfl rfl rfl rfl rfl (AR.nil [0, 2, 3] rfl ?_))))))⟩)))
 refine AW.seq (AW.sr (cs 1 rfl (AR.step rfl rfl rfl (AO.load_box (i := 0) rfl rfl rfl ti_3 rfl rfl ?_))))
 refine AR.nil [0, 2, 3, 10] rfl (AW.block (AW.sr (cs 2 rfl ?_)))
 refine AR.nil [0, 2, 3, 10, 11] rfl (AW.cond rfl (fun h2 => ?_) (fun h2 => ?_))
 ·
  replace hf := ite_T h2 hf
  refine AW.sr (cs 3 rfl (AR.step rfl rfl rfl (AO.load_box (i := 2) rfl rfl rfl ti_3 rfl rfl (cs 3 rfl ?_))))
  refine AR.step_none rfl rfl (AO.store_box (i := 2) rfl rfl rfl ti_3 rfl rfl rfl rfl rfl (AR.nil [2, 3] rfl (AW.sr (cs 1 rfl ?_))))
  refine AR.step rfl rfl rfl (AO.load_box (i := 0) rfl rfl rfl ti_9 rfl rfl ?_)
  obtain ⟨n1, x2, h3, hf⟩ := bind2_inv hf
  refine AR.step rfl rfl rfl (AO.call rfl _ rfl rfl pf_176 (c_strconv_Atoi _ h3 (cs 5 rfl (AR.nil [2, 4] rfl (AW.sr ?_)))))
  refine cs 1 rfl (AR.step rfl rfl rfl (AO.build rfl zp_25 spl_25 rfl ?_))
  obtain ⟨x3, h4, hf⟩ := bind1_inv hf
  refine AR.step rfl rfl rfl (AO.call rfl _ rfl rfl pf_177 (c_parser_literal _ h4 (AR.step_none rfl rfl (AO.store_box (i := 1) rfl rfl rfl ti_28 rfl rfl rfl rfl rfl (AR.nil [2] rfl (AW.ret ?_))))))
  cases hf
  exact ⟨rfl, _, ⟨_, _, rfl, ⟨_, _, 1, _, _, rfl, rfl, ti_28, rfl⟩, rfl⟩, _, (.cons _ (.cons _ (.cons_cons _ (List.nil_sublist _)))), h⟩
 ·
  replace hf := ite_F h2 hf
  refine AW.sr (cs 2 rfl (AR.nil [0, 2, 3, 10, 29] rfl (AW.cond rfl (fun h5 => ?_) (fun h5 => ?_))))
  ·
   replace hf := ite_T h5 hf
   refine AW.sr (cs 3 rfl (AR.step rfl rfl rfl (AO.load_box (i := 2) rfl rfl rfl ti_3 rfl rfl (cs 3 rfl ?_))))
   refine AR.step_none rfl rfl (AO.store_box (i := 2) rfl rfl rfl ti_3 rfl rfl rfl rfl rfl (AR.nil [2, 3] rfl (AW.sr (cs 1 rfl ?_))))
   refine AR.step rfl rfl rfl (AO.load_box (i := 0) rfl rfl rfl ti_9 rfl rfl (AR.step rfl rfl rfl (AO.build rfl zp_25 spl_25 rfl ?_)))
   obtain ⟨x4, h6, hf⟩ := bind1_inv hf
   refine AR.step rfl rfl rfl (AO.call rfl _ rfl rfl pf_177 (c_parser_literal _ h6 (AR.step_none rfl rfl (AO.store_box (i := 1) rfl rfl rfl ti_28 rfl rfl rfl rfl rfl (AR.nil [2] rfl (AW.ret ?_))))))
   cases hf
   exact ⟨rfl, _, ⟨_, _, rfl, ⟨_, _, 1, _, _, rfl, rfl, ti_28, rfl⟩, rfl⟩, _, (.cons _ (.cons _ (.cons_cons _ (List.nil_sublist _)))), h⟩
  ·
   replace hf := ite_F h5 hf
   refine AW.sr (cs 2 rfl (AR.nil [0, 2, 3, 42] rfl (AW.cond rfl (fun h7 => ?_) (fun h7 => ?_))))
   ·
    replace hf := ite_T h7 hf
    refine AW.sr (cs 3 rfl (AR.step rfl rfl rfl (AO.load_box (i := 2) rfl rfl rfl ti_3 rfl rfl (cs 3 rfl ?_))))
    refine AR.step_none rfl rfl (AO.store_box (i := 2) rfl rfl rfl ti_3 rfl rfl rfl rfl rfl (AR.nil [0, 2, 3] rfl (AW.sr (cs 2 rfl ?_))))
    refine AR.step rfl rfl rfl (AO.load_box (i := 0) rfl rfl rfl ti_9 rfl rfl ?_)
    rcases bindXS_inv hf with ⟨e2, y4, h8, hf⟩ | ⟨x5, y3, h8, hf⟩
    ·
     refine AR.step rfl rfl rfl (AO.call rfl _ rfl rfl pf_178 (AC.one 2 rfl (go_parser_reader_nameH _ _ _ h8 ⟨_, rfl, ?_⟩)))
     cases hf
     exact ⟨rfl, _, (.cons _ (.cons _ (.cons_cons _ (List.nil_sublist _)))), h⟩
    refine AR.step rfl rfl rfl (AO.call rfl _ rfl rfl pf_178 (AC.one 2 rfl (go_parser_reader_nameH _ _ _ h8 ⟨_, rfl, (AR.step_none rfl rfl (AO.store_box (i := 1) rfl rfl rfl ti_28 rfl rfl rfl rfl rfl (AR.nil [2] rfl (AW.ret ?_))))⟩)))
    cases hf
    exact ⟨rfl, _, ⟨_, _, rfl, ⟨_, _, 1, _, _, rfl, rfl, ti_28, rfl⟩, rfl⟩, _, (.cons _ (.cons _ (.cons_cons _ (List.nil_sublist _)))), h⟩
   ·
    replace hf := ite_F h7 hf
    refine AW.skip (AW.seq (AW.block (AW.sr ?_)))
    refine cs 1 rfl ?_
    obtain ⟨x6, y5, h9, hf⟩ := bind2_inv hf
    refine AR.step rfl rfl rfl (AO.call rfl _ rfl rfl pf_146 (AC.one 2 rfl (c_parser_reader_accept _ _ _ h9 ⟨_, rfl, (cs 1 rfl (AR.nil [0, 2, 55] rfl (AW.cond rfl (fun h10 => ?_) (fun h10 => ?_))))⟩)))
    ·
     replace hf := ite_T h10 hf
     refine AW.sr (cs 1 rfl ?_)
     rcases bindXS_inv hf with ⟨e3, y7, h11, hf⟩ | ⟨x7, y6, h11, hf⟩
     ·
      refine AR.step rfl rfl rfl (AO.call rfl _ rfl rfl pf_119 (AC.one 2 rfl (go_parser_reader_conditionH _ _ h11 ⟨_, rfl, ?_⟩)))
      cases hf
      exact ⟨rfl, _, (.cons _ (.cons _ (.cons_cons _ (List.nil_sublist _)))), h⟩
     refine AR.step rfl rfl rfl (AO.call rfl _ rfl rfl pf_119 (AC.one 2 rfl (go_parser_reader_conditionH _ _ h11 ⟨_, rfl, (AR.step rfl rfl rfl (AO.alloc_own rfl zp_28 (fun b6 => (AR.step_none rfl rfl (AO.store_box (i := 0) rfl rfl rfl ti_28 rfl rfl rfl rfl rfl (AR.nil [0, 2, 6] rfl ?_))))))⟩)))
     refine AW.sr (cs 1 rfl ?_)
     rcases bindXS_inv hf with ⟨e4, y9, h12, hf⟩ | ⟨_, y8, h12, hf⟩
     ·
      refine AR.step rfl rfl rfl (AO.call rfl _ rfl rfl pf_147 (AC.one 3 rfl (c_parser_reader_expect _ _ _ h12 ⟨_, rfl, ?_⟩)))
      cases hf
      exact ⟨rfl, _, (.cons _ (.cons _ (.cons _ (.cons_cons _ (List.nil_sublist _))))), h⟩
     refine AR.step rfl rfl rfl (AO.call rfl _ rfl rfl pf_147 (AC.one 3 rfl (c_parser_reader_expect _ _ _ h12 ⟨_, rfl, (AR.nil [2, 6] rfl (AW.sr (AR.step rfl rfl rfl (AO.load_box (i := 0) rfl rfl rfl ti_28 rfl rfl ?_))))⟩)))
     refine AR.step_none rfl rfl (AO.store_box (i := 2) rfl rfl rfl ti_28 rfl rfl rfl rfl rfl (AR.nil [2] rfl (AW.ret ?_)))
     cases hf
     exact ⟨rfl, _, ⟨_, _, rfl, ⟨_, _, 2, _, _, rfl, rfl, ti_28, rfl⟩, rfl⟩, _, (.cons _ (.cons _ (.cons _ (.cons_cons _ (List.nil_sublist _))))), h⟩
    ·
     replace hf := ite_F h10 hf
     refine AW.sr (cs 1 rfl ?_)
     obtain ⟨x8, y10, h13, hf⟩ := bind2_inv hf
     refine AR.step rfl rfl rfl (AO.call rfl _ rfl rfl pf_146 (AC.one 2 rfl (c_parser_reader_accept _ _ _ h13 ⟨_, rfl, (cs 1 rfl (AR.nil [0, 2, 63] rfl (AW.cond rfl (fun h14 => ?_) (fun h14 => ?_))))⟩)))
     ·
      replace hf := ite_T h14 hf
      refine AW.sr (cs 1 rfl ?_)
      rcases bindXS_inv hf with ⟨e5, y12, h15, hf⟩ | ⟨x9, y11, h15, hf⟩
      ·
       refine AR.step rfl rfl rfl (AO.call rfl _ rfl rfl pf_179 (AC.one 2 rfl (go_parser_reader_argsH _ _ _ h15 ⟨_, rfl, ?_⟩)))
       cases hf
       exact ⟨rfl, _, (.cons _ (.cons _ (.cons_cons _ (List.nil_sublist _)))), h⟩
      refine AR.step rfl rfl rfl (AO.call rfl _ rfl rfl pf_179 (AC.one 2 rfl (go_parser_reader_argsH _ _ _ h15 ⟨_, rfl, (AR.step rfl rfl rfl (AO.build rfl zp_28 spl_28 rfl (AR.step_none rfl rfl (AO.store_box (i := 1) rfl rfl rfl ti_28 rfl rfl rfl rfl rfl (AR.nil [2] rfl ?_)))))⟩)))
      refine AW.ret ?_
      cases hf
      exact ⟨rfl, _, ⟨_, _, rfl, ⟨_, _, 1, _, _, rfl, rfl, ti_28, rfl⟩, rfl⟩, _, (.cons _ (.cons _ (.cons_cons _ (List.nil_sublist _)))), h⟩
     ·
      replace hf := ite_F h14 hf
      refine AW.sr (cs 1 rfl ?_)
      obtain ⟨x10, y13, h16, hf⟩ := bind2_inv hf
      refine AR.step rfl rfl rfl (AO.call rfl _ rfl rfl pf_146 (AC.one 2 rfl (c_parser_reader_accept _ _ _ h16 ⟨_, rfl, (cs 1 rfl (AR.nil [0, 2, 69] rfl (AW.cond rfl (fun h17 => ?_) (fun h17 => ?_))))⟩)))
      ·
       replace hf := ite_T h17 hf
       refine AW.seq ?_
       exact none_no hf
      ·
       replace hf := ite_F h17 hf
       refine AW.skip (AW.sr (cs 1 rfl ?_))
       rcases bindXS_inv hf with ⟨e6, y15, h18, hf⟩ | ⟨_, y14, h18, hf⟩
       ·
        refine AR.step rfl rfl rfl (AO.call rfl _ rfl rfl pf_161 (AC.one 2 rfl (c_parser_reader_fail _ _ _ h18 ⟨_, rfl, ?_⟩)))
        cases hf
        exact ⟨rfl, _, (.cons _ (.cons _ (.cons_cons _ (List.nil_sublist _)))), h⟩
       refine AR.step rfl rfl rfl (AO.call rfl _ rfl rfl pf_161 (AC.one 2 rfl (c_parser_reader_fail _ _ _ h18 ⟨_, rfl, (AR.nil [2] rfl (AW.sr (AR.step rfl rfl rfl (AO.build rfl zp_28 spl_28 rfl ?_))))⟩)))
       refine AR.step_none rfl rfl (AO.store_box (i := 1) rfl rfl rfl ti_28 rfl rfl rfl rfl rfl (AR.nil [2] rfl (AW.ret ?_)))
       cases hf
       exact ⟨rfl, _, ⟨_, _, rfl, ⟨_, _, 1, _, _, rfl, rfl, ti_28, rfl⟩, rfl⟩, _, (.cons _ (.cons _ (.cons_cons _ (List.nil_sublist _)))), h⟩

theorem w_parser_reader_name (go_parser_reader_condition : ParserReader → Option (Exc ParserFailure ApiExpr × ParserReader)) (go_parser_reader_conditionH : ∀ (up1 : Nat) (urx1 : ParserReader) {urr1X : Exc ParserFailure ApiExpr} {urx1s : ParserReader}, go_parser_reader_condition urx1 = some (urr1X, urx1s) → ∀ {Q : AOut → List Res → Prop} (h : Q (x_parser_reader_condition urr1X) [.box up1 [.list (List.map ApiToken.cells urx1s.ts), .int .i64 urx1s.at_]]), AC Tryz.prog 119 [.val (.pointer (some ⟨up1, 0, none⟩))] [.box up1 [.list (List.map ApiToken.cells urx1.ts), .int .i64 urx1.at_]] Q) (go_parser_reader_operation : ParserReader → Int → Option (Exc ParserFailure ApiExpr × ParserReader)) (go_parser_reader_operationH : ∀ (up1 : Nat) (urx1 : ParserReader) (un1 : Int) {urr1X : Exc ParserFailure ApiExpr} {urx1s : ParserReader}, go_parser_reader_operation urx1 un1 = some (urr1X, urx1s) → ∀ {Q : AOut → List Res → Prop} (h : Q (x_parser_reader_operation urr1X) [.box up1 [.list (List.map ApiToken.cells urx1s.ts), .int .i64 urx1s.at_]]), AC Tryz.prog 145 [.val (.pointer (some ⟨up1, 0, none⟩)), .int .i64 un1] [.box up1 [.list (List.map ApiToken.cells urx1.ts), .int .i64 urx1.at_]] Q) (go_parser_reader_unary : ParserReader → Option (Exc ParserFailure ApiExpr × ParserReader)) (go_parser_reader_unaryH : ∀ (up1 : Nat) (urx1 : ParserReader) {urr1X : Exc ParserFailure ApiExpr} {urx1s : ParserReader}, go_parser_reader_unary urx1 = some (urr1X, urx1s) → ∀ {Q : AOut → List Res → Prop} (h : Q (x_parser_reader_unary urr1X) [.box up1 [.list (List.map ApiToken.cells urx1s.ts), .int .i64 urx1s.at_]]), AC Tryz.prog 157 [.val (.pointer (some ⟨up1, 0, none⟩))] [.box up1 [.list (List.map ApiToken.cells urx1.ts), .int .i64 urx1.at_]] Q) (go_parser_reader_chain : ParserReader → Option (Exc ParserFailure ApiExpr × ParserReader)) (go_parser_reader_chainH : ∀ (up1 : Nat) (urx1 : ParserReader) {urr1X : Exc ParserFailure ApiExpr} {urx1s : ParserReader}, go_parser_reader_chain urx1 = some (urr1X, urx1s) → ∀ {Q : AOut → List Res → Prop} (h : Q (x_parser_reader_chain urr1X) [.box up1 [.list (List.map ApiToken.cells urx1s.ts), .int .i64 urx1s.at_]]), AC Tryz.prog 167 [.val (.pointer (some ⟨up1, 0, none⟩))] [.box up1 [.list (List.map ApiToken.cells urx1.ts), .int .i64 urx1.at_]] Q) (go_parser_reader_atom : ParserReader → Option (Exc ParserFailure ApiExpr × ParserReader)) (go_parser_reader_atomH : ∀ (up1 : Nat) (urx1 : ParserReader) {urr1X : Exc ParserFailure ApiExpr} {urx1s : ParserReader}, go_parser_reader_atom urx1 = some (urr1X, urx1s) → ∀ {Q : AOut → List Res → Prop} (h : Q (x_parser_reader_atom urr1X) [.box up1 [.list (List.map ApiToken.cells urx1s.ts), .int .i64 urx1s.at_]]), AC Tryz.prog 173 [.val (.pointer (some ⟨up1, 0, none⟩))] [.box up1 [.list (List.map ApiToken.cells urx1.ts), .int .i64 urx1.at_]] Q) (go_parser_reader_name : ParserReader → Str → Option (Exc ParserFailure ApiExpr × ParserReader)) (go_parser_reader_nameH : ∀ (up1 : Nat) (urx1 : ParserReader) (us1 : Str) {urr1X : Exc ParserFailure ApiExpr} {urx1s : ParserReader}, go_parser_reader_name urx1 us1 = some (urr1X, urx1s) → ∀ {Q : AOut → List Res → Prop} (h : Q (x_parser_reader_name urr1X) [.box up1 [.list (List.map ApiToken.cells urx1s.ts), .int .i64 urx1s.at_]]), AC Tryz.prog 178 [.val (.pointer (some ⟨up1, 0, none⟩)), .str us1] [.box up1 [.list (List.map ApiToken.cells urx1.ts), .int .i64 urx1.at_]] Q) (go_parser_reader_args : ParserReader → Str → Option (Exc ParserFailure (List ApiExpr) × ParserReader)) (go_parser_reader_argsH : ∀ (up1 : Nat) (urx1 : ParserReader) (uend1 : Str) {urr1X : Exc ParserFailure (List ApiExpr)} {urx1s : ParserReader}, go_parser_reader_args urx1 uend1 = some (urr1X, urx1s) → ∀ {Q : AOut → List Res → Prop} (h : Q (x_parser_reader_args urr1X) [.box up1 [.list (List.map ApiToken.cells urx1s.ts), .int .i64 urx1s.at_]]), AC Tryz.prog 179 [.val (.pointer (some ⟨up1, 0, none⟩)), .str uend1] [.box up1 [.list (List.map ApiToken.cells urx1.ts), .int .i64 urx1.at_]] Q) (p1 : Nat) (rx1 : ParserReader) (s1 : Str) {rX : Exc ParserFailure ApiExpr} {rx1s : ParserReader} (hf : parser_reader_name_b go_parser_reader_condition go_parser_reader_operation go_parser_reader_unary go_parser_reader_chain go_parser_reader_atom go_parser_reader_name go_parser_reader_args rx1 s1 = some (rX, rx1s)) {Q : AOut → List Res → Prop} (h : Q (x_parser_reader_name rX) [.box p1 [.list (List.map ApiToken.cells rx1s.ts), .int .i64 rx1s.at_]]) : AC Tryz.prog 178 [.val (.pointer (some ⟨p1, 0, none⟩)), .str s1] [.box p1 [.list (List.map ApiToken.cells rx1.ts), .int .i64 rx1.at_]] Q := by
 unfold parser_reader_name_b at hf
 refine AC.of_body 26 [.cell 4 28] [0, 1] Tryz.func178 rfl rfl rfl rfl rfl (AW.sr (AR.step rfl rfl rfl (AO.alloc_own rfl zp_28 (fun b4 => (AR.nil [0, 1, 4] rfl ?_)))))
 refine AW.seq (AW.block (AW.sr (cs 3 rfl ?_)))
 refine AR.nil [0, 1, 4, 5] rfl (AW.cond rfl (fun h1 => ?_) (fun h1 => ?_))
 ·
  replace hf := ite_T h1 hf
  refine AW.sr (AR.step rfl rfl rfl (AO.build rfl zp_25 spl_25 rfl ?_))
  obtain ⟨x1, h2, hf⟩ := bind1_inv hf
  refine AR.step rfl rfl rfl (AO.call rfl _ rfl rfl pf_177 (c_parser_literal _ h2 (AR.step_none rfl rfl (AO.store_box (i := 0) rfl rfl rfl ti_28 rfl rfl rfl rfl rfl (AR.nil [4] rfl (AW.ret ?_))))))
  cases hf
  exact ⟨rfl, _, ⟨_, _, rfl, ⟨_, _, 0, _, _, rfl, rfl, ti_28, rfl⟩, rfl⟩, _, (.cons _ (.cons_cons _ (List.nil_sublist _))), h⟩
 ·
  replace hf := ite_F h1 hf
  refine AW.sr (cs 1 rfl ?_)
  obtain ⟨x2, h3, hf⟩ := bind1_inv hf
  refine AR.step rfl rfl rfl (AO.call rfl _ rfl rfl pf_153 (c_parser_word _ h3 (cs 1 rfl (AR.nil [0, 1, 4, 10] rfl (AW.cond rfl (fun h4 => ?_) (fun h4 => ?_))))))
  ·
   replace hf := ite_T h4 hf
   refine AW.sr (cs 2 rfl (AR.step rfl rfl rfl (AO.build rfl zp_25 spl_25 rfl ?_)))
   obtain ⟨x3, h5, hf⟩ := bind1_inv hf
   refine AR.step rfl rfl rfl (AO.call rfl _ rfl rfl pf_177 (c_parser_literal _ h5 (AR.step_none rfl rfl (AO.store_box (i := 0) rfl rfl rfl ti_28 rfl rfl rfl rfl rfl (AR.nil [4] rfl (AW.ret ?_))))))
   cases hf
   exact ⟨rfl, _, ⟨_, _, rfl, ⟨_, _, 0, _, _, rfl, rfl, ti_28, rfl⟩, rfl⟩, _, (.cons _ (.cons_cons _ (List.nil_sublist _))), h⟩
  ·
   replace hf := ite_F h4 hf
   refine AW.sr (cs 1 rfl ?_)
   obtain ⟨x4, y1, h6, hf⟩ := bind2_inv hf
   refine AR.step rfl rfl rfl (AO.call rfl _ rfl rfl pf_146 (AC.one 1 rfl (c_parser_reader_accept _ _ _ h6 ⟨_, rfl, (cs 1 rfl (AR.nil [0, 1, 4, 17] rfl (AW.cond rfl (fun h7 => ?_) (fun h7 => ?_))))⟩)))
   ·
    replace hf := ite_T h7 hf
    refine AW.sr (cs 2 rfl ?_)
    rcases bindXS_inv hf with ⟨e1, y3, h8, hf⟩ | ⟨x5, y2, h8, hf⟩
    ·
     refine AR.step rfl rfl rfl (AO.call rfl _ rfl rfl pf_179 (AC.one 1 rfl (go_parser_reader_argsH _ _ _ h8 ⟨_, rfl, ?_⟩)))
     cases hf
     exact ⟨rfl, _, (.cons _ (.cons_cons _ (List.nil_sublist _))), h⟩
    refine AR.step rfl rfl rfl (AO.call rfl _ rfl rfl pf_179 (AC.one 1 rfl (go_parser_reader_argsH _ _ _ h8 ⟨_, rfl, (AR.step rfl rfl rfl (AO.build rfl zp_28 spl_28 rfl (AR.step_none rfl rfl (AO.store_box (i := 0) rfl rfl rfl ti_28 rfl rfl rfl rfl rfl (AR.nil [4] rfl ?_)))))⟩)))
    refine AW.ret ?_
    cases hf
    exact ⟨rfl, _, ⟨_, _, rfl, ⟨_, _, 0, _, _, rfl, rfl, ti_28, rfl⟩, rfl⟩, _, (.cons _ (.cons_cons _ (List.nil_sublist _))), h⟩
   ·
    replace hf := ite_F h7 hf
    refine AW.skip (AW.sr (cs 1 rfl (AR.step rfl rfl rfl (AO.build rfl zp_28 spl_28 rfl ?_))))
    refine AR.step_none rfl rfl (AO.store_box (i := 0) rfl rfl rfl ti_28 rfl rfl rfl rfl rfl (AR.nil [4] rfl (AW.ret ?_)))
    cases hf
    exact ⟨rfl, _, ⟨_, _, rfl, ⟨_, _, 0, _, _, rfl, rfl, ti_28, rfl⟩, rfl⟩, _, (.cons _ (.cons_cons _ (List.nil_sublist _))), h⟩

theorem w_parser_reader_args (go_parser_reader_condition : ParserReader → Option (Exc ParserFailure ApiExpr × ParserReader)) (go_parser_reader_conditionH : ∀ (up1 : Nat) (urx1 : ParserReader) {urr1X : Exc ParserFailure ApiExpr} {urx1s : ParserReader}, go_parser_reader_condition urx1 = some (urr1X, urx1s) → ∀ {Q : AOut → List Res → Prop} (h : Q (x_parser_reader_condition urr1X) [.box up1 [.list (List.map ApiToken.cells urx1s.ts), .int .i64 urx1s.at_]]), AC Tryz.prog 119 [.val (.pointer (some ⟨up1, 0, none⟩))] [.box up1 [.list (List.map ApiToken.cells urx1.ts), .int .i64 urx1.at_]] Q) (go_parser_reader_operation : ParserReader → Int → Option (Exc ParserFailure ApiExpr × ParserReader)) (go_parser_reader_operationH : ∀ (up1 : Nat) (urx1 : ParserReader) (un1 : Int) {urr1X : Exc ParserFailure ApiExpr} {urx1s : ParserReader}, go_parser_reader_operation urx1 un1 = some (urr1X, urx1s) → ∀ {Q : AOut → List Res → Prop} (h : Q (x_parser_reader_operation urr1X) [.box up1 [.list (List.map ApiToken.cells urx1s.ts), .int .i64 urx1s.at_]]), AC Tryz.prog 145 [.val (.pointer (some ⟨up1, 0, none⟩)), .int .i64 un1] [.box up1 [.list (List.map ApiToken.cells urx1.ts), .int .i64 urx1.at_]] Q) (go_parser_reader_unary : ParserReader → Option (Exc ParserFailure ApiExpr × ParserReader)) (go_parser_reader_unaryH : ∀ (up1 : Nat) (urx1 : ParserReader) {urr1X : Exc ParserFailure ApiExpr} {urx1s : ParserReader}, go_parser_reader_unary urx1 = some (urr1X, urx1s) → ∀ {Q : AOut → List Res → Prop} (h : Q (x_parser_reader_unary urr1X) [.box up1 [.list (List.map ApiToken.cells urx1s.ts), .int .i64 urx1s.at_]]), AC Tryz.prog 157 [.val (.pointer (some ⟨up1, 0, none⟩))] [.box up1 [.list (List.map ApiToken.cells urx1.ts), .int .i64 urx1.at_]] Q) (go_parser_reader_chain : ParserReader → Option (Exc ParserFailure ApiExpr × ParserReader)) (go_parser_reader_chainH : ∀ (up1 : Nat) (urx1 : ParserReader) {urr1X : Exc ParserFailure ApiExpr} {urx1s : ParserReader}, go_parser_reader_chain urx1 = some (urr1X, urx1s) → ∀ {Q : AOut → List Res → Prop} (h : Q (x_parser_reader_chain urr1X) [.box up1 [.list (List.map ApiToken.cells urx1s.ts), .int .i64 urx1s.at_]]), AC Tryz.prog 167 [.val (.pointer (some ⟨up1, 0, none⟩))] [.box up1 [.list (List.map ApiToken.cells urx1.ts), .int .i64 urx1.at_]] Q) (go_parser_reader_atom : ParserReader → Option (Exc ParserFailure ApiExpr × ParserReader)) (go_parser_reader_atomH : ∀ (up1 : Nat) (urx1 : ParserReader) {urr1X : Exc ParserFailure ApiExpr} {urx1s : ParserReader}, go_parser_reader_atom urx1 = some (urr1X, urx1s) → ∀ {Q : AOut → List Res → Prop} (h : Q (x_parser_reader_atom urr1X) [.box up1 [.list (List.map ApiToken.cells urx1s.ts), .int .i64 urx1s.at_]]), AC Tryz.prog 173 [.val (.pointer (some ⟨up1, 0, none⟩))] [.box up1 [.list (List.map ApiToken.cells urx1.ts), .int .i64 urx1.at_]] Q) (go_parser_reader_name : ParserReader → Str → Option (Exc ParserFailure ApiExpr × ParserReader)) (go_parser_reader_nameH : ∀ (up1 : Nat) (urx1 : ParserReader) (us1 : Str) {urr1X : Exc ParserFailure ApiExpr} {urx1s : ParserReader}, go_parser_reader_name urx1 us1 = some (urr1X, urx1s) → ∀ {Q : AOut → List Res → Prop} (h : Q (x_parser_reader_name urr1X) [.box up1 [.list (List.map ApiToken.cells urx1s.ts), .int .i64 urx1s.at_]]), AC Tryz.prog 178 [.val (.pointer (some ⟨up1, 0, none⟩)), .str us1] [.box up1 [.list (List.map ApiToken.cells urx1.ts), .int .i64 urx1.at_]] Q) (go_parser_reader_args : ParserReader → Str → Option (Exc ParserFailure (List ApiExpr) × ParserReader)) (go_parser_reader_argsH : ∀ (up1 : Nat) (urx1 : ParserReader) (uend1 : Str) {urr1X : Exc ParserFailure (List ApiExpr)} {urx1s : ParserReader}, go_parser_reader_args urx1 uend1 = some (urr1X, urx1s) → ∀ {Q : AOut → List Res → Prop} (h : Q (x_parser_reader_args urr1X) [.box up1 [.list (List.map ApiToken.cells urx1s.ts), .int .i64 urx1s.at_]]), AC Tryz.prog 179 [.val (.pointer (some ⟨up1, 0, none⟩)), .str uend1] [.box up1 [.list (List.map ApiToken.cells urx1.ts), .int .i64 urx1.at_]] Q) (p1 : Nat) (rx1 : ParserReader) (end1 : Str) {rX : Exc ParserFailure (List ApiExpr)} {rx1s : ParserReader} (hf : parser_reader_args_b go_parser_reader_condition go_parser_reader_operation go_parser_reader_unary go_parser_reader_chain go_parser_reader_atom go_parser_reader_name go_parser_reader_args rx1 end1 = some (rX, rx1s)) {Q : AOut → List Res → Prop} (h : Q (x_parser_reader_args rX) [.box p1 [.list (List.map ApiToken.cells rx1s.ts), .int .i64 rx1s.at_]]) : AC Tryz.prog 179 [.val (.pointer (some ⟨p1, 0, none⟩)), .str end1] [.box p1 [.list (List.map ApiToken.cells rx1.ts), .int .i64 rx1.at_]] Q := by
 unfold parser_reader_args_b at hf
 refine AC.of_body 21 [.tmp 4] [0, 1] Tryz.func179 rfl rfl rfl rfl rfl (AW.sr (AR.step rfl rfl rfl (AO.nil_list rfl rfl (AR.nil [0, 1] rfl ?_))))
 refine AW.seq (AW.sr (cs 2 rfl ?_))
 obtain ⟨x1, y1, h1, hf⟩ := bind2_inv hf
 refine AR.step rfl rfl rfl (AO.call rfl _ rfl rfl pf_146 (AC.one 0 rfl (c_parser_reader_accept _ _ _ h1 ⟨_, rfl, (AR.nil [0, 1, 8] rfl (AW.cond rfl (fun h2 => ?_) (fun h2 => ?_)))⟩)))
 ·
  replace hf := ite_T h2 hf
  refine AW.sr (AR.step rfl rfl rfl (AO.nil_list rfl rfl (AR.nil [4] rfl (AW.ret ?_))))
  cases hf
  exact ⟨rfl, _, ⟨_, _, rfl, rfl, rfl⟩, _, (.cons_cons _ (List.nil_sublist _)), h⟩
 ·
  replace hf := ite_F h2 hf
  refine AW.skip (AW.sr (cs 1 rfl (AR.nil [0, 1, 5] rfl ?_)))
  refine AW.block (AW.row 10 28 (AW.settle [0, 1, 5] rfl (AW.loopF3 (fun out1 v1 y2 => [(0, .val (.pointer (some ⟨p1, 0, none⟩))), (1, .str end1), (5, .own v1 (ApiExpr.cellsL out1))]) (fun out1 v1 y2 => [.row v1 (ApiExpr.cellsL out1).length 10 28, .box p1 [.list (List.map ApiToken.cells y2.ts), .int .i64 y2.at_]]) (fun kk1 out1 v1 y2 => parser_reader_args_l1 go_parser_reader_condition end1 kk1 out1 y2 = some (rX, rx1s)) BIG [] (.slice none 0 0) y1 rfl rfl hf (fun _ _ _ hz => none_no hz) ?_)))
  intro kk1 out1 v1 y2 hf
  rw [parser_reader_args_l1] at hf
  refine AW.block (AW.sr (cs 2 rfl ?_))
  rcases bindXS_inv hf with ⟨e1, y4, h3, hf⟩ | ⟨x2, y3, h3, hf⟩
  ·
   refine AR.step rfl rfl rfl (AO.call rfl _ rfl rfl pf_119 (AC.one 1 rfl (go_parser_reader_conditionH _ _ h3 ⟨_, rfl, ?_⟩)))
   cases hf
   exact ⟨rfl, _, (.cons _ (.cons_cons _ (List.nil_sublist _))), h⟩
  refine AR.step rfl rfl rfl (AO.call rfl _ rfl rfl pf_119 (AC.one 1 rfl (go_parser_reader_conditionH _ _ h3 ⟨_, rfl, (AR.step rfl rfl rfl (AO.buildSliceF (ApiExpr.cellsL [x2]) rfl sf_26 rfl rfl rfl (by first | rfl | simp only [List.map, ApiExpr.cells_eq, ApiExpr.cellsL]) ?_))⟩)))
  obtain ⟨out2, h4, hf⟩ := bind1_inv hf
  refine AR.step rfl rfl rfl (AO.app_own (i := 0) (l := out1) (m := [x2]) h4 rfl rfl rfl rfl rfl rfl rfl sf_26 es_26 (ApiExpr.cellsL_eq _) (ApiExpr.cellsL_eq _) (ApiExpr.cellsL_eq _).symm (ApiExpr.cells_len) (ApiExpr.cells_one) (by decide) (fun v2 s1 hs1 => ?_))
  cases hs1
  refine cs 1 rfl (AR.nil [0, 1, 5] rfl (AW.sr (cs 1 rfl ?_)))
  obtain ⟨x3, y5, h5, hf⟩ := bind2_inv hf
  refine AR.step rfl rfl rfl (AO.call rfl _ rfl rfl pf_146 (AC.one 1 rfl (c_parser_reader_accept _ _ _ h5 ⟨_, rfl, (cs 1 rfl (AR.nil [0, 1, 5, 16] rfl (AW.cond rfl (fun h6 => ?_) (fun h6 => ?_))))⟩)))
  ·
   replace hf := ite_T h6 hf
   refine AW.sr (cs 2 rfl ?_)
   rcases bindXS_inv hf with ⟨e2, y7, h7, hf⟩ | ⟨_, y6, h7, hf⟩
   ·
    refine AR.step rfl rfl rfl (AO.call rfl _ rfl rfl pf_147 (AC.one 1 rfl (c_parser_reader_expect _ _ _ h7 ⟨_, rfl, ?_⟩)))
    cases hf
    exact ⟨rfl, _, (.cons _ (.cons_cons _ (List.nil_sublist _))), h⟩
   refine AR.step rfl rfl rfl (AO.call rfl _ rfl rfl pf_147 (AC.one 1 rfl (c_parser_reader_expect _ _ _ h7 ⟨_, rfl, (AR.nil [5] rfl (AW.sr (cs 2 rfl ?_)))⟩)))
   refine AR.nil [4] rfl (AW.ret ?_)
   cases hf
   exact ⟨rfl, _, ⟨_, _, rfl, rfl, rfl⟩, _, (.cons _ (.cons_cons _ (List.nil_sublist _))), h⟩
  ·
   replace hf := ite_F h6 hf
   refine AW.settle [0, 1, 5] rfl (AW.skip ?_)
   exact ⟨out2, v2, y5, rfl, rfl, rfl, hf⟩

theorem n_parser_reader_condition : ∀ k : Nat, (∀ (up1 : Nat) (urx1 : ParserReader) {urr1X : Exc ParserFailure ApiExpr} {urx1s : ParserReader}, parser_reader_condition_n k urx1 = some (urr1X, urx1s) → ∀ {Q : AOut → List Res → Prop} (h : Q (x_parser_reader_condition urr1X) [.box up1 [.list (List.map ApiToken.cells urx1s.ts), .int .i64 urx1s.at_]]), AC Tryz.prog 119 [.val (.pointer (some ⟨up1, 0, none⟩))] [.box up1 [.list (List.map ApiToken.cells urx1.ts), .int .i64 urx1.at_]] Q) ∧ (∀ (up1 : Nat) (urx1 : ParserReader) (un1 : Int) {urr1X : Exc ParserFailure ApiExpr} {urx1s : ParserReader}, parser_reader_operation_n k urx1 un1 = some (urr1X, urx1s) → ∀ {Q : AOut → List Res → Prop} (h : Q (x_parser_reader_operation urr1X) [.box up1 [.list (List.map ApiToken.cells urx1s.ts), .int .i64 urx1s.at_]]), AC Tryz.prog 145 [.val (.pointer (some ⟨up1, 0, none⟩)), .int .i64 un1] [.box up1 [.list (List.map ApiToken.cells urx1.ts), .int .i64 urx1.at_]] Q) ∧ (∀ (up1 : Nat) (urx1 : ParserReader) {urr1X : Exc ParserFailure ApiExpr} {urx1s : ParserReader}, parser_reader_unary_n k urx1 = some (urr1X, urx1s) → ∀ {Q : AOut → List Res → Prop} (h : Q (x_parser_reader_unary urr1X) [.box up1 [.list (List.map ApiToken.cells urx1s.ts), .int .i64 urx1s.at_]]), AC Tryz.prog 157 [.val (.pointer (some ⟨up1, 0, none⟩))] [.box up1 [.list (List.map ApiToken.cells urx1.ts), .int .i64 urx1.at_]] Q) ∧ (∀ (up1 : Nat) (urx1 : ParserReader) {urr1X : Exc ParserFailure ApiExpr} {urx1s : ParserReader}, parser_reader_chain_n k urx1 = some (urr1X, urx1s) → ∀ {Q : AOut → List Res → Prop} (h : Q (x_parser_reader_chain urr1X) [.box up1 [.list (List.map ApiToken.cells urx1s.ts), .int .i64 urx1s.at_]]), AC Tryz.prog 167 [.val (.pointer (some ⟨up1, 0, none⟩))] [.box up1 [.list (List.map ApiToken.cells urx1.ts), .int .i64 urx1.at_]] Q) ∧ (∀ (up1 : Nat) (urx1 : ParserReader) {urr1X : Exc ParserFailure ApiExpr} {urx1s : ParserReader}, parser_reader_atom_n k urx1 = some (urr1X, urx1s) → ∀ {Q : AOut → List Res → Prop} (h : Q (x_parser_reader_atom urr1X) [.box up1 [.list (List.map ApiToken.cells urx1s.ts), .int .i64 urx1s.at_]]), AC Tryz.prog 173 [.val (.pointer (some ⟨up1, 0, none⟩))] [.box up1 [.list (List.map ApiToken.cells urx1.ts), .int .i64 urx1.at_]] Q) ∧ (∀ (up1 : Nat) (urx1 : ParserReader) (us1 : Str) {urr1X : Exc ParserFailure ApiExpr} {urx1s : ParserReader}, parser_reader_name_n k urx1 us1 = some (urr1X, urx1s) → ∀ {Q : AOut → List Res → Prop} (h : Q (x_parser_reader_name urr1X) [.box up1 [.list (List.map ApiToken.cells urx1s.ts), .int .i64 urx1s.at_]]), AC Tryz.prog 178 [.val (.pointer (some ⟨up1, 0, none⟩)), .str us1] [.box up1 [.list (List.map ApiToken.cells urx1.ts), .int .i64 urx1.at_]] Q) ∧ (∀ (up1 : Nat) (urx1 : ParserReader) (uend1 : Str) {urr1X : Exc ParserFailure (List ApiExpr)} {urx1s : ParserReader}, parser_reader_args_n k urx1 uend1 = some (urr1X, urx1s) → ∀ {Q : AOut → List Res → Prop} (h : Q (x_parser_reader_args urr1X) [.box up1 [.list (List.map ApiToken.cells urx1s.ts), .int .i64 urx1s.at_]]), AC Tryz.prog 179 [.val (.pointer (some ⟨up1, 0, none⟩)), .str uend1] [.box up1 [.list (List.map ApiToken.cells urx1.ts), .int .i64 urx1.at_]] Q) := by
 intro k
 induction k with
 | zero => exact ⟨fun _ _ _ _ hz => by first | cases hz | (unfold parser_reader_condition_n at hz; cases hz), fun _ _ _ _ _ hz => by first | cases hz | (unfold parser_reader_operation_n at hz; cases hz), fun _ _ _ _ hz => by first | cases hz | (unfold parser_reader_unary_n at hz; cases hz), fun _ _ _ _ hz => by first | cases hz | (unfold parser_reader_chain_n at hz; cases hz), fun _ _ _ _ hz => by first | cases hz | (unfold parser_reader_atom_n at hz; cases hz), fun _ _ _ _ _ hz => by first | cases hz | (unfold parser_reader_name_n at hz; cases hz), fun _ _ _ _ _ hz => by first | cases hz | (unfold parser_reader_args_n at hz; cases hz)⟩
 | succ k ih => exact ⟨fun up1 urx1 urr1X urx1s hz  Q hq => w_parser_reader_condition (parser_reader_condition_n k) ih.1 (parser_reader_operation_n k) ih.2.1 (parser_reader_unary_n k) ih.2.2.1 (parser_reader_chain_n k) ih.2.2.2.1 (parser_reader_atom_n k) ih.2.2.2.2.1 (parser_reader_name_n k) ih.2.2.2.2.2.1 (parser_reader_args_n k) ih.2.2.2.2.2.2 up1 urx1 hz hq, fun up1 urx1 un1 urr1X urx1s hz  Q hq => w_parser_reader_operation (parser_reader_condition_n k) ih.1 (parser_reader_operation_n k) ih.2.1 (parser_reader_unary_n k) ih.2.2.1 (parser_reader_chain_n k) ih.2.2.2.1 (parser_reader_atom_n k) ih.2.2.2.2.1 (parser_reader_name_n k) ih.2.2.2.2.2.1 (parser_reader_args_n k) ih.2.2.2.2.2.2 up1 urx1 un1 hz hq, fun up1 urx1 urr1X urx1s hz  Q hq => w_parser_reader_unary (parser_reader_condition_n k) ih.1 (parser_reader_operation_n k) ih.2.1 (parser_reader_unary_n k) ih.2.2.1 (parser_reader_chain_n k) ih.2.2.2.1 (parser_reader_atom_n k) ih.2.2.2.2.1 (parser_reader_name_n k) ih.2.2.2.2.2.1 (parser_reader_args_n k) ih.2.2.2.2.2.2 up1 urx1 hz hq, fun up1 urx1 urr1X urx1s hz  Q hq => w_parser_reader_chain (parser_reader_condition_n k) ih.1 (parser_reader_operation_n k) ih.2.1 (parser_reader_unary_n k) ih.2.2.1 (parser_reader_chain_n k) ih.2.2.2.1 (parser_reader_atom_n k) ih.2.2.2.2.1 (parser_reader_name_n k) ih.2.2.2.2.2.1 (parser_reader_args_n k) ih.2.2.2.2.2.2 up1 urx1 hz hq, fun up1 urx1 urr1X urx1s hz  Q hq => w_parser_reader_atom (parser_reader_condition_n k) ih.1 (parser_reader_operation_n k) ih.2.1 (parser_reader_unary_n k) ih.2.2.1 (parser_reader_chain_n k) ih.2.2.2.1 (parser_reader_atom_n k) ih.2.2.2.2.1 (parser_reader_name_n k) ih.2.2.2.2.2.1 (parser_reader_args_n k) ih.2.2.2.2.2.2 up1 urx1 hz hq, fun up1 urx1 us1 urr1X urx1s hz  Q hq => w_parser_reader_name (parser_reader_condition_n k) ih.1 (parser_reader_operation_n k) ih.2.1 (parser_reader_unary_n k) ih.2.2.1 (parser_reader_chain_n k) ih.2.2.2.1 (parser_reader_atom_n k) ih.2.2.2.2.1 (parser_reader_name_n k) ih.2.2.2.2.2.1 (parser_reader_args_n k) ih.2.2.2.2.2.2 up1 urx1 us1 hz hq, fun up1 urx1 uend1 urr1X urx1s hz  Q hq => w_parser_reader_args (parser_reader_condition_n k) ih.1 (parser_reader_operation_n k) ih.2.1 (parser_reader_unary_n k) ih.2.2.1 (parser_reader_chain_n k) ih.2.2.2.1 (parser_reader_atom_n k) ih.2.2.2.2.1 (parser_reader_name_n k) ih.2.2.2.2.2.1 (parser_reader_args_n k) ih.2.2.2.2.2.2 up1 urx1 uend1 hz hq⟩
theorem c_parser_reader_condition (up1 : Nat) (urx1 : ParserReader) {urr1X : Exc ParserFailure ApiExpr} {urx1s : ParserReader} (hf : parser_reader_condition urx1 = some (urr1X, urx1s)) {Q : AOut → List Res → Prop} (h : Q (x_parser_reader_condition urr1X) [.box up1 [.list (List.map ApiToken.cells urx1s.ts), .int .i64 urx1s.at_]]) : AC Tryz.prog 119 [.val (.pointer (some ⟨up1, 0, none⟩))] [.box up1 [.list (List.map ApiToken.cells urx1.ts), .int .i64 urx1.at_]] Q :=
 ((n_parser_reader_condition BIG).1) up1 urx1 hf h
theorem c_parser_reader_operation (up1 : Nat) (urx1 : ParserReader) (un1 : Int) {urr1X : Exc ParserFailure ApiExpr} {urx1s : ParserReader} (hf : parser_reader_operation urx1 un1 = some (urr1X, urx1s)) {Q : AOut → List Res → Prop} (h : Q (x_parser_reader_operation urr1X) [.box up1 [.list (List.map ApiToken.cells urx1s.ts), .int .i64 urx1s.at_]]) : AC Tryz.prog 145 [.val (.pointer (some ⟨up1, 0, none⟩)), .int .i64 un1] [.box up1 [.list (List.map ApiToken.cells urx1.ts), .int .i64 urx1.at_]] Q :=
 ((n_parser_reader_condition BIG).2.1) up1 urx1 un1 hf h
theorem c_parser_reader_unary (up1 : Nat) (urx1 : ParserReader) {urr1X : Exc ParserFailure ApiExpr} {urx1s : ParserReader} (hf : parser_reader_unary urx1 = some (urr1X, urx1s)) {Q : AOut → List Res → Prop} (h : Q (x_parser_reader_unary urr1X) [.box up1 [.list (List.map ApiToken.cells urx1s.ts), .int .i64 urx1s.at_]]) : AC Tryz.prog 157 [.val (.pointer (some ⟨up1, 0, none⟩))] [.box up1 [.list (List.map ApiToken.cells urx1.ts), .int .i64 urx1.at_]] Q :=
 ((n_parser_reader_condition BIG).2.2.1) up1 urx1 hf h
theorem c_parser_reader_chain (up1 : Nat) (urx1 : ParserReader) {urr1X : Exc ParserFailure ApiExpr} {urx1s : ParserReader} (hf : parser_reader_chain urx1 = some (urr1X, urx1s)) {Q : AOut → List Res → Prop} (h : Q (x_parser_reader_chain urr1X) [.box up1 [.list (List.map ApiToken.cells urx1s.ts), .int .i64 urx1s.at_]]) : AC Tryz.prog 167 [.val (.pointer (some ⟨up1, 0, none⟩))] [.box up1 [.list (List.map ApiToken.cells urx1.ts), .int .i64 urx1.at_]] Q :=
 ((n_parser_reader_condition BIG).2.2.2.1) up1 urx1 hf h
theorem c_parser_reader_atom (up1 : Nat) (urx1 : ParserReader) {urr1X : Exc ParserFailure ApiExpr} {urx1s : ParserReader} (hf : parser_reader_atom urx1 = some (urr1X, urx1s)) {Q : AOut → List Res → Prop} (h : Q (x_parser_reader_atom urr1X) [.box up1 [.list (List.map ApiToken.cells urx1s.ts), .int .i64 urx1s.at_]]) : AC Tryz.prog 173 [.val (.pointer (some ⟨up1, 0, none⟩))] [.box up1 [.list (List.map ApiToken.cells urx1.ts), .int .i64 urx1.at_]] Q :=
 ((n_parser_reader_condition BIG).2.2.2.2.1) up1 urx1 hf h
theorem c_parser_reader_name (up1 : Nat) (urx1 : ParserReader) (us1 : Str) {urr1X : Exc ParserFailure ApiExpr} {urx1s : ParserReader} (hf : parser_reader_name urx1 us1 = some (urr1X, urx1s)) {Q : AOut → List Res → Prop} (h : Q (x_parser_reader_name urr1X) [.box up1 [.list (List.map ApiToken.cells urx1s.ts), .int .i64 urx1s.at_]]) : AC Tryz.prog 178 [.val (.pointer (some ⟨up1, 0, none⟩)), .str us1] [.box up1 [.list (List.map ApiToken.cells urx1.ts), .int .i64 urx1.at_]] Q :=
 ((n_parser_reader_condition BIG).2.2.2.2.2.1) up1 urx1 us1 hf h
theorem c_parser_reader_args (up1 : Nat) (urx1 : ParserReader) (uend1 : Str) {urr1X : Exc ParserFailure (List ApiExpr)} {urx1s : ParserReader} (hf : parser_reader_args urx1 uend1 = some (urr1X, urx1s)) {Q : AOut → List Res → Prop} (h : Q (x_parser_reader_args urr1X) [.box up1 [.list (List.map ApiToken.cells urx1s.ts), .int .i64 urx1s.at_]]) : AC Tryz.prog 179 [.val (.pointer (some ⟨up1, 0, none⟩)), .str uend1] [.box up1 [.list (List.map ApiToken.cells urx1.ts), .int .i64 urx1.at_]] Q :=
 ((n_parser_reader_condition BIG).2.2.2.2.2.2) up1 urx1 uend1 hf h

theorem c_parser_read (ts1 : List ApiToken) {r0 : ApiExpr} {r1 r2 : Int} (hf : parser_read ts1 = some (r0, r1, r2)) {τ : List Res} {Q : AOut → List Res → Prop} (h : Q (.ret (.tuple [.agg [.int .i64 r0.kind, .str r0.name, .int .i64 r0.value.kind, .bool r0.value.bool_, .int .i64 r0.value.int_, .str r0.value.str_, .list (ApiValue.cellsL r0.value.list_), .list (List.map strC r0.value.keys), .list (ApiExpr.cellsL r0.args), .list (List.map strC r0.keys)], .int .i64 r1, .int .i64 r2])) τ) : AC Tryz.prog 86 [.list (List.map ApiToken.cells ts1)] τ Q := by
 unfold parser_read at hf
 refine AC.none (AC.of_body_rec 17 [.cell 2 28, .cell 3 3, .cell 4 33] [0] [0, 1, 2] Tryz.func86 rfl rfl rfl rfl rfl Tryz.func118 rfl rfl rfl rfl rfl rfl rfl pf_118 (AW.sr (AR.step rfl rfl rfl (AO.alloc_own rfl zp_28 (fun b2 => ?_)))))
 refine AR.step rfl rfl rfl (AO.alloc_own rfl zp_3 (fun b3 => (AR.step rfl rfl rfl (AO.alloc_own rfl zp_33 (fun b4 => (AR.nil [0, 2, 3, 4] rfl (AW.sr ?_)))))))
 refine cs 1 rfl (AR.step rfl rfl rfl (AO.build rfl zp_131 spl_131 rfl (AR.step rfl rfl rfl (AO.box_own rfl rfl (fun b8 => (cs 1 rfl ?_))))))
 refine AR.nil [2, 3, 4, 5] rfl (AW.sr (cs 1 rfl (AR.defer (vs := [.pointer (some ⟨b2, 0, none⟩), .pointer (some ⟨b3, 0, none⟩), .pointer (some ⟨b4, 0, none⟩)]) rfl rfl rfl rfl rfl rfl ?_)))
 refine AR.nil [2, 3, 4, 5] rfl (AW.sr (cs 1 rfl ?_))
 rcases bindXS_inv hf with ⟨f1, s1, h1, hf⟩ | ⟨e1, s1, h1, hf⟩
 ·
  refine AR.step rfl rfl rfl (AO.call rfl _ rfl rfl pf_119 (AC.one 0 rfl (c_parser_reader_condition _ _ h1 ⟨_, rfl, ?_⟩)))
  cases hf
  refine ⟨[.pointer (some ⟨b2, 0, none⟩), .pointer (some ⟨b3, 0, none⟩), .pointer (some ⟨b4, 0, none⟩)], _, rfl, rfl, rfl, (AR.step rfl rfl rfl (AO.tassert rfl rfl taY_133 (cs 3 rfl (AR.step rfl rfl rfl (AO.alloc_own rfl zp_133 (fun b5 => ?_))))))⟩
  refine AR.step_none rfl rfl (AO.store_box (i := 0) rfl rfl rfl ti_133 rfl rfl rfl rfl rfl (cs 1 rfl (AR.nil [0, 1, 2, 3, 4] rfl (AW.sr ?_))))
  refine cs 1 rfl (AR.nil [0, 1, 2, 3, 10] rfl (AW.cond rfl (fun _ => ?_) (fun hh => by cases hh)))
  refine AW.drawP 1 5 7 [_] [_, _, _, _] mixed (by kernel_rfl) (by kernel_rfl) (by kernel_rfl) rfl rfl rfl (List.Perm.refl _) ?_
  refine Ev.cons rfl rfl rfl (AO.build rfl zp_28 spl_28 rfl ⟨rfl, rfl⟩) (Ev.nil ?_)
  show Ev _ _ _ _ _ _ _
  refine Ev.cs FX_ok 1 rfl (Ev.cons rfl rfl rfl (AO.load_box (i := 0) rfl rfl rfl ti_3 rfl rfl ⟨rfl, rfl⟩) (Ev.cs FX_ok 1 rfl (Ev.cons rfl rfl rfl (AO.load_box (i := 0) rfl rfl rfl ti_33 rfl rfl ⟨rfl, rfl⟩) ?_)))
  refine Ev.nil (TF.step_none rfl rfl (AO.store_box (i := 3) rfl rfl rfl ti_28 rfl rfl rfl rfl rfl (TF.step_none rfl rfl (AO.store_box (i := 2) rfl rfl rfl ti_3 rfl rfl rfl rfl rfl (TF.nil ?_)))))
  show AR _ _ _ _ _ _ _ _
  refine AR.step_none rfl rfl (AO.store_box (i := 2) rfl rfl rfl ti_33 rfl rfl rfl rfl rfl (AR.nil [] rfl ?_))
  exact ⟨rfl, _, ⟨_, _, rfl, ⟨_, _, 4, _, _, rfl, rfl, ti_28, rfl⟩, ⟨_, _, rfl, ⟨_, _, 3, _, _, rfl, rfl, ti_3, rfl⟩, ⟨_, _, rfl, ⟨_, _, 2, _, _, rfl, rfl, ti_33, rfl⟩, rfl⟩⟩⟩, [], List.nil_sublist _, h⟩
 ·
  refine AR.step rfl rfl rfl (AO.call rfl _ rfl rfl pf_119 (AC.one 0 rfl (c_parser_reader_condition _ _ h1 ⟨_, rfl, ?_⟩)))
  cases hf
  refine AR.step_none rfl rfl (AO.store_box (i := 3) rfl rfl rfl ti_28 rfl rfl rfl rfl rfl (AR.nil [2, 3, 4, 5] rfl (AW.seq (AW.drawG 1 5 6 3 mixed (by kernel_rfl) (by kernel_rfl) (by kernel_rfl) rfl rfl rfl rfl ?_))))
  refine Ev.cons rfl rfl rfl (AO.load_box (i := 3) rfl rfl rfl ti_28 rfl rfl ⟨rfl, rfl⟩) (Ev.nil ?_)
  show Ev _ _ _ _ _ _ _
  refine Ev.cs FX_ok 3 rfl (Ev.cons rfl rfl rfl (AO.load_box (i := 0) rfl rfl rfl ti_3 rfl rfl ⟨rfl, rfl⟩) (Ev.nil (TF.step_none rfl rfl (AO.store_box (i := 0) rfl rfl rfl ti_28 rfl rfl rfl rfl rfl ?_))))
  refine TF.nil ?_
  show AR _ _ _ _ _ _ _ _
  refine AR.step_none rfl rfl (AO.store_box (i := 2) rfl rfl rfl ti_3 rfl rfl rfl rfl rfl (AR.step_none rfl rfl (AO.store_box (i := 1) rfl rfl rfl ti_33 rfl rfl rfl rfl rfl (AR.nil [2, 3, 4] rfl (AW.ret ?_)))))
  refine ⟨[.pointer (some ⟨b2, 0, none⟩), .pointer (some ⟨b3, 0, none⟩), .pointer (some ⟨b4, 0, none⟩)], _, rfl, rfl, rfl, (AR.step rfl rfl rfl (AO.tassertN (p := .agg [.int .i64 0, .int .i64 0]) rfl rfl taN_133 (fun _ _ => by simp only [Rep]; exact ⟨[.int .i64 0, .int .i64 0], rfl, RepL.cons (by simp [Rep]) (RepL.cons (by simp [Rep]) RepL.nil)⟩) ?_))⟩
  refine cs 3 rfl (AR.step rfl rfl rfl (AO.alloc_own rfl zp_133 (fun b5 => (AR.step_none rfl rfl (AO.store_box (i := 0) rfl rfl rfl ti_133 rfl rfl rfl rfl rfl (cs 1 rfl ?_))))))
  refine AR.nil [4] rfl (AW.sr (cs 1 rfl (AR.nil [10] rfl ?_)))
  refine AW.cond rfl (fun hh => by cases hh) (fun _ => ?_)
  refine AW.skip ?_
  exact ⟨rfl, _, ⟨_, _, rfl, ⟨_, _, 4, _, _, rfl, rfl, ti_28, rfl⟩, ⟨_, _, rfl, ⟨_, _, 3, _, _, rfl, rfl, ti_3, rfl⟩, ⟨_, _, rfl, ⟨_, _, 2, _, _, rfl, rfl, ti_33, rfl⟩, rfl⟩⟩⟩, [], List.nil_sublist _, h⟩

theorem w_parser_Count (go_parser_Count : ApiExpr → Option Int) (go_parser_CountH : ∀ (ue1 : ApiExpr) {urr1x0 : Int}, go_parser_Count ue1 = some urr1x0 → ∀ {τ : List Res} {Q : AOut → List Res → Prop} (h : Q (.ret (.int .i64 urr1x0)) τ), AC Tryz.prog 34 [.agg [.int .i64 ue1.kind, .str ue1.name, .int .i64 ue1.value.kind, .bool ue1.value.bool_, .int .i64 ue1.value.int_, .str ue1.value.str_, .list (ApiValue.cellsL ue1.value.list_), .list (List.map strC ue1.value.keys), .list (ApiExpr.cellsL ue1.args), .list (List.map strC ue1.keys)]] τ Q) (e1 : ApiExpr) {r0 : Int} (hf : parser_Count_b go_parser_Count e1 = some r0) {τ : List Res} {Q : AOut → List Res → Prop} (h : Q (.ret (.int .i64 r0)) τ) : AC Tryz.prog 34 [.agg [.int .i64 e1.kind, .str e1.name, .int .i64 e1.value.kind, .bool e1.value.bool_, .int .i64 e1.value.int_, .str e1.value.str_, .list (ApiValue.cellsL e1.value.list_), .list (List.map strC e1.value.keys), .list (ApiExpr.cellsL e1.args), .list (List.map strC e1.keys)]] τ Q := by
 unfold parser_Count_b at hf
 refine AC.none (AC.of_body 19 [.tmp 2] [0] Tryz.func34 rfl rfl rfl rfl rfl (AW.sr (AR.step rfl rfl rfl (AO.box_ref rfl rfl rfl ?_))))
 refine cs 1 rfl (AR.nil [1] rfl (AW.sr (cs 1 rfl ?_)))
 refine AR.nil [1, 3] rfl (AW.seq (AW.sr (cs 2 rfl ?_)))
 refine AR.step rfl rfl rfl (AO.len_list (l := e1.args) rfl rfl rfl rfl es_26 rfl (ApiExpr.cellsL_eq _) (cs 1 rfl (AR.nil [3, 7, 8, 9] rfl (AW.block ?_))))
 refine AW.settle [3, 7, 8, 9] rfl (AW.loopF2 (fun n1 x1 => [(3, .int .i64 n1), (7, .list (ApiExpr.cellsL e1.args)), (8, .int .i64 (e1.args.length : Int)), (9, .int .i64 x1)]) (fun n1 x1 => []) (fun kk1 n1 x1 => parser_Count_l1 go_parser_Count e1 kk1 n1 x1 = some r0) BIG 1 0 rfl rfl hf (fun _ _ hz => none_no hz) ?_)
 intro kk1 n1 x1 hf
 rw [parser_Count_l1] at hf
 refine AW.sr (cs 1 rfl (AR.nil [3, 7, 8, 9, 10] rfl (AW.seq ?_)))
 refine AW.cond rfl (fun h1 => ?_) (fun h1 => ?_)
 ·
  replace hf := ite_T h1 hf
  refine AW.skip (AW.seq (AW.block (AW.sr ?_)))
  obtain ⟨e2, h2, hf⟩ := bind1_inv hf
  refine AR.step rfl rfl rfl (AO.idx_list h2 rfl rfl (ApiExpr.cellsL_eq _) rfl es_26 (ApiExpr.cells_eq _) rfl (cs 1 rfl (AR.step rfl rfl rfl (AO.alloc_own rfl zp_28 (fun b5 => (AR.step_none rfl rfl (AO.store_box (i := 0) rfl rfl rfl ti_28 rfl rfl rfl rfl rfl ?_)))))))
  refine AR.nil [3, 5, 7, 8, 9] rfl (AW.region (cs 1 rfl (AR.step rfl rfl rfl (AO.load_box (i := 0) rfl rfl rfl ti_28 rfl rfl ?_))))
  obtain ⟨x2, h3, hf⟩ := bind1_inv hf
  refine AR.step rfl rfl rfl (AO.call rfl _ rfl rfl pf_34 (go_parser_CountH _ h3 (cs 2 rfl (AR.nil [3, 7, 8, 9] rfl (AW.region ?_)))))
  refine cs 2 rfl (AR.drop1 (AR.nil [3, 7, 8, 9] rfl ?_))
  exact ⟨(w64 (n1 + x2)), (w64 (x1 + 1)), rfl, rfl, rfl, hf⟩
 ·
  replace hf := ite_F h1 hf
  refine AW.exit (AW.sr (cs 2 rfl (AR.nil [2] rfl ?_)))
  refine AW.ret ?_
  cases hf
  exact ⟨rfl, _, ⟨_, _, rfl, rfl, rfl⟩, [], List.nil_sublist _, h⟩

theorem n_parser_Count : ∀ k : Nat, (∀ (ue1 : ApiExpr) {urr1x0 : Int}, parser_Count_n k ue1 = some urr1x0 → ∀ {τ : List Res} {Q : AOut → List Res → Prop} (h : Q (.ret (.int .i64 urr1x0)) τ), AC Tryz.prog 34 [.agg [.int .i64 ue1.kind, .str ue1.name, .int .i64 ue1.value.kind, .bool ue1.value.bool_, .int .i64 ue1.value.int_, .str ue1.value.str_, .list (ApiValue.cellsL ue1.value.list_), .list (List.map strC ue1.value.keys), .list (ApiExpr.cellsL ue1.args), .list (List.map strC ue1.keys)]] τ Q) := by
 intro k
 induction k with
 | zero => exact fun _ _ hz => by first | cases hz | (unfold parser_Count_n at hz; cases hz)
 | succ k ih => exact fun ue1 urr1x0 hz τ Q hq => w_parser_Count (parser_Count_n k) ih ue1 hz hq
theorem c_parser_Count (ue1 : ApiExpr) {urr1x0 : Int} (hf : parser_Count ue1 = some urr1x0) {τ : List Res} {Q : AOut → List Res → Prop} (h : Q (.ret (.int .i64 urr1x0)) τ) : AC Tryz.prog 34 [.agg [.int .i64 ue1.kind, .str ue1.name, .int .i64 ue1.value.kind, .bool ue1.value.bool_, .int .i64 ue1.value.int_, .str ue1.value.str_, .list (ApiValue.cellsL ue1.value.list_), .list (List.map strC ue1.value.keys), .list (ApiExpr.cellsL ue1.args), .list (List.map strC ue1.keys)]] τ Q :=
 ((n_parser_Count BIG)) ue1 hf h

theorem c_parser_zero  (v1 : ApiValue) {r0 : Bool} (hf : parser_zero v1 = some r0) {τ : List Res} {Q : AOut → List Res → Prop} (h : Q (.ret (.bool r0)) τ) : AC Tryz.prog 104 [.agg [.int .i64 v1.kind, .bool v1.bool_, .int .i64 v1.int_, .str v1.str_, .list (ApiValue.cellsL v1.list_), .list (List.map strC v1.keys)]] τ Q := by
 unfold parser_zero at hf
 refine AC.none (AC.of_body 33 [.tmp 2] [0] Tryz.func104 rfl rfl rfl rfl rfl (AW.sr (AR.step rfl rfl rfl (AO.box_ref rfl rfl rfl ?_))))
 refine cs 1 rfl (AR.nil [1] rfl (AW.sr (cs 4 rfl ?_)))
 refine AR.and 4 6 10 [1] (x := (!v1.bool_)) rfl rfl (fun h1 => ?_) (fun h1 => ?_) ?_
 ·
  refine AR.is 6 h1 rfl (cs 4 rfl (AR.nil [10, 1] rfl ?_))
  exact ⟨rfl, rfl, rfl, rfl⟩
 ·
  refine AR.is 6 h1 rfl (cs 4 rfl (AR.nil [10, 1] rfl ?_))
  exact ⟨rfl, rfl, rfl, rfl⟩
 refine cs 1 rfl (AR.and 4 11 15 [1] (x := (v1.int_ == 0)) rfl rfl (fun h2 => ?_) (fun h2 => ?_) ?_)
 ·
  refine AR.is 11 h2 rfl (cs 4 rfl (AR.nil [15, 1] rfl ?_))
  exact ⟨rfl, rfl, rfl, rfl⟩
 ·
  refine AR.is 11 h2 rfl (cs 4 rfl (AR.nil [15, 1] rfl ?_))
  exact ⟨rfl, rfl, rfl, rfl⟩
 refine cs 1 rfl (AR.and 4 16 20 [1] (x := (v1.str_ == ([] : Str))) rfl rfl (fun h3 => ?_) (fun h3 => ?_) ?_)
 ·
  refine AR.is 16 h3 rfl (cs 4 rfl (AR.nil [20, 1] rfl ?_))
  exact ⟨rfl, rfl, rfl, rfl⟩
 ·
  refine AR.is 16 h3 rfl (cs 4 rfl (AR.nil [20, 1] rfl ?_))
  exact ⟨rfl, rfl, rfl, rfl⟩
 refine cs 1 rfl (AR.and 5 21 26 [1] (x := ((v1.list_.length : Int) == 0)) rfl rfl (fun h4 => ?_) (fun h4 => ?_) ?_)
 ·
  refine AR.is 21 h4 rfl (cs 2 rfl (AR.go rfl rfl rfl rfl rfl rfl (AO.len_list (l := v1.list_) rfl rfl rfl rfl es_22 rfl (ApiValue.cellsL_eq _) (cs 2 rfl ?_))))
  refine AR.nil [26, 1] rfl ?_
  exact ⟨rfl, rfl, rfl, rfl⟩
 ·
  refine AR.is 21 h4 rfl (cs 5 rfl (AR.nil [26, 1] rfl ?_))
  exact ⟨rfl, rfl, rfl, rfl⟩
 refine cs 1 rfl (AR.and 5 27 32 [] (x := ((v1.keys.length : Int) == 0)) rfl rfl (fun h5 => ?_) (fun h5 => ?_) ?_)
 ·
  refine AR.is 27 h5 rfl (cs 2 rfl (AR.go rfl rfl rfl rfl rfl rfl (AO.len_list (l := v1.keys) rfl rfl rfl rfl es_23 rfl rfl (cs 2 rfl ?_))))
  refine AR.nil [32] rfl ?_
  exact ⟨rfl, rfl, rfl, rfl⟩
 ·
  refine AR.is 27 h5 rfl (cs 5 rfl (AR.nil [32] rfl ?_))
  exact ⟨rfl, rfl, rfl, rfl⟩
 refine cs 1 rfl (AR.nil [2] rfl (AW.ret ?_))
 cases hf
 exact ⟨rfl, _, ⟨_, _, rfl, rfl, rfl⟩, [], List.nil_sublist _, h⟩

theorem c_parser_plain  (s1 : Str) {r0 : Bool} (hf : parser_plain s1 = some r0) {τ : List Res} {Q : AOut → List Res → Prop} (h : Q (.ret (.bool r0)) τ) : AC Tryz.prog 130 [.str s1] τ Q := by
 unfold parser_plain at hf
 refine AC.none (AC.of_body 10 [.tmp 2] [0] Tryz.func130 rfl rfl rfl rfl rfl (AW.sr (cs 1 rfl ?_)))
 refine AR.nil [0] rfl (AW.sr (cs 1 rfl ?_))
 obtain ⟨x1, h1, hf⟩ := bind1_inv hf
 refine AR.step rfl rfl rfl (AO.call rfl _ rfl rfl pf_152 (c_parser_name _ h1 (cs 1 rfl ?_)))
 replace hf := (bind1_ret _).trans hf
 obtain ⟨b1, h3, hf⟩ := bind1_inv hf
 refine AR.join1 4 5 9 true [] b1 rfl rfl (fun h2 => ?_) (fun h2 => ?_) ?_
 ·
  replace h3 := ite_T h2 h3
  refine AR.is 5 h2 rfl (cs 1 rfl ?_)
  obtain ⟨x2, h4, h3⟩ := bind1_inv h3
  refine AR.go rfl rfl rfl rfl rfl rfl (AO.call rfl _ rfl rfl pf_153 (c_parser_word _ h4 (cs 1 rfl ?_)))
  obtain rfl := Option.some.inj h3
  refine cs 1 rfl (AR.nil [9] rfl ?_)
  exact ⟨rfl, rfl, rfl, rfl⟩
 ·
  replace h3 := ite_F h2 h3
  refine AR.is 5 h2 rfl ?_
  obtain rfl := Option.some.inj h3
  refine cs 4 rfl (AR.nil [9] rfl ?_)
  exact ⟨rfl, rfl, rfl, rfl⟩
 refine cs 1 rfl (AR.nil [2] rfl (AW.ret ?_))
 cases hf
 exact ⟨rfl, _, ⟨_, _, rfl, rfl, rfl⟩, [], List.nil_sublist _, h⟩

theorem c_parser_named  (e1 : ApiExpr) {r0 : Bool} (hf : parser_named e1 = some r0) {τ : List Res} {Q : AOut → List Res → Prop} (h : Q (.ret (.bool r0)) τ) : AC Tryz.prog 105 [.agg [.int .i64 e1.kind, .str e1.name, .int .i64 e1.value.kind, .bool e1.value.bool_, .int .i64 e1.value.int_, .str e1.value.str_, .list (ApiValue.cellsL e1.value.list_), .list (List.map strC e1.value.keys), .list (ApiExpr.cellsL e1.args), .list (List.map strC e1.keys)]] τ Q := by
 unfold parser_named at hf
 refine AC.none (AC.of_body 31 [.tmp 2] [0] Tryz.func105 rfl rfl rfl rfl rfl (AW.sr (AR.step rfl rfl rfl (AO.box_ref rfl rfl rfl ?_))))
 refine cs 1 rfl (AR.nil [1] rfl (AW.seq (AW.sr ?_)))
 refine cs 2 rfl (AR.nil [1, 4] rfl (AW.block (AW.seq ?_)))
 refine AW.sr (cs 2 rfl (AR.nil [1, 4, 5] rfl (AW.cond rfl (fun h1 => ?_) (fun h1 => ?_))))
 ·
  replace hf := ite_T h1 hf
  refine AW.skip (AW.cond rfl (fun h2 => ?_) (fun h2 => ?_))
  ·
   refine AW.sr (cs 2 rfl ?_)
   replace hf := (bind1_ret _).trans hf
   obtain ⟨x1, h3, hf⟩ := bind1_inv hf
   refine AR.step rfl rfl rfl (AO.call rfl _ rfl rfl pf_130 (c_parser_plain _ h3 (cs 1 rfl (AR.nil [2] rfl (AW.ret ?_)))))
   cases hf
   exact ⟨rfl, _, ⟨_, _, rfl, rfl, rfl⟩, [], List.nil_sublist _, h⟩
  ·
   cases h1.symm.trans h2
 ·
  replace hf := ite_F h1 hf
  refine AW.sr (cs 2 rfl (AR.nil [1, 4, 5] rfl (AW.cond rfl (fun h4 => ?_) (fun h4 => ?_))))
  ·
   replace hf := ite_T h4 hf
   refine AW.skip (AW.cond rfl (fun h5 => ?_) (fun h5 => ?_))
   ·
    refine AW.sr (cs 2 rfl ?_)
    replace hf := (bind1_ret _).trans hf
    obtain ⟨x2, h6, hf⟩ := bind1_inv hf
    refine AR.step rfl rfl rfl (AO.call rfl _ rfl rfl pf_130 (c_parser_plain _ h6 (cs 1 rfl (AR.nil [2] rfl (AW.ret ?_)))))
    cases hf
    exact ⟨rfl, _, ⟨_, _, rfl, rfl, rfl⟩, [], List.nil_sublist _, h⟩
   ·
    cases h4.symm.trans h5
  ·
   replace hf := ite_F h4 hf
   refine AW.region (cs 2 rfl (AR.nil [1, 4, 5] rfl (AW.cond rfl (fun h7 => ?_) (fun h7 => ?_))))
   ·
    replace hf := ite_T h7 hf
    refine AW.sr (cs 2 rfl ?_)
    replace hf := (bind1_ret _).trans hf
    obtain ⟨x3, h8, hf⟩ := bind1_inv hf
    refine AR.step rfl rfl rfl (AO.call rfl _ rfl rfl pf_130 (c_parser_plain _ h8 (cs 1 rfl (AR.nil [2] rfl (AW.ret ?_)))))
    cases hf
    exact ⟨rfl, _, ⟨_, _, rfl, rfl, rfl⟩, [], List.nil_sublist _, h⟩
   ·
    replace hf := ite_F h7 hf
    refine AW.sr (cs 2 rfl (AR.nil [1, 4, 12] rfl (AW.cond rfl (fun h9 => ?_) (fun h9 => ?_))))
    ·
     replace hf := ite_T h9 hf
     refine AW.sr (cs 4 rfl (AR.or 4 17 21 [] (x := (e1.name == ([45] : Str))) rfl rfl (fun h10 => ?_) (fun h10 => ?_) ?_))
     ·
      refine AR.is 17 h10 rfl (cs 4 rfl (AR.nil [21] rfl ?_))
      exact ⟨rfl, rfl, rfl, rfl⟩
     ·
      refine AR.is 17 h10 rfl (cs 4 rfl (AR.nil [21] rfl ?_))
      exact ⟨rfl, rfl, rfl, rfl⟩
     refine cs 1 rfl (AR.nil [2] rfl (AW.ret ?_))
     cases hf
     exact ⟨rfl, _, ⟨_, _, rfl, rfl, rfl⟩, [], List.nil_sublist _, h⟩
    ·
     replace hf := ite_F h9 hf
     refine AW.sr (cs 2 rfl (AR.nil [1, 22] rfl (AW.cond rfl (fun h11 => ?_) (fun h11 => ?_))))
     ·
      replace hf := ite_T h11 hf
      refine AW.sr (cs 2 rfl ?_)
      obtain ⟨x4, h12, hf⟩ := bind1_inv hf
      refine AR.step rfl rfl rfl (AO.call rfl _ rfl rfl pf_131 (c_parser_strength _ h12 (cs 2 rfl (AR.nil [2] rfl (AW.ret ?_)))))
      cases hf
      exact ⟨rfl, _, ⟨_, _, rfl, rfl, rfl⟩, [], List.nil_sublist _, h⟩
     ·
      replace hf := ite_F h11 hf
      refine AW.skip (AW.sr (cs 4 rfl (AR.nil [2] rfl ?_)))
      refine AW.ret ?_
      cases hf
      exact ⟨rfl, _, ⟨_, _, rfl, rfl, rfl⟩, [], List.nil_sublist _, h⟩

theorem c_parser_arity  (e1 : ApiExpr) {r0 : Bool} (hf : parser_arity e1 = some r0) {τ : List Res} {Q : AOut → List Res → Prop} (h : Q (.ret (.bool r0)) τ) : AC Tryz.prog 106 [.agg [.int .i64 e1.kind, .str e1.name, .int .i64 e1.value.kind, .bool e1.value.bool_, .int .i64 e1.value.int_, .str e1.value.str_, .list (ApiValue.cellsL e1.value.list_), .list (List.map strC e1.value.keys), .list (ApiExpr.cellsL e1.args), .list (List.map strC e1.keys)]] τ Q := by
 unfold parser_arity at hf
 refine AC.none (AC.of_body 32 [.tmp 2] [0] Tryz.func106 rfl rfl rfl rfl rfl (AW.sr (AR.step rfl rfl rfl (AO.box_ref rfl rfl rfl ?_))))
 refine cs 1 rfl (AR.nil [1] rfl (AW.seq (AW.sr ?_)))
 refine cs 2 rfl (AR.nil [1, 4] rfl (AW.block (AW.seq ?_)))
 refine AW.sr (cs 2 rfl (AR.nil [1, 4, 5] rfl (AW.cond rfl (fun h1 => ?_) (fun h1 => ?_))))
 ·
  replace hf := ite_T h1 hf
  refine AW.skip (AW.cond rfl (fun h2 => ?_) (fun h2 => ?_))
  ·
   refine AW.sr (cs 2 rfl (AR.step rfl rfl rfl (AO.len_list (l := e1.args) rfl rfl rfl rfl es_26 rfl (ApiExpr.cellsL_eq _) (cs 2 rfl ?_))))
   refine AR.nil [2] rfl (AW.ret ?_)
   cases hf
   exact ⟨rfl, _, ⟨_, _, rfl, rfl, rfl⟩, [], List.nil_sublist _, h⟩
  ·
   cases h1.symm.trans h2
 ·
  replace hf := ite_F h1 hf
  refine AW.region (cs 2 rfl (AR.nil [1, 4, 5] rfl (AW.cond rfl (fun h3 => ?_) (fun h3 => ?_))))
  ·
   replace hf := ite_T h3 hf
   refine AW.sr (cs 2 rfl (AR.step rfl rfl rfl (AO.len_list (l := e1.args) rfl rfl rfl rfl es_26 rfl (ApiExpr.cellsL_eq _) (cs 2 rfl ?_))))
   refine AR.nil [2] rfl (AW.ret ?_)
   cases hf
   exact ⟨rfl, _, ⟨_, _, rfl, rfl, rfl⟩, [], List.nil_sublist _, h⟩
  ·
   replace hf := ite_F h3 hf
   refine AW.seq (AW.sr (cs 2 rfl (AR.nil [1, 4, 12] rfl ?_)))
   refine AW.cond rfl (fun h4 => ?_) (fun h4 => ?_)
   ·
    replace hf := ite_T h4 hf
    refine AW.skip (AW.cond rfl (fun h5 => ?_) (fun h5 => ?_))
    ·
     refine AW.sr (cs 2 rfl (AR.step rfl rfl rfl (AO.len_list (l := e1.args) rfl rfl rfl rfl es_26 rfl (ApiExpr.cellsL_eq _) (cs 2 rfl ?_))))
     refine AR.nil [2] rfl (AW.ret ?_)
     cases hf
     exact ⟨rfl, _, ⟨_, _, rfl, rfl, rfl⟩, [], List.nil_sublist _, h⟩
    ·
     cases h4.symm.trans h5
   ·
    replace hf := ite_F h4 hf
    refine AW.region (cs 2 rfl (AR.nil [1, 4, 12] rfl (AW.cond rfl (fun h6 => ?_) (fun h6 => ?_))))
    ·
     replace hf := ite_T h6 hf
     refine AW.sr (cs 2 rfl (AR.step rfl rfl rfl (AO.len_list (l := e1.args) rfl rfl rfl rfl es_26 rfl (ApiExpr.cellsL_eq _) (cs 2 rfl ?_))))
     refine AR.nil [2] rfl (AW.ret ?_)
     cases hf
     exact ⟨rfl, _, ⟨_, _, rfl, rfl, rfl⟩, [], List.nil_sublist _, h⟩
    ·
     replace hf := ite_F h6 hf
     refine AW.seq (AW.sr (cs 2 rfl (AR.nil [1, 4, 19] rfl ?_)))
     refine AW.cond rfl (fun h7 => ?_) (fun h7 => ?_)
     ·
      replace hf := ite_T h7 hf
      refine AW.skip (AW.cond rfl (fun h8 => ?_) (fun h8 => ?_))
      ·
       refine AW.sr (cs 2 rfl (AR.step rfl rfl rfl (AO.len_list (l := e1.args) rfl rfl rfl rfl es_26 rfl (ApiExpr.cellsL_eq _) (cs 2 rfl ?_))))
       refine AR.nil [2] rfl (AW.ret ?_)
       cases hf
       exact ⟨rfl, _, ⟨_, _, rfl, rfl, rfl⟩, [], List.nil_sublist _, h⟩
      ·
       cases h7.symm.trans h8
     ·
      replace hf := ite_F h7 hf
      refine AW.region (cs 2 rfl (AR.nil [1, 4, 19] rfl (AW.cond rfl (fun h9 => ?_) (fun h9 => ?_))))
      ·
       replace hf := ite_T h9 hf
       refine AW.sr (cs 2 rfl (AR.step rfl rfl rfl (AO.len_list (l := e1.args) rfl rfl rfl rfl es_26 rfl (ApiExpr.cellsL_eq _) (cs 2 rfl ?_))))
       refine AR.nil [2] rfl (AW.ret ?_)
       cases hf
       exact ⟨rfl, _, ⟨_, _, rfl, rfl, rfl⟩, [], List.nil_sublist _, h⟩
      ·
       replace hf := ite_F h9 hf
       refine AW.sr (cs 2 rfl (AR.nil [1, 26] rfl (AW.cond rfl (fun h10 => ?_) (fun h10 => ?_))))
       ·
        replace hf := ite_T h10 hf
        refine AW.sr (cs 2 rfl (AR.step rfl rfl rfl (AO.len_list (l := e1.args) rfl rfl rfl rfl es_26 rfl (ApiExpr.cellsL_eq _) (cs 2 rfl ?_))))
        refine AR.nil [2] rfl (AW.ret ?_)
        cases hf
        exact ⟨rfl, _, ⟨_, _, rfl, rfl, rfl⟩, [], List.nil_sublist _, h⟩
       ·
        replace hf := ite_F h10 hf
        refine AW.skip (AW.sr (cs 1 rfl (AR.nil [2] rfl ?_)))
        refine AW.ret ?_
        cases hf
        exact ⟨rfl, _, ⟨_, _, rfl, rfl, rfl⟩, [], List.nil_sublist _, h⟩

theorem c_slices_IndexFunc_L_string_string  (s1 : List Str) (f1 : Str → Option Bool) (f1F : FuncId) (f1C : List PV) (f1P : plainFn Tryz.prog f1F = true) (f1H : ∀ a0 b0, f1 a0 = some b0 → ∀ {τ : List Res} {Q : AOut → List Res → Prop}, Q (.ret (.bool b0)) τ → AC Tryz.prog f1F ([.str a0] ++ f1C) τ Q) {r0 : Int} (hf : slices_IndexFunc_L_string_string s1 f1 = some r0) {τ : List Res} {Q : AOut → List Res → Prop} (h : Q (.ret (.int .i64 r0)) τ) : AC Tryz.prog 154 [.list (List.map strC s1), .fn f1F f1C] τ Q := by
 unfold slices_IndexFunc_L_string_string at hf
 refine AC.none (AC.of_body 19 [.tmp 4] [0, 1] Tryz.func154 rfl rfl rfl rfl rfl (AW.sr (cs 1 rfl ?_)))
 refine AR.nil [0, 1] rfl (AW.seq (AW.sr (cs 1 rfl ?_)))
 refine AR.step rfl rfl rfl (AO.len_list (l := s1) rfl rfl rfl rfl es_23 rfl rfl (cs 1 rfl (AR.nil [0, 1, 7, 8] rfl (AW.block ?_))))
 refine AW.settle [0, 1, 7, 8] rfl (AW.loopF1 (fun i1 => [(0, .list (List.map strC s1)), (1, .fn f1F f1C), (7, .int .i64 (s1.length : Int)), (8, .int .i64 i1)]) (fun i1 => []) (fun kk1 i1 => slices_IndexFunc_L_string_string_l1 s1 f1 kk1 i1 = some r0) BIG 0 rfl rfl hf (fun _ hz => none_no hz) ?_)
 intro kk1 i1 hf
 rw [slices_IndexFunc_L_string_string_l1] at hf
 refine AW.sr (cs 1 rfl (AR.nil [0, 1, 7, 8, 9] rfl (AW.seq ?_)))
 refine AW.cond rfl (fun h1 => ?_) (fun h1 => ?_)
 ·
  replace hf := ite_T h1 hf
  refine AW.skip (AW.seq (AW.block (AW.sr ?_)))
  refine cs 2 rfl (AR.nil [0, 1, 5, 7, 8] rfl (AW.sr (cs 3 rfl ?_)))
  obtain ⟨e1, h2, hf⟩ := bind1_inv hf
  refine AR.step rfl rfl rfl (AO.idx_list h2 rfl rfl rfl rfl es_23 rfl rfl (cs 1 rfl ?_))
  obtain ⟨x1, h3, hf⟩ := bind1_inv hf
  refine AR.step rfl rfl rfl (AO.call rfl _ rfl rfl f1P (f1H _ _ h3 (AR.nil [0, 1, 5, 7, 8, 16] rfl (AW.cond rfl (fun h4 => ?_) (fun h4 => ?_)))))
  ·
   replace hf := ite_T h4 hf
   refine AW.sr (cs 2 rfl (AR.nil [4] rfl (AW.ret ?_)))
   cases hf
   exact ⟨rfl, _, ⟨_, _, rfl, rfl, rfl⟩, [], List.nil_sublist _, h⟩
  ·
   replace hf := ite_F h4 hf
   refine AW.skip (AW.region (cs 2 rfl (AR.nil [0, 1, 7, 8] rfl ?_)))
   exact ⟨(w64 (i1 + 1)), rfl, rfl, rfl, hf⟩
 ·
  replace hf := ite_F h1 hf
  refine AW.exit (AW.sr (cs 1 rfl (AR.nil [4] rfl ?_)))
  refine AW.ret ?_
  cases hf
  exact ⟨rfl, _, ⟨_, _, rfl, rfl, rfl⟩, [], List.nil_sublist _, h⟩

theorem c_slices_ContainsFunc_L_string_string  (s1 : List Str) (f1 : Str → Option Bool) (f1F : FuncId) (f1C : List PV) (f1P : plainFn Tryz.prog f1F = true) (f1H : ∀ a0 b0, f1 a0 = some b0 → ∀ {τ : List Res} {Q : AOut → List Res → Prop}, Q (.ret (.bool b0)) τ → AC Tryz.prog f1F ([.str a0] ++ f1C) τ Q) {r0 : Bool} (hf : slices_ContainsFunc_L_string_string s1 f1 = some r0) {τ : List Res} {Q : AOut → List Res → Prop} (h : Q (.ret (.bool r0)) τ) : AC Tryz.prog 132 [.list (List.map strC s1), .fn f1F f1C] τ Q := by
 unfold slices_ContainsFunc_L_string_string at hf
 refine AC.none (AC.of_body 9 [.tmp 4] [0, 1] Tryz.func132 rfl rfl rfl rfl rfl (AW.sr (cs 1 rfl ?_)))
 refine AR.nil [0, 1] rfl (AW.sr (cs 2 rfl ?_))
 obtain ⟨x1, h1, hf⟩ := bind1_inv hf
 refine AR.step rfl rfl rfl (AO.call rfl _ rfl rfl pf_154 (c_slices_IndexFunc_L_string_string _ f1 f1F f1C f1P @f1H h1 (cs 2 rfl (AR.nil [4] rfl (AW.ret ?_)))))
 cases hf
 exact ⟨rfl, _, ⟨_, _, rfl, rfl, rfl⟩, [], List.nil_sublist _, h⟩

theorem c_parser_keyed_1  (kx1 : Str) {r0 : Bool} (hf : parser_keyed_1 kx1 = some r0) {τ : List Res} {Q : AOut → List Res → Prop} (h : Q (.ret (.bool r0)) τ) : AC Tryz.prog 133 [.str kx1] τ Q := by
 unfold parser_keyed_1 at hf
 refine AC.none (AC.of_body 11 [.tmp 2] [0] Tryz.func133 rfl rfl rfl rfl rfl (AW.sr (cs 1 rfl ?_)))
 refine AR.nil [0] rfl (AW.sr (cs 1 rfl (AR.step rfl rfl rfl (AO.len_str rfl rfl rfl rfl un_9 rfl ?_))))
 refine cs 2 rfl (AR.or 4 6 10 [] (x := (decide (64 < (kx1.length : Int)))) rfl rfl (fun h1 => ?_) (fun h1 => ?_) ?_)
 ·
  refine AR.is 6 h1 rfl (cs 1 rfl (AR.go rfl rfl rfl rfl rfl rfl (AO.len_str rfl rfl rfl rfl un_9 rfl (cs 2 rfl ?_))))
  refine AR.nil [10] rfl ?_
  exact ⟨rfl, rfl, rfl, rfl⟩
 ·
  refine AR.is 6 h1 rfl (cs 4 rfl (AR.nil [10] rfl ?_))
  exact ⟨rfl, rfl, rfl, rfl⟩
 refine cs 1 rfl (AR.nil [2] rfl (AW.ret ?_))
 cases hf
 exact ⟨rfl, _, ⟨_, _, rfl, rfl, rfl⟩, [], List.nil_sublist _, h⟩

theorem c_parser_keyed  (e1 : ApiExpr) {r0 : Bool} (hf : parser_keyed e1 = some r0) {τ : List Res} {Q : AOut → List Res → Prop} (h : Q (.ret (.bool r0)) τ) : AC Tryz.prog 107 [.agg [.int .i64 e1.kind, .str e1.name, .int .i64 e1.value.kind, .bool e1.value.bool_, .int .i64 e1.value.int_, .str e1.value.str_, .list (ApiValue.cellsL e1.value.list_), .list (List.map strC e1.value.keys), .list (ApiExpr.cellsL e1.args), .list (List.map strC e1.keys)]] τ Q := by
 unfold parser_keyed at hf
 refine AC.none (AC.of_body 23 [.tmp 2] [0] Tryz.func107 rfl rfl rfl rfl rfl (AW.sr (AR.step rfl rfl rfl (AO.box_ref rfl rfl rfl ?_))))
 refine cs 1 rfl (AR.nil [1] rfl (AW.seq (AW.sr ?_)))
 refine cs 3 rfl (AR.nil [1, 5] rfl (AW.cond rfl (fun h1 => ?_) (fun h1 => ?_)))
 ·
  replace hf := ite_T h1 hf
  refine AW.sr (cs 2 rfl (AR.step rfl rfl rfl (AO.len_list (l := e1.keys) rfl rfl rfl rfl es_23 rfl rfl (cs 2 rfl ?_))))
  refine AR.nil [2] rfl (AW.ret ?_)
  cases hf
  exact ⟨rfl, _, ⟨_, _, rfl, rfl, rfl⟩, [], List.nil_sublist _, h⟩
 ·
  replace hf := ite_F h1 hf
  refine AW.skip (AW.sr (cs 2 rfl (AR.step rfl rfl rfl (AO.len_list (l := e1.keys) rfl rfl rfl rfl es_23 rfl rfl ?_))))
  refine cs 2 rfl (AR.step rfl rfl rfl (AO.len_list (l := e1.args) rfl rfl rfl rfl es_26 rfl (ApiExpr.cellsL_eq _) (cs 2 rfl ?_)))
  replace hf := (bind1_ret _).trans hf
  obtain ⟨b1, h3, hf⟩ := bind1_inv hf
  refine AR.join1 5 17 22 true [] b1 rfl rfl (fun h2 => ?_) (fun h2 => ?_) ?_
  ·
   replace h3 := ite_T h2 h3
   refine AR.is 17 h2 rfl (cs 2 rfl ?_)
   obtain ⟨x1, h4, h3⟩ := bind1_inv h3
   refine AR.go rfl rfl rfl rfl rfl rfl (AO.call rfl _ rfl rfl pf_132 (c_slices_ContainsFunc_L_string_string _ parser_keyed_1 133 [] pf_133 (fun _ _ hz => c_parser_keyed_1 _  hz) h4 (cs 1 rfl ?_)))
   obtain rfl := Option.some.inj h3
   refine cs 1 rfl (AR.nil [22] rfl ?_)
   exact ⟨rfl, rfl, rfl, rfl⟩
  ·
   replace h3 := ite_F h2 h3
   refine AR.is 17 h2 rfl ?_
   obtain rfl := Option.some.inj h3
   refine cs 5 rfl (AR.nil [22] rfl ?_)
   exact ⟨rfl, rfl, rfl, rfl⟩
  refine cs 1 rfl (AR.nil [2] rfl (AW.ret ?_))
  cases hf
  exact ⟨rfl, _, ⟨_, _, rfl, rfl, rfl⟩, [], List.nil_sublist _, h⟩

theorem w_value_walk {β : Type} (l : Nat) (T : β → List Res) (go : β → ApiValue → Int → Option (Bool × β))
  (goH : ∀ s1 v1 level1 b s2, go s1 v1 level1 = some (b, s2) → ∀ {Q : AOut → List Res → Prop}, Q (.ret (.bool b)) (T s2) → AC Tryz.prog 135 [.agg [.int .i64 v1.kind, .bool v1.bool_, .int .i64 v1.int_, .str v1.str_, .list (ApiValue.cellsL v1.list_), .list (List.map strC v1.keys)], .int .i64 level1, .val (.func (.yield l) #[] #[])] (T s1) Q)
  (y : β → Int → ApiValue → Option (Bool × β)) (hy : ∀ s1 level1 v1 b s2, y s1 level1 v1 = some (b, s2) → AY Tryz.prog l [.int .i64 level1, .agg [.int .i64 v1.kind, .bool v1.bool_, .int .i64 v1.int_, .str v1.str_, .list (ApiValue.cellsL v1.list_), .list (List.map strC v1.keys)]] (T s1) (fun out σ' => out = .ret (.bool b) ∧ σ' = T s2))
  (s1 : β) (v1 : ApiValue) (level1 : Int) {b : Bool} {s2 : β} (hf : value_walk_b go y s1 v1 level1 = some (b, s2)) {Q : AOut → List Res → Prop} (h : Q (.ret (.bool b)) (T s2)) :
  AC Tryz.prog 135 [.agg [.int .i64 v1.kind, .bool v1.bool_, .int .i64 v1.int_, .str v1.str_, .list (ApiValue.cellsL v1.list_), .list (List.map strC v1.keys)], .int .i64 level1, .val (.func (.yield l) #[] #[])] (T s1) Q := by
 unfold value_walk_b at hf
 refine AC.of_body 28 [.tmp 6] [0, 1, 2] Tryz.func135 rfl rfl rfl rfl rfl (AW.sr (AR.step rfl rfl rfl (AO.box_ref rfl rfl rfl (cs 1 rfl ?_))))
 refine AR.nil [1, 2, 3] rfl (AW.seq (AW.seq (AW.regionI ?_)))
 refine ARI.step rfl rfl rfl rfl (AO.calc' rfl (ARI.step rfl rfl rfl rfl (AO.calc' rfl (ARI.step rfl rfl rfl rfl (AO.load_ref rfl rfl ti_25 rfl ?_)))))
 obtain ⟨b1, s3, h1, hf⟩ := bind2_inv hf
 refine ARI.yield rfl rfl rfl rfl rfl _ rfl rfl (hy _ _ _ _ _ h1) (ARI.of rfl (cs 1 rfl (AR.nil [1, 2, 3, 13] rfl ?_)))
 refine AW.cond rfl (fun h2 => ?_) (fun h2 => ?_)
 ·
  replace hf := ite_T h2 hf
  refine AW.sr (cs 1 rfl (AR.nil [6] rfl (AW.ret ?_)))
  cases hf
  exact ⟨rfl, _, ⟨_, _, rfl, rfl, rfl⟩, _, List.Sublist.refl _, h⟩
 replace hf := ite_F h2 hf
 refine AW.skip (AW.seq (AW.sr (cs 2 rfl ?_)))
 refine AR.step rfl rfl rfl (AO.len_list (l := v1.list_) rfl rfl rfl rfl es_22 rfl ((ApiValue.cellsL_eq _)) (cs 1 rfl (AR.nil [1, 2, 15, 16, 17] rfl (AW.block ?_))))
 refine AW.loopF2 (fun (_ : β) i1 => [(1, .int .i64 level1), (2, .val (.func (.yield l) #[] #[])), (15, .list (ApiValue.cellsL v1.list_)), (16, .int .i64 (v1.list_.length : Int)), (17, .int .i64 i1)]) (fun s1 _ => T s1) (fun kk1 s1 i1 => value_walk_l1 go v1 level1 kk1 s1 i1 = some (b, s2)) BIG s3 0 rfl rfl hf (fun _ _ hz => none_no hz) ?_
 intro kk1 s4 i1 hf
 rw [value_walk_l1] at hf
 refine AW.sr (cs 1 rfl (AR.nil [1, 2, 15, 16, 17, 18] rfl (AW.seq ?_)))
 refine AW.cond rfl (fun h1 => ?_) (fun h1 => ?_)
 ·
  replace hf := ite_T h1 hf
  refine AW.skip (AW.seq (AW.block (AW.sr ?_)))
  obtain ⟨x1, h3, hf⟩ := bind1_inv hf
  refine AR.step rfl rfl rfl (AO.idx_list h3 rfl rfl ((ApiValue.cellsL_eq _)) rfl es_22 ((ApiValue.cells_eq _)) rfl (cs 1 rfl (AR.step rfl rfl rfl (AO.alloc_own rfl zp_25 (fun b8 => (AR.step_none rfl rfl (AO.store_box (i := 0) rfl rfl rfl ti_25 rfl rfl rfl rfl rfl ?_)))))))
  refine AR.nil [1, 2, 8, 15, 16, 17] rfl (AW.sr (AR.step rfl rfl rfl (AO.load_box (i := 0) rfl rfl rfl ti_25 rfl rfl (cs 3 rfl ?_))))
  obtain ⟨b2, s5, h4, hf⟩ := bind2_inv hf
  refine AR.drop1 (AR.step rfl rfl rfl (AO.call rfl _ rfl rfl pf_135 (goH _ _ _ _ _ h4 (cs 1 rfl (AR.nil [1, 2, 15, 16, 17, 26] rfl ?_)))))
  refine AW.cond rfl (fun h5 => ?_) (fun h5 => ?_)
  ·
   replace hf := ite_T h5 hf
   refine AW.sr (cs 1 rfl (AR.nil [6] rfl (AW.ret ?_)))
   cases hf
   exact ⟨rfl, _, ⟨_, _, rfl, rfl, rfl⟩, _, List.Sublist.refl _, h⟩
  ·
   replace hf := ite_F h5 hf
   refine AW.skip (AW.region (cs 2 rfl (AR.nil [1, 2, 15, 16, 17] rfl ?_)))
   exact ⟨s5, (w64 (i1 + 1)), rfl, rfl, rfl, hf⟩
 ·
  replace hf := ite_F h1 hf
  refine AW.exit (AW.sr (cs 1 rfl (AR.nil [6] rfl ?_)))
  refine AW.ret ?_
  cases hf
  exact ⟨rfl, _, ⟨_, _, rfl, rfl, rfl⟩, _, List.Sublist.refl _, h⟩

theorem n_value_walk {β : Type} (l : Nat) (T : β → List Res) (y : β → Int → ApiValue → Option (Bool × β)) (hy : ∀ s1 level1 v1 b s2, y s1 level1 v1 = some (b, s2) → AY Tryz.prog l [.int .i64 level1, .agg [.int .i64 v1.kind, .bool v1.bool_, .int .i64 v1.int_, .str v1.str_, .list (ApiValue.cellsL v1.list_), .list (List.map strC v1.keys)]] (T s1) (fun out σ' => out = .ret (.bool b) ∧ σ' = T s2)) :
  ∀ (k : Nat) (s1 : β) (v1 : ApiValue) (level1 : Int) (b : Bool) (s2 : β), value_walk_n y k s1 v1 level1 = some (b, s2) → ∀ {Q : AOut → List Res → Prop}, Q (.ret (.bool b)) (T s2) → AC Tryz.prog 135 [.agg [.int .i64 v1.kind, .bool v1.bool_, .int .i64 v1.int_, .str v1.str_, .list (ApiValue.cellsL v1.list_), .list (List.map strC v1.keys)], .int .i64 level1, .val (.func (.yield l) #[] #[])] (T s1) Q
 | 0, _, _, _, _, _, hz => by cases hz
 | k + 1, s1, v1, level1, b, s2, hz => fun h => w_value_walk l T (value_walk_n y k) (fun s1 v1 level1 b s2 hz => n_value_walk l T y hy k s1 v1 level1 b s2 hz) y hy s1 v1 level1 hz h

theorem c_value_nodes_1 {β : Type} (l : Nat) (T : β → List Res) (y : β → Int → ApiValue → Option (Bool × β)) (hy : ∀ s1 level1 v1 b s2, y s1 level1 v1 = some (b, s2) → AY Tryz.prog l [.int .i64 level1, .agg [.int .i64 v1.kind, .bool v1.bool_, .int .i64 v1.int_, .str v1.str_, .list (ApiValue.cellsL v1.list_), .list (List.map strC v1.keys)]] (T s1) (fun out σ' => out = .ret (.bool b) ∧ σ' = T s2))
  (s1 : β) (v1 : ApiValue) (level1 : Int) {b : Bool} {s2 : β} (hf : value_walk y s1 v1 level1 = some (b, s2)) {Q : AOut → List Res → Prop} (h : Q (.ret (.tuple [])) (T s2)) :
  AC Tryz.prog 134 [.val (.func (.yield l) #[] #[]), .ref [.int .i64 v1.kind, .bool v1.bool_, .int .i64 v1.int_, .str v1.str_, .list (ApiValue.cellsL v1.list_), .list (List.map strC v1.keys)], .ref [.int .i64 level1]] (T s1) Q := by
 refine AC.of_body 8 [] [0, 1, 2] Tryz.func134 rfl rfl rfl rfl rfl (AW.region (cs 3 rfl (AR.step rfl rfl rfl (AO.call rfl _ rfl rfl pf_135 (n_value_walk l T y hy BIG _ _ _ _ _ hf ?_)))))
 refine AR.nil [] rfl ?_
 exact ⟨rfl, _, rfl, _, List.Sublist.refl _, h⟩

theorem c_value_nodes (v1 : ApiValue) (level1 : Int) {τ : List Res} {Q : AOut → List Res → Prop} (h : Q (.ret (.fn 134 [.ref [.int .i64 v1.kind, .bool v1.bool_, .int .i64 v1.int_, .str v1.str_, .list (ApiValue.cellsL v1.list_), .list (List.map strC v1.keys)], .ref [.int .i64 level1]])) τ) : AC Tryz.prog 109 [.agg [.int .i64 v1.kind, .bool v1.bool_, .int .i64 v1.int_, .str v1.str_, .list (ApiValue.cellsL v1.list_), .list (List.map strC v1.keys)], .int .i64 level1] τ Q := by
 refine AC.none (AC.of_body 6 [.tmp 4] [0, 1] Tryz.func109 rfl rfl rfl rfl rfl (AW.sr (AR.step rfl rfl rfl (AO.box_ref rfl rfl rfl ?_))))
 refine AR.step rfl rfl rfl (AO.box_ref rfl rfl rfl (cs 1 rfl (AR.nil [2, 3] rfl (AW.sr ?_))))
 refine cs 2 rfl (AR.nil [4] rfl (AW.ret ?_))
 exact ⟨rfl, _, ⟨_, _, rfl, rfl, rfl⟩, [], List.nil_sublist _, h⟩

theorem c_value_unused  (v1 : ApiValue) {r0 : Bool} (hf : value_unused v1 = some r0) {τ : List Res} {Q : AOut → List Res → Prop} (h : Q (.ret (.bool r0)) τ) : AC Tryz.prog 136 [.agg [.int .i64 v1.kind, .bool v1.bool_, .int .i64 v1.int_, .str v1.str_, .list (ApiValue.cellsL v1.list_), .list (List.map strC v1.keys)]] τ Q := by
 unfold value_unused at hf
 refine AC.none (AC.of_body 58 [.tmp 2] [0] Tryz.func136 rfl rfl rfl rfl rfl (AW.sr (AR.step rfl rfl rfl (AO.box_ref rfl rfl rfl ?_))))
 refine cs 1 rfl (AR.nil [1] rfl (AW.sr (cs 4 rfl ?_)))
 refine AR.or 4 6 10 [1] (x := (!v1.bool_)) rfl rfl (fun h1 => ?_) (fun h1 => ?_) ?_
 ·
  refine AR.is 6 h1 rfl (cs 4 rfl (AR.nil [10, 1] rfl ?_))
  exact ⟨rfl, rfl, rfl, rfl⟩
 ·
  refine AR.is 6 h1 rfl (cs 4 rfl (AR.nil [10, 1] rfl ?_))
  exact ⟨rfl, rfl, rfl, rfl⟩
 refine cs 1 rfl (AR.and 9 11 20 [1] (x := ((v1.kind == 2) || (v1.int_ == 0))) rfl rfl (fun h2 => ?_) (fun h2 => ?_) ?_)
 ·
  refine AR.is 11 h2 rfl (cs 4 rfl (AR.or 4 15 19 [1, 11] (x := (v1.int_ == 0)) rfl rfl (fun h3 => ?_) (fun h3 => ?_) ?_))
  ·
   refine AR.is 15 h3 rfl (cs 4 rfl (AR.nil [19, 1, 11] rfl ?_))
   exact ⟨rfl, rfl, rfl, rfl⟩
  ·
   refine AR.is 15 h3 rfl (cs 4 rfl (AR.nil [19, 1, 11] rfl ?_))
   exact ⟨rfl, rfl, rfl, rfl⟩
  refine cs 1 rfl (AR.nil [20, 1] rfl ?_)
  exact ⟨rfl, rfl, rfl, rfl⟩
 ·
  refine AR.is 11 h2 rfl (cs 9 rfl (AR.nil [20, 1] rfl ?_))
  exact ⟨rfl, rfl, rfl, rfl⟩
 refine cs 1 rfl (AR.and 9 21 30 [1] (x := ((v1.kind == 3) || (v1.str_ == ([] : Str)))) rfl rfl (fun h4 => ?_) (fun h4 => ?_) ?_)
 ·
  refine AR.is 21 h4 rfl (cs 4 rfl (AR.or 4 25 29 [1, 21] (x := (v1.str_ == ([] : Str))) rfl rfl (fun h5 => ?_) (fun h5 => ?_) ?_))
  ·
   refine AR.is 25 h5 rfl (cs 4 rfl (AR.nil [29, 1, 21] rfl ?_))
   exact ⟨rfl, rfl, rfl, rfl⟩
  ·
   refine AR.is 25 h5 rfl (cs 4 rfl (AR.nil [29, 1, 21] rfl ?_))
   exact ⟨rfl, rfl, rfl, rfl⟩
  refine cs 1 rfl (AR.nil [30, 1] rfl ?_)
  exact ⟨rfl, rfl, rfl, rfl⟩
 ·
  refine AR.is 21 h4 rfl (cs 9 rfl (AR.nil [30, 1] rfl ?_))
  exact ⟨rfl, rfl, rfl, rfl⟩
 refine cs 1 rfl (AR.and 15 31 46 [1] (x := (((v1.kind == 4) || (v1.kind == 5)) || ((v1.list_.length : Int) == 0))) rfl rfl (fun h6 => ?_) (fun h6 => ?_) ?_)
 ·
  refine AR.is 31 h6 rfl (cs 4 rfl (AR.or 4 35 39 [1, 31] (x := (v1.kind == 5)) rfl rfl (fun h7 => ?_) (fun h7 => ?_) ?_))
  ·
   refine AR.is 35 h7 rfl (cs 4 rfl (AR.nil [39, 1, 31] rfl ?_))
   exact ⟨rfl, rfl, rfl, rfl⟩
  ·
   refine AR.is 35 h7 rfl (cs 4 rfl (AR.nil [39, 1, 31] rfl ?_))
   exact ⟨rfl, rfl, rfl, rfl⟩
  refine cs 1 rfl (AR.or 5 40 45 [1, 31] (x := ((v1.list_.length : Int) == 0)) rfl rfl (fun h8 => ?_) (fun h8 => ?_) ?_)
  ·
   refine AR.is 40 h8 rfl (cs 2 rfl (AR.go rfl rfl rfl rfl rfl rfl (AO.len_list (l := v1.list_) rfl rfl rfl rfl es_22 rfl (ApiValue.cellsL_eq _) (cs 2 rfl ?_))))
   refine AR.nil [45, 1, 31] rfl ?_
   exact ⟨rfl, rfl, rfl, rfl⟩
  ·
   refine AR.is 40 h8 rfl (cs 5 rfl (AR.nil [45, 1, 31] rfl ?_))
   exact ⟨rfl, rfl, rfl, rfl⟩
  refine cs 1 rfl (AR.nil [46, 1] rfl ?_)
  exact ⟨rfl, rfl, rfl, rfl⟩
 ·
  refine AR.is 31 h6 rfl (cs 15 rfl (AR.nil [46, 1] rfl ?_))
  exact ⟨rfl, rfl, rfl, rfl⟩
 refine cs 1 rfl (AR.and 10 47 57 [] (x := ((v1.kind == 5) || ((v1.keys.length : Int) == 0))) rfl rfl (fun h9 => ?_) (fun h9 => ?_) ?_)
 ·
  refine AR.is 47 h9 rfl (cs 4 rfl (AR.or 5 51 56 [47] (x := ((v1.keys.length : Int) == 0)) rfl rfl (fun h10 => ?_) (fun h10 => ?_) ?_))
  ·
   refine AR.is 51 h10 rfl (cs 2 rfl (AR.go rfl rfl rfl rfl rfl rfl (AO.len_list (l := v1.keys) rfl rfl rfl rfl es_23 rfl rfl (cs 2 rfl ?_))))
   refine AR.nil [56, 47] rfl ?_
   exact ⟨rfl, rfl, rfl, rfl⟩
  ·
   refine AR.is 51 h10 rfl (cs 5 rfl (AR.nil [56, 47] rfl ?_))
   exact ⟨rfl, rfl, rfl, rfl⟩
  refine cs 1 rfl (AR.nil [57] rfl ?_)
  exact ⟨rfl, rfl, rfl, rfl⟩
 ·
  refine AR.is 47 h9 rfl (cs 10 rfl (AR.nil [57] rfl ?_))
  exact ⟨rfl, rfl, rfl, rfl⟩
 refine cs 1 rfl (AR.nil [2] rfl (AW.ret ?_))
 cases hf
 exact ⟨rfl, _, ⟨_, _, rfl, rfl, rfl⟩, [], List.nil_sublist _, h⟩

theorem c_ident_digit  (c1 : UInt8) {r0 : Bool} (hf : ident_digit c1 = some r0) {τ : List Res} {Q : AOut → List Res → Prop} (h : Q (.ret (.bool r0)) τ) : AC Tryz.prog 97 [.int .u8 (c1.toNat : Int)] τ Q := by
 unfold ident_digit at hf
 refine AC.none (AC.of_body 9 [.tmp 2] [0] Tryz.func97 rfl rfl rfl rfl rfl (AW.sr (cs 1 rfl ?_)))
 refine AR.nil [0] rfl (AW.sr (cs 3 rfl (AR.and 3 5 8 [] (x := (decide ((c1.toNat : Int) ≤ 57))) rfl rfl (fun h1 => ?_) (fun h1 => ?_) ?_)))
 ·
  refine AR.is 5 h1 rfl (cs 3 rfl (AR.nil [8] rfl ?_))
  exact ⟨rfl, rfl, rfl, rfl⟩
 ·
  refine AR.is 5 h1 rfl (cs 3 rfl (AR.nil [8] rfl ?_))
  exact ⟨rfl, rfl, rfl, rfl⟩
 refine cs 1 rfl (AR.nil [2] rfl (AW.ret ?_))
 cases hf
 exact ⟨rfl, _, ⟨_, _, rfl, rfl, rfl⟩, [], List.nil_sublist _, h⟩


end Go.Proofs.YtpgknnldbnmndaaGreatDoor
