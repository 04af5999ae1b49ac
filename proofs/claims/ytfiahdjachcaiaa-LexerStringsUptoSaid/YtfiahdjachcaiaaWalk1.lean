/- Proved here: each function does what its functional text says (part 1). -/
import Derived.Test.YtfiahdjachcaiaaAbs4
import Derived.Test.YtfiahdjachcaiaaFt
import Derived.Test.YtfiahdjachcaiaaProg
import Derived.KernelRfl
set_option linter.unusedVariables false
set_option linter.unusedSimpArgs false
namespace Go.Proofs.Ytfiahdjachcaiaa
open Go Go.Abs Go.Ft
@[reducible] def _root_.Go.Ft.ApiToken.cells (x : ApiToken) : List PV := [.int .i64 x.kind, .str x.text, .int .i64 x.at_]
theorem _root_.Go.Ft.ApiToken.cells_eq (x : ApiToken) : ApiToken.cells x = [.int .i64 x.kind, .str x.text, .int .i64 x.at_] := rfl
theorem _root_.Go.Ft.ApiToken.cells_len (x : ApiToken) : (ApiToken.cells x).length = 3 := by rw [ApiToken.cells_eq]; rfl
theorem _root_.Go.Ft.ApiToken.cells_one (x : ApiToken) : (ApiToken.cells x).all PV.one = true := by rw [ApiToken.cells_eq]; rfl
theorem ce_5 : Try.prog.cellsOf 5 = 1 := by kernel_rfl
theorem es_23 : elemSize Try.prog 23 = some 3 := by kernel_rfl
theorem es_37 : elemSize Try.prog 37 = some 1 := by kernel_rfl
theorem es_63 : elemSize Try.prog 63 = some 1 := by kernel_rfl
theorem fo_50_0 : fieldOff Try.prog 50 0 = some 0 := by kernel_rfl
theorem fo_50_1 : fieldOff Try.prog 50 1 = some 1 := by kernel_rfl
theorem inB : ∃ j, Try.prog.info? 50 = some j ∧ (j.size != 0) = true := sized (n := 2) (by kernel_rfl) rfl
theorem liesB : liesAt Try.prog Try.prog.depth 50 (2 / Try.prog.cellsOf 50) 0 50 1 = true := by kernel_rfl
theorem mixed : Try.prog.follows .mixedOrders = true := by kernel_rfl
theorem pf_10 : plainFn Try.prog 10 = true := by kernel_rfl
theorem pf_11 : plainFn Try.prog 11 = true := by kernel_rfl
theorem pf_12 : plainFn Try.prog 12 = true := by kernel_rfl
theorem pf_13 : plainFn Try.prog 13 = true := by kernel_rfl
theorem pf_14 : plainFn Try.prog 14 = true := by kernel_rfl
theorem pf_15 : plainFn Try.prog 15 = true := by kernel_rfl
theorem pf_16 : plainFn Try.prog 16 = true := by kernel_rfl
theorem pf_17 : plainFn Try.prog 17 = true := by kernel_rfl
theorem pf_18 : plainFn Try.prog 18 = true := by kernel_rfl
theorem pf_19 : plainFn Try.prog 19 = true := by kernel_rfl
theorem pf_20 : plainFn Try.prog 20 = true := by kernel_rfl
theorem pf_21 : plainFn Try.prog 21 = true := by kernel_rfl
theorem pf_22 : plainFn Try.prog 22 = true := by kernel_rfl
theorem pf_23 : plainFn Try.prog 23 = true := by kernel_rfl
theorem pf_24 : plainFn Try.prog 24 = true := by kernel_rfl
theorem pf_25 : plainFn Try.prog 25 = true := by kernel_rfl
theorem pf_26 : plainFn Try.prog 26 = true := by kernel_rfl
theorem pf_27 : plainFn Try.prog 27 = true := by kernel_rfl
theorem pf_28 : plainFn Try.prog 28 = true := by kernel_rfl
theorem pf_29 : plainFn Try.prog 29 = true := by kernel_rfl
theorem pf_30 : plainFn Try.prog 30 = true := by kernel_rfl
theorem pf_31 : plainFn Try.prog 31 = true := by kernel_rfl
theorem pf_32 : plainFn Try.prog 32 = true := by kernel_rfl
theorem pf_33 : plainFn Try.prog 33 = true := by kernel_rfl
theorem pf_34 : plainFn Try.prog 34 = true := by kernel_rfl
theorem pf_35 : plainFn Try.prog 35 = true := by kernel_rfl
theorem pf_36 : plainFn Try.prog 36 = true := by kernel_rfl
theorem pf_37 : plainFn Try.prog 37 = true := by kernel_rfl
theorem pf_38 : plainFn Try.prog 38 = true := by kernel_rfl
theorem pf_39 : plainFn Try.prog 39 = true := by kernel_rfl
theorem pf_40 : plainFn Try.prog 40 = true := by kernel_rfl
theorem pf_41 : plainFn Try.prog 41 = true := by kernel_rfl
theorem pf_42 : plainFn Try.prog 42 = true := by kernel_rfl
theorem pf_43 : plainFn Try.prog 43 = true := by kernel_rfl
theorem pf_44 : plainFn Try.prog 44 = true := by kernel_rfl
theorem pf_45 : plainFn Try.prog 45 = true := by kernel_rfl
theorem pf_46 : plainFn Try.prog 46 = true := by kernel_rfl
theorem pf_47 : plainFn Try.prog 47 = true := by kernel_rfl
theorem pf_48 : plainFn Try.prog 48 = true := by kernel_rfl
theorem pf_49 : plainFn Try.prog 49 = true := by kernel_rfl
theorem pf_50 : plainFn Try.prog 50 = true := by kernel_rfl
theorem pf_52 : plainFn Try.prog 52 = true := by kernel_rfl
theorem pf_53 : plainFn Try.prog 53 = true := by kernel_rfl
theorem pf_54 : plainFn Try.prog 54 = true := by kernel_rfl
theorem pf_9 : plainFn Try.prog 9 = true := by kernel_rfl
theorem sf_23 : SliceFact Try.prog 23 35 3 32 := sliceFact (by kernel_rfl)
theorem sf_37 : SliceFact Try.prog 37 5 1 1 := sliceFact (by kernel_rfl)
theorem sf_63 : SliceFact Try.prog 63 3 1 8 := sliceFact (by kernel_rfl)
theorem spl_35 : structPl Try.prog 35 = some [(0, 1), (1, 1), (2, 1)] := by kernel_rfl
theorem ti_3 : tyInfo Try.prog 3 = some (false, 1) := by kernel_rfl
theorem ti_35 : tyInfo Try.prog 35 = some (true, 3) := by kernel_rfl
theorem ti_37 : tyInfo Try.prog 37 = some (false, 1) := by kernel_rfl
theorem ti_48 : tyInfo Try.prog 48 = some (false, 1) := by kernel_rfl
theorem ti_9 : tyInfo Try.prog 9 = some (false, 1) := by kernel_rfl
theorem un_3 : Try.prog.underlying 3 = some (.int .i64) := by kernel_rfl
theorem un_37 : Try.prog.underlying 37 = some (.slice 5) := by kernel_rfl
theorem un_5 : Try.prog.underlying 5 = some (.int .u8) := by kernel_rfl
theorem un_9 : Try.prog.underlying 9 = some (.string) := by kernel_rfl
theorem up_48 : Try.prog.underlying 48 = some (.pointer 50) := by kernel_rfl
theorem uq_57 : Try.prog.underlying 57 = some (.pointer 5) := by kernel_rfl
theorem uu_68 : Try.prog.underlying 68 = some .unsafePointer := by kernel_rfl
theorem zp_35 : zeroPV Try.prog 35 = some [.int .i64 0, .str [], .int .i64 0] := by kernel_rfl
theorem zp_50 : zeroPV Try.prog 50 = some [.val (.pointer none), .own (.slice none 0 0) []] := by kernel_rfl
def FX : Facts := { ti := [(3, false, 1), (9, false, 1), (35, true, 3)], fo := [(35, 0, 0), (35, 1, 1), (35, 2, 2)], fd := [], str := [] }
theorem FX_ok : FX.okB Try.prog = true := by kernel_rfl

theorem c_bld_copyCheck {b : Nat} {v p : Value} {bs : List UInt8} (hp : p = Value.pointer none ∨ p = .pointer (some ⟨b, 0, none⟩)) {R : AOut → List Res → Prop} (h : R (.ret (.tuple [])) [.tbox b 50 [.val (.pointer (some ⟨b, 0, none⟩)), .own v (bs.map byteC)], .row v bs.length 1 5]) :
    AC Try.prog 40 [.val (.pointer (some ⟨b, 0, none⟩))] [.tbox b 50 [.val p, .own v (bs.map byteC)], .row v bs.length 1 5] R := by
  obtain ⟨j, hj1, hj2⟩ := inB
  rcases hp with rfl | rfl
  · skip
    refine AC.of_body 20 [] [0] Try.func40 rfl rfl rfl rfl rfl ?_
    refine AW.seq ?_
    refine AW.region ?_
    refine AR.step rfl rfl rfl (AO.calc' rfl ?_)
    refine AR.step rfl rfl rfl (AO.nilCheck rfl rfl ?_)
    refine AR.step rfl rfl rfl (AO.fieldAddr_ptr rfl rfl fo_50_0 ?_)
    refine AR.step rfl rfl rfl (AO.load_tbox (i := 0) rfl rfl rfl ti_48 rfl rfl ?_)
    refine AR.step rfl rfl rfl (AO.ptr_nil rfl up_48 rfl rfl ?_)
    refine AR.nil [0, 6] rfl ?_
    refine AW.cond rfl (fun h1 => ?_) (fun h1 => ?_)
    · refine AW.region ?_
      refine AR.step rfl rfl rfl (AO.calc' rfl ?_)
      refine AR.step rfl rfl rfl (AO.calc' rfl ?_)
      refine AR.step rfl rfl rfl (AO.to_unsafe (i := 0) rfl up_48 uu_68 hj1 hj2 rfl rfl rfl ?_)
      refine AR.step rfl rfl rfl (AO.noEscape rfl rfl rfl rfl Try.func51 (by kernel_rfl) (by kernel_rfl) (by kernel_rfl) (by kernel_rfl) rfl ?_)
      refine AR.step rfl rfl rfl (AO.from_unsafe (i := 0) rfl uu_68 up_48 hj1 rfl rfl rfl liesB ?_)
      refine AR.step rfl rfl rfl (AO.nilCheck rfl rfl ?_)
      refine AR.step rfl rfl rfl (AO.fieldAddr_ptr rfl rfl fo_50_0 ?_)
      refine AR.step_none rfl rfl (AO.store_tbox (i := 0) rfl rfl rfl ti_48 rfl rfl rfl rfl rfl ?_)
      refine AR.nil [] rfl ?_
      exact ⟨rfl, [], rfl, _, List.Sublist.refl _, h⟩
    · cases h1
  · skip
    refine AC.of_body 20 [] [0] Try.func40 rfl rfl rfl rfl rfl ?_
    refine AW.seq ?_
    refine AW.region ?_
    refine AR.step rfl rfl rfl (AO.calc' rfl ?_)
    refine AR.step rfl rfl rfl (AO.nilCheck rfl rfl ?_)
    refine AR.step rfl rfl rfl (AO.fieldAddr_ptr rfl rfl fo_50_0 ?_)
    refine AR.step rfl rfl rfl (AO.load_tbox (i := 0) rfl rfl rfl ti_48 rfl rfl ?_)
    refine AR.step rfl rfl rfl (AO.ptr_nil rfl up_48 rfl rfl ?_)
    refine AR.nil [0, 6] rfl ?_
    refine AW.cond rfl (fun h1 => ?_) (fun h1 => ?_)
    · cases h1
    · refine AW.seq ?_
      refine AW.region ?_
      refine AR.step rfl rfl rfl (AO.calc' rfl ?_)
      refine AR.step rfl rfl rfl (AO.nilCheck rfl rfl ?_)
      refine AR.step rfl rfl rfl (AO.fieldAddr_ptr rfl rfl fo_50_0 ?_)
      refine AR.step rfl rfl rfl (AO.load_tbox (i := 0) rfl rfl rfl ti_48 rfl rfl ?_)
      refine AR.step rfl rfl rfl (AO.calc' rfl ?_)
      refine AR.step rfl rfl rfl (AO.ptr_neq_same rfl up_48 hj1 rfl rfl ?_)
      refine AR.nil [19] rfl ?_
      refine AW.cond rfl (fun h2 => ?_) (fun h2 => ?_)
      · cases h2
      · refine AW.skip ?_
        exact ⟨rfl, [], rfl, _, List.Sublist.refl _, h⟩

theorem c_bld_WriteByte {b : Nat} {v : Value} {bs r : List UInt8} {c : UInt8} (hv : app bs [c] = some r) {R : AOut → List Res → Prop} (h : ∀ v', R (.ret (.val .nilIface)) [.bld b v' 50 5 r]) : AC Try.prog 25 [.val (.pointer (some ⟨b, 0, none⟩)), .int .u8 (c.toNat : Int)] [.bld b v 50 5 bs] R := by
  refine AC.bld fun p hp hroom => ?_
  refine AC.of_body 17 [.tmp 4] [0, 1] Try.func25 rfl rfl rfl rfl rfl ?_
  refine AW.seq ?_
  refine AW.region ?_
  refine AR.step rfl rfl rfl (AO.calc' rfl ?_)
  refine AR.nil [0, 1] rfl ?_
  refine AW.seq ?_
  refine AW.region ?_
  refine AR.step rfl rfl rfl (AO.calc' rfl ?_)
  refine AR.step rfl rfl rfl (AO.call rfl _ rfl rfl pf_40 (c_bld_copyCheck hp ?_))
  refine AR.nil [0, 1] rfl ?_
  refine AW.seq ?_
  refine AW.region ?_
  refine AR.step rfl rfl rfl (AO.calc' rfl ?_)
  refine AR.step rfl rfl rfl (AO.calc' rfl ?_)
  refine AR.step rfl rfl rfl (AO.nilCheck rfl rfl ?_)
  refine AR.step rfl rfl rfl (AO.fieldAddr_ptr rfl rfl fo_50_1 ?_)
  refine AR.step rfl rfl rfl (AO.load_tbox (i := 0) rfl rfl rfl ti_37 rfl rfl ?_)
  refine AR.step rfl rfl rfl (AO.calc' rfl ?_)
  refine AR.step rfl rfl rfl (AO.buildSlice rfl sf_37 rfl rfl rfl ?_)
  refine AR.step rfl rfl rfl (AO.app_bytes (i := 1) hv rfl rfl rfl rfl rfl (SrcPV.list rfl es_37 (by simp [byteC]) (by simp [byteC, PV.one])) rfl sf_37 (fun v' s1 hs1 hr1 => ?_))
  cases hs1
  refine AR.step rfl rfl rfl (AO.nilCheck rfl rfl ?_)
  refine AR.step rfl rfl rfl (AO.fieldAddr_ptr rfl rfl fo_50_1 ?_)
  refine AR.step_none rfl rfl (AO.store_tbox (i := 0) rfl rfl rfl ti_37 rfl rfl rfl rfl rfl ?_)
  refine AR.nil [1] rfl ?_
  refine AW.seq ?_
  refine AW.region ?_
  refine AR.step rfl rfl rfl (AO.calc' rfl ?_)
  refine AR.nil [4] rfl ?_
  refine AW.ret ?_
  exact ⟨rfl, _, ⟨_, _, rfl, rfl, rfl⟩, _, List.Sublist.refl _, _, v', r, rfl, .inr rfl, hr1 hroom, h v'⟩

theorem c_bld_WriteString {b : Nat} {v : Value} {bs r : List UInt8} {s : List UInt8} (hv : app bs s = some r) {R : AOut → List Res → Prop} (h : ∀ v', R (.ret (.tuple [.int .i64 (s.length : Int), .val .nilIface])) [.bld b v' 50 5 r]) : AC Try.prog 26 [.val (.pointer (some ⟨b, 0, none⟩)), .str s] [.bld b v 50 5 bs] R := by
  refine AC.bld fun p hp hroom => ?_
  refine AC.of_body 19 [.tmp 4, .tmp 5] [0, 1] Try.func26 rfl rfl rfl rfl rfl ?_
  refine AW.seq ?_
  refine AW.region ?_
  refine AR.step rfl rfl rfl (AO.calc' rfl ?_)
  refine AR.step rfl rfl rfl (AO.calc' rfl ?_)
  refine AR.nil [0, 1] rfl ?_
  refine AW.seq ?_
  refine AW.region ?_
  refine AR.step rfl rfl rfl (AO.calc' rfl ?_)
  refine AR.step rfl rfl rfl (AO.call rfl _ rfl rfl pf_40 (c_bld_copyCheck hp ?_))
  refine AR.nil [0, 1] rfl ?_
  refine AW.seq ?_
  refine AW.region ?_
  refine AR.step rfl rfl rfl (AO.calc' rfl ?_)
  refine AR.step rfl rfl rfl (AO.calc' rfl ?_)
  refine AR.step rfl rfl rfl (AO.nilCheck rfl rfl ?_)
  refine AR.step rfl rfl rfl (AO.fieldAddr_ptr rfl rfl fo_50_1 ?_)
  refine AR.step rfl rfl rfl (AO.load_tbox (i := 0) rfl rfl rfl ti_37 rfl rfl ?_)
  refine AR.step rfl rfl rfl (AO.calc' rfl ?_)
  refine AR.step rfl rfl rfl (AO.app_bytes (i := 1) hv rfl rfl rfl rfl rfl (SrcPV.str un_9) rfl sf_37 (fun v' s1 hs1 hr1 => ?_))
  cases hs1
  refine AR.step rfl rfl rfl (AO.nilCheck rfl rfl ?_)
  refine AR.step rfl rfl rfl (AO.fieldAddr_ptr rfl rfl fo_50_1 ?_)
  refine AR.step_none rfl rfl (AO.store_tbox (i := 0) rfl rfl rfl ti_37 rfl rfl rfl rfl rfl ?_)
  refine AR.nil [1] rfl ?_
  refine AW.seq ?_
  refine AW.region ?_
  refine AR.step rfl rfl rfl (AO.calc' rfl ?_)
  refine AR.step rfl rfl rfl (AO.len_str rfl rfl rfl rfl un_9 rfl ?_)
  refine AR.step rfl rfl rfl (AO.calc' rfl ?_)
  refine AR.step rfl rfl rfl (AO.calc' rfl ?_)
  refine AR.nil [4, 5] rfl ?_
  refine AW.ret ?_
  exact ⟨rfl, _, ⟨_, _, rfl, rfl, _, _, rfl, rfl, rfl⟩, _, List.Sublist.refl _, _, v', r, rfl, .inr rfl, hr1 hroom, h v'⟩

theorem c_bld_Len {b : Nat} {v : Value} {bs : List UInt8} {R : AOut → List Res → Prop} (h : R (.ret (.int .i64 (bs.length : Int))) [.bld b v 50 5 bs]) : AC Try.prog 44 [.val (.pointer (some ⟨b, 0, none⟩))] [.bld b v 50 5 bs] R := by
  refine AC.bld fun p hp hroom => ?_
  refine AC.of_body 8 [.tmp 2] [0] Try.func44 rfl rfl rfl rfl rfl ?_
  refine AW.seq ?_
  refine AW.region ?_
  refine AR.step rfl rfl rfl (AO.calc' rfl ?_)
  refine AR.nil [0] rfl ?_
  refine AW.seq ?_
  refine AW.region ?_
  refine AR.step rfl rfl rfl (AO.calc' rfl ?_)
  refine AR.step rfl rfl rfl (AO.nilCheck rfl rfl ?_)
  refine AR.step rfl rfl rfl (AO.fieldAddr_ptr rfl rfl fo_50_1 ?_)
  refine AR.step rfl rfl rfl (AO.load_tbox (i := 0) rfl rfl rfl ti_37 rfl rfl ?_)
  refine AR.step rfl rfl rfl (AO.len_list (l := bs) rfl rfl rfl rfl es_37 rfl rfl ?_)
  refine AR.step rfl rfl rfl (AO.calc' rfl ?_)
  refine AR.nil [2] rfl ?_
  refine AW.ret ?_
  exact ⟨rfl, _, ⟨_, _, rfl, rfl, rfl⟩, _, List.Sublist.refl _, p, v, bs, rfl, hp, hroom, h⟩

theorem c_bld_String {b : Nat} {v : Value} {bs : List UInt8} {R : AOut → List Res → Prop} (h : R (.ret (.str bs)) []) : AC Try.prog 27 [.val (.pointer (some ⟨b, 0, none⟩))] [.bld b v 50 5 bs] R := by
  refine AC.bld_end fun p hroom => ?_
  refine AC.of_body 14 [.tmp 2] [0] Try.func27 rfl rfl rfl rfl rfl ?_
  refine AW.seq ?_
  refine AW.region ?_
  refine AR.step rfl rfl rfl (AO.calc' rfl ?_)
  refine AR.nil [0] rfl ?_
  refine AW.seq ?_
  refine AW.draw 10 mixed (by kernel_rfl) rfl ?_
  refine Ev.cons rfl rfl rfl (AO.calc' rfl ⟨rfl, rfl⟩) ?_
  refine Ev.cons rfl rfl rfl (AO.nilCheck rfl rfl ⟨rfl, rfl⟩) ?_
  refine Ev.cons rfl rfl rfl (AO.fieldAddr_ptr rfl rfl fo_50_1 ⟨rfl, rfl⟩) ?_
  refine Ev.cons rfl rfl rfl (AO.load_tbox (i := 0) rfl rfl rfl ti_37 rfl rfl ⟨rfl, rfl⟩) ?_
  refine Ev.cons rfl rfl rfl (AO.sliceData rfl rfl rfl rfl hroom ⟨rfl, rfl⟩) ?_
  refine Ev.cons rfl rfl rfl (AO.calc' rfl ⟨rfl, rfl⟩) ?_
  refine Ev.cons rfl rfl rfl (AO.nilCheck rfl rfl ⟨rfl, rfl⟩) ?_
  refine Ev.cons rfl rfl rfl (AO.fieldAddr_ptr rfl rfl fo_50_1 ⟨rfl, rfl⟩) ?_
  refine Ev.cons rfl rfl rfl (AO.load_tbox (i := 0) rfl rfl rfl ti_37 rfl rfl ⟨rfl, rfl⟩) ?_
  refine Ev.cons rfl rfl rfl (AO.len_list (l := bs) rfl rfl rfl rfl es_37 rfl rfl ⟨rfl, rfl⟩) ?_
  refine Ev.nil ?_
  show AR _ _ _ _ _ _ _ _
  refine AR.step rfl rfl rfl (AO.unsafeString rfl rfl rfl rfl uq_57 ce_5 rfl rfl rfl ?_)
  refine AR.step rfl rfl rfl (AO.calc' rfl ?_)
  refine AR.nil [2] rfl ?_
  refine AW.ret ?_
  exact ⟨rfl, _, ⟨_, _, rfl, rfl, rfl⟩, [], List.nil_sublist _, h⟩

theorem c_lexer_Tokens_1 (rx1 : Int) {r0 : Bool} (hf : lexer_Tokens_1 rx1 = some r0) {τ : List Res} {Q : AOut → List Res → Prop} (h : Q (.ret (.bool r0)) τ) : AC Try.prog 17 [.int .i32 rx1] τ Q := by
  unfold lexer_Tokens_1 at hf
  refine AC.none ?_
  refine AC.of_body 9 [.tmp 2] [0] Try.func17 rfl rfl rfl rfl rfl ?_
  refine AW.seq ?_
  refine AW.region ?_
  refine AR.cs FX_ok 1 rfl ?_
  refine AR.nil [0] rfl ?_
  refine AW.seq ?_
  refine AW.region ?_
  refine AR.cs FX_ok 3 rfl ?_
  refine AR.or 3 5 8 [] (x := (rx1 == 9)) rfl rfl (fun h1 => ?_) (fun h1 => ?_) ?_
  · skip
    refine AR.is 5 h1 rfl ?_
    refine AR.cs FX_ok 3 rfl ?_
    refine AR.nil [8] rfl ?_
    exact ⟨rfl, rfl, rfl, rfl⟩
  · skip
    refine AR.is 5 h1 rfl ?_
    refine AR.cs FX_ok 3 rfl ?_
    refine AR.nil [8] rfl ?_
    exact ⟨rfl, rfl, rfl, rfl⟩
  refine AR.cs FX_ok 1 rfl ?_
  refine AR.nil [2] rfl ?_
  refine AW.ret ?_
  cases hf
  exact ⟨rfl, _, ⟨_, _, rfl, rfl, rfl⟩, [], List.nil_sublist _, h⟩

theorem c_lexer_while (s1 : Str) (at1 : Int) (class1 : UInt8 → Option Bool) (class1F : FuncId) (class1C : List PV) (class1P : plainFn Try.prog class1F = true) (class1H : ∀ a0 b0, class1 a0 = some b0 → ∀ {τ : List Res} {Q : AOut → List Res → Prop}, Q (.ret (.bool b0)) τ → AC Try.prog class1F ([.int .u8 (a0.toNat : Int)] ++ class1C) τ Q) {r0 : Int} (hf : lexer_while s1 at1 class1 = some r0) {τ : List Res} {Q : AOut → List Res → Prop} (h : Q (.ret (.int .i64 r0)) τ) : AC Try.prog 18 [.str s1, .int .i64 at1, .fn class1F class1C] τ Q := by
  unfold lexer_while at hf
  refine AC.none ?_
  refine AC.of_body 21 [.tmp 6] [0, 1, 2] Try.func18 rfl rfl rfl rfl rfl ?_
  refine AW.seq ?_
  refine AW.region ?_
  refine AR.cs FX_ok 1 rfl ?_
  refine AR.nil [0, 1, 2] rfl ?_
  refine AW.seq ?_
  refine AW.block ?_
  refine AW.settle [0, 1, 2] rfl ?_
  refine AW.loopF1 (fun at2 => [(0, .str s1), (1, .int .i64 at2), (2, .fn class1F class1C)]) (fun at2 => []) (fun k at2 => lexer_while_l1 s1 class1 k at2 = some r0) BIG at1 rfl rfl hf (fun _ hz => none_no hz) ?_
  intro k at2 hf
  rw [lexer_while_l1] at hf
  refine AW.seq ?_
  refine AW.seq ?_
  refine AW.region ?_
  refine AR.cs FX_ok 2 rfl ?_
  refine AR.step rfl rfl rfl (AO.len_str rfl rfl rfl rfl un_9 rfl ?_)
  refine AR.cs FX_ok 2 rfl ?_
  obtain ⟨b1, h2, hf⟩ := bind1_inv hf
  refine AR.join1 6 11 17 true [0, 1, 2] b1 rfl rfl (fun h1 => ?_) (fun h1 => ?_) ?_
  · skip
    replace h2 := ite_T h1 h2
    refine AR.is 11 h1 rfl ?_
    refine AR.cs FX_ok 3 rfl ?_
    obtain ⟨x1, h3, h2⟩ := bind1_inv h2
    refine AR.go rfl rfl rfl rfl rfl rfl (AO.idx_str h3 rfl un_9 rfl rfl ?_)
    replace h2 := (bind1_ret _).trans h2
    obtain ⟨x2, h4, h2⟩ := bind1_inv h2
    refine AR.go rfl rfl rfl rfl rfl rfl (AO.call rfl _ rfl rfl class1P (class1H _ _ h4 ?_))
    cases h2
    refine AR.cs FX_ok 1 rfl ?_
    refine AR.nil [17, 0, 1, 2] rfl ?_
    exact ⟨rfl, rfl, rfl, rfl⟩
  · skip
    replace h2 := ite_F h1 h2
    refine AR.is 11 h1 rfl ?_
    cases h2
    refine AR.cs FX_ok 6 rfl ?_
    refine AR.nil [17, 0, 1, 2] rfl ?_
    exact ⟨rfl, rfl, rfl, rfl⟩
  refine AR.nil [0, 1, 2, 17] rfl ?_
  refine AW.cond rfl (fun h5 => ?_) (fun h5 => ?_)
  · replace hf := ite_T h5 hf
    refine AW.skip ?_
    refine AW.block ?_
    refine AW.region ?_
    refine AR.cs FX_ok 3 rfl ?_
    refine AR.nil [0, 1, 2] rfl ?_
    exact ⟨(w64 (at2 + 1)), rfl, rfl, rfl, hf⟩
  · replace hf := ite_F h5 hf
    refine AW.exit ?_
    refine AW.seq ?_
    refine AW.region ?_
    refine AR.cs FX_ok 2 rfl ?_
    refine AR.nil [6] rfl ?_
    refine AW.ret ?_
    cases hf
    exact ⟨rfl, _, ⟨_, _, rfl, rfl, rfl⟩, [], List.nil_sublist _, h⟩

theorem c_lexer_Tokens_2 (c1 : UInt8) {r0 : Bool} (hf : lexer_Tokens_2 c1 = some r0) {τ : List Res} {Q : AOut → List Res → Prop} (h : Q (.ret (.bool r0)) τ) : AC Try.prog 19 [.int .u8 (c1.toNat : Int)] τ Q := by
  unfold lexer_Tokens_2 at hf
  refine AC.none ?_
  refine AC.of_body 5 [.tmp 2] [0] Try.func19 rfl rfl rfl rfl rfl ?_
  refine AW.seq ?_
  refine AW.region ?_
  refine AR.cs FX_ok 1 rfl ?_
  refine AR.nil [0] rfl ?_
  refine AW.seq ?_
  refine AW.region ?_
  refine AR.cs FX_ok 3 rfl ?_
  refine AR.nil [2] rfl ?_
  refine AW.ret ?_
  cases hf
  exact ⟨rfl, _, ⟨_, _, rfl, rfl, rfl⟩, [], List.nil_sublist _, h⟩

theorem c_lexer_letter (c1 : UInt8) {r0 : Bool} (hf : lexer_letter c1 = some r0) {τ : List Res} {Q : AOut → List Res → Prop} (h : Q (.ret (.bool r0)) τ) : AC Try.prog 29 [.int .u8 (c1.toNat : Int)] τ Q := by
  unfold lexer_letter at hf
  refine AC.none ?_
  refine AC.of_body 21 [.tmp 2] [0] Try.func29 rfl rfl rfl rfl rfl ?_
  refine AW.seq ?_
  refine AW.region ?_
  refine AR.cs FX_ok 1 rfl ?_
  refine AR.nil [0] rfl ?_
  refine AW.seq ?_
  refine AW.region ?_
  refine AR.cs FX_ok 3 rfl ?_
  refine AR.and 3 5 8 [0] (x := (decide ((c1.toNat : Int) ≤ 122))) rfl rfl (fun h1 => ?_) (fun h1 => ?_) ?_
  · skip
    refine AR.is 5 h1 rfl ?_
    refine AR.cs FX_ok 3 rfl ?_
    refine AR.nil [8, 0] rfl ?_
    exact ⟨rfl, rfl, rfl, rfl⟩
  · skip
    refine AR.is 5 h1 rfl ?_
    refine AR.cs FX_ok 3 rfl ?_
    refine AR.nil [8, 0] rfl ?_
    exact ⟨rfl, rfl, rfl, rfl⟩
  refine AR.cs FX_ok 1 rfl ?_
  refine AR.or 7 9 16 [0] (x := ((decide (65 ≤ (c1.toNat : Int))) && (decide ((c1.toNat : Int) ≤ 90)))) rfl rfl (fun h2 => ?_) (fun h2 => ?_) ?_
  · skip
    refine AR.is 9 h2 rfl ?_
    refine AR.cs FX_ok 3 rfl ?_
    refine AR.and 3 12 15 [0, 9] (x := (decide ((c1.toNat : Int) ≤ 90))) rfl rfl (fun h3 => ?_) (fun h3 => ?_) ?_
    · skip
      refine AR.is 12 h3 rfl ?_
      refine AR.cs FX_ok 3 rfl ?_
      refine AR.nil [15, 0, 9] rfl ?_
      exact ⟨rfl, rfl, rfl, rfl⟩
    · skip
      refine AR.is 12 h3 rfl ?_
      refine AR.cs FX_ok 3 rfl ?_
      refine AR.nil [15, 0, 9] rfl ?_
      exact ⟨rfl, rfl, rfl, rfl⟩
    refine AR.cs FX_ok 1 rfl ?_
    refine AR.nil [16, 0] rfl ?_
    exact ⟨rfl, rfl, rfl, rfl⟩
  · skip
    refine AR.is 9 h2 rfl ?_
    refine AR.cs FX_ok 7 rfl ?_
    refine AR.nil [16, 0] rfl ?_
    exact ⟨rfl, rfl, rfl, rfl⟩
  refine AR.cs FX_ok 1 rfl ?_
  refine AR.or 3 17 20 [] (x := ((c1.toNat : Int) == 95)) rfl rfl (fun h4 => ?_) (fun h4 => ?_) ?_
  · skip
    refine AR.is 17 h4 rfl ?_
    refine AR.cs FX_ok 3 rfl ?_
    refine AR.nil [20] rfl ?_
    exact ⟨rfl, rfl, rfl, rfl⟩
  · skip
    refine AR.is 17 h4 rfl ?_
    refine AR.cs FX_ok 3 rfl ?_
    refine AR.nil [20] rfl ?_
    exact ⟨rfl, rfl, rfl, rfl⟩
  refine AR.cs FX_ok 1 rfl ?_
  refine AR.nil [2] rfl ?_
  refine AW.ret ?_
  cases hf
  exact ⟨rfl, _, ⟨_, _, rfl, rfl, rfl⟩, [], List.nil_sublist _, h⟩

theorem c_lexer_digit (c1 : UInt8) {r0 : Bool} (hf : lexer_digit c1 = some r0) {τ : List Res} {Q : AOut → List Res → Prop} (h : Q (.ret (.bool r0)) τ) : AC Try.prog 31 [.int .u8 (c1.toNat : Int)] τ Q := by
  unfold lexer_digit at hf
  refine AC.none ?_
  refine AC.of_body 9 [.tmp 2] [0] Try.func31 rfl rfl rfl rfl rfl ?_
  refine AW.seq ?_
  refine AW.region ?_
  refine AR.cs FX_ok 1 rfl ?_
  refine AR.nil [0] rfl ?_
  refine AW.seq ?_
  refine AW.region ?_
  refine AR.cs FX_ok 3 rfl ?_
  refine AR.and 3 5 8 [] (x := (decide ((c1.toNat : Int) ≤ 57))) rfl rfl (fun h1 => ?_) (fun h1 => ?_) ?_
  · skip
    refine AR.is 5 h1 rfl ?_
    refine AR.cs FX_ok 3 rfl ?_
    refine AR.nil [8] rfl ?_
    exact ⟨rfl, rfl, rfl, rfl⟩
  · skip
    refine AR.is 5 h1 rfl ?_
    refine AR.cs FX_ok 3 rfl ?_
    refine AR.nil [8] rfl ?_
    exact ⟨rfl, rfl, rfl, rfl⟩
  refine AR.cs FX_ok 1 rfl ?_
  refine AR.nil [2] rfl ?_
  refine AW.ret ?_
  cases hf
  exact ⟨rfl, _, ⟨_, _, rfl, rfl, rfl⟩, [], List.nil_sublist _, h⟩

theorem c_lexer_name_1 (c1 : UInt8) {r0 : Bool} (hf : lexer_name_1 c1 = some r0) {τ : List Res} {Q : AOut → List Res → Prop} (h : Q (.ret (.bool r0)) τ) : AC Try.prog 42 [.int .u8 (c1.toNat : Int)] τ Q := by
  unfold lexer_name_1 at hf
  refine AC.none ?_
  refine AC.of_body 9 [.tmp 2] [0] Try.func42 rfl rfl rfl rfl rfl ?_
  refine AW.seq ?_
  refine AW.region ?_
  refine AR.cs FX_ok 1 rfl ?_
  refine AR.nil [0] rfl ?_
  refine AW.seq ?_
  refine AW.region ?_
  refine AR.cs FX_ok 1 rfl ?_
  obtain ⟨x1, h1, hf⟩ := bind1_inv hf
  refine AR.step rfl rfl rfl (AO.call rfl _ rfl rfl pf_29 (c_lexer_letter _ h1 ?_))
  refine AR.cs FX_ok 1 rfl ?_
  replace hf := (bind1_ret _).trans hf
  obtain ⟨b1, h3, hf⟩ := bind1_inv hf
  refine AR.join1 3 5 8 false [] b1 rfl rfl (fun h2 => ?_) (fun h2 => ?_) ?_
  · skip
    replace h3 := ite_F h2 h3
    refine AR.is 5 h2 rfl ?_
    refine AR.cs FX_ok 1 rfl ?_
    replace h3 := (bind1_ret _).trans h3
    obtain ⟨x2, h4, h3⟩ := bind1_inv h3
    refine AR.go rfl rfl rfl rfl rfl rfl (AO.call rfl _ rfl rfl pf_31 (c_lexer_digit _ h4 ?_))
    cases h3
    refine AR.cs FX_ok 1 rfl ?_
    refine AR.nil [8] rfl ?_
    exact ⟨rfl, rfl, rfl, rfl⟩
  · skip
    replace h3 := ite_T h2 h3
    refine AR.is 5 h2 rfl ?_
    cases h3
    refine AR.cs FX_ok 3 rfl ?_
    refine AR.nil [8] rfl ?_
    exact ⟨rfl, rfl, rfl, rfl⟩
  refine AR.cs FX_ok 1 rfl ?_
  refine AR.nil [2] rfl ?_
  refine AW.ret ?_
  cases hf
  exact ⟨rfl, _, ⟨_, _, rfl, rfl, rfl⟩, [], List.nil_sublist _, h⟩

theorem c_lexer_name (src1 : Str) (at1 : Int) {r0 : ApiToken} {r1 : Int} {r2 : Int} (hf : lexer_name src1 at1 = some (r0, r1, r2)) {τ : List Res} {Q : AOut → List Res → Prop} (h : Q (.ret (.tuple [.agg [.int .i64 r0.kind, .str r0.text, .int .i64 r0.at_], .int .i64 r1, .int .i64 r2])) τ) : AC Try.prog 30 [.str src1, .int .i64 at1] τ Q := by
  unfold lexer_name at hf
  refine AC.none ?_
  refine AC.of_body 23 [.cell 4 35, .tmp 5, .tmp 6] [0, 1] Try.func30 rfl rfl rfl rfl rfl ?_
  refine AW.seq ?_
  refine AW.region ?_
  refine AR.step rfl rfl rfl (AO.alloc_own rfl zp_35 (fun b4 => ?_))
  refine AR.cs FX_ok 2 rfl ?_
  refine AR.nil [0, 1, 4] rfl ?_
  refine AW.seq ?_
  refine AW.region ?_
  refine AR.cs FX_ok 2 rfl ?_
  obtain ⟨end1, h1, hf⟩ := bind1_inv hf
  refine AR.step rfl rfl rfl (AO.call rfl _ rfl rfl pf_18 (c_lexer_while _ _ lexer_name_1 42 [] pf_42 (fun _ _ hz => c_lexer_name_1 _  hz) h1 ?_))
  refine AR.cs FX_ok 1 rfl ?_
  refine AR.nil [0, 1, 4, 7] rfl ?_
  refine AW.seq ?_
  refine AW.seq ?_
  refine AW.region ?_
  refine AR.cs FX_ok 4 rfl ?_
  refine AR.nil [0, 1, 4, 7, 14] rfl ?_
  refine AW.cond rfl (fun h2 => ?_) (fun h2 => ?_)
  · replace hf := ite_T h2 hf
    refine AW.seq ?_
    refine AW.region ?_
    refine AR.step rfl rfl rfl (AO.build rfl zp_35 spl_35 rfl ?_)
    refine AR.step_none rfl rfl (AO.store_box (i := 0) rfl rfl rfl ti_35 rfl rfl rfl rfl rfl ?_)
    refine AR.cs FX_ok 2 rfl ?_
    refine AR.nil [4, 5, 6] rfl ?_
    refine AW.ret ?_
    cases hf
    exact ⟨rfl, _, ⟨_, _, rfl, ⟨_, _, 0, _, _, rfl, rfl, ti_35, rfl⟩, _, _, rfl, rfl, _, _, rfl, rfl, rfl⟩, [], List.nil_sublist _, h⟩
  · replace hf := ite_F h2 hf
    refine AW.skip ?_
    refine AW.seq ?_
    refine AW.region ?_
    refine AR.cs FX_ok 3 rfl ?_
    obtain ⟨x1, h3, hf⟩ := bind1_inv hf
    refine AR.step rfl rfl rfl (AO.sl_str h3 rfl un_9 rfl ⟨_, rfl⟩ ⟨_, rfl⟩ ?_)
    refine AR.cs FX_ok 1 rfl ?_
    refine AR.step rfl rfl rfl (AO.build rfl zp_35 spl_35 rfl ?_)
    refine AR.cs FX_ok 1 rfl ?_
    refine AR.step_none rfl rfl (AO.store_box (i := 0) rfl rfl rfl ti_35 rfl rfl rfl rfl rfl ?_)
    refine AR.cs FX_ok 2 rfl ?_
    refine AR.nil [4, 5, 6] rfl ?_
    refine AW.ret ?_
    cases hf
    exact ⟨rfl, _, ⟨_, _, rfl, ⟨_, _, 0, _, _, rfl, rfl, ti_35, rfl⟩, _, _, rfl, rfl, _, _, rfl, rfl, rfl⟩, [], List.nil_sublist _, h⟩

theorem c_lexer_large (digits1 : Str) {r0 : Bool} (hf : lexer_large digits1 = some r0) {τ : List Res} {Q : AOut → List Res → Prop} (h : Q (.ret (.bool r0)) τ) : AC Try.prog 43 [.str digits1] τ Q := by
  unfold lexer_large at hf
  refine AC.none ?_
  refine AC.of_body 25 [.tmp 2] [0] Try.func43 rfl rfl rfl rfl rfl ?_
  refine AW.seq ?_
  refine AW.region ?_
  refine AR.cs FX_ok 1 rfl ?_
  refine AR.nil [0] rfl ?_
  refine AW.seq ?_
  refine AW.region ?_
  refine AR.cs FX_ok 1 rfl ?_
  refine AR.nil [0, 3] rfl ?_
  refine AW.seq ?_
  refine AW.seq ?_
  refine AW.region ?_
  refine AR.cs FX_ok 1 rfl ?_
  refine AR.nil [0, 3, 4] rfl ?_
  refine AW.block ?_
  refine AW.settle [0, 3, 4] rfl ?_
  refine AW.loopF2 (fun n1 i1 => [(0, .str digits1), (3, .int .i64 n1), (4, .int .i64 i1)]) (fun n1 i1 => []) (fun k n1 i1 => lexer_large_l1 digits1 k n1 i1 = some r0) BIG 0 0 rfl rfl hf (fun _ _ hz => none_no hz) ?_
  intro k n1 i1 hf
  rw [lexer_large_l1] at hf
  refine AW.seq ?_
  refine AW.seq ?_
  refine AW.region ?_
  refine AR.cs FX_ok 2 rfl ?_
  refine AR.step rfl rfl rfl (AO.len_str rfl rfl rfl rfl un_9 rfl ?_)
  refine AR.cs FX_ok 2 rfl ?_
  refine AR.and 3 9 12 [0, 3, 4] (x := (decide (n1 ≤ 9007199254740992))) rfl rfl (fun h1 => ?_) (fun h1 => ?_) ?_
  · skip
    refine AR.is 9 h1 rfl ?_
    refine AR.cs FX_ok 3 rfl ?_
    refine AR.nil [12, 0, 3, 4] rfl ?_
    exact ⟨rfl, rfl, rfl, rfl⟩
  · skip
    refine AR.is 9 h1 rfl ?_
    refine AR.cs FX_ok 3 rfl ?_
    refine AR.nil [12, 0, 3, 4] rfl ?_
    exact ⟨rfl, rfl, rfl, rfl⟩
  refine AR.nil [0, 3, 4, 12] rfl ?_
  refine AW.cond rfl (fun h2 => ?_) (fun h2 => ?_)
  · replace hf := ite_T h2 hf
    refine AW.skip ?_
    refine AW.seq ?_
    refine AW.block ?_
    refine AW.region ?_
    refine AR.cs FX_ok 4 rfl ?_
    obtain ⟨x1, h3, hf⟩ := bind1_inv hf
    refine AR.step rfl rfl rfl (AO.idx_str h3 rfl un_9 rfl rfl ?_)
    refine AR.step rfl rfl rfl (AO.u8_sub x1 48 rfl rfl rfl rfl rfl ?_)
    refine AR.step rfl rfl rfl (AO.conv_byte rfl un_5 un_3 rfl rfl ?_)
    refine AR.cs FX_ok 2 rfl ?_
    refine AR.nil [0, 3, 4] rfl ?_
    refine AW.region ?_
    refine AR.cs FX_ok 3 rfl ?_
    refine AR.nil [0, 3, 4] rfl ?_
    exact ⟨(w64 ((w64 (10 * n1)) + ((x1 - 48).toNat : Int))), (w64 (i1 + 1)), rfl, rfl, rfl, hf⟩
  · replace hf := ite_F h2 hf
    refine AW.exit ?_
    refine AW.seq ?_
    refine AW.region ?_
    refine AR.cs FX_ok 3 rfl ?_
    refine AR.nil [2] rfl ?_
    refine AW.ret ?_
    cases hf
    exact ⟨rfl, _, ⟨_, _, rfl, rfl, rfl⟩, [], List.nil_sublist _, h⟩

theorem c_lexer_number (src1 : Str) (at1 : Int) {r0 : ApiToken} {r1 : Int} {r2 : Int} (hf : lexer_number src1 at1 = some (r0, r1, r2)) {τ : List Res} {Q : AOut → List Res → Prop} (h : Q (.ret (.tuple [.agg [.int .i64 r0.kind, .str r0.text, .int .i64 r0.at_], .int .i64 r1, .int .i64 r2])) τ) : AC Try.prog 32 [.str src1, .int .i64 at1] τ Q := by
  unfold lexer_number at hf
  refine AC.none ?_
  refine AC.of_body 44 [.cell 4 35, .tmp 5, .tmp 6] [0, 1] Try.func32 rfl rfl rfl rfl rfl ?_
  refine AW.seq ?_
  refine AW.region ?_
  refine AR.step rfl rfl rfl (AO.alloc_own rfl zp_35 (fun b4 => ?_))
  refine AR.cs FX_ok 2 rfl ?_
  refine AR.nil [0, 1, 4] rfl ?_
  refine AW.seq ?_
  refine AW.region ?_
  refine AR.cs FX_ok 2 rfl ?_
  obtain ⟨end1, h1, hf⟩ := bind1_inv hf
  refine AR.step rfl rfl rfl (AO.call rfl _ rfl rfl pf_18 (c_lexer_while _ _ lexer_digit 31 [] pf_31 (fun _ _ hz => c_lexer_digit _  hz) h1 ?_))
  refine AR.cs FX_ok 1 rfl ?_
  refine AR.nil [0, 1, 4, 7] rfl ?_
  refine AW.seq ?_
  refine AW.region ?_
  refine AR.cs FX_ok 3 rfl ?_
  obtain ⟨text1, h2, hf⟩ := bind1_inv hf
  refine AR.step rfl rfl rfl (AO.sl_str h2 rfl un_9 rfl ⟨_, rfl⟩ ⟨_, rfl⟩ ?_)
  refine AR.cs FX_ok 1 rfl ?_
  refine AR.nil [0, 1, 4, 7, 8] rfl ?_
  refine AW.seq ?_
  refine AW.seq ?_
  refine AW.region ?_
  refine AR.cs FX_ok 1 rfl ?_
  refine AR.step rfl rfl rfl (AO.len_str rfl rfl rfl rfl un_9 rfl ?_)
  refine AR.cs FX_ok 2 rfl ?_
  obtain ⟨b1, h4, hf⟩ := bind1_inv hf
  refine AR.join1 4 19 23 true [0, 1, 4, 7, 8] b1 rfl rfl (fun h3 => ?_) (fun h3 => ?_) ?_
  · skip
    replace h4 := ite_T h3 h4
    refine AR.is 19 h3 rfl ?_
    refine AR.cs FX_ok 1 rfl ?_
    obtain ⟨x1, h5, h4⟩ := bind1_inv h4
    refine AR.go rfl rfl rfl rfl rfl rfl (AO.idx_str h5 rfl un_9 rfl rfl ?_)
    refine AR.cs FX_ok 1 rfl ?_
    cases h4
    refine AR.cs FX_ok 1 rfl ?_
    refine AR.nil [23, 0, 1, 4, 7, 8] rfl ?_
    exact ⟨rfl, rfl, rfl, rfl⟩
  · skip
    replace h4 := ite_F h3 h4
    refine AR.is 19 h3 rfl ?_
    cases h4
    refine AR.cs FX_ok 4 rfl ?_
    refine AR.nil [23, 0, 1, 4, 7, 8] rfl ?_
    exact ⟨rfl, rfl, rfl, rfl⟩
  refine AR.cs FX_ok 1 rfl ?_
  obtain ⟨b2, h7, hf⟩ := bind1_inv hf
  refine AR.join1 11 24 35 false [1, 4, 7, 8] b2 rfl rfl (fun h6 => ?_) (fun h6 => ?_) ?_
  · skip
    replace h7 := ite_F h6 h7
    refine AR.is 24 h6 rfl ?_
    refine AR.cs FX_ok 2 rfl ?_
    refine AR.go rfl rfl rfl rfl rfl rfl (AO.len_str rfl rfl rfl rfl un_9 rfl ?_)
    refine AR.cs FX_ok 2 rfl ?_
    replace h7 := (bind1_ret _).trans h7
    obtain ⟨b3, h9, h7⟩ := bind1_inv h7
    refine AR.join1 5 29 34 true [1, 4, 7, 8, 24] b3 rfl rfl (fun h8 => ?_) (fun h8 => ?_) ?_
    · skip
      replace h9 := ite_T h8 h9
      refine AR.is 29 h8 rfl ?_
      refine AR.cs FX_ok 2 rfl ?_
      obtain ⟨x2, h10, h9⟩ := bind1_inv h9
      refine AR.go rfl rfl rfl rfl rfl rfl (AO.idx_str h10 rfl un_9 rfl rfl ?_)
      replace h9 := (bind1_ret _).trans h9
      obtain ⟨x3, h11, h9⟩ := bind1_inv h9
      refine AR.go rfl rfl rfl rfl rfl rfl (AO.call rfl _ rfl rfl pf_29 (c_lexer_letter _ h11 ?_))
      cases h9
      refine AR.cs FX_ok 1 rfl ?_
      refine AR.nil [34, 1, 4, 7, 8, 24] rfl ?_
      exact ⟨rfl, rfl, rfl, rfl⟩
    · skip
      replace h9 := ite_F h8 h9
      refine AR.is 29 h8 rfl ?_
      cases h9
      refine AR.cs FX_ok 5 rfl ?_
      refine AR.nil [34, 1, 4, 7, 8, 24] rfl ?_
      exact ⟨rfl, rfl, rfl, rfl⟩
    cases h7
    refine AR.cs FX_ok 1 rfl ?_
    refine AR.nil [35, 1, 4, 7, 8] rfl ?_
    exact ⟨rfl, rfl, rfl, rfl⟩
  · skip
    replace h7 := ite_T h6 h7
    refine AR.is 24 h6 rfl ?_
    cases h7
    refine AR.cs FX_ok 11 rfl ?_
    refine AR.nil [35, 1, 4, 7, 8] rfl ?_
    exact ⟨rfl, rfl, rfl, rfl⟩
  refine AR.nil [1, 4, 7, 8, 35] rfl ?_
  refine AW.cond rfl (fun h12 => ?_) (fun h12 => ?_)
  · replace hf := ite_T h12 hf
    refine AW.seq ?_
    refine AW.region ?_
    refine AR.step rfl rfl rfl (AO.build rfl zp_35 spl_35 rfl ?_)
    refine AR.step_none rfl rfl (AO.store_box (i := 0) rfl rfl rfl ti_35 rfl rfl rfl rfl rfl ?_)
    refine AR.cs FX_ok 2 rfl ?_
    refine AR.nil [4, 5, 6] rfl ?_
    refine AW.ret ?_
    cases hf
    exact ⟨rfl, _, ⟨_, _, rfl, ⟨_, _, 0, _, _, rfl, rfl, ti_35, rfl⟩, _, _, rfl, rfl, _, _, rfl, rfl, rfl⟩, [], List.nil_sublist _, h⟩
  · replace hf := ite_F h12 hf
    refine AW.skip ?_
    refine AW.seq ?_
    refine AW.seq ?_
    refine AW.region ?_
    refine AR.cs FX_ok 1 rfl ?_
    obtain ⟨x4, h13, hf⟩ := bind1_inv hf
    refine AR.step rfl rfl rfl (AO.call rfl _ rfl rfl pf_43 (c_lexer_large _ h13 ?_))
    refine AR.nil [1, 4, 7, 8, 38] rfl ?_
    refine AW.cond rfl (fun h14 => ?_) (fun h14 => ?_)
    · replace hf := ite_T h14 hf
      refine AW.seq ?_
      refine AW.region ?_
      refine AR.step rfl rfl rfl (AO.build rfl zp_35 spl_35 rfl ?_)
      refine AR.step_none rfl rfl (AO.store_box (i := 0) rfl rfl rfl ti_35 rfl rfl rfl rfl rfl ?_)
      refine AR.cs FX_ok 2 rfl ?_
      refine AR.nil [4, 5, 6] rfl ?_
      refine AW.ret ?_
      cases hf
      exact ⟨rfl, _, ⟨_, _, rfl, ⟨_, _, 0, _, _, rfl, rfl, ti_35, rfl⟩, _, _, rfl, rfl, _, _, rfl, rfl, rfl⟩, [], List.nil_sublist _, h⟩
    · replace hf := ite_F h14 hf
      refine AW.skip ?_
      refine AW.seq ?_
      refine AW.region ?_
      refine AR.cs FX_ok 2 rfl ?_
      refine AR.step rfl rfl rfl (AO.build rfl zp_35 spl_35 rfl ?_)
      refine AR.cs FX_ok 1 rfl ?_
      refine AR.step_none rfl rfl (AO.store_box (i := 0) rfl rfl rfl ti_35 rfl rfl rfl rfl rfl ?_)
      refine AR.cs FX_ok 2 rfl ?_
      refine AR.nil [4, 5, 6] rfl ?_
      refine AW.ret ?_
      cases hf
      exact ⟨rfl, _, ⟨_, _, rfl, ⟨_, _, 0, _, _, rfl, rfl, ti_35, rfl⟩, _, _, rfl, rfl, _, _, rfl, rfl, rfl⟩, [], List.nil_sublist _, h⟩

theorem c_lexer_hex (c1 : UInt8) {r0 : Int} (hf : lexer_hex c1 = some r0) {τ : List Res} {Q : AOut → List Res → Prop} (h : Q (.ret (.int .i64 r0)) τ) : AC Try.prog 52 [.int .u8 (c1.toNat : Int)] τ Q := by
  unfold lexer_hex at hf
  refine AC.none ?_
  refine AC.of_body 31 [.tmp 2] [0] Try.func52 rfl rfl rfl rfl rfl ?_
  refine AW.seq ?_
  refine AW.region ?_
  refine AR.cs FX_ok 1 rfl ?_
  refine AR.nil [0] rfl ?_
  refine AW.seq ?_
  refine AW.block ?_
  refine AW.seq ?_
  refine AW.region ?_
  refine AR.cs FX_ok 1 rfl ?_
  obtain ⟨x1, h1, hf⟩ := bind1_inv hf
  refine AR.step rfl rfl rfl (AO.call rfl _ rfl rfl pf_31 (c_lexer_digit _ h1 ?_))
  refine AR.cs FX_ok 1 rfl ?_
  refine AR.nil [0, 3] rfl ?_
  refine AW.cond rfl (fun h2 => ?_) (fun h2 => ?_)
  · replace hf := ite_T h2 hf
    refine AW.seq ?_
    refine AW.region ?_
    refine AR.cs FX_ok 1 rfl ?_
    refine AR.step rfl rfl rfl (AO.u8_sub c1 48 rfl rfl rfl rfl rfl ?_)
    refine AR.step rfl rfl rfl (AO.conv_byte rfl un_5 un_3 rfl rfl ?_)
    refine AR.cs FX_ok 1 rfl ?_
    refine AR.nil [2] rfl ?_
    refine AW.ret ?_
    cases hf
    exact ⟨rfl, _, ⟨_, _, rfl, rfl, rfl⟩, [], List.nil_sublist _, h⟩
  · replace hf := ite_F h2 hf
    refine AW.seq ?_
    refine AW.region ?_
    refine AR.cs FX_ok 3 rfl ?_
    refine AR.and 3 12 15 [0] (x := (decide ((c1.toNat : Int) ≤ 102))) rfl rfl (fun h3 => ?_) (fun h3 => ?_) ?_
    · skip
      refine AR.is 12 h3 rfl ?_
      refine AR.cs FX_ok 3 rfl ?_
      refine AR.nil [15, 0] rfl ?_
      exact ⟨rfl, rfl, rfl, rfl⟩
    · skip
      refine AR.is 12 h3 rfl ?_
      refine AR.cs FX_ok 3 rfl ?_
      refine AR.nil [15, 0] rfl ?_
      exact ⟨rfl, rfl, rfl, rfl⟩
    refine AR.cs FX_ok 1 rfl ?_
    refine AR.nil [0, 9] rfl ?_
    refine AW.cond rfl (fun h4 => ?_) (fun h4 => ?_)
    · replace hf := ite_T h4 hf
      refine AW.seq ?_
      refine AW.region ?_
      refine AR.cs FX_ok 1 rfl ?_
      refine AR.step rfl rfl rfl (AO.u8_sub c1 97 rfl rfl rfl rfl rfl ?_)
      refine AR.step rfl rfl rfl (AO.conv_byte rfl un_5 un_3 rfl rfl ?_)
      refine AR.cs FX_ok 2 rfl ?_
      refine AR.nil [2] rfl ?_
      refine AW.ret ?_
      cases hf
      exact ⟨rfl, _, ⟨_, _, rfl, rfl, rfl⟩, [], List.nil_sublist _, h⟩
    · replace hf := ite_F h4 hf
      refine AW.seq ?_
      refine AW.region ?_
      refine AR.cs FX_ok 3 rfl ?_
      refine AR.and 3 23 26 [0] (x := (decide ((c1.toNat : Int) ≤ 70))) rfl rfl (fun h5 => ?_) (fun h5 => ?_) ?_
      · skip
        refine AR.is 23 h5 rfl ?_
        refine AR.cs FX_ok 3 rfl ?_
        refine AR.nil [26, 0] rfl ?_
        exact ⟨rfl, rfl, rfl, rfl⟩
      · skip
        refine AR.is 23 h5 rfl ?_
        refine AR.cs FX_ok 3 rfl ?_
        refine AR.nil [26, 0] rfl ?_
        exact ⟨rfl, rfl, rfl, rfl⟩
      refine AR.cs FX_ok 1 rfl ?_
      refine AR.nil [0, 20] rfl ?_
      refine AW.cond rfl (fun h6 => ?_) (fun h6 => ?_)
      · replace hf := ite_T h6 hf
        refine AW.seq ?_
        refine AW.region ?_
        refine AR.cs FX_ok 1 rfl ?_
        refine AR.step rfl rfl rfl (AO.u8_sub c1 65 rfl rfl rfl rfl rfl ?_)
        refine AR.step rfl rfl rfl (AO.conv_byte rfl un_5 un_3 rfl rfl ?_)
        refine AR.cs FX_ok 2 rfl ?_
        refine AR.nil [2] rfl ?_
        refine AW.ret ?_
        cases hf
        exact ⟨rfl, _, ⟨_, _, rfl, rfl, rfl⟩, [], List.nil_sublist _, h⟩
      · replace hf := ite_F h6 hf
        refine AW.skip ?_
        refine AW.seq ?_
        refine AW.region ?_
        refine AR.cs FX_ok 1 rfl ?_
        refine AR.nil [2] rfl ?_
        refine AW.ret ?_
        cases hf
        exact ⟨rfl, _, ⟨_, _, rfl, rfl, rfl⟩, [], List.nil_sublist _, h⟩

theorem c_lexer_escaped (src1 : Str) (at1 : Int) {r0 : UInt8} {r1 : Int} (hf : lexer_escaped src1 at1 = some (r0, r1)) {τ : List Res} {Q : AOut → List Res → Prop} (h : Q (.ret (.tuple [.int .u8 (r0.toNat : Int), .int .i64 r1])) τ) : AC Try.prog 45 [.str src1, .int .i64 at1] τ Q := by
  unfold lexer_escaped at hf
  refine AC.none ?_
  refine AC.of_body 61 [.tmp 4, .tmp 5] [0, 1] Try.func45 rfl rfl rfl rfl rfl ?_
  refine AW.seq ?_
  refine AW.region ?_
  refine AR.cs FX_ok 2 rfl ?_
  refine AR.nil [0, 1] rfl ?_
  refine AW.seq ?_
  refine AW.seq ?_
  refine AW.region ?_
  refine AR.cs FX_ok 3 rfl ?_
  refine AR.step rfl rfl rfl (AO.len_str rfl rfl rfl rfl un_9 rfl ?_)
  refine AR.cs FX_ok 1 rfl ?_
  refine AR.nil [0, 1, 11] rfl ?_
  refine AW.cond rfl (fun h1 => ?_) (fun h1 => ?_)
  · replace hf := ite_T h1 hf
    refine AW.seq ?_
    refine AW.region ?_
    refine AR.cs FX_ok 2 rfl ?_
    refine AR.nil [4, 5] rfl ?_
    refine AW.ret ?_
    cases hf
    exact ⟨rfl, _, ⟨_, _, rfl, rfl, _, _, rfl, rfl, rfl⟩, [], List.nil_sublist _, h⟩
  · replace hf := ite_F h1 hf
    refine AW.skip ?_
    refine AW.seq ?_
    refine AW.seq ?_
    refine AW.region ?_
    refine AR.cs FX_ok 3 rfl ?_
    obtain ⟨c1, h2, hf⟩ := bind1_inv hf
    refine AR.step rfl rfl rfl (AO.idx_str h2 rfl un_9 rfl rfl ?_)
    refine AR.cs FX_ok 1 rfl ?_
    refine AR.nil [0, 1, 6] rfl ?_
    refine AW.seq ?_
    refine AW.region ?_
    refine AR.cs FX_ok 1 rfl ?_
    refine AR.nil [0, 1, 6, 16] rfl ?_
    refine AW.block ?_
    refine AW.seq ?_
    refine AW.seq ?_
    refine AW.region ?_
    refine AR.cs FX_ok 2 rfl ?_
    refine AR.nil [0, 1, 6, 16, 17] rfl ?_
    refine AW.cond rfl (fun h3 => ?_) (fun h3 => ?_)
    · replace hf := ite_T h3 hf
      refine AW.skip ?_
      refine AW.cond rfl (fun h4 => ?_) (fun h4 => ?_)
      · skip
        refine AW.seq ?_
        refine AW.region ?_
        refine AR.cs FX_ok 3 rfl ?_
        refine AR.nil [4, 5] rfl ?_
        refine AW.ret ?_
        cases hf
        exact ⟨rfl, _, ⟨_, _, rfl, rfl, _, _, rfl, rfl, rfl⟩, [], List.nil_sublist _, h⟩
      · cases h3.symm.trans h4
    · replace hf := ite_F h3 hf
      refine AW.region ?_
      refine AR.cs FX_ok 2 rfl ?_
      refine AR.nil [0, 1, 6, 16, 17] rfl ?_
      refine AW.cond rfl (fun h5 => ?_) (fun h5 => ?_)
      · replace hf := ite_T h5 hf
        refine AW.seq ?_
        refine AW.region ?_
        refine AR.cs FX_ok 3 rfl ?_
        refine AR.nil [4, 5] rfl ?_
        refine AW.ret ?_
        cases hf
        exact ⟨rfl, _, ⟨_, _, rfl, rfl, _, _, rfl, rfl, rfl⟩, [], List.nil_sublist _, h⟩
      · replace hf := ite_F h5 hf
        refine AW.seq ?_
        refine AW.region ?_
        refine AR.cs FX_ok 2 rfl ?_
        refine AR.nil [0, 1, 16, 21] rfl ?_
        refine AW.cond rfl (fun h6 => ?_) (fun h6 => ?_)
        · replace hf := ite_T h6 hf
          refine AW.seq ?_
          refine AW.region ?_
          refine AR.cs FX_ok 2 rfl ?_
          refine AR.nil [4, 5] rfl ?_
          refine AW.ret ?_
          cases hf
          exact ⟨rfl, _, ⟨_, _, rfl, rfl, _, _, rfl, rfl, rfl⟩, [], List.nil_sublist _, h⟩
        · replace hf := ite_F h6 hf
          refine AW.seq ?_
          refine AW.region ?_
          refine AR.cs FX_ok 2 rfl ?_
          refine AR.nil [0, 1, 16, 23] rfl ?_
          refine AW.cond rfl (fun h7 => ?_) (fun h7 => ?_)
          · replace hf := ite_T h7 hf
            refine AW.seq ?_
            refine AW.region ?_
            refine AR.cs FX_ok 2 rfl ?_
            refine AR.nil [4, 5] rfl ?_
            refine AW.ret ?_
            cases hf
            exact ⟨rfl, _, ⟨_, _, rfl, rfl, _, _, rfl, rfl, rfl⟩, [], List.nil_sublist _, h⟩
          · replace hf := ite_F h7 hf
            refine AW.seq ?_
            refine AW.region ?_
            refine AR.cs FX_ok 2 rfl ?_
            refine AR.nil [0, 1, 25] rfl ?_
            refine AW.cond rfl (fun h8 => ?_) (fun h8 => ?_)
            · replace hf := ite_T h8 hf
              refine AW.seq ?_
              refine AW.region ?_
              refine AR.cs FX_ok 3 rfl ?_
              refine AR.step rfl rfl rfl (AO.len_str rfl rfl rfl rfl un_9 rfl ?_)
              refine AR.cs FX_ok 2 rfl ?_
              obtain ⟨b1, h10, hf⟩ := bind1_inv hf
              refine AR.join1 7 32 39 true [0, 1] b1 rfl rfl (fun h9 => ?_) (fun h9 => ?_) ?_
              · skip
                replace h10 := ite_T h9 h10
                refine AR.is 32 h9 rfl ?_
                refine AR.cs FX_ok 3 rfl ?_
                obtain ⟨x1, h11, h10⟩ := bind1_inv h10
                refine AR.go rfl rfl rfl rfl rfl rfl (AO.idx_str h11 rfl un_9 rfl rfl ?_)
                obtain ⟨x2, h12, h10⟩ := bind1_inv h10
                refine AR.go rfl rfl rfl rfl rfl rfl (AO.call rfl _ rfl rfl pf_52 (c_lexer_hex _ h12 ?_))
                refine AR.cs FX_ok 1 rfl ?_
                cases h10
                refine AR.cs FX_ok 1 rfl ?_
                refine AR.nil [39, 0, 1] rfl ?_
                exact ⟨rfl, rfl, rfl, rfl⟩
              · skip
                replace h10 := ite_F h9 h10
                refine AR.is 32 h9 rfl ?_
                cases h10
                refine AR.cs FX_ok 7 rfl ?_
                refine AR.nil [39, 0, 1] rfl ?_
                exact ⟨rfl, rfl, rfl, rfl⟩
              refine AR.cs FX_ok 1 rfl ?_
              obtain ⟨b2, h14, hf⟩ := bind1_inv hf
              refine AR.join1 7 40 47 true [0, 1] b2 rfl rfl (fun h13 => ?_) (fun h13 => ?_) ?_
              · skip
                replace h14 := ite_T h13 h14
                refine AR.is 40 h13 rfl ?_
                refine AR.cs FX_ok 3 rfl ?_
                obtain ⟨x3, h15, h14⟩ := bind1_inv h14
                refine AR.go rfl rfl rfl rfl rfl rfl (AO.idx_str h15 rfl un_9 rfl rfl ?_)
                obtain ⟨x4, h16, h14⟩ := bind1_inv h14
                refine AR.go rfl rfl rfl rfl rfl rfl (AO.call rfl _ rfl rfl pf_52 (c_lexer_hex _ h16 ?_))
                refine AR.cs FX_ok 1 rfl ?_
                cases h14
                refine AR.cs FX_ok 1 rfl ?_
                refine AR.nil [47, 0, 1] rfl ?_
                exact ⟨rfl, rfl, rfl, rfl⟩
              · skip
                replace h14 := ite_F h13 h14
                refine AR.is 40 h13 rfl ?_
                cases h14
                refine AR.cs FX_ok 7 rfl ?_
                refine AR.nil [47, 0, 1] rfl ?_
                exact ⟨rfl, rfl, rfl, rfl⟩
              refine AR.nil [0, 1, 47] rfl ?_
              refine AW.cond rfl (fun h17 => ?_) (fun h17 => ?_)
              · replace hf := ite_T h17 hf
                refine AW.seq ?_
                refine AW.draw 15 mixed (by kernel_rfl) rfl ?_
                refine Ev.cs FX_ok 3 rfl ?_
                obtain ⟨x5, h18, hf⟩ := bind1_inv hf
                refine Ev.cons rfl rfl rfl (AO.idx_str h18 rfl un_9 rfl rfl ⟨rfl, rfl⟩) ?_
                obtain ⟨x6, h19, hf⟩ := bind1_inv hf
                refine Ev.cons rfl rfl rfl (AO.call rfl _ rfl rfl pf_52 (c_lexer_hex _ h19 ⟨rfl, rfl⟩)) ?_
                refine Ev.cs FX_ok 4 rfl ?_
                obtain ⟨x7, h20, hf⟩ := bind1_inv hf
                refine Ev.cons rfl rfl rfl (AO.idx_str h20 rfl un_9 rfl rfl ⟨rfl, rfl⟩) ?_
                obtain ⟨x8, h21, hf⟩ := bind1_inv hf
                refine Ev.cons rfl rfl rfl (AO.call rfl _ rfl rfl pf_52 (c_lexer_hex _ h21 ⟨rfl, rfl⟩)) ?_
                refine Ev.cs FX_ok 1 rfl ?_
                refine Ev.cons rfl rfl rfl (AO.conv_u8F rfl un_3 un_5 rfl ⟨rfl, rfl⟩) ?_
                refine Ev.cs FX_ok 2 rfl ?_
                refine Ev.nil ?_
                show AR _ _ _ _ _ _ _ _
                refine AR.nil [4, 5] rfl ?_
                refine AW.ret ?_
                cases hf
                exact ⟨rfl, _, ⟨_, _, rfl, rfl, _, _, rfl, rfl, rfl⟩, [], List.nil_sublist _, h⟩
              · replace hf := ite_F h17 hf
                refine AW.skip ?_
                refine AW.seq ?_
                refine AW.region ?_
                refine AR.cs FX_ok 2 rfl ?_
                refine AR.nil [4, 5] rfl ?_
                refine AW.ret ?_
                cases hf
                exact ⟨rfl, _, ⟨_, _, rfl, rfl, _, _, rfl, rfl, rfl⟩, [], List.nil_sublist _, h⟩
            · replace hf := ite_F h8 hf
              refine AW.skip ?_
              refine AW.seq ?_
              refine AW.region ?_
              refine AR.cs FX_ok 2 rfl ?_
              refine AR.nil [4, 5] rfl ?_
              refine AW.ret ?_
              cases hf
              exact ⟨rfl, _, ⟨_, _, rfl, rfl, _, _, rfl, rfl, rfl⟩, [], List.nil_sublist _, h⟩

theorem c_lexer_short (src1 : Str) (at1 : Int) {r0 : Bool} (hf : lexer_short src1 at1 = some r0) {τ : List Res} {Q : AOut → List Res → Prop} (h : Q (.ret (.bool r0)) τ) : AC Try.prog 46 [.str src1, .int .i64 at1] τ Q := by
  unfold lexer_short at hf
  refine AC.none ?_
  refine AC.of_body 32 [.tmp 4] [0, 1] Try.func46 rfl rfl rfl rfl rfl ?_
  refine AW.seq ?_
  refine AW.region ?_
  refine AR.cs FX_ok 1 rfl ?_
  refine AR.nil [0, 1] rfl ?_
  refine AW.seq ?_
  refine AW.region ?_
  refine AR.cs FX_ok 3 rfl ?_
  obtain ⟨rest1, h1, hf⟩ := bind1_inv hf
  refine AR.step rfl rfl rfl (AO.sl_str h1 rfl un_9 rfl ⟨_, rfl⟩ rfl ?_)
  refine AR.cs FX_ok 1 rfl ?_
  refine AR.nil [5] rfl ?_
  refine AW.seq ?_
  refine AW.region ?_
  refine AR.cs FX_ok 3 rfl ?_
  refine AR.or 3 12 15 [5] (x := (rest1 == ([120] : Str))) rfl rfl (fun h2 => ?_) (fun h2 => ?_) ?_
  · skip
    refine AR.is 12 h2 rfl ?_
    refine AR.cs FX_ok 3 rfl ?_
    refine AR.nil [15, 5] rfl ?_
    exact ⟨rfl, rfl, rfl, rfl⟩
  · skip
    refine AR.is 12 h2 rfl ?_
    refine AR.cs FX_ok 3 rfl ?_
    refine AR.nil [15, 5] rfl ?_
    exact ⟨rfl, rfl, rfl, rfl⟩
  refine AR.cs FX_ok 1 rfl ?_
  replace hf := (bind1_ret _).trans hf
  obtain ⟨b1, h4, hf⟩ := bind1_inv hf
  refine AR.join1 15 16 31 false [] b1 rfl rfl (fun h3 => ?_) (fun h3 => ?_) ?_
  · skip
    replace h4 := ite_F h3 h4
    refine AR.is 16 h3 rfl ?_
    refine AR.cs FX_ok 1 rfl ?_
    refine AR.go rfl rfl rfl rfl rfl rfl (AO.len_str rfl rfl rfl rfl un_9 rfl ?_)
    refine AR.cs FX_ok 2 rfl ?_
    obtain ⟨b2, h6, h4⟩ := bind1_inv h4
    refine AR.join1 4 20 24 true [5, 16] b2 rfl rfl (fun h5 => ?_) (fun h5 => ?_) ?_
    · skip
      replace h6 := ite_T h5 h6
      refine AR.is 20 h5 rfl ?_
      refine AR.cs FX_ok 1 rfl ?_
      obtain ⟨x1, h7, h6⟩ := bind1_inv h6
      refine AR.go rfl rfl rfl rfl rfl rfl (AO.idx_str h7 rfl un_9 rfl rfl ?_)
      refine AR.cs FX_ok 1 rfl ?_
      cases h6
      refine AR.cs FX_ok 1 rfl ?_
      refine AR.nil [24, 5, 16] rfl ?_
      exact ⟨rfl, rfl, rfl, rfl⟩
    · skip
      replace h6 := ite_F h5 h6
      refine AR.is 20 h5 rfl ?_
      cases h6
      refine AR.cs FX_ok 4 rfl ?_
      refine AR.nil [24, 5, 16] rfl ?_
      exact ⟨rfl, rfl, rfl, rfl⟩
    refine AR.cs FX_ok 1 rfl ?_
    replace h4 := (bind1_ret _).trans h4
    obtain ⟨b3, h9, h4⟩ := bind1_inv h4
    refine AR.join1 5 25 30 true [16] b3 rfl rfl (fun h8 => ?_) (fun h8 => ?_) ?_
    · skip
      replace h9 := ite_T h8 h9
      refine AR.is 25 h8 rfl ?_
      refine AR.cs FX_ok 1 rfl ?_
      obtain ⟨x2, h10, h9⟩ := bind1_inv h9
      refine AR.go rfl rfl rfl rfl rfl rfl (AO.idx_str h10 rfl un_9 rfl rfl ?_)
      obtain ⟨x3, h11, h9⟩ := bind1_inv h9
      refine AR.go rfl rfl rfl rfl rfl rfl (AO.call rfl _ rfl rfl pf_52 (c_lexer_hex _ h11 ?_))
      refine AR.cs FX_ok 1 rfl ?_
      cases h9
      refine AR.cs FX_ok 1 rfl ?_
      refine AR.nil [30, 16] rfl ?_
      exact ⟨rfl, rfl, rfl, rfl⟩
    · skip
      replace h9 := ite_F h8 h9
      refine AR.is 25 h8 rfl ?_
      cases h9
      refine AR.cs FX_ok 5 rfl ?_
      refine AR.nil [30, 16] rfl ?_
      exact ⟨rfl, rfl, rfl, rfl⟩
    cases h4
    refine AR.cs FX_ok 1 rfl ?_
    refine AR.nil [31] rfl ?_
    exact ⟨rfl, rfl, rfl, rfl⟩
  · skip
    replace h4 := ite_T h3 h4
    refine AR.is 16 h3 rfl ?_
    cases h4
    refine AR.cs FX_ok 15 rfl ?_
    refine AR.nil [31] rfl ?_
    exact ⟨rfl, rfl, rfl, rfl⟩
  refine AR.cs FX_ok 1 rfl ?_
  refine AR.nil [4] rfl ?_
  refine AW.ret ?_
  cases hf
  exact ⟨rfl, _, ⟨_, _, rfl, rfl, rfl⟩, [], List.nil_sublist _, h⟩

theorem c_lexer_text (src1 : Str) (at1 : Int) {r0 : ApiToken} {r1 : Int} {r2 : Int} (hf : lexer_text src1 at1 = some (r0, r1, r2)) {τ : List Res} {Q : AOut → List Res → Prop} (h : Q (.ret (.tuple [.agg [.int .i64 r0.kind, .str r0.text, .int .i64 r0.at_], .int .i64 r1, .int .i64 r2])) τ) : AC Try.prog 33 [.str src1, .int .i64 at1] τ Q := by
  unfold lexer_text at hf
  refine AC.none ?_
  refine AC.of_body 68 [.cell 4 35, .tmp 5, .tmp 6] [0, 1] Try.func33 rfl rfl rfl rfl rfl ?_
  refine AW.seq ?_
  refine AW.region ?_
  refine AR.step rfl rfl rfl (AO.alloc_own rfl zp_35 (fun b4 => ?_))
  refine AR.cs FX_ok 2 rfl ?_
  refine AR.nil [0, 1, 4] rfl ?_
  refine AW.seq ?_
  refine AW.region ?_
  refine AR.step rfl rfl rfl (AO.alloc_bld (eu := 5) rfl zp_50 rfl (fun b7 => ?_))
  refine AR.nil [0, 1, 4, 7] rfl ?_
  refine AW.seq ?_
  refine AW.seq ?_
  refine AW.region ?_
  refine AR.cs FX_ok 3 rfl ?_
  refine AR.nil [0, 1, 4, 7, 8] rfl ?_
  refine AW.block ?_
  refine AW.settle [0, 1, 4, 7, 8] rfl ?_
  refine AW.loopF3 (fun i1 b1 v1 => [(0, .str src1), (1, .int .i64 at1), (4, .val (.pointer (some ⟨b4, 0, none⟩))), (7, .val (.pointer (some ⟨b7, 0, none⟩))), (8, .int .i64 i1)]) (fun i1 b1 v1 => [.bld b7 v1 50 5 b1, .box b4 [.int .i64 0, .str ([] : Str), .int .i64 0]]) (fun k i1 b1 v1 => lexer_text_l1 src1 at1 k i1 b1 = some (r0, r1, r2)) BIG (w64 (at1 + 1)) [] (.slice none 0 0) rfl rfl hf (fun _ _ _ hz => none_no hz) ?_
  intro k i1 b1 v1 hf
  rw [lexer_text_l1] at hf
  refine AW.seq ?_
  refine AW.seq ?_
  refine AW.region ?_
  refine AR.cs FX_ok 2 rfl ?_
  refine AR.step rfl rfl rfl (AO.len_str rfl rfl rfl rfl un_9 rfl ?_)
  refine AR.cs FX_ok 1 rfl ?_
  refine AR.nil [0, 1, 4, 7, 8, 17] rfl ?_
  refine AW.cond rfl (fun h1 => ?_) (fun h1 => ?_)
  · replace hf := ite_T h1 hf
    refine AW.skip ?_
    refine AW.block ?_
    refine AW.seq ?_
    refine AW.region ?_
    refine AR.cs FX_ok 2 rfl ?_
    obtain ⟨c1, h2, hf⟩ := bind1_inv hf
    refine AR.step rfl rfl rfl (AO.idx_str h2 rfl un_9 rfl rfl ?_)
    refine AR.cs FX_ok 1 rfl ?_
    refine AR.nil [0, 1, 4, 7, 8, 9] rfl ?_
    refine AW.block ?_
    refine AW.seq ?_
    refine AW.region ?_
    refine AR.cs FX_ok 3 rfl ?_
    refine AR.nil [0, 1, 4, 7, 8, 9, 25] rfl ?_
    refine AW.cond rfl (fun h3 => ?_) (fun h3 => ?_)
    · replace hf := ite_T h3 hf
      refine AW.seq ?_
      refine AW.seq ?_
      refine AW.region ?_
      refine AR.step rfl rfl rfl (AO.call rfl _ rfl rfl pf_44 (AC.one 0 rfl (c_bld_Len ⟨_, rfl, ?_⟩)))
      refine AR.cs FX_ok 1 rfl ?_
      refine AR.nil [1, 4, 7, 8, 29] rfl ?_
      refine AW.cond rfl (fun h4 => ?_) (fun h4 => ?_)
      · replace hf := ite_T h4 hf
        refine AW.seq ?_
        refine AW.region ?_
        refine AR.step rfl rfl rfl (AO.build rfl zp_35 spl_35 rfl ?_)
        refine AR.step_none rfl rfl (AO.store_box (i := 1) rfl rfl rfl ti_35 rfl rfl rfl rfl rfl ?_)
        refine AR.cs FX_ok 2 rfl ?_
        refine AR.nil [4, 5, 6] rfl ?_
        refine AW.ret ?_
        cases hf
        exact ⟨rfl, _, ⟨_, _, rfl, ⟨_, _, 1, _, _, rfl, rfl, ti_35, rfl⟩, _, _, rfl, rfl, _, _, rfl, rfl, rfl⟩, [], List.nil_sublist _, h⟩
      · replace hf := ite_F h4 hf
        refine AW.skip ?_
        refine AW.seq ?_
        refine AW.region ?_
        refine AR.step rfl rfl rfl (AO.call rfl _ rfl rfl pf_27 (AC.one_end 0 rfl (c_bld_String ?_)))
        refine AR.cs FX_ok 1 rfl ?_
        refine AR.step rfl rfl rfl (AO.build rfl zp_35 spl_35 rfl ?_)
        refine AR.cs FX_ok 2 rfl ?_
        refine AR.step_none rfl rfl (AO.store_box (i := 0) rfl rfl rfl ti_35 rfl rfl rfl rfl rfl ?_)
        refine AR.cs FX_ok 2 rfl ?_
        refine AR.nil [4, 5, 6] rfl ?_
        refine AW.ret ?_
        cases hf
        exact ⟨rfl, _, ⟨_, _, rfl, ⟨_, _, 0, _, _, rfl, rfl, ti_35, rfl⟩, _, _, rfl, rfl, _, _, rfl, rfl, rfl⟩, [], List.nil_sublist _, h⟩
    · replace hf := ite_F h3 hf
      refine AW.seq ?_
      refine AW.region ?_
      refine AR.cs FX_ok 3 rfl ?_
      refine AR.nil [0, 1, 4, 7, 8, 9, 36] rfl ?_
      refine AW.cond rfl (fun h5 => ?_) (fun h5 => ?_)
      · replace hf := ite_T h5 hf
        refine AW.seq ?_
        refine AW.region ?_
        refine AR.step rfl rfl rfl (AO.build rfl zp_35 spl_35 rfl ?_)
        refine AR.step_none rfl rfl (AO.store_box (i := 1) rfl rfl rfl ti_35 rfl rfl rfl rfl rfl ?_)
        refine AR.cs FX_ok 2 rfl ?_
        refine AR.nil [4, 5, 6] rfl ?_
        refine AW.ret ?_
        cases hf
        exact ⟨rfl, _, ⟨_, _, rfl, ⟨_, _, 1, _, _, rfl, rfl, ti_35, rfl⟩, _, _, rfl, rfl, _, _, rfl, rfl, rfl⟩, [], List.nil_sublist _, h⟩
      · replace hf := ite_F h5 hf
        refine AW.seq ?_
        refine AW.region ?_
        refine AR.cs FX_ok 3 rfl ?_
        refine AR.nil [0, 1, 4, 7, 8, 9, 40] rfl ?_
        refine AW.cond rfl (fun h6 => ?_) (fun h6 => ?_)
        · replace hf := ite_T h6 hf
          refine AW.seq ?_
          refine AW.region ?_
          refine AR.cs FX_ok 2 rfl ?_
          obtain ⟨x1, n1, h7, hf⟩ := bind2_inv hf
          refine AR.step rfl rfl rfl (AO.call rfl _ rfl rfl pf_45 (c_lexer_escaped _ _ h7 ?_))
          refine AR.cs FX_ok 5 rfl ?_
          refine AR.nil [0, 1, 4, 7, 8, 10, 11] rfl ?_
          refine AW.seq ?_
          refine AW.block ?_
          refine AW.seq ?_
          refine AW.region ?_
          refine AR.cs FX_ok 3 rfl ?_
          obtain ⟨b2, h9, hf⟩ := bind1_inv hf
          refine AR.join1 4 52 56 true [0, 1, 4, 7, 8, 10, 11] b2 rfl rfl (fun h8 => ?_) (fun h8 => ?_) ?_
          · skip
            replace h9 := ite_T h8 h9
            refine AR.is 52 h8 rfl ?_
            refine AR.cs FX_ok 2 rfl ?_
            replace h9 := (bind1_ret _).trans h9
            obtain ⟨x2, h10, h9⟩ := bind1_inv h9
            refine AR.go rfl rfl rfl rfl rfl rfl (AO.call rfl _ rfl rfl pf_46 (c_lexer_short _ _ h10 ?_))
            cases h9
            refine AR.cs FX_ok 1 rfl ?_
            refine AR.nil [56, 0, 1, 4, 7, 8, 10, 11] rfl ?_
            exact ⟨rfl, rfl, rfl, rfl⟩
          · skip
            replace h9 := ite_F h8 h9
            refine AR.is 52 h8 rfl ?_
            cases h9
            refine AR.cs FX_ok 4 rfl ?_
            refine AR.nil [56, 0, 1, 4, 7, 8, 10, 11] rfl ?_
            exact ⟨rfl, rfl, rfl, rfl⟩
          refine AR.cs FX_ok 1 rfl ?_
          refine AR.nil [0, 1, 4, 7, 8, 10, 11, 49] rfl ?_
          refine AW.cond rfl (fun h11 => ?_) (fun h11 => ?_)
          · replace hf := ite_T h11 hf
            refine AW.seq ?_
            refine AW.region ?_
            refine AR.step rfl rfl rfl (AO.build rfl zp_35 spl_35 rfl ?_)
            refine AR.step_none rfl rfl (AO.store_box (i := 1) rfl rfl rfl ti_35 rfl rfl rfl rfl rfl ?_)
            refine AR.cs FX_ok 2 rfl ?_
            refine AR.nil [4, 5, 6] rfl ?_
            refine AW.ret ?_
            cases hf
            exact ⟨rfl, _, ⟨_, _, rfl, ⟨_, _, 1, _, _, rfl, rfl, ti_35, rfl⟩, _, _, rfl, rfl, _, _, rfl, rfl, rfl⟩, [], List.nil_sublist _, h⟩
          · replace hf := ite_F h11 hf
            refine AW.seq ?_
            refine AW.region ?_
            refine AR.cs FX_ok 3 rfl ?_
            refine AR.nil [0, 1, 4, 7, 8, 10, 11, 58] rfl ?_
            refine AW.cond rfl (fun h12 => ?_) (fun h12 => ?_)
            · replace hf := ite_T h12 hf
              refine AW.seq ?_
              refine AW.region ?_
              refine AR.step rfl rfl rfl (AO.build rfl zp_35 spl_35 rfl ?_)
              refine AR.step_none rfl rfl (AO.store_box (i := 1) rfl rfl rfl ti_35 rfl rfl rfl rfl rfl ?_)
              refine AR.cs FX_ok 2 rfl ?_
              refine AR.nil [4, 5, 6] rfl ?_
              refine AW.ret ?_
              cases hf
              exact ⟨rfl, _, ⟨_, _, rfl, ⟨_, _, 1, _, _, rfl, rfl, ti_35, rfl⟩, _, _, rfl, rfl, _, _, rfl, rfl, rfl⟩, [], List.nil_sublist _, h⟩
            · replace hf := ite_F h12 hf
              refine AW.skip ?_
              refine AW.seq ?_
              refine AW.region ?_
              refine AR.cs FX_ok 1 rfl ?_
              obtain ⟨b3, h13, hf⟩ := bind1_inv hf
              refine AR.step rfl rfl rfl (AO.call rfl _ rfl rfl pf_25 (AC.one 0 rfl (c_bld_WriteByte h13 (fun v2 => ⟨_, rfl, ?_⟩))))
              refine AR.nil [0, 1, 4, 7, 8, 11] rfl ?_
              refine AW.region ?_
              refine AR.cs FX_ok 4 rfl ?_
              refine AR.nil [0, 1, 4, 7, 8] rfl ?_
              exact ⟨(w64 (i1 + n1)), b3, v2, rfl, rfl, rfl, hf⟩
        · replace hf := ite_F h6 hf
          refine AW.seq ?_
          refine AW.region ?_
          refine AR.cs FX_ok 1 rfl ?_
          obtain ⟨b4, h14, hf⟩ := bind1_inv hf
          refine AR.step rfl rfl rfl (AO.call rfl _ rfl rfl pf_25 (AC.one 0 rfl (c_bld_WriteByte h14 (fun v3 => ⟨_, rfl, ?_⟩))))
          refine AR.nil [0, 1, 4, 7, 8] rfl ?_
          refine AW.region ?_
          refine AR.cs FX_ok 3 rfl ?_
          refine AR.nil [0, 1, 4, 7, 8] rfl ?_
          exact ⟨(w64 (i1 + 1)), b4, v3, rfl, rfl, rfl, hf⟩
  · replace hf := ite_F h1 hf
    refine AW.exit ?_
    refine AW.seq ?_
    refine AW.region ?_
    refine AR.step rfl rfl rfl (AO.build rfl zp_35 spl_35 rfl ?_)
    refine AR.step_none rfl rfl (AO.store_box (i := 1) rfl rfl rfl ti_35 rfl rfl rfl rfl rfl ?_)
    refine AR.cs FX_ok 2 rfl ?_
    refine AR.nil [4, 5, 6] rfl ?_
    refine AW.ret ?_
    cases hf
    exact ⟨rfl, _, ⟨_, _, rfl, ⟨_, _, 1, _, _, rfl, rfl, ti_35, rfl⟩, _, _, rfl, rfl, _, _, rfl, rfl, rfl⟩, [], List.nil_sublist _, h⟩

theorem c_lexer_operator (src1 : Str) (at1 : Int) {r0 : ApiToken} {r1 : Int} {r2 : Int} (hf : lexer_operator src1 at1 = some (r0, r1, r2)) {τ : List Res} {Q : AOut → List Res → Prop} (h : Q (.ret (.tuple [.agg [.int .i64 r0.kind, .str r0.text, .int .i64 r0.at_], .int .i64 r1, .int .i64 r2])) τ) : AC Try.prog 34 [.str src1, .int .i64 at1] τ Q := by
  unfold lexer_operator at hf
  refine AC.none ?_
  refine AC.of_body 63 [.cell 4 35, .tmp 5, .tmp 6] [0, 1] Try.func34 rfl rfl rfl rfl rfl ?_
  refine AW.seq ?_
  refine AW.region ?_
  refine AR.step rfl rfl rfl (AO.alloc_own rfl zp_35 (fun b4 => ?_))
  refine AR.cs FX_ok 2 rfl ?_
  refine AR.nil [0, 1, 4] rfl ?_
  refine AW.seq ?_
  refine AW.seq ?_
  refine AW.region ?_
  refine AR.step rfl rfl rfl (AO.buildSliceF (List.map intC ([2, 1] : List Int)) rfl sf_63 rfl rfl rfl rfl ?_)
  refine AR.step rfl rfl rfl (AO.len_list (l := ([2, 1] : List Int)) rfl rfl rfl rfl es_63 rfl rfl ?_)
  refine AR.cs FX_ok 1 rfl ?_
  refine AR.nil [0, 1, 4, 10, 11, 12] rfl ?_
  refine AW.block ?_
  refine AW.settle [0, 1, 4, 10, 11, 12] rfl ?_
  refine AW.loopF1 (fun x1 => [(0, .str src1), (1, .int .i64 at1), (4, .val (.pointer (some ⟨b4, 0, none⟩))), (10, .list (List.map intC ([2, 1] : List Int))), (11, .int .i64 (([2, 1] : List Int).length : Int)), (12, .int .i64 x1)]) (fun x1 => [.box b4 [.int .i64 0, .str ([] : Str), .int .i64 0]]) (fun k x1 => lexer_operator_l1 src1 at1 k x1 = some (r0, r1, r2)) BIG 0 rfl rfl hf (fun _ hz => none_no hz) ?_
  intro k x1 hf
  rw [lexer_operator_l1] at hf
  refine AW.seq ?_
  refine AW.region ?_
  refine AR.cs FX_ok 1 rfl ?_
  refine AR.nil [0, 1, 4, 10, 11, 12, 13] rfl ?_
  refine AW.seq ?_
  refine AW.cond rfl (fun h1 => ?_) (fun h1 => ?_)
  · replace hf := ite_T h1 hf
    refine AW.skip ?_
    refine AW.seq ?_
    refine AW.block ?_
    refine AW.seq ?_
    refine AW.region ?_
    obtain ⟨n1, h2, hf⟩ := bind1_inv hf
    refine AR.step rfl rfl rfl (AO.idx_list h2 rfl rfl rfl rfl es_63 rfl rfl ?_)
    refine AR.cs FX_ok 2 rfl ?_
    refine AR.nil [0, 1, 4, 8, 10, 11, 12] rfl ?_
    refine AW.seq ?_
    refine AW.seq ?_
    refine AW.region ?_
    refine AR.cs FX_ok 4 rfl ?_
    refine AR.step rfl rfl rfl (AO.len_str rfl rfl rfl rfl un_9 rfl ?_)
    refine AR.cs FX_ok 1 rfl ?_
    refine AR.nil [0, 1, 4, 8, 10, 11, 12, 21] rfl ?_
    refine AW.cond rfl (fun h3 => ?_) (fun h3 => ?_)
    · replace hf := ite_T h3 hf
      refine AW.exit ?_
      refine AW.region ?_
      refine AR.cs FX_ok 2 rfl ?_
      refine AR.nil [0, 1, 4, 10, 11, 12] rfl ?_
      exact ⟨(w64 (x1 + 1)), rfl, rfl, rfl, hf⟩
    · replace hf := ite_F h3 hf
      refine AW.skip ?_
      refine AW.seq ?_
      refine AW.region ?_
      refine AR.cs FX_ok 5 rfl ?_
      obtain ⟨s1, h4, hf⟩ := bind1_inv hf
      refine AR.step rfl rfl rfl (AO.sl_str h4 rfl un_9 rfl ⟨_, rfl⟩ ⟨_, rfl⟩ ?_)
      refine AR.cs FX_ok 1 rfl ?_
      refine AR.nil [0, 1, 4, 8, 9, 10, 11, 12] rfl ?_
      refine AW.seq ?_
      refine AW.region ?_
      refine AR.cs FX_ok 1 rfl ?_
      refine AR.nil [0, 1, 4, 8, 9, 10, 11, 12, 28] rfl ?_
      refine AW.block ?_
      refine AW.seq ?_
      refine AW.seq ?_
      refine AW.region ?_
      refine AR.cs FX_ok 2 rfl ?_
      refine AR.nil [0, 1, 4, 8, 9, 10, 11, 12, 28, 29] rfl ?_
      refine AW.cond rfl (fun h5 => ?_) (fun h5 => ?_)
      · replace hf := ite_T h5 hf
        refine AW.skip ?_
        refine AW.cond rfl (fun h6 => ?_) (fun h6 => ?_)
        · skip
          refine AW.seq ?_
          refine AW.region ?_
          refine AR.cs FX_ok 2 rfl ?_
          refine AR.step rfl rfl rfl (AO.build rfl zp_35 spl_35 rfl ?_)
          refine AR.cs FX_ok 3 rfl ?_
          refine AR.step_none rfl rfl (AO.store_box (i := 0) rfl rfl rfl ti_35 rfl rfl rfl rfl rfl ?_)
          refine AR.cs FX_ok 2 rfl ?_
          refine AR.nil [4, 5, 6] rfl ?_
          refine AW.ret ?_
          cases hf
          exact ⟨rfl, _, ⟨_, _, rfl, ⟨_, _, 0, _, _, rfl, rfl, ti_35, rfl⟩, _, _, rfl, rfl, _, _, rfl, rfl, rfl⟩, [], List.nil_sublist _, h⟩
        · cases h5.symm.trans h6
      · replace hf := ite_F h5 hf
        refine AW.seq ?_
        refine AW.region ?_
        refine AR.cs FX_ok 2 rfl ?_
        refine AR.nil [0, 1, 4, 8, 9, 10, 11, 12, 28, 29] rfl ?_
        refine AW.cond rfl (fun h7 => ?_) (fun h7 => ?_)
        · replace hf := ite_T h7 hf
          refine AW.skip ?_
          refine AW.cond rfl (fun h8 => ?_) (fun h8 => ?_)
          · skip
            refine AW.seq ?_
            refine AW.region ?_
            refine AR.cs FX_ok 2 rfl ?_
            refine AR.step rfl rfl rfl (AO.build rfl zp_35 spl_35 rfl ?_)
            refine AR.cs FX_ok 3 rfl ?_
            refine AR.step_none rfl rfl (AO.store_box (i := 0) rfl rfl rfl ti_35 rfl rfl rfl rfl rfl ?_)
            refine AR.cs FX_ok 2 rfl ?_
            refine AR.nil [4, 5, 6] rfl ?_
            refine AW.ret ?_
            cases hf
            exact ⟨rfl, _, ⟨_, _, rfl, ⟨_, _, 0, _, _, rfl, rfl, ti_35, rfl⟩, _, _, rfl, rfl, _, _, rfl, rfl, rfl⟩, [], List.nil_sublist _, h⟩
          · cases h7.symm.trans h8
        · replace hf := ite_F h7 hf
          refine AW.seq ?_
          refine AW.region ?_
          refine AR.cs FX_ok 2 rfl ?_
          refine AR.nil [0, 1, 4, 8, 9, 10, 11, 12, 28, 29] rfl ?_
          refine AW.cond rfl (fun h9 => ?_) (fun h9 => ?_)
          · replace hf := ite_T h9 hf
            refine AW.skip ?_
            refine AW.cond rfl (fun h10 => ?_) (fun h10 => ?_)
            · skip
              refine AW.seq ?_
              refine AW.region ?_
              refine AR.cs FX_ok 2 rfl ?_
              refine AR.step rfl rfl rfl (AO.build rfl zp_35 spl_35 rfl ?_)
              refine AR.cs FX_ok 3 rfl ?_
              refine AR.step_none rfl rfl (AO.store_box (i := 0) rfl rfl rfl ti_35 rfl rfl rfl rfl rfl ?_)
              refine AR.cs FX_ok 2 rfl ?_
              refine AR.nil [4, 5, 6] rfl ?_
              refine AW.ret ?_
              cases hf
              exact ⟨rfl, _, ⟨_, _, rfl, ⟨_, _, 0, _, _, rfl, rfl, ti_35, rfl⟩, _, _, rfl, rfl, _, _, rfl, rfl, rfl⟩, [], List.nil_sublist _, h⟩
            · cases h9.symm.trans h10
          · replace hf := ite_F h9 hf
            refine AW.seq ?_
            refine AW.region ?_
            refine AR.cs FX_ok 2 rfl ?_
            refine AR.nil [0, 1, 4, 8, 9, 10, 11, 12, 28, 29] rfl ?_
            refine AW.cond rfl (fun h11 => ?_) (fun h11 => ?_)
            · replace hf := ite_T h11 hf
              refine AW.skip ?_
              refine AW.cond rfl (fun h12 => ?_) (fun h12 => ?_)
              · skip
                refine AW.seq ?_
                refine AW.region ?_
                refine AR.cs FX_ok 2 rfl ?_
                refine AR.step rfl rfl rfl (AO.build rfl zp_35 spl_35 rfl ?_)
                refine AR.cs FX_ok 3 rfl ?_
                refine AR.step_none rfl rfl (AO.store_box (i := 0) rfl rfl rfl ti_35 rfl rfl rfl rfl rfl ?_)
                refine AR.cs FX_ok 2 rfl ?_
                refine AR.nil [4, 5, 6] rfl ?_
                refine AW.ret ?_
                cases hf
                exact ⟨rfl, _, ⟨_, _, rfl, ⟨_, _, 0, _, _, rfl, rfl, ti_35, rfl⟩, _, _, rfl, rfl, _, _, rfl, rfl, rfl⟩, [], List.nil_sublist _, h⟩
              · cases h11.symm.trans h12
            · replace hf := ite_F h11 hf
              refine AW.seq ?_
              refine AW.region ?_
              refine AR.cs FX_ok 2 rfl ?_
              refine AR.nil [0, 1, 4, 8, 9, 10, 11, 12, 28, 29] rfl ?_
              refine AW.cond rfl (fun h13 => ?_) (fun h13 => ?_)
              · replace hf := ite_T h13 hf
                refine AW.skip ?_
                refine AW.cond rfl (fun h14 => ?_) (fun h14 => ?_)
                · skip
                  refine AW.seq ?_
                  refine AW.region ?_
                  refine AR.cs FX_ok 2 rfl ?_
                  refine AR.step rfl rfl rfl (AO.build rfl zp_35 spl_35 rfl ?_)
                  refine AR.cs FX_ok 3 rfl ?_
                  refine AR.step_none rfl rfl (AO.store_box (i := 0) rfl rfl rfl ti_35 rfl rfl rfl rfl rfl ?_)
                  refine AR.cs FX_ok 2 rfl ?_
                  refine AR.nil [4, 5, 6] rfl ?_
                  refine AW.ret ?_
                  cases hf
                  exact ⟨rfl, _, ⟨_, _, rfl, ⟨_, _, 0, _, _, rfl, rfl, ti_35, rfl⟩, _, _, rfl, rfl, _, _, rfl, rfl, rfl⟩, [], List.nil_sublist _, h⟩
                · cases h13.symm.trans h14
              · replace hf := ite_F h13 hf
                refine AW.seq ?_
                refine AW.region ?_
                refine AR.cs FX_ok 2 rfl ?_
                refine AR.nil [0, 1, 4, 8, 9, 10, 11, 12, 28, 29] rfl ?_
                refine AW.cond rfl (fun h15 => ?_) (fun h15 => ?_)
                · replace hf := ite_T h15 hf
                  refine AW.skip ?_
                  refine AW.cond rfl (fun h16 => ?_) (fun h16 => ?_)
                  · skip
                    refine AW.seq ?_
                    refine AW.region ?_
                    refine AR.cs FX_ok 2 rfl ?_
                    refine AR.step rfl rfl rfl (AO.build rfl zp_35 spl_35 rfl ?_)
                    refine AR.cs FX_ok 3 rfl ?_
                    refine AR.step_none rfl rfl (AO.store_box (i := 0) rfl rfl rfl ti_35 rfl rfl rfl rfl rfl ?_)
                    refine AR.cs FX_ok 2 rfl ?_
                    refine AR.nil [4, 5, 6] rfl ?_
                    refine AW.ret ?_
                    cases hf
                    exact ⟨rfl, _, ⟨_, _, rfl, ⟨_, _, 0, _, _, rfl, rfl, ti_35, rfl⟩, _, _, rfl, rfl, _, _, rfl, rfl, rfl⟩, [], List.nil_sublist _, h⟩
                  · cases h15.symm.trans h16
                · replace hf := ite_F h15 hf
                  refine AW.seq ?_
                  refine AW.region ?_
                  refine AR.cs FX_ok 2 rfl ?_
                  refine AR.nil [0, 1, 4, 8, 9, 10, 11, 12, 28, 29] rfl ?_
                  refine AW.cond rfl (fun h17 => ?_) (fun h17 => ?_)
                  · replace hf := ite_T h17 hf
                    refine AW.skip ?_
                    refine AW.cond rfl (fun h18 => ?_) (fun h18 => ?_)
                    · skip
                      refine AW.seq ?_
                      refine AW.region ?_
                      refine AR.cs FX_ok 2 rfl ?_
                      refine AR.step rfl rfl rfl (AO.build rfl zp_35 spl_35 rfl ?_)
                      refine AR.cs FX_ok 3 rfl ?_
                      refine AR.step_none rfl rfl (AO.store_box (i := 0) rfl rfl rfl ti_35 rfl rfl rfl rfl rfl ?_)
                      refine AR.cs FX_ok 2 rfl ?_
                      refine AR.nil [4, 5, 6] rfl ?_
                      refine AW.ret ?_
                      cases hf
                      exact ⟨rfl, _, ⟨_, _, rfl, ⟨_, _, 0, _, _, rfl, rfl, ti_35, rfl⟩, _, _, rfl, rfl, _, _, rfl, rfl, rfl⟩, [], List.nil_sublist _, h⟩
                    · cases h17.symm.trans h18
                  · replace hf := ite_F h17 hf
                    refine AW.seq ?_
                    refine AW.region ?_
                    refine AR.cs FX_ok 2 rfl ?_
                    refine AR.nil [0, 1, 4, 8, 9, 10, 11, 12, 28, 29] rfl ?_
                    refine AW.cond rfl (fun h19 => ?_) (fun h19 => ?_)
                    · replace hf := ite_T h19 hf
                      refine AW.skip ?_
                      refine AW.cond rfl (fun h20 => ?_) (fun h20 => ?_)
                      · skip
                        refine AW.seq ?_
                        refine AW.region ?_
                        refine AR.cs FX_ok 2 rfl ?_
                        refine AR.step rfl rfl rfl (AO.build rfl zp_35 spl_35 rfl ?_)
                        refine AR.cs FX_ok 3 rfl ?_
                        refine AR.step_none rfl rfl (AO.store_box (i := 0) rfl rfl rfl ti_35 rfl rfl rfl rfl rfl ?_)
                        refine AR.cs FX_ok 2 rfl ?_
                        refine AR.nil [4, 5, 6] rfl ?_
                        refine AW.ret ?_
                        cases hf
                        exact ⟨rfl, _, ⟨_, _, rfl, ⟨_, _, 0, _, _, rfl, rfl, ti_35, rfl⟩, _, _, rfl, rfl, _, _, rfl, rfl, rfl⟩, [], List.nil_sublist _, h⟩
                      · cases h19.symm.trans h20
                    · replace hf := ite_F h19 hf
                      refine AW.seq ?_
                      refine AW.region ?_
                      refine AR.cs FX_ok 2 rfl ?_
                      refine AR.nil [0, 1, 4, 8, 9, 10, 11, 12, 28, 29] rfl ?_
                      refine AW.cond rfl (fun h21 => ?_) (fun h21 => ?_)
                      · replace hf := ite_T h21 hf
                        refine AW.skip ?_
                        refine AW.cond rfl (fun h22 => ?_) (fun h22 => ?_)
                        · skip
                          refine AW.seq ?_
                          refine AW.region ?_
                          refine AR.cs FX_ok 2 rfl ?_
                          refine AR.step rfl rfl rfl (AO.build rfl zp_35 spl_35 rfl ?_)
                          refine AR.cs FX_ok 3 rfl ?_
                          refine AR.step_none rfl rfl (AO.store_box (i := 0) rfl rfl rfl ti_35 rfl rfl rfl rfl rfl ?_)
                          refine AR.cs FX_ok 2 rfl ?_
                          refine AR.nil [4, 5, 6] rfl ?_
                          refine AW.ret ?_
                          cases hf
                          exact ⟨rfl, _, ⟨_, _, rfl, ⟨_, _, 0, _, _, rfl, rfl, ti_35, rfl⟩, _, _, rfl, rfl, _, _, rfl, rfl, rfl⟩, [], List.nil_sublist _, h⟩
                        · cases h21.symm.trans h22
                      · replace hf := ite_F h21 hf
                        refine AW.seq ?_
                        refine AW.region ?_
                        refine AR.cs FX_ok 2 rfl ?_
                        refine AR.nil [0, 1, 4, 8, 9, 10, 11, 12, 28, 29] rfl ?_
                        refine AW.cond rfl (fun h23 => ?_) (fun h23 => ?_)
                        · replace hf := ite_T h23 hf
                          refine AW.skip ?_
                          refine AW.cond rfl (fun h24 => ?_) (fun h24 => ?_)
                          · skip
                            refine AW.seq ?_
                            refine AW.region ?_
                            refine AR.cs FX_ok 2 rfl ?_
                            refine AR.step rfl rfl rfl (AO.build rfl zp_35 spl_35 rfl ?_)
                            refine AR.cs FX_ok 3 rfl ?_
                            refine AR.step_none rfl rfl (AO.store_box (i := 0) rfl rfl rfl ti_35 rfl rfl rfl rfl rfl ?_)
                            refine AR.cs FX_ok 2 rfl ?_
                            refine AR.nil [4, 5, 6] rfl ?_
                            refine AW.ret ?_
                            cases hf
                            exact ⟨rfl, _, ⟨_, _, rfl, ⟨_, _, 0, _, _, rfl, rfl, ti_35, rfl⟩, _, _, rfl, rfl, _, _, rfl, rfl, rfl⟩, [], List.nil_sublist _, h⟩
                          · cases h23.symm.trans h24
                        · replace hf := ite_F h23 hf
                          refine AW.seq ?_
                          refine AW.region ?_
                          refine AR.cs FX_ok 2 rfl ?_
                          refine AR.nil [0, 1, 4, 8, 9, 10, 11, 12, 28, 29] rfl ?_
                          refine AW.cond rfl (fun h25 => ?_) (fun h25 => ?_)
                          · replace hf := ite_T h25 hf
                            refine AW.skip ?_
                            refine AW.cond rfl (fun h26 => ?_) (fun h26 => ?_)
                            · skip
                              refine AW.seq ?_
                              refine AW.region ?_
                              refine AR.cs FX_ok 2 rfl ?_
                              refine AR.step rfl rfl rfl (AO.build rfl zp_35 spl_35 rfl ?_)
                              refine AR.cs FX_ok 3 rfl ?_
                              refine AR.step_none rfl rfl (AO.store_box (i := 0) rfl rfl rfl ti_35 rfl rfl rfl rfl rfl ?_)
                              refine AR.cs FX_ok 2 rfl ?_
                              refine AR.nil [4, 5, 6] rfl ?_
                              refine AW.ret ?_
                              cases hf
                              exact ⟨rfl, _, ⟨_, _, rfl, ⟨_, _, 0, _, _, rfl, rfl, ti_35, rfl⟩, _, _, rfl, rfl, _, _, rfl, rfl, rfl⟩, [], List.nil_sublist _, h⟩
                            · cases h25.symm.trans h26
                          · replace hf := ite_F h25 hf
                            refine AW.seq ?_
                            refine AW.region ?_
                            refine AR.cs FX_ok 2 rfl ?_
                            refine AR.nil [0, 1, 4, 8, 9, 10, 11, 12, 28, 29] rfl ?_
                            refine AW.cond rfl (fun h27 => ?_) (fun h27 => ?_)
                            · replace hf := ite_T h27 hf
                              refine AW.skip ?_
                              refine AW.cond rfl (fun h28 => ?_) (fun h28 => ?_)
                              · skip
                                refine AW.seq ?_
                                refine AW.region ?_
                                refine AR.cs FX_ok 2 rfl ?_
                                refine AR.step rfl rfl rfl (AO.build rfl zp_35 spl_35 rfl ?_)
                                refine AR.cs FX_ok 3 rfl ?_
                                refine AR.step_none rfl rfl (AO.store_box (i := 0) rfl rfl rfl ti_35 rfl rfl rfl rfl rfl ?_)
                                refine AR.cs FX_ok 2 rfl ?_
                                refine AR.nil [4, 5, 6] rfl ?_
                                refine AW.ret ?_
                                cases hf
                                exact ⟨rfl, _, ⟨_, _, rfl, ⟨_, _, 0, _, _, rfl, rfl, ti_35, rfl⟩, _, _, rfl, rfl, _, _, rfl, rfl, rfl⟩, [], List.nil_sublist _, h⟩
                              · cases h27.symm.trans h28
                            · replace hf := ite_F h27 hf
                              refine AW.seq ?_
                              refine AW.region ?_
                              refine AR.cs FX_ok 2 rfl ?_
                              refine AR.nil [0, 1, 4, 8, 9, 10, 11, 12, 28, 29] rfl ?_
                              refine AW.cond rfl (fun h29 => ?_) (fun h29 => ?_)
                              · replace hf := ite_T h29 hf
                                refine AW.skip ?_
                                refine AW.cond rfl (fun h30 => ?_) (fun h30 => ?_)
                                · skip
                                  refine AW.seq ?_
                                  refine AW.region ?_
                                  refine AR.cs FX_ok 2 rfl ?_
                                  refine AR.step rfl rfl rfl (AO.build rfl zp_35 spl_35 rfl ?_)
                                  refine AR.cs FX_ok 3 rfl ?_
                                  refine AR.step_none rfl rfl (AO.store_box (i := 0) rfl rfl rfl ti_35 rfl rfl rfl rfl rfl ?_)
                                  refine AR.cs FX_ok 2 rfl ?_
                                  refine AR.nil [4, 5, 6] rfl ?_
                                  refine AW.ret ?_
                                  cases hf
                                  exact ⟨rfl, _, ⟨_, _, rfl, ⟨_, _, 0, _, _, rfl, rfl, ti_35, rfl⟩, _, _, rfl, rfl, _, _, rfl, rfl, rfl⟩, [], List.nil_sublist _, h⟩
                                · cases h29.symm.trans h30
                              · replace hf := ite_F h29 hf
                                refine AW.seq ?_
                                refine AW.region ?_
                                refine AR.cs FX_ok 2 rfl ?_
                                refine AR.nil [0, 1, 4, 8, 9, 10, 11, 12, 28, 29] rfl ?_
                                refine AW.cond rfl (fun h31 => ?_) (fun h31 => ?_)
                                · replace hf := ite_T h31 hf
                                  refine AW.skip ?_
                                  refine AW.cond rfl (fun h32 => ?_) (fun h32 => ?_)
                                  · skip
                                    refine AW.seq ?_
                                    refine AW.region ?_
                                    refine AR.cs FX_ok 2 rfl ?_
                                    refine AR.step rfl rfl rfl (AO.build rfl zp_35 spl_35 rfl ?_)
                                    refine AR.cs FX_ok 3 rfl ?_
                                    refine AR.step_none rfl rfl (AO.store_box (i := 0) rfl rfl rfl ti_35 rfl rfl rfl rfl rfl ?_)
                                    refine AR.cs FX_ok 2 rfl ?_
                                    refine AR.nil [4, 5, 6] rfl ?_
                                    refine AW.ret ?_
                                    cases hf
                                    exact ⟨rfl, _, ⟨_, _, rfl, ⟨_, _, 0, _, _, rfl, rfl, ti_35, rfl⟩, _, _, rfl, rfl, _, _, rfl, rfl, rfl⟩, [], List.nil_sublist _, h⟩
                                  · cases h31.symm.trans h32
                                · replace hf := ite_F h31 hf
                                  refine AW.seq ?_
                                  refine AW.region ?_
                                  refine AR.cs FX_ok 2 rfl ?_
                                  refine AR.nil [0, 1, 4, 8, 9, 10, 11, 12, 28, 29] rfl ?_
                                  refine AW.cond rfl (fun h33 => ?_) (fun h33 => ?_)
                                  · replace hf := ite_T h33 hf
                                    refine AW.skip ?_
                                    refine AW.cond rfl (fun h34 => ?_) (fun h34 => ?_)
                                    · skip
                                      refine AW.seq ?_
                                      refine AW.region ?_
                                      refine AR.cs FX_ok 2 rfl ?_
                                      refine AR.step rfl rfl rfl (AO.build rfl zp_35 spl_35 rfl ?_)
                                      refine AR.cs FX_ok 3 rfl ?_
                                      refine AR.step_none rfl rfl (AO.store_box (i := 0) rfl rfl rfl ti_35 rfl rfl rfl rfl rfl ?_)
                                      refine AR.cs FX_ok 2 rfl ?_
                                      refine AR.nil [4, 5, 6] rfl ?_
                                      refine AW.ret ?_
                                      cases hf
                                      exact ⟨rfl, _, ⟨_, _, rfl, ⟨_, _, 0, _, _, rfl, rfl, ti_35, rfl⟩, _, _, rfl, rfl, _, _, rfl, rfl, rfl⟩, [], List.nil_sublist _, h⟩
                                    · cases h33.symm.trans h34
                                  · replace hf := ite_F h33 hf
                                    refine AW.seq ?_
                                    refine AW.region ?_
                                    refine AR.cs FX_ok 2 rfl ?_
                                    refine AR.nil [0, 1, 4, 8, 9, 10, 11, 12, 28, 29] rfl ?_
                                    refine AW.cond rfl (fun h35 => ?_) (fun h35 => ?_)
                                    · replace hf := ite_T h35 hf
                                      refine AW.skip ?_
                                      refine AW.cond rfl (fun h36 => ?_) (fun h36 => ?_)
                                      · skip
                                        refine AW.seq ?_
                                        refine AW.region ?_
                                        refine AR.cs FX_ok 2 rfl ?_
                                        refine AR.step rfl rfl rfl (AO.build rfl zp_35 spl_35 rfl ?_)
                                        refine AR.cs FX_ok 3 rfl ?_
                                        refine AR.step_none rfl rfl (AO.store_box (i := 0) rfl rfl rfl ti_35 rfl rfl rfl rfl rfl ?_)
                                        refine AR.cs FX_ok 2 rfl ?_
                                        refine AR.nil [4, 5, 6] rfl ?_
                                        refine AW.ret ?_
                                        cases hf
                                        exact ⟨rfl, _, ⟨_, _, rfl, ⟨_, _, 0, _, _, rfl, rfl, ti_35, rfl⟩, _, _, rfl, rfl, _, _, rfl, rfl, rfl⟩, [], List.nil_sublist _, h⟩
                                      · cases h35.symm.trans h36
                                    · replace hf := ite_F h35 hf
                                      refine AW.seq ?_
                                      refine AW.region ?_
                                      refine AR.cs FX_ok 2 rfl ?_
                                      refine AR.nil [0, 1, 4, 8, 9, 10, 11, 12, 28, 29] rfl ?_
                                      refine AW.cond rfl (fun h37 => ?_) (fun h37 => ?_)
                                      · replace hf := ite_T h37 hf
                                        refine AW.skip ?_
                                        refine AW.cond rfl (fun h38 => ?_) (fun h38 => ?_)
                                        · skip
                                          refine AW.seq ?_
                                          refine AW.region ?_
                                          refine AR.cs FX_ok 2 rfl ?_
                                          refine AR.step rfl rfl rfl (AO.build rfl zp_35 spl_35 rfl ?_)
                                          refine AR.cs FX_ok 3 rfl ?_
                                          refine AR.step_none rfl rfl (AO.store_box (i := 0) rfl rfl rfl ti_35 rfl rfl rfl rfl rfl ?_)
                                          refine AR.cs FX_ok 2 rfl ?_
                                          refine AR.nil [4, 5, 6] rfl ?_
                                          refine AW.ret ?_
                                          cases hf
                                          exact ⟨rfl, _, ⟨_, _, rfl, ⟨_, _, 0, _, _, rfl, rfl, ti_35, rfl⟩, _, _, rfl, rfl, _, _, rfl, rfl, rfl⟩, [], List.nil_sublist _, h⟩
                                        · cases h37.symm.trans h38
                                      · replace hf := ite_F h37 hf
                                        refine AW.seq ?_
                                        refine AW.region ?_
                                        refine AR.cs FX_ok 2 rfl ?_
                                        refine AR.nil [0, 1, 4, 8, 9, 10, 11, 12, 28, 29] rfl ?_
                                        refine AW.cond rfl (fun h39 => ?_) (fun h39 => ?_)
                                        · replace hf := ite_T h39 hf
                                          refine AW.skip ?_
                                          refine AW.cond rfl (fun h40 => ?_) (fun h40 => ?_)
                                          · skip
                                            refine AW.seq ?_
                                            refine AW.region ?_
                                            refine AR.cs FX_ok 2 rfl ?_
                                            refine AR.step rfl rfl rfl (AO.build rfl zp_35 spl_35 rfl ?_)
                                            refine AR.cs FX_ok 3 rfl ?_
                                            refine AR.step_none rfl rfl (AO.store_box (i := 0) rfl rfl rfl ti_35 rfl rfl rfl rfl rfl ?_)
                                            refine AR.cs FX_ok 2 rfl ?_
                                            refine AR.nil [4, 5, 6] rfl ?_
                                            refine AW.ret ?_
                                            cases hf
                                            exact ⟨rfl, _, ⟨_, _, rfl, ⟨_, _, 0, _, _, rfl, rfl, ti_35, rfl⟩, _, _, rfl, rfl, _, _, rfl, rfl, rfl⟩, [], List.nil_sublist _, h⟩
                                          · cases h39.symm.trans h40
                                        · replace hf := ite_F h39 hf
                                          refine AW.seq ?_
                                          refine AW.region ?_
                                          refine AR.cs FX_ok 2 rfl ?_
                                          refine AR.nil [0, 1, 4, 8, 9, 10, 11, 12, 28, 29] rfl ?_
                                          refine AW.cond rfl (fun h41 => ?_) (fun h41 => ?_)
                                          · replace hf := ite_T h41 hf
                                            refine AW.skip ?_
                                            refine AW.cond rfl (fun h42 => ?_) (fun h42 => ?_)
                                            · skip
                                              refine AW.seq ?_
                                              refine AW.region ?_
                                              refine AR.cs FX_ok 2 rfl ?_
                                              refine AR.step rfl rfl rfl (AO.build rfl zp_35 spl_35 rfl ?_)
                                              refine AR.cs FX_ok 3 rfl ?_
                                              refine AR.step_none rfl rfl (AO.store_box (i := 0) rfl rfl rfl ti_35 rfl rfl rfl rfl rfl ?_)
                                              refine AR.cs FX_ok 2 rfl ?_
                                              refine AR.nil [4, 5, 6] rfl ?_
                                              refine AW.ret ?_
                                              cases hf
                                              exact ⟨rfl, _, ⟨_, _, rfl, ⟨_, _, 0, _, _, rfl, rfl, ti_35, rfl⟩, _, _, rfl, rfl, _, _, rfl, rfl, rfl⟩, [], List.nil_sublist _, h⟩
                                            · cases h41.symm.trans h42
                                          · replace hf := ite_F h41 hf
                                            refine AW.seq ?_
                                            refine AW.region ?_
                                            refine AR.cs FX_ok 2 rfl ?_
                                            refine AR.nil [0, 1, 4, 8, 9, 10, 11, 12, 28, 29] rfl ?_
                                            refine AW.cond rfl (fun h43 => ?_) (fun h43 => ?_)
                                            · replace hf := ite_T h43 hf
                                              refine AW.skip ?_
                                              refine AW.cond rfl (fun h44 => ?_) (fun h44 => ?_)
                                              · skip
                                                refine AW.seq ?_
                                                refine AW.region ?_
                                                refine AR.cs FX_ok 2 rfl ?_
                                                refine AR.step rfl rfl rfl (AO.build rfl zp_35 spl_35 rfl ?_)
                                                refine AR.cs FX_ok 3 rfl ?_
                                                refine AR.step_none rfl rfl (AO.store_box (i := 0) rfl rfl rfl ti_35 rfl rfl rfl rfl rfl ?_)
                                                refine AR.cs FX_ok 2 rfl ?_
                                                refine AR.nil [4, 5, 6] rfl ?_
                                                refine AW.ret ?_
                                                cases hf
                                                exact ⟨rfl, _, ⟨_, _, rfl, ⟨_, _, 0, _, _, rfl, rfl, ti_35, rfl⟩, _, _, rfl, rfl, _, _, rfl, rfl, rfl⟩, [], List.nil_sublist _, h⟩
                                              · cases h43.symm.trans h44
                                            · replace hf := ite_F h43 hf
                                              refine AW.seq ?_
                                              refine AW.region ?_
                                              refine AR.cs FX_ok 2 rfl ?_
                                              refine AR.nil [0, 1, 4, 8, 9, 10, 11, 12, 28, 29] rfl ?_
                                              refine AW.cond rfl (fun h45 => ?_) (fun h45 => ?_)
                                              · replace hf := ite_T h45 hf
                                                refine AW.skip ?_
                                                refine AW.cond rfl (fun h46 => ?_) (fun h46 => ?_)
                                                · skip
                                                  refine AW.seq ?_
                                                  refine AW.region ?_
                                                  refine AR.cs FX_ok 2 rfl ?_
                                                  refine AR.step rfl rfl rfl (AO.build rfl zp_35 spl_35 rfl ?_)
                                                  refine AR.cs FX_ok 3 rfl ?_
                                                  refine AR.step_none rfl rfl (AO.store_box (i := 0) rfl rfl rfl ti_35 rfl rfl rfl rfl rfl ?_)
                                                  refine AR.cs FX_ok 2 rfl ?_
                                                  refine AR.nil [4, 5, 6] rfl ?_
                                                  refine AW.ret ?_
                                                  cases hf
                                                  exact ⟨rfl, _, ⟨_, _, rfl, ⟨_, _, 0, _, _, rfl, rfl, ti_35, rfl⟩, _, _, rfl, rfl, _, _, rfl, rfl, rfl⟩, [], List.nil_sublist _, h⟩
                                                · cases h45.symm.trans h46
                                              · replace hf := ite_F h45 hf
                                                refine AW.seq ?_
                                                refine AW.region ?_
                                                refine AR.cs FX_ok 2 rfl ?_
                                                refine AR.nil [0, 1, 4, 8, 9, 10, 11, 12, 28, 29] rfl ?_
                                                refine AW.cond rfl (fun h47 => ?_) (fun h47 => ?_)
                                                · replace hf := ite_T h47 hf
                                                  refine AW.skip ?_
                                                  refine AW.cond rfl (fun h48 => ?_) (fun h48 => ?_)
                                                  · skip
                                                    refine AW.seq ?_
                                                    refine AW.region ?_
                                                    refine AR.cs FX_ok 2 rfl ?_
                                                    refine AR.step rfl rfl rfl (AO.build rfl zp_35 spl_35 rfl ?_)
                                                    refine AR.cs FX_ok 3 rfl ?_
                                                    refine AR.step_none rfl rfl (AO.store_box (i := 0) rfl rfl rfl ti_35 rfl rfl rfl rfl rfl ?_)
                                                    refine AR.cs FX_ok 2 rfl ?_
                                                    refine AR.nil [4, 5, 6] rfl ?_
                                                    refine AW.ret ?_
                                                    cases hf
                                                    exact ⟨rfl, _, ⟨_, _, rfl, ⟨_, _, 0, _, _, rfl, rfl, ti_35, rfl⟩, _, _, rfl, rfl, _, _, rfl, rfl, rfl⟩, [], List.nil_sublist _, h⟩
                                                  · cases h47.symm.trans h48
                                                · replace hf := ite_F h47 hf
                                                  refine AW.seq ?_
                                                  refine AW.region ?_
                                                  refine AR.cs FX_ok 2 rfl ?_
                                                  refine AR.nil [0, 1, 4, 8, 9, 10, 11, 12, 28, 29] rfl ?_
                                                  refine AW.cond rfl (fun h49 => ?_) (fun h49 => ?_)
                                                  · replace hf := ite_T h49 hf
                                                    refine AW.skip ?_
                                                    refine AW.cond rfl (fun h50 => ?_) (fun h50 => ?_)
                                                    · skip
                                                      refine AW.seq ?_
                                                      refine AW.region ?_
                                                      refine AR.cs FX_ok 2 rfl ?_
                                                      refine AR.step rfl rfl rfl (AO.build rfl zp_35 spl_35 rfl ?_)
                                                      refine AR.cs FX_ok 3 rfl ?_
                                                      refine AR.step_none rfl rfl (AO.store_box (i := 0) rfl rfl rfl ti_35 rfl rfl rfl rfl rfl ?_)
                                                      refine AR.cs FX_ok 2 rfl ?_
                                                      refine AR.nil [4, 5, 6] rfl ?_
                                                      refine AW.ret ?_
                                                      cases hf
                                                      exact ⟨rfl, _, ⟨_, _, rfl, ⟨_, _, 0, _, _, rfl, rfl, ti_35, rfl⟩, _, _, rfl, rfl, _, _, rfl, rfl, rfl⟩, [], List.nil_sublist _, h⟩
                                                    · cases h49.symm.trans h50
                                                  · replace hf := ite_F h49 hf
                                                    refine AW.seq ?_
                                                    refine AW.region ?_
                                                    refine AR.cs FX_ok 2 rfl ?_
                                                    refine AR.nil [0, 1, 4, 8, 9, 10, 11, 12, 28, 29] rfl ?_
                                                    refine AW.cond rfl (fun h51 => ?_) (fun h51 => ?_)
                                                    · replace hf := ite_T h51 hf
                                                      refine AW.skip ?_
                                                      refine AW.cond rfl (fun h52 => ?_) (fun h52 => ?_)
                                                      · skip
                                                        refine AW.seq ?_
                                                        refine AW.region ?_
                                                        refine AR.cs FX_ok 2 rfl ?_
                                                        refine AR.step rfl rfl rfl (AO.build rfl zp_35 spl_35 rfl ?_)
                                                        refine AR.cs FX_ok 3 rfl ?_
                                                        refine AR.step_none rfl rfl (AO.store_box (i := 0) rfl rfl rfl ti_35 rfl rfl rfl rfl rfl ?_)
                                                        refine AR.cs FX_ok 2 rfl ?_
                                                        refine AR.nil [4, 5, 6] rfl ?_
                                                        refine AW.ret ?_
                                                        cases hf
                                                        exact ⟨rfl, _, ⟨_, _, rfl, ⟨_, _, 0, _, _, rfl, rfl, ti_35, rfl⟩, _, _, rfl, rfl, _, _, rfl, rfl, rfl⟩, [], List.nil_sublist _, h⟩
                                                      · cases h51.symm.trans h52
                                                    · replace hf := ite_F h51 hf
                                                      refine AW.region ?_
                                                      refine AR.cs FX_ok 2 rfl ?_
                                                      refine AR.nil [0, 1, 4, 8, 9, 10, 11, 12, 29] rfl ?_
                                                      refine AW.cond rfl (fun h53 => ?_) (fun h53 => ?_)
                                                      · replace hf := ite_T h53 hf
                                                        refine AW.seq ?_
                                                        refine AW.region ?_
                                                        refine AR.cs FX_ok 2 rfl ?_
                                                        refine AR.step rfl rfl rfl (AO.build rfl zp_35 spl_35 rfl ?_)
                                                        refine AR.cs FX_ok 3 rfl ?_
                                                        refine AR.step_none rfl rfl (AO.store_box (i := 0) rfl rfl rfl ti_35 rfl rfl rfl rfl rfl ?_)
                                                        refine AR.cs FX_ok 2 rfl ?_
                                                        refine AR.nil [4, 5, 6] rfl ?_
                                                        refine AW.ret ?_
                                                        cases hf
                                                        exact ⟨rfl, _, ⟨_, _, rfl, ⟨_, _, 0, _, _, rfl, rfl, ti_35, rfl⟩, _, _, rfl, rfl, _, _, rfl, rfl, rfl⟩, [], List.nil_sublist _, h⟩
                                                      · replace hf := ite_F h53 hf
                                                        refine AW.skip ?_
                                                        refine AW.region ?_
                                                        refine AR.cs FX_ok 2 rfl ?_
                                                        refine AR.nil [0, 1, 4, 10, 11, 12] rfl ?_
                                                        exact ⟨(w64 (x1 + 1)), rfl, rfl, rfl, hf⟩
  · replace hf := ite_F h1 hf
    refine AW.exit ?_
    refine AW.seq ?_
    refine AW.region ?_
    refine AR.step rfl rfl rfl (AO.build rfl zp_35 spl_35 rfl ?_)
    refine AR.step_none rfl rfl (AO.store_box (i := 0) rfl rfl rfl ti_35 rfl rfl rfl rfl rfl ?_)
    refine AR.cs FX_ok 2 rfl ?_
    refine AR.nil [4, 5, 6] rfl ?_
    refine AW.ret ?_
    cases hf
    exact ⟨rfl, _, ⟨_, _, rfl, ⟨_, _, 0, _, _, rfl, rfl, ti_35, rfl⟩, _, _, rfl, rfl, _, _, rfl, rfl, rfl⟩, [], List.nil_sublist _, h⟩

theorem c_lexer_token (src1 : Str) (at1 : Int) {r0 : ApiToken} {r1 : Int} {r2 : Int} (hf : lexer_token src1 at1 = some (r0, r1, r2)) {τ : List Res} {Q : AOut → List Res → Prop} (h : Q (.ret (.tuple [.agg [.int .i64 r0.kind, .str r0.text, .int .i64 r0.at_], .int .i64 r1, .int .i64 r2])) τ) : AC Try.prog 20 [.str src1, .int .i64 at1] τ Q := by
  unfold lexer_token at hf
  refine AC.none ?_
  refine AC.of_body 44 [.cell 4 35, .tmp 5, .tmp 6] [0, 1] Try.func20 rfl rfl rfl rfl rfl ?_
  refine AW.seq ?_
  refine AW.region ?_
  refine AR.step rfl rfl rfl (AO.alloc_own rfl zp_35 (fun b4 => ?_))
  refine AR.cs FX_ok 2 rfl ?_
  refine AR.nil [0, 1, 4] rfl ?_
  refine AW.seq ?_
  refine AW.seq ?_
  refine AW.region ?_
  refine AR.cs FX_ok 2 rfl ?_
  obtain ⟨c1, h1, hf⟩ := bind1_inv hf
  refine AR.step rfl rfl rfl (AO.idx_str h1 rfl un_9 rfl rfl ?_)
  refine AR.cs FX_ok 1 rfl ?_
  refine AR.nil [0, 1, 4, 7] rfl ?_
  refine AW.block ?_
  refine AW.seq ?_
  refine AW.region ?_
  refine AR.cs FX_ok 1 rfl ?_
  obtain ⟨x1, h2, hf⟩ := bind1_inv hf
  refine AR.step rfl rfl rfl (AO.call rfl _ rfl rfl pf_29 (c_lexer_letter _ h2 ?_))
  refine AR.cs FX_ok 1 rfl ?_
  refine AR.nil [0, 1, 4, 7, 11] rfl ?_
  refine AW.cond rfl (fun h3 => ?_) (fun h3 => ?_)
  · replace hf := ite_T h3 hf
    refine AW.seq ?_
    refine AW.region ?_
    refine AR.cs FX_ok 2 rfl ?_
    replace hf := (bind3_ret _).trans hf
    obtain ⟨x2, x3, x4, h4, hf⟩ := bind3_inv hf
    refine AR.step rfl rfl rfl (AO.call rfl _ rfl rfl pf_30 (c_lexer_name _ _ h4 ?_))
    refine AR.cs FX_ok 3 rfl ?_
    refine AR.step_none rfl rfl (AO.store_box (i := 0) rfl rfl rfl ti_35 rfl rfl rfl rfl rfl ?_)
    refine AR.cs FX_ok 2 rfl ?_
    refine AR.nil [4, 5, 6] rfl ?_
    refine AW.ret ?_
    cases hf
    exact ⟨rfl, _, ⟨_, _, rfl, ⟨_, _, 0, _, _, rfl, rfl, ti_35, rfl⟩, _, _, rfl, rfl, _, _, rfl, rfl, rfl⟩, [], List.nil_sublist _, h⟩
  · replace hf := ite_F h3 hf
    refine AW.seq ?_
    refine AW.region ?_
    refine AR.cs FX_ok 1 rfl ?_
    obtain ⟨x5, h5, hf⟩ := bind1_inv hf
    refine AR.step rfl rfl rfl (AO.call rfl _ rfl rfl pf_31 (c_lexer_digit _ h5 ?_))
    refine AR.cs FX_ok 1 rfl ?_
    refine AR.nil [0, 1, 4, 7, 20] rfl ?_
    refine AW.cond rfl (fun h6 => ?_) (fun h6 => ?_)
    · replace hf := ite_T h6 hf
      refine AW.seq ?_
      refine AW.region ?_
      refine AR.cs FX_ok 2 rfl ?_
      replace hf := (bind3_ret _).trans hf
      obtain ⟨x6, x7, x8, h7, hf⟩ := bind3_inv hf
      refine AR.step rfl rfl rfl (AO.call rfl _ rfl rfl pf_32 (c_lexer_number _ _ h7 ?_))
      refine AR.cs FX_ok 3 rfl ?_
      refine AR.step_none rfl rfl (AO.store_box (i := 0) rfl rfl rfl ti_35 rfl rfl rfl rfl rfl ?_)
      refine AR.cs FX_ok 2 rfl ?_
      refine AR.nil [4, 5, 6] rfl ?_
      refine AW.ret ?_
      cases hf
      exact ⟨rfl, _, ⟨_, _, rfl, ⟨_, _, 0, _, _, rfl, rfl, ti_35, rfl⟩, _, _, rfl, rfl, _, _, rfl, rfl, rfl⟩, [], List.nil_sublist _, h⟩
    · replace hf := ite_F h6 hf
      refine AW.seq ?_
      refine AW.region ?_
      refine AR.cs FX_ok 3 rfl ?_
      refine AR.nil [0, 1, 4, 29] rfl ?_
      refine AW.cond rfl (fun h8 => ?_) (fun h8 => ?_)
      · replace hf := ite_T h8 hf
        refine AW.seq ?_
        refine AW.region ?_
        refine AR.cs FX_ok 2 rfl ?_
        replace hf := (bind3_ret _).trans hf
        obtain ⟨x9, x10, x11, h9, hf⟩ := bind3_inv hf
        refine AR.step rfl rfl rfl (AO.call rfl _ rfl rfl pf_33 (c_lexer_text _ _ h9 ?_))
        refine AR.cs FX_ok 3 rfl ?_
        refine AR.step_none rfl rfl (AO.store_box (i := 0) rfl rfl rfl ti_35 rfl rfl rfl rfl rfl ?_)
        refine AR.cs FX_ok 2 rfl ?_
        refine AR.nil [4, 5, 6] rfl ?_
        refine AW.ret ?_
        cases hf
        exact ⟨rfl, _, ⟨_, _, rfl, ⟨_, _, 0, _, _, rfl, rfl, ti_35, rfl⟩, _, _, rfl, rfl, _, _, rfl, rfl, rfl⟩, [], List.nil_sublist _, h⟩
      · replace hf := ite_F h8 hf
        refine AW.skip ?_
        refine AW.seq ?_
        refine AW.region ?_
        refine AR.cs FX_ok 2 rfl ?_
        replace hf := (bind3_ret _).trans hf
        obtain ⟨x12, x13, x14, h10, hf⟩ := bind3_inv hf
        refine AR.step rfl rfl rfl (AO.call rfl _ rfl rfl pf_34 (c_lexer_operator _ _ h10 ?_))
        refine AR.cs FX_ok 3 rfl ?_
        refine AR.step_none rfl rfl (AO.store_box (i := 0) rfl rfl rfl ti_35 rfl rfl rfl rfl rfl ?_)
        refine AR.cs FX_ok 2 rfl ?_
        refine AR.nil [4, 5, 6] rfl ?_
        refine AW.ret ?_
        cases hf
        exact ⟨rfl, _, ⟨_, _, rfl, ⟨_, _, 0, _, _, rfl, rfl, ti_35, rfl⟩, _, _, rfl, rfl, _, _, rfl, rfl, rfl⟩, [], List.nil_sublist _, h⟩

theorem c_lexer_brackets (op1 : Str) (open1 : Int) {r0 : Int} (hf : lexer_brackets op1 open1 = some r0) {τ : List Res} {Q : AOut → List Res → Prop} (h : Q (.ret (.int .i64 r0)) τ) : AC Try.prog 21 [.str op1, .int .i64 open1] τ Q := by
  unfold lexer_brackets at hf
  refine AC.none ?_
  refine AC.of_body 18 [.tmp 4] [0, 1] Try.func21 rfl rfl rfl rfl rfl ?_
  refine AW.seq ?_
  refine AW.region ?_
  refine AR.cs FX_ok 1 rfl ?_
  refine AR.nil [0, 1] rfl ?_
  refine AW.seq ?_
  refine AW.seq ?_
  refine AW.region ?_
  refine AR.cs FX_ok 1 rfl ?_
  refine AR.nil [1, 5] rfl ?_
  refine AW.block ?_
  refine AW.seq ?_
  refine AW.seq ?_
  refine AW.region ?_
  refine AR.cs FX_ok 2 rfl ?_
  refine AR.nil [1, 5, 6] rfl ?_
  refine AW.cond rfl (fun h1 => ?_) (fun h1 => ?_)
  · replace hf := ite_T h1 hf
    refine AW.skip ?_
    refine AW.cond rfl (fun h2 => ?_) (fun h2 => ?_)
    · skip
      refine AW.seq ?_
      refine AW.region ?_
      refine AR.cs FX_ok 3 rfl ?_
      refine AR.nil [4] rfl ?_
      refine AW.ret ?_
      cases hf
      exact ⟨rfl, _, ⟨_, _, rfl, rfl, rfl⟩, [], List.nil_sublist _, h⟩
    · cases h1.symm.trans h2
  · replace hf := ite_F h1 hf
    refine AW.region ?_
    refine AR.cs FX_ok 2 rfl ?_
    refine AR.nil [1, 5, 6] rfl ?_
    refine AW.cond rfl (fun h3 => ?_) (fun h3 => ?_)
    · replace hf := ite_T h3 hf
      refine AW.seq ?_
      refine AW.region ?_
      refine AR.cs FX_ok 3 rfl ?_
      refine AR.nil [4] rfl ?_
      refine AW.ret ?_
      cases hf
      exact ⟨rfl, _, ⟨_, _, rfl, rfl, rfl⟩, [], List.nil_sublist _, h⟩
    · replace hf := ite_F h3 hf
      refine AW.seq ?_
      refine AW.seq ?_
      refine AW.region ?_
      refine AR.cs FX_ok 2 rfl ?_
      refine AR.nil [1, 5, 11] rfl ?_
      refine AW.cond rfl (fun h4 => ?_) (fun h4 => ?_)
      · replace hf := ite_T h4 hf
        refine AW.skip ?_
        refine AW.cond rfl (fun h5 => ?_) (fun h5 => ?_)
        · skip
          refine AW.seq ?_
          refine AW.region ?_
          refine AR.cs FX_ok 2 rfl ?_
          refine AR.step rfl rfl rfl (AO.max2 rfl rfl rfl rfl rfl ?_)
          refine AR.cs FX_ok 1 rfl ?_
          refine AR.nil [4] rfl ?_
          refine AW.ret ?_
          cases hf
          exact ⟨rfl, _, ⟨_, _, rfl, rfl, rfl⟩, [], List.nil_sublist _, h⟩
        · cases h4.symm.trans h5
      · replace hf := ite_F h4 hf
        refine AW.region ?_
        refine AR.cs FX_ok 2 rfl ?_
        refine AR.nil [1, 11] rfl ?_
        refine AW.cond rfl (fun h6 => ?_) (fun h6 => ?_)
        · replace hf := ite_T h6 hf
          refine AW.seq ?_
          refine AW.region ?_
          refine AR.cs FX_ok 2 rfl ?_
          refine AR.step rfl rfl rfl (AO.max2 rfl rfl rfl rfl rfl ?_)
          refine AR.cs FX_ok 1 rfl ?_
          refine AR.nil [4] rfl ?_
          refine AW.ret ?_
          cases hf
          exact ⟨rfl, _, ⟨_, _, rfl, rfl, rfl⟩, [], List.nil_sublist _, h⟩
        · replace hf := ite_F h6 hf
          refine AW.skip ?_
          refine AW.seq ?_
          refine AW.region ?_
          refine AR.cs FX_ok 2 rfl ?_
          refine AR.nil [4] rfl ?_
          refine AW.ret ?_
          cases hf
          exact ⟨rfl, _, ⟨_, _, rfl, rfl, rfl⟩, [], List.nil_sublist _, h⟩

theorem c_lexer_Tokens (src1 : Str) {r0 : List ApiToken} {r1 : Int} {r2 : Int} (hf : lexer_Tokens src1 = some (r0, r1, r2)) {τ : List Res} {Q : AOut → List Res → Prop} (h : Q (.ret (.tuple [.list (List.map ApiToken.cells r0), .int .i64 r1, .int .i64 r2])) τ) : AC Try.prog 10 [.str src1] τ Q := by
  unfold lexer_Tokens at hf
  refine AC.none ?_
  refine AC.of_body 84 [.tmp 2, .tmp 3, .tmp 4] [0] Try.func10 rfl rfl rfl rfl rfl ?_
  refine AW.seq ?_
  refine AW.region ?_
  refine AR.step rfl rfl rfl (AO.nil_list rfl rfl ?_)
  refine AR.cs FX_ok 2 rfl ?_
  refine AR.nil [0] rfl ?_
  refine AW.seq ?_
  refine AW.seq ?_
  refine AW.region ?_
  refine AR.cs FX_ok 1 rfl ?_
  refine AR.step rfl rfl rfl (AO.len_str rfl rfl rfl rfl un_9 rfl ?_)
  refine AR.cs FX_ok 1 rfl ?_
  refine AR.nil [0, 16] rfl ?_
  refine AW.cond rfl (fun h1 => ?_) (fun h1 => ?_)
  · replace hf := ite_T h1 hf
    refine AW.seq ?_
    refine AW.region ?_
    refine AR.step rfl rfl rfl (AO.nil_list rfl rfl ?_)
    refine AR.cs FX_ok 2 rfl ?_
    refine AR.nil [2, 3, 4] rfl ?_
    refine AW.ret ?_
    cases hf
    exact ⟨rfl, _, ⟨_, _, rfl, rfl, _, _, rfl, rfl, _, _, rfl, rfl, rfl⟩, [], List.nil_sublist _, h⟩
  · replace hf := ite_F h1 hf
    refine AW.skip ?_
    refine AW.seq ?_
    refine AW.region ?_
    refine AR.cs FX_ok 1 rfl ?_
    refine AR.nil [0, 5] rfl ?_
    refine AW.seq ?_
    refine AW.region ?_
    refine AR.cs FX_ok 1 rfl ?_
    refine AR.nil [0, 5, 6] rfl ?_
    refine AW.seq ?_
    refine AW.region ?_
    refine AR.cs FX_ok 2 rfl ?_
    refine AR.nil [0, 5, 6, 7, 8] rfl ?_
    refine AW.seq ?_
    refine AW.seq ?_
    refine AW.region ?_
    refine AR.cs FX_ok 1 rfl ?_
    refine AR.step rfl rfl rfl (AO.range_str rfl un_9 rfl (fun it18 => ?_))
    refine AR.nil [0, 5, 6, 7, 8, 18] rfl ?_
    refine AW.block ?_
    refine AW.row 3 35 ?_
    refine AW.settle [0, 5, 6, 7, 8, 18] rfl ?_
    refine AW.loopF5 (fun out1 v1 next1 open1 pos1 => [(0, .str src1), (5, .own v1 (List.map ApiToken.cells out1)), (6, .fn 17 []), (7, .int .i64 next1), (8, .int .i64 open1), (18, .val (.pointer (some ⟨it18, 0, none⟩)))]) (fun out1 v1 next1 open1 pos1 => [.row v1 (List.map ApiToken.cells out1).length 3 35, .obj it18 (.stringIter ⟨List.toArray src1⟩ pos1)]) (fun k out1 v1 next1 open1 pos1 => lexer_Tokens_l1 src1 k out1 next1 open1 pos1 = some (r0, r1, r2)) BIG [] (.slice none 0 0) 0 0 0 rfl rfl hf (fun _ _ _ _ _ hz => none_no hz) ?_
    intro k out1 v1 next1 open1 pos1 hf
    rw [lexer_Tokens_l1] at hf
    refine AW.seq ?_
    refine AW.region ?_
    rcases Bool.eq_false_or_eq_true (decide (pos1 < src1.length)) with h2 | h2
    · replace hf := ite_T h2 hf
      refine AR.step rfl rfl rfl (AO.next_str (i := 1) rfl rfl rfl h2 ?_)
      refine AR.cs FX_ok 1 rfl ?_
      refine AR.nil [0, 5, 6, 7, 8, 18, 19, 20] rfl ?_
      refine AW.seq ?_
      refine AW.cond rfl (fun h3 => ?_) (fun h3 => ?_)
      · skip
        refine AW.skip ?_
        refine AW.block ?_
        refine AW.seq ?_
        refine AW.region ?_
        refine AR.cs FX_ok 4 rfl ?_
        refine AR.nil [0, 5, 6, 7, 8, 9, 10, 18] rfl ?_
        refine AW.seq ?_
        refine AW.seq ?_
        refine AW.region ?_
        refine AR.cs FX_ok 4 rfl ?_
        obtain ⟨b1, h5, hf⟩ := bind1_inv hf
        refine AR.join1 4 26 30 false [0, 5, 6, 7, 8, 9, 10, 18] b1 rfl rfl (fun h4 => ?_) (fun h4 => ?_) ?_
        · skip
          replace h5 := ite_F h4 h5
          refine AR.is 26 h4 rfl ?_
          refine AR.cs FX_ok 2 rfl ?_
          replace h5 := (bind1_ret _).trans h5
          obtain ⟨x1, h6, h5⟩ := bind1_inv h5
          refine AR.go rfl rfl rfl rfl rfl rfl (AO.call rfl _ rfl rfl pf_17 (c_lexer_Tokens_1 _ h6 ?_))
          cases h5
          refine AR.cs FX_ok 1 rfl ?_
          refine AR.nil [30, 0, 5, 6, 7, 8, 9, 10, 18] rfl ?_
          exact ⟨rfl, rfl, rfl, rfl⟩
        · skip
          replace h5 := ite_T h4 h5
          refine AR.is 26 h4 rfl ?_
          cases h5
          refine AR.cs FX_ok 4 rfl ?_
          refine AR.nil [30, 0, 5, 6, 7, 8, 9, 10, 18] rfl ?_
          exact ⟨rfl, rfl, rfl, rfl⟩
        refine AR.nil [0, 5, 6, 7, 8, 9, 10, 18, 30] rfl ?_
        refine AW.cond rfl (fun h7 => ?_) (fun h7 => ?_)
        · replace hf := ite_T h7 hf
          refine AW.settle [0, 5, 6, 7, 8, 18] rfl ?_
          refine AW.exit ?_
          exact ⟨out1, v1, next1, open1, (pos1 + (dec src1 pos1).2), rfl, rfl, rfl, hf⟩
        · replace hf := ite_F h7 hf
          refine AW.skip ?_
          refine AW.seq ?_
          refine AW.seq ?_
          refine AW.region ?_
          refine AR.cs FX_ok 2 rfl ?_
          refine AR.nil [0, 5, 6, 7, 8, 9, 10, 18, 32] rfl ?_
          refine AW.cond rfl (fun h8 => ?_) (fun h8 => ?_)
          · replace hf := ite_T h8 hf
            refine AW.seq ?_
            refine AW.region ?_
            refine AR.cs FX_ok 2 rfl ?_
            obtain ⟨next2, h9, hf⟩ := bind1_inv hf
            refine AR.step rfl rfl rfl (AO.call rfl _ rfl rfl pf_18 (c_lexer_while _ _ lexer_Tokens_2 19 [] pf_19 (fun _ _ hz => c_lexer_Tokens_2 _  hz) h9 ?_))
            refine AR.cs FX_ok 1 rfl ?_
            refine AR.nil [0, 5, 6, 7, 8, 18] rfl ?_
            refine AW.exit ?_
            exact ⟨out1, v1, next2, open1, (pos1 + (dec src1 pos1).2), rfl, rfl, rfl, hf⟩
          · replace hf := ite_F h8 hf
            refine AW.skip ?_
            refine AW.seq ?_
            refine AW.seq ?_
            refine AW.region ?_
            refine AR.cs FX_ok 2 rfl ?_
            refine AR.nil [0, 5, 6, 7, 8, 9, 18, 37] rfl ?_
            refine AW.cond rfl (fun h10 => ?_) (fun h10 => ?_)
            · replace hf := ite_T h10 hf
              refine AW.seq ?_
              refine AW.seq ?_
              refine AW.region ?_
              refine AR.cs FX_ok 3 rfl ?_
              obtain ⟨b2, h12, hf⟩ := bind1_inv hf
              refine AR.join1 14 40 54 true [0, 5, 6, 7, 8, 9, 18] b2 rfl rfl (fun h11 => ?_) (fun h11 => ?_) ?_
              · skip
                replace h12 := ite_T h11 h12
                refine AR.is 40 h11 rfl ?_
                refine AR.cs FX_ok 1 rfl ?_
                refine AR.go rfl rfl rfl rfl rfl rfl (AO.len_list (l := out1) rfl rfl rfl rfl es_23 rfl rfl ?_)
                refine AR.cs FX_ok 2 rfl ?_
                replace h12 := (bind1_ret _).trans h12
                obtain ⟨b3, h14, h12⟩ := bind1_inv h12
                refine AR.join1 9 44 53 false [0, 5, 6, 7, 8, 9, 18, 40] b3 rfl rfl (fun h13 => ?_) (fun h13 => ?_) ?_
                · skip
                  replace h14 := ite_F h13 h14
                  refine AR.is 44 h13 rfl ?_
                  refine AR.cs FX_ok 2 rfl ?_
                  refine AR.go rfl rfl rfl rfl rfl rfl (AO.len_list (l := out1) rfl rfl rfl rfl es_23 rfl rfl ?_)
                  refine AR.cs FX_ok 1 rfl ?_
                  obtain ⟨e1, h15, h14⟩ := bind1_inv h14
                  refine AR.go rfl rfl rfl rfl rfl rfl (AO.idx_list h15 rfl rfl rfl rfl es_23 (ApiToken.cells_eq _) rfl ?_)
                  refine AR.cs FX_ok 3 rfl ?_
                  cases h14
                  refine AR.cs FX_ok 1 rfl ?_
                  refine AR.nil [53, 0, 5, 6, 7, 8, 9, 18, 40] rfl ?_
                  exact ⟨rfl, rfl, rfl, rfl⟩
                · skip
                  replace h14 := ite_T h13 h14
                  refine AR.is 44 h13 rfl ?_
                  cases h14
                  refine AR.cs FX_ok 9 rfl ?_
                  refine AR.nil [53, 0, 5, 6, 7, 8, 9, 18, 40] rfl ?_
                  exact ⟨rfl, rfl, rfl, rfl⟩
                cases h12
                refine AR.cs FX_ok 1 rfl ?_
                refine AR.nil [54, 0, 5, 6, 7, 8, 9, 18] rfl ?_
                exact ⟨rfl, rfl, rfl, rfl⟩
              · skip
                replace h12 := ite_F h11 h12
                refine AR.is 40 h11 rfl ?_
                cases h12
                refine AR.cs FX_ok 14 rfl ?_
                refine AR.nil [54, 0, 5, 6, 7, 8, 9, 18] rfl ?_
                exact ⟨rfl, rfl, rfl, rfl⟩
              refine AR.nil [0, 5, 6, 7, 8, 9, 18, 54] rfl ?_
              refine AW.cond rfl (fun h16 => ?_) (fun h16 => ?_)
              · replace hf := ite_T h16 hf
                refine AW.region ?_
                refine AR.cs FX_ok 2 rfl ?_
                refine AR.step rfl rfl rfl (AO.build rfl zp_35 spl_35 rfl ?_)
                refine AR.step rfl rfl rfl (AO.buildSliceF (List.map ApiToken.cells [(ApiToken.mk 5 ([] : Str) (pos1 : Int))]) rfl sf_23 rfl rfl rfl (by first | rfl | simp only [List.map, ApiToken.cells_eq]) ?_)
                obtain ⟨out2, h17, hf⟩ := bind1_inv hf
                refine AR.step rfl rfl rfl (AO.app_own (i := 0) (l := out1) (m := [(ApiToken.mk 5 ([] : Str) (pos1 : Int))]) h17 rfl rfl rfl rfl rfl rfl rfl sf_23 es_23 rfl rfl rfl (ApiToken.cells_len) (ApiToken.cells_one) (by decide) (fun v2 s1 hs1 => ?_))
                cases hs1
                refine AR.cs FX_ok 1 rfl ?_
                refine AR.nil [0, 5, 6, 7, 8, 18] rfl ?_
                refine AW.exit ?_
                exact ⟨out2, v2, next1, open1, (pos1 + (dec src1 pos1).2), rfl, rfl, rfl, hf⟩
              · replace hf := ite_F h16 hf
                refine AW.skip ?_
                refine AW.settle [0, 5, 6, 7, 8, 18] rfl ?_
                refine AW.exit ?_
                exact ⟨out1, v1, next1, open1, (pos1 + (dec src1 pos1).2), rfl, rfl, rfl, hf⟩
            · replace hf := ite_F h10 hf
              refine AW.skip ?_
              refine AW.seq ?_
              refine AW.region ?_
              refine AR.cs FX_ok 2 rfl ?_
              obtain ⟨x2, end1, e2, h18, hf⟩ := bind3_inv hf
              refine AR.step rfl rfl rfl (AO.call rfl _ rfl rfl pf_20 (c_lexer_token _ _ h18 ?_))
              refine AR.cs FX_ok 4 rfl ?_
              refine AR.step rfl rfl rfl (AO.alloc_own rfl zp_35 (fun b11 => ?_))
              refine AR.step_none rfl rfl (AO.store_box (i := 0) rfl rfl rfl ti_35 rfl rfl rfl rfl rfl ?_)
              refine AR.cs FX_ok 2 rfl ?_
              refine AR.nil [0, 5, 6, 8, 9, 11, 12, 13, 18] rfl ?_
              refine AW.seq ?_
              refine AW.seq ?_
              refine AW.region ?_
              refine AR.cs FX_ok 2 rfl ?_
              refine AR.nil [0, 5, 6, 8, 9, 11, 12, 13, 18, 68] rfl ?_
              refine AW.cond rfl (fun h19 => ?_) (fun h19 => ?_)
              · replace hf := ite_T h19 hf
                refine AW.seq ?_
                refine AW.region ?_
                refine AR.cs FX_ok 2 rfl ?_
                refine AR.step rfl rfl rfl (AO.nil_list rfl rfl ?_)
                refine AR.cs FX_ok 2 rfl ?_
                refine AR.nil [2, 3, 4] rfl ?_
                refine AW.ret ?_
                cases hf
                exact ⟨rfl, _, ⟨_, _, rfl, rfl, _, _, rfl, rfl, _, _, rfl, rfl, rfl⟩, [], List.nil_sublist _, h⟩
              · replace hf := ite_F h19 hf
                refine AW.skip ?_
                refine AW.seq ?_
                refine AW.seq ?_
                refine AW.region ?_
                refine AR.cs FX_ok 1 rfl ?_
                refine AR.step rfl rfl rfl (AO.load_box (i := 0) rfl rfl rfl ti_3 rfl rfl ?_)
                refine AR.cs FX_ok 1 rfl ?_
                refine AR.nil [0, 5, 6, 8, 11, 12, 18, 73] rfl ?_
                refine AW.cond rfl (fun h20 => ?_) (fun h20 => ?_)
                · replace hf := ite_T h20 hf
                  refine AW.region ?_
                  refine AR.cs FX_ok 1 rfl ?_
                  refine AR.step rfl rfl rfl (AO.load_box (i := 0) rfl rfl rfl ti_9 rfl rfl ?_)
                  refine AR.cs FX_ok 1 rfl ?_
                  obtain ⟨open2, h21, hf⟩ := bind1_inv hf
                  refine AR.step rfl rfl rfl (AO.call rfl _ rfl rfl pf_21 (c_lexer_brackets _ _ h21 ?_))
                  refine AR.cs FX_ok 1 rfl ?_
                  refine AR.nil [0, 5, 6, 8, 11, 12, 18] rfl ?_
                  refine AW.seq ?_
                  refine AW.region ?_
                  refine AR.cs FX_ok 1 rfl ?_
                  refine AR.step rfl rfl rfl (AO.load_box (i := 0) rfl rfl rfl ti_35 rfl rfl ?_)
                  refine AR.step rfl rfl rfl (AO.buildSliceF (List.map ApiToken.cells [x2]) rfl sf_23 rfl rfl rfl (by first | rfl | simp only [List.map, ApiToken.cells_eq]) ?_)
                  obtain ⟨out3, h22, hf⟩ := bind1_inv hf
                  refine AR.step rfl rfl rfl (AO.app_own (i := 1) (l := out1) (m := [x2]) h22 rfl rfl rfl rfl rfl rfl rfl sf_23 es_23 rfl rfl rfl (ApiToken.cells_len) (ApiToken.cells_one) (by decide) (fun v3 s2 hs2 => ?_))
                  cases hs2
                  refine AR.cs FX_ok 1 rfl ?_
                  refine AR.nil [0, 5, 6, 8, 12, 18] rfl ?_
                  refine AW.region ?_
                  refine AR.cs FX_ok 2 rfl ?_
                  refine AR.drop1 ?_
                  refine AR.nil [0, 5, 6, 7, 8, 18] rfl ?_
                  exact ⟨out3, v3, end1, open2, (pos1 + (dec src1 pos1).2), rfl, rfl, rfl, hf⟩
                · replace hf := ite_F h20 hf
                  refine AW.skip ?_
                  refine AW.seq ?_
                  refine AW.region ?_
                  refine AR.cs FX_ok 1 rfl ?_
                  refine AR.step rfl rfl rfl (AO.load_box (i := 0) rfl rfl rfl ti_35 rfl rfl ?_)
                  refine AR.step rfl rfl rfl (AO.buildSliceF (List.map ApiToken.cells [x2]) rfl sf_23 rfl rfl rfl (by first | rfl | simp only [List.map, ApiToken.cells_eq]) ?_)
                  obtain ⟨out4, h23, hf⟩ := bind1_inv hf
                  refine AR.step rfl rfl rfl (AO.app_own (i := 1) (l := out1) (m := [x2]) h23 rfl rfl rfl rfl rfl rfl rfl sf_23 es_23 rfl rfl rfl (ApiToken.cells_len) (ApiToken.cells_one) (by decide) (fun v4 s3 hs3 => ?_))
                  cases hs3
                  refine AR.cs FX_ok 1 rfl ?_
                  refine AR.nil [0, 5, 6, 8, 12, 18] rfl ?_
                  refine AW.region ?_
                  refine AR.cs FX_ok 2 rfl ?_
                  refine AR.drop1 ?_
                  refine AR.nil [0, 5, 6, 7, 8, 18] rfl ?_
                  exact ⟨out4, v4, end1, open1, (pos1 + (dec src1 pos1).2), rfl, rfl, rfl, hf⟩
      · cases h3
    · replace hf := ite_F h2 hf
      refine AR.step rfl rfl rfl (AO.next_over (i := 1) rfl rfl rfl h2 ?_)
      refine AR.cs FX_ok 1 rfl ?_
      refine AR.nil [0, 5, 6, 7, 8, 18, 19, 20] rfl ?_
      refine AW.seq ?_
      refine AW.cond rfl (fun h24 => ?_) (fun h24 => ?_)
      · cases h24
      · skip
        refine AW.exit ?_
        refine AW.seq ?_
        refine AW.region ?_
        refine AR.cs FX_ok 4 rfl ?_
        refine AR.nil [2, 3, 4] rfl ?_
        refine AW.ret ?_
        cases hf
        exact ⟨rfl, _, ⟨_, _, rfl, rfl, _, _, rfl, rfl, _, _, rfl, rfl, rfl⟩, [], List.nil_sublist _, h⟩

theorem c_r09_Same (a1 : List ApiToken) (b1 : List ApiToken) (indices1 : Bool) {r0 : Bool} (hf : r09_Same a1 b1 indices1 = some r0) {τ : List Res} {Q : AOut → List Res → Prop} (h : Q (.ret (.bool r0)) τ) : AC Try.prog 12 [.list (List.map ApiToken.cells a1), .list (List.map ApiToken.cells b1), .bool indices1] τ Q := by
  unfold r09_Same at hf
  refine AC.none ?_
  refine AC.of_body 59 [.tmp 6] [0, 1, 2] Try.func12 rfl rfl rfl rfl rfl ?_
  refine AW.seq ?_
  refine AW.region ?_
  refine AR.cs FX_ok 1 rfl ?_
  refine AR.nil [0, 1, 2] rfl ?_
  refine AW.seq ?_
  refine AW.seq ?_
  refine AW.region ?_
  refine AR.cs FX_ok 1 rfl ?_
  refine AR.step rfl rfl rfl (AO.len_list (l := a1) rfl rfl rfl rfl es_23 rfl rfl ?_)
  refine AR.cs FX_ok 1 rfl ?_
  refine AR.step rfl rfl rfl (AO.len_list (l := b1) rfl rfl rfl rfl es_23 rfl rfl ?_)
  refine AR.cs FX_ok 1 rfl ?_
  refine AR.nil [0, 1, 2, 12] rfl ?_
  refine AW.cond rfl (fun h1 => ?_) (fun h1 => ?_)
  · replace hf := ite_T h1 hf
    refine AW.seq ?_
    refine AW.region ?_
    refine AR.cs FX_ok 1 rfl ?_
    refine AR.nil [6] rfl ?_
    refine AW.ret ?_
    cases hf
    exact ⟨rfl, _, ⟨_, _, rfl, rfl, rfl⟩, [], List.nil_sublist _, h⟩
  · replace hf := ite_F h1 hf
    refine AW.skip ?_
    refine AW.seq ?_
    refine AW.seq ?_
    refine AW.region ?_
    refine AR.cs FX_ok 1 rfl ?_
    refine AR.nil [0, 1, 2, 7] rfl ?_
    refine AW.block ?_
    refine AW.settle [0, 1, 2, 7] rfl ?_
    refine AW.loopF1 (fun i1 => [(0, .list (List.map ApiToken.cells a1)), (1, .list (List.map ApiToken.cells b1)), (2, .bool indices1), (7, .int .i64 i1)]) (fun i1 => []) (fun k i1 => r09_Same_l1 a1 b1 indices1 k i1 = some r0) BIG 0 rfl rfl hf (fun _ hz => none_no hz) ?_
    intro k i1 hf
    rw [r09_Same_l1] at hf
    refine AW.seq ?_
    refine AW.seq ?_
    refine AW.region ?_
    refine AR.cs FX_ok 2 rfl ?_
    refine AR.step rfl rfl rfl (AO.len_list (l := a1) rfl rfl rfl rfl es_23 rfl rfl ?_)
    refine AR.cs FX_ok 1 rfl ?_
    refine AR.nil [0, 1, 2, 7, 16] rfl ?_
    refine AW.cond rfl (fun h2 => ?_) (fun h2 => ?_)
    · replace hf := ite_T h2 hf
      refine AW.skip ?_
      refine AW.seq ?_
      refine AW.block ?_
      refine AW.seq ?_
      refine AW.draw 40 mixed (by kernel_rfl) rfl ?_
      refine Ev.cs FX_ok 2 rfl ?_
      obtain ⟨e1, h3, hf⟩ := bind1_inv hf
      refine Ev.cons rfl rfl rfl (AO.idx_list h3 rfl rfl rfl rfl es_23 (ApiToken.cells_eq _) rfl ⟨rfl, rfl⟩) ?_
      refine Ev.cs FX_ok 4 rfl ?_
      obtain ⟨e2, h4, hf⟩ := bind1_inv hf
      refine Ev.cons rfl rfl rfl (AO.idx_list h4 rfl rfl rfl rfl es_23 (ApiToken.cells_eq _) rfl ⟨rfl, rfl⟩) ?_
      refine Ev.cs FX_ok 4 rfl ?_
      obtain ⟨b2, h6, hf⟩ := bind1_inv hf
      refine Ev.join1 hKA 12 30 42 false [0, 1, 2, 7] (.bool b2) rfl rfl (fun h5 => ?_) (fun h5 => ?_) ?_
      · skip
        replace h6 := ite_F h5 h6
        refine Ev.is hKL 30 h5 rfl ?_
        refine Ev.cs FX_ok 2 rfl ?_
        obtain ⟨e3, h7, h6⟩ := bind1_inv h6
        refine Ev.run rfl rfl rfl rfl rfl rfl rfl (AO.idx_list h7 rfl rfl rfl rfl es_23 (ApiToken.cells_eq _) rfl ⟨rfl, rfl⟩) ?_
        refine Ev.cs FX_ok 4 rfl ?_
        obtain ⟨e4, h8, h6⟩ := bind1_inv h6
        refine Ev.run rfl rfl rfl rfl rfl rfl rfl (AO.idx_list h8 rfl rfl rfl rfl es_23 (ApiToken.cells_eq _) rfl ⟨rfl, rfl⟩) ?_
        refine Ev.cs FX_ok 3 rfl ?_
        cases h6
        refine Ev.cs FX_ok 1 rfl ?_
        exact Ev.nil (Less.settle (ps := [42, 0, 1, 2, 7]) rfl)
      · skip
        replace h6 := ite_T h5 h6
        refine Ev.is hKL 30 h5 rfl ?_
        cases h6
        refine Ev.cs FX_ok 12 rfl ?_
        exact Ev.nil (Less.settle (ps := [42, 0, 1, 2, 7]) rfl)
      refine Ev.cs FX_ok 1 rfl ?_
      obtain ⟨b3, h10, hf⟩ := bind1_inv hf
      refine Ev.join1 hKA 15 43 58 false [0, 1, 2, 7] (.bool b3) rfl rfl (fun h9 => ?_) (fun h9 => ?_) ?_
      · skip
        replace h10 := ite_F h9 h10
        refine Ev.is hKL 43 h9 rfl ?_
        refine Ev.cs FX_ok 2 rfl ?_
        replace h10 := (bind1_ret _).trans h10
        obtain ⟨b4, h12, h10⟩ := bind1_inv h10
        refine Ev.join1 hKL 12 45 57 true [0, 1, 2, 7, 43] (.bool b4) rfl rfl (fun h11 => ?_) (fun h11 => ?_) ?_
        · skip
          replace h12 := ite_T h11 h12
          refine Ev.is hKL 45 h11 rfl ?_
          refine Ev.cs FX_ok 2 rfl ?_
          obtain ⟨e5, h13, h12⟩ := bind1_inv h12
          refine Ev.run rfl rfl rfl rfl rfl rfl rfl (AO.idx_list h13 rfl rfl rfl rfl es_23 (ApiToken.cells_eq _) rfl ⟨rfl, rfl⟩) ?_
          refine Ev.cs FX_ok 4 rfl ?_
          obtain ⟨e6, h14, h12⟩ := bind1_inv h12
          refine Ev.run rfl rfl rfl rfl rfl rfl rfl (AO.idx_list h14 rfl rfl rfl rfl es_23 (ApiToken.cells_eq _) rfl ⟨rfl, rfl⟩) ?_
          refine Ev.cs FX_ok 3 rfl ?_
          cases h12
          refine Ev.cs FX_ok 1 rfl ?_
          exact Ev.nil (Less.settle (ps := [57, 0, 1, 2, 7, 43]) rfl)
        · skip
          replace h12 := ite_F h11 h12
          refine Ev.is hKL 45 h11 rfl ?_
          cases h12
          refine Ev.cs FX_ok 12 rfl ?_
          exact Ev.nil (Less.settle (ps := [57, 0, 1, 2, 7, 43]) rfl)
        cases h10
        refine Ev.cs FX_ok 1 rfl ?_
        exact Ev.nil (Less.settle (ps := [58, 0, 1, 2, 7]) rfl)
      · skip
        replace h10 := ite_T h9 h10
        refine Ev.is hKL 43 h9 rfl ?_
        cases h10
        refine Ev.cs FX_ok 15 rfl ?_
        exact Ev.nil (Less.settle (ps := [58, 0, 1, 2, 7]) rfl)
      refine Ev.nil ?_
      show AR _ _ _ _ _ _ _ _
      refine AR.nil [0, 1, 2, 7, 58] rfl ?_
      refine AW.cond rfl (fun h15 => ?_) (fun h15 => ?_)
      · replace hf := ite_T h15 hf
        refine AW.seq ?_
        refine AW.region ?_
        refine AR.cs FX_ok 1 rfl ?_
        refine AR.nil [6] rfl ?_
        refine AW.ret ?_
        cases hf
        exact ⟨rfl, _, ⟨_, _, rfl, rfl, rfl⟩, [], List.nil_sublist _, h⟩
      · replace hf := ite_F h15 hf
        refine AW.skip ?_
        refine AW.region ?_
        refine AR.cs FX_ok 3 rfl ?_
        refine AR.nil [0, 1, 2, 7] rfl ?_
        exact ⟨(w64 (i1 + 1)), rfl, rfl, rfl, hf⟩
    · replace hf := ite_F h2 hf
      refine AW.exit ?_
      refine AW.seq ?_
      refine AW.region ?_
      refine AR.cs FX_ok 1 rfl ?_
      refine AR.nil [6] rfl ?_
      refine AW.ret ?_
      cases hf
      exact ⟨rfl, _, ⟨_, _, rfl, rfl, rfl⟩, [], List.nil_sublist _, h⟩

theorem c_lexer_Quote (s1 : Str) {r0 : Str} (hf : lexer_Quote s1 = some r0) {τ : List Res} {Q : AOut → List Res → Prop} (h : Q (.ret (.str r0)) τ) : AC Try.prog 15 [.str s1] τ Q := by
  unfold lexer_Quote at hf
  refine AC.none ?_
  refine AC.of_body 64 [.tmp 2] [0] Try.func15 rfl rfl rfl rfl rfl ?_
  refine AW.seq ?_
  refine AW.region ?_
  refine AR.cs FX_ok 1 rfl ?_
  refine AR.nil [0] rfl ?_
  refine AW.seq ?_
  refine AW.region ?_
  refine AR.step rfl rfl rfl (AO.alloc_bld (eu := 5) rfl zp_50 rfl (fun b3 => ?_))
  refine AR.nil [0, 3] rfl ?_
  refine AW.seq ?_
  refine AW.region ?_
  obtain ⟨b1, h1, hf⟩ := bind1_inv hf
  refine AR.step rfl rfl rfl (AO.call rfl _ rfl rfl pf_25 (AC.one 0 rfl (c_bld_WriteByte h1 (fun v1 => ⟨_, rfl, ?_⟩))))
  refine AR.nil [0, 3] rfl ?_
  refine AW.seq ?_
  refine AW.seq ?_
  refine AW.region ?_
  refine AR.cs FX_ok 1 rfl ?_
  refine AR.nil [0, 3, 4] rfl ?_
  refine AW.block ?_
  refine AW.settle [0, 3, 4] rfl ?_
  refine AW.loopF3 (fun i1 b2 v2 => [(0, .str s1), (3, .val (.pointer (some ⟨b3, 0, none⟩))), (4, .int .i64 i1)]) (fun i1 b2 v2 => [.bld b3 v2 50 5 b2]) (fun k i1 b2 v2 => lexer_Quote_l1 s1 k i1 b2 = some r0) BIG 0 b1 v1 rfl rfl hf (fun _ _ _ hz => none_no hz) ?_
  intro k i1 b2 v2 hf
  rw [lexer_Quote_l1] at hf
  refine AW.seq ?_
  refine AW.seq ?_
  refine AW.region ?_
  refine AR.cs FX_ok 2 rfl ?_
  refine AR.step rfl rfl rfl (AO.len_str rfl rfl rfl rfl un_9 rfl ?_)
  refine AR.cs FX_ok 1 rfl ?_
  refine AR.nil [0, 3, 4, 10] rfl ?_
  refine AW.cond rfl (fun h2 => ?_) (fun h2 => ?_)
  · replace hf := ite_T h2 hf
    refine AW.skip ?_
    refine AW.seq ?_
    refine AW.block ?_
    refine AW.seq ?_
    refine AW.region ?_
    refine AR.cs FX_ok 2 rfl ?_
    obtain ⟨c1, h3, hf⟩ := bind1_inv hf
    refine AR.step rfl rfl rfl (AO.idx_str h3 rfl un_9 rfl rfl ?_)
    refine AR.cs FX_ok 1 rfl ?_
    refine AR.nil [0, 3, 4, 5] rfl ?_
    refine AW.block ?_
    refine AW.seq ?_
    refine AW.region ?_
    refine AR.cs FX_ok 3 rfl ?_
    refine AR.or 3 21 24 [0, 3, 4, 5] (x := ((c1.toNat : Int) == 92)) rfl rfl (fun h4 => ?_) (fun h4 => ?_) ?_
    · skip
      refine AR.is 21 h4 rfl ?_
      refine AR.cs FX_ok 3 rfl ?_
      refine AR.nil [24, 0, 3, 4, 5] rfl ?_
      exact ⟨rfl, rfl, rfl, rfl⟩
    · skip
      refine AR.is 21 h4 rfl ?_
      refine AR.cs FX_ok 3 rfl ?_
      refine AR.nil [24, 0, 3, 4, 5] rfl ?_
      exact ⟨rfl, rfl, rfl, rfl⟩
    refine AR.cs FX_ok 1 rfl ?_
    refine AR.nil [0, 3, 4, 5, 18] rfl ?_
    refine AW.cond rfl (fun h5 => ?_) (fun h5 => ?_)
    · replace hf := ite_T h5 hf
      refine AW.region ?_
      refine AR.cs FX_ok 4 rfl ?_
      obtain ⟨x1, h6, hf⟩ := bind1_inv hf
      refine AR.step rfl rfl rfl (AO.sl_str h6 rfl un_9 rfl ⟨_, rfl⟩ ⟨_, rfl⟩ ?_)
      obtain ⟨x2, h7, hf⟩ := bind1_inv hf
      refine AR.step rfl rfl rfl (AO.catF h7 rfl rfl rfl ?_)
      obtain ⟨b3, h8, hf⟩ := bind1_inv hf
      refine AR.step rfl rfl rfl (AO.call rfl _ rfl rfl pf_26 (AC.one 0 rfl (c_bld_WriteString h8 (fun v3 => ⟨_, rfl, ?_⟩))))
      refine AR.nil [0, 3, 4] rfl ?_
      refine AW.region ?_
      refine AR.cs FX_ok 3 rfl ?_
      refine AR.nil [0, 3, 4] rfl ?_
      exact ⟨(w64 (i1 + 1)), b3, v3, rfl, rfl, rfl, hf⟩
    · replace hf := ite_F h5 hf
      refine AW.seq ?_
      refine AW.region ?_
      refine AR.cs FX_ok 3 rfl ?_
      refine AR.nil [0, 3, 4, 5, 32] rfl ?_
      refine AW.cond rfl (fun h9 => ?_) (fun h9 => ?_)
      · replace hf := ite_T h9 hf
        refine AW.region ?_
        obtain ⟨b4, h10, hf⟩ := bind1_inv hf
        refine AR.step rfl rfl rfl (AO.call rfl _ rfl rfl pf_26 (AC.one 0 rfl (c_bld_WriteString h10 (fun v4 => ⟨_, rfl, ?_⟩))))
        refine AR.nil [0, 3, 4] rfl ?_
        refine AW.region ?_
        refine AR.cs FX_ok 3 rfl ?_
        refine AR.nil [0, 3, 4] rfl ?_
        exact ⟨(w64 (i1 + 1)), b4, v4, rfl, rfl, rfl, hf⟩
      · replace hf := ite_F h9 hf
        refine AW.seq ?_
        refine AW.region ?_
        refine AR.cs FX_ok 3 rfl ?_
        refine AR.nil [0, 3, 4, 5, 36] rfl ?_
        refine AW.cond rfl (fun h11 => ?_) (fun h11 => ?_)
        · replace hf := ite_T h11 hf
          refine AW.region ?_
          obtain ⟨b5, h12, hf⟩ := bind1_inv hf
          refine AR.step rfl rfl rfl (AO.call rfl _ rfl rfl pf_26 (AC.one 0 rfl (c_bld_WriteString h12 (fun v5 => ⟨_, rfl, ?_⟩))))
          refine AR.nil [0, 3, 4] rfl ?_
          refine AW.region ?_
          refine AR.cs FX_ok 3 rfl ?_
          refine AR.nil [0, 3, 4] rfl ?_
          exact ⟨(w64 (i1 + 1)), b5, v5, rfl, rfl, rfl, hf⟩
        · replace hf := ite_F h11 hf
          refine AW.seq ?_
          refine AW.region ?_
          refine AR.cs FX_ok 3 rfl ?_
          refine AR.or 3 43 46 [0, 3, 4, 5] (x := (decide (126 < (c1.toNat : Int)))) rfl rfl (fun h13 => ?_) (fun h13 => ?_) ?_
          · skip
            refine AR.is 43 h13 rfl ?_
            refine AR.cs FX_ok 3 rfl ?_
            refine AR.nil [46, 0, 3, 4, 5] rfl ?_
            exact ⟨rfl, rfl, rfl, rfl⟩
          · skip
            refine AR.is 43 h13 rfl ?_
            refine AR.cs FX_ok 3 rfl ?_
            refine AR.nil [46, 0, 3, 4, 5] rfl ?_
            exact ⟨rfl, rfl, rfl, rfl⟩
          refine AR.cs FX_ok 1 rfl ?_
          refine AR.nil [0, 3, 4, 5, 40] rfl ?_
          refine AW.cond rfl (fun h14 => ?_) (fun h14 => ?_)
          · replace hf := ite_T h14 hf
            refine AW.draw 14 mixed (by kernel_rfl) rfl ?_
            refine Ev.cs FX_ok 1 rfl ?_
            refine Ev.cons rfl rfl rfl (AO.u8_quo c1 16 rfl rfl rfl rfl rfl (by decide) ⟨rfl, rfl⟩) ?_
            refine Ev.cs FX_ok 1 rfl ?_
            refine Ev.cons rfl rfl rfl (AO.u8_quo c1 16 rfl rfl rfl rfl rfl (by decide) ⟨rfl, rfl⟩) ?_
            refine Ev.cons rfl rfl rfl (AO.u8_add (c1 / 16) 1 rfl rfl rfl rfl rfl ⟨rfl, rfl⟩) ?_
            obtain ⟨x3, h15, hf⟩ := bind1_inv hf
            refine Ev.cons rfl rfl rfl (AO.sl_str h15 rfl un_9 rfl ⟨_, rfl⟩ ⟨_, rfl⟩ ⟨rfl, rfl⟩) ?_
            obtain ⟨x4, h16, hf⟩ := bind1_inv hf
            refine Ev.cons rfl rfl rfl (AO.catF h16 rfl rfl rfl ⟨rfl, rfl⟩) ?_
            refine Ev.cs FX_ok 1 rfl ?_
            refine Ev.cons rfl rfl rfl (AO.u8_rem c1 16 rfl rfl rfl rfl rfl (by decide) ⟨rfl, rfl⟩) ?_
            refine Ev.cs FX_ok 1 rfl ?_
            refine Ev.cons rfl rfl rfl (AO.u8_rem c1 16 rfl rfl rfl rfl rfl (by decide) ⟨rfl, rfl⟩) ?_
            refine Ev.cons rfl rfl rfl (AO.u8_add (c1 % 16) 1 rfl rfl rfl rfl rfl ⟨rfl, rfl⟩) ?_
            obtain ⟨x5, h17, hf⟩ := bind1_inv hf
            refine Ev.cons rfl rfl rfl (AO.sl_str h17 rfl un_9 rfl ⟨_, rfl⟩ ⟨_, rfl⟩ ⟨rfl, rfl⟩) ?_
            obtain ⟨x6, h18, hf⟩ := bind1_inv hf
            refine Ev.cons rfl rfl rfl (AO.catF h18 rfl rfl rfl ⟨rfl, rfl⟩) ?_
            refine Ev.nil ?_
            show AR _ _ _ _ _ _ _ _
            obtain ⟨b6, h19, hf⟩ := bind1_inv hf
            refine AR.step rfl rfl rfl (AO.call rfl _ rfl rfl pf_26 (AC.one 0 rfl (c_bld_WriteString h19 (fun v6 => ⟨_, rfl, ?_⟩))))
            refine AR.nil [0, 3, 4] rfl ?_
            refine AW.region ?_
            refine AR.cs FX_ok 3 rfl ?_
            refine AR.nil [0, 3, 4] rfl ?_
            exact ⟨(w64 (i1 + 1)), b6, v6, rfl, rfl, rfl, hf⟩
          · replace hf := ite_F h14 hf
            refine AW.region ?_
            refine AR.cs FX_ok 1 rfl ?_
            obtain ⟨b7, h20, hf⟩ := bind1_inv hf
            refine AR.step rfl rfl rfl (AO.call rfl _ rfl rfl pf_25 (AC.one 0 rfl (c_bld_WriteByte h20 (fun v7 => ⟨_, rfl, ?_⟩))))
            refine AR.nil [0, 3, 4] rfl ?_
            refine AW.region ?_
            refine AR.cs FX_ok 3 rfl ?_
            refine AR.nil [0, 3, 4] rfl ?_
            exact ⟨(w64 (i1 + 1)), b7, v7, rfl, rfl, rfl, hf⟩
  · replace hf := ite_F h2 hf
    refine AW.exit ?_
    refine AW.seq ?_
    refine AW.region ?_
    replace hf := (bind1_ret _).trans hf
    obtain ⟨b8, h21, hf⟩ := bind1_inv hf
    refine AR.step rfl rfl rfl (AO.call rfl _ rfl rfl pf_25 (AC.one 0 rfl (c_bld_WriteByte h21 (fun v8 => ⟨_, rfl, ?_⟩))))
    refine AR.nil [3] rfl ?_
    refine AW.seq ?_
    refine AW.region ?_
    refine AR.step rfl rfl rfl (AO.call rfl _ rfl rfl pf_27 (AC.one_end 0 rfl (c_bld_String ?_)))
    refine AR.cs FX_ok 1 rfl ?_
    refine AR.nil [2] rfl ?_
    refine AW.ret ?_
    cases hf
    exact ⟨rfl, _, ⟨_, _, rfl, rfl, rfl⟩, [], List.nil_sublist _, h⟩

theorem c_lexer_Join (ts1 : List ApiToken) {r0 : Str} (hf : lexer_Join ts1 = some r0) {τ : List Res} {Q : AOut → List Res → Prop} (h : Q (.ret (.str r0)) τ) : AC Try.prog 13 [.list (List.map ApiToken.cells ts1)] τ Q := by
  unfold lexer_Join at hf
  refine AC.none ?_
  refine AC.of_body 46 [.tmp 2] [0] Try.func13 rfl rfl rfl rfl rfl ?_
  refine AW.seq ?_
  refine AW.region ?_
  refine AR.cs FX_ok 1 rfl ?_
  refine AR.nil [0] rfl ?_
  refine AW.seq ?_
  refine AW.region ?_
  refine AR.step rfl rfl rfl (AO.alloc_bld (eu := 5) rfl zp_50 rfl (fun b3 => ?_))
  refine AR.nil [0, 3] rfl ?_
  refine AW.seq ?_
  refine AW.seq ?_
  refine AW.region ?_
  refine AR.cs FX_ok 1 rfl ?_
  refine AR.step rfl rfl rfl (AO.len_list (l := ts1) rfl rfl rfl rfl es_23 rfl rfl ?_)
  refine AR.cs FX_ok 1 rfl ?_
  refine AR.nil [0, 3, 6, 7, 8] rfl ?_
  refine AW.block ?_
  refine AW.settle [0, 3, 6, 7, 8] rfl ?_
  refine AW.loopF3 (fun i1 b1 v1 => [(0, .list (List.map ApiToken.cells ts1)), (3, .val (.pointer (some ⟨b3, 0, none⟩))), (6, .list (List.map ApiToken.cells ts1)), (7, .int .i64 (ts1.length : Int)), (8, .int .i64 i1)]) (fun i1 b1 v1 => [.bld b3 v1 50 5 b1]) (fun k i1 b1 v1 => lexer_Join_l1 ts1 k i1 b1 = some r0) BIG 0 [] (.slice none 0 0) rfl rfl hf (fun _ _ _ hz => none_no hz) ?_
  intro k i1 b1 v1 hf
  rw [lexer_Join_l1] at hf
  refine AW.seq ?_
  refine AW.region ?_
  refine AR.cs FX_ok 1 rfl ?_
  refine AR.nil [0, 3, 6, 7, 8, 9] rfl ?_
  refine AW.seq ?_
  refine AW.cond rfl (fun h1 => ?_) (fun h1 => ?_)
  · replace hf := ite_T h1 hf
    refine AW.skip ?_
    refine AW.seq ?_
    refine AW.block ?_
    refine AW.seq ?_
    refine AW.region ?_
    refine AR.cs FX_ok 1 rfl ?_
    obtain ⟨e1, h2, hf⟩ := bind1_inv hf
    refine AR.step rfl rfl rfl (AO.idx_list h2 rfl rfl rfl rfl es_23 (ApiToken.cells_eq _) rfl ?_)
    refine AR.cs FX_ok 1 rfl ?_
    refine AR.step rfl rfl rfl (AO.alloc_own rfl zp_35 (fun b5 => ?_))
    refine AR.cs FX_ok 1 rfl ?_
    refine AR.step_none rfl rfl (AO.store_box (i := 0) rfl rfl rfl ti_35 rfl rfl rfl rfl rfl ?_)
    refine AR.nil [0, 3, 4, 5, 6, 7, 8] rfl ?_
    refine AW.seq ?_
    refine AW.seq ?_
    refine AW.region ?_
    refine AR.cs FX_ok 3 rfl ?_
    refine AR.and 4 15 19 [0, 3, 4, 5, 6, 7, 8] (x := (e1.kind != 5)) rfl rfl (fun h3 => ?_) (fun h3 => ?_) ?_
    · skip
      refine AR.is 15 h3 rfl ?_
      refine AR.cs FX_ok 1 rfl ?_
      refine AR.go rfl rfl rfl rfl rfl rfl (AO.load_box (i := 0) rfl rfl rfl ti_3 rfl rfl ?_)
      refine AR.cs FX_ok 2 rfl ?_
      refine AR.nil [19, 0, 3, 4, 5, 6, 7, 8] rfl ?_
      exact ⟨rfl, rfl, rfl, rfl⟩
    · skip
      refine AR.is 15 h3 rfl ?_
      refine AR.cs FX_ok 4 rfl ?_
      refine AR.nil [19, 0, 3, 4, 5, 6, 7, 8] rfl ?_
      exact ⟨rfl, rfl, rfl, rfl⟩
    refine AR.cs FX_ok 1 rfl ?_
    obtain ⟨b2, h5, hf⟩ := bind1_inv hf
    refine AR.join1 8 20 28 true [0, 3, 5, 6, 7, 8] b2 rfl rfl (fun h4 => ?_) (fun h4 => ?_) ?_
    · skip
      replace h5 := ite_T h4 h5
      refine AR.is 20 h4 rfl ?_
      refine AR.cs FX_ok 3 rfl ?_
      obtain ⟨e2, h6, h5⟩ := bind1_inv h5
      refine AR.go rfl rfl rfl rfl rfl rfl (AO.idx_list h6 rfl rfl rfl rfl es_23 (ApiToken.cells_eq _) rfl ?_)
      refine AR.cs FX_ok 3 rfl ?_
      cases h5
      refine AR.cs FX_ok 1 rfl ?_
      refine AR.nil [28, 0, 3, 5, 6, 7, 8] rfl ?_
      exact ⟨rfl, rfl, rfl, rfl⟩
    · skip
      replace h5 := ite_F h4 h5
      refine AR.is 20 h4 rfl ?_
      cases h5
      refine AR.cs FX_ok 8 rfl ?_
      refine AR.nil [28, 0, 3, 5, 6, 7, 8] rfl ?_
      exact ⟨rfl, rfl, rfl, rfl⟩
    refine AR.nil [0, 3, 5, 6, 7, 8, 28] rfl ?_
    refine AW.cond rfl (fun h7 => ?_) (fun h7 => ?_)
    · replace hf := ite_T h7 hf
      refine AW.region ?_
      obtain ⟨b3, h8, hf⟩ := bind1_inv hf
      refine AR.step rfl rfl rfl (AO.call rfl _ rfl rfl pf_25 (AC.one 1 rfl (c_bld_WriteByte h8 (fun v2 => ⟨_, rfl, ?_⟩))))
      refine AR.nil [0, 3, 5, 6, 7, 8] rfl ?_
      refine AW.seq ?_
      refine AW.region ?_
      refine AR.cs FX_ok 1 rfl ?_
      refine AR.step rfl rfl rfl (AO.load_box (i := 0) rfl rfl rfl ti_3 rfl rfl ?_)
      refine AR.nil [0, 3, 5, 6, 7, 8, 31] rfl ?_
      refine AW.block ?_
      refine AW.seq ?_
      refine AW.region ?_
      refine AR.cs FX_ok 2 rfl ?_
      refine AR.nil [0, 3, 5, 6, 7, 8, 31, 35] rfl ?_
      refine AW.cond rfl (fun h9 => ?_) (fun h9 => ?_)
      · replace hf := ite_T h9 hf
        refine AW.region ?_
        refine AR.cs FX_ok 1 rfl ?_
        refine AR.step rfl rfl rfl (AO.load_box (i := 0) rfl rfl rfl ti_9 rfl rfl ?_)
        obtain ⟨x1, h10, hf⟩ := bind1_inv hf
        refine AR.step rfl rfl rfl (AO.call rfl _ rfl rfl pf_15 (c_lexer_Quote _ h10 ?_))
        obtain ⟨b4, h11, hf⟩ := bind1_inv hf
        refine AR.step rfl rfl rfl (AO.call rfl _ rfl rfl pf_26 (AC.one 1 rfl (c_bld_WriteString h11 (fun v3 => ⟨_, rfl, ?_⟩))))
        refine AR.nil [0, 3, 6, 7, 8] rfl ?_
        refine AW.region ?_
        refine AR.cs FX_ok 2 rfl ?_
        refine AR.drop1 ?_
        refine AR.nil [0, 3, 6, 7, 8] rfl ?_
        exact ⟨(w64 (i1 + 1)), b4, v3, rfl, rfl, rfl, hf⟩
      · replace hf := ite_F h9 hf
        refine AW.seq ?_
        refine AW.region ?_
        refine AR.cs FX_ok 2 rfl ?_
        refine AR.nil [0, 3, 5, 6, 7, 8, 41] rfl ?_
        refine AW.cond rfl (fun h12 => ?_) (fun h12 => ?_)
        · replace hf := ite_T h12 hf
          refine AW.region ?_
          obtain ⟨b5, h13, hf⟩ := bind1_inv hf
          refine AR.step rfl rfl rfl (AO.call rfl _ rfl rfl pf_25 (AC.one 1 rfl (c_bld_WriteByte h13 (fun v4 => ⟨_, rfl, ?_⟩))))
          refine AR.nil [0, 3, 6, 7, 8] rfl ?_
          refine AW.region ?_
          refine AR.cs FX_ok 2 rfl ?_
          refine AR.drop1 ?_
          refine AR.nil [0, 3, 6, 7, 8] rfl ?_
          exact ⟨(w64 (i1 + 1)), b5, v4, rfl, rfl, rfl, hf⟩
        · replace hf := ite_F h12 hf
          refine AW.region ?_
          refine AR.cs FX_ok 1 rfl ?_
          refine AR.step rfl rfl rfl (AO.load_box (i := 0) rfl rfl rfl ti_9 rfl rfl ?_)
          obtain ⟨b6, h14, hf⟩ := bind1_inv hf
          refine AR.step rfl rfl rfl (AO.call rfl _ rfl rfl pf_26 (AC.one 1 rfl (c_bld_WriteString h14 (fun v5 => ⟨_, rfl, ?_⟩))))
          refine AR.nil [0, 3, 6, 7, 8] rfl ?_
          refine AW.region ?_
          refine AR.cs FX_ok 2 rfl ?_
          refine AR.drop1 ?_
          refine AR.nil [0, 3, 6, 7, 8] rfl ?_
          exact ⟨(w64 (i1 + 1)), b6, v5, rfl, rfl, rfl, hf⟩
    · replace hf := ite_F h7 hf
      refine AW.skip ?_
      refine AW.seq ?_
      refine AW.region ?_
      refine AR.cs FX_ok 1 rfl ?_
      refine AR.step rfl rfl rfl (AO.load_box (i := 0) rfl rfl rfl ti_3 rfl rfl ?_)
      refine AR.nil [0, 3, 5, 6, 7, 8, 31] rfl ?_
      refine AW.block ?_
      refine AW.seq ?_
      refine AW.region ?_
      refine AR.cs FX_ok 2 rfl ?_
      refine AR.nil [0, 3, 5, 6, 7, 8, 31, 35] rfl ?_
      refine AW.cond rfl (fun h15 => ?_) (fun h15 => ?_)
      · replace hf := ite_T h15 hf
        refine AW.region ?_
        refine AR.cs FX_ok 1 rfl ?_
        refine AR.step rfl rfl rfl (AO.load_box (i := 0) rfl rfl rfl ti_9 rfl rfl ?_)
        obtain ⟨x2, h16, hf⟩ := bind1_inv hf
        refine AR.step rfl rfl rfl (AO.call rfl _ rfl rfl pf_15 (c_lexer_Quote _ h16 ?_))
        obtain ⟨b7, h17, hf⟩ := bind1_inv hf
        refine AR.step rfl rfl rfl (AO.call rfl _ rfl rfl pf_26 (AC.one 1 rfl (c_bld_WriteString h17 (fun v6 => ⟨_, rfl, ?_⟩))))
        refine AR.nil [0, 3, 6, 7, 8] rfl ?_
        refine AW.region ?_
        refine AR.cs FX_ok 2 rfl ?_
        refine AR.drop1 ?_
        refine AR.nil [0, 3, 6, 7, 8] rfl ?_
        exact ⟨(w64 (i1 + 1)), b7, v6, rfl, rfl, rfl, hf⟩
      · replace hf := ite_F h15 hf
        refine AW.seq ?_
        refine AW.region ?_
        refine AR.cs FX_ok 2 rfl ?_
        refine AR.nil [0, 3, 5, 6, 7, 8, 41] rfl ?_
        refine AW.cond rfl (fun h18 => ?_) (fun h18 => ?_)
        · replace hf := ite_T h18 hf
          refine AW.region ?_
          obtain ⟨b8, h19, hf⟩ := bind1_inv hf
          refine AR.step rfl rfl rfl (AO.call rfl _ rfl rfl pf_25 (AC.one 1 rfl (c_bld_WriteByte h19 (fun v7 => ⟨_, rfl, ?_⟩))))
          refine AR.nil [0, 3, 6, 7, 8] rfl ?_
          refine AW.region ?_
          refine AR.cs FX_ok 2 rfl ?_
          refine AR.drop1 ?_
          refine AR.nil [0, 3, 6, 7, 8] rfl ?_
          exact ⟨(w64 (i1 + 1)), b8, v7, rfl, rfl, rfl, hf⟩
        · replace hf := ite_F h18 hf
          refine AW.region ?_
          refine AR.cs FX_ok 1 rfl ?_
          refine AR.step rfl rfl rfl (AO.load_box (i := 0) rfl rfl rfl ti_9 rfl rfl ?_)
          obtain ⟨b9, h20, hf⟩ := bind1_inv hf
          refine AR.step rfl rfl rfl (AO.call rfl _ rfl rfl pf_26 (AC.one 1 rfl (c_bld_WriteString h20 (fun v8 => ⟨_, rfl, ?_⟩))))
          refine AR.nil [0, 3, 6, 7, 8] rfl ?_
          refine AW.region ?_
          refine AR.cs FX_ok 2 rfl ?_
          refine AR.drop1 ?_
          refine AR.nil [0, 3, 6, 7, 8] rfl ?_
          exact ⟨(w64 (i1 + 1)), b9, v8, rfl, rfl, rfl, hf⟩
  · replace hf := ite_F h1 hf
    refine AW.exit ?_
    refine AW.seq ?_
    refine AW.region ?_
    refine AR.step rfl rfl rfl (AO.call rfl _ rfl rfl pf_27 (AC.one_end 0 rfl (c_bld_String ?_)))
    refine AR.cs FX_ok 1 rfl ?_
    refine AR.nil [2] rfl ?_
    refine AW.ret ?_
    cases hf
    exact ⟨rfl, _, ⟨_, _, rfl, rfl, rfl⟩, [], List.nil_sublist _, h⟩

theorem c_l09_awake  {r0 : Bool} (hf : l09_awake = some r0) {τ : List Res} {Q : AOut → List Res → Prop} (h : Q (.ret (.bool r0)) τ) : AC Try.prog 9 [] τ Q := by
  unfold l09_awake at hf
  refine AC.none ?_
  refine AC.of_body 85 [.tmp 0] [] Try.func9 rfl rfl rfl rfl rfl ?_
  refine AW.seq ?_
  refine AW.region ?_
  refine AR.cs FX_ok 1 rfl ?_
  refine AR.nil [] rfl ?_
  refine AW.seq ?_
  refine AW.region ?_
  obtain ⟨l1, at1, e1, h1, hf⟩ := bind3_inv hf
  refine AR.step rfl rfl rfl (AO.call rfl _ rfl rfl pf_10 (c_lexer_Tokens _ h1 ?_))
  refine AR.cs FX_ok 7 rfl ?_
  refine AR.nil [1, 2, 3] rfl ?_
  refine AW.seq ?_
  refine AW.seq ?_
  refine AW.region ?_
  refine AR.cs FX_ok 3 rfl ?_
  refine AR.or 3 18 21 [1] (x := (at1 != 0)) rfl rfl (fun h2 => ?_) (fun h2 => ?_) ?_
  · skip
    refine AR.is 18 h2 rfl ?_
    refine AR.cs FX_ok 3 rfl ?_
    refine AR.nil [21, 1] rfl ?_
    exact ⟨rfl, rfl, rfl, rfl⟩
  · skip
    refine AR.is 18 h2 rfl ?_
    refine AR.cs FX_ok 3 rfl ?_
    refine AR.nil [21, 1] rfl ?_
    exact ⟨rfl, rfl, rfl, rfl⟩
  refine AR.cs FX_ok 1 rfl ?_
  obtain ⟨b1, h4, hf⟩ := bind1_inv hf
  refine AR.join1 8 22 30 false [1] b1 rfl rfl (fun h3 => ?_) (fun h3 => ?_) ?_
  · skip
    replace h4 := ite_F h3 h4
    refine AR.is 22 h3 rfl ?_
    refine AR.cs FX_ok 1 rfl ?_
    refine AR.go rfl rfl rfl rfl rfl rfl (AO.build rfl zp_35 spl_35 rfl ?_)
    refine AR.go rfl rfl rfl rfl rfl rfl (AO.build rfl zp_35 spl_35 rfl ?_)
    refine AR.go rfl rfl rfl rfl rfl rfl (AO.build rfl zp_35 spl_35 rfl ?_)
    refine AR.go rfl rfl rfl rfl rfl rfl (AO.buildSliceF (List.map ApiToken.cells [(ApiToken.mk 1 ([97] : Str) 0), (ApiToken.mk 4 ([60, 61] : Str) 2), (ApiToken.mk 2 ([49, 48] : Str) 5)]) rfl sf_23 rfl rfl rfl (by first | rfl | simp only [List.map, ApiToken.cells_eq]) ?_)
    obtain ⟨x1, h5, h4⟩ := bind1_inv h4
    refine AR.go rfl rfl rfl rfl rfl rfl (AO.call rfl _ rfl rfl pf_12 (c_r09_Same _ _ _ h5 ?_))
    refine AR.cs FX_ok 1 rfl ?_
    cases h4
    refine AR.cs FX_ok 1 rfl ?_
    refine AR.nil [30, 1] rfl ?_
    exact ⟨rfl, rfl, rfl, rfl⟩
  · skip
    replace h4 := ite_T h3 h4
    refine AR.is 22 h3 rfl ?_
    cases h4
    refine AR.cs FX_ok 8 rfl ?_
    refine AR.nil [30, 1] rfl ?_
    exact ⟨rfl, rfl, rfl, rfl⟩
  refine AR.nil [1, 30] rfl ?_
  refine AW.cond rfl (fun h6 => ?_) (fun h6 => ?_)
  · replace hf := ite_T h6 hf
    refine AW.seq ?_
    refine AW.region ?_
    refine AR.cs FX_ok 1 rfl ?_
    refine AR.nil [0] rfl ?_
    refine AW.ret ?_
    cases hf
    exact ⟨rfl, _, ⟨_, _, rfl, rfl, rfl⟩, [], List.nil_sublist _, h⟩
  · replace hf := ite_F h6 hf
    refine AW.skip ?_
    refine AW.seq ?_
    refine AW.region ?_
    refine AR.step rfl rfl rfl (AO.buildSliceF (List.map byteC ([10] : List UInt8)) rfl sf_37 rfl rfl rfl rfl ?_)
    refine AR.step rfl rfl rfl (AO.bytes_str rfl un_37 un_5 un_9 rfl rfl ?_)
    refine AR.cs FX_ok 1 rfl ?_
    refine AR.nil [1, 4] rfl ?_
    refine AW.seq ?_
    refine AW.region ?_
    refine AR.cs FX_ok 1 rfl ?_
    obtain ⟨x2, h7, hf⟩ := bind1_inv hf
    refine AR.step rfl rfl rfl (AO.catF h7 rfl rfl rfl ?_)
    refine AR.cs FX_ok 1 rfl ?_
    obtain ⟨x3, h8, hf⟩ := bind1_inv hf
    refine AR.step rfl rfl rfl (AO.catF h8 rfl rfl rfl ?_)
    obtain ⟨x4, h9, hf⟩ := bind1_inv hf
    refine AR.step rfl rfl rfl (AO.catF h9 rfl rfl rfl ?_)
    refine AR.cs FX_ok 1 rfl ?_
    obtain ⟨x5, h10, hf⟩ := bind1_inv hf
    refine AR.step rfl rfl rfl (AO.catF h10 rfl rfl rfl ?_)
    obtain ⟨x6, h11, hf⟩ := bind1_inv hf
    refine AR.step rfl rfl rfl (AO.catF h11 rfl rfl rfl ?_)
    obtain ⟨m1, x7, f1, h12, hf⟩ := bind3_inv hf
    refine AR.step rfl rfl rfl (AO.call rfl _ rfl rfl pf_10 (c_lexer_Tokens _ h12 ?_))
    refine AR.cs FX_ok 7 rfl ?_
    refine AR.nil [1, 4, 5, 7] rfl ?_
    refine AW.seq ?_
    refine AW.region ?_
    obtain ⟨x8, kx1, g1, h13, hf⟩ := bind3_inv hf
    refine AR.step rfl rfl rfl (AO.call rfl _ rfl rfl pf_10 (c_lexer_Tokens _ h13 ?_))
    refine AR.cs FX_ok 7 rfl ?_
    refine AR.nil [1, 4, 5, 7, 9, 10] rfl ?_
    refine AW.seq ?_
    refine AW.draw 35 mixed (by kernel_rfl) rfl ?_
    refine Ev.cs FX_ok 3 rfl ?_
    refine Ev.and1 hKA 4 53 57 [1, 4, 5, 9, 10] ((m1.length : Int) == 5) rfl rfl (fun h14 => ?_) (fun h14 => ?_) ?_
    · skip
      refine Ev.is hKL 53 h14 rfl ?_
      refine Ev.cs FX_ok 1 rfl ?_
      refine Ev.run rfl rfl rfl rfl rfl rfl rfl (AO.len_list (l := m1) rfl rfl rfl rfl es_23 rfl rfl ⟨rfl, rfl⟩) ?_
      refine Ev.cs FX_ok 2 rfl ?_
      exact Ev.nil (Less.settle (ps := [57, 1, 4, 5, 9, 10]) rfl)
    · skip
      refine Ev.is hKL 53 h14 rfl ?_
      refine Ev.cs FX_ok 4 rfl ?_
      exact Ev.nil (Less.settle (ps := [57, 1, 4, 5, 9, 10]) rfl)
    refine Ev.cs FX_ok 1 rfl ?_
    obtain ⟨b2, h16, hf⟩ := bind1_inv hf
    refine Ev.join1 hKA 6 58 64 true [1, 4, 9, 10] (.bool b2) rfl rfl (fun h15 => ?_) (fun h15 => ?_) ?_
    · skip
      replace h16 := ite_T h15 h16
      refine Ev.is hKL 58 h15 rfl ?_
      refine Ev.cs FX_ok 1 rfl ?_
      obtain ⟨e2, h17, h16⟩ := bind1_inv h16
      refine Ev.run rfl rfl rfl rfl rfl rfl rfl (AO.idx_list h17 rfl rfl rfl rfl es_23 (ApiToken.cells_eq _) rfl ⟨rfl, rfl⟩) ?_
      refine Ev.cs FX_ok 3 rfl ?_
      cases h16
      refine Ev.cs FX_ok 1 rfl ?_
      exact Ev.nil (Less.settle (ps := [64, 1, 4, 9, 10]) rfl)
    · skip
      replace h16 := ite_F h15 h16
      refine Ev.is hKL 58 h15 rfl ?_
      cases h16
      refine Ev.cs FX_ok 6 rfl ?_
      exact Ev.nil (Less.settle (ps := [64, 1, 4, 9, 10]) rfl)
    refine Ev.cs FX_ok 1 rfl ?_
    refine Ev.and1 hKA 3 65 68 [1, 4, 9] (g1 == 5) rfl rfl (fun h18 => ?_) (fun h18 => ?_) ?_
    · skip
      refine Ev.is hKL 65 h18 rfl ?_
      refine Ev.cs FX_ok 3 rfl ?_
      exact Ev.nil (Less.settle (ps := [68, 1, 4, 9]) rfl)
    · skip
      refine Ev.is hKL 65 h18 rfl ?_
      refine Ev.cs FX_ok 3 rfl ?_
      exact Ev.nil (Less.settle (ps := [68, 1, 4, 9]) rfl)
    refine Ev.cs FX_ok 1 rfl ?_
    refine Ev.and1 hKA 3 69 72 [1, 4] (kx1 == 2) rfl rfl (fun h19 => ?_) (fun h19 => ?_) ?_
    · skip
      refine Ev.is hKL 69 h19 rfl ?_
      refine Ev.cs FX_ok 3 rfl ?_
      exact Ev.nil (Less.settle (ps := [72, 1, 4]) rfl)
    · skip
      refine Ev.is hKL 69 h19 rfl ?_
      refine Ev.cs FX_ok 3 rfl ?_
      exact Ev.nil (Less.settle (ps := [72, 1, 4]) rfl)
    refine Ev.cs FX_ok 1 rfl ?_
    obtain ⟨b3, h21, hf⟩ := bind1_inv hf
    refine Ev.join1 hKA 4 73 77 true [4] (.bool b3) rfl rfl (fun h20 => ?_) (fun h20 => ?_) ?_
    · skip
      replace h21 := ite_T h20 h21
      refine Ev.is hKL 73 h20 rfl ?_
      refine Ev.cs FX_ok 1 rfl ?_
      obtain ⟨x9, h22, h21⟩ := bind1_inv h21
      refine Ev.run rfl rfl rfl rfl rfl rfl rfl (AO.call rfl _ rfl rfl pf_13 (c_lexer_Join _ h22 ⟨rfl, rfl⟩)) ?_
      refine Ev.cs FX_ok 1 rfl ?_
      cases h21
      refine Ev.cs FX_ok 1 rfl ?_
      exact Ev.nil (Less.settle (ps := [77, 4]) rfl)
    · skip
      replace h21 := ite_F h20 h21
      refine Ev.is hKL 73 h20 rfl ?_
      cases h21
      refine Ev.cs FX_ok 4 rfl ?_
      exact Ev.nil (Less.settle (ps := [77, 4]) rfl)
    refine Ev.cs FX_ok 1 rfl ?_
    replace hf := (bind1_ret _).trans hf
    obtain ⟨b4, h24, hf⟩ := bind1_inv hf
    refine Ev.join1 hKA 6 78 84 true [] (.bool b4) rfl rfl (fun h23 => ?_) (fun h23 => ?_) ?_
    · skip
      replace h24 := ite_T h23 h24
      refine Ev.is hKL 78 h23 rfl ?_
      refine Ev.cs FX_ok 1 rfl ?_
      obtain ⟨x10, h25, h24⟩ := bind1_inv h24
      refine Ev.run rfl rfl rfl rfl rfl rfl rfl (AO.call rfl _ rfl rfl pf_15 (c_lexer_Quote _ h25 ⟨rfl, rfl⟩)) ?_
      refine Ev.run rfl rfl rfl rfl rfl rfl rfl (AO.buildSliceF (List.map byteC ([34, 92, 110, 34] : List UInt8)) rfl sf_37 rfl rfl rfl rfl ⟨rfl, rfl⟩) ?_
      refine Ev.run rfl rfl rfl rfl rfl rfl rfl (AO.bytes_str rfl un_37 un_5 un_9 rfl rfl ⟨rfl, rfl⟩) ?_
      refine Ev.cs FX_ok 1 rfl ?_
      cases h24
      refine Ev.cs FX_ok 1 rfl ?_
      exact Ev.nil (Less.settle (ps := [84]) rfl)
    · skip
      replace h24 := ite_F h23 h24
      refine Ev.is hKL 78 h23 rfl ?_
      cases h24
      refine Ev.cs FX_ok 6 rfl ?_
      exact Ev.nil (Less.settle (ps := [84]) rfl)
    refine Ev.cs FX_ok 1 rfl ?_
    refine Ev.nil ?_
    show AR _ _ _ _ _ _ _ _
    refine AR.nil [0] rfl ?_
    refine AW.ret ?_
    cases hf
    exact ⟨rfl, _, ⟨_, _, rfl, rfl, rfl⟩, [], List.nil_sublist _, h⟩

theorem c_r09_ignored (src1 : Str) (at1 : Int) {r0 : Int} (hf : r09_ignored src1 at1 = some r0) {τ : List Res} {Q : AOut → List Res → Prop} (h : Q (.ret (.int .i64 r0)) τ) : AC Try.prog 22 [.str src1, .int .i64 at1] τ Q := by
  unfold r09_ignored at hf
  refine AC.none ?_
  refine AC.of_body 47 [.tmp 4] [0, 1] Try.func22 rfl rfl rfl rfl rfl ?_
  refine AW.seq ?_
  refine AW.region ?_
  refine AR.cs FX_ok 1 rfl ?_
  refine AR.nil [0, 1] rfl ?_
  refine AW.seq ?_
  refine AW.region ?_
  refine AR.cs FX_ok 1 rfl ?_
  refine AR.nil [0, 1, 5] rfl ?_
  refine AW.seq ?_
  refine AW.block ?_
  refine AW.settle [0, 1, 5] rfl ?_
  refine AW.loopF2 (fun at2 comment1 => [(0, .str src1), (1, .int .i64 at2), (5, .bool comment1)]) (fun at2 comment1 => []) (fun k at2 comment1 => r09_ignored_l1 src1 k at2 comment1 = some r0) BIG at1 false rfl rfl hf (fun _ _ hz => none_no hz) ?_
  intro k at2 comment1 hf
  rw [r09_ignored_l1] at hf
  refine AW.seq ?_
  refine AW.seq ?_
  refine AW.region ?_
  refine AR.cs FX_ok 2 rfl ?_
  refine AR.step rfl rfl rfl (AO.len_str rfl rfl rfl rfl un_9 rfl ?_)
  refine AR.cs FX_ok 2 rfl ?_
  obtain ⟨b1, h2, hf⟩ := bind1_inv hf
  refine AR.join1 5 10 15 true [0, 1, 5] b1 rfl rfl (fun h1 => ?_) (fun h1 => ?_) ?_
  · skip
    replace h2 := ite_T h1 h2
    refine AR.is 10 h1 rfl ?_
    refine AR.cs FX_ok 2 rfl ?_
    obtain ⟨x1, h3, h2⟩ := bind1_inv h2
    refine AR.go rfl rfl rfl rfl rfl rfl (AO.idx_str h3 rfl un_9 rfl rfl ?_)
    refine AR.cs FX_ok 1 rfl ?_
    cases h2
    refine AR.cs FX_ok 1 rfl ?_
    refine AR.nil [15, 0, 1, 5] rfl ?_
    exact ⟨rfl, rfl, rfl, rfl⟩
  · skip
    replace h2 := ite_F h1 h2
    refine AR.is 10 h1 rfl ?_
    cases h2
    refine AR.cs FX_ok 5 rfl ?_
    refine AR.nil [15, 0, 1, 5] rfl ?_
    exact ⟨rfl, rfl, rfl, rfl⟩
  refine AR.cs FX_ok 1 rfl ?_
  obtain ⟨b2, h5, hf⟩ := bind1_inv hf
  refine AR.join1 20 16 36 true [0, 1, 5] b2 rfl rfl (fun h4 => ?_) (fun h4 => ?_) ?_
  · skip
    replace h5 := ite_T h4 h5
    refine AR.is 16 h4 rfl ?_
    refine AR.cs FX_ok 2 rfl ?_
    obtain ⟨b3, h7, h5⟩ := bind1_inv h5
    refine AR.join1 5 18 23 false [0, 1, 5, 16] b3 rfl rfl (fun h6 => ?_) (fun h6 => ?_) ?_
    · skip
      replace h7 := ite_F h6 h7
      refine AR.is 18 h6 rfl ?_
      refine AR.cs FX_ok 2 rfl ?_
      obtain ⟨x2, h8, h7⟩ := bind1_inv h7
      refine AR.go rfl rfl rfl rfl rfl rfl (AO.idx_str h8 rfl un_9 rfl rfl ?_)
      refine AR.cs FX_ok 1 rfl ?_
      cases h7
      refine AR.cs FX_ok 1 rfl ?_
      refine AR.nil [23, 0, 1, 5, 16] rfl ?_
      exact ⟨rfl, rfl, rfl, rfl⟩
    · skip
      replace h7 := ite_T h6 h7
      refine AR.is 18 h6 rfl ?_
      cases h7
      refine AR.cs FX_ok 5 rfl ?_
      refine AR.nil [23, 0, 1, 5, 16] rfl ?_
      exact ⟨rfl, rfl, rfl, rfl⟩
    refine AR.cs FX_ok 1 rfl ?_
    obtain ⟨b4, h10, h5⟩ := bind1_inv h5
    refine AR.join1 5 24 29 false [0, 1, 5, 16] b4 rfl rfl (fun h9 => ?_) (fun h9 => ?_) ?_
    · skip
      replace h10 := ite_F h9 h10
      refine AR.is 24 h9 rfl ?_
      refine AR.cs FX_ok 2 rfl ?_
      obtain ⟨x3, h11, h10⟩ := bind1_inv h10
      refine AR.go rfl rfl rfl rfl rfl rfl (AO.idx_str h11 rfl un_9 rfl rfl ?_)
      refine AR.cs FX_ok 1 rfl ?_
      cases h10
      refine AR.cs FX_ok 1 rfl ?_
      refine AR.nil [29, 0, 1, 5, 16] rfl ?_
      exact ⟨rfl, rfl, rfl, rfl⟩
    · skip
      replace h10 := ite_T h9 h10
      refine AR.is 24 h9 rfl ?_
      cases h10
      refine AR.cs FX_ok 5 rfl ?_
      refine AR.nil [29, 0, 1, 5, 16] rfl ?_
      exact ⟨rfl, rfl, rfl, rfl⟩
    refine AR.cs FX_ok 1 rfl ?_
    replace h5 := (bind1_ret _).trans h5
    obtain ⟨b5, h13, h5⟩ := bind1_inv h5
    refine AR.join1 5 30 35 false [0, 1, 5, 16] b5 rfl rfl (fun h12 => ?_) (fun h12 => ?_) ?_
    · skip
      replace h13 := ite_F h12 h13
      refine AR.is 30 h12 rfl ?_
      refine AR.cs FX_ok 2 rfl ?_
      obtain ⟨x4, h14, h13⟩ := bind1_inv h13
      refine AR.go rfl rfl rfl rfl rfl rfl (AO.idx_str h14 rfl un_9 rfl rfl ?_)
      refine AR.cs FX_ok 1 rfl ?_
      cases h13
      refine AR.cs FX_ok 1 rfl ?_
      refine AR.nil [35, 0, 1, 5, 16] rfl ?_
      exact ⟨rfl, rfl, rfl, rfl⟩
    · skip
      replace h13 := ite_T h12 h13
      refine AR.is 30 h12 rfl ?_
      cases h13
      refine AR.cs FX_ok 5 rfl ?_
      refine AR.nil [35, 0, 1, 5, 16] rfl ?_
      exact ⟨rfl, rfl, rfl, rfl⟩
    cases h5
    refine AR.cs FX_ok 1 rfl ?_
    refine AR.nil [36, 0, 1, 5] rfl ?_
    exact ⟨rfl, rfl, rfl, rfl⟩
  · skip
    replace h5 := ite_F h4 h5
    refine AR.is 16 h4 rfl ?_
    cases h5
    refine AR.cs FX_ok 20 rfl ?_
    refine AR.nil [36, 0, 1, 5] rfl ?_
    exact ⟨rfl, rfl, rfl, rfl⟩
  refine AR.nil [0, 1, 5, 36] rfl ?_
  refine AW.cond rfl (fun h15 => ?_) (fun h15 => ?_)
  · replace hf := ite_T h15 hf
    refine AW.skip ?_
    refine AW.block ?_
    refine AW.seq ?_
    refine AW.region ?_
    refine AR.cs FX_ok 2 rfl ?_
    obtain ⟨b6, h17, hf⟩ := bind1_inv hf
    refine AR.join1 5 38 43 false [0, 1, 5] b6 rfl rfl (fun h16 => ?_) (fun h16 => ?_) ?_
    · skip
      replace h17 := ite_F h16 h17
      refine AR.is 38 h16 rfl ?_
      refine AR.cs FX_ok 2 rfl ?_
      obtain ⟨x5, h18, h17⟩ := bind1_inv h17
      refine AR.go rfl rfl rfl rfl rfl rfl (AO.idx_str h18 rfl un_9 rfl rfl ?_)
      refine AR.cs FX_ok 1 rfl ?_
      cases h17
      refine AR.cs FX_ok 1 rfl ?_
      refine AR.nil [43, 0, 1, 5] rfl ?_
      exact ⟨rfl, rfl, rfl, rfl⟩
    · skip
      replace h17 := ite_T h16 h17
      refine AR.is 38 h16 rfl ?_
      cases h17
      refine AR.cs FX_ok 5 rfl ?_
      refine AR.nil [43, 0, 1, 5] rfl ?_
      exact ⟨rfl, rfl, rfl, rfl⟩
    refine AR.cs FX_ok 1 rfl ?_
    refine AR.nil [0, 1, 5] rfl ?_
    refine AW.region ?_
    refine AR.cs FX_ok 3 rfl ?_
    refine AR.nil [0, 1, 5] rfl ?_
    exact ⟨(w64 (at2 + 1)), b6, rfl, rfl, rfl, hf⟩
  · replace hf := ite_F h15 hf
    refine AW.exit ?_
    refine AW.seq ?_
    refine AW.region ?_
    refine AR.cs FX_ok 2 rfl ?_
    refine AR.nil [4] rfl ?_
    refine AW.ret ?_
    cases hf
    exact ⟨rfl, _, ⟨_, _, rfl, rfl, rfl⟩, [], List.nil_sublist _, h⟩

theorem c_r09_digit (c1 : UInt8) {r0 : Bool} (hf : r09_digit c1 = some r0) {τ : List Res} {Q : AOut → List Res → Prop} (h : Q (.ret (.bool r0)) τ) : AC Try.prog 35 [.int .u8 (c1.toNat : Int)] τ Q := by
  unfold r09_digit at hf
  refine AC.none ?_
  refine AC.of_body 9 [.tmp 2] [0] Try.func35 rfl rfl rfl rfl rfl ?_
  refine AW.seq ?_
  refine AW.region ?_
  refine AR.cs FX_ok 1 rfl ?_
  refine AR.nil [0] rfl ?_
  refine AW.seq ?_
  refine AW.region ?_
  refine AR.cs FX_ok 3 rfl ?_
  refine AR.and 3 5 8 [] (x := (decide ((c1.toNat : Int) ≤ 57))) rfl rfl (fun h1 => ?_) (fun h1 => ?_) ?_
  · skip
    refine AR.is 5 h1 rfl ?_
    refine AR.cs FX_ok 3 rfl ?_
    refine AR.nil [8] rfl ?_
    exact ⟨rfl, rfl, rfl, rfl⟩
  · skip
    refine AR.is 5 h1 rfl ?_
    refine AR.cs FX_ok 3 rfl ?_
    refine AR.nil [8] rfl ?_
    exact ⟨rfl, rfl, rfl, rfl⟩
  refine AR.cs FX_ok 1 rfl ?_
  refine AR.nil [2] rfl ?_
  refine AW.ret ?_
  cases hf
  exact ⟨rfl, _, ⟨_, _, rfl, rfl, rfl⟩, [], List.nil_sublist _, h⟩

theorem c_r09_digits (src1 : Str) (at1 : Int) {r0 : Int} (hf : r09_digits src1 at1 = some r0) {τ : List Res} {Q : AOut → List Res → Prop} (h : Q (.ret (.int .i64 r0)) τ) : AC Try.prog 47 [.str src1, .int .i64 at1] τ Q := by
  unfold r09_digits at hf
  refine AC.none ?_
  refine AC.of_body 23 [.tmp 4] [0, 1] Try.func47 rfl rfl rfl rfl rfl ?_
  refine AW.seq ?_
  refine AW.region ?_
  refine AR.cs FX_ok 1 rfl ?_
  refine AR.nil [0, 1] rfl ?_
  refine AW.seq ?_
  refine AW.region ?_
  refine AR.cs FX_ok 1 rfl ?_
  refine AR.nil [0, 1, 5] rfl ?_
  refine AW.seq ?_
  refine AW.block ?_
  refine AW.settle [0, 1, 5] rfl ?_
  refine AW.loopF1 (fun n1 => [(0, .str src1), (1, .int .i64 at1), (5, .int .i64 n1)]) (fun n1 => []) (fun k n1 => r09_digits_l1 src1 at1 k n1 = some r0) BIG 0 rfl rfl hf (fun _ hz => none_no hz) ?_
  intro k n1 hf
  rw [r09_digits_l1] at hf
  refine AW.seq ?_
  refine AW.seq ?_
  refine AW.region ?_
  refine AR.cs FX_ok 4 rfl ?_
  refine AR.step rfl rfl rfl (AO.len_str rfl rfl rfl rfl un_9 rfl ?_)
  refine AR.cs FX_ok 2 rfl ?_
  obtain ⟨b1, h2, hf⟩ := bind1_inv hf
  refine AR.join1 7 12 19 true [0, 1, 5] b1 rfl rfl (fun h1 => ?_) (fun h1 => ?_) ?_
  · skip
    replace h2 := ite_T h1 h2
    refine AR.is 12 h1 rfl ?_
    refine AR.cs FX_ok 4 rfl ?_
    obtain ⟨x1, h3, h2⟩ := bind1_inv h2
    refine AR.go rfl rfl rfl rfl rfl rfl (AO.idx_str h3 rfl un_9 rfl rfl ?_)
    replace h2 := (bind1_ret _).trans h2
    obtain ⟨x2, h4, h2⟩ := bind1_inv h2
    refine AR.go rfl rfl rfl rfl rfl rfl (AO.call rfl _ rfl rfl pf_35 (c_r09_digit _ h4 ?_))
    cases h2
    refine AR.cs FX_ok 1 rfl ?_
    refine AR.nil [19, 0, 1, 5] rfl ?_
    exact ⟨rfl, rfl, rfl, rfl⟩
  · skip
    replace h2 := ite_F h1 h2
    refine AR.is 12 h1 rfl ?_
    cases h2
    refine AR.cs FX_ok 7 rfl ?_
    refine AR.nil [19, 0, 1, 5] rfl ?_
    exact ⟨rfl, rfl, rfl, rfl⟩
  refine AR.nil [0, 1, 5, 19] rfl ?_
  refine AW.cond rfl (fun h5 => ?_) (fun h5 => ?_)
  · replace hf := ite_T h5 hf
    refine AW.skip ?_
    refine AW.block ?_
    refine AW.region ?_
    refine AR.cs FX_ok 3 rfl ?_
    refine AR.nil [0, 1, 5] rfl ?_
    exact ⟨(w64 (n1 + 1)), rfl, rfl, rfl, hf⟩
  · replace hf := ite_F h5 hf
    refine AW.exit ?_
    refine AW.seq ?_
    refine AW.region ?_
    refine AR.cs FX_ok 2 rfl ?_
    refine AR.nil [4] rfl ?_
    refine AW.ret ?_
    cases hf
    exact ⟨rfl, _, ⟨_, _, rfl, rfl, rfl⟩, [], List.nil_sublist _, h⟩

theorem c_r09_letter (c1 : UInt8) {r0 : Bool} (hf : r09_letter c1 = some r0) {τ : List Res} {Q : AOut → List Res → Prop} (h : Q (.ret (.bool r0)) τ) : AC Try.prog 50 [.int .u8 (c1.toNat : Int)] τ Q := by
  unfold r09_letter at hf
  refine AC.none ?_
  refine AC.of_body 21 [.tmp 2] [0] Try.func50 rfl rfl rfl rfl rfl ?_
  refine AW.seq ?_
  refine AW.region ?_
  refine AR.cs FX_ok 1 rfl ?_
  refine AR.nil [0] rfl ?_
  refine AW.seq ?_
  refine AW.region ?_
  refine AR.cs FX_ok 3 rfl ?_
  refine AR.and 3 5 8 [0] (x := (decide ((c1.toNat : Int) ≤ 122))) rfl rfl (fun h1 => ?_) (fun h1 => ?_) ?_
  · skip
    refine AR.is 5 h1 rfl ?_
    refine AR.cs FX_ok 3 rfl ?_
    refine AR.nil [8, 0] rfl ?_
    exact ⟨rfl, rfl, rfl, rfl⟩
  · skip
    refine AR.is 5 h1 rfl ?_
    refine AR.cs FX_ok 3 rfl ?_
    refine AR.nil [8, 0] rfl ?_
    exact ⟨rfl, rfl, rfl, rfl⟩
  refine AR.cs FX_ok 1 rfl ?_
  refine AR.or 7 9 16 [0] (x := ((decide (65 ≤ (c1.toNat : Int))) && (decide ((c1.toNat : Int) ≤ 90)))) rfl rfl (fun h2 => ?_) (fun h2 => ?_) ?_
  · skip
    refine AR.is 9 h2 rfl ?_
    refine AR.cs FX_ok 3 rfl ?_
    refine AR.and 3 12 15 [0, 9] (x := (decide ((c1.toNat : Int) ≤ 90))) rfl rfl (fun h3 => ?_) (fun h3 => ?_) ?_
    · skip
      refine AR.is 12 h3 rfl ?_
      refine AR.cs FX_ok 3 rfl ?_
      refine AR.nil [15, 0, 9] rfl ?_
      exact ⟨rfl, rfl, rfl, rfl⟩
    · skip
      refine AR.is 12 h3 rfl ?_
      refine AR.cs FX_ok 3 rfl ?_
      refine AR.nil [15, 0, 9] rfl ?_
      exact ⟨rfl, rfl, rfl, rfl⟩
    refine AR.cs FX_ok 1 rfl ?_
    refine AR.nil [16, 0] rfl ?_
    exact ⟨rfl, rfl, rfl, rfl⟩
  · skip
    refine AR.is 9 h2 rfl ?_
    refine AR.cs FX_ok 7 rfl ?_
    refine AR.nil [16, 0] rfl ?_
    exact ⟨rfl, rfl, rfl, rfl⟩
  refine AR.cs FX_ok 1 rfl ?_
  refine AR.or 3 17 20 [] (x := ((c1.toNat : Int) == 95)) rfl rfl (fun h4 => ?_) (fun h4 => ?_) ?_
  · skip
    refine AR.is 17 h4 rfl ?_
    refine AR.cs FX_ok 3 rfl ?_
    refine AR.nil [20] rfl ?_
    exact ⟨rfl, rfl, rfl, rfl⟩
  · skip
    refine AR.is 17 h4 rfl ?_
    refine AR.cs FX_ok 3 rfl ?_
    refine AR.nil [20] rfl ?_
    exact ⟨rfl, rfl, rfl, rfl⟩
  refine AR.cs FX_ok 1 rfl ?_
  refine AR.nil [2] rfl ?_
  refine AW.ret ?_
  cases hf
  exact ⟨rfl, _, ⟨_, _, rfl, rfl, rfl⟩, [], List.nil_sublist _, h⟩

theorem c_r09_word (src1 : Str) (at1 : Int) {r0 : Int} (hf : r09_word src1 at1 = some r0) {τ : List Res} {Q : AOut → List Res → Prop} (h : Q (.ret (.int .i64 r0)) τ) : AC Try.prog 38 [.str src1, .int .i64 at1] τ Q := by
  unfold r09_word at hf
  refine AC.none ?_
  refine AC.of_body 31 [.tmp 4] [0, 1] Try.func38 rfl rfl rfl rfl rfl ?_
  refine AW.seq ?_
  refine AW.region ?_
  refine AR.cs FX_ok 1 rfl ?_
  refine AR.nil [0, 1] rfl ?_
  refine AW.seq ?_
  refine AW.region ?_
  refine AR.cs FX_ok 1 rfl ?_
  refine AR.nil [0, 1, 5] rfl ?_
  refine AW.seq ?_
  refine AW.block ?_
  refine AW.settle [0, 1, 5] rfl ?_
  refine AW.loopF1 (fun n1 => [(0, .str src1), (1, .int .i64 at1), (5, .int .i64 n1)]) (fun n1 => []) (fun k n1 => r09_word_l1 src1 at1 k n1 = some r0) BIG 0 rfl rfl hf (fun _ hz => none_no hz) ?_
  intro k n1 hf
  rw [r09_word_l1] at hf
  refine AW.seq ?_
  refine AW.seq ?_
  refine AW.region ?_
  refine AR.cs FX_ok 4 rfl ?_
  refine AR.step rfl rfl rfl (AO.len_str rfl rfl rfl rfl un_9 rfl ?_)
  refine AR.cs FX_ok 2 rfl ?_
  obtain ⟨b1, h2, hf⟩ := bind1_inv hf
  refine AR.join1 15 12 27 true [0, 1, 5] b1 rfl rfl (fun h1 => ?_) (fun h1 => ?_) ?_
  · skip
    replace h2 := ite_T h1 h2
    refine AR.is 12 h1 rfl ?_
    refine AR.cs FX_ok 4 rfl ?_
    obtain ⟨x1, h3, h2⟩ := bind1_inv h2
    refine AR.go rfl rfl rfl rfl rfl rfl (AO.idx_str h3 rfl un_9 rfl rfl ?_)
    obtain ⟨x2, h4, h2⟩ := bind1_inv h2
    refine AR.go rfl rfl rfl rfl rfl rfl (AO.call rfl _ rfl rfl pf_50 (c_r09_letter _ h4 ?_))
    refine AR.cs FX_ok 1 rfl ?_
    replace h2 := (bind1_ret _).trans h2
    obtain ⟨b2, h6, h2⟩ := bind1_inv h2
    refine AR.join1 7 19 26 false [0, 1, 5, 12] b2 rfl rfl (fun h5 => ?_) (fun h5 => ?_) ?_
    · skip
      replace h6 := ite_F h5 h6
      refine AR.is 19 h5 rfl ?_
      refine AR.cs FX_ok 4 rfl ?_
      obtain ⟨x3, h7, h6⟩ := bind1_inv h6
      refine AR.go rfl rfl rfl rfl rfl rfl (AO.idx_str h7 rfl un_9 rfl rfl ?_)
      replace h6 := (bind1_ret _).trans h6
      obtain ⟨x4, h8, h6⟩ := bind1_inv h6
      refine AR.go rfl rfl rfl rfl rfl rfl (AO.call rfl _ rfl rfl pf_35 (c_r09_digit _ h8 ?_))
      cases h6
      refine AR.cs FX_ok 1 rfl ?_
      refine AR.nil [26, 0, 1, 5, 12] rfl ?_
      exact ⟨rfl, rfl, rfl, rfl⟩
    · skip
      replace h6 := ite_T h5 h6
      refine AR.is 19 h5 rfl ?_
      cases h6
      refine AR.cs FX_ok 7 rfl ?_
      refine AR.nil [26, 0, 1, 5, 12] rfl ?_
      exact ⟨rfl, rfl, rfl, rfl⟩
    cases h2
    refine AR.cs FX_ok 1 rfl ?_
    refine AR.nil [27, 0, 1, 5] rfl ?_
    exact ⟨rfl, rfl, rfl, rfl⟩
  · skip
    replace h2 := ite_F h1 h2
    refine AR.is 12 h1 rfl ?_
    cases h2
    refine AR.cs FX_ok 15 rfl ?_
    refine AR.nil [27, 0, 1, 5] rfl ?_
    exact ⟨rfl, rfl, rfl, rfl⟩
  refine AR.nil [0, 1, 5, 27] rfl ?_
  refine AW.cond rfl (fun h9 => ?_) (fun h9 => ?_)
  · replace hf := ite_T h9 hf
    refine AW.skip ?_
    refine AW.block ?_
    refine AW.region ?_
    refine AR.cs FX_ok 3 rfl ?_
    refine AR.nil [0, 1, 5] rfl ?_
    exact ⟨(w64 (n1 + 1)), rfl, rfl, rfl, hf⟩
  · replace hf := ite_F h9 hf
    refine AW.exit ?_
    refine AW.seq ?_
    refine AW.region ?_
    refine AR.cs FX_ok 2 rfl ?_
    refine AR.nil [4] rfl ?_
    refine AW.ret ?_
    cases hf
    exact ⟨rfl, _, ⟨_, _, rfl, rfl, rfl⟩, [], List.nil_sublist _, h⟩

theorem c_r09_Int (s1 : Str) {r0 : Int} {r1 : Bool} (hf : r09_Int s1 = some (r0, r1)) {τ : List Res} {Q : AOut → List Res → Prop} (h : Q (.ret (.tuple [.int .i64 r0, .bool r1])) τ) : AC Try.prog 48 [.str s1] τ Q := by
  unfold r09_Int at hf
  refine AC.none ?_
  refine AC.of_body 45 [.tmp 2, .tmp 3] [0] Try.func48 rfl rfl rfl rfl rfl ?_
  refine AW.seq ?_
  refine AW.region ?_
  refine AR.cs FX_ok 2 rfl ?_
  refine AR.nil [0] rfl ?_
  refine AW.seq ?_
  refine AW.seq ?_
  refine AW.region ?_
  refine AR.cs FX_ok 3 rfl ?_
  refine AR.or 4 8 12 [0] (x := (decide (16 < (s1.length : Int)))) rfl rfl (fun h1 => ?_) (fun h1 => ?_) ?_
  · skip
    refine AR.is 8 h1 rfl ?_
    refine AR.cs FX_ok 1 rfl ?_
    refine AR.go rfl rfl rfl rfl rfl rfl (AO.len_str rfl rfl rfl rfl un_9 rfl ?_)
    refine AR.cs FX_ok 2 rfl ?_
    refine AR.nil [12, 0] rfl ?_
    exact ⟨rfl, rfl, rfl, rfl⟩
  · skip
    refine AR.is 8 h1 rfl ?_
    refine AR.cs FX_ok 4 rfl ?_
    refine AR.nil [12, 0] rfl ?_
    exact ⟨rfl, rfl, rfl, rfl⟩
  refine AR.cs FX_ok 1 rfl ?_
  obtain ⟨b1, h3, hf⟩ := bind1_inv hf
  refine AR.join1 9 13 22 false [0] b1 rfl rfl (fun h2 => ?_) (fun h2 => ?_) ?_
  · skip
    replace h3 := ite_F h2 h3
    refine AR.is 13 h2 rfl ?_
    refine AR.cs FX_ok 1 rfl ?_
    refine AR.go rfl rfl rfl rfl rfl rfl (AO.len_str rfl rfl rfl rfl un_9 rfl ?_)
    refine AR.cs FX_ok 2 rfl ?_
    replace h3 := (bind1_ret _).trans h3
    obtain ⟨b2, h5, h3⟩ := bind1_inv h3
    refine AR.join1 4 17 21 true [0, 13] b2 rfl rfl (fun h4 => ?_) (fun h4 => ?_) ?_
    · skip
      replace h5 := ite_T h4 h5
      refine AR.is 17 h4 rfl ?_
      refine AR.cs FX_ok 1 rfl ?_
      obtain ⟨x1, h6, h5⟩ := bind1_inv h5
      refine AR.go rfl rfl rfl rfl rfl rfl (AO.idx_str h6 rfl un_9 rfl rfl ?_)
      refine AR.cs FX_ok 1 rfl ?_
      cases h5
      refine AR.cs FX_ok 1 rfl ?_
      refine AR.nil [21, 0, 13] rfl ?_
      exact ⟨rfl, rfl, rfl, rfl⟩
    · skip
      replace h5 := ite_F h4 h5
      refine AR.is 17 h4 rfl ?_
      cases h5
      refine AR.cs FX_ok 4 rfl ?_
      refine AR.nil [21, 0, 13] rfl ?_
      exact ⟨rfl, rfl, rfl, rfl⟩
    cases h3
    refine AR.cs FX_ok 1 rfl ?_
    refine AR.nil [22, 0] rfl ?_
    exact ⟨rfl, rfl, rfl, rfl⟩
  · skip
    replace h3 := ite_T h2 h3
    refine AR.is 13 h2 rfl ?_
    cases h3
    refine AR.cs FX_ok 9 rfl ?_
    refine AR.nil [22, 0] rfl ?_
    exact ⟨rfl, rfl, rfl, rfl⟩
  refine AR.nil [0, 22] rfl ?_
  refine AW.cond rfl (fun h7 => ?_) (fun h7 => ?_)
  · replace hf := ite_T h7 hf
    refine AW.seq ?_
    refine AW.region ?_
    refine AR.cs FX_ok 2 rfl ?_
    refine AR.nil [2, 3] rfl ?_
    refine AW.ret ?_
    cases hf
    exact ⟨rfl, _, ⟨_, _, rfl, rfl, _, _, rfl, rfl, rfl⟩, [], List.nil_sublist _, h⟩
  · replace hf := ite_F h7 hf
    refine AW.skip ?_
    refine AW.seq ?_
    refine AW.region ?_
    refine AR.cs FX_ok 1 rfl ?_
    refine AR.nil [0, 4] rfl ?_
    refine AW.seq ?_
    refine AW.seq ?_
    refine AW.region ?_
    refine AR.cs FX_ok 1 rfl ?_
    refine AR.nil [0, 4, 5] rfl ?_
    refine AW.block ?_
    refine AW.settle [0, 4, 5] rfl ?_
    refine AW.loopF2 (fun n1 i1 => [(0, .str s1), (4, .int .i64 n1), (5, .int .i64 i1)]) (fun n1 i1 => []) (fun k n1 i1 => r09_Int_l1 s1 k n1 i1 = some (r0, r1)) BIG 0 0 rfl rfl hf (fun _ _ hz => none_no hz) ?_
    intro k n1 i1 hf
    rw [r09_Int_l1] at hf
    refine AW.seq ?_
    refine AW.seq ?_
    refine AW.region ?_
    refine AR.cs FX_ok 2 rfl ?_
    refine AR.step rfl rfl rfl (AO.len_str rfl rfl rfl rfl un_9 rfl ?_)
    refine AR.cs FX_ok 1 rfl ?_
    refine AR.nil [0, 4, 5, 26] rfl ?_
    refine AW.cond rfl (fun h8 => ?_) (fun h8 => ?_)
    · replace hf := ite_T h8 hf
      refine AW.skip ?_
      refine AW.seq ?_
      refine AW.block ?_
      refine AW.seq ?_
      refine AW.seq ?_
      refine AW.region ?_
      refine AR.cs FX_ok 2 rfl ?_
      obtain ⟨x2, h9, hf⟩ := bind1_inv hf
      refine AR.step rfl rfl rfl (AO.idx_str h9 rfl un_9 rfl rfl ?_)
      obtain ⟨x3, h10, hf⟩ := bind1_inv hf
      refine AR.step rfl rfl rfl (AO.call rfl _ rfl rfl pf_35 (c_r09_digit _ h10 ?_))
      refine AR.cs FX_ok 1 rfl ?_
      refine AR.nil [0, 4, 5, 33] rfl ?_
      refine AW.cond rfl (fun h11 => ?_) (fun h11 => ?_)
      · replace hf := ite_T h11 hf
        refine AW.seq ?_
        refine AW.region ?_
        refine AR.cs FX_ok 2 rfl ?_
        refine AR.nil [2, 3] rfl ?_
        refine AW.ret ?_
        cases hf
        exact ⟨rfl, _, ⟨_, _, rfl, rfl, _, _, rfl, rfl, rfl⟩, [], List.nil_sublist _, h⟩
      · replace hf := ite_F h11 hf
        refine AW.skip ?_
        refine AW.region ?_
        refine AR.cs FX_ok 4 rfl ?_
        obtain ⟨x4, h12, hf⟩ := bind1_inv hf
        refine AR.step rfl rfl rfl (AO.idx_str h12 rfl un_9 rfl rfl ?_)
        refine AR.step rfl rfl rfl (AO.conv_byte rfl un_5 un_3 rfl rfl ?_)
        refine AR.cs FX_ok 3 rfl ?_
        refine AR.nil [0, 4, 5] rfl ?_
        refine AW.region ?_
        refine AR.cs FX_ok 3 rfl ?_
        refine AR.nil [0, 4, 5] rfl ?_
        exact ⟨(w64 ((w64 ((w64 (10 * n1)) + (x4.toNat : Int))) - 48)), (w64 (i1 + 1)), rfl, rfl, rfl, hf⟩
    · replace hf := ite_F h8 hf
      refine AW.exit ?_
      refine AW.seq ?_
      refine AW.region ?_
      refine AR.cs FX_ok 5 rfl ?_
      refine AR.nil [2, 3] rfl ?_
      refine AW.ret ?_
      cases hf
      exact ⟨rfl, _, ⟨_, _, rfl, rfl, _, _, rfl, rfl, rfl⟩, [], List.nil_sublist _, h⟩

theorem c_r09_number (src1 : Str) (at1 : Int) {r0 : ApiToken} {r1 : Int} {r2 : Int} (hf : r09_number src1 at1 = some (r0, r1, r2)) {τ : List Res} {Q : AOut → List Res → Prop} (h : Q (.ret (.tuple [.agg [.int .i64 r0.kind, .str r0.text, .int .i64 r0.at_], .int .i64 r1, .int .i64 r2])) τ) : AC Try.prog 36 [.str src1, .int .i64 at1] τ Q := by
  unfold r09_number at hf
  refine AC.none ?_
  refine AC.of_body 50 [.cell 4 35, .tmp 5, .tmp 6] [0, 1] Try.func36 rfl rfl rfl rfl rfl ?_
  refine AW.seq ?_
  refine AW.region ?_
  refine AR.step rfl rfl rfl (AO.alloc_own rfl zp_35 (fun b4 => ?_))
  refine AR.cs FX_ok 2 rfl ?_
  refine AR.nil [0, 1, 4] rfl ?_
  refine AW.seq ?_
  refine AW.region ?_
  refine AR.cs FX_ok 2 rfl ?_
  obtain ⟨n1, h1, hf⟩ := bind1_inv hf
  refine AR.step rfl rfl rfl (AO.call rfl _ rfl rfl pf_47 (c_r09_digits _ _ h1 ?_))
  refine AR.cs FX_ok 1 rfl ?_
  refine AR.nil [0, 1, 4, 7] rfl ?_
  refine AW.seq ?_
  refine AW.seq ?_
  refine AW.region ?_
  refine AR.cs FX_ok 2 rfl ?_
  obtain ⟨x1, h2, hf⟩ := bind1_inv hf
  refine AR.step rfl rfl rfl (AO.call rfl _ rfl rfl pf_38 (c_r09_word _ _ h2 ?_))
  refine AR.cs FX_ok 3 rfl ?_
  obtain ⟨b1, h4, hf⟩ := bind1_inv hf
  refine AR.join1 9 18 27 false [0, 1, 4, 7] b1 rfl rfl (fun h3 => ?_) (fun h3 => ?_) ?_
  · skip
    replace h4 := ite_F h3 h4
    refine AR.is 18 h3 rfl ?_
    refine AR.cs FX_ok 3 rfl ?_
    replace h4 := (bind1_ret _).trans h4
    obtain ⟨b2, h6, h4⟩ := bind1_inv h4
    refine AR.join1 5 21 26 true [0, 1, 4, 7, 18] b2 rfl rfl (fun h5 => ?_) (fun h5 => ?_) ?_
    · skip
      replace h6 := ite_T h5 h6
      refine AR.is 21 h5 rfl ?_
      refine AR.cs FX_ok 2 rfl ?_
      obtain ⟨x2, h7, h6⟩ := bind1_inv h6
      refine AR.go rfl rfl rfl rfl rfl rfl (AO.idx_str h7 rfl un_9 rfl rfl ?_)
      refine AR.cs FX_ok 1 rfl ?_
      cases h6
      refine AR.cs FX_ok 1 rfl ?_
      refine AR.nil [26, 0, 1, 4, 7, 18] rfl ?_
      exact ⟨rfl, rfl, rfl, rfl⟩
    · skip
      replace h6 := ite_F h5 h6
      refine AR.is 21 h5 rfl ?_
      cases h6
      refine AR.cs FX_ok 5 rfl ?_
      refine AR.nil [26, 0, 1, 4, 7, 18] rfl ?_
      exact ⟨rfl, rfl, rfl, rfl⟩
    cases h4
    refine AR.cs FX_ok 1 rfl ?_
    refine AR.nil [27, 0, 1, 4, 7] rfl ?_
    exact ⟨rfl, rfl, rfl, rfl⟩
  · skip
    replace h4 := ite_T h3 h4
    refine AR.is 18 h3 rfl ?_
    cases h4
    refine AR.cs FX_ok 9 rfl ?_
    refine AR.nil [27, 0, 1, 4, 7] rfl ?_
    exact ⟨rfl, rfl, rfl, rfl⟩
  refine AR.nil [0, 1, 4, 7, 27] rfl ?_
  refine AW.cond rfl (fun h8 => ?_) (fun h8 => ?_)
  · replace hf := ite_T h8 hf
    refine AW.seq ?_
    refine AW.region ?_
    refine AR.step rfl rfl rfl (AO.build rfl zp_35 spl_35 rfl ?_)
    refine AR.step_none rfl rfl (AO.store_box (i := 0) rfl rfl rfl ti_35 rfl rfl rfl rfl rfl ?_)
    refine AR.cs FX_ok 2 rfl ?_
    refine AR.nil [4, 5, 6] rfl ?_
    refine AW.ret ?_
    cases hf
    exact ⟨rfl, _, ⟨_, _, rfl, ⟨_, _, 0, _, _, rfl, rfl, ti_35, rfl⟩, _, _, rfl, rfl, _, _, rfl, rfl, rfl⟩, [], List.nil_sublist _, h⟩
  · replace hf := ite_F h8 hf
    refine AW.skip ?_
    refine AW.seq ?_
    refine AW.seq ?_
    refine AW.region ?_
    refine AR.cs FX_ok 5 rfl ?_
    obtain ⟨x3, h9, hf⟩ := bind1_inv hf
    refine AR.step rfl rfl rfl (AO.sl_str h9 rfl un_9 rfl ⟨_, rfl⟩ ⟨_, rfl⟩ ?_)
    obtain ⟨x4, ok1, h10, hf⟩ := bind2_inv hf
    refine AR.step rfl rfl rfl (AO.call rfl _ rfl rfl pf_48 (c_r09_Int _ h10 ?_))
    refine AR.cs FX_ok 5 rfl ?_
    refine AR.nil [0, 1, 4, 7, 9] rfl ?_
    refine AW.seq ?_
    refine AW.region ?_
    refine AR.cs FX_ok 2 rfl ?_
    refine AR.nil [0, 1, 4, 7, 40] rfl ?_
    refine AW.cond rfl (fun h11 => ?_) (fun h11 => ?_)
    · replace hf := ite_T h11 hf
      refine AW.seq ?_
      refine AW.region ?_
      refine AR.step rfl rfl rfl (AO.build rfl zp_35 spl_35 rfl ?_)
      refine AR.step_none rfl rfl (AO.store_box (i := 0) rfl rfl rfl ti_35 rfl rfl rfl rfl rfl ?_)
      refine AR.cs FX_ok 2 rfl ?_
      refine AR.nil [4, 5, 6] rfl ?_
      refine AW.ret ?_
      cases hf
      exact ⟨rfl, _, ⟨_, _, rfl, ⟨_, _, 0, _, _, rfl, rfl, ti_35, rfl⟩, _, _, rfl, rfl, _, _, rfl, rfl, rfl⟩, [], List.nil_sublist _, h⟩
    · replace hf := ite_F h11 hf
      refine AW.skip ?_
      refine AW.seq ?_
      refine AW.region ?_
      refine AR.cs FX_ok 5 rfl ?_
      obtain ⟨x5, h12, hf⟩ := bind1_inv hf
      refine AR.step rfl rfl rfl (AO.sl_str h12 rfl un_9 rfl ⟨_, rfl⟩ ⟨_, rfl⟩ ?_)
      refine AR.step rfl rfl rfl (AO.build rfl zp_35 spl_35 rfl ?_)
      refine AR.cs FX_ok 1 rfl ?_
      refine AR.step_none rfl rfl (AO.store_box (i := 0) rfl rfl rfl ti_35 rfl rfl rfl rfl rfl ?_)
      refine AR.cs FX_ok 2 rfl ?_
      refine AR.nil [4, 5, 6] rfl ?_
      refine AW.ret ?_
      cases hf
      exact ⟨rfl, _, ⟨_, _, rfl, ⟨_, _, 0, _, _, rfl, rfl, ti_35, rfl⟩, _, _, rfl, rfl, _, _, rfl, rfl, rfl⟩, [], List.nil_sublist _, h⟩

theorem c_r09_hex (c1 : UInt8) {r0 : Int} (hf : r09_hex c1 = some r0) {τ : List Res} {Q : AOut → List Res → Prop} (h : Q (.ret (.int .i64 r0)) τ) : AC Try.prog 54 [.int .u8 (c1.toNat : Int)] τ Q := by
  unfold r09_hex at hf
  refine AC.none ?_
  refine AC.of_body 26 [.tmp 2] [0] Try.func54 rfl rfl rfl rfl rfl ?_
  refine AW.seq ?_
  refine AW.region ?_
  refine AR.cs FX_ok 1 rfl ?_
  refine AR.nil [0] rfl ?_
  refine AW.seq ?_
  refine AW.seq ?_
  refine AW.region ?_
  refine AR.cs FX_ok 1 rfl ?_
  obtain ⟨x1, h1, hf⟩ := bind1_inv hf
  refine AR.step rfl rfl rfl (AO.call rfl _ rfl rfl pf_35 (c_r09_digit _ h1 ?_))
  refine AR.nil [0, 4] rfl ?_
  refine AW.cond rfl (fun h2 => ?_) (fun h2 => ?_)
  · replace hf := ite_T h2 hf
    refine AW.seq ?_
    refine AW.region ?_
    refine AR.cs FX_ok 1 rfl ?_
    refine AR.step rfl rfl rfl (AO.conv_byte rfl un_5 un_3 rfl rfl ?_)
    refine AR.cs FX_ok 2 rfl ?_
    refine AR.nil [2] rfl ?_
    refine AW.ret ?_
    cases hf
    exact ⟨rfl, _, ⟨_, _, rfl, rfl, rfl⟩, [], List.nil_sublist _, h⟩
  · replace hf := ite_F h2 hf
    refine AW.skip ?_
    refine AW.seq ?_
    refine AW.seq ?_
    refine AW.region ?_
    refine AR.cs FX_ok 3 rfl ?_
    refine AR.and 3 10 13 [0] (x := (decide ((c1.toNat : Int) ≤ 102))) rfl rfl (fun h3 => ?_) (fun h3 => ?_) ?_
    · skip
      refine AR.is 10 h3 rfl ?_
      refine AR.cs FX_ok 3 rfl ?_
      refine AR.nil [13, 0] rfl ?_
      exact ⟨rfl, rfl, rfl, rfl⟩
    · skip
      refine AR.is 10 h3 rfl ?_
      refine AR.cs FX_ok 3 rfl ?_
      refine AR.nil [13, 0] rfl ?_
      exact ⟨rfl, rfl, rfl, rfl⟩
    refine AR.nil [0, 13] rfl ?_
    refine AW.cond rfl (fun h4 => ?_) (fun h4 => ?_)
    · replace hf := ite_T h4 hf
      refine AW.seq ?_
      refine AW.region ?_
      refine AR.cs FX_ok 1 rfl ?_
      refine AR.step rfl rfl rfl (AO.conv_byte rfl un_5 un_3 rfl rfl ?_)
      refine AR.cs FX_ok 2 rfl ?_
      refine AR.nil [2] rfl ?_
      refine AW.ret ?_
      cases hf
      exact ⟨rfl, _, ⟨_, _, rfl, rfl, rfl⟩, [], List.nil_sublist _, h⟩
    · replace hf := ite_F h4 hf
      refine AW.skip ?_
      refine AW.seq ?_
      refine AW.seq ?_
      refine AW.region ?_
      refine AR.cs FX_ok 3 rfl ?_
      refine AR.and 3 19 22 [0] (x := (decide ((c1.toNat : Int) ≤ 70))) rfl rfl (fun h5 => ?_) (fun h5 => ?_) ?_
      · skip
        refine AR.is 19 h5 rfl ?_
        refine AR.cs FX_ok 3 rfl ?_
        refine AR.nil [22, 0] rfl ?_
        exact ⟨rfl, rfl, rfl, rfl⟩
      · skip
        refine AR.is 19 h5 rfl ?_
        refine AR.cs FX_ok 3 rfl ?_
        refine AR.nil [22, 0] rfl ?_
        exact ⟨rfl, rfl, rfl, rfl⟩
      refine AR.nil [0, 22] rfl ?_
      refine AW.cond rfl (fun h6 => ?_) (fun h6 => ?_)
      · replace hf := ite_T h6 hf
        refine AW.seq ?_
        refine AW.region ?_
        refine AR.cs FX_ok 1 rfl ?_
        refine AR.step rfl rfl rfl (AO.conv_byte rfl un_5 un_3 rfl rfl ?_)
        refine AR.cs FX_ok 2 rfl ?_
        refine AR.nil [2] rfl ?_
        refine AW.ret ?_
        cases hf
        exact ⟨rfl, _, ⟨_, _, rfl, rfl, rfl⟩, [], List.nil_sublist _, h⟩
      · replace hf := ite_F h6 hf
        refine AW.skip ?_
        refine AW.seq ?_
        refine AW.region ?_
        refine AR.cs FX_ok 1 rfl ?_
        refine AR.nil [2] rfl ?_
        refine AW.ret ?_
        cases hf
        exact ⟨rfl, _, ⟨_, _, rfl, rfl, rfl⟩, [], List.nil_sublist _, h⟩

theorem c_r09_escaped (src1 : Str) (at1 : Int) {r0 : UInt8} {r1 : Int} {r2 : Int} (hf : r09_escaped src1 at1 = some (r0, r1, r2)) {τ : List Res} {Q : AOut → List Res → Prop} (h : Q (.ret (.tuple [.int .u8 (r0.toNat : Int), .int .i64 r1, .int .i64 r2])) τ) : AC Try.prog 53 [.str src1, .int .i64 at1] τ Q := by
  unfold r09_escaped at hf
  refine AC.none ?_
  refine AC.of_body 35 [.tmp 4, .tmp 5, .tmp 6] [0, 1] Try.func53 rfl rfl rfl rfl rfl ?_
  refine AW.seq ?_
  refine AW.region ?_
  refine AR.cs FX_ok 3 rfl ?_
  refine AR.nil [0, 1] rfl ?_
  refine AW.seq ?_
  refine AW.region ?_
  refine AR.cs FX_ok 1 rfl ?_
  refine AR.nil [0, 1, 7] rfl ?_
  refine AW.seq ?_
  refine AW.seq ?_
  refine AW.region ?_
  refine AR.cs FX_ok 3 rfl ?_
  refine AR.nil [0, 1, 7, 8] rfl ?_
  refine AW.block ?_
  refine AW.settle [0, 1, 7, 8] rfl ?_
  refine AW.loopF2 (fun n1 i1 => [(0, .str src1), (1, .int .i64 at1), (7, .int .i64 n1), (8, .int .i64 i1)]) (fun n1 i1 => []) (fun k n1 i1 => r09_escaped_l1 src1 at1 k n1 i1 = some (r0, r1, r2)) BIG 0 (w64 (at1 + 2)) rfl rfl hf (fun _ _ hz => none_no hz) ?_
  intro k n1 i1 hf
  rw [r09_escaped_l1] at hf
  refine AW.seq ?_
  refine AW.seq ?_
  refine AW.region ?_
  refine AR.cs FX_ok 4 rfl ?_
  refine AR.nil [0, 1, 7, 8, 14] rfl ?_
  refine AW.cond rfl (fun h1 => ?_) (fun h1 => ?_)
  · replace hf := ite_T h1 hf
    refine AW.skip ?_
    refine AW.seq ?_
    refine AW.block ?_
    refine AW.seq ?_
    refine AW.seq ?_
    refine AW.region ?_
    refine AR.cs FX_ok 2 rfl ?_
    refine AR.step rfl rfl rfl (AO.len_str rfl rfl rfl rfl un_9 rfl ?_)
    refine AR.cs FX_ok 1 rfl ?_
    refine AR.nil [0, 1, 7, 8, 20] rfl ?_
    refine AW.cond rfl (fun h2 => ?_) (fun h2 => ?_)
    · replace hf := ite_T h2 hf
      refine AW.seq ?_
      refine AW.region ?_
      refine AR.cs FX_ok 3 rfl ?_
      refine AR.nil [4, 5, 6] rfl ?_
      refine AW.ret ?_
      cases hf
      exact ⟨rfl, _, ⟨_, _, rfl, rfl, _, _, rfl, rfl, _, _, rfl, rfl, rfl⟩, [], List.nil_sublist _, h⟩
    · replace hf := ite_F h2 hf
      refine AW.skip ?_
      refine AW.seq ?_
      refine AW.seq ?_
      refine AW.region ?_
      refine AR.cs FX_ok 2 rfl ?_
      obtain ⟨x1, h3, hf⟩ := bind1_inv hf
      refine AR.step rfl rfl rfl (AO.idx_str h3 rfl un_9 rfl rfl ?_)
      obtain ⟨x2, h4, hf⟩ := bind1_inv hf
      refine AR.step rfl rfl rfl (AO.call rfl _ rfl rfl pf_54 (c_r09_hex _ h4 ?_))
      refine AR.cs FX_ok 1 rfl ?_
      refine AR.nil [0, 1, 7, 8, 25] rfl ?_
      refine AW.cond rfl (fun h5 => ?_) (fun h5 => ?_)
      · replace hf := ite_T h5 hf
        refine AW.seq ?_
        refine AW.region ?_
        refine AR.cs FX_ok 3 rfl ?_
        refine AR.nil [4, 5, 6] rfl ?_
        refine AW.ret ?_
        cases hf
        exact ⟨rfl, _, ⟨_, _, rfl, rfl, _, _, rfl, rfl, _, _, rfl, rfl, rfl⟩, [], List.nil_sublist _, h⟩
      · replace hf := ite_F h5 hf
        refine AW.skip ?_
        refine AW.region ?_
        refine AR.cs FX_ok 4 rfl ?_
        obtain ⟨x3, h6, hf⟩ := bind1_inv hf
        refine AR.step rfl rfl rfl (AO.idx_str h6 rfl un_9 rfl rfl ?_)
        obtain ⟨x4, h7, hf⟩ := bind1_inv hf
        refine AR.step rfl rfl rfl (AO.call rfl _ rfl rfl pf_54 (c_r09_hex _ h7 ?_))
        refine AR.cs FX_ok 2 rfl ?_
        refine AR.nil [0, 1, 7, 8] rfl ?_
        refine AW.region ?_
        refine AR.cs FX_ok 3 rfl ?_
        refine AR.nil [0, 1, 7, 8] rfl ?_
        exact ⟨(w64 ((w64 (16 * n1)) + x4)), (w64 (i1 + 1)), rfl, rfl, rfl, hf⟩
  · replace hf := ite_F h1 hf
    refine AW.exit ?_
    refine AW.seq ?_
    refine AW.region ?_
    refine AR.cs FX_ok 1 rfl ?_
    refine AR.step rfl rfl rfl (AO.conv_u8F rfl un_3 un_5 rfl ?_)
    refine AR.cs FX_ok 3 rfl ?_
    refine AR.nil [4, 5, 6] rfl ?_
    refine AW.ret ?_
    cases hf
    exact ⟨rfl, _, ⟨_, _, rfl, rfl, _, _, rfl, rfl, _, _, rfl, rfl, rfl⟩, [], List.nil_sublist _, h⟩

theorem c_r09_character (src1 : Str) (at1 : Int) {r0 : UInt8} {r1 : Int} {r2 : Int} (hf : r09_character src1 at1 = some (r0, r1, r2)) {τ : List Res} {Q : AOut → List Res → Prop} (h : Q (.ret (.tuple [.int .u8 (r0.toNat : Int), .int .i64 r1, .int .i64 r2])) τ) : AC Try.prog 49 [.str src1, .int .i64 at1] τ Q := by
  unfold r09_character at hf
  refine AC.none ?_
  refine AC.of_body 46 [.tmp 4, .tmp 5, .tmp 6] [0, 1] Try.func49 rfl rfl rfl rfl rfl ?_
  refine AW.seq ?_
  refine AW.region ?_
  refine AR.cs FX_ok 3 rfl ?_
  refine AR.nil [0, 1] rfl ?_
  refine AW.seq ?_
  refine AW.seq ?_
  refine AW.region ?_
  refine AR.cs FX_ok 2 rfl ?_
  obtain ⟨x1, h1, hf⟩ := bind1_inv hf
  refine AR.step rfl rfl rfl (AO.idx_str h1 rfl un_9 rfl rfl ?_)
  refine AR.cs FX_ok 1 rfl ?_
  refine AR.nil [0, 1, 10] rfl ?_
  refine AW.cond rfl (fun h2 => ?_) (fun h2 => ?_)
  · replace hf := ite_T h2 hf
    refine AW.seq ?_
    refine AW.region ?_
    refine AR.cs FX_ok 3 rfl ?_
    refine AR.nil [4, 5, 6] rfl ?_
    refine AW.ret ?_
    cases hf
    exact ⟨rfl, _, ⟨_, _, rfl, rfl, _, _, rfl, rfl, _, _, rfl, rfl, rfl⟩, [], List.nil_sublist _, h⟩
  · replace hf := ite_F h2 hf
    refine AW.skip ?_
    refine AW.seq ?_
    refine AW.seq ?_
    refine AW.region ?_
    refine AR.cs FX_ok 2 rfl ?_
    obtain ⟨x2, h3, hf⟩ := bind1_inv hf
    refine AR.step rfl rfl rfl (AO.idx_str h3 rfl un_9 rfl rfl ?_)
    refine AR.cs FX_ok 1 rfl ?_
    refine AR.nil [0, 1, 14] rfl ?_
    refine AW.cond rfl (fun h4 => ?_) (fun h4 => ?_)
    · replace hf := ite_T h4 hf
      refine AW.seq ?_
      refine AW.region ?_
      refine AR.cs FX_ok 2 rfl ?_
      obtain ⟨x3, h5, hf⟩ := bind1_inv hf
      refine AR.step rfl rfl rfl (AO.idx_str h5 rfl un_9 rfl rfl ?_)
      refine AR.cs FX_ok 3 rfl ?_
      refine AR.nil [4, 5, 6] rfl ?_
      refine AW.ret ?_
      cases hf
      exact ⟨rfl, _, ⟨_, _, rfl, rfl, _, _, rfl, rfl, _, _, rfl, rfl, rfl⟩, [], List.nil_sublist _, h⟩
    · replace hf := ite_F h4 hf
      refine AW.skip ?_
      refine AW.seq ?_
      refine AW.seq ?_
      refine AW.region ?_
      refine AR.cs FX_ok 3 rfl ?_
      refine AR.step rfl rfl rfl (AO.len_str rfl rfl rfl rfl un_9 rfl ?_)
      refine AR.cs FX_ok 1 rfl ?_
      refine AR.nil [0, 1, 22] rfl ?_
      refine AW.cond rfl (fun h6 => ?_) (fun h6 => ?_)
      · replace hf := ite_T h6 hf
        refine AW.seq ?_
        refine AW.region ?_
        refine AR.cs FX_ok 3 rfl ?_
        refine AR.nil [4, 5, 6] rfl ?_
        refine AW.ret ?_
        cases hf
        exact ⟨rfl, _, ⟨_, _, rfl, rfl, _, _, rfl, rfl, _, _, rfl, rfl, rfl⟩, [], List.nil_sublist _, h⟩
      · replace hf := ite_F h6 hf
        refine AW.skip ?_
        refine AW.seq ?_
        refine AW.seq ?_
        refine AW.region ?_
        refine AR.cs FX_ok 3 rfl ?_
        obtain ⟨x4, h7, hf⟩ := bind1_inv hf
        refine AR.step rfl rfl rfl (AO.idx_str h7 rfl un_9 rfl rfl ?_)
        refine AR.nil [0, 1, 26] rfl ?_
        refine AW.block ?_
        refine AW.seq ?_
        refine AW.seq ?_
        refine AW.region ?_
        refine AR.cs FX_ok 2 rfl ?_
        refine AR.nil [0, 1, 26, 27] rfl ?_
        refine AW.cond rfl (fun h8 => ?_) (fun h8 => ?_)
        · replace hf := ite_T h8 hf
          refine AW.skip ?_
          refine AW.cond rfl (fun h9 => ?_) (fun h9 => ?_)
          · skip
            refine AW.seq ?_
            refine AW.region ?_
            refine AR.cs FX_ok 3 rfl ?_
            obtain ⟨x5, h10, hf⟩ := bind1_inv hf
            refine AR.step rfl rfl rfl (AO.idx_str h10 rfl un_9 rfl rfl ?_)
            refine AR.cs FX_ok 3 rfl ?_
            refine AR.nil [4, 5, 6] rfl ?_
            refine AW.ret ?_
            cases hf
            exact ⟨rfl, _, ⟨_, _, rfl, rfl, _, _, rfl, rfl, _, _, rfl, rfl, rfl⟩, [], List.nil_sublist _, h⟩
          · cases h8.symm.trans h9
        · replace hf := ite_F h8 hf
          refine AW.region ?_
          refine AR.cs FX_ok 2 rfl ?_
          refine AR.nil [0, 1, 26, 27] rfl ?_
          refine AW.cond rfl (fun h11 => ?_) (fun h11 => ?_)
          · replace hf := ite_T h11 hf
            refine AW.seq ?_
            refine AW.region ?_
            refine AR.cs FX_ok 3 rfl ?_
            obtain ⟨x6, h12, hf⟩ := bind1_inv hf
            refine AR.step rfl rfl rfl (AO.idx_str h12 rfl un_9 rfl rfl ?_)
            refine AR.cs FX_ok 3 rfl ?_
            refine AR.nil [4, 5, 6] rfl ?_
            refine AW.ret ?_
            cases hf
            exact ⟨rfl, _, ⟨_, _, rfl, rfl, _, _, rfl, rfl, _, _, rfl, rfl, rfl⟩, [], List.nil_sublist _, h⟩
          · replace hf := ite_F h11 hf
            refine AW.seq ?_
            refine AW.region ?_
            refine AR.cs FX_ok 2 rfl ?_
            refine AR.nil [0, 1, 26, 34] rfl ?_
            refine AW.cond rfl (fun h13 => ?_) (fun h13 => ?_)
            · replace hf := ite_T h13 hf
              refine AW.seq ?_
              refine AW.region ?_
              refine AR.cs FX_ok 3 rfl ?_
              refine AR.nil [4, 5, 6] rfl ?_
              refine AW.ret ?_
              cases hf
              exact ⟨rfl, _, ⟨_, _, rfl, rfl, _, _, rfl, rfl, _, _, rfl, rfl, rfl⟩, [], List.nil_sublist _, h⟩
            · replace hf := ite_F h13 hf
              refine AW.seq ?_
              refine AW.region ?_
              refine AR.cs FX_ok 2 rfl ?_
              refine AR.nil [0, 1, 26, 36] rfl ?_
              refine AW.cond rfl (fun h14 => ?_) (fun h14 => ?_)
              · replace hf := ite_T h14 hf
                refine AW.seq ?_
                refine AW.region ?_
                refine AR.cs FX_ok 3 rfl ?_
                refine AR.nil [4, 5, 6] rfl ?_
                refine AW.ret ?_
                cases hf
                exact ⟨rfl, _, ⟨_, _, rfl, rfl, _, _, rfl, rfl, _, _, rfl, rfl, rfl⟩, [], List.nil_sublist _, h⟩
              · replace hf := ite_F h14 hf
                refine AW.seq ?_
                refine AW.region ?_
                refine AR.cs FX_ok 2 rfl ?_
                refine AR.nil [0, 1, 38] rfl ?_
                refine AW.cond rfl (fun h15 => ?_) (fun h15 => ?_)
                · replace hf := ite_T h15 hf
                  refine AW.seq ?_
                  refine AW.region ?_
                  refine AR.cs FX_ok 2 rfl ?_
                  replace hf := (bind3_ret _).trans hf
                  obtain ⟨x7, x8, x9, h16, hf⟩ := bind3_inv hf
                  refine AR.step rfl rfl rfl (AO.call rfl _ rfl rfl pf_53 (c_r09_escaped _ _ h16 ?_))
                  refine AR.cs FX_ok 6 rfl ?_
                  refine AR.nil [4, 5, 6] rfl ?_
                  refine AW.ret ?_
                  cases hf
                  exact ⟨rfl, _, ⟨_, _, rfl, rfl, _, _, rfl, rfl, _, _, rfl, rfl, rfl⟩, [], List.nil_sublist _, h⟩
                · replace hf := ite_F h15 hf
                  refine AW.skip ?_
                  refine AW.seq ?_
                  refine AW.region ?_
                  refine AR.cs FX_ok 3 rfl ?_
                  refine AR.nil [4, 5, 6] rfl ?_
                  refine AW.ret ?_
                  cases hf
                  exact ⟨rfl, _, ⟨_, _, rfl, rfl, _, _, rfl, rfl, _, _, rfl, rfl, rfl⟩, [], List.nil_sublist _, h⟩

theorem c_r09_text (src1 : Str) (at1 : Int) {r0 : ApiToken} {r1 : Int} {r2 : Int} (hf : r09_text src1 at1 = some (r0, r1, r2)) {τ : List Res} {Q : AOut → List Res → Prop} (h : Q (.ret (.tuple [.agg [.int .i64 r0.kind, .str r0.text, .int .i64 r0.at_], .int .i64 r1, .int .i64 r2])) τ) : AC Try.prog 37 [.str src1, .int .i64 at1] τ Q := by
  unfold r09_text at hf
  refine AC.none ?_
  refine AC.of_body 52 [.cell 4 35, .tmp 5, .tmp 6] [0, 1] Try.func37 rfl rfl rfl rfl rfl ?_
  refine AW.seq ?_
  refine AW.region ?_
  refine AR.step rfl rfl rfl (AO.alloc_own rfl zp_35 (fun b4 => ?_))
  refine AR.cs FX_ok 2 rfl ?_
  refine AR.nil [0, 1, 4] rfl ?_
  refine AW.seq ?_
  refine AW.region ?_
  refine AR.cs FX_ok 1 rfl ?_
  refine AR.nil [0, 1, 4, 7] rfl ?_
  refine AW.seq ?_
  refine AW.region ?_
  refine AR.cs FX_ok 3 rfl ?_
  refine AR.nil [0, 1, 4, 7, 8] rfl ?_
  refine AW.seq ?_
  refine AW.block ?_
  refine AW.row 1 5 ?_
  refine AW.settle [0, 1, 4, 7, 8] rfl ?_
  refine AW.loopF3 (fun b1 v1 i1 => [(0, .str src1), (1, .int .i64 at1), (4, .val (.pointer (some ⟨b4, 0, none⟩))), (7, .own v1 (List.map byteC b1)), (8, .int .i64 i1)]) (fun b1 v1 i1 => [.row v1 (List.map byteC b1).length 1 5, .box b4 [.int .i64 0, .str ([] : Str), .int .i64 0]]) (fun k b1 v1 i1 => r09_text_l1 src1 at1 k b1 i1 = some (r0, r1, r2)) BIG [] (.slice none 0 0) (w64 (at1 + 1)) rfl rfl hf (fun _ _ _ hz => none_no hz) ?_
  intro k b1 v1 i1 hf
  rw [r09_text_l1] at hf
  refine AW.seq ?_
  refine AW.seq ?_
  refine AW.region ?_
  refine AR.cs FX_ok 2 rfl ?_
  refine AR.step rfl rfl rfl (AO.len_str rfl rfl rfl rfl un_9 rfl ?_)
  refine AR.cs FX_ok 1 rfl ?_
  refine AR.nil [0, 1, 4, 7, 8, 17] rfl ?_
  refine AW.cond rfl (fun h1 => ?_) (fun h1 => ?_)
  · replace hf := ite_T h1 hf
    refine AW.skip ?_
    refine AW.block ?_
    refine AW.seq ?_
    refine AW.seq ?_
    refine AW.region ?_
    refine AR.cs FX_ok 2 rfl ?_
    obtain ⟨x1, h2, hf⟩ := bind1_inv hf
    refine AR.step rfl rfl rfl (AO.idx_str h2 rfl un_9 rfl rfl ?_)
    refine AR.cs FX_ok 1 rfl ?_
    refine AR.nil [0, 1, 4, 7, 8, 21] rfl ?_
    refine AW.cond rfl (fun h3 => ?_) (fun h3 => ?_)
    · replace hf := ite_T h3 hf
      refine AW.seq ?_
      refine AW.seq ?_
      refine AW.region ?_
      refine AR.cs FX_ok 1 rfl ?_
      refine AR.step rfl rfl rfl (AO.len_list (l := b1) rfl rfl rfl rfl es_37 rfl rfl ?_)
      refine AR.cs FX_ok 1 rfl ?_
      refine AR.nil [1, 4, 7, 8, 24] rfl ?_
      refine AW.cond rfl (fun h4 => ?_) (fun h4 => ?_)
      · replace hf := ite_T h4 hf
        refine AW.seq ?_
        refine AW.region ?_
        refine AR.step rfl rfl rfl (AO.build rfl zp_35 spl_35 rfl ?_)
        refine AR.step_none rfl rfl (AO.store_box (i := 1) rfl rfl rfl ti_35 rfl rfl rfl rfl rfl ?_)
        refine AR.cs FX_ok 2 rfl ?_
        refine AR.nil [4, 5, 6] rfl ?_
        refine AW.ret ?_
        cases hf
        exact ⟨rfl, _, ⟨_, _, rfl, ⟨_, _, 1, _, _, rfl, rfl, ti_35, rfl⟩, _, _, rfl, rfl, _, _, rfl, rfl, rfl⟩, [], List.nil_sublist _, h⟩
      · replace hf := ite_F h4 hf
        refine AW.skip ?_
        refine AW.seq ?_
        refine AW.region ?_
        refine AR.cs FX_ok 1 rfl ?_
        refine AR.step rfl rfl rfl (AO.bytes_str rfl un_37 un_5 un_9 rfl rfl ?_)
        refine AR.step rfl rfl rfl (AO.build rfl zp_35 spl_35 rfl ?_)
        refine AR.cs FX_ok 4 rfl ?_
        refine AR.step_none rfl rfl (AO.store_box (i := 1) rfl rfl rfl ti_35 rfl rfl rfl rfl rfl ?_)
        refine AR.cs FX_ok 2 rfl ?_
        refine AR.nil [4, 5, 6] rfl ?_
        refine AW.ret ?_
        cases hf
        exact ⟨rfl, _, ⟨_, _, rfl, ⟨_, _, 1, _, _, rfl, rfl, ti_35, rfl⟩, _, _, rfl, rfl, _, _, rfl, rfl, rfl⟩, [], List.nil_sublist _, h⟩
    · replace hf := ite_F h3 hf
      refine AW.skip ?_
      refine AW.seq ?_
      refine AW.region ?_
      refine AR.cs FX_ok 2 rfl ?_
      obtain ⟨c1, n1, e1, h5, hf⟩ := bind3_inv hf
      refine AR.step rfl rfl rfl (AO.call rfl _ rfl rfl pf_49 (c_r09_character _ _ h5 ?_))
      refine AR.cs FX_ok 7 rfl ?_
      refine AR.nil [0, 1, 4, 7, 8, 9, 10, 11] rfl ?_
      refine AW.seq ?_
      refine AW.seq ?_
      refine AW.region ?_
      refine AR.cs FX_ok 2 rfl ?_
      refine AR.nil [0, 1, 4, 7, 8, 9, 10, 11, 41] rfl ?_
      refine AW.cond rfl (fun h6 => ?_) (fun h6 => ?_)
      · replace hf := ite_T h6 hf
        refine AW.seq ?_
        refine AW.region ?_
        refine AR.step rfl rfl rfl (AO.build rfl zp_35 spl_35 rfl ?_)
        refine AR.cs FX_ok 1 rfl ?_
        refine AR.step_none rfl rfl (AO.store_box (i := 1) rfl rfl rfl ti_35 rfl rfl rfl rfl rfl ?_)
        refine AR.cs FX_ok 2 rfl ?_
        refine AR.nil [4, 5, 6] rfl ?_
        refine AW.ret ?_
        cases hf
        exact ⟨rfl, _, ⟨_, _, rfl, ⟨_, _, 1, _, _, rfl, rfl, ti_35, rfl⟩, _, _, rfl, rfl, _, _, rfl, rfl, rfl⟩, [], List.nil_sublist _, h⟩
      · replace hf := ite_F h6 hf
        refine AW.skip ?_
        refine AW.seq ?_
        refine AW.region ?_
        refine AR.cs FX_ok 2 rfl ?_
        refine AR.step rfl rfl rfl (AO.buildSliceF (List.map byteC ([c1] : List UInt8)) rfl sf_37 rfl rfl rfl rfl ?_)
        obtain ⟨b2, h7, hf⟩ := bind1_inv hf
        refine AR.step rfl rfl rfl (AO.app_own (i := 0) (l := b1) (m := ([c1] : List UInt8)) h7 rfl rfl rfl rfl rfl rfl rfl sf_37 es_37 rfl rfl rfl (fun _ => rfl) (fun _ => rfl) (by decide) (fun v2 s1 hs1 => ?_))
        cases hs1
        refine AR.cs FX_ok 1 rfl ?_
        refine AR.nil [0, 1, 4, 7, 8, 10] rfl ?_
        refine AW.region ?_
        refine AR.cs FX_ok 4 rfl ?_
        refine AR.nil [0, 1, 4, 7, 8] rfl ?_
        exact ⟨b2, v2, (w64 (i1 + n1)), rfl, rfl, rfl, hf⟩
  · replace hf := ite_F h1 hf
    refine AW.exit ?_
    refine AW.seq ?_
    refine AW.region ?_
    refine AR.step rfl rfl rfl (AO.build rfl zp_35 spl_35 rfl ?_)
    refine AR.step_none rfl rfl (AO.store_box (i := 1) rfl rfl rfl ti_35 rfl rfl rfl rfl rfl ?_)
    refine AR.cs FX_ok 2 rfl ?_
    refine AR.nil [4, 5, 6] rfl ?_
    refine AW.ret ?_
    cases hf
    exact ⟨rfl, _, ⟨_, _, rfl, ⟨_, _, 1, _, _, rfl, rfl, ti_35, rfl⟩, _, _, rfl, rfl, _, _, rfl, rfl, rfl⟩, [], List.nil_sublist _, h⟩

theorem c_r09_operator (src1 : Str) (at1 : Int) {r0 : Int} (hf : r09_operator src1 at1 = some r0) {τ : List Res} {Q : AOut → List Res → Prop} (h : Q (.ret (.int .i64 r0)) τ) : AC Try.prog 39 [.str src1, .int .i64 at1] τ Q := by
  unfold r09_operator at hf
  refine AC.none ?_
  refine AC.of_body 38 [.tmp 4] [0, 1] Try.func39 rfl rfl rfl rfl rfl ?_
  refine AW.seq ?_
  refine AW.region ?_
  refine AR.cs FX_ok 1 rfl ?_
  refine AR.nil [0, 1] rfl ?_
  refine AW.seq ?_
  refine AW.seq ?_
  refine AW.region ?_
  refine AR.cs FX_ok 1 rfl ?_
  refine AR.nil [0, 1, 5] rfl ?_
  refine AW.block ?_
  refine AW.settle [0, 1, 5] rfl ?_
  refine AW.loopF1 (fun i1 => [(0, .str src1), (1, .int .i64 at1), (5, .int .i64 i1)]) (fun i1 => []) (fun k i1 => r09_operator_l1 src1 at1 k i1 = some r0) BIG 0 rfl rfl hf (fun _ hz => none_no hz) ?_
  intro k i1 hf
  rw [r09_operator_l1] at hf
  refine AW.seq ?_
  refine AW.seq ?_
  refine AW.region ?_
  refine AR.cs FX_ok 2 rfl ?_
  refine AR.nil [0, 1, 5, 8] rfl ?_
  refine AW.cond rfl (fun h1 => ?_) (fun h1 => ?_)
  · replace hf := ite_T h1 hf
    refine AW.skip ?_
    refine AW.seq ?_
    refine AW.block ?_
    refine AW.seq ?_
    refine AW.draw 17 mixed (by kernel_rfl) rfl ?_
    refine Ev.cs FX_ok 3 rfl ?_
    refine Ev.cons rfl rfl rfl (AO.len_str rfl rfl rfl rfl un_9 rfl ⟨rfl, rfl⟩) ?_
    refine Ev.cs FX_ok 2 rfl ?_
    obtain ⟨b1, h3, hf⟩ := bind1_inv hf
    refine Ev.join1 hKA 11 16 27 true [0, 1, 5] (.bool b1) rfl rfl (fun h2 => ?_) (fun h2 => ?_) ?_
    · skip
      replace h3 := ite_T h2 h3
      refine Ev.is hKL 16 h2 rfl ?_
      refine Ev.cs FX_ok 4 rfl ?_
      obtain ⟨x1, h4, h3⟩ := bind1_inv h3
      refine Ev.run rfl rfl rfl rfl rfl rfl rfl (AO.sl_str h4 rfl un_9 rfl ⟨_, rfl⟩ ⟨_, rfl⟩ ⟨rfl, rfl⟩) ?_
      refine Ev.cs FX_ok 3 rfl ?_
      obtain ⟨x2, h5, h3⟩ := bind1_inv h3
      refine Ev.run rfl rfl rfl rfl rfl rfl rfl (AO.sl_str h5 rfl un_9 rfl ⟨_, rfl⟩ ⟨_, rfl⟩ ⟨rfl, rfl⟩) ?_
      refine Ev.cs FX_ok 1 rfl ?_
      cases h3
      refine Ev.cs FX_ok 1 rfl ?_
      exact Ev.nil (Less.settle (ps := [27, 0, 1, 5]) rfl)
    · skip
      replace h3 := ite_F h2 h3
      refine Ev.is hKL 16 h2 rfl ?_
      cases h3
      refine Ev.cs FX_ok 11 rfl ?_
      exact Ev.nil (Less.settle (ps := [27, 0, 1, 5]) rfl)
    refine Ev.nil ?_
    show AR _ _ _ _ _ _ _ _
    refine AR.nil [0, 1, 5, 27] rfl ?_
    refine AW.cond rfl (fun h6 => ?_) (fun h6 => ?_)
    · replace hf := ite_T h6 hf
      refine AW.seq ?_
      refine AW.region ?_
      refine AR.cs FX_ok 1 rfl ?_
      refine AR.nil [4] rfl ?_
      refine AW.ret ?_
      cases hf
      exact ⟨rfl, _, ⟨_, _, rfl, rfl, rfl⟩, [], List.nil_sublist _, h⟩
    · replace hf := ite_F h6 hf
      refine AW.skip ?_
      refine AW.region ?_
      refine AR.cs FX_ok 3 rfl ?_
      refine AR.nil [0, 1, 5] rfl ?_
      exact ⟨(w64 (i1 + 2)), rfl, rfl, rfl, hf⟩
  · replace hf := ite_F h1 hf
    refine AW.exit ?_
    refine AW.seq ?_
    refine AW.seq ?_
    refine AW.region ?_
    refine AR.cs FX_ok 1 rfl ?_
    refine AR.nil [0, 1, 6] rfl ?_
    refine AW.block ?_
    refine AW.settle [0, 1, 6] rfl ?_
    refine AW.loopF1 (fun i2 => [(0, .str src1), (1, .int .i64 at1), (6, .int .i64 i2)]) (fun i2 => []) (fun k i2 => r09_operator_l2 src1 at1 k i2 = some r0) BIG 0 rfl rfl hf (fun _ hz => none_no hz) ?_
    intro k i2 hf
    rw [r09_operator_l2] at hf
    refine AW.seq ?_
    refine AW.seq ?_
    refine AW.region ?_
    refine AR.cs FX_ok 2 rfl ?_
    refine AR.nil [0, 1, 6, 29] rfl ?_
    refine AW.cond rfl (fun h7 => ?_) (fun h7 => ?_)
    · replace hf := ite_T h7 hf
      refine AW.skip ?_
      refine AW.seq ?_
      refine AW.block ?_
      refine AW.seq ?_
      refine AW.draw 6 mixed (by kernel_rfl) rfl ?_
      refine Ev.cs FX_ok 2 rfl ?_
      obtain ⟨x3, h8, hf⟩ := bind1_inv hf
      refine Ev.cons rfl rfl rfl (AO.idx_str h8 rfl un_9 rfl rfl ⟨rfl, rfl⟩) ?_
      refine Ev.cs FX_ok 1 rfl ?_
      obtain ⟨x4, h9, hf⟩ := bind1_inv hf
      refine Ev.cons rfl rfl rfl (AO.idx_str h9 rfl un_9 rfl rfl ⟨rfl, rfl⟩) ?_
      refine Ev.cs FX_ok 1 rfl ?_
      refine Ev.nil ?_
      show AR _ _ _ _ _ _ _ _
      refine AR.nil [0, 1, 6, 37] rfl ?_
      refine AW.cond rfl (fun h10 => ?_) (fun h10 => ?_)
      · replace hf := ite_T h10 hf
        refine AW.seq ?_
        refine AW.region ?_
        refine AR.cs FX_ok 1 rfl ?_
        refine AR.nil [4] rfl ?_
        refine AW.ret ?_
        cases hf
        exact ⟨rfl, _, ⟨_, _, rfl, rfl, rfl⟩, [], List.nil_sublist _, h⟩
      · replace hf := ite_F h10 hf
        refine AW.skip ?_
        refine AW.region ?_
        refine AR.cs FX_ok 3 rfl ?_
        refine AR.nil [0, 1, 6] rfl ?_
        exact ⟨(w64 (i2 + 1)), rfl, rfl, rfl, hf⟩
    · replace hf := ite_F h7 hf
      refine AW.exit ?_
      refine AW.seq ?_
      refine AW.region ?_
      refine AR.cs FX_ok 1 rfl ?_
      refine AR.nil [4] rfl ?_
      refine AW.ret ?_
      cases hf
      exact ⟨rfl, _, ⟨_, _, rfl, rfl, rfl⟩, [], List.nil_sublist _, h⟩

theorem c_r09_token (src1 : Str) (at1 : Int) {r0 : ApiToken} {r1 : Int} {r2 : Int} (hf : r09_token src1 at1 = some (r0, r1, r2)) {τ : List Res} {Q : AOut → List Res → Prop} (h : Q (.ret (.tuple [.agg [.int .i64 r0.kind, .str r0.text, .int .i64 r0.at_], .int .i64 r1, .int .i64 r2])) τ) : AC Try.prog 23 [.str src1, .int .i64 at1] τ Q := by
  unfold r09_token at hf
  refine AC.none ?_
  refine AC.of_body 59 [.cell 4 35, .tmp 5, .tmp 6] [0, 1] Try.func23 rfl rfl rfl rfl rfl ?_
  refine AW.seq ?_
  refine AW.region ?_
  refine AR.step rfl rfl rfl (AO.alloc_own rfl zp_35 (fun b4 => ?_))
  refine AR.cs FX_ok 2 rfl ?_
  refine AR.nil [0, 1, 4] rfl ?_
  refine AW.seq ?_
  refine AW.seq ?_
  refine AW.region ?_
  refine AR.cs FX_ok 2 rfl ?_
  obtain ⟨x1, h1, hf⟩ := bind1_inv hf
  refine AR.step rfl rfl rfl (AO.idx_str h1 rfl un_9 rfl rfl ?_)
  obtain ⟨x2, h2, hf⟩ := bind1_inv hf
  refine AR.step rfl rfl rfl (AO.call rfl _ rfl rfl pf_35 (c_r09_digit _ h2 ?_))
  refine AR.nil [0, 1, 4, 12] rfl ?_
  refine AW.cond rfl (fun h3 => ?_) (fun h3 => ?_)
  · replace hf := ite_T h3 hf
    refine AW.seq ?_
    refine AW.region ?_
    refine AR.cs FX_ok 2 rfl ?_
    replace hf := (bind3_ret _).trans hf
    obtain ⟨x3, x4, x5, h4, hf⟩ := bind3_inv hf
    refine AR.step rfl rfl rfl (AO.call rfl _ rfl rfl pf_36 (c_r09_number _ _ h4 ?_))
    refine AR.cs FX_ok 3 rfl ?_
    refine AR.step_none rfl rfl (AO.store_box (i := 0) rfl rfl rfl ti_35 rfl rfl rfl rfl rfl ?_)
    refine AR.cs FX_ok 2 rfl ?_
    refine AR.nil [4, 5, 6] rfl ?_
    refine AW.ret ?_
    cases hf
    exact ⟨rfl, _, ⟨_, _, rfl, ⟨_, _, 0, _, _, rfl, rfl, ti_35, rfl⟩, _, _, rfl, rfl, _, _, rfl, rfl, rfl⟩, [], List.nil_sublist _, h⟩
  · replace hf := ite_F h3 hf
    refine AW.skip ?_
    refine AW.seq ?_
    refine AW.seq ?_
    refine AW.region ?_
    refine AR.cs FX_ok 2 rfl ?_
    obtain ⟨x6, h5, hf⟩ := bind1_inv hf
    refine AR.step rfl rfl rfl (AO.idx_str h5 rfl un_9 rfl rfl ?_)
    refine AR.cs FX_ok 1 rfl ?_
    refine AR.nil [0, 1, 4, 22] rfl ?_
    refine AW.cond rfl (fun h6 => ?_) (fun h6 => ?_)
    · replace hf := ite_T h6 hf
      refine AW.seq ?_
      refine AW.region ?_
      refine AR.cs FX_ok 2 rfl ?_
      replace hf := (bind3_ret _).trans hf
      obtain ⟨x7, x8, x9, h7, hf⟩ := bind3_inv hf
      refine AR.step rfl rfl rfl (AO.call rfl _ rfl rfl pf_37 (c_r09_text _ _ h7 ?_))
      refine AR.cs FX_ok 3 rfl ?_
      refine AR.step_none rfl rfl (AO.store_box (i := 0) rfl rfl rfl ti_35 rfl rfl rfl rfl rfl ?_)
      refine AR.cs FX_ok 2 rfl ?_
      refine AR.nil [4, 5, 6] rfl ?_
      refine AW.ret ?_
      cases hf
      exact ⟨rfl, _, ⟨_, _, rfl, ⟨_, _, 0, _, _, rfl, rfl, ti_35, rfl⟩, _, _, rfl, rfl, _, _, rfl, rfl, rfl⟩, [], List.nil_sublist _, h⟩
    · replace hf := ite_F h6 hf
      refine AW.skip ?_
      refine AW.seq ?_
      refine AW.seq ?_
      refine AW.region ?_
      refine AR.cs FX_ok 2 rfl ?_
      obtain ⟨n1, h8, hf⟩ := bind1_inv hf
      refine AR.step rfl rfl rfl (AO.call rfl _ rfl rfl pf_38 (c_r09_word _ _ h8 ?_))
      refine AR.cs FX_ok 1 rfl ?_
      refine AR.nil [0, 1, 4, 7] rfl ?_
      refine AW.seq ?_
      refine AW.region ?_
      refine AR.cs FX_ok 2 rfl ?_
      refine AR.nil [0, 1, 4, 7, 33] rfl ?_
      refine AW.cond rfl (fun h9 => ?_) (fun h9 => ?_)
      · replace hf := ite_T h9 hf
        refine AW.seq ?_
        refine AW.seq ?_
        refine AW.region ?_
        refine AR.cs FX_ok 2 rfl ?_
        refine AR.nil [0, 1, 4, 7, 35] rfl ?_
        refine AW.cond rfl (fun h10 => ?_) (fun h10 => ?_)
        · replace hf := ite_T h10 hf
          refine AW.seq ?_
          refine AW.region ?_
          refine AR.step rfl rfl rfl (AO.build rfl zp_35 spl_35 rfl ?_)
          refine AR.step_none rfl rfl (AO.store_box (i := 0) rfl rfl rfl ti_35 rfl rfl rfl rfl rfl ?_)
          refine AR.cs FX_ok 2 rfl ?_
          refine AR.nil [4, 5, 6] rfl ?_
          refine AW.ret ?_
          cases hf
          exact ⟨rfl, _, ⟨_, _, rfl, ⟨_, _, 0, _, _, rfl, rfl, ti_35, rfl⟩, _, _, rfl, rfl, _, _, rfl, rfl, rfl⟩, [], List.nil_sublist _, h⟩
        · replace hf := ite_F h10 hf
          refine AW.skip ?_
          refine AW.seq ?_
          refine AW.region ?_
          refine AR.cs FX_ok 5 rfl ?_
          obtain ⟨x10, h11, hf⟩ := bind1_inv hf
          refine AR.step rfl rfl rfl (AO.sl_str h11 rfl un_9 rfl ⟨_, rfl⟩ ⟨_, rfl⟩ ?_)
          refine AR.step rfl rfl rfl (AO.build rfl zp_35 spl_35 rfl ?_)
          refine AR.cs FX_ok 1 rfl ?_
          refine AR.step_none rfl rfl (AO.store_box (i := 0) rfl rfl rfl ti_35 rfl rfl rfl rfl rfl ?_)
          refine AR.cs FX_ok 2 rfl ?_
          refine AR.nil [4, 5, 6] rfl ?_
          refine AW.ret ?_
          cases hf
          exact ⟨rfl, _, ⟨_, _, rfl, ⟨_, _, 0, _, _, rfl, rfl, ti_35, rfl⟩, _, _, rfl, rfl, _, _, rfl, rfl, rfl⟩, [], List.nil_sublist _, h⟩
      · replace hf := ite_F h9 hf
        refine AW.skip ?_
        refine AW.seq ?_
        refine AW.region ?_
        refine AR.cs FX_ok 2 rfl ?_
        obtain ⟨n2, h12, hf⟩ := bind1_inv hf
        refine AR.step rfl rfl rfl (AO.call rfl _ rfl rfl pf_39 (c_r09_operator _ _ h12 ?_))
        refine AR.cs FX_ok 1 rfl ?_
        refine AR.nil [0, 1, 4, 8] rfl ?_
        refine AW.seq ?_
        refine AW.seq ?_
        refine AW.region ?_
        refine AR.cs FX_ok 2 rfl ?_
        refine AR.nil [0, 1, 4, 8, 49] rfl ?_
        refine AW.cond rfl (fun h13 => ?_) (fun h13 => ?_)
        · replace hf := ite_T h13 hf
          refine AW.seq ?_
          refine AW.region ?_
          refine AR.step rfl rfl rfl (AO.build rfl zp_35 spl_35 rfl ?_)
          refine AR.step_none rfl rfl (AO.store_box (i := 0) rfl rfl rfl ti_35 rfl rfl rfl rfl rfl ?_)
          refine AR.cs FX_ok 2 rfl ?_
          refine AR.nil [4, 5, 6] rfl ?_
          refine AW.ret ?_
          cases hf
          exact ⟨rfl, _, ⟨_, _, rfl, ⟨_, _, 0, _, _, rfl, rfl, ti_35, rfl⟩, _, _, rfl, rfl, _, _, rfl, rfl, rfl⟩, [], List.nil_sublist _, h⟩
        · replace hf := ite_F h13 hf
          refine AW.skip ?_
          refine AW.seq ?_
          refine AW.region ?_
          refine AR.cs FX_ok 5 rfl ?_
          obtain ⟨x11, h14, hf⟩ := bind1_inv hf
          refine AR.step rfl rfl rfl (AO.sl_str h14 rfl un_9 rfl ⟨_, rfl⟩ ⟨_, rfl⟩ ?_)
          refine AR.step rfl rfl rfl (AO.build rfl zp_35 spl_35 rfl ?_)
          refine AR.cs FX_ok 1 rfl ?_
          refine AR.step_none rfl rfl (AO.store_box (i := 0) rfl rfl rfl ti_35 rfl rfl rfl rfl rfl ?_)
          refine AR.cs FX_ok 2 rfl ?_
          refine AR.nil [4, 5, 6] rfl ?_
          refine AW.ret ?_
          cases hf
          exact ⟨rfl, _, ⟨_, _, rfl, ⟨_, _, 0, _, _, rfl, rfl, ti_35, rfl⟩, _, _, rfl, rfl, _, _, rfl, rfl, rfl⟩, [], List.nil_sublist _, h⟩

theorem c_r09_opened (open1 : Int) (t1 : ApiToken) {r0 : Int} (hf : r09_opened open1 t1 = some r0) {τ : List Res} {Q : AOut → List Res → Prop} (h : Q (.ret (.int .i64 r0)) τ) : AC Try.prog 24 [.int .i64 open1, .agg [.int .i64 t1.kind, .str t1.text, .int .i64 t1.at_]] τ Q := by
  unfold r09_opened at hf
  refine AC.none ?_
  refine AC.of_body 40 [.tmp 4] [0, 1] Try.func24 rfl rfl rfl rfl rfl ?_
  refine AW.seq ?_
  refine AW.region ?_
  refine AR.step rfl rfl rfl (AO.box_ref rfl rfl rfl ?_)
  refine AR.cs FX_ok 1 rfl ?_
  refine AR.nil [0, 3] rfl ?_
  refine AW.seq ?_
  refine AW.seq ?_
  refine AW.region ?_
  refine AR.cs FX_ok 4 rfl ?_
  refine AR.and 9 8 17 [0, 3] (x := ((t1.text == ([40] : Str)) || (t1.text == ([91] : Str)))) rfl rfl (fun h1 => ?_) (fun h1 => ?_) ?_
  · skip
    refine AR.is 8 h1 rfl ?_
    refine AR.cs FX_ok 4 rfl ?_
    refine AR.or 4 12 16 [0, 3, 8] (x := (t1.text == ([91] : Str))) rfl rfl (fun h2 => ?_) (fun h2 => ?_) ?_
    · skip
      refine AR.is 12 h2 rfl ?_
      refine AR.cs FX_ok 4 rfl ?_
      refine AR.nil [16, 0, 3, 8] rfl ?_
      exact ⟨rfl, rfl, rfl, rfl⟩
    · skip
      refine AR.is 12 h2 rfl ?_
      refine AR.cs FX_ok 4 rfl ?_
      refine AR.nil [16, 0, 3, 8] rfl ?_
      exact ⟨rfl, rfl, rfl, rfl⟩
    refine AR.cs FX_ok 1 rfl ?_
    refine AR.nil [17, 0, 3] rfl ?_
    exact ⟨rfl, rfl, rfl, rfl⟩
  · skip
    refine AR.is 8 h1 rfl ?_
    refine AR.cs FX_ok 9 rfl ?_
    refine AR.nil [17, 0, 3] rfl ?_
    exact ⟨rfl, rfl, rfl, rfl⟩
  refine AR.nil [0, 3, 17] rfl ?_
  refine AW.cond rfl (fun h3 => ?_) (fun h3 => ?_)
  · replace hf := ite_T h3 hf
    refine AW.seq ?_
    refine AW.region ?_
    refine AR.cs FX_ok 3 rfl ?_
    refine AR.nil [4] rfl ?_
    refine AW.ret ?_
    cases hf
    exact ⟨rfl, _, ⟨_, _, rfl, rfl, rfl⟩, [], List.nil_sublist _, h⟩
  · replace hf := ite_F h3 hf
    refine AW.skip ?_
    refine AW.seq ?_
    refine AW.seq ?_
    refine AW.region ?_
    refine AR.cs FX_ok 4 rfl ?_
    refine AR.and 9 23 32 [0] (x := ((t1.text == ([41] : Str)) || (t1.text == ([93] : Str)))) rfl rfl (fun h4 => ?_) (fun h4 => ?_) ?_
    · skip
      refine AR.is 23 h4 rfl ?_
      refine AR.cs FX_ok 4 rfl ?_
      refine AR.or 4 27 31 [0, 23] (x := (t1.text == ([93] : Str))) rfl rfl (fun h5 => ?_) (fun h5 => ?_) ?_
      · skip
        refine AR.is 27 h5 rfl ?_
        refine AR.cs FX_ok 4 rfl ?_
        refine AR.nil [31, 0, 23] rfl ?_
        exact ⟨rfl, rfl, rfl, rfl⟩
      · skip
        refine AR.is 27 h5 rfl ?_
        refine AR.cs FX_ok 4 rfl ?_
        refine AR.nil [31, 0, 23] rfl ?_
        exact ⟨rfl, rfl, rfl, rfl⟩
      refine AR.cs FX_ok 1 rfl ?_
      refine AR.nil [32, 0] rfl ?_
      exact ⟨rfl, rfl, rfl, rfl⟩
    · skip
      refine AR.is 23 h4 rfl ?_
      refine AR.cs FX_ok 9 rfl ?_
      refine AR.nil [32, 0] rfl ?_
      exact ⟨rfl, rfl, rfl, rfl⟩
    refine AR.cs FX_ok 1 rfl ?_
    refine AR.and 3 33 36 [0] (x := (decide (0 < open1))) rfl rfl (fun h6 => ?_) (fun h6 => ?_) ?_
    · skip
      refine AR.is 33 h6 rfl ?_
      refine AR.cs FX_ok 3 rfl ?_
      refine AR.nil [36, 0] rfl ?_
      exact ⟨rfl, rfl, rfl, rfl⟩
    · skip
      refine AR.is 33 h6 rfl ?_
      refine AR.cs FX_ok 3 rfl ?_
      refine AR.nil [36, 0] rfl ?_
      exact ⟨rfl, rfl, rfl, rfl⟩
    refine AR.nil [0, 36] rfl ?_
    refine AW.cond rfl (fun h7 => ?_) (fun h7 => ?_)
    · replace hf := ite_T h7 hf
      refine AW.seq ?_
      refine AW.region ?_
      refine AR.cs FX_ok 3 rfl ?_
      refine AR.nil [4] rfl ?_
      refine AW.ret ?_
      cases hf
      exact ⟨rfl, _, ⟨_, _, rfl, rfl, rfl⟩, [], List.nil_sublist _, h⟩
    · replace hf := ite_F h7 hf
      refine AW.skip ?_
      refine AW.seq ?_
      refine AW.region ?_
      refine AR.cs FX_ok 2 rfl ?_
      refine AR.nil [4] rfl ?_
      refine AW.ret ?_
      cases hf
      exact ⟨rfl, _, ⟨_, _, rfl, rfl, rfl⟩, [], List.nil_sublist _, h⟩

theorem c_r09_Tokens (src1 : Str) {r0 : List ApiToken} {r1 : Int} {r2 : Int} (hf : r09_Tokens src1 = some (r0, r1, r2)) {τ : List Res} {Q : AOut → List Res → Prop} (h : Q (.ret (.tuple [.list (List.map ApiToken.cells r0), .int .i64 r1, .int .i64 r2])) τ) : AC Try.prog 11 [.str src1] τ Q := by
  unfold r09_Tokens at hf
  refine AC.none ?_
  refine AC.of_body 77 [.tmp 2, .tmp 3, .tmp 4] [0] Try.func11 rfl rfl rfl rfl rfl ?_
  refine AW.seq ?_
  refine AW.region ?_
  refine AR.step rfl rfl rfl (AO.nil_list rfl rfl ?_)
  refine AR.cs FX_ok 2 rfl ?_
  refine AR.nil [0] rfl ?_
  refine AW.seq ?_
  refine AW.seq ?_
  refine AW.region ?_
  refine AR.cs FX_ok 1 rfl ?_
  refine AR.step rfl rfl rfl (AO.len_str rfl rfl rfl rfl un_9 rfl ?_)
  refine AR.cs FX_ok 1 rfl ?_
  refine AR.nil [0, 15] rfl ?_
  refine AW.cond rfl (fun h1 => ?_) (fun h1 => ?_)
  · replace hf := ite_T h1 hf
    refine AW.seq ?_
    refine AW.region ?_
    refine AR.step rfl rfl rfl (AO.nil_list rfl rfl ?_)
    refine AR.cs FX_ok 2 rfl ?_
    refine AR.nil [2, 3, 4] rfl ?_
    refine AW.ret ?_
    cases hf
    exact ⟨rfl, _, ⟨_, _, rfl, rfl, _, _, rfl, rfl, _, _, rfl, rfl, rfl⟩, [], List.nil_sublist _, h⟩
  · replace hf := ite_F h1 hf
    refine AW.skip ?_
    refine AW.seq ?_
    refine AW.region ?_
    refine AR.cs FX_ok 1 rfl ?_
    refine AR.nil [0, 5] rfl ?_
    refine AW.seq ?_
    refine AW.region ?_
    refine AR.cs FX_ok 1 rfl ?_
    refine AR.nil [0, 5, 6] rfl ?_
    refine AW.seq ?_
    refine AW.region ?_
    refine AR.cs FX_ok 1 rfl ?_
    obtain ⟨at1, h2, hf⟩ := bind1_inv hf
    refine AR.step rfl rfl rfl (AO.call rfl _ rfl rfl pf_22 (c_r09_ignored _ _ h2 ?_))
    refine AR.cs FX_ok 1 rfl ?_
    refine AR.nil [0, 5, 6, 7] rfl ?_
    refine AW.seq ?_
    refine AW.block ?_
    refine AW.row 3 35 ?_
    refine AW.settle [0, 5, 6, 7] rfl ?_
    refine AW.loopF4 (fun out1 v1 open1 at2 => [(0, .str src1), (5, .own v1 (List.map ApiToken.cells out1)), (6, .int .i64 open1), (7, .int .i64 at2)]) (fun out1 v1 open1 at2 => [.row v1 (List.map ApiToken.cells out1).length 3 35]) (fun k out1 v1 open1 at2 => r09_Tokens_l1 src1 k out1 open1 at2 = some (r0, r1, r2)) BIG [] (.slice none 0 0) 0 at1 rfl rfl hf (fun _ _ _ _ hz => none_no hz) ?_
    intro k out1 v1 open1 at2 hf
    rw [r09_Tokens_l1] at hf
    refine AW.seq ?_
    refine AW.seq ?_
    refine AW.region ?_
    refine AR.cs FX_ok 2 rfl ?_
    refine AR.step rfl rfl rfl (AO.len_str rfl rfl rfl rfl un_9 rfl ?_)
    refine AR.cs FX_ok 1 rfl ?_
    refine AR.nil [0, 5, 6, 7, 21] rfl ?_
    refine AW.cond rfl (fun h3 => ?_) (fun h3 => ?_)
    · replace hf := ite_T h3 hf
      refine AW.skip ?_
      refine AW.block ?_
      refine AW.seq ?_
      refine AW.region ?_
      refine AR.step rfl rfl rfl (AO.build rfl zp_35 spl_35 rfl ?_)
      refine AR.step rfl rfl rfl (AO.alloc_own rfl zp_35 (fun b8 => ?_))
      refine AR.step_none rfl rfl (AO.store_box (i := 0) rfl rfl rfl ti_35 rfl rfl rfl rfl rfl ?_)
      refine AR.cs FX_ok 1 rfl ?_
      refine AR.nil [0, 5, 6, 7, 8, 9] rfl ?_
      refine AW.seq ?_
      refine AW.seq ?_
      refine AW.region ?_
      refine AR.cs FX_ok 2 rfl ?_
      obtain ⟨x1, h4, hf⟩ := bind1_inv hf
      refine AR.step rfl rfl rfl (AO.idx_str h4 rfl un_9 rfl rfl ?_)
      refine AR.cs FX_ok 1 rfl ?_
      refine AR.nil [0, 5, 6, 7, 8, 9, 26] rfl ?_
      refine AW.cond rfl (fun h5 => ?_) (fun h5 => ?_)
      · replace hf := ite_T h5 hf
        refine AW.seq ?_
        refine AW.region ?_
        refine AR.cs FX_ok 2 rfl ?_
        obtain ⟨x2, kx1, e1, h6, hf⟩ := bind3_inv hf
        refine AR.step rfl rfl rfl (AO.call rfl _ rfl rfl pf_23 (c_r09_token _ _ h6 ?_))
        refine AR.cs FX_ok 4 rfl ?_
        refine AR.step rfl rfl rfl (AO.alloc_own rfl zp_35 (fun b10 => ?_))
        refine AR.step_none rfl rfl (AO.store_box (i := 0) rfl rfl rfl ti_35 rfl rfl rfl rfl rfl ?_)
        refine AR.cs FX_ok 2 rfl ?_
        refine AR.nil [0, 5, 6, 7, 8, 10, 11, 12] rfl ?_
        refine AW.seq ?_
        refine AW.seq ?_
        refine AW.region ?_
        refine AR.cs FX_ok 2 rfl ?_
        refine AR.nil [0, 5, 6, 7, 8, 10, 11, 12, 35] rfl ?_
        refine AW.cond rfl (fun h7 => ?_) (fun h7 => ?_)
        · replace hf := ite_T h7 hf
          refine AW.seq ?_
          refine AW.region ?_
          refine AR.cs FX_ok 2 rfl ?_
          refine AR.step rfl rfl rfl (AO.nil_list rfl rfl ?_)
          refine AR.cs FX_ok 2 rfl ?_
          refine AR.nil [2, 3, 4] rfl ?_
          refine AW.ret ?_
          cases hf
          exact ⟨rfl, _, ⟨_, _, rfl, rfl, _, _, rfl, rfl, _, _, rfl, rfl, rfl⟩, [], List.nil_sublist _, h⟩
        · replace hf := ite_F h7 hf
          refine AW.skip ?_
          refine AW.region ?_
          refine AR.step rfl rfl rfl (AO.load_box (i := 0) rfl rfl rfl ti_35 rfl rfl ?_)
          refine AR.cs FX_ok 1 rfl ?_
          refine AR.step_none rfl rfl (AO.store_box (i := 1) rfl rfl rfl ti_35 rfl rfl rfl rfl rfl ?_)
          refine AR.cs FX_ok 1 rfl ?_
          refine AR.nil [0, 5, 6, 7, 8, 9] rfl ?_
          refine AW.seq ?_
          refine AW.region ?_
          refine AR.cs FX_ok 2 rfl ?_
          refine AR.step_none rfl rfl (AO.store_box (i := 1) rfl rfl rfl ti_3 rfl rfl rfl rfl rfl ?_)
          refine AR.nil [0, 5, 6, 7, 8, 9] rfl ?_
          refine AW.seq ?_
          refine AW.seq ?_
          refine AW.region ?_
          refine AR.cs FX_ok 1 rfl ?_
          refine AR.step rfl rfl rfl (AO.load_box (i := 1) rfl rfl rfl ti_3 rfl rfl ?_)
          refine AR.cs FX_ok 2 rfl ?_
          obtain ⟨b1, h9, hf⟩ := bind1_inv hf
          refine AR.join1 18 45 63 false [0, 5, 6, 7, 8, 9] b1 rfl rfl (fun h8 => ?_) (fun h8 => ?_) ?_
          · skip
            replace h9 := ite_F h8 h9
            refine AR.is 45 h8 rfl ?_
            refine AR.cs FX_ok 3 rfl ?_
            replace h9 := (bind1_ret _).trans h9
            obtain ⟨b2, h11, h9⟩ := bind1_inv h9
            refine AR.join1 14 48 62 true [0, 5, 6, 7, 8, 9, 45] b2 rfl rfl (fun h10 => ?_) (fun h10 => ?_) ?_
            · skip
              replace h11 := ite_T h10 h11
              refine AR.is 48 h10 rfl ?_
              refine AR.cs FX_ok 1 rfl ?_
              refine AR.go rfl rfl rfl rfl rfl rfl (AO.len_list (l := out1) rfl rfl rfl rfl es_23 rfl rfl ?_)
              refine AR.cs FX_ok 2 rfl ?_
              replace h11 := (bind1_ret _).trans h11
              obtain ⟨b3, h13, h11⟩ := bind1_inv h11
              refine AR.join1 9 52 61 false [0, 5, 6, 7, 8, 9, 45, 48] b3 rfl rfl (fun h12 => ?_) (fun h12 => ?_) ?_
              · skip
                replace h13 := ite_F h12 h13
                refine AR.is 52 h12 rfl ?_
                refine AR.cs FX_ok 2 rfl ?_
                refine AR.go rfl rfl rfl rfl rfl rfl (AO.len_list (l := out1) rfl rfl rfl rfl es_23 rfl rfl ?_)
                refine AR.cs FX_ok 1 rfl ?_
                obtain ⟨e2, h14, h13⟩ := bind1_inv h13
                refine AR.go rfl rfl rfl rfl rfl rfl (AO.idx_list h14 rfl rfl rfl rfl es_23 (ApiToken.cells_eq _) rfl ?_)
                refine AR.cs FX_ok 3 rfl ?_
                cases h13
                refine AR.cs FX_ok 1 rfl ?_
                refine AR.nil [61, 0, 5, 6, 7, 8, 9, 45, 48] rfl ?_
                exact ⟨rfl, rfl, rfl, rfl⟩
              · skip
                replace h13 := ite_T h12 h13
                refine AR.is 52 h12 rfl ?_
                cases h13
                refine AR.cs FX_ok 9 rfl ?_
                refine AR.nil [61, 0, 5, 6, 7, 8, 9, 45, 48] rfl ?_
                exact ⟨rfl, rfl, rfl, rfl⟩
              cases h11
              refine AR.cs FX_ok 1 rfl ?_
              refine AR.nil [62, 0, 5, 6, 7, 8, 9, 45] rfl ?_
              exact ⟨rfl, rfl, rfl, rfl⟩
            · skip
              replace h11 := ite_F h10 h11
              refine AR.is 48 h10 rfl ?_
              cases h11
              refine AR.cs FX_ok 14 rfl ?_
              refine AR.nil [62, 0, 5, 6, 7, 8, 9, 45] rfl ?_
              exact ⟨rfl, rfl, rfl, rfl⟩
            cases h9
            refine AR.cs FX_ok 1 rfl ?_
            refine AR.nil [63, 0, 5, 6, 7, 8, 9] rfl ?_
            exact ⟨rfl, rfl, rfl, rfl⟩
          · skip
            replace h9 := ite_T h8 h9
            refine AR.is 45 h8 rfl ?_
            cases h9
            refine AR.cs FX_ok 18 rfl ?_
            refine AR.nil [63, 0, 5, 6, 7, 8, 9] rfl ?_
            exact ⟨rfl, rfl, rfl, rfl⟩
          refine AR.nil [0, 5, 6, 7, 8, 9, 63] rfl ?_
          refine AW.cond rfl (fun h15 => ?_) (fun h15 => ?_)
          · replace hf := ite_T h15 hf
            refine AW.region ?_
            refine AR.cs FX_ok 1 rfl ?_
            refine AR.step rfl rfl rfl (AO.load_box (i := 1) rfl rfl rfl ti_35 rfl rfl ?_)
            refine AR.step rfl rfl rfl (AO.buildSliceF (List.map ApiToken.cells [(ApiToken.mk x2.kind x2.text at2)]) rfl sf_23 rfl rfl rfl (by first | rfl | simp only [List.map, ApiToken.cells_eq]) ?_)
            obtain ⟨out2, h16, hf⟩ := bind1_inv hf
            refine AR.step rfl rfl rfl (AO.app_own (i := 2) (l := out1) (m := [(ApiToken.mk x2.kind x2.text at2)]) h16 rfl rfl rfl rfl rfl rfl rfl sf_23 es_23 rfl rfl rfl (ApiToken.cells_len) (ApiToken.cells_one) (by decide) (fun v2 s1 hs1 => ?_))
            cases hs1
            refine AR.cs FX_ok 1 rfl ?_
            refine AR.nil [0, 5, 6, 7, 8, 9] rfl ?_
            refine AW.seq ?_
            refine AW.region ?_
            refine AR.cs FX_ok 1 rfl ?_
            refine AR.step rfl rfl rfl (AO.load_box (i := 1) rfl rfl rfl ti_35 rfl rfl ?_)
            obtain ⟨open2, h17, hf⟩ := bind1_inv hf
            refine AR.step rfl rfl rfl (AO.call rfl _ rfl rfl pf_24 (c_r09_opened _ _ h17 ?_))
            refine AR.cs FX_ok 1 rfl ?_
            refine AR.nil [0, 5, 6, 7, 9] rfl ?_
            refine AW.region ?_
            refine AR.cs FX_ok 4 rfl ?_
            obtain ⟨at3, h18, hf⟩ := bind1_inv hf
            refine AR.step rfl rfl rfl (AO.call rfl _ rfl rfl pf_22 (c_r09_ignored _ _ h18 ?_))
            refine AR.cs FX_ok 1 rfl ?_
            refine AR.drop1 ?_
            refine AR.drop1 ?_
            refine AR.nil [0, 5, 6, 7] rfl ?_
            exact ⟨out2, v2, open2, at3, rfl, rfl, rfl, hf⟩
          · replace hf := ite_F h15 hf
            refine AW.skip ?_
            refine AW.seq ?_
            refine AW.region ?_
            refine AR.cs FX_ok 1 rfl ?_
            refine AR.step rfl rfl rfl (AO.load_box (i := 1) rfl rfl rfl ti_35 rfl rfl ?_)
            obtain ⟨open3, h19, hf⟩ := bind1_inv hf
            refine AR.step rfl rfl rfl (AO.call rfl _ rfl rfl pf_24 (c_r09_opened _ _ h19 ?_))
            refine AR.cs FX_ok 1 rfl ?_
            refine AR.nil [0, 5, 6, 7, 9] rfl ?_
            refine AW.region ?_
            refine AR.cs FX_ok 4 rfl ?_
            obtain ⟨at4, h20, hf⟩ := bind1_inv hf
            refine AR.step rfl rfl rfl (AO.call rfl _ rfl rfl pf_22 (c_r09_ignored _ _ h20 ?_))
            refine AR.cs FX_ok 1 rfl ?_
            refine AR.drop1 ?_
            refine AR.drop1 ?_
            refine AR.nil [0, 5, 6, 7] rfl ?_
            exact ⟨out1, v1, open3, at4, rfl, rfl, rfl, hf⟩
      · replace hf := ite_F h5 hf
        refine AW.skip ?_
        refine AW.seq ?_
        refine AW.region ?_
        refine AR.cs FX_ok 2 rfl ?_
        refine AR.step_none rfl rfl (AO.store_box (i := 0) rfl rfl rfl ti_3 rfl rfl rfl rfl rfl ?_)
        refine AR.nil [0, 5, 6, 7, 8, 9] rfl ?_
        refine AW.seq ?_
        refine AW.seq ?_
        refine AW.region ?_
        refine AR.cs FX_ok 1 rfl ?_
        refine AR.step rfl rfl rfl (AO.load_box (i := 0) rfl rfl rfl ti_3 rfl rfl ?_)
        refine AR.cs FX_ok 2 rfl ?_
        obtain ⟨b4, h22, hf⟩ := bind1_inv hf
        refine AR.join1 18 45 63 false [0, 5, 6, 7, 8, 9] b4 rfl rfl (fun h21 => ?_) (fun h21 => ?_) ?_
        · skip
          replace h22 := ite_F h21 h22
          refine AR.is 45 h21 rfl ?_
          refine AR.cs FX_ok 3 rfl ?_
          replace h22 := (bind1_ret _).trans h22
          obtain ⟨b5, h24, h22⟩ := bind1_inv h22
          refine AR.join1 14 48 62 true [0, 5, 6, 7, 8, 9, 45] b5 rfl rfl (fun h23 => ?_) (fun h23 => ?_) ?_
          · skip
            replace h24 := ite_T h23 h24
            refine AR.is 48 h23 rfl ?_
            refine AR.cs FX_ok 1 rfl ?_
            refine AR.go rfl rfl rfl rfl rfl rfl (AO.len_list (l := out1) rfl rfl rfl rfl es_23 rfl rfl ?_)
            refine AR.cs FX_ok 2 rfl ?_
            replace h24 := (bind1_ret _).trans h24
            obtain ⟨b6, h26, h24⟩ := bind1_inv h24
            refine AR.join1 9 52 61 false [0, 5, 6, 7, 8, 9, 45, 48] b6 rfl rfl (fun h25 => ?_) (fun h25 => ?_) ?_
            · skip
              replace h26 := ite_F h25 h26
              refine AR.is 52 h25 rfl ?_
              refine AR.cs FX_ok 2 rfl ?_
              refine AR.go rfl rfl rfl rfl rfl rfl (AO.len_list (l := out1) rfl rfl rfl rfl es_23 rfl rfl ?_)
              refine AR.cs FX_ok 1 rfl ?_
              obtain ⟨e3, h27, h26⟩ := bind1_inv h26
              refine AR.go rfl rfl rfl rfl rfl rfl (AO.idx_list h27 rfl rfl rfl rfl es_23 (ApiToken.cells_eq _) rfl ?_)
              refine AR.cs FX_ok 3 rfl ?_
              cases h26
              refine AR.cs FX_ok 1 rfl ?_
              refine AR.nil [61, 0, 5, 6, 7, 8, 9, 45, 48] rfl ?_
              exact ⟨rfl, rfl, rfl, rfl⟩
            · skip
              replace h26 := ite_T h25 h26
              refine AR.is 52 h25 rfl ?_
              cases h26
              refine AR.cs FX_ok 9 rfl ?_
              refine AR.nil [61, 0, 5, 6, 7, 8, 9, 45, 48] rfl ?_
              exact ⟨rfl, rfl, rfl, rfl⟩
            cases h24
            refine AR.cs FX_ok 1 rfl ?_
            refine AR.nil [62, 0, 5, 6, 7, 8, 9, 45] rfl ?_
            exact ⟨rfl, rfl, rfl, rfl⟩
          · skip
            replace h24 := ite_F h23 h24
            refine AR.is 48 h23 rfl ?_
            cases h24
            refine AR.cs FX_ok 14 rfl ?_
            refine AR.nil [62, 0, 5, 6, 7, 8, 9, 45] rfl ?_
            exact ⟨rfl, rfl, rfl, rfl⟩
          cases h22
          refine AR.cs FX_ok 1 rfl ?_
          refine AR.nil [63, 0, 5, 6, 7, 8, 9] rfl ?_
          exact ⟨rfl, rfl, rfl, rfl⟩
        · skip
          replace h22 := ite_T h21 h22
          refine AR.is 45 h21 rfl ?_
          cases h22
          refine AR.cs FX_ok 18 rfl ?_
          refine AR.nil [63, 0, 5, 6, 7, 8, 9] rfl ?_
          exact ⟨rfl, rfl, rfl, rfl⟩
        refine AR.nil [0, 5, 6, 7, 8, 9, 63] rfl ?_
        refine AW.cond rfl (fun h28 => ?_) (fun h28 => ?_)
        · replace hf := ite_T h28 hf
          refine AW.region ?_
          refine AR.cs FX_ok 1 rfl ?_
          refine AR.step rfl rfl rfl (AO.load_box (i := 0) rfl rfl rfl ti_35 rfl rfl ?_)
          refine AR.step rfl rfl rfl (AO.buildSliceF (List.map ApiToken.cells [(ApiToken.mk 5 ([] : Str) at2)]) rfl sf_23 rfl rfl rfl (by first | rfl | simp only [List.map, ApiToken.cells_eq]) ?_)
          obtain ⟨out3, h29, hf⟩ := bind1_inv hf
          refine AR.step rfl rfl rfl (AO.app_own (i := 1) (l := out1) (m := [(ApiToken.mk 5 ([] : Str) at2)]) h29 rfl rfl rfl rfl rfl rfl rfl sf_23 es_23 rfl rfl rfl (ApiToken.cells_len) (ApiToken.cells_one) (by decide) (fun v3 s2 hs2 => ?_))
          cases hs2
          refine AR.cs FX_ok 1 rfl ?_
          refine AR.nil [0, 5, 6, 7, 8, 9] rfl ?_
          refine AW.seq ?_
          refine AW.region ?_
          refine AR.cs FX_ok 1 rfl ?_
          refine AR.step rfl rfl rfl (AO.load_box (i := 0) rfl rfl rfl ti_35 rfl rfl ?_)
          obtain ⟨open4, h30, hf⟩ := bind1_inv hf
          refine AR.step rfl rfl rfl (AO.call rfl _ rfl rfl pf_24 (c_r09_opened _ _ h30 ?_))
          refine AR.cs FX_ok 1 rfl ?_
          refine AR.nil [0, 5, 6, 7, 9] rfl ?_
          refine AW.region ?_
          refine AR.cs FX_ok 4 rfl ?_
          obtain ⟨at5, h31, hf⟩ := bind1_inv hf
          refine AR.step rfl rfl rfl (AO.call rfl _ rfl rfl pf_22 (c_r09_ignored _ _ h31 ?_))
          refine AR.cs FX_ok 1 rfl ?_
          refine AR.drop1 ?_
          refine AR.nil [0, 5, 6, 7] rfl ?_
          exact ⟨out3, v3, open4, at5, rfl, rfl, rfl, hf⟩
        · replace hf := ite_F h28 hf
          refine AW.skip ?_
          refine AW.seq ?_
          refine AW.region ?_
          refine AR.cs FX_ok 1 rfl ?_
          refine AR.step rfl rfl rfl (AO.load_box (i := 0) rfl rfl rfl ti_35 rfl rfl ?_)
          obtain ⟨open5, h32, hf⟩ := bind1_inv hf
          refine AR.step rfl rfl rfl (AO.call rfl _ rfl rfl pf_24 (c_r09_opened _ _ h32 ?_))
          refine AR.cs FX_ok 1 rfl ?_
          refine AR.nil [0, 5, 6, 7, 9] rfl ?_
          refine AW.region ?_
          refine AR.cs FX_ok 4 rfl ?_
          obtain ⟨at6, h33, hf⟩ := bind1_inv hf
          refine AR.step rfl rfl rfl (AO.call rfl _ rfl rfl pf_22 (c_r09_ignored _ _ h33 ?_))
          refine AR.cs FX_ok 1 rfl ?_
          refine AR.drop1 ?_
          refine AR.nil [0, 5, 6, 7] rfl ?_
          exact ⟨out1, v1, open5, at6, rfl, rfl, rfl, hf⟩
    · replace hf := ite_F h3 hf
      refine AW.exit ?_
      refine AW.seq ?_
      refine AW.region ?_
      refine AR.cs FX_ok 4 rfl ?_
      refine AR.nil [2, 3, 4] rfl ?_
      refine AW.ret ?_
      cases hf
      exact ⟨rfl, _, ⟨_, _, rfl, rfl, _, _, rfl, rfl, _, _, rfl, rfl, rfl⟩, [], List.nil_sublist _, h⟩

theorem c_l09_LexerTokens (src1 : Str) {r0 : Bool} (hf : l09_LexerTokens src1 = some r0) {τ : List Res} {Q : AOut → List Res → Prop} (h : Q (.ret (.bool r0)) τ) : AC Try.prog 3 [.str src1] τ Q := by
  unfold l09_LexerTokens at hf
  refine AC.none ?_
  refine AC.of_body 41 [.tmp 2] [0] Try.func3 rfl rfl rfl rfl rfl ?_
  refine AW.seq ?_
  refine AW.region ?_
  refine AR.cs FX_ok 1 rfl ?_
  refine AR.nil [0] rfl ?_
  refine AW.seq ?_
  refine AW.seq ?_
  refine AW.region ?_
  refine AR.cs FX_ok 1 rfl ?_
  refine AR.step rfl rfl rfl (AO.len_str rfl rfl rfl rfl un_9 rfl ?_)
  refine AR.cs FX_ok 1 rfl ?_
  refine AR.nil [0, 11] rfl ?_
  refine AW.cond rfl (fun h1 => ?_) (fun h1 => ?_)
  · replace hf := ite_T h1 hf
    refine AW.seq ?_
    refine AW.region ?_
    replace hf := (bind1_ret _).trans hf
    obtain ⟨x1, h2, hf⟩ := bind1_inv hf
    refine AR.step rfl rfl rfl (AO.call rfl _ rfl rfl pf_9 (c_l09_awake  h2 ?_))
    refine AR.cs FX_ok 1 rfl ?_
    refine AR.nil [2] rfl ?_
    refine AW.ret ?_
    cases hf
    exact ⟨rfl, _, ⟨_, _, rfl, rfl, rfl⟩, [], List.nil_sublist _, h⟩
  · replace hf := ite_F h1 hf
    refine AW.skip ?_
    refine AW.seq ?_
    refine AW.region ?_
    refine AR.cs FX_ok 1 rfl ?_
    obtain ⟨l1, at1, e1, h3, hf⟩ := bind3_inv hf
    refine AR.step rfl rfl rfl (AO.call rfl _ rfl rfl pf_10 (c_lexer_Tokens _ h3 ?_))
    refine AR.cs FX_ok 7 rfl ?_
    refine AR.nil [0, 3, 4, 5] rfl ?_
    refine AW.seq ?_
    refine AW.region ?_
    refine AR.cs FX_ok 1 rfl ?_
    obtain ⟨m1, kx1, f1, h4, hf⟩ := bind3_inv hf
    refine AR.step rfl rfl rfl (AO.call rfl _ rfl rfl pf_11 (c_r09_Tokens _ h4 ?_))
    refine AR.cs FX_ok 7 rfl ?_
    refine AR.nil [3, 4, 5, 6, 7, 8] rfl ?_
    refine AW.seq ?_
    refine AW.region ?_
    refine AR.cs FX_ok 2 rfl ?_
    obtain ⟨x2, h5, hf⟩ := bind1_inv hf
    refine AR.step rfl rfl rfl (AO.call rfl _ rfl rfl pf_12 (c_r09_Same _ _ _ h5 ?_))
    refine AR.cs FX_ok 1 rfl ?_
    refine AR.and 4 28 32 [5, 8] (x := (at1 == kx1)) rfl rfl (fun h6 => ?_) (fun h6 => ?_) ?_
    · skip
      refine AR.is 28 h6 rfl ?_
      refine AR.cs FX_ok 4 rfl ?_
      refine AR.nil [32, 5, 8] rfl ?_
      exact ⟨rfl, rfl, rfl, rfl⟩
    · skip
      refine AR.is 28 h6 rfl ?_
      refine AR.cs FX_ok 4 rfl ?_
      refine AR.nil [32, 5, 8] rfl ?_
      exact ⟨rfl, rfl, rfl, rfl⟩
    refine AR.cs FX_ok 1 rfl ?_
    refine AR.and 4 33 37 [] (x := (e1 == f1)) rfl rfl (fun h7 => ?_) (fun h7 => ?_) ?_
    · skip
      refine AR.is 33 h7 rfl ?_
      refine AR.cs FX_ok 4 rfl ?_
      refine AR.nil [37] rfl ?_
      exact ⟨rfl, rfl, rfl, rfl⟩
    · skip
      refine AR.is 33 h7 rfl ?_
      refine AR.cs FX_ok 4 rfl ?_
      refine AR.nil [37] rfl ?_
      exact ⟨rfl, rfl, rfl, rfl⟩
    refine AR.cs FX_ok 1 rfl ?_
    replace hf := (bind1_ret _).trans hf
    obtain ⟨b1, h9, hf⟩ := bind1_inv hf
    refine AR.join1 2 38 40 true [] b1 rfl rfl (fun h8 => ?_) (fun h8 => ?_) ?_
    · skip
      replace h9 := ite_T h8 h9
      refine AR.is 38 h8 rfl ?_
      replace h9 := (bind1_ret _).trans h9
      obtain ⟨x3, h10, h9⟩ := bind1_inv h9
      refine AR.go rfl rfl rfl rfl rfl rfl (AO.call rfl _ rfl rfl pf_9 (c_l09_awake  h10 ?_))
      cases h9
      refine AR.cs FX_ok 1 rfl ?_
      refine AR.nil [40] rfl ?_
      exact ⟨rfl, rfl, rfl, rfl⟩
    · skip
      replace h9 := ite_F h8 h9
      refine AR.is 38 h8 rfl ?_
      cases h9
      refine AR.cs FX_ok 2 rfl ?_
      refine AR.nil [40] rfl ?_
      exact ⟨rfl, rfl, rfl, rfl⟩
    refine AR.cs FX_ok 1 rfl ?_
    refine AR.nil [2] rfl ?_
    refine AW.ret ?_
    cases hf
    exact ⟨rfl, _, ⟨_, _, rfl, rfl, rfl⟩, [], List.nil_sublist _, h⟩

theorem c_r07_character (c1 : UInt8) {r0 : Str} (hf : r07_character c1 = some r0) {τ : List Res} {Q : AOut → List Res → Prop} (h : Q (.ret (.str r0)) τ) : AC Try.prog 41 [.int .u8 (c1.toNat : Int)] τ Q := by
  unfold r07_character at hf
  refine AC.none ?_
  refine AC.of_body 44 [.tmp 2] [0] Try.func41 rfl rfl rfl rfl rfl ?_
  refine AW.seq ?_
  refine AW.region ?_
  refine AR.cs FX_ok 1 rfl ?_
  refine AR.nil [0] rfl ?_
  refine AW.seq ?_
  refine AW.block ?_
  refine AW.seq ?_
  refine AW.region ?_
  refine AR.cs FX_ok 3 rfl ?_
  refine AR.nil [0, 4] rfl ?_
  refine AW.cond rfl (fun h1 => ?_) (fun h1 => ?_)
  · replace hf := ite_T h1 hf
    refine AW.seq ?_
    refine AW.region ?_
    refine AR.step rfl rfl rfl (AO.buildSliceF (List.map byteC ([92, 34] : List UInt8)) rfl sf_37 rfl rfl rfl rfl ?_)
    refine AR.step rfl rfl rfl (AO.bytes_str rfl un_37 un_5 un_9 rfl rfl ?_)
    refine AR.cs FX_ok 1 rfl ?_
    refine AR.nil [2] rfl ?_
    refine AW.ret ?_
    cases hf
    exact ⟨rfl, _, ⟨_, _, rfl, rfl, rfl⟩, [], List.nil_sublist _, h⟩
  · replace hf := ite_F h1 hf
    refine AW.seq ?_
    refine AW.region ?_
    refine AR.cs FX_ok 3 rfl ?_
    refine AR.nil [0, 9] rfl ?_
    refine AW.cond rfl (fun h2 => ?_) (fun h2 => ?_)
    · replace hf := ite_T h2 hf
      refine AW.seq ?_
      refine AW.region ?_
      refine AR.step rfl rfl rfl (AO.buildSliceF (List.map byteC ([92, 92] : List UInt8)) rfl sf_37 rfl rfl rfl rfl ?_)
      refine AR.step rfl rfl rfl (AO.bytes_str rfl un_37 un_5 un_9 rfl rfl ?_)
      refine AR.cs FX_ok 1 rfl ?_
      refine AR.nil [2] rfl ?_
      refine AW.ret ?_
      cases hf
      exact ⟨rfl, _, ⟨_, _, rfl, rfl, rfl⟩, [], List.nil_sublist _, h⟩
    · replace hf := ite_F h2 hf
      refine AW.seq ?_
      refine AW.region ?_
      refine AR.cs FX_ok 3 rfl ?_
      refine AR.nil [0, 14] rfl ?_
      refine AW.cond rfl (fun h3 => ?_) (fun h3 => ?_)
      · replace hf := ite_T h3 hf
        refine AW.seq ?_
        refine AW.region ?_
        refine AR.step rfl rfl rfl (AO.buildSliceF (List.map byteC ([92, 110] : List UInt8)) rfl sf_37 rfl rfl rfl rfl ?_)
        refine AR.step rfl rfl rfl (AO.bytes_str rfl un_37 un_5 un_9 rfl rfl ?_)
        refine AR.cs FX_ok 1 rfl ?_
        refine AR.nil [2] rfl ?_
        refine AW.ret ?_
        cases hf
        exact ⟨rfl, _, ⟨_, _, rfl, rfl, rfl⟩, [], List.nil_sublist _, h⟩
      · replace hf := ite_F h3 hf
        refine AW.seq ?_
        refine AW.region ?_
        refine AR.cs FX_ok 3 rfl ?_
        refine AR.nil [0, 19] rfl ?_
        refine AW.cond rfl (fun h4 => ?_) (fun h4 => ?_)
        · replace hf := ite_T h4 hf
          refine AW.seq ?_
          refine AW.region ?_
          refine AR.step rfl rfl rfl (AO.buildSliceF (List.map byteC ([92, 116] : List UInt8)) rfl sf_37 rfl rfl rfl rfl ?_)
          refine AR.step rfl rfl rfl (AO.bytes_str rfl un_37 un_5 un_9 rfl rfl ?_)
          refine AR.cs FX_ok 1 rfl ?_
          refine AR.nil [2] rfl ?_
          refine AW.ret ?_
          cases hf
          exact ⟨rfl, _, ⟨_, _, rfl, rfl, rfl⟩, [], List.nil_sublist _, h⟩
        · replace hf := ite_F h4 hf
          refine AW.seq ?_
          refine AW.region ?_
          refine AR.cs FX_ok 3 rfl ?_
          refine AR.and 3 27 30 [0] (x := (decide ((c1.toNat : Int) ≤ 126))) rfl rfl (fun h5 => ?_) (fun h5 => ?_) ?_
          · skip
            refine AR.is 27 h5 rfl ?_
            refine AR.cs FX_ok 3 rfl ?_
            refine AR.nil [30, 0] rfl ?_
            exact ⟨rfl, rfl, rfl, rfl⟩
          · skip
            refine AR.is 27 h5 rfl ?_
            refine AR.cs FX_ok 3 rfl ?_
            refine AR.nil [30, 0] rfl ?_
            exact ⟨rfl, rfl, rfl, rfl⟩
          refine AR.cs FX_ok 1 rfl ?_
          refine AR.nil [0, 24] rfl ?_
          refine AW.cond rfl (fun h6 => ?_) (fun h6 => ?_)
          · replace hf := ite_T h6 hf
            refine AW.seq ?_
            refine AW.region ?_
            refine AR.cs FX_ok 1 rfl ?_
            refine AR.step rfl rfl rfl (AO.buildSliceF (List.map byteC ([c1] : List UInt8)) rfl sf_37 rfl rfl rfl rfl ?_)
            refine AR.step rfl rfl rfl (AO.bytes_str rfl un_37 un_5 un_9 rfl rfl ?_)
            refine AR.cs FX_ok 1 rfl ?_
            refine AR.nil [2] rfl ?_
            refine AW.ret ?_
            cases hf
            exact ⟨rfl, _, ⟨_, _, rfl, rfl, rfl⟩, [], List.nil_sublist _, h⟩
          · replace hf := ite_F h6 hf
            refine AW.skip ?_
            refine AW.seq ?_
            refine AW.region ?_
            refine AR.cs FX_ok 1 rfl ?_
            refine AR.nil [0, 3] rfl ?_
            refine AW.seq ?_
            refine AW.draw 11 mixed (by kernel_rfl) rfl ?_
            refine Ev.cs FX_ok 2 rfl ?_
            refine Ev.cons rfl rfl rfl (AO.u8_quo c1 16 rfl rfl rfl rfl rfl (by decide) ⟨rfl, rfl⟩) ?_
            obtain ⟨x1, h7, hf⟩ := bind1_inv hf
            refine Ev.cons rfl rfl rfl (AO.idx_str h7 rfl un_9 rfl rfl ⟨rfl, rfl⟩) ?_
            refine Ev.cs FX_ok 2 rfl ?_
            refine Ev.cons rfl rfl rfl (AO.u8_rem c1 16 rfl rfl rfl rfl rfl (by decide) ⟨rfl, rfl⟩) ?_
            obtain ⟨x2, h8, hf⟩ := bind1_inv hf
            refine Ev.cons rfl rfl rfl (AO.idx_str h8 rfl un_9 rfl rfl ⟨rfl, rfl⟩) ?_
            refine Ev.cons rfl rfl rfl (AO.buildSliceF (List.map byteC ([92, 120, x1, x2] : List UInt8)) rfl sf_37 rfl rfl rfl rfl ⟨rfl, rfl⟩) ?_
            refine Ev.cons rfl rfl rfl (AO.bytes_str rfl un_37 un_5 un_9 rfl rfl ⟨rfl, rfl⟩) ?_
            refine Ev.cs FX_ok 1 rfl ?_
            refine Ev.nil ?_
            show AR _ _ _ _ _ _ _ _
            refine AR.nil [2] rfl ?_
            refine AW.ret ?_
            cases hf
            exact ⟨rfl, _, ⟨_, _, rfl, rfl, rfl⟩, [], List.nil_sublist _, h⟩

theorem c_r07_Quote (s1 : Str) {r0 : Str} (hf : r07_Quote s1 = some r0) {τ : List Res} {Q : AOut → List Res → Prop} (h : Q (.ret (.str r0)) τ) : AC Try.prog 28 [.str s1] τ Q := by
  unfold r07_Quote at hf
  refine AC.none ?_
  refine AC.of_body 23 [.tmp 2] [0] Try.func28 rfl rfl rfl rfl rfl ?_
  refine AW.seq ?_
  refine AW.region ?_
  refine AR.cs FX_ok 1 rfl ?_
  refine AR.nil [0] rfl ?_
  refine AW.seq ?_
  refine AW.region ?_
  refine AR.step rfl rfl rfl (AO.buildSliceF (List.map byteC ([34] : List UInt8)) rfl sf_37 rfl rfl rfl rfl ?_)
  refine AR.step rfl rfl rfl (AO.bytes_str rfl un_37 un_5 un_9 rfl rfl ?_)
  refine AR.cs FX_ok 1 rfl ?_
  refine AR.nil [0, 3] rfl ?_
  refine AW.seq ?_
  refine AW.seq ?_
  refine AW.region ?_
  refine AR.cs FX_ok 1 rfl ?_
  refine AR.nil [0, 3, 4] rfl ?_
  refine AW.block ?_
  refine AW.settle [0, 3, 4] rfl ?_
  refine AW.loopF2 (fun out1 i1 => [(0, .str s1), (3, .str out1), (4, .int .i64 i1)]) (fun out1 i1 => []) (fun k out1 i1 => r07_Quote_l1 s1 k out1 i1 = some r0) BIG ([34] : List UInt8) 0 rfl rfl hf (fun _ _ hz => none_no hz) ?_
  intro k out1 i1 hf
  rw [r07_Quote_l1] at hf
  refine AW.seq ?_
  refine AW.seq ?_
  refine AW.region ?_
  refine AR.cs FX_ok 2 rfl ?_
  refine AR.step rfl rfl rfl (AO.len_str rfl rfl rfl rfl un_9 rfl ?_)
  refine AR.cs FX_ok 1 rfl ?_
  refine AR.nil [0, 3, 4, 10] rfl ?_
  refine AW.cond rfl (fun h1 => ?_) (fun h1 => ?_)
  · replace hf := ite_T h1 hf
    refine AW.skip ?_
    refine AW.seq ?_
    refine AW.block ?_
    refine AW.region ?_
    refine AR.cs FX_ok 3 rfl ?_
    obtain ⟨x1, h2, hf⟩ := bind1_inv hf
    refine AR.step rfl rfl rfl (AO.idx_str h2 rfl un_9 rfl rfl ?_)
    obtain ⟨x2, h3, hf⟩ := bind1_inv hf
    refine AR.step rfl rfl rfl (AO.call rfl _ rfl rfl pf_41 (c_r07_character _ h3 ?_))
    obtain ⟨out2, h4, hf⟩ := bind1_inv hf
    refine AR.step rfl rfl rfl (AO.catF h4 rfl rfl rfl ?_)
    refine AR.cs FX_ok 1 rfl ?_
    refine AR.nil [0, 3, 4] rfl ?_
    refine AW.region ?_
    refine AR.cs FX_ok 3 rfl ?_
    refine AR.nil [0, 3, 4] rfl ?_
    exact ⟨out2, (w64 (i1 + 1)), rfl, rfl, rfl, hf⟩
  · replace hf := ite_F h1 hf
    refine AW.exit ?_
    refine AW.seq ?_
    refine AW.region ?_
    refine AR.cs FX_ok 1 rfl ?_
    refine AR.step rfl rfl rfl (AO.buildSliceF (List.map byteC ([34] : List UInt8)) rfl sf_37 rfl rfl rfl rfl ?_)
    refine AR.step rfl rfl rfl (AO.bytes_str rfl un_37 un_5 un_9 rfl rfl ?_)
    replace hf := (bind1_ret _).trans hf
    obtain ⟨x3, h5, hf⟩ := bind1_inv hf
    refine AR.step rfl rfl rfl (AO.catF h5 rfl rfl rfl ?_)
    refine AR.cs FX_ok 1 rfl ?_
    refine AR.nil [2] rfl ?_
    refine AW.ret ?_
    cases hf
    exact ⟨rfl, _, ⟨_, _, rfl, rfl, rfl⟩, [], List.nil_sublist _, h⟩

theorem c_r09_Quote (s1 : Str) {r0 : Str} (hf : r09_Quote s1 = some r0) {τ : List Res} {Q : AOut → List Res → Prop} (h : Q (.ret (.str r0)) τ) : AC Try.prog 16 [.str s1] τ Q := by
  unfold r09_Quote at hf
  refine AC.none ?_
  refine AC.of_body 5 [.tmp 2] [0] Try.func16 rfl rfl rfl rfl rfl ?_
  refine AW.seq ?_
  refine AW.region ?_
  refine AR.cs FX_ok 1 rfl ?_
  refine AR.nil [0] rfl ?_
  refine AW.seq ?_
  refine AW.region ?_
  refine AR.cs FX_ok 1 rfl ?_
  replace hf := (bind1_ret _).trans hf
  obtain ⟨x1, h1, hf⟩ := bind1_inv hf
  refine AR.step rfl rfl rfl (AO.call rfl _ rfl rfl pf_28 (c_r07_Quote _ h1 ?_))
  refine AR.cs FX_ok 1 rfl ?_
  refine AR.nil [2] rfl ?_
  refine AW.ret ?_
  cases hf
  exact ⟨rfl, _, ⟨_, _, rfl, rfl, rfl⟩, [], List.nil_sublist _, h⟩

theorem c_r09_Join (ts1 : List ApiToken) {r0 : Str} (hf : r09_Join ts1 = some r0) {τ : List Res} {Q : AOut → List Res → Prop} (h : Q (.ret (.str r0)) τ) : AC Try.prog 14 [.list (List.map ApiToken.cells ts1)] τ Q := by
  unfold r09_Join at hf
  refine AC.none ?_
  refine AC.of_body 61 [.tmp 2] [0] Try.func14 rfl rfl rfl rfl rfl ?_
  refine AW.seq ?_
  refine AW.region ?_
  refine AR.cs FX_ok 1 rfl ?_
  refine AR.nil [0] rfl ?_
  refine AW.seq ?_
  refine AW.region ?_
  refine AR.cs FX_ok 1 rfl ?_
  refine AR.nil [0, 3] rfl ?_
  refine AW.seq ?_
  refine AW.seq ?_
  refine AW.region ?_
  refine AR.cs FX_ok 1 rfl ?_
  refine AR.nil [0, 3, 4] rfl ?_
  refine AW.block ?_
  refine AW.settle [0, 3, 4] rfl ?_
  refine AW.loopF2 (fun s1 i1 => [(0, .list (List.map ApiToken.cells ts1)), (3, .str s1), (4, .int .i64 i1)]) (fun s1 i1 => []) (fun k s1 i1 => r09_Join_l1 ts1 k s1 i1 = some r0) BIG ([] : Str) 0 rfl rfl hf (fun _ _ hz => none_no hz) ?_
  intro k s1 i1 hf
  rw [r09_Join_l1] at hf
  refine AW.seq ?_
  refine AW.seq ?_
  refine AW.region ?_
  refine AR.cs FX_ok 2 rfl ?_
  refine AR.step rfl rfl rfl (AO.len_list (l := ts1) rfl rfl rfl rfl es_23 rfl rfl ?_)
  refine AR.cs FX_ok 1 rfl ?_
  refine AR.nil [0, 3, 4, 8] rfl ?_
  refine AW.cond rfl (fun h1 => ?_) (fun h1 => ?_)
  · replace hf := ite_T h1 hf
    refine AW.skip ?_
    refine AW.seq ?_
    refine AW.block ?_
    refine AW.seq ?_
    refine AW.seq ?_
    refine AW.region ?_
    refine AR.cs FX_ok 3 rfl ?_
    obtain ⟨b1, h3, hf⟩ := bind1_inv hf
    refine AR.join1 7 13 20 true [0, 3, 4] b1 rfl rfl (fun h2 => ?_) (fun h2 => ?_) ?_
    · skip
      replace h3 := ite_T h2 h3
      refine AR.is 13 h2 rfl ?_
      refine AR.cs FX_ok 2 rfl ?_
      obtain ⟨e1, h4, h3⟩ := bind1_inv h3
      refine AR.go rfl rfl rfl rfl rfl rfl (AO.idx_list h4 rfl rfl rfl rfl es_23 (ApiToken.cells_eq _) rfl ?_)
      refine AR.cs FX_ok 3 rfl ?_
      cases h3
      refine AR.cs FX_ok 1 rfl ?_
      refine AR.nil [20, 0, 3, 4] rfl ?_
      exact ⟨rfl, rfl, rfl, rfl⟩
    · skip
      replace h3 := ite_F h2 h3
      refine AR.is 13 h2 rfl ?_
      cases h3
      refine AR.cs FX_ok 7 rfl ?_
      refine AR.nil [20, 0, 3, 4] rfl ?_
      exact ⟨rfl, rfl, rfl, rfl⟩
    refine AR.cs FX_ok 1 rfl ?_
    obtain ⟨b2, h6, hf⟩ := bind1_inv hf
    refine AR.join1 8 21 29 true [0, 3, 4] b2 rfl rfl (fun h5 => ?_) (fun h5 => ?_) ?_
    · skip
      replace h6 := ite_T h5 h6
      refine AR.is 21 h5 rfl ?_
      refine AR.cs FX_ok 3 rfl ?_
      obtain ⟨e2, h7, h6⟩ := bind1_inv h6
      refine AR.go rfl rfl rfl rfl rfl rfl (AO.idx_list h7 rfl rfl rfl rfl es_23 (ApiToken.cells_eq _) rfl ?_)
      refine AR.cs FX_ok 3 rfl ?_
      cases h6
      refine AR.cs FX_ok 1 rfl ?_
      refine AR.nil [29, 0, 3, 4] rfl ?_
      exact ⟨rfl, rfl, rfl, rfl⟩
    · skip
      replace h6 := ite_F h5 h6
      refine AR.is 21 h5 rfl ?_
      cases h6
      refine AR.cs FX_ok 8 rfl ?_
      refine AR.nil [29, 0, 3, 4] rfl ?_
      exact ⟨rfl, rfl, rfl, rfl⟩
    refine AR.nil [0, 3, 4, 29] rfl ?_
    refine AW.cond rfl (fun h8 => ?_) (fun h8 => ?_)
    · replace hf := ite_T h8 hf
      refine AW.region ?_
      refine AR.cs FX_ok 1 rfl ?_
      obtain ⟨s2, h9, hf⟩ := bind1_inv hf
      refine AR.step rfl rfl rfl (AO.catF h9 rfl rfl rfl ?_)
      refine AR.cs FX_ok 1 rfl ?_
      refine AR.nil [0, 3, 4] rfl ?_
      refine AW.seq ?_
      refine AW.region ?_
      refine AR.cs FX_ok 2 rfl ?_
      obtain ⟨e3, h10, hf⟩ := bind1_inv hf
      refine AR.step rfl rfl rfl (AO.idx_list h10 rfl rfl rfl rfl es_23 (ApiToken.cells_eq _) rfl ?_)
      refine AR.cs FX_ok 2 rfl ?_
      refine AR.nil [0, 3, 4, 36] rfl ?_
      refine AW.block ?_
      refine AW.seq ?_
      refine AW.region ?_
      refine AR.cs FX_ok 2 rfl ?_
      refine AR.nil [0, 3, 4, 36, 44] rfl ?_
      refine AW.cond rfl (fun h11 => ?_) (fun h11 => ?_)
      · replace hf := ite_T h11 hf
        refine AW.region ?_
        refine AR.cs FX_ok 3 rfl ?_
        obtain ⟨e4, h12, hf⟩ := bind1_inv hf
        refine AR.step rfl rfl rfl (AO.idx_list h12 rfl rfl rfl rfl es_23 (ApiToken.cells_eq _) rfl ?_)
        refine AR.cs FX_ok 2 rfl ?_
        obtain ⟨x1, h13, hf⟩ := bind1_inv hf
        refine AR.step rfl rfl rfl (AO.call rfl _ rfl rfl pf_16 (c_r09_Quote _ h13 ?_))
        obtain ⟨s3, h14, hf⟩ := bind1_inv hf
        refine AR.step rfl rfl rfl (AO.catF h14 rfl rfl rfl ?_)
        refine AR.cs FX_ok 1 rfl ?_
        refine AR.nil [0, 3, 4] rfl ?_
        refine AW.region ?_
        refine AR.cs FX_ok 3 rfl ?_
        refine AR.nil [0, 3, 4] rfl ?_
        exact ⟨s3, (w64 (i1 + 1)), rfl, rfl, rfl, hf⟩
      · replace hf := ite_F h11 hf
        refine AW.seq ?_
        refine AW.region ?_
        refine AR.cs FX_ok 2 rfl ?_
        refine AR.nil [0, 3, 4, 54] rfl ?_
        refine AW.cond rfl (fun h15 => ?_) (fun h15 => ?_)
        · replace hf := ite_T h15 hf
          refine AW.region ?_
          refine AR.cs FX_ok 1 rfl ?_
          refine AR.step rfl rfl rfl (AO.buildSliceF (List.map byteC ([10] : List UInt8)) rfl sf_37 rfl rfl rfl rfl ?_)
          refine AR.step rfl rfl rfl (AO.bytes_str rfl un_37 un_5 un_9 rfl rfl ?_)
          obtain ⟨s4, h16, hf⟩ := bind1_inv hf
          refine AR.step rfl rfl rfl (AO.catF h16 rfl rfl rfl ?_)
          refine AR.cs FX_ok 1 rfl ?_
          refine AR.nil [0, 3, 4] rfl ?_
          refine AW.region ?_
          refine AR.cs FX_ok 3 rfl ?_
          refine AR.nil [0, 3, 4] rfl ?_
          exact ⟨s4, (w64 (i1 + 1)), rfl, rfl, rfl, hf⟩
        · replace hf := ite_F h15 hf
          refine AW.region ?_
          refine AR.cs FX_ok 3 rfl ?_
          obtain ⟨e5, h17, hf⟩ := bind1_inv hf
          refine AR.step rfl rfl rfl (AO.idx_list h17 rfl rfl rfl rfl es_23 (ApiToken.cells_eq _) rfl ?_)
          refine AR.cs FX_ok 2 rfl ?_
          obtain ⟨s5, h18, hf⟩ := bind1_inv hf
          refine AR.step rfl rfl rfl (AO.catF h18 rfl rfl rfl ?_)
          refine AR.cs FX_ok 1 rfl ?_
          refine AR.nil [0, 3, 4] rfl ?_
          refine AW.region ?_
          refine AR.cs FX_ok 3 rfl ?_
          refine AR.nil [0, 3, 4] rfl ?_
          exact ⟨s5, (w64 (i1 + 1)), rfl, rfl, rfl, hf⟩
    · replace hf := ite_F h8 hf
      refine AW.skip ?_
      refine AW.seq ?_
      refine AW.region ?_
      refine AR.cs FX_ok 2 rfl ?_
      obtain ⟨e6, h19, hf⟩ := bind1_inv hf
      refine AR.step rfl rfl rfl (AO.idx_list h19 rfl rfl rfl rfl es_23 (ApiToken.cells_eq _) rfl ?_)
      refine AR.cs FX_ok 2 rfl ?_
      refine AR.nil [0, 3, 4, 36] rfl ?_
      refine AW.block ?_
      refine AW.seq ?_
      refine AW.region ?_
      refine AR.cs FX_ok 2 rfl ?_
      refine AR.nil [0, 3, 4, 36, 44] rfl ?_
      refine AW.cond rfl (fun h20 => ?_) (fun h20 => ?_)
      · replace hf := ite_T h20 hf
        refine AW.region ?_
        refine AR.cs FX_ok 3 rfl ?_
        obtain ⟨e7, h21, hf⟩ := bind1_inv hf
        refine AR.step rfl rfl rfl (AO.idx_list h21 rfl rfl rfl rfl es_23 (ApiToken.cells_eq _) rfl ?_)
        refine AR.cs FX_ok 2 rfl ?_
        obtain ⟨x2, h22, hf⟩ := bind1_inv hf
        refine AR.step rfl rfl rfl (AO.call rfl _ rfl rfl pf_16 (c_r09_Quote _ h22 ?_))
        obtain ⟨s6, h23, hf⟩ := bind1_inv hf
        refine AR.step rfl rfl rfl (AO.catF h23 rfl rfl rfl ?_)
        refine AR.cs FX_ok 1 rfl ?_
        refine AR.nil [0, 3, 4] rfl ?_
        refine AW.region ?_
        refine AR.cs FX_ok 3 rfl ?_
        refine AR.nil [0, 3, 4] rfl ?_
        exact ⟨s6, (w64 (i1 + 1)), rfl, rfl, rfl, hf⟩
      · replace hf := ite_F h20 hf
        refine AW.seq ?_
        refine AW.region ?_
        refine AR.cs FX_ok 2 rfl ?_
        refine AR.nil [0, 3, 4, 54] rfl ?_
        refine AW.cond rfl (fun h24 => ?_) (fun h24 => ?_)
        · replace hf := ite_T h24 hf
          refine AW.region ?_
          refine AR.cs FX_ok 1 rfl ?_
          refine AR.step rfl rfl rfl (AO.buildSliceF (List.map byteC ([10] : List UInt8)) rfl sf_37 rfl rfl rfl rfl ?_)
          refine AR.step rfl rfl rfl (AO.bytes_str rfl un_37 un_5 un_9 rfl rfl ?_)
          obtain ⟨s7, h25, hf⟩ := bind1_inv hf
          refine AR.step rfl rfl rfl (AO.catF h25 rfl rfl rfl ?_)
          refine AR.cs FX_ok 1 rfl ?_
          refine AR.nil [0, 3, 4] rfl ?_
          refine AW.region ?_
          refine AR.cs FX_ok 3 rfl ?_
          refine AR.nil [0, 3, 4] rfl ?_
          exact ⟨s7, (w64 (i1 + 1)), rfl, rfl, rfl, hf⟩
        · replace hf := ite_F h24 hf
          refine AW.region ?_
          refine AR.cs FX_ok 3 rfl ?_
          obtain ⟨e8, h26, hf⟩ := bind1_inv hf
          refine AR.step rfl rfl rfl (AO.idx_list h26 rfl rfl rfl rfl es_23 (ApiToken.cells_eq _) rfl ?_)
          refine AR.cs FX_ok 2 rfl ?_
          obtain ⟨s8, h27, hf⟩ := bind1_inv hf
          refine AR.step rfl rfl rfl (AO.catF h27 rfl rfl rfl ?_)
          refine AR.cs FX_ok 1 rfl ?_
          refine AR.nil [0, 3, 4] rfl ?_
          refine AW.region ?_
          refine AR.cs FX_ok 3 rfl ?_
          refine AR.nil [0, 3, 4] rfl ?_
          exact ⟨s8, (w64 (i1 + 1)), rfl, rfl, rfl, hf⟩
  · replace hf := ite_F h1 hf
    refine AW.exit ?_
    refine AW.seq ?_
    refine AW.region ?_
    refine AR.cs FX_ok 2 rfl ?_
    refine AR.nil [2] rfl ?_
    refine AW.ret ?_
    cases hf
    exact ⟨rfl, _, ⟨_, _, rfl, rfl, rfl⟩, [], List.nil_sublist _, h⟩

theorem c_l09_LexerJoins (ts1 : List ApiToken) (s1 : Str) {r0 : Bool} (hf : l09_LexerJoins ts1 s1 = some r0) {τ : List Res} {Q : AOut → List Res → Prop} (h : Q (.ret (.bool r0)) τ) : AC Try.prog 4 [.list (List.map ApiToken.cells ts1), .str s1] τ Q := by
  unfold l09_LexerJoins at hf
  refine AC.none ?_
  refine AC.of_body 29 [.tmp 4] [0, 1] Try.func4 rfl rfl rfl rfl rfl ?_
  refine AW.seq ?_
  refine AW.region ?_
  refine AR.cs FX_ok 1 rfl ?_
  refine AR.nil [0, 1] rfl ?_
  refine AW.seq ?_
  refine AW.seq ?_
  refine AW.region ?_
  refine AR.cs FX_ok 1 rfl ?_
  refine AR.step rfl rfl rfl (AO.len_list (l := ts1) rfl rfl rfl rfl es_23 rfl rfl ?_)
  refine AR.cs FX_ok 2 rfl ?_
  refine AR.or 4 8 12 [0, 1] (x := (decide (5000 < (s1.length : Int)))) rfl rfl (fun h1 => ?_) (fun h1 => ?_) ?_
  · skip
    refine AR.is 8 h1 rfl ?_
    refine AR.cs FX_ok 1 rfl ?_
    refine AR.go rfl rfl rfl rfl rfl rfl (AO.len_str rfl rfl rfl rfl un_9 rfl ?_)
    refine AR.cs FX_ok 2 rfl ?_
    refine AR.nil [12, 0, 1] rfl ?_
    exact ⟨rfl, rfl, rfl, rfl⟩
  · skip
    refine AR.is 8 h1 rfl ?_
    refine AR.cs FX_ok 4 rfl ?_
    refine AR.nil [12, 0, 1] rfl ?_
    exact ⟨rfl, rfl, rfl, rfl⟩
  refine AR.nil [0, 1, 12] rfl ?_
  refine AW.cond rfl (fun h2 => ?_) (fun h2 => ?_)
  · replace hf := ite_T h2 hf
    refine AW.seq ?_
    refine AW.region ?_
    replace hf := (bind1_ret _).trans hf
    obtain ⟨x1, h3, hf⟩ := bind1_inv hf
    refine AR.step rfl rfl rfl (AO.call rfl _ rfl rfl pf_9 (c_l09_awake  h3 ?_))
    refine AR.cs FX_ok 1 rfl ?_
    refine AR.nil [4] rfl ?_
    refine AW.ret ?_
    cases hf
    exact ⟨rfl, _, ⟨_, _, rfl, rfl, rfl⟩, [], List.nil_sublist _, h⟩
  · replace hf := ite_F h2 hf
    refine AW.skip ?_
    refine AW.seq ?_
    refine AW.region ?_
    refine AR.cs FX_ok 1 rfl ?_
    obtain ⟨x2, h4, hf⟩ := bind1_inv hf
    refine AR.step rfl rfl rfl (AO.call rfl _ rfl rfl pf_13 (c_lexer_Join _ h4 ?_))
    refine AR.cs FX_ok 1 rfl ?_
    obtain ⟨x3, h5, hf⟩ := bind1_inv hf
    refine AR.step rfl rfl rfl (AO.call rfl _ rfl rfl pf_14 (c_r09_Join _ h5 ?_))
    refine AR.cs FX_ok 2 rfl ?_
    obtain ⟨b1, h7, hf⟩ := bind1_inv hf
    refine AR.join1 6 19 25 true [] b1 rfl rfl (fun h6 => ?_) (fun h6 => ?_) ?_
    · skip
      replace h7 := ite_T h6 h7
      refine AR.is 19 h6 rfl ?_
      refine AR.cs FX_ok 1 rfl ?_
      obtain ⟨x4, h8, h7⟩ := bind1_inv h7
      refine AR.go rfl rfl rfl rfl rfl rfl (AO.call rfl _ rfl rfl pf_15 (c_lexer_Quote _ h8 ?_))
      refine AR.cs FX_ok 1 rfl ?_
      obtain ⟨x5, h9, h7⟩ := bind1_inv h7
      refine AR.go rfl rfl rfl rfl rfl rfl (AO.call rfl _ rfl rfl pf_16 (c_r09_Quote _ h9 ?_))
      refine AR.cs FX_ok 1 rfl ?_
      cases h7
      refine AR.cs FX_ok 1 rfl ?_
      refine AR.nil [25] rfl ?_
      exact ⟨rfl, rfl, rfl, rfl⟩
    · skip
      replace h7 := ite_F h6 h7
      refine AR.is 19 h6 rfl ?_
      cases h7
      refine AR.cs FX_ok 6 rfl ?_
      refine AR.nil [25] rfl ?_
      exact ⟨rfl, rfl, rfl, rfl⟩
    refine AR.cs FX_ok 1 rfl ?_
    replace hf := (bind1_ret _).trans hf
    obtain ⟨b2, h11, hf⟩ := bind1_inv hf
    refine AR.join1 2 26 28 true [] b2 rfl rfl (fun h10 => ?_) (fun h10 => ?_) ?_
    · skip
      replace h11 := ite_T h10 h11
      refine AR.is 26 h10 rfl ?_
      replace h11 := (bind1_ret _).trans h11
      obtain ⟨x6, h12, h11⟩ := bind1_inv h11
      refine AR.go rfl rfl rfl rfl rfl rfl (AO.call rfl _ rfl rfl pf_9 (c_l09_awake  h12 ?_))
      cases h11
      refine AR.cs FX_ok 1 rfl ?_
      refine AR.nil [28] rfl ?_
      exact ⟨rfl, rfl, rfl, rfl⟩
    · skip
      replace h11 := ite_F h10 h11
      refine AR.is 26 h10 rfl ?_
      cases h11
      refine AR.cs FX_ok 2 rfl ?_
      refine AR.nil [28] rfl ?_
      exact ⟨rfl, rfl, rfl, rfl⟩
    refine AR.cs FX_ok 1 rfl ?_
    refine AR.nil [4] rfl ?_
    refine AW.ret ?_
    cases hf
    exact ⟨rfl, _, ⟨_, _, rfl, rfl, rfl⟩, [], List.nil_sublist _, h⟩

theorem c_l09_LexerBack (src1 : Str) {r0 : Bool} (hf : l09_LexerBack src1 = some r0) {τ : List Res} {Q : AOut → List Res → Prop} (h : Q (.ret (.bool r0)) τ) : AC Try.prog 5 [.str src1] τ Q := by
  unfold l09_LexerBack at hf
  refine AC.none ?_
  refine AC.of_body 52 [.tmp 2] [0] Try.func5 rfl rfl rfl rfl rfl ?_
  refine AW.seq ?_
  refine AW.region ?_
  refine AR.cs FX_ok 1 rfl ?_
  refine AR.nil [0] rfl ?_
  refine AW.seq ?_
  refine AW.region ?_
  refine AR.cs FX_ok 1 rfl ?_
  obtain ⟨l1, x1, e1, h1, hf⟩ := bind3_inv hf
  refine AR.step rfl rfl rfl (AO.call rfl _ rfl rfl pf_10 (c_lexer_Tokens _ h1 ?_))
  refine AR.cs FX_ok 7 rfl ?_
  refine AR.nil [3, 5] rfl ?_
  refine AW.seq ?_
  refine AW.seq ?_
  refine AW.region ?_
  refine AR.cs FX_ok 2 rfl ?_
  refine AR.nil [3, 17] rfl ?_
  refine AW.cond rfl (fun h2 => ?_) (fun h2 => ?_)
  · replace hf := ite_T h2 hf
    refine AW.seq ?_
    refine AW.region ?_
    refine AR.cs FX_ok 1 rfl ?_
    refine AR.step rfl rfl rfl (AO.len_list (l := l1) rfl rfl rfl rfl es_23 rfl rfl ?_)
    refine AR.cs FX_ok 2 rfl ?_
    replace hf := (bind1_ret _).trans hf
    obtain ⟨b1, h4, hf⟩ := bind1_inv hf
    refine AR.join1 2 21 23 true [] b1 rfl rfl (fun h3 => ?_) (fun h3 => ?_) ?_
    · skip
      replace h4 := ite_T h3 h4
      refine AR.is 21 h3 rfl ?_
      replace h4 := (bind1_ret _).trans h4
      obtain ⟨x2, h5, h4⟩ := bind1_inv h4
      refine AR.go rfl rfl rfl rfl rfl rfl (AO.call rfl _ rfl rfl pf_9 (c_l09_awake  h5 ?_))
      cases h4
      refine AR.cs FX_ok 1 rfl ?_
      refine AR.nil [23] rfl ?_
      exact ⟨rfl, rfl, rfl, rfl⟩
    · skip
      replace h4 := ite_F h3 h4
      refine AR.is 21 h3 rfl ?_
      cases h4
      refine AR.cs FX_ok 2 rfl ?_
      refine AR.nil [23] rfl ?_
      exact ⟨rfl, rfl, rfl, rfl⟩
    refine AR.cs FX_ok 1 rfl ?_
    refine AR.nil [2] rfl ?_
    refine AW.ret ?_
    cases hf
    exact ⟨rfl, _, ⟨_, _, rfl, rfl, rfl⟩, [], List.nil_sublist _, h⟩
  · replace hf := ite_F h2 hf
    refine AW.skip ?_
    refine AW.seq ?_
    refine AW.region ?_
    refine AR.cs FX_ok 1 rfl ?_
    obtain ⟨s1, h6, hf⟩ := bind1_inv hf
    refine AR.step rfl rfl rfl (AO.call rfl _ rfl rfl pf_13 (c_lexer_Join _ h6 ?_))
    refine AR.cs FX_ok 1 rfl ?_
    refine AR.nil [3, 6] rfl ?_
    refine AW.seq ?_
    refine AW.seq ?_
    refine AW.region ?_
    refine AR.cs FX_ok 1 rfl ?_
    refine AR.step rfl rfl rfl (AO.len_str rfl rfl rfl rfl un_9 rfl ?_)
    refine AR.cs FX_ok 1 rfl ?_
    refine AR.nil [3, 6, 28] rfl ?_
    refine AW.cond rfl (fun h7 => ?_) (fun h7 => ?_)
    · replace hf := ite_T h7 hf
      refine AW.seq ?_
      refine AW.region ?_
      replace hf := (bind1_ret _).trans hf
      obtain ⟨x3, h8, hf⟩ := bind1_inv hf
      refine AR.step rfl rfl rfl (AO.call rfl _ rfl rfl pf_9 (c_l09_awake  h8 ?_))
      refine AR.cs FX_ok 1 rfl ?_
      refine AR.nil [2] rfl ?_
      refine AW.ret ?_
      cases hf
      exact ⟨rfl, _, ⟨_, _, rfl, rfl, rfl⟩, [], List.nil_sublist _, h⟩
    · replace hf := ite_F h7 hf
      refine AW.skip ?_
      refine AW.seq ?_
      refine AW.region ?_
      refine AR.cs FX_ok 1 rfl ?_
      obtain ⟨m1, x4, f1, h9, hf⟩ := bind3_inv hf
      refine AR.step rfl rfl rfl (AO.call rfl _ rfl rfl pf_10 (c_lexer_Tokens _ h9 ?_))
      refine AR.cs FX_ok 7 rfl ?_
      refine AR.nil [3, 6, 7, 9] rfl ?_
      refine AW.seq ?_
      refine AW.region ?_
      refine AR.cs FX_ok 3 rfl ?_
      obtain ⟨b2, h11, hf⟩ := bind1_inv hf
      refine AR.join1 4 38 42 true [6, 7] b2 rfl rfl (fun h10 => ?_) (fun h10 => ?_) ?_
      · skip
        replace h11 := ite_T h10 h11
        refine AR.is 38 h10 rfl ?_
        refine AR.cs FX_ok 2 rfl ?_
        replace h11 := (bind1_ret _).trans h11
        obtain ⟨x5, h12, h11⟩ := bind1_inv h11
        refine AR.go rfl rfl rfl rfl rfl rfl (AO.call rfl _ rfl rfl pf_12 (c_r09_Same _ _ _ h12 ?_))
        cases h11
        refine AR.cs FX_ok 1 rfl ?_
        refine AR.nil [42, 6, 7] rfl ?_
        exact ⟨rfl, rfl, rfl, rfl⟩
      · skip
        replace h11 := ite_F h10 h11
        refine AR.is 38 h10 rfl ?_
        cases h11
        refine AR.cs FX_ok 4 rfl ?_
        refine AR.nil [42, 6, 7] rfl ?_
        exact ⟨rfl, rfl, rfl, rfl⟩
      refine AR.cs FX_ok 1 rfl ?_
      obtain ⟨b3, h14, hf⟩ := bind1_inv hf
      refine AR.join1 5 43 48 true [] b3 rfl rfl (fun h13 => ?_) (fun h13 => ?_) ?_
      · skip
        replace h14 := ite_T h13 h14
        refine AR.is 43 h13 rfl ?_
        refine AR.cs FX_ok 1 rfl ?_
        obtain ⟨x6, h15, h14⟩ := bind1_inv h14
        refine AR.go rfl rfl rfl rfl rfl rfl (AO.call rfl _ rfl rfl pf_13 (c_lexer_Join _ h15 ?_))
        refine AR.cs FX_ok 2 rfl ?_
        cases h14
        refine AR.cs FX_ok 1 rfl ?_
        refine AR.nil [48] rfl ?_
        exact ⟨rfl, rfl, rfl, rfl⟩
      · skip
        replace h14 := ite_F h13 h14
        refine AR.is 43 h13 rfl ?_
        cases h14
        refine AR.cs FX_ok 5 rfl ?_
        refine AR.nil [48] rfl ?_
        exact ⟨rfl, rfl, rfl, rfl⟩
      refine AR.cs FX_ok 1 rfl ?_
      replace hf := (bind1_ret _).trans hf
      obtain ⟨b4, h17, hf⟩ := bind1_inv hf
      refine AR.join1 2 49 51 true [] b4 rfl rfl (fun h16 => ?_) (fun h16 => ?_) ?_
      · skip
        replace h17 := ite_T h16 h17
        refine AR.is 49 h16 rfl ?_
        replace h17 := (bind1_ret _).trans h17
        obtain ⟨x7, h18, h17⟩ := bind1_inv h17
        refine AR.go rfl rfl rfl rfl rfl rfl (AO.call rfl _ rfl rfl pf_9 (c_l09_awake  h18 ?_))
        cases h17
        refine AR.cs FX_ok 1 rfl ?_
        refine AR.nil [51] rfl ?_
        exact ⟨rfl, rfl, rfl, rfl⟩
      · skip
        replace h17 := ite_F h16 h17
        refine AR.is 49 h16 rfl ?_
        cases h17
        refine AR.cs FX_ok 2 rfl ?_
        refine AR.nil [51] rfl ?_
        exact ⟨rfl, rfl, rfl, rfl⟩
      refine AR.cs FX_ok 1 rfl ?_
      refine AR.nil [2] rfl ?_
      refine AW.ret ?_
      cases hf
      exact ⟨rfl, _, ⟨_, _, rfl, rfl, rfl⟩, [], List.nil_sublist _, h⟩


end Go.Proofs.Ytfiahdjachcaiaa
