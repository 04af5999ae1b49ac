/- Proved here: the digest of a label and other digests is the document's (at most 300 bytes and 100 digests) (the statement DigestPartsSaid). Conditions: none. The walks were written by a program of ours. -/
import Derived.Test.YtofjjgdocojplaaRows
import Derived.Test.YtofjjgdocojplaaAbs3
import Derived.Test.YtofjjgdocojplaaPlain
import Derived.WalkKit
import Derived.ProofKit
import Derived.OpenShut
set_option linter.unusedVariables false
set_option linter.unusedSimpArgs false
namespace Go.Proofs.Ytofjjgdocojplaa
open Go Go.Abs Dig
theorem ai_49 : arrInfo Try.prog 49 = some (16, 1) := by kernel_rfl
theorem es_35 : elemSize Try.prog 35 = some 1 := by kernel_rfl
theorem es_41 : elemSize Try.prog 41 = some 1 := by kernel_rfl
theorem pf_10 : plainFn Try.prog 10 = true := by kernel_rfl
theorem pf_11 : plainFn Try.prog 11 = true := by kernel_rfl
theorem pf_12 : plainFn Try.prog 12 = true := by kernel_rfl
theorem pf_13 : plainFn Try.prog 13 = true := by kernel_rfl
theorem pf_14 : plainFn Try.prog 14 = true := by kernel_rfl
theorem pf_17 : plainFn Try.prog 17 = true := by kernel_rfl
theorem pf_19 : plainFn Try.prog 19 = true := by kernel_rfl
theorem pf_20 : plainFn Try.prog 20 = true := by kernel_rfl
theorem pf_21 : plainFn Try.prog 21 = true := by kernel_rfl
theorem pf_22 : plainFn Try.prog 22 = true := by kernel_rfl
theorem pf_23 : plainFn Try.prog 23 = true := by kernel_rfl
theorem pf_24 : plainFn Try.prog 24 = true := by kernel_rfl
theorem pf_26 : plainFn Try.prog 26 = true := by kernel_rfl
theorem sf_35 : SliceFact Try.prog 35 5 1 1 := sliceFact (by kernel_rfl)
theorem ti_27 : tyInfo Try.prog 27 = some (false, 1) := by kernel_rfl
theorem ti_5 : tyInfo Try.prog 5 = some (false, 1) := by kernel_rfl
theorem un_22 : Try.prog.underlying 22 = some (.int .u64) := by kernel_rfl
theorem un_27 : Try.prog.underlying 27 = some (.int .u64) := by kernel_rfl
theorem un_3 : Try.prog.underlying 3 = some (.int .i64) := by kernel_rfl
theorem un_35 : Try.prog.underlying 35 = some (.slice 5) := by kernel_rfl
theorem un_45 : Try.prog.underlying 45 = some (.int .u32) := by kernel_rfl
theorem un_5 : Try.prog.underlying 5 = some (.int .u8) := by kernel_rfl
theorem un_9 : Try.prog.underlying 9 = some (.string) := by kernel_rfl
theorem zp_49 : zeroPV Try.prog 49 = some [.int .u8 0, .int .u8 0, .int .u8 0, .int .u8 0, .int .u8 0, .int .u8 0, .int .u8 0, .int .u8 0, .int .u8 0, .int .u8 0, .int .u8 0, .int .u8 0, .int .u8 0, .int .u8 0, .int .u8 0, .int .u8 0] := by kernel_rfl

theorem c_round (r k i : BitVec 32) (r' k' i' : Int) {τ : List Res} {R : AOut → List Res → Prop} (hr : r' = (r.toNat : Int)) (hk : k' = (k.toNat : Int)) (hi : i' = (i.toNat : Int)) (h : R (.ret (.int .u32 ((rndB r k i).toNat : Int))) τ) : AC Try.prog 23 [.int .u32 r', .int .u32 k', .int .u32 i'] τ R := by
  subst hr hk hi
  refine AC.none ?_
  refine AC.of_body 18 [.tmp 6] [0, 1, 2] Try.func23 rfl rfl rfl rfl rfl ?_
  refine AW.seq ?_
  refine AW.region ?_
  refine AR.step rfl rfl rfl (AO.calc' rfl ?_)
  refine AR.nil [0, 1, 2] rfl ?_
  refine AW.seq ?_
  refine AW.region ?_
  refine AR.step rfl rfl rfl (AO.calc' rfl ?_)
  refine AR.step rfl rfl rfl (AO.calc' rfl ?_)
  refine AR.step rfl rfl rfl (AO.calc' rfl ?_)
  refine AR.step rfl rfl rfl (AO.calc' rfl ?_)
  refine AR.step rfl rfl rfl (AO.calc' rfl ?_)
  refine AR.step rfl rfl rfl (AO.calc' rfl ?_)
  refine AR.step rfl rfl rfl (AO.calc' rfl ?_)
  refine AR.nil [7] rfl ?_
  refine AW.seq ?_
  refine AW.region ?_
  refine AR.step rfl rfl rfl (AO.calc' rfl ?_)
  refine AR.step rfl rfl rfl (AO.calc' rfl ?_)
  refine AR.step rfl rfl rfl (AO.shrL (s := 16) rfl rfl rfl (by decide) rfl ?_)
  refine AR.step rfl rfl rfl (AO.calc' rfl ?_)
  refine AR.step rfl rfl rfl (AO.calc' rfl ?_)
  refine AR.nil [6] rfl ?_
  refine AW.ret ?_
  refine ⟨rfl, _, ⟨_, _, rfl, rfl, rfl⟩, [], List.nil_sublist _, ?_⟩
  refine ret_eq h ?_
  simp only [packPV, List.map, PV.weak, xor_u32, xor_u64, and_u32, and_u64, or_u32, or_u64, u32w, u64w, u8w, bits32, bits64, bits8, ofInt_add', ofInt_mul', ofInt_toNat, ofInt_toNat_w, ofInt_byteB, fdiv_shr]
  rfl

theorem c_Mix (key x : BitVec 64) (key' x' : Int) {τ : List Res} {R : AOut → List Res → Prop} (hk : key' = (key.toNat : Int)) (hx : x' = (x.toNat : Int)) (h : R (.ret (.int .u64 ((mixB key x).toNat : Int))) τ) : AC Try.prog 10 [.int .u64 key', .int .u64 x'] τ R := by
  subst hk hx
  refine AC.none ?_
  refine AC.of_body 41 [.tmp 4] [0, 1] Try.func10 rfl rfl rfl rfl rfl ?_
  refine AW.seq ?_
  refine AW.region ?_
  refine AR.step rfl rfl rfl (AO.calc' rfl ?_)
  refine AR.nil [0, 1] rfl ?_
  refine AW.seq ?_
  refine AW.region ?_
  refine AR.step rfl rfl rfl (AO.calc' rfl ?_)
  refine AR.step rfl rfl rfl (AO.shrL (s := 32) rfl rfl rfl (by decide) rfl ?_)
  refine AR.step rfl rfl rfl (AO.conv_int rfl un_22 un_45 rfl ?_)
  refine AR.step rfl rfl rfl (AO.calc' rfl ?_)
  refine AR.step rfl rfl rfl (AO.conv_int rfl un_22 un_45 rfl ?_)
  refine AR.step rfl rfl rfl (AO.calc' rfl ?_)
  refine AR.step rfl rfl rfl (AO.calc' rfl ?_)
  refine AR.nil [0, 5, 6] rfl ?_
  refine AW.seq ?_
  refine AW.seq ?_
  refine AW.region ?_
  refine AR.step rfl rfl rfl (AO.calc' rfl ?_)
  refine AR.nil [0, 5, 6, 14] rfl ?_
  refine AW.block ?_
  refine AW.settle [0, 5, 6, 14] rfl ?_
  refine AW.loop (α := Nat) (fun i => [(0, .int .u64 (key.toNat : Int)), (5, .int .u32 ((mixSt key x i).1.toNat : Int)), (6, .int .u32 ((mixSt key x i).2.toNat : Int)), (14, .int .i64 (i : Int))]) (fun i => []) (fun i => i ≤ 4) (fun i => 4 - i) 0 (by simp only [xor_u32, xor_u64, and_u32, and_u64, or_u32, or_u64, u32w, u64w, u8w, bits32, bits64, bits8, ofInt_add', ofInt_mul', ofInt_toNat, ofInt_toNat_w, ofInt_byteB, fdiv_shr]; rfl) rfl ?_ ?_
  · first | trivial | omega | simp
  · intro q hI
    revert hI; revert q; intro i hI
    refine AW.seq ?_
    refine AW.region ?_
    refine AR.step rfl rfl rfl (AO.calc' rfl ?_)
    refine AR.nil [0, 5, 6, 14, 15] rfl ?_
    refine AW.seq ?_
    refine AW.cond rfl (fun h1 => ?_) (fun h1 => ?_)
    · try simp only [Bool.and_eq_true, Bool.or_eq_true, Bool.and_eq_false_iff, Bool.or_eq_false_iff, decide_eq_true_eq, decide_eq_false_iff_not, beq_iff_eq, bne_iff_ne, ne_eq, beq_eq_false_iff_ne, bne_eq_false_iff_eq, Bool.not_eq_true', Bool.not_eq_false', Bool.not_not, Bool.not_true, Bool.not_false, List.length_map, List.length_append, List.length_cons, List.length_nil] at h1
      refine AW.skip ?_
      refine AW.seq ?_
      refine AW.block ?_
      refine AW.seq ?_
      refine AW.region ?_
      refine AR.step rfl rfl rfl (AO.calc' rfl ?_)
      refine AR.step rfl rfl rfl (AO.calc' rfl ?_)
      refine AR.nil [0, 5, 6, 7, 14] rfl ?_
      refine AW.seq ?_
      refine AW.region ?_
      refine AR.step rfl rfl rfl (AO.calc' rfl ?_)
      refine AR.step rfl rfl rfl (AO.conv_int rfl un_22 un_45 rfl ?_)
      refine AR.step rfl rfl rfl (AO.calc' rfl ?_)
      refine AR.nil [0, 5, 6, 7, 8, 14] rfl ?_
      refine AW.seq ?_
      refine AW.seq ?_
      refine AW.region ?_
      refine AR.step rfl rfl rfl (AO.calc' rfl ?_)
      first
        | refine AR.step rfl rfl rfl (AO.rem_nn rfl rfl rfl (by decide) (by first | omega | (simp only [List.length_map, List.length_append, List.length_cons, List.length_nil] at *; omega)) ?_)
        | refine AR.step rfl rfl rfl (AO.rem rfl rfl rfl (by decide) ?_)
      refine AR.step rfl rfl rfl (AO.calc' rfl ?_)
      refine AR.nil [0, 5, 6, 7, 8, 14, 21] rfl ?_
      refine AW.cond rfl (fun h2 => ?_) (fun h2 => ?_)
      · try simp only [Bool.and_eq_true, Bool.or_eq_true, Bool.and_eq_false_iff, Bool.or_eq_false_iff, decide_eq_true_eq, decide_eq_false_iff_not, beq_iff_eq, bne_iff_ne, ne_eq, beq_eq_false_iff_ne, bne_eq_false_iff_eq, Bool.not_eq_true', Bool.not_eq_false', Bool.not_not, Bool.not_true, Bool.not_false, List.length_map, List.length_append, List.length_cons, List.length_nil] at h2
        refine AW.region ?_
        refine AR.step rfl rfl rfl (AO.calc' rfl ?_)
        refine AR.step rfl rfl rfl (AO.shrL (s := 32) rfl rfl rfl (by decide) rfl ?_)
        refine AR.step rfl rfl rfl (AO.conv_int rfl un_22 un_45 rfl ?_)
        refine AR.step rfl rfl rfl (AO.calc' rfl ?_)
        refine AR.nil [0, 5, 6, 7, 8, 14] rfl ?_
        refine AW.region ?_
        refine AR.step rfl rfl rfl (AO.calc' rfl ?_)
        refine AR.step rfl rfl rfl (AO.calc' rfl ?_)
        refine AR.step rfl rfl rfl (AO.calc' rfl ?_)
        refine AR.step rfl rfl rfl (AO.calc' rfl ?_)
        refine AR.step rfl rfl rfl (AO.calc' rfl ?_)
        first
          | refine AR.step rfl rfl rfl (AO.add_nw rfl rfl rfl (wrap_i64 (by first | omega | (simp only [List.length_map, List.length_append, List.length_cons, List.length_nil] at *; omega)) (by first | omega | (simp only [List.length_map, List.length_append, List.length_cons, List.length_nil] at *; omega))) ?_)
          | refine AR.step rfl rfl rfl (AO.calc' rfl ?_)
        refine AR.step rfl rfl rfl (AO.conv_int rfl un_3 un_45 rfl ?_)
        refine AR.step rfl rfl rfl (AO.call rfl _ rfl rfl pf_23 (c_round (mixSt key x i).2 (keyB key i) (BitVec.ofNat 32 (i + 1)) _ _ _ rfl (by first | (rw [keyB_odd (by omega)]; simp only [xor_u32, xor_u64, and_u32, and_u64, or_u32, or_u64, u32w, u64w, u8w, bits32, bits64, bits8, ofInt_add', ofInt_mul', ofInt_toNat, ofInt_toNat_w, ofInt_byteB, fdiv_shr]; done) | (rw [keyB_even (by omega)]; simp only [xor_u32, xor_u64, and_u32, and_u64, or_u32, or_u64, u32w, u64w, u8w, bits32, bits64, bits8, ofInt_add', ofInt_mul', ofInt_toNat, ofInt_toNat_w, ofInt_byteB, fdiv_shr]; done)) (by simp only [u32w]; rfl) ?_))
        refine AR.step rfl rfl rfl (AO.calc' rfl ?_)
        refine AR.step rfl rfl rfl (AO.calc' rfl ?_)
        refine AR.step rfl rfl rfl (AO.calc' rfl ?_)
        refine AR.nil [0, 5, 6, 14] rfl ?_
        refine AW.region ?_
        first
          | refine AR.step rfl rfl rfl (AO.add_nw rfl rfl rfl (wrap_i64 (by first | omega | (simp only [List.length_map, List.length_append, List.length_cons, List.length_nil] at *; omega)) (by first | omega | (simp only [List.length_map, List.length_append, List.length_cons, List.length_nil] at *; omega))) ?_)
          | refine AR.step rfl rfl rfl (AO.calc' rfl ?_)
        refine AR.step rfl rfl rfl (AO.calc' rfl ?_)
        refine AR.nil [0, 5, 6, 14] rfl ?_
        refine ⟨i + 1, ?_, rfl, rfl, ?_, ?_⟩
        · simp only [xor_u32, xor_u64, and_u32, and_u64, or_u32, or_u64, u32w, u64w, u8w, bits32, bits64, bits8, ofInt_add', ofInt_mul', ofInt_toNat, ofInt_toNat_w, ofInt_byteB, fdiv_shr, mixSt]; rfl
        · first | trivial | omega | simp
        · first | omega | (simp; omega)
      · try simp only [Bool.and_eq_true, Bool.or_eq_true, Bool.and_eq_false_iff, Bool.or_eq_false_iff, decide_eq_true_eq, decide_eq_false_iff_not, beq_iff_eq, bne_iff_ne, ne_eq, beq_eq_false_iff_ne, bne_eq_false_iff_eq, Bool.not_eq_true', Bool.not_eq_false', Bool.not_not, Bool.not_true, Bool.not_false, List.length_map, List.length_append, List.length_cons, List.length_nil] at h2
        refine AW.skip ?_
        refine AW.region ?_
        refine AR.step rfl rfl rfl (AO.calc' rfl ?_)
        refine AR.step rfl rfl rfl (AO.calc' rfl ?_)
        refine AR.step rfl rfl rfl (AO.calc' rfl ?_)
        refine AR.step rfl rfl rfl (AO.calc' rfl ?_)
        refine AR.step rfl rfl rfl (AO.calc' rfl ?_)
        first
          | refine AR.step rfl rfl rfl (AO.add_nw rfl rfl rfl (wrap_i64 (by first | omega | (simp only [List.length_map, List.length_append, List.length_cons, List.length_nil] at *; omega)) (by first | omega | (simp only [List.length_map, List.length_append, List.length_cons, List.length_nil] at *; omega))) ?_)
          | refine AR.step rfl rfl rfl (AO.calc' rfl ?_)
        refine AR.step rfl rfl rfl (AO.conv_int rfl un_3 un_45 rfl ?_)
        refine AR.step rfl rfl rfl (AO.call rfl _ rfl rfl pf_23 (c_round (mixSt key x i).2 (keyB key i) (BitVec.ofNat 32 (i + 1)) _ _ _ rfl (by first | (rw [keyB_odd (by omega)]; simp only [xor_u32, xor_u64, and_u32, and_u64, or_u32, or_u64, u32w, u64w, u8w, bits32, bits64, bits8, ofInt_add', ofInt_mul', ofInt_toNat, ofInt_toNat_w, ofInt_byteB, fdiv_shr]; done) | (rw [keyB_even (by omega)]; simp only [xor_u32, xor_u64, and_u32, and_u64, or_u32, or_u64, u32w, u64w, u8w, bits32, bits64, bits8, ofInt_add', ofInt_mul', ofInt_toNat, ofInt_toNat_w, ofInt_byteB, fdiv_shr]; done)) (by simp only [u32w]; rfl) ?_))
        refine AR.step rfl rfl rfl (AO.calc' rfl ?_)
        refine AR.step rfl rfl rfl (AO.calc' rfl ?_)
        refine AR.step rfl rfl rfl (AO.calc' rfl ?_)
        refine AR.nil [0, 5, 6, 14] rfl ?_
        refine AW.region ?_
        first
          | refine AR.step rfl rfl rfl (AO.add_nw rfl rfl rfl (wrap_i64 (by first | omega | (simp only [List.length_map, List.length_append, List.length_cons, List.length_nil] at *; omega)) (by first | omega | (simp only [List.length_map, List.length_append, List.length_cons, List.length_nil] at *; omega))) ?_)
          | refine AR.step rfl rfl rfl (AO.calc' rfl ?_)
        refine AR.step rfl rfl rfl (AO.calc' rfl ?_)
        refine AR.nil [0, 5, 6, 14] rfl ?_
        refine ⟨i + 1, ?_, rfl, rfl, ?_, ?_⟩
        · simp only [xor_u32, xor_u64, and_u32, and_u64, or_u32, or_u64, u32w, u64w, u8w, bits32, bits64, bits8, ofInt_add', ofInt_mul', ofInt_toNat, ofInt_toNat_w, ofInt_byteB, fdiv_shr, mixSt]; rfl
        · first | trivial | omega | simp
        · first | omega | (simp; omega)
    · try simp only [Bool.and_eq_true, Bool.or_eq_true, Bool.and_eq_false_iff, Bool.or_eq_false_iff, decide_eq_true_eq, decide_eq_false_iff_not, beq_iff_eq, bne_iff_ne, ne_eq, beq_eq_false_iff_ne, bne_eq_false_iff_eq, Bool.not_eq_true', Bool.not_eq_false', Bool.not_not, Bool.not_true, Bool.not_false, List.length_map, List.length_append, List.length_cons, List.length_nil] at h1
      refine AW.exit ?_
      refine AW.seq ?_
      refine AW.region ?_
      refine AR.step rfl rfl rfl (AO.calc' rfl ?_)
      refine AR.step rfl rfl rfl (AO.conv_int rfl un_45 un_22 rfl ?_)
      refine AR.step rfl rfl rfl (AO.shlL (s := 32) rfl rfl rfl (by decide) rfl ?_)
      refine AR.step rfl rfl rfl (AO.calc' rfl ?_)
      refine AR.step rfl rfl rfl (AO.conv_int rfl un_45 un_22 rfl ?_)
      refine AR.step rfl rfl rfl (AO.calc' rfl ?_)
      refine AR.step rfl rfl rfl (AO.calc' rfl ?_)
      refine AR.nil [4] rfl ?_
      refine AW.ret ?_
      refine ⟨rfl, _, ⟨_, _, rfl, rfl, rfl⟩, [], List.nil_sublist _, ?_⟩
      refine ret_eq h ?_
      obtain rfl : i = 4 := by omega
      simp only [packPV, List.map, PV.weak, u64w, ofInt_shl]
      simp only [xor_u32, xor_u64, and_u32, and_u64, or_u32, or_u64, u32w, u64w, u8w, bits32, bits64, bits8, ofInt_add', ofInt_mul', ofInt_toNat, ofInt_toNat_w, ofInt_byteB, fdiv_shr]
      rfl

theorem c_RRound (r k i : BitVec 32) (r' k' i' : Int) {τ : List Res} {R : AOut → List Res → Prop} (hr : r' = (r.toNat : Int)) (hk : k' = (k.toNat : Int)) (hi : i' = (i.toNat : Int)) (h : R (.ret (.int .u64 ((rndB r k i).toNat : Int))) τ) : AC Try.prog 24 [.int .u64 r', .int .u64 k', .int .u64 i'] τ R := by
  subst hr hk hi
  refine AC.none ?_
  refine AC.of_body 19 [.tmp 6] [0, 1, 2] Try.func24 rfl rfl rfl rfl rfl ?_
  refine AW.seq ?_
  refine AW.region ?_
  refine AR.step rfl rfl rfl (AO.calc' rfl ?_)
  refine AR.nil [0, 1, 2] rfl ?_
  refine AW.seq ?_
  refine AW.region ?_
  refine AR.step rfl rfl rfl (AO.calc' rfl ?_)
  refine AR.step rfl rfl rfl (AO.calc' rfl ?_)
  refine AR.step rfl rfl rfl (AO.calc' rfl ?_)
  refine AR.step rfl rfl rfl (AO.calc' rfl ?_)
  refine AR.step rfl rfl rfl (AO.calc' rfl ?_)
  refine AR.step rfl rfl rfl (AO.calc' rfl ?_)
  first
    | refine AR.step rfl rfl rfl (AO.rem_nn rfl rfl rfl (by decide) (by first | omega | (simp only [List.length_map, List.length_append, List.length_cons, List.length_nil] at *; omega)) ?_)
    | refine AR.step rfl rfl rfl (AO.rem rfl rfl rfl (by decide) ?_)
  refine AR.step rfl rfl rfl (AO.calc' rfl ?_)
  refine AR.nil [7] rfl ?_
  refine AW.seq ?_
  refine AW.region ?_
  refine AR.step rfl rfl rfl (AO.calc' rfl ?_)
  refine AR.step rfl rfl rfl (AO.calc' rfl ?_)
  first
    | refine AR.step rfl rfl rfl (AO.quo_nn rfl rfl rfl (by decide) (by first | omega | (simp only [List.length_map, List.length_append, List.length_cons, List.length_nil] at *; omega)) (wrap_u64 (by first | omega | (simp only [List.length_map, List.length_append, List.length_cons, List.length_nil] at *; omega)) (by first | omega | (simp only [List.length_map, List.length_append, List.length_cons, List.length_nil] at *; omega))) ?_)
    | refine AR.step rfl rfl rfl (AO.quo rfl rfl rfl (by decide) ?_)
  refine AR.step rfl rfl rfl (AO.calc' rfl ?_)
  refine AR.step rfl rfl rfl (AO.calc' rfl ?_)
  refine AR.nil [6] rfl ?_
  refine AW.ret ?_
  refine ⟨rfl, _, ⟨_, _, rfl, rfl, rfl⟩, [], List.nil_sublist _, ?_⟩
  refine ret_eq h ?_
  simp only [packPV, List.map, PV.weak, xor_u32, xor_u64, and_u32, and_u64, or_u32, or_u64, u32w, u64w, u8w, bits32, bits64, bits8, ofInt_add', ofInt_mul', ofInt_toNat, ofInt_toNat_w, ofInt_byteB, fdiv_shr]
  exact (congrArg (fun n : Nat => PV.int .u64 (n : Int)) (rr_eq r k i)).symm

theorem c_RMix (key x : BitVec 64) (key' x' : Int) {τ : List Res} {R : AOut → List Res → Prop} (hk : key' = (key.toNat : Int)) (hx : x' = (x.toNat : Int)) (h : R (.ret (.int .u64 ((mixB key x).toNat : Int))) τ) : AC Try.prog 11 [.int .u64 key', .int .u64 x'] τ R := by
  subst hk hx
  refine AC.none ?_
  refine AC.of_body 37 [.tmp 4] [0, 1] Try.func11 rfl rfl rfl rfl rfl ?_
  refine AW.seq ?_
  refine AW.region ?_
  refine AR.step rfl rfl rfl (AO.calc' rfl ?_)
  refine AR.nil [0, 1] rfl ?_
  refine AW.seq ?_
  refine AW.region ?_
  refine AR.step rfl rfl rfl (AO.calc' rfl ?_)
  first
    | refine AR.step rfl rfl rfl (AO.quo_nn rfl rfl rfl (by decide) (by first | omega | (simp only [List.length_map, List.length_append, List.length_cons, List.length_nil] at *; omega)) (wrap_u64 (by first | omega | (simp only [List.length_map, List.length_append, List.length_cons, List.length_nil] at *; omega)) (by first | omega | (simp only [List.length_map, List.length_append, List.length_cons, List.length_nil] at *; omega))) ?_)
    | refine AR.step rfl rfl rfl (AO.quo rfl rfl rfl (by decide) ?_)
  refine AR.step rfl rfl rfl (AO.calc' rfl ?_)
  first
    | refine AR.step rfl rfl rfl (AO.rem_nn rfl rfl rfl (by decide) (by first | omega | (simp only [List.length_map, List.length_append, List.length_cons, List.length_nil] at *; omega)) ?_)
    | refine AR.step rfl rfl rfl (AO.rem rfl rfl rfl (by decide) ?_)
  refine AR.step rfl rfl rfl (AO.calc' rfl ?_)
  refine AR.step rfl rfl rfl (AO.calc' rfl ?_)
  refine AR.nil [0, 5, 6] rfl ?_
  refine AW.seq ?_
  refine AW.seq ?_
  refine AW.region ?_
  refine AR.step rfl rfl rfl (AO.calc' rfl ?_)
  refine AR.nil [0, 5, 6, 7] rfl ?_
  refine AW.block ?_
  refine AW.settle [0, 5, 6, 7] rfl ?_
  refine AW.loop (α := Nat) (fun i => [(0, .int .u64 (key.toNat : Int)), (5, .int .u64 ((mixSt key x i).1.toNat : Int)), (6, .int .u64 ((mixSt key x i).2.toNat : Int)), (7, .int .u64 ((i + 1 : Nat) : Int))]) (fun i => []) (fun i => i ≤ 4) (fun i => 4 - i) 0 (by rw [hi_nat]; rfl) rfl ?_ ?_
  · first | trivial | omega | simp
  · intro q hI
    revert hI; revert q; intro i hI
    refine AW.seq ?_
    refine AW.seq ?_
    refine AW.region ?_
    refine AR.step rfl rfl rfl (AO.calc' rfl ?_)
    refine AR.step rfl rfl rfl (AO.calc' rfl ?_)
    refine AR.nil [0, 5, 6, 7, 15] rfl ?_
    refine AW.cond rfl (fun h1 => ?_) (fun h1 => ?_)
    · try simp only [Bool.and_eq_true, Bool.or_eq_true, Bool.and_eq_false_iff, Bool.or_eq_false_iff, decide_eq_true_eq, decide_eq_false_iff_not, beq_iff_eq, bne_iff_ne, ne_eq, beq_eq_false_iff_ne, bne_eq_false_iff_eq, Bool.not_eq_true', Bool.not_eq_false', Bool.not_not, Bool.not_true, Bool.not_false, List.length_map, List.length_append, List.length_cons, List.length_nil] at h1
      refine AW.skip ?_
      refine AW.seq ?_
      refine AW.block ?_
      refine AW.seq ?_
      refine AW.region ?_
      refine AR.step rfl rfl rfl (AO.calc' rfl ?_)
      first
        | refine AR.step rfl rfl rfl (AO.rem_nn rfl rfl rfl (by decide) (by first | omega | (simp only [List.length_map, List.length_append, List.length_cons, List.length_nil] at *; omega)) ?_)
        | refine AR.step rfl rfl rfl (AO.rem rfl rfl rfl (by decide) ?_)
      refine AR.step rfl rfl rfl (AO.calc' rfl ?_)
      refine AR.nil [0, 5, 6, 7, 8] rfl ?_
      refine AW.seq ?_
      refine AW.seq ?_
      refine AW.region ?_
      refine AR.step rfl rfl rfl (AO.calc' rfl ?_)
      first
        | refine AR.step rfl rfl rfl (AO.rem_nn rfl rfl rfl (by decide) (by first | omega | (simp only [List.length_map, List.length_append, List.length_cons, List.length_nil] at *; omega)) ?_)
        | refine AR.step rfl rfl rfl (AO.rem rfl rfl rfl (by decide) ?_)
      refine AR.step rfl rfl rfl (AO.calc' rfl ?_)
      refine AR.nil [0, 5, 6, 7, 8, 22] rfl ?_
      refine AW.cond rfl (fun h2 => ?_) (fun h2 => ?_)
      · try simp only [Bool.and_eq_true, Bool.or_eq_true, Bool.and_eq_false_iff, Bool.or_eq_false_iff, decide_eq_true_eq, decide_eq_false_iff_not, beq_iff_eq, bne_iff_ne, ne_eq, beq_eq_false_iff_ne, bne_eq_false_iff_eq, Bool.not_eq_true', Bool.not_eq_false', Bool.not_not, Bool.not_true, Bool.not_false, List.length_map, List.length_append, List.length_cons, List.length_nil] at h2
        refine AW.region ?_
        refine AR.step rfl rfl rfl (AO.calc' rfl ?_)
        first
          | refine AR.step rfl rfl rfl (AO.quo_nn rfl rfl rfl (by decide) (by first | omega | (simp only [List.length_map, List.length_append, List.length_cons, List.length_nil] at *; omega)) (wrap_u64 (by first | omega | (simp only [List.length_map, List.length_append, List.length_cons, List.length_nil] at *; omega)) (by first | omega | (simp only [List.length_map, List.length_append, List.length_cons, List.length_nil] at *; omega))) ?_)
          | refine AR.step rfl rfl rfl (AO.quo rfl rfl rfl (by decide) ?_)
        refine AR.step rfl rfl rfl (AO.calc' rfl ?_)
        refine AR.nil [0, 5, 6, 7, 8] rfl ?_
        refine AW.seq ?_
        refine AW.region ?_
        refine AR.step rfl rfl rfl (AO.calc' rfl ?_)
        refine AR.step rfl rfl rfl (AO.calc' rfl ?_)
        refine AR.step rfl rfl rfl (AO.calc' rfl ?_)
        refine AR.step rfl rfl rfl (AO.calc' rfl ?_)
        refine AR.step rfl rfl rfl (AO.call rfl _ rfl rfl pf_24 (c_RRound (mixSt key x i).2 (keyB key i) (BitVec.ofNat 32 (i + 1)) _ _ _ rfl (by first | (rw [keyB_odd (by omega)]; exact hi_nat key) | (rw [keyB_even (by omega)]; exact lo_nat key)) (by simp; omega) ?_))
        refine AR.step rfl rfl rfl (AO.calc' rfl ?_)
        refine AR.step rfl rfl rfl (AO.calc' rfl ?_)
        refine AR.nil [0, 6, 7, 9] rfl ?_
        refine AW.seq ?_
        refine AW.region ?_
        refine AR.step rfl rfl rfl (AO.calc' rfl ?_)
        refine AR.step rfl rfl rfl (AO.calc' rfl ?_)
        refine AR.nil [0, 5, 7, 9] rfl ?_
        refine AW.region ?_
        refine AR.step rfl rfl rfl (AO.calc' rfl ?_)
        refine AR.step rfl rfl rfl (AO.calc' rfl ?_)
        refine AR.nil [0, 5, 6, 7] rfl ?_
        refine AW.region ?_
        refine AR.step rfl rfl rfl (AO.calc' rfl ?_)
        first
          | refine AR.step rfl rfl rfl (AO.add_nw rfl rfl rfl (wrap_u64 (by first | omega | (simp only [List.length_map, List.length_append, List.length_cons, List.length_nil] at *; omega)) (by first | omega | (simp only [List.length_map, List.length_append, List.length_cons, List.length_nil] at *; omega))) ?_)
          | refine AR.step rfl rfl rfl (AO.calc' rfl ?_)
        refine AR.step rfl rfl rfl (AO.calc' rfl ?_)
        refine AR.nil [0, 5, 6, 7] rfl ?_
        refine ⟨i + 1, ?_, rfl, rfl, ?_, ?_⟩
        · simp only [xor_u32, xor_u64, and_u32, and_u64, or_u32, or_u64, u32w, u64w, u8w, bits32, bits64, bits8, ofInt_add', ofInt_mul', ofInt_toNat, ofInt_toNat_w, ofInt_byteB, fdiv_shr, mixSt, xor_sw, sw_toNat]; rfl
        · first | trivial | omega | simp
        · first | omega | (simp; omega)
      · try simp only [Bool.and_eq_true, Bool.or_eq_true, Bool.and_eq_false_iff, Bool.or_eq_false_iff, decide_eq_true_eq, decide_eq_false_iff_not, beq_iff_eq, bne_iff_ne, ne_eq, beq_eq_false_iff_ne, bne_eq_false_iff_eq, Bool.not_eq_true', Bool.not_eq_false', Bool.not_not, Bool.not_true, Bool.not_false, List.length_map, List.length_append, List.length_cons, List.length_nil] at h2
        refine AW.skip ?_
        refine AW.seq ?_
        refine AW.region ?_
        refine AR.step rfl rfl rfl (AO.calc' rfl ?_)
        refine AR.step rfl rfl rfl (AO.calc' rfl ?_)
        refine AR.step rfl rfl rfl (AO.calc' rfl ?_)
        refine AR.step rfl rfl rfl (AO.calc' rfl ?_)
        refine AR.step rfl rfl rfl (AO.call rfl _ rfl rfl pf_24 (c_RRound (mixSt key x i).2 (keyB key i) (BitVec.ofNat 32 (i + 1)) _ _ _ rfl (by first | (rw [keyB_odd (by omega)]; exact hi_nat key) | (rw [keyB_even (by omega)]; exact lo_nat key)) (by simp; omega) ?_))
        refine AR.step rfl rfl rfl (AO.calc' rfl ?_)
        refine AR.step rfl rfl rfl (AO.calc' rfl ?_)
        refine AR.nil [0, 6, 7, 9] rfl ?_
        refine AW.seq ?_
        refine AW.region ?_
        refine AR.step rfl rfl rfl (AO.calc' rfl ?_)
        refine AR.step rfl rfl rfl (AO.calc' rfl ?_)
        refine AR.nil [0, 5, 7, 9] rfl ?_
        refine AW.region ?_
        refine AR.step rfl rfl rfl (AO.calc' rfl ?_)
        refine AR.step rfl rfl rfl (AO.calc' rfl ?_)
        refine AR.nil [0, 5, 6, 7] rfl ?_
        refine AW.region ?_
        refine AR.step rfl rfl rfl (AO.calc' rfl ?_)
        first
          | refine AR.step rfl rfl rfl (AO.add_nw rfl rfl rfl (wrap_u64 (by first | omega | (simp only [List.length_map, List.length_append, List.length_cons, List.length_nil] at *; omega)) (by first | omega | (simp only [List.length_map, List.length_append, List.length_cons, List.length_nil] at *; omega))) ?_)
          | refine AR.step rfl rfl rfl (AO.calc' rfl ?_)
        refine AR.step rfl rfl rfl (AO.calc' rfl ?_)
        refine AR.nil [0, 5, 6, 7] rfl ?_
        refine ⟨i + 1, ?_, rfl, rfl, ?_, ?_⟩
        · simp only [xor_u32, xor_u64, and_u32, and_u64, or_u32, or_u64, u32w, u64w, u8w, bits32, bits64, bits8, ofInt_add', ofInt_mul', ofInt_toNat, ofInt_toNat_w, ofInt_byteB, fdiv_shr, mixSt, xor_sw, sw_toNat]; rfl
        · first | trivial | omega | simp
        · first | omega | (simp; omega)
    · try simp only [Bool.and_eq_true, Bool.or_eq_true, Bool.and_eq_false_iff, Bool.or_eq_false_iff, decide_eq_true_eq, decide_eq_false_iff_not, beq_iff_eq, bne_iff_ne, ne_eq, beq_eq_false_iff_ne, bne_eq_false_iff_eq, Bool.not_eq_true', Bool.not_eq_false', Bool.not_not, Bool.not_true, Bool.not_false, List.length_map, List.length_append, List.length_cons, List.length_nil] at h1
      refine AW.exit ?_
      refine AW.seq ?_
      have b1 := (mixSt key x i).1.isLt
      have b2 := (mixSt key x i).2.isLt
      refine AW.region ?_
      refine AR.step rfl rfl rfl (AO.calc' rfl ?_)
      first
        | refine AR.step rfl rfl rfl (AO.mul_nw rfl rfl rfl (wrap_u64 (by first | omega | (simp only [List.length_map, List.length_append, List.length_cons, List.length_nil] at *; omega)) (by first | omega | (simp only [List.length_map, List.length_append, List.length_cons, List.length_nil] at *; omega))) ?_)
        | refine AR.step rfl rfl rfl (AO.calc' rfl ?_)
      refine AR.step rfl rfl rfl (AO.calc' rfl ?_)
      first
        | refine AR.step rfl rfl rfl (AO.add_nw rfl rfl rfl (wrap_u64 (by first | omega | (simp only [List.length_map, List.length_append, List.length_cons, List.length_nil] at *; omega)) (by first | omega | (simp only [List.length_map, List.length_append, List.length_cons, List.length_nil] at *; omega))) ?_)
        | refine AR.step rfl rfl rfl (AO.calc' rfl ?_)
      refine AR.step rfl rfl rfl (AO.calc' rfl ?_)
      refine AR.nil [4] rfl ?_
      refine AW.ret ?_
      refine ⟨rfl, _, ⟨_, _, rfl, rfl, rfl⟩, [], List.nil_sublist _, ?_⟩
      refine ret_eq h ?_
      obtain rfl : i = 4 := by omega
      simp only [packPV, List.map, PV.weak]
      rw [mix_join]
      rfl

theorem c_Check (b : List UInt8) (bb : PV) (hlen : b.length ≤ 9223372036854775807) {τ : List Res} {R : AOut → List Res → Prop} (hb : bb = .list (b.map byteC)) (h : R (.ret (.int .i64 ((~~~ checkB b).toNat : Int))) τ) : AC Try.prog 17 [bb] τ R := by
  subst hb
  refine AC.none ?_
  refine AC.of_body 31 [.tmp 2] [0] Try.func17 rfl rfl rfl rfl rfl ?_
  refine AW.seq ?_
  refine AW.region ?_
  refine AR.step rfl rfl rfl (AO.calc' rfl ?_)
  refine AR.nil [0] rfl ?_
  refine AW.seq ?_
  refine AW.region ?_
  refine AR.step rfl rfl rfl (AO.calc' rfl ?_)
  refine AR.nil [0, 3] rfl ?_
  refine AW.seq ?_
  refine AW.seq ?_
  refine AW.region ?_
  refine AR.step rfl rfl rfl (AO.calc' rfl ?_)
  refine AR.step rfl rfl rfl (AO.len_slice rfl rfl rfl rfl es_35 rfl ?_)
  refine AR.step rfl rfl rfl (AO.calc' rfl ?_)
  refine AR.nil [3, 6, 7, 8] rfl ?_
  refine AW.block ?_
  refine AW.settle [3, 6, 7, 8] rfl ?_
  refine AW.loop (α := Nat) (fun i => [(3, .int .u32 (((b.take i).foldl crcB 4294967295#32).toNat : Int)), (6, .list (b.map byteC)), (7, .int .i64 (b.length : Int)), (8, .int .i64 (i : Int))]) (fun i => []) (fun i => i ≤ b.length) (fun i => b.length - i) 0 (by simp) rfl ?_ ?_
  · first | trivial | omega | simp
  · intro q hI
    revert hI; revert q; intro i hI
    refine AW.seq ?_
    refine AW.region ?_
    refine AR.step rfl rfl rfl (AO.calc' rfl ?_)
    refine AR.nil [3, 6, 7, 8, 9] rfl ?_
    refine AW.seq ?_
    refine AW.cond rfl (fun h1 => ?_) (fun h1 => ?_)
    · try simp only [Bool.and_eq_true, Bool.or_eq_true, Bool.and_eq_false_iff, Bool.or_eq_false_iff, decide_eq_true_eq, decide_eq_false_iff_not, beq_iff_eq, bne_iff_ne, ne_eq, beq_eq_false_iff_ne, bne_eq_false_iff_eq, Bool.not_eq_true', Bool.not_eq_false', Bool.not_not, Bool.not_true, Bool.not_false, List.length_map, List.length_append, List.length_cons, List.length_nil] at h1
      refine AW.skip ?_
      refine AW.seq ?_
      refine AW.block ?_
      refine AW.seq ?_
      refine AW.region ?_
      have hil : i < b.length := by omega
      refine AR.step rfl rfl rfl (AO.indexAddr rfl rfl rfl es_35 (by first | omega | (simp only [List.length_map, List.length_append, List.length_cons, List.length_nil] at *; omega)) (getC b i hil) rfl ?_)
      refine AR.step rfl rfl rfl (AO.load_ref rfl rfl ti_5 rfl ?_)
      refine AR.step rfl rfl rfl (AO.calc' rfl ?_)
      refine AR.nil [3, 5, 6, 7, 8] rfl ?_
      refine AW.seq ?_
      refine AW.region ?_
      refine AR.step rfl rfl rfl (AO.calc' rfl ?_)
      refine AR.step rfl rfl rfl (AO.calc' rfl ?_)
      first
        | refine AR.step rfl rfl rfl (AO.conv_byte rfl un_5 un_45 rfl rfl ?_)
        | refine AR.step rfl rfl rfl (AO.conv_nw rfl un_5 un_45 rfl (wrap_u32 (by first | omega | (simp only [List.length_map, List.length_append, List.length_cons, List.length_nil] at *; omega)) (by first | omega | (simp only [List.length_map, List.length_append, List.length_cons, List.length_nil] at *; omega))) ?_)
        | refine AR.step rfl rfl rfl (AO.conv_int rfl un_5 un_45 rfl ?_)
      refine AR.step rfl rfl rfl (AO.calc' rfl ?_)
      refine AR.step rfl rfl rfl (AO.calc' rfl ?_)
      refine AR.nil [3, 6, 7, 8] rfl ?_
      refine AW.seq ?_
      refine AW.region ?_
      refine AR.step rfl rfl rfl (AO.calc' rfl ?_)
      refine AR.nil [3, 6, 7, 8, 16] rfl ?_
      refine AW.block ?_
      refine AW.settle [3, 6, 7, 8, 16] rfl ?_
      refine AW.loop (α := Nat) (fun k => [(3, .int .u32 ((itB k (((b.take i).foldl crcB 4294967295#32) ^^^ (b[i]'hil).toBitVec.setWidth 32)).toNat : Int)), (6, .list (b.map byteC)), (7, .int .i64 (b.length : Int)), (8, .int .i64 (i : Int)), (16, .int .i64 (k : Int))]) (fun k => []) (fun k => k ≤ 8) (fun k => 8 - k) 0 (by simp only [xor_u32, xor_u64, and_u32, and_u64, or_u32, or_u64, u32w, u64w, u8w, bits32, bits64, bits8, ofInt_add', ofInt_mul', ofInt_toNat, ofInt_toNat_w, ofInt_byteB, fdiv_shr]; rfl) rfl ?_ ?_
      · first | trivial | omega | simp
      · intro q hI
        revert hI; revert q; intro k hI
        refine AW.seq ?_
        refine AW.region ?_
        refine AR.step rfl rfl rfl (AO.calc' rfl ?_)
        refine AR.nil [3, 6, 7, 8, 16, 17] rfl ?_
        refine AW.seq ?_
        refine AW.cond rfl (fun h2 => ?_) (fun h2 => ?_)
        · try simp only [Bool.and_eq_true, Bool.or_eq_true, Bool.and_eq_false_iff, Bool.or_eq_false_iff, decide_eq_true_eq, decide_eq_false_iff_not, beq_iff_eq, bne_iff_ne, ne_eq, beq_eq_false_iff_ne, bne_eq_false_iff_eq, Bool.not_eq_true', Bool.not_eq_false', Bool.not_not, Bool.not_true, Bool.not_false, List.length_map, List.length_append, List.length_cons, List.length_nil] at h2
          refine AW.skip ?_
          refine AW.seq ?_
          refine AW.block ?_
          refine AW.seq ?_
          refine AW.region ?_
          refine AR.step rfl rfl rfl (AO.calc' rfl ?_)
          refine AR.step rfl rfl rfl (AO.calc' rfl ?_)
          refine AR.step rfl rfl rfl (AO.calc' rfl ?_)
          refine AR.nil [3, 6, 7, 8, 16, 20] rfl ?_
          refine AW.cond rfl (fun h3 => ?_) (fun h3 => ?_)
          · try simp only [Bool.and_eq_true, Bool.or_eq_true, Bool.and_eq_false_iff, Bool.or_eq_false_iff, decide_eq_true_eq, decide_eq_false_iff_not, beq_iff_eq, bne_iff_ne, ne_eq, beq_eq_false_iff_ne, bne_eq_false_iff_eq, Bool.not_eq_true', Bool.not_eq_false', Bool.not_not, Bool.not_true, Bool.not_false, List.length_map, List.length_append, List.length_cons, List.length_nil] at h3
            rw [and1_u32] at h3
            refine AW.region ?_
            refine AR.step rfl rfl rfl (AO.calc' rfl ?_)
            refine AR.step rfl rfl rfl (AO.shrL (s := 1) rfl rfl rfl (by decide) rfl ?_)
            refine AR.step rfl rfl rfl (AO.calc' rfl ?_)
            refine AR.step rfl rfl rfl (AO.calc' rfl ?_)
            refine AR.nil [3, 6, 7, 8, 16] rfl ?_
            refine AW.region ?_
            first
              | refine AR.step rfl rfl rfl (AO.add_nw rfl rfl rfl (wrap_i64 (by first | omega | (simp only [List.length_map, List.length_append, List.length_cons, List.length_nil] at *; omega)) (by first | omega | (simp only [List.length_map, List.length_append, List.length_cons, List.length_nil] at *; omega))) ?_)
              | refine AR.step rfl rfl rfl (AO.calc' rfl ?_)
            refine AR.step rfl rfl rfl (AO.calc' rfl ?_)
            refine AR.nil [3, 6, 7, 8, 16] rfl ?_
            refine ⟨k + 1, ?_, rfl, rfl, ?_, ?_⟩
            · first | (rw [itB, stB_one _ h3]; simp only [xor_u32, xor_u64, and_u32, and_u64, or_u32, or_u64, u32w, u64w, u8w, bits32, bits64, bits8, ofInt_add', ofInt_mul', ofInt_toNat, ofInt_toNat_w, ofInt_byteB, fdiv_shr]; rfl) | (rw [itB, stB_zero _ h3]; simp only [xor_u32, xor_u64, and_u32, and_u64, or_u32, or_u64, u32w, u64w, u8w, bits32, bits64, bits8, ofInt_add', ofInt_mul', ofInt_toNat, ofInt_toNat_w, ofInt_byteB, fdiv_shr]; rfl)
            · first | trivial | omega | simp
            · first | omega | (simp; omega)
          · try simp only [Bool.and_eq_true, Bool.or_eq_true, Bool.and_eq_false_iff, Bool.or_eq_false_iff, decide_eq_true_eq, decide_eq_false_iff_not, beq_iff_eq, bne_iff_ne, ne_eq, beq_eq_false_iff_ne, bne_eq_false_iff_eq, Bool.not_eq_true', Bool.not_eq_false', Bool.not_not, Bool.not_true, Bool.not_false, List.length_map, List.length_append, List.length_cons, List.length_nil] at h3
            rw [and1_u32] at h3
            refine AW.region ?_
            refine AR.step rfl rfl rfl (AO.calc' rfl ?_)
            refine AR.step rfl rfl rfl (AO.shrL (s := 1) rfl rfl rfl (by decide) rfl ?_)
            refine AR.step rfl rfl rfl (AO.calc' rfl ?_)
            refine AR.nil [3, 6, 7, 8, 16] rfl ?_
            refine AW.region ?_
            first
              | refine AR.step rfl rfl rfl (AO.add_nw rfl rfl rfl (wrap_i64 (by first | omega | (simp only [List.length_map, List.length_append, List.length_cons, List.length_nil] at *; omega)) (by first | omega | (simp only [List.length_map, List.length_append, List.length_cons, List.length_nil] at *; omega))) ?_)
              | refine AR.step rfl rfl rfl (AO.calc' rfl ?_)
            refine AR.step rfl rfl rfl (AO.calc' rfl ?_)
            refine AR.nil [3, 6, 7, 8, 16] rfl ?_
            refine ⟨k + 1, ?_, rfl, rfl, ?_, ?_⟩
            · first | (rw [itB, stB_one _ h3]; simp only [xor_u32, xor_u64, and_u32, and_u64, or_u32, or_u64, u32w, u64w, u8w, bits32, bits64, bits8, ofInt_add', ofInt_mul', ofInt_toNat, ofInt_toNat_w, ofInt_byteB, fdiv_shr]; rfl) | (rw [itB, stB_zero _ h3]; simp only [xor_u32, xor_u64, and_u32, and_u64, or_u32, or_u64, u32w, u64w, u8w, bits32, bits64, bits8, ofInt_add', ofInt_mul', ofInt_toNat, ofInt_toNat_w, ofInt_byteB, fdiv_shr]; rfl)
            · first | trivial | omega | simp
            · first | omega | (simp; omega)
        · try simp only [Bool.and_eq_true, Bool.or_eq_true, Bool.and_eq_false_iff, Bool.or_eq_false_iff, decide_eq_true_eq, decide_eq_false_iff_not, beq_iff_eq, bne_iff_ne, ne_eq, beq_eq_false_iff_ne, bne_eq_false_iff_eq, Bool.not_eq_true', Bool.not_eq_false', Bool.not_not, Bool.not_true, Bool.not_false, List.length_map, List.length_append, List.length_cons, List.length_nil] at h2
          refine AW.exit ?_
          obtain rfl : k = 8 := by omega
          refine AW.region ?_
          first
            | refine AR.step rfl rfl rfl (AO.add_nw rfl rfl rfl (wrap_i64 (by first | omega | (simp only [List.length_map, List.length_append, List.length_cons, List.length_nil] at *; omega)) (by first | omega | (simp only [List.length_map, List.length_append, List.length_cons, List.length_nil] at *; omega))) ?_)
            | refine AR.step rfl rfl rfl (AO.calc' rfl ?_)
          refine AR.step rfl rfl rfl (AO.calc' rfl ?_)
          refine AR.nil [3, 6, 7, 8] rfl ?_
          refine ⟨i + 1, ?_, rfl, rfl, ?_, ?_⟩
          · rw [checkB_take b i (by omega)]; rfl
          · first | trivial | omega | simp
          · first | omega | (simp; omega)
    · try simp only [Bool.and_eq_true, Bool.or_eq_true, Bool.and_eq_false_iff, Bool.or_eq_false_iff, decide_eq_true_eq, decide_eq_false_iff_not, beq_iff_eq, bne_iff_ne, ne_eq, beq_eq_false_iff_ne, bne_eq_false_iff_eq, Bool.not_eq_true', Bool.not_eq_false', Bool.not_not, Bool.not_true, Bool.not_false, List.length_map, List.length_append, List.length_cons, List.length_nil] at h1
      refine AW.exit ?_
      refine AW.seq ?_
      refine AW.region ?_
      refine AR.step rfl rfl rfl (AO.calc' rfl ?_)
      refine AR.step rfl rfl rfl (AO.calc' rfl ?_)
      first
        | refine AR.step rfl rfl rfl (AO.conv_nw rfl un_45 un_3 rfl (wrap_i64 (by first | omega | (simp only [List.length_map, List.length_append, List.length_cons, List.length_nil] at *; omega)) (by first | omega | (simp only [List.length_map, List.length_append, List.length_cons, List.length_nil] at *; omega))) ?_)
        | refine AR.step rfl rfl rfl (AO.conv_int rfl un_45 un_3 rfl ?_)
      refine AR.step rfl rfl rfl (AO.calc' rfl ?_)
      refine AR.nil [2] rfl ?_
      refine AW.ret ?_
      refine ⟨rfl, _, ⟨_, _, rfl, rfl, rfl⟩, [], List.nil_sublist _, ?_⟩
      refine ret_eq h ?_
      obtain rfl : i = b.length := by omega
      simp only [packPV, List.map, PV.weak, List.take_length, not_u32, ofInt_toNat]
      have hb := (~~~ checkB b).isLt
      exact congrArg (PV.int .i64) (wrap_i64 (by omega) (by omega)).symm

theorem c_Parse (s : List UInt8) (hlen : s.length ≤ 9223372036854775807) {τ : List Res} {R : AOut → List Res → Prop}  (h : R (.ret (.tuple [.int .u64 (((parseB s).getD 0#64).toNat : Int), .int .i64 (if (parseB s).isSome then 0 else 5)])) τ) : AC Try.prog 14 [.str s] τ R := by
  refine AC.none ?_
  refine AC.of_body 41 [.tmp 2, .tmp 3] [0] Try.func14 rfl rfl rfl rfl rfl ?_
  refine AW.seq ?_
  refine AW.region ?_
  refine AR.step rfl rfl rfl (AO.calc' rfl ?_)
  refine AR.step rfl rfl rfl (AO.calc' rfl ?_)
  refine AR.nil [0] rfl ?_
  refine AW.seq ?_
  refine AW.seq ?_
  refine AW.region ?_
  refine AR.step rfl rfl rfl (AO.calc' rfl ?_)
  refine AR.step rfl rfl rfl (AO.len_str rfl rfl rfl rfl un_9 rfl ?_)
  refine AR.step rfl rfl rfl (AO.calc' rfl ?_)
  refine AR.nil [0, 9] rfl ?_
  refine AW.cond rfl (fun h1 => ?_) (fun h1 => ?_)
  · try simp only [Bool.and_eq_true, Bool.or_eq_true, Bool.and_eq_false_iff, Bool.or_eq_false_iff, decide_eq_true_eq, decide_eq_false_iff_not, beq_iff_eq, bne_iff_ne, ne_eq, beq_eq_false_iff_ne, bne_eq_false_iff_eq, Bool.not_eq_true', Bool.not_eq_false', Bool.not_not, Bool.not_true, Bool.not_false, List.length_map, List.length_append, List.length_cons, List.length_nil] at h1
    refine AW.seq ?_
    refine AW.region ?_
    refine AR.step rfl rfl rfl (AO.calc' rfl ?_)
    refine AR.step rfl rfl rfl (AO.calc' rfl ?_)
    refine AR.nil [2, 3] rfl ?_
    refine AW.ret ?_
    refine ⟨rfl, _, ⟨_, _, rfl, rfl, _, _, rfl, rfl, rfl⟩, [], List.nil_sublist _, ?_⟩
    refine ret_eq h ?_
    first | rw [parse_len (by omega)] | rw [parse_bad (i := q.1) (by omega) (digB_no (by omega) (by omega))] | rw [parse_ok (by omega) (by omega) hacc]
    rfl
  · try simp only [Bool.and_eq_true, Bool.or_eq_true, Bool.and_eq_false_iff, Bool.or_eq_false_iff, decide_eq_true_eq, decide_eq_false_iff_not, beq_iff_eq, bne_iff_ne, ne_eq, beq_eq_false_iff_ne, bne_eq_false_iff_eq, Bool.not_eq_true', Bool.not_eq_false', Bool.not_not, Bool.not_true, Bool.not_false, List.length_map, List.length_append, List.length_cons, List.length_nil] at h1
    refine AW.skip ?_
    refine AW.seq ?_
    refine AW.region ?_
    refine AR.step rfl rfl rfl (AO.calc' rfl ?_)
    refine AR.nil [0, 4] rfl ?_
    refine AW.seq ?_
    refine AW.seq ?_
    refine AW.region ?_
    refine AR.step rfl rfl rfl (AO.calc' rfl ?_)
    refine AR.nil [0, 4, 10] rfl ?_
    refine AW.block ?_
    refine AW.settle [0, 4, 10] rfl ?_
    refine AW.loop (α := Nat × BitVec 64) (fun q => [(0, .str s), (4, .int .u64 (q.2.toNat : Int)), (10, .int .i64 (q.1 : Int))]) (fun q => []) (fun q => accB s q.1 = some q.2 ∧ q.1 ≤ 16) (fun q => 16 - q.1) (0, 0#64) rfl rfl ?_ ?_
    · exact ⟨rfl, by omega⟩
    · intro q hI
      revert hI; revert q; intro q hI
      obtain ⟨hacc, hi⟩ := hI
      have hlt := (s.getD q.1 0).toNat_lt
      refine AW.seq ?_
      refine AW.region ?_
      refine AR.step rfl rfl rfl (AO.calc' rfl ?_)
      refine AR.nil [0, 4, 10, 11] rfl ?_
      refine AW.seq ?_
      refine AW.cond rfl (fun h2 => ?_) (fun h2 => ?_)
      · try simp only [Bool.and_eq_true, Bool.or_eq_true, Bool.and_eq_false_iff, Bool.or_eq_false_iff, decide_eq_true_eq, decide_eq_false_iff_not, beq_iff_eq, bne_iff_ne, ne_eq, beq_eq_false_iff_ne, bne_eq_false_iff_eq, Bool.not_eq_true', Bool.not_eq_false', Bool.not_not, Bool.not_true, Bool.not_false, List.length_map, List.length_append, List.length_cons, List.length_nil] at h2
        refine AW.skip ?_
        refine AW.seq ?_
        refine AW.block ?_
        refine AW.seq ?_
        refine AW.region ?_
        refine AR.step rfl rfl rfl (AO.calc' rfl ?_)
        refine AR.step rfl rfl rfl (AO.calc' rfl ?_)
        refine AR.nil [0, 4, 5, 10] rfl ?_
        refine AW.seq ?_
        refine AW.region ?_
        refine AR.step rfl rfl rfl (AO.calc' rfl ?_)
        refine AR.step rfl rfl rfl (AO.calc' rfl ?_)
        first
          | refine AR.step rfl rfl rfl (AO.index_strN rfl un_9 rfl rfl (by first | omega | (simp only [List.length_map, List.length_append, List.length_cons, List.length_nil] at *; omega)) ?_)
          | refine AR.step rfl rfl rfl (AO.index_strD rfl un_9 rfl rfl (by first | omega | (simp only [List.length_map, List.length_append, List.length_cons, List.length_nil] at *; omega)) (by first | omega | (simp only [List.length_map, List.length_append, List.length_cons, List.length_nil] at *; omega)) ?_)
        refine AR.step rfl rfl rfl (AO.calc' rfl ?_)
        refine AR.nil [0, 4, 6, 10] rfl ?_
        refine AW.seq ?_
        refine AW.block ?_
        refine AW.seq ?_
        refine AW.region ?_
        refine AR.step rfl rfl rfl (AO.calc' rfl ?_)
        refine AR.step rfl rfl rfl (AO.calc' rfl ?_)
        refine AR.step rfl rfl rfl (AO.calc' rfl ?_)
        apply AR.and 3 19 22 [0, 4, 6, 10]
        · rfl
        · rfl
        · intro g3
          have g3n := g3
          try simp only [Bool.and_eq_true, Bool.or_eq_true, Bool.and_eq_false_iff, Bool.or_eq_false_iff, decide_eq_true_eq, decide_eq_false_iff_not, beq_iff_eq, bne_iff_ne, ne_eq, beq_eq_false_iff_ne, bne_eq_false_iff_eq, Bool.not_eq_true', Bool.not_eq_false', Bool.not_not, Bool.not_true, Bool.not_false, List.length_map, List.length_append, List.length_cons, List.length_nil] at g3n
          refine AR.run rfl rfl rfl rfl rfl rfl g3 ?_
          refine AR.step rfl rfl rfl (AO.calc' rfl ?_)
          refine AR.run rfl rfl rfl rfl rfl rfl g3 ?_
          refine AR.step rfl rfl rfl (AO.calc' rfl ?_)
          refine AR.step rfl rfl rfl (AO.pick_T rfl rfl g3 rfl ?_)
          refine AR.nil [22, 0, 4, 6, 10] rfl ?_
          exact ⟨rfl, rfl, rfl, rfl⟩
        · intro g3
          have g3n := g3
          try simp only [Bool.and_eq_true, Bool.or_eq_true, Bool.and_eq_false_iff, Bool.or_eq_false_iff, decide_eq_true_eq, decide_eq_false_iff_not, beq_iff_eq, bne_iff_ne, ne_eq, beq_eq_false_iff_ne, bne_eq_false_iff_eq, Bool.not_eq_true', Bool.not_eq_false', Bool.not_not, Bool.not_true, Bool.not_false, List.length_map, List.length_append, List.length_cons, List.length_nil] at g3n
          refine AR.skip rfl rfl rfl rfl rfl rfl g3 ?_
          refine AR.skip rfl rfl rfl rfl rfl rfl g3 ?_
          refine AR.step rfl rfl rfl (AO.pick_F rfl rfl g3 rfl ?_)
          refine AR.nil [22, 0, 4, 6, 10] rfl ?_
          exact ⟨rfl, rfl, rfl, rfl⟩
        refine AR.step rfl rfl rfl (AO.calc' rfl ?_)
        refine AR.nil [0, 4, 6, 10, 16] rfl ?_
        refine AW.cond rfl (fun h4 => ?_) (fun h4 => ?_)
        · try simp only [Bool.and_eq_true, Bool.or_eq_true, Bool.and_eq_false_iff, Bool.or_eq_false_iff, decide_eq_true_eq, decide_eq_false_iff_not, beq_iff_eq, bne_iff_ne, ne_eq, beq_eq_false_iff_ne, bne_eq_false_iff_eq, Bool.not_eq_true', Bool.not_eq_false', Bool.not_not, Bool.not_true, Bool.not_false, List.length_map, List.length_append, List.length_cons, List.length_nil] at h4
          refine AW.region ?_
          refine AR.step rfl rfl rfl (AO.calc' rfl ?_)
          first
            | refine AR.step rfl rfl rfl (AO.sub_nw rfl rfl rfl (wrap_u8 (by first | omega | (simp only [List.length_map, List.length_append, List.length_cons, List.length_nil] at *; omega)) (by first | omega | (simp only [List.length_map, List.length_append, List.length_cons, List.length_nil] at *; omega))) ?_)
            | refine AR.step rfl rfl rfl (AO.calc' rfl ?_)
          refine AR.step rfl rfl rfl (AO.calc' rfl ?_)
          refine AR.nil [0, 4, 6, 10] rfl ?_
          refine AW.region ?_
          refine AR.step rfl rfl rfl (AO.calc' rfl ?_)
          refine AR.step rfl rfl rfl (AO.shlL (s := 4) rfl rfl rfl (by decide) rfl ?_)
          refine AR.step rfl rfl rfl (AO.calc' rfl ?_)
          first
            | refine AR.step rfl rfl rfl (AO.conv_byte rfl un_5 un_27 rfl rfl ?_)
            | refine AR.step rfl rfl rfl (AO.conv_nw rfl un_5 un_27 rfl (wrap_u64 (by first | omega | (simp only [List.length_map, List.length_append, List.length_cons, List.length_nil] at *; omega)) (by first | omega | (simp only [List.length_map, List.length_append, List.length_cons, List.length_nil] at *; omega))) ?_)
            | refine AR.step rfl rfl rfl (AO.conv_int rfl un_5 un_27 rfl ?_)
          refine AR.step rfl rfl rfl (AO.calc' rfl ?_)
          refine AR.step rfl rfl rfl (AO.calc' rfl ?_)
          refine AR.nil [0, 4, 10] rfl ?_
          refine AW.region ?_
          first
            | refine AR.step rfl rfl rfl (AO.add_nw rfl rfl rfl (wrap_i64 (by first | omega | (simp only [List.length_map, List.length_append, List.length_cons, List.length_nil] at *; omega)) (by first | omega | (simp only [List.length_map, List.length_append, List.length_cons, List.length_nil] at *; omega))) ?_)
            | refine AR.step rfl rfl rfl (AO.calc' rfl ?_)
          refine AR.step rfl rfl rfl (AO.calc' rfl ?_)
          refine AR.nil [0, 4, 10] rfl ?_
          refine ⟨(q.1 + 1, (q.2 <<< 4) ||| BitVec.ofNat 64 ((digB (s.getD q.1 0)).getD 0)), ?_, rfl, rfl, ?_, ?_⟩
          · rw [or_u64, u64w, acc_or _ _ ((digB (s.getD q.1 0)).getD 0) (by first | (rw [digB_09 (by omega)]; simp only [Option.getD_some]; omega) | (rw [digB_af (by omega)]; simp only [Option.getD_some]; omega))]; rfl
          · exact ⟨acc_succ hacc (by first | (rw [digB_09 (by omega)]; rfl) | (rw [digB_af (by omega)]; rfl)), by show q.1 + 1 ≤ 16; omega⟩
          · first | omega | (simp; omega)
        · try simp only [Bool.and_eq_true, Bool.or_eq_true, Bool.and_eq_false_iff, Bool.or_eq_false_iff, decide_eq_true_eq, decide_eq_false_iff_not, beq_iff_eq, bne_iff_ne, ne_eq, beq_eq_false_iff_ne, bne_eq_false_iff_eq, Bool.not_eq_true', Bool.not_eq_false', Bool.not_not, Bool.not_true, Bool.not_false, List.length_map, List.length_append, List.length_cons, List.length_nil] at h4
          refine AW.seq ?_
          refine AW.region ?_
          refine AR.step rfl rfl rfl (AO.calc' rfl ?_)
          refine AR.step rfl rfl rfl (AO.calc' rfl ?_)
          refine AR.step rfl rfl rfl (AO.calc' rfl ?_)
          apply AR.and 3 28 31 [0, 4, 6, 10]
          · rfl
          · rfl
          · intro g5
            have g5n := g5
            try simp only [Bool.and_eq_true, Bool.or_eq_true, Bool.and_eq_false_iff, Bool.or_eq_false_iff, decide_eq_true_eq, decide_eq_false_iff_not, beq_iff_eq, bne_iff_ne, ne_eq, beq_eq_false_iff_ne, bne_eq_false_iff_eq, Bool.not_eq_true', Bool.not_eq_false', Bool.not_not, Bool.not_true, Bool.not_false, List.length_map, List.length_append, List.length_cons, List.length_nil] at g5n
            refine AR.run rfl rfl rfl rfl rfl rfl g5 ?_
            refine AR.step rfl rfl rfl (AO.calc' rfl ?_)
            refine AR.run rfl rfl rfl rfl rfl rfl g5 ?_
            refine AR.step rfl rfl rfl (AO.calc' rfl ?_)
            refine AR.step rfl rfl rfl (AO.pick_T rfl rfl g5 rfl ?_)
            refine AR.nil [31, 0, 4, 6, 10] rfl ?_
            exact ⟨rfl, rfl, rfl, rfl⟩
          · intro g5
            have g5n := g5
            try simp only [Bool.and_eq_true, Bool.or_eq_true, Bool.and_eq_false_iff, Bool.or_eq_false_iff, decide_eq_true_eq, decide_eq_false_iff_not, beq_iff_eq, bne_iff_ne, ne_eq, beq_eq_false_iff_ne, bne_eq_false_iff_eq, Bool.not_eq_true', Bool.not_eq_false', Bool.not_not, Bool.not_true, Bool.not_false, List.length_map, List.length_append, List.length_cons, List.length_nil] at g5n
            refine AR.skip rfl rfl rfl rfl rfl rfl g5 ?_
            refine AR.skip rfl rfl rfl rfl rfl rfl g5 ?_
            refine AR.step rfl rfl rfl (AO.pick_F rfl rfl g5 rfl ?_)
            refine AR.nil [31, 0, 4, 6, 10] rfl ?_
            exact ⟨rfl, rfl, rfl, rfl⟩
          refine AR.step rfl rfl rfl (AO.calc' rfl ?_)
          refine AR.nil [0, 4, 6, 10, 25] rfl ?_
          refine AW.cond rfl (fun h6 => ?_) (fun h6 => ?_)
          · try simp only [Bool.and_eq_true, Bool.or_eq_true, Bool.and_eq_false_iff, Bool.or_eq_false_iff, decide_eq_true_eq, decide_eq_false_iff_not, beq_iff_eq, bne_iff_ne, ne_eq, beq_eq_false_iff_ne, bne_eq_false_iff_eq, Bool.not_eq_true', Bool.not_eq_false', Bool.not_not, Bool.not_true, Bool.not_false, List.length_map, List.length_append, List.length_cons, List.length_nil] at h6
            refine AW.region ?_
            refine AR.step rfl rfl rfl (AO.calc' rfl ?_)
            first
              | refine AR.step rfl rfl rfl (AO.sub_nw rfl rfl rfl (wrap_u8 (by first | omega | (simp only [List.length_map, List.length_append, List.length_cons, List.length_nil] at *; omega)) (by first | omega | (simp only [List.length_map, List.length_append, List.length_cons, List.length_nil] at *; omega))) ?_)
              | refine AR.step rfl rfl rfl (AO.calc' rfl ?_)
            refine AR.step rfl rfl rfl (AO.calc' rfl ?_)
            refine AR.nil [0, 4, 6, 10] rfl ?_
            refine AW.region ?_
            refine AR.step rfl rfl rfl (AO.calc' rfl ?_)
            refine AR.step rfl rfl rfl (AO.shlL (s := 4) rfl rfl rfl (by decide) rfl ?_)
            refine AR.step rfl rfl rfl (AO.calc' rfl ?_)
            first
              | refine AR.step rfl rfl rfl (AO.conv_byte rfl un_5 un_27 rfl rfl ?_)
              | refine AR.step rfl rfl rfl (AO.conv_nw rfl un_5 un_27 rfl (wrap_u64 (by first | omega | (simp only [List.length_map, List.length_append, List.length_cons, List.length_nil] at *; omega)) (by first | omega | (simp only [List.length_map, List.length_append, List.length_cons, List.length_nil] at *; omega))) ?_)
              | refine AR.step rfl rfl rfl (AO.conv_int rfl un_5 un_27 rfl ?_)
            refine AR.step rfl rfl rfl (AO.calc' rfl ?_)
            refine AR.step rfl rfl rfl (AO.calc' rfl ?_)
            refine AR.nil [0, 4, 10] rfl ?_
            refine AW.region ?_
            first
              | refine AR.step rfl rfl rfl (AO.add_nw rfl rfl rfl (wrap_i64 (by first | omega | (simp only [List.length_map, List.length_append, List.length_cons, List.length_nil] at *; omega)) (by first | omega | (simp only [List.length_map, List.length_append, List.length_cons, List.length_nil] at *; omega))) ?_)
              | refine AR.step rfl rfl rfl (AO.calc' rfl ?_)
            refine AR.step rfl rfl rfl (AO.calc' rfl ?_)
            refine AR.nil [0, 4, 10] rfl ?_
            refine ⟨(q.1 + 1, (q.2 <<< 4) ||| BitVec.ofNat 64 ((digB (s.getD q.1 0)).getD 0)), ?_, rfl, rfl, ?_, ?_⟩
            · rw [or_u64, u64w, acc_or _ _ ((digB (s.getD q.1 0)).getD 0) (by first | (rw [digB_09 (by omega)]; simp only [Option.getD_some]; omega) | (rw [digB_af (by omega)]; simp only [Option.getD_some]; omega))]; rfl
            · exact ⟨acc_succ hacc (by first | (rw [digB_09 (by omega)]; rfl) | (rw [digB_af (by omega)]; rfl)), by show q.1 + 1 ≤ 16; omega⟩
            · first | omega | (simp; omega)
          · try simp only [Bool.and_eq_true, Bool.or_eq_true, Bool.and_eq_false_iff, Bool.or_eq_false_iff, decide_eq_true_eq, decide_eq_false_iff_not, beq_iff_eq, bne_iff_ne, ne_eq, beq_eq_false_iff_ne, bne_eq_false_iff_eq, Bool.not_eq_true', Bool.not_eq_false', Bool.not_not, Bool.not_true, Bool.not_false, List.length_map, List.length_append, List.length_cons, List.length_nil] at h6
            refine AW.seq ?_
            refine AW.region ?_
            refine AR.step rfl rfl rfl (AO.calc' rfl ?_)
            refine AR.step rfl rfl rfl (AO.calc' rfl ?_)
            refine AR.nil [2, 3] rfl ?_
            refine AW.ret ?_
            refine ⟨rfl, _, ⟨_, _, rfl, rfl, _, _, rfl, rfl, rfl⟩, [], List.nil_sublist _, ?_⟩
            refine ret_eq h ?_
            first | rw [parse_len (by omega)] | rw [parse_bad (i := q.1) (by omega) (digB_no (by omega) (by omega))] | rw [parse_ok (by omega) (by omega) hacc]
            rfl
      · try simp only [Bool.and_eq_true, Bool.or_eq_true, Bool.and_eq_false_iff, Bool.or_eq_false_iff, decide_eq_true_eq, decide_eq_false_iff_not, beq_iff_eq, bne_iff_ne, ne_eq, beq_eq_false_iff_ne, bne_eq_false_iff_eq, Bool.not_eq_true', Bool.not_eq_false', Bool.not_not, Bool.not_true, Bool.not_false, List.length_map, List.length_append, List.length_cons, List.length_nil] at h2
        refine AW.exit ?_
        refine AW.seq ?_
        refine AW.region ?_
        refine AR.step rfl rfl rfl (AO.calc' rfl ?_)
        refine AR.step rfl rfl rfl (AO.calc' rfl ?_)
        refine AR.step rfl rfl rfl (AO.calc' rfl ?_)
        refine AR.nil [2, 3] rfl ?_
        refine AW.ret ?_
        refine ⟨rfl, _, ⟨_, _, rfl, rfl, _, _, rfl, rfl, rfl⟩, [], List.nil_sublist _, ?_⟩
        refine ret_eq h ?_
        first | rw [parse_len (by omega)] | rw [parse_bad (i := q.1) (by omega) (digB_no (by omega) (by omega))] | rw [parse_ok (by omega) (by omega) hacc]
        rfl

theorem c_Text (d : BitVec 64) (d' : Int) {τ : List Res} {R : AOut → List Res → Prop} (hd : d' = (d.toNat : Int)) (h : R (.ret (.str (textB d))) τ) : AC Try.prog 13 [.int .u64 d'] τ R := by
  subst hd
  refine AC.none ?_
  refine AC.of_body 20 [.tmp 2] [0] Try.func13 rfl rfl rfl rfl rfl ?_
  refine AW.seq ?_
  refine AW.region ?_
  refine AR.step rfl rfl rfl (AO.calc' rfl ?_)
  refine AR.nil [0] rfl ?_
  refine AW.seq ?_
  refine AW.region ?_
  refine AR.step rfl rfl rfl (AO.alloc_own rfl zp_49 (fun b3 => ?_))
  refine AR.nil [0, 3] rfl ?_
  refine AW.seq ?_
  refine AW.seq ?_
  refine AW.region ?_
  refine AR.step rfl rfl rfl (AO.calc' rfl ?_)
  refine AR.nil [0, 3, 5] rfl ?_
  refine AW.block ?_
  refine AW.settle [0, 3, 5] rfl ?_
  refine AW.loop (α := Nat) (fun i => [(0, .int .u64 (d.toNat : Int)), (3, .val (.pointer (some ⟨b3, 0, none⟩))), (5, .int .i64 (i : Int))]) (fun i => [.box b3 (((textB d).take i ++ List.replicate (16 - i) 0).map fun c : UInt8 => PV.int .u8 (c.toNat : Int))]) (fun i => i ≤ 16) (fun i => 16 - i) 0 rfl rfl ?_ ?_
  · first | trivial | omega | simp
  · intro q hI
    revert hI; revert q; intro i hI
    refine AW.seq ?_
    refine AW.region ?_
    refine AR.step rfl rfl rfl (AO.calc' rfl ?_)
    refine AR.nil [0, 3, 5, 6] rfl ?_
    refine AW.seq ?_
    refine AW.cond rfl (fun h1 => ?_) (fun h1 => ?_)
    · try simp only [Bool.and_eq_true, Bool.or_eq_true, Bool.and_eq_false_iff, Bool.or_eq_false_iff, decide_eq_true_eq, decide_eq_false_iff_not, beq_iff_eq, bne_iff_ne, ne_eq, beq_eq_false_iff_ne, bne_eq_false_iff_eq, Bool.not_eq_true', Bool.not_eq_false', Bool.not_not, Bool.not_true, Bool.not_false, List.length_map, List.length_append, List.length_cons, List.length_nil] at h1
      refine AW.skip ?_
      refine AW.seq ?_
      refine AW.block ?_
      refine AW.seq ?_
      refine AW.region ?_
      refine AR.step rfl rfl rfl (AO.calc' rfl ?_)
      refine AR.step rfl rfl rfl (AO.calc' rfl ?_)
      refine AR.nil [0, 3, 4, 5] rfl ?_
      refine AW.region ?_
      refine AR.step rfl rfl rfl (AO.calc' rfl ?_)
      refine AR.step rfl rfl rfl (AO.calc' rfl ?_)
      refine AR.step rfl rfl rfl (AO.calc' rfl ?_)
      first
        | refine AR.step rfl rfl rfl (AO.mul_nw rfl rfl rfl (wrap_i64 (by first | omega | (simp only [List.length_map, List.length_append, List.length_cons, List.length_nil] at *; omega)) (by first | omega | (simp only [List.length_map, List.length_append, List.length_cons, List.length_nil] at *; omega))) ?_)
        | refine AR.step rfl rfl rfl (AO.calc' rfl ?_)
      first
        | refine AR.step rfl rfl rfl (AO.sub_nw rfl rfl rfl (wrap_i64 (by first | omega | (simp only [List.length_map, List.length_append, List.length_cons, List.length_nil] at *; omega)) (by first | omega | (simp only [List.length_map, List.length_append, List.length_cons, List.length_nil] at *; omega))) ?_)
        | refine AR.step rfl rfl rfl (AO.calc' rfl ?_)
      refine AR.step rfl rfl rfl (AO.shr rfl rfl rfl (by first | omega | (simp only [List.length_map, List.length_append, List.length_cons, List.length_nil] at *; omega)) ?_)
      refine AR.step rfl rfl rfl (AO.calcE rfl (and15 _ (d >>> (60 - 4 * i)) (shr_min d _ _ (by rw [bits64]; omega))) ?_)
      first
        | refine AR.step rfl rfl rfl (AO.index_strN rfl un_9 rfl rfl (by first | omega | (simp only [List.length_map, List.length_append, List.length_cons, List.length_nil] at *; omega)) ?_)
        | refine AR.step rfl rfl rfl (AO.index_strD rfl un_9 rfl rfl (by first | omega | (simp only [List.length_map, List.length_append, List.length_cons, List.length_nil] at *; omega)) (by first | omega | (simp only [List.length_map, List.length_append, List.length_cons, List.length_nil] at *; omega)) ?_)
      first
        | refine AR.step rfl rfl rfl (AO.indexAddr_own rfl ai_49 rfl rfl (by first | omega | (simp only [List.length_map, List.length_append, List.length_cons, List.length_nil] at *; omega)) (by first | omega | (simp only [List.length_map, List.length_append, List.length_cons, List.length_nil] at *; omega)) ?_)
        | refine AR.step rfl rfl rfl (AO.indexAddr_ref rfl ai_49 rfl rfl (by first | omega | (simp only [List.length_map, List.length_append, List.length_cons, List.length_nil] at *; omega)) (by first | omega | (simp only [List.length_map, List.length_append, List.length_cons, List.length_nil] at *; omega)) (by simp; omega) ?_)
      refine AR.step_none rfl rfl (AO.store_boxAt (i := 0) rfl rfl rfl ti_5 rfl rfl rfl (by simp [textB_len]; omega) ?_)
      refine AR.nil [0, 3, 5] rfl ?_
      refine AW.region ?_
      first
        | refine AR.step rfl rfl rfl (AO.add_nw rfl rfl rfl (wrap_i64 (by first | omega | (simp only [List.length_map, List.length_append, List.length_cons, List.length_nil] at *; omega)) (by first | omega | (simp only [List.length_map, List.length_append, List.length_cons, List.length_nil] at *; omega))) ?_)
        | refine AR.step rfl rfl rfl (AO.calc' rfl ?_)
      refine AR.step rfl rfl rfl (AO.calc' rfl ?_)
      refine AR.nil [0, 3, 5] rfl ?_
      refine ⟨i + 1, ?_, (congrArg (fun l => [Res.box b3 l]) (fill_set (textB d) 0 _ (fun c : UInt8 => PV.int .u8 (c.toNat : Int)) 16 i (textB_len d) (textB_get d i (by omega)) _ (by omega))), rfl, ?_, ?_⟩
      · first | rfl | (simp; done) | (simp; omega)
      · first | trivial | omega | simp
      · first | omega | (simp; omega)
    · try simp only [Bool.and_eq_true, Bool.or_eq_true, Bool.and_eq_false_iff, Bool.or_eq_false_iff, decide_eq_true_eq, decide_eq_false_iff_not, beq_iff_eq, bne_iff_ne, ne_eq, beq_eq_false_iff_ne, bne_eq_false_iff_eq, Bool.not_eq_true', Bool.not_eq_false', Bool.not_not, Bool.not_true, Bool.not_false, List.length_map, List.length_append, List.length_cons, List.length_nil] at h1
      refine AW.exit ?_
      refine AW.seq ?_
      refine AW.region ?_
      refine AR.step rfl rfl rfl (AO.slice_arr rfl ai_49 rfl ?_)
      refine AR.step rfl rfl rfl (AO.bytes_str_box (i := 0) rfl un_35 un_5 un_9 rfl rfl (by rw [fill_end (textB d) 0 16 i (textB_len d) (by omega)]; exact List.take_of_length_le (by simp [textB_len])) (textB_len d) ?_)
      refine AR.step rfl rfl rfl (AO.calc' rfl ?_)
      refine AR.nil [2] rfl ?_
      refine AW.ret ?_
      refine ⟨rfl, _, ⟨_, _, rfl, rfl, rfl⟩, [], List.nil_sublist _, ?_⟩
      refine ret_eq h ?_
      rfl

theorem c_lives  {τ : List Res} {R : AOut → List Res → Prop}  (h : R (.ret (.bool true)) τ) : AC Try.prog 12 [] τ R := by
  refine AC.none ?_
  refine AC.of_body 28 [.tmp 0] [] Try.func12 rfl rfl rfl rfl rfl ?_
  refine AW.seq ?_
  refine AW.region ?_
  refine AR.step rfl rfl rfl (AO.calc' rfl ?_)
  refine AR.nil [] rfl ?_
  refine AW.seq ?_
  refine AW.region ?_
  refine AR.step rfl rfl rfl (AO.call rfl _ rfl rfl pf_14 (c_Parse [48, 48, 48, 48, 48, 48, 48, 48, 48, 48, 48, 48, 48, 48, 102, 102] (by decide) ?_))
  refine AR.step rfl rfl rfl (AO.calc' rfl ?_)
  refine AR.step rfl rfl rfl (AO.calc' rfl ?_)
  refine AR.step rfl rfl rfl (AO.calc' rfl ?_)
  refine AR.step rfl rfl rfl (AO.calc' rfl ?_)
  refine AR.step rfl rfl rfl (AO.calc' rfl ?_)
  refine AR.nil [1, 2] rfl ?_
  refine AW.seq ?_
  refine AW.region ?_
  refine AR.step rfl rfl rfl (AO.buildSlice_own rfl sf_35 rfl rfl rfl rfl (fun v7 => ?_))
  refine AR.step rfl rfl rfl (AO.bytes_same (i := 0) rfl un_35 un_5 rfl rfl (by simp) ?_)
  refine AR.step rfl rfl rfl (AO.call rfl _ rfl rfl pf_17 (c_Check [49, 50, 51, 52, 53, 54, 55, 56, 57] _ (by decide) rfl ?_))
  refine AR.step rfl rfl rfl (AO.calc' rfl ?_)
  refine AR.step rfl rfl rfl (AO.calc' rfl ?_)
  apply AR.and 3 11 14 [1, 2]
  · rfl
  · rfl
  · intro g1
    have g1n := g1
    try simp only [Bool.and_eq_true, Bool.or_eq_true, Bool.and_eq_false_iff, Bool.or_eq_false_iff, decide_eq_true_eq, decide_eq_false_iff_not, beq_iff_eq, bne_iff_ne, ne_eq, beq_eq_false_iff_ne, bne_eq_false_iff_eq, Bool.not_eq_true', Bool.not_eq_false', Bool.not_not, Bool.not_true, Bool.not_false, List.length_map, List.length_append, List.length_cons, List.length_nil] at g1n
    refine AR.run rfl rfl rfl rfl rfl rfl g1 ?_
    refine AR.step rfl rfl rfl (AO.call rfl _ rfl rfl pf_13 (c_Text 255#64 _ rfl ?_))
    refine AR.run rfl rfl rfl rfl rfl rfl g1 ?_
    refine AR.step rfl rfl rfl (AO.calc' rfl ?_)
    refine AR.step rfl rfl rfl (AO.pick_T rfl rfl g1 rfl ?_)
    refine AR.nil [14, 1, 2] rfl ?_
    exact ⟨rfl, rfl, rfl, rfl⟩
  · intro g1
    have g1n := g1
    try simp only [Bool.and_eq_true, Bool.or_eq_true, Bool.and_eq_false_iff, Bool.or_eq_false_iff, decide_eq_true_eq, decide_eq_false_iff_not, beq_iff_eq, bne_iff_ne, ne_eq, beq_eq_false_iff_ne, bne_eq_false_iff_eq, Bool.not_eq_true', Bool.not_eq_false', Bool.not_not, Bool.not_true, Bool.not_false, List.length_map, List.length_append, List.length_cons, List.length_nil] at g1n
    refine AR.skip rfl rfl rfl rfl rfl rfl g1 ?_
    refine AR.skip rfl rfl rfl rfl rfl rfl g1 ?_
    refine AR.step rfl rfl rfl (AO.pick_F rfl rfl g1 rfl ?_)
    refine AR.nil [14, 1, 2] rfl ?_
    exact ⟨rfl, rfl, rfl, rfl⟩
  refine AR.step rfl rfl rfl (AO.calc' rfl ?_)
  apply AR.and 3 15 18 [2]
  · rfl
  · rfl
  · intro g2
    have g2n := g2
    try simp only [Bool.and_eq_true, Bool.or_eq_true, Bool.and_eq_false_iff, Bool.or_eq_false_iff, decide_eq_true_eq, decide_eq_false_iff_not, beq_iff_eq, bne_iff_ne, ne_eq, beq_eq_false_iff_ne, bne_eq_false_iff_eq, Bool.not_eq_true', Bool.not_eq_false', Bool.not_not, Bool.not_true, Bool.not_false, List.length_map, List.length_append, List.length_cons, List.length_nil] at g2n
    refine AR.run rfl rfl rfl rfl rfl rfl g2 ?_
    refine AR.step rfl rfl rfl (AO.calc' rfl ?_)
    refine AR.run rfl rfl rfl rfl rfl rfl g2 ?_
    refine AR.step rfl rfl rfl (AO.calc' rfl ?_)
    refine AR.step rfl rfl rfl (AO.pick_T rfl rfl g2 rfl ?_)
    refine AR.nil [18, 2] rfl ?_
    exact ⟨rfl, rfl, rfl, rfl⟩
  · intro g2
    have g2n := g2
    try simp only [Bool.and_eq_true, Bool.or_eq_true, Bool.and_eq_false_iff, Bool.or_eq_false_iff, decide_eq_true_eq, decide_eq_false_iff_not, beq_iff_eq, bne_iff_ne, ne_eq, beq_eq_false_iff_ne, bne_eq_false_iff_eq, Bool.not_eq_true', Bool.not_eq_false', Bool.not_not, Bool.not_true, Bool.not_false, List.length_map, List.length_append, List.length_cons, List.length_nil] at g2n
    refine AR.skip rfl rfl rfl rfl rfl rfl g2 ?_
    refine AR.skip rfl rfl rfl rfl rfl rfl g2 ?_
    refine AR.step rfl rfl rfl (AO.pick_F rfl rfl g2 rfl ?_)
    refine AR.nil [18, 2] rfl ?_
    exact ⟨rfl, rfl, rfl, rfl⟩
  refine AR.step rfl rfl rfl (AO.calc' rfl ?_)
  apply AR.and 3 19 22 []
  · rfl
  · rfl
  · intro g3
    have g3n := g3
    try simp only [Bool.and_eq_true, Bool.or_eq_true, Bool.and_eq_false_iff, Bool.or_eq_false_iff, decide_eq_true_eq, decide_eq_false_iff_not, beq_iff_eq, bne_iff_ne, ne_eq, beq_eq_false_iff_ne, bne_eq_false_iff_eq, Bool.not_eq_true', Bool.not_eq_false', Bool.not_not, Bool.not_true, Bool.not_false, List.length_map, List.length_append, List.length_cons, List.length_nil] at g3n
    refine AR.run rfl rfl rfl rfl rfl rfl g3 ?_
    refine AR.step rfl rfl rfl (AO.calc' rfl ?_)
    refine AR.run rfl rfl rfl rfl rfl rfl g3 ?_
    refine AR.step rfl rfl rfl (AO.calc' rfl ?_)
    refine AR.step rfl rfl rfl (AO.pick_T rfl rfl g3 rfl ?_)
    refine AR.nil [22] rfl ?_
    exact ⟨rfl, rfl, rfl, rfl⟩
  · intro g3
    have g3n := g3
    try simp only [Bool.and_eq_true, Bool.or_eq_true, Bool.and_eq_false_iff, Bool.or_eq_false_iff, decide_eq_true_eq, decide_eq_false_iff_not, beq_iff_eq, bne_iff_ne, ne_eq, beq_eq_false_iff_ne, bne_eq_false_iff_eq, Bool.not_eq_true', Bool.not_eq_false', Bool.not_not, Bool.not_true, Bool.not_false, List.length_map, List.length_append, List.length_cons, List.length_nil] at g3n
    refine AR.skip rfl rfl rfl rfl rfl rfl g3 ?_
    refine AR.skip rfl rfl rfl rfl rfl rfl g3 ?_
    refine AR.step rfl rfl rfl (AO.pick_F rfl rfl g3 rfl ?_)
    refine AR.nil [22] rfl ?_
    exact ⟨rfl, rfl, rfl, rfl⟩
  refine AR.step rfl rfl rfl (AO.calc' rfl ?_)
  apply AR.and 4 23 27 []
  · rfl
  · rfl
  · intro g4
    have g4n := g4
    try simp only [Bool.and_eq_true, Bool.or_eq_true, Bool.and_eq_false_iff, Bool.or_eq_false_iff, decide_eq_true_eq, decide_eq_false_iff_not, beq_iff_eq, bne_iff_ne, ne_eq, beq_eq_false_iff_ne, bne_eq_false_iff_eq, Bool.not_eq_true', Bool.not_eq_false', Bool.not_not, Bool.not_true, Bool.not_false, List.length_map, List.length_append, List.length_cons, List.length_nil] at g4n
    refine AR.run rfl rfl rfl rfl rfl rfl g4 ?_
    refine AR.step rfl rfl rfl (AO.call rfl _ rfl rfl pf_10 (c_Mix 0#64 0#64 _ _ rfl rfl ?_))
    refine AR.run rfl rfl rfl rfl rfl rfl g4 ?_
    refine AR.step rfl rfl rfl (AO.call rfl _ rfl rfl pf_10 (c_Mix 0#64 1#64 _ _ rfl rfl ?_))
    refine AR.run rfl rfl rfl rfl rfl rfl g4 ?_
    refine AR.step rfl rfl rfl (AO.calc' rfl ?_)
    refine AR.step rfl rfl rfl (AO.pick_T rfl rfl g4 rfl ?_)
    refine AR.nil [27] rfl ?_
    exact ⟨rfl, rfl, rfl, rfl⟩
  · intro g4
    have g4n := g4
    try simp only [Bool.and_eq_true, Bool.or_eq_true, Bool.and_eq_false_iff, Bool.or_eq_false_iff, decide_eq_true_eq, decide_eq_false_iff_not, beq_iff_eq, bne_iff_ne, ne_eq, beq_eq_false_iff_ne, bne_eq_false_iff_eq, Bool.not_eq_true', Bool.not_eq_false', Bool.not_not, Bool.not_true, Bool.not_false, List.length_map, List.length_append, List.length_cons, List.length_nil] at g4n
    refine AR.skip rfl rfl rfl rfl rfl rfl g4 ?_
    refine AR.skip rfl rfl rfl rfl rfl rfl g4 ?_
    refine AR.skip rfl rfl rfl rfl rfl rfl g4 ?_
    refine AR.step rfl rfl rfl (AO.pick_F rfl rfl g4 rfl ?_)
    refine AR.nil [27] rfl ?_
    exact ⟨rfl, rfl, rfl, rfl⟩
  refine AR.step rfl rfl rfl (AO.calc' rfl ?_)
  refine AR.nil [0] rfl ?_
  refine AW.ret ?_
  refine ⟨rfl, _, ⟨_, _, rfl, rfl, rfl⟩, [], List.nil_sublist _, ?_⟩
  refine ret_eq h ?_
  exact congrArg PV.bool (by kernel_rfl)

theorem c_group (b : List UInt8) (at' : Nat) (bb : PV) (hb : bb = .list (b.map byteC)) (n : Int) (hn : n = (at' : Int)) (hat : at' ≤ 4611686018427387904) (hlen : b.length ≤ 9223372036854775807) {τ : List Res} {R : AOut → List Res → Prop}  (h : R (.ret (.int .u64 ((grpB (b.drop at')).toNat : Int))) τ) : AC Try.prog 26 [bb, .int .i64 n] τ R := by
  subst hb hn
  refine AC.none ?_
  refine AC.of_body 29 [.tmp 4] [0, 1] Try.func26 rfl rfl rfl rfl rfl ?_
  refine AW.seq ?_
  refine AW.region ?_
  refine AR.step rfl rfl rfl (AO.calc' rfl ?_)
  refine AR.nil [0, 1] rfl ?_
  refine AW.seq ?_
  refine AW.region ?_
  refine AR.step rfl rfl rfl (AO.calc' rfl ?_)
  refine AR.nil [0, 1, 5] rfl ?_
  refine AW.seq ?_
  refine AW.seq ?_
  refine AW.region ?_
  refine AR.step rfl rfl rfl (AO.calc' rfl ?_)
  refine AR.nil [0, 1, 5, 6] rfl ?_
  refine AW.block ?_
  refine AW.settle [0, 1, 5, 6] rfl ?_
  refine AW.loop (α := Nat) (fun k => [(0, .list (b.map byteC)), (1, .int .i64 (at' : Int)), (5, .int .u64 ((grpT (fun j => ((b.drop at').getD j 0).toNat) k : Nat) : Int)), (6, .int .i64 (7 - (k : Int)))]) (fun k => []) (fun k => k ≤ 8) (fun k => 8 - k) 0 rfl rfl ?_ ?_
  · first | trivial | omega | simp
  · intro q hI
    revert hI; revert q; intro k hI
    have hg := grpT_lt (fun j => ((b.drop at').getD j 0).toNat) (byte_lt (b.drop at')) k
    refine AW.seq ?_
    refine AW.seq ?_
    refine AW.region ?_
    refine AR.step rfl rfl rfl (AO.calc' rfl ?_)
    refine AR.step rfl rfl rfl (AO.calc' rfl ?_)
    refine AR.nil [0, 1, 5, 6, 8] rfl ?_
    refine AW.cond rfl (fun h1 => ?_) (fun h1 => ?_)
    · try simp only [Bool.and_eq_true, Bool.or_eq_true, Bool.and_eq_false_iff, Bool.or_eq_false_iff, decide_eq_true_eq, decide_eq_false_iff_not, beq_iff_eq, bne_iff_ne, ne_eq, beq_eq_false_iff_ne, bne_eq_false_iff_eq, Bool.not_eq_true', Bool.not_eq_false', Bool.not_not, Bool.not_true, Bool.not_false, List.length_map, List.length_append, List.length_cons, List.length_nil] at h1
      refine AW.skip ?_
      refine AW.seq ?_
      refine AW.block ?_
      refine AW.seq ?_
      have hp : 256 ^ k ≤ 256 ^ 7 := Nat.pow_le_pow_right (by omega) (by omega)
      have hp7 : 256 ^ 7 = 72057594037927936 := by decide
      refine AW.region ?_
      refine AR.step rfl rfl rfl (AO.calc' rfl ?_)
      first
        | refine AR.step rfl rfl rfl (AO.mul_nw rfl rfl rfl (wrap_u64 (by first | omega | (simp only [List.length_map, List.length_append, List.length_cons, List.length_nil] at *; omega)) (by first | omega | (simp only [List.length_map, List.length_append, List.length_cons, List.length_nil] at *; omega))) ?_)
        | refine AR.step rfl rfl rfl (AO.calc' rfl ?_)
      refine AR.step rfl rfl rfl (AO.calc' rfl ?_)
      refine AR.nil [0, 1, 5, 6] rfl ?_
      refine AW.seq ?_
      refine AW.region ?_
      refine AR.step rfl rfl rfl (AO.calc' rfl ?_)
      refine AR.step rfl rfl rfl (AO.calc' rfl ?_)
      first
        | refine AR.step rfl rfl rfl (AO.add_nw rfl rfl rfl (wrap_i64 (by first | omega | (simp only [List.length_map, List.length_append, List.length_cons, List.length_nil] at *; omega)) (by first | omega | (simp only [List.length_map, List.length_append, List.length_cons, List.length_nil] at *; omega))) ?_)
        | refine AR.step rfl rfl rfl (AO.calc' rfl ?_)
      refine AR.step rfl rfl rfl (AO.calc' rfl ?_)
      refine AR.step rfl rfl rfl (AO.len_slice rfl rfl rfl rfl es_35 rfl ?_)
      refine AR.step rfl rfl rfl (AO.calc' rfl ?_)
      refine AR.nil [0, 1, 5, 6, 18] rfl ?_
      refine AW.cond rfl (fun h2 => ?_) (fun h2 => ?_)
      · try simp only [Bool.and_eq_true, Bool.or_eq_true, Bool.and_eq_false_iff, Bool.or_eq_false_iff, decide_eq_true_eq, decide_eq_false_iff_not, beq_iff_eq, bne_iff_ne, ne_eq, beq_eq_false_iff_ne, bne_eq_false_iff_eq, Bool.not_eq_true', Bool.not_eq_false', Bool.not_not, Bool.not_true, Bool.not_false, List.length_map, List.length_append, List.length_cons, List.length_nil] at h2
        have hbb := byte_lt b ((at' : Int) + (7 - (k : Int))).toNat
        refine AW.region ?_
        refine AR.step rfl rfl rfl (AO.calc' rfl ?_)
        refine AR.step rfl rfl rfl (AO.calc' rfl ?_)
        refine AR.step rfl rfl rfl (AO.calc' rfl ?_)
        refine AR.step rfl rfl rfl (AO.calc' rfl ?_)
        first
          | refine AR.step rfl rfl rfl (AO.add_nw rfl rfl rfl (wrap_i64 (by first | omega | (simp only [List.length_map, List.length_append, List.length_cons, List.length_nil] at *; omega)) (by first | omega | (simp only [List.length_map, List.length_append, List.length_cons, List.length_nil] at *; omega))) ?_)
          | refine AR.step rfl rfl rfl (AO.calc' rfl ?_)
        refine AR.step rfl rfl rfl (AO.indexAddr rfl rfl rfl es_35 (by first | omega | (simp only [List.length_map, List.length_append, List.length_cons, List.length_nil] at *; omega)) (getCI b _ (by omega)) rfl ?_)
        refine AR.step rfl rfl rfl (AO.load_ref rfl rfl ti_5 rfl ?_)
        first
          | refine AR.step rfl rfl rfl (AO.conv_byte rfl un_5 un_22 rfl rfl ?_)
          | refine AR.step rfl rfl rfl (AO.conv_nw rfl un_5 un_22 rfl (wrap_u64 (by first | omega | (simp only [List.length_map, List.length_append, List.length_cons, List.length_nil] at *; omega)) (by first | omega | (simp only [List.length_map, List.length_append, List.length_cons, List.length_nil] at *; omega))) ?_)
          | refine AR.step rfl rfl rfl (AO.conv_int rfl un_5 un_22 rfl ?_)
        first
          | refine AR.step rfl rfl rfl (AO.add_nw rfl rfl rfl (wrap_u64 (by first | omega | (simp only [List.length_map, List.length_append, List.length_cons, List.length_nil] at *; omega)) (by first | omega | (simp only [List.length_map, List.length_append, List.length_cons, List.length_nil] at *; omega))) ?_)
          | refine AR.step rfl rfl rfl (AO.calc' rfl ?_)
        refine AR.step rfl rfl rfl (AO.calc' rfl ?_)
        refine AR.nil [0, 1, 5, 6] rfl ?_
        refine AW.region ?_
        refine AR.step rfl rfl rfl (AO.calc' rfl ?_)
        first
          | refine AR.step rfl rfl rfl (AO.sub_nw rfl rfl rfl (wrap_i64 (by first | omega | (simp only [List.length_map, List.length_append, List.length_cons, List.length_nil] at *; omega)) (by first | omega | (simp only [List.length_map, List.length_append, List.length_cons, List.length_nil] at *; omega))) ?_)
          | refine AR.step rfl rfl rfl (AO.calc' rfl ?_)
        refine AR.step rfl rfl rfl (AO.calc' rfl ?_)
        refine AR.nil [0, 1, 5, 6] rfl ?_
        refine ⟨k + 1, ?_, rfl, rfl, ?_, ?_⟩
        · first | (rw [grpT_T b at' k (by omega), seven]) | (rw [grpT_F b at' k (by omega), seven])
        · omega
        · first | omega | (simp; omega)
      · try simp only [Bool.and_eq_true, Bool.or_eq_true, Bool.and_eq_false_iff, Bool.or_eq_false_iff, decide_eq_true_eq, decide_eq_false_iff_not, beq_iff_eq, bne_iff_ne, ne_eq, beq_eq_false_iff_ne, bne_eq_false_iff_eq, Bool.not_eq_true', Bool.not_eq_false', Bool.not_not, Bool.not_true, Bool.not_false, List.length_map, List.length_append, List.length_cons, List.length_nil] at h2
        refine AW.skip ?_
        refine AW.region ?_
        refine AR.step rfl rfl rfl (AO.calc' rfl ?_)
        first
          | refine AR.step rfl rfl rfl (AO.sub_nw rfl rfl rfl (wrap_i64 (by first | omega | (simp only [List.length_map, List.length_append, List.length_cons, List.length_nil] at *; omega)) (by first | omega | (simp only [List.length_map, List.length_append, List.length_cons, List.length_nil] at *; omega))) ?_)
          | refine AR.step rfl rfl rfl (AO.calc' rfl ?_)
        refine AR.step rfl rfl rfl (AO.calc' rfl ?_)
        refine AR.nil [0, 1, 5, 6] rfl ?_
        refine ⟨k + 1, ?_, rfl, rfl, ?_, ?_⟩
        · first | (rw [grpT_T b at' k (by omega), seven]) | (rw [grpT_F b at' k (by omega), seven])
        · omega
        · first | omega | (simp; omega)
    · try simp only [Bool.and_eq_true, Bool.or_eq_true, Bool.and_eq_false_iff, Bool.or_eq_false_iff, decide_eq_true_eq, decide_eq_false_iff_not, beq_iff_eq, bne_iff_ne, ne_eq, beq_eq_false_iff_ne, bne_eq_false_iff_eq, Bool.not_eq_true', Bool.not_eq_false', Bool.not_not, Bool.not_true, Bool.not_false, List.length_map, List.length_append, List.length_cons, List.length_nil] at h1
      refine AW.exit ?_
      refine AW.seq ?_
      refine AW.region ?_
      refine AR.step rfl rfl rfl (AO.calc' rfl ?_)
      refine AR.step rfl rfl rfl (AO.calc' rfl ?_)
      refine AR.nil [4] rfl ?_
      refine AW.ret ?_
      refine ⟨rfl, _, ⟨_, _, rfl, rfl, rfl⟩, [], List.nil_sublist _, ?_⟩
      refine ret_eq h ?_
      obtain rfl : k = 8 := by omega
      rw [← grpT_grpB]
      rfl

theorem c_Sum (b : List UInt8) (bb : PV) (hlen : b.length ≤ 4611686018427387904) {τ : List Res} {R : AOut → List Res → Prop} (hb : bb = .list (b.map byteC)) (h : R (.ret (.int .u64 ((sumB b).toNat : Int))) τ) : AC Try.prog 19 [bb] τ R := by
  subst hb
  refine AC.none ?_
  refine AC.of_body 44 [.tmp 2] [0] Try.func19 rfl rfl rfl rfl rfl ?_
  refine AW.seq ?_
  refine AW.region ?_
  refine AR.step rfl rfl rfl (AO.calc' rfl ?_)
  refine AR.nil [0] rfl ?_
  refine AW.seq ?_
  refine AW.region ?_
  refine AR.step rfl rfl rfl (AO.calc' rfl ?_)
  refine AR.step rfl rfl rfl (AO.len_slice rfl rfl rfl rfl es_35 rfl ?_)
  first
    | refine AR.step rfl rfl rfl (AO.conv_nw rfl un_3 un_22 rfl (wrap_u64 (by first | omega | (simp only [List.length_map, List.length_append, List.length_cons, List.length_nil] at *; omega)) (by first | omega | (simp only [List.length_map, List.length_append, List.length_cons, List.length_nil] at *; omega))) ?_)
    | refine AR.step rfl rfl rfl (AO.conv_int rfl un_3 un_22 rfl ?_)
  refine AR.step rfl rfl rfl (AO.call rfl _ rfl rfl pf_10 (c_Mix (BitVec.ofNat 64 b.length) 0#64 _ _ (by rw [BitVec.toNat_ofNat, Nat.mod_eq_of_lt (by omega), List.length_map]) rfl ?_))
  refine AR.step rfl rfl rfl (AO.calc' rfl ?_)
  refine AR.nil [0, 3] rfl ?_
  refine AW.seq ?_
  refine AW.block ?_
  refine AW.settle [0, 3] rfl ?_
  refine AW.loop (α := Nat) (fun k => [(0, .list ((b.drop (8 * k)).map byteC)), (3, .int .u64 ((sumSt b k).toNat : Int))]) (fun k => []) (fun k => 8 * k < b.length + 8) (fun k => b.length + 8 - 8 * k) 0 rfl rfl ?_ ?_
  · first | trivial | omega | simp
  · intro q hI
    revert hI; revert q; intro k hI
    have hd := List.length_drop (i := 8 * k) (l := b)
    have ht := List.length_take (i := 8) (l := b.drop (8 * k))
    refine AW.seq ?_
    refine AW.seq ?_
    refine AW.region ?_
    refine AR.step rfl rfl rfl (AO.calc' rfl ?_)
    refine AR.step rfl rfl rfl (AO.len_slice rfl rfl rfl rfl es_35 rfl ?_)
    refine AR.step rfl rfl rfl (AO.calc' rfl ?_)
    refine AR.nil [0, 3, 14] rfl ?_
    refine AW.cond rfl (fun h1 => ?_) (fun h1 => ?_)
    · try simp only [Bool.and_eq_true, Bool.or_eq_true, Bool.and_eq_false_iff, Bool.or_eq_false_iff, decide_eq_true_eq, decide_eq_false_iff_not, beq_iff_eq, bne_iff_ne, ne_eq, beq_eq_false_iff_ne, bne_eq_false_iff_eq, Bool.not_eq_true', Bool.not_eq_false', Bool.not_not, Bool.not_true, Bool.not_false, List.length_map, List.length_append, List.length_cons, List.length_nil] at h1
      refine AW.skip ?_
      refine AW.block ?_
      refine AW.seq ?_
      refine AW.region ?_
      refine AR.step rfl rfl rfl (AO.calc' rfl ?_)
      refine AR.step rfl rfl rfl (AO.len_slice rfl rfl rfl rfl es_35 rfl ?_)
      refine AR.step rfl rfl rfl (AO.min2E (r := ((min 8 (b.drop (8 * k)).length : Nat) : Int)) rfl rfl rfl rfl rfl (by simp only [List.length_map]; split <;> omega) ?_)
      refine AR.step rfl rfl rfl (AO.calc' rfl ?_)
      refine AR.nil [0, 3, 4] rfl ?_
      refine AW.seq ?_
      refine AW.region ?_
      refine AR.step rfl rfl rfl (AO.calc' rfl ?_)
      refine AR.nil [0, 3, 4, 5] rfl ?_
      refine AW.seq ?_
      refine AW.seq ?_
      refine AW.region ?_
      refine AR.step rfl rfl rfl (AO.calc' rfl ?_)
      refine AR.step rfl rfl rfl (AO.calc' rfl ?_)
      refine AR.step rfl rfl rfl (AO.slice_list rfl es_35 rfl (byteC_len _) rfl ⟨_, rfl⟩ (by first | omega | (simp only [List.length_map, List.length_append, List.length_cons, List.length_nil] at *; omega)) (by first | omega | (simp only [List.length_map, List.length_append, List.length_cons, List.length_nil] at *; omega)) ?_)
      refine AR.step rfl rfl rfl (AO.len_slice rfl rfl rfl rfl es_35 rfl ?_)
      refine AR.step rfl rfl rfl (AO.calc' rfl ?_)
      refine AR.nil [0, 3, 4, 5, 20, 21, 22] rfl ?_
      refine AW.block ?_
      refine AW.settle [0, 3, 4, 5, 20, 21, 22] rfl ?_
      refine AW.loop (α := Nat) (fun i => [(0, .list ((b.drop (8 * k)).map byteC)), (3, .int .u64 ((sumSt b k).toNat : Int)), (4, .int .i64 ((min 8 (b.drop (8 * k)).length : Nat) : Int)), (5, .int .u64 ((grpI (b.drop (8 * k)) i).toNat : Int)), (20, .list (((b.drop (8 * k)).take 8).map byteC)), (21, .int .i64 ((((b.drop (8 * k)).take 8).map byteC).length : Int)), (22, .int .i64 (i : Int))]) (fun i => []) (fun i => i ≤ ((b.drop (8 * k)).take 8).length) (fun i => ((b.drop (8 * k)).take 8).length - i) 0 (by rw [chunk_eq]; rfl) rfl ?_ ?_
      · first | trivial | omega | simp
      · intro q hI
        revert hI; revert q; intro i hI
        refine AW.seq ?_
        refine AW.region ?_
        refine AR.step rfl rfl rfl (AO.calc' rfl ?_)
        refine AR.nil [0, 3, 4, 5, 20, 21, 22, 23] rfl ?_
        refine AW.seq ?_
        refine AW.cond rfl (fun h2 => ?_) (fun h2 => ?_)
        · try simp only [Bool.and_eq_true, Bool.or_eq_true, Bool.and_eq_false_iff, Bool.or_eq_false_iff, decide_eq_true_eq, decide_eq_false_iff_not, beq_iff_eq, bne_iff_ne, ne_eq, beq_eq_false_iff_ne, bne_eq_false_iff_eq, Bool.not_eq_true', Bool.not_eq_false', Bool.not_not, Bool.not_true, Bool.not_false, List.length_map, List.length_append, List.length_cons, List.length_nil] at h2
          refine AW.skip ?_
          refine AW.seq ?_
          refine AW.block ?_
          refine AW.seq ?_
          refine AW.region ?_
          refine AR.step rfl rfl rfl (AO.calc' rfl ?_)
          refine AR.step rfl rfl rfl (AO.indexAddr rfl rfl rfl es_35 (by first | omega | (simp only [List.length_map, List.length_append, List.length_cons, List.length_nil] at *; omega)) (getCT _ 8 i (by omega)) rfl ?_)
          refine AR.step rfl rfl rfl (AO.load_ref rfl rfl ti_5 rfl ?_)
          refine AR.step rfl rfl rfl (AO.calc' rfl ?_)
          refine AR.step rfl rfl rfl (AO.calc' rfl ?_)
          refine AR.nil [0, 3, 4, 5, 6, 7, 20, 21, 22] rfl ?_
          refine AW.region ?_
          refine AR.step rfl rfl rfl (AO.calc' rfl ?_)
          refine AR.step rfl rfl rfl (AO.calc' rfl ?_)
          first
            | refine AR.step rfl rfl rfl (AO.conv_byte rfl un_5 un_22 rfl rfl ?_)
            | refine AR.step rfl rfl rfl (AO.conv_nw rfl un_5 un_22 rfl (wrap_u64 (by first | omega | (simp only [List.length_map, List.length_append, List.length_cons, List.length_nil] at *; omega)) (by first | omega | (simp only [List.length_map, List.length_append, List.length_cons, List.length_nil] at *; omega))) ?_)
            | refine AR.step rfl rfl rfl (AO.conv_int rfl un_5 un_22 rfl ?_)
          refine AR.step rfl rfl rfl (AO.calc' rfl ?_)
          first
            | refine AR.step rfl rfl rfl (AO.mul_nw rfl rfl rfl (wrap_i64 (by first | omega | (simp only [List.length_map, List.length_append, List.length_cons, List.length_nil] at *; omega)) (by first | omega | (simp only [List.length_map, List.length_append, List.length_cons, List.length_nil] at *; omega))) ?_)
            | refine AR.step rfl rfl rfl (AO.calc' rfl ?_)
          refine AR.step rfl rfl rfl (AO.shl rfl rfl rfl (by first | omega | (simp only [List.length_map, List.length_append, List.length_cons, List.length_nil] at *; omega)) ?_)
          refine AR.step rfl rfl rfl (AO.calc' rfl ?_)
          refine AR.step rfl rfl rfl (AO.calc' rfl ?_)
          refine AR.nil [0, 3, 4, 5, 20, 21, 22] rfl ?_
          refine AW.region ?_
          first
            | refine AR.step rfl rfl rfl (AO.add_nw rfl rfl rfl (wrap_i64 (by first | omega | (simp only [List.length_map, List.length_append, List.length_cons, List.length_nil] at *; omega)) (by first | omega | (simp only [List.length_map, List.length_append, List.length_cons, List.length_nil] at *; omega))) ?_)
            | refine AR.step rfl rfl rfl (AO.calc' rfl ?_)
          refine AR.step rfl rfl rfl (AO.calc' rfl ?_)
          refine AR.nil [0, 3, 4, 5, 20, 21, 22] rfl ?_
          refine ⟨i + 1, ?_, rfl, rfl, ?_, ?_⟩
          · rw [or_byte_shl _ _ _ (8 * i) (by rw [bits64]; omega)]; rfl
          · first | trivial | omega | simp
          · first | omega | (simp; omega)
        · try simp only [Bool.and_eq_true, Bool.or_eq_true, Bool.and_eq_false_iff, Bool.or_eq_false_iff, decide_eq_true_eq, decide_eq_false_iff_not, beq_iff_eq, bne_iff_ne, ne_eq, beq_eq_false_iff_ne, bne_eq_false_iff_eq, Bool.not_eq_true', Bool.not_eq_false', Bool.not_not, Bool.not_true, Bool.not_false, List.length_map, List.length_append, List.length_cons, List.length_nil] at h2
          refine AW.exit ?_
          refine AW.seq ?_
          refine AW.region ?_
          refine AR.step rfl rfl rfl (AO.calc' rfl ?_)
          refine AR.step rfl rfl rfl (AO.calc' rfl ?_)
          refine AR.step rfl rfl rfl (AO.call rfl _ rfl rfl pf_10 (c_Mix (grpB (b.drop (8 * k))) (sumSt b k) _ _ (by rw [grpI_end _ i (by omega)]) rfl ?_))
          refine AR.step rfl rfl rfl (AO.calc' rfl ?_)
          refine AR.step rfl rfl rfl (AO.calc' rfl ?_)
          refine AR.step rfl rfl rfl (AO.calc' rfl ?_)
          refine AR.nil [0, 3, 4] rfl ?_
          refine AW.region ?_
          refine AR.step rfl rfl rfl (AO.calc' rfl ?_)
          refine AR.step rfl rfl rfl (AO.calc' rfl ?_)
          refine AR.step rfl rfl rfl (AO.slice_list rfl es_35 rfl (byteC_len _) ⟨_, rfl⟩ rfl (by first | omega | (simp only [List.length_map, List.length_append, List.length_cons, List.length_nil] at *; omega)) (by first | omega | (simp only [List.length_map, List.length_append, List.length_cons, List.length_nil] at *; omega)) ?_)
          refine AR.step rfl rfl rfl (AO.calc' rfl ?_)
          refine AR.nil [0, 3] rfl ?_
          refine ⟨k + 1, ?_, rfl, rfl, ?_, ?_⟩
          · rw [chunk_next, xor_u64, ofInt_toNat, grpI_end _ i (by omega), ofInt_toNat]; rfl
          · first | trivial | omega | simp
          · first | omega | (simp; omega)
    · try simp only [Bool.and_eq_true, Bool.or_eq_true, Bool.and_eq_false_iff, Bool.or_eq_false_iff, decide_eq_true_eq, decide_eq_false_iff_not, beq_iff_eq, bne_iff_ne, ne_eq, beq_eq_false_iff_ne, bne_eq_false_iff_eq, Bool.not_eq_true', Bool.not_eq_false', Bool.not_not, Bool.not_true, Bool.not_false, List.length_map, List.length_append, List.length_cons, List.length_nil] at h1
      refine AW.exit ?_
      refine AW.seq ?_
      refine AW.region ?_
      refine AR.step rfl rfl rfl (AO.calc' rfl ?_)
      refine AR.step rfl rfl rfl (AO.calc' rfl ?_)
      refine AR.nil [2] rfl ?_
      refine AW.ret ?_
      refine ⟨rfl, _, ⟨_, _, rfl, rfl, rfl⟩, [], List.nil_sublist _, ?_⟩
      refine ret_eq h ?_
      rw [sum_end b k (by omega) (by omega)]
      rfl

theorem c_RSum (b : List UInt8) (bb : PV) (hlen : b.length ≤ 4611686018427387904) {τ : List Res} {R : AOut → List Res → Prop} (hb : bb = .list (b.map byteC)) (h : R (.ret (.int .u64 ((sumB b).toNat : Int))) τ) : AC Try.prog 20 [bb] τ R := by
  subst hb
  refine AC.none ?_
  refine AC.of_body 25 [.tmp 2] [0] Try.func20 rfl rfl rfl rfl rfl ?_
  refine AW.seq ?_
  refine AW.region ?_
  refine AR.step rfl rfl rfl (AO.calc' rfl ?_)
  refine AR.nil [0] rfl ?_
  refine AW.seq ?_
  refine AW.region ?_
  refine AR.step rfl rfl rfl (AO.calc' rfl ?_)
  refine AR.step rfl rfl rfl (AO.len_slice rfl rfl rfl rfl es_35 rfl ?_)
  first
    | refine AR.step rfl rfl rfl (AO.conv_nw rfl un_3 un_22 rfl (wrap_u64 (by first | omega | (simp only [List.length_map, List.length_append, List.length_cons, List.length_nil] at *; omega)) (by first | omega | (simp only [List.length_map, List.length_append, List.length_cons, List.length_nil] at *; omega))) ?_)
    | refine AR.step rfl rfl rfl (AO.conv_int rfl un_3 un_22 rfl ?_)
  refine AR.step rfl rfl rfl (AO.call rfl _ rfl rfl pf_11 (c_RMix (BitVec.ofNat 64 b.length) 0#64 _ _ (by rw [BitVec.toNat_ofNat, Nat.mod_eq_of_lt (by omega), List.length_map]) rfl ?_))
  refine AR.step rfl rfl rfl (AO.calc' rfl ?_)
  refine AR.nil [0, 3] rfl ?_
  refine AW.seq ?_
  refine AW.seq ?_
  refine AW.region ?_
  refine AR.step rfl rfl rfl (AO.calc' rfl ?_)
  refine AR.nil [0, 3, 4] rfl ?_
  refine AW.block ?_
  refine AW.settle [0, 3, 4] rfl ?_
  refine AW.loop (α := Nat) (fun k => [(0, .list (b.map byteC)), (3, .int .u64 ((sumSt b k).toNat : Int)), (4, .int .i64 ((8 * k : Nat) : Int))]) (fun k => []) (fun k => 8 * k < b.length + 8) (fun k => b.length + 8 - 8 * k) 0 rfl rfl ?_ ?_
  · first | trivial | omega | simp
  · intro q hI
    revert hI; revert q; intro k hI
    refine AW.seq ?_
    refine AW.seq ?_
    refine AW.region ?_
    refine AR.step rfl rfl rfl (AO.calc' rfl ?_)
    refine AR.step rfl rfl rfl (AO.calc' rfl ?_)
    refine AR.step rfl rfl rfl (AO.len_slice rfl rfl rfl rfl es_35 rfl ?_)
    refine AR.step rfl rfl rfl (AO.calc' rfl ?_)
    refine AR.nil [0, 3, 4, 13] rfl ?_
    refine AW.cond rfl (fun h1 => ?_) (fun h1 => ?_)
    · try simp only [Bool.and_eq_true, Bool.or_eq_true, Bool.and_eq_false_iff, Bool.or_eq_false_iff, decide_eq_true_eq, decide_eq_false_iff_not, beq_iff_eq, bne_iff_ne, ne_eq, beq_eq_false_iff_ne, bne_eq_false_iff_eq, Bool.not_eq_true', Bool.not_eq_false', Bool.not_not, Bool.not_true, Bool.not_false, List.length_map, List.length_append, List.length_cons, List.length_nil] at h1
      refine AW.skip ?_
      refine AW.seq ?_
      refine AW.block ?_
      refine AW.seq ?_
      refine AW.region ?_
      refine AR.step rfl rfl rfl (AO.calc' rfl ?_)
      refine AR.step rfl rfl rfl (AO.calc' rfl ?_)
      refine AR.step rfl rfl rfl (AO.call rfl _ rfl rfl pf_26 (c_group b (8 * k) _ rfl _ rfl (by omega) (by omega) ?_))
      refine AR.step rfl rfl rfl (AO.calc' rfl ?_)
      refine AR.nil [0, 3, 4, 5] rfl ?_
      refine AW.region ?_
      refine AR.step rfl rfl rfl (AO.calc' rfl ?_)
      refine AR.step rfl rfl rfl (AO.calc' rfl ?_)
      refine AR.step rfl rfl rfl (AO.call rfl _ rfl rfl pf_11 (c_RMix (grpB (b.drop (8 * k))) (sumSt b k) _ _ rfl rfl ?_))
      refine AR.step rfl rfl rfl (AO.calc' rfl ?_)
      refine AR.step rfl rfl rfl (AO.calc' rfl ?_)
      refine AR.step rfl rfl rfl (AO.calc' rfl ?_)
      refine AR.nil [0, 3, 4] rfl ?_
      refine AW.region ?_
      refine AR.step rfl rfl rfl (AO.calc' rfl ?_)
      first
        | refine AR.step rfl rfl rfl (AO.add_nw rfl rfl rfl (wrap_i64 (by first | omega | (simp only [List.length_map, List.length_append, List.length_cons, List.length_nil] at *; omega)) (by first | omega | (simp only [List.length_map, List.length_append, List.length_cons, List.length_nil] at *; omega))) ?_)
        | refine AR.step rfl rfl rfl (AO.calc' rfl ?_)
      refine AR.step rfl rfl rfl (AO.calc' rfl ?_)
      refine AR.nil [0, 3, 4] rfl ?_
      refine ⟨k + 1, ?_, rfl, rfl, ?_, ?_⟩
      · rw [xor_u64, ofInt_toNat, ofInt_toNat]; rfl
      · first | trivial | omega | simp
      · first | omega | (simp; omega)
    · try simp only [Bool.and_eq_true, Bool.or_eq_true, Bool.and_eq_false_iff, Bool.or_eq_false_iff, decide_eq_true_eq, decide_eq_false_iff_not, beq_iff_eq, bne_iff_ne, ne_eq, beq_eq_false_iff_ne, bne_eq_false_iff_eq, Bool.not_eq_true', Bool.not_eq_false', Bool.not_not, Bool.not_true, Bool.not_false, List.length_map, List.length_append, List.length_cons, List.length_nil] at h1
      refine AW.exit ?_
      refine AW.seq ?_
      refine AW.region ?_
      refine AR.step rfl rfl rfl (AO.calc' rfl ?_)
      refine AR.step rfl rfl rfl (AO.calc' rfl ?_)
      refine AR.nil [2] rfl ?_
      refine AW.ret ?_
      refine ⟨rfl, _, ⟨_, _, rfl, rfl, rfl⟩, [], List.nil_sublist _, ?_⟩
      refine ret_eq h ?_
      rw [sum_end b k (by omega) (by omega)]
      rfl

theorem c_Of (s : List UInt8) (ps : List (BitVec 64)) (pp : PV) (hpp : pp = .list (ps.map fun d : BitVec 64 => [PV.int .u64 (d.toNat : Int)])) (hs : s.length ≤ 300) (hp : ps.length ≤ 100) {τ : List Res} {R : AOut → List Res → Prop}  (h : R (.ret (.int .u64 ((ofB s ps).toNat : Int))) τ) : AC Try.prog 21 [.str s, pp] τ R := by
  subst hpp
  refine AC.none ?_
  refine AC.of_body 34 [.tmp 4] [0, 1] Try.func21 rfl rfl rfl rfl rfl ?_
  refine AW.seq ?_
  refine AW.region ?_
  refine AR.step rfl rfl rfl (AO.calc' rfl ?_)
  refine AR.nil [0, 1] rfl ?_
  refine AW.seq ?_
  refine AW.region ?_
  refine AR.step rfl rfl rfl (AO.calc' rfl ?_)
  refine AR.step rfl rfl rfl (AO.str_bytes_own rfl un_9 un_35 un_5 rfl (by unfold maxLen; first | omega | (simp only [List.length_map, List.length_append, List.length_cons, List.length_nil] at *; omega)) (fun v10 => ?_))
  refine AR.step rfl rfl rfl (AO.buildSlice rfl sf_35 rfl rfl rfl ?_)
  refine AR.step rfl rfl rfl (AO.append (i := 0) rfl rfl rfl rfl rfl rfl rfl sf_35 es_35 (by simp) (byteC_len _) (by simp) (by simp [PV.one]) (by unfold maxLen; simp; omega) (by simp; omega) (fun v12 σ12 hσ12 => ?_))
  cases hσ12
  refine AR.step rfl rfl rfl (AO.calc' rfl ?_)
  refine AR.nil [1, 5] rfl ?_
  refine AW.seq ?_
  refine AW.seq ?_
  refine AW.region ?_
  refine AR.step rfl rfl rfl (AO.calc' rfl ?_)
  refine AR.step rfl rfl rfl (AO.len_slice rfl rfl rfl rfl es_41 rfl ?_)
  refine AR.step rfl rfl rfl (AO.calc' rfl ?_)
  refine AR.nil [5, 13, 14, 15] rfl ?_
  refine AW.block ?_
  refine AW.settle [5, 13, 14, 15] rfl ?_
  refine AW.loop (α := Nat × Value) (fun q => [(5, .own q.2 ((preB s (ps.take q.1)).map byteC)), (13, .list (ps.map fun d : BitVec 64 => [PV.int .u64 (d.toNat : Int)])), (14, .int .i64 (ps.length : Int)), (15, .int .i64 (q.1 : Int))]) (fun q => [.row q.2 (preB s (ps.take q.1)).length 1 5]) (fun q => q.1 ≤ ps.length) (fun q => ps.length - q.1) (0, v12) (by simp [preB, byteC]) (by simp [preB_len]) ?_ ?_
  · first | trivial | omega | simp
  · intro q hI
    revert hI; revert q; intro q hI
    refine AW.seq ?_
    refine AW.region ?_
    refine AR.step rfl rfl rfl (AO.calc' rfl ?_)
    refine AR.nil [5, 13, 14, 15, 16] rfl ?_
    refine AW.seq ?_
    refine AW.cond rfl (fun h1 => ?_) (fun h1 => ?_)
    · try simp only [Bool.and_eq_true, Bool.or_eq_true, Bool.and_eq_false_iff, Bool.or_eq_false_iff, decide_eq_true_eq, decide_eq_false_iff_not, beq_iff_eq, bne_iff_ne, ne_eq, beq_eq_false_iff_ne, bne_eq_false_iff_eq, Bool.not_eq_true', Bool.not_eq_false', Bool.not_not, Bool.not_true, Bool.not_false, List.length_map, List.length_append, List.length_cons, List.length_nil] at h1
      refine AW.skip ?_
      refine AW.seq ?_
      refine AW.block ?_
      refine AW.seq ?_
      refine AW.region ?_
      obtain ⟨d, hd⟩ : ∃ d, ps[q.1]? = some d := ⟨_, List.getElem?_eq_getElem (by omega)⟩
      refine AR.step rfl rfl rfl (AO.indexAddr rfl rfl rfl es_41 (by first | omega | (simp only [List.length_map, List.length_append, List.length_cons, List.length_nil] at *; omega)) (getM hd) rfl ?_)
      refine AR.step rfl rfl rfl (AO.load_ref rfl rfl ti_27 rfl ?_)
      refine AR.step rfl rfl rfl (AO.calc' rfl ?_)
      refine AR.nil [5, 7, 13, 14, 15] rfl ?_
      refine AW.seq ?_
      refine AW.region ?_
      refine AR.step rfl rfl rfl (AO.calc' rfl ?_)
      refine AR.nil [5, 7, 13, 14, 15, 19] rfl ?_
      refine AW.block ?_
      refine AW.settle [5, 7, 13, 14, 15, 19] rfl ?_
      refine AW.loop (α := Nat × Value) (fun p => [(5, .own p.2 ((preB s (ps.take q.1) ++ (le8 d).take p.1).map byteC)), (7, .int .u64 (d.toNat : Int)), (13, .list (ps.map fun d : BitVec 64 => [PV.int .u64 (d.toNat : Int)])), (14, .int .i64 (ps.length : Int)), (15, .int .i64 (q.1 : Int)), (19, .int .i64 (p.1 : Int))]) (fun p => [.row p.2 (preB s (ps.take q.1) ++ (le8 d).take p.1).length 1 5]) (fun p => p.1 ≤ 8) (fun p => 8 - p.1) (0, q.2) (by simp) (by simp) ?_ ?_
      · first | trivial | omega | simp
      · intro q hI
        revert hI; revert q; intro p hI
        have hL1 := preB_len s (ps.take q.1)
        have hL2 := List.length_take (i := q.1) (l := ps)
        have hL3 := le8_len d
        have hL4 := List.length_take (i := p.1) (l := le8 d)
        refine AW.seq ?_
        refine AW.region ?_
        refine AR.step rfl rfl rfl (AO.calc' rfl ?_)
        refine AR.nil [5, 7, 13, 14, 15, 19, 20] rfl ?_
        refine AW.seq ?_
        refine AW.cond rfl (fun h2 => ?_) (fun h2 => ?_)
        · try simp only [Bool.and_eq_true, Bool.or_eq_true, Bool.and_eq_false_iff, Bool.or_eq_false_iff, decide_eq_true_eq, decide_eq_false_iff_not, beq_iff_eq, bne_iff_ne, ne_eq, beq_eq_false_iff_ne, bne_eq_false_iff_eq, Bool.not_eq_true', Bool.not_eq_false', Bool.not_not, Bool.not_true, Bool.not_false, List.length_map, List.length_append, List.length_cons, List.length_nil] at h2
          refine AW.skip ?_
          refine AW.seq ?_
          refine AW.block ?_
          refine AW.seq ?_
          refine AW.region ?_
          refine AR.step rfl rfl rfl (AO.calc' rfl ?_)
          refine AR.step rfl rfl rfl (AO.calc' rfl ?_)
          refine AR.nil [5, 7, 8, 13, 14, 15, 19] rfl ?_
          refine AW.region ?_
          refine AR.step rfl rfl rfl (AO.calc' rfl ?_)
          refine AR.step rfl rfl rfl (AO.calc' rfl ?_)
          refine AR.step rfl rfl rfl (AO.calc' rfl ?_)
          first
            | refine AR.step rfl rfl rfl (AO.mul_nw rfl rfl rfl (wrap_i64 (by first | omega | (simp only [List.length_map, List.length_append, List.length_cons, List.length_nil] at *; omega)) (by first | omega | (simp only [List.length_map, List.length_append, List.length_cons, List.length_nil] at *; omega))) ?_)
            | refine AR.step rfl rfl rfl (AO.calc' rfl ?_)
          refine AR.step rfl rfl rfl (AO.shr rfl rfl rfl (by first | omega | (simp only [List.length_map, List.length_append, List.length_cons, List.length_nil] at *; omega)) ?_)
          first
            | refine AR.step rfl rfl rfl (AO.conv_nw rfl un_27 un_5 rfl (wrap_u8 (by first | omega | (simp only [List.length_map, List.length_append, List.length_cons, List.length_nil] at *; omega)) (by first | omega | (simp only [List.length_map, List.length_append, List.length_cons, List.length_nil] at *; omega))) ?_)
            | refine AR.step rfl rfl rfl (AO.conv_int rfl un_27 un_5 rfl ?_)
          refine AR.step rfl rfl rfl (AO.buildSlice rfl sf_35 rfl rfl rfl ?_)
          refine AR.step rfl rfl rfl (AO.append (i := 0) rfl rfl rfl rfl rfl rfl rfl sf_35 es_35 (by simp) (byteC_len _) (by simp) (by simp [PV.one]) (by unfold maxLen; simp; omega) (by simp; omega) (fun v29 σ29 hσ29 => ?_))
          cases hσ29
          refine AR.step rfl rfl rfl (AO.calc' rfl ?_)
          refine AR.nil [5, 7, 13, 14, 15, 19] rfl ?_
          refine AW.region ?_
          first
            | refine AR.step rfl rfl rfl (AO.add_nw rfl rfl rfl (wrap_i64 (by first | omega | (simp only [List.length_map, List.length_append, List.length_cons, List.length_nil] at *; omega)) (by first | omega | (simp only [List.length_map, List.length_append, List.length_cons, List.length_nil] at *; omega))) ?_)
            | refine AR.step rfl rfl rfl (AO.calc' rfl ?_)
          refine AR.step rfl rfl rfl (AO.calc' rfl ?_)
          refine AR.nil [5, 7, 13, 14, 15, 19] rfl ?_
          refine ⟨(p.1 + 1, v29), ?_, (by rw [le8_take d p.1 (by omega)]; simp [Nat.add_assoc]), rfl, ?_, ?_⟩
          · rw [le8_take d p.1 (by omega), u8_shr _ _ (8 * p.1) (by rw [bits64]; omega)]; simp only [List.map_append, List.append_assoc]; rfl
          · first | trivial | omega | simp
          · first | omega | (simp; omega)
        · try simp only [Bool.and_eq_true, Bool.or_eq_true, Bool.and_eq_false_iff, Bool.or_eq_false_iff, decide_eq_true_eq, decide_eq_false_iff_not, beq_iff_eq, bne_iff_ne, ne_eq, beq_eq_false_iff_ne, bne_eq_false_iff_eq, Bool.not_eq_true', Bool.not_eq_false', Bool.not_not, Bool.not_true, Bool.not_false, List.length_map, List.length_append, List.length_cons, List.length_nil] at h2
          refine AW.exit ?_
          refine AW.region ?_
          first
            | refine AR.step rfl rfl rfl (AO.add_nw rfl rfl rfl (wrap_i64 (by first | omega | (simp only [List.length_map, List.length_append, List.length_cons, List.length_nil] at *; omega)) (by first | omega | (simp only [List.length_map, List.length_append, List.length_cons, List.length_nil] at *; omega))) ?_)
            | refine AR.step rfl rfl rfl (AO.calc' rfl ?_)
          refine AR.step rfl rfl rfl (AO.calc' rfl ?_)
          refine AR.nil [5, 13, 14, 15] rfl ?_
          refine ⟨(q.1 + 1, p.2), ?_, (by rw [List.take_of_length_le (i := p.1) (by rw [le8_len]; omega), preB_take s ps q.1 d hd]), rfl, ?_, ?_⟩
          · rw [List.take_of_length_le (i := p.1) (by rw [le8_len]; omega), preB_take s ps q.1 d hd]; rfl
          · first | trivial | omega | simp
          · first | omega | (simp; omega)
    · try simp only [Bool.and_eq_true, Bool.or_eq_true, Bool.and_eq_false_iff, Bool.or_eq_false_iff, decide_eq_true_eq, decide_eq_false_iff_not, beq_iff_eq, bne_iff_ne, ne_eq, beq_eq_false_iff_ne, bne_eq_false_iff_eq, Bool.not_eq_true', Bool.not_eq_false', Bool.not_not, Bool.not_true, Bool.not_false, List.length_map, List.length_append, List.length_cons, List.length_nil] at h1
      refine AW.exit ?_
      refine AW.seq ?_
      refine AW.region ?_
      refine AR.step rfl rfl rfl (AO.calc' rfl ?_)
      refine AR.step rfl rfl rfl (AO.call rfl _ rfl rfl pf_19 (c_Sum (preB s ps) _ (by rw [preB_len]; omega) (by rw [List.take_of_length_le (by omega)]; rfl) ?_))
      refine AR.step rfl rfl rfl (AO.calc' rfl ?_)
      refine AR.nil [4] rfl ?_
      refine AW.ret ?_
      refine ⟨rfl, _, ⟨_, _, rfl, rfl, rfl⟩, [], List.nil_sublist _, ?_⟩
      refine ret_eq h ?_
      rfl

theorem c_ROf (s : List UInt8) (ps : List (BitVec 64)) (pp : PV) (hpp : pp = .list (ps.map fun d : BitVec 64 => [PV.int .u64 (d.toNat : Int)])) (hs : s.length ≤ 300) (hp : ps.length ≤ 100) {τ : List Res} {R : AOut → List Res → Prop}  (h : R (.ret (.int .u64 ((ofB s ps).toNat : Int))) τ) : AC Try.prog 22 [.str s, pp] τ R := by
  subst hpp
  refine AC.none ?_
  refine AC.of_body 49 [.tmp 4] [0, 1] Try.func22 rfl rfl rfl rfl rfl ?_
  refine AW.seq ?_
  refine AW.region ?_
  refine AR.step rfl rfl rfl (AO.calc' rfl ?_)
  refine AR.nil [0, 1] rfl ?_
  refine AW.seq ?_
  refine AW.region ?_
  refine AR.step rfl rfl rfl (AO.calc' rfl ?_)
  refine AR.nil [0, 1, 5] rfl ?_
  refine AW.seq ?_
  refine AW.seq ?_
  refine AW.row 1 5 ?_
  refine AW.region ?_
  refine AR.step rfl rfl rfl (AO.calc' rfl ?_)
  refine AR.nil [0, 1, 5, 6] rfl ?_
  refine AW.block ?_
  refine AW.settle [0, 1, 5, 6] rfl ?_
  refine AW.loop (α := Nat × Value) (fun q => [(0, .str s), (1, .list (ps.map fun d : BitVec 64 => [PV.int .u64 (d.toNat : Int)])), (5, .own q.2 ((s.take q.1).map byteC)), (6, .int .i64 (q.1 : Int))]) (fun q => [.row q.2 (s.take q.1).length 1 5]) (fun q => q.1 ≤ s.length) (fun q => s.length - q.1) (0, .slice none 0 0) rfl rfl ?_ ?_
  · first | trivial | omega | simp
  · intro q hI
    revert hI; revert q; intro q hI
    have hL2 := List.length_take (i := q.1) (l := s)
    refine AW.seq ?_
    refine AW.seq ?_
    refine AW.region ?_
    refine AR.step rfl rfl rfl (AO.calc' rfl ?_)
    refine AR.step rfl rfl rfl (AO.calc' rfl ?_)
    refine AR.step rfl rfl rfl (AO.len_str rfl rfl rfl rfl un_9 rfl ?_)
    refine AR.step rfl rfl rfl (AO.calc' rfl ?_)
    refine AR.nil [0, 1, 5, 6, 13] rfl ?_
    refine AW.cond rfl (fun h1 => ?_) (fun h1 => ?_)
    · try simp only [Bool.and_eq_true, Bool.or_eq_true, Bool.and_eq_false_iff, Bool.or_eq_false_iff, decide_eq_true_eq, decide_eq_false_iff_not, beq_iff_eq, bne_iff_ne, ne_eq, beq_eq_false_iff_ne, bne_eq_false_iff_eq, Bool.not_eq_true', Bool.not_eq_false', Bool.not_not, Bool.not_true, Bool.not_false, List.length_map, List.length_append, List.length_cons, List.length_nil] at h1
      refine AW.skip ?_
      refine AW.seq ?_
      refine AW.block ?_
      refine AW.region ?_
      refine AR.step rfl rfl rfl (AO.calc' rfl ?_)
      refine AR.step rfl rfl rfl (AO.calc' rfl ?_)
      refine AR.step rfl rfl rfl (AO.calc' rfl ?_)
      first
        | refine AR.step rfl rfl rfl (AO.index_strN rfl un_9 rfl rfl (by first | omega | (simp only [List.length_map, List.length_append, List.length_cons, List.length_nil] at *; omega)) ?_)
        | refine AR.step rfl rfl rfl (AO.index_strD rfl un_9 rfl rfl (by first | omega | (simp only [List.length_map, List.length_append, List.length_cons, List.length_nil] at *; omega)) (by first | omega | (simp only [List.length_map, List.length_append, List.length_cons, List.length_nil] at *; omega)) ?_)
      refine AR.step rfl rfl rfl (AO.buildSlice rfl sf_35 rfl rfl rfl ?_)
      refine AR.step rfl rfl rfl (AO.append (i := 0) rfl rfl rfl rfl rfl rfl rfl sf_35 es_35 (by simp) (byteC_len _) (by simp) (by simp [PV.one]) (by unfold maxLen; simp; omega) (by simp; omega) (fun v21 σ21 hσ21 => ?_))
      cases hσ21
      refine AR.step rfl rfl rfl (AO.calc' rfl ?_)
      refine AR.nil [0, 1, 5, 6] rfl ?_
      refine AW.region ?_
      refine AR.step rfl rfl rfl (AO.calc' rfl ?_)
      first
        | refine AR.step rfl rfl rfl (AO.add_nw rfl rfl rfl (wrap_i64 (by first | omega | (simp only [List.length_map, List.length_append, List.length_cons, List.length_nil] at *; omega)) (by first | omega | (simp only [List.length_map, List.length_append, List.length_cons, List.length_nil] at *; omega))) ?_)
        | refine AR.step rfl rfl rfl (AO.calc' rfl ?_)
      refine AR.step rfl rfl rfl (AO.calc' rfl ?_)
      refine AR.nil [0, 1, 5, 6] rfl ?_
      refine ⟨(q.1 + 1, v21), ?_, (by rw [take_byte s q.1 (by omega), List.length_append]; rfl), rfl, ?_, ?_⟩
      · rw [take_byte s q.1 (by omega), List.map_append]; rfl
      · first | trivial | omega | simp
      · first | omega | (simp; omega)
    · try simp only [Bool.and_eq_true, Bool.or_eq_true, Bool.and_eq_false_iff, Bool.or_eq_false_iff, decide_eq_true_eq, decide_eq_false_iff_not, beq_iff_eq, bne_iff_ne, ne_eq, beq_eq_false_iff_ne, bne_eq_false_iff_eq, Bool.not_eq_true', Bool.not_eq_false', Bool.not_not, Bool.not_true, Bool.not_false, List.length_map, List.length_append, List.length_cons, List.length_nil] at h1
      refine AW.exit ?_
      refine AW.seq ?_
      refine AW.region ?_
      refine AR.step rfl rfl rfl (AO.calc' rfl ?_)
      refine AR.step rfl rfl rfl (AO.buildSlice rfl sf_35 rfl rfl rfl ?_)
      refine AR.step rfl rfl rfl (AO.append (i := 0) rfl rfl rfl rfl rfl rfl rfl sf_35 es_35 (by simp) (byteC_len _) (by simp) (by simp [PV.one]) (by unfold maxLen; simp; omega) (by simp; omega) (fun v24 σ24 hσ24 => ?_))
      cases hσ24
      refine AR.step rfl rfl rfl (AO.calc' rfl ?_)
      refine AR.nil [1, 5] rfl ?_
      refine AW.seq ?_
      refine AW.seq ?_
      refine AW.region ?_
      refine AR.step rfl rfl rfl (AO.calc' rfl ?_)
      refine AR.nil [1, 5, 7] rfl ?_
      refine AW.block ?_
      refine AW.settle [1, 5, 7] rfl ?_
      refine AW.loop (α := Nat × Value) (fun r => [(1, .list (ps.map fun d : BitVec 64 => [PV.int .u64 (d.toNat : Int)])), (5, .own r.2 ((preB s (ps.take r.1)).map byteC)), (7, .int .i64 (r.1 : Int))]) (fun r => [.row r.2 (preB s (ps.take r.1)).length 1 5]) (fun r => r.1 ≤ ps.length) (fun r => ps.length - r.1) (0, v24) (by rw [List.take_of_length_le (i := q.1) (by omega)]; simp [preB, byteC]) (by rw [List.take_of_length_le (i := q.1) (by omega)]; simp [preB_len]) ?_ ?_
      · first | trivial | omega | simp
      · intro q hI
        revert hI; revert q; intro r hI
        refine AW.seq ?_
        refine AW.seq ?_
        refine AW.region ?_
        refine AR.step rfl rfl rfl (AO.calc' rfl ?_)
        refine AR.step rfl rfl rfl (AO.calc' rfl ?_)
        refine AR.step rfl rfl rfl (AO.len_slice rfl rfl rfl rfl es_41 rfl ?_)
        refine AR.step rfl rfl rfl (AO.calc' rfl ?_)
        refine AR.nil [1, 5, 7, 28] rfl ?_
        refine AW.cond rfl (fun h2 => ?_) (fun h2 => ?_)
        · try simp only [Bool.and_eq_true, Bool.or_eq_true, Bool.and_eq_false_iff, Bool.or_eq_false_iff, decide_eq_true_eq, decide_eq_false_iff_not, beq_iff_eq, bne_iff_ne, ne_eq, beq_eq_false_iff_ne, bne_eq_false_iff_eq, Bool.not_eq_true', Bool.not_eq_false', Bool.not_not, Bool.not_true, Bool.not_false, List.length_map, List.length_append, List.length_cons, List.length_nil] at h2
          refine AW.skip ?_
          refine AW.seq ?_
          refine AW.block ?_
          refine AW.seq ?_
          refine AW.region ?_
          refine AR.step rfl rfl rfl (AO.calc' rfl ?_)
          refine AR.step rfl rfl rfl (AO.calc' rfl ?_)
          obtain ⟨d, hd⟩ : ∃ d, ps[r.1]? = some d := ⟨_, List.getElem?_eq_getElem (by omega)⟩
          refine AR.step rfl rfl rfl (AO.indexAddr rfl rfl rfl es_41 (by first | omega | (simp only [List.length_map, List.length_append, List.length_cons, List.length_nil] at *; omega)) (getM hd) rfl ?_)
          refine AR.step rfl rfl rfl (AO.load_ref rfl rfl ti_27 rfl ?_)
          refine AR.step rfl rfl rfl (AO.calc' rfl ?_)
          refine AR.nil [1, 5, 7, 8] rfl ?_
          refine AW.seq ?_
          refine AW.region ?_
          refine AR.step rfl rfl rfl (AO.calc' rfl ?_)
          refine AR.nil [1, 5, 7, 8, 9] rfl ?_
          refine AW.block ?_
          refine AW.settle [1, 5, 7, 8, 9] rfl ?_
          refine AW.loop (α := Nat × Value) (fun p => [(1, .list (ps.map fun d : BitVec 64 => [PV.int .u64 (d.toNat : Int)])), (5, .own p.2 ((preB s (ps.take r.1) ++ (le8 d).take p.1).map byteC)), (7, .int .i64 (r.1 : Int)), (8, .int .u64 ((d >>> (8 * p.1)).toNat : Int)), (9, .int .i64 (p.1 : Int))]) (fun p => [.row p.2 (preB s (ps.take r.1) ++ (le8 d).take p.1).length 1 5]) (fun p => p.1 ≤ 8) (fun p => 8 - p.1) (0, r.2) (by simp) (by simp) ?_ ?_
          · first | trivial | omega | simp
          · intro q hI
            revert hI; revert q; intro p hI
            have hL1 := preB_len s (ps.take r.1)
            have hL2 := List.length_take (i := r.1) (l := ps)
            have hL3 := le8_len d
            have hL4 := List.length_take (i := p.1) (l := le8 d)
            have hdl := (d >>> (8 * p.1)).isLt
            refine AW.seq ?_
            refine AW.seq ?_
            refine AW.region ?_
            refine AR.step rfl rfl rfl (AO.calc' rfl ?_)
            refine AR.step rfl rfl rfl (AO.calc' rfl ?_)
            refine AR.nil [1, 5, 7, 8, 9, 36] rfl ?_
            refine AW.cond rfl (fun h3 => ?_) (fun h3 => ?_)
            · try simp only [Bool.and_eq_true, Bool.or_eq_true, Bool.and_eq_false_iff, Bool.or_eq_false_iff, decide_eq_true_eq, decide_eq_false_iff_not, beq_iff_eq, bne_iff_ne, ne_eq, beq_eq_false_iff_ne, bne_eq_false_iff_eq, Bool.not_eq_true', Bool.not_eq_false', Bool.not_not, Bool.not_true, Bool.not_false, List.length_map, List.length_append, List.length_cons, List.length_nil] at h3
              refine AW.skip ?_
              refine AW.seq ?_
              refine AW.block ?_
              refine AW.seq ?_
              refine AW.region ?_
              refine AR.step rfl rfl rfl (AO.calc' rfl ?_)
              refine AR.step rfl rfl rfl (AO.calc' rfl ?_)
              first
                | refine AR.step rfl rfl rfl (AO.rem_nn rfl rfl rfl (by decide) (by first | omega | (simp only [List.length_map, List.length_append, List.length_cons, List.length_nil] at *; omega)) ?_)
                | refine AR.step rfl rfl rfl (AO.rem rfl rfl rfl (by decide) ?_)
              first
                | refine AR.step rfl rfl rfl (AO.conv_nw rfl un_22 un_5 rfl (wrap_u8 (by first | omega | (simp only [List.length_map, List.length_append, List.length_cons, List.length_nil] at *; omega)) (by first | omega | (simp only [List.length_map, List.length_append, List.length_cons, List.length_nil] at *; omega))) ?_)
                | refine AR.step rfl rfl rfl (AO.conv_int rfl un_22 un_5 rfl ?_)
              refine AR.step rfl rfl rfl (AO.buildSlice rfl sf_35 rfl rfl rfl ?_)
              refine AR.step rfl rfl rfl (AO.append (i := 0) rfl rfl rfl rfl rfl rfl rfl sf_35 es_35 (by simp) (byteC_len _) (by simp) (by simp [PV.one]) (by unfold maxLen; simp; omega) (by simp; omega) (fun v44 σ44 hσ44 => ?_))
              cases hσ44
              refine AR.step rfl rfl rfl (AO.calc' rfl ?_)
              refine AR.nil [1, 5, 7, 8, 9] rfl ?_
              refine AW.region ?_
              refine AR.step rfl rfl rfl (AO.calc' rfl ?_)
              first
                | refine AR.step rfl rfl rfl (AO.quo_nn rfl rfl rfl (by decide) (by first | omega | (simp only [List.length_map, List.length_append, List.length_cons, List.length_nil] at *; omega)) (wrap_u64 (by first | omega | (simp only [List.length_map, List.length_append, List.length_cons, List.length_nil] at *; omega)) (by first | omega | (simp only [List.length_map, List.length_append, List.length_cons, List.length_nil] at *; omega))) ?_)
                | refine AR.step rfl rfl rfl (AO.quo rfl rfl rfl (by decide) ?_)
              refine AR.step rfl rfl rfl (AO.calc' rfl ?_)
              refine AR.nil [1, 5, 7, 8, 9] rfl ?_
              refine AW.region ?_
              refine AR.step rfl rfl rfl (AO.calc' rfl ?_)
              first
                | refine AR.step rfl rfl rfl (AO.add_nw rfl rfl rfl (wrap_i64 (by first | omega | (simp only [List.length_map, List.length_append, List.length_cons, List.length_nil] at *; omega)) (by first | omega | (simp only [List.length_map, List.length_append, List.length_cons, List.length_nil] at *; omega))) ?_)
                | refine AR.step rfl rfl rfl (AO.calc' rfl ?_)
              refine AR.step rfl rfl rfl (AO.calc' rfl ?_)
              refine AR.nil [1, 5, 7, 8, 9] rfl ?_
              refine ⟨(p.1 + 1, v44), ?_, (by rw [le8_take d p.1 (by omega)]; simp [Nat.add_assoc]), rfl, ?_, ?_⟩
              · rw [le8_take d p.1 (by omega), byte_ofI, next8]; simp only [List.map_append, List.append_assoc]; rfl
              · first | trivial | omega | simp
              · first | omega | (simp; omega)
            · try simp only [Bool.and_eq_true, Bool.or_eq_true, Bool.and_eq_false_iff, Bool.or_eq_false_iff, decide_eq_true_eq, decide_eq_false_iff_not, beq_iff_eq, bne_iff_ne, ne_eq, beq_eq_false_iff_ne, bne_eq_false_iff_eq, Bool.not_eq_true', Bool.not_eq_false', Bool.not_not, Bool.not_true, Bool.not_false, List.length_map, List.length_append, List.length_cons, List.length_nil] at h3
              refine AW.exit ?_
              refine AW.region ?_
              refine AR.step rfl rfl rfl (AO.calc' rfl ?_)
              first
                | refine AR.step rfl rfl rfl (AO.add_nw rfl rfl rfl (wrap_i64 (by first | omega | (simp only [List.length_map, List.length_append, List.length_cons, List.length_nil] at *; omega)) (by first | omega | (simp only [List.length_map, List.length_append, List.length_cons, List.length_nil] at *; omega))) ?_)
                | refine AR.step rfl rfl rfl (AO.calc' rfl ?_)
              refine AR.step rfl rfl rfl (AO.calc' rfl ?_)
              refine AR.nil [1, 5, 7] rfl ?_
              refine ⟨(r.1 + 1, p.2), ?_, (by rw [List.take_of_length_le (i := p.1) (by rw [le8_len]; omega), preB_take s ps r.1 d hd]), rfl, ?_, ?_⟩
              · rw [List.take_of_length_le (i := p.1) (by rw [le8_len]; omega), preB_take s ps r.1 d hd]; rfl
              · first | trivial | omega | simp
              · first | omega | (simp; omega)
        · try simp only [Bool.and_eq_true, Bool.or_eq_true, Bool.and_eq_false_iff, Bool.or_eq_false_iff, decide_eq_true_eq, decide_eq_false_iff_not, beq_iff_eq, bne_iff_ne, ne_eq, beq_eq_false_iff_ne, bne_eq_false_iff_eq, Bool.not_eq_true', Bool.not_eq_false', Bool.not_not, Bool.not_true, Bool.not_false, List.length_map, List.length_append, List.length_cons, List.length_nil] at h2
          refine AW.exit ?_
          refine AW.seq ?_
          refine AW.region ?_
          refine AR.step rfl rfl rfl (AO.calc' rfl ?_)
          refine AR.step rfl rfl rfl (AO.call rfl _ rfl rfl pf_20 (c_RSum (preB s ps) _ (by rw [preB_len]; omega) (by rw [List.take_of_length_le (by omega)]; rfl) ?_))
          refine AR.step rfl rfl rfl (AO.calc' rfl ?_)
          refine AR.nil [4] rfl ?_
          refine AW.ret ?_
          refine ⟨rfl, _, ⟨_, _, rfl, rfl, rfl⟩, [], List.nil_sublist _, ?_⟩
          refine ret_eq h ?_
          rfl

theorem c_LParts (s : List UInt8) (ps : List (BitVec 64)) (hs0 : s.length ≤ 9223372036854775807) (hp0 : ps.length ≤ 9223372036854775807) {τ : List Res} {R : AOut → List Res → Prop}  (h : R (.ret (.bool true)) τ) : AC Try.prog 9 [.str s, .list (ps.map fun d : BitVec 64 => [PV.int .u64 (d.toNat : Int)])] τ R := by
  refine AC.none ?_
  refine AC.of_body 24 [.tmp 4] [0, 1] Try.func9 rfl rfl rfl rfl rfl ?_
  refine AW.seq ?_
  refine AW.region ?_
  refine AR.step rfl rfl rfl (AO.calc' rfl ?_)
  refine AR.nil [0, 1] rfl ?_
  refine AW.seq ?_
  refine AW.seq ?_
  refine AW.region ?_
  refine AR.step rfl rfl rfl (AO.calc' rfl ?_)
  refine AR.step rfl rfl rfl (AO.len_str rfl rfl rfl rfl un_9 rfl ?_)
  refine AR.step rfl rfl rfl (AO.calc' rfl ?_)
  refine AR.step rfl rfl rfl (AO.calc' rfl ?_)
  apply AR.or 4 8 12 [0, 1]
  · rfl
  · rfl
  · intro g1
    have g1n := g1
    try simp only [Bool.and_eq_true, Bool.or_eq_true, Bool.and_eq_false_iff, Bool.or_eq_false_iff, decide_eq_true_eq, decide_eq_false_iff_not, beq_iff_eq, bne_iff_ne, ne_eq, beq_eq_false_iff_ne, bne_eq_false_iff_eq, Bool.not_eq_true', Bool.not_eq_false', Bool.not_not, Bool.not_true, Bool.not_false, List.length_map, List.length_append, List.length_cons, List.length_nil] at g1n
    refine AR.run rfl rfl rfl rfl rfl rfl g1 ?_
    refine AR.step rfl rfl rfl (AO.calc' rfl ?_)
    refine AR.run rfl rfl rfl rfl rfl rfl g1 ?_
    refine AR.step rfl rfl rfl (AO.len_slice rfl rfl rfl rfl es_41 rfl ?_)
    refine AR.run rfl rfl rfl rfl rfl rfl g1 ?_
    refine AR.step rfl rfl rfl (AO.calc' rfl ?_)
    refine AR.step rfl rfl rfl (AO.pick_F rfl rfl g1 rfl ?_)
    refine AR.nil [12, 0, 1] rfl ?_
    exact ⟨rfl, rfl, rfl, rfl⟩
  · intro g1
    have g1n := g1
    try simp only [Bool.and_eq_true, Bool.or_eq_true, Bool.and_eq_false_iff, Bool.or_eq_false_iff, decide_eq_true_eq, decide_eq_false_iff_not, beq_iff_eq, bne_iff_ne, ne_eq, beq_eq_false_iff_ne, bne_eq_false_iff_eq, Bool.not_eq_true', Bool.not_eq_false', Bool.not_not, Bool.not_true, Bool.not_false, List.length_map, List.length_append, List.length_cons, List.length_nil] at g1n
    refine AR.skip rfl rfl rfl rfl rfl rfl g1 ?_
    refine AR.skip rfl rfl rfl rfl rfl rfl g1 ?_
    refine AR.skip rfl rfl rfl rfl rfl rfl g1 ?_
    refine AR.step rfl rfl rfl (AO.pick_T rfl rfl g1 rfl ?_)
    refine AR.nil [12, 0, 1] rfl ?_
    exact ⟨rfl, rfl, rfl, rfl⟩
  refine AR.nil [0, 1, 12] rfl ?_
  refine AW.cond rfl (fun h2 => ?_) (fun h2 => ?_)
  · try simp only [Bool.and_eq_true, Bool.or_eq_true, Bool.and_eq_false_iff, Bool.or_eq_false_iff, decide_eq_true_eq, decide_eq_false_iff_not, beq_iff_eq, bne_iff_ne, ne_eq, beq_eq_false_iff_ne, bne_eq_false_iff_eq, Bool.not_eq_true', Bool.not_eq_false', Bool.not_not, Bool.not_true, Bool.not_false, List.length_map, List.length_append, List.length_cons, List.length_nil] at h2
    refine AW.seq ?_
    refine AW.region ?_
    refine AR.step rfl rfl rfl (AO.call rfl _ rfl rfl pf_12 (c_lives ?_))
    refine AR.step rfl rfl rfl (AO.calc' rfl ?_)
    refine AR.nil [4] rfl ?_
    refine AW.ret ?_
    refine ⟨rfl, _, ⟨_, _, rfl, rfl, rfl⟩, [], List.nil_sublist _, ?_⟩
    refine ret_eq h ?_
    first | rfl | simp [packPV, PV.weak]
  · try simp only [Bool.and_eq_true, Bool.or_eq_true, Bool.and_eq_false_iff, Bool.or_eq_false_iff, decide_eq_true_eq, decide_eq_false_iff_not, beq_iff_eq, bne_iff_ne, ne_eq, beq_eq_false_iff_ne, bne_eq_false_iff_eq, Bool.not_eq_true', Bool.not_eq_false', Bool.not_not, Bool.not_true, Bool.not_false, List.length_map, List.length_append, List.length_cons, List.length_nil] at h2
    refine AW.skip ?_
    refine AW.seq ?_
    have hs : s.length ≤ 300 := by omega
    have hp : ps.length ≤ 100 := by omega
    refine AW.region ?_
    refine AR.step rfl rfl rfl (AO.calc' rfl ?_)
    refine AR.step rfl rfl rfl (AO.calc' rfl ?_)
    refine AR.step rfl rfl rfl (AO.call rfl _ rfl rfl pf_21 (c_Of s ps _ rfl hs hp ?_))
    refine AR.step rfl rfl rfl (AO.calc' rfl ?_)
    refine AR.step rfl rfl rfl (AO.calc' rfl ?_)
    refine AR.step rfl rfl rfl (AO.call rfl _ rfl rfl pf_22 (c_ROf s ps _ rfl hs hp ?_))
    refine AR.step rfl rfl rfl (AO.calc' rfl ?_)
    refine AR.step rfl rfl rfl (AO.calc' rfl ?_)
    apply AR.and 2 21 23 []
    · rfl
    · rfl
    · intro g3
      have g3n := g3
      try simp only [Bool.and_eq_true, Bool.or_eq_true, Bool.and_eq_false_iff, Bool.or_eq_false_iff, decide_eq_true_eq, decide_eq_false_iff_not, beq_iff_eq, bne_iff_ne, ne_eq, beq_eq_false_iff_ne, bne_eq_false_iff_eq, Bool.not_eq_true', Bool.not_eq_false', Bool.not_not, Bool.not_true, Bool.not_false, List.length_map, List.length_append, List.length_cons, List.length_nil] at g3n
      refine AR.run rfl rfl rfl rfl rfl rfl g3 ?_
      refine AR.step rfl rfl rfl (AO.call rfl _ rfl rfl pf_12 (c_lives ?_))
      refine AR.step rfl rfl rfl (AO.pick_T rfl rfl g3 rfl ?_)
      refine AR.nil [23] rfl ?_
      exact ⟨rfl, rfl, rfl, rfl⟩
    · intro g3
      have g3n := g3
      try simp only [Bool.and_eq_true, Bool.or_eq_true, Bool.and_eq_false_iff, Bool.or_eq_false_iff, decide_eq_true_eq, decide_eq_false_iff_not, beq_iff_eq, bne_iff_ne, ne_eq, beq_eq_false_iff_ne, bne_eq_false_iff_eq, Bool.not_eq_true', Bool.not_eq_false', Bool.not_not, Bool.not_true, Bool.not_false, List.length_map, List.length_append, List.length_cons, List.length_nil] at g3n
      refine AR.skip rfl rfl rfl rfl rfl rfl g3 ?_
      refine AR.step rfl rfl rfl (AO.pick_F rfl rfl g3 rfl ?_)
      refine AR.nil [23] rfl ?_
      exact ⟨rfl, rfl, rfl, rfl⟩
    refine AR.step rfl rfl rfl (AO.calc' rfl ?_)
    refine AR.nil [4] rfl ?_
    refine AW.ret ?_
    refine ⟨rfl, _, ⟨_, _, rfl, rfl, rfl⟩, [], List.nil_sublist _, ?_⟩
    refine ret_eq h ?_
    first | rfl | simp [packPV, PV.weak]
namespace digestParts
open Go.ChangeShapes Go.WideShapes Go.ChangeAt Go.RowKit

theorem own : ownKnob Try.prog.godebug = none := by kernel_rfl
theorem laidOut : laidOutB Try.prog = true := by kernel_rfl

/-- the walk, over any arguments of the parameters' types -/
theorem walk : ∀ qs, TyAll Try.prog [9, 41] qs → AC Try.prog 9 qs [] fun out _ => out = .ret (.bool true) := by
  intro qs h
  obtain ⟨q0, _, rfl, t0, ⟨q1, _, rfl, t1, rfl⟩⟩ := h
  obtain ⟨s0, rfl, w0⟩ := t0.strI Try.underlying9
  unfold maxLen at w0
  obtain ⟨l1, rfl, w1, e1⟩ := t1.sliceI Try.underlying41
  unfold maxLen at w1
  obtain ⟨ps, rfl⟩ := list_of_each (f := fun d : BitVec 64 => [PV.int .u64 (d.toNat : Int)]) (l := l1) fun x hx => by
    obtain ⟨n, rfl, hw⟩ := (e1 x hx).intI Try.underlying27
    obtain ⟨c, rfl⟩ := wf_u64 hw
    exact ⟨c, rfl⟩
  rw [List.length_map] at w1
  exact c_LParts s0 ps (by omega) (by omega) rfl

theorem lifted (os : Os) (started : os.Started) (H : Type) (enc : TypeId × Value → H) :
    ReturnsInHanded {} Try.checked os 9 .any (Rows.digestPartsSpec.pre6 enc Try.prog Try.f9 Rows.digestPartsRow.domain false) (Rows.digestPartsSpec.post enc Try.prog Try.f9 false true false false) := by
  refine returnsInHanded_of_change (C := Try.checked) own started (by kernel_rfl) Try.func9
    (ChangeSpec.witness6 (enc := enc) (C := Try.checked) false ⟨#[], #[.string ⟨#[]⟩, .slice none 0 0], []⟩ 8 (by kernel_rfl) (by kernel_rfl) (by kernel_rfl) (by kernel_rfl)) ?_
  intro W base args ds gs before hval hW _ _
  refine law_step (P := Try.prog) (S := [9, 41, 27]) (tb := 4) (by kernel_rfl) (by rw [Try.params9]; decide) (by rw [Try.params9]; exact of_decide_eq_true (by kernel_rfl)) laidOut (by kernel_rfl) Try.underlying4 rfl ?_ (by rw [Try.params9]; exact walk) hval hW
  rw [Try.params9]
  intro ds hd
  match ds, hd with
  | [d0, d1], _ => rfl

theorem over : Rows.digestPartsRow.holds Try.pinned (OpenSpec.ofChange Rows.digestPartsSpec) :=
  OpenClaim.holds_of_wide 9 Try.f9 rfl rfl rfl rfl rfl rfl rfl ⟨rfl, rfl, rfl, rfl, rfl⟩ rfl rfl rfl rfl rfl (by kernel_rfl) Try.func9 (by kernel_rfl)
    (of_decide_eq_true (by kernel_rfl)) (by unfold Func.isWrapper; first | (rw [if_pos (by decide +kernel)]; kernel_rfl) | (rw [if_neg (by decide +kernel)]; exact ⟨rfl, rfl⟩))
    (fun os started H enc _ => lifted os started H enc)

/-- THE STATEMENT -/
theorem proved : Rows.DigestPartsSaid := over
#print axioms proved
end digestParts
end Go.Proofs.Ytofjjgdocojplaa
