/- Proved here: if bits of at most four consecutive bytes are changed, and at least one, the checksum changes (at most 3000 bytes) (the statement DigestBurstsSaid). Conditions: none. The walks were written by a program of ours. -/
import Derived.Test.YtofjjgdocojplaaRows
import Derived.Test.YtofjjgdocojplaaAbs3
import Derived.Test.YtofjjgdocojplaaPlain
import Derived.WalkKit
import Derived.ProofKit
import Derived.OpenShut
set_option linter.unusedVariables false
set_option linter.unusedSimpArgs false
namespace Go.Proofs.Ytofjjgdocojplaa
open Go Go.Abs Dig
theorem ai_38 : arrInfo Try.prog 38 = some (4, 1) := by kernel_rfl
theorem ai_49 : arrInfo Try.prog 49 = some (16, 1) := by kernel_rfl
theorem ce_38 : Try.prog.cellsOf 38 = 4 := by kernel_rfl
theorem ce_5 : Try.prog.cellsOf 5 = 1 := by kernel_rfl
theorem eg_38 : Try.prog.eqGuardType Try.prog.depth 38 = false := by kernel_rfl
theorem es_35 : elemSize Try.prog 35 = some 1 := by kernel_rfl
theorem mixed : Try.prog.follows .mixedOrders = true := by kernel_rfl
theorem pf_10 : plainFn Try.prog 10 = true := by kernel_rfl
theorem pf_12 : plainFn Try.prog 12 = true := by kernel_rfl
theorem pf_13 : plainFn Try.prog 13 = true := by kernel_rfl
theorem pf_14 : plainFn Try.prog 14 = true := by kernel_rfl
theorem pf_17 : plainFn Try.prog 17 = true := by kernel_rfl
theorem pf_23 : plainFn Try.prog 23 = true := by kernel_rfl
theorem sf_35 : SliceFact Try.prog 35 5 1 1 := sliceFact (by kernel_rfl)
theorem ti_38 : tyInfo Try.prog 38 = some (true, 4) := by kernel_rfl
theorem ti_5 : tyInfo Try.prog 5 = some (false, 1) := by kernel_rfl
theorem un_22 : Try.prog.underlying 22 = some (.int .u64) := by kernel_rfl
theorem un_27 : Try.prog.underlying 27 = some (.int .u64) := by kernel_rfl
theorem un_3 : Try.prog.underlying 3 = some (.int .i64) := by kernel_rfl
theorem un_35 : Try.prog.underlying 35 = some (.slice 5) := by kernel_rfl
theorem un_38 : Try.prog.underlying 38 = some (.array 4 5) := by kernel_rfl
theorem un_45 : Try.prog.underlying 45 = some (.int .u32) := by kernel_rfl
theorem un_5 : Try.prog.underlying 5 = some (.int .u8) := by kernel_rfl
theorem un_9 : Try.prog.underlying 9 = some (.string) := by kernel_rfl
theorem zp_38 : zeroPV Try.prog 38 = some [.int .u8 0, .int .u8 0, .int .u8 0, .int .u8 0] := by kernel_rfl
theorem zp_49 : zeroPV Try.prog 49 = some [.int .u8 0, .int .u8 0, .int .u8 0, .int .u8 0, .int .u8 0, .int .u8 0, .int .u8 0, .int .u8 0, .int .u8 0, .int .u8 0, .int .u8 0, .int .u8 0, .int .u8 0, .int .u8 0, .int .u8 0, .int .u8 0] := by kernel_rfl

theorem c_round (r k i : BitVec 32) (r' k' i' : Int) {τ : List Res} {R : AOut → List Res → Prop} (hr : r' = (r.toNat : Int)) (hk : k' = (k.toNat : Int)) (hi : i' = (i.toNat : Int)) (h : R (.ret (.int .u32 ((rndB r k i).toNat : Int))) τ) : AC Try.prog 23 [.int .u32 r', .int .u32 k', .int .u32 i'] τ R := by
  subst hr hk hi
  refine AC.none ?_
  refine AC.of_body 18 [.tmp 6] [0, 1, 2] Try.func23 rfl rfl rfl rfl rfl ?_
  refine AW.seq ?_
  refine AW.region ?_
  refine AR.step rfl rfl rfl (AO.calc' rfl ?_)
  refine AR.nil [0, 1, 2] rfl ?_
  refine AW.seq ?_
  refine AW.region ?_
  refine AR.step rfl rfl rfl (AO.calc' rfl ?_)
  refine AR.step rfl rfl rfl (AO.calc' rfl ?_)
  refine AR.step rfl rfl rfl (AO.calc' rfl ?_)
  refine AR.step rfl rfl rfl (AO.calc' rfl ?_)
  refine AR.step rfl rfl rfl (AO.calc' rfl ?_)
  refine AR.step rfl rfl rfl (AO.calc' rfl ?_)
  refine AR.step rfl rfl rfl (AO.calc' rfl ?_)
  refine AR.nil [7] rfl ?_
  refine AW.seq ?_
  refine AW.region ?_
  refine AR.step rfl rfl rfl (AO.calc' rfl ?_)
  refine AR.step rfl rfl rfl (AO.calc' rfl ?_)
  refine AR.step rfl rfl rfl (AO.shrL (s := 16) rfl rfl rfl (by decide) rfl ?_)
  refine AR.step rfl rfl rfl (AO.calc' rfl ?_)
  refine AR.step rfl rfl rfl (AO.calc' rfl ?_)
  refine AR.nil [6] rfl ?_
  refine AW.ret ?_
  refine ⟨rfl, _, ⟨_, _, rfl, rfl, rfl⟩, [], List.nil_sublist _, ?_⟩
  refine ret_eq h ?_
  simp only [packPV, List.map, PV.weak, xor_u32, xor_u64, and_u32, and_u64, or_u32, or_u64, u32w, u64w, u8w, bits32, bits64, bits8, ofInt_add', ofInt_mul', ofInt_toNat, ofInt_toNat_w, ofInt_byteB, fdiv_shr]
  rfl

theorem c_Mix (key x : BitVec 64) (key' x' : Int) {τ : List Res} {R : AOut → List Res → Prop} (hk : key' = (key.toNat : Int)) (hx : x' = (x.toNat : Int)) (h : R (.ret (.int .u64 ((mixB key x).toNat : Int))) τ) : AC Try.prog 10 [.int .u64 key', .int .u64 x'] τ R := by
  subst hk hx
  refine AC.none ?_
  refine AC.of_body 41 [.tmp 4] [0, 1] Try.func10 rfl rfl rfl rfl rfl ?_
  refine AW.seq ?_
  refine AW.region ?_
  refine AR.step rfl rfl rfl (AO.calc' rfl ?_)
  refine AR.nil [0, 1] rfl ?_
  refine AW.seq ?_
  refine AW.region ?_
  refine AR.step rfl rfl rfl (AO.calc' rfl ?_)
  refine AR.step rfl rfl rfl (AO.shrL (s := 32) rfl rfl rfl (by decide) rfl ?_)
  refine AR.step rfl rfl rfl (AO.conv_int rfl un_22 un_45 rfl ?_)
  refine AR.step rfl rfl rfl (AO.calc' rfl ?_)
  refine AR.step rfl rfl rfl (AO.conv_int rfl un_22 un_45 rfl ?_)
  refine AR.step rfl rfl rfl (AO.calc' rfl ?_)
  refine AR.step rfl rfl rfl (AO.calc' rfl ?_)
  refine AR.nil [0, 5, 6] rfl ?_
  refine AW.seq ?_
  refine AW.seq ?_
  refine AW.region ?_
  refine AR.step rfl rfl rfl (AO.calc' rfl ?_)
  refine AR.nil [0, 5, 6, 14] rfl ?_
  refine AW.block ?_
  refine AW.settle [0, 5, 6, 14] rfl ?_
  refine AW.loop (α := Nat) (fun i => [(0, .int .u64 (key.toNat : Int)), (5, .int .u32 ((mixSt key x i).1.toNat : Int)), (6, .int .u32 ((mixSt key x i).2.toNat : Int)), (14, .int .i64 (i : Int))]) (fun i => []) (fun i => i ≤ 4) (fun i => 4 - i) 0 (by simp only [xor_u32, xor_u64, and_u32, and_u64, or_u32, or_u64, u32w, u64w, u8w, bits32, bits64, bits8, ofInt_add', ofInt_mul', ofInt_toNat, ofInt_toNat_w, ofInt_byteB, fdiv_shr]; rfl) rfl ?_ ?_
  · first | trivial | omega | simp
  · intro q hI
    revert hI; revert q; intro i hI
    refine AW.seq ?_
    refine AW.region ?_
    refine AR.step rfl rfl rfl (AO.calc' rfl ?_)
    refine AR.nil [0, 5, 6, 14, 15] rfl ?_
    refine AW.seq ?_
    refine AW.cond rfl (fun h1 => ?_) (fun h1 => ?_)
    · try simp only [Bool.and_eq_true, Bool.or_eq_true, Bool.and_eq_false_iff, Bool.or_eq_false_iff, decide_eq_true_eq, decide_eq_false_iff_not, beq_iff_eq, bne_iff_ne, ne_eq, beq_eq_false_iff_ne, bne_eq_false_iff_eq, Bool.not_eq_true', Bool.not_eq_false', Bool.not_not, Bool.not_true, Bool.not_false, List.length_map, List.length_append, List.length_cons, List.length_nil] at h1
      refine AW.skip ?_
      refine AW.seq ?_
      refine AW.block ?_
      refine AW.seq ?_
      refine AW.region ?_
      refine AR.step rfl rfl rfl (AO.calc' rfl ?_)
      refine AR.step rfl rfl rfl (AO.calc' rfl ?_)
      refine AR.nil [0, 5, 6, 7, 14] rfl ?_
      refine AW.seq ?_
      refine AW.region ?_
      refine AR.step rfl rfl rfl (AO.calc' rfl ?_)
      refine AR.step rfl rfl rfl (AO.conv_int rfl un_22 un_45 rfl ?_)
      refine AR.step rfl rfl rfl (AO.calc' rfl ?_)
      refine AR.nil [0, 5, 6, 7, 8, 14] rfl ?_
      refine AW.seq ?_
      refine AW.seq ?_
      refine AW.region ?_
      refine AR.step rfl rfl rfl (AO.calc' rfl ?_)
      first
        | refine AR.step rfl rfl rfl (AO.rem_nn rfl rfl rfl (by decide) (by first | omega | (simp only [List.length_map, List.length_append, List.length_cons, List.length_nil] at *; omega)) ?_)
        | refine AR.step rfl rfl rfl (AO.rem rfl rfl rfl (by decide) ?_)
      refine AR.step rfl rfl rfl (AO.calc' rfl ?_)
      refine AR.nil [0, 5, 6, 7, 8, 14, 21] rfl ?_
      refine AW.cond rfl (fun h2 => ?_) (fun h2 => ?_)
      · try simp only [Bool.and_eq_true, Bool.or_eq_true, Bool.and_eq_false_iff, Bool.or_eq_false_iff, decide_eq_true_eq, decide_eq_false_iff_not, beq_iff_eq, bne_iff_ne, ne_eq, beq_eq_false_iff_ne, bne_eq_false_iff_eq, Bool.not_eq_true', Bool.not_eq_false', Bool.not_not, Bool.not_true, Bool.not_false, List.length_map, List.length_append, List.length_cons, List.length_nil] at h2
        refine AW.region ?_
        refine AR.step rfl rfl rfl (AO.calc' rfl ?_)
        refine AR.step rfl rfl rfl (AO.shrL (s := 32) rfl rfl rfl (by decide) rfl ?_)
        refine AR.step rfl rfl rfl (AO.conv_int rfl un_22 un_45 rfl ?_)
        refine AR.step rfl rfl rfl (AO.calc' rfl ?_)
        refine AR.nil [0, 5, 6, 7, 8, 14] rfl ?_
        refine AW.region ?_
        refine AR.step rfl rfl rfl (AO.calc' rfl ?_)
        refine AR.step rfl rfl rfl (AO.calc' rfl ?_)
        refine AR.step rfl rfl rfl (AO.calc' rfl ?_)
        refine AR.step rfl rfl rfl (AO.calc' rfl ?_)
        refine AR.step rfl rfl rfl (AO.calc' rfl ?_)
        first
          | refine AR.step rfl rfl rfl (AO.add_nw rfl rfl rfl (wrap_i64 (by first | omega | (simp only [List.length_map, List.length_append, List.length_cons, List.length_nil] at *; omega)) (by first | omega | (simp only [List.length_map, List.length_append, List.length_cons, List.length_nil] at *; omega))) ?_)
          | refine AR.step rfl rfl rfl (AO.calc' rfl ?_)
        refine AR.step rfl rfl rfl (AO.conv_int rfl un_3 un_45 rfl ?_)
        refine AR.step rfl rfl rfl (AO.call rfl _ rfl rfl pf_23 (c_round (mixSt key x i).2 (keyB key i) (BitVec.ofNat 32 (i + 1)) _ _ _ rfl (by first | (rw [keyB_odd (by omega)]; simp only [xor_u32, xor_u64, and_u32, and_u64, or_u32, or_u64, u32w, u64w, u8w, bits32, bits64, bits8, ofInt_add', ofInt_mul', ofInt_toNat, ofInt_toNat_w, ofInt_byteB, fdiv_shr]; done) | (rw [keyB_even (by omega)]; simp only [xor_u32, xor_u64, and_u32, and_u64, or_u32, or_u64, u32w, u64w, u8w, bits32, bits64, bits8, ofInt_add', ofInt_mul', ofInt_toNat, ofInt_toNat_w, ofInt_byteB, fdiv_shr]; done)) (by simp only [u32w]; rfl) ?_))
        refine AR.step rfl rfl rfl (AO.calc' rfl ?_)
        refine AR.step rfl rfl rfl (AO.calc' rfl ?_)
        refine AR.step rfl rfl rfl (AO.calc' rfl ?_)
        refine AR.nil [0, 5, 6, 14] rfl ?_
        refine AW.region ?_
        first
          | refine AR.step rfl rfl rfl (AO.add_nw rfl rfl rfl (wrap_i64 (by first | omega | (simp only [List.length_map, List.length_append, List.length_cons, List.length_nil] at *; omega)) (by first | omega | (simp only [List.length_map, List.length_append, List.length_cons, List.length_nil] at *; omega))) ?_)
          | refine AR.step rfl rfl rfl (AO.calc' rfl ?_)
        refine AR.step rfl rfl rfl (AO.calc' rfl ?_)
        refine AR.nil [0, 5, 6, 14] rfl ?_
        refine ⟨i + 1, ?_, rfl, rfl, ?_, ?_⟩
        · simp only [xor_u32, xor_u64, and_u32, and_u64, or_u32, or_u64, u32w, u64w, u8w, bits32, bits64, bits8, ofInt_add', ofInt_mul', ofInt_toNat, ofInt_toNat_w, ofInt_byteB, fdiv_shr, mixSt]; rfl
        · first | trivial | omega | simp
        · first | omega | (simp; omega)
      · try simp only [Bool.and_eq_true, Bool.or_eq_true, Bool.and_eq_false_iff, Bool.or_eq_false_iff, decide_eq_true_eq, decide_eq_false_iff_not, beq_iff_eq, bne_iff_ne, ne_eq, beq_eq_false_iff_ne, bne_eq_false_iff_eq, Bool.not_eq_true', Bool.not_eq_false', Bool.not_not, Bool.not_true, Bool.not_false, List.length_map, List.length_append, List.length_cons, List.length_nil] at h2
        refine AW.skip ?_
        refine AW.region ?_
        refine AR.step rfl rfl rfl (AO.calc' rfl ?_)
        refine AR.step rfl rfl rfl (AO.calc' rfl ?_)
        refine AR.step rfl rfl rfl (AO.calc' rfl ?_)
        refine AR.step rfl rfl rfl (AO.calc' rfl ?_)
        refine AR.step rfl rfl rfl (AO.calc' rfl ?_)
        first
          | refine AR.step rfl rfl rfl (AO.add_nw rfl rfl rfl (wrap_i64 (by first | omega | (simp only [List.length_map, List.length_append, List.length_cons, List.length_nil] at *; omega)) (by first | omega | (simp only [List.length_map, List.length_append, List.length_cons, List.length_nil] at *; omega))) ?_)
          | refine AR.step rfl rfl rfl (AO.calc' rfl ?_)
        refine AR.step rfl rfl rfl (AO.conv_int rfl un_3 un_45 rfl ?_)
        refine AR.step rfl rfl rfl (AO.call rfl _ rfl rfl pf_23 (c_round (mixSt key x i).2 (keyB key i) (BitVec.ofNat 32 (i + 1)) _ _ _ rfl (by first | (rw [keyB_odd (by omega)]; simp only [xor_u32, xor_u64, and_u32, and_u64, or_u32, or_u64, u32w, u64w, u8w, bits32, bits64, bits8, ofInt_add', ofInt_mul', ofInt_toNat, ofInt_toNat_w, ofInt_byteB, fdiv_shr]; done) | (rw [keyB_even (by omega)]; simp only [xor_u32, xor_u64, and_u32, and_u64, or_u32, or_u64, u32w, u64w, u8w, bits32, bits64, bits8, ofInt_add', ofInt_mul', ofInt_toNat, ofInt_toNat_w, ofInt_byteB, fdiv_shr]; done)) (by simp only [u32w]; rfl) ?_))
        refine AR.step rfl rfl rfl (AO.calc' rfl ?_)
        refine AR.step rfl rfl rfl (AO.calc' rfl ?_)
        refine AR.step rfl rfl rfl (AO.calc' rfl ?_)
        refine AR.nil [0, 5, 6, 14] rfl ?_
        refine AW.region ?_
        first
          | refine AR.step rfl rfl rfl (AO.add_nw rfl rfl rfl (wrap_i64 (by first | omega | (simp only [List.length_map, List.length_append, List.length_cons, List.length_nil] at *; omega)) (by first | omega | (simp only [List.length_map, List.length_append, List.length_cons, List.length_nil] at *; omega))) ?_)
          | refine AR.step rfl rfl rfl (AO.calc' rfl ?_)
        refine AR.step rfl rfl rfl (AO.calc' rfl ?_)
        refine AR.nil [0, 5, 6, 14] rfl ?_
        refine ⟨i + 1, ?_, rfl, rfl, ?_, ?_⟩
        · simp only [xor_u32, xor_u64, and_u32, and_u64, or_u32, or_u64, u32w, u64w, u8w, bits32, bits64, bits8, ofInt_add', ofInt_mul', ofInt_toNat, ofInt_toNat_w, ofInt_byteB, fdiv_shr, mixSt]; rfl
        · first | trivial | omega | simp
        · first | omega | (simp; omega)
    · try simp only [Bool.and_eq_true, Bool.or_eq_true, Bool.and_eq_false_iff, Bool.or_eq_false_iff, decide_eq_true_eq, decide_eq_false_iff_not, beq_iff_eq, bne_iff_ne, ne_eq, beq_eq_false_iff_ne, bne_eq_false_iff_eq, Bool.not_eq_true', Bool.not_eq_false', Bool.not_not, Bool.not_true, Bool.not_false, List.length_map, List.length_append, List.length_cons, List.length_nil] at h1
      refine AW.exit ?_
      refine AW.seq ?_
      refine AW.region ?_
      refine AR.step rfl rfl rfl (AO.calc' rfl ?_)
      refine AR.step rfl rfl rfl (AO.conv_int rfl un_45 un_22 rfl ?_)
      refine AR.step rfl rfl rfl (AO.shlL (s := 32) rfl rfl rfl (by decide) rfl ?_)
      refine AR.step rfl rfl rfl (AO.calc' rfl ?_)
      refine AR.step rfl rfl rfl (AO.conv_int rfl un_45 un_22 rfl ?_)
      refine AR.step rfl rfl rfl (AO.calc' rfl ?_)
      refine AR.step rfl rfl rfl (AO.calc' rfl ?_)
      refine AR.nil [4] rfl ?_
      refine AW.ret ?_
      refine ⟨rfl, _, ⟨_, _, rfl, rfl, rfl⟩, [], List.nil_sublist _, ?_⟩
      refine ret_eq h ?_
      obtain rfl : i = 4 := by omega
      simp only [packPV, List.map, PV.weak, u64w, ofInt_shl]
      simp only [xor_u32, xor_u64, and_u32, and_u64, or_u32, or_u64, u32w, u64w, u8w, bits32, bits64, bits8, ofInt_add', ofInt_mul', ofInt_toNat, ofInt_toNat_w, ofInt_byteB, fdiv_shr]
      rfl

theorem c_Check (b : List UInt8) (bb : PV) (hlen : b.length ≤ 9223372036854775807) {τ : List Res} {R : AOut → List Res → Prop} (hb : bb = .list (b.map byteC)) (h : R (.ret (.int .i64 ((~~~ checkB b).toNat : Int))) τ) : AC Try.prog 17 [bb] τ R := by
  subst hb
  refine AC.none ?_
  refine AC.of_body 31 [.tmp 2] [0] Try.func17 rfl rfl rfl rfl rfl ?_
  refine AW.seq ?_
  refine AW.region ?_
  refine AR.step rfl rfl rfl (AO.calc' rfl ?_)
  refine AR.nil [0] rfl ?_
  refine AW.seq ?_
  refine AW.region ?_
  refine AR.step rfl rfl rfl (AO.calc' rfl ?_)
  refine AR.nil [0, 3] rfl ?_
  refine AW.seq ?_
  refine AW.seq ?_
  refine AW.region ?_
  refine AR.step rfl rfl rfl (AO.calc' rfl ?_)
  refine AR.step rfl rfl rfl (AO.len_slice rfl rfl rfl rfl es_35 rfl ?_)
  refine AR.step rfl rfl rfl (AO.calc' rfl ?_)
  refine AR.nil [3, 6, 7, 8] rfl ?_
  refine AW.block ?_
  refine AW.settle [3, 6, 7, 8] rfl ?_
  refine AW.loop (α := Nat) (fun i => [(3, .int .u32 (((b.take i).foldl crcB 4294967295#32).toNat : Int)), (6, .list (b.map byteC)), (7, .int .i64 (b.length : Int)), (8, .int .i64 (i : Int))]) (fun i => []) (fun i => i ≤ b.length) (fun i => b.length - i) 0 (by simp) rfl ?_ ?_
  · first | trivial | omega | simp
  · intro q hI
    revert hI; revert q; intro i hI
    refine AW.seq ?_
    refine AW.region ?_
    refine AR.step rfl rfl rfl (AO.calc' rfl ?_)
    refine AR.nil [3, 6, 7, 8, 9] rfl ?_
    refine AW.seq ?_
    refine AW.cond rfl (fun h1 => ?_) (fun h1 => ?_)
    · try simp only [Bool.and_eq_true, Bool.or_eq_true, Bool.and_eq_false_iff, Bool.or_eq_false_iff, decide_eq_true_eq, decide_eq_false_iff_not, beq_iff_eq, bne_iff_ne, ne_eq, beq_eq_false_iff_ne, bne_eq_false_iff_eq, Bool.not_eq_true', Bool.not_eq_false', Bool.not_not, Bool.not_true, Bool.not_false, List.length_map, List.length_append, List.length_cons, List.length_nil] at h1
      refine AW.skip ?_
      refine AW.seq ?_
      refine AW.block ?_
      refine AW.seq ?_
      refine AW.region ?_
      have hil : i < b.length := by omega
      refine AR.step rfl rfl rfl (AO.indexAddr rfl rfl rfl es_35 (by first | omega | (simp only [List.length_map, List.length_append, List.length_cons, List.length_nil] at *; omega)) (getC b i hil) rfl ?_)
      refine AR.step rfl rfl rfl (AO.load_ref rfl rfl ti_5 rfl ?_)
      refine AR.step rfl rfl rfl (AO.calc' rfl ?_)
      refine AR.nil [3, 5, 6, 7, 8] rfl ?_
      refine AW.seq ?_
      refine AW.region ?_
      refine AR.step rfl rfl rfl (AO.calc' rfl ?_)
      refine AR.step rfl rfl rfl (AO.calc' rfl ?_)
      first
        | refine AR.step rfl rfl rfl (AO.conv_byte rfl un_5 un_45 rfl rfl ?_)
        | refine AR.step rfl rfl rfl (AO.conv_nw rfl un_5 un_45 rfl (wrap_u32 (by first | omega | (simp only [List.length_map, List.length_append, List.length_cons, List.length_nil] at *; omega)) (by first | omega | (simp only [List.length_map, List.length_append, List.length_cons, List.length_nil] at *; omega))) ?_)
        | refine AR.step rfl rfl rfl (AO.conv_int rfl un_5 un_45 rfl ?_)
      refine AR.step rfl rfl rfl (AO.calc' rfl ?_)
      refine AR.step rfl rfl rfl (AO.calc' rfl ?_)
      refine AR.nil [3, 6, 7, 8] rfl ?_
      refine AW.seq ?_
      refine AW.region ?_
      refine AR.step rfl rfl rfl (AO.calc' rfl ?_)
      refine AR.nil [3, 6, 7, 8, 16] rfl ?_
      refine AW.block ?_
      refine AW.settle [3, 6, 7, 8, 16] rfl ?_
      refine AW.loop (α := Nat) (fun k => [(3, .int .u32 ((itB k (((b.take i).foldl crcB 4294967295#32) ^^^ (b[i]'hil).toBitVec.setWidth 32)).toNat : Int)), (6, .list (b.map byteC)), (7, .int .i64 (b.length : Int)), (8, .int .i64 (i : Int)), (16, .int .i64 (k : Int))]) (fun k => []) (fun k => k ≤ 8) (fun k => 8 - k) 0 (by simp only [xor_u32, xor_u64, and_u32, and_u64, or_u32, or_u64, u32w, u64w, u8w, bits32, bits64, bits8, ofInt_add', ofInt_mul', ofInt_toNat, ofInt_toNat_w, ofInt_byteB, fdiv_shr]; rfl) rfl ?_ ?_
      · first | trivial | omega | simp
      · intro q hI
        revert hI; revert q; intro k hI
        refine AW.seq ?_
        refine AW.region ?_
        refine AR.step rfl rfl rfl (AO.calc' rfl ?_)
        refine AR.nil [3, 6, 7, 8, 16, 17] rfl ?_
        refine AW.seq ?_
        refine AW.cond rfl (fun h2 => ?_) (fun h2 => ?_)
        · try simp only [Bool.and_eq_true, Bool.or_eq_true, Bool.and_eq_false_iff, Bool.or_eq_false_iff, decide_eq_true_eq, decide_eq_false_iff_not, beq_iff_eq, bne_iff_ne, ne_eq, beq_eq_false_iff_ne, bne_eq_false_iff_eq, Bool.not_eq_true', Bool.not_eq_false', Bool.not_not, Bool.not_true, Bool.not_false, List.length_map, List.length_append, List.length_cons, List.length_nil] at h2
          refine AW.skip ?_
          refine AW.seq ?_
          refine AW.block ?_
          refine AW.seq ?_
          refine AW.region ?_
          refine AR.step rfl rfl rfl (AO.calc' rfl ?_)
          refine AR.step rfl rfl rfl (AO.calc' rfl ?_)
          refine AR.step rfl rfl rfl (AO.calc' rfl ?_)
          refine AR.nil [3, 6, 7, 8, 16, 20] rfl ?_
          refine AW.cond rfl (fun h3 => ?_) (fun h3 => ?_)
          · try simp only [Bool.and_eq_true, Bool.or_eq_true, Bool.and_eq_false_iff, Bool.or_eq_false_iff, decide_eq_true_eq, decide_eq_false_iff_not, beq_iff_eq, bne_iff_ne, ne_eq, beq_eq_false_iff_ne, bne_eq_false_iff_eq, Bool.not_eq_true', Bool.not_eq_false', Bool.not_not, Bool.not_true, Bool.not_false, List.length_map, List.length_append, List.length_cons, List.length_nil] at h3
            rw [and1_u32] at h3
            refine AW.region ?_
            refine AR.step rfl rfl rfl (AO.calc' rfl ?_)
            refine AR.step rfl rfl rfl (AO.shrL (s := 1) rfl rfl rfl (by decide) rfl ?_)
            refine AR.step rfl rfl rfl (AO.calc' rfl ?_)
            refine AR.step rfl rfl rfl (AO.calc' rfl ?_)
            refine AR.nil [3, 6, 7, 8, 16] rfl ?_
            refine AW.region ?_
            first
              | refine AR.step rfl rfl rfl (AO.add_nw rfl rfl rfl (wrap_i64 (by first | omega | (simp only [List.length_map, List.length_append, List.length_cons, List.length_nil] at *; omega)) (by first | omega | (simp only [List.length_map, List.length_append, List.length_cons, List.length_nil] at *; omega))) ?_)
              | refine AR.step rfl rfl rfl (AO.calc' rfl ?_)
            refine AR.step rfl rfl rfl (AO.calc' rfl ?_)
            refine AR.nil [3, 6, 7, 8, 16] rfl ?_
            refine ⟨k + 1, ?_, rfl, rfl, ?_, ?_⟩
            · first | (rw [itB, stB_one _ h3]; simp only [xor_u32, xor_u64, and_u32, and_u64, or_u32, or_u64, u32w, u64w, u8w, bits32, bits64, bits8, ofInt_add', ofInt_mul', ofInt_toNat, ofInt_toNat_w, ofInt_byteB, fdiv_shr]; rfl) | (rw [itB, stB_zero _ h3]; simp only [xor_u32, xor_u64, and_u32, and_u64, or_u32, or_u64, u32w, u64w, u8w, bits32, bits64, bits8, ofInt_add', ofInt_mul', ofInt_toNat, ofInt_toNat_w, ofInt_byteB, fdiv_shr]; rfl)
            · first | trivial | omega | simp
            · first | omega | (simp; omega)
          · try simp only [Bool.and_eq_true, Bool.or_eq_true, Bool.and_eq_false_iff, Bool.or_eq_false_iff, decide_eq_true_eq, decide_eq_false_iff_not, beq_iff_eq, bne_iff_ne, ne_eq, beq_eq_false_iff_ne, bne_eq_false_iff_eq, Bool.not_eq_true', Bool.not_eq_false', Bool.not_not, Bool.not_true, Bool.not_false, List.length_map, List.length_append, List.length_cons, List.length_nil] at h3
            rw [and1_u32] at h3
            refine AW.region ?_
            refine AR.step rfl rfl rfl (AO.calc' rfl ?_)
            refine AR.step rfl rfl rfl (AO.shrL (s := 1) rfl rfl rfl (by decide) rfl ?_)
            refine AR.step rfl rfl rfl (AO.calc' rfl ?_)
            refine AR.nil [3, 6, 7, 8, 16] rfl ?_
            refine AW.region ?_
            first
              | refine AR.step rfl rfl rfl (AO.add_nw rfl rfl rfl (wrap_i64 (by first | omega | (simp only [List.length_map, List.length_append, List.length_cons, List.length_nil] at *; omega)) (by first | omega | (simp only [List.length_map, List.length_append, List.length_cons, List.length_nil] at *; omega))) ?_)
              | refine AR.step rfl rfl rfl (AO.calc' rfl ?_)
            refine AR.step rfl rfl rfl (AO.calc' rfl ?_)
            refine AR.nil [3, 6, 7, 8, 16] rfl ?_
            refine ⟨k + 1, ?_, rfl, rfl, ?_, ?_⟩
            · first | (rw [itB, stB_one _ h3]; simp only [xor_u32, xor_u64, and_u32, and_u64, or_u32, or_u64, u32w, u64w, u8w, bits32, bits64, bits8, ofInt_add', ofInt_mul', ofInt_toNat, ofInt_toNat_w, ofInt_byteB, fdiv_shr]; rfl) | (rw [itB, stB_zero _ h3]; simp only [xor_u32, xor_u64, and_u32, and_u64, or_u32, or_u64, u32w, u64w, u8w, bits32, bits64, bits8, ofInt_add', ofInt_mul', ofInt_toNat, ofInt_toNat_w, ofInt_byteB, fdiv_shr]; rfl)
            · first | trivial | omega | simp
            · first | omega | (simp; omega)
        · try simp only [Bool.and_eq_true, Bool.or_eq_true, Bool.and_eq_false_iff, Bool.or_eq_false_iff, decide_eq_true_eq, decide_eq_false_iff_not, beq_iff_eq, bne_iff_ne, ne_eq, beq_eq_false_iff_ne, bne_eq_false_iff_eq, Bool.not_eq_true', Bool.not_eq_false', Bool.not_not, Bool.not_true, Bool.not_false, List.length_map, List.length_append, List.length_cons, List.length_nil] at h2
          refine AW.exit ?_
          obtain rfl : k = 8 := by omega
          refine AW.region ?_
          first
            | refine AR.step rfl rfl rfl (AO.add_nw rfl rfl rfl (wrap_i64 (by first | omega | (simp only [List.length_map, List.length_append, List.length_cons, List.length_nil] at *; omega)) (by first | omega | (simp only [List.length_map, List.length_append, List.length_cons, List.length_nil] at *; omega))) ?_)
            | refine AR.step rfl rfl rfl (AO.calc' rfl ?_)
          refine AR.step rfl rfl rfl (AO.calc' rfl ?_)
          refine AR.nil [3, 6, 7, 8] rfl ?_
          refine ⟨i + 1, ?_, rfl, rfl, ?_, ?_⟩
          · rw [checkB_take b i (by omega)]; rfl
          · first | trivial | omega | simp
          · first | omega | (simp; omega)
    · try simp only [Bool.and_eq_true, Bool.or_eq_true, Bool.and_eq_false_iff, Bool.or_eq_false_iff, decide_eq_true_eq, decide_eq_false_iff_not, beq_iff_eq, bne_iff_ne, ne_eq, beq_eq_false_iff_ne, bne_eq_false_iff_eq, Bool.not_eq_true', Bool.not_eq_false', Bool.not_not, Bool.not_true, Bool.not_false, List.length_map, List.length_append, List.length_cons, List.length_nil] at h1
      refine AW.exit ?_
      refine AW.seq ?_
      refine AW.region ?_
      refine AR.step rfl rfl rfl (AO.calc' rfl ?_)
      refine AR.step rfl rfl rfl (AO.calc' rfl ?_)
      first
        | refine AR.step rfl rfl rfl (AO.conv_nw rfl un_45 un_3 rfl (wrap_i64 (by first | omega | (simp only [List.length_map, List.length_append, List.length_cons, List.length_nil] at *; omega)) (by first | omega | (simp only [List.length_map, List.length_append, List.length_cons, List.length_nil] at *; omega))) ?_)
        | refine AR.step rfl rfl rfl (AO.conv_int rfl un_45 un_3 rfl ?_)
      refine AR.step rfl rfl rfl (AO.calc' rfl ?_)
      refine AR.nil [2] rfl ?_
      refine AW.ret ?_
      refine ⟨rfl, _, ⟨_, _, rfl, rfl, rfl⟩, [], List.nil_sublist _, ?_⟩
      refine ret_eq h ?_
      obtain rfl : i = b.length := by omega
      simp only [packPV, List.map, PV.weak, List.take_length, not_u32, ofInt_toNat]
      have hb := (~~~ checkB b).isLt
      exact congrArg (PV.int .i64) (wrap_i64 (by omega) (by omega)).symm

theorem c_Parse (s : List UInt8) (hlen : s.length ≤ 9223372036854775807) {τ : List Res} {R : AOut → List Res → Prop}  (h : R (.ret (.tuple [.int .u64 (((parseB s).getD 0#64).toNat : Int), .int .i64 (if (parseB s).isSome then 0 else 5)])) τ) : AC Try.prog 14 [.str s] τ R := by
  refine AC.none ?_
  refine AC.of_body 41 [.tmp 2, .tmp 3] [0] Try.func14 rfl rfl rfl rfl rfl ?_
  refine AW.seq ?_
  refine AW.region ?_
  refine AR.step rfl rfl rfl (AO.calc' rfl ?_)
  refine AR.step rfl rfl rfl (AO.calc' rfl ?_)
  refine AR.nil [0] rfl ?_
  refine AW.seq ?_
  refine AW.seq ?_
  refine AW.region ?_
  refine AR.step rfl rfl rfl (AO.calc' rfl ?_)
  refine AR.step rfl rfl rfl (AO.len_str rfl rfl rfl rfl un_9 rfl ?_)
  refine AR.step rfl rfl rfl (AO.calc' rfl ?_)
  refine AR.nil [0, 9] rfl ?_
  refine AW.cond rfl (fun h1 => ?_) (fun h1 => ?_)
  · try simp only [Bool.and_eq_true, Bool.or_eq_true, Bool.and_eq_false_iff, Bool.or_eq_false_iff, decide_eq_true_eq, decide_eq_false_iff_not, beq_iff_eq, bne_iff_ne, ne_eq, beq_eq_false_iff_ne, bne_eq_false_iff_eq, Bool.not_eq_true', Bool.not_eq_false', Bool.not_not, Bool.not_true, Bool.not_false, List.length_map, List.length_append, List.length_cons, List.length_nil] at h1
    refine AW.seq ?_
    refine AW.region ?_
    refine AR.step rfl rfl rfl (AO.calc' rfl ?_)
    refine AR.step rfl rfl rfl (AO.calc' rfl ?_)
    refine AR.nil [2, 3] rfl ?_
    refine AW.ret ?_
    refine ⟨rfl, _, ⟨_, _, rfl, rfl, _, _, rfl, rfl, rfl⟩, [], List.nil_sublist _, ?_⟩
    refine ret_eq h ?_
    first | rw [parse_len (by omega)] | rw [parse_bad (i := q.1) (by omega) (digB_no (by omega) (by omega))] | rw [parse_ok (by omega) (by omega) hacc]
    rfl
  · try simp only [Bool.and_eq_true, Bool.or_eq_true, Bool.and_eq_false_iff, Bool.or_eq_false_iff, decide_eq_true_eq, decide_eq_false_iff_not, beq_iff_eq, bne_iff_ne, ne_eq, beq_eq_false_iff_ne, bne_eq_false_iff_eq, Bool.not_eq_true', Bool.not_eq_false', Bool.not_not, Bool.not_true, Bool.not_false, List.length_map, List.length_append, List.length_cons, List.length_nil] at h1
    refine AW.skip ?_
    refine AW.seq ?_
    refine AW.region ?_
    refine AR.step rfl rfl rfl (AO.calc' rfl ?_)
    refine AR.nil [0, 4] rfl ?_
    refine AW.seq ?_
    refine AW.seq ?_
    refine AW.region ?_
    refine AR.step rfl rfl rfl (AO.calc' rfl ?_)
    refine AR.nil [0, 4, 10] rfl ?_
    refine AW.block ?_
    refine AW.settle [0, 4, 10] rfl ?_
    refine AW.loop (α := Nat × BitVec 64) (fun q => [(0, .str s), (4, .int .u64 (q.2.toNat : Int)), (10, .int .i64 (q.1 : Int))]) (fun q => []) (fun q => accB s q.1 = some q.2 ∧ q.1 ≤ 16) (fun q => 16 - q.1) (0, 0#64) rfl rfl ?_ ?_
    · exact ⟨rfl, by omega⟩
    · intro q hI
      revert hI; revert q; intro q hI
      obtain ⟨hacc, hi⟩ := hI
      have hlt := (s.getD q.1 0).toNat_lt
      refine AW.seq ?_
      refine AW.region ?_
      refine AR.step rfl rfl rfl (AO.calc' rfl ?_)
      refine AR.nil [0, 4, 10, 11] rfl ?_
      refine AW.seq ?_
      refine AW.cond rfl (fun h2 => ?_) (fun h2 => ?_)
      · try simp only [Bool.and_eq_true, Bool.or_eq_true, Bool.and_eq_false_iff, Bool.or_eq_false_iff, decide_eq_true_eq, decide_eq_false_iff_not, beq_iff_eq, bne_iff_ne, ne_eq, beq_eq_false_iff_ne, bne_eq_false_iff_eq, Bool.not_eq_true', Bool.not_eq_false', Bool.not_not, Bool.not_true, Bool.not_false, List.length_map, List.length_append, List.length_cons, List.length_nil] at h2
        refine AW.skip ?_
        refine AW.seq ?_
        refine AW.block ?_
        refine AW.seq ?_
        refine AW.region ?_
        refine AR.step rfl rfl rfl (AO.calc' rfl ?_)
        refine AR.step rfl rfl rfl (AO.calc' rfl ?_)
        refine AR.nil [0, 4, 5, 10] rfl ?_
        refine AW.seq ?_
        refine AW.region ?_
        refine AR.step rfl rfl rfl (AO.calc' rfl ?_)
        refine AR.step rfl rfl rfl (AO.calc' rfl ?_)
        first
          | refine AR.step rfl rfl rfl (AO.index_strN rfl un_9 rfl rfl (by first | omega | (simp only [List.length_map, List.length_append, List.length_cons, List.length_nil] at *; omega)) ?_)
          | refine AR.step rfl rfl rfl (AO.index_strD rfl un_9 rfl rfl (by first | omega | (simp only [List.length_map, List.length_append, List.length_cons, List.length_nil] at *; omega)) (by first | omega | (simp only [List.length_map, List.length_append, List.length_cons, List.length_nil] at *; omega)) ?_)
        refine AR.step rfl rfl rfl (AO.calc' rfl ?_)
        refine AR.nil [0, 4, 6, 10] rfl ?_
        refine AW.seq ?_
        refine AW.block ?_
        refine AW.seq ?_
        refine AW.region ?_
        refine AR.step rfl rfl rfl (AO.calc' rfl ?_)
        refine AR.step rfl rfl rfl (AO.calc' rfl ?_)
        refine AR.step rfl rfl rfl (AO.calc' rfl ?_)
        apply AR.and 3 19 22 [0, 4, 6, 10]
        · rfl
        · rfl
        · intro g3
          have g3n := g3
          try simp only [Bool.and_eq_true, Bool.or_eq_true, Bool.and_eq_false_iff, Bool.or_eq_false_iff, decide_eq_true_eq, decide_eq_false_iff_not, beq_iff_eq, bne_iff_ne, ne_eq, beq_eq_false_iff_ne, bne_eq_false_iff_eq, Bool.not_eq_true', Bool.not_eq_false', Bool.not_not, Bool.not_true, Bool.not_false, List.length_map, List.length_append, List.length_cons, List.length_nil] at g3n
          refine AR.run rfl rfl rfl rfl rfl rfl g3 ?_
          refine AR.step rfl rfl rfl (AO.calc' rfl ?_)
          refine AR.run rfl rfl rfl rfl rfl rfl g3 ?_
          refine AR.step rfl rfl rfl (AO.calc' rfl ?_)
          refine AR.step rfl rfl rfl (AO.pick_T rfl rfl g3 rfl ?_)
          refine AR.nil [22, 0, 4, 6, 10] rfl ?_
          exact ⟨rfl, rfl, rfl, rfl⟩
        · intro g3
          have g3n := g3
          try simp only [Bool.and_eq_true, Bool.or_eq_true, Bool.and_eq_false_iff, Bool.or_eq_false_iff, decide_eq_true_eq, decide_eq_false_iff_not, beq_iff_eq, bne_iff_ne, ne_eq, beq_eq_false_iff_ne, bne_eq_false_iff_eq, Bool.not_eq_true', Bool.not_eq_false', Bool.not_not, Bool.not_true, Bool.not_false, List.length_map, List.length_append, List.length_cons, List.length_nil] at g3n
          refine AR.skip rfl rfl rfl rfl rfl rfl g3 ?_
          refine AR.skip rfl rfl rfl rfl rfl rfl g3 ?_
          refine AR.step rfl rfl rfl (AO.pick_F rfl rfl g3 rfl ?_)
          refine AR.nil [22, 0, 4, 6, 10] rfl ?_
          exact ⟨rfl, rfl, rfl, rfl⟩
        refine AR.step rfl rfl rfl (AO.calc' rfl ?_)
        refine AR.nil [0, 4, 6, 10, 16] rfl ?_
        refine AW.cond rfl (fun h4 => ?_) (fun h4 => ?_)
        · try simp only [Bool.and_eq_true, Bool.or_eq_true, Bool.and_eq_false_iff, Bool.or_eq_false_iff, decide_eq_true_eq, decide_eq_false_iff_not, beq_iff_eq, bne_iff_ne, ne_eq, beq_eq_false_iff_ne, bne_eq_false_iff_eq, Bool.not_eq_true', Bool.not_eq_false', Bool.not_not, Bool.not_true, Bool.not_false, List.length_map, List.length_append, List.length_cons, List.length_nil] at h4
          refine AW.region ?_
          refine AR.step rfl rfl rfl (AO.calc' rfl ?_)
          first
            | refine AR.step rfl rfl rfl (AO.sub_nw rfl rfl rfl (wrap_u8 (by first | omega | (simp only [List.length_map, List.length_append, List.length_cons, List.length_nil] at *; omega)) (by first | omega | (simp only [List.length_map, List.length_append, List.length_cons, List.length_nil] at *; omega))) ?_)
            | refine AR.step rfl rfl rfl (AO.calc' rfl ?_)
          refine AR.step rfl rfl rfl (AO.calc' rfl ?_)
          refine AR.nil [0, 4, 6, 10] rfl ?_
          refine AW.region ?_
          refine AR.step rfl rfl rfl (AO.calc' rfl ?_)
          refine AR.step rfl rfl rfl (AO.shlL (s := 4) rfl rfl rfl (by decide) rfl ?_)
          refine AR.step rfl rfl rfl (AO.calc' rfl ?_)
          first
            | refine AR.step rfl rfl rfl (AO.conv_byte rfl un_5 un_27 rfl rfl ?_)
            | refine AR.step rfl rfl rfl (AO.conv_nw rfl un_5 un_27 rfl (wrap_u64 (by first | omega | (simp only [List.length_map, List.length_append, List.length_cons, List.length_nil] at *; omega)) (by first | omega | (simp only [List.length_map, List.length_append, List.length_cons, List.length_nil] at *; omega))) ?_)
            | refine AR.step rfl rfl rfl (AO.conv_int rfl un_5 un_27 rfl ?_)
          refine AR.step rfl rfl rfl (AO.calc' rfl ?_)
          refine AR.step rfl rfl rfl (AO.calc' rfl ?_)
          refine AR.nil [0, 4, 10] rfl ?_
          refine AW.region ?_
          first
            | refine AR.step rfl rfl rfl (AO.add_nw rfl rfl rfl (wrap_i64 (by first | omega | (simp only [List.length_map, List.length_append, List.length_cons, List.length_nil] at *; omega)) (by first | omega | (simp only [List.length_map, List.length_append, List.length_cons, List.length_nil] at *; omega))) ?_)
            | refine AR.step rfl rfl rfl (AO.calc' rfl ?_)
          refine AR.step rfl rfl rfl (AO.calc' rfl ?_)
          refine AR.nil [0, 4, 10] rfl ?_
          refine ⟨(q.1 + 1, (q.2 <<< 4) ||| BitVec.ofNat 64 ((digB (s.getD q.1 0)).getD 0)), ?_, rfl, rfl, ?_, ?_⟩
          · rw [or_u64, u64w, acc_or _ _ ((digB (s.getD q.1 0)).getD 0) (by first | (rw [digB_09 (by omega)]; simp only [Option.getD_some]; omega) | (rw [digB_af (by omega)]; simp only [Option.getD_some]; omega))]; rfl
          · exact ⟨acc_succ hacc (by first | (rw [digB_09 (by omega)]; rfl) | (rw [digB_af (by omega)]; rfl)), by show q.1 + 1 ≤ 16; omega⟩
          · first | omega | (simp; omega)
        · try simp only [Bool.and_eq_true, Bool.or_eq_true, Bool.and_eq_false_iff, Bool.or_eq_false_iff, decide_eq_true_eq, decide_eq_false_iff_not, beq_iff_eq, bne_iff_ne, ne_eq, beq_eq_false_iff_ne, bne_eq_false_iff_eq, Bool.not_eq_true', Bool.not_eq_false', Bool.not_not, Bool.not_true, Bool.not_false, List.length_map, List.length_append, List.length_cons, List.length_nil] at h4
          refine AW.seq ?_
          refine AW.region ?_
          refine AR.step rfl rfl rfl (AO.calc' rfl ?_)
          refine AR.step rfl rfl rfl (AO.calc' rfl ?_)
          refine AR.step rfl rfl rfl (AO.calc' rfl ?_)
          apply AR.and 3 28 31 [0, 4, 6, 10]
          · rfl
          · rfl
          · intro g5
            have g5n := g5
            try simp only [Bool.and_eq_true, Bool.or_eq_true, Bool.and_eq_false_iff, Bool.or_eq_false_iff, decide_eq_true_eq, decide_eq_false_iff_not, beq_iff_eq, bne_iff_ne, ne_eq, beq_eq_false_iff_ne, bne_eq_false_iff_eq, Bool.not_eq_true', Bool.not_eq_false', Bool.not_not, Bool.not_true, Bool.not_false, List.length_map, List.length_append, List.length_cons, List.length_nil] at g5n
            refine AR.run rfl rfl rfl rfl rfl rfl g5 ?_
            refine AR.step rfl rfl rfl (AO.calc' rfl ?_)
            refine AR.run rfl rfl rfl rfl rfl rfl g5 ?_
            refine AR.step rfl rfl rfl (AO.calc' rfl ?_)
            refine AR.step rfl rfl rfl (AO.pick_T rfl rfl g5 rfl ?_)
            refine AR.nil [31, 0, 4, 6, 10] rfl ?_
            exact ⟨rfl, rfl, rfl, rfl⟩
          · intro g5
            have g5n := g5
            try simp only [Bool.and_eq_true, Bool.or_eq_true, Bool.and_eq_false_iff, Bool.or_eq_false_iff, decide_eq_true_eq, decide_eq_false_iff_not, beq_iff_eq, bne_iff_ne, ne_eq, beq_eq_false_iff_ne, bne_eq_false_iff_eq, Bool.not_eq_true', Bool.not_eq_false', Bool.not_not, Bool.not_true, Bool.not_false, List.length_map, List.length_append, List.length_cons, List.length_nil] at g5n
            refine AR.skip rfl rfl rfl rfl rfl rfl g5 ?_
            refine AR.skip rfl rfl rfl rfl rfl rfl g5 ?_
            refine AR.step rfl rfl rfl (AO.pick_F rfl rfl g5 rfl ?_)
            refine AR.nil [31, 0, 4, 6, 10] rfl ?_
            exact ⟨rfl, rfl, rfl, rfl⟩
          refine AR.step rfl rfl rfl (AO.calc' rfl ?_)
          refine AR.nil [0, 4, 6, 10, 25] rfl ?_
          refine AW.cond rfl (fun h6 => ?_) (fun h6 => ?_)
          · try simp only [Bool.and_eq_true, Bool.or_eq_true, Bool.and_eq_false_iff, Bool.or_eq_false_iff, decide_eq_true_eq, decide_eq_false_iff_not, beq_iff_eq, bne_iff_ne, ne_eq, beq_eq_false_iff_ne, bne_eq_false_iff_eq, Bool.not_eq_true', Bool.not_eq_false', Bool.not_not, Bool.not_true, Bool.not_false, List.length_map, List.length_append, List.length_cons, List.length_nil] at h6
            refine AW.region ?_
            refine AR.step rfl rfl rfl (AO.calc' rfl ?_)
            first
              | refine AR.step rfl rfl rfl (AO.sub_nw rfl rfl rfl (wrap_u8 (by first | omega | (simp only [List.length_map, List.length_append, List.length_cons, List.length_nil] at *; omega)) (by first | omega | (simp only [List.length_map, List.length_append, List.length_cons, List.length_nil] at *; omega))) ?_)
              | refine AR.step rfl rfl rfl (AO.calc' rfl ?_)
            refine AR.step rfl rfl rfl (AO.calc' rfl ?_)
            refine AR.nil [0, 4, 6, 10] rfl ?_
            refine AW.region ?_
            refine AR.step rfl rfl rfl (AO.calc' rfl ?_)
            refine AR.step rfl rfl rfl (AO.shlL (s := 4) rfl rfl rfl (by decide) rfl ?_)
            refine AR.step rfl rfl rfl (AO.calc' rfl ?_)
            first
              | refine AR.step rfl rfl rfl (AO.conv_byte rfl un_5 un_27 rfl rfl ?_)
              | refine AR.step rfl rfl rfl (AO.conv_nw rfl un_5 un_27 rfl (wrap_u64 (by first | omega | (simp only [List.length_map, List.length_append, List.length_cons, List.length_nil] at *; omega)) (by first | omega | (simp only [List.length_map, List.length_append, List.length_cons, List.length_nil] at *; omega))) ?_)
              | refine AR.step rfl rfl rfl (AO.conv_int rfl un_5 un_27 rfl ?_)
            refine AR.step rfl rfl rfl (AO.calc' rfl ?_)
            refine AR.step rfl rfl rfl (AO.calc' rfl ?_)
            refine AR.nil [0, 4, 10] rfl ?_
            refine AW.region ?_
            first
              | refine AR.step rfl rfl rfl (AO.add_nw rfl rfl rfl (wrap_i64 (by first | omega | (simp only [List.length_map, List.length_append, List.length_cons, List.length_nil] at *; omega)) (by first | omega | (simp only [List.length_map, List.length_append, List.length_cons, List.length_nil] at *; omega))) ?_)
              | refine AR.step rfl rfl rfl (AO.calc' rfl ?_)
            refine AR.step rfl rfl rfl (AO.calc' rfl ?_)
            refine AR.nil [0, 4, 10] rfl ?_
            refine ⟨(q.1 + 1, (q.2 <<< 4) ||| BitVec.ofNat 64 ((digB (s.getD q.1 0)).getD 0)), ?_, rfl, rfl, ?_, ?_⟩
            · rw [or_u64, u64w, acc_or _ _ ((digB (s.getD q.1 0)).getD 0) (by first | (rw [digB_09 (by omega)]; simp only [Option.getD_some]; omega) | (rw [digB_af (by omega)]; simp only [Option.getD_some]; omega))]; rfl
            · exact ⟨acc_succ hacc (by first | (rw [digB_09 (by omega)]; rfl) | (rw [digB_af (by omega)]; rfl)), by show q.1 + 1 ≤ 16; omega⟩
            · first | omega | (simp; omega)
          · try simp only [Bool.and_eq_true, Bool.or_eq_true, Bool.and_eq_false_iff, Bool.or_eq_false_iff, decide_eq_true_eq, decide_eq_false_iff_not, beq_iff_eq, bne_iff_ne, ne_eq, beq_eq_false_iff_ne, bne_eq_false_iff_eq, Bool.not_eq_true', Bool.not_eq_false', Bool.not_not, Bool.not_true, Bool.not_false, List.length_map, List.length_append, List.length_cons, List.length_nil] at h6
            refine AW.seq ?_
            refine AW.region ?_
            refine AR.step rfl rfl rfl (AO.calc' rfl ?_)
            refine AR.step rfl rfl rfl (AO.calc' rfl ?_)
            refine AR.nil [2, 3] rfl ?_
            refine AW.ret ?_
            refine ⟨rfl, _, ⟨_, _, rfl, rfl, _, _, rfl, rfl, rfl⟩, [], List.nil_sublist _, ?_⟩
            refine ret_eq h ?_
            first | rw [parse_len (by omega)] | rw [parse_bad (i := q.1) (by omega) (digB_no (by omega) (by omega))] | rw [parse_ok (by omega) (by omega) hacc]
            rfl
      · try simp only [Bool.and_eq_true, Bool.or_eq_true, Bool.and_eq_false_iff, Bool.or_eq_false_iff, decide_eq_true_eq, decide_eq_false_iff_not, beq_iff_eq, bne_iff_ne, ne_eq, beq_eq_false_iff_ne, bne_eq_false_iff_eq, Bool.not_eq_true', Bool.not_eq_false', Bool.not_not, Bool.not_true, Bool.not_false, List.length_map, List.length_append, List.length_cons, List.length_nil] at h2
        refine AW.exit ?_
        refine AW.seq ?_
        refine AW.region ?_
        refine AR.step rfl rfl rfl (AO.calc' rfl ?_)
        refine AR.step rfl rfl rfl (AO.calc' rfl ?_)
        refine AR.step rfl rfl rfl (AO.calc' rfl ?_)
        refine AR.nil [2, 3] rfl ?_
        refine AW.ret ?_
        refine ⟨rfl, _, ⟨_, _, rfl, rfl, _, _, rfl, rfl, rfl⟩, [], List.nil_sublist _, ?_⟩
        refine ret_eq h ?_
        first | rw [parse_len (by omega)] | rw [parse_bad (i := q.1) (by omega) (digB_no (by omega) (by omega))] | rw [parse_ok (by omega) (by omega) hacc]
        rfl

theorem c_Text (d : BitVec 64) (d' : Int) {τ : List Res} {R : AOut → List Res → Prop} (hd : d' = (d.toNat : Int)) (h : R (.ret (.str (textB d))) τ) : AC Try.prog 13 [.int .u64 d'] τ R := by
  subst hd
  refine AC.none ?_
  refine AC.of_body 20 [.tmp 2] [0] Try.func13 rfl rfl rfl rfl rfl ?_
  refine AW.seq ?_
  refine AW.region ?_
  refine AR.step rfl rfl rfl (AO.calc' rfl ?_)
  refine AR.nil [0] rfl ?_
  refine AW.seq ?_
  refine AW.region ?_
  refine AR.step rfl rfl rfl (AO.alloc_own rfl zp_49 (fun b3 => ?_))
  refine AR.nil [0, 3] rfl ?_
  refine AW.seq ?_
  refine AW.seq ?_
  refine AW.region ?_
  refine AR.step rfl rfl rfl (AO.calc' rfl ?_)
  refine AR.nil [0, 3, 5] rfl ?_
  refine AW.block ?_
  refine AW.settle [0, 3, 5] rfl ?_
  refine AW.loop (α := Nat) (fun i => [(0, .int .u64 (d.toNat : Int)), (3, .val (.pointer (some ⟨b3, 0, none⟩))), (5, .int .i64 (i : Int))]) (fun i => [.box b3 (((textB d).take i ++ List.replicate (16 - i) 0).map fun c : UInt8 => PV.int .u8 (c.toNat : Int))]) (fun i => i ≤ 16) (fun i => 16 - i) 0 rfl rfl ?_ ?_
  · first | trivial | omega | simp
  · intro q hI
    revert hI; revert q; intro i hI
    refine AW.seq ?_
    refine AW.region ?_
    refine AR.step rfl rfl rfl (AO.calc' rfl ?_)
    refine AR.nil [0, 3, 5, 6] rfl ?_
    refine AW.seq ?_
    refine AW.cond rfl (fun h1 => ?_) (fun h1 => ?_)
    · try simp only [Bool.and_eq_true, Bool.or_eq_true, Bool.and_eq_false_iff, Bool.or_eq_false_iff, decide_eq_true_eq, decide_eq_false_iff_not, beq_iff_eq, bne_iff_ne, ne_eq, beq_eq_false_iff_ne, bne_eq_false_iff_eq, Bool.not_eq_true', Bool.not_eq_false', Bool.not_not, Bool.not_true, Bool.not_false, List.length_map, List.length_append, List.length_cons, List.length_nil] at h1
      refine AW.skip ?_
      refine AW.seq ?_
      refine AW.block ?_
      refine AW.seq ?_
      refine AW.region ?_
      refine AR.step rfl rfl rfl (AO.calc' rfl ?_)
      refine AR.step rfl rfl rfl (AO.calc' rfl ?_)
      refine AR.nil [0, 3, 4, 5] rfl ?_
      refine AW.region ?_
      refine AR.step rfl rfl rfl (AO.calc' rfl ?_)
      refine AR.step rfl rfl rfl (AO.calc' rfl ?_)
      refine AR.step rfl rfl rfl (AO.calc' rfl ?_)
      first
        | refine AR.step rfl rfl rfl (AO.mul_nw rfl rfl rfl (wrap_i64 (by first | omega | (simp only [List.length_map, List.length_append, List.length_cons, List.length_nil] at *; omega)) (by first | omega | (simp only [List.length_map, List.length_append, List.length_cons, List.length_nil] at *; omega))) ?_)
        | refine AR.step rfl rfl rfl (AO.calc' rfl ?_)
      first
        | refine AR.step rfl rfl rfl (AO.sub_nw rfl rfl rfl (wrap_i64 (by first | omega | (simp only [List.length_map, List.length_append, List.length_cons, List.length_nil] at *; omega)) (by first | omega | (simp only [List.length_map, List.length_append, List.length_cons, List.length_nil] at *; omega))) ?_)
        | refine AR.step rfl rfl rfl (AO.calc' rfl ?_)
      refine AR.step rfl rfl rfl (AO.shr rfl rfl rfl (by first | omega | (simp only [List.length_map, List.length_append, List.length_cons, List.length_nil] at *; omega)) ?_)
      refine AR.step rfl rfl rfl (AO.calcE rfl (and15 _ (d >>> (60 - 4 * i)) (shr_min d _ _ (by rw [bits64]; omega))) ?_)
      first
        | refine AR.step rfl rfl rfl (AO.index_strN rfl un_9 rfl rfl (by first | omega | (simp only [List.length_map, List.length_append, List.length_cons, List.length_nil] at *; omega)) ?_)
        | refine AR.step rfl rfl rfl (AO.index_strD rfl un_9 rfl rfl (by first | omega | (simp only [List.length_map, List.length_append, List.length_cons, List.length_nil] at *; omega)) (by first | omega | (simp only [List.length_map, List.length_append, List.length_cons, List.length_nil] at *; omega)) ?_)
      first
        | refine AR.step rfl rfl rfl (AO.indexAddr_own rfl ai_49 rfl rfl (by first | omega | (simp only [List.length_map, List.length_append, List.length_cons, List.length_nil] at *; omega)) (by first | omega | (simp only [List.length_map, List.length_append, List.length_cons, List.length_nil] at *; omega)) ?_)
        | refine AR.step rfl rfl rfl (AO.indexAddr_ref rfl ai_49 rfl rfl (by first | omega | (simp only [List.length_map, List.length_append, List.length_cons, List.length_nil] at *; omega)) (by first | omega | (simp only [List.length_map, List.length_append, List.length_cons, List.length_nil] at *; omega)) (by simp; omega) ?_)
      refine AR.step_none rfl rfl (AO.store_boxAt (i := 0) rfl rfl rfl ti_5 rfl rfl rfl (by simp [textB_len]; omega) ?_)
      refine AR.nil [0, 3, 5] rfl ?_
      refine AW.region ?_
      first
        | refine AR.step rfl rfl rfl (AO.add_nw rfl rfl rfl (wrap_i64 (by first | omega | (simp only [List.length_map, List.length_append, List.length_cons, List.length_nil] at *; omega)) (by first | omega | (simp only [List.length_map, List.length_append, List.length_cons, List.length_nil] at *; omega))) ?_)
        | refine AR.step rfl rfl rfl (AO.calc' rfl ?_)
      refine AR.step rfl rfl rfl (AO.calc' rfl ?_)
      refine AR.nil [0, 3, 5] rfl ?_
      refine ⟨i + 1, ?_, (congrArg (fun l => [Res.box b3 l]) (fill_set (textB d) 0 _ (fun c : UInt8 => PV.int .u8 (c.toNat : Int)) 16 i (textB_len d) (textB_get d i (by omega)) _ (by omega))), rfl, ?_, ?_⟩
      · first | rfl | (simp; done) | (simp; omega)
      · first | trivial | omega | simp
      · first | omega | (simp; omega)
    · try simp only [Bool.and_eq_true, Bool.or_eq_true, Bool.and_eq_false_iff, Bool.or_eq_false_iff, decide_eq_true_eq, decide_eq_false_iff_not, beq_iff_eq, bne_iff_ne, ne_eq, beq_eq_false_iff_ne, bne_eq_false_iff_eq, Bool.not_eq_true', Bool.not_eq_false', Bool.not_not, Bool.not_true, Bool.not_false, List.length_map, List.length_append, List.length_cons, List.length_nil] at h1
      refine AW.exit ?_
      refine AW.seq ?_
      refine AW.region ?_
      refine AR.step rfl rfl rfl (AO.slice_arr rfl ai_49 rfl ?_)
      refine AR.step rfl rfl rfl (AO.bytes_str_box (i := 0) rfl un_35 un_5 un_9 rfl rfl (by rw [fill_end (textB d) 0 16 i (textB_len d) (by omega)]; exact List.take_of_length_le (by simp [textB_len])) (textB_len d) ?_)
      refine AR.step rfl rfl rfl (AO.calc' rfl ?_)
      refine AR.nil [2] rfl ?_
      refine AW.ret ?_
      refine ⟨rfl, _, ⟨_, _, rfl, rfl, rfl⟩, [], List.nil_sublist _, ?_⟩
      refine ret_eq h ?_
      rfl

theorem c_lives  {τ : List Res} {R : AOut → List Res → Prop}  (h : R (.ret (.bool true)) τ) : AC Try.prog 12 [] τ R := by
  refine AC.none ?_
  refine AC.of_body 28 [.tmp 0] [] Try.func12 rfl rfl rfl rfl rfl ?_
  refine AW.seq ?_
  refine AW.region ?_
  refine AR.step rfl rfl rfl (AO.calc' rfl ?_)
  refine AR.nil [] rfl ?_
  refine AW.seq ?_
  refine AW.region ?_
  refine AR.step rfl rfl rfl (AO.call rfl _ rfl rfl pf_14 (c_Parse [48, 48, 48, 48, 48, 48, 48, 48, 48, 48, 48, 48, 48, 48, 102, 102] (by decide) ?_))
  refine AR.step rfl rfl rfl (AO.calc' rfl ?_)
  refine AR.step rfl rfl rfl (AO.calc' rfl ?_)
  refine AR.step rfl rfl rfl (AO.calc' rfl ?_)
  refine AR.step rfl rfl rfl (AO.calc' rfl ?_)
  refine AR.step rfl rfl rfl (AO.calc' rfl ?_)
  refine AR.nil [1, 2] rfl ?_
  refine AW.seq ?_
  refine AW.region ?_
  refine AR.step rfl rfl rfl (AO.buildSlice_own rfl sf_35 rfl rfl rfl rfl (fun v7 => ?_))
  refine AR.step rfl rfl rfl (AO.bytes_same (i := 0) rfl un_35 un_5 rfl rfl (by simp) ?_)
  refine AR.step rfl rfl rfl (AO.call rfl _ rfl rfl pf_17 (c_Check [49, 50, 51, 52, 53, 54, 55, 56, 57] _ (by decide) rfl ?_))
  refine AR.step rfl rfl rfl (AO.calc' rfl ?_)
  refine AR.step rfl rfl rfl (AO.calc' rfl ?_)
  apply AR.and 3 11 14 [1, 2]
  · rfl
  · rfl
  · intro g1
    have g1n := g1
    try simp only [Bool.and_eq_true, Bool.or_eq_true, Bool.and_eq_false_iff, Bool.or_eq_false_iff, decide_eq_true_eq, decide_eq_false_iff_not, beq_iff_eq, bne_iff_ne, ne_eq, beq_eq_false_iff_ne, bne_eq_false_iff_eq, Bool.not_eq_true', Bool.not_eq_false', Bool.not_not, Bool.not_true, Bool.not_false, List.length_map, List.length_append, List.length_cons, List.length_nil] at g1n
    refine AR.run rfl rfl rfl rfl rfl rfl g1 ?_
    refine AR.step rfl rfl rfl (AO.call rfl _ rfl rfl pf_13 (c_Text 255#64 _ rfl ?_))
    refine AR.run rfl rfl rfl rfl rfl rfl g1 ?_
    refine AR.step rfl rfl rfl (AO.calc' rfl ?_)
    refine AR.step rfl rfl rfl (AO.pick_T rfl rfl g1 rfl ?_)
    refine AR.nil [14, 1, 2] rfl ?_
    exact ⟨rfl, rfl, rfl, rfl⟩
  · intro g1
    have g1n := g1
    try simp only [Bool.and_eq_true, Bool.or_eq_true, Bool.and_eq_false_iff, Bool.or_eq_false_iff, decide_eq_true_eq, decide_eq_false_iff_not, beq_iff_eq, bne_iff_ne, ne_eq, beq_eq_false_iff_ne, bne_eq_false_iff_eq, Bool.not_eq_true', Bool.not_eq_false', Bool.not_not, Bool.not_true, Bool.not_false, List.length_map, List.length_append, List.length_cons, List.length_nil] at g1n
    refine AR.skip rfl rfl rfl rfl rfl rfl g1 ?_
    refine AR.skip rfl rfl rfl rfl rfl rfl g1 ?_
    refine AR.step rfl rfl rfl (AO.pick_F rfl rfl g1 rfl ?_)
    refine AR.nil [14, 1, 2] rfl ?_
    exact ⟨rfl, rfl, rfl, rfl⟩
  refine AR.step rfl rfl rfl (AO.calc' rfl ?_)
  apply AR.and 3 15 18 [2]
  · rfl
  · rfl
  · intro g2
    have g2n := g2
    try simp only [Bool.and_eq_true, Bool.or_eq_true, Bool.and_eq_false_iff, Bool.or_eq_false_iff, decide_eq_true_eq, decide_eq_false_iff_not, beq_iff_eq, bne_iff_ne, ne_eq, beq_eq_false_iff_ne, bne_eq_false_iff_eq, Bool.not_eq_true', Bool.not_eq_false', Bool.not_not, Bool.not_true, Bool.not_false, List.length_map, List.length_append, List.length_cons, List.length_nil] at g2n
    refine AR.run rfl rfl rfl rfl rfl rfl g2 ?_
    refine AR.step rfl rfl rfl (AO.calc' rfl ?_)
    refine AR.run rfl rfl rfl rfl rfl rfl g2 ?_
    refine AR.step rfl rfl rfl (AO.calc' rfl ?_)
    refine AR.step rfl rfl rfl (AO.pick_T rfl rfl g2 rfl ?_)
    refine AR.nil [18, 2] rfl ?_
    exact ⟨rfl, rfl, rfl, rfl⟩
  · intro g2
    have g2n := g2
    try simp only [Bool.and_eq_true, Bool.or_eq_true, Bool.and_eq_false_iff, Bool.or_eq_false_iff, decide_eq_true_eq, decide_eq_false_iff_not, beq_iff_eq, bne_iff_ne, ne_eq, beq_eq_false_iff_ne, bne_eq_false_iff_eq, Bool.not_eq_true', Bool.not_eq_false', Bool.not_not, Bool.not_true, Bool.not_false, List.length_map, List.length_append, List.length_cons, List.length_nil] at g2n
    refine AR.skip rfl rfl rfl rfl rfl rfl g2 ?_
    refine AR.skip rfl rfl rfl rfl rfl rfl g2 ?_
    refine AR.step rfl rfl rfl (AO.pick_F rfl rfl g2 rfl ?_)
    refine AR.nil [18, 2] rfl ?_
    exact ⟨rfl, rfl, rfl, rfl⟩
  refine AR.step rfl rfl rfl (AO.calc' rfl ?_)
  apply AR.and 3 19 22 []
  · rfl
  · rfl
  · intro g3
    have g3n := g3
    try simp only [Bool.and_eq_true, Bool.or_eq_true, Bool.and_eq_false_iff, Bool.or_eq_false_iff, decide_eq_true_eq, decide_eq_false_iff_not, beq_iff_eq, bne_iff_ne, ne_eq, beq_eq_false_iff_ne, bne_eq_false_iff_eq, Bool.not_eq_true', Bool.not_eq_false', Bool.not_not, Bool.not_true, Bool.not_false, List.length_map, List.length_append, List.length_cons, List.length_nil] at g3n
    refine AR.run rfl rfl rfl rfl rfl rfl g3 ?_
    refine AR.step rfl rfl rfl (AO.calc' rfl ?_)
    refine AR.run rfl rfl rfl rfl rfl rfl g3 ?_
    refine AR.step rfl rfl rfl (AO.calc' rfl ?_)
    refine AR.step rfl rfl rfl (AO.pick_T rfl rfl g3 rfl ?_)
    refine AR.nil [22] rfl ?_
    exact ⟨rfl, rfl, rfl, rfl⟩
  · intro g3
    have g3n := g3
    try simp only [Bool.and_eq_true, Bool.or_eq_true, Bool.and_eq_false_iff, Bool.or_eq_false_iff, decide_eq_true_eq, decide_eq_false_iff_not, beq_iff_eq, bne_iff_ne, ne_eq, beq_eq_false_iff_ne, bne_eq_false_iff_eq, Bool.not_eq_true', Bool.not_eq_false', Bool.not_not, Bool.not_true, Bool.not_false, List.length_map, List.length_append, List.length_cons, List.length_nil] at g3n
    refine AR.skip rfl rfl rfl rfl rfl rfl g3 ?_
    refine AR.skip rfl rfl rfl rfl rfl rfl g3 ?_
    refine AR.step rfl rfl rfl (AO.pick_F rfl rfl g3 rfl ?_)
    refine AR.nil [22] rfl ?_
    exact ⟨rfl, rfl, rfl, rfl⟩
  refine AR.step rfl rfl rfl (AO.calc' rfl ?_)
  apply AR.and 4 23 27 []
  · rfl
  · rfl
  · intro g4
    have g4n := g4
    try simp only [Bool.and_eq_true, Bool.or_eq_true, Bool.and_eq_false_iff, Bool.or_eq_false_iff, decide_eq_true_eq, decide_eq_false_iff_not, beq_iff_eq, bne_iff_ne, ne_eq, beq_eq_false_iff_ne, bne_eq_false_iff_eq, Bool.not_eq_true', Bool.not_eq_false', Bool.not_not, Bool.not_true, Bool.not_false, List.length_map, List.length_append, List.length_cons, List.length_nil] at g4n
    refine AR.run rfl rfl rfl rfl rfl rfl g4 ?_
    refine AR.step rfl rfl rfl (AO.call rfl _ rfl rfl pf_10 (c_Mix 0#64 0#64 _ _ rfl rfl ?_))
    refine AR.run rfl rfl rfl rfl rfl rfl g4 ?_
    refine AR.step rfl rfl rfl (AO.call rfl _ rfl rfl pf_10 (c_Mix 0#64 1#64 _ _ rfl rfl ?_))
    refine AR.run rfl rfl rfl rfl rfl rfl g4 ?_
    refine AR.step rfl rfl rfl (AO.calc' rfl ?_)
    refine AR.step rfl rfl rfl (AO.pick_T rfl rfl g4 rfl ?_)
    refine AR.nil [27] rfl ?_
    exact ⟨rfl, rfl, rfl, rfl⟩
  · intro g4
    have g4n := g4
    try simp only [Bool.and_eq_true, Bool.or_eq_true, Bool.and_eq_false_iff, Bool.or_eq_false_iff, decide_eq_true_eq, decide_eq_false_iff_not, beq_iff_eq, bne_iff_ne, ne_eq, beq_eq_false_iff_ne, bne_eq_false_iff_eq, Bool.not_eq_true', Bool.not_eq_false', Bool.not_not, Bool.not_true, Bool.not_false, List.length_map, List.length_append, List.length_cons, List.length_nil] at g4n
    refine AR.skip rfl rfl rfl rfl rfl rfl g4 ?_
    refine AR.skip rfl rfl rfl rfl rfl rfl g4 ?_
    refine AR.skip rfl rfl rfl rfl rfl rfl g4 ?_
    refine AR.step rfl rfl rfl (AO.pick_F rfl rfl g4 rfl ?_)
    refine AR.nil [27] rfl ?_
    exact ⟨rfl, rfl, rfl, rfl⟩
  refine AR.step rfl rfl rfl (AO.calc' rfl ?_)
  refine AR.nil [0] rfl ?_
  refine AW.ret ?_
  refine ⟨rfl, _, ⟨_, _, rfl, rfl, rfl⟩, [], List.nil_sublist _, ?_⟩
  refine ret_eq h ?_
  exact congrArg PV.bool (by kernel_rfl)

theorem c_LBursts (b : List UInt8) (n : Int) (c0 c1 c2 c3 : UInt8) (hn1 : -9223372036854775808 ≤ n) (hn2 : n ≤ 9223372036854775807) (hlen : b.length ≤ 9223372036854775807) {τ : List Res} {R : AOut → List Res → Prop}  (h : R (.ret (.bool true)) τ) : AC Try.prog 7 [.list (b.map byteC), .int .i64 n, .agg [PV.int .u8 (c0.toNat : Int), PV.int .u8 (c1.toNat : Int), PV.int .u8 (c2.toNat : Int), PV.int .u8 (c3.toNat : Int)]] τ R := by
  refine AC.none ?_
  refine AC.of_body 64 [.tmp 6] [0, 1, 2] Try.func7 rfl rfl rfl rfl rfl ?_
  refine AW.seq ?_
  refine AW.region ?_
  refine AR.step rfl rfl rfl (AO.box_ref rfl rfl rfl ?_)
  refine AR.step rfl rfl rfl (AO.calc' rfl ?_)
  refine AR.nil [0, 1, 5] rfl ?_
  refine AW.seq ?_
  refine AW.seq ?_
  refine AW.region ?_
  refine AR.step rfl rfl rfl (AO.calc' rfl ?_)
  refine AR.step rfl rfl rfl (AO.len_slice rfl rfl rfl rfl es_35 rfl ?_)
  refine AR.step rfl rfl rfl (AO.calc' rfl ?_)
  refine AR.step rfl rfl rfl (AO.calc' rfl ?_)
  apply AR.or 4 12 16 [0, 1, 5]
  · rfl
  · rfl
  · intro g1
    have g1n := g1
    try simp only [Bool.and_eq_true, Bool.or_eq_true, Bool.and_eq_false_iff, Bool.or_eq_false_iff, decide_eq_true_eq, decide_eq_false_iff_not, beq_iff_eq, bne_iff_ne, ne_eq, beq_eq_false_iff_ne, bne_eq_false_iff_eq, Bool.not_eq_true', Bool.not_eq_false', Bool.not_not, Bool.not_true, Bool.not_false, List.length_map, List.length_append, List.length_cons, List.length_nil] at g1n
    refine AR.run rfl rfl rfl rfl rfl rfl g1 ?_
    refine AR.step rfl rfl rfl (AO.calc' rfl ?_)
    refine AR.run rfl rfl rfl rfl rfl rfl g1 ?_
    refine AR.step rfl rfl rfl (AO.len_slice rfl rfl rfl rfl es_35 rfl ?_)
    refine AR.run rfl rfl rfl rfl rfl rfl g1 ?_
    refine AR.step rfl rfl rfl (AO.calc' rfl ?_)
    refine AR.step rfl rfl rfl (AO.pick_F rfl rfl g1 rfl ?_)
    refine AR.nil [16, 0, 1, 5] rfl ?_
    exact ⟨rfl, rfl, rfl, rfl⟩
  · intro g1
    have g1n := g1
    try simp only [Bool.and_eq_true, Bool.or_eq_true, Bool.and_eq_false_iff, Bool.or_eq_false_iff, decide_eq_true_eq, decide_eq_false_iff_not, beq_iff_eq, bne_iff_ne, ne_eq, beq_eq_false_iff_ne, bne_eq_false_iff_eq, Bool.not_eq_true', Bool.not_eq_false', Bool.not_not, Bool.not_true, Bool.not_false, List.length_map, List.length_append, List.length_cons, List.length_nil] at g1n
    refine AR.skip rfl rfl rfl rfl rfl rfl g1 ?_
    refine AR.skip rfl rfl rfl rfl rfl rfl g1 ?_
    refine AR.skip rfl rfl rfl rfl rfl rfl g1 ?_
    refine AR.step rfl rfl rfl (AO.pick_T rfl rfl g1 rfl ?_)
    refine AR.nil [16, 0, 1, 5] rfl ?_
    exact ⟨rfl, rfl, rfl, rfl⟩
  refine AR.step rfl rfl rfl (AO.calc' rfl ?_)
  apply AR.or 3 17 20 [0, 1, 5]
  · rfl
  · rfl
  · intro g2
    have g2n := g2
    try simp only [Bool.and_eq_true, Bool.or_eq_true, Bool.and_eq_false_iff, Bool.or_eq_false_iff, decide_eq_true_eq, decide_eq_false_iff_not, beq_iff_eq, bne_iff_ne, ne_eq, beq_eq_false_iff_ne, bne_eq_false_iff_eq, Bool.not_eq_true', Bool.not_eq_false', Bool.not_not, Bool.not_true, Bool.not_false, List.length_map, List.length_append, List.length_cons, List.length_nil] at g2n
    refine AR.run rfl rfl rfl rfl rfl rfl g2 ?_
    refine AR.step rfl rfl rfl (AO.calc' rfl ?_)
    refine AR.run rfl rfl rfl rfl rfl rfl g2 ?_
    refine AR.step rfl rfl rfl (AO.calc' rfl ?_)
    refine AR.step rfl rfl rfl (AO.pick_F rfl rfl g2 rfl ?_)
    refine AR.nil [20, 0, 1, 5] rfl ?_
    exact ⟨rfl, rfl, rfl, rfl⟩
  · intro g2
    have g2n := g2
    try simp only [Bool.and_eq_true, Bool.or_eq_true, Bool.and_eq_false_iff, Bool.or_eq_false_iff, decide_eq_true_eq, decide_eq_false_iff_not, beq_iff_eq, bne_iff_ne, ne_eq, beq_eq_false_iff_ne, bne_eq_false_iff_eq, Bool.not_eq_true', Bool.not_eq_false', Bool.not_not, Bool.not_true, Bool.not_false, List.length_map, List.length_append, List.length_cons, List.length_nil] at g2n
    refine AR.skip rfl rfl rfl rfl rfl rfl g2 ?_
    refine AR.skip rfl rfl rfl rfl rfl rfl g2 ?_
    refine AR.step rfl rfl rfl (AO.pick_T rfl rfl g2 rfl ?_)
    refine AR.nil [20, 0, 1, 5] rfl ?_
    exact ⟨rfl, rfl, rfl, rfl⟩
  refine AR.step rfl rfl rfl (AO.calc' rfl ?_)
  apply AR.or 6 21 27 [0, 1, 5]
  · rfl
  · rfl
  · intro g3
    have g3n := g3
    try simp only [Bool.and_eq_true, Bool.or_eq_true, Bool.and_eq_false_iff, Bool.or_eq_false_iff, decide_eq_true_eq, decide_eq_false_iff_not, beq_iff_eq, bne_iff_ne, ne_eq, beq_eq_false_iff_ne, bne_eq_false_iff_eq, Bool.not_eq_true', Bool.not_eq_false', Bool.not_not, Bool.not_true, Bool.not_false, List.length_map, List.length_append, List.length_cons, List.length_nil] at g3n
    refine AR.run rfl rfl rfl rfl rfl rfl g3 ?_
    refine AR.step rfl rfl rfl (AO.calc' rfl ?_)
    refine AR.run rfl rfl rfl rfl rfl rfl g3 ?_
    refine AR.step rfl rfl rfl (AO.calc' rfl ?_)
    refine AR.run rfl rfl rfl rfl rfl rfl g3 ?_
    refine AR.step rfl rfl rfl (AO.len_slice rfl rfl rfl rfl es_35 rfl ?_)
    refine AR.run rfl rfl rfl rfl rfl rfl g3 ?_
    first
      | refine AR.step rfl rfl rfl (AO.sub_nw rfl rfl rfl (wrap_i64 (by first | omega | (simp only [List.length_map, List.length_append, List.length_cons, List.length_nil] at *; omega)) (by first | omega | (simp only [List.length_map, List.length_append, List.length_cons, List.length_nil] at *; omega))) ?_)
      | refine AR.step rfl rfl rfl (AO.calc' rfl ?_)
    refine AR.run rfl rfl rfl rfl rfl rfl g3 ?_
    refine AR.step rfl rfl rfl (AO.calc' rfl ?_)
    refine AR.step rfl rfl rfl (AO.pick_F rfl rfl g3 rfl ?_)
    refine AR.nil [27, 0, 1, 5] rfl ?_
    exact ⟨rfl, rfl, rfl, rfl⟩
  · intro g3
    have g3n := g3
    try simp only [Bool.and_eq_true, Bool.or_eq_true, Bool.and_eq_false_iff, Bool.or_eq_false_iff, decide_eq_true_eq, decide_eq_false_iff_not, beq_iff_eq, bne_iff_ne, ne_eq, beq_eq_false_iff_ne, bne_eq_false_iff_eq, Bool.not_eq_true', Bool.not_eq_false', Bool.not_not, Bool.not_true, Bool.not_false, List.length_map, List.length_append, List.length_cons, List.length_nil] at g3n
    refine AR.skip rfl rfl rfl rfl rfl rfl g3 ?_
    refine AR.skip rfl rfl rfl rfl rfl rfl g3 ?_
    refine AR.skip rfl rfl rfl rfl rfl rfl g3 ?_
    refine AR.skip rfl rfl rfl rfl rfl rfl g3 ?_
    refine AR.skip rfl rfl rfl rfl rfl rfl g3 ?_
    refine AR.step rfl rfl rfl (AO.pick_T rfl rfl g3 rfl ?_)
    refine AR.nil [27, 0, 1, 5] rfl ?_
    exact ⟨rfl, rfl, rfl, rfl⟩
  refine AR.step rfl rfl rfl (AO.calc' rfl ?_)
  apply AR.or 4 28 32 [0, 1, 5]
  · rfl
  · rfl
  · intro g4
    have g4n := g4
    try simp only [Bool.and_eq_true, Bool.or_eq_true, Bool.and_eq_false_iff, Bool.or_eq_false_iff, decide_eq_true_eq, decide_eq_false_iff_not, beq_iff_eq, bne_iff_ne, ne_eq, beq_eq_false_iff_ne, bne_eq_false_iff_eq, Bool.not_eq_true', Bool.not_eq_false', Bool.not_not, Bool.not_true, Bool.not_false, List.length_map, List.length_append, List.length_cons, List.length_nil] at g4n
    refine AR.run rfl rfl rfl rfl rfl rfl g4 ?_
    refine AR.step rfl rfl rfl (AO.load_ref rfl rfl ti_38 rfl ?_)
    refine AR.run rfl rfl rfl rfl rfl rfl g4 ?_
    refine AR.step rfl rfl rfl (AO.build_arr rfl zp_38 ai_38 rfl ?_)
    refine AR.run rfl rfl rfl rfl rfl rfl g4 ?_
    refine AR.step rfl rfl rfl (AO.eq_ints [(c0.toNat : Int), c1.toNat, c2.toNat, c3.toNat] [0, 0, 0, 0] rfl un_38 un_5 ce_5 ce_38 eg_38 rfl rfl rfl rfl rfl rfl (byte_wf [c0, c1, c2, c3]) (by decide) ?_)
    refine AR.step rfl rfl rfl (AO.pick_F rfl rfl g4 rfl ?_)
    refine AR.nil [32, 0, 1, 5] rfl ?_
    exact ⟨rfl, rfl, rfl, rfl⟩
  · intro g4
    have g4n := g4
    try simp only [Bool.and_eq_true, Bool.or_eq_true, Bool.and_eq_false_iff, Bool.or_eq_false_iff, decide_eq_true_eq, decide_eq_false_iff_not, beq_iff_eq, bne_iff_ne, ne_eq, beq_eq_false_iff_ne, bne_eq_false_iff_eq, Bool.not_eq_true', Bool.not_eq_false', Bool.not_not, Bool.not_true, Bool.not_false, List.length_map, List.length_append, List.length_cons, List.length_nil] at g4n
    refine AR.skip rfl rfl rfl rfl rfl rfl g4 ?_
    refine AR.skip rfl rfl rfl rfl rfl rfl g4 ?_
    refine AR.skip rfl rfl rfl rfl rfl rfl g4 ?_
    refine AR.step rfl rfl rfl (AO.pick_T rfl rfl g4 rfl ?_)
    refine AR.nil [32, 0, 1, 5] rfl ?_
    exact ⟨rfl, rfl, rfl, rfl⟩
  refine AR.nil [0, 1, 5, 32] rfl ?_
  refine AW.cond rfl (fun hc => ?_) (fun hc => ?_)
  · try simp only [Bool.and_eq_true, Bool.or_eq_true, Bool.and_eq_false_iff, Bool.or_eq_false_iff, decide_eq_true_eq, decide_eq_false_iff_not, beq_iff_eq, bne_iff_ne, ne_eq, beq_eq_false_iff_ne, bne_eq_false_iff_eq, Bool.not_eq_true', Bool.not_eq_false', Bool.not_not, Bool.not_true, Bool.not_false, List.length_map, List.length_append, List.length_cons, List.length_nil] at hc
    refine AW.seq ?_
    refine AW.region ?_
    refine AR.step rfl rfl rfl (AO.call rfl _ rfl rfl pf_12 (c_lives ?_))
    refine AR.step rfl rfl rfl (AO.calc' rfl ?_)
    refine AR.nil [6] rfl ?_
    refine AW.ret ?_
    refine ⟨rfl, _, ⟨_, _, rfl, rfl, rfl⟩, [], List.nil_sublist _, ?_⟩
    refine ret_eq h ?_
    first | rfl | exact congrArg PV.bool (law_burst (burst_at b at' [c0, c1, c2, c3] rfl (by omega) (bytes_ne hc.2))).symm
  · try simp only [Bool.and_eq_true, Bool.or_eq_true, Bool.and_eq_false_iff, Bool.or_eq_false_iff, decide_eq_true_eq, decide_eq_false_iff_not, beq_iff_eq, bne_iff_ne, ne_eq, beq_eq_false_iff_ne, bne_eq_false_iff_eq, Bool.not_eq_true', Bool.not_eq_false', Bool.not_not, Bool.not_true, Bool.not_false, List.length_map, List.length_append, List.length_cons, List.length_nil] at hc
    refine AW.skip ?_
    refine AW.seq ?_
    refine AW.region ?_
    refine AR.step rfl rfl rfl (AO.buildSlice_own rfl sf_35 rfl rfl rfl rfl (fun v34 => ?_))
    refine AR.step rfl rfl rfl (AO.calc' rfl ?_)
    refine AR.step rfl rfl rfl (AO.append_buf (i := 0) rfl rfl rfl rfl rfl rfl rfl sf_35 es_35 (byteC_len _) (byteC_one _) (by unfold maxLen; simp; omega) (by simp; omega) (fun v36 σ36 hσ36 => ?_))
    cases hσ36
    refine AR.step rfl rfl rfl (AO.calc' rfl ?_)
    refine AR.nil [0, 1, 5, 7] rfl ?_
    refine AW.seq ?_
    refine AW.seq ?_
    refine AW.region ?_
    refine AR.step rfl rfl rfl (AO.calc' rfl ?_)
    refine AR.nil [0, 1, 5, 7, 8] rfl ?_
    refine AW.block ?_
    obtain ⟨at', rfl⟩ : ∃ a : Nat, n = (a : Int) := ⟨n.toNat, by omega⟩
    refine AW.settle [0, 1, 5, 7, 8] rfl ?_
    refine AW.loop (α := Nat) (fun k => [(0, .list (b.map byteC)), (1, .int .i64 (at' : Int)), (5, .ref [PV.int .u8 (c0.toNat : Int), PV.int .u8 (c1.toNat : Int), PV.int .u8 (c2.toNat : Int), PV.int .u8 (c3.toNat : Int)]), (7, .val v36), (8, .int .i64 (k : Int))]) (fun k => [.buf v36 b.length 1 5 ((setB b at' [c0, c1, c2, c3] k).map fun c : UInt8 => PV.int .u8 (c.toNat : Int))]) (fun k => k ≤ 4) (fun k => 4 - k) 0 rfl (by rw [byteC_flat, List.length_map]; rfl) ?_ ?_
    · first | trivial | omega | simp
    · intro q hI
      revert hI; revert q; intro k hI
      refine AW.seq ?_
      refine AW.seq ?_
      refine AW.region ?_
      refine AR.step rfl rfl rfl (AO.calc' rfl ?_)
      refine AR.step rfl rfl rfl (AO.calc' rfl ?_)
      refine AR.nil [0, 1, 5, 7, 8, 38] rfl ?_
      refine AW.cond rfl (fun h6 => ?_) (fun h6 => ?_)
      · try simp only [Bool.and_eq_true, Bool.or_eq_true, Bool.and_eq_false_iff, Bool.or_eq_false_iff, decide_eq_true_eq, decide_eq_false_iff_not, beq_iff_eq, bne_iff_ne, ne_eq, beq_eq_false_iff_ne, bne_eq_false_iff_eq, Bool.not_eq_true', Bool.not_eq_false', Bool.not_not, Bool.not_true, Bool.not_false, List.length_map, List.length_append, List.length_cons, List.length_nil] at h6
        refine AW.skip ?_
        refine AW.seq ?_
        refine AW.block ?_
        refine AW.draw 15 mixed (by kernel_rfl) rfl ?_
        refine Ev.cons rfl rfl rfl (AO.calc' rfl ⟨rfl, rfl⟩) ?_
        refine Ev.cons rfl rfl rfl (AO.calc' rfl ⟨rfl, rfl⟩) ?_
        refine Ev.cons rfl rfl rfl (AO.calc' rfl ⟨rfl, rfl⟩) ?_
        first
          | refine Ev.cons rfl rfl rfl (AO.add_nw rfl rfl rfl (wrap_i64 (by first | omega | (simp only [List.length_map, List.length_append, List.length_cons, List.length_nil] at *; omega)) (by first | omega | (simp only [List.length_map, List.length_append, List.length_cons, List.length_nil] at *; omega))) ⟨rfl, rfl⟩) ?_
          | refine Ev.cons rfl rfl rfl (AO.calc' rfl ⟨rfl, rfl⟩) ?_
        refine Ev.cons rfl rfl rfl (AO.calc' rfl ⟨rfl, rfl⟩) ?_
        refine Ev.cons rfl rfl rfl (AO.calc' rfl ⟨rfl, rfl⟩) ?_
        refine Ev.cons rfl rfl rfl (AO.calc' rfl ⟨rfl, rfl⟩) ?_
        first
          | refine Ev.cons rfl rfl rfl (AO.add_nw rfl rfl rfl (wrap_i64 (by first | omega | (simp only [List.length_map, List.length_append, List.length_cons, List.length_nil] at *; omega)) (by first | omega | (simp only [List.length_map, List.length_append, List.length_cons, List.length_nil] at *; omega))) ⟨rfl, rfl⟩) ?_
          | refine Ev.cons rfl rfl rfl (AO.calc' rfl ⟨rfl, rfl⟩) ?_
        refine Ev.cons rfl rfl rfl (AO.indexAddr_buf (i := 0) rfl rfl rfl rfl es_35 (by omega) (by omega) ⟨rfl, rfl⟩) ?_
        refine Ev.cons rfl rfl rfl (AO.load_buf (i := 0) rfl rfl rfl ti_5 (getBuf _ (at' + k) _ (by omega) (by rw [setB_len]; omega)) ⟨rfl, rfl⟩) ?_
        refine Ev.cons rfl rfl rfl (AO.calc' rfl ⟨rfl, rfl⟩) ?_
        first
          | refine Ev.cons rfl rfl rfl (AO.indexAddr_own rfl ai_38 rfl rfl (by first | omega | (simp only [List.length_map, List.length_append, List.length_cons, List.length_nil] at *; omega)) (by first | omega | (simp only [List.length_map, List.length_append, List.length_cons, List.length_nil] at *; omega)) ⟨rfl, rfl⟩) ?_
          | refine Ev.cons rfl rfl rfl (AO.indexAddr_ref rfl ai_38 rfl rfl (by first | omega | (simp only [List.length_map, List.length_append, List.length_cons, List.length_nil] at *; omega)) (by first | omega | (simp only [List.length_map, List.length_append, List.length_cons, List.length_nil] at *; omega)) (by simp; omega) ⟨rfl, rfl⟩) ?_
        refine Ev.cons rfl rfl rfl (AO.load_ref rfl rfl ti_5 (get4 c0 c1 c2 c3 k (by omega)) ⟨rfl, rfl⟩) ?_
        refine Ev.cons rfl rfl rfl (AO.calc' rfl ⟨rfl, rfl⟩) ?_
        refine Ev.cons rfl rfl rfl (AO.indexAddr_buf (i := 0) rfl rfl rfl rfl es_35 (by omega) (by omega) ⟨rfl, rfl⟩) ?_
        refine Ev.nil ?_
        show AR _ _ _ _ _ _ _ _
        refine AR.step_none rfl rfl (AO.store_buf (i := 0) rfl rfl rfl ti_5 rfl rfl rfl (by rw [List.length_map, setB_len]; omega) ?_)
        refine AR.nil [0, 1, 5, 7, 8] rfl ?_
        refine AW.region ?_
        refine AR.step rfl rfl rfl (AO.calc' rfl ?_)
        first
          | refine AR.step rfl rfl rfl (AO.add_nw rfl rfl rfl (wrap_i64 (by first | omega | (simp only [List.length_map, List.length_append, List.length_cons, List.length_nil] at *; omega)) (by first | omega | (simp only [List.length_map, List.length_append, List.length_cons, List.length_nil] at *; omega))) ?_)
          | refine AR.step rfl rfl rfl (AO.calc' rfl ?_)
        refine AR.step rfl rfl rfl (AO.calc' rfl ?_)
        refine AR.nil [0, 1, 5, 7, 8] rfl ?_
        refine ⟨k + 1, ?_, (by rw [set_buf _ (at' + k) _ (by omega)]; rfl), rfl, ?_, ?_⟩
        · first | rfl | (simp; done) | (simp; omega)
        · first | trivial | omega | simp
        · first | omega | (simp; omega)
      · try simp only [Bool.and_eq_true, Bool.or_eq_true, Bool.and_eq_false_iff, Bool.or_eq_false_iff, decide_eq_true_eq, decide_eq_false_iff_not, beq_iff_eq, bne_iff_ne, ne_eq, beq_eq_false_iff_ne, bne_eq_false_iff_eq, Bool.not_eq_true', Bool.not_eq_false', Bool.not_not, Bool.not_true, Bool.not_false, List.length_map, List.length_append, List.length_cons, List.length_nil] at h6
        refine AW.exit ?_
        refine AW.seq ?_
        obtain rfl : k = 4 := by omega
        refine AW.freeze 7 0 ((setB b at' [c0, c1, c2, c3] 4).map byteC) rfl rfl (byteC_flat _) (byteC_len _) (by rw [List.length_map, setB_len]) ?_
        refine AW.region ?_
        refine AR.step rfl rfl rfl (AO.calc' rfl ?_)
        refine AR.step rfl rfl rfl (AO.call rfl _ rfl rfl pf_17 (c_Check (setB b at' [c0, c1, c2, c3] 4) _ (by rw [setB_len]; omega) rfl ?_))
        refine AR.step rfl rfl rfl (AO.calc' rfl ?_)
        refine AR.step rfl rfl rfl (AO.call rfl _ rfl rfl pf_17 (c_Check b _ (by omega) rfl ?_))
        refine AR.step rfl rfl rfl (AO.calc' rfl ?_)
        refine AR.step rfl rfl rfl (AO.calc' rfl ?_)
        apply AR.and 2 61 63 []
        · rfl
        · rfl
        · intro g7
          have g7n := g7
          try simp only [Bool.and_eq_true, Bool.or_eq_true, Bool.and_eq_false_iff, Bool.or_eq_false_iff, decide_eq_true_eq, decide_eq_false_iff_not, beq_iff_eq, bne_iff_ne, ne_eq, beq_eq_false_iff_ne, bne_eq_false_iff_eq, Bool.not_eq_true', Bool.not_eq_false', Bool.not_not, Bool.not_true, Bool.not_false, List.length_map, List.length_append, List.length_cons, List.length_nil] at g7n
          refine AR.run rfl rfl rfl rfl rfl rfl g7 ?_
          refine AR.step rfl rfl rfl (AO.call rfl _ rfl rfl pf_12 (c_lives ?_))
          refine AR.step rfl rfl rfl (AO.pick_T rfl rfl g7 rfl ?_)
          refine AR.nil [63] rfl ?_
          exact ⟨rfl, rfl, rfl, rfl⟩
        · intro g7
          have g7n := g7
          try simp only [Bool.and_eq_true, Bool.or_eq_true, Bool.and_eq_false_iff, Bool.or_eq_false_iff, decide_eq_true_eq, decide_eq_false_iff_not, beq_iff_eq, bne_iff_ne, ne_eq, beq_eq_false_iff_ne, bne_eq_false_iff_eq, Bool.not_eq_true', Bool.not_eq_false', Bool.not_not, Bool.not_true, Bool.not_false, List.length_map, List.length_append, List.length_cons, List.length_nil] at g7n
          refine AR.skip rfl rfl rfl rfl rfl rfl g7 ?_
          refine AR.step rfl rfl rfl (AO.pick_F rfl rfl g7 rfl ?_)
          refine AR.nil [63] rfl ?_
          exact ⟨rfl, rfl, rfl, rfl⟩
        refine AR.step rfl rfl rfl (AO.calc' rfl ?_)
        refine AR.nil [6] rfl ?_
        refine AW.ret ?_
        refine ⟨rfl, _, ⟨_, _, rfl, rfl, rfl⟩, [], List.nil_sublist _, ?_⟩
        refine ret_eq h ?_
        first | rfl | exact congrArg PV.bool (law_burst (burst_at b at' [c0, c1, c2, c3] rfl (by omega) (bytes_ne hc.2))).symm
namespace digestBursts
open Go.ChangeShapes Go.WideShapes Go.ChangeAt Go.RowKit

theorem own : ownKnob Try.prog.godebug = none := by kernel_rfl
theorem laidOut : laidOutB Try.prog = true := by kernel_rfl

/-- the walk, over any arguments of the parameters' types -/
theorem walk : ∀ qs, TyAll Try.prog [35, 3, 38] qs → AC Try.prog 7 qs [] fun out _ => out = .ret (.bool true) := by
  intro qs h
  obtain ⟨q0, _, rfl, t0, ⟨q1, _, rfl, t1, ⟨q2, _, rfl, t2, rfl⟩⟩⟩ := h
  obtain ⟨b0, rfl, w0⟩ := t0.bytesI Try.underlying35 Try.underlying5
  unfold maxLen at w0
  obtain ⟨n1, rfl, w1⟩ := t1.intI Try.underlying3
  have z1 := wf_i64 w1
  obtain ⟨cs, rfl, e2⟩ := t2.aggI (.inr ⟨_, _, Try.underlying38⟩)
  obtain ⟨ps, rfl, l2, e2⟩ := e2.arrayI Try.underlying38
  obtain ⟨bs, rfl⟩ := list_of_each (f := byteC) (l := ps) fun x hx => by
    obtain ⟨n, rfl, hw⟩ := (e2 x hx).intI Try.underlying5
    obtain ⟨c, rfl⟩ := wf_u8 hw
    exact ⟨c, rfl⟩
  rw [List.length_map] at l2
  obtain ⟨c0, c1, c2, c3, rfl⟩ : ∃ c0 c1 c2 c3, bs = [c0, c1, c2, c3] := by
    match bs, l2 with
    | [c0, c1, c2, c3], _ => exact ⟨c0, c1, c2, c3, rfl⟩
  exact c_LBursts b0 n1 c0 c1 c2 c3 z1.1 z1.2 (by omega) rfl

theorem lifted (os : Os) (started : os.Started) (H : Type) (enc : TypeId × Value → H) :
    ReturnsInHanded {} Try.checked os 7 .any (Rows.digestBurstsSpec.pre6 enc Try.prog Try.f7 Rows.digestBurstsRow.domain false) (Rows.digestBurstsSpec.post enc Try.prog Try.f7 false true false false) := by
  refine returnsInHanded_of_change (C := Try.checked) own started (by kernel_rfl) Try.func7
    (ChangeSpec.witness6 (enc := enc) (C := Try.checked) false ⟨#[], #[.slice none 0 0, .int .i64 0, .agg #[.int .u8 0, .int .u8 0, .int .u8 0, .int .u8 0]], []⟩ 8 (by kernel_rfl) (by kernel_rfl) (by kernel_rfl) (by kernel_rfl)) ?_
  intro W base args ds gs before hval hW _ _
  refine law_step (P := Try.prog) (S := [35, 3, 38, 5]) (tb := 4) (by kernel_rfl) (by rw [Try.params7]; decide) (by rw [Try.params7]; exact of_decide_eq_true (by kernel_rfl)) laidOut (by kernel_rfl) Try.underlying4 rfl ?_ (by rw [Try.params7]; exact walk) hval hW
  rw [Try.params7]
  intro ds hd
  match ds, hd with
  | [d0, d1, d2], _ => rfl

theorem over : Rows.digestBurstsRow.holds Try.pinned (OpenSpec.ofChange Rows.digestBurstsSpec) :=
  OpenClaim.holds_of_wide 7 Try.f7 rfl rfl rfl rfl rfl rfl rfl ⟨rfl, rfl, rfl, rfl, rfl⟩ rfl rfl rfl rfl rfl (by kernel_rfl) Try.func7 (by kernel_rfl)
    (of_decide_eq_true (by kernel_rfl)) (by unfold Func.isWrapper; first | (rw [if_pos (by decide +kernel)]; kernel_rfl) | (rw [if_neg (by decide +kernel)]; exact ⟨rfl, rfl⟩))
    (fun os started H enc _ => lifted os started H enc)

/-- THE STATEMENT -/
theorem proved : Rows.DigestBurstsSaid := over
#print axioms proved
end digestBursts
end Go.Proofs.Ytofjjgdocojplaa
