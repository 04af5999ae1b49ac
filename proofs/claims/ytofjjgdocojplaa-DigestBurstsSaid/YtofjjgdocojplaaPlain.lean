/- Proved here: plain mathematics of digests: mixing permutes, checksums bit by bit and their bursts, hexadecimal texts, sums by groups of eight bytes; no program in sight. -/
set_option linter.unusedVariables false
set_option linter.unusedSimpArgs false
namespace Dig
/-- the round function -/
def rndB (r k i : BitVec 32) : BitVec 32 := ((r ^^^ k) * 2654435761#32 + i) ^^^ (((r ^^^ k) * 2654435761#32 + i) >>> 16)
def keyB (key : BitVec 64) (i : Nat) : BitVec 32 := if i % 2 = 1 then (key >>> 32).setWidth 32 else key.setWidth 32
def mixSt (key x : BitVec 64) : Nat → BitVec 32 × BitVec 32
  | 0 => ((x >>> 32).setWidth 32, x.setWidth 32)
  | i + 1 => ((mixSt key x i).2, (mixSt key x i).1 ^^^ rndB (mixSt key x i).2 (keyB key i) (BitVec.ofNat 32 (i + 1)))
def mixB (key x : BitVec 64) : BitVec 64 := ((mixSt key x 4).1.setWidth 64 <<< 32) ||| (mixSt key x 4).2.setWidth 64
theorem keyB_odd {key : BitVec 64} {i : Nat} (h : i % 2 = 1) : keyB key i = (key >>> 32).setWidth 32 := by simp [keyB, h]
theorem keyB_even {key : BitVec 64} {i : Nat} (h : ¬ i % 2 = 1) : keyB key i = key.setWidth 32 := by simp [keyB, h]

/-! ### numbers and bits -/
theorem hi_nat (x : BitVec 64) : (x.toNat : Int) / (4294967296 : Int) = (((x >>> 32).setWidth 32).toNat : Int) := by
  simp only [BitVec.toNat_setWidth, BitVec.toNat_ushiftRight, Nat.shiftRight_eq_div_pow]
  have := x.isLt
  omega
theorem lo_nat (x : BitVec 64) : (x.toNat : Int) % (4294967296 : Int) = ((x.setWidth 32).toNat : Int) := by
  simp only [BitVec.toNat_setWidth]
  omega
theorem sw_toNat (x : BitVec 32) : (x.setWidth 64).toNat = x.toNat := by
  simp only [BitVec.toNat_setWidth]
  have := x.isLt
  omega
theorem xor_sw (x y : BitVec 32) : x.setWidth 64 ^^^ y.setWidth 64 = (x ^^^ y).setWidth 64 := by
  apply BitVec.eq_of_getLsbD_eq
  intro i hi
  simp [BitVec.getLsbD_setWidth]
theorem mul_add_sw (x k : BitVec 32) : ((x.setWidth 64 * 2654435761#64 + k.setWidth 64) : BitVec 64).toNat % 4294967296 = (x * 2654435761#32 + k).toNat := by
  have e : ((x.setWidth 64 * 2654435761#64 + k.setWidth 64) : BitVec 64).setWidth 32 = x * 2654435761#32 + k := by
    rw [BitVec.setWidth_add _ _ (by decide), BitVec.setWidth_mul _ _ (by decide)]
    simp
  rw [← e, BitVec.toNat_setWidth]
theorem mix_join (l r : BitVec 32) : ((l.toNat : Int) * (4294967296 : Int) + (r.toNat : Int)) = ((((l.setWidth 64) <<< 32) ||| r.setWidth 64).toNat : Int) := by
  have hl := l.isLt; have hr := r.isLt
  have : ((l.setWidth 64) <<< 32) ||| r.setWidth 64 = ((l.setWidth 64) <<< 32) + r.setWidth 64 := by
    symm
    apply BitVec.add_eq_or_of_and_eq_zero
    apply BitVec.eq_of_getLsbD_eq
    intro i hi
    simp [BitVec.getLsbD_setWidth]
    intros
    exact BitVec.getLsbD_of_ge _ _ (by omega)
  rw [this]
  simp only [BitVec.toNat_add, BitVec.toNat_shiftLeft, BitVec.toNat_setWidth, Nat.shiftLeft_eq]
  omega

theorem ofInt_nat (n w : Nat) : BitVec.ofInt w (n : Int) = BitVec.ofNat w n := by
  apply BitVec.eq_of_toNat_eq
  simp only [BitVec.toNat_ofInt, BitVec.toNat_ofNat]
  exact Int.toNat_natCast _
theorem ofNat_sw (x : BitVec 32) : BitVec.ofNat 64 x.toNat = x.setWidth 64 := by
  apply BitVec.eq_of_toNat_eq
  simp [BitVec.toNat_setWidth]
theorem shr16 (x : BitVec 32) : x.toNat / 65536 = (x >>> 16).toNat := by
  simp only [BitVec.toNat_ushiftRight, Nat.shiftRight_eq_div_pow]
theorem rr_eq (r k i : BitVec 32) : (BitVec.ofInt 64 ((((r.setWidth 64 ^^^ k.setWidth 64) * BitVec.ofInt 64 2654435761 + i.setWidth 64).toNat : Int).tmod 4294967296) ^^^ BitVec.ofInt 64 (((((r.setWidth 64 ^^^ k.setWidth 64) * BitVec.ofInt 64 2654435761 + i.setWidth 64).toNat : Int).tmod 4294967296).tdiv 65536)).toNat = (rndB r k i).toNat := by
  rw [Int.tmod_eq_emod_of_nonneg (by omega), Int.tdiv_eq_ediv_of_nonneg (by omega)]
  have e : ((((r.setWidth 64 ^^^ k.setWidth 64) * BitVec.ofInt 64 2654435761 + i.setWidth 64).toNat : Int) % 4294967296) = (((r ^^^ k) * 2654435761#32 + i).toNat : Int) := by
    rw [xor_sw, ← mul_add_sw]
    rfl
  rw [e, show ((((r ^^^ k) * 2654435761#32 + i).toNat : Int) / 65536) = ((((r ^^^ k) * 2654435761#32 + i).toNat / 65536 : Nat) : Int) from rfl, shr16, ofInt_nat, ofInt_nat, ofNat_sw, ofNat_sw, xor_sw, sw_toNat]
  rfl

/-! ### the checksum -/
def stB (n : BitVec 32) : BitVec 32 := if n &&& 1#32 = 1#32 then (n >>> 1) ^^^ 3988292384#32 else n >>> 1
def itB : Nat → BitVec 32 → BitVec 32
  | 0, n => n
  | k + 1, n => stB (itB k n)
def crcB (n : BitVec 32) (c : UInt8) : BitVec 32 := itB 8 (n ^^^ c.toBitVec.setWidth 32)
def checkB (l : List UInt8) : BitVec 32 := l.foldl crcB 4294967295#32
theorem checkB_take (l : List UInt8) (i : Nat) (h : i < l.length) : (l.take (i + 1)).foldl crcB 4294967295#32 = crcB ((l.take i).foldl crcB 4294967295#32) l[i] := by
  rw [List.take_succ_eq_append_getElem h, List.foldl_append]
  simp
theorem stB_one (n : BitVec 32) (h : n &&& 1#32 = 1#32) : stB n = (n >>> 1) ^^^ 3988292384#32 := by rw [stB, if_pos h]
theorem stB_zero (n : BitVec 32) (h : ¬ n &&& 1#32 = 1#32) : stB n = n >>> 1 := by rw [stB, if_neg h]
theorem and_one (n : BitVec 32) : (n &&& 1#32 = 1#32) ↔ n.toNat % 2 = 1 := by
  rw [← BitVec.toNat_inj, BitVec.toNat_and]
  simp only [BitVec.toNat_ofNat]
  rw [show 1 % 2 ^ 32 = 2 ^ 1 - 1 from rfl, Nat.and_two_pow_sub_one_eq_mod]
theorem xor_mod2 (x y : BitVec 32) : (x ^^^ y).toNat % 2 = (x.toNat + y.toNat) % 2 := by
  rw [BitVec.toNat_xor, show (2 : Nat) = 2 ^ 1 from rfl, Nat.xor_mod_two_pow]
  rcases Nat.mod_two_eq_zero_or_one x.toNat with h | h <;> rcases Nat.mod_two_eq_zero_or_one y.toNat with g | g <;> simp [h, g, Nat.add_mod]
theorem half_nat (x : BitVec 32) : (x.toNat : Int) / (2 : Int) = ((x >>> 1).toNat : Int) := by
  simp only [BitVec.toNat_ushiftRight, Nat.shiftRight_eq_div_pow]
  omega
theorem shr_succ (c : BitVec 32) (k : Nat) : (c >>> k) >>> 1 = c >>> (k + 1) := by
  rw [BitVec.shiftRight_add]
theorem ref_step (x y : BitVec 32) (h : ¬ ((x ^^^ y).toNat : Int) % (2 : Int) = (y.toNat : Int) % (2 : Int)) : ((x ^^^ y) >>> 1) ^^^ 3988292384#32 = stB x ^^^ y >>> 1 := by
  have h1 : x &&& 1#32 = 1#32 := by
    rw [and_one]
    have := xor_mod2 x y
    omega
  rw [stB, if_pos h1, BitVec.ushiftRight_xor_distrib]
  ac_rfl
theorem ref_step' (x y : BitVec 32) (h : ((x ^^^ y).toNat : Int) % (2 : Int) = (y.toNat : Int) % (2 : Int)) : (x ^^^ y) >>> 1 = stB x ^^^ y >>> 1 := by
  have h1 : ¬ x &&& 1#32 = 1#32 := by
    rw [and_one]
    have := xor_mod2 x y
    omega
  rw [stB, if_neg h1, BitVec.ushiftRight_xor_distrib]
theorem ref_0 (n c : BitVec 32) : itB 0 (n ^^^ c) ^^^ c >>> 0 = n := by
  show (n ^^^ c) ^^^ c >>> 0 = n
  rw [BitVec.ushiftRight_zero, BitVec.xor_assoc, BitVec.xor_self, BitVec.xor_zero]
theorem ref_c0 (c : UInt8) : ((c.toBitVec.setWidth 32) >>> 0).toNat = c.toNat := by
  rw [BitVec.ushiftRight_zero, BitVec.toNat_setWidth]
  have := c.toNat_lt
  show c.toNat % _ = _
  omega
theorem ref_end (n : BitVec 32) (c : UInt8) : itB 8 (n ^^^ c.toBitVec.setWidth 32) ^^^ (c.toBitVec.setWidth 32) >>> 8 = crcB n c := by
  have : (c.toBitVec.setWidth 32) >>> 8 = 0#32 := by
    apply BitVec.eq_of_toNat_eq
    rw [BitVec.toNat_ushiftRight, BitVec.toNat_setWidth, Nat.shiftRight_eq_div_pow]
    have := c.toNat_lt
    show c.toNat % _ / _ = 0
    omega
  rw [this, BitVec.xor_zero]
  rfl
theorem ref_u64 (x : BitVec 32) : (BitVec.ofInt 64 ((x.toNat : Int) / (2 : Int)) ^^^ BitVec.ofInt 64 3988292384).toNat = ((x >>> 1) ^^^ 3988292384#32).toNat := by
  rw [half_nat, ofInt_nat, ofNat_sw, show BitVec.ofInt 64 3988292384 = (3988292384#32).setWidth 64 from rfl, xor_sw, sw_toNat]
theorem not_sub (x : BitVec 32) : ((~~~ x).toNat : Int) = 4294967295 - (x.toNat : Int) := by
  rw [BitVec.toNat_not]
  have := x.isLt
  omega

/-! ### digits -/
def digB (c : UInt8) : Option Nat := if 48 ≤ c.toNat ∧ c.toNat ≤ 57 then some (c.toNat - 48) else if 97 ≤ c.toNat ∧ c.toNat ≤ 102 then some (c.toNat - 87) else none
def accB (s : List UInt8) : Nat → Option (BitVec 64)
  | 0 => some 0#64
  | i + 1 => (accB s i).bind fun a => (digB (s.getD i 0)).map fun d => (a <<< 4) ||| BitVec.ofNat 64 d
def parseB (s : List UInt8) : Option (BitVec 64) := if s.length = 16 then accB s 16 else none
theorem digB_09 {c : UInt8} (h : 48 ≤ c.toNat ∧ c.toNat ≤ 57) : digB c = some (c.toNat - 48) := by rw [digB, if_pos h]
theorem digB_af {c : UInt8} (h : 97 ≤ c.toNat ∧ c.toNat ≤ 102) : digB c = some (c.toNat - 87) := by rw [digB, if_neg (by omega), if_pos h]
theorem digB_no {c : UInt8} (h : ¬ (48 ≤ c.toNat ∧ c.toNat ≤ 57)) (h2 : ¬ (97 ≤ c.toNat ∧ c.toNat ≤ 102)) : digB c = none := by rw [digB, if_neg h, if_neg h2]
theorem acc_or (d : BitVec 64) (n : Int) (k : Nat) (h : n = (k : Int)) : (BitVec.ofInt 64 ((BitVec.ofInt 64 ((d.toNat : Int) * 2 ^ 4)).toNat : Int) ||| BitVec.ofInt 64 n).toNat = (d <<< 4 ||| BitVec.ofNat 64 k).toNat := by
  have h16 : (d.toNat : Int) * 2 ^ 4 = ((d.toNat * 16 : Nat) : Int) := by omega
  have e : BitVec.ofInt 64 ((BitVec.ofInt 64 ((d.toNat : Int) * 2 ^ 4)).toNat : Int) = d <<< 4 := by
    rw [h16, ofInt_nat, ofInt_nat]
    apply BitVec.eq_of_toNat_eq
    simp only [BitVec.toNat_ofNat, BitVec.toNat_shiftLeft, Nat.shiftLeft_eq]
    omega
  rw [e, h, ofInt_nat]
theorem acc_succ {s : List UInt8} {i : Nat} {a : BitVec 64} (h : accB s i = some a) (hd : (digB (s.getD i 0)).isSome = true) : accB s (i + 1) = some (a <<< 4 ||| BitVec.ofNat 64 ((digB (s.getD i 0)).getD 0)) := by
  obtain ⟨d, hd⟩ := Option.isSome_iff_exists.1 hd
  rw [accB, h, hd]
  rfl
theorem acc_bad {s : List UInt8} {i : Nat} (hd : digB (s.getD i 0) = none) : ∀ j, i < j → accB s j = none := by
  intro j
  induction j with
  | zero => intro h; omega
  | succ j ih =>
    intro h
    rw [accB]
    rcases Nat.lt_or_ge i j with h' | h'
    · rw [ih h']; rfl
    · obtain rfl : i = j := by omega
      rw [hd]
      cases accB s i <;> rfl
theorem parse_len {s : List UInt8} (h : s.length ≠ 16) : parseB s = none := by rw [parseB, if_neg h]
theorem parse_bad {s : List UInt8} {i : Nat} (hi : i < 16) (hd : digB (s.getD i 0) = none) : parseB s = none := by
  rw [parseB, acc_bad hd 16 hi]
  split <;> rfl
theorem parse_ok {s : List UInt8} {i : Nat} {a : BitVec 64} (h : s.length = 16) (hi : i = 16) (ha : accB s i = some a) : parseB s = some a := by
  subst hi
  rw [parseB, if_pos h, ha]
theorem digB_lt {c : UInt8} {n : Nat} (h : digB c = some n) : n < 16 := by
  unfold digB at h
  split at h
  · cases h; omega
  · split at h
    · cases h; omega
    · cases h
theorem dig_none {c : UInt8} (h : (((digB c).getD 16 : Nat) : Int) = 16) : digB c = none := by
  cases hd : digB c with
  | none => rfl
  | some n =>
    have := digB_lt hd
    rw [hd, Option.getD_some] at h
    omega
theorem dig_some {c : UInt8} (h : ¬ (((digB c).getD 16 : Nat) : Int) = 16) : (digB c).isSome = true := by
  cases hd : digB c with
  | none => rw [hd] at h; exact absurd rfl h
  | some n => rfl
theorem or_add4 (d : BitVec 64) (k : Nat) (h : k < 16) : d <<< 4 ||| BitVec.ofNat 64 k = d <<< 4 + BitVec.ofNat 64 k := by
  symm
  apply BitVec.add_eq_or_of_and_eq_zero
  apply BitVec.eq_of_getLsbD_eq
  intro i hi
  simp only [BitVec.getLsbD_and, BitVec.getLsbD_shiftLeft, BitVec.getLsbD_ofNat, BitVec.getLsbD_zero]
  by_cases h4 : i < 4
  · simp [h4]
  · have : k.testBit i = false := Nat.testBit_lt_two_pow (Nat.lt_of_lt_of_le h (by
      rw [show 16 = 2 ^ 4 from rfl]
      exact Nat.pow_le_pow_right (by omega) (by omega)))
    simp [this]
theorem acc_add (d : BitVec 64) {c : UInt8} (h : ¬ (((digB c).getD 16 : Nat) : Int) = 16) :
    (BitVec.ofInt 64 (((BitVec.ofInt 64 ((d.toNat : Int) * (16 : Int))).toNat : Int) + (((digB c).getD 16 : Nat) : Int))).toNat = (d <<< 4 ||| BitVec.ofNat 64 ((digB c).getD 0)).toNat := by
  obtain ⟨n, hn⟩ := Option.isSome_iff_exists.1 (dig_some h)
  have hlt := digB_lt hn
  rw [hn, Option.getD_some, Option.getD_some, or_add4 d n hlt]
  rw [show (d.toNat : Int) * (16 : Int) = ((d.toNat * 16 : Nat) : Int) by omega, ofInt_nat, ← Int.natCast_add, ofInt_nat]
  simp only [BitVec.toNat_ofNat, BitVec.toNat_add, BitVec.toNat_shiftLeft, Nat.shiftLeft_eq]
  omega

/-! ### texts -/
def digs : List UInt8 := [48, 49, 50, 51, 52, 53, 54, 55, 56, 57, 97, 98, 99, 100, 101, 102]
def textB (d : BitVec 64) : List UInt8 := (List.range 16).map fun j => digs.getD ((d >>> (60 - 4 * j)).toNat % 16) 0
theorem textB_len (d : BitVec 64) : (textB d).length = 16 := by simp [textB]
theorem textB_get (d : BitVec 64) (i : Nat) (h : i < 16) : (textB d)[i]? = some (digs.getD ((d >>> (60 - 4 * i)).toNat % 16) 0) := by
  simp [textB, h]
theorem fill_set {α β : Type} (l : List α) (z x : α) (f : α → β) (n i : Nat) (hn : l.length = n) (h : l[i]? = some x) (j : Nat) (hj : j = i) :
    ((l.take i ++ List.replicate (n - i) z).map f).set j (f x) = (l.take (i + 1) ++ List.replicate (n - (i + 1)) z).map f := by
  subst hj
  have hlt : j < l.length := (List.getElem?_eq_some_iff.1 h).1
  have hx : l[j] = x := (List.getElem?_eq_some_iff.1 h).2
  subst hx
  rw [← List.map_set]
  congr 1
  rw [List.set_append_right _ _ (by rw [List.length_take]; omega), List.take_succ_eq_append_getElem hlt, List.append_assoc]
  congr 1
  rw [show n - j = (n - (j + 1)) + 1 by omega, List.replicate_succ, List.length_take, Nat.min_eq_left (by omega), Nat.sub_self]
  rfl
theorem fill_end {α : Type} (l : List α) (z : α) (n i : Nat) (hn : l.length = n) (hi : i = n) : l.take i ++ List.replicate (n - i) z = l := by
  subst hi
  rw [Nat.sub_self, List.replicate_zero, List.append_nil, List.take_of_length_le (by omega)]
theorem slice1 (l : List UInt8) (n : Int) (h0 : 0 ≤ n) (h : n < l.length) : (l.take (n + 1).toNat).drop n.toNat = [l.getD n.toNat 0] := by
  obtain ⟨k, rfl⟩ : ∃ k : Nat, n = (k : Int) := ⟨n.toNat, by omega⟩
  have hk : k < l.length := by omega
  rw [show ((k : Int) + 1).toNat = k + 1 by omega, Int.toNat_natCast, List.take_succ_eq_append_getElem hk, List.drop_append_of_le_length (by simp; omega), List.drop_eq_nil_of_le (by simp; omega)]
  simp [hk]
theorem rtext_step (d : BitVec 64) (i : Nat) (h : i < 16) : (digs.take ((((d >>> (4 * i)).toNat : Int) % (16 : Int)) + 1).toNat).drop (((d >>> (4 * i)).toNat : Int) % (16 : Int)).toNat ++ (textB d).drop (16 - i) = (textB d).drop (16 - (i + 1)) := by
  rw [slice1 _ _ (by omega) (by show _ < (16 : Int); omega)]
  have hl := textB_len d
  have hg := textB_get d (16 - (i + 1)) (by omega)
  rw [List.drop_eq_getElem_cons (i := 16 - (i + 1)) (by omega), show 16 - (i + 1) + 1 = 16 - i by omega]
  rw [List.getElem?_eq_getElem (by omega)] at hg
  rw [Option.some.inj hg, show 60 - 4 * (16 - (i + 1)) = 4 * i by omega]
  rw [show ((((d >>> (4 * i)).toNat : Int) % (16 : Int)).toNat) = (d >>> (4 * i)).toNat % 16 by omega]
  rfl
theorem rtext_shr (d : BitVec 64) (i : Nat) : ((d >>> (4 * i)).toNat : Int) / (16 : Int) = ((d >>> (4 * (i + 1))).toNat : Int) := by
  rw [show 4 * (i + 1) = 4 * i + 4 by omega, BitVec.shiftRight_add, BitVec.toNat_ushiftRight (d >>> (4 * i)), Nat.shiftRight_eq_div_pow]
  rfl

/-! ### the laws -/
theorem mixSt_inj (key x y : BitVec 64) : ∀ i, mixSt key x i = mixSt key y i → mixSt key x 0 = mixSt key y 0 := by
  intro i
  induction i with
  | zero => exact id
  | succ i ih =>
    intro h
    have h1 : (mixSt key x i).2 = (mixSt key y i).2 := congrArg Prod.fst h
    have h2 := congrArg Prod.snd h
    simp only [mixSt] at h2
    rw [h1] at h2
    exact ih (Prod.ext (by simpa using congrArg (· ^^^ rndB (mixSt key y i).2 (keyB key i) (BitVec.ofNat 32 (i + 1))) h2) h1)
theorem join_inj (a b c d : BitVec 32) (h : ((a.setWidth 64) <<< 32) ||| b.setWidth 64 = ((c.setWidth 64) <<< 32) ||| d.setWidth 64) : a = c ∧ b = d := by
  have h1 := mix_join a b
  have h2 := mix_join c d
  rw [h, ← h2] at h1
  have := a.isLt; have := b.isLt; have := c.isLt; have := d.isLt
  exact ⟨BitVec.eq_of_toNat_eq (by omega), BitVec.eq_of_toNat_eq (by omega)⟩
theorem split_inj (x y : BitVec 64) (h1 : (x >>> 32).setWidth 32 = (y >>> 32).setWidth 32) (h2 : x.setWidth 32 = y.setWidth 32) : x = y := by
  have a := hi_nat x; have b := hi_nat y; have c := lo_nat x; have d := lo_nat y
  rw [h1, ← b] at a
  rw [h2, ← d] at c
  exact BitVec.eq_of_toNat_eq (by omega)
theorem mixB_inj (key x y : BitVec 64) : mixB key x = mixB key y ↔ x = y := by
  refine ⟨fun h => ?_, fun h => by rw [h]⟩
  obtain ⟨h1, h2⟩ := join_inj _ _ _ _ h
  have h3 := mixSt_inj key x y 4 (Prod.ext h1 h2)
  exact split_inj x y (congrArg Prod.fst h3) (congrArg Prod.snd h3)
theorem dig_digs : ∀ n, n < 16 → digB (digs.getD n 0) = some n := by decide
theorem digs_dig : ∀ c : UInt8, ∀ n, digB c = some n → digs.getD n 0 = c := by
  intro c n h
  unfold digB at h
  have h1 : ∀ k : Nat, k < 10 → (digs.getD k 0).toNat = 48 + k := by decide
  have h2 : ∀ k : Nat, k < 6 → (digs.getD (10 + k) 0).toNat = 97 + k := by decide
  split at h
  · cases h
    exact UInt8.toNat_inj.1 (by rw [h1 _ (by omega)]; omega)
  · split at h
    · cases h
      exact UInt8.toNat_inj.1 (by rw [show c.toNat - 87 = 10 + (c.toNat - 97) by omega, h2 _ (by omega)]; omega)
    · cases h
theorem acc_text_step (e : BitVec 64) : (e >>> 4) <<< 4 ||| BitVec.ofNat 64 (e.toNat % 16) = e := by
  rw [or_add4 _ _ (by omega)]
  apply BitVec.eq_of_toNat_eq
  simp only [BitVec.toNat_add, BitVec.toNat_shiftLeft, BitVec.toNat_ushiftRight, BitVec.toNat_ofNat, Nat.shiftLeft_eq, Nat.shiftRight_eq_div_pow]
  have := e.isLt
  omega
theorem acc_text (d : BitVec 64) : ∀ i, i ≤ 16 → accB (textB d) i = some (d >>> (64 - 4 * i)) := by
  intro i
  induction i with
  | zero =>
    intro _
    rw [accB]
    congr 1
    apply BitVec.eq_of_toNat_eq
    rw [BitVec.toNat_ushiftRight, Nat.shiftRight_eq_div_pow]
    have := d.isLt
    show 0 = d.toNat / 2 ^ 64
    omega
  | succ i ih =>
    intro hi
    rw [accB, ih (by omega)]
    have hg : (textB d).getD i 0 = digs.getD ((d >>> (60 - 4 * i)).toNat % 16) 0 := by
      rw [List.getD_eq_getElem?_getD, textB_get d i (by omega)]
      rfl
    rw [hg, dig_digs _ (by omega)]
    have e1 : d >>> (64 - 4 * i) = (d >>> (60 - 4 * i)) >>> 4 := by
      rw [← BitVec.shiftRight_add, show 60 - 4 * i + 4 = 64 - 4 * i by omega]
    show some ((d >>> (64 - 4 * i)) <<< 4 ||| BitVec.ofNat 64 ((d >>> (60 - 4 * i)).toNat % 16)) = _
    rw [e1, acc_text_step, show 64 - 4 * (i + 1) = 60 - 4 * i by omega]
theorem parse_text (d : BitVec 64) : parseB (textB d) = some d := by
  rw [parseB, if_pos (textB_len d), acc_text d 16 (by omega)]
  simp
theorem acc_nat (s : List UInt8) : ∀ i, i ≤ 16 → ∀ a, accB s i = some a → a.toNat < 16 ^ i ∧ ∀ j, j < i → digs.getD (a.toNat / 16 ^ (i - 1 - j) % 16) 0 = s.getD j 0 := by
  intro i
  induction i with
  | zero =>
    intro _ a h
    rw [accB] at h
    cases h
    exact ⟨by decide, fun j hj => by omega⟩
  | succ i ih =>
    intro hi a' h
    rw [accB] at h
    cases ha : accB s i with
    | none => rw [ha] at h; cases h
    | some a =>
      cases hd : digB (s.getD i 0) with
      | none => rw [ha, hd] at h; cases h
      | some n =>
        rw [ha, hd] at h
        have h : a <<< 4 ||| BitVec.ofNat 64 n = a' := Option.some.inj h
        obtain ⟨h1, h2⟩ := ih (by omega) a ha
        have hn := digB_lt hd
        have hp : 16 ^ i ≤ 16 ^ 15 := Nat.pow_le_pow_right (by omega) (by omega)
        have hv : a'.toNat = a.toNat * 16 + n := by
          rw [← h, or_add4 a n hn]
          simp only [BitVec.toNat_add, BitVec.toNat_shiftLeft, BitVec.toNat_ofNat, Nat.shiftLeft_eq]
          omega
        refine ⟨by rw [hv, Nat.pow_succ]; omega, fun j hj => ?_⟩
        rcases Nat.lt_or_ge j i with hji | hji
        · rw [← h2 j hji, hv, show i + 1 - 1 - j = (i - 1 - j) + 1 by omega, Nat.pow_succ, Nat.mul_comm (16 ^ _) 16, ← Nat.div_div_eq_div_mul, show (a.toNat * 16 + n) / 16 = a.toNat by omega]
        · obtain rfl : j = i := by omega
          rw [hv, show j + 1 - 1 - j = 0 by omega, Nat.pow_zero, Nat.div_one, show (a.toNat * 16 + n) % 16 = n by omega]
          exact digs_dig _ _ hd
theorem text_parse {s : List UInt8} {d : BitVec 64} (h : parseB s = some d) : textB d = s := by
  unfold parseB at h
  split at h
  · rename_i hl
    obtain ⟨_, h2⟩ := acc_nat s 16 (by omega) d h
    apply List.ext_getElem?
    intro j
    rcases Nat.lt_or_ge j 16 with hj | hj
    · rw [textB_get d j hj, BitVec.toNat_ushiftRight, Nat.shiftRight_eq_div_pow]
      have := h2 j hj
      rw [show 16 ^ (16 - 1 - j) = 2 ^ (60 - 4 * j) by rw [show 60 - 4 * j = 4 * (16 - 1 - j) by omega, Nat.pow_mul]] at this
      rw [this, List.getD_eq_getElem?_getD, List.getElem?_eq_getElem (by omega)]
      rfl
    · rw [List.getElem?_eq_none (by rw [textB_len]; omega), List.getElem?_eq_none (by omega)]
  · cases h
theorem law_perm (key x y : BitVec 64) : ((((mixB key x).toNat : Int) == ((mixB key y).toNat : Int)) == ((x.toNat : Int) == (y.toNat : Int)) && true) = true := by
  have e : ∀ a b : BitVec 64, ((a.toNat : Int) == (b.toNat : Int)) = decide (a = b) := by
    intro a b
    rw [Bool.eq_iff_iff, beq_iff_eq, decide_eq_true_eq, ← BitVec.toNat_inj]
    omega
  rw [e, e, Bool.and_true, beq_iff_eq, decide_eq_decide]
  exact mixB_inj key x y
theorem law_text (s : List UInt8) : (((if (parseB s).isSome = true then (0 : Int) else 5) != 0 || textB ((parseB s).getD 0#64) == s) && true) = true := by
  cases h : parseB s with
  | none => rfl
  | some d =>
    have := text_parse h
    simp [this]

/-! ### sums -/
def grpN (f : Nat → Nat) : Nat → Nat
  | 0 => 0
  | i + 1 => grpN f i + f i * 256 ^ i
def grpT (f : Nat → Nat) : Nat → Nat
  | 0 => 0
  | k + 1 => grpT f k * 256 + f (7 - k)
def grpI (c : List UInt8) : Nat → BitVec 64
  | 0 => 0#64
  | i + 1 => grpI c i ||| ((c.getD i 0).toBitVec.setWidth 64 <<< (8 * i))
def grpB (c : List UInt8) : BitVec 64 := BitVec.ofNat 64 (grpN (fun j => (c.getD j 0).toNat) 8)
def sumSt (b : List UInt8) : Nat → BitVec 64
  | 0 => mixB (BitVec.ofNat 64 b.length) 0#64
  | k + 1 => mixB (grpB (b.drop (8 * k))) (sumSt b k) ^^^ grpB (b.drop (8 * k))
def sumB (b : List UInt8) : BitVec 64 := sumSt b ((b.length + 7) / 8)
theorem grpN_lt (f : Nat → Nat) (h : ∀ i, f i < 256) : ∀ n, grpN f n < 256 ^ n
  | 0 => by simp [grpN]
  | n + 1 => by
    have := grpN_lt f h n
    have h2 := h n
    rw [grpN, Nat.pow_succ]
    have : f n * 256 ^ n ≤ 255 * 256 ^ n := Nat.mul_le_mul_right _ (by omega)
    omega
theorem grpT_lt (f : Nat → Nat) (h : ∀ i, f i < 256) : ∀ n, grpT f n < 256 ^ n
  | 0 => by simp [grpT]
  | n + 1 => by
    have := grpT_lt f h n
    have h2 := h (7 - n)
    rw [grpT, Nat.pow_succ]
    omega
theorem grpT_end (f : Nat → Nat) : grpT f 8 = grpN f 8 := by
  simp [grpT, grpN]
  omega
theorem byte_lt (c : List UInt8) (j : Nat) : (c.getD j 0).toNat < 256 := (c.getD j 0).toNat_lt
theorem grpI_nat (c : List UInt8) : ∀ i, i ≤ 8 → (grpI c i).toNat = grpN (fun j => (c.getD j 0).toNat) i
  | 0, _ => rfl
  | i + 1, hi => by
    have ih := grpI_nat c i (by omega)
    have hlt := grpN_lt (fun j => (c.getD j 0).toNat) (byte_lt c) i
    have hb := byte_lt c i
    have hp : (256 : Nat) ^ i = 2 ^ (8 * i) := by rw [Nat.pow_mul]
    have hs : ((c.getD i 0).toBitVec.setWidth 64 <<< (8 * i)).toNat = (c.getD i 0).toNat * 256 ^ i := by
      rw [BitVec.toNat_shiftLeft, BitVec.toNat_setWidth, Nat.shiftLeft_eq, hp]
      have h1 : (c.getD i 0).toBitVec.toNat = (c.getD i 0).toNat := rfl
      rw [h1, Nat.mod_eq_of_lt (a := (c.getD i 0).toNat) (by omega)]
      have h2 : 2 ^ (8 * i) ≤ 2 ^ 56 := Nat.pow_le_pow_right (by omega) (by omega)
      exact Nat.mod_eq_of_lt (by
        calc (c.getD i 0).toNat * 2 ^ (8 * i) ≤ 255 * 2 ^ 56 := Nat.mul_le_mul (by omega) h2
          _ < 2 ^ 64 := by decide)
    rw [grpI, grpN, BitVec.toNat_or, hs, ih, Nat.add_comm (grpN _ _)]
    rw [hp] at hlt ⊢
    rw [Nat.or_comm, ← Nat.shiftLeft_eq, Nat.shiftLeft_add_eq_or_of_lt hlt]
theorem grpN_zero (f : Nat → Nat) (n : Nat) : ∀ d, (∀ i, n ≤ i → f i = 0) → grpN f (n + d) = grpN f n
  | 0, _ => rfl
  | d + 1, h => by rw [← Nat.add_assoc, grpN, h (n + d) (by omega), Nat.zero_mul, Nat.add_zero, grpN_zero f n d h]
theorem grpI_end (c : List UInt8) (i : Nat) (h : i = (c.take 8).length) : grpI c i = grpB c := by
  have hi : i ≤ 8 := by rw [h, List.length_take]; omega
  apply BitVec.eq_of_toNat_eq
  have hlt := grpN_lt (fun j => (c.getD j 0).toNat) (byte_lt c) 8
  rw [grpI_nat c i hi, grpB, BitVec.toNat_ofNat, Nat.mod_eq_of_lt hlt]
  rcases Nat.lt_or_ge i 8 with h8 | h8
  · have hl : i = c.length := by rw [h, List.length_take] at *; omega
    obtain ⟨d, rfl⟩ : ∃ d, d = 8 - i := ⟨_, rfl⟩
    have := grpN_zero (fun j => (c.getD j 0).toNat) i (8 - i) fun j hj => by
      rw [List.getD_eq_getElem?_getD, List.getElem?_eq_none (by omega)]
      rfl
    rw [← this, show i + (8 - i) = 8 by omega]
  · rw [show i = 8 by omega]
theorem grpT_grpB (c : List UInt8) : grpT (fun j => (c.getD j 0).toNat) 8 = (grpB c).toNat := by
  have hlt := grpN_lt (fun j => (c.getD j 0).toNat) (byte_lt c) 8
  rw [grpT_end, grpB, BitVec.toNat_ofNat, Nat.mod_eq_of_lt hlt]
theorem chunk_eq {α β : Type} (f : α → β) (l : List α) : ((l.map f).take (min 8 l.length)).drop 0 = (l.take 8).map f := by
  rw [List.drop_zero, ← List.map_take]
  congr 1
  rcases Nat.le_total 8 l.length with h | h
  · rw [Nat.min_eq_left h]
  · rw [Nat.min_eq_right h, List.take_of_length_le (Nat.le_refl _), List.take_of_length_le h]
theorem chunk_next {α β : Type} (f : α → β) (l : List α) (k : Nat) : (((l.drop (8 * k)).map f).take ((l.drop (8 * k)).map f).length).drop (min 8 (l.drop (8 * k)).length) = (l.drop (8 * (k + 1))).map f := by
  rw [List.take_of_length_le (Nat.le_refl _), ← List.map_drop, List.drop_drop]
  congr 1
  rw [List.length_drop]
  rcases Nat.le_total 8 (l.length - 8 * k) with h | h
  · rw [Nat.min_eq_left h, show 8 * (k + 1) = 8 * k + 8 by omega]
  · rw [Nat.min_eq_right h, List.drop_eq_nil_of_le (by omega), List.drop_eq_nil_of_le (by omega)]
theorem sum_end (b : List UInt8) (k : Nat) (h1 : b.length ≤ 8 * k) (h2 : 8 * k < b.length + 8) : sumSt b k = sumB b := by
  rw [sumB, show (b.length + 7) / 8 = k by omega]
theorem getD_drop' (b : List UInt8) (a j : Nat) : (b.drop a).getD j 0 = b.getD (a + j) 0 := by
  simp [List.getD_eq_getElem?_getD, List.getElem?_drop]
theorem grpT_T (b : List UInt8) (a k : Nat) (hk : k ≤ 7) : ((grpT (fun j => ((b.drop a).getD j 0).toNat) k : Nat) : Int) * 256 + ((b.getD ((a : Int) + (7 - (k : Int))).toNat 0).toNat : Int) = ((grpT (fun j => ((b.drop a).getD j 0).toNat) (k + 1) : Nat) : Int) := by
  rw [grpT, getD_drop', show ((a : Int) + (7 - (k : Int))).toNat = a + (7 - k) by omega]
  omega
theorem grpT_F (b : List UInt8) (a k : Nat) (h : b.length ≤ a + (7 - k)) : ((grpT (fun j => ((b.drop a).getD j 0).toNat) k : Nat) : Int) * 256 = ((grpT (fun j => ((b.drop a).getD j 0).toNat) (k + 1) : Nat) : Int) := by
  rw [grpT, getD_drop', List.getD_eq_getElem?_getD, List.getElem?_eq_none h]
  show _ = (((_ : Nat) * 256 + 0 : Nat) : Int)
  omega
theorem seven (k : Nat) : (7 - (k : Int) - 1) = 7 - ((k + 1 : Nat) : Int) := by omega

/-! ### labels and parts -/
def le8 (d : BitVec 64) : List UInt8 := (List.range 8).map fun i => UInt8.ofBitVec ((d >>> (8 * i)).setWidth 8)
theorem le8_len (d : BitVec 64) : (le8 d).length = 8 := by simp [le8]
theorem le8_get (d : BitVec 64) (i : Nat) (h : i < 8) : (le8 d)[i]? = some (UInt8.ofBitVec ((d >>> (8 * i)).setWidth 8)) := by simp [le8, h]
theorem le8_take (d : BitVec 64) (i : Nat) (h : i < 8) : (le8 d).take (i + 1) = (le8 d).take i ++ [UInt8.ofBitVec ((d >>> (8 * i)).setWidth 8)] := by
  have hl := le8_len d
  rw [List.take_succ_eq_append_getElem (by omega)]
  have := le8_get d i h
  rw [List.getElem?_eq_getElem (by omega)] at this
  rw [Option.some.inj this]
def preB (label : List UInt8) (ps : List (BitVec 64)) : List UInt8 := label ++ [0] ++ ps.flatMap le8
def ofB (label : List UInt8) (ps : List (BitVec 64)) : BitVec 64 := sumB (preB label ps)
theorem preB_len (label : List UInt8) : ∀ ps : List (BitVec 64), (preB label ps).length = label.length + 1 + 8 * ps.length := by
  intro ps
  have : (ps.flatMap le8).length = 8 * ps.length := by
    induction ps with
    | nil => rfl
    | cons d ps ih => rw [List.flatMap_cons, List.length_append, le8_len, ih, List.length_cons]; omega
  simp [preB, this]
  omega
theorem preB_take (label : List UInt8) (ps : List (BitVec 64)) (j : Nat) (d : BitVec 64) (h : ps[j]? = some d) : preB label (ps.take j) ++ le8 d = preB label (ps.take (j + 1)) := by
  have hj := (List.getElem?_eq_some_iff.1 h).1
  have hd := (List.getElem?_eq_some_iff.1 h).2
  rw [List.take_succ_eq_append_getElem hj, hd]
  simp [preB, List.flatMap_append]
theorem byte_of (d : BitVec 64) (s : Nat) : (((d >>> s).toNat % 256 : Nat) : Int) = ((UInt8.ofBitVec ((d >>> s).setWidth 8)).toNat : Int) := by
  have : (UInt8.ofBitVec ((d >>> s).setWidth 8)).toNat = ((d >>> s).setWidth 8).toNat := rfl
  rw [this, BitVec.toNat_setWidth]
theorem next8 (d : BitVec 64) (i : Nat) : ((d >>> (8 * i)).toNat : Int) / (256 : Int) = ((d >>> (8 * (i + 1))).toNat : Int) := by
  rw [show 8 * (i + 1) = 8 * i + 8 by omega, BitVec.shiftRight_add, BitVec.toNat_ushiftRight (d >>> (8 * i)), Nat.shiftRight_eq_div_pow]
  rfl
theorem byte_ofI (d : BitVec 64) (s : Nat) : ((d >>> s).toNat : Int) % (256 : Int) = ((UInt8.ofBitVec ((d >>> s).setWidth 8)).toNat : Int) := by
  rw [← byte_of]
  rfl
theorem take_byte (s : List UInt8) (i : Nat) (h : i < s.length) : s.take (i + 1) = s.take i ++ [s.getD i 0] := by
  rw [List.take_succ_eq_append_getElem h, List.getD_eq_getElem?_getD, List.getElem?_eq_getElem h]
  rfl
theorem parts_law (x : BitVec 64) : (((x.toNat : Int) == (x.toNat : Int)) && true) = true := by simp

/-! ### bursts -/
def pB (x : BitVec 32) : BitVec 32 := if x.getLsbD 0 then 3988292384#32 else 0#32
theorem stB_p (x : BitVec 32) : stB x = (x >>> 1) ^^^ pB x := by
  have e : (x &&& 1#32 = 1#32) ↔ x.getLsbD 0 = true := by
    rw [and_one, BitVec.getLsbD, Nat.testBit_zero]
    simp
  unfold stB pB
  by_cases h : x.getLsbD 0 = true
  · rw [if_pos (e.2 h), if_pos h]
  · rw [if_neg (fun k => h (e.1 k)), if_neg h, BitVec.xor_zero]
theorem pB_xor (x y : BitVec 32) : pB (x ^^^ y) = pB x ^^^ pB y := by
  unfold pB
  rw [BitVec.getLsbD_xor]
  cases x.getLsbD 0 <;> cases y.getLsbD 0 <;> simp
theorem stB_xor (x y : BitVec 32) : stB (x ^^^ y) = stB x ^^^ stB y := by
  rw [stB_p, stB_p, stB_p, pB_xor, BitVec.ushiftRight_xor_distrib]
  ac_rfl
theorem itB_xor (x y : BitVec 32) : ∀ k, itB k (x ^^^ y) = itB k x ^^^ itB k y
  | 0 => rfl
  | k + 1 => by rw [itB, itB, itB, itB_xor x y k, stB_xor]
theorem stB_zero_iff {x : BitVec 32} (h : stB x = 0#32) : x = 0#32 := by
  have h31 : (stB x).getLsbD 31 = x.getLsbD 0 := by
    rw [stB_p, BitVec.getLsbD_xor, BitVec.getLsbD_ushiftRight]
    unfold pB
    have : x.getLsbD (1 + 31) = false := BitVec.getLsbD_of_ge _ _ (by omega)
    rw [this]
    cases x.getLsbD 0 <;> rfl
  have h0 : x.getLsbD 0 = false := by rw [← h31, h]; rfl
  rw [stB_p] at h
  unfold pB at h
  rw [h0] at h
  simp only [Bool.false_eq_true, if_false, BitVec.xor_zero] at h
  apply BitVec.eq_of_getLsbD_eq
  intro i hi
  cases i with
  | zero => rw [h0]; rfl
  | succ i =>
    have := congrArg (fun z : BitVec 32 => z.getLsbD i) h
    simp only [BitVec.getLsbD_ushiftRight] at this
    rw [Nat.add_comm, this]
    simp
theorem itB_zero_iff {x : BitVec 32} : ∀ {k : Nat}, itB k x = 0#32 → x = 0#32
  | 0, h => h
  | k + 1, h => itB_zero_iff (k := k) (stB_zero_iff h)
theorem xor_eq_zero {x y : BitVec 32} (h : x ^^^ y = 0#32) : x = y := by
  have := congrArg (· ^^^ y) h
  simpa [BitVec.xor_assoc] using this
theorem itB_inj {x y : BitVec 32} {k : Nat} (h : itB k x = itB k y) : x = y := by
  have : itB k (x ^^^ y) = 0#32 := by rw [itB_xor, h, BitVec.xor_self]
  exact xor_eq_zero (itB_zero_iff this)
theorem stB_shl {y : BitVec 32} (h : y.toNat < 2147483648) : stB (y <<< 1) = y := by
  have h0 : (y <<< 1).getLsbD 0 = false := by simp
  rw [stB_p, pB, h0]
  simp only [Bool.false_eq_true, if_false, BitVec.xor_zero]
  apply BitVec.eq_of_toNat_eq
  simp only [BitVec.toNat_ushiftRight, BitVec.toNat_shiftLeft, Nat.shiftLeft_eq, Nat.shiftRight_eq_div_pow]
  omega
theorem itB_shl : ∀ (k : Nat) (y : BitVec 32), y.toNat * 2 ^ k < 4294967296 → itB k (y <<< k) = y
  | 0, y, _ => by simp [itB]
  | k + 1, y, h => by
    have h2 : y.toNat * 2 * 2 ^ k < 4294967296 := by rw [Nat.pow_succ] at h; rw [Nat.mul_assoc, Nat.mul_comm 2]; exact h
    have hp : 0 < 2 ^ k := Nat.pow_pos (by omega)
    have h1 : y.toNat * 2 < 4294967296 := Nat.lt_of_le_of_lt (Nat.le_mul_of_pos_right _ hp) h2
    have e : (y <<< 1).toNat = y.toNat * 2 := by
      simp only [BitVec.toNat_shiftLeft, Nat.shiftLeft_eq]
      omega
    rw [itB, show y <<< (k + 1) = (y <<< 1) <<< k by rw [← BitVec.shiftLeft_add, Nat.add_comm], itB_shl k (y <<< 1) (by rw [e]; exact h2), stB_shl (by omega)]
theorem crcB_inj {x y : BitVec 32} {c : UInt8} (h : crcB x c = crcB y c) : x = y := by
  have := itB_inj h
  have := congrArg (· ^^^ c.toBitVec.setWidth 32) this
  simpa [BitVec.xor_assoc] using this
theorem crc_fold_inj {x y : BitVec 32} : ∀ {l : List UInt8}, l.foldl crcB x = l.foldl crcB y → x = y
  | [], h => h
  | c :: l, h => crcB_inj (crc_fold_inj (l := l) h)
/-- one byte back: the states' difference ahead of a byte, from the one behind it -/
theorem crc_back {n n' : BitVec 32} {a c : UInt8} {d : BitVec 32} (h : crcB n a ^^^ crcB n' (a ^^^ c) = d) (hd : d.toNat < 16777216) : n ^^^ n' = c.toBitVec.setWidth 32 ^^^ d <<< 8 := by
  have e : itB 8 ((n ^^^ a.toBitVec.setWidth 32) ^^^ (n' ^^^ (a ^^^ c).toBitVec.setWidth 32)) = itB 8 (d <<< 8) := by
    rw [itB_xor, itB_shl 8 d (by omega)]
    exact h
  have e2 := itB_inj e
  have e3 : (a ^^^ c).toBitVec.setWidth 32 = a.toBitVec.setWidth 32 ^^^ c.toBitVec.setWidth 32 := by
    rw [UInt8.toBitVec_xor]
    apply BitVec.eq_of_getLsbD_eq
    intro i hi
    simp [BitVec.getLsbD_setWidth]
  rw [e3] at e2
  rw [← e2]
  have : n ^^^ n' = n ^^^ n' ^^^ (a.toBitVec.setWidth 32 ^^^ a.toBitVec.setWidth 32) := by rw [BitVec.xor_self, BitVec.xor_zero]
  have k : c.toBitVec.setWidth 32 ^^^ (n ^^^ a.toBitVec.setWidth 32 ^^^ (n' ^^^ (a.toBitVec.setWidth 32 ^^^ c.toBitVec.setWidth 32))) = (n ^^^ n') ^^^ (a.toBitVec.setWidth 32 ^^^ a.toBitVec.setWidth 32) ^^^ (c.toBitVec.setWidth 32 ^^^ c.toBitVec.setWidth 32) := by ac_rfl
  rw [k, BitVec.xor_self, BitVec.xor_self, BitVec.xor_zero, BitVec.xor_zero]
theorem byte_w (c : UInt8) : (c.toBitVec.setWidth 32).toNat = c.toNat := by
  rw [BitVec.toNat_setWidth]
  have := c.toNat_lt
  show c.toNat % _ = _
  omega
theorem shl8_nat (d : BitVec 32) (h : d.toNat < 16777216) : (d <<< 8).toNat = d.toNat * 256 := by
  simp only [BitVec.toNat_shiftLeft, Nat.shiftLeft_eq]
  omega
theorem cat_lt (c : UInt8) (d : BitVec 32) (k : Nat) (hk : k ≤ 2) (h : d.toNat < 2 ^ (8 * k)) : (c.toBitVec.setWidth 32 ^^^ d <<< 8).toNat < 2 ^ (8 * (k + 1)) := by
  have hp : 2 ^ (8 * k) ≤ 2 ^ 16 := Nat.pow_le_pow_right (by omega) (by omega)
  have hp2 : 2 ^ 8 ≤ 2 ^ (8 * (k + 1)) := Nat.pow_le_pow_right (by omega) (by omega)
  have hp3 : 2 ^ (8 * (k + 1)) = 2 ^ (8 * k) * 256 := by rw [Nat.mul_add, Nat.pow_add]
  have := c.toNat_lt
  rw [BitVec.toNat_xor, byte_w, shl8_nat d (by omega)]
  exact Nat.xor_lt_two_pow (by omega) (by omega)
theorem cat_zero {c : UInt8} {d : BitVec 32} (hd : d.toNat < 16777216) (h : c.toBitVec.setWidth 32 ^^^ d <<< 8 = 0#32) : c = 0 ∧ d = 0#32 := by
  have e := congrArg BitVec.toNat (xor_eq_zero h)
  rw [byte_w, shl8_nat d hd] at e
  have := c.toNat_lt
  exact ⟨UInt8.toNat_inj.1 (by show c.toNat = 0; omega), BitVec.eq_of_toNat_eq (by show d.toNat = 0; omega)⟩
theorem crc_burst {n : BitVec 32} {a0 a1 a2 a3 c0 c1 c2 c3 : UInt8} (h : crcB (crcB (crcB (crcB n a0) a1) a2) a3 = crcB (crcB (crcB (crcB n (a0 ^^^ c0)) (a1 ^^^ c1)) (a2 ^^^ c2)) (a3 ^^^ c3)) :
    c0 = 0 ∧ c1 = 0 ∧ c2 = 0 ∧ c3 = 0 := by
  have h4 := crc_back (d := 0#32) (by rw [h, BitVec.xor_self]) (by decide)
  have l4 := cat_lt c3 0#32 0 (by omega) (by decide)
  have h3 := crc_back h4 (by omega)
  have l3 := cat_lt c2 _ 1 (by omega) l4
  have h2 := crc_back h3 (by omega)
  have l2 := cat_lt c1 _ 2 (by omega) l3
  have h1 := crc_back h2 (by omega)
  rw [BitVec.xor_self] at h1
  obtain ⟨z0, y0⟩ := cat_zero (by omega) h1.symm
  obtain ⟨z1, y1⟩ := cat_zero (by omega) y0
  obtain ⟨z2, y2⟩ := cat_zero (by omega) y1
  obtain ⟨z3, _⟩ := cat_zero (by decide) y2
  exact ⟨z0, z1, z2, z3⟩
/-- the bytes with some of them changed -/
def setB (b : List UInt8) (at' : Nat) (ch : List UInt8) : Nat → List UInt8
  | 0 => b
  | k + 1 => (setB b at' ch k).set (at' + k) ((setB b at' ch k).getD (at' + k) 0 ^^^ ch.getD k 0)
theorem setB_len (b : List UInt8) (at' : Nat) (ch : List UInt8) : ∀ k, (setB b at' ch k).length = b.length
  | 0 => rfl
  | k + 1 => by rw [setB, List.length_set, setB_len b at' ch k]
theorem set_at (p s : List UInt8) (x y : UInt8) (n : Nat) (h : n = p.length) : (p ++ x :: s).set n y = p ++ y :: s := by
  subst h
  rw [List.set_append_right _ _ (Nat.le_refl _), Nat.sub_self]
  rfl
theorem get_at (p s : List UInt8) (x : UInt8) (n : Nat) (h : n = p.length) : (p ++ x :: s).getD n 0 = x := by
  subst h
  rw [List.getD_eq_getElem?_getD, List.getElem?_append_right (Nat.le_refl _), Nat.sub_self]
  rfl
theorem burst (p s : List UInt8) (a0 a1 a2 a3 c0 c1 c2 c3 : UInt8) (h : ¬ (c0 = 0 ∧ c1 = 0 ∧ c2 = 0 ∧ c3 = 0)) :
    checkB (setB (p ++ a0 :: a1 :: a2 :: a3 :: s) p.length [c0, c1, c2, c3] 4) ≠ checkB (p ++ a0 :: a1 :: a2 :: a3 :: s) := by
  have e1 : setB (p ++ a0 :: a1 :: a2 :: a3 :: s) p.length [c0, c1, c2, c3] 1 = p ++ (a0 ^^^ c0) :: a1 :: a2 :: a3 :: s := by
    rw [setB, setB, Nat.add_zero, get_at _ _ _ _ rfl, set_at _ _ _ _ _ rfl]
    rfl
  have e2 : setB (p ++ a0 :: a1 :: a2 :: a3 :: s) p.length [c0, c1, c2, c3] 2 = p ++ (a0 ^^^ c0) :: (a1 ^^^ c1) :: a2 :: a3 :: s := by
    rw [setB, e1, show p ++ (a0 ^^^ c0) :: a1 :: a2 :: a3 :: s = (p ++ [a0 ^^^ c0]) ++ a1 :: a2 :: a3 :: s by simp, get_at _ _ _ _ (by simp), set_at _ _ _ _ _ (by simp)]
    simp
  have e3 : setB (p ++ a0 :: a1 :: a2 :: a3 :: s) p.length [c0, c1, c2, c3] 3 = p ++ (a0 ^^^ c0) :: (a1 ^^^ c1) :: (a2 ^^^ c2) :: a3 :: s := by
    rw [setB, e2, show p ++ (a0 ^^^ c0) :: (a1 ^^^ c1) :: a2 :: a3 :: s = (p ++ [a0 ^^^ c0, a1 ^^^ c1]) ++ a2 :: a3 :: s by simp, get_at _ _ _ _ (by simp), set_at _ _ _ _ _ (by simp)]
    simp
  have e4 : setB (p ++ a0 :: a1 :: a2 :: a3 :: s) p.length [c0, c1, c2, c3] 4 = p ++ (a0 ^^^ c0) :: (a1 ^^^ c1) :: (a2 ^^^ c2) :: (a3 ^^^ c3) :: s := by
    rw [setB, e3, show p ++ (a0 ^^^ c0) :: (a1 ^^^ c1) :: (a2 ^^^ c2) :: a3 :: s = (p ++ [a0 ^^^ c0, a1 ^^^ c1, a2 ^^^ c2]) ++ a3 :: s by simp, get_at _ _ _ _ (by simp), set_at _ _ _ _ _ (by simp)]
    simp
  intro he
  rw [e4] at he
  unfold checkB at he
  rw [List.foldl_append, List.foldl_append] at he
  simp only [List.foldl_cons] at he
  exact h (crc_burst (crc_fold_inj he).symm)
theorem burst_at (b : List UInt8) (at' : Nat) (ch : List UInt8) (hc : ch.length = 4) (hat : at' + 4 ≤ b.length) (hne : ch ≠ [0, 0, 0, 0]) : checkB (setB b at' ch 4) ≠ checkB b := by
  match ch, hc, hne with
  | [c0, c1, c2, c3], _, hne =>
    have hb : b = b.take at' ++ b.drop at' := (List.take_append_drop _ _).symm
    have hl : (b.drop at').length = b.length - at' := List.length_drop
    match hd : b.drop at', hl with
    | a0 :: a1 :: a2 :: a3 :: s, _ =>
      rw [hd] at hb
      have hp : at' = (b.take at').length := by rw [List.length_take]; omega
      have := burst (b.take at') s a0 a1 a2 a3 c0 c1 c2 c3 (fun ⟨h0, h1, h2, h3⟩ => hne (by rw [h0, h1, h2, h3]))
      rw [← hb, ← hp] at this
      exact this
    | [], hl => simp at hl; omega
    | [_], hl => simp at hl; omega
    | [_, _], hl => simp at hl; omega
    | [_, _, _], hl => simp at hl; omega
theorem law_burst {x y : BitVec 32} (h : x ≠ y) : ((((~~~ x).toNat : Int) != ((~~~ y).toNat : Int)) && true) = true := by
  rw [Bool.and_true, bne_iff_ne]
  intro e
  have e2 : (~~~ x).toNat = (~~~ y).toNat := by omega
  rw [BitVec.toNat_not, BitVec.toNat_not] at e2
  have := x.isLt; have := y.isLt
  exact h (BitVec.eq_of_toNat_eq (by omega))
theorem bytes_ne {c0 c1 c2 c3 : UInt8} (h : ¬ [(c0.toNat : Int), (c1.toNat : Int), (c2.toNat : Int), (c3.toNat : Int)] = [0, 0, 0, 0]) : [c0, c1, c2, c3] ≠ [0, 0, 0, 0] := by
  intro e
  cases e
  exact h rfl
end Dig
