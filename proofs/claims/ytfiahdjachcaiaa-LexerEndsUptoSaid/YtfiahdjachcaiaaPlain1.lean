/- Proved here: plain facts on the functional texts (part 1). -/
import Derived.Test.YtfiahdjachcaiaaFt
set_option linter.unusedVariables false
set_option linter.unusedSimpArgs false
set_option maxHeartbeats 2000000
namespace Go.Ft
open Go
attribute [local congr] ite_c1

theorem w64n {n : Nat} (h : n < 9223372036854775808) : w64 (n : Int) = n := wrap_id (by omega) (by omega)
theorem w64z {n : Int} (h : -9223372036854775808 ≤ n ∧ n < 9223372036854775808) : w64 n = n := wrap_id (by omega) (by omega)
theorem w64a {i j : Nat} (h : i + j < 9223372036854775808) : w64 ((i : Int) + (j : Int)) = ((i + j : Nat) : Int) := by rw [w64z (by omega)]; omega
theorem idxn {α : Type} {l : List α} {i : Nat} (h : i < l.length) : idx l (i : Int) = some (l[i]) := by rw [idx_nat, List.getElem?_eq_getElem h]

def isLetter (c : UInt8) : Bool := (((decide (97 ≤ (c.toNat : Int))) && (decide ((c.toNat : Int) ≤ 122))) || ((decide (65 ≤ (c.toNat : Int))) && (decide ((c.toNat : Int) ≤ 90)))) || ((c.toNat : Int) == 95)
def isDigit (c : UInt8) : Bool := (decide (48 ≤ (c.toNat : Int))) && (decide ((c.toNat : Int) ≤ 57))
def isWord (c : UInt8) : Bool := isLetter c || isDigit c
theorem isDigit_iff {c : UInt8} : isDigit c = true ↔ 48 ≤ c.toNat ∧ c.toNat ≤ 57 := by simp [isDigit]; omega
theorem isLetter_iff {c : UInt8} : isLetter c = true ↔ (97 ≤ c.toNat ∧ c.toNat ≤ 122) ∨ (65 ≤ c.toNat ∧ c.toNat ≤ 90) ∨ c.toNat = 95 := by simp [isLetter]; omega
@[simp] theorem letter_eq (c : UInt8) : lexer_letter c = some (isLetter c) := rfl
@[simp] theorem digit_eq (c : UInt8) : lexer_digit c = some (isDigit c) := rfl
@[simp] theorem rletter_eq (c : UInt8) : r09_letter c = some (isLetter c) := rfl
@[simp] theorem rdigit_eq (c : UInt8) : r09_digit c = some (isDigit c) := rfl
@[simp] theorem name1_eq (c : UInt8) : lexer_name_1 c = some (isWord c) := by
  unfold lexer_name_1 isWord
  simp
  cases isLetter c <;> simp

/-- how many from the head on are of a class -/
def span (p : UInt8 → Bool) (l : Str) : Nat := (l.takeWhile p).length
@[simp] theorem span_nil (p : UInt8 → Bool) : span p [] = 0 := rfl
theorem span_cons (p : UInt8 → Bool) (c : UInt8) (l : Str) : span p (c :: l) = if p c then span p l + 1 else 0 := by
  unfold span; rw [List.takeWhile_cons]; split <;> simp
theorem span_le (p : UInt8 → Bool) (l : Str) : span p l ≤ l.length := by
  induction l with
  | nil => simp
  | cons c l ih => rw [span_cons]; split <;> simp <;> omega

theorem while_eq {p : UInt8 → Bool} {cls : UInt8 → Option Bool} (hc : ∀ c, cls c = some (p c)) (s : Str) (hs : s.length < 4611686018427387904) :
    ∀ (k i : Nat), s.length < k + i → i ≤ s.length → lexer_while_l1 s cls k (i : Int) = some ((i + span p (s.drop i) : Nat) : Int)
  | 0, i, h, h' => by omega
  | k + 1, i, h, h' => by
    rw [lexer_while_l1]
    by_cases hi : i < s.length
    · rw [List.drop_eq_getElem_cons hi, span_cons]
      have h1 : ((i : Int) < (s.length : Int)) := by omega
      simp only [h1, decide_true, if_true, idxn hi, bind1_some, hc]
      cases e : p s[i] with
      | false => simp
      | true =>
        simp only [if_true]
        rw [show (i : Int) + 1 = ((i : Int) + (1 : Nat)) from rfl, w64a (by omega), while_eq hc s hs k (i + 1) (by omega) (by omega)]
        simp only [Option.some.injEq, Int.natCast_inj]
        omega
    · have : i = s.length := by omega
      subst this
      simp
theorem while_ok {p : UInt8 → Bool} {cls : UInt8 → Option Bool} (hc : ∀ c, cls c = some (p c)) {s : Str} (hs : s.length < 4611686018427387904) {i : Nat} (h : i ≤ s.length) :
    lexer_while s (i : Int) cls = some ((i + span p (s.drop i) : Nat) : Int) := while_eq hc s hs BIG i (by unfold BIG; omega) h

theorem digits_eq (s : Str) (hs : s.length < 4611686018427387904) (a : Nat) : ∀ (k n : Nat), s.length < k + (a + n) → a + n ≤ s.length →
    r09_digits_l1 s (a : Int) k (n : Int) = some ((n + span isDigit (s.drop (a + n)) : Nat) : Int)
  | 0, n, h, h' => by omega
  | k + 1, n, h, h' => by
    rw [r09_digits_l1, w64a (by omega)]
    by_cases hi : a + n < s.length
    · rw [List.drop_eq_getElem_cons hi, span_cons]
      have h1 : (((a + n : Nat) : Int) < (s.length : Int)) := by omega
      simp only [h1, decide_true, if_true, idxn hi, bind1_some, rdigit_eq]
      cases e : isDigit s[a + n] with
      | false => simp
      | true =>
        simp only [if_true]
        rw [show (n : Int) + 1 = ((n : Int) + (1 : Nat)) from rfl, w64a (by omega), digits_eq s hs a k (n + 1) (by omega) (by omega)]
        simp only [Option.some.injEq, Int.natCast_inj]
        rw [show a + (n + 1) = a + n + 1 from rfl]
        omega
    · have e : a + n = s.length := by omega
      rw [e]
      simp
theorem word_eq (s : Str) (hs : s.length < 4611686018427387904) (a : Nat) : ∀ (k n : Nat), s.length < k + (a + n) → a + n ≤ s.length →
    r09_word_l1 s (a : Int) k (n : Int) = some ((n + span isWord (s.drop (a + n)) : Nat) : Int)
  | 0, n, h, h' => by omega
  | k + 1, n, h, h' => by
    rw [r09_word_l1, w64a (by omega)]
    by_cases hi : a + n < s.length
    · rw [List.drop_eq_getElem_cons hi, span_cons]
      have h1 : (((a + n : Nat) : Int) < (s.length : Int)) := by omega
      simp only [h1, decide_true, if_true, idxn hi, bind1_some, rdigit_eq, rletter_eq]
      have e : (if isLetter s[a + n] = true then some true else some (isDigit s[a + n])) = some (isWord s[a + n]) := by
        unfold isWord; cases isLetter s[a + n] <;> simp
      rw [e]
      simp only [bind1_some]
      cases e : isWord s[a + n] with
      | false => simp
      | true =>
        simp only [if_true]
        rw [show (n : Int) + 1 = ((n : Int) + (1 : Nat)) from rfl, w64a (by omega), word_eq s hs a k (n + 1) (by omega) (by omega)]
        simp only [Option.some.injEq, Int.natCast_inj]
        rw [show a + (n + 1) = a + n + 1 from rfl]
        omega
    · have e : a + n = s.length := by omega
      rw [e]
      simp
theorem digits_ok {s : Str} (hs : s.length < 4611686018427387904) {a : Nat} (h : a ≤ s.length) : r09_digits s (a : Int) = some ((span isDigit (s.drop a) : Nat) : Int) := by
  have := digits_eq s hs a BIG 0 (by unfold BIG; omega) (by omega)
  simpa [r09_digits] using this
theorem word_ok {s : Str} (hs : s.length < 4611686018427387904) {a : Nat} (h : a ≤ s.length) : r09_word s (a : Int) = some ((span isWord (s.drop a) : Nat) : Int) := by
  have := word_eq s hs a BIG 0 (by unfold BIG; omega) (by omega)
  simpa [r09_word] using this

/-! hexadecimal digits, characters -/
def hexv (c : UInt8) : Option Nat := if isDigit c then some (c.toNat - 48) else if 97 ≤ c.toNat ∧ c.toNat ≤ 102 then some (c.toNat - 87) else if 65 ≤ c.toNat ∧ c.toNat ≤ 70 then some (c.toNat - 55) else none
def hexI (c : UInt8) : Int := match hexv c with | some n => n | none => -1
theorem hexv_lt {c : UInt8} {n : Nat} (h : hexv c = some n) : n < 16 := by
  unfold hexv at h
  split at h
  · rename_i hd; rw [isDigit_iff] at hd; cases h; omega
  · split at h
    · cases h; omega
    · split at h
      · cases h; omega
      · cases h
theorem sub_nat {c d : UInt8} (h : d.toNat ≤ c.toNat) : (c - d).toNat = c.toNat - d.toNat := UInt8.toNat_sub_of_le c d (UInt8.le_iff_toNat_le.2 h)
theorem hex_eq (c : UInt8) : lexer_hex c = some (hexI c) := by
  have hlt := c.toNat_lt
  unfold lexer_hex hexI hexv
  simp only [digit_eq, bind1_some]
  by_cases hd : isDigit c = true
  · simp only [hd, if_true]
    rw [isDigit_iff] at hd
    rw [sub_nat (by simpa using hd.1)]
    rfl
  · simp only [Bool.not_eq_true] at hd
    simp only [hd, Bool.false_eq_true, if_false]
    by_cases h1 : 97 ≤ c.toNat ∧ c.toNat ≤ 102
    · rw [if_pos (by simp; omega), if_pos h1, sub_nat (by simpa using h1.1)]
      have : (97 : UInt8).toNat = 97 := rfl
      rw [this, w64z (by omega)]
      simp only [Option.some.injEq]; omega
    · rw [if_neg (by simp; omega), if_neg h1]
      by_cases h2 : 65 ≤ c.toNat ∧ c.toNat ≤ 70
      · rw [if_pos (by simp; omega), if_pos h2, sub_nat (by simpa using h2.1)]
        have : (65 : UInt8).toNat = 65 := rfl
        rw [this, w64z (by omega)]
        simp only [Option.some.injEq]; omega
      · rw [if_neg (by simp; omega), if_neg h2]
theorem rhex_eq (c : UInt8) : r09_hex c = some (hexI c) := by
  have hlt := c.toNat_lt
  unfold r09_hex hexI hexv
  simp only [rdigit_eq, bind1_some]
  by_cases hd : isDigit c = true
  · simp only [hd, if_true]
    rw [isDigit_iff] at hd
    rw [w64z (by omega)]
    simp only [Option.some.injEq]; omega
  · simp only [Bool.not_eq_true] at hd
    simp only [hd, Bool.false_eq_true, if_false]
    by_cases h1 : 97 ≤ c.toNat ∧ c.toNat ≤ 102
    · rw [if_pos (by simp; omega), if_pos h1, w64z (by omega)]
      simp only [Option.some.injEq]; omega
    · rw [if_neg (by simp; omega), if_neg h1]
      by_cases h2 : 65 ≤ c.toNat ∧ c.toNat ≤ 70
      · rw [if_pos (by simp; omega), if_pos h2, w64z (by omega)]
        simp only [Option.some.injEq]; omega
      · rw [if_neg (by simp; omega), if_neg h2]
theorem hexI_some {c : UInt8} {n : Nat} (h : hexv c = some n) : hexI c = n := by unfold hexI; rw [h]
theorem hexI_none {c : UInt8} (h : hexv c = none) : hexI c = -1 := by unfold hexI; rw [h]

/-- a character of a literal: the byte, how many bytes, the error -/
def chr : Str → UInt8 × Nat × Int
  | [] => (0, 0, 5)
  | c :: r => if c.toNat < 32 then (0, 0, 5) else if c.toNat ≠ 92 then (c, 1, 0) else
    match r with
    | [] => (0, 0, 4)
    | d :: r => if d.toNat = 34 ∨ d.toNat = 92 then (d, 2, 0) else if d.toNat = 110 then (10, 2, 0) else if d.toNat = 116 then (9, 2, 0) else if d.toNat = 120 then
        match r with
        | [] => (0, 0, 4)
        | a :: r => match hexv a with
          | none => (0, 0, 5)
          | some x => match r with
            | [] => (0, 0, 4)
            | b :: _ => match hexv b with
              | none => (0, 0, 5)
              | some y => (UInt8.ofNat (16 * x + y), 4, 0)
      else (0, 0, 5)
theorem chr_n : ∀ {l : Str}, (chr l).2.2 = 0 → 0 < (chr l).2.1 ∧ (chr l).2.1 ≤ l.length
  | [], h => by simp [chr] at h
  | c :: r, h => by
    unfold chr at h ⊢
    by_cases h1 : c.toNat < 32
    · simp [h1] at h
    · by_cases h2 : c.toNat ≠ 92
      · simp [h1, h2]
      · simp only [h1, h2, if_false] at h ⊢
        cases r with
        | nil => simp at h
        | cons d r =>
          simp only at h ⊢
          by_cases h3 : d.toNat = 34 ∨ d.toNat = 92
          · simp [h3]
          · by_cases h4 : d.toNat = 110
            · simp [h4]
            · by_cases h5 : d.toNat = 116
              · simp [h5]
              · by_cases h6 : d.toNat = 120
                · simp only [h3, h4, h5, h6, if_false, if_true] at h ⊢
                  cases r with
                  | nil => simp at h
                  | cons a r =>
                    simp only at h ⊢
                    cases ha : hexv a with
                    | none => simp [ha] at h
                    | some x =>
                      simp only [ha] at h ⊢
                      cases r with
                      | nil => simp at h
                      | cons b r =>
                        simp only at h ⊢
                        cases hb : hexv b with
                        | none => simp [hb] at h
                        | some y => simp
                · simp [h3, h4, h5, h6] at h


theorem getD_drop {s : Str} {i : Nat} (h : i < s.length) : s.drop i = s.getD i 0 :: s.drop (i + 1) := by
  rw [List.drop_eq_getElem_cons h, List.getD_eq_getElem?_getD, List.getElem?_eq_getElem h, Option.getD_some]
theorem dflt : (default : UInt8) = 0 := rfl

theorem resc_eq {s : Str} (hs : s.length < 4611686018427387904) {i : Nat} (hi : i + 1 < s.length) (h1 : (s.getD i 0).toNat = 92) (h2 : (s.getD (i + 1) 0).toNat = 120) :
    r09_escaped s (i : Int) = some ((chr (s.drop i)).1, ((chr (s.drop i)).2.1 : Int), (chr (s.drop i)).2.2) := by
  rw [getD_drop (by omega), getD_drop hi]
  unfold chr
  unfold r09_escaped
  obtain ⟨m, hm⟩ : ∃ m, BIG = m + 3 := ⟨BIG - 3, rfl⟩
  rw [hm]
  by_cases h4 : i + 2 < s.length
  · rw [getD_drop (by omega : i + 1 + 1 < s.length)]
    simp (disch := omega) only [r09_escaped_l1, rhex_eq, dflt, h2, w64_ok, idx_ok, sl_ok, app_ok, chk_ok, if_pos, if_neg, bind1_some, bind2_some, bind3_some, bind4_some, bind5_some, bind1_none, bind2_none, bind3_none, decide_eq_true_eq, beq_iff_eq, bne_iff_ne, ne_eq, Bool.and_eq_true, Bool.or_eq_true, Bool.not_eq_true', Bool.not_eq_true, decide_eq_false_iff_not, beq_eq_false_iff_ne, bne_eq_false_iff_eq, Int.toNat_add, Int.toNat_natCast, Int.reduceToNat, Int.zero_add, Int.add_zero, Nat.add_zero, Nat.zero_add, Bool.true_and, Bool.and_true, Bool.false_and, Bool.and_false, Bool.true_or, Bool.or_true, Bool.false_or, Bool.or_false, Bool.not_true, Bool.not_false, Bool.false_eq_true, Bool.true_eq_false, reduceCtorEq, not_true_eq_false, not_false_eq_true, if_true, if_false, decide_true, decide_false]
    cases ha : hexv (s.getD (i + 1 + 1) 0) with
    | none => simp (disch := omega) only [hexI_none ha, w64_ok, idx_ok, sl_ok, app_ok, chk_ok, if_pos, if_neg, bind1_some, bind2_some, bind3_some, bind4_some, bind5_some, bind1_none, bind2_none, bind3_none, decide_eq_true_eq, beq_iff_eq, bne_iff_ne, ne_eq, Bool.and_eq_true, Bool.or_eq_true, Bool.not_eq_true', Bool.not_eq_true, decide_eq_false_iff_not, beq_eq_false_iff_ne, bne_eq_false_iff_eq, Int.toNat_add, Int.toNat_natCast, Int.reduceToNat, Int.zero_add, Int.add_zero, Nat.add_zero, Nat.zero_add, Bool.true_and, Bool.and_true, Bool.false_and, Bool.and_false, Bool.true_or, Bool.or_true, Bool.false_or, Bool.or_false, Bool.not_true, Bool.not_false, Bool.false_eq_true, Bool.true_eq_false, reduceCtorEq, not_true_eq_false, not_false_eq_true, if_true, if_false, decide_true, decide_false]; rfl
    | some x =>
      have hx := hexv_lt ha
      by_cases h5 : i + 3 < s.length
      · rw [getD_drop (by omega : i + 1 + 1 + 1 < s.length)]
        simp (disch := omega) only [r09_escaped_l1, rhex_eq, dflt, hexI_some ha, w64_ok, idx_ok, sl_ok, app_ok, chk_ok, if_pos, if_neg, bind1_some, bind2_some, bind3_some, bind4_some, bind5_some, bind1_none, bind2_none, bind3_none, decide_eq_true_eq, beq_iff_eq, bne_iff_ne, ne_eq, Bool.and_eq_true, Bool.or_eq_true, Bool.not_eq_true', Bool.not_eq_true, decide_eq_false_iff_not, beq_eq_false_iff_ne, bne_eq_false_iff_eq, Int.toNat_add, Int.toNat_natCast, Int.reduceToNat, Int.zero_add, Int.add_zero, Nat.add_zero, Nat.zero_add, Bool.true_and, Bool.and_true, Bool.false_and, Bool.and_false, Bool.true_or, Bool.or_true, Bool.false_or, Bool.or_false, Bool.not_true, Bool.not_false, Bool.false_eq_true, Bool.true_eq_false, reduceCtorEq, not_true_eq_false, not_false_eq_true, if_true, if_false, decide_true, decide_false]
        cases hb : hexv (s.getD (i + 1 + 1 + 1) 0) with
        | none => simp (disch := omega) only [hexI_none hb, w64_ok, idx_ok, sl_ok, app_ok, chk_ok, if_pos, if_neg, bind1_some, bind2_some, bind3_some, bind4_some, bind5_some, bind1_none, bind2_none, bind3_none, decide_eq_true_eq, beq_iff_eq, bne_iff_ne, ne_eq, Bool.and_eq_true, Bool.or_eq_true, Bool.not_eq_true', Bool.not_eq_true, decide_eq_false_iff_not, beq_eq_false_iff_ne, bne_eq_false_iff_eq, Int.toNat_add, Int.toNat_natCast, Int.reduceToNat, Int.zero_add, Int.add_zero, Nat.add_zero, Nat.zero_add, Bool.true_and, Bool.and_true, Bool.false_and, Bool.and_false, Bool.true_or, Bool.or_true, Bool.false_or, Bool.or_false, Bool.not_true, Bool.not_false, Bool.false_eq_true, Bool.true_eq_false, reduceCtorEq, not_true_eq_false, not_false_eq_true, if_true, if_false, decide_true, decide_false]; rfl
        | some y =>
          have hy := hexv_lt hb
          simp (disch := omega) only [hexI_some hb, r09_escaped_l1, w64_ok, idx_ok, sl_ok, app_ok, chk_ok, if_pos, if_neg, bind1_some, bind2_some, bind3_some, bind4_some, bind5_some, bind1_none, bind2_none, bind3_none, decide_eq_true_eq, beq_iff_eq, bne_iff_ne, ne_eq, Bool.and_eq_true, Bool.or_eq_true, Bool.not_eq_true', Bool.not_eq_true, decide_eq_false_iff_not, beq_eq_false_iff_ne, bne_eq_false_iff_eq, Int.toNat_add, Int.toNat_natCast, Int.reduceToNat, Int.zero_add, Int.add_zero, Nat.add_zero, Nat.zero_add, Bool.true_and, Bool.and_true, Bool.false_and, Bool.and_false, Bool.true_or, Bool.or_true, Bool.false_or, Bool.or_false, Bool.not_true, Bool.not_false, Bool.false_eq_true, Bool.true_eq_false, reduceCtorEq, not_true_eq_false, not_false_eq_true, if_true, if_false, decide_true, decide_false]
          have : byteOf (16 * (16 * 0 + (x : Int)) + (y : Int)) = UInt8.ofNat (16 * x + y) := by
            apply UInt8.toNat_inj.1
            have e1 : ((byteOf (16 * (16 * 0 + (x : Int)) + (y : Int))).toNat : Int) = 16 * (16 * 0 + (x : Int)) + (y : Int) := byteOf_of (by omega) (by omega)
            have e2 : (UInt8.ofNat (16 * x + y)).toNat = 16 * x + y := by simp; omega
            omega
          rw [this]; rfl
      · rw [List.drop_eq_nil_of_le (by omega : s.length ≤ i + 1 + 1 + 1)]
        simp (disch := omega) only [r09_escaped_l1, rhex_eq, dflt, hexI_some ha, w64_ok, idx_ok, sl_ok, app_ok, chk_ok, if_pos, if_neg, bind1_some, bind2_some, bind3_some, bind4_some, bind5_some, bind1_none, bind2_none, bind3_none, decide_eq_true_eq, beq_iff_eq, bne_iff_ne, ne_eq, Bool.and_eq_true, Bool.or_eq_true, Bool.not_eq_true', Bool.not_eq_true, decide_eq_false_iff_not, beq_eq_false_iff_ne, bne_eq_false_iff_eq, Int.toNat_add, Int.toNat_natCast, Int.reduceToNat, Int.zero_add, Int.add_zero, Nat.add_zero, Nat.zero_add, Bool.true_and, Bool.and_true, Bool.false_and, Bool.and_false, Bool.true_or, Bool.or_true, Bool.false_or, Bool.or_false, Bool.not_true, Bool.not_false, Bool.false_eq_true, Bool.true_eq_false, reduceCtorEq, not_true_eq_false, not_false_eq_true, if_true, if_false, decide_true, decide_false]; rfl
  · rw [List.drop_eq_nil_of_le (by omega : s.length ≤ i + 1 + 1)]
    simp (disch := omega) only [r09_escaped_l1, h2, w64_ok, idx_ok, sl_ok, app_ok, chk_ok, if_pos, if_neg, bind1_some, bind2_some, bind3_some, bind4_some, bind5_some, bind1_none, bind2_none, bind3_none, decide_eq_true_eq, beq_iff_eq, bne_iff_ne, ne_eq, Bool.and_eq_true, Bool.or_eq_true, Bool.not_eq_true', Bool.not_eq_true, decide_eq_false_iff_not, beq_eq_false_iff_ne, bne_eq_false_iff_eq, Int.toNat_add, Int.toNat_natCast, Int.reduceToNat, Int.zero_add, Int.add_zero, Nat.add_zero, Nat.zero_add, Bool.true_and, Bool.and_true, Bool.false_and, Bool.and_false, Bool.true_or, Bool.or_true, Bool.false_or, Bool.or_false, Bool.not_true, Bool.not_false, Bool.false_eq_true, Bool.true_eq_false, reduceCtorEq, not_true_eq_false, not_false_eq_true, if_true, if_false, decide_true, decide_false]; rfl
/-- the reference's character -/
theorem rchr_eq {s : Str} (hs : s.length < 4611686018427387904) {i : Nat} (hi : i < s.length) : r09_character s (i : Int) = some ((chr (s.drop i)).1, ((chr (s.drop i)).2.1 : Int), (chr (s.drop i)).2.2) := by
  by_cases h1 : (s.getD i 0).toNat = 92
  · by_cases h2 : i + 1 < s.length
    · by_cases h3 : (s.getD (i + 1) 0).toNat = 120
      · rw [← resc_eq hs h2 h1 h3]
        unfold r09_character
        simp (disch := omega) only [dflt, w64_ok, idx_ok, sl_ok, app_ok, chk_ok, if_pos, if_neg, bind1_some, bind2_some, bind3_some, bind4_some, bind5_some, bind1_none, bind2_none, bind3_none, decide_eq_true_eq, beq_iff_eq, bne_iff_ne, ne_eq, Bool.and_eq_true, Bool.or_eq_true, Bool.not_eq_true', Bool.not_eq_true, decide_eq_false_iff_not, beq_eq_false_iff_ne, bne_eq_false_iff_eq, Int.toNat_add, Int.toNat_natCast, Int.reduceToNat, Int.zero_add, Int.add_zero, Nat.add_zero, Nat.zero_add, Bool.true_and, Bool.and_true, Bool.false_and, Bool.and_false, Bool.true_or, Bool.or_true, Bool.false_or, Bool.or_false, Bool.not_true, Bool.not_false, Bool.false_eq_true, Bool.true_eq_false, reduceCtorEq, not_true_eq_false, not_false_eq_true, if_true, if_false, decide_true, decide_false]
      · rw [getD_drop hi, getD_drop h2]
        unfold r09_character chr
        simp (disch := omega) only [dflt, w64_ok, idx_ok, sl_ok, app_ok, chk_ok, if_pos, if_neg, bind1_some, bind2_some, bind3_some, bind4_some, bind5_some, bind1_none, bind2_none, bind3_none, decide_eq_true_eq, beq_iff_eq, bne_iff_ne, ne_eq, Bool.and_eq_true, Bool.or_eq_true, Bool.not_eq_true', Bool.not_eq_true, decide_eq_false_iff_not, beq_eq_false_iff_ne, bne_eq_false_iff_eq, Int.toNat_add, Int.toNat_natCast, Int.reduceToNat, Int.zero_add, Int.add_zero, Nat.add_zero, Nat.zero_add, Bool.true_and, Bool.and_true, Bool.false_and, Bool.and_false, Bool.true_or, Bool.or_true, Bool.false_or, Bool.or_false, Bool.not_true, Bool.not_false, Bool.false_eq_true, Bool.true_eq_false, reduceCtorEq, not_true_eq_false, not_false_eq_true, if_true, if_false, decide_true, decide_false]
        by_cases d1 : (s.getD (i + 1) 0).toNat = 34
        · simp (disch := omega) only [w64_ok, idx_ok, sl_ok, app_ok, chk_ok, if_pos, if_neg, bind1_some, bind2_some, bind3_some, bind4_some, bind5_some, bind1_none, bind2_none, bind3_none, decide_eq_true_eq, beq_iff_eq, bne_iff_ne, ne_eq, Bool.and_eq_true, Bool.or_eq_true, Bool.not_eq_true', Bool.not_eq_true, decide_eq_false_iff_not, beq_eq_false_iff_ne, bne_eq_false_iff_eq, Int.toNat_add, Int.toNat_natCast, Int.reduceToNat, Int.zero_add, Int.add_zero, Nat.add_zero, Nat.zero_add, Bool.true_and, Bool.and_true, Bool.false_and, Bool.and_false, Bool.true_or, Bool.or_true, Bool.false_or, Bool.or_false, Bool.not_true, Bool.not_false, Bool.false_eq_true, Bool.true_eq_false, reduceCtorEq, not_true_eq_false, not_false_eq_true, if_true, if_false, decide_true, decide_false]; rfl
        · by_cases d2 : (s.getD (i + 1) 0).toNat = 92
          · simp (disch := omega) only [w64_ok, idx_ok, sl_ok, app_ok, chk_ok, if_pos, if_neg, bind1_some, bind2_some, bind3_some, bind4_some, bind5_some, bind1_none, bind2_none, bind3_none, decide_eq_true_eq, beq_iff_eq, bne_iff_ne, ne_eq, Bool.and_eq_true, Bool.or_eq_true, Bool.not_eq_true', Bool.not_eq_true, decide_eq_false_iff_not, beq_eq_false_iff_ne, bne_eq_false_iff_eq, Int.toNat_add, Int.toNat_natCast, Int.reduceToNat, Int.zero_add, Int.add_zero, Nat.add_zero, Nat.zero_add, Bool.true_and, Bool.and_true, Bool.false_and, Bool.and_false, Bool.true_or, Bool.or_true, Bool.false_or, Bool.or_false, Bool.not_true, Bool.not_false, Bool.false_eq_true, Bool.true_eq_false, reduceCtorEq, not_true_eq_false, not_false_eq_true, if_true, if_false, decide_true, decide_false]; rfl
          · by_cases d3 : (s.getD (i + 1) 0).toNat = 110
            · simp (disch := omega) only [w64_ok, idx_ok, sl_ok, app_ok, chk_ok, if_pos, if_neg, bind1_some, bind2_some, bind3_some, bind4_some, bind5_some, bind1_none, bind2_none, bind3_none, decide_eq_true_eq, beq_iff_eq, bne_iff_ne, ne_eq, Bool.and_eq_true, Bool.or_eq_true, Bool.not_eq_true', Bool.not_eq_true, decide_eq_false_iff_not, beq_eq_false_iff_ne, bne_eq_false_iff_eq, Int.toNat_add, Int.toNat_natCast, Int.reduceToNat, Int.zero_add, Int.add_zero, Nat.add_zero, Nat.zero_add, Bool.true_and, Bool.and_true, Bool.false_and, Bool.and_false, Bool.true_or, Bool.or_true, Bool.false_or, Bool.or_false, Bool.not_true, Bool.not_false, Bool.false_eq_true, Bool.true_eq_false, reduceCtorEq, not_true_eq_false, not_false_eq_true, if_true, if_false, decide_true, decide_false]; rfl
            · by_cases d4 : (s.getD (i + 1) 0).toNat = 116
              · simp (disch := omega) only [w64_ok, idx_ok, sl_ok, app_ok, chk_ok, if_pos, if_neg, bind1_some, bind2_some, bind3_some, bind4_some, bind5_some, bind1_none, bind2_none, bind3_none, decide_eq_true_eq, beq_iff_eq, bne_iff_ne, ne_eq, Bool.and_eq_true, Bool.or_eq_true, Bool.not_eq_true', Bool.not_eq_true, decide_eq_false_iff_not, beq_eq_false_iff_ne, bne_eq_false_iff_eq, Int.toNat_add, Int.toNat_natCast, Int.reduceToNat, Int.zero_add, Int.add_zero, Nat.add_zero, Nat.zero_add, Bool.true_and, Bool.and_true, Bool.false_and, Bool.and_false, Bool.true_or, Bool.or_true, Bool.false_or, Bool.or_false, Bool.not_true, Bool.not_false, Bool.false_eq_true, Bool.true_eq_false, reduceCtorEq, not_true_eq_false, not_false_eq_true, if_true, if_false, decide_true, decide_false]; rfl
              · simp (disch := omega) only [w64_ok, idx_ok, sl_ok, app_ok, chk_ok, if_pos, if_neg, bind1_some, bind2_some, bind3_some, bind4_some, bind5_some, bind1_none, bind2_none, bind3_none, decide_eq_true_eq, beq_iff_eq, bne_iff_ne, ne_eq, Bool.and_eq_true, Bool.or_eq_true, Bool.not_eq_true', Bool.not_eq_true, decide_eq_false_iff_not, beq_eq_false_iff_ne, bne_eq_false_iff_eq, Int.toNat_add, Int.toNat_natCast, Int.reduceToNat, Int.zero_add, Int.add_zero, Nat.add_zero, Nat.zero_add, Bool.true_and, Bool.and_true, Bool.false_and, Bool.and_false, Bool.true_or, Bool.or_true, Bool.false_or, Bool.or_false, Bool.not_true, Bool.not_false, Bool.false_eq_true, Bool.true_eq_false, reduceCtorEq, not_true_eq_false, not_false_eq_true, if_true, if_false, decide_true, decide_false]; rfl
    · rw [getD_drop hi, List.drop_eq_nil_of_le (by omega : s.length ≤ i + 1)]
      unfold r09_character chr
      simp (disch := omega) only [dflt, w64_ok, idx_ok, sl_ok, app_ok, chk_ok, if_pos, if_neg, bind1_some, bind2_some, bind3_some, bind4_some, bind5_some, bind1_none, bind2_none, bind3_none, decide_eq_true_eq, beq_iff_eq, bne_iff_ne, ne_eq, Bool.and_eq_true, Bool.or_eq_true, Bool.not_eq_true', Bool.not_eq_true, decide_eq_false_iff_not, beq_eq_false_iff_ne, bne_eq_false_iff_eq, Int.toNat_add, Int.toNat_natCast, Int.reduceToNat, Int.zero_add, Int.add_zero, Nat.add_zero, Nat.zero_add, Bool.true_and, Bool.and_true, Bool.false_and, Bool.and_false, Bool.true_or, Bool.or_true, Bool.false_or, Bool.or_false, Bool.not_true, Bool.not_false, Bool.false_eq_true, Bool.true_eq_false, reduceCtorEq, not_true_eq_false, not_false_eq_true, if_true, if_false, decide_true, decide_false]; rfl
  · rw [getD_drop hi]
    unfold r09_character chr
    by_cases h2 : (s.getD i 0).toNat < 32
    · simp (disch := omega) only [dflt, w64_ok, idx_ok, sl_ok, app_ok, chk_ok, if_pos, if_neg, bind1_some, bind2_some, bind3_some, bind4_some, bind5_some, bind1_none, bind2_none, bind3_none, decide_eq_true_eq, beq_iff_eq, bne_iff_ne, ne_eq, Bool.and_eq_true, Bool.or_eq_true, Bool.not_eq_true', Bool.not_eq_true, decide_eq_false_iff_not, beq_eq_false_iff_ne, bne_eq_false_iff_eq, Int.toNat_add, Int.toNat_natCast, Int.reduceToNat, Int.zero_add, Int.add_zero, Nat.add_zero, Nat.zero_add, Bool.true_and, Bool.and_true, Bool.false_and, Bool.and_false, Bool.true_or, Bool.or_true, Bool.false_or, Bool.or_false, Bool.not_true, Bool.not_false, Bool.false_eq_true, Bool.true_eq_false, reduceCtorEq, not_true_eq_false, not_false_eq_true, if_true, if_false, decide_true, decide_false]; rfl
    · simp (disch := omega) only [dflt, w64_ok, idx_ok, sl_ok, app_ok, chk_ok, if_pos, if_neg, bind1_some, bind2_some, bind3_some, bind4_some, bind5_some, bind1_none, bind2_none, bind3_none, decide_eq_true_eq, beq_iff_eq, bne_iff_ne, ne_eq, Bool.and_eq_true, Bool.or_eq_true, Bool.not_eq_true', Bool.not_eq_true, decide_eq_false_iff_not, beq_eq_false_iff_ne, bne_eq_false_iff_eq, Int.toNat_add, Int.toNat_natCast, Int.reduceToNat, Int.zero_add, Int.add_zero, Nat.add_zero, Nat.zero_add, Bool.true_and, Bool.and_true, Bool.false_and, Bool.and_false, Bool.true_or, Bool.or_true, Bool.false_or, Bool.or_false, Bool.not_true, Bool.not_false, Bool.false_eq_true, Bool.true_eq_false, reduceCtorEq, not_true_eq_false, not_false_eq_true, if_true, if_false, decide_true, decide_false]; rfl

theorem lesc_eq {s : Str} (hs : s.length < 4611686018427387904) {i : Nat} (hi : i < s.length) (h1 : (s.getD i 0).toNat = 92) :
    lexer_escaped s (i : Int) = some ((chr (s.drop i)).1, ((chr (s.drop i)).2.1 : Int)) := by
  unfold lexer_escaped
  rw [getD_drop hi]
  unfold chr
  by_cases h2 : i + 1 < s.length
  · rw [getD_drop h2]
    simp (disch := omega) only [dflt, w64_ok, idx_ok, sl_ok, app_ok, chk_ok, if_pos, if_neg, bind1_some, bind2_some, bind3_some, bind4_some, bind5_some, bind1_none, bind2_none, bind3_none, decide_eq_true_eq, beq_iff_eq, bne_iff_ne, ne_eq, Bool.and_eq_true, Bool.or_eq_true, Bool.not_eq_true', Bool.not_eq_true, decide_eq_false_iff_not, beq_eq_false_iff_ne, bne_eq_false_iff_eq, Int.toNat_add, Int.toNat_natCast, Int.reduceToNat, Int.zero_add, Int.add_zero, Nat.add_zero, Nat.zero_add, Bool.true_and, Bool.and_true, Bool.false_and, Bool.and_false, Bool.true_or, Bool.or_true, Bool.false_or, Bool.or_false, Bool.not_true, Bool.not_false, Bool.false_eq_true, Bool.true_eq_false, reduceCtorEq, not_true_eq_false, not_false_eq_true, if_true, if_false, decide_true, decide_false]
    by_cases d1 : (s.getD (i + 1) 0).toNat = 34
    · simp (disch := omega) only [w64_ok, idx_ok, sl_ok, app_ok, chk_ok, if_pos, if_neg, bind1_some, bind2_some, bind3_some, bind4_some, bind5_some, bind1_none, bind2_none, bind3_none, decide_eq_true_eq, beq_iff_eq, bne_iff_ne, ne_eq, Bool.and_eq_true, Bool.or_eq_true, Bool.not_eq_true', Bool.not_eq_true, decide_eq_false_iff_not, beq_eq_false_iff_ne, bne_eq_false_iff_eq, Int.toNat_add, Int.toNat_natCast, Int.reduceToNat, Int.zero_add, Int.add_zero, Nat.add_zero, Nat.zero_add, Bool.true_and, Bool.and_true, Bool.false_and, Bool.and_false, Bool.true_or, Bool.or_true, Bool.false_or, Bool.or_false, Bool.not_true, Bool.not_false, Bool.false_eq_true, Bool.true_eq_false, reduceCtorEq, not_true_eq_false, not_false_eq_true, if_true, if_false, decide_true, decide_false]; rfl
    · by_cases d2 : (s.getD (i + 1) 0).toNat = 92
      · simp (disch := omega) only [w64_ok, idx_ok, sl_ok, app_ok, chk_ok, if_pos, if_neg, bind1_some, bind2_some, bind3_some, bind4_some, bind5_some, bind1_none, bind2_none, bind3_none, decide_eq_true_eq, beq_iff_eq, bne_iff_ne, ne_eq, Bool.and_eq_true, Bool.or_eq_true, Bool.not_eq_true', Bool.not_eq_true, decide_eq_false_iff_not, beq_eq_false_iff_ne, bne_eq_false_iff_eq, Int.toNat_add, Int.toNat_natCast, Int.reduceToNat, Int.zero_add, Int.add_zero, Nat.add_zero, Nat.zero_add, Bool.true_and, Bool.and_true, Bool.false_and, Bool.and_false, Bool.true_or, Bool.or_true, Bool.false_or, Bool.or_false, Bool.not_true, Bool.not_false, Bool.false_eq_true, Bool.true_eq_false, reduceCtorEq, not_true_eq_false, not_false_eq_true, if_true, if_false, decide_true, decide_false]; rfl
      · by_cases d3 : (s.getD (i + 1) 0).toNat = 110
        · simp (disch := omega) only [w64_ok, idx_ok, sl_ok, app_ok, chk_ok, if_pos, if_neg, bind1_some, bind2_some, bind3_some, bind4_some, bind5_some, bind1_none, bind2_none, bind3_none, decide_eq_true_eq, beq_iff_eq, bne_iff_ne, ne_eq, Bool.and_eq_true, Bool.or_eq_true, Bool.not_eq_true', Bool.not_eq_true, decide_eq_false_iff_not, beq_eq_false_iff_ne, bne_eq_false_iff_eq, Int.toNat_add, Int.toNat_natCast, Int.reduceToNat, Int.zero_add, Int.add_zero, Nat.add_zero, Nat.zero_add, Bool.true_and, Bool.and_true, Bool.false_and, Bool.and_false, Bool.true_or, Bool.or_true, Bool.false_or, Bool.or_false, Bool.not_true, Bool.not_false, Bool.false_eq_true, Bool.true_eq_false, reduceCtorEq, not_true_eq_false, not_false_eq_true, if_true, if_false, decide_true, decide_false]; rfl
        · by_cases d4 : (s.getD (i + 1) 0).toNat = 116
          · simp (disch := omega) only [w64_ok, idx_ok, sl_ok, app_ok, chk_ok, if_pos, if_neg, bind1_some, bind2_some, bind3_some, bind4_some, bind5_some, bind1_none, bind2_none, bind3_none, decide_eq_true_eq, beq_iff_eq, bne_iff_ne, ne_eq, Bool.and_eq_true, Bool.or_eq_true, Bool.not_eq_true', Bool.not_eq_true, decide_eq_false_iff_not, beq_eq_false_iff_ne, bne_eq_false_iff_eq, Int.toNat_add, Int.toNat_natCast, Int.reduceToNat, Int.zero_add, Int.add_zero, Nat.add_zero, Nat.zero_add, Bool.true_and, Bool.and_true, Bool.false_and, Bool.and_false, Bool.true_or, Bool.or_true, Bool.false_or, Bool.or_false, Bool.not_true, Bool.not_false, Bool.false_eq_true, Bool.true_eq_false, reduceCtorEq, not_true_eq_false, not_false_eq_true, if_true, if_false, decide_true, decide_false]; rfl
          · by_cases d5 : (s.getD (i + 1) 0).toNat = 120
            · simp (disch := omega) only [w64_ok, idx_ok, sl_ok, app_ok, chk_ok, if_pos, if_neg, bind1_some, bind2_some, bind3_some, bind4_some, bind5_some, bind1_none, bind2_none, bind3_none, decide_eq_true_eq, beq_iff_eq, bne_iff_ne, ne_eq, Bool.and_eq_true, Bool.or_eq_true, Bool.not_eq_true', Bool.not_eq_true, decide_eq_false_iff_not, beq_eq_false_iff_ne, bne_eq_false_iff_eq, Int.toNat_add, Int.toNat_natCast, Int.reduceToNat, Int.zero_add, Int.add_zero, Nat.add_zero, Nat.zero_add, Bool.true_and, Bool.and_true, Bool.false_and, Bool.and_false, Bool.true_or, Bool.or_true, Bool.false_or, Bool.or_false, Bool.not_true, Bool.not_false, Bool.false_eq_true, Bool.true_eq_false, reduceCtorEq, not_true_eq_false, not_false_eq_true, if_true, if_false, decide_true, decide_false]
              by_cases h4 : i + 2 < s.length
              · rw [show s.drop (i + 1 + 1) = s.getD (i + 2) 0 :: s.drop (i + 3) from getD_drop (by omega)]
                by_cases h5 : i + 3 < s.length
                · rw [show s.drop (i + 3) = s.getD (i + 3) 0 :: s.drop (i + 4) from getD_drop (by omega)]
                  simp (disch := omega) only [hex_eq, dflt, w64_ok, idx_ok, sl_ok, app_ok, chk_ok, if_pos, if_neg, bind1_some, bind2_some, bind3_some, bind4_some, bind5_some, bind1_none, bind2_none, bind3_none, decide_eq_true_eq, beq_iff_eq, bne_iff_ne, ne_eq, Bool.and_eq_true, Bool.or_eq_true, Bool.not_eq_true', Bool.not_eq_true, decide_eq_false_iff_not, beq_eq_false_iff_ne, bne_eq_false_iff_eq, Int.toNat_add, Int.toNat_natCast, Int.reduceToNat, Int.zero_add, Int.add_zero, Nat.add_zero, Nat.zero_add, Bool.true_and, Bool.and_true, Bool.false_and, Bool.and_false, Bool.true_or, Bool.or_true, Bool.false_or, Bool.or_false, Bool.not_true, Bool.not_false, Bool.false_eq_true, Bool.true_eq_false, reduceCtorEq, not_true_eq_false, not_false_eq_true, if_true, if_false, decide_true, decide_false]
                  cases ha : hexv (s.getD (i + 2) 0) with
                  | none => simp (disch := omega) only [hexI_none ha, w64_ok, idx_ok, sl_ok, app_ok, chk_ok, if_pos, if_neg, bind1_some, bind2_some, bind3_some, bind4_some, bind5_some, bind1_none, bind2_none, bind3_none, decide_eq_true_eq, beq_iff_eq, bne_iff_ne, ne_eq, Bool.and_eq_true, Bool.or_eq_true, Bool.not_eq_true', Bool.not_eq_true, decide_eq_false_iff_not, beq_eq_false_iff_ne, bne_eq_false_iff_eq, Int.toNat_add, Int.toNat_natCast, Int.reduceToNat, Int.zero_add, Int.add_zero, Nat.add_zero, Nat.zero_add, Bool.true_and, Bool.and_true, Bool.false_and, Bool.and_false, Bool.true_or, Bool.or_true, Bool.false_or, Bool.or_false, Bool.not_true, Bool.not_false, Bool.false_eq_true, Bool.true_eq_false, reduceCtorEq, not_true_eq_false, not_false_eq_true, if_true, if_false, decide_true, decide_false]; rfl
                  | some x =>
                    have hx := hexv_lt ha
                    simp (disch := omega) only [hexI_some ha, w64_ok, idx_ok, sl_ok, app_ok, chk_ok, if_pos, if_neg, bind1_some, bind2_some, bind3_some, bind4_some, bind5_some, bind1_none, bind2_none, bind3_none, decide_eq_true_eq, beq_iff_eq, bne_iff_ne, ne_eq, Bool.and_eq_true, Bool.or_eq_true, Bool.not_eq_true', Bool.not_eq_true, decide_eq_false_iff_not, beq_eq_false_iff_ne, bne_eq_false_iff_eq, Int.toNat_add, Int.toNat_natCast, Int.reduceToNat, Int.zero_add, Int.add_zero, Nat.add_zero, Nat.zero_add, Bool.true_and, Bool.and_true, Bool.false_and, Bool.and_false, Bool.true_or, Bool.or_true, Bool.false_or, Bool.or_false, Bool.not_true, Bool.not_false, Bool.false_eq_true, Bool.true_eq_false, reduceCtorEq, not_true_eq_false, not_false_eq_true, if_true, if_false, decide_true, decide_false]
                    cases hb : hexv (s.getD (i + 3) 0) with
                    | none => simp (disch := omega) only [hexI_none hb, w64_ok, idx_ok, sl_ok, app_ok, chk_ok, if_pos, if_neg, bind1_some, bind2_some, bind3_some, bind4_some, bind5_some, bind1_none, bind2_none, bind3_none, decide_eq_true_eq, beq_iff_eq, bne_iff_ne, ne_eq, Bool.and_eq_true, Bool.or_eq_true, Bool.not_eq_true', Bool.not_eq_true, decide_eq_false_iff_not, beq_eq_false_iff_ne, bne_eq_false_iff_eq, Int.toNat_add, Int.toNat_natCast, Int.reduceToNat, Int.zero_add, Int.add_zero, Nat.add_zero, Nat.zero_add, Bool.true_and, Bool.and_true, Bool.false_and, Bool.and_false, Bool.true_or, Bool.or_true, Bool.false_or, Bool.or_false, Bool.not_true, Bool.not_false, Bool.false_eq_true, Bool.true_eq_false, reduceCtorEq, not_true_eq_false, not_false_eq_true, if_true, if_false, decide_true, decide_false]; rfl
                    | some y =>
                      have hy := hexv_lt hb
                      simp (disch := omega) only [hexI_some hb, w64_ok, idx_ok, sl_ok, app_ok, chk_ok, if_pos, if_neg, bind1_some, bind2_some, bind3_some, bind4_some, bind5_some, bind1_none, bind2_none, bind3_none, decide_eq_true_eq, beq_iff_eq, bne_iff_ne, ne_eq, Bool.and_eq_true, Bool.or_eq_true, Bool.not_eq_true', Bool.not_eq_true, decide_eq_false_iff_not, beq_eq_false_iff_ne, bne_eq_false_iff_eq, Int.toNat_add, Int.toNat_natCast, Int.reduceToNat, Int.zero_add, Int.add_zero, Nat.add_zero, Nat.zero_add, Bool.true_and, Bool.and_true, Bool.false_and, Bool.and_false, Bool.true_or, Bool.or_true, Bool.false_or, Bool.or_false, Bool.not_true, Bool.not_false, Bool.false_eq_true, Bool.true_eq_false, reduceCtorEq, not_true_eq_false, not_false_eq_true, if_true, if_false, decide_true, decide_false]
                      have : byteOf (16 * (x : Int) + (y : Int)) = UInt8.ofNat (16 * x + y) := by
                        apply UInt8.toNat_inj.1
                        have e1 : ((byteOf (16 * (x : Int) + (y : Int))).toNat : Int) = 16 * (x : Int) + (y : Int) := byteOf_of (by omega) (by omega)
                        have e2 : (UInt8.ofNat (16 * x + y)).toNat = 16 * x + y := by simp; omega
                        omega
                      rw [this]; rfl
                · rw [List.drop_eq_nil_of_le (by omega : s.length ≤ i + 3)]
                  simp (disch := omega) only [hex_eq, w64_ok, idx_ok, sl_ok, app_ok, chk_ok, if_pos, if_neg, bind1_some, bind2_some, bind3_some, bind4_some, bind5_some, bind1_none, bind2_none, bind3_none, decide_eq_true_eq, beq_iff_eq, bne_iff_ne, ne_eq, Bool.and_eq_true, Bool.or_eq_true, Bool.not_eq_true', Bool.not_eq_true, decide_eq_false_iff_not, beq_eq_false_iff_ne, bne_eq_false_iff_eq, Int.toNat_add, Int.toNat_natCast, Int.reduceToNat, Int.zero_add, Int.add_zero, Nat.add_zero, Nat.zero_add, Bool.true_and, Bool.and_true, Bool.false_and, Bool.and_false, Bool.true_or, Bool.or_true, Bool.false_or, Bool.or_false, Bool.not_true, Bool.not_false, Bool.false_eq_true, Bool.true_eq_false, reduceCtorEq, not_true_eq_false, not_false_eq_true, if_true, if_false, decide_true, decide_false]
                  cases ha : hexv (s.getD (i + 2) 0) <;> rfl
              · rw [List.drop_eq_nil_of_le (by omega : s.length ≤ i + 1 + 1)]
                simp (disch := omega) only [w64_ok, idx_ok, sl_ok, app_ok, chk_ok, if_pos, if_neg, bind1_some, bind2_some, bind3_some, bind4_some, bind5_some, bind1_none, bind2_none, bind3_none, decide_eq_true_eq, beq_iff_eq, bne_iff_ne, ne_eq, Bool.and_eq_true, Bool.or_eq_true, Bool.not_eq_true', Bool.not_eq_true, decide_eq_false_iff_not, beq_eq_false_iff_ne, bne_eq_false_iff_eq, Int.toNat_add, Int.toNat_natCast, Int.reduceToNat, Int.zero_add, Int.add_zero, Nat.add_zero, Nat.zero_add, Bool.true_and, Bool.and_true, Bool.false_and, Bool.and_false, Bool.true_or, Bool.or_true, Bool.false_or, Bool.or_false, Bool.not_true, Bool.not_false, Bool.false_eq_true, Bool.true_eq_false, reduceCtorEq, not_true_eq_false, not_false_eq_true, if_true, if_false, decide_true, decide_false]; rfl
            · simp (disch := omega) only [w64_ok, idx_ok, sl_ok, app_ok, chk_ok, if_pos, if_neg, bind1_some, bind2_some, bind3_some, bind4_some, bind5_some, bind1_none, bind2_none, bind3_none, decide_eq_true_eq, beq_iff_eq, bne_iff_ne, ne_eq, Bool.and_eq_true, Bool.or_eq_true, Bool.not_eq_true', Bool.not_eq_true, decide_eq_false_iff_not, beq_eq_false_iff_ne, bne_eq_false_iff_eq, Int.toNat_add, Int.toNat_natCast, Int.reduceToNat, Int.zero_add, Int.add_zero, Nat.add_zero, Nat.zero_add, Bool.true_and, Bool.and_true, Bool.false_and, Bool.and_false, Bool.true_or, Bool.or_true, Bool.false_or, Bool.or_false, Bool.not_true, Bool.not_false, Bool.false_eq_true, Bool.true_eq_false, reduceCtorEq, not_true_eq_false, not_false_eq_true, if_true, if_false, decide_true, decide_false]; rfl
  · rw [List.drop_eq_nil_of_le (by omega : s.length ≤ i + 1)]
    simp (disch := omega) only [w64_ok, idx_ok, sl_ok, app_ok, chk_ok, if_pos, if_neg, bind1_some, bind2_some, bind3_some, bind4_some, bind5_some, bind1_none, bind2_none, bind3_none, decide_eq_true_eq, beq_iff_eq, bne_iff_ne, ne_eq, Bool.and_eq_true, Bool.or_eq_true, Bool.not_eq_true', Bool.not_eq_true, decide_eq_false_iff_not, beq_eq_false_iff_ne, bne_eq_false_iff_eq, Int.toNat_add, Int.toNat_natCast, Int.reduceToNat, Int.zero_add, Int.add_zero, Nat.add_zero, Nat.zero_add, Bool.true_and, Bool.and_true, Bool.false_and, Bool.and_false, Bool.true_or, Bool.or_true, Bool.false_or, Bool.or_false, Bool.not_true, Bool.not_false, Bool.false_eq_true, Bool.true_eq_false, reduceCtorEq, not_true_eq_false, not_false_eq_true, if_true, if_false, decide_true, decide_false]; rfl

theorem lshort_eq {s : Str} (hs : s.length < 4611686018427387904) {i : Nat} (hi : i < s.length) (h1 : (s.getD i 0).toNat = 92) (he : (chr (s.drop i)).2.2 ≠ 0) :
    lexer_short s (i : Int) = some ((chr (s.drop i)).2.2 == 4) := by
  unfold lexer_short
  rw [getD_drop hi] at he ⊢
  simp (disch := omega) only [w64_ok, idx_ok, sl_ok, app_ok, chk_ok, if_pos, if_neg, bind1_some, bind2_some, bind3_some, bind4_some, bind5_some, bind1_none, bind2_none, bind3_none, decide_eq_true_eq, beq_iff_eq, bne_iff_ne, ne_eq, Bool.and_eq_true, Bool.or_eq_true, Bool.not_eq_true', Bool.not_eq_true, decide_eq_false_iff_not, beq_eq_false_iff_ne, bne_eq_false_iff_eq, Int.toNat_add, Int.toNat_natCast, Int.reduceToNat, Int.zero_add, Int.add_zero, Nat.add_zero, Nat.zero_add, Bool.true_and, Bool.and_true, Bool.false_and, Bool.and_false, Bool.true_or, Bool.or_true, Bool.false_or, Bool.or_false, Bool.not_true, Bool.not_false, Bool.false_eq_true, Bool.true_eq_false, reduceCtorEq, not_true_eq_false, not_false_eq_true, if_true, if_false, decide_true, decide_false]
  rw [List.take_length]
  generalize s.drop (i + 1) = r at he ⊢
  generalize s.getD i 0 = c at he h1 ⊢
  have h92 : ¬ c.toNat < 32 := by omega
  have h92' : ¬ c.toNat ≠ 92 := by omega
  match r with
  | [] => simp [chr, h92, h92']
  | [d] =>
    by_cases d5 : d = 120
    · subst d5; simp [chr, h92, h92']
    · have : d.toNat ≠ 120 := fun h => d5 (UInt8.toNat_inj.1 h)
      simp only [chr, h92, h92', if_false] at he ⊢
      simp [d5]
      revert he
      repeat' split
      all_goals simp
  | [d, a] =>
    by_cases d5 : d = 120
    · subst d5
      simp [chr, h92, h92', idx]
      rw [hex_eq]
      cases ha : hexv a with
      | none => simp [hexI_none ha]
      | some x => simp [hexI_some ha]
    · have : d.toNat ≠ 120 := fun h => d5 (UInt8.toNat_inj.1 h)
      have d5' : ¬ (d.toNat : Int) = 120 := by omega
      simp only [chr, h92, h92', if_false] at he ⊢
      simp [d5, idx, d5']
      revert he
      repeat' split
      all_goals simp
  | d :: a :: b :: r =>
    simp only [chr, h92, h92', if_false] at he ⊢
    have hl : ¬ ((r.length : Int) + 1 + 1 + 1 = 2) := by omega
    simp [hl]
    revert he
    repeat' split
    all_goals simp

/-! a literal -/
def txt : Nat → Str → Nat → Str → Str × Nat × Int
  | _, _, _, [] => ([], 0, 4)
  | k + 1, b, n, _ :: r => txt k b n r
  | 0, b, n, c :: r => if c.toNat = 34 then (if 4096 < b.length then ([], 0, 3) else (b, n + 1, 0)) else
      if (chr (c :: r)).2.2 = 0 then txt ((chr (c :: r)).2.1 - 1) (b ++ [(chr (c :: r)).1]) (n + (chr (c :: r)).2.1) r else ([], 0, (chr (c :: r)).2.2)
theorem txt_skip : ∀ (k : Nat) (b : Str) (n : Nat) (r : Str), k ≤ r.length → txt k b n r = txt 0 b n (r.drop k)
  | 0, b, n, r, _ => by simp
  | k + 1, b, n, [], h => by simp at h
  | k + 1, b, n, c :: r, h => by rw [txt, txt_skip k b n r (by simpa using h)]; simp
theorem txt_cons (b : Str) (n : Nat) (c : UInt8) (r : Str) : txt 0 b n (c :: r) = if c.toNat = 34 then (if 4096 < b.length then ([], 0, 3) else (b, n + 1, 0)) else
    if (chr (c :: r)).2.2 = 0 then txt 0 (b ++ [(chr (c :: r)).1]) (n + (chr (c :: r)).2.1) ((c :: r).drop (chr (c :: r)).2.1) else ([], 0, (chr (c :: r)).2.2) := by
  rw [txt]
  split
  · rfl
  · split
    · rename_i h
      obtain ⟨h1, h2⟩ := chr_n h
      rw [txt_skip _ _ _ _ (by simp at h2; omega)]
      congr 1
      obtain ⟨m, hm⟩ : ∃ m, (chr (c :: r)).2.1 = m + 1 := ⟨(chr (c :: r)).2.1 - 1, by omega⟩
      rw [hm]; simp
    · rfl
def ltok (a : Nat) (x : Str × Nat × Int) : ApiToken × Int × Int := if x.2.2 = 0 then (⟨3, x.1, a⟩, ((a + x.2.1 : Nat) : Int), 0) else (⟨0, [], 0⟩, 0, x.2.2)
def rtok (x : Str × Nat × Int) : ApiToken × Int × Int := if x.2.2 = 0 then (⟨3, x.1, 0⟩, (x.2.1 : Int), 0) else (⟨0, [], 0⟩, 0, x.2.2)
theorem chr_err {l : Str} (h : (chr l).2.2 ≠ 0) : (chr l).2.1 = 0 := by
  revert h
  unfold chr
  repeat' split
  all_goals simp
theorem chr_plain {c : UInt8} {r : Str} (h1 : ¬ c.toNat < 32) (h2 : c.toNat ≠ 92) : chr (c :: r) = (c, 1, 0) := by
  show (if c.toNat < 32 then _ else _) = _; rw [if_neg h1, if_pos h2]
theorem chr_low {c : UInt8} {r : Str} (h1 : c.toNat < 32) : chr (c :: r) = (0, 0, 5) := by
  show (if c.toNat < 32 then _ else _) = _; rw [if_pos h1]

theorem ltext_eq {s : Str} (hs : s.length ≤ 2147483648) (a : Nat) : ∀ (k i : Nat) (b : Str), s.length < k + i → i ≤ s.length → a ≤ i → b.length ≤ i →
    lexer_text_l1 s (a : Int) k (i : Int) b = some (ltok a (txt 0 b (i - a) (s.drop i)))
  | 0, i, b, h, h', _, _ => by omega
  | k + 1, i, b, h, h', ha, hb => by
    rw [lexer_text_l1]
    by_cases hi : i < s.length
    · rw [getD_drop hi, txt_cons]
      simp (disch := omega) only [dflt, w64_ok, idx_ok, sl_ok, app_ok, chk_ok, if_pos, if_neg, bind1_some, bind2_some, bind3_some, bind4_some, bind5_some, bind1_none, bind2_none, bind3_none, decide_eq_true_eq, beq_iff_eq, bne_iff_ne, ne_eq, Bool.and_eq_true, Bool.or_eq_true, Bool.not_eq_true', Bool.not_eq_true, decide_eq_false_iff_not, beq_eq_false_iff_ne, bne_eq_false_iff_eq, Int.toNat_add, Int.toNat_natCast, Int.reduceToNat, Int.zero_add, Int.add_zero, Nat.add_zero, Nat.zero_add, Bool.true_and, Bool.and_true, Bool.false_and, Bool.and_false, Bool.true_or, Bool.or_true, Bool.false_or, Bool.or_false, Bool.not_true, Bool.not_false, Bool.false_eq_true, Bool.true_eq_false, reduceCtorEq, not_true_eq_false, not_false_eq_true, if_true, if_false, decide_true, decide_false]
      have hd := getD_drop hi
      by_cases h34 : (s.getD i 0).toNat = 34
      · simp (disch := omega) only [w64_ok, idx_ok, sl_ok, app_ok, chk_ok, if_pos, if_neg, bind1_some, bind2_some, bind3_some, bind4_some, bind5_some, bind1_none, bind2_none, bind3_none, decide_eq_true_eq, beq_iff_eq, bne_iff_ne, ne_eq, Bool.and_eq_true, Bool.or_eq_true, Bool.not_eq_true', Bool.not_eq_true, decide_eq_false_iff_not, beq_eq_false_iff_ne, bne_eq_false_iff_eq, Int.toNat_add, Int.toNat_natCast, Int.reduceToNat, Int.zero_add, Int.add_zero, Nat.add_zero, Nat.zero_add, Bool.true_and, Bool.and_true, Bool.false_and, Bool.and_false, Bool.true_or, Bool.or_true, Bool.false_or, Bool.or_false, Bool.not_true, Bool.not_false, Bool.false_eq_true, Bool.true_eq_false, reduceCtorEq, not_true_eq_false, not_false_eq_true, if_true, if_false, decide_true, decide_false]
        by_cases hl : 4096 < b.length
        · simp (disch := omega) only [w64_ok, idx_ok, sl_ok, app_ok, chk_ok, if_pos, if_neg, bind1_some, bind2_some, bind3_some, bind4_some, bind5_some, bind1_none, bind2_none, bind3_none, decide_eq_true_eq, beq_iff_eq, bne_iff_ne, ne_eq, Bool.and_eq_true, Bool.or_eq_true, Bool.not_eq_true', Bool.not_eq_true, decide_eq_false_iff_not, beq_eq_false_iff_ne, bne_eq_false_iff_eq, Int.toNat_add, Int.toNat_natCast, Int.reduceToNat, Int.zero_add, Int.add_zero, Nat.add_zero, Nat.zero_add, Bool.true_and, Bool.and_true, Bool.false_and, Bool.and_false, Bool.true_or, Bool.or_true, Bool.false_or, Bool.or_false, Bool.not_true, Bool.not_false, Bool.false_eq_true, Bool.true_eq_false, reduceCtorEq, not_true_eq_false, not_false_eq_true, if_true, if_false, decide_true, decide_false]; rfl
        · simp (disch := omega) only [w64_ok, idx_ok, sl_ok, app_ok, chk_ok, if_pos, if_neg, bind1_some, bind2_some, bind3_some, bind4_some, bind5_some, bind1_none, bind2_none, bind3_none, decide_eq_true_eq, beq_iff_eq, bne_iff_ne, ne_eq, Bool.and_eq_true, Bool.or_eq_true, Bool.not_eq_true', Bool.not_eq_true, decide_eq_false_iff_not, beq_eq_false_iff_ne, bne_eq_false_iff_eq, Int.toNat_add, Int.toNat_natCast, Int.reduceToNat, Int.zero_add, Int.add_zero, Nat.add_zero, Nat.zero_add, Bool.true_and, Bool.and_true, Bool.false_and, Bool.and_false, Bool.true_or, Bool.or_true, Bool.false_or, Bool.or_false, Bool.not_true, Bool.not_false, Bool.false_eq_true, Bool.true_eq_false, reduceCtorEq, not_true_eq_false, not_false_eq_true, if_true, if_false, decide_true, decide_false]; simp only [ltok, if_true]; congr 4; omega
      · simp (disch := omega) only [w64_ok, idx_ok, sl_ok, app_ok, chk_ok, if_pos, if_neg, bind1_some, bind2_some, bind3_some, bind4_some, bind5_some, bind1_none, bind2_none, bind3_none, decide_eq_true_eq, beq_iff_eq, bne_iff_ne, ne_eq, Bool.and_eq_true, Bool.or_eq_true, Bool.not_eq_true', Bool.not_eq_true, decide_eq_false_iff_not, beq_eq_false_iff_ne, bne_eq_false_iff_eq, Int.toNat_add, Int.toNat_natCast, Int.reduceToNat, Int.zero_add, Int.add_zero, Nat.add_zero, Nat.zero_add, Bool.true_and, Bool.and_true, Bool.false_and, Bool.and_false, Bool.true_or, Bool.or_true, Bool.false_or, Bool.or_false, Bool.not_true, Bool.not_false, Bool.false_eq_true, Bool.true_eq_false, reduceCtorEq, not_true_eq_false, not_false_eq_true, if_true, if_false, decide_true, decide_false]
        by_cases h92 : (s.getD i 0).toNat = 92
        · simp (disch := omega) only [lesc_eq (by omega) hi h92, w64_ok, idx_ok, sl_ok, app_ok, chk_ok, if_pos, if_neg, bind1_some, bind2_some, bind3_some, bind4_some, bind5_some, bind1_none, bind2_none, bind3_none, decide_eq_true_eq, beq_iff_eq, bne_iff_ne, ne_eq, Bool.and_eq_true, Bool.or_eq_true, Bool.not_eq_true', Bool.not_eq_true, decide_eq_false_iff_not, beq_eq_false_iff_ne, bne_eq_false_iff_eq, Int.toNat_add, Int.toNat_natCast, Int.reduceToNat, Int.zero_add, Int.add_zero, Nat.add_zero, Nat.zero_add, Bool.true_and, Bool.and_true, Bool.false_and, Bool.and_false, Bool.true_or, Bool.or_true, Bool.false_or, Bool.or_false, Bool.not_true, Bool.not_false, Bool.false_eq_true, Bool.true_eq_false, reduceCtorEq, not_true_eq_false, not_false_eq_true, if_true, if_false, decide_true, decide_false]
          rw [hd]
          by_cases he : (chr (s.getD i 0 :: s.drop (i + 1))).2.2 = 0
          · obtain ⟨n1, n2⟩ := chr_n he
            rw [← hd] at n2
            rw [List.length_drop] at n2
            have happ : app b [(chr (s.getD i 0 :: s.drop (i + 1))).1] = some (b ++ [(chr (s.getD i 0 :: s.drop (i + 1))).1]) := app_ok (by simp [LIM]; omega)
            rw [← hd] at n1 he happ ⊢
            simp (disch := omega) only [he, happ, w64_ok, idx_ok, sl_ok, app_ok, chk_ok, if_pos, if_neg, bind1_some, bind2_some, bind3_some, bind4_some, bind5_some, bind1_none, bind2_none, bind3_none, decide_eq_true_eq, beq_iff_eq, bne_iff_ne, ne_eq, Bool.and_eq_true, Bool.or_eq_true, Bool.not_eq_true', Bool.not_eq_true, decide_eq_false_iff_not, beq_eq_false_iff_ne, bne_eq_false_iff_eq, Int.toNat_add, Int.toNat_natCast, Int.reduceToNat, Int.zero_add, Int.add_zero, Nat.add_zero, Nat.zero_add, Bool.true_and, Bool.and_true, Bool.false_and, Bool.and_false, Bool.true_or, Bool.or_true, Bool.false_or, Bool.or_false, Bool.not_true, Bool.not_false, Bool.false_eq_true, Bool.true_eq_false, reduceCtorEq, not_true_eq_false, not_false_eq_true, if_true, if_false, decide_true, decide_false]
            rw [show (i : Int) + ((chr (s.drop i)).2.1 : Int) = ((i + (chr (s.drop i)).2.1 : Nat) : Int) from by omega]
            rw [ltext_eq hs a k (i + (chr (s.drop i)).2.1) _ (by omega) (by omega) (by omega) (by simp; omega)]
            rw [List.drop_drop]
            congr 4
            omega
          · rw [← hd] at he ⊢
            rw [chr_err he]
            simp (disch := omega) only [lshort_eq (by omega) hi h92 he, w64_ok, idx_ok, sl_ok, app_ok, chk_ok, if_pos, if_neg, bind1_some, bind2_some, bind3_some, bind4_some, bind5_some, bind1_none, bind2_none, bind3_none, decide_eq_true_eq, beq_iff_eq, bne_iff_ne, ne_eq, Bool.and_eq_true, Bool.or_eq_true, Bool.not_eq_true', Bool.not_eq_true, decide_eq_false_iff_not, beq_eq_false_iff_ne, bne_eq_false_iff_eq, Int.toNat_add, Int.toNat_natCast, Int.reduceToNat, Int.zero_add, Int.add_zero, Nat.add_zero, Nat.zero_add, Bool.true_and, Bool.and_true, Bool.false_and, Bool.and_false, Bool.true_or, Bool.or_true, Bool.false_or, Bool.or_false, Bool.not_true, Bool.not_false, Bool.false_eq_true, Bool.true_eq_false, reduceCtorEq, not_true_eq_false, not_false_eq_true, if_true, if_false, decide_true, decide_false]
            by_cases h4 : (chr (s.drop i)).2.2 = 4
            · simp (disch := omega) only [h4, w64_ok, idx_ok, sl_ok, app_ok, chk_ok, if_pos, if_neg, bind1_some, bind2_some, bind3_some, bind4_some, bind5_some, bind1_none, bind2_none, bind3_none, decide_eq_true_eq, beq_iff_eq, bne_iff_ne, ne_eq, Bool.and_eq_true, Bool.or_eq_true, Bool.not_eq_true', Bool.not_eq_true, decide_eq_false_iff_not, beq_eq_false_iff_ne, bne_eq_false_iff_eq, Int.toNat_add, Int.toNat_natCast, Int.reduceToNat, Int.zero_add, Int.add_zero, Nat.add_zero, Nat.zero_add, Bool.true_and, Bool.and_true, Bool.false_and, Bool.and_false, Bool.true_or, Bool.or_true, Bool.false_or, Bool.or_false, Bool.not_true, Bool.not_false, Bool.false_eq_true, Bool.true_eq_false, reduceCtorEq, not_true_eq_false, not_false_eq_true, if_true, if_false, decide_true, decide_false]; simp [ltok]
            · simp (disch := omega) only [h4, w64_ok, idx_ok, sl_ok, app_ok, chk_ok, if_pos, if_neg, bind1_some, bind2_some, bind3_some, bind4_some, bind5_some, bind1_none, bind2_none, bind3_none, decide_eq_true_eq, beq_iff_eq, bne_iff_ne, ne_eq, Bool.and_eq_true, Bool.or_eq_true, Bool.not_eq_true', Bool.not_eq_true, decide_eq_false_iff_not, beq_eq_false_iff_ne, bne_eq_false_iff_eq, Int.toNat_add, Int.toNat_natCast, Int.reduceToNat, Int.zero_add, Int.add_zero, Nat.add_zero, Nat.zero_add, Bool.true_and, Bool.and_true, Bool.false_and, Bool.and_false, Bool.true_or, Bool.or_true, Bool.false_or, Bool.or_false, Bool.not_true, Bool.not_false, Bool.false_eq_true, Bool.true_eq_false, reduceCtorEq, not_true_eq_false, not_false_eq_true, if_true, if_false, decide_true, decide_false]
              have h5 : (chr (s.drop i)).2.2 = 5 := by
                revert he h4
                unfold chr
                repeat' split
                all_goals simp
              simp [ltok, h5]
        · by_cases h32 : (s.getD i 0).toNat < 32
          · rw [chr_low h32]; simp (disch := omega) only [w64_ok, idx_ok, sl_ok, app_ok, chk_ok, if_pos, if_neg, bind1_some, bind2_some, bind3_some, bind4_some, bind5_some, bind1_none, bind2_none, bind3_none, decide_eq_true_eq, beq_iff_eq, bne_iff_ne, ne_eq, Bool.and_eq_true, Bool.or_eq_true, Bool.not_eq_true', Bool.not_eq_true, decide_eq_false_iff_not, beq_eq_false_iff_ne, bne_eq_false_iff_eq, Int.toNat_add, Int.toNat_natCast, Int.reduceToNat, Int.zero_add, Int.add_zero, Nat.add_zero, Nat.zero_add, Bool.true_and, Bool.and_true, Bool.false_and, Bool.and_false, Bool.true_or, Bool.or_true, Bool.false_or, Bool.or_false, Bool.not_true, Bool.not_false, Bool.false_eq_true, Bool.true_eq_false, reduceCtorEq, not_true_eq_false, not_false_eq_true, if_true, if_false, decide_true, decide_false]; rfl
          · rw [chr_plain h32 h92]
            have happ : app b [s.getD i 0] = some (b ++ [s.getD i 0]) := app_ok (by simp [LIM]; omega)
            simp (disch := omega) only [happ, w64_ok, idx_ok, sl_ok, app_ok, chk_ok, if_pos, if_neg, bind1_some, bind2_some, bind3_some, bind4_some, bind5_some, bind1_none, bind2_none, bind3_none, decide_eq_true_eq, beq_iff_eq, bne_iff_ne, ne_eq, Bool.and_eq_true, Bool.or_eq_true, Bool.not_eq_true', Bool.not_eq_true, decide_eq_false_iff_not, beq_eq_false_iff_ne, bne_eq_false_iff_eq, Int.toNat_add, Int.toNat_natCast, Int.reduceToNat, Int.zero_add, Int.add_zero, Nat.add_zero, Nat.zero_add, Bool.true_and, Bool.and_true, Bool.false_and, Bool.and_false, Bool.true_or, Bool.or_true, Bool.false_or, Bool.or_false, Bool.not_true, Bool.not_false, Bool.false_eq_true, Bool.true_eq_false, reduceCtorEq, not_true_eq_false, not_false_eq_true, if_true, if_false, decide_true, decide_false]
            rw [show (i : Int) + 1 = ((i + 1 : Nat) : Int) from rfl, ltext_eq hs a k (i + 1) _ (by omega) (by omega) (by omega) (by simp; omega)]
            simp only [List.drop_succ_cons, List.drop_zero]
            rw [show i + 1 - a = i - a + 1 from by omega]
    · have e : i = s.length := by omega
      rw [e]
      simp (disch := omega) only [w64_ok, idx_ok, sl_ok, app_ok, chk_ok, if_pos, if_neg, bind1_some, bind2_some, bind3_some, bind4_some, bind5_some, bind1_none, bind2_none, bind3_none, decide_eq_true_eq, beq_iff_eq, bne_iff_ne, ne_eq, Bool.and_eq_true, Bool.or_eq_true, Bool.not_eq_true', Bool.not_eq_true, decide_eq_false_iff_not, beq_eq_false_iff_ne, bne_eq_false_iff_eq, Int.toNat_add, Int.toNat_natCast, Int.reduceToNat, Int.zero_add, Int.add_zero, Nat.add_zero, Nat.zero_add, Bool.true_and, Bool.and_true, Bool.false_and, Bool.and_false, Bool.true_or, Bool.or_true, Bool.false_or, Bool.or_false, Bool.not_true, Bool.not_false, Bool.false_eq_true, Bool.true_eq_false, reduceCtorEq, not_true_eq_false, not_false_eq_true, if_true, if_false, decide_true, decide_false]
      simp [txt, ltok]
theorem ltext_ok {s : Str} (hs : s.length ≤ 2147483648) {a : Nat} (h : a < s.length) : lexer_text s (a : Int) = some (ltok a (txt 0 [] 1 (s.drop (a + 1)))) := by
  unfold lexer_text
  simp (disch := omega) only [w64_ok, idx_ok, sl_ok, app_ok, chk_ok, if_pos, if_neg, bind1_some, bind2_some, bind3_some, bind4_some, bind5_some, bind1_none, bind2_none, bind3_none, decide_eq_true_eq, beq_iff_eq, bne_iff_ne, ne_eq, Bool.and_eq_true, Bool.or_eq_true, Bool.not_eq_true', Bool.not_eq_true, decide_eq_false_iff_not, beq_eq_false_iff_ne, bne_eq_false_iff_eq, Int.toNat_add, Int.toNat_natCast, Int.reduceToNat, Int.zero_add, Int.add_zero, Nat.add_zero, Nat.zero_add, Bool.true_and, Bool.and_true, Bool.false_and, Bool.and_false, Bool.true_or, Bool.or_true, Bool.false_or, Bool.or_false, Bool.not_true, Bool.not_false, Bool.false_eq_true, Bool.true_eq_false, reduceCtorEq, not_true_eq_false, not_false_eq_true, if_true, if_false, decide_true, decide_false]
  rw [show (a : Int) + 1 = ((a + 1 : Nat) : Int) from rfl, ltext_eq hs a BIG (a + 1) [] (by unfold BIG; omega) (by omega) (by omega) (by simp)]
  rw [show a + 1 - a = 1 from by omega]

theorem rtext_eq {s : Str} (hs : s.length ≤ 2147483648) (a : Nat) : ∀ (k i : Nat) (b : Str), s.length < k + i → i ≤ s.length → a ≤ i → b.length ≤ i →
    r09_text_l1 s (a : Int) k b (i : Int) = some (rtok (txt 0 b (i - a) (s.drop i)))
  | 0, i, b, h, h', _, _ => by omega
  | k + 1, i, b, h, h', ha, hb => by
    rw [r09_text_l1]
    by_cases hi : i < s.length
    · rw [getD_drop hi, txt_cons]
      simp (disch := omega) only [dflt, w64_ok, idx_ok, sl_ok, app_ok, chk_ok, if_pos, if_neg, bind1_some, bind2_some, bind3_some, bind4_some, bind5_some, bind1_none, bind2_none, bind3_none, decide_eq_true_eq, beq_iff_eq, bne_iff_ne, ne_eq, Bool.and_eq_true, Bool.or_eq_true, Bool.not_eq_true', Bool.not_eq_true, decide_eq_false_iff_not, beq_eq_false_iff_ne, bne_eq_false_iff_eq, Int.toNat_add, Int.toNat_natCast, Int.reduceToNat, Int.zero_add, Int.add_zero, Nat.add_zero, Nat.zero_add, Bool.true_and, Bool.and_true, Bool.false_and, Bool.and_false, Bool.true_or, Bool.or_true, Bool.false_or, Bool.or_false, Bool.not_true, Bool.not_false, Bool.false_eq_true, Bool.true_eq_false, reduceCtorEq, not_true_eq_false, not_false_eq_true, if_true, if_false, decide_true, decide_false]
      have hd := getD_drop hi
      by_cases h34 : (s.getD i 0).toNat = 34
      · simp (disch := omega) only [w64_ok, idx_ok, sl_ok, app_ok, chk_ok, if_pos, if_neg, bind1_some, bind2_some, bind3_some, bind4_some, bind5_some, bind1_none, bind2_none, bind3_none, decide_eq_true_eq, beq_iff_eq, bne_iff_ne, ne_eq, Bool.and_eq_true, Bool.or_eq_true, Bool.not_eq_true', Bool.not_eq_true, decide_eq_false_iff_not, beq_eq_false_iff_ne, bne_eq_false_iff_eq, Int.toNat_add, Int.toNat_natCast, Int.reduceToNat, Int.zero_add, Int.add_zero, Nat.add_zero, Nat.zero_add, Bool.true_and, Bool.and_true, Bool.false_and, Bool.and_false, Bool.true_or, Bool.or_true, Bool.false_or, Bool.or_false, Bool.not_true, Bool.not_false, Bool.false_eq_true, Bool.true_eq_false, reduceCtorEq, not_true_eq_false, not_false_eq_true, if_true, if_false, decide_true, decide_false]
        by_cases hl : 4096 < b.length
        · simp (disch := omega) only [w64_ok, idx_ok, sl_ok, app_ok, chk_ok, if_pos, if_neg, bind1_some, bind2_some, bind3_some, bind4_some, bind5_some, bind1_none, bind2_none, bind3_none, decide_eq_true_eq, beq_iff_eq, bne_iff_ne, ne_eq, Bool.and_eq_true, Bool.or_eq_true, Bool.not_eq_true', Bool.not_eq_true, decide_eq_false_iff_not, beq_eq_false_iff_ne, bne_eq_false_iff_eq, Int.toNat_add, Int.toNat_natCast, Int.reduceToNat, Int.zero_add, Int.add_zero, Nat.add_zero, Nat.zero_add, Bool.true_and, Bool.and_true, Bool.false_and, Bool.and_false, Bool.true_or, Bool.or_true, Bool.false_or, Bool.or_false, Bool.not_true, Bool.not_false, Bool.false_eq_true, Bool.true_eq_false, reduceCtorEq, not_true_eq_false, not_false_eq_true, if_true, if_false, decide_true, decide_false]; rfl
        · simp (disch := omega) only [w64_ok, idx_ok, sl_ok, app_ok, chk_ok, if_pos, if_neg, bind1_some, bind2_some, bind3_some, bind4_some, bind5_some, bind1_none, bind2_none, bind3_none, decide_eq_true_eq, beq_iff_eq, bne_iff_ne, ne_eq, Bool.and_eq_true, Bool.or_eq_true, Bool.not_eq_true', Bool.not_eq_true, decide_eq_false_iff_not, beq_eq_false_iff_ne, bne_eq_false_iff_eq, Int.toNat_add, Int.toNat_natCast, Int.reduceToNat, Int.zero_add, Int.add_zero, Nat.add_zero, Nat.zero_add, Bool.true_and, Bool.and_true, Bool.false_and, Bool.and_false, Bool.true_or, Bool.or_true, Bool.false_or, Bool.or_false, Bool.not_true, Bool.not_false, Bool.false_eq_true, Bool.true_eq_false, reduceCtorEq, not_true_eq_false, not_false_eq_true, if_true, if_false, decide_true, decide_false]; simp only [rtok, if_true]; congr 3; omega
      · simp (disch := omega) only [rchr_eq (by omega) hi, w64_ok, idx_ok, sl_ok, app_ok, chk_ok, if_pos, if_neg, bind1_some, bind2_some, bind3_some, bind4_some, bind5_some, bind1_none, bind2_none, bind3_none, decide_eq_true_eq, beq_iff_eq, bne_iff_ne, ne_eq, Bool.and_eq_true, Bool.or_eq_true, Bool.not_eq_true', Bool.not_eq_true, decide_eq_false_iff_not, beq_eq_false_iff_ne, bne_eq_false_iff_eq, Int.toNat_add, Int.toNat_natCast, Int.reduceToNat, Int.zero_add, Int.add_zero, Nat.add_zero, Nat.zero_add, Bool.true_and, Bool.and_true, Bool.false_and, Bool.and_false, Bool.true_or, Bool.or_true, Bool.false_or, Bool.or_false, Bool.not_true, Bool.not_false, Bool.false_eq_true, Bool.true_eq_false, reduceCtorEq, not_true_eq_false, not_false_eq_true, if_true, if_false, decide_true, decide_false]
        rw [← hd]
        by_cases he : (chr (s.drop i)).2.2 = 0
        · obtain ⟨n1, n2⟩ := chr_n he
          rw [List.length_drop] at n2
          have happ : app b [(chr (s.drop i)).1] = some (b ++ [(chr (s.drop i)).1]) := app_ok (by simp [LIM]; omega)
          simp (disch := omega) only [he, happ, w64_ok, idx_ok, sl_ok, app_ok, chk_ok, if_pos, if_neg, bind1_some, bind2_some, bind3_some, bind4_some, bind5_some, bind1_none, bind2_none, bind3_none, decide_eq_true_eq, beq_iff_eq, bne_iff_ne, ne_eq, Bool.and_eq_true, Bool.or_eq_true, Bool.not_eq_true', Bool.not_eq_true, decide_eq_false_iff_not, beq_eq_false_iff_ne, bne_eq_false_iff_eq, Int.toNat_add, Int.toNat_natCast, Int.reduceToNat, Int.zero_add, Int.add_zero, Nat.add_zero, Nat.zero_add, Bool.true_and, Bool.and_true, Bool.false_and, Bool.and_false, Bool.true_or, Bool.or_true, Bool.false_or, Bool.or_false, Bool.not_true, Bool.not_false, Bool.false_eq_true, Bool.true_eq_false, reduceCtorEq, not_true_eq_false, not_false_eq_true, if_true, if_false, decide_true, decide_false]
          rw [show (i : Int) + ((chr (s.drop i)).2.1 : Int) = ((i + (chr (s.drop i)).2.1 : Nat) : Int) from by omega]
          rw [rtext_eq hs a k (i + (chr (s.drop i)).2.1) _ (by omega) (by omega) (by omega) (by simp; omega)]
          rw [List.drop_drop]
          congr 4
          omega
        · simp (disch := omega) only [he, w64_ok, idx_ok, sl_ok, app_ok, chk_ok, if_pos, if_neg, bind1_some, bind2_some, bind3_some, bind4_some, bind5_some, bind1_none, bind2_none, bind3_none, decide_eq_true_eq, beq_iff_eq, bne_iff_ne, ne_eq, Bool.and_eq_true, Bool.or_eq_true, Bool.not_eq_true', Bool.not_eq_true, decide_eq_false_iff_not, beq_eq_false_iff_ne, bne_eq_false_iff_eq, Int.toNat_add, Int.toNat_natCast, Int.reduceToNat, Int.zero_add, Int.add_zero, Nat.add_zero, Nat.zero_add, Bool.true_and, Bool.and_true, Bool.false_and, Bool.and_false, Bool.true_or, Bool.or_true, Bool.false_or, Bool.or_false, Bool.not_true, Bool.not_false, Bool.false_eq_true, Bool.true_eq_false, reduceCtorEq, not_true_eq_false, not_false_eq_true, if_true, if_false, decide_true, decide_false]
          simp [rtok, he]
    · have e : i = s.length := by omega
      rw [e]
      simp (disch := omega) only [w64_ok, idx_ok, sl_ok, app_ok, chk_ok, if_pos, if_neg, bind1_some, bind2_some, bind3_some, bind4_some, bind5_some, bind1_none, bind2_none, bind3_none, decide_eq_true_eq, beq_iff_eq, bne_iff_ne, ne_eq, Bool.and_eq_true, Bool.or_eq_true, Bool.not_eq_true', Bool.not_eq_true, decide_eq_false_iff_not, beq_eq_false_iff_ne, bne_eq_false_iff_eq, Int.toNat_add, Int.toNat_natCast, Int.reduceToNat, Int.zero_add, Int.add_zero, Nat.add_zero, Nat.zero_add, Bool.true_and, Bool.and_true, Bool.false_and, Bool.and_false, Bool.true_or, Bool.or_true, Bool.false_or, Bool.or_false, Bool.not_true, Bool.not_false, Bool.false_eq_true, Bool.true_eq_false, reduceCtorEq, not_true_eq_false, not_false_eq_true, if_true, if_false, decide_true, decide_false]
      simp [txt, rtok]
theorem rtext_ok {s : Str} (hs : s.length ≤ 2147483648) {a : Nat} (h : a < s.length) : r09_text s (a : Int) = some (rtok (txt 0 [] 1 (s.drop (a + 1)))) := by
  unfold r09_text
  simp (disch := omega) only [w64_ok, idx_ok, sl_ok, app_ok, chk_ok, if_pos, if_neg, bind1_some, bind2_some, bind3_some, bind4_some, bind5_some, bind1_none, bind2_none, bind3_none, decide_eq_true_eq, beq_iff_eq, bne_iff_ne, ne_eq, Bool.and_eq_true, Bool.or_eq_true, Bool.not_eq_true', Bool.not_eq_true, decide_eq_false_iff_not, beq_eq_false_iff_ne, bne_eq_false_iff_eq, Int.toNat_add, Int.toNat_natCast, Int.reduceToNat, Int.zero_add, Int.add_zero, Nat.add_zero, Nat.zero_add, Bool.true_and, Bool.and_true, Bool.false_and, Bool.and_false, Bool.true_or, Bool.or_true, Bool.false_or, Bool.or_false, Bool.not_true, Bool.not_false, Bool.false_eq_true, Bool.true_eq_false, reduceCtorEq, not_true_eq_false, not_false_eq_true, if_true, if_false, decide_true, decide_false]
  rw [show (a : Int) + 1 = ((a + 1 : Nat) : Int) from rfl, rtext_eq hs a BIG (a + 1) [] (by unfold BIG; omega) (by omega) (by omega) (by simp)]
  rw [show a + 1 - a = 1 from by omega]

/-! numbers -/
def val (l : Str) : Nat := l.foldl (fun n c => 10 * n + (c.toNat - 48)) 0
def MAXN : Nat := 9007199254740992
theorem val_from (l : Str) : ∀ n : Nat, n ≤ l.foldl (fun n (c : UInt8) => 10 * n + (c.toNat - 48)) n := by
  induction l with
  | nil => intro n; simp
  | cons c l ih => intro n; simp only [List.foldl_cons]; exact Nat.le_trans (by omega) (ih _)
theorem large_eq {s : Str} (hs : s.length ≤ 2147483648) (hd : ∀ c ∈ s, isDigit c = true) : ∀ (k i n : Nat), s.length < k + i → i ≤ s.length → n ≤ 10 * MAXN + 9 →
    lexer_large_l1 s k (n : Int) (i : Int) = some (decide (MAXN < (s.drop i).foldl (fun n (c : UInt8) => 10 * n + (c.toNat - 48)) n))
  | 0, i, n, h, h', _ => by omega
  | k + 1, i, n, h, h', hn => by
    unfold MAXN at hn
    rw [lexer_large_l1]
    by_cases hi : i < s.length
    · have hdi := hd s[i] (List.getElem_mem hi)
      rw [isDigit_iff] at hdi
      have e := getD_drop hi
      have e0 : s.getD i 0 = s[i] := by rw [List.getD_eq_getElem?_getD, List.getElem?_eq_getElem hi, Option.getD_some]
      by_cases hm : n ≤ 9007199254740992
      · simp (disch := omega) only [dflt, w64_ok, idx_ok, sl_ok, app_ok, chk_ok, if_pos, if_neg, bind1_some, bind2_some, bind3_some, bind4_some, bind5_some, bind1_none, bind2_none, bind3_none, decide_eq_true_eq, beq_iff_eq, bne_iff_ne, ne_eq, Bool.and_eq_true, Bool.or_eq_true, Bool.not_eq_true', Bool.not_eq_true, decide_eq_false_iff_not, beq_eq_false_iff_ne, bne_eq_false_iff_eq, Int.toNat_add, Int.toNat_natCast, Int.reduceToNat, Int.zero_add, Int.add_zero, Nat.add_zero, Nat.zero_add, Bool.true_and, Bool.and_true, Bool.false_and, Bool.and_false, Bool.true_or, Bool.or_true, Bool.false_or, Bool.or_false, Bool.not_true, Bool.not_false, Bool.false_eq_true, Bool.true_eq_false, reduceCtorEq, not_true_eq_false, not_false_eq_true, if_true, if_false, decide_true, decide_false]
        rw [e, e0, sub_nat (by simpa using hdi.1)]
        have h48 : (48 : UInt8).toNat = 48 := rfl
        rw [h48]
        simp (disch := omega) only [w64_ok, idx_ok, sl_ok, app_ok, chk_ok, if_pos, if_neg, bind1_some, bind2_some, bind3_some, bind4_some, bind5_some, bind1_none, bind2_none, bind3_none, decide_eq_true_eq, beq_iff_eq, bne_iff_ne, ne_eq, Bool.and_eq_true, Bool.or_eq_true, Bool.not_eq_true', Bool.not_eq_true, decide_eq_false_iff_not, beq_eq_false_iff_ne, bne_eq_false_iff_eq, Int.toNat_add, Int.toNat_natCast, Int.reduceToNat, Int.zero_add, Int.add_zero, Nat.add_zero, Nat.zero_add, Bool.true_and, Bool.and_true, Bool.false_and, Bool.and_false, Bool.true_or, Bool.or_true, Bool.false_or, Bool.or_false, Bool.not_true, Bool.not_false, Bool.false_eq_true, Bool.true_eq_false, reduceCtorEq, not_true_eq_false, not_false_eq_true, if_true, if_false, decide_true, decide_false]
        rw [show 10 * (n : Int) + ((s[i].toNat - 48 : Nat) : Int) = ((10 * n + (s[i].toNat - 48) : Nat) : Int) from by omega, show (i : Int) + 1 = ((i + 1 : Nat) : Int) from rfl]
        rw [large_eq hs hd k (i + 1) _ (by omega) (by omega) (by unfold MAXN; omega)]
        rw [List.foldl_cons]
      · simp (disch := omega) only [w64_ok, idx_ok, sl_ok, app_ok, chk_ok, if_pos, if_neg, bind1_some, bind2_some, bind3_some, bind4_some, bind5_some, bind1_none, bind2_none, bind3_none, decide_eq_true_eq, beq_iff_eq, bne_iff_ne, ne_eq, Bool.and_eq_true, Bool.or_eq_true, Bool.not_eq_true', Bool.not_eq_true, decide_eq_false_iff_not, beq_eq_false_iff_ne, bne_eq_false_iff_eq, Int.toNat_add, Int.toNat_natCast, Int.reduceToNat, Int.zero_add, Int.add_zero, Nat.add_zero, Nat.zero_add, Bool.true_and, Bool.and_true, Bool.false_and, Bool.and_false, Bool.true_or, Bool.or_true, Bool.false_or, Bool.or_false, Bool.not_true, Bool.not_false, Bool.false_eq_true, Bool.true_eq_false, reduceCtorEq, not_true_eq_false, not_false_eq_true, if_true, if_false, decide_true, decide_false]
        have := val_from (s.drop i) n
        have h2 : MAXN < (s.drop i).foldl (fun n (c : UInt8) => 10 * n + (c.toNat - 48)) n := by unfold MAXN; omega
        simp [h2]; omega
    · have e : i = s.length := by omega
      rw [e]
      simp (disch := omega) only [w64_ok, idx_ok, sl_ok, app_ok, chk_ok, if_pos, if_neg, bind1_some, bind2_some, bind3_some, bind4_some, bind5_some, bind1_none, bind2_none, bind3_none, decide_eq_true_eq, beq_iff_eq, bne_iff_ne, ne_eq, Bool.and_eq_true, Bool.or_eq_true, Bool.not_eq_true', Bool.not_eq_true, decide_eq_false_iff_not, beq_eq_false_iff_ne, bne_eq_false_iff_eq, Int.toNat_add, Int.toNat_natCast, Int.reduceToNat, Int.zero_add, Int.add_zero, Nat.add_zero, Nat.zero_add, Bool.true_and, Bool.and_true, Bool.false_and, Bool.and_false, Bool.true_or, Bool.or_true, Bool.false_or, Bool.or_false, Bool.not_true, Bool.not_false, Bool.false_eq_true, Bool.true_eq_false, reduceCtorEq, not_true_eq_false, not_false_eq_true, if_true, if_false, decide_true, decide_false]
      simp [MAXN]; omega
theorem large_ok {s : Str} (hs : s.length ≤ 2147483648) (hd : ∀ c ∈ s, isDigit c = true) : lexer_large s = some (decide (MAXN < val s)) := by
  have := large_eq hs hd BIG 0 0 (by unfold BIG; omega) (by omega) (by omega)
  rw [List.drop_zero] at this
  exact this
theorem foldl_pow (l : Str) : ∀ n : Nat, n * 10 ^ l.length ≤ l.foldl (fun n (c : UInt8) => 10 * n + (c.toNat - 48)) n := by
  induction l with
  | nil => intro n; simp
  | cons c l ih =>
    intro n
    simp only [List.foldl_cons, List.length_cons]
    refine Nat.le_trans ?_ (ih _)
    rw [Nat.pow_succ, ← Nat.mul_assoc, Nat.mul_right_comm]
    exact Nat.mul_le_mul_right _ (by omega)
theorem foldl_lt (l : Str) (hd : ∀ c ∈ l, isDigit c = true) : ∀ n m : Nat, n < m → l.foldl (fun n (c : UInt8) => 10 * n + (c.toNat - 48)) n < m * 10 ^ l.length := by
  induction l with
  | nil => intro n m h; simpa using h
  | cons c l ih =>
    intro n m h
    have hc := hd c (by simp)
    rw [isDigit_iff] at hc
    simp only [List.foldl_cons, List.length_cons]
    have := ih (fun x hx => hd x (by simp [hx])) (10 * n + (c.toNat - 48)) (10 * m) (by omega)
    rw [Nat.pow_succ, Nat.mul_comm (10 ^ l.length) 10, ← Nat.mul_assoc, Nat.mul_comm m 10]
    exact this
/-- a long number without leading zeros is large -/
theorem val_long {c : UInt8} {l : Str} (hc : isDigit c = true) (h0 : c.toNat ≠ 48) (hl : 16 ≤ l.length) : MAXN < val (c :: l) := by
  rw [isDigit_iff] at hc
  have h1 := foldl_pow l (c.toNat - 48)
  have h2 : 10 ^ 16 ≤ 10 ^ l.length := Nat.pow_le_pow_right (by omega) hl
  have h3 : 10 ^ l.length ≤ (c.toNat - 48) * 10 ^ l.length := Nat.le_mul_of_pos_left _ (by omega)
  have h4 : val (c :: l) = l.foldl (fun n (c : UInt8) => 10 * n + (c.toNat - 48)) (c.toNat - 48) := by simp [val]
  rw [h4]
  have h5 : MAXN < 10 ^ 16 := by decide
  omega
theorem rint_eq {s : Str} (hs : s.length ≤ 16) (hd : ∀ c ∈ s, isDigit c = true) : ∀ (k i n : Nat), s.length < k + i → i ≤ s.length → n < 10 ^ i →
    r09_Int_l1 s k (n : Int) (i : Int) = some ((((s.drop i).foldl (fun n (c : UInt8) => 10 * n + (c.toNat - 48)) n : Nat) : Int), decide ((s.drop i).foldl (fun n (c : UInt8) => 10 * n + (c.toNat - 48)) n ≤ MAXN))
  | 0, i, n, h, h', _ => by omega
  | k + 1, i, n, h, h', hn => by
    have h16 : 10 ^ i ≤ 10 ^ 16 := Nat.pow_le_pow_right (by omega) (by omega)
    have hp : 10 ^ 16 = 10000000000000000 := by decide
    rw [r09_Int_l1]
    by_cases hi : i < s.length
    · have hdi := hd s[i] (List.getElem_mem hi)
      have hdj := hdi
      rw [isDigit_iff] at hdj
      have e := getD_drop hi
      have e0 : s.getD i 0 = s[i] := by rw [List.getD_eq_getElem?_getD, List.getElem?_eq_getElem hi, Option.getD_some]
      rw [e, e0]
      simp (disch := omega) only [dflt, e0, rdigit_eq, hdi, w64_ok, idx_ok, sl_ok, app_ok, chk_ok, if_pos, if_neg, bind1_some, bind2_some, bind3_some, bind4_some, bind5_some, bind1_none, bind2_none, bind3_none, decide_eq_true_eq, beq_iff_eq, bne_iff_ne, ne_eq, Bool.and_eq_true, Bool.or_eq_true, Bool.not_eq_true', Bool.not_eq_true, decide_eq_false_iff_not, beq_eq_false_iff_ne, bne_eq_false_iff_eq, Int.toNat_add, Int.toNat_natCast, Int.reduceToNat, Int.zero_add, Int.add_zero, Nat.add_zero, Nat.zero_add, Bool.true_and, Bool.and_true, Bool.false_and, Bool.and_false, Bool.true_or, Bool.or_true, Bool.false_or, Bool.or_false, Bool.not_true, Bool.not_false, Bool.false_eq_true, Bool.true_eq_false, reduceCtorEq, not_true_eq_false, not_false_eq_true, if_true, if_false, decide_true, decide_false]
      rw [show 10 * (n : Int) + (s[i].toNat : Int) - 48 = ((10 * n + (s[i].toNat - 48) : Nat) : Int) from by omega, show (i : Int) + 1 = ((i + 1 : Nat) : Int) from rfl]
      rw [rint_eq hs hd k (i + 1) _ (by omega) (by omega) (by rw [Nat.pow_succ]; omega)]
      rw [List.foldl_cons]
    · have e : i = s.length := by omega
      rw [e]
      simp (disch := omega) only [w64_ok, idx_ok, sl_ok, app_ok, chk_ok, if_pos, if_neg, bind1_some, bind2_some, bind3_some, bind4_some, bind5_some, bind1_none, bind2_none, bind3_none, decide_eq_true_eq, beq_iff_eq, bne_iff_ne, ne_eq, Bool.and_eq_true, Bool.or_eq_true, Bool.not_eq_true', Bool.not_eq_true, decide_eq_false_iff_not, beq_eq_false_iff_ne, bne_eq_false_iff_eq, Int.toNat_add, Int.toNat_natCast, Int.reduceToNat, Int.zero_add, Int.add_zero, Nat.add_zero, Nat.zero_add, Bool.true_and, Bool.and_true, Bool.false_and, Bool.and_false, Bool.true_or, Bool.or_true, Bool.false_or, Bool.or_false, Bool.not_true, Bool.not_false, Bool.false_eq_true, Bool.true_eq_false, reduceCtorEq, not_true_eq_false, not_false_eq_true, if_true, if_false, decide_true, decide_false]
      simp [MAXN]; omega
/-- is a text of digits a number, as the reference asks? -/
theorem rInt_ok {s : Str} (hd : ∀ c ∈ s, isDigit c = true) (hne : s ≠ []) : r09_Int s = if 16 < s.length ∨ (1 < s.length ∧ (s.getD 0 0).toNat = 48) then some (0, false) else some ((val s : Int), decide (val s ≤ MAXN)) := by
  unfold r09_Int
  have hb : (s == ([] : Str)) = false := by simpa using hne
  by_cases h1 : 16 < s.length
  · have : decide ((16 : Int) < (s.length : Int)) = true := by simp; omega
    rw [if_pos (show 16 < s.length ∨ (1 < s.length ∧ (s.getD 0 0).toNat = 48) from .inl h1), hb, this]
    rfl
  · have h1' : decide ((16 : Int) < (s.length : Int)) = false := by simp; omega
    have hz := rint_eq (s := s) (by omega) hd BIG 0 0 (by unfold BIG; omega) (by omega) (by simp)
    by_cases h2 : 1 < s.length
    · by_cases h3 : (s.getD 0 0).toNat = 48
      · rw [if_pos (show 16 < s.length ∨ (1 < s.length ∧ (s.getD 0 0).toNat = 48) from .inr ⟨h2, h3⟩), hb, h1']
        simp (disch := omega) only [dflt, w64_ok, idx_ok, sl_ok, app_ok, chk_ok, if_pos, if_neg, bind1_some, bind2_some, bind3_some, bind4_some, bind5_some, bind1_none, bind2_none, bind3_none, decide_eq_true_eq, beq_iff_eq, bne_iff_ne, ne_eq, Bool.and_eq_true, Bool.or_eq_true, Bool.not_eq_true', Bool.not_eq_true, decide_eq_false_iff_not, beq_eq_false_iff_ne, bne_eq_false_iff_eq, Int.toNat_add, Int.toNat_natCast, Int.reduceToNat, Int.zero_add, Int.add_zero, Nat.add_zero, Nat.zero_add, Bool.true_and, Bool.and_true, Bool.false_and, Bool.and_false, Bool.true_or, Bool.or_true, Bool.false_or, Bool.or_false, Bool.not_true, Bool.not_false, Bool.false_eq_true, Bool.true_eq_false, reduceCtorEq, not_true_eq_false, not_false_eq_true, if_true, if_false, decide_true, decide_false]
      · rw [if_neg (show ¬ (16 < s.length ∨ (1 < s.length ∧ (s.getD 0 0).toNat = 48)) from by omega), hb, h1']
        simp (disch := omega) only [dflt, w64_ok, idx_ok, sl_ok, app_ok, chk_ok, if_pos, if_neg, bind1_some, bind2_some, bind3_some, bind4_some, bind5_some, bind1_none, bind2_none, bind3_none, decide_eq_true_eq, beq_iff_eq, bne_iff_ne, ne_eq, Bool.and_eq_true, Bool.or_eq_true, Bool.not_eq_true', Bool.not_eq_true, decide_eq_false_iff_not, beq_eq_false_iff_ne, bne_eq_false_iff_eq, Int.toNat_add, Int.toNat_natCast, Int.reduceToNat, Int.zero_add, Int.add_zero, Nat.add_zero, Nat.zero_add, Bool.true_and, Bool.and_true, Bool.false_and, Bool.and_false, Bool.true_or, Bool.or_true, Bool.false_or, Bool.or_false, Bool.not_true, Bool.not_false, Bool.false_eq_true, Bool.true_eq_false, reduceCtorEq, not_true_eq_false, not_false_eq_true, if_true, if_false, decide_true, decide_false]
        exact hz
    · rw [if_neg (show ¬ (16 < s.length ∨ (1 < s.length ∧ (s.getD 0 0).toNat = 48)) from by omega), hb, h1']
      simp (disch := omega) only [w64_ok, idx_ok, sl_ok, app_ok, chk_ok, if_pos, if_neg, bind1_some, bind2_some, bind3_some, bind4_some, bind5_some, bind1_none, bind2_none, bind3_none, decide_eq_true_eq, beq_iff_eq, bne_iff_ne, ne_eq, Bool.and_eq_true, Bool.or_eq_true, Bool.not_eq_true', Bool.not_eq_true, decide_eq_false_iff_not, beq_eq_false_iff_ne, bne_eq_false_iff_eq, Int.toNat_add, Int.toNat_natCast, Int.reduceToNat, Int.zero_add, Int.add_zero, Nat.add_zero, Nat.zero_add, Bool.true_and, Bool.and_true, Bool.false_and, Bool.and_false, Bool.true_or, Bool.or_true, Bool.false_or, Bool.or_false, Bool.not_true, Bool.not_false, Bool.false_eq_true, Bool.true_eq_false, reduceCtorEq, not_true_eq_false, not_false_eq_true, if_true, if_false, decide_true, decide_false]
      exact hz
end Go.Ft

namespace Go.Ft
open Go

/-! operators -/
def isOp (s : Str) : Bool := ((s == ([124, 124] : Str)) || ((s == ([38, 38] : Str)) || ((s == ([61, 61] : Str)) || ((s == ([33, 61] : Str)) || ((s == ([60, 61] : Str)) || ((s == ([62, 61] : Str)) || ((s == ([60] : Str)) || ((s == ([62] : Str)) || ((s == ([43] : Str)) || ((s == ([45] : Str)) || ((s == ([42] : Str)) || ((s == ([47] : Str)) || ((s == ([37] : Str)) || ((s == ([33] : Str)) || ((s == ([63] : Str)) || ((s == ([58] : Str)) || ((s == ([46] : Str)) || ((s == ([44] : Str)) || ((s == ([61] : Str)) || ((s == ([40] : Str)) || ((s == ([41] : Str)) || ((s == ([91] : Str)) || ((s == ([93] : Str)) || ((s == ([123] : Str)) || (s == ([125] : Str))))))))))))))))))))))))))
theorem or_ite {α : Type} (p q : Bool) (x y : α) : (if (p || q) = true then x else y) = if p = true then x else if q = true then x else y := by cases p <;> simp
theorem lop_step (s : Str) (a : Int) (k : Nat) (x : Int) : lexer_operator_l1 s a (k + 1) x = if decide (x < (([2, 1] : List Int).length : Int)) then
      bind1 (idx ([2, 1] : List Int) x) fun n1 =>
      if decide ((s.length : Int) < (w64 (a + n1))) then lexer_operator_l1 s a k (w64 (x + 1))
      else bind1 (sl s a (w64 (a + n1))) fun s1 => if isOp s1 then some ((ApiToken.mk 4 s1 a), (w64 (a + n1)), 0) else lexer_operator_l1 s a k (w64 (x + 1))
    else some ((ApiToken.mk 0 ([] : Str) 0), 0, 5) := by
  have key : ∀ (s1 : Str) (x y : Option (ApiToken × Int × Int)), (if isOp s1 = true then x else y) = _ := fun s1 x y => by unfold isOp; simp only [or_ite]; rfl
  rw [lexer_operator_l1]
  congr 1
  congr 1
  funext n1
  congr 1
  congr 1
  funext s1
  exact (key s1 _ _).symm

attribute [local congr] ite_c1
/-- the operator at the head of a text: its length -/
def opn : Str → Nat
  | a :: b :: _ => if isOp [a, b] then 2 else if isOp [a] then 1 else 0
  | [a] => if isOp [a] then 1 else 0
  | [] => 0
theorem take_drop2 {s : Str} {i : Nat} (h : i + 1 < s.length) : (s.take (i + 2)).drop i = [s.getD i 0, s.getD (i + 1) 0] := by
  rw [List.drop_take, getD_drop (by omega), getD_drop h]
  rw [show i + 2 - i = 2 from by omega]
  rfl
theorem take_drop1 {s : Str} {i : Nat} (h : i < s.length) : (s.take (i + 1)).drop i = [s.getD i 0] := by
  rw [List.drop_take, getD_drop h]
  rw [show i + 1 - i = 1 from by omega]
  rfl
theorem lop_ok {s : Str} (hs : s.length ≤ 2147483648) {i : Nat} (h : i < s.length) : lexer_operator s (i : Int) =
    some (if opn (s.drop i) = 0 then (⟨0, [], 0⟩, 0, 5) else (⟨4, (s.drop i).take (opn (s.drop i)), i⟩, ((i + opn (s.drop i) : Nat) : Int), 0)) := by
  unfold lexer_operator
  obtain ⟨m, hm⟩ : ∃ m, BIG = m + 3 := ⟨BIG - 3, rfl⟩
  rw [hm, lop_step, lop_step, lop_step]
  have e0 : idx ([2, 1] : List Int) 0 = some 2 := rfl
  have e1 : idx ([2, 1] : List Int) 1 = some 1 := rfl
  have el : (([2, 1] : List Int).length : Int) = 2 := rfl
  rw [el]
  by_cases h2 : i + 1 < s.length
  · rw [getD_drop h, getD_drop h2]
    simp (disch := omega) only [e0, e1, w64_ok, idx_ok, sl_ok, app_ok, chk_ok, if_pos, if_neg, bind1_some, bind2_some, bind3_some, bind4_some, bind5_some, bind1_none, bind2_none, bind3_none, decide_eq_true_eq, beq_iff_eq, bne_iff_ne, ne_eq, Bool.and_eq_true, Bool.or_eq_true, Bool.not_eq_true', Bool.not_eq_true, decide_eq_false_iff_not, beq_eq_false_iff_ne, bne_eq_false_iff_eq, Int.toNat_add, Int.toNat_natCast, Int.reduceToNat, Int.zero_add, Int.add_zero, Nat.add_zero, Nat.zero_add, Bool.true_and, Bool.and_true, Bool.false_and, Bool.and_false, Bool.true_or, Bool.or_true, Bool.false_or, Bool.or_false, Bool.not_true, Bool.not_false, Bool.false_eq_true, Bool.true_eq_false, reduceCtorEq, not_true_eq_false, not_false_eq_true, if_true, if_false, decide_true, decide_false]
    rw [take_drop2 h2]
    unfold opn
    cases h3 : isOp [s.getD i 0, s.getD (i + 1) 0] with
    | true => simp (disch := omega) only [h3, w64_ok, idx_ok, sl_ok, app_ok, chk_ok, if_pos, if_neg, bind1_some, bind2_some, bind3_some, bind4_some, bind5_some, bind1_none, bind2_none, bind3_none, decide_eq_true_eq, beq_iff_eq, bne_iff_ne, ne_eq, Bool.and_eq_true, Bool.or_eq_true, Bool.not_eq_true', Bool.not_eq_true, decide_eq_false_iff_not, beq_eq_false_iff_ne, bne_eq_false_iff_eq, Int.toNat_add, Int.toNat_natCast, Int.reduceToNat, Int.zero_add, Int.add_zero, Nat.add_zero, Nat.zero_add, Bool.true_and, Bool.and_true, Bool.false_and, Bool.and_false, Bool.true_or, Bool.or_true, Bool.false_or, Bool.or_false, Bool.not_true, Bool.not_false, Bool.false_eq_true, Bool.true_eq_false, reduceCtorEq, not_true_eq_false, not_false_eq_true, if_true, if_false, decide_true, decide_false]; rfl
    | false =>
      simp (disch := omega) only [h3, w64_ok, idx_ok, sl_ok, app_ok, chk_ok, if_pos, if_neg, bind1_some, bind2_some, bind3_some, bind4_some, bind5_some, bind1_none, bind2_none, bind3_none, decide_eq_true_eq, beq_iff_eq, bne_iff_ne, ne_eq, Bool.and_eq_true, Bool.or_eq_true, Bool.not_eq_true', Bool.not_eq_true, decide_eq_false_iff_not, beq_eq_false_iff_ne, bne_eq_false_iff_eq, Int.toNat_add, Int.toNat_natCast, Int.reduceToNat, Int.zero_add, Int.add_zero, Nat.add_zero, Nat.zero_add, Bool.true_and, Bool.and_true, Bool.false_and, Bool.and_false, Bool.true_or, Bool.or_true, Bool.false_or, Bool.or_false, Bool.not_true, Bool.not_false, Bool.false_eq_true, Bool.true_eq_false, reduceCtorEq, not_true_eq_false, not_false_eq_true, if_true, if_false, decide_true, decide_false]
      rw [take_drop1 h]
      cases h4 : isOp [s.getD i 0] with
      | true => simp (disch := omega) only [h3, h4, w64_ok, idx_ok, sl_ok, app_ok, chk_ok, if_pos, if_neg, bind1_some, bind2_some, bind3_some, bind4_some, bind5_some, bind1_none, bind2_none, bind3_none, decide_eq_true_eq, beq_iff_eq, bne_iff_ne, ne_eq, Bool.and_eq_true, Bool.or_eq_true, Bool.not_eq_true', Bool.not_eq_true, decide_eq_false_iff_not, beq_eq_false_iff_ne, bne_eq_false_iff_eq, Int.toNat_add, Int.toNat_natCast, Int.reduceToNat, Int.zero_add, Int.add_zero, Nat.add_zero, Nat.zero_add, Bool.true_and, Bool.and_true, Bool.false_and, Bool.and_false, Bool.true_or, Bool.or_true, Bool.false_or, Bool.or_false, Bool.not_true, Bool.not_false, Bool.false_eq_true, Bool.true_eq_false, reduceCtorEq, not_true_eq_false, not_false_eq_true, if_true, if_false, decide_true, decide_false]; rfl
      | false => simp (disch := omega) only [h3, h4, w64_ok, idx_ok, sl_ok, app_ok, chk_ok, if_pos, if_neg, bind1_some, bind2_some, bind3_some, bind4_some, bind5_some, bind1_none, bind2_none, bind3_none, decide_eq_true_eq, beq_iff_eq, bne_iff_ne, ne_eq, Bool.and_eq_true, Bool.or_eq_true, Bool.not_eq_true', Bool.not_eq_true, decide_eq_false_iff_not, beq_eq_false_iff_ne, bne_eq_false_iff_eq, Int.toNat_add, Int.toNat_natCast, Int.reduceToNat, Int.zero_add, Int.add_zero, Nat.add_zero, Nat.zero_add, Bool.true_and, Bool.and_true, Bool.false_and, Bool.and_false, Bool.true_or, Bool.or_true, Bool.false_or, Bool.or_false, Bool.not_true, Bool.not_false, Bool.false_eq_true, Bool.true_eq_false, reduceCtorEq, not_true_eq_false, not_false_eq_true, if_true, if_false, decide_true, decide_false]
  · rw [getD_drop h, List.drop_eq_nil_of_le (by omega : s.length ≤ i + 1)]
    simp (disch := omega) only [e0, e1, w64_ok, idx_ok, sl_ok, app_ok, chk_ok, if_pos, if_neg, bind1_some, bind2_some, bind3_some, bind4_some, bind5_some, bind1_none, bind2_none, bind3_none, decide_eq_true_eq, beq_iff_eq, bne_iff_ne, ne_eq, Bool.and_eq_true, Bool.or_eq_true, Bool.not_eq_true', Bool.not_eq_true, decide_eq_false_iff_not, beq_eq_false_iff_ne, bne_eq_false_iff_eq, Int.toNat_add, Int.toNat_natCast, Int.reduceToNat, Int.zero_add, Int.add_zero, Nat.add_zero, Nat.zero_add, Bool.true_and, Bool.and_true, Bool.false_and, Bool.and_false, Bool.true_or, Bool.or_true, Bool.false_or, Bool.or_false, Bool.not_true, Bool.not_false, Bool.false_eq_true, Bool.true_eq_false, reduceCtorEq, not_true_eq_false, not_false_eq_true, if_true, if_false, decide_true, decide_false]
    rw [take_drop1 h]
    unfold opn
    cases h4 : isOp [s.getD i 0] with
    | true => simp (disch := omega) only [h4, w64_ok, idx_ok, sl_ok, app_ok, chk_ok, if_pos, if_neg, bind1_some, bind2_some, bind3_some, bind4_some, bind5_some, bind1_none, bind2_none, bind3_none, decide_eq_true_eq, beq_iff_eq, bne_iff_ne, ne_eq, Bool.and_eq_true, Bool.or_eq_true, Bool.not_eq_true', Bool.not_eq_true, decide_eq_false_iff_not, beq_eq_false_iff_ne, bne_eq_false_iff_eq, Int.toNat_add, Int.toNat_natCast, Int.reduceToNat, Int.zero_add, Int.add_zero, Nat.add_zero, Nat.zero_add, Bool.true_and, Bool.and_true, Bool.false_and, Bool.and_false, Bool.true_or, Bool.or_true, Bool.false_or, Bool.or_false, Bool.not_true, Bool.not_false, Bool.false_eq_true, Bool.true_eq_false, reduceCtorEq, not_true_eq_false, not_false_eq_true, if_true, if_false, decide_true, decide_false]; rfl
    | false => simp (disch := omega) only [h4, w64_ok, idx_ok, sl_ok, app_ok, chk_ok, if_pos, if_neg, bind1_some, bind2_some, bind3_some, bind4_some, bind5_some, bind1_none, bind2_none, bind3_none, decide_eq_true_eq, beq_iff_eq, bne_iff_ne, ne_eq, Bool.and_eq_true, Bool.or_eq_true, Bool.not_eq_true', Bool.not_eq_true, decide_eq_false_iff_not, beq_eq_false_iff_ne, bne_eq_false_iff_eq, Int.toNat_add, Int.toNat_natCast, Int.reduceToNat, Int.zero_add, Int.add_zero, Nat.add_zero, Nat.zero_add, Bool.true_and, Bool.and_true, Bool.false_and, Bool.and_false, Bool.true_or, Bool.or_true, Bool.false_or, Bool.or_false, Bool.not_true, Bool.not_false, Bool.false_eq_true, Bool.true_eq_false, reduceCtorEq, not_true_eq_false, not_false_eq_true, if_true, if_false, decide_true, decide_false]
theorem rop2 (s : Str) (a : Int) : ∀ k : Nat, r09_operator_l2 s a (k + 20) 0 = bind1 (idx s a) fun c => if isOp [c] then some 1 else some 0 := by
  intro k
  have d0 : idx ([60, 62, 43, 45, 42, 47, 37, 33, 63, 58, 46, 44, 61, 40, 41, 91, 93, 123, 125] : Str) 0 = some 60 := rfl
  have d1 : idx ([60, 62, 43, 45, 42, 47, 37, 33, 63, 58, 46, 44, 61, 40, 41, 91, 93, 123, 125] : Str) 1 = some 62 := rfl
  have d2 : idx ([60, 62, 43, 45, 42, 47, 37, 33, 63, 58, 46, 44, 61, 40, 41, 91, 93, 123, 125] : Str) 2 = some 43 := rfl
  have d3 : idx ([60, 62, 43, 45, 42, 47, 37, 33, 63, 58, 46, 44, 61, 40, 41, 91, 93, 123, 125] : Str) 3 = some 45 := rfl
  have d4 : idx ([60, 62, 43, 45, 42, 47, 37, 33, 63, 58, 46, 44, 61, 40, 41, 91, 93, 123, 125] : Str) 4 = some 42 := rfl
  have d5 : idx ([60, 62, 43, 45, 42, 47, 37, 33, 63, 58, 46, 44, 61, 40, 41, 91, 93, 123, 125] : Str) 5 = some 47 := rfl
  have d6 : idx ([60, 62, 43, 45, 42, 47, 37, 33, 63, 58, 46, 44, 61, 40, 41, 91, 93, 123, 125] : Str) 6 = some 37 := rfl
  have d7 : idx ([60, 62, 43, 45, 42, 47, 37, 33, 63, 58, 46, 44, 61, 40, 41, 91, 93, 123, 125] : Str) 7 = some 33 := rfl
  have d8 : idx ([60, 62, 43, 45, 42, 47, 37, 33, 63, 58, 46, 44, 61, 40, 41, 91, 93, 123, 125] : Str) 8 = some 63 := rfl
  have d9 : idx ([60, 62, 43, 45, 42, 47, 37, 33, 63, 58, 46, 44, 61, 40, 41, 91, 93, 123, 125] : Str) 9 = some 58 := rfl
  have d10 : idx ([60, 62, 43, 45, 42, 47, 37, 33, 63, 58, 46, 44, 61, 40, 41, 91, 93, 123, 125] : Str) 10 = some 46 := rfl
  have d11 : idx ([60, 62, 43, 45, 42, 47, 37, 33, 63, 58, 46, 44, 61, 40, 41, 91, 93, 123, 125] : Str) 11 = some 44 := rfl
  have d12 : idx ([60, 62, 43, 45, 42, 47, 37, 33, 63, 58, 46, 44, 61, 40, 41, 91, 93, 123, 125] : Str) 12 = some 61 := rfl
  have d13 : idx ([60, 62, 43, 45, 42, 47, 37, 33, 63, 58, 46, 44, 61, 40, 41, 91, 93, 123, 125] : Str) 13 = some 40 := rfl
  have d14 : idx ([60, 62, 43, 45, 42, 47, 37, 33, 63, 58, 46, 44, 61, 40, 41, 91, 93, 123, 125] : Str) 14 = some 41 := rfl
  have d15 : idx ([60, 62, 43, 45, 42, 47, 37, 33, 63, 58, 46, 44, 61, 40, 41, 91, 93, 123, 125] : Str) 15 = some 91 := rfl
  have d16 : idx ([60, 62, 43, 45, 42, 47, 37, 33, 63, 58, 46, 44, 61, 40, 41, 91, 93, 123, 125] : Str) 16 = some 93 := rfl
  have d17 : idx ([60, 62, 43, 45, 42, 47, 37, 33, 63, 58, 46, 44, 61, 40, 41, 91, 93, 123, 125] : Str) 17 = some 123 := rfl
  have d18 : idx ([60, 62, 43, 45, 42, 47, 37, 33, 63, 58, 46, 44, 61, 40, 41, 91, 93, 123, 125] : Str) 18 = some 125 := rfl
  cases hc : idx s a with
  | none => rw [r09_operator_l2]; simp [hc]
  | some c =>
    have f : ∀ n : Nat, ((c.toNat : Int) == ((UInt8.ofNat n).toNat : Int)) = (c == UInt8.ofNat n) := by
      intro n
      by_cases h : c = UInt8.ofNat n
      · subst h; simp
      · have h' : ¬ c.toNat = (UInt8.ofNat n).toNat := fun h2 => h (UInt8.toNat_inj.1 h2)
        have h3 : ¬ ((c.toNat : Int) = ((UInt8.ofNat n).toNat : Int)) := by omega
        simp only [beq_eq_false_iff_ne.2 h, beq_eq_false_iff_ne.2 h3]
    have g : ∀ i : Int, 0 ≤ i → i < 19 → ∀ m : Nat, ∀ d : UInt8, idx ([60, 62, 43, 45, 42, 47, 37, 33, 63, 58, 46, 44, 61, 40, 41, 91, 93, 123, 125] : Str) i = some d → r09_operator_l2 s a (m + 1) i = if c == d then some 1 else r09_operator_l2 s a m (i + 1) := by
      intro i h0 h1 m d hd
      rw [r09_operator_l2]
      simp (disch := omega) only [hc, hd, w64_ok, idx_ok, sl_ok, app_ok, chk_ok, if_pos, if_neg, bind1_some, bind2_some, bind3_some, bind4_some, bind5_some, bind1_none, bind2_none, bind3_none, decide_eq_true_eq, beq_iff_eq, bne_iff_ne, ne_eq, Bool.and_eq_true, Bool.or_eq_true, Bool.not_eq_true', Bool.not_eq_true, decide_eq_false_iff_not, beq_eq_false_iff_ne, bne_eq_false_iff_eq, Int.toNat_add, Int.toNat_natCast, Int.reduceToNat, Int.zero_add, Int.add_zero, Nat.add_zero, Nat.zero_add, Bool.true_and, Bool.and_true, Bool.false_and, Bool.and_false, Bool.true_or, Bool.or_true, Bool.false_or, Bool.or_false, Bool.not_true, Bool.not_false, Bool.false_eq_true, Bool.true_eq_false, reduceCtorEq, not_true_eq_false, not_false_eq_true, if_true, if_false, decide_true, decide_false]
      have := f d.toNat
      rw [UInt8.ofNat_toNat] at this
      by_cases h : c = d
      · subst h; simp
      · have h' : ¬ (c.toNat : Int) = (d.toNat : Int) := fun h2 => h (UInt8.toNat_inj.1 (by omega))
        simp [h, h']
    have z : ∀ m : Nat, r09_operator_l2 s a (m + 1) 19 = some 0 := by intro m; rw [r09_operator_l2]; simp
    simp only [bind1_some]
    rw [g 0 (by omega) (by omega) (k + 19) 60 d0]
    simp only [Int.reduceAdd]
    rw [g 1 (by omega) (by omega) (k + 18) 62 d1]
    simp only [Int.reduceAdd]
    rw [g 2 (by omega) (by omega) (k + 17) 43 d2]
    simp only [Int.reduceAdd]
    rw [g 3 (by omega) (by omega) (k + 16) 45 d3]
    simp only [Int.reduceAdd]
    rw [g 4 (by omega) (by omega) (k + 15) 42 d4]
    simp only [Int.reduceAdd]
    rw [g 5 (by omega) (by omega) (k + 14) 47 d5]
    simp only [Int.reduceAdd]
    rw [g 6 (by omega) (by omega) (k + 13) 37 d6]
    simp only [Int.reduceAdd]
    rw [g 7 (by omega) (by omega) (k + 12) 33 d7]
    simp only [Int.reduceAdd]
    rw [g 8 (by omega) (by omega) (k + 11) 63 d8]
    simp only [Int.reduceAdd]
    rw [g 9 (by omega) (by omega) (k + 10) 58 d9]
    simp only [Int.reduceAdd]
    rw [g 10 (by omega) (by omega) (k + 9) 46 d10]
    simp only [Int.reduceAdd]
    rw [g 11 (by omega) (by omega) (k + 8) 44 d11]
    simp only [Int.reduceAdd]
    rw [g 12 (by omega) (by omega) (k + 7) 61 d12]
    simp only [Int.reduceAdd]
    rw [g 13 (by omega) (by omega) (k + 6) 40 d13]
    simp only [Int.reduceAdd]
    rw [g 14 (by omega) (by omega) (k + 5) 41 d14]
    simp only [Int.reduceAdd]
    rw [g 15 (by omega) (by omega) (k + 4) 91 d15]
    simp only [Int.reduceAdd]
    rw [g 16 (by omega) (by omega) (k + 3) 93 d16]
    simp only [Int.reduceAdd]
    rw [g 17 (by omega) (by omega) (k + 2) 123 d17]
    simp only [Int.reduceAdd]
    rw [g 18 (by omega) (by omega) (k + 1) 125 d18]
    simp only [Int.reduceAdd]
    rw [z]
    have key : isOp [c] = ((c == 60) || ((c == 62) || ((c == 43) || ((c == 45) || ((c == 42) || ((c == 47) || ((c == 37) || ((c == 33) || ((c == 63) || ((c == 58) || ((c == 46) || ((c == 44) || ((c == 61) || ((c == 40) || ((c == 41) || ((c == 91) || ((c == 93) || ((c == 123) || (c == 125))))))))))))))))))) := by
      simp [isOp, List.cons_beq_cons]
    rw [key]
    simp only [or_ite]

theorem rop1 (s : Str) (a : Int) (k : Nat) (b : Str) (hb : sl s a (w64 (a + 2)) = some b) (hl : b.length = 2) (h0 : w64 (a + 2) ≤ s.length) :
    r09_operator_l1 s a (k + 7) 0 = if isOp b then some 2 else r09_operator_l2 s a BIG 0 := by
  have g : ∀ i : Int, 0 ≤ i → i < 12 → ∀ m : Nat, ∀ d : Str, sl ([124, 124, 38, 38, 61, 61, 33, 61, 60, 61, 62, 61] : Str) i (i + 2) = some d → r09_operator_l1 s a (m + 1) i = if b == d then some 2 else r09_operator_l1 s a m (i + 2) := by
    intro i h1 h2 m d hd
    rw [r09_operator_l1]
    simp only [h0, decide_true, if_true, hb, bind1_some]
    rw [w64_ok (by omega) (by omega), hd]
    have h3 : decide (i < 12) = true := by simpa using h2
    simp only [h3, if_true, bind1_some]
  have z : ∀ m : Nat, r09_operator_l1 s a (m + 1) 12 = r09_operator_l2 s a BIG 0 := by intro m; rw [r09_operator_l1]; simp
  rw [g 0 (by omega) (by omega) (k + 6) [124, 124] rfl, g _ (by omega) (by omega) (k + 5) [38, 38] rfl, g _ (by omega) (by omega) (k + 4) [61, 61] rfl, g _ (by omega) (by omega) (k + 3) [33, 61] rfl, g _ (by omega) (by omega) (k + 2) [60, 61] rfl, g _ (by omega) (by omega) (k + 1) [62, 61] rfl]
  rw [show (0 : Int) + 2 + 2 + 2 + 2 + 2 + 2 = 12 from rfl, z]
  have key : isOp b = ((b == [124, 124]) || ((b == [38, 38]) || ((b == [61, 61]) || ((b == [33, 61]) || ((b == [60, 61]) || (b == [62, 61])))))) := by
    match b, hl with
    | [x, y], _ => simp [isOp]
  rw [key]
  simp only [or_ite]
theorem rop_ok {s : Str} (hs : s.length ≤ 2147483648) {i : Nat} (h : i < s.length) : r09_operator s (i : Int) = some ((opn (s.drop i) : Nat) : Int) := by
  unfold r09_operator
  obtain ⟨m, hm⟩ : ∃ m, BIG = m + 20 := ⟨BIG - 20, rfl⟩
  have hc : idx s (i : Int) = some (s.getD i 0) := by simp (disch := omega) only [dflt, w64_ok, idx_ok, sl_ok, app_ok, chk_ok, if_pos, if_neg, bind1_some, bind2_some, bind3_some, bind4_some, bind5_some, bind1_none, bind2_none, bind3_none, decide_eq_true_eq, beq_iff_eq, bne_iff_ne, ne_eq, Bool.and_eq_true, Bool.or_eq_true, Bool.not_eq_true', Bool.not_eq_true, decide_eq_false_iff_not, beq_eq_false_iff_ne, bne_eq_false_iff_eq, Int.toNat_add, Int.toNat_natCast, Int.reduceToNat, Int.zero_add, Int.add_zero, Nat.add_zero, Nat.zero_add, Bool.true_and, Bool.and_true, Bool.false_and, Bool.and_false, Bool.true_or, Bool.or_true, Bool.false_or, Bool.or_false, Bool.not_true, Bool.not_false, Bool.false_eq_true, Bool.true_eq_false, reduceCtorEq, not_true_eq_false, not_false_eq_true, if_true, if_false, decide_true, decide_false]
  by_cases h2 : i + 1 < s.length
  · have hb : sl s (i : Int) (w64 ((i : Int) + 2)) = some [s.getD i 0, s.getD (i + 1) 0] := by
      simp (disch := omega) only [w64_ok, idx_ok, sl_ok, app_ok, chk_ok, if_pos, if_neg, bind1_some, bind2_some, bind3_some, bind4_some, bind5_some, bind1_none, bind2_none, bind3_none, decide_eq_true_eq, beq_iff_eq, bne_iff_ne, ne_eq, Bool.and_eq_true, Bool.or_eq_true, Bool.not_eq_true', Bool.not_eq_true, decide_eq_false_iff_not, beq_eq_false_iff_ne, bne_eq_false_iff_eq, Int.toNat_add, Int.toNat_natCast, Int.reduceToNat, Int.zero_add, Int.add_zero, Nat.add_zero, Nat.zero_add, Bool.true_and, Bool.and_true, Bool.false_and, Bool.and_false, Bool.true_or, Bool.or_true, Bool.false_or, Bool.or_false, Bool.not_true, Bool.not_false, Bool.false_eq_true, Bool.true_eq_false, reduceCtorEq, not_true_eq_false, not_false_eq_true, if_true, if_false, decide_true, decide_false]
      rw [take_drop2 h2]
    rw [hm, show m + 20 = (m + 13) + 7 from rfl, rop1 s _ _ _ hb rfl (by rw [w64_ok (by omega) (by omega)]; omega), hm, rop2, hc]
    rw [getD_drop h, getD_drop h2]
    unfold opn
    cases h3 : isOp [s.getD i 0, s.getD (i + 1) 0] with
    | true => simp (disch := omega) only [h3, w64_ok, idx_ok, sl_ok, app_ok, chk_ok, if_pos, if_neg, bind1_some, bind2_some, bind3_some, bind4_some, bind5_some, bind1_none, bind2_none, bind3_none, decide_eq_true_eq, beq_iff_eq, bne_iff_ne, ne_eq, Bool.and_eq_true, Bool.or_eq_true, Bool.not_eq_true', Bool.not_eq_true, decide_eq_false_iff_not, beq_eq_false_iff_ne, bne_eq_false_iff_eq, Int.toNat_add, Int.toNat_natCast, Int.reduceToNat, Int.zero_add, Int.add_zero, Nat.add_zero, Nat.zero_add, Bool.true_and, Bool.and_true, Bool.false_and, Bool.and_false, Bool.true_or, Bool.or_true, Bool.false_or, Bool.or_false, Bool.not_true, Bool.not_false, Bool.false_eq_true, Bool.true_eq_false, reduceCtorEq, not_true_eq_false, not_false_eq_true, if_true, if_false, decide_true, decide_false]; rfl
    | false =>
      simp (disch := omega) only [h3, w64_ok, idx_ok, sl_ok, app_ok, chk_ok, if_pos, if_neg, bind1_some, bind2_some, bind3_some, bind4_some, bind5_some, bind1_none, bind2_none, bind3_none, decide_eq_true_eq, beq_iff_eq, bne_iff_ne, ne_eq, Bool.and_eq_true, Bool.or_eq_true, Bool.not_eq_true', Bool.not_eq_true, decide_eq_false_iff_not, beq_eq_false_iff_ne, bne_eq_false_iff_eq, Int.toNat_add, Int.toNat_natCast, Int.reduceToNat, Int.zero_add, Int.add_zero, Nat.add_zero, Nat.zero_add, Bool.true_and, Bool.and_true, Bool.false_and, Bool.and_false, Bool.true_or, Bool.or_true, Bool.false_or, Bool.or_false, Bool.not_true, Bool.not_false, Bool.false_eq_true, Bool.true_eq_false, reduceCtorEq, not_true_eq_false, not_false_eq_true, if_true, if_false, decide_true, decide_false]
      cases h4 : isOp [s.getD i 0] with
      | true => simp (disch := omega) only [h3, h4, w64_ok, idx_ok, sl_ok, app_ok, chk_ok, if_pos, if_neg, bind1_some, bind2_some, bind3_some, bind4_some, bind5_some, bind1_none, bind2_none, bind3_none, decide_eq_true_eq, beq_iff_eq, bne_iff_ne, ne_eq, Bool.and_eq_true, Bool.or_eq_true, Bool.not_eq_true', Bool.not_eq_true, decide_eq_false_iff_not, beq_eq_false_iff_ne, bne_eq_false_iff_eq, Int.toNat_add, Int.toNat_natCast, Int.reduceToNat, Int.zero_add, Int.add_zero, Nat.add_zero, Nat.zero_add, Bool.true_and, Bool.and_true, Bool.false_and, Bool.and_false, Bool.true_or, Bool.or_true, Bool.false_or, Bool.or_false, Bool.not_true, Bool.not_false, Bool.false_eq_true, Bool.true_eq_false, reduceCtorEq, not_true_eq_false, not_false_eq_true, if_true, if_false, decide_true, decide_false]; rfl
      | false => simp (disch := omega) only [h3, h4, w64_ok, idx_ok, sl_ok, app_ok, chk_ok, if_pos, if_neg, bind1_some, bind2_some, bind3_some, bind4_some, bind5_some, bind1_none, bind2_none, bind3_none, decide_eq_true_eq, beq_iff_eq, bne_iff_ne, ne_eq, Bool.and_eq_true, Bool.or_eq_true, Bool.not_eq_true', Bool.not_eq_true, decide_eq_false_iff_not, beq_eq_false_iff_ne, bne_eq_false_iff_eq, Int.toNat_add, Int.toNat_natCast, Int.reduceToNat, Int.zero_add, Int.add_zero, Nat.add_zero, Nat.zero_add, Bool.true_and, Bool.and_true, Bool.false_and, Bool.and_false, Bool.true_or, Bool.or_true, Bool.false_or, Bool.or_false, Bool.not_true, Bool.not_false, Bool.false_eq_true, Bool.true_eq_false, reduceCtorEq, not_true_eq_false, not_false_eq_true, if_true, if_false, decide_true, decide_false]; rfl
  · have g : ∀ m : Nat, ∀ j : Int, 0 ≤ j → j < 12 → r09_operator_l1 s (i : Int) (m + 1) j = r09_operator_l1 s (i : Int) m (j + 2) := by
      intro m j h0 h1
      rw [r09_operator_l1]
      simp (disch := omega) only [w64_ok, idx_ok, sl_ok, app_ok, chk_ok, if_pos, if_neg, bind1_some, bind2_some, bind3_some, bind4_some, bind5_some, bind1_none, bind2_none, bind3_none, decide_eq_true_eq, beq_iff_eq, bne_iff_ne, ne_eq, Bool.and_eq_true, Bool.or_eq_true, Bool.not_eq_true', Bool.not_eq_true, decide_eq_false_iff_not, beq_eq_false_iff_ne, bne_eq_false_iff_eq, Int.toNat_add, Int.toNat_natCast, Int.reduceToNat, Int.zero_add, Int.add_zero, Nat.add_zero, Nat.zero_add, Bool.true_and, Bool.and_true, Bool.false_and, Bool.and_false, Bool.true_or, Bool.or_true, Bool.false_or, Bool.or_false, Bool.not_true, Bool.not_false, Bool.false_eq_true, Bool.true_eq_false, reduceCtorEq, not_true_eq_false, not_false_eq_true, if_true, if_false, decide_true, decide_false]
    have z : ∀ m : Nat, r09_operator_l1 s (i : Int) (m + 1) 12 = r09_operator_l2 s (i : Int) BIG 0 := by intro m; rw [r09_operator_l1]; simp
    rw [hm, show m + 20 = (m + 13 + 1 + 6) from rfl, g _ _ (by omega) (by omega), g _ _ (by omega) (by omega), g _ _ (by omega) (by omega), g _ _ (by omega) (by omega), g _ _ (by omega) (by omega), g _ _ (by omega) (by omega)]
    rw [show (0 : Int) + 2 + 2 + 2 + 2 + 2 + 2 = 12 from rfl, z, hm, rop2, hc]
    rw [getD_drop h, List.drop_eq_nil_of_le (by omega : s.length ≤ i + 1)]
    unfold opn
    cases h4 : isOp [s.getD i 0] with
    | true => simp (disch := omega) only [h4, w64_ok, idx_ok, sl_ok, app_ok, chk_ok, if_pos, if_neg, bind1_some, bind2_some, bind3_some, bind4_some, bind5_some, bind1_none, bind2_none, bind3_none, decide_eq_true_eq, beq_iff_eq, bne_iff_ne, ne_eq, Bool.and_eq_true, Bool.or_eq_true, Bool.not_eq_true', Bool.not_eq_true, decide_eq_false_iff_not, beq_eq_false_iff_ne, bne_eq_false_iff_eq, Int.toNat_add, Int.toNat_natCast, Int.reduceToNat, Int.zero_add, Int.add_zero, Nat.add_zero, Nat.zero_add, Bool.true_and, Bool.and_true, Bool.false_and, Bool.and_false, Bool.true_or, Bool.or_true, Bool.false_or, Bool.or_false, Bool.not_true, Bool.not_false, Bool.false_eq_true, Bool.true_eq_false, reduceCtorEq, not_true_eq_false, not_false_eq_true, if_true, if_false, decide_true, decide_false]; rfl
    | false => simp (disch := omega) only [h4, w64_ok, idx_ok, sl_ok, app_ok, chk_ok, if_pos, if_neg, bind1_some, bind2_some, bind3_some, bind4_some, bind5_some, bind1_none, bind2_none, bind3_none, decide_eq_true_eq, beq_iff_eq, bne_iff_ne, ne_eq, Bool.and_eq_true, Bool.or_eq_true, Bool.not_eq_true', Bool.not_eq_true, decide_eq_false_iff_not, beq_eq_false_iff_ne, bne_eq_false_iff_eq, Int.toNat_add, Int.toNat_natCast, Int.reduceToNat, Int.zero_add, Int.add_zero, Nat.add_zero, Nat.zero_add, Bool.true_and, Bool.and_true, Bool.false_and, Bool.and_false, Bool.true_or, Bool.or_true, Bool.false_or, Bool.or_false, Bool.not_true, Bool.not_false, Bool.false_eq_true, Bool.true_eq_false, reduceCtorEq, not_true_eq_false, not_false_eq_true, if_true, if_false, decide_true, decide_false]; rfl

/-! tokens -/
theorem span_word_le (l : Str) : span isDigit l ≤ span isWord l := by
  induction l with
  | nil => simp
  | cons c l ih =>
    rw [span_cons, span_cons]
    cases h : isDigit c with
    | false => simp
    | true => simp [isWord, h]; omega
/-- the letters behind digits -/
theorem span_word_lt (l : Str) : span isDigit l < span isWord l ↔ ∃ c, l[span isDigit l]? = some c ∧ isLetter c = true := by
  induction l with
  | nil => simp
  | cons c l ih =>
    rw [span_cons, span_cons]
    cases h : isDigit c with
    | false => cases h2 : isLetter c <;> simp [isWord, h, h2]
    | true => simp [isWord, h, ih]
theorem span_take (p : UInt8 → Bool) (l : Str) : ∀ c ∈ l.take (span p l), p c = true := by
  induction l with
  | nil => simp
  | cons c l ih =>
    rw [span_cons]
    split
    · rename_i h
      intro x hx
      simp only [List.take_succ_cons, List.mem_cons] at hx
      rcases hx with rfl | hx
      · exact h
      · exact ih x hx
    · simp
/-- the token at the head of a text: kind, text, how many bytes, the error -/
def tokS : Str → Int × Str × Nat × Int
  | [] => (0, [], 0, 5)
  | c :: r =>
    if isDigit c then
      let n := span isDigit (c :: r)
      if (1 < n ∧ c.toNat = 48) ∨ n < span isWord (c :: r) then (0, [], 0, 5)
      else if MAXN < val ((c :: r).take n) then (0, [], 0, 2) else (2, (c :: r).take n, n, 0)
    else if c.toNat = 34 then
      let x := txt 0 [] 1 r
      if x.2.2 = 0 then (3, x.1, x.2.1, 0) else (0, [], 0, x.2.2)
    else if isLetter c then
      let n := span isWord (c :: r)
      if 64 < n then (0, [], 0, 3) else (1, (c :: r).take n, n, 0)
    else
      let n := opn (c :: r)
      if n = 0 then (0, [], 0, 5) else (4, (c :: r).take n, n, 0)
def ltk (a : Nat) (x : Int × Str × Nat × Int) : ApiToken × Int × Int := if x.2.2.2 = 0 then (⟨x.1, x.2.1, a⟩, ((a + x.2.2.1 : Nat) : Int), 0) else (⟨0, [], 0⟩, 0, x.2.2.2)
def rtk (x : Int × Str × Nat × Int) : ApiToken × Int × Int := if x.2.2.2 = 0 then (⟨x.1, x.2.1, 0⟩, (x.2.2.1 : Int), 0) else (⟨0, [], 0⟩, 0, x.2.2.2)
end Go.Ft

namespace Go.Ft
open Go
attribute [local congr] ite_c1

theorem drop_len (s : Str) (i : Nat) : (s.drop i).length = s.length - i := List.length_drop
theorem take_drop_n (s : Str) (i n : Nat) : (s.take (i + n)).drop i = (s.drop i).take n := by
  rw [List.drop_take, Nat.add_sub_cancel_left]
theorem getD_span {s : Str} {i n : Nat} (c : UInt8) : (s.drop i)[n]? = some c ↔ s[i + n]? = some c := by rw [List.getElem?_drop]

theorem lname_ok {s : Str} (hs : s.length ≤ 2147483648) {i : Nat} (h : i < s.length) : lexer_name s (i : Int) =
    some (ltk i (if 64 < span isWord (s.drop i) then (0, [], 0, 3) else (1, (s.drop i).take (span isWord (s.drop i)), span isWord (s.drop i), 0))) := by
  have hle := span_le isWord (s.drop i)
  rw [drop_len] at hle
  unfold lexer_name
  rw [while_ok name1_eq (by omega) (by omega)]
  generalize span isWord (s.drop i) = n at hle ⊢
  simp (disch := omega) only [w64_ok, idx_ok, sl_ok, app_ok, chk_ok, if_pos, if_neg, bind1_some, bind2_some, bind3_some, bind4_some, bind5_some, bind1_none, bind2_none, bind3_none, decide_eq_true_eq, beq_iff_eq, bne_iff_ne, ne_eq, Bool.and_eq_true, Bool.or_eq_true, Bool.not_eq_true', Bool.not_eq_true, decide_eq_false_iff_not, beq_eq_false_iff_ne, bne_eq_false_iff_eq, Int.toNat_add, Int.toNat_natCast, Int.reduceToNat, Int.zero_add, Int.add_zero, Nat.add_zero, Nat.zero_add, Bool.true_and, Bool.and_true, Bool.false_and, Bool.and_false, Bool.true_or, Bool.or_true, Bool.false_or, Bool.or_false, Bool.not_true, Bool.not_false, Bool.false_eq_true, Bool.true_eq_false, reduceCtorEq, not_true_eq_false, not_false_eq_true, if_true, if_false, decide_true, decide_false]
  by_cases h1 : 64 < n
  · simp (disch := omega) only [w64_ok, idx_ok, sl_ok, app_ok, chk_ok, if_pos, if_neg, bind1_some, bind2_some, bind3_some, bind4_some, bind5_some, bind1_none, bind2_none, bind3_none, decide_eq_true_eq, beq_iff_eq, bne_iff_ne, ne_eq, Bool.and_eq_true, Bool.or_eq_true, Bool.not_eq_true', Bool.not_eq_true, decide_eq_false_iff_not, beq_eq_false_iff_ne, bne_eq_false_iff_eq, Int.toNat_add, Int.toNat_natCast, Int.reduceToNat, Int.zero_add, Int.add_zero, Nat.add_zero, Nat.zero_add, Bool.true_and, Bool.and_true, Bool.false_and, Bool.and_false, Bool.true_or, Bool.or_true, Bool.false_or, Bool.or_false, Bool.not_true, Bool.not_false, Bool.false_eq_true, Bool.true_eq_false, reduceCtorEq, not_true_eq_false, not_false_eq_true, if_true, if_false, decide_true, decide_false]; rfl
  · simp (disch := omega) only [w64_ok, idx_ok, sl_ok, app_ok, chk_ok, if_pos, if_neg, bind1_some, bind2_some, bind3_some, bind4_some, bind5_some, bind1_none, bind2_none, bind3_none, decide_eq_true_eq, beq_iff_eq, bne_iff_ne, ne_eq, Bool.and_eq_true, Bool.or_eq_true, Bool.not_eq_true', Bool.not_eq_true, decide_eq_false_iff_not, beq_eq_false_iff_ne, bne_eq_false_iff_eq, Int.toNat_add, Int.toNat_natCast, Int.reduceToNat, Int.zero_add, Int.add_zero, Nat.add_zero, Nat.zero_add, Bool.true_and, Bool.and_true, Bool.false_and, Bool.and_false, Bool.true_or, Bool.or_true, Bool.false_or, Bool.or_false, Bool.not_true, Bool.not_false, Bool.false_eq_true, Bool.true_eq_false, reduceCtorEq, not_true_eq_false, not_false_eq_true, if_true, if_false, decide_true, decide_false]
    rw [take_drop_n]; rfl

theorem lnumber_ok {s : Str} (hs : s.length ≤ 2147483648) {i : Nat} (h : i < s.length) (hd : isDigit (s.getD i 0) = true) : lexer_number s (i : Int) = some (ltk i (tokS (s.drop i))) := by
  have hle := span_le isDigit (s.drop i)
  rw [drop_len] at hle
  have hlt := span_word_lt (s.drop i)
  have htk := span_take isDigit (s.drop i)
  have hpos : 0 < span isDigit (s.drop i) := by rw [getD_drop h, span_cons, hd]; simp
  have hh : (s.drop i) = s.getD i 0 :: s.drop (i + 1) := getD_drop h
  have ht : tokS (s.drop i) = if (1 < span isDigit (s.drop i) ∧ (s.getD i 0).toNat = 48) ∨ span isDigit (s.drop i) < span isWord (s.drop i) then (0, [], 0, 5)
      else if MAXN < val ((s.drop i).take (span isDigit (s.drop i))) then (0, [], 0, 2) else (2, (s.drop i).take (span isDigit (s.drop i)), span isDigit (s.drop i), 0) := by
    rw [hh]; simp only [tokS, hd, if_true]
  rw [ht]
  unfold lexer_number
  rw [while_ok digit_eq (by omega) (by omega)]
  generalize span isDigit (s.drop i) = n at hle hlt htk hpos ⊢
  generalize span isWord (s.drop i) = m at hlt ⊢
  have e1 : sl s (i : Int) ((i + n : Nat) : Int) = some ((s.drop i).take n) := by
    simp (disch := omega) only [w64_ok, idx_ok, sl_ok, app_ok, chk_ok, if_pos, if_neg, bind1_some, bind2_some, bind3_some, bind4_some, bind5_some, bind1_none, bind2_none, bind3_none, decide_eq_true_eq, beq_iff_eq, bne_iff_ne, ne_eq, Bool.and_eq_true, Bool.or_eq_true, Bool.not_eq_true', Bool.not_eq_true, decide_eq_false_iff_not, beq_eq_false_iff_ne, bne_eq_false_iff_eq, Int.toNat_add, Int.toNat_natCast, Int.reduceToNat, Int.zero_add, Int.add_zero, Nat.add_zero, Nat.zero_add, Bool.true_and, Bool.and_true, Bool.false_and, Bool.and_false, Bool.true_or, Bool.or_true, Bool.false_or, Bool.or_false, Bool.not_true, Bool.not_false, Bool.false_eq_true, Bool.true_eq_false, reduceCtorEq, not_true_eq_false, not_false_eq_true, if_true, if_false, decide_true, decide_false]
    rw [take_drop_n]
  have e2 : ((s.drop i).take n).length = n := by simp; omega
  have e3 : ((s.drop i).take n).getD 0 0 = s.getD i 0 := by
    obtain ⟨k, rfl⟩ : ∃ k, n = k + 1 := ⟨n - 1, by omega⟩
    rw [hh]; rfl
  rw [bind1_some, e1, bind1_some, e2]
  by_cases hw : n < m
  · obtain ⟨c, hc, hl⟩ := hlt.1 hw
    rw [getD_span] at hc
    have hlt2 : i + n < s.length := (List.getElem?_eq_some_iff.1 hc).1
    have e4 : s.getD (i + n) 0 = c := by rw [List.getD_eq_getElem?_getD, hc]; rfl
    rw [if_pos (Or.inr hw)]
    by_cases h1 : 1 < n
    · by_cases h2 : (s.getD i 0).toNat = 48
      · simp (disch := omega) only [e2, e3, dflt, w64_ok, idx_ok, sl_ok, app_ok, chk_ok, if_pos, if_neg, bind1_some, bind2_some, bind3_some, bind4_some, bind5_some, bind1_none, bind2_none, bind3_none, decide_eq_true_eq, beq_iff_eq, bne_iff_ne, ne_eq, Bool.and_eq_true, Bool.or_eq_true, Bool.not_eq_true', Bool.not_eq_true, decide_eq_false_iff_not, beq_eq_false_iff_ne, bne_eq_false_iff_eq, Int.toNat_add, Int.toNat_natCast, Int.reduceToNat, Int.zero_add, Int.add_zero, Nat.add_zero, Nat.zero_add, Bool.true_and, Bool.and_true, Bool.false_and, Bool.and_false, Bool.true_or, Bool.or_true, Bool.false_or, Bool.or_false, Bool.not_true, Bool.not_false, Bool.false_eq_true, Bool.true_eq_false, reduceCtorEq, not_true_eq_false, not_false_eq_true, if_true, if_false, decide_true, decide_false]; rfl
      · simp (disch := omega) only [e2, e3, dflt, letter_eq, e4, hl, w64_ok, idx_ok, sl_ok, app_ok, chk_ok, if_pos, if_neg, bind1_some, bind2_some, bind3_some, bind4_some, bind5_some, bind1_none, bind2_none, bind3_none, decide_eq_true_eq, beq_iff_eq, bne_iff_ne, ne_eq, Bool.and_eq_true, Bool.or_eq_true, Bool.not_eq_true', Bool.not_eq_true, decide_eq_false_iff_not, beq_eq_false_iff_ne, bne_eq_false_iff_eq, Int.toNat_add, Int.toNat_natCast, Int.reduceToNat, Int.zero_add, Int.add_zero, Nat.add_zero, Nat.zero_add, Bool.true_and, Bool.and_true, Bool.false_and, Bool.and_false, Bool.true_or, Bool.or_true, Bool.false_or, Bool.or_false, Bool.not_true, Bool.not_false, Bool.false_eq_true, Bool.true_eq_false, reduceCtorEq, not_true_eq_false, not_false_eq_true, if_true, if_false, decide_true, decide_false]; rfl
    · simp (disch := omega) only [e2, e3, dflt, letter_eq, e4, hl, w64_ok, idx_ok, sl_ok, app_ok, chk_ok, if_pos, if_neg, bind1_some, bind2_some, bind3_some, bind4_some, bind5_some, bind1_none, bind2_none, bind3_none, decide_eq_true_eq, beq_iff_eq, bne_iff_ne, ne_eq, Bool.and_eq_true, Bool.or_eq_true, Bool.not_eq_true', Bool.not_eq_true, decide_eq_false_iff_not, beq_eq_false_iff_ne, bne_eq_false_iff_eq, Int.toNat_add, Int.toNat_natCast, Int.reduceToNat, Int.zero_add, Int.add_zero, Nat.add_zero, Nat.zero_add, Bool.true_and, Bool.and_true, Bool.false_and, Bool.and_false, Bool.true_or, Bool.or_true, Bool.false_or, Bool.or_false, Bool.not_true, Bool.not_false, Bool.false_eq_true, Bool.true_eq_false, reduceCtorEq, not_true_eq_false, not_false_eq_true, if_true, if_false, decide_true, decide_false]; rfl
  · by_cases hz : 1 < n ∧ (s.getD i 0).toNat = 48
    · rw [if_pos (Or.inl hz)]
      simp (disch := omega) only [e2, e3, dflt, w64_ok, idx_ok, sl_ok, app_ok, chk_ok, if_pos, if_neg, bind1_some, bind2_some, bind3_some, bind4_some, bind5_some, bind1_none, bind2_none, bind3_none, decide_eq_true_eq, beq_iff_eq, bne_iff_ne, ne_eq, Bool.and_eq_true, Bool.or_eq_true, Bool.not_eq_true', Bool.not_eq_true, decide_eq_false_iff_not, beq_eq_false_iff_ne, bne_eq_false_iff_eq, Int.toNat_add, Int.toNat_natCast, Int.reduceToNat, Int.zero_add, Int.add_zero, Nat.add_zero, Nat.zero_add, Bool.true_and, Bool.and_true, Bool.false_and, Bool.and_false, Bool.true_or, Bool.or_true, Bool.false_or, Bool.or_false, Bool.not_true, Bool.not_false, Bool.false_eq_true, Bool.true_eq_false, reduceCtorEq, not_true_eq_false, not_false_eq_true, if_true, if_false, decide_true, decide_false]; rfl
    · rw [if_neg (show ¬ ((1 < n ∧ (s.getD i 0).toNat = 48) ∨ n < m) from by omega)]
      have hb2 : (if decide (((i + n : Nat) : Int) < (s.length : Int)) then bind1 (idx s ((i + n : Nat) : Int)) fun x2 => lexer_letter x2 else some false) = some false := by
        by_cases h4 : i + n < s.length
        · simp (disch := omega) only [letter_eq, dflt, w64_ok, idx_ok, sl_ok, app_ok, chk_ok, if_pos, if_neg, bind1_some, bind2_some, bind3_some, bind4_some, bind5_some, bind1_none, bind2_none, bind3_none, decide_eq_true_eq, beq_iff_eq, bne_iff_ne, ne_eq, Bool.and_eq_true, Bool.or_eq_true, Bool.not_eq_true', Bool.not_eq_true, decide_eq_false_iff_not, beq_eq_false_iff_ne, bne_eq_false_iff_eq, Int.toNat_add, Int.toNat_natCast, Int.reduceToNat, Int.zero_add, Int.add_zero, Nat.add_zero, Nat.zero_add, Bool.true_and, Bool.and_true, Bool.false_and, Bool.and_false, Bool.true_or, Bool.or_true, Bool.false_or, Bool.or_false, Bool.not_true, Bool.not_false, Bool.false_eq_true, Bool.true_eq_false, reduceCtorEq, not_true_eq_false, not_false_eq_true, if_true, if_false, decide_true, decide_false]
          cases hl : isLetter (s.getD (i + n) 0) with
          | false => rfl
          | true =>
            exact absurd (hlt.2 ⟨_, by rw [getD_span, List.getElem?_eq_getElem h4], by rw [List.getD_eq_getElem?_getD, List.getElem?_eq_getElem h4] at hl; exact hl⟩) hw
        · simp (disch := omega) only [w64_ok, idx_ok, sl_ok, app_ok, chk_ok, if_pos, if_neg, bind1_some, bind2_some, bind3_some, bind4_some, bind5_some, bind1_none, bind2_none, bind3_none, decide_eq_true_eq, beq_iff_eq, bne_iff_ne, ne_eq, Bool.and_eq_true, Bool.or_eq_true, Bool.not_eq_true', Bool.not_eq_true, decide_eq_false_iff_not, beq_eq_false_iff_ne, bne_eq_false_iff_eq, Int.toNat_add, Int.toNat_natCast, Int.reduceToNat, Int.zero_add, Int.add_zero, Nat.add_zero, Nat.zero_add, Bool.true_and, Bool.and_true, Bool.false_and, Bool.and_false, Bool.true_or, Bool.or_true, Bool.false_or, Bool.or_false, Bool.not_true, Bool.not_false, Bool.false_eq_true, Bool.true_eq_false, reduceCtorEq, not_true_eq_false, not_false_eq_true, if_true, if_false, decide_true, decide_false]
      have hb1 : (if decide (1 < (n : Int)) then bind1 (idx ((s.drop i).take n) 0) fun x1 => some ((x1.toNat : Int) == 48) else some false) = some false := by
        by_cases h1 : 1 < n
        · simp (disch := omega) only [e2, e3, dflt, w64_ok, idx_ok, sl_ok, app_ok, chk_ok, if_pos, if_neg, bind1_some, bind2_some, bind3_some, bind4_some, bind5_some, bind1_none, bind2_none, bind3_none, decide_eq_true_eq, beq_iff_eq, bne_iff_ne, ne_eq, Bool.and_eq_true, Bool.or_eq_true, Bool.not_eq_true', Bool.not_eq_true, decide_eq_false_iff_not, beq_eq_false_iff_ne, bne_eq_false_iff_eq, Int.toNat_add, Int.toNat_natCast, Int.reduceToNat, Int.zero_add, Int.add_zero, Nat.add_zero, Nat.zero_add, Bool.true_and, Bool.and_true, Bool.false_and, Bool.and_false, Bool.true_or, Bool.or_true, Bool.false_or, Bool.or_false, Bool.not_true, Bool.not_false, Bool.false_eq_true, Bool.true_eq_false, reduceCtorEq, not_true_eq_false, not_false_eq_true, if_true, if_false, decide_true, decide_false]
          simp only [Option.some.injEq, beq_eq_false_iff_ne]
          omega
        · simp (disch := omega) only [w64_ok, idx_ok, sl_ok, app_ok, chk_ok, if_pos, if_neg, bind1_some, bind2_some, bind3_some, bind4_some, bind5_some, bind1_none, bind2_none, bind3_none, decide_eq_true_eq, beq_iff_eq, bne_iff_ne, ne_eq, Bool.and_eq_true, Bool.or_eq_true, Bool.not_eq_true', Bool.not_eq_true, decide_eq_false_iff_not, beq_eq_false_iff_ne, bne_eq_false_iff_eq, Int.toNat_add, Int.toNat_natCast, Int.reduceToNat, Int.zero_add, Int.add_zero, Nat.add_zero, Nat.zero_add, Bool.true_and, Bool.and_true, Bool.false_and, Bool.and_false, Bool.true_or, Bool.or_true, Bool.false_or, Bool.or_false, Bool.not_true, Bool.not_false, Bool.false_eq_true, Bool.true_eq_false, reduceCtorEq, not_true_eq_false, not_false_eq_true, if_true, if_false, decide_true, decide_false]
      rw [hb1, bind1_some, if_neg (by simp), hb2]
      simp (disch := omega) only [large_ok (s := (s.drop i).take n) (by rw [e2]; omega) htk, w64_ok, idx_ok, sl_ok, app_ok, chk_ok, if_pos, if_neg, bind1_some, bind2_some, bind3_some, bind4_some, bind5_some, bind1_none, bind2_none, bind3_none, decide_eq_true_eq, beq_iff_eq, bne_iff_ne, ne_eq, Bool.and_eq_true, Bool.or_eq_true, Bool.not_eq_true', Bool.not_eq_true, decide_eq_false_iff_not, beq_eq_false_iff_ne, bne_eq_false_iff_eq, Int.toNat_add, Int.toNat_natCast, Int.reduceToNat, Int.zero_add, Int.add_zero, Nat.add_zero, Nat.zero_add, Bool.true_and, Bool.and_true, Bool.false_and, Bool.and_false, Bool.true_or, Bool.or_true, Bool.false_or, Bool.or_false, Bool.not_true, Bool.not_false, Bool.false_eq_true, Bool.true_eq_false, reduceCtorEq, not_true_eq_false, not_false_eq_true, if_true, if_false, decide_true, decide_false]
      by_cases h6 : MAXN < val ((s.drop i).take n)
      · simp (disch := omega) only [h6, w64_ok, idx_ok, sl_ok, app_ok, chk_ok, if_pos, if_neg, bind1_some, bind2_some, bind3_some, bind4_some, bind5_some, bind1_none, bind2_none, bind3_none, decide_eq_true_eq, beq_iff_eq, bne_iff_ne, ne_eq, Bool.and_eq_true, Bool.or_eq_true, Bool.not_eq_true', Bool.not_eq_true, decide_eq_false_iff_not, beq_eq_false_iff_ne, bne_eq_false_iff_eq, Int.toNat_add, Int.toNat_natCast, Int.reduceToNat, Int.zero_add, Int.add_zero, Nat.add_zero, Nat.zero_add, Bool.true_and, Bool.and_true, Bool.false_and, Bool.and_false, Bool.true_or, Bool.or_true, Bool.false_or, Bool.or_false, Bool.not_true, Bool.not_false, Bool.false_eq_true, Bool.true_eq_false, reduceCtorEq, not_true_eq_false, not_false_eq_true, if_true, if_false, decide_true, decide_false]; rfl
      · simp (disch := omega) only [h6, w64_ok, idx_ok, sl_ok, app_ok, chk_ok, if_pos, if_neg, bind1_some, bind2_some, bind3_some, bind4_some, bind5_some, bind1_none, bind2_none, bind3_none, decide_eq_true_eq, beq_iff_eq, bne_iff_ne, ne_eq, Bool.and_eq_true, Bool.or_eq_true, Bool.not_eq_true', Bool.not_eq_true, decide_eq_false_iff_not, beq_eq_false_iff_ne, bne_eq_false_iff_eq, Int.toNat_add, Int.toNat_natCast, Int.reduceToNat, Int.zero_add, Int.add_zero, Nat.add_zero, Nat.zero_add, Bool.true_and, Bool.and_true, Bool.false_and, Bool.and_false, Bool.true_or, Bool.or_true, Bool.false_or, Bool.or_false, Bool.not_true, Bool.not_false, Bool.false_eq_true, Bool.true_eq_false, reduceCtorEq, not_true_eq_false, not_false_eq_true, if_true, if_false, decide_true, decide_false]; rfl

theorem ltoken_ok {s : Str} (hs : s.length ≤ 2147483648) {i : Nat} (h : i < s.length) : lexer_token s (i : Int) = some (ltk i (tokS (s.drop i))) := by
  have hh : (s.drop i) = s.getD i 0 :: s.drop (i + 1) := getD_drop h
  unfold lexer_token
  simp (disch := omega) only [dflt, letter_eq, digit_eq, w64_ok, idx_ok, sl_ok, app_ok, chk_ok, if_pos, if_neg, bind1_some, bind2_some, bind3_some, bind4_some, bind5_some, bind1_none, bind2_none, bind3_none, decide_eq_true_eq, beq_iff_eq, bne_iff_ne, ne_eq, Bool.and_eq_true, Bool.or_eq_true, Bool.not_eq_true', Bool.not_eq_true, decide_eq_false_iff_not, beq_eq_false_iff_ne, bne_eq_false_iff_eq, Int.toNat_add, Int.toNat_natCast, Int.reduceToNat, Int.zero_add, Int.add_zero, Nat.add_zero, Nat.zero_add, Bool.true_and, Bool.and_true, Bool.false_and, Bool.and_false, Bool.true_or, Bool.or_true, Bool.false_or, Bool.or_false, Bool.not_true, Bool.not_false, Bool.false_eq_true, Bool.true_eq_false, reduceCtorEq, not_true_eq_false, not_false_eq_true, if_true, if_false, decide_true, decide_false]
  cases hl : isLetter (s.getD i 0) with
  | true =>
    have hd : isDigit (s.getD i 0) = false := by
      rw [isLetter_iff] at hl
      cases hd : isDigit (s.getD i 0) with
      | false => rfl
      | true => rw [isDigit_iff] at hd; omega
    have h34 : ¬ (s.getD i 0).toNat = 34 := by rw [isLetter_iff] at hl; omega
    rw [if_pos rfl, lname_ok hs h, hh]
    simp only [tokS, hd, hl, h34, if_false, if_true, Bool.false_eq_true]
  | false =>
    rw [if_neg (by simp)]
    cases hd : isDigit (s.getD i 0) with
    | true => rw [if_pos rfl, lnumber_ok hs h hd]
    | false =>
      rw [if_neg (by simp)]
      by_cases h34 : (s.getD i 0).toNat = 34
      · simp (disch := omega) only [ltext_ok hs h, w64_ok, idx_ok, sl_ok, app_ok, chk_ok, if_pos, if_neg, bind1_some, bind2_some, bind3_some, bind4_some, bind5_some, bind1_none, bind2_none, bind3_none, decide_eq_true_eq, beq_iff_eq, bne_iff_ne, ne_eq, Bool.and_eq_true, Bool.or_eq_true, Bool.not_eq_true', Bool.not_eq_true, decide_eq_false_iff_not, beq_eq_false_iff_ne, bne_eq_false_iff_eq, Int.toNat_add, Int.toNat_natCast, Int.reduceToNat, Int.zero_add, Int.add_zero, Nat.add_zero, Nat.zero_add, Bool.true_and, Bool.and_true, Bool.false_and, Bool.and_false, Bool.true_or, Bool.or_true, Bool.false_or, Bool.or_false, Bool.not_true, Bool.not_false, Bool.false_eq_true, Bool.true_eq_false, reduceCtorEq, not_true_eq_false, not_false_eq_true, if_true, if_false, decide_true, decide_false]
        rw [hh]
        simp only [tokS, hd, h34, if_false, if_true, Bool.false_eq_true, ltok, ltk]
        split <;> simp_all
      · simp (disch := omega) only [lop_ok hs h, w64_ok, idx_ok, sl_ok, app_ok, chk_ok, if_pos, if_neg, bind1_some, bind2_some, bind3_some, bind4_some, bind5_some, bind1_none, bind2_none, bind3_none, decide_eq_true_eq, beq_iff_eq, bne_iff_ne, ne_eq, Bool.and_eq_true, Bool.or_eq_true, Bool.not_eq_true', Bool.not_eq_true, decide_eq_false_iff_not, beq_eq_false_iff_ne, bne_eq_false_iff_eq, Int.toNat_add, Int.toNat_natCast, Int.reduceToNat, Int.zero_add, Int.add_zero, Nat.add_zero, Nat.zero_add, Bool.true_and, Bool.and_true, Bool.false_and, Bool.and_false, Bool.true_or, Bool.or_true, Bool.false_or, Bool.or_false, Bool.not_true, Bool.not_false, Bool.false_eq_true, Bool.true_eq_false, reduceCtorEq, not_true_eq_false, not_false_eq_true, if_true, if_false, decide_true, decide_false]
        rw [hh]
        simp only [tokS, hd, hl, h34, if_false, if_true, Bool.false_eq_true, ltk]
        generalize opn (s.getD i 0 :: s.drop (i + 1)) = n
        by_cases ho : n = 0
        · simp (disch := omega) only [ho, w64_ok, idx_ok, sl_ok, app_ok, chk_ok, if_pos, if_neg, bind1_some, bind2_some, bind3_some, bind4_some, bind5_some, bind1_none, bind2_none, bind3_none, decide_eq_true_eq, beq_iff_eq, bne_iff_ne, ne_eq, Bool.and_eq_true, Bool.or_eq_true, Bool.not_eq_true', Bool.not_eq_true, decide_eq_false_iff_not, beq_eq_false_iff_ne, bne_eq_false_iff_eq, Int.toNat_add, Int.toNat_natCast, Int.reduceToNat, Int.zero_add, Int.add_zero, Nat.add_zero, Nat.zero_add, Bool.true_and, Bool.and_true, Bool.false_and, Bool.and_false, Bool.true_or, Bool.or_true, Bool.false_or, Bool.or_false, Bool.not_true, Bool.not_false, Bool.false_eq_true, Bool.true_eq_false, reduceCtorEq, not_true_eq_false, not_false_eq_true, if_true, if_false, decide_true, decide_false]
        · simp (disch := omega) only [ho, w64_ok, idx_ok, sl_ok, app_ok, chk_ok, if_pos, if_neg, bind1_some, bind2_some, bind3_some, bind4_some, bind5_some, bind1_none, bind2_none, bind3_none, decide_eq_true_eq, beq_iff_eq, bne_iff_ne, ne_eq, Bool.and_eq_true, Bool.or_eq_true, Bool.not_eq_true', Bool.not_eq_true, decide_eq_false_iff_not, beq_eq_false_iff_ne, bne_eq_false_iff_eq, Int.toNat_add, Int.toNat_natCast, Int.reduceToNat, Int.zero_add, Int.add_zero, Nat.add_zero, Nat.zero_add, Bool.true_and, Bool.and_true, Bool.false_and, Bool.and_false, Bool.true_or, Bool.or_true, Bool.false_or, Bool.or_false, Bool.not_true, Bool.not_false, Bool.false_eq_true, Bool.true_eq_false, reduceCtorEq, not_true_eq_false, not_false_eq_true, if_true, if_false, decide_true, decide_false]

theorem rnumber_ok {s : Str} (hs : s.length ≤ 2147483648) {i : Nat} (h : i < s.length) (hd : isDigit (s.getD i 0) = true) : r09_number s (i : Int) = some (rtk (tokS (s.drop i))) := by
  have hle := span_le isDigit (s.drop i)
  rw [drop_len] at hle
  have htk := span_take isDigit (s.drop i)
  have hpos : 0 < span isDigit (s.drop i) := by rw [getD_drop h, span_cons, hd]; simp
  have hh : (s.drop i) = s.getD i 0 :: s.drop (i + 1) := getD_drop h
  have ht : tokS (s.drop i) = if (1 < span isDigit (s.drop i) ∧ (s.getD i 0).toNat = 48) ∨ span isDigit (s.drop i) < span isWord (s.drop i) then (0, [], 0, 5)
      else if MAXN < val ((s.drop i).take (span isDigit (s.drop i))) then (0, [], 0, 2) else (2, (s.drop i).take (span isDigit (s.drop i)), span isDigit (s.drop i), 0) := by
    rw [hh]; simp only [tokS, hd, if_true]
  rw [ht]
  have hsl : ∀ n, i + n ≤ s.length → sl s (i : Int) (w64 ((i : Int) + (n : Int))) = some ((s.drop i).take n) := by
    intro n hn
    simp (disch := omega) only [w64_ok, idx_ok, sl_ok, app_ok, chk_ok, if_pos, if_neg, bind1_some, bind2_some, bind3_some, bind4_some, bind5_some, bind1_none, bind2_none, bind3_none, decide_eq_true_eq, beq_iff_eq, bne_iff_ne, ne_eq, Bool.and_eq_true, Bool.or_eq_true, Bool.not_eq_true', Bool.not_eq_true, decide_eq_false_iff_not, beq_eq_false_iff_ne, bne_eq_false_iff_eq, Int.toNat_add, Int.toNat_natCast, Int.reduceToNat, Int.zero_add, Int.add_zero, Nat.add_zero, Nat.zero_add, Bool.true_and, Bool.and_true, Bool.false_and, Bool.and_false, Bool.true_or, Bool.or_true, Bool.false_or, Bool.or_false, Bool.not_true, Bool.not_false, Bool.false_eq_true, Bool.true_eq_false, reduceCtorEq, not_true_eq_false, not_false_eq_true, if_true, if_false, decide_true, decide_false]
    rw [take_drop_n]
  unfold r09_number
  rw [digits_ok (by omega) (by omega), word_ok (by omega) (by omega)]
  have hsn := hsl (span isDigit (s.drop i)) (by omega)
  generalize span isDigit (s.drop i) = n at hle htk hpos hsn ⊢
  generalize span isWord (s.drop i) = m at ⊢
  have e2 : ((s.drop i).take n).length = n := by simp; omega
  have e3 : ((s.drop i).take n).getD 0 0 = s.getD i 0 := by
    obtain ⟨k, rfl⟩ : ∃ k, n = k + 1 := ⟨n - 1, by omega⟩
    rw [hh]; rfl
  have hne : (s.drop i).take n ≠ [] := fun h0 => by rw [h0] at e2; simp at e2; omega
  rw [bind1_some, bind1_some]
  by_cases hw : n < m
  · rw [if_pos (show (1 < n ∧ (s.getD i 0).toNat = 48) ∨ n < m from .inr hw)]
    simp (disch := omega) only [w64_ok, idx_ok, sl_ok, app_ok, chk_ok, if_pos, if_neg, bind1_some, bind2_some, bind3_some, bind4_some, bind5_some, bind1_none, bind2_none, bind3_none, decide_eq_true_eq, beq_iff_eq, bne_iff_ne, ne_eq, Bool.and_eq_true, Bool.or_eq_true, Bool.not_eq_true', Bool.not_eq_true, decide_eq_false_iff_not, beq_eq_false_iff_ne, bne_eq_false_iff_eq, Int.toNat_add, Int.toNat_natCast, Int.reduceToNat, Int.zero_add, Int.add_zero, Nat.add_zero, Nat.zero_add, Bool.true_and, Bool.and_true, Bool.false_and, Bool.and_false, Bool.true_or, Bool.or_true, Bool.false_or, Bool.or_false, Bool.not_true, Bool.not_false, Bool.false_eq_true, Bool.true_eq_false, reduceCtorEq, not_true_eq_false, not_false_eq_true, if_true, if_false, decide_true, decide_false]; rfl
  · by_cases hz : 1 < n ∧ (s.getD i 0).toNat = 48
    · rw [if_pos (show (1 < n ∧ (s.getD i 0).toNat = 48) ∨ n < m from .inl hz)]
      simp (disch := omega) only [dflt, w64_ok, idx_ok, sl_ok, app_ok, chk_ok, if_pos, if_neg, bind1_some, bind2_some, bind3_some, bind4_some, bind5_some, bind1_none, bind2_none, bind3_none, decide_eq_true_eq, beq_iff_eq, bne_iff_ne, ne_eq, Bool.and_eq_true, Bool.or_eq_true, Bool.not_eq_true', Bool.not_eq_true, decide_eq_false_iff_not, beq_eq_false_iff_ne, bne_eq_false_iff_eq, Int.toNat_add, Int.toNat_natCast, Int.reduceToNat, Int.zero_add, Int.add_zero, Nat.add_zero, Nat.zero_add, Bool.true_and, Bool.and_true, Bool.false_and, Bool.and_false, Bool.true_or, Bool.or_true, Bool.false_or, Bool.or_false, Bool.not_true, Bool.not_false, Bool.false_eq_true, Bool.true_eq_false, reduceCtorEq, not_true_eq_false, not_false_eq_true, if_true, if_false, decide_true, decide_false]; rfl
    · rw [if_neg (show ¬ ((1 < n ∧ (s.getD i 0).toNat = 48) ∨ n < m) from by omega)]
      have hb : (if decide ((n : Int) < (m : Int)) then some true else if decide (1 < (n : Int)) then bind1 (idx s (i : Int)) fun x2 => some ((x2.toNat : Int) == 48) else some false) = some false := by
        by_cases h1 : 1 < n
        · simp (disch := omega) only [dflt, w64_ok, idx_ok, sl_ok, app_ok, chk_ok, if_pos, if_neg, bind1_some, bind2_some, bind3_some, bind4_some, bind5_some, bind1_none, bind2_none, bind3_none, decide_eq_true_eq, beq_iff_eq, bne_iff_ne, ne_eq, Bool.and_eq_true, Bool.or_eq_true, Bool.not_eq_true', Bool.not_eq_true, decide_eq_false_iff_not, beq_eq_false_iff_ne, bne_eq_false_iff_eq, Int.toNat_add, Int.toNat_natCast, Int.reduceToNat, Int.zero_add, Int.add_zero, Nat.add_zero, Nat.zero_add, Bool.true_and, Bool.and_true, Bool.false_and, Bool.and_false, Bool.true_or, Bool.or_true, Bool.false_or, Bool.or_false, Bool.not_true, Bool.not_false, Bool.false_eq_true, Bool.true_eq_false, reduceCtorEq, not_true_eq_false, not_false_eq_true, if_true, if_false, decide_true, decide_false]
          simp only [Option.some.injEq, beq_eq_false_iff_ne]
          omega
        · simp (disch := omega) only [w64_ok, idx_ok, sl_ok, app_ok, chk_ok, if_pos, if_neg, bind1_some, bind2_some, bind3_some, bind4_some, bind5_some, bind1_none, bind2_none, bind3_none, decide_eq_true_eq, beq_iff_eq, bne_iff_ne, ne_eq, Bool.and_eq_true, Bool.or_eq_true, Bool.not_eq_true', Bool.not_eq_true, decide_eq_false_iff_not, beq_eq_false_iff_ne, bne_eq_false_iff_eq, Int.toNat_add, Int.toNat_natCast, Int.reduceToNat, Int.zero_add, Int.add_zero, Nat.add_zero, Nat.zero_add, Bool.true_and, Bool.and_true, Bool.false_and, Bool.and_false, Bool.true_or, Bool.or_true, Bool.false_or, Bool.or_false, Bool.not_true, Bool.not_false, Bool.false_eq_true, Bool.true_eq_false, reduceCtorEq, not_true_eq_false, not_false_eq_true, if_true, if_false, decide_true, decide_false]
      rw [hb, bind1_some, hsn]
      rw [if_neg (by simp), bind1_some, rInt_ok htk hne, e2, e3]
      by_cases h16 : 16 < n
      · have hv : MAXN < val ((s.drop i).take n) := by
          obtain ⟨k, rfl⟩ : ∃ k, n = k + 1 := ⟨n - 1, by omega⟩
          rw [hh, List.take_succ_cons]
          refine val_long hd (by omega) ?_
          simp [List.length_take]; omega
        rw [if_pos (show 16 < n ∨ (1 < n ∧ (s.getD i 0).toNat = 48) from .inl h16), if_pos hv]
        simp (disch := omega) only [w64_ok, idx_ok, sl_ok, app_ok, chk_ok, if_pos, if_neg, bind1_some, bind2_some, bind3_some, bind4_some, bind5_some, bind1_none, bind2_none, bind3_none, decide_eq_true_eq, beq_iff_eq, bne_iff_ne, ne_eq, Bool.and_eq_true, Bool.or_eq_true, Bool.not_eq_true', Bool.not_eq_true, decide_eq_false_iff_not, beq_eq_false_iff_ne, bne_eq_false_iff_eq, Int.toNat_add, Int.toNat_natCast, Int.reduceToNat, Int.zero_add, Int.add_zero, Nat.add_zero, Nat.zero_add, Bool.true_and, Bool.and_true, Bool.false_and, Bool.and_false, Bool.true_or, Bool.or_true, Bool.false_or, Bool.or_false, Bool.not_true, Bool.not_false, Bool.false_eq_true, Bool.true_eq_false, reduceCtorEq, not_true_eq_false, not_false_eq_true, if_true, if_false, decide_true, decide_false]; rfl
      · rw [if_neg (show ¬ (16 < n ∨ (1 < n ∧ (s.getD i 0).toNat = 48)) from by omega)]
        by_cases h6 : MAXN < val ((s.drop i).take n)
        · simp (disch := omega) only [h6, w64_ok, idx_ok, sl_ok, app_ok, chk_ok, if_pos, if_neg, bind1_some, bind2_some, bind3_some, bind4_some, bind5_some, bind1_none, bind2_none, bind3_none, decide_eq_true_eq, beq_iff_eq, bne_iff_ne, ne_eq, Bool.and_eq_true, Bool.or_eq_true, Bool.not_eq_true', Bool.not_eq_true, decide_eq_false_iff_not, beq_eq_false_iff_ne, bne_eq_false_iff_eq, Int.toNat_add, Int.toNat_natCast, Int.reduceToNat, Int.zero_add, Int.add_zero, Nat.add_zero, Nat.zero_add, Bool.true_and, Bool.and_true, Bool.false_and, Bool.and_false, Bool.true_or, Bool.or_true, Bool.false_or, Bool.or_false, Bool.not_true, Bool.not_false, Bool.false_eq_true, Bool.true_eq_false, reduceCtorEq, not_true_eq_false, not_false_eq_true, if_true, if_false, decide_true, decide_false]
          rfl
        · have h7 : val ((s.drop i).take n) ≤ MAXN := by omega
          simp (disch := omega) only [h6, h7, w64_ok, idx_ok, sl_ok, app_ok, chk_ok, if_pos, if_neg, bind1_some, bind2_some, bind3_some, bind4_some, bind5_some, bind1_none, bind2_none, bind3_none, decide_eq_true_eq, beq_iff_eq, bne_iff_ne, ne_eq, Bool.and_eq_true, Bool.or_eq_true, Bool.not_eq_true', Bool.not_eq_true, decide_eq_false_iff_not, beq_eq_false_iff_ne, bne_eq_false_iff_eq, Int.toNat_add, Int.toNat_natCast, Int.reduceToNat, Int.zero_add, Int.add_zero, Nat.add_zero, Nat.zero_add, Bool.true_and, Bool.and_true, Bool.false_and, Bool.and_false, Bool.true_or, Bool.or_true, Bool.false_or, Bool.or_false, Bool.not_true, Bool.not_false, Bool.false_eq_true, Bool.true_eq_false, reduceCtorEq, not_true_eq_false, not_false_eq_true, if_true, if_false, decide_true, decide_false]
          rfl

theorem span_word_letter {c : UInt8} {l : Str} : span isWord (c :: l) = 0 ↔ isWord c = false := by
  rw [span_cons]; cases isWord c <;> simp
theorem rtoken_ok {s : Str} (hs : s.length ≤ 2147483648) {i : Nat} (h : i < s.length) : r09_token s (i : Int) = some (rtk (tokS (s.drop i))) := by
  have hh : (s.drop i) = s.getD i 0 :: s.drop (i + 1) := getD_drop h
  unfold r09_token
  simp (disch := omega) only [dflt, rletter_eq, rdigit_eq, w64_ok, idx_ok, sl_ok, app_ok, chk_ok, if_pos, if_neg, bind1_some, bind2_some, bind3_some, bind4_some, bind5_some, bind1_none, bind2_none, bind3_none, decide_eq_true_eq, beq_iff_eq, bne_iff_ne, ne_eq, Bool.and_eq_true, Bool.or_eq_true, Bool.not_eq_true', Bool.not_eq_true, decide_eq_false_iff_not, beq_eq_false_iff_ne, bne_eq_false_iff_eq, Int.toNat_add, Int.toNat_natCast, Int.reduceToNat, Int.zero_add, Int.add_zero, Nat.add_zero, Nat.zero_add, Bool.true_and, Bool.and_true, Bool.false_and, Bool.and_false, Bool.true_or, Bool.or_true, Bool.false_or, Bool.or_false, Bool.not_true, Bool.not_false, Bool.false_eq_true, Bool.true_eq_false, reduceCtorEq, not_true_eq_false, not_false_eq_true, if_true, if_false, decide_true, decide_false]
  cases hd : isDigit (s.getD i 0) with
  | true => rw [if_pos rfl, rnumber_ok hs h hd]
  | false =>
    rw [if_neg (by simp)]
    by_cases h34 : (s.getD i 0).toNat = 34
    · simp (disch := omega) only [rtext_ok hs h, w64_ok, idx_ok, sl_ok, app_ok, chk_ok, if_pos, if_neg, bind1_some, bind2_some, bind3_some, bind4_some, bind5_some, bind1_none, bind2_none, bind3_none, decide_eq_true_eq, beq_iff_eq, bne_iff_ne, ne_eq, Bool.and_eq_true, Bool.or_eq_true, Bool.not_eq_true', Bool.not_eq_true, decide_eq_false_iff_not, beq_eq_false_iff_ne, bne_eq_false_iff_eq, Int.toNat_add, Int.toNat_natCast, Int.reduceToNat, Int.zero_add, Int.add_zero, Nat.add_zero, Nat.zero_add, Bool.true_and, Bool.and_true, Bool.false_and, Bool.and_false, Bool.true_or, Bool.or_true, Bool.false_or, Bool.or_false, Bool.not_true, Bool.not_false, Bool.false_eq_true, Bool.true_eq_false, reduceCtorEq, not_true_eq_false, not_false_eq_true, if_true, if_false, decide_true, decide_false]
      rw [hh]
      simp only [tokS, hd, h34, if_false, if_true, Bool.false_eq_true, rtok, rtk]
      split <;> simp_all
    · have hwl := span_le isWord (s.drop i)
      rw [drop_len] at hwl
      simp (disch := omega) only [word_ok (s := s) (by omega) (Nat.le_of_lt h), w64_ok, idx_ok, sl_ok, app_ok, chk_ok, if_pos, if_neg, bind1_some, bind2_some, bind3_some, bind4_some, bind5_some, bind1_none, bind2_none, bind3_none, decide_eq_true_eq, beq_iff_eq, bne_iff_ne, ne_eq, Bool.and_eq_true, Bool.or_eq_true, Bool.not_eq_true', Bool.not_eq_true, decide_eq_false_iff_not, beq_eq_false_iff_ne, bne_eq_false_iff_eq, Int.toNat_add, Int.toNat_natCast, Int.reduceToNat, Int.zero_add, Int.add_zero, Nat.add_zero, Nat.zero_add, Bool.true_and, Bool.and_true, Bool.false_and, Bool.and_false, Bool.true_or, Bool.or_true, Bool.false_or, Bool.or_false, Bool.not_true, Bool.not_false, Bool.false_eq_true, Bool.true_eq_false, reduceCtorEq, not_true_eq_false, not_false_eq_true, if_true, if_false, decide_true, decide_false]
      have hsl : ∀ n, i + n ≤ s.length → sl s (i : Int) (w64 ((i : Int) + (n : Int))) = some ((s.drop i).take n) := by
        intro n hn
        simp (disch := omega) only [w64_ok, idx_ok, sl_ok, app_ok, chk_ok, if_pos, if_neg, bind1_some, bind2_some, bind3_some, bind4_some, bind5_some, bind1_none, bind2_none, bind3_none, decide_eq_true_eq, beq_iff_eq, bne_iff_ne, ne_eq, Bool.and_eq_true, Bool.or_eq_true, Bool.not_eq_true', Bool.not_eq_true, decide_eq_false_iff_not, beq_eq_false_iff_ne, bne_eq_false_iff_eq, Int.toNat_add, Int.toNat_natCast, Int.reduceToNat, Int.zero_add, Int.add_zero, Nat.add_zero, Nat.zero_add, Bool.true_and, Bool.and_true, Bool.false_and, Bool.and_false, Bool.true_or, Bool.or_true, Bool.false_or, Bool.or_false, Bool.not_true, Bool.not_false, Bool.false_eq_true, Bool.true_eq_false, reduceCtorEq, not_true_eq_false, not_false_eq_true, if_true, if_false, decide_true, decide_false]
        rw [take_drop_n]
      cases hl : isLetter (s.getD i 0) with
      | true =>
        have hpos : 0 < span isWord (s.drop i) := by rw [hh, span_cons, isWord, hl]; simp
        have hsn := hsl _ (show i + span isWord (s.drop i) ≤ s.length from by omega)
        have ht : tokS (s.drop i) = if 64 < span isWord (s.drop i) then (0, [], 0, 3) else (1, (s.drop i).take (span isWord (s.drop i)), span isWord (s.drop i), 0) := by
          rw [hh]; simp only [tokS, hd, hl, h34, if_false, if_true, Bool.false_eq_true]
        rw [ht]
        generalize span isWord (s.drop i) = n at *
        by_cases h64 : 64 < n
        · simp (disch := omega) only [w64_ok, idx_ok, sl_ok, app_ok, chk_ok, if_pos, if_neg, bind1_some, bind2_some, bind3_some, bind4_some, bind5_some, bind1_none, bind2_none, bind3_none, decide_eq_true_eq, beq_iff_eq, bne_iff_ne, ne_eq, Bool.and_eq_true, Bool.or_eq_true, Bool.not_eq_true', Bool.not_eq_true, decide_eq_false_iff_not, beq_eq_false_iff_ne, bne_eq_false_iff_eq, Int.toNat_add, Int.toNat_natCast, Int.reduceToNat, Int.zero_add, Int.add_zero, Nat.add_zero, Nat.zero_add, Bool.true_and, Bool.and_true, Bool.false_and, Bool.and_false, Bool.true_or, Bool.or_true, Bool.false_or, Bool.or_false, Bool.not_true, Bool.not_false, Bool.false_eq_true, Bool.true_eq_false, reduceCtorEq, not_true_eq_false, not_false_eq_true, if_true, if_false, decide_true, decide_false]; rfl
        · simp (disch := omega) only [w64_ok, idx_ok, sl_ok, app_ok, chk_ok, if_pos, if_neg, bind1_some, bind2_some, bind3_some, bind4_some, bind5_some, bind1_none, bind2_none, bind3_none, decide_eq_true_eq, beq_iff_eq, bne_iff_ne, ne_eq, Bool.and_eq_true, Bool.or_eq_true, Bool.not_eq_true', Bool.not_eq_true, decide_eq_false_iff_not, beq_eq_false_iff_ne, bne_eq_false_iff_eq, Int.toNat_add, Int.toNat_natCast, Int.reduceToNat, Int.zero_add, Int.add_zero, Nat.add_zero, Nat.zero_add, Bool.true_and, Bool.and_true, Bool.false_and, Bool.and_false, Bool.true_or, Bool.or_true, Bool.false_or, Bool.or_false, Bool.not_true, Bool.not_false, Bool.false_eq_true, Bool.true_eq_false, reduceCtorEq, not_true_eq_false, not_false_eq_true, if_true, if_false, decide_true, decide_false]; rw [take_drop_n]; rfl
      | false =>
        have h0 : span isWord (s.drop i) = 0 := by rw [hh, span_word_letter, isWord, hl, hd]; rfl
        have hol : opn (s.drop i) ≤ (s.drop i).length := by
          rw [hh]
          cases s.drop (i + 1) with
          | nil => simp only [opn]; split <;> simp
          | cons b r => simp only [opn]; repeat' split
                        all_goals simp
        rw [drop_len] at hol
        have hsn := hsl _ (show i + opn (s.drop i) ≤ s.length from by omega)
        have ht : tokS (s.drop i) = if opn (s.drop i) = 0 then (0, [], 0, 5) else (4, (s.drop i).take (opn (s.drop i)), opn (s.drop i), 0) := by
          rw [hh]; simp only [tokS, hd, hl, h34, if_false, if_true, Bool.false_eq_true]
        rw [ht, h0]
        simp (disch := omega) only [rop_ok hs h, w64_ok, idx_ok, sl_ok, app_ok, chk_ok, if_pos, if_neg, bind1_some, bind2_some, bind3_some, bind4_some, bind5_some, bind1_none, bind2_none, bind3_none, decide_eq_true_eq, beq_iff_eq, bne_iff_ne, ne_eq, Bool.and_eq_true, Bool.or_eq_true, Bool.not_eq_true', Bool.not_eq_true, decide_eq_false_iff_not, beq_eq_false_iff_ne, bne_eq_false_iff_eq, Int.toNat_add, Int.toNat_natCast, Int.reduceToNat, Int.zero_add, Int.add_zero, Nat.add_zero, Nat.zero_add, Bool.true_and, Bool.and_true, Bool.false_and, Bool.and_false, Bool.true_or, Bool.or_true, Bool.false_or, Bool.or_false, Bool.not_true, Bool.not_false, Bool.false_eq_true, Bool.true_eq_false, reduceCtorEq, not_true_eq_false, not_false_eq_true, if_true, if_false, decide_true, decide_false]
        generalize opn (s.drop i) = n at *
        by_cases ho : n = 0
        · simp (disch := omega) only [w64_ok, idx_ok, sl_ok, app_ok, chk_ok, if_pos, if_neg, bind1_some, bind2_some, bind3_some, bind4_some, bind5_some, bind1_none, bind2_none, bind3_none, decide_eq_true_eq, beq_iff_eq, bne_iff_ne, ne_eq, Bool.and_eq_true, Bool.or_eq_true, Bool.not_eq_true', Bool.not_eq_true, decide_eq_false_iff_not, beq_eq_false_iff_ne, bne_eq_false_iff_eq, Int.toNat_add, Int.toNat_natCast, Int.reduceToNat, Int.zero_add, Int.add_zero, Nat.add_zero, Nat.zero_add, Bool.true_and, Bool.and_true, Bool.false_and, Bool.and_false, Bool.true_or, Bool.or_true, Bool.false_or, Bool.or_false, Bool.not_true, Bool.not_false, Bool.false_eq_true, Bool.true_eq_false, reduceCtorEq, not_true_eq_false, not_false_eq_true, if_true, if_false, decide_true, decide_false]; rfl
        · simp (disch := omega) only [w64_ok, idx_ok, sl_ok, app_ok, chk_ok, if_pos, if_neg, bind1_some, bind2_some, bind3_some, bind4_some, bind5_some, bind1_none, bind2_none, bind3_none, decide_eq_true_eq, beq_iff_eq, bne_iff_ne, ne_eq, Bool.and_eq_true, Bool.or_eq_true, Bool.not_eq_true', Bool.not_eq_true, decide_eq_false_iff_not, beq_eq_false_iff_ne, bne_eq_false_iff_eq, Int.toNat_add, Int.toNat_natCast, Int.reduceToNat, Int.zero_add, Int.add_zero, Nat.add_zero, Nat.zero_add, Bool.true_and, Bool.and_true, Bool.false_and, Bool.and_false, Bool.true_or, Bool.or_true, Bool.false_or, Bool.or_false, Bool.not_true, Bool.not_false, Bool.false_eq_true, Bool.true_eq_false, reduceCtorEq, not_true_eq_false, not_false_eq_true, if_true, if_false, decide_true, decide_false]; rw [take_drop_n]; rfl
end Go.Ft
