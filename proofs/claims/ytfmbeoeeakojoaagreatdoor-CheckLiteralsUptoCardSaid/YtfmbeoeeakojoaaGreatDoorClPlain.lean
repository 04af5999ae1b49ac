/- Proved here: plain facts on the functional texts. -/
import Derived.Test.YtfmbeoeeakojoaaGreatDoorClFt
set_option linter.unusedVariables false
set_option linter.unusedSimpArgs false
set_option maxHeartbeats 2000000
namespace Go.Ft
open Go
attribute [local congr] ite_c1
theorem w64z {n : Int} (h : -9223372036854775808 ≤ n ∧ n < 9223372036854775808) : w64 n = n := wrap_id (by omega) (by omega)
theorem w64s {i : Nat} (h : i < 4611686018427387904) : w64 ((i : Int) + 1) = ((i + 1 : Nat) : Int) := by rw [w64z (by omega)]; omega
theorem idxn {α : Type} {l : List α} {i : Nat} (h : i < l.length) : idx l (i : Int) = some (l[i]) := by rw [idx_nat, List.getElem?_eq_getElem h]
theorem BIG_lt : 9223372036854775808 < BIG := by decide
def scanS {α S R : Type} (body : Nat → α → S → (S → Option R) → Option R) (fin : S → Option R) : Nat → List α → S → Option R
  | _, [], s => fin s
  | i, x :: r, s => body i x s fun s' => scanS body fin (i + 1) r s'
theorem scanS_eq {α S R : Type} {F : Nat → S → Int → Option R} {l : List α} {body : Nat → α → S → (S → Option R) → Option R} {fin : S → Option R} (hl : l.length < 4611686018427387904)
    (hF : ∀ k s (i : Nat), F (k + 1) s i = if decide ((i : Int) < (l.length : Int)) then bind1 (idx l i) fun x => body i x s fun s' => F k s' (w64 ((i : Int) + 1)) else fin s) :
    ∀ (k i : Nat) (s : S), l.length < k + i → i ≤ l.length → F k s (i : Int) = scanS body fin i (l.drop i) s
  | 0, i, s, h, h' => by omega
  | k + 1, i, s, h, h' => by
    rw [hF]
    by_cases hi : i < l.length
    · rw [List.drop_eq_getElem_cons hi, if_pos (by simp; omega), idxn hi, bind1_some, scanS]
      congr 1
      funext s'
      rw [w64s (by omega)]
      exact scanS_eq hl hF k (i + 1) s' (by omega) (by omega)
    · have : i = l.length := by omega
      subst this
      rw [if_neg (by simp), List.drop_length, scanS]
theorem scanS_big {α S R : Type} {F : Nat → S → Int → Option R} {l : List α} {body : Nat → α → S → (S → Option R) → Option R} {fin : S → Option R} (hl : l.length < 4611686018427387904)
    (hF : ∀ k s (i : Nat), F (k + 1) s i = if decide ((i : Int) < (l.length : Int)) then bind1 (idx l i) fun x => body i x s fun s' => F k s' (w64 ((i : Int) + 1)) else fin s) (s : S) : F BIG s 0 = scanS body fin 0 l s := by
  have := scanS_eq hl hF BIG 0 s (by have := BIG_lt; omega) (by omega)
  simpa using this
def isLet (c : UInt8) : Bool := (((decide (97 ≤ (c.toNat : Int))) && (decide ((c.toNat : Int) ≤ 122))) || ((decide (65 ≤ (c.toNat : Int))) && (decide ((c.toNat : Int) ≤ 90)))) || ((c.toNat : Int) == 95)
def isDig (c : UInt8) : Bool := (decide (48 ≤ (c.toNat : Int))) && (decide ((c.toNat : Int) ≤ 57))
@[simp] theorem p_letter (c : UInt8) : parser_letter c = some (isLet c) := rfl
@[simp] theorem p_digit (c : UInt8) : parser_digit c = some (isDig c) := rfl
@[simp] theorem r_letter (c : UInt8) : r09_letter c = some (isLet c) := rfl
@[simp] theorem r_digit (c : UInt8) : r09_digit c = some (isDig c) := rfl
@[simp] theorem i_digit (c : UInt8) : ident_digit c = some (isDig c) := rfl
@[simp] theorem r4_digit (c : UInt8) : r04_digit c = some (isDig c) := rfl
def spanD (p : UInt8 → Bool) (l : Str) : Nat := (l.takeWhile p).length
theorem spanD_cons (p : UInt8 → Bool) (c : UInt8) (l : Str) : spanD p (c :: l) = if p c then spanD p l + 1 else 0 := by
  unfold spanD; rw [List.takeWhile_cons]; split <;> simp
theorem spanD_le (p : UInt8 → Bool) (l : Str) : spanD p l ≤ l.length := by
  induction l with
  | nil => simp [spanD]
  | cons c l ih => rw [spanD_cons]; split <;> simp <;> omega
theorem run_gen {F : Nat → Int → Option Int} {s : Str} (hs : s.length < 4611686018427387904)
    (hF : ∀ k (i : Nat), F (k + 1) i = bind1 (if decide ((i : Int) < (s.length : Int)) then bind1 (idx s i) fun x1 => some (isDig x1) else some false) fun b1 => if b1 then F k (w64 ((i : Int) + 1)) else some (i : Int)) :
    ∀ (k i : Nat), s.length < k + i → i ≤ s.length → F k (i : Int) = some ((i + spanD isDig (s.drop i) : Nat) : Int)
  | 0, i, h, h' => by omega
  | k + 1, i, h, h' => by
    rw [hF]
    by_cases hi : i < s.length
    · rw [List.drop_eq_getElem_cons hi, spanD_cons, if_pos (by simp; omega), idxn hi]
      simp only [bind1_some]
      cases e : isDig s[i] with
      | false => simp
      | true =>
        simp only [if_true]
        rw [w64s (by omega), run_gen hs hF k (i + 1) (by omega) (by omega)]
        simp only [Option.some.injEq, Int.natCast_inj]; omega
    · have : i = s.length := by omega
      subst this
      simp [spanD]
theorem ident_run_eq {s : Str} (hs : s.length < 4611686018427387904) : ident_run s = some (spanD isDig s : Int) := by
  have := run_gen (F := ident_run_l1 s) hs (fun k i => rfl) BIG 0 (by have := BIG_lt; omega) (by omega)
  simpa [ident_run] using this
theorem r04_run_eq {s : Str} (hs : s.length < 4611686018427387904) {i : Nat} (hi : i ≤ s.length) : r04_run s (i : Int) = some ((i + spanD isDig (s.drop i) : Nat) : Int) :=
  run_gen (F := r04_run_l1 s) hs (fun k i => rfl) BIG i (by have := BIG_lt; omega) hi
def dz (s : Str) : Str := s.dropWhile fun c => (c.toNat : Int) == 48
theorem sl_from {s : Str} {i : Nat} (h : i ≤ s.length) : sl s (i : Int) (s.length : Int) = some (s.drop i) := by
  rw [sl_ok (by omega) (by omega) (by omega)]
  simp
theorem sl_to {s : Str} {i : Nat} (h : i ≤ s.length) : sl s 0 (i : Int) = some (s.take i) := by
  rw [sl_ok (by omega) (by omega) (by omega)]
  simp
theorem trimB (s : Str) : ∀ (k : Nat), s.length < k → s.length < 4611686018427387904 → strings_trimLeftByte_l1 48 k s = some (dz s) := by
  induction s with
  | nil => intro k h _; cases k with
    | zero => simp at h
    | succ k => simp [strings_trimLeftByte_l1, dz]
  | cons c s ih =>
    intro k h hs
    cases k with
    | zero => simp at h
    | succ k =>
      simp only [List.length_cons] at h hs
      rw [strings_trimLeftByte_l1, if_pos (by simp)]
      have e0 : idx (c :: s) 0 = some c := by simp [idx]
      rw [e0]
      simp only [bind1_some]
      have e1 : ((48 : UInt8).toNat : Int) = 48 := rfl
      rw [e1]
      unfold dz
      rw [List.dropWhile_cons]
      cases e : ((c.toNat : Int) == 48) with
      | false => simp
      | true =>
        simp only [if_true]
        have e2 := sl_from (s := c :: s) (i := 1) (by simp)
        simp only [List.drop_one, List.tail_cons] at e2
        rw [show ((1 : Nat) : Int) = 1 from rfl] at e2
        rw [e2]
        simp only [bind1_some]
        exact ih k (by omega) (by omega)
theorem trim_eq {s : Str} (hs : s.length < 4611686018427387904) : strings_TrimLeft s ([48] : Str) = some (dz s) := by
  unfold strings_TrimLeft
  cases s with
  | nil => simp [dz]
  | cons c s =>
    rw [if_neg (by simp), if_pos (by simp)]
    have e0 : idx ([48] : Str) 0 = some 48 := rfl
    rw [e0]
    simp only [bind1_some]
    rw [if_pos (by decide)]
    exact trimB _ BIG (by have := BIG_lt; omega) hs
theorem strip_gen {s : Str} (hs : s.length < 4611686018427387904) : ∀ (k i : Nat), s.length < k + i → i ≤ s.length → r04_strip_l1 s k (i : Int) = some (dz (s.drop i))
  | 0, i, h, h' => by omega
  | k + 1, i, h, h' => by
    rw [r04_strip_l1]
    by_cases hi : i < s.length
    · rw [List.drop_eq_getElem_cons hi, if_pos (by simp; omega), idxn hi]
      simp only [bind1_some]
      unfold dz
      rw [List.dropWhile_cons]
      cases e : ((s[i].toNat : Int) == 48) with
      | false =>
        simp only [Bool.false_eq_true, if_false]
        rw [sl_from (by omega), List.drop_eq_getElem_cons hi]
      | true =>
        simp only [if_true]
        rw [w64s (by omega)]
        exact strip_gen hs k (i + 1) (by omega) (by omega)
    · have : i = s.length := by omega
      subst this
      rw [if_neg (by simp)]
      simp only [bind1_some, Bool.false_eq_true, if_false]
      rw [sl_from (by omega)]
      simp [dz]
theorem strip_eq {s : Str} (hs : s.length < 4611686018427387904) : r04_strip s = some (dz s) := by
  have := strip_gen hs BIG 0 (by have := BIG_lt; omega) (by omega)
  simpa [r04_strip] using this
def ordB (p q : Bool) : Int := if p then -1 else if q then 1 else 0
def cmpI (x y : Int) : Int := ordB (decide (x < y)) (decide (y < x))
def cmpS (x y : Str) : Int := ordB (Go.Op.bytesLess x y) (!(Go.Op.bytesLess x y || x == y))
theorem r04_order_eq (p q : Bool) : r04_order p q = some (ordB p q) := by
  unfold r04_order ordB; cases p <;> cases q <;> rfl
theorem cmp_int_eq (x y : Int) : cmp_Compare_int x y = some (cmpI x y) := by
  unfold cmp_Compare_int cmpI ordB cmp_isNaN_int
  by_cases h1 : x < y <;> by_cases h2 : y < x <;> simp [h1, h2]
theorem cmp_byte_eq (x y : UInt8) : cmp_Compare_byte x y = some (cmpI x.toNat y.toNat) := by
  unfold cmp_Compare_byte cmpI ordB cmp_isNaN_byte
  by_cases h1 : (x.toNat : Int) < y.toNat <;> by_cases h2 : (y.toNat : Int) < x.toNat <;> simp [h1, h2]
theorem cmp_str_eq (x y : Str) : cmp_Compare_string x y = some (cmpS x y) := by
  unfold cmp_Compare_string cmpS ordB cmp_isNaN_string
  cases h1 : Go.Op.bytesLess x y <;> cases h2 : (x == y) <;> simp
theorem bytesLess_irrefl : ∀ x : Str, Go.Op.bytesLess x x = false
  | [] => rfl
  | c :: x => by
    unfold Go.Op.bytesLess
    have := bytesLess_irrefl x
    simp [this]
theorem cmp_or_eq (a b c : Int) : cmp_Or_int ([a, b, c] : List Int) = some (if a != 0 then a else if b != 0 then b else c) := by
  have := scanS_big (F := fun k (_ : Unit) i => cmp_Or_int_l1 [a, b, c] k i) (l := [a, b, c]) (body := fun _ val1 _ r => if val1 != 0 then some val1 else r ()) (fin := fun _ => some 0) (by simp)
    (fun k s i => rfl) ()
  unfold cmp_Or_int
  rw [this]
  simp only [scanS]
  by_cases h1 : a = 0 <;> by_cases h2 : b = 0 <;> by_cases h3 : c = 0 <;> simp [h1, h2, h3]
def cmpN (a b : Str) : Int :=
  if ((dz a).length : Int) != ((dz b).length : Int) then cmpI (dz a).length (dz b).length else if !(dz a == dz b) then cmpS (dz a) (dz b) else cmpI a.length b.length
theorem cmpI_zero {x y : Int} : cmpI x y = 0 ↔ x = y := by
  unfold cmpI ordB
  by_cases h1 : x < y <;> by_cases h2 : y < x <;> simp [h1, h2] <;> omega
theorem cmpS_ne {x y : Str} (h : x ≠ y) : cmpS x y ≠ 0 := by
  unfold cmpS ordB
  cases h1 : Go.Op.bytesLess x y <;> simp [h]
theorem cmpS_self (x : Str) : cmpS x x = 0 := by
  unfold cmpS ordB
  simp [bytesLess_irrefl]
theorem numbers_eq {a b : Str} (ha : a.length < 4611686018427387904) (hb : b.length < 4611686018427387904) : ident_numbers a b = some (cmpN a b) := by
  unfold ident_numbers cmpN
  rw [trim_eq ha, trim_eq hb]
  simp only [bind1_some, cmp_int_eq, cmp_str_eq, cmp_or_eq, Option.some.injEq]
  by_cases h1 : ((dz a).length : Int) = ((dz b).length : Int)
  · have e1 : cmpI (dz a).length (dz b).length = 0 := cmpI_zero.2 h1
    rw [e1]
    by_cases h2 : dz a = dz b
    · rw [h2, cmpS_self]; simp
    · have := cmpS_ne h2
      simp [h1, h2, this]
  · have e1 : cmpI (dz a).length (dz b).length ≠ 0 := fun h => h1 (cmpI_zero.1 h)
    rw [if_pos (by simpa using e1), if_pos (by simpa using h1)]
theorem runs_eq {a b : Str} (ha : a.length < 4611686018427387904) (hb : b.length < 4611686018427387904) : r04_runs a b = some (cmpN a b) := by
  unfold r04_runs cmpN
  rw [strip_eq ha, strip_eq hb]
  simp only [bind1_some, r04_order_eq]
  by_cases h1 : ((dz a).length : Int) = ((dz b).length : Int)
  · by_cases h2 : dz a = dz b
    · simp [h2, cmpI]
    · simp [h1, h2, cmpS]
  · simp [h1, cmpI]
theorem spanD_pos {s : Str} (h : s ≠ []) : 0 < spanD isDig s ↔ isDig (s.head h) = true := by
  cases s with
  | nil => exact absurd rfl h
  | cons c s => rw [spanD_cons]; cases e : isDig c <;> simp [e]
theorem compare_gen {a b : Str} (ha : a.length < 4611686018427387904) (hb : b.length < 4611686018427387904) : ∀ (k k' i j : Nat), i ≤ a.length → j ≤ b.length → a.length < k + i → a.length < k' + i →
    ident_Compare_l1 k (a.drop i) (b.drop j) = r04_Compare_l1 a b k' (i : Int) (j : Int) ∧ ∃ c, r04_Compare_l1 a b k' (i : Int) (j : Int) = some c
  | 0, k', i, j, _, _, h, _ => by omega
  | k + 1, 0, i, j, _, _, _, h => by omega
  | k + 1, k' + 1, i, j, hi, hj, hk, hk' => by
    rw [ident_Compare_l1, r04_Compare_l1]
    by_cases h1 : i < a.length
    · by_cases h2 : j < b.length
      · have ea := List.drop_eq_getElem_cons h1
        have eb := List.drop_eq_getElem_cons h2
        have na : a.drop i ≠ [] := fun h => by simp at h; omega
        have nb : b.drop j ≠ [] := fun h => by simp at h; omega
        have la : (a.drop i).length = a.length - i := by simp
        have lb : (b.drop j).length = b.length - j := by simp
        have sa := spanD_le isDig (a.drop i)
        have sb := spanD_le isDig (b.drop j)
        have pa := spanD_pos na
        have pb := spanD_pos nb
        have heada : (a.drop i).head na = a[i] := by simp
        have headb : (b.drop j).head nb = b[j] := by simp
        rw [heada] at pa
        rw [headb] at pb
        rw [if_pos (by simp [h1, h2]), if_pos (by simp; omega), ident_run_eq (by omega), ident_run_eq (by omega), idxn h1, idxn h2]
        simp only [bind1_some, r04_order_eq, r4_digit]
        have i0 : idx (a.drop i) 0 = some a[i] := by rw [ea]; rfl
        have j0 : idx (b.drop j) 0 = some b[j] := by rw [eb]; rfl
        have hone : (if isDig a[i] = true then some (isDig b[j]) else some false) = some (isDig a[i] && isDig b[j]) := by cases isDig a[i] <;> simp
        rw [hone]
        simp only [bind1_some]
        cases hd : (isDig a[i] && isDig b[j]) with
        | true =>
          simp only [Bool.and_eq_true] at hd
          have q1 := pa.2 hd.1
          have q2 := pb.2 hd.2
          rw [if_pos (by simp; omega)]
          simp only [if_true]
          rw [r04_run_eq ha (by omega), r04_run_eq hb (by omega), sl_to sa, sl_to sb]
          simp only [bind1_some]
          have e1 : sl a (i : Int) ((i + spanD isDig (a.drop i) : Nat) : Int) = some ((a.drop i).take (spanD isDig (a.drop i))) := by
            rw [sl_ok (by omega) (by omega) (by omega)]
            simp only [Int.toNat_natCast, Option.some.injEq]
            rw [List.drop_take, Nat.add_sub_cancel_left]
          have e2 : sl b (j : Int) ((j + spanD isDig (b.drop j) : Nat) : Int) = some ((b.drop j).take (spanD isDig (b.drop j))) := by
            rw [sl_ok (by omega) (by omega) (by omega)]
            simp only [Int.toNat_natCast, Option.some.injEq]
            rw [List.drop_take, Nat.add_sub_cancel_left]
          rw [e1, e2]
          simp only [bind1_some]
          rw [numbers_eq (by simp; omega) (by simp; omega), runs_eq (by simp; omega) (by simp; omega)]
          simp only [bind1_some]
          by_cases hc : cmpN ((a.drop i).take (spanD isDig (a.drop i))) ((b.drop j).take (spanD isDig (b.drop j))) = 0
          · rw [if_neg (by simp [hc]), if_neg (by simp [hc]), sl_from sa, sl_from sb]
            simp only [bind1_some, List.drop_drop]
            exact compare_gen ha hb k k' _ _ (by omega) (by omega) (by omega) (by omega)
          · rw [if_pos (by simpa using hc), if_pos (by simpa using hc)]
            exact ⟨rfl, _, rfl⟩
        | false =>
          rw [if_neg (by
            simp only [Bool.and_eq_true, decide_eq_true_eq, not_and]
            intro h3 h4
            have := pa.1 (by omega); have := pb.1 (by omega)
            simp_all)]
          simp only [Bool.false_eq_true, if_false]
          rw [i0, j0]
          simp only [bind1_some, cmp_byte_eq]
          by_cases hc : (a[i].toNat : Int) = (b[j].toNat : Int)
          · rw [if_neg (by simpa using hc)]
            have : ordB (decide ((a[i].toNat : Int) < (b[j].toNat : Int))) (decide ((b[j].toNat : Int) < (a[i].toNat : Int))) = 0 := by simp [ordB, hc]
            rw [this, if_neg (by simp), w64s (by omega), w64s (by omega)]
            have s1 := sl_from (s := a.drop i) (i := 1) (by omega)
            have s2 := sl_from (s := b.drop j) (i := 1) (by omega)
            rw [show ((1 : Nat) : Int) = 1 from rfl] at s1 s2
            rw [s1, s2]
            simp only [bind1_some, List.drop_drop]
            exact compare_gen ha hb k k' _ _ (by omega) (by omega) (by omega) (by omega)
          · rw [if_pos (by simpa using hc)]
            have e3 : cmpI (a[i].toNat) (b[j].toNat) ≠ 0 := fun h => hc (cmpI_zero.1 h)
            have : ordB (decide ((a[i].toNat : Int) < (b[j].toNat : Int))) (decide ((b[j].toNat : Int) < (a[i].toNat : Int))) = cmpI (a[i].toNat) (b[j].toNat) := rfl
            rw [this, if_pos (by simpa using e3)]
            exact ⟨rfl, _, rfl⟩
      · have eb : b.drop j = [] := by simp; omega
        rw [eb, if_neg (by simp), if_neg (by simp; omega), r04_order_eq, cmp_int_eq]
        refine ⟨?_, _, rfl⟩
        unfold cmpI
        congr 2 <;> simp <;> omega
    · have ea : a.drop i = [] := by simp; omega
      rw [ea, if_neg (by simp), if_neg (by simp; omega), r04_order_eq, cmp_int_eq]
      refine ⟨?_, _, rfl⟩
      unfold cmpI
      congr 2 <;> simp <;> omega
theorem compare_eq {a b : Str} (ha : a.length < 4611686018427387904) (hb : b.length < 4611686018427387904) : ∃ c, ident_Compare a b = some c ∧ r04_Compare a b = some c := by
  obtain ⟨h1, c, h2⟩ := compare_gen ha hb BIG BIG 0 0 (by omega) (by omega) (by have := BIG_lt; omega) (by have := BIG_lt; omega)
  refine ⟨c, ?_, by simpa [r04_Compare] using h2⟩
  rw [← h2]
  simpa [ident_Compare] using h1
end Go.Ft

namespace Go.Ft
open Go
attribute [local congr] ite_c1
theorem le_sum' {α : Type} {f : α → Nat} {l : List α} {x : α} (h : x ∈ l) : f x ≤ (l.map f).sum := by
  induction l with
  | nil => cases h
  | cons y l ih =>
    simp only [List.map_cons, List.sum_cons]
    rcases List.mem_cons.1 h with rfl | h
    · omega
    · have := ih h; omega
theorem len_sum {α : Type} {f : α → Nat} {l : List α} (h : ∀ x, 1 ≤ f x) : l.length ≤ (l.map f).sum := by
  induction l with
  | nil => simp
  | cons y l ih => simp only [List.map_cons, List.sum_cons, List.length_cons]; have := h y; omega
theorem ApiValue.bulk_pos (v : ApiValue) : 1 ≤ v.bulk := by rw [ApiValue.bulk_eq]; omega
theorem ApiExpr.bulk_pos (v : ApiExpr) : 1 ≤ v.bulk := by rw [ApiExpr.bulk_eq]; omega
theorem ApiType.bulk_pos (v : ApiType) : 1 ≤ v.bulk := by rw [ApiType.bulk_eq]; omega
theorem vlist_len (v : ApiValue) : v.list_.length < v.bulk := by rw [ApiValue.bulk_eq, ApiValue.bulkL_eq]; have := len_sum (l := v.list_) ApiValue.bulk_pos; omega
theorem vlist_mem {v x : ApiValue} (h : x ∈ v.list_) : x.bulk < v.bulk := by rw [ApiValue.bulk_eq v, ApiValue.bulkL_eq]; have := le_sum' (f := ApiValue.bulk) h; omega
theorem vkeys_len (v : ApiValue) : v.keys.length < v.bulk := by rw [ApiValue.bulk_eq]; have := len_sum (l := v.keys) (f := fun z : Str => z.length + 1) (fun x => by omega); omega
theorem vkeys_mem {v : ApiValue} {x : Str} (h : x ∈ v.keys) : x.length < v.bulk := by rw [ApiValue.bulk_eq v]; have := le_sum' (f := fun z : Str => z.length + 1) h; omega
theorem eargs_len (e : ApiExpr) : e.args.length < e.bulk := by rw [ApiExpr.bulk_eq, ApiExpr.bulkL_eq]; have := len_sum (l := e.args) ApiExpr.bulk_pos; omega
theorem eargs_mem {e x : ApiExpr} (h : x ∈ e.args) : x.bulk < e.bulk := by rw [ApiExpr.bulk_eq e, ApiExpr.bulkL_eq]; have := le_sum' (f := ApiExpr.bulk) h; omega
theorem ekeys_len (v : ApiExpr) : v.keys.length < v.bulk := by rw [ApiExpr.bulk_eq]; have := len_sum (l := v.keys) (f := fun z : Str => z.length + 1) (fun x => by omega); omega
theorem ename_len (v : ApiExpr) : v.name.length < v.bulk := by rw [ApiExpr.bulk_eq]; omega
theorem evalue_bulk (v : ApiExpr) : v.value.bulk < v.bulk := by rw [ApiExpr.bulk_eq]; omega
mutual
def ecnt : ApiExpr → Nat
  | ⟨_, _, _, args, _⟩ => 1 + ecntL args
def ecntL : List ApiExpr → Nat
  | [] => 0
  | x :: r => ecnt x + ecntL r
end
theorem ecnt_eq (e : ApiExpr) : ecnt e = 1 + ecntL e.args := by cases e; rfl
theorem ecntL_le : ∀ (l : List ApiExpr) (n : Nat), (∀ x ∈ l, ecnt x ≤ x.bulk) → ecntL l ≤ (l.map ApiExpr.bulk).sum
  | [], _, _ => by simp [ecntL]
  | x :: r, n, h => by
    simp only [ecntL, List.map_cons, List.sum_cons]
    have := h x (by simp)
    have := ecntL_le r n fun y hy => h y (by simp [hy])
    omega
theorem ecnt_le : ∀ (n : Nat) (e : ApiExpr), e.bulk ≤ n → ecnt e ≤ e.bulk
  | 0, e, h => by have := e.bulk_pos; omega
  | n + 1, e, h => by
    rw [ecnt_eq, ApiExpr.bulk_eq, ApiExpr.bulkL_eq]
    have := ecntL_le e.args n fun x hx => ecnt_le n x (by have := eargs_mem hx; omega)
    omega
theorem countL {go : ApiExpr → Option Int} : ∀ (l : List ApiExpr) (i s : Nat), (∀ x ∈ l, go x = some (ecnt x : Int)) → s + ecntL l < 4611686018427387904 →
    scanS (fun _ e2 (n1 : Int) r => bind1 (go e2) fun x2 => r (w64 (n1 + x2))) (fun n1 => some n1) i l (s : Int) = some ((s + ecntL l : Nat) : Int)
  | [], i, s, _, _ => by simp [scanS, ecntL]
  | x :: r, i, s, h, hs => by
    simp only [ecntL] at hs ⊢
    rw [scanS, h x (by simp)]
    simp only [bind1_some]
    have : w64 ((s : Int) + (ecnt x : Int)) = ((s + ecnt x : Nat) : Int) := by rw [w64z (by omega)]; omega
    rw [this, countL r (i + 1) (s + ecnt x) (fun y hy => h y (by simp [hy])) (by omega)]
    simp only [Option.some.injEq, Int.natCast_inj]; omega
theorem count_n : ∀ (n : Nat) (e : ApiExpr), e.bulk ≤ n → e.bulk < 4611686018427387904 → parser_Count_n (n + 1) e = some (ecnt e : Int) ∧ r10_Count_n (n + 1) e = some (ecnt e : Int)
  | 0, e, h, _ => by have := e.bulk_pos; omega
  | n + 1, e, h, hB => by
    have hl := eargs_len e
    have hle := ecnt_le _ e (Nat.le_refl _)
    rw [ecnt_eq] at hle
    constructor
    · unfold parser_Count_n parser_Count_b
      have := scanS_big (F := fun k s i => parser_Count_l1 (parser_Count_n (n + 1)) e k s i) (l := e.args) (body := fun _ e2 (n1 : Int) r => bind1 (parser_Count_n (n + 1) e2) fun x2 => r (w64 (n1 + x2))) (fin := fun n1 => some n1) (by omega) (fun k s i => rfl) 1
      rw [this, show (1 : Int) = ((1 : Nat) : Int) from rfl, countL e.args 0 1 (fun x hx => (count_n n x (by have := eargs_mem hx; omega) (by have := eargs_mem hx; omega)).1) (by omega), ecnt_eq]
    · unfold r10_Count_n r10_Count_b
      have := scanS_big (F := fun k s i => r10_Count_l1 (r10_Count_n (n + 1)) e k s i) (l := e.args) (body := fun _ e2 (n1 : Int) r => bind1 (r10_Count_n (n + 1) e2) fun x2 => r (w64 (n1 + x2))) (fin := fun n1 => some n1) (by omega) (fun k s i => rfl) 1
      rw [this, show (1 : Int) = ((1 : Nat) : Int) from rfl, countL e.args 0 1 (fun x hx => (count_n n x (by have := eargs_mem hx; omega) (by have := eargs_mem hx; omega)).2) (by omega), ecnt_eq]
theorem BIG_succ : ∃ n, BIG = n + 1 ∧ 9223372036854775807 ≤ n := ⟨BIG - 1, by decide, by decide⟩
theorem count_eq {e : ApiExpr} (h : e.bulk < 4611686018427387904) : parser_Count e = some (ecnt e : Int) ∧ r10_Count e = some (ecnt e : Int) := by
  obtain ⟨n, hn, hn2⟩ := BIG_succ
  unfold parser_Count r10_Count
  rw [hn]
  exact count_n n e (by omega) h
def isName (s : Str) : Bool := decide (1 ≤ s.length) && decide (s.length ≤ 64) && (match s with | c :: _ => isLet c | [] => false) && s.all fun c => isLet c || isDig c
def isPlain (s : Str) : Bool := isName s && !((s == ([116, 114, 117, 101] : Str)) || (s == ([102, 97, 108, 115, 101] : Str)) || (s == ([110, 117, 108, 108] : Str)))
theorem nameL (s : Str) (hs : s.length < 4611686018427387904) : parser_name_l1 s BIG 0 = some (s.all fun c => isLet c || isDig c) := by
  have := scanS_big (F := fun k (_ : Unit) i => parser_name_l1 s k i) (l := s) (body := fun (i : Nat) x3 _ r => bind1 (if !(isLet x3) then bind1 (idx s (i : Int)) fun x5 => some (!(isDig x5)) else some false) fun b2 => if b2 then some false else r ()) (fin := fun _ => some true) hs (fun k s i => rfl) ()
  rw [this]
  have key : ∀ (t : Str) (i : Nat), t = s.drop i → scanS (fun (i : Nat) x3 (_ : Unit) r => bind1 (if !(isLet x3) then bind1 (idx s (i : Int)) fun x5 => some (!(isDig x5)) else some false) fun b2 => if b2 then some false else r ()) (fun _ => some true) i t () = some (t.all fun c => isLet c || isDig c) := by
    intro t
    induction t with
    | nil => intro i _; rfl
    | cons c t ih =>
      intro i ht
      have hi : i < s.length := by
        rcases Nat.lt_or_ge i s.length with h | h
        · exact h
        · rw [List.drop_eq_nil_of_le h] at ht; cases ht
      have hc := List.drop_eq_getElem_cons hi
      rw [← ht] at hc
      have e1 : c = s[i] := (List.cons.inj hc).1
      have e2 := (List.cons.inj hc).2
      rw [scanS, idxn hi, ← e1]
      simp only [bind1_some]
      rw [ih (i + 1) e2]
      cases h1 : isLet c <;> cases h2 : isDig c <;> simp [h1, h2]
  exact key s 0 rfl
theorem p_name (s : Str) (hs : s.length < 4611686018427387904) : parser_name s = some (isName s) := by
  unfold parser_name isName
  rw [nameL s hs]
  by_cases h1 : s.length < 1
  · have : s = [] := by cases s; rfl; simp at h1
    subst this; simp
  · by_cases h2 : 64 < s.length
    · have e1 : decide ((64 : Int) < (s.length : Int)) = true := by simp; omega
      have e2 : decide (s.length ≤ 64) = false := by simp; omega
      simp [e1, e2]
    · cases s with
      | nil => simp at h1
      | cons c s =>
        have e1 : decide ((((c :: s).length : Nat) : Int) < 1) = false := by simp; omega
        have e2 : decide ((64 : Int) < (((c :: s).length : Nat) : Int)) = false := by simp at h2 ⊢; omega
        have e3 : decide ((c :: s).length ≤ 64) = true := by simp at h2 ⊢; omega
        have e4 : idx (c :: s) 0 = some c := rfl
        rw [e1, e2, e3, e4]
        cases h3 : isLet c <;> simp [h3]
theorem r_name (s : Str) (hs : s.length < 4611686018427387904) : r09_Name s = some (isName s) := by
  unfold r09_Name
  have := scanS_big (F := fun k (_ : Unit) i => r09_Name_l1 s k i) (l := s) (body := fun (i : Nat) x3 _ r => bind1 (if !(isLet x3) then (if (i : Int) == 0 then some true else bind1 (idx s (i : Int)) fun x5 => some (!(isDig x5))) else some false) fun b2 => if b2 then some false else r ())
    (fin := fun _ => some ((decide (1 ≤ (s.length : Int))) && (decide ((s.length : Int) ≤ 64)))) hs (fun k s i => rfl) ()
  rw [this]
  have key : ∀ (t : Str) (i : Nat), t = s.drop i → scanS (fun (i : Nat) x3 (_ : Unit) r => bind1 (if !(isLet x3) then (if (i : Int) == 0 then some true else bind1 (idx s (i : Int)) fun x5 => some (!(isDig x5))) else some false) fun b2 => if b2 then some false else r ())
      (fun _ => some ((decide (1 ≤ (s.length : Int))) && (decide ((s.length : Int) ≤ 64)))) i t () = some ((decide (1 ≤ s.length) && decide (s.length ≤ 64)) && ((if i = 0 then (match t with | c :: _ => isLet c | [] => true) else true) && t.all fun c => isLet c || isDig c)) := by
    intro t
    induction t with
    | nil =>
      intro i _
      rw [scanS]
      have e1 : decide ((1 : Int) ≤ (s.length : Int)) = decide (1 ≤ s.length) := by congr 1; simp; omega
      have e2 : decide ((s.length : Int) ≤ 64) = decide (s.length ≤ 64) := by congr 1; simp; omega
      rw [e1, e2]; simp
    | cons c t ih =>
      intro i ht
      have hi : i < s.length := by
        rcases Nat.lt_or_ge i s.length with h | h
        · exact h
        · rw [List.drop_eq_nil_of_le h] at ht; cases ht
      have hc := List.drop_eq_getElem_cons hi
      rw [← ht] at hc
      have e1 : c = s[i] := (List.cons.inj hc).1
      have e2 := (List.cons.inj hc).2
      rw [scanS, idxn hi, ← e1]
      simp only [bind1_some]
      rw [ih (i + 1) e2]
      by_cases h0 : i = 0
      · subst h0
        cases h1 : isLet c <;> simp [h1]
      · have : ((i : Int) == 0) = false := by simp; omega
        rw [this]
        cases h1 : isLet c <;> cases h2 : isDig c <;> simp [h1, h2, h0]
  rw [key s 0 rfl]
  unfold isName
  cases s with
  | nil => simp
  | cons c s => simp [Bool.and_assoc]
theorem plain_eq (s : Str) (hs : s.length < 4611686018427387904) : parser_plain s = some (isPlain s) ∧ r10_Plain s = some (isPlain s) := by
  unfold parser_plain r10_Plain isPlain parser_word
  rw [p_name s hs, r_name s hs]
  constructor
  · cases isName s <;> simp
  · simp only [bind1_some, Option.some.injEq]
    cases isName s <;> simp [Bool.not_or, Bool.and_assoc]
theorem strength_eq (s : Str) : r10_Strength s = parser_strength s := rfl
theorem strength_some (s : Str) : ∃ n, parser_strength s = some n := by
  have : (parser_strength s).isSome = true := by
    unfold parser_strength
    simp only [apply_ite Option.isSome, Option.isSome_some, ite_self]
  exact Option.isSome_iff_exists.1 this
end Go.Ft

namespace Go.Ft
open Go
attribute [local congr] ite_c1
def keyOK (s : Str) : Bool := decide (1 ≤ s.length) && decide (s.length ≤ 64)
def ncmp (a b : Str) : Int := (r04_Compare a b).getD 0
theorem ncmp_eq {a b : Str} (ha : a.length < 4611686018427387904) (hb : b.length < 4611686018427387904) : ident_Compare a b = some (ncmp a b) ∧ r04_Compare a b = some (ncmp a b) := by
  obtain ⟨c, h1, h2⟩ := compare_eq ha hb
  unfold ncmp
  rw [h2]
  exact ⟨h1, rfl⟩
def ascL : Option Str → List Str → Bool
  | _, [] => true
  | p, k :: r => keyOK k && (match p with | none => true | some q => decide (ncmp q k < 0)) && ascL (some k) r
theorem keyOK_i (s : Str) : ((decide ((s.length : Int) < 1)) || (decide (64 < (s.length : Int)))) = !keyOK s := by
  unfold keyOK
  rw [Bool.eq_iff_iff]
  simp only [Bool.or_eq_true, Bool.not_eq_true', Bool.and_eq_false_iff, decide_eq_true_eq, decide_eq_false_iff_not]
  omega
theorem key_eq (s : Str) : r07_key s = some (keyOK s) := by
  unfold r07_key keyOK
  simp only [Option.some.injEq]
  rw [Bool.eq_iff_iff]
  simp only [Bool.and_eq_true, decide_eq_true_eq]
  omega
def prevOf (l : List Str) (i : Nat) : Option Str := if i = 0 then none else l[i - 1]?
theorem asc_gen {v : ApiValue} (hv : v.bulk < 4611686018427387904) : ∀ (k i : Nat), v.keys.length < k + i → i ≤ v.keys.length →
    value_keyed_l1 v k (i : Int) = some (ascL (prevOf v.keys i) (v.keys.drop i)) ∧
    r07_ascending_l1 v k (i : Int) = some (ascL (prevOf v.keys i) (v.keys.drop i) && ((v.keys.length : Int) == (v.list_.length : Int)))
  | 0, i, h, h' => by omega
  | k + 1, i, h, h' => by
    have hlen := vkeys_len v
    rw [value_keyed_l1, r07_ascending_l1]
    by_cases hi : i < v.keys.length
    · have hm : v.keys[i] ∈ v.keys := List.getElem_mem hi
      have hb := vkeys_mem hm
      rw [List.drop_eq_getElem_cons hi, if_pos (by simp; omega), if_pos (by simp; omega), idxn hi]
      simp only [bind1_some, keyOK_i, key_eq, ascL]
      obtain ⟨ih1, ih2⟩ := asc_gen hv k (i + 1) (by omega) (by omega)
      have hp : prevOf v.keys (i + 1) = some v.keys[i] := by simp [prevOf, hi]
      rw [hp] at ih1 ih2
      rw [w64s (by omega), ih1, ih2]
      by_cases h0 : i = 0
      · subst h0
        have hp0 : prevOf v.keys 0 = none := rfl
        rw [hp0]
        cases keyOK v.keys[0] <;> simp
      · have hi1 : i - 1 < v.keys.length := by omega
        have hm1 : v.keys[i - 1] ∈ v.keys := List.getElem_mem hi1
        have hb1 := vkeys_mem hm1
        have hp0 : prevOf v.keys i = some v.keys[i - 1] := by simp [prevOf, h0, hi1]
        have e1 : w64 ((i : Int) - 1) = ((i - 1 : Nat) : Int) := by rw [w64z (by omega)]; omega
        obtain ⟨c1, c2⟩ := ncmp_eq (a := v.keys[i - 1]) (b := v.keys[i]) (by omega) (by omega)
        have hpos : decide ((0 : Int) < (i : Int)) = true := by simp; omega
        rw [hp0, e1, hpos, idxn hi1]
        simp only [bind1_some, c1, c2, if_true]
        have hn : decide (ncmp v.keys[i - 1] v.keys[i] < 0) = !decide (0 ≤ ncmp v.keys[i - 1] v.keys[i]) := by
          by_cases h : 0 ≤ ncmp v.keys[i - 1] v.keys[i] <;> simp [h] <;> omega
        rw [hn]
        cases keyOK v.keys[i] <;> cases decide (0 ≤ ncmp v.keys[i - 1] v.keys[i]) <;> simp
    · have : i = v.keys.length := by omega
      subst this
      simp [ascL]
theorem keyed_eq {v : ApiValue} (hv : v.bulk < 4611686018427387904) : value_keyed v = some (((v.keys.length : Int) == (v.list_.length : Int)) && ascL none v.keys) ∧ r07_ascending v = some (((v.keys.length : Int) == (v.list_.length : Int)) && ascL none v.keys) := by
  have hlen := vkeys_len v
  obtain ⟨h1, h2⟩ := asc_gen hv BIG 0 (by have := BIG_lt; omega) (by omega)
  have hp0 : prevOf v.keys 0 = none := rfl
  rw [hp0, List.drop_zero] at h1 h2
  unfold value_keyed r07_ascending
  rw [show (0 : Int) = ((0 : Nat) : Int) from rfl, h1, h2]
  by_cases h : (v.keys.length : Int) = (v.list_.length : Int)
  · simp [h]
  · have : ((v.keys.length : Int) == (v.list_.length : Int)) = false := by simpa using h
    simp [this]
    intro hh; exact absurd hh h
def vplain (v : ApiValue) : Bool :=
  (((((v.kind == 1) || (!v.bool_)) && ((v.kind == 2) || (v.int_ == 0))) && ((v.kind == 3) || (v.str_ == ([] : Str)))) && (((v.kind == 4) || (v.kind == 5)) || ((v.list_.length : Int) == 0))) && ((v.kind == 5) || ((v.keys.length : Int) == 0))
theorem plain7 (v : ApiValue) : r07_plain v = some (vplain v) := by
  unfold r07_plain vplain
  have hl : decide (0 < (v.list_.length : Int)) = !((v.list_.length : Int) == 0) := by
    cases h : v.list_ <;> simp
    omega
  rw [hl]
  have hk : ∀ n : Int, (v.kind != n) = !(v.kind == n) := fun n => rfl
  have hi : (v.int_ != 0) = !(v.int_ == 0) := rfl
  rw [hk, hk, hk, hk, hk, hi]
  generalize (v.kind == 1) = a1
  generalize (v.kind == 2) = a2
  generalize (v.kind == 3) = a3
  generalize (v.kind == 4) = a4
  generalize (v.kind == 5) = a5
  generalize v.bool_ = b
  generalize (v.int_ == 0) = c
  generalize (v.str_ == ([] : Str)) = d
  generalize ((v.list_.length : Int) == 0) = e
  generalize ((v.keys.length : Int) == 0) = f
  revert a1 a2 a3 a4 a5 b c d e f
  decide
def vnode (v : ApiValue) (level : Nat) : Int :=
  if 16 < level then 13
  else if (decide (v.kind < 0)) || (decide (5 < v.kind)) || !vplain v then 1
  else if (decide (v.int_ < (-9007199254740992))) || (decide (9007199254740992 < v.int_)) then 2
  else if ((decide (4096 < (v.str_.length : Int))) || (decide (1024 < (v.list_.length : Int)))) || (decide (1024 < (v.keys.length : Int))) then 3
  else if v.kind == 5 && !(((v.keys.length : Int) == (v.list_.length : Int)) && ascL none v.keys) then 1
  else if (((v.kind == 4) || (v.kind == 5)) && ((v.list_.length : Int) == 0)) && level == 16 then 13
  else 0
theorem node_eq {v : ApiValue} (hv : v.bulk < 4611686018427387904) (level : Nat) : value_node v (level : Int) = some (vnode v level) := by
  unfold value_node vnode value_unused
  have h16 : decide ((16 : Int) < (level : Int)) = decide (16 < level) := by congr 1; simp; omega
  have h16e : ((level : Int) == 16) = (level == 16) := by
    rw [Bool.eq_iff_iff]; simp only [beq_iff_eq]; omega
  rw [h16, h16e, (keyed_eq hv).1]
  change (if decide (16 < level) = true then some 13 else bind1 (if (decide (v.kind < 0) || decide (5 < v.kind)) = true then some true else bind1 (some (vplain v)) fun x1 => some (!x1)) _) = _
  by_cases h0 : 16 < level
  · simp [h0]
  · simp only [h0, decide_false, Bool.false_eq_true, if_false, bind1_some]
    cases h1 : (decide (v.kind < 0) || decide (5 < v.kind)) with
    | true => simp
    | false =>
      cases h2 : vplain v with
      | false => simp
      | true =>
        simp only [Bool.false_eq_true, if_false, Bool.not_true, bind1_some, Bool.or_self]
        split
        · rfl
        · split
          · rfl
          · cases h3 : (v.kind == 5) <;> cases h4 : (((v.keys.length : Int) == (v.list_.length : Int)) && ascL none v.keys) <;> simp <;> (first | rfl | (split <;> rfl))
mutual
def vchk : ApiValue → Nat → Int
  | ⟨a, b, c, d, l, f⟩, level => if vnode ⟨a, b, c, d, l, f⟩ level != 0 then vnode ⟨a, b, c, d, l, f⟩ level else vchkL l (level + 1)
def vchkL : List ApiValue → Nat → Int
  | [], _ => 0
  | x :: r, level => if vchk x level != 0 then vchk x level else vchkL r level
end
theorem vchk_eq (v : ApiValue) (level : Nat) : vchk v level = if vnode v level != 0 then vnode v level else vchkL v.list_ (level + 1) := by cases v; rw [vchk]
theorem chkL {go : ApiValue → Int → Option Int} {level : Nat} : ∀ (l : List ApiValue) (i : Nat), (∀ x ∈ l, go x ((level + 1 : Nat) : Int) = some (vchk x (level + 1))) →
    scanS (fun _ e1 (_ : Unit) r => bind1 (go e1 ((level + 1 : Nat) : Int)) fun e2 => if e2 != 0 then some e2 else r ()) (fun _ => some 0) i l () = some (vchkL l (level + 1))
  | [], i, _ => by simp [scanS, vchkL]
  | x :: r, i, h => by
    rw [scanS, h x (by simp), vchkL]
    simp only [bind1_some]
    rw [chkL r (i + 1) (fun y hy => h y (by simp [hy]))]
    split <;> rfl
theorem check_n7 : ∀ (n : Nat) (v : ApiValue) (level : Nat), v.bulk ≤ n → v.bulk < 4611686018427387904 → level ≤ 17 → r07_check_n (n + 1) v (level : Int) = some (vchk v level)
  | 0, v, _, h, _, _ => by have := v.bulk_pos; omega
  | n + 1, v, level, h, hB, hlv => by
    have hl := vlist_len v
    rw [vchk_eq]
    unfold r07_check_n r07_check_b
    have h16 : decide ((16 : Int) < (level : Int)) = decide (16 < level) := by congr 1; simp; omega
    have h16e : ((level : Int) == 16) = (level == 16) := by
      rw [Bool.eq_iff_iff]; simp only [beq_iff_eq]; omega
    rw [h16, h16e, (keyed_eq hB).2, plain7]
    unfold vnode
    by_cases h0 : 16 < level
    · simp [h0]
    · have hw : w64 ((level : Int) + 1) = ((level + 1 : Nat) : Int) := w64s (by omega)
      have := scanS_big (F := fun k (_ : Unit) i => r07_check_l1 (r07_check_n (n + 1)) v (level : Int) k i) (l := v.list_) (body := fun _ e1 _ r => bind1 (r07_check_n (n + 1) e1 ((level + 1 : Nat) : Int)) fun e2 => if e2 != 0 then some e2 else r ()) (fin := fun _ => some 0) (by omega) (fun k s i => by rw [← hw]; rfl) ()
      rw [this, chkL v.list_ 0 fun x hx => check_n7 n x (level + 1) (by have := vlist_mem hx; omega) (by have := vlist_mem hx; omega) (by omega)]
      simp only [h0, decide_false, Bool.false_eq_true, if_false, bind1_some]
      cases h1 : (decide (v.kind < 0) || decide (5 < v.kind)) with
      | true => simp
      | false =>
        cases h2 : vplain v with
        | false => simp
        | true =>
          simp only [Bool.false_eq_true, if_false, Bool.not_true, bind1_some, Bool.or_self]
          split
          · simp
          · split
            · simp
            · have h4 : decide ((4 : Int) ≤ v.kind) = ((v.kind == 4) || (v.kind == 5)) := by
                simp only [Bool.or_eq_false_iff, decide_eq_false_iff_not] at h1
                rw [Bool.eq_iff_iff]
                simp only [Bool.or_eq_true, decide_eq_true_eq, beq_iff_eq]
                omega
              rw [h4]
              cases h3 : (v.kind == 5) <;> cases h5 : (((v.keys.length : Int) == (v.list_.length : Int)) && ascL none v.keys) <;> simp <;> (first | rfl | (split <;> simp <;> rename_i hq <;> (first
                | exact fun hh => absurd hq.2 (hh hq.1.1 hq.1.2)
                | exact fun a b c => absurd ⟨⟨a, b⟩, c⟩ hq)))
theorem valid7 {v : ApiValue} (h : v.bulk < 4611686018427387904) : r07_Valid v = some (vchk v 1) := by
  obtain ⟨n, hn, hn2⟩ := BIG_succ
  unfold r07_Valid r07_check
  rw [hn]
  exact check_n7 n v 1 (by omega) h (by omega)
def wres (c : Int) : Bool × Option Int := if c != 0 then (false, some c) else (true, none)
theorem vy_eq {v : ApiValue} (hv : v.bulk < 4611686018427387904) (level : Nat) : value_Valid_y none (level : Int) v = some (wres (vnode v level)) := by
  unfold value_Valid_y wres
  simp only [node_eq hv, bind1_some]
  by_cases h : vnode v level = 0 <;> simp [h]
theorem walkL {go : Option Int → ApiValue → Int → Option (Bool × Option Int)} {level : Nat} : ∀ (l : List ApiValue) (i : Nat), (∀ x ∈ l, go none x ((level + 1 : Nat) : Int) = some (wres (vchk x (level + 1)))) →
    scanS (fun _ x1 (s1 : Option Int) r => bind2 (go s1 x1 ((level + 1 : Nat) : Int)) fun b1 s2 => if !b1 then some (false, s2) else r s2) (fun s1 => some (true, s1)) i l none = some (wres (vchkL l (level + 1)))
  | [], i, _ => by simp [scanS, vchkL, wres]
  | x :: r, i, h => by
    rw [scanS, h x (by simp), vchkL]
    by_cases hc : vchk x (level + 1) = 0
    · simp only [hc, wres, bne_self_eq_false, Bool.false_eq_true, if_false, bind2_some, Bool.not_true]
      rw [walkL r (i + 1) (fun y hy => h y (by simp [hy]))]
      rfl
    · simp [hc, wres]
theorem walk_n : ∀ (n : Nat) (v : ApiValue) (level : Nat), v.bulk ≤ n → v.bulk < 4611686018427387904 → level ≤ 17 → value_walk_n value_Valid_y (n + 1) none v (level : Int) = some (wres (vchk v level))
  | 0, v, _, h, _, _ => by have := v.bulk_pos; omega
  | n + 1, v, level, h, hB, hlv => by
    have hl := vlist_len v
    rw [vchk_eq]
    unfold value_walk_n value_walk_b
    rw [vy_eq hB]
    by_cases h0 : vnode v level = 0
    · have hlv' : level ≤ 16 := by
        rcases Nat.lt_or_ge 16 level with h | h
        · unfold vnode at h0; simp [h] at h0
        · exact h
      have hw : w64 ((level : Int) + 1) = ((level + 1 : Nat) : Int) := w64s (by omega)
      have := scanS_big (F := fun k s i => value_walk_l1 (value_walk_n value_Valid_y (n + 1)) v (level : Int) k s i) (l := v.list_) (body := fun _ x1 (s1 : Option Int) r => bind2 (value_walk_n value_Valid_y (n + 1) s1 x1 ((level + 1 : Nat) : Int)) fun b1 s2 => if !b1 then some (false, s2) else r s2) (fin := fun s1 => some (true, s1)) (by omega) (fun k s i => by rw [← hw]; rfl) none
      simp only [h0, wres, bne_self_eq_false, Bool.false_eq_true, if_false, bind2_some, Bool.not_true]
      rw [this, walkL v.list_ 0 fun x hx => walk_n n x (level + 1) (by have := vlist_mem hx; omega) (by have := vlist_mem hx; omega) (by omega)]
      rfl
    · simp [h0, wres]
theorem vvalid_eq {v : ApiValue} (h : v.bulk < 4611686018427387904) : value_Valid v = some (vchk v 1) := by
  obtain ⟨n, hn, hn2⟩ := BIG_succ
  unfold value_Valid value_walk
  rw [hn, show (1 : Int) = ((1 : Nat) : Int) from rfl, walk_n n v 1 (by omega) h (by omega)]
  unfold wres
  by_cases hc : vchk v 1 = 0 <;> simp [hc]
end Go.Ft

namespace Go.Ft
open Go
attribute [local congr] ite_c1
def vzero (v : ApiValue) : Bool := (((((v.kind == 0) && (!v.bool_)) && (v.int_ == 0)) && (v.str_ == ([] : Str))) && ((v.list_.length : Int) == 0)) && ((v.keys.length : Int) == 0)
theorem zero_eq (v : ApiValue) : parser_zero v = some (vzero v) := rfl
theorem same_zero (v : ApiValue) : r07_Same v (ApiValue.mk 0 false 0 ([] : Str) [] []) = some (vzero v) := by
  obtain ⟨n, hn, hn2⟩ := BIG_succ
  obtain ⟨m, hm⟩ : ∃ m, n = m + 1 := ⟨n - 1, by omega⟩
  have hB : BIG = (m + 1) + 1 := by omega
  unfold r07_Same
  rw [hB, r07_Same_n, r07_Same_b]
  have hz : vzero v = !(((((v.kind != 0) || (!(v.bool_ == false))) || (v.int_ != 0)) || (!(v.str_ == ([] : Str)))) || ((v.list_.length : Int) != (([] : List ApiValue).length : Int)) || ((v.keys.length : Int) != (([] : List Str).length : Int))) := by
    unfold vzero
    have hk : (v.kind != 0) = !(v.kind == 0) := rfl
    have hi : (v.int_ != 0) = !(v.int_ == 0) := rfl
    have hl : ((v.list_.length : Int) != (([] : List ApiValue).length : Int)) = !((v.list_.length : Int) == 0) := rfl
    have hks : ((v.keys.length : Int) != (([] : List Str).length : Int)) = !((v.keys.length : Int) == 0) := rfl
    rw [hk, hi, hl, hks]
    generalize (v.kind == 0) = a
    generalize v.bool_ = b
    generalize (v.int_ == 0) = c
    generalize (v.str_ == ([] : Str)) = d
    generalize ((v.list_.length : Int) == 0) = e
    generalize ((v.keys.length : Int) == 0) = f
    revert a b c d e f
    decide
  cases h : (((((v.kind != 0) || (!(v.bool_ == false))) || (v.int_ != 0)) || (!(v.str_ == ([] : Str)))) || ((v.list_.length : Int) != (([] : List ApiValue).length : Int)) || ((v.keys.length : Int) != (([] : List Str).length : Int))) with
  | true =>
    rw [hz, h]
    rfl
  | false =>
    rw [hz, h]
    simp only [Bool.or_eq_false_iff] at h
    have hl : v.list_ = [] := by have := h.1.2; simpa using this
    have hk : v.keys = [] := by have := h.2; simpa using this
    simp only [Bool.false_eq_true, if_false, Bool.not_false]
    rw [hB, r07_Same_l1, hk]
    simp only [List.length_nil, Int.lt_irrefl, decide_false, Bool.false_eq_true, if_false, Int.ofNat_zero, Int.natCast_zero]
    rw [hB, r07_Same_l2, hl]
    simp
def earity (e : ApiExpr) : Bool :=
  if e.kind == 1 then (e.args.length : Int) == 0 else if e.kind == 2 then (e.args.length : Int) == 0 else if e.kind == 3 then (e.args.length : Int) == 1 else if e.kind == 6 then (e.args.length : Int) == 1
  else if e.kind == 4 then (e.args.length : Int) == 2 else if e.kind == 7 then (e.args.length : Int) == 2 else if e.kind == 8 then (e.args.length : Int) == 3 else ((e.kind == 5) || (e.kind == 9)) || (e.kind == 10)
theorem arity10 (e : ApiExpr) : r10_arity e = some (earity e) := by
  unfold r10_arity earity
  simp only [apply_ite some]
def kindOK (e : ApiExpr) : Bool := !((decide (e.kind < 1)) || (decide (10 < e.kind)))
theorem arityP (e : ApiExpr) (h : kindOK e = true) : parser_arity e = some (earity e) := by
  unfold parser_arity earity
  unfold kindOK at h
  simp only [Bool.not_eq_true', Bool.or_eq_false_iff, decide_eq_false_iff_not] at h
  simp only [apply_ite some]
  have hh : ¬ e.kind = 1 → ¬ e.kind = 2 → ¬ e.kind = 3 → ¬ e.kind = 6 → ¬ e.kind = 4 → ¬ e.kind = 7 → ¬ e.kind = 8 → (((e.kind == 5) || (e.kind == 9)) || (e.kind == 10)) = true := by
    intro h1 h2 h3 h6 h4 h7 h8
    simp only [Bool.or_eq_true, beq_iff_eq]
    omega
  by_cases h1 : e.kind = 1
  · simp [h1]
  by_cases h2 : e.kind = 2
  · simp [h2]
  by_cases h3 : e.kind = 3
  · simp [h3]
  by_cases h6 : e.kind = 6
  · simp [h6]
  by_cases h4 : e.kind = 4
  · simp [h4]
  by_cases h7 : e.kind = 7
  · simp [h7]
  by_cases h8 : e.kind = 8
  · simp [h8]
  rw [hh h1 h2 h3 h6 h4 h7 h8]
  all_goals simp [h1, h2, h3, h4, h6, h7, h8]
def strongS (s : Str) : Int := (parser_strength s).getD 0
theorem strong_eq (s : Str) : parser_strength s = some (strongS s) := by
  obtain ⟨n, h⟩ := strength_some s
  unfold strongS; rw [h]; rfl
def enamed (e : ApiExpr) : Bool :=
  if e.kind == 2 then isPlain e.name else if e.kind == 3 then isPlain e.name else if e.kind == 5 then isPlain e.name else if e.kind == 6 then (e.name == ([33] : Str)) || (e.name == ([45] : Str))
  else if e.kind == 7 then decide (0 < strongS e.name) else e.name == ([] : Str)
theorem named_eq (e : ApiExpr) (h : e.bulk < 4611686018427387904) : parser_named e = some (enamed e) ∧ r10_named e = some (enamed e) := by
  have hn := ename_len e
  obtain ⟨p1, p2⟩ := plain_eq e.name (by omega)
  unfold parser_named r10_named enamed
  rw [p1, p2, strength_eq, strong_eq]
  simp only [bind1_some, apply_ite some, and_self]
theorem anyK (l : List Str) (hl : l.length < 4611686018427387904) : slices_ContainsFunc_L_string_string l parser_keyed_1 = some (l.any fun k => !keyOK k) := by
  unfold slices_ContainsFunc_L_string_string slices_IndexFunc_L_string_string
  have := scanS_big (F := fun k (_ : Unit) i => slices_IndexFunc_L_string_string_l1 l parser_keyed_1 k i) (l := l) (body := fun (i : Nat) e1 _ r => bind1 (parser_keyed_1 e1) fun x1 => if x1 then some (i : Int) else r ()) (fin := fun _ => some (-1)) hl (fun k s i => rfl) ()
  rw [this]
  have key : ∀ (t : List Str) (i : Nat), bind1 (scanS (fun (i : Nat) e1 (_ : Unit) r => bind1 (parser_keyed_1 e1) fun x1 => if x1 then some (i : Int) else r ()) (fun _ => some (-1)) i t ()) (fun x1 => some (decide (0 ≤ x1))) = some (t.any fun k => !keyOK k) := by
    intro t
    induction t with
    | nil => intro i; rfl
    | cons c t ih =>
      intro i
      rw [scanS]
      have e1 : parser_keyed_1 c = some (!keyOK c) := by unfold parser_keyed_1; rw [keyOK_i]
      rw [e1]
      simp only [bind1_some, List.any_cons]
      cases h : keyOK c with
      | false => simp
      | true =>
        simp only [Bool.not_true, Bool.false_eq_true, if_false, Bool.false_or]
        exact ih (i + 1)
  exact key l 0
def ekeyed (e : ApiExpr) : Bool := if e.kind != 10 then (e.keys.length : Int) == 0 else ((e.keys.length : Int) == (e.args.length : Int)) && !(e.keys.any fun k => !keyOK k)
theorem keyedP (e : ApiExpr) (h : e.bulk < 4611686018427387904) : parser_keyed e = some (ekeyed e) := by
  have hk := ekeys_len e
  unfold parser_keyed ekeyed
  rw [anyK e.keys (by omega)]
  split
  · rfl
  · cases ((e.keys.length : Int) == (e.args.length : Int)) <;> simp
theorem formedL (e : ApiExpr) (h : e.bulk < 4611686018427387904) : r10_formed_l1 e BIG 0 = some (!(e.keys.any fun k => !keyOK k) && ((e.keys.length : Int) == (e.args.length : Int))) := by
  have hk := ekeys_len e
  have := scanS_big (F := fun k (_ : Unit) i => r10_formed_l1 e k i) (l := e.keys) (body := fun (i : Nat) e2 _ r => bind1 (if decide ((e2.length : Int) < 1) then some true else bind1 (idx e.keys (i : Int)) fun e3 => some (decide (64 < (e3.length : Int)))) fun b4 => if b4 then some false else r ())
    (fin := fun _ => some ((e.keys.length : Int) == (e.args.length : Int))) (by omega) (fun k s i => rfl) ()
  rw [this]
  have key : ∀ (t : List Str) (i : Nat), t = e.keys.drop i → scanS (fun (i : Nat) e2 (_ : Unit) r => bind1 (if decide ((e2.length : Int) < 1) then some true else bind1 (idx e.keys (i : Int)) fun e3 => some (decide (64 < (e3.length : Int)))) fun b4 => if b4 then some false else r ())
      (fun _ => some ((e.keys.length : Int) == (e.args.length : Int))) i t () = some (!(t.any fun k => !keyOK k) && ((e.keys.length : Int) == (e.args.length : Int))) := by
    intro t
    induction t with
    | nil => intro i _; rfl
    | cons c t ih =>
      intro i ht
      have hi : i < e.keys.length := by
        rcases Nat.lt_or_ge i e.keys.length with h | h
        · exact h
        · rw [List.drop_eq_nil_of_le h] at ht; cases ht
      have hc := List.drop_eq_getElem_cons hi
      rw [← ht] at hc
      have e1 : c = e.keys[i] := (List.cons.inj hc).1
      have e2 := (List.cons.inj hc).2
      rw [scanS, idxn hi, ← e1]
      simp only [bind1_some, List.any_cons]
      rw [ih (i + 1) e2]
      have e3 := keyOK_i c
      cases h1 : decide ((List.length c : Int) < 1) <;> rw [h1] at e3
      · simp only [Bool.false_or] at e3
        simp only [Bool.false_eq_true, if_false, bind1_some, e3]
        cases keyOK c <;> simp
      · simp only [Bool.true_or] at e3
        have : keyOK c = false := by
          cases h : keyOK c with
          | false => rfl
          | true => rw [h] at e3; cases e3
        simp [this]
  exact key e.keys 0 rfl
def eformed (e : ApiExpr) : Bool := kindOK e && ((e.kind == 1) || vzero e.value) && enamed e && earity e && ekeyed e
theorem arity_kind (e : ApiExpr) (h : earity e = true) : kindOK e = true := by
  unfold earity at h
  unfold kindOK
  simp only [Bool.not_eq_true', Bool.or_eq_false_iff, decide_eq_false_iff_not]
  by_cases h1 : e.kind = 1
  · omega
  by_cases h2 : e.kind = 2
  · omega
  by_cases h3 : e.kind = 3
  · omega
  by_cases h6 : e.kind = 6
  · omega
  by_cases h4 : e.kind = 4
  · omega
  by_cases h7 : e.kind = 7
  · omega
  by_cases h8 : e.kind = 8
  · omega
  simp [h1, h2, h3, h4, h6, h7, h8] at h
  omega
theorem formed_eq (e : ApiExpr) (h : e.bulk < 4611686018427387904) : r10_formed e = some (eformed e) := by
  unfold r10_formed eformed
  rw [arity10, (named_eq e h).2, same_zero, formedL e h]
  have hk := arity_kind e
  unfold ekeyed
  have hne : (e.kind != 1) = !(e.kind == 1) := rfl
  rw [hne]
  cases h1 : earity e with
  | false => cases (e.kind == 1) <;> simp
  | true =>
    rw [hk h1]
    cases h2 : enamed e with
    | false => cases (e.kind == 1) <;> simp
    | true =>
      cases h3 : (e.kind == 1) <;> cases h4 : vzero e.value <;> simp <;> (first | done | (split <;> simp [Bool.and_comm]))
theorem mget_mset (y : List (Str × Int)) (s t : Str) (n : Int) : mget (mset y s n) t = if t = s then n else mget y t := by
  induction y with
  | nil => by_cases h : t = s <;> simp [mset, mget, h]
  | cons a y ih =>
    obtain ⟨k, v⟩ := a
    unfold mset
    by_cases h : s = k
    · subst h
      simp only [beq_self_eq_true, if_true]
      unfold mget
      by_cases h2 : t = s
      · simp [h2]
      · have : (t == s) = false := beq_eq_false_iff_ne.2 h2
        simp [this, h2]
    · have : (s == k) = false := beq_eq_false_iff_ne.2 h
      rw [this]
      simp only [Bool.false_eq_true, if_false]
      unfold mget
      by_cases h2 : t = k
      · subst h2
        have : ¬ t = s := fun hh => h hh.symm
        simp [this]
      · have h3 : (t == k) = false := beq_eq_false_iff_ne.2 h2
        rw [h3]
        simp only [Bool.false_eq_true, if_false]
        exact ih
def dupF : List Str → List Str → Bool
  | _, [] => false
  | seen, s :: r => seen.contains s || dupF (seen ++ [s]) r
theorem rep_eq (l : List Str) (hl : l.length < 4611686018427387904) : parser_repeated l = some (dupF [] l) := by
  unfold parser_repeated
  have := scanS_big (F := fun k s i => parser_repeated_l1 l k i s) (l := l) (body := fun _ s1 (y1 : List (Str × Int)) r => if decide (1 < (mget (mset y1 s1 (w64 ((mget y1 s1) + 1))) s1)) then some true else r (mset y1 s1 (w64 ((mget y1 s1) + 1)))) (fin := fun _ => some false) hl (fun k s i => rfl) []
  rw [this]
  have key : ∀ (t : List Str) (i : Nat) (y : List (Str × Int)) (seen : List Str), (∀ s, mget y s = if s ∈ seen then 1 else 0) →
      scanS (fun _ s1 (y1 : List (Str × Int)) r => if decide (1 < (mget (mset y1 s1 (w64 ((mget y1 s1) + 1))) s1)) then some true else r (mset y1 s1 (w64 ((mget y1 s1) + 1)))) (fun _ => some false) i t y = some (dupF seen t) := by
    intro t
    induction t with
    | nil => intro i y seen _; rfl
    | cons c t ih =>
      intro i y seen hy
      rw [scanS, dupF, mget_mset, if_pos rfl, hy c]
      by_cases hc : c ∈ seen
      · have : w64 2 = 2 := by decide
        simp [hc, this]
      · have : w64 ((0 : Int) + 1) = 1 := by decide
        simp only [hc, if_false, this]
        have e : seen.contains c = false := by simpa using hc
        rw [e]
        simp only [Int.lt_irrefl, decide_false, Bool.false_eq_true, if_false, Bool.false_or]
        refine ih (i + 1) _ (seen ++ [c]) fun s => ?_
        rw [mget_mset, hy s]
        by_cases h1 : s = c
        · subst h1; simp
        · simp [h1]
  exact key l 0 [] [] (fun s => by simp [mget])
theorem twice_in (l : List Str) (i : Nat) (hi : i < l.length) (hl : l.length < 4611686018427387904) (go : Int → Option Bool) : ∀ (k j : Nat), i < k + j → j ≤ i →
    r10_twice_l2 l (i : Int) go k (j : Int) = if ((l.take i).drop j).contains l[i] then some true else go ((i + 1 : Nat) : Int)
  | 0, j, h, h' => by omega
  | k + 1, j, h, h' => by
    rw [r10_twice_l2]
    by_cases hj : j < i
    · have hlt : j < (l.take i).length := by simp; omega
      rw [if_pos (by simpa using hj), idxn hi, idxn (by omega), List.drop_eq_getElem_cons hlt]
      simp only [bind1_some, List.contains_cons, List.getElem_take]
      cases h1 : (l[i] == l[j]) with
      | true => simp
      | false =>
        simp only [Bool.false_eq_true, if_false, Bool.false_or]
        rw [w64s (by omega)]
        exact twice_in l i hi hl go k (j + 1) (by omega) (by omega)
    · have : j = i := by omega
      subst this
      rw [if_neg (by simp), w64s (by omega)]
      have : (List.take j l).drop j = [] := List.drop_eq_nil_of_le (by simp; omega)
      rw [this]
      simp
theorem twice_gen (l : List Str) (hl : l.length < 4611686018427387904) : ∀ (k i : Nat), l.length < k + i → i ≤ l.length → r10_twice_l1 l k (i : Int) = some (dupF (l.take i) (l.drop i))
  | 0, i, h, h' => by omega
  | k + 1, i, h, h' => by
    rw [r10_twice_l1]
    by_cases hi : i < l.length
    · rw [if_pos (by simpa using hi), List.drop_eq_getElem_cons hi, dupF]
      have := twice_in l i hi hl (r10_twice_l1 l k) BIG 0 (by have := BIG_lt; omega) (by omega)
      rw [show (0 : Int) = ((0 : Nat) : Int) from rfl, this, List.drop_zero, twice_gen l hl k (i + 1) (by omega) (by omega)]
      have e : List.take (i + 1) l = List.take i l ++ [l[i]] := by rw [List.take_add_one, List.getElem?_eq_getElem hi]; rfl
      rw [e]
      cases (l.take i).contains l[i] <;> simp
    · have : i = l.length := by omega
      subst this
      simp [dupF]
theorem twice_eq (l : List Str) (hl : l.length < 4611686018427387904) : r10_twice l = some (dupF [] l) := by
  have := twice_gen l hl BIG 0 (by have := BIG_lt; omega) (by omega)
  simpa [r10_twice] using this
def xnode (e : ApiExpr) (level : Nat) : Int :=
  if 16 < level then 13 else if !eformed e then 1 else if e.kind == 1 && (vchk e.value 1 != 0) then vchk e.value 1 else if decide (1024 < (e.args.length : Int)) then 3 else if dupF [] e.keys then 7 else 0
theorem pnode_eq (e : ApiExpr) (h : e.bulk < 4611686018427387904) (level : Nat) : parser_node e (level : Int) = some (xnode e level) := by
  have hk := ekeys_len e
  have hv := evalue_bulk e
  unfold parser_node xnode
  have h16 : decide ((16 : Int) < (level : Int)) = decide (16 < level) := by congr 1; simp; omega
  rw [h16, zero_eq, (named_eq e h).1, keyedP e h, vvalid_eq (by omega), rep_eq e.keys (by omega)]
  by_cases h0 : 16 < level
  · simp [h0]
  · simp only [h0, decide_false, Bool.false_eq_true, if_false, bind1_some]
    have hkd : ((decide (e.kind < 1)) || (decide (10 < e.kind))) = !kindOK e := by simp [kindOK]
    have hne : (e.kind != 1) = !(e.kind == 1) := rfl
    rw [hkd, hne]
    unfold eformed
    cases h1 : kindOK e with
    | false => simp
    | true =>
      rw [arityP e h1]
      cases h3 : (e.kind == 1) <;> cases h4 : vzero e.value <;> cases h5 : enamed e <;> cases h6 : earity e <;> cases h7 : ekeyed e <;> simp <;>
        (first | done | (split <;> (first | rfl | (split <;> (first | rfl | (split <;> rfl))))))
end Go.Ft

namespace Go.Ft
open Go
attribute [local congr] ite_c1
mutual
def xchk : ApiExpr → Nat → Int
  | ⟨a, b, c, l, f⟩, level => if xnode ⟨a, b, c, l, f⟩ level != 0 then xnode ⟨a, b, c, l, f⟩ level else xchkL l (level + 1)
def xchkL : List ApiExpr → Nat → Int
  | [], _ => 0
  | x :: r, level => if xchk x level != 0 then xchk x level else xchkL r level
end
theorem xchk_eq (e : ApiExpr) (level : Nat) : xchk e level = if xnode e level != 0 then xnode e level else xchkL e.args (level + 1) := by cases e; rw [xchk]
theorem xchkL_scan {go : ApiExpr → Int → Option Int} {level : Nat} : ∀ (l : List ApiExpr) (i : Nat), (∀ x ∈ l, go x ((level + 1 : Nat) : Int) = some (xchk x (level + 1))) →
    scanS (fun _ e1 (_ : Unit) r => bind1 (go e1 ((level + 1 : Nat) : Int)) fun e2 => if e2 != 0 then some e2 else r ()) (fun _ => some 0) i l () = some (xchkL l (level + 1))
  | [], i, _ => by simp [scanS, xchkL]
  | x :: r, i, h => by
    rw [scanS, h x (by simp), xchkL]
    simp only [bind1_some]
    rw [xchkL_scan r (i + 1) (fun y hy => h y (by simp [hy]))]
    split <;> rfl
theorem xvalid_n : ∀ (n : Nat) (e : ApiExpr) (level : Nat), e.bulk ≤ n → e.bulk < 4611686018427387904 → level ≤ 17 → parser_valid_n (n + 1) e (level : Int) = some (xchk e level) ∧ r10_check_n (n + 1) e (level : Int) = some (xchk e level)
  | 0, e, _, h, _, _ => by have := e.bulk_pos; omega
  | n + 1, e, level, h, hB, hlv => by
    have hl := eargs_len e
    have hv := evalue_bulk e
    have hks := ekeys_len e
    have hw : w64 ((level : Int) + 1) = ((level + 1 : Nat) : Int) := w64s (by omega)
    constructor
    · rw [xchk_eq]
      unfold parser_valid_n parser_valid_b
      have := scanS_big (F := fun k (_ : Unit) i => parser_valid_l1 (parser_valid_n (n + 1)) e (level : Int) k i) (l := e.args) (body := fun _ e1 _ r => bind1 (parser_valid_n (n + 1) e1 ((level + 1 : Nat) : Int)) fun e2 => if e2 != 0 then some e2 else r ()) (fin := fun _ => some 0) (by omega) (fun k s i => by rw [← hw]; rfl) ()
      rw [pnode_eq e hB, this]
      simp only [bind1_some]
      by_cases h0 : xnode e level = 0
      · have hlv' : level ≤ 16 := by
          rcases Nat.lt_or_ge 16 level with h | h
          · unfold xnode at h0; simp [h] at h0
          · exact h
        rw [xchkL_scan e.args 0 fun x hx => (xvalid_n n x (level + 1) (by have := eargs_mem hx; omega) (by have := eargs_mem hx; omega) (by omega)).1]
        simp [h0]
      · simp [h0]
    · rw [xchk_eq]
      unfold r10_check_n r10_check_b
      have := scanS_big (F := fun k (_ : Unit) i => r10_check_l1 (r10_check_n (n + 1)) e (level : Int) k i) (l := e.args) (body := fun _ e1 _ r => bind1 (r10_check_n (n + 1) e1 ((level + 1 : Nat) : Int)) fun e2 => if e2 != 0 then some e2 else r ()) (fin := fun _ => some 0) (by omega) (fun k s i => by rw [← hw]; rfl) ()
      have h16 : decide ((16 : Int) < (level : Int)) = decide (16 < level) := by congr 1; simp; omega
      rw [formed_eq e hB, valid7 (by omega), twice_eq e.keys (by omega), this, h16]
      by_cases h0 : 16 < level
      · simp [xnode, h0]
      · rw [xchkL_scan e.args 0 fun x hx => (xvalid_n n x (level + 1) (by have := eargs_mem hx; omega) (by have := eargs_mem hx; omega) (by omega)).2]
        unfold xnode
        simp only [h0, decide_false, Bool.false_eq_true, if_false, bind1_some]
        cases eformed e with
        | false => simp
        | true =>
          simp only [Bool.not_true, Bool.false_eq_true, if_false]
          cases h1 : (e.kind == 1 && (vchk e.value 1 != 0)) with
          | true =>
            have : vchk e.value 1 ≠ 0 := by simp at h1; exact h1.2
            simp [this]
          | false =>
            simp only [Bool.false_eq_true, if_false]
            by_cases h2 : (1024 : Int) < (e.args.length : Int)
            · simp [h2]
            · simp only [h2, decide_false, Bool.false_eq_true, if_false]
              cases dupF [] e.keys <;> simp
def xval (e : ApiExpr) : Int := if 4096 < ecnt e then 15 else xchk e 1
theorem xval_eq {e : ApiExpr} (h : e.bulk < 4611686018427387904) : parser_Valid e = some (xval e) ∧ r10_Valid e = some (xval e) := by
  obtain ⟨n, hn, hn2⟩ := BIG_succ
  obtain ⟨c1, c2⟩ := count_eq h
  obtain ⟨v1, v2⟩ := xvalid_n n e 1 (by omega) h (by omega)
  unfold parser_Valid r10_Valid xval parser_valid r10_check
  rw [c1, c2, hn]
  have : decide ((4096 : Int) < (ecnt e : Int)) = decide (4096 < ecnt e) := by congr 1; simp; omega
  simp only [bind1_some, this]
  rw [show (1 : Int) = ((1 : Nat) : Int) from rfl, v1, v2]
  by_cases h4 : 4096 < ecnt e <;> simp [h4]
inductive Ty where
  | leaf (k : Int)
  | nest (k : Int) (t : Ty)
namespace Ty
def api : Ty → ApiType
  | leaf k => ⟨k, []⟩
  | nest k t => ⟨k, [t.api]⟩
def wf : Ty → Prop
  | leaf k => 0 ≤ k ∧ k ≤ 7 ∧ k ≠ 5 ∧ k ≠ 6
  | nest k t => (k = 5 ∨ k = 6) ∧ t.wf
def dep : Ty → Nat
  | leaf _ => 1
  | nest _ t => 1 + t.dep
def kind : Ty → Int
  | leaf k => k
  | nest k _ => k
theorem dep_pos (t : Ty) : 1 ≤ t.dep := by cases t <;> simp [dep] <;> omega
end Ty
theorem name_nil {k : Int} (h : 0 ≤ k ∧ k ≤ 7) : ∃ s, typing_name k = some s ∧ (s == ([] : Str)) = false := by
  obtain ⟨n, rfl⟩ : ∃ n : Nat, k = n := ⟨k.toNat, by omega⟩
  have hn : n < 8 := by omega
  match n, hn with
  | 0, _ => exact ⟨_, rfl, rfl⟩
  | 1, _ => exact ⟨_, rfl, rfl⟩
  | 2, _ => exact ⟨_, rfl, rfl⟩
  | 3, _ => exact ⟨_, rfl, rfl⟩
  | 4, _ => exact ⟨_, rfl, rfl⟩
  | 5, _ => exact ⟨_, rfl, rfl⟩
  | 6, _ => exact ⟨_, rfl, rfl⟩
  | 7, _ => exact ⟨_, rfl, rfl⟩
theorem name_out {k : Int} (h : ¬ (0 ≤ k ∧ k ≤ 7)) : typing_name k = some [] := by
  unfold typing_name
  rw [if_pos (by simp; omega)]
theorem tv_gen : ∀ (k level : Nat) (t : ApiType), 18 ≤ k + level → level ≤ 17 → ∃ c, typing_Valid_l1 k (level : Int) t = some c ∧ r08_check_n k t (level : Int) = some c ∧ (c = 0 → ∃ T : Ty, T.wf ∧ t = T.api ∧ T.dep + level ≤ 17)
  | 0, level, t, h, h' => by omega
  | k + 1, level, t, h, h' => by
    rw [typing_Valid_l1, r08_check_n, r08_check_b]
    have h16 : decide ((16 : Int) < (level : Int)) = decide (16 < level) := by congr 1; simp; omega
    rw [h16]
    by_cases h0 : 16 < level
    · exact ⟨13, by simp [h0], by simp [h0], by simp⟩
    · simp only [h0, decide_false, Bool.false_eq_true, if_false]
      by_cases hk : 0 ≤ t.kind ∧ t.kind ≤ 7
      · obtain ⟨s, hs, hs2⟩ := name_nil hk
        have hb : (decide (t.kind < 0) || decide (7 < t.kind)) = false := by simp; omega
        rw [hs, hb]
        simp only [bind1_some, hs2, typing_nested, r08_holds, Bool.false_eq_true, if_false]
        cases hn : ((t.kind == 5) || (t.kind == 6)) with
        | false =>
          simp only [Bool.false_and, Bool.not_false, Bool.true_and, Bool.false_eq_true, if_false, bind1_some, if_true]
          cases he : t.elem with
          | nil =>
            refine ⟨0, by simp, by simp, fun _ => ⟨.leaf t.kind, ?_, ?_, ?_⟩⟩
            · simp at hn; exact ⟨hk.1, hk.2, hn.1, hn.2⟩
            · cases t; simp at he; subst he; rfl
            · simp only [Ty.dep]; omega
          | cons x r => exact ⟨1, by first | (simp; done) | (simp; omega), by first | (simp; done) | (simp; omega), by simp⟩
        | true =>
          simp only [Bool.true_and, Bool.not_true, Bool.false_and, bind1_some, Bool.false_eq_true, if_false]
          have hnk : t.kind = 5 ∨ t.kind = 6 := by simpa using hn
          match he : t.elem with
          | [] => exact ⟨1, by simp, by simp, by simp⟩
          | [x] =>
            obtain ⟨c, c1, c2, c3⟩ := tv_gen k (level + 1) x (by omega) (by omega)
            have hw : w64 ((level : Int) + 1) = ((level + 1 : Nat) : Int) := w64s (by omega)
            refine ⟨c, ?_, ?_, fun hc => ?_⟩
            · rw [hw, ← c1]; simp [idx]
            · rw [hw, ← c2]; simp [idx]
            · obtain ⟨T, w1, w2, w3⟩ := c3 hc
              refine ⟨.nest t.kind T, ⟨hnk, w1⟩, ?_, ?_⟩
              · cases t; simp at he; subst he; simp [Ty.api, w2]
              · simp only [Ty.dep]; omega
          | x :: y :: r =>
            have hl : (((x :: y :: r).length : Int) != 1) = true := by simp only [List.length_cons, bne_iff_ne]; omega
            exact ⟨1, by simp only [hl, if_true, bind1_some], by simp only [hl, if_true], by simp⟩
      · have hb : (decide (t.kind < 0) || decide (7 < t.kind)) = true := by simp; omega
        rw [name_out hk, hb]
        exact ⟨1, by simp, by simp, by simp⟩
theorem tv_ok : ∀ (T : Ty) (k level : Nat), T.wf → T.dep + level ≤ 17 → 18 ≤ k + level → typing_Valid_l1 k (level : Int) T.api = some 0
  | .leaf a, 0, level, _, h, h' => by simp only [Ty.dep] at h; omega
  | .leaf a, k + 1, level, hw, h, h' => by
    simp only [Ty.dep] at h
    have h16 : decide ((16 : Int) < (level : Int)) = false := decide_eq_false (by omega)
    obtain ⟨s, hs, hs2⟩ := name_nil (k := a) ⟨hw.1, hw.2.1⟩
    have hn : ((a == 5) || (a == 6)) = false := by simp; exact ⟨hw.2.2.1, hw.2.2.2⟩
    simp [typing_Valid_l1, h16, Ty.api, hs, beq_eq_false_iff_ne.1 hs2, typing_nested, hn]
  | .nest a T, 0, level, _, h, h' => by simp only [Ty.dep] at h; have := T.dep_pos; omega
  | .nest a T, k + 1, level, hw, h, h' => by
    simp only [Ty.dep] at h
    have hd := T.dep_pos
    have h16 : decide ((16 : Int) < (level : Int)) = false := decide_eq_false (by omega)
    have hn : ((a == 5) || (a == 6)) = true := by simpa using hw.1
    obtain ⟨s, hs, hs2⟩ := name_nil (k := a) (by rcases hw.1 with h | h <;> omega)
    have hw64 : w64 ((level : Int) + 1) = ((level + 1 : Nat) : Int) := w64s (by omega)
    have := tv_ok T k (level + 1) hw.2 (by omega) (by omega)
    rw [← this, ← hw64]
    simp [typing_Valid_l1, h16, Ty.api, hs, beq_eq_false_iff_ne.1 hs2, typing_nested, hn, idx]
def tval (t : ApiType) : Int := (typing_Valid t).getD 0
theorem tval_eq (t : ApiType) : typing_Valid t = some (tval t) ∧ r08_Valid t = some (tval t) ∧ (tval t = 0 → ∃ T : Ty, T.wf ∧ t = T.api ∧ T.dep ≤ 16) := by
  obtain ⟨c, c1, c2, c3⟩ := tv_gen BIG 1 t (by have := BIG_lt; omega) (by omega)
  have e1 : typing_Valid t = some c := c1
  have e2 : r08_Valid t = some c := c2
  have : tval t = c := by unfold tval; rw [e1]; rfl
  rw [this]
  exact ⟨e1, e2, fun h => by obtain ⟨T, a, b, d⟩ := c3 h; exact ⟨T, a, b, by omega⟩⟩
theorem tval_ok {T : Ty} (h : T.wf) (hd : T.dep ≤ 16) : tval T.api = 0 := by
  have := tv_ok T BIG 1 h (by omega) (by have := BIG_lt; omega)
  have e1 : typing_Valid T.api = some 0 := this
  unfold tval; rw [e1]; rfl
theorem clone_n : ∀ (T : Ty) (n : Nat), T.wf → T.dep ≤ n → typing_clone_n n T.api = some T.api
  | .leaf a, 0, _, h => by simp [Ty.dep] at h
  | .leaf a, n + 1, hw, h => by
    have hn : ((a == 5) || (a == 6)) = false := by simp; exact ⟨hw.2.2.1, hw.2.2.2⟩
    simp [typing_clone_n, typing_clone_b, typing_nested, Ty.api, hn, typing_scalar]
  | .nest a T, 0, _, h => by simp only [Ty.dep] at h; omega
  | .nest a T, n + 1, hw, h => by
    simp only [Ty.dep] at h
    have hn : ((a == 5) || (a == 6)) = true := by simpa using hw.1
    have := clone_n T n hw.2 (by omega)
    simp [typing_clone_n, typing_clone_b, typing_nested, Ty.api, hn, typing_of, idx, this]
theorem clone_eq {T : Ty} (h : T.wf) (hd : T.dep ≤ 1000) : typing_clone T.api = some T.api := clone_n T BIG h (by have := BIG_lt; omega)
def joinT : Ty → Ty → Ty
  | .leaf a, .leaf b => if a = 7 then .leaf b else if b = 7 then .leaf a else if a = b then .leaf a else .leaf 0
  | .leaf a, .nest b y => if a = 7 then .nest b y else .leaf 0
  | .nest a x, .leaf b => if b = 7 then .nest a x else .leaf 0
  | .nest a x, .nest b y => if a = b then .nest a (joinT x y) else .leaf 0
theorem joinT_dep : ∀ (a b : Ty), (joinT a b).dep ≤ max a.dep b.dep
  | .leaf a, .leaf b => by
    rw [joinT]; repeat' split
    all_goals simp only [Ty.dep]; omega
  | .leaf a, .nest b y => by
    rw [joinT]; split
    all_goals simp only [Ty.dep]; omega
  | .nest a x, .leaf b => by
    rw [joinT]; split
    all_goals simp only [Ty.dep]; omega
  | .nest a x, .nest b y => by
    have := joinT_dep x y
    rw [joinT]; split
    all_goals simp only [Ty.dep]; omega
theorem joinT_wf : ∀ (a b : Ty), a.wf → b.wf → (joinT a b).wf
  | .leaf a, .leaf b, ha, hb => by
    rw [joinT]; repeat' split
    · exact hb
    · exact ha
    · exact ha
    · simp [Ty.wf]
  | .leaf a, .nest b y, ha, hb => by
    rw [joinT]; split
    · exact hb
    · simp [Ty.wf]
  | .nest a x, .leaf b, ha, hb => by
    rw [joinT]; split
    · exact ha
    · simp [Ty.wf]
  | .nest a x, .nest b y, ha, hb => by
    have := joinT_wf x y ha.2 hb.2
    rw [joinT]; split
    · exact ⟨ha.1, this⟩
    · simp [Ty.wf]
theorem join_n : ∀ (n : Nat) (a b : Ty), a.wf → b.wf → a.dep ≤ n → a.dep ≤ 1000 → b.dep ≤ 1000 → typing_join_n n a.api b.api = some (joinT a b).api ∧ r08_join_n n a.api b.api = some (joinT a b).api
  | 0, a, b, _, _, h, _, _ => by have := a.dep_pos; omega
  | n + 1, .leaf x, .leaf y, ha, hb, h, h1, h2 => by
    rw [typing_join_n, typing_join_b, r08_join_n, r08_join_b, joinT, clone_eq ha h1, clone_eq hb h2]
    have hn : ((x == 5) || (x == 6)) = false := by simp; exact ⟨ha.2.2.1, ha.2.2.2⟩
    by_cases k1 : x = 7
    · simp [k1, Ty.api]
    · by_cases k2 : y = 7
      · simp [k1, k2, Ty.api]
      · by_cases k3 : x = y
        · subst k3; simp [k1, Ty.api, typing_nested, r08_holds, hn, typing_scalar]
        · simp [k1, k2, k3, Ty.api, typing_scalar, r08_Plain]
  | n + 1, .leaf x, .nest y t, ha, hb, h, h1, h2 => by
    rw [typing_join_n, typing_join_b, r08_join_n, r08_join_b, joinT, clone_eq ha h1, clone_eq hb h2]
    have k2 : ¬ y = 7 := by rcases hb.1 with h | h <;> omega
    have k3 : ¬ x = y := by
      rintro rfl
      rcases hb.1 with h | h
      · exact ha.2.2.1 h
      · exact ha.2.2.2 h
    by_cases k1 : x = 7
    · simp [k1, Ty.api]
    · simp [k1, k2, k3, Ty.api, typing_scalar, r08_Plain]
  | n + 1, .nest x s, .leaf y, ha, hb, h, h1, h2 => by
    rw [typing_join_n, typing_join_b, r08_join_n, r08_join_b, joinT, clone_eq ha h1, clone_eq hb h2]
    have k1 : ¬ x = 7 := by rcases ha.1 with h | h <;> omega
    have k3 : ¬ x = y := by
      rintro rfl
      rcases ha.1 with h | h
      · exact hb.2.2.1 h
      · exact hb.2.2.2 h
    by_cases k2 : y = 7
    · simp [k1, k2, Ty.api]
    · simp [k1, k2, k3, Ty.api, typing_scalar, r08_Plain]
  | n + 1, .nest x s, .nest y t, ha, hb, h, h1, h2 => by
    rw [typing_join_n, typing_join_b, r08_join_n, r08_join_b, joinT, clone_eq ha h1, clone_eq hb h2]
    have k1 : ¬ x = 7 := by rcases ha.1 with h | h <;> omega
    have k2 : ¬ y = 7 := by rcases hb.1 with h | h <;> omega
    have hn : ((x == 5) || (x == 6)) = true := by simp; exact ha.1
    simp only [Ty.dep] at h h1 h2
    obtain ⟨i1, i2⟩ := join_n n s t ha.2 hb.2 (by omega) (by omega) (by omega)
    by_cases k3 : x = y
    · subst k3; simp [k1, Ty.api, typing_nested, r08_holds, hn, typing_of, r08_With, idx, i1, i2]
    · simp [k1, k2, k3, Ty.api, typing_scalar, r08_Plain]
theorem join_eq {a b : Ty} (ha : a.wf) (hb : b.wf) (h1 : a.dep ≤ 1000) (h2 : b.dep ≤ 1000) : typing_join a.api b.api = some (joinT a b).api ∧ r08_join a.api b.api = some (joinT a b).api :=
  join_n BIG a b ha hb (by have := BIG_lt; omega) h1 h2
theorem Join_eq {a b : Ty} (ha : a.wf) (hb : b.wf) (h1 : a.dep ≤ 16) (h2 : b.dep ≤ 16) : typing_Join a.api b.api = some (joinT a b).api ∧ r08_Join a.api b.api = some (joinT a b).api := by
  unfold typing_Join r08_Join typing_both r08_good
  rw [(tval_eq _).1, (tval_eq _).1, (tval_eq _).2.1, (tval_eq _).2.1, tval_ok ha h1, tval_ok hb h2]
  obtain ⟨j1, j2⟩ := join_eq ha hb (by omega) (by omega)
  simp [j1, j2]
end Go.Ft

namespace Go.Ft
open Go
attribute [local congr] ite_c1
def ZT : ApiType := ApiType.mk 0 []
def sc (k : Int) : Ty := .leaf k
theorem of_eq (k : Int) : check_of k = some (sc k).api ∧ r11_plain k = some (sc k).api ∧ r08_Plain k = some (sc k).api := ⟨rfl, rfl, rfl⟩
theorem nested_eq (k : Int) (t : Ty) : check_nested k t.api = some (Ty.nest k t).api ∧ r08_With k t.api = some (Ty.nest k t).api := ⟨rfl, rfl⟩
def finR (x : Option (ApiType × Bool)) : Option (ApiType × Int) :=
  bind2 x fun x6 ok1 => if !ok1 then some (ZT, 9) else bind1 (r08_Valid x6) fun x7 => if x7 != 0 then some (ZT, 13) else some (x6, 0)
def RES (x y : Option (ApiType × Int)) : Prop := ∃ (T : Ty) (c : Int), T.wf ∧ T.dep ≤ 16 ∧ (c ≠ 0 → T = sc 0) ∧ x = some (T.api, c) ∧ y = some (T.api, c)
theorem RES.mk {x : Option (ApiType × Int)} {y : Option (ApiType × Bool)} (T : Ty) (b : Bool) (hx : x = some (if b then (T.api, 0) else (ZT, 9))) (hy : y = some (T.api, b)) (hw : b = true → T.wf ∧ T.dep ≤ 16) : RES x (finR y) := by
  subst hx hy
  unfold finR
  cases b with
  | false => exact ⟨sc 0, 9, by simp [sc, Ty.wf], by simp [sc, Ty.dep], fun _ => rfl, rfl, rfl⟩
  | true =>
    obtain ⟨h1, h2⟩ := hw rfl
    refine ⟨T, 0, h1, h2, fun h => absurd rfl h, rfl, ?_⟩
    simp only [bind2_some, Bool.not_true, Bool.false_eq_true, if_false, (tval_eq _).2.1, tval_ok h1 h2]
    rfl
end Go.Ft

namespace Go.Ft
open Go
attribute [local congr] ite_c1
def foldJ : Ty → List Ty → Ty
  | t, [] => t
  | t, x :: r => foldJ (joinT t x) r
theorem foldJ_wf : ∀ (l : List Ty) (t : Ty), t.wf → t.dep ≤ 16 → (∀ x ∈ l, x.wf ∧ x.dep ≤ 16) → (foldJ t l).wf ∧ (foldJ t l).dep ≤ 16
  | [], t, h, hd, _ => ⟨h, hd⟩
  | x :: r, t, h, hd, hl => by
    have hx := hl x (by simp)
    have jd := joinT_dep t x
    exact foldJ_wf r (joinT t x) (joinT_wf t x h hx.1) (by omega) fun y hy => hl y (by simp [hy])
theorem gath_scan {K : ApiType → Option (ApiType × Int)} : ∀ (l : List Ty) (t : Ty) (i : Nat), t.wf → t.dep ≤ 16 → (∀ x ∈ l, x.wf ∧ x.dep ≤ 16) →
    scanS (fun _ e1 (elem1 : ApiType) r => bind1 (typing_Join elem1 e1) fun x3 => r x3) K i (l.map Ty.api) t.api = K (foldJ t l).api
  | [], t, i, _, _, _ => rfl
  | x :: r, t, i, h, hd, hl => by
    have hx := hl x (by simp)
    have jd := joinT_dep t x
    rw [List.map_cons, scanS, (Join_eq h hx.1 hd hx.2).1]
    simp only [bind1_some]
    exact gath_scan r (joinT t x) (i + 1) (joinT_wf t x h hx.1) (by omega) fun y hy => hl y (by simp [hy])
theorem gathered_res {l : List Ty} (hl : ∀ x ∈ l, x.wf ∧ x.dep ≤ 16) (hn : l.length < 4611686018427387904) {k : Int} (hk : k = 5 ∨ k = 6) {y : Option (ApiType × Bool)} (hy : y = some ((Ty.nest k (foldJ (sc 7) l)).api, true)) :
    RES (check_gathered k (l.map Ty.api)) (finR y) := by
  have w7 : (sc 7).wf ∧ (sc 7).dep ≤ 16 := ⟨by simp [sc, Ty.wf], by simp [sc, Ty.dep]⟩
  obtain ⟨f1, f2⟩ := foldJ_wf l (sc 7) w7.1 w7.2 hl
  unfold check_gathered
  rw [(of_eq 7).1]
  simp only [bind1_some]
  have := scanS_big (F := fun n s i => check_gathered_l1 k (l.map Ty.api) n i s) (l := l.map Ty.api) (body := fun _ e1 (elem1 : ApiType) r => bind1 (typing_Join elem1 e1) fun x3 => r x3)
    (fin := fun elem1 => bind1 (check_nested k elem1) fun x4 => bind1 (typing_Valid x4) fun x5 => if x5 != 0 then some (ZT, 13) else some (x4, 0)) (by simpa using hn) (fun n s i => rfl) (sc 7).api
  rw [this, gath_scan l (sc 7) 0 w7.1 w7.2 hl, hy]
  unfold finR
  rw [(nested_eq k _).1]
  simp only [bind1_some, bind2_some, Bool.not_true, Bool.false_eq_true, if_false]
  obtain ⟨t1, t2, t3⟩ := tval_eq (Ty.nest k (foldJ (sc 7) l)).api
  rw [t1, t2]
  simp only [bind1_some]
  by_cases hc : tval (Ty.nest k (foldJ (sc 7) l)).api = 0
  · obtain ⟨T, q1, q2, q3⟩ := t3 hc
    exact ⟨T, 0, q1, q3, fun h => absurd rfl h, by rw [hc, ← q2]; rfl, by rw [hc, ← q2]; rfl⟩
  · exact ⟨sc 0, 13, by simp [sc, Ty.wf], by simp [sc, Ty.dep], fun _ => rfl, by rw [if_pos (by simpa using hc)]; rfl, by rw [if_pos (by simpa using hc)]; rfl⟩
end Go.Ft

namespace Go.Ft
open Go
attribute [local congr] ite_c1
theorem BIG4 : ∃ n, BIG = n + 4 := ⟨BIG - 4, by decide⟩
theorem any_ok {k : Int} (h : 0 ≤ k ∧ k ≤ 7 ∧ k ≠ 5 ∧ k ≠ 6) : (sc k).wf ∧ (sc k).dep ≤ 16 := ⟨h, by simp [sc, Ty.dep]⟩
end Go.Ft

namespace Go.Ft
open Go
attribute [local congr] ite_c1
mutual
def ofT : ApiValue → Ty
  | ⟨k, _, _, _, l, _⟩ => if k = 0 then sc 1 else if k = 1 then sc 2 else if k = 2 then sc 3 else if k = 3 then sc 4 else .nest (if k = 4 then 5 else 6) (ofTL l (sc 7))
def ofTL : List ApiValue → Ty → Ty
  | [], t => t
  | x :: r, t => ofTL r (joinT t (ofT x))
end
theorem ofT_eq (v : ApiValue) : ofT v = if v.kind = 0 then sc 1 else if v.kind = 1 then sc 2 else if v.kind = 2 then sc 3 else if v.kind = 3 then sc 4 else .nest (if v.kind = 4 then 5 else 6) (ofTL v.list_ (sc 7)) := by cases v; rw [ofT]
theorem vnode_zero {v : ApiValue} {level : Nat} (h : vnode v level = 0) : level ≤ 16 ∧ 0 ≤ v.kind ∧ v.kind ≤ 5 ∧ (v.kind = 4 ∨ v.kind = 5 → v.list_ = [] → level ≠ 16) := by
  unfold vnode at h
  by_cases h0 : 16 < level
  · simp [h0] at h
  · rw [if_neg h0] at h
    cases h1 : (decide (v.kind < 0) || decide (5 < v.kind) || !vplain v) with
    | true => rw [h1] at h; simp at h
    | false =>
      rw [h1] at h
      simp only [Bool.or_eq_false_iff, decide_eq_false_iff_not] at h1
      refine ⟨by omega, by omega, by omega, fun hk hl h16 => ?_⟩
      have e1 : ((((v.kind == 4) || (v.kind == 5)) && ((v.list_.length : Int) == 0)) && (level == 16)) = true := by
        rw [hl, h16]; rcases hk with hk | hk <;> simp [hk]
      rw [e1] at h
      simp only [Bool.false_eq_true, if_false, if_true] at h
      split at h
      · omega
      · split at h
        · omega
        · split at h <;> omega
theorem vchkL_mem : ∀ {l : List ApiValue} {level : Nat}, vchkL l level = 0 → ∀ x ∈ l, vchk x level = 0
  | [], _, _, x, hx => by cases hx
  | y :: r, level, h, x, hx => by
    rw [vchkL] at h
    by_cases hy : vchk y level = 0
    · rw [if_neg (by simpa using hy)] at h
      rcases List.mem_cons.1 hx with rfl | hx
      · exact hy
      · exact vchkL_mem h x hx
    · rw [if_pos (by simpa using hy)] at h; exact absurd h hy
theorem vchk_zero {v : ApiValue} {level : Nat} (h : vchk v level = 0) : vnode v level = 0 ∧ ∀ x ∈ v.list_, vchk x (level + 1) = 0 := by
  rw [vchk_eq] at h
  by_cases hn : vnode v level = 0
  · rw [if_neg (by simpa using hn)] at h
    exact ⟨hn, vchkL_mem h⟩
  · rw [if_pos (by simpa using hn)] at h; exact absurd h hn
theorem ofL {go : ApiValue → Option ApiType} {join : ApiType → ApiType → Option ApiType} {K : ApiType → Option ApiType} {lv : Nat} (hlv : lv ≤ 16) (hj : ∀ a b : Ty, a.wf → b.wf → a.dep ≤ 1000 → b.dep ≤ 1000 → join a.api b.api = some (joinT a b).api) :
    ∀ (l : List ApiValue) (t : Ty) (i : Nat), t.wf → t.dep + lv ≤ 17 → (∀ x ∈ l, go x = some (ofT x).api ∧ (ofT x).wf ∧ (ofT x).dep + lv ≤ 17) →
    scanS (fun _ e1 (elem1 : ApiType) r => bind1 (go e1) fun x7 => bind1 (join elem1 x7) fun x8 => r x8) K i l t.api = K (ofTL l t).api ∧ (ofTL l t).wf ∧ (ofTL l t).dep + lv ≤ 17
  | [], t, i, h, hd, _ => ⟨rfl, h, hd⟩
  | x :: r, t, i, h, hd, hl => by
    obtain ⟨x1, x2, x3⟩ := hl x (by simp)
    have jd := joinT_dep t (ofT x)
    rw [scanS, x1, ofTL]
    simp only [bind1_some, hj t (ofT x) h x2 (by omega) (by omega)]
    exact ofL hlv hj r (joinT t (ofT x)) (i + 1) (joinT_wf _ _ h x2) (by omega) fun y hy => hl y (by simp [hy])
theorem of_n : ∀ (n : Nat) (v : ApiValue) (level : Nat), v.bulk ≤ n → v.bulk < 4611686018427387904 → vchk v level = 0 →
    typing_find_n (n + 1) v = some (ofT v).api ∧ r08_of_n (n + 1) v = some (ofT v).api ∧ (ofT v).wf ∧ (ofT v).dep + level ≤ 17
  | 0, v, _, h, _, _ => by have := v.bulk_pos; omega
  | n + 1, v, level, h, hB, hc => by
    obtain ⟨h0, hm⟩ := vchk_zero hc
    obtain ⟨z1, z2, z3, z4⟩ := vnode_zero h0
    have hl := vlist_len v
    rw [typing_find_n, typing_find_b, r08_of_n, r08_of_b, ofT_eq]
    by_cases k0 : v.kind = 0
    · simp only [k0]; exact ⟨rfl, rfl, (any_ok (by omega)).1, by simp [sc, Ty.dep]; omega⟩
    by_cases k1 : v.kind = 1
    · simp only [k1]; exact ⟨rfl, rfl, (any_ok (by omega)).1, by simp [sc, Ty.dep]; omega⟩
    by_cases k2 : v.kind = 2
    · simp only [k2]; exact ⟨rfl, rfl, (any_ok (by omega)).1, by simp [sc, Ty.dep]; omega⟩
    by_cases k3 : v.kind = 3
    · simp only [k3]; exact ⟨rfl, rfl, (any_ok (by omega)).1, by simp [sc, Ty.dep]; omega⟩
    have k45 : v.kind = 4 ∨ v.kind = 5 := by omega
    have hlv : level ≤ 15 := by
      by_cases hnil : v.list_ = []
      · have := z4 k45 hnil; omega
      · obtain ⟨x, hx⟩ := List.exists_mem_of_ne_nil _ hnil
        have := (vnode_zero (vchk_zero (hm x hx)).1).1
        omega
    have e0 : (v.kind == 0) = false := by simpa using k0
    have e1 : (v.kind == 1) = false := by simpa using k1
    have e2 : (v.kind == 2) = false := by simpa using k2
    have e3 : (v.kind == 3) = false := by simpa using k3
    simp only [e0, e1, e2, e3, Bool.false_eq_true, if_false, k0, k1, k2, k3, bind1_some]
    have w7 : (sc 7).wf ∧ (sc 7).dep + (level + 1) ≤ 17 := ⟨(any_ok (by omega)).1, by simp [sc, Ty.dep]; omega⟩
    have ih := fun x (hx : x ∈ v.list_) => of_n n x (level + 1) (by have := vlist_mem hx; omega) (by have := vlist_mem hx; omega) (hm x hx)
    have s1 := scanS_big (F := fun k s i => typing_find_l1 (typing_find_n (n + 1)) v k i s) (l := v.list_) (body := fun _ e1 (elem1 : ApiType) r => bind1 (typing_find_n (n + 1) e1) fun x7 => bind1 (typing_join elem1 x7) fun x8 => r x8)
      (fin := fun elem1 => if v.kind == 4 then typing_of 5 elem1 else typing_of 6 elem1) (by omega) (fun k s i => rfl) (sc 7).api
    have s2 := scanS_big (F := fun k s i => r08_of_l1 (r08_of_n (n + 1)) v k i s) (l := v.list_) (body := fun _ e1 (elem1 : ApiType) r => bind1 (r08_of_n (n + 1) e1) fun x7 => bind1 (r08_join elem1 x7) fun x8 => r x8)
      (fin := fun t1 => if v.kind == 5 then r08_With 6 t1 else r08_With 5 t1) (by omega) (fun k s i => rfl) (sc 7).api
    obtain ⟨a1, a2, a3⟩ := ofL (lv := level + 1) (K := fun elem1 => if v.kind == 4 then typing_of 5 elem1 else typing_of 6 elem1) (by omega) (fun a b x y z w => (join_eq x y z w).1) v.list_ (sc 7) 0 w7.1 w7.2 (fun x hx => ⟨(ih x hx).1, (ih x hx).2.2⟩)
    obtain ⟨b1, _, _⟩ := ofL (lv := level + 1) (K := fun t1 => if v.kind == 5 then r08_With 6 t1 else r08_With 5 t1) (by omega) (fun a b x y z w => (join_eq x y z w).2) v.list_ (sc 7) 0 w7.1 w7.2 (fun x hx => ⟨(ih x hx).2.1, (ih x hx).2.2⟩)
    have t7 : typing_scalar 7 = some (sc 7).api := rfl
    have p7 : r08_Plain 7 = some (sc 7).api := rfl
    rw [t7, p7]
    simp only [bind1_some]
    rw [s1, a1, s2, b1]
    refine ⟨?_, ?_, ⟨?_, a2⟩, by simp only [Ty.dep]; omega⟩
    · rcases k45 with k | k <;> simp [k, typing_of, Ty.api]
    · rcases k45 with k | k <;> simp [k, r08_With, Ty.api]
    · split
      · exact .inl rfl
      · exact .inr rfl
theorem Of_eq {v : ApiValue} (h : v.bulk < 4611686018427387904) (hc : vchk v 1 = 0) : typing_Of v = some (ofT v).api ∧ r08_Of v = some (ofT v).api ∧ (ofT v).wf ∧ (ofT v).dep ≤ 16 := by
  obtain ⟨n, hn, hn2⟩ := BIG_succ
  obtain ⟨a1, a2, a3, a4⟩ := of_n n v 1 (by omega) h hc
  unfold typing_Of r08_Of typing_find r08_of
  rw [vvalid_eq h, valid7 h, hc, hn, a1, a2]
  exact ⟨rfl, rfl, a3, by omega⟩
theorem pv_name {s : Str} (h : s.length < 4611686018427387000) : parser_Valid (ApiExpr.mk 2 s (ApiValue.mk 0 false 0 ([] : Str) [] []) [] []) = some (if isPlain s then 0 else 1) := by
  have hb : (ApiExpr.mk 2 s (ApiValue.mk 0 false 0 ([] : Str) [] []) [] []).bulk < 4611686018427387904 := by
    simp only [ApiExpr.bulk, ApiValue.bulk, ApiValue.bulkL, ApiExpr.bulkL, List.map_nil, List.sum_nil, List.length_nil]; omega
  rw [(xval_eq hb).1]
  have e1 : ecnt (ApiExpr.mk 2 s (ApiValue.mk 0 false 0 ([] : Str) [] []) [] []) = 1 := by rw [ecnt_eq]; rfl
  unfold xval
  rw [e1, xchk_eq]
  have e2 : eformed (ApiExpr.mk 2 s (ApiValue.mk 0 false 0 ([] : Str) [] []) [] []) = isPlain s := by
    have : vzero (ApiValue.mk 0 false 0 ([] : Str) [] []) = true := rfl
    simp [eformed, kindOK, this, enamed, earity, ekeyed]
  have e3 : xnode (ApiExpr.mk 2 s (ApiValue.mk 0 false 0 ([] : Str) [] []) [] []) 1 = if isPlain s then 0 else 1 := by
    unfold xnode
    rw [e2]
    cases isPlain s <;> simp [dupF]
  rw [e3]
  cases isPlain s <;> simp [xchkL]
def envF : List Str → List ApiDecl → Int
  | _, [] => 0
  | seen, d :: r => if !isPlain d.name then 1 else if tval d.type_ != 0 then tval d.type_ else if seen.contains d.name then 7 else envF (seen ++ [d.name]) r
def Wenv (env : List ApiDecl) : Prop := ∀ d ∈ env, ∃ T : Ty, T.wf ∧ T.dep ≤ 16 ∧ d.type_ = T.api
theorem envF_W : ∀ (r : List ApiDecl) (seen : List Str), envF seen r = 0 → Wenv r
  | [], _, _, d, hd => by cases hd
  | x :: r, seen, h, d, hd => by
    rw [envF] at h
    cases h1 : isPlain x.name with
    | false => rw [h1] at h; simp at h
    | true =>
      rw [h1] at h
      simp only [Bool.not_true, Bool.false_eq_true, if_false] at h
      by_cases h2 : tval x.type_ = 0
      · rw [if_neg (by simpa using h2)] at h
        obtain ⟨T, t1, t2, t3⟩ := (tval_eq x.type_).2.2 h2
        split at h
        · simp at h
        · rcases List.mem_cons.1 hd with rfl | hd
          · exact ⟨T, t1, t3, t2⟩
          · exact envF_W r _ h d hd
      · rw [if_pos (by simpa using h2)] at h; exact absurd h h2
theorem envC : ∀ (r : List ApiDecl) (i : Nat) (y : List (Str × Int)) (seen : List Str), (∀ d ∈ r, d.name.length < 4611686018427387000) → (∀ s, mget y s = if s ∈ seen then 1 else 0) →
    scanS (fun _ e1 (y1 : List (Str × Int)) r => bind1 (parser_Valid (ApiExpr.mk 2 e1.name (ApiValue.mk 0 false 0 ([] : Str) [] []) [] [])) fun x2 => if x2 != 0 then some 1 else bind1 (typing_Valid e1.type_) fun e2 => if e2 != 0 then some e2 else
      if decide (1 < (mget (mset y1 e1.name (w64 ((mget y1 e1.name) + 1))) e1.name)) then some 7 else r (mset y1 e1.name (w64 ((mget y1 e1.name) + 1)))) (fun _ => some 0) i r y = some (envF seen r)
  | [], _, _, _, _, _ => rfl
  | d :: r, i, y, seen, hd, hy => by
    rw [scanS, envF, pv_name (hd d (by simp)), (tval_eq d.type_).1, mget_mset, if_pos rfl, hy d.name]
    cases h1 : isPlain d.name with
    | false => simp
    | true =>
      simp only [if_true, bind1_some, Bool.not_true, Bool.false_eq_true, if_false, bne_self_eq_false]
      by_cases h2 : tval d.type_ = 0
      · simp only [h2, bne_self_eq_false, Bool.false_eq_true, if_false]
        by_cases hc : d.name ∈ seen
        · have : w64 2 = 2 := by decide
          simp [hc, this]
        · have : w64 ((0 : Int) + 1) = 1 := by decide
          simp only [hc, if_false, this]
          have e : seen.contains d.name = false := by simpa using hc
          rw [e]
          simp only [Int.lt_irrefl, decide_false, Bool.false_eq_true, if_false]
          refine envC r (i + 1) _ (seen ++ [d.name]) (fun z hz => hd z (by simp [hz])) fun s => ?_
          rw [mget_mset, hy s]
          by_cases h1 : s = d.name
          · subst h1; simp
          · simp [h1]
      · simp [h2]
theorem env_in (l : List ApiDecl) (i : Nat) (hi : i < l.length) (hl : l.length < 4611686018427387904) (go : Int → Option Int) : ∀ (k j : Nat), i < k + j → j ≤ i →
    r11_Env_l2 l (i : Int) go k (j : Int) = if (((l.take i).drop j).map (·.name)).contains l[i].name then some 7 else go ((i + 1 : Nat) : Int)
  | 0, j, h, h' => by omega
  | k + 1, j, h, h' => by
    rw [r11_Env_l2]
    by_cases hj : j < i
    · have hlt : j < (l.take i).length := by simp; omega
      rw [if_pos (by simpa using hj), idxn hi, idxn (by omega), List.drop_eq_getElem_cons hlt]
      simp only [bind1_some, List.map_cons, List.contains_cons, List.getElem_take]
      by_cases h1 : l[j].name = l[i].name
      · simp [h1]
      · have e1 : (l[j].name == l[i].name) = false := by simpa using h1
        have e2 : (l[i].name == l[j].name) = false := by simpa using fun hh => h1 hh.symm
        simp only [e1, e2, Bool.false_eq_true, if_false, Bool.false_or]
        rw [w64s (by omega)]
        exact env_in l i hi hl go k (j + 1) (by omega) (by omega)
    · have : j = i := by omega
      subst this
      rw [if_neg (by simp), w64s (by omega)]
      have : (List.take j l).drop j = [] := List.drop_eq_nil_of_le (by simp; omega)
      rw [this]
      simp
theorem envR (l : List ApiDecl) (hl : l.length < 4611686018427387904) (hd : ∀ d ∈ l, d.name.length < 4611686018427387000) : ∀ (k i : Nat), l.length < k + i → i ≤ l.length → r11_Env_l1 l k (i : Int) = some (envF ((l.take i).map (·.name)) (l.drop i))
  | 0, i, h, h' => by omega
  | k + 1, i, h, h' => by
    rw [r11_Env_l1]
    by_cases hi : i < l.length
    · have hn := hd l[i] (List.getElem_mem hi)
      rw [if_pos (by simpa using hi), List.drop_eq_getElem_cons hi, envF, idxn hi]
      have := env_in l i hi hl (r11_Env_l1 l k) BIG 0 (by have := BIG_lt; omega) (by omega)
      rw [show (0 : Int) = ((0 : Nat) : Int) from rfl, this, List.drop_zero, envR l hl hd k (i + 1) (by omega) (by omega)]
      simp only [bind1_some, (plain_eq l[i].name (by omega)).2, (tval_eq _).2.1]
      have e : List.take (i + 1) l = List.take i l ++ [l[i]] := by rw [List.take_add_one, List.getElem?_eq_getElem hi]; rfl
      rw [e, List.map_append]
      cases isPlain l[i].name with
      | false => simp
      | true =>
        simp only [Bool.not_true, Bool.false_eq_true, if_false]
        by_cases h2 : tval l[i].type_ = 0
        · simp only [h2, Int.natCast_zero, bne_self_eq_false, Bool.false_eq_true, if_false]
          split <;> rfl
        · simp [h2]
    · have : i = l.length := by omega
      subst this
      simp [envF]
def envV (env : List ApiDecl) : Int := if 1024 < env.length then 3 else envF [] env
theorem env_eq {env : List ApiDecl} (hl : env.length < 4611686018427387904) (hd : ∀ d ∈ env, d.name.length < 4611686018427387000) : check_Env env = some (envV env) ∧ r11_Env env = some (envV env) ∧ (envV env = 0 → Wenv env) := by
  unfold check_Env r11_Env envV
  have e : decide ((1024 : Int) < (env.length : Int)) = decide (1024 < env.length) := by congr 1; simp; omega
  rw [e]
  by_cases h : 1024 < env.length
  · simp [h]
  · simp only [h, decide_false, Bool.false_eq_true, if_false]
    have s1 := scanS_big (F := fun k s i => check_Env_l1 env k i s) (l := env) (body := fun _ e1 (y1 : List (Str × Int)) r => bind1 (parser_Valid (ApiExpr.mk 2 e1.name (ApiValue.mk 0 false 0 ([] : Str) [] []) [] [])) fun x2 => if x2 != 0 then some 1 else bind1 (typing_Valid e1.type_) fun e2 => if e2 != 0 then some e2 else
      if decide (1 < (mget (mset y1 e1.name (w64 ((mget y1 e1.name) + 1))) e1.name)) then some 7 else r (mset y1 e1.name (w64 ((mget y1 e1.name) + 1)))) (fin := fun _ => some 0) hl (fun k s i => rfl) []
    have s2 := envR env hl hd BIG 0 (by have := BIG_lt; omega) (by omega)
    refine ⟨?_, by simpa using s2, envF_W env []⟩
    rw [s1]
    exact envC env 0 [] [] hd (fun s => by simp [mget])
end Go.Ft

namespace Go.Ft
open Go
attribute [local congr] ite_c1
end Go.Ft

namespace Go.Ft
open Go
attribute [local congr] ite_c1
theorem awake11 : l11_awake = some true := by decide +kernel
theorem same_n : ∀ (T : Ty) (n : Nat), T.dep ≤ n → r08_Same_n n T.api T.api = some true
  | .leaf a, 0, h => by simp [Ty.dep] at h
  | .leaf a, n + 1, h => by
    rw [r08_Same_n, r08_Same_b]
    obtain ⟨m, hm⟩ := BIG4
    simp [Ty.api, hm, r08_Same_l1]
  | .nest a T, 0, h => by simp only [Ty.dep] at h; omega
  | .nest a T, n + 1, h => by
    simp only [Ty.dep] at h
    rw [r08_Same_n, r08_Same_b]
    obtain ⟨m, hm⟩ := BIG4
    have := same_n T n (by omega)
    have w1 : w64 1 = 1 := by decide
    simp [Ty.api, hm, r08_Same_l1, idx, this, w1]
theorem same_refl {T : Ty} (h : T.dep ≤ 1000) : r08_Same T.api T.api = some true := same_n T BIG (by have := BIG_lt; omega)
theorem joinT_never (T : Ty) : joinT T (sc 7) = T := by
  cases T with
  | leaf a =>
    unfold sc
    rw [joinT]
    by_cases h : a = 7
    · simp [h]
    · simp [h]
  | nest a t => unfold sc; rw [joinT]; simp
theorem never_joinT (T : Ty) : joinT (sc 7) T = T := by
  cases T with
  | leaf a => unfold sc; rw [joinT]; simp
  | nest a t => unfold sc; rw [joinT]; simp
theorem joinT_self : ∀ T : Ty, joinT T T = T
  | .leaf a => by rw [joinT]; simp
  | .nest a t => by rw [joinT, joinT_self t]; simp
theorem Join_never {T : Ty} (h : T.wf) (hd : T.dep ≤ 16) : typing_Join T.api (sc 7).api = some T.api := by
  rw [(Join_eq h (any_ok (by omega)).1 hd (any_ok (by omega)).2).1, joinT_never]
end Go.Ft

namespace Go.Ft
open Go
attribute [local congr] ite_c1
def lit (v : ApiValue) : ApiExpr := ApiExpr.mk 1 ([] : Str) v [] []
theorem lit_node (v : ApiValue) {level : Nat} (hl : level ≤ 16) : xnode (lit v) level = vchk v 1 := by
  unfold xnode
  have e2 : eformed (lit v) = true := by simp [eformed, kindOK, lit, enamed, earity, ekeyed]
  rw [e2, if_neg (by omega)]
  by_cases hc : vchk v 1 = 0
  · simp [lit, hc, dupF]
  · simp [lit, hc]
theorem lit_chk (v : ApiValue) {level : Nat} (hl : level ≤ 16) : xchk (lit v) level = vchk v 1 := by
  rw [xchk_eq, lit_node v hl]
  by_cases hc : vchk v 1 = 0
  · simp [hc, lit, xchkL]
  · simp [hc]
theorem lit_bulk (v : ApiValue) : (lit v).bulk = v.bulk + 5 := by simp [lit, ApiExpr.bulk, ApiExpr.bulkL]; omega
theorem lit_find {v : ApiValue} (h : v.bulk < 4611686018427387904) (hc : vchk v 1 = 0) (k : Nat) : check_find_n (k + 2) (lit v) [] = some ((ofT v).api, 0) := by
  obtain ⟨o1, o2, o3, o4⟩ := Of_eq h hc
  rw [check_find_n, check_find_b]
  have h1 : check_all_n (k + 1) (lit v).args [] = some ([], 0) := rfl
  rw [h1]
  simp [lit, o1]
theorem all2 {v : ApiValue} (h : v.bulk < 4611686018427387904) (hc : vchk v 1 = 0) (n : Nat) (hn : BIG = n + 4) : check_all_n (n + 3) [lit v, lit v] [] = some ([(ofT v).api, (ofT v).api], 0) := by
  have l1 := lit_find (v := v) h hc n
  rw [check_all_n, check_all_b, hn]
  have i0 : idx [lit v, lit v] 0 = some (lit v) := rfl
  have i1 : idx [lit v, lit v] 1 = some (lit v) := rfl
  have a1 : app ([] : List ApiType) [(ofT v).api] = some [(ofT v).api] := by rw [app_ok (by simp [LIM])]; rfl
  have a2 : app [(ofT v).api] [(ofT v).api] = some [(ofT v).api, (ofT v).api] := by rw [app_ok (by simp [LIM])]; rfl
  have w1 : w64 1 = 1 := by decide
  have w2 : w64 2 = 2 := by decide
  simp [check_all_l1, i0, i1, l1, a1, a2, w1, w2]
theorem list_find {e : ApiExpr} {env : List ApiDecl} {ts : List ApiType} {n : Nat} (hn : BIG = n + 4) (hk : e.kind = 9) (ha : check_all_n (n + 3) e.args env = some (ts, 0)) : check_find e env = check_gathered 5 ts := by
  have h1 : check_find e env = check_find_n (n + 4) e env := by rw [← hn]; rfl
  rw [h1, check_find_n, check_find_b, hk, ha]
  simp only [bind2_some]
  rw [if_neg (by decide), if_neg (by decide), if_neg (by decide), if_neg (by decide), if_neg (by decide), if_neg (by decide), if_neg (by decide), if_neg (by decide), if_neg (by decide), if_pos (by decide)]
theorem pair_find {v : ApiValue} (h : v.bulk < 4611686018427387904) (hc : vchk v 1 = 0) : check_find (ApiExpr.mk 9 ([] : Str) (ApiValue.mk 0 false 0 ([] : Str) [] []) [lit v, lit v] []) [] = check_gathered 5 ([ofT v, ofT v].map Ty.api) := by
  obtain ⟨n, hn⟩ := BIG4
  exact list_find hn rfl (all2 h hc n hn)
theorem law_CheckLiterals (v1 : ApiValue) (h : ApiValue.bulk v1 ≤ 1048576) : l11_CheckLiterals v1 = some true := by
  unfold l11_CheckLiterals
  rw [awake11]
  change (bind1 (parser_Valid (lit v1)) fun x1 => if x1 != 0 then some true else
    bind2 (check_Expr (lit v1) []) fun x3 f1 =>
    bind2 (check_Expr (ApiExpr.mk 9 ([] : Str) (ApiValue.mk 0 false 0 ([] : Str) [] []) [lit v1, lit v1] []) []) fun x4 g1 => _) = _
  have hb := lit_bulk v1
  have hxl : xval (lit v1) = vchk v1 1 := by
    unfold xval
    have : ecnt (lit v1) = 1 := by rw [ecnt_eq]; rfl
    rw [this, if_neg (by omega), lit_chk v1 (by omega)]
  rw [(xval_eq (e := lit v1) (by omega)).1, hxl]
  simp only [bind1_some]
  by_cases hc : vchk v1 1 = 0
  · rw [if_neg (by simpa using hc)]
    obtain ⟨o1, o2, o3, o4⟩ := Of_eq (v := v1) (by omega) hc
    have henv : check_Env [] = some 0 := (env_eq (env := []) (by simp) (by simp)).1
    have c7 : check_of 7 = some (sc 7).api := rfl
    obtain ⟨n, hn⟩ := BIG4
    have f1 : check_find (lit v1) [] = some ((ofT v1).api, 0) := by
      unfold check_find; rw [hn]; exact lit_find (by omega) hc (n + 2)
    have E1 : check_Expr (lit v1) [] = some ((ofT v1).api, 0) := by
      unfold check_Expr
      rw [henv, (xval_eq (e := lit v1) (by omega)).1, hxl, hc, f1, c7]
      simp [Join_never o3 o4]
    have hval : xval (ApiExpr.mk 9 ([] : Str) (ApiValue.mk 0 false 0 ([] : Str) [] []) [lit v1, lit v1] []) = 0 := by
      unfold xval
      have e1 : ecnt (ApiExpr.mk 9 ([] : Str) (ApiValue.mk 0 false 0 ([] : Str) [] []) [lit v1, lit v1] []) = 3 := by
        rw [ecnt_eq]; simp [ecntL, ecnt_eq, lit]
      have e2 : eformed (ApiExpr.mk 9 ([] : Str) (ApiValue.mk 0 false 0 ([] : Str) [] []) [lit v1, lit v1] []) = true := by
        have : vzero (ApiValue.mk 0 false 0 ([] : Str) [] []) = true := rfl
        simp [eformed, kindOK, this, enamed, earity, ekeyed]
      have e3 : xnode (ApiExpr.mk 9 ([] : Str) (ApiValue.mk 0 false 0 ([] : Str) [] []) [lit v1, lit v1] []) 1 = 0 := by
        unfold xnode
        rw [e2]
        simp [dupF]
      rw [e1, if_neg (by omega), xchk_eq, e3]
      simp [xchkL, lit_chk v1 (level := 2) (by omega), hc]
    have f2 : RES (check_gathered 5 ([ofT v1, ofT v1].map Ty.api)) (finR (some ((Ty.nest 5 (ofT v1)).api, true))) := by
      refine gathered_res (l := [ofT v1, ofT v1]) (by simp; exact ⟨o3, o4⟩) (by simp) (.inl rfl) ?_
      simp [foldJ, never_joinT, joinT_self]
    obtain ⟨t1, t2, t3⟩ := tval_eq (Ty.nest 5 (ofT v1)).api
    have f3 := pair_find (v := v1) (by omega) hc
    obtain ⟨T, c, w, d, z, r1, r2⟩ := f2
    have E2 : check_Expr (ApiExpr.mk 9 ([] : Str) (ApiValue.mk 0 false 0 ([] : Str) [] []) [lit v1, lit v1] []) [] = some (T.api, c) := by
      unfold check_Expr
      rw [henv, (xval_eq (e := ApiExpr.mk 9 ([] : Str) (ApiValue.mk 0 false 0 ([] : Str) [] []) [lit v1, lit v1] []) (by
        simp only [ApiExpr.bulk, ApiExpr.bulkL, hb, ApiValue.bulk, ApiValue.bulkL, List.map_nil, List.sum_nil, List.length_nil]; omega)).1, hval, f3, r1, c7]
      simp only [bind1_some, bind2_some, bne_self_eq_false, Bool.false_eq_true, if_false]
      by_cases h0 : c = 0
      · subst h0; simp [Join_never w d]
      · rw [if_pos (by simpa using h0), z h0]; rfl
    rw [E1, E2]
    have hr : finR (some ((Ty.nest 5 (ofT v1)).api, true)) = if tval (Ty.nest 5 (ofT v1)).api != 0 then some (ZT, 13) else some ((Ty.nest 5 (ofT v1)).api, 0) := by
      unfold finR
      simp only [bind2_some, Bool.not_true, Bool.false_eq_true, if_false, t2, bind1_some]
    rw [hr] at r2
    have t1' : typing_Valid (ApiType.mk 5 [(ofT v1).api]) = some (tval (Ty.nest 5 (ofT v1)).api) := t1
    simp only [bind2_some, bne_self_eq_false, Bool.false_eq_true, if_false, o1, bind1_some, same_refl (T := ofT v1) (by omega), Bool.not_true, t1']
    by_cases ht : tval (Ty.nest 5 (ofT v1)).api = 0
    · rw [if_neg (by simpa using ht)] at r2
      simp only [Option.some.injEq, Prod.mk.injEq] at r2
      have hs : r08_Same T.api (ApiType.mk 5 [(ofT v1).api]) = some true := by
        rw [show ApiType.mk 5 [(ofT v1).api] = (Ty.nest 5 (ofT v1)).api from rfl, r2.1]
        exact same_refl (by omega)
      simp [ht, ← r2.2, hs]
    · rw [if_pos (by simpa using ht)] at r2
      simp only [Option.some.injEq, Prod.mk.injEq] at r2
      simp [ht, ← r2.2]
  · rw [if_pos (by simpa using hc)]
end Go.Ft
