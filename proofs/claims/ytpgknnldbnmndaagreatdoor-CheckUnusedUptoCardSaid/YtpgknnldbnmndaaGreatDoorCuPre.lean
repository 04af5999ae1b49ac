/- Proved here: plain facts on the functional texts that the walks want. -/
import Derived.Test.YtpgknnldbnmndaaGreatDoorCuFt
set_option linter.unusedVariables false
set_option linter.unusedSimpArgs false
set_option maxHeartbeats 2000000
namespace Go.Ft
open Go
attribute [local congr] ite_c1
theorem w64z {n : Int} (h : -9223372036854775808 ≤ n ∧ n < 9223372036854775808) : w64 n = n := wrap_id (by omega) (by omega)
theorem w64s {i : Nat} (h : i < 4611686018427387904) : w64 ((i : Int) + 1) = ((i + 1 : Nat) : Int) := by rw [w64z (by omega)]; omega
theorem idxn {α : Type} {l : List α} {i : Nat} (h : i < l.length) : idx l (i : Int) = some (l[i]) := by rw [idx_nat, List.getElem?_eq_getElem h]
theorem BIG_lt : 9223372036854775808 < BIG := by decide
def scanS {α S R : Type} (body : Nat → α → S → (S → Option R) → Option R) (fin : S → Option R) : Nat → List α → S → Option R
  | _, [], s => fin s
  | i, x :: r, s => body i x s fun s' => scanS body fin (i + 1) r s'
theorem scanS_eq {α S R : Type} {F : Nat → S → Int → Option R} {l : List α} {body : Nat → α → S → (S → Option R) → Option R} {fin : S → Option R} (hl : l.length < 4611686018427387904)
    (hF : ∀ k s (i : Nat), F (k + 1) s i = if decide ((i : Int) < (l.length : Int)) then bind1 (idx l i) fun x => body i x s fun s' => F k s' (w64 ((i : Int) + 1)) else fin s) :
    ∀ (k i : Nat) (s : S), l.length < k + i → i ≤ l.length → F k s (i : Int) = scanS body fin i (l.drop i) s
  | 0, i, s, h, h' => by omega
  | k + 1, i, s, h, h' => by
    rw [hF]
    by_cases hi : i < l.length
    · rw [List.drop_eq_getElem_cons hi, if_pos (by simp; omega), idxn hi, bind1_some, scanS]
      congr 1
      funext s'
      rw [w64s (by omega)]
      exact scanS_eq hl hF k (i + 1) s' (by omega) (by omega)
    · have : i = l.length := by omega
      subst this
      rw [if_neg (by simp), List.drop_length, scanS]
theorem scanS_big {α S R : Type} {F : Nat → S → Int → Option R} {l : List α} {body : Nat → α → S → (S → Option R) → Option R} {fin : S → Option R} (hl : l.length < 4611686018427387904)
    (hF : ∀ k s (i : Nat), F (k + 1) s i = if decide ((i : Int) < (l.length : Int)) then bind1 (idx l i) fun x => body i x s fun s' => F k s' (w64 ((i : Int) + 1)) else fin s) (s : S) : F BIG s 0 = scanS body fin 0 l s := by
  have := scanS_eq hl hF BIG 0 s (by have := BIG_lt; omega) (by omega)
  simpa using this
def isLet (c : UInt8) : Bool := (((decide (97 ≤ (c.toNat : Int))) && (decide ((c.toNat : Int) ≤ 122))) || ((decide (65 ≤ (c.toNat : Int))) && (decide ((c.toNat : Int) ≤ 90)))) || ((c.toNat : Int) == 95)
@[simp] theorem p_letter (c : UInt8) : parser_letter c = some (isLet c) := rfl
@[simp] theorem p_digit (c : UInt8) : parser_digit c = some (isDig c) := rfl
@[simp] theorem r_letter (c : UInt8) : r09_letter c = some (isLet c) := rfl
@[simp] theorem r_digit (c : UInt8) : r09_digit c = some (isDig c) := rfl
@[simp] theorem i_digit (c : UInt8) : ident_digit c = some (isDig c) := rfl
@[simp] theorem r4_digit (c : UInt8) : r04_digit c = some (isDig c) := rfl
theorem spanD_cons (p : UInt8 → Bool) (c : UInt8) (l : Str) : spanD p (c :: l) = if p c then spanD p l + 1 else 0 := by
  unfold spanD; rw [List.takeWhile_cons]; split <;> simp
theorem spanD_le (p : UInt8 → Bool) (l : Str) : spanD p l ≤ l.length := by
  induction l with
  | nil => simp [spanD]
  | cons c l ih => rw [spanD_cons]; split <;> simp <;> omega
theorem run_gen {F : Nat → Int → Option Int} {s : Str} (hs : s.length < 4611686018427387904)
    (hF : ∀ k (i : Nat), F (k + 1) i = bind1 (if decide ((i : Int) < (s.length : Int)) then bind1 (idx s i) fun x1 => some (isDig x1) else some false) fun b1 => if b1 then F k (w64 ((i : Int) + 1)) else some (i : Int)) :
    ∀ (k i : Nat), s.length < k + i → i ≤ s.length → F k (i : Int) = some ((i + spanD isDig (s.drop i) : Nat) : Int)
  | 0, i, h, h' => by omega
  | k + 1, i, h, h' => by
    rw [hF]
    by_cases hi : i < s.length
    · rw [List.drop_eq_getElem_cons hi, spanD_cons, if_pos (by simp; omega), idxn hi]
      simp only [bind1_some]
      cases e : isDig s[i] with
      | false => simp
      | true =>
        simp only [if_true]
        rw [w64s (by omega), run_gen hs hF k (i + 1) (by omega) (by omega)]
        simp only [Option.some.injEq, Int.natCast_inj]; omega
    · have : i = s.length := by omega
      subst this
      simp [spanD]
theorem ident_run_eq {s : Str} (hs : s.length < 4611686018427387904) : ident_run s = some (spanD isDig s : Int) := by
  have := run_gen (F := ident_run_l1 s) hs (fun k i => rfl) BIG 0 (by have := BIG_lt; omega) (by omega)
  simpa [ident_run] using this
theorem r04_run_eq {s : Str} (hs : s.length < 4611686018427387904) {i : Nat} (hi : i ≤ s.length) : r04_run s (i : Int) = some ((i + spanD isDig (s.drop i) : Nat) : Int) :=
  run_gen (F := r04_run_l1 s) hs (fun k i => rfl) BIG i (by have := BIG_lt; omega) hi
theorem sl_from {s : Str} {i : Nat} (h : i ≤ s.length) : sl s (i : Int) (s.length : Int) = some (s.drop i) := by
  rw [sl_ok (by omega) (by omega) (by omega)]
  simp
theorem sl_to {s : Str} {i : Nat} (h : i ≤ s.length) : sl s 0 (i : Int) = some (s.take i) := by
  rw [sl_ok (by omega) (by omega) (by omega)]
  simp
theorem trimB (s : Str) : ∀ (k : Nat), s.length < k → s.length < 4611686018427387904 → strings_trimLeftByte_l1 48 k s = some (dz s) := by
  induction s with
  | nil => intro k h _; cases k with
    | zero => simp at h
    | succ k => simp [strings_trimLeftByte_l1, dz]
  | cons c s ih =>
    intro k h hs
    cases k with
    | zero => simp at h
    | succ k =>
      simp only [List.length_cons] at h hs
      rw [strings_trimLeftByte_l1, if_pos (by simp)]
      have e0 : idx (c :: s) 0 = some c := by simp [idx]
      rw [e0]
      simp only [bind1_some]
      have e1 : ((48 : UInt8).toNat : Int) = 48 := rfl
      rw [e1]
      unfold dz
      rw [List.dropWhile_cons]
      cases e : ((c.toNat : Int) == 48) with
      | false => simp
      | true =>
        simp only [if_true]
        have e2 := sl_from (s := c :: s) (i := 1) (by simp)
        simp only [List.drop_one, List.tail_cons] at e2
        rw [show ((1 : Nat) : Int) = 1 from rfl] at e2
        rw [e2]
        simp only [bind1_some]
        exact ih k (by omega) (by omega)
theorem trim_eq {s : Str} (hs : s.length < 4611686018427387904) : strings_TrimLeft s ([48] : Str) = some (dz s) := by
  unfold strings_TrimLeft
  cases s with
  | nil => simp [dz]
  | cons c s =>
    rw [if_neg (by simp), if_pos (by simp)]
    have e0 : idx ([48] : Str) 0 = some 48 := rfl
    rw [e0]
    simp only [bind1_some]
    rw [if_pos (by decide)]
    exact trimB _ BIG (by have := BIG_lt; omega) hs
theorem strip_gen {s : Str} (hs : s.length < 4611686018427387904) : ∀ (k i : Nat), s.length < k + i → i ≤ s.length → r04_strip_l1 s k (i : Int) = some (dz (s.drop i))
  | 0, i, h, h' => by omega
  | k + 1, i, h, h' => by
    rw [r04_strip_l1]
    by_cases hi : i < s.length
    · rw [List.drop_eq_getElem_cons hi, if_pos (by simp; omega), idxn hi]
      simp only [bind1_some]
      unfold dz
      rw [List.dropWhile_cons]
      cases e : ((s[i].toNat : Int) == 48) with
      | false =>
        simp only [Bool.false_eq_true, if_false]
        rw [sl_from (by omega), List.drop_eq_getElem_cons hi]
      | true =>
        simp only [if_true]
        rw [w64s (by omega)]
        exact strip_gen hs k (i + 1) (by omega) (by omega)
    · have : i = s.length := by omega
      subst this
      rw [if_neg (by simp)]
      simp only [bind1_some, Bool.false_eq_true, if_false]
      rw [sl_from (by omega)]
      simp [dz]
theorem strip_eq {s : Str} (hs : s.length < 4611686018427387904) : r04_strip s = some (dz s) := by
  have := strip_gen hs BIG 0 (by have := BIG_lt; omega) (by omega)
  simpa [r04_strip] using this
def ordB (p q : Bool) : Int := if p then -1 else if q then 1 else 0
def cmpI (x y : Int) : Int := ordB (decide (x < y)) (decide (y < x))
def cmpS (x y : Str) : Int := ordB (Go.Op.bytesLess x y) (!(Go.Op.bytesLess x y || x == y))
theorem r04_order_eq (p q : Bool) : r04_order p q = some (ordB p q) := by
  unfold r04_order ordB; cases p <;> cases q <;> rfl
theorem cmp_int_eq (x y : Int) : cmp_Compare_int x y = some (cmpI x y) := by
  unfold cmp_Compare_int cmpI ordB cmp_isNaN_int
  by_cases h1 : x < y <;> by_cases h2 : y < x <;> simp [h1, h2]
theorem cmp_byte_eq (x y : UInt8) : cmp_Compare_byte x y = some (cmpI x.toNat y.toNat) := by
  unfold cmp_Compare_byte cmpI ordB cmp_isNaN_byte
  by_cases h1 : (x.toNat : Int) < y.toNat <;> by_cases h2 : (y.toNat : Int) < x.toNat <;> simp [h1, h2]
theorem cmp_str_eq (x y : Str) : cmp_Compare_string x y = some (cmpS x y) := by
  unfold cmp_Compare_string cmpS ordB cmp_isNaN_string
  cases h1 : Go.Op.bytesLess x y <;> cases h2 : (x == y) <;> simp
theorem bytesLess_irrefl : ∀ x : Str, Go.Op.bytesLess x x = false
  | [] => rfl
  | c :: x => by
    unfold Go.Op.bytesLess
    have := bytesLess_irrefl x
    simp [this]
theorem cmp_or_eq (a b c : Int) : cmp_Or_int ([a, b, c] : List Int) = some (if a != 0 then a else if b != 0 then b else c) := by
  have := scanS_big (F := fun k (_ : Unit) i => cmp_Or_int_l1 [a, b, c] k i) (l := [a, b, c]) (body := fun _ val1 _ r => if val1 != 0 then some val1 else r ()) (fin := fun _ => some 0) (by simp)
    (fun k s i => rfl) ()
  unfold cmp_Or_int
  rw [this]
  simp only [scanS]
  by_cases h1 : a = 0 <;> by_cases h2 : b = 0 <;> by_cases h3 : c = 0 <;> simp [h1, h2, h3]
def cmpN (a b : Str) : Int :=
  if ((dz a).length : Int) != ((dz b).length : Int) then cmpI (dz a).length (dz b).length else if !(dz a == dz b) then cmpS (dz a) (dz b) else cmpI a.length b.length
theorem dz_le (s : Str) : (dz s).length ≤ s.length := (List.dropWhile_sublist _).length_le
theorem cmpI_zero {x y : Int} : cmpI x y = 0 ↔ x = y := by
  unfold cmpI ordB
  by_cases h1 : x < y <;> by_cases h2 : y < x <;> simp [h1, h2] <;> omega
theorem cmpS_ne {x y : Str} (h : x ≠ y) : cmpS x y ≠ 0 := by
  unfold cmpS ordB
  cases h1 : Go.Op.bytesLess x y <;> simp [h]
theorem cmpS_self (x : Str) : cmpS x x = 0 := by
  unfold cmpS ordB
  simp [bytesLess_irrefl]
theorem numbers_eq {a b : Str} (ha : a.length < 4611686018427387904) (hb : b.length < 4611686018427387904) : ident_numbers a b = some (cmpN a b) := by
  unfold ident_numbers cmpN
  rw [trim_eq ha, trim_eq hb]
  simp only [bind1_some, cmp_int_eq, cmp_str_eq, cmp_or_eq, Option.some.injEq]
  by_cases h1 : ((dz a).length : Int) = ((dz b).length : Int)
  · have e1 : cmpI (dz a).length (dz b).length = 0 := cmpI_zero.2 h1
    rw [e1]
    by_cases h2 : dz a = dz b
    · rw [h2, cmpS_self]; simp
    · have := cmpS_ne h2
      simp [h1, h2, this]
  · have e1 : cmpI (dz a).length (dz b).length ≠ 0 := fun h => h1 (cmpI_zero.1 h)
    rw [if_pos (by simpa using e1), if_pos (by simpa using h1)]
theorem runs_eq {a b : Str} (ha : a.length < 4611686018427387904) (hb : b.length < 4611686018427387904) : r04_runs a b = some (cmpN a b) := by
  unfold r04_runs cmpN
  rw [strip_eq ha, strip_eq hb]
  simp only [bind1_some, r04_order_eq]
  by_cases h1 : ((dz a).length : Int) = ((dz b).length : Int)
  · by_cases h2 : dz a = dz b
    · simp [h2, cmpI]
    · simp [h1, h2, cmpS]
  · simp [h1, cmpI]
theorem spanD_pos {s : Str} (h : s ≠ []) : 0 < spanD isDig s ↔ isDig (s.head h) = true := by
  cases s with
  | nil => exact absurd rfl h
  | cons c s => rw [spanD_cons]; cases e : isDig c <;> simp [e]
theorem compare_gen {a b : Str} (ha : a.length < 4611686018427387904) (hb : b.length < 4611686018427387904) : ∀ (k k' i j : Nat), i ≤ a.length → j ≤ b.length → a.length < k + i → a.length < k' + i →
    ident_Compare_l1 k (a.drop i) (b.drop j) = r04_Compare_l1 a b k' (i : Int) (j : Int) ∧ ∃ c, r04_Compare_l1 a b k' (i : Int) (j : Int) = some c
  | 0, k', i, j, _, _, h, _ => by omega
  | k + 1, 0, i, j, _, _, _, h => by omega
  | k + 1, k' + 1, i, j, hi, hj, hk, hk' => by
    rw [ident_Compare_l1, r04_Compare_l1]
    by_cases h1 : i < a.length
    · by_cases h2 : j < b.length
      · have ea := List.drop_eq_getElem_cons h1
        have eb := List.drop_eq_getElem_cons h2
        have na : a.drop i ≠ [] := fun h => by simp at h; omega
        have nb : b.drop j ≠ [] := fun h => by simp at h; omega
        have la : (a.drop i).length = a.length - i := by simp
        have lb : (b.drop j).length = b.length - j := by simp
        have sa := spanD_le isDig (a.drop i)
        have sb := spanD_le isDig (b.drop j)
        have pa := spanD_pos na
        have pb := spanD_pos nb
        have heada : (a.drop i).head na = a[i] := by simp
        have headb : (b.drop j).head nb = b[j] := by simp
        rw [heada] at pa
        rw [headb] at pb
        rw [if_pos (by simp [h1, h2]), if_pos (by simp; omega), ident_run_eq (by omega), ident_run_eq (by omega), idxn h1, idxn h2]
        simp only [bind1_some, r04_order_eq, r4_digit]
        have i0 : idx (a.drop i) 0 = some a[i] := by rw [ea]; rfl
        have j0 : idx (b.drop j) 0 = some b[j] := by rw [eb]; rfl
        have hone : (if isDig a[i] = true then some (isDig b[j]) else some false) = some (isDig a[i] && isDig b[j]) := by cases isDig a[i] <;> simp
        rw [hone]
        simp only [bind1_some]
        cases hd : (isDig a[i] && isDig b[j]) with
        | true =>
          simp only [Bool.and_eq_true] at hd
          have q1 := pa.2 hd.1
          have q2 := pb.2 hd.2
          rw [if_pos (by simp; omega)]
          simp only [if_true]
          rw [r04_run_eq ha (by omega), r04_run_eq hb (by omega), sl_to sa, sl_to sb]
          simp only [bind1_some]
          have e1 : sl a (i : Int) ((i + spanD isDig (a.drop i) : Nat) : Int) = some ((a.drop i).take (spanD isDig (a.drop i))) := by
            rw [sl_ok (by omega) (by omega) (by omega)]
            simp only [Int.toNat_natCast, Option.some.injEq]
            rw [List.drop_take, Nat.add_sub_cancel_left]
          have e2 : sl b (j : Int) ((j + spanD isDig (b.drop j) : Nat) : Int) = some ((b.drop j).take (spanD isDig (b.drop j))) := by
            rw [sl_ok (by omega) (by omega) (by omega)]
            simp only [Int.toNat_natCast, Option.some.injEq]
            rw [List.drop_take, Nat.add_sub_cancel_left]
          rw [e1, e2]
          simp only [bind1_some]
          rw [numbers_eq (by simp; omega) (by simp; omega), runs_eq (by simp; omega) (by simp; omega)]
          simp only [bind1_some]
          by_cases hc : cmpN ((a.drop i).take (spanD isDig (a.drop i))) ((b.drop j).take (spanD isDig (b.drop j))) = 0
          · rw [if_neg (by simp [hc]), if_neg (by simp [hc]), sl_from sa, sl_from sb]
            simp only [bind1_some, List.drop_drop]
            exact compare_gen ha hb k k' _ _ (by omega) (by omega) (by omega) (by omega)
          · rw [if_pos (by simpa using hc), if_pos (by simpa using hc)]
            exact ⟨rfl, _, rfl⟩
        | false =>
          rw [if_neg (by
            simp only [Bool.and_eq_true, decide_eq_true_eq, not_and]
            intro h3 h4
            have := pa.1 (by omega); have := pb.1 (by omega)
            simp_all)]
          simp only [Bool.false_eq_true, if_false]
          rw [i0, j0]
          simp only [bind1_some, cmp_byte_eq]
          by_cases hc : (a[i].toNat : Int) = (b[j].toNat : Int)
          · rw [if_neg (by simpa using hc)]
            have : ordB (decide ((a[i].toNat : Int) < (b[j].toNat : Int))) (decide ((b[j].toNat : Int) < (a[i].toNat : Int))) = 0 := by simp [ordB, hc]
            rw [this, if_neg (by simp), w64s (by omega), w64s (by omega)]
            have s1 := sl_from (s := a.drop i) (i := 1) (by omega)
            have s2 := sl_from (s := b.drop j) (i := 1) (by omega)
            rw [show ((1 : Nat) : Int) = 1 from rfl] at s1 s2
            rw [s1, s2]
            simp only [bind1_some, List.drop_drop]
            exact compare_gen ha hb k k' _ _ (by omega) (by omega) (by omega) (by omega)
          · rw [if_pos (by simpa using hc)]
            have e3 : cmpI (a[i].toNat) (b[j].toNat) ≠ 0 := fun h => hc (cmpI_zero.1 h)
            have : ordB (decide ((a[i].toNat : Int) < (b[j].toNat : Int))) (decide ((b[j].toNat : Int) < (a[i].toNat : Int))) = cmpI (a[i].toNat) (b[j].toNat) := rfl
            rw [this, if_pos (by simpa using e3)]
            exact ⟨rfl, _, rfl⟩
      · have eb : b.drop j = [] := by simp; omega
        rw [eb, if_neg (by simp), if_neg (by simp; omega), r04_order_eq, cmp_int_eq]
        refine ⟨?_, _, rfl⟩
        unfold cmpI
        congr 2 <;> simp <;> omega
    · have ea : a.drop i = [] := by simp; omega
      rw [ea, if_neg (by simp), if_neg (by simp; omega), r04_order_eq, cmp_int_eq]
      refine ⟨?_, _, rfl⟩
      unfold cmpI
      congr 2 <;> simp <;> omega
theorem compare_eq {a b : Str} (ha : a.length < 4611686018427387904) (hb : b.length < 4611686018427387904) : ∃ c, ident_Compare a b = some c ∧ r04_Compare a b = some c := by
  obtain ⟨h1, c, h2⟩ := compare_gen ha hb BIG BIG 0 0 (by omega) (by omega) (by have := BIG_lt; omega) (by have := BIG_lt; omega)
  refine ⟨c, ?_, by simpa [r04_Compare] using h2⟩
  rw [← h2]
  simpa [ident_Compare] using h1
end Go.Ft

namespace Go.Ft
open Go
theorem lexN_self : ∀ l, lexN l l = 0
  | [] => rfl
  | a :: l => by simp [lexN, lexN_self l]
theorem lexN_zero : ∀ {l m : List Nat}, lexN l m = 0 → l = m
  | [], [], _ => rfl
  | [], _ :: _, h => by simp [lexN] at h
  | _ :: _, [], h => by simp [lexN] at h
  | a :: l, b :: m, h => by
    simp only [lexN] at h
    by_cases h1 : a < b
    · simp [h1] at h
    · by_cases h2 : b < a
      · simp [h1, h2] at h
      · simp only [h1, h2, if_false] at h
        rw [lexN_zero h, show a = b from by omega]
theorem lexN_neg : ∀ l m : List Nat, lexN m l = - lexN l m
  | [], [] => rfl
  | [], _ :: _ => rfl
  | _ :: _, [] => rfl
  | a :: l, b :: m => by
    simp only [lexN]
    by_cases h1 : a < b
    · simp [h1, show ¬ b < a by omega]
    · by_cases h2 : b < a
      · simp [h1, h2]
      · simp only [h1, h2, if_false]; exact lexN_neg l m
theorem lexN_trans : ∀ {a b c : List Nat}, lexN a b < 0 → lexN b c < 0 → lexN a c < 0
  | [], [], c, h, _ => by simp [lexN] at h
  | [], _ :: _, [], _, h => by simp [lexN] at h
  | [], _ :: _, _ :: _, _, _ => by simp [lexN]
  | _ :: _, [], c, h, _ => by simp [lexN] at h
  | _ :: _, _ :: _, [], _, h => by simp [lexN] at h
  | x :: a, y :: b, z :: c, h, k => by
    simp only [lexN] at h k ⊢
    by_cases h1 : x < y
    · by_cases k1 : y < z
      · simp [show x < z by omega]
      · by_cases k2 : z < y
        · simp [k1, k2] at k
        · simp [show x < z by omega]
    · by_cases h2 : y < x
      · simp [h1, h2] at h
      · simp only [h1, h2, if_false] at h
        by_cases k1 : y < z
        · simp [show x < z by omega]
        · by_cases k2 : z < y
          · simp [k1, k2] at k
          · simp only [k1, k2, if_false] at k
            simp only [show ¬ x < z by omega, show ¬ z < x by omega, if_false]
            exact lexN_trans h k
theorem lexN_bytes : ∀ (xs ys : Str) (u v : List Nat), xs.length = ys.length → lexN (xs.map UInt8.toNat ++ u) (ys.map UInt8.toNat ++ v) = if xs = ys then lexN u v else cmpS xs ys
  | [], [], u, v, _ => by simp
  | [], _ :: _, _, _, h => by simp at h
  | _ :: _, [], _, _, h => by simp at h
  | x :: xs, y :: ys, u, v, h => by
    simp only [List.map_cons, List.cons_append, lexN]
    have ih := lexN_bytes xs ys u v (by simpa using h)
    have e1 : (x < y) = (x.toNat < y.toNat) := by rw [UInt8.lt_iff_toNat_lt]
    have e2 : (y < x) = (y.toNat < x.toNat) := by rw [UInt8.lt_iff_toNat_lt]
    by_cases h1 : x.toNat < y.toNat
    · have : x ≠ y := fun e => by subst e; omega
      simp [h1, this, cmpS, ordB, Go.Op.bytesLess, e1]
    · by_cases h2 : y.toNat < x.toNat
      · have : x ≠ y := fun e => by subst e; omega
        simp [h1, h2, this, cmpS, ordB, Go.Op.bytesLess, e1]
      · have : x = y := UInt8.toNat_inj.1 (by omega)
        subst this
        simp only [h1, if_false, ih, List.cons.injEq, true_and]
        by_cases h3 : xs = ys
        · simp [h3]
        · simp only [h3, if_false, cmpS, Go.Op.bytesLess, e1, h1, decide_false, Bool.false_or, beq_self_eq_true, Bool.true_and]
          congr 1
          simp
theorem spanD_len (s : Str) : (s.take (spanD isDig s)).length = spanD isDig s := by
  have := spanD_le isDig s
  simp; omega
theorem span_one {c : UInt8} {s : Str} (h : isDig c = true) : 0 < spanD isDig (c :: s) := by rw [spanD_cons, if_pos h]; omega
theorem keyN_more : ∀ (k m : Nat) (s : Str), s.length ≤ k → s.length ≤ m → keyN k s = keyN m s
  | 0, 0, _, _, _ => rfl
  | 0, m + 1, s, h, _ => by
    have : s = [] := List.eq_nil_of_length_eq_zero (by omega)
    subst this; rfl
  | k + 1, 0, s, _, h => by
    have : s = [] := List.eq_nil_of_length_eq_zero (by omega)
    subst this; rfl
  | k + 1, m + 1, [], _, _ => rfl
  | k + 1, m + 1, c :: s, h1, h2 => by
    simp only [keyN]
    simp only [List.length_cons] at h1 h2
    cases e : isDig c with
    | true =>
      have := span_one (s := s) e
      have := spanD_le isDig (c :: s)
      simp only [if_true]
      rw [keyN_more k m _ (by simp; omega) (by simp; omega)]
    | false =>
      simp only [Bool.false_eq_true, if_false]
      rw [keyN_more k m s (by omega) (by omega)]
theorem keyN_key {k : Nat} {s : Str} (h : s.length ≤ k) : keyN k s = key s := keyN_more _ _ _ h (Nat.le_refl _)
theorem key_nil : key [] = [] := rfl
theorem key_dig {c : UInt8} {s : Str} (h : isDig c = true) : key (c :: s) = 48 :: (dz ((c :: s).take (spanD isDig (c :: s)))).length :: ((dz ((c :: s).take (spanD isDig (c :: s)))).map UInt8.toNat ++ spanD isDig (c :: s) :: key ((c :: s).drop (spanD isDig (c :: s)))) := by
  have := span_one (s := s) h
  have := spanD_le isDig (c :: s)
  show keyN (s.length + 1) (c :: s) = _
  simp only [keyN, h, if_true]
  rw [keyN_key (by simp; omega)]
theorem key_other {c : UInt8} {s : Str} (h : isDig c = false) : key (c :: s) = c.toNat :: key s := by
  show keyN (s.length + 1) (c :: s) = _
  simp only [keyN, h, Bool.false_eq_true, if_false]
  rw [keyN_key (Nat.le_refl _)]
theorem cmpN_lex (a b : Str) (u v : List Nat) : lexN ((dz a).length :: ((dz a).map UInt8.toNat ++ a.length :: u)) ((dz b).length :: ((dz b).map UInt8.toNat ++ b.length :: v)) = if cmpN a b = 0 then lexN u v else cmpN a b := by
  unfold cmpN
  simp only [lexN]
  by_cases h1 : (dz a).length = (dz b).length
  · rw [if_neg (by omega), if_neg (by omega), lexN_bytes _ _ _ _ h1]
    have e : (((dz a).length : Int) != ((dz b).length : Int)) = false := by simp [h1]
    simp only [e, Bool.false_eq_true, if_false]
    by_cases h2 : dz a = dz b
    · simp only [h2, if_true, beq_self_eq_true, Bool.not_true, Bool.false_eq_true, if_false, lexN, cmpI, ordB]
      by_cases h3 : a.length < b.length
      · simp [h3]
      · by_cases h4 : b.length < a.length
        · simp [h3, h4]
        · simp [h3, h4]
    · have h3 := cmpS_ne h2
      simp [h2, h3]
  · have e : (((dz a).length : Int) != ((dz b).length : Int)) = true := by simp; omega
    simp only [e, if_true]
    by_cases h2 : (dz a).length < (dz b).length
    · simp [h2, cmpI, ordB]
    · have h3 : (dz b).length < (dz a).length := by omega
      simp [h2, h3, cmpI, ordB]
theorem dig_of_toNat {c : UInt8} : isDig c = (decide (48 ≤ c.toNat) && decide (c.toNat ≤ 57)) := by
  unfold isDig
  congr 1
  · apply decide_eq_decide.2; omega
  · apply decide_eq_decide.2; omega
theorem natCmp_loop : ∀ (n k : Nat) (a b : Str), a.length ≤ n → a.length < k → a.length < 4611686018427387904 → b.length < 4611686018427387904 → ident_Compare_l1 k a b = some (natCmp a b)
  | _, 0, _, _, _, h, _, _ => by omega
  | n, k + 1, a, b, hn, hk, ha, hb => by
    rw [ident_Compare_l1]
    match a, b with
    | [], [] => 
      rw [if_neg (by simp), cmp_int_eq]
      simp [natCmp, key_nil, lexN, cmpI, ordB]
    | [], y :: b =>
      rw [if_neg (by simp), cmp_int_eq]
      have : key (y :: b) ≠ [] := by
        cases e : isDig y with
        | true => rw [key_dig e]; simp
        | false => rw [key_other e]; simp
      cases e : key (y :: b) with
      | nil => exact absurd e this
      | cons p q =>
        simp only [natCmp, key_nil, e, lexN, cmpI, ordB]
        rw [if_pos (by simp)]
    | x :: a, [] =>
      rw [if_neg (by simp), cmp_int_eq]
      have : key (x :: a) ≠ [] := by
        cases e : isDig x with
        | true => rw [key_dig e]; simp
        | false => rw [key_other e]; simp
      cases e : key (x :: a) with
      | nil => exact absurd e this
      | cons p q =>
        simp only [natCmp, key_nil, e, lexN, cmpI, ordB]
        rw [if_neg (by simp; omega), if_pos (by simp)]
    | x :: a, y :: b =>
      have sa := spanD_le isDig (x :: a)
      have sb := spanD_le isDig (y :: b)
      have i0 : idx (x :: a) 0 = some x := rfl
      have j0 : idx (y :: b) 0 = some y := rfl
      rw [if_pos (by simp), ident_run_eq ha, ident_run_eq hb]
      simp only [bind1_some]
      cases e1 : isDig x with
      | true =>
        have p1 := span_one (s := a) e1
        cases e2 : isDig y with
        | true =>
          have p2 := span_one (s := b) e2
          rw [if_pos (by simp; omega), sl_to sa, sl_to sb]
          simp only [bind1_some]
          rw [numbers_eq (by simp; omega) (by simp; omega)]
          simp only [bind1_some]
          have hc := cmpN_lex ((x :: a).take (spanD isDig (x :: a))) ((y :: b).take (spanD isDig (y :: b))) (key ((x :: a).drop (spanD isDig (x :: a)))) (key ((y :: b).drop (spanD isDig (y :: b))))
          rw [spanD_len, spanD_len] at hc
          have e3 : natCmp (x :: a) (y :: b) = if cmpN ((x :: a).take (spanD isDig (x :: a))) ((y :: b).take (spanD isDig (y :: b))) = 0 then lexN (key ((x :: a).drop (spanD isDig (x :: a)))) (key ((y :: b).drop (spanD isDig (y :: b)))) else cmpN ((x :: a).take (spanD isDig (x :: a))) ((y :: b).take (spanD isDig (y :: b))) := by
            rw [← hc, natCmp, key_dig e1, key_dig e2, lexN, if_neg (by omega), if_neg (by omega)]
          rw [e3]
          by_cases h0 : cmpN ((x :: a).take (spanD isDig (x :: a))) ((y :: b).take (spanD isDig (y :: b))) = 0
          · rw [if_neg (by simpa using h0), if_pos h0, sl_from sa, sl_from sb]
            simp only [bind1_some]
            match n, hn with
            | n + 1, hn =>
              exact natCmp_loop n k _ _ (by simp at hn ⊢; omega) (by simp at hk ⊢; omega) (by simp at ha ⊢; omega) (by simp at hb ⊢; omega)
          · rw [if_pos (by simpa using h0), if_neg h0]
        | false =>
          have q2 : spanD isDig (y :: b) = 0 := by rw [spanD_cons, e2]; rfl
          rw [if_neg (by simp [q2]), i0, j0]
          simp only [bind1_some, cmp_byte_eq]
          have d1 := dig_of_toNat (c := x); rw [e1] at d1
          have d2 := dig_of_toNat (c := y); rw [e2] at d2
          simp only [Bool.and_eq_true, Bool.false_eq, Bool.and_eq_false_iff, decide_eq_false_iff_not, Bool.true_eq, decide_eq_true_eq] at d1 d2
          rw [if_pos (by simp; omega)]
          rw [natCmp, key_dig e1, key_other e2, lexN, cmpI, ordB]
          by_cases h1 : x.toNat < y.toNat
          · rw [if_pos (by simp; omega), if_pos (by omega)]
          · rw [if_neg (by simp; omega), if_pos (by simp; omega), if_neg (by omega), if_pos (by omega)]
      | false =>
        have q1 : spanD isDig (x :: a) = 0 := by rw [spanD_cons, e1]; rfl
        rw [if_neg (by simp [q1]), i0, j0]
        simp only [bind1_some, cmp_byte_eq]
        by_cases h0 : x = y
        · subst h0
          rw [if_neg (by simp)]
          have s1 := sl_from (s := x :: a) (i := 1) (by simp)
          have s2 := sl_from (s := x :: b) (i := 1) (by simp)
          rw [show ((1 : Nat) : Int) = 1 from rfl] at s1 s2
          rw [s1, s2]
          simp only [bind1_some, List.drop_succ_cons, List.drop_zero]
          rw [natCmp, key_other e1, key_other e1, lexN, if_neg (by omega), if_neg (by omega)]
          match n, hn with
          | n + 1, hn => exact natCmp_loop n k a b (by simp at hn; omega) (by simp at hk; omega) (by simp at ha; omega) (by simp at hb; omega)
        · have h1 : x.toNat ≠ y.toNat := fun h => h0 (UInt8.toNat_inj.1 h)
          rw [if_pos (by simp; omega)]
          have d1 := dig_of_toNat (c := x); rw [e1] at d1
          simp only [Bool.and_eq_true, Bool.false_eq, Bool.and_eq_false_iff, decide_eq_false_iff_not] at d1
          cases e2 : isDig y with
          | true =>
            have d2 := dig_of_toNat (c := y); rw [e2] at d2
            simp only [Bool.and_eq_true, Bool.true_eq, decide_eq_true_eq] at d2
            rw [natCmp, key_other e1, key_dig e2, lexN, cmpI, ordB]
            by_cases h1 : x.toNat < y.toNat
            · rw [if_pos (by simp; omega), if_pos (by omega)]
            · rw [if_neg (by simp; omega), if_pos (by simp; omega), if_neg (by omega), if_pos (by omega)]
          | false =>
            rw [natCmp, key_other e1, key_other e2, lexN, cmpI, ordB]
            by_cases h2 : x.toNat < y.toNat
            · rw [if_pos (by simp; omega), if_pos (by omega)]
            · rw [if_neg (by simp; omega), if_pos (by simp; omega), if_neg (by omega), if_pos (by omega)]
theorem natCmp_eq {a b : Str} (ha : a.length < 4611686018427387904) (hb : b.length < 4611686018427387904) : ident_Compare a b = some (natCmp a b) :=
  natCmp_loop _ BIG a b (Nat.le_refl _) (by have := BIG_lt; omega) ha hb
theorem dz_take : ∀ (r : Str), r = List.replicate (r.length - (dz r).length) (48 : UInt8) ++ dz r
  | [] => rfl
  | c :: r => by
    unfold dz
    rw [List.dropWhile_cons]
    by_cases h : c = 48
    · subst h
      have ih := dz_take r
      have hl := dz_le r
      simp only [show (((48 : UInt8).toNat : Int) == 48) = true from rfl, if_true]
      change _ = List.replicate ((48 :: r).length - (dz r).length) (48 : UInt8) ++ dz r
      rw [show (48 :: r).length - (dz r).length = (r.length - (dz r).length) + 1 by simp; omega, List.replicate_succ, List.cons_append, ← ih]
    · have : ((c.toNat : Int) == 48) = false := by
        simp only [beq_eq_false_iff_ne, ne_eq]
        intro h2
        exact h (UInt8.toNat_inj.1 (by show c.toNat = 48; omega))
      simp [this]
theorem key_inj : ∀ (n : Nat) (a b : Str), a.length ≤ n → key a = key b → a = b
  | _, [], [], _, _ => rfl
  | _, [], y :: b, _, h => by
    cases e : isDig y with
    | true => rw [key_dig e, key_nil] at h; cases h
    | false => rw [key_other e, key_nil] at h; cases h
  | _, x :: a, [], _, h => by
    cases e : isDig x with
    | true => rw [key_dig e, key_nil] at h; cases h
    | false => rw [key_other e, key_nil] at h; cases h
  | 0, x :: a, y :: b, h, _ => by simp at h
  | n + 1, x :: a, y :: b, hn, h => by
    cases e1 : isDig x with
    | true =>
      cases e2 : isDig y with
      | true =>
        have p1 := span_one (s := a) e1
        have sa := spanD_le isDig (x :: a)
        rw [key_dig e1, key_dig e2] at h
        simp only [List.cons.injEq, true_and] at h
        obtain ⟨h1, h2⟩ := h
        obtain ⟨h3, h4⟩ := List.append_inj h2 (by simpa using h1)
        simp only [List.cons.injEq] at h4
        have h5 : dz ((x :: a).take (spanD isDig (x :: a))) = dz ((y :: b).take (spanD isDig (y :: b))) := by
          refine List.map_inj_right (f := UInt8.toNat) (fun p q hpq => UInt8.toNat_inj.1 hpq) |>.1 h3
        have h6 : (x :: a).take (spanD isDig (x :: a)) = (y :: b).take (spanD isDig (y :: b)) := by
          rw [dz_take ((x :: a).take (spanD isDig (x :: a))), dz_take ((y :: b).take (spanD isDig (y :: b))), h5, spanD_len, spanD_len, h4.1]
        have h7 := key_inj n _ _ (by simp at hn ⊢; omega) h4.2
        rw [← List.take_append_drop (spanD isDig (x :: a)) (x :: a), h6, h7, List.take_append_drop]
      | false =>
        rw [key_dig e1, key_other e2] at h
        simp only [List.cons.injEq] at h
        have d2 := dig_of_toNat (c := y); rw [e2, ← h.1] at d2
        simp at d2
    | false =>
      cases e2 : isDig y with
      | true =>
        rw [key_other e1, key_dig e2] at h
        simp only [List.cons.injEq] at h
        have d2 := dig_of_toNat (c := x); rw [e1, h.1] at d2
        simp at d2
      | false =>
        rw [key_other e1, key_other e2] at h
        simp only [List.cons.injEq] at h
        rw [UInt8.toNat_inj.1 h.1, key_inj n a b (by simp at hn; omega) h.2]
theorem natCmp_self (a : Str) : natCmp a a = 0 := lexN_self _
theorem natCmp_zero {a b : Str} (h : natCmp a b = 0) : a = b := key_inj _ a b (Nat.le_refl _) (lexN_zero h)
theorem natCmp_neg (a b : Str) : natCmp b a = - natCmp a b := lexN_neg _ _
theorem natCmp_trans {a b c : Str} (h : natCmp a b < 0) (k : natCmp b c < 0) : natCmp a c < 0 := lexN_trans h k
theorem natCmp_ntrans {a b c : Str} (h : ¬ natCmp a b < 0) (k : ¬ natCmp b c < 0) : ¬ natCmp a c < 0 := by
  intro hc
  by_cases h0 : natCmp a b = 0
  · rw [natCmp_zero h0] at hc; exact k hc
  · by_cases k0 : natCmp b c = 0
    · rw [← natCmp_zero k0] at hc; exact h hc
    · have h1 : natCmp b a < 0 := by rw [natCmp_neg]; omega
      have k1 : natCmp c b < 0 := by rw [natCmp_neg]; omega
      have := natCmp_trans k1 h1
      rw [natCmp_neg] at this
      omega
theorem mem_dd : ∀ {l : List Str} {x : Str}, x ∈ dd l ↔ x ∈ l
  | [], x => by simp [dd]
  | [y], x => by simp [dd]
  | y :: z :: l, x => by
    have ih := mem_dd (l := z :: l) (x := x)
    unfold dd
    by_cases h : y = z
    · subst h; rw [if_pos rfl, ih]; simp
    · rw [if_neg h, List.mem_cons, ih]; simp
theorem natSort_perm (l : List Str) : (natSort l).Perm l := List.mergeSort_perm _ _
theorem mem_natSet {l : List Str} {x : Str} : x ∈ natSet l ↔ x ∈ l := by rw [natSet, mem_dd, (natSort_perm l).mem_iff]
end Go.Ft
