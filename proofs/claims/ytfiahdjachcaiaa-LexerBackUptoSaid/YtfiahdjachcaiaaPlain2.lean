/- Proved here: plain facts on the functional texts (part 2). -/
import Derived.Test.YtfiahdjachcaiaaPlain1
set_option linter.unusedVariables false
set_option linter.unusedSimpArgs false
set_option maxHeartbeats 2000000
namespace Go.Ft
open Go
attribute [local congr] ite_c1

theorem get_mk (s : Str) (i : Nat) : (ByteArray.mk s.toArray).get! i = s.getD i 0 := by
  unfold ByteArray.get!
  simp [getElem!_def]
  rfl
theorem size_mk' (s : Str) : (ByteArray.mk s.toArray).size = s.length := by simp [ByteArray.size]
theorem dec_lt {s : Str} {p : Nat} (hc : (s.getD p 0).toNat < 128) : dec s p = ((s.getD p 0).toNat, 1) := by
  unfold dec Utf8.decode
  simp only [get_mk, Nat.add_zero]
  rw [if_pos hc]
theorem dec_ge {s : Str} {p : Nat} (h : p < s.length) (hc : 128 ≤ (s.getD p 0).toNat) :
    128 ≤ (dec s p).1 ∧ 1 ≤ (dec s p).2 ∧ p + (dec s p).2 ≤ s.length ∧ ∀ j, 1 ≤ j → j < (dec s p).2 → 128 ≤ (s.getD (p + j) 0).toNat := by
  unfold dec Utf8.decode
  simp only [get_mk, Nat.add_zero, size_mk', Utf8.runeError]
  rw [if_neg (by omega)]
  repeat' split
  all_goals (rename_i h1; simp only [Bool.and_eq_true, decide_eq_true_eq, beq_iff_eq] at *)
  all_goals refine ⟨by (try simp only); omega, by (try simp only); omega, by (try simp only); omega, fun j h2 h3 => ?_⟩
  all_goals (try simp only at h3)
  all_goals try (exfalso; omega)
  all_goals
    rcases Nat.lt_or_ge j 2 with g1 | g1
    · have e : j = 1 := Nat.le_antisymm (Nat.le_of_lt_succ g1) h2
      subst e
      omega
    · rcases Nat.lt_or_ge j 3 with g2 | g2
      · have e : j = 2 := Nat.le_antisymm (Nat.le_of_lt_succ g2) g1
        subst e
        omega
      · have e : j = 3 ∨ 4 ≤ j := by omega
        rcases e with e | e
        · subst e
          omega
        · omega
/-- a place that no character spans -/
def Bd (s : Str) (n : Nat) : Prop := n = s.length ∨ (s.getD n 0).toNat < 128 ∨ (0 < n ∧ (s.getD (n - 1) 0).toNat < 128)
theorem dec_step {s : Str} {p n : Nat} (h : p < n) (hn : n ≤ s.length) (hb : Bd s n) : p + (dec s p).2 ≤ n := by
  rcases Nat.lt_or_ge (s.getD p 0).toNat 128 with hc | hc
  · rw [dec_lt hc]; omega
  · obtain ⟨_, h1, h2, h3⟩ := dec_ge (by omega : p < s.length) hc
    rcases Nat.lt_or_ge n (p + (dec s p).2) with hlt | hge
    · exfalso
      have a1 := h3 (n - p) (by omega) (by omega)
      rw [show p + (n - p) = n from by omega] at a1
      rcases hb with hb | hb | ⟨hb0, hb⟩
      · omega
      · omega
      · by_cases e : n - 1 = p
        · rw [e] at hb; omega
        · have a2 := h3 (n - 1 - p) (by omega) (by omega)
          rw [show p + (n - 1 - p) = n - 1 from by omega] at a2
          omega
    · exact hge

def notNL (c : UInt8) : Bool := (c.toNat : Int) != 10
@[simp] theorem nl_eq (c : UInt8) : lexer_Tokens_2 c = some (notNL c) := rfl
@[simp] theorem blank_eq (r : Int) : lexer_Tokens_1 r = some ((r == 32) || (r == 9)) := rfl
def opb (t : Str) (o : Nat) : Nat := if t = [40] ∨ t = [91] then o + 1 else if t = [41] ∨ t = [93] then o - 1 else o
theorem brackets_eq (t : Str) (o : Nat) (h : o < 4611686018427387904) : lexer_brackets t (o : Int) = some ((opb t o : Nat) : Int) := by
  unfold lexer_brackets opb
  by_cases h1 : t = [40]
  · subst h1; simp (disch := omega) only [w64_ok, idx_ok, sl_ok, app_ok, chk_ok, if_pos, if_neg, bind1_some, bind2_some, bind3_some, bind4_some, bind5_some, bind1_none, bind2_none, bind3_none, decide_eq_true_eq, beq_iff_eq, bne_iff_ne, ne_eq, Bool.and_eq_true, Bool.or_eq_true, Bool.not_eq_true', Bool.not_eq_true, decide_eq_false_iff_not, beq_eq_false_iff_ne, bne_eq_false_iff_eq, Int.toNat_add, Int.toNat_natCast, Int.reduceToNat, Int.zero_add, Int.add_zero, Nat.add_zero, Nat.zero_add, Bool.true_and, Bool.and_true, Bool.false_and, Bool.and_false, Bool.true_or, Bool.or_true, Bool.false_or, Bool.or_false, Bool.not_true, Bool.not_false, Bool.false_eq_true, Bool.true_eq_false, reduceCtorEq, not_true_eq_false, not_false_eq_true, if_true, if_false, decide_true, decide_false]; simp
  · by_cases h2 : t = [91]
    · subst h2; simp (disch := omega) only [w64_ok, idx_ok, sl_ok, app_ok, chk_ok, if_pos, if_neg, bind1_some, bind2_some, bind3_some, bind4_some, bind5_some, bind1_none, bind2_none, bind3_none, decide_eq_true_eq, beq_iff_eq, bne_iff_ne, ne_eq, Bool.and_eq_true, Bool.or_eq_true, Bool.not_eq_true', Bool.not_eq_true, decide_eq_false_iff_not, beq_eq_false_iff_ne, bne_eq_false_iff_eq, Int.toNat_add, Int.toNat_natCast, Int.reduceToNat, Int.zero_add, Int.add_zero, Nat.add_zero, Nat.zero_add, Bool.true_and, Bool.and_true, Bool.false_and, Bool.and_false, Bool.true_or, Bool.or_true, Bool.false_or, Bool.or_false, Bool.not_true, Bool.not_false, Bool.false_eq_true, Bool.true_eq_false, reduceCtorEq, not_true_eq_false, not_false_eq_true, if_true, if_false, decide_true, decide_false]; simp
    · by_cases h3 : t = [41]
      · subst h3; simp (disch := omega) only [w64_ok, idx_ok, sl_ok, app_ok, chk_ok, if_pos, if_neg, bind1_some, bind2_some, bind3_some, bind4_some, bind5_some, bind1_none, bind2_none, bind3_none, decide_eq_true_eq, beq_iff_eq, bne_iff_ne, ne_eq, Bool.and_eq_true, Bool.or_eq_true, Bool.not_eq_true', Bool.not_eq_true, decide_eq_false_iff_not, beq_eq_false_iff_ne, bne_eq_false_iff_eq, Int.toNat_add, Int.toNat_natCast, Int.reduceToNat, Int.zero_add, Int.add_zero, Nat.add_zero, Nat.zero_add, Bool.true_and, Bool.and_true, Bool.false_and, Bool.and_false, Bool.true_or, Bool.or_true, Bool.false_or, Bool.or_false, Bool.not_true, Bool.not_false, Bool.false_eq_true, Bool.true_eq_false, reduceCtorEq, not_true_eq_false, not_false_eq_true, if_true, if_false, decide_true, decide_false]
        by_cases h4 : 1 < o
        · rw [if_pos (by omega)]; simp; omega
        · rw [if_neg (by omega)]; simp; omega
      · by_cases h4 : t = [93]
        · subst h4; simp (disch := omega) only [w64_ok, idx_ok, sl_ok, app_ok, chk_ok, if_pos, if_neg, bind1_some, bind2_some, bind3_some, bind4_some, bind5_some, bind1_none, bind2_none, bind3_none, decide_eq_true_eq, beq_iff_eq, bne_iff_ne, ne_eq, Bool.and_eq_true, Bool.or_eq_true, Bool.not_eq_true', Bool.not_eq_true, decide_eq_false_iff_not, beq_eq_false_iff_ne, bne_eq_false_iff_eq, Int.toNat_add, Int.toNat_natCast, Int.reduceToNat, Int.zero_add, Int.add_zero, Nat.add_zero, Nat.zero_add, Bool.true_and, Bool.and_true, Bool.false_and, Bool.and_false, Bool.true_or, Bool.or_true, Bool.false_or, Bool.or_false, Bool.not_true, Bool.not_false, Bool.false_eq_true, Bool.true_eq_false, reduceCtorEq, not_true_eq_false, not_false_eq_true, if_true, if_false, decide_true, decide_false]
          by_cases h4 : 1 < o
          · rw [if_pos (by omega)]; simp; omega
          · rw [if_neg (by omega)]; simp; omega
        · simp [h1, h2, h3, h4]
theorem opened_eq (k : ApiToken) (o : Nat) (h : o < 4611686018427387904) : r09_opened (o : Int) k = some (((if k.kind = 4 then opb k.text o else o : Nat)) : Int) := by
  unfold r09_opened opb
  by_cases hk : k.kind = 4
  · rw [hk]
    by_cases h1 : k.text = [40]
    · rw [h1]; simp (disch := omega) only [w64_ok, idx_ok, sl_ok, app_ok, chk_ok, if_pos, if_neg, bind1_some, bind2_some, bind3_some, bind4_some, bind5_some, bind1_none, bind2_none, bind3_none, decide_eq_true_eq, beq_iff_eq, bne_iff_ne, ne_eq, Bool.and_eq_true, Bool.or_eq_true, Bool.not_eq_true', Bool.not_eq_true, decide_eq_false_iff_not, beq_eq_false_iff_ne, bne_eq_false_iff_eq, Int.toNat_add, Int.toNat_natCast, Int.reduceToNat, Int.zero_add, Int.add_zero, Nat.add_zero, Nat.zero_add, Bool.true_and, Bool.and_true, Bool.false_and, Bool.and_false, Bool.true_or, Bool.or_true, Bool.false_or, Bool.or_false, Bool.not_true, Bool.not_false, Bool.false_eq_true, Bool.true_eq_false, reduceCtorEq, not_true_eq_false, not_false_eq_true, if_true, if_false, decide_true, decide_false]; simp
    · by_cases h2 : k.text = [91]
      · rw [h2]; simp (disch := omega) only [w64_ok, idx_ok, sl_ok, app_ok, chk_ok, if_pos, if_neg, bind1_some, bind2_some, bind3_some, bind4_some, bind5_some, bind1_none, bind2_none, bind3_none, decide_eq_true_eq, beq_iff_eq, bne_iff_ne, ne_eq, Bool.and_eq_true, Bool.or_eq_true, Bool.not_eq_true', Bool.not_eq_true, decide_eq_false_iff_not, beq_eq_false_iff_ne, bne_eq_false_iff_eq, Int.toNat_add, Int.toNat_natCast, Int.reduceToNat, Int.zero_add, Int.add_zero, Nat.add_zero, Nat.zero_add, Bool.true_and, Bool.and_true, Bool.false_and, Bool.and_false, Bool.true_or, Bool.or_true, Bool.false_or, Bool.or_false, Bool.not_true, Bool.not_false, Bool.false_eq_true, Bool.true_eq_false, reduceCtorEq, not_true_eq_false, not_false_eq_true, if_true, if_false, decide_true, decide_false]; simp
      · by_cases h3 : k.text = [41]
        · rw [h3]
          by_cases h4 : 0 < o
          · have : decide ((0 : Int) < (o : Int)) = true := by simp; omega
            rw [this]; simp (disch := omega) only [w64_ok, idx_ok, sl_ok, app_ok, chk_ok, if_pos, if_neg, bind1_some, bind2_some, bind3_some, bind4_some, bind5_some, bind1_none, bind2_none, bind3_none, decide_eq_true_eq, beq_iff_eq, bne_iff_ne, ne_eq, Bool.and_eq_true, Bool.or_eq_true, Bool.not_eq_true', Bool.not_eq_true, decide_eq_false_iff_not, beq_eq_false_iff_ne, bne_eq_false_iff_eq, Int.toNat_add, Int.toNat_natCast, Int.reduceToNat, Int.zero_add, Int.add_zero, Nat.add_zero, Nat.zero_add, Bool.true_and, Bool.and_true, Bool.false_and, Bool.and_false, Bool.true_or, Bool.or_true, Bool.false_or, Bool.or_false, Bool.not_true, Bool.not_false, Bool.false_eq_true, Bool.true_eq_false, reduceCtorEq, not_true_eq_false, not_false_eq_true, if_true, if_false, decide_true, decide_false]; simp; omega
          · have : decide ((0 : Int) < (o : Int)) = false := by simp; omega
            rw [this]; simp; omega
        · by_cases h4 : k.text = [93]
          · rw [h4]
            by_cases h5 : 0 < o
            · have : decide ((0 : Int) < (o : Int)) = true := by simp; omega
              rw [this]; simp (disch := omega) only [w64_ok, idx_ok, sl_ok, app_ok, chk_ok, if_pos, if_neg, bind1_some, bind2_some, bind3_some, bind4_some, bind5_some, bind1_none, bind2_none, bind3_none, decide_eq_true_eq, beq_iff_eq, bne_iff_ne, ne_eq, Bool.and_eq_true, Bool.or_eq_true, Bool.not_eq_true', Bool.not_eq_true, decide_eq_false_iff_not, beq_eq_false_iff_ne, bne_eq_false_iff_eq, Int.toNat_add, Int.toNat_natCast, Int.reduceToNat, Int.zero_add, Int.add_zero, Nat.add_zero, Nat.zero_add, Bool.true_and, Bool.and_true, Bool.false_and, Bool.and_false, Bool.true_or, Bool.or_true, Bool.false_or, Bool.or_false, Bool.not_true, Bool.not_false, Bool.false_eq_true, Bool.true_eq_false, reduceCtorEq, not_true_eq_false, not_false_eq_true, if_true, if_false, decide_true, decide_false]; simp; omega
            · have : decide ((0 : Int) < (o : Int)) = false := by simp; omega
              rw [this]; simp; omega
          · simp [h1, h2, h3, h4]
  · simp [hk]

def scan : Nat → Nat → Nat → Bool → Str → List ApiToken × Option (Nat × Int)
  | _, _, _, _, [] => ([], none)
  | k + 1, p, o, nl, _ :: r => scan k (p + 1) o nl r
  | 0, p, o, nl, c :: r =>
    if c.toNat = 32 ∨ c.toNat = 9 then scan 0 (p + 1) o nl r
    else if c.toNat = 35 then scan (span notNL r) (p + 1) o nl r
    else if c.toNat = 10 then (if o = 0 ∧ nl = false then (⟨5, [], p⟩ :: (scan 0 (p + 1) o true r).1, (scan 0 (p + 1) o true r).2) else scan 0 (p + 1) o nl r)
    else if (tokS (c :: r)).2.2.2 = 0 then
      (⟨(tokS (c :: r)).1, (tokS (c :: r)).2.1, p⟩ :: (scan ((tokS (c :: r)).2.2.1 - 1) (p + 1) (if (tokS (c :: r)).1 = 4 then opb (tokS (c :: r)).2.1 o else o) false r).1,
        (scan ((tokS (c :: r)).2.2.1 - 1) (p + 1) (if (tokS (c :: r)).1 = 4 then opb (tokS (c :: r)).2.1 o else o) false r).2)
    else ([], some (p, (tokS (c :: r)).2.2.2))
theorem scan_skip : ∀ (j a p o : Nat) (nl : Bool) (r : Str), j ≤ r.length → scan (a + j) p o nl r = scan a (p + j) o nl (r.drop j)
  | 0, a, p, o, nl, r, _ => rfl
  | j + 1, a, p, o, nl, [], h => by simp at h
  | j + 1, a, p, o, nl, c :: r, h => by
    rw [show a + (j + 1) = (a + j) + 1 from rfl, scan, scan_skip j a (p + 1) o nl r (by simpa using h), List.drop_succ_cons]
    rw [show p + 1 + j = p + (j + 1) from by omega]

/-- what the end of a scan means for the result -/
def fin (out : List ApiToken) (x : List ApiToken × Option (Nat × Int)) : List ApiToken × Int × Int :=
  match x.2 with
  | none => (out ++ x.1, 0, 0)
  | some (p, e) => ([], (p : Int), e)
def nlOf (out : List ApiToken) : Bool := match out.getLast? with | some t => t.kind == 5 | none => false
theorem nlOf_app (out : List ApiToken) (t : ApiToken) : nlOf (out ++ [t]) = (t.kind == 5) := by simp [nlOf]
theorem fin_cons (out : List ApiToken) (t : ApiToken) (x : List ApiToken × Option (Nat × Int)) : fin out (t :: x.1, x.2) = fin (out ++ [t]) x := by
  unfold fin
  cases x.2 <;> simp

/-! where a token ends -/
theorem txt_last : ∀ (N : Nat) (r b : Str) (m : Nat), r.length ≤ N → (txt 0 b m r).2.2 = 0 → m < (txt 0 b m r).2.1 ∧ (txt 0 b m r).2.1 ≤ m + r.length ∧ (r.getD ((txt 0 b m r).2.1 - m - 1) 0).toNat = 34
  | N, [], b, m, _, h => by simp [txt] at h
  | 0, c :: r, b, m, hN, h => by simp at hN
  | N + 1, c :: r, b, m, hN, h => by
    rw [txt_cons] at h ⊢
    by_cases h34 : c.toNat = 34
    · rw [if_pos h34] at h ⊢
      by_cases hl : 4096 < b.length
      · rw [if_pos hl] at h; simp at h
      · rw [if_neg hl]
        simp only [List.length_cons]
        refine ⟨by omega, by omega, ?_⟩
        rw [show m + 1 - m - 1 = 0 from by omega]
        exact h34
    · rw [if_neg h34] at h ⊢
      by_cases he : (chr (c :: r)).2.2 = 0
      · rw [if_pos he] at h ⊢
        obtain ⟨n1, n2⟩ := chr_n he
        generalize (chr (c :: r)).2.1 = n at n1 n2 h ⊢
        have hlen : ((c :: r).drop n).length = r.length + 1 - n := by simp
        have ih := txt_last N ((c :: r).drop n) (b ++ [(chr (c :: r)).1]) (m + n) (by rw [hlen]; simp at hN n2; omega) h
        rw [hlen] at ih
        simp only [List.length_cons] at n2 ⊢
        refine ⟨by omega, by omega, ?_⟩
        have h3 := ih.2.2
        rw [List.getD_eq_getElem?_getD, List.getElem?_drop] at h3
        rw [List.getD_eq_getElem?_getD]
        rw [show n + ((txt 0 (b ++ [(chr (c :: r)).1]) (m + n) ((c :: r).drop n)).2.1 - (m + n) - 1) = (txt 0 (b ++ [(chr (c :: r)).1]) (m + n) ((c :: r).drop n)).2.1 - m - 1 from by omega] at h3
        exact h3
      · rw [if_neg he] at h; exact absurd h he
theorem span_getD (p : UInt8 → Bool) (l : Str) {i : Nat} (h : i < span p l) : p (l.getD i 0) = true := by
  have h2 := span_le p l
  have := span_take p l (l.getD i 0) (by
    rw [List.mem_take_iff_getElem]
    exact ⟨i, by omega, by rw [List.getD_eq_getElem?_getD, List.getElem?_eq_getElem (by omega), Option.getD_some]⟩)
  exact this
theorem opn_le (l : Str) : opn l ≤ l.length := by
  match l with
  | [] => simp [opn]
  | [a] => simp only [opn]; split <;> simp
  | a :: b :: r => simp only [opn]; repeat' split
                   all_goals simp
theorem isOp_ascii {a : UInt8} (h : isOp [a] = true) : a.toNat < 128 := by
  simp only [isOp, Bool.or_eq_true, beq_iff_eq, List.cons.injEq, and_true, reduceCtorEq, and_false, false_or] at h
  have : a = 60 ∨ a = 62 ∨ a = 43 ∨ a = 45 ∨ a = 42 ∨ a = 47 ∨ a = 37 ∨ a = 33 ∨ a = 63 ∨ a = 58 ∨ a = 46 ∨ a = 44 ∨ a = 61 ∨ a = 40 ∨ a = 41 ∨ a = 91 ∨ a = 93 ∨ a = 123 ∨ a = 125 := h
  rcases this with rfl | rfl | rfl | rfl | rfl | rfl | rfl | rfl | rfl | rfl | rfl | rfl | rfl | rfl | rfl | rfl | rfl | rfl | rfl <;> decide
theorem isOp_ascii2 {a b : UInt8} (h : isOp [a, b] = true) : a.toNat < 128 ∧ b.toNat < 128 := by
  simp only [isOp, Bool.or_eq_true, beq_iff_eq, List.cons.injEq, and_true, reduceCtorEq, and_false, or_false] at h
  rcases h with ⟨rfl, rfl⟩ | ⟨rfl, rfl⟩ | ⟨rfl, rfl⟩ | ⟨rfl, rfl⟩ | ⟨rfl, rfl⟩ | ⟨rfl, rfl⟩ <;> decide
theorem tokS_last {c : UInt8} {r : Str} (h : (tokS (c :: r)).2.2.2 = 0) : 1 ≤ (tokS (c :: r)).2.2.1 ∧ (tokS (c :: r)).2.2.1 ≤ r.length + 1 ∧ ((c :: r).getD ((tokS (c :: r)).2.2.1 - 1) 0).toNat < 128 ∧ c.toNat < 128 := by
  simp only [tokS] at h ⊢
  by_cases hd : isDigit c = true
  · rw [if_pos hd] at h ⊢
    have hpos : 0 < span isDigit (c :: r) := by rw [span_cons, hd]; simp
    have hle := span_le isDigit (c :: r)
    have hg := span_getD isDigit (c :: r) (i := span isDigit (c :: r) - 1) (by omega)
    rw [isDigit_iff] at hd hg
    by_cases h1 : (1 < span isDigit (c :: r) ∧ c.toNat = 48) ∨ span isDigit (c :: r) < span isWord (c :: r)
    · rw [if_pos h1] at h; simp at h
    · rw [if_neg h1] at h ⊢
      by_cases h2 : MAXN < val ((c :: r).take (span isDigit (c :: r)))
      · rw [if_pos h2] at h; simp at h
      · rw [if_neg h2]
        simp only [List.length_cons] at hle
        have hg2 : ((c :: r).getD (span isDigit (c :: r) - 1) 0).toNat < 128 := by omega
        exact ⟨hpos, hle, hg2, by omega⟩
  · rw [if_neg hd] at h ⊢
    by_cases h34 : c.toNat = 34
    · rw [if_pos h34] at h ⊢
      by_cases he : (txt 0 [] 1 r).2.2 = 0
      · rw [if_pos he]
        obtain ⟨a1, a2, a3⟩ := txt_last r.length r [] 1 (Nat.le_refl _) he
        refine ⟨by simp only; omega, by simp only; omega, ?_, by omega⟩
        simp only
        obtain ⟨q, hq⟩ : ∃ q, (txt 0 [] 1 r).2.1 = q + 2 := ⟨(txt 0 [] 1 r).2.1 - 2, by omega⟩
        rw [hq] at a3 ⊢
        have a3 : (r.getD q 0).toNat = 34 := a3
        show ((c :: r).getD (q + 1) 0).toNat < 128
        rw [List.getD_cons_succ]; omega
      · rw [if_neg he] at h; exact absurd h he
    · rw [if_neg h34] at h ⊢
      by_cases hl : isLetter c = true
      · rw [if_pos hl] at h ⊢
        have hpos : 0 < span isWord (c :: r) := by rw [span_cons, isWord, hl]; simp
        have hle := span_le isWord (c :: r)
        have hg := span_getD isWord (c :: r) (i := span isWord (c :: r) - 1) (by omega)
        rw [isLetter_iff] at hl
        simp only [isWord, Bool.or_eq_true, isLetter_iff, isDigit_iff] at hg
        by_cases h2 : 64 < span isWord (c :: r)
        · rw [if_pos h2] at h; simp at h
        · rw [if_neg h2]
          simp only [List.length_cons] at hle
          have hg2 : ((c :: r).getD (span isWord (c :: r) - 1) 0).toNat < 128 := by omega
          exact ⟨hpos, hle, hg2, by omega⟩
      · rw [if_neg hl] at h ⊢
        have hle := opn_le (c :: r)
        by_cases h2 : opn (c :: r) = 0
        · rw [if_pos h2] at h; simp at h
        · rw [if_neg h2]
          simp only [List.length_cons] at hle
          refine ⟨by simp only; omega, hle, ?_⟩
          cases r with
          | nil =>
            simp only [opn] at h2 ⊢
            split
            · rename_i ho; exact ⟨isOp_ascii ho, isOp_ascii ho⟩
            · rename_i ho; simp [ho] at h2
          | cons b r =>
            simp only [opn] at h2 ⊢
            split
            · rename_i ho; exact ⟨(isOp_ascii2 ho).2, (isOp_ascii2 ho).1⟩
            · rename_i ho2
              split
              · rename_i ho; exact ⟨isOp_ascii ho, isOp_ascii ho⟩
              · rename_i ho; simp [ho, ho2] at h2
end Go.Ft

namespace Go.Ft
open Go
attribute [local congr] ite_c1

theorem last_kind (out : List ApiToken) (h : out ≠ []) : idx out (w64 ((out.length : Int) - 1)) = if h2 : out.length < 4611686018427387904 then some (out.getLast h) else idx out (w64 ((out.length : Int) - 1)) := by
  split
  · rename_i h2
    have hl : 0 < out.length := List.length_pos_iff.2 h
    rw [w64_ok (by omega) (by omega), show (out.length : Int) - 1 = ((out.length - 1 : Nat) : Int) from by omega, idxn (by omega)]
    congr 1
    exact (List.getLast_eq_getElem h).symm
  · rfl
theorem newline_cond (out : List ApiToken) (o : Nat) (h : out.length < 4611686018427387904) :
    (if (o : Int) = 0 then if (out.length : Int) = 0 then some true else bind1 (idx out ((out.length : Int) - 1)) fun e1 => some (e1.kind != 5) else some false) = some (decide (o = 0 ∧ nlOf out = false)) := by
  by_cases ho : o = 0
  · subst ho
    by_cases he : out = []
    · subst he; simp [nlOf]
    · have hl : 0 < out.length := List.length_pos_iff.2 he
      have hl2 : ¬ ((out.length : Int) = 0) := by omega
      have h1 := last_kind out he
      rw [dif_pos h, w64_ok (by omega) (by omega)] at h1
      rw [h1]
      simp [hl2, nlOf, List.getLast?_eq_some_getLast he]
      cases hk : (out.getLast he).kind == 5 <;> simp_all
  · have : ¬ (o : Int) = 0 := by omega
    simp [ho, this]

theorem bd_nl {s : Str} {p : Nat} (h : p < s.length) (hc : (s.getD p 0).toNat ≠ 10) : p + 1 + span notNL (s.drop (p + 1)) ≤ s.length ∧ Bd s (p + 1 + span notNL (s.drop (p + 1))) := by
  have hl := span_le notNL (s.drop (p + 1))
  rw [drop_len] at hl
  refine ⟨by omega, ?_⟩
  rcases Nat.lt_or_ge (p + 1 + span notNL (s.drop (p + 1))) s.length with h1 | h1
  · right; left
    have key : ∀ l : Str, span notNL l < l.length → (l.getD (span notNL l) 0).toNat = 10 := by
      intro l
      induction l with
      | nil => simp
      | cons c l ih =>
        rw [span_cons]
        cases hn : notNL c with
        | true => simp only [if_true, List.length_cons]; intro h2; rw [List.getD_cons_succ]; exact ih (by omega)
        | false => simp only [Bool.false_eq_true, if_false, List.length_cons]; intro _; simp [notNL] at hn; rw [List.getD_cons_zero]; omega
    have := key (s.drop (p + 1)) (by rw [drop_len]; omega)
    rw [List.getD_eq_getElem?_getD, List.getElem?_drop] at this
    rw [List.getD_eq_getElem?_getD]
    omega
  · left; omega
theorem span_nl {c : UInt8} (r : Str) (h : c.toNat ≠ 10) : span notNL (c :: r) = span notNL r + 1 := by
  rw [span_cons, if_pos]; simp [notNL]; omega

theorem tokS_kind (c : UInt8) (r : Str) : (tokS (c :: r)).1 ≠ 5 := by
  simp only [tokS]
  repeat' split
  all_goals simp
theorem ltokens_eq {s : Str} (hs : s.length ≤ 2147483648) : ∀ (k p nx o : Nat) (out : List ApiToken), s.length < k + p → p ≤ s.length → nx ≤ s.length → (p < nx → Bd s nx) → out.length ≤ p → o ≤ p →
    lexer_Tokens_l1 s k out (nx : Int) (o : Int) p = some (fin out (scan (nx - p) p o (nlOf out) (s.drop p)))
  | 0, p, nx, o, out, h, h', _, _, _, _ => by omega
  | k + 1, p, nx, o, out, h, hp, hnx, hb, hout, ho => by
    rw [lexer_Tokens_l1]
    by_cases hi : p < s.length
    · rw [if_pos (by simpa using hi)]
      by_cases hlt : p < nx
      · -- inside what has been read
        have hst := dec_step hlt hnx (hb hlt)
        have hpos : 1 ≤ (dec s p).2 := by
          rcases Nat.lt_or_ge (s.getD p 0).toNat 128 with hc | hc
          · rw [dec_lt hc]; exact Nat.le_refl _
          · exact (dec_ge hi hc).2.1
        simp (disch := omega) only [w64_ok, idx_ok, sl_ok, app_ok, chk_ok, if_pos, if_neg, bind1_some, bind2_some, bind3_some, bind4_some, bind5_some, bind1_none, bind2_none, bind3_none, decide_eq_true_eq, beq_iff_eq, bne_iff_ne, ne_eq, Bool.and_eq_true, Bool.or_eq_true, Bool.not_eq_true', Bool.not_eq_true, decide_eq_false_iff_not, beq_eq_false_iff_ne, bne_eq_false_iff_eq, Int.toNat_add, Int.toNat_natCast, Int.reduceToNat, Int.zero_add, Int.add_zero, Nat.add_zero, Nat.zero_add, Bool.true_and, Bool.and_true, Bool.false_and, Bool.and_false, Bool.true_or, Bool.or_true, Bool.false_or, Bool.or_false, Bool.not_true, Bool.not_false, Bool.false_eq_true, Bool.true_eq_false, reduceCtorEq, not_true_eq_false, not_false_eq_true, if_true, if_false, decide_true, decide_false]
        rw [ltokens_eq hs k (p + (dec s p).2) nx o out (by omega) (by omega) hnx (fun _ => hb hlt) (by omega) (by omega)]
        rw [show nx - p = (nx - (p + (dec s p).2)) + (dec s p).2 from by omega, scan_skip _ _ _ _ _ _ (by rw [drop_len]; omega), List.drop_drop]
      · have e0 : nx - p = 0 := by omega
        rw [e0]
        have hh := getD_drop hi
        rcases Nat.lt_or_ge (s.getD p 0).toNat 128 with hc | hc
        · rw [dec_lt hc]
          simp (disch := omega) only [blank_eq, w64_ok, idx_ok, sl_ok, app_ok, chk_ok, if_pos, if_neg, bind1_some, bind2_some, bind3_some, bind4_some, bind5_some, bind1_none, bind2_none, bind3_none, decide_eq_true_eq, beq_iff_eq, bne_iff_ne, ne_eq, Bool.and_eq_true, Bool.or_eq_true, Bool.not_eq_true', Bool.not_eq_true, decide_eq_false_iff_not, beq_eq_false_iff_ne, bne_eq_false_iff_eq, Int.toNat_add, Int.toNat_natCast, Int.reduceToNat, Int.zero_add, Int.add_zero, Nat.add_zero, Nat.zero_add, Bool.true_and, Bool.and_true, Bool.false_and, Bool.and_false, Bool.true_or, Bool.or_true, Bool.false_or, Bool.or_false, Bool.not_true, Bool.not_false, Bool.false_eq_true, Bool.true_eq_false, reduceCtorEq, not_true_eq_false, not_false_eq_true, if_true, if_false, decide_true, decide_false]
          by_cases hbl : (s.getD p 0).toNat = 32 ∨ (s.getD p 0).toNat = 9
          · have e1 : (((s.getD p 0).toNat : Int) == 32 || ((s.getD p 0).toNat : Int) == 9) = true := by simp only [Bool.or_eq_true, beq_iff_eq]; omega
            simp (disch := omega) only [e1, w64_ok, idx_ok, sl_ok, app_ok, chk_ok, if_pos, if_neg, bind1_some, bind2_some, bind3_some, bind4_some, bind5_some, bind1_none, bind2_none, bind3_none, decide_eq_true_eq, beq_iff_eq, bne_iff_ne, ne_eq, Bool.and_eq_true, Bool.or_eq_true, Bool.not_eq_true', Bool.not_eq_true, decide_eq_false_iff_not, beq_eq_false_iff_ne, bne_eq_false_iff_eq, Int.toNat_add, Int.toNat_natCast, Int.reduceToNat, Int.zero_add, Int.add_zero, Nat.add_zero, Nat.zero_add, Bool.true_and, Bool.and_true, Bool.false_and, Bool.and_false, Bool.true_or, Bool.or_true, Bool.false_or, Bool.or_false, Bool.not_true, Bool.not_false, Bool.false_eq_true, Bool.true_eq_false, reduceCtorEq, not_true_eq_false, not_false_eq_true, if_true, if_false, decide_true, decide_false]
            rw [ltokens_eq hs k (p + 1) nx o out (by omega) (by omega) hnx (fun h => by omega) (by omega) (by omega), hh, show nx - (p + 1) = 0 from by omega]
            rw [scan, if_pos hbl]
          · have e1 : (((s.getD p 0).toNat : Int) == 32 || ((s.getD p 0).toNat : Int) == 9) = false := by simp only [Bool.or_eq_false_iff, beq_eq_false_iff_ne]; omega
            simp (disch := omega) only [e1, w64_ok, idx_ok, sl_ok, app_ok, chk_ok, if_pos, if_neg, bind1_some, bind2_some, bind3_some, bind4_some, bind5_some, bind1_none, bind2_none, bind3_none, decide_eq_true_eq, beq_iff_eq, bne_iff_ne, ne_eq, Bool.and_eq_true, Bool.or_eq_true, Bool.not_eq_true', Bool.not_eq_true, decide_eq_false_iff_not, beq_eq_false_iff_ne, bne_eq_false_iff_eq, Int.toNat_add, Int.toNat_natCast, Int.reduceToNat, Int.zero_add, Int.add_zero, Nat.add_zero, Nat.zero_add, Bool.true_and, Bool.and_true, Bool.false_and, Bool.and_false, Bool.true_or, Bool.or_true, Bool.false_or, Bool.or_false, Bool.not_true, Bool.not_false, Bool.false_eq_true, Bool.true_eq_false, reduceCtorEq, not_true_eq_false, not_false_eq_true, if_true, if_false, decide_true, decide_false]
            by_cases h35 : (s.getD p 0).toNat = 35
            · simp (disch := omega) only [while_ok nl_eq (s := s) (by omega) hp, w64_ok, idx_ok, sl_ok, app_ok, chk_ok, if_pos, if_neg, bind1_some, bind2_some, bind3_some, bind4_some, bind5_some, bind1_none, bind2_none, bind3_none, decide_eq_true_eq, beq_iff_eq, bne_iff_ne, ne_eq, Bool.and_eq_true, Bool.or_eq_true, Bool.not_eq_true', Bool.not_eq_true, decide_eq_false_iff_not, beq_eq_false_iff_ne, bne_eq_false_iff_eq, Int.toNat_add, Int.toNat_natCast, Int.reduceToNat, Int.zero_add, Int.add_zero, Nat.add_zero, Nat.zero_add, Bool.true_and, Bool.and_true, Bool.false_and, Bool.and_false, Bool.true_or, Bool.or_true, Bool.false_or, Bool.or_false, Bool.not_true, Bool.not_false, Bool.false_eq_true, Bool.true_eq_false, reduceCtorEq, not_true_eq_false, not_false_eq_true, if_true, if_false, decide_true, decide_false]
              obtain ⟨b1, b2⟩ := bd_nl hi (by omega)
              rw [hh, span_nl _ (by omega)]
              rw [show p + (span notNL (s.drop (p + 1)) + 1) = p + 1 + span notNL (s.drop (p + 1)) from by omega]
              rw [ltokens_eq hs k (p + 1) _ o out (by omega) (by omega) b1 (fun _ => b2) (by omega) (by omega)]
              rw [show p + 1 + span notNL (s.drop (p + 1)) - (p + 1) = span notNL (s.drop (p + 1)) from by omega]
              rw [scan, if_neg hbl, if_pos h35]
            · by_cases h10 : (s.getD p 0).toNat = 10
              · simp (disch := omega) only [w64_ok, idx_ok, sl_ok, app_ok, chk_ok, if_pos, if_neg, bind1_some, bind2_some, bind3_some, bind4_some, bind5_some, bind1_none, bind2_none, bind3_none, decide_eq_true_eq, beq_iff_eq, bne_iff_ne, ne_eq, Bool.and_eq_true, Bool.or_eq_true, Bool.not_eq_true', Bool.not_eq_true, decide_eq_false_iff_not, beq_eq_false_iff_ne, bne_eq_false_iff_eq, Int.toNat_add, Int.toNat_natCast, Int.reduceToNat, Int.zero_add, Int.add_zero, Nat.add_zero, Nat.zero_add, Bool.true_and, Bool.and_true, Bool.false_and, Bool.and_false, Bool.true_or, Bool.or_true, Bool.false_or, Bool.or_false, Bool.not_true, Bool.not_false, Bool.false_eq_true, Bool.true_eq_false, reduceCtorEq, not_true_eq_false, not_false_eq_true, if_true, if_false, decide_true, decide_false]
                rw [newline_cond out o (by omega), hh, scan, if_neg hbl, if_neg h35, if_pos h10]
                by_cases hn : o = 0 ∧ nlOf out = false
                · have happ : app out [(⟨5, [], (p : Int)⟩ : ApiToken)] = some (out ++ [⟨5, [], (p : Int)⟩]) := app_ok (by simp [LIM]; omega)
                  have hd : decide (o = 0 ∧ nlOf out = false) = true := decide_eq_true hn
                  simp (disch := omega) only [hd, happ, w64_ok, idx_ok, sl_ok, app_ok, chk_ok, if_pos, if_neg, bind1_some, bind2_some, bind3_some, bind4_some, bind5_some, bind1_none, bind2_none, bind3_none, decide_eq_true_eq, beq_iff_eq, bne_iff_ne, ne_eq, Bool.and_eq_true, Bool.or_eq_true, Bool.not_eq_true', Bool.not_eq_true, decide_eq_false_iff_not, beq_eq_false_iff_ne, bne_eq_false_iff_eq, Int.toNat_add, Int.toNat_natCast, Int.reduceToNat, Int.zero_add, Int.add_zero, Nat.add_zero, Nat.zero_add, Bool.true_and, Bool.and_true, Bool.false_and, Bool.and_false, Bool.true_or, Bool.or_true, Bool.false_or, Bool.or_false, Bool.not_true, Bool.not_false, Bool.false_eq_true, Bool.true_eq_false, reduceCtorEq, not_true_eq_false, not_false_eq_true, if_true, if_false, decide_true, decide_false]
                  rw [ltokens_eq hs k (p + 1) nx o _ (by omega) (by omega) hnx (fun h => by omega) (by simp; omega) (by omega), show nx - (p + 1) = 0 from by omega, nlOf_app]
                  rw [fin_cons]
                  rfl
                · have hd : decide (o = 0 ∧ nlOf out = false) = false := decide_eq_false hn
                  simp (disch := omega) only [hd, w64_ok, idx_ok, sl_ok, app_ok, chk_ok, if_pos, if_neg, bind1_some, bind2_some, bind3_some, bind4_some, bind5_some, bind1_none, bind2_none, bind3_none, decide_eq_true_eq, beq_iff_eq, bne_iff_ne, ne_eq, Bool.and_eq_true, Bool.or_eq_true, Bool.not_eq_true', Bool.not_eq_true, decide_eq_false_iff_not, beq_eq_false_iff_ne, bne_eq_false_iff_eq, Int.toNat_add, Int.toNat_natCast, Int.reduceToNat, Int.zero_add, Int.add_zero, Nat.add_zero, Nat.zero_add, Bool.true_and, Bool.and_true, Bool.false_and, Bool.and_false, Bool.true_or, Bool.or_true, Bool.false_or, Bool.or_false, Bool.not_true, Bool.not_false, Bool.false_eq_true, Bool.true_eq_false, reduceCtorEq, not_true_eq_false, not_false_eq_true, if_true, if_false, decide_true, decide_false]
                  rw [ltokens_eq hs k (p + 1) nx o out (by omega) (by omega) hnx (fun h => by omega) (by omega) (by omega), show nx - (p + 1) = 0 from by omega]
              · simp (disch := omega) only [ltoken_ok hs hi, w64_ok, idx_ok, sl_ok, app_ok, chk_ok, if_pos, if_neg, bind1_some, bind2_some, bind3_some, bind4_some, bind5_some, bind1_none, bind2_none, bind3_none, decide_eq_true_eq, beq_iff_eq, bne_iff_ne, ne_eq, Bool.and_eq_true, Bool.or_eq_true, Bool.not_eq_true', Bool.not_eq_true, decide_eq_false_iff_not, beq_eq_false_iff_ne, bne_eq_false_iff_eq, Int.toNat_add, Int.toNat_natCast, Int.reduceToNat, Int.zero_add, Int.add_zero, Nat.add_zero, Nat.zero_add, Bool.true_and, Bool.and_true, Bool.false_and, Bool.and_false, Bool.true_or, Bool.or_true, Bool.false_or, Bool.or_false, Bool.not_true, Bool.not_false, Bool.false_eq_true, Bool.true_eq_false, reduceCtorEq, not_true_eq_false, not_false_eq_true, if_true, if_false, decide_true, decide_false]
                rw [hh, scan, if_neg hbl, if_neg h35, if_neg h10]
                by_cases he : (tokS (s.getD p 0 :: s.drop (p + 1))).2.2.2 = 0
                · obtain ⟨n1, n2, n3, n4⟩ := tokS_last he
                  rw [drop_len] at n2
                  rw [if_pos he]
                  have hbd : Bd s (p + (tokS (s.getD p 0 :: s.drop (p + 1))).2.2.1) := by
                    right; right
                    refine ⟨by omega, ?_⟩
                    rw [← hh, List.getD_eq_getElem?_getD, List.getElem?_drop] at n3
                    rw [List.getD_eq_getElem?_getD, ← hh]
                    rw [← hh] at n1
                    rw [show p + (tokS (s.drop p)).2.2.1 - 1 = p + ((tokS (s.drop p)).2.2.1 - 1) from by omega]
                    exact n3
                  have h5 := tokS_kind (s.getD p 0) (s.drop (p + 1))
                  generalize tokS (s.getD p 0 :: s.drop (p + 1)) = t at he n1 n2 hbd h5 ⊢
                  have happ : app out [(⟨t.1, t.2.1, (p : Int)⟩ : ApiToken)] = some (out ++ [⟨t.1, t.2.1, (p : Int)⟩]) := app_ok (by simp [LIM]; omega)
                  have hopb : opb t.2.1 o ≤ o + 1 := by unfold opb; repeat' split
                                                        all_goals omega
                  have ek : ((t.1 : Int) == 5) = false := beq_eq_false_iff_ne.2 h5
                  simp only [ltk, he, if_true]
                  simp (disch := omega) only [w64_ok, idx_ok, sl_ok, app_ok, chk_ok, if_pos, if_neg, bind1_some, bind2_some, bind3_some, bind4_some, bind5_some, bind1_none, bind2_none, bind3_none, decide_eq_true_eq, beq_iff_eq, bne_iff_ne, ne_eq, Bool.and_eq_true, Bool.or_eq_true, Bool.not_eq_true', Bool.not_eq_true, decide_eq_false_iff_not, beq_eq_false_iff_ne, bne_eq_false_iff_eq, Int.toNat_add, Int.toNat_natCast, Int.reduceToNat, Int.zero_add, Int.add_zero, Nat.add_zero, Nat.zero_add, Bool.true_and, Bool.and_true, Bool.false_and, Bool.and_false, Bool.true_or, Bool.or_true, Bool.false_or, Bool.or_false, Bool.not_true, Bool.not_false, Bool.false_eq_true, Bool.true_eq_false, reduceCtorEq, not_true_eq_false, not_false_eq_true, if_true, if_false, decide_true, decide_false]
                  by_cases hk : t.1 = 4
                  · simp (disch := omega) only [hk, brackets_eq _ _ (by omega : o < 4611686018427387904), w64_ok, idx_ok, sl_ok, app_ok, chk_ok, if_pos, if_neg, bind1_some, bind2_some, bind3_some, bind4_some, bind5_some, bind1_none, bind2_none, bind3_none, decide_eq_true_eq, beq_iff_eq, bne_iff_ne, ne_eq, Bool.and_eq_true, Bool.or_eq_true, Bool.not_eq_true', Bool.not_eq_true, decide_eq_false_iff_not, beq_eq_false_iff_ne, bne_eq_false_iff_eq, Int.toNat_add, Int.toNat_natCast, Int.reduceToNat, Int.zero_add, Int.add_zero, Nat.add_zero, Nat.zero_add, Bool.true_and, Bool.and_true, Bool.false_and, Bool.and_false, Bool.true_or, Bool.or_true, Bool.false_or, Bool.or_false, Bool.not_true, Bool.not_false, Bool.false_eq_true, Bool.true_eq_false, reduceCtorEq, not_true_eq_false, not_false_eq_true, if_true, if_false, decide_true, decide_false]
                    rw [hk] at happ
                    simp (disch := omega) only [happ, w64_ok, idx_ok, sl_ok, app_ok, chk_ok, if_pos, if_neg, bind1_some, bind2_some, bind3_some, bind4_some, bind5_some, bind1_none, bind2_none, bind3_none, decide_eq_true_eq, beq_iff_eq, bne_iff_ne, ne_eq, Bool.and_eq_true, Bool.or_eq_true, Bool.not_eq_true', Bool.not_eq_true, decide_eq_false_iff_not, beq_eq_false_iff_ne, bne_eq_false_iff_eq, Int.toNat_add, Int.toNat_natCast, Int.reduceToNat, Int.zero_add, Int.add_zero, Nat.add_zero, Nat.zero_add, Bool.true_and, Bool.and_true, Bool.false_and, Bool.and_false, Bool.true_or, Bool.or_true, Bool.false_or, Bool.or_false, Bool.not_true, Bool.not_false, Bool.false_eq_true, Bool.true_eq_false, reduceCtorEq, not_true_eq_false, not_false_eq_true, if_true, if_false, decide_true, decide_false]
                    rw [ltokens_eq hs k (p + 1) _ (opb t.2.1 o) _ (by omega) (by omega) (by omega) (fun _ => hbd) (by simp; omega) (by omega), nlOf_app, fin_cons]
                    rw [show p + t.2.2.1 - (p + 1) = t.2.2.1 - 1 from by omega]
                    rfl
                  · simp (disch := omega) only [hk, happ, w64_ok, idx_ok, sl_ok, app_ok, chk_ok, if_pos, if_neg, bind1_some, bind2_some, bind3_some, bind4_some, bind5_some, bind1_none, bind2_none, bind3_none, decide_eq_true_eq, beq_iff_eq, bne_iff_ne, ne_eq, Bool.and_eq_true, Bool.or_eq_true, Bool.not_eq_true', Bool.not_eq_true, decide_eq_false_iff_not, beq_eq_false_iff_ne, bne_eq_false_iff_eq, Int.toNat_add, Int.toNat_natCast, Int.reduceToNat, Int.zero_add, Int.add_zero, Nat.add_zero, Nat.zero_add, Bool.true_and, Bool.and_true, Bool.false_and, Bool.and_false, Bool.true_or, Bool.or_true, Bool.false_or, Bool.or_false, Bool.not_true, Bool.not_false, Bool.false_eq_true, Bool.true_eq_false, reduceCtorEq, not_true_eq_false, not_false_eq_true, if_true, if_false, decide_true, decide_false]
                    rw [ltokens_eq hs k (p + 1) _ o _ (by omega) (by omega) (by omega) (fun _ => hbd) (by simp; omega) (by omega), nlOf_app, fin_cons]
                    rw [show p + t.2.2.1 - (p + 1) = t.2.2.1 - 1 from by omega]
                    rw [ek]
                · rw [if_neg he]
                  simp only [ltk, he, if_false]
                  simp (disch := omega) only [he, w64_ok, idx_ok, sl_ok, app_ok, chk_ok, if_pos, if_neg, bind1_some, bind2_some, bind3_some, bind4_some, bind5_some, bind1_none, bind2_none, bind3_none, decide_eq_true_eq, beq_iff_eq, bne_iff_ne, ne_eq, Bool.and_eq_true, Bool.or_eq_true, Bool.not_eq_true', Bool.not_eq_true, decide_eq_false_iff_not, beq_eq_false_iff_ne, bne_eq_false_iff_eq, Int.toNat_add, Int.toNat_natCast, Int.reduceToNat, Int.zero_add, Int.add_zero, Nat.add_zero, Nat.zero_add, Bool.true_and, Bool.and_true, Bool.false_and, Bool.and_false, Bool.true_or, Bool.or_true, Bool.false_or, Bool.or_false, Bool.not_true, Bool.not_false, Bool.false_eq_true, Bool.true_eq_false, reduceCtorEq, not_true_eq_false, not_false_eq_true, if_true, if_false, decide_true, decide_false]
                  rfl
        · -- a character that is not of ASCII
          obtain ⟨g1, _⟩ := dec_ge hi hc
          have e1 : (((dec s p).1 : Int) == 32 || ((dec s p).1 : Int) == 9) = false := by simp only [Bool.or_eq_false_iff, beq_eq_false_iff_ne]; omega
          have he : (tokS (s.getD p 0 :: s.drop (p + 1))).2.2.2 ≠ 0 := fun he => by have := (tokS_last he).2.2.2; omega
          simp (disch := omega) only [blank_eq, e1, ltoken_ok hs hi, w64_ok, idx_ok, sl_ok, app_ok, chk_ok, if_pos, if_neg, bind1_some, bind2_some, bind3_some, bind4_some, bind5_some, bind1_none, bind2_none, bind3_none, decide_eq_true_eq, beq_iff_eq, bne_iff_ne, ne_eq, Bool.and_eq_true, Bool.or_eq_true, Bool.not_eq_true', Bool.not_eq_true, decide_eq_false_iff_not, beq_eq_false_iff_ne, bne_eq_false_iff_eq, Int.toNat_add, Int.toNat_natCast, Int.reduceToNat, Int.zero_add, Int.add_zero, Nat.add_zero, Nat.zero_add, Bool.true_and, Bool.and_true, Bool.false_and, Bool.and_false, Bool.true_or, Bool.or_true, Bool.false_or, Bool.or_false, Bool.not_true, Bool.not_false, Bool.false_eq_true, Bool.true_eq_false, reduceCtorEq, not_true_eq_false, not_false_eq_true, if_true, if_false, decide_true, decide_false]
          rw [hh, scan, if_neg (by omega), if_neg (by omega), if_neg (by omega), if_neg he]
          simp only [ltk, he, if_false]
          simp (disch := omega) only [he, w64_ok, idx_ok, sl_ok, app_ok, chk_ok, if_pos, if_neg, bind1_some, bind2_some, bind3_some, bind4_some, bind5_some, bind1_none, bind2_none, bind3_none, decide_eq_true_eq, beq_iff_eq, bne_iff_ne, ne_eq, Bool.and_eq_true, Bool.or_eq_true, Bool.not_eq_true', Bool.not_eq_true, decide_eq_false_iff_not, beq_eq_false_iff_ne, bne_eq_false_iff_eq, Int.toNat_add, Int.toNat_natCast, Int.reduceToNat, Int.zero_add, Int.add_zero, Nat.add_zero, Nat.zero_add, Bool.true_and, Bool.and_true, Bool.false_and, Bool.and_false, Bool.true_or, Bool.or_true, Bool.false_or, Bool.or_false, Bool.not_true, Bool.not_false, Bool.false_eq_true, Bool.true_eq_false, reduceCtorEq, not_true_eq_false, not_false_eq_true, if_true, if_false, decide_true, decide_false]
          rfl
    · have e : p = s.length := by omega
      subst e
      rw [if_neg (by simp)]
      rw [List.drop_eq_nil_of_le (Nat.le_refl _)]
      cases hz : nx - s.length <;> simp [scan, fin]
end Go.Ft

namespace Go.Ft
open Go
attribute [local congr] ite_c1

theorem ltokens_ok {s : Str} (hs : s.length ≤ 65536) : lexer_Tokens s = some (fin [] (scan 0 0 0 false s)) := by
  unfold lexer_Tokens
  rw [if_neg (by simp; omega)]
  have := ltokens_eq (s := s) (by omega) BIG 0 0 0 [] (by simp only [BIG]; omega) (by omega) (by omega) (fun h => by omega) (by simp) (by omega)
  exact this

/-- blanks and comments -/
def ign : Bool → Str → Nat
  | _, [] => 0
  | cm, c :: r => if c.toNat ≠ 10 ∧ (cm = true ∨ c.toNat = 32 ∨ c.toNat = 9 ∨ c.toNat = 35) then ign (cm || c.toNat == 35) r + 1 else 0
theorem ign_le : ∀ (cm : Bool) (l : Str), ign cm l ≤ l.length
  | _, [] => Nat.le_refl 0
  | cm, c :: r => by
    rw [ign]
    split
    · have := ign_le (cm || c.toNat == 35) r; simp only [List.length_cons]; omega
    · exact Nat.zero_le _
theorem ignored_eq {s : Str} (hs : s.length ≤ 2147483648) : ∀ (k i : Nat) (cm : Bool), s.length < k + i → i ≤ s.length →
    r09_ignored_l1 s k (i : Int) cm = some ((i + ign cm (s.drop i) : Nat) : Int)
  | 0, i, cm, h, h' => by omega
  | k + 1, i, cm, h, h' => by
    rw [r09_ignored_l1]
    by_cases hi : i < s.length
    · have hh := getD_drop hi
      have hx : idx s (i : Int) = some (s.getD i 0) := by
        rw [idxn hi, List.getD_eq_getElem?_getD, List.getElem?_eq_getElem hi]; rfl
      rw [hh, ign]
      have hc : (decide ((i : Int) < (s.length : Int))) = true := by simp; omega
      simp only [hc, if_true, hx, bind1_some]
      generalize s.getD i 0 = c
      by_cases h10 : c.toNat = 10
      · have e : ((c.toNat : Int) != 10) = false := by simp; omega
        simp [e, h10]
      · have e : ((c.toNat : Int) != 10) = true := by simp; omega
        have e35 : ((c.toNat : Int) == 35) = (c.toNat == 35) := by
          by_cases h : c.toNat = 35
          · simp [h]
          · have h2 : ¬ (c.toNat : Int) = 35 := by omega
            rw [beq_eq_false_iff_ne.2 h, beq_eq_false_iff_ne.2 h2]
        have go : ∀ cm', r09_ignored_l1 s k (w64 ((i : Int) + 1)) cm' = some ((i + (ign cm' (s.drop (i + 1)) + 1) : Nat) : Int) := by
          intro cm'
          rw [w64_ok (by omega) (by omega)]
          have := ignored_eq hs k (i + 1) cm' (by omega) (by omega)
          rw [show (i : Int) + 1 = ((i + 1 : Nat) : Int) from by omega, this]
          congr 2; omega
        simp only [e, if_true, e35, h10, ne_eq, not_false_eq_true, true_and]
        cases cm with
        | true => simp [go]
        | false =>
          by_cases h32 : c.toNat = 32
          · have h2 : (c.toNat == 35) = false := by simp [h32]
            simp [h32, go]
          · have h32' : ((c.toNat : Int) == 32) = false := by simp; omega
            by_cases h9 : c.toNat = 9
            · simp [h9, go]
            · have h9' : ((c.toNat : Int) == 9) = false := by simp; omega
              simp only [h32', h9', Bool.false_eq_true, if_false, bind1_some, h32, h9, false_or, Bool.false_or]
              cases hb : (c.toNat == 35) with
              | true => simp [go]; simp at hb; simp [hb]
              | false => simp at hb; simp [hb]
    · have hc : (decide ((i : Int) < (s.length : Int))) = false := by simp; omega
      rw [List.drop_eq_nil_of_le (by omega)]
      simp only [hc, Bool.false_eq_true, if_false, bind1_some, ign, Nat.add_zero]
theorem ignored_ok {s : Str} (hs : s.length ≤ 65536) {i : Nat} (h : i ≤ s.length) : r09_ignored s (i : Int) = some ((i + ign false (s.drop i) : Nat) : Int) :=
  ignored_eq (by omega) BIG i false (by simp only [BIG]; omega) h
theorem ign_true (l : Str) : ign true l = span notNL l := by
  induction l with
  | nil => rfl
  | cons c r ih =>
    rw [ign, span_cons]
    by_cases h : c.toNat = 10
    · simp [h, notNL]
    · have : ¬ (c.toNat : Int) = 10 := by omega
      simp [h, notNL, this, ih]
theorem ign_idem : ∀ (l : Str) (cm : Bool), ign false (l.drop (ign cm l)) = 0
  | [], cm => by cases cm <;> rfl
  | c :: r, cm => by
    rw [ign]
    split
    · rw [List.drop_succ_cons]; exact ign_idem r _
    · rename_i h
      rw [List.drop_zero, ign, if_neg]
      intro h2
      apply h
      exact ⟨h2.1, by cases h2.2 with | inl h => cases h | inr h => exact Or.inr h⟩
theorem scan_ign : ∀ (l : Str) (p o : Nat) (nl : Bool), scan 0 p o nl l = scan 0 (p + ign false l) o nl (l.drop (ign false l))
  | [], p, o, nl => rfl
  | c :: r, p, o, nl => by
    rw [ign]
    split
    · rename_i h
      by_cases h35 : c.toNat = 35
      · rw [scan, if_neg (by omega), if_pos h35, List.drop_succ_cons]
        simp only [h35, beq_self_eq_true, Bool.or_true]
        rw [ign_true]
        have := scan_skip (span notNL r) 0 (p + 1) o nl r (span_le _ _)
        rw [Nat.zero_add] at this
        rw [this]
        rw [show p + 1 + span notNL r = p + (span notNL r + 1) from by omega]
      · have hb : (c.toNat == 35) = false := by simp [h35]
        rw [scan, if_pos (by obtain ⟨_, h⟩ := h; rcases h with h | h | h | h <;> simp_all), List.drop_succ_cons, hb]
        rw [scan_ign r]
        simp only [Bool.or_false]
        rw [show p + 1 + ign false r = p + (ign false r + 1) from by omega]
    · rfl

theorem newline_cond2 (out : List ApiToken) (o : Nat) (h : out.length < 4611686018427387904) :
    (if ((o : Int) == 0) = true then if ((out.length : Int) == 0) = true then some true else bind1 (idx out (w64 ((out.length : Int) - 1))) fun e1 => some (e1.kind != 5) else some false) = some (decide (o = 0 ∧ nlOf out = false)) := by
  by_cases ho : o = 0
  · subst ho
    by_cases he : out = []
    · subst he; simp [nlOf]
    · have hl : 0 < out.length := List.length_pos_iff.2 he
      have hl2 : ¬ ((out.length : Int) = 0) := by omega
      have h1 := last_kind out he
      rw [dif_pos h] at h1
      rw [h1]
      simp [hl2, nlOf, List.getLast?_eq_some_getLast he]
      cases hk : (out.getLast he).kind == 5 <;> simp_all
  · have : ¬ (o : Int) = 0 := by omega
    simp [ho, this]

theorem rtokens_eq {s : Str} (hs : s.length ≤ 65536) : ∀ (k p o : Nat) (out : List ApiToken), s.length < k + p → p ≤ s.length → ign false (s.drop p) = 0 → out.length ≤ p → o ≤ p →
    r09_Tokens_l1 s k out (o : Int) (p : Int) = some (fin out (scan 0 p o (nlOf out) (s.drop p)))
  | 0, p, o, out, h, h', _, _, _ => by omega
  | k + 1, p, o, out, h, hp, hg, hout, ho => by
    rw [r09_Tokens_l1]
    by_cases hi : p < s.length
    · have hh := getD_drop hi
      have hx : idx s (p : Int) = some (s.getD p 0) := by
        rw [idxn hi, List.getD_eq_getElem?_getD, List.getElem?_eq_getElem hi]; rfl
      have hc : (decide ((p : Int) < (s.length : Int))) = true := by simp; omega
      have step : ∀ (q : Nat) (o' : Nat) (out' : List ApiToken), p < q → q ≤ s.length → out'.length ≤ q → o' ≤ q →
          bind1 (r09_ignored s (q : Int)) (fun at3 => r09_Tokens_l1 s k out' (o' : Int) at3) = some (fin out' (scan 0 q o' (nlOf out') (s.drop q))) := by
        intro q o' out' h1 h2 h3 h4
        have hle := ign_le false (s.drop q)
        rw [drop_len] at hle
        rw [ignored_ok hs h2, bind1_some]
        rw [rtokens_eq hs k (q + ign false (s.drop q)) o' out' (by omega) (by omega) (by rw [← List.drop_drop]; exact ign_idem _ _) (by omega) (by omega)]
        rw [scan_ign (s.drop q), List.drop_drop]
      rw [hh, ign] at hg
      simp only [hc, if_true, hx, bind1_some]
      by_cases h10 : (s.getD p 0).toNat = 10
      · have e : (((s.getD p 0).toNat : Int) != 10) = false := bne_eq_false_iff_eq.2 (by omega)
        have e5 : ((5 : Int) != 5) = false := rfl
        have eop : r09_opened (o : Int) (⟨5, [], (p : Int)⟩ : ApiToken) = some (o : Int) := by
          rw [opened_eq _ _ (by omega)]; simp
        simp only [e, e5, Bool.false_eq_true, if_false, eop, bind1_some]
        rw [newline_cond2 out o (by omega), bind1_some]
        conv => rhs; rw [hh, scan, if_neg (by omega), if_neg (by omega), if_pos h10]
        have w1 : w64 ((p : Int) + 1) = ((p + 1 : Nat) : Int) := by rw [w64_ok (by omega) (by omega)]; omega
        by_cases hn : o = 0 ∧ nlOf out = false
        · have happ : app out [(⟨5, [], (p : Int)⟩ : ApiToken)] = some (out ++ [⟨5, [], (p : Int)⟩]) := app_ok (by simp [LIM]; omega)
          rw [decide_eq_true hn, if_pos rfl, happ, bind1_some, w1]
          rw [step (p + 1) o _ (by omega) (by omega) (by simp; omega) (by omega), nlOf_app, if_pos hn, fin_cons]
          rfl
        · rw [decide_eq_false hn, if_neg Bool.false_ne_true, w1]
          rw [step (p + 1) o _ (by omega) (by omega) (by omega) (by omega), if_neg hn]
      · have e : (((s.getD p 0).toNat : Int) != 10) = true := bne_iff_ne.2 (by omega)
        simp only [e, if_true]
        have hbl : ¬ ((s.getD p 0).toNat = 32 ∨ (s.getD p 0).toNat = 9) := fun h => by
          rw [if_pos ⟨h10, by omega⟩] at hg; omega
        have h35 : ¬ (s.getD p 0).toNat = 35 := fun h => by
          rw [if_pos ⟨h10, by omega⟩] at hg; omega
        rw [rtoken_ok (by omega) hi, hh, scan, if_neg hbl, if_neg h35, if_neg h10]
        by_cases he : (tokS (s.getD p 0 :: s.drop (p + 1))).2.2.2 = 0
        · obtain ⟨n1, n2, n3, n4⟩ := tokS_last he
          have h5 := tokS_kind (s.getD p 0) (s.drop (p + 1))
          rw [drop_len] at n2
          rw [if_pos he]
          generalize tokS (s.getD p 0 :: s.drop (p + 1)) = t at he n1 n2 h5 ⊢
          have happ : app out [(⟨t.1, t.2.1, (p : Int)⟩ : ApiToken)] = some (out ++ [⟨t.1, t.2.1, (p : Int)⟩]) := app_ok (by simp [LIM]; omega)
          have hopb : opb t.2.1 o ≤ o + 1 := by unfold opb; repeat' split
                                                all_goals omega
          have ek : ((t.1 : Int) == 5) = false := beq_eq_false_iff_ne.2 h5
          have ek2 : ((t.1 : Int) != 5) = true := bne_iff_ne.2 h5
          have w1 : w64 ((p : Int) + (t.2.2.1 : Int)) = ((p + t.2.2.1 : Nat) : Int) := by rw [w64_ok (by omega) (by omega)]; omega
          simp only [rtk, he, if_true, bind3_some, ek2, bind1_some, happ, opened_eq _ _ (by omega : o < 4611686018427387904), w1]
          have e00 : ((0 : Int) != 0) = false := rfl
          simp only [e00, Bool.false_eq_true, if_false]
          rw [step (p + t.2.2.1) _ _ (by omega) (by omega) (by simp; omega) (by split <;> omega), nlOf_app, fin_cons, ek]
          have hsk := scan_skip (t.2.2.1 - 1) 0 (p + 1) (if t.1 = 4 then opb t.2.1 o else o) false (s.drop (p + 1)) (by rw [drop_len]; omega)
          rw [Nat.zero_add] at hsk
          rw [hsk, List.drop_drop, show p + 1 + (t.2.2.1 - 1) = p + t.2.2.1 from by omega]
        · rw [if_neg he]
          have e00 : ((tokS (s.getD p 0 :: s.drop (p + 1))).2.2.2 != 0) = true := bne_iff_ne.2 he
          simp only [rtk, he, if_false, bind3_some, e00, if_true]
          rfl
    · have e : p = s.length := by omega
      subst e
      rw [List.drop_eq_nil_of_le (Nat.le_refl _)]
      simp [scan, fin]
theorem rtokens_ok {s : Str} (hs : s.length ≤ 65536) : r09_Tokens s = some (fin [] (scan 0 0 0 false s)) := by
  unfold r09_Tokens
  rw [if_neg (by simp; omega), show (0 : Int) = ((0 : Nat) : Int) from rfl, ignored_ok hs (Nat.zero_le _), bind1_some]
  have hle := ign_le false (s.drop 0)
  rw [drop_len] at hle
  rw [rtokens_eq hs BIG _ 0 [] (by simp only [BIG]; omega) (by omega) (by rw [← List.drop_drop]; exact ign_idem _ _) (by simp) (by omega)]
  rw [← List.drop_drop, List.drop_zero]
  have := scan_ign s 0 0 false
  rw [this]
  rfl
theorem tokens_same (s : Str) : r09_Tokens s = lexer_Tokens s := by
  rcases Nat.lt_or_ge 65536 s.length with h | h
  · unfold r09_Tokens lexer_Tokens; rw [if_pos (by simp; omega), if_pos (by simp; omega)]
  · rw [ltokens_ok h, rtokens_ok h]
theorem scan_len : ∀ (l : Str) (k p o : Nat) (nl : Bool), (scan k p o nl l).1.length ≤ l.length
  | [], k, p, o, nl => by cases k <;> simp [scan]
  | c :: r, k + 1, p, o, nl => by rw [scan]; have := scan_len r k (p + 1) o nl; simp only [List.length_cons]; omega
  | c :: r, 0, p, o, nl => by
    have h1 := scan_len r
    rw [scan]
    repeat' split
    all_goals simp only [List.length_cons, List.length_nil]
    all_goals first | omega | (have := h1 0 (p + 1) o nl; omega) | (have := h1 0 (p + 1) o true; omega) | (have := h1 (span notNL r) (p + 1) o nl; omega) | skip
    all_goals (have := h1 ((tokS (c :: r)).2.2.1 - 1) (p + 1) (if (tokS (c :: r)).1 = 4 then opb (tokS (c :: r)).2.1 o else o) false; simp_all)
theorem fin_len (l : Str) : (fin [] (scan 0 0 0 false l)).1.length ≤ l.length := by
  have := scan_len l 0 0 0 false
  unfold fin
  split <;> simp_all
theorem ltokens_some (s : Str) : ∃ l a e, lexer_Tokens s = some (l, a, e) ∧ l.length ≤ 65536 := by
  rcases Nat.lt_or_ge 65536 s.length with h | h
  · unfold lexer_Tokens
    rw [if_pos (by simp; omega)]
    exact ⟨_, _, _, rfl, by simp⟩
  · rw [ltokens_ok h]
    have := fin_len s
    exact ⟨(fin [] (scan 0 0 0 false s)).1, (fin [] (scan 0 0 0 false s)).2.1, (fin [] (scan 0 0 0 false s)).2.2, rfl, by omega⟩

/-- what Same looks at -/
def key (at? : Bool) (t : ApiToken) : Int × Str × Int := (t.kind, t.text, if at? then t.at_ else 0)
theorem same_eq {a b : List ApiToken} {at? : Bool} (h : a.map (key at?) = b.map (key at?)) (hl : a.length ≤ 4294967296) : ∀ (k i : Nat), a.length < k + i → i ≤ a.length →
    r09_Same_l1 a b at? k (i : Int) = some true
  | 0, i, _, _ => by omega
  | k + 1, i, h1, h2 => by
    have hlen : a.length = b.length := by have := congrArg List.length h; simpa using this
    rw [r09_Same_l1]
    by_cases hi : i < a.length
    · have hk : key at? (a[i]) = key at? (b[i]'(by omega)) := by
        have h3 := congrArg (fun l => l[i]?) h
        simp only [List.getElem?_map, List.getElem?_eq_getElem hi, List.getElem?_eq_getElem (by omega : i < b.length), Option.map_some, Option.some.injEq] at h3
        exact h3
      simp only [key, Prod.mk.injEq] at hk
      have hc : (decide ((i : Int) < (a.length : Int))) = true := by simp; omega
      rw [if_pos hc]
      have w1 : w64 ((i : Int) + 1) = ((i + 1 : Nat) : Int) := by rw [w64_ok (by omega) (by omega)]; omega
      simp only [idxn hi, idxn (show i < b.length by omega), bind1_some, hk.1, bne_self_eq_false, Bool.false_eq_true, if_false, hk.2.1, beq_self_eq_true, Bool.not_true, w1]
      have ih := same_eq h hl k (i + 1) (by omega) (by omega)
      cases at? with
      | false => simp only [Bool.false_eq_true, if_false, bind1_some]; exact ih
      | true =>
        have := hk.2.2
        simp only [if_true] at this
        simp only [if_true, bind1_some, this, bne_self_eq_false, Bool.false_eq_true, if_false]
        exact ih
    · have hc : (decide ((i : Int) < (a.length : Int))) = false := by simp; omega
      rw [if_neg (by rw [hc]; exact Bool.false_ne_true)]
theorem same_ok {a b : List ApiToken} {at? : Bool} (h : a.map (key at?) = b.map (key at?)) (hl : a.length ≤ 4294967296) : r09_Same a b at? = some true := by
  have hlen : a.length = b.length := by have := congrArg List.length h; simpa using this
  unfold r09_Same
  rw [if_neg (by simp [hlen])]
  exact same_eq h hl BIG 0 (by simp only [BIG]; omega) (Nat.zero_le _)

theorem awake_ok : l09_awake = some true := by decide +kernel

theorem plain_LexerTokens (s : Str) : l09_LexerTokens s = some true := by
  unfold l09_LexerTokens
  split
  · exact awake_ok
  · obtain ⟨l, a, e, h, hl⟩ := ltokens_some s
    rw [tokens_same, h]
    simp only [bind3_some]
    rw [same_ok rfl (by omega)]
    simp only [bind1_some, beq_self_eq_true, Bool.and_self, if_true]
    exact awake_ok
end Go.Ft

namespace Go.Ft
open Go
attribute [local congr] ite_c1

def HEX : Str := [48, 49, 50, 51, 52, 53, 54, 55, 56, 57, 97, 98, 99, 100, 101, 102]
def hexd (n : Nat) : UInt8 := HEX.getD n 0
theorem hex_sl : ∀ n, n < 16 → sl HEX ((n : Nat) : Int) ((n + 1 : Nat) : Int) = some [hexd n] := by decide
theorem hex_idx : ∀ n, n < 16 → idx HEX ((n : Nat) : Int) = some (hexd n) := by decide
/-- how a character is quoted -/
def chq (c : UInt8) : Str :=
  if c.toNat = 34 then [92, 34] else if c.toNat = 92 then [92, 92] else if c.toNat = 10 then [92, 110] else if c.toNat = 9 then [92, 116]
  else if 32 ≤ c.toNat ∧ c.toNat ≤ 126 then [c] else [92, 120, hexd (c.toNat / 16), hexd (c.toNat % 16)]
theorem chq_len (c : UInt8) : (chq c).length ≤ 4 := by
  unfold chq
  repeat' split
  all_goals simp
def quo (s : Str) : Str := 34 :: (s.flatMap chq ++ [34])
theorem flat_len (s : Str) : (s.flatMap chq).length ≤ 4 * s.length := by
  induction s with
  | nil => simp
  | cons c r ih => have := chq_len c; simp only [List.flatMap_cons, List.length_append, List.length_cons]; omega
theorem quo_len (s : Str) : (quo s).length ≤ 4 * s.length + 2 := by
  have := flat_len s
  simp only [quo, List.length_cons, List.length_append, List.length_nil]; omega
theorem byte_div (c : UInt8) : (c / 16).toNat = c.toNat / 16 := by rw [UInt8.toNat_div]; rfl
theorem byte_mod (c : UInt8) : (c % 16).toNat = c.toNat % 16 := by rw [UInt8.toNat_mod]; rfl
theorem byte_add1 {c : UInt8} (h : c.toNat < 255) : (c + 1).toNat = c.toNat + 1 := by
  rw [UInt8.toNat_add]
  have : (1 : UInt8).toNat = 1 := rfl
  omega
theorem rchar_ok (c : UInt8) : r07_character c = some (chq c) := by
  have hc := c.toNat_lt
  unfold r07_character chq
  by_cases h1 : c.toNat = 34
  · rw [if_pos (beq_iff_eq.2 (by omega)), if_pos h1]
  · rw [if_neg (fun h => h1 (by have := beq_iff_eq.1 h; omega)), if_neg h1]
    by_cases h2 : c.toNat = 92
    · rw [if_pos (beq_iff_eq.2 (by omega)), if_pos h2]
    · rw [if_neg (fun h => h2 (by have := beq_iff_eq.1 h; omega)), if_neg h2]
      by_cases h3 : c.toNat = 10
      · rw [if_pos (beq_iff_eq.2 (by omega)), if_pos h3]
      · rw [if_neg (fun h => h3 (by have := beq_iff_eq.1 h; omega)), if_neg h3]
        by_cases h4 : c.toNat = 9
        · rw [if_pos (beq_iff_eq.2 (by omega)), if_pos h4]
        · rw [if_neg (fun h => h4 (by have := beq_iff_eq.1 h; omega)), if_neg h4]
          by_cases h5 : 32 ≤ c.toNat ∧ c.toNat ≤ 126
          · rw [if_pos (by simp; omega), if_pos h5]
          · rw [if_neg (by simp; omega), if_neg h5]
            rw [byte_div, byte_mod]
            show bind1 (idx HEX _) _ = _
            rw [hex_idx _ (by omega), bind1_some]
            show bind1 (idx HEX _) _ = _
            rw [hex_idx _ (by omega), bind1_some]
theorem drop_flat {s : Str} {i : Nat} (h : i < s.length) : (s.drop i).flatMap chq = chq (s.getD i 0) ++ (s.drop (i + 1)).flatMap chq := by
  rw [getD_drop h, List.flatMap_cons]
theorem rquo_eq {s : Str} (hs : s.length ≤ 268435456) : ∀ (k i : Nat) (b : Str), s.length < k + i → i ≤ s.length → b.length ≤ 1 + 4 * i →
    r07_Quote_l1 s k b (i : Int) = some (b ++ (s.drop i).flatMap chq ++ [34])
  | 0, i, b, h, h', hb => by omega
  | k + 1, i, b, h, h', hb => by
    rw [r07_Quote_l1]
    by_cases hi : i < s.length
    · have hx : idx s (i : Int) = some (s.getD i 0) := by
        rw [idxn hi, List.getD_eq_getElem?_getD, List.getElem?_eq_getElem hi]; rfl
      have hcl := chq_len (s.getD i 0)
      have w1 : w64 ((i : Int) + 1) = ((i + 1 : Nat) : Int) := by rw [w64_ok (by omega) (by omega)]; omega
      rw [if_pos (decide_eq_true (by omega)), hx, bind1_some, rchar_ok, bind1_some, app_ok (by simp only [LIM]; omega), bind1_some, w1]
      rw [rquo_eq hs k (i + 1) _ (by omega) (by omega) (by simp only [List.length_append]; omega), drop_flat hi]
      simp only [List.append_assoc]
    · rw [if_neg (by simp; omega), List.drop_eq_nil_of_le (by omega), app_ok (by simp [LIM]; omega)]
      simp
theorem rquo_ok {s : Str} (hs : s.length ≤ 268435456) : r09_Quote s = some (quo s) := by
  unfold r09_Quote r07_Quote
  have := rquo_eq hs BIG 0 [34] (by simp only [BIG]; omega) (Nat.zero_le _) (by simp)
  rw [show (0 : Int) = ((0 : Nat) : Int) from rfl, this]
  rfl
theorem lquo_eq {s : Str} (hs : s.length ≤ 268435456) : ∀ (k i : Nat) (b : Str), s.length < k + i → i ≤ s.length → b.length ≤ 1 + 4 * i →
    lexer_Quote_l1 s k (i : Int) b = some (b ++ (s.drop i).flatMap chq ++ [34])
  | 0, i, b, h, h', hb => by omega
  | k + 1, i, b, h, h', hb => by
    rw [lexer_Quote_l1]
    by_cases hi : i < s.length
    · have hx : idx s (i : Int) = some (s.getD i 0) := by
        rw [idxn hi, List.getD_eq_getElem?_getD, List.getElem?_eq_getElem hi]; rfl
      have hsl : sl s (i : Int) ((i + 1 : Nat) : Int) = some [s.getD i 0] := by
        rw [sl_ok (by omega) (by omega) (by omega)]
        exact congrArg some (take_drop1 hi)
      have w1 : w64 ((i : Int) + 1) = ((i + 1 : Nat) : Int) := by rw [w64_ok (by omega) (by omega)]; omega
      have hcl := chq_len (s.getD i 0)
      have step : ∀ x : Str, x = chq (s.getD i 0) → bind1 (app b x) (fun b' => lexer_Quote_l1 s k (w64 ((i : Int) + 1)) b') = some (b ++ (s.drop i).flatMap chq ++ [34]) := by
        intro x hx
        subst hx
        rw [app_ok (by simp only [LIM]; omega), bind1_some, w1, lquo_eq hs k (i + 1) _ (by omega) (by omega) (by simp only [List.length_append]; omega), drop_flat hi]
        simp only [List.append_assoc]
      rw [if_pos (decide_eq_true (by omega)), hx, bind1_some]
      rw [w1, hsl, bind1_some, ← w1]
      generalize s.getD i 0 = c at *
      have hc := c.toNat_lt
      by_cases h1 : c.toNat = 34 ∨ c.toNat = 92
      · rw [if_pos (by simp only [Bool.or_eq_true, beq_iff_eq]; omega), app_ok (by simp [LIM]), bind1_some]
        apply step
        rcases h1 with h | h
        · have : c = 34 := UInt8.toNat_inj.1 (by rw [h]; rfl)
          subst this; rfl
        · have : c = 92 := UInt8.toNat_inj.1 (by rw [h]; rfl)
          subst this; rfl
      · rw [if_neg (by simp only [Bool.or_eq_true, beq_iff_eq]; omega)]
        unfold chq at step
        rw [if_neg (by omega), if_neg (by omega)] at step
        by_cases h3 : c.toNat = 10
        · rw [if_pos (beq_iff_eq.2 (by omega))]
          rw [if_pos h3] at step
          exact step _ rfl
        · rw [if_neg (fun h => h3 (by have := beq_iff_eq.1 h; omega))]
          rw [if_neg h3] at step
          by_cases h4 : c.toNat = 9
          · rw [if_pos (beq_iff_eq.2 (by omega))]
            rw [if_pos h4] at step
            exact step _ rfl
          · rw [if_neg (fun h => h4 (by have := beq_iff_eq.1 h; omega))]
            rw [if_neg h4] at step
            by_cases h5 : 32 ≤ c.toNat ∧ c.toNat ≤ 126
            · rw [if_neg (by simp; omega)]
              rw [if_pos h5] at step
              exact step _ rfl
            · rw [if_pos (by simp; omega)]
              rw [if_neg h5] at step
              rw [byte_add1 (by rw [byte_div]; omega), byte_add1 (by rw [byte_mod]; omega), byte_div, byte_mod]
              show bind1 (sl HEX _ _) _ = _
              rw [hex_sl _ (by omega), bind1_some, app_ok (by simp [LIM]), bind1_some]
              show bind1 (sl HEX _ _) _ = _
              rw [hex_sl _ (by omega), bind1_some, app_ok (by simp [LIM]), bind1_some]
              exact step _ rfl
    · rw [if_neg (by simp; omega), List.drop_eq_nil_of_le (by omega), app_ok (by simp [LIM]; omega)]
      simp
theorem lquo_ok {s : Str} (hs : s.length ≤ 268435456) : lexer_Quote s = some (quo s) := by
  unfold lexer_Quote
  rw [app_ok (by simp [LIM]), bind1_some]
  have := lquo_eq hs BIG 0 [34] (by simp only [BIG]; omega) (Nat.zero_le _) (by simp)
  rw [show (0 : Int) = ((0 : Nat) : Int) from rfl]
  exact this

def tx (t : ApiToken) : Str := if t.kind = 3 then quo t.text else if t.kind = 5 then [10] else t.text
/-- the text of tokens, behind a token or not -/
def joi : Bool → List ApiToken → Str
  | _, [] => []
  | sp, t :: r => (if sp = true ∧ t.kind ≠ 5 then [32] else []) ++ tx t ++ joi (t.kind != 5) r
/-- is a token of a line ahead of place i -/
def spOf (ts : List ApiToken) (i : Nat) : Bool := match i with | 0 => false | i + 1 => match ts[i]? with | some t => t.kind != 5 | none => false
theorem spOf_succ {ts : List ApiToken} {i : Nat} (h : i < ts.length) : spOf ts (i + 1) = (ts[i].kind != 5) := by
  simp [spOf, List.getElem?_eq_getElem h]
theorem tx_len {t : ApiToken} {N : Nat} (h : t.text.length ≤ N) : (tx t).length ≤ 4 * N + 2 := by
  have := quo_len t.text
  unfold tx
  split
  · omega
  · split
    · simp only [List.length_cons, List.length_nil]; omega
    · omega
theorem drop_get {ts : List ApiToken} {i : Nat} (h : i < ts.length) : ts.drop i = ts[i] :: ts.drop (i + 1) := (List.getElem_cons_drop h).symm
theorem ljoin_eq {ts : List ApiToken} {N : Nat} (hN : N ≤ 268435456) (hl : ts.length * (4 * N + 3) ≤ 4294967296) (ht : ∀ t ∈ ts, t.text.length ≤ N) :
    ∀ (k i : Nat) (b : Str), ts.length < k + i → i ≤ ts.length → b.length ≤ i * (4 * N + 3) →
    lexer_Join_l1 ts k (i : Int) b = some (b ++ joi (spOf ts i) (ts.drop i))
  | 0, i, b, h, h', hb => by omega
  | k + 1, i, b, h, h', hb => by
    have hts : ts.length ≤ 4294967296 := Nat.le_trans (Nat.le_mul_of_pos_right _ (by omega)) hl
    rw [lexer_Join_l1]
    by_cases hi : i < ts.length
    · have w1 : w64 ((i : Int) + 1) = ((i + 1 : Nat) : Int) := by rw [w64_ok (by omega) (by omega)]; omega
      have hm : (i + 1) * (4 * N + 3) ≤ ts.length * (4 * N + 3) := Nat.mul_le_mul_right _ hi
      rw [Nat.add_mul, Nat.one_mul] at hm
      have htl : (ts[i]).text.length ≤ N := ht _ (List.getElem_mem hi)
      have hxl := tx_len htl
      have step : ∀ (b' : Str), b'.length ≤ b.length + 1 → bind1 (app b' (tx ts[i])) (fun b4 => lexer_Join_l1 ts k ((i + 1 : Nat) : Int) b4) = some (b' ++ (tx ts[i] ++ joi (ts[i].kind != 5) (ts.drop (i + 1)))) := by
        intro b' hb'
        rw [app_ok (by simp only [LIM]; omega), bind1_some, ljoin_eq hN hl ht k (i + 1) _ (by omega) (by omega) (by rw [Nat.add_mul]; simp only [List.length_append]; omega), spOf_succ hi, List.append_assoc]
      have last : ∀ (b' : Str), b'.length ≤ b.length + 1 → (if (ts[i].kind == 3) = true then bind1 (lexer_Quote ts[i].text) fun x1 => bind1 (app b' x1) fun b4 => lexer_Join_l1 ts k ((i + 1 : Nat) : Int) b4
          else if (ts[i].kind == 5) = true then bind1 (app b' [10]) fun b5 => lexer_Join_l1 ts k ((i + 1 : Nat) : Int) b5
          else bind1 (app b' ts[i].text) fun b6 => lexer_Join_l1 ts k ((i + 1 : Nat) : Int) b6) = some (b' ++ (tx ts[i] ++ joi (ts[i].kind != 5) (ts.drop (i + 1)))) := by
        intro b' hb'
        rw [← step b' hb']
        unfold tx
        by_cases h3 : ts[i].kind = 3
        · rw [if_pos (beq_iff_eq.2 h3), if_pos h3, lquo_ok (by omega), bind1_some]
        · rw [if_neg (fun h => h3 (beq_iff_eq.1 h)), if_neg h3]
          by_cases h5 : ts[i].kind = 5
          · rw [if_pos (beq_iff_eq.2 h5), if_pos h5]
          · rw [if_neg (fun h => h5 (beq_iff_eq.1 h)), if_neg h5]
      rw [if_pos (decide_eq_true (by omega)), idxn hi, bind1_some, w1, drop_get hi, joi]
      have hsp : (if ((decide ((0 : Int) < (i : Int))) && (ts[i].kind != 5)) = true then bind1 (idx ts (w64 ((i : Int) - 1))) fun e2 => some (e2.kind != 5) else some false) = some (decide (spOf ts i = true ∧ ts[i].kind ≠ 5)) := by
        cases i with
        | zero => rfl
        | succ j =>
          by_cases h5 : ts[j + 1].kind = 5
          · rw [if_neg (by simp [h5])]; simp [h5]
          · rw [if_pos (by simp [h5]), w64_ok (by omega) (by omega), show ((j + 1 : Nat) : Int) - 1 = (j : Int) from by omega, idxn (show j < ts.length by omega), bind1_some, spOf_succ (by omega)]
            simp [h5]
            cases hz : ts[j].kind == 5 <;> simp_all
      rw [hsp, bind1_some]
      by_cases hc : spOf ts i = true ∧ ts[i].kind ≠ 5
      · rw [if_pos (decide_eq_true hc), if_pos hc, app_ok (by simp [LIM]; omega), bind1_some]
        rw [last _ (by simp)]
        simp only [List.append_assoc]
      · rw [if_neg (by rw [decide_eq_false hc]; exact Bool.false_ne_true), if_neg hc]
        rw [last b (by omega)]
        simp only [List.nil_append, List.append_assoc]
    · rw [if_neg (by simp; omega), List.drop_eq_nil_of_le (by omega), joi, List.append_nil]
theorem ljoin_ok {ts : List ApiToken} {N : Nat} (hN : N ≤ 268435456) (hl : ts.length * (4 * N + 3) ≤ 4294967296) (ht : ∀ t ∈ ts, t.text.length ≤ N) : lexer_Join ts = some (joi false ts) := by
  have hts : ts.length ≤ 4294967296 := Nat.le_trans (Nat.le_mul_of_pos_right _ (by omega)) hl
  exact ljoin_eq hN hl ht BIG 0 [] (by simp only [BIG]; omega) (Nat.zero_le _) (by simp)
theorem rjoin_eq {ts : List ApiToken} {N : Nat} (hN : N ≤ 268435456) (hl : ts.length * (4 * N + 3) ≤ 4294967296) (ht : ∀ t ∈ ts, t.text.length ≤ N) :
    ∀ (k i : Nat) (b : Str), ts.length < k + i → i ≤ ts.length → b.length ≤ i * (4 * N + 3) →
    r09_Join_l1 ts k b (i : Int) = some (b ++ joi (spOf ts i) (ts.drop i))
  | 0, i, b, h, h', hb => by omega
  | k + 1, i, b, h, h', hb => by
    have hts : ts.length ≤ 4294967296 := Nat.le_trans (Nat.le_mul_of_pos_right _ (by omega)) hl
    rw [r09_Join_l1]
    by_cases hi : i < ts.length
    · have w1 : w64 ((i : Int) + 1) = ((i + 1 : Nat) : Int) := by rw [w64_ok (by omega) (by omega)]; omega
      have hm : (i + 1) * (4 * N + 3) ≤ ts.length * (4 * N + 3) := Nat.mul_le_mul_right _ hi
      rw [Nat.add_mul, Nat.one_mul] at hm
      have htl : (ts[i]).text.length ≤ N := ht _ (List.getElem_mem hi)
      have hxl := tx_len htl
      have step : ∀ (b' : Str), b'.length ≤ b.length + 1 → bind1 (app b' (tx ts[i])) (fun b4 => r09_Join_l1 ts k b4 ((i + 1 : Nat) : Int)) = some (b' ++ (tx ts[i] ++ joi (ts[i].kind != 5) (ts.drop (i + 1)))) := by
        intro b' hb'
        rw [app_ok (by simp only [LIM]; omega), bind1_some, rjoin_eq hN hl ht k (i + 1) _ (by omega) (by omega) (by rw [Nat.add_mul]; simp only [List.length_append]; omega), spOf_succ hi, List.append_assoc]
      have last : ∀ (b' : Str), b'.length ≤ b.length + 1 → (if (ts[i].kind == 3) = true then bind1 (some ts[i]) fun e4 => bind1 (r09_Quote e4.text) fun x1 => bind1 (app b' x1) fun b4 => r09_Join_l1 ts k b4 ((i + 1 : Nat) : Int)
          else if (ts[i].kind == 5) = true then bind1 (app b' ([10] : List UInt8)) fun b5 => r09_Join_l1 ts k b5 ((i + 1 : Nat) : Int)
          else bind1 (some ts[i]) fun e5 => bind1 (app b' e5.text) fun b6 => r09_Join_l1 ts k b6 ((i + 1 : Nat) : Int)) = some (b' ++ (tx ts[i] ++ joi (ts[i].kind != 5) (ts.drop (i + 1)))) := by
        intro b' hb'
        rw [← step b' hb']
        unfold tx
        by_cases h3 : ts[i].kind = 3
        · rw [if_pos (beq_iff_eq.2 h3), if_pos h3, bind1_some, rquo_ok (by omega), bind1_some]
        · rw [if_neg (fun h => h3 (beq_iff_eq.1 h)), if_neg h3]
          by_cases h5 : ts[i].kind = 5
          · rw [if_pos (beq_iff_eq.2 h5), if_pos h5]
          · rw [if_neg (fun h => h5 (beq_iff_eq.1 h)), if_neg h5, bind1_some]
      rw [if_pos (decide_eq_true (by omega)), idxn hi, w1, drop_get hi, joi]
      have hsp : bind1 (if (decide ((0 : Int) < (i : Int))) = true then bind1 (some ts[i]) fun e1 => some (e1.kind != 5) else some false) (fun b1 => if b1 = true then bind1 (idx ts (w64 ((i : Int) - 1))) fun e2 => some (e2.kind != 5) else some false) = some (decide (spOf ts i = true ∧ ts[i].kind ≠ 5)) := by
        cases i with
        | zero => rfl
        | succ j =>
          rw [if_pos (decide_eq_true (by omega)), bind1_some, bind1_some]
          by_cases h5 : ts[j + 1].kind = 5
          · rw [if_neg (by simp [h5])]; simp [h5]
          · rw [if_pos (by simp [h5]), w64_ok (by omega) (by omega), show ((j + 1 : Nat) : Int) - 1 = (j : Int) from by omega, idxn (show j < ts.length by omega), bind1_some, spOf_succ (by omega)]
            simp [h5]
            cases hz : ts[j].kind == 5 <;> simp_all
      have hb1 : ∀ {α β ρ : Type} (x : Option α) (f : α → Option β) (g : β → Option ρ), bind1 x (fun a => bind1 (f a) g) = bind1 (bind1 x f) g := by
        intro α β ρ x f g; cases x <;> rfl
      rw [hb1, hsp, bind1_some]
      by_cases hc : spOf ts i = true ∧ ts[i].kind ≠ 5
      · rw [if_pos (decide_eq_true hc), if_pos hc, app_ok (by simp [LIM]; omega), bind1_some, bind1_some]
        rw [last _ (by simp)]
        simp only [List.append_assoc]
      · rw [if_neg (by rw [decide_eq_false hc]; exact Bool.false_ne_true), if_neg hc, bind1_some]
        rw [last b (by omega)]
        simp only [List.nil_append, List.append_assoc]
    · rw [if_neg (by simp; omega), List.drop_eq_nil_of_le (by omega), joi, List.append_nil]
theorem rjoin_ok {ts : List ApiToken} {N : Nat} (hN : N ≤ 268435456) (hl : ts.length * (4 * N + 3) ≤ 4294967296) (ht : ∀ t ∈ ts, t.text.length ≤ N) : r09_Join ts = some (joi false ts) := by
  have hts : ts.length ≤ 4294967296 := Nat.le_trans (Nat.le_mul_of_pos_right _ (by omega)) hl
  exact rjoin_eq hN hl ht BIG 0 [] (by simp only [BIG]; omega) (Nat.zero_le _) (by simp)
theorem joins_ok {ts : List ApiToken} {s : Str} (ht : ∀ t ∈ ts, t.text.length ≤ 1048576) : l09_LexerJoins ts s = some true := by
  unfold l09_LexerJoins
  split
  · exact awake_ok
  · rename_i h
    simp only [Bool.or_eq_true, decide_eq_true_eq, not_or] at h
    have hl : ts.length * (4 * 1048576 + 3) ≤ 4294967296 := by omega
    rw [ljoin_ok (by omega) hl ht, rjoin_ok (by omega) hl ht, lquo_ok (by omega), rquo_ok (by omega)]
    simp only [bind1_some, beq_self_eq_true, if_true]
    exact awake_ok
end Go.Ft
