/- Proved here: plain facts on the functional texts (part 3). -/
import Derived.Test.YtfiahdjachcaiaaPlain2
set_option linter.unusedVariables false
set_option linter.unusedSimpArgs false
set_option maxHeartbeats 2000000
namespace Go.Ft
open Go
attribute [local congr] ite_c1

theorem hexv_hexd : ∀ n, n < 16 → hexv (hexd n) = some n := by decide
theorem hexd_range : ∀ n, n < 16 → 48 ≤ (hexd n).toNat ∧ (hexd n).toNat ≤ 102 := by decide
theorem chr_app {l : Str} (suf : Str) (h : (chr l).2.2 = 0) : chr (l ++ suf) = chr l := by
  match l with
  | [] => simp [chr] at h
  | c :: r =>
    simp only [List.cons_append]
    by_cases h1 : c.toNat < 32
    · rw [chr_low h1] at h; simp at h
    · by_cases h2 : c.toNat ≠ 92
      · rw [chr_plain h1 h2, chr_plain h1 h2]
      · match r with
        | [] => simp [chr, h1, h2] at h
        | d :: r =>
          simp only [List.cons_append]
          match r with
          | [] =>
            simp only [chr, h1, h2, if_false, List.nil_append] at h ⊢
            repeat' split
            all_goals simp_all
          | a :: r =>
            match r with
            | [] =>
              simp only [chr, h1, h2, if_false, List.nil_append, List.cons_append] at h ⊢
              cases hexv a with
              | none => simp_all
              | some v =>
                simp only at h ⊢
                repeat' split at h
                all_goals simp_all
            | b :: r => rfl
theorem txt_app (suf : Str) : ∀ (N : Nat) (l b : Str) (m : Nat), l.length ≤ N → (txt 0 b m l).2.2 = 0 → txt 0 b m (l ++ suf) = txt 0 b m l
  | N, [], b, m, _, h => by simp [txt] at h
  | 0, c :: r, b, m, hN, h => by simp at hN
  | N + 1, c :: r, b, m, hN, h => by
    rw [txt_cons] at h
    rw [List.cons_append, txt_cons, txt_cons]
    by_cases h34 : c.toNat = 34
    · rw [if_pos h34, if_pos h34]
    · rw [if_neg h34] at h ⊢
      rw [if_neg h34]
      by_cases he : (chr (c :: r)).2.2 = 0
      · have hc := chr_app suf he
        rw [List.cons_append] at hc
        rw [hc, if_pos he, if_pos he]
        rw [if_pos he] at h
        obtain ⟨n1, n2⟩ := chr_n he
        rw [← List.cons_append, List.drop_append_of_le_length n2]
        apply txt_app suf N
        · simp only [List.length_drop, List.length_cons] at hN ⊢; omega
        · exact h
      · rw [if_neg he] at h; exact absurd h he
/-- what may stand behind a token -/
def sep : Str → Prop
  | [] => True
  | d :: _ => d.toNat = 32 ∨ d.toNat = 10 ∨ d.toNat = 35
theorem span_app {p : UInt8 → Bool} {suf : Str} (hs : ∀ d r, suf = d :: r → p d = false) (l : Str) : span p (l ++ suf) = span p l := by
  induction l with
  | nil =>
    cases suf with
    | nil => rfl
    | cons d r => rw [List.nil_append, span_cons, hs d r rfl]; rfl
  | cons c l ih => rw [List.cons_append, span_cons, span_cons, ih]
theorem sep_digit {suf : Str} (h : sep suf) : ∀ d r, suf = d :: r → isDigit d = false := by
  intro d r e; subst e
  simp only [sep] at h
  rw [Bool.eq_false_iff, ne_eq, isDigit_iff]; omega
theorem sep_word {suf : Str} (h : sep suf) : ∀ d r, suf = d :: r → isWord d = false := by
  intro d r e; subst e
  simp only [sep] at h
  rw [Bool.eq_false_iff, ne_eq, isWord, Bool.or_eq_true, isLetter_iff, isDigit_iff]; omega
theorem isOp_sep {a d : UInt8} (h : d.toNat = 32 ∨ d.toNat = 10 ∨ d.toNat = 35) : isOp [a, d] = false := by
  rw [Bool.eq_false_iff]
  intro ho
  simp only [isOp, Bool.or_eq_true, beq_iff_eq, List.cons.injEq, and_true, reduceCtorEq, and_false, or_false] at ho
  rcases ho with ⟨_, rfl⟩ | ⟨_, rfl⟩ | ⟨_, rfl⟩ | ⟨_, rfl⟩ | ⟨_, rfl⟩ | ⟨_, rfl⟩ <;> simp at h
theorem tokS_app {c : UInt8} {r suf : Str} (hs : sep suf) (h : (tokS (c :: r)).2.2.2 = 0) : tokS (c :: (r ++ suf)) = tokS (c :: r) := by
  simp only [tokS] at h ⊢
  have sd := span_app (sep_digit hs) (c :: r)
  have sw := span_app (sep_word hs) (c :: r)
  rw [List.cons_append] at sd sw
  rw [sd, sw]
  have ht : ∀ n, n ≤ (c :: r).length → (c :: (r ++ suf)).take n = (c :: r).take n := by
    intro n hn
    rw [← List.cons_append, List.take_append_of_le_length hn]
  rw [ht _ (span_le isDigit _), ht _ (span_le isWord _)]
  by_cases hd : isDigit c = true
  · rw [if_pos hd, if_pos hd]
  · rw [if_neg hd] at h ⊢
    rw [if_neg hd]
    by_cases h34 : c.toNat = 34
    · rw [if_pos h34] at h ⊢
      rw [if_pos h34]
      by_cases he : (txt 0 [] 1 r).2.2 = 0
      · rw [txt_app suf r.length r [] 1 (Nat.le_refl _) he]
      · rw [if_neg he] at h; exact absurd h he
    · rw [if_neg h34] at h ⊢
      rw [if_neg h34]
      by_cases hl : isLetter c = true
      · rw [if_pos hl, if_pos hl]
      · rw [if_neg hl] at h ⊢
        rw [if_neg hl]
        have ho : opn (c :: (r ++ suf)) = opn (c :: r) := by
          cases r with
          | nil =>
            cases suf with
            | nil => rfl
            | cons d suf => simp only [List.nil_append, opn, isOp_sep hs, Bool.false_eq_true, if_false]
          | cons b r => rfl
        rw [ho, ht _ (opn_le _)]
theorem span_take_n (p : UInt8 → Bool) : ∀ (n : Nat) (l : Str), n ≤ span p l → span p (l.take n) = n
  | 0, l, h => rfl
  | n + 1, [], h => by simp at h
  | n + 1, c :: l, h => by
    rw [span_cons] at h
    rw [List.take_succ_cons, span_cons]
    cases hc : p c with
    | true => rw [hc] at h; simp only [if_true] at h ⊢; rw [span_take_n p n l (by omega)]
    | false => rw [hc] at h; simp at h
theorem tokS_take {c : UInt8} {r : Str} (h : (tokS (c :: r)).2.2.2 = 0) (h3 : (tokS (c :: r)).1 ≠ 3) :
    (tokS (c :: r)).2.1 = (c :: r).take (tokS (c :: r)).2.2.1 ∧ tokS ((c :: r).take (tokS (c :: r)).2.2.1) = tokS (c :: r) := by
  have hn := (tokS_last h).1
  obtain ⟨m, hm⟩ : ∃ m, (tokS (c :: r)).2.2.1 = m + 1 := ⟨(tokS (c :: r)).2.2.1 - 1, by omega⟩
  have htt : (c :: r).take (m + 1) = c :: r.take m := rfl
  rw [hm, htt]
  simp only [tokS] at h h3 hm ⊢
  rw [← htt]
  by_cases hd : isDigit c = true
  · rw [if_pos hd] at h h3 hm ⊢
    rw [if_pos hd]
    by_cases h1 : (1 < span isDigit (c :: r) ∧ c.toNat = 48) ∨ span isDigit (c :: r) < span isWord (c :: r)
    · rw [if_pos h1] at h; simp at h
    · rw [if_neg h1] at h h3 hm ⊢
      by_cases h2 : MAXN < val ((c :: r).take (span isDigit (c :: r)))
      · rw [if_pos h2] at h; simp at h
      · rw [if_neg h2] at hm ⊢
        simp only at hm
        have hw := span_word_le (c :: r)
        rw [← hm, span_take_n isDigit _ _ (Nat.le_refl _), span_take_n isWord _ _ (by omega)]
        rw [List.take_take, Nat.min_self, if_neg (by omega), if_neg h2]
        exact ⟨rfl, rfl⟩
  · rw [if_neg hd] at h h3 hm ⊢
    rw [if_neg hd]
    by_cases h34 : c.toNat = 34
    · rw [if_pos h34] at h h3
      by_cases he : (txt 0 [] 1 r).2.2 = 0
      · rw [if_pos he] at h3; simp at h3
      · rw [if_neg he] at h; exact absurd h he
    · rw [if_neg h34] at h hm ⊢
      rw [if_neg h34]
      by_cases hl : isLetter c = true
      · rw [if_pos hl] at h hm ⊢
        rw [if_pos hl]
        by_cases h2 : 64 < span isWord (c :: r)
        · rw [if_pos h2] at h; simp at h
        · rw [if_neg h2] at hm ⊢
          simp only at hm
          rw [← hm, span_take_n isWord _ _ (Nat.le_refl _), if_neg h2, List.take_take, Nat.min_self]
          exact ⟨rfl, rfl⟩
      · rw [if_neg hl] at h hm ⊢
        rw [if_neg hl]
        by_cases h2 : opn (c :: r) = 0
        · rw [if_pos h2] at h; simp at h
        · rw [if_neg h2] at hm ⊢
          simp only at hm
          have ho : opn ((c :: r).take (opn (c :: r))) = opn (c :: r) := by
            cases r with
            | nil =>
              simp only [opn] at h2 ⊢
              split at h2
              · rename_i ho; simp [ho, opn]
              · simp at h2
            | cons b r =>
              simp only [opn] at h2 ⊢
              split at h2
              · rename_i ho; simp [ho, opn]
              · rename_i ho
                split at h2
                · rename_i ho2; simp [ho, ho2, opn]
                · simp at h2
          rw [← hm, ho, if_neg h2, List.take_take, Nat.min_self]
          exact ⟨rfl, rfl⟩

/-! a quoted text reads back -/
theorem chr_chq (c : UInt8) (suf : Str) : chr (chq c ++ suf) = (c, (chq c).length, 0) ∧ ∃ d r, chq c = d :: r ∧ d.toNat ≠ 34 := by
  have hc := c.toNat_lt
  unfold chq
  by_cases h1 : c.toNat = 34
  · rw [if_pos h1]
    have : c = 34 := UInt8.toNat_inj.1 (by rw [h1]; rfl)
    subst this; exact ⟨rfl, _, _, rfl, by decide⟩
  · rw [if_neg h1]
    by_cases h2 : c.toNat = 92
    · rw [if_pos h2]
      have : c = 92 := UInt8.toNat_inj.1 (by rw [h2]; rfl)
      subst this; exact ⟨rfl, _, _, rfl, by decide⟩
    · rw [if_neg h2]
      by_cases h3 : c.toNat = 10
      · rw [if_pos h3]
        have : c = 10 := UInt8.toNat_inj.1 (by rw [h3]; rfl)
        subst this; exact ⟨rfl, _, _, rfl, by decide⟩
      · rw [if_neg h3]
        by_cases h4 : c.toNat = 9
        · rw [if_pos h4]
          have : c = 9 := UInt8.toNat_inj.1 (by rw [h4]; rfl)
          subst this; exact ⟨rfl, _, _, rfl, by decide⟩
        · rw [if_neg h4]
          by_cases h5 : 32 ≤ c.toNat ∧ c.toNat ≤ 126
          · rw [if_pos h5]
            exact ⟨by rw [List.singleton_append, chr_plain (by omega) (by omega)]; rfl, _, _, rfl, h1⟩
          · rw [if_neg h5]
            refine ⟨?_, _, _, rfl, by decide⟩
            have e1 := hexv_hexd (c.toNat / 16) (by omega)
            have e2 := hexv_hexd (c.toNat % 16) (by omega)
            have e3 : UInt8.ofNat (16 * (c.toNat / 16) + c.toNat % 16) = c := by
              rw [show 16 * (c.toNat / 16) + c.toNat % 16 = c.toNat from by omega]
              simp
            simp [chr, e1, e2, e3]
theorem txt_quo (suf : Str) : ∀ (s b : Str) (m : Nat), b.length + s.length ≤ 4096 → txt 0 b m (s.flatMap chq ++ (34 :: suf)) = (b ++ s, m + (s.flatMap chq).length + 1, 0)
  | [], b, m, h => by
    rw [List.flatMap_nil, List.nil_append, txt_cons, if_pos (show (34 : UInt8).toNat = 34 from rfl), if_neg (by simp at h; omega), List.append_nil]; rfl
  | c :: s, b, m, h => by
    obtain ⟨h1, d, r, h2, h3⟩ := chr_chq c (s.flatMap chq ++ (34 :: suf))
    rw [List.flatMap_cons, List.append_assoc]
    have hx : (chq c ++ (s.flatMap chq ++ (34 :: suf))) = d :: (r ++ (s.flatMap chq ++ (34 :: suf))) := by rw [h2]; rfl
    rw [hx, txt_cons, if_neg h3, ← hx, h1, if_pos rfl]
    simp only [List.drop_left]
    rw [txt_quo suf s _ _ (by simp at h ⊢; omega)]
    simp only [List.append_assoc, List.singleton_append, List.length_append]
    congr 2
    omega
theorem tokS_quo (s suf : Str) (h : s.length ≤ 4096) : tokS (quo s ++ suf) = (3, s, (quo s).length, 0) := by
  have := txt_quo suf s [] 1 (by simpa using h)
  unfold quo
  rw [List.cons_append, List.append_assoc, List.singleton_append]
  have h0 : isDigit 34 = false := by decide
  simp only [tokS, h0, Bool.false_eq_true, if_false]
  rw [if_pos (show (34 : UInt8).toNat = 34 from rfl), this, if_pos rfl]
  simp only [List.nil_append, List.length_cons, List.length_append, List.length_nil]
  congr 3
  omega
theorem scan_quo (s : Str) (h : s.length ≤ 4096) : scan 0 0 0 false (quo s) = ([⟨3, s, 0⟩], none) := by
  have ht := tokS_quo s [] h
  rw [List.append_nil] at ht
  have hq : quo s = 34 :: (s.flatMap chq ++ [34]) := rfl
  rw [hq] at ht ⊢
  rw [scan, if_neg (by decide), if_neg (by decide), if_neg (by decide), ht, if_pos rfl]
  simp only [List.length_cons]
  have := scan_skip (s.flatMap chq ++ [34]).length 0 (0 + 1) (if (3 : Int) = 4 then opb s 0 else 0) false (s.flatMap chq ++ [34]) (Nat.le_refl _)
  rw [Nat.zero_add] at this
  rw [Nat.add_sub_cancel, this, List.drop_length, scan]
  rfl
theorem quo_range (s : Str) : ∀ c ∈ quo s, 32 ≤ c.toNat ∧ c.toNat ≤ 126 := by
  intro c hc
  simp only [quo, List.mem_cons, List.mem_append, List.mem_flatMap, List.not_mem_nil, or_false] at hc
  have h34 : c = 34 → 32 ≤ c.toNat ∧ c.toNat ≤ 126 := fun h => by subst h; decide
  rcases hc with h | ⟨d, _, h⟩ | h
  · exact h34 h
  · have hd := d.toNat_lt
    have r1 := hexd_range (d.toNat / 16) (by omega)
    have r2 := hexd_range (d.toNat % 16) (by omega)
    unfold chq at h
    repeat' split at h
    all_goals simp only [List.mem_cons, List.not_mem_nil, or_false] at h
    · rcases h with rfl | rfl <;> decide
    · rcases h with rfl | rfl <;> decide
    · rcases h with rfl | rfl <;> decide
    · rcases h with rfl | rfl <;> decide
    · subst h; assumption
    · rcases h with rfl | rfl | rfl | rfl
      · decide
      · decide
      · omega
      · omega
  · exact h34 h
theorem strings_loop {q : Str} (hq : q.length ≤ 65536) (hr : ∀ c ∈ q, 32 ≤ c.toNat ∧ c.toNat ≤ 126) : ∀ (k i : Nat), q.length < k + i → i ≤ q.length → l09_LexerStrings_l1 q k (i : Int) = some true
  | 0, i, h, h' => by omega
  | k + 1, i, h, h' => by
    rw [l09_LexerStrings_l1]
    by_cases hi : i < q.length
    · have w1 : w64 ((i : Int) + 1) = ((i + 1 : Nat) : Int) := by rw [w64_ok (by omega) (by omega)]; omega
      have := hr _ (List.getElem_mem hi)
      have e1 : decide ((q[i].toNat : Int) < 32) = false := decide_eq_false (by omega)
      have e2 : decide ((126 : Int) < (q[i].toNat : Int)) = false := decide_eq_false (by omega)
      rw [if_pos (decide_eq_true (by omega))]
      simp only [idxn hi, bind1_some, e1, e2, Bool.false_eq_true, if_false, w1]
      exact strings_loop hq hr k (i + 1) (by omega) (by omega)
    · rw [if_neg (by simp; omega)]
      exact awake_ok
theorem strings_ok {s : Str} (h : s.length ≤ 1048576) : l09_LexerStrings s = some true := by
  unfold l09_LexerStrings
  rw [lquo_ok (by omega), bind1_some]
  split
  · exact awake_ok
  · rename_i hc
    simp only [Bool.or_eq_true, decide_eq_true_eq, not_or] at hc
    have hq : (quo s).length ≤ 65536 := by omega
    rw [ltokens_ok hq, scan_quo s (by omega)]
    have e : fin [] ([(⟨3, s, 0⟩ : ApiToken)], none) = ([⟨3, s, 0⟩], 0, 0) := rfl
    have e1 : idx [(⟨3, s, 0⟩ : ApiToken)] 0 = some ⟨3, s, 0⟩ := rfl
    rw [e]
    simp only [bind3_some, e1, bind1_some, List.length_singleton, beq_self_eq_true, Bool.not_true, Bool.false_eq_true, if_false, bne_self_eq_false]
    have := strings_loop hq (quo_range s) BIG 0 (by simp only [BIG]; omega) (Nat.zero_le _)
    rw [show (0 : Int) = ((0 : Nat) : Int) from rfl]
    exact this
end Go.Ft

namespace Go.Ft
open Go
attribute [local congr] ite_c1

def TT (s : Str) : List ApiToken × Int × Int := if s.length ≤ 65536 then fin [] (scan 0 0 0 false s) else ([], 0, 3)
theorem ltokens_all (s : Str) : lexer_Tokens s = some ((TT s).1, (TT s).2.1, (TT s).2.2) := by
  show _ = some (TT s)
  unfold TT
  split
  · rename_i h; exact ltokens_ok h
  · unfold lexer_Tokens; rw [if_pos (by simp; omega)]
theorem scan_err : ∀ (l : Str) (k p o : Nat) (nl : Bool) (q : Nat) (e : Int), (scan k p o nl l).2 = some (q, e) → e ≠ 0
  | [], k, p, o, nl, q, e, h => by cases k <;> simp [scan] at h
  | c :: r, k + 1, p, o, nl, q, e, h => by rw [scan] at h; exact scan_err r _ _ _ _ q e h
  | c :: r, 0, p, o, nl, q, e, h => by
    rw [scan] at h
    repeat' split at h
    all_goals first
      | exact scan_err r _ _ _ _ q e h
      | (rename_i h5
         simp only [Option.some.injEq, Prod.mk.injEq] at h
         rw [← h.2]; exact h5)
/-- no error: all was read -/
theorem TT_ok {s : Str} (h : (TT s).2.2 = 0) : s.length ≤ 65536 ∧ (scan 0 0 0 false s).2 = none ∧ TT s = ((scan 0 0 0 false s).1, 0, 0) := by
  unfold TT at h ⊢
  by_cases hl : s.length ≤ 65536
  · rw [if_pos hl] at h ⊢
    unfold fin at h ⊢
    cases hx : (scan 0 0 0 false s).2 with
    | none => exact ⟨hl, rfl, by simp⟩
    | some y =>
      rw [hx] at h
      exact absurd h (scan_err _ _ _ _ _ y.1 y.2 hx)
  · rw [if_neg hl] at h; simp at h
theorem TT_len (s : Str) : (TT s).1.length ≤ 65536 := by
  unfold TT
  split
  · have := fin_len s; omega
  · simp
theorem TT_err {s : Str} (h : (TT s).2.2 ≠ 0) : (TT s).1 = [] := by
  unfold TT at h ⊢
  by_cases hl : s.length ≤ 65536
  · rw [if_pos hl] at h ⊢
    unfold fin at h ⊢
    cases hx : (scan 0 0 0 false s).2 with
    | none => rw [hx] at h; simp at h
    | some y => rfl
  · rw [if_neg hl]

def opens : Nat → List ApiToken → Nat
  | o, [] => o
  | o, t :: r => opens (if t.kind = 4 then opb t.text o else o) r
def nls : Bool → List ApiToken → Bool
  | nl, [] => nl
  | nl, t :: r => nls (t.kind == 5) r
theorem pair_none {α β : Type} {a : α} {x : List α × Option β} {ts : List α} (h : (a :: x.1, x.2) = (ts, none)) : ∃ r, ts = a :: r ∧ x = (r, none) := by
  simp only [Prod.mk.injEq] at h
  exact ⟨x.1, h.1.symm, by rw [← h.2]⟩
theorem scan_app {suf : Str} (hs : sep suf) : ∀ (N : Nat) (l : Str) (k p o : Nat) (nl : Bool) (ts : List ApiToken), l.length ≤ N → k ≤ l.length → scan k p o nl l = (ts, none) →
    ∃ j, (j = 0 ∨ j = span notNL suf) ∧ scan k p o nl (l ++ suf) = (ts ++ (scan j (p + l.length) (opens o ts) (nls nl ts) suf).1, (scan j (p + l.length) (opens o ts) (nls nl ts) suf).2)
  | N, [], k, p, o, nl, ts, hN, hk, h => by
    have hk : k = 0 := by simpa using hk
    subst hk
    simp only [scan, Prod.mk.injEq, and_true] at h
    subst h
    exact ⟨0, Or.inl rfl, rfl⟩
  | 0, c :: r, k, p, o, nl, ts, hN, hk, h => by simp at hN
  | N + 1, c :: r, k + 1, p, o, nl, ts, hN, hk, h => by
    rw [scan] at h
    obtain ⟨j, h1, h2⟩ := scan_app hs N r k (p + 1) o nl ts (by simpa using hN) (by simpa using hk) h
    refine ⟨j, h1, ?_⟩
    rw [List.cons_append, scan, h2, List.length_cons, show p + 1 + r.length = p + (r.length + 1) from by omega]
  | N + 1, c :: r, 0, p, o, nl, ts, hN, hk, h => by
    have hN : r.length ≤ N := by simpa using hN
    have hp : p + 1 + r.length = p + (r.length + 1) := by omega
    rw [scan] at h
    rw [List.cons_append, scan, List.length_cons]
    by_cases hb : c.toNat = 32 ∨ c.toNat = 9
    · rw [if_pos hb] at h ⊢
      obtain ⟨j, h1, h2⟩ := scan_app hs N r 0 (p + 1) o nl ts hN (Nat.zero_le _) h
      exact ⟨j, h1, by rw [h2, hp]⟩
    · rw [if_neg hb] at h ⊢
      by_cases h35 : c.toNat = 35
      · rw [if_pos h35] at h ⊢
        have hsp := span_le notNL r
        have hsa : ∀ l : Str, span notNL (l ++ suf) = if span notNL l < l.length then span notNL l else l.length + span notNL suf := by
          intro l
          induction l with
          | nil => simp
          | cons c l ih =>
            rw [List.cons_append, span_cons, span_cons, ih]
            cases notNL c with
            | true =>
              simp only [if_true, List.length_cons]
              by_cases hz : span notNL l < l.length
              · rw [if_pos hz, if_pos (by omega)]
              · rw [if_neg hz, if_neg (by omega)]; omega
            | false => simp
        rw [hsa]
        by_cases hlt : span notNL r < r.length
        · rw [if_pos hlt]
          obtain ⟨j, h1, h2⟩ := scan_app hs N r _ (p + 1) o nl ts hN hsp h
          exact ⟨j, h1, by rw [h2, hp]⟩
        · rw [if_neg hlt]
          have he : span notNL r = r.length := by omega
          rw [he] at h
          have h0 := scan_skip r.length 0 (p + 1) o nl r (Nat.le_refl _)
          rw [Nat.zero_add, List.drop_length, scan] at h0
          rw [h0] at h
          simp only [Prod.mk.injEq, and_true] at h
          subst h
          refine ⟨span notNL suf, Or.inr rfl, ?_⟩
          rw [Nat.add_comm r.length, scan_skip r.length _ (p + 1) o nl (r ++ suf) (by simp), List.drop_left, hp]
          rfl
      · rw [if_neg h35] at h ⊢
        by_cases h10 : c.toNat = 10
        · rw [if_pos h10] at h ⊢
          by_cases hn : o = 0 ∧ nl = false
          · rw [if_pos hn] at h ⊢
            obtain ⟨r', e1, e2⟩ := pair_none h
            subst e1
            obtain ⟨j, h1, h2⟩ := scan_app hs N r 0 (p + 1) o true r' hN (Nat.zero_le _) e2
            exact ⟨j, h1, by rw [h2, hp]; rfl⟩
          · rw [if_neg hn] at h ⊢
            obtain ⟨j, h1, h2⟩ := scan_app hs N r 0 (p + 1) o nl ts hN (Nat.zero_le _) h
            exact ⟨j, h1, by rw [h2, hp]⟩
        · rw [if_neg h10] at h ⊢
          by_cases he : (tokS (c :: r)).2.2.2 = 0
          · rw [tokS_app hs he]
            rw [if_pos he] at h ⊢
            obtain ⟨n1, n2, _, _⟩ := tokS_last he
            have h5 := tokS_kind c r
            generalize tokS (c :: r) = t at h n1 n2 h5 ⊢
            obtain ⟨r', e1, e2⟩ := pair_none h
            subst e1
            obtain ⟨j, h1, h2⟩ := scan_app hs N r _ (p + 1) _ false r' hN (by omega) e2
            have ek : (t.1 == 5) = false := beq_eq_false_iff_ne.2 h5
            refine ⟨j, h1, ?_⟩
            rw [h2, hp]
            simp only [opens, nls, ek, List.cons_append]
          · rw [if_neg he] at h; simp at h

/-! where the tokens stand -/
def Pos (s : Str) : Int → List ApiToken → Prop
  | _, [] => True
  | b, t :: r => b ≤ t.at_ ∧ t.at_ < s.length ∧ (t.kind ≠ 3 → t.kind ≠ 5 → t.at_ + t.text.length ≤ s.length ∧ (s.drop t.at_.toNat).take t.text.length = t.text) ∧ Pos s (t.at_ + 1) r
theorem Pos.weak {s : Str} {b c : Int} {l : List ApiToken} (h : Pos s b l) (hc : c ≤ b) : Pos s c l := by
  cases l with
  | nil => trivial
  | cons t r => exact ⟨Int.le_trans hc h.1, h.2⟩
theorem scan_pos {s : Str} : ∀ (N p k o : Nat) (nl : Bool), s.length - p ≤ N → p ≤ s.length → Pos s p (scan k p o nl (s.drop p)).1
  | 0, p, k, o, nl, hN, hp => by
    rw [List.drop_eq_nil_of_le (by omega)]
    cases k <;> exact trivial
  | N + 1, p, k, o, nl, hN, hp => by
    by_cases hi : p < s.length
    · have hh := getD_drop hi
      have ih : ∀ k o nl, Pos s ((p : Int) + 1) (scan k (p + 1) o nl (s.drop (p + 1))).1 := fun k o nl => by
        have := scan_pos (s := s) N (p + 1) k o nl (by omega) (by omega)
        exact this
      have ih2 : ∀ k o nl, Pos s (p : Int) (scan k (p + 1) o nl (s.drop (p + 1))).1 := fun k o nl => (ih k o nl).weak (by omega)
      rw [hh]
      cases k with
      | succ k => rw [scan]; exact ih2 _ _ _
      | zero =>
        rw [scan]
        by_cases hb : (s.getD p 0).toNat = 32 ∨ (s.getD p 0).toNat = 9
        · rw [if_pos hb]; exact ih2 _ _ _
        · rw [if_neg hb]
          by_cases h35 : (s.getD p 0).toNat = 35
          · rw [if_pos h35]; exact ih2 _ _ _
          · rw [if_neg h35]
            by_cases h10 : (s.getD p 0).toNat = 10
            · rw [if_pos h10]
              by_cases hn : o = 0 ∧ nl = false
              · rw [if_pos hn]
                exact ⟨Int.le_refl _, by simp only; omega, fun _ h => absurd rfl h, ih _ _ _⟩
              · rw [if_neg hn]; exact ih2 _ _ _
            · rw [if_neg h10]
              by_cases he : (tokS (s.getD p 0 :: s.drop (p + 1))).2.2.2 = 0
              · rw [if_pos he]
                refine ⟨Int.le_refl _, by simp only; omega, fun h3 _ => ?_, ih _ _ _⟩
                simp only at h3 ⊢
                obtain ⟨t1, t2⟩ := tokS_take he h3
                obtain ⟨n1, n2, _, _⟩ := tokS_last he
                have hlen : (s.getD p 0 :: s.drop (p + 1)).length = s.length - p := by rw [← hh, drop_len]
                have htl : (tokS (s.getD p 0 :: s.drop (p + 1))).2.1.length = (tokS (s.getD p 0 :: s.drop (p + 1))).2.2.1 := by
                  rw [t1, List.length_take]
                  simp only [List.length_cons]
                  omega
                rw [drop_len] at n2
                rw [htl, Int.toNat_natCast]
                refine ⟨by omega, ?_⟩
                rw [t1, ← hh]
              · rw [if_neg he]; exact trivial
    · rw [List.drop_eq_nil_of_le (by omega)]
      cases k <;> exact trivial
theorem Pos.get {s : Str} : ∀ (l : List ApiToken) (b : Int) (i : Nat) (h : i < l.length), Pos s b l → b ≤ (l[i]).at_ ∧ (l[i]).at_ < s.length ∧
    ((l[i]).kind ≠ 3 → (l[i]).kind ≠ 5 → (l[i]).at_ + (l[i]).text.length ≤ s.length ∧ (s.drop (l[i]).at_.toNat).take (l[i]).text.length = (l[i]).text)
  | [], b, i, h, _ => by simp at h
  | t :: r, b, 0, h, hp => ⟨hp.1, hp.2.1, hp.2.2.1⟩
  | t :: r, b, i + 1, h, hp => by
    have := Pos.get r (t.at_ + 1) i (by simpa using h) hp.2.2.2
    have h1 := hp.1
    exact ⟨by have := this.1; simp only [List.getElem_cons_succ]; omega, this.2⟩
theorem Pos.up {s : Str} : ∀ (l : List ApiToken) (b : Int) (i : Nat) (h : i + 1 < l.length), Pos s b l → (l[i]).at_ < (l[i + 1]).at_
  | [], b, i, h, _ => by simp at h
  | t :: r, b, 0, h, hp => by
    have := Pos.get r (t.at_ + 1) 0 (by simpa using h) hp.2.2.2
    have := this.1
    simp only [List.getElem_cons_zero, List.getElem_cons_succ]; omega
  | t :: r, b, i + 1, h, hp => Pos.up r (t.at_ + 1) i (by simpa using h) hp.2.2.2
theorem ends_loop {s : Str} {l : List ApiToken} (hs : s.length ≤ 65536) (hl : l.length ≤ 65536) (hp : Pos s 0 l) : ∀ (k i : Nat), l.length < k + i → i ≤ l.length → l09_LexerEnds_l2 s l k (i : Int) = some true
  | 0, i, h, h' => by omega
  | k + 1, i, h, h' => by
    rw [l09_LexerEnds_l2]
    by_cases hi : i < l.length
    · obtain ⟨g1, g2, g3⟩ := Pos.get l 0 i hi hp
      have w1 : w64 ((i : Int) + 1) = ((i + 1 : Nat) : Int) := by rw [w64_ok (by omega) (by omega)]; omega
      have ih := ends_loop hs hl hp k (i + 1) (by omega) (by omega)
      have e1 : decide ((l[i]).at_ < 0) = false := decide_eq_false (by omega)
      have e2 : decide ((s.length : Int) ≤ (l[i]).at_) = false := decide_eq_false (by omega)
      have hup : (if decide ((0 : Int) < (i : Int)) = true then bind1 (some l[i]) fun e4 => bind1 (idx l (w64 ((i : Int) - 1))) fun e5 => some (decide (e4.at_ ≤ e5.at_)) else some false) = some false := by
        cases i with
        | zero => rfl
        | succ j =>
          have := Pos.up l 0 j hi hp
          rw [if_pos (decide_eq_true (by omega)), bind1_some, w64_ok (by omega) (by omega), show ((j + 1 : Nat) : Int) - 1 = (j : Int) from by omega, idxn (show j < l.length by omega), bind1_some, decide_eq_false (by omega)]
      rw [if_pos (decide_eq_true (by omega)), idxn hi, hup]
      simp only [bind1_some, e1, e2, Bool.false_eq_true, if_false, w1, ih]
      by_cases h3 : (l[i]).kind = 3
      · simp [h3]
      · by_cases h5 : (l[i]).kind = 5
        · simp [h5]
        · obtain ⟨g4, g5⟩ := g3 h3 h5
          have k3 : ((l[i]).kind == 3) = false := beq_eq_false_iff_ne.2 h3
          have k5 : ((l[i]).kind == 5) = false := beq_eq_false_iff_ne.2 h5
          rw [w64_ok (by omega) (by omega)]
          have e6 : decide ((s.length : Int) < (l[i]).at_ + ((l[i]).text.length : Int)) = false := decide_eq_false (by omega)
          have hsl : sl s (l[i]).at_ ((l[i]).at_ + ((l[i]).text.length : Int)) = some (l[i]).text := by
            rw [sl_ok (by omega) (by omega) (by omega)]
            rw [show ((l[i]).at_ + ((l[i]).text.length : Int)).toNat = (l[i]).at_.toNat + (l[i]).text.length from by omega, take_drop_n, g5]
          simp [k3, k5, e6, hsl]
    · rw [if_neg (by simp; omega)]
      exact awake_ok
def TAIL : Str := [35, 32, 124, 124, 32, 48, 48, 55]
theorem scan_tail (n : Nat) : ∀ (p o : Nat) (nl : Bool), scan 0 p o nl (List.replicate n 32 ++ TAIL) = ([], none) := by
  induction n with
  | zero => intro p o nl; rfl
  | succ n ih => intro p o nl; rw [List.replicate_succ, List.cons_append, scan, if_pos (show (32 : UInt8).toNat = 32 ∨ _ from Or.inl rfl)]; exact ih _ _ _
theorem span_tail (n : Nat) : span notNL (List.replicate n 32 ++ TAIL) = (List.replicate n 32 ++ TAIL).length := by
  induction n with
  | zero => rfl
  | succ n ih => rw [List.replicate_succ, List.cons_append, span_cons, if_pos (show notNL 32 = true from rfl), ih]; rfl
theorem sep_tail (n : Nat) : sep (List.replicate n 32 ++ TAIL) := by
  cases n with
  | zero => exact Or.inr (Or.inr rfl)
  | succ n => exact Or.inl rfl
theorem scan_ends {s : Str} (n : Nat) {ts : List ApiToken} (h : scan 0 0 0 false s = (ts, none)) : scan 0 0 0 false (s ++ (List.replicate n 32 ++ TAIL)) = (ts, none) := by
  obtain ⟨j, h1, h2⟩ := scan_app (sep_tail n) s.length s 0 0 0 false ts (Nat.le_refl _) (Nat.zero_le _) h
  rw [h2]
  rcases h1 with h1 | h1
  · subst h1; rw [scan_tail]; simp
  · rw [span_tail] at h1
    subst h1
    have := scan_skip (List.replicate n 32 ++ TAIL).length 0 (0 + s.length) (opens 0 ts) (nls false ts) (List.replicate n 32 ++ TAIL) (Nat.le_refl _)
    simp only [Nat.zero_add] at this ⊢
    rw [this, List.drop_length, scan]; simp
theorem ends_loop1 {s : Str} {b : UInt8} {l : List ApiToken} (hs : s.length ≤ 65236) (h : scan 0 0 0 false s = (l, none)) : ∀ (k i : Nat), b.toNat < k + i → i ≤ b.toNat →
    l09_LexerEnds_l1 s b l k (s ++ List.replicate i 32) (i : Int) = some true
  | 0, i, h1, h2 => by omega
  | k + 1, i, h1, h2 => by
    have hb := b.toNat_lt
    have hl : l.length ≤ 65536 := by have := scan_len s 0 0 0 false; rw [h] at this; simp only at this; omega
    rw [l09_LexerEnds_l1]
    by_cases hi : i < b.toNat
    · have w1 : w64 ((i : Int) + 1) = ((i + 1 : Nat) : Int) := by rw [w64_ok (by omega) (by omega)]; omega
      rw [if_pos (decide_eq_true (by omega)), app_ok (by simp [LIM]; omega), bind1_some, w1, List.append_assoc]
      rw [show List.replicate i (32 : UInt8) ++ [32] = List.replicate (i + 1) 32 from List.replicate_succ'.symm]
      exact ends_loop1 hs h k (i + 1) (by omega) (by omega)
    · rw [if_neg (by simp; omega), app_ok (by simp [LIM]; omega), bind1_some, List.append_assoc]
      show bind3 (lexer_Tokens (s ++ (List.replicate i 32 ++ TAIL))) _ = _
      rw [ltokens_ok (by simp [TAIL]; omega), scan_ends i h]
      have e : fin [] (l, (none : Option (Nat × Int))) = (l, 0, 0) := rfl
      rw [e]
      simp only [bind3_some, bne_self_eq_false, Bool.false_eq_true, if_false]
      rw [same_ok rfl (by omega)]
      simp only [bind1_some, Bool.not_true, Bool.false_eq_true, if_false]
      have hp := scan_pos (s := s) s.length 0 0 0 false (by omega) (Nat.zero_le _)
      rw [List.drop_zero, h] at hp
      have := ends_loop (by omega) hl hp BIG 0 (by simp only [BIG]; omega) (Nat.zero_le _)
      rw [show (0 : Int) = ((0 : Nat) : Int) from rfl]
      exact this
theorem plain_LexerEnds (s : Str) (b : UInt8) : l09_LexerEnds s b = some true := by
  unfold l09_LexerEnds
  rw [ltokens_all, bind3_some]
  by_cases hc : ((TT s).2.2 != 0 || decide (65236 < (s.length : Int))) = true
  · rw [if_pos hc]; exact awake_ok
  · rw [if_neg hc]
    simp only [Bool.or_eq_true, bne_iff_ne, ne_eq, decide_eq_true_eq, not_or, Decidable.not_not] at hc
    obtain ⟨h1, h2, h3⟩ := TT_ok hc.1
    have hsc : scan 0 0 0 false s = ((scan 0 0 0 false s).1, none) := by rw [← h2]
    rw [h3]
    have := ends_loop1 (b := b) (by omega) hsc BIG 0 (by have := b.toNat_lt; simp only [BIG]; omega) (Nat.zero_le _)
    rw [List.replicate_zero, List.append_nil] at this
    rw [show (0 : Int) = ((0 : Nat) : Int) from rfl]
    exact this
end Go.Ft

namespace Go.Ft
open Go
attribute [local congr] ite_c1

/-- the place does not count -/
theorem scan_key : ∀ (l : Str) (k p q o : Nat) (nl : Bool), (scan k p o nl l).1.map (key false) = (scan k q o nl l).1.map (key false) ∧ ((scan k p o nl l).2 = none ↔ (scan k q o nl l).2 = none)
  | [], k, p, q, o, nl => by cases k <;> exact ⟨rfl, Iff.rfl⟩
  | c :: r, k + 1, p, q, o, nl => by rw [scan, scan]; exact scan_key r _ _ _ _ _
  | c :: r, 0, p, q, o, nl => by
    rw [scan, scan]
    by_cases hb : c.toNat = 32 ∨ c.toNat = 9
    · rw [if_pos hb, if_pos hb]; exact scan_key r _ _ _ _ _
    · rw [if_neg hb, if_neg hb]
      by_cases h35 : c.toNat = 35
      · rw [if_pos h35, if_pos h35]; exact scan_key r _ _ _ _ _
      · rw [if_neg h35, if_neg h35]
        by_cases h10 : c.toNat = 10
        · rw [if_pos h10, if_pos h10]
          by_cases hn : o = 0 ∧ nl = false
          · rw [if_pos hn, if_pos hn]
            have := scan_key r 0 (p + 1) (q + 1) o true
            exact ⟨by simp only [List.map_cons, this.1]; rfl, this.2⟩
          · rw [if_neg hn, if_neg hn]; exact scan_key r _ _ _ _ _
        · rw [if_neg h10, if_neg h10]
          by_cases he : (tokS (c :: r)).2.2.2 = 0
          · rw [if_pos he, if_pos he]
            have := scan_key r ((tokS (c :: r)).2.2.1 - 1) (p + 1) (q + 1) (if (tokS (c :: r)).1 = 4 then opb (tokS (c :: r)).2.1 o else o) false
            exact ⟨by simp only [List.map_cons, this.1]; rfl, this.2⟩
          · rw [if_neg he, if_neg he]; exact ⟨rfl, by simp⟩
/-- without a newline ahead of its first token, a text reads alike behind a newline -/
theorem scan_nl : ∀ (l : Str) (k p o : Nat) (t : ApiToken) (ts : List ApiToken), (scan k p o false l).1 = t :: ts → t.kind ≠ 5 → scan k p o true l = scan k p o false l
  | [], k, p, o, t, ts, h, _ => by cases k <;> simp [scan] at h
  | c :: r, k + 1, p, o, t, ts, h, h5 => by rw [scan] at h; rw [scan, scan]; exact scan_nl r _ _ _ t ts h h5
  | c :: r, 0, p, o, t, ts, h, h5 => by
    rw [scan] at h
    rw [scan, scan]
    by_cases hb : c.toNat = 32 ∨ c.toNat = 9
    · rw [if_pos hb] at h; rw [if_pos hb, if_pos hb]; exact scan_nl r _ _ _ t ts h h5
    · rw [if_neg hb] at h; rw [if_neg hb, if_neg hb]
      by_cases h35 : c.toNat = 35
      · rw [if_pos h35] at h; rw [if_pos h35, if_pos h35]; exact scan_nl r _ _ _ t ts h h5
      · rw [if_neg h35] at h; rw [if_neg h35, if_neg h35]
        by_cases h10 : c.toNat = 10
        · rw [if_pos h10] at h; rw [if_pos h10, if_pos h10]
          by_cases hn : o = 0
          · rw [if_pos ⟨hn, rfl⟩] at h
            simp only [List.cons.injEq] at h
            exact absurd (by rw [← h.1]) h5
          · rw [if_neg (fun x => hn x.1)] at h
            rw [if_neg (fun x => hn x.1), if_neg (fun x => hn x.1)]
            exact scan_nl r _ _ _ t ts h h5
        · rw [if_neg h10, if_neg h10]
def badt (t : ApiToken) : Bool := (t.kind == 5) || ((t.kind == 4) && ((((t.text == ([40] : Str)) || (t.text == ([91] : Str))) || (t.text == ([41] : Str))) || (t.text == ([93] : Str))))
theorem opens_flat : ∀ (l : List ApiToken) (o : Nat), (∀ t ∈ l, badt t = false) → opens o l = o
  | [], o, _ => rfl
  | t :: r, o, h => by
    have ht := h t (List.mem_cons_self ..)
    rw [opens]
    have : (if t.kind = 4 then opb t.text o else o) = o := by
      split
      · rename_i h4
        simp only [badt, h4, Bool.or_eq_false_iff, Bool.and_eq_false_imp, beq_self_eq_true, true_implies, beq_eq_false_iff_ne, ne_eq] at ht
        unfold opb
        rw [if_neg (by simp [ht]), if_neg (by simp [ht])]
      · rfl
    rw [this]
    exact opens_flat r o (fun t ht => h t (List.mem_cons_of_mem _ ht))
theorem nls_flat : ∀ (l : List ApiToken), (∀ t ∈ l, badt t = false) → nls false l = false
  | [], _ => rfl
  | t :: r, h => by
    have ht := h t (List.mem_cons_self ..)
    rw [nls]
    have : (t.kind == 5) = false := by
      unfold badt at ht
      simp only [Bool.or_eq_false_iff] at ht
      exact ht.1
    rw [this]
    exact nls_flat r (fun t ht => h t (List.mem_cons_of_mem _ ht))
theorem lines_text {a b : Str} {l m : List ApiToken} {t : ApiToken} {m' : List ApiToken} (ha : scan 0 0 0 false a = (l, none)) (hb : scan 0 0 0 false b = (m, none)) (hl : ∀ t ∈ l, badt t = false) (hm : m = t :: m') (ht : t.kind ≠ 5) :
    ∃ w, scan 0 0 0 false (a ++ 10 :: b) = (w, none) ∧ w.map (key false) = (l ++ [(⟨5, [], 0⟩ : ApiToken)] ++ m).map (key false) := by
  have hs : sep (10 :: b) := Or.inr (Or.inl rfl)
  obtain ⟨j, h1, h2⟩ := scan_app hs a.length a 0 0 0 false l (Nat.le_refl _) (Nat.zero_le _) ha
  have hj : j = 0 := by
    rcases h1 with h1 | h1
    · exact h1
    · rw [h1, span_cons, if_neg (show ¬ notNL 10 = true by decide)]
  subst hj
  rw [opens_flat l 0 hl, nls_flat l hl, scan, if_neg (by decide), if_neg (by decide), if_pos (show (10 : UInt8).toNat = 10 from rfl), if_pos ⟨rfl, rfl⟩] at h2
  obtain ⟨k1, k2⟩ := scan_key b 0 0 (0 + a.length + 1) 0 false
  have e1 : ∃ t2 m2, (scan 0 (0 + a.length + 1) 0 false b).1 = t2 :: m2 ∧ t2.kind ≠ 5 := by
    rw [hb, hm] at k1
    simp only [List.map_cons] at k1
    match hx : (scan 0 (0 + a.length + 1) 0 false b).1 with
    | [] => rw [hx] at k1; simp at k1
    | t2 :: m2 =>
      rw [hx] at k1
      simp only [List.map_cons, List.cons.injEq, key, Prod.mk.injEq] at k1
      exact ⟨t2, m2, rfl, by rw [← k1.1.1]; exact ht⟩
  obtain ⟨t2, m2, e1, e2⟩ := e1
  rw [scan_nl b _ _ _ t2 m2 e1 e2] at h2
  rw [h2]
  rw [hb] at k1 k2
  have k3 := k2.1 rfl
  refine ⟨l ++ ⟨5, [], ((0 + a.length : Nat) : Int)⟩ :: (scan 0 (0 + a.length + 1) 0 false b).1, by rw [k3], ?_⟩
  simp only [List.map_append, List.map_cons, ← k1, List.append_assoc, List.map_nil, List.singleton_append]
  rfl
theorem lines_loop {a b : Str} {l m : List ApiToken} (hab : a.length + b.length + 1 ≤ 65536) (ha : scan 0 0 0 false a = (l, none)) (hb : scan 0 0 0 false b = (m, none)) (hm : m ≠ []) :
    ∀ (k i o : Nat), l.length < k + i → i ≤ l.length → o ≤ i → (o = 0 → ∀ t ∈ l.take i, badt t = false) → l09_LexerLines_l1 a b l m k (o : Int) (i : Int) = some true
  | 0, i, o, h, h', _, _ => by omega
  | k + 1, i, o, h, h', ho, hbad => by
    have hl : l.length ≤ 65536 := by have := scan_len a 0 0 0 false; rw [ha] at this; simp only at this; omega
    have hml : m.length ≤ 65536 := by have := scan_len b 0 0 0 false; rw [hb] at this; simp only at this; omega
    rw [l09_LexerLines_l1]
    by_cases hi : i < l.length
    · have w1 : w64 ((i : Int) + 1) = ((i + 1 : Nat) : Int) := by rw [w64_ok (by omega) (by omega)]; omega
      have w2 : w64 ((o : Int) + 1) = ((o + 1 : Nat) : Int) := by rw [w64_ok (by omega) (by omega)]; omega
      have hcond : (if (l[i].kind == 5) = true then some true else
            bind1 (idx l (i : Int)) fun e3 =>
            if e3.kind == 4 then
              bind1 (idx l (i : Int)) fun e4 =>
              bind1 (
                  if e4.text == ([40] : Str) then
                    some true
                  else
                    bind1 (idx l (i : Int)) fun e5 =>
                    some (e5.text == ([91] : Str))) fun b4 =>
              bind1 (
                  if b4 then
                    some true
                  else
                    bind1 (idx l (i : Int)) fun e6 =>
                    some (e6.text == ([41] : Str))) fun b5 =>
              if b5 then
                some true
              else
                bind1 (idx l (i : Int)) fun e7 =>
                some (e7.text == ([93] : Str))
            else
              some false) = some (badt l[i]) := by
        simp only [idxn hi, bind1_some, badt]
        cases (l[i].kind == 5) with
        | true => rfl
        | false =>
          cases (l[i].kind == 4) with
          | false => rfl
          | true =>
            cases (l[i].text == ([40] : Str)) with
            | true => rfl
            | false =>
              cases (l[i].text == ([91] : Str)) with
              | true => rfl
              | false =>
                cases (l[i].text == ([41] : Str)) with
                | true => rfl
                | false => rfl
      rw [if_pos (decide_eq_true (by omega))]
      rw [idxn hi, bind1_some, ← idxn hi, hcond, bind1_some, w1, w2]
      cases hx : badt l[i] with
      | true =>
        rw [if_pos rfl]
        exact lines_loop hab ha hb hm k (i + 1) (o + 1) (by omega) (by omega) (by omega) (fun h => by omega)
      | false =>
        rw [if_neg Bool.false_ne_true]
        refine lines_loop hab ha hb hm k (i + 1) o (by omega) (by omega) (by omega) (fun h => ?_)
        intro t ht
        rw [List.take_add_one, List.getElem?_eq_getElem hi] at ht
        simp only [Option.toList_some, List.mem_append, List.mem_singleton] at ht
        rcases ht with ht | ht
        · exact hbad h t ht
        · rw [ht]; exact hx
    · have hie : i = l.length := by omega
      rw [if_neg (by simp; omega)]
      obtain ⟨t, m', hm'⟩ : ∃ t m', m = t :: m' := by cases m with
        | nil => exact absurd rfl hm
        | cons t m' => exact ⟨t, m', rfl⟩
      have hm0 : idx m 0 = some t := by rw [hm']; rfl
      by_cases h0 : 0 < o
      · rw [if_pos (decide_eq_true (by omega)), bind1_some, if_pos rfl]; exact awake_ok
      · rw [if_neg (by simp; omega), hm0, bind1_some, bind1_some]
        by_cases h5 : t.kind = 5
        · rw [if_pos (beq_iff_eq.2 h5)]; exact awake_ok
        · rw [if_neg (fun h => h5 (beq_iff_eq.1 h))]
          rw [hie, List.take_length] at hbad
          obtain ⟨w, w3, w4⟩ := lines_text ha hb (hbad (by omega)) hm' h5
          have hwl : w.length = l.length + (m.length + 1) := by have := congrArg List.length w4; simpa using this
          rw [app_ok (by simp [LIM]; omega), bind1_some, app_ok (by simp [LIM]; omega), bind1_some, app_ok (by simp [LIM]; omega), bind1_some,
            app_ok (by simp [LIM]; omega), bind1_some, app_ok (by simp [LIM]; omega), bind1_some, List.append_assoc, List.singleton_append,
            ltokens_ok (by simp; omega), w3]
          have e : fin [] (w, (none : Option (Nat × Int))) = (w, 0, 0) := rfl
          rw [e, bind3_some, if_pos (show ((0 : Int) == 0) = true from rfl), List.nil_append, same_ok w4 (by omega), bind1_some, if_pos rfl]
          exact awake_ok
theorem lines_ok {a b : Str} (hab : a.length + b.length ≤ 1048576) : l09_LexerLines a b = some true := by
  unfold l09_LexerLines
  rw [ltokens_all, ltokens_all, bind3_some, bind3_some]
  rw [w64_ok (n := (a.length : Int) + (b.length : Int)) (by omega) (by omega), w64_ok (by omega) (by omega)]
  split
  · exact awake_ok
  · rename_i hc
    simp only [Bool.or_eq_true, bne_iff_ne, ne_eq, decide_eq_true_eq, not_or, Decidable.not_not, beq_iff_eq] at hc
    obtain ⟨⟨⟨⟨h1, h2⟩, h3⟩, h4⟩, h5⟩ := hc
    obtain ⟨a1, a2, a3⟩ := TT_ok h1
    obtain ⟨b1, b2, b3⟩ := TT_ok h2
    have ha : scan 0 0 0 false a = ((scan 0 0 0 false a).1, none) := by rw [← a2]
    have hb : scan 0 0 0 false b = ((scan 0 0 0 false b).1, none) := by rw [← b2]
    rw [b3] at h5
    rw [a3, b3]
    have hne : (scan 0 0 0 false b).1 ≠ [] := fun h => h5 (by rw [h]; rfl)
    have := lines_loop (by omega) ha hb hne BIG 0 0 (by have := scan_len a 0 0 0 false; simp only [BIG]; omega) (Nat.zero_le _) (Nat.le_refl _) (fun _ t ht => by simp at ht)
    rw [show (0 : Int) = ((0 : Nat) : Int) from rfl]
    exact this
end Go.Ft

namespace Go.Ft
open Go
attribute [local congr] ite_c1

/-- a token that reads back from its text -/
def OKt (t : ApiToken) : Prop := t.kind ≠ 5 ∧ t.text.length ≤ 4096 ∧ (∃ c r, tx t = c :: r ∧ c.toNat ≠ 32 ∧ c.toNat ≠ 9 ∧ c.toNat ≠ 35 ∧ c.toNat ≠ 10) ∧ ∀ suf, sep suf → tokS (tx t ++ suf) = (t.kind, t.text, (tx t).length, 0)
def WF : Nat → Bool → List ApiToken → Prop
  | _, _, [] => True
  | o, nl, t :: r => (t.kind = 5 ∧ t.text = [] ∧ o = 0 ∧ nl = false ∧ WF o true r) ∨ (OKt t ∧ WF (if t.kind = 4 then opb t.text o else o) false r)
theorem txt_len : ∀ (N : Nat) (l b : Str) (m : Nat), l.length ≤ N → (txt 0 b m l).2.2 = 0 → (txt 0 b m l).1.length ≤ 4096
  | N, [], b, m, _, h => by simp [txt] at h
  | 0, c :: r, b, m, hN, h => by simp at hN
  | N + 1, c :: r, b, m, hN, h => by
    rw [txt_cons] at h ⊢
    by_cases h34 : c.toNat = 34
    · rw [if_pos h34] at h ⊢
      by_cases hl : 4096 < b.length
      · rw [if_pos hl] at h; simp at h
      · rw [if_neg hl]; simp only; omega
    · rw [if_neg h34] at h ⊢
      by_cases he : (chr (c :: r)).2.2 = 0
      · rw [if_pos he] at h ⊢
        obtain ⟨n1, n2⟩ := chr_n he
        apply txt_len N
        · simp only [List.length_drop, List.length_cons] at hN ⊢; omega
        · exact h
      · rw [if_neg he] at h; exact absurd h he
theorem tokS_len {c : UInt8} {r : Str} (h : (tokS (c :: r)).2.2.2 = 0) : (tokS (c :: r)).2.1.length ≤ 4096 := by
  simp only [tokS] at h ⊢
  by_cases hd : isDigit c = true
  · rw [if_pos hd] at h ⊢
    by_cases h1 : (1 < span isDigit (c :: r) ∧ c.toNat = 48) ∨ span isDigit (c :: r) < span isWord (c :: r)
    · rw [if_pos h1] at h; simp at h
    · rw [if_neg h1] at h ⊢
      by_cases h2 : MAXN < val ((c :: r).take (span isDigit (c :: r)))
      · rw [if_pos h2] at h; simp at h
      · rw [if_neg h2]
        simp only
        by_cases h3 : 16 < span isDigit (c :: r)
        · exfalso
          apply h2
          obtain ⟨m, hm⟩ : ∃ m, span isDigit (c :: r) = m + 1 := ⟨span isDigit (c :: r) - 1, by omega⟩
          rw [hm, List.take_succ_cons]
          have hle := span_le isDigit (c :: r)
          simp only [List.length_cons] at hle
          exact val_long hd (by omega) (by rw [List.length_take]; omega)
        · rw [List.length_take]; omega
  · rw [if_neg hd] at h ⊢
    by_cases h34 : c.toNat = 34
    · rw [if_pos h34] at h ⊢
      by_cases he : (txt 0 [] 1 r).2.2 = 0
      · rw [if_pos he]; exact txt_len r.length r [] 1 (Nat.le_refl _) he
      · rw [if_neg he] at h; exact absurd h he
    · rw [if_neg h34] at h ⊢
      by_cases hl : isLetter c = true
      · rw [if_pos hl] at h ⊢
        by_cases h2 : 64 < span isWord (c :: r)
        · rw [if_pos h2] at h; simp at h
        · rw [if_neg h2]
          simp only
          rw [List.length_take]; omega
      · rw [if_neg hl] at h ⊢
        have hle : opn (c :: r) ≤ 2 := by
          cases r with
          | nil => simp only [opn]; split <;> omega
          | cons b r => simp only [opn]; split <;> (try split) <;> omega
        by_cases h2 : opn (c :: r) = 0
        · rw [if_pos h2] at h; simp at h
        · rw [if_neg h2]
          simp only
          rw [List.length_take]; omega
theorem tok_ok {c : UInt8} {r : Str} (h1 : c.toNat ≠ 32) (h2 : c.toNat ≠ 9) (h3 : c.toNat ≠ 35) (h4 : c.toNat ≠ 10) (h : (tokS (c :: r)).2.2.2 = 0) (p : Int) :
    OKt ⟨(tokS (c :: r)).1, (tokS (c :: r)).2.1, p⟩ := by
  have h5 := tokS_kind c r
  have hl := tokS_len h
  obtain ⟨n1, n2, _, _⟩ := tokS_last h
  refine ⟨h5, hl, ?_⟩
  by_cases hk : (tokS (c :: r)).1 = 3
  · have e : tx (⟨(tokS (c :: r)).1, (tokS (c :: r)).2.1, p⟩ : ApiToken) = quo (tokS (c :: r)).2.1 := by unfold tx; rw [if_pos hk]
    rw [e]
    refine ⟨⟨34, _, rfl, by decide, by decide, by decide, by decide⟩, fun suf hs => ?_⟩
    rw [tokS_quo _ _ hl]
    simp only [hk]
  · have e : tx (⟨(tokS (c :: r)).1, (tokS (c :: r)).2.1, p⟩ : ApiToken) = (tokS (c :: r)).2.1 := by unfold tx; rw [if_neg hk, if_neg h5]
    rw [e]
    obtain ⟨t1, t2⟩ := tokS_take h hk
    obtain ⟨m, hm⟩ : ∃ m, (tokS (c :: r)).2.2.1 = m + 1 := ⟨(tokS (c :: r)).2.2.1 - 1, by omega⟩
    have htt : (c :: r).take (m + 1) = c :: r.take m := rfl
    have hlen : (tokS (c :: r)).2.1.length = (tokS (c :: r)).2.2.1 := by
      rw [t1, List.length_take]
      simp only [List.length_cons]
      omega
    refine ⟨⟨c, r.take m, by rw [t1, hm, htt], h1, h2, h3, h4⟩, fun suf hs => ?_⟩
    rw [hm, htt] at t2
    have e2 : (tokS (c :: r)).2.1 ++ suf = c :: (r.take m ++ suf) := by rw [t1, hm, htt]; rfl
    have e3 : (tokS (c :: r.take m)).2.2.2 = 0 := by rw [t2]; exact h
    rw [e2, tokS_app hs e3, t2, hlen]
    simp only [← h]
theorem scan_wf : ∀ (l : Str) (k p o : Nat) (nl : Bool), WF o nl (scan k p o nl l).1
  | [], k, p, o, nl => by cases k <;> exact trivial
  | c :: r, k + 1, p, o, nl => by rw [scan]; exact scan_wf r _ _ _ _
  | c :: r, 0, p, o, nl => by
    rw [scan]
    by_cases hb : c.toNat = 32 ∨ c.toNat = 9
    · rw [if_pos hb]; exact scan_wf r _ _ _ _
    · rw [if_neg hb]
      by_cases h35 : c.toNat = 35
      · rw [if_pos h35]; exact scan_wf r _ _ _ _
      · rw [if_neg h35]
        by_cases h10 : c.toNat = 10
        · rw [if_pos h10]
          by_cases hn : o = 0 ∧ nl = false
          · rw [if_pos hn]
            exact Or.inl ⟨rfl, rfl, hn.1, hn.2, scan_wf r _ _ _ _⟩
          · rw [if_neg hn]; exact scan_wf r _ _ _ _
        · rw [if_neg h10]
          by_cases he : (tokS (c :: r)).2.2.2 = 0
          · rw [if_pos he]
            exact Or.inr ⟨tok_ok (by omega) (by omega) h35 h10 he _, scan_wf r _ _ _ _⟩
          · rw [if_neg he]; exact trivial
theorem WF.len : ∀ {l : List ApiToken} {o : Nat} {nl : Bool}, WF o nl l → ∀ t ∈ l, t.text.length ≤ 4096
  | [], _, _, _, t, h => by simp at h
  | u :: r, o, nl, hw, t, h => by
    rcases hw with ⟨_, h2, _, _, h3⟩ | ⟨h2, h3⟩
    · rcases List.mem_cons.1 h with e | e
      · rw [e, h2]; exact Nat.zero_le _
      · exact WF.len h3 t e
    · rcases List.mem_cons.1 h with e | e
      · rw [e]; exact h2.2.1
      · exact WF.len h3 t e
theorem sep_joi : ∀ (l : List ApiToken), sep (joi true l)
  | [] => trivial
  | t :: r => by
    rw [joi]
    by_cases h5 : t.kind = 5
    · rw [if_neg (fun h => h.2 h5), List.nil_append]
      unfold tx
      rw [if_neg (by omega), if_pos h5]
      exact Or.inr (Or.inl rfl)
    · rw [if_pos ⟨rfl, h5⟩]
      exact Or.inl rfl
theorem rescan : ∀ (l : List ApiToken) (o p : Nat) (nl sp : Bool), WF o nl l → ∃ w, scan 0 p o nl (joi sp l) = (w, none) ∧ w.map (key false) = l.map (key false)
  | [], o, p, nl, sp, _ => ⟨[], rfl, rfl⟩
  | t :: r, o, p, nl, sp, hw => by
    rw [joi]
    rcases hw with ⟨h1, h2, h3, h4, h5⟩ | ⟨⟨h1, _, ⟨c, s, h2, g1, g2, g3, g4⟩, h3⟩, h5⟩
    · rw [if_neg (fun h => h.2 h1), List.nil_append]
      have e : tx t = [10] := by unfold tx; rw [if_neg (by omega), if_pos h1]
      obtain ⟨w, w1, w2⟩ := rescan r o (p + 1) true (t.kind != 5) h5
      rw [e, List.singleton_append, scan, if_neg (by decide), if_neg (by decide), if_pos (show (10 : UInt8).toNat = 10 from rfl), if_pos ⟨h3, h4⟩, w1]
      exact ⟨_, rfl, by simp only [List.map_cons, w2, key, h1, h2, Bool.false_eq_true, if_false]⟩
    · have e5 : (t.kind != 5) = true := bne_iff_ne.2 h1
      rw [e5]
      have go : ∀ p, ∃ w, scan 0 p o nl (tx t ++ joi true r) = (w, none) ∧ w.map (key false) = (t :: r).map (key false) := by
        intro p
        have ht := h3 (joi true r) (sep_joi r)
        rw [h2, List.cons_append] at ht ⊢
        rw [scan, if_neg (by omega), if_neg g3, if_neg g4, ht, if_pos rfl]
        simp only [List.length_cons, Nat.add_sub_cancel]
        have hsk := scan_skip s.length 0 (p + 1) (if t.kind = 4 then opb t.text o else o) false (s ++ joi true r) (by simp)
        rw [Nat.zero_add, List.drop_left] at hsk
        obtain ⟨w, w1, w2⟩ := rescan r _ (p + 1 + s.length) false true h5
        rw [hsk, w1]
        exact ⟨_, rfl, by simp only [List.map_cons, w2, key, Bool.false_eq_true, if_false]⟩
      cases sp with
      | false =>
        rw [if_neg (fun h => Bool.false_ne_true h.1), List.nil_append]
        exact go p
      | true =>
        rw [if_pos ⟨rfl, h1⟩, List.append_assoc, List.singleton_append, scan, if_pos (show (32 : UInt8).toNat = 32 ∨ _ from Or.inl rfl)]
        exact go (p + 1)
theorem joi_key : ∀ (l m : List ApiToken) (sp : Bool), l.map (key false) = m.map (key false) → joi sp l = joi sp m
  | [], [], sp, _ => rfl
  | [], _ :: _, sp, h => by simp at h
  | _ :: _, [], sp, h => by simp at h
  | t :: l, u :: m, sp, h => by
    simp only [List.map_cons, List.cons.injEq, key, Prod.mk.injEq] at h
    have ih := joi_key l m (t.kind != 5) h.2
    rw [joi, joi, ih, ← h.1.1]
    congr 2
    unfold tx
    rw [h.1.1, h.1.2.1]
theorem plain_LexerBack (s : Str) : l09_LexerBack s = some true := by
  unfold l09_LexerBack
  rw [ltokens_all, bind3_some]
  by_cases he : (TT s).2.2 = 0
  · rw [if_neg (by simp [he])]
    obtain ⟨a1, a2, a3⟩ := TT_ok he
    have hw := scan_wf s 0 0 0 false
    have hl := scan_len s 0 0 0 false
    rw [a3]
    generalize (scan 0 0 0 false s).1 = l at hw hl
    have hj := ljoin_ok (ts := l) (N := 4096) (by omega) (by omega) hw.len
    rw [hj, bind1_some]
    split
    · exact awake_ok
    · rename_i hc
      simp only [decide_eq_true_eq] at hc
      obtain ⟨w, w1, w2⟩ := rescan l 0 0 false false hw
      have hww := scan_wf (joi false l) 0 0 0 false
      rw [w1] at hww
      simp only at hww
      have hwl : w.length = l.length := by have := congrArg List.length w2; simpa using this
      rw [ltokens_ok (by omega), w1]
      have e : fin [] (w, (none : Option (Nat × Int))) = (w, 0, 0) := rfl
      rw [e, bind3_some, if_pos (show ((0 : Int) == 0) = true from rfl), same_ok w2.symm (by omega), bind1_some, if_pos rfl, ljoin_ok (N := 4096) (by omega) (by omega) hww.len, bind1_some, joi_key w l false w2, beq_self_eq_true, bind1_some, if_pos rfl]
      exact awake_ok
  · rw [if_pos (bne_iff_ne.2 he), TT_err he]
    exact awake_ok
end Go.Ft

namespace Go.Ft
open Go
def ApiToken.bulk (x : ApiToken) : Nat := 1 + (x.text.length + 1) + 1 + 1
theorem bulk_text {l : List ApiToken} {t : ApiToken} (h : t ∈ l) : t.text.length ≤ (List.map (fun z : ApiToken => (ApiToken.bulk z)) l).sum := by
  induction l with
  | nil => simp at h
  | cons u r ih =>
    rw [List.map_cons, List.sum_cons]
    rcases List.mem_cons.1 h with e | e
    · subst e; simp only [ApiToken.bulk]; omega
    · have := ih e; omega
theorem law_LexerTokens : ∀ (x0 : Str), (x0.length + 1) ≤ 1048576 → l09_LexerTokens x0 = some true := fun s _ => plain_LexerTokens s
theorem law_LexerJoins : ∀ (x0 : List ApiToken) (x1 : Str), ((List.map (fun z : ApiToken => (ApiToken.bulk z)) x0).sum + 1) + (x1.length + 1) ≤ 1048576 → l09_LexerJoins x0 x1 = some true :=
  fun l s h => joins_ok fun t ht => by have := bulk_text ht; omega
theorem law_LexerBack : ∀ (x0 : Str), (x0.length + 1) ≤ 1048576 → l09_LexerBack x0 = some true := fun s _ => plain_LexerBack s
theorem law_LexerStrings : ∀ (x0 : Str), (x0.length + 1) ≤ 1048576 → l09_LexerStrings x0 = some true := fun s h => strings_ok (by omega)
theorem law_LexerEnds : ∀ (x0 : Str) (x1 : UInt8), (x0.length + 1) + 1 ≤ 1048576 → l09_LexerEnds x0 x1 = some true := fun s b _ => plain_LexerEnds s b
theorem law_LexerLines : ∀ (x0 : Str) (x1 : Str), (x0.length + 1) + (x1.length + 1) ≤ 1048576 → l09_LexerLines x0 x1 = some true := fun a b h => lines_ok (by omega)
end Go.Ft
