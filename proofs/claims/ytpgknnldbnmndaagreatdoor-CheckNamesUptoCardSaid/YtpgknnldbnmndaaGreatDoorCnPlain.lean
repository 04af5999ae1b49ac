/- Proved here: plain facts on the functional texts. -/
import Derived.Test.YtpgknnldbnmndaaGreatDoorCnFt
import Derived.Test.YtpgknnldbnmndaaGreatDoorCnPre
set_option linter.unusedVariables false
set_option linter.unusedSimpArgs false
set_option maxHeartbeats 2000000
namespace Go.Ft
open Go
attribute [local congr] ite_c1
theorem le_sum' {α : Type} {f : α → Nat} {l : List α} {x : α} (h : x ∈ l) : f x ≤ (l.map f).sum := by
  induction l with
  | nil => cases h
  | cons y l ih =>
    simp only [List.map_cons, List.sum_cons]
    rcases List.mem_cons.1 h with rfl | h
    · omega
    · have := ih h; omega
theorem len_sum {α : Type} {f : α → Nat} {l : List α} (h : ∀ x, 1 ≤ f x) : l.length ≤ (l.map f).sum := by
  induction l with
  | nil => simp
  | cons y l ih => simp only [List.map_cons, List.sum_cons, List.length_cons]; have := h y; omega
theorem ApiValue.bulk_pos (v : ApiValue) : 1 ≤ v.bulk := by rw [ApiValue.bulk_eq]; omega
theorem ApiExpr.bulk_pos (v : ApiExpr) : 1 ≤ v.bulk := by rw [ApiExpr.bulk_eq]; omega
theorem ApiType.bulk_pos (v : ApiType) : 1 ≤ v.bulk := by rw [ApiType.bulk_eq]; omega
theorem vlist_len (v : ApiValue) : v.list_.length < v.bulk := by rw [ApiValue.bulk_eq, ApiValue.bulkL_eq]; have := len_sum (l := v.list_) ApiValue.bulk_pos; omega
theorem vlist_mem {v x : ApiValue} (h : x ∈ v.list_) : x.bulk < v.bulk := by rw [ApiValue.bulk_eq v, ApiValue.bulkL_eq]; have := le_sum' (f := ApiValue.bulk) h; omega
theorem vkeys_len (v : ApiValue) : v.keys.length < v.bulk := by rw [ApiValue.bulk_eq]; have := len_sum (l := v.keys) (f := fun z : Str => z.length + 1) (fun x => by omega); omega
theorem vkeys_mem {v : ApiValue} {x : Str} (h : x ∈ v.keys) : x.length < v.bulk := by rw [ApiValue.bulk_eq v]; have := le_sum' (f := fun z : Str => z.length + 1) h; omega
theorem eargs_len (e : ApiExpr) : e.args.length < e.bulk := by rw [ApiExpr.bulk_eq, ApiExpr.bulkL_eq]; have := len_sum (l := e.args) ApiExpr.bulk_pos; omega
theorem eargs_mem {e x : ApiExpr} (h : x ∈ e.args) : x.bulk < e.bulk := by rw [ApiExpr.bulk_eq e, ApiExpr.bulkL_eq]; have := le_sum' (f := ApiExpr.bulk) h; omega
theorem ekeys_len (v : ApiExpr) : v.keys.length < v.bulk := by rw [ApiExpr.bulk_eq]; have := len_sum (l := v.keys) (f := fun z : Str => z.length + 1) (fun x => by omega); omega
theorem ename_len (v : ApiExpr) : v.name.length < v.bulk := by rw [ApiExpr.bulk_eq]; omega
theorem evalue_bulk (v : ApiExpr) : v.value.bulk < v.bulk := by rw [ApiExpr.bulk_eq]; omega
mutual
def ecnt : ApiExpr → Nat
  | ⟨_, _, _, args, _⟩ => 1 + ecntL args
def ecntL : List ApiExpr → Nat
  | [] => 0
  | x :: r => ecnt x + ecntL r
end
theorem ecnt_eq (e : ApiExpr) : ecnt e = 1 + ecntL e.args := by cases e; rfl
theorem ecntL_le : ∀ (l : List ApiExpr) (n : Nat), (∀ x ∈ l, ecnt x ≤ x.bulk) → ecntL l ≤ (l.map ApiExpr.bulk).sum
  | [], _, _ => by simp [ecntL]
  | x :: r, n, h => by
    simp only [ecntL, List.map_cons, List.sum_cons]
    have := h x (by simp)
    have := ecntL_le r n fun y hy => h y (by simp [hy])
    omega
theorem ecnt_le : ∀ (n : Nat) (e : ApiExpr), e.bulk ≤ n → ecnt e ≤ e.bulk
  | 0, e, h => by have := e.bulk_pos; omega
  | n + 1, e, h => by
    rw [ecnt_eq, ApiExpr.bulk_eq, ApiExpr.bulkL_eq]
    have := ecntL_le e.args n fun x hx => ecnt_le n x (by have := eargs_mem hx; omega)
    omega
theorem countL {go : ApiExpr → Option Int} : ∀ (l : List ApiExpr) (i s : Nat), (∀ x ∈ l, go x = some (ecnt x : Int)) → s + ecntL l < 4611686018427387904 →
    scanS (fun _ e2 (n1 : Int) r => bind1 (go e2) fun x2 => r (w64 (n1 + x2))) (fun n1 => some n1) i l (s : Int) = some ((s + ecntL l : Nat) : Int)
  | [], i, s, _, _ => by simp [scanS, ecntL]
  | x :: r, i, s, h, hs => by
    simp only [ecntL] at hs ⊢
    rw [scanS, h x (by simp)]
    simp only [bind1_some]
    have : w64 ((s : Int) + (ecnt x : Int)) = ((s + ecnt x : Nat) : Int) := by rw [w64z (by omega)]; omega
    rw [this, countL r (i + 1) (s + ecnt x) (fun y hy => h y (by simp [hy])) (by omega)]
    simp only [Option.some.injEq, Int.natCast_inj]; omega
theorem count_n : ∀ (n : Nat) (e : ApiExpr), e.bulk ≤ n → e.bulk < 4611686018427387904 → parser_Count_n (n + 1) e = some (ecnt e : Int) ∧ r10_Count_n (n + 1) e = some (ecnt e : Int)
  | 0, e, h, _ => by have := e.bulk_pos; omega
  | n + 1, e, h, hB => by
    have hl := eargs_len e
    have hle := ecnt_le _ e (Nat.le_refl _)
    rw [ecnt_eq] at hle
    constructor
    · unfold parser_Count_n parser_Count_b
      have := scanS_big (F := fun k s i => parser_Count_l1 (parser_Count_n (n + 1)) e k s i) (l := e.args) (body := fun _ e2 (n1 : Int) r => bind1 (parser_Count_n (n + 1) e2) fun x2 => r (w64 (n1 + x2))) (fin := fun n1 => some n1) (by omega) (fun k s i => rfl) 1
      rw [this, show (1 : Int) = ((1 : Nat) : Int) from rfl, countL e.args 0 1 (fun x hx => (count_n n x (by have := eargs_mem hx; omega) (by have := eargs_mem hx; omega)).1) (by omega), ecnt_eq]
    · unfold r10_Count_n r10_Count_b
      have := scanS_big (F := fun k s i => r10_Count_l1 (r10_Count_n (n + 1)) e k s i) (l := e.args) (body := fun _ e2 (n1 : Int) r => bind1 (r10_Count_n (n + 1) e2) fun x2 => r (w64 (n1 + x2))) (fin := fun n1 => some n1) (by omega) (fun k s i => rfl) 1
      rw [this, show (1 : Int) = ((1 : Nat) : Int) from rfl, countL e.args 0 1 (fun x hx => (count_n n x (by have := eargs_mem hx; omega) (by have := eargs_mem hx; omega)).2) (by omega), ecnt_eq]
theorem BIG_succ : ∃ n, BIG = n + 1 ∧ 9223372036854775807 ≤ n := ⟨BIG - 1, by decide, by decide⟩
theorem count_eq {e : ApiExpr} (h : e.bulk < 4611686018427387904) : parser_Count e = some (ecnt e : Int) ∧ r10_Count e = some (ecnt e : Int) := by
  obtain ⟨n, hn, hn2⟩ := BIG_succ
  unfold parser_Count r10_Count
  rw [hn]
  exact count_n n e (by omega) h
def isName (s : Str) : Bool := decide (1 ≤ s.length) && decide (s.length ≤ 64) && (match s with | c :: _ => isLet c | [] => false) && s.all fun c => isLet c || isDig c
def isPlain (s : Str) : Bool := isName s && !((s == ([116, 114, 117, 101] : Str)) || (s == ([102, 97, 108, 115, 101] : Str)) || (s == ([110, 117, 108, 108] : Str)))
theorem nameL (s : Str) (hs : s.length < 4611686018427387904) : parser_name_l1 s BIG 0 = some (s.all fun c => isLet c || isDig c) := by
  have := scanS_big (F := fun k (_ : Unit) i => parser_name_l1 s k i) (l := s) (body := fun (i : Nat) x3 _ r => bind1 (if !(isLet x3) then bind1 (idx s (i : Int)) fun x5 => some (!(isDig x5)) else some false) fun b2 => if b2 then some false else r ()) (fin := fun _ => some true) hs (fun k s i => rfl) ()
  rw [this]
  have key : ∀ (t : Str) (i : Nat), t = s.drop i → scanS (fun (i : Nat) x3 (_ : Unit) r => bind1 (if !(isLet x3) then bind1 (idx s (i : Int)) fun x5 => some (!(isDig x5)) else some false) fun b2 => if b2 then some false else r ()) (fun _ => some true) i t () = some (t.all fun c => isLet c || isDig c) := by
    intro t
    induction t with
    | nil => intro i _; rfl
    | cons c t ih =>
      intro i ht
      have hi : i < s.length := by
        rcases Nat.lt_or_ge i s.length with h | h
        · exact h
        · rw [List.drop_eq_nil_of_le h] at ht; cases ht
      have hc := List.drop_eq_getElem_cons hi
      rw [← ht] at hc
      have e1 : c = s[i] := (List.cons.inj hc).1
      have e2 := (List.cons.inj hc).2
      rw [scanS, idxn hi, ← e1]
      simp only [bind1_some]
      rw [ih (i + 1) e2]
      cases h1 : isLet c <;> cases h2 : isDig c <;> simp [h1, h2]
  exact key s 0 rfl
theorem p_name (s : Str) (hs : s.length < 4611686018427387904) : parser_name s = some (isName s) := by
  unfold parser_name isName
  rw [nameL s hs]
  by_cases h1 : s.length < 1
  · have : s = [] := by cases s; rfl; simp at h1
    subst this; simp
  · by_cases h2 : 64 < s.length
    · have e1 : decide ((64 : Int) < (s.length : Int)) = true := by simp; omega
      have e2 : decide (s.length ≤ 64) = false := by simp; omega
      simp [e1, e2]
    · cases s with
      | nil => simp at h1
      | cons c s =>
        have e1 : decide ((((c :: s).length : Nat) : Int) < 1) = false := by simp; omega
        have e2 : decide ((64 : Int) < (((c :: s).length : Nat) : Int)) = false := by simp at h2 ⊢; omega
        have e3 : decide ((c :: s).length ≤ 64) = true := by simp at h2 ⊢; omega
        have e4 : idx (c :: s) 0 = some c := rfl
        rw [e1, e2, e3, e4]
        cases h3 : isLet c <;> simp [h3]
theorem r_name (s : Str) (hs : s.length < 4611686018427387904) : r09_Name s = some (isName s) := by
  unfold r09_Name
  have := scanS_big (F := fun k (_ : Unit) i => r09_Name_l1 s k i) (l := s) (body := fun (i : Nat) x3 _ r => bind1 (if !(isLet x3) then (if (i : Int) == 0 then some true else bind1 (idx s (i : Int)) fun x5 => some (!(isDig x5))) else some false) fun b2 => if b2 then some false else r ())
    (fin := fun _ => some ((decide (1 ≤ (s.length : Int))) && (decide ((s.length : Int) ≤ 64)))) hs (fun k s i => rfl) ()
  rw [this]
  have key : ∀ (t : Str) (i : Nat), t = s.drop i → scanS (fun (i : Nat) x3 (_ : Unit) r => bind1 (if !(isLet x3) then (if (i : Int) == 0 then some true else bind1 (idx s (i : Int)) fun x5 => some (!(isDig x5))) else some false) fun b2 => if b2 then some false else r ())
      (fun _ => some ((decide (1 ≤ (s.length : Int))) && (decide ((s.length : Int) ≤ 64)))) i t () = some ((decide (1 ≤ s.length) && decide (s.length ≤ 64)) && ((if i = 0 then (match t with | c :: _ => isLet c | [] => true) else true) && t.all fun c => isLet c || isDig c)) := by
    intro t
    induction t with
    | nil =>
      intro i _
      rw [scanS]
      have e1 : decide ((1 : Int) ≤ (s.length : Int)) = decide (1 ≤ s.length) := by congr 1; simp; omega
      have e2 : decide ((s.length : Int) ≤ 64) = decide (s.length ≤ 64) := by congr 1; simp; omega
      rw [e1, e2]; simp
    | cons c t ih =>
      intro i ht
      have hi : i < s.length := by
        rcases Nat.lt_or_ge i s.length with h | h
        · exact h
        · rw [List.drop_eq_nil_of_le h] at ht; cases ht
      have hc := List.drop_eq_getElem_cons hi
      rw [← ht] at hc
      have e1 : c = s[i] := (List.cons.inj hc).1
      have e2 := (List.cons.inj hc).2
      rw [scanS, idxn hi, ← e1]
      simp only [bind1_some]
      rw [ih (i + 1) e2]
      by_cases h0 : i = 0
      · subst h0
        cases h1 : isLet c <;> simp [h1]
      · have : ((i : Int) == 0) = false := by simp; omega
        rw [this]
        cases h1 : isLet c <;> cases h2 : isDig c <;> simp [h1, h2, h0]
  rw [key s 0 rfl]
  unfold isName
  cases s with
  | nil => simp
  | cons c s => simp [Bool.and_assoc]
theorem plain_eq (s : Str) (hs : s.length < 4611686018427387904) : parser_plain s = some (isPlain s) ∧ r10_Plain s = some (isPlain s) := by
  unfold parser_plain r10_Plain isPlain parser_word
  rw [p_name s hs, r_name s hs]
  constructor
  · cases isName s <;> simp
  · simp only [bind1_some, Option.some.injEq]
    cases isName s <;> simp [Bool.not_or, Bool.and_assoc]
theorem strength_eq (s : Str) : r10_Strength s = parser_strength s := rfl
theorem strength_some (s : Str) : ∃ n, parser_strength s = some n := by
  have : (parser_strength s).isSome = true := by
    unfold parser_strength
    simp only [apply_ite Option.isSome, Option.isSome_some, ite_self]
  exact Option.isSome_iff_exists.1 this
end Go.Ft

namespace Go.Ft
open Go
attribute [local congr] ite_c1
def keyOK (s : Str) : Bool := decide (1 ≤ s.length) && decide (s.length ≤ 64)
def ncmp (a b : Str) : Int := (r04_Compare a b).getD 0
theorem ncmp_eq {a b : Str} (ha : a.length < 4611686018427387904) (hb : b.length < 4611686018427387904) : ident_Compare a b = some (ncmp a b) ∧ r04_Compare a b = some (ncmp a b) := by
  obtain ⟨c, h1, h2⟩ := compare_eq ha hb
  unfold ncmp
  rw [h2]
  exact ⟨h1, rfl⟩
def ascL : Option Str → List Str → Bool
  | _, [] => true
  | p, k :: r => keyOK k && (match p with | none => true | some q => decide (ncmp q k < 0)) && ascL (some k) r
theorem keyOK_i (s : Str) : ((decide ((s.length : Int) < 1)) || (decide (64 < (s.length : Int)))) = !keyOK s := by
  unfold keyOK
  rw [Bool.eq_iff_iff]
  simp only [Bool.or_eq_true, Bool.not_eq_true', Bool.and_eq_false_iff, decide_eq_true_eq, decide_eq_false_iff_not]
  omega
theorem key_eq (s : Str) : r07_key s = some (keyOK s) := by
  unfold r07_key keyOK
  simp only [Option.some.injEq]
  rw [Bool.eq_iff_iff]
  simp only [Bool.and_eq_true, decide_eq_true_eq]
  omega
def prevOf (l : List Str) (i : Nat) : Option Str := if i = 0 then none else l[i - 1]?
theorem asc_gen {v : ApiValue} (hv : v.bulk < 4611686018427387904) : ∀ (k i : Nat), v.keys.length < k + i → i ≤ v.keys.length →
    value_keyed_l1 v k (i : Int) = some (ascL (prevOf v.keys i) (v.keys.drop i)) ∧
    r07_ascending_l1 v k (i : Int) = some (ascL (prevOf v.keys i) (v.keys.drop i) && ((v.keys.length : Int) == (v.list_.length : Int)))
  | 0, i, h, h' => by omega
  | k + 1, i, h, h' => by
    have hlen := vkeys_len v
    rw [value_keyed_l1, r07_ascending_l1]
    by_cases hi : i < v.keys.length
    · have hm : v.keys[i] ∈ v.keys := List.getElem_mem hi
      have hb := vkeys_mem hm
      rw [List.drop_eq_getElem_cons hi, if_pos (by simp; omega), if_pos (by simp; omega), idxn hi]
      simp only [bind1_some, keyOK_i, key_eq, ascL]
      obtain ⟨ih1, ih2⟩ := asc_gen hv k (i + 1) (by omega) (by omega)
      have hp : prevOf v.keys (i + 1) = some v.keys[i] := by simp [prevOf, hi]
      rw [hp] at ih1 ih2
      rw [w64s (by omega), ih1, ih2]
      by_cases h0 : i = 0
      · subst h0
        have hp0 : prevOf v.keys 0 = none := rfl
        rw [hp0]
        cases keyOK v.keys[0] <;> simp
      · have hi1 : i - 1 < v.keys.length := by omega
        have hm1 : v.keys[i - 1] ∈ v.keys := List.getElem_mem hi1
        have hb1 := vkeys_mem hm1
        have hp0 : prevOf v.keys i = some v.keys[i - 1] := by simp [prevOf, h0, hi1]
        have e1 : w64 ((i : Int) - 1) = ((i - 1 : Nat) : Int) := by rw [w64z (by omega)]; omega
        obtain ⟨c1, c2⟩ := ncmp_eq (a := v.keys[i - 1]) (b := v.keys[i]) (by omega) (by omega)
        have hpos : decide ((0 : Int) < (i : Int)) = true := by simp; omega
        rw [hp0, e1, hpos, idxn hi1]
        simp only [bind1_some, c1, c2, if_true]
        have hn : decide (ncmp v.keys[i - 1] v.keys[i] < 0) = !decide (0 ≤ ncmp v.keys[i - 1] v.keys[i]) := by
          by_cases h : 0 ≤ ncmp v.keys[i - 1] v.keys[i] <;> simp [h] <;> omega
        rw [hn]
        cases keyOK v.keys[i] <;> cases decide (0 ≤ ncmp v.keys[i - 1] v.keys[i]) <;> simp
    · have : i = v.keys.length := by omega
      subst this
      simp [ascL]
theorem keyed_eq {v : ApiValue} (hv : v.bulk < 4611686018427387904) : value_keyed v = some (((v.keys.length : Int) == (v.list_.length : Int)) && ascL none v.keys) ∧ r07_ascending v = some (((v.keys.length : Int) == (v.list_.length : Int)) && ascL none v.keys) := by
  have hlen := vkeys_len v
  obtain ⟨h1, h2⟩ := asc_gen hv BIG 0 (by have := BIG_lt; omega) (by omega)
  have hp0 : prevOf v.keys 0 = none := rfl
  rw [hp0, List.drop_zero] at h1 h2
  unfold value_keyed r07_ascending
  rw [show (0 : Int) = ((0 : Nat) : Int) from rfl, h1, h2]
  by_cases h : (v.keys.length : Int) = (v.list_.length : Int)
  · simp [h]
  · have : ((v.keys.length : Int) == (v.list_.length : Int)) = false := by simpa using h
    simp [this]
    intro hh; exact absurd hh h
def vplain (v : ApiValue) : Bool :=
  (((((v.kind == 1) || (!v.bool_)) && ((v.kind == 2) || (v.int_ == 0))) && ((v.kind == 3) || (v.str_ == ([] : Str)))) && (((v.kind == 4) || (v.kind == 5)) || ((v.list_.length : Int) == 0))) && ((v.kind == 5) || ((v.keys.length : Int) == 0))
theorem plain7 (v : ApiValue) : r07_plain v = some (vplain v) := by
  unfold r07_plain vplain
  have hl : decide (0 < (v.list_.length : Int)) = !((v.list_.length : Int) == 0) := by
    cases h : v.list_ <;> simp
    omega
  rw [hl]
  have hk : ∀ n : Int, (v.kind != n) = !(v.kind == n) := fun n => rfl
  have hi : (v.int_ != 0) = !(v.int_ == 0) := rfl
  rw [hk, hk, hk, hk, hk, hi]
  generalize (v.kind == 1) = a1
  generalize (v.kind == 2) = a2
  generalize (v.kind == 3) = a3
  generalize (v.kind == 4) = a4
  generalize (v.kind == 5) = a5
  generalize v.bool_ = b
  generalize (v.int_ == 0) = c
  generalize (v.str_ == ([] : Str)) = d
  generalize ((v.list_.length : Int) == 0) = e
  generalize ((v.keys.length : Int) == 0) = f
  revert a1 a2 a3 a4 a5 b c d e f
  decide
def vnode (v : ApiValue) (level : Nat) : Int :=
  if 16 < level then 13
  else if (decide (v.kind < 0)) || (decide (5 < v.kind)) || !vplain v then 1
  else if (decide (v.int_ < (-9007199254740992))) || (decide (9007199254740992 < v.int_)) then 2
  else if ((decide (4096 < (v.str_.length : Int))) || (decide (1024 < (v.list_.length : Int)))) || (decide (1024 < (v.keys.length : Int))) then 3
  else if v.kind == 5 && !(((v.keys.length : Int) == (v.list_.length : Int)) && ascL none v.keys) then 1
  else if (((v.kind == 4) || (v.kind == 5)) && ((v.list_.length : Int) == 0)) && level == 16 then 13
  else 0
theorem node_eq {v : ApiValue} (hv : v.bulk < 4611686018427387904) (level : Nat) : value_node v (level : Int) = some (vnode v level) := by
  unfold value_node vnode value_unused
  have h16 : decide ((16 : Int) < (level : Int)) = decide (16 < level) := by congr 1; simp; omega
  have h16e : ((level : Int) == 16) = (level == 16) := by
    rw [Bool.eq_iff_iff]; simp only [beq_iff_eq]; omega
  rw [h16, h16e, (keyed_eq hv).1]
  change (if decide (16 < level) = true then some 13 else bind1 (if (decide (v.kind < 0) || decide (5 < v.kind)) = true then some true else bind1 (some (vplain v)) fun x1 => some (!x1)) _) = _
  by_cases h0 : 16 < level
  · simp [h0]
  · simp only [h0, decide_false, Bool.false_eq_true, if_false, bind1_some]
    cases h1 : (decide (v.kind < 0) || decide (5 < v.kind)) with
    | true => simp
    | false =>
      cases h2 : vplain v with
      | false => simp
      | true =>
        simp only [Bool.false_eq_true, if_false, Bool.not_true, bind1_some, Bool.or_self]
        split
        · rfl
        · split
          · rfl
          · cases h3 : (v.kind == 5) <;> cases h4 : (((v.keys.length : Int) == (v.list_.length : Int)) && ascL none v.keys) <;> simp <;> (first | rfl | (split <;> rfl))
mutual
def vchk : ApiValue → Nat → Int
  | ⟨a, b, c, d, l, f⟩, level => if vnode ⟨a, b, c, d, l, f⟩ level != 0 then vnode ⟨a, b, c, d, l, f⟩ level else vchkL l (level + 1)
def vchkL : List ApiValue → Nat → Int
  | [], _ => 0
  | x :: r, level => if vchk x level != 0 then vchk x level else vchkL r level
end
theorem vchk_eq (v : ApiValue) (level : Nat) : vchk v level = if vnode v level != 0 then vnode v level else vchkL v.list_ (level + 1) := by cases v; rw [vchk]
theorem chkL {go : ApiValue → Int → Option Int} {level : Nat} : ∀ (l : List ApiValue) (i : Nat), (∀ x ∈ l, go x ((level + 1 : Nat) : Int) = some (vchk x (level + 1))) →
    scanS (fun _ e1 (_ : Unit) r => bind1 (go e1 ((level + 1 : Nat) : Int)) fun e2 => if e2 != 0 then some e2 else r ()) (fun _ => some 0) i l () = some (vchkL l (level + 1))
  | [], i, _ => by simp [scanS, vchkL]
  | x :: r, i, h => by
    rw [scanS, h x (by simp), vchkL]
    simp only [bind1_some]
    rw [chkL r (i + 1) (fun y hy => h y (by simp [hy]))]
    split <;> rfl
theorem check_n7 : ∀ (n : Nat) (v : ApiValue) (level : Nat), v.bulk ≤ n → v.bulk < 4611686018427387904 → level ≤ 17 → r07_check_n (n + 1) v (level : Int) = some (vchk v level)
  | 0, v, _, h, _, _ => by have := v.bulk_pos; omega
  | n + 1, v, level, h, hB, hlv => by
    have hl := vlist_len v
    rw [vchk_eq]
    unfold r07_check_n r07_check_b
    have h16 : decide ((16 : Int) < (level : Int)) = decide (16 < level) := by congr 1; simp; omega
    have h16e : ((level : Int) == 16) = (level == 16) := by
      rw [Bool.eq_iff_iff]; simp only [beq_iff_eq]; omega
    rw [h16, h16e, (keyed_eq hB).2, plain7]
    unfold vnode
    by_cases h0 : 16 < level
    · simp [h0]
    · have hw : w64 ((level : Int) + 1) = ((level + 1 : Nat) : Int) := w64s (by omega)
      have := scanS_big (F := fun k (_ : Unit) i => r07_check_l1 (r07_check_n (n + 1)) v (level : Int) k i) (l := v.list_) (body := fun _ e1 _ r => bind1 (r07_check_n (n + 1) e1 ((level + 1 : Nat) : Int)) fun e2 => if e2 != 0 then some e2 else r ()) (fin := fun _ => some 0) (by omega) (fun k s i => by rw [← hw]; rfl) ()
      rw [this, chkL v.list_ 0 fun x hx => check_n7 n x (level + 1) (by have := vlist_mem hx; omega) (by have := vlist_mem hx; omega) (by omega)]
      simp only [h0, decide_false, Bool.false_eq_true, if_false, bind1_some]
      cases h1 : (decide (v.kind < 0) || decide (5 < v.kind)) with
      | true => simp
      | false =>
        cases h2 : vplain v with
        | false => simp
        | true =>
          simp only [Bool.false_eq_true, if_false, Bool.not_true, bind1_some, Bool.or_self]
          split
          · simp
          · split
            · simp
            · have h4 : decide ((4 : Int) ≤ v.kind) = ((v.kind == 4) || (v.kind == 5)) := by
                simp only [Bool.or_eq_false_iff, decide_eq_false_iff_not] at h1
                rw [Bool.eq_iff_iff]
                simp only [Bool.or_eq_true, decide_eq_true_eq, beq_iff_eq]
                omega
              rw [h4]
              cases h3 : (v.kind == 5) <;> cases h5 : (((v.keys.length : Int) == (v.list_.length : Int)) && ascL none v.keys) <;> simp <;> (first | rfl | (split <;> simp <;> rename_i hq <;> (first
                | exact fun hh => absurd hq.2 (hh hq.1.1 hq.1.2)
                | exact fun a b c => absurd ⟨⟨a, b⟩, c⟩ hq)))
theorem valid7 {v : ApiValue} (h : v.bulk < 4611686018427387904) : r07_Valid v = some (vchk v 1) := by
  obtain ⟨n, hn, hn2⟩ := BIG_succ
  unfold r07_Valid r07_check
  rw [hn]
  exact check_n7 n v 1 (by omega) h (by omega)
def wres (c : Int) : Bool × Option Int := if c != 0 then (false, some c) else (true, none)
theorem vy_eq {v : ApiValue} (hv : v.bulk < 4611686018427387904) (level : Nat) : value_Valid_y none (level : Int) v = some (wres (vnode v level)) := by
  unfold value_Valid_y wres
  simp only [node_eq hv, bind1_some]
  by_cases h : vnode v level = 0 <;> simp [h]
theorem walkL {go : Option Int → ApiValue → Int → Option (Bool × Option Int)} {level : Nat} : ∀ (l : List ApiValue) (i : Nat), (∀ x ∈ l, go none x ((level + 1 : Nat) : Int) = some (wres (vchk x (level + 1)))) →
    scanS (fun _ x1 (s1 : Option Int) r => bind2 (go s1 x1 ((level + 1 : Nat) : Int)) fun b1 s2 => if !b1 then some (false, s2) else r s2) (fun s1 => some (true, s1)) i l none = some (wres (vchkL l (level + 1)))
  | [], i, _ => by simp [scanS, vchkL, wres]
  | x :: r, i, h => by
    rw [scanS, h x (by simp), vchkL]
    by_cases hc : vchk x (level + 1) = 0
    · simp only [hc, wres, bne_self_eq_false, Bool.false_eq_true, if_false, bind2_some, Bool.not_true]
      rw [walkL r (i + 1) (fun y hy => h y (by simp [hy]))]
      rfl
    · simp [hc, wres]
theorem walk_n : ∀ (n : Nat) (v : ApiValue) (level : Nat), v.bulk ≤ n → v.bulk < 4611686018427387904 → level ≤ 17 → value_walk_n value_Valid_y (n + 1) none v (level : Int) = some (wres (vchk v level))
  | 0, v, _, h, _, _ => by have := v.bulk_pos; omega
  | n + 1, v, level, h, hB, hlv => by
    have hl := vlist_len v
    rw [vchk_eq]
    unfold value_walk_n value_walk_b
    rw [vy_eq hB]
    by_cases h0 : vnode v level = 0
    · have hlv' : level ≤ 16 := by
        rcases Nat.lt_or_ge 16 level with h | h
        · unfold vnode at h0; simp [h] at h0
        · exact h
      have hw : w64 ((level : Int) + 1) = ((level + 1 : Nat) : Int) := w64s (by omega)
      have := scanS_big (F := fun k s i => value_walk_l1 (value_walk_n value_Valid_y (n + 1)) v (level : Int) k s i) (l := v.list_) (body := fun _ x1 (s1 : Option Int) r => bind2 (value_walk_n value_Valid_y (n + 1) s1 x1 ((level + 1 : Nat) : Int)) fun b1 s2 => if !b1 then some (false, s2) else r s2) (fin := fun s1 => some (true, s1)) (by omega) (fun k s i => by rw [← hw]; rfl) none
      simp only [h0, wres, bne_self_eq_false, Bool.false_eq_true, if_false, bind2_some, Bool.not_true]
      rw [this, walkL v.list_ 0 fun x hx => walk_n n x (level + 1) (by have := vlist_mem hx; omega) (by have := vlist_mem hx; omega) (by omega)]
      rfl
    · simp [h0, wres]
theorem vvalid_eq {v : ApiValue} (h : v.bulk < 4611686018427387904) : value_Valid v = some (vchk v 1) := by
  obtain ⟨n, hn, hn2⟩ := BIG_succ
  unfold value_Valid value_walk
  rw [hn, show (1 : Int) = ((1 : Nat) : Int) from rfl, walk_n n v 1 (by omega) h (by omega)]
  unfold wres
  by_cases hc : vchk v 1 = 0 <;> simp [hc]
end Go.Ft

namespace Go.Ft
open Go
attribute [local congr] ite_c1
def vzero (v : ApiValue) : Bool := (((((v.kind == 0) && (!v.bool_)) && (v.int_ == 0)) && (v.str_ == ([] : Str))) && ((v.list_.length : Int) == 0)) && ((v.keys.length : Int) == 0)
theorem zero_eq (v : ApiValue) : parser_zero v = some (vzero v) := rfl
theorem same_zero (v : ApiValue) : r07_Same v (ApiValue.mk 0 false 0 ([] : Str) [] []) = some (vzero v) := by
  obtain ⟨n, hn, hn2⟩ := BIG_succ
  obtain ⟨m, hm⟩ : ∃ m, n = m + 1 := ⟨n - 1, by omega⟩
  have hB : BIG = (m + 1) + 1 := by omega
  unfold r07_Same
  rw [hB, r07_Same_n, r07_Same_b]
  have hz : vzero v = !(((((v.kind != 0) || (!(v.bool_ == false))) || (v.int_ != 0)) || (!(v.str_ == ([] : Str)))) || ((v.list_.length : Int) != (([] : List ApiValue).length : Int)) || ((v.keys.length : Int) != (([] : List Str).length : Int))) := by
    unfold vzero
    have hk : (v.kind != 0) = !(v.kind == 0) := rfl
    have hi : (v.int_ != 0) = !(v.int_ == 0) := rfl
    have hl : ((v.list_.length : Int) != (([] : List ApiValue).length : Int)) = !((v.list_.length : Int) == 0) := rfl
    have hks : ((v.keys.length : Int) != (([] : List Str).length : Int)) = !((v.keys.length : Int) == 0) := rfl
    rw [hk, hi, hl, hks]
    generalize (v.kind == 0) = a
    generalize v.bool_ = b
    generalize (v.int_ == 0) = c
    generalize (v.str_ == ([] : Str)) = d
    generalize ((v.list_.length : Int) == 0) = e
    generalize ((v.keys.length : Int) == 0) = f
    revert a b c d e f
    decide
  cases h : (((((v.kind != 0) || (!(v.bool_ == false))) || (v.int_ != 0)) || (!(v.str_ == ([] : Str)))) || ((v.list_.length : Int) != (([] : List ApiValue).length : Int)) || ((v.keys.length : Int) != (([] : List Str).length : Int))) with
  | true =>
    rw [hz, h]
    rfl
  | false =>
    rw [hz, h]
    simp only [Bool.or_eq_false_iff] at h
    have hl : v.list_ = [] := by have := h.1.2; simpa using this
    have hk : v.keys = [] := by have := h.2; simpa using this
    simp only [Bool.false_eq_true, if_false, Bool.not_false]
    rw [hB, r07_Same_l1, hk]
    simp only [List.length_nil, Int.lt_irrefl, decide_false, Bool.false_eq_true, if_false, Int.ofNat_zero, Int.natCast_zero]
    rw [hB, r07_Same_l2, hl]
    simp
def earity (e : ApiExpr) : Bool :=
  if e.kind == 1 then (e.args.length : Int) == 0 else if e.kind == 2 then (e.args.length : Int) == 0 else if e.kind == 3 then (e.args.length : Int) == 1 else if e.kind == 6 then (e.args.length : Int) == 1
  else if e.kind == 4 then (e.args.length : Int) == 2 else if e.kind == 7 then (e.args.length : Int) == 2 else if e.kind == 8 then (e.args.length : Int) == 3 else ((e.kind == 5) || (e.kind == 9)) || (e.kind == 10)
theorem arity10 (e : ApiExpr) : r10_arity e = some (earity e) := by
  unfold r10_arity earity
  simp only [apply_ite some]
def kindOK (e : ApiExpr) : Bool := !((decide (e.kind < 1)) || (decide (10 < e.kind)))
theorem arityP (e : ApiExpr) (h : kindOK e = true) : parser_arity e = some (earity e) := by
  unfold parser_arity earity
  unfold kindOK at h
  simp only [Bool.not_eq_true', Bool.or_eq_false_iff, decide_eq_false_iff_not] at h
  simp only [apply_ite some]
  have hh : ¬ e.kind = 1 → ¬ e.kind = 2 → ¬ e.kind = 3 → ¬ e.kind = 6 → ¬ e.kind = 4 → ¬ e.kind = 7 → ¬ e.kind = 8 → (((e.kind == 5) || (e.kind == 9)) || (e.kind == 10)) = true := by
    intro h1 h2 h3 h6 h4 h7 h8
    simp only [Bool.or_eq_true, beq_iff_eq]
    omega
  by_cases h1 : e.kind = 1
  · simp [h1]
  by_cases h2 : e.kind = 2
  · simp [h2]
  by_cases h3 : e.kind = 3
  · simp [h3]
  by_cases h6 : e.kind = 6
  · simp [h6]
  by_cases h4 : e.kind = 4
  · simp [h4]
  by_cases h7 : e.kind = 7
  · simp [h7]
  by_cases h8 : e.kind = 8
  · simp [h8]
  rw [hh h1 h2 h3 h6 h4 h7 h8]
  all_goals simp [h1, h2, h3, h4, h6, h7, h8]
def strongS (s : Str) : Int := (parser_strength s).getD 0
theorem strong_eq (s : Str) : parser_strength s = some (strongS s) := by
  obtain ⟨n, h⟩ := strength_some s
  unfold strongS; rw [h]; rfl
def enamed (e : ApiExpr) : Bool :=
  if e.kind == 2 then isPlain e.name else if e.kind == 3 then isPlain e.name else if e.kind == 5 then isPlain e.name else if e.kind == 6 then (e.name == ([33] : Str)) || (e.name == ([45] : Str))
  else if e.kind == 7 then decide (0 < strongS e.name) else e.name == ([] : Str)
theorem named_eq (e : ApiExpr) (h : e.bulk < 4611686018427387904) : parser_named e = some (enamed e) ∧ r10_named e = some (enamed e) := by
  have hn := ename_len e
  obtain ⟨p1, p2⟩ := plain_eq e.name (by omega)
  unfold parser_named r10_named enamed
  rw [p1, p2, strength_eq, strong_eq]
  simp only [bind1_some, apply_ite some, and_self]
theorem anyK (l : List Str) (hl : l.length < 4611686018427387904) : slices_ContainsFunc_L_string_string l parser_keyed_1 = some (l.any fun k => !keyOK k) := by
  unfold slices_ContainsFunc_L_string_string slices_IndexFunc_L_string_string
  have := scanS_big (F := fun k (_ : Unit) i => slices_IndexFunc_L_string_string_l1 l parser_keyed_1 k i) (l := l) (body := fun (i : Nat) e1 _ r => bind1 (parser_keyed_1 e1) fun x1 => if x1 then some (i : Int) else r ()) (fin := fun _ => some (-1)) hl (fun k s i => rfl) ()
  rw [this]
  have key : ∀ (t : List Str) (i : Nat), bind1 (scanS (fun (i : Nat) e1 (_ : Unit) r => bind1 (parser_keyed_1 e1) fun x1 => if x1 then some (i : Int) else r ()) (fun _ => some (-1)) i t ()) (fun x1 => some (decide (0 ≤ x1))) = some (t.any fun k => !keyOK k) := by
    intro t
    induction t with
    | nil => intro i; rfl
    | cons c t ih =>
      intro i
      rw [scanS]
      have e1 : parser_keyed_1 c = some (!keyOK c) := by unfold parser_keyed_1; rw [keyOK_i]
      rw [e1]
      simp only [bind1_some, List.any_cons]
      cases h : keyOK c with
      | false => simp
      | true =>
        simp only [Bool.not_true, Bool.false_eq_true, if_false, Bool.false_or]
        exact ih (i + 1)
  exact key l 0
def ekeyed (e : ApiExpr) : Bool := if e.kind != 10 then (e.keys.length : Int) == 0 else ((e.keys.length : Int) == (e.args.length : Int)) && !(e.keys.any fun k => !keyOK k)
theorem keyedP (e : ApiExpr) (h : e.bulk < 4611686018427387904) : parser_keyed e = some (ekeyed e) := by
  have hk := ekeys_len e
  unfold parser_keyed ekeyed
  rw [anyK e.keys (by omega)]
  split
  · rfl
  · cases ((e.keys.length : Int) == (e.args.length : Int)) <;> simp
theorem formedL (e : ApiExpr) (h : e.bulk < 4611686018427387904) : r10_formed_l1 e BIG 0 = some (!(e.keys.any fun k => !keyOK k) && ((e.keys.length : Int) == (e.args.length : Int))) := by
  have hk := ekeys_len e
  have := scanS_big (F := fun k (_ : Unit) i => r10_formed_l1 e k i) (l := e.keys) (body := fun (i : Nat) e2 _ r => bind1 (if decide ((e2.length : Int) < 1) then some true else bind1 (idx e.keys (i : Int)) fun e3 => some (decide (64 < (e3.length : Int)))) fun b4 => if b4 then some false else r ())
    (fin := fun _ => some ((e.keys.length : Int) == (e.args.length : Int))) (by omega) (fun k s i => rfl) ()
  rw [this]
  have key : ∀ (t : List Str) (i : Nat), t = e.keys.drop i → scanS (fun (i : Nat) e2 (_ : Unit) r => bind1 (if decide ((e2.length : Int) < 1) then some true else bind1 (idx e.keys (i : Int)) fun e3 => some (decide (64 < (e3.length : Int)))) fun b4 => if b4 then some false else r ())
      (fun _ => some ((e.keys.length : Int) == (e.args.length : Int))) i t () = some (!(t.any fun k => !keyOK k) && ((e.keys.length : Int) == (e.args.length : Int))) := by
    intro t
    induction t with
    | nil => intro i _; rfl
    | cons c t ih =>
      intro i ht
      have hi : i < e.keys.length := by
        rcases Nat.lt_or_ge i e.keys.length with h | h
        · exact h
        · rw [List.drop_eq_nil_of_le h] at ht; cases ht
      have hc := List.drop_eq_getElem_cons hi
      rw [← ht] at hc
      have e1 : c = e.keys[i] := (List.cons.inj hc).1
      have e2 := (List.cons.inj hc).2
      rw [scanS, idxn hi, ← e1]
      simp only [bind1_some, List.any_cons]
      rw [ih (i + 1) e2]
      have e3 := keyOK_i c
      cases h1 : decide ((List.length c : Int) < 1) <;> rw [h1] at e3
      · simp only [Bool.false_or] at e3
        simp only [Bool.false_eq_true, if_false, bind1_some, e3]
        cases keyOK c <;> simp
      · simp only [Bool.true_or] at e3
        have : keyOK c = false := by
          cases h : keyOK c with
          | false => rfl
          | true => rw [h] at e3; cases e3
        simp [this]
  exact key e.keys 0 rfl
def eformed (e : ApiExpr) : Bool := kindOK e && ((e.kind == 1) || vzero e.value) && enamed e && earity e && ekeyed e
theorem arity_kind (e : ApiExpr) (h : earity e = true) : kindOK e = true := by
  unfold earity at h
  unfold kindOK
  simp only [Bool.not_eq_true', Bool.or_eq_false_iff, decide_eq_false_iff_not]
  by_cases h1 : e.kind = 1
  · omega
  by_cases h2 : e.kind = 2
  · omega
  by_cases h3 : e.kind = 3
  · omega
  by_cases h6 : e.kind = 6
  · omega
  by_cases h4 : e.kind = 4
  · omega
  by_cases h7 : e.kind = 7
  · omega
  by_cases h8 : e.kind = 8
  · omega
  simp [h1, h2, h3, h4, h6, h7, h8] at h
  omega
theorem formed_eq (e : ApiExpr) (h : e.bulk < 4611686018427387904) : r10_formed e = some (eformed e) := by
  unfold r10_formed eformed
  rw [arity10, (named_eq e h).2, same_zero, formedL e h]
  have hk := arity_kind e
  unfold ekeyed
  have hne : (e.kind != 1) = !(e.kind == 1) := rfl
  rw [hne]
  cases h1 : earity e with
  | false => cases (e.kind == 1) <;> simp
  | true =>
    rw [hk h1]
    cases h2 : enamed e with
    | false => cases (e.kind == 1) <;> simp
    | true =>
      cases h3 : (e.kind == 1) <;> cases h4 : vzero e.value <;> simp <;> (first | done | (split <;> simp [Bool.and_comm]))
theorem mget_mset (y : List (Str × Int)) (s t : Str) (n : Int) : mget (mset y s n) t = if t = s then n else mget y t := by
  induction y with
  | nil => by_cases h : t = s <;> simp [mset, mget, h]
  | cons a y ih =>
    obtain ⟨k, v⟩ := a
    unfold mset
    by_cases h : s = k
    · subst h
      simp only [beq_self_eq_true, if_true]
      unfold mget
      by_cases h2 : t = s
      · simp [h2]
      · have : (t == s) = false := beq_eq_false_iff_ne.2 h2
        simp [this, h2]
    · have : (s == k) = false := beq_eq_false_iff_ne.2 h
      rw [this]
      simp only [Bool.false_eq_true, if_false]
      unfold mget
      by_cases h2 : t = k
      · subst h2
        have : ¬ t = s := fun hh => h hh.symm
        simp [this]
      · have h3 : (t == k) = false := beq_eq_false_iff_ne.2 h2
        rw [h3]
        simp only [Bool.false_eq_true, if_false]
        exact ih
def dupF : List Str → List Str → Bool
  | _, [] => false
  | seen, s :: r => seen.contains s || dupF (seen ++ [s]) r
theorem rep_eq (l : List Str) (hl : l.length < 4611686018427387904) : parser_repeated l = some (dupF [] l) := by
  unfold parser_repeated
  have := scanS_big (F := fun k s i => parser_repeated_l1 l k i s) (l := l) (body := fun _ s1 (y1 : List (Str × Int)) r => if decide (1 < (mget (mset y1 s1 (w64 ((mget y1 s1) + 1))) s1)) then some true else r (mset y1 s1 (w64 ((mget y1 s1) + 1)))) (fin := fun _ => some false) hl (fun k s i => rfl) []
  rw [this]
  have key : ∀ (t : List Str) (i : Nat) (y : List (Str × Int)) (seen : List Str), (∀ s, mget y s = if s ∈ seen then 1 else 0) →
      scanS (fun _ s1 (y1 : List (Str × Int)) r => if decide (1 < (mget (mset y1 s1 (w64 ((mget y1 s1) + 1))) s1)) then some true else r (mset y1 s1 (w64 ((mget y1 s1) + 1)))) (fun _ => some false) i t y = some (dupF seen t) := by
    intro t
    induction t with
    | nil => intro i y seen _; rfl
    | cons c t ih =>
      intro i y seen hy
      rw [scanS, dupF, mget_mset, if_pos rfl, hy c]
      by_cases hc : c ∈ seen
      · have : w64 2 = 2 := by decide
        simp [hc, this]
      · have : w64 ((0 : Int) + 1) = 1 := by decide
        simp only [hc, if_false, this]
        have e : seen.contains c = false := by simpa using hc
        rw [e]
        simp only [Int.lt_irrefl, decide_false, Bool.false_eq_true, if_false, Bool.false_or]
        refine ih (i + 1) _ (seen ++ [c]) fun s => ?_
        rw [mget_mset, hy s]
        by_cases h1 : s = c
        · subst h1; simp
        · simp [h1]
  exact key l 0 [] [] (fun s => by simp [mget])
theorem twice_in (l : List Str) (i : Nat) (hi : i < l.length) (hl : l.length < 4611686018427387904) (go : Int → Option Bool) : ∀ (k j : Nat), i < k + j → j ≤ i →
    r10_twice_l2 l (i : Int) go k (j : Int) = if ((l.take i).drop j).contains l[i] then some true else go ((i + 1 : Nat) : Int)
  | 0, j, h, h' => by omega
  | k + 1, j, h, h' => by
    rw [r10_twice_l2]
    by_cases hj : j < i
    · have hlt : j < (l.take i).length := by simp; omega
      rw [if_pos (by simpa using hj), idxn hi, idxn (by omega), List.drop_eq_getElem_cons hlt]
      simp only [bind1_some, List.contains_cons, List.getElem_take]
      cases h1 : (l[i] == l[j]) with
      | true => simp
      | false =>
        simp only [Bool.false_eq_true, if_false, Bool.false_or]
        rw [w64s (by omega)]
        exact twice_in l i hi hl go k (j + 1) (by omega) (by omega)
    · have : j = i := by omega
      subst this
      rw [if_neg (by simp), w64s (by omega)]
      have : (List.take j l).drop j = [] := List.drop_eq_nil_of_le (by simp; omega)
      rw [this]
      simp
theorem twice_gen (l : List Str) (hl : l.length < 4611686018427387904) : ∀ (k i : Nat), l.length < k + i → i ≤ l.length → r10_twice_l1 l k (i : Int) = some (dupF (l.take i) (l.drop i))
  | 0, i, h, h' => by omega
  | k + 1, i, h, h' => by
    rw [r10_twice_l1]
    by_cases hi : i < l.length
    · rw [if_pos (by simpa using hi), List.drop_eq_getElem_cons hi, dupF]
      have := twice_in l i hi hl (r10_twice_l1 l k) BIG 0 (by have := BIG_lt; omega) (by omega)
      rw [show (0 : Int) = ((0 : Nat) : Int) from rfl, this, List.drop_zero, twice_gen l hl k (i + 1) (by omega) (by omega)]
      have e : List.take (i + 1) l = List.take i l ++ [l[i]] := by rw [List.take_add_one, List.getElem?_eq_getElem hi]; rfl
      rw [e]
      cases (l.take i).contains l[i] <;> simp
    · have : i = l.length := by omega
      subst this
      simp [dupF]
theorem twice_eq (l : List Str) (hl : l.length < 4611686018427387904) : r10_twice l = some (dupF [] l) := by
  have := twice_gen l hl BIG 0 (by have := BIG_lt; omega) (by omega)
  simpa [r10_twice] using this
def xnode (e : ApiExpr) (level : Nat) : Int :=
  if 16 < level then 13 else if !eformed e then 1 else if e.kind == 1 && (vchk e.value 1 != 0) then vchk e.value 1 else if decide (1024 < (e.args.length : Int)) then 3 else if dupF [] e.keys then 7 else 0
theorem pnode_eq (e : ApiExpr) (h : e.bulk < 4611686018427387904) (level : Nat) : parser_node e (level : Int) = some (xnode e level) := by
  have hk := ekeys_len e
  have hv := evalue_bulk e
  unfold parser_node xnode
  have h16 : decide ((16 : Int) < (level : Int)) = decide (16 < level) := by congr 1; simp; omega
  rw [h16, zero_eq, (named_eq e h).1, keyedP e h, vvalid_eq (by omega), rep_eq e.keys (by omega)]
  by_cases h0 : 16 < level
  · simp [h0]
  · simp only [h0, decide_false, Bool.false_eq_true, if_false, bind1_some]
    have hkd : ((decide (e.kind < 1)) || (decide (10 < e.kind))) = !kindOK e := by simp [kindOK]
    have hne : (e.kind != 1) = !(e.kind == 1) := rfl
    rw [hkd, hne]
    unfold eformed
    cases h1 : kindOK e with
    | false => simp
    | true =>
      rw [arityP e h1]
      cases h3 : (e.kind == 1) <;> cases h4 : vzero e.value <;> cases h5 : enamed e <;> cases h6 : earity e <;> cases h7 : ekeyed e <;> simp <;>
        (first | done | (split <;> (first | rfl | (split <;> (first | rfl | (split <;> rfl))))))
end Go.Ft

namespace Go.Ft
open Go
attribute [local congr] ite_c1
mutual
def xchk : ApiExpr → Nat → Int
  | ⟨a, b, c, l, f⟩, level => if xnode ⟨a, b, c, l, f⟩ level != 0 then xnode ⟨a, b, c, l, f⟩ level else xchkL l (level + 1)
def xchkL : List ApiExpr → Nat → Int
  | [], _ => 0
  | x :: r, level => if xchk x level != 0 then xchk x level else xchkL r level
end
theorem xchk_eq (e : ApiExpr) (level : Nat) : xchk e level = if xnode e level != 0 then xnode e level else xchkL e.args (level + 1) := by cases e; rw [xchk]
theorem xchkL_scan {go : ApiExpr → Int → Option Int} {level : Nat} : ∀ (l : List ApiExpr) (i : Nat), (∀ x ∈ l, go x ((level + 1 : Nat) : Int) = some (xchk x (level + 1))) →
    scanS (fun _ e1 (_ : Unit) r => bind1 (go e1 ((level + 1 : Nat) : Int)) fun e2 => if e2 != 0 then some e2 else r ()) (fun _ => some 0) i l () = some (xchkL l (level + 1))
  | [], i, _ => by simp [scanS, xchkL]
  | x :: r, i, h => by
    rw [scanS, h x (by simp), xchkL]
    simp only [bind1_some]
    rw [xchkL_scan r (i + 1) (fun y hy => h y (by simp [hy]))]
    split <;> rfl
theorem xvalid_n : ∀ (n : Nat) (e : ApiExpr) (level : Nat), e.bulk ≤ n → e.bulk < 4611686018427387904 → level ≤ 17 → parser_valid_n (n + 1) e (level : Int) = some (xchk e level) ∧ r10_check_n (n + 1) e (level : Int) = some (xchk e level)
  | 0, e, _, h, _, _ => by have := e.bulk_pos; omega
  | n + 1, e, level, h, hB, hlv => by
    have hl := eargs_len e
    have hv := evalue_bulk e
    have hks := ekeys_len e
    have hw : w64 ((level : Int) + 1) = ((level + 1 : Nat) : Int) := w64s (by omega)
    constructor
    · rw [xchk_eq]
      unfold parser_valid_n parser_valid_b
      have := scanS_big (F := fun k (_ : Unit) i => parser_valid_l1 (parser_valid_n (n + 1)) e (level : Int) k i) (l := e.args) (body := fun _ e1 _ r => bind1 (parser_valid_n (n + 1) e1 ((level + 1 : Nat) : Int)) fun e2 => if e2 != 0 then some e2 else r ()) (fin := fun _ => some 0) (by omega) (fun k s i => by rw [← hw]; rfl) ()
      rw [pnode_eq e hB, this]
      simp only [bind1_some]
      by_cases h0 : xnode e level = 0
      · have hlv' : level ≤ 16 := by
          rcases Nat.lt_or_ge 16 level with h | h
          · unfold xnode at h0; simp [h] at h0
          · exact h
        rw [xchkL_scan e.args 0 fun x hx => (xvalid_n n x (level + 1) (by have := eargs_mem hx; omega) (by have := eargs_mem hx; omega) (by omega)).1]
        simp [h0]
      · simp [h0]
    · rw [xchk_eq]
      unfold r10_check_n r10_check_b
      have := scanS_big (F := fun k (_ : Unit) i => r10_check_l1 (r10_check_n (n + 1)) e (level : Int) k i) (l := e.args) (body := fun _ e1 _ r => bind1 (r10_check_n (n + 1) e1 ((level + 1 : Nat) : Int)) fun e2 => if e2 != 0 then some e2 else r ()) (fin := fun _ => some 0) (by omega) (fun k s i => by rw [← hw]; rfl) ()
      have h16 : decide ((16 : Int) < (level : Int)) = decide (16 < level) := by congr 1; simp; omega
      rw [formed_eq e hB, valid7 (by omega), twice_eq e.keys (by omega), this, h16]
      by_cases h0 : 16 < level
      · simp [xnode, h0]
      · rw [xchkL_scan e.args 0 fun x hx => (xvalid_n n x (level + 1) (by have := eargs_mem hx; omega) (by have := eargs_mem hx; omega) (by omega)).2]
        unfold xnode
        simp only [h0, decide_false, Bool.false_eq_true, if_false, bind1_some]
        cases eformed e with
        | false => simp
        | true =>
          simp only [Bool.not_true, Bool.false_eq_true, if_false]
          cases h1 : (e.kind == 1 && (vchk e.value 1 != 0)) with
          | true =>
            have : vchk e.value 1 ≠ 0 := by simp at h1; exact h1.2
            simp [this]
          | false =>
            simp only [Bool.false_eq_true, if_false]
            by_cases h2 : (1024 : Int) < (e.args.length : Int)
            · simp [h2]
            · simp only [h2, decide_false, Bool.false_eq_true, if_false]
              cases dupF [] e.keys <;> simp
def xval (e : ApiExpr) : Int := if 4096 < ecnt e then 15 else xchk e 1
theorem xval_eq {e : ApiExpr} (h : e.bulk < 4611686018427387904) : parser_Valid e = some (xval e) ∧ r10_Valid e = some (xval e) := by
  obtain ⟨n, hn, hn2⟩ := BIG_succ
  obtain ⟨c1, c2⟩ := count_eq h
  obtain ⟨v1, v2⟩ := xvalid_n n e 1 (by omega) h (by omega)
  unfold parser_Valid r10_Valid xval parser_valid r10_check
  rw [c1, c2, hn]
  have : decide ((4096 : Int) < (ecnt e : Int)) = decide (4096 < ecnt e) := by congr 1; simp; omega
  simp only [bind1_some, this]
  rw [show (1 : Int) = ((1 : Nat) : Int) from rfl, v1, v2]
  by_cases h4 : 4096 < ecnt e <;> simp [h4]
inductive Ty where
  | leaf (k : Int)
  | nest (k : Int) (t : Ty)
namespace Ty
def api : Ty → ApiType
  | leaf k => ⟨k, []⟩
  | nest k t => ⟨k, [t.api]⟩
def wf : Ty → Prop
  | leaf k => 0 ≤ k ∧ k ≤ 7 ∧ k ≠ 5 ∧ k ≠ 6
  | nest k t => (k = 5 ∨ k = 6) ∧ t.wf
def dep : Ty → Nat
  | leaf _ => 1
  | nest _ t => 1 + t.dep
def kind : Ty → Int
  | leaf k => k
  | nest k _ => k
theorem dep_pos (t : Ty) : 1 ≤ t.dep := by cases t <;> simp [dep] <;> omega
end Ty
theorem name_nil {k : Int} (h : 0 ≤ k ∧ k ≤ 7) : ∃ s, typing_name k = some s ∧ (s == ([] : Str)) = false := by
  obtain ⟨n, rfl⟩ : ∃ n : Nat, k = n := ⟨k.toNat, by omega⟩
  have hn : n < 8 := by omega
  match n, hn with
  | 0, _ => exact ⟨_, rfl, rfl⟩
  | 1, _ => exact ⟨_, rfl, rfl⟩
  | 2, _ => exact ⟨_, rfl, rfl⟩
  | 3, _ => exact ⟨_, rfl, rfl⟩
  | 4, _ => exact ⟨_, rfl, rfl⟩
  | 5, _ => exact ⟨_, rfl, rfl⟩
  | 6, _ => exact ⟨_, rfl, rfl⟩
  | 7, _ => exact ⟨_, rfl, rfl⟩
theorem name_out {k : Int} (h : ¬ (0 ≤ k ∧ k ≤ 7)) : typing_name k = some [] := by
  unfold typing_name
  rw [if_pos (by simp; omega)]
theorem tv_gen : ∀ (k level : Nat) (t : ApiType), 18 ≤ k + level → level ≤ 17 → ∃ c, typing_Valid_l1 k (level : Int) t = some c ∧ r08_check_n k t (level : Int) = some c ∧ (c = 0 → ∃ T : Ty, T.wf ∧ t = T.api ∧ T.dep + level ≤ 17)
  | 0, level, t, h, h' => by omega
  | k + 1, level, t, h, h' => by
    rw [typing_Valid_l1, r08_check_n, r08_check_b]
    have h16 : decide ((16 : Int) < (level : Int)) = decide (16 < level) := by congr 1; simp; omega
    rw [h16]
    by_cases h0 : 16 < level
    · exact ⟨13, by simp [h0], by simp [h0], by simp⟩
    · simp only [h0, decide_false, Bool.false_eq_true, if_false]
      by_cases hk : 0 ≤ t.kind ∧ t.kind ≤ 7
      · obtain ⟨s, hs, hs2⟩ := name_nil hk
        have hb : (decide (t.kind < 0) || decide (7 < t.kind)) = false := by simp; omega
        rw [hs, hb]
        simp only [bind1_some, hs2, typing_nested, r08_holds, Bool.false_eq_true, if_false]
        cases hn : ((t.kind == 5) || (t.kind == 6)) with
        | false =>
          simp only [Bool.false_and, Bool.not_false, Bool.true_and, Bool.false_eq_true, if_false, bind1_some, if_true]
          cases he : t.elem with
          | nil =>
            refine ⟨0, by simp, by simp, fun _ => ⟨.leaf t.kind, ?_, ?_, ?_⟩⟩
            · simp at hn; exact ⟨hk.1, hk.2, hn.1, hn.2⟩
            · cases t; simp at he; subst he; rfl
            · simp only [Ty.dep]; omega
          | cons x r => exact ⟨1, by first | (simp; done) | (simp; omega), by first | (simp; done) | (simp; omega), by simp⟩
        | true =>
          simp only [Bool.true_and, Bool.not_true, Bool.false_and, bind1_some, Bool.false_eq_true, if_false]
          have hnk : t.kind = 5 ∨ t.kind = 6 := by simpa using hn
          match he : t.elem with
          | [] => exact ⟨1, by simp, by simp, by simp⟩
          | [x] =>
            obtain ⟨c, c1, c2, c3⟩ := tv_gen k (level + 1) x (by omega) (by omega)
            have hw : w64 ((level : Int) + 1) = ((level + 1 : Nat) : Int) := w64s (by omega)
            refine ⟨c, ?_, ?_, fun hc => ?_⟩
            · rw [hw, ← c1]; simp [idx]
            · rw [hw, ← c2]; simp [idx]
            · obtain ⟨T, w1, w2, w3⟩ := c3 hc
              refine ⟨.nest t.kind T, ⟨hnk, w1⟩, ?_, ?_⟩
              · cases t; simp at he; subst he; simp [Ty.api, w2]
              · simp only [Ty.dep]; omega
          | x :: y :: r =>
            have hl : (((x :: y :: r).length : Int) != 1) = true := by simp only [List.length_cons, bne_iff_ne]; omega
            exact ⟨1, by simp only [hl, if_true, bind1_some], by simp only [hl, if_true], by simp⟩
      · have hb : (decide (t.kind < 0) || decide (7 < t.kind)) = true := by simp; omega
        rw [name_out hk, hb]
        exact ⟨1, by simp, by simp, by simp⟩
theorem tv_ok : ∀ (T : Ty) (k level : Nat), T.wf → T.dep + level ≤ 17 → 18 ≤ k + level → typing_Valid_l1 k (level : Int) T.api = some 0
  | .leaf a, 0, level, _, h, h' => by simp only [Ty.dep] at h; omega
  | .leaf a, k + 1, level, hw, h, h' => by
    simp only [Ty.dep] at h
    have h16 : decide ((16 : Int) < (level : Int)) = false := decide_eq_false (by omega)
    obtain ⟨s, hs, hs2⟩ := name_nil (k := a) ⟨hw.1, hw.2.1⟩
    have hn : ((a == 5) || (a == 6)) = false := by simp; exact ⟨hw.2.2.1, hw.2.2.2⟩
    simp [typing_Valid_l1, h16, Ty.api, hs, beq_eq_false_iff_ne.1 hs2, typing_nested, hn]
  | .nest a T, 0, level, _, h, h' => by simp only [Ty.dep] at h; have := T.dep_pos; omega
  | .nest a T, k + 1, level, hw, h, h' => by
    simp only [Ty.dep] at h
    have hd := T.dep_pos
    have h16 : decide ((16 : Int) < (level : Int)) = false := decide_eq_false (by omega)
    have hn : ((a == 5) || (a == 6)) = true := by simpa using hw.1
    obtain ⟨s, hs, hs2⟩ := name_nil (k := a) (by rcases hw.1 with h | h <;> omega)
    have hw64 : w64 ((level : Int) + 1) = ((level + 1 : Nat) : Int) := w64s (by omega)
    have := tv_ok T k (level + 1) hw.2 (by omega) (by omega)
    rw [← this, ← hw64]
    simp [typing_Valid_l1, h16, Ty.api, hs, beq_eq_false_iff_ne.1 hs2, typing_nested, hn, idx]
def tval (t : ApiType) : Int := (typing_Valid t).getD 0
theorem tval_eq (t : ApiType) : typing_Valid t = some (tval t) ∧ r08_Valid t = some (tval t) ∧ (tval t = 0 → ∃ T : Ty, T.wf ∧ t = T.api ∧ T.dep ≤ 16) := by
  obtain ⟨c, c1, c2, c3⟩ := tv_gen BIG 1 t (by have := BIG_lt; omega) (by omega)
  have e1 : typing_Valid t = some c := c1
  have e2 : r08_Valid t = some c := c2
  have : tval t = c := by unfold tval; rw [e1]; rfl
  rw [this]
  exact ⟨e1, e2, fun h => by obtain ⟨T, a, b, d⟩ := c3 h; exact ⟨T, a, b, by omega⟩⟩
theorem tval_ok {T : Ty} (h : T.wf) (hd : T.dep ≤ 16) : tval T.api = 0 := by
  have := tv_ok T BIG 1 h (by omega) (by have := BIG_lt; omega)
  have e1 : typing_Valid T.api = some 0 := this
  unfold tval; rw [e1]; rfl
def joinT : Ty → Ty → Ty
  | .leaf a, .leaf b => if a = 7 then .leaf b else if b = 7 then .leaf a else if a = b then .leaf a else .leaf 0
  | .leaf a, .nest b y => if a = 7 then .nest b y else .leaf 0
  | .nest a x, .leaf b => if b = 7 then .nest a x else .leaf 0
  | .nest a x, .nest b y => if a = b then .nest a (joinT x y) else .leaf 0
end Go.Ft

namespace Go.Ft
open Go
attribute [local congr] ite_c1
def ZT : ApiType := ApiType.mk 0 []
def sc (k : Int) : Ty := .leaf k
def finR (x : Option (ApiType × Bool)) : Option (ApiType × Int) :=
  bind2 x fun x6 ok1 => if !ok1 then some (ZT, 9) else bind1 (r08_Valid x6) fun x7 => if x7 != 0 then some (ZT, 13) else some (x6, 0)
def RES (x y : Option (ApiType × Int)) : Prop := ∃ (T : Ty) (c : Int), T.wf ∧ T.dep ≤ 16 ∧ (c ≠ 0 → T = sc 0) ∧ x = some (T.api, c) ∧ y = some (T.api, c)
theorem RES.mk {x : Option (ApiType × Int)} {y : Option (ApiType × Bool)} (T : Ty) (b : Bool) (hx : x = some (if b then (T.api, 0) else (ZT, 9))) (hy : y = some (T.api, b)) (hw : b = true → T.wf ∧ T.dep ≤ 16) : RES x (finR y) := by
  subst hx hy
  unfold finR
  cases b with
  | false => exact ⟨sc 0, 9, by simp [sc, Ty.wf], by simp [sc, Ty.dep], fun _ => rfl, rfl, rfl⟩
  | true =>
    obtain ⟨h1, h2⟩ := hw rfl
    refine ⟨T, 0, h1, h2, fun h => absurd rfl h, rfl, ?_⟩
    simp only [bind2_some, Bool.not_true, Bool.false_eq_true, if_false, (tval_eq _).2.1, tval_ok h1 h2]
    rfl
end Go.Ft

namespace Go.Ft
open Go
attribute [local congr] ite_c1
end Go.Ft

namespace Go.Ft
open Go
attribute [local congr] ite_c1
end Go.Ft

namespace Go.Ft
open Go
attribute [local congr] ite_c1
mutual
def ofT : ApiValue → Ty
  | ⟨k, _, _, _, l, _⟩ => if k = 0 then sc 1 else if k = 1 then sc 2 else if k = 2 then sc 3 else if k = 3 then sc 4 else .nest (if k = 4 then 5 else 6) (ofTL l (sc 7))
def ofTL : List ApiValue → Ty → Ty
  | [], t => t
  | x :: r, t => ofTL r (joinT t (ofT x))
end
theorem pv_name {s : Str} (h : s.length < 4611686018427387000) : parser_Valid (ApiExpr.mk 2 s (ApiValue.mk 0 false 0 ([] : Str) [] []) [] []) = some (if isPlain s then 0 else 1) := by
  have hb : (ApiExpr.mk 2 s (ApiValue.mk 0 false 0 ([] : Str) [] []) [] []).bulk < 4611686018427387904 := by
    simp only [ApiExpr.bulk, ApiValue.bulk, ApiValue.bulkL, ApiExpr.bulkL, List.map_nil, List.sum_nil, List.length_nil]; omega
  rw [(xval_eq hb).1]
  have e1 : ecnt (ApiExpr.mk 2 s (ApiValue.mk 0 false 0 ([] : Str) [] []) [] []) = 1 := by rw [ecnt_eq]; rfl
  unfold xval
  rw [e1, xchk_eq]
  have e2 : eformed (ApiExpr.mk 2 s (ApiValue.mk 0 false 0 ([] : Str) [] []) [] []) = isPlain s := by
    have : vzero (ApiValue.mk 0 false 0 ([] : Str) [] []) = true := rfl
    simp [eformed, kindOK, this, enamed, earity, ekeyed]
  have e3 : xnode (ApiExpr.mk 2 s (ApiValue.mk 0 false 0 ([] : Str) [] []) [] []) 1 = if isPlain s then 0 else 1 := by
    unfold xnode
    rw [e2]
    cases isPlain s <;> simp [dupF]
  rw [e3]
  cases isPlain s <;> simp [xchkL]
def envF : List Str → List ApiDecl → Int
  | _, [] => 0
  | seen, d :: r => if !isPlain d.name then 1 else if tval d.type_ != 0 then tval d.type_ else if seen.contains d.name then 7 else envF (seen ++ [d.name]) r
def Wenv (env : List ApiDecl) : Prop := ∀ d ∈ env, ∃ T : Ty, T.wf ∧ T.dep ≤ 16 ∧ d.type_ = T.api
theorem envF_W : ∀ (r : List ApiDecl) (seen : List Str), envF seen r = 0 → Wenv r
  | [], _, _, d, hd => by cases hd
  | x :: r, seen, h, d, hd => by
    rw [envF] at h
    cases h1 : isPlain x.name with
    | false => rw [h1] at h; simp at h
    | true =>
      rw [h1] at h
      simp only [Bool.not_true, Bool.false_eq_true, if_false] at h
      by_cases h2 : tval x.type_ = 0
      · rw [if_neg (by simpa using h2)] at h
        obtain ⟨T, t1, t2, t3⟩ := (tval_eq x.type_).2.2 h2
        split at h
        · simp at h
        · rcases List.mem_cons.1 hd with rfl | hd
          · exact ⟨T, t1, t3, t2⟩
          · exact envF_W r _ h d hd
      · rw [if_pos (by simpa using h2)] at h; exact absurd h h2
theorem envC : ∀ (r : List ApiDecl) (i : Nat) (y : List (Str × Int)) (seen : List Str), (∀ d ∈ r, d.name.length < 4611686018427387000) → (∀ s, mget y s = if s ∈ seen then 1 else 0) →
    scanS (fun _ e1 (y1 : List (Str × Int)) r => bind1 (parser_Valid (ApiExpr.mk 2 e1.name (ApiValue.mk 0 false 0 ([] : Str) [] []) [] [])) fun x2 => if x2 != 0 then some 1 else bind1 (typing_Valid e1.type_) fun e2 => if e2 != 0 then some e2 else
      if decide (1 < (mget (mset y1 e1.name (w64 ((mget y1 e1.name) + 1))) e1.name)) then some 7 else r (mset y1 e1.name (w64 ((mget y1 e1.name) + 1)))) (fun _ => some 0) i r y = some (envF seen r)
  | [], _, _, _, _, _ => rfl
  | d :: r, i, y, seen, hd, hy => by
    rw [scanS, envF, pv_name (hd d (by simp)), (tval_eq d.type_).1, mget_mset, if_pos rfl, hy d.name]
    cases h1 : isPlain d.name with
    | false => simp
    | true =>
      simp only [if_true, bind1_some, Bool.not_true, Bool.false_eq_true, if_false, bne_self_eq_false]
      by_cases h2 : tval d.type_ = 0
      · simp only [h2, bne_self_eq_false, Bool.false_eq_true, if_false]
        by_cases hc : d.name ∈ seen
        · have : w64 2 = 2 := by decide
          simp [hc, this]
        · have : w64 ((0 : Int) + 1) = 1 := by decide
          simp only [hc, if_false, this]
          have e : seen.contains d.name = false := by simpa using hc
          rw [e]
          simp only [Int.lt_irrefl, decide_false, Bool.false_eq_true, if_false]
          refine envC r (i + 1) _ (seen ++ [d.name]) (fun z hz => hd z (by simp [hz])) fun s => ?_
          rw [mget_mset, hy s]
          by_cases h1 : s = d.name
          · subst h1; simp
          · simp [h1]
      · simp [h2]
theorem env_in (l : List ApiDecl) (i : Nat) (hi : i < l.length) (hl : l.length < 4611686018427387904) (go : Int → Option Int) : ∀ (k j : Nat), i < k + j → j ≤ i →
    r11_Env_l2 l (i : Int) go k (j : Int) = if (((l.take i).drop j).map (·.name)).contains l[i].name then some 7 else go ((i + 1 : Nat) : Int)
  | 0, j, h, h' => by omega
  | k + 1, j, h, h' => by
    rw [r11_Env_l2]
    by_cases hj : j < i
    · have hlt : j < (l.take i).length := by simp; omega
      rw [if_pos (by simpa using hj), idxn hi, idxn (by omega), List.drop_eq_getElem_cons hlt]
      simp only [bind1_some, List.map_cons, List.contains_cons, List.getElem_take]
      by_cases h1 : l[j].name = l[i].name
      · simp [h1]
      · have e1 : (l[j].name == l[i].name) = false := by simpa using h1
        have e2 : (l[i].name == l[j].name) = false := by simpa using fun hh => h1 hh.symm
        simp only [e1, e2, Bool.false_eq_true, if_false, Bool.false_or]
        rw [w64s (by omega)]
        exact env_in l i hi hl go k (j + 1) (by omega) (by omega)
    · have : j = i := by omega
      subst this
      rw [if_neg (by simp), w64s (by omega)]
      have : (List.take j l).drop j = [] := List.drop_eq_nil_of_le (by simp; omega)
      rw [this]
      simp
theorem envR (l : List ApiDecl) (hl : l.length < 4611686018427387904) (hd : ∀ d ∈ l, d.name.length < 4611686018427387000) : ∀ (k i : Nat), l.length < k + i → i ≤ l.length → r11_Env_l1 l k (i : Int) = some (envF ((l.take i).map (·.name)) (l.drop i))
  | 0, i, h, h' => by omega
  | k + 1, i, h, h' => by
    rw [r11_Env_l1]
    by_cases hi : i < l.length
    · have hn := hd l[i] (List.getElem_mem hi)
      rw [if_pos (by simpa using hi), List.drop_eq_getElem_cons hi, envF, idxn hi]
      have := env_in l i hi hl (r11_Env_l1 l k) BIG 0 (by have := BIG_lt; omega) (by omega)
      rw [show (0 : Int) = ((0 : Nat) : Int) from rfl, this, List.drop_zero, envR l hl hd k (i + 1) (by omega) (by omega)]
      simp only [bind1_some, (plain_eq l[i].name (by omega)).2, (tval_eq _).2.1]
      have e : List.take (i + 1) l = List.take i l ++ [l[i]] := by rw [List.take_add_one, List.getElem?_eq_getElem hi]; rfl
      rw [e, List.map_append]
      cases isPlain l[i].name with
      | false => simp
      | true =>
        simp only [Bool.not_true, Bool.false_eq_true, if_false]
        by_cases h2 : tval l[i].type_ = 0
        · simp only [h2, Int.natCast_zero, bne_self_eq_false, Bool.false_eq_true, if_false]
          split <;> rfl
        · simp [h2]
    · have : i = l.length := by omega
      subst this
      simp [envF]
def envV (env : List ApiDecl) : Int := if 1024 < env.length then 3 else envF [] env
theorem env_eq {env : List ApiDecl} (hl : env.length < 4611686018427387904) (hd : ∀ d ∈ env, d.name.length < 4611686018427387000) : check_Env env = some (envV env) ∧ r11_Env env = some (envV env) ∧ (envV env = 0 → Wenv env) := by
  unfold check_Env r11_Env envV
  have e : decide ((1024 : Int) < (env.length : Int)) = decide (1024 < env.length) := by congr 1; simp; omega
  rw [e]
  by_cases h : 1024 < env.length
  · simp [h]
  · simp only [h, decide_false, Bool.false_eq_true, if_false]
    have s1 := scanS_big (F := fun k s i => check_Env_l1 env k i s) (l := env) (body := fun _ e1 (y1 : List (Str × Int)) r => bind1 (parser_Valid (ApiExpr.mk 2 e1.name (ApiValue.mk 0 false 0 ([] : Str) [] []) [] [])) fun x2 => if x2 != 0 then some 1 else bind1 (typing_Valid e1.type_) fun e2 => if e2 != 0 then some e2 else
      if decide (1 < (mget (mset y1 e1.name (w64 ((mget y1 e1.name) + 1))) e1.name)) then some 7 else r (mset y1 e1.name (w64 ((mget y1 e1.name) + 1)))) (fin := fun _ => some 0) hl (fun k s i => rfl) []
    have s2 := envR env hl hd BIG 0 (by have := BIG_lt; omega) (by omega)
    refine ⟨?_, by simpa using s2, envF_W env []⟩
    rw [s1]
    exact envC env 0 [] [] hd (fun s => by simp [mget])
end Go.Ft

namespace Go.Ft
open Go
attribute [local congr] ite_c1
end Go.Ft

namespace Go.Ft
open Go
attribute [local congr] ite_c1
theorem awake11 : l11_awake = some true := by decide +kernel
theorem env_small {env : List ApiDecl} {N : Nat} (h : (env.map ApiDecl.bulk).sum ≤ N) : env.length ≤ N ∧ ∀ d ∈ env, d.name.length ≤ N := by
  constructor
  · have := len_sum (l := env) (f := ApiDecl.bulk) (fun x => by unfold ApiDecl.bulk; omega)
    omega
  · intro d hd
    have := le_sum' (f := ApiDecl.bulk) hd
    have h2 : d.name.length < d.bulk := by unfold ApiDecl.bulk; omega
    omega
theorem small_eq {e : ApiExpr} (h : e.bulk < 4611686018427387904) (n : Int) : l11_small e n = some ((decide ((ecnt e : Int) ≤ 5000)) && (decide (n ≤ 300))) := by
  unfold l11_small
  rw [(count_eq h).2]
  rfl
end Go.Ft

namespace Go.Ft
open Go
attribute [local congr] ite_c1
mutual
def nmE : ApiExpr → List Str
  | ⟨k, s, _, args, _⟩ => (if k == 2 then [s] else []) ++ nmL args
def nmL : List ApiExpr → List Str
  | [] => []
  | x :: r => nmE x ++ nmL r
end
theorem nmE_eq (e : ApiExpr) : nmE e = (if e.kind == 2 then [e.name] else []) ++ nmL e.args := by cases e; rfl
theorem nmL_len : ∀ (l : List ApiExpr), (∀ x ∈ l, (nmE x).length ≤ ecnt x) → (nmL l).length ≤ ecntL l
  | [], _ => by simp [nmL]
  | x :: r, h => by
    simp only [nmL, ecntL, List.length_append]
    have := h x (by simp)
    have := nmL_len r fun y hy => h y (by simp [hy])
    omega
theorem nmE_len : ∀ (n : Nat) (e : ApiExpr), e.bulk ≤ n → (nmE e).length ≤ ecnt e
  | 0, e, h => by have := e.bulk_pos; omega
  | n + 1, e, h => by
    rw [nmE_eq, ecnt_eq, List.length_append]
    have := nmL_len e.args fun x hx => nmE_len n x (by have := eargs_mem hx; omega)
    split <;> simp <;> omega
theorem nmL_mem : ∀ (l : List ApiExpr) (s : Str), s ∈ nmL l ↔ ∃ x ∈ l, s ∈ nmE x
  | [], s => by simp [nmL]
  | x :: r, s => by simp [nmL, nmL_mem r s]
theorem nmE_short : ∀ (n : Nat) (e : ApiExpr), e.bulk ≤ n → ∀ s ∈ nmE e, s.length < e.bulk
  | 0, e, h, s, hs => by have := e.bulk_pos; omega
  | n + 1, e, h, s, hs => by
    rw [nmE_eq, List.mem_append, nmL_mem] at hs
    rcases hs with hs | ⟨x, hx, hs⟩
    · split at hs
      · simp only [List.mem_singleton] at hs
        subst hs
        exact ename_len e
      · simp at hs
    · have h1 := nmE_short n x (by have := eargs_mem hx; omega) s hs
      have := eargs_mem hx
      omega
theorem visL {go : ApiExpr → List Str → Option (List Str)} : ∀ (l : List ApiExpr) (i : Nat) (out : List Str), (∀ x ∈ l, ∀ o : List Str, o.length + (nmE x).length ≤ LIM → go x o = some (o ++ nmE x)) → out.length + (nmL l).length ≤ LIM →
    scanS (fun _ a1 (o : List Str) r => bind1 (go a1 o) fun o2 => r o2) (fun o => some o) i l out = some (out ++ nmL l)
  | [], i, out, _, _ => by simp [scanS, nmL]
  | x :: r, i, out, h, hl => by
    simp only [nmL, List.length_append] at hl ⊢
    rw [scanS, h x (by simp) out (by omega)]
    simp only [bind1_some]
    rw [visL r (i + 1) (out ++ nmE x) (fun y hy => h y (by simp [hy])) (by simp only [List.length_append]; omega), List.append_assoc]
theorem vis_n : ∀ (n : Nat) (e : ApiExpr) (out : List Str), e.bulk ≤ n → e.bulk < 4611686018427387904 → out.length + (nmE e).length ≤ LIM → check_Names_1_n (n + 1) e out = some (out ++ nmE e)
  | 0, e, out, h, _, _ => by have := e.bulk_pos; omega
  | n + 1, e, out, h, hB, hl => by
    have hal := eargs_len e
    unfold check_Names_1_n check_Names_1_b
    have sb := scanS_big (F := fun k s i => check_Names_1_l1 (check_Names_1_n (n + 1)) e k s i) (l := e.args) (body := fun _ a1 (o : List Str) r => bind1 (check_Names_1_n (n + 1) a1 o) fun o2 => r o2) (fin := fun o => some o) (by omega) (fun k s i => rfl)
    rw [nmE_eq, List.length_append] at hl
    have hgo : ∀ x ∈ e.args, ∀ o : List Str, o.length + (nmE x).length ≤ LIM → check_Names_1_n (n + 1) x o = some (o ++ nmE x) := fun x hx o ho => vis_n n x o (by have := eargs_mem hx; omega) (by have := eargs_mem hx; omega) ho
    rw [nmE_eq]
    by_cases hk : (e.kind == 2) = true
    · simp only [hk, if_true] at hl ⊢
      rw [app_ok (by simp at hl ⊢; omega), bind1_some, sb, visL e.args 0 _ hgo (by simp at hl ⊢; omega), List.append_assoc]
    · simp only [Bool.not_eq_true] at hk
      simp only [hk, Bool.false_eq_true, if_false, List.nil_append] at hl ⊢
      rw [sb, visL e.args 0 _ hgo (by simpa using hl)]
theorem rnmL {go : ApiExpr → Option (List Str)} : ∀ (l : List ApiExpr) (i : Nat) (out : List Str), (∀ x ∈ l, go x = some (nmE x)) → out.length + (nmL l).length ≤ LIM →
    scanS (fun _ e2 (o : List Str) r => bind1 (go e2) fun x1 => bind1 (app o x1) fun l3 => r l3) (fun o => some o) i l out = some (out ++ nmL l)
  | [], i, out, _, _ => by simp [scanS, nmL]
  | x :: r, i, out, h, hl => by
    simp only [nmL, List.length_append] at hl ⊢
    rw [scanS, h x (by simp)]
    simp only [bind1_some]
    rw [app_ok (by omega), bind1_some, rnmL r (i + 1) (out ++ nmE x) (fun y hy => h y (by simp [hy])) (by simp only [List.length_append]; omega), List.append_assoc]
theorem rnames_n : ∀ (n : Nat) (e : ApiExpr), e.bulk ≤ n → e.bulk < 4294967296 → r11_names_n (n + 1) e = some (nmE e)
  | 0, e, h, _ => by have := e.bulk_pos; omega
  | n + 1, e, h, hB => by
    have hal := eargs_len e
    have hlen := nmE_len _ e (Nat.le_refl _)
    have hcnt := ecnt_le _ e (Nat.le_refl _)
    have hlim : (nmE e).length ≤ LIM := by unfold LIM; omega
    unfold r11_names_n r11_names_b
    have s1 := scanS_big (F := fun k s i => r11_names_l1 (r11_names_n (n + 1)) e k s i) (l := e.args) (body := fun _ a1 (o : List Str) r => bind1 (r11_names_n (n + 1) a1) fun x1 => bind1 (app o x1) fun l3 => r l3) (fin := fun o => some o) (by omega) (fun k s i => rfl)
    have s2 := scanS_big (F := fun k s i => r11_names_l2 (r11_names_n (n + 1)) e k s i) (l := e.args) (body := fun _ a1 (o : List Str) r => bind1 (r11_names_n (n + 1) a1) fun x1 => bind1 (app o x1) fun l3 => r l3) (fin := fun o => some o) (by omega) (fun k s i => rfl)
    have hgo : ∀ x ∈ e.args, r11_names_n (n + 1) x = some (nmE x) := fun x hx => rnames_n n x (by have := eargs_mem hx; omega) (by have := eargs_mem hx; omega)
    rw [nmE_eq] at hlim ⊢
    rw [List.length_append] at hlim
    by_cases hk : (e.kind == 2) = true
    · simp only [hk, if_true] at hlim ⊢
      rw [app_ok (by simp at hlim ⊢; omega), bind1_some, s1, rnmL e.args 0 _ hgo (by simp at hlim ⊢; omega)]
      simp
    · simp only [Bool.not_eq_true] at hk
      simp only [hk, Bool.false_eq_true, if_false, List.nil_append] at hlim ⊢
      rw [s2, rnmL e.args 0 _ hgo (by simpa using hlim)]
      simp
theorem rnames_eq {e : ApiExpr} (h : e.bulk < 4294967296) : r11_names e = some (nmE e) := by
  obtain ⟨n, hn, hn2⟩ := BIG_succ
  unfold r11_names
  rw [hn]
  exact rnames_n n e (by omega) h
theorem nat_ok {l : List Str} (h : ∀ s ∈ l, s.length < 4611686018427387904) (hl : l.length ≤ LIM) : ident_Sorted l = some (natSet l) := by
  unfold ident_Sorted
  rw [if_pos]
  simp only [Bool.and_eq_true, List.all_eq_true, decide_eq_true_eq]
  exact ⟨h, hl⟩
theorem cnames_eq {e : ApiExpr} (h : e.bulk < 4294967296) : check_Names e = some (natSet (nmE e)) := by
  obtain ⟨n, hn, hn2⟩ := BIG_succ
  have hlen := nmE_len _ e (Nat.le_refl _)
  have hcnt := ecnt_le _ e (Nat.le_refl _)
  unfold check_Names
  rw [hn, vis_n n e [] (by omega) (by omega) (by unfold LIM; simp; omega)]
  simp only [bind1_some, List.nil_append]
  exact nat_ok (fun s hs => by have := nmE_short _ e (Nat.le_refl _) s hs; omega) (by unfold LIM; omega)
theorem asc_ins {l : List Str} {a : Nat} {x : Str} (hl : asc l) (ha : a ≤ l.length) (h1 : ∀ i, (hi : i < l.length) → i < a → natCmp l[i] x < 0) (h2 : ∀ i, (hi : i < l.length) → a ≤ i → natCmp x l[i] < 0) : asc (l.take a ++ [x] ++ l.drop a) := by
  unfold asc at *
  rw [List.append_assoc, List.pairwise_append]
  refine ⟨hl.sublist (List.take_sublist _ _), ?_, ?_⟩
  · rw [List.singleton_append, List.pairwise_cons]
    refine ⟨fun y hy => ?_, hl.sublist (List.drop_sublist _ _)⟩
    obtain ⟨i, hi, rfl⟩ := List.mem_iff_getElem.1 hy
    rw [List.getElem_drop]
    exact h2 _ _ (by omega)
  · intro y hy z hz
    obtain ⟨i, hi, rfl⟩ := List.mem_iff_getElem.1 hy
    have hi' : i < a := by simp at hi; omega
    rw [List.getElem_take]
    have hyx := h1 i (by omega) hi'
    rw [List.singleton_append, List.mem_cons] at hz
    rcases hz with rfl | hz
    · exact hyx
    · obtain ⟨j, hj, rfl⟩ := List.mem_iff_getElem.1 hz
      rw [List.getElem_drop]
      exact natCmp_trans hyx (h2 _ _ (by omega))
theorem asc_get {l : List Str} (hl : asc l) {i j : Nat} (hij : i < j) (hj : j < l.length) : natCmp l[i] l[j] < 0 := List.pairwise_iff_getElem.1 hl i j (by omega) hj hij
theorem ins_loop {names out : List Str} {i : Nat} (hi : i < names.length) (hn : ∀ s ∈ names, s.length < 4611686018427387904) (ho : ∀ s ∈ out, s.length < 4611686018427387904) (hlen : out.length + 1 ≤ LIM) (hout : asc out)
    (go : List Str → Int → Option (List Str)) (hin : names.length < 4611686018427387904) : ∀ (a k : Nat), a < k → a ≤ out.length → (∀ j, (hj : j < out.length) → a ≤ j → natCmp names[i] out[j] < 0) →
    ∃ out', asc out' ∧ (∀ x, x ∈ out' ↔ x ∈ out ∨ x = names[i]) ∧ out'.length ≤ out.length + 1 ∧ r04_Sorted_l2 names out (i : Int) go k (a : Int) = go out' (((i + 1 : Nat)) : Int)
  | a, 0, h, _, _ => by omega
  | 0, k + 1, _, _, hge => by
    refine ⟨[names[i]] ++ out, ?_, ?_, ?_, ?_⟩
    · have := asc_ins (a := 0) (x := names[i]) hout (by omega) (fun j hj hja => by omega) (fun j hj hja => hge j hj hja)
      simpa using this
    · intro x; simp [or_comm]
    · simp
    · unfold LIM at hlen
      have hsl : sl out ((0 : Nat) : Int) (out.length : Int) = some out := by rw [sl_ok (by omega) (by omega) (by omega)]; simp
      have hsl0 : sl out 0 ((0 : Nat) : Int) = some [] := by rw [sl_ok (by omega) (by omega) (by omega)]; simp
      rw [r04_Sorted_l2]
      rw [if_neg (by simp)]
      simp only [bind1_some, Bool.false_eq_true, if_false]
      rw [if_neg (by simp)]
      simp only [bind1_some, Bool.false_eq_true, if_false]
      rw [hsl0, bind1_some, app_ok (by simp), bind1_some, idxn hi, bind1_some, app_ok (by simp [LIM]), bind1_some, hsl, bind1_some, app_ok (by simp [LIM]; omega), bind1_some, w64s (by omega)]
      simp
  | a + 1, k + 1, hk, ha, hge => by
    unfold LIM at hlen
    have hw : w64 (((a + 1 : Nat) : Int) - 1) = (a : Int) := by rw [w64z (by omega)]; omega
    have hx := hn _ (List.getElem_mem hi)
    have hy := ho _ (List.getElem_mem (show a < out.length by omega))
    rw [r04_Sorted_l2]
    rw [if_pos (by simp), idxn hi, bind1_some, hw, idxn (show a < out.length by omega), bind1_some, natCmp_ref hx hy]
    simp only [bind1_some]
    by_cases hlt : natCmp names[i] out[a] < 0
    · simp only [hlt, decide_true, if_true]
      exact ins_loop hi hn ho (by unfold LIM; omega) hout go hin a k (by omega) (by omega) (fun j hj hja => by
        rcases Nat.lt_or_ge a j with h | h
        · exact hge j hj (by omega)
        · have : j = a := by omega
          subst this
          exact hlt)
    · simp only [hlt, decide_false, Bool.false_eq_true, if_false]
      rw [if_pos (by simp)]
      simp only [bind1_some]
      by_cases heq : out[a] = names[i]
      · refine ⟨out, hout, ?_, by omega, ?_⟩
        · intro x
          constructor
          · exact .inl
          · rintro (h | rfl)
            · exact h
            · rw [← heq]; exact List.getElem_mem _
        · simp only [heq, beq_self_eq_true, if_true]
          rw [w64s (by omega)]
      · have hgt : natCmp out[a] names[i] < 0 := by
          have h1 := natCmp_neg names[i] out[a]
          rcases Int.lt_trichotomy (natCmp out[a] names[i]) 0 with h | h | h
          · exact h
          · exact absurd (natCmp_zero h) heq
          · omega
        have hb : (out[a] == names[i]) = false := by simpa using heq
        simp only [hb, Bool.false_eq_true, if_false]
        have hsl : sl out ((a + 1 : Nat) : Int) (out.length : Int) = some (out.drop (a + 1)) := by rw [sl_ok (by omega) (by omega) (by omega)]; simp
        have hsl0 : sl out 0 ((a + 1 : Nat) : Int) = some (out.take (a + 1)) := by rw [sl_ok (by omega) (by omega) (by omega)]; simp
        refine ⟨out.take (a + 1) ++ [names[i]] ++ out.drop (a + 1), asc_ins hout ha (fun j hj hja => ?_) (fun j hj hja => hge j hj hja), ?_, ?_, ?_⟩
        · rcases Nat.lt_or_ge j a with h | h
          · exact natCmp_trans (asc_get hout h (by omega)) hgt
          · have : j = a := by omega
            subst this
            exact hgt
        · intro x
          have : x ∈ out ↔ x ∈ out.take (a + 1) ∨ x ∈ out.drop (a + 1) := by rw [← List.mem_append, List.take_append_drop]
          rw [this]
          simp only [List.mem_append, List.mem_singleton]
          constructor
          · rintro ((h | h) | h)
            · exact .inl (.inl h)
            · exact .inr h
            · exact .inl (.inr h)
          · rintro ((h | h) | h)
            · exact .inl (.inl h)
            · exact .inr h
            · exact .inl (.inr h)
        · simp; omega
        · rw [hsl0, bind1_some, app_ok (by simp [LIM]; omega), bind1_some, app_ok (by simp [LIM]; omega), bind1_some, hsl, bind1_some, app_ok (by simp [LIM]; omega), bind1_some, w64s (by omega)]
          simp
theorem rsorted_loop {names : List Str} (hn : ∀ s ∈ names, s.length < 4611686018427387904) (hin : names.length < LIM) : ∀ (k i : Nat) (out : List Str), names.length < k + i → i ≤ names.length → asc out → (∀ x, x ∈ out ↔ x ∈ names.take i) → out.length ≤ i →
    ∃ r, r04_Sorted_l1 names k out (i : Int) = some r ∧ asc r ∧ ∀ x, x ∈ r ↔ x ∈ names
  | 0, i, out, h, h', _, _, _ => by omega
  | k + 1, i, out, h, h', ha, hm, hl => by
    unfold LIM at hin
    rw [r04_Sorted_l1]
    by_cases hi : i < names.length
    · rw [if_pos (by simp; omega)]
      have ho : ∀ s ∈ out, s.length < 4611686018427387904 := fun s hs => hn s (List.mem_of_mem_take ((hm s).1 hs))
      obtain ⟨out', a1, a2, a3, a4⟩ := ins_loop hi hn ho (by unfold LIM; omega) ha (r04_Sorted_l1 names k) (by omega) out.length BIG (by have := BIG_lt; omega) (Nat.le_refl _) (fun j hj hja => by omega)
      rw [a4]
      refine rsorted_loop hn (by unfold LIM; omega) k (i + 1) out' (by omega) (by omega) a1 (fun x => ?_) (by omega)
      rw [a2, hm, List.take_succ_eq_append_getElem hi, List.mem_append, List.mem_singleton]
    · rw [if_neg (by simp; omega)]
      refine ⟨out, rfl, ha, fun x => ?_⟩
      rw [hm, List.take_of_length_le (by omega)]
theorem rsorted_eq {l : List Str} (hn : ∀ s ∈ l, s.length < 4611686018427387904) (hl : l.length < LIM) : r04_Sorted l = some (natSet l) := by
  obtain ⟨r, h1, h2, h3⟩ := rsorted_loop hn hl BIG 0 [] (by have := BIG_lt; unfold LIM at hl; omega) (by omega) List.Pairwise.nil (fun x => by simp) (by simp)
  unfold r04_Sorted
  rw [show (0 : Int) = ((0 : Nat) : Int) from rfl, h1]
  congr 1
  exact asc_unique h2 (asc_natSet l) (fun x => by rw [h3, mem_natSet])
theorem rNames_eq {e : ApiExpr} (h : e.bulk < 4294967296) : r11_Names e = some (natSet (nmE e)) := by
  have hlen := nmE_len _ e (Nat.le_refl _)
  have hcnt := ecnt_le _ e (Nat.le_refl _)
  unfold r11_Names
  rw [rnames_eq h, bind1_some]
  exact rsorted_eq (fun s hs => by have := nmE_short _ e (Nat.le_refl _) s hs; omega) (by unfold LIM; omega)
theorem natSet_len (l : List Str) : (natSet l).length ≤ l.length := by
  have h : ∀ l : List Str, (dd l).length ≤ l.length := by
    intro l
    fun_induction dd l <;> simp_all <;> omega
  have := h (natSort l)
  rw [(natSort_perm l).length_eq] at this
  exact this
theorem law_CheckNames (e1 : ApiExpr) (env1 : List ApiDecl) (h : ApiExpr.bulk e1 + ((List.map (fun z : ApiDecl => (ApiDecl.bulk z)) env1).sum + 1) ≤ 1048576) : l11_CheckNames e1 env1 = some true := by
  have hE : (env1.map ApiDecl.bulk).sum ≤ 1048576 := by
    have h' : (List.map (fun z : ApiDecl => (ApiDecl.bulk z)) env1).sum ≤ 1048576 := by omega
    exact h'
  obtain ⟨hl, hd⟩ := env_small hE
  have hlen := nmE_len _ e1 (Nat.le_refl _)
  have hcnt := ecnt_le _ e1 (Nat.le_refl _)
  have hsl := natSet_len (nmE e1)
  unfold l11_CheckNames
  rw [small_eq (by omega), bind1_some]
  split
  · exact awake11
  · rw [cnames_eq (by omega), bind1_some, rNames_eq (by omega), bind1_some]
    rw [if_neg (by simp)]
    obtain ⟨v1, v2, _⟩ := env_eq (env := env1) (by omega) (fun d hdm => by have := hd d hdm; omega)
    have sb := scanS_big (F := fun k (_ : Unit) i => l11_CheckNames_l1 env1 (natSet (nmE e1)) (natSet (nmE e1)) k i) (l := natSet (nmE e1)) (body := fun (i : Nat) e2 _ r => bind1 (idx (natSet (nmE e1)) (i : Int)) fun e3 => if !(e2 == e3) then some false else r ())
      (fin := fun _ => bind1 (check_Env env1) fun x3 => bind1 (r11_Env env1) fun x4 => if x3 == x4 then l11_awake else some false) (by omega) (fun k s i => rfl) ()
    rw [sb]
    have key : ∀ (t : List Str) (i : Nat), t = (natSet (nmE e1)).drop i → scanS (fun (i : Nat) e2 (_ : Unit) r => bind1 (idx (natSet (nmE e1)) (i : Int)) fun e3 => if !(e2 == e3) then some false else r ())
      (fun _ => bind1 (check_Env env1) fun x3 => bind1 (r11_Env env1) fun x4 => if x3 == x4 then l11_awake else some false) i t () = some true := by
      intro t
      induction t with
      | nil =>
        intro i _
        rw [scanS, v1, bind1_some, v2, bind1_some, if_pos (by simp), awake11]
      | cons d t ih =>
        intro i ht
        have hi : i < (natSet (nmE e1)).length := by
          rcases Nat.lt_or_ge i (natSet (nmE e1)).length with h | h
          · exact h
          · rw [List.drop_eq_nil_of_le h] at ht; cases ht
        have hc := List.drop_eq_getElem_cons hi
        rw [← ht] at hc
        have e1' := (List.cons.inj hc).1
        have e2' := (List.cons.inj hc).2
        rw [scanS, idxn hi, bind1_some, ← e1', if_neg (by simp)]
        exact ih (i + 1) e2'
    exact key _ 0 rfl
end Go.Ft
