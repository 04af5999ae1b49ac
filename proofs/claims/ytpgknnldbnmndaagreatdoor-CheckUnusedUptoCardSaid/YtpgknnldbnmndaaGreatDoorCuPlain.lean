/- Proved here: plain facts on the functional texts. -/
import Derived.Test.YtpgknnldbnmndaaGreatDoorCuFt
import Derived.Test.YtpgknnldbnmndaaGreatDoorCuPre
set_option linter.unusedVariables false
set_option linter.unusedSimpArgs false
set_option maxHeartbeats 2000000
namespace Go.Ft
open Go
attribute [local congr] ite_c1
theorem le_sum' {α : Type} {f : α → Nat} {l : List α} {x : α} (h : x ∈ l) : f x ≤ (l.map f).sum := by
  induction l with
  | nil => cases h
  | cons y l ih =>
    simp only [List.map_cons, List.sum_cons]
    rcases List.mem_cons.1 h with rfl | h
    · omega
    · have := ih h; omega
theorem len_sum {α : Type} {f : α → Nat} {l : List α} (h : ∀ x, 1 ≤ f x) : l.length ≤ (l.map f).sum := by
  induction l with
  | nil => simp
  | cons y l ih => simp only [List.map_cons, List.sum_cons, List.length_cons]; have := h y; omega
theorem ApiValue.bulk_pos (v : ApiValue) : 1 ≤ v.bulk := by rw [ApiValue.bulk_eq]; omega
theorem ApiExpr.bulk_pos (v : ApiExpr) : 1 ≤ v.bulk := by rw [ApiExpr.bulk_eq]; omega
theorem ApiType.bulk_pos (v : ApiType) : 1 ≤ v.bulk := by rw [ApiType.bulk_eq]; omega
theorem vlist_len (v : ApiValue) : v.list_.length < v.bulk := by rw [ApiValue.bulk_eq, ApiValue.bulkL_eq]; have := len_sum (l := v.list_) ApiValue.bulk_pos; omega
theorem vlist_mem {v x : ApiValue} (h : x ∈ v.list_) : x.bulk < v.bulk := by rw [ApiValue.bulk_eq v, ApiValue.bulkL_eq]; have := le_sum' (f := ApiValue.bulk) h; omega
theorem vkeys_len (v : ApiValue) : v.keys.length < v.bulk := by rw [ApiValue.bulk_eq]; have := len_sum (l := v.keys) (f := fun z : Str => z.length + 1) (fun x => by omega); omega
theorem vkeys_mem {v : ApiValue} {x : Str} (h : x ∈ v.keys) : x.length < v.bulk := by rw [ApiValue.bulk_eq v]; have := le_sum' (f := fun z : Str => z.length + 1) h; omega
theorem eargs_len (e : ApiExpr) : e.args.length < e.bulk := by rw [ApiExpr.bulk_eq, ApiExpr.bulkL_eq]; have := len_sum (l := e.args) ApiExpr.bulk_pos; omega
theorem eargs_mem {e x : ApiExpr} (h : x ∈ e.args) : x.bulk < e.bulk := by rw [ApiExpr.bulk_eq e, ApiExpr.bulkL_eq]; have := le_sum' (f := ApiExpr.bulk) h; omega
theorem ekeys_len (v : ApiExpr) : v.keys.length < v.bulk := by rw [ApiExpr.bulk_eq]; have := len_sum (l := v.keys) (f := fun z : Str => z.length + 1) (fun x => by omega); omega
theorem ename_len (v : ApiExpr) : v.name.length < v.bulk := by rw [ApiExpr.bulk_eq]; omega
theorem evalue_bulk (v : ApiExpr) : v.value.bulk < v.bulk := by rw [ApiExpr.bulk_eq]; omega
mutual
def ecnt : ApiExpr → Nat
  | ⟨_, _, _, args, _⟩ => 1 + ecntL args
def ecntL : List ApiExpr → Nat
  | [] => 0
  | x :: r => ecnt x + ecntL r
end
theorem ecnt_eq (e : ApiExpr) : ecnt e = 1 + ecntL e.args := by cases e; rfl
theorem ecntL_le : ∀ (l : List ApiExpr) (n : Nat), (∀ x ∈ l, ecnt x ≤ x.bulk) → ecntL l ≤ (l.map ApiExpr.bulk).sum
  | [], _, _ => by simp [ecntL]
  | x :: r, n, h => by
    simp only [ecntL, List.map_cons, List.sum_cons]
    have := h x (by simp)
    have := ecntL_le r n fun y hy => h y (by simp [hy])
    omega
theorem ecnt_le : ∀ (n : Nat) (e : ApiExpr), e.bulk ≤ n → ecnt e ≤ e.bulk
  | 0, e, h => by have := e.bulk_pos; omega
  | n + 1, e, h => by
    rw [ecnt_eq, ApiExpr.bulk_eq, ApiExpr.bulkL_eq]
    have := ecntL_le e.args n fun x hx => ecnt_le n x (by have := eargs_mem hx; omega)
    omega
theorem countL {go : ApiExpr → Option Int} : ∀ (l : List ApiExpr) (i s : Nat), (∀ x ∈ l, go x = some (ecnt x : Int)) → s + ecntL l < 4611686018427387904 →
    scanS (fun _ e2 (n1 : Int) r => bind1 (go e2) fun x2 => r (w64 (n1 + x2))) (fun n1 => some n1) i l (s : Int) = some ((s + ecntL l : Nat) : Int)
  | [], i, s, _, _ => by simp [scanS, ecntL]
  | x :: r, i, s, h, hs => by
    simp only [ecntL] at hs ⊢
    rw [scanS, h x (by simp)]
    simp only [bind1_some]
    have : w64 ((s : Int) + (ecnt x : Int)) = ((s + ecnt x : Nat) : Int) := by rw [w64z (by omega)]; omega
    rw [this, countL r (i + 1) (s + ecnt x) (fun y hy => h y (by simp [hy])) (by omega)]
    simp only [Option.some.injEq, Int.natCast_inj]; omega
theorem count_n : ∀ (n : Nat) (e : ApiExpr), e.bulk ≤ n → e.bulk < 4611686018427387904 → parser_Count_n (n + 1) e = some (ecnt e : Int) ∧ r10_Count_n (n + 1) e = some (ecnt e : Int)
  | 0, e, h, _ => by have := e.bulk_pos; omega
  | n + 1, e, h, hB => by
    have hl := eargs_len e
    have hle := ecnt_le _ e (Nat.le_refl _)
    rw [ecnt_eq] at hle
    constructor
    · unfold parser_Count_n parser_Count_b
      have := scanS_big (F := fun k s i => parser_Count_l1 (parser_Count_n (n + 1)) e k s i) (l := e.args) (body := fun _ e2 (n1 : Int) r => bind1 (parser_Count_n (n + 1) e2) fun x2 => r (w64 (n1 + x2))) (fin := fun n1 => some n1) (by omega) (fun k s i => rfl) 1
      rw [this, show (1 : Int) = ((1 : Nat) : Int) from rfl, countL e.args 0 1 (fun x hx => (count_n n x (by have := eargs_mem hx; omega) (by have := eargs_mem hx; omega)).1) (by omega), ecnt_eq]
    · unfold r10_Count_n r10_Count_b
      have := scanS_big (F := fun k s i => r10_Count_l1 (r10_Count_n (n + 1)) e k s i) (l := e.args) (body := fun _ e2 (n1 : Int) r => bind1 (r10_Count_n (n + 1) e2) fun x2 => r (w64 (n1 + x2))) (fin := fun n1 => some n1) (by omega) (fun k s i => rfl) 1
      rw [this, show (1 : Int) = ((1 : Nat) : Int) from rfl, countL e.args 0 1 (fun x hx => (count_n n x (by have := eargs_mem hx; omega) (by have := eargs_mem hx; omega)).2) (by omega), ecnt_eq]
theorem BIG_succ : ∃ n, BIG = n + 1 ∧ 9223372036854775807 ≤ n := ⟨BIG - 1, by decide, by decide⟩
theorem count_eq {e : ApiExpr} (h : e.bulk < 4611686018427387904) : parser_Count e = some (ecnt e : Int) ∧ r10_Count e = some (ecnt e : Int) := by
  obtain ⟨n, hn, hn2⟩ := BIG_succ
  unfold parser_Count r10_Count
  rw [hn]
  exact count_n n e (by omega) h
def isName (s : Str) : Bool := decide (1 ≤ s.length) && decide (s.length ≤ 64) && (match s with | c :: _ => isLet c | [] => false) && s.all fun c => isLet c || isDig c
def isPlain (s : Str) : Bool := isName s && !((s == ([116, 114, 117, 101] : Str)) || (s == ([102, 97, 108, 115, 101] : Str)) || (s == ([110, 117, 108, 108] : Str)))
theorem nameL (s : Str) (hs : s.length < 4611686018427387904) : parser_name_l1 s BIG 0 = some (s.all fun c => isLet c || isDig c) := by
  have := scanS_big (F := fun k (_ : Unit) i => parser_name_l1 s k i) (l := s) (body := fun (i : Nat) x3 _ r => bind1 (if !(isLet x3) then bind1 (idx s (i : Int)) fun x5 => some (!(isDig x5)) else some false) fun b2 => if b2 then some false else r ()) (fin := fun _ => some true) hs (fun k s i => rfl) ()
  rw [this]
  have key : ∀ (t : Str) (i : Nat), t = s.drop i → scanS (fun (i : Nat) x3 (_ : Unit) r => bind1 (if !(isLet x3) then bind1 (idx s (i : Int)) fun x5 => some (!(isDig x5)) else some false) fun b2 => if b2 then some false else r ()) (fun _ => some true) i t () = some (t.all fun c => isLet c || isDig c) := by
    intro t
    induction t with
    | nil => intro i _; rfl
    | cons c t ih =>
      intro i ht
      have hi : i < s.length := by
        rcases Nat.lt_or_ge i s.length with h | h
        · exact h
        · rw [List.drop_eq_nil_of_le h] at ht; cases ht
      have hc := List.drop_eq_getElem_cons hi
      rw [← ht] at hc
      have e1 : c = s[i] := (List.cons.inj hc).1
      have e2 := (List.cons.inj hc).2
      rw [scanS, idxn hi, ← e1]
      simp only [bind1_some]
      rw [ih (i + 1) e2]
      cases h1 : isLet c <;> cases h2 : isDig c <;> simp [h1, h2]
  exact key s 0 rfl
theorem p_name (s : Str) (hs : s.length < 4611686018427387904) : parser_name s = some (isName s) := by
  unfold parser_name isName
  rw [nameL s hs]
  by_cases h1 : s.length < 1
  · have : s = [] := by cases s; rfl; simp at h1
    subst this; simp
  · by_cases h2 : 64 < s.length
    · have e1 : decide ((64 : Int) < (s.length : Int)) = true := by simp; omega
      have e2 : decide (s.length ≤ 64) = false := by simp; omega
      simp [e1, e2]
    · cases s with
      | nil => simp at h1
      | cons c s =>
        have e1 : decide ((((c :: s).length : Nat) : Int) < 1) = false := by simp; omega
        have e2 : decide ((64 : Int) < (((c :: s).length : Nat) : Int)) = false := by simp at h2 ⊢; omega
        have e3 : decide ((c :: s).length ≤ 64) = true := by simp at h2 ⊢; omega
        have e4 : idx (c :: s) 0 = some c := rfl
        rw [e1, e2, e3, e4]
        cases h3 : isLet c <;> simp [h3]
theorem r_name (s : Str) (hs : s.length < 4611686018427387904) : r09_Name s = some (isName s) := by
  unfold r09_Name
  have := scanS_big (F := fun k (_ : Unit) i => r09_Name_l1 s k i) (l := s) (body := fun (i : Nat) x3 _ r => bind1 (if !(isLet x3) then (if (i : Int) == 0 then some true else bind1 (idx s (i : Int)) fun x5 => some (!(isDig x5))) else some false) fun b2 => if b2 then some false else r ())
    (fin := fun _ => some ((decide (1 ≤ (s.length : Int))) && (decide ((s.length : Int) ≤ 64)))) hs (fun k s i => rfl) ()
  rw [this]
  have key : ∀ (t : Str) (i : Nat), t = s.drop i → scanS (fun (i : Nat) x3 (_ : Unit) r => bind1 (if !(isLet x3) then (if (i : Int) == 0 then some true else bind1 (idx s (i : Int)) fun x5 => some (!(isDig x5))) else some false) fun b2 => if b2 then some false else r ())
      (fun _ => some ((decide (1 ≤ (s.length : Int))) && (decide ((s.length : Int) ≤ 64)))) i t () = some ((decide (1 ≤ s.length) && decide (s.length ≤ 64)) && ((if i = 0 then (match t with | c :: _ => isLet c | [] => true) else true) && t.all fun c => isLet c || isDig c)) := by
    intro t
    induction t with
    | nil =>
      intro i _
      rw [scanS]
      have e1 : decide ((1 : Int) ≤ (s.length : Int)) = decide (1 ≤ s.length) := by congr 1; simp; omega
      have e2 : decide ((s.length : Int) ≤ 64) = decide (s.length ≤ 64) := by congr 1; simp; omega
      rw [e1, e2]; simp
    | cons c t ih =>
      intro i ht
      have hi : i < s.length := by
        rcases Nat.lt_or_ge i s.length with h | h
        · exact h
        · rw [List.drop_eq_nil_of_le h] at ht; cases ht
      have hc := List.drop_eq_getElem_cons hi
      rw [← ht] at hc
      have e1 : c = s[i] := (List.cons.inj hc).1
      have e2 := (List.cons.inj hc).2
      rw [scanS, idxn hi, ← e1]
      simp only [bind1_some]
      rw [ih (i + 1) e2]
      by_cases h0 : i = 0
      · subst h0
        cases h1 : isLet c <;> simp [h1]
      · have : ((i : Int) == 0) = false := by simp; omega
        rw [this]
        cases h1 : isLet c <;> cases h2 : isDig c <;> simp [h1, h2, h0]
  rw [key s 0 rfl]
  unfold isName
  cases s with
  | nil => simp
  | cons c s => simp [Bool.and_assoc]
theorem plain_eq (s : Str) (hs : s.length < 4611686018427387904) : parser_plain s = some (isPlain s) ∧ r10_Plain s = some (isPlain s) := by
  unfold parser_plain r10_Plain isPlain parser_word
  rw [p_name s hs, r_name s hs]
  constructor
  · cases isName s <;> simp
  · simp only [bind1_some, Option.some.injEq]
    cases isName s <;> simp [Bool.not_or, Bool.and_assoc]
theorem strength_eq (s : Str) : r10_Strength s = parser_strength s := rfl
theorem strength_some (s : Str) : ∃ n, parser_strength s = some n := by
  have : (parser_strength s).isSome = true := by
    unfold parser_strength
    simp only [apply_ite Option.isSome, Option.isSome_some, ite_self]
  exact Option.isSome_iff_exists.1 this
end Go.Ft

namespace Go.Ft
open Go
attribute [local congr] ite_c1
def keyOK (s : Str) : Bool := decide (1 ≤ s.length) && decide (s.length ≤ 64)
def ncmp (a b : Str) : Int := (r04_Compare a b).getD 0
theorem ncmp_eq {a b : Str} (ha : a.length < 4611686018427387904) (hb : b.length < 4611686018427387904) : ident_Compare a b = some (ncmp a b) ∧ r04_Compare a b = some (ncmp a b) := by
  obtain ⟨c, h1, h2⟩ := compare_eq ha hb
  unfold ncmp
  rw [h2]
  exact ⟨h1, rfl⟩
def ascL : Option Str → List Str → Bool
  | _, [] => true
  | p, k :: r => keyOK k && (match p with | none => true | some q => decide (ncmp q k < 0)) && ascL (some k) r
theorem keyOK_i (s : Str) : ((decide ((s.length : Int) < 1)) || (decide (64 < (s.length : Int)))) = !keyOK s := by
  unfold keyOK
  rw [Bool.eq_iff_iff]
  simp only [Bool.or_eq_true, Bool.not_eq_true', Bool.and_eq_false_iff, decide_eq_true_eq, decide_eq_false_iff_not]
  omega
theorem key_eq (s : Str) : r07_key s = some (keyOK s) := by
  unfold r07_key keyOK
  simp only [Option.some.injEq]
  rw [Bool.eq_iff_iff]
  simp only [Bool.and_eq_true, decide_eq_true_eq]
  omega
def prevOf (l : List Str) (i : Nat) : Option Str := if i = 0 then none else l[i - 1]?
theorem asc_gen {v : ApiValue} (hv : v.bulk < 4611686018427387904) : ∀ (k i : Nat), v.keys.length < k + i → i ≤ v.keys.length →
    value_keyed_l1 v k (i : Int) = some (ascL (prevOf v.keys i) (v.keys.drop i)) ∧
    r07_ascending_l1 v k (i : Int) = some (ascL (prevOf v.keys i) (v.keys.drop i) && ((v.keys.length : Int) == (v.list_.length : Int)))
  | 0, i, h, h' => by omega
  | k + 1, i, h, h' => by
    have hlen := vkeys_len v
    rw [value_keyed_l1, r07_ascending_l1]
    by_cases hi : i < v.keys.length
    · have hm : v.keys[i] ∈ v.keys := List.getElem_mem hi
      have hb := vkeys_mem hm
      rw [List.drop_eq_getElem_cons hi, if_pos (by simp; omega), if_pos (by simp; omega), idxn hi]
      simp only [bind1_some, keyOK_i, key_eq, ascL]
      obtain ⟨ih1, ih2⟩ := asc_gen hv k (i + 1) (by omega) (by omega)
      have hp : prevOf v.keys (i + 1) = some v.keys[i] := by simp [prevOf, hi]
      rw [hp] at ih1 ih2
      rw [w64s (by omega), ih1, ih2]
      by_cases h0 : i = 0
      · subst h0
        have hp0 : prevOf v.keys 0 = none := rfl
        rw [hp0]
        cases keyOK v.keys[0] <;> simp
      · have hi1 : i - 1 < v.keys.length := by omega
        have hm1 : v.keys[i - 1] ∈ v.keys := List.getElem_mem hi1
        have hb1 := vkeys_mem hm1
        have hp0 : prevOf v.keys i = some v.keys[i - 1] := by simp [prevOf, h0, hi1]
        have e1 : w64 ((i : Int) - 1) = ((i - 1 : Nat) : Int) := by rw [w64z (by omega)]; omega
        obtain ⟨c1, c2⟩ := ncmp_eq (a := v.keys[i - 1]) (b := v.keys[i]) (by omega) (by omega)
        have hpos : decide ((0 : Int) < (i : Int)) = true := by simp; omega
        rw [hp0, e1, hpos, idxn hi1]
        simp only [bind1_some, c1, c2, if_true]
        have hn : decide (ncmp v.keys[i - 1] v.keys[i] < 0) = !decide (0 ≤ ncmp v.keys[i - 1] v.keys[i]) := by
          by_cases h : 0 ≤ ncmp v.keys[i - 1] v.keys[i] <;> simp [h] <;> omega
        rw [hn]
        cases keyOK v.keys[i] <;> cases decide (0 ≤ ncmp v.keys[i - 1] v.keys[i]) <;> simp
    · have : i = v.keys.length := by omega
      subst this
      simp [ascL]
theorem keyed_eq {v : ApiValue} (hv : v.bulk < 4611686018427387904) : value_keyed v = some (((v.keys.length : Int) == (v.list_.length : Int)) && ascL none v.keys) ∧ r07_ascending v = some (((v.keys.length : Int) == (v.list_.length : Int)) && ascL none v.keys) := by
  have hlen := vkeys_len v
  obtain ⟨h1, h2⟩ := asc_gen hv BIG 0 (by have := BIG_lt; omega) (by omega)
  have hp0 : prevOf v.keys 0 = none := rfl
  rw [hp0, List.drop_zero] at h1 h2
  unfold value_keyed r07_ascending
  rw [show (0 : Int) = ((0 : Nat) : Int) from rfl, h1, h2]
  by_cases h : (v.keys.length : Int) = (v.list_.length : Int)
  · simp [h]
  · have : ((v.keys.length : Int) == (v.list_.length : Int)) = false := by simpa using h
    simp [this]
    intro hh; exact absurd hh h
def vplain (v : ApiValue) : Bool :=
  (((((v.kind == 1) || (!v.bool_)) && ((v.kind == 2) || (v.int_ == 0))) && ((v.kind == 3) || (v.str_ == ([] : Str)))) && (((v.kind == 4) || (v.kind == 5)) || ((v.list_.length : Int) == 0))) && ((v.kind == 5) || ((v.keys.length : Int) == 0))
theorem plain7 (v : ApiValue) : r07_plain v = some (vplain v) := by
  unfold r07_plain vplain
  have hl : decide (0 < (v.list_.length : Int)) = !((v.list_.length : Int) == 0) := by
    cases h : v.list_ <;> simp
    omega
  rw [hl]
  have hk : ∀ n : Int, (v.kind != n) = !(v.kind == n) := fun n => rfl
  have hi : (v.int_ != 0) = !(v.int_ == 0) := rfl
  rw [hk, hk, hk, hk, hk, hi]
  generalize (v.kind == 1) = a1
  generalize (v.kind == 2) = a2
  generalize (v.kind == 3) = a3
  generalize (v.kind == 4) = a4
  generalize (v.kind == 5) = a5
  generalize v.bool_ = b
  generalize (v.int_ == 0) = c
  generalize (v.str_ == ([] : Str)) = d
  generalize ((v.list_.length : Int) == 0) = e
  generalize ((v.keys.length : Int) == 0) = f
  revert a1 a2 a3 a4 a5 b c d e f
  decide
def vnode (v : ApiValue) (level : Nat) : Int :=
  if 16 < level then 13
  else if (decide (v.kind < 0)) || (decide (5 < v.kind)) || !vplain v then 1
  else if (decide (v.int_ < (-9007199254740992))) || (decide (9007199254740992 < v.int_)) then 2
  else if ((decide (4096 < (v.str_.length : Int))) || (decide (1024 < (v.list_.length : Int)))) || (decide (1024 < (v.keys.length : Int))) then 3
  else if v.kind == 5 && !(((v.keys.length : Int) == (v.list_.length : Int)) && ascL none v.keys) then 1
  else if (((v.kind == 4) || (v.kind == 5)) && ((v.list_.length : Int) == 0)) && level == 16 then 13
  else 0
theorem node_eq {v : ApiValue} (hv : v.bulk < 4611686018427387904) (level : Nat) : value_node v (level : Int) = some (vnode v level) := by
  unfold value_node vnode value_unused
  have h16 : decide ((16 : Int) < (level : Int)) = decide (16 < level) := by congr 1; simp; omega
  have h16e : ((level : Int) == 16) = (level == 16) := by
    rw [Bool.eq_iff_iff]; simp only [beq_iff_eq]; omega
  rw [h16, h16e, (keyed_eq hv).1]
  change (if decide (16 < level) = true then some 13 else bind1 (if (decide (v.kind < 0) || decide (5 < v.kind)) = true then some true else bind1 (some (vplain v)) fun x1 => some (!x1)) _) = _
  by_cases h0 : 16 < level
  · simp [h0]
  · simp only [h0, decide_false, Bool.false_eq_true, if_false, bind1_some]
    cases h1 : (decide (v.kind < 0) || decide (5 < v.kind)) with
    | true => simp
    | false =>
      cases h2 : vplain v with
      | false => simp
      | true =>
        simp only [Bool.false_eq_true, if_false, Bool.not_true, bind1_some, Bool.or_self]
        split
        · rfl
        · split
          · rfl
          · cases h3 : (v.kind == 5) <;> cases h4 : (((v.keys.length : Int) == (v.list_.length : Int)) && ascL none v.keys) <;> simp <;> (first | rfl | (split <;> rfl))
mutual
def vchk : ApiValue → Nat → Int
  | ⟨a, b, c, d, l, f⟩, level => if vnode ⟨a, b, c, d, l, f⟩ level != 0 then vnode ⟨a, b, c, d, l, f⟩ level else vchkL l (level + 1)
def vchkL : List ApiValue → Nat → Int
  | [], _ => 0
  | x :: r, level => if vchk x level != 0 then vchk x level else vchkL r level
end
theorem vchk_eq (v : ApiValue) (level : Nat) : vchk v level = if vnode v level != 0 then vnode v level else vchkL v.list_ (level + 1) := by cases v; rw [vchk]
theorem chkL {go : ApiValue → Int → Option Int} {level : Nat} : ∀ (l : List ApiValue) (i : Nat), (∀ x ∈ l, go x ((level + 1 : Nat) : Int) = some (vchk x (level + 1))) →
    scanS (fun _ e1 (_ : Unit) r => bind1 (go e1 ((level + 1 : Nat) : Int)) fun e2 => if e2 != 0 then some e2 else r ()) (fun _ => some 0) i l () = some (vchkL l (level + 1))
  | [], i, _ => by simp [scanS, vchkL]
  | x :: r, i, h => by
    rw [scanS, h x (by simp), vchkL]
    simp only [bind1_some]
    rw [chkL r (i + 1) (fun y hy => h y (by simp [hy]))]
    split <;> rfl
theorem check_n7 : ∀ (n : Nat) (v : ApiValue) (level : Nat), v.bulk ≤ n → v.bulk < 4611686018427387904 → level ≤ 17 → r07_check_n (n + 1) v (level : Int) = some (vchk v level)
  | 0, v, _, h, _, _ => by have := v.bulk_pos; omega
  | n + 1, v, level, h, hB, hlv => by
    have hl := vlist_len v
    rw [vchk_eq]
    unfold r07_check_n r07_check_b
    have h16 : decide ((16 : Int) < (level : Int)) = decide (16 < level) := by congr 1; simp; omega
    have h16e : ((level : Int) == 16) = (level == 16) := by
      rw [Bool.eq_iff_iff]; simp only [beq_iff_eq]; omega
    rw [h16, h16e, (keyed_eq hB).2, plain7]
    unfold vnode
    by_cases h0 : 16 < level
    · simp [h0]
    · have hw : w64 ((level : Int) + 1) = ((level + 1 : Nat) : Int) := w64s (by omega)
      have := scanS_big (F := fun k (_ : Unit) i => r07_check_l1 (r07_check_n (n + 1)) v (level : Int) k i) (l := v.list_) (body := fun _ e1 _ r => bind1 (r07_check_n (n + 1) e1 ((level + 1 : Nat) : Int)) fun e2 => if e2 != 0 then some e2 else r ()) (fin := fun _ => some 0) (by omega) (fun k s i => by rw [← hw]; rfl) ()
      rw [this, chkL v.list_ 0 fun x hx => check_n7 n x (level + 1) (by have := vlist_mem hx; omega) (by have := vlist_mem hx; omega) (by omega)]
      simp only [h0, decide_false, Bool.false_eq_true, if_false, bind1_some]
      cases h1 : (decide (v.kind < 0) || decide (5 < v.kind)) with
      | true => simp
      | false =>
        cases h2 : vplain v with
        | false => simp
        | true =>
          simp only [Bool.false_eq_true, if_false, Bool.not_true, bind1_some, Bool.or_self]
          split
          · simp
          · split
            · simp
            · have h4 : decide ((4 : Int) ≤ v.kind) = ((v.kind == 4) || (v.kind == 5)) := by
                simp only [Bool.or_eq_false_iff, decide_eq_false_iff_not] at h1
                rw [Bool.eq_iff_iff]
                simp only [Bool.or_eq_true, decide_eq_true_eq, beq_iff_eq]
                omega
              rw [h4]
              cases h3 : (v.kind == 5) <;> cases h5 : (((v.keys.length : Int) == (v.list_.length : Int)) && ascL none v.keys) <;> simp <;> (first | rfl | (split <;> simp <;> rename_i hq <;> (first
                | exact fun hh => absurd hq.2 (hh hq.1.1 hq.1.2)
                | exact fun a b c => absurd ⟨⟨a, b⟩, c⟩ hq)))
theorem valid7 {v : ApiValue} (h : v.bulk < 4611686018427387904) : r07_Valid v = some (vchk v 1) := by
  obtain ⟨n, hn, hn2⟩ := BIG_succ
  unfold r07_Valid r07_check
  rw [hn]
  exact check_n7 n v 1 (by omega) h (by omega)
def wres (c : Int) : Bool × Option Int := if c != 0 then (false, some c) else (true, none)
theorem vy_eq {v : ApiValue} (hv : v.bulk < 4611686018427387904) (level : Nat) : value_Valid_y none (level : Int) v = some (wres (vnode v level)) := by
  unfold value_Valid_y wres
  simp only [node_eq hv, bind1_some]
  by_cases h : vnode v level = 0 <;> simp [h]
theorem walkL {go : Option Int → ApiValue → Int → Option (Bool × Option Int)} {level : Nat} : ∀ (l : List ApiValue) (i : Nat), (∀ x ∈ l, go none x ((level + 1 : Nat) : Int) = some (wres (vchk x (level + 1)))) →
    scanS (fun _ x1 (s1 : Option Int) r => bind2 (go s1 x1 ((level + 1 : Nat) : Int)) fun b1 s2 => if !b1 then some (false, s2) else r s2) (fun s1 => some (true, s1)) i l none = some (wres (vchkL l (level + 1)))
  | [], i, _ => by simp [scanS, vchkL, wres]
  | x :: r, i, h => by
    rw [scanS, h x (by simp), vchkL]
    by_cases hc : vchk x (level + 1) = 0
    · simp only [hc, wres, bne_self_eq_false, Bool.false_eq_true, if_false, bind2_some, Bool.not_true]
      rw [walkL r (i + 1) (fun y hy => h y (by simp [hy]))]
      rfl
    · simp [hc, wres]
theorem walk_n : ∀ (n : Nat) (v : ApiValue) (level : Nat), v.bulk ≤ n → v.bulk < 4611686018427387904 → level ≤ 17 → value_walk_n value_Valid_y (n + 1) none v (level : Int) = some (wres (vchk v level))
  | 0, v, _, h, _, _ => by have := v.bulk_pos; omega
  | n + 1, v, level, h, hB, hlv => by
    have hl := vlist_len v
    rw [vchk_eq]
    unfold value_walk_n value_walk_b
    rw [vy_eq hB]
    by_cases h0 : vnode v level = 0
    · have hlv' : level ≤ 16 := by
        rcases Nat.lt_or_ge 16 level with h | h
        · unfold vnode at h0; simp [h] at h0
        · exact h
      have hw : w64 ((level : Int) + 1) = ((level + 1 : Nat) : Int) := w64s (by omega)
      have := scanS_big (F := fun k s i => value_walk_l1 (value_walk_n value_Valid_y (n + 1)) v (level : Int) k s i) (l := v.list_) (body := fun _ x1 (s1 : Option Int) r => bind2 (value_walk_n value_Valid_y (n + 1) s1 x1 ((level + 1 : Nat) : Int)) fun b1 s2 => if !b1 then some (false, s2) else r s2) (fin := fun s1 => some (true, s1)) (by omega) (fun k s i => by rw [← hw]; rfl) none
      simp only [h0, wres, bne_self_eq_false, Bool.false_eq_true, if_false, bind2_some, Bool.not_true]
      rw [this, walkL v.list_ 0 fun x hx => walk_n n x (level + 1) (by have := vlist_mem hx; omega) (by have := vlist_mem hx; omega) (by omega)]
      rfl
    · simp [h0, wres]
theorem vvalid_eq {v : ApiValue} (h : v.bulk < 4611686018427387904) : value_Valid v = some (vchk v 1) := by
  obtain ⟨n, hn, hn2⟩ := BIG_succ
  unfold value_Valid value_walk
  rw [hn, show (1 : Int) = ((1 : Nat) : Int) from rfl, walk_n n v 1 (by omega) h (by omega)]
  unfold wres
  by_cases hc : vchk v 1 = 0 <;> simp [hc]
end Go.Ft

namespace Go.Ft
open Go
attribute [local congr] ite_c1
def vzero (v : ApiValue) : Bool := (((((v.kind == 0) && (!v.bool_)) && (v.int_ == 0)) && (v.str_ == ([] : Str))) && ((v.list_.length : Int) == 0)) && ((v.keys.length : Int) == 0)
theorem zero_eq (v : ApiValue) : parser_zero v = some (vzero v) := rfl
theorem same_zero (v : ApiValue) : r07_Same v (ApiValue.mk 0 false 0 ([] : Str) [] []) = some (vzero v) := by
  obtain ⟨n, hn, hn2⟩ := BIG_succ
  obtain ⟨m, hm⟩ : ∃ m, n = m + 1 := ⟨n - 1, by omega⟩
  have hB : BIG = (m + 1) + 1 := by omega
  unfold r07_Same
  rw [hB, r07_Same_n, r07_Same_b]
  have hz : vzero v = !(((((v.kind != 0) || (!(v.bool_ == false))) || (v.int_ != 0)) || (!(v.str_ == ([] : Str)))) || ((v.list_.length : Int) != (([] : List ApiValue).length : Int)) || ((v.keys.length : Int) != (([] : List Str).length : Int))) := by
    unfold vzero
    have hk : (v.kind != 0) = !(v.kind == 0) := rfl
    have hi : (v.int_ != 0) = !(v.int_ == 0) := rfl
    have hl : ((v.list_.length : Int) != (([] : List ApiValue).length : Int)) = !((v.list_.length : Int) == 0) := rfl
    have hks : ((v.keys.length : Int) != (([] : List Str).length : Int)) = !((v.keys.length : Int) == 0) := rfl
    rw [hk, hi, hl, hks]
    generalize (v.kind == 0) = a
    generalize v.bool_ = b
    generalize (v.int_ == 0) = c
    generalize (v.str_ == ([] : Str)) = d
    generalize ((v.list_.length : Int) == 0) = e
    generalize ((v.keys.length : Int) == 0) = f
    revert a b c d e f
    decide
  cases h : (((((v.kind != 0) || (!(v.bool_ == false))) || (v.int_ != 0)) || (!(v.str_ == ([] : Str)))) || ((v.list_.length : Int) != (([] : List ApiValue).length : Int)) || ((v.keys.length : Int) != (([] : List Str).length : Int))) with
  | true =>
    rw [hz, h]
    rfl
  | false =>
    rw [hz, h]
    simp only [Bool.or_eq_false_iff] at h
    have hl : v.list_ = [] := by have := h.1.2; simpa using this
    have hk : v.keys = [] := by have := h.2; simpa using this
    simp only [Bool.false_eq_true, if_false, Bool.not_false]
    rw [hB, r07_Same_l1, hk]
    simp only [List.length_nil, Int.lt_irrefl, decide_false, Bool.false_eq_true, if_false, Int.ofNat_zero, Int.natCast_zero]
    rw [hB, r07_Same_l2, hl]
    simp
def earity (e : ApiExpr) : Bool :=
  if e.kind == 1 then (e.args.length : Int) == 0 else if e.kind == 2 then (e.args.length : Int) == 0 else if e.kind == 3 then (e.args.length : Int) == 1 else if e.kind == 6 then (e.args.length : Int) == 1
  else if e.kind == 4 then (e.args.length : Int) == 2 else if e.kind == 7 then (e.args.length : Int) == 2 else if e.kind == 8 then (e.args.length : Int) == 3 else ((e.kind == 5) || (e.kind == 9)) || (e.kind == 10)
theorem arity10 (e : ApiExpr) : r10_arity e = some (earity e) := by
  unfold r10_arity earity
  simp only [apply_ite some]
def kindOK (e : ApiExpr) : Bool := !((decide (e.kind < 1)) || (decide (10 < e.kind)))
theorem arityP (e : ApiExpr) (h : kindOK e = true) : parser_arity e = some (earity e) := by
  unfold parser_arity earity
  unfold kindOK at h
  simp only [Bool.not_eq_true', Bool.or_eq_false_iff, decide_eq_false_iff_not] at h
  simp only [apply_ite some]
  have hh : ¬ e.kind = 1 → ¬ e.kind = 2 → ¬ e.kind = 3 → ¬ e.kind = 6 → ¬ e.kind = 4 → ¬ e.kind = 7 → ¬ e.kind = 8 → (((e.kind == 5) || (e.kind == 9)) || (e.kind == 10)) = true := by
    intro h1 h2 h3 h6 h4 h7 h8
    simp only [Bool.or_eq_true, beq_iff_eq]
    omega
  by_cases h1 : e.kind = 1
  · simp [h1]
  by_cases h2 : e.kind = 2
  · simp [h2]
  by_cases h3 : e.kind = 3
  · simp [h3]
  by_cases h6 : e.kind = 6
  · simp [h6]
  by_cases h4 : e.kind = 4
  · simp [h4]
  by_cases h7 : e.kind = 7
  · simp [h7]
  by_cases h8 : e.kind = 8
  · simp [h8]
  rw [hh h1 h2 h3 h6 h4 h7 h8]
  all_goals simp [h1, h2, h3, h4, h6, h7, h8]
def strongS (s : Str) : Int := (parser_strength s).getD 0
theorem strong_eq (s : Str) : parser_strength s = some (strongS s) := by
  obtain ⟨n, h⟩ := strength_some s
  unfold strongS; rw [h]; rfl
def enamed (e : ApiExpr) : Bool :=
  if e.kind == 2 then isPlain e.name else if e.kind == 3 then isPlain e.name else if e.kind == 5 then isPlain e.name else if e.kind == 6 then (e.name == ([33] : Str)) || (e.name == ([45] : Str))
  else if e.kind == 7 then decide (0 < strongS e.name) else e.name == ([] : Str)
theorem named_eq (e : ApiExpr) (h : e.bulk < 4611686018427387904) : parser_named e = some (enamed e) ∧ r10_named e = some (enamed e) := by
  have hn := ename_len e
  obtain ⟨p1, p2⟩ := plain_eq e.name (by omega)
  unfold parser_named r10_named enamed
  rw [p1, p2, strength_eq, strong_eq]
  simp only [bind1_some, apply_ite some, and_self]
theorem anyK (l : List Str) (hl : l.length < 4611686018427387904) : slices_ContainsFunc_L_string_string l parser_keyed_1 = some (l.any fun k => !keyOK k) := by
  unfold slices_ContainsFunc_L_string_string slices_IndexFunc_L_string_string
  have := scanS_big (F := fun k (_ : Unit) i => slices_IndexFunc_L_string_string_l1 l parser_keyed_1 k i) (l := l) (body := fun (i : Nat) e1 _ r => bind1 (parser_keyed_1 e1) fun x1 => if x1 then some (i : Int) else r ()) (fin := fun _ => some (-1)) hl (fun k s i => rfl) ()
  rw [this]
  have key : ∀ (t : List Str) (i : Nat), bind1 (scanS (fun (i : Nat) e1 (_ : Unit) r => bind1 (parser_keyed_1 e1) fun x1 => if x1 then some (i : Int) else r ()) (fun _ => some (-1)) i t ()) (fun x1 => some (decide (0 ≤ x1))) = some (t.any fun k => !keyOK k) := by
    intro t
    induction t with
    | nil => intro i; rfl
    | cons c t ih =>
      intro i
      rw [scanS]
      have e1 : parser_keyed_1 c = some (!keyOK c) := by unfold parser_keyed_1; rw [keyOK_i]
      rw [e1]
      simp only [bind1_some, List.any_cons]
      cases h : keyOK c with
      | false => simp
      | true =>
        simp only [Bool.not_true, Bool.false_eq_true, if_false, Bool.false_or]
        exact ih (i + 1)
  exact key l 0
def ekeyed (e : ApiExpr) : Bool := if e.kind != 10 then (e.keys.length : Int) == 0 else ((e.keys.length : Int) == (e.args.length : Int)) && !(e.keys.any fun k => !keyOK k)
theorem keyedP (e : ApiExpr) (h : e.bulk < 4611686018427387904) : parser_keyed e = some (ekeyed e) := by
  have hk := ekeys_len e
  unfold parser_keyed ekeyed
  rw [anyK e.keys (by omega)]
  split
  · rfl
  · cases ((e.keys.length : Int) == (e.args.length : Int)) <;> simp
theorem formedL (e : ApiExpr) (h : e.bulk < 4611686018427387904) : r10_formed_l1 e BIG 0 = some (!(e.keys.any fun k => !keyOK k) && ((e.keys.length : Int) == (e.args.length : Int))) := by
  have hk := ekeys_len e
  have := scanS_big (F := fun k (_ : Unit) i => r10_formed_l1 e k i) (l := e.keys) (body := fun (i : Nat) e2 _ r => bind1 (if decide ((e2.length : Int) < 1) then some true else bind1 (idx e.keys (i : Int)) fun e3 => some (decide (64 < (e3.length : Int)))) fun b4 => if b4 then some false else r ())
    (fin := fun _ => some ((e.keys.length : Int) == (e.args.length : Int))) (by omega) (fun k s i => rfl) ()
  rw [this]
  have key : ∀ (t : List Str) (i : Nat), t = e.keys.drop i → scanS (fun (i : Nat) e2 (_ : Unit) r => bind1 (if decide ((e2.length : Int) < 1) then some true else bind1 (idx e.keys (i : Int)) fun e3 => some (decide (64 < (e3.length : Int)))) fun b4 => if b4 then some false else r ())
      (fun _ => some ((e.keys.length : Int) == (e.args.length : Int))) i t () = some (!(t.any fun k => !keyOK k) && ((e.keys.length : Int) == (e.args.length : Int))) := by
    intro t
    induction t with
    | nil => intro i _; rfl
    | cons c t ih =>
      intro i ht
      have hi : i < e.keys.length := by
        rcases Nat.lt_or_ge i e.keys.length with h | h
        · exact h
        · rw [List.drop_eq_nil_of_le h] at ht; cases ht
      have hc := List.drop_eq_getElem_cons hi
      rw [← ht] at hc
      have e1 : c = e.keys[i] := (List.cons.inj hc).1
      have e2 := (List.cons.inj hc).2
      rw [scanS, idxn hi, ← e1]
      simp only [bind1_some, List.any_cons]
      rw [ih (i + 1) e2]
      have e3 := keyOK_i c
      cases h1 : decide ((List.length c : Int) < 1) <;> rw [h1] at e3
      · simp only [Bool.false_or] at e3
        simp only [Bool.false_eq_true, if_false, bind1_some, e3]
        cases keyOK c <;> simp
      · simp only [Bool.true_or] at e3
        have : keyOK c = false := by
          cases h : keyOK c with
          | false => rfl
          | true => rw [h] at e3; cases e3
        simp [this]
  exact key e.keys 0 rfl
def eformed (e : ApiExpr) : Bool := kindOK e && ((e.kind == 1) || vzero e.value) && enamed e && earity e && ekeyed e
theorem arity_kind (e : ApiExpr) (h : earity e = true) : kindOK e = true := by
  unfold earity at h
  unfold kindOK
  simp only [Bool.not_eq_true', Bool.or_eq_false_iff, decide_eq_false_iff_not]
  by_cases h1 : e.kind = 1
  · omega
  by_cases h2 : e.kind = 2
  · omega
  by_cases h3 : e.kind = 3
  · omega
  by_cases h6 : e.kind = 6
  · omega
  by_cases h4 : e.kind = 4
  · omega
  by_cases h7 : e.kind = 7
  · omega
  by_cases h8 : e.kind = 8
  · omega
  simp [h1, h2, h3, h4, h6, h7, h8] at h
  omega
theorem formed_eq (e : ApiExpr) (h : e.bulk < 4611686018427387904) : r10_formed e = some (eformed e) := by
  unfold r10_formed eformed
  rw [arity10, (named_eq e h).2, same_zero, formedL e h]
  have hk := arity_kind e
  unfold ekeyed
  have hne : (e.kind != 1) = !(e.kind == 1) := rfl
  rw [hne]
  cases h1 : earity e with
  | false => cases (e.kind == 1) <;> simp
  | true =>
    rw [hk h1]
    cases h2 : enamed e with
    | false => cases (e.kind == 1) <;> simp
    | true =>
      cases h3 : (e.kind == 1) <;> cases h4 : vzero e.value <;> simp <;> (first | done | (split <;> simp [Bool.and_comm]))
theorem mget_mset (y : List (Str × Int)) (s t : Str) (n : Int) : mget (mset y s n) t = if t = s then n else mget y t := by
  induction y with
  | nil => by_cases h : t = s <;> simp [mset, mget, h]
  | cons a y ih =>
    obtain ⟨k, v⟩ := a
    unfold mset
    by_cases h : s = k
    · subst h
      simp only [beq_self_eq_true, if_true]
      unfold mget
      by_cases h2 : t = s
      · simp [h2]
      · have : (t == s) = false := beq_eq_false_iff_ne.2 h2
        simp [this, h2]
    · have : (s == k) = false := beq_eq_false_iff_ne.2 h
      rw [this]
      simp only [Bool.false_eq_true, if_false]
      unfold mget
      by_cases h2 : t = k
      · subst h2
        have : ¬ t = s := fun hh => h hh.symm
        simp [this]
      · have h3 : (t == k) = false := beq_eq_false_iff_ne.2 h2
        rw [h3]
        simp only [Bool.false_eq_true, if_false]
        exact ih
def dupF : List Str → List Str → Bool
  | _, [] => false
  | seen, s :: r => seen.contains s || dupF (seen ++ [s]) r
theorem rep_eq (l : List Str) (hl : l.length < 4611686018427387904) : parser_repeated l = some (dupF [] l) := by
  unfold parser_repeated
  have := scanS_big (F := fun k s i => parser_repeated_l1 l k i s) (l := l) (body := fun _ s1 (y1 : List (Str × Int)) r => if decide (1 < (mget (mset y1 s1 (w64 ((mget y1 s1) + 1))) s1)) then some true else r (mset y1 s1 (w64 ((mget y1 s1) + 1)))) (fin := fun _ => some false) hl (fun k s i => rfl) []
  rw [this]
  have key : ∀ (t : List Str) (i : Nat) (y : List (Str × Int)) (seen : List Str), (∀ s, mget y s = if s ∈ seen then 1 else 0) →
      scanS (fun _ s1 (y1 : List (Str × Int)) r => if decide (1 < (mget (mset y1 s1 (w64 ((mget y1 s1) + 1))) s1)) then some true else r (mset y1 s1 (w64 ((mget y1 s1) + 1)))) (fun _ => some false) i t y = some (dupF seen t) := by
    intro t
    induction t with
    | nil => intro i y seen _; rfl
    | cons c t ih =>
      intro i y seen hy
      rw [scanS, dupF, mget_mset, if_pos rfl, hy c]
      by_cases hc : c ∈ seen
      · have : w64 2 = 2 := by decide
        simp [hc, this]
      · have : w64 ((0 : Int) + 1) = 1 := by decide
        simp only [hc, if_false, this]
        have e : seen.contains c = false := by simpa using hc
        rw [e]
        simp only [Int.lt_irrefl, decide_false, Bool.false_eq_true, if_false, Bool.false_or]
        refine ih (i + 1) _ (seen ++ [c]) fun s => ?_
        rw [mget_mset, hy s]
        by_cases h1 : s = c
        · subst h1; simp
        · simp [h1]
  exact key l 0 [] [] (fun s => by simp [mget])
theorem twice_in (l : List Str) (i : Nat) (hi : i < l.length) (hl : l.length < 4611686018427387904) (go : Int → Option Bool) : ∀ (k j : Nat), i < k + j → j ≤ i →
    r10_twice_l2 l (i : Int) go k (j : Int) = if ((l.take i).drop j).contains l[i] then some true else go ((i + 1 : Nat) : Int)
  | 0, j, h, h' => by omega
  | k + 1, j, h, h' => by
    rw [r10_twice_l2]
    by_cases hj : j < i
    · have hlt : j < (l.take i).length := by simp; omega
      rw [if_pos (by simpa using hj), idxn hi, idxn (by omega), List.drop_eq_getElem_cons hlt]
      simp only [bind1_some, List.contains_cons, List.getElem_take]
      cases h1 : (l[i] == l[j]) with
      | true => simp
      | false =>
        simp only [Bool.false_eq_true, if_false, Bool.false_or]
        rw [w64s (by omega)]
        exact twice_in l i hi hl go k (j + 1) (by omega) (by omega)
    · have : j = i := by omega
      subst this
      rw [if_neg (by simp), w64s (by omega)]
      have : (List.take j l).drop j = [] := List.drop_eq_nil_of_le (by simp; omega)
      rw [this]
      simp
theorem twice_gen (l : List Str) (hl : l.length < 4611686018427387904) : ∀ (k i : Nat), l.length < k + i → i ≤ l.length → r10_twice_l1 l k (i : Int) = some (dupF (l.take i) (l.drop i))
  | 0, i, h, h' => by omega
  | k + 1, i, h, h' => by
    rw [r10_twice_l1]
    by_cases hi : i < l.length
    · rw [if_pos (by simpa using hi), List.drop_eq_getElem_cons hi, dupF]
      have := twice_in l i hi hl (r10_twice_l1 l k) BIG 0 (by have := BIG_lt; omega) (by omega)
      rw [show (0 : Int) = ((0 : Nat) : Int) from rfl, this, List.drop_zero, twice_gen l hl k (i + 1) (by omega) (by omega)]
      have e : List.take (i + 1) l = List.take i l ++ [l[i]] := by rw [List.take_add_one, List.getElem?_eq_getElem hi]; rfl
      rw [e]
      cases (l.take i).contains l[i] <;> simp
    · have : i = l.length := by omega
      subst this
      simp [dupF]
theorem twice_eq (l : List Str) (hl : l.length < 4611686018427387904) : r10_twice l = some (dupF [] l) := by
  have := twice_gen l hl BIG 0 (by have := BIG_lt; omega) (by omega)
  simpa [r10_twice] using this
def xnode (e : ApiExpr) (level : Nat) : Int :=
  if 16 < level then 13 else if !eformed e then 1 else if e.kind == 1 && (vchk e.value 1 != 0) then vchk e.value 1 else if decide (1024 < (e.args.length : Int)) then 3 else if dupF [] e.keys then 7 else 0
theorem pnode_eq (e : ApiExpr) (h : e.bulk < 4611686018427387904) (level : Nat) : parser_node e (level : Int) = some (xnode e level) := by
  have hk := ekeys_len e
  have hv := evalue_bulk e
  unfold parser_node xnode
  have h16 : decide ((16 : Int) < (level : Int)) = decide (16 < level) := by congr 1; simp; omega
  rw [h16, zero_eq, (named_eq e h).1, keyedP e h, vvalid_eq (by omega), rep_eq e.keys (by omega)]
  by_cases h0 : 16 < level
  · simp [h0]
  · simp only [h0, decide_false, Bool.false_eq_true, if_false, bind1_some]
    have hkd : ((decide (e.kind < 1)) || (decide (10 < e.kind))) = !kindOK e := by simp [kindOK]
    have hne : (e.kind != 1) = !(e.kind == 1) := rfl
    rw [hkd, hne]
    unfold eformed
    cases h1 : kindOK e with
    | false => simp
    | true =>
      rw [arityP e h1]
      cases h3 : (e.kind == 1) <;> cases h4 : vzero e.value <;> cases h5 : enamed e <;> cases h6 : earity e <;> cases h7 : ekeyed e <;> simp <;>
        (first | done | (split <;> (first | rfl | (split <;> (first | rfl | (split <;> rfl))))))
end Go.Ft

namespace Go.Ft
open Go
attribute [local congr] ite_c1
mutual
def xchk : ApiExpr → Nat → Int
  | ⟨a, b, c, l, f⟩, level => if xnode ⟨a, b, c, l, f⟩ level != 0 then xnode ⟨a, b, c, l, f⟩ level else xchkL l (level + 1)
def xchkL : List ApiExpr → Nat → Int
  | [], _ => 0
  | x :: r, level => if xchk x level != 0 then xchk x level else xchkL r level
end
theorem xchk_eq (e : ApiExpr) (level : Nat) : xchk e level = if xnode e level != 0 then xnode e level else xchkL e.args (level + 1) := by cases e; rw [xchk]
theorem xchkL_scan {go : ApiExpr → Int → Option Int} {level : Nat} : ∀ (l : List ApiExpr) (i : Nat), (∀ x ∈ l, go x ((level + 1 : Nat) : Int) = some (xchk x (level + 1))) →
    scanS (fun _ e1 (_ : Unit) r => bind1 (go e1 ((level + 1 : Nat) : Int)) fun e2 => if e2 != 0 then some e2 else r ()) (fun _ => some 0) i l () = some (xchkL l (level + 1))
  | [], i, _ => by simp [scanS, xchkL]
  | x :: r, i, h => by
    rw [scanS, h x (by simp), xchkL]
    simp only [bind1_some]
    rw [xchkL_scan r (i + 1) (fun y hy => h y (by simp [hy]))]
    split <;> rfl
theorem xvalid_n : ∀ (n : Nat) (e : ApiExpr) (level : Nat), e.bulk ≤ n → e.bulk < 4611686018427387904 → level ≤ 17 → parser_valid_n (n + 1) e (level : Int) = some (xchk e level) ∧ r10_check_n (n + 1) e (level : Int) = some (xchk e level)
  | 0, e, _, h, _, _ => by have := e.bulk_pos; omega
  | n + 1, e, level, h, hB, hlv => by
    have hl := eargs_len e
    have hv := evalue_bulk e
    have hks := ekeys_len e
    have hw : w64 ((level : Int) + 1) = ((level + 1 : Nat) : Int) := w64s (by omega)
    constructor
    · rw [xchk_eq]
      unfold parser_valid_n parser_valid_b
      have := scanS_big (F := fun k (_ : Unit) i => parser_valid_l1 (parser_valid_n (n + 1)) e (level : Int) k i) (l := e.args) (body := fun _ e1 _ r => bind1 (parser_valid_n (n + 1) e1 ((level + 1 : Nat) : Int)) fun e2 => if e2 != 0 then some e2 else r ()) (fin := fun _ => some 0) (by omega) (fun k s i => by rw [← hw]; rfl) ()
      rw [pnode_eq e hB, this]
      simp only [bind1_some]
      by_cases h0 : xnode e level = 0
      · have hlv' : level ≤ 16 := by
          rcases Nat.lt_or_ge 16 level with h | h
          · unfold xnode at h0; simp [h] at h0
          · exact h
        rw [xchkL_scan e.args 0 fun x hx => (xvalid_n n x (level + 1) (by have := eargs_mem hx; omega) (by have := eargs_mem hx; omega) (by omega)).1]
        simp [h0]
      · simp [h0]
    · rw [xchk_eq]
      unfold r10_check_n r10_check_b
      have := scanS_big (F := fun k (_ : Unit) i => r10_check_l1 (r10_check_n (n + 1)) e (level : Int) k i) (l := e.args) (body := fun _ e1 _ r => bind1 (r10_check_n (n + 1) e1 ((level + 1 : Nat) : Int)) fun e2 => if e2 != 0 then some e2 else r ()) (fin := fun _ => some 0) (by omega) (fun k s i => by rw [← hw]; rfl) ()
      have h16 : decide ((16 : Int) < (level : Int)) = decide (16 < level) := by congr 1; simp; omega
      rw [formed_eq e hB, valid7 (by omega), twice_eq e.keys (by omega), this, h16]
      by_cases h0 : 16 < level
      · simp [xnode, h0]
      · rw [xchkL_scan e.args 0 fun x hx => (xvalid_n n x (level + 1) (by have := eargs_mem hx; omega) (by have := eargs_mem hx; omega) (by omega)).2]
        unfold xnode
        simp only [h0, decide_false, Bool.false_eq_true, if_false, bind1_some]
        cases eformed e with
        | false => simp
        | true =>
          simp only [Bool.not_true, Bool.false_eq_true, if_false]
          cases h1 : (e.kind == 1 && (vchk e.value 1 != 0)) with
          | true =>
            have : vchk e.value 1 ≠ 0 := by simp at h1; exact h1.2
            simp [this]
          | false =>
            simp only [Bool.false_eq_true, if_false]
            by_cases h2 : (1024 : Int) < (e.args.length : Int)
            · simp [h2]
            · simp only [h2, decide_false, Bool.false_eq_true, if_false]
              cases dupF [] e.keys <;> simp
def xval (e : ApiExpr) : Int := if 4096 < ecnt e then 15 else xchk e 1
theorem xval_eq {e : ApiExpr} (h : e.bulk < 4611686018427387904) : parser_Valid e = some (xval e) ∧ r10_Valid e = some (xval e) := by
  obtain ⟨n, hn, hn2⟩ := BIG_succ
  obtain ⟨c1, c2⟩ := count_eq h
  obtain ⟨v1, v2⟩ := xvalid_n n e 1 (by omega) h (by omega)
  unfold parser_Valid r10_Valid xval parser_valid r10_check
  rw [c1, c2, hn]
  have : decide ((4096 : Int) < (ecnt e : Int)) = decide (4096 < ecnt e) := by congr 1; simp; omega
  simp only [bind1_some, this]
  rw [show (1 : Int) = ((1 : Nat) : Int) from rfl, v1, v2]
  by_cases h4 : 4096 < ecnt e <;> simp [h4]
inductive Ty where
  | leaf (k : Int)
  | nest (k : Int) (t : Ty)
namespace Ty
def api : Ty → ApiType
  | leaf k => ⟨k, []⟩
  | nest k t => ⟨k, [t.api]⟩
def wf : Ty → Prop
  | leaf k => 0 ≤ k ∧ k ≤ 7 ∧ k ≠ 5 ∧ k ≠ 6
  | nest k t => (k = 5 ∨ k = 6) ∧ t.wf
def dep : Ty → Nat
  | leaf _ => 1
  | nest _ t => 1 + t.dep
def kind : Ty → Int
  | leaf k => k
  | nest k _ => k
theorem api_kind (t : Ty) : t.api.kind = t.kind := by cases t <;> rfl
theorem dep_pos (t : Ty) : 1 ≤ t.dep := by cases t <;> simp [dep] <;> omega
end Ty
theorem name_nil {k : Int} (h : 0 ≤ k ∧ k ≤ 7) : ∃ s, typing_name k = some s ∧ (s == ([] : Str)) = false := by
  obtain ⟨n, rfl⟩ : ∃ n : Nat, k = n := ⟨k.toNat, by omega⟩
  have hn : n < 8 := by omega
  match n, hn with
  | 0, _ => exact ⟨_, rfl, rfl⟩
  | 1, _ => exact ⟨_, rfl, rfl⟩
  | 2, _ => exact ⟨_, rfl, rfl⟩
  | 3, _ => exact ⟨_, rfl, rfl⟩
  | 4, _ => exact ⟨_, rfl, rfl⟩
  | 5, _ => exact ⟨_, rfl, rfl⟩
  | 6, _ => exact ⟨_, rfl, rfl⟩
  | 7, _ => exact ⟨_, rfl, rfl⟩
theorem name_out {k : Int} (h : ¬ (0 ≤ k ∧ k ≤ 7)) : typing_name k = some [] := by
  unfold typing_name
  rw [if_pos (by simp; omega)]
theorem tv_gen : ∀ (k level : Nat) (t : ApiType), 18 ≤ k + level → level ≤ 17 → ∃ c, typing_Valid_l1 k (level : Int) t = some c ∧ r08_check_n k t (level : Int) = some c ∧ (c = 0 → ∃ T : Ty, T.wf ∧ t = T.api ∧ T.dep + level ≤ 17)
  | 0, level, t, h, h' => by omega
  | k + 1, level, t, h, h' => by
    rw [typing_Valid_l1, r08_check_n, r08_check_b]
    have h16 : decide ((16 : Int) < (level : Int)) = decide (16 < level) := by congr 1; simp; omega
    rw [h16]
    by_cases h0 : 16 < level
    · exact ⟨13, by simp [h0], by simp [h0], by simp⟩
    · simp only [h0, decide_false, Bool.false_eq_true, if_false]
      by_cases hk : 0 ≤ t.kind ∧ t.kind ≤ 7
      · obtain ⟨s, hs, hs2⟩ := name_nil hk
        have hb : (decide (t.kind < 0) || decide (7 < t.kind)) = false := by simp; omega
        rw [hs, hb]
        simp only [bind1_some, hs2, typing_nested, r08_holds, Bool.false_eq_true, if_false]
        cases hn : ((t.kind == 5) || (t.kind == 6)) with
        | false =>
          simp only [Bool.false_and, Bool.not_false, Bool.true_and, Bool.false_eq_true, if_false, bind1_some, if_true]
          cases he : t.elem with
          | nil =>
            refine ⟨0, by simp, by simp, fun _ => ⟨.leaf t.kind, ?_, ?_, ?_⟩⟩
            · simp at hn; exact ⟨hk.1, hk.2, hn.1, hn.2⟩
            · cases t; simp at he; subst he; rfl
            · simp only [Ty.dep]; omega
          | cons x r => exact ⟨1, by first | (simp; done) | (simp; omega), by first | (simp; done) | (simp; omega), by simp⟩
        | true =>
          simp only [Bool.true_and, Bool.not_true, Bool.false_and, bind1_some, Bool.false_eq_true, if_false]
          have hnk : t.kind = 5 ∨ t.kind = 6 := by simpa using hn
          match he : t.elem with
          | [] => exact ⟨1, by simp, by simp, by simp⟩
          | [x] =>
            obtain ⟨c, c1, c2, c3⟩ := tv_gen k (level + 1) x (by omega) (by omega)
            have hw : w64 ((level : Int) + 1) = ((level + 1 : Nat) : Int) := w64s (by omega)
            refine ⟨c, ?_, ?_, fun hc => ?_⟩
            · rw [hw, ← c1]; simp [idx]
            · rw [hw, ← c2]; simp [idx]
            · obtain ⟨T, w1, w2, w3⟩ := c3 hc
              refine ⟨.nest t.kind T, ⟨hnk, w1⟩, ?_, ?_⟩
              · cases t; simp at he; subst he; simp [Ty.api, w2]
              · simp only [Ty.dep]; omega
          | x :: y :: r =>
            have hl : (((x :: y :: r).length : Int) != 1) = true := by simp only [List.length_cons, bne_iff_ne]; omega
            exact ⟨1, by simp only [hl, if_true, bind1_some], by simp only [hl, if_true], by simp⟩
      · have hb : (decide (t.kind < 0) || decide (7 < t.kind)) = true := by simp; omega
        rw [name_out hk, hb]
        exact ⟨1, by simp, by simp, by simp⟩
theorem tv_ok : ∀ (T : Ty) (k level : Nat), T.wf → T.dep + level ≤ 17 → 18 ≤ k + level → typing_Valid_l1 k (level : Int) T.api = some 0
  | .leaf a, 0, level, _, h, h' => by simp only [Ty.dep] at h; omega
  | .leaf a, k + 1, level, hw, h, h' => by
    simp only [Ty.dep] at h
    have h16 : decide ((16 : Int) < (level : Int)) = false := decide_eq_false (by omega)
    obtain ⟨s, hs, hs2⟩ := name_nil (k := a) ⟨hw.1, hw.2.1⟩
    have hn : ((a == 5) || (a == 6)) = false := by simp; exact ⟨hw.2.2.1, hw.2.2.2⟩
    simp [typing_Valid_l1, h16, Ty.api, hs, beq_eq_false_iff_ne.1 hs2, typing_nested, hn]
  | .nest a T, 0, level, _, h, h' => by simp only [Ty.dep] at h; have := T.dep_pos; omega
  | .nest a T, k + 1, level, hw, h, h' => by
    simp only [Ty.dep] at h
    have hd := T.dep_pos
    have h16 : decide ((16 : Int) < (level : Int)) = false := decide_eq_false (by omega)
    have hn : ((a == 5) || (a == 6)) = true := by simpa using hw.1
    obtain ⟨s, hs, hs2⟩ := name_nil (k := a) (by rcases hw.1 with h | h <;> omega)
    have hw64 : w64 ((level : Int) + 1) = ((level + 1 : Nat) : Int) := w64s (by omega)
    have := tv_ok T k (level + 1) hw.2 (by omega) (by omega)
    rw [← this, ← hw64]
    simp [typing_Valid_l1, h16, Ty.api, hs, beq_eq_false_iff_ne.1 hs2, typing_nested, hn, idx]
def tval (t : ApiType) : Int := (typing_Valid t).getD 0
theorem tval_eq (t : ApiType) : typing_Valid t = some (tval t) ∧ r08_Valid t = some (tval t) ∧ (tval t = 0 → ∃ T : Ty, T.wf ∧ t = T.api ∧ T.dep ≤ 16) := by
  obtain ⟨c, c1, c2, c3⟩ := tv_gen BIG 1 t (by have := BIG_lt; omega) (by omega)
  have e1 : typing_Valid t = some c := c1
  have e2 : r08_Valid t = some c := c2
  have : tval t = c := by unfold tval; rw [e1]; rfl
  rw [this]
  exact ⟨e1, e2, fun h => by obtain ⟨T, a, b, d⟩ := c3 h; exact ⟨T, a, b, by omega⟩⟩
theorem tval_ok {T : Ty} (h : T.wf) (hd : T.dep ≤ 16) : tval T.api = 0 := by
  have := tv_ok T BIG 1 h (by omega) (by have := BIG_lt; omega)
  have e1 : typing_Valid T.api = some 0 := this
  unfold tval; rw [e1]; rfl
theorem clone_n : ∀ (T : Ty) (n : Nat), T.wf → T.dep ≤ n → typing_clone_n n T.api = some T.api
  | .leaf a, 0, _, h => by simp [Ty.dep] at h
  | .leaf a, n + 1, hw, h => by
    have hn : ((a == 5) || (a == 6)) = false := by simp; exact ⟨hw.2.2.1, hw.2.2.2⟩
    simp [typing_clone_n, typing_clone_b, typing_nested, Ty.api, hn, typing_scalar]
  | .nest a T, 0, _, h => by simp only [Ty.dep] at h; omega
  | .nest a T, n + 1, hw, h => by
    simp only [Ty.dep] at h
    have hn : ((a == 5) || (a == 6)) = true := by simpa using hw.1
    have := clone_n T n hw.2 (by omega)
    simp [typing_clone_n, typing_clone_b, typing_nested, Ty.api, hn, typing_of, idx, this]
theorem clone_eq {T : Ty} (h : T.wf) (hd : T.dep ≤ 1000) : typing_clone T.api = some T.api := clone_n T BIG h (by have := BIG_lt; omega)
def joinT : Ty → Ty → Ty
  | .leaf a, .leaf b => if a = 7 then .leaf b else if b = 7 then .leaf a else if a = b then .leaf a else .leaf 0
  | .leaf a, .nest b y => if a = 7 then .nest b y else .leaf 0
  | .nest a x, .leaf b => if b = 7 then .nest a x else .leaf 0
  | .nest a x, .nest b y => if a = b then .nest a (joinT x y) else .leaf 0
theorem joinT_dep : ∀ (a b : Ty), (joinT a b).dep ≤ max a.dep b.dep
  | .leaf a, .leaf b => by
    rw [joinT]; repeat' split
    all_goals simp only [Ty.dep]; omega
  | .leaf a, .nest b y => by
    rw [joinT]; split
    all_goals simp only [Ty.dep]; omega
  | .nest a x, .leaf b => by
    rw [joinT]; split
    all_goals simp only [Ty.dep]; omega
  | .nest a x, .nest b y => by
    have := joinT_dep x y
    rw [joinT]; split
    all_goals simp only [Ty.dep]; omega
theorem joinT_wf : ∀ (a b : Ty), a.wf → b.wf → (joinT a b).wf
  | .leaf a, .leaf b, ha, hb => by
    rw [joinT]; repeat' split
    · exact hb
    · exact ha
    · exact ha
    · simp [Ty.wf]
  | .leaf a, .nest b y, ha, hb => by
    rw [joinT]; split
    · exact hb
    · simp [Ty.wf]
  | .nest a x, .leaf b, ha, hb => by
    rw [joinT]; split
    · exact ha
    · simp [Ty.wf]
  | .nest a x, .nest b y, ha, hb => by
    have := joinT_wf x y ha.2 hb.2
    rw [joinT]; split
    · exact ⟨ha.1, this⟩
    · simp [Ty.wf]
theorem join_n : ∀ (n : Nat) (a b : Ty), a.wf → b.wf → a.dep ≤ n → a.dep ≤ 1000 → b.dep ≤ 1000 → typing_join_n n a.api b.api = some (joinT a b).api ∧ r08_join_n n a.api b.api = some (joinT a b).api
  | 0, a, b, _, _, h, _, _ => by have := a.dep_pos; omega
  | n + 1, .leaf x, .leaf y, ha, hb, h, h1, h2 => by
    rw [typing_join_n, typing_join_b, r08_join_n, r08_join_b, joinT, clone_eq ha h1, clone_eq hb h2]
    have hn : ((x == 5) || (x == 6)) = false := by simp; exact ⟨ha.2.2.1, ha.2.2.2⟩
    by_cases k1 : x = 7
    · simp [k1, Ty.api]
    · by_cases k2 : y = 7
      · simp [k1, k2, Ty.api]
      · by_cases k3 : x = y
        · subst k3; simp [k1, Ty.api, typing_nested, r08_holds, hn, typing_scalar]
        · simp [k1, k2, k3, Ty.api, typing_scalar, r08_Plain]
  | n + 1, .leaf x, .nest y t, ha, hb, h, h1, h2 => by
    rw [typing_join_n, typing_join_b, r08_join_n, r08_join_b, joinT, clone_eq ha h1, clone_eq hb h2]
    have k2 : ¬ y = 7 := by rcases hb.1 with h | h <;> omega
    have k3 : ¬ x = y := by
      rintro rfl
      rcases hb.1 with h | h
      · exact ha.2.2.1 h
      · exact ha.2.2.2 h
    by_cases k1 : x = 7
    · simp [k1, Ty.api]
    · simp [k1, k2, k3, Ty.api, typing_scalar, r08_Plain]
  | n + 1, .nest x s, .leaf y, ha, hb, h, h1, h2 => by
    rw [typing_join_n, typing_join_b, r08_join_n, r08_join_b, joinT, clone_eq ha h1, clone_eq hb h2]
    have k1 : ¬ x = 7 := by rcases ha.1 with h | h <;> omega
    have k3 : ¬ x = y := by
      rintro rfl
      rcases ha.1 with h | h
      · exact hb.2.2.1 h
      · exact hb.2.2.2 h
    by_cases k2 : y = 7
    · simp [k1, k2, Ty.api]
    · simp [k1, k2, k3, Ty.api, typing_scalar, r08_Plain]
  | n + 1, .nest x s, .nest y t, ha, hb, h, h1, h2 => by
    rw [typing_join_n, typing_join_b, r08_join_n, r08_join_b, joinT, clone_eq ha h1, clone_eq hb h2]
    have k1 : ¬ x = 7 := by rcases ha.1 with h | h <;> omega
    have k2 : ¬ y = 7 := by rcases hb.1 with h | h <;> omega
    have hn : ((x == 5) || (x == 6)) = true := by simp; exact ha.1
    simp only [Ty.dep] at h h1 h2
    obtain ⟨i1, i2⟩ := join_n n s t ha.2 hb.2 (by omega) (by omega) (by omega)
    by_cases k3 : x = y
    · subst k3; simp [k1, Ty.api, typing_nested, r08_holds, hn, typing_of, r08_With, idx, i1, i2]
    · simp [k1, k2, k3, Ty.api, typing_scalar, r08_Plain]
theorem join_eq {a b : Ty} (ha : a.wf) (hb : b.wf) (h1 : a.dep ≤ 1000) (h2 : b.dep ≤ 1000) : typing_join a.api b.api = some (joinT a b).api ∧ r08_join a.api b.api = some (joinT a b).api :=
  join_n BIG a b ha hb (by have := BIG_lt; omega) h1 h2
theorem Join_eq {a b : Ty} (ha : a.wf) (hb : b.wf) (h1 : a.dep ≤ 16) (h2 : b.dep ≤ 16) : typing_Join a.api b.api = some (joinT a b).api ∧ r08_Join a.api b.api = some (joinT a b).api := by
  unfold typing_Join r08_Join typing_both r08_good
  rw [(tval_eq _).1, (tval_eq _).1, (tval_eq _).2.1, (tval_eq _).2.1, tval_ok ha h1, tval_ok hb h2]
  obtain ⟨j1, j2⟩ := join_eq ha hb (by omega) (by omega)
  simp [j1, j2]
end Go.Ft

namespace Go.Ft
open Go
attribute [local congr] ite_c1
def compT : Ty → Ty → Bool
  | .leaf a, .leaf b => ((a == 0) || (a == 7)) || (b == 0) || (a == b)
  | .leaf a, .nest _ _ => (a == 0) || (a == 7)
  | .nest _ _, .leaf b => b == 0
  | .nest a x, .nest b y => (a == b) && compT x y
theorem comp_n : ∀ (n : Nat) (a b : Ty), a.wf → b.wf → a.dep ≤ n → check_compatible_n n a.api b.api = some (compT a b) ∧ r11_Compatible_n n a.api b.api = some (compT a b)
  | 0, a, b, _, _, h => by have := a.dep_pos; omega
  | n + 1, .leaf x, .leaf y, ha, hb, h => by
    rw [check_compatible_n, check_compatible_b, r11_Compatible_n, r11_Compatible_b, compT]
    simp only [check_loose, r11_loose, Ty.api, bind1_some]
    by_cases k : (((x == 0) || (x == 7)) || (y == 0)) = true
    · simp only [k, if_true, Bool.true_or, and_self]
    · rw [Bool.not_eq_true] at k
      simp only [k, Bool.false_eq_true, if_false, Bool.false_or]
      by_cases hxy : x = y
      · subst hxy; simp
      · simp [hxy]
  | n + 1, .leaf x, .nest y t, ha, hb, h => by
    rw [check_compatible_n, check_compatible_b, r11_Compatible_n, r11_Compatible_b, compT]
    have k2 : (y == 0) = false := by simp; rcases hb.1 with h | h <;> omega
    have k3 : (x != y) = true := by
      simp only [bne_iff_ne]
      rintro rfl
      rcases hb.1 with h | h
      · exact ha.2.2.1 h
      · exact ha.2.2.2 h
    simp only [check_loose, r11_loose, Ty.api, bind1_some, k2, k3, Bool.or_false]
    by_cases k : ((x == 0) || (x == 7)) = true
    · simp only [k, if_true, and_self]
    · rw [Bool.not_eq_true] at k
      simp only [k, Bool.false_eq_true, if_false, if_true, and_self]
  | n + 1, .nest x s, .leaf y, ha, hb, h => by
    rw [check_compatible_n, check_compatible_b, r11_Compatible_n, r11_Compatible_b, compT]
    have k1 : ((x == 0) || (x == 7)) = false := by simp; rcases ha.1 with h | h <;> omega
    have k3 : (x != y) = true := by
      simp only [bne_iff_ne]
      rintro rfl
      rcases ha.1 with h | h
      · exact hb.2.2.1 h
      · exact hb.2.2.2 h
    simp only [check_loose, r11_loose, Ty.api, bind1_some, k1, k3, Bool.false_or]
    by_cases k : (y == 0) = true
    · simp only [k, if_true, and_self]
    · rw [Bool.not_eq_true] at k
      simp only [k, Bool.false_eq_true, if_false, if_true, and_self]
  | n + 1, .nest x s, .nest y t, ha, hb, h => by
    rw [check_compatible_n, check_compatible_b, r11_Compatible_n, r11_Compatible_b, compT]
    have k1 : ((x == 0) || (x == 7)) = false := by simp; rcases ha.1 with h | h <;> omega
    have k2 : (y == 0) = false := by simp; rcases hb.1 with h | h <;> omega
    simp only [Ty.dep] at h
    obtain ⟨i1, i2⟩ := comp_n n s t ha.2 hb.2 (by omega)
    simp only [check_loose, r11_loose, Ty.api, bind1_some, k1, k2, Bool.false_or]
    by_cases hxy : x = y
    · subst hxy; simp [idx, i1, i2]
    · simp [hxy]
theorem comp_eq {a b : Ty} (ha : a.wf) (hb : b.wf) (h : a.dep ≤ 1000) : check_compatible a.api b.api = some (compT a b) ∧ r11_Compatible a.api b.api = some (compT a b) :=
  comp_n BIG a b ha hb (by have := BIG_lt; omega)
def looseT (t : Ty) : Bool := (t.kind == 0) || (t.kind == 7)
theorem loose_eq (t : Ty) : check_loose t.api = some (looseT t) ∧ r11_loose t.api = some (looseT t) := by
  unfold check_loose r11_loose looseT; rw [Ty.api_kind]; exact ⟨rfl, rfl⟩
def ZT : ApiType := ApiType.mk 0 []
def sc (k : Int) : Ty := .leaf k
theorem sc_wf {k : Int} (h : 0 ≤ k ∧ k ≤ 7 ∧ k ≠ 5 ∧ k ≠ 6) : (sc k).wf := h
theorem of_eq (k : Int) : check_of k = some (sc k).api ∧ r11_plain k = some (sc k).api ∧ r08_Plain k = some (sc k).api := ⟨rfl, rfl, rfl⟩
theorem nested_eq (k : Int) (t : Ty) : check_nested k t.api = some (Ty.nest k t).api ∧ r08_With k t.api = some (Ty.nest k t).api := ⟨rfl, rfl⟩
theorem is_eq {a : Ty} (ha : a.wf) (h : a.dep ≤ 1000) {k : Int} (hk : 0 ≤ k ∧ k ≤ 7 ∧ k ≠ 5 ∧ k ≠ 6) : r11_is a.api k = some (compT a (sc k)) := by
  unfold r11_is
  rw [(of_eq k).2.1]
  exact (comp_eq ha (sc_wf hk) h).2
theorem dis4 {k : Int} (h : k = 0 ∨ k = 1 ∨ k = 2 ∨ k = 3 ∨ k = 4 ∨ k = 7) : 0 ≤ k ∧ k ≤ 7 ∧ k ≠ 5 ∧ k ≠ 6 := by omega
def finR (x : Option (ApiType × Bool)) : Option (ApiType × Int) :=
  bind2 x fun x6 ok1 => if !ok1 then some (ZT, 9) else bind1 (r08_Valid x6) fun x7 => if x7 != 0 then some (ZT, 13) else some (x6, 0)
def RES (x y : Option (ApiType × Int)) : Prop := ∃ (T : Ty) (c : Int), T.wf ∧ T.dep ≤ 16 ∧ (c ≠ 0 → T = sc 0) ∧ x = some (T.api, c) ∧ y = some (T.api, c)
theorem RES.mk {x : Option (ApiType × Int)} {y : Option (ApiType × Bool)} (T : Ty) (b : Bool) (hx : x = some (if b then (T.api, 0) else (ZT, 9))) (hy : y = some (T.api, b)) (hw : b = true → T.wf ∧ T.dep ≤ 16) : RES x (finR y) := by
  subst hx hy
  unfold finR
  cases b with
  | false => exact ⟨sc 0, 9, by simp [sc, Ty.wf], by simp [sc, Ty.dep], fun _ => rfl, rfl, rfl⟩
  | true =>
    obtain ⟨h1, h2⟩ := hw rfl
    refine ⟨T, 0, h1, h2, fun h => absurd rfl h, rfl, ?_⟩
    simp only [bind2_some, Bool.not_true, Bool.false_eq_true, if_false, (tval_eq _).2.1, tval_ok h1 h2]
    rfl
theorem member_res {t : Ty} (h : t.wf) (hd : t.dep ≤ 16) {e : ApiExpr} (he : e.kind = 3) (r : List ApiType) : RES (check_member t.api) (finR (r11_node e (t.api :: r))) := by
  have i0 : idx (t.api :: r) 0 = some t.api := rfl
  unfold check_member r11_node
  rw [(loose_eq t).1]
  simp only [he, i0, bind1_some, (loose_eq t).2, Ty.api_kind]
  cases t with
  | leaf k =>
    have h6 : (k == 6) = false := by simp; exact h.2.2.2
    refine RES.mk (.leaf k) (looseT (.leaf k)) ?_ ?_ (fun _ => ⟨h, hd⟩)
    · simp only [Ty.kind, h6, Bool.false_eq_true, if_false]
      cases looseT (.leaf k) <;> rfl
    · simp [Ty.kind, h6]
  | nest k s =>
    have hl : looseT (.nest k s) = false := by unfold looseT; simp [Ty.kind]; rcases h.1 with h | h <;> omega
    simp only [Ty.dep] at hd
    by_cases h6 : k = 6
    · subst h6
      refine RES.mk s true ?_ ?_ (fun _ => ⟨h.2, by omega⟩)
      · simp [hl, Ty.kind, Ty.api, idx]
      · simp [Ty.kind, Ty.api, idx]
    · refine RES.mk (.nest k s) false ?_ ?_ (fun hh => by cases hh)
      · simp [hl, Ty.kind, h6, ZT]
      · simp [Ty.kind, h6, hl]
theorem index_res {t i : Ty} (h : t.wf) (hd : t.dep ≤ 16) (hi : i.wf) (hid : i.dep ≤ 16) {e : ApiExpr} (he : e.kind = 4) (r : List ApiType) : RES (check_index t.api i.api) (finR (r11_node e (t.api :: i.api :: r))) := by
  have i0 : idx (t.api :: i.api :: r) 0 = some t.api := rfl
  have i1 : idx (t.api :: i.api :: r) 1 = some i.api := rfl
  unfold check_index r11_node r11_index
  have c3 := comp_eq hi (sc_wf (dis4 (k := 3) (by omega))) (by omega)
  have c4 := comp_eq hi (sc_wf (dis4 (k := 4) (by omega))) (by omega)
  simp only [he, i0, i1, bind1_some, (loose_eq t).1, (loose_eq t).2, Ty.api_kind, (of_eq _).1, c3.1, c4.1, is_eq hi (by omega) (dis4 (k := 3) (by omega)), is_eq hi (by omega) (dis4 (k := 4) (by omega))]
  generalize compT i (sc 3) = n3
  generalize compT i (sc 4) = n4
  cases t with
  | leaf k =>
    have h5 : (k == 5) = false := by simp; exact h.2.2.1
    have h6 : (k == 6) = false := by simp; exact h.2.2.2
    refine RES.mk (.leaf k) (looseT (.leaf k) && (n3 || n4)) ?_ ?_ (fun _ => ⟨h, hd⟩)
    · simp only [Ty.kind, h5, h6, Bool.false_and, Bool.false_eq_true, if_false]
      cases looseT (.leaf k) <;> cases n3 <;> cases n4 <;> rfl
    · simp only [Ty.kind, h5, h6, Bool.false_eq_true, if_false]
      cases looseT (.leaf k) <;> cases n3 <;> cases n4 <;> simp
  | nest k s =>
    have hl : looseT (.nest k s) = false := by unfold looseT; simp [Ty.kind]; rcases h.1 with h | h <;> omega
    simp only [Ty.dep] at hd
    rcases h.1 with h5 | h6
    · subst h5
      refine RES.mk s n3 ?_ ?_ (fun _ => ⟨h.2, by omega⟩)
      · simp only [hl, Ty.kind, Ty.api]
        cases n3 <;> simp [idx, ZT]
      · simp [Ty.kind, Ty.api, idx]
    · subst h6
      refine RES.mk s n4 ?_ ?_ (fun _ => ⟨h.2, by omega⟩)
      · simp only [hl, Ty.kind, Ty.api]
        cases n4 <;> simp [idx, ZT]
      · simp [Ty.kind, Ty.api, idx]
theorem unary_res {t : Ty} (h : t.wf) (hd : t.dep ≤ 16) {e : ApiExpr} (he : e.kind = 6) (r : List ApiType) : RES (check_unary e.name t.api) (finR (r11_node e (t.api :: r))) := by
  have i0 : idx (t.api :: r) 0 = some t.api := rfl
  have c3 := comp_eq h (sc_wf (dis4 (k := 3) (by omega))) (by omega)
  have c2 := comp_eq h (sc_wf (dis4 (k := 2) (by omega))) (by omega)
  unfold check_unary r11_node
  simp only [he, i0, bind1_some, (of_eq _).1, (of_eq _).2.1, c3.1, c2.1, is_eq h (by omega) (dis4 (k := 3) (by omega)), is_eq h (by omega) (dis4 (k := 2) (by omega))]
  cases hop : (e.name == ([33] : Str)) with
  | true =>
    refine RES.mk (sc 2) (compT t (sc 2)) ?_ ?_ (fun _ => ⟨by simp [sc, Ty.wf], by simp [sc, Ty.dep]⟩)
    · simp only [if_true]; cases compT t (sc 2) <;> rfl
    · simp
  | false =>
    refine RES.mk (sc 3) (compT t (sc 3)) ?_ ?_ (fun _ => ⟨by simp [sc, Ty.wf], by simp [sc, Ty.dep]⟩)
    · simp only [Bool.false_eq_true, if_false]; cases compT t (sc 3) <;> rfl
    · simp
theorem cond_res {a b c : Ty} (ha : a.wf) (had : a.dep ≤ 16) (hb : b.wf) (hbd : b.dep ≤ 16) (hc : c.wf) (hcd : c.dep ≤ 16) {e : ApiExpr} (he : e.kind = 8) (r : List ApiType) :
    RES (bind1 (check_of 2) fun x14 => bind1 (check_compatible a.api x14) fun x15 => if !x15 then some ((ApiType.mk 0 []), 9) else bind1 (typing_Join b.api c.api) fun x16 => some (x16, 0)) (finR (r11_node e (a.api :: b.api :: c.api :: r))) := by
  have i0 : idx (a.api :: b.api :: c.api :: r) 0 = some a.api := rfl
  have i1 : idx (a.api :: b.api :: c.api :: r) 1 = some b.api := rfl
  have i2 : idx (a.api :: b.api :: c.api :: r) 2 = some c.api := rfl
  have c2 := comp_eq ha (sc_wf (dis4 (k := 2) (by omega))) (by omega)
  have j := Join_eq hb hc hbd hcd
  have hjd := joinT_dep b c
  refine RES.mk (joinT b c) (compT a (sc 2)) ?_ ?_ (fun _ => ⟨joinT_wf b c hb hc, by omega⟩)
  · simp only [(of_eq _).1, bind1_some, c2.1, j.1]
    cases compT a (sc 2) <;> rfl
  · unfold r11_node
    simp [he, i0, i1, i2, j.2, is_eq ha (by omega) (dis4 (k := 2) (by omega))]
end Go.Ft

namespace Go.Ft
open Go
attribute [local congr] ite_c1
def cmB (a b : Ty) (k : Int) : Bool := (((looseT a || (a.kind == k)) && (looseT b || (b.kind == k))) && ((a.kind == k) || (b.kind == k)))
def kxT (a b : Ty) : Int := if looseT a then b.kind else if looseT b || (a.kind == b.kind) then a.kind else -1
theorem common_eq (a b : Ty) (k : Int) : check_common a.api b.api k = some (cmB a b k) := by
  unfold check_common cmB
  rw [(loose_eq a).1, (loose_eq b).1, Ty.api_kind, Ty.api_kind]
  simp only [bind1_some]
  cases (looseT a || (a.kind == k)) <;> simp
theorem rcommon_eq (a b : Ty) : r11_common a.api b.api = some (kxT a b) := by
  unfold r11_common kxT
  rw [(loose_eq a).2, (loose_eq b).2, Ty.api_kind, Ty.api_kind]
  simp only [bind1_some]
  cases looseT a
  · simp only [Bool.false_eq_true, if_false]; split <;> rfl
  · rfl
theorem cmB_kx {a b : Ty} (h : (looseT a && looseT b) = false) {k : Int} (hk : k ≠ 0 ∧ k ≠ 7 ∧ 0 ≤ k) : cmB a b k = (kxT a b == k) := by
  unfold cmB kxT looseT at *
  generalize a.kind = x at *
  generalize b.kind = y at *
  rw [Bool.eq_iff_iff]
  simp only [Bool.and_eq_false_iff, Bool.or_eq_false_iff, beq_eq_false_iff_ne] at h
  by_cases h1 : x = 0 ∨ x = 7
  · have e : ((x == 0) || (x == 7)) = true := by simpa using h1
    simp only [e, if_true, Bool.true_or, Bool.true_and, Bool.and_eq_true, Bool.or_eq_true, beq_iff_eq]
    omega
  · have e : ((x == 0) || (x == 7)) = false := by simpa using h1
    simp only [e, Bool.false_eq_true, if_false, Bool.false_or]
    by_cases h2 : y = 0 ∨ y = 7
    · have e2 : ((y == 0) || (y == 7)) = true := by simpa using h2
      simp only [e2, Bool.true_or, if_true, Bool.and_true, Bool.and_eq_true, Bool.or_eq_true, beq_iff_eq]
      omega
    · have e2 : ((y == 0) || (y == 7)) = false := by simpa using h2
      simp only [e2, Bool.false_or]
      by_cases h3 : x = y
      · simp only [h3, beq_self_eq_true, if_true, Bool.and_eq_true, Bool.or_eq_true, beq_iff_eq]; omega
      · have e3 : (x == y) = false := by simpa using h3
        simp only [e3, Bool.false_eq_true, if_false, Bool.and_eq_true, Bool.or_eq_true, beq_iff_eq]; omega
def elT : Ty → Ty
  | .leaf k => .leaf k
  | .nest _ t => t
theorem loose_leaf {t : Ty} (h : t.wf) (hl : looseT t = true) : t = sc t.kind ∧ (t.kind = 0 ∨ t.kind = 7) := by
  unfold looseT at hl
  simp only [Bool.or_eq_true, beq_iff_eq] at hl
  cases t with
  | leaf k => exact ⟨rfl, hl⟩
  | nest k s => simp only [Ty.kind] at hl; rcases h.1 with h | h <;> omega
theorem el_eq {t : Ty} (h : looseT t = true ∨ t.kind = 5) (hw : t.wf) (hd : t.dep ≤ 16) : check_element t.api = some (elT t).api ∧ r11_element t.api = some (elT t).api ∧ (elT t).wf ∧ (elT t).dep ≤ 15 := by
  unfold check_element r11_element
  rw [(loose_eq t).1, (loose_eq t).2]
  simp only [bind1_some]
  cases t with
  | leaf k =>
    have hl : looseT (.leaf k) = true := by
      rcases h with h | h
      · exact h
      · simp only [Ty.kind] at h; exact absurd h hw.2.2.1
    rw [hl]
    exact ⟨rfl, rfl, hw, by simp [elT, Ty.dep]⟩
  | nest k s =>
    have hl : looseT (.nest k s) = false := by unfold looseT; simp [Ty.kind]; rcases hw.1 with h | h <;> omega
    rw [hl]
    simp only [Ty.dep] at hd
    exact ⟨by simp [Ty.api, idx, elT], by simp [Ty.api, idx, elT], hw.2, by simp only [elT]; omega⟩
theorem sum_res {a b : Ty} (ha : a.wf) (had : a.dep ≤ 16) (hb : b.wf) (hbd : b.dep ≤ 16) : RES (check_sum a.api b.api) (finR (r11_sum a.api b.api)) := by
  unfold check_sum r11_sum
  rw [(loose_eq a).1, (loose_eq a).2, (loose_eq b).1, (loose_eq b).2, Ty.api_kind, Ty.api_kind]
  simp only [bind1_some]
  have hone : (if looseT a = true then some (looseT b) else some false) = some (looseT a && looseT b) := by cases looseT a <;> rfl
  rw [hone]
  simp only [bind1_some]
  cases hl : (looseT a && looseT b) with
  | true =>
    simp only [Bool.and_eq_true] at hl
    obtain ⟨a1, a2⟩ := loose_leaf ha hl.1
    obtain ⟨b1, b2⟩ := loose_leaf hb hl.2
    rcases a2 with a2 | a2
    · rw [a2] at a1
      subst a1
      exact RES.mk (sc 0) true rfl rfl (fun _ => ⟨ha, had⟩)
    · rw [a2] at a1
      subst a1
      rcases b2 with b2 | b2
      · rw [b2] at b1
        subst b1
        exact RES.mk (sc 0) true rfl rfl (fun _ => ⟨hb, hbd⟩)
      · rw [b2] at b1
        subst b1
        exact RES.mk (sc 7) true rfl rfl (fun _ => ⟨hb, hbd⟩)
  | false =>
    simp only [Bool.false_eq_true, if_false, common_eq, rcommon_eq, bind1_some]
    rw [cmB_kx hl (k := 3) (by omega), cmB_kx hl (k := 4) (by omega), cmB_kx hl (k := 5) (by omega)]
    by_cases k5 : kxT a b = 5
    · have ea : looseT a = true ∨ a.kind = 5 := by
        unfold kxT at k5
        cases h : looseT a with
        | true => exact .inl rfl
        | false =>
          rw [h] at k5
          simp only [Bool.false_eq_true, if_false] at k5
          split at k5
          · exact .inr k5
          · omega
      have eb : looseT b = true ∨ b.kind = 5 := by
        unfold kxT at k5
        cases h : looseT b with
        | true => exact .inl rfl
        | false =>
          rw [h] at k5
          cases h2 : looseT a with
          | true => rw [h2] at k5; exact .inr (by simpa using k5)
          | false =>
            rw [h2] at k5
            simp only [Bool.false_eq_true, if_false, Bool.false_or] at k5
            split at k5
            · rename_i h3; right; simp only [beq_iff_eq] at h3; omega
            · omega
      obtain ⟨x1, x2, x3, x4⟩ := el_eq ea ha had
      obtain ⟨y1, y2, y3, y4⟩ := el_eq eb hb hbd
      have j := Join_eq x3 y3 (by omega) (by omega)
      have jd := joinT_dep (elT a) (elT b)
      refine RES.mk (.nest 5 (joinT (elT a) (elT b))) true ?_ ?_ (fun _ => ⟨⟨.inl rfl, joinT_wf _ _ x3 y3⟩, by simp only [Ty.dep]; omega⟩)
      · simp [k5, x1, y1, j.1, check_nested, Ty.api]
      · simp [k5, x2, y2, j.2, r08_With, Ty.api]
    · refine RES.mk (sc (kxT a b)) ((kxT a b == 3) || (kxT a b == 4)) ?_ ?_ (fun hh => ⟨?_, by simp [sc, Ty.dep]⟩)
      · by_cases k3 : kxT a b = 3
        · simp [k3, check_of, sc, Ty.api]
        · by_cases k4 : kxT a b = 4
          · simp [k4, check_of, sc, Ty.api]
          · simp [k3, k4, k5, ZT]
      · simp [k5, r11_plain, r08_Plain, sc, Ty.api]
      · simp only [Bool.or_eq_true, beq_iff_eq] at hh
        simp only [sc, Ty.wf]; omega
def opsL : List Str := [[38, 38], [124, 124], [61, 61], [33, 61], [60], [60, 61], [62], [62, 61], [45], [42], [47], [37], [43]]
theorem strong_mem {s : Str} (h : 0 < strongS s) : s ∈ opsL := by
  unfold strongS parser_strength at h
  unfold opsL
  by_cases h1 : s = [124, 124]
  · simp [h1]
  by_cases h2 : s = [38, 38]
  · simp [h2]
  by_cases h3 : s = [61, 61]
  · simp [h3]
  by_cases h4 : s = [33, 61]
  · simp [h4]
  by_cases h5 : s = [60]
  · simp [h5]
  by_cases h6 : s = [60, 61]
  · simp [h6]
  by_cases h7 : s = [62]
  · simp [h7]
  by_cases h8 : s = [62, 61]
  · simp [h8]
  by_cases h9 : s = [43]
  · simp [h9]
  by_cases h10 : s = [45]
  · simp [h10]
  by_cases h11 : s = [42]
  · simp [h11]
  by_cases h12 : s = [47]
  · simp [h12]
  by_cases h13 : s = [37]
  · simp [h13]
  simp [h1, h2, h3, h4, h5, h6, h7, h8, h9, h10, h11, h12, h13] at h
theorem bin1_eq {a b : Ty} (ha : a.wf) (had : a.dep ≤ 16) (hb : b.wf) (hbd : b.dep ≤ 16) {k : Int} (hk : 0 ≤ k ∧ k ≤ 7 ∧ k ≠ 5 ∧ k ≠ 6) : check_binary_1 k a.api b.api = some (compT a (sc k) && compT b (sc k)) := by
  unfold check_binary_1
  rw [(of_eq k).1]
  simp only [bind1_some, (comp_eq ha (sc_wf hk) (by omega)).1, (comp_eq hb (sc_wf hk) (by omega)).1]
  cases compT a (sc k) <;> rfl
theorem binary_res {a b : Ty} (ha : a.wf) (had : a.dep ≤ 16) (hb : b.wf) (hbd : b.dep ≤ 16) {op : Str} (hop : op ∈ opsL) : RES (check_binary op a.api b.api) (finR (r11_binary op a.api b.api)) := by
  have b2 := bin1_eq ha had hb hbd (dis4 (k := 2) (by omega))
  have b3 := bin1_eq ha had hb hbd (dis4 (k := 3) (by omega))
  have ia2 := is_eq ha (by omega) (dis4 (k := 2) (by omega))
  have ib2 := is_eq hb (by omega) (dis4 (k := 2) (by omega))
  have ia3 := is_eq ha (by omega) (dis4 (k := 3) (by omega))
  have ib3 := is_eq hb (by omega) (dis4 (k := 3) (by omega))
  have w2 : (sc 2).wf ∧ (sc 2).dep ≤ 16 := ⟨by simp [sc, Ty.wf], by simp [sc, Ty.dep]⟩
  have w3 : (sc 3).wf ∧ (sc 3).dep ≤ 16 := ⟨by simp [sc, Ty.wf], by simp [sc, Ty.dep]⟩
  have hone : ∀ p q : Bool, (if p = true then some q else some false) = some (p && q) := by intro p q; cases p <;> rfl
  have rel : ∀ (x : Option (ApiType × Int)) (y : Option (ApiType × Bool)),
      x = (bind1 (check_loose a.api) fun x7 => bind1 (if x7 then check_loose b.api else some false) fun b2 => bind1 (if b2 then some true else check_common a.api b.api 3) fun b3 => bind1 (if b3 then some true else check_common a.api b.api 4) fun b4 =>
        if b4 then bind1 (check_of 2) fun x11 => some (x11, 0) else some ((ApiType.mk 0 []), 9)) →
      y = (bind1 (r11_common a.api b.api) fun kx1 => bind1 (r11_plain 2) fun x9 => bind1 (r11_loose a.api) fun x10 => bind1 (if x10 then r11_loose b.api else some false) fun b4 => some (x9, ((b4 || (kx1 == 3)) || (kx1 == 4)))) → RES x (finR y) := by
    intro x y hx hy
    rw [hx, hy, (loose_eq a).1, (loose_eq a).2, (loose_eq b).1, (loose_eq b).2, common_eq, common_eq, rcommon_eq, (of_eq 2).1, (of_eq 2).2.1]
    simp only [bind1_some, hone]
    refine RES.mk (sc 2) (((looseT a && looseT b) || (kxT a b == 3)) || (kxT a b == 4)) ?_ rfl (fun _ => w2)
    cases hl : (looseT a && looseT b) with
    | true => rfl
    | false =>
      rw [cmB_kx hl (k := 3) (by omega), cmB_kx hl (k := 4) (by omega)]
      cases (kxT a b == 3) <;> cases (kxT a b == 4) <;> rfl
  have lg : ∀ (x : Option (ApiType × Int)) (y : Option (ApiType × Bool)),
      x = (bind1 (check_binary_1 2 a.api b.api) fun x1 => if x1 then bind1 (check_of 2) fun x2 => some (x2, 0) else some ((ApiType.mk 0 []), 9)) →
      y = (bind1 (r11_plain 2) fun x1 => bind1 (r11_is a.api 2) fun x2 => bind1 (if x2 then r11_is b.api 2 else some false) fun b2 => some (x1, b2)) → RES x (finR y) := by
    intro x y hx hy
    rw [hx, hy, b2, ia2, ib2, (of_eq 2).1, (of_eq 2).2.1]
    simp only [bind1_some, hone]
    refine RES.mk (sc 2) (compT a (sc 2) && compT b (sc 2)) ?_ rfl (fun _ => w2)
    cases (compT a (sc 2) && compT b (sc 2)) <;> rfl
  have ar : ∀ (x : Option (ApiType × Int)) (y : Option (ApiType × Bool)),
      x = (bind1 (check_binary_1 3 a.api b.api) fun x1 => if x1 then bind1 (check_of 3) fun x2 => some (x2, 0) else some ((ApiType.mk 0 []), 9)) →
      y = (bind1 (r11_plain 3) fun x1 => bind1 (r11_is a.api 3) fun x2 => bind1 (if x2 then r11_is b.api 3 else some false) fun b2 => some (x1, b2)) → RES x (finR y) := by
    intro x y hx hy
    rw [hx, hy, b3, ia3, ib3, (of_eq 3).1, (of_eq 3).2.1]
    simp only [bind1_some, hone]
    refine RES.mk (sc 3) (compT a (sc 3) && compT b (sc 3)) ?_ rfl (fun _ => w3)
    cases (compT a (sc 3) && compT b (sc 3)) <;> rfl
  have eqq : ∀ (x : Option (ApiType × Int)) (y : Option (ApiType × Bool)), x = (bind1 (check_of 2) fun x5 => some (x5, 0)) → y = (bind1 (r11_plain 2) fun x7 => some (x7, true)) → RES x (finR y) := by
    intro x y hx hy
    exact RES.mk (sc 2) true (by rw [hx]; rfl) (by rw [hy]; rfl) (fun _ => w2)
  simp only [opsL, List.mem_cons, List.not_mem_nil, or_false] at hop
  rcases hop with rfl | rfl | rfl | rfl | rfl | rfl | rfl | rfl | rfl | rfl | rfl | rfl | rfl
  · exact lg _ _ rfl rfl
  · exact lg _ _ rfl rfl
  · exact eqq _ _ rfl rfl
  · exact eqq _ _ rfl rfl
  · exact rel _ _ rfl rfl
  · exact rel _ _ rfl rfl
  · exact rel _ _ rfl rfl
  · exact rel _ _ rfl rfl
  · exact ar _ _ rfl rfl
  · exact ar _ _ rfl rfl
  · exact ar _ _ rfl rfl
  · exact ar _ _ rfl rfl
  · exact sum_res ha had hb hbd
def foldJ : Ty → List Ty → Ty
  | t, [] => t
  | t, x :: r => foldJ (joinT t x) r
theorem foldJ_wf : ∀ (l : List Ty) (t : Ty), t.wf → t.dep ≤ 16 → (∀ x ∈ l, x.wf ∧ x.dep ≤ 16) → (foldJ t l).wf ∧ (foldJ t l).dep ≤ 16
  | [], t, h, hd, _ => ⟨h, hd⟩
  | x :: r, t, h, hd, hl => by
    have hx := hl x (by simp)
    have jd := joinT_dep t x
    exact foldJ_wf r (joinT t x) (joinT_wf t x h hx.1) (by omega) fun y hy => hl y (by simp [hy])
theorem gath_scan {K : ApiType → Option (ApiType × Int)} : ∀ (l : List Ty) (t : Ty) (i : Nat), t.wf → t.dep ≤ 16 → (∀ x ∈ l, x.wf ∧ x.dep ≤ 16) →
    scanS (fun _ e1 (elem1 : ApiType) r => bind1 (typing_Join elem1 e1) fun x3 => r x3) K i (l.map Ty.api) t.api = K (foldJ t l).api
  | [], t, i, _, _, _ => rfl
  | x :: r, t, i, h, hd, hl => by
    have hx := hl x (by simp)
    have jd := joinT_dep t x
    rw [List.map_cons, scanS, (Join_eq h hx.1 hd hx.2).1]
    simp only [bind1_some]
    exact gath_scan r (joinT t x) (i + 1) (joinT_wf t x h hx.1) (by omega) fun y hy => hl y (by simp [hy])
theorem node_scan {K : ApiType → Option (ApiType × Bool)} : ∀ (l : List Ty) (t : Ty) (i : Nat), t.wf → t.dep ≤ 16 → (∀ x ∈ l, x.wf ∧ x.dep ≤ 16) →
    scanS (fun _ e1 (elem1 : ApiType) r => bind1 (r08_Join elem1 e1) fun x3 => r x3) K i (l.map Ty.api) t.api = K (foldJ t l).api
  | [], t, i, _, _, _ => rfl
  | x :: r, t, i, h, hd, hl => by
    have hx := hl x (by simp)
    have jd := joinT_dep t x
    rw [List.map_cons, scanS, (Join_eq h hx.1 hd hx.2).2]
    simp only [bind1_some]
    exact node_scan r (joinT t x) (i + 1) (joinT_wf t x h hx.1) (by omega) fun y hy => hl y (by simp [hy])
theorem gathered_res {l : List Ty} (hl : ∀ x ∈ l, x.wf ∧ x.dep ≤ 16) (hn : l.length < 4611686018427387904) {k : Int} (hk : k = 5 ∨ k = 6) {y : Option (ApiType × Bool)} (hy : y = some ((Ty.nest k (foldJ (sc 7) l)).api, true)) :
    RES (check_gathered k (l.map Ty.api)) (finR y) := by
  have w7 : (sc 7).wf ∧ (sc 7).dep ≤ 16 := ⟨by simp [sc, Ty.wf], by simp [sc, Ty.dep]⟩
  obtain ⟨f1, f2⟩ := foldJ_wf l (sc 7) w7.1 w7.2 hl
  unfold check_gathered
  rw [(of_eq 7).1]
  simp only [bind1_some]
  have := scanS_big (F := fun n s i => check_gathered_l1 k (l.map Ty.api) n i s) (l := l.map Ty.api) (body := fun _ e1 (elem1 : ApiType) r => bind1 (typing_Join elem1 e1) fun x3 => r x3)
    (fin := fun elem1 => bind1 (check_nested k elem1) fun x4 => bind1 (typing_Valid x4) fun x5 => if x5 != 0 then some (ZT, 13) else some (x4, 0)) (by simpa using hn) (fun n s i => rfl) (sc 7).api
  rw [this, gath_scan l (sc 7) 0 w7.1 w7.2 hl, hy]
  unfold finR
  rw [(nested_eq k _).1]
  simp only [bind1_some, bind2_some, Bool.not_true, Bool.false_eq_true, if_false]
  obtain ⟨t1, t2, t3⟩ := tval_eq (Ty.nest k (foldJ (sc 7) l)).api
  rw [t1, t2]
  simp only [bind1_some]
  by_cases hc : tval (Ty.nest k (foldJ (sc 7) l)).api = 0
  · obtain ⟨T, q1, q2, q3⟩ := t3 hc
    exact ⟨T, 0, q1, q3, fun h => absurd rfl h, by rw [hc, ← q2]; rfl, by rw [hc, ← q2]; rfl⟩
  · exact ⟨sc 0, 13, by simp [sc, Ty.wf], by simp [sc, Ty.dep], fun _ => rfl, by rw [if_pos (by simpa using hc)]; rfl, by rw [if_pos (by simpa using hc)]; rfl⟩
theorem node_list {l : List Ty} (hl : ∀ x ∈ l, x.wf ∧ x.dep ≤ 16) (hn : l.length < 4611686018427387904) {e : ApiExpr} (he : e.kind = 9 ∨ e.kind = 10) :
    r11_node e (l.map Ty.api) = some ((Ty.nest (if e.kind = 10 then 6 else 5) (foldJ (sc 7) l)).api, true) := by
  have w7 : (sc 7).wf ∧ (sc 7).dep ≤ 16 := ⟨by simp [sc, Ty.wf], by simp [sc, Ty.dep]⟩
  unfold r11_node
  have := scanS_big (F := fun n s i => r11_node_l1 e (l.map Ty.api) n i s) (l := l.map Ty.api) (body := fun _ e1 (elem1 : ApiType) r => bind1 (r08_Join elem1 e1) fun x3 => r x3)
    (fin := fun t1 => if e.kind == 10 then (bind1 (r08_With 6 t1) fun x16 => some (x16, true)) else (bind1 (r08_With 5 t1) fun x17 => some (x17, true))) (by simpa using hn) (fun n s i => rfl) (sc 7).api
  rw [(of_eq 7).2.1]
  simp only [bind1_some]
  rw [this, node_scan l (sc 7) 0 w7.1 w7.2 hl]
  rcases he with he | he <;> simp [he, r08_With, Ty.api]
end Go.Ft

namespace Go.Ft
open Go
attribute [local congr] ite_c1
theorem BIG4 : ∃ n, BIG = n + 4 := ⟨BIG - 4, by decide⟩
theorem w64_01 : w64 (0 + 1) = 1 := by decide
theorem w64_11 : w64 (1 + 1) = 2 := by decide
theorem suits1 {a w : Ty} (ha : a.wf) (had : a.dep ≤ 16) (hw : w.wf) : check_suits [a.api] [w.api] = some (compT a w) := by
  obtain ⟨n, hn⟩ := BIG4
  unfold check_suits
  rw [hn]
  have i0 : ∀ x : Ty, idx [x.api] 0 = some x.api := fun _ => rfl
  simp only [check_suits_l1, i0, bind1_some, (comp_eq ha hw (by omega)).1, w64_01]
  cases compT a w <;> simp
theorem suits2 {a b w v : Ty} (ha : a.wf) (had : a.dep ≤ 16) (hb : b.wf) (hbd : b.dep ≤ 16) (hw : w.wf) (hv : v.wf) : check_suits [a.api, b.api] [w.api, v.api] = some (compT a w && compT b v) := by
  obtain ⟨n, hn⟩ := BIG4
  unfold check_suits
  rw [hn]
  have i0 : ∀ x y : Ty, idx [x.api, y.api] 0 = some x.api := fun _ _ => rfl
  have i1 : ∀ x y : Ty, idx [x.api, y.api] 1 = some y.api := fun _ _ => rfl
  simp only [check_suits_l1, i0, i1, bind1_some, (comp_eq ha hw (by omega)).1, (comp_eq hb hv (by omega)).1, w64_01, w64_11]
  cases compT a w <;> cases compT b v <;> simp
theorem callL {e : ApiExpr} {alts : List (List ApiType)} {x : ApiType} {ts : List ApiType} (hl : alts.length < 4611686018427387904) (hne : (e.name == ([100, 101, 102, 97, 117, 108, 116] : Str)) = false) (bs : List Bool)
    (h : alts.map (check_suits ts) = bs.map some) : check_call_l1 e alts x ts BIG 0 = some (if bs.any id then (x, 0) else (ZT, 9)) := by
  have := scanS_big (F := fun k (_ : Unit) i => check_call_l1 e alts x ts k i) (l := alts) (body := fun _ want1 _ r => bind1 (check_suits ts want1) fun x3 => if !x3 then r () else if !(e.name == ([100, 101, 102, 97, 117, 108, 116] : Str)) then some (x, 0) else
      bind1 (idx ts 0) fun e3 => if e3.kind == 1 then bind1 (idx ts 1) fun e4 => some (e4, 0) else bind1 (idx ts 0) fun e5 => some (e5, 0)) (fin := fun _ => some (ZT, 9)) hl (fun k s i => rfl) ()
  rw [this]
  clear this hl
  simp only [hne, Bool.not_false, if_true]
  generalize 0 = i
  induction alts generalizing bs i with
  | nil =>
    cases bs with
    | nil => rfl
    | cons b bs => simp at h
  | cons w alts ih =>
    cases bs with
    | nil => simp at h
    | cons b bs =>
      simp only [List.map_cons, List.cons.injEq] at h
      rw [scanS, h.1]
      simp only [bind1_some, List.any_cons, id]
      cases b with
      | true => simp
      | false =>
        simp only [Bool.not_false, if_true, Bool.false_or]
        exact ih bs h.2 (i + 1)
theorem comp_any (a : Ty) : compT a (sc 0) = true := by
  cases a <;> simp [sc, compT]
theorem any_ok {k : Int} (h : 0 ≤ k ∧ k ≤ 7 ∧ k ≠ 5 ∧ k ≠ 6) : (sc k).wf ∧ (sc k).dep ≤ 16 := ⟨h, by simp [sc, Ty.dep]⟩
theorem nest_ok {k j : Int} (hk : k = 5 ∨ k = 6) (h : 0 ≤ j ∧ j ≤ 7 ∧ j ≠ 5 ∧ j ≠ 6) : (Ty.nest k (sc j)).wf ∧ (Ty.nest k (sc j)).dep ≤ 16 := ⟨⟨hk, h⟩, by simp [sc, Ty.dep]⟩
def CallOK (name : Str) (n : Nat) : Prop := ∃ (alts : List (List ApiType)) (x : ApiType) (w : List ApiType) (r : List (List ApiType)), check_signatures name = some (alts, x) ∧ alts = w :: r ∧ w.length = n ∧ r11_Args name = some (n : Int) ∧
  ∀ (e : ApiExpr) (Ts : List Ty), e.name = name → Ts.length = n → (∀ t ∈ Ts, t.wf ∧ t.dep ≤ 16) → RES (check_call_l1 e alts x (Ts.map Ty.api) BIG 0) (finR (r11_call name (Ts.map Ty.api)))
theorem call1 {name : Str} {alts : List Ty} {X : Ty} (hs : check_signatures name = some (alts.map fun w => [w.api], X.api)) (hne : alts ≠ []) (hA : r11_Args name = some 1) (hw : ∀ w ∈ alts, w.wf) (hX : X.wf ∧ X.dep ≤ 16) (hd : (name == ([100, 101, 102, 97, 117, 108, 116] : Str)) = false)
    (hl : alts.length < 100)
    (hr : ∀ a : Ty, a.wf → a.dep ≤ 16 → r11_call name [a.api] = some (X.api, (alts.map (compT a)).any id)) : CallOK name 1 := by
  obtain ⟨w0, r0, h0⟩ : ∃ w0 r0, alts = w0 :: r0 := by
    cases alts with
    | nil => exact absurd rfl hne
    | cons a b => exact ⟨a, b, rfl⟩
  refine ⟨_, _, [w0.api], r0.map fun w => [w.api], hs, by rw [h0]; rfl, rfl, hA, ?_⟩
  intro e Ts hn hlen hT
  match Ts, hlen with
  | [a], _ =>
    obtain ⟨a1, a2⟩ := hT a (by simp)
    simp only [List.map_cons, List.map_nil]
    refine RES.mk X ((alts.map (compT a)).any id) ?_ (hr a a1 a2) (fun _ => hX)
    rw [callL (by simp; omega) (by rw [hn]; exact hd) (alts.map (compT a)) ?_]
    · simp only [List.map_map, Function.comp_def]
      refine List.map_congr_left fun w hwm => ?_
      exact suits1 a1 a2 (hw w hwm)
theorem call2 {name : Str} {alts : List (Ty × Ty)} {X : Ty} (hs : check_signatures name = some (alts.map fun w => [w.1.api, w.2.api], X.api)) (hne : alts ≠ []) (hA : r11_Args name = some 2) (hw : ∀ w ∈ alts, w.1.wf ∧ w.2.wf) (hX : X.wf ∧ X.dep ≤ 16) (hd : (name == ([100, 101, 102, 97, 117, 108, 116] : Str)) = false)
    (hl : alts.length < 100)
    (hr : ∀ a b : Ty, a.wf → a.dep ≤ 16 → b.wf → b.dep ≤ 16 → r11_call name [a.api, b.api] = some (X.api, (alts.map fun w => compT a w.1 && compT b w.2).any id)) : CallOK name 2 := by
  obtain ⟨w0, r0, h0⟩ : ∃ w0 r0, alts = w0 :: r0 := by
    cases alts with
    | nil => exact absurd rfl hne
    | cons a b => exact ⟨a, b, rfl⟩
  refine ⟨_, _, [w0.1.api, w0.2.api], r0.map fun w => [w.1.api, w.2.api], hs, by rw [h0]; rfl, rfl, hA, ?_⟩
  intro e Ts hn hlen hT
  match Ts, hlen with
  | [a, b], _ =>
    obtain ⟨a1, a2⟩ := hT a (by simp)
    obtain ⟨b1, b2⟩ := hT b (by simp)
    simp only [List.map_cons, List.map_nil]
    refine RES.mk X ((alts.map fun w => compT a w.1 && compT b w.2).any id) ?_ (hr a b a1 a2 b1 b2) (fun _ => hX)
    rw [callL (by simp; omega) (by rw [hn]; exact hd) (alts.map fun w => compT a w.1 && compT b w.2) ?_]
    · simp only [List.map_map, Function.comp_def]
      refine List.map_congr_left fun w hwm => ?_
      exact suits2 a1 a2 b1 b2 (hw w hwm).1 (hw w hwm).2
theorem ix20 (a b : Ty) : idx [a.api, b.api] 0 = some a.api := rfl
theorem ix21 (a b : Ty) : idx [a.api, b.api] 1 = some b.api := rfl
theorem ite_or (p : Bool) (q : Bool) : (if p = true then some true else some q) = some (p || q) := by cases p <;> rfl
theorem ite_and (p : Bool) (q : Bool) : (if p = true then some q else some false) = some (p && q) := by cases p <;> rfl
theorem call_len : CallOK [108, 101, 110] 1 :=
  call1 (alts := [sc 4, .nest 5 (sc 0), .nest 6 (sc 0)]) (X := sc 3) rfl (by simp) rfl (by simp [sc, Ty.wf]) (any_ok (by omega)) rfl (by simp) fun a h hd => by
    have i4 := is_eq h (by omega) (dis4 (k := 4) (by omega))
    have l5 := (comp_eq h (nest_ok (k := 5) (j := 0) (by omega) (by omega)).1 (by omega)).2
    have l6 := (comp_eq h (nest_ok (k := 6) (j := 0) (by omega) (by omega)).1 (by omega)).2
    rw [show r11_call [108, 101, 110] [a.api] = bind1 (r11_is a.api 4) fun x3 => bind1 (if x3 then some true else r11_Compatible a.api (Ty.nest 5 (sc 0)).api) fun b1 => bind1 (if b1 then some true else r11_Compatible a.api (Ty.nest 6 (sc 0)).api) fun b2 => some ((sc 3).api, b2) from rfl, i4, l5, l6]
    simp only [bind1_some, ite_or, List.map_cons, List.map_nil, List.any_cons, List.any_nil, id, Bool.or_false, Bool.or_assoc]
theorem call_text1 {name : Str} {X : Ty} (hX : X.wf ∧ X.dep ≤ 16) (hs : check_signatures name = some ([[(sc 4).api]], X.api)) (hA : r11_Args name = some 1) (hd : (name == ([100, 101, 102, 97, 117, 108, 116] : Str)) = false)
    (hr : ∀ a : Ty, r11_call name [a.api] = bind1 (r11_is a.api 4) fun b => some (X.api, b)) : CallOK name 1 :=
  call1 (alts := [sc 4]) (X := X) hs (by simp) hA (by simp [sc, Ty.wf]) hX hd (by simp) fun a h hd => by
    rw [hr, is_eq h (by omega) (dis4 (k := 4) (by omega))]
    simp
theorem call_lower : CallOK [108, 111, 119, 101, 114] 1 := call_text1 (X := sc 4) (any_ok (by omega)) rfl rfl rfl fun a => rfl
theorem call_upper : CallOK [117, 112, 112, 101, 114] 1 := call_text1 (X := sc 4) (any_ok (by omega)) rfl rfl rfl fun a => rfl
theorem call_int : CallOK [105, 110, 116] 1 := call_text1 (X := sc 3) (any_ok (by omega)) rfl rfl rfl fun a => rfl
theorem call_string : CallOK [115, 116, 114, 105, 110, 103] 1 :=
  call1 (alts := [sc 1, sc 2, sc 3, sc 4]) (X := sc 4) rfl (by simp) rfl (by simp [sc, Ty.wf]) (any_ok (by omega)) rfl (by simp) fun a h hd => by
    have e1 : r11_call [115, 116, 114, 105, 110, 103] [a.api] = some ((sc 4).api, (a.kind != 5) && (a.kind != 6)) := by
      rw [show r11_call [115, 116, 114, 105, 110, 103] [a.api] = bind1 (if a.api.kind != 5 then some (a.api.kind != 6) else some false) fun b10 => some ((sc 4).api, b10) from rfl, Ty.api_kind]
      cases (a.kind != 5) <;> rfl
    rw [e1]
    congr 2
    cases a with
    | leaf k =>
      have hk : k = 0 ∨ k = 1 ∨ k = 2 ∨ k = 3 ∨ k = 4 ∨ k = 7 := by obtain ⟨h1, h2, h3, h4⟩ := h; omega
      rcases hk with rfl | rfl | rfl | rfl | rfl | rfl <;> rfl
    | nest k s => rcases h.1 with rfl | rfl <;> simp [sc, compT, Ty.kind]
theorem call_keys : CallOK [107, 101, 121, 115] 1 :=
  call1 (alts := [.nest 6 (sc 0)]) (X := .nest 5 (sc 4)) rfl (by simp) rfl (by simp [sc, Ty.wf]) (nest_ok (by omega) (by omega)) rfl (by simp) fun a h hd => by
    have l6 := (comp_eq h (nest_ok (k := 6) (j := 0) (by omega) (by omega)).1 (by omega)).2
    rw [show r11_call [107, 101, 121, 115] [a.api] = bind1 (r11_Compatible a.api (Ty.nest 6 (sc 0)).api) fun x33 => some ((Ty.nest 5 (sc 4)).api, x33) from rfl, l6]
    simp
theorem call_contains : CallOK [99, 111, 110, 116, 97, 105, 110, 115] 2 :=
  call2 (alts := [(.nest 5 (sc 0), sc 0), (sc 4, sc 4), (.nest 6 (sc 0), sc 4)]) (X := sc 2) rfl (by simp) rfl (by simp [sc, Ty.wf]) (any_ok (by omega)) rfl (by simp) fun a b h hd hb hbd => by
    have ia := is_eq h (by omega) (dis4 (k := 4) (by omega))
    have ib := is_eq hb (by omega) (dis4 (k := 4) (by omega))
    have l5 := (comp_eq h (nest_ok (k := 5) (j := 0) (by omega) (by omega)).1 (by omega)).2
    have l6 := (comp_eq h (nest_ok (k := 6) (j := 0) (by omega) (by omega)).1 (by omega)).2
    rw [show r11_call [99, 111, 110, 116, 97, 105, 110, 115] [a.api, b.api] = bind1 (r11_Compatible a.api (Ty.nest 5 (sc 0)).api) fun x10 => bind1 (if x10 then some true else bind1 (r11_is b.api 4) fun x11 => if x11 then
        (bind1 (r11_is a.api 4) fun x12 => if x12 then some true else r11_Compatible a.api (Ty.nest 6 (sc 0)).api) else some false) fun b3 => some ((sc 2).api, b3) from rfl, l5, l6, ia, ib]
    simp only [bind1_some, List.map_cons, List.map_nil, List.any_cons, List.any_nil, id, comp_any]
    cases compT a (Ty.nest 5 (sc 0)) <;> cases compT b (sc 4) <;> cases compT a (sc 4) <;> cases compT a (Ty.nest 6 (sc 0)) <;> rfl
theorem call_join : CallOK [106, 111, 105, 110] 2 :=
  call2 (alts := [(.nest 5 (sc 4), sc 4)]) (X := sc 4) rfl (by simp) rfl (by simp [sc, Ty.wf]) (any_ok (by omega)) rfl (by simp) fun a b h hd hb hbd => by
    have ib := is_eq hb (by omega) (dis4 (k := 4) (by omega))
    have l5 := (comp_eq h (nest_ok (k := 5) (j := 4) (by omega) (by omega)).1 (by omega)).2
    rw [show r11_call [106, 111, 105, 110] [a.api, b.api] = bind1 (r11_Compatible a.api (Ty.nest 5 (sc 4)).api) fun x16 => bind1 (if x16 then r11_is b.api 4 else some false) fun b6 => some ((sc 4).api, b6) from rfl, l5, ib]
    simp [ite_and]
theorem call_text2 {name : Str} {X : Ty} (hX : X.wf ∧ X.dep ≤ 16) (hs : check_signatures name = some ([[(sc 4).api, (sc 4).api]], X.api)) (hA : r11_Args name = some 2) (hd : (name == ([100, 101, 102, 97, 117, 108, 116] : Str)) = false)
    (hr : ∀ a b : Ty, r11_call name [a.api, b.api] = bind1 (r11_is a.api 4) fun x => bind1 (if x then r11_is b.api 4 else some false) fun b => some (X.api, b)) : CallOK name 2 :=
  call2 (alts := [(sc 4, sc 4)]) (X := X) hs (by simp) hA (by simp [sc, Ty.wf]) hX hd (by simp) fun a b h hd hb hbd => by
    rw [hr, is_eq h (by omega) (dis4 (k := 4) (by omega)), is_eq hb (by omega) (dis4 (k := 4) (by omega))]
    simp [ite_and]
theorem call_split : CallOK [115, 112, 108, 105, 116] 2 := call_text2 (X := .nest 5 (sc 4)) (nest_ok (by omega) (by omega)) rfl rfl rfl fun a b => rfl
theorem call_starts : CallOK [115, 116, 97, 114, 116, 115, 119, 105, 116, 104] 2 := call_text2 (X := sc 2) (any_ok (by omega)) rfl rfl rfl fun a b => rfl
theorem call_ends : CallOK [101, 110, 100, 115, 119, 105, 116, 104] 2 := call_text2 (X := sc 2) (any_ok (by omega)) rfl rfl rfl fun a b => rfl
theorem call_default : CallOK [100, 101, 102, 97, 117, 108, 116] 2 := by
  refine ⟨[[(sc 0).api, (sc 0).api]], (sc 0).api, [(sc 0).api, (sc 0).api], [], rfl, rfl, rfl, rfl, ?_⟩
  intro e Ts hn hlen hT
  match Ts, hlen with
  | [a, b], _ =>
    obtain ⟨a1, a2⟩ := hT a (by simp)
    obtain ⟨b1, b2⟩ := hT b (by simp)
    simp only [List.map_cons, List.map_nil]
    have e1 : check_call_l1 e [[(sc 0).api, (sc 0).api]] (sc 0).api [a.api, b.api] BIG 0 = some (if a.kind == 1 then (b.api, 0) else (a.api, 0)) := by
      obtain ⟨n, hB⟩ := BIG4
      rw [hB, check_call_l1]
      have hsu := suits2 a1 a2 b1 b2 (w := sc 0) (v := sc 0) (any_ok (by omega)).1 (any_ok (by omega)).1
      have i0 : idx [[(sc 0).api, (sc 0).api]] 0 = some [(sc 0).api, (sc 0).api] := rfl
      rw [i0]
      simp only [bind1_some, hsu, comp_any, hn, ix20, ix21, Ty.api_kind]
      simp
      split <;> rfl
    have e2 : r11_call [100, 101, 102, 97, 117, 108, 116] [a.api, b.api] = some (if a.kind == 1 then (b.api, true) else (a.api, true)) := by
      rw [show r11_call [100, 101, 102, 97, 117, 108, 116] [a.api, b.api] = (if a.api.kind == 1 then some (b.api, true) else some (a.api, true)) from rfl, Ty.api_kind]
      split <;> rfl
    rw [e1, e2]
    cases (a.kind == 1) with
    | true => exact RES.mk b true rfl rfl (fun _ => ⟨b1, b2⟩)
    | false => exact RES.mk a true rfl rfl (fun _ => ⟨a1, a2⟩)
theorem sig_cases (name : Str) : (check_signatures name = some ([], (sc 0).api) ∧ r11_Args name = some (-1)) ∨ ∃ n, CallOK name n := by
  by_cases h1 : name = [108, 101, 110]
  · subst h1; exact .inr ⟨_, call_len⟩
  by_cases h2 : name = [108, 111, 119, 101, 114]
  · subst h2; exact .inr ⟨_, call_lower⟩
  by_cases h3 : name = [117, 112, 112, 101, 114]
  · subst h3; exact .inr ⟨_, call_upper⟩
  by_cases h4 : name = [115, 116, 114, 105, 110, 103]
  · subst h4; exact .inr ⟨_, call_string⟩
  by_cases h5 : name = [105, 110, 116]
  · subst h5; exact .inr ⟨_, call_int⟩
  by_cases h6 : name = [107, 101, 121, 115]
  · subst h6; exact .inr ⟨_, call_keys⟩
  by_cases h7 : name = [99, 111, 110, 116, 97, 105, 110, 115]
  · subst h7; exact .inr ⟨_, call_contains⟩
  by_cases h8 : name = [106, 111, 105, 110]
  · subst h8; exact .inr ⟨_, call_join⟩
  by_cases h9 : name = [115, 112, 108, 105, 116]
  · subst h9; exact .inr ⟨_, call_split⟩
  by_cases h10 : name = [115, 116, 97, 114, 116, 115, 119, 105, 116, 104]
  · subst h10; exact .inr ⟨_, call_starts⟩
  by_cases h11 : name = [101, 110, 100, 115, 119, 105, 116, 104]
  · subst h11; exact .inr ⟨_, call_ends⟩
  by_cases h12 : name = [100, 101, 102, 97, 117, 108, 116]
  · subst h12; exact .inr ⟨_, call_default⟩
  left
  constructor
  · simp [check_signatures, check_of, check_nested, h1, h2, h3, h4, h5, h6, h7, h8, h9, h10, h11, h12, sc, Ty.api]
  · simp [r11_Args, h1, h2, h3, h4, h5, h6, h7, h8, h9, h10, h11, h12]
end Go.Ft

namespace Go.Ft
open Go
attribute [local congr] ite_c1
mutual
def ofT : ApiValue → Ty
  | ⟨k, _, _, _, l, _⟩ => if k = 0 then sc 1 else if k = 1 then sc 2 else if k = 2 then sc 3 else if k = 3 then sc 4 else .nest (if k = 4 then 5 else 6) (ofTL l (sc 7))
def ofTL : List ApiValue → Ty → Ty
  | [], t => t
  | x :: r, t => ofTL r (joinT t (ofT x))
end
theorem ofT_eq (v : ApiValue) : ofT v = if v.kind = 0 then sc 1 else if v.kind = 1 then sc 2 else if v.kind = 2 then sc 3 else if v.kind = 3 then sc 4 else .nest (if v.kind = 4 then 5 else 6) (ofTL v.list_ (sc 7)) := by cases v; rw [ofT]
theorem vnode_zero {v : ApiValue} {level : Nat} (h : vnode v level = 0) : level ≤ 16 ∧ 0 ≤ v.kind ∧ v.kind ≤ 5 ∧ (v.kind = 4 ∨ v.kind = 5 → v.list_ = [] → level ≠ 16) := by
  unfold vnode at h
  by_cases h0 : 16 < level
  · simp [h0] at h
  · rw [if_neg h0] at h
    cases h1 : (decide (v.kind < 0) || decide (5 < v.kind) || !vplain v) with
    | true => rw [h1] at h; simp at h
    | false =>
      rw [h1] at h
      simp only [Bool.or_eq_false_iff, decide_eq_false_iff_not] at h1
      refine ⟨by omega, by omega, by omega, fun hk hl h16 => ?_⟩
      have e1 : ((((v.kind == 4) || (v.kind == 5)) && ((v.list_.length : Int) == 0)) && (level == 16)) = true := by
        rw [hl, h16]; rcases hk with hk | hk <;> simp [hk]
      rw [e1] at h
      simp only [Bool.false_eq_true, if_false, if_true] at h
      split at h
      · omega
      · split at h
        · omega
        · split at h <;> omega
theorem vchkL_mem : ∀ {l : List ApiValue} {level : Nat}, vchkL l level = 0 → ∀ x ∈ l, vchk x level = 0
  | [], _, _, x, hx => by cases hx
  | y :: r, level, h, x, hx => by
    rw [vchkL] at h
    by_cases hy : vchk y level = 0
    · rw [if_neg (by simpa using hy)] at h
      rcases List.mem_cons.1 hx with rfl | hx
      · exact hy
      · exact vchkL_mem h x hx
    · rw [if_pos (by simpa using hy)] at h; exact absurd h hy
theorem vchk_zero {v : ApiValue} {level : Nat} (h : vchk v level = 0) : vnode v level = 0 ∧ ∀ x ∈ v.list_, vchk x (level + 1) = 0 := by
  rw [vchk_eq] at h
  by_cases hn : vnode v level = 0
  · rw [if_neg (by simpa using hn)] at h
    exact ⟨hn, vchkL_mem h⟩
  · rw [if_pos (by simpa using hn)] at h; exact absurd h hn
theorem ofL {go : ApiValue → Option ApiType} {join : ApiType → ApiType → Option ApiType} {K : ApiType → Option ApiType} {lv : Nat} (hlv : lv ≤ 16) (hj : ∀ a b : Ty, a.wf → b.wf → a.dep ≤ 1000 → b.dep ≤ 1000 → join a.api b.api = some (joinT a b).api) :
    ∀ (l : List ApiValue) (t : Ty) (i : Nat), t.wf → t.dep + lv ≤ 17 → (∀ x ∈ l, go x = some (ofT x).api ∧ (ofT x).wf ∧ (ofT x).dep + lv ≤ 17) →
    scanS (fun _ e1 (elem1 : ApiType) r => bind1 (go e1) fun x7 => bind1 (join elem1 x7) fun x8 => r x8) K i l t.api = K (ofTL l t).api ∧ (ofTL l t).wf ∧ (ofTL l t).dep + lv ≤ 17
  | [], t, i, h, hd, _ => ⟨rfl, h, hd⟩
  | x :: r, t, i, h, hd, hl => by
    obtain ⟨x1, x2, x3⟩ := hl x (by simp)
    have jd := joinT_dep t (ofT x)
    rw [scanS, x1, ofTL]
    simp only [bind1_some, hj t (ofT x) h x2 (by omega) (by omega)]
    exact ofL hlv hj r (joinT t (ofT x)) (i + 1) (joinT_wf _ _ h x2) (by omega) fun y hy => hl y (by simp [hy])
theorem of_n : ∀ (n : Nat) (v : ApiValue) (level : Nat), v.bulk ≤ n → v.bulk < 4611686018427387904 → vchk v level = 0 →
    typing_find_n (n + 1) v = some (ofT v).api ∧ r08_of_n (n + 1) v = some (ofT v).api ∧ (ofT v).wf ∧ (ofT v).dep + level ≤ 17
  | 0, v, _, h, _, _ => by have := v.bulk_pos; omega
  | n + 1, v, level, h, hB, hc => by
    obtain ⟨h0, hm⟩ := vchk_zero hc
    obtain ⟨z1, z2, z3, z4⟩ := vnode_zero h0
    have hl := vlist_len v
    rw [typing_find_n, typing_find_b, r08_of_n, r08_of_b, ofT_eq]
    by_cases k0 : v.kind = 0
    · simp only [k0]; exact ⟨rfl, rfl, (any_ok (by omega)).1, by simp [sc, Ty.dep]; omega⟩
    by_cases k1 : v.kind = 1
    · simp only [k1]; exact ⟨rfl, rfl, (any_ok (by omega)).1, by simp [sc, Ty.dep]; omega⟩
    by_cases k2 : v.kind = 2
    · simp only [k2]; exact ⟨rfl, rfl, (any_ok (by omega)).1, by simp [sc, Ty.dep]; omega⟩
    by_cases k3 : v.kind = 3
    · simp only [k3]; exact ⟨rfl, rfl, (any_ok (by omega)).1, by simp [sc, Ty.dep]; omega⟩
    have k45 : v.kind = 4 ∨ v.kind = 5 := by omega
    have hlv : level ≤ 15 := by
      by_cases hnil : v.list_ = []
      · have := z4 k45 hnil; omega
      · obtain ⟨x, hx⟩ := List.exists_mem_of_ne_nil _ hnil
        have := (vnode_zero (vchk_zero (hm x hx)).1).1
        omega
    have e0 : (v.kind == 0) = false := by simpa using k0
    have e1 : (v.kind == 1) = false := by simpa using k1
    have e2 : (v.kind == 2) = false := by simpa using k2
    have e3 : (v.kind == 3) = false := by simpa using k3
    simp only [e0, e1, e2, e3, Bool.false_eq_true, if_false, k0, k1, k2, k3, bind1_some]
    have w7 : (sc 7).wf ∧ (sc 7).dep + (level + 1) ≤ 17 := ⟨(any_ok (by omega)).1, by simp [sc, Ty.dep]; omega⟩
    have ih := fun x (hx : x ∈ v.list_) => of_n n x (level + 1) (by have := vlist_mem hx; omega) (by have := vlist_mem hx; omega) (hm x hx)
    have s1 := scanS_big (F := fun k s i => typing_find_l1 (typing_find_n (n + 1)) v k i s) (l := v.list_) (body := fun _ e1 (elem1 : ApiType) r => bind1 (typing_find_n (n + 1) e1) fun x7 => bind1 (typing_join elem1 x7) fun x8 => r x8)
      (fin := fun elem1 => if v.kind == 4 then typing_of 5 elem1 else typing_of 6 elem1) (by omega) (fun k s i => rfl) (sc 7).api
    have s2 := scanS_big (F := fun k s i => r08_of_l1 (r08_of_n (n + 1)) v k i s) (l := v.list_) (body := fun _ e1 (elem1 : ApiType) r => bind1 (r08_of_n (n + 1) e1) fun x7 => bind1 (r08_join elem1 x7) fun x8 => r x8)
      (fin := fun t1 => if v.kind == 5 then r08_With 6 t1 else r08_With 5 t1) (by omega) (fun k s i => rfl) (sc 7).api
    obtain ⟨a1, a2, a3⟩ := ofL (lv := level + 1) (K := fun elem1 => if v.kind == 4 then typing_of 5 elem1 else typing_of 6 elem1) (by omega) (fun a b x y z w => (join_eq x y z w).1) v.list_ (sc 7) 0 w7.1 w7.2 (fun x hx => ⟨(ih x hx).1, (ih x hx).2.2⟩)
    obtain ⟨b1, _, _⟩ := ofL (lv := level + 1) (K := fun t1 => if v.kind == 5 then r08_With 6 t1 else r08_With 5 t1) (by omega) (fun a b x y z w => (join_eq x y z w).2) v.list_ (sc 7) 0 w7.1 w7.2 (fun x hx => ⟨(ih x hx).2.1, (ih x hx).2.2⟩)
    have t7 : typing_scalar 7 = some (sc 7).api := rfl
    have p7 : r08_Plain 7 = some (sc 7).api := rfl
    rw [t7, p7]
    simp only [bind1_some]
    rw [s1, a1, s2, b1]
    refine ⟨?_, ?_, ⟨?_, a2⟩, by simp only [Ty.dep]; omega⟩
    · rcases k45 with k | k <;> simp [k, typing_of, Ty.api]
    · rcases k45 with k | k <;> simp [k, r08_With, Ty.api]
    · split
      · exact .inl rfl
      · exact .inr rfl
theorem Of_eq {v : ApiValue} (h : v.bulk < 4611686018427387904) (hc : vchk v 1 = 0) : typing_Of v = some (ofT v).api ∧ r08_Of v = some (ofT v).api ∧ (ofT v).wf ∧ (ofT v).dep ≤ 16 := by
  obtain ⟨n, hn, hn2⟩ := BIG_succ
  obtain ⟨a1, a2, a3, a4⟩ := of_n n v 1 (by omega) h hc
  unfold typing_Of r08_Of typing_find r08_of
  rw [vvalid_eq h, valid7 h, hc, hn, a1, a2]
  exact ⟨rfl, rfl, a3, by omega⟩
theorem pv_name {s : Str} (h : s.length < 4611686018427387000) : parser_Valid (ApiExpr.mk 2 s (ApiValue.mk 0 false 0 ([] : Str) [] []) [] []) = some (if isPlain s then 0 else 1) := by
  have hb : (ApiExpr.mk 2 s (ApiValue.mk 0 false 0 ([] : Str) [] []) [] []).bulk < 4611686018427387904 := by
    simp only [ApiExpr.bulk, ApiValue.bulk, ApiValue.bulkL, ApiExpr.bulkL, List.map_nil, List.sum_nil, List.length_nil]; omega
  rw [(xval_eq hb).1]
  have e1 : ecnt (ApiExpr.mk 2 s (ApiValue.mk 0 false 0 ([] : Str) [] []) [] []) = 1 := by rw [ecnt_eq]; rfl
  unfold xval
  rw [e1, xchk_eq]
  have e2 : eformed (ApiExpr.mk 2 s (ApiValue.mk 0 false 0 ([] : Str) [] []) [] []) = isPlain s := by
    have : vzero (ApiValue.mk 0 false 0 ([] : Str) [] []) = true := rfl
    simp [eformed, kindOK, this, enamed, earity, ekeyed]
  have e3 : xnode (ApiExpr.mk 2 s (ApiValue.mk 0 false 0 ([] : Str) [] []) [] []) 1 = if isPlain s then 0 else 1 := by
    unfold xnode
    rw [e2]
    cases isPlain s <;> simp [dupF]
  rw [e3]
  cases isPlain s <;> simp [xchkL]
def envF : List Str → List ApiDecl → Int
  | _, [] => 0
  | seen, d :: r => if !isPlain d.name then 1 else if tval d.type_ != 0 then tval d.type_ else if seen.contains d.name then 7 else envF (seen ++ [d.name]) r
def Wenv (env : List ApiDecl) : Prop := ∀ d ∈ env, ∃ T : Ty, T.wf ∧ T.dep ≤ 16 ∧ d.type_ = T.api
theorem envF_W : ∀ (r : List ApiDecl) (seen : List Str), envF seen r = 0 → Wenv r
  | [], _, _, d, hd => by cases hd
  | x :: r, seen, h, d, hd => by
    rw [envF] at h
    cases h1 : isPlain x.name with
    | false => rw [h1] at h; simp at h
    | true =>
      rw [h1] at h
      simp only [Bool.not_true, Bool.false_eq_true, if_false] at h
      by_cases h2 : tval x.type_ = 0
      · rw [if_neg (by simpa using h2)] at h
        obtain ⟨T, t1, t2, t3⟩ := (tval_eq x.type_).2.2 h2
        split at h
        · simp at h
        · rcases List.mem_cons.1 hd with rfl | hd
          · exact ⟨T, t1, t3, t2⟩
          · exact envF_W r _ h d hd
      · rw [if_pos (by simpa using h2)] at h; exact absurd h h2
theorem envC : ∀ (r : List ApiDecl) (i : Nat) (y : List (Str × Int)) (seen : List Str), (∀ d ∈ r, d.name.length < 4611686018427387000) → (∀ s, mget y s = if s ∈ seen then 1 else 0) →
    scanS (fun _ e1 (y1 : List (Str × Int)) r => bind1 (parser_Valid (ApiExpr.mk 2 e1.name (ApiValue.mk 0 false 0 ([] : Str) [] []) [] [])) fun x2 => if x2 != 0 then some 1 else bind1 (typing_Valid e1.type_) fun e2 => if e2 != 0 then some e2 else
      if decide (1 < (mget (mset y1 e1.name (w64 ((mget y1 e1.name) + 1))) e1.name)) then some 7 else r (mset y1 e1.name (w64 ((mget y1 e1.name) + 1)))) (fun _ => some 0) i r y = some (envF seen r)
  | [], _, _, _, _, _ => rfl
  | d :: r, i, y, seen, hd, hy => by
    rw [scanS, envF, pv_name (hd d (by simp)), (tval_eq d.type_).1, mget_mset, if_pos rfl, hy d.name]
    cases h1 : isPlain d.name with
    | false => simp
    | true =>
      simp only [if_true, bind1_some, Bool.not_true, Bool.false_eq_true, if_false, bne_self_eq_false]
      by_cases h2 : tval d.type_ = 0
      · simp only [h2, bne_self_eq_false, Bool.false_eq_true, if_false]
        by_cases hc : d.name ∈ seen
        · have : w64 2 = 2 := by decide
          simp [hc, this]
        · have : w64 ((0 : Int) + 1) = 1 := by decide
          simp only [hc, if_false, this]
          have e : seen.contains d.name = false := by simpa using hc
          rw [e]
          simp only [Int.lt_irrefl, decide_false, Bool.false_eq_true, if_false]
          refine envC r (i + 1) _ (seen ++ [d.name]) (fun z hz => hd z (by simp [hz])) fun s => ?_
          rw [mget_mset, hy s]
          by_cases h1 : s = d.name
          · subst h1; simp
          · simp [h1]
      · simp [h2]
theorem env_in (l : List ApiDecl) (i : Nat) (hi : i < l.length) (hl : l.length < 4611686018427387904) (go : Int → Option Int) : ∀ (k j : Nat), i < k + j → j ≤ i →
    r11_Env_l2 l (i : Int) go k (j : Int) = if (((l.take i).drop j).map (·.name)).contains l[i].name then some 7 else go ((i + 1 : Nat) : Int)
  | 0, j, h, h' => by omega
  | k + 1, j, h, h' => by
    rw [r11_Env_l2]
    by_cases hj : j < i
    · have hlt : j < (l.take i).length := by simp; omega
      rw [if_pos (by simpa using hj), idxn hi, idxn (by omega), List.drop_eq_getElem_cons hlt]
      simp only [bind1_some, List.map_cons, List.contains_cons, List.getElem_take]
      by_cases h1 : l[j].name = l[i].name
      · simp [h1]
      · have e1 : (l[j].name == l[i].name) = false := by simpa using h1
        have e2 : (l[i].name == l[j].name) = false := by simpa using fun hh => h1 hh.symm
        simp only [e1, e2, Bool.false_eq_true, if_false, Bool.false_or]
        rw [w64s (by omega)]
        exact env_in l i hi hl go k (j + 1) (by omega) (by omega)
    · have : j = i := by omega
      subst this
      rw [if_neg (by simp), w64s (by omega)]
      have : (List.take j l).drop j = [] := List.drop_eq_nil_of_le (by simp; omega)
      rw [this]
      simp
theorem envR (l : List ApiDecl) (hl : l.length < 4611686018427387904) (hd : ∀ d ∈ l, d.name.length < 4611686018427387000) : ∀ (k i : Nat), l.length < k + i → i ≤ l.length → r11_Env_l1 l k (i : Int) = some (envF ((l.take i).map (·.name)) (l.drop i))
  | 0, i, h, h' => by omega
  | k + 1, i, h, h' => by
    rw [r11_Env_l1]
    by_cases hi : i < l.length
    · have hn := hd l[i] (List.getElem_mem hi)
      rw [if_pos (by simpa using hi), List.drop_eq_getElem_cons hi, envF, idxn hi]
      have := env_in l i hi hl (r11_Env_l1 l k) BIG 0 (by have := BIG_lt; omega) (by omega)
      rw [show (0 : Int) = ((0 : Nat) : Int) from rfl, this, List.drop_zero, envR l hl hd k (i + 1) (by omega) (by omega)]
      simp only [bind1_some, (plain_eq l[i].name (by omega)).2, (tval_eq _).2.1]
      have e : List.take (i + 1) l = List.take i l ++ [l[i]] := by rw [List.take_add_one, List.getElem?_eq_getElem hi]; rfl
      rw [e, List.map_append]
      cases isPlain l[i].name with
      | false => simp
      | true =>
        simp only [Bool.not_true, Bool.false_eq_true, if_false]
        by_cases h2 : tval l[i].type_ = 0
        · simp only [h2, Int.natCast_zero, bne_self_eq_false, Bool.false_eq_true, if_false]
          split <;> rfl
        · simp [h2]
    · have : i = l.length := by omega
      subst this
      simp [envF]
def envV (env : List ApiDecl) : Int := if 1024 < env.length then 3 else envF [] env
theorem env_eq {env : List ApiDecl} (hl : env.length < 4611686018427387904) (hd : ∀ d ∈ env, d.name.length < 4611686018427387000) : check_Env env = some (envV env) ∧ r11_Env env = some (envV env) ∧ (envV env = 0 → Wenv env) := by
  unfold check_Env r11_Env envV
  have e : decide ((1024 : Int) < (env.length : Int)) = decide (1024 < env.length) := by congr 1; simp; omega
  rw [e]
  by_cases h : 1024 < env.length
  · simp [h]
  · simp only [h, decide_false, Bool.false_eq_true, if_false]
    have s1 := scanS_big (F := fun k s i => check_Env_l1 env k i s) (l := env) (body := fun _ e1 (y1 : List (Str × Int)) r => bind1 (parser_Valid (ApiExpr.mk 2 e1.name (ApiValue.mk 0 false 0 ([] : Str) [] []) [] [])) fun x2 => if x2 != 0 then some 1 else bind1 (typing_Valid e1.type_) fun e2 => if e2 != 0 then some e2 else
      if decide (1 < (mget (mset y1 e1.name (w64 ((mget y1 e1.name) + 1))) e1.name)) then some 7 else r (mset y1 e1.name (w64 ((mget y1 e1.name) + 1)))) (fin := fun _ => some 0) hl (fun k s i => rfl) []
    have s2 := envR env hl hd BIG 0 (by have := BIG_lt; omega) (by omega)
    refine ⟨?_, by simpa using s2, envF_W env []⟩
    rw [s1]
    exact envC env 0 [] [] hd (fun s => by simp [mget])
end Go.Ft

namespace Go.Ft
open Go
attribute [local congr] ite_c1
theorem xchkL_mem : ∀ {l : List ApiExpr} {level : Nat}, xchkL l level = 0 → ∀ x ∈ l, xchk x level = 0
  | [], _, _, x, hx => by cases hx
  | y :: r, level, h, x, hx => by
    rw [xchkL] at h
    by_cases hy : xchk y level = 0
    · rw [if_neg (by simpa using hy)] at h
      rcases List.mem_cons.1 hx with rfl | hx
      · exact hy
      · exact xchkL_mem h x hx
    · rw [if_pos (by simpa using hy)] at h; exact absurd h hy
theorem xnode_zero {e : ApiExpr} {level : Nat} (h : xnode e level = 0) : eformed e = true ∧ (e.kind = 1 → vchk e.value 1 = 0) ∧ e.args.length ≤ 1024 := by
  unfold xnode at h
  split at h
  · omega
  · cases h1 : eformed e with
    | false => rw [h1] at h; simp at h
    | true =>
      rw [h1] at h
      simp only [Bool.not_true, Bool.false_eq_true, if_false] at h
      by_cases h2 : (e.kind == 1 && (vchk e.value 1 != 0)) = true
      · rw [if_pos h2] at h
        simp [h] at h2
      · rw [if_neg h2] at h
        refine ⟨rfl, fun hk => ?_, ?_⟩
        · simp only [Bool.and_eq_true, beq_iff_eq, bne_iff_ne, not_and] at h2
          have := h2 hk
          simpa using this
        · split at h
          · omega
          · rename_i h3; simp only [decide_eq_true_eq] at h3; omega
theorem xchk_zero {e : ApiExpr} {level : Nat} (h : xchk e level = 0) : xnode e level = 0 ∧ ∀ x ∈ e.args, xchk x (level + 1) = 0 := by
  rw [xchk_eq] at h
  by_cases hn : xnode e level = 0
  · rw [if_neg (by simpa using hn)] at h
    exact ⟨hn, xchkL_mem h⟩
  · rw [if_pos (by simpa using hn)] at h; exact absurd h hn
def bodyC (go : ApiExpr → Option (ApiType × Int)) : Nat → ApiExpr → List ApiType → (List ApiType → Option (List ApiType × Int)) → Option (List ApiType × Int) :=
  fun _ e1 out1 r => bind2 (go e1) fun x2 f1 => if f1 != 0 then some ([], f1) else bind1 (app out1 [x2]) fun out2 => r out2
def bodyR (go : ApiExpr → Option (ApiType × Int)) : Nat → ApiExpr → List ApiType → (List ApiType → Option (ApiType × Int)) → Option (ApiType × Int) :=
  fun _ e1 out1 r => bind2 (go e1) fun x5 f1 => if f1 != 0 then some (ZT, f1) else bind1 (app out1 [x5]) fun l2 => r l2
theorem argsL {goC goR : ApiExpr → Option (ApiType × Int)} {K : List ApiType → Option (ApiType × Int)} : ∀ (l : List ApiExpr) (out : List Ty) (i : Nat), (∀ x ∈ l, RES (goC x) (goR x)) → out.length + l.length ≤ 4000 →
    (∃ c, c ≠ 0 ∧ scanS (bodyC goC) (fun o => some (o, 0)) i l (out.map Ty.api) = some ([], c) ∧ scanS (bodyR goR) K i l (out.map Ty.api) = some (ZT, c)) ∨
    (∃ Ts : List Ty, Ts.length = l.length ∧ (∀ t ∈ Ts, t.wf ∧ t.dep ≤ 16) ∧ scanS (bodyC goC) (fun o => some (o, 0)) i l (out.map Ty.api) = some ((out ++ Ts).map Ty.api, 0) ∧ scanS (bodyR goR) K i l (out.map Ty.api) = K ((out ++ Ts).map Ty.api))
  | [], out, i, _, _ => .inr ⟨[], rfl, fun t ht => (by cases ht), by simp [scanS], by simp [scanS]⟩
  | x :: r, out, i, h, hn => by
    simp only [List.length_cons] at hn
    obtain ⟨T, c, w, d, z, e1, e2⟩ := h x (by simp)
    rw [scanS, scanS, bodyC, bodyR]
    simp only [e1, e2, bind2_some]
    by_cases hc : c = 0
    · subst hc
      have ha : app (out.map Ty.api) [T.api] = some ((out ++ [T]).map Ty.api) := by
        rw [app_ok (by simp [LIM]; omega)]; simp
      simp only [bne_self_eq_false, Bool.false_eq_true, if_false, ha, bind1_some]
      rcases argsL (K := K) r (out ++ [T]) (i + 1) (fun y hy => h y (by simp [hy])) (by simp; omega) with ⟨c, c1, c2, c3⟩ | ⟨Ts, c1, c2, c3, c4⟩
      · exact .inl ⟨c, c1, c2, c3⟩
      · refine .inr ⟨T :: Ts, by simp [c1], ?_, ?_, ?_⟩
        · intro t ht
          rcases List.mem_cons.1 ht with rfl | ht
          · exact ⟨w, d⟩
          · exact c2 t ht
        · have := c3; rw [List.append_assoc] at this; exact this
        · have := c4; rw [List.append_assoc] at this; exact this
    · exact .inl ⟨c, hc, by simp [hc], by simp [hc]⟩
theorem declared_res {env : List ApiDecl} (hW : Wenv env) (hl : env.length < 4611686018427387904) (e : ApiExpr) (he : e.kind = 2) : RES (check_declared env e.name) (r11_leaf e env) := by
  unfold check_declared r11_leaf
  have h1 : (e.kind == 1) = false := by simp [he]
  rw [h1]
  simp only [Bool.false_eq_true, if_false]
  have s1 := scanS_big (F := fun k (_ : Unit) i => check_declared_l1 env e.name k i) (l := env) (body := fun _ e1 _ r => if e1.name == e.name then some (e1.type_, 0) else r ()) (fin := fun _ => some (ZT, 10)) hl (fun k s i => rfl) ()
  have s2 := scanS_big (F := fun k (_ : Unit) i => r11_leaf_l1 e env k i) (l := env) (body := fun (i : Nat) e1 _ r => if e1.name == e.name then bind1 (idx env (i : Int)) fun e3 => some (e3.type_, 0) else r ()) (fin := fun _ => some (ZT, 10)) hl (fun k s i => rfl) ()
  rw [s1, s2]
  have key : ∀ (t : List ApiDecl) (i : Nat), t = env.drop i → RES (scanS (fun _ e1 (_ : Unit) r => if e1.name == e.name then some (e1.type_, 0) else r ()) (fun _ => some (ZT, 10)) i t ())
      (scanS (fun (i : Nat) e1 (_ : Unit) r => if e1.name == e.name then bind1 (idx env (i : Int)) fun e3 => some (e3.type_, 0) else r ()) (fun _ => some (ZT, 10)) i t ()) := by
    intro t
    induction t with
    | nil => intro i _; exact ⟨sc 0, 10, (any_ok (by omega)).1, (any_ok (by omega)).2, fun _ => rfl, rfl, rfl⟩
    | cons d t ih =>
      intro i ht
      have hi : i < env.length := by
        rcases Nat.lt_or_ge i env.length with h | h
        · exact h
        · rw [List.drop_eq_nil_of_le h] at ht; cases ht
      have hc := List.drop_eq_getElem_cons hi
      rw [← ht] at hc
      have e1 : d = env[i] := (List.cons.inj hc).1
      have e2 := (List.cons.inj hc).2
      rw [scanS, scanS, idxn hi, ← e1]
      simp only [bind1_some]
      cases (d.name == e.name) with
      | true =>
        simp only [if_true]
        obtain ⟨T, t1, t2, t3⟩ := hW d (by rw [e1]; exact List.getElem_mem hi)
        exact ⟨T, 0, t1, t2, fun h => absurd rfl h, by rw [t3], by rw [t3]⟩
      | false =>
        simp only [Bool.false_eq_true, if_false]
        exact ih (i + 1) e2
  exact key env 0 rfl
theorem formed_parts {e : ApiExpr} (h : eformed e = true) : kindOK e = true ∧ enamed e = true ∧ earity e = true := by
  unfold eformed at h
  simp only [Bool.and_eq_true] at h
  exact ⟨h.1.1.1.1, h.1.1.2, h.1.2⟩
theorem len1 {α : Type} {l : List α} (h : l.length = 1) : ∃ a, l = [a] := by
  match l, h with
  | [a], _ => exact ⟨a, rfl⟩
theorem len2 {α : Type} {l : List α} (h : l.length = 2) : ∃ a b, l = [a, b] := by
  match l, h with
  | [a, b], _ => exact ⟨a, b, rfl⟩
theorem len3 {α : Type} {l : List α} (h : l.length = 3) : ∃ a b c, l = [a, b, c] := by
  match l, h with
  | [a, b, c], _ => exact ⟨a, b, c, rfl⟩
theorem find_res {env : List ApiDecl} (hW : Wenv env) (hl : env.length < 4611686018427387904) : ∀ (b : Nat) (e : ApiExpr) (level k m : Nat), e.bulk ≤ b → e.bulk < 4611686018427387904 → xchk e level = 0 → 3 * b + 3 ≤ k → b + 1 ≤ m →
    RES (check_find_n k e env) (r11_expr_n m e env)
  | 0, e, _, _, _, h, _, _, _, _ => by have := e.bulk_pos; omega
  | b + 1, e, level, k, m, h, hB, hx, hk, hm => by
    obtain ⟨x1, x2⟩ := xchk_zero hx
    obtain ⟨f1, f2, f3⟩ := xnode_zero x1
    obtain ⟨p1, p2, p3⟩ := formed_parts f1
    have hal := eargs_len e
    obtain ⟨k1, rfl⟩ : ∃ k1, k = k1 + 3 := ⟨k - 3, by omega⟩
    obtain ⟨m1, rfl⟩ : ∃ m1, m = m1 + 1 := ⟨m - 1, by omega⟩
    have args : ∀ k2 : Nat, 3 * b + 3 ≤ k2 → (∃ c, c ≠ 0 ∧ check_all_l1 (check_find_n k2) e.args env BIG [] 0 = some ([], c) ∧ r11_expr_l1 (r11_expr_n m1) e env BIG [] 0 = some (ZT, c)) ∨
        (∃ Ts : List Ty, Ts.length = e.args.length ∧ (∀ t ∈ Ts, t.wf ∧ t.dep ≤ 16) ∧ check_all_l1 (check_find_n k2) e.args env BIG [] 0 = some (Ts.map Ty.api, 0) ∧ r11_expr_l1 (r11_expr_n m1) e env BIG [] 0 = finR (r11_node e (Ts.map Ty.api))) := by
      intro k2 hk2
      have s1 := scanS_big (F := fun k s i => check_all_l1 (check_find_n k2) e.args env k s i) (l := e.args) (body := bodyC fun x => check_find_n k2 x env) (fin := fun o => some (o, 0)) (by omega) (fun k s i => rfl) []
      have s2 := scanS_big (F := fun k s i => r11_expr_l1 (r11_expr_n m1) e env k s i) (l := e.args) (body := bodyR fun x => r11_expr_n m1 x env) (fin := fun l1 => finR (r11_node e l1)) (by omega) (fun k s i => rfl) []
      rw [s1, s2]
      have := argsL (K := fun l1 => finR (r11_node e l1)) (goC := fun x => check_find_n k2 x env) (goR := fun x => r11_expr_n m1 x env) e.args [] 0 (fun x hx => find_res hW hl b x (level + 1) k2 m1 (by have := eargs_mem hx; omega) (by have := eargs_mem hx; omega) (x2 x hx) hk2 (by omega)) (by simp; omega)
      simpa using this
    have err : ∀ c : Int, RES (some (ZT, c)) (some (ZT, c)) := fun c => ⟨sc 0, c, (any_ok (by omega)).1, (any_ok (by omega)).2, fun _ => rfl, rfl, rfl⟩
    rw [check_find_n, check_find_b, r11_expr_n, r11_expr_b]
    unfold kindOK at p1
    simp only [Bool.not_eq_true', Bool.or_eq_false_iff, decide_eq_false_iff_not] at p1
    have hkind : e.kind = 1 ∨ e.kind = 2 ∨ e.kind = 3 ∨ e.kind = 4 ∨ e.kind = 5 ∨ e.kind = 6 ∨ e.kind = 7 ∨ e.kind = 8 ∨ e.kind = 9 ∨ e.kind = 10 := by omega
    have alln : check_all_n (k1 + 2) e.args env = check_all_l1 (check_find_n (k1 + 1)) e.args env BIG [] 0 := rfl
    rcases hkind with hk' | hk' | hk' | hk' | hk' | hk' | hk' | hk' | hk' | hk'
    · 
      have hz : e.args = [] := by unfold earity at p3; simp [hk'] at p3; exact p3
      have h1 : check_all_n (k1 + 2) e.args env = some ([], 0) := by
        rw [alln, hz]; rfl
      obtain ⟨o1, o2, o3, o4⟩ := Of_eq (v := e.value) (by have := evalue_bulk e; omega) (f2 hk')
      rw [h1]
      unfold r11_leaf
      simp only [hk', bind2_some, o1, o2]
      exact ⟨ofT e.value, 0, o3, o4, fun h => absurd rfl h, rfl, rfl⟩
    · 
      have hz : e.args = [] := by unfold earity at p3; simp [hk'] at p3; exact p3
      have h1 : check_all_n (k1 + 2) e.args env = some ([], 0) := by
        rw [alln, hz]; rfl
      have := declared_res hW hl e hk'
      rw [h1]
      simpa [hk'] using this
    · have hlen : e.args.length = 1 := by unfold earity at p3; simp [hk'] at p3; omega
      rw [alln]
      rcases args (k1 + 1) (by omega) with ⟨c, c1, c2, c3⟩ | ⟨Ts, c1, c2, c3, c4⟩
      · rw [c2]; simp only [hk']; simpa [c1, c3, ZT] using err c
      · rw [c3]
        obtain ⟨t, rfl⟩ := len1 (c1.trans hlen)
        obtain ⟨w, d⟩ := c2 t (by simp)
        have := member_res w d hk' []
        simp only [hk']
        simpa [c4, idx] using this
    · have hlen : e.args.length = 2 := by unfold earity at p3; simp [hk'] at p3; omega
      rw [alln]
      rcases args (k1 + 1) (by omega) with ⟨c, c1, c2, c3⟩ | ⟨Ts, c1, c2, c3, c4⟩
      · rw [c2]; simp only [hk']; simpa [c1, c3, ZT] using err c
      · rw [c3]
        obtain ⟨t, u, rfl⟩ := len2 (c1.trans hlen)
        obtain ⟨w, d⟩ := c2 t (by simp)
        obtain ⟨w', d'⟩ := c2 u (by simp)
        have := index_res w d w' d' hk' []
        simp only [hk']
        simpa [c4, idx] using this
    · 
      have hc5 : check_call_n (k1 + 2) e env = check_call_b (check_find_n (k1 + 1)) (check_call_n (k1 + 1)) (check_all_n (k1 + 1)) e env := rfl
      have alln' : check_all_n (k1 + 1) e.args env = check_all_l1 (check_find_n k1) e.args env BIG [] 0 := rfl
      simp only [hk']
      rw [hc5, check_call_b]
      rcases sig_cases e.name with ⟨s1, s2⟩ | ⟨n, alts, x, w, r, s1, s2, s3, s4, s5⟩
      · rw [s1, s2]
        simpa [ZT] using err 10
      · rw [s1, s4]
        subst s2
        have hi : idx (w :: r) 0 = some w := rfl
        have hne : ((((w :: r).length : Nat) : Int) == 0) = false := by simp; omega
        have hn0 : decide (((n : Nat) : Int) < 0) = false := by simp
        simp only [bind2_some, hne, Bool.false_eq_true, if_false, hi, bind1_some, s3, hn0]
        by_cases hlen : e.args.length = n
        · have e1 : ((e.args.length : Int) != (n : Int)) = false := by simp [hlen]
          have e2 : ((n : Int) != (e.args.length : Int)) = false := by simp [hlen]
          rw [alln']
          rcases args k1 (by omega) with ⟨c, c1, c2, c3⟩ | ⟨Ts, c1, c2, c3, c4⟩
          · rw [c2]; simpa [e1, e2, c1, c3, ZT] using err c
          · have := s5 e Ts rfl (by omega) c2
            have hnode : r11_node e (Ts.map Ty.api) = r11_call e.name (Ts.map Ty.api) := by unfold r11_node; simp [hk']
            rw [c3]
            rw [hnode] at c4
            simpa [e1, e2, c4] using this
        · have e1 : ((e.args.length : Int) != (n : Int)) = true := by simp; omega
          have e2 : ((n : Int) != (e.args.length : Int)) = true := by simp; omega
          simpa [e1, e2, ZT] using err 1
    · have hlen : e.args.length = 1 := by unfold earity at p3; simp [hk'] at p3; omega
      rw [alln]
      rcases args (k1 + 1) (by omega) with ⟨c, c1, c2, c3⟩ | ⟨Ts, c1, c2, c3, c4⟩
      · rw [c2]; simp only [hk']; simpa [c1, c3, ZT] using err c
      · rw [c3]
        obtain ⟨t, rfl⟩ := len1 (c1.trans hlen)
        obtain ⟨w, d⟩ := c2 t (by simp)
        have := unary_res w d hk' []
        simp only [hk']
        simpa [c4, idx] using this
    · have hlen : e.args.length = 2 := by unfold earity at p3; simp [hk'] at p3; omega
      have hop : e.name ∈ opsL := by
        unfold enamed at p2
        simp [hk'] at p2
        exact strong_mem p2
      rw [alln]
      rcases args (k1 + 1) (by omega) with ⟨c, c1, c2, c3⟩ | ⟨Ts, c1, c2, c3, c4⟩
      · rw [c2]; simp only [hk']; simpa [c1, c3, ZT] using err c
      · rw [c3]
        obtain ⟨t, u, rfl⟩ := len2 (c1.trans hlen)
        obtain ⟨w, d⟩ := c2 t (by simp)
        obtain ⟨w', d'⟩ := c2 u (by simp)
        have := binary_res w d w' d' hop
        have hnode : r11_node e [t.api, u.api] = r11_binary e.name t.api u.api := by unfold r11_node; simp [hk', idx]
        simp only [List.map_cons, List.map_nil] at c4
        rw [hnode] at c4
        simp only [hk']
        simpa [c4, idx] using this
    · have hlen : e.args.length = 3 := by unfold earity at p3; simp [hk'] at p3; omega
      rw [alln]
      rcases args (k1 + 1) (by omega) with ⟨c, c1, c2, c3⟩ | ⟨Ts, c1, c2, c3, c4⟩
      · rw [c2]; simp only [hk']; simpa [c1, c3, ZT] using err c
      · rw [c3]
        obtain ⟨t, u, v, rfl⟩ := len3 (c1.trans hlen)
        obtain ⟨w, d⟩ := c2 t (by simp)
        obtain ⟨w', d'⟩ := c2 u (by simp)
        obtain ⟨w'', d''⟩ := c2 v (by simp)
        have := cond_res w d w' d' w'' d'' hk' []
        simp only [hk']
        simpa [c4, idx] using this
    · rw [alln]
      rcases args (k1 + 1) (by omega) with ⟨c, c1, c2, c3⟩ | ⟨Ts, c1, c2, c3, c4⟩
      · rw [c2]; simp only [hk']; simpa [c1, c3, ZT] using err c
      · rw [c3]
        have hn := node_list c2 (by omega) (e := e) (.inl hk')
        have := gathered_res c2 (by omega) (k := 5) (.inl rfl) (by simpa [hk'] using hn)
        simp only [hk']
        simpa [c4] using this
    · rw [alln]
      rcases args (k1 + 1) (by omega) with ⟨c, c1, c2, c3⟩ | ⟨Ts, c1, c2, c3, c4⟩
      · rw [c2]; simp only [hk']; simpa [c1, c3, ZT] using err c
      · rw [c3]
        have hn := node_list c2 (by omega) (e := e) (.inr hk')
        have := gathered_res c2 (by omega) (k := 6) (.inr rfl) (by simpa [hk'] using hn)
        simp only [hk']
        simpa [c4] using this
end Go.Ft

namespace Go.Ft
open Go
attribute [local congr] ite_c1
theorem awake11 : l11_awake = some true := by decide +kernel
theorem same_n : ∀ (T : Ty) (n : Nat), T.dep ≤ n → r08_Same_n n T.api T.api = some true
  | .leaf a, 0, h => by simp [Ty.dep] at h
  | .leaf a, n + 1, h => by
    rw [r08_Same_n, r08_Same_b]
    obtain ⟨m, hm⟩ := BIG4
    simp [Ty.api, hm, r08_Same_l1]
  | .nest a T, 0, h => by simp only [Ty.dep] at h; omega
  | .nest a T, n + 1, h => by
    simp only [Ty.dep] at h
    rw [r08_Same_n, r08_Same_b]
    obtain ⟨m, hm⟩ := BIG4
    have := same_n T n (by omega)
    have w1 : w64 1 = 1 := by decide
    simp [Ty.api, hm, r08_Same_l1, idx, this, w1]
theorem same_refl {T : Ty} (h : T.dep ≤ 1000) : r08_Same T.api T.api = some true := same_n T BIG (by have := BIG_lt; omega)
theorem joinT_never (T : Ty) : joinT T (sc 7) = T := by
  cases T with
  | leaf a =>
    unfold sc
    rw [joinT]
    by_cases h : a = 7
    · simp [h]
    · simp [h]
  | nest a t => unfold sc; rw [joinT]; simp
theorem Join_never {T : Ty} (h : T.wf) (hd : T.dep ≤ 16) : typing_Join T.api (sc 7).api = some T.api := by
  rw [(Join_eq h (any_ok (by omega)).1 hd (any_ok (by omega)).2).1, joinT_never]
theorem env_small {env : List ApiDecl} {N : Nat} (h : (env.map ApiDecl.bulk).sum ≤ N) : env.length ≤ N ∧ ∀ d ∈ env, d.name.length ≤ N := by
  constructor
  · have := len_sum (l := env) (f := ApiDecl.bulk) (fun x => by unfold ApiDecl.bulk; omega)
    omega
  · intro d hd
    have := le_sum' (f := ApiDecl.bulk) hd
    have h2 : d.name.length < d.bulk := by unfold ApiDecl.bulk; omega
    omega
theorem small_eq {e : ApiExpr} (h : e.bulk < 4611686018427387904) (n : Int) : l11_small e n = some ((decide ((ecnt e : Int) ≤ 5000)) && (decide (n ≤ 300))) := by
  unfold l11_small
  rw [(count_eq h).2]
  rfl
theorem expr_res {e : ApiExpr} {env : List ApiDecl} (h : e.bulk ≤ 1048576) (hE : (env.map ApiDecl.bulk).sum ≤ 1048576) : RES (check_Expr e env) (r11_Expr e env) := by
  obtain ⟨e1, e2⟩ := env_small hE
  obtain ⟨v1, v2, v3⟩ := env_eq (env := env) (by omega) (fun d hd => by have := e2 d hd; omega)
  obtain ⟨x1, x2⟩ := xval_eq (e := e) (by omega)
  have err : ∀ c : Int, RES (some (ZT, c)) (some (ZT, c)) := fun c => ⟨sc 0, c, (any_ok (by omega)).1, (any_ok (by omega)).2, fun _ => rfl, rfl, rfl⟩
  unfold check_Expr r11_Expr
  rw [v1, v2, x1, x2]
  simp only [bind1_some]
  by_cases hv : envV env = 0
  · simp only [hv, bne_self_eq_false, Bool.false_eq_true, if_false]
    by_cases hx : xval e = 0
    · simp only [hx, bne_self_eq_false, Bool.false_eq_true, if_false]
      have hc : xchk e 1 = 0 := by
        unfold xval at hx
        split at hx
        · omega
        · exact hx
      obtain ⟨T, c, w, d, z, r1, r2⟩ := find_res (v3 hv) (by omega) e.bulk e 1 BIG BIG (Nat.le_refl _) (by omega) hc (by have := BIG_lt; omega) (by have := BIG_lt; omega)
      have r1' : check_find e env = some (T.api, c) := r1
      have r2' : r11_expr e env = some (T.api, c) := r2
      rw [r1', r2']
      simp only [bind2_some]
      by_cases h0 : c = 0
      · subst h0
        have t7 : check_of 7 = some (sc 7).api := rfl
        rw [if_neg (by simp), t7]
        simp only [bind1_some, Join_never w d]
        exact ⟨T, 0, w, d, z, rfl, rfl⟩
      · rw [if_pos (by simpa using h0), z h0]
        exact err c
    · have hx' : (xval e != 0) = true := by simpa using hx
      simp only [hx', if_true]
      exact err _
  · have hv' : (envV env != 0) = true := by simpa using hv
    simp only [hv', if_true]
    exact err _
end Go.Ft

namespace Go.Ft
open Go
attribute [local congr] ite_c1
mutual
def nmE : ApiExpr → List Str
  | ⟨k, s, _, args, _⟩ => (if k == 2 then [s] else []) ++ nmL args
def nmL : List ApiExpr → List Str
  | [] => []
  | x :: r => nmE x ++ nmL r
end
theorem nmE_eq (e : ApiExpr) : nmE e = (if e.kind == 2 then [e.name] else []) ++ nmL e.args := by cases e; rfl
theorem nmL_len : ∀ (l : List ApiExpr), (∀ x ∈ l, (nmE x).length ≤ ecnt x) → (nmL l).length ≤ ecntL l
  | [], _ => by simp [nmL]
  | x :: r, h => by
    simp only [nmL, ecntL, List.length_append]
    have := h x (by simp)
    have := nmL_len r fun y hy => h y (by simp [hy])
    omega
theorem nmE_len : ∀ (n : Nat) (e : ApiExpr), e.bulk ≤ n → (nmE e).length ≤ ecnt e
  | 0, e, h => by have := e.bulk_pos; omega
  | n + 1, e, h => by
    rw [nmE_eq, ecnt_eq, List.length_append]
    have := nmL_len e.args fun x hx => nmE_len n x (by have := eargs_mem hx; omega)
    split <;> simp <;> omega
theorem nmL_mem : ∀ (l : List ApiExpr) (s : Str), s ∈ nmL l ↔ ∃ x ∈ l, s ∈ nmE x
  | [], s => by simp [nmL]
  | x :: r, s => by simp [nmL, nmL_mem r s]
theorem nmE_short : ∀ (n : Nat) (e : ApiExpr), e.bulk ≤ n → ∀ s ∈ nmE e, s.length < e.bulk
  | 0, e, h, s, hs => by have := e.bulk_pos; omega
  | n + 1, e, h, s, hs => by
    rw [nmE_eq, List.mem_append, nmL_mem] at hs
    rcases hs with hs | ⟨x, hx, hs⟩
    · split at hs
      · simp only [List.mem_singleton] at hs
        subst hs
        exact ename_len e
      · simp at hs
    · have h1 := nmE_short n x (by have := eargs_mem hx; omega) s hs
      have := eargs_mem hx
      omega
theorem visL {go : ApiExpr → List Str → Option (List Str)} : ∀ (l : List ApiExpr) (i : Nat) (out : List Str), (∀ x ∈ l, ∀ o : List Str, o.length + (nmE x).length ≤ LIM → go x o = some (o ++ nmE x)) → out.length + (nmL l).length ≤ LIM →
    scanS (fun _ a1 (o : List Str) r => bind1 (go a1 o) fun o2 => r o2) (fun o => some o) i l out = some (out ++ nmL l)
  | [], i, out, _, _ => by simp [scanS, nmL]
  | x :: r, i, out, h, hl => by
    simp only [nmL, List.length_append] at hl ⊢
    rw [scanS, h x (by simp) out (by omega)]
    simp only [bind1_some]
    rw [visL r (i + 1) (out ++ nmE x) (fun y hy => h y (by simp [hy])) (by simp only [List.length_append]; omega), List.append_assoc]
theorem vis_n : ∀ (n : Nat) (e : ApiExpr) (out : List Str), e.bulk ≤ n → e.bulk < 4611686018427387904 → out.length + (nmE e).length ≤ LIM → check_Names_1_n (n + 1) e out = some (out ++ nmE e)
  | 0, e, out, h, _, _ => by have := e.bulk_pos; omega
  | n + 1, e, out, h, hB, hl => by
    have hal := eargs_len e
    unfold check_Names_1_n check_Names_1_b
    have sb := scanS_big (F := fun k s i => check_Names_1_l1 (check_Names_1_n (n + 1)) e k s i) (l := e.args) (body := fun _ a1 (o : List Str) r => bind1 (check_Names_1_n (n + 1) a1 o) fun o2 => r o2) (fin := fun o => some o) (by omega) (fun k s i => rfl)
    rw [nmE_eq, List.length_append] at hl
    have hgo : ∀ x ∈ e.args, ∀ o : List Str, o.length + (nmE x).length ≤ LIM → check_Names_1_n (n + 1) x o = some (o ++ nmE x) := fun x hx o ho => vis_n n x o (by have := eargs_mem hx; omega) (by have := eargs_mem hx; omega) ho
    rw [nmE_eq]
    by_cases hk : (e.kind == 2) = true
    · simp only [hk, if_true] at hl ⊢
      rw [app_ok (by simp at hl ⊢; omega), bind1_some, sb, visL e.args 0 _ hgo (by simp at hl ⊢; omega), List.append_assoc]
    · simp only [Bool.not_eq_true] at hk
      simp only [hk, Bool.false_eq_true, if_false, List.nil_append] at hl ⊢
      rw [sb, visL e.args 0 _ hgo (by simpa using hl)]
theorem nat_ok {l : List Str} (h : ∀ s ∈ l, s.length < 4611686018427387904) (hl : l.length ≤ LIM) : ident_Sorted l = some (natSet l) := by
  unfold ident_Sorted
  rw [if_pos]
  simp only [Bool.and_eq_true, List.all_eq_true, decide_eq_true_eq]
  exact ⟨h, hl⟩
theorem cnames_eq {e : ApiExpr} (h : e.bulk < 4294967296) : check_Names e = some (natSet (nmE e)) := by
  obtain ⟨n, hn, hn2⟩ := BIG_succ
  have hlen := nmE_len _ e (Nat.le_refl _)
  have hcnt := ecnt_le _ e (Nat.le_refl _)
  unfold check_Names
  rw [hn, vis_n n e [] (by omega) (by omega) (by unfold LIM; simp; omega)]
  simp only [bind1_some, List.nil_append]
  exact nat_ok (fun s hs => by have := nmE_short _ e (Nat.le_refl _) s hs; omega) (by unfold LIM; omega)
theorem natSet_len (l : List Str) : (natSet l).length ≤ l.length := by
  have h : ∀ l : List Str, (dd l).length ≤ l.length := by
    intro l
    fun_induction dd l <;> simp_all <;> omega
  have := h (natSort l)
  rw [(natSort_perm l).length_eq] at this
  exact this
end Go.Ft

namespace Go.Ft
open Go
attribute [local congr] ite_c1
def declF (name : Str) : List ApiDecl → ApiType × Int
  | [] => (ZT, 10)
  | d :: r => if d.name == name then (d.type_, 0) else declF name r
theorem decl_eq {env : List ApiDecl} (hl : env.length < 4611686018427387904) (name : Str) : check_declared env name = some (declF name env) := by
  unfold check_declared
  rw [scanS_big (F := fun k (_ : Unit) i => check_declared_l1 env name k i) (l := env) (body := fun _ e1 _ r => if e1.name == name then some (e1.type_, 0) else r ()) (fin := fun _ => some (ZT, 10)) hl (fun k s i => rfl) ()]
  have key : ∀ (t : List ApiDecl) (i : Nat), scanS (fun _ e1 (_ : Unit) r => if e1.name == name then some (e1.type_, 0) else r ()) (fun _ => some (ZT, 10)) i t () = some (declF name t) := by
    intro t
    induction t with
    | nil => intro i; rfl
    | cons d t ih =>
      intro i
      rw [scanS, declF]
      cases (d.name == name) with
      | true => rfl
      | false => exact ih (i + 1)
  exact key env 0
theorem nm_args {e x : ApiExpr} (h : x ∈ e.args) {s : Str} (hs : s ∉ nmE e) : s ∉ nmE x := by
  intro hx
  apply hs
  rw [nmE_eq, List.mem_append, nmL_mem]
  exact .inr ⟨x, h, hx⟩
theorem nm_self {e : ApiExpr} (h : (e.kind == 2) = true) {s : Str} (hs : s ∉ nmE e) : (s == e.name) = false := by
  rw [nmE_eq, h] at hs
  simp only [if_true, List.singleton_append, List.mem_cons, not_or] at hs
  simpa using hs.1
theorem all_l1 {go : ApiExpr → List ApiDecl → Option (ApiType × Int)} {env env' : List ApiDecl} {l : List ApiExpr} (h : ∀ x ∈ l, go x env = go x env') : ∀ (k : Nat) (out : List ApiType) (i : Int), check_all_l1 go l env k out i = check_all_l1 go l env' k out i
  | 0, _, _ => rfl
  | k + 1, out, i => by
    rw [check_all_l1, check_all_l1]
    split
    · cases hx : idx l i with
      | none => rfl
      | some x =>
        simp only [bind1_some]
        obtain ⟨h0, h1⟩ := idx_some hx
        rw [h x (List.mem_of_getElem? h1)]
        cases go x env' with
        | none => rfl
        | some p =>
          simp only [bind2, all_l1 h k]
    · rfl
theorem find_unused {env : List ApiDecl} {d : ApiDecl} (hl : env.length < 4611686018427387000) : ∀ (k : Nat), (∀ e : ApiExpr, d.name ∉ nmE e → check_find_n k e (d :: env) = check_find_n k e env) ∧ (∀ e : ApiExpr, d.name ∉ nmE e → check_call_n k e (d :: env) = check_call_n k e env) ∧
    (∀ l : List ApiExpr, (∀ x ∈ l, d.name ∉ nmE x) → check_all_n k l (d :: env) = check_all_n k l env)
  | 0 => ⟨fun _ _ => rfl, fun _ _ => rfl, fun _ _ => rfl⟩
  | k + 1 => by
    obtain ⟨h1, h2, h3⟩ := find_unused (d := d) hl k
    refine ⟨fun e he => ?_, fun e he => ?_, fun l h => ?_⟩
    · rw [check_find_n, check_find_n, check_find_b, check_find_b, h2 e he, h3 e.args fun x hx => nm_args hx he]
      by_cases hk : (e.kind == 2) = true
      · have hd : check_declared (d :: env) e.name = check_declared env e.name := by
          rw [decl_eq (by simp; omega), decl_eq (by omega), declF, nm_self hk he]
          rfl
        rw [hd]
      · simp only [Bool.not_eq_true] at hk
        simp only [hk, Bool.false_eq_true, if_false]
    · rw [check_call_n, check_call_n, check_call_b, check_call_b, h3 e.args fun x hx => nm_args hx he]
    · rw [check_all_n, check_all_n, check_all_b, check_all_b]
      exact all_l1 (fun x hx => h1 x (h x hx)) _ _ _
theorem envF_mono : ∀ (r : List ApiDecl) (seen seen' : List Str), (∀ s ∈ seen', s ∈ seen) → envF seen r = 0 → envF seen' r = 0
  | [], _, _, _, _ => rfl
  | d :: r, seen, seen', h, hz => by
    rw [envF] at hz ⊢
    split at hz
    · simp at hz
    · rename_i c1
      rw [if_neg c1]
      split at hz
      · rename_i c2
        simp [hz] at c2
      · rename_i c2
        rw [if_neg c2]
        split at hz
        · simp at hz
        · rename_i c3
          have c3' : ¬ seen'.contains d.name = true := fun hc => c3 (by
            rw [List.contains_iff_mem] at hc ⊢
            exact h _ hc)
          rw [if_neg c3']
          exact envF_mono r _ _ (by
            intro s hs
            simp only [List.mem_append, List.mem_cons] at hs ⊢
            rcases hs with hs | hs
            · first | exact .inl (h _ hs) | exact .inl hs
            · first | exact .inr hs | exact .inr (h _ hs)) hz
theorem law_CheckUnused (e1 : ApiExpr) (env1 : List ApiDecl) (d1 : ApiDecl) (h : ApiExpr.bulk e1 + ((List.map (fun z : ApiDecl => (ApiDecl.bulk z)) env1).sum + 1) + ApiDecl.bulk d1 ≤ 1048576) : l11_CheckUnused e1 env1 d1 = some true := by
  have hE : (env1.map ApiDecl.bulk).sum ≤ 1048576 := by
    have h' : (List.map (fun z : ApiDecl => (ApiDecl.bulk z)) env1).sum ≤ 1048576 := by omega
    exact h'
  have hM : ((d1 :: env1).map ApiDecl.bulk).sum ≤ 1048576 := by
    have h' : (List.map (fun z : ApiDecl => (ApiDecl.bulk z)) (d1 :: env1)).sum ≤ 1048576 := by
      simp only [List.map_cons, List.sum_cons]; omega
    exact h'
  obtain ⟨hl, hd⟩ := env_small hE
  obtain ⟨hl', hd'⟩ := env_small hM
  have hcnt := ecnt_le _ e1 (Nat.le_refl _)
  have hlen := nmE_len _ e1 (Nat.le_refl _)
  have hsl := natSet_len (nmE e1)
  unfold l11_CheckUnused
  rw [small_eq (by omega), bind1_some]
  split
  · exact awake11
  · rw [app_ok (by simp [LIM]), bind1_some, app_ok (by simp [LIM]; omega), bind1_some]
    simp only [List.nil_append, List.singleton_append]
    obtain ⟨v1, _, _⟩ := env_eq (env := d1 :: env1) (by simp; omega) (fun d hdm => by have := hd' d hdm; omega)
    rw [v1, bind1_some]
    split
    · exact awake11
    · rename_i hv
      simp only [bne_iff_ne, ne_eq, Decidable.not_not] at hv
      rw [cnames_eq (by omega), bind1_some]
      rw [scanS_big (F := fun k (_ : Unit) i => l11_CheckUnused_l1 e1 env1 d1 (d1 :: env1) (natSet (nmE e1)) k i) (l := natSet (nmE e1)) (body := fun _ e2 _ r => if e2 == d1.name then l11_awake else r ())
        (fin := fun _ => bind2 (check_Expr e1 env1) fun x6 f1 => bind2 (check_Expr e1 (d1 :: env1)) fun x7 g1 => bind1 (if f1 == g1 then r08_Same x6 x7 else some false) fun b1 => if b1 then l11_awake else some false) (by omega) (fun k s i => rfl) ()]
      have fin : d1.name ∉ nmE e1 → (bind2 (check_Expr e1 env1) fun x6 f1 => bind2 (check_Expr e1 (d1 :: env1)) fun x7 g1 => bind1 (if f1 == g1 then r08_Same x6 x7 else some false) fun b1 => if b1 then l11_awake else some false) = some true := by
        intro hn
        have hz : envV env1 = 0 := by
          unfold envV at hv ⊢
          split at hv
          · simp at hv
          · rename_i hle
            simp only [List.length_cons] at hle
            rw [if_neg (by omega)]
            rw [envF] at hv
            split at hv
            · simp at hv
            · split at hv
              · rename_i c2; simp [hv] at c2
              · split at hv
                · simp at hv
                · exact envF_mono env1 _ [] (by simp) hv
        obtain ⟨w1, _, _⟩ := env_eq (env := env1) (by omega) (fun d hdm => by have := hd d hdm; omega)
        have same : check_Expr e1 (d1 :: env1) = check_Expr e1 env1 := by
          unfold check_Expr
          rw [v1, w1, hz, hv]
          unfold check_find
          rw [(find_unused (d := d1) (by omega) BIG).1 e1 hn]
        rw [same]
        obtain ⟨T, c, t1, t2, t3, t4, t5⟩ := expr_res (e := e1) (env := env1) (by omega) hE
        rw [t4]
        simp only [bind2, beq_self_eq_true, if_true]
        rw [same_refl (by omega), bind1_some]
        exact awake11
      have key : ∀ (t : List Str) (i : Nat), (∀ x ∈ t, x ∈ natSet (nmE e1)) → (∀ x, x ∈ natSet (nmE e1) → x ∉ t → (x == d1.name) = false) → scanS (fun _ e2 (_ : Unit) r => if e2 == d1.name then l11_awake else r ())
          (fun _ => bind2 (check_Expr e1 env1) fun x6 f1 => bind2 (check_Expr e1 (d1 :: env1)) fun x7 g1 => bind1 (if f1 == g1 then r08_Same x6 x7 else some false) fun b1 => if b1 then l11_awake else some false) i t () = some true := by
        intro t
        induction t with
        | nil =>
          intro i _ h2
          rw [scanS]
          refine fin fun hn => ?_
          have := h2 d1.name (mem_natSet.2 hn) (by simp)
          simp at this
        | cons x t ih =>
          intro i h1 h2
          rw [scanS]
          cases hx : (x == d1.name) with
          | true => exact awake11
          | false =>
            simp only [Bool.false_eq_true, if_false]
            refine ih (i + 1) (fun y hy => h1 y (by simp [hy])) (fun y hy hyt => ?_)
            by_cases hyx : y = x
            · rw [hyx]; exact hx
            · exact h2 y hy (by simp [hyx, hyt])
      exact key _ 0 (fun x hx => hx) (fun x hx hx' => absurd hx hx')
end Go.Ft
