/- Proved here: the words of the functional texts and plain facts on them. -/
import GoSem.Core.Sem
import GoSem.Core.Utf8
import GoSem.Op.IntArith
import GoSem.Op.String
set_option linter.unusedVariables false
set_option linter.unusedSimpArgs false
namespace Go.Ft
open Go
abbrev Str := List UInt8
abbrev w64 (n : Int) : Int := IntKind.i64.wrap n
def BIG : Nat := 18446744073709551616
def LIM : Nat := 4294967296
def idx {α : Type} (l : List α) (i : Int) : Option α := if 0 ≤ i then l[i.toNat]? else none
def sl {α : Type} (l : List α) (a b : Int) : Option (List α) := if 0 ≤ a ∧ a ≤ b ∧ b ≤ l.length then some ((l.take b.toNat).drop a.toNat) else none
def app {α : Type} (l m : List α) : Option (List α) := if l.length + m.length ≤ LIM then some (l ++ m) else none
def dec (s : Str) (pos : Nat) : Nat × Nat := Utf8.decode ⟨s.toArray⟩ pos
def mget : List (Str × Int) → Str → Int
  | [], _ => 0
  | (k', v) :: r, k => if k == k' then v else mget r k
def mset : List (Str × Int) → Str → Int → List (Str × Int)
  | [], k, n => [(k, n)]
  | (k', v) :: r, k, n => if k == k' then (k', n) :: r else (k', v) :: mset r k n
def byteOf (n : Int) : UInt8 := UInt8.ofNat (n % 256).toNat
def bind1 {α ρ : Type} (x : Option α) (f : α → Option ρ) : Option ρ := match x with | some a => f a | none => none
def bind2 {α β ρ : Type} (x : Option (α × β)) (f : α → β → Option ρ) : Option ρ := match x with | some (a, b) => f a b | none => none
def bind3 {α β γ ρ : Type} (x : Option (α × β × γ)) (f : α → β → γ → Option ρ) : Option ρ := match x with | some (a, b, c) => f a b c | none => none
def bind4 {α β γ δ ρ : Type} (x : Option (α × β × γ × δ)) (f : α → β → γ → δ → Option ρ) : Option ρ := match x with | some (a, b, c, d) => f a b c d | none => none
def bind5 {α β γ δ ε ρ : Type} (x : Option (α × β × γ × δ × ε)) (f : α → β → γ → δ → ε → Option ρ) : Option ρ := match x with | some (a, b, c, d, e) => f a b c d e | none => none
inductive Exc (ε α : Type) where
  | ok (a : α)
  | bad (e : ε)
def bindX {ε α ρ : Type} (x : Option (Exc ε α)) (g : ε → Option ρ) (f : α → Option ρ) : Option ρ := match x with | some (.ok a) => f a | some (.bad e) => g e | none => none
def bindXS {ε α σ ρ : Type} (x : Option (Exc ε α × σ)) (g : ε → σ → Option ρ) (f : α → σ → Option ρ) : Option ρ := match x with | some (.ok a, s) => f a s | some (.bad e, s) => g e s | none => none
section
variable {α β γ δ ε ρ : Type}
theorem bindXS_inv {x : Option (Exc ε α × β)} {g : ε → β → Option ρ} {f : α → β → Option ρ} {r : ρ} (h : bindXS x g f = some r) : (∃ e s, x = some (.bad e, s) ∧ g e s = some r) ∨ ∃ a s, x = some (.ok a, s) ∧ f a s = some r := by
  match x, h with
  | some (.ok a, s), h => exact .inr ⟨a, s, rfl, h⟩
  | some (.bad e, s), h => exact .inl ⟨e, s, rfl, h⟩
@[simp] theorem bindX_ok (a : α) (g : ε → Option ρ) (f : α → Option ρ) : bindX (some (.ok a)) g f = f a := rfl
@[simp] theorem bindX_bad (e : ε) (g : ε → Option ρ) (f : α → Option ρ) : bindX (some (.bad e)) g f = g e := rfl
@[simp] theorem bindXS_ok (a : α) (s : β) (g : ε → β → Option ρ) (f : α → β → Option ρ) : bindXS (some (.ok a, s)) g f = f a s := rfl
@[simp] theorem bindXS_bad (e : ε) (s : β) (g : ε → β → Option ρ) (f : α → β → Option ρ) : bindXS (some (.bad e, s)) g f = g e s := rfl
@[simp] theorem bind1_some (a : α) (f : α → Option ρ) : bind1 (some a) f = f a := rfl
@[simp] theorem bind1_none (f : α → Option ρ) : bind1 none f = none := rfl
@[simp] theorem bind2_some (a : α) (b : β) (f : α → β → Option ρ) : bind2 (some (a, b)) f = f a b := rfl
@[simp] theorem bind2_none (f : α → β → Option ρ) : bind2 none f = none := rfl
@[simp] theorem bind3_some (a : α) (b : β) (c : γ) (f : α → β → γ → Option ρ) : bind3 (some (a, b, c)) f = f a b c := rfl
@[simp] theorem bind3_none (f : α → β → γ → Option ρ) : bind3 none f = none := rfl
@[simp] theorem bind4_some (a : α) (b : β) (c : γ) (d : δ) (f : α → β → γ → δ → Option ρ) : bind4 (some (a, b, c, d)) f = f a b c d := rfl
@[simp] theorem bind4_none (f : α → β → γ → δ → Option ρ) : bind4 none f = none := rfl
@[simp] theorem bind5_some (a : α) (b : β) (c : γ) (d : δ) (e : ε) (f : α → β → γ → δ → ε → Option ρ) : bind5 (some (a, b, c, d, e)) f = f a b c d e := rfl
@[simp] theorem bind5_none (f : α → β → γ → δ → ε → Option ρ) : bind5 none f = none := rfl
theorem bind1_inv {x : Option α} {f : α → Option ρ} {r : ρ} (h : bind1 x f = some r) : ∃ a, x = some a ∧ f a = some r := by
  cases x with
  | none => cases h
  | some a => exact ⟨a, rfl, h⟩
theorem bind2_inv {x : Option (α × β)} {f : α → β → Option ρ} {r : ρ} (h : bind2 x f = some r) : ∃ a b, x = some (a, b) ∧ f a b = some r := by
  cases x with
  | none => cases h
  | some a => exact ⟨a.1, a.2, rfl, h⟩
theorem bind3_inv {x : Option (α × β × γ)} {f : α → β → γ → Option ρ} {r : ρ} (h : bind3 x f = some r) : ∃ a b c, x = some (a, b, c) ∧ f a b c = some r := by
  cases x with
  | none => cases h
  | some a => exact ⟨a.1, a.2.1, a.2.2, rfl, h⟩
@[simp] theorem bind1_ret (x : Option α) : bind1 x (fun a => some a) = x := by cases x <;> rfl
@[simp] theorem bind2_ret (x : Option (α × β)) : bind2 x (fun a b => some (a, b)) = x := by cases x <;> rfl
@[simp] theorem bind3_ret (x : Option (α × β × γ)) : bind3 x (fun a b c => some (a, b, c)) = x := by cases x <;> rfl
@[simp] theorem bind4_ret (x : Option (α × β × γ × δ)) : bind4 x (fun a b c d => some (a, b, c, d)) = x := by cases x <;> rfl
@[simp] theorem bind5_ret (x : Option (α × β × γ × δ × ε)) : bind5 x (fun a b c d e => some (a, b, c, d, e)) = x := by cases x <;> rfl
theorem bind1_c {x y : Option α} {f : α → Option ρ} (h : x = y) : bind1 x f = bind1 y f := by rw [h]
theorem bind2_c {x y : Option (α × β)} {f : α → β → Option ρ} (h : x = y) : bind2 x f = bind2 y f := by rw [h]
theorem bind3_c {x y : Option (α × β × γ)} {f : α → β → γ → Option ρ} (h : x = y) : bind3 x f = bind3 y f := by rw [h]
theorem bind4_c {x y : Option (α × β × γ × δ)} {f : α → β → γ → δ → Option ρ} (h : x = y) : bind4 x f = bind4 y f := by rw [h]
theorem bind5_c {x y : Option (α × β × γ × δ × ε)} {f : α → β → γ → δ → ε → Option ρ} (h : x = y) : bind5 x f = bind5 y f := by rw [h]
theorem ite_c1 {c d : Prop} {ic : Decidable c} {jc : Decidable d} {x y : α} (h : c = d) : @ite α c ic x y = @ite α d jc x y := by
  subst h
  cases ic with
  | isTrue h => cases jc with
    | isTrue h' => rfl
    | isFalse h' => exact absurd h h'
  | isFalse h => cases jc with
    | isTrue h' => exact absurd h' h
    | isFalse h' => rfl
attribute [congr] bind1_c bind2_c bind3_c bind4_c bind5_c
theorem ite_T {b : Bool} {x y r : α} (h : b = true) (hf : (if b = true then x else y) = r) : x = r := by rw [if_pos h] at hf; exact hf
theorem ite_F {b : Bool} {x y r : α} (h : b = false) (hf : (if b = true then x else y) = r) : y = r := by rw [if_neg (by simp [h])] at hf; exact hf
theorem none_no {r : α} {P : Prop} (h : (none : Option α) = some r) : P := by cases h
theorem idx_some {l : List α} {i : Int} {a : α} (h : idx l i = some a) : 0 ≤ i ∧ l[i.toNat]? = some a := by
  unfold idx at h
  split at h
  · exact ⟨by assumption, h⟩
  · cases h
theorem idx_nat (l : List α) (i : Nat) : idx l (i : Int) = l[i]? := by simp [idx]
theorem sl_some {l r : List α} {a b : Int} (h : sl l a b = some r) : 0 ≤ a ∧ a ≤ b ∧ b ≤ l.length ∧ r = (l.take b.toNat).drop a.toNat := by
  unfold sl at h
  split at h
  · rename_i hc
    simp only [Option.some.injEq] at h
    exact ⟨hc.1, hc.2.1, hc.2.2, h.symm⟩
  · cases h
theorem sl_ok {l : List α} {a b : Int} (h0 : 0 ≤ a) (h1 : a ≤ b) (h2 : b ≤ l.length) : sl l a b = some ((l.take b.toNat).drop a.toNat) := by
  unfold sl; rw [if_pos ⟨h0, h1, h2⟩]
theorem app_some {l m r : List α} (h : app l m = some r) : l.length + m.length ≤ LIM ∧ r = l ++ m := by
  unfold app at h
  split at h
  · simp only [Option.some.injEq] at h
    exact ⟨by assumption, h.symm⟩
  · cases h
theorem app_ok {l m : List α} (h : l.length + m.length ≤ LIM) : app l m = some (l ++ m) := by unfold app; rw [if_pos h]
end
theorem wrap_id {n : Int} (h1 : -9223372036854775808 ≤ n) (h2 : n ≤ 9223372036854775807) : IntKind.i64.wrap n = n := by
  simp [IntKind.wrap, IntKind.bits, IntKind.signed]
  omega
theorem byteOf_toNat (n : Int) : ((byteOf n).toNat : Int) = IntKind.u8.wrap n := by
  simp [byteOf, IntKind.wrap, IntKind.bits, IntKind.signed]
  omega
def isDig (c : UInt8) : Bool := (decide (48 ≤ (c.toNat : Int))) && (decide ((c.toNat : Int) ≤ 57))
def spanD (p : UInt8 → Bool) (l : Str) : Nat := (l.takeWhile p).length
def dz (s : Str) : Str := s.dropWhile fun c => (c.toNat : Int) == 48
def lexN : List Nat → List Nat → Int
  | [], [] => 0
  | [], _ :: _ => -1
  | _ :: _, [] => 1
  | a :: l, b :: m => if a < b then -1 else if b < a then 1 else lexN l m
def keyN : Nat → Str → List Nat
  | 0, _ => []
  | _ + 1, [] => []
  | k + 1, c :: s => if isDig c then
      48 :: (dz ((c :: s).take (spanD isDig (c :: s)))).length :: ((dz ((c :: s).take (spanD isDig (c :: s)))).map UInt8.toNat ++ spanD isDig (c :: s) :: keyN k ((c :: s).drop (spanD isDig (c :: s))))
    else c.toNat :: keyN k s
def key (s : Str) : List Nat := keyN s.length s
def natCmp (a b : Str) : Int := lexN (key a) (key b)
def dd : List Str → List Str
  | [] => []
  | [x] => [x]
  | x :: y :: l => if x = y then dd (y :: l) else x :: dd (y :: l)
def natSort (l : List Str) : List Str := l.mergeSort fun x y => !decide (natCmp y x < 0)
def natSet (l : List Str) : List Str := dd (natSort l)
end Go.Ft
