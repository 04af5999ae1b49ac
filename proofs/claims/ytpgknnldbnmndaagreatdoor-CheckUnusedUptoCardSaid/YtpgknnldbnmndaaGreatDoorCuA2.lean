/- Proved here: how a functional text stands for a walk of the given code. -/
import Derived.Test.YtpgknnldbnmndaaGreatDoorCuWords
import Derived.Test.YtpgknnldbnmndaaGreatDoorCuA1
import Derived.Lib.Builder
import Derived.Lib.UnsafeStr
import Derived.Laws.Externs
import Derived.Laws.Pointers
import Derived.WalkSmall
import Derived.WideLaws
import Derived.Recover
import Derived.RangeFuncRecord
import Derived.RangeFuncIn
import Derived.OrdersIn
import Derived.TacticsIn
import Derived.Shelf.SlSortCmp.NoneTotal
import Derived.Shelf.Slices.CompactS
set_option linter.unusedVariables false
set_option linter.unusedSimpArgs false
namespace Go.Abs
open Go Go.Ft
def strC (s : List UInt8) : List PV := [.str s]
def intC (n : Int) : List PV := [.int .i64 n]
section
variable {P : Program} {o : Oper} {ρ : Operand → PV} {σ : List Res} {R S : PV → List Res → Prop} {α : Type}
theorem AO.idx_str {t : TypeId} {x i : Operand} {s : List UInt8} {k : IntKind} {n : Int} {c : UInt8} (hv : idx s n = some c) (ho : o.op = .index t x i) (hs : P.underlying t = some .string) (hx : ρ x = .str s) (hi : ρ i = .int k n)
    (hR : R (.int .u8 (c.toNat : Int)) σ) : AO P o ρ σ R S :=
  AO.index_str ho hs hx hi (idx_some hv).1 (idx_some hv).2 hR
theorem AO.idx_list {t : TypeId} {x i : Operand} {L : List (List PV)} {k : IntKind} {n : Int} {sz : Nat} {e : List PV} {f : α → List PV} {l : List α} {a : α} (hv : idx l n = some a) (ho : o.op = .indexAddr t x i) (hx : (ρ x).els = some L) (hL : L = l.map f) (hi : ρ i = .int k n) (hs : elemSize P t = some sz)
    (he : f a = e) (hl : e.length = sz) (hR : R (.ref e) σ) : AO P o ρ σ R S :=
  AO.indexAddr ho hx hi hs (idx_some hv).1 (by rw [hL, List.getElem?_map, (idx_some hv).2, ← he]; rfl) hl hR
theorem AO.len_list {x : Operand} {t : TypeId} {L : List (List PV)} {sz : Nat} {c : Call} {f : α → List PV} {l : List α} (ho : o.op = .call c) (hcal : c.callee = .builtin .len) (hargs : c.args = #[x]) (hty : c.argTypes = #[t]) (hs : elemSize P t = some sz) (hx : (ρ x).els = some L) (hL : L = l.map f)
    (hR : R (.int .i64 (l.length : Int)) σ) : AO P o ρ σ R S :=
  AO.len_slice ho hcal hargs hty hs hx (by rw [hL, List.length_map]; exact hR)
def boundI (ρ : Operand → PV) (o : Option Operand) (a d : Int) : Prop :=
  match o with
  | some y => ∃ k, ρ y = .int k a
  | none => a = d
theorem boundI_nat {o : Option Operand} {a : Int} {d : Nat} (h : boundI ρ o a d) (h0 : 0 ≤ a) : bound ρ o a.toNat d := by
  unfold boundI at h; unfold bound
  cases o with
  | none => simp only at h ⊢; omega
  | some y => obtain ⟨k, h⟩ := h; exact ⟨k, by rw [h]; congr 1; omega⟩
theorem AO.sl_str {t : TypeId} {x : Operand} {lo hi : Option Operand} {s r : List UInt8} {a b : Int} (hv : sl s a b = some r) (ho : o.op = .slice t x lo hi none) (hu : P.underlying t = some .string) (hx : ρ x = .str s)
    (hlo : boundI ρ lo a (0 : Nat)) (hhi : boundI ρ hi b (s.length : Nat)) (hR : R (.str r) σ) : AO P o ρ σ R S := by
  obtain ⟨h0, h1, h2, rfl⟩ := sl_some hv
  exact AO.slice_str ho hu hx (boundI_nat hlo h0) (boundI_nat hhi (by omega)) (by omega) (by omega) hR
theorem LIM_le : LIM ≤ maxLen := by decide
theorem AO.app_own {c : Call} {s x : Operand} {t tx e sz bytes : Nat} {v : Value} {L L2 Lr : List (List PV)} {i : Nat} {f : α → List PV} {l m r : List α} (hv : app l m = some r) (ho : o.op = .call c) (hcal : c.callee = .builtin .append) (hargs : c.args = #[s, x]) (hty : c.argTypes = #[t, tx])
    (hs : ρ s = .own v L) (hx : (ρ x).els = some L2) (hi : σ[i]? = some (Res.row v L.length sz e)) (hf : SliceFact P t e sz bytes) (htx : elemSize P tx = some sz)
    (hL : L = l.map f) (hL2 : L2 = m.map f) (hr : r.map f = Lr) (fl : ∀ x, (f x).length = sz) (fo : ∀ x, (f x).all PV.one = true) (hb : Nat.ble bytes 32768 = true)
    (hR : ∀ v' σ', setO σ i (.row v' Lr.length sz e) = some σ' → R (.own v' Lr) σ') : AO P o ρ σ R S := by
  obtain ⟨h1, rfl⟩ := app_some hv
  have hb := Nat.le_of_ble_eq_true hb
  have hlim : l.length + m.length ≤ 4294967296 := h1
  have hmul : (l.length + m.length) * bytes ≤ 4294967296 * 32768 := Nat.mul_le_mul hlim hb
  have hLr : L ++ L2 = Lr := by rw [hL, hL2, ← List.map_append, hr]
  have e1 : L.length = l.length := by rw [hL, List.length_map]
  have e2 : L2.length = m.length := by rw [hL2, List.length_map]
  refine AO.append ho hcal hargs hty hs hx hi hf htx rfl ?_ ?_ ?_ ?_ ?_ ?_
  · intro y hy; rw [hL, List.mem_map] at hy; obtain ⟨z, _, rfl⟩ := hy; exact fl z
  · intro y hy; rw [hL2, List.mem_map] at hy; obtain ⟨z, _, rfl⟩ := hy; exact fl z
  · intro y hy; rw [hL2, List.mem_map] at hy; obtain ⟨z, _, rfl⟩ := hy; exact fo z
  · rw [e1, e2]; exact Nat.le_trans h1 LIM_le
  · rw [e1, e2]; omega
  · intro v' σ' h
    rw [hLr]
    exact hR v' σ' (by rw [← hLr, List.length_append]; exact h)
theorem AO.catF {t u : TypeId} {x y : Operand} {a b r : List UInt8} (hv : app a b = some r) (ho : o.op = .binOp .add t x y u) (hx : ρ x = .str a) (hy : ρ y = .str b)
    (hR : R (.str r) σ) : AO P o ρ σ R S := by
  obtain ⟨h1, rfl⟩ := app_some hv
  have : a.length + b.length ≤ 4294967296 := h1
  exact AO.concat ho hx hy (by omega) hR
theorem AO.buildSliceF {t e sz bytes len : Nat} {parts : Array (Nat × Operand)} {cells : List PV} {L : List (List PV)} (Lr : List (List PV)) (ho : o.op = .buildSlice t len parts) (hs : SliceFact P t e sz bytes) (hle : Nat.ble (len * sz) 16777216 = true)
    (hf : fillO (fun i => some (i * sz, sz)) (List.replicate (len * sz) .undef) (parts.toList.map fun x => (x.1, (ρ x.2).weak)) = some cells) (hl : chunkO sz len cells = some L) (hr : L = Lr) (hR : R (.list Lr) σ) : AO P o ρ σ R S :=
  AO.buildSlice ho hs hle hf hl (by rw [hr]; exact hR)
theorem AO.buildSlice_ownF {t e sz bytes len : Nat} {parts : Array (Nat × Operand)} {cells : List PV} {L : List (List PV)} (Lr : List (List PV)) (ho : o.op = .buildSlice t len parts) (hs : SliceFact P t e sz bytes) (hle : Nat.ble (len * sz) 16777216 = true)
    (hf : fillO (fun i => some (i * sz, sz)) (List.replicate (len * sz) .undef) (parts.toList.map fun x => (x.1, (ρ x.2).weak)) = some cells) (hl : chunkO sz len cells = some L) (hlen : Nat.ble len 16777216 = true) (hr : L = Lr) (hR : ∀ v, R (.own v Lr) (.row v Lr.length sz e :: σ)) : AO P o ρ σ R S := by
  refine AO.buildSlice_own ho hs hle hf hl hlen fun v => ?_
  have := hR v
  rw [← hr] at this
  rw [← (chunkO_eq hl).1]
  exact this
theorem AO.nil_list {x : Operand} (ho : o.op = .assign x) (hx : ρ x = .own (.slice none 0 0) []) (hR : R (.list []) σ) : AO P o ρ σ R S := by
  refine AO.of_same hR fun w m ev hr _ => ?_
  have h1 := hr x (by simp [ho, Op.operands])
  rw [hx] at h1
  exact ⟨ev x, by simp [execOp, ho], h1.weak⟩
theorem AO.conv_u8F {src dst : TypeId} {x : Operand} {d : TypeDesc} {k : IntKind} {n : Int} (ho : o.op = .convert src dst x) (hs : P.underlying src = some d) (hd : P.underlying dst = some (.int .u8)) (hx : ρ x = .int k n)
    (hR : R (.int .u8 ((Ft.byteOf n).toNat : Int)) σ) : AO P o ρ σ R S :=
  AO.conv_int ho hs hd hx (by rw [← Ft.byteOf_toNat]; exact hR)
theorem AO.u8_sub {t u : TypeId} {x y : Operand} {p q : Int} (a b : UInt8) (ho : o.op = .binOp .sub t x y u) (hx : ρ x = .int .u8 p) (hy : ρ y = .int .u8 q) (ha : p = (a.toNat : Int)) (hb : q = (b.toNat : Int))
    (hR : R (.int .u8 ((a - b).toNat : Int)) σ) : AO P o ρ σ R S := by
  refine AO.calcE (p := .int .u8 (IntKind.u8.wrap (p - q))) (by simp only [pev, ho, hx, hy]; rfl) ?_ hR
  rw [ha, hb]
  congr 1
  have h1 := a.toNat_lt; have h2 := b.toNat_lt
  simp [IntKind.wrap, IntKind.bits, IntKind.signed, UInt8.toNat_sub]
  omega
end
section
variable {P : Program} {n : Nat} {env : Env} {σ : List Res} {ds : List Deferred} {Q : Post} {all : Array Oper} {l : List Oper}
theorem AW.drop1 {c : Code} {r : Res} (h : AW P n c env σ ds Q) : AW P n c env (r :: σ) ds Q := AW.drop σ (List.sublist_cons_self r σ) h
theorem AR.drop1 {r : Res} (h : AR P n all l env σ ds Q) : AR P n all l env (r :: σ) ds Q :=
  fun w m a QC hsim ha => h w m a QC ⟨hsim.size, hsim.ds, hsim.env, hsim.conc.sub (List.sublist_cons_self r σ)⟩ (ha.step (Trans.sub (Trans.refl w m (r :: σ)) (List.sublist_cons_self r σ)))
def Less (e' e : Env) : Prop := ∀ t, e'.get t = .undef ∨ e'.get t = e.get t
theorem Less.settle {ps : List Nat} {e e' : Env} (h : Abs.settle ps e = some e') : Less e' e := get_settle h
theorem Less.refl (e : Env) : Less e e := fun _ => .inr rfl
theorem Less.cons {e e' : Env} (h : Less e' e) (t : Nat) (p : PV) : Less ((t, p) :: e') ((t, p) :: e) := by
  intro u
  simp only [Env.get]
  cases Nat.beq t u with
  | true => exact .inr rfl
  | false => exact h u
theorem Less.ev {e e' : Env} (h : Less e' e) (x : Operand) : e'.ev x = .undef ∨ e'.ev x = e.ev x := by
  cases x with
  | tmp t => exact h t
  | const v => exact .inr rfl
  | global g => exact .inr rfl
  | func f => exact .inr rfl
theorem AO.less {o : Oper} {e e' : Env} (h : Less e' e) {R S : PV → List Res → Prop} (k : AO P o e'.ev σ R S) : AO P o e.ev σ R S := by
  intro w m a K QC hr hc h1 h2
  refine k w m a K QC (fun x hx => ?_) hc h1 h2
  rcases h.ev x with h' | h'
  · rw [h']; simp [Rep]
  · rw [h']; exact hr x hx
theorem Less.known {e e' : Env} (h : Less e' e) {t : Nat} {p : PV} (hp : e'.get t = p) (hn : p ≠ .undef) : e.get t = p := by
  rcases h t with h' | h'
  · rw [h'] at hp; exact absurd hp.symm hn
  · rw [← h']; exact hp
theorem OpEv.less {o : Oper} {e e' : Env} (h : Less e' e) {p : PV} (k : OpEv P all e' σ o p) : OpEv P all e σ o p := by
  rcases k with ⟨hg, k⟩ | ⟨j, want, oj, u, h1, h2, h3, k⟩
  · exact .inl ⟨hg, AO.less h k⟩
  · refine .inr ⟨j, want, oj, u, h1, h2, h3, ?_⟩
    rcases k with ⟨h5, k⟩ | ⟨h5 | h5, k⟩
    · exact .inl ⟨h.known h5 (by simp), AO.less h k⟩
    · exact .inr ⟨.inl (h.known h5 (by simp)), k⟩
    · exact .inr ⟨.inr (h.known h5 (by simp)), k⟩
theorem SimS.less {w : World} {m : Imm} {e e' : Env} {a : Act} (h : Less e' e) (hs : SimS w m n e σ ds a) : SimS w m n e' σ ds a :=
  ⟨hs.size, hs.ds, fun t => by
    rcases h t with h' | h'
    · rw [h']; simp [Rep]
    · rw [h']; exact hs.env t, hs.conc⟩
theorem AR.less {e e' : Env} (h : Less e' e) (k : AR P n all l e' σ ds Q) : AR P n all l e σ ds Q :=
  fun w m a QC hs ha => k w m a QC (hs.less h) ha
theorem Ev.less {K : Env → Prop} (hK : ∀ e e', Less e' e → K e' → K e) : ∀ {l : List Oper} {e e' : Env}, Less e' e → Ev P n all σ e' l K → Ev P n all σ e l K
  | [], e, e', h, k => hK e e' h k
  | o :: rest, e, e', h, k => by
    obtain ⟨t, p, h1, h2, h3, h4⟩ := k
    exact ⟨t, p, h1, h2, OpEv.less h h3, Ev.less hK (h.cons t p) h4⟩
theorem Ev.append {K : Env → Prop} : ∀ {l l' : List Oper} {e : Env}, Ev P n all σ e l (fun e => Ev P n all σ e l' K) → Ev P n all σ e (l ++ l') K
  | [], _, _, h => h
  | _ :: _, _, _, h => by
    obtain ⟨t, p, h1, h2, h3, h4⟩ := h
    exact ⟨t, p, h1, h2, h3, Ev.append h4⟩
theorem Ev.monoK {K K' : Env → Prop} (hK : ∀ e, K e → K' e) : ∀ {l : List Oper} {e : Env}, Ev P n all σ e l K → Ev P n all σ e l K'
  | [], e, h => hK e h
  | _ :: _, _, h => by
    obtain ⟨t, p, h1, h2, h3, h4⟩ := h
    exact ⟨t, p, h1, h2, h3, Ev.monoK hK h4⟩
theorem Less.trans {a b c : Env} (h : Less a b) (k : Less b c) : Less a c := by
  intro t
  rcases h t with h' | h'
  · exact .inl h'
  · rcases k t with k' | k'
    · exact .inl (h'.trans k')
    · exact .inr (h'.trans k')
theorem Ev.join1 {K : Env → Prop} (hK : ∀ e e', Less e' e → K e' → K e) (k g t : Nat) (want : Bool) (keep : List Nat) {b : Bool} (p : PV) {env' : Env} (_hb : env.get g = .bool b) (_hk : settle keep env = some env')
    (h1 : b = want → Ev P n all σ env (l.take k) fun e => Less ((t, p) :: env') e)
    (h2 : b = !want → Ev P n all σ env (l.take k) fun e => Less ((t, p) :: env') e)
    (h3 : Ev P n all σ ((t, p) :: env') (l.drop k) K) : Ev P n all σ env l K := by
  have key : (Ev P n all σ env (l.take k) fun e => Less ((t, p) :: env') e) → Ev P n all σ env l K := by
    intro h
    rw [← List.take_append_drop k l]
    refine Ev.append (Ev.monoK (fun e he => ?_) h)
    exact Ev.less hK he h3
  cases b with
  | true => cases want with
    | true => exact key (h1 rfl)
    | false => exact key (h2 rfl)
  | false => cases want with
    | true => exact key (h2 rfl)
    | false => exact key (h1 rfl)
theorem hKA {L2 : List Oper} (e e' : Env) (h : Less e' e) (k : AR P n all L2 e' σ ds Q) : AR P n all L2 e σ ds Q := AR.less h k
theorem hKL {X : Env} (e e' : Env) (h : Less e' e) (k : Less X e') : Less X e := k.trans h
theorem AR.join1 (k g t : Nat) (want : Bool) (keep : List Nat) {b : Bool} (x : Bool) {env' : Env}
    (hb : env.get g = .bool b) (hk : settle keep env = some env')
    (h1 : b = want → AR P n all (l.take k) env σ ds fun ax e s d => ax = .normal ∧ e = (t, .bool x) :: env' ∧ s = σ ∧ d = ds)
    (h2 : b = !want → AR P n all (l.take k) env σ ds fun ax e s d => ax = .normal ∧ e = (t, .bool x) :: env' ∧ s = σ ∧ d = ds)
    (h3 : AR P n all (l.drop k) ((t, .bool x) :: env') σ ds Q) : AR P n all l env σ ds Q :=
  AR.join k g t want keep (x := x) (y := x) hb hk h1 h2 (by cases (b == want) <;> exact h3)
end
section
variable {P : Program} {n : Nat} {env : Env} {σ : List Res} {ds : List Deferred} {Q : Post}
theorem AW.loopF1 {A0 : Type} {c : Code} (E : A0 → Env) (T : A0 → List Res) (I : Nat → A0 → Prop) (k0 : Nat) (x0 : A0) (h0 : env = E x0) (h1 : σ = T x0) (h2 : I k0 x0)
    (z : ∀ x0, I 0 x0 → False)
    (round : ∀ k x0, I (k + 1) x0 → AW P n c (E x0) (T x0) ds (AX.then (fun e s d => ∃ y0, e = E y0 ∧ s = T y0 ∧ d = ds ∧ I k y0) Q)) : AW P n (.loop c) env σ ds Q := by
  refine AW.loop (α := Nat × (A0)) (fun q => E (q.2)) (fun q => T (q.2)) (fun q => I q.1 (q.2)) (fun q => q.1) (k0, (x0)) h0 h1 h2 ?_
  rintro ⟨k, q⟩ hI
  cases k with
  | zero => exact (z _ hI).elim
  | succ k =>
    refine (round k (q) hI).mono fun x e s d hx => ?_
    cases x with
    | normal => obtain ⟨y0, h3, h4, h5, h6⟩ := hx; exact ⟨(k, (y0)), h3, h4, h5, h6, Nat.lt_succ_self k⟩
    | exit id => exact hx
    | ret => exact hx
    | panic p => exact hx
theorem AW.loopF2 {A0 : Type} {A1 : Type} {c : Code} (E : A0 → A1 → Env) (T : A0 → A1 → List Res) (I : Nat → A0 → A1 → Prop) (k0 : Nat) (x0 : A0) (x1 : A1) (h0 : env = E x0 x1) (h1 : σ = T x0 x1) (h2 : I k0 x0 x1)
    (z : ∀ x0 x1, I 0 x0 x1 → False)
    (round : ∀ k x0 x1, I (k + 1) x0 x1 → AW P n c (E x0 x1) (T x0 x1) ds (AX.then (fun e s d => ∃ y0 y1, e = E y0 y1 ∧ s = T y0 y1 ∧ d = ds ∧ I k y0 y1) Q)) : AW P n (.loop c) env σ ds Q := by
  refine AW.loop (α := Nat × (A0 × A1)) (fun q => E (q.2.1) (q.2.2)) (fun q => T (q.2.1) (q.2.2)) (fun q => I q.1 (q.2.1) (q.2.2)) (fun q => q.1) (k0, (x0, x1)) h0 h1 h2 ?_
  rintro ⟨k, q⟩ hI
  cases k with
  | zero => exact (z _ _ hI).elim
  | succ k =>
    refine (round k (q.1) (q.2) hI).mono fun x e s d hx => ?_
    cases x with
    | normal => obtain ⟨y0, y1, h3, h4, h5, h6⟩ := hx; exact ⟨(k, (y0, y1)), h3, h4, h5, h6, Nat.lt_succ_self k⟩
    | exit id => exact hx
    | ret => exact hx
    | panic p => exact hx
theorem AW.cutF2 {A0 : Type} {A1 : Type} {c : Code} (E : A0 → A1 → Env) (T : A0 → A1 → List Res) (I : A0 → A1 → Prop)
    (h : AW P n c env σ ds (AX.then (fun e s d => ∃ y0 y1, e = E y0 y1 ∧ s = T y0 y1 ∧ d = ds ∧ I y0 y1) Q)) (hq : ∀ x0 x1, I x0 x1 → Q .normal (E x0 x1) (T x0 x1) ds) : AW P n c env σ ds Q := by
  refine h.mono fun x e s d hx => ?_
  cases x with
  | normal => obtain ⟨y0, y1, rfl, rfl, rfl, hI⟩ := hx; exact hq _ _ hI
  | exit id => exact hx
  | ret => exact hx
  | panic p => exact hx
theorem AW.loopF3 {A0 : Type} {A1 : Type} {A2 : Type} {c : Code} (E : A0 → A1 → A2 → Env) (T : A0 → A1 → A2 → List Res) (I : Nat → A0 → A1 → A2 → Prop) (k0 : Nat) (x0 : A0) (x1 : A1) (x2 : A2) (h0 : env = E x0 x1 x2) (h1 : σ = T x0 x1 x2) (h2 : I k0 x0 x1 x2)
    (z : ∀ x0 x1 x2, I 0 x0 x1 x2 → False)
    (round : ∀ k x0 x1 x2, I (k + 1) x0 x1 x2 → AW P n c (E x0 x1 x2) (T x0 x1 x2) ds (AX.then (fun e s d => ∃ y0 y1 y2, e = E y0 y1 y2 ∧ s = T y0 y1 y2 ∧ d = ds ∧ I k y0 y1 y2) Q)) : AW P n (.loop c) env σ ds Q := by
  refine AW.loop (α := Nat × (A0 × A1 × A2)) (fun q => E (q.2.1) (q.2.2.1) (q.2.2.2)) (fun q => T (q.2.1) (q.2.2.1) (q.2.2.2)) (fun q => I q.1 (q.2.1) (q.2.2.1) (q.2.2.2)) (fun q => q.1) (k0, (x0, x1, x2)) h0 h1 h2 ?_
  rintro ⟨k, q⟩ hI
  cases k with
  | zero => exact (z _ _ _ hI).elim
  | succ k =>
    refine (round k (q.1) (q.2.1) (q.2.2) hI).mono fun x e s d hx => ?_
    cases x with
    | normal => obtain ⟨y0, y1, y2, h3, h4, h5, h6⟩ := hx; exact ⟨(k, (y0, y1, y2)), h3, h4, h5, h6, Nat.lt_succ_self k⟩
    | exit id => exact hx
    | ret => exact hx
    | panic p => exact hx
theorem AW.loopF5 {A0 : Type} {A1 : Type} {A2 : Type} {A3 : Type} {A4 : Type} {c : Code} (E : A0 → A1 → A2 → A3 → A4 → Env) (T : A0 → A1 → A2 → A3 → A4 → List Res) (I : Nat → A0 → A1 → A2 → A3 → A4 → Prop) (k0 : Nat) (x0 : A0) (x1 : A1) (x2 : A2) (x3 : A3) (x4 : A4) (h0 : env = E x0 x1 x2 x3 x4) (h1 : σ = T x0 x1 x2 x3 x4) (h2 : I k0 x0 x1 x2 x3 x4)
    (z : ∀ x0 x1 x2 x3 x4, I 0 x0 x1 x2 x3 x4 → False)
    (round : ∀ k x0 x1 x2 x3 x4, I (k + 1) x0 x1 x2 x3 x4 → AW P n c (E x0 x1 x2 x3 x4) (T x0 x1 x2 x3 x4) ds (AX.then (fun e s d => ∃ y0 y1 y2 y3 y4, e = E y0 y1 y2 y3 y4 ∧ s = T y0 y1 y2 y3 y4 ∧ d = ds ∧ I k y0 y1 y2 y3 y4) Q)) : AW P n (.loop c) env σ ds Q := by
  refine AW.loop (α := Nat × (A0 × A1 × A2 × A3 × A4)) (fun q => E (q.2.1) (q.2.2.1) (q.2.2.2.1) (q.2.2.2.2.1) (q.2.2.2.2.2)) (fun q => T (q.2.1) (q.2.2.1) (q.2.2.2.1) (q.2.2.2.2.1) (q.2.2.2.2.2)) (fun q => I q.1 (q.2.1) (q.2.2.1) (q.2.2.2.1) (q.2.2.2.2.1) (q.2.2.2.2.2)) (fun q => q.1) (k0, (x0, x1, x2, x3, x4)) h0 h1 h2 ?_
  rintro ⟨k, q⟩ hI
  cases k with
  | zero => exact (z _ _ _ _ _ hI).elim
  | succ k =>
    refine (round k (q.1) (q.2.1) (q.2.2.1) (q.2.2.2.1) (q.2.2.2.2) hI).mono fun x e s d hx => ?_
    cases x with
    | normal => obtain ⟨y0, y1, y2, y3, y4, h3, h4, h5, h6⟩ := hx; exact ⟨(k, (y0, y1, y2, y3, y4)), h3, h4, h5, h6, Nat.lt_succ_self k⟩
    | exit id => exact hx
    | ret => exact hx
    | panic p => exact hx
end
end Go.Abs

namespace Go.Abs
open Go Go.Ft
section
variable {P : Program} {o : Oper} {ρ : Operand → PV} {σ : List Res} {R S : PV → List Res → Prop}
theorem alloc_obj {w : World} {m : Imm} {σ : List Res} (hc : Conc w m σ) (ob : Obj) :
    Conc (w.alloc ob) (fun b off => m b off ∨ (b = w.heap.size ∧ False)) (.obj w.heap.size ob :: σ) := by
  have hc' := alloc_conc hc ob (fun _ => False)
  refine ⟨fun r hr => ?_, ?_, hc'.wf⟩
  · rcases List.mem_cons.1 hr with rfl | hr
    · refine ⟨heap_alloc_new w _, fun off ho => ?_⟩
      rcases ho with ho | ⟨_, ho⟩
      · have := hc.wf _ off ho; omega
      · exact ho
    · exact hc'.each r hr
  · simp only [fps, List.flatMap_cons, Res.fp, List.singleton_append, List.nodup_cons]
    refine ⟨fun hm => ?_, hc.apart⟩
    have := hc.fps_lt _ hm
    omega
theorem AO.range_str {t : TypeId} {x : Operand} {s : List UInt8} (ho : o.op = .range t x) (hu : P.underlying t = some .string) (hx : ρ x = .str s)
    (hR : ∀ b, R (.val (.pointer (some ⟨b, 0, none⟩))) (.obj b (.stringIter ⟨s.toArray⟩ 0) :: σ)) : AO P o ρ σ R S := by
  refine AO.of_run' fun w m ev hr hc => ?_
  have h1 := hr x (by simp [ho, Op.operands])
  rw [hx] at h1
  simp only [Rep] at h1
  have := alloc_obj hc (.stringIter ⟨s.toArray⟩ 0)
  refine ⟨_, _, .pointer (some ⟨w.heap.size, 0, none⟩), _, _, hR w.heap.size, ?_, by simp [Rep], this, alloc_trans hc _ _ fun b hb => ?_⟩
  · simp [execOp, ho, Instr.range, run_underlying hu, h1, go_sem]
  · simp [fps, Res.fp] at hb ⊢
    rcases hb with hb | hb
    · exact .inr hb
    · exact .inl hb
theorem run_getObj_it {w : World} {b : Nat} {s : ByteArray} {pos : Nat} (h : w.heap[b]? = some (.stringIter s pos)) : (getObj b).run P w = .ok (.stringIter s pos) w := by simp [getObj, Sem.run, h]
theorem AO.next_str {x : Operand} {s : List UInt8} {b pos i : Nat} (ho : o.op = .next x true) (hx : ρ x = .val (.pointer (some ⟨b, 0, none⟩))) (hi : σ[i]? = some (Res.obj b (.stringIter ⟨s.toArray⟩ pos)))
    (hlt : decide (pos < s.length) = true) (hR : R (.tuple [.bool true, .int .i64 (pos : Int), .int .i32 ((dec s pos).1 : Int)]) (σ.set i (.obj b (.stringIter ⟨s.toArray⟩ (pos + (dec s pos).2))))) : AO P o ρ σ R S := by
  have hlt := of_decide_eq_true hlt
  refine AO.of_run' fun w m ev hr hc => ?_
  have h1 := hr x (by simp [ho, Op.operands])
  rw [hx] at h1
  simp only [Rep] at h1
  obtain ⟨hb, hm⟩ := hc.each _ (List.mem_of_getElem? hi)
  have hblt : b < w.heap.size := by
    rcases Nat.lt_or_ge b w.heap.size with h | h
    · exact h
    · simp [Array.getElem?_eq_none h] at hb
  let w' : World := { w with heap := w.heap.setIfInBounds b (.stringIter ⟨s.toArray⟩ (pos + (dec s pos).2)) }
  have hb' : w'.heap[b]? = some (.stringIter ⟨s.toArray⟩ (pos + (dec s pos).2)) := by simp [w', hblt]
  obtain ⟨k1, k2⟩ := Conc.write (w' := w') (r' := .obj b (.stringIter ⟨s.toArray⟩ (pos + (dec s pos).2))) hc hi rfl rfl hm ⟨hb', hm⟩ ⟨rfl, rfl, rfl⟩ (by simp [w']) (fun k hk => by simp [w', Array.getElem?_setIfInBounds_ne (Ne.symm hk)])
  refine ⟨_, _, .tuple #[.bool true, .int .i64 (pos : Int), .int .i32 ((dec s pos).1 : Int)], w', m, hR, ?_, ?_, k1, k2⟩
  · have hsz : pos < (ByteArray.mk s.toArray).size := by simpa [ByteArray.size] using hlt
    simp [execOp, ho, Instr.next, h1, run_getObj_it hb, hsz, setObj, Sem.run, hb, w', dec, goInt, Instr.next]
  · simp only [Rep]
    exact ⟨_, rfl, RepL.cons rfl (RepL.cons rfl (RepL.cons rfl RepL.nil))⟩
theorem AO.next_over {x : Operand} {s : List UInt8} {b pos i : Nat} (ho : o.op = .next x true) (hx : ρ x = .val (.pointer (some ⟨b, 0, none⟩))) (hi : σ[i]? = some (Res.obj b (.stringIter ⟨s.toArray⟩ pos)))
    (hge : decide (pos < s.length) = false) (hR : R (.tuple [.bool false]) σ) : AO P o ρ σ R S := by
  have hge := of_decide_eq_false hge
  refine AO.of_same hR fun w m ev hr hc => ?_
  have h1 := hr x (by simp [ho, Op.operands])
  rw [hx] at h1
  simp only [Rep] at h1
  obtain ⟨hb, hm⟩ := hc.each _ (List.mem_of_getElem? hi)
  refine ⟨.tuple #[.bool false], ?_, ?_⟩
  · have hsz : ¬ pos < (ByteArray.mk s.toArray).size := by simpa [ByteArray.size] using hge
    simp [execOp, ho, Instr.next, h1, run_getObj_it hb, hsz]
  · simp only [Rep]
    exact ⟨_, rfl, RepL.cons rfl RepL.nil⟩
theorem Conc.tbox {w : World} {m : Imm} {σ : List Res} (h : Conc w m σ) {i b : Nat} {ty : TypeId} {cs : List PV} (hi : σ[i]? = some (Res.tbox b ty cs)) :
    ∃ vs : List Value, w.heap[b]? = some (.cells vs.toArray ty (0, 0)) ∧ RepL w m cs vs ∧ ∀ off, ¬ m b off := h.each _ (List.mem_of_getElem? hi)
theorem AO.load_tbox {t : TypeId} {x : Operand} {cs : List PV} {b off i : Nat} {ty : TypeId} {ag : Bool} {k : Nat} {p : PV} (ho : o.op = .load t x) (hx : ρ x = .val (.pointer (some ⟨b, off, none⟩))) (hi : σ[i]? = some (Res.tbox b ty cs))
    (ht : tyInfo P t = some (ag, k)) {cs' : List PV} (hd : dropO off cs = some cs') (hp : loadPV ag k cs' = some p) (hR : R p σ) : AO P o ρ σ R S := by
  obtain ⟨rfl, _⟩ := dropO_eq hd
  refine AO.of_same hR fun w m ev hr hc => ?_
  have h := hr x (by simp [ho, Op.operands])
  rw [hx] at h
  simp only [Rep] at h
  obtain ⟨vs, g1, g2, _⟩ := hc.tbox hi
  obtain ⟨v, h5, h6⟩ := run_loadVar' ht hp (g2.drop off) (b := b) (off := off) fun i v hv => by
    rw [cell_of_row w b (off + i) vs.toArray ty (0, 0) g1]
    simpa [List.getElem?_drop] using hv
  exact ⟨v, by simp [execOp, ho, Instr.loadAt, h, Instr.sureAddr, h5], h6⟩
theorem AO.store_tbox {t : TypeId} {x y : Operand} {cs new cs' : List PV} {b off i : Nat} {ty : TypeId} {ag : Bool} {k : Nat} {σ' : List Res} (ho : o.op = .store t x y) (hx : ρ x = .val (.pointer (some ⟨b, off, none⟩))) (hi : σ[i]? = some (Res.tbox b ty cs))
    (ht : tyInfo P t = some (ag, k)) (hnew : (ρ y).cellsO = some new) (hone : new.all PV.one = true) (hk : Nat.beq new.length k = true) (hput : putO cs off new = some cs') (hset : setO σ i (.tbox b ty cs') = some σ') (hR : R .undef σ') : AO P o ρ σ R S := by
  obtain ⟨hnew, hok⟩ := cellsO_eq hnew
  have hnew := hnew.symm
  have hk := Nat.eq_of_beq_eq_true hk
  obtain ⟨rfl, hfit⟩ := putO_eq hput
  have hset := setO_eq hset
  subst hset
  intro w m a K QC hr hc hK _
  have h := hr x (by simp [ho, Op.operands])
  have hy := hr y (by simp [ho, Op.operands])
  rw [hx] at h
  simp only [Rep] at h
  obtain ⟨vs, g1, g2, g3⟩ := hc.tbox hi
  have hyl := hy.cells hok
  rw [hnew] at hyl
  have hl := hyl.length_eq
  have hl2 := g2.length_eq
  have hst := run_storeCells_at P b off ty (a.eval y).cells.toList 0 vs.toArray w g1 (by simp at hl ⊢; omega) (hyl.oneCell hone)
  obtain ⟨_, hsz⟩ := run_isAgg ht w
  have hsize : (a.eval y).cells.size = k := by rw [← Array.length_toList, hl, hk]
  have hrun : (execOp a.eval o).run P w = .ok .skip (w.setRow b (vs.take off ++ ((a.eval y).cells.toList ++ vs.drop (off + (a.eval y).cells.toList.length))).toArray) := by
    simp only [execOp, ho, Instr.storeAt, h, Instr.sureAddr, storeVar, Sem.run_bind, Sem.run_pure, Result.andThen_ok, hsz, hsize, ne_eq, not_true_eq_false, if_false]
    rw [hst]
    simp
  have hl' : RepL w m (putCells cs off new) (vs.take off ++ ((a.eval y).cells.toList ++ vs.drop (off + (a.eval y).cells.toList.length))) := by
    unfold putCells
    refine (g2.take off).append (hyl.append ?_)
    rw [hl]
    exact g2.drop _
  have hrow := setRow_heap w b vs.toArray (vs.take off ++ ((a.eval y).cells.toList ++ vs.drop (off + (a.eval y).cells.toList.length))).toArray ty (0, 0) g1
  have hother : ∀ k, k ≠ b → (w.setRow b (vs.take off ++ ((a.eval y).cells.toList ++ vs.drop (off + (a.eval y).cells.toList.length))).toArray).heap[k]? = w.heap[k]? := fun k hk => setRow_other w b k _ hk
  have hle : Le w m (w.setRow b (vs.take off ++ ((a.eval y).cells.toList ++ vs.drop (off + (a.eval y).cells.toList.length))).toArray) m := by
    intro c off hco
    refine ⟨hco, World.cell?_of_block (w := w) (hother c ?_)⟩
    intro e; subst e; exact g3 off hco
  obtain ⟨k1, k2⟩ := Conc.write (r' := .tbox b ty (putCells cs off new)) hc hi rfl rfl g3 ⟨_, hrow, RepL.mono hle _ _ hl', g3⟩ ⟨rfl, rfl, rfl⟩ (by simp [World.setRow]) hother
  unfold Oper.wp
  rw [hrun]
  exact hK .undef _ _ _ m hR trivial k1 k2
theorem conc_cons {w : World} {m : Imm} {r : Res} {τ : List Res} (h : r.holds w m) (hn : r.fp.Nodup) (hd : ∀ b ∈ r.fp, b ∉ fps τ) (hc : Conc w m τ) : Conc w m (r :: τ) := by
  refine ⟨fun x hx => ?_, ?_, hc.wf⟩
  · rcases List.mem_cons.1 hx with rfl | hx
    · exact h
    · exact hc.each x hx
  · have e : fps (r :: τ) = r.fp ++ fps τ := by simp [fps]
    rw [e, List.nodup_append]
    exact ⟨hn, hc.apart, fun a ha b hb hab => hd a ha (hab ▸ hb)⟩
theorem AO.alloc_bld {e eu : TypeId} {cs : List PV} (ho : o.op = .alloc e) (hz : zeroPV P e = some cs) (hcs : cs = [.val (.pointer none), .own (.slice none 0 0) []])
    (hR : ∀ b, R (.val (.pointer (some ⟨b, 0, none⟩))) (.bld b (.slice none 0 0) e eu [] :: σ)) : AO P o ρ σ R S := by
  refine AO.of_run' fun w m ev hr hc => ?_
  obtain ⟨z, h1, h2⟩ := run_zero hz w
  have hz' : z.cells.toList = [.pointer none, .slice none 0 0] := by
    have := h2 m
    rw [hcs] at this
    simp only [RepL, Rep] at this
    obtain ⟨v, vs, e1, rfl, v2, vs2, rfl, ⟨rfl, _⟩, rfl⟩ := this
    exact e1
  have hz'' : z.cells = #[.pointer none, .slice none 0 0] := by rw [← Array.toArray_toList (xs := z.cells), hz']
  have hc' := alloc_conc hc (.cells z.cells e) (fun _ => False)
  have hnew : Conc (w.alloc (.cells z.cells e)) (fun b off => m b off ∨ (b = w.heap.size ∧ False)) (.bld w.heap.size (.slice none 0 0) e eu [] :: σ) := by
    refine conc_cons ⟨⟨.pointer none, .inl rfl, ?_⟩, fun off ho => ?_, rfl, ⟨rfl, .inl ⟨rfl, rfl⟩⟩, fun g hg => by cases hg⟩ (by simp [Res.fp, Value.ownBlock]) (fun b hb hm => ?_) hc'
    · rw [heap_alloc_new w _, hz'']
    · rcases ho with ho | ⟨_, ho⟩
      · have := hc.wf _ off ho; omega
      · exact ho
    · simp [Res.fp, Value.ownBlock] at hb
      subst hb
      have := hc.fps_lt _ hm
      omega
  refine ⟨_, _, .pointer (some ⟨w.heap.size, 0, none⟩), _, _, hR w.heap.size, ?_, by simp [Rep], hnew, alloc_trans hc _ _ fun b hb => ?_⟩
  · simp [execOp, ho, Instr.alloc, newVar, newRow, h1, go_sem]
  · simp [fps, Res.fp, Value.ownBlock] at hb ⊢
    rcases hb with hb | hb
    · exact .inr hb
    · exact .inl hb
theorem Conc.open_bld {w : World} {m : Imm} {b : Nat} {v : Value} {ty e : TypeId} {bs : List UInt8} {τ : List Res} (hc : Conc w m (.bld b v ty e bs :: τ)) :
    ∃ p m', (p = Value.pointer none ∨ p = .pointer (some ⟨b, 0, none⟩)) ∧ roomy v = true ∧ Conc w m' (.tbox b ty [.val p, .own v (bs.map byteC)] :: .row v bs.length 1 e :: τ) ∧
      Trans w m (.bld b v ty e bs :: τ) w m' (.tbox b ty [.val p, .own v (bs.map byteC)] :: .row v bs.length 1 e :: τ) := by
  obtain ⟨⟨p, hp, hb⟩, hmb, hroom, hrow, himm⟩ := hc.each _ List.mem_cons_self
  have hap := hc.apart
  have efps : fps (.bld b v ty e bs :: τ) = b :: (v.ownBlock.toList ++ fps τ) := by simp [fps, Res.fp]
  rw [efps, List.nodup_cons, List.nodup_append] at hap
  have hbn : v.ownBlock ≠ some b := fun h => hap.1 (by simp [h])
  have hle : Le w m w (fun c off => m c off ∨ (v.ownBlock = some c ∧ off < bs.length * 1)) := fun c off h => ⟨.inl h, rfl⟩
  have hc2 : Conc w m τ := Conc.sub hc (List.sublist_cons_self _ _)
  have hτ : Conc w (fun c off => m c off ∨ (v.ownBlock = some c ∧ off < bs.length * 1)) τ := by
    refine ⟨fun r hr => Res.holds_keep (hc2.each r hr) hle fun c hcf => ⟨rfl, fun off h => ?_⟩, hc2.apart, fun c off h => ?_⟩
    · rcases h with h | ⟨h, _⟩
      · exact h
      · exact absurd rfl (hap.2.2.2 c (by simp [h]) c (by simp only [fps, List.mem_flatMap]; exact ⟨r, hr, hcf⟩))
    · rcases h with h | ⟨h, _⟩
      · exact hc.wf c off h
      · exact hrow.block_lt h
  have hrep : Rep w (fun c off => m c off ∨ (v.ownBlock = some c ∧ off < bs.length * 1)) (.own v (bs.map byteC)) v := by
    simp only [Rep]
    refine ⟨trivial, ?_⟩
    rcases hrow.2 with ⟨rfl, hn⟩ | ⟨g, cap, cur, fz, rfl, hg, hfz, hnc, hcm, hcs, htake⟩
    · exact ⟨none, 0, by simp [hn], by simp [hn], .inl (by simpa using List.eq_nil_of_length_eq_zero hn)⟩
    · refine ⟨some ⟨g, 0, none⟩, cap, by simp, by simp; omega, .inr ⟨g, 0, 1, rfl, RepEls_iff.2 ⟨byteC_len bs, RepCs_iff.2 ⟨bs.map fun c => .int .u8 (c.toNat : Int), ?_, fun j u hj => ⟨.inr ⟨rfl, ?_⟩, ?_⟩⟩⟩⟩⟩
      · rw [byteC_flat]; exact (repL_bytes bs _).2 rfl
      · have := (List.getElem?_eq_some_iff.1 hj).1
        simp at this; omega
      · have hlt : j < bs.length * 1 := by have := (List.getElem?_eq_some_iff.1 hj).1; simp at this; omega
        rw [Nat.zero_add, hrow.cell (b := g) rfl hlt]
        exact hj
  have hfpv : ∀ c ∈ (Res.row v bs.length 1 e).fp, c ∉ fps τ := fun c hcf => hap.2.2.2 c hcf c |> fun h => fun hm => h hm rfl
  have hrowc : Conc w (fun c off => m c off ∨ (v.ownBlock = some c ∧ off < bs.length * 1)) (.row v bs.length 1 e :: τ) := by
    refine conc_cons ⟨_, hrow, fun c hcv off h => ?_⟩ (by cases h : v.ownBlock <;> simp [Res.fp, h]) hfpv hτ
    rcases h with h | h
    · exact himm c hcv off h
    · exact h.2
  refine ⟨p, _, hp, hroom, conc_cons ⟨[p, v], hb, RepL.cons (by simp [Rep]) (RepL.cons hrep RepL.nil), fun off h => ?_⟩ (by simp [Res.fp]) (fun c hcf => ?_) hrowc, ⟨rfl, rfl, rfl, Nat.le_refl _, hle, fun c _ hn => ⟨rfl, fun off h => ?_⟩, fun c hcf => .inl ?_, Nat.le_refl _⟩⟩
  · rcases h with h | ⟨h, _⟩
    · exact hmb off h
    · exact hbn h
  · simp only [Res.fp, List.mem_singleton] at hcf
    subst hcf
    have : fps (.row v bs.length 1 e :: τ) = v.ownBlock.toList ++ fps τ := by simp [fps, Res.fp]
    rw [this]
    exact hap.1
  · rcases h with h | ⟨h, _⟩
    · exact h
    · exact absurd (by rw [efps]; simp [h]) hn
  · have : fps (.tbox b ty [.val p, .own v (bs.map byteC)] :: .row v bs.length 1 e :: τ) = b :: (v.ownBlock.toList ++ fps τ) := by simp [fps, Res.fp]
    rw [this] at hcf
    rw [efps]; exact hcf
theorem own_vals {w : World} {m : Imm} {v : Value} {n sz : Nat} {e : TypeId} {xs : List Value} {l : List (List PV)} (hrow : OwnRow w e sz v n xs) (hn : l.length = n) (hsz : ∀ x ∈ l, x.length = sz) (hl : Rep w m (.own v l) v) : RepL w m l.flatten xs := by
  simp only [Rep] at hl
  obtain ⟨_, a, cap, h1, h2, h3⟩ := hl
  rcases h3 with h3 | ⟨b, off, sz', rfl, h4⟩
  · subst h3
    have : xs = [] := List.eq_nil_of_length_eq_zero (by rw [hrow.1]; simp at hn; simp [← hn])
    subst this
    simpa using RepL.nil
  · obtain ⟨vs, k1, k2⟩ := RepCs_iff.1 (RepEls_iff.1 h4).2
    have hvx : vs = xs := by
      rcases hrow.2 with ⟨rfl, _⟩ | ⟨g, cap0, cur, fz, rfl, hg1, _, _, _, _, htake⟩
      · cases h1
      · cases h1
        have hvl : vs.length = xs.length := by
          rw [k1.length_eq, hrow.1]
          have : ∀ (l : List (List PV)), (∀ x ∈ l, x.length = sz) → l.flatten.length = l.length * sz := by
            intro l
            induction l with
            | nil => simp
            | cons e es ih =>
              intro h
              have h0 := h e (by simp)
              have := ih fun x hx => h x (by simp [hx])
              simp only [List.flatten_cons, List.length_append, List.length_cons, this, h0, Nat.add_mul]
              omega
          rw [this l hsz]
        apply List.ext_getElem hvl
        intro j h1 h2
        have h5 := (k2 j vs[j] (by simp [h1])).2
        rw [Nat.zero_add, OwnRow.cell hrow (b := b) rfl (by rw [← hrow.1]; exact h2)] at h5
        simpa [h2] using h5.symm
    subst hvx
    exact k1
theorem Conc.close_bld {w : World} {m : Imm} {b : Nat} {v p : Value} {ty e : TypeId} {bs : List UInt8} {τ : List Res} (hp : p = Value.pointer none ∨ p = .pointer (some ⟨b, 0, none⟩)) (hroom : roomy v = true)
    (hc : Conc w m (.tbox b ty [.val p, .own v (bs.map byteC)] :: .row v bs.length 1 e :: τ)) :
    Conc w m (.bld b v ty e bs :: τ) ∧ Trans w m (.tbox b ty [.val p, .own v (bs.map byteC)] :: .row v bs.length 1 e :: τ) w m (.bld b v ty e bs :: τ) := by
  obtain ⟨vs, hb, hrep, hmb⟩ := hc.each _ List.mem_cons_self
  obtain ⟨xs, hrow, himm⟩ := hc.each (.row v bs.length 1 e) (by simp)
  have efps : fps (.tbox b ty [.val p, .own v (bs.map byteC)] :: .row v bs.length 1 e :: τ) = fps (.bld b v ty e bs :: τ) := by simp [fps, Res.fp]
  simp only [RepL] at hrep
  obtain ⟨v1, vs1, rfl, h1, v2, vs2, rfl, h2, rfl⟩ := hrep
  simp only [Rep] at h1
  subst h1
  have h2' := h2
  simp only [Rep] at h2'
  obtain ⟨rfl, _⟩ := h2'
  have hx := own_vals hrow (by simp) (byteC_len bs) h2
  rw [byteC_flat] at hx
  have hx := (repL_bytes bs xs).1 hx
  subst hx
  refine ⟨⟨fun r hr => ?_, by rw [← efps]; exact hc.apart, hc.wf⟩, ⟨rfl, rfl, rfl, Nat.le_refl _, Le.refl _ _, fun _ _ _ => ⟨rfl, fun _ h => h⟩, fun c hcf => .inl (by rw [efps]; exact hcf), Nat.le_refl _⟩⟩
  rcases List.mem_cons.1 hr with rfl | hr
  · exact ⟨⟨_, hp, hb⟩, hmb, hroom, hrow, himm⟩
  · exact hc.each r (by simp [hr])
theorem AC.bld {P : Program} {f : FuncId} {args : List PV} {b : Nat} {v : Value} {ty e : TypeId} {bs : List UInt8} {R : AOut → List Res → Prop}
    (h : ∀ p, (p = Value.pointer Option.none ∨ p = .pointer (some ⟨b, 0, Option.none⟩)) → roomy v = true → AC P f args [.tbox b ty [.val p, .own v (bs.map byteC)], .row v bs.length 1 e] fun out σ' =>
      ∃ p' v' bs', σ' = [.tbox b ty [.val p', .own v' (bs'.map byteC)], .row v' bs'.length 1 e] ∧ (p' = Value.pointer Option.none ∨ p' = .pointer (some ⟨b, 0, Option.none⟩)) ∧ roomy v' = true ∧ R out [.bld b v' ty e bs']) :
    AC P f args [.bld b v ty e bs] R := by
  intro w m vs hc hv
  obtain ⟨p, m', hp, hroom, hc', ht⟩ := hc.open_bld
  refine (h p hp hroom w m' vs hc' (RepL.mono ht.le _ _ hv)).mono fun en w' ⟨out, σ', m'', ⟨p', v', bs', hσ, hp', hroom', hR⟩, hout, hc'', ht'⟩ => ?_
  subst hσ
  obtain ⟨k1, k2⟩ := hc''.close_bld hp' hroom'
  exact ⟨out, _, m'', hR, hout, k1, (ht.trans ht').trans k2⟩
end
end Go.Abs

namespace Go.Abs
open Go Go.Ft
section
variable {P : Program} {o : Oper} {ρ : Operand → PV} {σ : List Res} {R S : PV → List Res → Prop}
theorem AO.ptr_nil {t u te : TypeId} {x y : Operand} {q : Option Addr} (ho : o.op = .binOp .eql t x y u) (hu : P.underlying t = some (.pointer te)) (hx : ρ x = .val (.pointer q)) (hy : ρ y = .val (.pointer none))
    (hR : R (.bool q.isNone) σ) : AO P o ρ σ R S := by
  refine AO.of_same hR fun w m ev hr _ => ?_
  have h1 := hr x (by simp [ho, Op.operands])
  have h2 := hr y (by simp [ho, Op.operands])
  rw [hx] at h1
  rw [hy] at h2
  simp only [Rep] at h1 h2
  refine ⟨.bool q.isNone, ?_, by simp only [Rep]⟩
  have e1 : binOp .eql t (.pointer q) (.pointer none) = (do pure (.bool (← Op.equal t (.pointer q) (.pointer none)))) := rfl
  have e2 : (Op.equal t (.pointer q) (.pointer none)).run P w = .ok q.isNone w := by
    show (Op.equalIn (9999 + 1) t (.pointer q) (.pointer none)).run P w = _
    generalize 9999 = d
    unfold Op.equalIn
    simp only [Sem.run_bind, run_underlying hu, Result.andThen_ok]
    cases q <;> simp
  simp only [execOp, ho, h1, h2, e1, Sem.run_bind, Sem.run_pure]
  simp [eqGuard, e2]
theorem AO.ptr_neq_same {t u te : TypeId} {x y : Operand} {a : Addr} {j : TypeInfo} (ho : o.op = .binOp .neq t x y u) (hu : P.underlying t = some (.pointer te)) (hte : P.info? te = some j) (hx : ρ x = .val (.pointer (some a))) (hy : ρ y = .val (.pointer (some a)))
    (hR : R (.bool false) σ) : AO P o ρ σ R S := by
  refine AO.of_same hR fun w m ev hr _ => ?_
  have h1 := hr x (by simp [ho, Op.operands])
  have h2 := hr y (by simp [ho, Op.operands])
  rw [hx] at h1
  rw [hy] at h2
  simp only [Rep] at h1 h2
  refine ⟨.bool false, ?_, by simp only [Rep]⟩
  have e2 := Lib.run_neq_ptr_same w a hu hte
  simp only [execOp, ho, h1, h2, Sem.run_bind]
  simp [eqGuard, e2]
theorem sized {t n : Nat} (h : (P.info? t).map (·.size) = some n) (hn : (n != 0) = true) : ∃ j, P.info? t = some j ∧ (j.size != 0) = true := by
  cases e : P.info? t with
  | none => rw [e] at h; cases h
  | some j =>
    rw [e] at h
    simp only [Option.map_some, Option.some.injEq] at h
    exact ⟨j, rfl, by rw [h]; exact hn⟩
theorem AO.to_unsafe {src dst t e : TypeId} {x : Operand} {b i n : Nat} {cs : List PV} {j : TypeInfo} (ho : o.op = .convert src dst x) (hs : P.underlying src = some (.pointer t)) (hd : P.underlying dst = some .unsafePointer) (ht : P.info? t = some j) (hj : (j.size != 0) = true)
    (hx : ρ x = .val (.pointer (some ⟨b, 0, none⟩))) (hi : σ[i]? = some (Res.tbox b e cs)) (hn : cs.length = n + 1) (hR : R (.val (.pointer (some ⟨b, 0, none⟩))) σ) : AO P o ρ σ R S := by
  refine AO.of_same hR fun w m ev hr hc => ?_
  have h1 := hr x (by simp [ho, Op.operands])
  rw [hx] at h1
  simp only [Rep] at h1
  obtain ⟨vs, g1, g2, _⟩ := hc.tbox hi
  have hsh : w.shape? b = some (e, vs.length) := by simp [World.shape?, g1]
  have hl := g2.length_eq
  refine ⟨.pointer (some ⟨b, 0, none⟩), ?_, by simp only [Rep]⟩
  have := Lib.run_to_unsafe w ⟨b, 0, none⟩ hs hd ht (by simpa using hj) hsh (by show 0 < vs.length; omega)
  simp [execOp, ho, h1, this]
theorem AO.from_unsafe {src dst u e : TypeId} {x : Operand} {b i n : Nat} {cs : List PV} {j : TypeInfo} (ho : o.op = .convert src dst x) (hs : P.underlying src = some .unsafePointer) (hd : P.underlying dst = some (.pointer u)) (hu : P.info? u = some j)
    (hx : ρ x = .val (.pointer (some ⟨b, 0, none⟩))) (hi : σ[i]? = some (Res.tbox b e cs)) (hn : cs.length = n) (hlies : liesAt P P.depth e (n / P.cellsOf e) 0 u 1 = true) (hR : R (.val (.pointer (some ⟨b, 0, none⟩))) σ) : AO P o ρ σ R S := by
  refine AO.of_same hR fun w m ev hr hc => ?_
  have h1 := hr x (by simp [ho, Op.operands])
  rw [hx] at h1
  simp only [Rep] at h1
  obtain ⟨vs, g1, g2, _⟩ := hc.tbox hi
  have hsh : w.shape? b = some (e, n) := by simp [World.shape?, g1, ← hn, g2.length_eq]
  refine ⟨.pointer (some ⟨b, 0, none⟩), ?_, by simp only [Rep]⟩
  have := Lib.run_from_unsafe w ⟨b, 0, none⟩ hs hd hu hsh hlies
  simp [execOp, ho, h1, this]
theorem AO.noEscape {c : Call} {x cal : Operand} {f : FuncId} {fn : Func} {p : PV} (ho : o.op = .call c) (hcal : c.callee = .value cal) (hf : ρ cal = .fn f []) (hargs : c.args = #[x])
    (h1 : P.funcs[f]? = some fn) (h2 : (fn.name == "runtime.NumGoroutine") = false) (h3 : fn.body.isNone = true) (h4 : Extern.findNext fn = none) (h5 : Extern.find fn = some Extern.AbiNoEscape.same) (hx : ρ x = p)
    (hR : R p σ) : AO P o ρ σ R S := by
  refine AO.of_same hR fun w m ev hr _ => ?_
  have hv := hr x (by simp [ho, Op.operands, Call.operands, hcal, hargs])
  have hc := hr cal (by simp [ho, Op.operands, Call.operands, hcal, hargs])
  rw [hf] at hc
  simp only [Rep, RepL] at hc
  obtain ⟨cs, hc, rfl⟩ := hc
  rw [hx] at hv
  refine ⟨ev x, ?_, hv⟩
  have := run_callFunc_extern (P := P) h1 h2 h3 h4 h5 #[ev x] w
  rw [Lib.run_noEscape] at this
  simp only [Result.andThen] at this
  unfold execOp
  simp only [ho, resolve, hcal, hc, hargs, Deferred.ofValue, invoke, Sem.run_bind, Sem.run_pure, Result.andThen_ok]
  simp [this]
def ptrOf : Value → Option Addr
  | .slice a _ _ => a
  | _ => none
theorem AO.sliceData {c : Call} {x : Operand} {v : Value} {l : List (List PV)} (ho : o.op = .call c) (hcal : c.callee = .builtin .unsafeSliceData) (hargs : c.args = #[x]) (hx : ρ x = .own v l) (hroom : roomy v = true)
    (hR : R (.val (.pointer (ptrOf v))) σ) : AO P o ρ σ R S := by
  refine AO.of_same hR fun w m ev hr _ => ?_
  have h1 := hr x (by simp [ho, Op.operands, Call.operands, hcal, hargs])
  rw [hx] at h1
  simp only [Rep] at h1
  obtain ⟨h1, a, cap, h2, _⟩ := h1
  have h3 : v = .slice a l.length cap := h1 ▸ h2
  subst h3
  refine ⟨.pointer a, ?_, by simp only [Rep, ptrOf]⟩
  cases a with
  | none => simp [execOp, ho, resolve, hcal, hargs, invoke, builtin, h1, Lib.run_unsafeSliceData_nil]
  | some a =>
    have hc : cap ≠ 0 := by simpa [roomy] using hroom
    simp [execOp, ho, resolve, hcal, hargs, invoke, builtin, h1, Lib.run_unsafeSliceData_row _ _ _ _ _ _ hc]
theorem AO.unsafeString {c : Call} {x y : Operand} {pt it e eu : TypeId} {b : Nat} {v p : Value} {bs : List UInt8} (ho : o.op = .call c) (hcal : c.callee = .builtin .unsafeString) (hargs : c.args = #[x, y]) (hty : c.argTypes = #[pt, it])
    (hp : P.underlying pt = some (.pointer eu)) (hce : P.cellsOf eu = 1) (hσ : σ = [.tbox b e [.val p, .own v (bs.map byteC)], .row v bs.length 1 eu]) (hx : ρ x = .val (.pointer (ptrOf v))) (hy : ρ y = .int .i64 bs.length)
    (hR : R (.str bs) []) : AO P o ρ σ R S := by
  subst hσ
  refine AO.of_run' fun w m ev hr hc => ?_
  have h1 := hr x (by simp [ho, Op.operands, Call.operands, hcal, hargs])
  have h2 := hr y (by simp [ho, Op.operands, Call.operands, hcal, hargs])
  rw [hx] at h1
  rw [hy] at h2
  simp only [Rep] at h1 h2
  obtain ⟨vs, g1, g2, _⟩ := hc.each (.tbox b e [.val p, .own v (bs.map byteC)]) (by simp)
  obtain ⟨xs, hrow, himm⟩ := hc.each (.row v bs.length 1 eu) (by simp)
  simp only [RepL] at g2
  obtain ⟨v1, vs1, rfl, g3, v2, vs2, rfl, g4, rfl⟩ := g2
  have hvv : v2 = v := by simp only [Rep] at g4; exact g4.1
  rw [hvv] at g4
  have hxs := own_vals hrow (by simp) (byteC_len bs) g4
  rw [byteC_flat] at hxs
  have hxs := (repL_bytes bs xs).1 hxs
  subst hxs
  have ex : ∀ r, (Builtin.unsafeString_ #[pt, it] o.type #[.pointer (ptrOf v), .int .i64 bs.length]).run P w = r → (execOp ev o).run P w = r.andThen fun v w' => .ok (.value v) w' := by
    intro r hr'
    simp [execOp, ho, resolve, hcal, hargs, hty, invoke, builtin, h1, h2]
    rw [← hr']
  have fin : ∀ w', w'.os = w.os → w'.tape = w.tape → w'.output = w.output → w'.heap.size = w.heap.size → w'.drawn = w.drawn → (∀ k a, (w'.cell? ⟨k, a, none⟩) = w.cell? ⟨k, a, none⟩) → (∀ k, v.ownBlock ≠ some k → w'.heap[k]? = w.heap[k]?) →
      Conc w' m [] ∧ Trans w m [.tbox b e [.val p, .own v (bs.map byteC)], .row v bs.length 1 eu] w' m [] := by
    intro w' e1 e2 e3 e4 ed e5 e6
    refine ⟨⟨by simp, by simp [fps], fun c off h => by rw [e4]; exact hc.wf c off h⟩, ⟨e1, e2, e3, by omega, fun c off h => ⟨h, e5 c off⟩, fun c hcl hn => ⟨e6 c fun h => hn ?_, fun _ h => h⟩, by simp [fps], Nat.le_of_eq ed.symm⟩⟩
    simp [fps, Res.fp, h]
  by_cases h0 : bs = []
  · subst h0
    have hrun := Lib.run_unsafeString_none (P := P) w pt it o.type (ptrOf v)
    obtain ⟨k1, k2⟩ := fin w rfl rfl rfl rfl rfl (fun _ _ => rfl) (fun _ _ => rfl)
    exact ⟨.str [], [], .string .empty, w, m, hR, by rw [ex _ (by simpa using hrun)]; rfl, by simp only [Rep]; rfl, k1, k2⟩
  · rcases hrow.2 with ⟨_, hn⟩ | ⟨g, cap, cur, fz, rfl, hg, hfz, hnc, hcm, hcs, htake⟩
    · exact absurd (List.eq_nil_of_length_eq_zero hn) h0
    · have hsh : w.shape? g = some (eu, cur.size) := by simp [World.shape?, hg]
      have hrun := Lib.run_unsafeString_row (P := P) w pt it o.type eu hp hce g cur.size hsh bs h0 (by omega) (by unfold maxLen at hcm; omega) (fun j x hj => by
        rw [Addr.add_lit, Nat.zero_add, hrow.cell (b := g) rfl (by have := (List.getElem?_eq_some_iff.1 hj).1; omega)]
        simp [hj])
      have hz : bs.length ≠ 0 := by simpa using h0
      have hsame : ∀ k, k ≠ g → (w.freeze ⟨g, 0, none⟩ bs.length).heap[k]? = w.heap[k]? := by
        intro k hk
        simp [World.freeze, hz, Array.getElem?_modify, Ne.symm hk]
      have hcell : ∀ k a, (w.freeze ⟨g, 0, none⟩ bs.length).cell? ⟨k, a, none⟩ = w.cell? ⟨k, a, none⟩ := by
        intro k a
        by_cases hk : k = g
        · subst hk
          simp [World.cell?, World.freeze, hz, Array.getElem?_modify, hg]
        · simp only [World.cell?, hsame k hk]
      obtain ⟨k1, k2⟩ := fin (w.freeze ⟨g, 0, none⟩ bs.length) (by simp [World.freeze, hz]) (by simp [World.freeze, hz]) (by simp [World.freeze, hz]) (by simp [World.freeze, hz]) (by simp [World.freeze, hz]) hcell (fun k hk => hsame k fun e => hk (by subst e; rfl))
      refine ⟨.str bs, [], .string ⟨bs.toArray⟩, _, m, hR, ?_, by simp only [Rep], k1, k2⟩
      rw [ex _ hrun]
      rfl
theorem AC.bld_end {P : Program} {f : FuncId} {args : List PV} {b : Nat} {v : Value} {ty e : TypeId} {bs : List UInt8} {R : AOut → List Res → Prop}
    (h : ∀ p, roomy v = true → AC P f args [.tbox b ty [.val p, .own v (bs.map byteC)], .row v bs.length 1 e] R) : AC P f args [.bld b v ty e bs] R := by
  intro w m vs hc hv
  obtain ⟨p, m', _, hroom, hc', ht⟩ := hc.open_bld
  refine (h p hroom w m' vs hc' (RepL.mono ht.le _ _ hv)).mono fun en w' ⟨out, σ', m'', hR, hout, hc'', ht'⟩ => ?_
  exact ⟨out, _, m'', hR, hout, hc'', ht.trans ht'⟩
theorem AO.app_bytes {c : Call} {s x : Operand} {t tx e : TypeId} {v : Value} {i : Nat} {l m r : List UInt8} (hv : app l m = some r) (ho : o.op = .call c) (hcal : c.callee = .builtin .append) (hargs : c.args = #[s, x]) (hty : c.argTypes = #[t, tx])
    (hs : ρ s = .own v (l.map byteC)) (hx : SrcPV P 1 tx (ρ x) (m.map byteC)) (hi : σ[i]? = some (Res.row v l.length 1 e)) (hf : SliceFact P t e 1 1)
    (hR : ∀ v' σ', setO σ i (.row v' r.length 1 e) = some σ' → (roomy v = true → roomy v' = true) → R (.own v' (r.map byteC)) σ') : AO P o ρ σ R S := by
  obtain ⟨h1, rfl⟩ := app_some hv
  have hlim : l.length + m.length ≤ 4294967296 := h1
  refine AO.appendS ho hcal hargs hty hs hx hi hf (by simp) (byteC_len l) (byteC_len m) (by simp only [List.length_map]; exact Nat.le_trans h1 LIM_le) (by simp only [List.length_map]; omega) ?_
  intro v' σ' h h'
  rw [← List.map_append]
  exact hR v' σ' (by simpa using h) h'
theorem AC.one {P : Program} {f : FuncId} {args : List PV} {σ : List Res} {R : AOut → List Res → Prop} {r : Res} (i : Nat) (hi : σ[i]? = some r)
    (h : AC P f args [r] fun out σ' => ∃ r', σ' = [r'] ∧ R out (σ.set i r')) : AC P f args σ R := by
  intro w m vs hc hv
  have hc1 := hc.perm (one_rest hi r).1
  refine (h w m vs hc1.left hv).mono fun en w' ⟨out, σ', m', ⟨r', hσ, hR⟩, hout, hc', ht⟩ => ?_
  subst hσ
  obtain ⟨f1, f2⟩ := Conc.frame hc1 hc' ht
  obtain ⟨p1, p2⟩ := one_rest hi r'
  exact ⟨out, _, m', hR, hout, f1.perm p2.symm, f2.perm p1.symm p2.symm⟩
theorem AC.one_end {P : Program} {f : FuncId} {args : List PV} {σ : List Res} {R : AOut → List Res → Prop} {r : Res} (i : Nat) (hi : σ[i]? = some r)
    (h : AC P f args [r] fun out σ' => R out (σ.eraseIdx i)) : AC P f args σ R := by
  intro w m vs hc hv
  have hp := (one_rest hi r).1
  have hc1 := hc.perm hp
  refine (h w m vs hc1.left hv).mono fun en w' ⟨out, σ', m', hR, hout, hc', ht⟩ => ?_
  obtain ⟨f1, f2⟩ := Conc.frame hc1 hc' ht
  exact ⟨out, _, m', hR, hout, f1.sub (List.sublist_append_right _ _), (f2.perm hp.symm (List.Perm.refl _)).sub (List.sublist_append_right _ _)⟩
end
end Go.Abs

namespace Go.Abs
open Go Go.Ft
structure Facts where
  ti : List (Nat × Bool × Nat)
  fo : List (Nat × Nat × Nat)
  fd : List (Nat × Nat × Nat × Bool × Nat)
  str : List Nat
def findTi : List (Nat × Bool × Nat) → Nat → Option (Bool × Nat)
  | [], _ => none
  | (t, x) :: r, u => bif Nat.beq t u then some x else findTi r u
def findFo : List (Nat × Nat × Nat) → Nat → Nat → Option Nat
  | [], _, _ => none
  | (t, f, x) :: r, u, g => bif (Nat.beq t u && Nat.beq f g) then some x else findFo r u g
def findFd : List (Nat × Nat × Nat × Bool × Nat) → Nat → Nat → Option (Nat × Bool × Nat)
  | [], _, _ => none
  | (t, f, x) :: r, u, g => bif (Nat.beq t u && Nat.beq f g) then some x else findFd r u g
def fdB (P : Program) (t f : Nat) (off : Nat) (ag : Bool) (k : Nat) : Bool :=
  match P.underlying t with
  | some (.struct fs) => match fs[f]? with
    | some fl => Nat.beq fl.offset off && (match tyInfo P fl.type with | some (a, n) => (a == ag) && Nat.beq n k | none => false)
    | none => false
  | _ => false
def strB (P : Program) (t : Nat) : Bool := match P.underlying t with | some .string => true | _ => false
def Facts.okB (F : Facts) (P : Program) : Bool :=
  (F.ti.all fun x => match tyInfo P x.1 with | some (a, n) => (a == x.2.1) && Nat.beq n x.2.2 | none => false) &&
  (F.fo.all fun x => match fieldOff P x.1 x.2.1 with | some n => Nat.beq n x.2.2 | none => false) &&
  (F.fd.all fun x => fdB P x.1 x.2.1 x.2.2.1 x.2.2.2.1 x.2.2.2.2) &&
  (F.str.all fun t => strB P t)
section
variable {P : Program} {F : Facts}
theorem Facts.tiOk (h : F.okB P = true) {t : Nat} {x : Bool × Nat} (hf : findTi F.ti t = some x) : tyInfo P t = some x := by
  simp only [Facts.okB, Bool.and_eq_true] at h
  have h := h.1.1.1
  revert hf h
  generalize F.ti = l
  induction l with
  | nil => intro hf _; cases hf
  | cons y l ih =>
    obtain ⟨u, a, n⟩ := y
    intro hf h
    simp only [List.all_cons, Bool.and_eq_true] at h
    unfold findTi at hf
    cases e : Nat.beq u t with
    | true =>
      rw [e] at hf
      simp only [cond_true, Option.some.injEq] at hf
      subst hf
      have := Nat.eq_of_beq_eq_true e
      subst this
      have h1 := h.1
      split at h1
      · rename_i a' n' ht
        simp only [Bool.and_eq_true, beq_iff_eq] at h1
        rw [ht, h1.1, Nat.eq_of_beq_eq_true h1.2]
      · cases h1
    | false => rw [e] at hf; exact ih hf h.2
theorem Facts.foOk (h : F.okB P = true) {t f x : Nat} (hf : findFo F.fo t f = some x) : fieldOff P t f = some x := by
  simp only [Facts.okB, Bool.and_eq_true] at h
  have h := h.1.1.2
  revert hf h
  generalize F.fo = l
  induction l with
  | nil => intro hf _; cases hf
  | cons y l ih =>
    obtain ⟨u, g, n⟩ := y
    intro hf h
    simp only [List.all_cons, Bool.and_eq_true] at h
    unfold findFo at hf
    cases e : (Nat.beq u t && Nat.beq g f) with
    | true =>
      rw [e] at hf
      simp only [cond_true, Option.some.injEq] at hf
      subst hf
      simp only [Bool.and_eq_true] at e
      have e1 := Nat.eq_of_beq_eq_true e.1
      have e2 := Nat.eq_of_beq_eq_true e.2
      subst e1 e2
      have h1 := h.1
      split at h1
      · rename_i n' ht
        rw [ht, Nat.eq_of_beq_eq_true h1]
      · cases h1
    | false => rw [e] at hf; exact ih hf h.2
theorem Facts.fdOk (h : F.okB P = true) {t f off k : Nat} {ag : Bool} (hf : findFd F.fd t f = some (off, ag, k)) : fdB P t f off ag k = true := by
  simp only [Facts.okB, Bool.and_eq_true] at h
  have h := h.1.2
  revert hf h
  generalize F.fd = l
  induction l with
  | nil => intro hf _; cases hf
  | cons y l ih =>
    obtain ⟨u, g, n⟩ := y
    intro hf h
    simp only [List.all_cons, Bool.and_eq_true] at h
    unfold findFd at hf
    cases e : (Nat.beq u t && Nat.beq g f) with
    | true =>
      rw [e] at hf
      simp only [cond_true, Option.some.injEq] at hf
      subst hf
      simp only [Bool.and_eq_true] at e
      have e1 := Nat.eq_of_beq_eq_true e.1
      have e2 := Nat.eq_of_beq_eq_true e.2
      subst e1 e2
      exact h.1
    | false => rw [e] at hf; exact ih hf h.2
theorem fdB_spec {t f off k : Nat} {ag : Bool} (h : fdB P t f off ag k = true) : ∃ fs fl, P.underlying t = some (.struct fs) ∧ fs[f]? = some fl ∧ fl.offset = off ∧ tyInfo P fl.type = some (ag, k) := by
  unfold fdB at h
  split at h
  · rename_i fs hu
    split at h
    · rename_i fl hfl
      simp only [Bool.and_eq_true] at h
      refine ⟨fs, fl, hu, hfl, Nat.eq_of_beq_eq_true h.1, ?_⟩
      have h2 := h.2
      split at h2
      · rename_i a n ht
        simp only [Bool.and_eq_true, beq_iff_eq] at h2
        rw [ht, h2.1, Nat.eq_of_beq_eq_true h2.2]
      · cases h2
    · cases h
  · cases h
end
def pevF (F : Facts) (ρ : Operand → PV) : Op → Option PV
  | .nilCheck x => bif (ρ x).notNil then (ρ x).force else none
  | .fieldAddr s x f => match findFo F.fo s f with
    | some off => match ρ x with
      | .ref cs => match dropO off cs with
        | some r => some (.ref r)
        | none => none
      | .val (.pointer (some ⟨b, k, none⟩)) => some (.val (.pointer (some ⟨b, k + off, none⟩)))
      | _ => none
    | none => none
  | .load t x => match findTi F.ti t with
    | some (ag, k) => match ρ x with
      | .ref cs => loadPV ag k cs
      | _ => none
    | none => none
  | .field t x f => match findFd F.fd t f with
    | some (off, ag, k) => match ρ x with
      | .agg cs => match dropO off cs with
        | some r => loadPV ag k r
        | none => none
      | _ => none
    | none => none
  | op => pev ρ op
theorem pevF_sound {P : Program} {F : Facts} (hF : F.okB P = true) {o : Oper} {ρ : Operand → PV} {σ : List Res} {R S : PV → List Res → Prop} {p : PV} (h : pevF F ρ o.op = some p) (hR : R p σ) : AO P o ρ σ R S := by
  unfold pevF at h
  split at h
  · rename_i x ho
    cases e : (ρ x).notNil with
    | false => rw [e] at h; cases h
    | true =>
      rw [e] at h
      simp only [cond_true] at h
      rw [← PV.force_eq h] at hR
      exact AO.nilCheck ho e hR
  · rename_i s x f ho
    split at h
    · rename_i off hoff
      split at h
      · rename_i cs hx
        split at h
        · rename_i r hr
          simp only [Option.some.injEq] at h
          subst h
          exact AO.fieldAddr_ref ho hx (Facts.foOk hF hoff) hr hR
        · cases h
      · rename_i b k hx
        simp only [Option.some.injEq] at h
        subst h
        exact AO.fieldAddr_ptr ho hx (Facts.foOk hF hoff) hR
      · cases h
    · cases h
  · rename_i t x ho
    split at h
    · rename_i ag k hti
      split at h
      · rename_i cs hx
        exact AO.load_ref ho hx (Facts.tiOk hF hti) h hR
      · cases h
    · cases h
  · rename_i t x f ho
    split at h
    · rename_i off ag k hfd
      obtain ⟨fs, fl, h1, h2, h3, h4⟩ := fdB_spec (Facts.fdOk hF hfd)
      split at h
      · rename_i cs hx
        split at h
        · rename_i r hr
          exact AO.field ho h1 h2 h3 h4 hx hr h hR
        · cases h
      · cases h
    · cases h
  · exact AO.calc' h hR
def guardOn (all : Array Oper) (env : Env) : Option (Nat × Bool) → Option Bool
  | none => some true
  | some (j, want) => match all[j]? with
    | some oj => match oj.dst with
      | some u => match env.get u with
        | .bool true => some want
        | .bool false => some (!want)
        | .val (.tuple ⟨[]⟩) => some false
        | _ => none
      | none => none
    | none => none
theorem guardOn_some {all : Array Oper} {env : Env} {j : Nat} {want r : Bool} (h : guardOn all env (some (j, want)) = some r) :
    ∃ oj u, all[j]? = some oj ∧ oj.dst = some u ∧ ((r = true ∧ env.get u = .bool want) ∨ (r = false ∧ (env.get u = .bool (!want) ∨ env.get u = .val Go.undef))) := by
  unfold guardOn at h
  simp only at h
  cases h1 : all[j]? with
  | none => rw [h1] at h; cases h
  | some oj =>
    rw [h1] at h
    simp only at h
    cases h2 : oj.dst with
    | none => rw [h2] at h; cases h
    | some u =>
      rw [h2] at h
      simp only at h
      refine ⟨oj, u, rfl, h2, ?_⟩
      split at h
      · rename_i he
        simp only [Option.some.injEq] at h
        subst h
        cases want with
        | true => exact .inl ⟨rfl, he⟩
        | false => exact .inr ⟨rfl, .inl he⟩
      · rename_i he
        simp only [Option.some.injEq] at h
        subst h
        cases want with
        | true => exact .inr ⟨rfl, .inl he⟩
        | false => exact .inl ⟨rfl, he⟩
      · rename_i he
        simp only [Option.some.injEq] at h
        subst h
        exact .inr ⟨rfl, .inr he⟩
      · cases h
def pevs (F : Facts) (all : Array Oper) (n : Nat) : Nat → List Oper → Env → Option (Env × List Oper)
  | 0, l, env => some (env, l)
  | _ + 1, [], _ => none
  | k + 1, o :: rest, env => match o.dst with
    | some t => bif Nat.blt t n then (match guardOn all env o.guard with
      | some true => match pevF F env.ev o.op with
        | some p => pevs F all n k rest ((t, p) :: env)
        | none => none
      | some false => pevs F all n k rest ((t, .val Go.undef) :: env)
      | none => none) else none
    | none => none
section
variable {P : Program} {n : Nat} {σ : List Res} {ds : List Deferred} {Q : Post} {all : Array Oper} {F : Facts}
theorem AR.cs (hF : F.okB P = true) : ∀ (k : Nat) {l l' : List Oper} {env env' : Env}, pevs F all n k l env = some (env', l') → AR P n all l' env' σ ds Q → AR P n all l env σ ds Q
  | 0, l, l', env, env', h, hr => by simp only [pevs, Option.some.injEq, Prod.mk.injEq] at h; obtain ⟨rfl, rfl⟩ := h; exact hr
  | k + 1, [], l', env, env', h, hr => by simp [pevs] at h
  | k + 1, o :: rest, l', env, env', h, hr => by
    unfold pevs at h
    cases hd : o.dst with
    | none => rw [hd] at h; cases h
    | some t =>
      rw [hd] at h
      simp only at h
      cases ht : Nat.blt t n with
      | false => rw [ht] at h; cases h
      | true =>
        rw [ht] at h
        simp only [cond_true] at h
        cases hg : guardOn all env o.guard with
        | none => rw [hg] at h; cases h
        | some r =>
          rw [hg] at h
          cases r with
          | true =>
            simp only at h
            cases hp : pevF F env.ev o.op with
            | none => rw [hp] at h; cases h
            | some p =>
              rw [hp] at h
              have ih := AR.cs hF k h hr
              cases hgo : o.guard with
              | none => exact AR.step hgo hd ht (pevF_sound hF hp ih)
              | some jw =>
                obtain ⟨j, want⟩ := jw
                rw [hgo] at hg
                obtain ⟨oj, u, h1, h2, h3⟩ := guardOn_some hg
                rcases h3 with ⟨_, h3⟩ | ⟨h3, _⟩
                · refine AR.run (b := want) hgo h1 h2 h3 hd ht rfl ?_
                  exact AR.step rfl hd ht (pevF_sound hF hp ih)
                · cases h3
          | false =>
            simp only at h
            have ih := AR.cs hF k h hr
            cases hgo : o.guard with
            | none => rw [hgo] at hg; cases hg
            | some jw =>
              obtain ⟨j, want⟩ := jw
              rw [hgo] at hg
              obtain ⟨oj, u, h1, h2, h3⟩ := guardOn_some hg
              rcases h3 with ⟨h3, _⟩ | ⟨_, h3 | h3⟩
              · cases h3
              · exact AR.skip hgo h1 h2 h3 hd ht rfl ih
              · exact AR.skipU hgo h1 h2 h3 hd ht ih
theorem Ev.cs {K : Env → Prop} (hF : F.okB P = true) : ∀ (k : Nat) {l l' : List Oper} {env env' : Env}, pevs F all n k l env = some (env', l') → Ev P n all σ env' l' K → Ev P n all σ env l K
  | 0, l, l', env, env', h, hr => by simp only [pevs, Option.some.injEq, Prod.mk.injEq] at h; obtain ⟨rfl, rfl⟩ := h; exact hr
  | k + 1, [], l', env, env', h, hr => by simp [pevs] at h
  | k + 1, o :: rest, l', env, env', h, hr => by
    unfold pevs at h
    cases hd : o.dst with
    | none => rw [hd] at h; cases h
    | some t =>
      rw [hd] at h
      simp only at h
      cases ht : Nat.blt t n with
      | false => rw [ht] at h; cases h
      | true =>
        rw [ht] at h
        simp only [cond_true] at h
        cases hg : guardOn all env o.guard with
        | none => rw [hg] at h; cases h
        | some r =>
          rw [hg] at h
          cases r with
          | true =>
            simp only at h
            cases hp : pevF F env.ev o.op with
            | none => rw [hp] at h; cases h
            | some p =>
              rw [hp] at h
              have ih := Ev.cs hF k h hr
              cases hgo : o.guard with
              | none => exact Ev.cons hgo hd ht (pevF_sound hF hp ⟨rfl, rfl⟩) ih
              | some jw =>
                obtain ⟨j, want⟩ := jw
                rw [hgo] at hg
                obtain ⟨oj, u, h1, h2, h3⟩ := guardOn_some hg
                rcases h3 with ⟨_, h3⟩ | ⟨h3, _⟩
                · exact Ev.run (b := want) hgo h1 h2 h3 hd ht rfl (pevF_sound hF hp ⟨rfl, rfl⟩) ih
                · cases h3
          | false =>
            simp only at h
            have ih := Ev.cs hF k h hr
            cases hgo : o.guard with
            | none => rw [hgo] at hg; cases hg
            | some jw =>
              obtain ⟨j, want⟩ := jw
              rw [hgo] at hg
              obtain ⟨oj, u, h1, h2, h3⟩ := guardOn_some hg
              rcases h3 with ⟨h3, _⟩ | ⟨_, h3 | h3⟩
              · cases h3
              · exact Ev.skip hgo h1 h2 h3 hd ht rfl ih
              · exact Ev.skipU hgo h1 h2 h3 hd ht ih
theorem AR.is {l : List Oper} {env : Env} {b want : Bool} (u : Nat) (h : b = want) (hu : env.get u = .bool b) (hr : AR P n all l ((u, .bool want) :: env) σ ds Q) : AR P n all l env σ ds Q := by
  subst h
  refine AR.less ?_ hr
  intro t
  simp only [Env.get]
  cases e : Nat.beq u t with
  | false => exact .inr rfl
  | true => rw [← Nat.eq_of_beq_eq_true e]; exact .inr hu.symm
theorem Ev.is {K : Env → Prop} (hK : ∀ e e', Less e' e → K e' → K e) {l : List Oper} {env : Env} {b want : Bool} (u : Nat) (h : b = want) (hu : env.get u = .bool b) (hr : Ev P n all σ ((u, .bool want) :: env) l K) : Ev P n all σ env l K := by
  subst h
  refine Ev.less hK ?_ hr
  intro t
  simp only [Env.get]
  cases e : Nat.beq u t with
  | false => exact .inr rfl
  | true => rw [← Nat.eq_of_beq_eq_true e]; exact .inr hu.symm
theorem AR.go {t j u : Nat} {want : Bool} {oj o : Oper} {rest : List Oper} {env : Env} (hg : o.guard = some (j, want)) (hj : all[j]? = some oj) (hu : oj.dst = some u) (hb : env.get u = .bool want) (hd : o.dst = some t) (ht : Nat.blt t n = true)
    (h : AO P { o with guard := none } env.ev σ (fun p σ' => AR P n all rest ((t, p) :: env) σ' ds Q) (fun p σ' => Q (.panic p) env σ' ds)) : AR P n all (o :: rest) env σ ds Q :=
  AR.run hg hj hu hb hd ht rfl (AR.step rfl hd ht h)
end
end Go.Abs

namespace Go.Abs
open Go
mutual
def bulkD {H : Type} : DataW H → Nat
  | .lit (.string bytes) => bytes.length + 1
  | .lit _ => 1
  | .nil => 1
  | .ptr d => bulkD d + 1
  | .slice elems spare => bulkDAll elems + bulkDAll spare + 1
  | .agg parts => bulkDAll parts + 1
  | .iface _ d => bulkD d + 1
  | .map entries => bulkDEntries entries + 1
  | .held _ => 1
def bulkDAll {H : Type} : List (DataW H) → Nat
  | [] => 0
  | d :: r => bulkD d + bulkDAll r
def bulkDEntries {H : Type} : List (Lit × DataW H) → Nat
  | [] => 0
  | x :: r => bulkDEntry x + bulkDEntries r
def bulkDEntry {H : Type} : Lit × DataW H → Nat
  | (.string bytes, d) => bytes.length + bulkD d + 1
  | (_, d) => bulkD d + 1
end
inductive TyB (P : Program) : TypeId → List PV → Nat → Prop
  | bool {t : TypeId} {b : Bool} : P.underlying t = some .bool → TyB P t [.bool b] 1
  | int {t : TypeId} {k : IntKind} {n : Int} : P.underlying t = some (.int k) → (Lit.int k n).wf = true → TyB P t [.int k n] 1
  | str {t : TypeId} {s : List UInt8} : P.underlying t = some .string → TyB P t [.str s] (s.length + 1)
  | slice {t e : TypeId} {l : List (List PV × Nat)} : P.underlying t = some (.slice e) → (∀ c ∈ l, TyB P e c.1 c.2) → TyB P t [.list (l.map (·.1))] ((l.map (·.2)).sum + 1)
  | struct {t : TypeId} {fs : Array Field} {ps : List (List PV × Nat)} : P.underlying t = some (.struct fs) → ps.length = fs.toList.length → (∀ x ∈ fs.toList.zip ps, TyB P x.1.type x.2.1 x.2.2) → TyB P t (ps.map (·.1)).flatten ((ps.map (·.2)).sum + 1)
  | array {t e : TypeId} {n : Nat} {ps : List (List PV × Nat)} : P.underlying t = some (.array n e) → ps.length = n → (∀ c ∈ ps, TyB P e c.1 c.2) → TyB P t (ps.map (·.1)).flatten ((ps.map (·.2)).sum + 1)
theorem sum_le_bulk {H α : Type} {g : Nat → List PV × Nat} : ∀ {n s : Nat} {es : List (DataW H × α)}, n = es.length → (∀ i, i < n → ∀ y, es[i]? = some y → (g (s + i)).2 ≤ bulkD y.1) →
    ((((List.range' s n).map g).map (·.2))).sum ≤ bulkDAll (es.map (·.1))
  | 0, s, [], _, _ => by simp [bulkDAll]
  | n + 1, s, e :: es, hl, h => by
    rw [List.range'_succ]
    simp only [List.map_cons, List.sum_cons, bulkDAll]
    have h0 := h 0 (by omega) e rfl
    have ih := sum_le_bulk (g := g) (n := n) (s := s + 1) (es := es) (by simpa using hl) fun i hi y hy => by
      have := h (i + 1) (by omega) y (by simpa using hy)
      rwa [show s + 1 + i = s + (i + 1) from by omega]
    simp only [Nat.add_zero] at h0
    omega
  | 0, s, e :: es, hl, _ => by simp at hl
  | n + 1, s, [], hl, _ => by simp at hl
theorem sum_le_bulkM {H α β : Type} {f : β → Option (DataW H × α)} {g : β → Nat} : ∀ {l : List β} {xs : List (DataW H × α)}, l.mapM f = some xs → (∀ b ∈ l, ∀ y, f b = some y → g b ≤ bulkD y.1) → (l.map g).sum ≤ bulkDAll (xs.map (·.1))
  | [], xs, h, _ => by simp
  | b :: l, xs, h, hb => by
    rw [List.mapM_cons] at h
    cases e : f b with
    | none => simp [e] at h
    | some y =>
      cases e2 : l.mapM f with
      | none => simp [e, e2] at h
      | some ys =>
        simp [e, e2] at h
        subst h
        have h0 := hb b List.mem_cons_self y e
        have ih := sum_le_bulkM (g := g) e2 fun b' hb' => hb b' (List.mem_cons_of_mem _ hb')
        simp only [List.map_cons, List.sum_cons, bulkDAll]
        omega
section
variable {P : Program} {w : World}
theorem trod_repB {H : Type} {enc : TypeId × Value → H} {sp : Nat → Bool} {held : Bool} {S : List TypeId} (hS : ∀ t, S.contains t = true → plainIn P S t = true) :
    ∀ (fuel : Nat) (t : TypeId) (cs : List Value) (x : DataW H × List MemPlace), S.contains t = true → DataW.trod enc P w 0 sp held fuel t cs = some x → ∃ ps N, RepL w (OldImm w) ps cs ∧ TyB P t ps N ∧ N ≤ bulkD x.1 := by
  intro fuel
  induction fuel with
  | zero => intro t cs x _ h; simp [DataW.trod] at h
  | succ fuel ih =>
    intro t cs x ht h
    have hp := hS t ht
    unfold plainIn at hp
    split at hp
    · rename_i hu
      unfold DataW.trod at h
      rw [hu] at h
      split at h <;> simp_all
      rename_i b
      subst h; exact ⟨[.bool b], RepL.cons (by simp only [Rep]) RepL.nil, _, .bool hu, Nat.le_refl _⟩
    · rename_i k hu
      unfold DataW.trod at h
      rw [hu] at h
      split at h <;> simp_all
      rename_i k1 k' n hk
      obtain ⟨⟨rfl, hw⟩, rfl⟩ := h
      exact ⟨[.int k' n], RepL.cons (by simp only [Rep]) RepL.nil, _, .int hu hw, Nat.le_refl _⟩
    · rename_i hu
      unfold DataW.trod at h
      rw [hu] at h
      split at h <;> simp_all
      rename_i b
      obtain ⟨_, rfl⟩ := h
      exact ⟨[.str b.data.toList], RepL.cons (by simp only [Rep]) RepL.nil, _, .str hu, Nat.le_refl _⟩
    · rename_i e hu
      simp only [Bool.and_eq_true, decide_eq_true_eq] at hp
      unfold DataW.trod at h
      rw [hu] at h
      split at h <;> first | (exfalso; simp_all; done) | skip
      · cases h
        exact ⟨[.list []], _, RepL.cons (by simp only [Rep]; exact ⟨none, 0, rfl, Nat.le_refl _, .inl trivial⟩) RepL.nil, .slice (l := []) hu (by simp), Nat.le_refl _⟩
      · rename_i e' a len cap heq1
        cases heq1
        simp only at h
        split at h
        · rename_i hb
          cases hm : (List.range len).mapM fun i => (w.cells? 0 (a.add (i * P.cellsOf e)) (P.cellsOf e)).bind (DataW.trod enc P w 0 sp held fuel e) with
          | none => rw [hm] at h; cases h
          | some elems =>
            rw [hm] at h
            simp only [Option.bind_some] at h
            obtain ⟨rest, _, hx⟩ := Option.map_eq_some_iff.1 h
            subst hx
            obtain ⟨_, hat⟩ := mapM_range_at hm
            have hlen := (mapM_range_at hm).1
            have hspot : 0 < len → a = ⟨a.block, a.off, none⟩ ∧ a.block < w.heap.size := by
              intro hpos
              have h1 := hat 0 hpos
              rw [List.getElem?_eq_getElem (by omega)] at h1
              cases hcs : w.cells? 0 (a.add (0 * P.cellsOf e)) (P.cellsOf e) with
              | none => rw [hcs] at h1; cases h1
              | some cs' =>
                simp only [World.cells?, Nat.zero_le, if_true] at hcs
                obtain ⟨hl', hat'⟩ := mapM_range_at hcs
                have h0 := hat' 0 hp.1
                rw [List.getElem?_eq_getElem (by omega)] at h0
                have := spot_of_cell h0
                simpa [Addr.add] using this
            have hone : ∀ i, ∃ ps : List PV × Nat, i < len → (ps.1.length = P.cellsOf e ∧ RepCs w (OldImm w) a.block (a.off + i * P.cellsOf e) ps.1 ∧ TyB P e ps.1 ps.2 ∧ ∀ y, elems[i]? = some y → ps.2 ≤ bulkD y.1) := by
              intro i
              rcases Nat.lt_or_ge i len with hi | hi
              · have h1 := hat i hi
                obtain ⟨hsp, hblk⟩ := hspot (by omega)
                rw [List.getElem?_eq_getElem (by omega)] at h1
                cases hcs : w.cells? 0 (a.add (i * P.cellsOf e)) (P.cellsOf e) with
                | none => rw [hcs] at h1; cases h1
                | some cs' =>
                  rw [hcs] at h1
                  obtain ⟨ps, N, hr, hty, hN⟩ := ih e cs' _ hp.2 h1
                  simp only [World.cells?, Nat.zero_le, if_true] at hcs
                  obtain ⟨hl', hat'⟩ := mapM_range_at hcs
                  refine ⟨(ps, N), fun _ => ⟨by rw [← hr.length_eq, hl'], ?_, hty, fun y hy => ?_⟩⟩
                  case refine_2 => rw [List.getElem?_eq_getElem (by omega)] at hy; cases hy; exact hN
                  refine repCs_of_cells hr (fun _ => hblk) fun j v hv => ?_
                  have hj : j < P.cellsOf e := by
                    rw [← hl']
                    exact (List.getElem?_eq_some_iff.1 hv).1
                  have := hat' j hj
                  rw [hv, hsp, Addr.add_lit, Addr.add_lit] at this
                  exact this
              · exact ⟨([], 0), fun h => by omega⟩
            obtain ⟨g, hg⟩ := choose_fun hone
            refine ⟨[.list (((List.range' 0 len).map g).map (·.1))], _, RepL.cons ?_ RepL.nil, .slice hu fun c hc => ?_, ?_⟩
            · simp only [Rep]
              refine ⟨some a, cap, by simp, by simp; omega, ?_⟩
              rcases Nat.eq_zero_or_pos len with h0 | h0
              · subst h0; exact .inl rfl
              · refine .inr ⟨a.block, a.off, P.cellsOf e, by rw [← (hspot h0).1], ?_⟩
                rw [List.map_map]
                refine repEls_range len 0 a.off fun i hi => ?_
                rw [Nat.zero_add]
                exact ⟨(hg i hi).1, (hg i hi).2.1⟩
            · obtain ⟨i, hi, rfl⟩ := List.mem_map.1 hc
              simp at hi
              exact (hg i hi).2.2.1
            · have hsum := sum_le_bulk (g := g) (n := len) (s := 0) (es := elems) (by omega) fun i hi y hy => (hg (0 + i) (by omega)).2.2.2 y (by simpa using hy)
              simp only [bulkD]
              omega
        · cases h
    · rename_i fs hu
      simp only [Bool.and_eq_true] at hp
      unfold DataW.trod at h
      rw [hu] at h
      split at h <;> first | (exfalso; simp_all; done) | skip
      rename_i cs _ _ fs' heq
      cases heq
      split at h
      · rename_i hlen
        cases hm : fs.toList.mapM fun f => DataW.trod enc P w 0 sp held fuel f.type ((cs.drop f.offset).take (P.cellsOf f.type)) with
        | none => rw [hm] at h; cases h
        | some xs =>
          obtain ⟨hxl, hat⟩ := mapM_at hm
          rw [hm] at h
          simp only [Option.map_some, Option.some.injEq] at h
          subst h
          have hone : ∀ f : Field, ∃ ps : List PV × Nat, f ∈ fs.toList → RepL w (OldImm w) ps.1 ((cs.drop f.offset).take (P.cellsOf f.type)) ∧ TyB P f.type ps.1 ps.2 ∧ ∀ y, DataW.trod enc P w 0 sp held fuel f.type ((cs.drop f.offset).take (P.cellsOf f.type)) = some y → ps.2 ≤ bulkD y.1 := by
            intro f
            by_cases hf : f ∈ fs.toList
            · obtain ⟨i, hi⟩ := List.getElem?_of_mem hf
              have h1 := hat i f hi
              have hil : i < fs.toList.length := (List.getElem?_eq_some_iff.1 hi).1
              rw [List.getElem?_eq_getElem (by omega)] at h1
              have hSf : S.contains f.type = true := (List.all_eq_true.1 hp.2) f hf
              obtain ⟨ps, N, h2, h3, h4⟩ := ih f.type _ _ hSf h1
              exact ⟨(ps, N), fun _ => ⟨h2, h3, fun y hy => by rw [h1] at hy; cases hy; exact h4⟩⟩
            · exact ⟨([], 0), fun h => absurd h hf⟩
          obtain ⟨g, hg⟩ := choose_fun hone
          refine ⟨((fs.toList.map g).map (·.1)).flatten, _, ?_, .struct hu (by simp) fun x hx => ?_, ?_⟩
          · rw [List.map_map]
            have := repL_tiles (w := w) (m := OldImm w) (cs := cs) (g := fun f => (g f).1) fs.toList 0 _ hp.1 hlen.symm fun f hf => (hg f hf).1
            simpa [Function.comp_def] using this
          · obtain ⟨k1, k2⟩ := zip_self g _ _ hx
            rw [k2]
            exact (hg _ k1).2.1
          · have hsum := sum_le_bulkM (g := fun f => (g f).2) hm fun f hf y hy => (hg f hf).2.2 y hy
            rw [List.map_map]
            simp only [bulkD]
            have : (fs.toList.map ((fun x => x.2) ∘ g)).sum = (fs.toList.map fun f => (g f).2).sum := rfl
            omega
      · cases h
    · rename_i n e hu
      simp only [Bool.and_eq_true, beq_iff_eq] at hp
      unfold DataW.trod at h
      rw [hu] at h
      split at h <;> first | (exfalso; simp_all; done) | skip
      rename_i cs _ _ n' e' heq
      cases heq
      split at h
      · rename_i hlen
        cases hm : (List.range n).mapM fun i => DataW.trod enc P w 0 sp held fuel e ((cs.drop (i * P.cellsOf e)).take (P.cellsOf e)) with
        | none => rw [hm] at h; cases h
        | some xs =>
          obtain ⟨hxl, hat⟩ := mapM_range_at hm
          rw [hm] at h
          simp only [Option.map_some, Option.some.injEq] at h
          subst h
          have hone : ∀ i, ∃ ps : List PV × Nat, i < n → RepL w (OldImm w) ps.1 ((cs.drop (i * P.cellsOf e)).take (P.cellsOf e)) ∧ TyB P e ps.1 ps.2 ∧ ∀ y, xs[i]? = some y → ps.2 ≤ bulkD y.1 := by
            intro i
            rcases Nat.lt_or_ge i n with hi | hi
            · have h1 := hat i hi
              rw [List.getElem?_eq_getElem (by omega)] at h1
              obtain ⟨ps, N, h2, h3, h4⟩ := ih e _ _ hp.2 h1
              exact ⟨(ps, N), fun _ => ⟨h2, h3, fun y hy => by rw [List.getElem?_eq_getElem (by omega)] at hy; cases hy; exact h4⟩⟩
            · exact ⟨([], 0), fun h => by omega⟩
          obtain ⟨g, hg⟩ := choose_fun hone
          refine ⟨(((List.range' 0 n).map g).map (·.1)).flatten, _, ?_, .array hu (by simp) fun c hc => ?_, ?_⟩
          · rw [List.map_map]
            have := repL_rows (w := w) (m := OldImm w) (cs := cs) (sz := P.cellsOf e) (g := fun i => (g i).1) n 0 (by rw [hlen, hp.1, Nat.zero_add]) fun i hi => (hg i (by omega)).1
            simpa [Function.comp_def] using this
          · obtain ⟨i, hi, rfl⟩ := List.mem_map.1 hc
            simp at hi
            exact (hg i hi).2.1
          · have hsum := sum_le_bulk (g := g) (n := n) (s := 0) (es := xs) (by omega) fun i hi y hy => (hg (0 + i) (by omega)).2.2 y (by simpa using hy)
            simp only [bulkD]
            omega
      · cases h
    · cases hp
inductive TyVB (P : Program) : TypeId → PV → Nat → Prop
  | one {t : TypeId} {p : PV} {N : Nat} : TyB P t [p] N → (∀ fs, P.underlying t ≠ some (.struct fs)) → (∀ n e, P.underlying t ≠ some (.array n e)) → TyVB P t p N
  | agg {t : TypeId} {cs : List PV} {N : Nat} : TyB P t cs N → ((∃ fs, P.underlying t = some (.struct fs)) ∨ ∃ n e, P.underlying t = some (.array n e)) → TyVB P t (.agg cs) N
def TyAllB (P : Program) : List TypeId → List PV → Nat → Prop
  | [], ps, N => ps = [] ∧ N = 0
  | t :: ts, ps, N => ∃ p ps' A B, ps = p :: ps' ∧ N = A + B ∧ TyVB P t p A ∧ TyAllB P ts ps' B
theorem Trod_repB {H : Type} {enc : TypeId × Value → H} {sp : Nat → Bool} {held : Bool} {S : List TypeId} (hS : ∀ t, S.contains t = true → plainIn P S t = true) {r : Reach} {b0 : Nat} {t : TypeId} {v : Value} {d : DataW H} {ps : List MemPlace}
    (ht : S.contains t = true) (hv : Value.okWide P w r b0 t v) (h : DataW.Trod enc P w 0 sp held t v d ps) : ∃ p N, Rep w (OldImm w) p v ∧ TyVB P t p N ∧ N ≤ bulkD d := by
  obtain ⟨fuel, h⟩ := h
  obtain ⟨qs, N, hr, hty, hN⟩ := trod_repB hS fuel t _ _ ht h
  have hp := hS t ht
  unfold plainIn at hp
  have hone : (∀ fs, P.underlying t ≠ some (.struct fs)) → (∀ n e, P.underlying t ≠ some (.array n e)) → v.cells.toList = [v] → ∃ p N, Rep w (OldImm w) p v ∧ TyVB P t p N ∧ N ≤ bulkD d := by
    intro h1 h2 h3
    rw [h3] at hr
    obtain ⟨p, rfl, h4⟩ := repL_one hr
    exact ⟨p, N, h4, .one hty h1 h2, hN⟩
  unfold Value.okWide at hv
  split at hp
  · rename_i hu
    rw [hu] at hv
    refine hone (by simp [hu]) (by simp [hu]) ?_
    cases v <;> simp_all [Cell.okWide, Cell.ok, Value.cells]
  · rename_i hu
    rw [hu] at hv
    refine hone (by simp [hu]) (by simp [hu]) ?_
    cases v <;> simp_all [Cell.okWide, Cell.ok, Value.cells]
  · rename_i hu
    rw [hu] at hv
    refine hone (by simp [hu]) (by simp [hu]) ?_
    cases v <;> simp_all [Cell.okWide, Cell.ok, Value.cells]
  · rename_i hu
    rw [hu] at hv
    refine hone (by simp [hu]) (by simp [hu]) ?_
    cases v <;> simp_all [Cell.okWide, Cell.ok, Value.cells]
  · rename_i hu
    rw [hu] at hv
    obtain ⟨cs, rfl, _⟩ := hv
    exact ⟨.agg qs, N, by simp only [Rep]; exact ⟨cs.toList, rfl, hr⟩, .agg hty (.inl ⟨_, hu⟩), hN⟩
  · rename_i hu
    rw [hu] at hv
    obtain ⟨cs, rfl, _⟩ := hv
    exact ⟨.agg qs, N, by simp only [Rep]; exact ⟨cs.toList, rfl, hr⟩, .agg hty (.inr ⟨_, _, hu⟩), hN⟩
  · cases hp
theorem TrodAll_repB {H : Type} {enc : TypeId × Value → H} {sp : Nat → Bool} {held : Bool} {S : List TypeId} (hS : ∀ t, S.contains t = true → plainIn P S t = true) {r : Reach} {b0 : Nat} :
    ∀ (ts : List TypeId) (vs : List Value) (ds : List (DataW H)) (ps : List MemPlace), (∀ t ∈ ts, S.contains t = true) → (∀ (j : Nat) t v, ts[j]? = some t → vs[j]? = some v → Value.okWide P w r b0 t v) →
    DataW.TrodAll enc P w 0 sp held ts vs ds ps → ds.length = ts.length ∧ ∃ qs N, RepL w (OldImm w) qs vs ∧ TyAllB P ts qs N ∧ N ≤ bulkDAll ds
  | [], [], [], _, _, _, _ => ⟨rfl, [], 0, RepL.nil, ⟨rfl, rfl⟩, Nat.le_refl _⟩
  | t :: ts, v :: vs, d :: ds, ps, hts, hv, h => by
    obtain ⟨p, q, h1, h2, _⟩ := h
    obtain ⟨p1, N1, k1, k2, k3⟩ := Trod_repB hS (hts t List.mem_cons_self) (hv 0 t v rfl rfl) h1
    obtain ⟨hl, qs, N2, k4, k5, k6⟩ := TrodAll_repB hS ts vs ds q (fun x hx => hts x (List.mem_cons_of_mem _ hx)) (fun j t' v' e1 e2 => hv (j + 1) t' v' (by simpa using e1) (by simpa using e2)) h2
    exact ⟨by simp [hl], p1 :: qs, N1 + N2, RepL.cons k1 k4, ⟨p1, qs, N1, N2, rfl, rfl, k2, k5⟩, by simp only [bulkDAll]; omega⟩
  | [], [], _ :: _, _, _, _, h => h.elim
  | [], _ :: _, _, _, _, _, h => by cases h
  | _ :: _, [], _, _, _, _, h => by cases h
  | _ :: _, _ :: _, [], _, _, _, h => h.elim
theorem law_stepB {H : Type} {enc : TypeId × Value → H} {f : Func} {fid : FuncId} {s : ChangeSpec} {S : List TypeId} {tb : TypeId} (hS : (S.all fun t => plainIn P S t) = true) (hts : ∀ t ∈ f.params.toList, S.contains t = true)
    (hrd : ∀ t ∈ f.params.toList, P.readableRec t = true ∧ t < P.types.size) (hl : laidOutB P = true) (hres : f.resultTypes = #[tb]) (hbool : P.underlying tb = some .bool) (hvars : s.vars = [])
    (hspec : ∀ ds : List (DataW H), ds.length = f.params.toList.length → s.fn H ds = { results := [.lit (.bool true)], args := ds })
    {ds : List (DataW H)} (walk : ∀ qs N, TyAllB P f.params.toList qs N → N ≤ bulkDAll ds → AC P fid qs [] fun out _ => out = .ret (.bool true))
    {W : World} {base : Nat} {args : Array Value} {gs : List (DataW H)} {before : List MemPlace} (hval : ∀ (j : Nat) t v, f.params[j]? = some t → args[j]? = some v → Value.okWide P W .any base t v)
    (hW : DataW.Whole enc P f.params.toList s.vars false W args.toList ds gs before) :
    Calls P fid args W fun e W' => ∃ v, e = .returned v ∧ s.post enc P f false true false false W args v W' := by
  have hW' := hW
  have hlt := hW.lt
  obtain ⟨p, q, hA, hV, rfl, hfz, hnd⟩ := hW
  rw [hvars] at hV
  obtain ⟨rfl, rfl⟩ : gs = [] ∧ q = [] := by
    cases gs with
    | nil => exact ⟨rfl, hV⟩
    | cons g gs => exact hV.elim
  have hS' : ∀ t, S.contains t = true → plainIn P S t = true := fun t ht => List.all_eq_true.1 hS t (by simpa using ht)
  obtain ⟨hdl, qs, N, hr, hty, hN⟩ := TrodAll_repB hS' f.params.toList args.toList ds p hts (fun j t v e1 e2 => hval j t v (by simpa using e1) (by simpa using e2)) hA
  have hconc : Conc W (OldImm W) [] := ⟨fun r hr => by simp at hr, by simp [fps], fun b _ h => h⟩
  have hcall := walk qs N hty hN W (OldImm W) args.toList hconc hr
  rw [Array.toArray_toList] at hcall
  refine hcall.mono ?_
  rintro e W' ⟨out, σ', m', rfl, hout, _, htr⟩
  simp only [RepOut] at hout
  obtain ⟨v, rfl, hv⟩ := hout
  simp only [Rep] at hv
  subst hv
  have bel : Go.RowKit.Below W.heap.size W W' := ⟨htr.os, htr.tape, htr.output, htr.size, fun k hk => (htr.keep k hk (by simp [fps])).1⟩
  refine ⟨_, rfl, ds, [], _, [], p, [], hW', ?_, ?_, ?_, bel.frame _, fun h => by cases h⟩
  · rw [List.append_nil, hspec ds hdl, hres]
    exact ⟨[], [], ⟨1, by simp [DataW.trod, hbool, Value.cells]⟩, rfl, rfl⟩
  · rw [List.append_nil, hspec ds hdl]
    exact TrodAll_below hl bel _ _ _ _ hrd hA fun x hx => hlt x (List.mem_append_left _ hx)
  · rw [List.append_nil, hspec ds hdl, hvars]
    rfl
theorem TyB.intI {t : TypeId} {k : IntKind} {c : List PV} {N : Nat} (h : TyB P t c N) (hu : P.underlying t = some (.int k)) : ∃ n, c = [.int k n] ∧ (Lit.int k n).wf = true ∧ N = 1 := by
  cases h with
  | int hu' hw => rw [hu] at hu'; cases hu'; exact ⟨_, rfl, hw, rfl⟩
  | _ hu' => rw [hu] at hu'; cases hu'
theorem TyB.boolI {t : TypeId} {c : List PV} {N : Nat} (h : TyB P t c N) (hu : P.underlying t = some .bool) : ∃ b, c = [.bool b] ∧ N = 1 := by
  cases h with
  | bool hu' => exact ⟨_, rfl, rfl⟩
  | _ hu' => rw [hu] at hu'; cases hu'
theorem TyB.strI {t : TypeId} {c : List PV} {N : Nat} (h : TyB P t c N) (hu : P.underlying t = some .string) : ∃ s, c = [.str s] ∧ N = s.length + 1 := by
  cases h with
  | str hu' => exact ⟨_, rfl, rfl⟩
  | _ hu' => rw [hu] at hu'; cases hu'
theorem TyB.sliceI {t e : TypeId} {c : List PV} {N : Nat} (h : TyB P t c N) (hu : P.underlying t = some (.slice e)) : ∃ l : List (List PV × Nat), c = [.list (l.map (·.1))] ∧ N = (l.map (·.2)).sum + 1 ∧ ∀ x ∈ l, TyB P e x.1 x.2 := by
  cases h with
  | slice hu' h' => rw [hu] at hu'; cases hu'; exact ⟨_, rfl, rfl, h'⟩
  | _ hu' => rw [hu] at hu'; cases hu'
theorem TyB.structI {t : TypeId} {fs : Array Field} {c : List PV} {N : Nat} (h : TyB P t c N) (hu : P.underlying t = some (.struct fs)) : ∃ ps : List (List PV × Nat), c = (ps.map (·.1)).flatten ∧ N = (ps.map (·.2)).sum + 1 ∧ ps.length = fs.toList.length ∧ ∀ x ∈ fs.toList.zip ps, TyB P x.1.type x.2.1 x.2.2 := by
  cases h with
  | struct hu' h1 h2 => rw [hu] at hu'; cases hu'; exact ⟨_, rfl, rfl, h1, h2⟩
  | _ hu' => rw [hu] at hu'; cases hu'
theorem TyVB.oneI {t : TypeId} {p : PV} {N : Nat} (h : TyVB P t p N) (h1 : ∀ fs, P.underlying t ≠ some (.struct fs)) (h2 : ∀ n e, P.underlying t ≠ some (.array n e)) : TyB P t [p] N := by
  cases h with
  | one h _ _ => exact h
  | agg h hor => rcases hor with ⟨fs, hu⟩ | ⟨n, e, hu⟩; exact absurd hu (h1 _); exact absurd hu (h2 _ _)
theorem TyVB.aggI {t : TypeId} {p : PV} {N : Nat} (h : TyVB P t p N) (hu : ∃ fs, P.underlying t = some (.struct fs)) : ∃ cs, p = .agg cs ∧ TyB P t cs N := by
  cases h with
  | one _ h1 _ => obtain ⟨fs, hu⟩ := hu; exact absurd hu (h1 _)
  | agg h _ => exact ⟨_, rfl, h⟩
theorem le_sum : ∀ {l : List (List PV × Nat)} {x : List PV × Nat}, x ∈ l → x.2 ≤ (l.map (·.2)).sum
  | [], x, h => by cases h
  | y :: l, x, h => by
    simp only [List.map_cons, List.sum_cons]
    rcases List.mem_cons.1 h with rfl | h
    · omega
    · have := le_sum h; omega
theorem list_ofB {α : Type} {f : α → List PV} {μ : α → Nat} : ∀ {l : List (List PV × Nat)}, (∀ x ∈ l, ∃ a, x.1 = f a ∧ μ a ≤ x.2) → ∃ as1 : List α, l.map (·.1) = as1.map f ∧ (as1.map μ).sum ≤ (l.map (·.2)).sum
  | [], _ => ⟨[], rfl, Nat.le_refl _⟩
  | x :: l, h => by
    obtain ⟨a, h1, h2⟩ := h x List.mem_cons_self
    obtain ⟨as1, h3, h4⟩ := list_ofB fun y hy => h y (List.mem_cons_of_mem _ hy)
    exact ⟨a :: as1, by simp [h1, h3], by simp only [List.map_cons, List.sum_cons]; omega⟩
end
end Go.Abs

namespace Go.Abs
open Go Go.Ft
section
variable {P : Program} {o : Oper} {ρ : Operand → PV} {σ : List Res} {R S : PV → List Res → Prop}
def concrete (P : Program) (t : TypeId) : Bool :=
  match P.underlying t with
  | some (.interface _) => false
  | some _ => true
  | none => false
theorem run_mkIface {t : TypeId} (h : concrete P t = true) (v : Value) (w : World) : (Instr.makeInterface t v).run P w = .ok (.iface t v) w := by
  unfold concrete at h
  split at h
  · cases h
  · rename_i d hd e
    simp only [Instr.makeInterface, Sem.run_bind, run_underlying e, Result.andThen_ok]
    cases d <;> simp_all
  · cases h
theorem AO.mkIface {t : TypeId} {x : Operand} {p : PV} (ho : o.op = .makeInterface t x) (hu : concrete P t = true) (hx : (ρ x).force = some p) (hR : R (.iface t p) σ) : AO P o ρ σ R S := by
  have hx := PV.force_eq hx
  refine AO.of_same hR fun w m ev hr hc => ?_
  have h := hr x (by simp [ho, Op.operands])
  rw [hx] at h
  refine ⟨.iface t (ev x), ?_, ?_⟩
  · simp only [execOp, ho, Sem.run_bind, run_mkIface hu, Result.andThen_ok, Sem.run_pure]
  · simp only [Rep]; exact ⟨_, rfl, h⟩
theorem AO.panicF {x : Operand} {t : TypeId} {p : PV} (ho : o.op = .panic x) (hx : ρ x = .iface t p) (hS : S (.iface t p) σ) : AO P o ρ σ R S := by
  intro w m a K QC hr hc _ hP
  have h := hr x (by simp [ho, Op.operands])
  rw [hx] at h
  have h' := h
  simp only [Rep] at h
  obtain ⟨v, hv, hp⟩ := h
  unfold Oper.wp
  have hrun : (execOp a.eval o).run P w = .halt (.panic (.iface t v)) w := by
    simp only [execOp, ho, hv, Sem.run_bind]
    rw [run_panic_iface]
    rfl
  rw [hrun]
  rw [hv] at h'
  exact hP _ σ _ w m hS h' hc (Trans.refl ..)
theorem AO.mkErr {t : TypeId} {x : Operand} (ho : o.op = .makeInterface t x) (hu : concrete P t = true) (hR : R (.err (some t)) σ) : AO P o ρ σ R S := by
  refine AO.of_same hR fun w m ev hr hc => ⟨.iface t (ev x), ?_, by simp only [Rep]; exact ⟨_, rfl⟩⟩
  simp only [execOp, ho, Sem.run_bind, run_mkIface hu, Result.andThen_ok, Sem.run_pure]
theorem AO.nilErr (h : pev ρ o.op = some (.val .nilIface)) (hR : R (.err none) σ) : AO P o ρ σ R S :=
  AO.of_same hR fun w m ev hr _ => by
    obtain ⟨v, h1, h2⟩ := pev_sound (P := P) (w := w) (m := m) h hr
    refine ⟨v, h1, ?_⟩
    simp only [Rep] at h2 ⊢
    exact h2
theorem AO.eqNil {op : BinOp} {t yt : TypeId} {x : Operand} {e : Option TypeId} {b : Bool} (ho : o.op = .binOp op t x (.const .nilIface) yt) (hu : P.underlying t = some (.interface (P.methodsAt t)))
    (hx : ρ x = .err e) (hb : (match op with | .eql => some e.isNone | .neq => some e.isSome | _ => none) = some b) (hR : R (.bool b) σ) : AO P o ρ σ R S := by
  intro w m a K QC hr hc hK _
  have h := hr x (by simp [ho, Op.operands])
  rw [hx] at h
  have hrun : (execOp a.eval o).run P w = .ok (.value (.bool b)) w := by
    have hev : a.eval (.const .nilIface) = .nilIface := rfl
    cases e with
    | none =>
      simp only [Rep] at h
      cases op <;> simp only [reduceCtorEq, Option.some.injEq] at hb <;> subst hb
      · simp only [execOp, ho, h, hev, Sem.run_bind, eqGuard_nil_constR, Sem.run_pure, Result.andThen_ok, run_eql_nil_nil w t hu]; rfl
      · simp only [execOp, ho, h, hev, Sem.run_bind, eqGuard_nil_constR, Sem.run_pure, Result.andThen_ok, run_neq_nil_nil w t hu]; rfl
    | some u =>
      simp only [Rep] at h
      obtain ⟨z, h⟩ := h
      cases op <;> simp only [reduceCtorEq, Option.some.injEq] at hb <;> subst hb
      · simp only [execOp, ho, h, hev, Sem.run_bind]
        rw [show eqGuard .eql t x (.const .nilIface) (.iface u z) .nilIface = pure () from rfl]
        simp only [Sem.run_pure, Result.andThen_ok, run_eql_held_nil w t u z hu]; rfl
      · simp only [execOp, ho, h, hev, Sem.run_bind]
        rw [show eqGuard .neq t x (.const .nilIface) (.iface u z) .nilIface = pure () from rfl]
        simp only [Sem.run_pure, Result.andThen_ok, run_neq_held_nil w t u z hu]; rfl
  unfold Oper.wp
  rw [hrun]
  exact hK _ σ _ w m hR (by simp only [Rep]) hc (Trans.refl ..)
theorem AO.str_bytesF {src dst e : TypeId} {x : Operand} {s r : List UInt8} {u : TypeDesc} (h : Ft.app [] s = some r) (ho : o.op = .convert src dst x) (hs : P.underlying src = some u) (hd : P.underlying dst = some (.slice e)) (he : P.underlying e = some (.int .u8))
    (hx : ρ x = .str s) (hR : ∀ v, R (.own v (r.map byteC)) (.row v (r.map byteC).length 1 e :: σ)) : AO P o ρ σ R S := by
  obtain ⟨h1, h2⟩ := Ft.app_some h
  rw [List.nil_append] at h2
  subst h2
  refine AO.str_bytes_own ho hs hd he hx ?_ (fun v => by have := hR v; rw [List.length_map] at this; exact this)
  have : LIM ≤ maxLen := by decide
  simp only [List.length_nil, Nat.zero_add] at h1
  exact Nat.le_trans h1 this
end
end Go.Abs

namespace Go.Abs
open Go Go.Ft
def mapEnts : Nat → List (Str × Int) → List MapEntry
  | _, [] => []
  | i, (k, v) :: r => { key := .string ⟨k.toArray⟩, val := .int .i64 v, born := i } :: mapEnts (i + 1) r
def mapObj (l : List (Str × Int)) : Obj := .map (mapEnts 0 l).toArray l.length
theorem ba_beq (a b : List UInt8) : ((⟨a.toArray⟩ : ByteArray) == ⟨b.toArray⟩) = (a == b) := by
  show (a.toArray == b.toArray) = (a == b)
  simp
theorem find_ents (k : Str) : ∀ (l : List (Str × Int)) (i j : Nat), ∃ r, Instr.findNow .string (.string ⟨k.toArray⟩) (mapEnts i l) j = some r ∧
    ((r = none ∧ mget l k = 0 ∧ ∀ n, mapEnts i (mset l k n) = mapEnts i l ++ [{ key := .string ⟨k.toArray⟩, val := .int .i64 n, born := i + l.length }] ∧ (mset l k n).length = l.length + 1) ∨
      ∃ q v, r = some (j + q, .int .i64 v) ∧ mget l k = v ∧ (∃ e, (mapEnts i l)[q]? = some e ∧ e.key = .string ⟨k.toArray⟩) ∧
        ∀ n, mapEnts i (mset l k n) = (mapEnts i l).modify q (fun e => { e with key := .string ⟨k.toArray⟩, val := .int .i64 n }) ∧ (mset l k n).length = l.length)
  | [], i, j => ⟨none, rfl, .inl ⟨rfl, rfl, fun n => ⟨by simp [mset, mapEnts], rfl⟩⟩⟩
  | (k', v) :: l, i, j => by
    simp only [mapEnts, Instr.findNow, Instr.sameNow, mget, mset]
    by_cases e : k = k'
    · subst e
      refine ⟨some (j, .int .i64 v), by rw [ba_beq, beq_self_eq_true], .inr ⟨0, v, rfl, by simp, ⟨_, rfl, rfl⟩, fun n => ⟨by simp [mapEnts], by simp⟩⟩⟩
    · have hb : (k == k') = false := beq_eq_false_iff_ne.2 e
      have hb2 : ((⟨k.toArray⟩ : ByteArray) == ⟨k'.toArray⟩) = false := (ba_beq k k').trans hb
      rw [hb2, hb]
      obtain ⟨r, h1, h2⟩ := find_ents k l (i + 1) (j + 1)
      refine ⟨r, h1, ?_⟩
      rcases h2 with ⟨h3, h4, h5⟩ | ⟨q, u, h3, h4, h5, h6⟩
      · refine .inl ⟨h3, by simpa using h4, fun n => ⟨?_, ?_⟩⟩
        · simp only [Bool.false_eq_true, if_false, mapEnts, (h5 n).1, List.cons_append, List.length_cons]
          rw [show i + 1 + l.length = i + (l.length + 1) from by omega]
        · simp [(h5 n).2]
      · refine .inr ⟨q + 1, u, by rw [h3]; congr 2; omega, by simpa using h4, by simpa using h5, fun n => ⟨?_, ?_⟩⟩
        · simp only [Bool.false_eq_true, if_false, mapEnts, (h6 n).1, List.modify_succ_cons]
        · simp [(h6 n).2]
section
variable {P : Program} {o : Oper} {ρ : Operand → PV} {σ : List Res} {R S : PV → List Res → Prop}
theorem AO.makeMapF {t : TypeId} (ho : o.op = .makeMap t none) (hR : ∀ b, R (.val (.map (some b))) (.obj b (mapObj []) :: σ)) : AO P o ρ σ R S := by
  refine AO.of_run' fun w m ev hr hc => ?_
  have := alloc_obj hc (mapObj [])
  refine ⟨_, _, .map (some w.heap.size), _, _, hR w.heap.size, ?_, by simp [Rep], this, alloc_trans hc _ _ fun b hb => ?_⟩
  · simp [execOp, ho, Instr.makeMap, go_sem, mapObj, mapEnts]
  · simp [fps, Res.fp] at hb ⊢
    rcases hb with hb | hb
    · exact .inr hb
    · exact .inl hb
theorem run_checkKey_str {t : TypeId} (h : P.underlying t = some .string) (b : Bool) (n : Nat) (k : ByteArray) (w : World) : (Instr.checkKey b (n + 1) t (.string k)).run P w = .ok () w := by
  simp [Instr.checkKey, run_underlying h]
theorem run_getObj_map {w : World} {b c : Nat} {es : Array MapEntry} (h : w.heap[b]? = some (.map es c)) : (getObj b).run P w = .ok (.map es c) w := by simp [getObj, Sem.run, h]
theorem run_setObj_map {w : World} {b c : Nat} {es : Array MapEntry} (h : w.heap[b]? = some (.map es c)) (o : Obj) : (setObj b o).run P w = .ok () { w with heap := w.heap.setIfInBounds b o } := by simp [setObj, Sem.run, h]
theorem AO.lookupF {t kt et : TypeId} {x y : Operand} {l : List (Str × Int)} {k : Str} {b i : Nat} (ho : o.op = .lookup t x y false) (hi : σ[i]? = some (.obj b (mapObj l))) (hx : ρ x = .val (.map (some b))) (hy : ρ y = .str k)
    (ht : P.underlying t = some (.map kt et)) (hk : P.underlying kt = some .string) (hz : (P.info? et).map (·.zero) = some (some (.int .i64 0))) (hR : R (.int .i64 (mget l k)) σ) : AO P o ρ σ R S := by
  refine AO.of_same hR fun w m ev hr hc => ?_
  have h1 := hr x (by simp [ho, Op.operands])
  have h2 := hr y (by simp [ho, Op.operands])
  rw [hx] at h1
  rw [hy] at h2
  simp only [Rep] at h1 h2
  obtain ⟨hb, hm⟩ := hc.each _ (List.mem_of_getElem? hi)
  obtain ⟨r, f1, f2⟩ := find_ents k l 0 0
  have hf : (Instr.findKey kt (.string ⟨k.toArray⟩) (mapEnts 0 l)).run P w = .ok r w := by
    simp [Instr.findKey, run_underlying hk, f1]
  have z1 : (zeroValue et).run P w = .ok (.int .i64 0) w := by
    cases hi : P.info? et with
    | none => rw [hi] at hz; cases hz
    | some inf =>
      rw [hi] at hz
      simp only [Option.map_some, Option.some.injEq] at hz
      simp [zeroValue, run_typeInfo hi, hz]
  refine ⟨.int .i64 (mget l k), ?_, by simp only [Rep]⟩
  have hg : (getObj b).run P w = .ok (.map (mapEnts 0 l).toArray l.length) w := run_getObj_map hb
  simp only [execOp, ho, Instr.lookup, h1, h2, Sem.run_bind, run_underlying ht, Result.andThen_ok, hg, Sem.run_pure, run_checkKey_str hk, List.toList_toArray, hf]
  rcases f2 with ⟨f3, f4, _⟩ | ⟨q, v, f3, f4, _⟩
  · subst f3
    simp [z1, f4]
  · subst f3
    simp [f4]
theorem AO.mapUpdateF {t kt et : TypeId} {x y z : Operand} {l : List (Str × Int)} {k : Str} {n : Int} {b i : Nat} (ho : o.op = .mapUpdate t x y z) (hi : σ[i]? = some (.obj b (mapObj l))) (hx : ρ x = .val (.map (some b))) (hy : ρ y = .str k) (hv : ρ z = .int .i64 n)
    (ht : P.underlying t = some (.map kt et)) (hk : P.underlying kt = some .string) (hR : R .undef (σ.set i (.obj b (mapObj (mset l k n))))) : AO P o ρ σ R S := by
  intro w m a K QC hr hc hK _
  have h1 := hr x (by simp [ho, Op.operands])
  have h2 := hr y (by simp [ho, Op.operands])
  have h3 := hr z (by simp [ho, Op.operands])
  rw [hx] at h1
  rw [hy] at h2
  rw [hv] at h3
  simp only [Rep] at h1 h2 h3
  obtain ⟨hb, hm⟩ := hc.each _ (List.mem_of_getElem? hi)
  have hblt : b < w.heap.size := by
    rcases Nat.lt_or_ge b w.heap.size with h | h
    · exact h
    · simp [Array.getElem?_eq_none h] at hb
  let w' : World := { w with heap := w.heap.setIfInBounds b (mapObj (mset l k n)) }
  have hb' : w'.heap[b]? = some (mapObj (mset l k n)) := by simp [w', hblt]
  obtain ⟨k1, k2⟩ := Conc.write (w' := w') (r' := .obj b (mapObj (mset l k n))) hc hi rfl rfl hm ⟨hb', hm⟩ ⟨rfl, rfl, rfl⟩ (by simp [w']) (fun j hj => by simp [w', Array.getElem?_setIfInBounds_ne (Ne.symm hj)])
  obtain ⟨r, f1, f2⟩ := find_ents k l 0 0
  have hf : (Instr.findKey kt (.string ⟨k.toArray⟩) (mapEnts 0 l)).run P w = .ok r w := by
    simp [Instr.findKey, run_underlying hk, f1]
  have hg : (getObj b).run P w = .ok (.map (mapEnts 0 l).toArray l.length) w := run_getObj_map hb
  have hst := run_setObj_map (P := P) (w := w) (b := b) (c := l.length) (es := (mapEnts 0 l).toArray) hb
  have hrun : (execOp a.eval o).run P w = .ok .skip w' := by
    simp only [execOp, ho, Instr.mapUpdate, h1, h2, h3, Sem.run_bind, run_underlying ht, Result.andThen_ok, hg, run_checkKey_str hk, List.toList_toArray, hf]
    rcases f2 with ⟨f3, _, f5⟩ | ⟨q, v, f3, _, ⟨e, g1, g2⟩, f6⟩
    · subst f3
      have e1 : mapObj (mset l k n) = .map ((mapEnts 0 l).toArray.push { key := .string ⟨k.toArray⟩, val := .int .i64 n, born := l.length }) (l.length + 1) := by
        unfold mapObj
        rw [(f5 n).1, (f5 n).2]
        simp
      simp [hst, w', e1]
    · subst f3
      have e1 : mapObj (mset l k n) = .map ((mapEnts 0 l).toArray.modify q (fun e => { e with key := .string ⟨k.toArray⟩, val := .int .i64 n })) l.length := by
        unfold mapObj
        rw [(f6 n).1, (f6 n).2]
        simp
      have g3 : ((mapEnts 0 l).toArray[q]?) = some e := by simpa using g1
      simp [Instr.keyThatStays, Instr.sameBits, ba_beq, g1, g2, hst, w', e1]
  unfold Oper.wp
  rw [hrun]
  exact hK _ _ _ _ _ hR trivial k1 k2
theorem AO.indexAddr_arrF {α : Type} {t n b off : Nat} {x i : Operand} {j : Int} {L : List α} {c : α} (h : idx L j = some c) (ho : o.op = .indexAddr t x i) (ha : arrInfo P t = some (n, 1)) (hx : ρ x = .val (.pointer (some ⟨b, off, none⟩))) (hi : ρ i = .int .i64 j)
    (hL : L.length = n) (hR : R (.val (.pointer (some ⟨b, off + j.toNat, none⟩))) σ) : AO P o ρ σ R S := by
  obtain ⟨h0, h1⟩ := idx_some h
  have h2 : j.toNat < n := by
    rcases Nat.lt_or_ge j.toNat L.length with h3 | h3
    · omega
    · rw [List.getElem?_eq_none h3] at h1; cases h1
  exact AO.indexAddr_own ho ha hx hi h0 h2 (by rw [Nat.mul_one]; exact hR)
theorem AO.load_arrF {α : Type} {t : TypeId} {x : Operand} {cs : List PV} {b i k : Nat} {j : Int} {L : List α} {c : α} (f : α → PV) (h : idx L j = some c) (ho : o.op = .load t x) (hx : ρ x = .val (.pointer (some ⟨b, 0 + j.toNat, none⟩))) (hi : σ[i]? = some (Res.box b cs))
    (ht : tyInfo P t = some (false, k)) (hcs : cs = L.map f) (hR : R (f c) σ) : AO P o ρ σ R S := by
  obtain ⟨h0, h1⟩ := idx_some h
  refine AO.load_boxAt ho hx hi ht ?_ hR
  rw [hcs, Nat.zero_add, List.getElem?_map, h1]; rfl
end
end Go.Abs

namespace Go.Abs
open Go Go.Ft
section
variable {P : Program}
theorem wpS_region_rec {Q : Exit → Act → List Frame → World → Prop} {id n : Nat} {ops : Array Oper} {o : Oper} {v : Value} {a : Act} {cs cs' : List Frame} {w : World}
    (hn : ops.size = n + 1) (h0 : ops[0]? = some o) (hg : o.guard = none) (hop : (execOp a.eval o).run P w = .ok .recover w)
    (hrec : recoverD cs = some (v, cs') ∨ (recoverD cs = none ∧ v = .nilIface ∧ cs' = cs))
    (h : wpOps P ops (fun e a' w' => Q e a' cs' w') (List.range' 1 n) (a.put o.dst v) w) : (Code.region id ops false).wpS P Q a cs w := by
  intro b k hb hro
  have hw : Region.wanted o (yielded ops a.tmps) = true := by simp [Region.wanted, hg]
  have hr : List.range ops.size = 0 :: List.range' 1 n := by rw [hn, List.range_eq_range', List.range'_succ]
  have hst := stepG_op (P := P) (b := b) (a := a) (k := k) (cs := cs) (w := w) (rest := List.range' 1 n) h0 hw
  have hfin : ∀ v, (b.at a (.inRegion ops (0 :: List.range' 1 n) :: k)).finish v = b.at (a.put o.dst v) (.inRegion ops (List.range' 1 n) :: k) := by
    intro v; rw [Frame.finish_at, h0]; rfl
  have hk : (b.at a (.inRegion ops (0 :: List.range' 1 n) :: k)).kind = .deferred := hb
  have htr := tryRecover_deferred hk cs
  obtain ⟨e, a', w', hq, harr⟩ := wp_ops (P := P) (Q := fun e a' w' => Q e a' cs' w') _ _ _ h b k cs'
  refine ⟨e, a', cs', w', hq, .of_steps (.one step_region) (.of_steps (.one ?_) harr)⟩
  rw [hr]
  refine step_lone_go ?_
  rw [hst, ← hfin]
  simp only [Frame.at] at htr ⊢
  rcases hrec with hrec | ⟨hrec, rfl, rfl⟩
  · simp [stepG.apply, hop, htr, hrec]
  · simp [stepG.apply, hop, htr, hrec]
def recMode : Option Value → FrameMode
  | none => .returning
  | some v => .panicking [{ v, recovered := false }]
def recMode2 : Option Value → FrameMode
  | none => .returning
  | some v => .panicking [{ v, recovered := true }]
def isRecover (o : Oper) : Bool :=
  match o.op with
  | .call c => (match c.callee with | .builtin .recover => c.args.isEmpty | _ => false)
  | _ => false
theorem run_recover {o : Oper} (h : isRecover o = true) (ev : Operand → Value) (w : World) : (execOp ev o).run P w = .ok .recover w := by
  unfold isRecover at h
  split at h
  · rename_i c hc
    split at h
    · rename_i hcal
      simp [execOp, hc, resolve, hcal, invoke, builtin]
    · cases h
  · cases h
def QD (R : List Res → Prop) : Post
  | .normal, _, s, d | .ret, _, s, d => d = [] ∧ R s
  | _, _, _, _ => False
theorem CD.rec {g : FuncId} {fn : Func} {args : List PV} {σ : List Res} {id nt t : Nat} {ops : List Oper} {o : Oper} {X : Code} {env : Env} (ts : List Nat) {p : PV} {R : List Res → Prop}
    (hf : P.funcs[g]? = some fn) (hb : fn.body = some (.seq (.region id (o :: ops).toArray false) X)) (hn : fn.ntmps = nt) (hl : Nat.ble args.length nt = true) (hrs : fn.results.toList = []) (henv : settle ts (argEnv 0 args) = some env)
    (hg : o.guard = none) (ho : isRecover o = true) (hd : o.dst = some t) (ht : Nat.blt t nt = true)
    (h : AR P nt (o :: ops).toArray ops ((t, p) :: env) σ [] (AX.then (fun e s d => AW P nt X e s d (QD R)) (QD R)))
    (w : World) (m : Imm) (vs : List Value) (q : Option Value) (hq : match q with | none => p = .val .nilIface | some v => Rep w m p v) (hc : Conc w m σ) (hv : RepL w m args vs) :
    CallsD P g vs.toArray (recMode q) w fun e u' w' => e = .returned (.tuple #[]) ∧ u' = recMode2 q ∧ ∃ σ' m', R σ' ∧ Conc w' m' σ' ∧ Trans w m σ w' m' σ' := by
  have hl := Nat.le_of_ble_eq_true hl
  have ht := Nat.le_of_ble_eq_true ht
  have hvl := hv.length_eq
  refine callsD_of_wpS hf hb fun c₀ cs hu => wpS_seq ?_
  have hrec : ∃ v cs', (recoverD (c₀ :: cs) = some (v, cs') ∨ (recoverD (c₀ :: cs) = none ∧ v = .nilIface ∧ cs' = c₀ :: cs)) ∧ Rep w m p v ∧ cs' = { c₀ with mode := recMode2 q } :: cs := by
    cases q with
    | none =>
      refine ⟨.nilIface, c₀ :: cs, .inr ⟨by simp [recoverD, hu, recMode], rfl, rfl⟩, ?_, ?_⟩
      · simp only at hq; subst hq; simp only [Rep]
      · simp only [recMode2]; rw [show FrameMode.returning = c₀.mode from hu.symm]
    | some v => exact ⟨v, _, .inl (by simp [recoverD, hu, recMode]; rfl), hq, rfl⟩
  obtain ⟨v, cs', h1, h2, h3⟩ := hrec
  refine wpS_region_rec (o := o) (n := ops.length) (by simp) (by simp) hg (run_recover ho _ _) h1 ?_
  have hsim : SimS w m nt ((t, p) :: env) σ [] (({ tmps := vs.toArray ++ Array.replicate (fn.ntmps - vs.toArray.size) Go.undef, defers := [] } : Act).put o.dst v) := by
    have he := simE_args (List.replicate (fn.ntmps - vs.toArray.size) Go.undef) [] hv
    have e0 : vs.toArray ++ Array.replicate (fn.ntmps - vs.toArray.size) Go.undef = ([] ++ vs ++ List.replicate (fn.ntmps - vs.toArray.size) Go.undef : List Value).toArray := by simp
    rw [← e0] at he
    have he := SimE.settle henv he
    have h0 : SimS w m nt env σ [] ({ tmps := vs.toArray ++ Array.replicate (fn.ntmps - vs.toArray.size) Go.undef, defers := [] } : Act) := ⟨by simp [hvl, hn]; omega, rfl, he, hc⟩
    exact SimS.put h0 hd ht h2 hc (Le.refl _ _)
  have key : ∀ QQ a w, wpList P (o :: ops).toArray QQ ops a w → wpOps P (o :: ops).toArray QQ (List.range' 1 ops.length) a w := fun QQ a w h => by
    rw [wpOps_eq_wpList ops 1 (fun j => by simp [Nat.add_comm 1 j])]; exact h
  refine key _ _ _ (h w m _ _ hsim ?_)
  have hfin : ∀ (e : Env) (s : List Res) (d : List Deferred) (a' : Act) (w' : World) (m' : Imm), SimS w' m' nt e s d a' → Trans w m σ w' m' s → d = [] → R s →
      a'.defers = [] ∧ ∃ u', cs' = { c₀ with mode := u' } :: cs ∧ ∃ z, (results fn a'.tmps).run P w' = .ok z w' ∧ Ending.returned z = .returned (.tuple #[]) ∧ u' = recMode2 q ∧ ∃ σ' m', R σ' ∧ Conc w' m' σ' ∧ Trans w m σ w' m' σ' := by
    intro e s d a' w' m' hs ht hd hR
    refine ⟨by rw [hs.ds, hd], recMode2 q, h3, .tuple #[], ?_, rfl, rfl, s, m', hR, hs.conc, ht⟩
    unfold results
    rw [Array.mapM_eq_mapM_toList, hrs]
    simp
  intro x ex e1 s1 d1 a1 w1 m1 hq1 hx hs1 ht1
  cases x with
  | normal =>
    cases hx
    refine wpS_of_wp (hq1 w1 m1 a1 _ hs1 ?_)
    intro x ex e2 s2 d2 a2 w2 m2 hq2 hx hs2 ht2
    cases x with
    | normal => cases hx; exact hfin e2 s2 d2 a2 w2 m2 hs2 (ht1.trans ht2) hq2.1 hq2.2
    | ret => cases hx; exact hfin e2 s2 d2 a2 w2 m2 hs2 (ht1.trans ht2) hq2.1 hq2.2
    | exit id => exact hq2.elim
    | panic p => exact hq2.elim
  | ret => cases hx; exact hfin e1 s1 d1 a1 w1 m1 hs1 ht1 hq1.1 hq1.2
  | exit id => exact hq1.elim
  | panic p => exact hq1.elim
end
end Go.Abs

namespace Go.Abs
open Go
def hide (D : Nat → Bool) : Env → Env
  | [] => []
  | (t, p) :: r => bif D t then hide D r else (t, p) :: hide D r
theorem get_hide (D : Nat → Bool) (t : Nat) : ∀ E : Env, (hide D E).get t = if D t = true then .undef else E.get t
  | [] => by simp [hide, Env.get]
  | (u, p) :: r => by
    unfold hide
    cases hu : D u with
    | true =>
      simp only [cond_true, Env.get]
      rw [get_hide D t r]
      by_cases e : u = t
      · subst e; simp [hu]
      · rw [beq_ne e]; rfl
    | false =>
      simp only [cond_false, Env.get]
      by_cases e : u = t
      · subst e; simp [hu]
      · rw [beq_ne e]; simp only [cond_false]; exact get_hide D t r
def readsOf (ops : List Oper) (o : Oper) : List Nat :=
  (o.op.operands.toList.filterMap fun | .tmp t => some t | _ => none) ++
  (match o.guard with
   | some (g, _) => (match ops[g]? with | some og => (match og.dst with | some t => [t] | none => []) | none => [])
   | none => [])
def downsAt (L : List Oper) (i : Nat) : List Nat := match L[i]? with | some o => downs L i (predsOf o) | none => []
def dstOf (o : Oper) : List Nat := match o.dst with | some t => [t] | none => []
def hasN (l : List Nat) (x : Nat) : Bool := l.any fun y => Nat.beq y x
def orderG (L : List Oper) (k k2 : Nat) : Bool :=
  (List.range L.length).all fun i => match L[i]? with
    | none => true
    | some o => ((predsOf o).all fun x => Nat.blt x i) &&
      if Nat.blt i k then
        ((List.range k2).all fun j => Nat.beq i j || (match L[j]? with
          | none => true
          | some oj => match oj.dst with
            | none => true
            | some t => !hasN (dstOf o) t && (!hasN (readsOf L o) t || (Nat.blt j k && hasN (predsOf o) j)))) &&
        (match o.dst with | some t => !hasN (readsOf L o) t | none => true)
      else if Nat.blt i k2 then (List.range k).all fun j => (match L[j]? with
          | none => true
          | some oj => match oj.dst with
            | none => true
            | some t => !hasN (readsOf L o) t || hasN (downsAt L i) j)
      else if Nat.beq i k2 then (List.range k2).all fun j => hasN (downsAt L k2) j
      else (predsOf o).any fun x => Nat.beq (x + 1) i
structure OrderG (L : List Oper) (k k2 : Nat) : Prop where
  before : ∀ i o, L[i]? = some o → ∀ j ∈ predsOf o, j < i
  apart : ∀ i o j oj t, i < k → L[i]? = some o → j < k2 → L[j]? = some oj → i ≠ j → oj.dst = some t → o.dst ≠ some t ∧ (t ∈ readsOf L o → j < k ∧ j ∈ predsOf o)
  self : ∀ i o t, i < k → L[i]? = some o → o.dst = some t → t ∉ readsOf L o
  mid : ∀ i o j oj t, k ≤ i → i < k2 → L[i]? = some o → j < k → L[j]? = some oj → oj.dst = some t → t ∈ readsOf L o → j ∈ downsAt L i
  tailk : ∀ o, L[k2]? = some o → ∀ j, j < k2 → j ∈ downsAt L k2
  tails : ∀ i o, k2 < i → L[i]? = some o → ∃ j ∈ predsOf o, j + 1 = i
theorem orderG_of {L : List Oper} {k k2 : Nat} (hkk : k ≤ k2) (h : orderG L k k2 = true) : OrderG L k k2 := by
  unfold orderG at h
  rw [List.all_eq_true] at h
  have h1 : ∀ i o, L[i]? = some o → ((predsOf o).all fun x => Nat.blt x i) = true ∧ _ := fun i o ho => by
    have hi : i < L.length := by
      rcases Nat.lt_or_ge i L.length with h' | h'
      · exact h'
      · simp [List.getElem?_eq_none h'] at ho
    have := h i (by simpa using hi)
    rw [ho] at this
    simpa only [Bool.and_eq_true] using this
  have hn : ∀ i k, ¬ i < k → ¬ Nat.blt i k = true := fun i k h hh => h (blt_iff.1 hh)
  refine ⟨fun i o ho j hj => ?_, fun i o j oj t hi ho hj hoj hne ht => ?_, fun i o t hi ho ht => ?_, fun i o j oj t hk hi ho hj hoj ht hm => ?_, fun o ho j hj => ?_, fun i o hi ho => ?_⟩
  · have := (h1 i o ho).1
    rw [List.all_eq_true] at this
    exact blt_iff.1 (this j hj)
  · have := (h1 i o ho).2
    rw [if_pos (blt_iff.2 hi), Bool.and_eq_true, List.all_eq_true] at this
    have := this.1 j (by simpa using hj)
    rw [beq_ne hne, Bool.false_or, hoj] at this
    simp only [ht, Bool.and_eq_true, Bool.or_eq_true, Bool.not_eq_true'] at this
    obtain ⟨t1, t2⟩ := this
    refine ⟨fun e => ?_, fun hm => ?_⟩
    · unfold dstOf at t1
      rw [e] at t1
      simp [hasN] at t1
    · rcases t2 with t2 | ⟨t2, t3⟩
      · unfold hasN at t2
        rw [any_beq.2 hm] at t2
        cases t2
      · exact ⟨blt_iff.1 t2, any_beq.1 t3⟩
  · have := (h1 i o ho).2
    rw [if_pos (blt_iff.2 hi), Bool.and_eq_true] at this
    have := this.2
    simp only [ht, Bool.not_eq_true'] at this
    intro hm
    unfold hasN at this
    rw [any_beq.2 hm] at this
    cases this
  · have := (h1 i o ho).2
    rw [if_neg (hn _ _ (by omega)), if_pos (blt_iff.2 hi), List.all_eq_true] at this
    have := this j (by simpa using hj)
    rw [hoj] at this
    simp only [ht, Bool.or_eq_true, Bool.not_eq_true'] at this
    rcases this with t2 | t2
    · unfold hasN at t2
      rw [any_beq.2 hm] at t2
      cases t2
    · exact any_beq.1 t2
  · have := (h1 k2 o ho).2
    rw [if_neg (hn _ _ (by omega)), if_neg (hn _ _ (by omega)), if_pos (Nat.beq_refl k2), List.all_eq_true] at this
    exact any_beq.1 (this j (by simpa using hj))
  · have := (h1 i o ho).2
    rw [if_neg (hn _ _ (by omega)), if_neg (hn _ _ (by omega)), if_neg (fun hh => by have := Nat.eq_of_beq_eq_true hh; omega), List.any_eq_true] at this
    obtain ⟨x, hx, hxi⟩ := this
    exact ⟨x, hx, Nat.eq_of_beq_eq_true hxi⟩
theorem AO.frameT {P : Program} {o : Oper} {ρ : Operand → PV} {σ τ : List Res} {R S : PV → List Res → Prop} (h : AO P o ρ σ R S) : AO P o ρ (σ ++ τ) (fun p s => ∃ s0, s = s0 ++ τ ∧ R p s0) (fun p s => ∃ s0, s = s0 ++ τ ∧ S p s0) := by
  intro w m a K QC hr hc hK hS
  refine h w m a K QC hr hc.left (fun p σ' v w' m' h1 h2 h3 h4 => ?_) (fun p σ' v w' m' h1 h2 h3 h4 => ?_)
  · obtain ⟨k1, k2⟩ := Conc.frame hc h3 h4
    exact hK p _ v w' m' ⟨σ', rfl, h1⟩ h2 k1 k2
  · obtain ⟨k1, k2⟩ := Conc.frame hc h3 h4
    exact hS p _ v w' m' ⟨σ', rfl, h1⟩ h2 k1 k2
theorem AO.monoRS {P : Program} {o : Oper} {ρ : Operand → PV} {σ : List Res} {R S R' S' : PV → List Res → Prop} (h : AO P o ρ σ R S) (hR : ∀ p s, R p s → R' p s) (hS : ∀ p s, S p s → S' p s) : AO P o ρ σ R' S' :=
  fun w m a K QC hr hc h1 h2 => h w m a K QC hr hc (fun p s v w' m' k => h1 p s v w' m' (hR p s k)) (fun p s v w' m' k => h2 p s v w' m' (hS p s k))
theorem AO.permT {P : Program} {o : Oper} {ρ : Operand → PV} {σ τ : List Res} {R S : PV → List Res → Prop} (hp : τ.Perm σ) (h : AO P o ρ σ R S) : AO P o ρ τ R S :=
  fun w m a K QC hr hc h1 h2 => h w m a K QC hr (hc.perm hp) (fun p s v w' m' k1 k2 k3 k4 => h1 p s v w' m' k1 k2 k3 (k4.perm hp.symm (.refl _))) (fun p s v w' m' k1 k2 k3 k4 => h2 p s v w' m' k1 k2 k3 (k4.perm hp.symm (.refl _)))
theorem OpEv.frameT {P : Program} {all : Array Oper} {env : Env} {σ τ : List Res} {o : Oper} {p : PV} (h : OpEv P all env σ o p) : OpEv P all env (σ ++ τ) o p := by
  have key : ∀ o', AF P o' env.ev σ p → AF P o' env.ev (σ ++ τ) p := fun o' h => by
    refine AO.monoRS (AO.frameT (τ := τ) h) (fun p' s => ?_) (fun p' s => ?_)
    · rintro ⟨s0, rfl, rfl, rfl⟩; exact ⟨rfl, rfl⟩
    · rintro ⟨s0, rfl, h⟩; exact h
  rcases h with ⟨hg, h⟩ | ⟨j, want, oj, u, h1, h2, h3, h⟩
  · exact .inl ⟨hg, key _ h⟩
  · refine .inr ⟨j, want, oj, u, h1, h2, h3, ?_⟩
    rcases h with ⟨h5, h⟩ | h
    · exact .inl ⟨h5, key _ h⟩
    · exact .inr h
theorem OpEv.congrR {P : Program} {all : Array Oper} {env env' : Env} {σ : List Res} {o : Oper} {p : PV} {L : List Oper} (hall : all = L.toArray) (h : OpEv P all env σ o p) (he : ∀ t ∈ readsOf L o, env'.get t = env.get t) : OpEv P all env' σ o p := by
  subst hall
  have hop : ∀ x ∈ o.op.operands, env'.ev x = env.ev x := fun x hx => ev_congr fun t ht => he t (by
    subst ht
    unfold readsOf
    exact List.mem_append.2 (.inl (List.mem_filterMap.2 ⟨.tmp t, by simpa using hx, rfl⟩)))
  rcases h with ⟨hg, h⟩ | ⟨j, want, oj, u, hg, hj, hu, h⟩
  · exact .inl ⟨hg, AO.congr h hop⟩
  · have hu' : env'.get u = env.get u := by
      rw [he u]
      unfold readsOf
      refine List.mem_append.2 (.inr ?_)
      rw [hg]
      simp only
      rw [show L[j]? = some oj from by simpa using hj]
      simp [hu]
    refine .inr ⟨j, want, oj, u, hg, hj, hu, ?_⟩
    rw [hu']
    rcases h with ⟨h1, h2⟩ | h
    · exact .inl ⟨h1, AO.congr h2 hop⟩
    · exact .inr h
def putE (dst : Option Tmp) (p : PV) (e : Env) : Env := match dst with | some t => (t, p) :: e | none => e
theorem get_putE_other {dst : Option Tmp} {p : PV} {e : Env} {t : Nat} (h : dst ≠ some t) : (putE dst p e).get t = e.get t := by
  cases dst with
  | none => rfl
  | some u =>
    have : u ≠ t := fun hh => h (by rw [hh])
    simp only [putE, Env.get, beq_ne this, cond_false]
section
variable {P : Program} {n : Nat} {ds : List Deferred} {L : List Oper} {k k2 : Nat}
theorem wpAny_G (k0 : Nat) (hk0 : ∀ i q, k ≤ i → i < k2 → q < k0 → q ∈ downsAt L i) (hk : k ≤ k2) (hk2 : k2 ≤ L.length) (ho : OrderG L k k2) {d : Nat → Nat} (hd : ∀ i o, i < k → L[i]? = some o → o.dst = some (d i) ∧ d i < n) {σ1 : List Res} {Q : Post}
    (I : (Nat → Bool) → Env → List Res → Prop) (hI : ∀ S S' e σ, (∀ i, k ≤ i → i < k2 → S i = S' i) → I S e σ → I S' e σ)
    (hT : ∀ S e σ2 i o, I S e σ2 → k ≤ i → i < k2 → S i = false → (∀ j ∈ predsOf o, k ≤ j → S j = true) → L[i]? = some o → o.guard = none ∧ (∀ t, o.dst = some t → t < n) ∧
      AO P o e.ev σ2 (fun p σ2' => I (fun j => if i = j then true else S j) (putE o.dst p e) σ2') (fun p σ2' => Q (.panic p) [] (σ1 ++ σ2') ds))
    (hend : ∀ S e σ2, (∀ i, k ≤ i → i < k2 → S i = true) → I S e σ2 → AR P n L.toArray (L.drop k2) e (σ1 ++ σ2) ds Q)
    {QC : Exit → Act → World → Prop} : ∀ (fuel : Nat) (listed : Array Bool) (a : Act) (w : World) (m : Imm) (E : Env) (σ2 : List Res), listed.size = L.length → listed.toList.count false ≤ fuel →
      (∀ j, k2 ≤ j → j < L.length → listed.getD j true = false) → (∀ i o, L[i]? = some o → listed.getD i true = true → ∀ j ∈ predsOf o, listed.getD j true = true) →
      (∀ i o, i < k → L[i]? = some o → listed.getD i true = false → OpEv P L.toArray E (if i < k0 then σ1 ++ σ2 else σ1) o (E.get (d i))) → I (fun i => listed.getD i true) E σ2 →
      SimS w m n (hide (fun t => (List.range k).any fun i => !listed.getD i true && Nat.beq (d i) t) E) (σ1 ++ σ2) ds a → Acc n Q w m (σ1 ++ σ2) QC → wpAny P .any L.toArray QC fuel listed a w := by
  have hidden : ∀ (listed : Array Bool) (t : Nat), ((List.range k).any fun i => !listed.getD i true && Nat.beq (d i) t) = true ↔ ∃ i, i < k ∧ listed.getD i true = false ∧ d i = t := by
    intro listed t
    rw [List.any_eq_true]
    constructor
    · rintro ⟨i, hi, h⟩
      simp only [Bool.and_eq_true, Bool.not_eq_true'] at h
      exact ⟨i, by simpa using hi, h.1, Nat.eq_of_beq_eq_true h.2⟩
    · rintro ⟨i, hi, h1, h2⟩
      exact ⟨i, by simpa using hi, by simp [h1, h2]⟩
  have done : ∀ (fuel : Nat) (listed : Array Bool) (a : Act) (w : World) (m : Imm) (E : Env) (σ2 : List Res), listed.size = L.length → listed.toList.count false ≤ fuel →
      (∀ j, k2 ≤ j → j < L.length → listed.getD j true = false) → (∀ j, j < k2 → listed.getD j true = true) → I (fun i => listed.getD i true) E σ2 →
      SimS w m n (hide (fun t => (List.range k).any fun i => !listed.getD i true && Nat.beq (d i) t) E) (σ1 ++ σ2) ds a → Acc n Q w m (σ1 ++ σ2) QC → wpAny P .any L.toArray QC fuel listed a w := by
    intro fuel listed a w m E σ2 hsz hcnt hun hall hi hs ha
    have hl : ∀ j, j < L.length → (listed.getD j true = true ↔ j < k2) := by
      intro j hj
      rcases Nat.lt_or_ge j k2 with h | h
      · simp [hall j h, h]
      · simp [hun j h hj]; omega
    refine wpAny_tail (k := k2) ho.before ho.tails fuel k2 listed a w (Nat.le_refl _) hk2 hsz hl ?_ ?_
    · have hc : (listed.toList.drop k2).count false = L.length - k2 := by
        have : listed.toList.drop k2 = List.replicate (L.length - k2) false := by
          apply List.ext_getElem
          · simp [hsz]
          · intro j h1 h2
            simp at h1 h2 ⊢
            have h3 := hun (k2 + j) (by omega) (by omega)
            have h4 : k2 + j < listed.size := by omega
            simpa [Array.getD, h4] using h3
        rw [this]; simp
      have : (listed.toList.drop k2).count false ≤ listed.toList.count false := List.Sublist.count_le _ (List.drop_sublist _ _)
      omega
    · refine hend _ E σ2 (fun i _ hi => hall i hi) hi w m a QC (hs.congr fun t => .inr ?_) ha
      rw [get_hide]
      rw [if_neg]
      rw [hidden]
      rintro ⟨i, h1, h2, _⟩
      rw [hall i (by omega)] at h2; cases h2
  intro fuel
  induction fuel with
  | zero =>
    intro listed a w m E σ2 hsz hcnt hun hdown hfa hi hs ha
    refine done 0 listed a w m E σ2 hsz hcnt hun (fun j hj => ?_) hi hs ha
    have h0 : listed.toList.count false = 0 := by omega
    rw [List.count_eq_zero] at h0
    have hj' : j < listed.size := by omega
    cases e : listed.getD j true with
    | true => rfl
    | false =>
      exfalso
      apply h0
      have : listed[j] = false := by simpa [Array.getD, hj'] using e
      rw [← this]
      simp
  | succ fuel ih =>
    intro listed a w m E σ2 hsz hcnt hun hdown hfa hi hs ha
    by_cases hall : ∀ j, j < k2 → listed.getD j true = true
    · exact done (fuel + 1) listed a w m E σ2 hsz hcnt hun hall hi hs ha
    · have hex : ∃ i, i < k2 ∧ listed.getD i true = false ∧ ∀ j, j < i → listed.getD j true = true := by
        have key : ∀ c, (∀ j, j < c → j < k2 → listed.getD j true = true) ∨ ∃ i, i < k2 ∧ listed.getD i true = false ∧ ∀ j, j < i → listed.getD j true = true := by
          intro c
          induction c with
          | zero => exact .inl fun j hj => by omega
          | succ c ihc =>
            rcases ihc with h | h
            · by_cases hc : c < k2 ∧ listed.getD c true = false
              · exact .inr ⟨c, hc.1, hc.2, fun j hj => h j hj (by omega)⟩
              · refine .inl fun j hj hjk => ?_
                by_cases e : j = c
                · subst e
                  cases e : listed.getD j true with
                  | true => rfl
                  | false => exact absurd ⟨hjk, e⟩ hc
                · exact h j (by omega) hjk
            · exact .inr h
        rcases key k2 with h | h
        · exact absurd (fun j hj => h j hj hj) hall
        · exact h
      have getDef : ∀ j b, j < L.length → listed.getD j b = listed.getD j true := by
        intro j b hj
        have : j < listed.size := by omega
        simp [Array.getD, this]
      refine ⟨fun h0 => ?_, fun i hi' => ?_⟩
      · exfalso
        obtain ⟨i, hik, hif, hlow⟩ := hex
        have hiL : i < L.length := by omega
        have : i ∈ Region.ready .any L.toArray listed := by
          refine mem_ready.2 ⟨by simpa using hiL, hif, L[i], by simp [hiL], fun e he hb => ?_⟩
          have hj := ho.before i _ (List.getElem?_eq_getElem hiL) e.on (mem_preds.2 ⟨e, he, hb, rfl⟩)
          rw [getDef _ _ (by omega)]
          exact hlow _ hj
        rw [h0] at this
        cases this
      · obtain ⟨h1, h2, o, h3, h4⟩ := mem_ready.1 hi'
        have hiL : i < L.length := by simpa using h1
        have hoi : L[i]? = some o := by simpa using h3
        have hpred : ∀ j ∈ predsOf o, listed.getD j true = true := by
          intro j hj
          obtain ⟨e, he, hb, hon⟩ := mem_preds.1 hj
          have h5 := h4 e he hb
          rw [hon, getDef _ _ (by have := ho.before i o hoi j hj; omega)] at h5
          exact h5
        have hdn : ∀ j ∈ downsAt L i, listed.getD j true = true := by
          intro j hj
          unfold downsAt at hj
          rw [hoi] at hj
          exact downs_listed (k := i) (listed := fun j => listed.getD j true = true) (fun q oq _ hq hl => hdown q oq hq hl) i (predsOf o) (Nat.le_refl _) hpred j hj
        have hik : i < k2 := by
          rcases Nat.lt_or_ge i k2 with h | h
          · exact h
          · exfalso
            obtain ⟨q, hqk, hqf, _⟩ := hex
            rcases Nat.lt_or_ge k2 i with h' | h'
            · obtain ⟨j, hj, hji⟩ := ho.tails i o h' hoi
              have h6 := hpred j hj
              rw [hun j (by omega) (by omega)] at h6
              cases h6
            · have hik : i = k2 := by omega
              subst hik
              have h6 := hdn q (ho.tailk o hoi q hqk)
              rw [hqf] at h6
              cases h6
        have hset : ∀ j, (listed.setIfInBounds i true).getD j true = if i = j then true else listed.getD j true := getD_set (by omega)
        have hcnt' : (listed.setIfInBounds i true).toList.count false ≤ fuel := by
          have hil : listed.toList[i]? = some false := by
            have hi' : i < listed.size := by omega
            have : listed[i] = false := by simpa [Array.getD, hi'] using h2
            simp [hi', this]
          have := count_set hil
          rw [Array.toList_setIfInBounds]
          omega
        have hun' : ∀ j, k2 ≤ j → j < L.length → (listed.setIfInBounds i true).getD j true = false := by
          intro j hkj hj
          rw [hset, if_neg (by omega)]
          exact hun j hkj hj
        have hdown' : ∀ q oq, L[q]? = some oq → (listed.setIfInBounds i true).getD q true = true → ∀ j ∈ predsOf oq, (listed.setIfInBounds i true).getD j true = true := by
          intro q oq hoq hl j hj
          rw [hset] at hl ⊢
          by_cases e : i = j
          · simp [e]
          · simp only [e, if_false]
            by_cases e2 : i = q
            · subst e2
              rw [hoi] at hoq
              cases hoq
              exact hpred j hj
            · simp only [e2, if_false] at hl
              exact hdown q oq hoq hl j hj
        have hget : ∀ t ∈ readsOf L o, (hide (fun t => (List.range k).any fun i => !listed.getD i true && Nat.beq (d i) t) E).get t = E.get t := by
          intro t ht
          rw [get_hide, if_neg]
          rw [hidden]
          rintro ⟨j, hjk, hjf, hjt⟩
          have hoj : L[j]? = some L[j] := List.getElem?_eq_getElem (by omega)
          have hdj := (hd j _ hjk hoj).1
          rw [hjt] at hdj
          rcases Nat.lt_or_ge i k with h | h
          · by_cases e : i = j
            · subst e
              have e9 := Option.some.inj (hoi.symm.trans hoj)
              rw [← e9] at hdj
              exact ho.self i o t h hoi hdj ht
            · have := hpred j ((ho.apart i o j _ t h hoi (by omega) hoj e hdj).2 ht).2
              rw [hjf] at this; cases this
          · have := hdn j (ho.mid i o j _ t h hik hoi hjk hoj hdj ht)
            rw [hjf] at this; cases this
        rcases Nat.lt_or_ge i k with hlt | hge
        · obtain ⟨hdo, hdn'⟩ := hd i o hlt hoi
          have hev := hfa i o hlt hoi h2
          have hev' : OpEv P L.toArray E (σ1 ++ σ2) o (E.get (d i)) := by
            split at hev
            · exact hev
            · exact OpEv.frameT hev
          refine wpOp_of_ev (t := d i) h3 hdo hdn' (OpEv.congrR rfl hev' hget) hs fun a' w' m' hs' htr' => ?_
          refine ih _ a' w' m' E σ2 (by simpa using hsz) hcnt' hun' hdown' ?_ ?_ ?_ (ha.step htr')
          · intro q oq hq hoq hl
            rw [hset] at hl
            by_cases e : i = q
            · simp [e] at hl
            · simp only [e, if_false] at hl
              exact hfa q oq hq hoq hl
          · refine hI _ _ _ _ (fun j hj _ => ?_) hi
            rw [hset, if_neg (by omega)]
          · refine hs'.congr fun t => ?_
            rw [get_hide]
            split
            · exact .inl rfl
            · rename_i hh
              right
              simp only [Env.get]
              by_cases e : d i = t
              · subst e; simp
              · rw [beq_ne e, cond_false, get_hide, if_neg]
                intro hh'
                apply hh
                rw [hidden] at hh' ⊢
                obtain ⟨j, h5, h6, h7⟩ := hh'
                refine ⟨j, h5, ?_, h7⟩
                rw [hset, if_neg (fun hij => e (by rw [hij]; exact h7))]
                exact h6
        · obtain ⟨hg, hdt, hao⟩ := hT _ E σ2 i o hi hge hik h2 (fun j hj _ => hpred j hj) hoi
          unfold wpOp
          rw [h3]
          simp only
          rw [if_pos (by simp [Region.wanted, hg])]
          left
          have hao' := AO.permT (σ := σ2 ++ σ1) (τ := σ1 ++ σ2) List.perm_append_comm (AO.frameT (τ := σ1) hao)
          refine hao' w m a _ QC (fun x hx => ?_) hs.conc ?_ ?_
          · have h9 := hs.env.ev x
            have : (hide (fun t => (List.range k).any fun i => !listed.getD i true && Nat.beq (d i) t) E).ev x = E.ev x := ev_congr fun t ht => hget t (by
              subst ht
              unfold readsOf
              exact List.mem_append.2 (.inl (List.mem_filterMap.2 ⟨.tmp t, by simpa using hx, rfl⟩)))
            rw [this] at h9
            exact h9
          · rintro p σ' v w' m' ⟨σ2', rfl, hi2⟩ hv hc htr
            have hc' := hc.perm (τ := σ1 ++ σ2') List.perm_append_comm
            have htr' := htr.perm (.refl _) (List.perm_append_comm (l₁ := σ2') (l₂ := σ1))
            have hne : ∀ q oq, q < k → L[q]? = some oq → ∀ t, o.dst = some t → oq.dst ≠ some t ∧ t ∉ readsOf L oq := by
              intro q oq hq hoq t ht
              obtain ⟨e1, e2⟩ := ho.apart q oq i o t hq hoq hik hoi (by omega) ht
              exact ⟨e1, fun hm => by have := (e2 hm).1; omega⟩
            refine ih _ _ w' m' (putE o.dst p E) σ2' (by simpa using hsz) hcnt' hun' hdown' ?_ ?_ ?_ (ha.step htr')
            · intro q oq hq hoq hl
              rw [hset, if_neg (by omega)] at hl
              have h8 := hfa q oq hq hoq hl
              have hq0 : ¬ q < k0 := fun hh => by
                have := hdn q (hk0 i q hge hik hh)
                rw [hl] at this; cases this
              rw [if_neg hq0] at h8 ⊢
              have e1 : (putE o.dst p E).get (d q) = E.get (d q) := get_putE_other fun hh => (hne q oq hq hoq _ hh).1 (hd q oq hq hoq).1
              rw [e1]
              refine OpEv.congrR rfl h8 fun t ht => get_putE_other fun hh => (hne q oq hq hoq _ hh).2 ht
            · refine hI _ _ _ _ (fun j _ _ => ?_) hi2
              rw [hset]
            · have hput : SimS w' m' n (putE o.dst p (hide (fun t => (List.range k).any fun i => !listed.getD i true && Nat.beq (d i) t) E)) (σ1 ++ σ2') ds (a.put o.dst v) := by
                cases e : o.dst with
                | none => exact hs.put_none rfl hc' htr.le
                | some t => exact hs.put rfl (hdt t e) hv hc' htr.le
              refine hput.congr fun t => ?_
              rw [get_hide]
              split
              · exact .inl rfl
              · rename_i hh
                right
                cases e : o.dst with
                | none =>
                  simp only [putE]
                  rw [get_hide, if_neg]
                  intro hh'
                  apply hh
                  rw [hidden] at hh' ⊢
                  obtain ⟨j, h5, h6, h7⟩ := hh'
                  refine ⟨j, h5, ?_, h7⟩
                  rw [hset, if_neg (by omega)]
                  exact h6
                | some u =>
                  simp only [putE, Env.get]
                  by_cases e2 : u = t
                  · subst e2; simp
                  · rw [beq_ne e2, cond_false, cond_false, get_hide, if_neg]
                    intro hh'
                    apply hh
                    rw [hidden] at hh' ⊢
                    obtain ⟨j, h5, h6, h7⟩ := hh'
                    refine ⟨j, h5, ?_, h7⟩
                    rw [hset, if_neg (by omega)]
                    exact h6
          · rintro p σ' v w' m' ⟨σ2', rfl, hq⟩ hv hc htr
            have hc' := hc.perm (τ := σ1 ++ σ2') List.perm_append_comm
            have htr' := htr.perm (.refl _) (List.perm_append_comm (l₁ := σ2') (l₂ := σ1))
            exact ha (.panic p) _ [] _ ds a w' m' hq ⟨v, rfl, hv⟩ ⟨hs.size, hs.ds, fun t => by simp [Env.get, Rep], hc'⟩ htr'
def TF (P : Program) (n : Nat) (ds : List Deferred) (Q : Post) (σ1 : List Res) : List Oper → Env → List Res → (Env → List Res → Prop) → Prop
  | [], e, σ2, K => K e σ2
  | o :: r, e, σ2, K => o.guard = none ∧ (∀ t, o.dst = some t → t < n) ∧ ∃ e2, Less e2 e ∧ AO P o e2.ev σ2 (fun p σ2' => TF P n ds Q σ1 r (putE o.dst p e2) σ2' K) (fun p σ2' => Q (.panic p) [] (σ1 ++ σ2') ds)
theorem TF.less {Q : Post} {σ1 : List Res} {K : Env → List Res → Prop} (hK : ∀ e e' s, Less e' e → K e' s → K e s) : ∀ {l : List Oper} {e e' : Env} {σ2 : List Res}, Less e' e → TF P n ds Q σ1 l e' σ2 K → TF P n ds Q σ1 l e σ2 K
  | [], e, e', s, h, k => hK e e' s h k
  | o :: r, e, e', s, h, ⟨h1, h2, e2, h3, h4⟩ => ⟨h1, h2, e2, h3.trans h, h4⟩
def chainG (L : List Oper) (k k2 : Nat) : Bool :=
  (List.range L.length).all fun i => !(Nat.blt k i && Nat.blt i k2) || (match L[i]? with | some o => (predsOf o).any fun x => Nat.beq (x + 1) i | none => true)
theorem chainG_of (h : chainG L k k2 = true) {i : Nat} {o : Oper} (h1 : k < i) (h2 : i < k2) (ho : L[i]? = some o) : ∃ j ∈ predsOf o, j + 1 = i := by
  unfold chainG at h
  rw [List.all_eq_true] at h
  have hi : i < L.length := by
    rcases Nat.lt_or_ge i L.length with h' | h'
    · exact h'
    · simp [List.getElem?_eq_none h'] at ho
  have := h i (by simpa using hi)
  rw [ho, blt_iff.2 h1, blt_iff.2 h2] at this
  simp only [Bool.and_self, Bool.not_true, Bool.false_or] at this
  rw [List.any_eq_true] at this
  obtain ⟨x, hx, hxi⟩ := this
  exact ⟨x, hx, Nat.eq_of_beq_eq_true hxi⟩
def earlyG (L : List Oper) (k0 k k2 : Nat) : Bool :=
  (List.range k2).all fun i => Nat.blt i k || (List.range k0).all fun q => hasN (downsAt L i) q
theorem earlyG_of {k0 : Nat} (h : earlyG L k0 k k2 = true) : ∀ i q, k ≤ i → i < k2 → q < k0 → q ∈ downsAt L i := by
  intro i q h1 h2 h3
  unfold earlyG at h
  rw [List.all_eq_true] at h
  have := h i (by simpa using h2)
  have hb : Nat.blt i k = false := by
    cases e : Nat.blt i k with
    | false => rfl
    | true => have := blt_iff.1 e; omega
  rw [hb, Bool.false_or, List.all_eq_true] at this
  exact any_beq.1 (this q (by simpa using h3))
theorem OpEv.permT {all : Array Oper} {env : Env} {σ τ : List Res} {o : Oper} {p : PV} (hp : τ.Perm σ) (h : OpEv P all env σ o p) : OpEv P all env τ o p := by
  have key : ∀ o', AF P o' env.ev σ p → AF P o' env.ev τ p := fun o' h w m a K QC hr hc h1 h2 => by
    refine h w m a K QC hr (hc.perm hp) (fun p s v w' m' k1 k2 k3 k4 => ?_) (fun p s v w' m' k1 k2 k3 k4 => k1.elim)
    obtain ⟨rfl, rfl⟩ := k1
    exact h1 _ _ v w' m' ⟨rfl, rfl⟩ k2 (k3.perm hp.symm) (k4.perm hp.symm hp.symm)
  rcases h with ⟨hg, h⟩ | ⟨j, want, oj, u, h1, h2, h3, h⟩
  · exact .inl ⟨hg, key _ h⟩
  · refine .inr ⟨j, want, oj, u, h1, h2, h3, ?_⟩
    rcases h with ⟨h5, h⟩ | h
    · exact .inl ⟨h5, key _ h⟩
    · exact .inr h
theorem facts2 {env : Env} {σ σ1 : List Res} {k0 : Nat} {K : Env → Prop} (hk0 : k0 ≤ k) (hk : k ≤ L.length) (h : Ev P n L.toArray σ env (L.take k0) fun env' => Ev P n L.toArray σ1 env' ((L.drop k0).take (k - k0)) K) :
    ∃ (d : Nat → Nat) (p : Nat → PV), (∀ i o, i < k → L[i]? = some o → o.dst = some (d i) ∧ d i < n ∧ OpEv P L.toArray (envS (fun _ => true) d p env i) (if i < k0 then σ else σ1) o (p i)) ∧ K (envS (fun _ => true) d p env k) := by
  obtain ⟨d1, p1, h1, h2⟩ := Ev.facts h
  rw [List.length_take, Nat.min_eq_left (by omega)] at h2
  obtain ⟨d2, p2, h3, h4⟩ := Ev.facts h2
  have hl : ((L.drop k0).take (k - k0)).length = k - k0 := by simp; omega
  rw [hl] at h4
  have e1 : ∀ j, j ≤ k0 → envS (fun _ => true) (fun i => if i < k0 then d1 i else d2 (i - k0)) (fun i => if i < k0 then p1 i else p2 (i - k0)) env j = envS (fun _ => true) d1 p1 env j := by
    intro j
    induction j with
    | zero => intro _; rfl
    | succ j ih => intro hj; simp only [envS, if_true]; rw [ih (by omega), if_pos (by omega), if_pos (by omega)]
  have e2 : ∀ j, envS (fun _ => true) (fun i => if i < k0 then d1 i else d2 (i - k0)) (fun i => if i < k0 then p1 i else p2 (i - k0)) env (k0 + j) = envS (fun _ => true) d2 p2 (envS (fun _ => true) d1 p1 env k0) j := by
    intro j
    induction j with
    | zero => exact e1 k0 (Nat.le_refl _)
    | succ j ih => rw [← Nat.add_assoc]; simp only [envS, if_true]; rw [ih, if_neg (by omega), if_neg (by omega), Nat.add_sub_cancel_left]
  refine ⟨fun i => if i < k0 then d1 i else d2 (i - k0), fun i => if i < k0 then p1 i else p2 (i - k0), fun i o hi hoi => ?_, ?_⟩
  · by_cases h : i < k0
    · have := h1 i o (by rw [List.getElem?_take_of_lt h]; exact hoi)
      rw [e1 i (by omega)]
      simp only [if_pos h]
      exact this
    · obtain ⟨j, rfl⟩ : ∃ j, i = k0 + j := ⟨i - k0, by omega⟩
      have := h3 j o (by rw [List.getElem?_take_of_lt (by omega), List.getElem?_drop]; exact hoi)
      rw [e2 j]
      simp only [if_neg h, Nat.add_sub_cancel_left]
      exact this
  · have := e2 (k - k0)
    rw [show k0 + (k - k0) = k from by omega] at this
    rw [this]; exact h4
theorem AW.drawP {env : Env} {σ : List Res} {Q : Post} {id : Nat} (k0 k k2 : Nat) (σ1 σ2 : List Res) (hm : P.follows .mixedOrders = true) (ho : orderG L k k2 = true) (hch : chainG L k k2 = true) (hea : earlyG L k0 k k2 = true) (hk0 : Nat.ble k0 k = true) (hk : Nat.ble k k2 = true) (hk2 : Nat.ble k2 L.length = true)
    (hperm : σ.Perm (σ1 ++ σ2))
    (h : Ev P n L.toArray σ env (L.take k0) fun env' => Ev P n L.toArray σ1 env' ((L.drop k0).take (k - k0)) fun env' => TF P n ds Q σ1 ((L.drop k).take (k2 - k)) env' σ2 fun e σ2 => AR P n L.toArray (L.drop k2) e (σ1 ++ σ2) ds Q) :
    AW P n (.region id L.toArray true) env σ ds Q := by
  intro w m a QC hs ha
  have hk : k ≤ k2 := Nat.le_of_ble_eq_true hk
  have hk2 : k2 ≤ L.length := Nat.le_of_ble_eq_true hk2
  have ho := orderG_of hk ho
  have hk0 : k0 ≤ k := Nat.le_of_ble_eq_true hk0
  obtain ⟨d, p, h1, h2⟩ := facts2 hk0 (by omega) h
  have hdrew : Trans w m σ { w with drawn := w.drawn + 1 } m σ := ⟨rfl, rfl, rfl, Nat.le_refl _, fun _ _ h => ⟨h, rfl⟩, fun _ _ _ => ⟨rfl, fun _ h => h⟩, fun _ h => .inl h, Nat.le_succ _⟩
  have hc' : Conc { w with drawn := w.drawn + 1 } m σ := ⟨fun r hr => Res.holds_keep (hs.conc.each r hr) hdrew.le fun _ _ => ⟨rfl, fun _ h => h⟩, hs.conc.apart, hs.conc.wf⟩
  have htr' : Trans w m σ { w with drawn := w.drawn + 1 } m (σ1 ++ σ2) := hdrew.perm (.refl _) hperm
  have hd : ∀ i o, i < k → L[i]? = some o → o.dst = some (d i) ∧ d i < n := fun i o hi hoi => by
    have := h1 i o hi hoi
    exact ⟨this.1, this.2.1⟩
  refine wp_region_any hm ?_
  let T1 := (L.drop k).take (k2 - k)
  have hT1 : ∀ j, k ≤ j → j < k2 → T1[j - k]? = L[j]? := fun j h1 h2 => by
    simp only [T1]
    rw [List.getElem?_take_of_lt (by omega), List.getElem?_drop]
    congr 1; omega
  have hT1l : T1.length = k2 - k := by simp [T1]; omega
  refine wpAny_G k0 (earlyG_of hea) (ds := ds) (d := d) (σ1 := σ1) (Q := Q) hk hk2 ho hd
    (fun S e σ2 => ∃ j, j ≤ k2 - k ∧ (∀ i, k ≤ i → i < k2 → (S i = true ↔ i < k + j)) ∧ TF P n ds Q (σ1) (T1.drop j) e σ2 fun e σ2 => AR P n L.toArray (L.drop k2) e (σ1 ++ σ2) ds Q)
    ?_ ?_ ?_ _ _ a _ m (envS (fun _ => true) d p env k) σ2 (by simp) ?_ ?_ ?_ ?_ ?_ ?_ (ha.step htr')
  · rintro S S' e s hS ⟨j, h3, h4, h5⟩
    exact ⟨j, h3, fun i hi hi2 => by rw [← hS i hi hi2]; exact h4 i hi hi2, h5⟩
  · rintro S e s i o ⟨j, h3, h4, h5⟩ hki hi2 hSi hpr hoi
    have hij : i = k + j ∨ k + j < i := by
      have := (h4 i hki hi2)
      rw [hSi] at this
      have : ¬ i < k + j := fun hh => by have := this.2 hh; cases this
      omega
    have hjlt : j < k2 - k := by omega
    have hdrop : T1.drop j = L[k + j]'(by omega) :: T1.drop (j + 1) := by
      rw [List.drop_eq_getElem_cons (by omega)]
      congr 1
      have := hT1 (k + j) (by omega) (by omega)
      rw [show k + j - k = j from by omega, List.getElem?_eq_getElem (by omega), List.getElem?_eq_getElem (by omega)] at this
      exact Option.some.inj this
    rw [hdrop] at h5
    have hieq : i = k + j := by
      rcases hij with h | h
      · exact h
      · exfalso
        obtain ⟨q, hq, hqi⟩ := chainG_of hch (by omega) hi2 hoi
        have := (h4 q (by omega) (by omega)).1 (hpr q hq (by omega))
        omega
    subst hieq
    have e9 : L[k + j]'(by omega) = o := Option.some.inj ((List.getElem?_eq_getElem (by omega)).symm.trans hoi)
    rw [e9] at h5
    obtain ⟨g1, g2, e2, g3, g4⟩ := h5
    refine ⟨g1, g2, AO.less g3 (AO.monoRS g4 (fun p s hp => ?_) fun p s hp => hp)⟩
    refine ⟨j + 1, by omega, fun q hq hq2 => ?_, TF.less (K := fun e σ2 => AR P n L.toArray (L.drop k2) e (σ1 ++ σ2) ds Q) (fun _ _ _ h' k' => AR.less h' k') ?_ hp⟩
    · by_cases e : k + j = q
      · simp [e]; omega
      · simp only [e, if_false]
        rw [h4 q hq hq2]; omega
    · cases o.dst with
      | none => exact g3
      | some t => exact g3.cons t p
  · rintro S e s hS ⟨j, h3, h4, h5⟩
    have : j = k2 - k := by
      rcases Nat.lt_or_ge j (k2 - k) with h | h
      · have := (h4 (k + j) (by omega) (by omega)).1 (hS _ (by omega) (by omega))
        omega
      · omega
    subst this
    rw [List.drop_eq_nil_of_le (by omega)] at h5
    exact h5
  · simp
  · intro j _ hj
    simp [Array.getD, hj]
  · intro i o hoi hl
    have hiL : i < L.length := by
      rcases Nat.lt_or_ge i L.length with h | h
      · exact h
      · simp [List.getElem?_eq_none h] at hoi
    simp [Array.getD, hiL] at hl
  · intro i o hi hoi _
    obtain ⟨f1, f2, f3⟩ := h1 i o hi hoi
    have hother : ∀ t, (o.dst = some t ∨ t ∈ readsOf L o) → ∀ j, (i ≤ j ∧ t ∈ readsOf L o ∨ i + 1 ≤ j) → j < k → d j ≠ t := by
      intro t ht j hj hjk hdj
      have hoj : L[j]? = some L[j] := List.getElem?_eq_getElem (by omega)
      have e1 := (hd j _ hjk hoj).1
      rw [hdj] at e1
      by_cases e : i = j
      · subst e
        have e9 := Option.some.inj (hoi.symm.trans hoj)
        rw [← e9] at e1
        rcases hj with ⟨_, hj⟩ | hj
        · exact ho.self i o t hi hoi e1 hj
        · omega
      · obtain ⟨e2, e3⟩ := ho.apart i o j _ t hi hoi (by omega) hoj e e1
        rcases ht with ht | ht
        · exact e2 ht
        · have := ho.before i o hoi j (e3 ht).2
          omega
    have eget : (envS (fun _ => true) d p env k).get (d i) = p i := by
      rw [get_envS_other (i := i + 1) (by omega) fun j h4 h5 _ => hother (d i) (.inl f1) j (.inr h4) h5]
      simp [envS, Env.get]
    rw [eget]
    have f4 : OpEv P L.toArray (envS (fun _ => true) d p env i) (if i < k0 then σ1 ++ σ2 else σ1) o (p i) := by
      split
      · rename_i hh
        rw [if_pos hh] at f3
        exact OpEv.permT hperm.symm f3
      · rename_i hh
        rw [if_neg hh] at f3
        exact f3
    refine OpEv.congrR rfl f4 fun t ht => ?_
    exact get_envS_other (by omega) fun j h4 h5 _ => hother t (.inr ht) j (.inl ⟨h4, ht⟩) h5
  · refine ⟨0, by omega, fun i hi hi2 => ?_, by rw [List.drop_zero]; exact h2⟩
    have hiL : i < L.length := by omega
    simp [Array.getD, hiL]
    omega
  · refine ⟨hs.size, hs.ds, fun t => ?_, hc'.perm hperm⟩
    rw [get_hide]
    split
    · simp [Rep]
    · rename_i hh
      rw [get_envS_other (i := 0) (Nat.zero_le _)]
      · exact hs.env.mono hdrew.le t
      · intro j _ hj _ hdj
        apply hh
        rw [List.any_eq_true]
        have hjL : j < L.length := by omega
        exact ⟨j, by simpa using hj, by simp [Array.getD, hjL, hdj]⟩
theorem perm_eraseL {σ : List Res} {i : Nat} {r : Res} (hi0 : σ[i]? = some r) : σ.Perm (σ.eraseIdx i ++ [r]) := by
  induction σ generalizing i with
  | nil => simp at hi0
  | cons x xs ih =>
    cases i with
    | zero =>
      simp at hi0; subst hi0
      simpa using (List.perm_append_comm (l₁ := [x]) (l₂ := xs))
    | succ i =>
      simp at hi0
      simpa using (ih hi0).cons x
theorem AW.drawG {env : Env} {σ : List Res} {Q : Post} {id : Nat} (k0 k k2 i0 : Nat) {r : Res} (hm : P.follows .mixedOrders = true) (ho : orderG L k k2 = true) (hch : chainG L k k2 = true) (hea : earlyG L k0 k k2 = true) (hk0 : Nat.ble k0 k = true) (hk : Nat.ble k k2 = true) (hk2 : Nat.ble k2 L.length = true)
    (hi0 : σ[i0]? = some r)
    (h : Ev P n L.toArray σ env (L.take k0) fun env' => Ev P n L.toArray (σ.eraseIdx i0) env' ((L.drop k0).take (k - k0)) fun env' => TF P n ds Q (σ.eraseIdx i0) ((L.drop k).take (k2 - k)) env' [r] fun e σ2 => AR P n L.toArray (L.drop k2) e (σ.eraseIdx i0 ++ σ2) ds Q) :
    AW P n (.region id L.toArray true) env σ ds Q :=
  AW.drawP k0 k k2 (σ.eraseIdx i0) [r] hm ho hch hea hk0 hk hk2 (perm_eraseL hi0) h
def AllB : Nat → (List Nat → Prop) → Prop
  | 0, K => K []
  | m + 1, K => ∀ b, AllB m fun bs => K (b :: bs)
theorem AllB.at {K : List Nat → Prop} : ∀ {m : Nat}, AllB m K → ∀ bs : List Nat, bs.length = m → K bs
  | 0, h, [], _ => h
  | m + 1, h, b :: bs, hl => AllB.at (K := fun bs => K (b :: bs)) (h b) bs (by simpa using hl)
def ptrTo (b : Nat) : PV := .val (.pointer (some ⟨b, 0, none⟩))
def envB : List Nat → List Nat → Env → Env
  | t :: ts, b :: bs, e => envB ts bs ((t, .val (.pointer (some ⟨b, 0, none⟩))) :: e)
  | _, _, e => e
def sigB (cs : List PV) : List Nat → List Res → List Res
  | b :: bs, σ => sigB cs bs (.box b cs :: σ)
  | [], σ => σ
theorem sigB_perm (cs : List PV) : ∀ (bs : List Nat) (σ : List Res), (sigB cs bs σ).Perm (σ ++ bs.map fun b => .box b cs)
  | [], σ => by simp [sigB]
  | b :: bs, σ => by
    refine (sigB_perm cs bs _).trans ?_
    simp only [List.map_cons, List.cons_append]
    exact List.perm_middle.symm
theorem get_envB_not {t : Nat} : ∀ (ts bs : List Nat) (e : Env), t ∉ ts → (envB ts bs e).get t = e.get t
  | [], [], _, _ => rfl
  | [], _ :: _, _, _ => rfl
  | _ :: _, [], _, _ => rfl
  | u :: ts, b :: bs, e, h => by
    simp only [List.mem_cons, not_or] at h
    simp only [envB]
    rw [get_envB_not ts bs _ h.2]
    simp only [Env.get]
    rw [beq_ne (fun hh => h.1 hh.symm)]; rfl
theorem get_envB_at {t b : Nat} : ∀ (ts bs : List Nat) (e : Env) (j : Nat), ts.Nodup → ts[j]? = some t → bs[j]? = some b → (envB ts bs e).get t = ptrTo b
  | [], _, _, j, _, h, _ => by simp at h
  | _ :: _, [], _, j, _, _, h => by simp at h
  | u :: ts, b' :: bs, e, 0, hn, h1, h2 => by
    simp only [List.nodup_cons] at hn
    simp at h1 h2; subst h1 h2
    simp only [envB]
    rw [get_envB_not ts bs _ hn.1]
    simp [Env.get, ptrTo]
  | u :: ts, b' :: bs, e, j + 1, hn, h1, h2 => by
    simp only [List.nodup_cons] at hn
    exact get_envB_at ts bs _ j hn.2 (by simpa using h1) (by simpa using h2)
def allocAll (L : List Oper) (e k : Nat) (ts : List Nat) : Bool :=
  (List.range ts.length).all fun j => match L[k + j]?, ts[j]? with
    | some o, some t => (match o.op with | .alloc e' => Nat.beq e' e | _ => false) && (match o.dst with | some u => Nat.beq u t | none => false) && (match o.guard with | none => true | some _ => false)
    | _, _ => false
theorem allocAll_of {L : List Oper} {e k : Nat} {ts : List Nat} (h : allocAll L e k ts = true) {j : Nat} (hj : j < ts.length) : ∃ o t, L[k + j]? = some o ∧ ts[j]? = some t ∧ o.op = .alloc e ∧ o.dst = some t ∧ o.guard = none := by
  unfold allocAll at h
  rw [List.all_eq_true] at h
  have := h j (by simpa using hj)
  split at this
  · rename_i o t h1 h2
    simp only [Bool.and_eq_true] at this
    obtain ⟨⟨a1, a2⟩, a3⟩ := this
    refine ⟨o, t, h1, h2, ?_, ?_, ?_⟩
    · split at a1
      · rename_i e' he; rw [he, Nat.eq_of_beq_eq_true a1]
      · cases a1
    · split at a2
      · rename_i u hu; rw [hu, Nat.eq_of_beq_eq_true a2]
      · cases a2
    · split at a3
      · assumption
      · cases a3
  · cases this
theorem AW.drawB {env : Env} {σ : List Res} {Q : Post} {id : Nat} (k e : Nat) (ts : List Nat) {cs : List PV} (hm : P.follows .mixedOrders = true) (ho : orderG L k (k + ts.length) = true) (hk2 : Nat.ble (k + ts.length) L.length = true)
    (hz : zeroPV P e = some cs) (hal : allocAll L e k ts = true) (hts : (ts.all fun t => Nat.blt t n) = true) (hnd : ts.Nodup)
    (h : Ev P n L.toArray σ env (L.take k) fun env' => AllB ts.length fun bs => AR P n L.toArray (L.drop (k + ts.length)) (envB ts bs env') (sigB cs bs σ) ds Q) :
    AW P n (.region id L.toArray true) env σ ds Q := by
  intro w m a QC hs ha
  have hk2 : k + ts.length ≤ L.length := Nat.le_of_ble_eq_true hk2
  have ho := orderG_of (by omega) ho
  obtain ⟨d, p, h1, h2⟩ := Ev.facts h
  rw [List.length_take, Nat.min_eq_left (by omega)] at h2
  have hdrew : Trans w m σ { w with drawn := w.drawn + 1 } m σ := ⟨rfl, rfl, rfl, Nat.le_refl _, fun _ _ h => ⟨h, rfl⟩, fun _ _ _ => ⟨rfl, fun _ h => h⟩, fun _ h => .inl h, Nat.le_succ _⟩
  have hc' : Conc { w with drawn := w.drawn + 1 } m σ := ⟨fun r hr => Res.holds_keep (hs.conc.each r hr) hdrew.le fun _ _ => ⟨rfl, fun _ h => h⟩, hs.conc.apart, hs.conc.wf⟩
  have hd : ∀ i o, i < k → L[i]? = some o → o.dst = some (d i) ∧ d i < n := fun i o hi hoi => by
    have := h1 i o (by rw [List.getElem?_take_of_lt hi]; exact hoi)
    exact ⟨this.1, this.2.1⟩
  refine wp_region_any hm ?_
  generalize hE : envS (fun _ => true) d p env k = E0 at h2
  refine wpAny_G 0 (fun _ _ _ _ h => by omega) (ds := ds) (d := d) (σ1 := σ) (Q := Q) (k := k) (k2 := k + ts.length) (by omega) hk2 ho hd
    (fun S e' σ2 => ∃ b : Nat → Nat, (∀ t, (∀ j, j < ts.length → ts[j]? = some t → S (k + j) = false) → e'.get t = E0.get t) ∧ (∀ j t, ts[j]? = some t → S (k + j) = true → e'.get t = ptrTo (b j)) ∧
      σ2.Perm (((List.range ts.length).filter fun j => S (k + j)).map fun j => .box (b j) cs))
    ?_ ?_ ?_ _ _ a _ m E0 [] (by simp) ?_ ?_ ?_ ?_ ?_ ?_ (by rw [List.append_nil]; exact ha.step hdrew)
  · rintro S S' e' s hS ⟨b, h3, h4, h5⟩
    have hSS : ∀ j, j < ts.length → S (k + j) = S' (k + j) := fun j hj => hS _ (by omega) (by omega)
    have hlt : ∀ j t, ts[j]? = some t → j < ts.length := fun j t hjt => by
      rcases Nat.lt_or_ge j ts.length with h | h
      · exact h
      · simp [List.getElem?_eq_none h] at hjt
    refine ⟨b, fun t ht => h3 t fun j hj hjt => by rw [hSS j hj]; exact ht j hj hjt, fun j t hjt hj => h4 j t hjt (by rw [hSS j (hlt j t hjt)]; exact hj), ?_⟩
    rw [List.filter_congr (q := fun j => S (k + j)) (fun j hj => (hSS j (by simpa using hj)).symm)]
    exact h5
  · rintro S e' s i o ⟨b, h3, h4, h5⟩ hki hi2 hSi _ hoi
    obtain ⟨j, rfl⟩ : ∃ j, i = k + j := ⟨i - k, by omega⟩
    have hj : j < ts.length := by omega
    obtain ⟨o', t, e1, e2, e3, e4, e5⟩ := allocAll_of hal hj
    rw [hoi] at e1; cases e1
    refine ⟨e5, fun u hu => ?_, AO.alloc_own e3 hz fun b0 => ?_⟩
    · rw [e4] at hu; cases hu
      rw [List.all_eq_true] at hts
      exact blt_iff.1 (hts t (List.mem_of_getElem? e2))
    · have hinj : ∀ q, ts[q]? = some t → q = j := fun q hq => by
        have hq' : q < ts.length := by
          rcases Nat.lt_or_ge q ts.length with h | h
          · exact h
          · simp [List.getElem?_eq_none h] at hq
        exact (List.getElem?_inj hq' hnd).1 (by rw [hq, e2])
      refine ⟨fun q => if q = j then b0 else b q, fun u hu => ?_, fun q u hq hSq => ?_, ?_⟩
      · have hne : t ≠ u := fun hh => by
          subst hh
          have := hu j hj e2
          simp at this
        rw [get_putE_other (by rw [e4]; intro hh; exact hne (Option.some.inj hh))]
        refine h3 u fun q hq hqu => ?_
        have := hu q hq hqu
        simp only at this
        split at this
        · cases this
        · exact this
      · by_cases e : q = j
        · subst e
          rw [e2] at hq; cases hq
          simp [e4, putE, Env.get, ptrTo]
        · have hne : t ≠ u := fun hh => by subst hh; exact e (hinj q hq)
          rw [get_putE_other (by rw [e4]; intro hh; exact hne (Option.some.inj hh))]
          simp only [if_neg e]
          refine h4 q u hq ?_
          have hSq' : (if k + j = k + q then true else S (k + q)) = true := hSq
          rw [if_neg (by omega)] at hSq'
          exact hSq'
      · refine (h5.cons _).trans ?_
        have hsplit : ((List.range ts.length).filter fun q => if k + j = k + q then true else S (k + q)).Perm (j :: (List.range ts.length).filter fun q => S (k + q)) := by
          have hjm : j ∈ (List.range ts.length).filter fun q => if k + j = k + q then true else S (k + q) := by simp [hj]
          refine (List.perm_cons_erase hjm).trans (List.Perm.cons _ ?_)
          rw [List.Nodup.erase_eq_filter (List.nodup_range.sublist List.filter_sublist), List.filter_filter]
          refine List.Perm.of_eq (List.filter_congr fun q hq => ?_)
          by_cases e : j = q
          · subst e; simp [hSi]
          · simp [e, Ne.symm e, bne]
        refine List.Perm.trans ?_ (hsplit.map _).symm
        simp only [List.map_cons, if_true]
        refine List.Perm.cons _ (List.Perm.of_eq (List.map_congr_left fun q hq => ?_))
        have : q ≠ j := fun e => by
          subst e
          simp [hSi] at hq
        simp [this]
  · rintro S e' s hS ⟨b, h3, h4, h5⟩
    have hbl : ((List.range ts.length).map b).length = ts.length := by simp
    have h6 := h2.at ((List.range ts.length).map b) hbl
    have hall : ((List.range ts.length).filter fun j => S (k + j)) = List.range ts.length := List.filter_eq_self.2 fun j hj => hS _ (by omega) (by simp at hj; omega)
    rw [hall] at h5
    have hperm : (σ ++ s).Perm (sigB cs ((List.range ts.length).map b) σ) := by
      refine List.Perm.trans ?_ (sigB_perm cs _ σ).symm
      rw [List.map_map]
      exact List.Perm.append_left _ h5
    intro w1 m1 a1 QC1 hs1 ha1
    refine h6 w1 m1 a1 QC1 ?_ (ha1.step ((Trans.refl w1 m1 (σ ++ s)).perm (.refl _) hperm))
    refine ⟨hs1.size, hs1.ds, fun t => ?_, hs1.conc.perm hperm⟩
    have h7 := hs1.env t
    by_cases hm : t ∈ ts
    · obtain ⟨j, hj, hjt⟩ := List.mem_iff_getElem.1 hm
      have hjt' : ts[j]? = some t := by rw [List.getElem?_eq_getElem hj, hjt]
      rw [get_envB_at ts _ E0 j hnd hjt' (b := b j) (by simp [hj]), ← h4 j t hjt' (hS _ (by omega) (by omega))]
      exact h7
    · rw [get_envB_not ts _ E0 hm, ← h3 t fun j hj hjt => (hm (List.mem_of_getElem? hjt)).elim]
      exact h7
  · simp
  · intro j _ hj
    simp [Array.getD, hj]
  · intro i o hoi hl
    have hiL : i < L.length := by
      rcases Nat.lt_or_ge i L.length with h | h
      · exact h
      · simp [List.getElem?_eq_none h] at hoi
    simp [Array.getD, hiL] at hl
  · intro i o hi hoi _
    subst hE
    obtain ⟨f1, f2, f3⟩ := h1 i o (by rw [List.getElem?_take_of_lt hi]; exact hoi)
    have hother : ∀ t, (o.dst = some t ∨ t ∈ readsOf L o) → ∀ j, (i ≤ j ∧ t ∈ readsOf L o ∨ i + 1 ≤ j) → j < k → d j ≠ t := by
      intro t ht j hj hjk hdj
      have hoj : L[j]? = some L[j] := List.getElem?_eq_getElem (by omega)
      have e1 := (hd j _ hjk hoj).1
      rw [hdj] at e1
      by_cases e : i = j
      · subst e
        have e9 := Option.some.inj (hoi.symm.trans hoj)
        rw [← e9] at e1
        rcases hj with ⟨_, hj⟩ | hj
        · exact ho.self i o t hi hoi e1 hj
        · omega
      · obtain ⟨e2, e3⟩ := ho.apart i o j _ t hi hoi (by omega) hoj e e1
        rcases ht with ht | ht
        · exact e2 ht
        · have := ho.before i o hoi j (e3 ht).2
          omega
    have eget : (envS (fun _ => true) d p env k).get (d i) = p i := by
      rw [get_envS_other (i := i + 1) (by omega) fun j h4 h5 _ => hother (d i) (.inl f1) j (.inr h4) h5]
      simp [envS, Env.get]
    rw [eget]
    refine OpEv.congrR rfl f3 fun t ht => ?_
    exact get_envS_other (by omega) fun j h4 h5 _ => hother t (.inr ht) j (.inl ⟨h4, ht⟩) h5
  · refine ⟨fun _ => 0, fun t _ => rfl, fun j t hj hS => ?_, ?_⟩
    · have hjl : j < ts.length := by
        rcases Nat.lt_or_ge j ts.length with h | h
        · exact h
        · simp [List.getElem?_eq_none h] at hj
      have hiL : k + j < L.length := by omega
      simp [Array.getD, hiL] at hS
    · rw [List.filter_eq_nil_iff.2]
      · simp
      · intro j hj
        have hiL : k + j < L.length := by simp at hj; omega
        simp [Array.getD, hiL]
  · refine ⟨hs.size, hs.ds, fun t => ?_, by rw [List.append_nil]; exact hc'⟩
    subst hE
    rw [get_hide]
    split
    · simp [Rep]
    · rename_i hh
      rw [get_envS_other (i := 0) (Nat.zero_le _)]
      · exact hs.env.mono hdrew.le t
      · intro j _ hj _ hdj
        apply hh
        rw [List.any_eq_true]
        have hjL : j < L.length := by omega
        exact ⟨j, by simpa using hj, by simp [Array.getD, hjL, hdj]⟩
section
variable {Q : Post} {σ1 σ2 : List Res} {K : Env → List Res → Prop} {o : Oper} {r : List Oper} {e : Env}
theorem TF.nil (h : K e σ2) : TF P n ds Q σ1 [] e σ2 K := h
theorem TF.step {t : Nat} (hg : o.guard = none) (hd : o.dst = some t) (ht : Nat.blt t n = true) (h : AO P o e.ev σ2 (fun p σ2' => TF P n ds Q σ1 r ((t, p) :: e) σ2' K) (fun p σ2' => Q (.panic p) [] (σ1 ++ σ2') ds)) : TF P n ds Q σ1 (o :: r) e σ2 K :=
  ⟨hg, fun u hu => by rw [hd] at hu; cases hu; exact blt_iff.1 ht, e, Less.refl e, by rw [hd]; exact h⟩
theorem TF.step_none (hg : o.guard = none) (hd : o.dst = none) (h : AO P o e.ev σ2 (fun _ σ2' => TF P n ds Q σ1 r e σ2' K) (fun p σ2' => Q (.panic p) [] (σ1 ++ σ2') ds)) : TF P n ds Q σ1 (o :: r) e σ2 K :=
  ⟨hg, fun u hu => absurd (hd.symm.trans hu) (by simp), e, Less.refl e, by rw [hd]; exact h⟩
theorem Less.envB : ∀ (ts bs : List Nat) {e e' : Env}, Less e' e → Less (Abs.envB ts bs e') (Abs.envB ts bs e)
  | [], [], _, _, h => h
  | [], _ :: _, _, _, h => h
  | _ :: _, [], _, _, h => h
  | t :: ts, b :: bs, _, _, h => Less.envB ts bs (h.cons t _)
theorem AllB.mono {K K' : List Nat → Prop} : ∀ {m : Nat}, (∀ bs, K bs → K' bs) → AllB m K → AllB m K'
  | 0, h, k => h _ k
  | _ + 1, h, k => fun b => AllB.mono (fun bs => h (b :: bs)) (k b)
end
end
end Go.Abs

namespace Go.Abs
open Go
def FRo (r : Option Nat) : Fence := { Fence.wide with round := r }
def noDefer (o : Oper) : Bool := match o.op with | .defer _ => false | _ => true
theorem noDefer_ne {o : Oper} (h : noDefer o = true) : ∀ c, o.op ≠ .defer c := by
  intro c hc
  unfold noDefer at h
  rw [hc] at h
  cases h
section
variable {P : Program} {n : Nat} {r : Option Nat} {env : Env} {σ : List Res} {ds : List Deferred} {Q : Post} {all : Array Oper} {rest : List Oper} {o : Oper}
theorem calls_in {f : FuncId} {args : Array Value} {w : World} {R : Ending → World → Prop} {n : Nat} (h : Calls P f args w R) : CallsIn (FRo r) n P f args w R := by
  have := (callsIn_wide (n := n)).2 h
  exact this
theorem rows_in {row : String} {args : Array Value} {w : World} {R : Value → World → Prop} {n : Nat} (h : Rows P row args w R) : RowsIn (FRo r) n P row args w R :=
  fun c cs _ => let ⟨v, w', r, s⟩ := h c cs; ⟨v, w', r, stepsIn_wide.2 s⟩
theorem oper_in {a : Act} {w : World} {K : Act → World → Prop} {Q : Exit → Act → World → Prop} (hd : noDefer o = true) (h : o.wp P a w K Q) : o.wpIn (FRo r) 0 P a w K Q := by
  refine ⟨fun _ _ => trivial, ?_⟩
  rw [Oper.semAt_eq _ _ _ (noDefer_ne hd)]
  unfold Oper.wp at h
  generalize (execOp a.eval o).run P w = x at h ⊢
  cases x with
  | ok v w' =>
    cases v <;> simp only [Oper.upon, Oper.uponIn] at h ⊢ <;> first
      | exact h
      | exact ⟨fun hh => by simp [FRo, Fence.wide] at hh, calls_in h⟩
      | exact ⟨fun hh => by simp [FRo, Fence.wide] at hh, rows_in h⟩
  | halt v w' => cases v <;> simp only [Oper.upon, Oper.uponIn] at h ⊢ <;> exact h
theorem list_in {Q : Exit → Act → World → Prop} (hno : ¬ LetsOut Q) : ∀ (l : List Oper) (a : Act) (w : World), (∀ o ∈ l, noDefer o = true) → wpList P all Q l a w → wpListIn (FRo r) 0 P all Q l a w
  | [], a, w, _, h => h
  | o :: rest, a, w, hd, h => by
    unfold wpList at h
    unfold wpListIn
    split
    · rename_i hw
      rw [if_pos hw] at h
      rcases h with h | ⟨_, h⟩
      · exact Oper.wpIn_mono (fun a w h => list_in hno rest a w (fun o ho => hd o (by simp [ho])) h) (oper_in (hd o (by simp)) h)
      · exact (hno h).elim
    · rename_i hw
      rw [if_neg hw] at h
      exact ⟨fun _ _ => trivial, list_in hno rest _ _ (fun o ho => hd o (by simp [ho])) h⟩
def AWI (P : Program) (r : Option Nat) (n : Nat) (c : Code) (env : Env) (σ : List Res) (ds : List Deferred) (Q : Post) : Prop :=
  ∀ w m a QC, SimS w m n env σ ds a → Acc n Q w m σ QC → c.wpIn (FRo r) 0 P QC a w
def noOut (Q : Exit → Act → World → Prop) : Exit → Act → World → Prop := fun e a w => e ≠ .outgrown ∧ Q e a w
theorem noOut_not (Q : Exit → Act → World → Prop) : ¬ LetsOut (noOut Q) := fun ⟨_, _, h, _⟩ => h rfl
theorem Acc.noOut {w : World} {m : Imm} {QC : Exit → Act → World → Prop} (h : Acc n Q w m σ QC) : Acc n Q w m σ (Abs.noOut QC) := by
  intro x ex env' σ' ds' a' w' m' hq hx hs ht
  refine ⟨?_, h x ex env' σ' ds' a' w' m' hq hx hs ht⟩
  rintro rfl
  cases x <;> simp [RepX] at hx
theorem AWI.region {id : Nat} {l : List Oper} (hd : (l.all noDefer) = true) (h : AR P n l.toArray l env σ ds Q) : AWI P r n (.region id l.toArray false) env σ ds Q := by
  intro w m a QC hs ha
  rw [List.all_eq_true] at hd
  refine wpIn_mono (wpIn_region_lit (list_in (noOut_not QC) l a w hd (h w m a _ hs ha.noOut))) fun e a w h => h.2
theorem AWI.skip (h : Q .normal env σ ds) : AWI P r n .skip env σ ds Q :=
  fun w m a _ hs ha => wpIn_skip (ha .normal .normal env σ ds a w m h rfl hs (Trans.refl ..))
theorem AWI.exit {id : Nat} (h : Q (.exit id) env σ ds) : AWI P r n (.exit id) env σ ds Q :=
  fun w m a _ hs ha => wpIn_exit (ha (.exit id) (.exit id) env σ ds a w m h rfl hs (Trans.refl ..))
theorem AWI.ret (h : Q .ret env σ ds) : AWI P r n .ret env σ ds Q :=
  fun w m a _ hs ha => wpIn_ret (ha .ret .ret env σ ds a w m h rfl hs (Trans.refl ..))
theorem AWI.seq {c d : Code} (h : AWI P r n c env σ ds (AX.then (fun e s ds => AWI P r n d e s ds Q) Q)) : AWI P r n (.seq c d) env σ ds Q := by
  intro w m a QC hs ha
  refine wpIn_seq (h w m a _ hs ?_)
  intro x ex e1 σ1 d1 a1 w1 m1 hq hx hs1 ht
  cases x with
  | normal => cases hx; exact hq w1 m1 a1 QC hs1 (ha.step ht)
  | exit id => cases hx; exact ha (.exit id) _ e1 σ1 d1 a1 w1 m1 hq rfl hs1 ht
  | ret => cases hx; exact ha .ret _ e1 σ1 d1 a1 w1 m1 hq rfl hs1 ht
  | panic p => obtain ⟨v, rfl, hv⟩ := hx; exact ha (.panic p) _ e1 σ1 d1 a1 w1 m1 hq ⟨v, rfl, hv⟩ hs1 ht
theorem AWI.cond {c : Operand} {x y : Code} {b : Bool} (hc : env.ev c = .bool b) (ht : b = true → AWI P r n x env σ ds Q) (hf : b = false → AWI P r n y env σ ds Q) :
    AWI P r n (.cond c x y) env σ ds Q := by
  intro w m a QC hs ha
  have he := hs.env.ev c
  rw [hc] at he
  simp only [Rep] at he
  exact wpIn_cond_split he (fun h => ht h w m a QC hs ha) (fun h => hf h w m a QC hs ha)
theorem AWI.block {id : Nat} {c : Code} (h : AWI P r n c env σ ds (AX.inBlock id Q)) : AWI P r n (.block id c) env σ ds Q := by
  intro w m a QC hs ha
  refine wpIn_block (h w m a _ hs ?_)
  intro x ex e1 σ1 d1 a1 w1 m1 hq hx hs1 ht
  cases x with
  | normal => cases hx; exact ha .normal _ e1 σ1 d1 a1 w1 m1 hq rfl hs1 ht
  | exit id' =>
    cases hx
    simp only [Exit.inBlock]
    simp only [AX.inBlock] at hq
    by_cases e : id' = id
    · subst e
      simp only [Nat.beq_refl, cond_true] at hq
      rw [if_pos rfl]
      exact ha .normal _ e1 σ1 d1 a1 w1 m1 hq rfl hs1 ht
    · have : Nat.beq id' id = false := beq_ne e
      simp only [this, cond_false] at hq
      rw [if_neg e]
      exact ha (.exit id') _ e1 σ1 d1 a1 w1 m1 hq rfl hs1 ht
  | ret => cases hx; exact ha .ret _ e1 σ1 d1 a1 w1 m1 hq rfl hs1 ht
  | panic p => obtain ⟨v, rfl, hv⟩ := hx; exact ha (.panic p) _ e1 σ1 d1 a1 w1 m1 hq ⟨v, rfl, hv⟩ hs1 ht
theorem AWI.mono {c : Code} {Q' : Post} (h : AWI P r n c env σ ds Q) (hq : ∀ x e s d, Q x e s d → Q' x e s d) : AWI P r n c env σ ds Q' :=
  fun w m a QC hs ha => h w m a QC hs fun x ex env' σ' ds' a' w' m' h1 h2 h3 h4 => ha x ex env' σ' ds' a' w' m' (hq _ _ _ _ h1) h2 h3 h4
theorem AWI.settle {c : Code} {env' : Env} (ps : List Nat) (hs : Abs.settle ps env = some env') (h : AWI P r n c env' σ ds Q) : AWI P r n c env σ ds Q :=
  fun w m a QC hsim ha => h w m a QC ⟨hsim.size, hsim.ds, hsim.env.settle hs, hsim.conc⟩ ha
theorem AWI.frame {c : Code} {τ : List Res} (h : AWI P r n c env σ ds Q) : AWI P r n c env (σ ++ τ) ds (fun x e s d => ∃ s0, s = s0 ++ τ ∧ Q x e s0 d) := by
  intro w m a QC hs ha
  refine h w m a QC ⟨hs.size, hs.ds, hs.env, hs.conc.left⟩ fun x ex e' σ' ds' a' w' m' hq hx hs' ht => ?_
  obtain ⟨k1, k2⟩ := Conc.frame hs.conc hs'.conc ht
  exact ha x ex e' (σ' ++ τ) ds' a' w' m' ⟨σ', rfl, hq⟩ hx ⟨hs'.size, hs'.ds, hs'.env, k1⟩ k2
def ARI (P : Program) (r : Option Nat) (n : Nat) (all : Array Oper) (l : List Oper) (env : Env) (σ : List Res) (ds : List Deferred) (Q : Post) : Prop :=
  ∀ w m a QC, SimS w m n env σ ds a → Acc n Q w m σ QC → wpListIn (FRo r) 0 P all QC l a w
theorem ARI.of {l : List Oper} (hd : (l.all noDefer) = true) (h : AR P n all l env σ ds Q) : ARI P r n all l env σ ds Q := by
  intro w m a QC hs ha
  rw [List.all_eq_true] at hd
  have := list_in (r := r) (noOut_not QC) l a w hd (h w m a _ hs ha.noOut)
  have key : ∀ (l : List Oper) (a : Act) (w : World), wpListIn (FRo r) 0 P all (noOut QC) l a w → wpListIn (FRo r) 0 P all QC l a w := by
    intro l
    induction l with
    | nil => intro a w h; exact h.2
    | cons o l ih =>
      intro a w h
      unfold wpListIn at h ⊢
      split
      · rename_i hw
        rw [if_pos hw] at h
        refine ⟨h.1, ?_⟩
        have h2 := h.2
        generalize (o.semAt (FRo r).round a.eval).run P w = x at h2 ⊢
        cases x with
        | ok v w' =>
          cases v <;> simp only [Oper.uponIn] at h2 ⊢ <;> first
            | exact ih _ _ h2
            | exact ⟨h2.1, CallsIn.mono h2.2 fun e w'' he => by
                cases e with
                | returned v => exact ih _ _ he
                | panicked c => exact he.2
                | outgrown => exact (noOut_not QC he).elim⟩
            | exact ⟨h2.1, RowsIn.mono h2.2 fun v w'' he => ih _ _ he⟩
            | exact ⟨h2.1, RoundIn.mono h2.2 fun e w'' he => by
                cases e with
                | returned v => exact ih _ _ he
                | panicked c => exact he.2
                | outgrown => exact (noOut_not QC he).elim⟩
        | halt v w' =>
          cases v <;> simp only [Oper.uponIn] at h2 ⊢ <;> exact h2.2
      · rename_i hw
        rw [if_neg hw] at h
        exact ⟨h.1, ih _ _ h.2⟩
  exact key l a w this
theorem AW.regionI {id : Nat} {l : List Oper} (h : ARI P none n l.toArray l env σ ds Q) : AW P n (.region id l.toArray false) env σ ds Q :=
  fun w m a QC hs ha => wpIn_wide.1 (wpIn_region_lit (F := FRo none) (n := 0) (h w m a QC hs ha))
theorem ARI.step {t : Nat} (hnd : noDefer o = true) (hg : o.guard = none) (hd : o.dst = some t) (ht : Nat.blt t n = true)
    (h : AO P o env.ev σ (fun p σ' => ARI P r n all rest ((t, p) :: env) σ' ds Q) (fun p σ' => Q (.panic p) env σ' ds)) :
    ARI P r n all (o :: rest) env σ ds Q := by
  intro w m a QC hs ha
  have ht : t < n := Nat.le_of_ble_eq_true ht
  refine wpListIn_plain hg fun K hK => oper_in hnd ?_
  refine h w m a K QC (fun x _ => hs.env.ev x) hs.conc ?_ ?_
  · intro p σ' v w' m' hr hv hc htr
    exact hK _ _ (hr w' m' _ QC (hs.put hd ht hv hc htr.le) (ha.step htr))
  · intro p σ' v w' m' hr hv hc htr
    exact ha (.panic p) _ _ _ _ a w' m' hr ⟨v, rfl, hv⟩ ⟨hs.size, hs.ds, hs.env.mono htr.le, hc⟩ htr
def AY (P : Program) (l : Nat) (args : List PV) (σ : List Res) (R : AOut → List Res → Prop) : Prop :=
  ∀ w m vs, Conc w m σ → RepL w m args vs → ∃ fn tmps assign body, (Instr.yield l vs.toArray).run P w = .ok (.round l fn tmps assign body) w ∧
    RoundIn Fence.wide 0 P l fn tmps assign body w fun e w' => ∃ out σ' m', R out σ' ∧ RepOut w' m' out e ∧ Conc w' m' σ' ∧ Trans w m σ w' m' σ'
theorem ARI.yield {t l : Nat} {c : Call} {σ' : List Res} {p : PV} (hnd : noDefer o = true) (hg : o.guard = none) (hd : o.dst = some t) (ht : Nat.blt t n = true) (ho : o.op = .call c) (cal : Operand) (hcal : c.callee = .value cal)
    (hf : env.ev cal = .val (.func (.yield l) #[] #[])) (h : AY P l ((c.args.toList.map env.ev).map PV.weak) σ (fun out s => out = .ret p ∧ s = σ'))
    (hk : ARI P r n all rest ((t, p) :: env) σ' ds Q) : ARI P r n all (o :: rest) env σ ds Q := by
  intro w m a QC hs ha
  have ht : t < n := Nat.le_of_ble_eq_true ht
  refine wpListIn_plain hg fun K hK => ⟨fun _ _ => trivial, ?_⟩
  rw [Oper.semAt_eq _ _ _ (noDefer_ne hnd)]
  have hcv := hs.env.ev cal
  rw [hf] at hcv
  simp only [Rep] at hcv
  have hargs : RepL w m (c.args.toList.map env.ev) (c.args.toList.map a.eval) := RepL.map fun x _ => hs.env.ev x
  obtain ⟨fn, tmps, assign, body, h1, h2⟩ := h w m _ hs.conc hargs.weak
  have hrun : (execOp a.eval o).run P w = .ok (.round l fn tmps assign body) w := by
    unfold execOp
    simp only [ho, resolve, hcal, hcv, Deferred.ofValue, invoke, Sem.run_bind, Sem.run_pure, Result.andThen_ok]
    rw [← h1]
    congr 2
    apply Array.ext'
    simp
  rw [hrun]
  simp only [Oper.uponIn]
  refine ⟨fun hh => by simp [FRo, Fence.wide] at hh, ?_⟩
  refine RoundIn.mono (show RoundIn (FRo r) (0 - 1) P l fn tmps assign body w _ from h2) ?_
  rintro e w' ⟨out, s, m', ⟨rfl, rfl⟩, ⟨v, rfl, hv⟩, hc, htr⟩
  exact hK _ _ (hk w' m' _ QC (hs.put hd ht hv hc htr.le) (ha.step htr))
end
def bindE : List Nat → List PV → Env → Env
  | t :: ts, p :: ps, e => bindE ts ps ((t, p) :: e)
  | _, _, e => e
theorem simE_bind {w : World} {m : Imm} {n : Nat} : ∀ {ts : List Nat} {ps : List PV} {vs : List Value} {env : Env} {tmps : Array Value}, tmps.size = n → (∀ t ∈ ts, t < n) → RepL w m ps vs → SimE w m env tmps →
    SimE w m (bindE ts ps env) ((ts.zip vs).foldl (fun t (p, v) => t.setIfInBounds p v) tmps) ∧ ((ts.zip vs).foldl (fun t (p, v) => t.setIfInBounds p v) tmps).size = n
  | [], _, _, _, _, hn, _, _, h => by simpa [bindE] using ⟨h, hn⟩
  | t :: ts, [], vs, env, tmps, hn, _, hr, h => by
    simp only [RepL] at hr; subst hr
    simpa [bindE] using ⟨h, hn⟩
  | t :: ts, p :: ps, vs, env, tmps, hn, hlt, hr, h => by
    simp only [RepL] at hr
    obtain ⟨v, vs', rfl, h1, h2⟩ := hr
    simp only [bindE, List.zip_cons_cons, List.foldl_cons]
    refine simE_bind (by simpa using hn) (fun u hu => hlt u (by simp [hu])) h2 ?_
    exact h.put h1 (by rw [hn]; exact hlt t (by simp))
def codeOf : Option AX → Option Code
  | some .ret => some .ret
  | some (.exit id) => some (.exit id)
  | _ => none
def markOf (D : Nat) : Deferred := { target := .collected D, args := #[] }
def recOf (fn : FuncId) (tmps : Array Value) (ps : Array Tmp) (assign body : Code) (D : Nat) (x : Option AX) : Loop :=
  { state := if (codeOf x).isNone then .ready else .done, pending := codeOf x, fn, tmps, params := ps, assign, body, defers := D }
def roundEnd {β : Type} (T : β → List Res) (pend : β → Option AX) (b : Bool) (s' : β) : Post := fun x _ σ d => d = [] ∧ (T s').Sublist σ ∧
  match x with
  | .normal => b = true ∧ pend s' = none
  | .ret => b = false ∧ pend s' = some .ret
  | .exit id => b = false ∧ pend s' = some (.exit id)
  | .panic _ => False
theorem write_obj {w : World} {m : Imm} {σ : List Res} (hc : Conc w m σ) {i b : Nat} {o o' : Obj} (hi : σ[i]? = some (.obj b o)) :
    Conc (w.putObj b o') m (σ.set i (.obj b o')) ∧ Trans w m σ (w.putObj b o') m (σ.set i (.obj b o')) := by
  obtain ⟨hb, hm⟩ := hc.each _ (List.mem_of_getElem? hi)
  have hblt : b < w.heap.size := by
    rcases Nat.lt_or_ge b w.heap.size with h | h
    · exact h
    · simp [Array.getElem?_eq_none h] at hb
  exact Conc.write (w' := w.putObj b o') (r' := .obj b o') hc hi rfl rfl hm ⟨World.putObj_heap_same hblt, hm⟩ ⟨rfl, rfl, rfl⟩ (by simp) (fun k hk => World.putObj_heap_other hk)
section
variable {P : Program} {n : Nat} {env : Env} {σ : List Res} {ds : List Deferred} {Q : Post}
theorem AW.rangeFunc {β X : Type} {g : Operand} {ps : Array Tmp} {assign body : Code} {gf : Nat} {caps : List PV} (hg : env.ev g = .fn gf caps) (hp : plainFn P gf = true)
    (enc : X → List PV) (henc : ∀ x, (enc x).length = ps.toList.length) (hps : ∀ t ∈ ps.toList, t < n) (y : β → X → Option (Bool × β)) (T : β → List Res) (pend : β → Option AX) {s0 s1 : β} (hσ : σ = T s0) (hs0 : pend s0 = none)
    (hit : ∀ (l : Nat) (T' : β → List Res), (∀ s x b s', y s x = some (b, s') → AY P l (enc x) (T' s) (fun out σ' => out = .ret (.bool b) ∧ σ' = T' s')) →
      AC P gf (.val (.func (.yield l) #[] #[]) :: caps) (T' s0) (fun out σ' => (∃ p, out = .ret p) ∧ σ' = T' s1))
    (round : ∀ l s x b s', y s x = some (b, s') → pend s = none ∧
      AWI P (some l) n assign (bindE ps.toList (enc x) env) (T s) [] (fun ax e σ' d => ax = .normal ∧ AWI P (some l) n body e σ' d (roundEnd T pend b s')))
    (hq : ∀ D, (match pend s1 with | none => Q .normal env | some .ret => Q .ret env | some (.exit id) => Q (.exit id) env | some _ => fun _ _ => False) (T s1 ++ [Res.obj D (.deferred (some []))]) (markOf D :: ds)) :
    AW P n (.rangeFunc g ps assign body) env σ ds Q := by
  subst hσ
  intro w m a QC hs ha
  refine (wpIn_wide (n := 0)).1 (wpIn_rangeFunc fun fn _ => ?_)
  have hge := hs.env.ev g
  rw [hg] at hge
  simp only [Rep] at hge
  obtain ⟨cs, hcv, hcs⟩ := hge
  have c1 := alloc_obj hs.conc (.deferred (some []))
  have t1 := alloc_trans (σ' := Res.obj w.heap.size (.deferred (some [])) :: T s0) hs.conc (.deferred (some [])) (fun _ => False) (fun b hb => by
    simp [fps, Res.fp] at hb ⊢
    rcases hb with hb | hb
    · exact .inr hb
    · exact .inl hb)
  have c2 := alloc_obj c1 (.loop (recOf fn a.tmps ps assign body w.heap.size none))
  have t2 := alloc_trans (σ' := .obj (w.alloc (.deferred (some []))).heap.size (.loop (recOf fn a.tmps ps assign body w.heap.size none)) :: Res.obj w.heap.size (.deferred (some [])) :: T s0) c1 (.loop (recOf fn a.tmps ps assign body w.heap.size none)) (fun _ => False) (fun b hb => by
    simp [fps, Res.fp] at hb ⊢
    rcases hb with hb | hb | hb
    · exact .inr hb
    · exact .inl (.inl hb)
    · exact .inl (.inr hb))
  have hsz : (w.alloc (.deferred (some []))).heap.size = w.heap.size + 1 := by simp
  rw [hsz] at c2 t2
  generalize hW : (w.alloc (.deferred (some []))).alloc (.loop (recOf fn a.tmps ps assign body w.heap.size none)) = W at c2 t2
  generalize hM : (fun b off => (m b off ∨ b = w.heap.size ∧ False) ∨ b = w.heap.size + 1 ∧ False) = M at c2 t2
  have tW := t1.trans t2
  let rec' (s : β) : Loop := recOf fn a.tmps ps assign body w.heap.size (pend s)
  let T' (s : β) : List Res := T s ++ [Res.obj (w.heap.size + 1) (.loop (rec' s)), Res.obj w.heap.size (.deferred (some [])), Res.since w m]
  have hT0 : (T' s0).Perm (.obj (w.heap.size + 1) (.loop (recOf fn a.tmps ps assign body w.heap.size none)) :: Res.obj w.heap.size (.deferred (some [])) :: T s0 ++ [Res.since w m]) := by
    simp only [T', rec', hs0]
    refine List.perm_append_comm.trans ?_
    simp only [List.cons_append, List.nil_append]
    refine List.Perm.cons _ (List.Perm.cons _ ?_)
    exact (List.perm_append_comm (l₁ := [Res.since w m]) (l₂ := T s0))
  have cT : Conc W M (T' s0) := by
    refine Conc.perm hT0.symm ?_
    refine ⟨fun r hr => ?_, ?_, c2.wf⟩
    · rcases List.mem_append.1 hr with h | h
      · exact c2.each r h
      · rw [List.mem_singleton] at h; subst h
        exact tW.le
    · have := c2.apart
      simpa [fps, Res.fp] using this
  have tT : Trans w m (T s0) W M (T' s0) := by
    refine Trans.perm (.refl _) hT0.symm ⟨tW.os, tW.tape, tW.output, tW.size, tW.le, tW.keep, fun b hb => tW.fresh b ?_, tW.drawn⟩
    simpa [fps, Res.fp] using hb
  refine ⟨w.heap.size + 1, [markOf w.heap.size], W, { target := .fn (.func gf) cs.toArray, args := #[.func (.yield (w.heap.size + 1)) #[] #[]] }, W, gf,
    #[.func (.yield (w.heap.size + 1)) #[] #[]] ++ cs.toArray, W, ?_, ?_, fun _ _ => trivial, ?_, fun hh => by simp [Fence.wide] at hh, ?_⟩
  · rw [← hW]; exact run_enterLoop_outer _ _ _ _ _
  · simp only [resolve, hcv]
    simp [go_sem]
  · simp only [invoke]
    rw [run_callFunc hp]
  · refine callsIn_wide.2 ?_
    have hac := hit (w.heap.size + 1) T' ?_
    · have hcs' : RepL W M (.val (.func (.yield (w.heap.size + 1)) #[] #[]) :: caps) (.func (.yield (w.heap.size + 1)) #[] #[] :: cs) := RepL.cons (by simp [Rep]) (RepL.mono tW.le _ _ hcs)
      have := hac W M _ cT hcs'
      rw [show (Value.func (.yield (w.heap.size + 1)) #[] #[] :: cs).toArray = #[.func (.yield (w.heap.size + 1)) #[] #[]] ++ cs.toArray from by apply Array.ext'; simp] at this
      refine this.mono ?_
      rintro e w' ⟨out, σ', m', ⟨⟨p, rfl⟩, rfl⟩, ⟨v, rfl, hv⟩, hc', ht'⟩
      have hi : (T' s1)[(T s1).length]? = some (.obj (w.heap.size + 1) (.loop (rec' s1))) := by simp [T']
      obtain ⟨hb, _⟩ := hc'.each _ (List.mem_of_getElem? hi)
      obtain ⟨k1, k2⟩ := write_obj (o' := .loop { rec' s1 with state := .exhausted }) hc' hi
      have hsub : (T s1 ++ [Res.obj w.heap.size (.deferred (some []))]).Sublist ((T' s1).set (T s1).length (.obj (w.heap.size + 1) (.loop { rec' s1 with state := .exhausted }))) := by
        simp only [T']
        rw [List.set_append_right _ _ (Nat.le_refl _), Nat.sub_self]
        refine List.Sublist.append (List.Sublist.refl _) ?_
        simp only [List.set_cons_zero]
        exact .cons _ (.cons_cons _ (.cons _ .slnil))
      have k3 := k1.sub hsub
      have k4 := (tT.trans (ht'.trans k2)).sub hsub
      have hse : ∀ todo, SimS (w'.putObj (w.heap.size + 1) (.loop { rec' s1 with state := .exhausted })) m' n env (T s1 ++ [Res.obj w.heap.size (.deferred (some []))]) (markOf w.heap.size :: ds) { a with defers := todo } ∨ todo ≠ [markOf w.heap.size] ++ a.defers := by
        intro todo
        by_cases e : todo = [markOf w.heap.size] ++ a.defers
        · subst e
          exact .inl ⟨hs.size, by simp [hs.ds], hs.env.mono k4.le, k3⟩
        · exact .inr e
      have hse := (hse ([markOf w.heap.size] ++ a.defers)).resolve_right (by simp)
      refine ⟨codeOf (pend s1), w'.putObj (w.heap.size + 1) (.loop { rec' s1 with state := .exhausted }), ?_, ?_⟩
      · have := run_endLoop (P := P) (w := w') (l := w.heap.size + 1) (r := rec' s1) hb (by simp only [rec', recOf]; split <;> simp)
        exact this
      · have hqD := hq w.heap.size
        cases hpe : pend s1 with
        | none =>
          rw [hpe] at hqD
          exact ha .normal _ env _ _ _ _ m' hqD rfl hse k4
        | some x =>
          rw [hpe] at hqD
          cases x with
          | ret => exact wpIn_ret (ha .ret _ env _ _ _ _ m' hqD rfl hse k4)
          | exit id => exact wpIn_exit (ha (.exit id) _ env _ _ _ _ m' hqD rfl hse k4)
          | normal => exact hqD.elim
          | panic p => exact hqD.elim
    · 
      intro s x b s' hy w1 m1 vs hc1 hv1
      obtain ⟨hps', hround⟩ := round (w.heap.size + 1) s x b s' hy
      have hi : (T' s)[(T s).length]? = some (.obj (w.heap.size + 1) (.loop (rec' s))) := by simp [T']
      obtain ⟨hb1, _⟩ := hc1.each _ (List.mem_of_getElem? hi)
      have hsince : Le w m w1 m1 := hc1.each (.since w m) (by simp [T'])
      have hvl := hv1.length_eq
      have hsz' : vs.toArray.size = (rec' s).params.size := by
        simp only [rec', recOf, List.size_toArray]
        rw [hvl, henc x]; simp
      have hyr := run_yield (P := P) hb1 hsz'
      refine ⟨_, _, _, _, hyr, ?_⟩
      refine roundIn_of_wpIn trivial ?_
      have hzip : ((rec' s).params.zip vs.toArray).foldl (fun tmps (t, a) => tmps.setIfInBounds t a) (rec' s).tmps = (ps.toList.zip vs).foldl (fun t (p, v) => t.setIfInBounds p v) a.tmps := by
        simp only [rec', recOf]
        rw [← Array.foldl_toList, Array.toList_zip]
      obtain ⟨hb2, hb3⟩ := simE_bind (n := n) (ts := ps.toList) hs.size (fun t ht => hps t ht) hv1 (hs.env.mono hsince)
      have hA := AWI.frame (τ := [Res.obj (w.heap.size + 1) (.loop (rec' s)), Res.obj w.heap.size (.deferred (some [])), Res.since w m]) hround
      refine hA w1 m1 _ _ ⟨?_, rfl, ?_, hc1⟩ ?_
      · rw [hzip]; exact hb3
      · rw [hzip]; exact hb2
      · rintro ax ex e2 σ2 d2 a2 w2 m2 ⟨σ20, rfl, rfl, hbody⟩ hx hs2 ht2
        cases hx
        have hi2 : (σ20 ++ [Res.obj (w.heap.size + 1) (.loop (rec' s)), Res.obj w.heap.size (.deferred (some [])), Res.since w m])[σ20.length]? = some (.obj (w.heap.size + 1) (.loop (rec' s))) := by simp
        obtain ⟨hb4, _⟩ := hs2.conc.each _ (List.mem_of_getElem? hi2)
        have hready : (rec' s).state = .ready := by simp [rec', recOf, hps', codeOf]
        refine ⟨_, run_beginRound hb4 hready, ?_⟩
        obtain ⟨k1, k2⟩ := write_obj (o' := .loop { rec' s with state := .busy }) hs2.conc hi2
        have hset : (σ20 ++ [Res.obj (w.heap.size + 1) (.loop (rec' s)), Res.obj w.heap.size (.deferred (some [])), Res.since w m]).set σ20.length (.obj (w.heap.size + 1) (.loop { rec' s with state := .busy })) =
            σ20 ++ [Res.obj (w.heap.size + 1) (.loop { rec' s with state := .busy }), Res.obj w.heap.size (.deferred (some [])), Res.since w m] := by
          rw [List.set_append_right _ _ (Nat.le_refl _), Nat.sub_self]
          rfl
        rw [hset] at k1 k2
        have hB := AWI.frame (τ := [Res.obj (w.heap.size + 1) (.loop { rec' s with state := .busy }), Res.obj w.heap.size (.deferred (some [])), Res.since w m]) hbody
        refine hB _ m2 a2 _ ⟨hs2.size, hs2.ds, hs2.env.mono k2.le, k1⟩ ?_
        rintro ax3 ex3 e3 σ3 d3 a3 w3 m3 ⟨σ30, rfl, hd3, hsub3, hend⟩ hx3 hs3 ht3
        have hi3 : (σ30 ++ [Res.obj (w.heap.size + 1) (.loop { rec' s with state := .busy }), Res.obj w.heap.size (.deferred (some [])), Res.since w m])[σ30.length]? = some (.obj (w.heap.size + 1) (.loop { rec' s with state := .busy })) := by simp
        obtain ⟨hb5, _⟩ := hs3.conc.each _ (List.mem_of_getElem? hi3)
        have fin : ∀ jump : Option Code, jump = codeOf (pend s') → b = jump.isNone → ∃ v w', (Instr.endRound (w.heap.size + 1) jump).run P w3 = .ok v w' ∧ ∃ out σ' m', (out = AOut.ret (.bool b) ∧ σ' = T' s') ∧ RepOut w' m' out (.returned v) ∧ Conc w' m' σ' ∧ Trans w1 m1 (T' s) w' m' σ' := by
          intro jump hj hbj
          refine ⟨_, _, run_endRound jump hb5, .ret (.bool b), T' s', m3, ⟨rfl, rfl⟩, ⟨_, rfl, by simp [Rep, hbj]⟩, ?_⟩
          obtain ⟨q1, q2⟩ := write_obj (o' := .loop { rec' s with state := if jump.isNone then .ready else .done, pending := jump }) hs3.conc hi3
          have hrec : ({ rec' s with state := if jump.isNone then .ready else .done, pending := jump } : Loop) = rec' s' := by
            simp only [rec', recOf, hj]
          have hset3 : (σ30 ++ [Res.obj (w.heap.size + 1) (.loop { rec' s with state := .busy }), Res.obj w.heap.size (.deferred (some [])), Res.since w m]).set σ30.length (.obj (w.heap.size + 1) (.loop { rec' s with state := if jump.isNone then .ready else .done, pending := jump })) =
              σ30 ++ [Res.obj (w.heap.size + 1) (.loop (rec' s')), Res.obj w.heap.size (.deferred (some [])), Res.since w m] := by
            rw [List.set_append_right _ _ (Nat.le_refl _), Nat.sub_self, hrec]
            rfl
          rw [hset3] at q1 q2
          have hsub : (T' s').Sublist (σ30 ++ [Res.obj (w.heap.size + 1) (.loop (rec' s')), Res.obj w.heap.size (.deferred (some [])), Res.since w m]) := List.Sublist.append hsub3 (List.Sublist.refl _)
          exact ⟨q1.sub hsub, (ht2.trans (k2.trans (ht3.trans q2))).sub hsub⟩
        cases ax3 with
        | normal =>
          cases hx3
          obtain ⟨h5, h6⟩ := hend
          exact fin none (by rw [h6]; rfl) (by rw [h5]; rfl)
        | ret =>
          cases hx3
          obtain ⟨h5, h6⟩ := hend
          exact fin (some .ret) (by rw [h6]; rfl) (by rw [h5]; rfl)
        | exit id =>
          cases hx3
          obtain ⟨h5, h6⟩ := hend
          exact fin (some (.exit id)) (by rw [h6]; rfl) (by rw [h5]; rfl)
        | panic p => exact hend.elim
end
end Go.Abs

namespace Go.Abs
open Go
theorem run_pack {P : Program} {fn : Func} {rs : List ResultVar} {env : Env} {σ : List Res} {w : World} {m : Imm} {tmps : Array Value} {ps : List PV} (hrs : fn.results.toList = rs) (he : SimE w m env tmps) (hc : Conc w m σ) (h1 : ResL P env σ rs ps) :
    ∃ v, (results fn tmps).run P w = .ok v w ∧ Rep w m (packPV (ps.map PV.weak)) v := by
  obtain ⟨us, k1, k2⟩ := run_results he hc h1
  have hl2 := k2.length_eq
  have hrun : (results fn tmps).run P w = .ok (if h : us.toArray.size = 1 then us.toArray[0] else .tuple us.toArray) w := by
    unfold results
    rw [Array.mapM_eq_mapM_toList, hrs]
    have k1' := k1
    simp only [Sem.run_bind, Sem.run_map]
    erw [k1']
    rfl
  have k2 := k2.weak
  have hl2 : us.length = (ps.map PV.weak).length := by simpa using hl2
  refine ⟨_, hrun, ?_⟩
  clear h1 hrun
  generalize ps.map PV.weak = ps at k2 hl2 ⊢
  match ps, us, k2, hl2 with
  | [], us, k2, hl2 =>
    simp only [RepL] at k2; subst k2
    simp only [packPV, Rep]
    exact ⟨[], by simp, RepL.nil⟩
  | [p], us, k2, hl2 =>
    simp only [RepL] at k2
    obtain ⟨v, vs', rfl, h3, rfl⟩ := k2
    simpa [packPV] using h3
  | p :: q :: ps, us, k2, hl2 =>
    rw [dif_neg (by simp [hl2])]
    simp only [packPV, Rep]
    exact ⟨us, rfl, k2⟩
def QbodyM (P : Program) (rs : List ResultVar) (R : AOut → List Res → Prop) : Post
  | .normal, e, s, d | .ret, e, s, d => ∃ D s1, d = [markOf D] ∧ s = s1 ++ [.obj D (.deferred (some []))] ∧ ∃ ps, ResL P e s1 rs ps ∧ ∃ s', s'.Sublist s1 ∧ R (.ret (packPV (ps.map PV.weak))) s'
  | _, _, _, _ => False
theorem AC.of_body_marks {P : Program} {f : FuncId} {fn : Func} {c : Code} {args : List PV} {σ : List Res} {R : AOut → List Res → Prop} (n : Nat) (rs : List ResultVar) (ts : List Nat) {env : Env}
    (hf : P.funcs[f]? = some fn) (hb : fn.body = some c) (hn : fn.ntmps = n) (hl : Nat.ble args.length n = true) (hrs : fn.results.toList = rs) (henv : settle ts (argEnv 0 args) = some env)
    (h : AW P n c env σ [] (QbodyM P rs R)) : AC P f args σ R := by
  intro w m vs hc hv
  have hl : args.length ≤ n := Nat.le_of_ble_eq_true hl
  have hvl := hv.length_eq
  refine callsIn_wide.1 (callsIn_of_wp_marks (n := 0) hf hb trivial (wpIn_wide.2 ?_))
  refine h w m _ _ ⟨?_, rfl, ?_, hc⟩ ?_
  · simp [hvl, hn]; omega
  · have := simE_args (List.replicate (fn.ntmps - vs.toArray.size) Go.undef) [] hv
    rw [show vs.toArray ++ Array.replicate (fn.ntmps - vs.toArray.size) Go.undef = ([] ++ vs ++ List.replicate (fn.ntmps - vs.toArray.size) Go.undef).toArray from by simp]
    exact SimE.settle henv this
  · intro x ex env' σ' ds' a' w' m' hq hx hs ht
    have hend : ∀ D s1, ds' = [markOf D] → σ' = s1 ++ [.obj D (.deferred (some []))] → ∀ ps s', ResL P env' s1 rs ps → s'.Sublist s1 → R (.ret (packPV (ps.map PV.weak))) s' →
        LeavesInM Fence.wide 0 P fn a'.tmps (fun e w' => ∃ out σ' m', R out σ' ∧ RepOut w' m' out e ∧ Conc w' m' σ' ∧ Trans w m σ w' m' σ') a'.defers .returning w' := by
      intro D s1 hd hs1 ps s' h1 hsub h2
      subst hs1
      rw [hs.ds, hd]
      have hi : (s1 ++ [Res.obj D (.deferred (some []))])[s1.length]? = some (.obj D (.deferred (some []))) := by simp
      obtain ⟨hbD, _⟩ := hs.conc.each _ (List.mem_of_getElem? hi)
      obtain ⟨k1, k2⟩ := write_obj (o' := .deferred Option.none) hs.conc hi
      have hset : (s1 ++ [Res.obj D (.deferred (some []))]).set s1.length (.obj D (.deferred Option.none)) = s1 ++ [.obj D (.deferred Option.none)] := by
        rw [List.set_append_right _ _ (Nat.le_refl _), Nat.sub_self]
        rfl
      rw [hset] at k1 k2
      refine ⟨by simp, .inl ⟨D, _, rfl, run_takeDeferred hbD, ?_⟩⟩
      have k3 := k1.left
      obtain ⟨v, hv1, hv2⟩ := run_pack hrs (hs.env.mono k2.le) k3 h1
      refine ⟨v, hv1, .ret _, s', m', h2, ⟨v, rfl, hv2⟩, k3.sub hsub, ?_⟩
      exact (ht.trans k2).sub (hsub.trans (List.sublist_append_left _ _))
    cases x with
    | normal => cases hx; obtain ⟨D, s1, hd, hs1, ps, h1, s', hsub, h2⟩ := hq; exact hend D s1 hd hs1 ps s' h1 hsub h2
    | ret => cases hx; obtain ⟨D, s1, hd, hs1, ps, h1, s', hsub, h2⟩ := hq; exact hend D s1 hd hs1 ps s' h1 hsub h2
    | exit id => exact hq.elim
    | panic p => exact hq.elim
theorem valL_eq {w : World} {m : Imm} : ∀ {vs cs : List Value}, RepL w m (vs.map PV.val) cs → cs = vs
  | [], cs, h => by simpa [RepL] using h
  | v :: vs, cs, h => by
    simp only [List.map_cons, RepL, Rep] at h
    obtain ⟨u, us, rfl, h1, h2⟩ := h
    rw [valL_eq h2, h1]
theorem AR.defer {P : Program} {n : Nat} {env : Env} {σ : List Res} {ds : List Deferred} {Q : Post} {all : Array Oper} {rest : List Oper} {o : Oper} {c : Call} {cal : Operand} {g : FuncId} {vs : List Value}
    (hg : o.guard = Option.none) (hd : o.dst = Option.none) (ho : o.op = .defer c) (hcal : c.callee = .value cal) (hargs : c.args = #[]) (hf : env.ev cal = .fn g (vs.map PV.val))
    (h : AR P n all rest env σ ({ target := .fn (.func g) vs.toArray, args := #[] } :: ds) Q) : AR P n all (o :: rest) env σ ds Q := by
  intro w m a QC hs ha
  refine wpList_plain hg fun K hK => ?_
  have hcv := hs.env.ev cal
  rw [hf] at hcv
  simp only [Rep] at hcv
  obtain ⟨cs, hcv, hcs⟩ := hcv
  have hcs' := valL_eq hcs
  subst hcs'
  have hrun : (execOp a.eval o).run P w = .ok (.defer { target := .fn (.func g) cs.toArray, args := #[] }) w := by
    unfold execOp
    simp [ho, resolve, hcal, hcv, hargs, Deferred.ofValue]
  unfold Oper.wp
  rw [hrun]
  refine hK _ _ (h w m _ QC ⟨?_, ?_, ?_, hs.conc⟩ ha)
  · rw [hd]; exact hs.size
  · rw [hd]; simp [Act.put, hs.ds]
  · rw [hd]; exact hs.env
def QbodyR (P : Program) (rs : List ResultVar) (R : AOut → List Res → Prop) (g : FuncId) (nt t : Nat) (ops : List Oper) (o : Oper) (X : Code) (vs : List Value) (envD : Env) : Post
  | .normal, e, s, d | .ret, e, s, d => d = [{ target := .fn (.func g) vs.toArray, args := #[] }] ∧
      AR P nt (o :: ops).toArray ops ((t, .val .nilIface) :: envD) s [] (AX.then (fun e' s d => AW P nt X e' s d (QD fun s' => ∃ ps, ResL P e s' rs ps ∧ ∃ s'', s''.Sublist s' ∧ R (.ret (packPV (ps.map PV.weak))) s'')) (QD fun s' => ∃ ps, ResL P e s' rs ps ∧ ∃ s'', s''.Sublist s' ∧ R (.ret (packPV (ps.map PV.weak))) s''))
  | .panic p, e, s, d => d = [{ target := .fn (.func g) vs.toArray, args := #[] }] ∧
      AR P nt (o :: ops).toArray ops ((t, p) :: envD) s [] (AX.then (fun e' s d => AW P nt X e' s d (QD fun s' => ∃ ps, ResL P e s' rs ps ∧ ∃ s'', s''.Sublist s' ∧ R (.ret (packPV (ps.map PV.weak))) s'')) (QD fun s' => ∃ ps, ResL P e s' rs ps ∧ ∃ s'', s''.Sublist s' ∧ R (.ret (packPV (ps.map PV.weak))) s''))
  | _, _, _, _ => False
theorem repL_val (w : World) (m : Imm) : ∀ vs : List Value, RepL w m (vs.map PV.val) vs
  | [] => RepL.nil
  | v :: vs => RepL.cons (by simp [Rep]) (repL_val w m vs)
theorem AC.of_body_rec {P : Program} {f g : FuncId} {fn fd : Func} {c X : Code} {args : List PV} {σ : List Res} {R : AOut → List Res → Prop} {id nt t : Nat} {ops : List Oper} {o : Oper} (n : Nat) (rs : List ResultVar) (ts td : List Nat) {env : Env}
    (hf : P.funcs[f]? = some fn) (hb : fn.body = some c) (hn : fn.ntmps = n) (hl : Nat.ble args.length n = true) (hrs : fn.results.toList = rs) (henv : settle ts (argEnv 0 args) = some env)
    (hfd : P.funcs[g]? = some fd) (hbd : fd.body = some (.seq (.region id (o :: ops).toArray false) X)) (hnd : fd.ntmps = nt) (hrsd : fd.results.toList = [])
    (hg : o.guard = Option.none) (ho : isRecover o = true) (hd : o.dst = some t) (ht : Nat.blt t nt = true) (hp : plainFn P g = true)
    (h : AW P n c env σ [] (fun x e s d => ∃ vs envD, Nat.ble vs.length nt = true ∧ settle td (argEnv 0 (vs.map PV.val)) = some envD ∧ QbodyR P rs R g nt t ops o X vs envD x e s d)) : AC P f args σ R := by
  intro w m us hc hv
  have hl : args.length ≤ n := Nat.le_of_ble_eq_true hl
  have hvl := hv.length_eq
  refine calls_of_wp_defers hf hb ?_
  refine h w m _ _ ⟨?_, rfl, ?_, hc⟩ ?_
  · simp [hvl, hn]; omega
  · have := simE_args (List.replicate (fn.ntmps - us.toArray.size) Go.undef) [] hv
    rw [show us.toArray ++ Array.replicate (fn.ntmps - us.toArray.size) Go.undef = ([] ++ us ++ List.replicate (fn.ntmps - us.toArray.size) Go.undef).toArray from by simp]
    exact SimE.settle henv this
  · intro x ex env' σ' ds' a' w' m' hq hx hs htr
    obtain ⟨vs, envD, hvn, henvD, hq⟩ := hq
    have key : ∀ (q : Option Value) (p : PV), (match q with | Option.none => p = .val .nilIface | some v => Rep w' m' p v) → ds' = [{ target := .fn (.func g) vs.toArray, args := #[] }] →
        AR P nt (o :: ops).toArray ops ((t, p) :: envD) σ' [] (AX.then (fun e' s d => AW P nt X e' s d (QD fun s' => ∃ ps, ResL P env' s' rs ps ∧ ∃ s'', s''.Sublist s' ∧ R (.ret (packPV (ps.map PV.weak))) s'')) (QD fun s' => ∃ ps, ResL P env' s' rs ps ∧ ∃ s'', s''.Sublist s' ∧ R (.ret (packPV (ps.map PV.weak))) s'')) →
        Leaves P fn a'.tmps (fun e w' => ∃ out σ' m', R out σ' ∧ RepOut w' m' out e ∧ Conc w' m' σ' ∧ Trans w m σ w' m' σ') a'.defers (recMode q) w' := by
      intro q p hqp hds har
      rw [hs.ds, hds]
      refine leaves_cons (f := g) (args := vs.toArray) (by cases q <;> simp [recMode]) ?_ ?_
      · simp only [invoke]
        rw [run_callFunc hp]
        simp
      · refine CallsD.mono (CD.rec (args := vs.map PV.val) td hfd hbd hnd (by simpa using hvn) hrsd henvD hg ho hd ht har w' m' vs q hqp hs.conc (repL_val w' m' vs)) ?_
        rintro e u' w2 ⟨rfl, rfl, σ2, m2, ⟨ps, h1, s'', hsub, h2⟩, hc2, ht2⟩
        obtain ⟨v, hv1, hv2⟩ := run_pack hrs (hs.env.mono ht2.le) hc2 h1
        have hset : Go.settle (recMode2 q) = .returning := by cases q <;> simp [recMode2, Go.settle]
        simp only [hset]
        exact ⟨v, hv1, .ret _, s'', m2, h2, ⟨v, rfl, hv2⟩, hc2.sub hsub, (htr.trans ht2).sub hsub⟩
    cases x with
    | normal => cases hx; exact key Option.none _ rfl hq.1 hq.2
    | ret => cases hx; exact key Option.none _ rfl hq.1 hq.2
    | exit id => exact hq.elim
    | panic p =>
      obtain ⟨v, rfl, hv'⟩ := hx
      exact key (some v) p hv' hq.1 hq.2
theorem weakB_conc {w : World} {m : Imm} {σ : List Res} {i b : Nat} {cs : List PV} (hi : σ[i]? = some (.box b cs)) (hc : Conc w m σ) : Conc w m (σ.set i (.box b (cs.map PV.weak1))) ∧ Trans w m σ w m (σ.set i (.box b (cs.map PV.weak1))) := by
  have hf : fps (σ.set i (.box b (cs.map PV.weak1))) = fps σ := by
    clear hc
    induction σ generalizing i with
    | nil => rfl
    | cons r σ ih =>
      cases i with
      | zero =>
        simp only [List.getElem?_cons_zero, Option.some.injEq] at hi
        subst hi
        simp [fps, Res.fp]
      | succ i =>
        simp only [List.getElem?_cons_succ] at hi
        have := ih hi
        simp only [fps, List.set_cons_succ, List.flatMap_cons] at this ⊢
        rw [this]
  refine ⟨⟨fun r hr => ?_, by rw [hf]; exact hc.apart, hc.wf⟩, ⟨rfl, rfl, rfl, Nat.le_refl _, Le.refl _ _, fun _ _ _ => ⟨rfl, fun _ h => h⟩, fun x hx => .inl (by rw [← hf]; exact hx), Nat.le_refl _⟩⟩
  rcases List.mem_or_eq_of_mem_set hr with h | h
  · exact hc.each r h
  · subst h
    obtain ⟨vs, ty, h1, h2, h3⟩ := hc.each _ (List.mem_of_getElem? hi)
    exact ⟨vs, ty, h1, h2.weak1, h3⟩
section
variable {P : Program} {n : Nat} {env : Env} {σ : List Res} {ds : List Deferred} {Q : Post} {all : Array Oper} {l : List Oper}
theorem AR.weakB (i : Nat) {b : Nat} {cs : List PV} (hi : σ[i]? = some (.box b cs)) (h : AR P n all l env (σ.set i (.box b (cs.map PV.weak1))) ds Q) : AR P n all l env σ ds Q := by
  intro w m a QC hs ha
  obtain ⟨k1, k2⟩ := weakB_conc hi hs.conc
  exact h w m a QC ⟨hs.size, hs.ds, hs.env, k1⟩ (ha.step k2)
theorem AW.weakB {c : Code} (i : Nat) {b : Nat} {cs : List PV} (hi : σ[i]? = some (.box b cs)) (h : AW P n c env (σ.set i (.box b (cs.map PV.weak1))) ds Q) : AW P n c env σ ds Q := by
  intro w m a QC hs ha
  obtain ⟨k1, k2⟩ := weakB_conc hi hs.conc
  exact h w m a QC ⟨hs.size, hs.ds, hs.env, k1⟩ (ha.step k2)
end
section
variable {P : Program} {o : Oper} {ρ : Operand → PV} {σ : List Res} {R S : PV → List Res → Prop}
theorem AO.tassert {x : Operand} {xt t : TypeId} {p : PV} (ho : o.op = .typeAssert x xt t true) (hx : ρ x = .iface t p) (hrun : ∀ v w, (Instr.typeAssert (.iface t v) xt t true).run P w = .ok (.tuple #[v, .bool true]) w)
    (hR : R (.tuple [p, .bool true]) σ) : AO P o ρ σ R S := by
  refine AO.of_same hR fun w m ev hr hc => ?_
  have h1 := hr x (by simp [ho, Op.operands])
  rw [hx] at h1
  simp only [Rep] at h1
  obtain ⟨v, h1, h2⟩ := h1
  refine ⟨.tuple #[v, .bool true], ?_, ?_⟩
  · simp only [execOp, ho, h1, Sem.run_bind, hrun, Result.andThen_ok, Sem.run_pure]
  · simp only [Rep]
    exact ⟨[v, .bool true], rfl, RepL.cons h2 (RepL.cons (by simp [Rep]) RepL.nil)⟩
theorem AO.tassertN {x : Operand} {xt t : TypeId} {p : PV} {z : Value} (ho : o.op = .typeAssert x xt t true) (hx : ρ x = .val .nilIface) (hrun : ∀ w, (Instr.typeAssert .nilIface xt t true).run P w = .ok (.tuple #[z, .bool false]) w)
    (hz : ∀ w m, Rep w m p z) (hR : R (.tuple [p, .bool false]) σ) : AO P o ρ σ R S := by
  refine AO.of_same hR fun w m ev hr hc => ?_
  have h1 := hr x (by simp [ho, Op.operands])
  rw [hx] at h1
  simp only [Rep] at h1
  refine ⟨.tuple #[z, .bool false], ?_, ?_⟩
  · simp only [execOp, ho, h1, Sem.run_bind, hrun, Result.andThen_ok, Sem.run_pure]
  · simp only [Rep]
    exact ⟨[z, .bool false], rfl, RepL.cons (hz w m) (RepL.cons (by simp [Rep]) RepL.nil)⟩
end
end Go.Abs

namespace Go.Abs
open Go
section
variable {P : Program} {n : Nat} {all : Array Oper} {l : List Oper} {env : Env} {σ : List Res} {ds : List Deferred} {Q : Post} {c : Code}
end
end Go.Abs

namespace Go.Abs
open Go Go.Proofs Go.Sort Go.Lib Go.Shelf
theorem strs_rep {w : World} {m : Imm} : ∀ {l : List (List UInt8)} {xs : List Value}, RepL w m (l.map PV.str) xs → xs = l.map fun s => Value.string ⟨s.toArray⟩
  | [], xs, h => by simpa only [List.map_nil, RepL] using h
  | s :: l, xs, h => by
    simp only [List.map_cons, RepL] at h
    obtain ⟨v, vs, rfl, h1, h2⟩ := h
    simp only [Rep] at h1
    rw [h1, strs_rep h2, List.map_cons]
theorem rep_strs {w : World} {m : Imm} : ∀ l : List (List UInt8), RepL w m (l.map PV.str) (l.map fun s => Value.string ⟨s.toArray⟩)
  | [] => RepL.nil
  | s :: l => RepL.cons (by simp [Rep]) (rep_strs l)
theorem Trans.grown {w w' : World} {m m' : Imm} {σ' : List Res} (h : Trans w m [] w' m' σ') : ∃ q os, w' = Sort.grow (w.drewN q) os := by
  refine ⟨w'.drawn - w.drawn, w'.heap.extract w.heap.size w'.heap.size, ?_⟩
  have h1 := h.os; have h2 := h.tape; have h3 := h.output; have h4 := h.drawn; have h5 := h.size; have h6 := h.keep
  cases w'; cases w
  simp only [World.drewN, Sort.grow] at *
  subst h1 h2 h3
  congr 1
  · apply Array.ext_getElem?
    intro k
    rw [Array.getElem?_append]
    split
    · rename_i hk
      exact (h6 k hk (by simp [fps])).1
    · rename_i hk
      rw [Array.getElem?_extract]
      split
      · congr 1; omega
      · rw [Array.getElem?_eq_none (by omega)]
  · omega
abbrev shortS : Type := { s : List UInt8 // s.length < 4611686018427387904 }
instance : Inhabited shortS := ⟨⟨[], by decide⟩⟩
def encSh (s : shortS) : Value := .string ⟨s.1.toArray⟩
theorem lift_short : ∀ {l : List (List UInt8)}, (∀ s ∈ l, s.length < 4611686018427387904) → ∃ k : List shortS, k.map (·.1) = l
  | [], _ => ⟨[], rfl⟩
  | s :: l, h => by
    obtain ⟨k, hk⟩ := lift_short (l := l) fun x hx => h x (List.mem_cons_of_mem _ hx)
    exact ⟨⟨s, h s List.mem_cons_self⟩ :: k, by rw [List.map_cons, hk]⟩
theorem mergeSort_sub (f : List UInt8 → List UInt8 → Bool) (k : List shortS) : (k.mergeSort fun x y => f x.1 y.1).map (·.1) = (k.map (·.1)).mergeSort f := by
  rw [List.map_mergeSort (r := fun x y : shortS => f x.1 y.1) (s := f)]
  intro a _ b _
  rfl
theorem buf_put {w : World} {m : Imm} {g n cap : Nat} {e : TypeId} {l l' : List (List UInt8)} {cur : Array Value} {fz : Nat × Nat} {α : Type} [Inhabited α] (enc : α → Value) (dk : Array α) (q : Nat) (os : Array Obj)
    (hc : Conc w m [.buf (.slice (some ⟨g, 0, none⟩) n cap) n 1 e (l.map PV.str)]) (hg : w.heap[g]? = some (.cells cur e fz)) (hfz : fz.1 = fz.2 ∨ cur.size ≤ fz.1) (hn : n ≤ cap) (hcap : cap ≤ maxLen) (hcur : cur.size = cap * 1)
    (hm : ∀ off, ¬ m g off) (hdk : dk.size ≤ cap) {n' : Nat} (hn' : n' ≤ n) (hl' : l'.length = n') (hput : (Go.Sort.putCells enc 0 dk cur).toList.take n' = l'.map fun s => Value.string ⟨s.toArray⟩) :
    let w' := Sort.grow (putRow enc (Sort.ahead w q) g 0 dk) os
    Conc w' m [.buf (.slice (some ⟨g, 0, none⟩) n' cap) n' 1 e (l'.map PV.str)] ∧ Trans w m [.buf (.slice (some ⟨g, 0, none⟩) n cap) n 1 e (l.map PV.str)] w' m [.buf (.slice (some ⟨g, 0, none⟩) n' cap) n' 1 e (l'.map PV.str)] := by
  intro w'
  have hgs : g < w.heap.size := by
    rcases Nat.lt_or_ge g w.heap.size with h | h
    · exact h
    · rw [Array.getElem?_eq_none h] at hg; cases hg
  have hold : ∀ b, b < w.heap.size → b ≠ g → w'.heap[b]? = w.heap[b]? := by
    intro b hb hne
    show (Sort.grow _ _).heap[b]? = _
    rw [heap_grow_old _ _ (by simpa using hb)]
    show (w.heap.modify g _)[b]? = _
    rw [Array.getElem?_modify, if_neg (Ne.symm hne)]
  have hnew : w'.heap[g]? = some (.cells (Go.Sort.putCells enc 0 dk cur) e fz) := by
    show (Sort.grow _ _).heap[g]? = _
    rw [heap_grow_old _ _ (by simpa using hgs)]
    show (w.heap.modify g _)[g]? = _
    rw [Array.getElem?_modify, if_pos rfl, hg]
    rfl
  have hle : Le w m w' m := by
    intro b off hb
    have hlt := hc.wf b off hb
    have hne : b ≠ g := fun h => hm off (h ▸ hb)
    refine ⟨hb, ?_⟩
    simp only [World.cell?, hold b hlt hne]
  have hsz : w.heap.size ≤ w'.heap.size := by
    show w.heap.size ≤ (Sort.grow _ _).heap.size
    simp
  refine ⟨⟨?_, ?_, ?_⟩, ⟨rfl, rfl, rfl, hsz, hle, ?_, ?_, ?_⟩⟩
  · intro r hr
    simp only [List.mem_singleton] at hr
    subst hr
    refine ⟨_, ⟨?_, .inr ⟨g, cap, _, fz, rfl, hnew, ?_, by omega, hcap, ?_, ?_⟩⟩, rep_strs l', ?_⟩
    · simp [hl']
    · simpa [Go.Sort.putCells] using hfz
    · simpa [Go.Sort.putCells] using hcur
    · simpa using hput
    · intro b hb off
      simp only [Value.ownBlock, Option.some.injEq] at hb
      subst hb
      exact hm off
  · simp [fps, Res.fp, Value.ownBlock]
  · intro b off hb
    have := hc.wf b off hb
    omega
  · intro b hb hf
    have hne : b ≠ g := fun h => hf (by subst h; simp [fps, Res.fp, Value.ownBlock])
    exact ⟨hold b hb hne, fun _ h => h⟩
  · intro b hb
    left
    simpa [fps, Res.fp, Value.ownBlock] using hb
  · show w.drawn ≤ w.drawn + q
    omega
theorem AC.sortFunc {P : Program} {ρ : Ren} (L : SlLaysF.n6 P ρ) {g : FuncId} (hp : plainFn P g = true) {cf : List UInt8 → List UInt8 → Int}
    (hcmp : ∀ a b : List UInt8, a.length < 4611686018427387904 → b.length < 4611686018427387904 → AC P g [.str a, .str b] [] fun out _ => out = .ret (.int .i64 (cf a b)))
    (hS : SWO (ltOf fun a b : shortS => cf a.1 b.1)) (hT : ∀ x y : shortS, cf x.1 y.1 ≥ 0 → cf y.1 x.1 ≥ 0 → x.1 = y.1)
    {l : List (List UInt8)} (hl : ∀ s ∈ l, s.length < 4611686018427387904) (hb : l.length < 4611686018427387904) {v : Value} {e : TypeId} {R : AOut → List Res → Prop}
    (h : R (.ret (.tuple [])) [.buf v (l.mergeSort fun x y => !decide (cf y x < 0)).length 1 e ((l.mergeSort fun x y => !decide (cf y x < 0)).map PV.str)]) :
    AC P (ρ.f 6) [.val v, .fn g []] [.buf v l.length 1 e (l.map PV.str)] R := by
  rw [List.length_mergeSort] at h
  intro w m vs hc hv
  simp only [RepL, Rep] at hv
  obtain ⟨v0, vs0, rfl, rfl, v1, vs1, rfl, ⟨cs, rfl, rfl⟩, rfl⟩ := hv
  obtain ⟨xs, ⟨hx1, hx2⟩, hrep, hm⟩ := hc.each _ (List.mem_singleton.2 rfl)
  have hxs := strs_rep hrep
  rcases hx2 with ⟨rfl, hn⟩ | ⟨gb, cap, cur, fz, rfl, hg, hfz, hn, hcap, hcur, htake⟩
  · have hl0 : l = [] := List.eq_nil_of_length_eq_zero hn
    subst hl0
    refine (AnyF.slices_SortFunc_none (P := P) (ρ := ρ) { L with } Option.none 0 (.func (.func g) #[] #[]) w).mono ?_
    rintro en w' ⟨rfl, rfl⟩
    have hnil : ([] : List (List UInt8)).mergeSort (fun x y => !decide (cf y x < 0)) = [] := by simp
    rw [hnil] at h
    exact ⟨_, _, m, h, ⟨_, rfl, by simp only [Rep]; exact ⟨[], rfl, RepL.nil⟩⟩, hc, Trans.refl _ _ _⟩
  · obtain ⟨k, hk⟩ := lift_short hl
    have hkl : k.length = l.length := by rw [← hk]; simp
    have hgs : gb < w.heap.size := by
      rcases Nat.lt_or_ge gb w.heap.size with h | h
      · exact h
      · rw [Array.getElem?_eq_none h] at hg; cases hg
    have hm' : ∀ off, ¬ m gb off := hm gb rfl
    have hcell : ∀ j (hj : j < l.length), cur[j]? = some (.string ⟨(l[j]).toArray⟩) := by
      intro j hj
      have : (cur.toList.take (l.length * 1))[j]? = xs[j]? := by rw [htake]
      rw [List.getElem?_take, if_pos (by omega), hxs] at this
      rw [← Array.getElem?_toList, this]
      simp [hj]
    have hH : Holds encSh w gb 0 k.toArray := by
      intro j hj
      have hj' : j < l.length := by simpa [hkl] using hj
      refine ⟨?_, ?_⟩
      · simp only [World.cell?, hg, Nat.zero_add]
        rw [if_neg (by simp), hcell j hj']
        congr 1
        rw [getElem!_pos k.toArray j hj]
        unfold encSh
        congr 3
        have : (k.map (·.1))[j]? = l[j]? := by rw [hk]
        simpa [hj', hkl] using this.symm
      · simp only [World.frozen?, hg]
        rcases hfz with h | h
        · rcases fz with ⟨a, b⟩
          simp only at h ⊢
          subst h
          simp only [Bool.and_eq_false_iff, decide_eq_false_iff_not]
          omega
        · rcases fz with ⟨a, b⟩
          simp only at h ⊢
          simp only [Bool.and_eq_false_iff, decide_eq_false_iff_not]
          omega
    have hlays : CmpLays1 P g #[] encSh (fun a b : shortS => cf a.1 b.1) gb 0 k.toArray.size w := by
      intro m0 os dk _ x y
      refine (hcmp x.1 y.1 x.2 y.2 (sortWorld encSh w gb 0 m0 dk os) (fun _ _ => False) [encSh x, encSh y] ⟨fun r hr => by simp at hr, by simp [fps], fun _ _ h => h.elim⟩ (RepL.cons (by simp [Rep, encSh]) (RepL.cons (by simp [Rep, encSh]) RepL.nil))).mono ?_
      rintro en w' ⟨out, σ', m', rfl, hout, _, ht⟩
      obtain ⟨r, rfl, hr⟩ := hout
      simp only [Rep] at hr
      exact ⟨by rw [hr], (show Trans _ _ [] _ _ _ from ht).grown⟩
    have key := Any.slices_SortFunc_total L encSh (fun x => rfl) (fun a b : shortS => cf a.1 b.1) hS g #[] gb 0 cap k.toArray w (run_callFunc hp) hlays hH hgs (by simpa [hkl] using hb)
      (fun x y h1 h2 => Subtype.ext (hT x y (by simpa [ltOf] using h1) (by simpa [ltOf] using h2)))
    have e0 : k.toArray.size = l.length := by simpa using hkl
    rw [e0] at key
    refine key.mono ?_
    rintro en w' ⟨rfl, q, os, rfl⟩
    have hms : (k.mergeSort fun x y => !(ltOf (fun a b : shortS => cf a.1 b.1)) y x).map (·.1) = l.mergeSort fun x y => !decide (cf y x < 0) := by
      rw [← hk]
      exact mergeSort_sub (fun x y => !decide (cf y x < 0)) k
    have hlen : (k.mergeSort fun x y => !(ltOf (fun a b : shortS => cf a.1 b.1)) y x).length = l.length := by rw [List.length_mergeSort, hkl]
    obtain ⟨c1, c2⟩ := buf_put (l' := l.mergeSort fun x y => !decide (cf y x < 0)) encSh (k.mergeSort fun x y => !(ltOf (fun a b : shortS => cf a.1 b.1)) y x).toArray q os hc hg hfz hn hcap hcur hm' (by simpa [hlen] using hn) (n' := l.length) (Nat.le_refl _) (by simp) (by
      apply List.ext_getElem?
      intro j
      rw [← hms, List.getElem?_take]
      split
      · rename_i hj
        have h1 : j < cur.size := by omega
        simp only [Go.Sort.putCells, Array.getElem?_toList, Array.getElem?_mapIdx, Array.getElem?_eq_getElem h1, Option.map_some]
        rw [if_pos ⟨Nat.zero_le _, by simpa [hlen] using hj⟩]
        have h2 : j < (k.mergeSort fun x y => !(ltOf (fun a b : shortS => cf a.1 b.1)) y x).length := by omega
        rw [Nat.sub_zero, getElem!_pos _ j (by simpa using h2)]
        simp only [List.map_map, List.getElem?_map, List.getElem?_eq_getElem h2, Option.map_some, encSh, List.getElem_toArray, Function.comp_apply]
      · rename_i hj
        rw [List.getElem?_eq_none (by simp [hlen]; omega)])
    exact ⟨_, _, m, h, ⟨_, rfl, by simp only [Rep]; exact ⟨[], rfl, RepL.nil⟩⟩, c1, c2⟩
end Go.Abs
namespace Go.Ft
open Go.Lib
theorem dd_snoc : ∀ (l : List Str) (x : Str), dd (l ++ [x]) = if l.getLast? = some x then dd l else dd l ++ [x]
  | [], x => by simp [dd]
  | [a], x => by
    by_cases h : a = x <;> simp [dd, h]
  | a :: b :: l, x => by
    have ih := dd_snoc (b :: l) x
    simp only [List.cons_append] at ih ⊢
    simp only [dd]
    rw [ih]
    have : (a :: b :: l).getLast? = (b :: l).getLast? := by simp [List.getLast?_cons]
    rw [this]
    by_cases h : a = b <;> simp only [h, if_true, if_false] <;> split <;> simp
theorem compact_dd (l : List Str) : Go.Lib.compact l = dd l := by
  have key : ∀ m, m ≤ l.length → compactUpTo l.toArray m = dd (l.take m) := by
    intro m
    induction m with
    | zero => intro _; simp [compactUpTo, dd]
    | succ m ih =>
      intro hm
      have h1 : l.take (m + 1) = l.take m ++ [l[m]] := by rw [List.take_succ_eq_append_getElem (by omega)]
      rw [h1, dd_snoc, ← ih (by omega)]
      have e1 : l.toArray[m]! = l[m] := by rw [getElem!_pos _ m (by simp; omega)]; simp
      simp only [compactUpTo, List.range_succ, List.filter_append, List.map_append]
      by_cases h0 : m = 0
      · subst h0
        simp [keeps]
        rw [List.getElem?_eq_getElem (by omega)]; rfl
      · have e2 : l.toArray[m - 1]! = l[m - 1] := by rw [getElem!_pos _ (m - 1) (by simp; omega)]; simp
        have e3 : (l.take m).getLast? = some l[m - 1] := by
          rw [List.getLast?_eq_getElem?, List.length_take, Nat.min_eq_left (by omega), List.getElem?_take, if_pos (by omega), List.getElem?_eq_getElem]
        by_cases hk : l[m] = l[m - 1]
        · have : keeps l.toArray m = false := by simp only [keeps, e1, e2, hk]; simp [h0]
          simp only [e3, hk, if_true, List.filter_cons, this, Bool.false_eq_true, if_false, List.filter_nil, List.map_nil, List.append_nil]
        · have : keeps l.toArray m = true := by simp only [keeps, e1, e2]; simp [hk]
          have hne : ¬ (some l[m - 1] = some l[m]) := fun h => hk (Option.some.inj h).symm
          simp only [e3, hne, if_false, List.filter_cons, this, if_true, List.filter_nil, List.map_cons, List.map_nil, e1]
  rw [Go.Lib.compact, key _ (Nat.le_refl _), List.take_length]
end Go.Ft
namespace Go.Abs
open Go Go.Proofs Go.Sort Go.Lib Go.Shelf
theorem dd_len : ∀ l : List Ft.Str, (Ft.dd l).length ≤ l.length
  | [] => by simp [Ft.dd]
  | [_] => by simp [Ft.dd]
  | x :: y :: l => by
    have := dd_len (y :: l)
    simp only [Ft.dd]
    split <;> simp only [List.length_cons] at * <;> omega
theorem AC.compactS {P : Program} {ρ : Ren} (L : Lays.n194 P ρ) {l : List (List UInt8)} (hb : l.length ≤ 9223372036854775807) {v : Value} {e : TypeId} {R : AOut → List Res → Prop}
    (h : ∀ v', R (.ret (.val v')) [.buf v' (Ft.dd l).length 1 e ((Ft.dd l).map PV.str)]) :
    AC P (ρ.f 194) [.val v] [.buf v l.length 1 e (l.map PV.str)] R := by
  intro w m vs hc hv
  simp only [RepL, Rep] at hv
  obtain ⟨v0, vs0, rfl, rfl, rfl⟩ := hv
  obtain ⟨xs, ⟨hx1, hx2⟩, hrep, hm⟩ := hc.each _ (List.mem_singleton.2 rfl)
  have hxs := strs_rep hrep
  rcases hx2 with ⟨rfl, hn⟩ | ⟨gb, cap, cur, fz, rfl, hg, hfz, hn, hcap, hcur, htake⟩
  · have hl0 : l = [] := List.eq_nil_of_length_eq_zero hn
    subst hl0
    refine (Any.slices_Compact_string_empty (P := P) (ρ := ρ) L Option.none 0 w).mono ?_
    rintro en w' ⟨rfl, rfl⟩
    exact ⟨_, _, m, h _, ⟨_, rfl, by simp only [Rep]⟩, by simpa [Ft.dd] using hc, Trans.refl _ _ _⟩
  · have hm' : ∀ off, ¬ m gb off := hm gb rfl
    have hcell : ∀ j (hj : j < l.length), cur[j]? = some (.string ⟨(l[j]).toArray⟩) := by
      intro j hj
      have : (cur.toList.take (l.length * 1))[j]? = xs[j]? := by rw [htake]
      rw [List.getElem?_take, if_pos (by omega), hxs] at this
      rw [← Array.getElem?_toList, this]
      simp [hj]
    have hH : Holds encStr w gb 0 l.toArray := by
      intro j hj
      have hj' : j < l.length := by simpa using hj
      refine ⟨?_, ?_⟩
      · simp only [World.cell?, hg, Nat.zero_add]
        rw [if_neg (by simp), hcell j hj']
        congr 1
        rw [getElem!_pos l.toArray j hj]
        rfl
      · simp only [World.frozen?, hg]
        rcases hfz with h | h
        · rcases fz with ⟨a, b⟩
          simp only at h ⊢
          subst h
          simp only [Bool.and_eq_false_iff, decide_eq_false_iff_not]
          omega
        · rcases fz with ⟨a, b⟩
          simp only at h ⊢
          simp only [Bool.and_eq_false_iff, decide_eq_false_iff_not]
          omega
    refine (Any.slices_Compact_string L gb 0 cap l w hH hb hn).mono ?_
    rintro en w' ⟨rfl, q, rfl⟩
    rw [Ft.compact_dd]
    have hdl := dd_len l
    obtain ⟨c1, c2⟩ := buf_put (l' := Ft.dd l) encStr (Ft.dd l ++ List.replicate (l.length - (Ft.dd l).length) []).toArray q #[] hc hg hfz hn hcap hcur hm' (by simp; omega) hdl rfl (by
      apply List.ext_getElem?
      intro j
      rw [List.getElem?_take]
      split
      · rename_i hj
        have h1 : j < cur.size := by omega
        simp only [Go.Sort.putCells, Array.getElem?_toList, Array.getElem?_mapIdx, Array.getElem?_eq_getElem h1, Option.map_some]
        rw [if_pos ⟨Nat.zero_le _, by simp; omega⟩]
        rw [Nat.sub_zero, getElem!_pos _ j (by simp; omega)]
        simp [encStr, List.getElem?_map, hj, List.getElem_append]
      · rename_i hj
        rw [List.getElem?_eq_none (by simp; omega)])
    rw [Sort.grow_empty] at c1 c2
    exact ⟨_, _, m, h _, ⟨_, rfl, by simp only [Rep]⟩, c1, c2⟩
end Go.Abs

namespace Go.Abs
open Go
section
variable {P : Program} {o : Oper} {ρ : Operand → PV} {σ : List Res} {R S : PV → List Res → Prop}
theorem run_eqSliceNil (w : World) (t e : TypeId) (a : Option Addr) (l c : Nat) (h : P.underlying t = some (.slice e)) : (binOp .eql t (.slice a l c) (.slice none 0 0)).run P w = .ok (.bool a.isNone) w := by
  have h : ∀ d : Nat, (Op.equalIn (d + 1) t (.slice a l c) (.slice none 0 0)).run P w = .ok a.isNone w := fun d => by
    cases a <;> simp [Op.equalIn, run_underlying h]
  simp only [binOp]
  simp [Op.equal, Op.maxDepth, h 9999]
theorem AO.eq_nil_slice {t e yt : TypeId} {x : Operand} {l : List (List PV)} (ho : o.op = .binOp .eql t x (.const (.slice none 0 0)) yt) (hx : (ρ x).els = some l) (hu : P.underlying t = some (.slice e))
    (hR : ∀ b : Bool, (b = true → l = []) → R (.bool b) σ) : AO P o ρ σ R S := by
  intro w m a K QC hr hc hK _
  have hv := hr x (by simp [ho, Op.operands])
  obtain ⟨ad, cap, e1, e2, e3⟩ := hv.els hx
  have hev : a.eval (.const (.slice none 0 0)) = .slice none 0 0 := rfl
  have hrun : (execOp a.eval o).run P w = .ok (.value (.bool ad.isNone)) w := by
    simp only [execOp, ho, hev, e1, Sem.run_bind]
    rw [show eqGuard .eql t x (.const (.slice none 0 0)) (.slice ad l.length cap) (.slice none 0 0) = pure () from rfl]
    simp only [Sem.run_pure, Result.andThen_ok, run_eqSliceNil w t e ad l.length cap hu]
  unfold Oper.wp
  rw [hrun]
  refine hK (.bool ad.isNone) σ _ w m (hR _ fun h => ?_) (by simp only [Rep]) hc (Trans.refl _ _ _)
  rcases e3 with rfl | ⟨bk, off, sz, rfl, _⟩
  · rfl
  · cases h
theorem AO.own_val {x : Operand} {v : Value} {l : List (List PV)} (ho : o.op = .assign x) (hx : ρ x = .own v l) (hR : R (.val v) σ) : AO P o ρ σ R S := by
  refine AO.of_same hR fun w m ev hr _ => ?_
  have h1 := hr x (by simp [ho, Op.operands])
  rw [hx] at h1
  simp only [Rep] at h1
  exact ⟨ev x, by simp [execOp, ho], by simp only [Rep]; exact h1.1⟩
theorem AO.clip {t : TypeId} {x y z : Operand} {l : List (List PV)} {sz : Nat} {k k' : IntKind} (ho : o.op = .slice t x none (some y) (some z)) (hs : elemSize P t = some sz) (hx : (ρ x).els = some l)
    (hy : ρ y = .int k l.length) (hz : ρ z = .int k' l.length) (hR : R (.list l) σ) : AO P o ρ σ R S := by
  refine AO.of_same hR fun w m ev hr _ => ?_
  have hv := hr x (by simp [ho, Op.operands])
  obtain ⟨ad, cap, e1, e2, e3⟩ := hv.els hx
  obtain ⟨el, inf, g1, g2, g3⟩ := run_elemSize hs
  have h1 := hr y (by simp [ho, Op.operands])
  have h2 := hr z (by simp [ho, Op.operands])
  rw [hy] at h1; rw [hz] at h2
  simp only [Rep] at h1 h2
  have hb : (Instr.sliceBounds true l.length cap none (some (ev y)) (some (ev z))).run P w = .ok (0, l.length, l.length) w := by
    simp [Instr.sliceBounds, h1, h2, Instr.sliceBound, asIntOf, e2]
  refine ⟨.slice (if l.length = 0 then ad else ad.map (·.add (0 * sz))) (l.length - 0) (l.length - 0), ?_, ?_⟩
  · simp only [execOp, ho, Instr.sliceAt, Sem.run_bind, run_underlying g1, Result.andThen_ok, Instr.slice, e1, Option.map_some, Option.map_none, hb, Sem.run_pure, sizeOf, run_typeInfo g2, g3]
  · simp only [Rep]
    refine ⟨_, l.length, rfl, Nat.le_refl _, ?_⟩
    rcases e3 with rfl | ⟨bk, off, sz', rfl, e4⟩
    · exact .inl rfl
    · right
      refine ⟨bk, off, sz', ?_, e4⟩
      split <;> simp [Addr.add_lit]
end
theorem AW.buf0 {P : Program} {n : Nat} {c : Code} {env : Env} {σ : List Res} {ds : List Deferred} {Q : Post} (sz e : Nat) (h : AW P n c env (.buf (.slice none 0 0) 0 sz e [] :: σ) ds Q) : AW P n c env σ ds Q := by
  intro w m a QC hs ha
  have hc : Conc w m (.buf (.slice none 0 0) 0 sz e [] :: σ) := by
    refine ⟨fun r hr => ?_, by simpa [fps, Res.fp, Value.ownBlock] using hs.conc.apart, hs.conc.wf⟩
    rcases List.mem_cons.1 hr with rfl | hr
    · exact ⟨[], ⟨by simp, .inl ⟨rfl, rfl⟩⟩, RepL.nil, fun b hb => by cases hb⟩
    · exact hs.conc.each r hr
  exact h w m a QC ⟨hs.size, hs.ds, hs.env, hc⟩ (ha.step ⟨rfl, rfl, rfl, Nat.le_refl _, Le.refl _ _, fun b _ _ => ⟨rfl, fun _ h => h⟩, fun b hb => .inl (by simpa [fps, Res.fp, Value.ownBlock] using hb), Nat.le_refl _⟩)
theorem AR.freeze {P : Program} {k : Nat} {all : Array Oper} {lo : List Oper} {env : Env} {σ : List Res} {ds : List Deferred} {Q : Post} {v : Value} {n sz e : Nat} {cs : List PV} (t i : Nat) (l : List (List PV)) (ht : env.get t = .val v) (hi : σ[i]? = some (Res.buf v n sz e cs))
    (hl : l.flatten = cs) (hsz : ∀ x ∈ l, x.length = sz) (hn : l.length = n) (h : AR P k all lo ((t, .own v l) :: env) (σ.set i (.row v n sz e)) ds Q) : AR P k all lo env σ ds Q := by
  intro w m a QC hs ha
  obtain ⟨m', h1, h2, h3⟩ := hs.conc.freeze hi hl hsz hn
  refine h w m' a QC ⟨hs.size, hs.ds, fun u => ?_, h2⟩ (ha.step h3)
  have hu := hs.env u
  simp only [Env.get]
  cases hb : Nat.beq t u with
  | false => exact Rep.mono h3.le _ _ hu
  | true =>
    have := Nat.eq_of_beq_eq_true hb
    subst this
    rw [ht] at hu
    simp only [Rep] at hu
    rw [hu]
    exact h1
end Go.Abs

namespace Go.Abs
open Go
theorem AW.sr {P : Program} {n : Nat} {env : Env} {σ : List Res} {ds : List Deferred} {Q : Post} {id : Nat} {l : List Oper} {d : Code} (h : AR P n l.toArray l env σ ds (AX.then (fun e s ds => AW P n d e s ds Q) Q)) : AW P n (.seq (.region id l.toArray false) d) env σ ds Q := AW.seq (AW.region h)
end Go.Abs