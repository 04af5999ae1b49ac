/- Proved here: how a functional text stands for a walk of the given code. -/
import Derived.Test.YtfiahdjachcaiaaWords
import Derived.Test.YtfiahdjachcaiaaAbs3
import Derived.Lib.Builder
import Derived.Lib.UnsafeStr
import Derived.Laws.Externs
import Derived.Laws.Pointers
set_option linter.unusedVariables false
set_option linter.unusedSimpArgs false
namespace Go.Abs
open Go Go.Ft

/-! The rules by which a walk follows its functional text. -/

def strC (s : List UInt8) : List PV := [.str s]
def intC (n : Int) : List PV := [.int .i64 n]
def boolC (b : Bool) : List PV := [.bool b]
def i32C (n : Int) : List PV := [.int .i32 n]
def listC {α : Type} (f : α → List PV) (l : List α) : List PV := [.list (l.map f)]

section
variable {P : Program} {o : Oper} {ρ : Operand → PV} {σ : List Res} {R S : PV → List Res → Prop} {α : Type}

theorem AO.idx_str {t : TypeId} {x i : Operand} {s : List UInt8} {k : IntKind} {n : Int} {c : UInt8} (hv : idx s n = some c) (ho : o.op = .index t x i) (hs : P.underlying t = some .string) (hx : ρ x = .str s) (hi : ρ i = .int k n)
    (hR : R (.int .u8 (c.toNat : Int)) σ) : AO P o ρ σ R S :=
  AO.index_str ho hs hx hi (idx_some hv).1 (idx_some hv).2 hR

theorem AO.idx_list {t : TypeId} {x i : Operand} {L : List (List PV)} {k : IntKind} {n : Int} {sz : Nat} {e : List PV} {f : α → List PV} {l : List α} {a : α} (hv : idx l n = some a) (ho : o.op = .indexAddr t x i) (hx : (ρ x).els = some L) (hL : L = l.map f) (hi : ρ i = .int k n) (hs : elemSize P t = some sz)
    (he : f a = e) (hl : e.length = sz) (hR : R (.ref e) σ) : AO P o ρ σ R S :=
  AO.indexAddr ho hx hi hs (idx_some hv).1 (by rw [hL, List.getElem?_map, (idx_some hv).2, ← he]; rfl) hl hR

theorem AO.len_list {x : Operand} {t : TypeId} {L : List (List PV)} {sz : Nat} {c : Call} {f : α → List PV} {l : List α} (ho : o.op = .call c) (hcal : c.callee = .builtin .len) (hargs : c.args = #[x]) (hty : c.argTypes = #[t]) (hs : elemSize P t = some sz) (hx : (ρ x).els = some L) (hL : L = l.map f)
    (hR : R (.int .i64 (l.length : Int)) σ) : AO P o ρ σ R S :=
  AO.len_slice ho hcal hargs hty hs hx (by rw [hL, List.length_map]; exact hR)

/-- a bound of a slice expression, as a number -/
def boundI (ρ : Operand → PV) (o : Option Operand) (a d : Int) : Prop :=
  match o with
  | some y => ∃ k, ρ y = .int k a
  | none => a = d
theorem boundI_nat {o : Option Operand} {a : Int} {d : Nat} (h : boundI ρ o a d) (h0 : 0 ≤ a) : bound ρ o a.toNat d := by
  unfold boundI at h; unfold bound
  cases o with
  | none => simp only at h ⊢; omega
  | some y => obtain ⟨k, h⟩ := h; exact ⟨k, by rw [h]; congr 1; omega⟩

theorem AO.sl_str {t : TypeId} {x : Operand} {lo hi : Option Operand} {s r : List UInt8} {a b : Int} (hv : sl s a b = some r) (ho : o.op = .slice t x lo hi none) (hu : P.underlying t = some .string) (hx : ρ x = .str s)
    (hlo : boundI ρ lo a (0 : Nat)) (hhi : boundI ρ hi b (s.length : Nat)) (hR : R (.str r) σ) : AO P o ρ σ R S := by
  obtain ⟨h0, h1, h2, rfl⟩ := sl_some hv
  exact AO.slice_str ho hu hx (boundI_nat hlo h0) (boundI_nat hhi (by omega)) (by omega) (by omega) hR

theorem AO.sl_list {t : TypeId} {x : Operand} {lo hi : Option Operand} {L Lr : List (List PV)} {sz : Nat} {a b : Int} {f : α → List PV} {l r : List α} (hv : sl l a b = some r) (ho : o.op = .slice t x lo hi none) (hs : elemSize P t = some sz) (hx : (ρ x).els = some L)
    (hL : L = l.map f) (hr : r.map f = Lr) (fl : ∀ x, (f x).length = sz) (hlo : boundI ρ lo a (0 : Nat)) (hhi : boundI ρ hi b (l.length : Nat)) (hR : R (.list Lr) σ) : AO P o ρ σ R S := by
  obtain ⟨h0, h1, h2, rfl⟩ := sl_some hv
  refine AO.slice_list (a := a.toNat) (b := b.toNat) ho hs hx ?_ (boundI_nat hlo h0) ?_ (by omega) (by rw [hL, List.length_map]; omega) ?_
  · intro e he
    rw [hL, List.mem_map] at he
    obtain ⟨y, _, rfl⟩ := he
    exact fl y
  · have := boundI_nat (d := l.length) hhi (by omega)
    rw [hL, List.length_map]; exact this
  · rw [hL, ← List.map_take, ← List.map_drop, hr]; exact hR

theorem LIM_le : LIM ≤ maxLen := by decide

theorem AO.app_own {c : Call} {s x : Operand} {t tx e sz bytes : Nat} {v : Value} {L L2 Lr : List (List PV)} {i : Nat} {f : α → List PV} {l m r : List α} (hv : app l m = some r) (ho : o.op = .call c) (hcal : c.callee = .builtin .append) (hargs : c.args = #[s, x]) (hty : c.argTypes = #[t, tx])
    (hs : ρ s = .own v L) (hx : (ρ x).els = some L2) (hi : σ[i]? = some (Res.row v L.length sz e)) (hf : SliceFact P t e sz bytes) (htx : elemSize P tx = some sz)
    (hL : L = l.map f) (hL2 : L2 = m.map f) (hr : r.map f = Lr) (fl : ∀ x, (f x).length = sz) (fo : ∀ x, (f x).all PV.one = true) (hb : Nat.ble bytes 32768 = true)
    (hR : ∀ v' σ', setO σ i (.row v' Lr.length sz e) = some σ' → R (.own v' Lr) σ') : AO P o ρ σ R S := by
  obtain ⟨h1, rfl⟩ := app_some hv
  have hb := Nat.le_of_ble_eq_true hb
  have hlim : l.length + m.length ≤ 4294967296 := h1
  have hmul : (l.length + m.length) * bytes ≤ 4294967296 * 32768 := Nat.mul_le_mul hlim hb
  have hLr : L ++ L2 = Lr := by rw [hL, hL2, ← List.map_append, hr]
  have e1 : L.length = l.length := by rw [hL, List.length_map]
  have e2 : L2.length = m.length := by rw [hL2, List.length_map]
  refine AO.append ho hcal hargs hty hs hx hi hf htx rfl ?_ ?_ ?_ ?_ ?_ ?_
  · intro y hy; rw [hL, List.mem_map] at hy; obtain ⟨z, _, rfl⟩ := hy; exact fl z
  · intro y hy; rw [hL2, List.mem_map] at hy; obtain ⟨z, _, rfl⟩ := hy; exact fl z
  · intro y hy; rw [hL2, List.mem_map] at hy; obtain ⟨z, _, rfl⟩ := hy; exact fo z
  · rw [e1, e2]; exact Nat.le_trans h1 LIM_le
  · rw [e1, e2]; omega
  · intro v' σ' h
    rw [hLr]
    exact hR v' σ' (by rw [← hLr, List.length_append]; exact h)

theorem AO.catF {t u : TypeId} {x y : Operand} {a b r : List UInt8} (hv : app a b = some r) (ho : o.op = .binOp .add t x y u) (hx : ρ x = .str a) (hy : ρ y = .str b)
    (hR : R (.str r) σ) : AO P o ρ σ R S := by
  obtain ⟨h1, rfl⟩ := app_some hv
  have : a.length + b.length ≤ 4294967296 := h1
  exact AO.concat ho hx hy (by omega) hR

theorem AO.buildSliceF {t e sz bytes len : Nat} {parts : Array (Nat × Operand)} {cells : List PV} {L : List (List PV)} (Lr : List (List PV)) (ho : o.op = .buildSlice t len parts) (hs : SliceFact P t e sz bytes) (hle : Nat.ble (len * sz) 16777216 = true)
    (hf : fillO (fun i => some (i * sz, sz)) (List.replicate (len * sz) .undef) (parts.toList.map fun x => (x.1, (ρ x.2).weak)) = some cells) (hl : chunkO sz len cells = some L) (hr : L = Lr) (hR : R (.list Lr) σ) : AO P o ρ σ R S :=
  AO.buildSlice ho hs hle hf hl (by rw [hr]; exact hR)
theorem AO.buildSlice_ownF {t e sz bytes len : Nat} {parts : Array (Nat × Operand)} {cells : List PV} {L : List (List PV)} (Lr : List (List PV)) (ho : o.op = .buildSlice t len parts) (hs : SliceFact P t e sz bytes) (hle : Nat.ble (len * sz) 16777216 = true)
    (hf : fillO (fun i => some (i * sz, sz)) (List.replicate (len * sz) .undef) (parts.toList.map fun x => (x.1, (ρ x.2).weak)) = some cells) (hl : chunkO sz len cells = some L) (hlen : Nat.ble len 16777216 = true) (hr : L = Lr) (hR : ∀ v, R (.own v Lr) (.row v Lr.length sz e :: σ)) : AO P o ρ σ R S := by
  refine AO.buildSlice_own ho hs hle hf hl hlen fun v => ?_
  have := hR v
  rw [← hr] at this
  rw [← (chunkO_eq hl).1]
  exact this

theorem AO.nil_list {x : Operand} (ho : o.op = .assign x) (hx : ρ x = .own (.slice none 0 0) []) (hR : R (.list []) σ) : AO P o ρ σ R S := by
  refine AO.of_same hR fun w m ev hr _ => ?_
  have h1 := hr x (by simp [ho, Op.operands])
  rw [hx] at h1
  exact ⟨ev x, by simp [execOp, ho], h1.weak⟩
theorem AO.conv_same {src dst : TypeId} {x : Operand} {d : TypeDesc} {k : IntKind} {n n' : Int} (ho : o.op = .convert src dst x) (hs : P.underlying src = some d) (hd : P.underlying dst = some (.int k)) (hx : ρ x = .int k n) (hn : k.wrap n = n')
    (hR : R (.int k n') σ) : AO P o ρ σ R S :=
  AO.conv_int ho hs hd hx (by rw [hn]; exact hR)
theorem AO.conv_u8F {src dst : TypeId} {x : Operand} {d : TypeDesc} {k : IntKind} {n : Int} (ho : o.op = .convert src dst x) (hs : P.underlying src = some d) (hd : P.underlying dst = some (.int .u8)) (hx : ρ x = .int k n)
    (hR : R (.int .u8 ((Ft.byteOf n).toNat : Int)) σ) : AO P o ρ σ R S :=
  AO.conv_int ho hs hd hx (by rw [← Ft.byteOf_toNat]; exact hR)

theorem u8_wrap (n : Nat) : IntKind.u8.wrap (n : Int) = ((UInt8.ofNat n).toNat : Int) := by
  simp [IntKind.wrap, IntKind.bits, IntKind.signed]

theorem AO.u8_add {t u : TypeId} {x y : Operand} {p q : Int} (a b : UInt8) (ho : o.op = .binOp .add t x y u) (hx : ρ x = .int .u8 p) (hy : ρ y = .int .u8 q) (ha : p = (a.toNat : Int)) (hb : q = (b.toNat : Int))
    (hR : R (.int .u8 ((a + b).toNat : Int)) σ) : AO P o ρ σ R S := by
  refine AO.calcE (p := .int .u8 (IntKind.u8.wrap (p + q))) (by simp only [pev, ho, hx, hy]; rfl) ?_ hR
  rw [ha, hb]
  simp [IntKind.wrap, IntKind.bits, IntKind.signed, UInt8.toNat_add]
theorem AO.u8_sub {t u : TypeId} {x y : Operand} {p q : Int} (a b : UInt8) (ho : o.op = .binOp .sub t x y u) (hx : ρ x = .int .u8 p) (hy : ρ y = .int .u8 q) (ha : p = (a.toNat : Int)) (hb : q = (b.toNat : Int))
    (hR : R (.int .u8 ((a - b).toNat : Int)) σ) : AO P o ρ σ R S := by
  refine AO.calcE (p := .int .u8 (IntKind.u8.wrap (p - q))) (by simp only [pev, ho, hx, hy]; rfl) ?_ hR
  rw [ha, hb]
  congr 1
  have h1 := a.toNat_lt; have h2 := b.toNat_lt
  simp [IntKind.wrap, IntKind.bits, IntKind.signed, UInt8.toNat_sub]
  omega
theorem AO.u8_quo {t u : TypeId} {x y : Operand} {p q : Int} (a b : UInt8) (ho : o.op = .binOp .quo t x y u) (hx : ρ x = .int .u8 p) (hy : ρ y = .int .u8 q) (ha : p = (a.toNat : Int)) (hb : q = (b.toNat : Int)) (h0 : q ≠ 0)
    (hR : R (.int .u8 ((a / b).toNat : Int)) σ) : AO P o ρ σ R S := by
  have e : IntKind.u8.wrap (p.tdiv q) = ((a / b).toNat : Int) := by
    have h1 := a.toNat_lt
    rw [ha, hb]
    rw [← Int.ofNat_tdiv]
    have h2 := Nat.div_le_self a.toNat b.toNat
    rw [UInt8.toNat_div]
    generalize a.toNat / b.toNat = z at *
    simp [IntKind.wrap, IntKind.bits, IntKind.signed]
    omega
  exact AO.quo ho hx hy h0 (by rw [e]; exact hR)
theorem AO.u8_rem {t u : TypeId} {x y : Operand} {p q : Int} (a b : UInt8) (ho : o.op = .binOp .rem t x y u) (hx : ρ x = .int .u8 p) (hy : ρ y = .int .u8 q) (ha : p = (a.toNat : Int)) (hb : q = (b.toNat : Int)) (h0 : q ≠ 0)
    (hR : R (.int .u8 ((a % b).toNat : Int)) σ) : AO P o ρ σ R S := by
  have e : p.tmod q = ((a % b).toNat : Int) := by
    rw [ha, hb]
    rw [← Int.ofNat_tmod]
    simp [UInt8.toNat_mod]
  exact AO.rem ho hx hy h0 (by rw [e]; exact hR)
theorem AO.quoF {t u : TypeId} {x y : Operand} {k : IntKind} {a b : Int} (hv : chk (!(b == 0)) = some ()) (ho : o.op = .binOp .quo t x y u) (hx : ρ x = .int k a) (hy : ρ y = .int k b)
    (hR : R (.int k (k.wrap (a.tdiv b))) σ) : AO P o ρ σ R S :=
  AO.quo ho hx hy (by have := chk_some hv; simpa using this) hR
theorem AO.remF {t u : TypeId} {x y : Operand} {k : IntKind} {a b : Int} (hv : chk (!(b == 0)) = some ()) (ho : o.op = .binOp .rem t x y u) (hx : ρ x = .int k a) (hy : ρ y = .int k b)
    (hR : R (.int k (a.tmod b)) σ) : AO P o ρ σ R S :=
  AO.rem ho hx hy (by have := chk_some hv; simpa using this) hR
end

section
variable {P : Program} {n : Nat} {env : Env} {σ : List Res} {ds : List Deferred} {Q : Post} {all : Array Oper} {l : List Oper}
theorem AW.drop1 {c : Code} {r : Res} (h : AW P n c env σ ds Q) : AW P n c env (r :: σ) ds Q := AW.drop σ (List.sublist_cons_self r σ) h
theorem AR.drop1 {r : Res} (h : AR P n all l env σ ds Q) : AR P n all l env (r :: σ) ds Q :=
  fun w m a QC hsim ha => h w m a QC ⟨hsim.size, hsim.ds, hsim.env, hsim.conc.sub (List.sublist_cons_self r σ)⟩ (ha.step (Trans.sub (Trans.refl w m (r :: σ)) (List.sublist_cons_self r σ)))

/-- less may be known -/
def Less (e' e : Env) : Prop := ∀ t, e'.get t = .undef ∨ e'.get t = e.get t
theorem Less.settle {ps : List Nat} {e e' : Env} (h : Abs.settle ps e = some e') : Less e' e := get_settle h
theorem Less.refl (e : Env) : Less e e := fun _ => .inr rfl
theorem Less.cons {e e' : Env} (h : Less e' e) (t : Nat) (p : PV) : Less ((t, p) :: e') ((t, p) :: e) := by
  intro u
  simp only [Env.get]
  cases Nat.beq t u with
  | true => exact .inr rfl
  | false => exact h u
theorem Less.ev {e e' : Env} (h : Less e' e) (x : Operand) : e'.ev x = .undef ∨ e'.ev x = e.ev x := by
  cases x with
  | tmp t => exact h t
  | const v => exact .inr rfl
  | global g => exact .inr rfl
  | func f => exact .inr rfl
theorem AO.less {o : Oper} {e e' : Env} (h : Less e' e) {R S : PV → List Res → Prop} (k : AO P o e'.ev σ R S) : AO P o e.ev σ R S := by
  intro w m a K QC hr hc h1 h2
  refine k w m a K QC (fun x hx => ?_) hc h1 h2
  rcases h.ev x with h' | h'
  · rw [h']; simp [Rep]
  · rw [h']; exact hr x hx
theorem Less.known {e e' : Env} (h : Less e' e) {t : Nat} {p : PV} (hp : e'.get t = p) (hn : p ≠ .undef) : e.get t = p := by
  rcases h t with h' | h'
  · rw [h'] at hp; exact absurd hp.symm hn
  · rw [← h']; exact hp
theorem OpEv.less {o : Oper} {e e' : Env} (h : Less e' e) {p : PV} (k : OpEv P all e' σ o p) : OpEv P all e σ o p := by
  rcases k with ⟨hg, k⟩ | ⟨j, want, oj, u, h1, h2, h3, k⟩
  · exact .inl ⟨hg, AO.less h k⟩
  · refine .inr ⟨j, want, oj, u, h1, h2, h3, ?_⟩
    rcases k with ⟨h5, k⟩ | ⟨h5 | h5, k⟩
    · exact .inl ⟨h.known h5 (by simp), AO.less h k⟩
    · exact .inr ⟨.inl (h.known h5 (by simp)), k⟩
    · exact .inr ⟨.inr (h.known h5 (by simp)), k⟩
theorem SimS.less {w : World} {m : Imm} {e e' : Env} {a : Act} (h : Less e' e) (hs : SimS w m n e σ ds a) : SimS w m n e' σ ds a :=
  ⟨hs.size, hs.ds, fun t => by
    rcases h t with h' | h'
    · rw [h']; simp [Rep]
    · rw [h']; exact hs.env t, hs.conc⟩
theorem AR.less {e e' : Env} (h : Less e' e) (k : AR P n all l e' σ ds Q) : AR P n all l e σ ds Q :=
  fun w m a QC hs ha => k w m a QC (hs.less h) ha
theorem Ev.less {K : Env → Prop} (hK : ∀ e e', Less e' e → K e' → K e) : ∀ {l : List Oper} {e e' : Env}, Less e' e → Ev P n all σ e' l K → Ev P n all σ e l K
  | [], e, e', h, k => hK e e' h k
  | o :: rest, e, e', h, k => by
    obtain ⟨t, p, h1, h2, h3, h4⟩ := k
    exact ⟨t, p, h1, h2, OpEv.less h h3, Ev.less hK (h.cons t p) h4⟩
theorem Ev.append {K : Env → Prop} : ∀ {l l' : List Oper} {e : Env}, Ev P n all σ e l (fun e => Ev P n all σ e l' K) → Ev P n all σ e (l ++ l') K
  | [], _, _, h => h
  | _ :: _, _, _, h => by
    obtain ⟨t, p, h1, h2, h3, h4⟩ := h
    exact ⟨t, p, h1, h2, h3, Ev.append h4⟩
theorem Ev.monoK {K K' : Env → Prop} (hK : ∀ e, K e → K' e) : ∀ {l : List Oper} {e : Env}, Ev P n all σ e l K → Ev P n all σ e l K'
  | [], e, h => hK e h
  | _ :: _, _, h => by
    obtain ⟨t, p, h1, h2, h3, h4⟩ := h
    exact ⟨t, p, h1, h2, h3, Ev.monoK hK h4⟩
theorem Less.trans {a b c : Env} (h : Less a b) (k : Less b c) : Less a c := by
  intro t
  rcases h t with h' | h'
  · exact .inl h'
  · rcases k t with k' | k'
    · exact .inl (h'.trans k')
    · exact .inr (h'.trans k')
/-- a guarded group inside a region whose order is open: its two ways meet -/
theorem Ev.join1 {K : Env → Prop} (hK : ∀ e e', Less e' e → K e' → K e) (k g t : Nat) (want : Bool) (keep : List Nat) {b : Bool} (p : PV) {env' : Env} (_hb : env.get g = .bool b) (_hk : settle keep env = some env')
    (h1 : b = want → Ev P n all σ env (l.take k) fun e => Less ((t, p) :: env') e)
    (h2 : b = !want → Ev P n all σ env (l.take k) fun e => Less ((t, p) :: env') e)
    (h3 : Ev P n all σ ((t, p) :: env') (l.drop k) K) : Ev P n all σ env l K := by
  have key : (Ev P n all σ env (l.take k) fun e => Less ((t, p) :: env') e) → Ev P n all σ env l K := by
    intro h
    rw [← List.take_append_drop k l]
    refine Ev.append (Ev.monoK (fun e he => ?_) h)
    exact Ev.less hK he h3
  cases b with
  | true => cases want with
    | true => exact key (h1 rfl)
    | false => exact key (h2 rfl)
  | false => cases want with
    | true => exact key (h2 rfl)
    | false => exact key (h1 rfl)
theorem Ev.and1 {K : Env → Prop} (hK : ∀ e e', Less e' e → K e' → K e) (k g t : Nat) (keep : List Nat) {b : Bool} (x : Bool) {env' : Env} (hb : env.get g = .bool b) (hk : settle keep env = some env')
    (h1 : b = true → Ev P n all σ env (l.take k) fun e => Less ((t, .bool x) :: env') e)
    (h2 : b = false → Ev P n all σ env (l.take k) fun e => Less ((t, .bool false) :: env') e)
    (h3 : Ev P n all σ ((t, .bool (b && x)) :: env') (l.drop k) K) : Ev P n all σ env l K := by
  cases b with
  | true => exact Ev.join1 hK k g t true keep (.bool x) hb hk (fun _ => h1 rfl) (fun h => by cases h) h3
  | false => exact Ev.join1 hK k g t true keep (.bool false) hb hk (fun h => by cases h) (fun _ => h2 rfl) h3
theorem Ev.or1 {K : Env → Prop} (hK : ∀ e e', Less e' e → K e' → K e) (k g t : Nat) (keep : List Nat) {b : Bool} (x : Bool) {env' : Env} (hb : env.get g = .bool b) (hk : settle keep env = some env')
    (h1 : b = false → Ev P n all σ env (l.take k) fun e => Less ((t, .bool x) :: env') e)
    (h2 : b = true → Ev P n all σ env (l.take k) fun e => Less ((t, .bool true) :: env') e)
    (h3 : Ev P n all σ ((t, .bool (b || x)) :: env') (l.drop k) K) : Ev P n all σ env l K := by
  cases b with
  | true => exact Ev.join1 hK k g t false keep (.bool true) hb hk (fun h => by cases h) (fun _ => h2 rfl) h3
  | false => exact Ev.join1 hK k g t false keep (.bool x) hb hk (fun _ => h1 rfl) (fun h => by cases h) h3
theorem hKA {L2 : List Oper} (e e' : Env) (h : Less e' e) (k : AR P n all L2 e' σ ds Q) : AR P n all L2 e σ ds Q := AR.less h k
theorem hKL {X : Env} (e e' : Env) (h : Less e' e) (k : Less X e') : Less X e := k.trans h
/-- the same in a region whose order is fixed -/
theorem AR.join1 (k g t : Nat) (want : Bool) (keep : List Nat) {b : Bool} (x : Bool) {env' : Env}
    (hb : env.get g = .bool b) (hk : settle keep env = some env')
    (h1 : b = want → AR P n all (l.take k) env σ ds fun ax e s d => ax = .normal ∧ e = (t, .bool x) :: env' ∧ s = σ ∧ d = ds)
    (h2 : b = !want → AR P n all (l.take k) env σ ds fun ax e s d => ax = .normal ∧ e = (t, .bool x) :: env' ∧ s = σ ∧ d = ds)
    (h3 : AR P n all (l.drop k) ((t, .bool x) :: env') σ ds Q) : AR P n all l env σ ds Q :=
  AR.join k g t want keep (x := x) (y := x) hb hk h1 h2 (by cases (b == want) <;> exact h3)
end

section
variable {P : Program} {n : Nat} {env : Env} {σ : List Res} {ds : List Deferred} {Q : Post}
theorem AW.loopF1 {A0 : Type} {c : Code} (E : A0 → Env) (T : A0 → List Res) (I : Nat → A0 → Prop) (k0 : Nat) (x0 : A0) (h0 : env = E x0) (h1 : σ = T x0) (h2 : I k0 x0)
    (z : ∀ x0, I 0 x0 → False)
    (round : ∀ k x0, I (k + 1) x0 → AW P n c (E x0) (T x0) ds (AX.then (fun e s d => ∃ y0, e = E y0 ∧ s = T y0 ∧ d = ds ∧ I k y0) Q)) : AW P n (.loop c) env σ ds Q := by
  refine AW.loop (α := Nat × (A0)) (fun q => E (q.2)) (fun q => T (q.2)) (fun q => I q.1 (q.2)) (fun q => q.1) (k0, (x0)) h0 h1 h2 ?_
  rintro ⟨k, q⟩ hI
  cases k with
  | zero => exact (z _ hI).elim
  | succ k =>
    refine (round k (q) hI).mono fun x e s d hx => ?_
    cases x with
    | normal => obtain ⟨y0, h3, h4, h5, h6⟩ := hx; exact ⟨(k, (y0)), h3, h4, h5, h6, Nat.lt_succ_self k⟩
    | exit id => exact hx
    | ret => exact hx
    | panic p => exact hx
theorem AW.cutF1 {A0 : Type} {c : Code} (E : A0 → Env) (T : A0 → List Res) (I : A0 → Prop)
    (h : AW P n c env σ ds (AX.then (fun e s d => ∃ y0, e = E y0 ∧ s = T y0 ∧ d = ds ∧ I y0) Q)) (hq : ∀ x0, I x0 → Q .normal (E x0) (T x0) ds) : AW P n c env σ ds Q := by
  refine h.mono fun x e s d hx => ?_
  cases x with
  | normal => obtain ⟨y0, rfl, rfl, rfl, hI⟩ := hx; exact hq _ hI
  | exit id => exact hx
  | ret => exact hx
  | panic p => exact hx
theorem AW.cutF0 {c : Code} (E : Env) (T : List Res) (I : Prop)
    (h : AW P n c env σ ds (AX.then (fun e s d => e = E ∧ s = T ∧ d = ds ∧ I) Q)) (hq : I → Q .normal E T ds) : AW P n c env σ ds Q := by
  refine h.mono fun x e s d hx => ?_
  cases x with
  | normal => obtain ⟨rfl, rfl, rfl, hI⟩ := hx; exact hq hI
  | exit id => exact hx
  | ret => exact hx
  | panic p => exact hx
theorem AW.loopF0 {c : Code} (E : Env) (T : List Res) (I : Nat → Prop) (k0 : Nat) (h0 : env = E) (h1 : σ = T) (h2 : I k0)
    (z : I 0 → False)
    (round : ∀ k, I (k + 1) → AW P n c E T ds (AX.then (fun e s d => e = E ∧ s = T ∧ d = ds ∧ I k) Q)) : AW P n (.loop c) env σ ds Q := by
  refine AW.loopF1 (fun _ : Unit => E) (fun _ => T) (fun k _ => I k) k0 () h0 h1 h2 (fun _ => z) fun k _ hI => (round k hI).mono fun x e s d hx => ?_
  cases x with
  | normal => exact ⟨(), hx⟩
  | exit id => exact hx
  | ret => exact hx
  | panic p => exact hx
theorem AW.loopF2 {A0 : Type} {A1 : Type} {c : Code} (E : A0 → A1 → Env) (T : A0 → A1 → List Res) (I : Nat → A0 → A1 → Prop) (k0 : Nat) (x0 : A0) (x1 : A1) (h0 : env = E x0 x1) (h1 : σ = T x0 x1) (h2 : I k0 x0 x1)
    (z : ∀ x0 x1, I 0 x0 x1 → False)
    (round : ∀ k x0 x1, I (k + 1) x0 x1 → AW P n c (E x0 x1) (T x0 x1) ds (AX.then (fun e s d => ∃ y0 y1, e = E y0 y1 ∧ s = T y0 y1 ∧ d = ds ∧ I k y0 y1) Q)) : AW P n (.loop c) env σ ds Q := by
  refine AW.loop (α := Nat × (A0 × A1)) (fun q => E (q.2.1) (q.2.2)) (fun q => T (q.2.1) (q.2.2)) (fun q => I q.1 (q.2.1) (q.2.2)) (fun q => q.1) (k0, (x0, x1)) h0 h1 h2 ?_
  rintro ⟨k, q⟩ hI
  cases k with
  | zero => exact (z _ _ hI).elim
  | succ k =>
    refine (round k (q.1) (q.2) hI).mono fun x e s d hx => ?_
    cases x with
    | normal => obtain ⟨y0, y1, h3, h4, h5, h6⟩ := hx; exact ⟨(k, (y0, y1)), h3, h4, h5, h6, Nat.lt_succ_self k⟩
    | exit id => exact hx
    | ret => exact hx
    | panic p => exact hx
theorem AW.cutF2 {A0 : Type} {A1 : Type} {c : Code} (E : A0 → A1 → Env) (T : A0 → A1 → List Res) (I : A0 → A1 → Prop)
    (h : AW P n c env σ ds (AX.then (fun e s d => ∃ y0 y1, e = E y0 y1 ∧ s = T y0 y1 ∧ d = ds ∧ I y0 y1) Q)) (hq : ∀ x0 x1, I x0 x1 → Q .normal (E x0 x1) (T x0 x1) ds) : AW P n c env σ ds Q := by
  refine h.mono fun x e s d hx => ?_
  cases x with
  | normal => obtain ⟨y0, y1, rfl, rfl, rfl, hI⟩ := hx; exact hq _ _ hI
  | exit id => exact hx
  | ret => exact hx
  | panic p => exact hx
theorem AW.loopF3 {A0 : Type} {A1 : Type} {A2 : Type} {c : Code} (E : A0 → A1 → A2 → Env) (T : A0 → A1 → A2 → List Res) (I : Nat → A0 → A1 → A2 → Prop) (k0 : Nat) (x0 : A0) (x1 : A1) (x2 : A2) (h0 : env = E x0 x1 x2) (h1 : σ = T x0 x1 x2) (h2 : I k0 x0 x1 x2)
    (z : ∀ x0 x1 x2, I 0 x0 x1 x2 → False)
    (round : ∀ k x0 x1 x2, I (k + 1) x0 x1 x2 → AW P n c (E x0 x1 x2) (T x0 x1 x2) ds (AX.then (fun e s d => ∃ y0 y1 y2, e = E y0 y1 y2 ∧ s = T y0 y1 y2 ∧ d = ds ∧ I k y0 y1 y2) Q)) : AW P n (.loop c) env σ ds Q := by
  refine AW.loop (α := Nat × (A0 × A1 × A2)) (fun q => E (q.2.1) (q.2.2.1) (q.2.2.2)) (fun q => T (q.2.1) (q.2.2.1) (q.2.2.2)) (fun q => I q.1 (q.2.1) (q.2.2.1) (q.2.2.2)) (fun q => q.1) (k0, (x0, x1, x2)) h0 h1 h2 ?_
  rintro ⟨k, q⟩ hI
  cases k with
  | zero => exact (z _ _ _ hI).elim
  | succ k =>
    refine (round k (q.1) (q.2.1) (q.2.2) hI).mono fun x e s d hx => ?_
    cases x with
    | normal => obtain ⟨y0, y1, y2, h3, h4, h5, h6⟩ := hx; exact ⟨(k, (y0, y1, y2)), h3, h4, h5, h6, Nat.lt_succ_self k⟩
    | exit id => exact hx
    | ret => exact hx
    | panic p => exact hx
theorem AW.cutF3 {A0 : Type} {A1 : Type} {A2 : Type} {c : Code} (E : A0 → A1 → A2 → Env) (T : A0 → A1 → A2 → List Res) (I : A0 → A1 → A2 → Prop)
    (h : AW P n c env σ ds (AX.then (fun e s d => ∃ y0 y1 y2, e = E y0 y1 y2 ∧ s = T y0 y1 y2 ∧ d = ds ∧ I y0 y1 y2) Q)) (hq : ∀ x0 x1 x2, I x0 x1 x2 → Q .normal (E x0 x1 x2) (T x0 x1 x2) ds) : AW P n c env σ ds Q := by
  refine h.mono fun x e s d hx => ?_
  cases x with
  | normal => obtain ⟨y0, y1, y2, rfl, rfl, rfl, hI⟩ := hx; exact hq _ _ _ hI
  | exit id => exact hx
  | ret => exact hx
  | panic p => exact hx
theorem AW.loopF4 {A0 : Type} {A1 : Type} {A2 : Type} {A3 : Type} {c : Code} (E : A0 → A1 → A2 → A3 → Env) (T : A0 → A1 → A2 → A3 → List Res) (I : Nat → A0 → A1 → A2 → A3 → Prop) (k0 : Nat) (x0 : A0) (x1 : A1) (x2 : A2) (x3 : A3) (h0 : env = E x0 x1 x2 x3) (h1 : σ = T x0 x1 x2 x3) (h2 : I k0 x0 x1 x2 x3)
    (z : ∀ x0 x1 x2 x3, I 0 x0 x1 x2 x3 → False)
    (round : ∀ k x0 x1 x2 x3, I (k + 1) x0 x1 x2 x3 → AW P n c (E x0 x1 x2 x3) (T x0 x1 x2 x3) ds (AX.then (fun e s d => ∃ y0 y1 y2 y3, e = E y0 y1 y2 y3 ∧ s = T y0 y1 y2 y3 ∧ d = ds ∧ I k y0 y1 y2 y3) Q)) : AW P n (.loop c) env σ ds Q := by
  refine AW.loop (α := Nat × (A0 × A1 × A2 × A3)) (fun q => E (q.2.1) (q.2.2.1) (q.2.2.2.1) (q.2.2.2.2)) (fun q => T (q.2.1) (q.2.2.1) (q.2.2.2.1) (q.2.2.2.2)) (fun q => I q.1 (q.2.1) (q.2.2.1) (q.2.2.2.1) (q.2.2.2.2)) (fun q => q.1) (k0, (x0, x1, x2, x3)) h0 h1 h2 ?_
  rintro ⟨k, q⟩ hI
  cases k with
  | zero => exact (z _ _ _ _ hI).elim
  | succ k =>
    refine (round k (q.1) (q.2.1) (q.2.2.1) (q.2.2.2) hI).mono fun x e s d hx => ?_
    cases x with
    | normal => obtain ⟨y0, y1, y2, y3, h3, h4, h5, h6⟩ := hx; exact ⟨(k, (y0, y1, y2, y3)), h3, h4, h5, h6, Nat.lt_succ_self k⟩
    | exit id => exact hx
    | ret => exact hx
    | panic p => exact hx
theorem AW.cutF4 {A0 : Type} {A1 : Type} {A2 : Type} {A3 : Type} {c : Code} (E : A0 → A1 → A2 → A3 → Env) (T : A0 → A1 → A2 → A3 → List Res) (I : A0 → A1 → A2 → A3 → Prop)
    (h : AW P n c env σ ds (AX.then (fun e s d => ∃ y0 y1 y2 y3, e = E y0 y1 y2 y3 ∧ s = T y0 y1 y2 y3 ∧ d = ds ∧ I y0 y1 y2 y3) Q)) (hq : ∀ x0 x1 x2 x3, I x0 x1 x2 x3 → Q .normal (E x0 x1 x2 x3) (T x0 x1 x2 x3) ds) : AW P n c env σ ds Q := by
  refine h.mono fun x e s d hx => ?_
  cases x with
  | normal => obtain ⟨y0, y1, y2, y3, rfl, rfl, rfl, hI⟩ := hx; exact hq _ _ _ _ hI
  | exit id => exact hx
  | ret => exact hx
  | panic p => exact hx
theorem AW.loopF5 {A0 : Type} {A1 : Type} {A2 : Type} {A3 : Type} {A4 : Type} {c : Code} (E : A0 → A1 → A2 → A3 → A4 → Env) (T : A0 → A1 → A2 → A3 → A4 → List Res) (I : Nat → A0 → A1 → A2 → A3 → A4 → Prop) (k0 : Nat) (x0 : A0) (x1 : A1) (x2 : A2) (x3 : A3) (x4 : A4) (h0 : env = E x0 x1 x2 x3 x4) (h1 : σ = T x0 x1 x2 x3 x4) (h2 : I k0 x0 x1 x2 x3 x4)
    (z : ∀ x0 x1 x2 x3 x4, I 0 x0 x1 x2 x3 x4 → False)
    (round : ∀ k x0 x1 x2 x3 x4, I (k + 1) x0 x1 x2 x3 x4 → AW P n c (E x0 x1 x2 x3 x4) (T x0 x1 x2 x3 x4) ds (AX.then (fun e s d => ∃ y0 y1 y2 y3 y4, e = E y0 y1 y2 y3 y4 ∧ s = T y0 y1 y2 y3 y4 ∧ d = ds ∧ I k y0 y1 y2 y3 y4) Q)) : AW P n (.loop c) env σ ds Q := by
  refine AW.loop (α := Nat × (A0 × A1 × A2 × A3 × A4)) (fun q => E (q.2.1) (q.2.2.1) (q.2.2.2.1) (q.2.2.2.2.1) (q.2.2.2.2.2)) (fun q => T (q.2.1) (q.2.2.1) (q.2.2.2.1) (q.2.2.2.2.1) (q.2.2.2.2.2)) (fun q => I q.1 (q.2.1) (q.2.2.1) (q.2.2.2.1) (q.2.2.2.2.1) (q.2.2.2.2.2)) (fun q => q.1) (k0, (x0, x1, x2, x3, x4)) h0 h1 h2 ?_
  rintro ⟨k, q⟩ hI
  cases k with
  | zero => exact (z _ _ _ _ _ hI).elim
  | succ k =>
    refine (round k (q.1) (q.2.1) (q.2.2.1) (q.2.2.2.1) (q.2.2.2.2) hI).mono fun x e s d hx => ?_
    cases x with
    | normal => obtain ⟨y0, y1, y2, y3, y4, h3, h4, h5, h6⟩ := hx; exact ⟨(k, (y0, y1, y2, y3, y4)), h3, h4, h5, h6, Nat.lt_succ_self k⟩
    | exit id => exact hx
    | ret => exact hx
    | panic p => exact hx
theorem AW.cutF5 {A0 : Type} {A1 : Type} {A2 : Type} {A3 : Type} {A4 : Type} {c : Code} (E : A0 → A1 → A2 → A3 → A4 → Env) (T : A0 → A1 → A2 → A3 → A4 → List Res) (I : A0 → A1 → A2 → A3 → A4 → Prop)
    (h : AW P n c env σ ds (AX.then (fun e s d => ∃ y0 y1 y2 y3 y4, e = E y0 y1 y2 y3 y4 ∧ s = T y0 y1 y2 y3 y4 ∧ d = ds ∧ I y0 y1 y2 y3 y4) Q)) (hq : ∀ x0 x1 x2 x3 x4, I x0 x1 x2 x3 x4 → Q .normal (E x0 x1 x2 x3 x4) (T x0 x1 x2 x3 x4) ds) : AW P n c env σ ds Q := by
  refine h.mono fun x e s d hx => ?_
  cases x with
  | normal => obtain ⟨y0, y1, y2, y3, y4, rfl, rfl, rfl, hI⟩ := hx; exact hq _ _ _ _ _ hI
  | exit id => exact hx
  | ret => exact hx
  | panic p => exact hx
theorem AW.loopF6 {A0 : Type} {A1 : Type} {A2 : Type} {A3 : Type} {A4 : Type} {A5 : Type} {c : Code} (E : A0 → A1 → A2 → A3 → A4 → A5 → Env) (T : A0 → A1 → A2 → A3 → A4 → A5 → List Res) (I : Nat → A0 → A1 → A2 → A3 → A4 → A5 → Prop) (k0 : Nat) (x0 : A0) (x1 : A1) (x2 : A2) (x3 : A3) (x4 : A4) (x5 : A5) (h0 : env = E x0 x1 x2 x3 x4 x5) (h1 : σ = T x0 x1 x2 x3 x4 x5) (h2 : I k0 x0 x1 x2 x3 x4 x5)
    (z : ∀ x0 x1 x2 x3 x4 x5, I 0 x0 x1 x2 x3 x4 x5 → False)
    (round : ∀ k x0 x1 x2 x3 x4 x5, I (k + 1) x0 x1 x2 x3 x4 x5 → AW P n c (E x0 x1 x2 x3 x4 x5) (T x0 x1 x2 x3 x4 x5) ds (AX.then (fun e s d => ∃ y0 y1 y2 y3 y4 y5, e = E y0 y1 y2 y3 y4 y5 ∧ s = T y0 y1 y2 y3 y4 y5 ∧ d = ds ∧ I k y0 y1 y2 y3 y4 y5) Q)) : AW P n (.loop c) env σ ds Q := by
  refine AW.loop (α := Nat × (A0 × A1 × A2 × A3 × A4 × A5)) (fun q => E (q.2.1) (q.2.2.1) (q.2.2.2.1) (q.2.2.2.2.1) (q.2.2.2.2.2.1) (q.2.2.2.2.2.2)) (fun q => T (q.2.1) (q.2.2.1) (q.2.2.2.1) (q.2.2.2.2.1) (q.2.2.2.2.2.1) (q.2.2.2.2.2.2)) (fun q => I q.1 (q.2.1) (q.2.2.1) (q.2.2.2.1) (q.2.2.2.2.1) (q.2.2.2.2.2.1) (q.2.2.2.2.2.2)) (fun q => q.1) (k0, (x0, x1, x2, x3, x4, x5)) h0 h1 h2 ?_
  rintro ⟨k, q⟩ hI
  cases k with
  | zero => exact (z _ _ _ _ _ _ hI).elim
  | succ k =>
    refine (round k (q.1) (q.2.1) (q.2.2.1) (q.2.2.2.1) (q.2.2.2.2.1) (q.2.2.2.2.2) hI).mono fun x e s d hx => ?_
    cases x with
    | normal => obtain ⟨y0, y1, y2, y3, y4, y5, h3, h4, h5, h6⟩ := hx; exact ⟨(k, (y0, y1, y2, y3, y4, y5)), h3, h4, h5, h6, Nat.lt_succ_self k⟩
    | exit id => exact hx
    | ret => exact hx
    | panic p => exact hx
theorem AW.cutF6 {A0 : Type} {A1 : Type} {A2 : Type} {A3 : Type} {A4 : Type} {A5 : Type} {c : Code} (E : A0 → A1 → A2 → A3 → A4 → A5 → Env) (T : A0 → A1 → A2 → A3 → A4 → A5 → List Res) (I : A0 → A1 → A2 → A3 → A4 → A5 → Prop)
    (h : AW P n c env σ ds (AX.then (fun e s d => ∃ y0 y1 y2 y3 y4 y5, e = E y0 y1 y2 y3 y4 y5 ∧ s = T y0 y1 y2 y3 y4 y5 ∧ d = ds ∧ I y0 y1 y2 y3 y4 y5) Q)) (hq : ∀ x0 x1 x2 x3 x4 x5, I x0 x1 x2 x3 x4 x5 → Q .normal (E x0 x1 x2 x3 x4 x5) (T x0 x1 x2 x3 x4 x5) ds) : AW P n c env σ ds Q := by
  refine h.mono fun x e s d hx => ?_
  cases x with
  | normal => obtain ⟨y0, y1, y2, y3, y4, y5, rfl, rfl, rfl, hI⟩ := hx; exact hq _ _ _ _ _ _ hI
  | exit id => exact hx
  | ret => exact hx
  | panic p => exact hx
theorem AW.loopF7 {A0 : Type} {A1 : Type} {A2 : Type} {A3 : Type} {A4 : Type} {A5 : Type} {A6 : Type} {c : Code} (E : A0 → A1 → A2 → A3 → A4 → A5 → A6 → Env) (T : A0 → A1 → A2 → A3 → A4 → A5 → A6 → List Res) (I : Nat → A0 → A1 → A2 → A3 → A4 → A5 → A6 → Prop) (k0 : Nat) (x0 : A0) (x1 : A1) (x2 : A2) (x3 : A3) (x4 : A4) (x5 : A5) (x6 : A6) (h0 : env = E x0 x1 x2 x3 x4 x5 x6) (h1 : σ = T x0 x1 x2 x3 x4 x5 x6) (h2 : I k0 x0 x1 x2 x3 x4 x5 x6)
    (z : ∀ x0 x1 x2 x3 x4 x5 x6, I 0 x0 x1 x2 x3 x4 x5 x6 → False)
    (round : ∀ k x0 x1 x2 x3 x4 x5 x6, I (k + 1) x0 x1 x2 x3 x4 x5 x6 → AW P n c (E x0 x1 x2 x3 x4 x5 x6) (T x0 x1 x2 x3 x4 x5 x6) ds (AX.then (fun e s d => ∃ y0 y1 y2 y3 y4 y5 y6, e = E y0 y1 y2 y3 y4 y5 y6 ∧ s = T y0 y1 y2 y3 y4 y5 y6 ∧ d = ds ∧ I k y0 y1 y2 y3 y4 y5 y6) Q)) : AW P n (.loop c) env σ ds Q := by
  refine AW.loop (α := Nat × (A0 × A1 × A2 × A3 × A4 × A5 × A6)) (fun q => E (q.2.1) (q.2.2.1) (q.2.2.2.1) (q.2.2.2.2.1) (q.2.2.2.2.2.1) (q.2.2.2.2.2.2.1) (q.2.2.2.2.2.2.2)) (fun q => T (q.2.1) (q.2.2.1) (q.2.2.2.1) (q.2.2.2.2.1) (q.2.2.2.2.2.1) (q.2.2.2.2.2.2.1) (q.2.2.2.2.2.2.2)) (fun q => I q.1 (q.2.1) (q.2.2.1) (q.2.2.2.1) (q.2.2.2.2.1) (q.2.2.2.2.2.1) (q.2.2.2.2.2.2.1) (q.2.2.2.2.2.2.2)) (fun q => q.1) (k0, (x0, x1, x2, x3, x4, x5, x6)) h0 h1 h2 ?_
  rintro ⟨k, q⟩ hI
  cases k with
  | zero => exact (z _ _ _ _ _ _ _ hI).elim
  | succ k =>
    refine (round k (q.1) (q.2.1) (q.2.2.1) (q.2.2.2.1) (q.2.2.2.2.1) (q.2.2.2.2.2.1) (q.2.2.2.2.2.2) hI).mono fun x e s d hx => ?_
    cases x with
    | normal => obtain ⟨y0, y1, y2, y3, y4, y5, y6, h3, h4, h5, h6⟩ := hx; exact ⟨(k, (y0, y1, y2, y3, y4, y5, y6)), h3, h4, h5, h6, Nat.lt_succ_self k⟩
    | exit id => exact hx
    | ret => exact hx
    | panic p => exact hx
theorem AW.cutF7 {A0 : Type} {A1 : Type} {A2 : Type} {A3 : Type} {A4 : Type} {A5 : Type} {A6 : Type} {c : Code} (E : A0 → A1 → A2 → A3 → A4 → A5 → A6 → Env) (T : A0 → A1 → A2 → A3 → A4 → A5 → A6 → List Res) (I : A0 → A1 → A2 → A3 → A4 → A5 → A6 → Prop)
    (h : AW P n c env σ ds (AX.then (fun e s d => ∃ y0 y1 y2 y3 y4 y5 y6, e = E y0 y1 y2 y3 y4 y5 y6 ∧ s = T y0 y1 y2 y3 y4 y5 y6 ∧ d = ds ∧ I y0 y1 y2 y3 y4 y5 y6) Q)) (hq : ∀ x0 x1 x2 x3 x4 x5 x6, I x0 x1 x2 x3 x4 x5 x6 → Q .normal (E x0 x1 x2 x3 x4 x5 x6) (T x0 x1 x2 x3 x4 x5 x6) ds) : AW P n c env σ ds Q := by
  refine h.mono fun x e s d hx => ?_
  cases x with
  | normal => obtain ⟨y0, y1, y2, y3, y4, y5, y6, rfl, rfl, rfl, hI⟩ := hx; exact hq _ _ _ _ _ _ _ hI
  | exit id => exact hx
  | ret => exact hx
  | panic p => exact hx
theorem AW.loopF8 {A0 : Type} {A1 : Type} {A2 : Type} {A3 : Type} {A4 : Type} {A5 : Type} {A6 : Type} {A7 : Type} {c : Code} (E : A0 → A1 → A2 → A3 → A4 → A5 → A6 → A7 → Env) (T : A0 → A1 → A2 → A3 → A4 → A5 → A6 → A7 → List Res) (I : Nat → A0 → A1 → A2 → A3 → A4 → A5 → A6 → A7 → Prop) (k0 : Nat) (x0 : A0) (x1 : A1) (x2 : A2) (x3 : A3) (x4 : A4) (x5 : A5) (x6 : A6) (x7 : A7) (h0 : env = E x0 x1 x2 x3 x4 x5 x6 x7) (h1 : σ = T x0 x1 x2 x3 x4 x5 x6 x7) (h2 : I k0 x0 x1 x2 x3 x4 x5 x6 x7)
    (z : ∀ x0 x1 x2 x3 x4 x5 x6 x7, I 0 x0 x1 x2 x3 x4 x5 x6 x7 → False)
    (round : ∀ k x0 x1 x2 x3 x4 x5 x6 x7, I (k + 1) x0 x1 x2 x3 x4 x5 x6 x7 → AW P n c (E x0 x1 x2 x3 x4 x5 x6 x7) (T x0 x1 x2 x3 x4 x5 x6 x7) ds (AX.then (fun e s d => ∃ y0 y1 y2 y3 y4 y5 y6 y7, e = E y0 y1 y2 y3 y4 y5 y6 y7 ∧ s = T y0 y1 y2 y3 y4 y5 y6 y7 ∧ d = ds ∧ I k y0 y1 y2 y3 y4 y5 y6 y7) Q)) : AW P n (.loop c) env σ ds Q := by
  refine AW.loop (α := Nat × (A0 × A1 × A2 × A3 × A4 × A5 × A6 × A7)) (fun q => E (q.2.1) (q.2.2.1) (q.2.2.2.1) (q.2.2.2.2.1) (q.2.2.2.2.2.1) (q.2.2.2.2.2.2.1) (q.2.2.2.2.2.2.2.1) (q.2.2.2.2.2.2.2.2)) (fun q => T (q.2.1) (q.2.2.1) (q.2.2.2.1) (q.2.2.2.2.1) (q.2.2.2.2.2.1) (q.2.2.2.2.2.2.1) (q.2.2.2.2.2.2.2.1) (q.2.2.2.2.2.2.2.2)) (fun q => I q.1 (q.2.1) (q.2.2.1) (q.2.2.2.1) (q.2.2.2.2.1) (q.2.2.2.2.2.1) (q.2.2.2.2.2.2.1) (q.2.2.2.2.2.2.2.1) (q.2.2.2.2.2.2.2.2)) (fun q => q.1) (k0, (x0, x1, x2, x3, x4, x5, x6, x7)) h0 h1 h2 ?_
  rintro ⟨k, q⟩ hI
  cases k with
  | zero => exact (z _ _ _ _ _ _ _ _ hI).elim
  | succ k =>
    refine (round k (q.1) (q.2.1) (q.2.2.1) (q.2.2.2.1) (q.2.2.2.2.1) (q.2.2.2.2.2.1) (q.2.2.2.2.2.2.1) (q.2.2.2.2.2.2.2) hI).mono fun x e s d hx => ?_
    cases x with
    | normal => obtain ⟨y0, y1, y2, y3, y4, y5, y6, y7, h3, h4, h5, h6⟩ := hx; exact ⟨(k, (y0, y1, y2, y3, y4, y5, y6, y7)), h3, h4, h5, h6, Nat.lt_succ_self k⟩
    | exit id => exact hx
    | ret => exact hx
    | panic p => exact hx
theorem AW.cutF8 {A0 : Type} {A1 : Type} {A2 : Type} {A3 : Type} {A4 : Type} {A5 : Type} {A6 : Type} {A7 : Type} {c : Code} (E : A0 → A1 → A2 → A3 → A4 → A5 → A6 → A7 → Env) (T : A0 → A1 → A2 → A3 → A4 → A5 → A6 → A7 → List Res) (I : A0 → A1 → A2 → A3 → A4 → A5 → A6 → A7 → Prop)
    (h : AW P n c env σ ds (AX.then (fun e s d => ∃ y0 y1 y2 y3 y4 y5 y6 y7, e = E y0 y1 y2 y3 y4 y5 y6 y7 ∧ s = T y0 y1 y2 y3 y4 y5 y6 y7 ∧ d = ds ∧ I y0 y1 y2 y3 y4 y5 y6 y7) Q)) (hq : ∀ x0 x1 x2 x3 x4 x5 x6 x7, I x0 x1 x2 x3 x4 x5 x6 x7 → Q .normal (E x0 x1 x2 x3 x4 x5 x6 x7) (T x0 x1 x2 x3 x4 x5 x6 x7) ds) : AW P n c env σ ds Q := by
  refine h.mono fun x e s d hx => ?_
  cases x with
  | normal => obtain ⟨y0, y1, y2, y3, y4, y5, y6, y7, rfl, rfl, rfl, hI⟩ := hx; exact hq _ _ _ _ _ _ _ _ hI
  | exit id => exact hx
  | ret => exact hx
  | panic p => exact hx
theorem AW.loopF9 {A0 : Type} {A1 : Type} {A2 : Type} {A3 : Type} {A4 : Type} {A5 : Type} {A6 : Type} {A7 : Type} {A8 : Type} {c : Code} (E : A0 → A1 → A2 → A3 → A4 → A5 → A6 → A7 → A8 → Env) (T : A0 → A1 → A2 → A3 → A4 → A5 → A6 → A7 → A8 → List Res) (I : Nat → A0 → A1 → A2 → A3 → A4 → A5 → A6 → A7 → A8 → Prop) (k0 : Nat) (x0 : A0) (x1 : A1) (x2 : A2) (x3 : A3) (x4 : A4) (x5 : A5) (x6 : A6) (x7 : A7) (x8 : A8) (h0 : env = E x0 x1 x2 x3 x4 x5 x6 x7 x8) (h1 : σ = T x0 x1 x2 x3 x4 x5 x6 x7 x8) (h2 : I k0 x0 x1 x2 x3 x4 x5 x6 x7 x8)
    (z : ∀ x0 x1 x2 x3 x4 x5 x6 x7 x8, I 0 x0 x1 x2 x3 x4 x5 x6 x7 x8 → False)
    (round : ∀ k x0 x1 x2 x3 x4 x5 x6 x7 x8, I (k + 1) x0 x1 x2 x3 x4 x5 x6 x7 x8 → AW P n c (E x0 x1 x2 x3 x4 x5 x6 x7 x8) (T x0 x1 x2 x3 x4 x5 x6 x7 x8) ds (AX.then (fun e s d => ∃ y0 y1 y2 y3 y4 y5 y6 y7 y8, e = E y0 y1 y2 y3 y4 y5 y6 y7 y8 ∧ s = T y0 y1 y2 y3 y4 y5 y6 y7 y8 ∧ d = ds ∧ I k y0 y1 y2 y3 y4 y5 y6 y7 y8) Q)) : AW P n (.loop c) env σ ds Q := by
  refine AW.loop (α := Nat × (A0 × A1 × A2 × A3 × A4 × A5 × A6 × A7 × A8)) (fun q => E (q.2.1) (q.2.2.1) (q.2.2.2.1) (q.2.2.2.2.1) (q.2.2.2.2.2.1) (q.2.2.2.2.2.2.1) (q.2.2.2.2.2.2.2.1) (q.2.2.2.2.2.2.2.2.1) (q.2.2.2.2.2.2.2.2.2)) (fun q => T (q.2.1) (q.2.2.1) (q.2.2.2.1) (q.2.2.2.2.1) (q.2.2.2.2.2.1) (q.2.2.2.2.2.2.1) (q.2.2.2.2.2.2.2.1) (q.2.2.2.2.2.2.2.2.1) (q.2.2.2.2.2.2.2.2.2)) (fun q => I q.1 (q.2.1) (q.2.2.1) (q.2.2.2.1) (q.2.2.2.2.1) (q.2.2.2.2.2.1) (q.2.2.2.2.2.2.1) (q.2.2.2.2.2.2.2.1) (q.2.2.2.2.2.2.2.2.1) (q.2.2.2.2.2.2.2.2.2)) (fun q => q.1) (k0, (x0, x1, x2, x3, x4, x5, x6, x7, x8)) h0 h1 h2 ?_
  rintro ⟨k, q⟩ hI
  cases k with
  | zero => exact (z _ _ _ _ _ _ _ _ _ hI).elim
  | succ k =>
    refine (round k (q.1) (q.2.1) (q.2.2.1) (q.2.2.2.1) (q.2.2.2.2.1) (q.2.2.2.2.2.1) (q.2.2.2.2.2.2.1) (q.2.2.2.2.2.2.2.1) (q.2.2.2.2.2.2.2.2) hI).mono fun x e s d hx => ?_
    cases x with
    | normal => obtain ⟨y0, y1, y2, y3, y4, y5, y6, y7, y8, h3, h4, h5, h6⟩ := hx; exact ⟨(k, (y0, y1, y2, y3, y4, y5, y6, y7, y8)), h3, h4, h5, h6, Nat.lt_succ_self k⟩
    | exit id => exact hx
    | ret => exact hx
    | panic p => exact hx
theorem AW.cutF9 {A0 : Type} {A1 : Type} {A2 : Type} {A3 : Type} {A4 : Type} {A5 : Type} {A6 : Type} {A7 : Type} {A8 : Type} {c : Code} (E : A0 → A1 → A2 → A3 → A4 → A5 → A6 → A7 → A8 → Env) (T : A0 → A1 → A2 → A3 → A4 → A5 → A6 → A7 → A8 → List Res) (I : A0 → A1 → A2 → A3 → A4 → A5 → A6 → A7 → A8 → Prop)
    (h : AW P n c env σ ds (AX.then (fun e s d => ∃ y0 y1 y2 y3 y4 y5 y6 y7 y8, e = E y0 y1 y2 y3 y4 y5 y6 y7 y8 ∧ s = T y0 y1 y2 y3 y4 y5 y6 y7 y8 ∧ d = ds ∧ I y0 y1 y2 y3 y4 y5 y6 y7 y8) Q)) (hq : ∀ x0 x1 x2 x3 x4 x5 x6 x7 x8, I x0 x1 x2 x3 x4 x5 x6 x7 x8 → Q .normal (E x0 x1 x2 x3 x4 x5 x6 x7 x8) (T x0 x1 x2 x3 x4 x5 x6 x7 x8) ds) : AW P n c env σ ds Q := by
  refine h.mono fun x e s d hx => ?_
  cases x with
  | normal => obtain ⟨y0, y1, y2, y3, y4, y5, y6, y7, y8, rfl, rfl, rfl, hI⟩ := hx; exact hq _ _ _ _ _ _ _ _ _ hI
  | exit id => exact hx
  | ret => exact hx
  | panic p => exact hx
theorem AW.loopF10 {A0 : Type} {A1 : Type} {A2 : Type} {A3 : Type} {A4 : Type} {A5 : Type} {A6 : Type} {A7 : Type} {A8 : Type} {A9 : Type} {c : Code} (E : A0 → A1 → A2 → A3 → A4 → A5 → A6 → A7 → A8 → A9 → Env) (T : A0 → A1 → A2 → A3 → A4 → A5 → A6 → A7 → A8 → A9 → List Res) (I : Nat → A0 → A1 → A2 → A3 → A4 → A5 → A6 → A7 → A8 → A9 → Prop) (k0 : Nat) (x0 : A0) (x1 : A1) (x2 : A2) (x3 : A3) (x4 : A4) (x5 : A5) (x6 : A6) (x7 : A7) (x8 : A8) (x9 : A9) (h0 : env = E x0 x1 x2 x3 x4 x5 x6 x7 x8 x9) (h1 : σ = T x0 x1 x2 x3 x4 x5 x6 x7 x8 x9) (h2 : I k0 x0 x1 x2 x3 x4 x5 x6 x7 x8 x9)
    (z : ∀ x0 x1 x2 x3 x4 x5 x6 x7 x8 x9, I 0 x0 x1 x2 x3 x4 x5 x6 x7 x8 x9 → False)
    (round : ∀ k x0 x1 x2 x3 x4 x5 x6 x7 x8 x9, I (k + 1) x0 x1 x2 x3 x4 x5 x6 x7 x8 x9 → AW P n c (E x0 x1 x2 x3 x4 x5 x6 x7 x8 x9) (T x0 x1 x2 x3 x4 x5 x6 x7 x8 x9) ds (AX.then (fun e s d => ∃ y0 y1 y2 y3 y4 y5 y6 y7 y8 y9, e = E y0 y1 y2 y3 y4 y5 y6 y7 y8 y9 ∧ s = T y0 y1 y2 y3 y4 y5 y6 y7 y8 y9 ∧ d = ds ∧ I k y0 y1 y2 y3 y4 y5 y6 y7 y8 y9) Q)) : AW P n (.loop c) env σ ds Q := by
  refine AW.loop (α := Nat × (A0 × A1 × A2 × A3 × A4 × A5 × A6 × A7 × A8 × A9)) (fun q => E (q.2.1) (q.2.2.1) (q.2.2.2.1) (q.2.2.2.2.1) (q.2.2.2.2.2.1) (q.2.2.2.2.2.2.1) (q.2.2.2.2.2.2.2.1) (q.2.2.2.2.2.2.2.2.1) (q.2.2.2.2.2.2.2.2.2.1) (q.2.2.2.2.2.2.2.2.2.2)) (fun q => T (q.2.1) (q.2.2.1) (q.2.2.2.1) (q.2.2.2.2.1) (q.2.2.2.2.2.1) (q.2.2.2.2.2.2.1) (q.2.2.2.2.2.2.2.1) (q.2.2.2.2.2.2.2.2.1) (q.2.2.2.2.2.2.2.2.2.1) (q.2.2.2.2.2.2.2.2.2.2)) (fun q => I q.1 (q.2.1) (q.2.2.1) (q.2.2.2.1) (q.2.2.2.2.1) (q.2.2.2.2.2.1) (q.2.2.2.2.2.2.1) (q.2.2.2.2.2.2.2.1) (q.2.2.2.2.2.2.2.2.1) (q.2.2.2.2.2.2.2.2.2.1) (q.2.2.2.2.2.2.2.2.2.2)) (fun q => q.1) (k0, (x0, x1, x2, x3, x4, x5, x6, x7, x8, x9)) h0 h1 h2 ?_
  rintro ⟨k, q⟩ hI
  cases k with
  | zero => exact (z _ _ _ _ _ _ _ _ _ _ hI).elim
  | succ k =>
    refine (round k (q.1) (q.2.1) (q.2.2.1) (q.2.2.2.1) (q.2.2.2.2.1) (q.2.2.2.2.2.1) (q.2.2.2.2.2.2.1) (q.2.2.2.2.2.2.2.1) (q.2.2.2.2.2.2.2.2.1) (q.2.2.2.2.2.2.2.2.2) hI).mono fun x e s d hx => ?_
    cases x with
    | normal => obtain ⟨y0, y1, y2, y3, y4, y5, y6, y7, y8, y9, h3, h4, h5, h6⟩ := hx; exact ⟨(k, (y0, y1, y2, y3, y4, y5, y6, y7, y8, y9)), h3, h4, h5, h6, Nat.lt_succ_self k⟩
    | exit id => exact hx
    | ret => exact hx
    | panic p => exact hx
theorem AW.cutF10 {A0 : Type} {A1 : Type} {A2 : Type} {A3 : Type} {A4 : Type} {A5 : Type} {A6 : Type} {A7 : Type} {A8 : Type} {A9 : Type} {c : Code} (E : A0 → A1 → A2 → A3 → A4 → A5 → A6 → A7 → A8 → A9 → Env) (T : A0 → A1 → A2 → A3 → A4 → A5 → A6 → A7 → A8 → A9 → List Res) (I : A0 → A1 → A2 → A3 → A4 → A5 → A6 → A7 → A8 → A9 → Prop)
    (h : AW P n c env σ ds (AX.then (fun e s d => ∃ y0 y1 y2 y3 y4 y5 y6 y7 y8 y9, e = E y0 y1 y2 y3 y4 y5 y6 y7 y8 y9 ∧ s = T y0 y1 y2 y3 y4 y5 y6 y7 y8 y9 ∧ d = ds ∧ I y0 y1 y2 y3 y4 y5 y6 y7 y8 y9) Q)) (hq : ∀ x0 x1 x2 x3 x4 x5 x6 x7 x8 x9, I x0 x1 x2 x3 x4 x5 x6 x7 x8 x9 → Q .normal (E x0 x1 x2 x3 x4 x5 x6 x7 x8 x9) (T x0 x1 x2 x3 x4 x5 x6 x7 x8 x9) ds) : AW P n c env σ ds Q := by
  refine h.mono fun x e s d hx => ?_
  cases x with
  | normal => obtain ⟨y0, y1, y2, y3, y4, y5, y6, y7, y8, y9, rfl, rfl, rfl, hI⟩ := hx; exact hq _ _ _ _ _ _ _ _ _ _ hI
  | exit id => exact hx
  | ret => exact hx
  | panic p => exact hx
theorem AW.loopF11 {A0 : Type} {A1 : Type} {A2 : Type} {A3 : Type} {A4 : Type} {A5 : Type} {A6 : Type} {A7 : Type} {A8 : Type} {A9 : Type} {A10 : Type} {c : Code} (E : A0 → A1 → A2 → A3 → A4 → A5 → A6 → A7 → A8 → A9 → A10 → Env) (T : A0 → A1 → A2 → A3 → A4 → A5 → A6 → A7 → A8 → A9 → A10 → List Res) (I : Nat → A0 → A1 → A2 → A3 → A4 → A5 → A6 → A7 → A8 → A9 → A10 → Prop) (k0 : Nat) (x0 : A0) (x1 : A1) (x2 : A2) (x3 : A3) (x4 : A4) (x5 : A5) (x6 : A6) (x7 : A7) (x8 : A8) (x9 : A9) (x10 : A10) (h0 : env = E x0 x1 x2 x3 x4 x5 x6 x7 x8 x9 x10) (h1 : σ = T x0 x1 x2 x3 x4 x5 x6 x7 x8 x9 x10) (h2 : I k0 x0 x1 x2 x3 x4 x5 x6 x7 x8 x9 x10)
    (z : ∀ x0 x1 x2 x3 x4 x5 x6 x7 x8 x9 x10, I 0 x0 x1 x2 x3 x4 x5 x6 x7 x8 x9 x10 → False)
    (round : ∀ k x0 x1 x2 x3 x4 x5 x6 x7 x8 x9 x10, I (k + 1) x0 x1 x2 x3 x4 x5 x6 x7 x8 x9 x10 → AW P n c (E x0 x1 x2 x3 x4 x5 x6 x7 x8 x9 x10) (T x0 x1 x2 x3 x4 x5 x6 x7 x8 x9 x10) ds (AX.then (fun e s d => ∃ y0 y1 y2 y3 y4 y5 y6 y7 y8 y9 y10, e = E y0 y1 y2 y3 y4 y5 y6 y7 y8 y9 y10 ∧ s = T y0 y1 y2 y3 y4 y5 y6 y7 y8 y9 y10 ∧ d = ds ∧ I k y0 y1 y2 y3 y4 y5 y6 y7 y8 y9 y10) Q)) : AW P n (.loop c) env σ ds Q := by
  refine AW.loop (α := Nat × (A0 × A1 × A2 × A3 × A4 × A5 × A6 × A7 × A8 × A9 × A10)) (fun q => E (q.2.1) (q.2.2.1) (q.2.2.2.1) (q.2.2.2.2.1) (q.2.2.2.2.2.1) (q.2.2.2.2.2.2.1) (q.2.2.2.2.2.2.2.1) (q.2.2.2.2.2.2.2.2.1) (q.2.2.2.2.2.2.2.2.2.1) (q.2.2.2.2.2.2.2.2.2.2.1) (q.2.2.2.2.2.2.2.2.2.2.2)) (fun q => T (q.2.1) (q.2.2.1) (q.2.2.2.1) (q.2.2.2.2.1) (q.2.2.2.2.2.1) (q.2.2.2.2.2.2.1) (q.2.2.2.2.2.2.2.1) (q.2.2.2.2.2.2.2.2.1) (q.2.2.2.2.2.2.2.2.2.1) (q.2.2.2.2.2.2.2.2.2.2.1) (q.2.2.2.2.2.2.2.2.2.2.2)) (fun q => I q.1 (q.2.1) (q.2.2.1) (q.2.2.2.1) (q.2.2.2.2.1) (q.2.2.2.2.2.1) (q.2.2.2.2.2.2.1) (q.2.2.2.2.2.2.2.1) (q.2.2.2.2.2.2.2.2.1) (q.2.2.2.2.2.2.2.2.2.1) (q.2.2.2.2.2.2.2.2.2.2.1) (q.2.2.2.2.2.2.2.2.2.2.2)) (fun q => q.1) (k0, (x0, x1, x2, x3, x4, x5, x6, x7, x8, x9, x10)) h0 h1 h2 ?_
  rintro ⟨k, q⟩ hI
  cases k with
  | zero => exact (z _ _ _ _ _ _ _ _ _ _ _ hI).elim
  | succ k =>
    refine (round k (q.1) (q.2.1) (q.2.2.1) (q.2.2.2.1) (q.2.2.2.2.1) (q.2.2.2.2.2.1) (q.2.2.2.2.2.2.1) (q.2.2.2.2.2.2.2.1) (q.2.2.2.2.2.2.2.2.1) (q.2.2.2.2.2.2.2.2.2.1) (q.2.2.2.2.2.2.2.2.2.2) hI).mono fun x e s d hx => ?_
    cases x with
    | normal => obtain ⟨y0, y1, y2, y3, y4, y5, y6, y7, y8, y9, y10, h3, h4, h5, h6⟩ := hx; exact ⟨(k, (y0, y1, y2, y3, y4, y5, y6, y7, y8, y9, y10)), h3, h4, h5, h6, Nat.lt_succ_self k⟩
    | exit id => exact hx
    | ret => exact hx
    | panic p => exact hx
theorem AW.cutF11 {A0 : Type} {A1 : Type} {A2 : Type} {A3 : Type} {A4 : Type} {A5 : Type} {A6 : Type} {A7 : Type} {A8 : Type} {A9 : Type} {A10 : Type} {c : Code} (E : A0 → A1 → A2 → A3 → A4 → A5 → A6 → A7 → A8 → A9 → A10 → Env) (T : A0 → A1 → A2 → A3 → A4 → A5 → A6 → A7 → A8 → A9 → A10 → List Res) (I : A0 → A1 → A2 → A3 → A4 → A5 → A6 → A7 → A8 → A9 → A10 → Prop)
    (h : AW P n c env σ ds (AX.then (fun e s d => ∃ y0 y1 y2 y3 y4 y5 y6 y7 y8 y9 y10, e = E y0 y1 y2 y3 y4 y5 y6 y7 y8 y9 y10 ∧ s = T y0 y1 y2 y3 y4 y5 y6 y7 y8 y9 y10 ∧ d = ds ∧ I y0 y1 y2 y3 y4 y5 y6 y7 y8 y9 y10) Q)) (hq : ∀ x0 x1 x2 x3 x4 x5 x6 x7 x8 x9 x10, I x0 x1 x2 x3 x4 x5 x6 x7 x8 x9 x10 → Q .normal (E x0 x1 x2 x3 x4 x5 x6 x7 x8 x9 x10) (T x0 x1 x2 x3 x4 x5 x6 x7 x8 x9 x10) ds) : AW P n c env σ ds Q := by
  refine h.mono fun x e s d hx => ?_
  cases x with
  | normal => obtain ⟨y0, y1, y2, y3, y4, y5, y6, y7, y8, y9, y10, rfl, rfl, rfl, hI⟩ := hx; exact hq _ _ _ _ _ _ _ _ _ _ _ hI
  | exit id => exact hx
  | ret => exact hx
  | panic p => exact hx
theorem AW.loopF12 {A0 : Type} {A1 : Type} {A2 : Type} {A3 : Type} {A4 : Type} {A5 : Type} {A6 : Type} {A7 : Type} {A8 : Type} {A9 : Type} {A10 : Type} {A11 : Type} {c : Code} (E : A0 → A1 → A2 → A3 → A4 → A5 → A6 → A7 → A8 → A9 → A10 → A11 → Env) (T : A0 → A1 → A2 → A3 → A4 → A5 → A6 → A7 → A8 → A9 → A10 → A11 → List Res) (I : Nat → A0 → A1 → A2 → A3 → A4 → A5 → A6 → A7 → A8 → A9 → A10 → A11 → Prop) (k0 : Nat) (x0 : A0) (x1 : A1) (x2 : A2) (x3 : A3) (x4 : A4) (x5 : A5) (x6 : A6) (x7 : A7) (x8 : A8) (x9 : A9) (x10 : A10) (x11 : A11) (h0 : env = E x0 x1 x2 x3 x4 x5 x6 x7 x8 x9 x10 x11) (h1 : σ = T x0 x1 x2 x3 x4 x5 x6 x7 x8 x9 x10 x11) (h2 : I k0 x0 x1 x2 x3 x4 x5 x6 x7 x8 x9 x10 x11)
    (z : ∀ x0 x1 x2 x3 x4 x5 x6 x7 x8 x9 x10 x11, I 0 x0 x1 x2 x3 x4 x5 x6 x7 x8 x9 x10 x11 → False)
    (round : ∀ k x0 x1 x2 x3 x4 x5 x6 x7 x8 x9 x10 x11, I (k + 1) x0 x1 x2 x3 x4 x5 x6 x7 x8 x9 x10 x11 → AW P n c (E x0 x1 x2 x3 x4 x5 x6 x7 x8 x9 x10 x11) (T x0 x1 x2 x3 x4 x5 x6 x7 x8 x9 x10 x11) ds (AX.then (fun e s d => ∃ y0 y1 y2 y3 y4 y5 y6 y7 y8 y9 y10 y11, e = E y0 y1 y2 y3 y4 y5 y6 y7 y8 y9 y10 y11 ∧ s = T y0 y1 y2 y3 y4 y5 y6 y7 y8 y9 y10 y11 ∧ d = ds ∧ I k y0 y1 y2 y3 y4 y5 y6 y7 y8 y9 y10 y11) Q)) : AW P n (.loop c) env σ ds Q := by
  refine AW.loop (α := Nat × (A0 × A1 × A2 × A3 × A4 × A5 × A6 × A7 × A8 × A9 × A10 × A11)) (fun q => E (q.2.1) (q.2.2.1) (q.2.2.2.1) (q.2.2.2.2.1) (q.2.2.2.2.2.1) (q.2.2.2.2.2.2.1) (q.2.2.2.2.2.2.2.1) (q.2.2.2.2.2.2.2.2.1) (q.2.2.2.2.2.2.2.2.2.1) (q.2.2.2.2.2.2.2.2.2.2.1) (q.2.2.2.2.2.2.2.2.2.2.2.1) (q.2.2.2.2.2.2.2.2.2.2.2.2)) (fun q => T (q.2.1) (q.2.2.1) (q.2.2.2.1) (q.2.2.2.2.1) (q.2.2.2.2.2.1) (q.2.2.2.2.2.2.1) (q.2.2.2.2.2.2.2.1) (q.2.2.2.2.2.2.2.2.1) (q.2.2.2.2.2.2.2.2.2.1) (q.2.2.2.2.2.2.2.2.2.2.1) (q.2.2.2.2.2.2.2.2.2.2.2.1) (q.2.2.2.2.2.2.2.2.2.2.2.2)) (fun q => I q.1 (q.2.1) (q.2.2.1) (q.2.2.2.1) (q.2.2.2.2.1) (q.2.2.2.2.2.1) (q.2.2.2.2.2.2.1) (q.2.2.2.2.2.2.2.1) (q.2.2.2.2.2.2.2.2.1) (q.2.2.2.2.2.2.2.2.2.1) (q.2.2.2.2.2.2.2.2.2.2.1) (q.2.2.2.2.2.2.2.2.2.2.2.1) (q.2.2.2.2.2.2.2.2.2.2.2.2)) (fun q => q.1) (k0, (x0, x1, x2, x3, x4, x5, x6, x7, x8, x9, x10, x11)) h0 h1 h2 ?_
  rintro ⟨k, q⟩ hI
  cases k with
  | zero => exact (z _ _ _ _ _ _ _ _ _ _ _ _ hI).elim
  | succ k =>
    refine (round k (q.1) (q.2.1) (q.2.2.1) (q.2.2.2.1) (q.2.2.2.2.1) (q.2.2.2.2.2.1) (q.2.2.2.2.2.2.1) (q.2.2.2.2.2.2.2.1) (q.2.2.2.2.2.2.2.2.1) (q.2.2.2.2.2.2.2.2.2.1) (q.2.2.2.2.2.2.2.2.2.2.1) (q.2.2.2.2.2.2.2.2.2.2.2) hI).mono fun x e s d hx => ?_
    cases x with
    | normal => obtain ⟨y0, y1, y2, y3, y4, y5, y6, y7, y8, y9, y10, y11, h3, h4, h5, h6⟩ := hx; exact ⟨(k, (y0, y1, y2, y3, y4, y5, y6, y7, y8, y9, y10, y11)), h3, h4, h5, h6, Nat.lt_succ_self k⟩
    | exit id => exact hx
    | ret => exact hx
    | panic p => exact hx
theorem AW.cutF12 {A0 : Type} {A1 : Type} {A2 : Type} {A3 : Type} {A4 : Type} {A5 : Type} {A6 : Type} {A7 : Type} {A8 : Type} {A9 : Type} {A10 : Type} {A11 : Type} {c : Code} (E : A0 → A1 → A2 → A3 → A4 → A5 → A6 → A7 → A8 → A9 → A10 → A11 → Env) (T : A0 → A1 → A2 → A3 → A4 → A5 → A6 → A7 → A8 → A9 → A10 → A11 → List Res) (I : A0 → A1 → A2 → A3 → A4 → A5 → A6 → A7 → A8 → A9 → A10 → A11 → Prop)
    (h : AW P n c env σ ds (AX.then (fun e s d => ∃ y0 y1 y2 y3 y4 y5 y6 y7 y8 y9 y10 y11, e = E y0 y1 y2 y3 y4 y5 y6 y7 y8 y9 y10 y11 ∧ s = T y0 y1 y2 y3 y4 y5 y6 y7 y8 y9 y10 y11 ∧ d = ds ∧ I y0 y1 y2 y3 y4 y5 y6 y7 y8 y9 y10 y11) Q)) (hq : ∀ x0 x1 x2 x3 x4 x5 x6 x7 x8 x9 x10 x11, I x0 x1 x2 x3 x4 x5 x6 x7 x8 x9 x10 x11 → Q .normal (E x0 x1 x2 x3 x4 x5 x6 x7 x8 x9 x10 x11) (T x0 x1 x2 x3 x4 x5 x6 x7 x8 x9 x10 x11) ds) : AW P n c env σ ds Q := by
  refine h.mono fun x e s d hx => ?_
  cases x with
  | normal => obtain ⟨y0, y1, y2, y3, y4, y5, y6, y7, y8, y9, y10, y11, rfl, rfl, rfl, hI⟩ := hx; exact hq _ _ _ _ _ _ _ _ _ _ _ _ hI
  | exit id => exact hx
  | ret => exact hx
  | panic p => exact hx
theorem AW.loopF13 {A0 : Type} {A1 : Type} {A2 : Type} {A3 : Type} {A4 : Type} {A5 : Type} {A6 : Type} {A7 : Type} {A8 : Type} {A9 : Type} {A10 : Type} {A11 : Type} {A12 : Type} {c : Code} (E : A0 → A1 → A2 → A3 → A4 → A5 → A6 → A7 → A8 → A9 → A10 → A11 → A12 → Env) (T : A0 → A1 → A2 → A3 → A4 → A5 → A6 → A7 → A8 → A9 → A10 → A11 → A12 → List Res) (I : Nat → A0 → A1 → A2 → A3 → A4 → A5 → A6 → A7 → A8 → A9 → A10 → A11 → A12 → Prop) (k0 : Nat) (x0 : A0) (x1 : A1) (x2 : A2) (x3 : A3) (x4 : A4) (x5 : A5) (x6 : A6) (x7 : A7) (x8 : A8) (x9 : A9) (x10 : A10) (x11 : A11) (x12 : A12) (h0 : env = E x0 x1 x2 x3 x4 x5 x6 x7 x8 x9 x10 x11 x12) (h1 : σ = T x0 x1 x2 x3 x4 x5 x6 x7 x8 x9 x10 x11 x12) (h2 : I k0 x0 x1 x2 x3 x4 x5 x6 x7 x8 x9 x10 x11 x12)
    (z : ∀ x0 x1 x2 x3 x4 x5 x6 x7 x8 x9 x10 x11 x12, I 0 x0 x1 x2 x3 x4 x5 x6 x7 x8 x9 x10 x11 x12 → False)
    (round : ∀ k x0 x1 x2 x3 x4 x5 x6 x7 x8 x9 x10 x11 x12, I (k + 1) x0 x1 x2 x3 x4 x5 x6 x7 x8 x9 x10 x11 x12 → AW P n c (E x0 x1 x2 x3 x4 x5 x6 x7 x8 x9 x10 x11 x12) (T x0 x1 x2 x3 x4 x5 x6 x7 x8 x9 x10 x11 x12) ds (AX.then (fun e s d => ∃ y0 y1 y2 y3 y4 y5 y6 y7 y8 y9 y10 y11 y12, e = E y0 y1 y2 y3 y4 y5 y6 y7 y8 y9 y10 y11 y12 ∧ s = T y0 y1 y2 y3 y4 y5 y6 y7 y8 y9 y10 y11 y12 ∧ d = ds ∧ I k y0 y1 y2 y3 y4 y5 y6 y7 y8 y9 y10 y11 y12) Q)) : AW P n (.loop c) env σ ds Q := by
  refine AW.loop (α := Nat × (A0 × A1 × A2 × A3 × A4 × A5 × A6 × A7 × A8 × A9 × A10 × A11 × A12)) (fun q => E (q.2.1) (q.2.2.1) (q.2.2.2.1) (q.2.2.2.2.1) (q.2.2.2.2.2.1) (q.2.2.2.2.2.2.1) (q.2.2.2.2.2.2.2.1) (q.2.2.2.2.2.2.2.2.1) (q.2.2.2.2.2.2.2.2.2.1) (q.2.2.2.2.2.2.2.2.2.2.1) (q.2.2.2.2.2.2.2.2.2.2.2.1) (q.2.2.2.2.2.2.2.2.2.2.2.2.1) (q.2.2.2.2.2.2.2.2.2.2.2.2.2)) (fun q => T (q.2.1) (q.2.2.1) (q.2.2.2.1) (q.2.2.2.2.1) (q.2.2.2.2.2.1) (q.2.2.2.2.2.2.1) (q.2.2.2.2.2.2.2.1) (q.2.2.2.2.2.2.2.2.1) (q.2.2.2.2.2.2.2.2.2.1) (q.2.2.2.2.2.2.2.2.2.2.1) (q.2.2.2.2.2.2.2.2.2.2.2.1) (q.2.2.2.2.2.2.2.2.2.2.2.2.1) (q.2.2.2.2.2.2.2.2.2.2.2.2.2)) (fun q => I q.1 (q.2.1) (q.2.2.1) (q.2.2.2.1) (q.2.2.2.2.1) (q.2.2.2.2.2.1) (q.2.2.2.2.2.2.1) (q.2.2.2.2.2.2.2.1) (q.2.2.2.2.2.2.2.2.1) (q.2.2.2.2.2.2.2.2.2.1) (q.2.2.2.2.2.2.2.2.2.2.1) (q.2.2.2.2.2.2.2.2.2.2.2.1) (q.2.2.2.2.2.2.2.2.2.2.2.2.1) (q.2.2.2.2.2.2.2.2.2.2.2.2.2)) (fun q => q.1) (k0, (x0, x1, x2, x3, x4, x5, x6, x7, x8, x9, x10, x11, x12)) h0 h1 h2 ?_
  rintro ⟨k, q⟩ hI
  cases k with
  | zero => exact (z _ _ _ _ _ _ _ _ _ _ _ _ _ hI).elim
  | succ k =>
    refine (round k (q.1) (q.2.1) (q.2.2.1) (q.2.2.2.1) (q.2.2.2.2.1) (q.2.2.2.2.2.1) (q.2.2.2.2.2.2.1) (q.2.2.2.2.2.2.2.1) (q.2.2.2.2.2.2.2.2.1) (q.2.2.2.2.2.2.2.2.2.1) (q.2.2.2.2.2.2.2.2.2.2.1) (q.2.2.2.2.2.2.2.2.2.2.2.1) (q.2.2.2.2.2.2.2.2.2.2.2.2) hI).mono fun x e s d hx => ?_
    cases x with
    | normal => obtain ⟨y0, y1, y2, y3, y4, y5, y6, y7, y8, y9, y10, y11, y12, h3, h4, h5, h6⟩ := hx; exact ⟨(k, (y0, y1, y2, y3, y4, y5, y6, y7, y8, y9, y10, y11, y12)), h3, h4, h5, h6, Nat.lt_succ_self k⟩
    | exit id => exact hx
    | ret => exact hx
    | panic p => exact hx
theorem AW.cutF13 {A0 : Type} {A1 : Type} {A2 : Type} {A3 : Type} {A4 : Type} {A5 : Type} {A6 : Type} {A7 : Type} {A8 : Type} {A9 : Type} {A10 : Type} {A11 : Type} {A12 : Type} {c : Code} (E : A0 → A1 → A2 → A3 → A4 → A5 → A6 → A7 → A8 → A9 → A10 → A11 → A12 → Env) (T : A0 → A1 → A2 → A3 → A4 → A5 → A6 → A7 → A8 → A9 → A10 → A11 → A12 → List Res) (I : A0 → A1 → A2 → A3 → A4 → A5 → A6 → A7 → A8 → A9 → A10 → A11 → A12 → Prop)
    (h : AW P n c env σ ds (AX.then (fun e s d => ∃ y0 y1 y2 y3 y4 y5 y6 y7 y8 y9 y10 y11 y12, e = E y0 y1 y2 y3 y4 y5 y6 y7 y8 y9 y10 y11 y12 ∧ s = T y0 y1 y2 y3 y4 y5 y6 y7 y8 y9 y10 y11 y12 ∧ d = ds ∧ I y0 y1 y2 y3 y4 y5 y6 y7 y8 y9 y10 y11 y12) Q)) (hq : ∀ x0 x1 x2 x3 x4 x5 x6 x7 x8 x9 x10 x11 x12, I x0 x1 x2 x3 x4 x5 x6 x7 x8 x9 x10 x11 x12 → Q .normal (E x0 x1 x2 x3 x4 x5 x6 x7 x8 x9 x10 x11 x12) (T x0 x1 x2 x3 x4 x5 x6 x7 x8 x9 x10 x11 x12) ds) : AW P n c env σ ds Q := by
  refine h.mono fun x e s d hx => ?_
  cases x with
  | normal => obtain ⟨y0, y1, y2, y3, y4, y5, y6, y7, y8, y9, y10, y11, y12, rfl, rfl, rfl, hI⟩ := hx; exact hq _ _ _ _ _ _ _ _ _ _ _ _ _ hI
  | exit id => exact hx
  | ret => exact hx
  | panic p => exact hx
theorem AW.loopF14 {A0 : Type} {A1 : Type} {A2 : Type} {A3 : Type} {A4 : Type} {A5 : Type} {A6 : Type} {A7 : Type} {A8 : Type} {A9 : Type} {A10 : Type} {A11 : Type} {A12 : Type} {A13 : Type} {c : Code} (E : A0 → A1 → A2 → A3 → A4 → A5 → A6 → A7 → A8 → A9 → A10 → A11 → A12 → A13 → Env) (T : A0 → A1 → A2 → A3 → A4 → A5 → A6 → A7 → A8 → A9 → A10 → A11 → A12 → A13 → List Res) (I : Nat → A0 → A1 → A2 → A3 → A4 → A5 → A6 → A7 → A8 → A9 → A10 → A11 → A12 → A13 → Prop) (k0 : Nat) (x0 : A0) (x1 : A1) (x2 : A2) (x3 : A3) (x4 : A4) (x5 : A5) (x6 : A6) (x7 : A7) (x8 : A8) (x9 : A9) (x10 : A10) (x11 : A11) (x12 : A12) (x13 : A13) (h0 : env = E x0 x1 x2 x3 x4 x5 x6 x7 x8 x9 x10 x11 x12 x13) (h1 : σ = T x0 x1 x2 x3 x4 x5 x6 x7 x8 x9 x10 x11 x12 x13) (h2 : I k0 x0 x1 x2 x3 x4 x5 x6 x7 x8 x9 x10 x11 x12 x13)
    (z : ∀ x0 x1 x2 x3 x4 x5 x6 x7 x8 x9 x10 x11 x12 x13, I 0 x0 x1 x2 x3 x4 x5 x6 x7 x8 x9 x10 x11 x12 x13 → False)
    (round : ∀ k x0 x1 x2 x3 x4 x5 x6 x7 x8 x9 x10 x11 x12 x13, I (k + 1) x0 x1 x2 x3 x4 x5 x6 x7 x8 x9 x10 x11 x12 x13 → AW P n c (E x0 x1 x2 x3 x4 x5 x6 x7 x8 x9 x10 x11 x12 x13) (T x0 x1 x2 x3 x4 x5 x6 x7 x8 x9 x10 x11 x12 x13) ds (AX.then (fun e s d => ∃ y0 y1 y2 y3 y4 y5 y6 y7 y8 y9 y10 y11 y12 y13, e = E y0 y1 y2 y3 y4 y5 y6 y7 y8 y9 y10 y11 y12 y13 ∧ s = T y0 y1 y2 y3 y4 y5 y6 y7 y8 y9 y10 y11 y12 y13 ∧ d = ds ∧ I k y0 y1 y2 y3 y4 y5 y6 y7 y8 y9 y10 y11 y12 y13) Q)) : AW P n (.loop c) env σ ds Q := by
  refine AW.loop (α := Nat × (A0 × A1 × A2 × A3 × A4 × A5 × A6 × A7 × A8 × A9 × A10 × A11 × A12 × A13)) (fun q => E (q.2.1) (q.2.2.1) (q.2.2.2.1) (q.2.2.2.2.1) (q.2.2.2.2.2.1) (q.2.2.2.2.2.2.1) (q.2.2.2.2.2.2.2.1) (q.2.2.2.2.2.2.2.2.1) (q.2.2.2.2.2.2.2.2.2.1) (q.2.2.2.2.2.2.2.2.2.2.1) (q.2.2.2.2.2.2.2.2.2.2.2.1) (q.2.2.2.2.2.2.2.2.2.2.2.2.1) (q.2.2.2.2.2.2.2.2.2.2.2.2.2.1) (q.2.2.2.2.2.2.2.2.2.2.2.2.2.2)) (fun q => T (q.2.1) (q.2.2.1) (q.2.2.2.1) (q.2.2.2.2.1) (q.2.2.2.2.2.1) (q.2.2.2.2.2.2.1) (q.2.2.2.2.2.2.2.1) (q.2.2.2.2.2.2.2.2.1) (q.2.2.2.2.2.2.2.2.2.1) (q.2.2.2.2.2.2.2.2.2.2.1) (q.2.2.2.2.2.2.2.2.2.2.2.1) (q.2.2.2.2.2.2.2.2.2.2.2.2.1) (q.2.2.2.2.2.2.2.2.2.2.2.2.2.1) (q.2.2.2.2.2.2.2.2.2.2.2.2.2.2)) (fun q => I q.1 (q.2.1) (q.2.2.1) (q.2.2.2.1) (q.2.2.2.2.1) (q.2.2.2.2.2.1) (q.2.2.2.2.2.2.1) (q.2.2.2.2.2.2.2.1) (q.2.2.2.2.2.2.2.2.1) (q.2.2.2.2.2.2.2.2.2.1) (q.2.2.2.2.2.2.2.2.2.2.1) (q.2.2.2.2.2.2.2.2.2.2.2.1) (q.2.2.2.2.2.2.2.2.2.2.2.2.1) (q.2.2.2.2.2.2.2.2.2.2.2.2.2.1) (q.2.2.2.2.2.2.2.2.2.2.2.2.2.2)) (fun q => q.1) (k0, (x0, x1, x2, x3, x4, x5, x6, x7, x8, x9, x10, x11, x12, x13)) h0 h1 h2 ?_
  rintro ⟨k, q⟩ hI
  cases k with
  | zero => exact (z _ _ _ _ _ _ _ _ _ _ _ _ _ _ hI).elim
  | succ k =>
    refine (round k (q.1) (q.2.1) (q.2.2.1) (q.2.2.2.1) (q.2.2.2.2.1) (q.2.2.2.2.2.1) (q.2.2.2.2.2.2.1) (q.2.2.2.2.2.2.2.1) (q.2.2.2.2.2.2.2.2.1) (q.2.2.2.2.2.2.2.2.2.1) (q.2.2.2.2.2.2.2.2.2.2.1) (q.2.2.2.2.2.2.2.2.2.2.2.1) (q.2.2.2.2.2.2.2.2.2.2.2.2.1) (q.2.2.2.2.2.2.2.2.2.2.2.2.2) hI).mono fun x e s d hx => ?_
    cases x with
    | normal => obtain ⟨y0, y1, y2, y3, y4, y5, y6, y7, y8, y9, y10, y11, y12, y13, h3, h4, h5, h6⟩ := hx; exact ⟨(k, (y0, y1, y2, y3, y4, y5, y6, y7, y8, y9, y10, y11, y12, y13)), h3, h4, h5, h6, Nat.lt_succ_self k⟩
    | exit id => exact hx
    | ret => exact hx
    | panic p => exact hx
theorem AW.cutF14 {A0 : Type} {A1 : Type} {A2 : Type} {A3 : Type} {A4 : Type} {A5 : Type} {A6 : Type} {A7 : Type} {A8 : Type} {A9 : Type} {A10 : Type} {A11 : Type} {A12 : Type} {A13 : Type} {c : Code} (E : A0 → A1 → A2 → A3 → A4 → A5 → A6 → A7 → A8 → A9 → A10 → A11 → A12 → A13 → Env) (T : A0 → A1 → A2 → A3 → A4 → A5 → A6 → A7 → A8 → A9 → A10 → A11 → A12 → A13 → List Res) (I : A0 → A1 → A2 → A3 → A4 → A5 → A6 → A7 → A8 → A9 → A10 → A11 → A12 → A13 → Prop)
    (h : AW P n c env σ ds (AX.then (fun e s d => ∃ y0 y1 y2 y3 y4 y5 y6 y7 y8 y9 y10 y11 y12 y13, e = E y0 y1 y2 y3 y4 y5 y6 y7 y8 y9 y10 y11 y12 y13 ∧ s = T y0 y1 y2 y3 y4 y5 y6 y7 y8 y9 y10 y11 y12 y13 ∧ d = ds ∧ I y0 y1 y2 y3 y4 y5 y6 y7 y8 y9 y10 y11 y12 y13) Q)) (hq : ∀ x0 x1 x2 x3 x4 x5 x6 x7 x8 x9 x10 x11 x12 x13, I x0 x1 x2 x3 x4 x5 x6 x7 x8 x9 x10 x11 x12 x13 → Q .normal (E x0 x1 x2 x3 x4 x5 x6 x7 x8 x9 x10 x11 x12 x13) (T x0 x1 x2 x3 x4 x5 x6 x7 x8 x9 x10 x11 x12 x13) ds) : AW P n c env σ ds Q := by
  refine h.mono fun x e s d hx => ?_
  cases x with
  | normal => obtain ⟨y0, y1, y2, y3, y4, y5, y6, y7, y8, y9, y10, y11, y12, y13, rfl, rfl, rfl, hI⟩ := hx; exact hq _ _ _ _ _ _ _ _ _ _ _ _ _ _ hI
  | exit id => exact hx
  | ret => exact hx
  | panic p => exact hx
end
end Go.Abs

namespace Go.Abs
open Go Go.Ft

section
variable {P : Program} {o : Oper} {ρ : Operand → PV} {σ : List Res} {R S : PV → List Res → Prop}

/-- a new block whose content is known -/
theorem alloc_obj {w : World} {m : Imm} {σ : List Res} (hc : Conc w m σ) (ob : Obj) :
    Conc (w.alloc ob) (fun b off => m b off ∨ (b = w.heap.size ∧ False)) (.obj w.heap.size ob :: σ) := by
  have hc' := alloc_conc hc ob (fun _ => False)
  refine ⟨fun r hr => ?_, ?_, hc'.wf⟩
  · rcases List.mem_cons.1 hr with rfl | hr
    · refine ⟨heap_alloc_new w _, fun off ho => ?_⟩
      rcases ho with ho | ⟨_, ho⟩
      · have := hc.wf _ off ho; omega
      · exact ho
    · exact hc'.each r hr
  · simp only [fps, List.flatMap_cons, Res.fp, List.singleton_append, List.nodup_cons]
    refine ⟨fun hm => ?_, hc.apart⟩
    have := hc.fps_lt _ hm
    omega

/-- a range over a string begins -/
theorem AO.range_str {t : TypeId} {x : Operand} {s : List UInt8} (ho : o.op = .range t x) (hu : P.underlying t = some .string) (hx : ρ x = .str s)
    (hR : ∀ b, R (.val (.pointer (some ⟨b, 0, none⟩))) (.obj b (.stringIter ⟨s.toArray⟩ 0) :: σ)) : AO P o ρ σ R S := by
  refine AO.of_run' fun w m ev hr hc => ?_
  have h1 := hr x (by simp [ho, Op.operands])
  rw [hx] at h1
  simp only [Rep] at h1
  have := alloc_obj hc (.stringIter ⟨s.toArray⟩ 0)
  refine ⟨_, _, .pointer (some ⟨w.heap.size, 0, none⟩), _, _, hR w.heap.size, ?_, by simp [Rep], this, alloc_trans hc _ _ fun b hb => ?_⟩
  · simp [execOp, ho, Instr.range, run_underlying hu, h1, go_sem]
  · simp [fps, Res.fp] at hb ⊢
    rcases hb with hb | hb
    · exact .inr hb
    · exact .inl hb

theorem run_getObj_it {w : World} {b : Nat} {s : ByteArray} {pos : Nat} (h : w.heap[b]? = some (.stringIter s pos)) : (getObj b).run P w = .ok (.stringIter s pos) w := by simp [getObj, Sem.run, h]

/-- the next rune -/
theorem AO.next_str {x : Operand} {s : List UInt8} {b pos i : Nat} (ho : o.op = .next x true) (hx : ρ x = .val (.pointer (some ⟨b, 0, none⟩))) (hi : σ[i]? = some (Res.obj b (.stringIter ⟨s.toArray⟩ pos)))
    (hlt : decide (pos < s.length) = true) (hR : R (.tuple [.bool true, .int .i64 (pos : Int), .int .i32 ((dec s pos).1 : Int)]) (σ.set i (.obj b (.stringIter ⟨s.toArray⟩ (pos + (dec s pos).2))))) : AO P o ρ σ R S := by
  have hlt := of_decide_eq_true hlt
  refine AO.of_run' fun w m ev hr hc => ?_
  have h1 := hr x (by simp [ho, Op.operands])
  rw [hx] at h1
  simp only [Rep] at h1
  obtain ⟨hb, hm⟩ := hc.each _ (List.mem_of_getElem? hi)
  have hblt : b < w.heap.size := by
    rcases Nat.lt_or_ge b w.heap.size with h | h
    · exact h
    · simp [Array.getElem?_eq_none h] at hb
  let w' : World := { w with heap := w.heap.setIfInBounds b (.stringIter ⟨s.toArray⟩ (pos + (dec s pos).2)) }
  have hb' : w'.heap[b]? = some (.stringIter ⟨s.toArray⟩ (pos + (dec s pos).2)) := by simp [w', hblt]
  obtain ⟨k1, k2⟩ := Conc.write (w' := w') (r' := .obj b (.stringIter ⟨s.toArray⟩ (pos + (dec s pos).2))) hc hi rfl rfl hm ⟨hb', hm⟩ ⟨rfl, rfl, rfl⟩ (by simp [w']) (fun k hk => by simp [w', Array.getElem?_setIfInBounds_ne (Ne.symm hk)])
  refine ⟨_, _, .tuple #[.bool true, .int .i64 (pos : Int), .int .i32 ((dec s pos).1 : Int)], w', m, hR, ?_, ?_, k1, k2⟩
  · have hsz : pos < (ByteArray.mk s.toArray).size := by simpa [ByteArray.size] using hlt
    simp [execOp, ho, Instr.next, h1, run_getObj_it hb, hsz, setObj, Sem.run, hb, w', dec, goInt, Instr.next]
  · simp only [Rep]
    exact ⟨_, rfl, RepL.cons rfl (RepL.cons rfl (RepL.cons rfl RepL.nil))⟩

/-- no further rune -/
theorem AO.next_over {x : Operand} {s : List UInt8} {b pos i : Nat} (ho : o.op = .next x true) (hx : ρ x = .val (.pointer (some ⟨b, 0, none⟩))) (hi : σ[i]? = some (Res.obj b (.stringIter ⟨s.toArray⟩ pos)))
    (hge : decide (pos < s.length) = false) (hR : R (.tuple [.bool false]) σ) : AO P o ρ σ R S := by
  have hge := of_decide_eq_false hge
  refine AO.of_same hR fun w m ev hr hc => ?_
  have h1 := hr x (by simp [ho, Op.operands])
  rw [hx] at h1
  simp only [Rep] at h1
  obtain ⟨hb, hm⟩ := hc.each _ (List.mem_of_getElem? hi)
  refine ⟨.tuple #[.bool false], ?_, ?_⟩
  · have hsz : ¬ pos < (ByteArray.mk s.toArray).size := by simpa [ByteArray.size] using hge
    simp [execOp, ho, Instr.next, h1, run_getObj_it hb, hsz]
  · simp only [Rep]
    exact ⟨_, rfl, RepL.cons rfl RepL.nil⟩

/-! ### boxes that know their type -/

theorem Conc.tbox {w : World} {m : Imm} {σ : List Res} (h : Conc w m σ) {i b : Nat} {ty : TypeId} {cs : List PV} (hi : σ[i]? = some (Res.tbox b ty cs)) :
    ∃ vs : List Value, w.heap[b]? = some (.cells vs.toArray ty (0, 0)) ∧ RepL w m cs vs ∧ ∀ off, ¬ m b off := h.each _ (List.mem_of_getElem? hi)

theorem AO.load_tbox {t : TypeId} {x : Operand} {cs : List PV} {b off i : Nat} {ty : TypeId} {ag : Bool} {k : Nat} {p : PV} (ho : o.op = .load t x) (hx : ρ x = .val (.pointer (some ⟨b, off, none⟩))) (hi : σ[i]? = some (Res.tbox b ty cs))
    (ht : tyInfo P t = some (ag, k)) {cs' : List PV} (hd : dropO off cs = some cs') (hp : loadPV ag k cs' = some p) (hR : R p σ) : AO P o ρ σ R S := by
  obtain ⟨rfl, _⟩ := dropO_eq hd
  refine AO.of_same hR fun w m ev hr hc => ?_
  have h := hr x (by simp [ho, Op.operands])
  rw [hx] at h
  simp only [Rep] at h
  obtain ⟨vs, g1, g2, _⟩ := hc.tbox hi
  obtain ⟨v, h5, h6⟩ := run_loadVar' ht hp (g2.drop off) (b := b) (off := off) fun i v hv => by
    rw [cell_of_row w b (off + i) vs.toArray ty (0, 0) g1]
    simpa [List.getElem?_drop] using hv
  exact ⟨v, by simp [execOp, ho, Instr.loadAt, h, Instr.sureAddr, h5], h6⟩

theorem AO.store_tbox {t : TypeId} {x y : Operand} {cs new cs' : List PV} {b off i : Nat} {ty : TypeId} {ag : Bool} {k : Nat} {σ' : List Res} (ho : o.op = .store t x y) (hx : ρ x = .val (.pointer (some ⟨b, off, none⟩))) (hi : σ[i]? = some (Res.tbox b ty cs))
    (ht : tyInfo P t = some (ag, k)) (hnew : (ρ y).cellsO = some new) (hone : new.all PV.one = true) (hk : Nat.beq new.length k = true) (hput : putO cs off new = some cs') (hset : setO σ i (.tbox b ty cs') = some σ') (hR : R .undef σ') : AO P o ρ σ R S := by
  obtain ⟨hnew, hok⟩ := cellsO_eq hnew
  have hnew := hnew.symm
  have hk := Nat.eq_of_beq_eq_true hk
  obtain ⟨rfl, hfit⟩ := putO_eq hput
  have hset := setO_eq hset
  subst hset
  intro w m a K QC hr hc hK _
  have h := hr x (by simp [ho, Op.operands])
  have hy := hr y (by simp [ho, Op.operands])
  rw [hx] at h
  simp only [Rep] at h
  obtain ⟨vs, g1, g2, g3⟩ := hc.tbox hi
  have hyl := hy.cells hok
  rw [hnew] at hyl
  have hl := hyl.length_eq
  have hl2 := g2.length_eq
  have hst := run_storeCells_at P b off ty (a.eval y).cells.toList 0 vs.toArray w g1 (by simp at hl ⊢; omega) (hyl.oneCell hone)
  obtain ⟨_, hsz⟩ := run_isAgg ht w
  have hsize : (a.eval y).cells.size = k := by rw [← Array.length_toList, hl, hk]
  have hrun : (execOp a.eval o).run P w = .ok .skip (w.setRow b (vs.take off ++ ((a.eval y).cells.toList ++ vs.drop (off + (a.eval y).cells.toList.length))).toArray) := by
    simp only [execOp, ho, Instr.storeAt, h, Instr.sureAddr, storeVar, Sem.run_bind, Sem.run_pure, Result.andThen_ok, hsz, hsize, ne_eq, not_true_eq_false, if_false]
    rw [hst]
    simp
  have hl' : RepL w m (putCells cs off new) (vs.take off ++ ((a.eval y).cells.toList ++ vs.drop (off + (a.eval y).cells.toList.length))) := by
    unfold putCells
    refine (g2.take off).append (hyl.append ?_)
    rw [hl]
    exact g2.drop _
  have hrow := setRow_heap w b vs.toArray (vs.take off ++ ((a.eval y).cells.toList ++ vs.drop (off + (a.eval y).cells.toList.length))).toArray ty (0, 0) g1
  have hother : ∀ k, k ≠ b → (w.setRow b (vs.take off ++ ((a.eval y).cells.toList ++ vs.drop (off + (a.eval y).cells.toList.length))).toArray).heap[k]? = w.heap[k]? := fun k hk => setRow_other w b k _ hk
  have hle : Le w m (w.setRow b (vs.take off ++ ((a.eval y).cells.toList ++ vs.drop (off + (a.eval y).cells.toList.length))).toArray) m := by
    intro c off hco
    refine ⟨hco, World.cell?_of_block (w := w) (hother c ?_)⟩
    intro e; subst e; exact g3 off hco
  obtain ⟨k1, k2⟩ := Conc.write (r' := .tbox b ty (putCells cs off new)) hc hi rfl rfl g3 ⟨_, hrow, RepL.mono hle _ _ hl', g3⟩ ⟨rfl, rfl, rfl⟩ (by simp [World.setRow]) hother
  unfold Oper.wp
  rw [hrun]
  exact hK .undef _ _ _ m hR trivial k1 k2

/-! ### strings.Builder -/

theorem conc_cons {w : World} {m : Imm} {r : Res} {τ : List Res} (h : r.holds w m) (hn : r.fp.Nodup) (hd : ∀ b ∈ r.fp, b ∉ fps τ) (hc : Conc w m τ) : Conc w m (r :: τ) := by
  refine ⟨fun x hx => ?_, ?_, hc.wf⟩
  · rcases List.mem_cons.1 hx with rfl | hx
    · exact h
    · exact hc.each x hx
  · have e : fps (r :: τ) = r.fp ++ fps τ := by simp [fps]
    rw [e, List.nodup_append]
    exact ⟨hn, hc.apart, fun a ha b hb hab => hd a ha (hab ▸ hb)⟩

/-- a new builder -/
theorem AO.alloc_bld {e eu : TypeId} {cs : List PV} (ho : o.op = .alloc e) (hz : zeroPV P e = some cs) (hcs : cs = [.val (.pointer none), .own (.slice none 0 0) []])
    (hR : ∀ b, R (.val (.pointer (some ⟨b, 0, none⟩))) (.bld b (.slice none 0 0) e eu [] :: σ)) : AO P o ρ σ R S := by
  refine AO.of_run' fun w m ev hr hc => ?_
  obtain ⟨z, h1, h2⟩ := run_zero hz w
  have hz' : z.cells.toList = [.pointer none, .slice none 0 0] := by
    have := h2 m
    rw [hcs] at this
    simp only [RepL, Rep] at this
    obtain ⟨v, vs, e1, rfl, v2, vs2, rfl, ⟨rfl, _⟩, rfl⟩ := this
    exact e1
  have hz'' : z.cells = #[.pointer none, .slice none 0 0] := by rw [← Array.toArray_toList (xs := z.cells), hz']
  have hc' := alloc_conc hc (.cells z.cells e) (fun _ => False)
  have hnew : Conc (w.alloc (.cells z.cells e)) (fun b off => m b off ∨ (b = w.heap.size ∧ False)) (.bld w.heap.size (.slice none 0 0) e eu [] :: σ) := by
    refine conc_cons ⟨⟨.pointer none, .inl rfl, ?_⟩, fun off ho => ?_, rfl, ⟨rfl, .inl ⟨rfl, rfl⟩⟩, fun g hg => by cases hg⟩ (by simp [Res.fp, Value.ownBlock]) (fun b hb hm => ?_) hc'
    · rw [heap_alloc_new w _, hz'']
    · rcases ho with ho | ⟨_, ho⟩
      · have := hc.wf _ off ho; omega
      · exact ho
    · simp [Res.fp, Value.ownBlock] at hb
      subst hb
      have := hc.fps_lt _ hm
      omega
  refine ⟨_, _, .pointer (some ⟨w.heap.size, 0, none⟩), _, _, hR w.heap.size, ?_, by simp [Rep], hnew, alloc_trans hc _ _ fun b hb => ?_⟩
  · simp [execOp, ho, Instr.alloc, newVar, newRow, h1, go_sem]
  · simp [fps, Res.fp, Value.ownBlock] at hb ⊢
    rcases hb with hb | hb
    · exact .inr hb
    · exact .inl hb

/-- a builder, opened: its variable and its buffer -/
theorem Conc.open_bld {w : World} {m : Imm} {b : Nat} {v : Value} {ty e : TypeId} {bs : List UInt8} {τ : List Res} (hc : Conc w m (.bld b v ty e bs :: τ)) :
    ∃ p m', (p = Value.pointer none ∨ p = .pointer (some ⟨b, 0, none⟩)) ∧ roomy v = true ∧ Conc w m' (.tbox b ty [.val p, .own v (bs.map byteC)] :: .row v bs.length 1 e :: τ) ∧
      Trans w m (.bld b v ty e bs :: τ) w m' (.tbox b ty [.val p, .own v (bs.map byteC)] :: .row v bs.length 1 e :: τ) := by
  obtain ⟨⟨p, hp, hb⟩, hmb, hroom, hrow, himm⟩ := hc.each _ List.mem_cons_self
  have hap := hc.apart
  have efps : fps (.bld b v ty e bs :: τ) = b :: (v.ownBlock.toList ++ fps τ) := by simp [fps, Res.fp]
  rw [efps, List.nodup_cons, List.nodup_append] at hap
  have hbn : v.ownBlock ≠ some b := fun h => hap.1 (by simp [h])
  have hle : Le w m w (fun c off => m c off ∨ (v.ownBlock = some c ∧ off < bs.length * 1)) := fun c off h => ⟨.inl h, rfl⟩
  have hc2 : Conc w m τ := Conc.sub hc (List.sublist_cons_self _ _)
  have hτ : Conc w (fun c off => m c off ∨ (v.ownBlock = some c ∧ off < bs.length * 1)) τ := by
    refine ⟨fun r hr => Res.holds_keep (hc2.each r hr) hle fun c hcf => ⟨rfl, fun off h => ?_⟩, hc2.apart, fun c off h => ?_⟩
    · rcases h with h | ⟨h, _⟩
      · exact h
      · exact absurd rfl (hap.2.2.2 c (by simp [h]) c (by simp only [fps, List.mem_flatMap]; exact ⟨r, hr, hcf⟩))
    · rcases h with h | ⟨h, _⟩
      · exact hc.wf c off h
      · exact hrow.block_lt h
  have hrep : Rep w (fun c off => m c off ∨ (v.ownBlock = some c ∧ off < bs.length * 1)) (.own v (bs.map byteC)) v := by
    simp only [Rep]
    refine ⟨trivial, ?_⟩
    rcases hrow.2 with ⟨rfl, hn⟩ | ⟨g, cap, cur, fz, rfl, hg, hfz, hnc, hcm, hcs, htake⟩
    · exact ⟨none, 0, by simp [hn], by simp [hn], .inl (by simpa using List.eq_nil_of_length_eq_zero hn)⟩
    · refine ⟨some ⟨g, 0, none⟩, cap, by simp, by simp; omega, .inr ⟨g, 0, 1, rfl, RepEls_iff.2 ⟨byteC_len bs, RepCs_iff.2 ⟨bs.map fun c => .int .u8 (c.toNat : Int), ?_, fun j u hj => ⟨.inr ⟨rfl, ?_⟩, ?_⟩⟩⟩⟩⟩
      · rw [byteC_flat]; exact (repL_bytes bs _).2 rfl
      · have := (List.getElem?_eq_some_iff.1 hj).1
        simp at this; omega
      · have hlt : j < bs.length * 1 := by have := (List.getElem?_eq_some_iff.1 hj).1; simp at this; omega
        rw [Nat.zero_add, hrow.cell (b := g) rfl hlt]
        exact hj
  have hfpv : ∀ c ∈ (Res.row v bs.length 1 e).fp, c ∉ fps τ := fun c hcf => hap.2.2.2 c hcf c |> fun h => fun hm => h hm rfl
  have hrowc : Conc w (fun c off => m c off ∨ (v.ownBlock = some c ∧ off < bs.length * 1)) (.row v bs.length 1 e :: τ) := by
    refine conc_cons ⟨_, hrow, fun c hcv off h => ?_⟩ (by cases h : v.ownBlock <;> simp [Res.fp, h]) hfpv hτ
    rcases h with h | h
    · exact himm c hcv off h
    · exact h.2
  refine ⟨p, _, hp, hroom, conc_cons ⟨[p, v], hb, RepL.cons (by simp [Rep]) (RepL.cons hrep RepL.nil), fun off h => ?_⟩ (by simp [Res.fp]) (fun c hcf => ?_) hrowc, ⟨rfl, rfl, rfl, Nat.le_refl _, hle, fun c _ hn => ⟨rfl, fun off h => ?_⟩, fun c hcf => .inl ?_⟩⟩
  · rcases h with h | ⟨h, _⟩
    · exact hmb off h
    · exact hbn h
  · simp only [Res.fp, List.mem_singleton] at hcf
    subst hcf
    have : fps (.row v bs.length 1 e :: τ) = v.ownBlock.toList ++ fps τ := by simp [fps, Res.fp]
    rw [this]
    exact hap.1
  · rcases h with h | ⟨h, _⟩
    · exact h
    · exact absurd (by rw [efps]; simp [h]) hn
  · have : fps (.tbox b ty [.val p, .own v (bs.map byteC)] :: .row v bs.length 1 e :: τ) = b :: (v.ownBlock.toList ++ fps τ) := by simp [fps, Res.fp]
    rw [this] at hcf
    rw [efps]; exact hcf

/-- what a row of the call's own holds is what its slice tells -/
theorem own_vals {w : World} {m : Imm} {v : Value} {n sz : Nat} {e : TypeId} {xs : List Value} {l : List (List PV)} (hrow : OwnRow w e sz v n xs) (hn : l.length = n) (hsz : ∀ x ∈ l, x.length = sz) (hl : Rep w m (.own v l) v) : RepL w m l.flatten xs := by
  simp only [Rep] at hl
  obtain ⟨_, a, cap, h1, h2, h3⟩ := hl
  rcases h3 with h3 | ⟨b, off, sz', rfl, h4⟩
  · subst h3
    have : xs = [] := List.eq_nil_of_length_eq_zero (by rw [hrow.1]; simp at hn; simp [← hn])
    subst this
    simpa using RepL.nil
  · obtain ⟨vs, k1, k2⟩ := RepCs_iff.1 (RepEls_iff.1 h4).2
    have hvx : vs = xs := by
      rcases hrow.2 with ⟨rfl, _⟩ | ⟨g, cap0, cur, fz, rfl, hg1, _, _, _, _, htake⟩
      · cases h1
      · cases h1
        have hvl : vs.length = xs.length := by
          rw [k1.length_eq, hrow.1]
          have : ∀ (l : List (List PV)), (∀ x ∈ l, x.length = sz) → l.flatten.length = l.length * sz := by
            intro l
            induction l with
            | nil => simp
            | cons e es ih =>
              intro h
              have h0 := h e (by simp)
              have := ih fun x hx => h x (by simp [hx])
              simp only [List.flatten_cons, List.length_append, List.length_cons, this, h0, Nat.add_mul]
              omega
          rw [this l hsz]
        apply List.ext_getElem hvl
        intro j h1 h2
        have h5 := (k2 j vs[j] (by simp [h1])).2
        rw [Nat.zero_add, OwnRow.cell hrow (b := b) rfl (by rw [← hrow.1]; exact h2)] at h5
        simpa [h2] using h5.symm
    subst hvx
    exact k1

/-- .. and closed again -/
theorem Conc.close_bld {w : World} {m : Imm} {b : Nat} {v p : Value} {ty e : TypeId} {bs : List UInt8} {τ : List Res} (hp : p = Value.pointer none ∨ p = .pointer (some ⟨b, 0, none⟩)) (hroom : roomy v = true)
    (hc : Conc w m (.tbox b ty [.val p, .own v (bs.map byteC)] :: .row v bs.length 1 e :: τ)) :
    Conc w m (.bld b v ty e bs :: τ) ∧ Trans w m (.tbox b ty [.val p, .own v (bs.map byteC)] :: .row v bs.length 1 e :: τ) w m (.bld b v ty e bs :: τ) := by
  obtain ⟨vs, hb, hrep, hmb⟩ := hc.each _ List.mem_cons_self
  obtain ⟨xs, hrow, himm⟩ := hc.each (.row v bs.length 1 e) (by simp)
  have efps : fps (.tbox b ty [.val p, .own v (bs.map byteC)] :: .row v bs.length 1 e :: τ) = fps (.bld b v ty e bs :: τ) := by simp [fps, Res.fp]
  simp only [RepL] at hrep
  obtain ⟨v1, vs1, rfl, h1, v2, vs2, rfl, h2, rfl⟩ := hrep
  simp only [Rep] at h1
  subst h1
  have h2' := h2
  simp only [Rep] at h2'
  obtain ⟨rfl, _⟩ := h2'
  have hx := own_vals hrow (by simp) (byteC_len bs) h2
  rw [byteC_flat] at hx
  have hx := (repL_bytes bs xs).1 hx
  subst hx
  refine ⟨⟨fun r hr => ?_, by rw [← efps]; exact hc.apart, hc.wf⟩, ⟨rfl, rfl, rfl, Nat.le_refl _, Le.refl _ _, fun _ _ _ => ⟨rfl, fun _ h => h⟩, fun c hcf => .inl (by rw [efps]; exact hcf)⟩⟩
  rcases List.mem_cons.1 hr with rfl | hr
  · exact ⟨⟨_, hp, hb⟩, hmb, hroom, hrow, himm⟩
  · exact hc.each r (by simp [hr])

/-- a call that works on a builder -/
theorem AC.bld {P : Program} {f : FuncId} {args : List PV} {b : Nat} {v : Value} {ty e : TypeId} {bs : List UInt8} {R : AOut → List Res → Prop}
    (h : ∀ p, (p = Value.pointer Option.none ∨ p = .pointer (some ⟨b, 0, Option.none⟩)) → roomy v = true → AC P f args [.tbox b ty [.val p, .own v (bs.map byteC)], .row v bs.length 1 e] fun out σ' =>
      ∃ p' v' bs', σ' = [.tbox b ty [.val p', .own v' (bs'.map byteC)], .row v' bs'.length 1 e] ∧ (p' = Value.pointer Option.none ∨ p' = .pointer (some ⟨b, 0, Option.none⟩)) ∧ roomy v' = true ∧ R out [.bld b v' ty e bs']) :
    AC P f args [.bld b v ty e bs] R := by
  intro w m vs hc hv
  obtain ⟨p, m', hp, hroom, hc', ht⟩ := hc.open_bld
  refine (h p hp hroom w m' vs hc' (RepL.mono ht.le _ _ hv)).mono fun en w' ⟨out, σ', m'', ⟨p', v', bs', hσ, hp', hroom', hR⟩, hout, hc'', ht'⟩ => ?_
  subst hσ
  obtain ⟨k1, k2⟩ := hc''.close_bld hp' hroom'
  exact ⟨out, _, m'', hR, hout, k1, (ht.trans ht').trans k2⟩

end
end Go.Abs

namespace Go.Abs
open Go Go.Ft

section
variable {P : Program} {o : Oper} {ρ : Operand → PV} {σ : List Res} {R S : PV → List Res → Prop}

/-- a pointer against nil -/
theorem AO.ptr_nil {t u te : TypeId} {x y : Operand} {q : Option Addr} (ho : o.op = .binOp .eql t x y u) (hu : P.underlying t = some (.pointer te)) (hx : ρ x = .val (.pointer q)) (hy : ρ y = .val (.pointer none))
    (hR : R (.bool q.isNone) σ) : AO P o ρ σ R S := by
  refine AO.of_same hR fun w m ev hr _ => ?_
  have h1 := hr x (by simp [ho, Op.operands])
  have h2 := hr y (by simp [ho, Op.operands])
  rw [hx] at h1
  rw [hy] at h2
  simp only [Rep] at h1 h2
  refine ⟨.bool q.isNone, ?_, by simp only [Rep]⟩
  have e1 : binOp .eql t (.pointer q) (.pointer none) = (do pure (.bool (← Op.equal t (.pointer q) (.pointer none)))) := rfl
  have e2 : (Op.equal t (.pointer q) (.pointer none)).run P w = .ok q.isNone w := by
    show (Op.equalIn (9999 + 1) t (.pointer q) (.pointer none)).run P w = _
    generalize 9999 = d
    unfold Op.equalIn
    simp only [Sem.run_bind, run_underlying hu, Result.andThen_ok]
    cases q <;> simp
  simp only [execOp, ho, h1, h2, e1, Sem.run_bind, Sem.run_pure]
  simp [eqGuard, e2]

theorem AO.ptr_neq_same {t u te : TypeId} {x y : Operand} {a : Addr} {j : TypeInfo} (ho : o.op = .binOp .neq t x y u) (hu : P.underlying t = some (.pointer te)) (hte : P.info? te = some j) (hx : ρ x = .val (.pointer (some a))) (hy : ρ y = .val (.pointer (some a)))
    (hR : R (.bool false) σ) : AO P o ρ σ R S := by
  refine AO.of_same hR fun w m ev hr _ => ?_
  have h1 := hr x (by simp [ho, Op.operands])
  have h2 := hr y (by simp [ho, Op.operands])
  rw [hx] at h1
  rw [hy] at h2
  simp only [Rep] at h1 h2
  refine ⟨.bool false, ?_, by simp only [Rep]⟩
  have e2 := Lib.run_neq_ptr_same w a hu hte
  simp only [execOp, ho, h1, h2, Sem.run_bind]
  simp [eqGuard, e2]

theorem sized {t n : Nat} (h : (P.info? t).map (·.size) = some n) (hn : (n != 0) = true) : ∃ j, P.info? t = some j ∧ (j.size != 0) = true := by
  cases e : P.info? t with
  | none => rw [e] at h; cases h
  | some j =>
    rw [e] at h
    simp only [Option.map_some, Option.some.injEq] at h
    exact ⟨j, rfl, by rw [h]; exact hn⟩
theorem AO.to_unsafe {src dst t e : TypeId} {x : Operand} {b i n : Nat} {cs : List PV} {j : TypeInfo} (ho : o.op = .convert src dst x) (hs : P.underlying src = some (.pointer t)) (hd : P.underlying dst = some .unsafePointer) (ht : P.info? t = some j) (hj : (j.size != 0) = true)
    (hx : ρ x = .val (.pointer (some ⟨b, 0, none⟩))) (hi : σ[i]? = some (Res.tbox b e cs)) (hn : cs.length = n + 1) (hR : R (.val (.pointer (some ⟨b, 0, none⟩))) σ) : AO P o ρ σ R S := by
  refine AO.of_same hR fun w m ev hr hc => ?_
  have h1 := hr x (by simp [ho, Op.operands])
  rw [hx] at h1
  simp only [Rep] at h1
  obtain ⟨vs, g1, g2, _⟩ := hc.tbox hi
  have hsh : w.shape? b = some (e, vs.length) := by simp [World.shape?, g1]
  have hl := g2.length_eq
  refine ⟨.pointer (some ⟨b, 0, none⟩), ?_, by simp only [Rep]⟩
  have := Lib.run_to_unsafe w ⟨b, 0, none⟩ hs hd ht (by simpa using hj) hsh (by show 0 < vs.length; omega)
  simp [execOp, ho, h1, this]

theorem AO.from_unsafe {src dst u e : TypeId} {x : Operand} {b i n : Nat} {cs : List PV} {j : TypeInfo} (ho : o.op = .convert src dst x) (hs : P.underlying src = some .unsafePointer) (hd : P.underlying dst = some (.pointer u)) (hu : P.info? u = some j)
    (hx : ρ x = .val (.pointer (some ⟨b, 0, none⟩))) (hi : σ[i]? = some (Res.tbox b e cs)) (hn : cs.length = n) (hlies : liesAt P P.depth e (n / P.cellsOf e) 0 u 1 = true) (hR : R (.val (.pointer (some ⟨b, 0, none⟩))) σ) : AO P o ρ σ R S := by
  refine AO.of_same hR fun w m ev hr hc => ?_
  have h1 := hr x (by simp [ho, Op.operands])
  rw [hx] at h1
  simp only [Rep] at h1
  obtain ⟨vs, g1, g2, _⟩ := hc.tbox hi
  have hsh : w.shape? b = some (e, n) := by simp [World.shape?, g1, ← hn, g2.length_eq]
  refine ⟨.pointer (some ⟨b, 0, none⟩), ?_, by simp only [Rep]⟩
  have := Lib.run_from_unsafe w ⟨b, 0, none⟩ hs hd hu hsh hlies
  simp [execOp, ho, h1, this]

theorem AO.noEscape {c : Call} {x cal : Operand} {f : FuncId} {fn : Func} {p : PV} (ho : o.op = .call c) (hcal : c.callee = .value cal) (hf : ρ cal = .fn f []) (hargs : c.args = #[x])
    (h1 : P.funcs[f]? = some fn) (h2 : (fn.name == "runtime.NumGoroutine") = false) (h3 : fn.body.isNone = true) (h4 : Extern.findNext fn = none) (h5 : Extern.find fn = some Extern.AbiNoEscape.same) (hx : ρ x = p)
    (hR : R p σ) : AO P o ρ σ R S := by
  refine AO.of_same hR fun w m ev hr _ => ?_
  have hv := hr x (by simp [ho, Op.operands, Call.operands, hcal, hargs])
  have hc := hr cal (by simp [ho, Op.operands, Call.operands, hcal, hargs])
  rw [hf] at hc
  simp only [Rep, RepL] at hc
  obtain ⟨cs, hc, rfl⟩ := hc
  rw [hx] at hv
  refine ⟨ev x, ?_, hv⟩
  have := run_callFunc_extern (P := P) h1 h2 h3 h4 h5 #[ev x] w
  rw [Lib.run_noEscape] at this
  simp only [Result.andThen] at this
  unfold execOp
  simp only [ho, resolve, hcal, hc, hargs, Deferred.ofValue, invoke, Sem.run_bind, Sem.run_pure, Result.andThen_ok]
  simp [this]

def ptrOf : Value → Option Addr
  | .slice a _ _ => a
  | _ => none
theorem AO.sliceData {c : Call} {x : Operand} {v : Value} {l : List (List PV)} (ho : o.op = .call c) (hcal : c.callee = .builtin .unsafeSliceData) (hargs : c.args = #[x]) (hx : ρ x = .own v l) (hroom : roomy v = true)
    (hR : R (.val (.pointer (ptrOf v))) σ) : AO P o ρ σ R S := by
  refine AO.of_same hR fun w m ev hr _ => ?_
  have h1 := hr x (by simp [ho, Op.operands, Call.operands, hcal, hargs])
  rw [hx] at h1
  simp only [Rep] at h1
  obtain ⟨h1, a, cap, h2, _⟩ := h1
  have h3 : v = .slice a l.length cap := h1 ▸ h2
  subst h3
  refine ⟨.pointer a, ?_, by simp only [Rep, ptrOf]⟩
  cases a with
  | none => simp [execOp, ho, resolve, hcal, hargs, invoke, builtin, h1, Lib.run_unsafeSliceData_nil]
  | some a =>
    have hc : cap ≠ 0 := by simpa [roomy] using hroom
    simp [execOp, ho, resolve, hcal, hargs, invoke, builtin, h1, Lib.run_unsafeSliceData_row _ _ _ _ _ _ hc]

/-- a text over the buffer of a builder: the builder is given up -/
theorem AO.unsafeString {c : Call} {x y : Operand} {pt it e eu : TypeId} {b : Nat} {v p : Value} {bs : List UInt8} (ho : o.op = .call c) (hcal : c.callee = .builtin .unsafeString) (hargs : c.args = #[x, y]) (hty : c.argTypes = #[pt, it])
    (hp : P.underlying pt = some (.pointer eu)) (hce : P.cellsOf eu = 1) (hσ : σ = [.tbox b e [.val p, .own v (bs.map byteC)], .row v bs.length 1 eu]) (hx : ρ x = .val (.pointer (ptrOf v))) (hy : ρ y = .int .i64 bs.length)
    (hR : R (.str bs) []) : AO P o ρ σ R S := by
  subst hσ
  refine AO.of_run' fun w m ev hr hc => ?_
  have h1 := hr x (by simp [ho, Op.operands, Call.operands, hcal, hargs])
  have h2 := hr y (by simp [ho, Op.operands, Call.operands, hcal, hargs])
  rw [hx] at h1
  rw [hy] at h2
  simp only [Rep] at h1 h2
  obtain ⟨vs, g1, g2, _⟩ := hc.each (.tbox b e [.val p, .own v (bs.map byteC)]) (by simp)
  obtain ⟨xs, hrow, himm⟩ := hc.each (.row v bs.length 1 eu) (by simp)
  simp only [RepL] at g2
  obtain ⟨v1, vs1, rfl, g3, v2, vs2, rfl, g4, rfl⟩ := g2
  have hvv : v2 = v := by simp only [Rep] at g4; exact g4.1
  rw [hvv] at g4
  have hxs := own_vals hrow (by simp) (byteC_len bs) g4
  rw [byteC_flat] at hxs
  have hxs := (repL_bytes bs xs).1 hxs
  subst hxs
  have ex : ∀ r, (Builtin.unsafeString_ #[pt, it] o.type #[.pointer (ptrOf v), .int .i64 bs.length]).run P w = r → (execOp ev o).run P w = r.andThen fun v w' => .ok (.value v) w' := by
    intro r hr'
    simp [execOp, ho, resolve, hcal, hargs, hty, invoke, builtin, h1, h2]
    rw [← hr']
  have fin : ∀ w', w'.os = w.os → w'.tape = w.tape → w'.output = w.output → w'.heap.size = w.heap.size → (∀ k a, (w'.cell? ⟨k, a, none⟩) = w.cell? ⟨k, a, none⟩) → (∀ k, v.ownBlock ≠ some k → w'.heap[k]? = w.heap[k]?) →
      Conc w' m [] ∧ Trans w m [.tbox b e [.val p, .own v (bs.map byteC)], .row v bs.length 1 eu] w' m [] := by
    intro w' e1 e2 e3 e4 e5 e6
    refine ⟨⟨by simp, by simp [fps], fun c off h => by rw [e4]; exact hc.wf c off h⟩, ⟨e1, e2, e3, by omega, fun c off h => ⟨h, e5 c off⟩, fun c hcl hn => ⟨e6 c fun h => hn ?_, fun _ h => h⟩, by simp [fps]⟩⟩
    simp [fps, Res.fp, h]
  by_cases h0 : bs = []
  · subst h0
    have hrun := Lib.run_unsafeString_none (P := P) w pt it o.type (ptrOf v)
    obtain ⟨k1, k2⟩ := fin w rfl rfl rfl rfl (fun _ _ => rfl) (fun _ _ => rfl)
    exact ⟨.str [], [], .string .empty, w, m, hR, by rw [ex _ (by simpa using hrun)]; rfl, by simp only [Rep]; rfl, k1, k2⟩
  · rcases hrow.2 with ⟨_, hn⟩ | ⟨g, cap, cur, fz, rfl, hg, hfz, hnc, hcm, hcs, htake⟩
    · exact absurd (List.eq_nil_of_length_eq_zero hn) h0
    · have hsh : w.shape? g = some (eu, cur.size) := by simp [World.shape?, hg]
      have hrun := Lib.run_unsafeString_row (P := P) w pt it o.type eu hp hce g cur.size hsh bs h0 (by omega) (by unfold maxLen at hcm; omega) (fun j x hj => by
        rw [Addr.add_lit, Nat.zero_add, hrow.cell (b := g) rfl (by have := (List.getElem?_eq_some_iff.1 hj).1; omega)]
        simp [hj])
      have hz : bs.length ≠ 0 := by simpa using h0
      have hsame : ∀ k, k ≠ g → (w.freeze ⟨g, 0, none⟩ bs.length).heap[k]? = w.heap[k]? := by
        intro k hk
        simp [World.freeze, hz, Array.getElem?_modify, Ne.symm hk]
      have hcell : ∀ k a, (w.freeze ⟨g, 0, none⟩ bs.length).cell? ⟨k, a, none⟩ = w.cell? ⟨k, a, none⟩ := by
        intro k a
        by_cases hk : k = g
        · subst hk
          simp [World.cell?, World.freeze, hz, Array.getElem?_modify, hg]
        · simp only [World.cell?, hsame k hk]
      obtain ⟨k1, k2⟩ := fin (w.freeze ⟨g, 0, none⟩ bs.length) (by simp [World.freeze, hz]) (by simp [World.freeze, hz]) (by simp [World.freeze, hz]) (by simp [World.freeze, hz]) hcell (fun k hk => hsame k fun e => hk (by subst e; rfl))
      refine ⟨.str bs, [], .string ⟨bs.toArray⟩, _, m, hR, ?_, by simp only [Rep], k1, k2⟩
      rw [ex _ hrun]
      rfl

theorem AC.bld_end {P : Program} {f : FuncId} {args : List PV} {b : Nat} {v : Value} {ty e : TypeId} {bs : List UInt8} {R : AOut → List Res → Prop}
    (h : ∀ p, roomy v = true → AC P f args [.tbox b ty [.val p, .own v (bs.map byteC)], .row v bs.length 1 e] R) : AC P f args [.bld b v ty e bs] R := by
  intro w m vs hc hv
  obtain ⟨p, m', _, hroom, hc', ht⟩ := hc.open_bld
  refine (h p hroom w m' vs hc' (RepL.mono ht.le _ _ hv)).mono fun en w' ⟨out, σ', m'', hR, hout, hc'', ht'⟩ => ?_
  exact ⟨out, _, m'', hR, hout, hc'', ht.trans ht'⟩

/-- append of bytes onto the own buffer -/
theorem AO.app_bytes {c : Call} {s x : Operand} {t tx e : TypeId} {v : Value} {i : Nat} {l m r : List UInt8} (hv : app l m = some r) (ho : o.op = .call c) (hcal : c.callee = .builtin .append) (hargs : c.args = #[s, x]) (hty : c.argTypes = #[t, tx])
    (hs : ρ s = .own v (l.map byteC)) (hx : SrcPV P 1 tx (ρ x) (m.map byteC)) (hi : σ[i]? = some (Res.row v l.length 1 e)) (hf : SliceFact P t e 1 1)
    (hR : ∀ v' σ', setO σ i (.row v' r.length 1 e) = some σ' → (roomy v = true → roomy v' = true) → R (.own v' (r.map byteC)) σ') : AO P o ρ σ R S := by
  obtain ⟨h1, rfl⟩ := app_some hv
  have hlim : l.length + m.length ≤ 4294967296 := h1
  refine AO.appendS ho hcal hargs hty hs hx hi hf (by simp) (byteC_len l) (byteC_len m) (by simp only [List.length_map]; exact Nat.le_trans h1 LIM_le) (by simp only [List.length_map]; omega) ?_
  intro v' σ' h h'
  rw [← List.map_append]
  exact hR v' σ' (by simpa using h) h'

/-- one resource out of the own memory goes into a call -/
theorem AC.one {P : Program} {f : FuncId} {args : List PV} {σ : List Res} {R : AOut → List Res → Prop} {r : Res} (i : Nat) (hi : σ[i]? = some r)
    (h : AC P f args [r] fun out σ' => ∃ r', σ' = [r'] ∧ R out (σ.set i r')) : AC P f args σ R := by
  intro w m vs hc hv
  have hc1 := hc.perm (one_rest hi r).1
  refine (h w m vs hc1.left hv).mono fun en w' ⟨out, σ', m', ⟨r', hσ, hR⟩, hout, hc', ht⟩ => ?_
  subst hσ
  obtain ⟨f1, f2⟩ := Conc.frame hc1 hc' ht
  obtain ⟨p1, p2⟩ := one_rest hi r'
  exact ⟨out, _, m', hR, hout, f1.perm p2.symm, f2.perm p1.symm p2.symm⟩
/-- .. and is given up there -/
theorem AC.one_end {P : Program} {f : FuncId} {args : List PV} {σ : List Res} {R : AOut → List Res → Prop} {r : Res} (i : Nat) (hi : σ[i]? = some r)
    (h : AC P f args [r] fun out σ' => R out (σ.eraseIdx i)) : AC P f args σ R := by
  intro w m vs hc hv
  have hp := (one_rest hi r).1
  have hc1 := hc.perm hp
  refine (h w m vs hc1.left hv).mono fun en w' ⟨out, σ', m', hR, hout, hc', ht⟩ => ?_
  obtain ⟨f1, f2⟩ := Conc.frame hc1 hc' ht
  exact ⟨out, _, m', hR, hout, f1.sub (List.sublist_append_right _ _), (f2.perm hp.symm (List.Perm.refl _)).sub (List.sublist_append_right _ _)⟩
end
end Go.Abs

namespace Go.Abs
open Go Go.Ft

/-! Many pure operations at one stroke. -/

/-- facts on types, gathered -/
structure Facts where
  ti : List (Nat × Bool × Nat)
  fo : List (Nat × Nat × Nat)
  fd : List (Nat × Nat × Nat × Bool × Nat)
  str : List Nat

def findTi : List (Nat × Bool × Nat) → Nat → Option (Bool × Nat)
  | [], _ => none
  | (t, x) :: r, u => bif Nat.beq t u then some x else findTi r u
def findFo : List (Nat × Nat × Nat) → Nat → Nat → Option Nat
  | [], _, _ => none
  | (t, f, x) :: r, u, g => bif (Nat.beq t u && Nat.beq f g) then some x else findFo r u g
def findFd : List (Nat × Nat × Nat × Bool × Nat) → Nat → Nat → Option (Nat × Bool × Nat)
  | [], _, _ => none
  | (t, f, x) :: r, u, g => bif (Nat.beq t u && Nat.beq f g) then some x else findFd r u g

def fdB (P : Program) (t f : Nat) (off : Nat) (ag : Bool) (k : Nat) : Bool :=
  match P.underlying t with
  | some (.struct fs) => match fs[f]? with
    | some fl => Nat.beq fl.offset off && (match tyInfo P fl.type with | some (a, n) => (a == ag) && Nat.beq n k | none => false)
    | none => false
  | _ => false
def strB (P : Program) (t : Nat) : Bool := match P.underlying t with | some .string => true | _ => false
def Facts.okB (F : Facts) (P : Program) : Bool :=
  (F.ti.all fun x => match tyInfo P x.1 with | some (a, n) => (a == x.2.1) && Nat.beq n x.2.2 | none => false) &&
  (F.fo.all fun x => match fieldOff P x.1 x.2.1 with | some n => Nat.beq n x.2.2 | none => false) &&
  (F.fd.all fun x => fdB P x.1 x.2.1 x.2.2.1 x.2.2.2.1 x.2.2.2.2) &&
  (F.str.all fun t => strB P t)

section
variable {P : Program} {F : Facts}
theorem Facts.tiOk (h : F.okB P = true) {t : Nat} {x : Bool × Nat} (hf : findTi F.ti t = some x) : tyInfo P t = some x := by
  simp only [Facts.okB, Bool.and_eq_true] at h
  have h := h.1.1.1
  revert hf h
  generalize F.ti = l
  induction l with
  | nil => intro hf _; cases hf
  | cons y l ih =>
    obtain ⟨u, a, n⟩ := y
    intro hf h
    simp only [List.all_cons, Bool.and_eq_true] at h
    unfold findTi at hf
    cases e : Nat.beq u t with
    | true =>
      rw [e] at hf
      simp only [cond_true, Option.some.injEq] at hf
      subst hf
      have := Nat.eq_of_beq_eq_true e
      subst this
      have h1 := h.1
      split at h1
      · rename_i a' n' ht
        simp only [Bool.and_eq_true, beq_iff_eq] at h1
        rw [ht, h1.1, Nat.eq_of_beq_eq_true h1.2]
      · cases h1
    | false => rw [e] at hf; exact ih hf h.2
theorem Facts.foOk (h : F.okB P = true) {t f x : Nat} (hf : findFo F.fo t f = some x) : fieldOff P t f = some x := by
  simp only [Facts.okB, Bool.and_eq_true] at h
  have h := h.1.1.2
  revert hf h
  generalize F.fo = l
  induction l with
  | nil => intro hf _; cases hf
  | cons y l ih =>
    obtain ⟨u, g, n⟩ := y
    intro hf h
    simp only [List.all_cons, Bool.and_eq_true] at h
    unfold findFo at hf
    cases e : (Nat.beq u t && Nat.beq g f) with
    | true =>
      rw [e] at hf
      simp only [cond_true, Option.some.injEq] at hf
      subst hf
      simp only [Bool.and_eq_true] at e
      have e1 := Nat.eq_of_beq_eq_true e.1
      have e2 := Nat.eq_of_beq_eq_true e.2
      subst e1 e2
      have h1 := h.1
      split at h1
      · rename_i n' ht
        rw [ht, Nat.eq_of_beq_eq_true h1]
      · cases h1
    | false => rw [e] at hf; exact ih hf h.2
theorem Facts.fdOk (h : F.okB P = true) {t f off k : Nat} {ag : Bool} (hf : findFd F.fd t f = some (off, ag, k)) : fdB P t f off ag k = true := by
  simp only [Facts.okB, Bool.and_eq_true] at h
  have h := h.1.2
  revert hf h
  generalize F.fd = l
  induction l with
  | nil => intro hf _; cases hf
  | cons y l ih =>
    obtain ⟨u, g, n⟩ := y
    intro hf h
    simp only [List.all_cons, Bool.and_eq_true] at h
    unfold findFd at hf
    cases e : (Nat.beq u t && Nat.beq g f) with
    | true =>
      rw [e] at hf
      simp only [cond_true, Option.some.injEq] at hf
      subst hf
      simp only [Bool.and_eq_true] at e
      have e1 := Nat.eq_of_beq_eq_true e.1
      have e2 := Nat.eq_of_beq_eq_true e.2
      subst e1 e2
      exact h.1
    | false => rw [e] at hf; exact ih hf h.2
theorem fdB_spec {t f off k : Nat} {ag : Bool} (h : fdB P t f off ag k = true) : ∃ fs fl, P.underlying t = some (.struct fs) ∧ fs[f]? = some fl ∧ fl.offset = off ∧ tyInfo P fl.type = some (ag, k) := by
  unfold fdB at h
  split at h
  · rename_i fs hu
    split at h
    · rename_i fl hfl
      simp only [Bool.and_eq_true] at h
      refine ⟨fs, fl, hu, hfl, Nat.eq_of_beq_eq_true h.1, ?_⟩
      have h2 := h.2
      split at h2
      · rename_i a n ht
        simp only [Bool.and_eq_true, beq_iff_eq] at h2
        rw [ht, h2.1, Nat.eq_of_beq_eq_true h2.2]
      · cases h2
    · cases h
  · cases h
end

/-- a pure operation's value -/
def pevF (F : Facts) (ρ : Operand → PV) : Op → Option PV
  | .nilCheck x => bif (ρ x).notNil then (ρ x).force else none
  | .fieldAddr s x f => match findFo F.fo s f with
    | some off => match ρ x with
      | .ref cs => match dropO off cs with
        | some r => some (.ref r)
        | none => none
      | .val (.pointer (some ⟨b, k, none⟩)) => some (.val (.pointer (some ⟨b, k + off, none⟩)))
      | _ => none
    | none => none
  | .load t x => match findTi F.ti t with
    | some (ag, k) => match ρ x with
      | .ref cs => loadPV ag k cs
      | _ => none
    | none => none
  | .field t x f => match findFd F.fd t f with
    | some (off, ag, k) => match ρ x with
      | .agg cs => match dropO off cs with
        | some r => loadPV ag k r
        | none => none
      | _ => none
    | none => none
  | op => pev ρ op

theorem pevF_sound {P : Program} {F : Facts} (hF : F.okB P = true) {o : Oper} {ρ : Operand → PV} {σ : List Res} {R S : PV → List Res → Prop} {p : PV} (h : pevF F ρ o.op = some p) (hR : R p σ) : AO P o ρ σ R S := by
  unfold pevF at h
  split at h
  · rename_i x ho
    cases e : (ρ x).notNil with
    | false => rw [e] at h; cases h
    | true =>
      rw [e] at h
      simp only [cond_true] at h
      rw [← PV.force_eq h] at hR
      exact AO.nilCheck ho e hR
  · rename_i s x f ho
    split at h
    · rename_i off hoff
      split at h
      · rename_i cs hx
        split at h
        · rename_i r hr
          simp only [Option.some.injEq] at h
          subst h
          exact AO.fieldAddr_ref ho hx (Facts.foOk hF hoff) hr hR
        · cases h
      · rename_i b k hx
        simp only [Option.some.injEq] at h
        subst h
        exact AO.fieldAddr_ptr ho hx (Facts.foOk hF hoff) hR
      · cases h
    · cases h
  · rename_i t x ho
    split at h
    · rename_i ag k hti
      split at h
      · rename_i cs hx
        exact AO.load_ref ho hx (Facts.tiOk hF hti) h hR
      · cases h
    · cases h
  · rename_i t x f ho
    split at h
    · rename_i off ag k hfd
      obtain ⟨fs, fl, h1, h2, h3, h4⟩ := fdB_spec (Facts.fdOk hF hfd)
      split at h
      · rename_i cs hx
        split at h
        · rename_i r hr
          exact AO.field ho h1 h2 h3 h4 hx hr h hR
        · cases h
      · cases h
    · cases h
  · exact AO.calc' h hR

/-- is an operation carried out? -/
def guardOn (all : Array Oper) (env : Env) : Option (Nat × Bool) → Option Bool
  | none => some true
  | some (j, want) => match all[j]? with
    | some oj => match oj.dst with
      | some u => match env.get u with
        | .bool true => some want
        | .bool false => some (!want)
        | .val (.tuple ⟨[]⟩) => some false
        | _ => none
      | none => none
    | none => none

theorem guardOn_some {all : Array Oper} {env : Env} {j : Nat} {want r : Bool} (h : guardOn all env (some (j, want)) = some r) :
    ∃ oj u, all[j]? = some oj ∧ oj.dst = some u ∧ ((r = true ∧ env.get u = .bool want) ∨ (r = false ∧ (env.get u = .bool (!want) ∨ env.get u = .val Go.undef))) := by
  unfold guardOn at h
  simp only at h
  cases h1 : all[j]? with
  | none => rw [h1] at h; cases h
  | some oj =>
    rw [h1] at h
    simp only at h
    cases h2 : oj.dst with
    | none => rw [h2] at h; cases h
    | some u =>
      rw [h2] at h
      simp only at h
      refine ⟨oj, u, rfl, h2, ?_⟩
      split at h
      · rename_i he
        simp only [Option.some.injEq] at h
        subst h
        cases want with
        | true => exact .inl ⟨rfl, he⟩
        | false => exact .inr ⟨rfl, .inl he⟩
      · rename_i he
        simp only [Option.some.injEq] at h
        subst h
        cases want with
        | true => exact .inr ⟨rfl, .inl he⟩
        | false => exact .inl ⟨rfl, he⟩
      · rename_i he
        simp only [Option.some.injEq] at h
        subst h
        exact .inr ⟨rfl, .inr he⟩
      · cases h

/-- k operations -/
def pevs (F : Facts) (all : Array Oper) (n : Nat) : Nat → List Oper → Env → Option (Env × List Oper)
  | 0, l, env => some (env, l)
  | _ + 1, [], _ => none
  | k + 1, o :: rest, env => match o.dst with
    | some t => bif Nat.blt t n then (match guardOn all env o.guard with
      | some true => match pevF F env.ev o.op with
        | some p => pevs F all n k rest ((t, p) :: env)
        | none => none
      | some false => pevs F all n k rest ((t, .val Go.undef) :: env)
      | none => none) else none
    | none => none

section
variable {P : Program} {n : Nat} {σ : List Res} {ds : List Deferred} {Q : Post} {all : Array Oper} {F : Facts}

theorem AR.cs (hF : F.okB P = true) : ∀ (k : Nat) {l l' : List Oper} {env env' : Env}, pevs F all n k l env = some (env', l') → AR P n all l' env' σ ds Q → AR P n all l env σ ds Q
  | 0, l, l', env, env', h, hr => by simp only [pevs, Option.some.injEq, Prod.mk.injEq] at h; obtain ⟨rfl, rfl⟩ := h; exact hr
  | k + 1, [], l', env, env', h, hr => by simp [pevs] at h
  | k + 1, o :: rest, l', env, env', h, hr => by
    unfold pevs at h
    cases hd : o.dst with
    | none => rw [hd] at h; cases h
    | some t =>
      rw [hd] at h
      simp only at h
      cases ht : Nat.blt t n with
      | false => rw [ht] at h; cases h
      | true =>
        rw [ht] at h
        simp only [cond_true] at h
        cases hg : guardOn all env o.guard with
        | none => rw [hg] at h; cases h
        | some r =>
          rw [hg] at h
          cases r with
          | true =>
            simp only at h
            cases hp : pevF F env.ev o.op with
            | none => rw [hp] at h; cases h
            | some p =>
              rw [hp] at h
              have ih := AR.cs hF k h hr
              cases hgo : o.guard with
              | none => exact AR.step hgo hd ht (pevF_sound hF hp ih)
              | some jw =>
                obtain ⟨j, want⟩ := jw
                rw [hgo] at hg
                obtain ⟨oj, u, h1, h2, h3⟩ := guardOn_some hg
                rcases h3 with ⟨_, h3⟩ | ⟨h3, _⟩
                · refine AR.run (b := want) hgo h1 h2 h3 hd ht rfl ?_
                  exact AR.step rfl hd ht (pevF_sound hF hp ih)
                · cases h3
          | false =>
            simp only at h
            have ih := AR.cs hF k h hr
            cases hgo : o.guard with
            | none => rw [hgo] at hg; cases hg
            | some jw =>
              obtain ⟨j, want⟩ := jw
              rw [hgo] at hg
              obtain ⟨oj, u, h1, h2, h3⟩ := guardOn_some hg
              rcases h3 with ⟨h3, _⟩ | ⟨_, h3 | h3⟩
              · cases h3
              · exact AR.skip hgo h1 h2 h3 hd ht rfl ih
              · exact AR.skipU hgo h1 h2 h3 hd ht ih

theorem Ev.cs {K : Env → Prop} (hF : F.okB P = true) : ∀ (k : Nat) {l l' : List Oper} {env env' : Env}, pevs F all n k l env = some (env', l') → Ev P n all σ env' l' K → Ev P n all σ env l K
  | 0, l, l', env, env', h, hr => by simp only [pevs, Option.some.injEq, Prod.mk.injEq] at h; obtain ⟨rfl, rfl⟩ := h; exact hr
  | k + 1, [], l', env, env', h, hr => by simp [pevs] at h
  | k + 1, o :: rest, l', env, env', h, hr => by
    unfold pevs at h
    cases hd : o.dst with
    | none => rw [hd] at h; cases h
    | some t =>
      rw [hd] at h
      simp only at h
      cases ht : Nat.blt t n with
      | false => rw [ht] at h; cases h
      | true =>
        rw [ht] at h
        simp only [cond_true] at h
        cases hg : guardOn all env o.guard with
        | none => rw [hg] at h; cases h
        | some r =>
          rw [hg] at h
          cases r with
          | true =>
            simp only at h
            cases hp : pevF F env.ev o.op with
            | none => rw [hp] at h; cases h
            | some p =>
              rw [hp] at h
              have ih := Ev.cs hF k h hr
              cases hgo : o.guard with
              | none => exact Ev.cons hgo hd ht (pevF_sound hF hp ⟨rfl, rfl⟩) ih
              | some jw =>
                obtain ⟨j, want⟩ := jw
                rw [hgo] at hg
                obtain ⟨oj, u, h1, h2, h3⟩ := guardOn_some hg
                rcases h3 with ⟨_, h3⟩ | ⟨h3, _⟩
                · exact Ev.run (b := want) hgo h1 h2 h3 hd ht rfl (pevF_sound hF hp ⟨rfl, rfl⟩) ih
                · cases h3
          | false =>
            simp only at h
            have ih := Ev.cs hF k h hr
            cases hgo : o.guard with
            | none => rw [hgo] at hg; cases hg
            | some jw =>
              obtain ⟨j, want⟩ := jw
              rw [hgo] at hg
              obtain ⟨oj, u, h1, h2, h3⟩ := guardOn_some hg
              rcases h3 with ⟨h3, _⟩ | ⟨_, h3 | h3⟩
              · cases h3
              · exact Ev.skip hgo h1 h2 h3 hd ht rfl ih
              · exact Ev.skipU hgo h1 h2 h3 hd ht ih

/-- what a guard has turned out to be is written into its slot -/
theorem AR.is {l : List Oper} {env : Env} {b want : Bool} (u : Nat) (h : b = want) (hu : env.get u = .bool b) (hr : AR P n all l ((u, .bool want) :: env) σ ds Q) : AR P n all l env σ ds Q := by
  subst h
  refine AR.less ?_ hr
  intro t
  simp only [Env.get]
  cases e : Nat.beq u t with
  | false => exact .inr rfl
  | true => rw [← Nat.eq_of_beq_eq_true e]; exact .inr hu.symm
theorem Ev.is {K : Env → Prop} (hK : ∀ e e', Less e' e → K e' → K e) {l : List Oper} {env : Env} {b want : Bool} (u : Nat) (h : b = want) (hu : env.get u = .bool b) (hr : Ev P n all σ ((u, .bool want) :: env) l K) : Ev P n all σ env l K := by
  subst h
  refine Ev.less hK ?_ hr
  intro t
  simp only [Env.get]
  cases e : Nat.beq u t with
  | false => exact .inr rfl
  | true => rw [← Nat.eq_of_beq_eq_true e]; exact .inr hu.symm
/-- a guarded operation that is carried out -/
theorem AR.go {t j u : Nat} {want : Bool} {oj o : Oper} {rest : List Oper} {env : Env} (hg : o.guard = some (j, want)) (hj : all[j]? = some oj) (hu : oj.dst = some u) (hb : env.get u = .bool want) (hd : o.dst = some t) (ht : Nat.blt t n = true)
    (h : AO P { o with guard := none } env.ev σ (fun p σ' => AR P n all rest ((t, p) :: env) σ' ds Q) (fun p σ' => Q (.panic p) env σ' ds)) : AR P n all (o :: rest) env σ ds Q :=
  AR.run hg hj hu hb hd ht rfl (AR.step rfl hd ht h)
end
end Go.Abs

namespace Go.Abs
open Go
mutual
def bulkD {H : Type} : DataW H → Nat
  | .lit (.string bytes) => bytes.length + 1
  | .lit _ => 1
  | .nil => 1
  | .ptr d => bulkD d + 1
  | .slice elems spare => bulkDAll elems + bulkDAll spare + 1
  | .agg parts => bulkDAll parts + 1
  | .iface _ d => bulkD d + 1
  | .map entries => bulkDEntries entries + 1
  | .held _ => 1
def bulkDAll {H : Type} : List (DataW H) → Nat
  | [] => 0
  | d :: r => bulkD d + bulkDAll r
def bulkDEntries {H : Type} : List (Lit × DataW H) → Nat
  | [] => 0
  | x :: r => bulkDEntry x + bulkDEntries r
def bulkDEntry {H : Type} : Lit × DataW H → Nat
  | (.string bytes, d) => bytes.length + bulkD d + 1
  | (_, d) => bulkD d + 1
end
/-- of which abstract cells a plain datum of a type consists, and how many values and letters it holds -/
inductive TyB (P : Program) : TypeId → List PV → Nat → Prop
  | bool {t : TypeId} {b : Bool} : P.underlying t = some .bool → TyB P t [.bool b] 1
  | int {t : TypeId} {k : IntKind} {n : Int} : P.underlying t = some (.int k) → (Lit.int k n).wf = true → TyB P t [.int k n] 1
  | str {t : TypeId} {s : List UInt8} : P.underlying t = some .string → TyB P t [.str s] (s.length + 1)
  | slice {t e : TypeId} {l : List (List PV × Nat)} : P.underlying t = some (.slice e) → (∀ c ∈ l, TyB P e c.1 c.2) → TyB P t [.list (l.map (·.1))] ((l.map (·.2)).sum + 1)
  | struct {t : TypeId} {fs : Array Field} {ps : List (List PV × Nat)} : P.underlying t = some (.struct fs) → ps.length = fs.toList.length → (∀ x ∈ fs.toList.zip ps, TyB P x.1.type x.2.1 x.2.2) → TyB P t (ps.map (·.1)).flatten ((ps.map (·.2)).sum + 1)
  | array {t e : TypeId} {n : Nat} {ps : List (List PV × Nat)} : P.underlying t = some (.array n e) → ps.length = n → (∀ c ∈ ps, TyB P e c.1 c.2) → TyB P t (ps.map (·.1)).flatten ((ps.map (·.2)).sum + 1)
theorem sum_le_bulk {H α : Type} {g : Nat → List PV × Nat} : ∀ {n s : Nat} {es : List (DataW H × α)}, n = es.length → (∀ i, i < n → ∀ y, es[i]? = some y → (g (s + i)).2 ≤ bulkD y.1) →
    ((((List.range' s n).map g).map (·.2))).sum ≤ bulkDAll (es.map (·.1))
  | 0, s, [], _, _ => by simp [bulkDAll]
  | n + 1, s, e :: es, hl, h => by
    rw [List.range'_succ]
    simp only [List.map_cons, List.sum_cons, bulkDAll]
    have h0 := h 0 (by omega) e rfl
    have ih := sum_le_bulk (g := g) (n := n) (s := s + 1) (es := es) (by simpa using hl) fun i hi y hy => by
      have := h (i + 1) (by omega) y (by simpa using hy)
      rwa [show s + 1 + i = s + (i + 1) from by omega]
    simp only [Nat.add_zero] at h0
    omega
  | 0, s, e :: es, hl, _ => by simp at hl
  | n + 1, s, [], hl, _ => by simp at hl
theorem sum_le_bulkM {H α β : Type} {f : β → Option (DataW H × α)} {g : β → Nat} : ∀ {l : List β} {xs : List (DataW H × α)}, l.mapM f = some xs → (∀ b ∈ l, ∀ y, f b = some y → g b ≤ bulkD y.1) → (l.map g).sum ≤ bulkDAll (xs.map (·.1))
  | [], xs, h, _ => by simp
  | b :: l, xs, h, hb => by
    rw [List.mapM_cons] at h
    cases e : f b with
    | none => simp [e] at h
    | some y =>
      cases e2 : l.mapM f with
      | none => simp [e, e2] at h
      | some ys =>
        simp [e, e2] at h
        subst h
        have h0 := hb b List.mem_cons_self y e
        have ih := sum_le_bulkM (g := g) e2 fun b' hb' => hb b' (List.mem_cons_of_mem _ hb')
        simp only [List.map_cons, List.sum_cons, bulkDAll]
        omega
section
variable {P : Program} {w : World}
/-- a reading of a plain type yields abstract values -/
theorem trod_repB {H : Type} {enc : TypeId × Value → H} {sp : Nat → Bool} {held : Bool} {S : List TypeId} (hS : ∀ t, S.contains t = true → plainIn P S t = true) :
    ∀ (fuel : Nat) (t : TypeId) (cs : List Value) (x : DataW H × List MemPlace), S.contains t = true → DataW.trod enc P w 0 sp held fuel t cs = some x → ∃ ps N, RepL w (OldImm w) ps cs ∧ TyB P t ps N ∧ N ≤ bulkD x.1 := by
  intro fuel
  induction fuel with
  | zero => intro t cs x _ h; simp [DataW.trod] at h
  | succ fuel ih =>
    intro t cs x ht h
    have hp := hS t ht
    unfold plainIn at hp
    split at hp
    · rename_i hu
      unfold DataW.trod at h
      rw [hu] at h
      split at h <;> simp_all
      rename_i b
      subst h; exact ⟨[.bool b], RepL.cons (by simp only [Rep]) RepL.nil, _, .bool hu, Nat.le_refl _⟩
    · rename_i k hu
      unfold DataW.trod at h
      rw [hu] at h
      split at h <;> simp_all
      rename_i k1 k' n hk
      obtain ⟨⟨rfl, hw⟩, rfl⟩ := h
      exact ⟨[.int k' n], RepL.cons (by simp only [Rep]) RepL.nil, _, .int hu hw, Nat.le_refl _⟩
    · rename_i hu
      unfold DataW.trod at h
      rw [hu] at h
      split at h <;> simp_all
      rename_i b
      obtain ⟨_, rfl⟩ := h
      exact ⟨[.str b.data.toList], RepL.cons (by simp only [Rep]) RepL.nil, _, .str hu, Nat.le_refl _⟩
    · rename_i e hu
      simp only [Bool.and_eq_true, decide_eq_true_eq] at hp
      unfold DataW.trod at h
      rw [hu] at h
      split at h <;> first | (exfalso; simp_all; done) | skip
      · cases h
        exact ⟨[.list []], _, RepL.cons (by simp only [Rep]; exact ⟨none, 0, rfl, Nat.le_refl _, .inl trivial⟩) RepL.nil, .slice (l := []) hu (by simp), Nat.le_refl _⟩
      · rename_i e' a len cap heq1
        cases heq1
        simp only at h
        split at h
        · rename_i hb
          cases hm : (List.range len).mapM fun i => (w.cells? 0 (a.add (i * P.cellsOf e)) (P.cellsOf e)).bind (DataW.trod enc P w 0 sp held fuel e) with
          | none => rw [hm] at h; cases h
          | some elems =>
            rw [hm] at h
            simp only [Option.bind_some] at h
            obtain ⟨rest, _, hx⟩ := Option.map_eq_some_iff.1 h
            subst hx
            obtain ⟨_, hat⟩ := mapM_range_at hm
            have hlen := (mapM_range_at hm).1
            have hspot : 0 < len → a = ⟨a.block, a.off, none⟩ ∧ a.block < w.heap.size := by
              intro hpos
              have h1 := hat 0 hpos
              rw [List.getElem?_eq_getElem (by omega)] at h1
              cases hcs : w.cells? 0 (a.add (0 * P.cellsOf e)) (P.cellsOf e) with
              | none => rw [hcs] at h1; cases h1
              | some cs' =>
                simp only [World.cells?, Nat.zero_le, if_true] at hcs
                obtain ⟨hl', hat'⟩ := mapM_range_at hcs
                have h0 := hat' 0 hp.1
                rw [List.getElem?_eq_getElem (by omega)] at h0
                have := spot_of_cell h0
                simpa [Addr.add] using this
            have hone : ∀ i, ∃ ps : List PV × Nat, i < len → (ps.1.length = P.cellsOf e ∧ RepCs w (OldImm w) a.block (a.off + i * P.cellsOf e) ps.1 ∧ TyB P e ps.1 ps.2 ∧ ∀ y, elems[i]? = some y → ps.2 ≤ bulkD y.1) := by
              intro i
              rcases Nat.lt_or_ge i len with hi | hi
              · have h1 := hat i hi
                obtain ⟨hsp, hblk⟩ := hspot (by omega)
                rw [List.getElem?_eq_getElem (by omega)] at h1
                cases hcs : w.cells? 0 (a.add (i * P.cellsOf e)) (P.cellsOf e) with
                | none => rw [hcs] at h1; cases h1
                | some cs' =>
                  rw [hcs] at h1
                  obtain ⟨ps, N, hr, hty, hN⟩ := ih e cs' _ hp.2 h1
                  simp only [World.cells?, Nat.zero_le, if_true] at hcs
                  obtain ⟨hl', hat'⟩ := mapM_range_at hcs
                  refine ⟨(ps, N), fun _ => ⟨by rw [← hr.length_eq, hl'], ?_, hty, fun y hy => ?_⟩⟩
                  case refine_2 => rw [List.getElem?_eq_getElem (by omega)] at hy; cases hy; exact hN
                  refine repCs_of_cells hr (fun _ => hblk) fun j v hv => ?_
                  have hj : j < P.cellsOf e := by
                    rw [← hl']
                    exact (List.getElem?_eq_some_iff.1 hv).1
                  have := hat' j hj
                  rw [hv, hsp, Addr.add_lit, Addr.add_lit] at this
                  exact this
              · exact ⟨([], 0), fun h => by omega⟩
            obtain ⟨g, hg⟩ := choose_fun hone
            refine ⟨[.list (((List.range' 0 len).map g).map (·.1))], _, RepL.cons ?_ RepL.nil, .slice hu fun c hc => ?_, ?_⟩
            · simp only [Rep]
              refine ⟨some a, cap, by simp, by simp; omega, ?_⟩
              rcases Nat.eq_zero_or_pos len with h0 | h0
              · subst h0; exact .inl rfl
              · refine .inr ⟨a.block, a.off, P.cellsOf e, by rw [← (hspot h0).1], ?_⟩
                rw [List.map_map]
                refine repEls_range len 0 a.off fun i hi => ?_
                rw [Nat.zero_add]
                exact ⟨(hg i hi).1, (hg i hi).2.1⟩
            · obtain ⟨i, hi, rfl⟩ := List.mem_map.1 hc
              simp at hi
              exact (hg i hi).2.2.1
            · have hsum := sum_le_bulk (g := g) (n := len) (s := 0) (es := elems) (by omega) fun i hi y hy => (hg (0 + i) (by omega)).2.2.2 y (by simpa using hy)
              simp only [bulkD]
              omega
        · cases h
    · rename_i fs hu
      simp only [Bool.and_eq_true] at hp
      unfold DataW.trod at h
      rw [hu] at h
      split at h <;> first | (exfalso; simp_all; done) | skip
      rename_i cs _ _ fs' heq
      cases heq
      split at h
      · rename_i hlen
        cases hm : fs.toList.mapM fun f => DataW.trod enc P w 0 sp held fuel f.type ((cs.drop f.offset).take (P.cellsOf f.type)) with
        | none => rw [hm] at h; cases h
        | some xs =>
          obtain ⟨hxl, hat⟩ := mapM_at hm
          rw [hm] at h
          simp only [Option.map_some, Option.some.injEq] at h
          subst h
          have hone : ∀ f : Field, ∃ ps : List PV × Nat, f ∈ fs.toList → RepL w (OldImm w) ps.1 ((cs.drop f.offset).take (P.cellsOf f.type)) ∧ TyB P f.type ps.1 ps.2 ∧ ∀ y, DataW.trod enc P w 0 sp held fuel f.type ((cs.drop f.offset).take (P.cellsOf f.type)) = some y → ps.2 ≤ bulkD y.1 := by
            intro f
            by_cases hf : f ∈ fs.toList
            · obtain ⟨i, hi⟩ := List.getElem?_of_mem hf
              have h1 := hat i f hi
              have hil : i < fs.toList.length := (List.getElem?_eq_some_iff.1 hi).1
              rw [List.getElem?_eq_getElem (by omega)] at h1
              have hSf : S.contains f.type = true := (List.all_eq_true.1 hp.2) f hf
              obtain ⟨ps, N, h2, h3, h4⟩ := ih f.type _ _ hSf h1
              exact ⟨(ps, N), fun _ => ⟨h2, h3, fun y hy => by rw [h1] at hy; cases hy; exact h4⟩⟩
            · exact ⟨([], 0), fun h => absurd h hf⟩
          obtain ⟨g, hg⟩ := choose_fun hone
          refine ⟨((fs.toList.map g).map (·.1)).flatten, _, ?_, .struct hu (by simp) fun x hx => ?_, ?_⟩
          · rw [List.map_map]
            have := repL_tiles (w := w) (m := OldImm w) (cs := cs) (g := fun f => (g f).1) fs.toList 0 _ hp.1 hlen.symm fun f hf => (hg f hf).1
            simpa [Function.comp_def] using this
          · obtain ⟨k1, k2⟩ := zip_self g _ _ hx
            rw [k2]
            exact (hg _ k1).2.1
          · have hsum := sum_le_bulkM (g := fun f => (g f).2) hm fun f hf y hy => (hg f hf).2.2 y hy
            rw [List.map_map]
            simp only [bulkD]
            have : (fs.toList.map ((fun x => x.2) ∘ g)).sum = (fs.toList.map fun f => (g f).2).sum := rfl
            omega
      · cases h
    · rename_i n e hu
      simp only [Bool.and_eq_true, beq_iff_eq] at hp
      unfold DataW.trod at h
      rw [hu] at h
      split at h <;> first | (exfalso; simp_all; done) | skip
      rename_i cs _ _ n' e' heq
      cases heq
      split at h
      · rename_i hlen
        cases hm : (List.range n).mapM fun i => DataW.trod enc P w 0 sp held fuel e ((cs.drop (i * P.cellsOf e)).take (P.cellsOf e)) with
        | none => rw [hm] at h; cases h
        | some xs =>
          obtain ⟨hxl, hat⟩ := mapM_range_at hm
          rw [hm] at h
          simp only [Option.map_some, Option.some.injEq] at h
          subst h
          have hone : ∀ i, ∃ ps : List PV × Nat, i < n → RepL w (OldImm w) ps.1 ((cs.drop (i * P.cellsOf e)).take (P.cellsOf e)) ∧ TyB P e ps.1 ps.2 ∧ ∀ y, xs[i]? = some y → ps.2 ≤ bulkD y.1 := by
            intro i
            rcases Nat.lt_or_ge i n with hi | hi
            · have h1 := hat i hi
              rw [List.getElem?_eq_getElem (by omega)] at h1
              obtain ⟨ps, N, h2, h3, h4⟩ := ih e _ _ hp.2 h1
              exact ⟨(ps, N), fun _ => ⟨h2, h3, fun y hy => by rw [List.getElem?_eq_getElem (by omega)] at hy; cases hy; exact h4⟩⟩
            · exact ⟨([], 0), fun h => by omega⟩
          obtain ⟨g, hg⟩ := choose_fun hone
          refine ⟨(((List.range' 0 n).map g).map (·.1)).flatten, _, ?_, .array hu (by simp) fun c hc => ?_, ?_⟩
          · rw [List.map_map]
            have := repL_rows (w := w) (m := OldImm w) (cs := cs) (sz := P.cellsOf e) (g := fun i => (g i).1) n 0 (by rw [hlen, hp.1, Nat.zero_add]) fun i hi => (hg i (by omega)).1
            simpa [Function.comp_def] using this
          · obtain ⟨i, hi, rfl⟩ := List.mem_map.1 hc
            simp at hi
            exact (hg i hi).2.1
          · have hsum := sum_le_bulk (g := g) (n := n) (s := 0) (es := xs) (by omega) fun i hi y hy => (hg (0 + i) (by omega)).2.2 y (by simpa using hy)
            simp only [bulkD]
            omega
      · cases h
    · cases hp


/-- an argument of a plain type, and its bulk -/
inductive TyVB (P : Program) : TypeId → PV → Nat → Prop
  | one {t : TypeId} {p : PV} {N : Nat} : TyB P t [p] N → (∀ fs, P.underlying t ≠ some (.struct fs)) → (∀ n e, P.underlying t ≠ some (.array n e)) → TyVB P t p N
  | agg {t : TypeId} {cs : List PV} {N : Nat} : TyB P t cs N → ((∃ fs, P.underlying t = some (.struct fs)) ∨ ∃ n e, P.underlying t = some (.array n e)) → TyVB P t (.agg cs) N
def TyAllB (P : Program) : List TypeId → List PV → Nat → Prop
  | [], ps, N => ps = [] ∧ N = 0
  | t :: ts, ps, N => ∃ p ps' A B, ps = p :: ps' ∧ N = A + B ∧ TyVB P t p A ∧ TyAllB P ts ps' B
theorem Trod_repB {H : Type} {enc : TypeId × Value → H} {sp : Nat → Bool} {held : Bool} {S : List TypeId} (hS : ∀ t, S.contains t = true → plainIn P S t = true) {r : Reach} {b0 : Nat} {t : TypeId} {v : Value} {d : DataW H} {ps : List MemPlace}
    (ht : S.contains t = true) (hv : Value.okWide P w r b0 t v) (h : DataW.Trod enc P w 0 sp held t v d ps) : ∃ p N, Rep w (OldImm w) p v ∧ TyVB P t p N ∧ N ≤ bulkD d := by
  obtain ⟨fuel, h⟩ := h
  obtain ⟨qs, N, hr, hty, hN⟩ := trod_repB hS fuel t _ _ ht h
  have hp := hS t ht
  unfold plainIn at hp
  have hone : (∀ fs, P.underlying t ≠ some (.struct fs)) → (∀ n e, P.underlying t ≠ some (.array n e)) → v.cells.toList = [v] → ∃ p N, Rep w (OldImm w) p v ∧ TyVB P t p N ∧ N ≤ bulkD d := by
    intro h1 h2 h3
    rw [h3] at hr
    obtain ⟨p, rfl, h4⟩ := repL_one hr
    exact ⟨p, N, h4, .one hty h1 h2, hN⟩
  unfold Value.okWide at hv
  split at hp
  · rename_i hu
    rw [hu] at hv
    refine hone (by simp [hu]) (by simp [hu]) ?_
    cases v <;> simp_all [Cell.okWide, Cell.ok, Value.cells]
  · rename_i hu
    rw [hu] at hv
    refine hone (by simp [hu]) (by simp [hu]) ?_
    cases v <;> simp_all [Cell.okWide, Cell.ok, Value.cells]
  · rename_i hu
    rw [hu] at hv
    refine hone (by simp [hu]) (by simp [hu]) ?_
    cases v <;> simp_all [Cell.okWide, Cell.ok, Value.cells]
  · rename_i hu
    rw [hu] at hv
    refine hone (by simp [hu]) (by simp [hu]) ?_
    cases v <;> simp_all [Cell.okWide, Cell.ok, Value.cells]
  · rename_i hu
    rw [hu] at hv
    obtain ⟨cs, rfl, _⟩ := hv
    exact ⟨.agg qs, N, by simp only [Rep]; exact ⟨cs.toList, rfl, hr⟩, .agg hty (.inl ⟨_, hu⟩), hN⟩
  · rename_i hu
    rw [hu] at hv
    obtain ⟨cs, rfl, _⟩ := hv
    exact ⟨.agg qs, N, by simp only [Rep]; exact ⟨cs.toList, rfl, hr⟩, .agg hty (.inr ⟨_, _, hu⟩), hN⟩
  · cases hp

theorem TrodAll_repB {H : Type} {enc : TypeId × Value → H} {sp : Nat → Bool} {held : Bool} {S : List TypeId} (hS : ∀ t, S.contains t = true → plainIn P S t = true) {r : Reach} {b0 : Nat} :
    ∀ (ts : List TypeId) (vs : List Value) (ds : List (DataW H)) (ps : List MemPlace), (∀ t ∈ ts, S.contains t = true) → (∀ (j : Nat) t v, ts[j]? = some t → vs[j]? = some v → Value.okWide P w r b0 t v) →
    DataW.TrodAll enc P w 0 sp held ts vs ds ps → ds.length = ts.length ∧ ∃ qs N, RepL w (OldImm w) qs vs ∧ TyAllB P ts qs N ∧ N ≤ bulkDAll ds
  | [], [], [], _, _, _, _ => ⟨rfl, [], 0, RepL.nil, ⟨rfl, rfl⟩, Nat.le_refl _⟩
  | t :: ts, v :: vs, d :: ds, ps, hts, hv, h => by
    obtain ⟨p, q, h1, h2, _⟩ := h
    obtain ⟨p1, N1, k1, k2, k3⟩ := Trod_repB hS (hts t List.mem_cons_self) (hv 0 t v rfl rfl) h1
    obtain ⟨hl, qs, N2, k4, k5, k6⟩ := TrodAll_repB hS ts vs ds q (fun x hx => hts x (List.mem_cons_of_mem _ hx)) (fun j t' v' e1 e2 => hv (j + 1) t' v' (by simpa using e1) (by simpa using e2)) h2
    exact ⟨by simp [hl], p1 :: qs, N1 + N2, RepL.cons k1 k4, ⟨p1, qs, N1, N2, rfl, rfl, k2, k5⟩, by simp only [bulkDAll]; omega⟩
  | [], [], _ :: _, _, _, _, h => h.elim
  | [], _ :: _, _, _, _, _, h => by cases h
  | _ :: _, [], _, _, _, _, h => by cases h
  | _ :: _, _ :: _, [], _, _, _, h => h.elim

theorem law_stepB {H : Type} {enc : TypeId × Value → H} {f : Func} {fid : FuncId} {s : ChangeSpec} {S : List TypeId} {tb : TypeId} (hS : (S.all fun t => plainIn P S t) = true) (hts : ∀ t ∈ f.params.toList, S.contains t = true)
    (hrd : ∀ t ∈ f.params.toList, P.readableRec t = true ∧ t < P.types.size) (hl : laidOutB P = true) (hres : f.resultTypes = #[tb]) (hbool : P.underlying tb = some .bool) (hvars : s.vars = [])
    (hspec : ∀ ds : List (DataW H), ds.length = f.params.toList.length → s.fn H ds = { results := [.lit (.bool true)], args := ds })
    {ds : List (DataW H)} (walk : ∀ qs N, TyAllB P f.params.toList qs N → N ≤ bulkDAll ds → AC P fid qs [] fun out _ => out = .ret (.bool true))
    {W : World} {base : Nat} {args : Array Value} {gs : List (DataW H)} {before : List MemPlace} (hval : ∀ (j : Nat) t v, f.params[j]? = some t → args[j]? = some v → Value.okWide P W .any base t v)
    (hW : DataW.Whole enc P f.params.toList s.vars false W args.toList ds gs before) :
    Calls P fid args W fun e W' => ∃ v, e = .returned v ∧ s.post enc P f false true false false W args v W' := by
  have hW' := hW
  have hlt := hW.lt
  obtain ⟨p, q, hA, hV, rfl, hfz, hnd⟩ := hW
  rw [hvars] at hV
  obtain ⟨rfl, rfl⟩ : gs = [] ∧ q = [] := by
    cases gs with
    | nil => exact ⟨rfl, hV⟩
    | cons g gs => exact hV.elim
  have hS' : ∀ t, S.contains t = true → plainIn P S t = true := fun t ht => List.all_eq_true.1 hS t (by simpa using ht)
  obtain ⟨hdl, qs, N, hr, hty, hN⟩ := TrodAll_repB hS' f.params.toList args.toList ds p hts (fun j t v e1 e2 => hval j t v (by simpa using e1) (by simpa using e2)) hA
  have hconc : Conc W (OldImm W) [] := ⟨fun r hr => by simp at hr, by simp [fps], fun b _ h => h⟩
  have hcall := walk qs N hty hN W (OldImm W) args.toList hconc hr
  rw [Array.toArray_toList] at hcall
  refine hcall.mono ?_
  rintro e W' ⟨out, σ', m', rfl, hout, _, htr⟩
  simp only [RepOut] at hout
  obtain ⟨v, rfl, hv⟩ := hout
  simp only [Rep] at hv
  subst hv
  have bel : Go.RowKit.Below W.heap.size W W' := ⟨htr.os, htr.tape, htr.output, htr.size, fun k hk => (htr.keep k hk (by simp [fps])).1⟩
  refine ⟨_, rfl, ds, [], _, [], p, [], hW', ?_, ?_, ?_, bel.frame _, fun h => by cases h⟩
  · rw [List.append_nil, hspec ds hdl, hres]
    exact ⟨[], [], ⟨1, by simp [DataW.trod, hbool, Value.cells]⟩, rfl, rfl⟩
  · rw [List.append_nil, hspec ds hdl]
    exact TrodAll_below hl bel _ _ _ _ hrd hA fun x hx => hlt x (List.mem_append_left _ hx)
  · rw [List.append_nil, hspec ds hdl, hvars]
    rfl


theorem TyB.intI {t : TypeId} {k : IntKind} {c : List PV} {N : Nat} (h : TyB P t c N) (hu : P.underlying t = some (.int k)) : ∃ n, c = [.int k n] ∧ (Lit.int k n).wf = true ∧ N = 1 := by
  cases h with
  | int hu' hw => rw [hu] at hu'; cases hu'; exact ⟨_, rfl, hw, rfl⟩
  | _ hu' => rw [hu] at hu'; cases hu'
theorem TyB.boolI {t : TypeId} {c : List PV} {N : Nat} (h : TyB P t c N) (hu : P.underlying t = some .bool) : ∃ b, c = [.bool b] ∧ N = 1 := by
  cases h with
  | bool hu' => exact ⟨_, rfl, rfl⟩
  | _ hu' => rw [hu] at hu'; cases hu'
theorem TyB.strI {t : TypeId} {c : List PV} {N : Nat} (h : TyB P t c N) (hu : P.underlying t = some .string) : ∃ s, c = [.str s] ∧ N = s.length + 1 := by
  cases h with
  | str hu' => exact ⟨_, rfl, rfl⟩
  | _ hu' => rw [hu] at hu'; cases hu'
theorem TyB.sliceI {t e : TypeId} {c : List PV} {N : Nat} (h : TyB P t c N) (hu : P.underlying t = some (.slice e)) : ∃ l : List (List PV × Nat), c = [.list (l.map (·.1))] ∧ N = (l.map (·.2)).sum + 1 ∧ ∀ x ∈ l, TyB P e x.1 x.2 := by
  cases h with
  | slice hu' h' => rw [hu] at hu'; cases hu'; exact ⟨_, rfl, rfl, h'⟩
  | _ hu' => rw [hu] at hu'; cases hu'
theorem TyB.structI {t : TypeId} {fs : Array Field} {c : List PV} {N : Nat} (h : TyB P t c N) (hu : P.underlying t = some (.struct fs)) : ∃ ps : List (List PV × Nat), c = (ps.map (·.1)).flatten ∧ N = (ps.map (·.2)).sum + 1 ∧ ps.length = fs.toList.length ∧ ∀ x ∈ fs.toList.zip ps, TyB P x.1.type x.2.1 x.2.2 := by
  cases h with
  | struct hu' h1 h2 => rw [hu] at hu'; cases hu'; exact ⟨_, rfl, rfl, h1, h2⟩
  | _ hu' => rw [hu] at hu'; cases hu'
theorem TyVB.oneI {t : TypeId} {p : PV} {N : Nat} (h : TyVB P t p N) (h1 : ∀ fs, P.underlying t ≠ some (.struct fs)) (h2 : ∀ n e, P.underlying t ≠ some (.array n e)) : TyB P t [p] N := by
  cases h with
  | one h _ _ => exact h
  | agg h hor => rcases hor with ⟨fs, hu⟩ | ⟨n, e, hu⟩; exact absurd hu (h1 _); exact absurd hu (h2 _ _)
theorem TyVB.aggI {t : TypeId} {p : PV} {N : Nat} (h : TyVB P t p N) (hu : ∃ fs, P.underlying t = some (.struct fs)) : ∃ cs, p = .agg cs ∧ TyB P t cs N := by
  cases h with
  | one _ h1 _ => obtain ⟨fs, hu⟩ := hu; exact absurd hu (h1 _)
  | agg h _ => exact ⟨_, rfl, h⟩
theorem le_sum : ∀ {l : List (List PV × Nat)} {x : List PV × Nat}, x ∈ l → x.2 ≤ (l.map (·.2)).sum
  | [], x, h => by cases h
  | y :: l, x, h => by
    simp only [List.map_cons, List.sum_cons]
    rcases List.mem_cons.1 h with rfl | h
    · omega
    · have := le_sum h; omega
/-- a list of rows, each of one made from something, with a measure -/
theorem list_ofB {α : Type} {f : α → List PV} {μ : α → Nat} : ∀ {l : List (List PV × Nat)}, (∀ x ∈ l, ∃ a, x.1 = f a ∧ μ a ≤ x.2) → ∃ as : List α, l.map (·.1) = as.map f ∧ (as.map μ).sum ≤ (l.map (·.2)).sum
  | [], _ => ⟨[], rfl, Nat.le_refl _⟩
  | x :: l, h => by
    obtain ⟨a, h1, h2⟩ := h x List.mem_cons_self
    obtain ⟨as, h3, h4⟩ := list_ofB fun y hy => h y (List.mem_cons_of_mem _ hy)
    exact ⟨a :: as, by simp [h1, h3], by simp only [List.map_cons, List.sum_cons]; omega⟩
end
end Go.Abs
