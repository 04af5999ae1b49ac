/- Proved here: a calculus of abstract values over the given model of Go: what a call does with memory, told without the memory (values, code, regions, calls). -/
import Derived.Orders
import Derived.Tactics
import Derived.Laws.AppendOwn
import Derived.Laws.OwnMore
import Derived.BigFrame
import Derived.Laws.Strings
import Derived.Deep.AppendSrc
set_option linter.unusedVariables false
set_option linter.unusedSimpArgs false
namespace Go.Abs
open Go

/-- an abstract value -/
inductive PV where
  | undef
  | int (k : IntKind) (n : Int)
  | bool (b : Bool)
  | str (s : List UInt8)
  | list (l : List (List PV))
  | agg (cs : List PV)
  | tuple (vs : List PV)
  | val (v : Value)
  | iface (t : TypeId) (p : PV)
  | fn (f : FuncId) (caps : List PV)
  | ref (cs : List PV)
  | own (v : Value) (l : List (List PV))

abbrev Imm := Nat → Nat → Prop

mutual
def Rep (w : World) (m : Imm) : PV → Value → Prop
  | .undef, _ => True
  | .int k n, v => v = .int k n
  | .bool b, v => v = .bool b
  | .str s, v => v = .string ⟨s.toArray⟩
  | .list l, v => ∃ a cap, v = .slice a l.length cap ∧ l.length ≤ cap ∧ (l = [] ∨ ∃ b off sz, a = some ⟨b, off, none⟩ ∧ RepEls w m b sz off l)
  | .agg cs, v => ∃ vs : List Value, v = .agg vs.toArray ∧ RepL w m cs vs
  | .tuple cs, v => ∃ vs : List Value, v = .tuple vs.toArray ∧ RepL w m cs vs
  | .val x, v => v = x
  | .iface t p, v => ∃ x, v = .iface t x ∧ Rep w m p x
  | .fn f caps, v => ∃ cs : List Value, v = .func (.func f) #[] cs.toArray ∧ RepL w m caps cs
  | .ref cs, v => ∃ b off, v = .pointer (some ⟨b, off, none⟩) ∧ RepCs w m b off cs
  | .own x l, v => v = x ∧ ∃ a cap, v = .slice a l.length cap ∧ l.length ≤ cap ∧ (l = [] ∨ ∃ b off sz, a = some ⟨b, off, none⟩ ∧ RepEls w m b sz off l)
def RepL (w : World) (m : Imm) : List PV → List Value → Prop
  | [], vs => vs = []
  | p :: ps, vs => ∃ v vs', vs = v :: vs' ∧ Rep w m p v ∧ RepL w m ps vs'
def RepCs (w : World) (m : Imm) (b : Nat) (off : Nat) : List PV → Prop
  | [] => True
  | c :: cs => (∃ v, m b off ∧ w.cell? ⟨b, off, none⟩ = some v ∧ Rep w m c v) ∧ RepCs w m b (off + 1) cs
def RepEls (w : World) (m : Imm) (b sz : Nat) (off : Nat) : List (List PV) → Prop
  | [] => True
  | e :: es => (e.length = sz ∧ RepCs w m b off e) ∧ RepEls w m b sz (off + sz) es
end

/-- what is immutable stays so, and holds what it held -/
def Le (w : World) (m : Imm) (w' : World) (m' : Imm) : Prop :=
  ∀ b off, m b off → m' b off ∧ w'.cell? ⟨b, off, none⟩ = w.cell? ⟨b, off, none⟩

theorem Le.refl (w : World) (m : Imm) : Le w m w m := fun _ _ h => ⟨h, rfl⟩
theorem Le.trans {w w1 w2 : World} {m m1 m2 : Imm} (h : Le w m w1 m1) (k : Le w1 m1 w2 m2) : Le w m w2 m2 :=
  fun b off hm => let ⟨h1, h2⟩ := h b off hm; let ⟨k1, k2⟩ := k b off h1; ⟨k1, k2.trans h2⟩

mutual
theorem Rep.mono {w w' : World} {m m' : Imm} (h : Le w m w' m') : ∀ (p : PV) (v : Value), Rep w m p v → Rep w' m' p v
  | .undef, _, _ => trivial
  | .int _ _, _, hr => by simp only [Rep] at hr ⊢; exact hr
  | .bool _, _, hr => by simp only [Rep] at hr ⊢; exact hr
  | .str _, _, hr => by simp only [Rep] at hr ⊢; exact hr
  | .list l, _, hr => by
    simp only [Rep] at hr ⊢
    obtain ⟨a, cap, h1, h2, h3⟩ := hr
    refine ⟨a, cap, h1, h2, ?_⟩
    rcases h3 with h3 | ⟨b, off, sz, h4, h5⟩
    · exact .inl h3
    · exact .inr ⟨b, off, sz, h4, RepEls.mono h l b sz off h5⟩
  | .agg cs, _, hr => by
    simp only [Rep] at hr ⊢
    obtain ⟨vs, h1, h2⟩ := hr
    exact ⟨vs, h1, RepL.mono h cs vs h2⟩
  | .tuple cs, _, hr => by
    simp only [Rep] at hr ⊢
    obtain ⟨vs, h1, h2⟩ := hr
    exact ⟨vs, h1, RepL.mono h cs vs h2⟩
  | .val _, _, hr => by simp only [Rep] at hr ⊢; exact hr
  | .iface t p, _, hr => by
    simp only [Rep] at hr ⊢
    obtain ⟨x, h1, h2⟩ := hr
    exact ⟨x, h1, Rep.mono h p x h2⟩
  | .fn f cs, _, hr => by
    simp only [Rep] at hr ⊢
    obtain ⟨vs, h1, h2⟩ := hr
    exact ⟨vs, h1, RepL.mono h cs vs h2⟩
  | .ref cs, _, hr => by
    simp only [Rep] at hr ⊢
    obtain ⟨b, off, h1, h2⟩ := hr
    exact ⟨b, off, h1, RepCs.mono h cs b off h2⟩
  | .own _ l, _, hr => by
    simp only [Rep] at hr ⊢
    obtain ⟨h0, a, cap, h1, h2, h3⟩ := hr
    refine ⟨h0, a, cap, h1, h2, ?_⟩
    rcases h3 with h3 | ⟨b, off, sz, h4, h5⟩
    · exact .inl h3
    · exact .inr ⟨b, off, sz, h4, RepEls.mono h l b sz off h5⟩
theorem RepL.mono {w w' : World} {m m' : Imm} (h : Le w m w' m') : ∀ (ps : List PV) (vs : List Value), RepL w m ps vs → RepL w' m' ps vs
  | [], _, hr => by simp only [RepL] at hr ⊢; exact hr
  | p :: ps, _, hr => by
    simp only [RepL] at hr ⊢
    obtain ⟨v, vs', h1, h2, h3⟩ := hr
    exact ⟨v, vs', h1, Rep.mono h p v h2, RepL.mono h ps vs' h3⟩
theorem RepCs.mono {w w' : World} {m m' : Imm} (h : Le w m w' m') : ∀ (cs : List PV) (b off : Nat), RepCs w m b off cs → RepCs w' m' b off cs
  | [], _, _, _ => by simp only [RepCs]
  | c :: cs, b, off, hr => by
    simp only [RepCs] at hr ⊢
    obtain ⟨⟨v, h1, h2, h3⟩, h4⟩ := hr
    exact ⟨⟨v, (h b off h1).1, (h b off h1).2.trans h2, Rep.mono h c v h3⟩, RepCs.mono h cs b (off + 1) h4⟩
theorem RepEls.mono {w w' : World} {m m' : Imm} (h : Le w m w' m') : ∀ (l : List (List PV)) (b sz off : Nat), RepEls w m b sz off l → RepEls w' m' b sz off l
  | [], _, _, _, _ => by simp only [RepEls]
  | e :: es, b, sz, off, hr => by
    simp only [RepEls] at hr ⊢
    obtain ⟨⟨h1, h2⟩, h3⟩ := hr
    exact ⟨⟨h1, RepCs.mono h e b off h2⟩, RepEls.mono h es b sz (off + sz) h3⟩
end

section
variable {w : World} {m : Imm}
theorem RepL.length_eq : ∀ {ps : List PV} {vs : List Value}, RepL w m ps vs → vs.length = ps.length
  | [], _, h => by simp only [RepL] at h; simp [h]
  | p :: ps, _, h => by
    simp only [RepL] at h
    obtain ⟨v, vs', rfl, _, h3⟩ := h
    simp [RepL.length_eq h3]

theorem RepL.cons {p : PV} {ps : List PV} {v : Value} {vs : List Value} (h : Rep w m p v) (k : RepL w m ps vs) : RepL w m (p :: ps) (v :: vs) := by
  simp only [RepL]; exact ⟨v, vs, rfl, h, k⟩
theorem RepL.nil : RepL w m [] [] := by simp only [RepL]

theorem RepL.append : ∀ {ps qs : List PV} {vs us : List Value}, RepL w m ps vs → RepL w m qs us → RepL w m (ps ++ qs) (vs ++ us)
  | [], _, _, _, h, k => by simp only [RepL] at h; simpa [h] using k
  | p :: ps, _, _, _, h, k => by
    simp only [RepL] at h
    obtain ⟨v, vs', rfl, h2, h3⟩ := h
    exact RepL.cons h2 (RepL.append h3 k)

theorem RepL.get : ∀ {ps : List PV} {vs : List Value} (_ : RepL w m ps vs) (i : Nat), Rep w m (ps.getD i .undef) (vs.getD i Go.undef)
  | [], _, h, i => by simp [Rep]
  | p :: ps, _, h, i => by
    simp only [RepL] at h
    obtain ⟨v, vs', rfl, h2, h3⟩ := h
    cases i with
    | zero => simpa using h2
    | succ i => simpa using RepL.get h3 i

theorem RepL.get? : ∀ {ps : List PV} {vs : List Value} (_ : RepL w m ps vs) (i : Nat) {p : PV}, ps[i]? = some p → ∃ v, vs[i]? = some v ∧ Rep w m p v
  | [], _, h, i, p, hp => by simp at hp
  | q :: ps, _, h, i, p, hp => by
    simp only [RepL] at h
    obtain ⟨v, vs', rfl, h2, h3⟩ := h
    cases i with
    | zero => simp at hp; subst hp; exact ⟨v, by simp, h2⟩
    | succ i => simp at hp; simpa using RepL.get? h3 i hp

/-- cells that follow one another, read as a list of values -/
theorem RepCs_iff : ∀ {cs : List PV} {b off : Nat}, RepCs w m b off cs ↔ ∃ vs, RepL w m cs vs ∧ ∀ i v, vs[i]? = some v → m b (off + i) ∧ w.cell? ⟨b, off + i, none⟩ = some v
  | [], b, off => by
    simp only [RepCs, true_iff]
    exact ⟨[], RepL.nil, fun i v h => by simp at h⟩
  | c :: cs, b, off => by
    simp only [RepCs]
    constructor
    · rintro ⟨⟨v, h1, h2, h3⟩, h4⟩
      obtain ⟨vs, k1, k2⟩ := RepCs_iff.1 h4
      refine ⟨v :: vs, RepL.cons h3 k1, fun i u hu => ?_⟩
      cases i with
      | zero => simp at hu; subst hu; exact ⟨h1, h2⟩
      | succ i =>
        have := k2 i u (by simpa using hu)
        simpa [Nat.add_assoc, Nat.add_comm 1 i] using this
    · rintro ⟨vs, k1, k2⟩
      simp only [RepL] at k1
      obtain ⟨v, vs', rfl, h2, h3⟩ := k1
      have k0 := k2 0 v (by simp)
      refine ⟨⟨v, by simpa using k0.1, by simpa using k0.2, h2⟩, RepCs_iff.2 ⟨vs', h3, fun i u hu => ?_⟩⟩
      have := k2 (i + 1) u (by simpa using hu)
      simpa [Nat.add_assoc, Nat.add_comm 1 i] using this

theorem RepCs_append {b : Nat} : ∀ {cs ds : List PV} {off : Nat}, RepCs w m b off (cs ++ ds) ↔ RepCs w m b off cs ∧ RepCs w m b (off + cs.length) ds
  | [], ds, off => by simp [RepCs]
  | c :: cs, ds, off => by
    simp only [List.cons_append, RepCs, RepCs_append, List.length_cons]
    rw [show off + 1 + cs.length = off + (cs.length + 1) from by omega, and_assoc]

theorem RepEls_iff {b sz : Nat} : ∀ {l : List (List PV)} {off : Nat}, RepEls w m b sz off l ↔ (∀ e ∈ l, e.length = sz) ∧ RepCs w m b off l.flatten
  | [], off => by simp [RepEls, RepCs]
  | e :: es, off => by
    simp only [RepEls, List.flatten_cons, RepCs_append, RepEls_iff, List.mem_cons, forall_eq_or_imp]
    constructor
    · rintro ⟨⟨h1, h2⟩, h3, h4⟩
      exact ⟨⟨h1, h3⟩, h2, by rw [h1]; exact h4⟩
    · rintro ⟨⟨h1, h3⟩, h2, h4⟩
      exact ⟨⟨h1, h2⟩, h3, by rw [h1] at h4; exact h4⟩

theorem RepCs_drop {b : Nat} {cs : List PV} {off : Nat} (h : RepCs w m b off cs) (k : Nat) (hk : k ≤ cs.length) : RepCs w m b (off + k) (cs.drop k) := by
  have := (RepCs_append (cs := cs.take k) (ds := cs.drop k) (off := off) (b := b)).1 (by simpa using h)
  simpa [Nat.min_eq_left hk] using this.2

theorem RepCs_take {b : Nat} {cs : List PV} {off : Nat} (h : RepCs w m b off cs) (k : Nat) : RepCs w m b off (cs.take k) := by
  have := (RepCs_append (cs := cs.take k) (ds := cs.drop k) (off := off) (b := b)).1 (by simpa using h)
  exact this.1

theorem RepEls_drop {b sz : Nat} : ∀ {l : List (List PV)} {off : Nat} (_ : RepEls w m b sz off l) (k : Nat), RepEls w m b sz (off + k * sz) (l.drop k)
  | [], _, _, _ => by simp [RepEls]
  | e :: es, off, h, 0 => by simpa using h
  | e :: es, off, h, k + 1 => by
    simp only [RepEls] at h
    have := RepEls_drop h.2 k
    simpa [Nat.add_mul, Nat.add_assoc, Nat.add_comm sz] using this

theorem RepEls_take {b sz : Nat} : ∀ {l : List (List PV)} {off : Nat} (_ : RepEls w m b sz off l) (k : Nat), RepEls w m b sz off (l.take k)
  | [], _, _, _ => by simp [RepEls]
  | e :: es, off, h, 0 => by simp [RepEls]
  | e :: es, off, h, k + 1 => by
    simp only [RepEls, List.take_succ_cons] at h ⊢
    exact ⟨h.1, RepEls_take h.2 k⟩

theorem RepEls_get {b sz : Nat} {l : List (List PV)} {off : Nat} (h : RepEls w m b sz off l) {i : Nat} {e : List PV} (he : l[i]? = some e) : e.length = sz ∧ RepCs w m b (off + i * sz) e := by
  have h1 := RepEls_drop h i
  have hi : i < l.length := by
    rcases Nat.lt_or_ge i l.length with h' | h'
    · exact h'
    · simp [List.getElem?_eq_none h'] at he
  rw [List.drop_eq_getElem_cons hi] at h1
  simp only [RepEls] at h1
  have : l[i] = e := by rw [List.getElem?_eq_getElem hi] at he; simpa using he
  rw [this] at h1
  exact h1.1
end

/-- a slice of the call's own, from the head of a block on: what it holds, and room behind it that nobody else uses -/
def OwnRow (w : World) (e : TypeId) (sz : Nat) (v : Value) (n : Nat) (xs : List Value) : Prop :=
  xs.length = n * sz ∧ ((v = .slice none 0 0 ∧ n = 0) ∨
    ∃ g cap cur fz, v = .slice (some ⟨g, 0, none⟩) n cap ∧ w.heap[g]? = some (.cells cur e fz) ∧ (fz.1 = fz.2 ∨ cur.size ≤ fz.1) ∧ n ≤ cap ∧ cap ≤ maxLen ∧ cur.size = cap * sz ∧ cur.toList.take (n * sz) = xs)

/-- a resource: memory of the call's own that may still be written -/
inductive Res where
  | box (b : Nat) (cs : List PV)
  | row (v : Value) (n sz : Nat) (e : TypeId)
  | buf (v : Value) (n sz : Nat) (e : TypeId) (cs : List PV)
  | tbox (b : Nat) (ty : TypeId) (cs : List PV)
  /-- a block whose content is known to the letter -/
  | obj (b : Nat) (o : Obj)
  /-- a strings.Builder, with its buffer -/
  | bld (b : Nat) (v : Value) (ty e : TypeId) (bs : List UInt8)

/-- nil, or with room -/
def roomy : Value → Bool
  | .slice none 0 0 => true
  | .slice (some _) _ c => c != 0
  | _ => false

def Res.fp : Res → List Nat
  | .box b _ => [b]
  | .row v _ _ _ => v.ownBlock.toList
  | .buf v _ _ _ _ => v.ownBlock.toList
  | .tbox b _ _ => [b]
  | .obj b _ => [b]
  | .bld b v _ _ _ => b :: v.ownBlock.toList

def Res.holds (w : World) (m : Imm) : Res → Prop
  | .box b cs => ∃ vs : List Value, ∃ ty, w.heap[b]? = some (.cells vs.toArray ty (0, 0)) ∧ RepL w m cs vs ∧ ∀ off, ¬ m b off
  | .row v n sz e => ∃ xs, OwnRow w e sz v n xs ∧ ∀ b, v.ownBlock = some b → ∀ off, m b off → off < n * sz
  | .buf v n sz e cs => ∃ xs, OwnRow w e sz v n xs ∧ RepL w m cs xs ∧ ∀ b, v.ownBlock = some b → ∀ off, ¬ m b off
  | .tbox b ty cs => ∃ vs : List Value, w.heap[b]? = some (.cells vs.toArray ty (0, 0)) ∧ RepL w m cs vs ∧ ∀ off, ¬ m b off
  | .obj b o => w.heap[b]? = some o ∧ ∀ off, ¬ m b off
  | .bld b v ty e bs => (∃ p, (p = Value.pointer none ∨ p = .pointer (some ⟨b, 0, none⟩)) ∧ w.heap[b]? = some (.cells #[p, v] ty (0, 0))) ∧ (∀ off, ¬ m b off) ∧ roomy v = true ∧
      OwnRow w e 1 v bs.length (bs.map fun c => .int .u8 (c.toNat : Int)) ∧ ∀ g, v.ownBlock = some g → ∀ off, m g off → off < bs.length * 1

def fps (σ : List Res) : List Nat := σ.flatMap Res.fp

structure Conc (w : World) (m : Imm) (σ : List Res) : Prop where
  each : ∀ r ∈ σ, r.holds w m
  apart : (fps σ).Nodup
  wf : ∀ b off, m b off → b < w.heap.size

structure Trans (w : World) (m : Imm) (σ : List Res) (w' : World) (m' : Imm) (σ' : List Res) : Prop where
  os : w'.os = w.os
  tape : w'.tape = w.tape
  output : w'.output = w.output
  size : w.heap.size ≤ w'.heap.size
  le : Le w m w' m'
  keep : ∀ b, b < w.heap.size → b ∉ fps σ → w'.heap[b]? = w.heap[b]? ∧ ∀ off, m' b off → m b off
  fresh : ∀ b ∈ fps σ', b ∈ fps σ ∨ w.heap.size ≤ b

theorem Trans.refl (w : World) (m : Imm) (σ : List Res) : Trans w m σ w m σ :=
  ⟨rfl, rfl, rfl, Nat.le_refl _, Le.refl _ _, fun _ _ _ => ⟨rfl, fun _ h => h⟩, fun _ h => .inl h⟩

theorem Trans.trans {w w1 w2 : World} {m m1 m2 : Imm} {σ σ1 σ2 : List Res} (h : Trans w m σ w1 m1 σ1) (k : Trans w1 m1 σ1 w2 m2 σ2) : Trans w m σ w2 m2 σ2 := by
  refine ⟨k.os.trans h.os, k.tape.trans h.tape, k.output.trans h.output, Nat.le_trans h.size k.size, h.le.trans k.le, fun b hb hn => ?_, fun b hb => ?_⟩
  · have h1 := h.keep b hb hn
    have hn1 : b ∉ fps σ1 := fun hf => by
      rcases h.fresh b hf with h' | h'
      · exact hn h'
      · omega
    have h2 := k.keep b (Nat.lt_of_lt_of_le hb h.size) hn1
    exact ⟨h2.1.trans h1.1, fun off ho => h1.2 off (h2.2 off ho)⟩
  · rcases k.fresh b hb with h' | h'
    · exact h.fresh b h'
    · exact .inr (Nat.le_trans h.size h')

/-- a resource that is not touched still holds -/
theorem Res.holds_keep {w w' : World} {m m' : Imm} {r : Res} (h : r.holds w m) (hle : Le w m w' m')
    (hk : ∀ b ∈ r.fp, w'.heap[b]? = w.heap[b]? ∧ ∀ off, m' b off → m b off) : r.holds w' m' := by
  cases r with
  | box b cs =>
    obtain ⟨vs, ty, h1, h2, h3⟩ := h
    have := hk b (by simp [Res.fp])
    exact ⟨vs, ty, by rw [this.1]; exact h1, RepL.mono hle cs vs h2, fun off ho => h3 off (this.2 off ho)⟩
  | row v n sz e =>
    obtain ⟨xs, ⟨h1, h2⟩, h3⟩ := h
    refine ⟨xs, ⟨h1, ?_⟩, fun b hb off ho => h3 b hb off ((hk b (by simp [Res.fp, hb])).2 off ho)⟩
    rcases h2 with h2 | ⟨g, cap, cur, fz, rfl, hg, r⟩
    · exact .inl h2
    · exact .inr ⟨g, cap, cur, fz, rfl, by rw [(hk g (by simp [Res.fp, Value.ownBlock])).1]; exact hg, r⟩
  | buf v n sz e cs =>
    obtain ⟨xs, ⟨h1, h2⟩, hr, h3⟩ := h
    refine ⟨xs, ⟨h1, ?_⟩, RepL.mono hle cs xs hr, fun b hb off ho => h3 b hb off ((hk b (by simp [Res.fp, hb])).2 off ho)⟩
    rcases h2 with h2 | ⟨g, cap, cur, fz, rfl, hg, r⟩
    · exact .inl h2
    · exact .inr ⟨g, cap, cur, fz, rfl, by rw [(hk g (by simp [Res.fp, Value.ownBlock])).1]; exact hg, r⟩
  | tbox b ty cs =>
    obtain ⟨vs, h1, h2, h3⟩ := h
    have := hk b (by simp [Res.fp])
    exact ⟨vs, by rw [this.1]; exact h1, RepL.mono hle cs vs h2, fun off ho => h3 off (this.2 off ho)⟩
  | obj b o =>
    have := hk b (by simp [Res.fp])
    exact ⟨by rw [this.1]; exact h.1, fun off ho => h.2 off (this.2 off ho)⟩
  | bld b v ty e bs =>
    obtain ⟨⟨p, hp, h1⟩, h2, h3, ⟨h4, h5⟩, h6⟩ := h
    have hb := hk b (by simp [Res.fp])
    refine ⟨⟨p, hp, by rw [hb.1]; exact h1⟩, fun off ho => h2 off (hb.2 off ho), h3, ⟨h4, ?_⟩, fun g hg off ho => h6 g hg off ((hk g (by simp [Res.fp, hg])).2 off ho)⟩
    rcases h5 with h5 | ⟨g, cap, cur, fz, rfl, hg, r⟩
    · exact .inl h5
    · exact .inr ⟨g, cap, cur, fz, rfl, by rw [(hk g (by simp [Res.fp, Value.ownBlock])).1]; exact hg, r⟩

theorem Res.fp_lt {w : World} {m : Imm} {r : Res} (h : r.holds w m) : ∀ b ∈ r.fp, b < w.heap.size := by
  intro b hb
  cases r with
  | box b' cs =>
    simp [Res.fp] at hb; subst hb
    obtain ⟨vs, ty, h1, _, _⟩ := h
    rcases Nat.lt_or_ge b w.heap.size with h' | h'
    · exact h'
    · simp [Array.getElem?_eq_none h'] at h1
  | row v n sz e =>
    obtain ⟨xs, ⟨h1, h2⟩, h3⟩ := h
    simp [Res.fp] at hb
    rcases h2 with ⟨rfl, _⟩ | ⟨g, cap, cur, fz, rfl, hg, r⟩
    · simp [Value.ownBlock] at hb
    · simp [Value.ownBlock] at hb
      subst hb
      rcases Nat.lt_or_ge g w.heap.size with h' | h'
      · exact h'
      · simp [Array.getElem?_eq_none h'] at hg
  | buf v n sz e cs =>
    obtain ⟨xs, ⟨h1, h2⟩, _, h3⟩ := h
    simp [Res.fp] at hb
    rcases h2 with ⟨rfl, _⟩ | ⟨g, cap, cur, fz, rfl, hg, r⟩
    · simp [Value.ownBlock] at hb
    · simp [Value.ownBlock] at hb
      subst hb
      rcases Nat.lt_or_ge g w.heap.size with h' | h'
      · exact h'
      · simp [Array.getElem?_eq_none h'] at hg
  | tbox b' ty cs =>
    simp [Res.fp] at hb; subst hb
    obtain ⟨vs, h1, _, _⟩ := h
    rcases Nat.lt_or_ge b w.heap.size with h' | h'
    · exact h'
    · simp [Array.getElem?_eq_none h'] at h1
  | obj b' o =>
    simp [Res.fp] at hb; subst hb
    rcases Nat.lt_or_ge b w.heap.size with h' | h'
    · exact h'
    · have := h.1; simp [Array.getElem?_eq_none h'] at this
  | bld b' v ty e bs =>
    obtain ⟨⟨p, hp, h1⟩, _, _, ⟨_, h5⟩, _⟩ := h
    simp only [Res.fp, List.mem_cons] at hb
    rcases hb with rfl | hb
    · rcases Nat.lt_or_ge b w.heap.size with h' | h'
      · exact h'
      · simp [Array.getElem?_eq_none h'] at h1
    · rcases h5 with ⟨rfl, _⟩ | ⟨g, cap, cur, fz, rfl, hg, r⟩
      · simp [Value.ownBlock] at hb
      · simp [Value.ownBlock] at hb
        subst hb
        rcases Nat.lt_or_ge b w.heap.size with h' | h'
        · exact h'
        · simp [Array.getElem?_eq_none h'] at hg

theorem Conc.fps_lt {w : World} {m : Imm} {σ : List Res} (h : Conc w m σ) : ∀ b ∈ fps σ, b < w.heap.size := by
  intro b hb
  simp only [fps, List.mem_flatMap] at hb
  obtain ⟨r, hr, hb⟩ := hb
  exact Res.fp_lt (h.each r hr) b hb

end Go.Abs

namespace Go.Abs
open Go

theorem beq_ne {a b : Nat} (h : a ≠ b) : Nat.beq a b = false := by
  cases e : Nat.beq a b with
  | false => rfl
  | true => exact absurd (Nat.eq_of_beq_eq_true e) h

abbrev Env := List (Nat × PV)

def Env.get : Env → Nat → PV
  | [], _ => .undef
  | (t', p) :: r, t => bif Nat.beq t' t then p else Env.get r t

def ofConst1 : Value → PV
  | .int k n => .int k n
  | .bool b => .bool b
  | .string s => .str s.data.toList
  | .slice none 0 0 => .own (.slice none 0 0) []
  | v => .val v

def ofConst : Value → PV
  | .agg cs => .agg (cs.toList.map ofConst1)
  | v => ofConst1 v

def Env.ev (env : Env) : Operand → PV
  | .tmp t => env.get t
  | .const v => ofConst v
  | .global g => .val (.pointer (some ⟨g, 0, none⟩))
  | .func f => .fn f []

theorem rep_ofConst1 (w : World) (m : Imm) (v : Value) : Rep w m (ofConst1 v) v := by
  unfold ofConst1
  split <;> simp [Rep]

theorem repL_ofConst1 (w : World) (m : Imm) : ∀ vs : List Value, RepL w m (vs.map ofConst1) vs
  | [] => RepL.nil
  | v :: vs => RepL.cons (rep_ofConst1 w m v) (repL_ofConst1 w m vs)

theorem rep_ofConst (w : World) (m : Imm) (v : Value) : Rep w m (ofConst v) v := by
  unfold ofConst
  split
  · rename_i cs
    simp only [Rep]
    exact ⟨cs.toList, by simp, repL_ofConst1 w m _⟩
  · exact rep_ofConst1 w m v

def SimE (w : World) (m : Imm) (env : Env) (tmps : Array Value) : Prop := ∀ t, Rep w m (env.get t) (tmps.getD t Go.undef)

theorem SimE.mono {w w' : World} {m m' : Imm} (h : Le w m w' m') {env : Env} {tmps : Array Value} (k : SimE w m env tmps) : SimE w' m' env tmps :=
  fun t => Rep.mono h _ _ (k t)

theorem SimE.ev {w : World} {m : Imm} {env : Env} {a : Act} (h : SimE w m env a.tmps) (x : Operand) : Rep w m (env.ev x) (a.eval x) := by
  cases x with
  | tmp t => exact h t
  | const v => exact rep_ofConst w m v
  | global g => simp [Env.ev, Rep, Act.eval]
  | func f => simp only [Env.ev, Rep, Act.eval]; exact ⟨[], rfl, RepL.nil⟩

theorem SimE.put {w : World} {m : Imm} {env : Env} {tmps : Array Value} (h : SimE w m env tmps) {t : Nat} {p : PV} {v : Value} (hv : Rep w m p v) (ht : t < tmps.size) :
    SimE w m ((t, p) :: env) (tmps.setIfInBounds t v) := by
  intro u
  simp only [Env.get]
  by_cases e : t = u
  · subst e
    simp [Array.getD, ht, hv]
  · have : Nat.beq t u = false := beq_ne e
    rw [this]
    have h' := h u
    simp only [cond_false]
    rw [show (tmps.setIfInBounds t v).getD u Go.undef = tmps.getD u Go.undef from by simp [Array.getD_eq_getD_getElem?, e]]
    exact h'

structure SimS (w : World) (m : Imm) (n : Nat) (env : Env) (σ : List Res) (ds : List Deferred) (a : Act) : Prop where
  size : a.tmps.size = n
  ds : a.defers = ds
  env : SimE w m env a.tmps
  conc : Conc w m σ

inductive AX where
  | normal
  | exit (id : Nat)
  | ret
  | panic (p : PV)

def RepX (w : World) (m : Imm) : AX → Exit → Prop
  | .normal, x => x = .normal
  | .exit id, x => x = .exit id
  | .ret, x => x = .ret
  | .panic p, x => ∃ v, x = .panic [{ v, recovered := false }] ∧ Rep w m p v

/-- what is asked of the end of a piece of code -/
abbrev Post := AX → Env → List Res → List Deferred → Prop

def Acc (n : Nat) (Q : Post) (w : World) (m : Imm) (σ : List Res) (QC : Exit → Act → World → Prop) : Prop :=
  ∀ x ex env' σ' ds' a' w' m', Q x env' σ' ds' → RepX w' m' x ex → SimS w' m' n env' σ' ds' a' → Trans w m σ w' m' σ' → QC ex a' w'

theorem Acc.step {n : Nat} {Q : Post} {w w1 : World} {m m1 : Imm} {σ σ1 : List Res} {QC : Exit → Act → World → Prop}
    (h : Acc n Q w m σ QC) (t : Trans w m σ w1 m1 σ1) : Acc n Q w1 m1 σ1 QC :=
  fun x ex env' σ' ds' a' w' m' hq hx hs ht => h x ex env' σ' ds' a' w' m' hq hx hs (t.trans ht)

/-- the judgement on code -/
def AW (P : Program) (n : Nat) (c : Code) (env : Env) (σ : List Res) (ds : List Deferred) (Q : Post) : Prop :=
  ∀ w m a QC, SimS w m n env σ ds a → Acc n Q w m σ QC → c.wp P QC a w

inductive AOut where
  | ret (p : PV)
  | panic (p : PV)

def RepOut (w : World) (m : Imm) : AOut → Ending → Prop
  | .ret p, e => ∃ v, e = .returned v ∧ Rep w m p v
  | .panic p, e => ∃ v, e = .panicked [{ v, recovered := false }] ∧ Rep w m p v

/-- the judgement on calls -/
def AC (P : Program) (f : FuncId) (args : List PV) (σ : List Res) (R : AOut → List Res → Prop) : Prop :=
  ∀ w m vs, Conc w m σ → RepL w m args vs → Calls P f vs.toArray w fun e w' =>
    ∃ out σ' m', R out σ' ∧ RepOut w' m' out e ∧ Conc w' m' σ' ∧ Trans w m σ w' m' σ'

theorem AC.mono {P : Program} {f : FuncId} {args : List PV} {σ : List Res} {R R' : AOut → List Res → Prop} (h : AC P f args σ R)
    (hr : ∀ out σ', R out σ' → R' out σ') : AC P f args σ R' :=
  fun w m vs hc hv => (h w m vs hc hv).mono fun _ _ ⟨out, σ', m', h1, h2⟩ => ⟨out, σ', m', hr _ _ h1, h2⟩

theorem AW.mono {P : Program} {n : Nat} {c : Code} {env : Env} {σ : List Res} {ds : List Deferred} {Q Q' : Post} (h : AW P n c env σ ds Q) (hq : ∀ x e s d, Q x e s d → Q' x e s d) : AW P n c env σ ds Q' :=
  fun w m a QC hs ha => h w m a QC hs fun x ex env' σ' ds' a' w' m' h1 h2 h3 h4 => ha x ex env' σ' ds' a' w' m' (hq _ _ _ _ h1) h2 h3 h4

section
variable {P : Program} {n : Nat} {env : Env} {σ : List Res} {ds : List Deferred} {Q : Post}

theorem AW.skip (h : Q .normal env σ ds) : AW P n .skip env σ ds Q :=
  fun w m a _ hs ha => wp_skip (ha .normal .normal env σ ds a w m h rfl hs (Trans.refl ..))
theorem AW.label {l : Nat} (h : Q .normal env σ ds) : AW P n (.label l) env σ ds Q :=
  fun w m a _ hs ha => wp_label (ha .normal .normal env σ ds a w m h rfl hs (Trans.refl ..))
theorem AW.exit {id : Nat} (h : Q (.exit id) env σ ds) : AW P n (.exit id) env σ ds Q :=
  fun w m a _ hs ha => wp_exit (ha (.exit id) (.exit id) env σ ds a w m h rfl hs (Trans.refl ..))
theorem AW.ret (h : Q .ret env σ ds) : AW P n .ret env σ ds Q :=
  fun w m a _ hs ha => wp_ret (ha .ret .ret env σ ds a w m h rfl hs (Trans.refl ..))

def AX.then (next : Env → List Res → List Deferred → Prop) (Q : Post) : Post
  | .normal, e, s, d => next e s d
  | x, e, s, d => Q x e s d

theorem AW.seq {c d : Code} (h : AW P n c env σ ds (AX.then (fun e s ds => AW P n d e s ds Q) Q)) : AW P n (.seq c d) env σ ds Q := by
  intro w m a QC hs ha
  refine wp_seq (h w m a _ hs ?_)
  intro x ex e1 σ1 d1 a1 w1 m1 hq hx hs1 ht
  cases x with
  | normal => cases hx; exact hq w1 m1 a1 QC hs1 (ha.step ht)
  | exit id => cases hx; exact ha (.exit id) _ e1 σ1 d1 a1 w1 m1 hq rfl hs1 ht
  | ret => cases hx; exact ha .ret _ e1 σ1 d1 a1 w1 m1 hq rfl hs1 ht
  | panic p => obtain ⟨v, rfl, hv⟩ := hx; exact ha (.panic p) _ e1 σ1 d1 a1 w1 m1 hq ⟨v, rfl, hv⟩ hs1 ht

theorem AW.cond {c : Operand} {x y : Code} {b : Bool} (hc : env.ev c = .bool b) (ht : b = true → AW P n x env σ ds Q) (hf : b = false → AW P n y env σ ds Q) :
    AW P n (.cond c x y) env σ ds Q := by
  intro w m a QC hs ha
  have he := hs.env.ev c
  rw [hc] at he
  simp only [Rep] at he
  exact wp_cond_split he (fun h => ht h w m a QC hs ha) (fun h => hf h w m a QC hs ha)

def AX.inBlock (id : Nat) (Q : Post) : Post
  | .exit id', e, s, d => bif Nat.beq id' id then Q .normal e s d else Q (.exit id') e s d
  | x, e, s, d => Q x e s d

theorem AW.block {id : Nat} {c : Code} (h : AW P n c env σ ds (AX.inBlock id Q)) : AW P n (.block id c) env σ ds Q := by
  intro w m a QC hs ha
  refine wp_block (h w m a _ hs ?_)
  intro x ex e1 σ1 d1 a1 w1 m1 hq hx hs1 ht
  cases x with
  | normal => cases hx; exact ha .normal _ e1 σ1 d1 a1 w1 m1 hq rfl hs1 ht
  | exit id' =>
    cases hx
    simp only [Exit.inBlock]
    simp only [AX.inBlock] at hq
    by_cases e : id' = id
    · subst e
      simp only [Nat.beq_refl, cond_true] at hq
      rw [if_pos rfl]
      exact ha .normal _ e1 σ1 d1 a1 w1 m1 hq rfl hs1 ht
    · have : Nat.beq id' id = false := beq_ne e
      simp only [this, cond_false] at hq
      rw [if_neg e]
      exact ha (.exit id') _ e1 σ1 d1 a1 w1 m1 hq rfl hs1 ht
  | ret => cases hx; exact ha .ret _ e1 σ1 d1 a1 w1 m1 hq rfl hs1 ht
  | panic p => obtain ⟨v, rfl, hv⟩ := hx; exact ha (.panic p) _ e1 σ1 d1 a1 w1 m1 hq ⟨v, rfl, hv⟩ hs1 ht

theorem wp_loop_ghost {α : Type} {c : Code} {QC : Exit → Act → World → Prop} (I : α → Act → World → Prop) (μ : α → Nat)
    (round : ∀ x a w, I x a w → c.wp P (Exit.then (fun a' w' => ∃ y, I y a' w' ∧ μ y < μ x) QC) a w) {x : α} {a : Act} {w : World} (h0 : I x a w) : (Code.loop c).wp P QC a w := by
  intro b k cs
  have key : ∀ n x a w, μ x = n → I x a w →
      ∃ e a' w', QC e a' w' ∧ Arrives P (lone (b.at a (.code c :: .inLoop c :: k)) cs w) b k cs e a' w' := by
    intro n
    induction n using Nat.strongRecOn with
    | _ n ih =>
      intro x a w hn hI
      obtain ⟨e, a₁, w₁, hq, harr⟩ := round x a w hI b (.inLoop c :: k) cs
      cases e with
      | normal =>
        obtain ⟨y, hI₁, hlt⟩ := hq
        obtain ⟨e₂, a₂, w₂, hq₂, harr₂⟩ := ih (μ y) (hn ▸ hlt) y a₁ w₁ rfl hI₁
        exact ⟨e₂, a₂, w₂, hq₂, .of_steps (Steps.trans harr (.one step_inLoop)) harr₂⟩
      | exit id => exact ⟨_, a₁, w₁, hq, .pass (x := .inLoop c) rfl (fun _ _ => .inl (by simp)) harr⟩
      | goto l => exact ⟨_, a₁, w₁, hq, .pass (x := .inLoop c) rfl (fun _ _ => .inl (by simp)) harr⟩
      | ret => exact ⟨_, a₁, w₁, hq, .pass (x := .inLoop c) rfl (fun _ _ => .inl (by simp)) harr⟩
      | panic ch => exact ⟨_, a₁, w₁, hq, .pass (x := .inLoop c) rfl (fun _ _ => .inl (by simp)) harr⟩
      | outgrown => exact ⟨_, a₁, w₁, hq, .pass (x := .inLoop c) rfl (fun _ _ => .inl (by simp)) harr⟩
  obtain ⟨e, a', w', hq, harr⟩ := key _ x a w rfl h0
  exact ⟨e, a', w', hq, .of_steps (.one step_loop) harr⟩

/-- a loop: its state at each head is E x, S x for some x; a round lowers the measure -/
theorem AW.loop {α : Type} {c : Code} (E : α → Env) (T : α → List Res) (I : α → Prop) (μ : α → Nat) (x0 : α) (h0 : env = E x0) (h1 : σ = T x0) (h2 : I x0)
    (round : ∀ x, I x → AW P n c (E x) (T x) ds (AX.then (fun e s d => ∃ y, e = E y ∧ s = T y ∧ d = ds ∧ I y ∧ μ y < μ x) Q)) : AW P n (.loop c) env σ ds Q := by
  subst h0 h1
  intro w0 m0 a0 QC hs0 ha0
  refine wp_loop_ghost (fun x a w => I x ∧ ∃ m, SimS w m n (E x) (T x) ds a ∧ Acc n Q w m (T x) QC) μ ?_ ⟨h2, m0, hs0, ha0⟩
  rintro x a w ⟨hI, m, hs, ha⟩
  refine round x hI w m a _ hs ?_
  intro y ex e1 σ1 d1 a1 w1 m1 hq hx hs1 ht
  cases y with
  | normal =>
    cases hx
    obtain ⟨y, rfl, rfl, rfl, hI', hlt⟩ := hq
    exact ⟨y, ⟨hI', m1, hs1, ha.step ht⟩, hlt⟩
  | exit id => cases hx; exact ha (.exit id) _ e1 σ1 d1 a1 w1 m1 hq rfl hs1 ht
  | ret => cases hx; exact ha .ret _ e1 σ1 d1 a1 w1 m1 hq rfl hs1 ht
  | panic p => obtain ⟨v, rfl, hv⟩ := hx; exact ha (.panic p) _ e1 σ1 d1 a1 w1 m1 hq ⟨v, rfl, hv⟩ hs1 ht

/-- a piece whose ways meet again -/
theorem AW.cut {α : Type} {c : Code} (E : α → Env) (T : α → List Res) (I : α → Prop)
    (h : AW P n c env σ ds (AX.then (fun e s d => ∃ y, e = E y ∧ s = T y ∧ d = ds ∧ I y) Q)) (hq : ∀ y, I y → Q .normal (E y) (T y) ds) : AW P n c env σ ds Q := by
  refine h.mono fun x e s d hx => ?_
  cases x with
  | normal => obtain ⟨y, rfl, rfl, rfl, hI⟩ := hx; exact hq y hI
  | exit id => exact hx
  | ret => exact hx
  | panic p => exact hx

/-- a value, written out -/
def PV.force : PV → Option PV
  | .undef => some .undef
  | .int k n => some (.int k n)
  | .bool b => some (.bool b)
  | .str s => some (.str s)
  | .list l => some (.list l)
  | .agg cs => some (.agg cs)
  | .tuple vs => some (.tuple vs)
  | .val v => some (.val v)
  | .iface t p => some (.iface t p)
  | .fn f caps => some (.fn f caps)
  | .ref cs => some (.ref cs)
  | .own v l => some (.own v l)

theorem PV.force_eq {p q : PV} (h : p.force = some q) : p = q := by
  cases p <;> simp only [PV.force, Option.some.injEq] at h <;> exact h

/-- less may be known: what is in the slots ps, written out -/
def settle : List Nat → Env → Option Env
  | [], _ => some []
  | t :: ts, env => match (env.get t).force with
    | some p => match settle ts env with
      | some r => some ((t, p) :: r)
      | none => none
    | none => none

theorem get_settle {env : Env} : ∀ {ps : List Nat} {env' : Env}, settle ps env = some env' → ∀ t, env'.get t = .undef ∨ env'.get t = env.get t
  | [], _, h, t => by simp only [settle, Option.some.injEq] at h; subst h; exact .inl rfl
  | u :: ps, _, h, t => by
    simp only [settle] at h
    split at h
    · rename_i p hp
      split at h
      · rename_i r hr
        simp only [Option.some.injEq] at h
        subst h
        simp only [Env.get]
        by_cases e : u = t
        · subst e
          simp [← PV.force_eq hp]
        · rw [beq_ne e]
          exact get_settle hr t
      · cases h
    · cases h

theorem SimE.settle {w : World} {m : Imm} {env env' : Env} {tmps : Array Value} {ps : List Nat} (hs : settle ps env = some env') (h : SimE w m env tmps) : SimE w m env' tmps := by
  intro t
  rcases get_settle hs t with e | e
  · rw [e]; simp [Rep]
  · rw [e]; exact h t

theorem AW.settle {c : Code} {env' : Env} (ps : List Nat) (hs : Abs.settle ps env = some env') (h : AW P n c env' σ ds Q) : AW P n c env σ ds Q :=
  fun w m a QC hsim ha => h w m a QC ⟨hsim.size, hsim.ds, hsim.env.settle hs, hsim.conc⟩ ha

/-- the entries of the own memory may be dropped -/
theorem Conc.sub {w : World} {m : Imm} {σ σ' : List Res} (h : Conc w m σ) (hs : σ'.Sublist σ) : Conc w m σ' :=
  ⟨fun r hr => h.each r (hs.subset hr), by
    refine List.Nodup.sublist ?_ h.apart
    clear h
    induction hs with
    | slnil => simp [fps]
    | cons r _ ih =>
      refine ih.trans ?_
      simp only [fps, List.flatMap_cons]
      exact List.sublist_append_right _ _
    | cons_cons r _ ih =>
      simp only [fps, List.flatMap_cons]
      exact List.Sublist.append (List.Sublist.refl _) ih, h.wf⟩

theorem fps_sub {σ σ' : List Res} (hs : σ'.Sublist σ) : ∀ b ∈ fps σ', b ∈ fps σ := by
  intro b hb
  simp only [fps, List.mem_flatMap] at hb ⊢
  obtain ⟨r, hr, hb⟩ := hb
  exact ⟨r, hs.subset hr, hb⟩

theorem Trans.sub {w w' : World} {m m' : Imm} {σ σ' σ'' : List Res} (h : Trans w m σ w' m' σ') (hs : σ''.Sublist σ') : Trans w m σ w' m' σ'' :=
  ⟨h.os, h.tape, h.output, h.size, h.le, h.keep, fun b hb => h.fresh b (fps_sub hs b hb)⟩

theorem AW.drop {c : Code} (σ' : List Res) (hs : σ'.Sublist σ) (h : AW P n c env σ' ds Q) : AW P n c env σ ds Q :=
  fun w m a QC hsim ha => h w m a QC ⟨hsim.size, hsim.ds, hsim.env, hsim.conc.sub hs⟩
    (ha.step (Trans.sub (Trans.refl w m σ) hs))
end
end Go.Abs

namespace Go.Abs
open Go

/-! ### the judgement on one operation -/

/-- the operation yields one of the values R speaks of, or panics with one that S speaks of -/
def AO (P : Program) (o : Oper) (ρ : Operand → PV) (σ : List Res) (R : PV → List Res → Prop) (S : PV → List Res → Prop) : Prop :=
  ∀ w m a K QC, (∀ x ∈ o.op.operands, Rep w m (ρ x) (a.eval x)) → Conc w m σ →
    (∀ p σ' v w' m', R p σ' → Rep w' m' p v → Conc w' m' σ' → Trans w m σ w' m' σ' → K (a.put o.dst v) w') →
    (∀ p σ' v w' m', S p σ' → Rep w' m' p v → Conc w' m' σ' → Trans w m σ w' m' σ' → QC (.panic [{ v, recovered := false }]) a w') →
    o.wp P a w K QC

/-- the judgement on the operations of a region, in the order of the text -/
def AR (P : Program) (n : Nat) (all : Array Oper) (l : List Oper) (env : Env) (σ : List Res) (ds : List Deferred) (Q : Post) : Prop :=
  ∀ w m a QC, SimS w m n env σ ds a → Acc n Q w m σ QC → wpList P all QC l a w

section
variable {P : Program} {n : Nat} {env : Env} {σ : List Res} {ds : List Deferred} {Q : Post} {all : Array Oper} {rest : List Oper} {o : Oper}

theorem AR.nil {env' : Env} (ps : List Nat) (hs : settle ps env = some env') (h : Q .normal env' σ ds) : AR P n all [] env σ ds Q :=
  fun w m a _ hsim ha => ha .normal .normal _ _ _ a w m h rfl ⟨hsim.size, hsim.ds, hsim.env.settle hs, hsim.conc⟩ (Trans.refl ..)

theorem AW.region {id : Nat} {l : List Oper} (h : AR P n l.toArray l env σ ds Q) : AW P n (.region id l.toArray false) env σ ds Q :=
  fun w m a QC hs ha => wp_region_lit (h w m a QC hs ha)

theorem SimS.put {w w' : World} {m m' : Imm} {a : Act} {σ' : List Res} (hs : SimS w m n env σ ds a) {dst : Option Tmp} {t : Nat} (hd : dst = some t) (ht : t < n)
    {v : Value} {p : PV} (hv : Rep w' m' p v) (hc : Conc w' m' σ') (hle : Le w m w' m') : SimS w' m' n ((t, p) :: env) σ' ds (a.put dst v) := by
  subst hd
  refine ⟨by simp [Act.put, hs.size], by simp [Act.put, hs.ds], ?_, hc⟩
  have := (hs.env.mono hle).put hv (by rw [hs.size]; exact ht)
  simpa [Act.put] using this

theorem SimS.put_none {w w' : World} {m m' : Imm} {a : Act} {σ' : List Res} (hs : SimS w m n env σ ds a) {dst : Option Tmp} (hd : dst = none)
    {v : Value} (hc : Conc w' m' σ') (hle : Le w m w' m') : SimS w' m' n env σ' ds (a.put dst v) := by
  subst hd
  exact ⟨hs.size, hs.ds, hs.env.mono hle, hc⟩

theorem AR.step {t : Nat} (hg : o.guard = none) (hd : o.dst = some t) (ht : Nat.blt t n = true)
    (h : AO P o env.ev σ (fun p σ' => AR P n all rest ((t, p) :: env) σ' ds Q) (fun p σ' => Q (.panic p) env σ' ds)) :
    AR P n all (o :: rest) env σ ds Q := by
  intro w m a QC hs ha
  have ht : t < n := Nat.le_of_ble_eq_true ht
  refine wpList_plain hg fun K hK => ?_
  refine h w m a K QC (fun x _ => hs.env.ev x) hs.conc ?_ ?_
  · intro p σ' v w' m' hr hv hc htr
    exact hK _ _ (hr w' m' _ QC (hs.put hd ht hv hc htr.le) (ha.step htr))
  · intro p σ' v w' m' hr hv hc htr
    exact ha (.panic p) _ _ _ _ a w' m' hr ⟨v, rfl, hv⟩ ⟨hs.size, hs.ds, hs.env.mono htr.le, hc⟩ htr

theorem AR.step_none (hg : o.guard = none) (hd : o.dst = none)
    (h : AO P o env.ev σ (fun _ σ' => AR P n all rest env σ' ds Q) (fun p σ' => Q (.panic p) env σ' ds)) :
    AR P n all (o :: rest) env σ ds Q := by
  intro w m a QC hs ha
  refine wpList_plain hg fun K hK => ?_
  refine h w m a K QC (fun x _ => hs.env.ev x) hs.conc ?_ ?_
  · intro p σ' v w' m' hr hv hc htr
    exact hK _ _ (hr w' m' _ QC (hs.put_none hd hc htr.le) (ha.step htr))
  · intro p σ' v w' m' hr hv hc htr
    exact ha (.panic p) _ _ _ _ a w' m' hr ⟨v, rfl, hv⟩ ⟨hs.size, hs.ds, hs.env.mono htr.le, hc⟩ htr

/-- a guarded operation: the guard is the boolean that operation j has left -/
theorem AR.guard {t u j : Nat} {want b : Bool} {oj : Oper} (hg : o.guard = some (j, want)) (hj : all[j]? = some oj) (hu : oj.dst = some u) (hb : env.get u = .bool b) (hd : o.dst = some t) (ht : Nat.blt t n = true)
    (h1 : b = want → AR P n all ({ o with guard := none } :: rest) env σ ds Q)
    (h2 : b = !want → AR P n all rest ((t, .undef) :: env) σ ds Q) : AR P n all (o :: rest) env σ ds Q := by
  intro w m a QC hs ha
  have ht : t < n := Nat.le_of_ble_eq_true ht
  have hv := hs.env u
  rw [hb] at hv
  simp only [Rep] at hv
  have hy : yielded all a.tmps j = some b := by
    have ht' : a.tmps[u]? = some (.bool b) := by
      cases e : a.tmps[u]? with
      | none => simp [Array.getD_eq_getD_getElem?, e, Go.undef] at hv
      | some x => simpa [Array.getD_eq_getD_getElem?, e] using hv
    simp [yielded, hj, hu, ht']
  by_cases e : b = want
  · have h := h1 e w m a QC hs ha
    unfold wpList at h ⊢
    rw [if_pos (by simp [Region.wanted])] at h
    rw [if_pos (by simp [Region.wanted, hg, hy, e])]
    exact h
  · have e' : b = !want := by cases b <;> cases want <;> simp_all
    unfold wpList
    rw [if_neg (by simp [Region.wanted, hg, hy, e])]
    exact h2 e' w m _ QC (hs.put (p := .undef) hd ht trivial hs.conc (Le.refl _ _)) ha

end

/-! ### operations that only compute -/

def kEq : IntKind → IntKind → Bool
  | .i8, .i8 | .i16, .i16 | .i32, .i32 | .i64, .i64 | .u8, .u8 | .u16, .u16 | .u32, .u32 | .u64, .u64 => true
  | _, _ => false

theorem kEq_eq {k k' : IntKind} (h : kEq k k' = true) : k = k' := by
  cases k <;> cases k' <;> first | rfl | simp [kEq] at h

def binPV (op : BinOp) : PV → PV → Option PV
  | .int k a, .int k' b => bif kEq k k' then
      match op with
      | .add => some (.int k (k.wrap (a + b)))
      | .sub => some (.int k (k.wrap (a - b)))
      | .mul => some (.int k (k.wrap (a * b)))
      | .and => some (.int k (k.wrap (BitVec.ofInt k.bits a &&& BitVec.ofInt k.bits b).toNat))
      | .or => some (.int k (k.wrap (BitVec.ofInt k.bits a ||| BitVec.ofInt k.bits b).toNat))
      | .xor => some (.int k (k.wrap (BitVec.ofInt k.bits a ^^^ BitVec.ofInt k.bits b).toNat))
      | .andNot => some (.int k (k.wrap (BitVec.ofInt k.bits a &&& ~~~ BitVec.ofInt k.bits b).toNat))
      | .eql => some (.bool (a == b))
      | .neq => some (.bool (a != b))
      | .lss => some (.bool (decide (a < b)))
      | .leq => some (.bool (decide (a ≤ b)))
      | .gtr => some (.bool (decide (b < a)))
      | .geq => some (.bool (decide (b ≤ a)))
      | _ => none
    else none
  | .str a, .str b =>
      match op with
      | .eql => some (.bool (a == b))
      | .neq => some (.bool (!(a == b)))
      | .lss => some (.bool (Op.bytesLess a b))
      | .leq => some (.bool (Op.bytesLess a b || a == b))
      | .gtr => some (.bool (!(Op.bytesLess a b || a == b)))
      | .geq => some (.bool (!Op.bytesLess a b))
      | _ => none
  | _, _ => none

def unPV (op : UnOp) : PV → Option PV
  | .int k n => match op with
    | .neg => some (.int k (k.wrap (0 - n)))
    | .xor => some (.int k (k.wrap (BitVec.ofInt k.bits (if k.signed then -1 else k.max) ^^^ BitVec.ofInt k.bits n).toNat))
    | _ => none
  | .bool b => match op with
    | .not => some (.bool (!b))
    | _ => none
  | _ => none

def pickPV (g : Bool) : PV → PV → Option PV
  | .bool x, .bool y => some (.bool (bif g then x else y))
  | x, y => (bif g then x else y).force

def pev (ρ : Operand → PV) : Op → Option PV
  | .move x | .assign x => (ρ x).force
  | .pick c a b => match ρ c with
    | .bool g => pickPV g (ρ a) (ρ b)
    | _ => none
  | .binOp op _ x y _ => binPV op (ρ x) (ρ y)
  | .unOp op _ x => unPV op (ρ x)
  | .makeFunc (.func f) first captured => bif first.isEmpty then some (.fn f (captured.toList.map ρ)) else none
  | .extract x i => match ρ x with
    | .tuple vs => match vs[i]? with
      | some p => p.force
      | none => none
    | _ => none
  | _ => none


theorem memOps (o : Oper) (x : Operand) (h : x ∈ o.op.operands.toList) : x ∈ o.op.operands := by simpa using h

theorem RepL.map {w : World} {m : Imm} {ρ : Operand → PV} {ev : Operand → Value} : ∀ {xs : List Operand}, (∀ x ∈ xs, Rep w m (ρ x) (ev x)) → RepL w m (xs.map ρ) (xs.map ev)
  | [], _ => RepL.nil
  | x :: xs, h => RepL.cons (h x (by simp)) (RepL.map fun y hy => h y (by simp [hy]))

theorem binPV_sound {w : World} {m : Imm} {P : Program} {op : BinOp} {t : TypeId} {p q r : PV} {x y : Operand} {u v : Value} (h : binPV op p q = some r) (hu : Rep w m p u) (hv : Rep w m q v) :
    ∃ z, ((do eqGuard op t x y u v; binOp op t u v) : Sem Value).run P w = .ok z w ∧ Rep w m r z := by
  cases p <;> cases q <;> simp only [binPV, reduceCtorEq] at h
  · rename_i k a k' b
    simp only [Rep] at hu hv
    subst hu hv
    cases e : kEq k k' with
    | false => simp [e] at h
    | true =>
      cases kEq_eq e
      simp only [e, cond_true] at h
      cases op <;> simp only [reduceCtorEq, Option.some.injEq] at h <;> subst h <;> simp [eqGuard, binOp, Op.intArith, Op.intBits, Op.intCmp, Rep]
  · rename_i a b
    simp only [Rep] at hu hv
    subst hu hv
    cases op <;> simp only [reduceCtorEq, Option.some.injEq] at h <;> subst h <;> simp [eqGuard, binOp, Op.stringOp, Rep, ByteArray.toList_mk]

theorem unPV_sound {w : World} {m : Imm} {P : Program} {op : UnOp} {p r : PV} {u : Value} (h : unPV op p = some r) (hu : Rep w m p u) :
    ∃ z, (Op.unary op u).run P w = .ok z w ∧ Rep w m r z := by
  cases p <;> simp only [unPV, reduceCtorEq] at h <;> simp only [Rep] at hu <;> subst hu <;> cases op <;> simp only [reduceCtorEq, Option.some.injEq] at h <;> subst h <;>
    simp [Op.unary, Op.intArith, Op.intBits, Rep]

theorem pickPV_sound {w : World} {m : Imm} {g : Bool} {p q r : PV} {u v : Value} (h : pickPV g p q = some r) (hu : Rep w m p u) (hv : Rep w m q v) : Rep w m r (bif g then u else v) := by
  unfold pickPV at h
  split at h
  · simp only [Option.some.injEq] at h
    subst h
    simp only [Rep] at hu hv ⊢
    subst hu hv
    cases g <;> rfl
  · have := PV.force_eq h
    subst this
    cases g
    · exact hv
    · exact hu

theorem pev_sound {w : World} {m : Imm} {P : Program} {o : Oper} {ρ : Operand → PV} {ev : Operand → Value} {p : PV} (h : pev ρ o.op = some p) (hr : ∀ x ∈ o.op.operands, Rep w m (ρ x) (ev x)) :
    ∃ v, (execOp ev o).run P w = .ok (.value v) w ∧ Rep w m p v := by
  obtain ⟨dst, op, ty, pos, after, guard⟩ := o
  simp only at h hr
  unfold execOp
  cases op <;> simp only [pev, reduceCtorEq] at h
  case move x => have h := PV.force_eq h; subst h; exact ⟨ev x, by simp, hr x (by simp [Op.operands])⟩
  case assign x => have h := PV.force_eq h; subst h; exact ⟨ev x, by simp, hr x (by simp [Op.operands])⟩
  case pick c a b =>
    have hc := hr c (by simp [Op.operands])
    have hA := hr a (by simp [Op.operands])
    have hB := hr b (by simp [Op.operands])
    split at h
    · rename_i g e
      rw [e] at hc
      simp only [Rep] at hc
      refine ⟨_, ?_, pickPV_sound h hA hB⟩
      cases g <;> simp [hc, asBool]
    · cases h
  case binOp op t x y yt =>
    obtain ⟨z, h1, h2⟩ := binPV_sound (P := P) (t := t) (x := x) (y := y) h (hr x (by simp [Op.operands])) (hr y (by simp [Op.operands]))
    exact ⟨z, by simp only [Sem.run_bind] at h1 ⊢; rw [h1]; simp, h2⟩
  case unOp op t x =>
    obtain ⟨z, h1, h2⟩ := unPV_sound (P := P) h (hr x (by simp [Op.operands]))
    exact ⟨z, by simp only [Sem.run_bind]; rw [h1]; simp, h2⟩
  case makeFunc fn first captured =>
    cases fn <;> simp only [reduceCtorEq] at h
    rename_i fid
    cases e : first.isEmpty with
    | false => simp [e] at h
    | true =>
      simp only [e, cond_true, Option.some.injEq] at h
      subst h
      have e' : first = #[] := by simpa using e
      subst e'
      refine ⟨.func (.func fid) #[] (captured.map ev), by simp [Instr.makeFunc], ?_⟩
      simp only [Rep]
      exact ⟨captured.toList.map ev, by rw [← Array.toList_map], RepL.map fun x hx => hr x (by simp [Op.operands]; simpa using hx)⟩
  case extract x i =>
    have hx := hr x (by simp [Op.operands])
    split at h
    · rename_i vs e
      split at h
      · rename_i q hq
        have h := PV.force_eq h
        subst h
        rw [e] at hx
        simp only [Rep] at hx
        obtain ⟨us, h1, h2⟩ := hx
        obtain ⟨v, h3, h4⟩ := h2.get? i hq
        exact ⟨v, by simp [Instr.extract, h1, h3], h4⟩
      · cases h
    · cases h

theorem AO.of_run {P : Program} {o : Oper} {ρ : Operand → PV} {σ : List Res} {R S : PV → List Res → Prop} {p : PV} {σ' : List Res} (hR : R p σ')
    (h : ∀ w m ev, (∀ x ∈ o.op.operands, Rep w m (ρ x) (ev x)) → Conc w m σ → ∃ v w' m', (execOp ev o).run P w = .ok (.value v) w' ∧ Rep w' m' p v ∧ Conc w' m' σ' ∧ Trans w m σ w' m' σ') :
    AO P o ρ σ R S := by
  intro w m a K QC hr hc hK _
  obtain ⟨v, w', m', h1, h2, h3, h4⟩ := h w m a.eval hr hc
  unfold Oper.wp
  rw [h1]
  exact hK p σ' v w' m' hR h2 h3 h4

theorem AO.of_same {P : Program} {o : Oper} {ρ : Operand → PV} {σ : List Res} {R S : PV → List Res → Prop} {p : PV} (hR : R p σ)
    (h : ∀ w m ev, (∀ x ∈ o.op.operands, Rep w m (ρ x) (ev x)) → Conc w m σ → ∃ v, (execOp ev o).run P w = .ok (.value v) w ∧ Rep w m p v) :
    AO P o ρ σ R S :=
  AO.of_run hR fun w m ev hr hc => let ⟨v, h1, h2⟩ := h w m ev hr hc; ⟨v, w, m, h1, h2, hc, Trans.refl ..⟩

theorem AO.calc' {P : Program} {o : Oper} {ρ : Operand → PV} {σ : List Res} {R S : PV → List Res → Prop} {p : PV} (h : pev ρ o.op = some p) (hR : R p σ) : AO P o ρ σ R S :=
  AO.of_same hR fun _ _ _ hr _ => pev_sound h hr

end Go.Abs

namespace Go.Abs
open Go

/-! ### calls -/

/-- what a call's operands come to -/
theorem RepL.mapA {w : World} {m : Imm} {ρ : Operand → PV} {ev : Operand → Value} {xs : Array Operand} (h : ∀ x ∈ xs, Rep w m (ρ x) (ev x)) : RepL w m (xs.toList.map ρ) (xs.toList.map ev) :=
  RepL.map fun x hx => h x (by simpa using hx)

/-- the rest of the own memory, beside what a call is given -/
theorem fps_append (σ τ : List Res) : fps (σ ++ τ) = fps σ ++ fps τ := by simp [fps]

theorem Conc.left {w : World} {m : Imm} {σ τ : List Res} (h : Conc w m (σ ++ τ)) : Conc w m σ := h.sub (List.sublist_append_left _ _)
theorem Conc.right {w : World} {m : Imm} {σ τ : List Res} (h : Conc w m (σ ++ τ)) : Conc w m τ := h.sub (List.sublist_append_right _ _)

/-- the frame: what a call is not given, it leaves alone -/
theorem Conc.frame {w w' : World} {m m' : Imm} {σ σ' τ : List Res} (h : Conc w m (σ ++ τ)) (hc : Conc w' m' σ') (ht : Trans w m σ w' m' σ') : Conc w' m' (σ' ++ τ) ∧ Trans w m (σ ++ τ) w' m' (σ' ++ τ) := by
  have hap := h.apart
  rw [fps_append, List.nodup_append] at hap
  have hτ : ∀ b ∈ fps τ, b ∉ fps σ := fun b hb hs => hap.2.2 b hs b hb rfl
  have hlt := h.right.fps_lt
  refine ⟨⟨?_, ?_, hc.wf⟩, ⟨ht.os, ht.tape, ht.output, ht.size, ht.le, ?_, ?_⟩⟩
  · intro r hr
    rcases List.mem_append.1 hr with hr | hr
    · exact hc.each r hr
    · refine Res.holds_keep (h.each r (by simp [hr])) ht.le fun b hb => ?_
      have hb' : b ∈ fps τ := by simp only [fps, List.mem_flatMap]; exact ⟨r, hr, hb⟩
      exact ht.keep b (hlt b hb') (hτ b hb')
  · rw [fps_append, List.nodup_append]
    refine ⟨hc.apart, hap.2.1, ?_⟩
    intro a ha b hb e
    subst e
    rcases ht.fresh a ha with h' | h'
    · exact hτ a hb h'
    · have := hlt a hb; omega
  · intro b hb hn
    rw [fps_append, List.mem_append] at hn
    exact ht.keep b hb fun hf => hn (.inl hf)
  · intro b hb
    rw [fps_append, List.mem_append] at hb ⊢
    rcases hb with hb | hb
    · rcases ht.fresh b hb with h' | h'
      · exact .inl (.inl h')
      · exact .inr h'
    · exact .inl (.inr hb)

theorem fps_perm {σ τ : List Res} (h : σ.Perm τ) : (fps σ).Perm (fps τ) := List.Perm.flatMap_right _ h

theorem Conc.perm {w : World} {m : Imm} {σ τ : List Res} (hp : σ.Perm τ) (h : Conc w m σ) : Conc w m τ :=
  ⟨fun r hr => h.each r (hp.mem_iff.2 hr), (fps_perm hp).nodup_iff.1 h.apart, h.wf⟩

theorem Trans.perm {w w' : World} {m m' : Imm} {σ τ σ' τ' : List Res} (hp : σ.Perm τ) (hq : σ'.Perm τ') (h : Trans w m σ w' m' σ') : Trans w m τ w' m' τ' :=
  ⟨h.os, h.tape, h.output, h.size, h.le, fun b hb hn => h.keep b hb fun hf => hn ((fps_perm hp).mem_iff.1 hf), fun b hb => by
    rcases h.fresh b ((fps_perm hq).mem_iff.2 hb) with h' | h'
    · exact .inl ((fps_perm hp).mem_iff.1 h')
    · exact .inr h'⟩

/-- a contract, beside other memory -/
theorem AC.frame {P : Program} {f : FuncId} {args : List PV} {σ τ : List Res} {R : AOut → List Res → Prop} (h : AC P f args σ fun out σ' => R out (σ' ++ τ)) : AC P f args (σ ++ τ) R := by
  intro w m vs hc hv
  refine (h w m vs hc.left hv).mono ?_
  rintro e w' ⟨out, σ', m', h1, h2, h3, h4⟩
  obtain ⟨k1, k2⟩ := Conc.frame hc h3 h4
  exact ⟨out, σ' ++ τ, m', h1, h2, k1, k2⟩

theorem AC.perm {P : Program} {f : FuncId} {args : List PV} {σ τ : List Res} {R : AOut → List Res → Prop} (hp : τ.Perm σ) (h : AC P f args σ R) : AC P f args τ R := by
  intro w m vs hc hv
  refine (h w m vs (hc.perm hp) hv).mono ?_
  rintro e w' ⟨out, σ', m', h1, h2, h3, h4⟩
  exact ⟨out, σ', m', h1, h2, h3, h4.perm hp.symm (List.Perm.refl _)⟩

/-- a call without memory of the caller's -/
theorem AC.none {P : Program} {f : FuncId} {args : List PV} {τ : List Res} {R : AOut → List Res → Prop} (h : AC P f args [] fun out σ' => R out (σ' ++ τ)) : AC P f args τ R :=
  AC.frame (σ := []) h

theorem run_prog (P : Program) (w : World) : (program : Sem Program).run P w = .ok P w := rfl

theorem run_typeInfo {P : Program} {t : TypeId} {i : TypeInfo} (h : P.info? t = some i) (w : World) : (typeInfo t).run P w = .ok i w := by
  simp [typeInfo, h]

/-- what need not be known any more: that a slice is the call's own -/
def PV.weak1 : PV → PV
  | .own _ l => .list l
  | .undef => .undef
  | .int k n => .int k n
  | .bool b => .bool b
  | .str s => .str s
  | .list l => .list l
  | .agg cs => .agg cs
  | .tuple vs => .tuple vs
  | .val v => .val v
  | .iface t p => .iface t p
  | .fn f caps => .fn f caps
  | .ref cs => .ref cs

def PV.weak : PV → PV
  | .own _ l => .list l
  | .agg cs => .agg (cs.map PV.weak1)
  | .undef => .undef
  | .int k n => .int k n
  | .bool b => .bool b
  | .str s => .str s
  | .list l => .list l
  | .tuple vs => .tuple vs
  | .val v => .val v
  | .iface t p => .iface t p
  | .fn f caps => .fn f caps
  | .ref cs => .ref cs

theorem Rep.weak1 {w : World} {m : Imm} {p : PV} {v : Value} (h : Rep w m p v) : Rep w m p.weak1 v := by
  cases p <;> first
    | exact h
    | (simp only [Rep, PV.weak1] at h ⊢; exact h.2)

theorem RepL.weak1 {w : World} {m : Imm} : ∀ {ps : List PV} {vs : List Value}, RepL w m ps vs → RepL w m (ps.map PV.weak1) vs
  | [], _, h => h
  | p :: ps, _, h => by
    simp only [RepL] at h
    obtain ⟨v, vs', rfl, h1, h2⟩ := h
    exact RepL.cons h1.weak1 (RepL.weak1 h2)

theorem Rep.weak {w : World} {m : Imm} {p : PV} {v : Value} (h : Rep w m p v) : Rep w m p.weak v := by
  cases p <;> first
    | exact h
    | (simp only [Rep, PV.weak] at h ⊢; exact h.2)
    | skip
  case agg cs =>
    simp only [Rep, PV.weak] at h ⊢
    obtain ⟨vs, h1, h2⟩ := h
    exact ⟨vs, h1, h2.weak1⟩

theorem RepL.weak {w : World} {m : Imm} : ∀ {ps : List PV} {vs : List Value}, RepL w m ps vs → RepL w m (ps.map PV.weak) vs
  | [], _, h => h
  | p :: ps, _, h => by
    simp only [RepL] at h
    obtain ⟨v, vs', rfl, h1, h2⟩ := h
    exact RepL.cons h1.weak (RepL.weak h2)

/-- has a body, and no name of the run-time's -/
def plainFn (P : Program) (f : FuncId) : Bool :=
  match P.funcs[f]? with
  | some fn => fn.name != "runtime.NumGoroutine" && fn.body.isSome
  | none => false

theorem run_callFunc {P : Program} {f : FuncId} (h : plainFn P f = true) (args : Array Value) (w : World) : (callFunc f args).run P w = .ok (.enter f args) w := by
  unfold plainFn at h
  split at h
  · rename_i fn hf
    simp only [Bool.and_eq_true, bne_iff_ne, ne_eq] at h
    have hb : fn.body ≠ none := by
      cases e : fn.body <;> simp_all
    simp [callFunc, hf, h.1, hb]
  · cases h

/-- a call of a function of the program, by its contract -/
theorem AO.call {P : Program} {o : Oper} {ρ : Operand → PV} {σ : List Res} {R S : PV → List Res → Prop} {c : Call} {f : FuncId} {caps : List PV}
    (ho : o.op = .call c) (cal : Operand) (hcal : c.callee = .value cal) (hf : ρ cal = .fn f caps) (hp : plainFn P f = true)
    (h : AC P f ((c.args.toList.map ρ).map PV.weak ++ caps) σ fun out σ' => match out with | .ret p => R p σ' | .panic p => S p σ') : AO P o ρ σ R S := by
  intro w m a K QC hr hc hK hS
  have hcr := hr cal (by simp [ho, Op.operands, Call.operands, hcal])
  rw [hf] at hcr
  simp only [Rep] at hcr
  obtain ⟨cs, hcv, hcs⟩ := hcr
  have hargs : RepL w m (c.args.toList.map ρ) (c.args.toList.map a.eval) := RepL.map fun x hx => hr x (by simp [ho, Op.operands, Call.operands, hcal]; exact .inr (by simpa using hx))
  have hrun : (execOp a.eval o).run P w = .ok (.enter f (c.args.toList.map a.eval ++ cs).toArray) w := by
    unfold execOp
    simp only [ho, resolve, hcal, hcv, Deferred.ofValue, invoke, Sem.run_bind, Sem.run_pure, Result.andThen_ok]
    rw [run_callFunc hp]
    congr 2
    apply Array.ext'
    simp
  unfold Oper.wp
  rw [hrun, Oper.upon_enter]
  refine (h w m _ hc (hargs.weak.append hcs)).mono ?_
  rintro e w' ⟨out, σ', m', h1, h2, h3, h4⟩
  cases out with
  | ret p =>
    obtain ⟨v, rfl, hv⟩ := h2
    exact hK p σ' v w' m' h1 hv h3 h4
  | panic p =>
    obtain ⟨v, rfl, hv⟩ := h2
    exact hS p σ' v w' m' h1 hv h3 h4

/-! ### the body of a function -/

/-- type facts, by looking -/
def tyInfo (P : Program) (t : TypeId) : Option (Bool × Nat) :=
  match P.underlying t, P.info? t with
  | some (.struct _), some i | some (.array _ _), some i => some (true, i.size)
  | some _, some i => some (false, i.size)
  | _, _ => none

/-- the first k cells, written out -/
def takeO : Nat → List PV → Option (List PV)
  | 0, _ => some []
  | k + 1, [] => none
  | k + 1, c :: cs => match c.force with
    | some c' => match takeO k cs with
      | some r => some (c' :: r)
      | none => none
    | none => none

theorem takeO_eq : ∀ {k : Nat} {cs r : List PV}, takeO k cs = some r → r = cs.take k ∧ k ≤ cs.length
  | 0, cs, r, h => by simp only [takeO, Option.some.injEq] at h; subst h; simp
  | k + 1, [], r, h => by simp [takeO] at h
  | k + 1, c :: cs, r, h => by
    simp only [takeO] at h
    split at h
    · rename_i c' hc
      have hc := PV.force_eq hc
      subst hc
      split at h
      · rename_i t ht
        simp only [Option.some.injEq] at h
        subst h
        have := takeO_eq ht
        simp [this.1]
        exact this.2
      · cases h
    · cases h

/-- the cells behind the first k, written out as far as the head -/
def dropO : Nat → List PV → Option (List PV)
  | 0, [] => some []
  | 0, c :: cs => some (c :: cs)
  | _ + 1, [] => none
  | k + 1, _ :: cs => dropO k cs

theorem dropO_eq : ∀ {k : Nat} {cs r : List PV}, dropO k cs = some r → r = cs.drop k ∧ k ≤ cs.length
  | 0, [], r, h => by simp only [dropO, Option.some.injEq] at h; subst h; simp
  | 0, c :: cs, r, h => by simp only [dropO, Option.some.injEq] at h; subst h; simp
  | k + 1, [], r, h => by simp [dropO] at h
  | k + 1, c :: cs, r, h => by
    have := dropO_eq (k := k) (cs := cs) (r := r) (by simpa [dropO] using h)
    simp [this.1]
    exact this.2

def loadPV (ag : Bool) (k : Nat) (cs : List PV) : Option PV :=
  bif ag then (match takeO k cs with | some r => some (.agg r) | none => none) else (match cs with | c :: _ => c.force | [] => none)

theorem run_isAgg {P : Program} {t : TypeId} {ag : Bool} {k : Nat} (h : tyInfo P t = some (ag, k)) (w : World) : (isAgg t).run P w = .ok ag w ∧ (sizeOf t).run P w = .ok k w := by
  unfold tyInfo at h
  split at h
  · rename_i fs i e1 e2
    simp at h
    simp [isAgg, run_underlying e1, sizeOf, run_typeInfo e2, h]
  · rename_i fs n i e1 e2
    simp at h
    simp [isAgg, run_underlying e1, sizeOf, run_typeInfo e2, h]
  · rename_i d i h1 h2 e1 e2
    simp at h
    constructor
    · simp only [isAgg, Sem.run_bind, run_underlying e1, Result.andThen_ok]
      cases d <;> simp_all
    · simp [sizeOf, run_typeInfo e2, h]
  · cases h

/-- a variable read whose cells are known -/
theorem run_loadVar' {P : Program} {t : TypeId} {ag : Bool} {k : Nat} (h : tyInfo P t = some (ag, k)) {w : World} {m : Imm} {b off : Nat} {cs : List PV} {p : PV} (hp : loadPV ag k cs = some p)
    {vs : List Value} (hv : RepL w m cs vs) (hcell : ∀ i v, vs[i]? = some v → w.cell? ⟨b, off + i, none⟩ = some v) :
    ∃ v, (loadVar t ⟨b, off, none⟩).run P w = .ok v w ∧ Rep w m p v := by
  obtain ⟨h1, h2⟩ := run_isAgg h w
  unfold loadPV at hp
  cases ag with
  | true =>
    simp only [cond_true] at hp
    split at hp
    · rename_i r hr
      simp only [Option.some.injEq] at hp
      subst hp
      obtain ⟨rfl, hk⟩ := takeO_eq hr
      have hl := hv.length_eq
      have hc := run_loadCells_list (P := P) w ⟨b, off, none⟩ (vs.take k) (by
        intro j v hj
        rw [List.getElem?_take] at hj
        split at hj
        · have := hcell j v hj
          simpa [Addr.add_lit] using this
        · cases hj)
      rw [List.length_take, Nat.min_eq_left (by omega)] at hc
      refine ⟨.agg (vs.take k).toArray, ?_, ?_⟩
      · simp only [loadVar, Sem.run_bind, h1, Result.andThen_ok, if_true, h2, hc, Sem.run_pure]
      · simp only [Rep]
        refine ⟨vs.take k, rfl, ?_⟩
        clear hc hcell hl h1 h2 h hr
        induction k generalizing cs vs with
        | zero => simpa using RepL.nil
        | succ k ih =>
          cases cs with
          | nil => simp at hk
          | cons c cs =>
            simp only [RepL] at hv
            obtain ⟨v, vs', rfl, h3, h4⟩ := hv
            exact RepL.cons h3 (ih h4 (by simpa using hk))
    · cases hp
  | false =>
    simp only [cond_false] at hp
    split at hp
    · rename_i c cs'
      have hp := PV.force_eq hp
      subst hp
      simp only [RepL] at hv
      obtain ⟨v, vs', rfl, h3, h4⟩ := hv
      refine ⟨v, ?_, h3⟩
      have := hcell 0 v (by simp)
      simp only [Nat.add_zero] at this
      simp [loadVar, Sem.run_bind, h1, load, Sem.run, this]
    · cases hp

/-- a result variable's value -/
def ResOne (P : Program) (env : Env) (σ : List Res) : ResultVar → PV → Prop
  | .tmp t, p => (env.get t).force = some p
  | .cell a t, p => ∃ (b : Nat) (cs : List PV) (i : Nat) (ag : Bool) (k : Nat), env.get a = .val (.pointer (some ⟨b, 0, none⟩)) ∧ σ[i]? = some (Res.box b cs) ∧ tyInfo P t = some (ag, k) ∧ loadPV ag k cs = some p

def ResL (P : Program) (env : Env) (σ : List Res) : List ResultVar → List PV → Prop
  | [], ps => ps = []
  | r :: rs, ps => ∃ p ps', ps = p :: ps' ∧ ResOne P env σ r p ∧ ResL P env σ rs ps'

def packPV : List PV → PV
  | [p] => p
  | ps => .tuple ps

theorem Conc.box {w : World} {m : Imm} {σ : List Res} (h : Conc w m σ) {i b : Nat} {cs : List PV} (hi : σ[i]? = some (Res.box b cs)) :
    ∃ vs : List Value, ∃ ty, w.heap[b]? = some (.cells vs.toArray ty (0, 0)) ∧ RepL w m cs vs ∧ ∀ off, ¬ m b off :=
  h.each _ (List.mem_of_getElem? hi)

theorem run_results {P : Program} {env : Env} {σ : List Res} {w : World} {m : Imm} {tmps : Array Value} (he : SimE w m env tmps) (hc : Conc w m σ) : ∀ {rs : List ResultVar} {ps : List PV}, ResL P env σ rs ps →
    ∃ vs : List Value, (rs.mapM fun (r : ResultVar) => (match r with | .tmp t => pure (tmps.getD t Go.undef) | .cell a t => do loadVar t (← asAddr (tmps.getD a Go.undef)) : Sem Value)).run P w = .ok vs w ∧ RepL w m ps vs
  | [], ps, h => by
    simp only [ResL] at h
    subst h
    exact ⟨[], by simp, RepL.nil⟩
  | r :: rs, ps, h => by
    simp only [ResL] at h
    obtain ⟨p, ps', rfl, h1, h2⟩ := h
    obtain ⟨vs, k1, k2⟩ := run_results he hc h2
    cases r with
    | tmp t =>
      simp only [ResOne] at h1
      have h1 := PV.force_eq h1
      subst h1
      refine ⟨tmps.getD t Go.undef :: vs, ?_, RepL.cons (he t) k2⟩
      rw [List.mapM_cons]
      simp only [Sem.run_bind, Sem.run_pure, Result.andThen_ok, k1]
    | cell a t =>
      simp only [ResOne] at h1
      obtain ⟨b, cs, i, ag, k, e1, e2, e3, e4⟩ := h1
      have ha := he a
      rw [e1] at ha
      simp only [Rep] at ha
      obtain ⟨us, ty, g1, g2, _⟩ := hc.box e2
      obtain ⟨v, f1, f2⟩ := run_loadVar' e3 (b := b) (off := 0) e4 g2 (by
        intro j u hj
        rw [cell_of_row w b (0 + j) us.toArray ty (0, 0) g1]
        simpa using hj)
      refine ⟨v :: vs, ?_, RepL.cons f2 k2⟩
      rw [List.mapM_cons]
      have ha' : (asAddr (tmps.getD a Go.undef)).run P w = .ok ⟨b, 0, none⟩ w := by rw [ha]; rfl
      simp only [Sem.run_bind, Sem.run_pure, Result.andThen_ok, ha', f1, k1]

/-- what the end of a body means for the call -/
def Qbody (P : Program) (rs : List ResultVar) (R : AOut → List Res → Prop) : Post
  | .normal, e, s, d | .ret, e, s, d => d = [] ∧ ∃ ps, ResL P e s rs ps ∧ ∃ s', s'.Sublist s ∧ R (.ret (packPV (ps.map PV.weak))) s'
  | .panic p, _, s, d => d = [] ∧ ∃ s', s'.Sublist s ∧ R (.panic p) s'
  | _, _, _, _ => False

def argEnv : Nat → List PV → Env
  | _, [] => []
  | i, p :: ps => (i, p) :: argEnv (i + 1) ps

theorem simE_args {w : World} {m : Imm} (extra : List Value) : ∀ {ps : List PV} {vs : List Value} (pre : List Value), RepL w m ps vs → SimE w m (argEnv pre.length ps) (pre ++ vs ++ extra).toArray
  | [], _, pre, h => by intro t; simp [argEnv, Env.get, Rep]
  | p :: ps, _, pre, h => by
    simp only [RepL] at h
    obtain ⟨v, vs', rfl, h1, h2⟩ := h
    intro t
    simp only [argEnv, Env.get]
    by_cases e : pre.length = t
    · subst e
      simp [h1]
    · rw [beq_ne e]
      have := simE_args extra (pre ++ [v]) h2 t
      simpa using this

theorem AC.of_body {P : Program} {f : FuncId} {fn : Func} {c : Code} {args : List PV} {σ : List Res} {R : AOut → List Res → Prop} (n : Nat) (rs : List ResultVar) (ts : List Nat) {env : Env}
    (hf : P.funcs[f]? = some fn) (hb : fn.body = some c) (hn : fn.ntmps = n) (hl : Nat.ble args.length n = true) (hrs : fn.results.toList = rs) (henv : settle ts (argEnv 0 args) = some env)
    (h : AW P n c env σ [] (Qbody P rs R)) : AC P f args σ R := by
  intro w m vs hc hv
  have hl : args.length ≤ n := Nat.le_of_ble_eq_true hl
  have hvl := hv.length_eq
  refine calls_of_wp hf hb ?_
  refine h w m _ _ ⟨?_, rfl, ?_, hc⟩ ?_
  · simp [hvl, hn]; omega
  · have := simE_args (List.replicate (fn.ntmps - vs.toArray.size) Go.undef) [] hv
    rw [show vs.toArray ++ Array.replicate (fn.ntmps - vs.toArray.size) Go.undef = ([] ++ vs ++ List.replicate (fn.ntmps - vs.toArray.size) Go.undef).toArray from by simp]
    exact SimE.settle henv this
  · intro x ex env' σ' ds' a' w' m' hq hx hs ht
    have hend : ∀ ps s', ds' = [] → ResL P env' σ' rs ps → s'.Sublist σ' → R (.ret (packPV (ps.map PV.weak))) s' → a'.defers = [] ∧ ∃ v, (results fn a'.tmps).run P w' = .ok v w' ∧ ∃ out σ' m', R out σ' ∧ RepOut w' m' out (.returned v) ∧ Conc w' m' σ' ∧ Trans w m σ w' m' σ' := by
      intro ps s' hd h1 hsub h2
      obtain ⟨us, k1, k2⟩ := run_results hs.env hs.conc h1
      have hl2 := k2.length_eq
      refine ⟨by rw [hs.ds, hd], ?_⟩
      have hrun : (results fn a'.tmps).run P w' = .ok (if h : us.toArray.size = 1 then us.toArray[0] else .tuple us.toArray) w' := by
        unfold results
        rw [Array.mapM_eq_mapM_toList, hrs]
        have k1' := k1
        simp only [Sem.run_bind, Sem.run_map]
        erw [k1']
        rfl
      have k2 := k2.weak
      have hl2 : us.length = (ps.map PV.weak).length := by simpa using hl2
      refine ⟨_, hrun, .ret (packPV (ps.map PV.weak)), s', m', h2, ⟨_, rfl, ?_⟩, hs.conc.sub hsub, ht.sub hsub⟩
      clear h1 h2
      generalize ps.map PV.weak = ps at k2 hl2 ⊢
      match ps, us, k2, hl2 with
      | [], us, k2, hl2 =>
        simp only [RepL] at k2; subst k2
        simp only [packPV, Rep]
        exact ⟨[], by simp, RepL.nil⟩
      | [p], us, k2, hl2 =>
        simp only [RepL] at k2
        obtain ⟨v, vs', rfl, h3, rfl⟩ := k2
        simpa [packPV] using h3
      | p :: q :: ps, us, k2, hl2 =>
        rw [dif_neg (by simp [hl2])]
        simp only [packPV, Rep]
        exact ⟨us, rfl, k2⟩
    cases x with
    | normal => cases hx; obtain ⟨hd, ps, h1, s', hsub, h2⟩ := hq; exact hend ps s' hd h1 hsub h2
    | ret => cases hx; obtain ⟨hd, ps, h1, s', hsub, h2⟩ := hq; exact hend ps s' hd h1 hsub h2
    | exit id => exact hq.elim
    | panic p =>
      obtain ⟨v, rfl, hv'⟩ := hx
      obtain ⟨hd, s', hsub, h2⟩ := hq
      exact ⟨by rw [hs.ds, hd], .panic p, s', m', h2, ⟨v, rfl, hv'⟩, hs.conc.sub hsub, ht.sub hsub⟩

end Go.Abs
