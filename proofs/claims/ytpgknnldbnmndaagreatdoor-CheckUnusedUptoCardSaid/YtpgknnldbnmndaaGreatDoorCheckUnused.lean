/- Proved here: a declaration of a name that an expression does not use does not change its type, for every input of a bulk of at most 1048576 (the statement CheckUnusedUptoCardSaid). Conditions: none. The walks were written by a program of ours. -/
import Derived.Test.YtpgknnldbnmndaaGreatDoorCuWalk2
import Derived.Test.YtpgknnldbnmndaaGreatDoorCuPlain
import Derived.Test.YtpgknnldbnmndaaGreatDoorRows
import Derived.Test.YtpgknnldbnmndaaGreatDoorCards
import Derived.Test.YtpgknnldbnmndaaGreatDoorTie
import Derived.WalkKit
import Derived.ProofKit
import Derived.OpenShut
import Derived.JoinedCond
import Derived.Deep.DeepHandedRow
import Derived.Deep.DeepWitnessRowRef
import Derived.Lay
import Derived.SevenTiedAt
import Derived.MakeChecks
set_option linter.unusedVariables false
set_option linter.unusedSimpArgs false
namespace Go.Proofs.YtpgknnldbnmndaaGreatDoor
open Go Go.Abs Go.Ft
theorem open_3 {c : List PV} {N : Nat} (h : TyB Tryz.prog 3 c N) : ∃ x : Int, c = [.int .i64 x] ∧ 1 ≤ N := by
  obtain ⟨n, rfl, hw, rfl⟩ := h.intI Tryz.underlying3
  exact ⟨n, rfl, Nat.le_refl _⟩
theorem open_9 {c : List PV} {N : Nat} (h : TyB Tryz.prog 9 c N) : ∃ x : Str, c = [.str x] ∧ (x.length + 1) ≤ N := by
  obtain ⟨s, rfl, rfl⟩ := h.strI Tryz.underlying9
  exact ⟨s, rfl, Nat.le_refl _⟩
theorem open_4 {c : List PV} {N : Nat} (h : TyB Tryz.prog 4 c N) : ∃ x : Bool, c = [.bool x] ∧ 1 ≤ N := by
  obtain ⟨b, rfl, rfl⟩ := h.boolI Tryz.underlying4
  exact ⟨b, rfl, Nat.le_refl _⟩
theorem open_23 {c : List PV} {N : Nat} (h : TyB Tryz.prog 23 c N) : ∃ x : List Str, c = [.list (List.map strC x)] ∧ ((List.map (fun z : Str => (z.length + 1)) x).sum + 1) ≤ N := by
  obtain ⟨l, rfl, rfl, hl⟩ := h.sliceI Tryz.underlying23
  obtain ⟨xs, h1, h2⟩ := list_ofB (f := strC) (μ := fun z : Str => (z.length + 1)) fun x hx => open_9 (hl x hx)
  exact ⟨xs, by rw [h1], by omega⟩
theorem open_25 : ∀ {c : List PV} {N : Nat} (h : TyB Tryz.prog 25 c N), ∃ x : ApiValue, c = ApiValue.cells x ∧ (ApiValue.bulk x) ≤ N := by
  have key : ∀ (M : Nat) {c : List PV}, TyB Tryz.prog 25 c M → ∃ x : ApiValue, c = ApiValue.cells x ∧ (ApiValue.bulk x) ≤ M := by
    intro M
    induction M using Nat.strongRecOn with
    | _ M ih =>
      intro c h
      obtain ⟨ps, rfl, hNe, hlen, hz⟩ := h.structI Tryz.underlying25
      match ps, hlen with
      | [p0, p1, p2, p3, p4, p5], _ =>
        have hN := hNe
        simp only [List.map_cons, List.map_nil, List.sum_cons, List.sum_nil] at hN
        have k0 : TyB Tryz.prog 3 p0.1 p0.2 := hz _ (List.mem_of_getElem? (i := 0) rfl)
        obtain ⟨x0, c0, b0⟩ := open_3 k0
        have k1 : TyB Tryz.prog 4 p1.1 p1.2 := hz _ (List.mem_of_getElem? (i := 1) rfl)
        obtain ⟨x1, c1, b1⟩ := open_4 k1
        have k2 : TyB Tryz.prog 3 p2.1 p2.2 := hz _ (List.mem_of_getElem? (i := 2) rfl)
        obtain ⟨x2, c2, b2⟩ := open_3 k2
        have k3 : TyB Tryz.prog 9 p3.1 p3.2 := hz _ (List.mem_of_getElem? (i := 3) rfl)
        obtain ⟨x3, c3, b3⟩ := open_9 k3
        have k4 : TyB Tryz.prog 22 p4.1 p4.2 := hz _ (List.mem_of_getElem? (i := 4) rfl)
        obtain ⟨l4, e4, m4, hl4⟩ := k4.sliceI Tryz.underlying22
        have hle4 : ∀ x ∈ l4, x.2 ≤ (l4.map (·.2)).sum := fun x hx => le_sum hx
        obtain ⟨as4, q4, r4⟩ := list_ofB (f := ApiValue.cells) (μ := ApiValue.bulk) fun x hx => ih x.2 (by have := hle4 x hx; omega) (hl4 x hx)
        obtain ⟨x4, c4, b4⟩ : ∃ x : List ApiValue, p4.1 = [.list (ApiValue.cellsL x)] ∧ ApiValue.bulkL x + 1 ≤ p4.2 := ⟨as4, by rw [e4, q4, ApiValue.cellsL_eq], by rw [ApiValue.bulkL_eq]; omega⟩
        have k5 : TyB Tryz.prog 23 p5.1 p5.2 := hz _ (List.mem_of_getElem? (i := 5) rfl)
        obtain ⟨x5, c5, b5⟩ := open_23 k5
        refine ⟨⟨x0, x1, x2, x3, x4, x5⟩, ?_, ?_⟩
        · simp only [List.map_cons, List.map_nil, List.flatten_cons, List.flatten_nil, c0, c1, c2, c3, c4, c5]
          first | rfl | simp [ApiValue.cells]
        · simp only [List.map_cons, List.map_nil, List.sum_cons, List.sum_nil] at *
          first | (simp only [ApiValue.bulk]; omega) | (rw [ApiValue.bulk_eq]; simp only; omega)
  intro c N h
  exact key N h
theorem open_28 : ∀ {c : List PV} {N : Nat} (h : TyB Tryz.prog 28 c N), ∃ x : ApiExpr, c = ApiExpr.cells x ∧ (ApiExpr.bulk x) ≤ N := by
  have key : ∀ (M : Nat) {c : List PV}, TyB Tryz.prog 28 c M → ∃ x : ApiExpr, c = ApiExpr.cells x ∧ (ApiExpr.bulk x) ≤ M := by
    intro M
    induction M using Nat.strongRecOn with
    | _ M ih =>
      intro c h
      obtain ⟨ps, rfl, hNe, hlen, hz⟩ := h.structI Tryz.underlying28
      match ps, hlen with
      | [p0, p1, p2, p3, p4], _ =>
        have hN := hNe
        simp only [List.map_cons, List.map_nil, List.sum_cons, List.sum_nil] at hN
        have k0 : TyB Tryz.prog 3 p0.1 p0.2 := hz _ (List.mem_of_getElem? (i := 0) rfl)
        obtain ⟨x0, c0, b0⟩ := open_3 k0
        have k1 : TyB Tryz.prog 9 p1.1 p1.2 := hz _ (List.mem_of_getElem? (i := 1) rfl)
        obtain ⟨x1, c1, b1⟩ := open_9 k1
        have k2 : TyB Tryz.prog 25 p2.1 p2.2 := hz _ (List.mem_of_getElem? (i := 2) rfl)
        obtain ⟨x2, c2, b2⟩ := open_25 k2
        have k3 : TyB Tryz.prog 26 p3.1 p3.2 := hz _ (List.mem_of_getElem? (i := 3) rfl)
        obtain ⟨l3, e3, m3, hl3⟩ := k3.sliceI Tryz.underlying26
        have hle3 : ∀ x ∈ l3, x.2 ≤ (l3.map (·.2)).sum := fun x hx => le_sum hx
        obtain ⟨as3, q3, r3⟩ := list_ofB (f := ApiExpr.cells) (μ := ApiExpr.bulk) fun x hx => ih x.2 (by have := hle3 x hx; omega) (hl3 x hx)
        obtain ⟨x3, c3, b3⟩ : ∃ x : List ApiExpr, p3.1 = [.list (ApiExpr.cellsL x)] ∧ ApiExpr.bulkL x + 1 ≤ p3.2 := ⟨as3, by rw [e3, q3, ApiExpr.cellsL_eq], by rw [ApiExpr.bulkL_eq]; omega⟩
        have k4 : TyB Tryz.prog 23 p4.1 p4.2 := hz _ (List.mem_of_getElem? (i := 4) rfl)
        obtain ⟨x4, c4, b4⟩ := open_23 k4
        refine ⟨⟨x0, x1, x2, x3, x4⟩, ?_, ?_⟩
        · simp only [List.map_cons, List.map_nil, List.flatten_cons, List.flatten_nil, c0, c1, c2, c3, c4]
          first | rfl | simp [ApiExpr.cells, ApiValue.cells_eq]
        · simp only [List.map_cons, List.map_nil, List.sum_cons, List.sum_nil] at *
          first | (simp only [ApiExpr.bulk]; omega) | (rw [ApiExpr.bulk_eq]; simp only; omega)
  intro c N h
  exact key N h
theorem open_39 : ∀ {c : List PV} {N : Nat} (h : TyB Tryz.prog 39 c N), ∃ x : ApiType, c = ApiType.cells x ∧ (ApiType.bulk x) ≤ N := by
  have key : ∀ (M : Nat) {c : List PV}, TyB Tryz.prog 39 c M → ∃ x : ApiType, c = ApiType.cells x ∧ (ApiType.bulk x) ≤ M := by
    intro M
    induction M using Nat.strongRecOn with
    | _ M ih =>
      intro c h
      obtain ⟨ps, rfl, hNe, hlen, hz⟩ := h.structI Tryz.underlying39
      match ps, hlen with
      | [p0, p1], _ =>
        have hN := hNe
        simp only [List.map_cons, List.map_nil, List.sum_cons, List.sum_nil] at hN
        have k0 : TyB Tryz.prog 3 p0.1 p0.2 := hz _ (List.mem_of_getElem? (i := 0) rfl)
        obtain ⟨x0, c0, b0⟩ := open_3 k0
        have k1 : TyB Tryz.prog 37 p1.1 p1.2 := hz _ (List.mem_of_getElem? (i := 1) rfl)
        obtain ⟨l1, e1, m1, hl1⟩ := k1.sliceI Tryz.underlying37
        have hle1 : ∀ x ∈ l1, x.2 ≤ (l1.map (·.2)).sum := fun x hx => le_sum hx
        obtain ⟨as1, q1, r1⟩ := list_ofB (f := ApiType.cells) (μ := ApiType.bulk) fun x hx => ih x.2 (by have := hle1 x hx; omega) (hl1 x hx)
        obtain ⟨x1, c1, b1⟩ : ∃ x : List ApiType, p1.1 = [.list (ApiType.cellsL x)] ∧ ApiType.bulkL x + 1 ≤ p1.2 := ⟨as1, by rw [e1, q1, ApiType.cellsL_eq], by rw [ApiType.bulkL_eq]; omega⟩
        refine ⟨⟨x0, x1⟩, ?_, ?_⟩
        · simp only [List.map_cons, List.map_nil, List.flatten_cons, List.flatten_nil, c0, c1]
          first | rfl | simp [ApiType.cells]
        · simp only [List.map_cons, List.map_nil, List.sum_cons, List.sum_nil] at *
          first | (simp only [ApiType.bulk]; omega) | (rw [ApiType.bulk_eq]; simp only; omega)
  intro c N h
  exact key N h
theorem open_41 {c : List PV} {N : Nat} (h : TyB Tryz.prog 41 c N) : ∃ x : ApiDecl, c = ApiDecl.cells x ∧ (ApiDecl.bulk x) ≤ N := by
  obtain ⟨ps, rfl, rfl, hlen, hz⟩ := h.structI Tryz.underlying41
  match ps, hlen with
  | [p0, p1], _ =>
    have k0 : TyB Tryz.prog 9 p0.1 p0.2 := hz _ (List.mem_of_getElem? (i := 0) rfl)
    obtain ⟨x0, c0, b0⟩ := open_9 k0
    have k1 : TyB Tryz.prog 39 p1.1 p1.2 := hz _ (List.mem_of_getElem? (i := 1) rfl)
    obtain ⟨x1, c1, b1⟩ := open_39 k1
    refine ⟨⟨x0, x1⟩, ?_, ?_⟩
    · simp only [List.map_cons, List.map_nil, List.flatten_cons, List.flatten_nil, c0, c1]
      first | rfl | simp [ApiDecl.cells, ApiType.cells_eq]
    · simp only [List.map_cons, List.map_nil, List.sum_cons, List.sum_nil] at *
      first | (simp only [ApiDecl.bulk]; omega) | (rw [ApiDecl.bulk_eq]; simp only; omega)
theorem open_29 {c : List PV} {N : Nat} (h : TyB Tryz.prog 29 c N) : ∃ x : List ApiDecl, c = [.list (List.map ApiDecl.cells x)] ∧ ((List.map (fun z : ApiDecl => (ApiDecl.bulk z)) x).sum + 1) ≤ N := by
  obtain ⟨l, rfl, rfl, hl⟩ := h.sliceI Tryz.underlying29
  obtain ⟨xs, h1, h2⟩ := list_ofB (f := ApiDecl.cells) (μ := fun z : ApiDecl => (ApiDecl.bulk z)) fun x hx => open_41 (hl x hx)
  exact ⟨xs, by rw [h1], by omega⟩
namespace checkUnused
open Go.ChangeShapes Go.WideShapes Go.ChangeAt Go.RowKit

theorem own : ownKnob Tryz.prog.godebug = none := by kernel_rfl
theorem laidOut : laidOutB Tryz.prog = true := by kernel_rfl

mutual
theorem bulk_one {H : Type} : ∀ d : DataW H, Rows.uptoBulk d = bulkD d
  | .lit (.string _) => by simp only [Rows.uptoBulk, bulkD]
  | .lit (.bool _) => by simp only [Rows.uptoBulk, bulkD]
  | .lit (.int _ _) => by simp only [Rows.uptoBulk, bulkD]
  | .lit (.float _ _) => by simp only [Rows.uptoBulk, bulkD]
  | .lit .nil => by simp only [Rows.uptoBulk, bulkD]
  | .nil => by simp only [Rows.uptoBulk, bulkD]
  | .ptr d => by simp only [Rows.uptoBulk, bulkD, bulk_one d]
  | .slice a b => by simp only [Rows.uptoBulk, bulkD, bulk_all a, bulk_all b]
  | .agg a => by simp only [Rows.uptoBulk, bulkD, bulk_all a]
  | .iface _ d => by simp only [Rows.uptoBulk, bulkD, bulk_one d]
  | .map a => by simp only [Rows.uptoBulk, bulkD, bulk_ents a]
  | .held _ => by simp only [Rows.uptoBulk, bulkD]
theorem bulk_all {H : Type} : ∀ l : List (DataW H), Rows.uptoBulkAll l = bulkDAll l
  | [] => by simp only [Rows.uptoBulkAll, bulkDAll]
  | d :: r => by simp only [Rows.uptoBulkAll, bulkDAll, bulk_one d, bulk_all r]
theorem bulk_ents {H : Type} : ∀ l : List (Lit × DataW H), Rows.uptoBulkEntries l = bulkDEntries l
  | [] => by simp only [Rows.uptoBulkEntries, bulkDEntries]
  | x :: r => by simp only [Rows.uptoBulkEntries, bulkDEntries, bulk_ent x, bulk_ents r]
theorem bulk_ent {H : Type} : ∀ x : Lit × DataW H, Rows.uptoBulkEntry x = bulkDEntry x
  | (.string _, d) => by simp only [Rows.uptoBulkEntry, bulkDEntry, bulk_one d]
  | (.bool _, d) => by simp only [Rows.uptoBulkEntry, bulkDEntry, bulk_one d]
  | (.int _ _, d) => by simp only [Rows.uptoBulkEntry, bulkDEntry, bulk_one d]
  | (.float _ _, d) => by simp only [Rows.uptoBulkEntry, bulkDEntry, bulk_one d]
  | (.nil, d) => by simp only [Rows.uptoBulkEntry, bulkDEntry, bulk_one d]
end

/-- the walk, over any arguments of the parameters' types -/
theorem walk : ∀ qs N, TyAllB Tryz.prog [28, 29, 41] qs N → N ≤ 1048576 → AC Tryz.prog 4 qs [] fun out _ => out = .ret (.bool true) := by
  intro qs N h hN
  obtain ⟨q0, qs0, A0, B0, rfl, e0, t0, g0⟩ := h
  obtain ⟨cs0, rfl, u0⟩ := t0.aggI ⟨_, Tryz.underlying28⟩
  obtain ⟨x0, rfl, m0⟩ := open_28 u0
  rw [ApiExpr.cells_eq]
  obtain ⟨q1, qs1, A1, B1, rfl, e1, t1, g1⟩ := g0
  have u1 := t1.oneI (by rw [Tryz.underlying29]; simp) (by rw [Tryz.underlying29]; simp)
  obtain ⟨x1, hx1, m1⟩ := open_29 u1
  simp only [List.cons.injEq, and_true] at hx1
  subst hx1
  obtain ⟨q2, qs2, A2, B2, rfl, e2, t2, g2⟩ := g1
  obtain ⟨cs2, rfl, u2⟩ := t2.aggI ⟨_, Tryz.underlying41⟩
  obtain ⟨x2, rfl, m2⟩ := open_41 u2
  rw [ApiDecl.cells_eq]
  obtain ⟨rfl, e3⟩ := g2
  exact c_l11_CheckUnused _ _ _ (law_CheckUnused x0 x1 x2 (by omega)) rfl

theorem laid_met (os : Os) : laidMet Tryz.prog Rows.checkUnusedUptoRow.laid ((World.laidAll Tryz.prog os Rows.checkUnusedUptoRow.laid).forCall (fun _ _ => 0) ⟨#[], #[.agg #[.int .i64 0, .string ⟨#[]⟩, .int .i64 0, .bool false, .int .i64 0, .string ⟨#[]⟩, .slice none 0 0, .slice none 0 0, .slice none 0 0, .slice none 0 0], .slice none 0 0, .agg #[.string ⟨#[]⟩, .int .i64 0, .slice none 0 0]], []⟩).memory :=
  laidMet_laidAll _ (by kernel_rfl) (by kernel_rfl)
theorem reads (os : Os) {H : Type} (enc : TypeId × Value → H) : ∃ places, DataW.whole enc Tryz.prog ((World.laidAll Tryz.prog os Rows.checkUnusedUptoRow.laid).forCall (fun _ _ => 0) ⟨#[], #[.agg #[.int .i64 0, .string ⟨#[]⟩, .int .i64 0, .bool false, .int .i64 0, .string ⟨#[]⟩, .slice none 0 0, .slice none 0 0, .slice none 0 0, .slice none 0 0], .slice none 0 0, .agg #[.string ⟨#[]⟩, .int .i64 0, .slice none 0 0]], []⟩).memory Tryz.f4.params.toList Rows.checkUnusedSpec.vars false (#[.agg #[.int .i64 0, .string ⟨#[]⟩, .int .i64 0, .bool false, .int .i64 0, .string ⟨#[]⟩, .slice none 0 0, .slice none 0 0, .slice none 0 0, .slice none 0 0], .slice none 0 0, .agg #[.string ⟨#[]⟩, .int .i64 0, .slice none 0 0]] : Array Value).toList 8 = some ([.agg [.lit (.int .i64 0), .lit (.string []), .agg [.lit (.int .i64 0), .lit (.bool false), .lit (.int .i64 0), .lit (.string []), .nil, .nil], .nil, .nil], .nil, .agg [.lit (.string []), .agg [.lit (.int .i64 0), .nil]]], [], places) :=
  ⟨[], by kernel_rfl⟩

set_option maxRecDepth 100000 in
theorem lifted (os : Os) (started : os.Started) (H : Type) (enc : TypeId × Value → H) (F : Stop.Interp) :
    ReturnsInHanded {} Tryz.checked os 4 .any ((Rows.OpenSpec.upto Rows.checkUnusedSpec).preRow enc Tryz.prog Tryz.f4 Rows.checkUnusedUptoRow.domain false Rows.checkUnusedUptoRow.laid) (((Rows.OpenSpec.upto Rows.checkUnusedSpec).at F).post enc Tryz.prog Tryz.f4 false true false false) := by
  obtain ⟨places, hx⟩ := reads os enc
  refine returnsInHanded_of_row (C := Tryz.checked) (s := Rows.OpenSpec.upto Rows.checkUnusedSpec) own started (by kernel_rfl) Tryz.func4
    (witness_row_atRef (enc := enc) (C := Tryz.checked) false (World.laidAll Tryz.prog os Rows.checkUnusedUptoRow.laid) #[.agg #[.int .i64 0, .string ⟨#[]⟩, .int .i64 0, .bool false, .int .i64 0, .string ⟨#[]⟩, .slice none 0 0, .slice none 0 0, .slice none 0 0, .slice none 0 0], .slice none 0 0, .agg #[.string ⟨#[]⟩, .int .i64 0, .slice none 0 0]] (World.laidAll_os _ _ _) (by kernel_rfl) (by kernel_rfl) (by kernel_rfl)
      (OpenSpec.preRow_of_cond 8 hx (by kernel_rfl) (fun k hk => by cases hk; kernel_rfl) (by kernel_rfl) (by rw [MakeChecks.laidMetH_plain _ _ _ (by kernel_rfl)]; exact laid_met os))) ?_
  intro W base args ds gs before hval hW _ hcond _ _ _ _
  have hk := hcond _ rfl
  have hk2 : bulkDAll (ds ++ gs) ≤ 1048576 := by
    have := of_decide_eq_true hk
    rw [bulk_all] at this
    exact this
  have hgs : gs = [] := by
    obtain ⟨p, q, hA, hV, rfl, hfz, hnd⟩ := hW
    cases gs with
    | nil => rfl
    | cons g gs => exact hV.elim
  subst hgs
  rw [List.append_nil] at hk2
  refine law_stepB (P := Tryz.prog) (S := [3, 4, 9, 22, 23, 25, 26, 28, 29, 37, 39, 41]) (tb := 4) (by kernel_rfl) (by rw [Tryz.params4]; decide) (by rw [Tryz.params4]; exact of_decide_eq_true (by kernel_rfl)) laidOut (by kernel_rfl) Tryz.underlying4 rfl ?_ (fun qs N h hN => by rw [Tryz.params4] at h; exact walk qs N h (by omega)) hval hW
  rw [Tryz.params4]
  intro ds hd
  match ds, hd with
  | [d0, d1, d2], _ => rfl

theorem over : Rows.checkUnusedUptoRow.holds Tryz.pinned (Rows.OpenSpec.upto Rows.checkUnusedSpec) :=
  OpenClaim.holds_of_cond 4 Tryz.f4 rfl rfl rfl rfl rfl rfl rfl ⟨rfl, rfl, rfl, rfl, rfl⟩ rfl rfl rfl rfl rfl (by kernel_rfl) Tryz.func4 (by kernel_rfl)
    (of_decide_eq_true (by kernel_rfl)) (by unfold Func.isWrapper; first | (rw [if_pos (by decide +kernel)]; kernel_rfl) | (rw [if_neg (by decide +kernel)]; exact ⟨rfl, rfl⟩))
    (fun os started H enc _ F => by rw [OpenClaim.pre_eq_preRow]; exact lifted os started H enc F)


/-- what the card asks of the parameters -/
theorem plain (f : FuncId) (fn : Func) (hf : Tryz.pinned.checked.prog.funcNamed "pipeline/pipelinelaw11.CheckUnused" = some f) (hfn : Tryz.pinned.checked.prog.funcs[f]? = some fn) :
    true = Tryz.pinned.checked.prog.looks [] ∧ ∀ (j : Nat) t, fn.params[j]? = some t → Tryz.pinned.checked.prog.wantsStandIn t = false := by
  obtain rfl : f = 4 := Option.some.inj ((show Tryz.prog.funcNamed "pipeline/pipelinelaw11.CheckUnused" = some 4 by kernel_rfl).symm.trans hf) |>.symm
  obtain rfl : fn = Tryz.f4 := (Option.some.inj (Tryz.func4.symm.trans hfn)).symm
  refine ⟨by kernel_rfl, fun j t ht => ?_⟩
  rw [Tryz.params4] at ht
  have hm : t ∈ [28, 29, 41] := by have := Array.mem_of_getElem? ht; simpa using this
  simp only [List.mem_cons, List.not_mem_nil, or_false] at hm
  rcases hm with rfl | rfl | rfl
  · exact (show Tryz.prog.wantsStandIn 28 = false by kernel_rfl)
  · exact (show Tryz.prog.wantsStandIn 29 = false by kernel_rfl)
  · exact (show Tryz.prog.wantsStandIn 41 = false by kernel_rfl)

/-- THE STATEMENT -/
theorem proved : Rows.CheckUnusedUptoCardSaid :=
  Claim7.holds_tied_plain_at .later [] _ _ _ _ over (fun _ h => by cases h) (by kernel_rfl) (fun _ h => by cases h) checkUnusedUpto_row_tie rfl ⟨rfl, rfl⟩ (by kernel_rfl) rfl plain (by kernel_rfl)
#print axioms proved
end checkUnused
end Go.Proofs.YtpgknnldbnmndaaGreatDoor
