/- Proved here: the tokens of a source are those of its tokens joined, for every input of a bulk of at most 1048576 (the statement LexerBackUptoSaid). Conditions: none. The walks were written by a program of ours. -/
import Derived.Test.YtfiahdjachcaiaaWalk2
import Derived.Test.YtfiahdjachcaiaaPlain3
import Derived.Test.YtfiahdjachcaiaaRows
import Derived.WalkKit
import Derived.ProofKit
import Derived.OpenShut
import Derived.JoinedCond
set_option linter.unusedVariables false
set_option linter.unusedSimpArgs false
namespace Go.Proofs.Ytfiahdjachcaiaa
open Go Go.Abs Go.Ft
theorem open_9 {c : List PV} {N : Nat} (h : TyB Try.prog 9 c N) : ∃ x : Str, c = [.str x] ∧ (x.length + 1) ≤ N := by
  obtain ⟨s, rfl, rfl⟩ := h.strI Try.underlying9
  exact ⟨s, rfl, Nat.le_refl _⟩
namespace lexerBack
open Go.ChangeShapes Go.WideShapes Go.ChangeAt Go.RowKit

theorem own : ownKnob Try.prog.godebug = none := by kernel_rfl
theorem laidOut : laidOutB Try.prog = true := by kernel_rfl

mutual
theorem bulk_one {H : Type} : ∀ d : DataW H, Rows.uptoBulk d = bulkD d
  | .lit (.string _) => by simp only [Rows.uptoBulk, bulkD]
  | .lit (.bool _) => by simp only [Rows.uptoBulk, bulkD]
  | .lit (.int _ _) => by simp only [Rows.uptoBulk, bulkD]
  | .lit (.float _ _) => by simp only [Rows.uptoBulk, bulkD]
  | .lit .nil => by simp only [Rows.uptoBulk, bulkD]
  | .nil => by simp only [Rows.uptoBulk, bulkD]
  | .ptr d => by simp only [Rows.uptoBulk, bulkD, bulk_one d]
  | .slice a b => by simp only [Rows.uptoBulk, bulkD, bulk_all a, bulk_all b]
  | .agg a => by simp only [Rows.uptoBulk, bulkD, bulk_all a]
  | .iface _ d => by simp only [Rows.uptoBulk, bulkD, bulk_one d]
  | .map a => by simp only [Rows.uptoBulk, bulkD, bulk_ents a]
  | .held _ => by simp only [Rows.uptoBulk, bulkD]
theorem bulk_all {H : Type} : ∀ l : List (DataW H), Rows.uptoBulkAll l = bulkDAll l
  | [] => by simp only [Rows.uptoBulkAll, bulkDAll]
  | d :: r => by simp only [Rows.uptoBulkAll, bulkDAll, bulk_one d, bulk_all r]
theorem bulk_ents {H : Type} : ∀ l : List (Lit × DataW H), Rows.uptoBulkEntries l = bulkDEntries l
  | [] => by simp only [Rows.uptoBulkEntries, bulkDEntries]
  | x :: r => by simp only [Rows.uptoBulkEntries, bulkDEntries, bulk_ent x, bulk_ents r]
theorem bulk_ent {H : Type} : ∀ x : Lit × DataW H, Rows.uptoBulkEntry x = bulkDEntry x
  | (.string _, d) => by simp only [Rows.uptoBulkEntry, bulkDEntry, bulk_one d]
  | (.bool _, d) => by simp only [Rows.uptoBulkEntry, bulkDEntry, bulk_one d]
  | (.int _ _, d) => by simp only [Rows.uptoBulkEntry, bulkDEntry, bulk_one d]
  | (.float _ _, d) => by simp only [Rows.uptoBulkEntry, bulkDEntry, bulk_one d]
  | (.nil, d) => by simp only [Rows.uptoBulkEntry, bulkDEntry, bulk_one d]
end

/-- the walk, over any arguments of the parameters' types -/
theorem walk : ∀ qs N, TyAllB Try.prog [9] qs N → N ≤ 1048576 → AC Try.prog 5 qs [] fun out _ => out = .ret (.bool true) := by
  intro qs N h hN
  obtain ⟨q0, qs0, A0, B0, rfl, e0, t0, g0⟩ := h
  have u0 := t0.oneI (by rw [Try.underlying9]; simp) (by rw [Try.underlying9]; simp)
  obtain ⟨x0, hx0, m0⟩ := open_9 u0
  simp only [List.cons.injEq, and_true] at hx0
  subst hx0
  obtain ⟨rfl, e1⟩ := g0
  exact c_l09_LexerBack _ (law_LexerBack x0 (by omega)) rfl

set_option maxRecDepth 100000 in
theorem lifted (os : Os) (started : os.Started) (H : Type) (enc : TypeId × Value → H) (F : Stop.Interp) :
    ReturnsInHanded {} Try.checked os 5 .any ((Rows.OpenSpec.upto Rows.lexerBackSpec).pre6 enc Try.prog Try.f5 Rows.lexerBackUptoRow.domain false) (((Rows.OpenSpec.upto Rows.lexerBackSpec).at F).post enc Try.prog Try.f5 false true false false) := by
  refine returnsInHanded_of_cond (C := Try.checked) (s := Rows.OpenSpec.upto Rows.lexerBackSpec) (k := Rows.uptoSmall) rfl own started (by kernel_rfl) Try.func5
    (OpenSpec.witness (enc := enc) (C := Try.checked) (s := Rows.OpenSpec.upto Rows.lexerBackSpec) (k := Rows.uptoSmall) rfl false ⟨#[], #[.string ⟨#[]⟩], []⟩ 8 (by kernel_rfl) (by kernel_rfl) (by kernel_rfl)
      (x := ([.lit (.string [])], [], [])) (by kernel_rfl) rfl (by kernel_rfl)) ?_
  intro W base args ds gs before hval hW _ hk _
  have hk2 : bulkDAll (ds ++ gs) ≤ 1048576 := by
    have := of_decide_eq_true hk
    rw [bulk_all] at this
    exact this
  have hgs : gs = [] := by
    obtain ⟨p, q, hA, hV, rfl, hfz, hnd⟩ := hW
    cases gs with
    | nil => rfl
    | cons g gs => exact hV.elim
  subst hgs
  rw [List.append_nil] at hk2
  refine law_stepB (P := Try.prog) (S := [9]) (tb := 4) (by kernel_rfl) (by rw [Try.params5]; decide) (by rw [Try.params5]; exact of_decide_eq_true (by kernel_rfl)) laidOut (by kernel_rfl) Try.underlying4 rfl ?_ (fun qs N h hN => by rw [Try.params5] at h; exact walk qs N h (by omega)) hval hW
  rw [Try.params5]
  intro ds hd
  match ds, hd with
  | [d0], _ => rfl

theorem over : Rows.lexerBackUptoRow.holds Try.pinned (Rows.OpenSpec.upto Rows.lexerBackSpec) :=
  OpenClaim.holds_of_cond 5 Try.f5 rfl rfl rfl rfl rfl rfl rfl ⟨rfl, rfl, rfl, rfl, rfl⟩ rfl rfl rfl rfl rfl (by kernel_rfl) Try.func5 (by kernel_rfl)
    (of_decide_eq_true (by kernel_rfl)) (by unfold Func.isWrapper; first | (rw [if_pos (by decide +kernel)]; kernel_rfl) | (rw [if_neg (by decide +kernel)]; exact ⟨rfl, rfl⟩))
    (fun os started H enc _ F => lifted os started H enc F)

/-- THE STATEMENT -/
theorem proved : Rows.LexerBackUptoSaid := over
#print axioms proved
end lexerBack
end Go.Proofs.Ytfiahdjachcaiaa
