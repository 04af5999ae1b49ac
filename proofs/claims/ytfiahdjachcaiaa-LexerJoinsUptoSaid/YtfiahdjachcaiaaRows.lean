/-
  No cell of these rows narrows 'for every input' (looked for: loops, veiled, ifaces, maps, wideKeys, modest, calm, conditions, laid).
  DERIVED. THE GIVEN ROWS OF THIS SEAT. 6 by the template 'for every input the law returns true; each argument reads behind the call as it read before'; 0 by the template 'total and deterministic' (their statements: YtfiahdjachcaiaaTotals.lean).
  GIVEN WITH THE SEED: the statements are not yours to turn. If you find one false, say at which input.
  Laid BY PROGRAM, IN A SANDBOX (cutbox-rows.mjs): the forced cells as the released guide's own fill.sh prints them over the translation 33c6518a962e7821… (all of the seat's roots in one cut). By AI agents, Wed Nov 11 2026. No macro, syntax, notation, axiom, sorry.
-/
import Derived.Test.YtfiahdjachcaiaaChecked
import GoSem.Claim
import GoSem.ClaimJoined
import GoSem.ClaimMapViews
import Derived.JoinedTies
import Derived.KernelRfl
namespace Go.Proofs.Ytfiahdjachcaiaa
/- THE CELL 'sum', in the pinned program and in every row, IS THE sha256 OF THE DUMP (.gsa) THAT YtfiahdjachcaiaaProg.lean LOADS. Nothing in Lean hashes anything: it is a label: what it is worth is what the hold of that sum in a sandbox is worth. -/
noncomputable def Try.pinned : Pinned := { name := "ytfiahdjachcaiaa", sum := "33c6518a962e7821914b380014e1eb272ee9cf7663bfe2146e85f6d7c01da775", checked := Try.checked }
namespace Rows
def none {H : Type} : Left H := { results := [], args := [] }

/-- 'pipelinelaw09.LexerTokens': WHATEVER THE INPUT: true; the input reads as it did. -/
def lexerTokensSpec : ChangeSpec := { name := "lexerTokens", fn := fun _ => fun
  | [d] => { results := [.lit (.bool true)], args := [d] }
  | _ => none }
def lexerTokensRow : OpenClaim := { program := "ytfiahdjachcaiaa", sum := "33c6518a962e7821914b380014e1eb272ee9cf7663bfe2146e85f6d7c01da775", func := "pipeline/pipelinelaw09.LexerTokens", spec := "lexerTokens", inPlace := ["internal/abi.NoEscape"], unfollowed := true, recurses := true, apart := false }
def LexerTokensSaid : Prop := lexerTokensRow.holds Try.pinned (OpenSpec.ofChange lexerTokensSpec)

/-- ITS FALSE NEIGHBOUR: 'it returns false'. Refute it at one input. -/
def lexerTokensWrong : ChangeSpec := { name := "lexerTokens", fn := fun _ => fun
  | [d] => { results := [.lit (.bool false)], args := [d] }
  | _ => none }
def LexerTokensWrongFalsely : Prop := lexerTokensRow.holds Try.pinned (OpenSpec.ofChange lexerTokensWrong)

/-- 'pipelinelaw09.LexerJoins': WHATEVER THE INPUT: true; the input reads as it did. -/
def lexerJoinsSpec : ChangeSpec := { name := "lexerJoins", fn := fun _ => fun
  | [d1, d2] => { results := [.lit (.bool true)], args := [d1, d2] }
  | _ => none }
def lexerJoinsRow : OpenClaim := { program := "ytfiahdjachcaiaa", sum := "33c6518a962e7821914b380014e1eb272ee9cf7663bfe2146e85f6d7c01da775", func := "pipeline/pipelinelaw09.LexerJoins", spec := "lexerJoins", inPlace := ["internal/abi.NoEscape"], unfollowed := true, recurses := true, apart := false }
def LexerJoinsSaid : Prop := lexerJoinsRow.holds Try.pinned (OpenSpec.ofChange lexerJoinsSpec)

/-- ITS FALSE NEIGHBOUR: 'it returns false'. Refute it at one input. -/
def lexerJoinsWrong : ChangeSpec := { name := "lexerJoins", fn := fun _ => fun
  | [d1, d2] => { results := [.lit (.bool false)], args := [d1, d2] }
  | _ => none }
def LexerJoinsWrongFalsely : Prop := lexerJoinsRow.holds Try.pinned (OpenSpec.ofChange lexerJoinsWrong)

/-- 'pipelinelaw09.LexerBack': WHATEVER THE INPUT: true; the input reads as it did. -/
def lexerBackSpec : ChangeSpec := { name := "lexerBack", fn := fun _ => fun
  | [d] => { results := [.lit (.bool true)], args := [d] }
  | _ => none }
def lexerBackRow : OpenClaim := { program := "ytfiahdjachcaiaa", sum := "33c6518a962e7821914b380014e1eb272ee9cf7663bfe2146e85f6d7c01da775", func := "pipeline/pipelinelaw09.LexerBack", spec := "lexerBack", inPlace := ["internal/abi.NoEscape"], unfollowed := true, recurses := true, apart := false }
def LexerBackSaid : Prop := lexerBackRow.holds Try.pinned (OpenSpec.ofChange lexerBackSpec)

/-- ITS FALSE NEIGHBOUR: 'it returns false'. Refute it at one input. -/
def lexerBackWrong : ChangeSpec := { name := "lexerBack", fn := fun _ => fun
  | [d] => { results := [.lit (.bool false)], args := [d] }
  | _ => none }
def LexerBackWrongFalsely : Prop := lexerBackRow.holds Try.pinned (OpenSpec.ofChange lexerBackWrong)

/-- 'pipelinelaw09.LexerStrings': WHATEVER THE INPUT: true; the input reads as it did. -/
def lexerStringsSpec : ChangeSpec := { name := "lexerStrings", fn := fun _ => fun
  | [d] => { results := [.lit (.bool true)], args := [d] }
  | _ => none }
def lexerStringsRow : OpenClaim := { program := "ytfiahdjachcaiaa", sum := "33c6518a962e7821914b380014e1eb272ee9cf7663bfe2146e85f6d7c01da775", func := "pipeline/pipelinelaw09.LexerStrings", spec := "lexerStrings", inPlace := ["internal/abi.NoEscape"], unfollowed := true, recurses := true, apart := false }
def LexerStringsSaid : Prop := lexerStringsRow.holds Try.pinned (OpenSpec.ofChange lexerStringsSpec)

/-- ITS FALSE NEIGHBOUR: 'it returns false'. Refute it at one input. -/
def lexerStringsWrong : ChangeSpec := { name := "lexerStrings", fn := fun _ => fun
  | [d] => { results := [.lit (.bool false)], args := [d] }
  | _ => none }
def LexerStringsWrongFalsely : Prop := lexerStringsRow.holds Try.pinned (OpenSpec.ofChange lexerStringsWrong)

/-- 'pipelinelaw09.LexerEnds': WHATEVER THE INPUT: true; the input reads as it did. -/
def lexerEndsSpec : ChangeSpec := { name := "lexerEnds", fn := fun _ => fun
  | [d1, d2] => { results := [.lit (.bool true)], args := [d1, d2] }
  | _ => none }
def lexerEndsRow : OpenClaim := { program := "ytfiahdjachcaiaa", sum := "33c6518a962e7821914b380014e1eb272ee9cf7663bfe2146e85f6d7c01da775", func := "pipeline/pipelinelaw09.LexerEnds", spec := "lexerEnds", inPlace := ["internal/abi.NoEscape"], unfollowed := true, recurses := true, apart := false }
def LexerEndsSaid : Prop := lexerEndsRow.holds Try.pinned (OpenSpec.ofChange lexerEndsSpec)

/-- ITS FALSE NEIGHBOUR: 'it returns false'. Refute it at one input. -/
def lexerEndsWrong : ChangeSpec := { name := "lexerEnds", fn := fun _ => fun
  | [d1, d2] => { results := [.lit (.bool false)], args := [d1, d2] }
  | _ => none }
def LexerEndsWrongFalsely : Prop := lexerEndsRow.holds Try.pinned (OpenSpec.ofChange lexerEndsWrong)

/-- 'pipelinelaw09.LexerLines': WHATEVER THE INPUT: true; the input reads as it did. -/
def lexerLinesSpec : ChangeSpec := { name := "lexerLines", fn := fun _ => fun
  | [d1, d2] => { results := [.lit (.bool true)], args := [d1, d2] }
  | _ => none }
def lexerLinesRow : OpenClaim := { program := "ytfiahdjachcaiaa", sum := "33c6518a962e7821914b380014e1eb272ee9cf7663bfe2146e85f6d7c01da775", func := "pipeline/pipelinelaw09.LexerLines", spec := "lexerLines", inPlace := ["internal/abi.NoEscape"], unfollowed := true, recurses := true, apart := false }
def LexerLinesSaid : Prop := lexerLinesRow.holds Try.pinned (OpenSpec.ofChange lexerLinesSpec)

/-- ITS FALSE NEIGHBOUR: 'it returns false'. Refute it at one input. -/
def lexerLinesWrong : ChangeSpec := { name := "lexerLines", fn := fun _ => fun
  | [d1, d2] => { results := [.lit (.bool false)], args := [d1, d2] }
  | _ => none }
def LexerLinesWrongFalsely : Prop := lexerLinesRow.holds Try.pinned (OpenSpec.ofChange lexerLinesWrong)

/- THE SECOND FORM. 'bulk': how many values and letters a reading holds, each counted each time it is reached (what is shared counts as often as it is met; a slice's spare places count too). A statement '..UptoSaid' is the law's where the arguments, and the package variables that the reading takes, are together of bulk at most 1048576: NARROWER than '..Said'. Prove '..Said' where nothing that the law and all that it calls make is longer than what came in: it says more and counts as full. Else prove '..UptoSaid'. A law counts once. -/
mutual
def uptoBulk {H : Type} : DataW H → Nat
  | .lit (.string bytes) => bytes.length + 1
  | .lit _ => 1
  | .nil => 1
  | .ptr d => uptoBulk d + 1
  | .slice elems spare => uptoBulkAll elems + uptoBulkAll spare + 1
  | .agg parts => uptoBulkAll parts + 1
  | .iface _ d => uptoBulk d + 1
  | .map entries => uptoBulkEntries entries + 1
  | .held _ => 1
def uptoBulkAll {H : Type} : List (DataW H) → Nat
  | [] => 0
  | d :: r => uptoBulk d + uptoBulkAll r
def uptoBulkEntries {H : Type} : List (Lit × DataW H) → Nat
  | [] => 0
  | x :: r => uptoBulkEntry x + uptoBulkEntries r
def uptoBulkEntry {H : Type} : Lit × DataW H → Nat
  | (.string bytes, d) => bytes.length + uptoBulk d + 1
  | (_, d) => uptoBulk d + 1
 end
def uptoSmall : (H : Type) → List (DataW H) → Bool := fun _ ds => decide (uptoBulkAll ds ≤ 1048576)
def OpenSpec.upto (s : _root_.Go.ChangeSpec) : _root_.Go.OpenSpec := { _root_.Go.OpenSpec.ofChange s with cond := some uptoSmall }

/-- 'pipelinelaw09.LexerTokens', WHERE WHAT IT READS IS OF BULK AT MOST 1048576: true; the input reads as it did. -/
def lexerTokensUptoRow : OpenClaim := { program := "ytfiahdjachcaiaa", sum := "33c6518a962e7821914b380014e1eb272ee9cf7663bfe2146e85f6d7c01da775", func := "pipeline/pipelinelaw09.LexerTokens", spec := "lexerTokens", inPlace := ["internal/abi.NoEscape"], unfollowed := true, recurses := true, apart := false, narrowed := true }
def LexerTokensUptoSaid : Prop := lexerTokensUptoRow.holds Try.pinned (OpenSpec.upto lexerTokensSpec)

/-- 'pipelinelaw09.LexerJoins', WHERE WHAT IT READS IS OF BULK AT MOST 1048576: true; the input reads as it did. -/
def lexerJoinsUptoRow : OpenClaim := { program := "ytfiahdjachcaiaa", sum := "33c6518a962e7821914b380014e1eb272ee9cf7663bfe2146e85f6d7c01da775", func := "pipeline/pipelinelaw09.LexerJoins", spec := "lexerJoins", inPlace := ["internal/abi.NoEscape"], unfollowed := true, recurses := true, apart := false, narrowed := true }
def LexerJoinsUptoSaid : Prop := lexerJoinsUptoRow.holds Try.pinned (OpenSpec.upto lexerJoinsSpec)

/-- 'pipelinelaw09.LexerBack', WHERE WHAT IT READS IS OF BULK AT MOST 1048576: true; the input reads as it did. -/
def lexerBackUptoRow : OpenClaim := { program := "ytfiahdjachcaiaa", sum := "33c6518a962e7821914b380014e1eb272ee9cf7663bfe2146e85f6d7c01da775", func := "pipeline/pipelinelaw09.LexerBack", spec := "lexerBack", inPlace := ["internal/abi.NoEscape"], unfollowed := true, recurses := true, apart := false, narrowed := true }
def LexerBackUptoSaid : Prop := lexerBackUptoRow.holds Try.pinned (OpenSpec.upto lexerBackSpec)

/-- 'pipelinelaw09.LexerStrings', WHERE WHAT IT READS IS OF BULK AT MOST 1048576: true; the input reads as it did. -/
def lexerStringsUptoRow : OpenClaim := { program := "ytfiahdjachcaiaa", sum := "33c6518a962e7821914b380014e1eb272ee9cf7663bfe2146e85f6d7c01da775", func := "pipeline/pipelinelaw09.LexerStrings", spec := "lexerStrings", inPlace := ["internal/abi.NoEscape"], unfollowed := true, recurses := true, apart := false, narrowed := true }
def LexerStringsUptoSaid : Prop := lexerStringsUptoRow.holds Try.pinned (OpenSpec.upto lexerStringsSpec)

/-- 'pipelinelaw09.LexerEnds', WHERE WHAT IT READS IS OF BULK AT MOST 1048576: true; the input reads as it did. -/
def lexerEndsUptoRow : OpenClaim := { program := "ytfiahdjachcaiaa", sum := "33c6518a962e7821914b380014e1eb272ee9cf7663bfe2146e85f6d7c01da775", func := "pipeline/pipelinelaw09.LexerEnds", spec := "lexerEnds", inPlace := ["internal/abi.NoEscape"], unfollowed := true, recurses := true, apart := false, narrowed := true }
def LexerEndsUptoSaid : Prop := lexerEndsUptoRow.holds Try.pinned (OpenSpec.upto lexerEndsSpec)

/-- 'pipelinelaw09.LexerLines', WHERE WHAT IT READS IS OF BULK AT MOST 1048576: true; the input reads as it did. -/
def lexerLinesUptoRow : OpenClaim := { program := "ytfiahdjachcaiaa", sum := "33c6518a962e7821914b380014e1eb272ee9cf7663bfe2146e85f6d7c01da775", func := "pipeline/pipelinelaw09.LexerLines", spec := "lexerLines", inPlace := ["internal/abi.NoEscape"], unfollowed := true, recurses := true, apart := false, narrowed := true }
def LexerLinesUptoSaid : Prop := lexerLinesUptoRow.holds Try.pinned (OpenSpec.upto lexerLinesSpec)

end Rows
end Go.Proofs.Ytfiahdjachcaiaa
