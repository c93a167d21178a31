/-
  No cell of these rows narrows 'for every input' (looked for: loops, veiled, ifaces, maps, wideKeys, modest, calm, conditions, laid).
  DERIVED. THE GIVEN ROWS OF THIS SEAT. 8 by the template 'for every input the law returns true; each argument reads behind the call as it read before'; 0 by the template 'total and deterministic' (their statements: YtmeplkkhnpcldaaTotals.lean).
  GIVEN WITH THE SEED: the statements are not yours to turn. If you find one false, say at which input.
  Laid BY PROGRAM, IN A SANDBOX (cutbox-rows.mjs): the forced cells as the released guide's own fill.sh prints them over the translation 85f69deb41ab370f… (all of the seat's roots in one cut). By AI agents, Wed Nov 11 2026. No macro, syntax, notation, axiom, sorry.
-/
import Derived.Test.YtmeplkkhnpcldaaChecked
import GoSem.Claim
import GoSem.ClaimJoined
import GoSem.ClaimMapViews
import Derived.JoinedTies
import Derived.KernelRfl
namespace Go.Proofs.Ytmeplkkhnpcldaa
/- THE CELL 'sum', in the pinned program and in every row, IS THE sha256 OF THE DUMP (.gsa) THAT YtmeplkkhnpcldaaProg.lean LOADS. Nothing in Lean hashes anything: it is a label: what it is worth is what the hold of that sum in a sandbox is worth. -/
noncomputable def Try.pinned : Pinned := { name := "ytmeplkkhnpcldaa", sum := "85f69deb41ab370f671b82dc652f0fd6f7ce71ac58dd373bc38ca882ede06dfe", checked := Try.checked }
namespace Rows
def none {H : Type} : Left H := { results := [], args := [] }

/-- 'passimlaw06.TokenValid': WHATEVER THE INPUT: true; the input reads as it did. -/
def tokenValidSpec : ChangeSpec := { name := "tokenValid", fn := fun _ => fun
  | [d1, d2, d3, d4] => { results := [.lit (.bool true)], args := [d1, d2, d3, d4] }
  | _ => none }
def tokenValidRow : OpenClaim := { program := "ytmeplkkhnpcldaa", sum := "85f69deb41ab370f671b82dc652f0fd6f7ce71ac58dd373bc38ca882ede06dfe", func := "passim/passimlaw06.TokenValid", spec := "tokenValid", inPlace := ["internal/abi.NoEscape", "internal/bytealg.IndexByteString"], unfollowed := true, recurses := true, apart := false }
def TokenValidSaid : Prop := tokenValidRow.holds Try.pinned (OpenSpec.ofChange tokenValidSpec)

/-- ITS FALSE NEIGHBOUR: 'it returns false'. Refute it at one input. -/
def tokenValidWrong : ChangeSpec := { name := "tokenValid", fn := fun _ => fun
  | [d1, d2, d3, d4] => { results := [.lit (.bool false)], args := [d1, d2, d3, d4] }
  | _ => none }
def TokenValidWrongFalsely : Prop := tokenValidRow.holds Try.pinned (OpenSpec.ofChange tokenValidWrong)

/-- 'passimlaw06.TokenSplits': WHATEVER THE INPUT: true; the input reads as it did. -/
def tokenSplitsSpec : ChangeSpec := { name := "tokenSplits", fn := fun _ => fun
  | [d1, d2, d3, d4, d5, d6] => { results := [.lit (.bool true)], args := [d1, d2, d3, d4, d5, d6] }
  | _ => none }
def tokenSplitsRow : OpenClaim := { program := "ytmeplkkhnpcldaa", sum := "85f69deb41ab370f671b82dc652f0fd6f7ce71ac58dd373bc38ca882ede06dfe", func := "passim/passimlaw06.TokenSplits", spec := "tokenSplits", inPlace := ["internal/abi.NoEscape", "internal/bytealg.IndexByteString"], unfollowed := true, recurses := true, apart := false }
def TokenSplitsSaid : Prop := tokenSplitsRow.holds Try.pinned (OpenSpec.ofChange tokenSplitsSpec)

/-- ITS FALSE NEIGHBOUR: 'it returns false'. Refute it at one input. -/
def tokenSplitsWrong : ChangeSpec := { name := "tokenSplits", fn := fun _ => fun
  | [d1, d2, d3, d4, d5, d6] => { results := [.lit (.bool false)], args := [d1, d2, d3, d4, d5, d6] }
  | _ => none }
def TokenSplitsWrongFalsely : Prop := tokenSplitsRow.holds Try.pinned (OpenSpec.ofChange tokenSplitsWrong)

/-- 'passimlaw06.TokenWords': WHATEVER THE INPUT: true; the input reads as it did. -/
def tokenWordsSpec : ChangeSpec := { name := "tokenWords", fn := fun _ => fun
  | [d1, d2, d3, d4] => { results := [.lit (.bool true)], args := [d1, d2, d3, d4] }
  | _ => none }
def tokenWordsRow : OpenClaim := { program := "ytmeplkkhnpcldaa", sum := "85f69deb41ab370f671b82dc652f0fd6f7ce71ac58dd373bc38ca882ede06dfe", func := "passim/passimlaw06.TokenWords", spec := "tokenWords", inPlace := ["internal/abi.NoEscape", "internal/bytealg.IndexByteString"], unfollowed := true, recurses := true, apart := false }
def TokenWordsSaid : Prop := tokenWordsRow.holds Try.pinned (OpenSpec.ofChange tokenWordsSpec)

/-- ITS FALSE NEIGHBOUR: 'it returns false'. Refute it at one input. -/
def tokenWordsWrong : ChangeSpec := { name := "tokenWords", fn := fun _ => fun
  | [d1, d2, d3, d4] => { results := [.lit (.bool false)], args := [d1, d2, d3, d4] }
  | _ => none }
def TokenWordsWrongFalsely : Prop := tokenWordsRow.holds Try.pinned (OpenSpec.ofChange tokenWordsWrong)

/-- 'passimlaw06.TokenCuts': WHATEVER THE INPUT: true; the input reads as it did. -/
def tokenCutsSpec : ChangeSpec := { name := "tokenCuts", fn := fun _ => fun
  | [d1, d2, d3, d4, d5] => { results := [.lit (.bool true)], args := [d1, d2, d3, d4, d5] }
  | _ => none }
def tokenCutsRow : OpenClaim := { program := "ytmeplkkhnpcldaa", sum := "85f69deb41ab370f671b82dc652f0fd6f7ce71ac58dd373bc38ca882ede06dfe", func := "passim/passimlaw06.TokenCuts", spec := "tokenCuts", inPlace := ["internal/abi.NoEscape", "internal/bytealg.IndexByteString"], unfollowed := true, recurses := true, apart := false }
def TokenCutsSaid : Prop := tokenCutsRow.holds Try.pinned (OpenSpec.ofChange tokenCutsSpec)

/-- ITS FALSE NEIGHBOUR: 'it returns false'. Refute it at one input. -/
def tokenCutsWrong : ChangeSpec := { name := "tokenCuts", fn := fun _ => fun
  | [d1, d2, d3, d4, d5] => { results := [.lit (.bool false)], args := [d1, d2, d3, d4, d5] }
  | _ => none }
def TokenCutsWrongFalsely : Prop := tokenCutsRow.holds Try.pinned (OpenSpec.ofChange tokenCutsWrong)

/-- 'passimlaw06.TokenCovers': WHATEVER THE INPUT: true; the input reads as it did. -/
def tokenCoversSpec : ChangeSpec := { name := "tokenCovers", fn := fun _ => fun
  | [d1, d2, d3, d4] => { results := [.lit (.bool true)], args := [d1, d2, d3, d4] }
  | _ => none }
def tokenCoversRow : OpenClaim := { program := "ytmeplkkhnpcldaa", sum := "85f69deb41ab370f671b82dc652f0fd6f7ce71ac58dd373bc38ca882ede06dfe", func := "passim/passimlaw06.TokenCovers", spec := "tokenCovers", inPlace := ["internal/abi.NoEscape", "internal/bytealg.IndexByteString"], unfollowed := true, recurses := true, apart := false }
def TokenCoversSaid : Prop := tokenCoversRow.holds Try.pinned (OpenSpec.ofChange tokenCoversSpec)

/-- ITS FALSE NEIGHBOUR: 'it returns false'. Refute it at one input. -/
def tokenCoversWrong : ChangeSpec := { name := "tokenCovers", fn := fun _ => fun
  | [d1, d2, d3, d4] => { results := [.lit (.bool false)], args := [d1, d2, d3, d4] }
  | _ => none }
def TokenCoversWrongFalsely : Prop := tokenCoversRow.holds Try.pinned (OpenSpec.ofChange tokenCoversWrong)

/-- 'passimlaw06.TokenJoins': WHATEVER THE INPUT: true; the input reads as it did. -/
def tokenJoinsSpec : ChangeSpec := { name := "tokenJoins", fn := fun _ => fun
  | [d1, d2, d3] => { results := [.lit (.bool true)], args := [d1, d2, d3] }
  | _ => none }
def tokenJoinsRow : OpenClaim := { program := "ytmeplkkhnpcldaa", sum := "85f69deb41ab370f671b82dc652f0fd6f7ce71ac58dd373bc38ca882ede06dfe", func := "passim/passimlaw06.TokenJoins", spec := "tokenJoins", inPlace := ["internal/abi.NoEscape", "internal/bytealg.IndexByteString"], unfollowed := true, recurses := true, apart := false }
def TokenJoinsSaid : Prop := tokenJoinsRow.holds Try.pinned (OpenSpec.ofChange tokenJoinsSpec)

/-- ITS FALSE NEIGHBOUR: 'it returns false'. Refute it at one input. -/
def tokenJoinsWrong : ChangeSpec := { name := "tokenJoins", fn := fun _ => fun
  | [d1, d2, d3] => { results := [.lit (.bool false)], args := [d1, d2, d3] }
  | _ => none }
def TokenJoinsWrongFalsely : Prop := tokenJoinsRow.holds Try.pinned (OpenSpec.ofChange tokenJoinsWrong)

/-- 'passimlaw06.TokenSentences': WHATEVER THE INPUT: true; the input reads as it did. -/
def tokenSentencesSpec : ChangeSpec := { name := "tokenSentences", fn := fun _ => fun
  | [d1, d2, d3, d4, d5] => { results := [.lit (.bool true)], args := [d1, d2, d3, d4, d5] }
  | _ => none }
def tokenSentencesRow : OpenClaim := { program := "ytmeplkkhnpcldaa", sum := "85f69deb41ab370f671b82dc652f0fd6f7ce71ac58dd373bc38ca882ede06dfe", func := "passim/passimlaw06.TokenSentences", spec := "tokenSentences", inPlace := ["internal/bytealg.IndexByteString", "internal/abi.NoEscape"], unfollowed := true, recurses := true, apart := false }
def TokenSentencesSaid : Prop := tokenSentencesRow.holds Try.pinned (OpenSpec.ofChange tokenSentencesSpec)

/-- ITS FALSE NEIGHBOUR: 'it returns false'. Refute it at one input. -/
def tokenSentencesWrong : ChangeSpec := { name := "tokenSentences", fn := fun _ => fun
  | [d1, d2, d3, d4, d5] => { results := [.lit (.bool false)], args := [d1, d2, d3, d4, d5] }
  | _ => none }
def TokenSentencesWrongFalsely : Prop := tokenSentencesRow.holds Try.pinned (OpenSpec.ofChange tokenSentencesWrong)

/-- 'passimlaw06.TokenFolds': WHATEVER THE INPUT: true; the input reads as it did. -/
def tokenFoldsSpec : ChangeSpec := { name := "tokenFolds", fn := fun _ => fun
  | [d1, d2, d3, d4] => { results := [.lit (.bool true)], args := [d1, d2, d3, d4] }
  | _ => none }
def tokenFoldsRow : OpenClaim := { program := "ytmeplkkhnpcldaa", sum := "85f69deb41ab370f671b82dc652f0fd6f7ce71ac58dd373bc38ca882ede06dfe", func := "passim/passimlaw06.TokenFolds", spec := "tokenFolds", inPlace := ["internal/abi.NoEscape", "internal/bytealg.IndexByteString"], unfollowed := true, recurses := true, apart := false }
def TokenFoldsSaid : Prop := tokenFoldsRow.holds Try.pinned (OpenSpec.ofChange tokenFoldsSpec)

/-- ITS FALSE NEIGHBOUR: 'it returns false'. Refute it at one input. -/
def tokenFoldsWrong : ChangeSpec := { name := "tokenFolds", fn := fun _ => fun
  | [d1, d2, d3, d4] => { results := [.lit (.bool false)], args := [d1, d2, d3, d4] }
  | _ => none }
def TokenFoldsWrongFalsely : Prop := tokenFoldsRow.holds Try.pinned (OpenSpec.ofChange tokenFoldsWrong)

/- THE SECOND FORM. 'bulk': how many values and letters a reading holds, each counted each time it is reached (what is shared counts as often as it is met; a slice's spare places count too). A statement '..UptoSaid' is the law's where the arguments, and the package variables that the reading takes, are together of bulk at most 1048576: NARROWER than '..Said'. Prove '..Said' where nothing that the law and all that it calls make is longer than what came in: it says more and counts as full. Else prove '..UptoSaid'. A law counts once. -/
mutual
def uptoBulk {H : Type} : DataW H → Nat
  | .lit (.string bytes) => bytes.length + 1
  | .lit _ => 1
  | .nil => 1
  | .ptr d => uptoBulk d + 1
  | .slice elems spare => uptoBulkAll elems + uptoBulkAll spare + 1
  | .agg parts => uptoBulkAll parts + 1
  | .iface _ d => uptoBulk d + 1
  | .map entries => uptoBulkEntries entries + 1
  | .held _ => 1
def uptoBulkAll {H : Type} : List (DataW H) → Nat
  | [] => 0
  | d :: r => uptoBulk d + uptoBulkAll r
def uptoBulkEntries {H : Type} : List (Lit × DataW H) → Nat
  | [] => 0
  | x :: r => uptoBulkEntry x + uptoBulkEntries r
def uptoBulkEntry {H : Type} : Lit × DataW H → Nat
  | (.string bytes, d) => bytes.length + uptoBulk d + 1
  | (_, d) => uptoBulk d + 1
 end
def uptoSmall : (H : Type) → List (DataW H) → Bool := fun _ ds => decide (uptoBulkAll ds ≤ 1048576)
def OpenSpec.upto (s : _root_.Go.ChangeSpec) : _root_.Go.OpenSpec := { _root_.Go.OpenSpec.ofChange s with cond := some uptoSmall }

/-- 'passimlaw06.TokenValid', WHERE WHAT IT READS IS OF BULK AT MOST 1048576: true; the input reads as it did. -/
def tokenValidUptoRow : OpenClaim := { program := "ytmeplkkhnpcldaa", sum := "85f69deb41ab370f671b82dc652f0fd6f7ce71ac58dd373bc38ca882ede06dfe", func := "passim/passimlaw06.TokenValid", spec := "tokenValid", inPlace := ["internal/abi.NoEscape", "internal/bytealg.IndexByteString"], unfollowed := true, recurses := true, apart := false, narrowed := true }
def TokenValidUptoSaid : Prop := tokenValidUptoRow.holds Try.pinned (OpenSpec.upto tokenValidSpec)

/-- 'passimlaw06.TokenSplits', WHERE WHAT IT READS IS OF BULK AT MOST 1048576: true; the input reads as it did. -/
def tokenSplitsUptoRow : OpenClaim := { program := "ytmeplkkhnpcldaa", sum := "85f69deb41ab370f671b82dc652f0fd6f7ce71ac58dd373bc38ca882ede06dfe", func := "passim/passimlaw06.TokenSplits", spec := "tokenSplits", inPlace := ["internal/abi.NoEscape", "internal/bytealg.IndexByteString"], unfollowed := true, recurses := true, apart := false, narrowed := true }
def TokenSplitsUptoSaid : Prop := tokenSplitsUptoRow.holds Try.pinned (OpenSpec.upto tokenSplitsSpec)

/-- 'passimlaw06.TokenWords', WHERE WHAT IT READS IS OF BULK AT MOST 1048576: true; the input reads as it did. -/
def tokenWordsUptoRow : OpenClaim := { program := "ytmeplkkhnpcldaa", sum := "85f69deb41ab370f671b82dc652f0fd6f7ce71ac58dd373bc38ca882ede06dfe", func := "passim/passimlaw06.TokenWords", spec := "tokenWords", inPlace := ["internal/abi.NoEscape", "internal/bytealg.IndexByteString"], unfollowed := true, recurses := true, apart := false, narrowed := true }
def TokenWordsUptoSaid : Prop := tokenWordsUptoRow.holds Try.pinned (OpenSpec.upto tokenWordsSpec)

/-- 'passimlaw06.TokenCuts', WHERE WHAT IT READS IS OF BULK AT MOST 1048576: true; the input reads as it did. -/
def tokenCutsUptoRow : OpenClaim := { program := "ytmeplkkhnpcldaa", sum := "85f69deb41ab370f671b82dc652f0fd6f7ce71ac58dd373bc38ca882ede06dfe", func := "passim/passimlaw06.TokenCuts", spec := "tokenCuts", inPlace := ["internal/abi.NoEscape", "internal/bytealg.IndexByteString"], unfollowed := true, recurses := true, apart := false, narrowed := true }
def TokenCutsUptoSaid : Prop := tokenCutsUptoRow.holds Try.pinned (OpenSpec.upto tokenCutsSpec)

/-- 'passimlaw06.TokenCovers', WHERE WHAT IT READS IS OF BULK AT MOST 1048576: true; the input reads as it did. -/
def tokenCoversUptoRow : OpenClaim := { program := "ytmeplkkhnpcldaa", sum := "85f69deb41ab370f671b82dc652f0fd6f7ce71ac58dd373bc38ca882ede06dfe", func := "passim/passimlaw06.TokenCovers", spec := "tokenCovers", inPlace := ["internal/abi.NoEscape", "internal/bytealg.IndexByteString"], unfollowed := true, recurses := true, apart := false, narrowed := true }
def TokenCoversUptoSaid : Prop := tokenCoversUptoRow.holds Try.pinned (OpenSpec.upto tokenCoversSpec)

/-- 'passimlaw06.TokenJoins', WHERE WHAT IT READS IS OF BULK AT MOST 1048576: true; the input reads as it did. -/
def tokenJoinsUptoRow : OpenClaim := { program := "ytmeplkkhnpcldaa", sum := "85f69deb41ab370f671b82dc652f0fd6f7ce71ac58dd373bc38ca882ede06dfe", func := "passim/passimlaw06.TokenJoins", spec := "tokenJoins", inPlace := ["internal/abi.NoEscape", "internal/bytealg.IndexByteString"], unfollowed := true, recurses := true, apart := false, narrowed := true }
def TokenJoinsUptoSaid : Prop := tokenJoinsUptoRow.holds Try.pinned (OpenSpec.upto tokenJoinsSpec)

/-- 'passimlaw06.TokenSentences', WHERE WHAT IT READS IS OF BULK AT MOST 1048576: true; the input reads as it did. -/
def tokenSentencesUptoRow : OpenClaim := { program := "ytmeplkkhnpcldaa", sum := "85f69deb41ab370f671b82dc652f0fd6f7ce71ac58dd373bc38ca882ede06dfe", func := "passim/passimlaw06.TokenSentences", spec := "tokenSentences", inPlace := ["internal/bytealg.IndexByteString", "internal/abi.NoEscape"], unfollowed := true, recurses := true, apart := false, narrowed := true }
def TokenSentencesUptoSaid : Prop := tokenSentencesUptoRow.holds Try.pinned (OpenSpec.upto tokenSentencesSpec)

/-- 'passimlaw06.TokenFolds', WHERE WHAT IT READS IS OF BULK AT MOST 1048576: true; the input reads as it did. -/
def tokenFoldsUptoRow : OpenClaim := { program := "ytmeplkkhnpcldaa", sum := "85f69deb41ab370f671b82dc652f0fd6f7ce71ac58dd373bc38ca882ede06dfe", func := "passim/passimlaw06.TokenFolds", spec := "tokenFolds", inPlace := ["internal/abi.NoEscape", "internal/bytealg.IndexByteString"], unfollowed := true, recurses := true, apart := false, narrowed := true }
def TokenFoldsUptoSaid : Prop := tokenFoldsUptoRow.holds Try.pinned (OpenSpec.upto tokenFoldsSpec)

end Rows
end Go.Proofs.Ytmeplkkhnpcldaa
