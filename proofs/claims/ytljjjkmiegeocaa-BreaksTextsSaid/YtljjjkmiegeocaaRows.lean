/-
  No cell of these rows narrows 'for every input' (looked for: loops, veiled, ifaces, maps, wideKeys, modest, calm, conditions, laid).
  DERIVED. THE GIVEN ROWS OF THIS SEAT. 6 by the template 'for every input the law returns true; each argument reads behind the call as it read before'; 0 by the template 'total and deterministic' (their statements: YtljjjkmiegeocaaTotals.lean).
  GIVEN WITH THE SEED: the statements are not yours to turn. If you find one false, say at which input.
  Laid BY PROGRAM, IN A SANDBOX (cutbox-rows.mjs): the forced cells as the released guide's own fill.sh prints them over the translation c67cfb9f044db2ce… (all of the seat's roots in one cut). By AI agents, Wed Nov 11 2026. No macro, syntax, notation, axiom, sorry.
-/
import Derived.Test.YtljjjkmiegeocaaChecked
import GoSem.Claim
import GoSem.ClaimJoined
import GoSem.ClaimMapViews
import Derived.JoinedTies
import Derived.KernelRfl
namespace Go.Proofs.Ytljjjkmiegeocaa
/- THE CELL 'sum', in the pinned program and in every row, IS THE sha256 OF THE DUMP (.gsa) THAT YtljjjkmiegeocaaProg.lean LOADS. Nothing in Lean hashes anything: it is a label: what it is worth is what the hold of that sum in a sandbox is worth. -/
noncomputable def Try.pinned : Pinned := { name := "ytljjjkmiegeocaa", sum := "c67cfb9f044db2ce5b48ae4f6f6a1fdf8bfff7a0fb1ed7b041247033b0c1a636", checked := Try.checked }
namespace Rows
def none {H : Type} : Left H := { results := [], args := [] }

/-- 'passimlaw12.BreaksFills': WHATEVER THE INPUT: true; the input reads as it did. -/
def breaksFillsSpec : ChangeSpec := { name := "breaksFills", fn := fun _ => fun
  | [d1, d2, d3, d4] => { results := [.lit (.bool true)], args := [d1, d2, d3, d4] }
  | _ => none }
def breaksFillsRow : OpenClaim := { program := "ytljjjkmiegeocaa", sum := "c67cfb9f044db2ce5b48ae4f6f6a1fdf8bfff7a0fb1ed7b041247033b0c1a636", func := "passim/passimlaw12.BreaksFills", spec := "breaksFills", apart := false }
def BreaksFillsSaid : Prop := breaksFillsRow.holds Try.pinned (OpenSpec.ofChange breaksFillsSpec)

/-- ITS FALSE NEIGHBOUR: 'it returns false'. Refute it at one input. -/
def breaksFillsWrong : ChangeSpec := { name := "breaksFills", fn := fun _ => fun
  | [d1, d2, d3, d4] => { results := [.lit (.bool false)], args := [d1, d2, d3, d4] }
  | _ => none }
def BreaksFillsWrongFalsely : Prop := breaksFillsRow.holds Try.pinned (OpenSpec.ofChange breaksFillsWrong)

/-- 'passimlaw12.BreaksCosts': WHATEVER THE INPUT: true; the input reads as it did. -/
def breaksCostsSpec : ChangeSpec := { name := "breaksCosts", fn := fun _ => fun
  | [d1, d2, d3, d4, d5] => { results := [.lit (.bool true)], args := [d1, d2, d3, d4, d5] }
  | _ => none }
def breaksCostsRow : OpenClaim := { program := "ytljjjkmiegeocaa", sum := "c67cfb9f044db2ce5b48ae4f6f6a1fdf8bfff7a0fb1ed7b041247033b0c1a636", func := "passim/passimlaw12.BreaksCosts", spec := "breaksCosts", apart := false }
def BreaksCostsSaid : Prop := breaksCostsRow.holds Try.pinned (OpenSpec.ofChange breaksCostsSpec)

/-- ITS FALSE NEIGHBOUR: 'it returns false'. Refute it at one input. -/
def breaksCostsWrong : ChangeSpec := { name := "breaksCosts", fn := fun _ => fun
  | [d1, d2, d3, d4, d5] => { results := [.lit (.bool false)], args := [d1, d2, d3, d4, d5] }
  | _ => none }
def BreaksCostsWrongFalsely : Prop := breaksCostsRow.holds Try.pinned (OpenSpec.ofChange breaksCostsWrong)

/-- 'passimlaw12.BreaksChecks': WHATEVER THE INPUT: true; the input reads as it did. -/
def breaksChecksSpec : ChangeSpec := { name := "breaksChecks", fn := fun _ => fun
  | [d1, d2, d3, d4, d5, d6, d7] => { results := [.lit (.bool true)], args := [d1, d2, d3, d4, d5, d6, d7] }
  | _ => none }
def breaksChecksRow : OpenClaim := { program := "ytljjjkmiegeocaa", sum := "c67cfb9f044db2ce5b48ae4f6f6a1fdf8bfff7a0fb1ed7b041247033b0c1a636", func := "passim/passimlaw12.BreaksChecks", spec := "breaksChecks", apart := false }
def BreaksChecksSaid : Prop := breaksChecksRow.holds Try.pinned (OpenSpec.ofChange breaksChecksSpec)

/-- ITS FALSE NEIGHBOUR: 'it returns false'. Refute it at one input. -/
def breaksChecksWrong : ChangeSpec := { name := "breaksChecks", fn := fun _ => fun
  | [d1, d2, d3, d4, d5, d6, d7] => { results := [.lit (.bool false)], args := [d1, d2, d3, d4, d5, d6, d7] }
  | _ => none }
def BreaksChecksWrongFalsely : Prop := breaksChecksRow.holds Try.pinned (OpenSpec.ofChange breaksChecksWrong)

/-- 'passimlaw12.BreaksBest': WHATEVER THE INPUT: true; the input reads as it did. -/
def breaksBestSpec : ChangeSpec := { name := "breaksBest", fn := fun _ => fun
  | [d1, d2, d3, d4, d5] => { results := [.lit (.bool true)], args := [d1, d2, d3, d4, d5] }
  | _ => none }
def breaksBestRow : OpenClaim := { program := "ytljjjkmiegeocaa", sum := "c67cfb9f044db2ce5b48ae4f6f6a1fdf8bfff7a0fb1ed7b041247033b0c1a636", func := "passim/passimlaw12.BreaksBest", spec := "breaksBest", apart := false }
def BreaksBestSaid : Prop := breaksBestRow.holds Try.pinned (OpenSpec.ofChange breaksBestSpec)

/-- ITS FALSE NEIGHBOUR: 'it returns false'. Refute it at one input. -/
def breaksBestWrong : ChangeSpec := { name := "breaksBest", fn := fun _ => fun
  | [d1, d2, d3, d4, d5] => { results := [.lit (.bool false)], args := [d1, d2, d3, d4, d5] }
  | _ => none }
def BreaksBestWrongFalsely : Prop := breaksBestRow.holds Try.pinned (OpenSpec.ofChange breaksBestWrong)

/-- 'passimlaw12.BreaksRest': WHATEVER THE INPUT: true; the input reads as it did. -/
def breaksRestSpec : ChangeSpec := { name := "breaksRest", fn := fun _ => fun
  | [d1, d2, d3, d4, d5] => { results := [.lit (.bool true)], args := [d1, d2, d3, d4, d5] }
  | _ => none }
def breaksRestRow : OpenClaim := { program := "ytljjjkmiegeocaa", sum := "c67cfb9f044db2ce5b48ae4f6f6a1fdf8bfff7a0fb1ed7b041247033b0c1a636", func := "passim/passimlaw12.BreaksRest", spec := "breaksRest", apart := false }
def BreaksRestSaid : Prop := breaksRestRow.holds Try.pinned (OpenSpec.ofChange breaksRestSpec)

/-- ITS FALSE NEIGHBOUR: 'it returns false'. Refute it at one input. -/
def breaksRestWrong : ChangeSpec := { name := "breaksRest", fn := fun _ => fun
  | [d1, d2, d3, d4, d5] => { results := [.lit (.bool false)], args := [d1, d2, d3, d4, d5] }
  | _ => none }
def BreaksRestWrongFalsely : Prop := breaksRestRow.holds Try.pinned (OpenSpec.ofChange breaksRestWrong)

/-- 'passimlaw12.BreaksTexts': WHATEVER THE INPUT: true; the input reads as it did. -/
def breaksTextsSpec : ChangeSpec := { name := "breaksTexts", fn := fun _ => fun
  | [d1, d2] => { results := [.lit (.bool true)], args := [d1, d2] }
  | _ => none }
def breaksTextsRow : OpenClaim := { program := "ytljjjkmiegeocaa", sum := "c67cfb9f044db2ce5b48ae4f6f6a1fdf8bfff7a0fb1ed7b041247033b0c1a636", func := "passim/passimlaw12.BreaksTexts", spec := "breaksTexts", unfollowed := true, recurses := true, apart := false }
def BreaksTextsSaid : Prop := breaksTextsRow.holds Try.pinned (OpenSpec.ofChange breaksTextsSpec)

/-- ITS FALSE NEIGHBOUR: 'it returns false'. Refute it at one input. -/
def breaksTextsWrong : ChangeSpec := { name := "breaksTexts", fn := fun _ => fun
  | [d1, d2] => { results := [.lit (.bool false)], args := [d1, d2] }
  | _ => none }
def BreaksTextsWrongFalsely : Prop := breaksTextsRow.holds Try.pinned (OpenSpec.ofChange breaksTextsWrong)

/- THE SECOND FORM. 'bulk': how many values and letters a reading holds, each counted each time it is reached (what is shared counts as often as it is met; a slice's spare places count too). A statement '..UptoSaid' is the law's where the arguments, and the package variables that the reading takes, are together of bulk at most 1048576: NARROWER than '..Said'. Prove '..Said' where nothing that the law and all that it calls make is longer than what came in: it says more and counts as full. Else prove '..UptoSaid'. A law counts once. -/
mutual
def uptoBulk {H : Type} : DataW H → Nat
  | .lit (.string bytes) => bytes.length + 1
  | .lit _ => 1
  | .nil => 1
  | .ptr d => uptoBulk d + 1
  | .slice elems spare => uptoBulkAll elems + uptoBulkAll spare + 1
  | .agg parts => uptoBulkAll parts + 1
  | .iface _ d => uptoBulk d + 1
  | .map entries => uptoBulkEntries entries + 1
  | .held _ => 1
def uptoBulkAll {H : Type} : List (DataW H) → Nat
  | [] => 0
  | d :: r => uptoBulk d + uptoBulkAll r
def uptoBulkEntries {H : Type} : List (Lit × DataW H) → Nat
  | [] => 0
  | x :: r => uptoBulkEntry x + uptoBulkEntries r
def uptoBulkEntry {H : Type} : Lit × DataW H → Nat
  | (.string bytes, d) => bytes.length + uptoBulk d + 1
  | (_, d) => uptoBulk d + 1
 end
def uptoSmall : (H : Type) → List (DataW H) → Bool := fun _ ds => decide (uptoBulkAll ds ≤ 1048576)
def OpenSpec.upto (s : _root_.Go.ChangeSpec) : _root_.Go.OpenSpec := { _root_.Go.OpenSpec.ofChange s with cond := some uptoSmall }

/-- 'passimlaw12.BreaksFills', WHERE WHAT IT READS IS OF BULK AT MOST 1048576: true; the input reads as it did. -/
def breaksFillsUptoRow : OpenClaim := { program := "ytljjjkmiegeocaa", sum := "c67cfb9f044db2ce5b48ae4f6f6a1fdf8bfff7a0fb1ed7b041247033b0c1a636", func := "passim/passimlaw12.BreaksFills", spec := "breaksFills", apart := false, narrowed := true }
def BreaksFillsUptoSaid : Prop := breaksFillsUptoRow.holds Try.pinned (OpenSpec.upto breaksFillsSpec)

/-- 'passimlaw12.BreaksCosts', WHERE WHAT IT READS IS OF BULK AT MOST 1048576: true; the input reads as it did. -/
def breaksCostsUptoRow : OpenClaim := { program := "ytljjjkmiegeocaa", sum := "c67cfb9f044db2ce5b48ae4f6f6a1fdf8bfff7a0fb1ed7b041247033b0c1a636", func := "passim/passimlaw12.BreaksCosts", spec := "breaksCosts", apart := false, narrowed := true }
def BreaksCostsUptoSaid : Prop := breaksCostsUptoRow.holds Try.pinned (OpenSpec.upto breaksCostsSpec)

/-- 'passimlaw12.BreaksChecks', WHERE WHAT IT READS IS OF BULK AT MOST 1048576: true; the input reads as it did. -/
def breaksChecksUptoRow : OpenClaim := { program := "ytljjjkmiegeocaa", sum := "c67cfb9f044db2ce5b48ae4f6f6a1fdf8bfff7a0fb1ed7b041247033b0c1a636", func := "passim/passimlaw12.BreaksChecks", spec := "breaksChecks", apart := false, narrowed := true }
def BreaksChecksUptoSaid : Prop := breaksChecksUptoRow.holds Try.pinned (OpenSpec.upto breaksChecksSpec)

/-- 'passimlaw12.BreaksBest', WHERE WHAT IT READS IS OF BULK AT MOST 1048576: true; the input reads as it did. -/
def breaksBestUptoRow : OpenClaim := { program := "ytljjjkmiegeocaa", sum := "c67cfb9f044db2ce5b48ae4f6f6a1fdf8bfff7a0fb1ed7b041247033b0c1a636", func := "passim/passimlaw12.BreaksBest", spec := "breaksBest", apart := false, narrowed := true }
def BreaksBestUptoSaid : Prop := breaksBestUptoRow.holds Try.pinned (OpenSpec.upto breaksBestSpec)

/-- 'passimlaw12.BreaksRest', WHERE WHAT IT READS IS OF BULK AT MOST 1048576: true; the input reads as it did. -/
def breaksRestUptoRow : OpenClaim := { program := "ytljjjkmiegeocaa", sum := "c67cfb9f044db2ce5b48ae4f6f6a1fdf8bfff7a0fb1ed7b041247033b0c1a636", func := "passim/passimlaw12.BreaksRest", spec := "breaksRest", apart := false, narrowed := true }
def BreaksRestUptoSaid : Prop := breaksRestUptoRow.holds Try.pinned (OpenSpec.upto breaksRestSpec)

/-- 'passimlaw12.BreaksTexts', WHERE WHAT IT READS IS OF BULK AT MOST 1048576: true; the input reads as it did. -/
def breaksTextsUptoRow : OpenClaim := { program := "ytljjjkmiegeocaa", sum := "c67cfb9f044db2ce5b48ae4f6f6a1fdf8bfff7a0fb1ed7b041247033b0c1a636", func := "passim/passimlaw12.BreaksTexts", spec := "breaksTexts", unfollowed := true, recurses := true, apart := false, narrowed := true }
def BreaksTextsUptoSaid : Prop := breaksTextsUptoRow.holds Try.pinned (OpenSpec.upto breaksTextsSpec)

end Rows
end Go.Proofs.Ytljjjkmiegeocaa
