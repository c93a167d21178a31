/-
  NARROWER THAN 'FOR EVERY INPUT', by the rows' own cells (each row's printed sentence says how): WorkValid: laid · WorkParts: laid · WorkReads: laid · WorkFinds: laid · WorkReading: laid · WorkCopies: laid · WorkBack: laid · WorkCodes: laid.
  DERIVED. THE GIVEN ROWS OF THIS SEAT. 8 by the template 'for every input the law returns true; each argument reads behind the call as it read before'; 0 by the template 'total and deterministic' (their statements: YtcpdlhgkdogdjaaDoorTotals.lean).
  GIVEN WITH THE SEED: the statements are not yours to turn. If you find one false, say at which input.
  Laid BY PROGRAM, IN A SANDBOX (cutbox-rows.mjs): the forced cells as the released guide's own fill.sh prints them over the translation d6add9df1675c559… (all of the seat's roots in one cut). By AI agents, Wed Nov 11 2026. No macro, syntax, notation, axiom, sorry.
-/
import Derived.Test.YtcpdlhgkdogdjaaDoorChecked
import GoSem.Claim
import GoSem.ClaimJoined
import GoSem.ClaimMapViews
import Derived.JoinedTies
import Derived.KernelRfl
namespace Go.Proofs.YtcpdlhgkdogdjaaDoor
/- THE CELL 'sum', in the pinned program and in every row, IS THE sha256 OF THE DUMP (.gsa) THAT YtcpdlhgkdogdjaaDoorProg.lean LOADS. Nothing in Lean hashes anything: it is a label: what it is worth is what the hold of that sum in a sandbox is worth. -/
noncomputable def Tryd.pinned : Pinned := { name := "ytcpdlhgkdogdjaadoor", sum := "d6add9df1675c55935bc4772b81c77709a850c04ffb5413263b708423350610f", checked := Tryd.checked }
namespace Rows
def none {H : Type} : Left H := { results := [], args := [] }

/- WHAT THE LISTED PACKAGE-LEVEL VARIABLES READ AS WHEN THE CALL BEGINS. Each datum BY PROGRAM (the guide's laid-datum.mjs) off the statement by which the dump's own 'gosem.cut.vars' lays the variable. In a bare row this is a premise. The card (YtcpdlhgkdogdjaaDoorCards.lean) ties it to the program's text. -/
def laid_passim_work_nowhere {H : Type} : DataW H := .agg [.lit (.int .i64 (-1)), .lit (.int .i64 0), .lit (.int .i64 0)]
def laid_passim_hash_constants {H : Type} : DataW H := .agg [.lit (.int .u32 1116352408), .lit (.int .u32 1899447441), .lit (.int .u32 3049323471), .lit (.int .u32 3921009573), .lit (.int .u32 961987163), .lit (.int .u32 1508970993), .lit (.int .u32 2453635748), .lit (.int .u32 2870763221), .lit (.int .u32 3624381080), .lit (.int .u32 310598401), .lit (.int .u32 607225278), .lit (.int .u32 1426881987), .lit (.int .u32 1925078388), .lit (.int .u32 2162078206), .lit (.int .u32 2614888103), .lit (.int .u32 3248222580), .lit (.int .u32 3835390401), .lit (.int .u32 4022224774), .lit (.int .u32 264347078), .lit (.int .u32 604807628), .lit (.int .u32 770255983), .lit (.int .u32 1249150122), .lit (.int .u32 1555081692), .lit (.int .u32 1996064986), .lit (.int .u32 2554220882), .lit (.int .u32 2821834349), .lit (.int .u32 2952996808), .lit (.int .u32 3210313671), .lit (.int .u32 3336571891), .lit (.int .u32 3584528711), .lit (.int .u32 113926993), .lit (.int .u32 338241895), .lit (.int .u32 666307205), .lit (.int .u32 773529912), .lit (.int .u32 1294757372), .lit (.int .u32 1396182291), .lit (.int .u32 1695183700), .lit (.int .u32 1986661051), .lit (.int .u32 2177026350), .lit (.int .u32 2456956037), .lit (.int .u32 2730485921), .lit (.int .u32 2820302411), .lit (.int .u32 3259730800), .lit (.int .u32 3345764771), .lit (.int .u32 3516065817), .lit (.int .u32 3600352804), .lit (.int .u32 4094571909), .lit (.int .u32 275423344), .lit (.int .u32 430227734), .lit (.int .u32 506948616), .lit (.int .u32 659060556), .lit (.int .u32 883997877), .lit (.int .u32 958139571), .lit (.int .u32 1322822218), .lit (.int .u32 1537002063), .lit (.int .u32 1747873779), .lit (.int .u32 1955562222), .lit (.int .u32 2024104815), .lit (.int .u32 2227730452), .lit (.int .u32 2361852424), .lit (.int .u32 2428436474), .lit (.int .u32 2756734187), .lit (.int .u32 3204031479), .lit (.int .u32 3329325298)]

/-- 'passimlaw07.WorkValid': WHATEVER THE INPUT: true; the input reads as it did. -/
def workValidSpec : ChangeSpec := { name := "workValid", fn := fun _ => fun
  | [d1, d2, d3] => { results := [.lit (.bool true)], args := [d1, d2, d3] }
  | _ => none }
def workValidRow : OpenClaim := { program := "ytcpdlhgkdogdjaadoor", sum := "d6add9df1675c55935bc4772b81c77709a850c04ffb5413263b708423350610f", func := "passim/passimlaw07.WorkValid", spec := "workValid", unfollowed := true, recurses := true, named := ["passim/work.nowhere"], plainKeys := false, apart := false, laid := [("passim/work.nowhere", laid_passim_work_nowhere)] }
def WorkValidSaid : Prop := workValidRow.holds Tryd.pinned (OpenSpec.ofChange workValidSpec)

/-- ITS FALSE NEIGHBOUR: 'it returns false'. Refute it at one input. -/
def workValidWrong : ChangeSpec := { name := "workValid", fn := fun _ => fun
  | [d1, d2, d3] => { results := [.lit (.bool false)], args := [d1, d2, d3] }
  | _ => none }
def WorkValidWrongFalsely : Prop := workValidRow.holds Tryd.pinned (OpenSpec.ofChange workValidWrong)

/-- 'passimlaw07.WorkParts': WHATEVER THE INPUT: true; the input reads as it did. -/
def workPartsSpec : ChangeSpec := { name := "workParts", fn := fun _ => fun
  | [d1, d2, d3, d4] => { results := [.lit (.bool true)], args := [d1, d2, d3, d4] }
  | _ => none }
def workPartsRow : OpenClaim := { program := "ytcpdlhgkdogdjaadoor", sum := "d6add9df1675c55935bc4772b81c77709a850c04ffb5413263b708423350610f", func := "passim/passimlaw07.WorkParts", spec := "workParts", unfollowed := true, recurses := true, named := ["passim/work.nowhere"], plainKeys := false, apart := false, laid := [("passim/work.nowhere", laid_passim_work_nowhere)] }
def WorkPartsSaid : Prop := workPartsRow.holds Tryd.pinned (OpenSpec.ofChange workPartsSpec)

/-- ITS FALSE NEIGHBOUR: 'it returns false'. Refute it at one input. -/
def workPartsWrong : ChangeSpec := { name := "workParts", fn := fun _ => fun
  | [d1, d2, d3, d4] => { results := [.lit (.bool false)], args := [d1, d2, d3, d4] }
  | _ => none }
def WorkPartsWrongFalsely : Prop := workPartsRow.holds Tryd.pinned (OpenSpec.ofChange workPartsWrong)

/-- 'passimlaw07.WorkReads': WHATEVER THE INPUT: true; the input reads as it did. -/
def workReadsSpec : ChangeSpec := { name := "workReads", fn := fun _ => fun
  | [d1, d2, d3, d4] => { results := [.lit (.bool true)], args := [d1, d2, d3, d4] }
  | _ => none }
def workReadsRow : OpenClaim := { program := "ytcpdlhgkdogdjaadoor", sum := "d6add9df1675c55935bc4772b81c77709a850c04ffb5413263b708423350610f", func := "passim/passimlaw07.WorkReads", spec := "workReads", unfollowed := true, recurses := true, named := ["passim/work.nowhere"], plainKeys := false, apart := false, laid := [("passim/work.nowhere", laid_passim_work_nowhere)] }
def WorkReadsSaid : Prop := workReadsRow.holds Tryd.pinned (OpenSpec.ofChange workReadsSpec)

/-- ITS FALSE NEIGHBOUR: 'it returns false'. Refute it at one input. -/
def workReadsWrong : ChangeSpec := { name := "workReads", fn := fun _ => fun
  | [d1, d2, d3, d4] => { results := [.lit (.bool false)], args := [d1, d2, d3, d4] }
  | _ => none }
def WorkReadsWrongFalsely : Prop := workReadsRow.holds Tryd.pinned (OpenSpec.ofChange workReadsWrong)

/-- 'passimlaw07.WorkFinds': WHATEVER THE INPUT: true; the input reads as it did. -/
def workFindsSpec : ChangeSpec := { name := "workFinds", fn := fun _ => fun
  | [d1, d2, d3, d4, d5] => { results := [.lit (.bool true)], args := [d1, d2, d3, d4, d5] }
  | _ => none }
def workFindsRow : OpenClaim := { program := "ytcpdlhgkdogdjaadoor", sum := "d6add9df1675c55935bc4772b81c77709a850c04ffb5413263b708423350610f", func := "passim/passimlaw07.WorkFinds", spec := "workFinds", unfollowed := true, recurses := true, named := ["passim/work.nowhere"], plainKeys := false, apart := false, laid := [("passim/work.nowhere", laid_passim_work_nowhere)] }
def WorkFindsSaid : Prop := workFindsRow.holds Tryd.pinned (OpenSpec.ofChange workFindsSpec)

/-- ITS FALSE NEIGHBOUR: 'it returns false'. Refute it at one input. -/
def workFindsWrong : ChangeSpec := { name := "workFinds", fn := fun _ => fun
  | [d1, d2, d3, d4, d5] => { results := [.lit (.bool false)], args := [d1, d2, d3, d4, d5] }
  | _ => none }
def WorkFindsWrongFalsely : Prop := workFindsRow.holds Tryd.pinned (OpenSpec.ofChange workFindsWrong)

/-- 'passimlaw07.WorkReading': WHATEVER THE INPUT: true; the input reads as it did. -/
def workReadingSpec : ChangeSpec := { name := "workReading", fn := fun _ => fun
  | [d1, d2] => { results := [.lit (.bool true)], args := [d1, d2] }
  | _ => none }
def workReadingRow : OpenClaim := { program := "ytcpdlhgkdogdjaadoor", sum := "d6add9df1675c55935bc4772b81c77709a850c04ffb5413263b708423350610f", func := "passim/passimlaw07.WorkReading", spec := "workReading", unfollowed := true, recurses := true, named := ["passim/work.nowhere"], plainKeys := false, apart := false, laid := [("passim/work.nowhere", laid_passim_work_nowhere)] }
def WorkReadingSaid : Prop := workReadingRow.holds Tryd.pinned (OpenSpec.ofChange workReadingSpec)

/-- ITS FALSE NEIGHBOUR: 'it returns false'. Refute it at one input. -/
def workReadingWrong : ChangeSpec := { name := "workReading", fn := fun _ => fun
  | [d1, d2] => { results := [.lit (.bool false)], args := [d1, d2] }
  | _ => none }
def WorkReadingWrongFalsely : Prop := workReadingRow.holds Tryd.pinned (OpenSpec.ofChange workReadingWrong)

/-- 'passimlaw07.WorkCopies': WHATEVER THE INPUT: true; the input reads as it did. -/
def workCopiesSpec : ChangeSpec := { name := "workCopies", fn := fun _ => fun
  | [d1, d2, d3] => { results := [.lit (.bool true)], args := [d1, d2, d3] }
  | _ => none }
def workCopiesRow : OpenClaim := { program := "ytcpdlhgkdogdjaadoor", sum := "d6add9df1675c55935bc4772b81c77709a850c04ffb5413263b708423350610f", func := "passim/passimlaw07.WorkCopies", spec := "workCopies", unfollowed := true, recurses := true, named := ["passim/work.nowhere"], plainKeys := false, apart := false, laid := [("passim/work.nowhere", laid_passim_work_nowhere)] }
def WorkCopiesSaid : Prop := workCopiesRow.holds Tryd.pinned (OpenSpec.ofChange workCopiesSpec)

/-- ITS FALSE NEIGHBOUR: 'it returns false'. Refute it at one input. -/
def workCopiesWrong : ChangeSpec := { name := "workCopies", fn := fun _ => fun
  | [d1, d2, d3] => { results := [.lit (.bool false)], args := [d1, d2, d3] }
  | _ => none }
def WorkCopiesWrongFalsely : Prop := workCopiesRow.holds Tryd.pinned (OpenSpec.ofChange workCopiesWrong)

/-- 'passimlaw07.WorkBack': WHATEVER THE INPUT: true; the input reads as it did. -/
def workBackSpec : ChangeSpec := { name := "workBack", fn := fun _ => fun
  | [d1, d2, d3, d4, d5] => { results := [.lit (.bool true)], args := [d1, d2, d3, d4, d5] }
  | _ => none }
def workBackRow : OpenClaim := { program := "ytcpdlhgkdogdjaadoor", sum := "d6add9df1675c55935bc4772b81c77709a850c04ffb5413263b708423350610f", func := "passim/passimlaw07.WorkBack", spec := "workBack", unfollowed := true, recurses := true, named := ["passim/work.nowhere"], plainKeys := false, apart := false, laid := [("passim/work.nowhere", laid_passim_work_nowhere)] }
def WorkBackSaid : Prop := workBackRow.holds Tryd.pinned (OpenSpec.ofChange workBackSpec)

/-- ITS FALSE NEIGHBOUR: 'it returns false'. Refute it at one input. -/
def workBackWrong : ChangeSpec := { name := "workBack", fn := fun _ => fun
  | [d1, d2, d3, d4, d5] => { results := [.lit (.bool false)], args := [d1, d2, d3, d4, d5] }
  | _ => none }
def WorkBackWrongFalsely : Prop := workBackRow.holds Tryd.pinned (OpenSpec.ofChange workBackWrong)

/-- 'passimlaw07.WorkCodes': WHATEVER THE INPUT: true; the input reads as it did. -/
def workCodesSpec : ChangeSpec := { name := "workCodes", fn := fun _ => fun
  | [d1, d2, d3, d4, d5] => { results := [.lit (.bool true)], args := [d1, d2, d3, d4, d5] }
  | _ => none }
def workCodesRow : OpenClaim := { program := "ytcpdlhgkdogdjaadoor", sum := "d6add9df1675c55935bc4772b81c77709a850c04ffb5413263b708423350610f", func := "passim/passimlaw07.WorkCodes", spec := "workCodes", unfollowed := true, recurses := true, named := ["passim/hash.constants", "passim/work.nowhere"], plainKeys := false, apart := false, laid := [("passim/hash.constants", laid_passim_hash_constants), ("passim/work.nowhere", laid_passim_work_nowhere)] }
def WorkCodesSaid : Prop := workCodesRow.holds Tryd.pinned (OpenSpec.ofChange workCodesSpec)

/-- ITS FALSE NEIGHBOUR: 'it returns false'. Refute it at one input. -/
def workCodesWrong : ChangeSpec := { name := "workCodes", fn := fun _ => fun
  | [d1, d2, d3, d4, d5] => { results := [.lit (.bool false)], args := [d1, d2, d3, d4, d5] }
  | _ => none }
def WorkCodesWrongFalsely : Prop := workCodesRow.holds Tryd.pinned (OpenSpec.ofChange workCodesWrong)

/- THE SECOND FORM. 'bulk': how many values and letters a reading holds, each counted each time it is reached (what is shared counts as often as it is met; a slice's spare places count too). A statement '..UptoSaid' is the law's where the arguments, and the package variables that the reading takes, are together of bulk at most 1048576: NARROWER than '..Said'. Prove '..Said' where nothing that the law and all that it calls make is longer than what came in: it says more and counts as full. Else prove '..UptoSaid'. A law counts once. -/
mutual
def uptoBulk {H : Type} : DataW H → Nat
  | .lit (.string bytes) => bytes.length + 1
  | .lit _ => 1
  | .nil => 1
  | .ptr d => uptoBulk d + 1
  | .slice elems spare => uptoBulkAll elems + uptoBulkAll spare + 1
  | .agg parts => uptoBulkAll parts + 1
  | .iface _ d => uptoBulk d + 1
  | .map entries => uptoBulkEntries entries + 1
  | .held _ => 1
def uptoBulkAll {H : Type} : List (DataW H) → Nat
  | [] => 0
  | d :: r => uptoBulk d + uptoBulkAll r
def uptoBulkEntries {H : Type} : List (Lit × DataW H) → Nat
  | [] => 0
  | x :: r => uptoBulkEntry x + uptoBulkEntries r
def uptoBulkEntry {H : Type} : Lit × DataW H → Nat
  | (.string bytes, d) => bytes.length + uptoBulk d + 1
  | (_, d) => uptoBulk d + 1
 end
def uptoSmall : (H : Type) → List (DataW H) → Bool := fun _ ds => decide (uptoBulkAll ds ≤ 1048576)
def OpenSpec.upto (s : _root_.Go.ChangeSpec) : _root_.Go.OpenSpec := { _root_.Go.OpenSpec.ofChange s with cond := some uptoSmall }

/-- 'passimlaw07.WorkValid', WHERE WHAT IT READS IS OF BULK AT MOST 1048576: true; the input reads as it did. -/
def workValidUptoRow : OpenClaim := { program := "ytcpdlhgkdogdjaadoor", sum := "d6add9df1675c55935bc4772b81c77709a850c04ffb5413263b708423350610f", func := "passim/passimlaw07.WorkValid", spec := "workValid", unfollowed := true, recurses := true, named := ["passim/work.nowhere"], plainKeys := false, apart := false, laid := [("passim/work.nowhere", laid_passim_work_nowhere)], narrowed := true }
def WorkValidUptoSaid : Prop := workValidUptoRow.holds Tryd.pinned (OpenSpec.upto workValidSpec)

/-- 'passimlaw07.WorkParts', WHERE WHAT IT READS IS OF BULK AT MOST 1048576: true; the input reads as it did. -/
def workPartsUptoRow : OpenClaim := { program := "ytcpdlhgkdogdjaadoor", sum := "d6add9df1675c55935bc4772b81c77709a850c04ffb5413263b708423350610f", func := "passim/passimlaw07.WorkParts", spec := "workParts", unfollowed := true, recurses := true, named := ["passim/work.nowhere"], plainKeys := false, apart := false, laid := [("passim/work.nowhere", laid_passim_work_nowhere)], narrowed := true }
def WorkPartsUptoSaid : Prop := workPartsUptoRow.holds Tryd.pinned (OpenSpec.upto workPartsSpec)

/-- 'passimlaw07.WorkReads', WHERE WHAT IT READS IS OF BULK AT MOST 1048576: true; the input reads as it did. -/
def workReadsUptoRow : OpenClaim := { program := "ytcpdlhgkdogdjaadoor", sum := "d6add9df1675c55935bc4772b81c77709a850c04ffb5413263b708423350610f", func := "passim/passimlaw07.WorkReads", spec := "workReads", unfollowed := true, recurses := true, named := ["passim/work.nowhere"], plainKeys := false, apart := false, laid := [("passim/work.nowhere", laid_passim_work_nowhere)], narrowed := true }
def WorkReadsUptoSaid : Prop := workReadsUptoRow.holds Tryd.pinned (OpenSpec.upto workReadsSpec)

/-- 'passimlaw07.WorkFinds', WHERE WHAT IT READS IS OF BULK AT MOST 1048576: true; the input reads as it did. -/
def workFindsUptoRow : OpenClaim := { program := "ytcpdlhgkdogdjaadoor", sum := "d6add9df1675c55935bc4772b81c77709a850c04ffb5413263b708423350610f", func := "passim/passimlaw07.WorkFinds", spec := "workFinds", unfollowed := true, recurses := true, named := ["passim/work.nowhere"], plainKeys := false, apart := false, laid := [("passim/work.nowhere", laid_passim_work_nowhere)], narrowed := true }
def WorkFindsUptoSaid : Prop := workFindsUptoRow.holds Tryd.pinned (OpenSpec.upto workFindsSpec)

/-- 'passimlaw07.WorkReading', WHERE WHAT IT READS IS OF BULK AT MOST 1048576: true; the input reads as it did. -/
def workReadingUptoRow : OpenClaim := { program := "ytcpdlhgkdogdjaadoor", sum := "d6add9df1675c55935bc4772b81c77709a850c04ffb5413263b708423350610f", func := "passim/passimlaw07.WorkReading", spec := "workReading", unfollowed := true, recurses := true, named := ["passim/work.nowhere"], plainKeys := false, apart := false, laid := [("passim/work.nowhere", laid_passim_work_nowhere)], narrowed := true }
def WorkReadingUptoSaid : Prop := workReadingUptoRow.holds Tryd.pinned (OpenSpec.upto workReadingSpec)

/-- 'passimlaw07.WorkCopies', WHERE WHAT IT READS IS OF BULK AT MOST 1048576: true; the input reads as it did. -/
def workCopiesUptoRow : OpenClaim := { program := "ytcpdlhgkdogdjaadoor", sum := "d6add9df1675c55935bc4772b81c77709a850c04ffb5413263b708423350610f", func := "passim/passimlaw07.WorkCopies", spec := "workCopies", unfollowed := true, recurses := true, named := ["passim/work.nowhere"], plainKeys := false, apart := false, laid := [("passim/work.nowhere", laid_passim_work_nowhere)], narrowed := true }
def WorkCopiesUptoSaid : Prop := workCopiesUptoRow.holds Tryd.pinned (OpenSpec.upto workCopiesSpec)

/-- 'passimlaw07.WorkBack', WHERE WHAT IT READS IS OF BULK AT MOST 1048576: true; the input reads as it did. -/
def workBackUptoRow : OpenClaim := { program := "ytcpdlhgkdogdjaadoor", sum := "d6add9df1675c55935bc4772b81c77709a850c04ffb5413263b708423350610f", func := "passim/passimlaw07.WorkBack", spec := "workBack", unfollowed := true, recurses := true, named := ["passim/work.nowhere"], plainKeys := false, apart := false, laid := [("passim/work.nowhere", laid_passim_work_nowhere)], narrowed := true }
def WorkBackUptoSaid : Prop := workBackUptoRow.holds Tryd.pinned (OpenSpec.upto workBackSpec)

/-- 'passimlaw07.WorkCodes', WHERE WHAT IT READS IS OF BULK AT MOST 1048576: true; the input reads as it did. -/
def workCodesUptoRow : OpenClaim := { program := "ytcpdlhgkdogdjaadoor", sum := "d6add9df1675c55935bc4772b81c77709a850c04ffb5413263b708423350610f", func := "passim/passimlaw07.WorkCodes", spec := "workCodes", unfollowed := true, recurses := true, named := ["passim/hash.constants", "passim/work.nowhere"], plainKeys := false, apart := false, laid := [("passim/hash.constants", laid_passim_hash_constants), ("passim/work.nowhere", laid_passim_work_nowhere)], narrowed := true }
def WorkCodesUptoSaid : Prop := workCodesUptoRow.holds Tryd.pinned (OpenSpec.upto workCodesSpec)

end Rows
end Go.Proofs.YtcpdlhgkdogdjaaDoor
