/-
  NARROWER THAN 'FOR EVERY INPUT', by the rows' own cells (each row's printed sentence says how): LsmCounts: laid · LsmTrue: laid · LsmFull: laid · LsmStray: laid · LsmQuiet: laid · LsmSplits: laid · LsmGone: laid · LsmOfNothing: laid.
  DERIVED. THE GIVEN ROWS OF THIS SEAT. 8 by the template 'for every input the law returns true; each argument reads behind the call as it read before'; 0 by the template 'total and deterministic' (their statements: YtiooodckiddpmaaGreatDoorTotals.lean).
  GIVEN WITH THE SEED: the statements are not yours to turn. If you find one false, say at which input.
  Laid BY PROGRAM, IN A SANDBOX (cutbox-rows.mjs): the forced cells as the released guide's own fill.sh prints them over the translation 32d98a7dddf2be67… (all of the seat's roots in one cut). By AI agents, Wed Nov 11 2026. No macro, syntax, notation, axiom, sorry.
-/
import Derived.Test.YtiooodckiddpmaaGreatDoorChecked
import GoSem.Claim
import GoSem.ClaimJoined
import GoSem.ClaimMapViews
import Derived.JoinedTies
import Derived.KernelRfl
namespace Go.Proofs.YtiooodckiddpmaaGreatDoor
/- THE CELL 'sum', in the pinned program and in every row, IS THE sha256 OF THE DUMP (.gsa) THAT YtiooodckiddpmaaGreatDoorProg.lean LOADS. Nothing in Lean hashes anything: it is a label: what it is worth is what the hold of that sum in a sandbox is worth. -/
noncomputable def Tryz.pinned : Pinned := { name := "ytiooodckiddpmaagreatdoor", sum := "32d98a7dddf2be67198155abb7d261339f3c5dc2475968239014555432a5e3ca", checked := Tryz.checked }
namespace Rows
def none {H : Type} : Left H := { results := [], args := [] }

/- WHAT THE LISTED PACKAGE-LEVEL VARIABLES READ AS WHEN THE CALL BEGINS. Each datum BY PROGRAM (the guide's laid-datum.mjs) off the statement by which the dump's own 'gosem.cut.vars' lays the variable. In a bare row this is a premise. The card (YtiooodckiddpmaaGreatDoorCards.lean) ties it to the program's text. -/
def laid_math_bits_deBruijn32tab {H : Type} : DataW H := .agg [.lit (.int .u8 0), .lit (.int .u8 1), .lit (.int .u8 28), .lit (.int .u8 2), .lit (.int .u8 29), .lit (.int .u8 14), .lit (.int .u8 24), .lit (.int .u8 3), .lit (.int .u8 30), .lit (.int .u8 22), .lit (.int .u8 20), .lit (.int .u8 15), .lit (.int .u8 25), .lit (.int .u8 17), .lit (.int .u8 4), .lit (.int .u8 8), .lit (.int .u8 31), .lit (.int .u8 27), .lit (.int .u8 13), .lit (.int .u8 23), .lit (.int .u8 21), .lit (.int .u8 19), .lit (.int .u8 16), .lit (.int .u8 7), .lit (.int .u8 26), .lit (.int .u8 12), .lit (.int .u8 18), .lit (.int .u8 6), .lit (.int .u8 11), .lit (.int .u8 5), .lit (.int .u8 10), .lit (.int .u8 9)]
def laid_math_bits_deBruijn64tab {H : Type} : DataW H := .agg [.lit (.int .u8 0), .lit (.int .u8 1), .lit (.int .u8 56), .lit (.int .u8 2), .lit (.int .u8 57), .lit (.int .u8 49), .lit (.int .u8 28), .lit (.int .u8 3), .lit (.int .u8 61), .lit (.int .u8 58), .lit (.int .u8 42), .lit (.int .u8 50), .lit (.int .u8 38), .lit (.int .u8 29), .lit (.int .u8 17), .lit (.int .u8 4), .lit (.int .u8 62), .lit (.int .u8 47), .lit (.int .u8 59), .lit (.int .u8 36), .lit (.int .u8 45), .lit (.int .u8 43), .lit (.int .u8 51), .lit (.int .u8 22), .lit (.int .u8 53), .lit (.int .u8 39), .lit (.int .u8 33), .lit (.int .u8 30), .lit (.int .u8 24), .lit (.int .u8 18), .lit (.int .u8 12), .lit (.int .u8 5), .lit (.int .u8 63), .lit (.int .u8 55), .lit (.int .u8 48), .lit (.int .u8 27), .lit (.int .u8 60), .lit (.int .u8 41), .lit (.int .u8 37), .lit (.int .u8 16), .lit (.int .u8 46), .lit (.int .u8 35), .lit (.int .u8 44), .lit (.int .u8 21), .lit (.int .u8 52), .lit (.int .u8 32), .lit (.int .u8 23), .lit (.int .u8 11), .lit (.int .u8 54), .lit (.int .u8 26), .lit (.int .u8 40), .lit (.int .u8 15), .lit (.int .u8 34), .lit (.int .u8 20), .lit (.int .u8 31), .lit (.int .u8 10), .lit (.int .u8 25), .lit (.int .u8 14), .lit (.int .u8 19), .lit (.int .u8 9), .lit (.int .u8 13), .lit (.int .u8 8), .lit (.int .u8 7), .lit (.int .u8 6)]
def laid_internal_strconv_uint64pow10 {H : Type} : DataW H := .agg [.lit (.int .u64 1), .lit (.int .u64 10), .lit (.int .u64 100), .lit (.int .u64 1000), .lit (.int .u64 10000), .lit (.int .u64 100000), .lit (.int .u64 1000000), .lit (.int .u64 10000000), .lit (.int .u64 100000000), .lit (.int .u64 1000000000), .lit (.int .u64 10000000000), .lit (.int .u64 100000000000), .lit (.int .u64 1000000000000), .lit (.int .u64 10000000000000), .lit (.int .u64 100000000000000), .lit (.int .u64 1000000000000000), .lit (.int .u64 10000000000000000), .lit (.int .u64 100000000000000000), .lit (.int .u64 1000000000000000000), .lit (.int .u64 10000000000000000000)]

/-- 'burgesslaw12.LsmCounts': WHATEVER THE INPUT: true; the input reads as it did. -/
def lsmCountsSpec : ChangeSpec := { name := "lsmCounts", fn := fun _ => fun
  | [d] => { results := [.lit (.bool true)], args := [d] }
  | _ => none }
def lsmCountsRow : OpenClaim := { program := "ytiooodckiddpmaagreatdoor", sum := "32d98a7dddf2be67198155abb7d261339f3c5dc2475968239014555432a5e3ca", func := "burgess/burgesslaw12.LsmCounts", spec := "lsmCounts", inPlace := ["internal/bytealg.MakeNoZero", "internal/bytealg.abigen_runtime_cmpstring"], unfollowed := true, recurses := true, named := ["internal/strconv.uint64pow10", "math/bits.deBruijn32tab", "math/bits.deBruijn64tab"], plainKeys := false, apart := false, laid := [("math/bits.deBruijn32tab", laid_math_bits_deBruijn32tab), ("math/bits.deBruijn64tab", laid_math_bits_deBruijn64tab), ("internal/strconv.uint64pow10", laid_internal_strconv_uint64pow10)] }
def LsmCountsSaid : Prop := lsmCountsRow.holds Tryz.pinned (OpenSpec.ofChange lsmCountsSpec)

/-- ITS FALSE NEIGHBOUR: 'it returns false'. Refute it at one input. -/
def lsmCountsWrong : ChangeSpec := { name := "lsmCounts", fn := fun _ => fun
  | [d] => { results := [.lit (.bool false)], args := [d] }
  | _ => none }
def LsmCountsWrongFalsely : Prop := lsmCountsRow.holds Tryz.pinned (OpenSpec.ofChange lsmCountsWrong)

/-- 'burgesslaw12.LsmTrue': WHATEVER THE INPUT: true; the input reads as it did. -/
def lsmTrueSpec : ChangeSpec := { name := "lsmTrue", fn := fun _ => fun
  | [d1, d2] => { results := [.lit (.bool true)], args := [d1, d2] }
  | _ => none }
def lsmTrueRow : OpenClaim := { program := "ytiooodckiddpmaagreatdoor", sum := "32d98a7dddf2be67198155abb7d261339f3c5dc2475968239014555432a5e3ca", func := "burgess/burgesslaw12.LsmTrue", spec := "lsmTrue", inPlace := ["internal/bytealg.MakeNoZero", "internal/bytealg.abigen_runtime_cmpstring"], unfollowed := true, recurses := true, named := ["internal/strconv.uint64pow10", "math/bits.deBruijn32tab", "math/bits.deBruijn64tab"], plainKeys := false, apart := false, laid := [("math/bits.deBruijn32tab", laid_math_bits_deBruijn32tab), ("math/bits.deBruijn64tab", laid_math_bits_deBruijn64tab), ("internal/strconv.uint64pow10", laid_internal_strconv_uint64pow10)] }
def LsmTrueSaid : Prop := lsmTrueRow.holds Tryz.pinned (OpenSpec.ofChange lsmTrueSpec)

/-- ITS FALSE NEIGHBOUR: 'it returns false'. Refute it at one input. -/
def lsmTrueWrong : ChangeSpec := { name := "lsmTrue", fn := fun _ => fun
  | [d1, d2] => { results := [.lit (.bool false)], args := [d1, d2] }
  | _ => none }
def LsmTrueWrongFalsely : Prop := lsmTrueRow.holds Tryz.pinned (OpenSpec.ofChange lsmTrueWrong)

/-- 'burgesslaw12.LsmFull': WHATEVER THE INPUT: true; the input reads as it did. -/
def lsmFullSpec : ChangeSpec := { name := "lsmFull", fn := fun _ => fun
  | [d1, d2] => { results := [.lit (.bool true)], args := [d1, d2] }
  | _ => none }
def lsmFullRow : OpenClaim := { program := "ytiooodckiddpmaagreatdoor", sum := "32d98a7dddf2be67198155abb7d261339f3c5dc2475968239014555432a5e3ca", func := "burgess/burgesslaw12.LsmFull", spec := "lsmFull", inPlace := ["internal/bytealg.MakeNoZero", "internal/bytealg.abigen_runtime_cmpstring"], unfollowed := true, recurses := true, named := ["internal/strconv.uint64pow10", "math/bits.deBruijn32tab", "math/bits.deBruijn64tab"], plainKeys := false, apart := false, laid := [("math/bits.deBruijn32tab", laid_math_bits_deBruijn32tab), ("math/bits.deBruijn64tab", laid_math_bits_deBruijn64tab), ("internal/strconv.uint64pow10", laid_internal_strconv_uint64pow10)] }
def LsmFullSaid : Prop := lsmFullRow.holds Tryz.pinned (OpenSpec.ofChange lsmFullSpec)

/-- ITS FALSE NEIGHBOUR: 'it returns false'. Refute it at one input. -/
def lsmFullWrong : ChangeSpec := { name := "lsmFull", fn := fun _ => fun
  | [d1, d2] => { results := [.lit (.bool false)], args := [d1, d2] }
  | _ => none }
def LsmFullWrongFalsely : Prop := lsmFullRow.holds Tryz.pinned (OpenSpec.ofChange lsmFullWrong)

/-- 'burgesslaw12.LsmStray': WHATEVER THE INPUT: true; the input reads as it did. -/
def lsmStraySpec : ChangeSpec := { name := "lsmStray", fn := fun _ => fun
  | [d1, d2, d3] => { results := [.lit (.bool true)], args := [d1, d2, d3] }
  | _ => none }
def lsmStrayRow : OpenClaim := { program := "ytiooodckiddpmaagreatdoor", sum := "32d98a7dddf2be67198155abb7d261339f3c5dc2475968239014555432a5e3ca", func := "burgess/burgesslaw12.LsmStray", spec := "lsmStray", inPlace := ["internal/bytealg.MakeNoZero", "internal/bytealg.abigen_runtime_cmpstring"], unfollowed := true, recurses := true, named := ["internal/strconv.uint64pow10", "math/bits.deBruijn32tab", "math/bits.deBruijn64tab"], plainKeys := false, apart := false, laid := [("math/bits.deBruijn32tab", laid_math_bits_deBruijn32tab), ("math/bits.deBruijn64tab", laid_math_bits_deBruijn64tab), ("internal/strconv.uint64pow10", laid_internal_strconv_uint64pow10)] }
def LsmStraySaid : Prop := lsmStrayRow.holds Tryz.pinned (OpenSpec.ofChange lsmStraySpec)

/-- ITS FALSE NEIGHBOUR: 'it returns false'. Refute it at one input. -/
def lsmStrayWrong : ChangeSpec := { name := "lsmStray", fn := fun _ => fun
  | [d1, d2, d3] => { results := [.lit (.bool false)], args := [d1, d2, d3] }
  | _ => none }
def LsmStrayWrongFalsely : Prop := lsmStrayRow.holds Tryz.pinned (OpenSpec.ofChange lsmStrayWrong)

/-- 'burgesslaw12.LsmQuiet': WHATEVER THE INPUT: true; the input reads as it did. -/
def lsmQuietSpec : ChangeSpec := { name := "lsmQuiet", fn := fun _ => fun
  | [d1, d2, d3, d4] => { results := [.lit (.bool true)], args := [d1, d2, d3, d4] }
  | _ => none }
def lsmQuietRow : OpenClaim := { program := "ytiooodckiddpmaagreatdoor", sum := "32d98a7dddf2be67198155abb7d261339f3c5dc2475968239014555432a5e3ca", func := "burgess/burgesslaw12.LsmQuiet", spec := "lsmQuiet", inPlace := ["internal/bytealg.MakeNoZero", "internal/bytealg.abigen_runtime_cmpstring"], unfollowed := true, recurses := true, named := ["internal/strconv.uint64pow10", "math/bits.deBruijn32tab", "math/bits.deBruijn64tab"], plainKeys := false, apart := false, laid := [("math/bits.deBruijn32tab", laid_math_bits_deBruijn32tab), ("math/bits.deBruijn64tab", laid_math_bits_deBruijn64tab), ("internal/strconv.uint64pow10", laid_internal_strconv_uint64pow10)] }
def LsmQuietSaid : Prop := lsmQuietRow.holds Tryz.pinned (OpenSpec.ofChange lsmQuietSpec)

/-- ITS FALSE NEIGHBOUR: 'it returns false'. Refute it at one input. -/
def lsmQuietWrong : ChangeSpec := { name := "lsmQuiet", fn := fun _ => fun
  | [d1, d2, d3, d4] => { results := [.lit (.bool false)], args := [d1, d2, d3, d4] }
  | _ => none }
def LsmQuietWrongFalsely : Prop := lsmQuietRow.holds Tryz.pinned (OpenSpec.ofChange lsmQuietWrong)

/-- 'burgesslaw12.LsmSplits': WHATEVER THE INPUT: true; the input reads as it did. -/
def lsmSplitsSpec : ChangeSpec := { name := "lsmSplits", fn := fun _ => fun
  | [d1, d2, d3] => { results := [.lit (.bool true)], args := [d1, d2, d3] }
  | _ => none }
def lsmSplitsRow : OpenClaim := { program := "ytiooodckiddpmaagreatdoor", sum := "32d98a7dddf2be67198155abb7d261339f3c5dc2475968239014555432a5e3ca", func := "burgess/burgesslaw12.LsmSplits", spec := "lsmSplits", inPlace := ["internal/bytealg.MakeNoZero", "internal/bytealg.abigen_runtime_cmpstring"], unfollowed := true, recurses := true, named := ["internal/strconv.uint64pow10", "math/bits.deBruijn32tab", "math/bits.deBruijn64tab"], plainKeys := false, apart := false, laid := [("math/bits.deBruijn32tab", laid_math_bits_deBruijn32tab), ("math/bits.deBruijn64tab", laid_math_bits_deBruijn64tab), ("internal/strconv.uint64pow10", laid_internal_strconv_uint64pow10)] }
def LsmSplitsSaid : Prop := lsmSplitsRow.holds Tryz.pinned (OpenSpec.ofChange lsmSplitsSpec)

/-- ITS FALSE NEIGHBOUR: 'it returns false'. Refute it at one input. -/
def lsmSplitsWrong : ChangeSpec := { name := "lsmSplits", fn := fun _ => fun
  | [d1, d2, d3] => { results := [.lit (.bool false)], args := [d1, d2, d3] }
  | _ => none }
def LsmSplitsWrongFalsely : Prop := lsmSplitsRow.holds Tryz.pinned (OpenSpec.ofChange lsmSplitsWrong)

/-- 'burgesslaw12.LsmGone': WHATEVER THE INPUT: true; the input reads as it did. -/
def lsmGoneSpec : ChangeSpec := { name := "lsmGone", fn := fun _ => fun
  | [d] => { results := [.lit (.bool true)], args := [d] }
  | _ => none }
def lsmGoneRow : OpenClaim := { program := "ytiooodckiddpmaagreatdoor", sum := "32d98a7dddf2be67198155abb7d261339f3c5dc2475968239014555432a5e3ca", func := "burgess/burgesslaw12.LsmGone", spec := "lsmGone", inPlace := ["internal/bytealg.MakeNoZero", "internal/bytealg.abigen_runtime_cmpstring"], unfollowed := true, recurses := true, named := ["internal/strconv.uint64pow10", "math/bits.deBruijn32tab", "math/bits.deBruijn64tab"], plainKeys := false, apart := false, laid := [("math/bits.deBruijn32tab", laid_math_bits_deBruijn32tab), ("math/bits.deBruijn64tab", laid_math_bits_deBruijn64tab), ("internal/strconv.uint64pow10", laid_internal_strconv_uint64pow10)] }
def LsmGoneSaid : Prop := lsmGoneRow.holds Tryz.pinned (OpenSpec.ofChange lsmGoneSpec)

/-- ITS FALSE NEIGHBOUR: 'it returns false'. Refute it at one input. -/
def lsmGoneWrong : ChangeSpec := { name := "lsmGone", fn := fun _ => fun
  | [d] => { results := [.lit (.bool false)], args := [d] }
  | _ => none }
def LsmGoneWrongFalsely : Prop := lsmGoneRow.holds Tryz.pinned (OpenSpec.ofChange lsmGoneWrong)

/-- 'burgesslaw12.LsmOfNothing': WHATEVER THE INPUT: true; the input reads as it did. -/
def lsmOfNothingSpec : ChangeSpec := { name := "lsmOfNothing", fn := fun _ => fun
  | [d1, d2] => { results := [.lit (.bool true)], args := [d1, d2] }
  | _ => none }
def lsmOfNothingRow : OpenClaim := { program := "ytiooodckiddpmaagreatdoor", sum := "32d98a7dddf2be67198155abb7d261339f3c5dc2475968239014555432a5e3ca", func := "burgess/burgesslaw12.LsmOfNothing", spec := "lsmOfNothing", inPlace := ["internal/bytealg.MakeNoZero", "internal/bytealg.abigen_runtime_cmpstring"], unfollowed := true, recurses := true, named := ["internal/strconv.uint64pow10", "math/bits.deBruijn32tab", "math/bits.deBruijn64tab"], plainKeys := false, apart := false, laid := [("math/bits.deBruijn32tab", laid_math_bits_deBruijn32tab), ("math/bits.deBruijn64tab", laid_math_bits_deBruijn64tab), ("internal/strconv.uint64pow10", laid_internal_strconv_uint64pow10)] }
def LsmOfNothingSaid : Prop := lsmOfNothingRow.holds Tryz.pinned (OpenSpec.ofChange lsmOfNothingSpec)

/-- ITS FALSE NEIGHBOUR: 'it returns false'. Refute it at one input. -/
def lsmOfNothingWrong : ChangeSpec := { name := "lsmOfNothing", fn := fun _ => fun
  | [d1, d2] => { results := [.lit (.bool false)], args := [d1, d2] }
  | _ => none }
def LsmOfNothingWrongFalsely : Prop := lsmOfNothingRow.holds Tryz.pinned (OpenSpec.ofChange lsmOfNothingWrong)

/- THE SECOND FORM. 'bulk': how many values and letters a reading holds, each counted each time it is reached (what is shared counts as often as it is met; a slice's spare places count too). A statement '..UptoSaid' is the law's where the arguments, and the package variables that the reading takes, are together of bulk at most 1048576: NARROWER than '..Said'. Prove '..Said' where nothing that the law and all that it calls make is longer than what came in: it says more and counts as full. Else prove '..UptoSaid'. A law counts once. -/
mutual
def uptoBulk {H : Type} : DataW H → Nat
  | .lit (.string bytes) => bytes.length + 1
  | .lit _ => 1
  | .nil => 1
  | .ptr d => uptoBulk d + 1
  | .slice elems spare => uptoBulkAll elems + uptoBulkAll spare + 1
  | .agg parts => uptoBulkAll parts + 1
  | .iface _ d => uptoBulk d + 1
  | .map entries => uptoBulkEntries entries + 1
  | .held _ => 1
def uptoBulkAll {H : Type} : List (DataW H) → Nat
  | [] => 0
  | d :: r => uptoBulk d + uptoBulkAll r
def uptoBulkEntries {H : Type} : List (Lit × DataW H) → Nat
  | [] => 0
  | x :: r => uptoBulkEntry x + uptoBulkEntries r
def uptoBulkEntry {H : Type} : Lit × DataW H → Nat
  | (.string bytes, d) => bytes.length + uptoBulk d + 1
  | (_, d) => uptoBulk d + 1
 end
def uptoSmall : (H : Type) → List (DataW H) → Bool := fun _ ds => decide (uptoBulkAll ds ≤ 1048576)
def OpenSpec.upto (s : _root_.Go.ChangeSpec) : _root_.Go.OpenSpec := { _root_.Go.OpenSpec.ofChange s with cond := some uptoSmall }

/-- 'burgesslaw12.LsmCounts', WHERE WHAT IT READS IS OF BULK AT MOST 1048576: true; the input reads as it did. -/
def lsmCountsUptoRow : OpenClaim := { program := "ytiooodckiddpmaagreatdoor", sum := "32d98a7dddf2be67198155abb7d261339f3c5dc2475968239014555432a5e3ca", func := "burgess/burgesslaw12.LsmCounts", spec := "lsmCounts", inPlace := ["internal/bytealg.MakeNoZero", "internal/bytealg.abigen_runtime_cmpstring"], unfollowed := true, recurses := true, named := ["internal/strconv.uint64pow10", "math/bits.deBruijn32tab", "math/bits.deBruijn64tab"], plainKeys := false, apart := false, laid := [("math/bits.deBruijn32tab", laid_math_bits_deBruijn32tab), ("math/bits.deBruijn64tab", laid_math_bits_deBruijn64tab), ("internal/strconv.uint64pow10", laid_internal_strconv_uint64pow10)], narrowed := true }
def LsmCountsUptoSaid : Prop := lsmCountsUptoRow.holds Tryz.pinned (OpenSpec.upto lsmCountsSpec)

/-- 'burgesslaw12.LsmTrue', WHERE WHAT IT READS IS OF BULK AT MOST 1048576: true; the input reads as it did. -/
def lsmTrueUptoRow : OpenClaim := { program := "ytiooodckiddpmaagreatdoor", sum := "32d98a7dddf2be67198155abb7d261339f3c5dc2475968239014555432a5e3ca", func := "burgess/burgesslaw12.LsmTrue", spec := "lsmTrue", inPlace := ["internal/bytealg.MakeNoZero", "internal/bytealg.abigen_runtime_cmpstring"], unfollowed := true, recurses := true, named := ["internal/strconv.uint64pow10", "math/bits.deBruijn32tab", "math/bits.deBruijn64tab"], plainKeys := false, apart := false, laid := [("math/bits.deBruijn32tab", laid_math_bits_deBruijn32tab), ("math/bits.deBruijn64tab", laid_math_bits_deBruijn64tab), ("internal/strconv.uint64pow10", laid_internal_strconv_uint64pow10)], narrowed := true }
def LsmTrueUptoSaid : Prop := lsmTrueUptoRow.holds Tryz.pinned (OpenSpec.upto lsmTrueSpec)

/-- 'burgesslaw12.LsmFull', WHERE WHAT IT READS IS OF BULK AT MOST 1048576: true; the input reads as it did. -/
def lsmFullUptoRow : OpenClaim := { program := "ytiooodckiddpmaagreatdoor", sum := "32d98a7dddf2be67198155abb7d261339f3c5dc2475968239014555432a5e3ca", func := "burgess/burgesslaw12.LsmFull", spec := "lsmFull", inPlace := ["internal/bytealg.MakeNoZero", "internal/bytealg.abigen_runtime_cmpstring"], unfollowed := true, recurses := true, named := ["internal/strconv.uint64pow10", "math/bits.deBruijn32tab", "math/bits.deBruijn64tab"], plainKeys := false, apart := false, laid := [("math/bits.deBruijn32tab", laid_math_bits_deBruijn32tab), ("math/bits.deBruijn64tab", laid_math_bits_deBruijn64tab), ("internal/strconv.uint64pow10", laid_internal_strconv_uint64pow10)], narrowed := true }
def LsmFullUptoSaid : Prop := lsmFullUptoRow.holds Tryz.pinned (OpenSpec.upto lsmFullSpec)

/-- 'burgesslaw12.LsmStray', WHERE WHAT IT READS IS OF BULK AT MOST 1048576: true; the input reads as it did. -/
def lsmStrayUptoRow : OpenClaim := { program := "ytiooodckiddpmaagreatdoor", sum := "32d98a7dddf2be67198155abb7d261339f3c5dc2475968239014555432a5e3ca", func := "burgess/burgesslaw12.LsmStray", spec := "lsmStray", inPlace := ["internal/bytealg.MakeNoZero", "internal/bytealg.abigen_runtime_cmpstring"], unfollowed := true, recurses := true, named := ["internal/strconv.uint64pow10", "math/bits.deBruijn32tab", "math/bits.deBruijn64tab"], plainKeys := false, apart := false, laid := [("math/bits.deBruijn32tab", laid_math_bits_deBruijn32tab), ("math/bits.deBruijn64tab", laid_math_bits_deBruijn64tab), ("internal/strconv.uint64pow10", laid_internal_strconv_uint64pow10)], narrowed := true }
def LsmStrayUptoSaid : Prop := lsmStrayUptoRow.holds Tryz.pinned (OpenSpec.upto lsmStraySpec)

/-- 'burgesslaw12.LsmQuiet', WHERE WHAT IT READS IS OF BULK AT MOST 1048576: true; the input reads as it did. -/
def lsmQuietUptoRow : OpenClaim := { program := "ytiooodckiddpmaagreatdoor", sum := "32d98a7dddf2be67198155abb7d261339f3c5dc2475968239014555432a5e3ca", func := "burgess/burgesslaw12.LsmQuiet", spec := "lsmQuiet", inPlace := ["internal/bytealg.MakeNoZero", "internal/bytealg.abigen_runtime_cmpstring"], unfollowed := true, recurses := true, named := ["internal/strconv.uint64pow10", "math/bits.deBruijn32tab", "math/bits.deBruijn64tab"], plainKeys := false, apart := false, laid := [("math/bits.deBruijn32tab", laid_math_bits_deBruijn32tab), ("math/bits.deBruijn64tab", laid_math_bits_deBruijn64tab), ("internal/strconv.uint64pow10", laid_internal_strconv_uint64pow10)], narrowed := true }
def LsmQuietUptoSaid : Prop := lsmQuietUptoRow.holds Tryz.pinned (OpenSpec.upto lsmQuietSpec)

/-- 'burgesslaw12.LsmSplits', WHERE WHAT IT READS IS OF BULK AT MOST 1048576: true; the input reads as it did. -/
def lsmSplitsUptoRow : OpenClaim := { program := "ytiooodckiddpmaagreatdoor", sum := "32d98a7dddf2be67198155abb7d261339f3c5dc2475968239014555432a5e3ca", func := "burgess/burgesslaw12.LsmSplits", spec := "lsmSplits", inPlace := ["internal/bytealg.MakeNoZero", "internal/bytealg.abigen_runtime_cmpstring"], unfollowed := true, recurses := true, named := ["internal/strconv.uint64pow10", "math/bits.deBruijn32tab", "math/bits.deBruijn64tab"], plainKeys := false, apart := false, laid := [("math/bits.deBruijn32tab", laid_math_bits_deBruijn32tab), ("math/bits.deBruijn64tab", laid_math_bits_deBruijn64tab), ("internal/strconv.uint64pow10", laid_internal_strconv_uint64pow10)], narrowed := true }
def LsmSplitsUptoSaid : Prop := lsmSplitsUptoRow.holds Tryz.pinned (OpenSpec.upto lsmSplitsSpec)

/-- 'burgesslaw12.LsmGone', WHERE WHAT IT READS IS OF BULK AT MOST 1048576: true; the input reads as it did. -/
def lsmGoneUptoRow : OpenClaim := { program := "ytiooodckiddpmaagreatdoor", sum := "32d98a7dddf2be67198155abb7d261339f3c5dc2475968239014555432a5e3ca", func := "burgess/burgesslaw12.LsmGone", spec := "lsmGone", inPlace := ["internal/bytealg.MakeNoZero", "internal/bytealg.abigen_runtime_cmpstring"], unfollowed := true, recurses := true, named := ["internal/strconv.uint64pow10", "math/bits.deBruijn32tab", "math/bits.deBruijn64tab"], plainKeys := false, apart := false, laid := [("math/bits.deBruijn32tab", laid_math_bits_deBruijn32tab), ("math/bits.deBruijn64tab", laid_math_bits_deBruijn64tab), ("internal/strconv.uint64pow10", laid_internal_strconv_uint64pow10)], narrowed := true }
def LsmGoneUptoSaid : Prop := lsmGoneUptoRow.holds Tryz.pinned (OpenSpec.upto lsmGoneSpec)

/-- 'burgesslaw12.LsmOfNothing', WHERE WHAT IT READS IS OF BULK AT MOST 1048576: true; the input reads as it did. -/
def lsmOfNothingUptoRow : OpenClaim := { program := "ytiooodckiddpmaagreatdoor", sum := "32d98a7dddf2be67198155abb7d261339f3c5dc2475968239014555432a5e3ca", func := "burgess/burgesslaw12.LsmOfNothing", spec := "lsmOfNothing", inPlace := ["internal/bytealg.MakeNoZero", "internal/bytealg.abigen_runtime_cmpstring"], unfollowed := true, recurses := true, named := ["internal/strconv.uint64pow10", "math/bits.deBruijn32tab", "math/bits.deBruijn64tab"], plainKeys := false, apart := false, laid := [("math/bits.deBruijn32tab", laid_math_bits_deBruijn32tab), ("math/bits.deBruijn64tab", laid_math_bits_deBruijn64tab), ("internal/strconv.uint64pow10", laid_internal_strconv_uint64pow10)], narrowed := true }
def LsmOfNothingUptoSaid : Prop := lsmOfNothingUptoRow.holds Tryz.pinned (OpenSpec.upto lsmOfNothingSpec)

end Rows
end Go.Proofs.YtiooodckiddpmaaGreatDoor
