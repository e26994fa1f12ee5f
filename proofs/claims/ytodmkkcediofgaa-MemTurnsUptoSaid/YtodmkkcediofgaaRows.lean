/-
  No cell of these rows narrows 'for every input' (looked for: loops, veiled, ifaces, maps, wideKeys, modest, calm, conditions, laid).
  DERIVED. THE GIVEN ROWS OF THIS SEAT. 4 by the template 'for every input the law returns true; each argument reads behind the call as it read before'; 0 by the template 'total and deterministic' (their statements: YtodmkkcediofgaaTotals.lean).
  GIVEN WITH THE SEED: the statements are not yours to turn. If you find one false, say at which input.
  Laid BY PROGRAM, IN A SANDBOX (cutbox-rows.mjs): the forced cells as the released guide's own fill.sh prints them over the translation f2af2e0175b2b4b9… (all of the seat's roots in one cut). By AI agents, Wed Nov 11 2026. No macro, syntax, notation, axiom, sorry.
-/
import Derived.Test.YtodmkkcediofgaaChecked
import GoSem.Claim
import GoSem.ClaimJoined
import GoSem.ClaimMapViews
import Derived.JoinedTies
import Derived.KernelRfl
namespace Go.Proofs.Ytodmkkcediofgaa
/- THE CELL 'sum', in the pinned program and in every row, IS THE sha256 OF THE DUMP (.gsa) THAT YtodmkkcediofgaaProg.lean LOADS. Nothing in Lean hashes anything: it is a label: what it is worth is what the hold of that sum in a sandbox is worth. -/
noncomputable def Try.pinned : Pinned := { name := "ytodmkkcediofgaa", sum := "f2af2e0175b2b4b9f12cdc0242b08f2e1d026fd396df883adb5d745ae15aa8ae", checked := Try.checked }
namespace Rows
def none {H : Type} : Left H := { results := [], args := [] }

/-- 'burgesslaw9.MemNewest': WHATEVER THE INPUT: true; the input reads as it did. -/
def memNewestSpec : ChangeSpec := { name := "memNewest", fn := fun _ => fun
  | [d1, d2] => { results := [.lit (.bool true)], args := [d1, d2] }
  | _ => none }
def memNewestRow : OpenClaim := { program := "ytodmkkcediofgaa", sum := "f2af2e0175b2b4b9f12cdc0242b08f2e1d026fd396df883adb5d745ae15aa8ae", func := "burgess/burgesslaw9.MemNewest", spec := "memNewest", apart := false }
def MemNewestSaid : Prop := memNewestRow.holds Try.pinned (OpenSpec.ofChange memNewestSpec)

/-- ITS FALSE NEIGHBOUR: 'it returns false'. Refute it at one input. -/
def memNewestWrong : ChangeSpec := { name := "memNewest", fn := fun _ => fun
  | [d1, d2] => { results := [.lit (.bool false)], args := [d1, d2] }
  | _ => none }
def MemNewestWrongFalsely : Prop := memNewestRow.holds Try.pinned (OpenSpec.ofChange memNewestWrong)

/-- 'burgesslaw9.MemPlays': WHATEVER THE INPUT: true; the input reads as it did. -/
def memPlaysSpec : ChangeSpec := { name := "memPlays", fn := fun _ => fun
  | [d1, d2, d3, d4, d5] => { results := [.lit (.bool true)], args := [d1, d2, d3, d4, d5] }
  | _ => none }
def memPlaysRow : OpenClaim := { program := "ytodmkkcediofgaa", sum := "f2af2e0175b2b4b9f12cdc0242b08f2e1d026fd396df883adb5d745ae15aa8ae", func := "burgess/burgesslaw9.MemPlays", spec := "memPlays", apart := false }
def MemPlaysSaid : Prop := memPlaysRow.holds Try.pinned (OpenSpec.ofChange memPlaysSpec)

/-- ITS FALSE NEIGHBOUR: 'it returns false'. Refute it at one input. -/
def memPlaysWrong : ChangeSpec := { name := "memPlays", fn := fun _ => fun
  | [d1, d2, d3, d4, d5] => { results := [.lit (.bool false)], args := [d1, d2, d3, d4, d5] }
  | _ => none }
def MemPlaysWrongFalsely : Prop := memPlaysRow.holds Try.pinned (OpenSpec.ofChange memPlaysWrong)

/-- 'burgesslaw9.MemTurns': WHATEVER THE INPUT: true; the input reads as it did. -/
def memTurnsSpec : ChangeSpec := { name := "memTurns", fn := fun _ => fun
  | [d1, d2, d3] => { results := [.lit (.bool true)], args := [d1, d2, d3] }
  | _ => none }
def memTurnsRow : OpenClaim := { program := "ytodmkkcediofgaa", sum := "f2af2e0175b2b4b9f12cdc0242b08f2e1d026fd396df883adb5d745ae15aa8ae", func := "burgess/burgesslaw9.MemTurns", spec := "memTurns", apart := false }
def MemTurnsSaid : Prop := memTurnsRow.holds Try.pinned (OpenSpec.ofChange memTurnsSpec)

/-- ITS FALSE NEIGHBOUR: 'it returns false'. Refute it at one input. -/
def memTurnsWrong : ChangeSpec := { name := "memTurns", fn := fun _ => fun
  | [d1, d2, d3] => { results := [.lit (.bool false)], args := [d1, d2, d3] }
  | _ => none }
def MemTurnsWrongFalsely : Prop := memTurnsRow.holds Try.pinned (OpenSpec.ofChange memTurnsWrong)

/-- 'burgesslaw9.MemOfNothing': WHATEVER THE INPUT: true; the input reads as it did. -/
def memOfNothingSpec : ChangeSpec := { name := "memOfNothing", fn := fun _ => fun
  | [d] => { results := [.lit (.bool true)], args := [d] }
  | _ => none }
def memOfNothingRow : OpenClaim := { program := "ytodmkkcediofgaa", sum := "f2af2e0175b2b4b9f12cdc0242b08f2e1d026fd396df883adb5d745ae15aa8ae", func := "burgess/burgesslaw9.MemOfNothing", spec := "memOfNothing", apart := false }
def MemOfNothingSaid : Prop := memOfNothingRow.holds Try.pinned (OpenSpec.ofChange memOfNothingSpec)

/-- ITS FALSE NEIGHBOUR: 'it returns false'. Refute it at one input. -/
def memOfNothingWrong : ChangeSpec := { name := "memOfNothing", fn := fun _ => fun
  | [d] => { results := [.lit (.bool false)], args := [d] }
  | _ => none }
def MemOfNothingWrongFalsely : Prop := memOfNothingRow.holds Try.pinned (OpenSpec.ofChange memOfNothingWrong)

/- THE SECOND FORM. 'bulk': how many values and letters a reading holds, each counted each time it is reached (what is shared counts as often as it is met; a slice's spare places count too). A statement '..UptoSaid' is the law's where the arguments, and the package variables that the reading takes, are together of bulk at most 1048576: NARROWER than '..Said'. Prove '..Said' where nothing that the law and all that it calls make is longer than what came in: it says more and counts as full. Else prove '..UptoSaid'. A law counts once. -/
mutual
def uptoBulk {H : Type} : DataW H → Nat
  | .lit (.string bytes) => bytes.length + 1
  | .lit _ => 1
  | .nil => 1
  | .ptr d => uptoBulk d + 1
  | .slice elems spare => uptoBulkAll elems + uptoBulkAll spare + 1
  | .agg parts => uptoBulkAll parts + 1
  | .iface _ d => uptoBulk d + 1
  | .map entries => uptoBulkEntries entries + 1
  | .held _ => 1
def uptoBulkAll {H : Type} : List (DataW H) → Nat
  | [] => 0
  | d :: r => uptoBulk d + uptoBulkAll r
def uptoBulkEntries {H : Type} : List (Lit × DataW H) → Nat
  | [] => 0
  | x :: r => uptoBulkEntry x + uptoBulkEntries r
def uptoBulkEntry {H : Type} : Lit × DataW H → Nat
  | (.string bytes, d) => bytes.length + uptoBulk d + 1
  | (_, d) => uptoBulk d + 1
 end
def uptoSmall : (H : Type) → List (DataW H) → Bool := fun _ ds => decide (uptoBulkAll ds ≤ 1048576)
def OpenSpec.upto (s : _root_.Go.ChangeSpec) : _root_.Go.OpenSpec := { _root_.Go.OpenSpec.ofChange s with cond := some uptoSmall }

/-- 'burgesslaw9.MemNewest', WHERE WHAT IT READS IS OF BULK AT MOST 1048576: true; the input reads as it did. -/
def memNewestUptoRow : OpenClaim := { program := "ytodmkkcediofgaa", sum := "f2af2e0175b2b4b9f12cdc0242b08f2e1d026fd396df883adb5d745ae15aa8ae", func := "burgess/burgesslaw9.MemNewest", spec := "memNewest", apart := false, narrowed := true }
def MemNewestUptoSaid : Prop := memNewestUptoRow.holds Try.pinned (OpenSpec.upto memNewestSpec)

/-- 'burgesslaw9.MemPlays', WHERE WHAT IT READS IS OF BULK AT MOST 1048576: true; the input reads as it did. -/
def memPlaysUptoRow : OpenClaim := { program := "ytodmkkcediofgaa", sum := "f2af2e0175b2b4b9f12cdc0242b08f2e1d026fd396df883adb5d745ae15aa8ae", func := "burgess/burgesslaw9.MemPlays", spec := "memPlays", apart := false, narrowed := true }
def MemPlaysUptoSaid : Prop := memPlaysUptoRow.holds Try.pinned (OpenSpec.upto memPlaysSpec)

/-- 'burgesslaw9.MemTurns', WHERE WHAT IT READS IS OF BULK AT MOST 1048576: true; the input reads as it did. -/
def memTurnsUptoRow : OpenClaim := { program := "ytodmkkcediofgaa", sum := "f2af2e0175b2b4b9f12cdc0242b08f2e1d026fd396df883adb5d745ae15aa8ae", func := "burgess/burgesslaw9.MemTurns", spec := "memTurns", apart := false, narrowed := true }
def MemTurnsUptoSaid : Prop := memTurnsUptoRow.holds Try.pinned (OpenSpec.upto memTurnsSpec)

/-- 'burgesslaw9.MemOfNothing', WHERE WHAT IT READS IS OF BULK AT MOST 1048576: true; the input reads as it did. -/
def memOfNothingUptoRow : OpenClaim := { program := "ytodmkkcediofgaa", sum := "f2af2e0175b2b4b9f12cdc0242b08f2e1d026fd396df883adb5d745ae15aa8ae", func := "burgess/burgesslaw9.MemOfNothing", spec := "memOfNothing", apart := false, narrowed := true }
def MemOfNothingUptoSaid : Prop := memOfNothingUptoRow.holds Try.pinned (OpenSpec.upto memOfNothingSpec)

end Rows
end Go.Proofs.Ytodmkkcediofgaa
