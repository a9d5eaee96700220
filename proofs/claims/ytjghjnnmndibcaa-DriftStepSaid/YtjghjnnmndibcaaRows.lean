/-
  No cell of these rows narrows 'for every input' (looked for: loops, veiled, ifaces, maps, wideKeys, modest, calm, conditions, laid).
  DERIVED. THE GIVEN ROWS OF THIS SEAT. 9 by the template 'for every input the law returns true; each argument reads behind the call as it read before'; 0 by the template 'total and deterministic' (their statements: YtjghjnnmndibcaaTotals.lean).
  GIVEN WITH THE SEED: the statements are not yours to turn. If you find one false, say at which input.
  Laid BY PROGRAM, IN A SANDBOX (cutbox-rows.mjs): the forced cells as the released guide's own fill.sh prints them over the translation 312e18ad197e3185… (all of the seat's roots in one cut). By AI agents, Wed Nov 11 2026. No macro, syntax, notation, axiom, sorry.
-/
import Derived.Test.YtjghjnnmndibcaaChecked
import GoSem.Claim
import GoSem.ClaimJoined
import GoSem.ClaimMapViews
import Derived.JoinedTies
import Derived.KernelRfl
namespace Go.Proofs.Ytjghjnnmndibcaa
/- THE CELL 'sum', in the pinned program and in every row, IS THE sha256 OF THE DUMP (.gsa) THAT YtjghjnnmndibcaaProg.lean LOADS. Nothing in Lean hashes anything: it is a label: what it is worth is what the hold of that sum in a sandbox is worth. -/
noncomputable def Try.pinned : Pinned := { name := "ytjghjnnmndibcaa", sum := "312e18ad197e31856680f0b3fed4c6fc0dc93d1065155dcc9ebb148678aac83c", checked := Try.checked }
namespace Rows
def none {H : Type} : Left H := { results := [], args := [] }

/-- 'curfewlaw11.TideAll': WHATEVER THE INPUT: true; the input reads as it did. -/
def tideAllSpec : ChangeSpec := { name := "tideAll", fn := fun _ => fun
  | [d1, d2] => { results := [.lit (.bool true)], args := [d1, d2] }
  | _ => none }
def tideAllRow : OpenClaim := { program := "ytjghjnnmndibcaa", sum := "312e18ad197e31856680f0b3fed4c6fc0dc93d1065155dcc9ebb148678aac83c", func := "curfew/curfewlaw11.TideAll", spec := "tideAll", apart := false }
def TideAllSaid : Prop := tideAllRow.holds Try.pinned (OpenSpec.ofChange tideAllSpec)

/-- ITS FALSE NEIGHBOUR: 'it returns false'. Refute it at one input. -/
def tideAllWrong : ChangeSpec := { name := "tideAll", fn := fun _ => fun
  | [d1, d2] => { results := [.lit (.bool false)], args := [d1, d2] }
  | _ => none }
def TideAllWrongFalsely : Prop := tideAllRow.holds Try.pinned (OpenSpec.ofChange tideAllWrong)

/-- 'curfewlaw11.TideCatches': WHATEVER THE INPUT: true; the input reads as it did. -/
def tideCatchesSpec : ChangeSpec := { name := "tideCatches", fn := fun _ => fun
  | [d] => { results := [.lit (.bool true)], args := [d] }
  | _ => none }
def tideCatchesRow : OpenClaim := { program := "ytjghjnnmndibcaa", sum := "312e18ad197e31856680f0b3fed4c6fc0dc93d1065155dcc9ebb148678aac83c", func := "curfew/curfewlaw11.TideCatches", spec := "tideCatches", apart := false }
def TideCatchesSaid : Prop := tideCatchesRow.holds Try.pinned (OpenSpec.ofChange tideCatchesSpec)

/-- ITS FALSE NEIGHBOUR: 'it returns false'. Refute it at one input. -/
def tideCatchesWrong : ChangeSpec := { name := "tideCatches", fn := fun _ => fun
  | [d] => { results := [.lit (.bool false)], args := [d] }
  | _ => none }
def TideCatchesWrongFalsely : Prop := tideCatchesRow.holds Try.pinned (OpenSpec.ofChange tideCatchesWrong)

/-- 'curfewlaw11.TideNone': WHATEVER THE INPUT: true; the input reads as it did. -/
def tideNoneSpec : ChangeSpec := { name := "tideNone", fn := fun _ => fun
  | [] => { results := [.lit (.bool true)], args := [] }
  | _ => none }
def tideNoneRow : OpenClaim := { program := "ytjghjnnmndibcaa", sum := "312e18ad197e31856680f0b3fed4c6fc0dc93d1065155dcc9ebb148678aac83c", func := "curfew/curfewlaw11.TideNone", spec := "tideNone", apart := false }
def TideNoneSaid : Prop := tideNoneRow.holds Try.pinned (OpenSpec.ofChange tideNoneSpec)

/-- ITS FALSE NEIGHBOUR: 'it returns false'. Refute it at one input. -/
def tideNoneWrong : ChangeSpec := { name := "tideNone", fn := fun _ => fun
  | [] => { results := [.lit (.bool false)], args := [] }
  | _ => none }
def TideNoneWrongFalsely : Prop := tideNoneRow.holds Try.pinned (OpenSpec.ofChange tideNoneWrong)

/-- 'curfewlaw11.TideWithin': WHATEVER THE INPUT: true; the input reads as it did. -/
def tideWithinSpec : ChangeSpec := { name := "tideWithin", fn := fun _ => fun
  | [d1, d2, d3] => { results := [.lit (.bool true)], args := [d1, d2, d3] }
  | _ => none }
def tideWithinRow : OpenClaim := { program := "ytjghjnnmndibcaa", sum := "312e18ad197e31856680f0b3fed4c6fc0dc93d1065155dcc9ebb148678aac83c", func := "curfew/curfewlaw11.TideWithin", spec := "tideWithin", apart := false }
def TideWithinSaid : Prop := tideWithinRow.holds Try.pinned (OpenSpec.ofChange tideWithinSpec)

/-- ITS FALSE NEIGHBOUR: 'it returns false'. Refute it at one input. -/
def tideWithinWrong : ChangeSpec := { name := "tideWithin", fn := fun _ => fun
  | [d1, d2, d3] => { results := [.lit (.bool false)], args := [d1, d2, d3] }
  | _ => none }
def TideWithinWrongFalsely : Prop := tideWithinRow.holds Try.pinned (OpenSpec.ofChange tideWithinWrong)

/-- 'curfewlaw11.TideSlow': WHATEVER THE INPUT: true; the input reads as it did. -/
def tideSlowSpec : ChangeSpec := { name := "tideSlow", fn := fun _ => fun
  | [d1, d2] => { results := [.lit (.bool true)], args := [d1, d2] }
  | _ => none }
def tideSlowRow : OpenClaim := { program := "ytjghjnnmndibcaa", sum := "312e18ad197e31856680f0b3fed4c6fc0dc93d1065155dcc9ebb148678aac83c", func := "curfew/curfewlaw11.TideSlow", spec := "tideSlow", apart := false }
def TideSlowSaid : Prop := tideSlowRow.holds Try.pinned (OpenSpec.ofChange tideSlowSpec)

/-- ITS FALSE NEIGHBOUR: 'it returns false'. Refute it at one input. -/
def tideSlowWrong : ChangeSpec := { name := "tideSlow", fn := fun _ => fun
  | [d1, d2] => { results := [.lit (.bool false)], args := [d1, d2] }
  | _ => none }
def TideSlowWrongFalsely : Prop := tideSlowRow.holds Try.pinned (OpenSpec.ofChange tideSlowWrong)

/-- 'curfewlaw8.DriftAll': WHATEVER THE INPUT: true; the input reads as it did. -/
def driftAllSpec : ChangeSpec := { name := "driftAll", fn := fun _ => fun
  | [d1, d2] => { results := [.lit (.bool true)], args := [d1, d2] }
  | _ => none }
def driftAllRow : OpenClaim := { program := "ytjghjnnmndibcaa", sum := "312e18ad197e31856680f0b3fed4c6fc0dc93d1065155dcc9ebb148678aac83c", func := "curfew/curfewlaw8.DriftAll", spec := "driftAll", apart := false }
def DriftAllSaid : Prop := driftAllRow.holds Try.pinned (OpenSpec.ofChange driftAllSpec)

/-- ITS FALSE NEIGHBOUR: 'it returns false'. Refute it at one input. -/
def driftAllWrong : ChangeSpec := { name := "driftAll", fn := fun _ => fun
  | [d1, d2] => { results := [.lit (.bool false)], args := [d1, d2] }
  | _ => none }
def DriftAllWrongFalsely : Prop := driftAllRow.holds Try.pinned (OpenSpec.ofChange driftAllWrong)

/-- 'curfewlaw8.DriftTrue': WHATEVER THE INPUT: true; the input reads as it did. -/
def driftTrueSpec : ChangeSpec := { name := "driftTrue", fn := fun _ => fun
  | [d1, d2, d3] => { results := [.lit (.bool true)], args := [d1, d2, d3] }
  | _ => none }
def driftTrueRow : OpenClaim := { program := "ytjghjnnmndibcaa", sum := "312e18ad197e31856680f0b3fed4c6fc0dc93d1065155dcc9ebb148678aac83c", func := "curfew/curfewlaw8.DriftTrue", spec := "driftTrue", apart := false }
def DriftTrueSaid : Prop := driftTrueRow.holds Try.pinned (OpenSpec.ofChange driftTrueSpec)

/-- ITS FALSE NEIGHBOUR: 'it returns false'. Refute it at one input. -/
def driftTrueWrong : ChangeSpec := { name := "driftTrue", fn := fun _ => fun
  | [d1, d2, d3] => { results := [.lit (.bool false)], args := [d1, d2, d3] }
  | _ => none }
def DriftTrueWrongFalsely : Prop := driftTrueRow.holds Try.pinned (OpenSpec.ofChange driftTrueWrong)

/-- 'curfewlaw8.DriftFirst': WHATEVER THE INPUT: true; the input reads as it did. -/
def driftFirstSpec : ChangeSpec := { name := "driftFirst", fn := fun _ => fun
  | [d1, d2, d3, d4] => { results := [.lit (.bool true)], args := [d1, d2, d3, d4] }
  | _ => none }
def driftFirstRow : OpenClaim := { program := "ytjghjnnmndibcaa", sum := "312e18ad197e31856680f0b3fed4c6fc0dc93d1065155dcc9ebb148678aac83c", func := "curfew/curfewlaw8.DriftFirst", spec := "driftFirst", apart := false }
def DriftFirstSaid : Prop := driftFirstRow.holds Try.pinned (OpenSpec.ofChange driftFirstSpec)

/-- ITS FALSE NEIGHBOUR: 'it returns false'. Refute it at one input. -/
def driftFirstWrong : ChangeSpec := { name := "driftFirst", fn := fun _ => fun
  | [d1, d2, d3, d4] => { results := [.lit (.bool false)], args := [d1, d2, d3, d4] }
  | _ => none }
def DriftFirstWrongFalsely : Prop := driftFirstRow.holds Try.pinned (OpenSpec.ofChange driftFirstWrong)

/-- 'curfewlaw8.DriftStep': WHATEVER THE INPUT: true; the input reads as it did. -/
def driftStepSpec : ChangeSpec := { name := "driftStep", fn := fun _ => fun
  | [d1, d2, d3] => { results := [.lit (.bool true)], args := [d1, d2, d3] }
  | _ => none }
def driftStepRow : OpenClaim := { program := "ytjghjnnmndibcaa", sum := "312e18ad197e31856680f0b3fed4c6fc0dc93d1065155dcc9ebb148678aac83c", func := "curfew/curfewlaw8.DriftStep", spec := "driftStep", apart := false }
def DriftStepSaid : Prop := driftStepRow.holds Try.pinned (OpenSpec.ofChange driftStepSpec)

/-- ITS FALSE NEIGHBOUR: 'it returns false'. Refute it at one input. -/
def driftStepWrong : ChangeSpec := { name := "driftStep", fn := fun _ => fun
  | [d1, d2, d3] => { results := [.lit (.bool false)], args := [d1, d2, d3] }
  | _ => none }
def DriftStepWrongFalsely : Prop := driftStepRow.holds Try.pinned (OpenSpec.ofChange driftStepWrong)

/- THE SECOND FORM. 'bulk': how many values and letters a reading holds, each counted each time it is reached (what is shared counts as often as it is met; a slice's spare places count too). A statement '..UptoSaid' is the law's where the arguments, and the package variables that the reading takes, are together of bulk at most 1048576: NARROWER than '..Said'. Prove '..Said' where nothing that the law and all that it calls make is longer than what came in: it says more and counts as full. Else prove '..UptoSaid'. A law counts once. -/
mutual
def uptoBulk {H : Type} : DataW H → Nat
  | .lit (.string bytes) => bytes.length + 1
  | .lit _ => 1
  | .nil => 1
  | .ptr d => uptoBulk d + 1
  | .slice elems spare => uptoBulkAll elems + uptoBulkAll spare + 1
  | .agg parts => uptoBulkAll parts + 1
  | .iface _ d => uptoBulk d + 1
  | .map entries => uptoBulkEntries entries + 1
  | .held _ => 1
def uptoBulkAll {H : Type} : List (DataW H) → Nat
  | [] => 0
  | d :: r => uptoBulk d + uptoBulkAll r
def uptoBulkEntries {H : Type} : List (Lit × DataW H) → Nat
  | [] => 0
  | x :: r => uptoBulkEntry x + uptoBulkEntries r
def uptoBulkEntry {H : Type} : Lit × DataW H → Nat
  | (.string bytes, d) => bytes.length + uptoBulk d + 1
  | (_, d) => uptoBulk d + 1
 end
def uptoSmall : (H : Type) → List (DataW H) → Bool := fun _ ds => decide (uptoBulkAll ds ≤ 1048576)
def OpenSpec.upto (s : _root_.Go.ChangeSpec) : _root_.Go.OpenSpec := { _root_.Go.OpenSpec.ofChange s with cond := some uptoSmall }

/-- 'curfewlaw11.TideAll', WHERE WHAT IT READS IS OF BULK AT MOST 1048576: true; the input reads as it did. -/
def tideAllUptoRow : OpenClaim := { program := "ytjghjnnmndibcaa", sum := "312e18ad197e31856680f0b3fed4c6fc0dc93d1065155dcc9ebb148678aac83c", func := "curfew/curfewlaw11.TideAll", spec := "tideAll", apart := false, narrowed := true }
def TideAllUptoSaid : Prop := tideAllUptoRow.holds Try.pinned (OpenSpec.upto tideAllSpec)

/-- 'curfewlaw11.TideCatches', WHERE WHAT IT READS IS OF BULK AT MOST 1048576: true; the input reads as it did. -/
def tideCatchesUptoRow : OpenClaim := { program := "ytjghjnnmndibcaa", sum := "312e18ad197e31856680f0b3fed4c6fc0dc93d1065155dcc9ebb148678aac83c", func := "curfew/curfewlaw11.TideCatches", spec := "tideCatches", apart := false, narrowed := true }
def TideCatchesUptoSaid : Prop := tideCatchesUptoRow.holds Try.pinned (OpenSpec.upto tideCatchesSpec)

/-- 'curfewlaw11.TideNone', WHERE WHAT IT READS IS OF BULK AT MOST 1048576: true; the input reads as it did. -/
def tideNoneUptoRow : OpenClaim := { program := "ytjghjnnmndibcaa", sum := "312e18ad197e31856680f0b3fed4c6fc0dc93d1065155dcc9ebb148678aac83c", func := "curfew/curfewlaw11.TideNone", spec := "tideNone", apart := false, narrowed := true }
def TideNoneUptoSaid : Prop := tideNoneUptoRow.holds Try.pinned (OpenSpec.upto tideNoneSpec)

/-- 'curfewlaw11.TideWithin', WHERE WHAT IT READS IS OF BULK AT MOST 1048576: true; the input reads as it did. -/
def tideWithinUptoRow : OpenClaim := { program := "ytjghjnnmndibcaa", sum := "312e18ad197e31856680f0b3fed4c6fc0dc93d1065155dcc9ebb148678aac83c", func := "curfew/curfewlaw11.TideWithin", spec := "tideWithin", apart := false, narrowed := true }
def TideWithinUptoSaid : Prop := tideWithinUptoRow.holds Try.pinned (OpenSpec.upto tideWithinSpec)

/-- 'curfewlaw11.TideSlow', WHERE WHAT IT READS IS OF BULK AT MOST 1048576: true; the input reads as it did. -/
def tideSlowUptoRow : OpenClaim := { program := "ytjghjnnmndibcaa", sum := "312e18ad197e31856680f0b3fed4c6fc0dc93d1065155dcc9ebb148678aac83c", func := "curfew/curfewlaw11.TideSlow", spec := "tideSlow", apart := false, narrowed := true }
def TideSlowUptoSaid : Prop := tideSlowUptoRow.holds Try.pinned (OpenSpec.upto tideSlowSpec)

/-- 'curfewlaw8.DriftAll', WHERE WHAT IT READS IS OF BULK AT MOST 1048576: true; the input reads as it did. -/
def driftAllUptoRow : OpenClaim := { program := "ytjghjnnmndibcaa", sum := "312e18ad197e31856680f0b3fed4c6fc0dc93d1065155dcc9ebb148678aac83c", func := "curfew/curfewlaw8.DriftAll", spec := "driftAll", apart := false, narrowed := true }
def DriftAllUptoSaid : Prop := driftAllUptoRow.holds Try.pinned (OpenSpec.upto driftAllSpec)

/-- 'curfewlaw8.DriftTrue', WHERE WHAT IT READS IS OF BULK AT MOST 1048576: true; the input reads as it did. -/
def driftTrueUptoRow : OpenClaim := { program := "ytjghjnnmndibcaa", sum := "312e18ad197e31856680f0b3fed4c6fc0dc93d1065155dcc9ebb148678aac83c", func := "curfew/curfewlaw8.DriftTrue", spec := "driftTrue", apart := false, narrowed := true }
def DriftTrueUptoSaid : Prop := driftTrueUptoRow.holds Try.pinned (OpenSpec.upto driftTrueSpec)

/-- 'curfewlaw8.DriftFirst', WHERE WHAT IT READS IS OF BULK AT MOST 1048576: true; the input reads as it did. -/
def driftFirstUptoRow : OpenClaim := { program := "ytjghjnnmndibcaa", sum := "312e18ad197e31856680f0b3fed4c6fc0dc93d1065155dcc9ebb148678aac83c", func := "curfew/curfewlaw8.DriftFirst", spec := "driftFirst", apart := false, narrowed := true }
def DriftFirstUptoSaid : Prop := driftFirstUptoRow.holds Try.pinned (OpenSpec.upto driftFirstSpec)

/-- 'curfewlaw8.DriftStep', WHERE WHAT IT READS IS OF BULK AT MOST 1048576: true; the input reads as it did. -/
def driftStepUptoRow : OpenClaim := { program := "ytjghjnnmndibcaa", sum := "312e18ad197e31856680f0b3fed4c6fc0dc93d1065155dcc9ebb148678aac83c", func := "curfew/curfewlaw8.DriftStep", spec := "driftStep", apart := false, narrowed := true }
def DriftStepUptoSaid : Prop := driftStepUptoRow.holds Try.pinned (OpenSpec.upto driftStepSpec)

end Rows
end Go.Proofs.Ytjghjnnmndibcaa
