/-
  No cell of these rows narrows 'for every input' (looked for: loops, veiled, ifaces, maps, wideKeys, modest, calm, conditions, laid).
  DERIVED. THE GIVEN ROWS OF THIS SEAT. 9 by the template 'for every input the law returns true; each argument reads behind the call as it read before'; 0 by the template 'total and deterministic' (their statements: YtpiafeodojooiaaTotals.lean).
  GIVEN WITH THE SEED: the statements are not yours to turn. If you find one false, say at which input.
  Laid BY PROGRAM, IN A SANDBOX (cutbox-rows.mjs): the forced cells as the released guide's own fill.sh prints them over the translation 6c2ef65f2e37e012… (all of the seat's roots in one cut). By AI agents, Wed Nov 11 2026. No macro, syntax, notation, axiom, sorry.
-/
import Derived.Test.YtpiafeodojooiaaChecked
import GoSem.Claim
import GoSem.ClaimJoined
import GoSem.ClaimMapViews
import Derived.JoinedTies
import Derived.KernelRfl
namespace Go.Proofs.Ytpiafeodojooiaa
/- THE CELL 'sum', in the pinned program and in every row, IS THE sha256 OF THE DUMP (.gsa) THAT YtpiafeodojooiaaProg.lean LOADS. Nothing in Lean hashes anything: it is a label: what it is worth is what the hold of that sum in a sandbox is worth. -/
noncomputable def Try.pinned : Pinned := { name := "ytpiafeodojooiaa", sum := "6c2ef65f2e37e01203f938f7794bf16a8e9d2126b8e16152a516e18d95da0dfd", checked := Try.checked }
namespace Rows
def none {H : Type} : Left H := { results := [], args := [] }

/-- 'curfewlaw9.DelayTrue': WHATEVER THE INPUT: true; the input reads as it did. -/
def delayTrueSpec : ChangeSpec := { name := "delayTrue", fn := fun _ => fun
  | [d1, d2, d3, d4, d5, d6, d7, d8] => { results := [.lit (.bool true)], args := [d1, d2, d3, d4, d5, d6, d7, d8] }
  | _ => none }
def delayTrueRow : OpenClaim := { program := "ytpiafeodojooiaa", sum := "6c2ef65f2e37e01203f938f7794bf16a8e9d2126b8e16152a516e18d95da0dfd", func := "curfew/curfewlaw9.DelayTrue", spec := "delayTrue", apart := false }
def DelayTrueSaid : Prop := delayTrueRow.holds Try.pinned (OpenSpec.ofChange delayTrueSpec)

/-- ITS FALSE NEIGHBOUR: 'it returns false'. Refute it at one input. -/
def delayTrueWrong : ChangeSpec := { name := "delayTrue", fn := fun _ => fun
  | [d1, d2, d3, d4, d5, d6, d7, d8] => { results := [.lit (.bool false)], args := [d1, d2, d3, d4, d5, d6, d7, d8] }
  | _ => none }
def DelayTrueWrongFalsely : Prop := delayTrueRow.holds Try.pinned (OpenSpec.ofChange delayTrueWrong)

/-- 'curfewlaw9.DelayMore': WHATEVER THE INPUT: true; the input reads as it did. -/
def delayMoreSpec : ChangeSpec := { name := "delayMore", fn := fun _ => fun
  | [d1, d2, d3] => { results := [.lit (.bool true)], args := [d1, d2, d3] }
  | _ => none }
def delayMoreRow : OpenClaim := { program := "ytpiafeodojooiaa", sum := "6c2ef65f2e37e01203f938f7794bf16a8e9d2126b8e16152a516e18d95da0dfd", func := "curfew/curfewlaw9.DelayMore", spec := "delayMore", apart := false }
def DelayMoreSaid : Prop := delayMoreRow.holds Try.pinned (OpenSpec.ofChange delayMoreSpec)

/-- ITS FALSE NEIGHBOUR: 'it returns false'. Refute it at one input. -/
def delayMoreWrong : ChangeSpec := { name := "delayMore", fn := fun _ => fun
  | [d1, d2, d3] => { results := [.lit (.bool false)], args := [d1, d2, d3] }
  | _ => none }
def DelayMoreWrongFalsely : Prop := delayMoreRow.holds Try.pinned (OpenSpec.ofChange delayMoreWrong)

/-- 'curfewlaw9.DelaySame': WHATEVER THE INPUT: true; the input reads as it did. -/
def delaySameSpec : ChangeSpec := { name := "delaySame", fn := fun _ => fun
  | [d1, d2, d3, d4] => { results := [.lit (.bool true)], args := [d1, d2, d3, d4] }
  | _ => none }
def delaySameRow : OpenClaim := { program := "ytpiafeodojooiaa", sum := "6c2ef65f2e37e01203f938f7794bf16a8e9d2126b8e16152a516e18d95da0dfd", func := "curfew/curfewlaw9.DelaySame", spec := "delaySame", apart := false }
def DelaySameSaid : Prop := delaySameRow.holds Try.pinned (OpenSpec.ofChange delaySameSpec)

/-- ITS FALSE NEIGHBOUR: 'it returns false'. Refute it at one input. -/
def delaySameWrong : ChangeSpec := { name := "delaySame", fn := fun _ => fun
  | [d1, d2, d3, d4] => { results := [.lit (.bool false)], args := [d1, d2, d3, d4] }
  | _ => none }
def DelaySameWrongFalsely : Prop := delaySameRow.holds Try.pinned (OpenSpec.ofChange delaySameWrong)

/-- 'curfewlaw9.DelayDrift': WHATEVER THE INPUT: true; the input reads as it did. -/
def delayDriftSpec : ChangeSpec := { name := "delayDrift", fn := fun _ => fun
  | [d1, d2, d3] => { results := [.lit (.bool true)], args := [d1, d2, d3] }
  | _ => none }
def delayDriftRow : OpenClaim := { program := "ytpiafeodojooiaa", sum := "6c2ef65f2e37e01203f938f7794bf16a8e9d2126b8e16152a516e18d95da0dfd", func := "curfew/curfewlaw9.DelayDrift", spec := "delayDrift", apart := false }
def DelayDriftSaid : Prop := delayDriftRow.holds Try.pinned (OpenSpec.ofChange delayDriftSpec)

/-- ITS FALSE NEIGHBOUR: 'it returns false'. Refute it at one input. -/
def delayDriftWrong : ChangeSpec := { name := "delayDrift", fn := fun _ => fun
  | [d1, d2, d3] => { results := [.lit (.bool false)], args := [d1, d2, d3] }
  | _ => none }
def DelayDriftWrongFalsely : Prop := delayDriftRow.holds Try.pinned (OpenSpec.ofChange delayDriftWrong)

/-- 'curfewlaw4.SpanAll': WHATEVER THE INPUT: true; the input reads as it did. -/
def spanAllSpec : ChangeSpec := { name := "spanAll", fn := fun _ => fun
  | [d1, d2, d3] => { results := [.lit (.bool true)], args := [d1, d2, d3] }
  | _ => none }
def spanAllRow : OpenClaim := { program := "ytpiafeodojooiaa", sum := "6c2ef65f2e37e01203f938f7794bf16a8e9d2126b8e16152a516e18d95da0dfd", func := "curfew/curfewlaw4.SpanAll", spec := "spanAll", apart := false }
def SpanAllSaid : Prop := spanAllRow.holds Try.pinned (OpenSpec.ofChange spanAllSpec)

/-- ITS FALSE NEIGHBOUR: 'it returns false'. Refute it at one input. -/
def spanAllWrong : ChangeSpec := { name := "spanAll", fn := fun _ => fun
  | [d1, d2, d3] => { results := [.lit (.bool false)], args := [d1, d2, d3] }
  | _ => none }
def SpanAllWrongFalsely : Prop := spanAllRow.holds Try.pinned (OpenSpec.ofChange spanAllWrong)

/-- 'curfewlaw4.SpanRound': WHATEVER THE INPUT: true; the input reads as it did. -/
def spanRoundSpec : ChangeSpec := { name := "spanRound", fn := fun _ => fun
  | [d1, d2] => { results := [.lit (.bool true)], args := [d1, d2] }
  | _ => none }
def spanRoundRow : OpenClaim := { program := "ytpiafeodojooiaa", sum := "6c2ef65f2e37e01203f938f7794bf16a8e9d2126b8e16152a516e18d95da0dfd", func := "curfew/curfewlaw4.SpanRound", spec := "spanRound", apart := false }
def SpanRoundSaid : Prop := spanRoundRow.holds Try.pinned (OpenSpec.ofChange spanRoundSpec)

/-- ITS FALSE NEIGHBOUR: 'it returns false'. Refute it at one input. -/
def spanRoundWrong : ChangeSpec := { name := "spanRound", fn := fun _ => fun
  | [d1, d2] => { results := [.lit (.bool false)], args := [d1, d2] }
  | _ => none }
def SpanRoundWrongFalsely : Prop := spanRoundRow.holds Try.pinned (OpenSpec.ofChange spanRoundWrong)

/-- 'curfewlaw4.SpanWithin': WHATEVER THE INPUT: true; the input reads as it did. -/
def spanWithinSpec : ChangeSpec := { name := "spanWithin", fn := fun _ => fun
  | [d1, d2] => { results := [.lit (.bool true)], args := [d1, d2] }
  | _ => none }
def spanWithinRow : OpenClaim := { program := "ytpiafeodojooiaa", sum := "6c2ef65f2e37e01203f938f7794bf16a8e9d2126b8e16152a516e18d95da0dfd", func := "curfew/curfewlaw4.SpanWithin", spec := "spanWithin", apart := false }
def SpanWithinSaid : Prop := spanWithinRow.holds Try.pinned (OpenSpec.ofChange spanWithinSpec)

/-- ITS FALSE NEIGHBOUR: 'it returns false'. Refute it at one input. -/
def spanWithinWrong : ChangeSpec := { name := "spanWithin", fn := fun _ => fun
  | [d1, d2] => { results := [.lit (.bool false)], args := [d1, d2] }
  | _ => none }
def SpanWithinWrongFalsely : Prop := spanWithinRow.holds Try.pinned (OpenSpec.ofChange spanWithinWrong)

/-- 'curfewlaw4.SpanBack': WHATEVER THE INPUT: true; the input reads as it did. -/
def spanBackSpec : ChangeSpec := { name := "spanBack", fn := fun _ => fun
  | [d1, d2] => { results := [.lit (.bool true)], args := [d1, d2] }
  | _ => none }
def spanBackRow : OpenClaim := { program := "ytpiafeodojooiaa", sum := "6c2ef65f2e37e01203f938f7794bf16a8e9d2126b8e16152a516e18d95da0dfd", func := "curfew/curfewlaw4.SpanBack", spec := "spanBack", apart := false }
def SpanBackSaid : Prop := spanBackRow.holds Try.pinned (OpenSpec.ofChange spanBackSpec)

/-- ITS FALSE NEIGHBOUR: 'it returns false'. Refute it at one input. -/
def spanBackWrong : ChangeSpec := { name := "spanBack", fn := fun _ => fun
  | [d1, d2] => { results := [.lit (.bool false)], args := [d1, d2] }
  | _ => none }
def SpanBackWrongFalsely : Prop := spanBackRow.holds Try.pinned (OpenSpec.ofChange spanBackWrong)

/-- 'curfewlaw4.SpanGrows': WHATEVER THE INPUT: true; the input reads as it did. -/
def spanGrowsSpec : ChangeSpec := { name := "spanGrows", fn := fun _ => fun
  | [d1, d2, d3, d4] => { results := [.lit (.bool true)], args := [d1, d2, d3, d4] }
  | _ => none }
def spanGrowsRow : OpenClaim := { program := "ytpiafeodojooiaa", sum := "6c2ef65f2e37e01203f938f7794bf16a8e9d2126b8e16152a516e18d95da0dfd", func := "curfew/curfewlaw4.SpanGrows", spec := "spanGrows", apart := false }
def SpanGrowsSaid : Prop := spanGrowsRow.holds Try.pinned (OpenSpec.ofChange spanGrowsSpec)

/-- ITS FALSE NEIGHBOUR: 'it returns false'. Refute it at one input. -/
def spanGrowsWrong : ChangeSpec := { name := "spanGrows", fn := fun _ => fun
  | [d1, d2, d3, d4] => { results := [.lit (.bool false)], args := [d1, d2, d3, d4] }
  | _ => none }
def SpanGrowsWrongFalsely : Prop := spanGrowsRow.holds Try.pinned (OpenSpec.ofChange spanGrowsWrong)

/- THE SECOND FORM. 'bulk': how many values and letters a reading holds, each counted each time it is reached (what is shared counts as often as it is met; a slice's spare places count too). A statement '..UptoSaid' is the law's where the arguments, and the package variables that the reading takes, are together of bulk at most 1048576: NARROWER than '..Said'. Prove '..Said' where nothing that the law and all that it calls make is longer than what came in: it says more and counts as full. Else prove '..UptoSaid'. A law counts once. -/
mutual
def uptoBulk {H : Type} : DataW H → Nat
  | .lit (.string bytes) => bytes.length + 1
  | .lit _ => 1
  | .nil => 1
  | .ptr d => uptoBulk d + 1
  | .slice elems spare => uptoBulkAll elems + uptoBulkAll spare + 1
  | .agg parts => uptoBulkAll parts + 1
  | .iface _ d => uptoBulk d + 1
  | .map entries => uptoBulkEntries entries + 1
  | .held _ => 1
def uptoBulkAll {H : Type} : List (DataW H) → Nat
  | [] => 0
  | d :: r => uptoBulk d + uptoBulkAll r
def uptoBulkEntries {H : Type} : List (Lit × DataW H) → Nat
  | [] => 0
  | x :: r => uptoBulkEntry x + uptoBulkEntries r
def uptoBulkEntry {H : Type} : Lit × DataW H → Nat
  | (.string bytes, d) => bytes.length + uptoBulk d + 1
  | (_, d) => uptoBulk d + 1
 end
def uptoSmall : (H : Type) → List (DataW H) → Bool := fun _ ds => decide (uptoBulkAll ds ≤ 1048576)
def OpenSpec.upto (s : _root_.Go.ChangeSpec) : _root_.Go.OpenSpec := { _root_.Go.OpenSpec.ofChange s with cond := some uptoSmall }

/-- 'curfewlaw9.DelayTrue', WHERE WHAT IT READS IS OF BULK AT MOST 1048576: true; the input reads as it did. -/
def delayTrueUptoRow : OpenClaim := { program := "ytpiafeodojooiaa", sum := "6c2ef65f2e37e01203f938f7794bf16a8e9d2126b8e16152a516e18d95da0dfd", func := "curfew/curfewlaw9.DelayTrue", spec := "delayTrue", apart := false, narrowed := true }
def DelayTrueUptoSaid : Prop := delayTrueUptoRow.holds Try.pinned (OpenSpec.upto delayTrueSpec)

/-- 'curfewlaw9.DelayMore', WHERE WHAT IT READS IS OF BULK AT MOST 1048576: true; the input reads as it did. -/
def delayMoreUptoRow : OpenClaim := { program := "ytpiafeodojooiaa", sum := "6c2ef65f2e37e01203f938f7794bf16a8e9d2126b8e16152a516e18d95da0dfd", func := "curfew/curfewlaw9.DelayMore", spec := "delayMore", apart := false, narrowed := true }
def DelayMoreUptoSaid : Prop := delayMoreUptoRow.holds Try.pinned (OpenSpec.upto delayMoreSpec)

/-- 'curfewlaw9.DelaySame', WHERE WHAT IT READS IS OF BULK AT MOST 1048576: true; the input reads as it did. -/
def delaySameUptoRow : OpenClaim := { program := "ytpiafeodojooiaa", sum := "6c2ef65f2e37e01203f938f7794bf16a8e9d2126b8e16152a516e18d95da0dfd", func := "curfew/curfewlaw9.DelaySame", spec := "delaySame", apart := false, narrowed := true }
def DelaySameUptoSaid : Prop := delaySameUptoRow.holds Try.pinned (OpenSpec.upto delaySameSpec)

/-- 'curfewlaw9.DelayDrift', WHERE WHAT IT READS IS OF BULK AT MOST 1048576: true; the input reads as it did. -/
def delayDriftUptoRow : OpenClaim := { program := "ytpiafeodojooiaa", sum := "6c2ef65f2e37e01203f938f7794bf16a8e9d2126b8e16152a516e18d95da0dfd", func := "curfew/curfewlaw9.DelayDrift", spec := "delayDrift", apart := false, narrowed := true }
def DelayDriftUptoSaid : Prop := delayDriftUptoRow.holds Try.pinned (OpenSpec.upto delayDriftSpec)

/-- 'curfewlaw4.SpanAll', WHERE WHAT IT READS IS OF BULK AT MOST 1048576: true; the input reads as it did. -/
def spanAllUptoRow : OpenClaim := { program := "ytpiafeodojooiaa", sum := "6c2ef65f2e37e01203f938f7794bf16a8e9d2126b8e16152a516e18d95da0dfd", func := "curfew/curfewlaw4.SpanAll", spec := "spanAll", apart := false, narrowed := true }
def SpanAllUptoSaid : Prop := spanAllUptoRow.holds Try.pinned (OpenSpec.upto spanAllSpec)

/-- 'curfewlaw4.SpanRound', WHERE WHAT IT READS IS OF BULK AT MOST 1048576: true; the input reads as it did. -/
def spanRoundUptoRow : OpenClaim := { program := "ytpiafeodojooiaa", sum := "6c2ef65f2e37e01203f938f7794bf16a8e9d2126b8e16152a516e18d95da0dfd", func := "curfew/curfewlaw4.SpanRound", spec := "spanRound", apart := false, narrowed := true }
def SpanRoundUptoSaid : Prop := spanRoundUptoRow.holds Try.pinned (OpenSpec.upto spanRoundSpec)

/-- 'curfewlaw4.SpanWithin', WHERE WHAT IT READS IS OF BULK AT MOST 1048576: true; the input reads as it did. -/
def spanWithinUptoRow : OpenClaim := { program := "ytpiafeodojooiaa", sum := "6c2ef65f2e37e01203f938f7794bf16a8e9d2126b8e16152a516e18d95da0dfd", func := "curfew/curfewlaw4.SpanWithin", spec := "spanWithin", apart := false, narrowed := true }
def SpanWithinUptoSaid : Prop := spanWithinUptoRow.holds Try.pinned (OpenSpec.upto spanWithinSpec)

/-- 'curfewlaw4.SpanBack', WHERE WHAT IT READS IS OF BULK AT MOST 1048576: true; the input reads as it did. -/
def spanBackUptoRow : OpenClaim := { program := "ytpiafeodojooiaa", sum := "6c2ef65f2e37e01203f938f7794bf16a8e9d2126b8e16152a516e18d95da0dfd", func := "curfew/curfewlaw4.SpanBack", spec := "spanBack", apart := false, narrowed := true }
def SpanBackUptoSaid : Prop := spanBackUptoRow.holds Try.pinned (OpenSpec.upto spanBackSpec)

/-- 'curfewlaw4.SpanGrows', WHERE WHAT IT READS IS OF BULK AT MOST 1048576: true; the input reads as it did. -/
def spanGrowsUptoRow : OpenClaim := { program := "ytpiafeodojooiaa", sum := "6c2ef65f2e37e01203f938f7794bf16a8e9d2126b8e16152a516e18d95da0dfd", func := "curfew/curfewlaw4.SpanGrows", spec := "spanGrows", apart := false, narrowed := true }
def SpanGrowsUptoSaid : Prop := spanGrowsUptoRow.holds Try.pinned (OpenSpec.upto spanGrowsSpec)

end Rows
end Go.Proofs.Ytpiafeodojooiaa
