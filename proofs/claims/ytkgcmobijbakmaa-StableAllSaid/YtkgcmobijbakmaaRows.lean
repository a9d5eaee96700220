/-
  No cell of these rows narrows 'for every input' (looked for: loops, veiled, ifaces, maps, wideKeys, modest, calm, conditions, laid).
  DERIVED. THE GIVEN ROWS OF THIS SEAT. 12 by the template 'for every input the law returns true; each argument reads behind the call as it read before'; 0 by the template 'total and deterministic' (their statements: YtkgcmobijbakmaaTotals.lean).
  GIVEN WITH THE SEED: the statements are not yours to turn. If you find one false, say at which input.
  Laid BY PROGRAM, IN A SANDBOX (cutbox-rows.mjs): the forced cells as the released guide's own fill.sh prints them over the translation 9fef81a5a77744b5… (all of the seat's roots in one cut). By AI agents, Wed Nov 11 2026. No macro, syntax, notation, axiom, sorry.
-/
import Derived.Test.YtkgcmobijbakmaaChecked
import GoSem.Claim
import GoSem.ClaimJoined
import GoSem.ClaimMapViews
import Derived.JoinedTies
import Derived.KernelRfl
namespace Go.Proofs.Ytkgcmobijbakmaa
/- THE CELL 'sum', in the pinned program and in every row, IS THE sha256 OF THE DUMP (.gsa) THAT YtkgcmobijbakmaaProg.lean LOADS. Nothing in Lean hashes anything: it is a label: what it is worth is what the hold of that sum in a sandbox is worth. -/
noncomputable def Try.pinned : Pinned := { name := "ytkgcmobijbakmaa", sum := "9fef81a5a77744b5146fbde538d38141fac72c278d3d86cb63121b8c54083ac6", checked := Try.checked }
namespace Rows
def none {H : Type} : Left H := { results := [], args := [] }

/-- 'curfewlaw12.EntryMay': WHATEVER THE INPUT: true; the input reads as it did. -/
def entryMaySpec : ChangeSpec := { name := "entryMay", fn := fun _ => fun
  | [d1, d2] => { results := [.lit (.bool true)], args := [d1, d2] }
  | _ => none }
def entryMayRow : OpenClaim := { program := "ytkgcmobijbakmaa", sum := "9fef81a5a77744b5146fbde538d38141fac72c278d3d86cb63121b8c54083ac6", func := "curfew/curfewlaw12.EntryMay", spec := "entryMay", apart := false }
def EntryMaySaid : Prop := entryMayRow.holds Try.pinned (OpenSpec.ofChange entryMaySpec)

/-- ITS FALSE NEIGHBOUR: 'it returns false'. Refute it at one input. -/
def entryMayWrong : ChangeSpec := { name := "entryMay", fn := fun _ => fun
  | [d1, d2] => { results := [.lit (.bool false)], args := [d1, d2] }
  | _ => none }
def EntryMayWrongFalsely : Prop := entryMayRow.holds Try.pinned (OpenSpec.ofChange entryMayWrong)

/-- 'curfewlaw12.EntryBytes': WHATEVER THE INPUT: true; the input reads as it did. -/
def entryBytesSpec : ChangeSpec := { name := "entryBytes", fn := fun _ => fun
  | [d1, d2, d3] => { results := [.lit (.bool true)], args := [d1, d2, d3] }
  | _ => none }
def entryBytesRow : OpenClaim := { program := "ytkgcmobijbakmaa", sum := "9fef81a5a77744b5146fbde538d38141fac72c278d3d86cb63121b8c54083ac6", func := "curfew/curfewlaw12.EntryBytes", spec := "entryBytes", apart := false }
def EntryBytesSaid : Prop := entryBytesRow.holds Try.pinned (OpenSpec.ofChange entryBytesSpec)

/-- ITS FALSE NEIGHBOUR: 'it returns false'. Refute it at one input. -/
def entryBytesWrong : ChangeSpec := { name := "entryBytes", fn := fun _ => fun
  | [d1, d2, d3] => { results := [.lit (.bool false)], args := [d1, d2, d3] }
  | _ => none }
def EntryBytesWrongFalsely : Prop := entryBytesRow.holds Try.pinned (OpenSpec.ofChange entryBytesWrong)

/-- 'curfewlaw12.EntryAny': WHATEVER THE INPUT: true; the input reads as it did. -/
def entryAnySpec : ChangeSpec := { name := "entryAny", fn := fun _ => fun
  | [d] => { results := [.lit (.bool true)], args := [d] }
  | _ => none }
def entryAnyRow : OpenClaim := { program := "ytkgcmobijbakmaa", sum := "9fef81a5a77744b5146fbde538d38141fac72c278d3d86cb63121b8c54083ac6", func := "curfew/curfewlaw12.EntryAny", spec := "entryAny", apart := false }
def EntryAnySaid : Prop := entryAnyRow.holds Try.pinned (OpenSpec.ofChange entryAnySpec)

/-- ITS FALSE NEIGHBOUR: 'it returns false'. Refute it at one input. -/
def entryAnyWrong : ChangeSpec := { name := "entryAny", fn := fun _ => fun
  | [d] => { results := [.lit (.bool false)], args := [d] }
  | _ => none }
def EntryAnyWrongFalsely : Prop := entryAnyRow.holds Try.pinned (OpenSpec.ofChange entryAnyWrong)

/-- 'curfewlaw12.EntryTwins': WHATEVER THE INPUT: true; the input reads as it did. -/
def entryTwinsSpec : ChangeSpec := { name := "entryTwins", fn := fun _ => fun
  | [d1, d2] => { results := [.lit (.bool true)], args := [d1, d2] }
  | _ => none }
def entryTwinsRow : OpenClaim := { program := "ytkgcmobijbakmaa", sum := "9fef81a5a77744b5146fbde538d38141fac72c278d3d86cb63121b8c54083ac6", func := "curfew/curfewlaw12.EntryTwins", spec := "entryTwins", apart := false }
def EntryTwinsSaid : Prop := entryTwinsRow.holds Try.pinned (OpenSpec.ofChange entryTwinsSpec)

/-- ITS FALSE NEIGHBOUR: 'it returns false'. Refute it at one input. -/
def entryTwinsWrong : ChangeSpec := { name := "entryTwins", fn := fun _ => fun
  | [d1, d2] => { results := [.lit (.bool false)], args := [d1, d2] }
  | _ => none }
def EntryTwinsWrongFalsely : Prop := entryTwinsRow.holds Try.pinned (OpenSpec.ofChange entryTwinsWrong)

/-- 'curfewlaw12.EntrySame': WHATEVER THE INPUT: true; the input reads as it did. -/
def entrySameSpec : ChangeSpec := { name := "entrySame", fn := fun _ => fun
  | [d1, d2, d3, d4, d5] => { results := [.lit (.bool true)], args := [d1, d2, d3, d4, d5] }
  | _ => none }
def entrySameRow : OpenClaim := { program := "ytkgcmobijbakmaa", sum := "9fef81a5a77744b5146fbde538d38141fac72c278d3d86cb63121b8c54083ac6", func := "curfew/curfewlaw12.EntrySame", spec := "entrySame", apart := false }
def EntrySameSaid : Prop := entrySameRow.holds Try.pinned (OpenSpec.ofChange entrySameSpec)

/-- ITS FALSE NEIGHBOUR: 'it returns false'. Refute it at one input. -/
def entrySameWrong : ChangeSpec := { name := "entrySame", fn := fun _ => fun
  | [d1, d2, d3, d4, d5] => { results := [.lit (.bool false)], args := [d1, d2, d3, d4, d5] }
  | _ => none }
def EntrySameWrongFalsely : Prop := entrySameRow.holds Try.pinned (OpenSpec.ofChange entrySameWrong)

/-- 'curfewlaw12.EntryJoin': WHATEVER THE INPUT: true; the input reads as it did. -/
def entryJoinSpec : ChangeSpec := { name := "entryJoin", fn := fun _ => fun
  | [d1, d2] => { results := [.lit (.bool true)], args := [d1, d2] }
  | _ => none }
def entryJoinRow : OpenClaim := { program := "ytkgcmobijbakmaa", sum := "9fef81a5a77744b5146fbde538d38141fac72c278d3d86cb63121b8c54083ac6", func := "curfew/curfewlaw12.EntryJoin", spec := "entryJoin", apart := false }
def EntryJoinSaid : Prop := entryJoinRow.holds Try.pinned (OpenSpec.ofChange entryJoinSpec)

/-- ITS FALSE NEIGHBOUR: 'it returns false'. Refute it at one input. -/
def entryJoinWrong : ChangeSpec := { name := "entryJoin", fn := fun _ => fun
  | [d1, d2] => { results := [.lit (.bool false)], args := [d1, d2] }
  | _ => none }
def EntryJoinWrongFalsely : Prop := entryJoinRow.holds Try.pinned (OpenSpec.ofChange entryJoinWrong)

/-- 'curfewlaw19.StableAll': WHATEVER THE INPUT: true; the input reads as it did. -/
def stableAllSpec : ChangeSpec := { name := "stableAll", fn := fun _ => fun
  | [d1, d2] => { results := [.lit (.bool true)], args := [d1, d2] }
  | _ => none }
def stableAllRow : OpenClaim := { program := "ytkgcmobijbakmaa", sum := "9fef81a5a77744b5146fbde538d38141fac72c278d3d86cb63121b8c54083ac6", func := "curfew/curfewlaw19.StableAll", spec := "stableAll", apart := false }
def StableAllSaid : Prop := stableAllRow.holds Try.pinned (OpenSpec.ofChange stableAllSpec)

/-- ITS FALSE NEIGHBOUR: 'it returns false'. Refute it at one input. -/
def stableAllWrong : ChangeSpec := { name := "stableAll", fn := fun _ => fun
  | [d1, d2] => { results := [.lit (.bool false)], args := [d1, d2] }
  | _ => none }
def StableAllWrongFalsely : Prop := stableAllRow.holds Try.pinned (OpenSpec.ofChange stableAllWrong)

/-- 'curfewlaw19.StableRead': WHATEVER THE INPUT: true; the input reads as it did. -/
def stableReadSpec : ChangeSpec := { name := "stableRead", fn := fun _ => fun
  | [d1, d2, d3, d4, d5] => { results := [.lit (.bool true)], args := [d1, d2, d3, d4, d5] }
  | _ => none }
def stableReadRow : OpenClaim := { program := "ytkgcmobijbakmaa", sum := "9fef81a5a77744b5146fbde538d38141fac72c278d3d86cb63121b8c54083ac6", func := "curfew/curfewlaw19.StableRead", spec := "stableRead", apart := false }
def StableReadSaid : Prop := stableReadRow.holds Try.pinned (OpenSpec.ofChange stableReadSpec)

/-- ITS FALSE NEIGHBOUR: 'it returns false'. Refute it at one input. -/
def stableReadWrong : ChangeSpec := { name := "stableRead", fn := fun _ => fun
  | [d1, d2, d3, d4, d5] => { results := [.lit (.bool false)], args := [d1, d2, d3, d4, d5] }
  | _ => none }
def StableReadWrongFalsely : Prop := stableReadRow.holds Try.pinned (OpenSpec.ofChange stableReadWrong)

/-- 'curfewlaw19.StableEnd': WHATEVER THE INPUT: true; the input reads as it did. -/
def stableEndSpec : ChangeSpec := { name := "stableEnd", fn := fun _ => fun
  | [d] => { results := [.lit (.bool true)], args := [d] }
  | _ => none }
def stableEndRow : OpenClaim := { program := "ytkgcmobijbakmaa", sum := "9fef81a5a77744b5146fbde538d38141fac72c278d3d86cb63121b8c54083ac6", func := "curfew/curfewlaw19.StableEnd", spec := "stableEnd", apart := false }
def StableEndSaid : Prop := stableEndRow.holds Try.pinned (OpenSpec.ofChange stableEndSpec)

/-- ITS FALSE NEIGHBOUR: 'it returns false'. Refute it at one input. -/
def stableEndWrong : ChangeSpec := { name := "stableEnd", fn := fun _ => fun
  | [d] => { results := [.lit (.bool false)], args := [d] }
  | _ => none }
def StableEndWrongFalsely : Prop := stableEndRow.holds Try.pinned (OpenSpec.ofChange stableEndWrong)

/-- 'curfewlaw19.StableNone': WHATEVER THE INPUT: true; the input reads as it did. -/
def stableNoneSpec : ChangeSpec := { name := "stableNone", fn := fun _ => fun
  | [] => { results := [.lit (.bool true)], args := [] }
  | _ => none }
def stableNoneRow : OpenClaim := { program := "ytkgcmobijbakmaa", sum := "9fef81a5a77744b5146fbde538d38141fac72c278d3d86cb63121b8c54083ac6", func := "curfew/curfewlaw19.StableNone", spec := "stableNone", apart := false }
def StableNoneSaid : Prop := stableNoneRow.holds Try.pinned (OpenSpec.ofChange stableNoneSpec)

/-- ITS FALSE NEIGHBOUR: 'it returns false'. Refute it at one input. -/
def stableNoneWrong : ChangeSpec := { name := "stableNone", fn := fun _ => fun
  | [] => { results := [.lit (.bool false)], args := [] }
  | _ => none }
def StableNoneWrongFalsely : Prop := stableNoneRow.holds Try.pinned (OpenSpec.ofChange stableNoneWrong)

/-- 'curfewlaw19.StableRise': WHATEVER THE INPUT: true; the input reads as it did. -/
def stableRiseSpec : ChangeSpec := { name := "stableRise", fn := fun _ => fun
  | [d] => { results := [.lit (.bool true)], args := [d] }
  | _ => none }
def stableRiseRow : OpenClaim := { program := "ytkgcmobijbakmaa", sum := "9fef81a5a77744b5146fbde538d38141fac72c278d3d86cb63121b8c54083ac6", func := "curfew/curfewlaw19.StableRise", spec := "stableRise", apart := false }
def StableRiseSaid : Prop := stableRiseRow.holds Try.pinned (OpenSpec.ofChange stableRiseSpec)

/-- ITS FALSE NEIGHBOUR: 'it returns false'. Refute it at one input. -/
def stableRiseWrong : ChangeSpec := { name := "stableRise", fn := fun _ => fun
  | [d] => { results := [.lit (.bool false)], args := [d] }
  | _ => none }
def StableRiseWrongFalsely : Prop := stableRiseRow.holds Try.pinned (OpenSpec.ofChange stableRiseWrong)

/-- 'curfewlaw19.StableTwins': WHATEVER THE INPUT: true; the input reads as it did. -/
def stableTwinsSpec : ChangeSpec := { name := "stableTwins", fn := fun _ => fun
  | [d1, d2, d3, d4] => { results := [.lit (.bool true)], args := [d1, d2, d3, d4] }
  | _ => none }
def stableTwinsRow : OpenClaim := { program := "ytkgcmobijbakmaa", sum := "9fef81a5a77744b5146fbde538d38141fac72c278d3d86cb63121b8c54083ac6", func := "curfew/curfewlaw19.StableTwins", spec := "stableTwins", apart := false }
def StableTwinsSaid : Prop := stableTwinsRow.holds Try.pinned (OpenSpec.ofChange stableTwinsSpec)

/-- ITS FALSE NEIGHBOUR: 'it returns false'. Refute it at one input. -/
def stableTwinsWrong : ChangeSpec := { name := "stableTwins", fn := fun _ => fun
  | [d1, d2, d3, d4] => { results := [.lit (.bool false)], args := [d1, d2, d3, d4] }
  | _ => none }
def StableTwinsWrongFalsely : Prop := stableTwinsRow.holds Try.pinned (OpenSpec.ofChange stableTwinsWrong)

/- THE SECOND FORM. 'bulk': how many values and letters a reading holds, each counted each time it is reached (what is shared counts as often as it is met; a slice's spare places count too). A statement '..UptoSaid' is the law's where the arguments, and the package variables that the reading takes, are together of bulk at most 1048576: NARROWER than '..Said'. Prove '..Said' where nothing that the law and all that it calls make is longer than what came in: it says more and counts as full. Else prove '..UptoSaid'. A law counts once. -/
mutual
def uptoBulk {H : Type} : DataW H → Nat
  | .lit (.string bytes) => bytes.length + 1
  | .lit _ => 1
  | .nil => 1
  | .ptr d => uptoBulk d + 1
  | .slice elems spare => uptoBulkAll elems + uptoBulkAll spare + 1
  | .agg parts => uptoBulkAll parts + 1
  | .iface _ d => uptoBulk d + 1
  | .map entries => uptoBulkEntries entries + 1
  | .held _ => 1
def uptoBulkAll {H : Type} : List (DataW H) → Nat
  | [] => 0
  | d :: r => uptoBulk d + uptoBulkAll r
def uptoBulkEntries {H : Type} : List (Lit × DataW H) → Nat
  | [] => 0
  | x :: r => uptoBulkEntry x + uptoBulkEntries r
def uptoBulkEntry {H : Type} : Lit × DataW H → Nat
  | (.string bytes, d) => bytes.length + uptoBulk d + 1
  | (_, d) => uptoBulk d + 1
 end
def uptoSmall : (H : Type) → List (DataW H) → Bool := fun _ ds => decide (uptoBulkAll ds ≤ 1048576)
def OpenSpec.upto (s : _root_.Go.ChangeSpec) : _root_.Go.OpenSpec := { _root_.Go.OpenSpec.ofChange s with cond := some uptoSmall }

/-- 'curfewlaw12.EntryMay', WHERE WHAT IT READS IS OF BULK AT MOST 1048576: true; the input reads as it did. -/
def entryMayUptoRow : OpenClaim := { program := "ytkgcmobijbakmaa", sum := "9fef81a5a77744b5146fbde538d38141fac72c278d3d86cb63121b8c54083ac6", func := "curfew/curfewlaw12.EntryMay", spec := "entryMay", apart := false, narrowed := true }
def EntryMayUptoSaid : Prop := entryMayUptoRow.holds Try.pinned (OpenSpec.upto entryMaySpec)

/-- 'curfewlaw12.EntryBytes', WHERE WHAT IT READS IS OF BULK AT MOST 1048576: true; the input reads as it did. -/
def entryBytesUptoRow : OpenClaim := { program := "ytkgcmobijbakmaa", sum := "9fef81a5a77744b5146fbde538d38141fac72c278d3d86cb63121b8c54083ac6", func := "curfew/curfewlaw12.EntryBytes", spec := "entryBytes", apart := false, narrowed := true }
def EntryBytesUptoSaid : Prop := entryBytesUptoRow.holds Try.pinned (OpenSpec.upto entryBytesSpec)

/-- 'curfewlaw12.EntryAny', WHERE WHAT IT READS IS OF BULK AT MOST 1048576: true; the input reads as it did. -/
def entryAnyUptoRow : OpenClaim := { program := "ytkgcmobijbakmaa", sum := "9fef81a5a77744b5146fbde538d38141fac72c278d3d86cb63121b8c54083ac6", func := "curfew/curfewlaw12.EntryAny", spec := "entryAny", apart := false, narrowed := true }
def EntryAnyUptoSaid : Prop := entryAnyUptoRow.holds Try.pinned (OpenSpec.upto entryAnySpec)

/-- 'curfewlaw12.EntryTwins', WHERE WHAT IT READS IS OF BULK AT MOST 1048576: true; the input reads as it did. -/
def entryTwinsUptoRow : OpenClaim := { program := "ytkgcmobijbakmaa", sum := "9fef81a5a77744b5146fbde538d38141fac72c278d3d86cb63121b8c54083ac6", func := "curfew/curfewlaw12.EntryTwins", spec := "entryTwins", apart := false, narrowed := true }
def EntryTwinsUptoSaid : Prop := entryTwinsUptoRow.holds Try.pinned (OpenSpec.upto entryTwinsSpec)

/-- 'curfewlaw12.EntrySame', WHERE WHAT IT READS IS OF BULK AT MOST 1048576: true; the input reads as it did. -/
def entrySameUptoRow : OpenClaim := { program := "ytkgcmobijbakmaa", sum := "9fef81a5a77744b5146fbde538d38141fac72c278d3d86cb63121b8c54083ac6", func := "curfew/curfewlaw12.EntrySame", spec := "entrySame", apart := false, narrowed := true }
def EntrySameUptoSaid : Prop := entrySameUptoRow.holds Try.pinned (OpenSpec.upto entrySameSpec)

/-- 'curfewlaw12.EntryJoin', WHERE WHAT IT READS IS OF BULK AT MOST 1048576: true; the input reads as it did. -/
def entryJoinUptoRow : OpenClaim := { program := "ytkgcmobijbakmaa", sum := "9fef81a5a77744b5146fbde538d38141fac72c278d3d86cb63121b8c54083ac6", func := "curfew/curfewlaw12.EntryJoin", spec := "entryJoin", apart := false, narrowed := true }
def EntryJoinUptoSaid : Prop := entryJoinUptoRow.holds Try.pinned (OpenSpec.upto entryJoinSpec)

/-- 'curfewlaw19.StableAll', WHERE WHAT IT READS IS OF BULK AT MOST 1048576: true; the input reads as it did. -/
def stableAllUptoRow : OpenClaim := { program := "ytkgcmobijbakmaa", sum := "9fef81a5a77744b5146fbde538d38141fac72c278d3d86cb63121b8c54083ac6", func := "curfew/curfewlaw19.StableAll", spec := "stableAll", apart := false, narrowed := true }
def StableAllUptoSaid : Prop := stableAllUptoRow.holds Try.pinned (OpenSpec.upto stableAllSpec)

/-- 'curfewlaw19.StableRead', WHERE WHAT IT READS IS OF BULK AT MOST 1048576: true; the input reads as it did. -/
def stableReadUptoRow : OpenClaim := { program := "ytkgcmobijbakmaa", sum := "9fef81a5a77744b5146fbde538d38141fac72c278d3d86cb63121b8c54083ac6", func := "curfew/curfewlaw19.StableRead", spec := "stableRead", apart := false, narrowed := true }
def StableReadUptoSaid : Prop := stableReadUptoRow.holds Try.pinned (OpenSpec.upto stableReadSpec)

/-- 'curfewlaw19.StableEnd', WHERE WHAT IT READS IS OF BULK AT MOST 1048576: true; the input reads as it did. -/
def stableEndUptoRow : OpenClaim := { program := "ytkgcmobijbakmaa", sum := "9fef81a5a77744b5146fbde538d38141fac72c278d3d86cb63121b8c54083ac6", func := "curfew/curfewlaw19.StableEnd", spec := "stableEnd", apart := false, narrowed := true }
def StableEndUptoSaid : Prop := stableEndUptoRow.holds Try.pinned (OpenSpec.upto stableEndSpec)

/-- 'curfewlaw19.StableNone', WHERE WHAT IT READS IS OF BULK AT MOST 1048576: true; the input reads as it did. -/
def stableNoneUptoRow : OpenClaim := { program := "ytkgcmobijbakmaa", sum := "9fef81a5a77744b5146fbde538d38141fac72c278d3d86cb63121b8c54083ac6", func := "curfew/curfewlaw19.StableNone", spec := "stableNone", apart := false, narrowed := true }
def StableNoneUptoSaid : Prop := stableNoneUptoRow.holds Try.pinned (OpenSpec.upto stableNoneSpec)

/-- 'curfewlaw19.StableRise', WHERE WHAT IT READS IS OF BULK AT MOST 1048576: true; the input reads as it did. -/
def stableRiseUptoRow : OpenClaim := { program := "ytkgcmobijbakmaa", sum := "9fef81a5a77744b5146fbde538d38141fac72c278d3d86cb63121b8c54083ac6", func := "curfew/curfewlaw19.StableRise", spec := "stableRise", apart := false, narrowed := true }
def StableRiseUptoSaid : Prop := stableRiseUptoRow.holds Try.pinned (OpenSpec.upto stableRiseSpec)

/-- 'curfewlaw19.StableTwins', WHERE WHAT IT READS IS OF BULK AT MOST 1048576: true; the input reads as it did. -/
def stableTwinsUptoRow : OpenClaim := { program := "ytkgcmobijbakmaa", sum := "9fef81a5a77744b5146fbde538d38141fac72c278d3d86cb63121b8c54083ac6", func := "curfew/curfewlaw19.StableTwins", spec := "stableTwins", apart := false, narrowed := true }
def StableTwinsUptoSaid : Prop := stableTwinsUptoRow.holds Try.pinned (OpenSpec.upto stableTwinsSpec)

end Rows
end Go.Proofs.Ytkgcmobijbakmaa
