/-
  No cell of these rows narrows 'for every input' (looked for: loops, veiled, ifaces, maps, wideKeys, modest, calm, conditions, laid).
  DERIVED. THE GIVEN ROWS OF THIS SEAT. 9 by the template 'for every input the law returns true; each argument reads behind the call as it read before'; 0 by the template 'total and deterministic' (their statements: YtjhbmbbmjaabcaaGreatTotals.lean).
  GIVEN WITH THE SEED: the statements are not yours to turn. If you find one false, say at which input.
  Laid BY PROGRAM, IN A SANDBOX (cutbox-rows.mjs): the forced cells as the released guide's own fill.sh prints them over the translation d0b54406d79fed2b… (all of the seat's roots in one cut). By AI agents, Wed Nov 11 2026. No macro, syntax, notation, axiom, sorry.
-/
import Derived.Test.YtjhbmbbmjaabcaaGreatChecked
import GoSem.Claim
import GoSem.ClaimJoined
import GoSem.ClaimMapViews
import Derived.JoinedTies
import Derived.KernelRfl
namespace Go.Proofs.YtjhbmbbmjaabcaaGreat
/- THE CELL 'sum', in the pinned program and in every row, IS THE sha256 OF THE DUMP (.gsa) THAT YtjhbmbbmjaabcaaGreatProg.lean LOADS. Nothing in Lean hashes anything: it is a label: what it is worth is what the hold of that sum in a sandbox is worth. -/
noncomputable def Tryz.pinned : Pinned := { name := "ytjhbmbbmjaabcaagreat", sum := "d0b54406d79fed2b1653dc221eb573c85ea2c9a57e136d67d21473e4fac14b84", checked := Tryz.checked }
namespace Rows
def none {H : Type} : Left H := { results := [], args := [] }

/-- 'curfewtop.TopMost': WHATEVER THE INPUT: true; the input reads as it did. -/
def topMostSpec : ChangeSpec := { name := "topMost", fn := fun _ => fun
  | [d1, d2, d3] => { results := [.lit (.bool true)], args := [d1, d2, d3] }
  | _ => none }
def topMostRow : OpenClaim := { program := "ytjhbmbbmjaabcaagreat", sum := "d0b54406d79fed2b1653dc221eb573c85ea2c9a57e136d67d21473e4fac14b84", func := "curfew/curfewtop.TopMost", spec := "topMost", inPlace := ["internal/bytealg.IndexByteString", "internal/bytealg.IndexString", "sync/atomic.AddInt64"], unfollowed := true, recurses := true, named := ["internal/bytealg.MaxLen"], apart := false }
def TopMostSaid : Prop := topMostRow.holds Tryz.pinned (OpenSpec.ofChange topMostSpec)

/-- ITS FALSE NEIGHBOUR: 'it returns false'. Refute it at one input. -/
def topMostWrong : ChangeSpec := { name := "topMost", fn := fun _ => fun
  | [d1, d2, d3] => { results := [.lit (.bool false)], args := [d1, d2, d3] }
  | _ => none }
def TopMostWrongFalsely : Prop := topMostRow.holds Tryz.pinned (OpenSpec.ofChange topMostWrong)

/-- 'curfewtop.TopHeal': WHATEVER THE INPUT: true; the input reads as it did. -/
def topHealSpec : ChangeSpec := { name := "topHeal", fn := fun _ => fun
  | [d1, d2, d3] => { results := [.lit (.bool true)], args := [d1, d2, d3] }
  | _ => none }
def topHealRow : OpenClaim := { program := "ytjhbmbbmjaabcaagreat", sum := "d0b54406d79fed2b1653dc221eb573c85ea2c9a57e136d67d21473e4fac14b84", func := "curfew/curfewtop.TopHeal", spec := "topHeal", inPlace := ["internal/bytealg.IndexByteString", "internal/bytealg.IndexString", "sync/atomic.AddInt64"], unfollowed := true, recurses := true, named := ["internal/bytealg.MaxLen"], apart := false }
def TopHealSaid : Prop := topHealRow.holds Tryz.pinned (OpenSpec.ofChange topHealSpec)

/-- ITS FALSE NEIGHBOUR: 'it returns false'. Refute it at one input. -/
def topHealWrong : ChangeSpec := { name := "topHeal", fn := fun _ => fun
  | [d1, d2, d3] => { results := [.lit (.bool false)], args := [d1, d2, d3] }
  | _ => none }
def TopHealWrongFalsely : Prop := topHealRow.holds Tryz.pinned (OpenSpec.ofChange topHealWrong)

/-- 'curfewtop.TopFew': WHATEVER THE INPUT: true; the input reads as it did. -/
def topFewSpec : ChangeSpec := { name := "topFew", fn := fun _ => fun
  | [d1, d2] => { results := [.lit (.bool true)], args := [d1, d2] }
  | _ => none }
def topFewRow : OpenClaim := { program := "ytjhbmbbmjaabcaagreat", sum := "d0b54406d79fed2b1653dc221eb573c85ea2c9a57e136d67d21473e4fac14b84", func := "curfew/curfewtop.TopFew", spec := "topFew", inPlace := ["internal/bytealg.IndexByteString", "internal/bytealg.IndexString", "sync/atomic.AddInt64"], unfollowed := true, recurses := true, named := ["internal/bytealg.MaxLen"], apart := false }
def TopFewSaid : Prop := topFewRow.holds Tryz.pinned (OpenSpec.ofChange topFewSpec)

/-- ITS FALSE NEIGHBOUR: 'it returns false'. Refute it at one input. -/
def topFewWrong : ChangeSpec := { name := "topFew", fn := fun _ => fun
  | [d1, d2] => { results := [.lit (.bool false)], args := [d1, d2] }
  | _ => none }
def TopFewWrongFalsely : Prop := topFewRow.holds Tryz.pinned (OpenSpec.ofChange topFewWrong)

/-- 'curfewtop.TopFall': WHATEVER THE INPUT: true; the input reads as it did. -/
def topFallSpec : ChangeSpec := { name := "topFall", fn := fun _ => fun
  | [d1, d2, d3] => { results := [.lit (.bool true)], args := [d1, d2, d3] }
  | _ => none }
def topFallRow : OpenClaim := { program := "ytjhbmbbmjaabcaagreat", sum := "d0b54406d79fed2b1653dc221eb573c85ea2c9a57e136d67d21473e4fac14b84", func := "curfew/curfewtop.TopFall", spec := "topFall", inPlace := ["internal/bytealg.IndexByteString", "internal/bytealg.IndexString", "sync/atomic.AddInt64"], unfollowed := true, recurses := true, named := ["internal/bytealg.MaxLen"], apart := false }
def TopFallSaid : Prop := topFallRow.holds Tryz.pinned (OpenSpec.ofChange topFallSpec)

/-- ITS FALSE NEIGHBOUR: 'it returns false'. Refute it at one input. -/
def topFallWrong : ChangeSpec := { name := "topFall", fn := fun _ => fun
  | [d1, d2, d3] => { results := [.lit (.bool false)], args := [d1, d2, d3] }
  | _ => none }
def TopFallWrongFalsely : Prop := topFallRow.holds Tryz.pinned (OpenSpec.ofChange topFallWrong)

/-- 'curfewtop.TopDecider': WHATEVER THE INPUT: true; the input reads as it did. -/
def topDeciderSpec : ChangeSpec := { name := "topDecider", fn := fun _ => fun
  | [d1, d2] => { results := [.lit (.bool true)], args := [d1, d2] }
  | _ => none }
def topDeciderRow : OpenClaim := { program := "ytjhbmbbmjaabcaagreat", sum := "d0b54406d79fed2b1653dc221eb573c85ea2c9a57e136d67d21473e4fac14b84", func := "curfew/curfewtop.TopDecider", spec := "topDecider", inPlace := ["internal/bytealg.IndexByteString", "internal/bytealg.IndexString", "sync/atomic.AddInt64"], unfollowed := true, recurses := true, named := ["internal/bytealg.MaxLen"], apart := false }
def TopDeciderSaid : Prop := topDeciderRow.holds Tryz.pinned (OpenSpec.ofChange topDeciderSpec)

/-- ITS FALSE NEIGHBOUR: 'it returns false'. Refute it at one input. -/
def topDeciderWrong : ChangeSpec := { name := "topDecider", fn := fun _ => fun
  | [d1, d2] => { results := [.lit (.bool false)], args := [d1, d2] }
  | _ => none }
def TopDeciderWrongFalsely : Prop := topDeciderRow.holds Tryz.pinned (OpenSpec.ofChange topDeciderWrong)

/-- 'curfewtop.TopTwice': WHATEVER THE INPUT: true; the input reads as it did. -/
def topTwiceSpec : ChangeSpec := { name := "topTwice", fn := fun _ => fun
  | [d1, d2, d3] => { results := [.lit (.bool true)], args := [d1, d2, d3] }
  | _ => none }
def topTwiceRow : OpenClaim := { program := "ytjhbmbbmjaabcaagreat", sum := "d0b54406d79fed2b1653dc221eb573c85ea2c9a57e136d67d21473e4fac14b84", func := "curfew/curfewtop.TopTwice", spec := "topTwice", inPlace := ["internal/bytealg.IndexByteString", "internal/bytealg.IndexString", "sync/atomic.AddInt64"], unfollowed := true, recurses := true, named := ["internal/bytealg.MaxLen"], apart := false }
def TopTwiceSaid : Prop := topTwiceRow.holds Tryz.pinned (OpenSpec.ofChange topTwiceSpec)

/-- ITS FALSE NEIGHBOUR: 'it returns false'. Refute it at one input. -/
def topTwiceWrong : ChangeSpec := { name := "topTwice", fn := fun _ => fun
  | [d1, d2, d3] => { results := [.lit (.bool false)], args := [d1, d2, d3] }
  | _ => none }
def TopTwiceWrongFalsely : Prop := topTwiceRow.holds Tryz.pinned (OpenSpec.ofChange topTwiceWrong)

/-- 'curfewtop.TopReverse': WHATEVER THE INPUT: true; the input reads as it did. -/
def topReverseSpec : ChangeSpec := { name := "topReverse", fn := fun _ => fun
  | [d1, d2] => { results := [.lit (.bool true)], args := [d1, d2] }
  | _ => none }
def topReverseRow : OpenClaim := { program := "ytjhbmbbmjaabcaagreat", sum := "d0b54406d79fed2b1653dc221eb573c85ea2c9a57e136d67d21473e4fac14b84", func := "curfew/curfewtop.TopReverse", spec := "topReverse", inPlace := ["internal/bytealg.IndexByteString", "internal/bytealg.IndexString", "sync/atomic.AddInt64"], unfollowed := true, recurses := true, named := ["internal/bytealg.MaxLen"], apart := false }
def TopReverseSaid : Prop := topReverseRow.holds Tryz.pinned (OpenSpec.ofChange topReverseSpec)

/-- ITS FALSE NEIGHBOUR: 'it returns false'. Refute it at one input. -/
def topReverseWrong : ChangeSpec := { name := "topReverse", fn := fun _ => fun
  | [d1, d2] => { results := [.lit (.bool false)], args := [d1, d2] }
  | _ => none }
def TopReverseWrongFalsely : Prop := topReverseRow.holds Tryz.pinned (OpenSpec.ofChange topReverseWrong)

/-- 'curfewtop.TopAllFall': WHATEVER THE INPUT: true; the input reads as it did. -/
def topAllFallSpec : ChangeSpec := { name := "topAllFall", fn := fun _ => fun
  | [d1, d2, d3] => { results := [.lit (.bool true)], args := [d1, d2, d3] }
  | _ => none }
def topAllFallRow : OpenClaim := { program := "ytjhbmbbmjaabcaagreat", sum := "d0b54406d79fed2b1653dc221eb573c85ea2c9a57e136d67d21473e4fac14b84", func := "curfew/curfewtop.TopAllFall", spec := "topAllFall", inPlace := ["internal/bytealg.IndexByteString", "internal/bytealg.IndexString", "sync/atomic.AddInt64"], unfollowed := true, recurses := true, named := ["internal/bytealg.MaxLen"], apart := false }
def TopAllFallSaid : Prop := topAllFallRow.holds Tryz.pinned (OpenSpec.ofChange topAllFallSpec)

/-- ITS FALSE NEIGHBOUR: 'it returns false'. Refute it at one input. -/
def topAllFallWrong : ChangeSpec := { name := "topAllFall", fn := fun _ => fun
  | [d1, d2, d3] => { results := [.lit (.bool false)], args := [d1, d2, d3] }
  | _ => none }
def TopAllFallWrongFalsely : Prop := topAllFallRow.holds Tryz.pinned (OpenSpec.ofChange topAllFallWrong)

/-- 'curfewtop.TopOldWord': WHATEVER THE INPUT: true; the input reads as it did. -/
def topOldWordSpec : ChangeSpec := { name := "topOldWord", fn := fun _ => fun
  | [d1, d2, d3] => { results := [.lit (.bool true)], args := [d1, d2, d3] }
  | _ => none }
def topOldWordRow : OpenClaim := { program := "ytjhbmbbmjaabcaagreat", sum := "d0b54406d79fed2b1653dc221eb573c85ea2c9a57e136d67d21473e4fac14b84", func := "curfew/curfewtop.TopOldWord", spec := "topOldWord", inPlace := ["internal/bytealg.IndexByteString", "internal/bytealg.IndexString", "sync/atomic.AddInt64"], unfollowed := true, recurses := true, named := ["internal/bytealg.MaxLen"], apart := false }
def TopOldWordSaid : Prop := topOldWordRow.holds Tryz.pinned (OpenSpec.ofChange topOldWordSpec)

/-- ITS FALSE NEIGHBOUR: 'it returns false'. Refute it at one input. -/
def topOldWordWrong : ChangeSpec := { name := "topOldWord", fn := fun _ => fun
  | [d1, d2, d3] => { results := [.lit (.bool false)], args := [d1, d2, d3] }
  | _ => none }
def TopOldWordWrongFalsely : Prop := topOldWordRow.holds Tryz.pinned (OpenSpec.ofChange topOldWordWrong)

/- THE SECOND FORM. 'bulk': how many values and letters a reading holds, each counted each time it is reached (what is shared counts as often as it is met; a slice's spare places count too). A statement '..UptoSaid' is the law's where the arguments, and the package variables that the reading takes, are together of bulk at most 1048576: NARROWER than '..Said'. Prove '..Said' where nothing that the law and all that it calls make is longer than what came in: it says more and counts as full. Else prove '..UptoSaid'. A law counts once. -/
mutual
def uptoBulk {H : Type} : DataW H → Nat
  | .lit (.string bytes) => bytes.length + 1
  | .lit _ => 1
  | .nil => 1
  | .ptr d => uptoBulk d + 1
  | .slice elems spare => uptoBulkAll elems + uptoBulkAll spare + 1
  | .agg parts => uptoBulkAll parts + 1
  | .iface _ d => uptoBulk d + 1
  | .map entries => uptoBulkEntries entries + 1
  | .held _ => 1
def uptoBulkAll {H : Type} : List (DataW H) → Nat
  | [] => 0
  | d :: r => uptoBulk d + uptoBulkAll r
def uptoBulkEntries {H : Type} : List (Lit × DataW H) → Nat
  | [] => 0
  | x :: r => uptoBulkEntry x + uptoBulkEntries r
def uptoBulkEntry {H : Type} : Lit × DataW H → Nat
  | (.string bytes, d) => bytes.length + uptoBulk d + 1
  | (_, d) => uptoBulk d + 1
 end
def uptoSmall : (H : Type) → List (DataW H) → Bool := fun _ ds => decide (uptoBulkAll ds ≤ 1048576)
def OpenSpec.upto (s : _root_.Go.ChangeSpec) : _root_.Go.OpenSpec := { _root_.Go.OpenSpec.ofChange s with cond := some uptoSmall }

/-- 'curfewtop.TopMost', WHERE WHAT IT READS IS OF BULK AT MOST 1048576: true; the input reads as it did. -/
def topMostUptoRow : OpenClaim := { program := "ytjhbmbbmjaabcaagreat", sum := "d0b54406d79fed2b1653dc221eb573c85ea2c9a57e136d67d21473e4fac14b84", func := "curfew/curfewtop.TopMost", spec := "topMost", inPlace := ["internal/bytealg.IndexByteString", "internal/bytealg.IndexString", "sync/atomic.AddInt64"], unfollowed := true, recurses := true, named := ["internal/bytealg.MaxLen"], apart := false, narrowed := true }
def TopMostUptoSaid : Prop := topMostUptoRow.holds Tryz.pinned (OpenSpec.upto topMostSpec)

/-- 'curfewtop.TopHeal', WHERE WHAT IT READS IS OF BULK AT MOST 1048576: true; the input reads as it did. -/
def topHealUptoRow : OpenClaim := { program := "ytjhbmbbmjaabcaagreat", sum := "d0b54406d79fed2b1653dc221eb573c85ea2c9a57e136d67d21473e4fac14b84", func := "curfew/curfewtop.TopHeal", spec := "topHeal", inPlace := ["internal/bytealg.IndexByteString", "internal/bytealg.IndexString", "sync/atomic.AddInt64"], unfollowed := true, recurses := true, named := ["internal/bytealg.MaxLen"], apart := false, narrowed := true }
def TopHealUptoSaid : Prop := topHealUptoRow.holds Tryz.pinned (OpenSpec.upto topHealSpec)

/-- 'curfewtop.TopFew', WHERE WHAT IT READS IS OF BULK AT MOST 1048576: true; the input reads as it did. -/
def topFewUptoRow : OpenClaim := { program := "ytjhbmbbmjaabcaagreat", sum := "d0b54406d79fed2b1653dc221eb573c85ea2c9a57e136d67d21473e4fac14b84", func := "curfew/curfewtop.TopFew", spec := "topFew", inPlace := ["internal/bytealg.IndexByteString", "internal/bytealg.IndexString", "sync/atomic.AddInt64"], unfollowed := true, recurses := true, named := ["internal/bytealg.MaxLen"], apart := false, narrowed := true }
def TopFewUptoSaid : Prop := topFewUptoRow.holds Tryz.pinned (OpenSpec.upto topFewSpec)

/-- 'curfewtop.TopFall', WHERE WHAT IT READS IS OF BULK AT MOST 1048576: true; the input reads as it did. -/
def topFallUptoRow : OpenClaim := { program := "ytjhbmbbmjaabcaagreat", sum := "d0b54406d79fed2b1653dc221eb573c85ea2c9a57e136d67d21473e4fac14b84", func := "curfew/curfewtop.TopFall", spec := "topFall", inPlace := ["internal/bytealg.IndexByteString", "internal/bytealg.IndexString", "sync/atomic.AddInt64"], unfollowed := true, recurses := true, named := ["internal/bytealg.MaxLen"], apart := false, narrowed := true }
def TopFallUptoSaid : Prop := topFallUptoRow.holds Tryz.pinned (OpenSpec.upto topFallSpec)

/-- 'curfewtop.TopDecider', WHERE WHAT IT READS IS OF BULK AT MOST 1048576: true; the input reads as it did. -/
def topDeciderUptoRow : OpenClaim := { program := "ytjhbmbbmjaabcaagreat", sum := "d0b54406d79fed2b1653dc221eb573c85ea2c9a57e136d67d21473e4fac14b84", func := "curfew/curfewtop.TopDecider", spec := "topDecider", inPlace := ["internal/bytealg.IndexByteString", "internal/bytealg.IndexString", "sync/atomic.AddInt64"], unfollowed := true, recurses := true, named := ["internal/bytealg.MaxLen"], apart := false, narrowed := true }
def TopDeciderUptoSaid : Prop := topDeciderUptoRow.holds Tryz.pinned (OpenSpec.upto topDeciderSpec)

/-- 'curfewtop.TopTwice', WHERE WHAT IT READS IS OF BULK AT MOST 1048576: true; the input reads as it did. -/
def topTwiceUptoRow : OpenClaim := { program := "ytjhbmbbmjaabcaagreat", sum := "d0b54406d79fed2b1653dc221eb573c85ea2c9a57e136d67d21473e4fac14b84", func := "curfew/curfewtop.TopTwice", spec := "topTwice", inPlace := ["internal/bytealg.IndexByteString", "internal/bytealg.IndexString", "sync/atomic.AddInt64"], unfollowed := true, recurses := true, named := ["internal/bytealg.MaxLen"], apart := false, narrowed := true }
def TopTwiceUptoSaid : Prop := topTwiceUptoRow.holds Tryz.pinned (OpenSpec.upto topTwiceSpec)

/-- 'curfewtop.TopReverse', WHERE WHAT IT READS IS OF BULK AT MOST 1048576: true; the input reads as it did. -/
def topReverseUptoRow : OpenClaim := { program := "ytjhbmbbmjaabcaagreat", sum := "d0b54406d79fed2b1653dc221eb573c85ea2c9a57e136d67d21473e4fac14b84", func := "curfew/curfewtop.TopReverse", spec := "topReverse", inPlace := ["internal/bytealg.IndexByteString", "internal/bytealg.IndexString", "sync/atomic.AddInt64"], unfollowed := true, recurses := true, named := ["internal/bytealg.MaxLen"], apart := false, narrowed := true }
def TopReverseUptoSaid : Prop := topReverseUptoRow.holds Tryz.pinned (OpenSpec.upto topReverseSpec)

/-- 'curfewtop.TopAllFall', WHERE WHAT IT READS IS OF BULK AT MOST 1048576: true; the input reads as it did. -/
def topAllFallUptoRow : OpenClaim := { program := "ytjhbmbbmjaabcaagreat", sum := "d0b54406d79fed2b1653dc221eb573c85ea2c9a57e136d67d21473e4fac14b84", func := "curfew/curfewtop.TopAllFall", spec := "topAllFall", inPlace := ["internal/bytealg.IndexByteString", "internal/bytealg.IndexString", "sync/atomic.AddInt64"], unfollowed := true, recurses := true, named := ["internal/bytealg.MaxLen"], apart := false, narrowed := true }
def TopAllFallUptoSaid : Prop := topAllFallUptoRow.holds Tryz.pinned (OpenSpec.upto topAllFallSpec)

/-- 'curfewtop.TopOldWord', WHERE WHAT IT READS IS OF BULK AT MOST 1048576: true; the input reads as it did. -/
def topOldWordUptoRow : OpenClaim := { program := "ytjhbmbbmjaabcaagreat", sum := "d0b54406d79fed2b1653dc221eb573c85ea2c9a57e136d67d21473e4fac14b84", func := "curfew/curfewtop.TopOldWord", spec := "topOldWord", inPlace := ["internal/bytealg.IndexByteString", "internal/bytealg.IndexString", "sync/atomic.AddInt64"], unfollowed := true, recurses := true, named := ["internal/bytealg.MaxLen"], apart := false, narrowed := true }
def TopOldWordUptoSaid : Prop := topOldWordUptoRow.holds Tryz.pinned (OpenSpec.upto topOldWordSpec)

end Rows
end Go.Proofs.YtjhbmbbmjaabcaaGreat
