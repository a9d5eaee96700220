/-
  No cell of these rows narrows 'for every input' (looked for: loops, veiled, ifaces, maps, wideKeys, modest, calm, conditions, laid).
  DERIVED. THE GIVEN ROWS OF THIS SEAT. 5 by the template 'for every input the law returns true; each argument reads behind the call as it read before'; 0 by the template 'total and deterministic' (their statements: YtbhgbkbdojhofaaTotals.lean).
  GIVEN WITH THE SEED: the statements are not yours to turn. If you find one false, say at which input.
  Laid BY PROGRAM, IN A SANDBOX (cutbox-rows.mjs): the forced cells as the released guide's own fill.sh prints them over the translation 3b614be348cbbc1d… (all of the seat's roots in one cut). By AI agents, Wed Nov 11 2026. No macro, syntax, notation, axiom, sorry.
-/
import Derived.Test.YtbhgbkbdojhofaaChecked
import GoSem.Claim
import GoSem.ClaimJoined
import GoSem.ClaimMapViews
import Derived.JoinedTies
import Derived.KernelRfl
namespace Go.Proofs.Ytbhgbkbdojhofaa
/- THE CELL 'sum', in the pinned program and in every row, IS THE sha256 OF THE DUMP (.gsa) THAT YtbhgbkbdojhofaaProg.lean LOADS. Nothing in Lean hashes anything: it is a label: what it is worth is what the hold of that sum in a sandbox is worth. -/
noncomputable def Try.pinned : Pinned := { name := "ytbhgbkbdojhofaa", sum := "3b614be348cbbc1d8db0a6969e4e6e38371811ec53ed40fe4e3b46ab3699bd54", checked := Try.checked }
namespace Rows
def none {H : Type} : Left H := { results := [], args := [] }

/-- 'curfewlaw17.GramAll': WHATEVER THE INPUT: true; the input reads as it did. -/
def gramAllSpec : ChangeSpec := { name := "gramAll", fn := fun _ => fun
  | [d1, d2, d3] => { results := [.lit (.bool true)], args := [d1, d2, d3] }
  | _ => none }
def gramAllRow : OpenClaim := { program := "ytbhgbkbdojhofaa", sum := "3b614be348cbbc1d8db0a6969e4e6e38371811ec53ed40fe4e3b46ab3699bd54", func := "curfew/curfewlaw17.GramAll", spec := "gramAll", unfollowed := true, recurses := true, apart := false }
def GramAllSaid : Prop := gramAllRow.holds Try.pinned (OpenSpec.ofChange gramAllSpec)

/-- ITS FALSE NEIGHBOUR: 'it returns false'. Refute it at one input. -/
def gramAllWrong : ChangeSpec := { name := "gramAll", fn := fun _ => fun
  | [d1, d2, d3] => { results := [.lit (.bool false)], args := [d1, d2, d3] }
  | _ => none }
def GramAllWrongFalsely : Prop := gramAllRow.holds Try.pinned (OpenSpec.ofChange gramAllWrong)

/-- 'curfewlaw17.GramBoots': WHATEVER THE INPUT: true; the input reads as it did. -/
def gramBootsSpec : ChangeSpec := { name := "gramBoots", fn := fun _ => fun
  | [d] => { results := [.lit (.bool true)], args := [d] }
  | _ => none }
def gramBootsRow : OpenClaim := { program := "ytbhgbkbdojhofaa", sum := "3b614be348cbbc1d8db0a6969e4e6e38371811ec53ed40fe4e3b46ab3699bd54", func := "curfew/curfewlaw17.GramBoots", spec := "gramBoots", unfollowed := true, recurses := true, apart := false }
def GramBootsSaid : Prop := gramBootsRow.holds Try.pinned (OpenSpec.ofChange gramBootsSpec)

/-- ITS FALSE NEIGHBOUR: 'it returns false'. Refute it at one input. -/
def gramBootsWrong : ChangeSpec := { name := "gramBoots", fn := fun _ => fun
  | [d] => { results := [.lit (.bool false)], args := [d] }
  | _ => none }
def GramBootsWrongFalsely : Prop := gramBootsRow.holds Try.pinned (OpenSpec.ofChange gramBootsWrong)

/-- 'curfewlaw17.GramNone': WHATEVER THE INPUT: true; the input reads as it did. -/
def gramNoneSpec : ChangeSpec := { name := "gramNone", fn := fun _ => fun
  | [] => { results := [.lit (.bool true)], args := [] }
  | _ => none }
def gramNoneRow : OpenClaim := { program := "ytbhgbkbdojhofaa", sum := "3b614be348cbbc1d8db0a6969e4e6e38371811ec53ed40fe4e3b46ab3699bd54", func := "curfew/curfewlaw17.GramNone", spec := "gramNone", unfollowed := true, recurses := true, apart := false }
def GramNoneSaid : Prop := gramNoneRow.holds Try.pinned (OpenSpec.ofChange gramNoneSpec)

/-- ITS FALSE NEIGHBOUR: 'it returns false'. Refute it at one input. -/
def gramNoneWrong : ChangeSpec := { name := "gramNone", fn := fun _ => fun
  | [] => { results := [.lit (.bool false)], args := [] }
  | _ => none }
def GramNoneWrongFalsely : Prop := gramNoneRow.holds Try.pinned (OpenSpec.ofChange gramNoneWrong)

/-- 'curfewlaw17.GramTook': WHATEVER THE INPUT: true; the input reads as it did. -/
def gramTookSpec : ChangeSpec := { name := "gramTook", fn := fun _ => fun
  | [d1, d2, d3, d4, d5] => { results := [.lit (.bool true)], args := [d1, d2, d3, d4, d5] }
  | _ => none }
def gramTookRow : OpenClaim := { program := "ytbhgbkbdojhofaa", sum := "3b614be348cbbc1d8db0a6969e4e6e38371811ec53ed40fe4e3b46ab3699bd54", func := "curfew/curfewlaw17.GramTook", spec := "gramTook", unfollowed := true, recurses := true, apart := false }
def GramTookSaid : Prop := gramTookRow.holds Try.pinned (OpenSpec.ofChange gramTookSpec)

/-- ITS FALSE NEIGHBOUR: 'it returns false'. Refute it at one input. -/
def gramTookWrong : ChangeSpec := { name := "gramTook", fn := fun _ => fun
  | [d1, d2, d3, d4, d5] => { results := [.lit (.bool false)], args := [d1, d2, d3, d4, d5] }
  | _ => none }
def GramTookWrongFalsely : Prop := gramTookRow.holds Try.pinned (OpenSpec.ofChange gramTookWrong)

/-- 'curfewlaw17.GramWhole': WHATEVER THE INPUT: true; the input reads as it did. -/
def gramWholeSpec : ChangeSpec := { name := "gramWhole", fn := fun _ => fun
  | [d] => { results := [.lit (.bool true)], args := [d] }
  | _ => none }
def gramWholeRow : OpenClaim := { program := "ytbhgbkbdojhofaa", sum := "3b614be348cbbc1d8db0a6969e4e6e38371811ec53ed40fe4e3b46ab3699bd54", func := "curfew/curfewlaw17.GramWhole", spec := "gramWhole", unfollowed := true, recurses := true, apart := false }
def GramWholeSaid : Prop := gramWholeRow.holds Try.pinned (OpenSpec.ofChange gramWholeSpec)

/-- ITS FALSE NEIGHBOUR: 'it returns false'. Refute it at one input. -/
def gramWholeWrong : ChangeSpec := { name := "gramWhole", fn := fun _ => fun
  | [d] => { results := [.lit (.bool false)], args := [d] }
  | _ => none }
def GramWholeWrongFalsely : Prop := gramWholeRow.holds Try.pinned (OpenSpec.ofChange gramWholeWrong)

/- THE SECOND FORM. 'bulk': how many values and letters a reading holds, each counted each time it is reached (what is shared counts as often as it is met; a slice's spare places count too). A statement '..UptoSaid' is the law's where the arguments, and the package variables that the reading takes, are together of bulk at most 1048576: NARROWER than '..Said'. Prove '..Said' where nothing that the law and all that it calls make is longer than what came in: it says more and counts as full. Else prove '..UptoSaid'. A law counts once. -/
mutual
def uptoBulk {H : Type} : DataW H → Nat
  | .lit (.string bytes) => bytes.length + 1
  | .lit _ => 1
  | .nil => 1
  | .ptr d => uptoBulk d + 1
  | .slice elems spare => uptoBulkAll elems + uptoBulkAll spare + 1
  | .agg parts => uptoBulkAll parts + 1
  | .iface _ d => uptoBulk d + 1
  | .map entries => uptoBulkEntries entries + 1
  | .held _ => 1
def uptoBulkAll {H : Type} : List (DataW H) → Nat
  | [] => 0
  | d :: r => uptoBulk d + uptoBulkAll r
def uptoBulkEntries {H : Type} : List (Lit × DataW H) → Nat
  | [] => 0
  | x :: r => uptoBulkEntry x + uptoBulkEntries r
def uptoBulkEntry {H : Type} : Lit × DataW H → Nat
  | (.string bytes, d) => bytes.length + uptoBulk d + 1
  | (_, d) => uptoBulk d + 1
 end
def uptoSmall : (H : Type) → List (DataW H) → Bool := fun _ ds => decide (uptoBulkAll ds ≤ 1048576)
def OpenSpec.upto (s : _root_.Go.ChangeSpec) : _root_.Go.OpenSpec := { _root_.Go.OpenSpec.ofChange s with cond := some uptoSmall }

/-- 'curfewlaw17.GramAll', WHERE WHAT IT READS IS OF BULK AT MOST 1048576: true; the input reads as it did. -/
def gramAllUptoRow : OpenClaim := { program := "ytbhgbkbdojhofaa", sum := "3b614be348cbbc1d8db0a6969e4e6e38371811ec53ed40fe4e3b46ab3699bd54", func := "curfew/curfewlaw17.GramAll", spec := "gramAll", unfollowed := true, recurses := true, apart := false, narrowed := true }
def GramAllUptoSaid : Prop := gramAllUptoRow.holds Try.pinned (OpenSpec.upto gramAllSpec)

/-- 'curfewlaw17.GramBoots', WHERE WHAT IT READS IS OF BULK AT MOST 1048576: true; the input reads as it did. -/
def gramBootsUptoRow : OpenClaim := { program := "ytbhgbkbdojhofaa", sum := "3b614be348cbbc1d8db0a6969e4e6e38371811ec53ed40fe4e3b46ab3699bd54", func := "curfew/curfewlaw17.GramBoots", spec := "gramBoots", unfollowed := true, recurses := true, apart := false, narrowed := true }
def GramBootsUptoSaid : Prop := gramBootsUptoRow.holds Try.pinned (OpenSpec.upto gramBootsSpec)

/-- 'curfewlaw17.GramNone', WHERE WHAT IT READS IS OF BULK AT MOST 1048576: true; the input reads as it did. -/
def gramNoneUptoRow : OpenClaim := { program := "ytbhgbkbdojhofaa", sum := "3b614be348cbbc1d8db0a6969e4e6e38371811ec53ed40fe4e3b46ab3699bd54", func := "curfew/curfewlaw17.GramNone", spec := "gramNone", unfollowed := true, recurses := true, apart := false, narrowed := true }
def GramNoneUptoSaid : Prop := gramNoneUptoRow.holds Try.pinned (OpenSpec.upto gramNoneSpec)

/-- 'curfewlaw17.GramTook', WHERE WHAT IT READS IS OF BULK AT MOST 1048576: true; the input reads as it did. -/
def gramTookUptoRow : OpenClaim := { program := "ytbhgbkbdojhofaa", sum := "3b614be348cbbc1d8db0a6969e4e6e38371811ec53ed40fe4e3b46ab3699bd54", func := "curfew/curfewlaw17.GramTook", spec := "gramTook", unfollowed := true, recurses := true, apart := false, narrowed := true }
def GramTookUptoSaid : Prop := gramTookUptoRow.holds Try.pinned (OpenSpec.upto gramTookSpec)

/-- 'curfewlaw17.GramWhole', WHERE WHAT IT READS IS OF BULK AT MOST 1048576: true; the input reads as it did. -/
def gramWholeUptoRow : OpenClaim := { program := "ytbhgbkbdojhofaa", sum := "3b614be348cbbc1d8db0a6969e4e6e38371811ec53ed40fe4e3b46ab3699bd54", func := "curfew/curfewlaw17.GramWhole", spec := "gramWhole", unfollowed := true, recurses := true, apart := false, narrowed := true }
def GramWholeUptoSaid : Prop := gramWholeUptoRow.holds Try.pinned (OpenSpec.upto gramWholeSpec)

end Rows
end Go.Proofs.Ytbhgbkbdojhofaa
