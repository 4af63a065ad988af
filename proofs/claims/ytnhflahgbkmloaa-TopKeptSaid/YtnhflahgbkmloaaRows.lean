/-
  No cell of these rows narrows 'for every input' (looked for: loops, veiled, ifaces, maps, wideKeys, modest, calm, conditions, laid).
  DERIVED. THE GIVEN ROWS OF THIS SEAT. 5 by the template 'for every input the law returns true; each argument reads behind the call as it read before'; 0 by the template 'total and deterministic' (their statements: YtnhflahgbkmloaaTotals.lean).
  GIVEN WITH THE SEED: the statements are not yours to turn. If you find one false, say at which input.
  Laid BY PROGRAM, IN A SANDBOX (cutbox-rows.mjs): the forced cells as the released guide's own fill.sh prints them over the translation 84ea962794864a2b… (all of the seat's roots in one cut). By AI agents, Wed Nov 11 2026. No macro, syntax, notation, axiom, sorry.
-/
import Derived.Test.YtnhflahgbkmloaaChecked
import GoSem.Claim
import GoSem.ClaimJoined
import GoSem.ClaimMapViews
import Derived.JoinedTies
import Derived.KernelRfl
namespace Go.Proofs.Ytnhflahgbkmloaa
/- THE CELL 'sum', in the pinned program and in every row, IS THE sha256 OF THE DUMP (.gsa) THAT YtnhflahgbkmloaaProg.lean LOADS. Nothing in Lean hashes anything: it is a label: what it is worth is what the hold of that sum in a sandbox is worth. -/
noncomputable def Try.pinned : Pinned := { name := "ytnhflahgbkmloaa", sum := "84ea962794864a2b13992c18b3c11c5787147b506e8bffd8aa9dbb3e1102e0f5", checked := Try.checked }
namespace Rows
def none {H : Type} : Left H := { results := [], args := [] }

/-- 'sackbuttop.TopSum': WHATEVER THE INPUT: true; the input reads as it did. -/
def topSumSpec : ChangeSpec := { name := "topSum", fn := fun _ => fun
  | [d1, d2] => { results := [.lit (.bool true)], args := [d1, d2] }
  | _ => none }
def topSumRow : OpenClaim := { program := "ytnhflahgbkmloaa", sum := "84ea962794864a2b13992c18b3c11c5787147b506e8bffd8aa9dbb3e1102e0f5", func := "sackbut/sackbuttop.TopSum", spec := "topSum", unfollowed := true, recurses := true, plainKeys := false, apart := false }
def TopSumSaid : Prop := topSumRow.holds Try.pinned (OpenSpec.ofChange topSumSpec)

/-- ITS FALSE NEIGHBOUR: 'it returns false'. Refute it at one input. -/
def topSumWrong : ChangeSpec := { name := "topSum", fn := fun _ => fun
  | [d1, d2] => { results := [.lit (.bool false)], args := [d1, d2] }
  | _ => none }
def TopSumWrongFalsely : Prop := topSumRow.holds Try.pinned (OpenSpec.ofChange topSumWrong)

/-- 'sackbuttop.TopDeep': WHATEVER THE INPUT: true; the input reads as it did. -/
def topDeepSpec : ChangeSpec := { name := "topDeep", fn := fun _ => fun
  | [d1, d2, d3, d4] => { results := [.lit (.bool true)], args := [d1, d2, d3, d4] }
  | _ => none }
def topDeepRow : OpenClaim := { program := "ytnhflahgbkmloaa", sum := "84ea962794864a2b13992c18b3c11c5787147b506e8bffd8aa9dbb3e1102e0f5", func := "sackbut/sackbuttop.TopDeep", spec := "topDeep", unfollowed := true, recurses := true, plainKeys := false, apart := false }
def TopDeepSaid : Prop := topDeepRow.holds Try.pinned (OpenSpec.ofChange topDeepSpec)

/-- ITS FALSE NEIGHBOUR: 'it returns false'. Refute it at one input. -/
def topDeepWrong : ChangeSpec := { name := "topDeep", fn := fun _ => fun
  | [d1, d2, d3, d4] => { results := [.lit (.bool false)], args := [d1, d2, d3, d4] }
  | _ => none }
def TopDeepWrongFalsely : Prop := topDeepRow.holds Try.pinned (OpenSpec.ofChange topDeepWrong)

/-- 'sackbuttop.TopLaid': WHATEVER THE INPUT: true; the input reads as it did. -/
def topLaidSpec : ChangeSpec := { name := "topLaid", fn := fun _ => fun
  | [d1, d2, d3] => { results := [.lit (.bool true)], args := [d1, d2, d3] }
  | _ => none }
def topLaidRow : OpenClaim := { program := "ytnhflahgbkmloaa", sum := "84ea962794864a2b13992c18b3c11c5787147b506e8bffd8aa9dbb3e1102e0f5", func := "sackbut/sackbuttop.TopLaid", spec := "topLaid", unfollowed := true, recurses := true, plainKeys := false, apart := false }
def TopLaidSaid : Prop := topLaidRow.holds Try.pinned (OpenSpec.ofChange topLaidSpec)

/-- ITS FALSE NEIGHBOUR: 'it returns false'. Refute it at one input. -/
def topLaidWrong : ChangeSpec := { name := "topLaid", fn := fun _ => fun
  | [d1, d2, d3] => { results := [.lit (.bool false)], args := [d1, d2, d3] }
  | _ => none }
def TopLaidWrongFalsely : Prop := topLaidRow.holds Try.pinned (OpenSpec.ofChange topLaidWrong)

/-- 'sackbuttop.TopKept': WHATEVER THE INPUT: true; the input reads as it did. -/
def topKeptSpec : ChangeSpec := { name := "topKept", fn := fun _ => fun
  | [d1, d2, d3, d4] => { results := [.lit (.bool true)], args := [d1, d2, d3, d4] }
  | _ => none }
def topKeptRow : OpenClaim := { program := "ytnhflahgbkmloaa", sum := "84ea962794864a2b13992c18b3c11c5787147b506e8bffd8aa9dbb3e1102e0f5", func := "sackbut/sackbuttop.TopKept", spec := "topKept", unfollowed := true, recurses := true, plainKeys := false, apart := false }
def TopKeptSaid : Prop := topKeptRow.holds Try.pinned (OpenSpec.ofChange topKeptSpec)

/-- ITS FALSE NEIGHBOUR: 'it returns false'. Refute it at one input. -/
def topKeptWrong : ChangeSpec := { name := "topKept", fn := fun _ => fun
  | [d1, d2, d3, d4] => { results := [.lit (.bool false)], args := [d1, d2, d3, d4] }
  | _ => none }
def TopKeptWrongFalsely : Prop := topKeptRow.holds Try.pinned (OpenSpec.ofChange topKeptWrong)

/-- 'sackbuttop.TopProduct': WHATEVER THE INPUT: true; the input reads as it did. -/
def topProductSpec : ChangeSpec := { name := "topProduct", fn := fun _ => fun
  | [d1, d2, d3] => { results := [.lit (.bool true)], args := [d1, d2, d3] }
  | _ => none }
def topProductRow : OpenClaim := { program := "ytnhflahgbkmloaa", sum := "84ea962794864a2b13992c18b3c11c5787147b506e8bffd8aa9dbb3e1102e0f5", func := "sackbut/sackbuttop.TopProduct", spec := "topProduct", unfollowed := true, recurses := true, plainKeys := false, apart := false }
def TopProductSaid : Prop := topProductRow.holds Try.pinned (OpenSpec.ofChange topProductSpec)

/-- ITS FALSE NEIGHBOUR: 'it returns false'. Refute it at one input. -/
def topProductWrong : ChangeSpec := { name := "topProduct", fn := fun _ => fun
  | [d1, d2, d3] => { results := [.lit (.bool false)], args := [d1, d2, d3] }
  | _ => none }
def TopProductWrongFalsely : Prop := topProductRow.holds Try.pinned (OpenSpec.ofChange topProductWrong)

/- THE SECOND FORM. 'bulk': how many values and letters a reading holds, each counted each time it is reached (what is shared counts as often as it is met; a slice's spare places count too). A statement '..UptoSaid' is the law's where the arguments, and the package variables that the reading takes, are together of bulk at most 1048576: NARROWER than '..Said'. Prove '..Said' where nothing that the law and all that it calls make is longer than what came in: it says more and counts as full. Else prove '..UptoSaid'. A law counts once. -/
mutual
def uptoBulk {H : Type} : DataW H → Nat
  | .lit (.string bytes) => bytes.length + 1
  | .lit _ => 1
  | .nil => 1
  | .ptr d => uptoBulk d + 1
  | .slice elems spare => uptoBulkAll elems + uptoBulkAll spare + 1
  | .agg parts => uptoBulkAll parts + 1
  | .iface _ d => uptoBulk d + 1
  | .map entries => uptoBulkEntries entries + 1
  | .held _ => 1
def uptoBulkAll {H : Type} : List (DataW H) → Nat
  | [] => 0
  | d :: r => uptoBulk d + uptoBulkAll r
def uptoBulkEntries {H : Type} : List (Lit × DataW H) → Nat
  | [] => 0
  | x :: r => uptoBulkEntry x + uptoBulkEntries r
def uptoBulkEntry {H : Type} : Lit × DataW H → Nat
  | (.string bytes, d) => bytes.length + uptoBulk d + 1
  | (_, d) => uptoBulk d + 1
 end
def uptoSmall : (H : Type) → List (DataW H) → Bool := fun _ ds => decide (uptoBulkAll ds ≤ 1048576)
def OpenSpec.upto (s : _root_.Go.ChangeSpec) : _root_.Go.OpenSpec := { _root_.Go.OpenSpec.ofChange s with cond := some uptoSmall }

/-- 'sackbuttop.TopSum', WHERE WHAT IT READS IS OF BULK AT MOST 1048576: true; the input reads as it did. -/
def topSumUptoRow : OpenClaim := { program := "ytnhflahgbkmloaa", sum := "84ea962794864a2b13992c18b3c11c5787147b506e8bffd8aa9dbb3e1102e0f5", func := "sackbut/sackbuttop.TopSum", spec := "topSum", unfollowed := true, recurses := true, plainKeys := false, apart := false, narrowed := true }
def TopSumUptoSaid : Prop := topSumUptoRow.holds Try.pinned (OpenSpec.upto topSumSpec)

/-- 'sackbuttop.TopDeep', WHERE WHAT IT READS IS OF BULK AT MOST 1048576: true; the input reads as it did. -/
def topDeepUptoRow : OpenClaim := { program := "ytnhflahgbkmloaa", sum := "84ea962794864a2b13992c18b3c11c5787147b506e8bffd8aa9dbb3e1102e0f5", func := "sackbut/sackbuttop.TopDeep", spec := "topDeep", unfollowed := true, recurses := true, plainKeys := false, apart := false, narrowed := true }
def TopDeepUptoSaid : Prop := topDeepUptoRow.holds Try.pinned (OpenSpec.upto topDeepSpec)

/-- 'sackbuttop.TopLaid', WHERE WHAT IT READS IS OF BULK AT MOST 1048576: true; the input reads as it did. -/
def topLaidUptoRow : OpenClaim := { program := "ytnhflahgbkmloaa", sum := "84ea962794864a2b13992c18b3c11c5787147b506e8bffd8aa9dbb3e1102e0f5", func := "sackbut/sackbuttop.TopLaid", spec := "topLaid", unfollowed := true, recurses := true, plainKeys := false, apart := false, narrowed := true }
def TopLaidUptoSaid : Prop := topLaidUptoRow.holds Try.pinned (OpenSpec.upto topLaidSpec)

/-- 'sackbuttop.TopKept', WHERE WHAT IT READS IS OF BULK AT MOST 1048576: true; the input reads as it did. -/
def topKeptUptoRow : OpenClaim := { program := "ytnhflahgbkmloaa", sum := "84ea962794864a2b13992c18b3c11c5787147b506e8bffd8aa9dbb3e1102e0f5", func := "sackbut/sackbuttop.TopKept", spec := "topKept", unfollowed := true, recurses := true, plainKeys := false, apart := false, narrowed := true }
def TopKeptUptoSaid : Prop := topKeptUptoRow.holds Try.pinned (OpenSpec.upto topKeptSpec)

/-- 'sackbuttop.TopProduct', WHERE WHAT IT READS IS OF BULK AT MOST 1048576: true; the input reads as it did. -/
def topProductUptoRow : OpenClaim := { program := "ytnhflahgbkmloaa", sum := "84ea962794864a2b13992c18b3c11c5787147b506e8bffd8aa9dbb3e1102e0f5", func := "sackbut/sackbuttop.TopProduct", spec := "topProduct", unfollowed := true, recurses := true, plainKeys := false, apart := false, narrowed := true }
def TopProductUptoSaid : Prop := topProductUptoRow.holds Try.pinned (OpenSpec.upto topProductSpec)

end Rows
end Go.Proofs.Ytnhflahgbkmloaa
