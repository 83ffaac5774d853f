/-
  No cell of these rows narrows 'for every input' (looked for: loops, veiled, ifaces, maps, wideKeys, modest, calm, conditions, laid).
  DERIVED. THE GIVEN ROWS OF THIS SEAT. 6 by the template 'for every input the law returns true; each argument reads behind the call as it read before'; 0 by the template 'total and deterministic' (their statements: YtamgnhkgcggbhabTotals.lean).
  GIVEN WITH THE SEED: the statements are not yours to turn. If you find one false, say at which input.
  Laid BY PROGRAM, IN A SANDBOX (cutbox-rows.mjs): the forced cells as the released guide's own fill.sh prints them over the translation e850c54e812ed608… (all of the seat's roots in one cut). By AI agents, Wed Nov 11 2026. No macro, syntax, notation, axiom, sorry.
-/
import Derived.Test.YtamgnhkgcggbhabChecked
import GoSem.Claim
import GoSem.ClaimJoined
import GoSem.ClaimMapViews
import Derived.JoinedTies
import Derived.KernelRfl
namespace Go.Proofs.Ytamgnhkgcggbhab
/- THE CELL 'sum', in the pinned program and in every row, IS THE sha256 OF THE DUMP (.gsa) THAT YtamgnhkgcggbhabProg.lean LOADS. Nothing in Lean hashes anything: it is a label: what it is worth is what the hold of that sum in a sandbox is worth. -/
noncomputable def Try.pinned : Pinned := { name := "ytamgnhkgcggbhab", sum := "e850c54e812ed608e97213b2fe6d51d2b8975d2d5900d2a2b56c90b78931a136", checked := Try.checked }
namespace Rows
def none {H : Type} : Left H := { results := [], args := [] }

/-- 'laws.FnExactMergeEnts': WHATEVER THE INPUT: true; the input reads as it did. -/
def fnExactMergeEntsSpec : ChangeSpec := { name := "fnExactMergeEnts", fn := fun _ => fun
  | [d] => { results := [.lit (.bool true)], args := [d] }
  | _ => none }
def fnExactMergeEntsRow : OpenClaim := { program := "ytamgnhkgcggbhab", sum := "e850c54e812ed608e97213b2fe6d51d2b8975d2d5900d2a2b56c90b78931a136", func := "loop.example/g00950/laws.FnExactMergeEnts", spec := "fnExactMergeEnts", unfollowed := true, recurses := true, apart := false }
def FnExactMergeEntsSaid : Prop := fnExactMergeEntsRow.holds Try.pinned (OpenSpec.ofChange fnExactMergeEntsSpec)

/-- ITS FALSE NEIGHBOUR: 'it returns false'. Refute it at one input. -/
def fnExactMergeEntsWrong : ChangeSpec := { name := "fnExactMergeEnts", fn := fun _ => fun
  | [d] => { results := [.lit (.bool false)], args := [d] }
  | _ => none }
def FnExactMergeEntsWrongFalsely : Prop := fnExactMergeEntsRow.holds Try.pinned (OpenSpec.ofChange fnExactMergeEntsWrong)

/-- 'laws.FnExactEngSnap': WHATEVER THE INPUT: true; the input reads as it did. -/
def fnExactEngSnapSpec : ChangeSpec := { name := "fnExactEngSnap", fn := fun _ => fun
  | [d] => { results := [.lit (.bool true)], args := [d] }
  | _ => none }
def fnExactEngSnapRow : OpenClaim := { program := "ytamgnhkgcggbhab", sum := "e850c54e812ed608e97213b2fe6d51d2b8975d2d5900d2a2b56c90b78931a136", func := "loop.example/g00950/laws.FnExactEngSnap", spec := "fnExactEngSnap", apart := false }
def FnExactEngSnapSaid : Prop := fnExactEngSnapRow.holds Try.pinned (OpenSpec.ofChange fnExactEngSnapSpec)

/-- ITS FALSE NEIGHBOUR: 'it returns false'. Refute it at one input. -/
def fnExactEngSnapWrong : ChangeSpec := { name := "fnExactEngSnap", fn := fun _ => fun
  | [d] => { results := [.lit (.bool false)], args := [d] }
  | _ => none }
def FnExactEngSnapWrongFalsely : Prop := fnExactEngSnapRow.holds Try.pinned (OpenSpec.ofChange fnExactEngSnapWrong)

/-- 'laws.FnExactStoreNew': WHATEVER THE INPUT: true; the input reads as it did. -/
def fnExactStoreNewSpec : ChangeSpec := { name := "fnExactStoreNew", fn := fun _ => fun
  | [d1, d2, d3] => { results := [.lit (.bool true)], args := [d1, d2, d3] }
  | _ => none }
def fnExactStoreNewRow : OpenClaim := { program := "ytamgnhkgcggbhab", sum := "e850c54e812ed608e97213b2fe6d51d2b8975d2d5900d2a2b56c90b78931a136", func := "loop.example/g00950/laws.FnExactStoreNew", spec := "fnExactStoreNew", apart := false }
def FnExactStoreNewSaid : Prop := fnExactStoreNewRow.holds Try.pinned (OpenSpec.ofChange fnExactStoreNewSpec)

/-- ITS FALSE NEIGHBOUR: 'it returns false'. Refute it at one input. -/
def fnExactStoreNewWrong : ChangeSpec := { name := "fnExactStoreNew", fn := fun _ => fun
  | [d1, d2, d3] => { results := [.lit (.bool false)], args := [d1, d2, d3] }
  | _ => none }
def FnExactStoreNewWrongFalsely : Prop := fnExactStoreNewRow.holds Try.pinned (OpenSpec.ofChange fnExactStoreNewWrong)

/-- 'laws.FnExactEngDrop': WHATEVER THE INPUT: true; the input reads as it did. -/
def fnExactEngDropSpec : ChangeSpec := { name := "fnExactEngDrop", fn := fun _ => fun
  | [d1, d2] => { results := [.lit (.bool true)], args := [d1, d2] }
  | _ => none }
def fnExactEngDropRow : OpenClaim := { program := "ytamgnhkgcggbhab", sum := "e850c54e812ed608e97213b2fe6d51d2b8975d2d5900d2a2b56c90b78931a136", func := "loop.example/g00950/laws.FnExactEngDrop", spec := "fnExactEngDrop", apart := false }
def FnExactEngDropSaid : Prop := fnExactEngDropRow.holds Try.pinned (OpenSpec.ofChange fnExactEngDropSpec)

/-- ITS FALSE NEIGHBOUR: 'it returns false'. Refute it at one input. -/
def fnExactEngDropWrong : ChangeSpec := { name := "fnExactEngDrop", fn := fun _ => fun
  | [d1, d2] => { results := [.lit (.bool false)], args := [d1, d2] }
  | _ => none }
def FnExactEngDropWrongFalsely : Prop := fnExactEngDropRow.holds Try.pinned (OpenSpec.ofChange fnExactEngDropWrong)

/-- 'laws.FnExactEngGet': WHATEVER THE INPUT: true; the input reads as it did. -/
def fnExactEngGetSpec : ChangeSpec := { name := "fnExactEngGet", fn := fun _ => fun
  | [d1, d2, d3] => { results := [.lit (.bool true)], args := [d1, d2, d3] }
  | _ => none }
def fnExactEngGetRow : OpenClaim := { program := "ytamgnhkgcggbhab", sum := "e850c54e812ed608e97213b2fe6d51d2b8975d2d5900d2a2b56c90b78931a136", func := "loop.example/g00950/laws.FnExactEngGet", spec := "fnExactEngGet", unfollowed := true, recurses := true, apart := false }
def FnExactEngGetSaid : Prop := fnExactEngGetRow.holds Try.pinned (OpenSpec.ofChange fnExactEngGetSpec)

/-- ITS FALSE NEIGHBOUR: 'it returns false'. Refute it at one input. -/
def fnExactEngGetWrong : ChangeSpec := { name := "fnExactEngGet", fn := fun _ => fun
  | [d1, d2, d3] => { results := [.lit (.bool false)], args := [d1, d2, d3] }
  | _ => none }
def FnExactEngGetWrongFalsely : Prop := fnExactEngGetRow.holds Try.pinned (OpenSpec.ofChange fnExactEngGetWrong)

/-- 'laws.FnExactEngFlush': WHATEVER THE INPUT: true; the input reads as it did. -/
def fnExactEngFlushSpec : ChangeSpec := { name := "fnExactEngFlush", fn := fun _ => fun
  | [d] => { results := [.lit (.bool true)], args := [d] }
  | _ => none }
def fnExactEngFlushRow : OpenClaim := { program := "ytamgnhkgcggbhab", sum := "e850c54e812ed608e97213b2fe6d51d2b8975d2d5900d2a2b56c90b78931a136", func := "loop.example/g00950/laws.FnExactEngFlush", spec := "fnExactEngFlush", inPlace := ["slices.overlaps[[]loop.example/g00950/impl.Ent]"], apart := false }
def FnExactEngFlushSaid : Prop := fnExactEngFlushRow.holds Try.pinned (OpenSpec.ofChange fnExactEngFlushSpec)

/-- ITS FALSE NEIGHBOUR: 'it returns false'. Refute it at one input. -/
def fnExactEngFlushWrong : ChangeSpec := { name := "fnExactEngFlush", fn := fun _ => fun
  | [d] => { results := [.lit (.bool false)], args := [d] }
  | _ => none }
def FnExactEngFlushWrongFalsely : Prop := fnExactEngFlushRow.holds Try.pinned (OpenSpec.ofChange fnExactEngFlushWrong)

/- THE SECOND FORM. 'bulk': how many values and letters a reading holds, each counted each time it is reached (what is shared counts as often as it is met; a slice's spare places count too). A statement '..UptoSaid' is the law's where the arguments, and the package variables that the reading takes, are together of bulk at most 1048576: NARROWER than '..Said'. Prove '..Said' where nothing that the law and all that it calls make is longer than what came in: it says more and counts as full. Else prove '..UptoSaid'. A law counts once. -/
mutual
def uptoBulk {H : Type} : DataW H → Nat
  | .lit (.string bytes) => bytes.length + 1
  | .lit _ => 1
  | .nil => 1
  | .ptr d => uptoBulk d + 1
  | .slice elems spare => uptoBulkAll elems + uptoBulkAll spare + 1
  | .agg parts => uptoBulkAll parts + 1
  | .iface _ d => uptoBulk d + 1
  | .map entries => uptoBulkEntries entries + 1
  | .held _ => 1
def uptoBulkAll {H : Type} : List (DataW H) → Nat
  | [] => 0
  | d :: r => uptoBulk d + uptoBulkAll r
def uptoBulkEntries {H : Type} : List (Lit × DataW H) → Nat
  | [] => 0
  | x :: r => uptoBulkEntry x + uptoBulkEntries r
def uptoBulkEntry {H : Type} : Lit × DataW H → Nat
  | (.string bytes, d) => bytes.length + uptoBulk d + 1
  | (_, d) => uptoBulk d + 1
 end
def uptoSmall : (H : Type) → List (DataW H) → Bool := fun _ ds => decide (uptoBulkAll ds ≤ 1048576)
def OpenSpec.upto (s : _root_.Go.ChangeSpec) : _root_.Go.OpenSpec := { _root_.Go.OpenSpec.ofChange s with cond := some uptoSmall }

/-- 'laws.FnExactMergeEnts', WHERE WHAT IT READS IS OF BULK AT MOST 1048576: true; the input reads as it did. -/
def fnExactMergeEntsUptoRow : OpenClaim := { program := "ytamgnhkgcggbhab", sum := "e850c54e812ed608e97213b2fe6d51d2b8975d2d5900d2a2b56c90b78931a136", func := "loop.example/g00950/laws.FnExactMergeEnts", spec := "fnExactMergeEnts", unfollowed := true, recurses := true, apart := false, narrowed := true }
def FnExactMergeEntsUptoSaid : Prop := fnExactMergeEntsUptoRow.holds Try.pinned (OpenSpec.upto fnExactMergeEntsSpec)

/-- 'laws.FnExactEngSnap', WHERE WHAT IT READS IS OF BULK AT MOST 1048576: true; the input reads as it did. -/
def fnExactEngSnapUptoRow : OpenClaim := { program := "ytamgnhkgcggbhab", sum := "e850c54e812ed608e97213b2fe6d51d2b8975d2d5900d2a2b56c90b78931a136", func := "loop.example/g00950/laws.FnExactEngSnap", spec := "fnExactEngSnap", apart := false, narrowed := true }
def FnExactEngSnapUptoSaid : Prop := fnExactEngSnapUptoRow.holds Try.pinned (OpenSpec.upto fnExactEngSnapSpec)

/-- 'laws.FnExactStoreNew', WHERE WHAT IT READS IS OF BULK AT MOST 1048576: true; the input reads as it did. -/
def fnExactStoreNewUptoRow : OpenClaim := { program := "ytamgnhkgcggbhab", sum := "e850c54e812ed608e97213b2fe6d51d2b8975d2d5900d2a2b56c90b78931a136", func := "loop.example/g00950/laws.FnExactStoreNew", spec := "fnExactStoreNew", apart := false, narrowed := true }
def FnExactStoreNewUptoSaid : Prop := fnExactStoreNewUptoRow.holds Try.pinned (OpenSpec.upto fnExactStoreNewSpec)

/-- 'laws.FnExactEngDrop', WHERE WHAT IT READS IS OF BULK AT MOST 1048576: true; the input reads as it did. -/
def fnExactEngDropUptoRow : OpenClaim := { program := "ytamgnhkgcggbhab", sum := "e850c54e812ed608e97213b2fe6d51d2b8975d2d5900d2a2b56c90b78931a136", func := "loop.example/g00950/laws.FnExactEngDrop", spec := "fnExactEngDrop", apart := false, narrowed := true }
def FnExactEngDropUptoSaid : Prop := fnExactEngDropUptoRow.holds Try.pinned (OpenSpec.upto fnExactEngDropSpec)

/-- 'laws.FnExactEngGet', WHERE WHAT IT READS IS OF BULK AT MOST 1048576: true; the input reads as it did. -/
def fnExactEngGetUptoRow : OpenClaim := { program := "ytamgnhkgcggbhab", sum := "e850c54e812ed608e97213b2fe6d51d2b8975d2d5900d2a2b56c90b78931a136", func := "loop.example/g00950/laws.FnExactEngGet", spec := "fnExactEngGet", unfollowed := true, recurses := true, apart := false, narrowed := true }
def FnExactEngGetUptoSaid : Prop := fnExactEngGetUptoRow.holds Try.pinned (OpenSpec.upto fnExactEngGetSpec)

/-- 'laws.FnExactEngFlush', WHERE WHAT IT READS IS OF BULK AT MOST 1048576: true; the input reads as it did. -/
def fnExactEngFlushUptoRow : OpenClaim := { program := "ytamgnhkgcggbhab", sum := "e850c54e812ed608e97213b2fe6d51d2b8975d2d5900d2a2b56c90b78931a136", func := "loop.example/g00950/laws.FnExactEngFlush", spec := "fnExactEngFlush", inPlace := ["slices.overlaps[[]loop.example/g00950/impl.Ent]"], apart := false, narrowed := true }
def FnExactEngFlushUptoSaid : Prop := fnExactEngFlushUptoRow.holds Try.pinned (OpenSpec.upto fnExactEngFlushSpec)

end Rows
end Go.Proofs.Ytamgnhkgcggbhab
