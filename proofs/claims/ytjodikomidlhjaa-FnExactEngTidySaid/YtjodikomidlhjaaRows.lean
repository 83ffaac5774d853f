/-
  No cell of these rows narrows 'for every input' (looked for: loops, veiled, ifaces, maps, wideKeys, modest, calm, conditions, laid).
  DERIVED. THE GIVEN ROWS OF THIS SEAT. 4 by the template 'for every input the law returns true; each argument reads behind the call as it read before'; 0 by the template 'total and deterministic' (their statements: YtjodikomidlhjaaTotals.lean).
  GIVEN WITH THE SEED: the statements are not yours to turn. If you find one false, say at which input.
  Laid BY PROGRAM, IN A SANDBOX (cutbox-rows.mjs): the forced cells as the released guide's own fill.sh prints them over the translation ec98dfbf308d265e… (all of the seat's roots in one cut). By AI agents, Wed Nov 11 2026. No macro, syntax, notation, axiom, sorry.
-/
import Derived.Test.YtjodikomidlhjaaChecked
import GoSem.Claim
import GoSem.ClaimJoined
import GoSem.ClaimMapViews
import Derived.JoinedTies
import Derived.KernelRfl
namespace Go.Proofs.Ytjodikomidlhjaa
/- THE CELL 'sum', in the pinned program and in every row, IS THE sha256 OF THE DUMP (.gsa) THAT YtjodikomidlhjaaProg.lean LOADS. Nothing in Lean hashes anything: it is a label: what it is worth is what the hold of that sum in a sandbox is worth. -/
noncomputable def Try.pinned : Pinned := { name := "ytjodikomidlhjaa", sum := "ec98dfbf308d265e0b19f22461553b428e478d4c6753429d736dd41c9346224b", checked := Try.checked }
namespace Rows
def none {H : Type} : Left H := { results := [], args := [] }

/-- 'laws.FnExactEngMerge': WHATEVER THE INPUT: true; the input reads as it did. -/
def fnExactEngMergeSpec : ChangeSpec := { name := "fnExactEngMerge", fn := fun _ => fun
  | [d] => { results := [.lit (.bool true)], args := [d] }
  | _ => none }
def fnExactEngMergeRow : OpenClaim := { program := "ytjodikomidlhjaa", sum := "ec98dfbf308d265e0b19f22461553b428e478d4c6753429d736dd41c9346224b", func := "loop.example/g00950/laws.FnExactEngMerge", spec := "fnExactEngMerge", unfollowed := true, recurses := true, apart := false }
def FnExactEngMergeSaid : Prop := fnExactEngMergeRow.holds Try.pinned (OpenSpec.ofChange fnExactEngMergeSpec)

/-- ITS FALSE NEIGHBOUR: 'it returns false'. Refute it at one input. -/
def fnExactEngMergeWrong : ChangeSpec := { name := "fnExactEngMerge", fn := fun _ => fun
  | [d] => { results := [.lit (.bool false)], args := [d] }
  | _ => none }
def FnExactEngMergeWrongFalsely : Prop := fnExactEngMergeRow.holds Try.pinned (OpenSpec.ofChange fnExactEngMergeWrong)

/-- 'laws.FnExactEngTidy': WHATEVER THE INPUT: true; the input reads as it did. -/
def fnExactEngTidySpec : ChangeSpec := { name := "fnExactEngTidy", fn := fun _ => fun
  | [d] => { results := [.lit (.bool true)], args := [d] }
  | _ => none }
def fnExactEngTidyRow : OpenClaim := { program := "ytjodikomidlhjaa", sum := "ec98dfbf308d265e0b19f22461553b428e478d4c6753429d736dd41c9346224b", func := "loop.example/g00950/laws.FnExactEngTidy", spec := "fnExactEngTidy", inPlace := ["slices.overlaps[[]loop.example/g00950/impl.Ent]"], unfollowed := true, recurses := true, apart := false }
def FnExactEngTidySaid : Prop := fnExactEngTidyRow.holds Try.pinned (OpenSpec.ofChange fnExactEngTidySpec)

/-- ITS FALSE NEIGHBOUR: 'it returns false'. Refute it at one input. -/
def fnExactEngTidyWrong : ChangeSpec := { name := "fnExactEngTidy", fn := fun _ => fun
  | [d] => { results := [.lit (.bool false)], args := [d] }
  | _ => none }
def FnExactEngTidyWrongFalsely : Prop := fnExactEngTidyRow.holds Try.pinned (OpenSpec.ofChange fnExactEngTidyWrong)

/-- 'laws.FnExactMergeEnts': WHATEVER THE INPUT: true; the input reads as it did. -/
def fnExactMergeEntsSpec : ChangeSpec := { name := "fnExactMergeEnts", fn := fun _ => fun
  | [d] => { results := [.lit (.bool true)], args := [d] }
  | _ => none }
def fnExactMergeEntsRow : OpenClaim := { program := "ytjodikomidlhjaa", sum := "ec98dfbf308d265e0b19f22461553b428e478d4c6753429d736dd41c9346224b", func := "loop.example/g00950/laws.FnExactMergeEnts", spec := "fnExactMergeEnts", unfollowed := true, recurses := true, apart := false }
def FnExactMergeEntsSaid : Prop := fnExactMergeEntsRow.holds Try.pinned (OpenSpec.ofChange fnExactMergeEntsSpec)

/-- ITS FALSE NEIGHBOUR: 'it returns false'. Refute it at one input. -/
def fnExactMergeEntsWrong : ChangeSpec := { name := "fnExactMergeEnts", fn := fun _ => fun
  | [d] => { results := [.lit (.bool false)], args := [d] }
  | _ => none }
def FnExactMergeEntsWrongFalsely : Prop := fnExactMergeEntsRow.holds Try.pinned (OpenSpec.ofChange fnExactMergeEntsWrong)

/-- 'laws.FnMerge': WHATEVER THE INPUT: true; the input reads as it did. -/
def fnMergeSpec : ChangeSpec := { name := "fnMerge", fn := fun _ => fun
  | [d] => { results := [.lit (.bool true)], args := [d] }
  | _ => none }
def fnMergeRow : OpenClaim := { program := "ytjodikomidlhjaa", sum := "ec98dfbf308d265e0b19f22461553b428e478d4c6753429d736dd41c9346224b", func := "loop.example/g00950/laws.FnMerge", spec := "fnMerge", unfollowed := true, recurses := true, apart := false }
def FnMergeSaid : Prop := fnMergeRow.holds Try.pinned (OpenSpec.ofChange fnMergeSpec)

/-- ITS FALSE NEIGHBOUR: 'it returns false'. Refute it at one input. -/
def fnMergeWrong : ChangeSpec := { name := "fnMerge", fn := fun _ => fun
  | [d] => { results := [.lit (.bool false)], args := [d] }
  | _ => none }
def FnMergeWrongFalsely : Prop := fnMergeRow.holds Try.pinned (OpenSpec.ofChange fnMergeWrong)

/- THE SECOND FORM. 'bulk': how many values and letters a reading holds, each counted each time it is reached (what is shared counts as often as it is met; a slice's spare places count too). A statement '..UptoSaid' is the law's where the arguments, and the package variables that the reading takes, are together of bulk at most 1048576: NARROWER than '..Said'. Prove '..Said' where nothing that the law and all that it calls make is longer than what came in: it says more and counts as full. Else prove '..UptoSaid'. A law counts once. -/
mutual
def uptoBulk {H : Type} : DataW H → Nat
  | .lit (.string bytes) => bytes.length + 1
  | .lit _ => 1
  | .nil => 1
  | .ptr d => uptoBulk d + 1
  | .slice elems spare => uptoBulkAll elems + uptoBulkAll spare + 1
  | .agg parts => uptoBulkAll parts + 1
  | .iface _ d => uptoBulk d + 1
  | .map entries => uptoBulkEntries entries + 1
  | .held _ => 1
def uptoBulkAll {H : Type} : List (DataW H) → Nat
  | [] => 0
  | d :: r => uptoBulk d + uptoBulkAll r
def uptoBulkEntries {H : Type} : List (Lit × DataW H) → Nat
  | [] => 0
  | x :: r => uptoBulkEntry x + uptoBulkEntries r
def uptoBulkEntry {H : Type} : Lit × DataW H → Nat
  | (.string bytes, d) => bytes.length + uptoBulk d + 1
  | (_, d) => uptoBulk d + 1
 end
def uptoSmall : (H : Type) → List (DataW H) → Bool := fun _ ds => decide (uptoBulkAll ds ≤ 1048576)
def OpenSpec.upto (s : _root_.Go.ChangeSpec) : _root_.Go.OpenSpec := { _root_.Go.OpenSpec.ofChange s with cond := some uptoSmall }

/-- 'laws.FnExactEngMerge', WHERE WHAT IT READS IS OF BULK AT MOST 1048576: true; the input reads as it did. -/
def fnExactEngMergeUptoRow : OpenClaim := { program := "ytjodikomidlhjaa", sum := "ec98dfbf308d265e0b19f22461553b428e478d4c6753429d736dd41c9346224b", func := "loop.example/g00950/laws.FnExactEngMerge", spec := "fnExactEngMerge", unfollowed := true, recurses := true, apart := false, narrowed := true }
def FnExactEngMergeUptoSaid : Prop := fnExactEngMergeUptoRow.holds Try.pinned (OpenSpec.upto fnExactEngMergeSpec)

/-- 'laws.FnExactEngTidy', WHERE WHAT IT READS IS OF BULK AT MOST 1048576: true; the input reads as it did. -/
def fnExactEngTidyUptoRow : OpenClaim := { program := "ytjodikomidlhjaa", sum := "ec98dfbf308d265e0b19f22461553b428e478d4c6753429d736dd41c9346224b", func := "loop.example/g00950/laws.FnExactEngTidy", spec := "fnExactEngTidy", inPlace := ["slices.overlaps[[]loop.example/g00950/impl.Ent]"], unfollowed := true, recurses := true, apart := false, narrowed := true }
def FnExactEngTidyUptoSaid : Prop := fnExactEngTidyUptoRow.holds Try.pinned (OpenSpec.upto fnExactEngTidySpec)

/-- 'laws.FnExactMergeEnts', WHERE WHAT IT READS IS OF BULK AT MOST 1048576: true; the input reads as it did. -/
def fnExactMergeEntsUptoRow : OpenClaim := { program := "ytjodikomidlhjaa", sum := "ec98dfbf308d265e0b19f22461553b428e478d4c6753429d736dd41c9346224b", func := "loop.example/g00950/laws.FnExactMergeEnts", spec := "fnExactMergeEnts", unfollowed := true, recurses := true, apart := false, narrowed := true }
def FnExactMergeEntsUptoSaid : Prop := fnExactMergeEntsUptoRow.holds Try.pinned (OpenSpec.upto fnExactMergeEntsSpec)

/-- 'laws.FnMerge', WHERE WHAT IT READS IS OF BULK AT MOST 1048576: true; the input reads as it did. -/
def fnMergeUptoRow : OpenClaim := { program := "ytjodikomidlhjaa", sum := "ec98dfbf308d265e0b19f22461553b428e478d4c6753429d736dd41c9346224b", func := "loop.example/g00950/laws.FnMerge", spec := "fnMerge", unfollowed := true, recurses := true, apart := false, narrowed := true }
def FnMergeUptoSaid : Prop := fnMergeUptoRow.holds Try.pinned (OpenSpec.upto fnMergeSpec)

end Rows
end Go.Proofs.Ytjodikomidlhjaa
