/-
  No cell of these rows narrows 'for every input' (looked for: loops, veiled, ifaces, maps, wideKeys, modest, calm, conditions, laid).
  DERIVED. THE GIVEN ROWS OF THIS SEAT. 6 by the template 'for every input the law returns true; each argument reads behind the call as it read before'; 0 by the template 'total and deterministic' (their statements: YtamgnhkgcggbhaaTotals.lean).
  GIVEN WITH THE SEED: the statements are not yours to turn. If you find one false, say at which input.
  Laid BY PROGRAM, IN A SANDBOX (cutbox-rows.mjs): the forced cells as the released guide's own fill.sh prints them over the translation e2f4eb9896d4e28a… (all of the seat's roots in one cut). By AI agents, Wed Nov 11 2026. No macro, syntax, notation, axiom, sorry.
-/
import Derived.Test.YtamgnhkgcggbhaaChecked
import GoSem.Claim
import GoSem.ClaimJoined
import GoSem.ClaimMapViews
import Derived.JoinedTies
import Derived.KernelRfl
namespace Go.Proofs.Ytamgnhkgcggbhaa
/- THE CELL 'sum', in the pinned program and in every row, IS THE sha256 OF THE DUMP (.gsa) THAT YtamgnhkgcggbhaaProg.lean LOADS. Nothing in Lean hashes anything: it is a label: what it is worth is what the hold of that sum in a sandbox is worth. -/
noncomputable def Try.pinned : Pinned := { name := "ytamgnhkgcggbhaa", sum := "e2f4eb9896d4e28a5818e42bbe620eaba09f3c4f03a493bc5b41fc261bdbba00", checked := Try.checked }
namespace Rows
def none {H : Type} : Left H := { results := [], args := [] }

/-- 'laws.FnExactShowEdit': WHATEVER THE INPUT: true; the input reads as it did. -/
def fnExactShowEditSpec : ChangeSpec := { name := "fnExactShowEdit", fn := fun _ => fun
  | [d] => { results := [.lit (.bool true)], args := [d] }
  | _ => none }
def fnExactShowEditRow : OpenClaim := { program := "ytamgnhkgcggbhaa", sum := "e2f4eb9896d4e28a5818e42bbe620eaba09f3c4f03a493bc5b41fc261bdbba00", func := "loop.example/g00950/laws.FnExactShowEdit", spec := "fnExactShowEdit", inPlace := ["internal/abi.NoEscape"], apart := false }
def FnExactShowEditSaid : Prop := fnExactShowEditRow.holds Try.pinned (OpenSpec.ofChange fnExactShowEditSpec)

/-- ITS FALSE NEIGHBOUR: 'it returns false'. Refute it at one input. -/
def fnExactShowEditWrong : ChangeSpec := { name := "fnExactShowEdit", fn := fun _ => fun
  | [d] => { results := [.lit (.bool false)], args := [d] }
  | _ => none }
def FnExactShowEditWrongFalsely : Prop := fnExactShowEditRow.holds Try.pinned (OpenSpec.ofChange fnExactShowEditWrong)

/-- 'laws.FnExactEngOk': WHATEVER THE INPUT: true; the input reads as it did. -/
def fnExactEngOkSpec : ChangeSpec := { name := "fnExactEngOk", fn := fun _ => fun
  | [d] => { results := [.lit (.bool true)], args := [d] }
  | _ => none }
def fnExactEngOkRow : OpenClaim := { program := "ytamgnhkgcggbhaa", sum := "e2f4eb9896d4e28a5818e42bbe620eaba09f3c4f03a493bc5b41fc261bdbba00", func := "loop.example/g00950/laws.FnExactEngOk", spec := "fnExactEngOk", apart := false }
def FnExactEngOkSaid : Prop := fnExactEngOkRow.holds Try.pinned (OpenSpec.ofChange fnExactEngOkSpec)

/-- ITS FALSE NEIGHBOUR: 'it returns false'. Refute it at one input. -/
def fnExactEngOkWrong : ChangeSpec := { name := "fnExactEngOk", fn := fun _ => fun
  | [d] => { results := [.lit (.bool false)], args := [d] }
  | _ => none }
def FnExactEngOkWrongFalsely : Prop := fnExactEngOkRow.holds Try.pinned (OpenSpec.ofChange fnExactEngOkWrong)

/-- 'laws.FnExactStreamOf': WHATEVER THE INPUT: true; the input reads as it did. -/
def fnExactStreamOfSpec : ChangeSpec := { name := "fnExactStreamOf", fn := fun _ => fun
  | [d1, d2] => { results := [.lit (.bool true)], args := [d1, d2] }
  | _ => none }
def fnExactStreamOfRow : OpenClaim := { program := "ytamgnhkgcggbhaa", sum := "e2f4eb9896d4e28a5818e42bbe620eaba09f3c4f03a493bc5b41fc261bdbba00", func := "loop.example/g00950/laws.FnExactStreamOf", spec := "fnExactStreamOf", inPlace := ["internal/abi.NoEscape", "internal/bytealg.MakeNoZero"], apart := false }
def FnExactStreamOfSaid : Prop := fnExactStreamOfRow.holds Try.pinned (OpenSpec.ofChange fnExactStreamOfSpec)

/-- ITS FALSE NEIGHBOUR: 'it returns false'. Refute it at one input. -/
def fnExactStreamOfWrong : ChangeSpec := { name := "fnExactStreamOf", fn := fun _ => fun
  | [d1, d2] => { results := [.lit (.bool false)], args := [d1, d2] }
  | _ => none }
def FnExactStreamOfWrongFalsely : Prop := fnExactStreamOfRow.holds Try.pinned (OpenSpec.ofChange fnExactStreamOfWrong)

/-- 'laws.FnExactModelNew': WHATEVER THE INPUT: true; the input reads as it did. -/
def fnExactModelNewSpec : ChangeSpec := { name := "fnExactModelNew", fn := fun _ => fun
  | [d1, d2] => { results := [.lit (.bool true)], args := [d1, d2] }
  | _ => none }
def fnExactModelNewRow : OpenClaim := { program := "ytamgnhkgcggbhaa", sum := "e2f4eb9896d4e28a5818e42bbe620eaba09f3c4f03a493bc5b41fc261bdbba00", func := "loop.example/g00950/laws.FnExactModelNew", spec := "fnExactModelNew", apart := false }
def FnExactModelNewSaid : Prop := fnExactModelNewRow.holds Try.pinned (OpenSpec.ofChange fnExactModelNewSpec)

/-- ITS FALSE NEIGHBOUR: 'it returns false'. Refute it at one input. -/
def fnExactModelNewWrong : ChangeSpec := { name := "fnExactModelNew", fn := fun _ => fun
  | [d1, d2] => { results := [.lit (.bool false)], args := [d1, d2] }
  | _ => none }
def FnExactModelNewWrongFalsely : Prop := fnExactModelNewRow.holds Try.pinned (OpenSpec.ofChange fnExactModelNewWrong)

/-- 'laws.FnExactWhose': WHATEVER THE INPUT: true; the input reads as it did. -/
def fnExactWhoseSpec : ChangeSpec := { name := "fnExactWhose", fn := fun _ => fun
  | [d1, d2] => { results := [.lit (.bool true)], args := [d1, d2] }
  | _ => none }
def fnExactWhoseRow : OpenClaim := { program := "ytamgnhkgcggbhaa", sum := "e2f4eb9896d4e28a5818e42bbe620eaba09f3c4f03a493bc5b41fc261bdbba00", func := "loop.example/g00950/laws.FnExactWhose", spec := "fnExactWhose", apart := false }
def FnExactWhoseSaid : Prop := fnExactWhoseRow.holds Try.pinned (OpenSpec.ofChange fnExactWhoseSpec)

/-- ITS FALSE NEIGHBOUR: 'it returns false'. Refute it at one input. -/
def fnExactWhoseWrong : ChangeSpec := { name := "fnExactWhose", fn := fun _ => fun
  | [d1, d2] => { results := [.lit (.bool false)], args := [d1, d2] }
  | _ => none }
def FnExactWhoseWrongFalsely : Prop := fnExactWhoseRow.holds Try.pinned (OpenSpec.ofChange fnExactWhoseWrong)

/-- 'laws.FnExactReadEdit': WHATEVER THE INPUT: true; the input reads as it did. -/
def fnExactReadEditSpec : ChangeSpec := { name := "fnExactReadEdit", fn := fun _ => fun
  | [d] => { results := [.lit (.bool true)], args := [d] }
  | _ => none }
def fnExactReadEditRow : OpenClaim := { program := "ytamgnhkgcggbhaa", sum := "e2f4eb9896d4e28a5818e42bbe620eaba09f3c4f03a493bc5b41fc261bdbba00", func := "loop.example/g00950/laws.FnExactReadEdit", spec := "fnExactReadEdit", inPlace := ["internal/abi.NoEscape"], apart := false }
def FnExactReadEditSaid : Prop := fnExactReadEditRow.holds Try.pinned (OpenSpec.ofChange fnExactReadEditSpec)

/-- ITS FALSE NEIGHBOUR: 'it returns false'. Refute it at one input. -/
def fnExactReadEditWrong : ChangeSpec := { name := "fnExactReadEdit", fn := fun _ => fun
  | [d] => { results := [.lit (.bool false)], args := [d] }
  | _ => none }
def FnExactReadEditWrongFalsely : Prop := fnExactReadEditRow.holds Try.pinned (OpenSpec.ofChange fnExactReadEditWrong)

/- THE SECOND FORM. 'bulk': how many values and letters a reading holds, each counted each time it is reached (what is shared counts as often as it is met; a slice's spare places count too). A statement '..UptoSaid' is the law's where the arguments, and the package variables that the reading takes, are together of bulk at most 1048576: NARROWER than '..Said'. Prove '..Said' where nothing that the law and all that it calls make is longer than what came in: it says more and counts as full. Else prove '..UptoSaid'. A law counts once. -/
mutual
def uptoBulk {H : Type} : DataW H → Nat
  | .lit (.string bytes) => bytes.length + 1
  | .lit _ => 1
  | .nil => 1
  | .ptr d => uptoBulk d + 1
  | .slice elems spare => uptoBulkAll elems + uptoBulkAll spare + 1
  | .agg parts => uptoBulkAll parts + 1
  | .iface _ d => uptoBulk d + 1
  | .map entries => uptoBulkEntries entries + 1
  | .held _ => 1
def uptoBulkAll {H : Type} : List (DataW H) → Nat
  | [] => 0
  | d :: r => uptoBulk d + uptoBulkAll r
def uptoBulkEntries {H : Type} : List (Lit × DataW H) → Nat
  | [] => 0
  | x :: r => uptoBulkEntry x + uptoBulkEntries r
def uptoBulkEntry {H : Type} : Lit × DataW H → Nat
  | (.string bytes, d) => bytes.length + uptoBulk d + 1
  | (_, d) => uptoBulk d + 1
 end
def uptoSmall : (H : Type) → List (DataW H) → Bool := fun _ ds => decide (uptoBulkAll ds ≤ 1048576)
def OpenSpec.upto (s : _root_.Go.ChangeSpec) : _root_.Go.OpenSpec := { _root_.Go.OpenSpec.ofChange s with cond := some uptoSmall }

/-- 'laws.FnExactShowEdit', WHERE WHAT IT READS IS OF BULK AT MOST 1048576: true; the input reads as it did. -/
def fnExactShowEditUptoRow : OpenClaim := { program := "ytamgnhkgcggbhaa", sum := "e2f4eb9896d4e28a5818e42bbe620eaba09f3c4f03a493bc5b41fc261bdbba00", func := "loop.example/g00950/laws.FnExactShowEdit", spec := "fnExactShowEdit", inPlace := ["internal/abi.NoEscape"], apart := false, narrowed := true }
def FnExactShowEditUptoSaid : Prop := fnExactShowEditUptoRow.holds Try.pinned (OpenSpec.upto fnExactShowEditSpec)

/-- 'laws.FnExactEngOk', WHERE WHAT IT READS IS OF BULK AT MOST 1048576: true; the input reads as it did. -/
def fnExactEngOkUptoRow : OpenClaim := { program := "ytamgnhkgcggbhaa", sum := "e2f4eb9896d4e28a5818e42bbe620eaba09f3c4f03a493bc5b41fc261bdbba00", func := "loop.example/g00950/laws.FnExactEngOk", spec := "fnExactEngOk", apart := false, narrowed := true }
def FnExactEngOkUptoSaid : Prop := fnExactEngOkUptoRow.holds Try.pinned (OpenSpec.upto fnExactEngOkSpec)

/-- 'laws.FnExactStreamOf', WHERE WHAT IT READS IS OF BULK AT MOST 1048576: true; the input reads as it did. -/
def fnExactStreamOfUptoRow : OpenClaim := { program := "ytamgnhkgcggbhaa", sum := "e2f4eb9896d4e28a5818e42bbe620eaba09f3c4f03a493bc5b41fc261bdbba00", func := "loop.example/g00950/laws.FnExactStreamOf", spec := "fnExactStreamOf", inPlace := ["internal/abi.NoEscape", "internal/bytealg.MakeNoZero"], apart := false, narrowed := true }
def FnExactStreamOfUptoSaid : Prop := fnExactStreamOfUptoRow.holds Try.pinned (OpenSpec.upto fnExactStreamOfSpec)

/-- 'laws.FnExactModelNew', WHERE WHAT IT READS IS OF BULK AT MOST 1048576: true; the input reads as it did. -/
def fnExactModelNewUptoRow : OpenClaim := { program := "ytamgnhkgcggbhaa", sum := "e2f4eb9896d4e28a5818e42bbe620eaba09f3c4f03a493bc5b41fc261bdbba00", func := "loop.example/g00950/laws.FnExactModelNew", spec := "fnExactModelNew", apart := false, narrowed := true }
def FnExactModelNewUptoSaid : Prop := fnExactModelNewUptoRow.holds Try.pinned (OpenSpec.upto fnExactModelNewSpec)

/-- 'laws.FnExactWhose', WHERE WHAT IT READS IS OF BULK AT MOST 1048576: true; the input reads as it did. -/
def fnExactWhoseUptoRow : OpenClaim := { program := "ytamgnhkgcggbhaa", sum := "e2f4eb9896d4e28a5818e42bbe620eaba09f3c4f03a493bc5b41fc261bdbba00", func := "loop.example/g00950/laws.FnExactWhose", spec := "fnExactWhose", apart := false, narrowed := true }
def FnExactWhoseUptoSaid : Prop := fnExactWhoseUptoRow.holds Try.pinned (OpenSpec.upto fnExactWhoseSpec)

/-- 'laws.FnExactReadEdit', WHERE WHAT IT READS IS OF BULK AT MOST 1048576: true; the input reads as it did. -/
def fnExactReadEditUptoRow : OpenClaim := { program := "ytamgnhkgcggbhaa", sum := "e2f4eb9896d4e28a5818e42bbe620eaba09f3c4f03a493bc5b41fc261bdbba00", func := "loop.example/g00950/laws.FnExactReadEdit", spec := "fnExactReadEdit", inPlace := ["internal/abi.NoEscape"], apart := false, narrowed := true }
def FnExactReadEditUptoSaid : Prop := fnExactReadEditUptoRow.holds Try.pinned (OpenSpec.upto fnExactReadEditSpec)

end Rows
end Go.Proofs.Ytamgnhkgcggbhaa
