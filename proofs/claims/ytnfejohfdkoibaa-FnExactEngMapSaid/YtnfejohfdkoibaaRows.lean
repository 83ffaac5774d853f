/-
  No cell of these rows narrows 'for every input' (looked for: loops, veiled, ifaces, maps, wideKeys, modest, calm, conditions, laid).
  DERIVED. THE GIVEN ROWS OF THIS SEAT. 2 by the template 'for every input the law returns true; each argument reads behind the call as it read before'; 0 by the template 'total and deterministic' (their statements: YtnfejohfdkoibaaTotals.lean).
  GIVEN WITH THE SEED: the statements are not yours to turn. If you find one false, say at which input.
  Laid BY PROGRAM, IN A SANDBOX (cutbox-rows.mjs): the forced cells as the released guide's own fill.sh prints them over the translation 700ef51f41a26307… (all of the seat's roots in one cut). By AI agents, Wed Nov 11 2026. No macro, syntax, notation, axiom, sorry.
-/
import Derived.Test.YtnfejohfdkoibaaChecked
import GoSem.Claim
import GoSem.ClaimJoined
import GoSem.ClaimMapViews
import Derived.JoinedTies
import Derived.KernelRfl
namespace Go.Proofs.Ytnfejohfdkoibaa
/- THE CELL 'sum', in the pinned program and in every row, IS THE sha256 OF THE DUMP (.gsa) THAT YtnfejohfdkoibaaProg.lean LOADS. Nothing in Lean hashes anything: it is a label: what it is worth is what the hold of that sum in a sandbox is worth. -/
noncomputable def Try.pinned : Pinned := { name := "ytnfejohfdkoibaa", sum := "700ef51f41a26307e8625b1f4e6e746d328cbb31cec3b39cf809051b76154f86", checked := Try.checked }
namespace Rows
def none {H : Type} : Left H := { results := [], args := [] }

/-- 'laws.FnExactEngGet': WHATEVER THE INPUT: true; the input reads as it did. -/
def fnExactEngGetSpec : ChangeSpec := { name := "fnExactEngGet", fn := fun _ => fun
  | [d1, d2, d3] => { results := [.lit (.bool true)], args := [d1, d2, d3] }
  | _ => none }
def fnExactEngGetRow : OpenClaim := { program := "ytnfejohfdkoibaa", sum := "700ef51f41a26307e8625b1f4e6e746d328cbb31cec3b39cf809051b76154f86", func := "loop.example/g00950/laws.FnExactEngGet", spec := "fnExactEngGet", unfollowed := true, recurses := true, apart := false }
def FnExactEngGetSaid : Prop := fnExactEngGetRow.holds Try.pinned (OpenSpec.ofChange fnExactEngGetSpec)

/-- ITS FALSE NEIGHBOUR: 'it returns false'. Refute it at one input. -/
def fnExactEngGetWrong : ChangeSpec := { name := "fnExactEngGet", fn := fun _ => fun
  | [d1, d2, d3] => { results := [.lit (.bool false)], args := [d1, d2, d3] }
  | _ => none }
def FnExactEngGetWrongFalsely : Prop := fnExactEngGetRow.holds Try.pinned (OpenSpec.ofChange fnExactEngGetWrong)

/-- 'laws.FnExactEngMap': WHATEVER THE INPUT: true; the input reads as it did. -/
def fnExactEngMapSpec : ChangeSpec := { name := "fnExactEngMap", fn := fun _ => fun
  | [d1, d2] => { results := [.lit (.bool true)], args := [d1, d2] }
  | _ => none }
def fnExactEngMapRow : OpenClaim := { program := "ytnfejohfdkoibaa", sum := "700ef51f41a26307e8625b1f4e6e746d328cbb31cec3b39cf809051b76154f86", func := "loop.example/g00950/laws.FnExactEngMap", spec := "fnExactEngMap", unfollowed := true, recurses := true, apart := false }
def FnExactEngMapSaid : Prop := fnExactEngMapRow.holds Try.pinned (OpenSpec.ofChange fnExactEngMapSpec)

/-- ITS FALSE NEIGHBOUR: 'it returns false'. Refute it at one input. -/
def fnExactEngMapWrong : ChangeSpec := { name := "fnExactEngMap", fn := fun _ => fun
  | [d1, d2] => { results := [.lit (.bool false)], args := [d1, d2] }
  | _ => none }
def FnExactEngMapWrongFalsely : Prop := fnExactEngMapRow.holds Try.pinned (OpenSpec.ofChange fnExactEngMapWrong)

/- THE SECOND FORM. 'bulk': how many values and letters a reading holds, each counted each time it is reached (what is shared counts as often as it is met; a slice's spare places count too). A statement '..UptoSaid' is the law's where the arguments, and the package variables that the reading takes, are together of bulk at most 1048576: NARROWER than '..Said'. Prove '..Said' where nothing that the law and all that it calls make is longer than what came in: it says more and counts as full. Else prove '..UptoSaid'. A law counts once. -/
mutual
def uptoBulk {H : Type} : DataW H → Nat
  | .lit (.string bytes) => bytes.length + 1
  | .lit _ => 1
  | .nil => 1
  | .ptr d => uptoBulk d + 1
  | .slice elems spare => uptoBulkAll elems + uptoBulkAll spare + 1
  | .agg parts => uptoBulkAll parts + 1
  | .iface _ d => uptoBulk d + 1
  | .map entries => uptoBulkEntries entries + 1
  | .held _ => 1
def uptoBulkAll {H : Type} : List (DataW H) → Nat
  | [] => 0
  | d :: r => uptoBulk d + uptoBulkAll r
def uptoBulkEntries {H : Type} : List (Lit × DataW H) → Nat
  | [] => 0
  | x :: r => uptoBulkEntry x + uptoBulkEntries r
def uptoBulkEntry {H : Type} : Lit × DataW H → Nat
  | (.string bytes, d) => bytes.length + uptoBulk d + 1
  | (_, d) => uptoBulk d + 1
 end
def uptoSmall : (H : Type) → List (DataW H) → Bool := fun _ ds => decide (uptoBulkAll ds ≤ 1048576)
def OpenSpec.upto (s : _root_.Go.ChangeSpec) : _root_.Go.OpenSpec := { _root_.Go.OpenSpec.ofChange s with cond := some uptoSmall }

/-- 'laws.FnExactEngGet', WHERE WHAT IT READS IS OF BULK AT MOST 1048576: true; the input reads as it did. -/
def fnExactEngGetUptoRow : OpenClaim := { program := "ytnfejohfdkoibaa", sum := "700ef51f41a26307e8625b1f4e6e746d328cbb31cec3b39cf809051b76154f86", func := "loop.example/g00950/laws.FnExactEngGet", spec := "fnExactEngGet", unfollowed := true, recurses := true, apart := false, narrowed := true }
def FnExactEngGetUptoSaid : Prop := fnExactEngGetUptoRow.holds Try.pinned (OpenSpec.upto fnExactEngGetSpec)

/-- 'laws.FnExactEngMap', WHERE WHAT IT READS IS OF BULK AT MOST 1048576: true; the input reads as it did. -/
def fnExactEngMapUptoRow : OpenClaim := { program := "ytnfejohfdkoibaa", sum := "700ef51f41a26307e8625b1f4e6e746d328cbb31cec3b39cf809051b76154f86", func := "loop.example/g00950/laws.FnExactEngMap", spec := "fnExactEngMap", unfollowed := true, recurses := true, apart := false, narrowed := true }
def FnExactEngMapUptoSaid : Prop := fnExactEngMapUptoRow.holds Try.pinned (OpenSpec.upto fnExactEngMapSpec)

end Rows
end Go.Proofs.Ytnfejohfdkoibaa
