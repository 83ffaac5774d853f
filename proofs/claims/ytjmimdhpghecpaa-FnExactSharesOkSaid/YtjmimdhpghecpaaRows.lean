/-
  No cell of these rows narrows 'for every input' (looked for: loops, veiled, ifaces, maps, wideKeys, modest, calm, conditions, laid).
  DERIVED. THE GIVEN ROWS OF THIS SEAT. 6 by the template 'for every input the law returns true; each argument reads behind the call as it read before'; 0 by the template 'total and deterministic' (their statements: YtjmimdhpghecpaaTotals.lean).
  GIVEN WITH THE SEED: the statements are not yours to turn. If you find one false, say at which input.
  Laid BY PROGRAM, IN A SANDBOX (cutbox-rows.mjs): the forced cells as the released guide's own fill.sh prints them over the translation b2b121f32c9da2c0… (all of the seat's roots in one cut). By AI agents, Wed Nov 11 2026. No macro, syntax, notation, axiom, sorry.
-/
import Derived.Test.YtjmimdhpghecpaaChecked
import GoSem.Claim
import GoSem.ClaimJoined
import GoSem.ClaimMapViews
import Derived.JoinedTies
import Derived.KernelRfl
namespace Go.Proofs.Ytjmimdhpghecpaa
/- THE CELL 'sum', in the pinned program and in every row, IS THE sha256 OF THE DUMP (.gsa) THAT YtjmimdhpghecpaaProg.lean LOADS. Nothing in Lean hashes anything: it is a label: what it is worth is what the hold of that sum in a sandbox is worth. -/
noncomputable def Try.pinned : Pinned := { name := "ytjmimdhpghecpaa", sum := "b2b121f32c9da2c01626be0de2ea8e0fef66ca0863c2f93ccfa38d711d8f1006", checked := Try.checked }
namespace Rows
def none {H : Type} : Left H := { results := [], args := [] }

/-- 'laws.FnExactNeed': WHATEVER THE INPUT: true; the input reads as it did. -/
def fnExactNeedSpec : ChangeSpec := { name := "fnExactNeed", fn := fun _ => fun
  | [d] => { results := [.lit (.bool true)], args := [d] }
  | _ => none }
def fnExactNeedRow : OpenClaim := { program := "ytjmimdhpghecpaa", sum := "b2b121f32c9da2c01626be0de2ea8e0fef66ca0863c2f93ccfa38d711d8f1006", func := "loop.example/g00950/laws.FnExactNeed", spec := "fnExactNeed", plainKeys := false, apart := false }
def FnExactNeedSaid : Prop := fnExactNeedRow.holds Try.pinned (OpenSpec.ofChange fnExactNeedSpec)

/-- ITS FALSE NEIGHBOUR: 'it returns false'. Refute it at one input. -/
def fnExactNeedWrong : ChangeSpec := { name := "fnExactNeed", fn := fun _ => fun
  | [d] => { results := [.lit (.bool false)], args := [d] }
  | _ => none }
def FnExactNeedWrongFalsely : Prop := fnExactNeedRow.holds Try.pinned (OpenSpec.ofChange fnExactNeedWrong)

/-- 'laws.FnExactSpaceOk': WHATEVER THE INPUT: true; the input reads as it did. -/
def fnExactSpaceOkSpec : ChangeSpec := { name := "fnExactSpaceOk", fn := fun _ => fun
  | [d] => { results := [.lit (.bool true)], args := [d] }
  | _ => none }
def fnExactSpaceOkRow : OpenClaim := { program := "ytjmimdhpghecpaa", sum := "b2b121f32c9da2c01626be0de2ea8e0fef66ca0863c2f93ccfa38d711d8f1006", func := "loop.example/g00950/laws.FnExactSpaceOk", spec := "fnExactSpaceOk", plainKeys := false, apart := false }
def FnExactSpaceOkSaid : Prop := fnExactSpaceOkRow.holds Try.pinned (OpenSpec.ofChange fnExactSpaceOkSpec)

/-- ITS FALSE NEIGHBOUR: 'it returns false'. Refute it at one input. -/
def fnExactSpaceOkWrong : ChangeSpec := { name := "fnExactSpaceOk", fn := fun _ => fun
  | [d] => { results := [.lit (.bool false)], args := [d] }
  | _ => none }
def FnExactSpaceOkWrongFalsely : Prop := fnExactSpaceOkRow.holds Try.pinned (OpenSpec.ofChange fnExactSpaceOkWrong)

/-- 'laws.FnExactTwice': WHATEVER THE INPUT: true; the input reads as it did. -/
def fnExactTwiceSpec : ChangeSpec := { name := "fnExactTwice", fn := fun _ => fun
  | [d] => { results := [.lit (.bool true)], args := [d] }
  | _ => none }
def fnExactTwiceRow : OpenClaim := { program := "ytjmimdhpghecpaa", sum := "b2b121f32c9da2c01626be0de2ea8e0fef66ca0863c2f93ccfa38d711d8f1006", func := "loop.example/g00950/laws.FnExactTwice", spec := "fnExactTwice", plainKeys := false, apart := false }
def FnExactTwiceSaid : Prop := fnExactTwiceRow.holds Try.pinned (OpenSpec.ofChange fnExactTwiceSpec)

/-- ITS FALSE NEIGHBOUR: 'it returns false'. Refute it at one input. -/
def fnExactTwiceWrong : ChangeSpec := { name := "fnExactTwice", fn := fun _ => fun
  | [d] => { results := [.lit (.bool false)], args := [d] }
  | _ => none }
def FnExactTwiceWrongFalsely : Prop := fnExactTwiceRow.holds Try.pinned (OpenSpec.ofChange fnExactTwiceWrong)

/-- 'laws.FnExactSharesOk': WHATEVER THE INPUT: true; the input reads as it did. -/
def fnExactSharesOkSpec : ChangeSpec := { name := "fnExactSharesOk", fn := fun _ => fun
  | [d] => { results := [.lit (.bool true)], args := [d] }
  | _ => none }
def fnExactSharesOkRow : OpenClaim := { program := "ytjmimdhpghecpaa", sum := "b2b121f32c9da2c01626be0de2ea8e0fef66ca0863c2f93ccfa38d711d8f1006", func := "loop.example/g00950/laws.FnExactSharesOk", spec := "fnExactSharesOk", plainKeys := false, apart := false }
def FnExactSharesOkSaid : Prop := fnExactSharesOkRow.holds Try.pinned (OpenSpec.ofChange fnExactSharesOkSpec)

/-- ITS FALSE NEIGHBOUR: 'it returns false'. Refute it at one input. -/
def fnExactSharesOkWrong : ChangeSpec := { name := "fnExactSharesOk", fn := fun _ => fun
  | [d] => { results := [.lit (.bool false)], args := [d] }
  | _ => none }
def FnExactSharesOkWrongFalsely : Prop := fnExactSharesOkRow.holds Try.pinned (OpenSpec.ofChange fnExactSharesOkWrong)

/-- 'laws.FnExactSpaceGive': WHATEVER THE INPUT: true; the input reads as it did. -/
def fnExactSpaceGiveSpec : ChangeSpec := { name := "fnExactSpaceGive", fn := fun _ => fun
  | [d1, d2, d3] => { results := [.lit (.bool true)], args := [d1, d2, d3] }
  | _ => none }
def fnExactSpaceGiveRow : OpenClaim := { program := "ytjmimdhpghecpaa", sum := "b2b121f32c9da2c01626be0de2ea8e0fef66ca0863c2f93ccfa38d711d8f1006", func := "loop.example/g00950/laws.FnExactSpaceGive", spec := "fnExactSpaceGive", plainKeys := false, apart := false }
def FnExactSpaceGiveSaid : Prop := fnExactSpaceGiveRow.holds Try.pinned (OpenSpec.ofChange fnExactSpaceGiveSpec)

/-- ITS FALSE NEIGHBOUR: 'it returns false'. Refute it at one input. -/
def fnExactSpaceGiveWrong : ChangeSpec := { name := "fnExactSpaceGive", fn := fun _ => fun
  | [d1, d2, d3] => { results := [.lit (.bool false)], args := [d1, d2, d3] }
  | _ => none }
def FnExactSpaceGiveWrongFalsely : Prop := fnExactSpaceGiveRow.holds Try.pinned (OpenSpec.ofChange fnExactSpaceGiveWrong)

/-- 'laws.FnExactLens': WHATEVER THE INPUT: true; the input reads as it did. -/
def fnExactLensSpec : ChangeSpec := { name := "fnExactLens", fn := fun _ => fun
  | [d1, d2] => { results := [.lit (.bool true)], args := [d1, d2] }
  | _ => none }
def fnExactLensRow : OpenClaim := { program := "ytjmimdhpghecpaa", sum := "b2b121f32c9da2c01626be0de2ea8e0fef66ca0863c2f93ccfa38d711d8f1006", func := "loop.example/g00950/laws.FnExactLens", spec := "fnExactLens", plainKeys := false, apart := false }
def FnExactLensSaid : Prop := fnExactLensRow.holds Try.pinned (OpenSpec.ofChange fnExactLensSpec)

/-- ITS FALSE NEIGHBOUR: 'it returns false'. Refute it at one input. -/
def fnExactLensWrong : ChangeSpec := { name := "fnExactLens", fn := fun _ => fun
  | [d1, d2] => { results := [.lit (.bool false)], args := [d1, d2] }
  | _ => none }
def FnExactLensWrongFalsely : Prop := fnExactLensRow.holds Try.pinned (OpenSpec.ofChange fnExactLensWrong)

/- THE SECOND FORM. 'bulk': how many values and letters a reading holds, each counted each time it is reached (what is shared counts as often as it is met; a slice's spare places count too). A statement '..UptoSaid' is the law's where the arguments, and the package variables that the reading takes, are together of bulk at most 1048576: NARROWER than '..Said'. Prove '..Said' where nothing that the law and all that it calls make is longer than what came in: it says more and counts as full. Else prove '..UptoSaid'. A law counts once. -/
mutual
def uptoBulk {H : Type} : DataW H → Nat
  | .lit (.string bytes) => bytes.length + 1
  | .lit _ => 1
  | .nil => 1
  | .ptr d => uptoBulk d + 1
  | .slice elems spare => uptoBulkAll elems + uptoBulkAll spare + 1
  | .agg parts => uptoBulkAll parts + 1
  | .iface _ d => uptoBulk d + 1
  | .map entries => uptoBulkEntries entries + 1
  | .held _ => 1
def uptoBulkAll {H : Type} : List (DataW H) → Nat
  | [] => 0
  | d :: r => uptoBulk d + uptoBulkAll r
def uptoBulkEntries {H : Type} : List (Lit × DataW H) → Nat
  | [] => 0
  | x :: r => uptoBulkEntry x + uptoBulkEntries r
def uptoBulkEntry {H : Type} : Lit × DataW H → Nat
  | (.string bytes, d) => bytes.length + uptoBulk d + 1
  | (_, d) => uptoBulk d + 1
 end
def uptoSmall : (H : Type) → List (DataW H) → Bool := fun _ ds => decide (uptoBulkAll ds ≤ 1048576)
def OpenSpec.upto (s : _root_.Go.ChangeSpec) : _root_.Go.OpenSpec := { _root_.Go.OpenSpec.ofChange s with cond := some uptoSmall }

/-- 'laws.FnExactNeed', WHERE WHAT IT READS IS OF BULK AT MOST 1048576: true; the input reads as it did. -/
def fnExactNeedUptoRow : OpenClaim := { program := "ytjmimdhpghecpaa", sum := "b2b121f32c9da2c01626be0de2ea8e0fef66ca0863c2f93ccfa38d711d8f1006", func := "loop.example/g00950/laws.FnExactNeed", spec := "fnExactNeed", plainKeys := false, apart := false, narrowed := true }
def FnExactNeedUptoSaid : Prop := fnExactNeedUptoRow.holds Try.pinned (OpenSpec.upto fnExactNeedSpec)

/-- 'laws.FnExactSpaceOk', WHERE WHAT IT READS IS OF BULK AT MOST 1048576: true; the input reads as it did. -/
def fnExactSpaceOkUptoRow : OpenClaim := { program := "ytjmimdhpghecpaa", sum := "b2b121f32c9da2c01626be0de2ea8e0fef66ca0863c2f93ccfa38d711d8f1006", func := "loop.example/g00950/laws.FnExactSpaceOk", spec := "fnExactSpaceOk", plainKeys := false, apart := false, narrowed := true }
def FnExactSpaceOkUptoSaid : Prop := fnExactSpaceOkUptoRow.holds Try.pinned (OpenSpec.upto fnExactSpaceOkSpec)

/-- 'laws.FnExactTwice', WHERE WHAT IT READS IS OF BULK AT MOST 1048576: true; the input reads as it did. -/
def fnExactTwiceUptoRow : OpenClaim := { program := "ytjmimdhpghecpaa", sum := "b2b121f32c9da2c01626be0de2ea8e0fef66ca0863c2f93ccfa38d711d8f1006", func := "loop.example/g00950/laws.FnExactTwice", spec := "fnExactTwice", plainKeys := false, apart := false, narrowed := true }
def FnExactTwiceUptoSaid : Prop := fnExactTwiceUptoRow.holds Try.pinned (OpenSpec.upto fnExactTwiceSpec)

/-- 'laws.FnExactSharesOk', WHERE WHAT IT READS IS OF BULK AT MOST 1048576: true; the input reads as it did. -/
def fnExactSharesOkUptoRow : OpenClaim := { program := "ytjmimdhpghecpaa", sum := "b2b121f32c9da2c01626be0de2ea8e0fef66ca0863c2f93ccfa38d711d8f1006", func := "loop.example/g00950/laws.FnExactSharesOk", spec := "fnExactSharesOk", plainKeys := false, apart := false, narrowed := true }
def FnExactSharesOkUptoSaid : Prop := fnExactSharesOkUptoRow.holds Try.pinned (OpenSpec.upto fnExactSharesOkSpec)

/-- 'laws.FnExactSpaceGive', WHERE WHAT IT READS IS OF BULK AT MOST 1048576: true; the input reads as it did. -/
def fnExactSpaceGiveUptoRow : OpenClaim := { program := "ytjmimdhpghecpaa", sum := "b2b121f32c9da2c01626be0de2ea8e0fef66ca0863c2f93ccfa38d711d8f1006", func := "loop.example/g00950/laws.FnExactSpaceGive", spec := "fnExactSpaceGive", plainKeys := false, apart := false, narrowed := true }
def FnExactSpaceGiveUptoSaid : Prop := fnExactSpaceGiveUptoRow.holds Try.pinned (OpenSpec.upto fnExactSpaceGiveSpec)

/-- 'laws.FnExactLens', WHERE WHAT IT READS IS OF BULK AT MOST 1048576: true; the input reads as it did. -/
def fnExactLensUptoRow : OpenClaim := { program := "ytjmimdhpghecpaa", sum := "b2b121f32c9da2c01626be0de2ea8e0fef66ca0863c2f93ccfa38d711d8f1006", func := "loop.example/g00950/laws.FnExactLens", spec := "fnExactLens", plainKeys := false, apart := false, narrowed := true }
def FnExactLensUptoSaid : Prop := fnExactLensUptoRow.holds Try.pinned (OpenSpec.upto fnExactLensSpec)

end Rows
end Go.Proofs.Ytjmimdhpghecpaa
