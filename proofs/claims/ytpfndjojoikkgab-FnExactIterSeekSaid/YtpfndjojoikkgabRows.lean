/-
  No cell of these rows narrows 'for every input' (looked for: loops, veiled, ifaces, maps, wideKeys, modest, calm, conditions, laid).
  DERIVED. THE GIVEN ROWS OF THIS SEAT. 6 by the template 'for every input the law returns true; each argument reads behind the call as it read before'; 0 by the template 'total and deterministic' (their statements: YtpfndjojoikkgabTotals.lean).
  GIVEN WITH THE SEED: the statements are not yours to turn. If you find one false, say at which input.
  Laid BY PROGRAM, IN A SANDBOX (cutbox-rows.mjs): the forced cells as the released guide's own fill.sh prints them over the translation 1a671b53eaa03763… (all of the seat's roots in one cut). By AI agents, Wed Nov 11 2026. No macro, syntax, notation, axiom, sorry.
-/
import Derived.Test.YtpfndjojoikkgabChecked
import GoSem.Claim
import GoSem.ClaimJoined
import GoSem.ClaimMapViews
import Derived.JoinedTies
import Derived.KernelRfl
namespace Go.Proofs.Ytpfndjojoikkgab
/- THE CELL 'sum', in the pinned program and in every row, IS THE sha256 OF THE DUMP (.gsa) THAT YtpfndjojoikkgabProg.lean LOADS. Nothing in Lean hashes anything: it is a label: what it is worth is what the hold of that sum in a sandbox is worth. -/
noncomputable def Try.pinned : Pinned := { name := "ytpfndjojoikkgab", sum := "1a671b53eaa03763615a2125bbf6a2d1b5aa000a3d2c52562bfcc86191820416", checked := Try.checked }
namespace Rows
def none {H : Type} : Left H := { results := [], args := [] }

/-- 'laws.FnExactIterNext': WHATEVER THE INPUT: true; the input reads as it did. -/
def fnExactIterNextSpec : ChangeSpec := { name := "fnExactIterNext", fn := fun _ => fun
  | [d] => { results := [.lit (.bool true)], args := [d] }
  | _ => none }
def fnExactIterNextRow : OpenClaim := { program := "ytpfndjojoikkgab", sum := "1a671b53eaa03763615a2125bbf6a2d1b5aa000a3d2c52562bfcc86191820416", func := "loop.example/g00950/laws.FnExactIterNext", spec := "fnExactIterNext", apart := false }
def FnExactIterNextSaid : Prop := fnExactIterNextRow.holds Try.pinned (OpenSpec.ofChange fnExactIterNextSpec)

/-- ITS FALSE NEIGHBOUR: 'it returns false'. Refute it at one input. -/
def fnExactIterNextWrong : ChangeSpec := { name := "fnExactIterNext", fn := fun _ => fun
  | [d] => { results := [.lit (.bool false)], args := [d] }
  | _ => none }
def FnExactIterNextWrongFalsely : Prop := fnExactIterNextRow.holds Try.pinned (OpenSpec.ofChange fnExactIterNextWrong)

/-- 'laws.FnExactIterPrev': WHATEVER THE INPUT: true; the input reads as it did. -/
def fnExactIterPrevSpec : ChangeSpec := { name := "fnExactIterPrev", fn := fun _ => fun
  | [d] => { results := [.lit (.bool true)], args := [d] }
  | _ => none }
def fnExactIterPrevRow : OpenClaim := { program := "ytpfndjojoikkgab", sum := "1a671b53eaa03763615a2125bbf6a2d1b5aa000a3d2c52562bfcc86191820416", func := "loop.example/g00950/laws.FnExactIterPrev", spec := "fnExactIterPrev", apart := false }
def FnExactIterPrevSaid : Prop := fnExactIterPrevRow.holds Try.pinned (OpenSpec.ofChange fnExactIterPrevSpec)

/-- ITS FALSE NEIGHBOUR: 'it returns false'. Refute it at one input. -/
def fnExactIterPrevWrong : ChangeSpec := { name := "fnExactIterPrev", fn := fun _ => fun
  | [d] => { results := [.lit (.bool false)], args := [d] }
  | _ => none }
def FnExactIterPrevWrongFalsely : Prop := fnExactIterPrevRow.holds Try.pinned (OpenSpec.ofChange fnExactIterPrevWrong)

/-- 'laws.FnExactIterSeek': WHATEVER THE INPUT: true; the input reads as it did. -/
def fnExactIterSeekSpec : ChangeSpec := { name := "fnExactIterSeek", fn := fun _ => fun
  | [d1, d2] => { results := [.lit (.bool true)], args := [d1, d2] }
  | _ => none }
def fnExactIterSeekRow : OpenClaim := { program := "ytpfndjojoikkgab", sum := "1a671b53eaa03763615a2125bbf6a2d1b5aa000a3d2c52562bfcc86191820416", func := "loop.example/g00950/laws.FnExactIterSeek", spec := "fnExactIterSeek", apart := false }
def FnExactIterSeekSaid : Prop := fnExactIterSeekRow.holds Try.pinned (OpenSpec.ofChange fnExactIterSeekSpec)

/-- ITS FALSE NEIGHBOUR: 'it returns false'. Refute it at one input. -/
def fnExactIterSeekWrong : ChangeSpec := { name := "fnExactIterSeek", fn := fun _ => fun
  | [d1, d2] => { results := [.lit (.bool false)], args := [d1, d2] }
  | _ => none }
def FnExactIterSeekWrongFalsely : Prop := fnExactIterSeekRow.holds Try.pinned (OpenSpec.ofChange fnExactIterSeekWrong)

/-- 'laws.FnExactFilesAt': WHATEVER THE INPUT: true; the input reads as it did. -/
def fnExactFilesAtSpec : ChangeSpec := { name := "fnExactFilesAt", fn := fun _ => fun
  | [d1, d2] => { results := [.lit (.bool true)], args := [d1, d2] }
  | _ => none }
def fnExactFilesAtRow : OpenClaim := { program := "ytpfndjojoikkgab", sum := "1a671b53eaa03763615a2125bbf6a2d1b5aa000a3d2c52562bfcc86191820416", func := "loop.example/g00950/laws.FnExactFilesAt", spec := "fnExactFilesAt", unfollowed := true, recurses := true, apart := false }
def FnExactFilesAtSaid : Prop := fnExactFilesAtRow.holds Try.pinned (OpenSpec.ofChange fnExactFilesAtSpec)

/-- ITS FALSE NEIGHBOUR: 'it returns false'. Refute it at one input. -/
def fnExactFilesAtWrong : ChangeSpec := { name := "fnExactFilesAt", fn := fun _ => fun
  | [d1, d2] => { results := [.lit (.bool false)], args := [d1, d2] }
  | _ => none }
def FnExactFilesAtWrongFalsely : Prop := fnExactFilesAtRow.holds Try.pinned (OpenSpec.ofChange fnExactFilesAtWrong)

/-- 'laws.FnExactFilesDrop': WHATEVER THE INPUT: true; the input reads as it did. -/
def fnExactFilesDropSpec : ChangeSpec := { name := "fnExactFilesDrop", fn := fun _ => fun
  | [d1, d2] => { results := [.lit (.bool true)], args := [d1, d2] }
  | _ => none }
def fnExactFilesDropRow : OpenClaim := { program := "ytpfndjojoikkgab", sum := "1a671b53eaa03763615a2125bbf6a2d1b5aa000a3d2c52562bfcc86191820416", func := "loop.example/g00950/laws.FnExactFilesDrop", spec := "fnExactFilesDrop", unfollowed := true, recurses := true, apart := false }
def FnExactFilesDropSaid : Prop := fnExactFilesDropRow.holds Try.pinned (OpenSpec.ofChange fnExactFilesDropSpec)

/-- ITS FALSE NEIGHBOUR: 'it returns false'. Refute it at one input. -/
def fnExactFilesDropWrong : ChangeSpec := { name := "fnExactFilesDrop", fn := fun _ => fun
  | [d1, d2] => { results := [.lit (.bool false)], args := [d1, d2] }
  | _ => none }
def FnExactFilesDropWrongFalsely : Prop := fnExactFilesDropRow.holds Try.pinned (OpenSpec.ofChange fnExactFilesDropWrong)

/-- 'laws.FnExactFilesPick': WHATEVER THE INPUT: true; the input reads as it did. -/
def fnExactFilesPickSpec : ChangeSpec := { name := "fnExactFilesPick", fn := fun _ => fun
  | [d1, d2] => { results := [.lit (.bool true)], args := [d1, d2] }
  | _ => none }
def fnExactFilesPickRow : OpenClaim := { program := "ytpfndjojoikkgab", sum := "1a671b53eaa03763615a2125bbf6a2d1b5aa000a3d2c52562bfcc86191820416", func := "loop.example/g00950/laws.FnExactFilesPick", spec := "fnExactFilesPick", unfollowed := true, recurses := true, apart := false }
def FnExactFilesPickSaid : Prop := fnExactFilesPickRow.holds Try.pinned (OpenSpec.ofChange fnExactFilesPickSpec)

/-- ITS FALSE NEIGHBOUR: 'it returns false'. Refute it at one input. -/
def fnExactFilesPickWrong : ChangeSpec := { name := "fnExactFilesPick", fn := fun _ => fun
  | [d1, d2] => { results := [.lit (.bool false)], args := [d1, d2] }
  | _ => none }
def FnExactFilesPickWrongFalsely : Prop := fnExactFilesPickRow.holds Try.pinned (OpenSpec.ofChange fnExactFilesPickWrong)

/- THE SECOND FORM. 'bulk': how many values and letters a reading holds, each counted each time it is reached (what is shared counts as often as it is met; a slice's spare places count too). A statement '..UptoSaid' is the law's where the arguments, and the package variables that the reading takes, are together of bulk at most 1048576: NARROWER than '..Said'. Prove '..Said' where nothing that the law and all that it calls make is longer than what came in: it says more and counts as full. Else prove '..UptoSaid'. A law counts once. -/
mutual
def uptoBulk {H : Type} : DataW H → Nat
  | .lit (.string bytes) => bytes.length + 1
  | .lit _ => 1
  | .nil => 1
  | .ptr d => uptoBulk d + 1
  | .slice elems spare => uptoBulkAll elems + uptoBulkAll spare + 1
  | .agg parts => uptoBulkAll parts + 1
  | .iface _ d => uptoBulk d + 1
  | .map entries => uptoBulkEntries entries + 1
  | .held _ => 1
def uptoBulkAll {H : Type} : List (DataW H) → Nat
  | [] => 0
  | d :: r => uptoBulk d + uptoBulkAll r
def uptoBulkEntries {H : Type} : List (Lit × DataW H) → Nat
  | [] => 0
  | x :: r => uptoBulkEntry x + uptoBulkEntries r
def uptoBulkEntry {H : Type} : Lit × DataW H → Nat
  | (.string bytes, d) => bytes.length + uptoBulk d + 1
  | (_, d) => uptoBulk d + 1
 end
def uptoSmall : (H : Type) → List (DataW H) → Bool := fun _ ds => decide (uptoBulkAll ds ≤ 1048576)
def OpenSpec.upto (s : _root_.Go.ChangeSpec) : _root_.Go.OpenSpec := { _root_.Go.OpenSpec.ofChange s with cond := some uptoSmall }

/-- 'laws.FnExactIterNext', WHERE WHAT IT READS IS OF BULK AT MOST 1048576: true; the input reads as it did. -/
def fnExactIterNextUptoRow : OpenClaim := { program := "ytpfndjojoikkgab", sum := "1a671b53eaa03763615a2125bbf6a2d1b5aa000a3d2c52562bfcc86191820416", func := "loop.example/g00950/laws.FnExactIterNext", spec := "fnExactIterNext", apart := false, narrowed := true }
def FnExactIterNextUptoSaid : Prop := fnExactIterNextUptoRow.holds Try.pinned (OpenSpec.upto fnExactIterNextSpec)

/-- 'laws.FnExactIterPrev', WHERE WHAT IT READS IS OF BULK AT MOST 1048576: true; the input reads as it did. -/
def fnExactIterPrevUptoRow : OpenClaim := { program := "ytpfndjojoikkgab", sum := "1a671b53eaa03763615a2125bbf6a2d1b5aa000a3d2c52562bfcc86191820416", func := "loop.example/g00950/laws.FnExactIterPrev", spec := "fnExactIterPrev", apart := false, narrowed := true }
def FnExactIterPrevUptoSaid : Prop := fnExactIterPrevUptoRow.holds Try.pinned (OpenSpec.upto fnExactIterPrevSpec)

/-- 'laws.FnExactIterSeek', WHERE WHAT IT READS IS OF BULK AT MOST 1048576: true; the input reads as it did. -/
def fnExactIterSeekUptoRow : OpenClaim := { program := "ytpfndjojoikkgab", sum := "1a671b53eaa03763615a2125bbf6a2d1b5aa000a3d2c52562bfcc86191820416", func := "loop.example/g00950/laws.FnExactIterSeek", spec := "fnExactIterSeek", apart := false, narrowed := true }
def FnExactIterSeekUptoSaid : Prop := fnExactIterSeekUptoRow.holds Try.pinned (OpenSpec.upto fnExactIterSeekSpec)

/-- 'laws.FnExactFilesAt', WHERE WHAT IT READS IS OF BULK AT MOST 1048576: true; the input reads as it did. -/
def fnExactFilesAtUptoRow : OpenClaim := { program := "ytpfndjojoikkgab", sum := "1a671b53eaa03763615a2125bbf6a2d1b5aa000a3d2c52562bfcc86191820416", func := "loop.example/g00950/laws.FnExactFilesAt", spec := "fnExactFilesAt", unfollowed := true, recurses := true, apart := false, narrowed := true }
def FnExactFilesAtUptoSaid : Prop := fnExactFilesAtUptoRow.holds Try.pinned (OpenSpec.upto fnExactFilesAtSpec)

/-- 'laws.FnExactFilesDrop', WHERE WHAT IT READS IS OF BULK AT MOST 1048576: true; the input reads as it did. -/
def fnExactFilesDropUptoRow : OpenClaim := { program := "ytpfndjojoikkgab", sum := "1a671b53eaa03763615a2125bbf6a2d1b5aa000a3d2c52562bfcc86191820416", func := "loop.example/g00950/laws.FnExactFilesDrop", spec := "fnExactFilesDrop", unfollowed := true, recurses := true, apart := false, narrowed := true }
def FnExactFilesDropUptoSaid : Prop := fnExactFilesDropUptoRow.holds Try.pinned (OpenSpec.upto fnExactFilesDropSpec)

/-- 'laws.FnExactFilesPick', WHERE WHAT IT READS IS OF BULK AT MOST 1048576: true; the input reads as it did. -/
def fnExactFilesPickUptoRow : OpenClaim := { program := "ytpfndjojoikkgab", sum := "1a671b53eaa03763615a2125bbf6a2d1b5aa000a3d2c52562bfcc86191820416", func := "loop.example/g00950/laws.FnExactFilesPick", spec := "fnExactFilesPick", unfollowed := true, recurses := true, apart := false, narrowed := true }
def FnExactFilesPickUptoSaid : Prop := fnExactFilesPickUptoRow.holds Try.pinned (OpenSpec.upto fnExactFilesPickSpec)

end Rows
end Go.Proofs.Ytpfndjojoikkgab
