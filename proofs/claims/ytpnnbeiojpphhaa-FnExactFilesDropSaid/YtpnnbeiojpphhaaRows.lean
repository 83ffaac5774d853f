/-
  No cell of these rows narrows 'for every input' (looked for: loops, veiled, ifaces, maps, wideKeys, modest, calm, conditions, laid).
  DERIVED. THE GIVEN ROWS OF THIS SEAT. 6 by the template 'for every input the law returns true; each argument reads behind the call as it read before'; 0 by the template 'total and deterministic' (their statements: YtpnnbeiojpphhaaTotals.lean).
  GIVEN WITH THE SEED: the statements are not yours to turn. If you find one false, say at which input.
  Laid BY PROGRAM, IN A SANDBOX (cutbox-rows.mjs): the forced cells as the released guide's own fill.sh prints them over the translation 42d72114a4119974… (all of the seat's roots in one cut). By AI agents, Wed Nov 11 2026. No macro, syntax, notation, axiom, sorry.
-/
import Derived.Test.YtpnnbeiojpphhaaChecked
import GoSem.Claim
import GoSem.ClaimJoined
import GoSem.ClaimMapViews
import Derived.JoinedTies
import Derived.KernelRfl
namespace Go.Proofs.Ytpnnbeiojpphhaa
/- THE CELL 'sum', in the pinned program and in every row, IS THE sha256 OF THE DUMP (.gsa) THAT YtpnnbeiojpphhaaProg.lean LOADS. Nothing in Lean hashes anything: it is a label: what it is worth is what the hold of that sum in a sandbox is worth. -/
noncomputable def Try.pinned : Pinned := { name := "ytpnnbeiojpphhaa", sum := "42d72114a411997411491fb0a5e46d10d7c0efd88b20193c87580d6c76317dc8", checked := Try.checked }
namespace Rows
def none {H : Type} : Left H := { results := [], args := [] }

/-- 'laws.FnExactFilesAt': WHATEVER THE INPUT: true; the input reads as it did. -/
def fnExactFilesAtSpec : ChangeSpec := { name := "fnExactFilesAt", fn := fun _ => fun
  | [d1, d2] => { results := [.lit (.bool true)], args := [d1, d2] }
  | _ => none }
def fnExactFilesAtRow : OpenClaim := { program := "ytpnnbeiojpphhaa", sum := "42d72114a411997411491fb0a5e46d10d7c0efd88b20193c87580d6c76317dc8", func := "loop.example/g00950/laws.FnExactFilesAt", spec := "fnExactFilesAt", unfollowed := true, recurses := true, apart := false }
def FnExactFilesAtSaid : Prop := fnExactFilesAtRow.holds Try.pinned (OpenSpec.ofChange fnExactFilesAtSpec)

/-- ITS FALSE NEIGHBOUR: 'it returns false'. Refute it at one input. -/
def fnExactFilesAtWrong : ChangeSpec := { name := "fnExactFilesAt", fn := fun _ => fun
  | [d1, d2] => { results := [.lit (.bool false)], args := [d1, d2] }
  | _ => none }
def FnExactFilesAtWrongFalsely : Prop := fnExactFilesAtRow.holds Try.pinned (OpenSpec.ofChange fnExactFilesAtWrong)

/-- 'laws.FnExactFilesPick': WHATEVER THE INPUT: true; the input reads as it did. -/
def fnExactFilesPickSpec : ChangeSpec := { name := "fnExactFilesPick", fn := fun _ => fun
  | [d1, d2] => { results := [.lit (.bool true)], args := [d1, d2] }
  | _ => none }
def fnExactFilesPickRow : OpenClaim := { program := "ytpnnbeiojpphhaa", sum := "42d72114a411997411491fb0a5e46d10d7c0efd88b20193c87580d6c76317dc8", func := "loop.example/g00950/laws.FnExactFilesPick", spec := "fnExactFilesPick", unfollowed := true, recurses := true, apart := false }
def FnExactFilesPickSaid : Prop := fnExactFilesPickRow.holds Try.pinned (OpenSpec.ofChange fnExactFilesPickSpec)

/-- ITS FALSE NEIGHBOUR: 'it returns false'. Refute it at one input. -/
def fnExactFilesPickWrong : ChangeSpec := { name := "fnExactFilesPick", fn := fun _ => fun
  | [d1, d2] => { results := [.lit (.bool false)], args := [d1, d2] }
  | _ => none }
def FnExactFilesPickWrongFalsely : Prop := fnExactFilesPickRow.holds Try.pinned (OpenSpec.ofChange fnExactFilesPickWrong)

/-- 'laws.FnExactShareDrop': WHATEVER THE INPUT: true; the input reads as it did. -/
def fnExactShareDropSpec : ChangeSpec := { name := "fnExactShareDrop", fn := fun _ => fun
  | [d1, d2] => { results := [.lit (.bool true)], args := [d1, d2] }
  | _ => none }
def fnExactShareDropRow : OpenClaim := { program := "ytpnnbeiojpphhaa", sum := "42d72114a411997411491fb0a5e46d10d7c0efd88b20193c87580d6c76317dc8", func := "loop.example/g00950/laws.FnExactShareDrop", spec := "fnExactShareDrop", apart := false }
def FnExactShareDropSaid : Prop := fnExactShareDropRow.holds Try.pinned (OpenSpec.ofChange fnExactShareDropSpec)

/-- ITS FALSE NEIGHBOUR: 'it returns false'. Refute it at one input. -/
def fnExactShareDropWrong : ChangeSpec := { name := "fnExactShareDrop", fn := fun _ => fun
  | [d1, d2] => { results := [.lit (.bool false)], args := [d1, d2] }
  | _ => none }
def FnExactShareDropWrongFalsely : Prop := fnExactShareDropRow.holds Try.pinned (OpenSpec.ofChange fnExactShareDropWrong)

/-- 'laws.FnExactFilesDrop': WHATEVER THE INPUT: true; the input reads as it did. -/
def fnExactFilesDropSpec : ChangeSpec := { name := "fnExactFilesDrop", fn := fun _ => fun
  | [d1, d2] => { results := [.lit (.bool true)], args := [d1, d2] }
  | _ => none }
def fnExactFilesDropRow : OpenClaim := { program := "ytpnnbeiojpphhaa", sum := "42d72114a411997411491fb0a5e46d10d7c0efd88b20193c87580d6c76317dc8", func := "loop.example/g00950/laws.FnExactFilesDrop", spec := "fnExactFilesDrop", unfollowed := true, recurses := true, apart := false }
def FnExactFilesDropSaid : Prop := fnExactFilesDropRow.holds Try.pinned (OpenSpec.ofChange fnExactFilesDropSpec)

/-- ITS FALSE NEIGHBOUR: 'it returns false'. Refute it at one input. -/
def fnExactFilesDropWrong : ChangeSpec := { name := "fnExactFilesDrop", fn := fun _ => fun
  | [d1, d2] => { results := [.lit (.bool false)], args := [d1, d2] }
  | _ => none }
def FnExactFilesDropWrongFalsely : Prop := fnExactFilesDropRow.holds Try.pinned (OpenSpec.ofChange fnExactFilesDropWrong)

/-- 'laws.FnExactNoCrash': WHATEVER THE INPUT: true; the input reads as it did. -/
def fnExactNoCrashSpec : ChangeSpec := { name := "fnExactNoCrash", fn := fun _ => fun
  | [d] => { results := [.lit (.bool true)], args := [d] }
  | _ => none }
def fnExactNoCrashRow : OpenClaim := { program := "ytpnnbeiojpphhaa", sum := "42d72114a411997411491fb0a5e46d10d7c0efd88b20193c87580d6c76317dc8", func := "loop.example/g00950/laws.FnExactNoCrash", spec := "fnExactNoCrash", apart := false }
def FnExactNoCrashSaid : Prop := fnExactNoCrashRow.holds Try.pinned (OpenSpec.ofChange fnExactNoCrashSpec)

/-- ITS FALSE NEIGHBOUR: 'it returns false'. Refute it at one input. -/
def fnExactNoCrashWrong : ChangeSpec := { name := "fnExactNoCrash", fn := fun _ => fun
  | [d] => { results := [.lit (.bool false)], args := [d] }
  | _ => none }
def FnExactNoCrashWrongFalsely : Prop := fnExactNoCrashRow.holds Try.pinned (OpenSpec.ofChange fnExactNoCrashWrong)

/-- 'laws.FnSpace': WHATEVER THE INPUT: true; the input reads as it did. -/
def fnSpaceSpec : ChangeSpec := { name := "fnSpace", fn := fun _ => fun
  | [d] => { results := [.lit (.bool true)], args := [d] }
  | _ => none }
def fnSpaceRow : OpenClaim := { program := "ytpnnbeiojpphhaa", sum := "42d72114a411997411491fb0a5e46d10d7c0efd88b20193c87580d6c76317dc8", func := "loop.example/g00950/laws.FnSpace", spec := "fnSpace", apart := false }
def FnSpaceSaid : Prop := fnSpaceRow.holds Try.pinned (OpenSpec.ofChange fnSpaceSpec)

/-- ITS FALSE NEIGHBOUR: 'it returns false'. Refute it at one input. -/
def fnSpaceWrong : ChangeSpec := { name := "fnSpace", fn := fun _ => fun
  | [d] => { results := [.lit (.bool false)], args := [d] }
  | _ => none }
def FnSpaceWrongFalsely : Prop := fnSpaceRow.holds Try.pinned (OpenSpec.ofChange fnSpaceWrong)

/- THE SECOND FORM. 'bulk': how many values and letters a reading holds, each counted each time it is reached (what is shared counts as often as it is met; a slice's spare places count too). A statement '..UptoSaid' is the law's where the arguments, and the package variables that the reading takes, are together of bulk at most 1048576: NARROWER than '..Said'. Prove '..Said' where nothing that the law and all that it calls make is longer than what came in: it says more and counts as full. Else prove '..UptoSaid'. A law counts once. -/
mutual
def uptoBulk {H : Type} : DataW H → Nat
  | .lit (.string bytes) => bytes.length + 1
  | .lit _ => 1
  | .nil => 1
  | .ptr d => uptoBulk d + 1
  | .slice elems spare => uptoBulkAll elems + uptoBulkAll spare + 1
  | .agg parts => uptoBulkAll parts + 1
  | .iface _ d => uptoBulk d + 1
  | .map entries => uptoBulkEntries entries + 1
  | .held _ => 1
def uptoBulkAll {H : Type} : List (DataW H) → Nat
  | [] => 0
  | d :: r => uptoBulk d + uptoBulkAll r
def uptoBulkEntries {H : Type} : List (Lit × DataW H) → Nat
  | [] => 0
  | x :: r => uptoBulkEntry x + uptoBulkEntries r
def uptoBulkEntry {H : Type} : Lit × DataW H → Nat
  | (.string bytes, d) => bytes.length + uptoBulk d + 1
  | (_, d) => uptoBulk d + 1
 end
def uptoSmall : (H : Type) → List (DataW H) → Bool := fun _ ds => decide (uptoBulkAll ds ≤ 1048576)
def OpenSpec.upto (s : _root_.Go.ChangeSpec) : _root_.Go.OpenSpec := { _root_.Go.OpenSpec.ofChange s with cond := some uptoSmall }

/-- 'laws.FnExactFilesAt', WHERE WHAT IT READS IS OF BULK AT MOST 1048576: true; the input reads as it did. -/
def fnExactFilesAtUptoRow : OpenClaim := { program := "ytpnnbeiojpphhaa", sum := "42d72114a411997411491fb0a5e46d10d7c0efd88b20193c87580d6c76317dc8", func := "loop.example/g00950/laws.FnExactFilesAt", spec := "fnExactFilesAt", unfollowed := true, recurses := true, apart := false, narrowed := true }
def FnExactFilesAtUptoSaid : Prop := fnExactFilesAtUptoRow.holds Try.pinned (OpenSpec.upto fnExactFilesAtSpec)

/-- 'laws.FnExactFilesPick', WHERE WHAT IT READS IS OF BULK AT MOST 1048576: true; the input reads as it did. -/
def fnExactFilesPickUptoRow : OpenClaim := { program := "ytpnnbeiojpphhaa", sum := "42d72114a411997411491fb0a5e46d10d7c0efd88b20193c87580d6c76317dc8", func := "loop.example/g00950/laws.FnExactFilesPick", spec := "fnExactFilesPick", unfollowed := true, recurses := true, apart := false, narrowed := true }
def FnExactFilesPickUptoSaid : Prop := fnExactFilesPickUptoRow.holds Try.pinned (OpenSpec.upto fnExactFilesPickSpec)

/-- 'laws.FnExactShareDrop', WHERE WHAT IT READS IS OF BULK AT MOST 1048576: true; the input reads as it did. -/
def fnExactShareDropUptoRow : OpenClaim := { program := "ytpnnbeiojpphhaa", sum := "42d72114a411997411491fb0a5e46d10d7c0efd88b20193c87580d6c76317dc8", func := "loop.example/g00950/laws.FnExactShareDrop", spec := "fnExactShareDrop", apart := false, narrowed := true }
def FnExactShareDropUptoSaid : Prop := fnExactShareDropUptoRow.holds Try.pinned (OpenSpec.upto fnExactShareDropSpec)

/-- 'laws.FnExactFilesDrop', WHERE WHAT IT READS IS OF BULK AT MOST 1048576: true; the input reads as it did. -/
def fnExactFilesDropUptoRow : OpenClaim := { program := "ytpnnbeiojpphhaa", sum := "42d72114a411997411491fb0a5e46d10d7c0efd88b20193c87580d6c76317dc8", func := "loop.example/g00950/laws.FnExactFilesDrop", spec := "fnExactFilesDrop", unfollowed := true, recurses := true, apart := false, narrowed := true }
def FnExactFilesDropUptoSaid : Prop := fnExactFilesDropUptoRow.holds Try.pinned (OpenSpec.upto fnExactFilesDropSpec)

/-- 'laws.FnExactNoCrash', WHERE WHAT IT READS IS OF BULK AT MOST 1048576: true; the input reads as it did. -/
def fnExactNoCrashUptoRow : OpenClaim := { program := "ytpnnbeiojpphhaa", sum := "42d72114a411997411491fb0a5e46d10d7c0efd88b20193c87580d6c76317dc8", func := "loop.example/g00950/laws.FnExactNoCrash", spec := "fnExactNoCrash", apart := false, narrowed := true }
def FnExactNoCrashUptoSaid : Prop := fnExactNoCrashUptoRow.holds Try.pinned (OpenSpec.upto fnExactNoCrashSpec)

/-- 'laws.FnSpace', WHERE WHAT IT READS IS OF BULK AT MOST 1048576: true; the input reads as it did. -/
def fnSpaceUptoRow : OpenClaim := { program := "ytpnnbeiojpphhaa", sum := "42d72114a411997411491fb0a5e46d10d7c0efd88b20193c87580d6c76317dc8", func := "loop.example/g00950/laws.FnSpace", spec := "fnSpace", apart := false, narrowed := true }
def FnSpaceUptoSaid : Prop := fnSpaceUptoRow.holds Try.pinned (OpenSpec.upto fnSpaceSpec)

end Rows
end Go.Proofs.Ytpnnbeiojpphhaa
