/-
  No cell of these rows narrows 'for every input' (looked for: loops, veiled, ifaces, maps, wideKeys, modest, calm, conditions, laid).
  DERIVED. THE GIVEN ROWS OF THIS SEAT. 6 by the template 'for every input the law returns true; each argument reads behind the call as it read before'; 0 by the template 'total and deterministic' (their statements: YtpfndjojoikkgaaTotals.lean).
  GIVEN WITH THE SEED: the statements are not yours to turn. If you find one false, say at which input.
  Laid BY PROGRAM, IN A SANDBOX (cutbox-rows.mjs): the forced cells as the released guide's own fill.sh prints them over the translation 8f24cebf53a4cab7… (all of the seat's roots in one cut). By AI agents, Wed Nov 11 2026. No macro, syntax, notation, axiom, sorry.
-/
import Derived.Test.YtpfndjojoikkgaaChecked
import GoSem.Claim
import GoSem.ClaimJoined
import GoSem.ClaimMapViews
import Derived.JoinedTies
import Derived.KernelRfl
namespace Go.Proofs.Ytpfndjojoikkgaa
/- THE CELL 'sum', in the pinned program and in every row, IS THE sha256 OF THE DUMP (.gsa) THAT YtpfndjojoikkgaaProg.lean LOADS. Nothing in Lean hashes anything: it is a label: what it is worth is what the hold of that sum in a sandbox is worth. -/
noncomputable def Try.pinned : Pinned := { name := "ytpfndjojoikkgaa", sum := "8f24cebf53a4cab7314c587cbc1c0776b35c59e6f7047d2460bdbb6066ccecfb", checked := Try.checked }
namespace Rows
def none {H : Type} : Left H := { results := [], args := [] }

/-- 'laws.FnExactShareLeft': WHATEVER THE INPUT: true; the input reads as it did. -/
def fnExactShareLeftSpec : ChangeSpec := { name := "fnExactShareLeft", fn := fun _ => fun
  | [d] => { results := [.lit (.bool true)], args := [d] }
  | _ => none }
def fnExactShareLeftRow : OpenClaim := { program := "ytpfndjojoikkgaa", sum := "8f24cebf53a4cab7314c587cbc1c0776b35c59e6f7047d2460bdbb6066ccecfb", func := "loop.example/g00950/laws.FnExactShareLeft", spec := "fnExactShareLeft", apart := false }
def FnExactShareLeftSaid : Prop := fnExactShareLeftRow.holds Try.pinned (OpenSpec.ofChange fnExactShareLeftSpec)

/-- ITS FALSE NEIGHBOUR: 'it returns false'. Refute it at one input. -/
def fnExactShareLeftWrong : ChangeSpec := { name := "fnExactShareLeft", fn := fun _ => fun
  | [d] => { results := [.lit (.bool false)], args := [d] }
  | _ => none }
def FnExactShareLeftWrongFalsely : Prop := fnExactShareLeftRow.holds Try.pinned (OpenSpec.ofChange fnExactShareLeftWrong)

/-- 'laws.FnExactSpaceWipe': WHATEVER THE INPUT: true; the input reads as it did. -/
def fnExactSpaceWipeSpec : ChangeSpec := { name := "fnExactSpaceWipe", fn := fun _ => fun
  | [d1, d2] => { results := [.lit (.bool true)], args := [d1, d2] }
  | _ => none }
def fnExactSpaceWipeRow : OpenClaim := { program := "ytpfndjojoikkgaa", sum := "8f24cebf53a4cab7314c587cbc1c0776b35c59e6f7047d2460bdbb6066ccecfb", func := "loop.example/g00950/laws.FnExactSpaceWipe", spec := "fnExactSpaceWipe", apart := false }
def FnExactSpaceWipeSaid : Prop := fnExactSpaceWipeRow.holds Try.pinned (OpenSpec.ofChange fnExactSpaceWipeSpec)

/-- ITS FALSE NEIGHBOUR: 'it returns false'. Refute it at one input. -/
def fnExactSpaceWipeWrong : ChangeSpec := { name := "fnExactSpaceWipe", fn := fun _ => fun
  | [d1, d2] => { results := [.lit (.bool false)], args := [d1, d2] }
  | _ => none }
def FnExactSpaceWipeWrongFalsely : Prop := fnExactSpaceWipeRow.holds Try.pinned (OpenSpec.ofChange fnExactSpaceWipeWrong)

/-- 'laws.FnExactSpaceTake': WHATEVER THE INPUT: true; the input reads as it did. -/
def fnExactSpaceTakeSpec : ChangeSpec := { name := "fnExactSpaceTake", fn := fun _ => fun
  | [d1, d2, d3] => { results := [.lit (.bool true)], args := [d1, d2, d3] }
  | _ => none }
def fnExactSpaceTakeRow : OpenClaim := { program := "ytpfndjojoikkgaa", sum := "8f24cebf53a4cab7314c587cbc1c0776b35c59e6f7047d2460bdbb6066ccecfb", func := "loop.example/g00950/laws.FnExactSpaceTake", spec := "fnExactSpaceTake", apart := false }
def FnExactSpaceTakeSaid : Prop := fnExactSpaceTakeRow.holds Try.pinned (OpenSpec.ofChange fnExactSpaceTakeSpec)

/-- ITS FALSE NEIGHBOUR: 'it returns false'. Refute it at one input. -/
def fnExactSpaceTakeWrong : ChangeSpec := { name := "fnExactSpaceTake", fn := fun _ => fun
  | [d1, d2, d3] => { results := [.lit (.bool false)], args := [d1, d2, d3] }
  | _ => none }
def FnExactSpaceTakeWrongFalsely : Prop := fnExactSpaceTakeRow.holds Try.pinned (OpenSpec.ofChange fnExactSpaceTakeWrong)

/-- 'laws.FnExactNoCrash': WHATEVER THE INPUT: true; the input reads as it did. -/
def fnExactNoCrashSpec : ChangeSpec := { name := "fnExactNoCrash", fn := fun _ => fun
  | [d] => { results := [.lit (.bool true)], args := [d] }
  | _ => none }
def fnExactNoCrashRow : OpenClaim := { program := "ytpfndjojoikkgaa", sum := "8f24cebf53a4cab7314c587cbc1c0776b35c59e6f7047d2460bdbb6066ccecfb", func := "loop.example/g00950/laws.FnExactNoCrash", spec := "fnExactNoCrash", apart := false }
def FnExactNoCrashSaid : Prop := fnExactNoCrashRow.holds Try.pinned (OpenSpec.ofChange fnExactNoCrashSpec)

/-- ITS FALSE NEIGHBOUR: 'it returns false'. Refute it at one input. -/
def fnExactNoCrashWrong : ChangeSpec := { name := "fnExactNoCrash", fn := fun _ => fun
  | [d] => { results := [.lit (.bool false)], args := [d] }
  | _ => none }
def FnExactNoCrashWrongFalsely : Prop := fnExactNoCrashRow.holds Try.pinned (OpenSpec.ofChange fnExactNoCrashWrong)

/-- 'laws.FnExactFilesOk': WHATEVER THE INPUT: true; the input reads as it did. -/
def fnExactFilesOkSpec : ChangeSpec := { name := "fnExactFilesOk", fn := fun _ => fun
  | [d] => { results := [.lit (.bool true)], args := [d] }
  | _ => none }
def fnExactFilesOkRow : OpenClaim := { program := "ytpfndjojoikkgaa", sum := "8f24cebf53a4cab7314c587cbc1c0776b35c59e6f7047d2460bdbb6066ccecfb", func := "loop.example/g00950/laws.FnExactFilesOk", spec := "fnExactFilesOk", unfollowed := true, recurses := true, apart := false }
def FnExactFilesOkSaid : Prop := fnExactFilesOkRow.holds Try.pinned (OpenSpec.ofChange fnExactFilesOkSpec)

/-- ITS FALSE NEIGHBOUR: 'it returns false'. Refute it at one input. -/
def fnExactFilesOkWrong : ChangeSpec := { name := "fnExactFilesOk", fn := fun _ => fun
  | [d] => { results := [.lit (.bool false)], args := [d] }
  | _ => none }
def FnExactFilesOkWrongFalsely : Prop := fnExactFilesOkRow.holds Try.pinned (OpenSpec.ofChange fnExactFilesOkWrong)

/-- 'laws.FnExactShareDrop': WHATEVER THE INPUT: true; the input reads as it did. -/
def fnExactShareDropSpec : ChangeSpec := { name := "fnExactShareDrop", fn := fun _ => fun
  | [d1, d2] => { results := [.lit (.bool true)], args := [d1, d2] }
  | _ => none }
def fnExactShareDropRow : OpenClaim := { program := "ytpfndjojoikkgaa", sum := "8f24cebf53a4cab7314c587cbc1c0776b35c59e6f7047d2460bdbb6066ccecfb", func := "loop.example/g00950/laws.FnExactShareDrop", spec := "fnExactShareDrop", apart := false }
def FnExactShareDropSaid : Prop := fnExactShareDropRow.holds Try.pinned (OpenSpec.ofChange fnExactShareDropSpec)

/-- ITS FALSE NEIGHBOUR: 'it returns false'. Refute it at one input. -/
def fnExactShareDropWrong : ChangeSpec := { name := "fnExactShareDrop", fn := fun _ => fun
  | [d1, d2] => { results := [.lit (.bool false)], args := [d1, d2] }
  | _ => none }
def FnExactShareDropWrongFalsely : Prop := fnExactShareDropRow.holds Try.pinned (OpenSpec.ofChange fnExactShareDropWrong)

/- THE SECOND FORM. 'bulk': how many values and letters a reading holds, each counted each time it is reached (what is shared counts as often as it is met; a slice's spare places count too). A statement '..UptoSaid' is the law's where the arguments, and the package variables that the reading takes, are together of bulk at most 1048576: NARROWER than '..Said'. Prove '..Said' where nothing that the law and all that it calls make is longer than what came in: it says more and counts as full. Else prove '..UptoSaid'. A law counts once. -/
mutual
def uptoBulk {H : Type} : DataW H → Nat
  | .lit (.string bytes) => bytes.length + 1
  | .lit _ => 1
  | .nil => 1
  | .ptr d => uptoBulk d + 1
  | .slice elems spare => uptoBulkAll elems + uptoBulkAll spare + 1
  | .agg parts => uptoBulkAll parts + 1
  | .iface _ d => uptoBulk d + 1
  | .map entries => uptoBulkEntries entries + 1
  | .held _ => 1
def uptoBulkAll {H : Type} : List (DataW H) → Nat
  | [] => 0
  | d :: r => uptoBulk d + uptoBulkAll r
def uptoBulkEntries {H : Type} : List (Lit × DataW H) → Nat
  | [] => 0
  | x :: r => uptoBulkEntry x + uptoBulkEntries r
def uptoBulkEntry {H : Type} : Lit × DataW H → Nat
  | (.string bytes, d) => bytes.length + uptoBulk d + 1
  | (_, d) => uptoBulk d + 1
 end
def uptoSmall : (H : Type) → List (DataW H) → Bool := fun _ ds => decide (uptoBulkAll ds ≤ 1048576)
def OpenSpec.upto (s : _root_.Go.ChangeSpec) : _root_.Go.OpenSpec := { _root_.Go.OpenSpec.ofChange s with cond := some uptoSmall }

/-- 'laws.FnExactShareLeft', WHERE WHAT IT READS IS OF BULK AT MOST 1048576: true; the input reads as it did. -/
def fnExactShareLeftUptoRow : OpenClaim := { program := "ytpfndjojoikkgaa", sum := "8f24cebf53a4cab7314c587cbc1c0776b35c59e6f7047d2460bdbb6066ccecfb", func := "loop.example/g00950/laws.FnExactShareLeft", spec := "fnExactShareLeft", apart := false, narrowed := true }
def FnExactShareLeftUptoSaid : Prop := fnExactShareLeftUptoRow.holds Try.pinned (OpenSpec.upto fnExactShareLeftSpec)

/-- 'laws.FnExactSpaceWipe', WHERE WHAT IT READS IS OF BULK AT MOST 1048576: true; the input reads as it did. -/
def fnExactSpaceWipeUptoRow : OpenClaim := { program := "ytpfndjojoikkgaa", sum := "8f24cebf53a4cab7314c587cbc1c0776b35c59e6f7047d2460bdbb6066ccecfb", func := "loop.example/g00950/laws.FnExactSpaceWipe", spec := "fnExactSpaceWipe", apart := false, narrowed := true }
def FnExactSpaceWipeUptoSaid : Prop := fnExactSpaceWipeUptoRow.holds Try.pinned (OpenSpec.upto fnExactSpaceWipeSpec)

/-- 'laws.FnExactSpaceTake', WHERE WHAT IT READS IS OF BULK AT MOST 1048576: true; the input reads as it did. -/
def fnExactSpaceTakeUptoRow : OpenClaim := { program := "ytpfndjojoikkgaa", sum := "8f24cebf53a4cab7314c587cbc1c0776b35c59e6f7047d2460bdbb6066ccecfb", func := "loop.example/g00950/laws.FnExactSpaceTake", spec := "fnExactSpaceTake", apart := false, narrowed := true }
def FnExactSpaceTakeUptoSaid : Prop := fnExactSpaceTakeUptoRow.holds Try.pinned (OpenSpec.upto fnExactSpaceTakeSpec)

/-- 'laws.FnExactNoCrash', WHERE WHAT IT READS IS OF BULK AT MOST 1048576: true; the input reads as it did. -/
def fnExactNoCrashUptoRow : OpenClaim := { program := "ytpfndjojoikkgaa", sum := "8f24cebf53a4cab7314c587cbc1c0776b35c59e6f7047d2460bdbb6066ccecfb", func := "loop.example/g00950/laws.FnExactNoCrash", spec := "fnExactNoCrash", apart := false, narrowed := true }
def FnExactNoCrashUptoSaid : Prop := fnExactNoCrashUptoRow.holds Try.pinned (OpenSpec.upto fnExactNoCrashSpec)

/-- 'laws.FnExactFilesOk', WHERE WHAT IT READS IS OF BULK AT MOST 1048576: true; the input reads as it did. -/
def fnExactFilesOkUptoRow : OpenClaim := { program := "ytpfndjojoikkgaa", sum := "8f24cebf53a4cab7314c587cbc1c0776b35c59e6f7047d2460bdbb6066ccecfb", func := "loop.example/g00950/laws.FnExactFilesOk", spec := "fnExactFilesOk", unfollowed := true, recurses := true, apart := false, narrowed := true }
def FnExactFilesOkUptoSaid : Prop := fnExactFilesOkUptoRow.holds Try.pinned (OpenSpec.upto fnExactFilesOkSpec)

/-- 'laws.FnExactShareDrop', WHERE WHAT IT READS IS OF BULK AT MOST 1048576: true; the input reads as it did. -/
def fnExactShareDropUptoRow : OpenClaim := { program := "ytpfndjojoikkgaa", sum := "8f24cebf53a4cab7314c587cbc1c0776b35c59e6f7047d2460bdbb6066ccecfb", func := "loop.example/g00950/laws.FnExactShareDrop", spec := "fnExactShareDrop", apart := false, narrowed := true }
def FnExactShareDropUptoSaid : Prop := fnExactShareDropUptoRow.holds Try.pinned (OpenSpec.upto fnExactShareDropSpec)

end Rows
end Go.Proofs.Ytpfndjojoikkgaa
