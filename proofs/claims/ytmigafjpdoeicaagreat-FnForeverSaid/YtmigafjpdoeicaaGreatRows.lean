/-
  No cell of these rows narrows 'for every input' (looked for: loops, veiled, ifaces, maps, wideKeys, modest, calm, conditions, laid).
  DERIVED. THE GIVEN ROWS OF THIS SEAT. 2 by the template 'for every input the law returns true; each argument reads behind the call as it read before'; 0 by the template 'total and deterministic' (their statements: YtmigafjpdoeicaaGreatTotals.lean).
  GIVEN WITH THE SEED: the statements are not yours to turn. If you find one false, say at which input.
  Laid BY PROGRAM, IN A SANDBOX (cutbox-rows.mjs): the forced cells as the released guide's own fill.sh prints them over the translation c3f5ec9129224360… (all of the seat's roots in one cut). By AI agents, Wed Nov 11 2026. No macro, syntax, notation, axiom, sorry.
-/
import Derived.Test.YtmigafjpdoeicaaGreatChecked
import GoSem.Claim
import GoSem.ClaimJoined
import GoSem.ClaimMapViews
import Derived.JoinedTies
import Derived.KernelRfl
namespace Go.Proofs.YtmigafjpdoeicaaGreat
/- THE CELL 'sum', in the pinned program and in every row, IS THE sha256 OF THE DUMP (.gsa) THAT YtmigafjpdoeicaaGreatProg.lean LOADS. Nothing in Lean hashes anything: it is a label: what it is worth is what the hold of that sum in a sandbox is worth. -/
noncomputable def Tryz.pinned : Pinned := { name := "ytmigafjpdoeicaagreat", sum := "c3f5ec9129224360b8ca8d2c8693cfbdcf6ba36f5bfea162ded6520edcaa547b", checked := Tryz.checked }
namespace Rows
def none {H : Type} : Left H := { results := [], args := [] }

/-- 'laws.FnForever': WHATEVER THE INPUT: true; the input reads as it did. -/
def fnForeverSpec : ChangeSpec := { name := "fnForever", fn := fun _ => fun
  | [d] => { results := [.lit (.bool true)], args := [d] }
  | _ => none }
def fnForeverRow : OpenClaim := { program := "ytmigafjpdoeicaagreat", sum := "c3f5ec9129224360b8ca8d2c8693cfbdcf6ba36f5bfea162ded6520edcaa547b", func := "loop.example/g00950/laws.FnForever", spec := "fnForever", inPlace := ["slices.overlaps[loop.example/g00950/impl.Share]", "slices.overlaps[loop.example/g00950/impl.MTen]", "internal/bytealg.abigen_runtime_cmpstring", "slices.overlaps[loop.example/g00950/impl.KV]"], unfollowed := true, recurses := true, apart := false }
def FnForeverSaid : Prop := fnForeverRow.holds Tryz.pinned (OpenSpec.ofChange fnForeverSpec)

/-- ITS FALSE NEIGHBOUR: 'it returns false'. Refute it at one input. -/
def fnForeverWrong : ChangeSpec := { name := "fnForever", fn := fun _ => fun
  | [d] => { results := [.lit (.bool false)], args := [d] }
  | _ => none }
def FnForeverWrongFalsely : Prop := fnForeverRow.holds Tryz.pinned (OpenSpec.ofChange fnForeverWrong)

/-- 'laws.FnExactModelPlay': WHATEVER THE INPUT: true; the input reads as it did. -/
def fnExactModelPlaySpec : ChangeSpec := { name := "fnExactModelPlay", fn := fun _ => fun
  | [d1, d2, d3] => { results := [.lit (.bool true)], args := [d1, d2, d3] }
  | _ => none }
def fnExactModelPlayRow : OpenClaim := { program := "ytmigafjpdoeicaagreat", sum := "c3f5ec9129224360b8ca8d2c8693cfbdcf6ba36f5bfea162ded6520edcaa547b", func := "loop.example/g00950/laws.FnExactModelPlay", spec := "fnExactModelPlay", inPlace := ["slices.overlaps[loop.example/g00950/impl.Share]", "slices.overlaps[loop.example/g00950/impl.MTen]", "internal/bytealg.abigen_runtime_cmpstring", "slices.overlaps[loop.example/g00950/impl.KV]"], unfollowed := true, recurses := true, apart := false }
def FnExactModelPlaySaid : Prop := fnExactModelPlayRow.holds Tryz.pinned (OpenSpec.ofChange fnExactModelPlaySpec)

/-- ITS FALSE NEIGHBOUR: 'it returns false'. Refute it at one input. -/
def fnExactModelPlayWrong : ChangeSpec := { name := "fnExactModelPlay", fn := fun _ => fun
  | [d1, d2, d3] => { results := [.lit (.bool false)], args := [d1, d2, d3] }
  | _ => none }
def FnExactModelPlayWrongFalsely : Prop := fnExactModelPlayRow.holds Tryz.pinned (OpenSpec.ofChange fnExactModelPlayWrong)

/- THE SECOND FORM. 'bulk': how many values and letters a reading holds, each counted each time it is reached (what is shared counts as often as it is met; a slice's spare places count too). A statement '..UptoSaid' is the law's where the arguments, and the package variables that the reading takes, are together of bulk at most 1048576: NARROWER than '..Said'. Prove '..Said' where nothing that the law and all that it calls make is longer than what came in: it says more and counts as full. Else prove '..UptoSaid'. A law counts once. -/
mutual
def uptoBulk {H : Type} : DataW H → Nat
  | .lit (.string bytes) => bytes.length + 1
  | .lit _ => 1
  | .nil => 1
  | .ptr d => uptoBulk d + 1
  | .slice elems spare => uptoBulkAll elems + uptoBulkAll spare + 1
  | .agg parts => uptoBulkAll parts + 1
  | .iface _ d => uptoBulk d + 1
  | .map entries => uptoBulkEntries entries + 1
  | .held _ => 1
def uptoBulkAll {H : Type} : List (DataW H) → Nat
  | [] => 0
  | d :: r => uptoBulk d + uptoBulkAll r
def uptoBulkEntries {H : Type} : List (Lit × DataW H) → Nat
  | [] => 0
  | x :: r => uptoBulkEntry x + uptoBulkEntries r
def uptoBulkEntry {H : Type} : Lit × DataW H → Nat
  | (.string bytes, d) => bytes.length + uptoBulk d + 1
  | (_, d) => uptoBulk d + 1
 end
def uptoSmall : (H : Type) → List (DataW H) → Bool := fun _ ds => decide (uptoBulkAll ds ≤ 1048576)
def OpenSpec.upto (s : _root_.Go.ChangeSpec) : _root_.Go.OpenSpec := { _root_.Go.OpenSpec.ofChange s with cond := some uptoSmall }

/-- 'laws.FnForever', WHERE WHAT IT READS IS OF BULK AT MOST 1048576: true; the input reads as it did. -/
def fnForeverUptoRow : OpenClaim := { program := "ytmigafjpdoeicaagreat", sum := "c3f5ec9129224360b8ca8d2c8693cfbdcf6ba36f5bfea162ded6520edcaa547b", func := "loop.example/g00950/laws.FnForever", spec := "fnForever", inPlace := ["slices.overlaps[loop.example/g00950/impl.Share]", "slices.overlaps[loop.example/g00950/impl.MTen]", "internal/bytealg.abigen_runtime_cmpstring", "slices.overlaps[loop.example/g00950/impl.KV]"], unfollowed := true, recurses := true, apart := false, narrowed := true }
def FnForeverUptoSaid : Prop := fnForeverUptoRow.holds Tryz.pinned (OpenSpec.upto fnForeverSpec)

/-- 'laws.FnExactModelPlay', WHERE WHAT IT READS IS OF BULK AT MOST 1048576: true; the input reads as it did. -/
def fnExactModelPlayUptoRow : OpenClaim := { program := "ytmigafjpdoeicaagreat", sum := "c3f5ec9129224360b8ca8d2c8693cfbdcf6ba36f5bfea162ded6520edcaa547b", func := "loop.example/g00950/laws.FnExactModelPlay", spec := "fnExactModelPlay", inPlace := ["slices.overlaps[loop.example/g00950/impl.Share]", "slices.overlaps[loop.example/g00950/impl.MTen]", "internal/bytealg.abigen_runtime_cmpstring", "slices.overlaps[loop.example/g00950/impl.KV]"], unfollowed := true, recurses := true, apart := false, narrowed := true }
def FnExactModelPlayUptoSaid : Prop := fnExactModelPlayUptoRow.holds Tryz.pinned (OpenSpec.upto fnExactModelPlaySpec)

end Rows
end Go.Proofs.YtmigafjpdoeicaaGreat
