/-
  No cell of these rows narrows 'for every input' (looked for: loops, veiled, ifaces, maps, wideKeys, modest, calm, conditions, laid).
  DERIVED. THE GIVEN ROWS OF THIS SEAT. 6 by the template 'for every input the law returns true; each argument reads behind the call as it read before'; 0 by the template 'total and deterministic' (their statements: YtpnnbeiojpphhabTotals.lean).
  GIVEN WITH THE SEED: the statements are not yours to turn. If you find one false, say at which input.
  Laid BY PROGRAM, IN A SANDBOX (cutbox-rows.mjs): the forced cells as the released guide's own fill.sh prints them over the translation ecdcbd37dd124bef… (all of the seat's roots in one cut). By AI agents, Wed Nov 11 2026. No macro, syntax, notation, axiom, sorry.
-/
import Derived.Test.YtpnnbeiojpphhabChecked
import GoSem.Claim
import GoSem.ClaimJoined
import GoSem.ClaimMapViews
import Derived.JoinedTies
import Derived.KernelRfl
namespace Go.Proofs.Ytpnnbeiojpphhab
/- THE CELL 'sum', in the pinned program and in every row, IS THE sha256 OF THE DUMP (.gsa) THAT YtpnnbeiojpphhabProg.lean LOADS. Nothing in Lean hashes anything: it is a label: what it is worth is what the hold of that sum in a sandbox is worth. -/
noncomputable def Try.pinned : Pinned := { name := "ytpnnbeiojpphhab", sum := "ecdcbd37dd124bef6734f4835b12aac162483bc85b1b499a7fb5a5366071468e", checked := Try.checked }
namespace Rows
def none {H : Type} : Left H := { results := [], args := [] }

/-- 'laws.FnExactShareSet': WHATEVER THE INPUT: true; the input reads as it did. -/
def fnExactShareSetSpec : ChangeSpec := { name := "fnExactShareSet", fn := fun _ => fun
  | [d1, d2, d3] => { results := [.lit (.bool true)], args := [d1, d2, d3] }
  | _ => none }
def fnExactShareSetRow : OpenClaim := { program := "ytpnnbeiojpphhab", sum := "ecdcbd37dd124bef6734f4835b12aac162483bc85b1b499a7fb5a5366071468e", func := "loop.example/g00950/laws.FnExactShareSet", spec := "fnExactShareSet", inPlace := ["slices.overlaps[loop.example/g00950/impl.Share]"], apart := false }
def FnExactShareSetSaid : Prop := fnExactShareSetRow.holds Try.pinned (OpenSpec.ofChange fnExactShareSetSpec)

/-- ITS FALSE NEIGHBOUR: 'it returns false'. Refute it at one input. -/
def fnExactShareSetWrong : ChangeSpec := { name := "fnExactShareSet", fn := fun _ => fun
  | [d1, d2, d3] => { results := [.lit (.bool false)], args := [d1, d2, d3] }
  | _ => none }
def FnExactShareSetWrongFalsely : Prop := fnExactShareSetRow.holds Try.pinned (OpenSpec.ofChange fnExactShareSetWrong)

/-- 'laws.FnExactFilesAdd': WHATEVER THE INPUT: true; the input reads as it did. -/
def fnExactFilesAddSpec : ChangeSpec := { name := "fnExactFilesAdd", fn := fun _ => fun
  | [d1, d2] => { results := [.lit (.bool true)], args := [d1, d2] }
  | _ => none }
def fnExactFilesAddRow : OpenClaim := { program := "ytpnnbeiojpphhab", sum := "ecdcbd37dd124bef6734f4835b12aac162483bc85b1b499a7fb5a5366071468e", func := "loop.example/g00950/laws.FnExactFilesAdd", spec := "fnExactFilesAdd", inPlace := ["slices.overlaps[loop.example/g00950/impl.File]"], unfollowed := true, recurses := true, apart := false }
def FnExactFilesAddSaid : Prop := fnExactFilesAddRow.holds Try.pinned (OpenSpec.ofChange fnExactFilesAddSpec)

/-- ITS FALSE NEIGHBOUR: 'it returns false'. Refute it at one input. -/
def fnExactFilesAddWrong : ChangeSpec := { name := "fnExactFilesAdd", fn := fun _ => fun
  | [d1, d2] => { results := [.lit (.bool false)], args := [d1, d2] }
  | _ => none }
def FnExactFilesAddWrongFalsely : Prop := fnExactFilesAddRow.holds Try.pinned (OpenSpec.ofChange fnExactFilesAddWrong)

/-- 'laws.FnShares': WHATEVER THE INPUT: true; the input reads as it did. -/
def fnSharesSpec : ChangeSpec := { name := "fnShares", fn := fun _ => fun
  | [d] => { results := [.lit (.bool true)], args := [d] }
  | _ => none }
def fnSharesRow : OpenClaim := { program := "ytpnnbeiojpphhab", sum := "ecdcbd37dd124bef6734f4835b12aac162483bc85b1b499a7fb5a5366071468e", func := "loop.example/g00950/laws.FnShares", spec := "fnShares", inPlace := ["slices.overlaps[loop.example/g00950/impl.Share]"], apart := false }
def FnSharesSaid : Prop := fnSharesRow.holds Try.pinned (OpenSpec.ofChange fnSharesSpec)

/-- ITS FALSE NEIGHBOUR: 'it returns false'. Refute it at one input. -/
def fnSharesWrong : ChangeSpec := { name := "fnShares", fn := fun _ => fun
  | [d] => { results := [.lit (.bool false)], args := [d] }
  | _ => none }
def FnSharesWrongFalsely : Prop := fnSharesRow.holds Try.pinned (OpenSpec.ofChange fnSharesWrong)

/-- 'laws.FnIter': WHATEVER THE INPUT: true; the input reads as it did. -/
def fnIterSpec : ChangeSpec := { name := "fnIter", fn := fun _ => fun
  | [d] => { results := [.lit (.bool true)], args := [d] }
  | _ => none }
def fnIterRow : OpenClaim := { program := "ytpnnbeiojpphhab", sum := "ecdcbd37dd124bef6734f4835b12aac162483bc85b1b499a7fb5a5366071468e", func := "loop.example/g00950/laws.FnIter", spec := "fnIter", apart := false }
def FnIterSaid : Prop := fnIterRow.holds Try.pinned (OpenSpec.ofChange fnIterSpec)

/-- ITS FALSE NEIGHBOUR: 'it returns false'. Refute it at one input. -/
def fnIterWrong : ChangeSpec := { name := "fnIter", fn := fun _ => fun
  | [d] => { results := [.lit (.bool false)], args := [d] }
  | _ => none }
def FnIterWrongFalsely : Prop := fnIterRow.holds Try.pinned (OpenSpec.ofChange fnIterWrong)

/-- 'laws.FnExactCompactEnts': WHATEVER THE INPUT: true; the input reads as it did. -/
def fnExactCompactEntsSpec : ChangeSpec := { name := "fnExactCompactEnts", fn := fun _ => fun
  | [d1, d2, d3] => { results := [.lit (.bool true)], args := [d1, d2, d3] }
  | _ => none }
def fnExactCompactEntsRow : OpenClaim := { program := "ytpnnbeiojpphhab", sum := "ecdcbd37dd124bef6734f4835b12aac162483bc85b1b499a7fb5a5366071468e", func := "loop.example/g00950/laws.FnExactCompactEnts", spec := "fnExactCompactEnts", apart := false }
def FnExactCompactEntsSaid : Prop := fnExactCompactEntsRow.holds Try.pinned (OpenSpec.ofChange fnExactCompactEntsSpec)

/-- ITS FALSE NEIGHBOUR: 'it returns false'. Refute it at one input. -/
def fnExactCompactEntsWrong : ChangeSpec := { name := "fnExactCompactEnts", fn := fun _ => fun
  | [d1, d2, d3] => { results := [.lit (.bool false)], args := [d1, d2, d3] }
  | _ => none }
def FnExactCompactEntsWrongFalsely : Prop := fnExactCompactEntsRow.holds Try.pinned (OpenSpec.ofChange fnExactCompactEntsWrong)

/-- 'laws.FnExactSeenAt': WHATEVER THE INPUT: true; the input reads as it did. -/
def fnExactSeenAtSpec : ChangeSpec := { name := "fnExactSeenAt", fn := fun _ => fun
  | [d1, d2] => { results := [.lit (.bool true)], args := [d1, d2] }
  | _ => none }
def fnExactSeenAtRow : OpenClaim := { program := "ytpnnbeiojpphhab", sum := "ecdcbd37dd124bef6734f4835b12aac162483bc85b1b499a7fb5a5366071468e", func := "loop.example/g00950/laws.FnExactSeenAt", spec := "fnExactSeenAt", apart := false }
def FnExactSeenAtSaid : Prop := fnExactSeenAtRow.holds Try.pinned (OpenSpec.ofChange fnExactSeenAtSpec)

/-- ITS FALSE NEIGHBOUR: 'it returns false'. Refute it at one input. -/
def fnExactSeenAtWrong : ChangeSpec := { name := "fnExactSeenAt", fn := fun _ => fun
  | [d1, d2] => { results := [.lit (.bool false)], args := [d1, d2] }
  | _ => none }
def FnExactSeenAtWrongFalsely : Prop := fnExactSeenAtRow.holds Try.pinned (OpenSpec.ofChange fnExactSeenAtWrong)

/- THE SECOND FORM. 'bulk': how many values and letters a reading holds, each counted each time it is reached (what is shared counts as often as it is met; a slice's spare places count too). A statement '..UptoSaid' is the law's where the arguments, and the package variables that the reading takes, are together of bulk at most 1048576: NARROWER than '..Said'. Prove '..Said' where nothing that the law and all that it calls make is longer than what came in: it says more and counts as full. Else prove '..UptoSaid'. A law counts once. -/
mutual
def uptoBulk {H : Type} : DataW H → Nat
  | .lit (.string bytes) => bytes.length + 1
  | .lit _ => 1
  | .nil => 1
  | .ptr d => uptoBulk d + 1
  | .slice elems spare => uptoBulkAll elems + uptoBulkAll spare + 1
  | .agg parts => uptoBulkAll parts + 1
  | .iface _ d => uptoBulk d + 1
  | .map entries => uptoBulkEntries entries + 1
  | .held _ => 1
def uptoBulkAll {H : Type} : List (DataW H) → Nat
  | [] => 0
  | d :: r => uptoBulk d + uptoBulkAll r
def uptoBulkEntries {H : Type} : List (Lit × DataW H) → Nat
  | [] => 0
  | x :: r => uptoBulkEntry x + uptoBulkEntries r
def uptoBulkEntry {H : Type} : Lit × DataW H → Nat
  | (.string bytes, d) => bytes.length + uptoBulk d + 1
  | (_, d) => uptoBulk d + 1
 end
def uptoSmall : (H : Type) → List (DataW H) → Bool := fun _ ds => decide (uptoBulkAll ds ≤ 1048576)
def OpenSpec.upto (s : _root_.Go.ChangeSpec) : _root_.Go.OpenSpec := { _root_.Go.OpenSpec.ofChange s with cond := some uptoSmall }

/-- 'laws.FnExactShareSet', WHERE WHAT IT READS IS OF BULK AT MOST 1048576: true; the input reads as it did. -/
def fnExactShareSetUptoRow : OpenClaim := { program := "ytpnnbeiojpphhab", sum := "ecdcbd37dd124bef6734f4835b12aac162483bc85b1b499a7fb5a5366071468e", func := "loop.example/g00950/laws.FnExactShareSet", spec := "fnExactShareSet", inPlace := ["slices.overlaps[loop.example/g00950/impl.Share]"], apart := false, narrowed := true }
def FnExactShareSetUptoSaid : Prop := fnExactShareSetUptoRow.holds Try.pinned (OpenSpec.upto fnExactShareSetSpec)

/-- 'laws.FnExactFilesAdd', WHERE WHAT IT READS IS OF BULK AT MOST 1048576: true; the input reads as it did. -/
def fnExactFilesAddUptoRow : OpenClaim := { program := "ytpnnbeiojpphhab", sum := "ecdcbd37dd124bef6734f4835b12aac162483bc85b1b499a7fb5a5366071468e", func := "loop.example/g00950/laws.FnExactFilesAdd", spec := "fnExactFilesAdd", inPlace := ["slices.overlaps[loop.example/g00950/impl.File]"], unfollowed := true, recurses := true, apart := false, narrowed := true }
def FnExactFilesAddUptoSaid : Prop := fnExactFilesAddUptoRow.holds Try.pinned (OpenSpec.upto fnExactFilesAddSpec)

/-- 'laws.FnShares', WHERE WHAT IT READS IS OF BULK AT MOST 1048576: true; the input reads as it did. -/
def fnSharesUptoRow : OpenClaim := { program := "ytpnnbeiojpphhab", sum := "ecdcbd37dd124bef6734f4835b12aac162483bc85b1b499a7fb5a5366071468e", func := "loop.example/g00950/laws.FnShares", spec := "fnShares", inPlace := ["slices.overlaps[loop.example/g00950/impl.Share]"], apart := false, narrowed := true }
def FnSharesUptoSaid : Prop := fnSharesUptoRow.holds Try.pinned (OpenSpec.upto fnSharesSpec)

/-- 'laws.FnIter', WHERE WHAT IT READS IS OF BULK AT MOST 1048576: true; the input reads as it did. -/
def fnIterUptoRow : OpenClaim := { program := "ytpnnbeiojpphhab", sum := "ecdcbd37dd124bef6734f4835b12aac162483bc85b1b499a7fb5a5366071468e", func := "loop.example/g00950/laws.FnIter", spec := "fnIter", apart := false, narrowed := true }
def FnIterUptoSaid : Prop := fnIterUptoRow.holds Try.pinned (OpenSpec.upto fnIterSpec)

/-- 'laws.FnExactCompactEnts', WHERE WHAT IT READS IS OF BULK AT MOST 1048576: true; the input reads as it did. -/
def fnExactCompactEntsUptoRow : OpenClaim := { program := "ytpnnbeiojpphhab", sum := "ecdcbd37dd124bef6734f4835b12aac162483bc85b1b499a7fb5a5366071468e", func := "loop.example/g00950/laws.FnExactCompactEnts", spec := "fnExactCompactEnts", apart := false, narrowed := true }
def FnExactCompactEntsUptoSaid : Prop := fnExactCompactEntsUptoRow.holds Try.pinned (OpenSpec.upto fnExactCompactEntsSpec)

/-- 'laws.FnExactSeenAt', WHERE WHAT IT READS IS OF BULK AT MOST 1048576: true; the input reads as it did. -/
def fnExactSeenAtUptoRow : OpenClaim := { program := "ytpnnbeiojpphhab", sum := "ecdcbd37dd124bef6734f4835b12aac162483bc85b1b499a7fb5a5366071468e", func := "loop.example/g00950/laws.FnExactSeenAt", spec := "fnExactSeenAt", apart := false, narrowed := true }
def FnExactSeenAtUptoSaid : Prop := fnExactSeenAtUptoRow.holds Try.pinned (OpenSpec.upto fnExactSeenAtSpec)

end Rows
end Go.Proofs.Ytpnnbeiojpphhab
