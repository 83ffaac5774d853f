/-
  The rules of the small separation logic, continued: arrays (their variables seen as rows), shifts. Generic: no statement about a given function.
-/
import Derived.Test.YtkikmcdmklkdpaaGreatSo
namespace Go.Proofs.YtkikmcdmklkdpaaGreat.Sl
open Go Go.RowKit
def nn (q : Int) : Option Unit := if q < 0 then none else some ()
structure Wrd where
  v : Int
deriving DecidableEq
instance : Enc Wrd := ⟨1, fun x => [.int .u32 x.v], fun _ => rfl, Nat.one_pos⟩
instance : Flat Wrd := { vals := fun x => [.int .u32 x.v], flat := fun _ => rfl }
section
variable {P : Program} {w0 : World} {S0 : List Nat} {R : Type} {m : Option R} {n : Nat} {fr : Fr} {is : List Item} {Q : R → Exit → Act → World → Prop}
variable {dst : Option Nat} {ty : TypeId} {pos : String} {aft : Array Edge} {gd : Option (Nat × Bool)}
end
end Go.Proofs.YtkikmcdmklkdpaaGreat.Sl
