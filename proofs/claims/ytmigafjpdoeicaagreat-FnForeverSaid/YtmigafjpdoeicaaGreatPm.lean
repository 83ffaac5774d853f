/-
  Plain lemmas on the copies, sizes, comparisons and marks that the laws make, whatever the type. Generic: no statement about a given function.
-/
import Derived.Test.YtmigafjpdoeicaaGreatPl
namespace Go.Proofs.YtmigafjpdoeicaaGreat.Sl
open Go
/-! ### Sizes -/
/-! ### Comparisons -/
/-! ### Marks -/
section
variable {α : Type} {mk : Int → α → α} {c : α → Nat}
end
end Go.Proofs.YtmigafjpdoeicaaGreat.Sl
