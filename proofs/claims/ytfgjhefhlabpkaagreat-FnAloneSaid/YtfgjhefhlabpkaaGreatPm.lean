/-
  Plain lemmas on the copies, sizes, comparisons and marks that the laws make, whatever the type. Generic: no statement about a given function.
-/
import Derived.Test.YtfgjhefhlabpkaaGreatPl
namespace Go.Proofs.YtfgjhefhlabpkaaGreat.Sl
open Go
theorem zp6 {α:Type} (w:α→Nat): ∀{l:List α} {x:α},x∈l→w x≤(l.map w).sum
 | y::l,x,h=>by
   rw[List.map_cons,List.sum_cons]
   rcases List.mem_cons.1 h with rfl | h
   ·omega
   ·have:=zp6 w h;omega
section
variable {α:Type} {mk:Int→α→α} {c:α→Nat}
end
end Go.Proofs.YtfgjhefhlabpkaaGreat.Sl
