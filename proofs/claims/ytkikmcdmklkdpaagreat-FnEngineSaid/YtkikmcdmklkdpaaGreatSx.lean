/-
  Elements moved out of a slice, one by one: a list of which some places are empty. Pieces of such a list put behind another. Generic: no statement about a given function.
-/
import Derived.Test.YtkikmcdmklkdpaaGreatSz
import Derived.Lib.Bytealg
namespace Go.Proofs.YtkikmcdmklkdpaaGreat.Sl
open Go Go.RowKit
/-! ### A list some of whose elements were moved away -/
instance {α : Type} [Enc α] : Enc (Option α) := ⟨Enc.sz α, fun x => match x with | some x => Enc.enc x | none => List.replicate (Enc.sz α) .any, fun x => by cases x <;> simp [Enc.len], Enc.pos⟩
section
variable {P : Program} {w0 : World} {S0 : List Nat} {R : Type} {m : Option R} {n : Nat} {fr : Fr} {is : List Item} {Q : R → Exit → Act → World → Prop} {α : Type}
variable {ty : TypeId} {pos : String} {aft : Array Edge}
end
/-! ### Four or five operations that may come up -/
section
variable {P : Program} {w0 : World} {S0 : List Nat} {R : Type} {m : Option R} {n : Nat} {fr : Fr} {is isH : List Item} {Q : R → Exit → Act → World → Prop} {ops : Array Oper} {fuel : Nat} {listed : Array Bool}
theorem A4 (i j k l : Nat) (h1 : TX P w0 S0 m n fr is isH ops fuel listed Q i) (h2 : TX P w0 S0 m n fr is isH ops fuel listed Q j) (h3 : TX P w0 S0 m n fr is isH ops fuel listed Q k) (h4 : TX P w0 S0 m n fr is isH ops fuel listed Q l)
    (hr : Region.ready .any ops listed = [i, j, k, l] := by kernel_rfl) : TA P w0 S0 m n fr is isH ops (fuel + 1) listed Q :=
  TA.all [i, j, k, l] hr (by simp) fun q hq => by
    simp only [List.mem_cons, List.not_mem_nil, or_false] at hq
    rcases hq with rfl | rfl | rfl | rfl
    · exact h1
    · exact h2
    · exact h3
    · exact h4
end
/-! ### The end of a function, its results read from variables -/
section
variable {P : Program} {w0 : World} {R : Type} {n : Nat} {fr : Fr} {is : List Item}
theorem Rz : RV P fr is [] [] := trivial
theorem Rt {t : Nat} {v : Value} {rs : List ResultVar} {vs : List Value} (h1 : lk t fr = some v) (h : RV P fr is rs vs) : RV P fr is (.tmp t :: rs) (v :: vs) := ⟨h1, h⟩
theorem Rf {S1 : List Nat} {fn : Func} {X : Type} {val : R → X → Value} {post : R → X → List Item} {q : R} {e : Exit} {vs : List Value} (x : X) (ks : List Nat) (h2 : RV P fr is fn.results.toList vs)
    (he : backE e = true := by exact r) (h3 : retV vs = val q x := by exact r) (hi : pulls ks is = some (post q x) := by exact r) :
    TE w0 S1 (some q) n fr is e (fun q => bodyPost P fn (fun e w' => ∃ x, e = .returned (val q x) ∧ St w0 S1 (post q x) w')) :=
  TE.leaf fun _ _ hf hs => ret_any (by cases e <;> first | exact .inl rfl | exact .inr rfl | cases he) (Array.toArray_toList).symm h2 hf hs ⟨x, by rw [h3], hs.pulls ks hi⟩
end
end Go.Proofs.YtkikmcdmklkdpaaGreat.Sl
