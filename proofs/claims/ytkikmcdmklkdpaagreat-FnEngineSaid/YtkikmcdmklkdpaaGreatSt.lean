/-
  Strings made of bytes: a string's bytes appended to bytes of one's own, a place compared with nil or with itself, the place of one's own as it goes through unsafe.Pointer, a string made of bytes of one's own. Generic: no statement about a given function.
-/
import Derived.Test.YtkikmcdmklkdpaaGreatSq
import Derived.Lib.Builder
import Derived.Lib.UnsafeStr
import Derived.Laws.Externs
namespace Go.Proofs.YtkikmcdmklkdpaaGreat.Sl
open Go RowKit
section
variable {P : Program} {w0 : World} {S0 : List Nat} {n : Nat} {fr : Fr} {is : List Item} {dst : Option Nat} {ty : TypeId} {pos : String} {aft : Array Edge} {gd : Option (Nat × Bool)}
theorem Buf.own {w : World} {v : Value} {e : TypeId} {l : List UInt8} {S : List Nat} (h : Buf w v e l S) : w.ownsRow 0 e 1 v l.length (l.map fun x => Value.int .u8 x.toNat) ∧ S = v.ownBlock.toList := by
  rcases h with ⟨rfl, rfl, rfl⟩ | ⟨g, cap, cur, rfl, h2, h3, h4, h5, h6, rfl⟩
  · exact ⟨World.ownsRow_nil w 0 e 1, rfl⟩
  · refine ⟨⟨by simp, .inr ⟨g, cap, cur, rfl, Nat.zero_le _, h2, h3, h4, by omega, by rw [Nat.mul_one]; exact h6⟩⟩, rfl⟩
theorem buf_sat {w : World} {i e : Nat} {v : Value} {l : List UInt8} (hs : St w0 S0 is w) (hi : is[i]? = some (.buf v e l)) : ∃ A, Buf w v e l A := by
  obtain ⟨_, _, _, _, _, S, hS, _, _⟩ := hs
  have key : ∀ (is : List Item) (i : Nat) (S : List Nat), is[i]? = some (.buf v e l) → sats w is S → ∃ A, Buf w v e l A := by
    intro is
    induction is with
    | nil => intro i S hi; simp at hi
    | cons x r ih =>
      intro i S hi hS
      obtain ⟨A, B, rfl, h1, h2⟩ := hS
      cases i with
      | zero =>
        simp only [List.getElem?_cons_zero, Option.some.injEq] at hi
        subst hi
        exact ⟨A, h1⟩
      | succ i => exact ih i B (by simpa using hi) h2
  exact key is i S hi hS
theorem One.buf {i e : Nat} {v : Value} {l : List UInt8} (hi : is[i]? = some (.buf v e l)) : One w0 S0 is v := by
  intro w hs
  obtain ⟨A, h⟩ := buf_sat hs hi
  rcases h with ⟨rfl, _⟩ | ⟨g, cap, cur, rfl, _⟩ <;> rfl
end
end Go.Proofs.YtkikmcdmklkdpaaGreat.Sl
