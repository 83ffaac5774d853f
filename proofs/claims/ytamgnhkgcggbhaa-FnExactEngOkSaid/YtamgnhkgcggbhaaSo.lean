/-
  The rules of the small separation logic, continued: pieces of slices, division. Generic: no statement about a given function.
-/
import Derived.Test.YtamgnhkgcggbhaaSn
namespace Go.Proofs.Ytamgnhkgcggbhaa.Sl
open Go Go.RowKit

/-! ### Pieces of slices -/
/-- the piece from lo to hi -/
def piece {α : Type} (l : List α) (lo hi : Int) : Option (List α) := if 0 ≤ lo ∧ lo ≤ hi ∧ hi ≤ l.length then some ((l.drop lo.toNat).take (hi.toNat - lo.toNat)) else none
theorem piece_eq {α : Type} {l z : List α} {lo hi : Int} (h : piece l lo hi = some z) : 0 ≤ lo ∧ lo ≤ hi ∧ hi ≤ l.length ∧ z = (l.drop lo.toNat).take (hi.toNat - lo.toNat) := by
  unfold piece at h
  split at h
  · rename_i hc; cases h; exact ⟨hc.1, hc.2.1, hc.2.2, rfl⟩
  · cases h
/-- its value -/
def subV (v : Value) (sz lo n : Nat) : Value := match v with
  | .slice a _ cap => .slice (if cap = lo then a else a.map (·.add (lo * sz))) n (cap - lo)
  | _ => undef

theorem Rd.sub {α : Type} [Enc α] {w : World} {v : Value} {l z : List α} {F : List Nat} {lo hi : Int} (h : Rd w v (lc l) F) (hs : piece l lo hi = some z) :
    ∃ F', Rd w (subV v (Enc.sz α) lo.toNat (hi.toNat - lo.toNat)) (lc z) F' ∧ ∀ b ∈ F', b ∈ F := by
  obtain ⟨h0, h1, h2, rfl⟩ := piece_eq hs
  have hzl : ((l.drop lo.toNat).take (hi.toNat - lo.toNat)).length = hi.toNat - lo.toNat := by rw [List.length_take, List.length_drop]; omega
  have hl : l = l.take lo.toNat ++ ((l.drop lo.toNat).take (hi.toNat - lo.toNat) ++ (l.drop lo.toNat).drop (hi.toNat - lo.toNat)) := by rw [List.take_append_drop, List.take_append_drop]
  unfold lc at h ⊢
  rw [hzl]
  generalize hz : (l.drop lo.toNat).take (hi.toNat - lo.toNat) = z at hzl hl
  generalize hln : l.length = ln at h h2
  generalize hcs : l.flatMap (Enc.enc (α := α)) = cs at h
  cases h with
  | nil =>
    have h3 : lo.toNat = 0 := by omega
    have h4 : hi.toNat - lo.toNat = 0 := by omega
    have : z = [] := List.eq_nil_of_length_eq_zero (by omega)
    subst this
    rw [h4, h3]
    exact ⟨[], .nil _, by simp⟩
  | row a n cap sz vs cs S hvl hcap hcell hr =>
    by_cases hc : cap = lo.toNat
    · have h4 : hi.toNat - lo.toNat = 0 := by omega
      have : z = [] := List.eq_nil_of_length_eq_zero (by omega)
      subst this
      rw [h4]
      simp only [subV, if_pos hc]
      have := Rd.row (w := w) a 0 (cap - lo.toNat) (Enc.sz α) [] [] [] (by simp) (Nat.zero_le _) (fun j hj => by simp at hj) .nil
      simp only [Nat.zero_mul, if_true, List.append_nil] at this
      exact ⟨[], this, by simp⟩
    · subst hcs
      simp only [subV, if_neg hc, Option.map_some]
      rw [hl, List.flatMap_append, List.flatMap_append] at hr
      obtain ⟨S1, S2, rfl, _, hr2⟩ := hr.split
      obtain ⟨S3, S4, rfl, hr3, _⟩ := hr2.split
      have hl1 : ((l.take lo.toNat).flatMap (Enc.enc (α := α))).length = lo.toNat * Enc.sz α := by rw [flat_length, List.length_take]; congr 1; omega
      rw [hl1, flat_length, hzl] at hr3
      have hmul : lo.toNat * Enc.sz α + (hi.toNat - lo.toNat) * Enc.sz α ≤ ln * Enc.sz α := by rw [← Nat.add_mul]; exact Nat.mul_le_mul_right _ (by omega)
      refine ⟨_, Rd.row (a.add (lo.toNat * Enc.sz α)) (hi.toNat - lo.toNat) (cap - lo.toNat) (Enc.sz α) _ _ _ ?_ (by omega) ?_ hr3, ?_⟩
      · rw [List.length_take, List.length_drop, hvl]; omega
      · intro j hj
        rw [add_add, hcell _ (by omega), List.getElem?_take, if_pos hj, List.getElem?_drop]
      · intro b hb
        rcases List.mem_append.1 hb with hb | hb
        · refine List.mem_append.2 (.inl ?_)
          split at hb
          · cases hb
          · rename_i hne
            rw [add_block] at hb
            rw [if_neg]
            · exact hb
            · intro e
              have : (hi.toNat - lo.toNat) * Enc.sz α = 0 := by omega
              exact hne this
        · exact List.mem_append.2 (.inr (by simp [hb]))

theorem Can.sub {α : Type} [Enc α] {w0 : World} {S0 : List Nat} {is : List Item} {v : Value} {l z : List α} {lo hi : Int} {sz : Nat} (hs : piece l lo hi = some z) (hsz : Enc.sz α = sz) (h : Can w0 S0 is v (lc l)) :
    Can w0 S0 is (subV v sz lo.toNat (hi.toNat - lo.toNat)) (lc z) := by
  subst hsz
  intro w S hS hb
  obtain ⟨F, hF, hn⟩ := h w S hS hb
  obtain ⟨F', h1, h2⟩ := hF.sub hs
  exact ⟨F', h1, fun b hb => hn b (h2 b hb)⟩
theorem Base.sub {α : Type} [Enc α] {w0 : World} {S0 : List Nat} {v : Value} {l z : List α} {lo hi : Int} {sz : Nat} (hs : piece l lo hi = some z) (hsz : Enc.sz α = sz) (h : Base w0 S0 v (lc l)) :
    Base w0 S0 (subV v sz lo.toNat (hi.toNat - lo.toNat)) (lc z) := by
  subst hsz
  obtain ⟨F, hF, hn⟩ := h
  obtain ⟨F', h1, h2⟩ := hF.sub hs
  exact ⟨F', h1, fun b hb => hn b (h2 b hb)⟩

/-- a bound, or none -/
def bOp (fr : Fr) (o : Option Operand) (n d : Int) : Prop := match o with
  | some x => ∃ k, ev fr x = some (.int k n)
  | none => n = d

section
variable {P : Program} {w0 : World} {S0 : List Nat} {n : Nat} {fr : Fr} {is : List Item}
variable {dst : Option Nat} {ty : TypeId} {pos : String} {aft : Array Edge} {gd : Option (Nat × Bool)}

theorem Y.subs {α : Type} {l z : List α} {v : Value} {x : Operand} {t e sz by_ sz' : Nat} {cs : List C} {lo hi : Int} {L H : Option Operand} (hs : piece l lo hi = some z) (he : elemB P t = some (e, sz, by_)) (hc : Can w0 S0 is v (.sl sz' l.length cs))
    (hx : ev fr x = some v) (hL : bOp fr L lo 0) (hH : bOp fr H hi l.length) : Y P w0 S0 n fr is ⟨dst, .slice t x L H none, ty, pos, aft, gd⟩ (subV v sz lo.toNat (hi.toNat - lo.toNat)) := by
  obtain ⟨hu, ti, hti, hsz, _⟩ := elemB_some he
  obtain ⟨h0, h1, h2, rfl⟩ := piece_eq hs
  intro a w hf hst
  have key : ∀ (A : Option Addr) (cap : Nat), l.length ≤ cap → (Instr.sliceAt t (.slice A l.length cap) (L.map a.eval) (H.map a.eval) none).run P w = .ok (subV (.slice A l.length cap) sz lo.toNat (hi.toNat - lo.toNat)) w := by
    intro A cap hcap
    have hA : ∀ i : Int, 0 ≤ i → i ≤ (cap : Int) → True := fun _ _ _ => trivial
    cases L with
    | none =>
      obtain rfl : lo = 0 := hL
      cases H with
      | none =>
        obtain rfl : hi = (l.length : Int) := hH
        simp [Instr.sliceAt, Instr.slice, Instr.sliceBounds, run_underlying hu, sizeOf, typeInfo, hti, hsz, subV]
      | some y =>
        obtain ⟨k, hy⟩ := hH
        simp [Instr.sliceAt, Instr.slice, Instr.sliceBounds, Instr.sliceBound, asIntOf, hf.eval hy, run_underlying hu, sizeOf, typeInfo, hti, hsz, subV, show 0 ≤ hi by omega, show hi ≤ (cap : Int) by omega]
    | some y =>
      obtain ⟨k, hy⟩ := hL
      cases H with
      | none =>
        obtain rfl : hi = (l.length : Int) := hH
        simp [Instr.sliceAt, Instr.slice, Instr.sliceBounds, Instr.sliceBound, asIntOf, hf.eval hy, run_underlying hu, sizeOf, typeInfo, hti, hsz, subV, h0, h1]
      | some y2 =>
        obtain ⟨k2, hy2⟩ := hH
        simp [Instr.sliceAt, Instr.slice, Instr.sliceBounds, Instr.sliceBound, asIntOf, hf.eval hy, hf.eval hy2, run_underlying hu, sizeOf, typeInfo, hti, hsz, subV, h0, show 0 ≤ hi by omega, show hi ≤ (cap : Int) by omega, show (hi.toNat : Int) = hi by omega, h1, show max hi 0 = hi by omega]
  rcases hc.row hst with ⟨h3, _, rfl⟩ | ⟨a0, cap, vs, S, rfl, hcap, _⟩
  · have := key none 0 (by omega)
    rw [h3] at this
    simp [execOp, hf.eval hx, this]
  · have := key (some a0) cap hcap
    simp [execOp, hf.eval hx, this]

/-! ### Division -/
/-- not zero -/
def nz (q : Int) : Option Unit := if q = 0 then none else some ()
theorem nz_ne {q : Int} {u : Unit} (h : nz q = some u) : q ≠ 0 := by
  unfold nz at h
  split at h
  · cases h
  · assumption
end
end Go.Proofs.Ytamgnhkgcggbhaa.Sl
