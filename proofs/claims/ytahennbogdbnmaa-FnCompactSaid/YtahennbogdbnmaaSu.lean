/-
  Structs whose fields are ints, bools and strings, compared. Generic: no statement about a given function.
-/
import Derived.Test.YtahennbogdbnmaaSt
import Derived.Laws.StructEq
import Derived.ChangeKeysEq
namespace Go.Proofs.Ytahennbogdbnmaa.Sl
open Go RowKit
section
variable {P : Program} {w0 : World} {S0 : List Nat} {n : Nat} {fr : Fr} {is : List Item} {dst : Option Nat} {ty : TypeId} {pos : String} {aft : Array Edge} {gd : Option (Nat × Bool)}
/-- a scalar type's number -/
def scalB (P : Program) (t : TypeId) : Option Nat := match P.underlying t with
  | some (.int _) => some 0
  | some .bool => some 1
  | some .string => some 2
  | _ => none
/-- the fields are scalars, one behind the other -/
def fkB (P : Program) : Nat → List Field → Option (List Nat)
  | _, [] => some []
  | o, f :: fs => match f.name != "_" && Nat.beq f.offset o, scalB P f.type, fkB P (o + 1) fs with
    | true, some k, some ks => some (k :: ks)
    | _, _, _ => none
/-- a struct of scalars -/
def eqTB (P : Program) (t : TypeId) : Option (List Nat) := match P.underlying t with
  | some (.struct fs) => bif P.stoodInHeld t || P.eqGuardType P.depth t then none else fkB P 0 fs.toList
  | _ => none
/-- what the comparison of the cells says -/
inductive EqA : List Nat → List Value → List Value → Bool → Prop
  | nil : EqA [] [] [] true
  | int {ks xs ys b} {k : IntKind} {p q : Int} : EqA ks xs ys b → EqA (0 :: ks) (.int k p :: xs) (.int k q :: ys) (decide (p = q) && b)
  | bool {ks xs ys b} {p q : Bool} : EqA ks xs ys b → EqA (1 :: ks) (.bool p :: xs) (.bool q :: ys) (decide (p = q) && b)
  | str {ks xs ys b} {p q : List UInt8} : EqA ks xs ys b → EqA (2 :: ks) (strV p :: xs) (strV q :: ys) (decide (p = q) && b)

theorem scalB_plain {t : TypeId} {k : Nat} (h : scalB P t = some k) : P.plainKey t = true := by
  unfold scalB at h
  unfold Program.plainKey
  split at h <;> simp_all
theorem drop_cons {l : List Value} {o : Nat} {x : Value} {xs : List Value} (h : l.drop o = x :: xs) : l[o]? = some x ∧ l.drop (o + 1) = xs := by
  constructor
  · have := congrArg (fun q => q[0]?) h
    simpa using this
  · rw [← List.drop_drop, h]; rfl

theorem run_eqFields (d : Nat) (w : World) (xs ys : Array Value) : ∀ (fs : List Field) (o : Nat) (ks : List Nat) (xl yl : List Value) (b : Bool), fkB P o fs = some ks → EqA ks xl yl b → xs.toList.drop o = xl → ys.toList.drop o = yl → (Op.eqFields (d + 1) xs ys fs).run P w = .ok b w
  | [], o, ks, xl, yl, b, hk, he, hx, hy => by
    simp only [fkB, Option.some.injEq] at hk
    subst hk
    cases he
    rfl
  | f :: fs, o, ks, xl, yl, b, hk, he, hx, hy => by
    unfold fkB at hk
    split at hk
    case h_2 => cases hk
    rename_i k ks' h1 h2 h3
    cases hk
    simp only [Bool.and_eq_true, bne_iff_ne, ne_eq] at h1
    obtain ⟨h1, ho⟩ := h1
    have ho' : f.offset = o := Nat.eq_of_beq_eq_true ho
    have hp := scalB_plain h2
    have key : ∀ (u v : Value) (xl' yl' : List Value) (r b' : Bool), xl = u :: xl' → yl = v :: yl' → EqA ks' xl' yl' b' → b = (r && b') → (Op.equalIn (d + 1) f.type u v).run P w = .ok r w → (Op.eqFields (d + 1) xs ys (f :: fs)).run P w = .ok b w := by
      intro u v xl' yl' r b' e1 e2 he' eb hr
      subst e1 e2 eb
      obtain ⟨gx, dx⟩ := drop_cons hx
      obtain ⟨gy, dy⟩ := drop_cons hy
      have ax : xs[f.offset]? = some u := by rw [ho', ← Array.getElem?_toList]; exact gx
      have ay : ys[f.offset]? = some v := by rw [ho', ← Array.getElem?_toList]; exact gy
      unfold Op.eqFields
      rw [if_pos h1]
      simp only [Sem.run_bind, run_part_plain w hp ax, run_part_plain w hp ay, Result.andThen_ok, hr]
      cases r with
      | false => rfl
      | true =>
        simp only [Bool.not_true, Bool.false_eq_true, if_false, Bool.true_and]
        exact run_eqFields d w xs ys fs (o + 1) ks' xl' yl' b' h3 he' dx dy
    have hu := h2
    unfold scalB at hu
    cases he with
    | int he' =>
      split at hu <;> cases hu
      rename_i ku hku
      exact key _ _ _ _ _ _ rfl rfl he' rfl (by rw [run_equalIn_int w d f.type _ ku _ _ hku]; congr 1)
    | bool he' =>
      split at hu <;> cases hu
      rename_i hku
      exact key _ _ _ _ _ _ rfl rfl he' rfl (by rw [run_equalIn_bool' w d f.type _ _ hku]; congr 1)
    | str he' =>
      split at hu <;> cases hu
      rename_i hku
      exact key _ _ _ _ _ _ rfl rfl he' rfl (by rw [strV, strV, run_equalIn_string w d f.type _ _ hku, toList_strV, toList_strV, beq_dec])

theorem run_equal_flat {t : TypeId} {ks : List Nat} {xs ys : List Value} {b : Bool} (ht : eqTB P t = some ks) (he : EqA ks xs ys b) (w : World) : (Op.equalIn 10000 t (.agg xs.toArray) (.agg ys.toArray)).run P w = .ok b w ∧ P.eqGuardType P.depth t = false := by
  unfold eqTB at ht
  split at ht
  case h_2 => cases ht
  rename_i fs hu
  cases hs : P.stoodInHeld t with
  | true => rw [hs] at ht; simp at ht
  | false =>
    cases hg : P.eqGuardType P.depth t with
    | true => rw [hg] at ht; simp at ht
    | false =>
      rw [hs, hg] at ht
      simp only [Bool.or_self, cond_false] at ht
      refine ⟨?_, rfl⟩
      have hf : P.fieldsOf t = fs := by unfold Program.fieldsOf; rw [hu]
      have hu' : P.underlying t = some (.struct (P.fieldsOf t)) := by rw [hf]; exact hu
      rw [run_equalIn_struct w 9999 t xs.toArray ys.toArray hu' hs, hf]
      exact run_eqFields 9998 w xs.toArray ys.toArray fs.toList 0 ks xs ys b ht he rfl rfl

theorem Y.eqlA {x y : Operand} {t t' : TypeId} {ks : List Nat} {xs ys : List Value} {b : Bool} (ht : eqTB P t = some ks) (he : EqA ks xs ys b) (hx : ev fr x = some (.agg xs.toArray)) (hy : ev fr y = some (.agg ys.toArray)) :
    Y P w0 S0 n fr is ⟨dst, .binOp .eql t x y t', ty, pos, aft, gd⟩ (.bool b) := by
  intro a w hf _
  obtain ⟨h1, h2⟩ := run_equal_flat ht he w
  simp only [execOp, hf.eval hx, hf.eval hy, Sem.run_bind, Sem.run_pure, Result.andThen_ok, run_eqGuard_agg w _ t x y _ _ h2, run_eql_struct, h1]
theorem Y.neqA {x y : Operand} {t t' : TypeId} {ks : List Nat} {xs ys : List Value} {b : Bool} (ht : eqTB P t = some ks) (he : EqA ks xs ys b) (hx : ev fr x = some (.agg xs.toArray)) (hy : ev fr y = some (.agg ys.toArray)) :
    Y P w0 S0 n fr is ⟨dst, .binOp .neq t x y t', ty, pos, aft, gd⟩ (.bool (!b)) := by
  intro a w hf _
  obtain ⟨h1, h2⟩ := run_equal_flat ht he w
  simp only [execOp, hf.eval hx, hf.eval hy, Sem.run_bind, Sem.run_pure, Result.andThen_ok, run_eqGuard_agg w _ t x y _ _ h2, run_neq_struct, h1]
end
end Go.Proofs.Ytahennbogdbnmaa.Sl
