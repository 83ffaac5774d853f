/-
  Structs whose fields are ints, bools and strings, compared. Generic: no statement about a given function.
-/
import Derived.Test.YtbocplhlbbhblaaSt
import Derived.Laws.StructEq
import Derived.ChangeKeysEq
import Derived.Lib.ConvBytes
namespace Go.Proofs.Ytbocplhlbbhblaa.Sl
open Go RowKit
section
variable {P : Program} {w0 : World} {S0 : List Nat} {n : Nat} {fr : Fr} {is : List Item} {dst : Option Nat} {ty : TypeId} {pos : String} {aft : Array Edge} {gd : Option (Nat × Bool)}
/-- a scalar type's number -/
def scalB (P : Program) (t : TypeId) : Option Nat := match P.underlying t with
  | some (.int _) => some 0
  | some .bool => some 1
  | some .string => some 2
  | _ => none
/-- the fields are scalars, one behind the other -/
def fkB (P : Program) : Nat → List Field → Option (List Nat)
  | _, [] => some []
  | o, f :: fs => match f.name != "_" && Nat.beq f.offset o, scalB P f.type, fkB P (o + 1) fs with
    | true, some k, some ks => some (k :: ks)
    | _, _, _ => none
/-- a struct of scalars -/
def eqTB (P : Program) (t : TypeId) : Option (List Nat) := match P.underlying t with
  | some (.struct fs) => bif P.stoodInHeld t || P.eqGuardType P.depth t then none else fkB P 0 fs.toList
  | _ => none
/-- what the comparison of the cells says -/
inductive EqA : List Nat → List Value → List Value → Bool → Prop
  | nil : EqA [] [] [] true
  | int {ks xs ys b} {k : IntKind} {p q : Int} : EqA ks xs ys b → EqA (0 :: ks) (.int k p :: xs) (.int k q :: ys) (decide (p = q) && b)
  | bool {ks xs ys b} {p q : Bool} : EqA ks xs ys b → EqA (1 :: ks) (.bool p :: xs) (.bool q :: ys) (decide (p = q) && b)
  | str {ks xs ys b} {p q : List UInt8} : EqA ks xs ys b → EqA (2 :: ks) (strV p :: xs) (strV q :: ys) (decide (p = q) && b)

theorem scalB_plain {t : TypeId} {k : Nat} (h : scalB P t = some k) : P.plainKey t = true := by
  unfold scalB at h
  unfold Program.plainKey
  split at h <;> simp_all
theorem drop_cons {l : List Value} {o : Nat} {x : Value} {xs : List Value} (h : l.drop o = x :: xs) : l[o]? = some x ∧ l.drop (o + 1) = xs := by
  constructor
  · have := congrArg (fun q => q[0]?) h
    simpa using this
  · rw [← List.drop_drop, h]; rfl

theorem run_eqFields (d : Nat) (w : World) (xs ys : Array Value) : ∀ (fs : List Field) (o : Nat) (ks : List Nat) (xl yl : List Value) (b : Bool), fkB P o fs = some ks → EqA ks xl yl b → xs.toList.drop o = xl → ys.toList.drop o = yl → (Op.eqFields (d + 1) xs ys fs).run P w = .ok b w
  | [], o, ks, xl, yl, b, hk, he, hx, hy => by
    simp only [fkB, Option.some.injEq] at hk
    subst hk
    cases he
    rfl
  | f :: fs, o, ks, xl, yl, b, hk, he, hx, hy => by
    unfold fkB at hk
    split at hk
    case h_2 => cases hk
    rename_i k ks' h1 h2 h3
    cases hk
    simp only [Bool.and_eq_true, bne_iff_ne, ne_eq] at h1
    obtain ⟨h1, ho⟩ := h1
    have ho' : f.offset = o := Nat.eq_of_beq_eq_true ho
    have hp := scalB_plain h2
    have key : ∀ (u v : Value) (xl' yl' : List Value) (r b' : Bool), xl = u :: xl' → yl = v :: yl' → EqA ks' xl' yl' b' → b = (r && b') → (Op.equalIn (d + 1) f.type u v).run P w = .ok r w → (Op.eqFields (d + 1) xs ys (f :: fs)).run P w = .ok b w := by
      intro u v xl' yl' r b' e1 e2 he' eb hr
      subst e1 e2 eb
      obtain ⟨gx, dx⟩ := drop_cons hx
      obtain ⟨gy, dy⟩ := drop_cons hy
      have ax : xs[f.offset]? = some u := by rw [ho', ← Array.getElem?_toList]; exact gx
      have ay : ys[f.offset]? = some v := by rw [ho', ← Array.getElem?_toList]; exact gy
      unfold Op.eqFields
      rw [if_pos h1]
      simp only [Sem.run_bind, run_part_plain w hp ax, run_part_plain w hp ay, Result.andThen_ok, hr]
      cases r with
      | false => rfl
      | true =>
        simp only [Bool.not_true, Bool.false_eq_true, if_false, Bool.true_and]
        exact run_eqFields d w xs ys fs (o + 1) ks' xl' yl' b' h3 he' dx dy
    have hu := h2
    unfold scalB at hu
    cases he with
    | int he' =>
      split at hu <;> cases hu
      rename_i ku hku
      exact key _ _ _ _ _ _ rfl rfl he' rfl (by rw [run_equalIn_int w d f.type _ ku _ _ hku]; congr 1)
    | bool he' =>
      split at hu <;> cases hu
      rename_i hku
      exact key _ _ _ _ _ _ rfl rfl he' rfl (by rw [run_equalIn_bool' w d f.type _ _ hku]; congr 1)
    | str he' =>
      split at hu <;> cases hu
      rename_i hku
      exact key _ _ _ _ _ _ rfl rfl he' rfl (by rw [strV, strV, run_equalIn_string w d f.type _ _ hku, toList_strV, toList_strV, beq_dec])

theorem run_equal_flat {t : TypeId} {ks : List Nat} {xs ys : List Value} {b : Bool} (ht : eqTB P t = some ks) (he : EqA ks xs ys b) (w : World) : (Op.equalIn 10000 t (.agg xs.toArray) (.agg ys.toArray)).run P w = .ok b w ∧ P.eqGuardType P.depth t = false := by
  unfold eqTB at ht
  split at ht
  case h_2 => cases ht
  rename_i fs hu
  cases hs : P.stoodInHeld t with
  | true => rw [hs] at ht; simp at ht
  | false =>
    cases hg : P.eqGuardType P.depth t with
    | true => rw [hg] at ht; simp at ht
    | false =>
      rw [hs, hg] at ht
      simp only [Bool.or_self, cond_false] at ht
      refine ⟨?_, rfl⟩
      have hf : P.fieldsOf t = fs := by unfold Program.fieldsOf; rw [hu]
      have hu' : P.underlying t = some (.struct (P.fieldsOf t)) := by rw [hf]; exact hu
      rw [run_equalIn_struct w 9999 t xs.toArray ys.toArray hu' hs, hf]
      exact run_eqFields 9998 w xs.toArray ys.toArray fs.toList 0 ks xs ys b ht he rfl rfl

theorem Y.eqlA {x y : Operand} {t t' : TypeId} {ks : List Nat} {xs ys : List Value} {b : Bool} (ht : eqTB P t = some ks) (he : EqA ks xs ys b) (hx : ev fr x = some (.agg xs.toArray)) (hy : ev fr y = some (.agg ys.toArray)) :
    Y P w0 S0 n fr is ⟨dst, .binOp .eql t x y t', ty, pos, aft, gd⟩ (.bool b) := by
  intro a w hf _
  obtain ⟨h1, h2⟩ := run_equal_flat ht he w
  simp only [execOp, hf.eval hx, hf.eval hy, Sem.run_bind, Sem.run_pure, Result.andThen_ok, run_eqGuard_agg w _ t x y _ _ h2, run_eql_struct, h1]
theorem Y.neqA {x y : Operand} {t t' : TypeId} {ks : List Nat} {xs ys : List Value} {b : Bool} (ht : eqTB P t = some ks) (he : EqA ks xs ys b) (hx : ev fr x = some (.agg xs.toArray)) (hy : ev fr y = some (.agg ys.toArray)) :
    Y P w0 S0 n fr is ⟨dst, .binOp .neq t x y t', ty, pos, aft, gd⟩ (.bool (!b)) := by
  intro a w hf _
  obtain ⟨h1, h2⟩ := run_equal_flat ht he w
  simp only [execOp, hf.eval hx, hf.eval hy, Sem.run_bind, Sem.run_pure, Result.andThen_ok, run_eqGuard_agg w _ t x y _ _ h2, run_neq_struct, h1]

/-! bytes made of a string -/
/-- there is room for as many bytes -/
def byteRoom (s : List UInt8) : Option Unit := if s.length ≤ 140737488355328 then some () else none
theorem Ef.toBytes {src tgt e sz by_ : Nat} {x : Operand} {s : List UInt8} {z : Unit} (hb : byteRoom s = some z) (hs : isStrB P src = true) (he : elemB P tgt = some (e, sz, by_)) (hk : intB P e = some .u8) (hx : ev fr x = some (strV s)) :
    Ef P w0 S0 n fr is ⟨dst, .convert src tgt x, ty, pos, aft, gd⟩ (fun v : Value => v) (fun v => .frz v e s :: is) := by
  obtain ⟨hu, _⟩ := elemB_some he
  have hs' : P.underlying src = some .string := by unfold isStrB at hs; split at hs <;> simp_all
  have hk' : P.underlying e = some (.int .u8) := by unfold intB at hk; split at hk <;> simp_all
  intro a w K Q hf hst hK
  have hrun := Lib.run_convert_string_bytes (P := P) w src tgt e ⟨s.toArray⟩ hs' hu hk'
  have hsz : (ByteArray.mk s.toArray).size = s.length := by rw [ByteArray.size_mk']; rfl
  rw [hsz] at hrun
  have hge := grownCap_ge w s.length 0 e
  have hop : (execOp a.eval ⟨dst, .convert src tgt x, ty, pos, aft, gd⟩).run P w = .ok (.value (.slice (some ⟨w.heap.size, 0, none⟩) s.length (grownCap w s.length 0 e))) (Lib.bytesWorld w e ⟨s.toArray⟩) := by
    simp [execOp, hf.eval hx, strV, hrun]
  unfold Oper.wp
  rw [hop]
  refine hK _ _ ?_
  refine St.step (is := []) (js := [.frz (.slice (some ⟨w.heap.size, 0, none⟩) s.length (grownCap w s.length 0 e)) e s]) (r := is) hst fun A hA _ => ⟨[w.heap.size], ?_, ?_, by simp, fun b hb => .inr (by rw [List.mem_singleton.1 hb]; exact Nat.le_refl _)⟩
  · have h1 := Lib.bytesWorld_size w e ⟨s.toArray⟩
    refine ⟨?_, ?_, ?_, by omega, fun b hb _ => Lib.bytesWorld_at_old w e _ b hb⟩ <;> (unfold Lib.bytesWorld World.freeze; split <;> rfl)
  · have hcs : (Lib.bytesCells w e ⟨s.toArray⟩).size = grownCap w s.length 0 e := by
      unfold Lib.bytesCells
      rw [hsz]
      simp
      omega
    refine ⟨[w.heap.size], [], rfl, ⟨w.heap.size, grownCap w s.length 0 e, Lib.bytesCells w e ⟨s.toArray⟩, rfl, ?_, hge, hcs, ?_, rfl⟩, rfl⟩
    · rw [Lib.bytesWorld_at_new, hcs]
    · unfold Lib.bytesCells
      simp
theorem frz_sat {w : World} {i e : Nat} {v : Value} {l : List UInt8} (hs : St w0 S0 is w) (hi : is[i]? = some (.frz v e l)) : ∃ A, Frz w v e l A := by
  obtain ⟨A, hA, _⟩ := sats_get hi hs.own.choose_spec.1
  exact ⟨A, hA⟩
theorem frz_cells (l : List UInt8) : l.map (fun x => Value.int .u8 x.toNat) = l.flatMap (Flat.vals (α := UInt8)) := by
  induction l with
  | nil => rfl
  | cons x l ih => rw [List.map_cons, List.flatMap_cons, ih]; rfl
theorem Can.frz {v : Value} {e : TypeId} {l : List UInt8} (k : Nat) (h : is[k]? = some (.frz v e l)) : Can w0 S0 is v (lc l) := by
  intro w S hs _
  obtain ⟨A, hA, hsub⟩ := sats_get h hs
  obtain ⟨g, cap, cur, rfl, h2, h3, h4, h5, rfl⟩ := hA
  obtain ⟨T, hT, hTs⟩ := Ows.rds (Ows.of_vals (w := w) (flat_vals l))
  have hT0 : T = [] := by
    cases T with
    | nil => rfl
    | cons x T => exact absurd (hTs x (by simp)) (by simp)
  subst hT0
  have hsz : Enc.sz UInt8 = 1 := rfl
  refine ⟨_, .row ⟨g, 0, none⟩ l.length cap (Enc.sz UInt8) (l.flatMap Flat.vals) _ [] (by rw [← frz_cells]; simp [hsz]) h3 ?_ hT, ?_⟩
  · intro j hj
    rw [hsz, Nat.mul_one] at hj
    have hadd : (⟨g, 0, none⟩ : Addr).add j = ⟨g, j, none⟩ := by unfold Addr.add; split <;> simp_all
    rw [hadd, cell_of_row w g j cur e (cap, cap + 1) h2, ← frz_cells, ← h5, List.getElem?_take, if_pos hj]
    simp
  · intro b hb
    rw [List.append_nil] at hb
    split at hb
    · cases hb
    · rw [List.mem_singleton.1 hb]; exact .inr (hsub g (by simp))
/-- a store into a row that is marked behind its end -/
theorem run_store_behind {w : World} {b e off ty : Nat} {cur : Array Value} {v : Value} {lo hi : Nat} (hk : kindB P ty = some (false, 1)) (hh : w.heap[b]? = some (.cells cur e (lo, hi))) (hlo : cur.size ≤ lo) (hv : v.cells = #[v]) (h1 : v.oneCell' = true) (hle : off < cur.size) :
    (storeVar ty ⟨b, off, none⟩ v).run P w = .ok () (w.setRow b (cur.setIfInBounds off v)) := by
  obtain ⟨d, i, hu, hi', hsz, _⟩ := kindB_some hk
  have hcell : w.cell? ⟨b, off, none⟩ = some cur[off] := by simp [World.cell?, hh, hle]
  have hfro : w.frozen? ⟨b, off, none⟩ = false := by
    simp only [World.frozen?, hh, Bool.and_eq_false_iff, decide_eq_false_iff_not]
    left
    omega
  have hst : (store (⟨b, off, none⟩ : Addr) v).run P w = .ok () (w.setRow b (cur.setIfInBounds off v)) := by
    rw [run_store P w _ v _ h1, hcell]
    simp [hfro, setCell_eq_setRow w b off cur e (lo, hi) v hh]
  have hadd : (⟨b, off, none⟩ : Addr).add 0 = ⟨b, off, none⟩ := by unfold Addr.add; split <;> simp_all
  simp only [storeVar, Sem.run_bind, sizeOf, typeInfo, run_program, Result.andThen_ok, hi', Sem.run_pure, hv, hsz]
  simp [storeCells, hadd, hst]
theorem Ef.store_frz {x y : Operand} {k t e sz c : Nat} {l : List UInt8} {z : UInt8} {v : Value} (z' : UInt8) (i : Nat) (hk : kindB P t = some (false, 1)) (hi : is[i]? = some (.frz v e l)) (hz : l[k]? = some z)
    (hx : ev fr x = some (elP v (k * sz + c))) (hs : Nat.beq sz 1 = true) (hc : Nat.beq c 0 = true) (hy : ev fr y = some (.int .u8 (z'.toNat : Int))) {is' : List Item} (his : is.set i (.frz v e (l.set k z')) = is') :
    Ef P w0 S0 n fr is ⟨none, .store t x y, ty, pos, aft, gd⟩ (fun _ : Unit => undef) (fun _ => is') := by
  obtain rfl : sz = 1 := Nat.eq_of_beq_eq_true hs
  obtain rfl : c = 0 := Nat.eq_of_beq_eq_true hc
  intro a w K Q hf hst hK
  have hklt : k < l.length := by
    rcases Nat.lt_or_ge k l.length with h | h
    · exact h
    · rw [List.getElem?_eq_none h] at hz; cases hz
  obtain ⟨A0, g, cap, cur, rfl, h2, h3, h4, h5, _⟩ := frz_sat hst hi
  have hfit : k < cur.size := by omega
  have hrun := run_store_behind (P := P) (ty := t) (off := k) (v := .int .u8 (z'.toNat : Int)) hk h2 (by omega) rfl rfl hfit
  have he : (execOp a.eval ⟨none, .store t x y, ty, pos, aft, gd⟩).run P w = .ok .skip (w.setRow g (cur.setIfInBounds k (.int .u8 (z'.toNat : Int)))) := by
    simp [execOp, hf.eval hx, hf.eval hy, elP, Instr.storeAt, Instr.sureAddr, add_lit, hrun]
  unfold Oper.wp
  rw [he]
  refine hK () _ ?_
  subst his
  refine hst.upd hi fun A hA hnd => ?_
  have hAb : A = [g] := by
    obtain ⟨g', cap', cur', e1, _, _, _, _, e6⟩ := hA
    simp only [Value.slice.injEq, Option.some.injEq, Addr.mk.injEq, true_and, and_true] at e1
    rw [e6, e1.1]
  refine ⟨[g], ?_, ?_, by simp, fun x hx => .inl (by rw [hAb]; exact hx)⟩
  · rw [hAb]; exact Chg.setRow w g _
  · refine ⟨g, cap, cur.setIfInBounds k (.int .u8 (z'.toNat : Int)), by rw [List.length_set], setRow_heap w g cur _ e (cap, cap + 1) h2, by rw [List.length_set]; exact h3, by simpa using h4, ?_, rfl⟩
    rw [List.length_set, Array.toList_setIfInBounds, List.take_set, h5, List.map_set]
end
end Go.Proofs.Ytbocplhlbbhblaa.Sl
