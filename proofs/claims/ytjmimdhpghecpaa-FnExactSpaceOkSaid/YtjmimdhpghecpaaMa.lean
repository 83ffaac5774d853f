/-
  The program's Need returns what the reference's returns, for all arguments.
-/
import Derived.Test.YtjmimdhpghecpaaPl
import Derived.Test.YtjmimdhpghecpaaG1
namespace Go.Proofs.Ytjmimdhpghecpaa
open Go Sl

theorem inRange_eq (n a b : Int) : impl_inRange n a b = some (decide (a ≤ n ∧ n ≤ b)) := by
  unfold impl_inRange
  by_cases h : n ≥ a <;> simp [h]
theorem l1In_eq (n a b : Int) : spec_l1In n a b = some (decide (a ≤ n ∧ n ≤ b)) := by
  unfold spec_l1In
  by_cases h : n ≥ a <;> simp [h]
theorem Need_eq (q : Int) : impl_Need q = spec_Need q := by
  unfold impl_Need spec_Need
  rw [inRange_eq, l1In_eq]
  simp only [Option.bind_some]
  by_cases h : 0 ≤ q ∧ q ≤ 1000
  · simp only [h, decide_true, Bool.not_true, Bool.false_eq_true, if_false, and_self]
    rw [wrap_ok (n := q + 50) (by omega) (by omega), wrap_ok (n := q + 50 - 1) (by omega) (by omega), wrap_ok (n := q + 49) (by omega) (by omega), show q + 50 - 1 = q + 49 by omega]
  · simp [h]
theorem Need_some (q : Int) : ∃ r, spec_Need q = some r := by
  unfold spec_Need
  rw [l1In_eq]
  simp only [Option.bind_some]
  split <;> exact ⟨_, rfl⟩
theorem FnExactNeed_pure (q : Int) : laws_FnExactNeed q = some true := by
  unfold laws_FnExactNeed
  obtain ⟨r, hr⟩ := Need_some q
  rw [Need_eq, hr]
  simp
theorem FnExactNeed_proved : Rows.FnExactNeedSaid := FnExactNeed_over fun q _ => FnExactNeed_pure q

/-! ### SpaceOk -/
theorem szIntS_eq (a : List Int) (left : Int) (h1 : 0 ≤ left) (h2 : left ≤ 1048576) (h3 : a.length ≤ 9223372036854775807) :
    laws_szIntS a left = some (if left < a.length then -1 else left - a.length) := by
  unfold laws_szIntS
  rw [wrap_ok (by omega) (by omega)]
  by_cases h : left - (a.length : Int) < 0
  · simp [h, show left < (a.length : Int) by omega]
  · simp [h, show ¬ left < (a.length : Int) by omega]
theorem toIntS_eq (a : List Int) (h : a.length ≤ 1048576) : laws_toIntS a = some a := by
  unfold laws_toIntS
  rw [mkLen_ok (by omega) (by omega)]
  simp only [Option.bind_some]
  rw [loopO_count (fun k => ((k : Int), a.take k ++ List.replicate (a.length - k) (0 : Int))) a.length (r := .go a) ?h0]
  · simp
  case h0 => simp
  · intro k hk
    have h1 : (a.take k ++ List.replicate (a.length - k) (0 : Int)).length = a.length := by simp; omega
    simp only [idx_nat a k hk, idx_nat (a.take k ++ List.replicate (a.length - k) (0 : Int)) k (by omega), Option.bind_some]
    rw [wrap_ok (by omega) (by omega)]
    simp only [Int.toNat_natCast, set_take a k a.length 0 hk rfl]
    simp [hk]
  · simp
theorem eqIntS_eq (a b : List Int) (h : a.length ≤ 1048576) : laws_eqIntS a b = some (decide (a = b)) := by
  unfold laws_eqIntS
  by_cases hl : a.length = b.length
  · have hl' : ((a.length : Nat) : Int) = ((b.length : Nat) : Int) := by omega
    simp only [hl', decide_true, Bool.not_true, Bool.false_eq_true, if_false]
    rw [loopO_list (a.zip b) (fun k (_ : Unit) => (k : Int)) (fun _ x _ => if x.1 = x.2 then some (Ctl.go ()) else some (Ctl.done (Ctl.done false))) (fun _ => some (Ctl.go ())) () ?h0 ?hs ?hf]
    case h0 => rfl
    case hs =>
      intro k hk _
      have hk' : k < a.length := by simp at hk; omega
      simp only [idx_nat a k hk', idx_nat b k (by omega), Option.bind_some, List.getElem_zip]
      rw [wrap_ok (by omega) (by omega)]
      by_cases he : a[k] = b[k]
      · simp [he, Ctl.mapGo, show k < b.length by omega]
      · simp [he, Ctl.mapGo, show k < b.length by omega]
    case hf => intro _; simp [hl]
    rw [runL_all (fun x => decide (x.1 = x.2)) (Ctl.done false) _ _ (by intro k x _; simp)]
    by_cases he : a = b
    · subst he
      have : (a.zip a).all (fun x => decide (x.1 = x.2)) = true := by
        rw [List.all_eq_true]
        intro x hx
        have := List.of_mem_zip hx
        rw [List.zip_eq_zipWith] at hx
        simp [List.zipWith_self] at hx
        obtain ⟨y, _, rfl⟩ := hx
        simp
      rw [if_pos this]
      simp
    · have : (a.zip b).all (fun x => decide (x.1 = x.2)) = false := by
        rw [← Bool.not_eq_true, List.all_eq_true]
        intro hall
        apply he
        apply List.ext_getElem hl
        intro i h1 h2
        have := hall (a[i], b[i]) (by rw [← List.getElem_zip (h := by simp; omega)]; exact List.getElem_mem _)
        simpa using this
      rw [this]
      simp [he]
  · have hl' : ¬ ((a.length : Nat) : Int) = ((b.length : Nat) : Int) := by omega
    have : a ≠ b := fun e => hl (by rw [e])
    simp [hl', this]
theorem all_range (l : List Int) (p : Int → Bool) (f : Int → Option Bool) (hf : ∀ x, f x = some (p x)) (hl : l.length ≤ 1048576) :
    loopO (ρ := Ctl Unit Bool) (fun (S6 : Int) => if (decide (S6 < ((l.length : Nat) : Int))) = true then ((idx l S6).bind fun E11 =>
  (f E11).bind fun R13 =>
  if (!R13) = true then (some (.done (.done false)))
  else (some (.go (IntKind.i64.wrap (S6 + (1 : Int))))))
  else (some (.done (.go ())))) (0 : Int) = some (if l.all p then .go () else .done false) := by
  rw [loopO_list l (fun k (_ : Unit) => (k : Int)) (fun _ x _ => if p x then some (Ctl.go ()) else some (Ctl.done (Ctl.done false))) (fun _ => some (Ctl.go ())) () ?h0 ?hs ?hf]
  case h0 => rfl
  case hs =>
    intro k hk _
    simp only [idx_nat l k hk, Option.bind_some, hf]
    rw [wrap_ok (by omega) (by omega)]
    by_cases he : p l[k] = true
    · simp [he, Ctl.mapGo, hk]
    · simp [he, Ctl.mapGo, hk]
  case hf => intro _; simp
  rw [runL_all p (Ctl.done false) _ _ (by intro k x _; rfl)]
  split <;> rfl
theorem spec_SpaceOk_eq (s : Space) (h : s.Owner.length ≤ 1048576) : spec_SpaceOk s = some (decide (1 ≤ s.Owner.length ∧ s.Owner.length ≤ 40) && s.Owner.all fun x => decide (0 ≤ x ∧ x ≤ 99)) := by
  unfold spec_SpaceOk
  rw [l1In_eq, all_range s.Owner (fun x => decide (0 ≤ x ∧ x ≤ 99)) _ (fun x => l1In_eq x 0 99) h]
  simp only [Option.bind_some]
  have e : decide ((1 : Int) ≤ (s.Owner.length : Int) ∧ (s.Owner.length : Int) ≤ 40) = decide (1 ≤ s.Owner.length ∧ s.Owner.length ≤ 40) := by
    apply decide_eq_decide.2; omega
  rw [e]
  cases decide (1 ≤ s.Owner.length ∧ s.Owner.length ≤ 40) <;> cases (s.Owner.all fun x => decide (0 ≤ x ∧ x ≤ 99)) <;> rfl
theorem impl_SpaceOk_eq (s : Space) (h : s.Owner.length ≤ 1048576) : impl_SpaceOk s = some (decide (1 ≤ s.Owner.length ∧ s.Owner.length ≤ 40) && s.Owner.all fun x => decide (0 ≤ x ∧ x ≤ 99)) := by
  unfold impl_SpaceOk
  rw [inRange_eq, all_range s.Owner (fun x => decide (0 ≤ x ∧ x ≤ 99)) _ (fun x => inRange_eq x 0 99) h]
  simp only [Option.bind_some]
  have e : decide ((1 : Int) ≤ (s.Owner.length : Int) ∧ (s.Owner.length : Int) ≤ 40) = decide (1 ≤ s.Owner.length ∧ s.Owner.length ≤ 40) := by
    apply decide_eq_decide.2; omega
  rw [e]
  cases decide (1 ≤ s.Owner.length ∧ s.Owner.length ≤ 40) <;> cases (s.Owner.all fun x => decide (0 ≤ x ∧ x ≤ 99)) <;> rfl
theorem szSpace_eq (a : Space) (left : Int) (h1 : 0 ≤ left) (h2 : left ≤ 1048576) (h3 : a.Owner.length ≤ 9223372036854775807) :
    laws_szSpace a left = some (if left < a.Owner.length then -1 else left - a.Owner.length) := by
  unfold laws_szSpace
  rw [szIntS_eq _ _ h1 h2 h3]
  by_cases h : left < (a.Owner.length : Int)
  · simp [h]
  · simp [h, show ¬ left - (a.Owner.length : Int) < 0 by omega]
theorem toSpace_eq (a : Space) (h : a.Owner.length ≤ 1048576) : laws_toSpace a = some a := by
  unfold laws_toSpace; rw [toIntS_eq _ h]; rfl
theorem eqSpace_eq (a b : Space) (h : a.Owner.length ≤ 1048576) : laws_eqSpace a b = some (decide (a = b)) := by
  unfold laws_eqSpace
  rw [eqIntS_eq _ _ h]
  obtain ⟨a⟩ := a
  obtain ⟨b⟩ := b
  by_cases e : a = b <;> simp [e]
theorem FnExactSpaceOk_pure (a : Space) (h : Dec.ok a) : laws_FnExactSpaceOk a = some true := by
  have h3 : a.Owner.length ≤ 9223372036854775807 := h.1
  unfold laws_FnExactSpaceOk
  rw [szSpace_eq a 1048576 (by omega) (by omega) h3]
  simp only [Option.bind_some]
  by_cases hl : (1048576 : Int) < a.Owner.length
  · simp [hl]
  · have hl' : a.Owner.length ≤ 1048576 := by omega
    simp only [if_neg hl]
    rw [if_neg (by simp; omega), toSpace_eq a hl']
    simp only [Option.bind_some, spec_SpaceOk_eq a hl', impl_SpaceOk_eq a hl', eqSpace_eq a a hl']
    simp
theorem FnExactSpaceOk_proved : Rows.FnExactSpaceOkSaid := FnExactSpaceOk_over fun a h => FnExactSpaceOk_pure a h
#print axioms FnExactNeed_proved
#print axioms FnExactSpaceOk_proved
end Go.Proofs.Ytjmimdhpghecpaa
