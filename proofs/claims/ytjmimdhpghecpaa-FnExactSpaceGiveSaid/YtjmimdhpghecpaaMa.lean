/-
  The plain laws: what the pure functions come to, and the statements. Conditions: none.
-/
import Derived.Test.YtjmimdhpghecpaaPl
import Derived.Test.YtjmimdhpghecpaaG3
set_option linter.unusedVariables false
set_option linter.unusedSimpArgs false
namespace Go.Proofs.Ytjmimdhpghecpaa
open Go Sl

theorem inRange_eq (n a b : Int) : impl_inRange n a b = some (decide (a ≤ n ∧ n ≤ b)) := by
  unfold impl_inRange
  by_cases h : n ≥ a <;> simp [h]
theorem l1In_eq (n a b : Int) : spec_l1In n a b = some (decide (a ≤ n ∧ n ≤ b)) := by
  unfold spec_l1In
  by_cases h : n ≥ a <;> simp [h]
theorem Need_eq (q : Int) : impl_Need q = spec_Need q := by
  unfold impl_Need spec_Need
  rw [inRange_eq, l1In_eq]
  simp only [Option.bind_some]
  by_cases h : 0 ≤ q ∧ q ≤ 1000
  · simp only [h, decide_true, Bool.not_true, Bool.false_eq_true, if_false, and_self]
    rw [wrap_ok (n := q + 50) (by omega) (by omega), wrap_ok (n := q + 50 - 1) (by omega) (by omega), wrap_ok (n := q + 49) (by omega) (by omega), show q + 50 - 1 = q + 49 by omega]
  · simp [h]
theorem Need_some (q : Int) : ∃ r, spec_Need q = some r := by
  unfold spec_Need
  rw [l1In_eq]
  simp only [Option.bind_some]
  split <;> exact ⟨_, rfl⟩
theorem FnExactNeed_pure (q : Int) : laws_FnExactNeed q = some true := by
  unfold laws_FnExactNeed
  obtain ⟨r, hr⟩ := Need_some q
  rw [Need_eq, hr]
  simp
theorem FnExactNeed_proved : Rows.FnExactNeedSaid := FnExactNeed_over fun q _ => FnExactNeed_pure q

/-! ### SpaceOk -/
theorem szIntS_eq (a : List Int) (left : Int) (h1 : 0 ≤ left) (h2 : left ≤ 1048576) (h3 : a.length ≤ 9223372036854775807) :
    laws_szIntS a left = some (if left < a.length then -1 else left - a.length) := by
  unfold laws_szIntS
  rw [wrap_ok (by omega) (by omega)]
  by_cases h : left - (a.length : Int) < 0
  · simp [h, show left < (a.length : Int) by omega]
  · simp [h, show ¬ left < (a.length : Int) by omega]
theorem toIntS_eq (a : List Int) (h : a.length ≤ 1048576) : laws_toIntS a = some a := by
  have := to_loop a 0 (fun x => some x) (fun _ _ => rfl) (by omega)
  simp only [Option.bind_some] at this
  unfold laws_toIntS
  rw [mkLen_ok (by omega) (by omega)]
  simp only [Option.bind_some]
  rw [this]
  rfl
theorem eqIntS_eq (a b : List Int) (h : a.length ≤ 1048576) : laws_eqIntS a b = some (decide (a = b)) := by
  have := eqS_of a b (fun x y => some (decide (x = y))) (fun _ _ _ _ => rfl) (by omega)
  simp only [Option.bind_some] at this
  exact this
theorem all_range (l : List Int) (p : Int → Bool) (f : Int → Option Bool) (hf : ∀ x, f x = some (p x)) (hl : l.length ≤ 1048576) :
    loopO (ρ := Ctl Unit Bool) (fun (S6 : Int) => if (decide (S6 < ((l.length : Nat) : Int))) = true then ((idx l S6).bind fun E11 =>
  (f E11).bind fun R13 =>
  if (!R13) = true then (some (.done (.done false)))
  else (some (.go (IntKind.i64.wrap (S6 + (1 : Int))))))
  else (some (.done (.go ())))) (0 : Int) = some (if l.all p then .go () else .done false) := by
  rw [loopO_list l (fun k (_ : Unit) => (k : Int)) (fun _ x _ => if p x then some (Ctl.go ()) else some (Ctl.done (Ctl.done false))) (fun _ => some (Ctl.go ())) () ?h0 ?hs ?hf]
  case h0 => rfl
  case hs =>
    intro k hk _
    simp only [idx_nat l k hk, Option.bind_some, hf]
    rw [wrap_ok (by omega) (by omega)]
    by_cases he : p l[k] = true
    · simp [he, Ctl.mapGo, hk]
    · simp [he, Ctl.mapGo, hk]
  case hf => intro _; simp
  rw [runL_all p (Ctl.done false) _ _ (by intro k x _; rfl)]
  split <;> rfl
theorem spec_SpaceOk_eq (s : Space) (h : s.Owner.length ≤ 1048576) : spec_SpaceOk s = some (decide (1 ≤ s.Owner.length ∧ s.Owner.length ≤ 40) && s.Owner.all fun x => decide (0 ≤ x ∧ x ≤ 99)) := by
  unfold spec_SpaceOk
  rw [l1In_eq, all_range s.Owner (fun x => decide (0 ≤ x ∧ x ≤ 99)) _ (fun x => l1In_eq x 0 99) h]
  simp only [Option.bind_some]
  have e : decide ((1 : Int) ≤ (s.Owner.length : Int) ∧ (s.Owner.length : Int) ≤ 40) = decide (1 ≤ s.Owner.length ∧ s.Owner.length ≤ 40) := by
    apply decide_eq_decide.2; omega
  rw [e]
  cases decide (1 ≤ s.Owner.length ∧ s.Owner.length ≤ 40) <;> cases (s.Owner.all fun x => decide (0 ≤ x ∧ x ≤ 99)) <;> rfl
theorem impl_SpaceOk_eq (s : Space) (h : s.Owner.length ≤ 1048576) : impl_SpaceOk s = some (decide (1 ≤ s.Owner.length ∧ s.Owner.length ≤ 40) && s.Owner.all fun x => decide (0 ≤ x ∧ x ≤ 99)) := by
  unfold impl_SpaceOk
  rw [inRange_eq, all_range s.Owner (fun x => decide (0 ≤ x ∧ x ≤ 99)) _ (fun x => inRange_eq x 0 99) h]
  simp only [Option.bind_some]
  have e : decide ((1 : Int) ≤ (s.Owner.length : Int) ∧ (s.Owner.length : Int) ≤ 40) = decide (1 ≤ s.Owner.length ∧ s.Owner.length ≤ 40) := by
    apply decide_eq_decide.2; omega
  rw [e]
  cases decide (1 ≤ s.Owner.length ∧ s.Owner.length ≤ 40) <;> cases (s.Owner.all fun x => decide (0 ≤ x ∧ x ≤ 99)) <;> rfl
theorem szSpace_eq (a : Space) (left : Int) (h1 : 0 ≤ left) (h2 : left ≤ 1048576) (h3 : a.Owner.length ≤ 9223372036854775807) :
    laws_szSpace a left = some (if left < a.Owner.length then -1 else left - a.Owner.length) := by
  unfold laws_szSpace
  rw [szIntS_eq _ _ h1 h2 h3]
  by_cases h : left < (a.Owner.length : Int)
  · simp [h]
  · simp [h, show ¬ left - (a.Owner.length : Int) < 0 by omega]
theorem toSpace_eq (a : Space) (h : a.Owner.length ≤ 1048576) : laws_toSpace a = some a := by
  unfold laws_toSpace; rw [toIntS_eq _ h]; rfl
theorem eqSpace_eq (a b : Space) (h : a.Owner.length ≤ 1048576) : laws_eqSpace a b = some (decide (a = b)) := by
  unfold laws_eqSpace
  rw [eqIntS_eq _ _ h]
  obtain ⟨a⟩ := a
  obtain ⟨b⟩ := b
  by_cases e : a = b <;> simp [e]
theorem FnExactSpaceOk_pure (a : Space) (h : Dec.ok a) : laws_FnExactSpaceOk a = some true := by
  have h3 : a.Owner.length ≤ 9223372036854775807 := h.1
  unfold laws_FnExactSpaceOk
  rw [szSpace_eq a 1048576 (by omega) (by omega) h3]
  simp only [Option.bind_some]
  by_cases hl : (1048576 : Int) < a.Owner.length
  · simp [hl]
  · have hl' : a.Owner.length ≤ 1048576 := by omega
    simp only [if_neg hl]
    rw [if_neg (by simp; omega), toSpace_eq a hl']
    simp only [Option.bind_some, spec_SpaceOk_eq a hl', impl_SpaceOk_eq a hl', eqSpace_eq a a hl']
    simp
theorem FnExactSpaceOk_proved : Rows.FnExactSpaceOkSaid := FnExactSpaceOk_over fun a h => FnExactSpaceOk_pure a h

theorem markIntS_eq (a : List Int) (k : Int) (h : a.length ≤ 1048576) (h1 : 1 ≤ k) (h2 : k ≤ 1125899906842624) : laws_markIntS a k = some (k + a.length, a.mapIdx fun i _ => k + i) := by
  unfold laws_markIntS
  rw [mark_loop (fun q _ => q) 1 a k h1 (by omega) h ?hb ?hd]
  case hb =>
    intro q i l hi h3 h4 hl
    simp only [idx_nat l i hi, Option.bind_some]
    rw [wrap_ok (by omega) (by omega), wrap_ok (by omega) (by omega)]
    simp [hi]
  case hd => intro q l hl; simp
  simp
theorem heldIntS_eq (a : List Int) (k : Int) (h : a.length ≤ 1048576) (h1 : 1 ≤ k) (h2 : k ≤ 1125899906842624) : laws_heldIntS (a.mapIdx fun i _ => k + i) k = some (k + a.length) := by
  unfold laws_heldIntS
  rw [held_loop (fun q x => x = q) 1 (a.mapIdx fun i _ => k + i) k (.go (k + a.length)) h1 (by simp; omega) ?hok ?hb ?hd]
  case hok => intro i hi; simp
  case hb =>
    intro q i hi h3 h4 h5
    rw [List.length_mapIdx] at hi
    simp only [idx_nat (List.mapIdx (fun (i : Nat) (_ : Int) => k + (i : Int)) a) i (by rw [List.length_mapIdx]; exact hi), Option.bind_some, h5]
    rw [wrap_ok (by omega) (by omega), wrap_ok (by omega) (by omega)]
    simp [hi]
  case hd => simp
  simp
theorem markSpace_eq (a : Space) (k : Int) (h : a.Owner.length ≤ 1048576) (h1 : 1 ≤ k) (h2 : k ≤ 1125899906842624) : laws_markSpace a k = some (k + a.Owner.length, a.Owner.mapIdx fun i _ => k + i) := by
  unfold laws_markSpace
  rw [markIntS_eq _ _ h h1 h2]
  rfl
theorem heldSpace_eq (a : Space) (k : Int) (h : a.Owner.length ≤ 1048576) (h1 : 1 ≤ k) (h2 : k ≤ 1125899906842624) : laws_heldSpace { Owner := a.Owner.mapIdx fun i _ => k + i } k = some (k + a.Owner.length) := by
  unfold laws_heldSpace
  rw [heldIntS_eq _ _ h h1 h2]
  simp only [Option.bind_some]
  rw [if_neg (by simp; omega)]

/-- giving blocks back, one by one -/
def giveV (who : Int) : List Int → List Int → Option (List Int)
  | [], s => some s
  | b :: bs, s => if 0 ≤ b ∧ b < s.length ∧ s[b.toNat]? = some who ∧ 1 ≤ who then giveV who bs (s.set b.toNat 0) else none
theorem giveV_cons (who b : Int) (bs s : List Int) : giveV who (b :: bs) s = if 0 ≤ b ∧ b < s.length ∧ s[b.toNat]? = some who ∧ 1 ≤ who then giveV who bs (s.set b.toNat 0) else none := rfl
theorem giveV_nil (who : Int) (s : List Int) : giveV who [] s = some s := rfl
theorem giveV_length (who : Int) : ∀ (bs s r : List Int), giveV who bs s = some r → r.length = s.length
  | [], s, r, h => by simp [giveV] at h; rw [h]
  | b :: bs, s, r, h => by
    unfold giveV at h
    split at h
    · rw [giveV_length who bs _ r h, List.length_set]
    · cases h
theorem idx_some' {α : Type} {l : List α} {i : Int} (h0 : 0 ≤ i) (h1 : i < l.length) : idx l i = some (l[i.toNat]'(by omega)) := by
  unfold idx; rw [if_pos h0, List.getElem?_eq_getElem]
theorem spec_SpaceGive_eq (s : Space) (who : Int) (bs : List Int) (h : s.Owner.length ≤ 1048576) (hb : bs.length ≤ 1048576) :
    spec_SpaceGive s who bs = some (if (decide (1 ≤ s.Owner.length ∧ s.Owner.length ≤ 40) && s.Owner.all fun x => decide (0 ≤ x ∧ x ≤ 99)) = true then (match giveV who bs s.Owner with | some r => ({ Owner := r }, true) | none => (s, false)) else ({ Owner := [] }, false)) := by
  unfold spec_SpaceGive
  rw [spec_SpaceOk_eq s h]
  simp only [Option.bind_some]
  by_cases hok : (decide (1 ≤ s.Owner.length ∧ s.Owner.length ≤ 40) && s.Owner.all fun x => decide (0 ≤ x ∧ x ≤ 99)) = true
  · rw [if_neg (by rw [hok]; simp), if_pos hok]
    unfold spec_l18Copy
    rw [app_ok (by simp; omega) (by simp; omega)]
    simp only [Option.bind_some, List.nil_append]
    rw [loopO_is (fun k st => st.1 = (k : Int) ∧ st.2.length = s.Owner.length ∧ giveV who (bs.drop k) st.2 = giveV who bs s.Owner) bs.length (match giveV who bs s.Owner with | some r => Ctl.go r | none => Ctl.done (s, false)) ⟨rfl, rfl, rfl⟩ ?h1 ?h2]
    · cases giveV who bs s.Owner <;> rfl
    case h1 =>
      rintro k ⟨i, st⟩ hk ⟨rfl, hl, hg⟩
      rw [List.drop_eq_getElem_cons hk] at hg
      rw [giveV_cons] at hg
      simp only [idx_nat bs k hk, Option.bind_some]
      simp only at hl hg
      by_cases c1 : 0 ≤ bs[k] ∧ bs[k] < st.length
      · have hx := idx_some' c1.1 c1.2
        simp only [hx, Option.bind_some]
        rw [List.getElem?_eq_getElem (by omega)] at hg
        by_cases c2 : st[bs[k].toNat]'(by omega) = who ∧ 1 ≤ who
        · left
          rw [if_pos ⟨c1.1, c1.2, by rw [c2.1], c2.2⟩] at hg
          refine ⟨(((k + 1 : Nat) : Int), st.set bs[k].toNat 0), ?_, rfl, by simp [hl], hg⟩
          rw [wrap_ok (by omega) (by omega)]
          simp [hk, c1.1, c1.2, c2.1, c2.2, show ¬ bs[k] < 0 by omega, show ¬ bs[k] ≥ (st.length : Int) by omega, show ¬ who < 1 by omega]
        · right
          rw [if_neg (by rintro ⟨_, _, e, h⟩; exact c2 ⟨by simpa using e, h⟩)] at hg
          rw [← hg]
          by_cases c3 : st[bs[k].toNat]'(by omega) = who
          · simp [hk, c3, show ¬ bs[k] < 0 by omega, show ¬ bs[k] ≥ (st.length : Int) by omega, show who < 1 by omega]
          · simp [hk, c3, show ¬ bs[k] < 0 by omega, show ¬ bs[k] ≥ (st.length : Int) by omega]
      · right
        rw [if_neg (fun h => c1 ⟨h.1, h.2.1⟩)] at hg
        rw [← hg]
        by_cases c3 : bs[k] < 0
        · simp [hk, c3]
        · simp [hk, c3, show bs[k] ≥ (st.length : Int) by omega]
    case h2 =>
      rintro ⟨i, st⟩ ⟨rfl, hl, hg⟩
      rw [List.drop_length, giveV_nil] at hg
      rw [← hg]
      simp
  · have hok' : (decide (1 ≤ s.Owner.length ∧ s.Owner.length ≤ 40) && s.Owner.all fun x => decide (0 ≤ x ∧ x ≤ 99)) = false := by simpa using hok
    rw [hok']
    rfl
theorem impl_SpaceGive_eq (s : Space) (who : Int) (bs : List Int) (h : s.Owner.length ≤ 1048576) (hb : bs.length ≤ 1048576) :
    impl_SpaceGive s who bs = some (if (decide (1 ≤ s.Owner.length ∧ s.Owner.length ≤ 40) && s.Owner.all fun x => decide (0 ≤ x ∧ x ≤ 99)) = true then (match giveV who bs s.Owner with | some r => ({ Owner := r }, true) | none => (s, false)) else ({ Owner := [] }, false)) := by
  unfold impl_SpaceGive
  rw [impl_SpaceOk_eq s h]
  simp only [Option.bind_some]
  by_cases hok : (decide (1 ≤ s.Owner.length ∧ s.Owner.length ≤ 40) && s.Owner.all fun x => decide (0 ≤ x ∧ x ≤ 99)) = true
  · rw [if_neg (by rw [hok]; simp), if_pos hok]
    unfold impl_copySpace slices_Clone_88240
    rw [app_ok (by simp; omega) (by simp; omega)]
    simp only [Option.bind_some, List.nil_append]
    rw [loopO_is (fun k st => st.1 = (k : Int) ∧ st.2.length = s.Owner.length ∧ giveV who (bs.drop k) st.2 = giveV who bs s.Owner) bs.length (match giveV who bs s.Owner with | some r => Ctl.go r | none => Ctl.done (s, false)) ⟨rfl, rfl, rfl⟩ ?h1 ?h2]
    · cases giveV who bs s.Owner <;> rfl
    case h1 =>
      rintro k ⟨i, st⟩ hk ⟨rfl, hl, hg⟩
      rw [List.drop_eq_getElem_cons hk] at hg
      rw [giveV_cons] at hg
      simp only at hl hg
      have hw : IntKind.i64.wrap ((st.length : Int) - 1) = (st.length : Int) - 1 := wrap_ok (by omega) (by omega)
      simp only [idx_nat bs k hk, Option.bind_some, inRange_eq, hw]
      by_cases c0 : who < 1
      · right
        rw [if_neg (by rintro ⟨_, _, _, h⟩; omega)] at hg
        rw [← hg]
        simp [hk, c0]
      · by_cases c1 : 0 ≤ bs[k] ∧ bs[k] < st.length
        · have hx := idx_some' c1.1 c1.2
          simp only [hx, Option.bind_some]
          rw [List.getElem?_eq_getElem (by omega)] at hg
          by_cases c2 : st[bs[k].toNat]'(by omega) = who
          · left
            rw [if_pos ⟨c1.1, c1.2, by rw [c2], by omega⟩] at hg
            refine ⟨(((k + 1 : Nat) : Int), st.set bs[k].toNat 0), ?_, rfl, by simp [hl], hg⟩
            rw [wrap_ok (by omega) (by omega)]
            simp [hk, c0, c1.1, c2, show bs[k] ≤ (st.length : Int) - 1 by omega]
          · right
            rw [if_neg (by rintro ⟨_, _, e, h⟩; exact c2 (by simpa using e))] at hg
            rw [← hg]
            simp [hk, c0, c1.1, c2, show bs[k] ≤ (st.length : Int) - 1 by omega]
        · right
          rw [if_neg (fun h => c1 ⟨h.1, h.2.1⟩)] at hg
          rw [← hg]
          have : ¬ (0 ≤ bs[k] ∧ bs[k] ≤ (st.length : Int) - 1) := fun h => c1 ⟨h.1, by omega⟩
          simp [hk, c0, this]
    case h2 =>
      rintro ⟨i, st⟩ ⟨rfl, hl, hg⟩
      rw [List.drop_length, giveV_nil] at hg
      rw [← hg]
      simp
  · have hok' : (decide (1 ≤ s.Owner.length ∧ s.Owner.length ≤ 40) && s.Owner.all fun x => decide (0 ≤ x ∧ x ≤ 99)) = false := by simpa using hok
    rw [hok']
    rfl
theorem FnExactSpaceGive_pure (a : Space) (who : Int) (bs : List Int) (h : Dec.ok a) : laws_FnExactSpaceGive a who bs = some true := by
  have h3 : a.Owner.length ≤ 9223372036854775807 := h.1
  unfold laws_FnExactSpaceGive
  by_cases hb : ((bs.length : Nat) : Int) > 1048576
  · simp [hb]
  · rw [if_neg (by simpa using hb), szSpace_eq a 1048576 (by omega) (by omega) h3]
    simp only [Option.bind_some]
    by_cases hl : (1048576 : Int) < a.Owner.length
    · simp [hl]
    · have hl' : a.Owner.length ≤ 1048576 := by omega
      have hb' : bs.length ≤ 1048576 := by omega
      simp only [if_neg hl]
      rw [if_neg (by simp; omega), toSpace_eq a hl', toIntS_eq bs hb']
      simp only [Option.bind_some, spec_SpaceGive_eq a who bs hl' hb', impl_SpaceGive_eq a who bs hl' hb']
      generalize hr : (if (decide (1 ≤ a.Owner.length ∧ a.Owner.length ≤ 40) && a.Owner.all fun x => decide (0 ≤ x ∧ x ≤ 99)) = true then (match giveV who bs a.Owner with | some r => (({ Owner := r } : Space), true) | none => (a, false)) else (({ Owner := [] } : Space), false)) = r
      have hrl : r.1.Owner.length ≤ 1048576 := by
        subst hr
        split
        · split
          · rename_i r' hr'; simp only; rw [giveV_length _ _ _ _ hr']; exact hl'
          · exact hl'
        · simp
      simp only [eqSpace_eq r.1 r.1 hrl, eqSpace_eq a a hl', eqIntS_eq bs bs hb', Option.bind_some, markSpace_eq a 1 hl' (by omega) (by omega), markIntS_eq bs (1 + a.Owner.length) hb' (by omega) (by omega), markSpace_eq r.1 1 hrl (by omega) (by omega),
        heldSpace_eq r.1 1 hrl (by omega) (by omega)]
      have n1 : ¬ (1 + (a.Owner.length : Int) + (bs.length : Int) < 0) := by omega
      have n2 : ¬ (1 + (r.1.Owner.length : Int) < 0) := by omega
      simp [n1, n2]
theorem FnExactSpaceGive_proved : Rows.FnExactSpaceGiveSaid := FnExactSpaceGive_over fun a who bs h _ _ => FnExactSpaceGive_pure a who bs h

/-- what a quota needs -/
def needV (q : Int) : Int := if 0 ≤ q ∧ q ≤ 1000 then 2 + 2 * ((q + 49) / 50) else 0
theorem needV_range (q : Int) : 0 ≤ needV q ∧ needV q ≤ 42 := by
  unfold needV; split <;> omega
theorem spec_Need_eq (q : Int) : spec_Need q = some (needV q) := by
  unfold spec_Need needV
  rw [l1In_eq]
  simp only [Option.bind_some]
  by_cases h : 0 ≤ q ∧ q ≤ 1000
  · have w1 : IntKind.i64.wrap (q + 49) = q + 49 := wrap_ok (by omega) (by omega)
    have t1 : Int.tdiv (q + 49) 50 = (q + 49) / 50 := Int.tdiv_eq_ediv_of_nonneg (by omega)
    have w2 : IntKind.i64.wrap ((q + 49) / 50) = (q + 49) / 50 := wrap_ok (by omega) (by omega)
    have w3 : IntKind.i64.wrap (2 * ((q + 49) / 50)) = 2 * ((q + 49) / 50) := wrap_ok (by omega) (by omega)
    have w4 : IntKind.i64.wrap (2 + 2 * ((q + 49) / 50)) = 2 + 2 * ((q + 49) / 50) := wrap_ok (by omega) (by omega)
    simp only [w1, t1, w2, w3, w4, h]
    rfl
  · simp [h]
theorem impl_Need_eq (q : Int) : impl_Need q = some (needV q) := by rw [Need_eq, spec_Need_eq]
theorem isTenant_eq (n : Int) : impl_isTenant n = some (decide (1 ≤ n ∧ n ≤ 99)) := by
  unfold impl_isTenant; rw [inRange_eq]; rfl
theorem shares_sum (l : List Share) (h : l.length ≤ 1048576) : 0 ≤ (l.map fun x => needV x.Quota).sum ∧ (l.map fun x => needV x.Quota).sum ≤ 42 * l.length := by
  clear h
  induction l with
  | nil => simp
  | cons x l ih => have := needV_range x.Quota; simp only [List.map_cons, List.sum_cons, List.length_cons]; omega
theorem spec_l19All_eq (s : Shares) (h : s.List.length ≤ 1048576) : spec_l19All s = some ((s.List.map fun x => needV x.Quota).sum + if s.List.length > 0 then 4 else 0) := by
  unfold spec_l19All
  rw [sum_loop (ρ := Int) s.List (fun x => spec_Need x.Quota) (fun x => needV x.Quota) (fun x _ => spec_Need_eq _) (fun x _ => by have := needV_range x.Quota; omega) h 0 (by omega) (by omega)]
  have := shares_sum s.List h
  simp only [bindC_go, Int.zero_add]
  by_cases h0 : ((s.List.length : Nat) : Int) > 0
  · rw [if_pos (by simpa using h0), wrap_ok (by omega) (by omega), if_pos (by omega)]; rfl
  · rw [if_neg (by simpa using h0), if_neg (by omega)]; simp
theorem impl_needOf_eq (s : Shares) (h : s.List.length ≤ 1048576) : impl_needOf s = some (4 + (s.List.map fun x => needV x.Quota).sum) := by
  unfold impl_needOf
  rw [sum_loop (ρ := Int) s.List (fun x => impl_Need x.Quota) (fun x => needV x.Quota) (fun x _ => impl_Need_eq _) (fun x _ => by have := needV_range x.Quota; omega) h 4 (by omega) (by omega)]
  rfl
theorem impl_SharesOk_spec (s : Shares) (h : s.List.length ≤ 1048576) : impl_SharesOk s = spec_SharesOk s := by
  unfold spec_SharesOk impl_SharesOk
  simp only [l1In_eq, inRange_eq, isTenant_eq, Option.bind_some, spec_l19All_eq s h, impl_needOf_eq s h, ge_iff_le]
  by_cases h0 : 0 ≤ s.Size ∧ s.Size ≤ 1000
  · by_cases h4 : ((s.List.length : Nat) : Int) > 4
    · simp [h0, h4]
    · simp only [h0, h4, and_self, decide_true, decide_false, Bool.not_true, Bool.false_eq_true, if_false, Option.bind_some]
      congr 1
      funext _
      by_cases hz : s.List.length = 0
      · have : s.List = [] := List.eq_nil_of_length_eq_zero hz
        simp [this, h0.1]
      · have hz' : ¬ ((s.List.length : Nat) : Int) = 0 := by omega
        simp only [hz', decide_false, Bool.false_eq_true, if_false, Option.bind_some, show s.List.length > 0 by omega, if_true]
        rw [Int.add_comm]
  · simp [h0]
theorem spec_SharesOk_some (s : Shares) (h : s.List.length ≤ 1048576) : ∃ r, spec_SharesOk s = some r := by
  unfold spec_SharesOk
  simp only [l1In_eq, Option.bind_some, spec_l19All_eq s h]
  by_cases h0 : 0 ≤ s.Size ∧ s.Size ≤ 1000
  · by_cases h4 : ((s.List.length : Nat) : Int) > 4
    · exact ⟨false, by simp [h0, h4]⟩
    · simp only [h0, h4, and_self, decide_true, decide_false, Bool.not_true, Bool.false_eq_true, if_false, Option.bind_some]
      refine bindC_ends (loopO_ends (fun k i => i = (k : Int)) s.List.length rfl ?_ ?_) (fun _ => ⟨_, rfl⟩)
      · rintro k i hk rfl
        simp only [idx_nat s.List k hk, Option.bind_some]
        rw [if_pos (by simpa using hk), wrap_ok (n := (k : Int) + 1) (by omega) (by omega)]
        have key : ∀ m : Option Bool, (∃ b, m = some b) → (∃ s' : Int, (m.bind fun T17 => if T17 = true then some (Ctl.done (Ctl.done false)) else some (Ctl.go ((k : Int) + 1))) = some (Ctl.go s' : Ctl Int (Ctl Unit Bool)) ∧ s' = ((k + 1 : Nat) : Int)) ∨
            ∃ r, (m.bind fun T17 => if T17 = true then some (Ctl.done (Ctl.done false)) else some (Ctl.go ((k : Int) + 1))) = some (Ctl.done r : Ctl Int (Ctl Unit Bool)) := by
          rintro m ⟨b, rfl⟩
          cases b
          · left; exact ⟨_, rfl, by omega⟩
          · right; exact ⟨_, rfl⟩
        apply key
        split
        · exact ⟨_, rfl⟩
        · split
          · exact ⟨_, rfl⟩
          · split
            · rename_i hk0
              have hk0' : (k : Int) > 0 := by simpa using hk0
              have hw : IntKind.i64.wrap ((k : Int) - 1) = ((k - 1 : Nat) : Int) := by rw [wrap_ok (by omega) (by omega)]; omega
              rw [hw, idx_nat s.List (k - 1) (by omega)]
              exact ⟨_, rfl⟩
            · exact ⟨_, rfl⟩
      · rintro i rfl
        exact ⟨.go (), by simp⟩
  · exact ⟨false, by simp [h0]⟩
theorem szShareS_eq (a : List Share) (left : Int) (h1 : 0 ≤ left) (h2 : left ≤ 1048576) (h3 : a.length ≤ 9223372036854775807) : laws_szShareS a left = some (szV left a.length) := by
  unfold laws_szShareS szV
  rw [wrap_ok (by omega) (by omega)]
  by_cases h : left - (a.length : Int) < 0
  · simp [h, show left < (a.length : Int) by omega]
  · simp [h, show ¬ left < (a.length : Int) by omega]
theorem szShares_eq (a : Shares) (left : Int) (h1 : 0 ≤ left) (h2 : left ≤ 1048576) (h3 : a.List.length ≤ 9223372036854775807) : laws_szShares a left = some (szV left a.List.length) := by
  unfold laws_szShares
  rw [szShareS_eq _ _ h1 h2 h3]
  simp only [Option.bind_some]
  by_cases h : szV left a.List.length < 0
  · have := szV_le (w := a.List.length) h1 h2
    rw [if_pos (by simpa using h), show szV left a.List.length = -1 by omega]
  · rw [if_neg (by simpa using h)]
theorem toShare_eq (x : Share) : laws_toShare x = some x := rfl
theorem toShareS_eq (a : List Share) (h : a.length ≤ 1048576) : laws_toShareS a = some a := by
  unfold laws_toShareS
  rw [mkLen_ok (by omega) (by omega)]
  simp only [Option.bind_some]
  rw [to_loop a _ laws_toShare (fun x _ => toShare_eq x) (by omega)]
  rfl
theorem toShares_eq (a : Shares) (h : a.List.length ≤ 1048576) : laws_toShares a = some a := by
  unfold laws_toShares; rw [toShareS_eq _ h]; rfl
theorem eqShare_eq (a b : Share) : laws_eqShare a b = some (decide (a = b)) := by
  obtain ⟨a1, a2⟩ := a; obtain ⟨b1, b2⟩ := b
  unfold laws_eqShare
  by_cases h1 : a1 = b1 <;> by_cases h2 : a2 = b2 <;> simp [h1, h2]
theorem eqShareS_eq (a b : List Share) (h : a.length ≤ 1048576) : laws_eqShareS a b = some (decide (a = b)) :=
  eqS_of a b laws_eqShare (fun x y _ _ => eqShare_eq x y) (by omega)
theorem eqShares_eq (a b : Shares) (h : a.List.length ≤ 1048576) : laws_eqShares a b = some (decide (a = b)) := by
  unfold laws_eqShares
  rw [eqShareS_eq _ _ h]
  obtain ⟨a1, a2⟩ := a; obtain ⟨b1, b2⟩ := b
  by_cases h1 : a1 = b1 <;> by_cases h2 : a2 = b2 <;> simp [h1, h2]
theorem FnExactSharesOk_pure (a : Shares) (h : Dec.ok a) : laws_FnExactSharesOk a = some true := by
  have h3 : a.List.length ≤ 9223372036854775807 := h.2.1
  unfold laws_FnExactSharesOk
  rw [szShares_eq a 1048576 (by omega) (by omega) h3]
  simp only [Option.bind_some]
  by_cases hl : szV 1048576 a.List.length < 0
  · rw [if_pos (by simpa using hl)]
  · have := szV_nonneg hl
    rw [if_neg (by simpa using hl), toShares_eq a (by omega)]
    obtain ⟨r, hr⟩ := spec_SharesOk_some a (by omega)
    simp [impl_SharesOk_spec a (by omega), hr, eqShares_eq a a (by omega)]
theorem FnExactSharesOk_proved : Rows.FnExactSharesOkSaid := FnExactSharesOk_over fun a h => FnExactSharesOk_pure a h

theorem markText_loop (m : Nat) : ∀ s : List UInt8, s.length + m ≤ 9223372036854775806 → ∃ r : List UInt8, loopO (ρ := Ctl (List UInt8) (List UInt8)) (fun (S2 : Int × List UInt8) => if (decide (S2.1 > (0 : Int))) = true then ((cat ([toU8 (IntKind.i64.wrap ((48 : Int) + (Int.tmod S2.1 (10 : Int))))]) S2.2).bind fun E8 =>
  some (.go (IntKind.i64.wrap (Int.tdiv S2.1 (10 : Int)), E8)))
  else (some (.done (.go S2.2)))) ((m : Int), s) = some (.go r) ∧ r.length ≤ s.length + m := by
  induction m using Nat.strongRecOn with
  | _ m ih =>
    intro s hs
    rw [loopO_eq]
    by_cases h0 : m = 0
    · subst h0
      exact ⟨s, by simp, by omega⟩
    · simp only
      rw [if_pos (by simp; omega), cat_ok (by simp; omega)]
      have hd : Int.tdiv (m : Int) 10 = ((m / 10 : Nat) : Int) := rfl
      rw [hd, wrap_ok (n := ((m / 10 : Nat) : Int)) (by omega) (by omega)]
      simp only [Option.bind_some]
      obtain ⟨r, hr, hl⟩ := ih (m / 10) (by omega) ([toU8 (IntKind.i64.wrap ((48 : Int) + (Int.tmod (m : Int) (10 : Int))))] ++ s) (by simp; omega)
      exact ⟨r, hr, by simp at hl; omega⟩
theorem markText_some (k : Int) (h : k ≤ 9223372036854775800) : ∃ t, laws_markText k = some t := by
  unfold laws_markText
  by_cases h0 : k ≤ 0
  · exact ⟨_, by rw [if_pos (by simpa using h0)]⟩
  · rw [if_neg (by simpa using h0)]
    obtain ⟨r, hr, hl⟩ := markText_loop k.toNat [] (by simp; omega)
    rw [show ((k.toNat : Nat) : Int) = k by omega] at hr
    refine ⟨[109] ++ r, ?_⟩
    rw [hr]
    simp only [bindC_go]
    rw [cat_ok (by simp at hl ⊢; omega)]
    rfl
noncomputable def markT (k : Int) : List UInt8 := (laws_markText k).getD []
theorem markText_eq (k : Int) (h : k ≤ 9223372036854775800) : laws_markText k = some (markT k) := by
  obtain ⟨t, ht⟩ := markText_some k h
  unfold markT; rw [ht]; rfl
theorem szLogRow_eq (x : LogRow) (left : Int) (h1 : 0 ≤ left) (h2 : left ≤ 1048576) (h3 : x.Text.length ≤ 9223372036854775807) : laws_szLogRow x left = some (szV left x.Text.length) := by
  unfold laws_szLogRow szV
  rw [wrap_ok (by omega) (by omega)]
  by_cases h : left - (x.Text.length : Int) < 0
  · simp [h, show left < (x.Text.length : Int) by omega]
  · simp [h, show ¬ left < (x.Text.length : Int) by omega]
theorem szLogRowS_eq (a : List LogRow) (left : Int) (h1 : 0 ≤ left) (h2 : left ≤ 1048576) (h : okl a) : laws_szLogRowS a left = some (szV left (a.length + (a.map fun x => x.Text.length).sum)) := by
  unfold laws_szLogRowS
  exact szS_of a laws_szLogRow (fun x => x.Text.length) (fun x hx left h1 h2 => szLogRow_eq x left h1 h2 (h.2 x hx).2.2.2.1) h.1 left h1 h2
theorem toLogRowS_eq (a : List LogRow) (h : a.length ≤ 1048576) : laws_toLogRowS a = some a := by
  unfold laws_toLogRowS
  rw [mkLen_ok (by omega) (by omega)]
  simp only [Option.bind_some]
  rw [to_loop a _ laws_toLogRow (fun x _ => rfl) (by omega)]
  rfl
theorem eqLogRow_eq (a b : LogRow) : laws_eqLogRow a b = some (decide (a = b)) := by
  obtain ⟨a1, a2, a3, a4, a5⟩ := a; obtain ⟨b1, b2, b3, b4, b5⟩ := b
  unfold laws_eqLogRow
  by_cases h1 : a1 = b1 <;> by_cases h2 : a2 = b2 <;> by_cases h3 : a3 = b3 <;> by_cases h4 : a4 = b4 <;> by_cases h5 : a5 = b5 <;> simp [h1, h2, h3, h4, h5]
theorem eqLogRowS_eq (a b : List LogRow) (h : a.length ≤ 1048576) : laws_eqLogRowS a b = some (decide (a = b)) :=
  eqS_of a b laws_eqLogRow (fun x y _ _ => eqLogRow_eq x y) (by omega)
theorem markLogRowS_some (a : List LogRow) (k : Int) (h : a.length ≤ 1048576) (h1 : 1 ≤ k) (h2 : k ≤ 1125899906842624) : ∃ r, laws_markLogRowS a k = some (k + 5 * a.length, r) := by
  unfold laws_markLogRowS
  rw [mark_loop (fun q (x : LogRow) => { Tenant := q, Boot := q + 1, Seq := q + 1 + 1, Text := markT (q + 1 + 1 + 1), Synced := decide (Int.tmod (q + 1 + 1 + 1 + 1) 3 = 0) : LogRow }) 5 a k h1 (by omega) h ?hb ?hd]
  case hb =>
    intro q i l hi h3 h4 hl
    have w1 : IntKind.i64.wrap (q + 1) = q + 1 := wrap_ok (by omega) (by omega)
    have w2 : IntKind.i64.wrap (q + 1 + 1) = q + 1 + 1 := wrap_ok (by omega) (by omega)
    have w3 : IntKind.i64.wrap (q + 1 + 1 + 1) = q + 1 + 1 + 1 := wrap_ok (by omega) (by omega)
    have w4 : IntKind.i64.wrap (q + 1 + 1 + 1 + 1) = q + 1 + 1 + 1 + 1 := wrap_ok (by omega) (by omega)
    have w5 : IntKind.i64.wrap (q + 1 + 1 + 1 + 1 + 1) = q + 1 + 1 + 1 + 1 + 1 := wrap_ok (by omega) (by omega)
    have w6 : IntKind.i64.wrap ((i : Int) + 1) = (i : Int) + 1 := wrap_ok (by omega) (by omega)
    simp only [idx_nat l i hi, Option.bind_some, w1, w2, w3, w4, w5, w6, markText_eq (q + 1 + 1 + 1) (by omega)]
    rw [if_pos (by simpa using hi), Int.toNat_natCast]
    congr 3
    omega
  case hd => intro q l hl; simp
  exact ⟨_, rfl⟩
theorem spec_Lens_eq (l : List LogRow) (t : Int) (h : l.length ≤ 1048576) : spec_Lens l t = some ((l.filter fun x => decide (x.Tenant = t)).map fun x => (x.Text.length : Int)) := by
  unfold spec_Lens
  rw [loopO_count (fun k => ((k : Int), ((l.take k).filter fun x => decide (x.Tenant = t)).map fun x => (x.Text.length : Int))) l.length (r := .go ((l.filter fun x => decide (x.Tenant = t)).map fun x => (x.Text.length : Int))) ?h0]
  case h0 => rfl
  · rfl
  · intro k hk
    have hw : IntKind.i64.wrap ((k : Int) + 1) = ((k + 1 : Nat) : Int) := by rw [wrap_ok (by omega) (by omega)]; omega
    simp only [idx_nat l k hk, Option.bind_some, hw]
    have htk : l.take (k + 1) = l.take k ++ [l[k]] := by rw [List.take_add_one, List.getElem?_eq_getElem hk]; rfl
    rw [if_pos (by simpa using hk), htk, List.filter_append, List.map_append]
    have hlen : ((l.take k).filter fun x => decide (x.Tenant = t)).length ≤ k := Nat.le_trans (List.length_filter_le _ _) (by simp; omega)
    by_cases hx : l[k].Tenant = t
    · rw [if_pos (by simpa using hx), app_ok (by simp; omega) (by simp; omega), List.filter_cons_of_pos (by simpa using hx)]
      rfl
    · rw [if_neg (by simpa using hx), List.filter_cons_of_neg (by simpa using hx)]
      simp
  · simp
theorem impl_Lens_spec (l : List LogRow) (t : Int) : impl_Lens l t = spec_Lens l t := rfl
theorem FnExactLens_pure (a : List LogRow) (t : Int) (h : okl a) : laws_FnExactLens a t = some true := by
  unfold laws_FnExactLens
  rw [szLogRowS_eq a 1048576 (by omega) (by omega) h]
  simp only [Option.bind_some]
  by_cases hl : szV 1048576 (a.length + (a.map fun x => x.Text.length).sum) < 0
  · rw [if_pos (by simpa using hl)]
  · have hn := szV_nonneg hl
    have hl' : a.length ≤ 1048576 := by omega
    rw [if_neg (by simpa using hl), toLogRowS_eq a hl']
    simp only [Option.bind_some, impl_Lens_spec, spec_Lens_eq a t hl']
    generalize hr : (a.filter fun x => decide (x.Tenant = t)).map (fun x => (x.Text.length : Int)) = r
    have hrl : r.length ≤ 1048576 := by
      subst hr
      rw [List.length_map]
      exact Nat.le_trans (List.length_filter_le _ _) hl'
    obtain ⟨m, hm⟩ := markLogRowS_some a 1 hl' (by omega) (by omega)
    simp only [eqIntS_eq r r hrl, eqLogRowS_eq a a hl', hm, markIntS_eq r 1 hrl (by omega) (by omega), heldIntS_eq r 1 hrl (by omega) (by omega), Option.bind_some]
    have n1 : ¬ (1 + 5 * (a.length : Int) < 0) := by omega
    have n2 : ¬ (1 + (r.length : Int) < 0) := by omega
    simp [n1, n2]
theorem FnExactLens_proved : Rows.FnExactLensSaid := FnExactLens_over fun a t h _ => FnExactLens_pure a t h

end Go.Proofs.Ytjmimdhpghecpaa
