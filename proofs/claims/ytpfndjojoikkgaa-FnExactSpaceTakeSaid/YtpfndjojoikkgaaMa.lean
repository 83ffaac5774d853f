/-
  The plain laws: what the pure functions come to, and the statements. Conditions: none.
-/
import Derived.Test.YtpfndjojoikkgaaPl
import Derived.Test.YtpfndjojoikkgaaG3
set_option linter.unusedVariables false
set_option linter.unusedSimpArgs false
namespace Go.Proofs.Ytpfndjojoikkgaa
open Go Sl

theorem inRange_eq (n a b : Int) : impl_inRange n a b = some (decide (a ≤ n ∧ n ≤ b)) := by
  unfold impl_inRange
  by_cases h : n ≥ a <;> simp [h]
theorem l1In_eq (n a b : Int) : spec_l1In n a b = some (decide (a ≤ n ∧ n ≤ b)) := by
  unfold spec_l1In
  by_cases h : n ≥ a <;> simp [h]
theorem Need_eq (q : Int) : impl_Need q = spec_Need q := by
  unfold impl_Need spec_Need
  rw [inRange_eq, l1In_eq]
  simp only [Option.bind_some]
  by_cases h : 0 ≤ q ∧ q ≤ 1000
  · simp only [h, decide_true, Bool.not_true, Bool.false_eq_true, if_false, and_self]
    rw [wrap_ok (n := q + 50) (by omega) (by omega), wrap_ok (n := q + 50 - 1) (by omega) (by omega), wrap_ok (n := q + 49) (by omega) (by omega), show q + 50 - 1 = q + 49 by omega]
  · simp [h]
theorem Need_some (q : Int) : ∃ r, spec_Need q = some r := by
  unfold spec_Need
  rw [l1In_eq]
  simp only [Option.bind_some]
  split <;> exact ⟨_, rfl⟩
/-! ### SpaceOk -/
theorem szIntS_eq (a : List Int) (left : Int) (h1 : 0 ≤ left) (h2 : left ≤ 1048576) (h3 : a.length ≤ 9223372036854775807) :
    laws_szIntS a left = some (if left < a.length then -1 else left - a.length) := by
  unfold laws_szIntS
  rw [wrap_ok (by omega) (by omega)]
  by_cases h : left - (a.length : Int) < 0
  · simp [h, show left < (a.length : Int) by omega]
  · simp [h, show ¬ left < (a.length : Int) by omega]
theorem toIntS_eq (a : List Int) (h : a.length ≤ 1048576) : laws_toIntS a = some a := by
  have := to_loop a 0 (fun x => some x) (fun _ _ => rfl) (by omega)
  simp only [Option.bind_some] at this
  unfold laws_toIntS
  rw [mkLen_ok (by omega) (by omega)]
  simp only [Option.bind_some]
  rw [this]
  rfl
theorem eqIntS_eq (a b : List Int) (h : a.length ≤ 1048576) : laws_eqIntS a b = some (decide (a = b)) := by
  have := eqS_of a b (fun x y => some (decide (x = y))) (fun _ _ _ _ => rfl) (by omega)
  simp only [Option.bind_some] at this
  exact this
theorem all_range (l : List Int) (p : Int → Bool) (f : Int → Option Bool) (hf : ∀ x, f x = some (p x)) (hl : l.length ≤ 1048576) :
    loopO (ρ := Ctl Unit Bool) (fun (S6 : Int) => if (decide (S6 < ((l.length : Nat) : Int))) = true then ((idx l S6).bind fun E11 =>
  (f E11).bind fun R13 =>
  if (!R13) = true then (some (.done (.done false)))
  else (some (.go (IntKind.i64.wrap (S6 + (1 : Int))))))
  else (some (.done (.go ())))) (0 : Int) = some (if l.all p then .go () else .done false) := by
  rw [loopO_list l (fun k (_ : Unit) => (k : Int)) (fun _ x _ => if p x then some (Ctl.go ()) else some (Ctl.done (Ctl.done false))) (fun _ => some (Ctl.go ())) () ?h0 ?hs ?hf]
  case h0 => rfl
  case hs =>
    intro k hk _
    simp only [idx_nat l k hk, Option.bind_some, hf]
    rw [wrap_ok (by omega) (by omega)]
    by_cases he : p l[k] = true
    · simp [he, Ctl.mapGo, hk]
    · simp [he, Ctl.mapGo, hk]
  case hf => intro _; simp
  rw [runL_all p (Ctl.done false) _ _ (by intro k x _; rfl)]
  split <;> rfl
theorem spec_SpaceOk_eq (s : Space) (h : s.Owner.length ≤ 1048576) : spec_SpaceOk s = some (decide (1 ≤ s.Owner.length ∧ s.Owner.length ≤ 40) && s.Owner.all fun x => decide (0 ≤ x ∧ x ≤ 99)) := by
  unfold spec_SpaceOk
  rw [l1In_eq, all_range s.Owner (fun x => decide (0 ≤ x ∧ x ≤ 99)) _ (fun x => l1In_eq x 0 99) h]
  simp only [Option.bind_some]
  have e : decide ((1 : Int) ≤ (s.Owner.length : Int) ∧ (s.Owner.length : Int) ≤ 40) = decide (1 ≤ s.Owner.length ∧ s.Owner.length ≤ 40) := by
    apply decide_eq_decide.2; omega
  rw [e]
  cases decide (1 ≤ s.Owner.length ∧ s.Owner.length ≤ 40) <;> cases (s.Owner.all fun x => decide (0 ≤ x ∧ x ≤ 99)) <;> rfl
theorem impl_SpaceOk_eq (s : Space) (h : s.Owner.length ≤ 1048576) : impl_SpaceOk s = some (decide (1 ≤ s.Owner.length ∧ s.Owner.length ≤ 40) && s.Owner.all fun x => decide (0 ≤ x ∧ x ≤ 99)) := by
  unfold impl_SpaceOk
  rw [inRange_eq, all_range s.Owner (fun x => decide (0 ≤ x ∧ x ≤ 99)) _ (fun x => inRange_eq x 0 99) h]
  simp only [Option.bind_some]
  have e : decide ((1 : Int) ≤ (s.Owner.length : Int) ∧ (s.Owner.length : Int) ≤ 40) = decide (1 ≤ s.Owner.length ∧ s.Owner.length ≤ 40) := by
    apply decide_eq_decide.2; omega
  rw [e]
  cases decide (1 ≤ s.Owner.length ∧ s.Owner.length ≤ 40) <;> cases (s.Owner.all fun x => decide (0 ≤ x ∧ x ≤ 99)) <;> rfl
theorem szSpace_eq (a : Space) (left : Int) (h1 : 0 ≤ left) (h2 : left ≤ 1048576) (h3 : a.Owner.length ≤ 9223372036854775807) :
    laws_szSpace a left = some (if left < a.Owner.length then -1 else left - a.Owner.length) := by
  unfold laws_szSpace
  rw [szIntS_eq _ _ h1 h2 h3]
  by_cases h : left < (a.Owner.length : Int)
  · simp [h]
  · simp [h, show ¬ left - (a.Owner.length : Int) < 0 by omega]
theorem toSpace_eq (a : Space) (h : a.Owner.length ≤ 1048576) : laws_toSpace a = some a := by
  unfold laws_toSpace; rw [toIntS_eq _ h]; rfl
theorem eqSpace_eq (a b : Space) (h : a.Owner.length ≤ 1048576) : laws_eqSpace a b = some (decide (a = b)) := by
  unfold laws_eqSpace
  rw [eqIntS_eq _ _ h]
  obtain ⟨a⟩ := a
  obtain ⟨b⟩ := b
  by_cases e : a = b <;> simp [e]
theorem markIntS_eq (a : List Int) (k : Int) (h : a.length ≤ 1048576) (h1 : 1 ≤ k) (h2 : k ≤ 1125899906842624) : laws_markIntS a k = some (k + a.length, a.mapIdx fun i _ => k + i) := by
  unfold laws_markIntS
  rw [mark_loop (fun q _ => q) 1 a k h1 (by omega) h ?hb ?hd]
  case hb =>
    intro q i l hi h3 h4 hl
    simp only [idx_nat l i hi, Option.bind_some]
    rw [wrap_ok (by omega) (by omega), wrap_ok (by omega) (by omega)]
    simp [hi]
  case hd => intro q l hl; simp
  simp
theorem heldIntS_eq (a : List Int) (k : Int) (h : a.length ≤ 1048576) (h1 : 1 ≤ k) (h2 : k ≤ 1125899906842624) : laws_heldIntS (a.mapIdx fun i _ => k + i) k = some (k + a.length) := by
  unfold laws_heldIntS
  rw [held_loop (fun q x => x = q) 1 (a.mapIdx fun i _ => k + i) k (.go (k + a.length)) h1 (by simp; omega) ?hok ?hb ?hd]
  case hok => intro i hi; simp
  case hb =>
    intro q i hi h3 h4 h5
    rw [List.length_mapIdx] at hi
    simp only [idx_nat (List.mapIdx (fun (i : Nat) (_ : Int) => k + (i : Int)) a) i (by rw [List.length_mapIdx]; exact hi), Option.bind_some, h5]
    rw [wrap_ok (by omega) (by omega), wrap_ok (by omega) (by omega)]
    simp [hi]
  case hd => simp
  simp
theorem markSpace_eq (a : Space) (k : Int) (h : a.Owner.length ≤ 1048576) (h1 : 1 ≤ k) (h2 : k ≤ 1125899906842624) : laws_markSpace a k = some (k + a.Owner.length, a.Owner.mapIdx fun i _ => k + i) := by
  unfold laws_markSpace
  rw [markIntS_eq _ _ h h1 h2]
  rfl
theorem heldSpace_eq (a : Space) (k : Int) (h : a.Owner.length ≤ 1048576) (h1 : 1 ≤ k) (h2 : k ≤ 1125899906842624) : laws_heldSpace { Owner := a.Owner.mapIdx fun i _ => k + i } k = some (k + a.Owner.length) := by
  unfold laws_heldSpace
  rw [heldIntS_eq _ _ h h1 h2]
  simp only [Option.bind_some]
  rw [if_neg (by simp; omega)]

/-- giving blocks back, one by one -/
def giveV (who : Int) : List Int → List Int → Option (List Int)
  | [], s => some s
  | b :: bs, s => if 0 ≤ b ∧ b < s.length ∧ s[b.toNat]? = some who ∧ 1 ≤ who then giveV who bs (s.set b.toNat 0) else none
theorem giveV_cons (who b : Int) (bs s : List Int) : giveV who (b :: bs) s = if 0 ≤ b ∧ b < s.length ∧ s[b.toNat]? = some who ∧ 1 ≤ who then giveV who bs (s.set b.toNat 0) else none := rfl
theorem giveV_nil (who : Int) (s : List Int) : giveV who [] s = some s := rfl
theorem giveV_length (who : Int) : ∀ (bs s r : List Int), giveV who bs s = some r → r.length = s.length
  | [], s, r, h => by simp [giveV] at h; rw [h]
  | b :: bs, s, r, h => by
    unfold giveV at h
    split at h
    · rw [giveV_length who bs _ r h, List.length_set]
    · cases h
theorem idx_some' {α : Type} {l : List α} {i : Int} (h0 : 0 ≤ i) (h1 : i < l.length) : idx l i = some (l[i.toNat]'(by omega)) := by
  unfold idx; rw [if_pos h0, List.getElem?_eq_getElem]
/-- what a quota needs -/
def needV (q : Int) : Int := if 0 ≤ q ∧ q ≤ 1000 then 2 + 2 * ((q + 49) / 50) else 0
theorem needV_range (q : Int) : 0 ≤ needV q ∧ needV q ≤ 42 := by
  unfold needV; split <;> omega
theorem spec_Need_eq (q : Int) : spec_Need q = some (needV q) := by
  unfold spec_Need needV
  rw [l1In_eq]
  simp only [Option.bind_some]
  by_cases h : 0 ≤ q ∧ q ≤ 1000
  · have w1 : IntKind.i64.wrap (q + 49) = q + 49 := wrap_ok (by omega) (by omega)
    have t1 : Int.tdiv (q + 49) 50 = (q + 49) / 50 := Int.tdiv_eq_ediv_of_nonneg (by omega)
    have w2 : IntKind.i64.wrap ((q + 49) / 50) = (q + 49) / 50 := wrap_ok (by omega) (by omega)
    have w3 : IntKind.i64.wrap (2 * ((q + 49) / 50)) = 2 * ((q + 49) / 50) := wrap_ok (by omega) (by omega)
    have w4 : IntKind.i64.wrap (2 + 2 * ((q + 49) / 50)) = 2 + 2 * ((q + 49) / 50) := wrap_ok (by omega) (by omega)
    simp only [w1, t1, w2, w3, w4, h]
    rfl
  · simp [h]
theorem impl_Need_eq (q : Int) : impl_Need q = some (needV q) := by rw [Need_eq, spec_Need_eq]
theorem isTenant_eq (n : Int) : impl_isTenant n = some (decide (1 ≤ n ∧ n ≤ 99)) := by
  unfold impl_isTenant; rw [inRange_eq]; rfl
theorem shares_sum (l : List Share) (h : l.length ≤ 1048576) : 0 ≤ (l.map fun x => needV x.Quota).sum ∧ (l.map fun x => needV x.Quota).sum ≤ 42 * l.length := by
  clear h
  induction l with
  | nil => simp
  | cons x l ih => have := needV_range x.Quota; simp only [List.map_cons, List.sum_cons, List.length_cons]; omega
theorem spec_l19All_eq (s : Shares) (h : s.List.length ≤ 1048576) : spec_l19All s = some ((s.List.map fun x => needV x.Quota).sum + if s.List.length > 0 then 4 else 0) := by
  unfold spec_l19All
  rw [sum_loop (ρ := Int) s.List (fun x => spec_Need x.Quota) (fun x => needV x.Quota) (fun x _ => spec_Need_eq _) (fun x _ => by have := needV_range x.Quota; omega) h 0 (by omega) (by omega)]
  have := shares_sum s.List h
  simp only [bindC_go, Int.zero_add]
  by_cases h0 : ((s.List.length : Nat) : Int) > 0
  · rw [if_pos (by simpa using h0), wrap_ok (by omega) (by omega), if_pos (by omega)]; rfl
  · rw [if_neg (by simpa using h0), if_neg (by omega)]; simp
theorem impl_needOf_eq (s : Shares) (h : s.List.length ≤ 1048576) : impl_needOf s = some (4 + (s.List.map fun x => needV x.Quota).sum) := by
  unfold impl_needOf
  rw [sum_loop (ρ := Int) s.List (fun x => impl_Need x.Quota) (fun x => needV x.Quota) (fun x _ => impl_Need_eq _) (fun x _ => by have := needV_range x.Quota; omega) h 4 (by omega) (by omega)]
  rfl
theorem impl_SharesOk_spec (s : Shares) (h : s.List.length ≤ 1048576) : impl_SharesOk s = spec_SharesOk s := by
  unfold spec_SharesOk impl_SharesOk
  simp only [l1In_eq, inRange_eq, isTenant_eq, Option.bind_some, spec_l19All_eq s h, impl_needOf_eq s h, ge_iff_le]
  by_cases h0 : 0 ≤ s.Size ∧ s.Size ≤ 1000
  · by_cases h4 : ((s.List.length : Nat) : Int) > 4
    · simp [h0, h4]
    · simp only [h0, h4, and_self, decide_true, decide_false, Bool.not_true, Bool.false_eq_true, if_false, Option.bind_some]
      congr 1
      funext _
      by_cases hz : s.List.length = 0
      · have : s.List = [] := List.eq_nil_of_length_eq_zero hz
        simp [this, h0.1]
      · have hz' : ¬ ((s.List.length : Nat) : Int) = 0 := by omega
        simp only [hz', decide_false, Bool.false_eq_true, if_false, Option.bind_some, show s.List.length > 0 by omega, if_true]
        rw [Int.add_comm]
  · simp [h0]
theorem spec_SharesOk_some (s : Shares) (h : s.List.length ≤ 1048576) : ∃ r, spec_SharesOk s = some r := by
  unfold spec_SharesOk
  simp only [l1In_eq, Option.bind_some, spec_l19All_eq s h]
  by_cases h0 : 0 ≤ s.Size ∧ s.Size ≤ 1000
  · by_cases h4 : ((s.List.length : Nat) : Int) > 4
    · exact ⟨false, by simp [h0, h4]⟩
    · simp only [h0, h4, and_self, decide_true, decide_false, Bool.not_true, Bool.false_eq_true, if_false, Option.bind_some]
      refine bindC_ends (loopO_ends (fun k i => i = (k : Int)) s.List.length rfl ?_ ?_) (fun _ => ⟨_, rfl⟩)
      · rintro k i hk rfl
        simp only [idx_nat s.List k hk, Option.bind_some]
        rw [if_pos (by simpa using hk), wrap_ok (n := (k : Int) + 1) (by omega) (by omega)]
        have key : ∀ m : Option Bool, (∃ b, m = some b) → (∃ s' : Int, (m.bind fun T17 => if T17 = true then some (Ctl.done (Ctl.done false)) else some (Ctl.go ((k : Int) + 1))) = some (Ctl.go s' : Ctl Int (Ctl Unit Bool)) ∧ s' = ((k + 1 : Nat) : Int)) ∨
            ∃ r, (m.bind fun T17 => if T17 = true then some (Ctl.done (Ctl.done false)) else some (Ctl.go ((k : Int) + 1))) = some (Ctl.done r : Ctl Int (Ctl Unit Bool)) := by
          rintro m ⟨b, rfl⟩
          cases b
          · left; exact ⟨_, rfl, by omega⟩
          · right; exact ⟨_, rfl⟩
        apply key
        split
        · exact ⟨_, rfl⟩
        · split
          · exact ⟨_, rfl⟩
          · split
            · rename_i hk0
              have hk0' : (k : Int) > 0 := by simpa using hk0
              have hw : IntKind.i64.wrap ((k : Int) - 1) = ((k - 1 : Nat) : Int) := by rw [wrap_ok (by omega) (by omega)]; omega
              rw [hw, idx_nat s.List (k - 1) (by omega)]
              exact ⟨_, rfl⟩
            · exact ⟨_, rfl⟩
      · rintro i rfl
        exact ⟨.go (), by simp⟩
  · exact ⟨false, by simp [h0]⟩
theorem szShareS_eq (a : List Share) (left : Int) (h1 : 0 ≤ left) (h2 : left ≤ 1048576) (h3 : a.length ≤ 9223372036854775807) : laws_szShareS a left = some (szV left a.length) := by
  unfold laws_szShareS szV
  rw [wrap_ok (by omega) (by omega)]
  by_cases h : left - (a.length : Int) < 0
  · simp [h, show left < (a.length : Int) by omega]
  · simp [h, show ¬ left < (a.length : Int) by omega]
theorem szShares_eq (a : Shares) (left : Int) (h1 : 0 ≤ left) (h2 : left ≤ 1048576) (h3 : a.List.length ≤ 9223372036854775807) : laws_szShares a left = some (szV left a.List.length) := by
  unfold laws_szShares
  rw [szShareS_eq _ _ h1 h2 h3]
  simp only [Option.bind_some]
  by_cases h : szV left a.List.length < 0
  · have := szV_le (w := a.List.length) h1 h2
    rw [if_pos (by simpa using h), show szV left a.List.length = -1 by omega]
  · rw [if_neg (by simpa using h)]
theorem toShare_eq (x : Share) : laws_toShare x = some x := rfl
theorem toShareS_eq (a : List Share) (h : a.length ≤ 1048576) : laws_toShareS a = some a := by
  unfold laws_toShareS
  rw [mkLen_ok (by omega) (by omega)]
  simp only [Option.bind_some]
  rw [to_loop a _ laws_toShare (fun x _ => toShare_eq x) (by omega)]
  rfl
theorem toShares_eq (a : Shares) (h : a.List.length ≤ 1048576) : laws_toShares a = some a := by
  unfold laws_toShares; rw [toShareS_eq _ h]; rfl
theorem eqShare_eq (a b : Share) : laws_eqShare a b = some (decide (a = b)) := by
  obtain ⟨a1, a2⟩ := a; obtain ⟨b1, b2⟩ := b
  unfold laws_eqShare
  by_cases h1 : a1 = b1 <;> by_cases h2 : a2 = b2 <;> simp [h1, h2]
theorem eqShareS_eq (a b : List Share) (h : a.length ≤ 1048576) : laws_eqShareS a b = some (decide (a = b)) :=
  eqS_of a b laws_eqShare (fun x y _ _ => eqShare_eq x y) (by omega)
theorem eqShares_eq (a b : Shares) (h : a.List.length ≤ 1048576) : laws_eqShares a b = some (decide (a = b)) := by
  unfold laws_eqShares
  rw [eqShareS_eq _ _ h]
  obtain ⟨a1, a2⟩ := a; obtain ⟨b1, b2⟩ := b
  by_cases h1 : a1 = b1 <;> by_cases h2 : a2 = b2 <;> simp [h1, h2]
theorem markText_loop (m : Nat) : ∀ s : List UInt8, s.length + m ≤ 9223372036854775806 → ∃ r : List UInt8, loopO (ρ := Ctl (List UInt8) (List UInt8)) (fun (S2 : Int × List UInt8) => if (decide (S2.1 > (0 : Int))) = true then ((cat ([toU8 (IntKind.i64.wrap ((48 : Int) + (Int.tmod S2.1 (10 : Int))))]) S2.2).bind fun E8 =>
  some (.go (IntKind.i64.wrap (Int.tdiv S2.1 (10 : Int)), E8)))
  else (some (.done (.go S2.2)))) ((m : Int), s) = some (.go r) ∧ r.length ≤ s.length + m := by
  induction m using Nat.strongRecOn with
  | _ m ih =>
    intro s hs
    rw [loopO_eq]
    by_cases h0 : m = 0
    · subst h0
      exact ⟨s, by simp, by omega⟩
    · simp only
      rw [if_pos (by simp; omega), cat_ok (by simp; omega)]
      have hd : Int.tdiv (m : Int) 10 = ((m / 10 : Nat) : Int) := rfl
      rw [hd, wrap_ok (n := ((m / 10 : Nat) : Int)) (by omega) (by omega)]
      simp only [Option.bind_some]
      obtain ⟨r, hr, hl⟩ := ih (m / 10) (by omega) ([toU8 (IntKind.i64.wrap ((48 : Int) + (Int.tmod (m : Int) (10 : Int))))] ++ s) (by simp; omega)
      exact ⟨r, hr, by simp at hl; omega⟩
theorem SharesOk_true (s : Shares) (h : s.List.length ≤ 1048576) (ht : spec_SharesOk s = some true) : 0 ≤ s.Size ∧ s.Size ≤ 1000 ∧ s.List.length ≤ 4 := by
  unfold spec_SharesOk at ht
  simp only [l1In_eq, Option.bind_some] at ht
  by_cases h0 : 0 ≤ s.Size ∧ s.Size ≤ 1000
  · by_cases h4 : ((s.List.length : Nat) : Int) > 4
    · simp [h0, h4] at ht
    · exact ⟨h0.1, h0.2, by omega⟩
  · simp [h0] at ht
theorem ShareLeft_both (s : Shares) (h : s.List.length ≤ 1048576) : ∃ r, spec_ShareLeft s = some r ∧ impl_ShareLeft s = some r := by
  unfold spec_ShareLeft impl_ShareLeft
  rw [impl_SharesOk_spec s h]
  obtain ⟨b, hb⟩ := spec_SharesOk_some s h
  rw [hb]
  cases b with
  | false => exact ⟨0, rfl, rfl⟩
  | true =>
    obtain ⟨h1, h2, h3⟩ := SharesOk_true s h hb
    have hsum : ∀ k, k ≤ s.List.length → 0 ≤ ((s.List.take k).map fun x => needV x.Quota).sum ∧ ((s.List.take k).map fun x => needV x.Quota).sum ≤ 42 * 4 := by
      intro k hk
      have h5 := shares_sum (s.List.take k) (by simp; omega)
      have h6 : (s.List.take k).length ≤ 4 := by simp; omega
      omega
    have hS := hsum s.List.length (Nat.le_refl _)
    rw [List.take_length] at hS
    rw [impl_needOf_eq s h]
    have hw : IntKind.i64.wrap (s.Size - 4) = s.Size - 4 := wrap_ok (by omega) (by omega)
    have hw2 : IntKind.i64.wrap (s.Size - (4 + (s.List.map fun x => needV x.Quota).sum)) = s.Size - (4 + (s.List.map fun x => needV x.Quota).sum) := wrap_ok (by omega) (by omega)
    simp only [Option.bind_some, Bool.not_true, Bool.false_eq_true, if_false, hw, hw2]
    rw [loopO_count (fun k => (s.Size - 4 - ((s.List.take k).map fun x => needV x.Quota).sum, (k : Int))) s.List.length (r := .go (s.Size - 4 - (s.List.map fun x => needV x.Quota).sum)) ?h0]
    case h0 => simp
    · simp only [bindC_go]
      unfold goMax
      by_cases hv : s.Size - 4 - (s.List.map fun x => needV x.Quota).sum < 0
      · rw [if_pos (by simpa using hv), if_pos (by omega)]
        exact ⟨_, rfl, rfl⟩
      · rw [if_neg (by simpa using hv), if_neg (by omega)]
        exact ⟨_, rfl, by congr 1; omega⟩
    · intro k hk
      have b1 := hsum k (by omega)
      have b2 := needV_range s.List[k].Quota
      have htk : s.List.take (k + 1) = s.List.take k ++ [s.List[k]] := by rw [List.take_add_one, List.getElem?_eq_getElem hk]; rfl
      simp only [idx_nat s.List k hk, Option.bind_some, spec_Need_eq, htk, List.map_append, List.sum_append, List.map_cons, List.map_nil, List.sum_cons, List.sum_nil]
      rw [if_pos (by simpa using hk), wrap_ok (by omega) (by omega), wrap_ok (by omega) (by omega)]
      congr 3
      omega
    · simp
theorem FnExactShareLeft_pure (a : Shares) (h : Dec.ok a) : laws_FnExactShareLeft a = some true := by
  have h3 : a.List.length ≤ 9223372036854775807 := h.2.1
  unfold laws_FnExactShareLeft
  rw [szShares_eq a 1048576 (by omega) (by omega) h3]
  simp only [Option.bind_some]
  by_cases hl : szV 1048576 a.List.length < 0
  · rw [if_pos (by simpa using hl)]
  · have := szV_nonneg hl
    rw [if_neg (by simpa using hl), toShares_eq a (by omega)]
    obtain ⟨r, hr, hr2⟩ := ShareLeft_both a (by omega)
    simp [hr, hr2, eqShares_eq a a (by omega)]
theorem FnExactShareLeft_proved : Rows.FnExactShareLeftSaid := FnExactShareLeft_over fun a h => FnExactShareLeft_pure a h

/-- a list turned up to a place -/
def preM {α : Type} (f : α → α) (l : List α) (k : Nat) : List α := (l.take k).map f ++ l.drop k
theorem preM_length {α : Type} (f : α → α) (l : List α) (k : Nat) : (preM f l k).length = l.length := by unfold preM; simp; omega
theorem preM_get {α : Type} (f : α → α) (l : List α) (k : Nat) (h : k < l.length) : idx (preM f l k) (k : Int) = some l[k] := by
  rw [idx_nat _ k (by rw [preM_length]; exact h)]
  congr 1
  have hl : ((l.take k).map f).length = k := by rw [List.length_map, List.length_take]; omega
  unfold preM
  rw [List.getElem_append_right (by omega)]
  simp only [hl, Nat.sub_self]
  simp
theorem preM_set {α : Type} (f : α → α) (l : List α) (k : Nat) (h : k < l.length) : (preM f l k).set k (f l[k]) = preM f l (k + 1) := by
  have hl : ((l.take k).map f).length = k := by rw [List.length_map, List.length_take]; omega
  have htk : l.take (k + 1) = l.take k ++ [l[k]] := by rw [List.take_add_one, List.getElem?_eq_getElem h]; rfl
  unfold preM
  rw [List.set_append_right _ _ (by omega), hl, Nat.sub_self, htk, List.drop_eq_getElem_cons h, List.set_cons_zero, List.map_append, List.append_assoc]
  rfl
theorem preM_same {α : Type} (f : α → α) (l : List α) (k : Nat) (h : k < l.length) (hf : f l[k] = l[k]) : preM f l (k + 1) = preM f l k := by
  rw [← preM_set f l k h, hf]
  apply List.ext_getElem?
  intro j
  rw [List.getElem?_set]
  split
  · rename_i he
    subst he
    have := preM_get f l k h
    unfold idx at this
    rw [if_pos (by omega), Int.toNat_natCast] at this
    rw [if_pos (by rw [preM_length]; exact h), this]
  · rfl
theorem preM_all {α : Type} (f : α → α) (l : List α) : preM f l l.length = l.map f := by unfold preM; simp
/-- a tenant's blocks, wiped -/
def wipeV (who : Int) (l : List Int) : List Int := l.map fun x => if x = who then 0 else x
theorem spec_SpaceWipe_eq (s : Space) (who : Int) (h : s.Owner.length ≤ 1048576) :
    spec_SpaceWipe s who = some (if (decide (1 ≤ s.Owner.length ∧ s.Owner.length ≤ 40) && s.Owner.all fun x => decide (0 ≤ x ∧ x ≤ 99)) = true then (if 1 ≤ who ∧ who ≤ 99 then ({ Owner := wipeV who s.Owner }, ((s.Owner.countP fun x => decide (x = who) : Nat) : Int)) else (s, 0)) else ({ Owner := [] }, 0)) := by
  unfold spec_SpaceWipe
  rw [spec_SpaceOk_eq s h]
  simp only [Option.bind_some]
  by_cases hok : (decide (1 ≤ s.Owner.length ∧ s.Owner.length ≤ 40) && s.Owner.all fun x => decide (0 ≤ x ∧ x ≤ 99)) = true
  · rw [if_neg (by rw [hok]; simp), if_pos hok]
    unfold spec_l18Copy
    rw [app_ok (by simp; omega) (by simp; omega)]
    simp only [Option.bind_some, List.nil_append, l1In_eq]
    by_cases hw : 1 ≤ who ∧ who ≤ 99
    · rw [if_pos hw]
      rw [loopO_count (fun k => ((((s.Owner.take k).countP fun x => decide (x = who) : Nat) : Int), (k : Int), preM (fun x => if x = who then 0 else x) s.Owner k)) s.Owner.length (r := Ctl.go (((s.Owner.countP fun x => decide (x = who) : Nat) : Int), wipeV who s.Owner)) ?h0]
      case h0 => simp [preM]
      · rfl
      · intro k hk
        have hcnt : ((s.Owner.take k).countP fun x => decide (x = who)) ≤ k := Nat.le_trans List.countP_le_length (by simp; omega)
        have htk : s.Owner.take (k + 1) = s.Owner.take k ++ [s.Owner[k]] := by rw [List.take_add_one, List.getElem?_eq_getElem hk]; rfl
        simp only [preM_length, preM_get _ s.Owner k hk, Option.bind_some, hw]
        rw [if_pos (by simpa using hk), htk, List.countP_append]
        by_cases hx : s.Owner[k] = who
        · have := preM_set (fun x => if x = who then 0 else x) s.Owner k hk
          simp only [if_pos hx] at this
          simp only [Option.bind_some, hx, this, Int.toNat_natCast]
          rw [wrap_ok (by omega) (by omega), wrap_ok (by omega) (by omega)]
          simp
        · have := preM_same (fun x => if x = who then 0 else x) s.Owner k hk (by simp [hx])
          have hw6 : IntKind.i64.wrap ((k : Int) + 1) = (k : Int) + 1 := wrap_ok (by omega) (by omega)
          simp only [Option.bind_some, hx, this, hw6]
          simp [hx]
      · simp [preM_length, preM_all, wipeV]
    · rw [if_neg hw, loopO_eq]
      have hw' : ¬ (1 ≤ who ∧ who ≤ 99) := hw
      by_cases h0 : (0 : Int) < (s.Owner.length : Int)
      · simp [h0, hw']
      · exfalso
        simp only [Bool.and_eq_true, decide_eq_true_eq] at hok
        omega
  · have hok' : (decide (1 ≤ s.Owner.length ∧ s.Owner.length ≤ 40) && s.Owner.all fun x => decide (0 ≤ x ∧ x ≤ 99)) = false := by simpa using hok
    rw [hok']
    rfl
theorem copySpace_eq (s : Space) (h : s.Owner.length ≤ 1048576) : impl_copySpace s = some s := by
  unfold impl_copySpace slices_Clone_88240
  rw [app_ok (by simp; omega) (by simp; omega)]
  rfl
theorem impl_SpaceWipe_eq (s : Space) (who : Int) (h : s.Owner.length ≤ 1048576) :
    impl_SpaceWipe s who = some (if (decide (1 ≤ s.Owner.length ∧ s.Owner.length ≤ 40) && s.Owner.all fun x => decide (0 ≤ x ∧ x ≤ 99)) = true then (if 1 ≤ who ∧ who ≤ 99 then ({ Owner := wipeV who s.Owner }, ((s.Owner.countP fun x => decide (x = who) : Nat) : Int)) else (s, 0)) else ({ Owner := [] }, 0)) := by
  unfold impl_SpaceWipe
  rw [impl_SpaceOk_eq s h]
  simp only [Option.bind_some]
  by_cases hok : (decide (1 ≤ s.Owner.length ∧ s.Owner.length ≤ 40) && s.Owner.all fun x => decide (0 ≤ x ∧ x ≤ 99)) = true
  · rw [if_neg (by rw [hok]; simp), if_pos hok, copySpace_eq s h, isTenant_eq]
    simp only [Option.bind_some]
    by_cases hw : 1 ≤ who ∧ who ≤ 99
    · rw [if_pos hw, if_neg (by simp [hw])]
      rw [loopO_count (fun k => ((((s.Owner.take k).countP fun x => decide (x = who) : Nat) : Int), (k : Int), preM (fun x => if x = who then 0 else x) s.Owner k)) s.Owner.length (r := Ctl.go (((s.Owner.countP fun x => decide (x = who) : Nat) : Int), wipeV who s.Owner)) ?h0]
      case h0 => simp [preM]
      · rfl
      · intro k hk
        have hcnt : ((s.Owner.take k).countP fun x => decide (x = who)) ≤ k := Nat.le_trans List.countP_le_length (by simp; omega)
        have htk : s.Owner.take (k + 1) = s.Owner.take k ++ [s.Owner[k]] := by rw [List.take_add_one, List.getElem?_eq_getElem hk]; rfl
        simp only [idx_nat s.Owner k hk, preM_get _ s.Owner k hk, Option.bind_some]
        rw [if_pos (by simpa using hk), htk, List.countP_append]
        by_cases hx : s.Owner[k] = who
        · have := preM_set (fun x => if x = who then 0 else x) s.Owner k hk
          simp only [if_pos hx] at this
          simp only [hx, this, Int.toNat_natCast]
          rw [wrap_ok (by omega) (by omega), wrap_ok (by omega) (by omega)]
          simp
        · have := preM_same (fun x => if x = who then 0 else x) s.Owner k hk (by simp [hx])
          have hw6 : IntKind.i64.wrap ((k : Int) + 1) = (k : Int) + 1 := wrap_ok (by omega) (by omega)
          simp only [hx, this, hw6]
          simp [hx]
      · simp [preM_all, wipeV]
    · rw [if_neg hw, if_pos (by simp; omega)]
  · have hok' : (decide (1 ≤ s.Owner.length ∧ s.Owner.length ≤ 40) && s.Owner.all fun x => decide (0 ≤ x ∧ x ≤ 99)) = false := by simpa using hok
    rw [hok']
    rfl
theorem FnExactSpaceWipe_pure (a : Space) (who : Int) (h : Dec.ok a) : laws_FnExactSpaceWipe a who = some true := by
  have h3 : a.Owner.length ≤ 9223372036854775807 := h.1
  unfold laws_FnExactSpaceWipe
  rw [szSpace_eq a 1048576 (by omega) (by omega) h3]
  simp only [Option.bind_some]
  by_cases hl : (1048576 : Int) < a.Owner.length
  · simp [hl]
  · have hl' : a.Owner.length ≤ 1048576 := by omega
    simp only [if_neg hl]
    rw [if_neg (by simp; omega), toSpace_eq a hl']
    simp only [Option.bind_some, spec_SpaceWipe_eq a who hl', impl_SpaceWipe_eq a who hl']
    generalize hr : (if (decide (1 ≤ a.Owner.length ∧ a.Owner.length ≤ 40) && a.Owner.all fun x => decide (0 ≤ x ∧ x ≤ 99)) = true then (if 1 ≤ who ∧ who ≤ 99 then (({ Owner := wipeV who a.Owner } : Space), ((a.Owner.countP fun x => decide (x = who) : Nat) : Int)) else (a, 0)) else (({ Owner := [] } : Space), 0)) = r
    have hrl : r.1.Owner.length ≤ 1048576 := by
      subst hr
      split
      · split
        · simp [wipeV, hl']
        · exact hl'
      · simp
    simp only [eqSpace_eq r.1 r.1 hrl, eqSpace_eq a a hl', Option.bind_some, markSpace_eq a 1 hl' (by omega) (by omega), markSpace_eq r.1 1 hrl (by omega) (by omega), heldSpace_eq r.1 1 hrl (by omega) (by omega)]
    have n1 : ¬ (1 + (a.Owner.length : Int) < 0) := by omega
    have n2 : ¬ (1 + (r.1.Owner.length : Int) < 0) := by omega
    simp [n1, n2]
theorem FnExactSpaceWipe_proved : Rows.FnExactSpaceWipeSaid := FnExactSpaceWipe_over fun a who h _ => FnExactSpaceWipe_pure a who h

/-- the first n free blocks of the first k -/
def freeIx (l : List Int) (n : Int) : Nat → List Nat
  | 0 => []
  | k + 1 => if l[k]? = some 0 ∧ ((freeIx l n k).length : Int) < n then freeIx l n k ++ [k] else freeIx l n k
theorem freeIx_lt (l : List Int) (n : Int) : ∀ k, ∀ i ∈ freeIx l n k, i < k
  | 0, i, h => by simp [freeIx] at h
  | k + 1, i, h => by
    unfold freeIx at h
    split at h
    · rcases List.mem_append.1 h with h | h
      · have := freeIx_lt l n k i h; omega
      · have : i = k := by simpa using h
        omega
    · have := freeIx_lt l n k i h; omega
theorem freeIx_length (l : List Int) (n : Int) : ∀ k, (freeIx l n k).length ≤ k
  | 0 => by simp [freeIx]
  | k + 1 => by
    have := freeIx_length l n k
    unfold freeIx
    split
    · simp; omega
    · omega
theorem freeIx_sat (l : List Int) (n : Int) (k : Nat) (h : ¬ ((freeIx l n k).length : Int) < n) : ∀ d, freeIx l n (k + d) = freeIx l n k
  | 0 => rfl
  | d + 1 => by
    have := freeIx_sat l n k h d
    have e : freeIx l n (k + (d + 1)) = if l[k + d]? = some 0 ∧ ((freeIx l n (k + d)).length : Int) < n then freeIx l n (k + d) ++ [k + d] else freeIx l n (k + d) := rfl
    rw [e, this, if_neg (fun h2 => h h2.2)]
theorem freeIx_count (l : List Int) (n : Int) (hn : 1 ≤ n) : ∀ k, k ≤ l.length → (((freeIx l n k).length : Int) < n ↔ (((l.take k).countP fun x => decide (x = 0) : Nat) : Int) < n) ∧ ((((l.take k).countP fun x => decide (x = 0) : Nat) : Int) < n → (freeIx l n k).length = ((l.take k).countP fun x => decide (x = 0))) ∧
    ((((l.take k).countP fun x => decide (x = 0) : Nat) : Int) = n → ((freeIx l n k).length : Int) = n)
  | 0, _ => by simp [freeIx]
  | k + 1, hk => by
    obtain ⟨h1, h2, h3⟩ := freeIx_count l n hn k (by omega)
    have hk' : k < l.length := by omega
    have htk : l.take (k + 1) = l.take k ++ [l[k]] := by rw [List.take_add_one, List.getElem?_eq_getElem hk']; rfl
    unfold freeIx
    rw [htk, List.countP_append, List.getElem?_eq_getElem hk']
    by_cases hx : l[k] = 0
    · simp only [hx, true_and, List.countP_cons, List.countP_nil, decide_true, if_true, Nat.zero_add]
      by_cases hc : ((freeIx l n k).length : Int) < n
      · rw [if_pos hc]
        have := h2 (h1.1 hc)
        simp only [List.length_append, List.length_cons, List.length_nil]
        omega
      · rw [if_neg hc]
        have : ¬ (((l.take k).countP fun x => decide (x = 0) : Nat) : Int) < n := fun h => hc (h1.2 h)
        omega
    · simp only [List.countP_cons, List.countP_nil, hx, decide_false, Bool.false_eq_true, if_false, Nat.add_zero]
      rw [if_neg (by simp [hx])]
      exact ⟨h1, h2, h3⟩
/-- blocks given to somebody -/
def setAll (who : Int) (l : List Int) (g : List Nat) : List Int := g.foldl (fun s i => s.set i who) l
theorem setAll_length (who : Int) (g : List Nat) : ∀ l, (setAll who l g).length = l.length := by
  induction g with
  | nil => intro l; rfl
  | cons i g ih => intro l; show (setAll who (l.set i who) g).length = _; rw [ih, List.length_set]
theorem setAll_snoc (who : Int) (l : List Int) (g : List Nat) (i : Nat) : setAll who l (g ++ [i]) = (setAll who l g).set i who := by
  unfold setAll; rw [List.foldl_append]; rfl
/-- what taking blocks comes to -/
def takeV (l : List Int) (who n : Int) : Space × List Int × Bool :=
  if (1 ≤ who ∧ who ≤ 99) ∧ 1 ≤ n ∧ n ≤ ((freeIx l n l.length).length : Int) then ({ Owner := setAll who l (freeIx l n l.length) }, (freeIx l n l.length).map fun (i : Nat) => (i : Int), true) else ({ Owner := l }, [], false)
theorem spec_SpaceTake_eq (s : Space) (who n : Int) (h : s.Owner.length ≤ 1048576) :
    spec_SpaceTake s who n = some (if (decide (1 ≤ s.Owner.length ∧ s.Owner.length ≤ 40) && s.Owner.all fun x => decide (0 ≤ x ∧ x ≤ 99)) = true then takeV s.Owner who n else ({ Owner := [] }, [], false)) := by
  unfold spec_SpaceTake
  rw [spec_SpaceOk_eq s h]
  simp only [Option.bind_some]
  by_cases hok : (decide (1 ≤ s.Owner.length ∧ s.Owner.length ≤ 40) && s.Owner.all fun x => decide (0 ≤ x ∧ x ≤ 99)) = true
  · rw [if_neg (by rw [hok]; simp), if_pos hok]
    unfold spec_l18Copy
    rw [app_ok (by simp; omega) (by simp; omega)]
    simp only [Option.bind_some, List.nil_append, l1In_eq]
    rw [loopO_is (fun k st => st = ((k : Int), (freeIx s.Owner n k).map fun (i : Nat) => (i : Int))) s.Owner.length (Ctl.go ((freeIx s.Owner n s.Owner.length).map fun (i : Nat) => (i : Int))) ?h0 ?h1 ?h2]
    case h0 => rfl
    case h1 =>
      rintro k st hk rfl
      have hw6 : IntKind.i64.wrap ((k : Int) + 1) = ((k + 1 : Nat) : Int) := by rw [wrap_ok (by omega) (by omega)]; omega
      have hlen := freeIx_length s.Owner n k
      simp only [idx_nat s.Owner k hk, Option.bind_some, List.length_map, hw6]
      rw [if_pos (by simpa using hk)]
      by_cases hn : ((freeIx s.Owner n k).length : Int) < n
      · left
        simp only [hn, decide_true, Option.bind_some, if_true]
        refine ⟨_, ?_, rfl⟩
        have hu : freeIx s.Owner n (k + 1) = if s.Owner[k]? = some 0 ∧ ((freeIx s.Owner n k).length : Int) < n then freeIx s.Owner n k ++ [k] else freeIx s.Owner n k := rfl
        rw [hu, List.getElem?_eq_getElem hk]
        by_cases hx : s.Owner[k] = 0
        · rw [if_pos (by simpa using hx), app_ok (by simp; omega) (by simp; omega)]
          simp [hx, hn]
        · rw [if_neg (by simpa using hx)]
          simp [hx]
      · right
        have := freeIx_sat s.Owner n k hn (s.Owner.length - k)
        rw [show k + (s.Owner.length - k) = s.Owner.length by omega] at this
        rw [this]
        simp [hn]
    case h2 => rintro st rfl; simp
    simp only [bindC_go, List.length_map]
    unfold takeV
    by_cases hw : 1 ≤ who ∧ who ≤ 99
    · by_cases hn : n < 1
      · rw [if_neg (by omega : ¬ ((1 ≤ who ∧ who ≤ 99) ∧ 1 ≤ n ∧ n ≤ ((freeIx s.Owner n s.Owner.length).length : Int)))]
        simp [hw, hn]
      · by_cases hc : ((freeIx s.Owner n s.Owner.length).length : Int) < n
        · rw [if_neg (by omega : ¬ ((1 ≤ who ∧ who ≤ 99) ∧ 1 ≤ n ∧ n ≤ ((freeIx s.Owner n s.Owner.length).length : Int)))]
          simp [hw, hn, hc]
        · rw [if_pos (⟨hw, by omega, by omega⟩ : (1 ≤ who ∧ who ≤ 99) ∧ 1 ≤ n ∧ n ≤ ((freeIx s.Owner n s.Owner.length).length : Int))]
          have hZ := freeIx_length s.Owner n s.Owner.length
          have hlt := freeIx_lt s.Owner n s.Owner.length
          generalize freeIx s.Owner n s.Owner.length = Z at hc hZ hlt ⊢
          simp only [hw, hn, hc, and_self, decide_true, decide_false, Bool.not_true, Bool.false_eq_true, if_false, Option.bind_some]
          rw [loopO_count (fun k => ((k : Int), setAll who s.Owner (Z.take k))) Z.length (r := Ctl.go (setAll who s.Owner Z)) ?h0]
          case h0 => rfl
          · rfl
          · intro k hk
            have hw6 : IntKind.i64.wrap ((k : Int) + 1) = ((k + 1 : Nat) : Int) := by rw [wrap_ok (by omega) (by omega)]; omega
            have htk : Z.take (k + 1) = Z.take k ++ [Z[k]] := by rw [List.take_add_one, List.getElem?_eq_getElem hk]; rfl
            have hz := hlt Z[k] (List.getElem_mem _)
            have e1 : idx (Z.map fun (i : Nat) => (i : Int)) (k : Int) = some ((Z[k] : Nat) : Int) := by rw [idx_nat _ k (by simpa using hk)]; simp
            simp only [e1, Option.bind_some, idx_nat (setAll who s.Owner (Z.take k)) Z[k] (by rw [setAll_length]; exact hz), hw6, Int.toNat_natCast, htk, setAll_snoc]
            rw [if_pos (by simpa using hk)]
          · simp
    · rw [if_neg (fun h : (1 ≤ who ∧ who ≤ 99) ∧ 1 ≤ n ∧ n ≤ ((freeIx s.Owner n s.Owner.length).length : Int) => hw h.1)]
      simp only [hw, decide_false, Bool.not_false, if_true, Option.bind_some]
  · have hok' : (decide (1 ≤ s.Owner.length ∧ s.Owner.length ≤ 40) && s.Owner.all fun x => decide (0 ≤ x ∧ x ≤ 99)) = false := by simpa using hok
    rw [hok']
    rfl
theorem impl_SpaceOf_eq (s : Space) (who : Int) (h : s.Owner.length ≤ 1048576) : impl_SpaceOf s who = some (if (decide (1 ≤ s.Owner.length ∧ s.Owner.length ≤ 40) && s.Owner.all fun x => decide (0 ≤ x ∧ x ≤ 99)) = true then ((s.Owner.countP fun x => decide (x = who) : Nat) : Int) else 0) := by
  unfold impl_SpaceOf
  rw [impl_SpaceOk_eq s h]
  simp only [Option.bind_some]
  by_cases hok : (decide (1 ≤ s.Owner.length ∧ s.Owner.length ≤ 40) && s.Owner.all fun x => decide (0 ≤ x ∧ x ≤ 99)) = true
  · rw [if_neg (by rw [hok]; simp), if_pos hok]
    rw [loopO_count (fun k => ((((s.Owner.take k).countP fun x => decide (x = who) : Nat) : Int), (k : Int))) s.Owner.length (r := Ctl.go (((s.Owner.countP fun x => decide (x = who) : Nat) : Int))) ?h0]
    case h0 => rfl
    · rfl
    · intro k hk
      have hcnt : ((s.Owner.take k).countP fun x => decide (x = who)) ≤ k := Nat.le_trans List.countP_le_length (by simp; omega)
      have htk : s.Owner.take (k + 1) = s.Owner.take k ++ [s.Owner[k]] := by rw [List.take_add_one, List.getElem?_eq_getElem hk]; rfl
      have hw6 : IntKind.i64.wrap ((k : Int) + 1) = ((k + 1 : Nat) : Int) := by rw [wrap_ok (by omega) (by omega)]; omega
      simp only [idx_nat s.Owner k hk, Option.bind_some, hw6]
      rw [if_pos (by simpa using hk), htk, List.countP_append]
      by_cases hx : s.Owner[k] = who
      · simp only [hx]
        rw [wrap_ok (by omega) (by omega)]
        simp
      · simp [hx]
    · simp
  · have hok' : (decide (1 ≤ s.Owner.length ∧ s.Owner.length ≤ 40) && s.Owner.all fun x => decide (0 ≤ x ∧ x ≤ 99)) = false := by simpa using hok
    rw [hok']
    rfl
theorem impl_SpaceTake_eq (s : Space) (who n : Int) (h : s.Owner.length ≤ 1048576) :
    impl_SpaceTake s who n = some (if (decide (1 ≤ s.Owner.length ∧ s.Owner.length ≤ 40) && s.Owner.all fun x => decide (0 ≤ x ∧ x ≤ 99)) = true then takeV s.Owner who n else ({ Owner := [] }, [], false)) := by
  unfold impl_SpaceTake
  rw [impl_SpaceOk_eq s h]
  simp only [Option.bind_some]
  by_cases hok : (decide (1 ≤ s.Owner.length ∧ s.Owner.length ≤ 40) && s.Owner.all fun x => decide (0 ≤ x ∧ x ≤ 99)) = true
  · rw [if_neg (by rw [hok]; simp), if_pos hok, copySpace_eq s h, isTenant_eq, impl_SpaceOf_eq s 0 h, if_pos hok]
    simp only [Option.bind_some]
    unfold takeV
    by_cases hw : 1 ≤ who ∧ who ≤ 99
    · by_cases hn : n < 1
      · rw [if_neg (by omega : ¬ ((1 ≤ who ∧ who ≤ 99) ∧ 1 ≤ n ∧ n ≤ ((freeIx s.Owner n s.Owner.length).length : Int)))]
        simp [hw, hn]
      · obtain ⟨hc1, _, _⟩ := freeIx_count s.Owner n (by omega) s.Owner.length (Nat.le_refl _)
        rw [List.take_length] at hc1
        by_cases hc : ((freeIx s.Owner n s.Owner.length).length : Int) < n
        · rw [if_neg (by omega : ¬ ((1 ≤ who ∧ who ≤ 99) ∧ 1 ≤ n ∧ n ≤ ((freeIx s.Owner n s.Owner.length).length : Int)))]
          have := hc1.1 hc
          simp only [hw, hn, this, and_self, decide_true, decide_false, Bool.not_true, Bool.false_eq_true, if_false, Option.bind_some, if_true]
        · rw [if_pos (⟨hw, by omega, by omega⟩ : (1 ≤ who ∧ who ≤ 99) ∧ 1 ≤ n ∧ n ≤ ((freeIx s.Owner n s.Owner.length).length : Int))]
          have hc' : ¬ ((s.Owner.countP fun x => decide (x = 0) : Nat) : Int) < n := fun h => hc (hc1.2 h)
          simp only [hw, hn, hc', and_self, decide_true, decide_false, Bool.not_true, Bool.false_eq_true, if_false, Option.bind_some]
          rw [loopO_count (fun k => ((k : Int), setAll who s.Owner (freeIx s.Owner n k), (freeIx s.Owner n k).map fun (i : Nat) => (i : Int))) s.Owner.length (r := Ctl.go (setAll who s.Owner (freeIx s.Owner n s.Owner.length), (freeIx s.Owner n s.Owner.length).map fun (i : Nat) => (i : Int))) ?h0]
          case h0 => rfl
          · rfl
          · intro k hk
            have hw6 : IntKind.i64.wrap ((k : Int) + 1) = ((k + 1 : Nat) : Int) := by rw [wrap_ok (by omega) (by omega)]; omega
            have hlen := freeIx_length s.Owner n k
            simp only [idx_nat s.Owner k hk, idx_nat (setAll who s.Owner (freeIx s.Owner n k)) k (by rw [setAll_length]; exact hk), Option.bind_some, hw6, List.length_map, Int.toNat_natCast]
            rw [if_pos (by simpa using hk)]
            have hu : freeIx s.Owner n (k + 1) = if s.Owner[k]? = some 0 ∧ ((freeIx s.Owner n k).length : Int) < n then freeIx s.Owner n k ++ [k] else freeIx s.Owner n k := rfl
            rw [hu, List.getElem?_eq_getElem hk]
            by_cases hx : s.Owner[k] = 0
            · by_cases hn2 : ((freeIx s.Owner n k).length : Int) < n
              · rw [app_ok (by simp; omega) (by simp; omega)]
                simp [hx, hn2, setAll_snoc]
              · simp [hx, hn2]
            · simp [hx]
          · simp
    · rw [if_neg (fun h : (1 ≤ who ∧ who ≤ 99) ∧ 1 ≤ n ∧ n ≤ ((freeIx s.Owner n s.Owner.length).length : Int) => hw h.1)]
      simp only [hw, decide_false, Bool.not_false, if_true, Option.bind_some]
  · have hok' : (decide (1 ≤ s.Owner.length ∧ s.Owner.length ≤ 40) && s.Owner.all fun x => decide (0 ≤ x ∧ x ≤ 99)) = false := by simpa using hok
    rw [hok']
    rfl
theorem FnExactSpaceTake_pure (a : Space) (who n : Int) (h : Dec.ok a) : laws_FnExactSpaceTake a who n = some true := by
  have h3 : a.Owner.length ≤ 9223372036854775807 := h.1
  unfold laws_FnExactSpaceTake
  rw [szSpace_eq a 1048576 (by omega) (by omega) h3]
  simp only [Option.bind_some]
  by_cases hl : (1048576 : Int) < a.Owner.length
  · simp [hl]
  · have hl' : a.Owner.length ≤ 1048576 := by omega
    simp only [if_neg hl]
    rw [if_neg (by simp; omega), toSpace_eq a hl']
    simp only [Option.bind_some, spec_SpaceTake_eq a who n hl', impl_SpaceTake_eq a who n hl']
    generalize hr : (if (decide (1 ≤ a.Owner.length ∧ a.Owner.length ≤ 40) && a.Owner.all fun x => decide (0 ≤ x ∧ x ≤ 99)) = true then takeV a.Owner who n else (({ Owner := [] } : Space), ([] : List Int), false)) = r
    have hrl : r.1.Owner.length ≤ 1048576 ∧ r.2.1.length ≤ 1048576 := by
      subst hr
      split
      · unfold takeV
        split
        · simp only [setAll_length, List.length_map]
          exact ⟨hl', Nat.le_trans (freeIx_length _ _ _) hl'⟩
        · exact ⟨hl', by simp⟩
      · simp
    simp only [eqSpace_eq r.1 r.1 hrl.1, eqSpace_eq a a hl', eqIntS_eq r.2.1 r.2.1 hrl.2, Option.bind_some, markSpace_eq a 1 hl' (by omega) (by omega), markSpace_eq r.1 1 hrl.1 (by omega) (by omega), heldSpace_eq r.1 1 hrl.1 (by omega) (by omega),
      markIntS_eq r.2.1 (1 + r.1.Owner.length) hrl.2 (by omega) (by omega), heldIntS_eq r.2.1 (1 + r.1.Owner.length) hrl.2 (by omega) (by omega)]
    have n1 : ¬ (1 + (a.Owner.length : Int) < 0) := by omega
    have n2 : ¬ (1 + (r.1.Owner.length : Int) < 0) := by omega
    have n3 : ¬ (1 + (r.1.Owner.length : Int) + (r.2.1.length : Int) < 0) := by omega
    simp [n1, n2, n3]
theorem FnExactSpaceTake_proved : Rows.FnExactSpaceTakeSaid := FnExactSpaceTake_over fun a who n h _ _ => FnExactSpaceTake_pure a who n h

end Go.Proofs.Ytpfndjojoikkgaa
