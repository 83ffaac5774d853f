/-
  The plain laws: what the pure functions come to, and the statements. Conditions: none.
-/
import Derived.Test.YtmigafjpdoeicaaGreatPm
import Derived.Test.YtmigafjpdoeicaaGreatQ7
set_option linter.unusedVariables false
set_option linter.unusedSimpArgs false
namespace Go.Proofs.YtmigafjpdoeicaaGreat
open Go Sl
theorem inRange_eq (n a b : Int) : impl_inRange n a b = some (decide (a ≤ n ∧ n ≤ b)) := by
  unfold impl_inRange
  by_cases h : n ≥ a <;> simp [h]
theorem l1In_eq (n a b : Int) : spec_l1In n a b = some (decide (a ≤ n ∧ n ≤ b)) := by
  unfold spec_l1In
  by_cases h : n ≥ a <;> simp [h]
theorem Need_eq (q : Int) : impl_Need q = spec_Need q := by
  unfold impl_Need spec_Need
  rw [inRange_eq, l1In_eq]
  simp only [Option.bind_some]
  by_cases h : 0 ≤ q ∧ q ≤ 1000
  · simp only [h, decide_true, Bool.not_true, Bool.false_eq_true, if_false, and_self]
    rw [wrap_ok (n := q + 50) (by omega) (by omega), wrap_ok (n := q + 50 - 1) (by omega) (by omega), wrap_ok (n := q + 49) (by omega) (by omega), show q + 50 - 1 = q + 49 by omega]
  · simp [h]
/-! ### SpaceOk -/
theorem idx_some' {α : Type} {l : List α} {i : Int} (h0 : 0 ≤ i) (h1 : i < l.length) : idx l i = some (l[i.toNat]'(by omega)) := by
  unfold idx; rw [if_pos h0, List.getElem?_eq_getElem]
def needV (q : Int) : Int := if 0 ≤ q ∧ q ≤ 1000 then 2 + 2 * ((q + 49) / 50) else 0
theorem needV_range (q : Int) : 0 ≤ needV q ∧ needV q ≤ 42 := by
  unfold needV; split <;> omega
theorem spec_Need_eq (q : Int) : spec_Need q = some (needV q) := by
  unfold spec_Need needV
  rw [l1In_eq]
  simp only [Option.bind_some]
  by_cases h : 0 ≤ q ∧ q ≤ 1000
  · have w1 : IntKind.i64.wrap (q + 49) = q + 49 := wrap_ok (by omega) (by omega)
    have t1 : Int.tdiv (q + 49) 50 = (q + 49) / 50 := Int.tdiv_eq_ediv_of_nonneg (by omega)
    have w2 : IntKind.i64.wrap ((q + 49) / 50) = (q + 49) / 50 := wrap_ok (by omega) (by omega)
    have w3 : IntKind.i64.wrap (2 * ((q + 49) / 50)) = 2 * ((q + 49) / 50) := wrap_ok (by omega) (by omega)
    have w4 : IntKind.i64.wrap (2 + 2 * ((q + 49) / 50)) = 2 + 2 * ((q + 49) / 50) := wrap_ok (by omega) (by omega)
    simp only [w1, t1, w2, w3, w4, h]
    rfl
  · simp [h]
theorem impl_Need_eq (q : Int) : impl_Need q = some (needV q) := by rw [Need_eq, spec_Need_eq]
theorem isTenant_eq (n : Int) : impl_isTenant n = some (decide (1 ≤ n ∧ n ≤ 99)) := by
  unfold impl_isTenant; rw [inRange_eq]; rfl
theorem shares_sum (l : List Share) (h : l.length ≤ 1048576) : 0 ≤ (l.map fun x => needV x.Quota).sum ∧ (l.map fun x => needV x.Quota).sum ≤ 42 * l.length := by
  clear h
  induction l with
  | nil => simp
  | cons x l ih => have := needV_range x.Quota; simp only [List.map_cons, List.sum_cons, List.length_cons]; omega
theorem spec_l19All_eq (s : Shares) (h : s.List.length ≤ 1048576) : spec_l19All s = some ((s.List.map fun x => needV x.Quota).sum + if s.List.length > 0 then 4 else 0) := by
  unfold spec_l19All
  rw [sum_loop (ρ := Int) s.List (fun x => spec_Need x.Quota) (fun x => needV x.Quota) (fun x _ => spec_Need_eq _) (fun x _ => by have := needV_range x.Quota; omega) h 0 (by omega) (by omega)]
  have := shares_sum s.List h
  simp only [bindC_go, Int.zero_add]
  by_cases h0 : ((s.List.length : Nat) : Int) > 0
  · rw [if_pos (by simpa using h0), wrap_ok (by omega) (by omega), if_pos (by omega)]; rfl
  · rw [if_neg (by simpa using h0), if_neg (by omega)]; simp
theorem impl_needOf_eq (s : Shares) (h : s.List.length ≤ 1048576) : impl_needOf s = some (4 + (s.List.map fun x => needV x.Quota).sum) := by
  unfold impl_needOf
  rw [sum_loop (ρ := Int) s.List (fun x => impl_Need x.Quota) (fun x => needV x.Quota) (fun x _ => impl_Need_eq _) (fun x _ => by have := needV_range x.Quota; omega) h 4 (by omega) (by omega)]
  rfl
theorem impl_SharesOk_spec (s : Shares) (h : s.List.length ≤ 1048576) : impl_SharesOk s = spec_SharesOk s := by
  unfold spec_SharesOk impl_SharesOk
  simp only [l1In_eq, inRange_eq, isTenant_eq, Option.bind_some, spec_l19All_eq s h, impl_needOf_eq s h, ge_iff_le]
  by_cases h0 : 0 ≤ s.Size ∧ s.Size ≤ 1000
  · by_cases h4 : ((s.List.length : Nat) : Int) > 4
    · simp [h0, h4]
    · simp only [h0, h4, and_self, decide_true, decide_false, Bool.not_true, Bool.false_eq_true, if_false, Option.bind_some]
      congr 1
      funext _
      by_cases hz : s.List.length = 0
      · have : s.List = [] := List.eq_nil_of_length_eq_zero hz
        simp [this, h0.1]
      · have hz' : ¬ ((s.List.length : Nat) : Int) = 0 := by omega
        simp only [hz', decide_false, Bool.false_eq_true, if_false, Option.bind_some, show s.List.length > 0 by omega, if_true]
        rw [Int.add_comm]
  · simp [h0]
theorem sLt_compl : ∀ a b : List UInt8, (sLt b a || decide (b = a)) = !sLt a b
  | [], [] => rfl
  | [], b :: y => by simp [sLt, Op.bytesLess]
  | a :: x, [] => by simp [sLt, Op.bytesLess]
  | a :: x, b :: y => by
    have ih := sLt_compl x y
    simp only [sLt] at ih
    simp only [sLt, Op.bytesLess]
    by_cases h1 : a < b
    · have h2 : ¬ b < a := fun h => absurd (UInt8.lt_trans h1 h) (UInt8.lt_irrefl _)
      have h3 : ¬ b = a := fun h => by subst h; exact UInt8.lt_irrefl _ h1
      simp [h1, h2, h3]
    · by_cases h2 : b < a
      · have h3 : ¬ a = b := fun h => by subst h; exact UInt8.lt_irrefl _ h2
        simp [h1, h2, h3]
      · have h3 : a = b := by
          rw [UInt8.lt_iff_toNat_lt] at h1 h2
          apply UInt8.toNat_inj.1
          omega
        subst h3
        simp only [h1, decide_false, Bool.false_or, beq_self_eq_true, Bool.true_and, List.cons.injEq, true_and]
        exact ih
theorem all_loop {body : Int → Option (Ctl Int (Ctl Unit Bool))} (pass : Nat → Bool) (n : Nat) (h : ∀ k, k < n → body (k : Int) = some (if pass k = true then .go ((k : Int) + 1) else .done (.done false))) (hn : body (n : Int) = some (.done (.go ()))) :
    loopO body 0 = some (if (List.range n).all pass = true then .go () else .done false) := by
  have key : ∀ d k, k + d = n → loopO body (k : Int) = some (if ((List.range n).drop k).all pass = true then .go () else .done false) := by
    intro d
    induction d with
    | zero =>
      intro k hk
      obtain rfl : k = n := by omega
      rw [loopO_eq, hn, List.drop_of_length_le (by simp)]
      rfl
    | succ d ih =>
      intro k hk
      have hd : (List.range n).drop k = k :: (List.range n).drop (k + 1) := by rw [List.drop_eq_getElem_cons (by simp; omega)]; simp
      rw [loopO_eq, h k (by omega), hd, List.all_cons]
      cases hp : pass k with
      | true =>
        have := ih (k + 1) (by omega)
        rw [show ((k + 1 : Nat) : Int) = (k : Int) + 1 by omega] at this
        simpa using this
      | false => simp
  have := key n 0 (by omega)
  simpa using this
theorem sLt_trans : ∀ {a b c : List UInt8}, sLt a b = true → sLt b c = true → sLt a c = true
  | [], [], _, h, _ => by simp [sLt, Op.bytesLess] at h
  | [], _ :: _, [], _, h => by simp [sLt, Op.bytesLess] at h
  | [], _ :: _, _ :: _, _, _ => rfl
  | _ :: _, [], _, h, _ => by simp [sLt, Op.bytesLess] at h
  | _ :: _, _ :: _, [], _, h => by simp [sLt, Op.bytesLess] at h
  | x :: a, y :: b, z :: c, h1, h2 => by
    simp only [sLt, Op.bytesLess, Bool.or_eq_true, decide_eq_true_eq, Bool.and_eq_true, beq_iff_eq] at h1 h2 ⊢
    rcases h1 with h1 | ⟨rfl, h1⟩
    · rcases h2 with h2 | ⟨rfl, _⟩
      · exact .inl (UInt8.lt_trans h1 h2)
      · exact .inl h1
    · rcases h2 with h2 | ⟨rfl, h2⟩
      · exact .inl h2
      · exact .inr ⟨rfl, sLt_trans h1 h2⟩
theorem sLt_irrefl (a : List UInt8) : sLt a a = false := by
  have := sLt_compl a a
  simpa using this
theorem piece_nat {α : Type} (l : List α) (a b : Nat) (lo hi : Int) (h1 : lo = (a : Int)) (h2 : hi = (b : Int)) (h3 : a ≤ b) (h4 : b ≤ l.length) : piece l lo hi = some ((l.drop a).take (b - a)) := by
  subst h1 h2
  unfold piece
  rw [if_pos ⟨by omega, by omega, by omega⟩, Int.toNat_natCast, Int.toNat_natCast]
theorem filter_one {α : Type} (l : List α) (p : α → Bool) (j : Nat) (hj : j < l.length) (h1 : p l[j] = false) (h2 : ∀ i (h : i < l.length), i ≠ j → p l[i] = true) : l.filter p = l.take j ++ l.drop (j + 1) := by
  have hs : l = l.take j ++ l[j] :: l.drop (j + 1) := by rw [← List.drop_eq_getElem_cons hj, List.take_append_drop]
  have ha : (l.take j).filter p = l.take j := by
    rw [List.filter_eq_self]
    intro x hx
    obtain ⟨i, hi, rfl⟩ := List.getElem_of_mem hx
    have hi' : i < j := by simp at hi; omega
    simp only [List.getElem_take]
    exact h2 i (by omega) (by omega)
  have hb : (l.drop (j + 1)).filter p = l.drop (j + 1) := by
    rw [List.filter_eq_self]
    intro x hx
    obtain ⟨i, hi, rfl⟩ := List.getElem_of_mem hx
    have hi' : j + 1 + i < l.length := by simp at hi; omega
    simp only [List.getElem_drop]
    exact h2 (j + 1 + i) hi' (by omega)
  conv => lhs; rw [hs]
  rw [List.filter_append, List.filter_cons_of_neg (by simpa using h1), ha, hb]
theorem filter_take {α : Type} (p : α → Bool) (l : List α) (k : Nat) (h : k < l.length) : (l.take (k + 1)).filter p = (l.take k).filter p ++ if p l[k] = true then [l[k]] else [] := by
  rw [show l.take (k + 1) = l.take k ++ [l[k]] by rw [List.take_add_one, List.getElem?_eq_getElem h]; rfl, List.filter_append]
  congr 1
  by_cases c : p l[k] = true
  · rw [if_pos c, List.filter_cons_of_pos c]; rfl
  · rw [if_neg c, List.filter_cons_of_neg c]; rfl
theorem filter_len {α : Type} (p : α → Bool) (l : List α) (k : Nat) : ((l.take k).filter p).length ≤ k := Nat.le_trans (List.length_filter_le _ _) (by simp; omega)
def shareP (l : List Share) (k : Nat) : Bool := match l[k]? with
  | some x => decide (1 ≤ x.Tenant ∧ x.Tenant ≤ 99) && (decide (0 ≤ x.Quota ∧ x.Quota ≤ 1000) && (match k with | 0 => true | j + 1 => match l[j]? with | some d => decide (d.Tenant < x.Tenant) | none => true))
  | none => true
theorem shareP_at (l : List Share) (k : Nat) (h : k < l.length) : shareP l k = (decide (1 ≤ l[k].Tenant ∧ l[k].Tenant ≤ 99) && (decide (0 ≤ l[k].Quota ∧ l[k].Quota ≤ 1000) && (if h0 : 0 < k then decide ((l[k - 1]'(by omega)).Tenant < l[k].Tenant) else true))) := by
  unfold shareP
  rw [List.getElem?_eq_getElem h]
  cases k with
  | zero => rfl
  | succ j =>
    simp only [Nat.zero_lt_succ, dif_pos, Nat.add_sub_cancel]
    rw [List.getElem?_eq_getElem (by omega)]
def allNeed (s : Shares) : Int := (s.List.map fun x => needV x.Quota).sum + if s.List.length > 0 then 4 else 0
def sharesV (s : Shares) : Bool := decide (0 ≤ s.Size ∧ s.Size ≤ 1000) && (decide (s.List.length ≤ 4) && ((List.range s.List.length).all (shareP s.List) && decide (allNeed s ≤ s.Size)))
theorem spec_SharesOk_eq (s : Shares) (h : s.List.length ≤ 1048576) : spec_SharesOk s = some (sharesV s) := by
  unfold spec_SharesOk sharesV
  simp only [l1In_eq, Option.bind_some, spec_l19All_eq s h]
  by_cases h0 : 0 ≤ s.Size ∧ s.Size ≤ 1000
  · by_cases h4 : s.List.length ≤ 4
    · rw [decide_eq_true h0, decide_eq_true h4, decide_eq_false (by omega : ¬ ((s.List.length : Nat) : Int) > 4)]
      simp only [Bool.not_true, Bool.false_eq_true, if_false, Option.bind_some, Bool.true_and]
      rw [all_loop (shareP s.List) s.List.length ?hp ?hq]
      case hq => simp
      case hp =>
        intro k hk
        simp only [idx_nat s.List k hk, Option.bind_some]
        rw [if_pos (by simpa using hk), wrap_ok (n := (k : Int) + 1) (by omega) (by omega), shareP_at s.List k hk]
        by_cases d1 : 1 ≤ s.List[k].Tenant ∧ s.List[k].Tenant ≤ 99
        · by_cases d2 : 0 ≤ s.List[k].Quota ∧ s.List[k].Quota ≤ 1000
          · rw [decide_eq_true d1, decide_eq_true d2]
            by_cases hk0 : 0 < k
            · have hw : IntKind.i64.wrap ((k : Int) - 1) = ((k - 1 : Nat) : Int) := by rw [wrap_ok (by omega) (by omega)]; omega
              rw [dif_pos hk0, if_neg (by simp), if_neg (by simp), if_pos (by simp; omega)]
              simp only [hw, idx_nat s.List (k - 1) (by omega), Option.bind_some]
              by_cases d3 : (s.List[k - 1]'(by omega)).Tenant < s.List[k].Tenant
              · simp [d3, show ¬ s.List[k].Tenant ≤ (s.List[k - 1]'(by omega)).Tenant by omega]
              · simp [d3, show s.List[k].Tenant ≤ (s.List[k - 1]'(by omega)).Tenant by omega]
            · obtain rfl : k = 0 := by omega
              simp
          · rw [decide_eq_true d1, decide_eq_false d2]
            simp
        · rw [decide_eq_false d1]
          simp
      cases (List.range s.List.length).all (shareP s.List) with
      | false => rfl
      | true => rfl
    · rw [decide_eq_true h0, decide_eq_false h4, decide_eq_true (by omega : ((s.List.length : Nat) : Int) > 4)]
      rfl
  · rw [decide_eq_false h0]
    rfl
theorem shares_lt {s : Shares} (hv : sharesV s = true) : ∀ (j : Nat) (hj : j < s.List.length) (i : Nat) (hi : i < j), (s.List[i]'(by omega)).Tenant < s.List[j].Tenant := by
  intro j
  induction j with
  | zero => intro _ i hi; omega
  | succ j ih =>
    intro hj i hi
    have h1 : (s.List[j]'(by omega)).Tenant < s.List[j + 1].Tenant := by
      unfold sharesV at hv
      simp only [Bool.and_eq_true, List.all_eq_true] at hv
      have := hv.2.2.1 (j + 1) (by simpa using hj)
      rw [shareP_at s.List (j + 1) hj, dif_pos (by omega)] at this
      simp only [Bool.and_eq_true] at this
      exact of_decide_eq_true this.2.2
    by_cases e : i = j
    · subst e; exact h1
    · have := ih (by omega) i (by omega); omega
theorem cloneShares_eq (s : List Share) (h : s.length ≤ 1048576) : slices_Clone_21618 s = some s := by
  unfold slices_Clone_21618
  rw [app_ok (by simp; omega) (by simp; omega)]
  rfl
theorem copyShares_eq (s : Shares) (h : s.List.length ≤ 1048576) : impl_copyShares s = some s := by
  unfold impl_copyShares
  rw [cloneShares_eq _ h]
  rfl
theorem spec_l19Copy_eq (s : Shares) (h : s.List.length ≤ 1048576) : spec_l19Copy s = some s := by
  unfold spec_l19Copy
  rw [app_ok (by simp; omega) (by simp; omega)]
  rfl
theorem shareAt_cases (s : Shares) (t : Int) (hv : sharesV s = true) (h : s.List.length ≤ 1048576) :
    ∃ j, j ≤ s.List.length ∧ (∀ i (hi : i < s.List.length), i < j → s.List[i].Tenant < t) ∧ (∀ i (hi : i < s.List.length), j < i → t < s.List[i].Tenant) ∧
      ((∃ hj : j < s.List.length, impl_shareAt s t = some ((j : Int), true) ∧ s.List[j].Tenant = t) ∨ (impl_shareAt s t = some ((j : Int), false) ∧ ∀ i (hi : i < s.List.length), j ≤ i → t < s.List[i].Tenant)) := by
  unfold impl_shareAt
  have key : ∃ c, loopO (ρ := Ctl Int (Int × Bool)) (fun (S2 : Int) => (if (decide (S2 < ((s.List.length : Nat) : Int))) = true then ((idx s.List S2).bind fun E9 => some (decide (E9.Tenant < t))) else (some false)).bind (fun (T6 : Bool) =>
      if T6 = true then (some (.go (IntKind.i64.wrap (S2 + (1 : Int))))) else (some (.done (.go S2))))) (0 : Int) = some c ∧
      ∃ j, c = .go ((j : Nat) : Int) ∧ j ≤ s.List.length ∧ (∀ i (hi : i < s.List.length), i < j → s.List[i].Tenant < t) ∧ ∀ hj : j < s.List.length, t ≤ s.List[j].Tenant := by
    refine loopO_total (fun i q => q = (i : Int) ∧ ∀ q (h : q < s.List.length), q < i → s.List[q].Tenant < t) s.List.length _ ⟨rfl, fun q h h2 => by omega⟩ ?_ ?_
    · rintro i q hi ⟨rfl, h2⟩
      simp only [idx_nat s.List i hi, Option.bind_some]
      rw [if_pos (by simpa using hi), wrap_ok (by omega) (by omega)]
      by_cases c : s.List[i].Tenant < t
      · left
        refine ⟨(i : Int) + 1, by simp [c], by omega, fun q h h3 => ?_⟩
        by_cases e : q = i
        · subst e; exact c
        · exact h2 q h (by omega)
      · right
        exact ⟨.go (i : Int), by simp [c], i, rfl, by omega, fun q h h3 => h2 q h h3, fun _ => by omega⟩
    · rintro q ⟨rfl, h2⟩
      exact ⟨.go (s.List.length : Int), by simp, s.List.length, rfl, Nat.le_refl _, fun q h h3 => h2 q h h3, fun hj => by omega⟩
  obtain ⟨c, hc, j, rfl, h1, h2, h3⟩ := key
  rw [hc]
  have h4 : ∀ i (hi : i < s.List.length), j < i → t < s.List[i].Tenant := fun i hi hji => by
    have := h3 (by omega)
    have := shares_lt hv i hi j hji
    omega
  refine ⟨j, h1, h2, h4, ?_⟩
  by_cases hj : j < s.List.length
  · by_cases e : s.List[j].Tenant = t
    · refine .inl ⟨hj, ?_, e⟩
      simp [idx_nat s.List j hj, hj, e]
    · refine .inr ⟨?_, fun i hi hji => ?_⟩
      · simp [idx_nat s.List j hj, hj, e]
      · by_cases e2 : i = j
        · subst e2
          have := h3 hi
          omega
        · exact h4 i hi (by omega)
  · refine .inr ⟨?_, fun i hi hji => by omega⟩
    simp [hj]
theorem delShares_eq (l : List Share) (j : Nat) (hj : j < l.length) (h : l.length ≤ 1048576) : slices_Delete_21618 l (j : Int) (IntKind.i64.wrap ((j : Int) + 1)) = some (l.take j ++ l.drop (j + 1)) := by
  unfold slices_Delete_21618
  have hw : IntKind.i64.wrap ((j : Int) + 1) = ((j + 1 : Nat) : Int) := by rw [wrap_ok (by omega) (by omega)]; omega
  rw [hw, piece_nat l j (j + 1) _ _ rfl rfl (by omega) (by omega), piece_nat l 0 j 0 (j : Int) rfl rfl (by omega) (by omega), piece_nat l (j + 1) l.length _ _ rfl rfl (by omega) (by omega)]
  simp only [Option.bind_some]
  rw [if_neg (by simp; omega)]
  simp
  exact List.take_of_length_le (by simp)
def dropT (l : List Share) (t : Int) : List Share := l.filter fun x => !decide (x.Tenant = t)
def shareDropR (s : Shares) (t : Int) : Shares × Bool := if sharesV s = true then (if (dropT s.List t).length = s.List.length then (s, false) else ({ s with List := dropT s.List t }, true)) else ({ Size := 0, List := [] }, false)
theorem spec_ShareDrop_eq (s : Shares) (t : Int) (h : s.List.length ≤ 1048576) : spec_ShareDrop s t = some (shareDropR s t) := by
  unfold spec_ShareDrop shareDropR
  rw [spec_SharesOk_eq s h]
  cases hv : sharesV s with
  | false => rfl
  | true =>
    simp only [Option.bind_some, Bool.not_true, Bool.false_eq_true, if_false, if_true]
    rw [loopO_count (fun k => ((k : Int), (s.List.take k).filter fun x => !decide (x.Tenant = t))) s.List.length (r := Ctl.go (dropT s.List t)) ?h0]
    case h0 => rfl
    · simp only [bindC_go, spec_l19Copy_eq s h, Option.bind_some]
      by_cases c : (dropT s.List t).length = s.List.length
      · rw [if_pos (by simp; omega), if_pos c]
      · rw [if_neg (by simp; omega), if_neg c]
    · intro k hk
      have hlen := filter_len (fun x : Share => !decide (x.Tenant = t)) s.List k
      simp only [idx_nat s.List k hk, Option.bind_some, filter_take _ s.List k hk]
      rw [if_pos (by simpa using hk), wrap_ok (n := (k : Int) + 1) (by omega) (by omega)]
      by_cases c : s.List[k].Tenant = t
      · simp [c]
      · simp only [c, decide_false, Bool.not_false, if_true]
        rw [app_ok (by simp only [List.length_cons, List.length_nil]; omega) (by simp only [List.length_cons, List.length_nil]; omega)]
        rfl
    · simp [dropT]
theorem impl_ShareDrop_eq (s : Shares) (t : Int) (h : s.List.length ≤ 1048576) : impl_ShareDrop s t = some (shareDropR s t) := by
  unfold impl_ShareDrop shareDropR
  rw [impl_SharesOk_spec s h, spec_SharesOk_eq s h]
  cases hv : sharesV s with
  | false => rfl
  | true =>
    simp only [Option.bind_some, Bool.not_true, Bool.false_eq_true, if_false, if_true, copyShares_eq s h]
    obtain ⟨j, hj, h1, h2, h3⟩ := shareAt_cases s t hv h
    rcases h3 with ⟨hjl, h4, h5⟩ | ⟨h4, h5⟩
    · rw [h4]
      simp only [Option.bind_some, Bool.not_true, Bool.false_eq_true, if_false, delShares_eq s.List j hjl h]
      have hd : dropT s.List t = s.List.take j ++ s.List.drop (j + 1) := by
        unfold dropT
        refine filter_one s.List _ j hjl (by simp [h5]) fun i hi hij => ?_
        have : ¬ s.List[i].Tenant = t := by
          rcases Nat.lt_or_ge i j with h6 | h6
          · have := h1 i hi h6; omega
          · have := h2 i hi (by omega); omega
        simp [this]
      have hl : ¬ (s.List.take j ++ s.List.drop (j + 1)).length = s.List.length := by simp; omega
      rw [hd, if_neg hl]
    · rw [h4]
      have hd : dropT s.List t = s.List := by
        unfold dropT
        rw [List.filter_eq_self]
        intro x hx
        obtain ⟨i, hi, rfl⟩ := List.getElem_of_mem hx
        have : ¬ s.List[i].Tenant = t := by
          rcases Nat.lt_or_ge i j with h6 | h6
          · have := h1 i hi h6; omega
          · have := h5 i hi h6; omega
        simp [this]
      rw [hd]
      simp
def setF (l : List Share) (t q : Int) (j D k : Nat) : Bool × Int × List Share := bif Nat.ble k j then (false, (k : Int), l.take k) else (true, (k : Int), l.take j ++ ({ Tenant := t, Quota := q } :: (l.drop D).take (k - D)))
theorem setF_le (l : List Share) (t q : Int) (j D k : Nat) (h : k ≤ j) : setF l t q j D k = (false, (k : Int), l.take k) := by
  unfold setF
  rw [Nat.ble_eq_true_of_le h]
  rfl
theorem setF_gt (l : List Share) (t q : Int) (j D k : Nat) (h : j < k) : setF l t q j D k = (true, (k : Int), l.take j ++ ({ Tenant := t, Quota := q } :: (l.drop D).take (k - D))) := by
  unfold setF
  have : Nat.ble k j = false := by
    cases hb : Nat.ble k j
    · rfl
    · exact absurd (Nat.le_of_ble_eq_true hb) (by omega)
  rw [this]
  rfl
theorem spec_ShareSet_at (s : Shares) (t q : Int) (j D : Nat) (hv : sharesV s = true) (hs4 : s.List.length ≤ 4) (hj : j ≤ s.List.length) (hD : D = j ∨ D = j + 1) (hDl : D ≤ s.List.length)
    (h1 : ∀ i (hi : i < s.List.length), i < j → s.List[i].Tenant < t) (h2 : ∀ i (hi : i < s.List.length), D ≤ i → t < s.List[i].Tenant) (h3 : D = j + 1 → ∀ hi : j < s.List.length, s.List[j].Tenant = t) :
    spec_ShareSet s t q = some (if sharesV { Size := s.Size, List := s.List.take j ++ ({ Tenant := t, Quota := q } :: s.List.drop D) } = true then ({ Size := s.Size, List := s.List.take j ++ ({ Tenant := t, Quota := q } :: s.List.drop D) }, true) else (s, false)) := by
  unfold spec_ShareSet
  rw [spec_SharesOk_eq s (by omega), hv]
  simp only [Option.bind_some, Bool.not_true, Bool.false_eq_true, if_false]
  have hrl : (s.List.take j ++ ({ Tenant := t, Quota := q } :: s.List.drop D) : List Share).length ≤ 1048576 := by simp; omega
  have hfin : spec_SharesOk { Size := s.Size, List := s.List.take j ++ ({ Tenant := t, Quota := q } :: s.List.drop D) } = some (sharesV { Size := s.Size, List := s.List.take j ++ ({ Tenant := t, Quota := q } :: s.List.drop D) }) := spec_SharesOk_eq _ hrl
  by_cases hjl : j = s.List.length
  · have hDj : D = j := by omega
    rw [loopO_count (fun k => (false, (k : Int), s.List.take k)) s.List.length (r := Ctl.go (false, s.List)) ?h0]
    case h0 => rfl
    · simp only [bindC_go, Bool.not_false, if_true]
      rw [app_ok (by simp; omega) (by simp; omega)]
      simp only [Option.bind_some, bindC_go]
      have hl : s.List ++ [{ Tenant := t, Quota := q }] = s.List.take j ++ ({ Tenant := t, Quota := q } :: s.List.drop D) := by rw [hDj, hjl]; simp
      rw [hl, hfin]
      simp only [Option.bind_some, spec_l19Copy_eq s (by omega)]
      cases sharesV { Size := s.Size, List := s.List.take j ++ ({ Tenant := t, Quota := q } :: s.List.drop D) } <;> rfl
    · intro k hk
      have hk1 := h1 k hk (by omega)
      have ht : s.List.take (k + 1) = s.List.take k ++ [s.List[k]] := by rw [List.take_add_one, List.getElem?_eq_getElem hk]; rfl
      simp only [idx_nat s.List k hk, Option.bind_some, Bool.not_false, if_true]
      rw [if_pos (by simpa using hk), wrap_ok (n := (k : Int) + 1) (by omega) (by omega), decide_eq_false (by omega : ¬ s.List[k].Tenant ≥ t), decide_eq_false (by omega : ¬ s.List[k].Tenant = t)]
      simp only [Bool.false_eq_true, if_false, bindC_go, Bool.not_false, if_true]
      rw [app_ok (by simp; omega) (by simp; omega), ht]
      rfl
    · simp
  · have hjl' : j < s.List.length := by omega
    rw [loopO_count (setF s.List t q j D) s.List.length (r := Ctl.go (true, s.List.take j ++ ({ Tenant := t, Quota := q } :: s.List.drop D))) ?h0]
    case h0 => rw [setF_le _ _ _ _ _ _ (Nat.zero_le _)]; simp
    · simp only [bindC_go, Bool.not_true, Bool.false_eq_true, if_false, hfin, Option.bind_some, spec_l19Copy_eq s (by omega)]
      cases sharesV { Size := s.Size, List := s.List.take j ++ ({ Tenant := t, Quota := q } :: s.List.drop D) } <;> rfl
    · intro k hk
      have hw := wrap_ok (n := (k : Int) + 1) (by omega) (by omega)
      rcases Nat.lt_trichotomy k j with hkj | hkj | hkj
      · have hk1 := h1 k hk hkj
        have ht : s.List.take (k + 1) = s.List.take k ++ [s.List[k]] := by rw [List.take_add_one, List.getElem?_eq_getElem hk]; rfl
        rw [setF_le _ _ _ _ _ _ (by omega), setF_le _ _ _ _ _ _ (by omega)]
        simp only [idx_nat s.List k hk, Option.bind_some, Bool.not_false, if_true, hw]
        rw [if_pos (by simpa using hk), decide_eq_false (by omega : ¬ s.List[k].Tenant ≥ t), decide_eq_false (by omega : ¬ s.List[k].Tenant = t)]
        simp only [Bool.false_eq_true, if_false, bindC_go, Bool.not_false, if_true]
        rw [app_ok (by simp; omega) (by simp; omega), ht]
        rfl
      · subst hkj
        rw [setF_le _ _ _ _ _ _ (Nat.le_refl _), setF_gt _ _ _ _ _ _ (by omega)]
        simp only [idx_nat s.List k hk, Option.bind_some, Bool.not_false, if_true, hw]
        rw [if_pos (by simpa using hk)]
        rcases hD with rfl | rfl
        · have hk2 := h2 D hk (Nat.le_refl _)
          rw [decide_eq_true (by omega : s.List[D].Tenant ≥ t), decide_eq_false (by omega : ¬ s.List[D].Tenant = t)]
          simp only [if_true]
          rw [app_ok (by simp; omega) (by simp; omega)]
          simp only [Option.bind_some, bindC_go, Bool.not_false, if_true]
          rw [app_ok (by simp; omega) (by simp; omega)]
          have : (s.List.drop D).take (D + 1 - D) = [s.List[D]] := by
            rw [List.drop_eq_getElem_cons hk, show D + 1 - D = 1 by omega]; rfl
          rw [this]
          simp
        · have hk3 := h3 rfl hk
          rw [decide_eq_true (by omega : s.List[k].Tenant ≥ t), decide_eq_true hk3]
          simp only [if_true]
          rw [app_ok (by simp; omega) (by simp; omega)]
          simp
      · have hk2 := h2 k hk (by omega)
        rw [setF_gt _ _ _ _ _ _ (by omega), setF_gt _ _ _ _ _ _ (by omega)]
        simp only [idx_nat s.List k hk, Option.bind_some, Bool.not_true, Bool.false_eq_true, if_false, hw]
        rw [if_pos (by simpa using hk), decide_eq_false (by omega : ¬ s.List[k].Tenant = t)]
        simp only [bindC_go, Bool.not_false, if_true]
        rw [app_ok (by simp; omega) (by simp; omega)]
        have hkd : k - D < (s.List.drop D).length := by simp; omega
        have ht : (s.List.drop D).take (k + 1 - D) = (s.List.drop D).take (k - D) ++ [s.List[k]] := by
          rw [show k + 1 - D = (k - D) + 1 by omega, List.take_add_one, List.getElem?_eq_getElem hkd, List.getElem_drop]
          congr 2
          simp only [Option.toList_some]
          congr 2
          omega
        rw [ht]
        simp
    · rw [setF_gt _ _ _ _ _ _ (by omega)]
      have : (s.List.drop D).take (s.List.length - D) = s.List.drop D := List.take_of_length_le (by simp)
      simp [this]
theorem insShares_eq (l : List Share) (x : Share) (j : Nat) (hj : j ≤ l.length) (h : l.length ≤ 1048576) : slices_Insert_21618 l (j : Int) [x] = some (l.take j ++ (x :: l.drop j)) := by
  unfold slices_Insert_21618 ins
  rw [if_pos ⟨by omega, by omega, by simp; omega, by simp; omega⟩, Int.toNat_natCast]
  rfl
theorem ShareSet_both (s : Shares) (t q : Int) (h : s.List.length ≤ 1048576) : ∃ r, spec_ShareSet s t q = some r ∧ impl_ShareSet s t q = some r ∧ r.1.List.length ≤ 1048576 := by
  by_cases hv : sharesV s = true
  · have hs4 : s.List.length ≤ 4 := by
      unfold sharesV at hv
      simp only [Bool.and_eq_true, decide_eq_true_eq] at hv
      exact hv.2.1
    obtain ⟨j, hj, h1, h2, h3⟩ := shareAt_cases s t hv h
    have hend : ∀ D, (D = j ∨ D = j + 1) → D ≤ s.List.length → ∀ b : Bool, ((if b = true then ({ Size := s.Size, List := s.List.take j ++ ({ Tenant := t, Quota := q } :: s.List.drop D) }, true) else (s, false) : Shares × Bool)).1.List.length ≤ 1048576 := by
      intro D _ _ b
      cases b
      · simp; omega
      · simp; omega
    rcases h3 with ⟨hjl, h4, h5⟩ | ⟨h4, h5⟩
    · have hsp := spec_ShareSet_at s t q j (j + 1) hv hs4 hj (.inr rfl) (by omega) h1 (fun i hi hji => h2 i hi (by omega)) (fun _ _ => h5)
      refine ⟨_, hsp, ?_, hend (j + 1) (.inr rfl) (by omega) _⟩
      unfold impl_ShareSet
      rw [impl_SharesOk_spec s h, spec_SharesOk_eq s h, hv]
      simp only [Option.bind_some, Bool.not_true, Bool.false_eq_true, if_false, if_true, copyShares_eq s h, h4, idx_nat s.List j hjl, Int.toNat_natCast, bindC_go]
      have hset : s.List.set j { Tenant := t, Quota := q } = s.List.take j ++ ({ Tenant := t, Quota := q } :: s.List.drop (j + 1)) := by rw [List.set_eq_take_append_cons_drop, if_pos hjl]
      have hrl : (s.List.take j ++ ({ Tenant := t, Quota := q } :: s.List.drop (j + 1)) : List Share).length ≤ 1048576 := by simp; omega
      rw [hset, impl_SharesOk_spec _ hrl, spec_SharesOk_eq _ hrl]
      simp only [Option.bind_some]
      cases sharesV { Size := s.Size, List := s.List.take j ++ ({ Tenant := t, Quota := q } :: s.List.drop (j + 1)) } <;> rfl
    · have hsp := spec_ShareSet_at s t q j j hv hs4 hj (.inl rfl) hj h1 h5 (fun e => by omega)
      refine ⟨_, hsp, ?_, hend j (.inl rfl) hj _⟩
      unfold impl_ShareSet
      rw [impl_SharesOk_spec s h, spec_SharesOk_eq s h, hv]
      simp only [Option.bind_some, Bool.not_true, Bool.false_eq_true, if_false, copyShares_eq s h, h4, insShares_eq s.List _ j hj h, bindC_go]
      have hrl : (s.List.take j ++ ({ Tenant := t, Quota := q } :: s.List.drop j) : List Share).length ≤ 1048576 := by simp; omega
      rw [impl_SharesOk_spec _ hrl, spec_SharesOk_eq _ hrl]
      simp only [Option.bind_some]
      cases sharesV { Size := s.Size, List := s.List.take j ++ ({ Tenant := t, Quota := q } :: s.List.drop j) } <;> rfl
  · have hv' : sharesV s = false := by simpa using hv
    refine ⟨({ Size := 0, List := [] }, false), ?_, ?_, by simp⟩
    · unfold spec_ShareSet
      rw [spec_SharesOk_eq s h, hv']
      rfl
    · unfold impl_ShareSet
      rw [impl_SharesOk_spec s h, spec_SharesOk_eq s h, hv']
      rfl
theorem sLt_asymm {a b : List UInt8} (h : sLt a b = true) : sLt b a = false := by
  have := sLt_compl a b
  rw [h] at this
  simp only [Bool.not_true, Bool.or_eq_false_iff] at this
  exact this.1
theorem sLt_same {a b : List UInt8} (h1 : sLt a b = false) (h2 : sLt b a = false) : a = b := by
  have := sLt_compl a b
  rw [h1, h2] at this
  have h : decide (b = a) = true := by simpa using this
  exact (of_decide_eq_true h).symm
theorem half_eq {a : Int} (h0 : 0 ≤ a) (h1 : a ≤ 4611686018427387904) : IntKind.i64.wrap (ishr .u64 (IntKind.u64.wrap (IntKind.i64.wrap a)) (1 : Int)) = a / 2 := by
  have hu : IntKind.u64.wrap a = a := by simp [IntKind.wrap, IntKind.bits, IntKind.signed]; omega
  have hs : ishr .u64 a (1 : Int) = a / 2 := by
    unfold ishr
    show a.fdiv (2 ^ 1) = a / 2
    rw [Int.fdiv_eq_ediv_of_nonneg a (by decide)]
    rfl
  rw [wrap_ok (n := a) (by omega) (by omega), hu, hs, wrap_ok (by omega) (by omega)]
theorem bisect {α ρ : Type} (x : List α) (cf : α → Option Int) (c : α → Int) (hcf : ∀ e ∈ x, cf e = some (c e)) (hx : x.length ≤ 1048576) :
    ∃ j, j ≤ x.length ∧ loopO (ρ := Ctl Int ρ) (fun (S2 : Int × Int) => if (decide (S2.1 < S2.2)) = true then ((idx x (IntKind.i64.wrap (ishr .u64 (IntKind.u64.wrap (IntKind.i64.wrap (S2.1 + S2.2))) (1 : Int)))).bind fun E7 =>
  (cf E7).bind fun R9 =>
  bindC (if (decide (R9 < (0 : Int))) = true then (some (.go (IntKind.i64.wrap (IntKind.i64.wrap (ishr .u64 (IntKind.u64.wrap (IntKind.i64.wrap (S2.1 + S2.2))) (1 : Int)) + (1 : Int)), S2.2)))
  else (some (.go (S2.1, IntKind.i64.wrap (ishr .u64 (IntKind.u64.wrap (IntKind.i64.wrap (S2.1 + S2.2))) (1 : Int))))))
  (fun (T12 : Int × Int) => some (.go (T12.1, T12.2))))
  else (some (.done (.go S2.1)))) ((0 : Int), ((x.length : Nat) : Int)) = some (.go (j : Int)) ∧ (∀ i (hi : i < x.length), i + 1 = j → c x[i] < 0) ∧ (∀ hj : j < x.length, 0 ≤ c x[j]) := by
  obtain ⟨r, hr, j, rfl, h1, h2, h3⟩ := loopO_total (ρ := Ctl Int ρ) (s0 := ((0 : Int), ((x.length : Nat) : Int))) (body := fun (S2 : Int × Int) => if (decide (S2.1 < S2.2)) = true then ((idx x (IntKind.i64.wrap (ishr .u64 (IntKind.u64.wrap (IntKind.i64.wrap (S2.1 + S2.2))) (1 : Int)))).bind fun E7 =>
  (cf E7).bind fun R9 =>
  bindC (if (decide (R9 < (0 : Int))) = true then (some (.go (IntKind.i64.wrap (IntKind.i64.wrap (ishr .u64 (IntKind.u64.wrap (IntKind.i64.wrap (S2.1 + S2.2))) (1 : Int)) + (1 : Int)), S2.2)))
  else (some (.go (S2.1, IntKind.i64.wrap (ishr .u64 (IntKind.u64.wrap (IntKind.i64.wrap (S2.1 + S2.2))) (1 : Int))))))
  (fun (T12 : Int × Int) => some (.go (T12.1, T12.2))))
  else (some (.done (.go S2.1))))
    (fun k s => ∃ a b : Nat, s = ((a : Int), (b : Int)) ∧ a ≤ b ∧ b ≤ x.length ∧ b - a + k ≤ x.length ∧ (∀ i (hi : i < x.length), i + 1 = a → c x[i] < 0) ∧ (∀ hj : b < x.length, 0 ≤ c x[b])) x.length
    (fun r => ∃ j : Nat, r = .go (j : Int) ∧ j ≤ x.length ∧ (∀ i (hi : i < x.length), i + 1 = j → c x[i] < 0) ∧ (∀ hj : j < x.length, 0 ≤ c x[j]))
    ⟨0, x.length, rfl, Nat.zero_le _, Nat.le_refl _, by omega, fun i hi h => by omega, fun h => by omega⟩ (by
      rintro k s hk ⟨a, b, rfl, hab, hb, hd, h1, h2⟩
      by_cases hlt : a < b
      · left
        have hm : ((a : Int) + (b : Int)) / 2 = (((a + b) / 2 : Nat) : Int) := by omega
        have hmx : (a + b) / 2 < x.length := by omega
        simp only [half_eq (a := (a : Int) + (b : Int)) (by omega) (by omega), hm, idx_nat x _ hmx, Option.bind_some, hcf _ (List.getElem_mem hmx)]
        rw [if_pos (by simpa using hlt)]
        by_cases hc : c x[(a + b) / 2] < 0
        · rw [if_pos (by simpa using hc), wrap_ok (by omega) (by omega)]
          refine ⟨_, rfl, (a + b) / 2 + 1, b, rfl, by omega, hb, by omega, fun i hi h => ?_, h2⟩
          obtain rfl : i = (a + b) / 2 := by omega
          exact hc
        · rw [if_neg (by simpa using hc)]
          exact ⟨_, rfl, a, (a + b) / 2, rfl, by omega, by omega, by omega, h1, fun _ => by omega⟩
      · right
        obtain rfl : a = b := by omega
        exact ⟨.go (a : Int), by simp, a, rfl, hb, h1, h2⟩) (by
      rintro s ⟨a, b, rfl, hab, hb, hd, h1, h2⟩
      obtain rfl : a = b := by omega
      exact ⟨.go (a : Int), by simp, a, rfl, hb, h1, h2⟩)
  exact ⟨j, h1, hr, h2, h3⟩
def opV (o : Op) : Bool := decide (1 ≤ (o.Key.length : Int) ∧ (o.Key.length : Int) ≤ 10) && (decide ((o.Val.length : Int) ≤ 16) && (!o.Del || decide (o.Val = [])))
theorem spec_l7Op_eq (o : Op) : spec_l7Op o = some (opV o) := by
  unfold spec_l7Op opV
  simp only [l1In_eq, Option.bind_some]
  by_cases h1 : 1 ≤ (o.Key.length : Int) ∧ (o.Key.length : Int) ≤ 10 <;> by_cases h3 : (o.Val.length : Int) ≤ 16 <;> cases h4 : o.Del <;>
    simp only [h1, h3, and_self, decide_true, decide_false, if_true, if_false, Option.bind_some, Bool.true_and, Bool.false_and, Bool.not_true, Bool.not_false, Bool.false_eq_true, Bool.true_or, Bool.false_or, Bool.and_true, Bool.and_false]
theorem impl_opOk_eq (o : Op) : ((impl_isKey o.Key).bind fun R11 => if (!R11) = true then (some true) else ((impl_isVal o.Del o.Val).bind fun R15 => some (!R15))) = some (!opV o) := by
  unfold impl_isKey impl_isVal opV
  simp only [inRange_eq, Option.bind_some]
  by_cases h1 : 1 ≤ (o.Key.length : Int) ∧ (o.Key.length : Int) ≤ 10 <;> by_cases h3 : (o.Val.length : Int) ≤ 16 <;> cases h4 : o.Del <;>
    simp only [h1, h3, and_self, decide_true, decide_false, if_true, if_false, Option.bind_some, Bool.true_and, Bool.false_and, Bool.not_true, Bool.not_false, Bool.false_eq_true, Bool.true_or, Bool.false_or, Bool.and_true, Bool.and_false, Bool.not_not]
def batchV (l : List Op) : Bool := decide (1 ≤ l.length ∧ l.length ≤ 6) && l.all opV
theorem batchI (l : List Op) : decide (1 ≤ ((l.length : Nat) : Int) ∧ ((l.length : Nat) : Int) ≤ 6) = decide (1 ≤ l.length ∧ l.length ≤ 6) := decide_eq_decide.2 (by omega)
theorem spec_BatchOk_eq (l : List Op) (h : l.length ≤ 1048576) : spec_BatchOk l = some (batchV l) := by
  unfold spec_BatchOk batchV
  simp only [l1In_eq, Option.bind_some, batchI]
  by_cases h6 : 1 ≤ l.length ∧ l.length ≤ 6
  · rw [decide_eq_true h6]
    simp only [Bool.not_true, Bool.false_eq_true, if_false, Bool.true_and]
    rw [loopO_is (fun k s => s = (k : Int) ∧ l.all opV = (l.drop k).all opV) l.length (if l.all opV = true then Ctl.go () else Ctl.done false) ?h0 ?h1 ?h2]
    · cases l.all opV <;> rfl
    case h0 => exact ⟨rfl, rfl⟩
    · rintro k s hk ⟨rfl, he⟩
      simp only [idx_nat l k hk, Option.bind_some, spec_l7Op_eq]
      rw [if_pos (by simpa using hk), wrap_ok (n := (k : Int) + 1) (by omega) (by omega), he, List.drop_eq_getElem_cons hk, List.all_cons]
      cases hc : opV l[k] with
      | false => right; rfl
      | true => left; exact ⟨(k : Int) + 1, rfl, by omega, by simp⟩
    · rintro s ⟨rfl, he⟩
      rw [he, List.drop_length]
      simp
  · rw [decide_eq_false h6]
    rfl
theorem impl_BatchOk_eq (l : List Op) (h : l.length ≤ 1048576) : impl_BatchOk l = some (batchV l) := by
  unfold impl_BatchOk batchV
  rw [loopO_is (fun k s => s = (k : Int) ∧ l.all opV = (l.drop k).all opV) l.length (if l.all opV = true then Ctl.go () else Ctl.done false) ?h0 ?h1 ?h2]
  · cases l.all opV with
    | false => simp
    | true => simp only [if_true, bindC_go, inRange_eq, Option.bind_some, batchI, Bool.and_true]
  case h0 => exact ⟨rfl, rfl⟩
  · rintro k s hk ⟨rfl, he⟩
    simp only [idx_nat l k hk, Option.bind_some, impl_opOk_eq]
    rw [if_pos (by simpa using hk), wrap_ok (n := (k : Int) + 1) (by omega) (by omega), he, List.drop_eq_getElem_cons hk, List.all_cons]
    cases hc : opV l[k] with
    | false => right; rfl
    | true => left; exact ⟨(k : Int) + 1, rfl, by omega, by simp⟩
  · rintro s ⟨rfl, he⟩
    rw [he, List.drop_length]
    simp
def laterV (l : List Op) (k : Nat) (key : List UInt8) : Bool := (l.drop (k + 1)).any fun x => decide (x.Key = key)
/-! words of bits -/
theorem iand64 {a b : Nat} (ha : a < 2 ^ 63) (hb : b < 2 ^ 63) : iand .i64 (a : Int) (b : Int) = ((a &&& b : Nat) : Int) := by
  unfold iand
  have h1 : a &&& b ≤ a := Nat.and_le_left
  have e : (BitVec.ofInt IntKind.i64.bits (a : Int) &&& BitVec.ofInt IntKind.i64.bits (b : Int)).toNat = a &&& b := by
    show (BitVec.ofInt 64 (a : Int) &&& BitVec.ofInt 64 (b : Int)).toNat = a &&& b
    rw [BitVec.ofInt_natCast, BitVec.ofInt_natCast, BitVec.toNat_and, BitVec.toNat_ofNat, BitVec.toNat_ofNat, Nat.mod_eq_of_lt (by omega), Nat.mod_eq_of_lt (by omega)]
  rw [e]
  exact wrap_ok (by omega) (by omega)
theorem ior64 {a b : Nat} (ha : a < 2 ^ 63) (hb : b < 2 ^ 63) : ior .i64 (a : Int) (b : Int) = ((a ||| b : Nat) : Int) := by
  unfold ior
  have h1 : a ||| b < 2 ^ 63 := Nat.or_lt_two_pow ha hb
  have e : (BitVec.ofInt IntKind.i64.bits (a : Int) ||| BitVec.ofInt IntKind.i64.bits (b : Int)).toNat = a ||| b := by
    show (BitVec.ofInt 64 (a : Int) ||| BitVec.ofInt 64 (b : Int)).toNat = a ||| b
    rw [BitVec.ofInt_natCast, BitVec.ofInt_natCast, BitVec.toNat_or, BitVec.toNat_ofNat, BitVec.toNat_ofNat, Nat.mod_eq_of_lt (by omega), Nat.mod_eq_of_lt (by omega)]
  rw [e]
  exact wrap_ok (by omega) (by omega)
theorem ixor64 {a b : Nat} (ha : a < 2 ^ 63) (hb : b < 2 ^ 63) : ixor .i64 (a : Int) (b : Int) = ((a ^^^ b : Nat) : Int) := by
  unfold ixor
  have h1 : a ^^^ b < 2 ^ 63 := Nat.xor_lt_two_pow ha hb
  have e : (BitVec.ofInt IntKind.i64.bits (a : Int) ^^^ BitVec.ofInt IntKind.i64.bits (b : Int)).toNat = a ^^^ b := by
    show (BitVec.ofInt 64 (a : Int) ^^^ BitVec.ofInt 64 (b : Int)).toNat = a ^^^ b
    rw [BitVec.ofInt_natCast, BitVec.ofInt_natCast, BitVec.toNat_xor, BitVec.toNat_ofNat, BitVec.toNat_ofNat, Nat.mod_eq_of_lt (by omega), Nat.mod_eq_of_lt (by omega)]
  rw [e]
  exact wrap_ok (by omega) (by omega)
theorem wrap32 (n : Int) : IntKind.u32.wrap n = n % 4294967296 := by simp [IntKind.wrap, IntKind.bits, IntKind.signed]
theorem wrap64u (n : Int) : IntKind.u64.wrap n = n % 18446744073709551616 := by simp [IntKind.wrap, IntKind.bits, IntKind.signed]
theorem ior32 {a b : Nat} (ha : a < 2 ^ 32) (hb : b < 2 ^ 32) : ior .u32 (a : Int) (b : Int) = ((a ||| b : Nat) : Int) := by
  unfold ior
  have h1 : a ||| b < 2 ^ 32 := Nat.or_lt_two_pow ha hb
  have e : (BitVec.ofInt IntKind.u32.bits (a : Int) ||| BitVec.ofInt IntKind.u32.bits (b : Int)).toNat = a ||| b := by
    show (BitVec.ofInt 32 (a : Int) ||| BitVec.ofInt 32 (b : Int)).toNat = a ||| b
    rw [BitVec.ofInt_natCast, BitVec.ofInt_natCast, BitVec.toNat_or, BitVec.toNat_ofNat, BitVec.toNat_ofNat, Nat.mod_eq_of_lt (by omega), Nat.mod_eq_of_lt (by omega)]
  rw [e, wrap32]
  omega
theorem ixor32 {a b : Nat} (ha : a < 2 ^ 32) (hb : b < 2 ^ 32) : ixor .u32 (a : Int) (b : Int) = ((a ^^^ b : Nat) : Int) := by
  unfold ixor
  have h1 : a ^^^ b < 2 ^ 32 := Nat.xor_lt_two_pow ha hb
  have e : (BitVec.ofInt IntKind.u32.bits (a : Int) ^^^ BitVec.ofInt IntKind.u32.bits (b : Int)).toNat = a ^^^ b := by
    show (BitVec.ofInt 32 (a : Int) ^^^ BitVec.ofInt 32 (b : Int)).toNat = a ^^^ b
    rw [BitVec.ofInt_natCast, BitVec.ofInt_natCast, BitVec.toNat_xor, BitVec.toNat_ofNat, BitVec.toNat_ofNat, Nat.mod_eq_of_lt (by omega), Nat.mod_eq_of_lt (by omega)]
  rw [e, wrap32]
  omega
theorem iand8 {a b : Nat} (ha : a < 2 ^ 8) (hb : b < 2 ^ 8) : iand .u8 (a : Int) (b : Int) = ((a &&& b : Nat) : Int) := by
  unfold iand
  have h1 : a &&& b ≤ a := Nat.and_le_left
  have e : (BitVec.ofInt IntKind.u8.bits (a : Int) &&& BitVec.ofInt IntKind.u8.bits (b : Int)).toNat = a &&& b := by
    show (BitVec.ofInt 8 (a : Int) &&& BitVec.ofInt 8 (b : Int)).toNat = a &&& b
    rw [BitVec.ofInt_natCast, BitVec.ofInt_natCast, BitVec.toNat_and, BitVec.toNat_ofNat, BitVec.toNat_ofNat, Nat.mod_eq_of_lt (by omega), Nat.mod_eq_of_lt (by omega)]
  rw [e]
  simp [IntKind.wrap, IntKind.bits, IntKind.signed]
  omega
theorem ishr_nat {k : IntKind} {a n : Nat} (hn : n ≤ k.bits) : ishr k (a : Int) (n : Int) = ((a / 2 ^ n : Nat) : Int) := by
  unfold ishr
  rw [Int.toNat_natCast, Nat.min_eq_left hn, Int.fdiv_eq_ediv_of_nonneg _ (by exact_mod_cast Nat.zero_le _)]
  norm_cast
theorem ishl64 {a n : Nat} (hn : n ≤ 64) (h : a * 2 ^ n < 2 ^ 63) : ishl .i64 (a : Int) (n : Int) = ((a * 2 ^ n : Nat) : Int) := by
  unfold ishl
  have hb : IntKind.i64.bits = 64 := rfl
  rw [Int.toNat_natCast, hb, Nat.min_eq_left hn]
  have e : (a : Int) * 2 ^ n = ((a * 2 ^ n : Nat) : Int) := by norm_cast
  rw [e]
  exact wrap_ok (by omega) (by omega)
theorem ishl32 {a n : Nat} (hn : n ≤ 32) : ishl .u32 (a : Int) (n : Int) = ((a * 2 ^ n % 4294967296 : Nat) : Int) := by
  unfold ishl
  have hb : IntKind.u32.bits = 32 := rfl
  have e : (a : Int) * 2 ^ n = ((a * 2 ^ n : Nat) : Int) := by norm_cast
  rw [Int.toNat_natCast, hb, Nat.min_eq_left hn, wrap32, e]
  generalize a * 2 ^ n = z
  omega
theorem l3Word_eq {x : Nat} (h : x < 2 ^ 63) : spec_l3Word (x : Int) = some ((x % 4294967296 : Nat) : Int) := by
  unfold spec_l3Word
  rw [show (4294967295 : Int) = ((4294967295 : Nat) : Int) from rfl, iand64 h (by decide), show x &&& 4294967295 = x % 4294967296 from Nat.and_two_pow_sub_one_eq_mod x 32]
def rotN (x n : Nat) : Nat := x * 2 ^ n % 4294967296 ||| x / 2 ^ (32 - n)
theorem rotN_lt {x n : Nat} (h : x < 4294967296) : rotN x n < 4294967296 := by
  unfold rotN
  refine Nat.or_lt_two_pow (n := 32) (Nat.mod_lt _ (by decide)) ?_
  exact Nat.lt_of_le_of_lt (Nat.div_le_self _ _) h
theorem l3Left_eq {x n : Nat} (h : x < 4294967296) (hn : n ≤ 16) : spec_l3Left (x : Int) (n : Int) = some (rotN x n : Int) := by
  unfold spec_l3Left nn
  have h1 : x * 2 ^ n < 2 ^ 63 := by
    have : 2 ^ n ≤ 2 ^ 16 := Nat.pow_le_pow_right (by decide) hn
    calc x * 2 ^ n ≤ x * 2 ^ 16 := Nat.mul_le_mul_left _ this
      _ < 2 ^ 63 := by omega
  have h2 : x / 2 ^ (32 - n) < 2 ^ 32 := Nat.lt_of_le_of_lt (Nat.div_le_self _ _) h
  have h3 : IntKind.u64.wrap ((32 : Int) - (n : Int)) = ((32 - n : Nat) : Int) := by rw [wrap64u]; omega
  rw [if_neg (by omega), h3, ishl64 (by omega) h1, ishr_nat (by show 32 - n ≤ 64; omega), ior64 h1 (by omega)]
  simp only [Option.bind_some]
  rw [l3Word_eq (Nat.or_lt_two_pow h1 (by omega))]
  simp only [Option.bind_some]
  unfold rotN
  rw [show (4294967296 : Nat) = 2 ^ 32 from rfl, Nat.or_mod_two_pow, Nat.mod_eq_of_lt h2]
theorem rot32_eq {x n : Nat} (h : x < 4294967296) (hn : n ≤ 16) : math_bits_RotateLeft32 (x : Int) (n : Int) = some (rotN x n : Int) := by
  unfold math_bits_RotateLeft32 nn
  have h0 : iand .u64 (IntKind.u64.wrap (n : Int)) (31 : Int) = (n : Int) := by
    have e : IntKind.u64.wrap (n : Int) = (n : Int) := by rw [wrap64u]; omega
    rw [e]
    unfold iand
    have e2 : (BitVec.ofInt IntKind.u64.bits (n : Int) &&& BitVec.ofInt IntKind.u64.bits (31 : Int)).toNat = n := by
      show (BitVec.ofInt 64 (n : Int) &&& BitVec.ofInt 64 ((31 : Nat) : Int)).toNat = n
      rw [BitVec.ofInt_natCast, BitVec.ofInt_natCast, BitVec.toNat_and, BitVec.toNat_ofNat, BitVec.toNat_ofNat, Nat.mod_eq_of_lt (by omega), Nat.mod_eq_of_lt (by omega)]
      rw [show n &&& 31 = n % 32 from Nat.and_two_pow_sub_one_eq_mod n 5]
      omega
    rw [e2, wrap64u]
    omega
  have h2 : x / 2 ^ (32 - n) < 2 ^ 32 := Nat.lt_of_le_of_lt (Nat.div_le_self _ _) h
  have h3 : IntKind.u64.wrap ((32 : Int) - (n : Int)) = ((32 - n : Nat) : Int) := by rw [wrap64u]; omega
  rw [h0, if_neg (by omega), h3, ishl32 (by omega), ishr_nat (by show 32 - n ≤ 32; omega), ior32 (Nat.mod_lt _ (by decide)) h2]
  rfl
theorem ior_same {p q : Int} (hp : 0 ≤ p ∧ p < 4294967296) (hq : 0 ≤ q ∧ q < 4294967296) : ior .u32 p q = ior .i64 p q ∧ 0 ≤ ior .i64 p q ∧ ior .i64 p q < 4294967296 := by
  have e1 : p = (p.toNat : Int) := by omega
  have e2 : q = (q.toNat : Int) := by omega
  have h1 : p.toNat < 2 ^ 32 := by omega
  have h2 : q.toNat < 2 ^ 32 := by omega
  have h3 := Nat.or_lt_two_pow h1 h2
  rw [e1, e2, ior32 h1 h2, ior64 (by omega) (by omega)]
  generalize p.toNat ||| q.toNat = z at h3
  exact ⟨rfl, by omega, by omega⟩
theorem ishl_same (x : UInt8) (n : Nat) (hn : n ≤ 24) : ishl .u32 (IntKind.u32.wrap ((x.toNat : Nat) : Int)) (n : Int) = ishl .i64 (IntKind.i64.wrap ((x.toNat : Nat) : Int)) (n : Int) ∧ 0 ≤ ishl .i64 (IntKind.i64.wrap ((x.toNat : Nat) : Int)) (n : Int) ∧ ishl .i64 (IntKind.i64.wrap ((x.toNat : Nat) : Int)) (n : Int) < 4294967296 := by
  have hx := x.toNat_lt
  have w1 : IntKind.u32.wrap ((x.toNat : Nat) : Int) = ((x.toNat : Nat) : Int) := by rw [wrap32]; omega
  have w2 : IntKind.i64.wrap ((x.toNat : Nat) : Int) = ((x.toNat : Nat) : Int) := wrap_ok (by omega) (by omega)
  have hp : 2 ^ n ≤ 2 ^ 24 := Nat.pow_le_pow_right (by decide) hn
  have hm : x.toNat * 2 ^ n ≤ x.toNat * 2 ^ 24 := Nat.mul_le_mul_left _ hp
  rw [w1, w2, ishl32 (by omega), ishl64 (by omega) (by omega)]
  generalize x.toNat * 2 ^ n = z at hm
  have hz : z < 4294967296 := by omega
  rw [Nat.mod_eq_of_lt hz]
  exact ⟨rfl, by omega, by omega⟩
theorem ishl_samei (x : UInt8) (n : Int) (hn : 0 ≤ n ∧ n ≤ 24) : ishl .u32 (IntKind.u32.wrap ((x.toNat : Nat) : Int)) n = ishl .i64 (IntKind.i64.wrap ((x.toNat : Nat) : Int)) n ∧ 0 ≤ ishl .i64 (IntKind.i64.wrap ((x.toNat : Nat) : Int)) n ∧ ishl .i64 (IntKind.i64.wrap ((x.toNat : Nat) : Int)) n < 4294967296 := by
  have e : n = (n.toNat : Int) := by omega
  rw [e]
  exact ishl_same x n.toNat (by omega)
theorem bind_same {α β : Type} {x : Option α} {f g : α → Option β} (h : ∀ a, f a = g a) : x.bind f = x.bind g := by
  cases x with
  | none => rfl
  | some a => exact h a
theorem little_val (a b c d : UInt8) : ior .u32 (ior .u32 (ior .u32 (IntKind.u32.wrap ((a.toNat : Nat) : Int)) (ishl .u32 (IntKind.u32.wrap ((b.toNat : Nat) : Int)) (8 : Int))) (ishl .u32 (IntKind.u32.wrap ((c.toNat : Nat) : Int)) (16 : Int))) (ishl .u32 (IntKind.u32.wrap ((d.toNat : Nat) : Int)) (24 : Int)) =
      ior .i64 (ior .i64 (ior .i64 (IntKind.i64.wrap ((a.toNat : Nat) : Int)) (ishl .i64 (IntKind.i64.wrap ((b.toNat : Nat) : Int)) (8 : Int))) (ishl .i64 (IntKind.i64.wrap ((c.toNat : Nat) : Int)) (16 : Int))) (ishl .i64 (IntKind.i64.wrap ((d.toNat : Nat) : Int)) (24 : Int)) ∧
      0 ≤ ior .i64 (ior .i64 (ior .i64 (IntKind.i64.wrap ((a.toNat : Nat) : Int)) (ishl .i64 (IntKind.i64.wrap ((b.toNat : Nat) : Int)) (8 : Int))) (ishl .i64 (IntKind.i64.wrap ((c.toNat : Nat) : Int)) (16 : Int))) (ishl .i64 (IntKind.i64.wrap ((d.toNat : Nat) : Int)) (24 : Int)) ∧
      ior .i64 (ior .i64 (ior .i64 (IntKind.i64.wrap ((a.toNat : Nat) : Int)) (ishl .i64 (IntKind.i64.wrap ((b.toNat : Nat) : Int)) (8 : Int))) (ishl .i64 (IntKind.i64.wrap ((c.toNat : Nat) : Int)) (16 : Int))) (ishl .i64 (IntKind.i64.wrap ((d.toNat : Nat) : Int)) (24 : Int)) < 4294967296 := by
  have ha := a.toNat_lt
  have a1 : IntKind.u32.wrap ((a.toNat : Nat) : Int) = IntKind.i64.wrap ((a.toNat : Nat) : Int) := by rw [wrap32, wrap_ok (by omega) (by omega)]; omega
  have a2 : 0 ≤ IntKind.i64.wrap ((a.toNat : Nat) : Int) ∧ IntKind.i64.wrap ((a.toNat : Nat) : Int) < 4294967296 := by rw [wrap_ok (by omega) (by omega)]; omega
  obtain ⟨b1, b2⟩ := ishl_samei b 8 (by omega)
  obtain ⟨c1, c2⟩ := ishl_samei c 16 (by omega)
  obtain ⟨d1, d2⟩ := ishl_samei d 24 (by omega)
  obtain ⟨o1, o2⟩ := ior_same a2 b2
  obtain ⟨p1, p2⟩ := ior_same o2 c2
  obtain ⟨q1, q2⟩ := ior_same p2 d2
  refine ⟨?_, q2⟩
  rw [a1, b1, c1, d1, o1, p1, q1]
theorem little_eq (s : List UInt8) (at_ : Int) : impl_little s at_ = spec_l3Little s at_ := by
  unfold impl_little spec_l3Little
  exact bind_same fun a => bind_same fun b => bind_same fun c => bind_same fun d => congrArg some (little_val a b c d).1
theorem little_range (s : List UInt8) (at_ r : Int) (h : spec_l3Little s at_ = some r) : 0 ≤ r ∧ r < 4294967296 := by
  unfold spec_l3Little at h
  obtain ⟨a, _, h⟩ := Option.bind_eq_some_iff.1 h
  obtain ⟨b, _, h⟩ := Option.bind_eq_some_iff.1 h
  obtain ⟨c, _, h⟩ := Option.bind_eq_some_iff.1 h
  obtain ⟨d, _, h⟩ := Option.bind_eq_some_iff.1 h
  rw [← Option.some.inj h]
  exact (little_val a b c d).2
theorem sidx_nat (s : List UInt8) (i : Nat) (h : i < s.length) : sidx s (i : Int) = some s[i] := by
  unfold sidx
  rw [if_pos (by omega), Int.toNat_natCast, List.getElem?_eq_getElem h]
theorem little_some (s : List UInt8) (i : Nat) (h : i + 3 < s.length) (hs : s.length ≤ 1048576) : ∃ n : Nat, spec_l3Little s (i : Int) = some (n : Int) ∧ impl_little s (i : Int) = some (n : Int) ∧ n < 4294967296 := by
  have h1 := little_eq s (i : Int)
  have h2 := little_range s (i : Int)
  have hs' : ∃ r, spec_l3Little s (i : Int) = some r := by
    unfold spec_l3Little
    have w : ∀ d : Nat, d ≤ 3 → IntKind.i64.wrap ((i : Int) + (d : Int)) = ((i + d : Nat) : Int) := fun d hd => by rw [wrap_ok (by omega) (by omega)]; omega
    have w1 : IntKind.i64.wrap ((i : Int) + (1 : Int)) = ((i + 1 : Nat) : Int) := w 1 (by omega)
    have w2 : IntKind.i64.wrap ((i : Int) + (2 : Int)) = ((i + 2 : Nat) : Int) := w 2 (by omega)
    have w3 : IntKind.i64.wrap ((i : Int) + (3 : Int)) = ((i + 3 : Nat) : Int) := w 3 (by omega)
    rw [w1, w2, w3, sidx_nat s i (by omega), sidx_nat s (i + 1) (by omega), sidx_nat s (i + 2) (by omega), sidx_nat s (i + 3) (by omega)]
    exact ⟨_, rfl⟩
  obtain ⟨r, hr⟩ := hs'
  obtain ⟨p, q⟩ := h2 r hr
  refine ⟨r.toNat, ?_, ?_, by omega⟩
  · rw [hr]; congr 1; omega
  · rw [h1, hr]; congr 1; omega
def okW (l : List Wrd) : Prop := ∀ x ∈ l, 0 ≤ x.v ∧ x.v < 4294967296
theorem okW_set {l : List Wrd} {i : Nat} {x : Wrd} (h : okW l) (hx : 0 ≤ x.v ∧ x.v < 4294967296) : okW (l.set i x) := by
  intro y hy
  rcases List.mem_or_eq_of_mem_set hy with h1 | h1
  · exact h y h1
  · rw [h1]; exact hx
noncomputable def qi (l : List Wrd) (x y z : Int) (r : Int) : Option (List Wrd) :=
  (idx l x).bind fun E1 => (idx l y).bind fun E3 => (idx (l.set x.toNat (Wrd.mk (IntKind.u32.wrap (E1.v + E3.v)))) z).bind fun E7 => (idx (l.set x.toNat (Wrd.mk (IntKind.u32.wrap (E1.v + E3.v)))) x).bind fun E9 =>
  (math_bits_RotateLeft32 (ixor .u32 E7.v E9.v) r).bind fun R11 => some ((l.set x.toNat (Wrd.mk (IntKind.u32.wrap (E1.v + E3.v)))).set z.toNat (Wrd.mk R11))
noncomputable def qs (l : List Int) (x y z : Int) (r : Int) : Option (List Int) :=
  (idx l x).bind fun E1 => (idx l y).bind fun E3 => (spec_l3Word (IntKind.i64.wrap (E1 + E3))).bind fun R5 => (idx (l.set x.toNat R5) z).bind fun E10 => (idx (l.set x.toNat R5) x).bind fun E12 =>
  (spec_l3Left (ixor .i64 E10 E12) r).bind fun R14 => some ((l.set x.toNat R5).set z.toNat R14)
theorem impl_quarter_steps (l : List Wrd) (a b c d : Int) : impl_quarter l a b c d = (qi l a b d 16).bind fun l2 => (qi l2 c d b 12).bind fun l3 => (qi l3 a b d 8).bind fun l4 => qi l4 c d b 7 := by
  unfold impl_quarter qi
  simp only [Option.bind_assoc, Option.bind_some]
theorem spec_quarter_steps (l : List Int) (a b c d : Int) : spec_l3Quarter l a b c d = (qs l a b d 16).bind fun l2 => (qs l2 c d b 12).bind fun l3 => (qs l3 a b d 8).bind fun l4 => qs l4 c d b 7 := by
  unfold spec_l3Quarter qs
  simp only [Option.bind_assoc, Option.bind_some]
theorem okW_nat {l : List Wrd} (h : okW l) (k : Nat) (hk : k < l.length) : ∃ n : Nat, l[k].v = (n : Int) ∧ n < 4294967296 := by
  obtain ⟨h1, h2⟩ := h _ (List.getElem_mem hk)
  exact ⟨l[k].v.toNat, by omega, by omega⟩
theorem step_eq (l : List Wrd) (x y z r : Nat) (hl : l.length = 16) (hw : okW l) (hx : x < 16) (hy : y < 16) (hz : z < 16) (hr : r ≤ 16) :
    ∃ l', qi l (x : Int) (y : Int) (z : Int) (r : Int) = some l' ∧ qs (l.map Wrd.v) (x : Int) (y : Int) (z : Int) (r : Int) = some (l'.map Wrd.v) ∧ l'.length = 16 ∧ okW l' := by
  obtain ⟨nx, ex, hnx⟩ := okW_nat hw x (by omega)
  obtain ⟨ny, ey, hny⟩ := okW_nat hw y (by omega)
  have hsum : IntKind.u32.wrap ((nx : Int) + (ny : Int)) = (((nx + ny) % 4294967296 : Nat) : Int) := by rw [wrap32]; omega
  have hlt : (nx + ny) % 4294967296 < 4294967296 := Nat.mod_lt _ (by decide)
  have hl1 : (l.set x (Wrd.mk (((nx + ny) % 4294967296 : Nat) : Int))).length = 16 := by rw [List.length_set]; exact hl
  have hw1 : okW (l.set x (Wrd.mk (((nx + ny) % 4294967296 : Nat) : Int))) := okW_set hw ⟨by show (0 : Int) ≤ (((nx + ny) % 4294967296 : Nat) : Int); omega, by show (((nx + ny) % 4294967296 : Nat) : Int) < _; omega⟩
  obtain ⟨nz, ez, hnz⟩ := okW_nat hw1 z (by omega)
  obtain ⟨nw, ew, hnw⟩ := okW_nat hw1 x (by omega)
  have hxor := Nat.xor_lt_two_pow (n := 32) hnz hnw
  have hrl := rotN_lt (n := r) (show nz ^^^ nw < 4294967296 from hxor)
  refine ⟨(l.set x (Wrd.mk (((nx + ny) % 4294967296 : Nat) : Int))).set z (Wrd.mk (rotN (nz ^^^ nw) r : Int)), ?_, ?_, by rw [List.length_set]; exact hl1, okW_set hw1 ⟨by show (0 : Int) ≤ (rotN (nz ^^^ nw) r : Int); omega, by show (rotN (nz ^^^ nw) r : Int) < _; omega⟩⟩
  · unfold qi
    simp only [idx_nat l x (by omega), idx_nat l y (by omega), Option.bind_some, ex, ey, hsum, Int.toNat_natCast, idx_nat _ z (by omega : z < (l.set x (Wrd.mk (((nx + ny) % 4294967296 : Nat) : Int))).length), idx_nat _ x (by omega : x < (l.set x (Wrd.mk (((nx + ny) % 4294967296 : Nat) : Int))).length), ez, ew, ixor32 hnz hnw, rot32_eq hxor hr]
  · unfold qs
    have m1 : idx (l.map Wrd.v) (x : Int) = some (nx : Int) := by rw [idx_nat _ x (by simp; omega)]; simp [ex]
    have m2 : idx (l.map Wrd.v) (y : Int) = some (ny : Int) := by rw [idx_nat _ y (by simp; omega)]; simp [ey]
    have m3 : IntKind.i64.wrap ((nx : Int) + (ny : Int)) = ((nx + ny : Nat) : Int) := by rw [wrap_ok (by omega) (by omega)]; omega
    have m4 : (l.map Wrd.v).set x (((nx + ny) % 4294967296 : Nat) : Int) = (l.set x (Wrd.mk (((nx + ny) % 4294967296 : Nat) : Int))).map Wrd.v := by rw [List.map_set]
    simp only [m1, m2, Option.bind_some, m3, l3Word_eq (show nx + ny < 2 ^ 63 by omega), Int.toNat_natCast, m4]
    have m5 : idx ((l.set x (Wrd.mk (((nx + ny) % 4294967296 : Nat) : Int))).map Wrd.v) (z : Int) = some (nz : Int) := by rw [idx_nat _ z (by simp; omega)]; simp only [List.getElem_map, ez]
    have m6 : idx ((l.set x (Wrd.mk (((nx + ny) % 4294967296 : Nat) : Int))).map Wrd.v) (x : Int) = some (nw : Int) := by rw [idx_nat _ x (by simp; omega)]; simp only [List.getElem_map, ew]
    simp only [m5, m6, Option.bind_some, ixor64 (show nz < 2 ^ 63 by omega) (show nw < 2 ^ 63 by omega), l3Left_eq hxor hr]
    exact congrArg some List.map_set.symm
theorem quarter_eq (l : List Wrd) (a b c d : Nat) (hl : l.length = 16) (hw : okW l) (ha : a < 16) (hb : b < 16) (hc : c < 16) (hd : d < 16) :
    ∃ l', impl_quarter l (a : Int) (b : Int) (c : Int) (d : Int) = some l' ∧ spec_l3Quarter (l.map Wrd.v) (a : Int) (b : Int) (c : Int) (d : Int) = some (l'.map Wrd.v) ∧ l'.length = 16 ∧ okW l' := by
  obtain ⟨l1, p1, q1, r1, w1⟩ := step_eq l a b d 16 hl hw ha hb hd (by omega)
  obtain ⟨l2, p2, q2, r2, w2⟩ := step_eq l1 c d b 12 r1 w1 hc hd hb (by omega)
  obtain ⟨l3, p3, q3, r3, w3⟩ := step_eq l2 a b d 8 r2 w2 ha hb hd (by omega)
  obtain ⟨l4, p4, q4, r4, w4⟩ := step_eq l3 c d b 7 r3 w3 hc hd hb (by omega)
  refine ⟨l4, ?_, ?_, r4, w4⟩
  · rw [impl_quarter_steps, show (16 : Int) = ((16 : Nat) : Int) from rfl, p1]
    simp only [Option.bind_some]
    rw [show (12 : Int) = ((12 : Nat) : Int) from rfl, p2]
    simp only [Option.bind_some]
    rw [show (8 : Int) = ((8 : Nat) : Int) from rfl, p3]
    simp only [Option.bind_some]
    exact p4
  · rw [spec_quarter_steps, show (16 : Int) = ((16 : Nat) : Int) from rfl, q1]
    simp only [Option.bind_some]
    rw [show (12 : Int) = ((12 : Nat) : Int) from rfl, q2]
    simp only [Option.bind_some]
    rw [show (8 : Int) = ((8 : Nat) : Int) from rfl, q3]
    simp only [Option.bind_some]
    exact q4
def goodW (l : List Wrd) : Prop := l.length = 16 ∧ okW l
noncomputable def qv (l : List Wrd) (a b c d : Nat) : List Wrd := (impl_quarter l (a : Int) (b : Int) (c : Int) (d : Int)).getD []
theorem qv_ok {l : List Wrd} (h : goodW l) (a b c d : Nat) (ha : a < 16) (hb : b < 16) (hc : c < 16) (hd : d < 16) :
    impl_quarter l (a : Int) (b : Int) (c : Int) (d : Int) = some (qv l a b c d) ∧ spec_l3Quarter (l.map Wrd.v) (a : Int) (b : Int) (c : Int) (d : Int) = some ((qv l a b c d).map Wrd.v) ∧ goodW (qv l a b c d) := by
  obtain ⟨l', h1, h2, h3, h4⟩ := quarter_eq l a b c d h.1 h.2 ha hb hc hd
  unfold qv
  rw [h1, h2]
  exact ⟨rfl, rfl, h3, h4⟩
noncomputable def colW (l : List Wrd) : Nat → List Wrd
  | 0 => l
  | k + 1 => qv (colW l k) k (4 + k) (8 + k) (12 + k)
noncomputable def diagW (l : List Wrd) : Nat → List Wrd
  | 0 => l
  | k + 1 => qv (diagW l k) k (4 + (k + 1) % 4) (8 + (k + 2) % 4) (12 + (k + 3) % 4)
noncomputable def roundW (l : List Wrd) : List Wrd := diagW (colW l 4) 4
noncomputable def roundsW (l : List Wrd) : Nat → List Wrd
  | 0 => l
  | k + 1 => roundW (roundsW l k)
theorem colW_good {l : List Wrd} (h : goodW l) : ∀ k, k ≤ 4 → goodW (colW l k)
  | 0, _ => h
  | k + 1, hk => (qv_ok (colW_good h k (by omega)) k (4 + k) (8 + k) (12 + k) (by omega) (by omega) (by omega) (by omega)).2.2
theorem diagW_good {l : List Wrd} (h : goodW l) : ∀ k, k ≤ 4 → goodW (diagW l k)
  | 0, _ => h
  | k + 1, hk => (qv_ok (diagW_good h k (by omega)) k (4 + (k + 1) % 4) (8 + (k + 2) % 4) (12 + (k + 3) % 4) (by omega) (by omega) (by omega) (by omega)).2.2
theorem roundW_good {l : List Wrd} (h : goodW l) : goodW (roundW l) := diagW_good (colW_good h 4 (by omega)) 4 (by omega)
theorem roundsW_good {l : List Wrd} (h : goodW l) : ∀ k, goodW (roundsW l k)
  | 0 => h
  | k + 1 => roundW_good (roundsW_good h k)
theorem col_loop {ρ : Type} {l : List Wrd} (h : goodW l) : loopO (ρ := Ctl (List Wrd) ρ) (fun (S17 : Int × List Wrd) => if (decide (S17.1 < (4 : Int))) = true then ((impl_quarter S17.2 S17.1 (IntKind.i64.wrap ((4 : Int) + S17.1)) (IntKind.i64.wrap ((8 : Int) + S17.1)) (IntKind.i64.wrap ((12 : Int) + S17.1))).bind fun R22 =>
  some (.go (IntKind.i64.wrap (S17.1 + (1 : Int)), R22)))
  else (some (.done (.go S17.2))))
  ((0 : Int), l) = some (.go (colW l 4)) := by
  rw [loopO_count (fun k => ((k : Int), colW l k)) 4 (r := Ctl.go (colW l 4)) ?h0]
  case h0 => rfl
  · intro k hk
    have e4 : IntKind.i64.wrap ((4 : Int) + (k : Int)) = ((4 + k : Nat) : Int) := by rw [wrap_ok (by omega) (by omega)]; omega
    have e8 : IntKind.i64.wrap ((8 : Int) + (k : Int)) = ((8 + k : Nat) : Int) := by rw [wrap_ok (by omega) (by omega)]; omega
    have e12 : IntKind.i64.wrap ((12 : Int) + (k : Int)) = ((12 + k : Nat) : Int) := by rw [wrap_ok (by omega) (by omega)]; omega
    simp only [e4, e8, e12, (qv_ok (colW_good h k (by omega)) k (4 + k) (8 + k) (12 + k) (by omega) (by omega) (by omega) (by omega)).1, Option.bind_some]
    rw [if_pos (by simp only [decide_eq_true_eq]; omega), wrap_ok (by omega) (by omega)]
    rfl
  · simp
theorem diag_loop {ρ : Type} {l : List Wrd} (h : goodW l) : loopO (ρ := Ctl (List Wrd) ρ) (fun (S25 : Int × List Wrd) => if (decide (S25.1 < (4 : Int))) = true then ((impl_quarter S25.2 S25.1 (IntKind.i64.wrap ((4 : Int) + (Int.tmod (IntKind.i64.wrap (S25.1 + (1 : Int))) (4 : Int)))) (IntKind.i64.wrap ((8 : Int) + (Int.tmod (IntKind.i64.wrap (S25.1 + (2 : Int))) (4 : Int)))) (IntKind.i64.wrap ((12 : Int) + (Int.tmod (IntKind.i64.wrap (S25.1 + (3 : Int))) (4 : Int))))).bind fun R30 =>
  some (.go (IntKind.i64.wrap (S25.1 + (1 : Int)), R30)))
  else (some (.done (.go S25.2))))
  ((0 : Int), l) = some (.go (diagW l 4)) := by
  rw [loopO_count (fun k => ((k : Int), diagW l k)) 4 (r := Ctl.go (diagW l 4)) ?h0]
  case h0 => rfl
  · intro k hk
    have e : ∀ (a d : Nat), a ≤ 12 → d ≤ 3 → IntKind.i64.wrap ((a : Int) + (Int.tmod (IntKind.i64.wrap ((k : Int) + (d : Int))) (4 : Int))) = ((a + (k + d) % 4 : Nat) : Int) := by
      intro a d ha hd
      rw [wrap_ok (n := (k : Int) + (d : Int)) (by omega) (by omega), show (k : Int) + (d : Int) = ((k + d : Nat) : Int) by omega, show (4 : Int) = ((4 : Nat) : Int) from rfl, ← Int.ofNat_tmod, wrap_ok (by omega) (by omega)]
      omega
    have e4 : IntKind.i64.wrap ((4 : Int) + (Int.tmod (IntKind.i64.wrap ((k : Int) + (1 : Int))) (4 : Int))) = _ := e 4 1 (by omega) (by omega)
    have e8 : IntKind.i64.wrap ((8 : Int) + (Int.tmod (IntKind.i64.wrap ((k : Int) + (2 : Int))) (4 : Int))) = _ := e 8 2 (by omega) (by omega)
    have e12 : IntKind.i64.wrap ((12 : Int) + (Int.tmod (IntKind.i64.wrap ((k : Int) + (3 : Int))) (4 : Int))) = _ := e 12 3 (by omega) (by omega)
    simp only [e4, e8, e12, (qv_ok (diagW_good h k (by omega)) k (4 + (k + 1) % 4) (8 + (k + 2) % 4) (12 + (k + 3) % 4) (by omega) (by omega) (by omega) (by omega)).1, Option.bind_some]
    rw [if_pos (by simp only [decide_eq_true_eq]; omega), wrap_ok (by omega) (by omega)]
    rfl
  · simp
theorem spec_round {l : List Wrd} (h : goodW l) {β : Type} (f : List Int → Option β) : ((spec_l3Quarter (l.map Wrd.v) (0 : Int) (4 : Int) (8 : Int) (12 : Int)).bind fun R36 =>
  (spec_l3Quarter R36 (1 : Int) (5 : Int) (9 : Int) (13 : Int)).bind fun R39 =>
  (spec_l3Quarter R39 (2 : Int) (6 : Int) (10 : Int) (14 : Int)).bind fun R42 =>
  (spec_l3Quarter R42 (3 : Int) (7 : Int) (11 : Int) (15 : Int)).bind fun R45 =>
  (spec_l3Quarter R45 (0 : Int) (5 : Int) (10 : Int) (15 : Int)).bind fun R48 =>
  (spec_l3Quarter R48 (1 : Int) (6 : Int) (11 : Int) (12 : Int)).bind fun R51 =>
  (spec_l3Quarter R51 (2 : Int) (7 : Int) (8 : Int) (13 : Int)).bind fun R54 =>
  (spec_l3Quarter R54 (3 : Int) (4 : Int) (9 : Int) (14 : Int)).bind fun R57 => f R57) = f ((roundW l).map Wrd.v) := by
  have c0 : spec_l3Quarter (l.map Wrd.v) (0 : Int) (4 : Int) (8 : Int) (12 : Int) = some ((colW l 1).map Wrd.v) := (qv_ok h 0 4 8 12 (by omega) (by omega) (by omega) (by omega)).2.1
  have c1 : spec_l3Quarter ((colW l 1).map Wrd.v) (1 : Int) (5 : Int) (9 : Int) (13 : Int) = some ((colW l 2).map Wrd.v) := (qv_ok (colW_good h 1 (by omega)) 1 5 9 13 (by omega) (by omega) (by omega) (by omega)).2.1
  have c2 : spec_l3Quarter ((colW l 2).map Wrd.v) (2 : Int) (6 : Int) (10 : Int) (14 : Int) = some ((colW l 3).map Wrd.v) := (qv_ok (colW_good h 2 (by omega)) 2 6 10 14 (by omega) (by omega) (by omega) (by omega)).2.1
  have c3 : spec_l3Quarter ((colW l 3).map Wrd.v) (3 : Int) (7 : Int) (11 : Int) (15 : Int) = some ((colW l 4).map Wrd.v) := (qv_ok (colW_good h 3 (by omega)) 3 7 11 15 (by omega) (by omega) (by omega) (by omega)).2.1
  have g := colW_good h 4 (by omega)
  have d0 : spec_l3Quarter ((colW l 4).map Wrd.v) (0 : Int) (5 : Int) (10 : Int) (15 : Int) = some ((diagW (colW l 4) 1).map Wrd.v) := (qv_ok g 0 5 10 15 (by omega) (by omega) (by omega) (by omega)).2.1
  have d1 : spec_l3Quarter ((diagW (colW l 4) 1).map Wrd.v) (1 : Int) (6 : Int) (11 : Int) (12 : Int) = some ((diagW (colW l 4) 2).map Wrd.v) := (qv_ok (diagW_good g 1 (by omega)) 1 6 11 12 (by omega) (by omega) (by omega) (by omega)).2.1
  have d2 : spec_l3Quarter ((diagW (colW l 4) 2).map Wrd.v) (2 : Int) (7 : Int) (8 : Int) (13 : Int) = some ((diagW (colW l 4) 3).map Wrd.v) := (qv_ok (diagW_good g 2 (by omega)) 2 7 8 13 (by omega) (by omega) (by omega) (by omega)).2.1
  have d3 : spec_l3Quarter ((diagW (colW l 4) 3).map Wrd.v) (3 : Int) (4 : Int) (9 : Int) (14 : Int) = some ((diagW (colW l 4) 4).map Wrd.v) := (qv_ok (diagW_good g 3 (by omega)) 3 4 9 14 (by omega) (by omega) (by omega) (by omega)).2.1
  simp only [c0, c1, c2, c3, d0, d1, d2, d3, Option.bind_some]
  rfl
noncomputable def kN (s : List UInt8) (i : Nat) : Nat := ((spec_l3Little s ((4 * i : Nat) : Int)).getD 0).toNat
theorem kN_ok (s : List UInt8) (i : Nat) (h : 4 * i + 3 < s.length) (hs : s.length ≤ 1048576) : spec_l3Little s ((4 * i : Nat) : Int) = some (kN s i : Int) ∧ impl_little s ((4 * i : Nat) : Int) = some (kN s i : Int) ∧ kN s i < 4294967296 := by
  obtain ⟨n, h1, h2, h3⟩ := little_some s (4 * i) h hs
  have e : kN s i = n := by unfold kN; rw [h1]; rfl
  rw [e]
  exact ⟨h1, h2, h3⟩
noncomputable def selW (k : Nat) (i : Nat) (n : Nat) : Wrd := bif Nat.blt i k then Wrd.mk (n : Int) else Wrd.mk 0
noncomputable def firstK (key : List UInt8) (k : Nat) : List Wrd := [Wrd.mk 1634760805, Wrd.mk 857760878, Wrd.mk 2036477234, Wrd.mk 1797285236, selW k 0 (kN key 0), selW k 1 (kN key 1), selW k 2 (kN key 2), selW k 3 (kN key 3), selW k 4 (kN key 4), selW k 5 (kN key 5), selW k 6 (kN key 6), selW k 7 (kN key 7), Wrd.mk 0, Wrd.mk 0, Wrd.mk 0, Wrd.mk 0]
noncomputable def firstN (key : List UInt8) (counter : Int) (nonce : List UInt8) (k : Nat) : List Wrd := [Wrd.mk 1634760805, Wrd.mk 857760878, Wrd.mk 2036477234, Wrd.mk 1797285236, Wrd.mk (kN key 0 : Int), Wrd.mk (kN key 1 : Int), Wrd.mk (kN key 2 : Int), Wrd.mk (kN key 3 : Int), Wrd.mk (kN key 4 : Int), Wrd.mk (kN key 5 : Int), Wrd.mk (kN key 6 : Int), Wrd.mk (kN key 7 : Int), Wrd.mk counter, selW k 0 (kN nonce 0), selW k 1 (kN nonce 1), selW k 2 (kN nonce 2)]
theorem firstWords_eq (key : List UInt8) (counter : Int) (nonce : List UInt8) (hk : key.length = 32) (hc : 0 ≤ counter ∧ counter ≤ 4294967295) (hn : nonce.length = 12) : impl_firstWords key counter nonce = some (firstN key counter nonce 3) := by
  unfold impl_firstWords
  have hw : IntKind.u32.wrap counter = counter := by rw [wrap32]; omega
  have hl : ∀ l : List Wrd, l.length = 16 → lenIs 16 l = some () := fun l h => by unfold lenIs; rw [if_pos h]
  rw [hl _ rfl]
  simp only [Option.bind_some]
  rw [loopO_count (fun k => ((k : Int), firstK key k)) 8 (r := Ctl.go (firstK key 8)) ?h0]
  case h0 => rfl
  · simp only [bindC_go]
    rw [show (12 : Int) = ((12 : Nat) : Int) from rfl, idx_nat (firstK key 8) 12 (by show 12 < 16; omega)]
    simp only [Option.bind_some, Int.toNat_natCast, hw]
    rw [loopO_count (fun k => ((k : Int), firstN key counter nonce k)) 3 (r := Ctl.go (firstN key counter nonce 3)) ?h1]
    case h1 => rfl
    · simp only [bindC_go]
      rw [hl _ rfl]
      rfl
    · intro k h3
      have e4 : IntKind.i64.wrap ((4 : Int) * (k : Int)) = ((4 * k : Nat) : Int) := by rw [wrap_ok (by omega) (by omega)]; omega
      have e13 : IntKind.i64.wrap ((13 : Int) + (k : Int)) = ((13 + k : Nat) : Int) := by rw [wrap_ok (by omega) (by omega)]; omega
      simp only [e4, e13, (kN_ok nonce k (by omega) (by omega)).2.1, Option.bind_some, idx_nat (firstN key counter nonce k) (13 + k) (by show 13 + k < 16; omega), Int.toNat_natCast]
      rw [if_pos (by simp only [decide_eq_true_eq]; omega), wrap_ok (by omega) (by omega)]
      have h4 : k = 0 ∨ k = 1 ∨ k = 2 := by omega
      rcases h4 with rfl | rfl | rfl <;> rfl
    · rfl
  · intro k h8
    have e4 : IntKind.i64.wrap ((4 : Int) * (k : Int)) = ((4 * k : Nat) : Int) := by rw [wrap_ok (by omega) (by omega)]; omega
    have e44 : IntKind.i64.wrap ((4 : Int) + (k : Int)) = ((4 + k : Nat) : Int) := by rw [wrap_ok (by omega) (by omega)]; omega
    simp only [e4, e44, (kN_ok key k (by omega) (by omega)).2.1, Option.bind_some, idx_nat (firstK key k) (4 + k) (by show 4 + k < 16; omega), Int.toNat_natCast]
    rw [if_pos (by simp only [decide_eq_true_eq]; omega), wrap_ok (by omega) (by omega)]
    have h4 : k = 0 ∨ k = 1 ∨ k = 2 ∨ k = 3 ∨ k = 4 ∨ k = 5 ∨ k = 6 ∨ k = 7 := by omega
    rcases h4 with rfl | rfl | rfl | rfl | rfl | rfl | rfl | rfl <;> rfl
  · rfl
theorem firstN_good (key : List UInt8) (counter : Int) (nonce : List UInt8) (hk : key.length = 32) (hc : 0 ≤ counter ∧ counter ≤ 4294967295) (hn : nonce.length = 12) : goodW (firstN key counter nonce 3) := by
  refine ⟨rfl, ?_⟩
  have a : ∀ i, i < 8 → kN key i < 4294967296 := fun i hi => (kN_ok key i (by omega) (by omega)).2.2
  have b : ∀ i, i < 3 → kN nonce i < 4294967296 := fun i hi => (kN_ok nonce i (by omega) (by omega)).2.2
  have a0 := a 0 (by omega)
  have a1 := a 1 (by omega)
  have a2 := a 2 (by omega)
  have a3 := a 3 (by omega)
  have a4 := a 4 (by omega)
  have a5 := a 5 (by omega)
  have a6 := a 6 (by omega)
  have a7 := a 7 (by omega)
  have b0 := b 0 (by omega)
  have b1 := b 1 (by omega)
  have b2 := b 2 (by omega)
  have s0 : selW 3 0 (kN nonce 0) = Wrd.mk (kN nonce 0 : Int) := rfl
  have s1 : selW 3 1 (kN nonce 1) = Wrd.mk (kN nonce 1 : Int) := rfl
  have s2 : selW 3 2 (kN nonce 2) = Wrd.mk (kN nonce 2 : Int) := rfl
  intro x hx
  unfold firstN at hx
  rw [s0, s1, s2] at hx
  simp only [List.mem_cons, List.not_mem_nil, or_false] at hx
  rcases hx with rfl | rfl | rfl | rfl | rfl | rfl | rfl | rfl | rfl | rfl | rfl | rfl | rfl | rfl | rfl | rfl <;> simp only <;> omega
def bytes4 (n : Nat) : List UInt8 := [toU8 (n : Int), toU8 ((n / 256 : Nat) : Int), toU8 ((n / 65536 : Nat) : Int), toU8 ((n / 16777216 : Nat) : Int)]
noncomputable def outW (w s : List Wrd) : Nat → List UInt8
  | 0 => []
  | k + 1 => outW w s k ++ (match w[k]?, s[k]? with | some x, some y => bytes4 ((x.v + y.v).toNat % 4294967296) | _, _ => [])
theorem outW_succ (w s : List Wrd) (k : Nat) (hw : k < w.length) (hs : k < s.length) : outW w s (k + 1) = outW w s k ++ bytes4 ((w[k].v + s[k].v).toNat % 4294967296) := by
  show outW w s k ++ (match w[k]?, s[k]? with | some x, some y => _ | _, _ => _) = _
  rw [List.getElem?_eq_getElem hw, List.getElem?_eq_getElem hs]
theorem outW_len (w s : List Wrd) (hw : w.length = 16) (hs : s.length = 16) : ∀ k, k ≤ 16 → (outW w s k).length = 4 * k
  | 0, _ => rfl
  | k + 1, hk => by
    rw [outW_succ w s k (by omega) (by omega), List.length_append, outW_len w s hw hs k (by omega)]
    show 4 * k + 4 = _
    omega
theorem toU8_mod (n : Nat) : toU8 ((n % 256 : Nat) : Int) = toU8 (n : Int) := by
  unfold toU8
  congr 1
  omega
noncomputable def chaR (key : List UInt8) (counter : Int) (nonce : List UInt8) : List UInt8 := outW (roundsW (firstN key counter nonce 3) 10) (firstN key counter nonce 3) 16
def chaOk (key : List UInt8) (counter : Int) (nonce : List UInt8) : Bool := decide (key.length = 32) && (decide (nonce.length = 12) && decide (0 ≤ counter ∧ counter ≤ 4294967295))
noncomputable def chaV (key : List UInt8) (counter : Int) (nonce : List UInt8) : List UInt8 := bif chaOk key counter nonce then chaR key counter nonce else []
theorem chaOk_iff {key : List UInt8} {counter : Int} {nonce : List UInt8} (h : chaOk key counter nonce = true) : key.length = 32 ∧ nonce.length = 12 ∧ 0 ≤ counter ∧ counter ≤ 4294967295 := by
  unfold chaOk at h
  simp only [Bool.and_eq_true, decide_eq_true_eq] at h
  exact h
theorem chaV_len (key : List UInt8) (counter : Int) (nonce : List UInt8) (h : chaOk key counter nonce = true) : (chaV key counter nonce).length = 64 := by
  obtain ⟨h1, h2, h3⟩ := chaOk_iff h
  have g := firstN_good key counter nonce h1 h3 h2
  unfold chaV chaR
  rw [h]
  exact outW_len _ _ (roundsW_good g 10).1 g.1 16 (Nat.le_refl _)
theorem impl_isCha_eq (key : List UInt8) (counter : Int) (nonce : List UInt8) : impl_isCha key counter nonce = some (chaOk key counter nonce) := by
  unfold impl_isCha chaOk
  have e1 : decide (((key.length : Nat) : Int) = 32) = decide (key.length = 32) := decide_eq_decide.2 (by omega)
  have e2 : decide (((nonce.length : Nat) : Int) = 12) = decide (nonce.length = 12) := decide_eq_decide.2 (by omega)
  rw [e1, e2, inRange_eq]
  cases decide (key.length = 32) <;> cases decide (nonce.length = 12) <;> cases decide (0 ≤ counter ∧ counter ≤ 4294967295) <;> rfl
theorem impl_ChaBlock_eq (key : List UInt8) (counter : Int) (nonce : List UInt8) : impl_ChaBlock key counter nonce = some (chaV key counter nonce) := by
  unfold impl_ChaBlock chaV
  rw [impl_isCha_eq]
  cases hok : chaOk key counter nonce with
  | false => rfl
  | true =>
    obtain ⟨h1, h2, h3⟩ := chaOk_iff hok
    have g := firstN_good key counter nonce h1 h3 h2
    have hl : ∀ l : List Wrd, l.length = 16 → lenIs 16 l = some () := fun l h => by unfold lenIs; rw [if_pos h]
    simp only [Option.bind_some, Bool.not_true, Bool.false_eq_true, if_false, cond_true, firstWords_eq key counter nonce h1 h3 h2, hl _ g.1]
    unfold chaR
    generalize firstN key counter nonce 3 = s at g
    rw [loopO_count (fun k => ((k : Int), roundsW s k)) 10 (r := Ctl.go (roundsW s 10)) ?h0]
    case h0 => rfl
    · have gw := roundsW_good g 10
      simp only [bindC_go, show mkLen 1 (64 : Int) = some 64 from rfl, Option.bind_some]
      rw [loopO_count (fun k => ((k : Int), outW (roundsW s 10) s k)) 16 (r := Ctl.go (outW (roundsW s 10) s 16)) ?h1]
      case h1 => rfl
      · rfl
      · intro k hk
        obtain ⟨n, en, hn⟩ := okW_nat gw.2 k (by rw [gw.1]; exact hk)
        obtain ⟨m, em, hm⟩ := okW_nat g.2 k (by rw [g.1]; exact hk)
        have ho := outW_len (roundsW s 10) s gw.1 g.1 k (by omega)
        simp only [hl _ gw.1, idx_nat (roundsW s 10) k (by rw [gw.1]; exact hk), idx_nat s k (by rw [g.1]; exact hk), Option.bind_some, en, em]
        have e0 : IntKind.u32.wrap ((n : Int) + (m : Int)) = (((n + m) % 4294967296 : Nat) : Int) := by rw [wrap32]; omega
        rw [e0, show (8 : Int) = ((8 : Nat) : Int) from rfl, show (24 : Int) = ((24 : Nat) : Int) from rfl, ishr_nat (by decide), ishr_nat (by decide)]
        rw [show ishr .u32 (((n + m) % 4294967296 : Nat) : Int) (16 : Int) = _ from ishr_nat (n := 16) (by decide)]
        rw [if_pos (by simp only [decide_eq_true_eq]; omega), wrap_ok (by omega) (by omega), app_ok (by rw [ho]; simp; omega) (by rw [ho]; simp; omega)]
        simp only [Option.bind_some]
        rw [outW_succ _ _ k (by rw [gw.1]; exact hk) (by rw [g.1]; exact hk), en, em]
        rfl
      · simp
    · intro k hk
      have gk := roundsW_good g k
      simp only [col_loop gk, bindC_go, diag_loop (colW_good gk 4 (by omega))]
      rw [if_pos (by simp only [decide_eq_true_eq]; omega), wrap_ok (by omega) (by omega)]
      rfl
    · simp
theorem bind_of {α β : Type} {x : Option α} {a : α} {f : α → Option β} {r : Option β} (h : x = some a) (h2 : f a = r) : x.bind f = r := by rw [h]; exact h2
theorem spec_ChaBlock_eq (key : List UInt8) (counter : Int) (nonce : List UInt8) : spec_ChaBlock key counter nonce = some (chaV key counter nonce) := by
  unfold spec_ChaBlock chaV
  have e1 : decide (((key.length : Nat) : Int) = 32) = decide (key.length = 32) := decide_eq_decide.2 (by omega)
  have e2 : decide (((nonce.length : Nat) : Int) = 12) = decide (nonce.length = 12) := decide_eq_decide.2 (by omega)
  rw [e1, e2, l1In_eq]
  cases hok : chaOk key counter nonce with
  | false =>
    unfold chaOk at hok
    cases a1 : decide (key.length = 32) with
    | false => rfl
    | true =>
      cases a2 : decide (nonce.length = 12) with
      | false => rfl
      | true =>
        rw [a1, a2] at hok
        cases a3 : decide (0 ≤ counter ∧ counter ≤ 4294967295) with
        | false => rfl
        | true => rw [a3] at hok; cases hok
  | true =>
    obtain ⟨h1, h2, h3⟩ := chaOk_iff hok
    have g := firstN_good key counter nonce h1 h3 h2
    rw [decide_eq_true h1, decide_eq_true h2, decide_eq_true h3]
    simp only [Option.bind_some, Bool.not_true, Bool.false_eq_true, if_false, cond_true]
    unfold spec_l3Block chaR
    rw [loopO_count (fun k => ((k : Int), ((firstN key counter nonce 3).map Wrd.v).take (4 + k))) 8 (r := Ctl.go (((firstN key counter nonce 3).map Wrd.v).take 12)) ?h0]
    case h0 => rfl
    · have n0 : spec_l3Little nonce (0 : Int) = some (kN nonce 0 : Int) := (kN_ok nonce 0 (by omega) (by omega)).1
      have n1 : spec_l3Little nonce (4 : Int) = some (kN nonce 1 : Int) := (kN_ok nonce 1 (by omega) (by omega)).1
      have n2 : spec_l3Little nonce (8 : Int) = some (kN nonce 2 : Int) := (kN_ok nonce 2 (by omega) (by omega)).1
      have t1 : app 8 (((firstN key counter nonce 3).map Wrd.v).take 12) [counter, (kN nonce 0 : Int), (kN nonce 1 : Int), (kN nonce 2 : Int)] = some ((firstN key counter nonce 3).map Wrd.v) := by
        rw [app_ok (by show (12 + 4) * 8 ≤ _; omega) (by show 12 + 4 ≤ _; omega)]
        unfold firstN
        generalize kN nonce 0 = x0
        generalize kN nonce 1 = x1
        generalize kN nonce 2 = x2
        generalize kN key 0 = y0
        generalize kN key 1 = y1
        generalize kN key 2 = y2
        generalize kN key 3 = y3
        generalize kN key 4 = y4
        generalize kN key 5 = y5
        generalize kN key 6 = y6
        generalize kN key 7 = y7
        rfl
      have t2 : app 8 ([] : List Int) ((firstN key counter nonce 3).map Wrd.v) = some ((firstN key counter nonce 3).map Wrd.v) := by
        rw [app_ok (by show (0 + 16) * 8 ≤ _; omega) (by show 0 + 16 ≤ _; omega)]
        rfl
      simp only [bindC_go, n0, n1, n2, Option.bind_some, t1, t2]
      generalize firstN key counter nonce 3 = s at g
      rw [loopO_count (fun k => ((k : Int), (roundsW s k).map Wrd.v)) 10 (r := Ctl.go ((roundsW s 10).map Wrd.v)) ?h1]
      case h1 => rfl
      · have gw := roundsW_good g 10
        simp only [bindC_go]
        generalize roundsW s 10 = w at gw
        rw [loopO_count (fun k => ((k : Int), outW (w) s k)) 16 (r := Ctl.go (outW (w) s 16)) ?h2]
        case h2 => rfl
        · rfl
        · intro k hk
          have hkw : k < (w).length := by rw [gw.1]; exact hk
          have hks : k < s.length := by rw [g.1]; exact hk
          obtain ⟨n, en, hn⟩ := okW_nat gw.2 k hkw
          obtain ⟨m, em, hm⟩ := okW_nat g.2 k hks
          have ho := outW_len (w) s gw.1 g.1 k (by omega)
          have i1 : idx ((w).map Wrd.v) (k : Int) = some (n : Int) := by rw [idx_nat _ k (by simpa using hkw)]; simp only [List.getElem_map, en]
          have i2 : idx (s.map Wrd.v) (k : Int) = some (m : Int) := by rw [idx_nat _ k (by simpa using hks)]; simp only [List.getElem_map, em]
          have e0 : IntKind.i64.wrap ((n : Int) + (m : Int)) = ((n + m : Nat) : Int) := by rw [wrap_ok (by omega) (by omega)]; omega
          have hx : (n + m) % 4294967296 < 4294967296 := Nat.mod_lt _ (by decide)
          have hw : spec_l3Word (IntKind.i64.wrap ((n : Int) + (m : Int))) = some (((n + m) % 4294967296 : Nat) : Int) := by rw [e0]; exact l3Word_eq (by omega)
          generalize hxe : (n + m) % 4294967296 = x at hx hw
          rw [if_pos (by simp only [decide_eq_true_eq]; omega)]
          refine bind_of i1 (bind_of i2 (bind_of hw ?_))
          have a0 : toU8 (iand .i64 (x : Int) (255 : Int)) = toU8 (x : Int) := by
            rw [show (255 : Int) = ((255 : Nat) : Int) from rfl, iand64 (by omega) (by decide), show x &&& 255 = x % 256 from Nat.and_two_pow_sub_one_eq_mod x 8, toU8_mod]
          have a1 : toU8 (iand .i64 (ishr .i64 (x : Int) (8 : Int)) (255 : Int)) = toU8 ((x / 256 : Nat) : Int) := by
            rw [show ishr .i64 (x : Int) (8 : Int) = ((x / 256 : Nat) : Int) from ishr_nat (n := 8) (by decide), show (255 : Int) = ((255 : Nat) : Int) from rfl, iand64 (by omega) (by decide), show x / 256 &&& 255 = x / 256 % 256 from Nat.and_two_pow_sub_one_eq_mod _ 8, toU8_mod]
          have a2 : toU8 (iand .i64 (ishr .i64 (x : Int) (16 : Int)) (255 : Int)) = toU8 ((x / 65536 : Nat) : Int) := by
            rw [show ishr .i64 (x : Int) (16 : Int) = ((x / 65536 : Nat) : Int) from ishr_nat (n := 16) (by decide), show (255 : Int) = ((255 : Nat) : Int) from rfl, iand64 (by omega) (by decide), show x / 65536 &&& 255 = x / 65536 % 256 from Nat.and_two_pow_sub_one_eq_mod _ 8, toU8_mod]
          have a3 : ishr .i64 (x : Int) (24 : Int) = ((x / 16777216 : Nat) : Int) := ishr_nat (n := 24) (by decide)
          rw [a0, a1, a2, a3, wrap_ok (by omega) (by omega), app_ok (by rw [ho]; simp; omega) (by rw [ho]; simp; omega)]
          simp only [Option.bind_some]
          rw [outW_succ _ _ k hkw hks, en, em, show ((n : Int) + (m : Int)).toNat = n + m by omega, hxe]
          rfl
        · simp
      · intro k hk
        simp only
        rw [if_pos (by simp only [decide_eq_true_eq]; omega), wrap_ok (n := (k : Int) + 1) (by omega) (by omega)]
        exact spec_round (roundsW_good g k) (fun R57 => some (Ctl.go ((k : Int) + 1, R57)))
      · simp
    · intro k hk
      have e4 : IntKind.i64.wrap ((4 : Int) * (k : Int)) = ((4 * k : Nat) : Int) := by rw [wrap_ok (by omega) (by omega)]; omega
      simp only [e4, (kN_ok key k (by omega) (by omega)).1, Option.bind_some]
      rw [if_pos (by simp only [decide_eq_true_eq]; omega), wrap_ok (by omega) (by omega), app_ok (by rw [List.length_take]; simp; omega) (by rw [List.length_take]; simp; omega)]
      have h4 : k = 0 ∨ k = 1 ∨ k = 2 ∨ k = 3 ∨ k = 4 ∨ k = 5 ∨ k = 6 ∨ k = 7 := by omega
      unfold firstN
      rcases h4 with rfl | rfl | rfl | rfl | rfl | rfl | rfl | rfl
      · generalize kN nonce 0 = x0
        generalize kN nonce 1 = x1
        generalize kN nonce 2 = x2
        generalize kN key 0 = y0
        generalize kN key 1 = y1
        generalize kN key 2 = y2
        generalize kN key 3 = y3
        generalize kN key 4 = y4
        generalize kN key 5 = y5
        generalize kN key 6 = y6
        generalize kN key 7 = y7
        rfl
      · generalize kN nonce 0 = x0
        generalize kN nonce 1 = x1
        generalize kN nonce 2 = x2
        generalize kN key 0 = y0
        generalize kN key 1 = y1
        generalize kN key 2 = y2
        generalize kN key 3 = y3
        generalize kN key 4 = y4
        generalize kN key 5 = y5
        generalize kN key 6 = y6
        generalize kN key 7 = y7
        rfl
      · generalize kN nonce 0 = x0
        generalize kN nonce 1 = x1
        generalize kN nonce 2 = x2
        generalize kN key 0 = y0
        generalize kN key 1 = y1
        generalize kN key 2 = y2
        generalize kN key 3 = y3
        generalize kN key 4 = y4
        generalize kN key 5 = y5
        generalize kN key 6 = y6
        generalize kN key 7 = y7
        rfl
      · generalize kN nonce 0 = x0
        generalize kN nonce 1 = x1
        generalize kN nonce 2 = x2
        generalize kN key 0 = y0
        generalize kN key 1 = y1
        generalize kN key 2 = y2
        generalize kN key 3 = y3
        generalize kN key 4 = y4
        generalize kN key 5 = y5
        generalize kN key 6 = y6
        generalize kN key 7 = y7
        rfl
      · generalize kN nonce 0 = x0
        generalize kN nonce 1 = x1
        generalize kN nonce 2 = x2
        generalize kN key 0 = y0
        generalize kN key 1 = y1
        generalize kN key 2 = y2
        generalize kN key 3 = y3
        generalize kN key 4 = y4
        generalize kN key 5 = y5
        generalize kN key 6 = y6
        generalize kN key 7 = y7
        rfl
      · generalize kN nonce 0 = x0
        generalize kN nonce 1 = x1
        generalize kN nonce 2 = x2
        generalize kN key 0 = y0
        generalize kN key 1 = y1
        generalize kN key 2 = y2
        generalize kN key 3 = y3
        generalize kN key 4 = y4
        generalize kN key 5 = y5
        generalize kN key 6 = y6
        generalize kN key 7 = y7
        rfl
      · generalize kN nonce 0 = x0
        generalize kN nonce 1 = x1
        generalize kN nonce 2 = x2
        generalize kN key 0 = y0
        generalize kN key 1 = y1
        generalize kN key 2 = y2
        generalize kN key 3 = y3
        generalize kN key 4 = y4
        generalize kN key 5 = y5
        generalize kN key 6 = y6
        generalize kN key 7 = y7
        rfl
      · generalize kN nonce 0 = x0
        generalize kN nonce 1 = x1
        generalize kN nonce 2 = x2
        generalize kN key 0 = y0
        generalize kN key 1 = y1
        generalize kN key 2 = y2
        generalize kN key 3 = y3
        generalize kN key 4 = y4
        generalize kN key 5 = y5
        generalize kN key 6 = y6
        generalize kN key 7 = y7
        rfl
    · simp
def fixV (n : Nat) : Nat → List UInt8
  | 0 => []
  | j + 1 => toU8 ((n / 256 ^ j : Nat) : Int) :: fixV n j
theorem fixV_len (n : Nat) : ∀ j, (fixV n j).length = j
  | 0 => rfl
  | j + 1 => by rw [fixV, List.length_cons, fixV_len n j]
theorem div_pow_succ (n b j : Nat) : n / b ^ j / b = n / b ^ (j + 1) := by rw [Nat.div_div_eq_div_mul, Nat.pow_succ]
def fixedV (n w : Int) : List UInt8 := bif decide (1 ≤ w ∧ w ≤ 7) && (decide (0 ≤ n) && decide (n.toNat / 256 ^ w.toNat = 0)) then fixV n.toNat w.toNat else []
theorem spec_Fixed_eq (n w : Int) (hn : n ≤ 4611686018427387904) : spec_Fixed n w = some (fixedV n w) := by
  unfold spec_Fixed fixedV
  rw [l1In_eq]
  by_cases h1 : 1 ≤ w ∧ w ≤ 7
  · rw [decide_eq_true h1]
    by_cases h2 : 0 ≤ n
    · obtain ⟨m, rfl⟩ : ∃ m : Nat, n = (m : Int) := ⟨n.toNat, by omega⟩
      obtain ⟨u, rfl⟩ : ∃ u : Nat, w = (u : Int) := ⟨w.toNat, by omega⟩
      rw [decide_eq_true h2, decide_eq_false (by omega : ¬ (m : Int) < 0)]
      simp only [Option.bind_some, Bool.not_true, Bool.false_eq_true, if_false, Int.toNat_natCast]
      rw [loopO_count (fun j => (((m / 256 ^ j : Nat) : Int), fixV m j, (j : Int))) u (r := Ctl.go (((m / 256 ^ u : Nat) : Int), fixV m u)) ?h0]
      case h0 => simp [fixV]
      · simp only [bindC_go]
        by_cases h3 : m / 256 ^ u = 0
        · rw [decide_eq_true h3, decide_eq_false (by rw [h3]; decide : ¬ ((m / 256 ^ u : Nat) : Int) > 0)]; rfl
        · have h4 : ((m / 256 ^ u : Nat) : Int) > 0 := Int.ofNat_lt.2 (Nat.pos_of_ne_zero h3)
          rw [decide_eq_false h3, decide_eq_true h4]; rfl
      · intro j hj
        have e1 : Int.tmod ((m / 256 ^ j : Nat) : Int) (256 : Int) = ((m / 256 ^ j % 256 : Nat) : Int) := by rw [show (256 : Int) = ((256 : Nat) : Int) from rfl, ← Int.ofNat_tmod]
        have e2 : Int.tdiv ((m / 256 ^ j : Nat) : Int) (256 : Int) = ((m / 256 ^ (j + 1) : Nat) : Int) := by rw [show (256 : Int) = ((256 : Nat) : Int) from rfl, ← Int.ofNat_tdiv, div_pow_succ]
        have e3 : ((m / 256 ^ (j + 1) : Nat) : Int) ≤ (m : Int) := Int.ofNat_le.2 (Nat.div_le_self _ _)
        have e4 : (0 : Int) ≤ ((m / 256 ^ (j + 1) : Nat) : Int) := Int.natCast_nonneg _
        have hl := fixV_len m j
        simp only [e1, e2, toU8_mod]
        rw [if_pos (by simp only [decide_eq_true_eq]; omega), wrap_ok (n := (j : Int) + 1) (by omega) (by omega), wrap_ok (by omega) (by omega)]
        rw [cat_ok (by rw [hl]; simp; omega)]
        rfl
      · simp
    · rw [decide_eq_false h2, decide_eq_true (by omega : n < 0)]
      rfl
  · rw [decide_eq_false h1]
    rfl
theorem impl_Fixed_eq (n w : Int) (hn : n ≤ 4611686018427387904) : impl_Fixed n w = some (fixedV n w) := by
  unfold impl_Fixed fixedV
  rw [inRange_eq]
  by_cases h1 : 1 ≤ w ∧ w ≤ 7
  · rw [decide_eq_true h1]
    by_cases h2 : 0 ≤ n
    · obtain ⟨m, rfl⟩ : ∃ m : Nat, n = (m : Int) := ⟨n.toNat, by omega⟩
      obtain ⟨u, rfl⟩ : ∃ u : Nat, w = (u : Int) := ⟨w.toNat, by omega⟩
      have e0 : IntKind.u64.wrap (IntKind.i64.wrap ((8 : Int) * (u : Int))) = ((8 * u : Nat) : Int) := by rw [wrap_ok (by omega) (by omega), wrap64u]; omega
      have e5 : ishr .i64 (m : Int) ((8 * u : Nat) : Int) = ((m / 256 ^ u : Nat) : Int) := by
        rw [ishr_nat (by show 8 * u ≤ 64; omega), Nat.pow_mul]
      have e6 : decide (((m / 256 ^ u : Nat) : Int) = 0) = decide (m / 256 ^ u = 0) := decide_eq_decide.2 (by omega)
      rw [decide_eq_true h2, decide_eq_false (by omega : ¬ (m : Int) < 0)]
      simp only [Option.bind_some, Bool.not_true, Bool.false_eq_true, if_false, Int.toNat_natCast, e0, e5, e6]
      by_cases h3 : m / 256 ^ u = 0
      · rw [decide_eq_true h3]
        simp only [Bool.not_true, Bool.false_eq_true, if_false, Bool.true_and, cond_true]
        rw [mkLen_ok (by omega) (by omega)]
        simp only [Option.bind_some]
        rw [loopO_count (fun j => (((m / 256 ^ j : Nat) : Int), (u : Int) - 1 - (j : Int), List.replicate (u - j) (0 : UInt8) ++ fixV m j)) u (r := Ctl.go (fixV m u)) ?h0]
        case h0 => rw [wrap_ok (by omega) (by omega)]; simp [fixV]
        · rfl
        · intro j hj
          have e1 : ishr .i64 ((m / 256 ^ j : Nat) : Int) (8 : Int) = ((m / 256 ^ (j + 1) : Nat) : Int) := by
            rw [show ishr .i64 ((m / 256 ^ j : Nat) : Int) (8 : Int) = ((m / 256 ^ j / 256 : Nat) : Int) from ishr_nat (n := 8) (by decide), div_pow_succ]
          have hl := fixV_len m j
          have hi : (u : Int) - 1 - (j : Int) = ((u - 1 - j : Nat) : Int) := by omega
          have hlen : u - 1 - j < (List.replicate (u - j) (0 : UInt8) ++ fixV m j).length := by simp; omega
          have hset : (List.replicate (u - j) (0 : UInt8) ++ fixV m j).set (u - 1 - j) (toU8 ((m / 256 ^ j : Nat) : Int)) = List.replicate (u - (j + 1)) (0 : UInt8) ++ fixV m (j + 1) := by
            rw [show u - j = (u - (j + 1)) + 1 by omega, List.replicate_succ', List.append_assoc, show u - 1 - j = u - (j + 1) by omega, List.set_append_right _ _ (by simp)]
            simp [fixV]
          simp only [hi, e1, idx_nat _ _ hlen, Option.bind_some, Int.toNat_natCast, hset]
          rw [if_pos (by simp only [decide_eq_true_eq]; omega), wrap_ok (by omega) (by omega)]
          rw [show ((u - 1 - j : Nat) : Int) - 1 = (u : Int) - 1 - ((j + 1 : Nat) : Int) by omega]
        · rw [if_neg (by simp only [decide_eq_true_eq]; omega)]
          simp
      · rw [decide_eq_false h3]
        rfl
    · rw [decide_eq_false h2, decide_eq_true (by omega : n < 0)]
      rfl
  · rw [decide_eq_false h1]
    rfl
def varN : Nat → Nat → List UInt8
  | 0, n => [toU8 (n : Int)]
  | f + 1, n => bif decide (n < 128) then [toU8 (n : Int)] else toU8 ((128 + n % 128 : Nat) : Int) :: varN f (n / 128)
theorem varN_lt {f n : Nat} (h : n < 128) : varN f n = [toU8 (n : Int)] := by
  cases f with
  | zero => rfl
  | succ f => rw [varN, decide_eq_true h]; rfl
theorem varN_ge {f n : Nat} (h : 128 ≤ n) : varN (f + 1) n = toU8 ((128 + n % 128 : Nat) : Int) :: varN f (n / 128) := by
  rw [varN, decide_eq_false (by omega)]; rfl
theorem var_loop {body : Int × List UInt8 → Option (Ctl (Int × List UInt8) (Ctl (Int × List UInt8) (List UInt8)))}
    (h1 : ∀ (n : Nat) (out : List UInt8), 128 ≤ n → n < 562949953421312 → out.length ≤ 100 → body ((n : Int), out) = some (.go (((n / 128 : Nat) : Int), out ++ [toU8 ((128 + n % 128 : Nat) : Int)])))
    (h2 : ∀ (n : Nat) (out : List UInt8), n < 128 → body ((n : Int), out) = some (.done (.go ((n : Int), out)))) :
    ∀ (f n : Nat) (out : List UInt8), n < 128 ^ (f + 1) → n < 562949953421312 → out.length + f ≤ 100 → ∃ (m : Nat) (out' : List UInt8), loopO body ((n : Int), out) = some (.go ((m : Int), out')) ∧ out' ++ [toU8 (m : Int)] = out ++ varN f n ∧ out'.length ≤ 100 := by
  intro f
  induction f with
  | zero =>
    intro n out hn _ ho
    have hn' : n < 128 := by simpa using hn
    exact ⟨n, out, by rw [loopO_eq, h2 n out hn'], by rw [varN_lt hn'], by omega⟩
  | succ f ih =>
    intro n out hn hb ho
    by_cases h : n < 128
    · exact ⟨n, out, by rw [loopO_eq, h2 n out h], by rw [varN_lt h], by omega⟩
    · have hn2 : n / 128 < 128 ^ (f + 1) := by
        rw [Nat.div_lt_iff_lt_mul (by decide)]
        rw [Nat.pow_succ] at hn
        exact hn
      obtain ⟨m, out', e1, e2, e3⟩ := ih (n / 128) (out ++ [toU8 ((128 + n % 128 : Nat) : Int)]) hn2 (by omega) (by simp; omega)
      refine ⟨m, out', ?_, ?_, e3⟩
      · rw [loopO_eq, h1 n out (by omega) hb (by omega)]
        exact e1
      · rw [e2, varN_ge (by omega), List.append_assoc]; rfl
def varV (n : Int) : List UInt8 := bif decide (0 ≤ n ∧ n ≤ 562949953421311) then varN 6 n.toNat else []
theorem spec_Var_eq (n : Int) : spec_Var n = some (varV n) := by
  unfold spec_Var varV
  rw [l1In_eq]
  by_cases h : 0 ≤ n ∧ n ≤ 562949953421311
  · rw [decide_eq_true h]
    obtain ⟨m, rfl⟩ : ∃ m : Nat, n = (m : Int) := ⟨n.toNat, by omega⟩
    simp only [Option.bind_some, Bool.not_true, Bool.false_eq_true, if_false, cond_true, Int.toNat_natCast]
    obtain ⟨p, out, e1, e2, e3⟩ := var_loop (body := fun (S6 : Int × List UInt8) => if (decide (S6.1 ≥ (128 : Int))) = true then ((app 1 S6.2 ([toU8 (IntKind.i64.wrap ((128 : Int) + (Int.tmod S6.1 (128 : Int))))])).bind fun E13 =>
      some (.go (IntKind.i64.wrap (Int.tdiv S6.1 (128 : Int)), E13)))
      else (some (.done (.go (S6.1, S6.2))))) (by
        intro n out h1 h2 ho
        have t1 : Int.tmod (n : Int) (128 : Int) = ((n % 128 : Nat) : Int) := by rw [show (128 : Int) = ((128 : Nat) : Int) from rfl, ← Int.ofNat_tmod]
        have t2 : Int.tdiv (n : Int) (128 : Int) = ((n / 128 : Nat) : Int) := by rw [show (128 : Int) = ((128 : Nat) : Int) from rfl, ← Int.ofNat_tdiv]
        have t3 : IntKind.i64.wrap ((128 : Int) + ((n % 128 : Nat) : Int)) = ((128 + n % 128 : Nat) : Int) := by rw [wrap_ok (by omega) (by omega)]; omega
        simp only [t1, t2, t3]
        rw [if_pos (by simp only [decide_eq_true_eq]; omega), app_ok (by simp; omega) (by simp; omega), wrap_ok (by omega) (by omega)]
        rfl) (by
        intro n out h1
        rw [if_neg (by simp only [decide_eq_true_eq]; omega)]) 6 m [] (by omega) (by omega) (by simp)
    rw [e1]
    simp only [bindC_go]
    rw [app_ok (by simp; omega) (by simp; omega), e2]
    rfl
  · rw [decide_eq_false h]
    rfl
theorem or128 (m : Nat) (h : m < 128) : 128 ||| m = 128 + m := by
  have := Nat.two_pow_add_eq_or_of_lt (i := 7) (b := m) h 1
  rw [show 2 ^ 7 * 1 = 128 from rfl] at this
  exact this.symm
theorem impl_Var_eq (n : Int) : impl_Var n = some (varV n) := by
  unfold impl_Var varV
  rw [inRange_eq]
  by_cases h : 0 ≤ n ∧ n ≤ 562949953421311
  · rw [decide_eq_true h]
    obtain ⟨m, rfl⟩ : ∃ m : Nat, n = (m : Int) := ⟨n.toNat, by omega⟩
    simp only [Option.bind_some, Bool.not_true, Bool.false_eq_true, if_false, cond_true, Int.toNat_natCast]
    obtain ⟨p, out, e1, e2, e3⟩ := var_loop (body := fun (S5 : Int × List UInt8) => if (decide (S5.1 > (127 : Int))) = true then ((app 1 S5.2 ([toU8 (ior .i64 (128 : Int) (iand .i64 S5.1 (127 : Int)))])).bind fun E12 =>
      some (.go (ishr .i64 S5.1 (7 : Int), E12)))
      else (some (.done (.go (S5.1, S5.2))))) (by
        intro n out h1 h2 ho
        have t1 : iand .i64 (n : Int) (127 : Int) = ((n % 128 : Nat) : Int) := by
          rw [show (127 : Int) = ((127 : Nat) : Int) from rfl, iand64 (by omega) (by decide), show n &&& 127 = n % 128 from Nat.and_two_pow_sub_one_eq_mod n 7]
        have t2 : ishr .i64 (n : Int) (7 : Int) = ((n / 128 : Nat) : Int) := ishr_nat (n := 7) (by decide)
        have hm : n % 128 < 128 := Nat.mod_lt _ (by decide)
        have t3 : ior .i64 (128 : Int) ((n % 128 : Nat) : Int) = ((128 + n % 128 : Nat) : Int) := by
          rw [show (128 : Int) = ((128 : Nat) : Int) from rfl, ior64 (by decide) (by omega), or128 _ hm]
        simp only [t1, t2, t3]
        rw [if_pos (by simp only [decide_eq_true_eq]; omega), app_ok (by simp; omega) (by simp; omega)]
        rfl) (by
        intro n out h1
        rw [if_neg (by simp only [decide_eq_true_eq]; omega)]) 6 m [] (by omega) (by omega) (by simp)
    rw [e1]
    simp only [bindC_go]
    rw [app_ok (by simp; omega) (by simp; omega), e2]
    rfl
  · rw [decide_eq_false h]
    rfl
def numV : List UInt8 → Nat
  | [] => 0
  | x :: l => x.toNat % 128 + 128 * numV l
theorem numV_lt : ∀ (l : List UInt8), numV l < 128 ^ l.length
  | [] => by decide
  | x :: l => by
    have := numV_lt l
    have hx : x.toNat % 128 < 128 := Nat.mod_lt _ (by decide)
    rw [numV, List.length_cons, Nat.pow_succ]
    omega
theorem numV_snoc : ∀ (l : List UInt8) (x : UInt8), numV (l ++ [x]) = numV l + 128 ^ l.length * (x.toNat % 128)
  | [], x => by simp [numV]
  | y :: l, x => by
    rw [List.cons_append, numV, numV, numV_snoc l x, List.length_cons, Nat.pow_succ, Nat.mul_add, Nat.mul_comm (128 ^ l.length) 128, Nat.mul_assoc]
    omega
def readN : Nat → List UInt8 → Option (Nat × Nat)
  | 0, _ => none
  | _ + 1, [] => none
  | f + 1, x :: l => bif decide (x.toNat < 128) then some (x.toNat, 1) else match readN f l with
    | some (m, k) => bif decide (m = 0) then none else some (x.toNat % 128 + 128 * m, k + 1)
    | none => none
theorem toU8_toNat (n : Nat) : (toU8 (n : Int)).toNat = n % 256 := by
  unfold toU8
  rw [UInt8.toNat_ofNat']
  omega
theorem toU8_of (x : UInt8) : toU8 ((x.toNat : Nat) : Int) = x := by
  have := x.toNat_lt
  apply UInt8.toNat_inj.1
  rw [toU8_toNat]
  omega
theorem take_ne {α : Type} {l : List α} {j : Nat} (h1 : 1 ≤ j) (h2 : j ≤ l.length) : l.take j ≠ [] := by
  intro e
  have := congrArg List.length e
  rw [List.length_take, List.length_nil] at this
  omega
theorem good_one (f : Nat) (x : UInt8) : varN f (numV [x]) = [x] ↔ x.toNat < 128 := by
  have hx : x.toNat % 128 < 128 := Nat.mod_lt _ (by decide)
  rw [show numV [x] = x.toNat % 128 by simp [numV], varN_lt hx]
  constructor
  · intro h
    have h2 : toU8 ((x.toNat % 128 : Nat) : Int) = x := by simpa using h
    have h3 := congrArg UInt8.toNat h2
    rw [toU8_toNat] at h3
    omega
  · intro h
    rw [Nat.mod_eq_of_lt h, toU8_of]
theorem good_more (f : Nat) (x : UInt8) (l : List UInt8) (hl : l ≠ []) : varN (f + 1) (numV (x :: l)) = x :: l ↔ 128 ≤ x.toNat ∧ numV l ≠ 0 ∧ varN f (numV l) = l := by
  have hx : x.toNat % 128 < 128 := Nat.mod_lt _ (by decide)
  have hx2 := x.toNat_lt
  have hm : (x.toNat % 128 + 128 * numV l) % 128 = x.toNat % 128 := by omega
  have hd : (x.toNat % 128 + 128 * numV l) / 128 = numV l := by omega
  by_cases h0 : numV l = 0
  · rw [numV, h0, varN_lt (by omega)]
    constructor
    · intro h
      have : [] = l := by simpa using (List.cons.inj h).2
      exact absurd this.symm hl
    · rintro ⟨_, h, _⟩
      exact absurd rfl h
  · rw [numV, varN_ge (by omega), hm, hd]
    constructor
    · intro h
      obtain ⟨h1, h2⟩ := List.cons.inj h
      have h3 := congrArg UInt8.toNat h1
      rw [toU8_toNat] at h3
      exact ⟨by omega, h0, h2⟩
    · rintro ⟨h1, _, h2⟩
      rw [h2, show 128 + x.toNat % 128 = x.toNat by omega, toU8_of]
theorem readN_some : ∀ (f : Nat) (s : List UInt8) (n k : Nat), readN f s = some (n, k) → 1 ≤ k ∧ k ≤ f ∧ k ≤ s.length ∧ n = numV (s.take k) ∧ varN (f - 1) n = s.take k ∧ ∀ g j, 1 ≤ j → j ≤ g + 1 → j ≤ s.length → varN g (numV (s.take j)) = s.take j → j = k
  | 0, s, n, k, h => by cases h
  | f + 1, [], n, k, h => by cases h
  | f + 1, x :: l, n, k, h => by
    rw [readN] at h
    by_cases hx : x.toNat < 128
    · rw [decide_eq_true hx] at h
      simp only [cond_true, Option.some.injEq, Prod.mk.injEq] at h
      obtain ⟨rfl, rfl⟩ := h
      have hm : x.toNat % 128 = x.toNat := Nat.mod_eq_of_lt hx
      refine ⟨Nat.le_refl _, by omega, by simp, by simp [numV, hm], ?_, fun g j hj1 hjg hjl he => ?_⟩
      · have := (good_one (f + 1 - 1) x).2 hx
        rw [show numV [x] = x.toNat by simp [numV, hm]] at this
        exact this
      · cases j with
        | zero => omega
        | succ j =>
          cases j with
          | zero => rfl
          | succ j =>
            cases g with
            | zero => omega
            | succ g =>
              rw [List.take_succ_cons] at he
              have := (good_more g x (l.take (j + 1)) (take_ne (by omega) (by rw [List.length_cons] at hjl; omega))).1 he
              omega
    · rw [decide_eq_false hx] at h
      simp only [cond_false] at h
      cases hr : readN f l with
      | none => rw [hr] at h; cases h
      | some p =>
        obtain ⟨m, k'⟩ := p
        rw [hr] at h
        simp only at h
        by_cases hm : m = 0
        · rw [decide_eq_true hm] at h; cases h
        · rw [decide_eq_false hm] at h
          simp only [cond_false, Option.some.injEq, Prod.mk.injEq] at h
          obtain ⟨rfl, rfl⟩ := h
          obtain ⟨h1, h2, h3, h4, h5, h6⟩ := readN_some f l m k' hr
          have hne : l.take k' ≠ [] := take_ne h1 h3
          refine ⟨by omega, by omega, by simp; omega, by rw [List.take_succ_cons, numV, ← h4], ?_, fun g j hj1 hjg hjl he => ?_⟩
          · rw [List.take_succ_cons, Nat.add_sub_cancel]
            obtain ⟨f', rfl⟩ : ∃ f', f = f' + 1 := ⟨f - 1, by omega⟩
            rw [Nat.add_sub_cancel] at h5
            have := (good_more f' x (l.take k') hne).2 ⟨by omega, by rw [← h4]; exact hm, by rw [← h4]; exact h5⟩
            rw [numV, ← h4] at this
            exact this
          · cases j with
            | zero => omega
            | succ j =>
              cases j with
              | zero =>
                rw [List.take_succ_cons, List.take_zero] at he
                exact absurd ((good_one g x).1 he) hx
              | succ j =>
                cases g with
                | zero => omega
                | succ g =>
                  rw [List.take_succ_cons] at he
                  have hjl' : j + 1 ≤ l.length := by simp at hjl; omega
                  have := (good_more g x (l.take (j + 1)) (take_ne (by omega) hjl')).1 he
                  have := h6 g (j + 1) (by omega) (by omega) hjl' this.2.2
                  omega
theorem readN_none : ∀ (f : Nat) (s : List UInt8), readN f s = none → ∀ g j, 1 ≤ j → j ≤ f → j ≤ g + 1 → j ≤ s.length → varN g (numV (s.take j)) ≠ s.take j
  | 0, s, h => fun g j h1 h2 => by omega
  | f + 1, [], h => fun g j h1 h2 h3 h4 => by simp at h4; omega
  | f + 1, x :: l, h => by
    intro g j hj1 hjf hjg hjl he
    rw [readN] at h
    by_cases hx : x.toNat < 128
    · rw [decide_eq_true hx] at h; cases h
    · rw [decide_eq_false hx] at h
      simp only [cond_false] at h
      cases j with
      | zero => omega
      | succ j =>
        cases j with
        | zero =>
          rw [List.take_succ_cons, List.take_zero] at he
          exact hx ((good_one g x).1 he)
        | succ j =>
          cases g with
          | zero => omega
          | succ g =>
            rw [List.take_succ_cons] at he
            have hjl' : j + 1 ≤ l.length := by simp at hjl; omega
            obtain ⟨q1, q2, q3⟩ := (good_more g x (l.take (j + 1)) (take_ne (by omega) hjl')).1 he
            cases hr : readN f l with
            | none => exact readN_none f l hr g (j + 1) (by omega) (by omega) (by omega) hjl' q3
            | some p =>
              obtain ⟨m, k'⟩ := p
              rw [hr] at h
              simp only at h
              by_cases hm : m = 0
              · obtain ⟨h1, h2, h3, h4, h5, h6⟩ := readN_some f l m k' hr
                have := h6 g (j + 1) (by omega) (by omega) hjl' q3
                rw [← this] at h4
                exact q2 (by rw [← h4]; exact hm)
              · rw [decide_eq_false hm] at h; cases h
def readR : Option (Nat × Nat) → Int × Int
  | some (n, k) => ((n : Int), (k : Int))
  | none => (0, 0)
def readI (n i : Nat) : Option (Nat × Nat) → Int × Int
  | some (m, k) => bif decide (m = 0 ∧ 0 < i) then (0, 0) else (((n + 128 ^ i * m : Nat) : Int), ((i + k : Nat) : Int))
  | none => (0, 0)
theorem readI_zero (p : Option (Nat × Nat)) : readI 0 0 p = readR p := by
  cases p with
  | none => rfl
  | some p => simp [readI, readR]
theorem readI_step (n i f : Nat) (x : UInt8) (l : List UInt8) (hx : ¬ x.toNat < 128) : readI n i (readN (f + 1) (x :: l)) = readI (n + 128 ^ i * (x.toNat % 128)) (i + 1) (readN f l) := by
  rw [readN, decide_eq_false hx]
  simp only [cond_false]
  cases readN f l with
  | none => rfl
  | some p =>
    obtain ⟨m, k⟩ := p
    simp only
    by_cases hm : m = 0
    · simp [hm, readI]
    · rw [decide_eq_false hm]
      simp only [cond_false, readI]
      rw [decide_eq_false (by omega), decide_eq_false (by omega)]
      simp only [cond_false]
      have e : n + 128 ^ i * (x.toNat % 128 + 128 * m) = n + 128 ^ i * (x.toNat % 128) + 128 ^ i * 128 * m := by rw [Nat.mul_add, Nat.mul_assoc, Nat.add_assoc]
      rw [Nat.pow_succ, e, show i + (k + 1) = i + 1 + k by omega]
theorem or_add (n d i : Nat) (h : n < 2 ^ (7 * i)) : n ||| d * 2 ^ (7 * i) = n + 2 ^ (7 * i) * d := by
  rw [Nat.or_comm, Nat.mul_comm, ← Nat.two_pow_add_eq_or_of_lt h]
  omega
theorem pow128 (i : Nat) : 128 ^ i = 2 ^ (7 * i) := by rw [Nat.pow_mul]
theorem impl_ReadVar_eq (s : List UInt8) (hs : s.length ≤ 1099511627776) : impl_ReadVar s = some (readR (readN 7 s)) := by
  unfold impl_ReadVar
  obtain ⟨r, hr, hq⟩ := loopO_total (ρ := Ctl Unit (Int × Int)) (s0 := ((0 : Int), (0 : Int))) (body := fun (S1 : Int × Int) => (if (decide (S1.2 < (7 : Int))) = true then (some (decide (S1.2 < ((s.length : Nat) : Int))))
  else (some false)).bind (fun (T5 : Bool) =>
  if T5 = true then ((sidx s S1.2).bind fun E9 =>
  if (decide (((E9.toNat : Nat) : Int) ≥ (128 : Int))) = true then (some (.go (ior .i64 S1.1 (ishl .i64 (IntKind.i64.wrap (iand .u8 ((E9.toNat : Nat) : Int) (127 : Int))) (IntKind.u64.wrap (IntKind.i64.wrap ((7 : Int) * S1.2)))), IntKind.i64.wrap (S1.2 + (1 : Int)))))
  else ((if (decide (((E9.toNat : Nat) : Int) = (0 : Int))) = true then (some (decide (S1.2 > (0 : Int))))
  else (some false)).bind (fun (T12 : Bool) =>
  if T12 = true then (some (.done (.done ((0 : Int), (0 : Int)))))
  else (some (.done (.done (ior .i64 S1.1 (ishl .i64 (IntKind.i64.wrap (iand .u8 ((E9.toNat : Nat) : Int) (127 : Int))) (IntKind.u64.wrap (IntKind.i64.wrap ((7 : Int) * S1.2)))), IntKind.i64.wrap (S1.2 + (1 : Int)))))))))
  else (some (.done (.go ())))))
    (fun i S => S.1 = (numV (s.take i) : Int) ∧ S.2 = (i : Int) ∧ i ≤ s.length ∧ readR (readN 7 s) = readI (numV (s.take i)) i (readN (7 - i) (s.drop i))) 7 (fun r => r = .done (readR (readN 7 s)) ∨ (r = .go () ∧ readR (readN 7 s) = (0, 0))) ⟨by simp [numV], rfl, Nat.zero_le _, by simp [numV, readI_zero]⟩ (by
      rintro i ⟨n, j⟩ hi ⟨h1, h2, h3, h4⟩
      simp only at h1 h2
      subst h1 h2
      rw [h4]
      simp only
      rw [decide_eq_true (by omega : ((i : Int) < 7))]
      simp only [if_true, Option.bind_some]
      by_cases hl : i < s.length
      · have hd : s.drop i = s[i] :: s.drop (i + 1) := List.drop_eq_getElem_cons hl
        have ht : s.take (i + 1) = s.take i ++ [s[i]] := by rw [List.take_add_one, List.getElem?_eq_getElem hl]; rfl
        have hx := s[i].toNat_lt
        have hn := numV_lt (s.take i)
        rw [List.length_take, Nat.min_eq_left h3, pow128] at hn
        have hp : 2 ^ (7 * i) ≤ 2 ^ 42 := Nat.pow_le_pow_right (by decide) (by omega)
        have hdm : s[i].toNat % 128 < 128 := Nat.mod_lt _ (by decide)
        have ea : iand .u8 ((s[i].toNat : Nat) : Int) (127 : Int) = ((s[i].toNat % 128 : Nat) : Int) := by
          rw [show (127 : Int) = ((127 : Nat) : Int) from rfl, iand8 (by omega) (by decide), show s[i].toNat &&& 127 = s[i].toNat % 128 from Nat.and_two_pow_sub_one_eq_mod _ 7]
        have eb : IntKind.u64.wrap (IntKind.i64.wrap ((7 : Int) * (i : Int))) = ((7 * i : Nat) : Int) := by rw [wrap_ok (by omega) (by omega), wrap64u]; omega
        have hmul : s[i].toNat % 128 * 2 ^ (7 * i) ≤ 127 * 2 ^ 42 := Nat.mul_le_mul (by omega) hp
        have ec : ior .i64 (numV (s.take i) : Int) (ishl .i64 (IntKind.i64.wrap ((s[i].toNat % 128 : Nat) : Int)) ((7 * i : Nat) : Int)) = ((numV (s.take i) + 128 ^ i * (s[i].toNat % 128) : Nat) : Int) := by
          rw [wrap_ok (by omega) (by omega), ishl64 (by omega) (by omega), ior64 (by omega) (by omega), or_add _ _ _ hn, pow128]
        rw [decide_eq_true (by omega : (i : Int) < ((s.length : Nat) : Int)), sidx_nat s i hl, hd]
        simp only [if_true, Option.bind_some, ea, eb, ec]
        rw [wrap_ok (by omega) (by omega), show 7 - i = (7 - (i + 1)) + 1 by omega]
        by_cases hc : s[i].toNat < 128
        · right
          refine ⟨_, ?_, .inl rfl⟩
          rw [decide_eq_false (by omega : ¬ ((s[i].toNat : Nat) : Int) ≥ 128), readN, decide_eq_true hc]
          simp only [Bool.false_eq_true, if_false, cond_true, readI]
          have hm : s[i].toNat % 128 = s[i].toNat := Nat.mod_eq_of_lt hc
          rw [hm]
          by_cases hz : s[i].toNat = 0
          · by_cases h0 : 0 < i
            · rw [decide_eq_true (⟨hz, h0⟩ : s[i].toNat = 0 ∧ 0 < i), decide_eq_true (by omega : ((s[i].toNat : Nat) : Int) = 0), decide_eq_true (by omega : (i : Int) > 0)]
              rfl
            · rw [decide_eq_false (by omega : ¬ (s[i].toNat = 0 ∧ 0 < i)), decide_eq_true (by omega : ((s[i].toNat : Nat) : Int) = 0), decide_eq_false (by omega : ¬ (i : Int) > 0)]
              rfl
          · rw [decide_eq_false (by omega : ¬ (s[i].toNat = 0 ∧ 0 < i)), decide_eq_false (by omega : ¬ ((s[i].toNat : Nat) : Int) = 0)]
            rfl
        · left
          rw [decide_eq_true (by omega : ((s[i].toNat : Nat) : Int) ≥ 128)]
          have hns : numV (s.take (i + 1)) = numV (s.take i) + 128 ^ i * (s[i].toNat % 128) := by
            rw [ht, numV_snoc, List.length_take, Nat.min_eq_left h3]
          refine ⟨(_, _), rfl, by rw [hns], by simp, by omega, ?_⟩
          rw [readI_step _ _ _ _ _ hc, hns]
      · right
        have hd : s.drop i = [] := List.drop_eq_nil_of_le (by omega)
        rw [decide_eq_false (by omega : ¬ (i : Int) < ((s.length : Nat) : Int)), hd, show 7 - i = (7 - (i + 1)) + 1 by omega]
        exact ⟨.go (), rfl, .inr ⟨rfl, rfl⟩⟩) (by
      rintro ⟨n, j⟩ ⟨h1, h2, h3, h4⟩
      simp only at h1 h2
      subst h1 h2
      exact ⟨.go (), rfl, .inr ⟨rfl, h4⟩⟩)
  rw [hr]
  rcases hq with rfl | ⟨rfl, h⟩
  · rfl
  · rw [h]; rfl
theorem ssub_nat (s : List UInt8) (a b : Nat) (h1 : a ≤ b) (h2 : b ≤ s.length) : ssub s (a : Int) (b : Int) = some ((s.drop a).take (b - a)) := by
  unfold ssub
  rw [if_pos ⟨by omega, by omega, by omega⟩, Int.toNat_natCast, Int.toNat_natCast]
theorem ssub_end (s : List UInt8) (a : Nat) (h : a ≤ s.length) : ssub s (a : Int) (s.length : Int) = some (s.drop a) := by
  rw [ssub_nat s a s.length h (Nat.le_refl _), List.take_of_length_le (by simp)]
theorem num_loop {ρ : Type} (s : List UInt8) (k : Nat) (h1 : 1 ≤ k) (h7 : k ≤ 7) (hk : k ≤ s.length) :
    loopO (ρ := Ctl Int ρ) (fun (S9 : Int × Int) => if (decide (S9.2 ≥ (0 : Int))) = true then ((sidx s S9.2).bind fun E14 =>
  some (.go (IntKind.i64.wrap (IntKind.i64.wrap (S9.1 * (128 : Int)) + (Int.tmod (IntKind.i64.wrap ((E14.toNat : Nat) : Int)) (128 : Int))), IntKind.i64.wrap (S9.2 - (1 : Int)))))
  else (some (.done (.go S9.1))))
  ((0 : Int), (k : Int) - 1) = some (.go (numV (s.take k) : Int)) := by
  have hlen : (s.take k).length = k := by rw [List.length_take]; omega
  rw [loopO_count (fun t => ((numV ((s.take k).drop (k - t)) : Int), (k : Int) - 1 - (t : Int))) k (r := Ctl.go (numV (s.take k) : Int)) ?h0]
  case h0 => rw [show k - 0 = k by omega, List.drop_of_length_le (by omega)]; simp [numV]
  · intro t ht
    have hi : (k : Int) - 1 - (t : Int) = ((k - 1 - t : Nat) : Int) := by omega
    have hd : (s.take k).drop (k - (t + 1)) = s[k - 1 - t] :: (s.take k).drop (k - t) := by
      rw [show k - (t + 1) = k - 1 - t by omega, List.drop_eq_getElem_cons (by omega), List.getElem_take]
      rw [show k - 1 - t + 1 = k - t by omega]
    have hx := (s[k - 1 - t]).toNat_lt
    have hn := numV_lt ((s.take k).drop (k - t))
    have hl : ((s.take k).drop (k - t)).length = t := by rw [List.length_drop, hlen]; omega
    rw [hl] at hn
    have hp : 128 ^ t ≤ 128 ^ 6 := Nat.pow_le_pow_right (by decide) (by omega)
    have hm : Int.tmod (((s[k - 1 - t]).toNat : Nat) : Int) (128 : Int) = (((s[k - 1 - t]).toNat % 128 : Nat) : Int) := by rw [show (128 : Int) = ((128 : Nat) : Int) from rfl, ← Int.ofNat_tmod]
    simp only [hi, sidx_nat s (k - 1 - t) (by omega), Option.bind_some]
    rw [if_pos (by simp only [decide_eq_true_eq]; omega), wrap_ok (n := (((s[k - 1 - t]).toNat : Nat) : Int)) (by omega) (by omega), hm, hd, numV]
    generalize numV ((s.take k).drop (k - t)) = z at hn
    rw [wrap_ok (n := (z : Int) * 128) (by omega) (by omega), wrap_ok (by omega) (by omega), wrap_ok (by omega) (by omega)]
    congr 3
    · omega
    · omega
  · rw [if_neg (by simp only [decide_eq_true_eq]; omega)]
    simp
theorem spec_ReadVar_eq (s : List UInt8) (hs : s.length ≤ 1099511627776) : spec_ReadVar s = some (readR (readN 7 s)) := by
  unfold spec_ReadVar
  obtain ⟨r, hr, hq⟩ := loopO_total (ρ := Ctl Unit (Int × Int)) (s0 := (1 : Int)) (body := fun (S1 : Int) => (if (decide (S1 ≤ (7 : Int))) = true then (some (decide (S1 ≤ ((s.length : Nat) : Int))))
  else (some false)).bind (fun (T5 : Bool) =>
  if T5 = true then (bindC (loopO (fun (S9 : Int × Int) => if (decide (S9.2 ≥ (0 : Int))) = true then ((sidx s S9.2).bind fun E14 =>
  some (.go (IntKind.i64.wrap (IntKind.i64.wrap (S9.1 * (128 : Int)) + (Int.tmod (IntKind.i64.wrap ((E14.toNat : Nat) : Int)) (128 : Int))), IntKind.i64.wrap (S9.2 - (1 : Int)))))
  else (some (.done (.go S9.1))))
  ((0 : Int), IntKind.i64.wrap (S1 - (1 : Int))))
  (fun (T11 : Int) => (ssub s 0 S1).bind fun E16 =>
  (spec_Var T11).bind fun R18 =>
  if (decide (R18 = E16)) = true then (some (.done (.done (T11, S1))))
  else (some (.go (IntKind.i64.wrap (S1 + (1 : Int)))))))
  else (some (.done (.go ())))))
    (fun i S => S = ((i + 1 : Nat) : Int) ∧ ∀ j, 1 ≤ j → j ≤ i → j ≤ s.length → varN 6 (numV (s.take j)) ≠ s.take j) 7 (fun r => (∃ n k, readN 7 s = some (n, k) ∧ r = .done ((n : Int), (k : Int))) ∨ (readN 7 s = none ∧ r = .go ())) ⟨rfl, fun j h1 h2 => by omega⟩ (by
      rintro i S hi ⟨rfl, h⟩
      rw [decide_eq_true (by omega : ((i + 1 : Nat) : Int) ≤ 7)]
      simp only [if_true, Option.bind_some]
      by_cases hl : i + 1 ≤ s.length
      · rw [decide_eq_true (by omega : ((i + 1 : Nat) : Int) ≤ ((s.length : Nat) : Int)), wrap_ok (n := ((i + 1 : Nat) : Int) - 1) (by omega) (by omega)]
        simp only [if_true]
        rw [num_loop s (i + 1) (by omega) (by omega) hl]
        have hsub : ssub s 0 ((i + 1 : Nat) : Int) = some (s.take (i + 1)) := ssub_nat s 0 (i + 1) (by omega) hl
        have hn := numV_lt (s.take (i + 1))
        rw [List.length_take, Nat.min_eq_left hl] at hn
        have hp : 128 ^ (i + 1) ≤ 128 ^ 7 := Nat.pow_le_pow_right (by decide) (by omega)
        have hv : varV (numV (s.take (i + 1)) : Int) = varN 6 (numV (s.take (i + 1))) := by
          unfold varV
          rw [decide_eq_true (by omega), cond_true, Int.toNat_natCast]
        simp only [bindC_go, hsub, Option.bind_some, spec_Var_eq, hv]
        by_cases he : varN 6 (numV (s.take (i + 1))) = s.take (i + 1)
        · right
          rw [decide_eq_true he]
          refine ⟨_, rfl, .inl ⟨numV (s.take (i + 1)), i + 1, ?_, rfl⟩⟩
          cases hr : readN 7 s with
          | none => exact absurd he (readN_none 7 s hr 6 (i + 1) (by omega) (by omega) (by omega) hl)
          | some p =>
            obtain ⟨n, k⟩ := p
            obtain ⟨_, _, _, h4, _, h6⟩ := readN_some 7 s n k hr
            have := h6 6 (i + 1) (by omega) (by omega) hl he
            subst this
            rw [h4]
        · left
          rw [decide_eq_false he]
          refine ⟨_, rfl, by rw [wrap_ok (by omega) (by omega)]; omega, fun j h1 h2 h3 => ?_⟩
          by_cases e : j = i + 1
          · subst e; exact he
          · exact h j h1 (by omega) h3
      · right
        rw [decide_eq_false (by omega : ¬ ((i + 1 : Nat) : Int) ≤ ((s.length : Nat) : Int))]
        refine ⟨.go (), rfl, .inr ⟨?_, rfl⟩⟩
        cases hr : readN 7 s with
        | none => rfl
        | some p =>
          obtain ⟨n, k⟩ := p
          obtain ⟨h1, _, h3, h4, h5, _⟩ := readN_some 7 s n k hr
          rw [h4] at h5
          exact absurd h5 (h k h1 (by omega) h3)) (by
      rintro S ⟨rfl, h⟩
      refine ⟨.go (), rfl, .inr ⟨?_, rfl⟩⟩
      cases hr : readN 7 s with
      | none => rfl
      | some p =>
        obtain ⟨n, k⟩ := p
        obtain ⟨h1, h2, h3, h4, h5, _⟩ := readN_some 7 s n k hr
        rw [h4] at h5
        exact absurd h5 (h k h1 h2 h3))
  rw [hr]
  rcases hq with ⟨n, k, e, rfl⟩ | ⟨e, rfl⟩
  · rw [e]; rfl
  · rw [e]; rfl
def l6V (s : List UInt8) : Nat → Nat → List Int × Int
  | 0, a => ([], (a : Int))
  | n + 1, a => bif decide (s.length < a) then ([], -1) else match readN 7 (s.drop a) with
    | some (x, k) => ((x : Int) :: (l6V s n (a + k)).1, (l6V s n (a + k)).2)
    | none => ([], -1)
theorem spec_l6Vars_eq (s : List UInt8) (a n : Nat) (hs : s.length ≤ 1099511627776) (hn : n ≤ 1048576) (ha : a ≤ 2199023255552) : spec_l6Vars s (a : Int) (n : Int) = some (l6V s n a) := by
  unfold spec_l6Vars
  have key : ∀ (m i a : Nat) (out : List Int), i + m = n → out.length = i → a ≤ 2199023255552 →
      bindC (loopO (fun (S2 : Int × Int × List Int) => if (decide (S2.2.1 < (n : Int))) = true then ((if (decide (S2.1 < (0 : Int))) = true then (some true)
  else (some (decide (S2.1 > ((s.length : Nat) : Int))))).bind (fun (T7 : Bool) =>
  if T7 = true then (some (.done (.done (S2.2.2, (-1 : Int)))))
  else ((ssub s S2.1 (s.length : Int)).bind fun E11 =>
  (spec_ReadVar E11).bind fun R13 =>
  if (decide (R13.2 = (0 : Int))) = true then (some (.done (.done (S2.2.2, (-1 : Int)))))
  else ((app 8 S2.2.2 ([R13.1])).bind fun E19 =>
  some (.go (IntKind.i64.wrap (S2.1 + R13.2), IntKind.i64.wrap (S2.2.1 + (1 : Int)), E19))))))
  else (some (.done (.go (S2.1, S2.2.2)))))
  ((a : Int), (i : Int), out)) (fun (T4 : Int × List Int) => some (T4.2, T4.1)) = some (out ++ (l6V s m a).1, (l6V s m a).2) := by
    intro m
    induction m with
    | zero =>
      intro i a out hi ho ha
      rw [loopO_eq]
      simp only
      rw [if_neg (by simp only [decide_eq_true_eq]; omega)]
      simp [l6V]
    | succ m ih =>
      intro i a out hi ho ha
      rw [loopO_eq]
      simp only
      rw [if_pos (by simp only [decide_eq_true_eq]; omega), decide_eq_false (by omega : ¬ (a : Int) < 0)]
      simp only [Bool.false_eq_true, if_false, Option.bind_some, l6V]
      by_cases hl : s.length < a
      · rw [decide_eq_true hl, decide_eq_true (by omega : (a : Int) > ((s.length : Nat) : Int))]
        simp
      · rw [decide_eq_false hl, decide_eq_false (by omega : ¬ (a : Int) > ((s.length : Nat) : Int))]
        simp only [Bool.false_eq_true, if_false, ssub_end s a (by omega), Option.bind_some, spec_ReadVar_eq (s.drop a) (by simp; omega), cond_false]
        cases hr : readN 7 (s.drop a) with
        | none => simp [readR]
        | some p =>
          obtain ⟨x, k⟩ := p
          obtain ⟨h1, h2, _⟩ := readN_some 7 _ x k hr
          have hk0 : decide ((readR (some (x, k))).2 = 0) = false := decide_eq_false (by show ¬ (k : Int) = 0; omega)
          rw [hk0]
          simp only [Bool.false_eq_true, if_false, readR]
          rw [app_ok (by simp; omega) (by simp; omega)]
          simp only [Option.bind_some]
          rw [wrap_ok (n := (a : Int) + (k : Int)) (by omega) (by omega), wrap_ok (n := (i : Int) + 1) (by omega) (by omega)]
          have := ih (i + 1) (a + k) (out ++ [(x : Int)]) (by omega) (by simp; omega) (by omega)
          rw [show ((a : Int) + (k : Int)) = ((a + k : Nat) : Int) by omega, show ((i : Int) + 1) = ((i + 1 : Nat) : Int) by omega, this, List.append_assoc]
          rfl
  have := key n 0 a [] (by omega) rfl ha
  simpa using this
def nonceV (kind n : Int) : List UInt8 := bif decide (0 ≤ kind ∧ kind ≤ 255) && decide (0 ≤ n ∧ n ≤ 562949953421311) then [toU8 kind, 0, 0, 0, 0] ++ fixedV n 7 else []
theorem fixedV_len7 (n : Int) (h : 0 ≤ n ∧ n ≤ 562949953421311) : (fixedV n 7).length = 7 := by
  unfold fixedV
  have h1 : n.toNat / 256 ^ (7 : Int).toNat = 0 := Nat.div_eq_of_lt (by show n.toNat < 256 ^ 7; omega)
  rw [decide_eq_true h.1, decide_eq_true h1]
  show (fixV n.toNat 7).length = 7
  exact fixV_len _ 7
theorem spec_NonceOf_eq (kind n : Int) : spec_NonceOf kind n = some (nonceV kind n) := by
  unfold spec_NonceOf nonceV
  rw [l1In_eq, l1In_eq]
  by_cases h1 : 0 ≤ kind ∧ kind ≤ 255
  · by_cases h2 : 0 ≤ n ∧ n ≤ 562949953421311
    · rw [decide_eq_true h1, decide_eq_true h2]
      simp only [Option.bind_some, Bool.not_true, Bool.false_eq_true, if_false, Bool.and_self, cond_true, spec_Fixed_eq n 7 (by omega)]
      rw [cat_ok (by rw [fixedV_len7 n h2]; show 5 + 7 ≤ 9223372036854775807; decide)]
      rfl
    · rw [decide_eq_true h1, decide_eq_false h2]
      rfl
  · rw [decide_eq_false h1]
    rfl
theorem impl_NonceOf_eq (kind n : Int) : impl_NonceOf kind n = some (nonceV kind n) := by
  unfold impl_NonceOf nonceV
  rw [inRange_eq, inRange_eq]
  by_cases h1 : 0 ≤ kind ∧ kind ≤ 255
  · by_cases h2 : 0 ≤ n ∧ n ≤ 562949953421311
    · rw [decide_eq_true h1, decide_eq_true h2]
      simp only [Option.bind_some, Bool.not_true, Bool.false_eq_true, if_false, Bool.and_self, cond_true, impl_Fixed_eq n 7 (by omega)]
      rw [cat_ok (by rw [fixedV_len7 n h2]; show 5 + 7 ≤ 9223372036854775807; decide)]
      rfl
    · rw [decide_eq_true h1, decide_eq_false h2]
      rfl
  · rw [decide_eq_false h1]
    rfl
theorem varN_len : ∀ (f n : Nat), (varN f n).length ≤ f + 1
  | 0, n => Nat.le_refl _
  | f + 1, n => by
    by_cases h : n < 128
    · rw [varN_lt h]; simp
    · rw [varN_ge (by omega), List.length_cons]
      have := varN_len f (n / 128)
      omega
theorem varV_len (n : Int) : (varV n).length ≤ 7 := by
  unfold varV
  cases decide (0 ≤ n ∧ n ≤ 562949953421311)
  · simp
  · exact varN_len 6 _
def mintOk (secret : List UInt8) (t e : Int) : Bool := decide (secret.length = 32) && (decide (1 ≤ t ∧ t ≤ 99) && decide (0 ≤ e ∧ e ≤ 1000000))
theorem mintOk_iff {secret : List UInt8} {t e : Int} (h : mintOk secret t e = true) : secret.length = 32 ∧ (1 ≤ t ∧ t ≤ 99) ∧ 0 ≤ e ∧ e ≤ 1000000 := by
  unfold mintOk at h
  simp only [Bool.and_eq_true, decide_eq_true_eq] at h
  exact h
noncomputable def mintV (secret : List UInt8) (t e : Int) : List UInt8 := bif mintOk secret t e then varV t ++ varV e ++ (chaV secret e (nonceV 2 t)).take 8 else []
theorem mint_cha {secret : List UInt8} {t e : Int} (h : mintOk secret t e = true) : (chaV secret e (nonceV 2 t)).length = 64 := by
  obtain ⟨h1, h2, h3⟩ := mintOk_iff h
  refine chaV_len _ _ _ ?_
  have hn : (nonceV 2 t).length = 12 := by
    unfold nonceV
    rw [decide_eq_true (by omega : (0 : Int) ≤ 2 ∧ (2 : Int) ≤ 255), decide_eq_true (by omega : 0 ≤ t ∧ t ≤ 562949953421311)]
    simp only [Bool.and_self, cond_true, List.length_append, fixedV_len7 t (by omega)]
    rfl
  unfold chaOk
  rw [decide_eq_true h1, decide_eq_true hn, decide_eq_true (by omega)]
  rfl
theorem spec_MintToken_eq (secret : List UInt8) (t e : Int) : spec_MintToken secret t e = some (mintV secret t e) := by
  unfold spec_MintToken mintV
  have e1 : decide (((secret.length : Nat) : Int) = 32) = decide (secret.length = 32) := decide_eq_decide.2 (by omega)
  rw [e1, l1In_eq, l1In_eq]
  cases hok : mintOk secret t e with
  | true =>
    have hc := mint_cha hok
    obtain ⟨h1, h2, h3⟩ := mintOk_iff hok
    have l1 := varV_len t
    have l2 := varV_len e
    rw [decide_eq_true h1, decide_eq_true h2, decide_eq_true h3]
    simp only [Option.bind_some, Bool.not_true, Bool.false_eq_true, if_false, cond_true, spec_Var_eq, spec_NonceOf_eq, spec_ChaBlock_eq]
    rw [cat_ok (by omega)]
    simp only [Option.bind_some]
    rw [show ssub (chaV secret e (nonceV 2 t)) 0 (8 : Int) = some ((chaV secret e (nonceV 2 t)).take 8) from ssub_nat _ 0 8 (by omega) (by omega)]
    simp only [Option.bind_some]
    rw [cat_ok (by rw [List.length_append, List.length_take]; omega)]
    rfl
  | false =>
    unfold mintOk at hok
    cases a1 : decide (secret.length = 32) with
    | false => rfl
    | true =>
      cases a2 : decide (1 ≤ t ∧ t ≤ 99) with
      | false => rfl
      | true =>
        cases a3 : decide (0 ≤ e ∧ e ≤ 1000000) with
        | false => rfl
        | true => rw [a1, a2, a3] at hok; cases hok
theorem impl_MintToken_eq (secret : List UInt8) (t e : Int) : impl_MintToken secret t e = some (mintV secret t e) := by
  unfold impl_MintToken mintV impl_isTenant impl_isNumber
  have e1 : decide (((secret.length : Nat) : Int) = 32) = decide (secret.length = 32) := decide_eq_decide.2 (by omega)
  rw [e1, inRange_eq, inRange_eq]
  cases hok : mintOk secret t e with
  | true =>
    have hc := mint_cha hok
    obtain ⟨h1, h2, h3⟩ := mintOk_iff hok
    have l1 := varV_len t
    have l2 := varV_len e
    rw [decide_eq_true h1, decide_eq_true h2, decide_eq_true h3]
    simp only [Option.bind_some, Bool.not_true, Bool.false_eq_true, if_false, cond_true, impl_Var_eq, impl_NonceOf_eq, impl_ChaBlock_eq]
    rw [cat_ok (by omega)]
    simp only [Option.bind_some]
    rw [show ssub (chaV secret e (nonceV 2 t)) 0 (8 : Int) = some ((chaV secret e (nonceV 2 t)).take 8) from ssub_nat _ 0 8 (by omega) (by omega)]
    simp only [Option.bind_some]
    rw [cat_ok (by rw [List.length_append, List.length_take]; omega)]
    rfl
  | false =>
    unfold mintOk at hok
    cases a1 : decide (secret.length = 32) with
    | false => rfl
    | true =>
      cases a2 : decide (1 ≤ t ∧ t ≤ 99) with
      | false => rfl
      | true =>
        cases a3 : decide (0 ≤ e ∧ e ≤ 1000000) with
        | false => rfl
        | true => rw [a1, a2, a3] at hok; cases hok
theorem readN_var {s : List UInt8} {n k : Nat} (h : readN 7 s = some (n, k)) : varV (n : Int) = s.take k ∧ k ≤ s.length ∧ 1 ≤ k ∧ k ≤ 7 := by
  obtain ⟨h1, h2, h3, h4, h5, _⟩ := readN_some 7 s n k h
  have hn := numV_lt (s.take k)
  rw [List.length_take, Nat.min_eq_left h3, ← h4] at hn
  have hp : 128 ^ k ≤ 128 ^ 7 := Nat.pow_le_pow_right (by decide) h2
  refine ⟨?_, h3, h1, h2⟩
  unfold varV
  rw [decide_eq_true (by omega), cond_true, Int.toNat_natCast]
  exact h5
noncomputable def tokR (secret s : List UInt8) : Int × Int × Bool := match readN 7 s with
  | none => (0, 0, false)
  | some (t, k1) => match readN 7 (s.drop k1) with
    | none => (0, 0, false)
    | some (e, _) => bif decide (mintV secret t e = s) then ((t : Int), (e : Int), true) else (0, 0, false)
theorem mint_len {secret s : List UInt8} {t k1 e k2 : Nat} (h1 : readN 7 s = some (t, k1)) (h2 : readN 7 (s.drop k1) = some (e, k2)) (hm : mintV secret t e = s) : s.length = k1 + k2 + 8 := by
  obtain ⟨v1, b1, c1, _⟩ := readN_var h1
  obtain ⟨v2, b2, c2, _⟩ := readN_var h2
  rw [List.length_drop] at b2
  unfold mintV at hm
  cases hok : mintOk secret t e with
  | false =>
    rw [hok] at hm
    have := congrArg List.length hm
    simp at this
    omega
  | true =>
    rw [hok] at hm
    have hc := mint_cha hok
    have := congrArg List.length hm
    rw [cond_true, v1, v2, List.length_append, List.length_append, List.length_take, List.length_take, List.length_take, hc, List.length_drop] at this
    omega
theorem spec_ReadToken_eq (secret s : List UInt8) (hs : s.length ≤ 1099511627776) : spec_ReadToken secret s = some (tokR secret s) := by
  unfold spec_ReadToken tokR
  rw [show spec_l6Vars s (0 : Int) (2 : Int) = some (l6V s 2 0) from spec_l6Vars_eq s 0 2 hs (by decide) (by decide)]
  simp only [Option.bind_some]
  cases h1 : readN 7 s with
  | none =>
    have e : l6V s 2 0 = ([], -1) := by
      rw [l6V, decide_eq_false (by omega), cond_false, List.drop_zero, h1]
    rw [e]
    rfl
  | some p =>
    obtain ⟨t, k1⟩ := p
    obtain ⟨v1, b1, c1, _⟩ := readN_var h1
    simp only
    cases h2 : readN 7 (s.drop k1) with
    | none =>
      have e : l6V s 2 0 = ([(t : Int)], -1) := by
        rw [l6V, decide_eq_false (by omega), cond_false, List.drop_zero, h1]
        simp only [Nat.zero_add, l6V]
        rw [decide_eq_false (by omega), cond_false, h2]
      rw [e]
      rfl
    | some q =>
      obtain ⟨e, k2⟩ := q
      have ev : l6V s 2 0 = ([(t : Int), (e : Int)], ((k1 + k2 : Nat) : Int)) := by
        rw [l6V, decide_eq_false (by omega), cond_false, List.drop_zero, h1]
        simp only [Nat.zero_add, l6V]
        rw [decide_eq_false (by omega), cond_false, h2]
      have hne : ¬ s = [] := by intro h; rw [h] at b1; simp at b1; omega
      have i0 : idx [(t : Int), (e : Int)] (0 : Int) = some (t : Int) := rfl
      have i1 : idx [(t : Int), (e : Int)] (1 : Int) = some (e : Int) := rfl
      rw [ev]
      simp only
      rw [decide_eq_false (by omega : ¬ ((k1 + k2 : Nat) : Int) < 0), decide_eq_false hne]
      simp only [Bool.false_eq_true, if_false, i0, i1, Option.bind_some, spec_MintToken_eq]
      cases decide (mintV secret (t : Int) (e : Int) = s) <;> rfl
theorem impl_ReadToken_eq (secret s : List UInt8) (hs : s.length ≤ 1099511627776) : impl_ReadToken secret s = some (tokR secret s) := by
  unfold impl_ReadToken tokR impl_reader_number
  simp only [Bool.false_eq_true, if_false]
  rw [show ssub s (0 : Int) (s.length : Int) = some s from ssub_end s 0 (Nat.zero_le _)]
  simp only [Option.bind_some, impl_ReadVar_eq s hs]
  cases h1 : readN 7 s with
  | none => rfl
  | some p =>
    obtain ⟨t, k1⟩ := p
    obtain ⟨v1, b1, c1, _⟩ := readN_var h1
    have hk0 : decide ((readR (some (t, k1))).2 = 0) = false := decide_eq_false (by show ¬ (k1 : Int) = 0; omega)
    rw [hk0]
    simp only [Bool.false_eq_true, if_false, Option.bind_some, readR]
    rw [wrap_ok (n := (0 : Int) + (k1 : Int)) (by omega) (by omega), show (0 : Int) + (k1 : Int) = ((k1 : Nat) : Int) by omega, ssub_end s k1 b1]
    simp only [Option.bind_some, impl_ReadVar_eq (s.drop k1) (by simp; omega)]
    cases h2 : readN 7 (s.drop k1) with
    | none => rfl
    | some q =>
      obtain ⟨e, k2⟩ := q
      obtain ⟨v2, b2, c2, _⟩ := readN_var h2
      rw [List.length_drop] at b2
      have hk1 : decide ((readR (some (e, k2))).2 = 0) = false := decide_eq_false (by show ¬ (k2 : Int) = 0; omega)
      rw [hk1]
      simp only [Bool.false_eq_true, if_false, Option.bind_some, readR]
      rw [wrap_ok (n := (k1 : Int) + (k2 : Int)) (by omega) (by omega)]
      unfold impl_reader_bytes impl_reader_done
      simp only [Bool.false_eq_true, if_false, Option.bind_some]
      rw [wrap_ok (n := ((s.length : Nat) : Int) - ((k1 : Int) + (k2 : Int))) (by omega) (by omega)]
      by_cases hm : mintV secret t e = s
      · have hl := mint_len h1 h2 hm
        rw [decide_eq_true hm, decide_eq_false (by omega : ¬ (8 : Int) > ((s.length : Nat) : Int) - ((k1 : Int) + (k2 : Int)))]
        simp only [Bool.false_eq_true, if_false]
        rw [wrap_ok (n := (k1 : Int) + (k2 : Int) + 8) (by omega) (by omega), wrap_ok (n := (k1 : Int) + (k2 : Int) + 8 - 8) (by omega) (by omega)]
        rw [show (k1 : Int) + (k2 : Int) + 8 - 8 = ((k1 + k2 : Nat) : Int) by omega, show (k1 : Int) + (k2 : Int) + 8 = ((k1 + k2 + 8 : Nat) : Int) by omega, ssub_nat s (k1 + k2) (k1 + k2 + 8) (by omega) (by omega)]
        simp only [Option.bind_some]
        rw [decide_eq_true (by omega : ((k1 + k2 + 8 : Nat) : Int) = ((s.length : Nat) : Int))]
        simp only [Bool.not_false, Bool.not_true, if_true, Option.bind_some, Bool.false_eq_true, if_false, impl_MintToken_eq]
        rw [decide_eq_true hm]
        rfl
      · rw [decide_eq_false hm]
        by_cases h8 : (8 : Int) > ((s.length : Nat) : Int) - ((k1 : Int) + (k2 : Int))
        · rw [decide_eq_true h8]
          rfl
        · rw [decide_eq_false h8]
          simp only [Bool.false_eq_true, if_false]
          rw [wrap_ok (n := (k1 : Int) + (k2 : Int) + 8) (by omega) (by omega), wrap_ok (n := (k1 : Int) + (k2 : Int) + 8 - 8) (by omega) (by omega)]
          rw [show (k1 : Int) + (k2 : Int) + 8 - 8 = ((k1 + k2 : Nat) : Int) by omega, show (k1 : Int) + (k2 : Int) + 8 = ((k1 + k2 + 8 : Nat) : Int) by omega, ssub_nat s (k1 + k2) (k1 + k2 + 8) (by omega) (by omega)]
          simp only [Option.bind_some, impl_MintToken_eq]
          rw [decide_eq_false hm]
          cases decide (((k1 + k2 + 8 : Nat) : Int) = ((s.length : Nat) : Int)) <;> rfl
/-! draws -/
theorem iand255 (p : Int) : 0 ≤ iand .i64 p (255 : Int) ∧ iand .i64 p (255 : Int) ≤ 255 := by
  unfold iand
  have e : (BitVec.ofInt IntKind.i64.bits p &&& BitVec.ofInt IntKind.i64.bits (255 : Int)).toNat ≤ 255 := by
    show (BitVec.ofInt 64 p &&& BitVec.ofInt 64 ((255 : Nat) : Int)).toNat ≤ 255
    rw [BitVec.ofInt_natCast, BitVec.toNat_and, BitVec.toNat_ofNat]
    exact Nat.and_le_right
  generalize (BitVec.ofInt IntKind.i64.bits p &&& BitVec.ofInt IntKind.i64.bits (255 : Int)).toNat = z at e
  rw [wrap_ok (by omega) (by omega)]
  omega
theorem l1New_ok (code : List UInt8) (h : code.length ≤ 1048576) : ∃ q, spec_l1New code = some { b := code, i := 0, h := q } := by
  unfold spec_l1New
  obtain ⟨r, hr, q, rfl⟩ := loopO_total (ρ := Ctl Int L1Cur) (s0 := (IntKind.i64.wrap ((10101 : Int) + ((code.length : Nat) : Int)), (0 : Int))) (body := fun (S1 : Int × Int) => (if (decide (S1.2 < ((code.length : Nat) : Int))) = true then (some (decide (S1.2 < (4000 : Int))))
  else (some false)).bind (fun (T5 : Bool) =>
  if T5 = true then ((idx code S1.2).bind fun E9 =>
  some (.go (iand .i64 (IntKind.i64.wrap (IntKind.i64.wrap (IntKind.i64.wrap (S1.1 * (131 : Int)) + (IntKind.i64.wrap ((E9.toNat : Nat) : Int))) + (7 : Int))) (1073741823 : Int), IntKind.i64.wrap (S1.2 + (1 : Int)))))
  else (some (.done (.go S1.1))))) (fun k S => S.2 = (k : Int)) code.length (fun r => ∃ q, r = .go q) rfl (by
    rintro k ⟨p, i⟩ hk rfl
    simp only
    rw [decide_eq_true (by omega : (k : Int) < ((code.length : Nat) : Int))]
    by_cases c : (k : Int) < 4000
    · left
      rw [decide_eq_true c]
      simp only [if_true, Option.bind_some, idx_nat code k hk]
      exact ⟨_, rfl, by simp only; rw [wrap_ok (by omega) (by omega)]; omega⟩
    · right
      rw [decide_eq_false c]
      exact ⟨.go p, rfl, p, rfl⟩) (by
    rintro ⟨p, i⟩ rfl
    simp only
    rw [decide_eq_false (by omega : ¬ ((code.length : Nat) : Int) < ((code.length : Nat) : Int))]
    exact ⟨.go p, rfl, p, rfl⟩)
  rw [hr]
  exact ⟨q, rfl⟩
theorem l1Byte_ok (b : List UInt8) (i h : Int) (hi : 0 ≤ i ∧ i ≤ b.length) (hb : b.length ≤ 1048576) : ∃ x i' h', spec_l1Byte { b := b, i := i, h := h } = some (x, { b := b, i := i', h := h' }) ∧ (0 ≤ x ∧ x ≤ 255) ∧ (0 ≤ i' ∧ i' ≤ b.length) := by
  unfold spec_l1Byte
  simp only
  by_cases c : i < ((b.length : Nat) : Int)
  · rw [decide_eq_true c]
    simp only [if_true]
    rw [idx_some' hi.1 c]
    simp only [Option.bind_some, bindC_go]
    exact ⟨_, _, _, rfl, iand255 _, by rw [wrap_ok (by omega) (by omega)]; omega⟩
  · rw [decide_eq_false c]
    simp only [Bool.false_eq_true, if_false, bindC_go]
    exact ⟨_, _, _, rfl, iand255 _, hi⟩
theorem l1Below_ok (b : List UInt8) (i h n : Int) (hi : 0 ≤ i ∧ i ≤ b.length) (hb : b.length ≤ 1048576) : ∃ x i' h', spec_l1Below { b := b, i := i, h := h } n = some (x, { b := b, i := i', h := h' }) ∧ (0 ≤ x ∧ (0 < n → x < n) ∧ (n ≤ 0 → x = 0)) ∧ (0 ≤ i' ∧ i' ≤ b.length) := by
  unfold spec_l1Below
  by_cases c : n ≤ 0
  · rw [decide_eq_true c]
    simp only [if_true]
    exact ⟨_, _, _, rfl, ⟨Int.le_refl _, fun h => by omega, fun _ => rfl⟩, hi⟩
  · rw [decide_eq_false c]
    have hnz : nz n = some () := by unfold nz; rw [if_neg (by omega)]
    have hm : ∀ x : Int, 0 ≤ x → 0 ≤ Int.tmod x n ∧ Int.tmod x n < n := fun x hx => ⟨Int.tmod_nonneg _ hx, Int.tmod_lt_of_pos _ (by omega)⟩
    obtain ⟨x1, i1, h1, e1, g1, k1⟩ := l1Byte_ok b i h hi hb
    simp only [Bool.false_eq_true, if_false, e1, Option.bind_some, hnz]
    by_cases c2 : n ≤ 256
    · rw [decide_eq_true c2]
      simp only [if_true]
      have := hm x1 g1.1
      exact ⟨_, _, _, rfl, ⟨this.1, fun _ => this.2, fun h => by omega⟩, k1⟩
    · rw [decide_eq_false c2]
      simp only [Bool.false_eq_true, if_false]
      obtain ⟨x2, i2, h2, e2, g2, k2⟩ := l1Byte_ok b i1 h1 k1 hb
      simp only [e2, Option.bind_some]
      obtain ⟨x3, i3, h3, e3, g3, k3⟩ := l1Byte_ok b i2 h2 k2 hb
      simp only [e3, Option.bind_some]
      obtain ⟨x4, i4, h4, e4, g4, k4⟩ := l1Byte_ok b i3 h3 k3 hb
      simp only [e4, Option.bind_some]
      rw [wrap_ok (n := x1 * 16777216) (by omega) (by omega), wrap_ok (n := x2 * 65536) (by omega) (by omega), wrap_ok (n := x1 * 16777216 + x2 * 65536) (by omega) (by omega), wrap_ok (n := x3 * 256) (by omega) (by omega), wrap_ok (n := x1 * 16777216 + x2 * 65536 + x3 * 256) (by omega) (by omega), wrap_ok (by omega) (by omega)]
      have := hm (x1 * 16777216 + x2 * 65536 + x3 * 256 + x4) (by omega)
      exact ⟨_, _, _, rfl, ⟨this.1, fun _ => this.2, fun h => by omega⟩, k4⟩
theorem l1Once_ok (b : List UInt8) (i h n : Int) (hi : 0 ≤ i ∧ i ≤ b.length) (hb : b.length ≤ 1048576) : ∃ x i' h', spec_l1Once { b := b, i := i, h := h } n = some (x, { b := b, i := i', h := h' }) ∧ (0 ≤ i' ∧ i' ≤ b.length) := by
  unfold spec_l1Once
  obtain ⟨x, i1, h1, e, _, k⟩ := l1Below_ok b i h n hi hb
  simp only [e, Option.bind_some]
  exact ⟨_, _, _, rfl, k⟩
theorem l1PickInt_ok (b : List UInt8) (i h : Int) (l : List Int) (hl : l ≠ []) (hi : 0 ≤ i ∧ i ≤ b.length) (hb : b.length ≤ 1048576) : ∃ x i' h', spec_l1PickInt { b := b, i := i, h := h } l = some (x, { b := b, i := i', h := h' }) ∧ x ∈ l ∧ (0 ≤ i' ∧ i' ≤ b.length) := by
  unfold spec_l1PickInt
  have hp := List.length_pos_iff.2 hl
  obtain ⟨x, i1, h1, e, g, k⟩ := l1Below_ok b i h ((l.length : Nat) : Int) hi hb
  simp only [e, Option.bind_some]
  rw [idx_some' g.1 (g.2.1 (by omega))]
  simp only [Option.bind_some]
  exact ⟨_, _, _, rfl, List.getElem_mem _, k⟩
theorem at_ok (code : List UInt8) (i : Int) (hi : 0 ≤ i ∧ i ≤ 255) (h : code.length ≤ 1048576) : ∃ x, laws_at code i = some x ∧ 0 ≤ x ∧ x ≤ 255 := by
  unfold laws_at
  by_cases c : i < ((code.length : Nat) : Int)
  · rw [decide_eq_true c]
    simp only [if_true]
    rw [idx_some' hi.1 c]
    simp only [Option.bind_some]
    have := (code[i.toNat]'(by omega)).toNat_lt
    exact ⟨_, rfl, by rw [wrap_ok (by omega) (by omega)]; omega⟩
  · rw [decide_eq_false c]
    simp only [Bool.false_eq_true, if_false]
    rw [wrap_ok (n := i * 37) (by omega) (by omega), wrap_ok (n := ((code.length : Nat) : Int) * 11) (by omega) (by omega), wrap_ok (by omega) (by omega)]
    have h1 : 0 ≤ Int.tmod (i * 37 + ((code.length : Nat) : Int) * 11) 256 := Int.tmod_nonneg _ (by omega)
    have h2 : Int.tmod (i * 37 + ((code.length : Nat) : Int) * 11) 256 < 256 := Int.tmod_lt_of_pos _ (by omega)
    exact ⟨_, rfl, h1, by omega⟩
theorem l1Text_ok (b : List UInt8) (i h most : Int) (hm : 0 ≤ most ∧ most ≤ 1000) (hi : 0 ≤ i ∧ i ≤ b.length) (hb : b.length ≤ 1048576) : ∃ s i' h', spec_l1Text { b := b, i := i, h := h } most = some (s, { b := b, i := i', h := h' }) ∧ s.length ≤ 1000 ∧ (0 ≤ i' ∧ i' ≤ b.length) := by
  unfold spec_l1Text
  obtain ⟨x1, i1, h1, e1, _, k1⟩ := l1Below_ok b i h 4 hi hb
  simp only [e1, Option.bind_some]
  rw [wrap_ok (n := most + 1) (by omega) (by omega)]
  obtain ⟨x2, i2, h2, e2, g2, k2⟩ := l1Below_ok b i1 h1 (most + 1) k1 hb
  simp only [e2, Option.bind_some]
  have hx2 := g2.2.1 (by omega)
  obtain ⟨r, hr, p, q, s, rfl, hq⟩ := loopO_total (ρ := Ctl (Int × Int × List UInt8) (List UInt8 × L1Cur)) (s0 := (i2, h2, x2, ([] : List UInt8))) (body := fun (S8 : Int × Int × Int × List UInt8) => if (decide (S8.2.2.1 > (0 : Int))) = true then ((spec_l1Byte ({ b := b, i := S8.1, h := S8.2.1 : L1Cur })).bind fun R13 =>
  bindC (if (decide (x1 = (1 : Int))) = true then (some (.go (Int.tmod R13.1 (2 : Int))))
  else (some (.go R13.1)))
  (fun (T16 : Int) => bindC (if (decide (x1 = (2 : Int))) = true then (some (.go (IntKind.i64.wrap ((97 : Int) + (Int.tmod T16 (4 : Int))))))
  else (some (.go T16)))
  (fun (T19 : Int) => (app 1 S8.2.2.2 ([toU8 T19])).bind fun E24 =>
  some (.go (R13.2.i, R13.2.h, IntKind.i64.wrap (S8.2.2.1 - (1 : Int)), E24)))))
  else (some (.done (.go (S8.1, S8.2.1, S8.2.2.2)))))
    (fun k S => (0 ≤ S.1 ∧ S.1 ≤ b.length) ∧ S.2.2.1 = x2 - (k : Int) ∧ S.2.2.2.length = k) x2.toNat (fun r => ∃ p q s, r = .go (p, q, s) ∧ (s.length ≤ 1000 ∧ 0 ≤ p ∧ p ≤ b.length)) ⟨k2, by simp, rfl⟩ (by
      rintro k ⟨p, q, m, s⟩ hk ⟨h3, h4, h5⟩
      simp only at h3 h4 h5
      subst h4
      left
      simp only
      rw [if_pos (by simp only [decide_eq_true_eq]; omega)]
      obtain ⟨x3, i3, h3', e3, _, k3⟩ := l1Byte_ok b p q h3 hb
      rw [e3]
      simp only [Option.bind_some]
      have key : ∃ t : Int, (bindC (if (decide (x1 = (1 : Int))) = true then (some (Ctl.go (Int.tmod x3 (2 : Int)))) else (some (Ctl.go x3)))
        (fun (T16 : Int) => bindC (if (decide (x1 = (2 : Int))) = true then (some (Ctl.go (IntKind.i64.wrap ((97 : Int) + (Int.tmod T16 (4 : Int)))))) else (some (Ctl.go T16)))
        (fun (T19 : Int) => (app 1 s ([toU8 T19])).bind fun E24 => some (Ctl.go (ρ := Ctl (Int × Int × List UInt8) (List UInt8 × L1Cur)) (i3, h3', IntKind.i64.wrap (x2 - (k : Int) - (1 : Int)), E24))))) = some (.go (i3, h3', IntKind.i64.wrap (x2 - (k : Int) - (1 : Int)), s ++ [toU8 t])) := by
        cases decide (x1 = 1) <;> cases decide (x1 = 2) <;> simp only [Bool.false_eq_true, if_false, if_true, bindC_go] <;> rw [app_ok (by simp; omega) (by simp; omega)] <;> exact ⟨_, rfl⟩
      obtain ⟨t, ht⟩ := key
      rw [ht]
      exact ⟨_, rfl, k3, by simp only; rw [wrap_ok (by omega) (by omega)]; omega, by simp; omega⟩) (by
      rintro ⟨p, q, m, s⟩ ⟨h3, h4, h5⟩
      simp only at h3 h4 h5
      subst h4
      simp only
      rw [if_neg (by simp only [decide_eq_true_eq]; omega)]
      exact ⟨_, rfl, p, q, s, rfl, by omega, h3⟩)
  rw [hr]
  exact ⟨s, p, q, rfl, hq.1, hq.2⟩
theorem l3Key_ok (b : List UInt8) (i h : Int) (hi : 0 ≤ i ∧ i ≤ b.length) (hb : b.length ≤ 1048576) : ∃ s i' h', spec_l3Key { b := b, i := i, h := h } = some (s, { b := b, i := i', h := h' }) ∧ s.length ≤ 32 ∧ (0 ≤ i' ∧ i' ≤ b.length) := by
  unfold spec_l3Key
  obtain ⟨x1, i1, h1, e1, _, k1⟩ := l1Byte_ok b i h hi hb
  simp only [e1, Option.bind_some]
  obtain ⟨r, hr, s, rfl, hq⟩ := loopO_total (ρ := Ctl (List UInt8) (List UInt8 × L1Cur)) (s0 := ((0 : Int), ([] : List UInt8))) (body := fun (S5 : Int × List UInt8) => if (decide (S5.1 < (32 : Int))) = true then ((app 1 S5.2 ([toU8 (IntKind.i64.wrap (IntKind.i64.wrap (x1 * S5.1) + (Int.tmod S5.1 (3 : Int))))])).bind fun E12 =>
  some (.go (IntKind.i64.wrap (S5.1 + (1 : Int)), E12)))
  else (some (.done (.go S5.2)))) (fun k S => S.1 = (k : Int) ∧ S.2.length = k) 32 (fun r => ∃ s, r = .go s ∧ s.length = 32) ⟨rfl, rfl⟩ (by
      rintro k ⟨p, s⟩ hk ⟨h4, h5⟩
      simp only at h4 h5
      subst h4
      left
      simp only
      rw [if_pos (by simp only [decide_eq_true_eq]; omega), app_ok (by simp; omega) (by simp; omega), wrap_ok (n := (k : Int) + 1) (by omega) (by omega)]
      exact ⟨_, rfl, by simp only; omega, by simp; omega⟩) (by
      rintro ⟨p, s⟩ ⟨h4, h5⟩
      simp only at h4 h5
      subst h4
      exact ⟨.go s, by simp, s, rfl, h5⟩)
  rw [hr]
  simp only [bindC_go]
  obtain ⟨x2, i2, h2, e2, k2⟩ := l1Once_ok b i1 h1 15 k1 hb
  simp only [e2, Option.bind_some]
  cases x2 with
  | false => exact ⟨s, i2, h2, rfl, by omega, k2⟩
  | true =>
    obtain ⟨x3, i3, h3, e3, g3, k3⟩ := l1Below_ok b i2 h2 32 k2 hb
    have := g3.2.1 (by omega)
    simp only [if_true, e3, Option.bind_some]
    rw [piece_nat s 0 x3.toNat (0 : Int) x3 rfl (by omega) (Nat.zero_le _) (by omega)]
    exact ⟨_, i3, h3, rfl, by simp; omega, k3⟩
theorem l1Spoil_ok (b : List UInt8) (i h : Int) (s : List UInt8) (hs : s.length ≤ 1048576) (hi : 0 ≤ i ∧ i ≤ b.length) (hb : b.length ≤ 1048576) : ∃ t i' h', spec_l1Spoil { b := b, i := i, h := h } s = some (t, { b := b, i := i', h := h' }) ∧ t.length ≤ s.length + 1000 ∧ (0 ≤ i' ∧ i' ≤ b.length) := by
  unfold spec_l1Spoil
  by_cases h0 : s.length = 0
  · obtain ⟨t, i1, h1, e1, g1, k1⟩ := l1Text_ok b i h 3 (by omega) hi hb
    rw [decide_eq_true (by omega : ((s.length : Nat) : Int) = 0)]
    simp only [if_true, e1, Option.bind_some]
    exact ⟨t, i1, h1, rfl, by omega, k1⟩
  · rw [decide_eq_false (by omega : ¬ ((s.length : Nat) : Int) = 0)]
    obtain ⟨x1, i1, h1, e1, g1, k1⟩ := l1Below_ok b i h ((s.length : Nat) : Int) hi hb
    have hx1 := g1.2.1 (by omega)
    obtain ⟨x2, i2, h2, e2, g2, k2⟩ := l1Below_ok b i1 h1 4 k1 hb
    simp only [Bool.false_eq_true, if_false, e1, e2, Option.bind_some]
    obtain ⟨n, rfl⟩ : ∃ n : Nat, x1 = (n : Int) := ⟨x1.toNat, by omega⟩
    have s1 : ssub s 0 (n : Int) = some (s.take n) := ssub_nat s 0 n (by omega) (by omega)
    have s2 : ssub s (IntKind.i64.wrap ((n : Int) + (1 : Int))) (s.length : Int) = some (s.drop (n + 1)) := by
      rw [wrap_ok (by omega) (by omega)]; exact ssub_end s (n + 1) (by omega)
    have s3 : ssub s (n : Int) (s.length : Int) = some (s.drop n) := ssub_end s n (by omega)
    simp only [s1, s2, s3, sidx_nat s n (by omega), Option.bind_some]
    by_cases c0 : x2 = 0
    · rw [decide_eq_true c0]
      simp only [if_true]
      rw [cat_ok (by simp; omega)]
      exact ⟨_, _, _, rfl, by simp; omega, k2⟩
    · rw [decide_eq_false c0]
      simp only [Bool.false_eq_true, if_false]
      by_cases c1 : x2 = 1
      · rw [decide_eq_true c1]
        obtain ⟨x3, i3, h3, e3, _, k3⟩ := l1Byte_ok b i2 h2 k2 hb
        simp only [if_true, e3, Option.bind_some]
        rw [cat_ok (by simp; omega)]
        simp only [Option.bind_some]
        rw [cat_ok (by simp; omega)]
        exact ⟨_, _, _, rfl, by simp; omega, k3⟩
      · rw [decide_eq_false c1]
        simp only [Bool.false_eq_true, if_false]
        by_cases c2 : x2 = 2
        · rw [decide_eq_true c2]
          exact ⟨_, _, _, rfl, by simp; omega, k2⟩
        · rw [decide_eq_false c2]
          obtain ⟨x3, i3, h3, e3, _, k3⟩ := l1Below_ok b i2 h2 255 k2 hb
          simp only [Bool.false_eq_true, if_false, e3, Option.bind_some]
          rw [cat_ok (by simp; omega)]
          simp only [Option.bind_some]
          rw [cat_ok (by simp; omega)]
          exact ⟨_, _, _, rfl, by simp; omega, k3⟩
/-! draws of files and edits -/
theorem loopO_G {τ ρ R : Type} {body : τ → Option (Ctl τ (Ctl ρ R))} {s0 : τ} {f : ρ → Option R} (G : Option R → Prop) (I : Nat → τ → Prop) (n : Nat) (Q : Ctl ρ R → Prop) (h0 : I 0 s0)
    (h : ∀ k s, k < n → I k s → (∃ s', body s = some (.go s') ∧ I (k + 1) s') ∨ (∃ r, body s = some (.done r) ∧ Q r)) (hn : ∀ s, I n s → ∃ r, body s = some (.done r) ∧ Q r)
    (hk : ∀ r, Q r → G (bindC (some r) f)) : G (bindC (loopO body s0) f) := by
  obtain ⟨r, hr, hq⟩ := loopO_total I n Q h0 h hn
  rw [hr]
  exact hk r hq
theorem l1Pick_ok (b : List UInt8) (i h : Int) (l : List (List UInt8)) (hl : l ≠ []) (hi : 0 ≤ i ∧ i ≤ b.length) (hb : b.length ≤ 1048576) : ∃ x i' h', spec_l1Pick { b := b, i := i, h := h } l = some (x, { b := b, i := i', h := h' }) ∧ x ∈ l ∧ (0 ≤ i' ∧ i' ≤ b.length) := by
  unfold spec_l1Pick
  have hp := List.length_pos_iff.2 hl
  obtain ⟨x, i1, h1, e, g, k⟩ := l1Below_ok b i h ((l.length : Nat) : Int) hi hb
  simp only [e, Option.bind_some]
  rw [idx_some' g.1 (g.2.1 (by omega))]
  simp only [Option.bind_some]
  exact ⟨_, _, _, rfl, List.getElem_mem _, k⟩
theorem l7Key_ok (b : List UInt8) (i h : Int) (hi : 0 ≤ i ∧ i ≤ b.length) (hb : b.length ≤ 1048576) : ∃ x i' h', spec_l7Key { b := b, i := i, h := h } = some (x, { b := b, i := i', h := h' }) ∧ x.length ≤ 3 ∧ (0 ≤ i' ∧ i' ≤ b.length) := by
  unfold spec_l7Key
  obtain ⟨x, i1, h1, e, g, k⟩ := l1Pick_ok b i h [[97], [98], [97, 98], [97, 98, 99], [98, 48], [99], [0], [122, 122]] (by simp) hi hb
  simp only [e, Option.bind_some]
  have : ∀ x ∈ ([[97], [98], [97, 98], [97, 98, 99], [98, 48], [99], [0], [122, 122]] : List (List UInt8)), x.length ≤ 3 := by decide
  exact ⟨_, _, _, rfl, this x g, k⟩
/-! reservations: what fits -/
theorem sharesV_iff (s : Shares) : sharesV s = true ↔ (0 ≤ s.Size ∧ s.Size ≤ 1000) ∧ s.List.length ≤ 4 ∧ (∀ x ∈ s.List, (1 ≤ x.Tenant ∧ x.Tenant ≤ 99) ∧ (0 ≤ x.Quota ∧ x.Quota ≤ 1000)) ∧ s.List.Pairwise (fun a b => a.Tenant < b.Tenant) ∧ allNeed s ≤ s.Size := by
  constructor
  · intro hv
    have hl := shares_lt hv
    unfold sharesV at hv
    simp only [Bool.and_eq_true, List.all_eq_true, decide_eq_true_eq] at hv
    refine ⟨hv.1, hv.2.1, fun x hx => ?_, ?_, hv.2.2.2⟩
    · obtain ⟨k, hk, rfl⟩ := List.getElem_of_mem hx
      have := hv.2.2.1 k (by simpa using hk)
      rw [shareP_at s.List k hk] at this
      simp only [Bool.and_eq_true, decide_eq_true_eq] at this
      exact ⟨this.1, this.2.1⟩
    · rw [List.pairwise_iff_getElem]
      intro i j hi hj hij
      exact hl j hj i hij
  · rintro ⟨h1, h2, h3, h4, h5⟩
    rw [List.pairwise_iff_getElem] at h4
    unfold sharesV
    rw [decide_eq_true h1, decide_eq_true h2, decide_eq_true h5]
    simp only [Bool.true_and, Bool.and_true, List.all_eq_true]
    intro k hk
    have hk' : k < s.List.length := by simpa using hk
    obtain ⟨g1, g2⟩ := h3 _ (List.getElem_mem hk')
    rw [shareP_at s.List k hk', decide_eq_true g1, decide_eq_true g2]
    simp only [Bool.true_and]
    by_cases h0 : 0 < k
    · rw [dif_pos h0]
      exact decide_eq_true (h4 (k - 1) k (by omega) hk' (by omega))
    · rw [dif_neg h0]
theorem ShareSet_form (s : Shares) (t q : Int) (hv : sharesV s = true) (h : s.List.length ≤ 1048576) : ∃ L M R : List Share, s.List = L ++ (M ++ R) ∧ (∀ y ∈ L, y.Tenant < t) ∧ (∀ y ∈ R, t < y.Tenant) ∧ (M = [] ∨ ∃ m : Share, M = [m] ∧ m.Tenant = t) ∧
    spec_ShareSet s t q = some (if sharesV { Size := s.Size, List := L ++ ({ Tenant := t, Quota := q } :: R) } = true then ({ Size := s.Size, List := L ++ ({ Tenant := t, Quota := q } :: R) }, true) else (s, false)) := by
  have hs4 := ((sharesV_iff s).1 hv).2.1
  obtain ⟨j, hj, h1, h2, h3⟩ := shareAt_cases s t hv h
  have hL : ∀ y ∈ s.List.take j, y.Tenant < t := by
    intro y hy
    obtain ⟨i, hi, rfl⟩ := List.getElem_of_mem hy
    rw [List.getElem_take]
    have : i < j := by simp at hi; omega
    exact h1 i (by omega) this
  have hR : ∀ D, (∀ i (hi : i < s.List.length), D ≤ i → t < s.List[i].Tenant) → ∀ y ∈ s.List.drop D, t < y.Tenant := by
    intro D hD y hy
    obtain ⟨i, hi, rfl⟩ := List.getElem_of_mem hy
    rw [List.getElem_drop]
    have : D + i < s.List.length := by simp at hi; omega
    exact hD _ this (by omega)
  rcases h3 with ⟨hjl, h4, h5⟩ | ⟨h4, h5⟩
  · have hD : ∀ i (hi : i < s.List.length), j + 1 ≤ i → t < s.List[i].Tenant := fun i hi hji => h2 i hi (by omega)
    exact ⟨s.List.take j, [s.List[j]], s.List.drop (j + 1), by rw [List.singleton_append, ← List.drop_eq_getElem_cons hjl, List.take_append_drop], hL, hR _ hD, .inr ⟨_, rfl, h5⟩, spec_ShareSet_at s t q j (j + 1) hv hs4 hj (.inr rfl) (by omega) h1 hD (fun _ _ => h5)⟩
  · exact ⟨s.List.take j, [], s.List.drop j, by rw [List.nil_append, List.take_append_drop], hL, hR _ h5, .inl rfl, spec_ShareSet_at s t q j j hv hs4 hj (.inl rfl) hj h1 h5 (fun e => by omega)⟩
theorem need_filter (p : Share → Bool) : ∀ l : List Share, ((l.filter p).map fun x => needV x.Quota).sum ≤ (l.map fun x => needV x.Quota).sum
  | [] => by simp
  | x :: l => by
    have h1 := need_filter p l
    have h2 := needV_range x.Quota
    rw [List.filter_cons]
    split
    · simp only [List.map_cons, List.sum_cons]; omega
    · simp only [List.map_cons, List.sum_cons]; omega
/-! rows of a log -/
/-! streams -/
/-! files sealed -/
/-! a known block -/
/-! all that an iterator meets -/
theorem l7Batch_ok (b : List UInt8) (i h : Int) (hi : 0 ≤ i ∧ i ≤ b.length) (hb : b.length ≤ 1048576) : ∃ l i' h', spec_l7Batch { b := b, i := i, h := h } = some (l, { b := b, i := i', h := h' }) ∧ l.length ≤ 8 ∧ (0 ≤ i' ∧ i' ≤ b.length) := by
  unfold spec_l7Batch
  obtain ⟨x1, i1, h1, e1, g1, k1⟩ := l1Below_ok b i h 4 hi hb
  have hx1 := g1.2.1 (by omega)
  simp only [e1, Option.bind_some]
  rw [wrap_ok (n := 1 + x1) (by omega) (by omega)]
  refine loopO_G (τ := Int × Int × Int × List Op) (ρ := Int × Int × List Op) (R := List Op × L1Cur) (G := fun o => ∃ l i' h', o = some (l, { b := b, i := i', h := h' }) ∧ l.length ≤ 8 ∧ (0 ≤ i' ∧ i' ≤ b.length)) (I := fun k S => (0 ≤ S.1 ∧ S.1 ≤ b.length) ∧ S.2.2.1 = 1 + x1 - (k : Int) ∧ S.2.2.2.length = k) (1 + x1).toNat (Q := fun r => ∃ p q a, r = .go (p, q, a) ∧ (0 ≤ p ∧ p ≤ b.length) ∧ 1 ≤ a.length ∧ a.length ≤ 4) ⟨k1, by simp, by simp⟩ ?_ ?_ ?_
  · rintro k ⟨p, q, c, d⟩ hk ⟨b1, b2, b3⟩
    simp only at b1 b2 b3
    subst b2
    left
    obtain ⟨x3, i3, h3, e3, g3, k3⟩ := l7Key_ok b p q b1 hb
    obtain ⟨x4, i4, h4, e4, k4⟩ := l1Once_ok b i3 h3 3 k3 hb
    simp only [e3, e4, Option.bind_some]
    rw [if_pos (by simp only [decide_eq_true_eq]; omega), wrap_ok (n := 1 + x1 - (k : Int) - 1) (by omega) (by omega)]
    cases x4 with
    | true =>
      simp only [if_true, bindC_go]
      rw [app_ok (by simp only [List.length_singleton]; omega) (by simp only [List.length_singleton]; omega)]
      exact ⟨_, rfl, k4, by simp only; omega, by simp only [List.length_append, List.length_singleton]; omega⟩
    | false =>
      obtain ⟨x5, i5, h5, e5, g5, k5⟩ := l1Text_ok b i4 h4 5 (by omega) k4 hb
      simp only [Bool.false_eq_true, if_false, e5, Option.bind_some, bindC_go]
      rw [app_ok (by simp only [List.length_singleton]; omega) (by simp only [List.length_singleton]; omega)]
      exact ⟨_, rfl, k5, by simp only; omega, by simp only [List.length_append, List.length_singleton]; omega⟩
  · rintro ⟨p, q, c, d⟩ ⟨b1, b2, b3⟩
    simp only at b1 b2 b3
    exact ⟨_, by simp only; rw [if_neg (by simp only [decide_eq_true_eq]; omega)], p, q, d, rfl, b1, by omega, by omega⟩
  rintro _ ⟨p, q, d, rfl, b1, b2, b3⟩
  obtain ⟨x5, i5, h5, e5, k5⟩ := l1Once_ok b p q 10 b1 hb
  simp only [bindC_go, e5, Option.bind_some]
  cases x5 with
  | false =>
    simp only [Bool.false_eq_true, if_false, bindC_go]
    exact ⟨_, _, _, rfl, by omega, k5⟩
  | true =>
    obtain ⟨x6, i6, h6, e6, g6, k6⟩ := l1Below_ok b i5 h5 ((d.length : Nat) : Int) k5 hb
    have hx6 := g6.2.1 (by omega)
    obtain ⟨x7, i7, h7, e7, g7, k7⟩ := l1Below_ok b i6 h6 4 k6 hb
    have hid := idx_some' (l := d) g6.1 hx6
    simp only [if_true, e6, e7, Option.bind_some, hid]
    by_cases c0 : x7 = 0
    · rw [decide_eq_true c0]
      obtain ⟨x8, i8, h8, e8, g8, k8⟩ := l1Pick_ok b i7 h7 [[], [97, 97, 97, 97, 97, 97, 97, 97, 97, 97], [97, 97, 97, 97, 97, 97, 97, 97, 97, 97, 97]] (by simp) k7 hb
      simp only [if_true, e8, Option.bind_some, bindC_go]
      exact ⟨_, _, _, rfl, by simp only [List.length_set]; omega, k8⟩
    · rw [decide_eq_false c0]
      simp only [Bool.false_eq_true, if_false]
      by_cases c1 : x7 = 1
      · rw [decide_eq_true c1]
        obtain ⟨x8, i8, h8, e8, g8, k8⟩ := l1Text_ok b i7 h7 1 (by omega) k7 hb
        simp only [if_true, e8, Option.bind_some]
        rw [cat_ok (by simp only [List.length_cons, List.length_nil]; omega)]
        simp only [Option.bind_some, bindC_go]
        exact ⟨_, _, _, rfl, by simp only [List.length_set]; omega, k8⟩
      · rw [decide_eq_false c1]
        simp only [Bool.false_eq_true, if_false]
        by_cases c2 : x7 = 2
        · rw [decide_eq_true c2]
          simp only [if_true]
          rw [app_ok (by omega) (by omega)]
          simp only [Option.bind_some, bindC_go]
          exact ⟨_, _, _, rfl, by simp only [List.length_append]; omega, k7⟩
        · rw [decide_eq_false c2]
          simp only [Bool.false_eq_true, if_false, bindC_go]
          exact ⟨_, _, _, rfl, by simp, k7⟩
theorem sameMap_eq (a b : List KV) (h : a.length ≤ 1048576) : laws_sameMap a b = some (decide (a = b)) := by
  unfold laws_sameMap
  have := eqS_of a b (fun x y => some (decide (x.Key = y.Key) && (decide (x.Val = y.Val) && true))) (fun x y _ _ => by
    congr 1
    obtain ⟨x1, x2⟩ := x
    obtain ⟨y1, y2⟩ := y
    simp only [KV.mk.injEq, Bool.and_true, Bool.decide_and]) (by omega)
  simp only [Option.bind_some] at this
  exact this
/-! compaction keeps what is seen -/
/-! draws of entries -/
/-! stable order: lists in order, class by class -/
/-! two elements change places -/
theorem loopO_bind {τ ρ R : Type} {body : τ → Option (Ctl τ (Ctl ρ R))} {s0 : τ} {k : ρ → Option R} {res : R} (I : Nat → τ → Prop) (n : Nat) (Q : Ctl ρ R → Prop) (h0 : I 0 s0)
    (h : ∀ k s, k < n → I k s → (∃ s', body s = some (.go s') ∧ I (k + 1) s') ∨ (∃ r, body s = some (.done r) ∧ Q r)) (hn : ∀ s, I n s → ∃ r, body s = some (.done r) ∧ Q r)
    (hk : ∀ r, Q r → bindC (some r) k = some res) : bindC (loopO body s0) k = some res := by
  obtain ⟨r, hr, hq⟩ := loopO_total I n Q h0 h hn
  rw [hr]
  exact hk r hq
theorem take_snoc {α : Type} (l : List α) (t : Nat) (h : t < l.length) : l.take (t + 1) = l.take t ++ [l[t]] := by
  rw [List.take_add_one, List.getElem?_eq_getElem h]; rfl
/-! the merge of two parts beside each other -/
/-! the first of each class, in order -/
/-! an engine's tables merged into one -/
/-! the merge and the flush that follow a put -/
/-! all entries of an engine -/
/-! the map of an engine -/
/-! batches as text -/
theorem opV_iff {o : Op} (h : opV o = true) : (1 ≤ o.Key.length ∧ o.Key.length ≤ 10) ∧ o.Val.length ≤ 16 ∧ (o.Del = true → o.Val = []) := by
  unfold opV at h
  simp only [Bool.and_eq_true, Bool.or_eq_true, decide_eq_true_eq] at h
  refine ⟨by omega, by omega, fun hd => ?_⟩
  rw [hd] at h
  simpa using h.2.2
theorem batchV_iff {l : List Op} (h : batchV l = true) : (1 ≤ l.length ∧ l.length ≤ 6) ∧ ∀ o ∈ l, opV o = true := by
  unfold batchV at h
  simpa using h
theorem len32 (key : List UInt8) : decide (((key.length : Nat) : Int) = 32) = decide (key.length = 32) := decide_eq_decide.2 (by omega)
/-! batches read -/
/-! ## two rows of one place -/
/-! ## what an engine shows -/
def srtK (m : List KV) : Prop := m.Pairwise fun a b => sLt a.Key b.Key = true
/-! ## drawn engines -/
theorem bindC_ex {τ R : Type} {m : Option (Ctl τ R)} {k : τ → Option R} {P : Option R → Prop} (Q : τ → Prop) (h : ∃ t, m = some (.go t) ∧ Q t) (hk : ∀ t, Q t → P (k t)) : P (bindC m k) := by
  obtain ⟨t, rfl, hq⟩ := h
  exact hk t hq
def goO {T R : Type} (Q : T → Prop) (o : Option (Ctl T R)) : Prop := ∃ t, o = some (.go t) ∧ Q t
/-! ## the law of engines -/
theorem l1Size_ok (code : List UInt8) (most : Int) (h : code.length ≤ 1048576) (hm : 2 ≤ most ∧ most ≤ 1000) : ∃ n, spec_l1Size code most = some n ∧ 0 < n ∧ n ≤ 1000 := by
  unfold spec_l1Size
  have hd : Int.tdiv ((code.length : Nat) : Int) 20 = ((code.length / 20 : Nat) : Int) := rfl
  rw [hd, wrap_ok (n := ((code.length / 20 : Nat) : Int)) (by omega) (by omega), wrap_ok (by omega) (by omega)]
  by_cases c : (2 : Int) + ((code.length / 20 : Nat) : Int) > most
  · exact ⟨_, if_pos (by simpa using c), by omega, by omega⟩
  · exact ⟨_, if_neg (by simpa using c), by omega, by omega⟩
/-! ## a put, as it shows -/
def opL (l : List Op) (key : List UInt8) : Option Op := l.reverse.find? fun o => decide (o.Key = key)
theorem opL_cons (a : Op) (t : List Op) (key : List UInt8) : opL (a :: t) key = (opL t key).or (if a.Key = key then some a else none) := by
  unfold opL
  rw [List.reverse_cons, List.find?_append]
  by_cases c : a.Key = key <;> simp [c]
theorem opL_iff (l : List Op) (key : List UInt8) (o : Op) : opL l key = some o ↔ ∃ i, ∃ hi : i < l.length, laterV l i key = false ∧ l[i].Key = key ∧ o = l[i] := by
  induction l with
  | nil => simp [opL]
  | cons a t ih =>
    rw [opL_cons]
    have h0 : ∀ i, laterV (a :: t) (i + 1) key = laterV t i key := fun i => by simp [laterV]
    have h1 : laterV (a :: t) 0 key = t.any fun x => decide (x.Key = key) := by simp [laterV]
    have hnone : opL t key = none ↔ (t.any fun x => decide (x.Key = key)) = false := by
      unfold opL
      rw [List.find?_eq_none, List.any_eq_false]
      simp
    constructor
    · intro h
      cases hq : opL t key with
      | some x =>
        rw [hq, Option.some_or] at h
        obtain ⟨i, hi, h2, h3, h4⟩ := ih.1 (hq.trans h)
        exact ⟨i + 1, by simp; omega, by rw [h0]; exact h2, h3, h4⟩
      | none =>
        rw [hq, Option.none_or] at h
        by_cases c : a.Key = key
        · rw [if_pos c] at h
          exact ⟨0, by simp, by rw [h1]; exact hnone.1 hq, c, (Option.some.inj h).symm⟩
        · rw [if_neg c] at h; cases h
    · rintro ⟨i, hi, h2, h3, rfl⟩
      cases i with
      | zero =>
        rw [h1] at h2
        rw [hnone.2 h2, Option.none_or]
        exact if_pos h3
      | succ i =>
        rw [h0] at h2
        have := ih.2 ⟨i, by simpa using hi, h2, h3, rfl⟩
        simp only [List.getElem_cons_succ]
        rw [this]; rfl
/-! maps as they are put -/
def newK (o : Op) : List KV := bif o.Del then [] else [{ Key := o.Key, Val := o.Val }]
def putK (m : List KV) (o : Op) : List KV := m.filter (fun x => sLt x.Key o.Key) ++ (newK o ++ m.filter (fun x => sLt o.Key x.Key))
def applyK (m : List KV) (l : List Op) : List KV := l.foldl putK m
theorem newK_mem (o : Op) (kv : KV) : kv ∈ newK o ↔ o.Del = false ∧ kv.Key = o.Key ∧ kv.Val = o.Val := by
  unfold newK
  obtain ⟨k, v⟩ := kv
  cases o.Del <;> simp
theorem putK_mem (m : List KV) (o : Op) (kv : KV) : kv ∈ putK m o ↔ (o.Del = false ∧ kv.Key = o.Key ∧ kv.Val = o.Val) ∨ (kv.Key ≠ o.Key ∧ kv ∈ m) := by
  unfold putK
  rw [List.mem_append, List.mem_append, newK_mem, List.mem_filter, List.mem_filter]
  constructor
  · rintro (⟨h1, h2⟩ | h | ⟨h1, h2⟩)
    · exact .inr ⟨fun h => by (rw [h, sLt_irrefl] at h2; cases h2), h1⟩
    · exact .inl h
    · exact .inr ⟨fun h => by (rw [h, sLt_irrefl] at h2; cases h2), h1⟩
  · rintro (h | ⟨h1, h2⟩)
    · exact .inr (.inl h)
    · cases c1 : sLt kv.Key o.Key with
      | true => exact .inl ⟨h2, rfl⟩
      | false =>
        cases c2 : sLt o.Key kv.Key with
        | true => exact .inr (.inr ⟨h2, rfl⟩)
        | false => exact absurd (sLt_same c1 c2) h1
theorem putK_srt {m : List KV} (h : srtK m) (o : Op) : srtK (putK m o) := by
  unfold putK srtK
  rw [List.pairwise_append, List.pairwise_append]
  refine ⟨h.filter _, ⟨?_, h.filter _, ?_⟩, ?_⟩
  · unfold newK; cases o.Del <;> simp
  · intro a ha b hb
    rw [((newK_mem o a).1 ha).2.1]
    exact (List.mem_filter.1 hb).2
  · intro a ha b hb
    have h1 := (List.mem_filter.1 ha).2
    rcases List.mem_append.1 hb with hb | hb
    · rw [((newK_mem o b).1 hb).2.1]; exact h1
    · exact sLt_trans h1 (List.mem_filter.1 hb).2
theorem applyK_srt (l : List Op) : ∀ {m : List KV}, srtK m → srtK (applyK m l) := by
  induction l with
  | nil => intro m h; exact h
  | cons a t ih => intro m h; exact ih (putK_srt h a)
theorem applyK_mem (l : List Op) : ∀ (m : List KV) (kv : KV), kv ∈ applyK m l ↔ match opL l kv.Key with | some o => o.Del = false ∧ kv.Val = o.Val | none => kv ∈ m := by
  induction l with
  | nil => intro m kv; simp [applyK, opL]
  | cons a t ih =>
    intro m kv
    show kv ∈ applyK (putK m a) t ↔ _
    rw [ih, opL_cons]
    cases hq : opL t kv.Key with
    | some o => simp
    | none =>
      simp only [Option.none_or]
      rw [putK_mem]
      by_cases c : a.Key = kv.Key
      · simp [c]
      · have : kv.Key ≠ a.Key := fun h => c h.symm
        simp [c, this]
theorem applyK_len (l : List Op) : ∀ m : List KV, (applyK m l).length ≤ m.length + l.length := by
  induction l with
  | nil => intro m; simp [applyK]
  | cons a t ih =>
    intro m
    have h1 := ih (putK m a)
    have h2 : (putK m a).length ≤ m.length + 1 := by
      unfold putK newK
      have q : (m.filter fun x => sLt x.Key a.Key).length + (m.filter fun x => sLt a.Key x.Key).length ≤ m.length := by
        clear h1
        induction m with
        | nil => simp
        | cons x r ihm =>
          simp only [List.filter_cons, List.length_cons]
          cases c1 : sLt x.Key a.Key with
          | true => rw [sLt_asymm c1]; simp; omega
          | false => cases sLt a.Key x.Key <;> simp <;> omega
      cases a.Del <;> simp <;> omega
    show (applyK (putK m a) t).length ≤ _
    simp only [List.length_cons]
    omega
def kvV (x : KV) : Bool := opV { Key := x.Key, Del := false, Val := x.Val }
theorem applyK_kv {m : List KV} {l : List Op} (hm : ∀ x ∈ m, kvV x = true) (hb : batchV l = true) : ∀ x ∈ applyK m l, kvV x = true := by
  intro x hx
  rw [applyK_mem] at hx
  unfold batchV at hb
  rw [Bool.and_eq_true, List.all_eq_true] at hb
  cases hq : opL l x.Key with
  | none => rw [hq] at hx; exact hm x hx
  | some o =>
    rw [hq] at hx
    obtain ⟨i, hi, _, h3, rfl⟩ := (opL_iff l _ o).1 hq
    have := hb.2 _ (List.getElem_mem hi)
    unfold opV at this
    simp only [Bool.and_eq_true] at this
    unfold kvV opV
    simp only [Bool.not_false, Bool.true_or, Bool.and_true, Bool.and_eq_true]
    rw [← h3, hx.2]
    exact ⟨this.1, this.2.1⟩
theorem putK_cut {m : List KV} {o : Op} (p : Nat) (h1 : ∀ x ∈ m.take p, sLt x.Key o.Key = true) (h2 : ∀ x ∈ m.drop p, sLt x.Key o.Key = false) : putK m o = m.take p ++ (newK o ++ (m.drop p).filter fun x => !decide (x.Key = o.Key)) := by
  unfold putK
  have e : m = m.take p ++ m.drop p := (List.take_append_drop p m).symm
  have a1 : m.filter (fun x => sLt x.Key o.Key) = m.take p := by
    conv => lhs; rw [e]
    rw [List.filter_append, List.filter_eq_self.2 h1, List.filter_eq_nil_iff.2 fun x hx => by rw [h2 x hx]; simp, List.append_nil]
  have a2 : m.filter (fun x => sLt o.Key x.Key) = (m.drop p).filter fun x => !decide (x.Key = o.Key) := by
    conv => lhs; rw [e]
    rw [List.filter_append, List.filter_eq_nil_iff.2 fun x hx => by rw [sLt_asymm (h1 x hx)]; simp, List.nil_append]
    refine List.filter_congr fun x hx => ?_
    by_cases c : x.Key = o.Key
    · rw [c, sLt_irrefl]; simp
    · rw [decide_eq_false c]
      cases c2 : sLt o.Key x.Key with
      | true => rfl
      | false => exact absurd (sLt_same (h2 x hx) c2) c
  rw [a1, a2]
theorem spec_l7Put_eq (m : List KV) (o : Op) (hm : srtK m) (hl : m.length ≤ 1000000) : spec_l7Put m o = some (putK m o) := by
  unfold spec_l7Put
  refine loopO_bind (fun k (S : Bool × Int × List KV) => S.2.1 = (k : Int) ∧ ((S.1 = o.Del ∧ S.2.2 = m.take k ∧ ∀ x ∈ m.take k, sLt x.Key o.Key = true) ∨
      (S.1 = true ∧ ∃ p, p ≤ k ∧ S.2.2 = m.take p ++ (newK o ++ ((m.take k).drop p).filter fun x => !decide (x.Key = o.Key)) ∧ (∀ x ∈ m.take p, sLt x.Key o.Key = true) ∧ ∀ x ∈ m.drop p, sLt x.Key o.Key = false))) m.length
    (fun r => ∃ b a, r = .go (b, a) ∧ ((b = o.Del ∧ a = m ∧ ∀ x ∈ m, sLt x.Key o.Key = true) ∨ (b = true ∧ a = putK m o))) ⟨rfl, .inl ⟨rfl, by simp, by simp⟩⟩ ?_ ?_ ?_
  · rintro k ⟨b, c, a⟩ hk ⟨hc, hS⟩
    simp only at hc hS
    subst hc
    left
    have htk : m.take (k + 1) = m.take k ++ [m[k]] := by rw [List.take_add_one, List.getElem?_eq_getElem hk]; rfl
    have hw : IntKind.i64.wrap ((k : Int) + 1) = ((k + 1 : Nat) : Int) := by rw [wrap_ok (by omega) (by omega)]; omega
    have ap : ∀ (x y : List KV), x.length ≤ 1000001 → y.length ≤ 1 → app 32 x y = some (x ++ y) := fun x y h1 h2 => app_ok (by omega) (by omega)
    simp only [idx_nat m k hk, Option.bind_some, hw]
    rw [if_pos (by simpa using hk)]
    rcases hS with ⟨hb, ha, hlt⟩ | ⟨hb, p, hp, ha, hlt, hge⟩
    · subst hb ha
      have hla : (m.take k).length ≤ 1000000 := by simp; omega
      cases c1 : sLt m[k].Key o.Key with
      | true =>
        have hne : ¬ m[k].Key = o.Key := fun h => by rw [h, sLt_irrefl] at c1; cases c1
        refine ⟨(o.Del, ((k + 1 : Nat) : Int), m.take (k + 1)), ?_, rfl, .inl ⟨rfl, rfl, ?_⟩⟩
        · rw [htk]
          cases o.Del <;> simp [hne, bindC, ap (m.take k) [m[k]] (by omega) (by simp)]
        · intro x hx
          rw [htk, List.mem_append] at hx
          rcases hx with hx | hx
          · exact hlt x hx
          · rw [List.mem_singleton.1 hx]; exact c1
      | false =>
        have hge : ∀ x ∈ m.drop k, sLt x.Key o.Key = false := by
          intro x hx
          rw [List.drop_eq_getElem_cons hk] at hx
          rcases List.mem_cons.1 hx with rfl | hx
          · exact c1
          · have hpw := hm
            unfold srtK at hpw
            rw [← List.take_append_drop k m, List.pairwise_append, List.drop_eq_getElem_cons hk] at hpw
            have hlt2 := (List.pairwise_cons.1 hpw.2.1).1 x hx
            cases c2 : sLt x.Key o.Key with
            | false => rfl
            | true => rw [sLt_trans hlt2 c2] at c1; cases c1
        refine ⟨(true, ((k + 1 : Nat) : Int), m.take k ++ (newK o ++ ((m.take (k + 1)).drop k).filter fun x => !decide (x.Key = o.Key))), ?_, rfl, .inr ⟨rfl, k, by omega, rfl, hlt, hge⟩⟩
        have hd : (m.take (k + 1)).drop k = [m[k]] := by rw [htk, List.drop_append_of_le_length (by simp; omega)]; simp
        rw [hd]
        unfold newK
        cases o.Del with
        | true =>
          by_cases c2 : m[k].Key = o.Key
          · simp [c2, bindC]
          · simp [c2, bindC, ap (m.take k) [m[k]] (by omega) (by simp)]
        | false =>
          by_cases c2 : m[k].Key = o.Key
          · simp [c2, bindC, ap (m.take k) [({ Key := o.Key, Val := o.Val } : KV)] (by omega) (by simp)]
          · simp [c2, bindC, ap (m.take k) [({ Key := o.Key, Val := o.Val } : KV)] (by omega) (by simp), ap (m.take k ++ [({ Key := o.Key, Val := o.Val } : KV)]) [m[k]] (by simp; omega) (by simp)]
    · subst hb ha
      have hd : (m.take (k + 1)).drop p = (m.take k).drop p ++ [m[k]] := by rw [htk, List.drop_append_of_le_length (by simp; omega)]
      have hlen : (m.take p ++ (newK o ++ ((m.take k).drop p).filter fun x => !decide (x.Key = o.Key))).length ≤ 1000001 := by
        have q1 : (newK o).length ≤ 1 := by unfold newK; cases o.Del <;> simp
        have q2 := List.length_filter_le (fun x => !decide (x.Key = o.Key)) ((m.take k).drop p)
        simp only [List.length_append, List.length_take, List.length_drop] at *
        omega
      refine ⟨(true, ((k + 1 : Nat) : Int), m.take p ++ (newK o ++ ((m.take (k + 1)).drop p).filter fun x => !decide (x.Key = o.Key))), ?_, rfl, .inr ⟨rfl, p, by omega, rfl, hlt, hge⟩⟩
      rw [hd, List.filter_append]
      by_cases c2 : m[k].Key = o.Key
      · simp [c2, bindC]
      · rw [show [m[k]].filter (fun x => !decide (x.Key = o.Key)) = [m[k]] by simp [c2]]
        simp only [Bool.not_true, Bool.false_eq_true, if_false, Option.bind_some, bindC_go, decide_eq_false c2, Bool.not_false, if_true]
        rw [ap _ [m[k]] hlen (by simp)]
        simp
  · rintro ⟨b, c, a⟩ ⟨hc, hS⟩
    simp only at hc hS
    subst hc
    refine ⟨.go (b, a), by simp, b, a, rfl, ?_⟩
    rcases hS with ⟨hb, ha, hlt⟩ | ⟨hb, p, hp, ha, hlt, hge⟩
    · left
      rw [List.take_length] at ha hlt
      exact ⟨hb, ha, hlt⟩
    · right
      rw [List.take_length] at ha
      exact ⟨hb, by rw [ha, putK_cut p hlt hge]⟩
  · rintro r ⟨b, a, rfl, ⟨hb, ha, hlt⟩ | ⟨hb, ha⟩⟩
    · subst hb ha
      have hp : putK a o = a ++ newK o := by
        have := putK_cut (m := a) (o := o) a.length (by rw [List.take_length]; exact hlt) (by simp)
        simpa using this
      rw [hp]
      unfold newK
      cases o.Del with
      | true => simp [bindC]
      | false =>
        have ha : app 32 a [({ Key := o.Key, Val := o.Val } : KV)] = some (a ++ [{ Key := o.Key, Val := o.Val }]) := app_ok (by simp; omega) (by simp; omega)
        simp [bindC, ha]
    · subst hb ha
      simp [bindC]
theorem MapOk_true (m : List KV) (h1 : srtK m) (h2 : ∀ x ∈ m, kvV x = true) (hl : m.length ≤ 1000000) : spec_MapOk m = some true := by
  unfold spec_MapOk
  refine loopO_bind (fun k s => s = (k : Int)) m.length (fun r => r = .go ()) rfl ?_ ?_ (fun r hr => by rw [hr]; rfl)
  · rintro k _ hk rfl
    left
    have hv : opV { Key := m[k].Key, Del := false, Val := m[k].Val } = true := h2 _ (List.getElem_mem hk)
    refine ⟨((k + 1 : Nat) : Int), ?_, rfl⟩
    simp only [idx_nat m k hk, Option.bind_some, spec_l7Op_eq, hv]
    rw [if_pos (by simpa using hk), wrap_ok (n := (k : Int) + 1) (by omega) (by omega)]
    by_cases h0 : 0 < k
    · have hlt := List.pairwise_iff_getElem.1 h1 (k - 1) k (by omega) hk (by omega)
      rw [wrap_ok (n := (k : Int) - 1) (by omega) (by omega), show (k : Int) - 1 = ((k - 1 : Nat) : Int) by omega, idx_nat m (k - 1) (by omega)]
      simp [hlt]
    · have : k = 0 := by omega
      subst this
      simp
  · rintro _ rfl
    exact ⟨.go (), by simp, rfl⟩
theorem ApplyBatch_eq (m : List KV) (l : List Op) (h1 : srtK m) (h2 : ∀ x ∈ m, kvV x = true) (hm : m.length ≤ 100000) (hl : l.length ≤ 1000) : spec_ApplyBatch m l = some (bif batchV l then (applyK m l, true) else (m, false)) := by
  unfold spec_ApplyBatch
  rw [MapOk_true m h1 h2 (by omega)]
  simp only [Option.bind_some, Bool.not_true, Bool.false_eq_true, if_false]
  rw [app_ok (by simp only [List.length_nil]; omega) (by simp only [List.length_nil]; omega), spec_BatchOk_eq l (by omega)]
  simp only [Option.bind_some, List.nil_append]
  cases batchV l with
  | false => rfl
  | true =>
    simp only [Bool.not_true, Bool.false_eq_true, if_false, cond_true]
    refine loopO_bind (fun k (S : Int × List KV) => S = ((k : Int), applyK m (l.take k))) l.length (fun r => r = .go (applyK m l)) rfl ?_ ?_ (fun r hr => by rw [hr]; rfl)
    · rintro k _ hk rfl
      left
      have htk : l.take (k + 1) = l.take k ++ [l[k]] := by rw [List.take_add_one, List.getElem?_eq_getElem hk]; rfl
      have hlen := applyK_len (l.take k) m
      refine ⟨_, ?_, rfl⟩
      simp only [idx_nat l k hk, Option.bind_some]
      rw [if_pos (by simpa using hk), spec_l7Put_eq _ _ (applyK_srt _ h1) (by simp at hlen; omega), wrap_ok (n := (k : Int) + 1) (by omega) (by omega)]
      simp only [Option.bind_some]
      rw [htk, show applyK m (l.take k ++ [l[k]]) = putK (applyK m (l.take k)) l[k] by simp only [applyK, List.foldl_append, List.foldl_cons, List.foldl_nil]]
      rfl
    · rintro _ rfl
      refine ⟨.go (applyK m l), ?_, rfl⟩
      simp [List.take_length]
/-! ## batches read: what is read is what was shown -/
/-! ## batches read by the reference -/
/-! ## stores as required -/
def fstV {α : Type} (p : α → Bool) (l : List α) : Int := match l.findIdx? p with
  | some j => (j : Int)
  | none => -1
theorem fst_loop {α R : Type} (p : α → Bool) (l : List α) (hl : l.length ≤ 1048576) {body : Int → Option (Ctl Int (Ctl Unit R))} (g : Int → R) {f : Unit → Option R} {z : R} (hf : f () = some z)
    (h : ∀ k (hk : k < l.length), body (k : Int) = some (if p l[k] = true then .done (.done (g (k : Int))) else .go ((k : Int) + 1))) (hn : body (l.length : Int) = some (.done (.go ()))) :
    bindC (loopO body 0) f = some (match l.findIdx? p with | some j => g (j : Int) | none => z) := by
  have key : ∀ (n k : Nat), k + n = l.length → (∀ i (hi : i < l.length), i < k → p l[i] = false) → bindC (loopO body (k : Int)) f = some (match l.findIdx? p with | some j => g (j : Int) | none => z) := by
    intro n
    induction n with
    | zero =>
      intro k hk hno
      have : k = l.length := by omega
      subst this
      rw [loopO_eq, hn]
      have : l.findIdx? p = none := by
        rw [List.findIdx?_eq_none_iff]
        intro x hx
        obtain ⟨i, hi, rfl⟩ := List.getElem_of_mem hx
        exact hno i hi hi
      rw [this]
      exact hf
    | succ n ih =>
      intro k hk hno
      have hk' : k < l.length := by omega
      rw [loopO_eq, h k hk']
      cases hp : p l[k] with
      | true =>
        have : l.findIdx? p = some k := by
          rw [List.findIdx?_eq_some_iff_getElem]
          exact ⟨hk', hp, fun j hj => by rw [hno j (by omega) hj]; simp⟩
        rw [this]
        rfl
      | false =>
        simp only [Bool.false_eq_true, if_false]
        have := ih (k + 1) (by omega) (fun i hi hik => by
          rcases Nat.lt_succ_iff_lt_or_eq.1 hik with h | rfl
          · exact hno i hi h
          · exact hp)
        rw [show (k : Int) + 1 = ((k + 1 : Nat) : Int) by omega]
        exact this
  exact key l.length 0 (by omega) (fun i _ h => by omega)
/-! ## the model: lists of tenants and rows -/
theorem fstV_eq {α : Type} (p : α → Bool) (l : List α) : (∃ j, ∃ hj : j < l.length, fstV p l = (j : Int) ∧ p l[j] = true ∧ ∀ i (hi : i < j), p (l[i]'(by omega)) = false) ∨ (fstV p l = -1 ∧ ∀ x ∈ l, p x = false) := by
  unfold fstV
  cases h : l.findIdx? p with
  | none => exact .inr ⟨rfl, by simpa using h⟩
  | some j =>
    obtain ⟨hj, h1, h2⟩ := List.findIdx?_eq_some_iff_getElem.1 h
    exact .inl ⟨j, hj, rfl, h1, fun i hi => by simpa using h2 i hi⟩
theorem spec_l21At_eq (l : List MTen) (id : Int) (h : l.length ≤ 1048576) : spec_l21At l id = some (fstV (fun t => decide (t.Id = id)) l) := by
  unfold spec_l21At fstV
  refine fst_loop (fun t : MTen => decide (t.Id = id)) l h (fun j => j) rfl (fun k hk => ?_) (by simp)
  simp only [idx_nat l k hk, Option.bind_some]
  rw [if_pos (by simpa using hk), wrap_ok (by omega) (by omega)]
  cases decide (l[k].Id = id) <;> rfl
theorem impl_tenAt_eq (l : List MTen) (id : Int) (h : l.length ≤ 1048576) : impl_tenAt l id = some (fstV (fun t => decide (t.Id = id)) l) := by
  unfold impl_tenAt slices_IndexFunc_81204_at_impl_tenAt_1 fstV
  rw [fst_loop (fun t : MTen => decide (t.Id = id)) l h (fun j => j) rfl (fun k hk => ?_) (by simp)]
  · rfl
  · simp only [idx_nat l k hk, Option.bind_some, impl_tenAt_1]
    rw [if_pos (by simpa using hk), wrap_ok (by omega) (by omega)]
    cases decide (l[k].Id = id) <;> rfl
def wholeO {α : Type} (l : List α) (k : Nat) (ls : List (Option α)) : Prop := ls.length = l.length ∧ ∀ i (hi : i < l.length), k ≤ i → ls[i]? = some (some l[i])
theorem wholeO_map {α : Type} (l : List α) : wholeO l 0 (l.map some) := ⟨by simp, fun i hi _ => by simp [hi]⟩
theorem wholeO_idx {α : Type} {l : List α} {k : Nat} {ls : List (Option α)} (h : wholeO l k ls) (hk : k < l.length) : idx ls (k : Int) = some (some l[k]) := by
  unfold idx
  rw [if_pos (by omega), Int.toNat_natCast]
  exact h.2 k hk (Nat.le_refl _)
theorem wholeO_next {α : Type} {l : List α} {k : Nat} {ls : List (Option α)} (h : wholeO l k ls) : wholeO l (k + 1) ls := ⟨h.1, fun i hi hk => h.2 i hi (by omega)⟩
theorem wholeO_set {α : Type} {l : List α} {k j : Nat} {ls : List (Option α)} {o : Option α} (h : wholeO l k ls) (hj : j < k) : wholeO l k (ls.set j o) :=
  ⟨by rw [List.length_set, h.1], fun i hi hk => by rw [List.getElem?_set_ne (by omega)]; exact h.2 i hi hk⟩
theorem filt_take {α : Type} (p : α → Bool) (l : List α) (k : Nat) (hk : k < l.length) : (l.take (k + 1)).filter p = (l.take k).filter p ++ (if p l[k] = true then [l[k]] else []) := by
  rw [take_snoc l k hk, List.filter_append]
  cases hp : p l[k] <;> simp [hp]
theorem move_loop {α R : Type} (p : α → Bool) (by_ : Nat) (hby : by_ ≤ 100) (l : List α) (hl : l.length ≤ 1048576) {body : Int × List (Option α) × List α → Option (Ctl (Int × List (Option α) × List α) (Ctl (List α) R))} {f : List α → Option R} {z : R}
    (hb : ∀ (k : Nat) ls out, body ((k : Int), ls, out) = if (decide ((k : Int) < ((ls.length : Nat) : Int))) = true then ((idx ls (k : Int)).bind fun E7 =>
  (E7).bind fun E10 =>
  bindC (if p E10 = true then ((app by_ out ([E10])).bind fun E18 =>
  some (.go ((ls.set ((k : Nat) : Int).toNat none), E18)))
  else (some (.go (ls, out))))
  (fun (T12 : List (Option α) × List α) => some (.go (IntKind.i64.wrap ((k : Int) + (1 : Int)), T12.1, T12.2))))
  else (some (.done (.go out))))
    (hf : f (l.filter p) = some z) : bindC (loopO body ((0 : Int), l.map some, ([] : List α))) f = some z := by
  refine loopO_bind (fun k (S : Int × List (Option α) × List α) => S.1 = (k : Int) ∧ wholeO l k S.2.1 ∧ S.2.2 = (l.take k).filter p) l.length (fun r => r = .go (l.filter p)) ⟨rfl, wholeO_map l, by simp⟩ ?_ ?_ ?_
  · rintro k ⟨i, ls, out⟩ hk ⟨h1, h2, h3⟩
    simp only at h1 h2 h3
    subst h1 h3
    left
    have hlen : ((l.take k).filter p).length ≤ k := Nat.le_trans (List.length_filter_le _ _) (by simp; omega)
    rw [hb, if_pos (by rw [h2.1]; simpa using hk), wholeO_idx h2 hk, Option.bind_some, Option.bind_some, wrap_ok (n := (k : Int) + 1) (by omega) (by omega)]
    cases hp : p l[k] with
    | true =>
      rw [if_pos rfl, app_ok (by simp only [List.length_singleton]; have : (((l.take k).filter p).length + 1) * by_ ≤ 1048577 * 100 := Nat.mul_le_mul (by omega) hby; omega) (by simp only [List.length_singleton]; omega)]
      refine ⟨_, rfl, rfl, wholeO_set (wholeO_next h2) (by simp), ?_⟩
      rw [filt_take p l k hk, hp]; rfl
    | false =>
      rw [if_neg (by simp)]
      refine ⟨_, rfl, rfl, wholeO_next h2, ?_⟩
      rw [filt_take p l k hk, hp]; simp
  · rintro ⟨i, ls, out⟩ ⟨h1, h2, h3⟩
    simp only at h1 h2 h3
    subst h1 h3
    refine ⟨_, ?_, rfl⟩
    rw [hb, if_neg (by rw [h2.1]; simp), List.take_length]
  · rintro r rfl
    exact hf
def noTen (id : Int) (l : List MTen) : List MTen := l.filter fun t => !decide (t.Id = id)
def noRow (id : Int) (l : List MRow) : List MRow := l.filter fun t => !decide (t.Tenant = id)
theorem spec_l21Without_eq (l : List MTen) (id : Int) (h : l.length ≤ 1048576) : spec_l21Without l id = some (noTen id l) := by
  unfold spec_l21Without
  exact move_loop (fun t : MTen => !decide (t.Id = id)) 72 (by decide) l h (fun k ls out => rfl) rfl
theorem spec_l21Rows_eq (l : List MRow) (id : Int) (h : l.length ≤ 1048576) : spec_l21Rows l id = some (noRow id l) := by
  unfold spec_l21Rows
  exact move_loop (fun t : MRow => !decide (t.Tenant = id)) 40 (by decide) l h (fun k ls out => rfl) rfl
/-! ## maps in order: a key found, set, dropped -/
theorem cmpS_sign : ∀ s u : List UInt8, (cmpS s u < 0 ↔ sLt s u = true) ∧ (cmpS s u = 0 ↔ s = u)
  | [], [] => by simp [cmpS, Lib.compareBytes, sLt, Op.bytesLess]
  | [], _ :: _ => by simp [cmpS, Lib.compareBytes, sLt, Op.bytesLess]
  | _ :: _, [] => by simp [cmpS, Lib.compareBytes, sLt, Op.bytesLess]
  | a :: s, b :: u => by
    have ih := cmpS_sign s u
    have e1 : cmpS (a :: s) (b :: u) = if a < b then -1 else if b < a then 1 else cmpS s u := rfl
    have e2 : sLt (a :: s) (b :: u) = (decide (a < b) || (a == b && sLt s u)) := rfl
    rw [e1, e2]
    by_cases h1 : a < b
    · have hne : a ≠ b := fun h => by subst h; exact absurd h1 (UInt8.lt_irrefl a)
      simp [h1, hne]
    · by_cases h2 : b < a
      · have hne : a ≠ b := fun h => by subst h; exact absurd h2 (UInt8.lt_irrefl a)
        simp [h1, h2, hne]
      · have : a = b := UInt8.le_antisymm (UInt8.not_lt.1 h2) (UInt8.not_lt.1 h1)
        subst this
        simp [h1, ih]
theorem findKey_eq (m : List KV) (key : List UInt8) (hm : srtK m) (hl : m.length ≤ 1048576) : ∃ j, ∃ hj : j ≤ m.length, (∀ i (hi : i < m.length), i < j → sLt m[i].Key key = true) ∧ (∀ i (hi : i < m.length), j ≤ i → sLt m[i].Key key = false) ∧
    impl_findKey m key = some ((j : Int), if h : j < m.length then decide (m[j].Key = key) else false) := by
  obtain ⟨j, hj, hb, h1, h2⟩ := bisect (ρ := Int × Bool) m (fun x => impl_findKey_1 x key) (fun x => cmpS x.Key key) (fun x _ => rfl) hl
  have hp : ∀ a b (ha : a < m.length) (hb : b < m.length), a < b → sLt m[a].Key m[b].Key = true := fun a b ha hb hab => List.pairwise_iff_getElem.1 hm a b ha hb hab
  refine ⟨j, hj, fun i hi hij => ?_, fun i hi hij => ?_, ?_⟩
  · have h3 := (cmpS_sign _ _).1.1 (h1 (j - 1) (by omega) (by omega))
    by_cases e : i = j - 1
    · subst e; exact h3
    · exact sLt_trans (hp i (j - 1) hi (by omega) (by omega)) h3
  · have hjl : j < m.length := by omega
    have h3 := h2 hjl
    cases hc : sLt m[i].Key key with
    | false => rfl
    | true =>
      have h4 : sLt m[j].Key key = true := by
        by_cases e : j = i
        · subst e; exact hc
        · exact sLt_trans (hp j i hjl hi (by omega)) hc
      have := (cmpS_sign _ _).1.2 h4
      omega
  · unfold impl_findKey slices_BinarySearchFunc_58577_at_impl_findKey_1
    rw [hb]
    simp only [bindC_go]
    by_cases hjl : j < m.length
    · rw [dif_pos hjl, if_pos (by simpa using hjl), idx_nat m j hjl]
      have e : impl_findKey_1 m[j] key = some (cmpS m[j].Key key) := rfl
      simp only [Option.bind_some, e]
      rw [decide_eq_decide.2 (cmpS_sign m[j].Key key).2]
    · rw [dif_neg hjl, if_neg (by simpa using hjl)]
      rfl
theorem filt_gt {m : List KV} (hm : srtK m) (j : Nat) (hj : j < m.length) : (m.drop (j + 1)).filter (fun x => !decide (x.Key = m[j].Key)) = m.drop (j + 1) := by
  rw [List.filter_eq_self]
  intro x hx
  obtain ⟨i, hi, rfl⟩ := List.getElem_of_mem hx
  rw [List.length_drop] at hi
  rw [List.getElem_drop]
  have := List.pairwise_iff_getElem.1 hm j (j + 1 + i) hj (by omega) (by omega)
  have hne : ¬ (m[j + 1 + i]).Key = m[j].Key := fun h => by rw [h, sLt_irrefl] at this; cases this
  simp [hne]
theorem filt_ne {m : List KV} {key : List UInt8} (j : Nat) (h1 : ∀ i (hi : i < m.length), j ≤ i → ¬ m[i].Key = key) : (m.drop j).filter (fun x => !decide (x.Key = key)) = m.drop j := by
  rw [List.filter_eq_self]
  intro x hx
  obtain ⟨i, hi, rfl⟩ := List.getElem_of_mem hx
  rw [List.length_drop] at hi
  rw [List.getElem_drop]
  simp [h1 (j + i) (by omega) (by omega)]
theorem key_after {m : List KV} {key : List UInt8} (hm : srtK m) (j : Nat) (h2 : ∀ i (hi : i < m.length), j ≤ i → sLt m[i].Key key = false) (hn : ∀ hj : j < m.length, ¬ m[j].Key = key) : ∀ i (hi : i < m.length), j ≤ i → ¬ m[i].Key = key := by
  intro i hi hij he
  by_cases e : i = j
  · subst e; exact hn hi he
  · have h3 := List.pairwise_iff_getElem.1 hm j i (by omega) hi (by omega)
    rw [he] at h3
    have := h2 j (by omega) (Nat.le_refl _)
    rw [this] at h3
    cases h3
theorem cut_take {m : List KV} {key : List UInt8} {j : Nat} (h1 : ∀ i (hi : i < m.length), i < j → sLt m[i].Key key = true) : ∀ x ∈ m.take j, sLt x.Key key = true := by
  intro x hx
  obtain ⟨i, hi, rfl⟩ := List.getElem_of_mem hx
  rw [List.length_take] at hi
  rw [List.getElem_take]
  exact h1 i (by omega) (by omega)
theorem cut_drop {m : List KV} {key : List UInt8} {j : Nat} (h2 : ∀ i (hi : i < m.length), j ≤ i → sLt m[i].Key key = false) : ∀ x ∈ m.drop j, sLt x.Key key = false := by
  intro x hx
  obtain ⟨i, hi, rfl⟩ := List.getElem_of_mem hx
  rw [List.length_drop] at hi
  rw [List.getElem_drop]
  exact h2 _ (by omega) (by omega)
theorem dropKey_eq (m : List KV) (key : List UInt8) (hm : srtK m) (hl : m.length ≤ 1000000) : impl_dropKey m key = some (putK m { Key := key, Del := true, Val := [] }) := by
  obtain ⟨j, hj, h1, h2, hf⟩ := findKey_eq m key hm (by omega)
  unfold impl_dropKey
  rw [hf, Option.bind_some, putK_cut (o := { Key := key, Del := true, Val := [] }) j (cut_take h1) (cut_drop h2)]
  by_cases hjl : j < m.length
  · rw [dif_pos hjl]
    by_cases hk : m[j].Key = key
    · rw [decide_eq_true hk, if_pos rfl]
      unfold slices_Delete_74624
      rw [wrap_ok (n := (j : Int) + 1) (by omega) (by omega)]
      have p1 : piece m (j : Int) ((j : Int) + 1) = some ((m.drop j).take 1) := by
        unfold piece
        rw [if_pos ⟨by omega, by omega, by omega⟩, Int.toNat_natCast, show ((j : Int) + 1).toNat - j = 1 by omega]
      have p2 : piece m (0 : Int) (j : Int) = some (m.take j) := by
        unfold piece
        rw [if_pos ⟨by omega, by omega, by omega⟩]
        simp
      have p3 : piece m ((j : Int) + 1) ((m.length : Nat) : Int) = some (m.drop (j + 1)) := by
        unfold piece
        rw [if_pos ⟨by omega, by omega, by omega⟩, show ((j : Int) + 1).toNat = j + 1 by omega, Int.toNat_natCast, List.take_of_length_le (by rw [List.length_drop]; omega)]
      simp only [p1, p2, p3, Option.bind_some]
      rw [decide_eq_false (by omega : ¬ (j : Int) = (j : Int) + 1)]
      have hg := filt_gt hm j hjl
      subst hk
      simp only [Bool.false_eq_true, if_false, Option.bind_some, newK, cond_true, List.nil_append]
      rw [List.drop_eq_getElem_cons hjl, List.filter_cons, if_neg (by simp), hg]
    · rw [decide_eq_false hk, if_neg (by simp), filt_ne j (key_after hm j h2 fun _ => hk)]
      simp [newK]
  · rw [dif_neg hjl, if_neg (by simp), filt_ne j (fun i hi hij => by omega)]
    simp [newK]
theorem setKey_eq (m : List KV) (key val : List UInt8) (hm : srtK m) (hl : m.length ≤ 1000000) : impl_setKey m key val = some (putK m { Key := key, Del := false, Val := val }) := by
  obtain ⟨j, hj, h1, h2, hf⟩ := findKey_eq m key hm (by omega)
  unfold impl_setKey
  rw [hf, Option.bind_some, putK_cut (o := { Key := key, Del := false, Val := val }) j (cut_take h1) (cut_drop h2)]
  have hins : ∀ h : ∀ i (hi : i < m.length), j ≤ i → ¬ m[i].Key = key, slices_Insert_74624 m (j : Int) [({ Key := key, Val := val } : KV)] = some (m.take j ++ (newK { Key := key, Del := false, Val := val } ++ (m.drop j).filter fun x => !decide (x.Key = key))) := by
    intro h
    unfold slices_Insert_74624 ins
    rw [if_pos ⟨by omega, by omega, by simp only [List.length_singleton]; omega, by simp only [List.length_singleton]; omega⟩, Int.toNat_natCast, filt_ne j h]
    rfl
  by_cases hjl : j < m.length
  · rw [dif_pos hjl]
    by_cases hk : m[j].Key = key
    · rw [decide_eq_true hk, if_pos rfl, idx_nat m j hjl]
      have hg := filt_gt hm j hjl
      subst hk
      simp only [Option.bind_some, Int.toNat_natCast, newK, cond_false]
      rw [List.drop_eq_getElem_cons hjl, List.filter_cons, if_neg (by simp), hg, List.set_eq_take_append_cons_drop, if_pos hjl]
      rfl
    · rw [decide_eq_false hk, if_neg (by simp), hins (key_after hm j h2 fun _ => hk)]
      rfl
  · rw [dif_neg hjl, if_neg (by simp), hins (fun i hi hij => by omega)]
    rfl
theorem impl_applied_eq (m : List KV) (l : List Op) (hm : srtK m) (hl : m.length ≤ 100000) (hb : l.length ≤ 1000) : impl_applied m l = some (applyK m l) := by
  unfold impl_applied slices_Clone_74624
  rw [app_ok (by simp only [List.length_nil]; omega) (by simp only [List.length_nil]; omega)]
  simp only [Option.bind_some, List.nil_append]
  refine loopO_bind (fun k (S : Int × List KV) => S = ((k : Int), applyK m (l.take k))) l.length (fun r => r = .go (applyK m l)) rfl ?_ ?_ (fun r hr => by rw [hr]; rfl)
  · rintro k _ hk rfl
    left
    have hlen := applyK_len (l.take k) m
    rw [List.length_take] at hlen
    refine ⟨_, ?_, rfl⟩
    simp only [idx_nat l k hk, Option.bind_some]
    rw [if_pos (by simpa using hk), wrap_ok (n := (k : Int) + 1) (by omega) (by omega), take_snoc l k hk, show applyK m (l.take k ++ [l[k]]) = putK (applyK m (l.take k)) l[k] by simp only [applyK, List.foldl_append, List.foldl_cons, List.foldl_nil]]
    have hs := applyK_srt (l.take k) hm
    cases hd : l[k].Del with
    | true =>
      rw [if_pos rfl, dropKey_eq _ _ hs (by omega)]
      simp only [Option.bind_some, bindC_go]
      have : putK (applyK m (l.take k)) { Key := l[k].Key, Del := true, Val := [] } = putK (applyK m (l.take k)) l[k] := by simp only [putK, newK, hd, cond_true]
      rw [this]; rfl
    | false =>
      rw [if_neg (by simp), setKey_eq _ _ _ hs (by omega)]
      simp only [Option.bind_some, bindC_go]
      have : putK (applyK m (l.take k)) { Key := l[k].Key, Del := false, Val := l[k].Val } = putK (applyK m (l.take k)) l[k] := by simp only [putK, newK, hd, cond_false]
      rw [this]; rfl
  · rintro _ rfl
    refine ⟨.go (applyK m l), ?_, rfl⟩
    simp [List.take_length]
/-! ## lists of tenants: put, dropped -/
theorem tw_facts {α : Type} (q : α → Bool) : ∀ l : List α, (l.takeWhile q).length ≤ l.length ∧ (∀ i (hi : i < l.length), i < (l.takeWhile q).length → q l[i] = true) ∧ (∀ h : (l.takeWhile q).length < l.length, q l[(l.takeWhile q).length] = false)
  | [] => ⟨Nat.le_refl _, fun i hi => absurd hi (by simp), fun h => absurd h (by simp)⟩
  | x :: l => by
    obtain ⟨h1, h2, h3⟩ := tw_facts q l
    cases hq : q x with
    | false =>
      simp only [List.takeWhile_cons, hq, Bool.false_eq_true, if_false, List.length_nil]
      exact ⟨Nat.zero_le _, fun i hi h => by omega, fun h => by simpa using hq⟩
    | true =>
      simp only [List.takeWhile_cons, hq, if_true, List.length_cons]
      refine ⟨by omega, fun i hi h => ?_, fun h => ?_⟩
      · cases i with
        | zero => simpa using hq
        | succ i => simpa using h2 i (by simp at hi; omega) (by omega)
      · simpa using h3 (by omega)
theorem tw_same {α : Type} {p q : α → Bool} : ∀ {l : List α}, (∀ x ∈ l, p x = q x) → l.takeWhile p = l.takeWhile q
  | [], _ => rfl
  | x :: l, h => by
    rw [List.takeWhile_cons, List.takeWhile_cons, h x (by simp), tw_same fun y hy => h y (by simp [hy])]
def placeT (l : List MTen) (id : Int) : Nat := (l.takeWhile fun x => decide (x.Id ≤ id)).length
theorem placeT_facts (l : List MTen) (id : Int) : placeT l id ≤ l.length ∧ (∀ i (hi : i < l.length), i < placeT l id → l[i].Id ≤ id) ∧ (∀ h : placeT l id < l.length, id < l[placeT l id].Id) := by
  obtain ⟨t1, t2, t3⟩ := tw_facts (fun x : MTen => decide (x.Id ≤ id)) l
  exact ⟨t1, fun i hi h => of_decide_eq_true (t2 i hi h), fun h => by have := of_decide_eq_false (t3 h); unfold placeT; omega⟩
def insT (l : List MTen) (t : MTen) : List MTen := l.take (placeT l t.Id) ++ (t :: l.drop (placeT l t.Id))
theorem while_loop {α R : Type} (p : α → Bool) (l : List α) (hl : l.length ≤ 1048576) {body : Int → Option (Ctl Int (Ctl Int R))}
    (h1 : ∀ k (hk : k < l.length), body (k : Int) = if p l[k] = true then some (.go (IntKind.i64.wrap ((k : Int) + (1 : Int)))) else some (.done (.go (k : Int)))) (h2 : body (l.length : Int) = some (.done (.go (l.length : Int)))) :
    loopO body 0 = some (.go (((l.takeWhile p).length : Nat) : Int)) := by
  obtain ⟨t1, t2, t3⟩ := tw_facts p l
  generalize (l.takeWhile p).length = a at t1 t2 t3
  refine loopO_count (fun k => (k : Int)) a rfl (fun k hk => ?_) ?_
  · rw [h1 k (by omega), if_pos (t2 k (by omega) hk), wrap_ok (by omega) (by omega)]
    rfl
  · by_cases h : a < l.length
    · rw [h1 a h, t3 h]; rfl
    · have : a = l.length := by omega
      subst this
      exact h2
theorem impl_addTen_eq (l : List MTen) (t : MTen) (hl : l.length ≤ 1000000) (hn : ∀ x ∈ l, ¬ x.Id = t.Id) : impl_addTen l t = some (insT l t) := by
  unfold impl_addTen
  rw [while_loop (R := List MTen) (fun x : MTen => decide (x.Id < t.Id)) l (by omega) (fun k hk => ?_) (by simp)]
  · rw [tw_same (q := fun x : MTen => decide (x.Id ≤ t.Id)) fun x hx => decide_eq_decide.2 ⟨fun h => by omega, fun h => by have := hn x hx; omega⟩]
    have hp : placeT l t.Id ≤ l.length := (tw_facts _ l).1
    simp only [bindC_go]
    unfold slices_Insert_81204 ins insT
    rw [if_pos ⟨by omega, by exact_mod_cast hp, by simp only [List.length_singleton]; omega, by simp only [List.length_singleton]; omega⟩, Int.toNat_natCast]
    rfl
  · simp only [idx_nat l k hk, Option.bind_some]
    rw [if_pos (by simpa using hk)]
    rfl
theorem spec_l21Put_eq (l : List MTen) (t : MTen) (hl : l.length ≤ 1000000) : spec_l21Put l t = some (insT l t) := by
  obtain ⟨t1, t2, t3⟩ := placeT_facts l t.Id
  have hE : ({ Id := t.Id, Epoch := t.Epoch, Seq := t.Seq, Map := t.Map, Snaps := t.Snaps } : MTen) = t := rfl
  unfold spec_l21Put insT
  generalize placeT l t.Id = a at t1 t2 t3
  have ap : ∀ (out : List MTen) (x : MTen), out.length ≤ 1000001 → app 72 out [x] = some (out ++ [x]) := fun out x h => app_ok (by simp only [List.length_singleton]; omega) (by simp only [List.length_singleton]; omega)
  refine loopO_bind (fun k (S : Bool × Int × List (Option MTen) × Option (List KV) × Option (List MSnap) × List MTen) => S.2.1 = (k : Int) ∧ wholeO l k S.2.2.1 ∧
      ((k ≤ a ∧ S.1 = false ∧ S.2.2.2.1 = some t.Map ∧ S.2.2.2.2.1 = some t.Snaps ∧ S.2.2.2.2.2 = l.take k) ∨ (a < k ∧ S.1 = true ∧ S.2.2.2.2.2 = l.take a ++ (t :: (l.drop a).take (k - a))))) l.length
    (fun r => ∃ p tm ts out, r = .go (p, tm, ts, out) ∧ ((p = false ∧ tm = some t.Map ∧ ts = some t.Snaps ∧ out = l ∧ a = l.length) ∨ (p = true ∧ out = l.take a ++ (t :: l.drop a)))) ⟨rfl, wholeO_map l, .inl ⟨Nat.zero_le _, rfl, rfl, rfl, by simp⟩⟩ ?_ ?_ ?_
  · rintro k ⟨p, i, ls, tm, ts, out⟩ hk ⟨h1, h2, h3⟩
    simp only at h1 h2 h3
    subst h1
    left
    have hidx := wholeO_idx h2 hk
    have hw : IntKind.i64.wrap ((k : Int) + (1 : Int)) = ((k + 1 : Nat) : Int) := by rw [wrap_ok (by omega) (by omega)]; omega
    have hset : wholeO l (k + 1) (ls.set ((k : Nat) : Int).toNat none) := wholeO_set (wholeO_next h2) (by simp)
    have hif : (decide ((k : Int) < ((ls.length : Nat) : Int))) = true := by rw [h2.1]; simpa using hk
    have htk : (l.drop a).take (k + 1 - a) = (l.drop a).take (k - a) ++ (if a ≤ k then [l[k]] else []) := by
      by_cases hak : a ≤ k
      · rw [if_pos hak, show k + 1 - a = (k - a) + 1 by omega, take_snoc _ _ (by rw [List.length_drop]; omega), List.getElem_drop]
        congr 3; omega
      · rw [if_neg hak, show k + 1 - a = 0 by omega, show k - a = 0 by omega]; simp
    rcases h3 with ⟨g1, rfl, rfl, rfl, rfl⟩ | ⟨g1, rfl, rfl⟩
    · have hlen : (l.take k).length ≤ 1000000 := by rw [List.length_take]; omega
      by_cases hka : k = a
      · subst hka
        have hgt : decide (l[k].Id > t.Id) = true := by
          have := t3 hk
          exact decide_eq_true (by omega)
        refine ⟨(true, ((k + 1 : Nat) : Int), ls.set ((k : Nat) : Int).toNat none, none, none, (l.take k ++ [t]) ++ [l[k]]), ?_, rfl, hset, .inr ⟨by simp, rfl, ?_⟩⟩
        · simp only [hif, if_true, Bool.not_false, hidx, Option.bind_some, hgt, hE, ap _ _ (show (l.take k).length ≤ 1000001 by omega), bindC_go, hw]
          rw [ap _ _ (by simp only [List.length_append, List.length_singleton]; omega)]
          rfl
        · simp only
          rw [htk, if_pos (Nat.le_refl _)]
          simp
      · have hgt : decide (l[k].Id > t.Id) = false := by
          have := t2 k hk (by omega)
          exact decide_eq_false (by omega)
        refine ⟨(false, ((k + 1 : Nat) : Int), ls.set ((k : Nat) : Int).toNat none, some t.Map, some t.Snaps, l.take k ++ [l[k]]), ?_, rfl, hset, .inl ⟨by omega, rfl, rfl, rfl, (take_snoc l k hk).symm⟩⟩
        simp only [hif, if_true, Bool.not_false, hidx, Option.bind_some, hgt, Bool.false_eq_true, if_false, ap _ _ (show (l.take k).length ≤ 1000001 by omega), bindC_go, hw]
    · have hlen : (l.take a ++ (t :: (l.drop a).take (k - a))).length ≤ 1000001 := by simp only [List.length_append, List.length_cons, List.length_take, List.length_drop]; omega
      refine ⟨(true, ((k + 1 : Nat) : Int), ls.set ((k : Nat) : Int).toNat none, tm, ts, (l.take a ++ (t :: (l.drop a).take (k - a))) ++ [l[k]]), ?_, rfl, hset, .inr ⟨by omega, rfl, ?_⟩⟩
      · simp only [hif, if_true, Bool.not_true, hidx, Option.bind_some, Bool.false_eq_true, if_false, ap _ _ hlen, bindC_go, hw]
      · simp only
        rw [htk, if_pos (by omega)]
        simp
  · rintro ⟨p, i, ls, tm, ts, out⟩ ⟨h1, h2, h3⟩
    simp only at h1 h2 h3
    subst h1
    refine ⟨_, if_neg (by rw [h2.1]; simp), p, tm, ts, out, rfl, ?_⟩
    rcases h3 with ⟨g1, g2, g3, g4, g5⟩ | ⟨g1, g2, g3⟩
    · exact .inl ⟨g2, g3, g4, by rw [g5, List.take_length], by omega⟩
    · exact .inr ⟨g2, by rw [g3, List.take_of_length_le (l := l.drop a) (by rw [List.length_drop]; omega)]⟩
  · rintro _ ⟨p, tm, ts, out, rfl, ⟨rfl, rfl, rfl, rfl, rfl⟩ | ⟨rfl, rfl⟩⟩
    · simp only [bindC_go, Bool.not_false, if_true, Option.bind_some, hE]
      rw [ap _ _ (by omega)]
      simp
    · simp [bindC]
theorem del_loop {α R : Type} (p : α → Bool) (l : List α) (hl : l.length ≤ 1048576) (a : Nat) (ha : a < l.length) (hpa : p l[a] = true) (hb4 : ∀ i (hi : i < a), p (l[i]'(by omega)) = false) {g : α → Option Bool} (hg : ∀ x, g x = some (p x))
    {body : Int × Int × List (Option α) → Option (Ctl (Int × Int × List (Option α)) (Ctl (Int × List (Option α)) R))} {f : Int × List (Option α) → Option R} {z : R}
    (hb : body = fun (S5 : Int × Int × List (Option α)) => if (decide (S5.2.1 < ((S5.2.2.length : Nat) : Int))) = true then ((idx S5.2.2 S5.2.1).bind fun E10 =>
  (E10).bind fun E13 =>
  (g E13).bind fun R17 =>
  bindC (if (!R17) = true then ((idx S5.2.2 S5.1).bind fun E23 =>
  (idx (S5.2.2.set S5.2.1.toNat none) S5.1).bind fun E25 =>
  some (.go (IntKind.i64.wrap (S5.1 + (1 : Int)), ((S5.2.2.set S5.2.1.toNat none).set S5.1.toNat (some E13)))))
  else (some (.go (S5.1, S5.2.2))))
  (fun (T20 : Int × List (Option α)) => some (.go (T20.1, IntKind.i64.wrap (S5.2.1 + (1 : Int)), T20.2))))
  else (some (.done (.go (S5.1, S5.2.2)))))
    (hf : ∀ (i : Nat) ls, ls.length = l.length → i ≤ l.length → ls.take i = (l.filter fun x => !p x).map some → f ((i : Int), ls) = some z) : bindC (loopO body ((a : Int), IntKind.i64.wrap ((a : Int) + (1 : Int)), l.map some)) f = some z := by
  refine loopO_bind (fun k (S : Int × Int × List (Option α)) => ∃ i : Nat, S.1 = (i : Int) ∧ S.2.1 = ((a + 1 + k : Nat) : Int) ∧ i < a + 1 + k ∧ wholeO l (a + 1 + k) S.2.2 ∧ S.2.2.take i = ((l.take (a + 1 + k)).filter fun x => !p x).map some) (l.length - (a + 1))
    (fun r => ∃ i ls, r = .go (((i : Nat) : Int), ls) ∧ ls.length = l.length ∧ i ≤ l.length ∧ ls.take i = (l.filter fun x => !p x).map some) ?_ ?_ ?_ ?_
  · refine ⟨a, rfl, by simp only; rw [wrap_ok (by omega) (by omega)]; omega, by omega, ⟨by simp, fun i hi _ => by simp [hi]⟩, ?_⟩
    rw [Nat.add_zero, filt_take _ l a ha, hpa]
    simp only [Bool.not_true, Bool.false_eq_true, if_false, List.append_nil]
    rw [List.filter_eq_self.2, List.map_take]
    intro x hx
    obtain ⟨i, hi, rfl⟩ := List.getElem_of_mem hx
    rw [List.length_take] at hi
    rw [List.getElem_take, hb4 i (by omega)]
    rfl
  · rintro k ⟨i0, j0, ls⟩ hk ⟨i, h1, h2, h3, h4, h5⟩
    simp only at h1 h2 h3 h4 h5
    subst h1 h2
    left
    have hj : a + 1 + k < l.length := by omega
    rw [hb]
    simp only [wholeO_idx h4 hj, Option.bind_some, hg]
    rw [if_pos (decide_eq_true (by rw [h4.1]; omega)), wrap_ok (n := ((a + 1 + k : Nat) : Int) + 1) (by omega) (by omega), show ((a + 1 + k : Nat) : Int) + 1 = ((a + 1 + (k + 1) : Nat) : Int) by omega]
    have hil : i < ls.length := by rw [h4.1]; omega
    have hil2 : i < (ls.set (a + 1 + k) none).length := by rw [List.length_set]; exact hil
    cases hpk : p l[a + 1 + k] with
    | true =>
      simp only [Bool.not_true, Bool.false_eq_true, if_false, bindC_go]
      refine ⟨_, rfl, i, rfl, rfl, by omega, wholeO_next h4, ?_⟩
      simp only
      rw [h5, show a + 1 + (k + 1) = (a + 1 + k) + 1 by omega, filt_take _ l (a + 1 + k) hj, hpk]
      simp
    | false =>
      simp only [Bool.not_false, if_true, Int.toNat_natCast, idx_nat ls i hil, idx_nat (ls.set (a + 1 + k) none) i hil2, Option.bind_some, bindC_go]
      rw [wrap_ok (n := (i : Int) + 1) (by omega) (by omega)]
      refine ⟨_, rfl, i + 1, by simp, rfl, by omega, wholeO_set (wholeO_set (wholeO_next h4) (by omega)) (by omega), ?_⟩
      simp only
      rw [take_snoc _ i (by rw [List.length_set]; exact hil2), List.getElem_set_self, List.take_set_of_le (Nat.le_refl _), List.take_set_of_le (by omega), h5, show a + 1 + (k + 1) = (a + 1 + k) + 1 by omega, filt_take _ l (a + 1 + k) hj, hpk]
      simp
  · rintro ⟨i0, j0, ls⟩ ⟨i, h1, h2, h3, h4, h5⟩
    simp only at h1 h2 h3 h4 h5
    subst h1 h2
    have hN : a + 1 + (l.length - (a + 1)) = l.length := by omega
    rw [hN] at h3 h4 h5 ⊢
    refine ⟨_, by rw [hb]; exact if_neg (by rw [h4.1]; simp), i, ls, rfl, h4.1, by omega, by rw [h5, List.take_length]⟩
  · rintro _ ⟨i, ls, rfl, g1, g2, g3⟩
    exact hf i ls g1 g2 g3
theorem del_end {α : Type} (l : List α) (q : List α) (i : Nat) (ls : List (Option α)) (h1 : ls.length = l.length) (h2 : i ≤ l.length) (h3 : ls.take i = q.map some) :
    ((piece ls (i : Int) ((ls.length : Nat) : Int)).bind fun E28 => (piece ls (0 : Int) (i : Int)).bind fun E30 => (allO E30).bind fun E32 => some E32) = some q := by
  have p1 : piece ls (i : Int) ((ls.length : Nat) : Int) = some (ls.drop i) := by
    unfold piece
    rw [if_pos ⟨by omega, by omega, by omega⟩, Int.toNat_natCast, Int.toNat_natCast, List.take_of_length_le (by rw [List.length_drop]; omega)]
  have p2 : piece ls (0 : Int) (i : Int) = some (ls.take i) := by
    unfold piece
    rw [if_pos ⟨by omega, by omega, by omega⟩]
    simp
  rw [p1, p2, h3]
  simp [allO_some]
theorem impl_dropTen_eq (l : List MTen) (id : Int) (hl : l.length ≤ 1000000) : impl_dropTen l id = some (noTen id l) := by
  have hi : slices_IndexFunc_81204_at_impl_dropTen_1 l id = some (fstV (fun t => decide (t.Id = id)) l) := by
    unfold slices_IndexFunc_81204_at_impl_dropTen_1 fstV
    rw [fst_loop (fun t : MTen => decide (t.Id = id)) l (by omega) (fun j => j) rfl (fun k hk => ?_) (by simp)]
    simp only [idx_nat l k hk, Option.bind_some, impl_dropTen_1]
    rw [if_pos (by simpa using hk), wrap_ok (by omega) (by omega)]
    cases decide (l[k].Id = id) <;> rfl
  have hd : slices_DeleteFunc_81204_at_impl_dropTen_1 l id = some (noTen id l) := by
    unfold slices_DeleteFunc_81204_at_impl_dropTen_1
    rw [hi, Option.bind_some]
    rcases fstV_eq (fun t : MTen => decide (t.Id = id)) l with ⟨j, hj, e, h1, h2⟩ | ⟨e, h1⟩
    · rw [e, decide_eq_false (by omega), if_neg (by simp)]
      exact del_loop (fun t : MTen => decide (t.Id = id)) l (by omega) j hj h1 h2 (g := fun x => impl_dropTen_1 x id) (fun x => rfl) rfl fun i ls g1 g2 g3 => del_end l _ i ls g1 g2 g3
    · rw [e]
      simp only [decide_true, if_true]
      unfold noTen
      rw [List.filter_eq_self.2 fun x hx => by rw [h1 x hx]; rfl]
  unfold impl_dropTen
  rw [hd]; rfl
theorem dropRows_eq (l : List MRow) (id : Int) (hl : l.length ≤ 1000000) : slices_DeleteFunc_66331_at_impl_Model_dropRows_1 l id = some (noRow id l) := by
  have hi : slices_IndexFunc_66331_at_impl_Model_dropRows_1 l id = some (fstV (fun t => decide (t.Tenant = id)) l) := by
    unfold slices_IndexFunc_66331_at_impl_Model_dropRows_1 fstV
    rw [fst_loop (fun t : MRow => decide (t.Tenant = id)) l (by omega) (fun j => j) rfl (fun k hk => ?_) (by simp)]
    simp only [idx_nat l k hk, Option.bind_some, impl_Model_dropRows_1]
    rw [if_pos (by simpa using hk), wrap_ok (by omega) (by omega)]
    cases decide (l[k].Tenant = id) <;> rfl
  unfold slices_DeleteFunc_66331_at_impl_Model_dropRows_1
  rw [hi, Option.bind_some]
  rcases fstV_eq (fun t : MRow => decide (t.Tenant = id)) l with ⟨j, hj, e, h1, h2⟩ | ⟨e, h1⟩
  · rw [e, decide_eq_false (by omega), if_neg (by simp)]
    exact del_loop (fun t : MRow => decide (t.Tenant = id)) l (by omega) j hj h1 h2 (g := fun x => impl_Model_dropRows_1 x id) (fun x => rfl) rfl fun i ls g1 g2 g3 => del_end l _ i ls g1 g2 g3
  · rw [e]
    simp only [decide_true, if_true]
    unfold noRow
    rw [List.filter_eq_self.2 fun x hx => by rw [h1 x hx]; rfl]
/-! ## the model's step, in plain words -/
def codeR (c : Int) : Reply := { Code := c, N := 0, Text := [], List := [] }
def quoV (d : Int) (s : Shares) (id : Int) : Int := match s.List.find? (fun x => decide (x.Tenant = id)) with
  | some x => x.Quota
  | none => d
def bytesN (m : List KV) : Nat := (m.map fun x => x.Key.length + x.Val.length).sum
def findR (m : List KV) (key : List UInt8) : Reply := match m.find? (fun x => decide (x.Key = key)) with
  | some x => { Code := 0, N := 0, Text := x.Val, List := [] }
  | none => codeR 5
def withinV (key lo hi : List UInt8) : Bool := !sLt key lo && (decide (hi = []) || sLt key hi)
def scanV (m : List KV) (lo hi : List UInt8) : List KV := m.filter fun x => withinV x.Key lo hi
noncomputable def setR (s : Shares) (t q : Int) : Shares × Bool := (spec_ShareSet s t q).getD ({ Size := 0, List := [] }, false)
theorem spec_ShareSet_R (s : Shares) (t q : Int) (h : s.List.length ≤ 1048576) : spec_ShareSet s t q = some (setR s t q) := by
  obtain ⟨r, e1, e2, _⟩ := ShareSet_both s t q h
  unfold setR; rw [e1]; rfl
theorem impl_ShareSet_R (s : Shares) (t q : Int) (h : s.List.length ≤ 1048576) : impl_ShareSet s t q = some (setR s t q) := by
  obtain ⟨r, e1, e2, _⟩ := ShareSet_both s t q h
  unfold setR; rw [e1, e2]; rfl
def atT (l : List MTen) (id : Int) : Int := fstV (fun t => decide (t.Id = id)) l
def getT (l : List MTen) (i : Int) : MTen := l.getD i.toNat { Id := 0, Epoch := 0, Seq := 0, Map := [], Snaps := [] }
def ofRow (id : Int) (l : List MRow) : Nat := (l.filter fun r => decide (r.Tenant = id)).length
def flushM (m : Model) (i : Int) : Model :=
  { Secret := m.Secret, Shares := m.Shares, Tens := m.Tens, Rows := noRow (getT m.Tens i).Id m.Rows, Base := bif decide (atT m.Base (getT m.Tens i).Id ≥ 0) then m.Base.set (atT m.Base (getT m.Tens i).Id).toNat { Id := (getT m.Tens i).Id, Epoch := (getT m.Tens i).Epoch, Seq := (getT m.Tens i).Seq, Map := (getT m.Tens i).Map, Snaps := [] } else m.Base }
def keepR : Int → List MRow → List MRow
  | _, [] => []
  | n, r :: l => bif r.Synced then { Tenant := r.Tenant, Ops := r.Ops, Synced := true } :: keepR n l else bif decide (n < 1) then keepR n l else { Tenant := r.Tenant, Ops := r.Ops, Synced := true } :: keepR (n - 1) l
def playT (ts : List MTen) (r : MRow) : List MTen :=
  bif decide (atT ts r.Tenant ≥ 0) then ts.set (atT ts r.Tenant).toNat { Id := (getT ts (atT ts r.Tenant)).Id, Epoch := (getT ts (atT ts r.Tenant)).Epoch, Seq := (getT ts (atT ts r.Tenant)).Seq + 1, Map := applyK (getT ts (atT ts r.Tenant)).Map r.Ops, Snaps := (getT ts (atT ts r.Tenant)).Snaps } else ts
def crashM (m : Model) (n : Int) : Model := { Secret := m.Secret, Shares := m.Shares, Tens := (keepR n m.Rows).foldl playT m.Base, Base := m.Base, Rows := keepR n m.Rows }
def syncM (m : Model) : Model := { Secret := m.Secret, Shares := m.Shares, Tens := m.Tens, Base := m.Base, Rows := m.Rows.map fun r => { Tenant := r.Tenant, Ops := r.Ops, Synced := true } }
def newTen (id : Int) : MTen := { Id := id, Epoch := 0, Seq := 0, Map := [], Snaps := [] }
noncomputable def createM (m : Model) (c : Call) : Model × Reply :=
  bif !decide (1 ≤ c.Tenant ∧ c.Tenant ≤ 99) || (!decide (0 ≤ c.N ∧ c.N ≤ 40) || (!decide (c.Key.length = 32) || decide (atT m.Tens c.Tenant ≥ 0))) then (m, codeR 1)
  else bif decide (4 ≤ m.Tens.length) then (m, codeR 4)
  else bif (setR m.Shares c.Tenant c.N).2 then ({ Secret := m.Secret, Shares := (setR m.Shares c.Tenant c.N).1, Tens := insT m.Tens (newTen c.Tenant), Base := insT m.Base (newTen c.Tenant), Rows := m.Rows }, { Code := 0, N := 1, Text := mintV m.Secret c.Tenant 0, List := [] })
  else (m, codeR 6)
noncomputable def quotaM (m : Model) (c : Call) : Model × Reply :=
  bif decide (0 ≤ c.N ∧ c.N ≤ 40) then (bif (setR m.Shares c.Tenant c.N).2 then ({ Secret := m.Secret, Shares := (setR m.Shares c.Tenant c.N).1, Tens := m.Tens, Base := m.Base, Rows := m.Rows }, codeR 0) else (m, codeR 6)) else (m, codeR 1)
noncomputable def removeM (m : Model) (id : Int) : Model := { Secret := m.Secret, Shares := (shareDropR m.Shares id).1, Tens := noTen id m.Tens, Base := noTen id m.Base, Rows := noRow id m.Rows }
def upEpoch (l : List MTen) (i e : Int) : List MTen := l.set i.toNat { Id := (getT l i).Id, Epoch := e, Seq := (getT l i).Seq, Map := (getT l i).Map, Snaps := (getT l i).Snaps }
noncomputable def rotateM (m : Model) (id : Int) : Model × Reply :=
  bif decide ((getT m.Tens (atT m.Tens id)).Epoch ≥ 1000000) then (m, codeR 4)
  else ({ Secret := m.Secret, Shares := m.Shares, Tens := upEpoch m.Tens (atT m.Tens id) ((getT m.Tens (atT m.Tens id)).Epoch + 1), Base := (bif decide (atT m.Base id ≥ 0) then upEpoch m.Base (atT m.Base id) ((getT m.Tens (atT m.Tens id)).Epoch + 1) else m.Base), Rows := m.Rows },
    { Code := 0, N := 0, Text := mintV m.Secret id ((getT m.Tens (atT m.Tens id)).Epoch + 1), List := [] })
noncomputable def ownM (m : Model) (c : Call) : Model × Reply :=
  bif decide (atT m.Tens c.Tenant < 0) then (m, codeR 5)
  else bif decide (c.Kind = 2) then quotaM m c
  else bif decide (c.Kind = 3) then (removeM m c.Tenant, codeR 0)
  else bif decide (c.Kind = 4) then rotateM m c.Tenant
  else (flushM m (atT m.Tens c.Tenant), codeR 0)
def writeM (m : Model) (i : Int) (ops : List Op) : Model × Reply :=
  bif batchV ops then
    (bif decide ((bytesN (applyK (getT m.Tens i).Map ops) : Int) > quoV (-1) m.Shares (getT m.Tens i).Id) then (m, codeR 3)
    else ({ Secret := m.Secret, Shares := m.Shares, Tens := m.Tens.set i.toNat { Id := (getT m.Tens i).Id, Epoch := (getT m.Tens i).Epoch, Seq := (getT m.Tens i).Seq + 1, Map := applyK (getT m.Tens i).Map ops, Snaps := (getT m.Tens i).Snaps }, Base := (bif decide (6 ≤ ofRow (getT m.Tens i).Id m.Rows) then flushM m i else m).Base, Rows := (bif decide (6 ≤ ofRow (getT m.Tens i).Id m.Rows) then flushM m i else m).Rows ++ [{ Tenant := (getT m.Tens i).Id, Ops := ops, Synced := false }] },
      { Code := 0, N := (getT m.Tens i).Seq + 1, Text := [], List := [] }))
  else (m, codeR 1)
def lastIs (l : List MSnap) (seq : Int) : Bool := match l.getLast? with
  | some s => decide (s.Seq = seq)
  | none => false
def withSnaps (m : Model) (i : Int) (l : List MSnap) : Model :=
  { Secret := m.Secret, Shares := m.Shares, Tens := m.Tens.set i.toNat { Id := (getT m.Tens i).Id, Epoch := (getT m.Tens i).Epoch, Seq := (getT m.Tens i).Seq, Map := (getT m.Tens i).Map, Snaps := l }, Base := m.Base, Rows := m.Rows }
def snapM (m : Model) (i : Int) : Model × Reply :=
  bif lastIs (getT m.Tens i).Snaps (getT m.Tens i).Seq then (m, { Code := 0, N := (getT m.Tens i).Seq, Text := [], List := [] })
  else bif decide (2 ≤ (getT m.Tens i).Snaps.length) then (m, codeR 4)
  else (withSnaps m i ((getT m.Tens i).Snaps ++ [{ Seq := (getT m.Tens i).Seq, Map := (getT m.Tens i).Map }]), { Code := 0, N := (getT m.Tens i).Seq, Text := [], List := [] })
def atS (l : List MSnap) (seq : Int) : Int := fstV (fun s => decide (s.Seq = seq)) l
def heldM (m : Model) (i : Int) (c : Call) : Model × Reply :=
  bif decide (atS (getT m.Tens i).Snaps c.N < 0) then (m, codeR 5)
  else bif decide (c.Kind = 10) then (m, findR ((getT m.Tens i).Snaps.getD (atS (getT m.Tens i).Snaps c.N).toNat { Seq := 0, Map := [] }).Map c.Key)
  else (withSnaps m i ((getT m.Tens i).Snaps.take (atS (getT m.Tens i).Snaps c.N).toNat ++ (getT m.Tens i).Snaps.drop ((atS (getT m.Tens i).Snaps c.N).toNat + 1)), codeR 0)
def tenM (m : Model) (i : Int) (c : Call) : Model × Reply :=
  bif decide (c.Kind = 5) then writeM m i c.Ops
  else bif decide (c.Kind = 6) then (m, findR (getT m.Tens i).Map c.Key)
  else bif decide (c.Kind = 7) then (m, { Code := 0, N := 0, Text := [], List := scanV (getT m.Tens i).Map c.Key c.To })
  else bif decide (c.Kind = 8) then snapM m i
  else bif decide (c.Kind = 11) then (m, { Code := 0, N := (bytesN (getT m.Tens i).Map : Int), Text := [], List := [] })
  else heldM m i c
noncomputable def callM (m : Model) (c : Call) : Model × Reply :=
  bif !(tokR m.Secret c.Token).2.2 || (decide (atT m.Tens (tokR m.Secret c.Token).1 < 0) || !decide ((getT m.Tens (atT m.Tens (tokR m.Secret c.Token).1)).Epoch = (tokR m.Secret c.Token).2.1)) then (m, codeR 2)
  else tenM m (atT m.Tens (tokR m.Secret c.Token).1) c
noncomputable def doM (m : Model) (c : Call) : Model × Reply :=
  bif decide (c.Kind = 1) then createM m c
  else bif decide (c.Kind = 12) then (syncM m, codeR 0)
  else bif decide (c.Kind = 14) then (crashM m c.N, codeR 0)
  else bif decide (2 ≤ c.Kind ∧ c.Kind ≤ 4) || decide (c.Kind = 13) then ownM m c
  else bif decide (5 ≤ c.Kind ∧ c.Kind ≤ 11) then callM m c
  else (m, codeR 1)
structure okT (n : Nat) (t : MTen) : Prop where
  srt : srtK t.Map
  kv : ∀ x ∈ t.Map, kvV x = true
  len : t.Map.length ≤ 6 * n
  seq : 0 ≤ t.Seq ∧ t.Seq ≤ n
  ep : 0 ≤ t.Epoch ∧ t.Epoch ≤ 1000000
  sn : t.Snaps.length ≤ 2
  each : ∀ s ∈ t.Snaps, srtK s.Map ∧ s.Map.length ≤ 6 * n ∧ ∀ x ∈ s.Map, kvV x = true
structure okM (n : Nat) (m : Model) : Prop where
  sh : sharesV m.Shares = true
  ids : m.Tens.map MTen.Id = m.Shares.List.map Share.Tenant
  base : m.Base.map MTen.Id = m.Tens.map MTen.Id
  tens : ∀ t ∈ m.Tens, okT n t
  bases : ∀ t ∈ m.Base, okT n t ∧ t.Snaps = [] ∧ t.Map.length + 6 * ofRow t.Id m.Rows ≤ 6 * n ∧ t.Seq + (ofRow t.Id m.Rows : Int) ≤ n
  rows : m.Rows.length ≤ n
  ops : ∀ r ∈ m.Rows, batchV r.Ops = true
/-! ## small parts of the model, both sides -/
theorem isTenant_R (n : Int) : impl_isTenant n = some (decide (1 ≤ n ∧ n ≤ 99)) := by
  unfold impl_isTenant; rw [inRange_eq]; rfl
theorem isQuota_R (n : Int) : impl_isQuota n = some (decide (0 ≤ n ∧ n ≤ 40)) := by
  unfold impl_isQuota; rw [inRange_eq]; rfl
theorem no_R (c : Int) : impl_no c = some (codeR c) := rfl
theorem l21Code_R (c : Int) : spec_l21Code c = some (codeR c) := rfl
theorem find_loop {α R : Type} (p : α → Bool) (l : List α) (hl : l.length ≤ 1048576) {body : Int → Option (Ctl Int (Ctl Unit R))} (g : α → R) {f : Unit → Option R} {z : R} (hf : f () = some z)
    (h : ∀ k (hk : k < l.length), body (k : Int) = if p l[k] = true then some (.done (.done (g l[k]))) else some (.go (IntKind.i64.wrap ((k : Int) + (1 : Int))))) (hn : body (l.length : Int) = some (.done (.go ()))) :
    bindC (loopO body 0) f = some (match l.find? p with | some x => g x | none => z) := by
  refine loopO_bind (fun k S => S = (k : Int) ∧ ∀ i (hi : i < l.length), i < k → p l[i] = false) l.length (fun r => (r = .go () ∧ l.find? p = none) ∨ ∃ x, l.find? p = some x ∧ r = .done (g x)) ⟨rfl, fun i _ h => by omega⟩ ?_ ?_ ?_
  · rintro k _ hk ⟨rfl, hno⟩
    rw [h k hk]
    cases hp : p l[k] with
    | true =>
      right
      refine ⟨_, if_pos rfl, .inr ⟨l[k], ?_, rfl⟩⟩
      rw [List.find?_eq_some_iff_getElem]
      exact ⟨hp, k, hk, rfl, fun j hj => by rw [hno j (by omega) hj]; rfl⟩
    | false =>
      left
      refine ⟨_, if_neg (by simp), by rw [wrap_ok (by omega) (by omega)]; omega, fun i hi hik => ?_⟩
      by_cases e : i = k
      · subst e; exact hp
      · exact hno i hi (by omega)
  · rintro _ ⟨rfl, hno⟩
    refine ⟨_, hn, .inl ⟨rfl, ?_⟩⟩
    rw [List.find?_eq_none]
    intro x hx
    obtain ⟨i, hi, rfl⟩ := List.getElem_of_mem hx
    simp [hno i hi hi]
  · rintro r (⟨rfl, e⟩ | ⟨x, e, rfl⟩)
    · rw [e]; exact hf
    · rw [e]; rfl
theorem impl_quotaOf_eq (s : Shares) (id : Int) (h : s.List.length ≤ 1048576) : impl_quotaOf s id = some (quoV 0 s id) := by
  unfold impl_quotaOf quoV
  refine (find_loop (fun x : Share => decide (x.Tenant = id)) s.List h Share.Quota rfl (fun k hk => ?_) (by simp)).trans ?_
  · simp only [idx_nat s.List k hk, Option.bind_some]
    rw [if_pos (by simpa using hk)]
  · cases s.List.find? (fun x : Share => decide (x.Tenant = id)) <;> rfl
theorem spec_l21Quota_eq (s : Shares) (id : Int) (h : s.List.length ≤ 1048576) : spec_l21Quota s id = some (quoV (-1) s id) := by
  unfold spec_l21Quota quoV
  refine (find_loop (fun x : Share => decide (x.Tenant = id)) s.List h Share.Quota rfl (fun k hk => ?_) (by simp)).trans ?_
  · simp only [idx_nat s.List k hk, Option.bind_some]
    rw [if_pos (by simpa using hk)]
  · cases s.List.find? (fun x : Share => decide (x.Tenant = id)) <;> rfl
theorem kv_len {x : KV} (h : kvV x = true) : x.Key.length ≤ 10 ∧ x.Val.length ≤ 16 := by
  obtain ⟨⟨_, h2⟩, h3, _⟩ := opV_iff (o := { Key := x.Key, Del := false, Val := x.Val }) h
  exact ⟨h2, h3⟩
theorem bytesN_take (m : List KV) (k : Nat) (hk : k < m.length) : bytesN (m.take (k + 1)) = bytesN (m.take k) + (m[k].Key.length + m[k].Val.length) := by
  unfold bytesN
  rw [take_snoc m k hk, List.map_append, List.sum_append]
  simp
theorem bytesN_le (m : List KV) (hv : ∀ x ∈ m, kvV x = true) : bytesN m ≤ 26 * m.length := by
  induction m with
  | nil => exact Nat.le_refl _
  | cons x m ih =>
    have h1 := kv_len (hv x (by simp))
    have h2 := ih fun y hy => hv y (by simp [hy])
    have h3 : bytesN (x :: m) = (x.Key.length + x.Val.length) + bytesN m := rfl
    rw [h3, List.length_cons]
    omega
theorem bytes_take_le (m : List KV) (hv : ∀ x ∈ m, kvV x = true) (k : Nat) : bytesN (m.take k) ≤ 26 * m.length := by
  have := bytesN_le (m.take k) fun x hx => hv x (List.mem_of_mem_take hx)
  rw [List.length_take] at this
  omega
theorem impl_bytesOf_eq (m : List KV) (hv : ∀ x ∈ m, kvV x = true) (h : m.length ≤ 1048576) : impl_bytesOf m = some (bytesN m : Int) := by
  unfold impl_bytesOf
  refine loopO_bind (fun k (S : Int × Int) => S = ((bytesN (m.take k) : Int), (k : Int))) m.length (fun r => r = .go (bytesN m : Int)) rfl ?_ ?_ (fun r hr => by rw [hr]; rfl)
  · rintro k _ hk rfl
    left
    refine ⟨_, ?_, rfl⟩
    have h1 := kv_len (hv m[k] (List.getElem_mem hk))
    have h2 := bytes_take_le m hv k
    simp only [idx_nat m k hk, Option.bind_some]
    rw [if_pos (by simpa using hk), wrap_ok (n := ((m[k].Key.length : Nat) : Int) + ((m[k].Val.length : Nat) : Int)) (by omega) (by omega), wrap_ok (by omega) (by omega), wrap_ok (n := (k : Int) + 1) (by omega) (by omega), bytesN_take m k hk]
    simp
  · rintro _ rfl
    exact ⟨.go (bytesN m : Int), by simp [List.take_length], rfl⟩
theorem spec_Bytes_eq (m : List KV) (hm : srtK m) (hv : ∀ x ∈ m, kvV x = true) (h : m.length ≤ 1000000) : spec_Bytes m = some (bytesN m : Int) := by
  unfold spec_Bytes
  refine loopO_bind (fun k (S : Int × Int) => S = ((bytesN (m.take k) : Int), (k : Int))) m.length (fun r => r = .go (bytesN m : Int)) rfl ?_ ?_ (fun r hr => by rw [hr]; rfl)
  · rintro k _ hk rfl
    left
    refine ⟨_, ?_, rfl⟩
    have h1 := kv_len (hv m[k] (List.getElem_mem hk))
    have h2 := bytes_take_le m hv k
    simp only [idx_nat m k hk, Option.bind_some, MapOk_true m hm hv h]
    rw [if_pos (by simpa using hk), Option.bind_some, if_pos rfl, wrap_ok (n := ((bytesN (m.take k) : Nat) : Int) + ((m[k].Key.length : Nat) : Int)) (by omega) (by omega), wrap_ok (by omega) (by omega), wrap_ok (n := (k : Int) + 1) (by omega) (by omega), bytesN_take m k hk]
    simp [Int.add_assoc]
  · rintro _ rfl
    exact ⟨.go (bytesN m : Int), by simp [List.take_length], rfl⟩
theorem spec_l21Find_eq (m : List KV) (key : List UInt8) (h : m.length ≤ 1048576) : spec_l21Find m key = some (findR m key) := by
  unfold spec_l21Find findR
  refine (find_loop (fun x : KV => decide (x.Key = key)) m h (fun x => ({ Code := 0, N := 0, Text := x.Val, List := [] } : Reply)) (z := codeR 5) rfl (fun k hk => ?_) (by simp)).trans ?_
  · simp only [idx_nat m k hk, Option.bind_some]
    rw [if_pos (by simpa using hk)]
  · cases m.find? (fun x : KV => decide (x.Key = key)) <;> rfl
end Go.Proofs.YtmigafjpdoeicaaGreat
