/-
  The plain laws: what the pure functions come to, and the statements. Conditions: none.
-/
import Derived.Test.YtahennbogdbnmaaPm
import Derived.Test.YtahennbogdbnmaaY4
set_option linter.unusedVariables false
set_option linter.unusedSimpArgs false
namespace Go.Proofs.Ytahennbogdbnmaa
open Go Sl

theorem inRange_eq (n a b : Int) : impl_inRange n a b = some (decide (a ≤ n ∧ n ≤ b)) := by
  unfold impl_inRange
  by_cases h : n ≥ a <;> simp [h]
theorem l1In_eq (n a b : Int) : spec_l1In n a b = some (decide (a ≤ n ∧ n ≤ b)) := by
  unfold spec_l1In
  by_cases h : n ≥ a <;> simp [h]
theorem Need_eq (q : Int) : impl_Need q = spec_Need q := by
  unfold impl_Need spec_Need
  rw [inRange_eq, l1In_eq]
  simp only [Option.bind_some]
  by_cases h : 0 ≤ q ∧ q ≤ 1000
  · simp only [h, decide_true, Bool.not_true, Bool.false_eq_true, if_false, and_self]
    rw [wrap_ok (n := q + 50) (by omega) (by omega), wrap_ok (n := q + 50 - 1) (by omega) (by omega), wrap_ok (n := q + 49) (by omega) (by omega), show q + 50 - 1 = q + 49 by omega]
  · simp [h]
theorem Need_some (q : Int) : ∃ r, spec_Need q = some r := by
  unfold spec_Need
  rw [l1In_eq]
  simp only [Option.bind_some]
  split <;> exact ⟨_, rfl⟩
/-! ### SpaceOk -/
theorem all_range (l : List Int) (p : Int → Bool) (f : Int → Option Bool) (hf : ∀ x, f x = some (p x)) (hl : l.length ≤ 1048576) :
    loopO (ρ := Ctl Unit Bool) (fun (S6 : Int) => if (decide (S6 < ((l.length : Nat) : Int))) = true then ((idx l S6).bind fun E11 =>
  (f E11).bind fun R13 =>
  if (!R13) = true then (some (.done (.done false)))
  else (some (.go (IntKind.i64.wrap (S6 + (1 : Int))))))
  else (some (.done (.go ())))) (0 : Int) = some (if l.all p then .go () else .done false) := by
  rw [loopO_list l (fun k (_ : Unit) => (k : Int)) (fun _ x _ => if p x then some (Ctl.go ()) else some (Ctl.done (Ctl.done false))) (fun _ => some (Ctl.go ())) () ?h0 ?hs ?hf]
  case h0 => rfl
  case hs =>
    intro k hk _
    simp only [idx_nat l k hk, Option.bind_some, hf]
    rw [wrap_ok (by omega) (by omega)]
    by_cases he : p l[k] = true
    · simp [he, Ctl.mapGo, hk]
    · simp [he, Ctl.mapGo, hk]
  case hf => intro _; simp
  rw [runL_all p (Ctl.done false) _ _ (by intro k x _; rfl)]
  split <;> rfl
/-- giving blocks back, one by one -/
def giveV (who : Int) : List Int → List Int → Option (List Int)
  | [], s => some s
  | b :: bs, s => if 0 ≤ b ∧ b < s.length ∧ s[b.toNat]? = some who ∧ 1 ≤ who then giveV who bs (s.set b.toNat 0) else none
theorem giveV_cons (who b : Int) (bs s : List Int) : giveV who (b :: bs) s = if 0 ≤ b ∧ b < s.length ∧ s[b.toNat]? = some who ∧ 1 ≤ who then giveV who bs (s.set b.toNat 0) else none := rfl
theorem giveV_nil (who : Int) (s : List Int) : giveV who [] s = some s := rfl
theorem giveV_length (who : Int) : ∀ (bs s r : List Int), giveV who bs s = some r → r.length = s.length
  | [], s, r, h => by simp [giveV] at h; rw [h]
  | b :: bs, s, r, h => by
    unfold giveV at h
    split at h
    · rw [giveV_length who bs _ r h, List.length_set]
    · cases h
theorem idx_some' {α : Type} {l : List α} {i : Int} (h0 : 0 ≤ i) (h1 : i < l.length) : idx l i = some (l[i.toNat]'(by omega)) := by
  unfold idx; rw [if_pos h0, List.getElem?_eq_getElem]
/-- what a quota needs -/
def needV (q : Int) : Int := if 0 ≤ q ∧ q ≤ 1000 then 2 + 2 * ((q + 49) / 50) else 0
theorem needV_range (q : Int) : 0 ≤ needV q ∧ needV q ≤ 42 := by
  unfold needV; split <;> omega
theorem spec_Need_eq (q : Int) : spec_Need q = some (needV q) := by
  unfold spec_Need needV
  rw [l1In_eq]
  simp only [Option.bind_some]
  by_cases h : 0 ≤ q ∧ q ≤ 1000
  · have w1 : IntKind.i64.wrap (q + 49) = q + 49 := wrap_ok (by omega) (by omega)
    have t1 : Int.tdiv (q + 49) 50 = (q + 49) / 50 := Int.tdiv_eq_ediv_of_nonneg (by omega)
    have w2 : IntKind.i64.wrap ((q + 49) / 50) = (q + 49) / 50 := wrap_ok (by omega) (by omega)
    have w3 : IntKind.i64.wrap (2 * ((q + 49) / 50)) = 2 * ((q + 49) / 50) := wrap_ok (by omega) (by omega)
    have w4 : IntKind.i64.wrap (2 + 2 * ((q + 49) / 50)) = 2 + 2 * ((q + 49) / 50) := wrap_ok (by omega) (by omega)
    simp only [w1, t1, w2, w3, w4, h]
    rfl
  · simp [h]
theorem impl_Need_eq (q : Int) : impl_Need q = some (needV q) := by rw [Need_eq, spec_Need_eq]
theorem isTenant_eq (n : Int) : impl_isTenant n = some (decide (1 ≤ n ∧ n ≤ 99)) := by
  unfold impl_isTenant; rw [inRange_eq]; rfl
theorem shares_sum (l : List Share) (h : l.length ≤ 1048576) : 0 ≤ (l.map fun x => needV x.Quota).sum ∧ (l.map fun x => needV x.Quota).sum ≤ 42 * l.length := by
  clear h
  induction l with
  | nil => simp
  | cons x l ih => have := needV_range x.Quota; simp only [List.map_cons, List.sum_cons, List.length_cons]; omega
theorem spec_l19All_eq (s : Shares) (h : s.List.length ≤ 1048576) : spec_l19All s = some ((s.List.map fun x => needV x.Quota).sum + if s.List.length > 0 then 4 else 0) := by
  unfold spec_l19All
  rw [sum_loop (ρ := Int) s.List (fun x => spec_Need x.Quota) (fun x => needV x.Quota) (fun x _ => spec_Need_eq _) (fun x _ => by have := needV_range x.Quota; omega) h 0 (by omega) (by omega)]
  have := shares_sum s.List h
  simp only [bindC_go, Int.zero_add]
  by_cases h0 : ((s.List.length : Nat) : Int) > 0
  · rw [if_pos (by simpa using h0), wrap_ok (by omega) (by omega), if_pos (by omega)]; rfl
  · rw [if_neg (by simpa using h0), if_neg (by omega)]; simp
theorem impl_needOf_eq (s : Shares) (h : s.List.length ≤ 1048576) : impl_needOf s = some (4 + (s.List.map fun x => needV x.Quota).sum) := by
  unfold impl_needOf
  rw [sum_loop (ρ := Int) s.List (fun x => impl_Need x.Quota) (fun x => needV x.Quota) (fun x _ => impl_Need_eq _) (fun x _ => by have := needV_range x.Quota; omega) h 4 (by omega) (by omega)]
  rfl
theorem impl_SharesOk_spec (s : Shares) (h : s.List.length ≤ 1048576) : impl_SharesOk s = spec_SharesOk s := by
  unfold spec_SharesOk impl_SharesOk
  simp only [l1In_eq, inRange_eq, isTenant_eq, Option.bind_some, spec_l19All_eq s h, impl_needOf_eq s h, ge_iff_le]
  by_cases h0 : 0 ≤ s.Size ∧ s.Size ≤ 1000
  · by_cases h4 : ((s.List.length : Nat) : Int) > 4
    · simp [h0, h4]
    · simp only [h0, h4, and_self, decide_true, decide_false, Bool.not_true, Bool.false_eq_true, if_false, Option.bind_some]
      congr 1
      funext _
      by_cases hz : s.List.length = 0
      · have : s.List = [] := List.eq_nil_of_length_eq_zero hz
        simp [this, h0.1]
      · have hz' : ¬ ((s.List.length : Nat) : Int) = 0 := by omega
        simp only [hz', decide_false, Bool.false_eq_true, if_false, Option.bind_some, show s.List.length > 0 by omega, if_true]
        rw [Int.add_comm]
  · simp [h0]
theorem spec_SharesOk_some (s : Shares) (h : s.List.length ≤ 1048576) : ∃ r, spec_SharesOk s = some r := by
  unfold spec_SharesOk
  simp only [l1In_eq, Option.bind_some, spec_l19All_eq s h]
  by_cases h0 : 0 ≤ s.Size ∧ s.Size ≤ 1000
  · by_cases h4 : ((s.List.length : Nat) : Int) > 4
    · exact ⟨false, by simp [h0, h4]⟩
    · simp only [h0, h4, and_self, decide_true, decide_false, Bool.not_true, Bool.false_eq_true, if_false, Option.bind_some]
      refine bindC_ends (loopO_ends (fun k i => i = (k : Int)) s.List.length rfl ?_ ?_) (fun _ => ⟨_, rfl⟩)
      · rintro k i hk rfl
        simp only [idx_nat s.List k hk, Option.bind_some]
        rw [if_pos (by simpa using hk), wrap_ok (n := (k : Int) + 1) (by omega) (by omega)]
        have key : ∀ m : Option Bool, (∃ b, m = some b) → (∃ s' : Int, (m.bind fun T17 => if T17 = true then some (Ctl.done (Ctl.done false)) else some (Ctl.go ((k : Int) + 1))) = some (Ctl.go s' : Ctl Int (Ctl Unit Bool)) ∧ s' = ((k + 1 : Nat) : Int)) ∨
            ∃ r, (m.bind fun T17 => if T17 = true then some (Ctl.done (Ctl.done false)) else some (Ctl.go ((k : Int) + 1))) = some (Ctl.done r : Ctl Int (Ctl Unit Bool)) := by
          rintro m ⟨b, rfl⟩
          cases b
          · left; exact ⟨_, rfl, by omega⟩
          · right; exact ⟨_, rfl⟩
        apply key
        split
        · exact ⟨_, rfl⟩
        · split
          · exact ⟨_, rfl⟩
          · split
            · rename_i hk0
              have hk0' : (k : Int) > 0 := by simpa using hk0
              have hw : IntKind.i64.wrap ((k : Int) - 1) = ((k - 1 : Nat) : Int) := by rw [wrap_ok (by omega) (by omega)]; omega
              rw [hw, idx_nat s.List (k - 1) (by omega)]
              exact ⟨_, rfl⟩
            · exact ⟨_, rfl⟩
      · rintro i rfl
        exact ⟨.go (), by simp⟩
  · exact ⟨false, by simp [h0]⟩
theorem markText_loop (m : Nat) : ∀ s : List UInt8, s.length + m ≤ 9223372036854775806 → ∃ r : List UInt8, loopO (ρ := Ctl (List UInt8) (List UInt8)) (fun (S2 : Int × List UInt8) => if (decide (S2.1 > (0 : Int))) = true then ((cat ([toU8 (IntKind.i64.wrap ((48 : Int) + (Int.tmod S2.1 (10 : Int))))]) S2.2).bind fun E8 =>
  some (.go (IntKind.i64.wrap (Int.tdiv S2.1 (10 : Int)), E8)))
  else (some (.done (.go S2.2)))) ((m : Int), s) = some (.go r) ∧ r.length ≤ s.length + m := by
  induction m using Nat.strongRecOn with
  | _ m ih =>
    intro s hs
    rw [loopO_eq]
    by_cases h0 : m = 0
    · subst h0
      exact ⟨s, by simp, by omega⟩
    · simp only
      rw [if_pos (by simp; omega), cat_ok (by simp; omega)]
      have hd : Int.tdiv (m : Int) 10 = ((m / 10 : Nat) : Int) := rfl
      rw [hd, wrap_ok (n := ((m / 10 : Nat) : Int)) (by omega) (by omega)]
      simp only [Option.bind_some]
      obtain ⟨r, hr, hl⟩ := ih (m / 10) (by omega) ([toU8 (IntKind.i64.wrap ((48 : Int) + (Int.tmod (m : Int) (10 : Int))))] ++ s) (by simp; omega)
      exact ⟨r, hr, by simp at hl; omega⟩
def wgt_L1Cur (x : L1Cur) : Nat := x.b.length + 0
def wgt_Shares (x : Shares) : Nat := x.List.length + 0
def bnd_Shares (x : Shares) : Prop := x.List.length ≤ 4611686018427387904
theorem bnd_of_Shares (x : Shares) (h : wgt_Shares x ≤ 1048576) : bnd_Shares x := by
  have h0 : x.List.length + 0 ≤ 1048576 := h
  exact (show x.List.length ≤ 4611686018427387904 by omega)

theorem SharesOk_true (s : Shares) (h : s.List.length ≤ 1048576) (ht : spec_SharesOk s = some true) : 0 ≤ s.Size ∧ s.Size ≤ 1000 ∧ s.List.length ≤ 4 := by
  unfold spec_SharesOk at ht
  simp only [l1In_eq, Option.bind_some] at ht
  by_cases h0 : 0 ≤ s.Size ∧ s.Size ≤ 1000
  · by_cases h4 : ((s.List.length : Nat) : Int) > 4
    · simp [h0, h4] at ht
    · exact ⟨h0.1, h0.2, by omega⟩
  · simp [h0] at ht
/-- a list turned up to a place -/
def preM {α : Type} (f : α → α) (l : List α) (k : Nat) : List α := (l.take k).map f ++ l.drop k
theorem preM_length {α : Type} (f : α → α) (l : List α) (k : Nat) : (preM f l k).length = l.length := by unfold preM; simp; omega
theorem preM_get {α : Type} (f : α → α) (l : List α) (k : Nat) (h : k < l.length) : idx (preM f l k) (k : Int) = some l[k] := by
  rw [idx_nat _ k (by rw [preM_length]; exact h)]
  congr 1
  have hl : ((l.take k).map f).length = k := by rw [List.length_map, List.length_take]; omega
  unfold preM
  rw [List.getElem_append_right (by omega)]
  simp only [hl, Nat.sub_self]
  simp
theorem preM_set {α : Type} (f : α → α) (l : List α) (k : Nat) (h : k < l.length) : (preM f l k).set k (f l[k]) = preM f l (k + 1) := by
  have hl : ((l.take k).map f).length = k := by rw [List.length_map, List.length_take]; omega
  have htk : l.take (k + 1) = l.take k ++ [l[k]] := by rw [List.take_add_one, List.getElem?_eq_getElem h]; rfl
  unfold preM
  rw [List.set_append_right _ _ (by omega), hl, Nat.sub_self, htk, List.drop_eq_getElem_cons h, List.set_cons_zero, List.map_append, List.append_assoc]
  rfl
theorem preM_same {α : Type} (f : α → α) (l : List α) (k : Nat) (h : k < l.length) (hf : f l[k] = l[k]) : preM f l (k + 1) = preM f l k := by
  rw [← preM_set f l k h, hf]
  apply List.ext_getElem?
  intro j
  rw [List.getElem?_set]
  split
  · rename_i he
    subst he
    have := preM_get f l k h
    unfold idx at this
    rw [if_pos (by omega), Int.toNat_natCast] at this
    rw [if_pos (by rw [preM_length]; exact h), this]
  · rfl
theorem preM_all {α : Type} (f : α → α) (l : List α) : preM f l l.length = l.map f := by unfold preM; simp
/-- a tenant's blocks, wiped -/
def wipeV (who : Int) (l : List Int) : List Int := l.map fun x => if x = who then 0 else x
/-- the first n free blocks of the first k -/
def freeIx (l : List Int) (n : Int) : Nat → List Nat
  | 0 => []
  | k + 1 => if l[k]? = some 0 ∧ ((freeIx l n k).length : Int) < n then freeIx l n k ++ [k] else freeIx l n k
theorem freeIx_lt (l : List Int) (n : Int) : ∀ k, ∀ i ∈ freeIx l n k, i < k
  | 0, i, h => by simp [freeIx] at h
  | k + 1, i, h => by
    unfold freeIx at h
    split at h
    · rcases List.mem_append.1 h with h | h
      · have := freeIx_lt l n k i h; omega
      · have : i = k := by simpa using h
        omega
    · have := freeIx_lt l n k i h; omega
theorem freeIx_length (l : List Int) (n : Int) : ∀ k, (freeIx l n k).length ≤ k
  | 0 => by simp [freeIx]
  | k + 1 => by
    have := freeIx_length l n k
    unfold freeIx
    split
    · simp; omega
    · omega
theorem freeIx_sat (l : List Int) (n : Int) (k : Nat) (h : ¬ ((freeIx l n k).length : Int) < n) : ∀ d, freeIx l n (k + d) = freeIx l n k
  | 0 => rfl
  | d + 1 => by
    have := freeIx_sat l n k h d
    have e : freeIx l n (k + (d + 1)) = if l[k + d]? = some 0 ∧ ((freeIx l n (k + d)).length : Int) < n then freeIx l n (k + d) ++ [k + d] else freeIx l n (k + d) := rfl
    rw [e, this, if_neg (fun h2 => h h2.2)]
theorem freeIx_count (l : List Int) (n : Int) (hn : 1 ≤ n) : ∀ k, k ≤ l.length → (((freeIx l n k).length : Int) < n ↔ (((l.take k).countP fun x => decide (x = 0) : Nat) : Int) < n) ∧ ((((l.take k).countP fun x => decide (x = 0) : Nat) : Int) < n → (freeIx l n k).length = ((l.take k).countP fun x => decide (x = 0))) ∧
    ((((l.take k).countP fun x => decide (x = 0) : Nat) : Int) = n → ((freeIx l n k).length : Int) = n)
  | 0, _ => by simp [freeIx]
  | k + 1, hk => by
    obtain ⟨h1, h2, h3⟩ := freeIx_count l n hn k (by omega)
    have hk' : k < l.length := by omega
    have htk : l.take (k + 1) = l.take k ++ [l[k]] := by rw [List.take_add_one, List.getElem?_eq_getElem hk']; rfl
    unfold freeIx
    rw [htk, List.countP_append, List.getElem?_eq_getElem hk']
    by_cases hx : l[k] = 0
    · simp only [hx, true_and, List.countP_cons, List.countP_nil, decide_true, if_true, Nat.zero_add]
      by_cases hc : ((freeIx l n k).length : Int) < n
      · rw [if_pos hc]
        have := h2 (h1.1 hc)
        simp only [List.length_append, List.length_cons, List.length_nil]
        omega
      · rw [if_neg hc]
        have : ¬ (((l.take k).countP fun x => decide (x = 0) : Nat) : Int) < n := fun h => hc (h1.2 h)
        omega
    · simp only [List.countP_cons, List.countP_nil, hx, decide_false, Bool.false_eq_true, if_false, Nat.add_zero]
      rw [if_neg (by simp [hx])]
      exact ⟨h1, h2, h3⟩
/-- blocks given to somebody -/
def setAll (who : Int) (l : List Int) (g : List Nat) : List Int := g.foldl (fun s i => s.set i who) l
theorem setAll_length (who : Int) (g : List Nat) : ∀ l, (setAll who l g).length = l.length := by
  induction g with
  | nil => intro l; rfl
  | cons i g ih => intro l; show (setAll who (l.set i who) g).length = _; rw [ih, List.length_set]
theorem setAll_snoc (who : Int) (l : List Int) (g : List Nat) (i : Nat) : setAll who l (g ++ [i]) = (setAll who l g).set i who := by
  unfold setAll; rw [List.foldl_append]; rfl
theorem sLt_nil (a : List UInt8) : sLt a [] = false := by cases a <;> rfl
theorem sLt_compl : ∀ a b : List UInt8, (sLt b a || decide (b = a)) = !sLt a b
  | [], [] => rfl
  | [], b :: y => by simp [sLt, Op.bytesLess]
  | a :: x, [] => by simp [sLt, Op.bytesLess]
  | a :: x, b :: y => by
    have ih := sLt_compl x y
    simp only [sLt] at ih
    simp only [sLt, Op.bytesLess]
    by_cases h1 : a < b
    · have h2 : ¬ b < a := fun h => absurd (UInt8.lt_trans h1 h) (UInt8.lt_irrefl _)
      have h3 : ¬ b = a := fun h => by subst h; exact UInt8.lt_irrefl _ h1
      simp [h1, h2, h3]
    · by_cases h2 : b < a
      · have h3 : ¬ a = b := fun h => by subst h; exact UInt8.lt_irrefl _ h2
        simp [h1, h2, h3]
      · have h3 : a = b := by
          rw [UInt8.lt_iff_toNat_lt] at h1 h2
          apply UInt8.toNat_inj.1
          omega
        subst h3
        simp only [h1, decide_false, Bool.false_or, beq_self_eq_true, Bool.true_and, List.cons.injEq, true_and]
        exact ih
theorem scan_up (p : Nat → Bool) (n : Nat) : ∀ d a, a + d = n → ∃ j, a ≤ j ∧ j ≤ n ∧ (∀ i, a ≤ i → i < j → p i = false) ∧ (j < n → p j = true)
  | 0, a, h => ⟨a, Nat.le_refl _, by omega, fun i h1 h2 => by omega, fun h => by omega⟩
  | d + 1, a, h => by
    cases hp : p a with
    | true => exact ⟨a, Nat.le_refl _, by omega, fun i h1 h2 => by omega, fun _ => hp⟩
    | false =>
      obtain ⟨j, h1, h2, h3, h4⟩ := scan_up p n d (a + 1) (by omega)
      refine ⟨j, by omega, h2, fun i h5 h6 => ?_, h4⟩
      by_cases e : i = a
      · rw [e]; exact hp
      · exact h3 i (by omega) h6
theorem down_stop (p : Nat → Bool) : ∀ n : Nat, ∃ j : Nat, j ≤ n ∧ (∀ i, j ≤ i → i < n → p i = false) ∧ (0 < j → p (j - 1) = true)
  | 0 => ⟨0, Nat.le_refl _, fun i h1 h2 => by omega, fun h => by omega⟩
  | n + 1 => by
    cases hp : p n with
    | true => exact ⟨n + 1, Nat.le_refl _, fun i h1 h2 => by omega, fun _ => by simpa using hp⟩
    | false =>
      obtain ⟨j, h1, h2, h3⟩ := down_stop p n
      refine ⟨j, by omega, fun i h4 h5 => ?_, h3⟩
      by_cases e : i = n
      · rw [e]; exact hp
      · exact h2 i h4 (by omega)
theorem all_loop {body : Int → Option (Ctl Int (Ctl Unit Bool))} (pass : Nat → Bool) (n : Nat) (h : ∀ k, k < n → body (k : Int) = some (if pass k = true then .go ((k : Int) + 1) else .done (.done false))) (hn : body (n : Int) = some (.done (.go ()))) :
    loopO body 0 = some (if (List.range n).all pass = true then .go () else .done false) := by
  have key : ∀ d k, k + d = n → loopO body (k : Int) = some (if ((List.range n).drop k).all pass = true then .go () else .done false) := by
    intro d
    induction d with
    | zero =>
      intro k hk
      obtain rfl : k = n := by omega
      rw [loopO_eq, hn, List.drop_of_length_le (by simp)]
      rfl
    | succ d ih =>
      intro k hk
      have hd : (List.range n).drop k = k :: (List.range n).drop (k + 1) := by rw [List.drop_eq_getElem_cons (by simp; omega)]; simp
      rw [loopO_eq, h k (by omega), hd, List.all_cons]
      cases hp : pass k with
      | true =>
        have := ih (k + 1) (by omega)
        rw [show ((k + 1 : Nat) : Int) = (k : Int) + 1 by omega] at this
        simpa using this
      | false => simp
  have := key n 0 (by omega)
  simpa using this
theorem sLt_compl' (a b : List UInt8) : (!sLt a b) = (sLt b a || decide (b = a)) := (sLt_compl a b).symm
theorem sLt_nil_iff (b : List UInt8) : sLt [] b = !decide (b = []) := by cases b <;> rfl
theorem len0 (out : List Int) : decide (((out.length : Nat) : Int) = 0) = decide (out = []) := by
  cases out with
  | nil => rfl
  | cons a l => simp; omega
theorem sMin_eq (a b : List UInt8) : sMin a b = if sLt b a = true then b else a := by
  unfold sMin
  rw [sLt_compl]
  cases sLt b a <;> simp
theorem sMax_eq (a b : List UInt8) : sMax a b = if sLt a b = true then b else a := by
  unfold sMax
  cases sLt a b <;> simp
theorem sLt_irr (a : List UInt8) : sLt a a = false := by
  have := sLt_compl a a
  simpa using this
theorem sLt_trans : ∀ {a b c : List UInt8}, sLt a b = true → sLt b c = true → sLt a c = true
  | [], [], _, h, _ => by simp [sLt, Op.bytesLess] at h
  | [], _ :: _, [], _, h => by simp [sLt, Op.bytesLess] at h
  | [], _ :: _, _ :: _, _, _ => rfl
  | _ :: _, [], _, h, _ => by simp [sLt, Op.bytesLess] at h
  | _ :: _, _ :: _, [], _, h => by simp [sLt, Op.bytesLess] at h
  | x :: a, y :: b, z :: c, h1, h2 => by
    simp only [sLt, Op.bytesLess, Bool.or_eq_true, decide_eq_true_eq, Bool.and_eq_true, beq_iff_eq] at h1 h2 ⊢
    rcases h1 with h1 | ⟨rfl, h1⟩
    · rcases h2 with h2 | ⟨rfl, _⟩
      · exact .inl (UInt8.lt_trans h1 h2)
      · exact .inl h1
    · rcases h2 with h2 | ⟨rfl, h2⟩
      · exact .inl h2
      · exact .inr ⟨rfl, sLt_trans h1 h2⟩
theorem sLt_irrefl (a : List UInt8) : sLt a a = false := by
  have := sLt_compl a a
  simpa using this
theorem all_loop' {body : Int → Option (Ctl Int (Ctl Unit Bool))} (pass : Nat → Bool) (n : Nat) (h : ∀ k, k < n → body (k : Int) = some (if pass k = true then .go ((k : Int) + 1) else .done (.done false))) (hn : body (n : Int) = some (.done (.go ()))) :
    bindC (loopO body 0) (fun (_ : Unit) => some true) = some ((List.range n).all pass) := by
  rw [all_loop pass n h hn]
  cases (List.range n).all pass <;> rfl
/-- snapshots in order -/
def snapP (seq : Int) (l : List Int) (k : Nat) : Bool := match l[k]? with
  | some s => decide (0 ≤ s ∧ s ≤ seq) && (match k with | 0 => true | j + 1 => match l[j]? with | some d => decide (d < s) | none => true)
  | none => true
theorem snapP_at (seq : Int) (l : List Int) (k : Nat) (h : k < l.length) : snapP seq l k = (decide (0 ≤ l[k] ∧ l[k] ≤ seq) && (if h0 : 0 < k then decide (l[k - 1]'(by omega) < l[k]) else true)) := by
  unfold snapP
  rw [List.getElem?_eq_getElem h]
  cases k with
  | zero => rfl
  | succ j =>
    simp only [Nat.zero_lt_succ, dif_pos, Nat.add_sub_cancel]
    rw [List.getElem?_eq_getElem (by omega)]
def snapsV (seq : Int) (l : List Int) : Bool := (List.range l.length).all (snapP seq l)
theorem snaps_at {seq : Int} {l : List Int} (hv : snapsV seq l = true) (k : Nat) (hk : k < l.length) : (0 ≤ l[k] ∧ l[k] ≤ seq) ∧ (0 < k → l[k - 1]'(by omega) < l[k]) := by
  unfold snapsV at hv
  rw [List.all_eq_true] at hv
  have := hv k (by simpa using hk)
  rw [snapP_at seq l k hk, Bool.and_eq_true] at this
  refine ⟨of_decide_eq_true this.1, fun h0 => ?_⟩
  have h2 := this.2
  rw [dif_pos h0] at h2
  exact of_decide_eq_true h2
theorem snaps_last {seq : Int} {l : List Int} (hv : snapsV seq l = true) (h0 : 0 < l.length) : (seq ∈ l) ↔ l[l.length - 1]'(by omega) = seq := by
  constructor
  · intro hm
    obtain ⟨i, hi, he⟩ := List.getElem_of_mem hm
    by_cases e : i = l.length - 1
    · subst e; exact he
    · have h1 := (snaps_at hv (i + 1) (by omega)).2 (by omega)
      have h2 := (snaps_at hv (i + 1) (by omega)).1
      simp only [Nat.add_sub_cancel] at h1
      omega
  · intro h
    rw [← h]
    exact List.getElem_mem _
theorem piece_nat {α : Type} (l : List α) (a b : Nat) (lo hi : Int) (h1 : lo = (a : Int)) (h2 : hi = (b : Int)) (h3 : a ≤ b) (h4 : b ≤ l.length) : piece l lo hi = some ((l.drop a).take (b - a)) := by
  subst h1 h2
  unfold piece
  rw [if_pos ⟨by omega, by omega, by omega⟩, Int.toNat_natCast, Int.toNat_natCast]
theorem filter_one {α : Type} (l : List α) (p : α → Bool) (j : Nat) (hj : j < l.length) (h1 : p l[j] = false) (h2 : ∀ i (h : i < l.length), i ≠ j → p l[i] = true) : l.filter p = l.take j ++ l.drop (j + 1) := by
  have hs : l = l.take j ++ l[j] :: l.drop (j + 1) := by rw [← List.drop_eq_getElem_cons hj, List.take_append_drop]
  have ha : (l.take j).filter p = l.take j := by
    rw [List.filter_eq_self]
    intro x hx
    obtain ⟨i, hi, rfl⟩ := List.getElem_of_mem hx
    have hi' : i < j := by simp at hi; omega
    simp only [List.getElem_take]
    exact h2 i (by omega) (by omega)
  have hb : (l.drop (j + 1)).filter p = l.drop (j + 1) := by
    rw [List.filter_eq_self]
    intro x hx
    obtain ⟨i, hi, rfl⟩ := List.getElem_of_mem hx
    have hi' : j + 1 + i < l.length := by simp at hi; omega
    simp only [List.getElem_drop]
    exact h2 (j + 1 + i) hi' (by omega)
  conv => lhs; rw [hs]
  rw [List.filter_append, List.filter_cons_of_neg (by simpa using h1), ha, hb]
theorem filter_take {α : Type} (p : α → Bool) (l : List α) (k : Nat) (h : k < l.length) : (l.take (k + 1)).filter p = (l.take k).filter p ++ if p l[k] = true then [l[k]] else [] := by
  rw [show l.take (k + 1) = l.take k ++ [l[k]] by rw [List.take_add_one, List.getElem?_eq_getElem h]; rfl, List.filter_append]
  congr 1
  by_cases c : p l[k] = true
  · rw [if_pos c, List.filter_cons_of_pos c]; rfl
  · rw [if_neg c, List.filter_cons_of_neg c]; rfl
theorem filter_len {α : Type} (p : α → Bool) (l : List α) (k : Nat) : ((l.take k).filter p).length ≤ k := Nat.le_trans (List.length_filter_le _ _) (by simp; omega)
theorem snaps_lt {seq : Int} {l : List Int} (hv : snapsV seq l = true) : ∀ (j : Nat) (hj : j < l.length) (i : Nat) (hi : i < j), l[i]'(by omega) < l[j] := by
  intro j
  induction j with
  | zero => intro _ i hi; omega
  | succ j ih =>
    intro hj i hi
    have h1 := (snaps_at hv (j + 1) hj).2 (by omega)
    simp only [Nat.add_sub_cancel] at h1
    by_cases e : i = j
    · subst e; exact h1
    · have := ih (by omega) i (by omega); omega
def dropS (l : List Int) (x : Int) : List Int := l.filter fun s => !decide (s = x)
theorem dropS_at {seq : Int} {l : List Int} (hv : snapsV seq l = true) (j : Nat) (hj : j < l.length) : dropS l l[j] = l.take j ++ l.drop (j + 1) := by
  unfold dropS
  refine filter_one l _ j hj (by simp) fun i hi hij => ?_
  have : ¬ l[i] = l[j] := by
    rcases Nat.lt_or_ge i j with h | h
    · have := snaps_lt hv j hj i h; omega
    · have := snaps_lt hv i hi j (by omega); omega
  simp [this]
/-- the reservation at a place, and the one ahead of it -/
def shareP (l : List Share) (k : Nat) : Bool := match l[k]? with
  | some x => decide (1 ≤ x.Tenant ∧ x.Tenant ≤ 99) && (decide (0 ≤ x.Quota ∧ x.Quota ≤ 1000) && (match k with | 0 => true | j + 1 => match l[j]? with | some d => decide (d.Tenant < x.Tenant) | none => true))
  | none => true
theorem shareP_at (l : List Share) (k : Nat) (h : k < l.length) : shareP l k = (decide (1 ≤ l[k].Tenant ∧ l[k].Tenant ≤ 99) && (decide (0 ≤ l[k].Quota ∧ l[k].Quota ≤ 1000) && (if h0 : 0 < k then decide ((l[k - 1]'(by omega)).Tenant < l[k].Tenant) else true))) := by
  unfold shareP
  rw [List.getElem?_eq_getElem h]
  cases k with
  | zero => rfl
  | succ j =>
    simp only [Nat.zero_lt_succ, dif_pos, Nat.add_sub_cancel]
    rw [List.getElem?_eq_getElem (by omega)]
/-- what all reservations need -/
def allNeed (s : Shares) : Int := (s.List.map fun x => needV x.Quota).sum + if s.List.length > 0 then 4 else 0
/-- reservations as required -/
def sharesV (s : Shares) : Bool := decide (0 ≤ s.Size ∧ s.Size ≤ 1000) && (decide (s.List.length ≤ 4) && ((List.range s.List.length).all (shareP s.List) && decide (allNeed s ≤ s.Size)))
theorem spec_SharesOk_eq (s : Shares) (h : s.List.length ≤ 1048576) : spec_SharesOk s = some (sharesV s) := by
  unfold spec_SharesOk sharesV
  simp only [l1In_eq, Option.bind_some, spec_l19All_eq s h]
  by_cases h0 : 0 ≤ s.Size ∧ s.Size ≤ 1000
  · by_cases h4 : s.List.length ≤ 4
    · rw [decide_eq_true h0, decide_eq_true h4, decide_eq_false (by omega : ¬ ((s.List.length : Nat) : Int) > 4)]
      simp only [Bool.not_true, Bool.false_eq_true, if_false, Option.bind_some, Bool.true_and]
      rw [all_loop (shareP s.List) s.List.length ?hp ?hq]
      case hq => simp
      case hp =>
        intro k hk
        simp only [idx_nat s.List k hk, Option.bind_some]
        rw [if_pos (by simpa using hk), wrap_ok (n := (k : Int) + 1) (by omega) (by omega), shareP_at s.List k hk]
        by_cases d1 : 1 ≤ s.List[k].Tenant ∧ s.List[k].Tenant ≤ 99
        · by_cases d2 : 0 ≤ s.List[k].Quota ∧ s.List[k].Quota ≤ 1000
          · rw [decide_eq_true d1, decide_eq_true d2]
            by_cases hk0 : 0 < k
            · have hw : IntKind.i64.wrap ((k : Int) - 1) = ((k - 1 : Nat) : Int) := by rw [wrap_ok (by omega) (by omega)]; omega
              rw [dif_pos hk0, if_neg (by simp), if_neg (by simp), if_pos (by simp; omega)]
              simp only [hw, idx_nat s.List (k - 1) (by omega), Option.bind_some]
              by_cases d3 : (s.List[k - 1]'(by omega)).Tenant < s.List[k].Tenant
              · simp [d3, show ¬ s.List[k].Tenant ≤ (s.List[k - 1]'(by omega)).Tenant by omega]
              · simp [d3, show s.List[k].Tenant ≤ (s.List[k - 1]'(by omega)).Tenant by omega]
            · obtain rfl : k = 0 := by omega
              simp
          · rw [decide_eq_true d1, decide_eq_false d2]
            simp
        · rw [decide_eq_false d1]
          simp
      cases (List.range s.List.length).all (shareP s.List) with
      | false => rfl
      | true => rfl
    · rw [decide_eq_true h0, decide_eq_false h4, decide_eq_true (by omega : ((s.List.length : Nat) : Int) > 4)]
      rfl
  · rw [decide_eq_false h0]
    rfl
theorem shares_lt {s : Shares} (hv : sharesV s = true) : ∀ (j : Nat) (hj : j < s.List.length) (i : Nat) (hi : i < j), (s.List[i]'(by omega)).Tenant < s.List[j].Tenant := by
  intro j
  induction j with
  | zero => intro _ i hi; omega
  | succ j ih =>
    intro hj i hi
    have h1 : (s.List[j]'(by omega)).Tenant < s.List[j + 1].Tenant := by
      unfold sharesV at hv
      simp only [Bool.and_eq_true, List.all_eq_true] at hv
      have := hv.2.2.1 (j + 1) (by simpa using hj)
      rw [shareP_at s.List (j + 1) hj, dif_pos (by omega)] at this
      simp only [Bool.and_eq_true] at this
      exact of_decide_eq_true this.2.2
    by_cases e : i = j
    · subst e; exact h1
    · have := ih (by omega) i (by omega); omega
theorem cloneShares_eq (s : List Share) (h : s.length ≤ 1048576) : slices_Clone_21618 s = some s := by
  unfold slices_Clone_21618
  rw [app_ok (by simp; omega) (by simp; omega)]
  rfl
theorem copyShares_eq (s : Shares) (h : s.List.length ≤ 1048576) : impl_copyShares s = some s := by
  unfold impl_copyShares
  rw [cloneShares_eq _ h]
  rfl
theorem spec_l19Copy_eq (s : Shares) (h : s.List.length ≤ 1048576) : spec_l19Copy s = some s := by
  unfold spec_l19Copy
  rw [app_ok (by simp; omega) (by simp; omega)]
  rfl
/-- the place of a tenant, or where it would be -/
theorem shareAt_cases (s : Shares) (t : Int) (hv : sharesV s = true) (h : s.List.length ≤ 1048576) :
    ∃ j, j ≤ s.List.length ∧ (∀ i (hi : i < s.List.length), i < j → s.List[i].Tenant < t) ∧ (∀ i (hi : i < s.List.length), j < i → t < s.List[i].Tenant) ∧
      ((∃ hj : j < s.List.length, impl_shareAt s t = some ((j : Int), true) ∧ s.List[j].Tenant = t) ∨ (impl_shareAt s t = some ((j : Int), false) ∧ ∀ i (hi : i < s.List.length), j ≤ i → t < s.List[i].Tenant)) := by
  unfold impl_shareAt
  have key : ∃ c, loopO (ρ := Ctl Int (Int × Bool)) (fun (S2 : Int) => (if (decide (S2 < ((s.List.length : Nat) : Int))) = true then ((idx s.List S2).bind fun E9 => some (decide (E9.Tenant < t))) else (some false)).bind (fun (T6 : Bool) =>
      if T6 = true then (some (.go (IntKind.i64.wrap (S2 + (1 : Int))))) else (some (.done (.go S2))))) (0 : Int) = some c ∧
      ∃ j, c = .go ((j : Nat) : Int) ∧ j ≤ s.List.length ∧ (∀ i (hi : i < s.List.length), i < j → s.List[i].Tenant < t) ∧ ∀ hj : j < s.List.length, t ≤ s.List[j].Tenant := by
    refine loopO_total (fun i q => q = (i : Int) ∧ ∀ q (h : q < s.List.length), q < i → s.List[q].Tenant < t) s.List.length _ ⟨rfl, fun q h h2 => by omega⟩ ?_ ?_
    · rintro i q hi ⟨rfl, h2⟩
      simp only [idx_nat s.List i hi, Option.bind_some]
      rw [if_pos (by simpa using hi), wrap_ok (by omega) (by omega)]
      by_cases c : s.List[i].Tenant < t
      · left
        refine ⟨(i : Int) + 1, by simp [c], by omega, fun q h h3 => ?_⟩
        by_cases e : q = i
        · subst e; exact c
        · exact h2 q h (by omega)
      · right
        exact ⟨.go (i : Int), by simp [c], i, rfl, by omega, fun q h h3 => h2 q h h3, fun _ => by omega⟩
    · rintro q ⟨rfl, h2⟩
      exact ⟨.go (s.List.length : Int), by simp, s.List.length, rfl, Nat.le_refl _, fun q h h3 => h2 q h h3, fun hj => by omega⟩
  obtain ⟨c, hc, j, rfl, h1, h2, h3⟩ := key
  rw [hc]
  have h4 : ∀ i (hi : i < s.List.length), j < i → t < s.List[i].Tenant := fun i hi hji => by
    have := h3 (by omega)
    have := shares_lt hv i hi j hji
    omega
  refine ⟨j, h1, h2, h4, ?_⟩
  by_cases hj : j < s.List.length
  · by_cases e : s.List[j].Tenant = t
    · refine .inl ⟨hj, ?_, e⟩
      simp [idx_nat s.List j hj, hj, e]
    · refine .inr ⟨?_, fun i hi hji => ?_⟩
      · simp [idx_nat s.List j hj, hj, e]
      · by_cases e2 : i = j
        · subst e2
          have := h3 hi
          omega
        · exact h4 i hi (by omega)
  · refine .inr ⟨?_, fun i hi hji => by omega⟩
    simp [hj]
theorem delShares_eq (l : List Share) (j : Nat) (hj : j < l.length) (h : l.length ≤ 1048576) : slices_Delete_21618 l (j : Int) (IntKind.i64.wrap ((j : Int) + 1)) = some (l.take j ++ l.drop (j + 1)) := by
  unfold slices_Delete_21618
  have hw : IntKind.i64.wrap ((j : Int) + 1) = ((j + 1 : Nat) : Int) := by rw [wrap_ok (by omega) (by omega)]; omega
  rw [hw, piece_nat l j (j + 1) _ _ rfl rfl (by omega) (by omega), piece_nat l 0 j 0 (j : Int) rfl rfl (by omega) (by omega), piece_nat l (j + 1) l.length _ _ rfl rfl (by omega) (by omega)]
  simp only [Option.bind_some]
  rw [if_neg (by simp; omega)]
  simp
  exact List.take_of_length_le (by simp)
def dropT (l : List Share) (t : Int) : List Share := l.filter fun x => !decide (x.Tenant = t)
def shareDropR (s : Shares) (t : Int) : Shares × Bool := if sharesV s = true then (if (dropT s.List t).length = s.List.length then (s, false) else ({ s with List := dropT s.List t }, true)) else ({ Size := 0, List := [] }, false)
theorem spec_ShareDrop_eq (s : Shares) (t : Int) (h : s.List.length ≤ 1048576) : spec_ShareDrop s t = some (shareDropR s t) := by
  unfold spec_ShareDrop shareDropR
  rw [spec_SharesOk_eq s h]
  cases hv : sharesV s with
  | false => rfl
  | true =>
    simp only [Option.bind_some, Bool.not_true, Bool.false_eq_true, if_false, if_true]
    rw [loopO_count (fun k => ((k : Int), (s.List.take k).filter fun x => !decide (x.Tenant = t))) s.List.length (r := Ctl.go (dropT s.List t)) ?h0]
    case h0 => rfl
    · simp only [bindC_go, spec_l19Copy_eq s h, Option.bind_some]
      by_cases c : (dropT s.List t).length = s.List.length
      · rw [if_pos (by simp; omega), if_pos c]
      · rw [if_neg (by simp; omega), if_neg c]
    · intro k hk
      have hlen := filter_len (fun x : Share => !decide (x.Tenant = t)) s.List k
      simp only [idx_nat s.List k hk, Option.bind_some, filter_take _ s.List k hk]
      rw [if_pos (by simpa using hk), wrap_ok (n := (k : Int) + 1) (by omega) (by omega)]
      by_cases c : s.List[k].Tenant = t
      · simp [c]
      · simp only [c, decide_false, Bool.not_false, if_true]
        rw [app_ok (by simp only [List.length_cons, List.length_nil]; omega) (by simp only [List.length_cons, List.length_nil]; omega)]
        rfl
    · simp [dropT]
theorem impl_ShareDrop_eq (s : Shares) (t : Int) (h : s.List.length ≤ 1048576) : impl_ShareDrop s t = some (shareDropR s t) := by
  unfold impl_ShareDrop shareDropR
  rw [impl_SharesOk_spec s h, spec_SharesOk_eq s h]
  cases hv : sharesV s with
  | false => rfl
  | true =>
    simp only [Option.bind_some, Bool.not_true, Bool.false_eq_true, if_false, if_true, copyShares_eq s h]
    obtain ⟨j, hj, h1, h2, h3⟩ := shareAt_cases s t hv h
    rcases h3 with ⟨hjl, h4, h5⟩ | ⟨h4, h5⟩
    · rw [h4]
      simp only [Option.bind_some, Bool.not_true, Bool.false_eq_true, if_false, delShares_eq s.List j hjl h]
      have hd : dropT s.List t = s.List.take j ++ s.List.drop (j + 1) := by
        unfold dropT
        refine filter_one s.List _ j hjl (by simp [h5]) fun i hi hij => ?_
        have : ¬ s.List[i].Tenant = t := by
          rcases Nat.lt_or_ge i j with h6 | h6
          · have := h1 i hi h6; omega
          · have := h2 i hi (by omega); omega
        simp [this]
      have hl : ¬ (s.List.take j ++ s.List.drop (j + 1)).length = s.List.length := by simp; omega
      rw [hd, if_neg hl]
    · rw [h4]
      have hd : dropT s.List t = s.List := by
        unfold dropT
        rw [List.filter_eq_self]
        intro x hx
        obtain ⟨i, hi, rfl⟩ := List.getElem_of_mem hx
        have : ¬ s.List[i].Tenant = t := by
          rcases Nat.lt_or_ge i j with h6 | h6
          · have := h1 i hi h6; omega
          · have := h5 i hi h6; omega
        simp [this]
      rw [hd]
      simp
def setF (l : List Share) (t q : Int) (j D k : Nat) : Bool × Int × List Share := bif Nat.ble k j then (false, (k : Int), l.take k) else (true, (k : Int), l.take j ++ ({ Tenant := t, Quota := q } :: (l.drop D).take (k - D)))
theorem setF_le (l : List Share) (t q : Int) (j D k : Nat) (h : k ≤ j) : setF l t q j D k = (false, (k : Int), l.take k) := by
  unfold setF
  rw [Nat.ble_eq_true_of_le h]
  rfl
theorem setF_gt (l : List Share) (t q : Int) (j D k : Nat) (h : j < k) : setF l t q j D k = (true, (k : Int), l.take j ++ ({ Tenant := t, Quota := q } :: (l.drop D).take (k - D))) := by
  unfold setF
  have : Nat.ble k j = false := by
    cases hb : Nat.ble k j
    · rfl
    · exact absurd (Nat.le_of_ble_eq_true hb) (by omega)
  rw [this]
  rfl
theorem spec_ShareSet_at (s : Shares) (t q : Int) (j D : Nat) (hv : sharesV s = true) (hs4 : s.List.length ≤ 4) (hj : j ≤ s.List.length) (hD : D = j ∨ D = j + 1) (hDl : D ≤ s.List.length)
    (h1 : ∀ i (hi : i < s.List.length), i < j → s.List[i].Tenant < t) (h2 : ∀ i (hi : i < s.List.length), D ≤ i → t < s.List[i].Tenant) (h3 : D = j + 1 → ∀ hi : j < s.List.length, s.List[j].Tenant = t) :
    spec_ShareSet s t q = some (if sharesV { Size := s.Size, List := s.List.take j ++ ({ Tenant := t, Quota := q } :: s.List.drop D) } = true then ({ Size := s.Size, List := s.List.take j ++ ({ Tenant := t, Quota := q } :: s.List.drop D) }, true) else (s, false)) := by
  unfold spec_ShareSet
  rw [spec_SharesOk_eq s (by omega), hv]
  simp only [Option.bind_some, Bool.not_true, Bool.false_eq_true, if_false]
  have hrl : (s.List.take j ++ ({ Tenant := t, Quota := q } :: s.List.drop D) : List Share).length ≤ 1048576 := by simp; omega
  have hfin : spec_SharesOk { Size := s.Size, List := s.List.take j ++ ({ Tenant := t, Quota := q } :: s.List.drop D) } = some (sharesV { Size := s.Size, List := s.List.take j ++ ({ Tenant := t, Quota := q } :: s.List.drop D) }) := spec_SharesOk_eq _ hrl
  by_cases hjl : j = s.List.length
  · have hDj : D = j := by omega
    rw [loopO_count (fun k => (false, (k : Int), s.List.take k)) s.List.length (r := Ctl.go (false, s.List)) ?h0]
    case h0 => rfl
    · simp only [bindC_go, Bool.not_false, if_true]
      rw [app_ok (by simp; omega) (by simp; omega)]
      simp only [Option.bind_some, bindC_go]
      have hl : s.List ++ [{ Tenant := t, Quota := q }] = s.List.take j ++ ({ Tenant := t, Quota := q } :: s.List.drop D) := by rw [hDj, hjl]; simp
      rw [hl, hfin]
      simp only [Option.bind_some, spec_l19Copy_eq s (by omega)]
      cases sharesV { Size := s.Size, List := s.List.take j ++ ({ Tenant := t, Quota := q } :: s.List.drop D) } <;> rfl
    · intro k hk
      have hk1 := h1 k hk (by omega)
      have ht : s.List.take (k + 1) = s.List.take k ++ [s.List[k]] := by rw [List.take_add_one, List.getElem?_eq_getElem hk]; rfl
      simp only [idx_nat s.List k hk, Option.bind_some, Bool.not_false, if_true]
      rw [if_pos (by simpa using hk), wrap_ok (n := (k : Int) + 1) (by omega) (by omega), decide_eq_false (by omega : ¬ s.List[k].Tenant ≥ t), decide_eq_false (by omega : ¬ s.List[k].Tenant = t)]
      simp only [Bool.false_eq_true, if_false, bindC_go, Bool.not_false, if_true]
      rw [app_ok (by simp; omega) (by simp; omega), ht]
      rfl
    · simp
  · have hjl' : j < s.List.length := by omega
    rw [loopO_count (setF s.List t q j D) s.List.length (r := Ctl.go (true, s.List.take j ++ ({ Tenant := t, Quota := q } :: s.List.drop D))) ?h0]
    case h0 => rw [setF_le _ _ _ _ _ _ (Nat.zero_le _)]; simp
    · simp only [bindC_go, Bool.not_true, Bool.false_eq_true, if_false, hfin, Option.bind_some, spec_l19Copy_eq s (by omega)]
      cases sharesV { Size := s.Size, List := s.List.take j ++ ({ Tenant := t, Quota := q } :: s.List.drop D) } <;> rfl
    · intro k hk
      have hw := wrap_ok (n := (k : Int) + 1) (by omega) (by omega)
      rcases Nat.lt_trichotomy k j with hkj | hkj | hkj
      · have hk1 := h1 k hk hkj
        have ht : s.List.take (k + 1) = s.List.take k ++ [s.List[k]] := by rw [List.take_add_one, List.getElem?_eq_getElem hk]; rfl
        rw [setF_le _ _ _ _ _ _ (by omega), setF_le _ _ _ _ _ _ (by omega)]
        simp only [idx_nat s.List k hk, Option.bind_some, Bool.not_false, if_true, hw]
        rw [if_pos (by simpa using hk), decide_eq_false (by omega : ¬ s.List[k].Tenant ≥ t), decide_eq_false (by omega : ¬ s.List[k].Tenant = t)]
        simp only [Bool.false_eq_true, if_false, bindC_go, Bool.not_false, if_true]
        rw [app_ok (by simp; omega) (by simp; omega), ht]
        rfl
      · subst hkj
        rw [setF_le _ _ _ _ _ _ (Nat.le_refl _), setF_gt _ _ _ _ _ _ (by omega)]
        simp only [idx_nat s.List k hk, Option.bind_some, Bool.not_false, if_true, hw]
        rw [if_pos (by simpa using hk)]
        rcases hD with rfl | rfl
        · have hk2 := h2 D hk (Nat.le_refl _)
          rw [decide_eq_true (by omega : s.List[D].Tenant ≥ t), decide_eq_false (by omega : ¬ s.List[D].Tenant = t)]
          simp only [if_true]
          rw [app_ok (by simp; omega) (by simp; omega)]
          simp only [Option.bind_some, bindC_go, Bool.not_false, if_true]
          rw [app_ok (by simp; omega) (by simp; omega)]
          have : (s.List.drop D).take (D + 1 - D) = [s.List[D]] := by
            rw [List.drop_eq_getElem_cons hk, show D + 1 - D = 1 by omega]; rfl
          rw [this]
          simp
        · have hk3 := h3 rfl hk
          rw [decide_eq_true (by omega : s.List[k].Tenant ≥ t), decide_eq_true hk3]
          simp only [if_true]
          rw [app_ok (by simp; omega) (by simp; omega)]
          simp
      · have hk2 := h2 k hk (by omega)
        rw [setF_gt _ _ _ _ _ _ (by omega), setF_gt _ _ _ _ _ _ (by omega)]
        simp only [idx_nat s.List k hk, Option.bind_some, Bool.not_true, Bool.false_eq_true, if_false, hw]
        rw [if_pos (by simpa using hk), decide_eq_false (by omega : ¬ s.List[k].Tenant = t)]
        simp only [bindC_go, Bool.not_false, if_true]
        rw [app_ok (by simp; omega) (by simp; omega)]
        have hkd : k - D < (s.List.drop D).length := by simp; omega
        have ht : (s.List.drop D).take (k + 1 - D) = (s.List.drop D).take (k - D) ++ [s.List[k]] := by
          rw [show k + 1 - D = (k - D) + 1 by omega, List.take_add_one, List.getElem?_eq_getElem hkd, List.getElem_drop]
          congr 2
          simp only [Option.toList_some]
          congr 2
          omega
        rw [ht]
        simp
    · rw [setF_gt _ _ _ _ _ _ (by omega)]
      have : (s.List.drop D).take (s.List.length - D) = s.List.drop D := List.take_of_length_le (by simp)
      simp [this]
theorem insShares_eq (l : List Share) (x : Share) (j : Nat) (hj : j ≤ l.length) (h : l.length ≤ 1048576) : slices_Insert_21618 l (j : Int) [x] = some (l.take j ++ (x :: l.drop j)) := by
  unfold slices_Insert_21618 ins
  rw [if_pos ⟨by omega, by omega, by simp; omega, by simp; omega⟩, Int.toNat_natCast]
  rfl
theorem ShareSet_both (s : Shares) (t q : Int) (h : s.List.length ≤ 1048576) : ∃ r, spec_ShareSet s t q = some r ∧ impl_ShareSet s t q = some r ∧ r.1.List.length ≤ 1048576 := by
  by_cases hv : sharesV s = true
  · have hs4 : s.List.length ≤ 4 := by
      unfold sharesV at hv
      simp only [Bool.and_eq_true, decide_eq_true_eq] at hv
      exact hv.2.1
    obtain ⟨j, hj, h1, h2, h3⟩ := shareAt_cases s t hv h
    have hend : ∀ D, (D = j ∨ D = j + 1) → D ≤ s.List.length → ∀ b : Bool, ((if b = true then ({ Size := s.Size, List := s.List.take j ++ ({ Tenant := t, Quota := q } :: s.List.drop D) }, true) else (s, false) : Shares × Bool)).1.List.length ≤ 1048576 := by
      intro D _ _ b
      cases b
      · simp; omega
      · simp; omega
    rcases h3 with ⟨hjl, h4, h5⟩ | ⟨h4, h5⟩
    · have hsp := spec_ShareSet_at s t q j (j + 1) hv hs4 hj (.inr rfl) (by omega) h1 (fun i hi hji => h2 i hi (by omega)) (fun _ _ => h5)
      refine ⟨_, hsp, ?_, hend (j + 1) (.inr rfl) (by omega) _⟩
      unfold impl_ShareSet
      rw [impl_SharesOk_spec s h, spec_SharesOk_eq s h, hv]
      simp only [Option.bind_some, Bool.not_true, Bool.false_eq_true, if_false, if_true, copyShares_eq s h, h4, idx_nat s.List j hjl, Int.toNat_natCast, bindC_go]
      have hset : s.List.set j { Tenant := t, Quota := q } = s.List.take j ++ ({ Tenant := t, Quota := q } :: s.List.drop (j + 1)) := by rw [List.set_eq_take_append_cons_drop, if_pos hjl]
      have hrl : (s.List.take j ++ ({ Tenant := t, Quota := q } :: s.List.drop (j + 1)) : List Share).length ≤ 1048576 := by simp; omega
      rw [hset, impl_SharesOk_spec _ hrl, spec_SharesOk_eq _ hrl]
      simp only [Option.bind_some]
      cases sharesV { Size := s.Size, List := s.List.take j ++ ({ Tenant := t, Quota := q } :: s.List.drop (j + 1)) } <;> rfl
    · have hsp := spec_ShareSet_at s t q j j hv hs4 hj (.inl rfl) hj h1 h5 (fun e => by omega)
      refine ⟨_, hsp, ?_, hend j (.inl rfl) hj _⟩
      unfold impl_ShareSet
      rw [impl_SharesOk_spec s h, spec_SharesOk_eq s h, hv]
      simp only [Option.bind_some, Bool.not_true, Bool.false_eq_true, if_false, copyShares_eq s h, h4, insShares_eq s.List _ j hj h, bindC_go]
      have hrl : (s.List.take j ++ ({ Tenant := t, Quota := q } :: s.List.drop j) : List Share).length ≤ 1048576 := by simp; omega
      rw [impl_SharesOk_spec _ hrl, spec_SharesOk_eq _ hrl]
      simp only [Option.bind_some]
      cases sharesV { Size := s.Size, List := s.List.take j ++ ({ Tenant := t, Quota := q } :: s.List.drop j) } <;> rfl
  · have hv' : sharesV s = false := by simpa using hv
    refine ⟨({ Size := 0, List := [] }, false), ?_, ?_, by simp⟩
    · unfold spec_ShareSet
      rw [spec_SharesOk_eq s h, hv']
      rfl
    · unfold impl_ShareSet
      rw [impl_SharesOk_spec s h, spec_SharesOk_eq s h, hv']
      rfl
theorem sLt_asymm {a b : List UInt8} (h : sLt a b = true) : sLt b a = false := by
  have := sLt_compl a b
  rw [h] at this
  simp only [Bool.not_true, Bool.or_eq_false_iff] at this
  exact this.1
theorem sLt_same {a b : List UInt8} (h1 : sLt a b = false) (h2 : sLt b a = false) : a = b := by
  have := sLt_compl a b
  rw [h1, h2] at this
  have h : decide (b = a) = true := by simpa using this
  exact (of_decide_eq_true h).symm
theorem any_loop {α : Type} {body : Int → Option (Ctl Int (Ctl Unit Bool))} (l : List α) (p : α → Bool) (h : ∀ k (hk : k < l.length), body (k : Int) = some (if p l[k] = true then .done (.done true) else .go ((k : Int) + 1))) (hn : body (l.length : Int) = some (.done (.go ()))) :
    bindC (loopO body 0) (fun (_ : Unit) => some false) = some (l.any p) := by
  rw [loopO_is (fun k s => s = (k : Int) ∧ l.any p = (l.drop k).any p) l.length (if l.any p = true then Ctl.done true else Ctl.go ()) ?h0 ?h1 ?h2]
  · cases l.any p <;> rfl
  case h0 => exact ⟨rfl, rfl⟩
  · rintro k s hk ⟨rfl, he⟩
    rw [h k hk, he, List.drop_eq_getElem_cons hk, List.any_cons]
    cases hp : p l[k] with
    | true => right; rfl
    | false =>
      left
      refine ⟨(k : Int) + 1, rfl, by omega, ?_⟩
      rw [Bool.false_or]
  · rintro s ⟨rfl, he⟩
    rw [he, List.drop_length, hn]
    rfl
theorem half_eq {a : Int} (h0 : 0 ≤ a) (h1 : a ≤ 4611686018427387904) : IntKind.i64.wrap (ishr .u64 (IntKind.u64.wrap (IntKind.i64.wrap a)) (1 : Int)) = a / 2 := by
  have hu : IntKind.u64.wrap a = a := by simp [IntKind.wrap, IntKind.bits, IntKind.signed]; omega
  have hs : ishr .u64 a (1 : Int) = a / 2 := by
    unfold ishr
    show a.fdiv (2 ^ 1) = a / 2
    rw [Int.fdiv_eq_ediv_of_nonneg a (by decide)]
    rfl
  rw [wrap_ok (n := a) (by omega) (by omega), hu, hs, wrap_ok (by omega) (by omega)]
/-- a search by halves: the place where it ends -/
theorem bisect {α ρ : Type} (x : List α) (cf : α → Option Int) (c : α → Int) (hcf : ∀ e ∈ x, cf e = some (c e)) (hx : x.length ≤ 1048576) :
    ∃ j, j ≤ x.length ∧ loopO (ρ := Ctl Int ρ) (fun (S2 : Int × Int) => if (decide (S2.1 < S2.2)) = true then ((idx x (IntKind.i64.wrap (ishr .u64 (IntKind.u64.wrap (IntKind.i64.wrap (S2.1 + S2.2))) (1 : Int)))).bind fun E7 =>
  (cf E7).bind fun R9 =>
  bindC (if (decide (R9 < (0 : Int))) = true then (some (.go (IntKind.i64.wrap (IntKind.i64.wrap (ishr .u64 (IntKind.u64.wrap (IntKind.i64.wrap (S2.1 + S2.2))) (1 : Int)) + (1 : Int)), S2.2)))
  else (some (.go (S2.1, IntKind.i64.wrap (ishr .u64 (IntKind.u64.wrap (IntKind.i64.wrap (S2.1 + S2.2))) (1 : Int))))))
  (fun (T12 : Int × Int) => some (.go (T12.1, T12.2))))
  else (some (.done (.go S2.1)))) ((0 : Int), ((x.length : Nat) : Int)) = some (.go (j : Int)) ∧ (∀ i (hi : i < x.length), i + 1 = j → c x[i] < 0) ∧ (∀ hj : j < x.length, 0 ≤ c x[j]) := by
  obtain ⟨r, hr, j, rfl, h1, h2, h3⟩ := loopO_total (ρ := Ctl Int ρ) (s0 := ((0 : Int), ((x.length : Nat) : Int))) (body := fun (S2 : Int × Int) => if (decide (S2.1 < S2.2)) = true then ((idx x (IntKind.i64.wrap (ishr .u64 (IntKind.u64.wrap (IntKind.i64.wrap (S2.1 + S2.2))) (1 : Int)))).bind fun E7 =>
  (cf E7).bind fun R9 =>
  bindC (if (decide (R9 < (0 : Int))) = true then (some (.go (IntKind.i64.wrap (IntKind.i64.wrap (ishr .u64 (IntKind.u64.wrap (IntKind.i64.wrap (S2.1 + S2.2))) (1 : Int)) + (1 : Int)), S2.2)))
  else (some (.go (S2.1, IntKind.i64.wrap (ishr .u64 (IntKind.u64.wrap (IntKind.i64.wrap (S2.1 + S2.2))) (1 : Int))))))
  (fun (T12 : Int × Int) => some (.go (T12.1, T12.2))))
  else (some (.done (.go S2.1))))
    (fun k s => ∃ a b : Nat, s = ((a : Int), (b : Int)) ∧ a ≤ b ∧ b ≤ x.length ∧ b - a + k ≤ x.length ∧ (∀ i (hi : i < x.length), i + 1 = a → c x[i] < 0) ∧ (∀ hj : b < x.length, 0 ≤ c x[b])) x.length
    (fun r => ∃ j : Nat, r = .go (j : Int) ∧ j ≤ x.length ∧ (∀ i (hi : i < x.length), i + 1 = j → c x[i] < 0) ∧ (∀ hj : j < x.length, 0 ≤ c x[j]))
    ⟨0, x.length, rfl, Nat.zero_le _, Nat.le_refl _, by omega, fun i hi h => by omega, fun h => by omega⟩ (by
      rintro k s hk ⟨a, b, rfl, hab, hb, hd, h1, h2⟩
      by_cases hlt : a < b
      · left
        have hm : ((a : Int) + (b : Int)) / 2 = (((a + b) / 2 : Nat) : Int) := by omega
        have hmx : (a + b) / 2 < x.length := by omega
        simp only [half_eq (a := (a : Int) + (b : Int)) (by omega) (by omega), hm, idx_nat x _ hmx, Option.bind_some, hcf _ (List.getElem_mem hmx)]
        rw [if_pos (by simpa using hlt)]
        by_cases hc : c x[(a + b) / 2] < 0
        · rw [if_pos (by simpa using hc), wrap_ok (by omega) (by omega)]
          refine ⟨_, rfl, (a + b) / 2 + 1, b, rfl, by omega, hb, by omega, fun i hi h => ?_, h2⟩
          obtain rfl : i = (a + b) / 2 := by omega
          exact hc
        · rw [if_neg (by simpa using hc)]
          exact ⟨_, rfl, a, (a + b) / 2, rfl, by omega, by omega, by omega, h1, fun _ => by omega⟩
      · right
        obtain rfl : a = b := by omega
        exact ⟨.go (a : Int), by simp, a, rfl, hb, h1, h2⟩) (by
      rintro s ⟨a, b, rfl, hab, hb, hd, h1, h2⟩
      obtain rfl : a = b := by omega
      exact ⟨.go (a : Int), by simp, a, rfl, hb, h1, h2⟩)
  exact ⟨j, h1, hr, h2, h3⟩
theorem snapsV_up {seq seq' : Int} {l : List Int} (h2 : seq ≤ seq') (h : snapsV seq l = true) : snapsV seq' l = true := by
  unfold snapsV
  rw [List.all_eq_true]
  intro k hk
  have hk' : k < l.length := by simpa using hk
  obtain ⟨a, b⟩ := snaps_at h k hk'
  rw [snapP_at seq' l k hk', Bool.and_eq_true]
  refine ⟨decide_eq_true ⟨a.1, by omega⟩, ?_⟩
  by_cases h0 : 0 < k
  · rw [dif_pos h0]; exact decide_eq_true (b h0)
  · rw [dif_neg h0]
/-! words of bits -/
theorem iand64 {a b : Nat} (ha : a < 2 ^ 63) (hb : b < 2 ^ 63) : iand .i64 (a : Int) (b : Int) = ((a &&& b : Nat) : Int) := by
  unfold iand
  have h1 : a &&& b ≤ a := Nat.and_le_left
  have e : (BitVec.ofInt IntKind.i64.bits (a : Int) &&& BitVec.ofInt IntKind.i64.bits (b : Int)).toNat = a &&& b := by
    show (BitVec.ofInt 64 (a : Int) &&& BitVec.ofInt 64 (b : Int)).toNat = a &&& b
    rw [BitVec.ofInt_natCast, BitVec.ofInt_natCast, BitVec.toNat_and, BitVec.toNat_ofNat, BitVec.toNat_ofNat, Nat.mod_eq_of_lt (by omega), Nat.mod_eq_of_lt (by omega)]
  rw [e]
  exact wrap_ok (by omega) (by omega)
theorem ior64 {a b : Nat} (ha : a < 2 ^ 63) (hb : b < 2 ^ 63) : ior .i64 (a : Int) (b : Int) = ((a ||| b : Nat) : Int) := by
  unfold ior
  have h1 : a ||| b < 2 ^ 63 := Nat.or_lt_two_pow ha hb
  have e : (BitVec.ofInt IntKind.i64.bits (a : Int) ||| BitVec.ofInt IntKind.i64.bits (b : Int)).toNat = a ||| b := by
    show (BitVec.ofInt 64 (a : Int) ||| BitVec.ofInt 64 (b : Int)).toNat = a ||| b
    rw [BitVec.ofInt_natCast, BitVec.ofInt_natCast, BitVec.toNat_or, BitVec.toNat_ofNat, BitVec.toNat_ofNat, Nat.mod_eq_of_lt (by omega), Nat.mod_eq_of_lt (by omega)]
  rw [e]
  exact wrap_ok (by omega) (by omega)
theorem ixor64 {a b : Nat} (ha : a < 2 ^ 63) (hb : b < 2 ^ 63) : ixor .i64 (a : Int) (b : Int) = ((a ^^^ b : Nat) : Int) := by
  unfold ixor
  have h1 : a ^^^ b < 2 ^ 63 := Nat.xor_lt_two_pow ha hb
  have e : (BitVec.ofInt IntKind.i64.bits (a : Int) ^^^ BitVec.ofInt IntKind.i64.bits (b : Int)).toNat = a ^^^ b := by
    show (BitVec.ofInt 64 (a : Int) ^^^ BitVec.ofInt 64 (b : Int)).toNat = a ^^^ b
    rw [BitVec.ofInt_natCast, BitVec.ofInt_natCast, BitVec.toNat_xor, BitVec.toNat_ofNat, BitVec.toNat_ofNat, Nat.mod_eq_of_lt (by omega), Nat.mod_eq_of_lt (by omega)]
  rw [e]
  exact wrap_ok (by omega) (by omega)
theorem wrap32 (n : Int) : IntKind.u32.wrap n = n % 4294967296 := by simp [IntKind.wrap, IntKind.bits, IntKind.signed]
theorem wrap64u (n : Int) : IntKind.u64.wrap n = n % 18446744073709551616 := by simp [IntKind.wrap, IntKind.bits, IntKind.signed]
theorem ior32 {a b : Nat} (ha : a < 2 ^ 32) (hb : b < 2 ^ 32) : ior .u32 (a : Int) (b : Int) = ((a ||| b : Nat) : Int) := by
  unfold ior
  have h1 : a ||| b < 2 ^ 32 := Nat.or_lt_two_pow ha hb
  have e : (BitVec.ofInt IntKind.u32.bits (a : Int) ||| BitVec.ofInt IntKind.u32.bits (b : Int)).toNat = a ||| b := by
    show (BitVec.ofInt 32 (a : Int) ||| BitVec.ofInt 32 (b : Int)).toNat = a ||| b
    rw [BitVec.ofInt_natCast, BitVec.ofInt_natCast, BitVec.toNat_or, BitVec.toNat_ofNat, BitVec.toNat_ofNat, Nat.mod_eq_of_lt (by omega), Nat.mod_eq_of_lt (by omega)]
  rw [e, wrap32]
  omega
theorem ixor32 {a b : Nat} (ha : a < 2 ^ 32) (hb : b < 2 ^ 32) : ixor .u32 (a : Int) (b : Int) = ((a ^^^ b : Nat) : Int) := by
  unfold ixor
  have h1 : a ^^^ b < 2 ^ 32 := Nat.xor_lt_two_pow ha hb
  have e : (BitVec.ofInt IntKind.u32.bits (a : Int) ^^^ BitVec.ofInt IntKind.u32.bits (b : Int)).toNat = a ^^^ b := by
    show (BitVec.ofInt 32 (a : Int) ^^^ BitVec.ofInt 32 (b : Int)).toNat = a ^^^ b
    rw [BitVec.ofInt_natCast, BitVec.ofInt_natCast, BitVec.toNat_xor, BitVec.toNat_ofNat, BitVec.toNat_ofNat, Nat.mod_eq_of_lt (by omega), Nat.mod_eq_of_lt (by omega)]
  rw [e, wrap32]
  omega
theorem iand8 {a b : Nat} (ha : a < 2 ^ 8) (hb : b < 2 ^ 8) : iand .u8 (a : Int) (b : Int) = ((a &&& b : Nat) : Int) := by
  unfold iand
  have h1 : a &&& b ≤ a := Nat.and_le_left
  have e : (BitVec.ofInt IntKind.u8.bits (a : Int) &&& BitVec.ofInt IntKind.u8.bits (b : Int)).toNat = a &&& b := by
    show (BitVec.ofInt 8 (a : Int) &&& BitVec.ofInt 8 (b : Int)).toNat = a &&& b
    rw [BitVec.ofInt_natCast, BitVec.ofInt_natCast, BitVec.toNat_and, BitVec.toNat_ofNat, BitVec.toNat_ofNat, Nat.mod_eq_of_lt (by omega), Nat.mod_eq_of_lt (by omega)]
  rw [e]
  simp [IntKind.wrap, IntKind.bits, IntKind.signed]
  omega
theorem ishr_nat {k : IntKind} {a n : Nat} (hn : n ≤ k.bits) : ishr k (a : Int) (n : Int) = ((a / 2 ^ n : Nat) : Int) := by
  unfold ishr
  rw [Int.toNat_natCast, Nat.min_eq_left hn, Int.fdiv_eq_ediv_of_nonneg _ (by exact_mod_cast Nat.zero_le _)]
  norm_cast
theorem ishl64 {a n : Nat} (hn : n ≤ 64) (h : a * 2 ^ n < 2 ^ 63) : ishl .i64 (a : Int) (n : Int) = ((a * 2 ^ n : Nat) : Int) := by
  unfold ishl
  have hb : IntKind.i64.bits = 64 := rfl
  rw [Int.toNat_natCast, hb, Nat.min_eq_left hn]
  have e : (a : Int) * 2 ^ n = ((a * 2 ^ n : Nat) : Int) := by norm_cast
  rw [e]
  exact wrap_ok (by omega) (by omega)
theorem ishl32 {a n : Nat} (hn : n ≤ 32) : ishl .u32 (a : Int) (n : Int) = ((a * 2 ^ n % 4294967296 : Nat) : Int) := by
  unfold ishl
  have hb : IntKind.u32.bits = 32 := rfl
  have e : (a : Int) * 2 ^ n = ((a * 2 ^ n : Nat) : Int) := by norm_cast
  rw [Int.toNat_natCast, hb, Nat.min_eq_left hn, wrap32, e]
  generalize a * 2 ^ n = z
  omega
/-- the bits of a word turned to the left -/
def rotN (x n : Nat) : Nat := x * 2 ^ n % 4294967296 ||| x / 2 ^ (32 - n)
theorem rotN_lt {x n : Nat} (h : x < 4294967296) : rotN x n < 4294967296 := by
  unfold rotN
  refine Nat.or_lt_two_pow (n := 32) (Nat.mod_lt _ (by decide)) ?_
  exact Nat.lt_of_le_of_lt (Nat.div_le_self _ _) h
theorem ior_same {p q : Int} (hp : 0 ≤ p ∧ p < 4294967296) (hq : 0 ≤ q ∧ q < 4294967296) : ior .u32 p q = ior .i64 p q ∧ 0 ≤ ior .i64 p q ∧ ior .i64 p q < 4294967296 := by
  have e1 : p = (p.toNat : Int) := by omega
  have e2 : q = (q.toNat : Int) := by omega
  have h1 : p.toNat < 2 ^ 32 := by omega
  have h2 : q.toNat < 2 ^ 32 := by omega
  have h3 := Nat.or_lt_two_pow h1 h2
  rw [e1, e2, ior32 h1 h2, ior64 (by omega) (by omega)]
  generalize p.toNat ||| q.toNat = z at h3
  exact ⟨rfl, by omega, by omega⟩
theorem ishl_same (x : UInt8) (n : Nat) (hn : n ≤ 24) : ishl .u32 (IntKind.u32.wrap ((x.toNat : Nat) : Int)) (n : Int) = ishl .i64 (IntKind.i64.wrap ((x.toNat : Nat) : Int)) (n : Int) ∧ 0 ≤ ishl .i64 (IntKind.i64.wrap ((x.toNat : Nat) : Int)) (n : Int) ∧ ishl .i64 (IntKind.i64.wrap ((x.toNat : Nat) : Int)) (n : Int) < 4294967296 := by
  have hx := x.toNat_lt
  have w1 : IntKind.u32.wrap ((x.toNat : Nat) : Int) = ((x.toNat : Nat) : Int) := by rw [wrap32]; omega
  have w2 : IntKind.i64.wrap ((x.toNat : Nat) : Int) = ((x.toNat : Nat) : Int) := wrap_ok (by omega) (by omega)
  have hp : 2 ^ n ≤ 2 ^ 24 := Nat.pow_le_pow_right (by decide) hn
  have hm : x.toNat * 2 ^ n ≤ x.toNat * 2 ^ 24 := Nat.mul_le_mul_left _ hp
  rw [w1, w2, ishl32 (by omega), ishl64 (by omega) (by omega)]
  generalize x.toNat * 2 ^ n = z at hm
  have hz : z < 4294967296 := by omega
  rw [Nat.mod_eq_of_lt hz]
  exact ⟨rfl, by omega, by omega⟩
theorem ishl_samei (x : UInt8) (n : Int) (hn : 0 ≤ n ∧ n ≤ 24) : ishl .u32 (IntKind.u32.wrap ((x.toNat : Nat) : Int)) n = ishl .i64 (IntKind.i64.wrap ((x.toNat : Nat) : Int)) n ∧ 0 ≤ ishl .i64 (IntKind.i64.wrap ((x.toNat : Nat) : Int)) n ∧ ishl .i64 (IntKind.i64.wrap ((x.toNat : Nat) : Int)) n < 4294967296 := by
  have e : n = (n.toNat : Int) := by omega
  rw [e]
  exact ishl_same x n.toNat (by omega)
theorem bind_same {α β : Type} {x : Option α} {f g : α → Option β} (h : ∀ a, f a = g a) : x.bind f = x.bind g := by
  cases x with
  | none => rfl
  | some a => exact h a
theorem little_val (a b c d : UInt8) : ior .u32 (ior .u32 (ior .u32 (IntKind.u32.wrap ((a.toNat : Nat) : Int)) (ishl .u32 (IntKind.u32.wrap ((b.toNat : Nat) : Int)) (8 : Int))) (ishl .u32 (IntKind.u32.wrap ((c.toNat : Nat) : Int)) (16 : Int))) (ishl .u32 (IntKind.u32.wrap ((d.toNat : Nat) : Int)) (24 : Int)) =
      ior .i64 (ior .i64 (ior .i64 (IntKind.i64.wrap ((a.toNat : Nat) : Int)) (ishl .i64 (IntKind.i64.wrap ((b.toNat : Nat) : Int)) (8 : Int))) (ishl .i64 (IntKind.i64.wrap ((c.toNat : Nat) : Int)) (16 : Int))) (ishl .i64 (IntKind.i64.wrap ((d.toNat : Nat) : Int)) (24 : Int)) ∧
      0 ≤ ior .i64 (ior .i64 (ior .i64 (IntKind.i64.wrap ((a.toNat : Nat) : Int)) (ishl .i64 (IntKind.i64.wrap ((b.toNat : Nat) : Int)) (8 : Int))) (ishl .i64 (IntKind.i64.wrap ((c.toNat : Nat) : Int)) (16 : Int))) (ishl .i64 (IntKind.i64.wrap ((d.toNat : Nat) : Int)) (24 : Int)) ∧
      ior .i64 (ior .i64 (ior .i64 (IntKind.i64.wrap ((a.toNat : Nat) : Int)) (ishl .i64 (IntKind.i64.wrap ((b.toNat : Nat) : Int)) (8 : Int))) (ishl .i64 (IntKind.i64.wrap ((c.toNat : Nat) : Int)) (16 : Int))) (ishl .i64 (IntKind.i64.wrap ((d.toNat : Nat) : Int)) (24 : Int)) < 4294967296 := by
  have ha := a.toNat_lt
  have a1 : IntKind.u32.wrap ((a.toNat : Nat) : Int) = IntKind.i64.wrap ((a.toNat : Nat) : Int) := by rw [wrap32, wrap_ok (by omega) (by omega)]; omega
  have a2 : 0 ≤ IntKind.i64.wrap ((a.toNat : Nat) : Int) ∧ IntKind.i64.wrap ((a.toNat : Nat) : Int) < 4294967296 := by rw [wrap_ok (by omega) (by omega)]; omega
  obtain ⟨b1, b2⟩ := ishl_samei b 8 (by omega)
  obtain ⟨c1, c2⟩ := ishl_samei c 16 (by omega)
  obtain ⟨d1, d2⟩ := ishl_samei d 24 (by omega)
  obtain ⟨o1, o2⟩ := ior_same a2 b2
  obtain ⟨p1, p2⟩ := ior_same o2 c2
  obtain ⟨q1, q2⟩ := ior_same p2 d2
  refine ⟨?_, q2⟩
  rw [a1, b1, c1, d1, o1, p1, q1]
theorem sidx_nat (s : List UInt8) (i : Nat) (h : i < s.length) : sidx s (i : Int) = some s[i] := by
  unfold sidx
  rw [if_pos (by omega), Int.toNat_natCast, List.getElem?_eq_getElem h]
/-- words of 32 bits -/
def okW (l : List Wrd) : Prop := ∀ x ∈ l, 0 ≤ x.v ∧ x.v < 4294967296
theorem okW_set {l : List Wrd} {i : Nat} {x : Wrd} (h : okW l) (hx : 0 ≤ x.v ∧ x.v < 4294967296) : okW (l.set i x) := by
  intro y hy
  rcases List.mem_or_eq_of_mem_set hy with h1 | h1
  · exact h y h1
  · rw [h1]; exact hx
theorem okW_nat {l : List Wrd} (h : okW l) (k : Nat) (hk : k < l.length) : ∃ n : Nat, l[k].v = (n : Int) ∧ n < 4294967296 := by
  obtain ⟨h1, h2⟩ := h _ (List.getElem_mem hk)
  exact ⟨l[k].v.toNat, by omega, by omega⟩
/-- sixteen words -/
def goodW (l : List Wrd) : Prop := l.length = 16 ∧ okW l
noncomputable def selW (k : Nat) (i : Nat) (n : Nat) : Wrd := bif Nat.blt i k then Wrd.mk (n : Int) else Wrd.mk 0
def bytes4 (n : Nat) : List UInt8 := [toU8 (n : Int), toU8 ((n / 256 : Nat) : Int), toU8 ((n / 65536 : Nat) : Int), toU8 ((n / 16777216 : Nat) : Int)]
/-- the bytes of the first k words -/
noncomputable def outW (w s : List Wrd) : Nat → List UInt8
  | 0 => []
  | k + 1 => outW w s k ++ (match w[k]?, s[k]? with | some x, some y => bytes4 ((x.v + y.v).toNat % 4294967296) | _, _ => [])
theorem outW_succ (w s : List Wrd) (k : Nat) (hw : k < w.length) (hs : k < s.length) : outW w s (k + 1) = outW w s k ++ bytes4 ((w[k].v + s[k].v).toNat % 4294967296) := by
  show outW w s k ++ (match w[k]?, s[k]? with | some x, some y => _ | _, _ => _) = _
  rw [List.getElem?_eq_getElem hw, List.getElem?_eq_getElem hs]
theorem outW_len (w s : List Wrd) (hw : w.length = 16) (hs : s.length = 16) : ∀ k, k ≤ 16 → (outW w s k).length = 4 * k
  | 0, _ => rfl
  | k + 1, hk => by
    rw [outW_succ w s k (by omega) (by omega), List.length_append, outW_len w s hw hs k (by omega)]
    show 4 * k + 4 = _
    omega
theorem toU8_mod (n : Nat) : toU8 ((n % 256 : Nat) : Int) = toU8 (n : Int) := by
  unfold toU8
  congr 1
  omega
def chaOk (key : List UInt8) (counter : Int) (nonce : List UInt8) : Bool := decide (key.length = 32) && (decide (nonce.length = 12) && decide (0 ≤ counter ∧ counter ≤ 4294967295))
theorem chaOk_iff {key : List UInt8} {counter : Int} {nonce : List UInt8} (h : chaOk key counter nonce = true) : key.length = 32 ∧ nonce.length = 12 ∧ 0 ≤ counter ∧ counter ≤ 4294967295 := by
  unfold chaOk at h
  simp only [Bool.and_eq_true, decide_eq_true_eq] at h
  exact h
theorem bind_of {α β : Type} {x : Option α} {a : α} {f : α → Option β} {r : Option β} (h : x = some a) (h2 : f a = r) : x.bind f = r := by rw [h]; exact h2
/-- bytes of a number, the highest first -/
def fixV (n : Nat) : Nat → List UInt8
  | 0 => []
  | j + 1 => toU8 ((n / 256 ^ j : Nat) : Int) :: fixV n j
theorem fixV_len (n : Nat) : ∀ j, (fixV n j).length = j
  | 0 => rfl
  | j + 1 => by rw [fixV, List.length_cons, fixV_len n j]
theorem div_pow_succ (n b j : Nat) : n / b ^ j / b = n / b ^ (j + 1) := by rw [Nat.div_div_eq_div_mul, Nat.pow_succ]
def fixedV (n w : Int) : List UInt8 := bif decide (1 ≤ w ∧ w ≤ 7) && (decide (0 ≤ n) && decide (n.toNat / 256 ^ w.toNat = 0)) then fixV n.toNat w.toNat else []
/-- a number in bytes of seven bits, the lowest first -/
def varN : Nat → Nat → List UInt8
  | 0, n => [toU8 (n : Int)]
  | f + 1, n => bif decide (n < 128) then [toU8 (n : Int)] else toU8 ((128 + n % 128 : Nat) : Int) :: varN f (n / 128)
theorem varN_lt {f n : Nat} (h : n < 128) : varN f n = [toU8 (n : Int)] := by
  cases f with
  | zero => rfl
  | succ f => rw [varN, decide_eq_true h]; rfl
theorem varN_ge {f n : Nat} (h : 128 ≤ n) : varN (f + 1) n = toU8 ((128 + n % 128 : Nat) : Int) :: varN f (n / 128) := by
  rw [varN, decide_eq_false (by omega)]; rfl
/-- a loop that takes seven bits at a time -/
theorem var_loop {body : Int × List UInt8 → Option (Ctl (Int × List UInt8) (Ctl (Int × List UInt8) (List UInt8)))}
    (h1 : ∀ (n : Nat) (out : List UInt8), 128 ≤ n → n < 562949953421312 → out.length ≤ 100 → body ((n : Int), out) = some (.go (((n / 128 : Nat) : Int), out ++ [toU8 ((128 + n % 128 : Nat) : Int)])))
    (h2 : ∀ (n : Nat) (out : List UInt8), n < 128 → body ((n : Int), out) = some (.done (.go ((n : Int), out)))) :
    ∀ (f n : Nat) (out : List UInt8), n < 128 ^ (f + 1) → n < 562949953421312 → out.length + f ≤ 100 → ∃ (m : Nat) (out' : List UInt8), loopO body ((n : Int), out) = some (.go ((m : Int), out')) ∧ out' ++ [toU8 (m : Int)] = out ++ varN f n ∧ out'.length ≤ 100 := by
  intro f
  induction f with
  | zero =>
    intro n out hn _ ho
    have hn' : n < 128 := by simpa using hn
    exact ⟨n, out, by rw [loopO_eq, h2 n out hn'], by rw [varN_lt hn'], by omega⟩
  | succ f ih =>
    intro n out hn hb ho
    by_cases h : n < 128
    · exact ⟨n, out, by rw [loopO_eq, h2 n out h], by rw [varN_lt h], by omega⟩
    · have hn2 : n / 128 < 128 ^ (f + 1) := by
        rw [Nat.div_lt_iff_lt_mul (by decide)]
        rw [Nat.pow_succ] at hn
        exact hn
      obtain ⟨m, out', e1, e2, e3⟩ := ih (n / 128) (out ++ [toU8 ((128 + n % 128 : Nat) : Int)]) hn2 (by omega) (by simp; omega)
      refine ⟨m, out', ?_, ?_, e3⟩
      · rw [loopO_eq, h1 n out (by omega) hb (by omega)]
        exact e1
      · rw [e2, varN_ge (by omega), List.append_assoc]; rfl
def varV (n : Int) : List UInt8 := bif decide (0 ≤ n ∧ n ≤ 562949953421311) then varN 6 n.toNat else []
theorem or128 (m : Nat) (h : m < 128) : 128 ||| m = 128 + m := by
  have := Nat.two_pow_add_eq_or_of_lt (i := 7) (b := m) h 1
  rw [show 2 ^ 7 * 1 = 128 from rfl] at this
  exact this.symm
/-- the number that bytes of seven bits come to -/
def numV : List UInt8 → Nat
  | [] => 0
  | x :: l => x.toNat % 128 + 128 * numV l
theorem numV_lt : ∀ (l : List UInt8), numV l < 128 ^ l.length
  | [] => by decide
  | x :: l => by
    have := numV_lt l
    have hx : x.toNat % 128 < 128 := Nat.mod_lt _ (by decide)
    rw [numV, List.length_cons, Nat.pow_succ]
    omega
theorem numV_snoc : ∀ (l : List UInt8) (x : UInt8), numV (l ++ [x]) = numV l + 128 ^ l.length * (x.toNat % 128)
  | [], x => by simp [numV]
  | y :: l, x => by
    rw [List.cons_append, numV, numV, numV_snoc l x, List.length_cons, Nat.pow_succ, Nat.mul_add, Nat.mul_comm (128 ^ l.length) 128, Nat.mul_assoc]
    omega
/-- reading: the number and how many bytes -/
def readN : Nat → List UInt8 → Option (Nat × Nat)
  | 0, _ => none
  | _ + 1, [] => none
  | f + 1, x :: l => bif decide (x.toNat < 128) then some (x.toNat, 1) else match readN f l with
    | some (m, k) => bif decide (m = 0) then none else some (x.toNat % 128 + 128 * m, k + 1)
    | none => none
theorem toU8_toNat (n : Nat) : (toU8 (n : Int)).toNat = n % 256 := by
  unfold toU8
  rw [UInt8.toNat_ofNat']
  omega
theorem toU8_of (x : UInt8) : toU8 ((x.toNat : Nat) : Int) = x := by
  have := x.toNat_lt
  apply UInt8.toNat_inj.1
  rw [toU8_toNat]
  omega
/-- a beginning that is the form of its number -/
def goodN (l : List UInt8) : Prop := ∃ f, l.length ≤ f + 1 ∧ varN f (numV l) = l
theorem varN_more : ∀ (f g n : Nat), n < 128 ^ (f + 1) → n < 128 ^ (g + 1) → varN f n = varN g n
  | f, g, n, h1, h2 => by
    by_cases h : n < 128
    · rw [varN_lt h, varN_lt h]
    · cases f with
      | zero => simp at h1; omega
      | succ f =>
        cases g with
        | zero => simp at h2; omega
        | succ g =>
          rw [varN_ge (by omega), varN_ge (by omega), varN_more f g (n / 128) ?_ ?_]
          · rw [Nat.div_lt_iff_lt_mul (by decide)]; rw [Nat.pow_succ] at h1; exact h1
          · rw [Nat.div_lt_iff_lt_mul (by decide)]; rw [Nat.pow_succ] at h2; exact h2
theorem take_ne {α : Type} {l : List α} {j : Nat} (h1 : 1 ≤ j) (h2 : j ≤ l.length) : l.take j ≠ [] := by
  intro e
  have := congrArg List.length e
  rw [List.length_take, List.length_nil] at this
  omega
theorem good_one (f : Nat) (x : UInt8) : varN f (numV [x]) = [x] ↔ x.toNat < 128 := by
  have hx : x.toNat % 128 < 128 := Nat.mod_lt _ (by decide)
  rw [show numV [x] = x.toNat % 128 by simp [numV], varN_lt hx]
  constructor
  · intro h
    have h2 : toU8 ((x.toNat % 128 : Nat) : Int) = x := by simpa using h
    have h3 := congrArg UInt8.toNat h2
    rw [toU8_toNat] at h3
    omega
  · intro h
    rw [Nat.mod_eq_of_lt h, toU8_of]
theorem good_more (f : Nat) (x : UInt8) (l : List UInt8) (hl : l ≠ []) : varN (f + 1) (numV (x :: l)) = x :: l ↔ 128 ≤ x.toNat ∧ numV l ≠ 0 ∧ varN f (numV l) = l := by
  have hx : x.toNat % 128 < 128 := Nat.mod_lt _ (by decide)
  have hx2 := x.toNat_lt
  have hm : (x.toNat % 128 + 128 * numV l) % 128 = x.toNat % 128 := by omega
  have hd : (x.toNat % 128 + 128 * numV l) / 128 = numV l := by omega
  by_cases h0 : numV l = 0
  · rw [numV, h0, varN_lt (by omega)]
    constructor
    · intro h
      have : [] = l := by simpa using (List.cons.inj h).2
      exact absurd this.symm hl
    · rintro ⟨_, h, _⟩
      exact absurd rfl h
  · rw [numV, varN_ge (by omega), hm, hd]
    constructor
    · intro h
      obtain ⟨h1, h2⟩ := List.cons.inj h
      have h3 := congrArg UInt8.toNat h1
      rw [toU8_toNat] at h3
      exact ⟨by omega, h0, h2⟩
    · rintro ⟨h1, _, h2⟩
      rw [h2, show 128 + x.toNat % 128 = x.toNat by omega, toU8_of]
theorem readN_some : ∀ (f : Nat) (s : List UInt8) (n k : Nat), readN f s = some (n, k) → 1 ≤ k ∧ k ≤ f ∧ k ≤ s.length ∧ n = numV (s.take k) ∧ varN (f - 1) n = s.take k ∧ ∀ g j, 1 ≤ j → j ≤ g + 1 → j ≤ s.length → varN g (numV (s.take j)) = s.take j → j = k
  | 0, s, n, k, h => by cases h
  | f + 1, [], n, k, h => by cases h
  | f + 1, x :: l, n, k, h => by
    rw [readN] at h
    by_cases hx : x.toNat < 128
    · rw [decide_eq_true hx] at h
      simp only [cond_true, Option.some.injEq, Prod.mk.injEq] at h
      obtain ⟨rfl, rfl⟩ := h
      have hm : x.toNat % 128 = x.toNat := Nat.mod_eq_of_lt hx
      refine ⟨Nat.le_refl _, by omega, by simp, by simp [numV, hm], ?_, fun g j hj1 hjg hjl he => ?_⟩
      · have := (good_one (f + 1 - 1) x).2 hx
        rw [show numV [x] = x.toNat by simp [numV, hm]] at this
        exact this
      · cases j with
        | zero => omega
        | succ j =>
          cases j with
          | zero => rfl
          | succ j =>
            cases g with
            | zero => omega
            | succ g =>
              rw [List.take_succ_cons] at he
              have := (good_more g x (l.take (j + 1)) (take_ne (by omega) (by rw [List.length_cons] at hjl; omega))).1 he
              omega
    · rw [decide_eq_false hx] at h
      simp only [cond_false] at h
      cases hr : readN f l with
      | none => rw [hr] at h; cases h
      | some p =>
        obtain ⟨m, k'⟩ := p
        rw [hr] at h
        simp only at h
        by_cases hm : m = 0
        · rw [decide_eq_true hm] at h; cases h
        · rw [decide_eq_false hm] at h
          simp only [cond_false, Option.some.injEq, Prod.mk.injEq] at h
          obtain ⟨rfl, rfl⟩ := h
          obtain ⟨h1, h2, h3, h4, h5, h6⟩ := readN_some f l m k' hr
          have hne : l.take k' ≠ [] := take_ne h1 h3
          refine ⟨by omega, by omega, by simp; omega, by rw [List.take_succ_cons, numV, ← h4], ?_, fun g j hj1 hjg hjl he => ?_⟩
          · rw [List.take_succ_cons, Nat.add_sub_cancel]
            obtain ⟨f', rfl⟩ : ∃ f', f = f' + 1 := ⟨f - 1, by omega⟩
            rw [Nat.add_sub_cancel] at h5
            have := (good_more f' x (l.take k') hne).2 ⟨by omega, by rw [← h4]; exact hm, by rw [← h4]; exact h5⟩
            rw [numV, ← h4] at this
            exact this
          · cases j with
            | zero => omega
            | succ j =>
              cases j with
              | zero =>
                rw [List.take_succ_cons, List.take_zero] at he
                exact absurd ((good_one g x).1 he) hx
              | succ j =>
                cases g with
                | zero => omega
                | succ g =>
                  rw [List.take_succ_cons] at he
                  have hjl' : j + 1 ≤ l.length := by simp at hjl; omega
                  have := (good_more g x (l.take (j + 1)) (take_ne (by omega) hjl')).1 he
                  have := h6 g (j + 1) (by omega) (by omega) hjl' this.2.2
                  omega
theorem readN_none : ∀ (f : Nat) (s : List UInt8), readN f s = none → ∀ g j, 1 ≤ j → j ≤ f → j ≤ g + 1 → j ≤ s.length → varN g (numV (s.take j)) ≠ s.take j
  | 0, s, h => fun g j h1 h2 => by omega
  | f + 1, [], h => fun g j h1 h2 h3 h4 => by simp at h4; omega
  | f + 1, x :: l, h => by
    intro g j hj1 hjf hjg hjl he
    rw [readN] at h
    by_cases hx : x.toNat < 128
    · rw [decide_eq_true hx] at h; cases h
    · rw [decide_eq_false hx] at h
      simp only [cond_false] at h
      cases j with
      | zero => omega
      | succ j =>
        cases j with
        | zero =>
          rw [List.take_succ_cons, List.take_zero] at he
          exact hx ((good_one g x).1 he)
        | succ j =>
          cases g with
          | zero => omega
          | succ g =>
            rw [List.take_succ_cons] at he
            have hjl' : j + 1 ≤ l.length := by simp at hjl; omega
            obtain ⟨q1, q2, q3⟩ := (good_more g x (l.take (j + 1)) (take_ne (by omega) hjl')).1 he
            cases hr : readN f l with
            | none => exact readN_none f l hr g (j + 1) (by omega) (by omega) (by omega) hjl' q3
            | some p =>
              obtain ⟨m, k'⟩ := p
              rw [hr] at h
              simp only at h
              by_cases hm : m = 0
              · obtain ⟨h1, h2, h3, h4, h5, h6⟩ := readN_some f l m k' hr
                have := h6 g (j + 1) (by omega) (by omega) hjl' q3
                rw [← this] at h4
                exact q2 (by rw [← h4]; exact hm)
              · rw [decide_eq_false hm] at h; cases h
def readR : Option (Nat × Nat) → Int × Int
  | some (n, k) => ((n : Int), (k : Int))
  | none => (0, 0)
/-- reading of what comes behind i bytes -/
def readI (n i : Nat) : Option (Nat × Nat) → Int × Int
  | some (m, k) => bif decide (m = 0 ∧ 0 < i) then (0, 0) else (((n + 128 ^ i * m : Nat) : Int), ((i + k : Nat) : Int))
  | none => (0, 0)
theorem readI_zero (p : Option (Nat × Nat)) : readI 0 0 p = readR p := by
  cases p with
  | none => rfl
  | some p => simp [readI, readR]
theorem readI_step (n i f : Nat) (x : UInt8) (l : List UInt8) (hx : ¬ x.toNat < 128) : readI n i (readN (f + 1) (x :: l)) = readI (n + 128 ^ i * (x.toNat % 128)) (i + 1) (readN f l) := by
  rw [readN, decide_eq_false hx]
  simp only [cond_false]
  cases readN f l with
  | none => rfl
  | some p =>
    obtain ⟨m, k⟩ := p
    simp only
    by_cases hm : m = 0
    · simp [hm, readI]
    · rw [decide_eq_false hm]
      simp only [cond_false, readI]
      rw [decide_eq_false (by omega), decide_eq_false (by omega)]
      simp only [cond_false]
      have e : n + 128 ^ i * (x.toNat % 128 + 128 * m) = n + 128 ^ i * (x.toNat % 128) + 128 ^ i * 128 * m := by rw [Nat.mul_add, Nat.mul_assoc, Nat.add_assoc]
      rw [Nat.pow_succ, e, show i + (k + 1) = i + 1 + k by omega]
theorem or_add (n d i : Nat) (h : n < 2 ^ (7 * i)) : n ||| d * 2 ^ (7 * i) = n + 2 ^ (7 * i) * d := by
  rw [Nat.or_comm, Nat.mul_comm, ← Nat.two_pow_add_eq_or_of_lt h]
  omega
theorem pow128 (i : Nat) : 128 ^ i = 2 ^ (7 * i) := by rw [Nat.pow_mul]
theorem ssub_nat (s : List UInt8) (a b : Nat) (h1 : a ≤ b) (h2 : b ≤ s.length) : ssub s (a : Int) (b : Int) = some ((s.drop a).take (b - a)) := by
  unfold ssub
  rw [if_pos ⟨by omega, by omega, by omega⟩, Int.toNat_natCast, Int.toNat_natCast]
theorem ssub_end (s : List UInt8) (a : Nat) (h : a ≤ s.length) : ssub s (a : Int) (s.length : Int) = some (s.drop a) := by
  rw [ssub_nat s a s.length h (Nat.le_refl _), List.take_of_length_le (by simp)]
theorem num_loop {ρ : Type} (s : List UInt8) (k : Nat) (h1 : 1 ≤ k) (h7 : k ≤ 7) (hk : k ≤ s.length) :
    loopO (ρ := Ctl Int ρ) (fun (S9 : Int × Int) => if (decide (S9.2 ≥ (0 : Int))) = true then ((sidx s S9.2).bind fun E14 =>
  some (.go (IntKind.i64.wrap (IntKind.i64.wrap (S9.1 * (128 : Int)) + (Int.tmod (IntKind.i64.wrap ((E14.toNat : Nat) : Int)) (128 : Int))), IntKind.i64.wrap (S9.2 - (1 : Int)))))
  else (some (.done (.go S9.1))))
  ((0 : Int), (k : Int) - 1) = some (.go (numV (s.take k) : Int)) := by
  have hlen : (s.take k).length = k := by rw [List.length_take]; omega
  rw [loopO_count (fun t => ((numV ((s.take k).drop (k - t)) : Int), (k : Int) - 1 - (t : Int))) k (r := Ctl.go (numV (s.take k) : Int)) ?h0]
  case h0 => rw [show k - 0 = k by omega, List.drop_of_length_le (by omega)]; simp [numV]
  · intro t ht
    have hi : (k : Int) - 1 - (t : Int) = ((k - 1 - t : Nat) : Int) := by omega
    have hd : (s.take k).drop (k - (t + 1)) = s[k - 1 - t] :: (s.take k).drop (k - t) := by
      rw [show k - (t + 1) = k - 1 - t by omega, List.drop_eq_getElem_cons (by omega), List.getElem_take]
      rw [show k - 1 - t + 1 = k - t by omega]
    have hx := (s[k - 1 - t]).toNat_lt
    have hn := numV_lt ((s.take k).drop (k - t))
    have hl : ((s.take k).drop (k - t)).length = t := by rw [List.length_drop, hlen]; omega
    rw [hl] at hn
    have hp : 128 ^ t ≤ 128 ^ 6 := Nat.pow_le_pow_right (by decide) (by omega)
    have hm : Int.tmod (((s[k - 1 - t]).toNat : Nat) : Int) (128 : Int) = (((s[k - 1 - t]).toNat % 128 : Nat) : Int) := by rw [show (128 : Int) = ((128 : Nat) : Int) from rfl, ← Int.ofNat_tmod]
    simp only [hi, sidx_nat s (k - 1 - t) (by omega), Option.bind_some]
    rw [if_pos (by simp only [decide_eq_true_eq]; omega), wrap_ok (n := (((s[k - 1 - t]).toNat : Nat) : Int)) (by omega) (by omega), hm, hd, numV]
    generalize numV ((s.take k).drop (k - t)) = z at hn
    rw [wrap_ok (n := (z : Int) * 128) (by omega) (by omega), wrap_ok (by omega) (by omega), wrap_ok (by omega) (by omega)]
    congr 3
    · omega
    · omega
  · rw [if_neg (by simp only [decide_eq_true_eq]; omega)]
    simp
/-- so many numbers read from a place on -/
def l6V (s : List UInt8) : Nat → Nat → List Int × Int
  | 0, a => ([], (a : Int))
  | n + 1, a => bif decide (s.length < a) then ([], -1) else match readN 7 (s.drop a) with
    | some (x, k) => ((x : Int) :: (l6V s n (a + k)).1, (l6V s n (a + k)).2)
    | none => ([], -1)
def nonceV (kind n : Int) : List UInt8 := bif decide (0 ≤ kind ∧ kind ≤ 255) && decide (0 ≤ n ∧ n ≤ 562949953421311) then [toU8 kind, 0, 0, 0, 0] ++ fixedV n 7 else []
theorem fixedV_len (n : Int) (w : Nat) : (fixedV n w).length ≤ w := by
  unfold fixedV
  cases decide (1 ≤ (w : Int) ∧ (w : Int) ≤ 7) && (decide (0 ≤ n) && decide (n.toNat / 256 ^ (w : Int).toNat = 0))
  · simp
  · rw [cond_true, fixV_len]; simp
theorem fixedV_len7 (n : Int) (h : 0 ≤ n ∧ n ≤ 562949953421311) : (fixedV n 7).length = 7 := by
  unfold fixedV
  have h1 : n.toNat / 256 ^ (7 : Int).toNat = 0 := Nat.div_eq_of_lt (by show n.toNat < 256 ^ 7; omega)
  rw [decide_eq_true h.1, decide_eq_true h1]
  show (fixV n.toNat 7).length = 7
  exact fixV_len _ 7
theorem varN_len : ∀ (f n : Nat), (varN f n).length ≤ f + 1
  | 0, n => Nat.le_refl _
  | f + 1, n => by
    by_cases h : n < 128
    · rw [varN_lt h]; simp
    · rw [varN_ge (by omega), List.length_cons]
      have := varN_len f (n / 128)
      omega
theorem varV_len (n : Int) : (varV n).length ≤ 7 := by
  unfold varV
  cases decide (0 ≤ n ∧ n ≤ 562949953421311)
  · simp
  · exact varN_len 6 _
def mintOk (secret : List UInt8) (t e : Int) : Bool := decide (secret.length = 32) && (decide (1 ≤ t ∧ t ≤ 99) && decide (0 ≤ e ∧ e ≤ 1000000))
theorem mintOk_iff {secret : List UInt8} {t e : Int} (h : mintOk secret t e = true) : secret.length = 32 ∧ (1 ≤ t ∧ t ≤ 99) ∧ 0 ≤ e ∧ e ≤ 1000000 := by
  unfold mintOk at h
  simp only [Bool.and_eq_true, decide_eq_true_eq] at h
  exact h
theorem readN_var {s : List UInt8} {n k : Nat} (h : readN 7 s = some (n, k)) : varV (n : Int) = s.take k ∧ k ≤ s.length ∧ 1 ≤ k ∧ k ≤ 7 := by
  obtain ⟨h1, h2, h3, h4, h5, _⟩ := readN_some 7 s n k h
  have hn := numV_lt (s.take k)
  rw [List.length_take, Nat.min_eq_left h3, ← h4] at hn
  have hp : 128 ^ k ≤ 128 ^ 7 := Nat.pow_le_pow_right (by decide) h2
  refine ⟨?_, h3, h1, h2⟩
  unfold varV
  rw [decide_eq_true (by omega), cond_true, Int.toNat_natCast]
  exact h5
theorem skip_eq (w tenant k t : Int) : (if (!(decide (w = (0 : Int)))) = true then (if (!(decide (w = tenant))) = true then (some true)
  else (if (decide (k = (13 : Int))) = true then (some (!(decide (t = tenant))))
  else (some false)))
  else (if (decide (k = (13 : Int))) = true then (some (!(decide (t = tenant))))
  else (some false))) = some ((!decide (w = 0) && !decide (w = tenant)) || (decide (k = 13) && !decide (t = tenant))) := by
  cases decide (w = 0) <;> cases decide (w = tenant) <;> cases decide (k = 13) <;> cases decide (t = tenant) <;> rfl
theorem iand32 {a b : Nat} (ha : a < 2 ^ 32) (hb : b < 2 ^ 32) : iand .u32 (a : Int) (b : Int) = ((a &&& b : Nat) : Int) := by
  unfold iand
  have h1 : a &&& b ≤ a := Nat.and_le_left
  have e : (BitVec.ofInt IntKind.u32.bits (a : Int) &&& BitVec.ofInt IntKind.u32.bits (b : Int)).toNat = a &&& b := by
    show (BitVec.ofInt 32 (a : Int) &&& BitVec.ofInt 32 (b : Int)).toNat = a &&& b
    rw [BitVec.ofInt_natCast, BitVec.ofInt_natCast, BitVec.toNat_and, BitVec.toNat_ofNat, BitVec.toNat_ofNat, Nat.mod_eq_of_lt (by omega), Nat.mod_eq_of_lt (by omega)]
  rw [e, wrap32]
  omega
/-- a step of the checksum -/
def crcS (c : Nat) : Nat := bif decide (c % 2 = 1) then (c / 2) ^^^ 2197175160 else c / 2
theorem crcS_lt {c : Nat} (h : c < 2 ^ 32) : crcS c < 2 ^ 32 := by
  unfold crcS
  have h2 : c / 2 < 2 ^ 32 := by omega
  cases decide (c % 2 = 1)
  · exact h2
  · exact Nat.xor_lt_two_pow h2 (by decide)
def crcR : Nat → Nat → Nat
  | 0, c => c
  | k + 1, c => crcS (crcR k c)
theorem crcR_lt {c : Nat} (h : c < 2 ^ 32) : ∀ k, crcR k c < 2 ^ 32
  | 0 => h
  | k + 1 => crcS_lt (crcR_lt h k)
def crcN (s : List UInt8) : Nat → Nat
  | 0 => 4294967295
  | k + 1 => match s[k]? with
    | some x => crcR 8 (crcN s k ^^^ x.toNat)
    | none => crcN s k
theorem crcN_succ (s : List UInt8) (k : Nat) (h : k < s.length) : crcN s (k + 1) = crcR 8 (crcN s k ^^^ s[k].toNat) := by
  show (match s[k]? with | some x => _ | none => _) = _
  rw [List.getElem?_eq_getElem h]
theorem byte_lt (x : UInt8) : x.toNat < 2 ^ 32 := by have := x.toNat_lt; omega
theorem crcN_lt (s : List UInt8) : ∀ k, k ≤ s.length → crcN s k < 2 ^ 32
  | 0, _ => by show 4294967295 < 2 ^ 32; decide
  | k + 1, h => by rw [crcN_succ s k (by omega)]; exact crcR_lt (Nat.xor_lt_two_pow (crcN_lt s k (by omega)) (byte_lt _)) 8
def crcV (s : List UInt8) : Int := 4294967295 - (crcN s s.length : Int)
theorem crcV_range (s : List UInt8) : 0 ≤ crcV s ∧ crcV s ≤ 4294967295 := by
  have := crcN_lt s s.length (Nat.le_refl _)
  unfold crcV
  omega
/-- an edit as required -/
def numV1 (n : Int) : Bool := decide (0 ≤ n ∧ n ≤ 1000000)
theorem passes {ρ α : Type} (l : List α) (p : α → Bool) (body : Int → Option (Ctl Int (Ctl Unit Bool))) (h : ∀ k (hk : k < l.length), body (k : Int) = some (if p l[k] = true then .go ((k : Int) + 1) else .done (.done false))) (hn : body (l.length : Int) = some (.done (.go ()))) :
    loopO body 0 = some (if l.all p = true then .go () else .done false) := by
  rw [loopO_is (fun k s => s = (k : Int) ∧ l.all p = (l.drop k).all p) l.length (if l.all p = true then Ctl.go () else Ctl.done false) ?h0 ?h1 ?h2]
  case h0 => exact ⟨rfl, rfl⟩
  · rintro k s hk ⟨rfl, he⟩
    rw [h k hk, he, List.drop_eq_getElem_cons hk, List.all_cons]
    cases p l[k] with
    | false => right; rfl
    | true => left; exact ⟨(k : Int) + 1, rfl, by omega, by simp⟩
  · rintro s ⟨rfl, he⟩
    rw [he, List.drop_length, hn]
    rfl
theorem lens_eq (a b : Nat) : (if (decide ((a : Int) > (12 : Int))) = true then (some true) else (some (decide ((b : Int) > (12 : Int))))) = some (!(decide (a ≤ 12) && decide (b ≤ 12))) := by
  by_cases h : a ≤ 12
  · rw [decide_eq_true h, decide_eq_false (by omega : ¬ (a : Int) > 12)]
    by_cases h2 : b ≤ 12
    · rw [decide_eq_true h2, decide_eq_false (by omega : ¬ (b : Int) > 12)]; rfl
    · rw [decide_eq_false h2, decide_eq_true (by omega : (b : Int) > 12)]; rfl
  · rw [decide_eq_false h, decide_eq_true (by omega : (a : Int) > 12)]; rfl
/-- a string behind its length -/
def pieceV (s : List UInt8) : List UInt8 := varV (s.length : Int) ++ s
theorem pieceV_len (s : List UInt8) : (pieceV s).length ≤ 7 + s.length := by
  have := varV_len (s.length : Int)
  unfold pieceV
  rw [List.length_append]; omega
theorem flat_len {α : Type} (g : α → List UInt8) (m : Nat) : ∀ (l : List α), (∀ x ∈ l, (g x).length ≤ m) → (l.flatMap g).length ≤ m * l.length
  | [], _ => by simp
  | x :: l, h => by
    have h1 := h x (by simp)
    have h2 := flat_len g m l fun y hy => h y (by simp [hy])
    rw [List.flatMap_cons, List.length_append, List.length_cons, Nat.mul_succ]
    omega
theorem flat_take {α : Type} (g : α → List UInt8) (l : List α) (k : Nat) (h : k < l.length) : (l.take (k + 1)).flatMap g = (l.take k).flatMap g ++ g l[k] := by
  rw [List.take_add_one, List.getElem?_eq_getElem h, List.flatMap_append]
  simp
theorem flat_take_len {α : Type} (g : α → List UInt8) (m : Nat) (l : List α) (k : Nat) (h : ∀ x ∈ l, (g x).length ≤ m) : ((l.take k).flatMap g).length ≤ m * l.length := by
  have h1 := flat_len g m (l.take k) fun x hx => h x (List.mem_of_mem_take hx)
  have h2 : m * (l.take k).length ≤ m * l.length := Nat.mul_le_mul_left _ (by simp; omega)
  omega
theorem varN_ne (f n : Nat) : varN f n ≠ [] := by
  by_cases h : n < 128
  · rw [varN_lt h]; simp
  · cases f with
    | zero => simp [varN]
    | succ f => rw [varN_ge (by omega)]; simp
theorem varV_ne {n : Int} (h : 0 ≤ n ∧ n ≤ 562949953421311) : varV n ≠ [] := by
  unfold varV
  rw [decide_eq_true h]
  exact varN_ne 6 _
theorem readN_enc : ∀ (f n : Nat) (rest : List UInt8), n < 128 ^ (f + 1) → readN (f + 1) (varN f n ++ rest) = some (n, (varN f n).length)
  | 0, n, rest, h => by
    have hn : n < 128 := by simpa using h
    rw [varN_lt hn]
    show readN 1 (toU8 (n : Int) :: rest) = _
    rw [readN, toU8_toNat, Nat.mod_eq_of_lt (by omega), decide_eq_true hn]
    rfl
  | f + 1, n, rest, h => by
    by_cases hn : n < 128
    · rw [varN_lt hn]
      show readN (f + 2) (toU8 (n : Int) :: rest) = _
      rw [readN, toU8_toNat, Nat.mod_eq_of_lt (by omega), decide_eq_true hn]
      rfl
    · have h2 : n / 128 < 128 ^ (f + 1) := by
        rw [Nat.div_lt_iff_lt_mul (by decide)]; rw [Nat.pow_succ] at h; exact h
      rw [varN_ge (by omega), List.cons_append, readN, toU8_toNat, Nat.mod_eq_of_lt (by omega), decide_eq_false (by omega), readN_enc f (n / 128) rest h2]
      simp only [cond_false]
      rw [decide_eq_false (by omega)]
      simp only [cond_false, List.length_cons]
      congr 2
      omega
theorem readV_enc (n : Int) (h : 0 ≤ n ∧ n ≤ 562949953421311) (rest : List UInt8) : readN 7 (varV n ++ rest) = some (n.toNat, (varV n).length) := by
  unfold varV
  rw [decide_eq_true h]
  exact readN_enc 6 n.toNat rest (by show n.toNat < 562949953421312; omega)
theorem readN_range {s : List UInt8} {n k : Nat} (h : readN 7 s = some (n, k)) : n < 562949953421312 ∧ 1 ≤ k ∧ k ≤ s.length := by
  obtain ⟨h1, h2, h3, h4, _, _⟩ := readN_some 7 s n k h
  have hn := numV_lt (s.take k)
  rw [List.length_take, Nat.min_eq_left h3, ← h4] at hn
  have hp : 128 ^ k ≤ 128 ^ 7 := Nat.pow_le_pow_right (by decide) h2
  exact ⟨Nat.lt_of_lt_of_le hn hp, h1, h3⟩
/-- a number read on -/
def rdN (t : List UInt8) (a : Nat) (bad : Bool) : Int × Nat × Bool := bif bad then (0, a, true) else match readN 7 (t.drop a) with
  | none => (0, a, true)
  | some (x, k) => ((x : Int), a + k, false)
theorem rdN_range (t : List UInt8) (a : Nat) (bad : Bool) (h : a ≤ t.length) : (0 ≤ (rdN t a bad).1 ∧ (rdN t a bad).1 ≤ 562949953421311) ∧ (rdN t a bad).2.1 ≤ t.length ∧ ((rdN t a bad).2.2 = false → bad = false ∧ a < (rdN t a bad).2.1) := by
  unfold rdN
  cases bad with
  | true => exact ⟨⟨by simp, by simp⟩, h, fun e => by cases e⟩
  | false =>
    simp only [cond_false]
    cases hr : readN 7 (t.drop a) with
    | none => exact ⟨⟨by simp, by simp⟩, h, fun e => by cases e⟩
    | some p =>
      obtain ⟨x, k⟩ := p
      obtain ⟨h1, h2, h3⟩ := readN_range hr
      rw [List.length_drop] at h3
      refine ⟨⟨by simp, by simp only; omega⟩, by simp only; omega, fun _ => ?_⟩
      exact ⟨trivial, show a < a + k by omega⟩
/-- bytes read on -/
def rdB (t : List UInt8) (a : Nat) (bad : Bool) (n : Int) : List UInt8 × Nat × Bool := bif bad || decide (t.length < a + n.toNat) then ([], a, true) else ((t.drop a).take n.toNat, a + n.toNat, false)
theorem rdB_range (t : List UInt8) (a : Nat) (bad : Bool) (n : Int) (h : a ≤ t.length) : (rdB t a bad n).2.1 ≤ t.length ∧ a ≤ (rdB t a bad n).2.1 ∧ ((rdB t a bad n).2.2 = false → bad = false) := by
  unfold rdB
  cases bad with
  | true => exact ⟨h, Nat.le_refl _, fun e => by cases e⟩
  | false =>
    by_cases c : t.length < a + n.toNat
    · rw [decide_eq_true c]; exact ⟨h, Nat.le_refl _, fun e => by cases e⟩
    · rw [decide_eq_false c]; exact ⟨by simp only [Bool.or_self, cond_false]; omega, by simp, fun _ => rfl⟩
def rdS (t : List UInt8) (a : Nat) (bad : Bool) : List UInt8 × Nat × Bool := rdB t (rdN t a bad).2.1 (rdN t a bad).2.2 (rdN t a bad).1
theorem rdS_range (t : List UInt8) (a : Nat) (bad : Bool) (h : a ≤ t.length) : (rdS t a bad).2.1 ≤ t.length ∧ ((rdS t a bad).2.2 = false → bad = false ∧ a < (rdS t a bad).2.1) := by
  obtain ⟨h1, h2, h3⟩ := rdN_range t a bad h
  obtain ⟨h4, h5, h6⟩ := rdB_range t (rdN t a bad).2.1 (rdN t a bad).2.2 (rdN t a bad).1 h2
  unfold rdS
  refine ⟨h4, fun e => ?_⟩
  obtain ⟨h7, h8⟩ := h3 (h6 e)
  exact ⟨h7, by omega⟩
/-- items read on, as many as are said, up to one that is bad -/
def itemsI {α : Type} (g : Nat → α × Nat × Bool) : Nat → Nat → Bool → Int → List α → Nat × Bool × List α
  | 0, a, bad, _, out => (a, bad, out)
  | f + 1, a, bad, n, out => bif decide (n > 0) && !bad then itemsI g f (g a).2.1 (g a).2.2 (n - 1) (out ++ [(g a).1]) else (a, bad, out)
theorem items_loop {α ρ : Type} (t : List UInt8) (g : Nat → α × Nat × Bool) (body : List UInt8 × Int × Bool × Int × List α → Option (Ctl (List UInt8 × Int × Bool × Int × List α) (Ctl (List UInt8 × Int × Bool × List α) ρ)))
    (hg : ∀ a, a ≤ t.length → (g a).2.1 ≤ t.length ∧ ((g a).2.2 = false → a < (g a).2.1))
    (h1 : ∀ (a : Nat) (n : Int) (out : List α), a ≤ t.length → 0 < n → n ≤ 562949953421311 → out.length ≤ 4194304 → body (t, (a : Int), false, n, out) = some (.go (t, ((g a).2.1 : Int), (g a).2.2, n - 1, out ++ [(g a).1])))
    (h2 : ∀ (a : Nat) (bad : Bool) (n : Int) (out : List α), n ≤ 0 ∨ bad = true → body (t, (a : Int), bad, n, out) = some (.done (.go (t, (a : Int), bad, out)))) :
    ∀ (f a : Nat) (bad : Bool) (n : Int) (out : List α), a ≤ t.length → n ≤ 562949953421311 → (bad = true ∨ t.length - a + 1 ≤ f) → out.length + f ≤ 4194304 →
      loopO body (t, (a : Int), bad, n, out) = some (.go (t, ((itemsI g (f + 1) a bad n out).1 : Int), (itemsI g (f + 1) a bad n out).2.1, (itemsI g (f + 1) a bad n out).2.2)) := by
  intro f
  induction f with
  | zero =>
    intro a bad n out ha hn hf ho
    obtain rfl : bad = true := by rcases hf with h | h; exact h; omega
    rw [loopO_eq, h2 a true n out (.inr rfl)]
    simp [itemsI]
  | succ f ih =>
    intro a bad n out ha hn hf ho
    rw [loopO_eq]
    by_cases c : 0 < n ∧ bad = false
    · obtain ⟨c1, rfl⟩ := c
      obtain ⟨g1, g2⟩ := hg a ha
      rw [h1 a n out ha c1 hn (by omega)]
      simp only
      rw [itemsI, decide_eq_true (by omega : n > 0)]
      simp only [Bool.not_false, Bool.and_self, cond_true]
      refine ih _ _ _ _ g1 (by omega) ?_ (by simp; omega)
      cases hb : (g a).2.2 with
      | true => exact .inl rfl
      | false =>
        have := g2 hb
        rcases hf with h | h
        · cases h
        · right; omega
    · have c2 : n ≤ 0 ∨ bad = true := by
        cases bad with
        | true => exact .inr rfl
        | false => left; have : ¬ 0 < n := fun h => c ⟨h, rfl⟩; omega
      rw [h2 a bad n out c2, itemsI]
      have : (decide (n > 0) && !bad) = false := by
        rcases c2 with h | h
        · rw [decide_eq_false (by omega)]; rfl
        · rw [h]; simp
      rw [this]
      rfl
theorem itemsI_out {α : Type} (g : Nat → α × Nat × Bool) (t : List UInt8) (hg : ∀ a, a ≤ t.length → (g a).2.1 ≤ t.length ∧ ((g a).2.2 = false → a < (g a).2.1)) : ∀ (f a : Nat) (bad : Bool) (n : Int) (out : List α), a ≤ t.length → (itemsI g f a bad n out).1 ≤ t.length
  | 0, a, bad, n, out, h => h
  | f + 1, a, bad, n, out, h => by
    rw [itemsI]
    cases decide (n > 0) && !bad
    · exact h
    · exact itemsI_out g t hg f _ _ _ _ (hg a h).1
theorem rdN_enc {t rest : List UInt8} {a : Nat} {n : Int} (h : t.drop a = varV n ++ rest) (hn : 0 ≤ n ∧ n ≤ 562949953421311) : rdN t a false = (n, a + (varV n).length, false) := by
  unfold rdN
  rw [h, readV_enc n hn rest]
  simp only [cond_false]
  rw [show ((n.toNat : Nat) : Int) = n by omega]
theorem fixed4_len (n : Int) (h : 0 ≤ n ∧ n ≤ 4294967295) : (fixedV n 4).length = 4 := by
  unfold fixedV
  have h1 : n.toNat / 256 ^ (4 : Int).toNat = 0 := Nat.div_eq_of_lt (by show n.toNat < 256 ^ 4; omega)
  rw [decide_eq_true h.1, decide_eq_true h1]
  show (fixV n.toNat 4).length = 4
  exact fixV_len _ 4
/-- what the program reads -/
noncomputable def readD (t : List UInt8) : Nat × Bool × List Int := itemsI (fun a => rdN t a false) (t.length + 2) (rdN t 0 false).2.1 (rdN t 0 false).2.2 (rdN t 0 false).1 []
theorem l6V_range (s : List UInt8) : ∀ (n a : Nat), a ≤ s.length → ((l6V s n a).2 = -1 ∨ ∃ b : Nat, (l6V s n a).2 = (b : Int) ∧ b ≤ s.length ∧ (l6V s n a).1.length = n) ∧ ∀ x ∈ (l6V s n a).1, 0 ≤ x ∧ x ≤ 562949953421311
  | 0, a, h => ⟨.inr ⟨a, rfl, h, rfl⟩, fun x hx => by cases hx⟩
  | n + 1, a, h => by
    rw [l6V, decide_eq_false (by omega), cond_false]
    cases hr : readN 7 (s.drop a) with
    | none => exact ⟨.inl rfl, fun x hx => by cases hx⟩
    | some p =>
      obtain ⟨x, k⟩ := p
      obtain ⟨h1, h2, h3⟩ := readN_range hr
      rw [List.length_drop] at h3
      obtain ⟨q1, q2⟩ := l6V_range s n (a + k) (by omega)
      simp only
      refine ⟨?_, fun y hy => ?_⟩
      · rcases q1 with q | ⟨b, q3, q4, q5⟩
        · exact .inl q
        · exact .inr ⟨b, q3, q4, by rw [List.length_cons, q5]⟩
      · rcases List.mem_cons.1 hy with rfl | hy
        · omega
        · exact q2 y hy
/-- bytes behind their number -/
def takeB (s : List UInt8) (a : Nat) : List UInt8 × Int := match readN 7 (s.drop a) with
  | none => ([], -1)
  | some (x, k) => bif decide (x ≤ s.length - (a + k)) then ((s.drop (a + k)).take x, ((a + k + x : Nat) : Int)) else ([], -1)
theorem takeB_range (s : List UInt8) (a : Nat) (h : a ≤ s.length) : (takeB s a).2 = -1 ∨ ∃ b : Nat, (takeB s a).2 = (b : Int) ∧ b ≤ s.length := by
  unfold takeB
  cases hr : readN 7 (s.drop a) with
  | none => exact .inl rfl
  | some p =>
    obtain ⟨x, k⟩ := p
    obtain ⟨h1, h2, h3⟩ := readN_range hr
    rw [List.length_drop] at h3
    simp only
    by_cases c : x ≤ s.length - (a + k)
    · rw [decide_eq_true c]; exact .inr ⟨a + k + x, rfl, by omega⟩
    · rw [decide_eq_false c]; exact .inl rfl
/-! draws -/
theorem iand255 (p : Int) : 0 ≤ iand .i64 p (255 : Int) ∧ iand .i64 p (255 : Int) ≤ 255 := by
  unfold iand
  have e : (BitVec.ofInt IntKind.i64.bits p &&& BitVec.ofInt IntKind.i64.bits (255 : Int)).toNat ≤ 255 := by
    show (BitVec.ofInt 64 p &&& BitVec.ofInt 64 ((255 : Nat) : Int)).toNat ≤ 255
    rw [BitVec.ofInt_natCast, BitVec.toNat_and, BitVec.toNat_ofNat]
    exact Nat.and_le_right
  generalize (BitVec.ofInt IntKind.i64.bits p &&& BitVec.ofInt IntKind.i64.bits (255 : Int)).toNat = z at e
  rw [wrap_ok (by omega) (by omega)]
  omega
theorem l1New_ok (code : List UInt8) (h : code.length ≤ 1048576) : ∃ q, spec_l1New code = some { b := code, i := 0, h := q } := by
  unfold spec_l1New
  obtain ⟨r, hr, q, rfl⟩ := loopO_total (ρ := Ctl Int L1Cur) (s0 := (IntKind.i64.wrap ((10101 : Int) + ((code.length : Nat) : Int)), (0 : Int))) (body := fun (S1 : Int × Int) => (if (decide (S1.2 < ((code.length : Nat) : Int))) = true then (some (decide (S1.2 < (4000 : Int))))
  else (some false)).bind (fun (T5 : Bool) =>
  if T5 = true then ((idx code S1.2).bind fun E9 =>
  some (.go (iand .i64 (IntKind.i64.wrap (IntKind.i64.wrap (IntKind.i64.wrap (S1.1 * (131 : Int)) + (IntKind.i64.wrap ((E9.toNat : Nat) : Int))) + (7 : Int))) (1073741823 : Int), IntKind.i64.wrap (S1.2 + (1 : Int)))))
  else (some (.done (.go S1.1))))) (fun k S => S.2 = (k : Int)) code.length (fun r => ∃ q, r = .go q) rfl (by
    rintro k ⟨p, i⟩ hk rfl
    simp only
    rw [decide_eq_true (by omega : (k : Int) < ((code.length : Nat) : Int))]
    by_cases c : (k : Int) < 4000
    · left
      rw [decide_eq_true c]
      simp only [if_true, Option.bind_some, idx_nat code k hk]
      exact ⟨_, rfl, by simp only; rw [wrap_ok (by omega) (by omega)]; omega⟩
    · right
      rw [decide_eq_false c]
      exact ⟨.go p, rfl, p, rfl⟩) (by
    rintro ⟨p, i⟩ rfl
    simp only
    rw [decide_eq_false (by omega : ¬ ((code.length : Nat) : Int) < ((code.length : Nat) : Int))]
    exact ⟨.go p, rfl, p, rfl⟩)
  rw [hr]
  exact ⟨q, rfl⟩
theorem l1Byte_ok (b : List UInt8) (i h : Int) (hi : 0 ≤ i ∧ i ≤ b.length) (hb : b.length ≤ 1048576) : ∃ x i' h', spec_l1Byte { b := b, i := i, h := h } = some (x, { b := b, i := i', h := h' }) ∧ (0 ≤ x ∧ x ≤ 255) ∧ (0 ≤ i' ∧ i' ≤ b.length) := by
  unfold spec_l1Byte
  simp only
  by_cases c : i < ((b.length : Nat) : Int)
  · rw [decide_eq_true c]
    simp only [if_true]
    rw [idx_some' hi.1 c]
    simp only [Option.bind_some, bindC_go]
    exact ⟨_, _, _, rfl, iand255 _, by rw [wrap_ok (by omega) (by omega)]; omega⟩
  · rw [decide_eq_false c]
    simp only [Bool.false_eq_true, if_false, bindC_go]
    exact ⟨_, _, _, rfl, iand255 _, hi⟩
theorem l1Below_ok (b : List UInt8) (i h n : Int) (hi : 0 ≤ i ∧ i ≤ b.length) (hb : b.length ≤ 1048576) : ∃ x i' h', spec_l1Below { b := b, i := i, h := h } n = some (x, { b := b, i := i', h := h' }) ∧ (0 ≤ x ∧ (0 < n → x < n) ∧ (n ≤ 0 → x = 0)) ∧ (0 ≤ i' ∧ i' ≤ b.length) := by
  unfold spec_l1Below
  by_cases c : n ≤ 0
  · rw [decide_eq_true c]
    simp only [if_true]
    exact ⟨_, _, _, rfl, ⟨Int.le_refl _, fun h => by omega, fun _ => rfl⟩, hi⟩
  · rw [decide_eq_false c]
    have hnz : nz n = some () := by unfold nz; rw [if_neg (by omega)]
    have hm : ∀ x : Int, 0 ≤ x → 0 ≤ Int.tmod x n ∧ Int.tmod x n < n := fun x hx => ⟨Int.tmod_nonneg _ hx, Int.tmod_lt_of_pos _ (by omega)⟩
    obtain ⟨x1, i1, h1, e1, g1, k1⟩ := l1Byte_ok b i h hi hb
    simp only [Bool.false_eq_true, if_false, e1, Option.bind_some, hnz]
    by_cases c2 : n ≤ 256
    · rw [decide_eq_true c2]
      simp only [if_true]
      have := hm x1 g1.1
      exact ⟨_, _, _, rfl, ⟨this.1, fun _ => this.2, fun h => by omega⟩, k1⟩
    · rw [decide_eq_false c2]
      simp only [Bool.false_eq_true, if_false]
      obtain ⟨x2, i2, h2, e2, g2, k2⟩ := l1Byte_ok b i1 h1 k1 hb
      simp only [e2, Option.bind_some]
      obtain ⟨x3, i3, h3, e3, g3, k3⟩ := l1Byte_ok b i2 h2 k2 hb
      simp only [e3, Option.bind_some]
      obtain ⟨x4, i4, h4, e4, g4, k4⟩ := l1Byte_ok b i3 h3 k3 hb
      simp only [e4, Option.bind_some]
      rw [wrap_ok (n := x1 * 16777216) (by omega) (by omega), wrap_ok (n := x2 * 65536) (by omega) (by omega), wrap_ok (n := x1 * 16777216 + x2 * 65536) (by omega) (by omega), wrap_ok (n := x3 * 256) (by omega) (by omega), wrap_ok (n := x1 * 16777216 + x2 * 65536 + x3 * 256) (by omega) (by omega), wrap_ok (by omega) (by omega)]
      have := hm (x1 * 16777216 + x2 * 65536 + x3 * 256 + x4) (by omega)
      exact ⟨_, _, _, rfl, ⟨this.1, fun _ => this.2, fun h => by omega⟩, k4⟩
theorem l1Once_ok (b : List UInt8) (i h n : Int) (hi : 0 ≤ i ∧ i ≤ b.length) (hb : b.length ≤ 1048576) : ∃ x i' h', spec_l1Once { b := b, i := i, h := h } n = some (x, { b := b, i := i', h := h' }) ∧ (0 ≤ i' ∧ i' ≤ b.length) := by
  unfold spec_l1Once
  obtain ⟨x, i1, h1, e, _, k⟩ := l1Below_ok b i h n hi hb
  simp only [e, Option.bind_some]
  exact ⟨_, _, _, rfl, k⟩
theorem l1PickInt_ok (b : List UInt8) (i h : Int) (l : List Int) (hl : l ≠ []) (hi : 0 ≤ i ∧ i ≤ b.length) (hb : b.length ≤ 1048576) : ∃ x i' h', spec_l1PickInt { b := b, i := i, h := h } l = some (x, { b := b, i := i', h := h' }) ∧ x ∈ l ∧ (0 ≤ i' ∧ i' ≤ b.length) := by
  unfold spec_l1PickInt
  have hp := List.length_pos_iff.2 hl
  obtain ⟨x, i1, h1, e, g, k⟩ := l1Below_ok b i h ((l.length : Nat) : Int) hi hb
  simp only [e, Option.bind_some]
  rw [idx_some' g.1 (g.2.1 (by omega))]
  simp only [Option.bind_some]
  exact ⟨_, _, _, rfl, List.getElem_mem _, k⟩
theorem big_eq (code : List UInt8) : laws_big code = some (decide (((code.length : Nat) : Int) > 1048576)) := rfl

theorem xor_ne (p q : UInt8) (h : q ≠ 0) : p ^^^ q ≠ p := by
  intro e
  apply h
  have := congrArg (fun z => p ^^^ z) e
  simp only [← UInt8.xor_assoc, UInt8.xor_self, UInt8.zero_xor] at this
  exact this
def okS (l : List Int) : Bool := decide (1 ≤ l.length ∧ l.length ≤ 40) && l.all fun x => decide (0 ≤ x ∧ x ≤ 99)
theorem okS_iff {l : List Int} : okS l = true ↔ (1 ≤ l.length ∧ l.length ≤ 40) ∧ ∀ x ∈ l, 0 ≤ x ∧ x ≤ 99 := by
  unfold okS
  simp only [Bool.and_eq_true, decide_eq_true_eq, List.all_eq_true]
theorem setAll_cons (who : Int) (l : List Int) (i : Nat) (g : List Nat) : setAll who l (i :: g) = setAll who (l.set i who) g := rfl
theorem setAll_set (who v : Int) (i : Nat) : ∀ (g : List Nat) (l : List Int), i ∉ g → (setAll who l g).set i v = setAll who (l.set i v) g
  | [], _, _ => rfl
  | j :: g, l, h => by
    have hij : i ≠ j := fun e => h (by rw [e]; simp)
    rw [setAll_cons, setAll_cons, setAll_set who v i g _ (fun e => h (by simp [e])), List.set_comm _ _ (Ne.symm hij)]
theorem setAll_out (who : Int) (i : Nat) : ∀ (g : List Nat) (l : List Int), i ∉ g → (setAll who l g)[i]? = l[i]?
  | [], _, _ => rfl
  | j :: g, l, h => by
    have hij : j ≠ i := fun e => h (by rw [e]; simp)
    rw [setAll_cons, setAll_out who i g _ (fun e => h (by simp [e])), List.getElem?_set_ne hij]
theorem setAll_in (who : Int) (i : Nat) : ∀ (g : List Nat) (l : List Int), i ∈ g → i < l.length → (setAll who l g)[i]? = some who
  | j :: g, l, h, hi => by
    rw [setAll_cons]
    by_cases hg : i ∈ g
    · exact setAll_in who i g _ hg (by rw [List.length_set]; exact hi)
    · have hij : i = j := by
        rcases List.mem_cons.1 h with h | h
        · exact h
        · exact absurd h hg
      subst hij
      rw [setAll_out who i g _ hg, List.getElem?_set_self hi]
theorem give_back (who : Int) (hw : 1 ≤ who) : ∀ (g : List Nat) (l : List Int), g.Nodup → (∀ i ∈ g, l[i]? = some 0) → giveV who (g.map fun (i : Nat) => (i : Int)) (setAll who l g) = some l
  | [], l, _, _ => rfl
  | i :: g, l, hn, h0 => by
    obtain ⟨hi, hg⟩ := List.nodup_cons.1 hn
    have h1 := h0 i (by simp)
    obtain ⟨hlt, hv⟩ := List.getElem?_eq_some_iff.1 h1
    rw [List.map_cons, giveV_cons, setAll_cons]
    have hat : (setAll who (l.set i who) g)[i]? = some who := by rw [setAll_out who i g _ hi, List.getElem?_set_self hlt]
    rw [Int.toNat_natCast, if_pos ⟨by omega, by rw [setAll_length, List.length_set]; omega, hat, hw⟩, setAll_set who 0 i g _ hi, List.set_set]
    have hset : l.set i 0 = l := by
      apply List.ext_getElem?
      intro j
      by_cases e : i = j
      · subst e; rw [List.getElem?_set_self hlt, h1]
      · rw [List.getElem?_set_ne e]
    rw [hset]
    exact give_back who hw g l hg fun j hj => h0 j (by simp [hj])
theorem count_set (who : Int) (hw : 1 ≤ who) (l : List Int) (i : Nat) (h : l[i]? = some 0) : (l.set i who).countP (fun x => decide (x = who)) = l.countP (fun x => decide (x = who)) + 1 := by
  induction l generalizing i with
  | nil => simp at h
  | cons x l ih =>
    cases i with
    | zero =>
      simp only [List.getElem?_cons_zero, Option.some.injEq] at h
      subst h
      rw [List.set_cons_zero, List.countP_cons, List.countP_cons]
      have : ¬ (0 : Int) = who := by omega
      simp [this]
    | succ i =>
      rw [List.set_cons_succ, List.countP_cons, List.countP_cons, ih i (by simpa using h)]
      omega
theorem count_setAll (who : Int) (hw : 1 ≤ who) : ∀ (g : List Nat) (l : List Int), g.Nodup → (∀ i ∈ g, l[i]? = some 0) → (setAll who l g).countP (fun x => decide (x = who)) = l.countP (fun x => decide (x = who)) + g.length
  | [], l, _, _ => rfl
  | i :: g, l, hn, h0 => by
    obtain ⟨hi, hg⟩ := List.nodup_cons.1 hn
    have h1 := h0 i (by simp)
    rw [setAll_cons, count_setAll who hw g _ hg, count_set who hw l i h1, List.length_cons]
    · omega
    · intro j hj
      have hij : i ≠ j := fun e => hi (by rw [e]; exact hj)
      rw [List.getElem?_set_ne hij]
      exact h0 j (by simp [hj])
theorem freeIx_zero (l : List Int) (n : Int) : ∀ k, ∀ i ∈ freeIx l n k, l[i]? = some 0
  | 0, i, h => by simp [freeIx] at h
  | k + 1, i, h => by
    unfold freeIx at h
    split at h
    · rename_i hc
      rcases List.mem_append.1 h with h | h
      · exact freeIx_zero l n k i h
      · have : i = k := by simpa using h
        rw [this]; exact hc.1
    · exact freeIx_zero l n k i h
theorem freeIx_nodup (l : List Int) (n : Int) : ∀ k, (freeIx l n k).Nodup
  | 0 => List.nodup_nil
  | k + 1 => by
    unfold freeIx
    split
    · refine List.nodup_append.2 ⟨freeIx_nodup l n k, by simp, fun x hx y hy e => ?_⟩
      have h1 := freeIx_lt l n k x hx
      have : y = k := by simpa using hy
      omega
    · exact freeIx_nodup l n k
theorem freeIx_le (l : List Int) (n : Int) (hn : 0 ≤ n) : ∀ k, ((freeIx l n k).length : Int) ≤ n
  | 0 => by simpa [freeIx] using hn
  | k + 1 => by
    have := freeIx_le l n hn k
    unfold freeIx
    split
    · rename_i hc
      rw [List.length_append, List.length_singleton]
      omega
    · exact this
theorem okS_setAll {l : List Int} {who : Int} {g : List Nat} (h : okS l = true) (hw : 1 ≤ who ∧ who ≤ 99) : okS (setAll who l g) = true := by
  obtain ⟨h1, h2⟩ := okS_iff.1 h
  rw [okS_iff, setAll_length]
  refine ⟨h1, ?_⟩
  have key : ∀ (g : List Nat) (l : List Int), (∀ x ∈ l, 0 ≤ x ∧ x ≤ 99) → ∀ x ∈ setAll who l g, 0 ≤ x ∧ x ≤ 99 := by
    intro g
    induction g with
    | nil => intro l h x hx; exact h x hx
    | cons i g ih =>
      intro l h x hx
      rw [setAll_cons] at hx
      refine ih _ (fun y hy => ?_) x hx
      rcases List.mem_or_eq_of_mem_set hy with hy | hy
      · exact h y hy
      · omega
  exact key g l h2
theorem okS_wipe {l : List Int} {who : Int} (h : okS l = true) : okS (wipeV who l) = true := by
  obtain ⟨h1, h2⟩ := okS_iff.1 h
  rw [okS_iff]
  unfold wipeV
  rw [List.length_map]
  refine ⟨h1, fun x hx => ?_⟩
  obtain ⟨y, hy, rfl⟩ := List.mem_map.1 hx
  split
  · omega
  · exact h2 y hy
/-! draws of files and edits -/
theorem bindC_ite {τ R : Type} (c : Prop) [Decidable c] (x y : τ) (k : τ → Option R) : bindC (if c then some (.go x) else some (.go y)) k = k (if c then x else y) := by
  split <;> rfl
theorem loopO_G {τ ρ R : Type} {body : τ → Option (Ctl τ (Ctl ρ R))} {s0 : τ} {f : ρ → Option R} (G : Option R → Prop) (I : Nat → τ → Prop) (n : Nat) (Q : Ctl ρ R → Prop) (h0 : I 0 s0)
    (h : ∀ k s, k < n → I k s → (∃ s', body s = some (.go s') ∧ I (k + 1) s') ∨ (∃ r, body s = some (.done r) ∧ Q r)) (hn : ∀ s, I n s → ∃ r, body s = some (.done r) ∧ Q r)
    (hk : ∀ r, Q r → G (bindC (some r) f)) : G (bindC (loopO body s0) f) := by
  obtain ⟨r, hr, hq⟩ := loopO_total I n Q h0 h hn
  rw [hr]
  exact hk r hq
/-! reservations: what fits -/
noncomputable def leftV (s : Shares) : Int := if sharesV s = true then goMax (s.Size - (4 + (s.List.map fun x => needV x.Quota).sum)) 0 else 0
theorem impl_ShareLeft_eq (s : Shares) (h : s.List.length ≤ 1048576) : impl_ShareLeft s = some (leftV s) := by
  unfold impl_ShareLeft leftV
  rw [impl_SharesOk_spec s h, spec_SharesOk_eq s h]
  cases hv : sharesV s with
  | false => rfl
  | true =>
    have hb : spec_SharesOk s = some true := by rw [spec_SharesOk_eq s h, hv]
    obtain ⟨h1, h2, h3⟩ := SharesOk_true s h hb
    have h5 := shares_sum s.List h
    have hw2 : IntKind.i64.wrap (s.Size - (4 + (s.List.map fun x => needV x.Quota).sum)) = s.Size - (4 + (s.List.map fun x => needV x.Quota).sum) := wrap_ok (by omega) (by omega)
    rw [impl_needOf_eq s h]
    simp only [Option.bind_some, Bool.not_true, Bool.false_eq_true, if_false, hw2, if_true]
theorem sharesV_iff (s : Shares) : sharesV s = true ↔ (0 ≤ s.Size ∧ s.Size ≤ 1000) ∧ s.List.length ≤ 4 ∧ (∀ x ∈ s.List, (1 ≤ x.Tenant ∧ x.Tenant ≤ 99) ∧ (0 ≤ x.Quota ∧ x.Quota ≤ 1000)) ∧ s.List.Pairwise (fun a b => a.Tenant < b.Tenant) ∧ allNeed s ≤ s.Size := by
  constructor
  · intro hv
    have hl := shares_lt hv
    unfold sharesV at hv
    simp only [Bool.and_eq_true, List.all_eq_true, decide_eq_true_eq] at hv
    refine ⟨hv.1, hv.2.1, fun x hx => ?_, ?_, hv.2.2.2⟩
    · obtain ⟨k, hk, rfl⟩ := List.getElem_of_mem hx
      have := hv.2.2.1 k (by simpa using hk)
      rw [shareP_at s.List k hk] at this
      simp only [Bool.and_eq_true, decide_eq_true_eq] at this
      exact ⟨this.1, this.2.1⟩
    · rw [List.pairwise_iff_getElem]
      intro i j hi hj hij
      exact hl j hj i hij
  · rintro ⟨h1, h2, h3, h4, h5⟩
    rw [List.pairwise_iff_getElem] at h4
    unfold sharesV
    rw [decide_eq_true h1, decide_eq_true h2, decide_eq_true h5]
    simp only [Bool.true_and, Bool.and_true, List.all_eq_true]
    intro k hk
    have hk' : k < s.List.length := by simpa using hk
    obtain ⟨g1, g2⟩ := h3 _ (List.getElem_mem hk')
    rw [shareP_at s.List k hk', decide_eq_true g1, decide_eq_true g2]
    simp only [Bool.true_and]
    by_cases h0 : 0 < k
    · rw [dif_pos h0]
      exact decide_eq_true (h4 (k - 1) k (by omega) hk' (by omega))
    · rw [dif_neg h0]
theorem ShareSet_form (s : Shares) (t q : Int) (hv : sharesV s = true) (h : s.List.length ≤ 1048576) : ∃ L M R : List Share, s.List = L ++ (M ++ R) ∧ (∀ y ∈ L, y.Tenant < t) ∧ (∀ y ∈ R, t < y.Tenant) ∧ (M = [] ∨ ∃ m : Share, M = [m] ∧ m.Tenant = t) ∧
    spec_ShareSet s t q = some (if sharesV { Size := s.Size, List := L ++ ({ Tenant := t, Quota := q } :: R) } = true then ({ Size := s.Size, List := L ++ ({ Tenant := t, Quota := q } :: R) }, true) else (s, false)) := by
  have hs4 := ((sharesV_iff s).1 hv).2.1
  obtain ⟨j, hj, h1, h2, h3⟩ := shareAt_cases s t hv h
  have hL : ∀ y ∈ s.List.take j, y.Tenant < t := by
    intro y hy
    obtain ⟨i, hi, rfl⟩ := List.getElem_of_mem hy
    rw [List.getElem_take]
    have : i < j := by simp at hi; omega
    exact h1 i (by omega) this
  have hR : ∀ D, (∀ i (hi : i < s.List.length), D ≤ i → t < s.List[i].Tenant) → ∀ y ∈ s.List.drop D, t < y.Tenant := by
    intro D hD y hy
    obtain ⟨i, hi, rfl⟩ := List.getElem_of_mem hy
    rw [List.getElem_drop]
    have : D + i < s.List.length := by simp at hi; omega
    exact hD _ this (by omega)
  rcases h3 with ⟨hjl, h4, h5⟩ | ⟨h4, h5⟩
  · have hD : ∀ i (hi : i < s.List.length), j + 1 ≤ i → t < s.List[i].Tenant := fun i hi hji => h2 i hi (by omega)
    exact ⟨s.List.take j, [s.List[j]], s.List.drop (j + 1), by rw [List.singleton_append, ← List.drop_eq_getElem_cons hjl, List.take_append_drop], hL, hR _ hD, .inr ⟨_, rfl, h5⟩, spec_ShareSet_at s t q j (j + 1) hv hs4 hj (.inr rfl) (by omega) h1 hD (fun _ _ => h5)⟩
  · exact ⟨s.List.take j, [], s.List.drop j, by rw [List.nil_append, List.take_append_drop], hL, hR _ h5, .inl rfl, spec_ShareSet_at s t q j j hv hs4 hj (.inl rfl) hj h1 h5 (fun e => by omega)⟩
theorem spec_ShareSet_bad (s : Shares) (t q : Int) (hv : sharesV s = false) (h : s.List.length ≤ 1048576) : spec_ShareSet s t q = some ({ Size := 0, List := [] }, false) := by
  unfold spec_ShareSet
  rw [spec_SharesOk_eq s h, hv]
  rfl
theorem ShareSet_ok (s : Shares) (t q : Int) (h : s.List.length ≤ 1048576) : ∃ r, spec_ShareSet s t q = some r ∧ (r.2 = true → r.1.List.length ≤ 4) := by
  cases hv : sharesV s with
  | false => exact ⟨_, spec_ShareSet_bad s t q hv h, fun h => by cases h⟩
  | true =>
    obtain ⟨L, M, R, _, _, _, _, e⟩ := ShareSet_form s t q hv h
    refine ⟨_, e, ?_⟩
    split
    · rename_i h2; exact fun _ => ((sharesV_iff _).1 h2).2.1
    · intro h; cases h
/-- the reservation of a tenant, and whether there is one -/
def oldV (t : Int) (l : List Share) (a : Int × Bool) : Int × Bool := l.foldl (fun a x => if x.Tenant = t then (needV x.Quota, true) else a) a
theorem oldV_none (t : Int) : ∀ (l : List Share) (a : Int × Bool), (∀ y ∈ l, y.Tenant ≠ t) → oldV t l a = a
  | [], _, _ => rfl
  | x :: l, a, h => by
    show oldV t l (if x.Tenant = t then (needV x.Quota, true) else a) = a
    rw [if_neg (h x (by simp))]
    exact oldV_none t l a fun y hy => h y (by simp [hy])
theorem oldV_append (t : Int) (l k : List Share) (a : Int × Bool) : oldV t (l ++ k) a = oldV t k (oldV t l a) := List.foldl_append
theorem old_loop {ρ : Type} (l : List Share) (t : Int) (h : l.length ≤ 1048576) : loopO (ρ := Ctl (Int × Bool) ρ) (fun (S28 : Int × Bool × Int) => if (decide (S28.2.2 < ((l.length : Nat) : Int))) = true then ((idx l S28.2.2).bind fun E33 =>
    bindC (if (decide (E33.Tenant = t)) = true then ((spec_Need E33.Quota).bind fun R38 =>
    some (.go (R38, true)))
    else (some (.go (S28.1, S28.2.1))))
    (fun (T35 : Int × Bool) => some (.go (T35.1, T35.2, IntKind.i64.wrap (S28.2.2 + (1 : Int))))))
    else (some (.done (.go (S28.1, S28.2.1))))) ((0 : Int), false, (0 : Int)) = some (.go (oldV t l (0, false))) := by
  refine loopO_is (fun k S => S = ((oldV t (l.take k) (0, false)).1, (oldV t (l.take k) (0, false)).2, (k : Int))) l.length _ rfl ?_ ?_
  · rintro k _ hk rfl
    left
    have e : oldV t (l.take (k + 1)) (0, false) = if l[k].Tenant = t then (needV l[k].Quota, true) else oldV t (l.take k) (0, false) := by
      rw [List.take_add_one, List.getElem?_eq_getElem hk, Option.toList_some, oldV_append]
      rfl
    simp only [idx_nat l k hk, Option.bind_some, spec_Need_eq]
    rw [if_pos (by simpa using hk), wrap_ok (n := (k : Int) + 1) (by omega) (by omega), e]
    by_cases c : l[k].Tenant = t
    · rw [decide_eq_true c, if_pos c]; exact ⟨_, rfl, rfl⟩
    · rw [decide_eq_false c, if_neg c]; exact ⟨_, rfl, rfl⟩
  · rintro _ rfl
    simp only [List.take_length]
    rw [if_neg (by simp)]
theorem there_loop {ρ : Type} (l : List Share) (e : Share) (b0 : Bool) (h : l.length ≤ 1048576) : ∃ b, loopO (ρ := Ctl Bool ρ) (fun (S72 : Bool × Int) => if (decide (S72.2 < ((l.length : Nat) : Int))) = true then ((if S72.1 = true then (some true)
    else ((idx l S72.2).bind fun E80 =>
    some (decide (E80.Tenant = e.Tenant) && (decide (E80.Quota = e.Quota) && true)))).bind (fun (T77 : Bool) =>
    some (.go (T77, IntKind.i64.wrap (S72.2 + (1 : Int))))))
    else (some (.done (.go S72.1)))) (b0, (0 : Int)) = some (.go b) ∧ (b0 = true ∨ e ∈ l → b = true) := by
  obtain ⟨r, hr, b, rfl, hb⟩ := loopO_total (ρ := Ctl Bool ρ) (s0 := (b0, (0 : Int))) (body := fun (S72 : Bool × Int) => if (decide (S72.2 < ((l.length : Nat) : Int))) = true then ((if S72.1 = true then (some true)
    else ((idx l S72.2).bind fun E80 =>
    some (decide (E80.Tenant = e.Tenant) && (decide (E80.Quota = e.Quota) && true)))).bind (fun (T77 : Bool) =>
    some (.go (T77, IntKind.i64.wrap (S72.2 + (1 : Int))))))
    else (some (.done (.go S72.1)))) (fun k S => S.2 = (k : Int) ∧ (b0 = true ∨ (∃ i, ∃ hi : i < l.length, i < k ∧ l[i] = e) → S.1 = true)) l.length (fun r => ∃ b, r = .go b ∧ (b0 = true ∨ e ∈ l → b = true)) ⟨rfl, by
      rintro (h | ⟨i, hi, h, _⟩)
      · exact h
      · omega⟩ (by
    rintro k ⟨b, c⟩ hk ⟨h1, h2⟩
    simp only at h1 h2
    subst h1
    left
    simp only [idx_nat l k hk, Option.bind_some]
    rw [if_pos (by simpa using hk), wrap_ok (n := (k : Int) + 1) (by omega) (by omega)]
    cases b with
    | true => exact ⟨_, rfl, by simp, fun _ => rfl⟩
    | false =>
      refine ⟨_, rfl, by simp, ?_⟩
      rintro (h3 | ⟨i, hi, h3, h4⟩)
      · exact absurd (h2 (.inl h3)) (by simp)
      · by_cases c : i = k
        · subst c; simp [h4]
        · exact absurd (h2 (.inr ⟨i, hi, by omega, h4⟩)) (by simp)) (by
    rintro ⟨b, c⟩ ⟨h1, h2⟩
    simp only at h1 h2
    subst h1
    refine ⟨.go b, by simp, b, rfl, ?_⟩
    rintro (h3 | h3)
    · exact h2 (.inl h3)
    · obtain ⟨i, hi, h4⟩ := List.getElem_of_mem h3
      exact h2 (.inr ⟨i, hi, hi, h4⟩))
  exact ⟨b, hr, hb⟩
theorem l19Some_ok (b : List UInt8) (i h : Int) (hi : 0 ≤ i ∧ i ≤ b.length) (hb : b.length ≤ 1048576) : ∃ s i' h', spec_l19Some { b := b, i := i, h := h } = some (s, { b := b, i := i', h := h' }) ∧ s.List.length ≤ 5 ∧ (0 ≤ i' ∧ i' ≤ b.length) := by
  unfold spec_l19Some
  obtain ⟨x1, i1, h1, e1, g1, k1⟩ := l1PickInt_ok b i h [0, 3, 20, 40, 1000] (by simp) hi hb
  simp only [e1, Option.bind_some]
  obtain ⟨x2, i2, h2, e2, g2, k2⟩ := l1Below_ok b i1 h1 6 k1 hb
  have hx2 := g2.2.1 (by omega)
  simp only [e2, Option.bind_some]
  refine loopO_G (τ := Int × Int × Int × Int × List Share) (ρ := Int × Int × Int × List Share) (R := Shares × L1Cur) (G := fun o => ∃ s i' h', o = some (s, { b := b, i := i', h := h' }) ∧ s.List.length ≤ 5 ∧ (0 ≤ i' ∧ i' ≤ b.length)) (I := fun k S => (0 ≤ S.1 ∧ S.1 ≤ b.length) ∧ S.2.2.2.1 = x2 - (k : Int) ∧ S.2.2.2.2.length ≤ 4) x2.toNat (Q := fun r => ∃ p q z a, r = .go (p, q, z, a) ∧ (0 ≤ p ∧ p ≤ b.length) ∧ a.length ≤ 4) ⟨k2, by simp, by simp⟩ ?_ ?_ ?_
  · rintro k ⟨p, q, z, c, d⟩ hk ⟨b1, b2, b3⟩
    simp only at b1 b2 b3
    subst b2
    left
    obtain ⟨x3, i3, h3, e3, g3, k3⟩ := l1Below_ok b p q 6 b1 hb
    obtain ⟨x4, i4, h4, e4, g4, k4⟩ := l1PickInt_ok b i3 h3 [0, 1, 49, 50, 51, 200] (by simp) k3 hb
    obtain ⟨r, hr, hr2⟩ := ShareSet_ok { Size := z, List := d } (IntKind.i64.wrap ((1 : Int) + x3)) x4 (by simp only; omega)
    simp only [e3, e4, hr, Option.bind_some]
    rw [if_pos (by simp only [decide_eq_true_eq]; omega), wrap_ok (n := x2 - (k : Int) - 1) (by omega) (by omega)]
    cases hc : r.2 with
    | true => exact ⟨_, rfl, k4, by simp only; omega, hr2 hc⟩
    | false => exact ⟨_, rfl, k4, by simp only; omega, b3⟩
  · rintro ⟨p, q, z, c, d⟩ ⟨b1, b2, b3⟩
    simp only at b1 b2 b3
    exact ⟨_, by simp only; rw [if_neg (by simp only [decide_eq_true_eq]; omega)], p, q, z, d, rfl, b1, b3⟩
  rintro _ ⟨p, q, z, d, rfl, b1, b3⟩
  obtain ⟨x5, i5, h5, e5, k5⟩ := l1Once_ok b p q 10 b1 hb
  simp only [bindC_go, e5, Option.bind_some]
  cases x5 with
  | false =>
    simp only [Bool.false_eq_true, if_false, bindC_go]
    exact ⟨_, _, _, rfl, by simp only; omega, k5⟩
  | true =>
    obtain ⟨x6, i6, h6, e6, g6, k6⟩ := l1Below_ok b i5 h5 3 k5 hb
    simp only [if_true, e6, Option.bind_some]
    by_cases c0 : x6 = 0
    · rw [decide_eq_true c0]
      obtain ⟨x7, i7, h7, e7, g7, k7⟩ := l1PickInt_ok b i6 h6 [-1, 1001, 7] (by simp) k6 hb
      simp only [if_true, e7, Option.bind_some, bindC_go]
      exact ⟨_, _, _, rfl, by simp only; omega, k7⟩
    · rw [decide_eq_false c0]
      simp only [Bool.false_eq_true, if_false]
      by_cases c1 : x6 = 1
      · rw [decide_eq_true c1]
        obtain ⟨x7, i7, h7, e7, g7, k7⟩ := l1Below_ok b i6 h6 9 k6 hb
        simp only [if_true, e7, Option.bind_some]
        rw [app_ok (by simp; omega) (by simp; omega)]
        simp only [Option.bind_some, bindC_go]
        exact ⟨_, _, _, rfl, by simp; omega, k7⟩
      · rw [decide_eq_false c1]
        simp only [Bool.false_eq_true, if_false]
        by_cases c2 : ((d.length : Nat) : Int) > 0
        · rw [decide_eq_true c2]
          obtain ⟨x7, i7, h7, e7, g7, k7⟩ := l1PickInt_ok b i6 h6 [-1, 1000, 1001] (by simp) k6 hb
          simp only [if_true, e7, Option.bind_some]
          rw [idx_some' (by omega) (by omega)]
          simp only [Option.bind_some, bindC_go]
          exact ⟨_, _, _, rfl, by simp; omega, k7⟩
        · rw [decide_eq_false c2]
          simp only [Bool.false_eq_true, if_false, bindC_go]
          exact ⟨_, _, _, rfl, by simp only; omega, k6⟩
theorem DrawShareSet_ok (code : List UInt8) (hb : code.length ≤ 1048576) : ∃ s t q, spec_DrawShareSet code = some (s, t, q) ∧ s.List.length ≤ 5 := by
  unfold spec_DrawShareSet
  obtain ⟨q, hq⟩ := l1New_ok code hb
  obtain ⟨s, i1, h1, e1, g1, k1⟩ := l19Some_ok code 0 q (by omega) hb
  obtain ⟨x2, i2, h2, e2, g2, k2⟩ := l1PickInt_ok code i1 h1 [1, 2, 3, 9, 0, 100] (by simp) k1 hb
  obtain ⟨x3, i3, h3, e3, g3, k3⟩ := l1PickInt_ok code i2 h2 [0, 50, 51, 300, 1000, 1001, -1] (by simp) k2 hb
  simp only [hq, Option.bind_some, e1, e2, e3]
  exact ⟨_, _, _, rfl, g1⟩
theorem DrawShareDrop_ok (code : List UInt8) (hb : code.length ≤ 1048576) : ∃ s t, spec_DrawShareDrop code = some (s, t) ∧ s.List.length ≤ 5 := by
  unfold spec_DrawShareDrop
  obtain ⟨q, hq⟩ := l1New_ok code hb
  obtain ⟨s, i1, h1, e1, g1, k1⟩ := l19Some_ok code 0 q (by omega) hb
  obtain ⟨x2, i2, h2, e2, g2, k2⟩ := l1Below_ok code i1 h1 6 k1 hb
  simp only [hq, Option.bind_some, e1, e2]
  exact ⟨_, _, rfl, g1⟩
theorem need_filter (p : Share → Bool) : ∀ l : List Share, ((l.filter p).map fun x => needV x.Quota).sum ≤ (l.map fun x => needV x.Quota).sum
  | [] => by simp
  | x :: l => by
    have h1 := need_filter p l
    have h2 := needV_range x.Quota
    rw [List.filter_cons]
    split
    · simp only [List.map_cons, List.sum_cons]; omega
    · simp only [List.map_cons, List.sum_cons]; omega
theorem drop_left (s : Shares) (t : Int) (hv : sharesV s = true) : leftV s ≤ leftV { s with List := dropT s.List t } := by
  obtain ⟨h1, h2, h3, h4, h5⟩ := (sharesV_iff s).1 hv
  have hs := need_filter (fun x => !decide (x.Tenant = t)) s.List
  have hl : (dropT s.List t).length ≤ s.List.length := List.length_filter_le _ _
  have hv2 : sharesV { s with List := dropT s.List t } = true := by
    rw [sharesV_iff]
    refine ⟨h1, by simp only; omega, fun x hx => h3 x (List.mem_filter.1 hx).1, h4.filter _, ?_⟩
    unfold allNeed at h5 ⊢
    simp only
    unfold dropT at hl ⊢
    split
    · rw [if_pos (by omega)] at h5; omega
    · split at h5 <;> omega
  unfold leftV
  rw [if_pos hv, if_pos hv2]
  unfold goMax dropT at *
  simp only
  split <;> split <;> omega
/-- what fits is right, and what is right fits -/
theorem set_fits (s : Shares) (t q : Int) (L M R : List Share) (hv : sharesV s = true) (hs : s.List = L ++ (M ++ R)) (hL : ∀ y ∈ L, y.Tenant < t) (hR : ∀ y ∈ R, t < y.Tenant) (hM : M = [] ∨ ∃ m : Share, M = [m] ∧ m.Tenant = t) :
    sharesV { Size := s.Size, List := L ++ ({ Tenant := t, Quota := q } :: R) } = true ↔ ((needV q ≤ leftV s + (oldV t s.List (0, false)).1 ∧ (0 < s.List.length ∨ 4 ≤ s.Size)) ∧ (1 ≤ t ∧ t ≤ 99) ∧ (0 ≤ q ∧ q ≤ 1000) ∧ ((oldV t s.List (0, false)).2 = true ∨ s.List.length < 4)) := by
  obtain ⟨h1, h2, h3, h4, h5⟩ := (sharesV_iff s).1 hv
  have ho : oldV t s.List (0, false) = oldV t M (0, false) := by
    rw [hs, oldV_append, oldV_append, oldV_none t L _ (fun y hy => by have := hL y hy; omega), oldV_none t R _ (fun y hy => by have := hR y hy; omega)]
  rw [ho, sharesV_iff]
  have hlen : s.List.length = L.length + (M.length + R.length) := by rw [hs]; simp
  have hsum : (s.List.map fun x => needV x.Quota).sum = (L.map fun x => needV x.Quota).sum + ((M.map fun x => needV x.Quota).sum + (R.map fun x => needV x.Quota).sum) := by rw [hs]; simp
  have hxs : allNeed { Size := s.Size, List := L ++ ({ Tenant := t, Quota := q } :: R) } = (L.map fun x => needV x.Quota).sum + (needV q + (R.map fun x => needV x.Quota).sum) + 4 := by
    unfold allNeed
    rw [if_pos (by simp only [List.length_append, List.length_cons]; omega)]
    simp
  have hxl : (L ++ ({ Tenant := t, Quota := q } :: R) : List Share).length = L.length + (R.length + 1) := by simp
  have b1 := shares_sum L (by omega)
  have b2 := shares_sum R (by omega)
  have b3 := shares_sum M (by omega)
  have hq := needV_range q
  rw [hs] at h4
  have hp : ∀ x ∈ L ++ ({ Tenant := t, Quota := q } :: R), x = { Tenant := t, Quota := q } ∨ x ∈ s.List := by
    intro x hx
    rw [hs]
    simp only [List.mem_append, List.mem_cons] at hx ⊢
    rcases hx with h | h | h
    · exact .inr (.inl h)
    · exact .inl h
    · exact .inr (.inr (.inr h))
  have hpw : (L ++ ({ Tenant := t, Quota := q } :: R)).Pairwise (fun a b => a.Tenant < b.Tenant) := by
    rw [List.pairwise_append] at h4 ⊢
    obtain ⟨p1, p2, p3⟩ := h4
    rw [List.pairwise_append] at p2
    refine ⟨p1, List.pairwise_cons.2 ⟨hR, p2.2.1⟩, fun a ha b hb => ?_⟩
    rcases List.mem_cons.1 hb with rfl | hb
    · exact hL a ha
    · exact p3 a ha b (by simp [hb])
  have hall : allNeed s = (s.List.map fun x => needV x.Quota).sum + if s.List.length > 0 then 4 else 0 := rfl
  have hleft : leftV s = goMax (s.Size - (4 + (s.List.map fun x => needV x.Quota).sum)) 0 := by unfold leftV; rw [if_pos hv]
  have hold : (oldV t M (0, false)).1 = (M.map fun x => needV x.Quota).sum ∧ ((oldV t M (0, false)).2 = true ↔ M ≠ []) ∧ M.length ≤ 1 ∧ 0 ≤ (M.map fun x => needV x.Quota).sum := by
    rcases hM with rfl | ⟨m, rfl, hm⟩
    · simp [oldV]
    · have := needV_range m.Quota
      simp [oldV, hm]; omega
  obtain ⟨o1, o2, o3, o4⟩ := hold
  have o5 : M ≠ [] ↔ M.length = 1 := by
    rw [← List.length_pos_iff]; omega
  rw [o5] at o2
  rw [hxs, o1, o2, hleft]
  simp only [hxl]
  unfold goMax
  constructor
  · rintro ⟨c1, c2, c3, c4, c5⟩
    have := c3 { Tenant := t, Quota := q } (by simp)
    refine ⟨⟨?_, ?_⟩, this.1, this.2, ?_⟩
    · split <;> omega
    · omega
    · omega
  · rintro ⟨⟨c1, c2⟩, c3, c4, c5⟩
    refine ⟨h1, by omega, fun x hx => ?_, hpw, ?_⟩
    · rcases hp x hx with rfl | h
      · exact ⟨c3, c4⟩
      · exact h3 x h
    · rw [hall] at h5
      split at h5 <;> split at c1 <;> omega
theorem refuse_ok {p1 p2 : Prop} [Decidable p1] [Decidable p2] {b : Bool} (h : b = true ↔ (p1 ∧ p2)) : (if decide p1 = true then some (!decide (b = decide p2)) else some (!decide (b = false))) = some false := by
  by_cases c1 : p1 <;> by_cases c2 : p2 <;> cases b <;> simp_all
theorem FnShares_pure (code : List UInt8) : laws_FnShares code = some true := by
  unfold laws_FnShares
  rw [big_eq]
  simp only [Option.bind_some]
  by_cases hc : ((code.length : Nat) : Int) > 1048576
  · rw [decide_eq_true hc]; rfl
  rw [decide_eq_false hc]
  have hb : code.length ≤ 1048576 := by omega
  obtain ⟨s, t, q, es, hl⟩ := DrawShareSet_ok code hb
  obtain ⟨r, er, ei, _⟩ := ShareSet_both s t q (by omega)
  obtain ⟨d, n, ed, hd⟩ := DrawShareDrop_ok code hb
  have hend : ((spec_DrawShareDrop code).bind fun R83 =>
      (impl_ShareDrop R83.1 R83.2).bind fun R87 =>
      (spec_ShareDrop R83.1 R83.2).bind fun R91 =>
      (if (decide (R87.2 = R91.2)) = true then (if (!R87.2) = true then ((impl_Need q).bind fun R99 =>
      (spec_Need q).bind fun R102 =>
      some (decide (R99 = R102)))
      else ((impl_ShareLeft R87.1).bind fun R105 =>
      (impl_ShareLeft R83.1).bind fun R108 =>
      if (decide (R105 ≥ R108)) = true then ((impl_Need q).bind fun R112 =>
      (spec_Need q).bind fun R115 =>
      some (decide (R112 = R115)))
      else (some false)))
      else (some false)).bind (fun (T95 : Bool) =>
      some T95)) = some true := by
    simp only [ed, Option.bind_some, spec_ShareDrop_eq d n (by omega), impl_ShareDrop_eq d n (by omega), decide_true, if_true, impl_Need_eq, spec_Need_eq]
    have hdl : (shareDropR d n).1.List.length ≤ 1048576 := by
      unfold shareDropR
      have : (dropT d.List n).length ≤ d.List.length := List.length_filter_le _ _
      split
      · split
        · simp only; omega
        · simp only; omega
      · simp
    have hge : (shareDropR d n).2 = true → leftV d ≤ leftV (shareDropR d n).1 := by
      unfold shareDropR
      intro h
      by_cases hv : sharesV d = true
      · rw [if_pos hv] at h ⊢
        split at h
        · cases h
        · rename_i c; rw [if_neg c]; exact drop_left d n hv
      · rw [if_neg hv] at h; cases h
    rw [impl_ShareLeft_eq _ hdl, impl_ShareLeft_eq d (by omega)]
    cases hx : (shareDropR d n).2 with
    | false => rfl
    | true =>
      have := hge hx
      simp only [Bool.not_true, Bool.false_eq_true, if_false, Option.bind_some]
      rw [decide_eq_true (by omega)]
      rfl
  simp only [Bool.false_eq_true, if_false, es, Option.bind_some, er, ei, decide_true, Bool.not_true, spec_SharesOk_eq s (by omega), hend]
  cases hv : sharesV s with
  | false =>
    rw [spec_ShareSet_bad s t q hv (by omega)] at er
    cases er
    simp only [Bool.not_false, if_true, impl_ShareLeft_eq s (by omega), Option.bind_some]
    have : leftV s = 0 := by unfold leftV; rw [hv]; rfl
    rw [this]
    rfl
  | true =>
    obtain ⟨L, M, R, hs, hL, hR, hM, e⟩ := ShareSet_form s t q hv (by omega)
    have hf := set_fits s t q L M R hv hs hL hR hM
    rw [er] at e
    simp only [Bool.not_true, Bool.false_eq_true, if_false, old_loop s.List t (by omega), bindC_go, impl_Need_eq, impl_ShareLeft_eq s (by omega), Option.bind_some]
    have hlr : 0 ≤ leftV s ∧ leftV s ≤ 1000 := by
      have h1 := (sharesV_iff s).1 hv
      have h5 := shares_sum s.List (by omega)
      unfold leftV goMax
      rw [if_pos hv]
      split <;> omega
    have hor : 0 ≤ (oldV t s.List (0, false)).1 ∧ (oldV t s.List (0, false)).1 ≤ 42 := by
      have : ∀ (l : List Share) (a : Int × Bool), (0 ≤ a.1 ∧ a.1 ≤ 42) → 0 ≤ (oldV t l a).1 ∧ (oldV t l a).1 ≤ 42 := by
        intro l
        induction l with
        | nil => exact fun a h => h
        | cons x l ih =>
          intro a h
          exact ih (if x.Tenant = t then (needV x.Quota, true) else a) (by
            split
            · exact needV_range _
            · exact h)
      exact this _ _ (by simp)
    rw [wrap_ok (n := leftV s + (oldV t s.List (0, false)).1) (by omega) (by omega)]
    generalize oldV t s.List (0, false) = o at hf hor
    have hr2 : r.2 = true ↔ sharesV { Size := s.Size, List := L ++ ({ Tenant := t, Quota := q } :: R) } = true := by
      simp only [Option.some.injEq] at e
      rw [e]
      split
      · rename_i h; simp [h]
      · rename_i h; simp [h]
    rw [hf] at hr2
    have hT : (if (decide (needV q ≤ leftV s + o.1)) = true then (if (decide (((s.List.length : Nat) : Int) > (0 : Int))) = true then (some true)
        else (some (decide (s.Size ≥ (4 : Int))))) else (some false)) = some (decide (needV q ≤ leftV s + o.1 ∧ (0 < s.List.length ∨ 4 ≤ s.Size))) := by
      by_cases c1 : needV q ≤ leftV s + o.1 <;> by_cases c2 : 0 < s.List.length <;> simp [c1, c2] <;> omega
    have hT2 : (if (decide (t ≥ (1 : Int))) = true then (if (decide (t ≤ (99 : Int))) = true then (if (decide (q ≥ (0 : Int))) = true then (if (decide (q ≤ (1000 : Int))) = true then (if o.2 = true then (some true)
        else (some (decide (((s.List.length : Nat) : Int) < (4 : Int))))) else (some false)) else (some false)) else (some false)) else (some false)) = some (decide ((1 ≤ t ∧ t ≤ 99) ∧ (0 ≤ q ∧ q ≤ 1000) ∧ (o.2 = true ∨ s.List.length < 4))) := by
      by_cases c1 : 1 ≤ t <;> by_cases c2 : t ≤ 99 <;> by_cases c3 : 0 ≤ q <;> by_cases c4 : q ≤ 1000 <;> cases o.2 <;> simp [c1, c2, c3, c4] <;> omega
    rw [hT, hT2]
    simp only [Option.bind_some]
    have hT3 : (if decide (needV q ≤ leftV s + o.1 ∧ (0 < s.List.length ∨ 4 ≤ s.Size)) = true then (some (!(decide (r.2 = decide ((1 ≤ t ∧ t ≤ 99) ∧ (0 ≤ q ∧ q ≤ 1000) ∧ (o.2 = true ∨ s.List.length < 4))))))
        else (some (!(decide (r.2 = false))))) = some false := by
      exact refuse_ok hr2
    rw [hT3]
    simp only [Option.bind_some, Bool.false_eq_true, if_false]
    have hfin : ∀ e ∈ s.List, r.2 = true → decide (e.Tenant = t) = true ∨ e ∈ r.1.List := by
      intro e2 he hr
      simp only [Option.some.injEq] at e
      rw [hr2.2 (hr2.1 hr) |> fun _ => if_pos (hf.2 (hr2.1 hr))] at e
      rw [e]
      rw [hs] at he
      simp only [List.mem_append, List.mem_cons] at he ⊢
      rcases he with h | h | h
      · exact .inr (.inl h)
      · rcases hM with rfl | ⟨m, rfl, hm⟩
        · cases h
        · rw [List.mem_singleton.1 h]; exact .inl (decide_eq_true hm)
      · exact .inr (.inr (.inr h))
    have hrl : r.1.List.length ≤ 1048576 := by assumption
    rw [loopO_is (ρ := Ctl Unit Bool) (s0 := (0 : Int)) (fun k S => S = (k : Int)) s.List.length (.go ()) rfl ?_ ?_]
    · rfl
    · rintro k _ hk rfl
      rw [decide_eq_true (by omega : (k : Int) < ((s.List.length : Nat) : Int))]
      simp only [if_true, Option.bind_some, idx_nat s.List k hk]
      cases hx : r.2 with
      | false => right; rfl
      | true =>
        left
        obtain ⟨b, hb1, hb2⟩ := there_loop (ρ := Ctl Int (Ctl Unit Bool)) r.1.List s.List[k] (decide (s.List[k].Tenant = t)) hrl
        simp only [if_true]
        rw [hb1, hb2 (hfin _ (List.getElem_mem hk) hx)]
        exact ⟨_, rfl, by rw [wrap_ok (by omega) (by omega)]; rfl⟩
    · rintro _ rfl
      rw [decide_eq_false (by omega : ¬ ((s.List.length : Nat) : Int) < ((s.List.length : Nat) : Int))]
      rfl
theorem FnShares_proved : Rows.FnSharesSaid := FnShares_over fun code _ => FnShares_pure code

end Go.Proofs.Ytahennbogdbnmaa
